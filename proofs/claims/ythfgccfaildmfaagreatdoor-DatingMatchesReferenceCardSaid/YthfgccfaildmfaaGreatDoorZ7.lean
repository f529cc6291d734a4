/-
 Texts of this proof, put together: F, Os, Oq, Ot, Ow, Ov, Ox, OF, OG, Or, LawDatingMatchesReference.
 No conditions.
-/
import Derived.Test.YthfgccfaildmfaaGreatDoorZ5
import Derived.Test.YthfgccfaildmfaaGreatDoorZ4
import Derived.Test.YthfgccfaildmfaaGreatDoorZ6
set_option linter.all false
namespace Go.Proofs.YthfgccfaildmfaaGreatDoor
open Go Go.Abs Go.PE Go.Proofs
open Go.IntKind (wrap)
set_option maxRecDepth 100000
set_option maxHeartbeats 0
noncomputable section
def m106F:(Int×List (Int×Int))→Option (Bool) :=
 fun x=>bif PE.orM (PE.orM (ltM x.1 0) (ltM 8 x.1)) (ltM 28 (lenM x.2)) then some false else ((loopF (fun (s:Int)=>bif ltM s (lenM x.2) then (idxM x.2
 s).bind fun r=>bif PE.orM (PE.orM (ltM (min r.1 r.2) 0) (leM x.1 (max r.1 r.2))) (eqM r.1 r.2) then some (Sum.inr (Sum.inr s)) else some (Sum.inl (wrap
 IntKind.i64 (s+1))) else some (Sum.inr (Sum.inl ()))) 0).bind fun o=>Sum.elim (fun (t:Unit)=>some (-1)) (fun (t:Int)=>some t) o).bind fun (ov :
 Int)=>some (PE.notM (leM 0 ov))
theorem le106 (x):Le (m106F x) (m106 x):=by
 unfold m106F m106
 repeat' first | with_reducible exact Le.refl _ | intro _ | apply Le.bind | apply Le.cond | apply Le.nil | apply Le.loop | apply Le.elim
def m107F:(Int×List (Int×Int))→Option ((Int×Int×Int×Int×Int×Int×Int×Int)×Bool) :=
 fun x=>(loopF (fun (s:Int×List Int)=>bif ltM s.1 (lenM x.2) then (idxM x.2 s.1).bind fun r=>(chkM r.2 ↑(nat_lit 8)).bind fun r_1=>(idxM s.2
 (↑(nat_lit 0)+r.2*↑(nat_lit 1))).bind fun r_2=>(shlM IntKind.i64 1 r.1).bind fun r_3=>(chkM r.2 ↑(nat_lit 8)).bind fun r_4=>(setM s.2 (↑(nat_lit 0)
 + r.2*↑(nat_lit 1)) fun (x:Int)=>some (bitM BinOp.or IntKind.i64 r_2 r_3)).bind fun r=>some (Sum.inl (wrap IntKind.i64 (s.1+1),r)) else some
 (Sum.inr s.2)) (0,[0,0,0,0,0,0,0,0])).bind fun o=>(loopF (fun (s:Int×List Int)=>bif ltM s.1 x.1 then (loopF (fun (s_1:Int×List Int)=>bif
 ltM s_1.1 x.1 then ((chkM s_1.1 ↑(nat_lit 8)).bind fun r=>(idxM s_1.2 (↑(nat_lit 0)+s_1.1*↑(nat_lit 1))).bind fun r_1=>(shrM IntKind.i64 r_1 s.1).bind
 fun r_2=>bif eqM (bitM BinOp.and IntKind.i64 r_2 1) 1 then (chkM s_1.1 ↑(nat_lit 8)).bind fun r_3=>(idxM s_1.2 (↑(nat_lit 0)+s_1.1*↑(nat_lit 1))).bind
 fun r_4=>(chkM s.1 ↑(nat_lit 8)).bind fun r_5=>(idxM s_1.2 (↑(nat_lit 0)+s.1*↑(nat_lit 1))).bind fun r_6=>(chkM s_1.1 ↑(nat_lit 8)).bind fun r_7 =>
 (setM s_1.2 (↑(nat_lit 0)+s_1.1*↑(nat_lit 1)) fun (x:Int)=>some (bitM BinOp.or IntKind.i64 r_4 r_6)).bind fun r=>some r else some s_1.2).bind fun o
 => some (Sum.inl (wrap IntKind.i64 (s_1.1+1),o)) else some (Sum.inr s_1.2)) (0,s.2)).bind fun o=>some (Sum.inl (wrap IntKind.i64 (s.1+1),o)) else
 some (Sum.inr s.2)) (0,o)).bind fun o_1=>(loopF (fun (s:Int)=>bif ltM s x.1 then (chkM s ↑(nat_lit 8)).bind fun r=>(idxM o_1 (↑(nat_lit 0)+s *
 ↑(nat_lit 1))).bind fun r_1=>(shrM IntKind.i64 r_1 s).bind fun r=>bif eqM (bitM BinOp.and IntKind.i64 r 1) 1 then some (Sum.inr (Sum.inr (false,[nthD o_1
 (nat_lit 0) 0,nthD o_1 (nat_lit 1) 0,nthD o_1 (nat_lit 2) 0,nthD o_1 (nat_lit 3) 0,nthD o_1 (nat_lit 4) 0,nthD o_1 (nat_lit 5) 0,nthD o_1 (nat_lit 6) 0,
 nthD o_1 (nat_lit 7) 0]))) else some (Sum.inl (wrap IntKind.i64 (s+1))) else some (Sum.inr (Sum.inl ()))) 0).bind fun o=>Sum.elim (fun (t:Unit)=>some
 ((nthD o_1 (nat_lit 0) 0,nthD o_1 (nat_lit 1) 0,nthD o_1 (nat_lit 2) 0,nthD o_1 (nat_lit 3) 0,nthD o_1 (nat_lit 4) 0,nthD o_1 (nat_lit 5) 0,nthD o_1
 (nat_lit 6) 0,nthD o_1 (nat_lit 7) 0),true)) (fun (t:Bool×List Int)=>some ((nthD t.2 (nat_lit 0) 0,nthD t.2 (nat_lit 1) 0,nthD t.2 (nat_lit 2) 0,
 nthD t.2 (nat_lit 3) 0,nthD t.2 (nat_lit 4) 0,nthD t.2 (nat_lit 5) 0,nthD t.2 (nat_lit 6) 0,nthD t.2 (nat_lit 7) 0),t.1)) o
theorem le107 (x):Le (m107F x) (m107 x):=by
 unfold m107F m107
 repeat' first | with_reducible exact Le.refl _ | intro _ | apply Le.bind | apply Le.cond | apply Le.nil | apply Le.loop | apply Le.elim
def m67F:(Int×List (Int×Int))→Option ((Int×Int×Int×Int×Int×Int×Int×Int)×Bool) :=
 fun x=>(m106F (x.1,x.2)).bind fun r=>bif PE.notM r then some ((0,0,0,0,0,0,0,0),false) else (m107F (x.1,x.2)).bind fun r=>some ((r.1.1,r.1.2.1,
 r.1.2.2.1,r.1.2.2.2.1,r.1.2.2.2.2.1,r.1.2.2.2.2.2.1,r.1.2.2.2.2.2.2.1,r.1.2.2.2.2.2.2.2),r.2)
theorem le67 (x):Le (m67F x) (m67 x):=by
 unfold m67F m67
 repeat' first | with_reducible exact le106 _ | with_reducible exact le107 _ | with_reducible exact Le.refl _ | intro _ | apply Le.bind | apply Le.cond | apply Le.nil | apply Le.loop | apply Le.elim
def m60F:(Int×List (Int×Int))→Option (Bool) :=
 fun x=>(m67F (x.1,x.2)).bind fun r=>some r.2
theorem le60 (x):Le (m60F x) (m60 x):=by
 unfold m60F m60
 repeat' first | with_reducible exact le67 _ | with_reducible exact Le.refl _ | intro _ | apply Le.bind | apply Le.cond | apply Le.nil | apply Le.loop | apply Le.elim
def m20F:((Int×List (Int×Int))×List (Int×Int×Int×Int×Int))→Option (Bool) :=
 fun x=>(m60F (x.1.1,x.1.2)).bind fun r=>(bif PE.andM r (leM (lenM x.2) 14) then ((loopF (fun (s:Int)=>bif ltM s (lenM x.2) then (idxM x.2 s).bind fun
 r_1=>(m59 ((r_1.1,r_1.2.1,r_1.2.2.1,r_1.2.2.2.1,r_1.2.2.2.2),x.1.1)).bind fun r=>bif PE.notM r then some (Sum.inr (Sum.inr s)) else some (Sum.inl
 (wrap IntKind.i64 (s+1))) else some (Sum.inr (Sum.inl ()))) 0).bind fun o=>Sum.elim (fun (t:Unit)=>some (-1)) (fun (t:Int)=>some t) o).bind fun
 (ov:Int)=>some (leM 0 ov) else some false).bind fun (ov:Bool)=>some (PE.andM (PE.andM r (leM (lenM x.2) 14)) (PE.notM ov))
theorem le20 (x):Le (m20F x) (m20 x):=by
 unfold m20F m20
 repeat' first | with_reducible exact le60 _ | with_reducible exact Le.refl _ | intro _ | apply Le.bind | apply Le.cond | apply Le.nil | apply Le.loop | apply Le.elim
def m68F:(Int×Int×Int×Int×Int×Int×Int×Int×Int)→Option (Int×List (Int×Int)) :=
 fun x=>(loopF (fun (s:Int×Int×List (Int×Int))=>bif ltM s.1 x.1 then (loopF (fun (s_1:Int×Int×List (Int×Int))=>bif ltM s_1.1 x.1 then
 ((chkM s_1.1 ↑(nat_lit 8)).bind fun r=>(idxM [x.2.1,x.2.2.1,x.2.2.2.1,x.2.2.2.2.1,x.2.2.2.2.2.1,x.2.2.2.2.2.2.1,x.2.2.2.2.2.2.2.1,x.2.2.2.2.2.2.2.2]
 (↑(nat_lit 0)+s_1.1*↑(nat_lit 1))).bind fun r_1=>(shrM IntKind.i64 r_1 s.1).bind fun r_2=>bif eqM (bitM BinOp.and IntKind.i64 r_2 1) 1 then (appM
 (nat_lit 16) s_1.2.2 [(s.1,s_1.1)]).bind fun r=>some (s_1.2.1,r) else some (s_1.2.1,s_1.2.2)).bind fun o=>some (Sum.inl (wrap IntKind.i64 (s_1.1+1),
 o.1,o.2)) else some (Sum.inr (s_1.2.1,s_1.2.2))) (0,s.2.1,s.2.2)).bind fun o=>some (Sum.inl (wrap IntKind.i64 (s.1+1),o.1,o.2)) else some (Sum.inr
 (s.2.1,s.2.2))) (0,x.1,[])).bind fun o=>some (o.1,o.2)
theorem le68 (x):Le (m68F x) (m68 x):=by
 unfold m68F m68
 repeat' first | with_reducible exact Le.refl _ | intro _ | apply Le.bind | apply Le.cond | apply Le.nil | apply Le.loop | apply Le.elim
def m28F:(Int×List (Int×Int))→Option ((Int×List (Int×Int))×Int) :=
 fun x=>(m67F (x.1,x.2)).bind fun r=>bif PE.notM r.2 then some ((0,[]),150) else (loopF (fun (s:Int×List Int)=>bif ltM s.1 x.1 then (loopF (fun (s_1
 : Int×List Int)=>bif ltM s_1.1 x.1 then ((chkM s.1 ↑(nat_lit 8)).bind fun r_1=>(idxM [r.1.1,r.1.2.1,r.1.2.2.1,r.1.2.2.2.1,r.1.2.2.2.2.1,
 r.1.2.2.2.2.2.1,r.1.2.2.2.2.2.2.1,r.1.2.2.2.2.2.2.2] (↑(nat_lit 0)+s.1*↑(nat_lit 1))).bind fun r_2=>(shrM IntKind.i64 r_2 s_1.1).bind fun r_3=>bif
 eqM (bitM BinOp.and IntKind.i64 r_3 1) 1 then (chkM s.1 ↑(nat_lit 8)).bind fun r_4=>(idxM s_1.2 (↑(nat_lit 0)+s.1*↑(nat_lit 1))).bind fun r_5=>(chkM
 s_1.1 ↑(nat_lit 8)).bind fun r_6=>(idxM [r.1.1,r.1.2.1,r.1.2.2.1,r.1.2.2.2.1,r.1.2.2.2.2.1,r.1.2.2.2.2.2.1,r.1.2.2.2.2.2.2.1,r.1.2.2.2.2.2.2.2]
 (↑(nat_lit 0)+s_1.1*↑(nat_lit 1))).bind fun r_7=>(chkM s.1 ↑(nat_lit 8)).bind fun r_8=>(setM s_1.2 (↑(nat_lit 0)+s.1*↑(nat_lit 1)) fun (x:Int)
 => some (bitM BinOp.andNot IntKind.i64 r_5 r_7)).bind fun r=>some r else some s_1.2).bind fun o=>some (Sum.inl (wrap IntKind.i64 (s_1.1+1),o)) else
 some (Sum.inr s_1.2)) (0,s.2)).bind fun o=>some (Sum.inl (wrap IntKind.i64 (s.1+1),o)) else some (Sum.inr s.2)) (0,[r.1.1,r.1.2.1,r.1.2.2.1,
 r.1.2.2.2.1,r.1.2.2.2.2.1,r.1.2.2.2.2.2.1,r.1.2.2.2.2.2.2.1,r.1.2.2.2.2.2.2.2])).bind fun o=>(m68F (x.1,nthD o (nat_lit 0) 0,nthD o (nat_lit 1) 0,
 nthD o (nat_lit 2) 0,nthD o (nat_lit 3) 0,nthD o (nat_lit 4) 0,nthD o (nat_lit 5) 0,nthD o (nat_lit 6) 0,nthD o (nat_lit 7) 0)).bind fun r=>some ((r.1,
 r.2),0)
theorem le28 (x):Le (m28F x) (m28 x):=by
 unfold m28F m28
 repeat' first | with_reducible exact le67 _ | with_reducible exact le68 _ | with_reducible exact Le.refl _ | intro _ | apply Le.bind | apply Le.cond | apply Le.nil | apply Le.loop | apply Le.elim
def m24F:((Int×List (Int×Int))×List (Int×Int×Int×Int×Int))→Option ((Int×List (Int×Int×Int))×Int) :=
 fun x=>(m20F ((x.1.1,x.1.2),x.2)).bind fun r=>bif PE.notM r then some ((0,[]),220) else ((loopF (fun (s:Int×Int×List (Int×Int×Int))=>bif ltM
 s.1 x.1.1 then (appM (nat_lit 24) s.2.2 [(s.1,x.1.1,0)]).bind fun r_1=>(appM (nat_lit 24) r_1 [(x.1.1,s.1,2100)]).bind fun r=>some (Sum.inl (wrap
 IntKind.i64 (s.1+1),s.2.1,r)) else some (Sum.inr (Sum.inl (s.2.1,s.2.2)))) (0,wrap IntKind.i64 (x.1.1+1),[])).bind fun o=>Sum.elim (fun (t:Int ×
 List (Int×Int×Int))=>(loopF (fun (s:Int×Int×List (Int×Int×Int))=>bif ltM s.1 (lenM x.2) then ((idxM x.2 s.1).bind fun r_1=>bif PE.orM (eqM
 r_1.1 1) (PE.orM (eqM r_1.1 2) (eqM r_1.1 3)) then (bif eqM r_1.1 1 then m138 (r_1.1,r_1.2.1,r_1.2.2.1,r_1.2.2.2.1,r_1.2.2.2.2) else bif eqM r_1.1 2 then
 m139 (r_1.1,r_1.2.1,r_1.2.2.1,r_1.2.2.2.1,r_1.2.2.2.2) else bif eqM r_1.1 3 then m140 (r_1.1,r_1.2.1,r_1.2.2.1,r_1.2.2.2.1,r_1.2.2.2.2) else
 none).bind fun r_2=>(appM (nat_lit 24) s.2.2 [(r_1.2.1,x.1.1,wrap IntKind.i64 (negM r_2.1))]).bind fun r_3=>(appM (nat_lit 24) r_3 [(x.1.1,r_1.2.1,
 r_2.2)]).bind fun r=>some (Sum.inr (s.2.1,r)) else (bif eqM r_1.1 4 then m141 (r_1.1,r_1.2.1,r_1.2.2.1,r_1.2.2.2.1,r_1.2.2.2.2) else bif eqM r_1.1 5
 then m141 (r_1.1,r_1.2.1,r_1.2.2.1,r_1.2.2.2.1,r_1.2.2.2.2) else none).bind fun r_2=>(appM (nat_lit 24) s.2.2 [(r_1.2.1,r_1.2.2.1,r_2.2)]).bind fun
 r_3=>(appM (nat_lit 24) r_3 [(r_1.2.2.1,r_1.2.1,wrap IntKind.i64 (negM r_2.1))]).bind fun r=>some (Sum.inr (s.2.1,r))).bind fun o=>Sum.elim (fun (t :
 Int×List (Int×Int×Int))=>some (Sum.inr (Sum.inr (t.1,t.2)))) (fun (t:Int×List (Int×Int×Int))=>some (Sum.inl (wrap IntKind.i64 (s.1+1),
 t.1,t.2))) o else some (Sum.inr (Sum.inl (s.2.1,s.2.2)))) (0,t.1,t.2)).bind fun o=>Sum.elim (fun (t_1:Int×List (Int×Int×Int))=>(m28F (x.1.1,
 x.1.2)).bind fun r_1=>(loopF (fun (s:Int×Int×List (Int×Int×Int))=>bif ltM s.1 (lenM r_1.1.2) then (idxM r_1.1.2 s.1).bind fun r_2=>(appM
 (nat_lit 24) s.2.2 [(r_2.2,r_2.1,0)]).bind fun r=>some (Sum.inl (wrap IntKind.i64 (s.1+1),s.2.1,r)) else some (Sum.inr (s.2.1,s.2.2))) (0,t_1.1,
 t_1.2)).bind fun o=>some (o.1,o.2)) (fun (t:Int×List (Int×Int×Int))=>some (t.1,t.2)) o) (fun (t:Int×List (Int×Int×Int))=>some (t.1,
 t.2)) o).bind fun o=>some ((o.1,o.2),0)
theorem le24 (x):Le (m24F x) (m24 x):=by
 unfold m24F m24
 repeat' first | with_reducible exact le20 _ | with_reducible exact le28 _ | with_reducible exact Le.refl _ | intro _ | apply Le.bind | apply Le.cond | apply Le.nil | apply Le.loop | apply Le.elim
def m64F:(Int×List (Int×Int×Int))→Option (Bool) :=
 fun x=>(m98 (x.1,0,16)).bind fun r=>(bif PE.andM r (leM (lenM x.2) 60) then ((loopF (fun (s:Int)=>bif ltM s (lenM x.2) then (idxM x.2 s).bind fun r_1
 => (m102 (x.1,r_1.1,r_1.2.1,r_1.2.2)).bind fun r=>bif PE.notM r then some (Sum.inr (Sum.inr s)) else some (Sum.inl (wrap IntKind.i64 (s+1))) else some
 (Sum.inr (Sum.inl ()))) 0).bind fun o=>Sum.elim (fun (t:Unit)=>some (-1)) (fun (t:Int)=>some t) o).bind fun (ov:Int)=>some (leM 0 ov) else some
 false).bind fun (ov:Bool)=>some (PE.andM (PE.andM r (leM (lenM x.2) 60)) (PE.notM ov))
theorem le64 (x):Le (m64F x) (m64 x):=by
 unfold m64F m64
 repeat' first | with_reducible exact Le.refl _ | intro _ | apply Le.bind | apply Le.cond | apply Le.nil | apply Le.loop | apply Le.elim
def m104F:Int→Option (List (List Int)) :=
 fun x=>(mkM x x (nat_lit 24) []).bind fun r=>(loopF (fun (s:Int×List (List Int))=>bif ltM s.1 x then (loopF (fun (s_1:Int×List (List Int))=>bif
 ltM s_1.1 x then (chkM s.1 (lenM s_1.2)).bind fun r_1=>(chkM s.1 (lenM s_1.2)).bind fun r_2=>(m144 (s.1,s_1.1)).bind fun r_3=>(app2M (nat_lit 8) s_1.2
 s.1 [r_3]).bind fun r_4=>(chkM s.1 (lenM r_4)).bind fun r_5=>((sameM s.1 s.1).bind fun (x:Unit)=>(sameM s.1 s.1).bind fun (x:Unit)=>chkM s.1 (lenM
 r_4)).bind fun r=>some (Sum.inl (wrap IntKind.i64 (s_1.1+1),r_4)) else some (Sum.inr s_1.2)) (0,s.2)).bind fun o=>some (Sum.inl (wrap IntKind.i64 (s.1
 + 1),o)) else some (Sum.inr s.2)) (0,r)).bind fun o=>some o
theorem le104 (x):Le (m104F x) (m104 x):=by
 unfold m104F m104
 repeat' first | with_reducible exact Le.refl _ | intro _ | apply Le.bind | apply Le.cond | apply Le.nil | apply Le.loop | apply Le.elim
def m65F:(Int×List (Int×Int×Int))→Option (List (List Int)×Bool) :=
 fun x=>(mkM x.1 x.1 (nat_lit 24) []).bind fun r=>(loopF (fun (s:Int×List (List Int))=>bif ltM s.1 x.1 then (loopF (fun (s_1:Int×List (List Int))
 => bif ltM s_1.1 x.1 then (chkM s.1 (lenM s_1.2)).bind fun r_1=>(chkM s.1 (lenM s_1.2)).bind fun r_2=>(m144 (s.1,s_1.1)).bind fun r_3=>(app2M (nat_lit
 8) s_1.2 s.1 [r_3]).bind fun r_4=>(chkM s.1 (lenM r_4)).bind fun r_5=>((sameM s.1 s.1).bind fun (x:Unit)=>(sameM s.1 s.1).bind fun (x:Unit)=>chkM
 s.1 (lenM r_4)).bind fun r=>some (Sum.inl (wrap IntKind.i64 (s_1.1+1),r_4)) else some (Sum.inr s_1.2)) (0,s.2)).bind fun o=>some (Sum.inl (wrap
 IntKind.i64 (s.1+1),o)) else some (Sum.inr s.2)) (0,r)).bind fun o=>(loopF (fun (s:Int×List (List Int))=>bif ltM s.1 (lenM x.2) then (idxM x.2
 s.1).bind fun r_1=>(chkM r_1.1 (lenM s.2)).bind fun r_2=>(chkM r_1.1 (lenM s.2)).bind fun r_3=>(chkM r_1.1 (lenM s.2)).bind fun r_4=>(chkM r_1.1 (lenM
 s.2)).bind fun r_5=>((idxM s.2 r_1.1).bind fun (xs:List Int)=>chkM r_1.2.1 (lenM xs)).bind fun r_6=>((idxM s.2 r_1.1).bind fun (xs:List Int) =>
 (idxM xs r_1.2.1).bind fun (x:Int)=>some x).bind fun r_7=>((idxM s.2 r_1.1).bind fun (xs:List Int)=>chkM r_1.2.1 (lenM xs)).bind fun r_8=>(set2M
 s.2 r_1.1 r_1.2.1 fun (x:Int)=>some (min r_7 r_1.2.2)).bind fun r=>some (Sum.inl (wrap IntKind.i64 (s.1+1),r)) else some (Sum.inr s.2)) (0,o)).bind
 fun o_1=>(loopF (fun (s:Int×List (List Int))=>bif ltM s.1 x.1 then (mkM x.1 x.1 (nat_lit 8) 0).bind fun r_1=>(chkM s.1 (lenM s.2)).bind fun r_2 =>
 (chkM s.1 (lenM s.2)).bind fun r_3=>(idxM s.2 s.1).bind fun r_4=>(loopF (fun (s_1:Int×List (List Int))=>bif ltM s_1.1 x.1 then (loopF (fun (s_2 :
 Int×List (List Int))=>bif ltM s_2.1 x.1 then (chkM s_1.1 (lenM s_2.2)).bind fun r_5=>(chkM s_1.1 (lenM s_2.2)).bind fun r_6=>(chkM s_1.1 (lenM
 s_2.2)).bind fun r_7=>(chkM s_1.1 (lenM s_2.2)).bind fun r_8=>((idxM s_2.2 s_1.1).bind fun (xs:List Int)=>chkM s_2.1 (lenM xs)).bind fun r_9=>((idxM
 s_2.2 s_1.1).bind fun (xs:List Int)=>(idxM xs s_2.1).bind fun (x:Int)=>some x).bind fun r_10=>(chkM s_1.1 (lenM s_2.2)).bind fun r_11=>(chkM s_1.1
 (lenM s_2.2)).bind fun r_12=>((idxM s_2.2 s_1.1).bind fun (xs:List Int)=>chkM s.1 (lenM xs)).bind fun r_13=>((idxM s_2.2 s_1.1).bind fun (xs:List
 Int)=>(idxM xs s.1).bind fun (x:Int)=>some x).bind fun r_14=>(chkM s_2.1 (lenM (copyM r_1 r_4))).bind fun r_15=>(idxM (copyM r_1 r_4) s_2.1).bind
 fun r_16=>(m88 (r_14,r_16)).bind fun r_17=>((idxM s_2.2 s_1.1).bind fun (xs:List Int)=>chkM s_2.1 (lenM xs)).bind fun r_18=>(set2M s_2.2 s_1.1
 s_2.1 fun (x:Int)=>some (min r_10 r_17)).bind fun r=>some (Sum.inl (wrap IntKind.i64 (s_2.1+1),r)) else some (Sum.inr s_2.2)) (0,s_1.2)).bind fun o
 => some (Sum.inl (wrap IntKind.i64 (s_1.1+1),o)) else some (Sum.inr s_1.2)) (0,s.2)).bind fun o=>some (Sum.inl (wrap IntKind.i64 (s.1+1),o)) else
 some (Sum.inr s.2)) (0,o_1)).bind fun o_2=>(loopF (fun (s:Int)=>bif ltM s x.1 then (chkM s (lenM o_2)).bind fun r_1=>(chkM s (lenM o_2)).bind fun r_2
 => ((idxM o_2 s).bind fun (xs:List Int)=>chkM s (lenM xs)).bind fun r_3=>((idxM o_2 s).bind fun (xs:List Int)=>(idxM xs s).bind fun (x:Int) =>
 some x).bind fun r=>bif ltM r 0 then some (Sum.inr (Sum.inr false)) else some (Sum.inl (wrap IntKind.i64 (s+1))) else some (Sum.inr (Sum.inl ()))) 0).bind
 fun o=>Sum.elim (fun (t:Unit)=>some (o_2,true)) (fun (t:Bool)=>some ([],t)) o
theorem le65 (x):Le (m65F x) (m65 x):=by
 unfold m65F m65
 repeat' first | with_reducible exact Le.refl _ | intro _ | apply Le.bind | apply Le.cond | apply Le.nil | apply Le.loop | apply Le.elim
def m25F:(Int×List (Int×Int×Int))→Option (List (List Int)×Int) :=
 fun x=>(m64F (x.1,x.2)).bind fun r=>bif PE.notM r then some ([],90) else (m65F (x.1,x.2)).bind fun r=>bif PE.notM r.2 then some ([],90) else some
 (r.1,0)
theorem le25 (x):Le (m25F x) (m25 x):=by
 unfold m25F m25
 repeat' first | with_reducible exact le64 _ | with_reducible exact le65 _ | with_reducible exact Le.refl _ | intro _ | apply Le.bind | apply Le.cond | apply Le.nil | apply Le.loop | apply Le.elim
def m17F:((Int×List (Int×Int))×List (Int×Int×Int×Int×Int))→Option ((List (Int×Int))×Int) :=
 fun x=>(m24F ((x.1.1,x.1.2),x.2)).bind fun r=>(m25F (r.1.1,r.1.2)).bind fun r_1=>bif PE.orM (PE.notM (eqM r.2 0)) (PE.notM (eqM r_1.2 0)) then some
 ([],220) else (loopF (fun (s:Int×List (Int×Int))=>bif ltM s.1 x.1.1 then (idxM r_1.1 s.1).bind fun r_2=>(idxM r_2 x.1.1).bind fun r_3=>(idxM
 r_1.1 x.1.1).bind fun r_4=>(idxM r_4 s.1).bind fun r_5=>(appM (nat_lit 16) s.2 [(wrap IntKind.i64 (negM r_3),wrap IntKind.i64 (r_5+1))]).bind fun r =>
 some (Sum.inl (wrap IntKind.i64 (s.1+1),r)) else some (Sum.inr s.2)) (0,[])).bind fun o=>some (o,0)
theorem le17 (x):Le (m17F x) (m17 x):=by
 unfold m17F m17
 repeat' first | with_reducible exact le24 _ | with_reducible exact le25 _ | with_reducible exact Le.refl _ | intro _ | apply Le.bind | apply Le.cond | apply Le.nil | apply Le.loop | apply Le.elim
def m62F:(((Int×List (Int×Int))×List (Int×Int×Int×Int×Int))×Int×Int×Int)→Option ((Int×List (Int×Int×Int))×(Int×Int×Int)×Bool) :=
 fun x=>(m24F ((x.1.1.1,x.1.1.2),x.1.2)).bind fun r=>(bif eqM r.2 0 then m54 (x.2.1,0,wrap IntKind.i64 (x.1.1.1-1)) else some false).bind fun r_1 =>
 (bif PE.andM (eqM r.2 0) r_1 then m54 (x.2.2.1,0,wrap IntKind.i64 (x.1.1.1-1)) else some false).bind fun r_2=>(bif PE.andM (PE.andM (eqM r.2 0) r_1) r_2
 then m54 (x.2.2.2,(-2100),2100) else some false).bind fun r_3=>some ((r.1.1,r.1.2),(x.2.2.1,x.2.1,wrap IntKind.i64 (negM x.2.2.2)),PE.andM (PE.andM
 (PE.andM (eqM r.2 0) r_1) r_2) r_3)
theorem le62 (x):Le (m62F x) (m62 x):=by
 unfold m62F m62
 repeat' first | with_reducible exact le24 _ | with_reducible exact Le.refl _ | intro _ | apply Le.bind | apply Le.cond | apply Le.nil | apply Le.loop | apply Le.elim
def m89F:((Int×List (Int×Int×Int))×List (List (List Int))×Int×Int×Int×Int)→Option (List Int) :=
 fun x=>(loopF (fun (s:Int×Int×Int×List Int)=>bif ltM 0 s.2.1 then ((loopF (fun (s_1:Int)=>bif ltM s_1 (lenM x.1.2) then (idxM x.1.2 s_1).bind
 fun r=>(bif eqM r.1 s.1 then idxM x.2.1 (wrap IntKind.i64 (s.2.1-1)) else some []).bind fun r_1=>(bif eqM r.1 s.1 then idxM r_1 r.2.1 else some []).bind
 fun r_2=>(bif eqM r.1 s.1 then idxM r_2 x.2.2.2.1 else some 0).bind fun r_3=>(bif eqM r.1 s.1 then m88 (r.2.2,r_3) else some 0).bind fun r_4=>bif
 PE.andM (eqM r.1 s.1) (leM r_4 s.2.2.1) then some (Sum.inr (Sum.inr s_1)) else some (Sum.inl (wrap IntKind.i64 (s_1+1))) else some (Sum.inr (Sum.inl ())))
 0).bind fun o=>Sum.elim (fun (t:Unit)=>some (-1)) (fun (t:Int)=>some t) o).bind fun (ov:Int)=>(idxM x.1.2 ov).bind fun r=>(idxM x.1.2 ov).bind
 fun r_1=>(appM (nat_lit 8) s.2.2.2 [ov]).bind fun r_2=>some (Sum.inl (r.2.1,wrap IntKind.i64 (s.2.1-1),wrap IntKind.i64 (s.2.2.1-r_1.2.2),r_2))
 else some (Sum.inr (s.1,s.2.1,s.2.2.1,s.2.2.2))) (x.2.2.1,x.2.2.2.2.1,x.2.2.2.2.2,[])).bind fun o=>some o.2.2.2
theorem le89 (x):Le (m89F x) (m89 x):=by
 unfold m89F m89
 repeat' first | with_reducible exact Le.refl _ | intro _ | apply Le.bind | apply Le.cond | apply Le.nil | apply Le.loop | apply Le.elim
def m63F:((Int×List (Int×Int×Int))×Int×Int×Int)→Option (List Int×Bool) :=
 fun x=>(m64F (x.1.1,x.1.2)).bind fun r=>(bif PE.notM (PE.notM r) then m102 (x.1.1,x.2.1,x.2.2.1,x.2.2.2) else some false).bind fun r_1=>bif PE.orM
 (PE.notM r) (PE.notM r_1) then some ([],false) else (m65F (x.1.1,x.1.2)).bind fun r_2=>(bif PE.notM (PE.notM r_2.2) then idxM r_2.1 x.2.1 else some
 []).bind fun r_3=>(bif PE.notM (PE.notM r_2.2) then idxM r_3 x.2.2.1 else some 0).bind fun r_4=>bif PE.orM (PE.notM r_2.2) (ltM x.2.2.2 r_4) then some
 ([],false) else (m104F x.1.1).bind fun r_5=>(loopF (fun (s:List (List Int)×List (List (List Int)))=>(appM (nat_lit 24) s.2 [s.1]).bind fun r_6 =>
 (idxM s.1 x.2.1).bind fun r_7=>(idxM r_7 x.2.2.1).bind fun r_8=>bif leM r_8 x.2.2.2 then some (Sum.inr r_6) else (mkM x.1.1 x.1.1 (nat_lit 24) []).bind
 fun r_9=>(loopF (fun (s_1:Int×List (List Int))=>bif ltM s_1.1 x.1.1 then (loopF (fun (s_2:Int×List (List Int))=>bif ltM s_2.1 x.1.1 then (chkM
 s_1.1 (lenM s_2.2)).bind fun r_10=>(chkM s_1.1 (lenM s_2.2)).bind fun r_11=>(m135 (s_1.1,s_2.1)).bind fun r_12=>(app2M (nat_lit 8) s_2.2 s_1.1
 [r_12]).bind fun r_13=>(chkM s_1.1 (lenM r_13)).bind fun r_14=>((sameM s_1.1 s_1.1).bind fun (x:Unit)=>(sameM s_1.1 s_1.1).bind fun (x:Unit)=>chkM
 s_1.1 (lenM r_13)).bind fun r=>some (Sum.inl (wrap IntKind.i64 (s_2.1+1),r_13)) else some (Sum.inr s_2.2)) (0,s_1.2)).bind fun o=>some (Sum.inl (wrap
 IntKind.i64 (s_1.1+1),o)) else some (Sum.inr s_1.2)) (0,r_9)).bind fun o=>(loopF (fun (s_1:Int×List (List Int))=>bif ltM s_1.1 (lenM x.1.2) then
 (idxM x.1.2 s_1.1).bind fun r_10=>(loopF (fun (s_2:Int×List (List Int))=>bif ltM s_2.1 x.1.1 then (chkM s_2.1 (lenM s_2.2)).bind fun r_11=>(chkM
 s_2.1 (lenM s_2.2)).bind fun r_12=>(chkM s_2.1 (lenM s_2.2)).bind fun r_13=>(chkM s_2.1 (lenM s_2.2)).bind fun r_14=>((idxM s_2.2 s_2.1).bind fun (xs :
 List Int)=>chkM r_10.2.1 (lenM xs)).bind fun r_15=>((idxM s_2.2 s_2.1).bind fun (xs:List Int)=>(idxM xs r_10.2.1).bind fun (x:Int)=>some x).bind
 fun r_16=>(idxM s.1 s_2.1).bind fun r_17=>(idxM r_17 r_10.1).bind fun r_18=>(m88 (r_18,r_10.2.2)).bind fun r_19=>((idxM s_2.2 s_2.1).bind fun (xs :
 List Int)=>chkM r_10.2.1 (lenM xs)).bind fun r_20=>(set2M s_2.2 s_2.1 r_10.2.1 fun (x:Int)=>some (min r_16 r_19)).bind fun r=>some (Sum.inl (wrap
 IntKind.i64 (s_2.1+1),r)) else some (Sum.inr s_2.2)) (0,s_1.2)).bind fun o=>some (Sum.inl (wrap IntKind.i64 (s_1.1+1),o)) else some (Sum.inr s_1.2))
 (0,o)).bind fun o=>some (Sum.inl (o,r_6))) (r_5,[])).bind fun o=>(m89F ((x.1.1,x.1.2),o,x.2.1,x.2.2.1,wrap IntKind.i64 (lenM o-1),
 x.2.2.2)).bind fun r=>some (r,true)
theorem le63 (x):Le (m63F x) (m63 x):=by
 unfold m63F m63
 repeat' first | with_reducible exact le64 _ | with_reducible exact le65 _ | with_reducible exact le89 _ | with_reducible exact le104 _ | with_reducible exact Le.refl _ | intro _ | apply Le.bind | apply Le.cond | apply Le.nil | apply Le.loop | apply Le.elim
def m23F:(((Int×List (Int×Int))×List (Int×Int×Int×Int×Int))×Int×Int×Int)→Option (List Int×Bool) :=
 fun x=>(m62F (((x.1.1.1,x.1.1.2),x.1.2),x.2.1,x.2.2.1,x.2.2.2)).bind fun r=>bif PE.notM r.2.2 then some ([],false) else (m63F ((r.1.1,r.1.2),
 r.2.1.1,r.2.1.2.1,r.2.1.2.2)).bind fun r=>some (r.1,r.2)
theorem le23 (x):Le (m23F x) (m23 x):=by
 unfold m23F m23
 repeat' first | with_reducible exact le62 _ | with_reducible exact le63 _ | with_reducible exact Le.refl _ | intro _ | apply Le.bind | apply Le.cond | apply Le.nil | apply Le.loop | apply Le.elim
def m50F:(Int×List (Int×Int×Int))→Option (List Int×Bool) :=
 fun x=>(m64F (x.1,x.2)).bind fun r=>bif PE.notM r then some ([],false) else (m65F (x.1,x.2)).bind fun r_1=>bif r_1.2 then some ([],false) else (m104F
 x.1).bind fun r_2=>(loopF (fun (s:List (List Int)×List (List (List Int)))=>(appM (nat_lit 24) s.2 [s.1]).bind fun r_3=>(loopF (fun (s_1:Int) =>
 bif ltM s_1 (lenM x.2) then (idxM x.2 s_1).bind fun r_4=>(bif ltM 0 (wrap IntKind.i64 (lenM r_3-1)) then chkM (wrap IntKind.i64 (wrap IntKind.i64 (lenM
 r_3-1)-1)) (lenM r_3) else some ()).bind fun r_5=>(bif ltM 0 (wrap IntKind.i64 (lenM r_3-1)) then idxM r_3 (wrap IntKind.i64 (wrap IntKind.i64 (lenM
 r_3-1)-1)) else some []).bind fun r_6=>(bif ltM 0 (wrap IntKind.i64 (lenM r_3-1)) then idxM r_6 r_4.2.1 else some []).bind fun r_7=>(bif ltM 0 (wrap
 IntKind.i64 (lenM r_3-1)) then idxM r_7 r_4.1 else some 0).bind fun r_8=>(bif ltM 0 (wrap IntKind.i64 (lenM r_3-1)) then m88 (r_4.2.2,r_8) else some
 0).bind fun r_9=>bif PE.andM (ltM 0 (wrap IntKind.i64 (lenM r_3-1))) (ltM r_9 0) then (m89F ((x.1,x.2),r_3,r_4.2.1,r_4.1,wrap IntKind.i64 (wrap
 IntKind.i64 (lenM r_3-1)-1),wrap IntKind.i64 ((-1)-r_4.2.2))).bind fun r_10=>(appM (nat_lit 8) [s_1] r_10).bind fun r=>some (Sum.inr (Sum.inr (r,
 true,r_3))) else some (Sum.inl (wrap IntKind.i64 (s_1+1))) else some (Sum.inr (Sum.inl ()))) 0).bind fun o=>Sum.elim (fun (t:Unit)=>(mkM x.1 x.1
 (nat_lit 24) []).bind fun r_4=>(loopF (fun (s_1:Int×List (List Int))=>bif ltM s_1.1 x.1 then (loopF (fun (s_2:Int×List (List Int))=>bif ltM
 s_2.1 x.1 then (chkM s_1.1 (lenM s_2.2)).bind fun r_5=>(chkM s_1.1 (lenM s_2.2)).bind fun r_6=>(m135 (s_1.1,s_2.1)).bind fun r_7=>(app2M (nat_lit 8)
 s_2.2 s_1.1 [r_7]).bind fun r_8=>(chkM s_1.1 (lenM r_8)).bind fun r_9=>((sameM s_1.1 s_1.1).bind fun (x:Unit)=>(sameM s_1.1 s_1.1).bind fun (x:Unit)
 => chkM s_1.1 (lenM r_8)).bind fun r=>some (Sum.inl (wrap IntKind.i64 (s_2.1+1),r_8)) else some (Sum.inr s_2.2)) (0,s_1.2)).bind fun o=>some (Sum.inl
 (wrap IntKind.i64 (s_1.1+1),o)) else some (Sum.inr s_1.2)) (0,r_4)).bind fun o=>(loopF (fun (s_1:Int×List (List Int))=>bif ltM s_1.1 (lenM x.2)
 then (idxM x.2 s_1.1).bind fun r_5=>(loopF (fun (s_2:Int×List (List Int))=>bif ltM s_2.1 x.1 then (chkM s_2.1 (lenM s_2.2)).bind fun r_6=>(chkM
 s_2.1 (lenM s_2.2)).bind fun r_7=>(chkM s_2.1 (lenM s_2.2)).bind fun r_8=>(chkM s_2.1 (lenM s_2.2)).bind fun r_9=>((idxM s_2.2 s_2.1).bind fun (xs :
 List Int)=>chkM r_5.2.1 (lenM xs)).bind fun r_10=>((idxM s_2.2 s_2.1).bind fun (xs:List Int)=>(idxM xs r_5.2.1).bind fun (x:Int)=>some x).bind fun
 r_11=>(idxM s.1 s_2.1).bind fun r_12=>(idxM r_12 r_5.1).bind fun r_13=>(m88 (r_13,r_5.2.2)).bind fun r_14=>((idxM s_2.2 s_2.1).bind fun (xs:List
 Int)=>chkM r_5.2.1 (lenM xs)).bind fun r_15=>(set2M s_2.2 s_2.1 r_5.2.1 fun (x:Int)=>some (min r_11 r_14)).bind fun r=>some (Sum.inl (wrap
 IntKind.i64 (s_2.1+1),r)) else some (Sum.inr s_2.2)) (0,s_1.2)).bind fun o=>some (Sum.inl (wrap IntKind.i64 (s_1.1+1),o)) else some (Sum.inr s_1.2))
 (0,o)).bind fun o=>some (Sum.inl (o,r_3))) (fun (t:List Int×Bool×List (List (List Int)))=>some (Sum.inr (t.1,t.2.1,t.2.2))) o) (r_2,[])).bind
 fun o=>some (o.1,o.2.1)
theorem le50 (x):Le (m50F x) (m50 x):=by
 unfold m50F m50
 repeat' first | with_reducible exact le64 _ | with_reducible exact le65 _ | with_reducible exact le89 _ | with_reducible exact le104 _ | with_reducible exact Le.refl _ | intro _ | apply Le.bind | apply Le.cond | apply Le.nil | apply Le.loop | apply Le.elim
def m16F:((Int×List (Int×Int))×List (Int×Int×Int×Int×Int))→Option (List Int×Bool) :=
 fun x=>(m24F ((x.1.1,x.1.2),x.2)).bind fun r=>(m50F (r.1.1,r.1.2)).bind fun r_1=>bif PE.orM (PE.notM (eqM r.2 0)) (PE.notM r_1.2) then some ([],false)
 else ((loopF (fun (s:Int×List Int)=>bif ltM s.1 x.1.1 then (appM (nat_lit 8) s.2 [(-1)]).bind fun r_2=>(appM (nat_lit 8) r_2 [(-1)]).bind fun r =>
 some (Sum.inl (wrap IntKind.i64 (s.1+1),r)) else some (Sum.inr (Sum.inl s.2))) (0,[])).bind fun o=>Sum.elim (fun (t:List Int)=>(loopF (fun (s:Int
 × List Int)=>bif ltM s.1 (lenM x.2) then ((idxM x.2 s.1).bind fun r_2=>bif PE.orM (eqM r_2.1 1) (PE.orM (eqM r_2.1 2) (eqM r_2.1 3)) then (bif eqM r_2.1 1
 then m138 (r_2.1,r_2.2.1,r_2.2.2.1,r_2.2.2.2.1,r_2.2.2.2.2) else bif eqM r_2.1 2 then m139 (r_2.1,r_2.2.1,r_2.2.2.1,r_2.2.2.2.1,r_2.2.2.2.2) else bif
 eqM r_2.1 3 then m140 (r_2.1,r_2.2.1,r_2.2.2.1,r_2.2.2.2.1,r_2.2.2.2.2) else none).bind fun r_3=>(appM (nat_lit 8) s.2 [s.1]).bind fun r_4=>(appM
 (nat_lit 8) r_4 [s.1]).bind fun r=>some (Sum.inr r) else (bif eqM r_2.1 4 then m141 (r_2.1,r_2.2.1,r_2.2.2.1,r_2.2.2.2.1,r_2.2.2.2.2) else bif eqM r_2.1
 5 then m141 (r_2.1,r_2.2.1,r_2.2.2.1,r_2.2.2.2.1,r_2.2.2.2.2) else none).bind fun r_3=>(appM (nat_lit 8) s.2 [s.1]).bind fun r_4=>(appM (nat_lit 8)
 r_4 [s.1]).bind fun r=>some (Sum.inr r)).bind fun o=>Sum.elim (fun (t:List Int)=>some (Sum.inr (Sum.inr t))) (fun (t:List Int)=>some (Sum.inl
 (wrap IntKind.i64 (s.1+1),t))) o else some (Sum.inr (Sum.inl s.2))) (0,t)).bind fun o=>Sum.elim (fun (t_1:List Int)=>(m28F (x.1.1,x.1.2)).bind fun
 r_2=>(loopF (fun (s:Int×List Int)=>bif ltM s.1 (lenM r_2.1.2) then (idxM r_2.1.2 s.1).bind fun r_3=>(appM (nat_lit 8) s.2 [wrap IntKind.i64 (lenM
 x.2+s.1)]).bind fun r=>some (Sum.inl (wrap IntKind.i64 (s.1+1),r)) else some (Sum.inr s.2)) (0,t_1)).bind fun o=>some o) (fun (t:List Int)=>some
 t) o) (fun (t:List Int)=>some t) o).bind fun o=>(loopF (fun (s:Int×List Int)=>bif ltM s.1 (lenM r_1.1) then ((idxM r_1.1 s.1).bind fun r_2 =>
 (chkM r_2 (lenM o)).bind fun r_3=>(idxM o r_2).bind fun r_4=>bif leM 0 r_4 then (chkM r_2 (lenM o)).bind fun r_5=>(idxM o r_2).bind fun r_6=>(appM
 (nat_lit 8) s.2 [r_6]).bind fun r=>some r else some s.2).bind fun o=>some (Sum.inl (wrap IntKind.i64 (s.1+1),o)) else some (Sum.inr s.2)) (0,[])).bind
 fun o_1=>(sortI o_1).bind fun r_2=>(compI r_2).bind fun r=>some (r,true)
theorem le16 (x):Le (m16F x) (m16 x):=by
 unfold m16F m16
 repeat' first | with_reducible exact le24 _ | with_reducible exact le28 _ | with_reducible exact le50 _ | with_reducible exact Le.refl _ | intro _ | apply Le.bind | apply Le.cond | apply Le.nil | apply Le.loop | apply Le.elim
def m182F:(Bool×Int×Int)→Option (Int) :=
 fun x=>(divM IntKind.i64 (wrap IntKind.i64 (wrap IntKind.i64 (x.2.1+4)-1)) 4).bind fun r=>(remM x.2.1 4).bind fun r_1=>(bif x.1 then (divM IntKind.i64
 (wrap IntKind.i64 (wrap IntKind.i64 (x.2.1+100)-1)) 100).bind fun r_2=>(divM IntKind.i64 (wrap IntKind.i64 (wrap IntKind.i64 (x.2.1+400)-1))
 400).bind fun r_3=>(bif eqM r_1 0 then remM x.2.1 100 else some 0).bind fun r_4=>(bif PE.notM (PE.andM (eqM r_1 0) (PE.notM (eqM r_4 0))) then remM x.2.1
 400 else some 0).bind fun r_5=>some (wrap IntKind.i64 (wrap IntKind.i64 (wrap IntKind.i64 (365*x.2.1)+r)+wrap IntKind.i64 (wrap IntKind.i64 (2-r_2)
 + r_3)),PE.orM (PE.andM (eqM r_1 0) (PE.notM (eqM r_4 0))) (eqM r_5 0)) else some (wrap IntKind.i64 (wrap IntKind.i64 (365*x.2.1)+r),eqM r_1 0)).bind
 fun o=>(loopF (fun (s:Int×Int)=>bif ltM s.2 x.2.2 then ((idxM [0,31,28,31,30,31,30,31,31,30,31,30,31] s.2).bind fun r=>bif PE.andM (eqM
 s.2 2) o.2 then some (wrap IntKind.i64 (wrap IntKind.i64 (s.1+r)+1)) else some (wrap IntKind.i64 (s.1+r))).bind fun o=>some (Sum.inl (o,wrap
 IntKind.i64 (s.2+1))) else some (Sum.inr s.1)) (o.1,1)).bind fun o=>some o
theorem le182 (x):Le (m182F x) (m182 x):=by
 unfold m182F m182
 repeat' first | with_reducible exact Le.refl _ | intro _ | apply Le.bind | apply Le.cond | apply Le.nil | apply Le.loop | apply Le.elim
def m200F:(Bool×Int)→Option (Int) :=
 fun x=>(remM x.2 19).bind fun r=>(divM IntKind.i64 x.2 100).bind fun r_1=>(bif x.1 then (divM IntKind.i64 (wrap IntKind.i64 (13+wrap IntKind.i64 (8 *
 r_1))) 25).bind fun r_2=>(divM IntKind.i64 r_1 4).bind fun r=>some (wrap IntKind.i64 (15+wrap IntKind.i64 (wrap IntKind.i64 (r_1-r_2)-r))) else some
 15).bind fun o=>(remM (wrap IntKind.i64 (wrap IntKind.i64 (19*r)+o)) 30).bind fun r_2=>(bif PE.andM x.1 (PE.orM (eqM r_2 29) (PE.andM (eqM r_2 28)
 (ltM 10 r))) then some (wrap IntKind.i64 (r_2-1)) else some r_2).bind fun o_1=>(m182F (x.1,x.2,3)).bind fun r_3=>(remM (wrap IntKind.i64 (wrap
 IntKind.i64 (wrap IntKind.i64 (r_3+20)+o_1)+4)) 7).bind fun r=>some (wrap IntKind.i64 (wrap IntKind.i64 (wrap IntKind.i64 (wrap IntKind.i64 (r_3+20)
 + o_1)+7)-r))
theorem le200 (x):Le (m200F x) (m200 x):=by
 unfold m200F m200
 repeat' first | with_reducible exact le182 _ | with_reducible exact Le.refl _ | intro _ | apply Le.bind | apply Le.cond | apply Le.nil | apply Le.loop | apply Le.elim
def m181F:((Int×Int)×Int)→Option (Int) :=
 fun x=>(m200F (false,x.2)).bind fun r=>bif ltM r x.1.1 then some r else (m200F (true,x.2)).bind fun r=>some r
theorem le181 (x):Le (m181F x) (m181 x):=by
 unfold m181F m181
 repeat' first | with_reducible exact le200 _ | with_reducible exact Le.refl _ | intro _ | apply Le.bind | apply Le.cond | apply Le.nil | apply Le.loop | apply Le.elim
def m158F:(Bool×Int)→Option (Int×Int×Int) :=
 fun x=>(loopF (fun (s:Int×Int)=>bif ltM s.1 s.2 then (shrM IntKind.u64 (wrap IntKind.u64 (wrap IntKind.i64 (s.1+s.2))) 1).bind fun r=>(m182F (x.1,
 wrap IntKind.i64 (wrap IntKind.i64 r+1),1)).bind fun r_1=>bif PE.notM (ltM x.2 r_1) then some (Sum.inl (wrap IntKind.i64 (wrap IntKind.i64 r+1),s.2))
 else some (Sum.inl (s.1,wrap IntKind.i64 r)) else some (Sum.inr s.1)) (0,2200)).bind fun o=>(loopF (fun (s:Int×Int)=>bif ltM s.1 s.2 then (shrM
 IntKind.u64 (wrap IntKind.u64 (wrap IntKind.i64 (s.1+s.2))) 1).bind fun r=>(m182F (x.1,o,wrap IntKind.i64 (wrap IntKind.i64 r+2))).bind fun r_1=>bif
 PE.notM (ltM x.2 r_1) then some (Sum.inl (wrap IntKind.i64 (wrap IntKind.i64 r+1),s.2)) else some (Sum.inl (s.1,wrap IntKind.i64 r)) else some (Sum.inr
 s.1)) (0,11)).bind fun o_1=>(m182F (x.1,o,wrap IntKind.i64 (1+o_1))).bind fun r=>some (o,wrap IntKind.i64 (1+o_1),wrap IntKind.i64 (wrap
 IntKind.i64 (x.2-r)+1))
theorem le158 (x):Le (m158F x) (m158 x):=by
 unfold m158F m158
 repeat' first | with_reducible exact le182 _ | with_reducible exact Le.refl _ | intro _ | apply Le.bind | apply Le.cond | apply Le.nil | apply Le.loop | apply Le.elim
def m119F:((Int×Int)×Int)→Option (Int×Int×Int) :=
 fun x=>(m158F (leM x.1.1 x.2,x.2)).bind fun r=>some (r.1,r.2.1,r.2.2)
theorem le119 (x):Le (m119F x) (m119 x):=by
 unfold m119F m119
 repeat' first | with_reducible exact le158 _ | with_reducible exact Le.refl _ | intro _ | apply Le.bind | apply Le.cond | apply Le.nil | apply Le.loop | apply Le.elim
def m164F:List Int→Option (Int) :=
 fun x=>(loopF (fun (s:Int)=>bif ltM s (lenM x) then (idxM x s).bind fun r=>bif PE.notM (eqM r 0) then some (Sum.inr (Sum.inr r)) else some (Sum.inl
 (wrap IntKind.i64 (s+1))) else some (Sum.inr (Sum.inl ()))) 0).bind fun o=>Sum.elim (fun (t:Unit)=>some 0) (fun (t:Int)=>some t) o
theorem le164 (x):Le (m164F x) (m164 x):=by
 unfold m164F m164
 repeat' first | with_reducible exact Le.refl _ | intro _ | apply Le.bind | apply Le.cond | apply Le.nil | apply Le.loop | apply Le.elim
def m199F:((Int×Int×Int)×Int×Int×Int)→Option (Int) :=
 fun x=>(m157 (x.1.1,x.2.1)).bind fun r=>(m157 (x.1.2.1,x.2.2.1)).bind fun r_1=>(m157 (x.1.2.2,x.2.2.2)).bind fun r_2=>(m164F [r,r_1,r_2]).bind fun
 r=>some r
theorem le199 (x):Le (m199F x) (m199 x):=by
 unfold m199F m199
 repeat' first | with_reducible exact le164 _ | with_reducible exact Le.refl _ | intro _ | apply Le.bind | apply Le.cond | apply Le.nil | apply Le.loop | apply Le.elim
def m180F:((Int×Int)×Int×Int×Int)→Option (Int) :=
 fun x=>(loopF (fun (s:Int×Int)=>bif ltM s.1 s.2 then (shrM IntKind.u64 (wrap IntKind.u64 (wrap IntKind.i64 (s.1+s.2))) 1).bind fun r=>(m119F
 ((x.1.1,x.1.2),wrap IntKind.i64 r)).bind fun r_1=>(m199F ((r_1.1,r_1.2.1,r_1.2.2),x.2.1,x.2.2.1,x.2.2.2)).bind fun r_2=>bif PE.notM (leM 0 r_2)
 then some (Sum.inl (wrap IntKind.i64 (wrap IntKind.i64 r+1),s.2)) else some (Sum.inl (s.1,wrap IntKind.i64 r)) else some (Sum.inr s.1)) (0,800001)).bind
 fun o=>some o
theorem le180 (x):Le (m180F x) (m180 x):=by
 unfold m180F m180
 repeat' first | with_reducible exact le119 _ | with_reducible exact le199 _ | with_reducible exact Le.refl _ | intro _ | apply Le.bind | apply Le.cond | apply Le.nil | apply Le.loop | apply Le.elim
def m178F:((Int×Int)×Int)→Option (Int) :=
 fun x=>bif eqM x.1.2 4 then (m181F ((x.1.1,x.1.2),x.2)).bind fun r=>some r else bif eqM x.1.2 2 then (m180F ((x.1.1,x.1.2),x.2,3,25)).bind fun r =>
 some r else bif eqM x.1.2 3 then (m180F ((x.1.1,x.1.2),wrap IntKind.i64 (x.2-1),3,25)).bind fun r=>some r else bif eqM x.1.2 5 then (m180F ((x.1.1,
 x.1.2),wrap IntKind.i64 (x.2-1),9,1)).bind fun r=>some r else (m180F ((x.1.1,x.1.2),x.2,1,1)).bind fun r=>some r
theorem le178 (x):Le (m178F x) (m178 x):=by
 unfold m178F m178
 repeat' first | with_reducible exact le180 _ | with_reducible exact le181 _ | with_reducible exact Le.refl _ | intro _ | apply Le.bind | apply Le.cond | apply Le.nil | apply Le.loop | apply Le.elim
def m148F:((Int×Int)×Int)→Option ((Int×Int)×Int) :=
 fun x=>(m110 (x.1.1,x.1.2)).bind fun r=>(bif PE.notM (PE.notM r) then m118 (x.2,0,2100) else some false).bind fun r_1=>bif PE.orM (PE.notM r) (PE.notM
 r_1) then some ((0,0),200) else (m178F ((x.1.1,x.1.2),x.2)).bind fun r_2=>(m178F ((x.1.1,x.1.2),wrap IntKind.i64 (x.2+1))).bind fun r=>some ((r_2,
 r),0)
theorem le148 (x):Le (m148F x) (m148 x):=by
 unfold m148F m148
 repeat' first | with_reducible exact le178 _ | with_reducible exact Le.refl _ | intro _ | apply Le.bind | apply Le.cond | apply Le.nil | apply Le.loop | apply Le.elim
def m113F:((Int×Int)×(List (Int×Int×Int))×Int×Int×Int×Int×Int×Int×Int)→Option (List (Int×Int)) :=
 fun x=>(bif ltM x.2.2.2.2.2.2.2.2 0 then (m148F ((x.1.1,x.1.2),x.2.2.2.2.2.2.2.1)).bind fun r=>bif eqM r.2 0 then (appM (nat_lit 16) [] [(r.1.1,
 r.1.2)]).bind fun r=>some r else some [] else some []).bind fun o=>(loopF (fun (s:Unit)=>bif ltM 0 (lenM x.2.1) then (idxM x.2.1 0).bind fun r=>none
 else some (Sum.inr ())) ()).bind fun o_1=>(sortM (Ty.pair (Ty.int IntKind.i64) (Ty.int IntKind.i64)) cf156 o).bind fun r=>(loopF (fun (s:Int×List (Int
 × Int))=>bif ltM s.1 (lenM r) then ((chkM s.1 (lenM r)).bind fun r_1=>(idxM r s.1).bind fun r_2=>(bif ltM 0 (lenM s.2) then chkM (wrap IntKind.i64 (lenM
 s.2-1)) (lenM s.2) else some ()).bind fun r_3=>(bif ltM 0 (lenM s.2) then (idxM s.2 (wrap IntKind.i64 (lenM s.2-1))).bind fun (x:Int×Int)=>some
 x.2 else some 0).bind fun r_4=>bif PE.andM (ltM 0 (lenM s.2)) (leM r_2.1 r_4) then (chkM (wrap IntKind.i64 (lenM s.2-1)) (lenM s.2)).bind fun r_5 =>
 ((idxM s.2 (wrap IntKind.i64 (lenM s.2-1))).bind fun (x:Int×Int)=>some x.2).bind fun r_6=>(chkM (wrap IntKind.i64 (lenM s.2-1)) (lenM s.2)).bind
 fun r_7=>(setM s.2 (wrap IntKind.i64 (lenM s.2-1)) fun (x:Int×Int)=>some (x.1,max r_6 r_2.2)).bind fun r=>some r else (appM (nat_lit 16) s.2
 [(r_2.1,r_2.2)]).bind fun r=>some r).bind fun o=>some (Sum.inl (wrap IntKind.i64 (s.1+1),o)) else some (Sum.inr s.2)) (0,[])).bind fun o=>some o
theorem le113 (x):Le (m113F x) (m113 x):=by
 unfold m113F m113
 repeat' first | with_reducible exact le148 _ | with_reducible exact Le.refl _ | intro _ | apply Le.bind | apply Le.cond | apply Le.nil | apply Le.loop | apply Le.elim
def m69F:((Int×Int)×(List (Int×Int×Int))×Int×Int×Int×Int×Int×Int×Int)→Option ((List (Int×Int))×Int) :=
 fun x=>(m110 (x.1.1,x.1.2)).bind fun r=>(bif PE.notM (PE.notM r) then m111 (x.2.2.1,x.2.2.2.1,x.2.2.2.2.1,x.2.2.2.2.2.1,x.2.2.2.2.2.2.1,
 x.2.2.2.2.2.2.2.1,x.2.2.2.2.2.2.2.2) else some false).bind fun r_1=>(bif PE.notM (PE.orM (PE.orM (PE.notM r) (PE.notM r_1)) (ltM 12 (lenM x.2.1))) then
 ((loopF (fun (s:Int)=>bif ltM s (lenM x.2.1) then (idxM x.2.1 s).bind fun r_2=>(m108 (r_2.1,r_2.2.1,r_2.2.2)).bind fun r=>bif r then some (Sum.inr
 (Sum.inr s)) else some (Sum.inl (wrap IntKind.i64 (s+1))) else some (Sum.inr (Sum.inl ()))) 0).bind fun o=>Sum.elim (fun (t:Unit)=>some (-1)) (fun (t
 : Int)=>some t) o).bind fun (ov:Int)=>some (leM 0 ov) else some false).bind fun (ov:Bool)=>bif PE.orM (PE.orM (PE.orM (PE.notM r) (PE.notM r_1))
 (ltM 12 (lenM x.2.1))) ov then some ([],200) else (m113F ((x.1.1,x.1.2),x.2.1,x.2.2.1,x.2.2.2.1,x.2.2.2.2.1,x.2.2.2.2.2.1,x.2.2.2.2.2.2.1,
 x.2.2.2.2.2.2.2.1,x.2.2.2.2.2.2.2.2)).bind fun r=>bif PE.andM (eqM x.2.2.2.2.1 0) (eqM x.2.2.2.2.2.1 0) then some (r,0) else none
theorem le69 (x):Le (m69F x) (m69 x):=by
 unfold m69F m69
 repeat' first | with_reducible exact le113 _ | with_reducible exact Le.refl _ | intro _ | apply Le.bind | apply Le.cond | apply Le.nil | apply Le.loop | apply Le.elim
def m70F:((Int×Int)×Int)→Option ((Int×Int×Int)×Int) :=
 fun x=>(m110 (x.1.1,x.1.2)).bind fun r=>(bif PE.notM (PE.notM r) then m118 (x.2,0,800000) else some false).bind fun r_1=>bif PE.orM (PE.notM r)
 (PE.notM r_1) then some ((0,0,0),200) else (m119F ((x.1.1,x.1.2),x.2)).bind fun r=>some ((r.1,r.2.1,r.2.2),0)
theorem le70 (x):Le (m70F x) (m70 x):=by
 unfold m70F m70
 repeat' first | with_reducible exact le119 _ | with_reducible exact Le.refl _ | intro _ | apply Le.bind | apply Le.cond | apply Le.nil | apply Le.loop | apply Le.elim
def m31F:((Int×Int)×(List (Int×Int×Int))×(Int×Int×Int×Int×Int×Int×Int)×Int)→Option ((Int×Int×Int×Int×Int)×Int) :=
 fun x=>(m69F ((x.1.1,x.1.2),x.2.1,x.2.2.1.1,x.2.2.1.2.1,x.2.2.1.2.2.1,x.2.2.1.2.2.2.1,x.2.2.1.2.2.2.2.1,x.2.2.1.2.2.2.2.2.1,
 x.2.2.1.2.2.2.2.2.2)).bind fun r=>(bif PE.notM (PE.orM (PE.notM (eqM r.2 0)) (eqM (lenM r.1) 0)) then m54 (x.2.2.2,0,7) else some false).bind fun r_1 =>
 bif PE.orM (PE.orM (PE.notM (eqM r.2 0)) (eqM (lenM r.1) 0)) (PE.notM r_1) then some ((0,0,0,0,0),220) else (idxM r.1 0).bind fun r_2=>(m70F ((x.1.1,
 x.1.2),r_2.1)).bind fun r_3=>(idxM r.1 (wrap IntKind.i64 (lenM r.1-1))).bind fun r_4=>(m70F ((x.1.1,x.1.2),wrap IntKind.i64 (r_4.2-1))).bind fun r
 => bif ltM 2100 r_3.1.1 then some ((0,0,0,0,0),220) else some ((1,x.2.2.2,0,r_3.1.1,wrap IntKind.i64 (min 2100 r.1.1+1)),0)
theorem le31 (x):Le (m31F x) (m31 x):=by
 unfold m31F m31
 repeat' first | with_reducible exact le69 _ | with_reducible exact le70 _ | with_reducible exact Le.refl _ | intro _ | apply Le.bind | apply Le.cond | apply Le.nil | apply Le.loop | apply Le.elim
def m188F:(List Int×Int)→Option (Bool) :=
 fun x=>(m121 (lenM x.1,2,x.2)).bind fun r=>(bif r then ((loopF (fun (s:Int)=>bif ltM s (lenM x.1) then (idxM x.1 s).bind fun r_1=>(m210 r_1).bind
 fun r=>bif r then some (Sum.inr (Sum.inr s)) else some (Sum.inl (wrap IntKind.i64 (s+1))) else some (Sum.inr (Sum.inl ()))) 0).bind fun o=>Sum.elim (fun
 (t:Unit)=>some (-1)) (fun (t:Int)=>some t) o).bind fun (ov:Int)=>some (leM 0 ov) else some false).bind fun (ov:Bool)=>some (PE.andM r (PE.notM
 ov))
theorem le188 (x):Le (m188F x) (m188 x):=by
 unfold m188F m188
 repeat' first | with_reducible exact Le.refl _ | intro _ | apply Le.bind | apply Le.cond | apply Le.nil | apply Le.loop | apply Le.elim
def m159F:(Int×List Int)→Option (Bool) :=
 fun x=>(m188F (x.2,200)).bind fun r=>(bif r then m121 (x.1,0,wrap IntKind.i64 (2101-lenM x.2)) else some false).bind fun r_1=>some (PE.andM r r_1)
theorem le159 (x):Le (m159F x) (m159 x):=by
 unfold m159F m159
 repeat' first | with_reducible exact le188 _ | with_reducible exact Le.refl _ | intro _ | apply Le.bind | apply Le.cond | apply Le.nil | apply Le.loop | apply Le.elim
def m160F:List Int→Option (Bool) :=
 fun x=>(m188F (x,60)).bind fun r=>some r
theorem le160 (x):Le (m160F x) (m160 x):=by
 unfold m160F m160
 repeat' first | with_reducible exact le188 _ | with_reducible exact Le.refl _ | intro _ | apply Le.bind | apply Le.cond | apply Le.nil | apply Le.loop | apply Le.elim
def m161F:(List Int×List Int)→Option (Int) :=
 fun x=>(loopF (fun (s:Int×Int)=>bif ltM s.1 (lenM x.1) then (idxM x.1 s.1).bind fun r=>(idxM x.1 (wrap IntKind.i64 (s.1-1))).bind fun r_1=>(m157
 (r,r_1)).bind fun r_2=>(idxM x.2 (wrap IntKind.i64 (wrap IntKind.i64 (s.1-1)+1))).bind fun r_3=>(idxM x.2 (wrap IntKind.i64 (s.1-1))).bind fun r_4
 => (m157 (r_3,r_4)).bind fun r_5=>((m191 (r_2,r_5)).bind fun r=>bif r then some (wrap IntKind.i64 (s.2+1)) else some s.2).bind fun o=>some (Sum.inl
 (wrap IntKind.i64 (s.1+1),o)) else some (Sum.inr s.2)) (1,0)).bind fun o=>some o
theorem le161 (x):Le (m161F x) (m161 x):=by
 unfold m161F m161
 repeat' first | with_reducible exact Le.refl _ | intro _ | apply Le.bind | apply Le.cond | apply Le.nil | apply Le.loop | apply Le.elim
def m120F:((Int×List Int)×List Int)→Option ((List (Int×Int))×Int) :=
 fun x=>(m159F (x.1.1,x.1.2)).bind fun r=>(bif PE.notM (PE.notM r) then m160F x.2 else some false).bind fun r_1=>bif PE.orM (PE.notM r) (PE.notM r_1) then
 some ([],210) else (loopF (fun (s:Int×List (Int×Int))=>bif leM (wrap IntKind.i64 (s.1+lenM x.2)) (lenM x.1.2) then (sliceM x.1.2 s.1 (wrap
 IntKind.i64 (s.1+lenM x.2))).bind fun r_2=>(m161F (x.2,r_2)).bind fun r_3=>(appM (nat_lit 16) s.2 [(s.1,r_3)]).bind fun r=>some (Sum.inl (wrap
 IntKind.i64 (s.1+1),r)) else some (Sum.inr s.2)) (0,[])).bind fun o=>(sortM (Ty.pair (Ty.int IntKind.i64) (Ty.int IntKind.i64)) cf163 o).bind fun r =>
 some (r,0)
theorem le120 (x):Le (m120F x) (m120 x):=by
 unfold m120F m120
 repeat' first | with_reducible exact le159 _ | with_reducible exact le160 _ | with_reducible exact le161 _ | with_reducible exact Le.refl _ | intro _ | apply Le.bind | apply Le.cond | apply Le.nil | apply Le.loop | apply Le.elim
def m71F:((Int×List Int)×List Int×Int)→Option (Int×Bool×Int) :=
 fun x=>(m120F ((x.1.1,x.1.2),x.2.1)).bind fun r=>(bif PE.notM (PE.notM (eqM r.2 0)) then m121 (x.2.2,1,60) else some false).bind fun r_1=>bif PE.orM
 (PE.notM (eqM r.2 0)) (PE.notM r_1) then some (0,false,210) else (bif PE.andM (PE.notM (eqM (lenM r.1) 0)) (ltM 1 (lenM r.1)) then idxM r.1 1 else some (0,
 0)).bind fun r_2=>(bif PE.andM (PE.notM (eqM (lenM r.1) 0)) (ltM 1 (lenM r.1)) then idxM r.1 0 else some (0,0)).bind fun r_3=>bif PE.orM (eqM (lenM r.1)
 0) (PE.andM (ltM 1 (lenM r.1)) (ltM (wrap IntKind.i64 (r_2.2-r_3.2)) x.2.2)) then some (0,false,0) else (idxM r.1 0).bind fun r=>some (wrap IntKind.i64
 (x.1.1+r.1),true,0)
theorem le71 (x):Le (m71F x) (m71 x):=by
 unfold m71F m71
 repeat' first | with_reducible exact le120 _ | with_reducible exact Le.refl _ | intro _ | apply Le.bind | apply Le.cond | apply Le.nil | apply Le.loop | apply Le.elim
def m32F:((Int×List Int)×List Int×Int×Int×Bool×Int)→Option ((Int×Int×Int×Int×Int)×Int) :=
 fun x=>(m71F ((x.1.1,x.1.2),x.2.1,x.2.2.1)).bind fun r=>(bif PE.notM (PE.orM (PE.notM (eqM r.2.2 0)) (PE.notM r.2.1)) then m54 (x.2.2.2.2.2,0,7) else
 some false).bind fun r_1=>bif PE.orM (PE.orM (PE.notM (eqM r.2.2 0)) (PE.notM r.2.1)) (PE.notM r_1) then some ((0,0,0,0,0),220) else (m72 (wrap
 IntKind.i64 (wrap IntKind.i64 (r.1+lenM x.2.1)-1),x.2.2.2.1,x.2.2.2.2.1)).bind fun r=>bif PE.notM (eqM r.2 0) then some ((0,0,0,0,0),220) else
 some ((1,x.2.2.2.2.2,0,r.1.1,min (wrap IntKind.i64 (r.1.2+2)) 2101),0)
theorem le32 (x):Le (m32F x) (m32 x):=by
 unfold m32F m32
 repeat' first | with_reducible exact le71 _ | with_reducible exact Le.refl _ | intro _ | apply Le.bind | apply Le.cond | apply Le.nil | apply Le.loop | apply Le.elim
def m73F:((List (Int×Int))×List (Int×Int))→Option (Bool) :=
 fun x=>bif PE.notM (eqM (lenM x.1) (lenM x.2)) then some false else (loopF (fun (s:Int)=>bif ltM s (lenM x.1) then (idxM x.1 s).bind fun r=>(idxM x.2
 s).bind fun r_1=>bif PE.notM (PE.andM (eqM r.1 r_1.1) (eqM r.2 r_1.2)) then some (Sum.inr (Sum.inr false)) else some (Sum.inl (wrap IntKind.i64 (s+1)))
 else some (Sum.inr (Sum.inl ()))) 0).bind fun o=>Sum.elim (fun (t:Unit)=>some true) (fun (t:Bool)=>some t) o
theorem le73 (x):Le (m73F x) (m73 x):=by
 unfold m73F m73
 repeat' first | with_reducible exact Le.refl _ | intro _ | apply Le.bind | apply Le.cond | apply Le.nil | apply Le.loop | apply Le.elim
def m33F:((List (Int×Int))×List (Int×Int))→Option (Bool) :=
 fun x=>(m73F (x.1,x.2)).bind fun r=>some r
theorem le33 (x):Le (m33F x) (m33 x):=by
 unfold m33F m33
 repeat' first | with_reducible exact le73 _ | with_reducible exact Le.refl _ | intro _ | apply Le.bind | apply Le.cond | apply Le.nil | apply Le.loop | apply Le.elim
def m74F:(List Int×List Int)→Option (Bool) :=
 fun x=>bif PE.notM (eqM (lenM x.1) (lenM x.2)) then some false else (loopF (fun (s:Int)=>bif ltM s (lenM x.1) then (idxM x.1 s).bind fun r=>(idxM x.2
 s).bind fun r_1=>bif PE.notM (eqM r r_1) then some (Sum.inr (Sum.inr false)) else some (Sum.inl (wrap IntKind.i64 (s+1))) else some (Sum.inr (Sum.inl
 ()))) 0).bind fun o=>Sum.elim (fun (t:Unit)=>some true) (fun (t:Bool)=>some t) o
theorem le74 (x):Le (m74F x) (m74 x):=by
 unfold m74F m74
 repeat' first | with_reducible exact Le.refl _ | intro _ | apply Le.bind | apply Le.cond | apply Le.nil | apply Le.loop | apply Le.elim
def m34F:(List Int×List Int)→Option (Bool) :=
 fun x=>(m74F (x.1,x.2)).bind fun r=>some r
theorem le34 (x):Le (m34F x) (m34 x):=by
 unfold m34F m34
 repeat' first | with_reducible exact le74 _ | with_reducible exact Le.refl _ | intro _ | apply Le.bind | apply Le.cond | apply Le.nil | apply Le.loop | apply Le.elim
def m105F:((Int×List (Int×Int×Int))×Int×List Int)→Option (Int×Int×Bool) :=
 fun x=>(loopF (fun (s:Int×Int×Int)=>bif ltM s.2.2 (lenM x.2.2) then (idxM x.2.2 s.2.2).bind fun r=>(m98 (r,0,wrap IntKind.i64 (lenM x.1.2 -
 1))).bind fun r_1=>(bif PE.notM (PE.notM r_1) then idxM x.1.2 r else some (0,0,0)).bind fun r_2=>bif PE.orM (PE.notM r_1) (PE.notM (eqM r_2.1 s.1)) then
 some (Sum.inr (Sum.inr (0,0,false))) else (idxM x.1.2 r).bind fun r_3=>(idxM x.1.2 r).bind fun r=>some (Sum.inl (r_3.2.1,wrap IntKind.i64 (s.2.1 +
 r.2.2),wrap IntKind.i64 (s.2.2+1))) else some (Sum.inr (Sum.inl (s.1,s.2.1)))) (x.2.1,0,0)).bind fun o=>Sum.elim (fun (t:Int×Int)=>some (t.1,
 t.2,leM (lenM x.2.2) 60)) (fun (t:Int×Int×Bool)=>some (t.1,t.2.1,t.2.2)) o
theorem le105 (x):Le (m105F x) (m105 x):=by
 unfold m105F m105
 repeat' first | with_reducible exact Le.refl _ | intro _ | apply Le.bind | apply Le.cond | apply Le.nil | apply Le.loop | apply Le.elim
def m66F:((Int×List (Int×Int×Int))×(Int×Int×Int)×List Int)→Option (Bool) :=
 fun x=>(m64F (x.1.1,x.1.2)).bind fun r=>(bif PE.notM (PE.notM r) then m102 (x.1.1,x.2.1.1,x.2.1.2.1,x.2.1.2.2) else some false).bind fun r_1=>bif
 PE.orM (PE.notM r) (PE.notM r_1) then some false else (m105F ((x.1.1,x.1.2),x.2.1.1,x.2.2)).bind fun r=>some (PE.andM (PE.andM r.2.2 (eqM r.1 x.2.1.2.1))
 (leM r.2.1 x.2.1.2.2))
theorem le66 (x):Le (m66F x) (m66 x):=by
 unfold m66F m66
 repeat' first | with_reducible exact le64 _ | with_reducible exact le105 _ | with_reducible exact Le.refl _ | intro _ | apply Le.bind | apply Le.cond | apply Le.nil | apply Le.loop | apply Le.elim
def m26F:(((Int×List (Int×Int))×List (Int×Int×Int×Int×Int))×Int×Int×Int×List Int)→Option (Bool) :=
 fun x=>(m62F (((x.1.1.1,x.1.1.2),x.1.2),x.2.1,x.2.2.1,x.2.2.2.1)).bind fun r=>(bif r.2.2 then m66F ((r.1.1,r.1.2),(r.2.1.1,r.2.1.2.1,r.2.1.2.2),
 x.2.2.2.2) else some false).bind fun r_1=>some (PE.andM r.2.2 r_1)
theorem le26 (x):Le (m26F x) (m26 x):=by
 unfold m26F m26
 repeat' first | with_reducible exact le62 _ | with_reducible exact le66 _ | with_reducible exact Le.refl _ | intro _ | apply Le.bind | apply Le.cond | apply Le.nil | apply Le.loop | apply Le.elim
def m56F:((Int×List (Int×Int×Int))×List Int)→Option (Bool) :=
 fun x=>(m64F (x.1.1,x.1.2)).bind fun r=>(bif PE.notM (PE.orM (PE.notM r) (PE.notM (eqM (lenM x.2) x.1.1))) then ((loopF (fun (s:Int)=>bif ltM s (lenM
 x.2) then (idxM x.2 s).bind fun r_1=>(m97 r_1).bind fun r=>bif r then some (Sum.inr (Sum.inr s)) else some (Sum.inl (wrap IntKind.i64 (s+1))) else some
 (Sum.inr (Sum.inl ()))) 0).bind fun o=>Sum.elim (fun (t:Unit)=>some (-1)) (fun (t:Int)=>some t) o).bind fun (ov:Int)=>some (leM 0 ov) else some
 false).bind fun (ov:Bool)=>bif PE.orM (PE.orM (PE.notM r) (PE.notM (eqM (lenM x.2) x.1.1))) ov then some false else ((loopF (fun (s:Int)=>bif ltM s
 (lenM x.1.2) then (idxM x.1.2 s).bind fun r_1=>(idxM x.2 r_1.2.1).bind fun r_2=>(idxM x.2 r_1.1).bind fun r=>bif ltM r_1.2.2 (wrap IntKind.i64 (r_2 -
 r)) then some (Sum.inr (Sum.inr s)) else some (Sum.inl (wrap IntKind.i64 (s+1))) else some (Sum.inr (Sum.inl ()))) 0).bind fun o=>Sum.elim (fun (t:Unit)
 => some (-1)) (fun (t:Int)=>some t) o).bind fun (ov:Int)=>some (PE.notM (leM 0 ov))
theorem le56 (x):Le (m56F x) (m56 x):=by
 unfold m56F m56
 repeat' first | with_reducible exact le64 _ | with_reducible exact Le.refl _ | intro _ | apply Le.bind | apply Le.cond | apply Le.nil | apply Le.loop | apply Le.elim
def m18F:(((Int×List (Int×Int))×List (Int×Int×Int×Int×Int))×List Int)→Option (Bool) :=
 fun x=>(m24F ((x.1.1.1,x.1.1.2),x.1.2)).bind fun r=>bif eqM r.2 0 then bif PE.andM true (eqM (lenM x.2) x.1.1.1) then ((loopF (fun (s:Int)=>bif ltM s
 (lenM x.2) then (idxM x.2 s).bind fun r_1=>(m53 r_1).bind fun r=>bif r then some (Sum.inr (Sum.inr s)) else some (Sum.inl (wrap IntKind.i64 (s+1))) else
 some (Sum.inr (Sum.inl ()))) 0).bind fun o=>Sum.elim (fun (t:Unit)=>some (-1)) (fun (t:Int)=>some t) o).bind fun (ov:Int)=>bif PE.andM true
 (PE.notM (leM 0 ov)) then (mo57 x.2).bind fun r_1=>(appM (nat_lit 8) r_1 [0]).bind fun r_2=>(m56F ((r.1.1,r.1.2),r_2)).bind fun r=>some (PE.andM true
 r) else some false else some false else some false
theorem le18 (x):Le (m18F x) (m18 x):=by
 unfold m18F m18
 repeat' first | with_reducible exact le24 _ | with_reducible exact le56 _ | with_reducible exact Le.refl _ | intro _ | apply Le.bind | apply Le.cond | apply Le.nil | apply Le.loop | apply Le.elim
def m10F:Unit→Option (Bool) :=
 fun x=>(sliceM [(2,0,0,1320,0),(1,2,0,1300,1341),(5,0,1,5,200)] 0 2).bind fun r=>(appM (nat_lit 40) [] [(2,0,0,1320,0),(1,2,0,1300,
 1341),(5,0,1,5,200)]).bind fun r_1=>(appM (nat_lit 40) r_1 [(3,1,0,1324,0)]).bind fun r_2=>(m17F ((3,[(0,1),(1,2)]),[(2,0,0,1320,0),(1,
 2,0,1300,1341),(5,0,1,5,200)])).bind fun r_3=>(m17F ((3,[(0,1),(1,2)]),r)).bind fun r_4=>(m17F ((3,[(0,1),(1,2)]),r_2)).bind fun r_5 =>
 (m23F (((3,[(0,1),(1,2)]),[(2,0,0,1320,0),(1,2,0,1300,1341),(5,0,1,5,200)]),0,2,5)).bind fun r_6=>(m23F (((3,[(0,1),(1,2)]),[(2,
 0,0,1320,0),(1,2,0,1300,1341),(5,0,1,5,200)]),0,2,6)).bind fun r_7=>(m16F ((3,[(0,1),(1,2)]),r_2)).bind fun r_8=>(m16F ((3,[(0,1),
 (1,2)]),[(2,0,0,1320,0),(1,2,0,1300,1341),(5,0,1,5,200)])).bind fun r_9=>(m24F ((3,[(0,1),(1,2)]),[(2,0,0,1320,0),(1,2,0,1300,
 1341),(5,0,1,5,200)])).bind fun r_10=>(m31F ((800001,2),[],(0,0,0,0,0,1340,(-1)),2)).bind fun r_11=>(m32F ((1400,[10,12,11,15,14,13,
 16,18,12]),[11,15,14,13,16,18],1,0,true,1)).bind fun r_12=>(m32F ((1400,[10,12,11,15,14,13,16,18,12]),[11,15,14,13,16,18],40,0,
 true,9)).bind fun r_13=>bif PE.orM (PE.orM (PE.orM (PE.orM (PE.orM (PE.orM (PE.orM (PE.orM (PE.orM (PE.orM (PE.notM (eqM r_3.2 0)) (PE.notM (eqM r_4.2 0)))
 (PE.notM (eqM r_5.2 220))) (PE.notM (eqM r_10.2 0))) (PE.notM (eqM r_11.2 0))) (PE.notM (eqM r_12.2 0))) (PE.notM (eqM r_13.2 220))) (PE.notM r_6.2)) r_7.2)
 (PE.notM r_8.2)) r_9.2 then some false else (m33F (r_3.1,[(1320,1336),(1325,1341),(1325,1341)])).bind fun r_14=>(bif r_14 then m33F (r_4.1,[(1320,
 1341),(1320,1341),(1320,1341)]) else some false).bind fun r_15=>(m34F (r_6.1,[13,11])).bind fun r_16=>(bif r_16 then m26F (((3,[(0,1),(1,2)]),
 [(2,0,0,1320,0),(1,2,0,1300,1341),(5,0,1,5,200)]),0,2,5,r_6.1) else some false).bind fun r_17=>(bif PE.andM r_16 r_17 then m26F (((3,[(0,
 1),(1,2)]),[(2,0,0,1320,0),(1,2,0,1300,1341),(5,0,1,5,200)]),0,2,6,r_6.1) else some false).bind fun r_18=>(bif PE.andM (PE.andM r_16
 r_17) (PE.notM r_18) then m34F (r_8.1,[0,2,3]) else some false).bind fun r_19=>(bif PE.andM (PE.andM (PE.andM r_14 r_15) (PE.andM (PE.andM (PE.andM
 (PE.andM (PE.andM r_16 r_17) (PE.notM r_18)) r_19) (eqM r_10.1.1 4)) (eqM (lenM r_10.1.2) 14))) (PE.andM (PE.andM (eqM r_11.1.1 1) (PE.andM (eqM r_11.1.2.1 2)
 (PE.andM (eqM r_11.1.2.2.1 0) (PE.andM (eqM r_11.1.2.2.2.1 1340) (eqM r_11.1.2.2.2.2 1342))))) (PE.andM (eqM r_12.1.1 1) (PE.andM (eqM r_12.1.2.1 1) (PE.andM
 (eqM r_12.1.2.2.1 0) (PE.andM (eqM r_12.1.2.2.2.1 1407) (eqM r_12.1.2.2.2.2 1410)))))) then m20F ((3,[(0,1),(1,2)]),[(2,0,0,1320,0),(1,2,0,1300,
 1341),(5,0,1,5,200)]) else some false).bind fun r_20=>(bif PE.andM (PE.andM (PE.andM (PE.andM r_14 r_15) (PE.andM (PE.andM (PE.andM (PE.andM (PE.andM
 r_16 r_17) (PE.notM r_18)) r_19) (eqM r_10.1.1 4)) (eqM (lenM r_10.1.2) 14))) (PE.andM (PE.andM (eqM r_11.1.1 1) (PE.andM (eqM r_11.1.2.1 2) (PE.andM (eqM
 r_11.1.2.2.1 0) (PE.andM (eqM r_11.1.2.2.2.1 1340) (eqM r_11.1.2.2.2.2 1342))))) (PE.andM (eqM r_12.1.1 1) (PE.andM (eqM r_12.1.2.1 1) (PE.andM (eqM
 r_12.1.2.2.1 0) (PE.andM (eqM r_12.1.2.2.2.1 1407) (eqM r_12.1.2.2.2.2 1410))))))) r_20 then m20F ((9,[]),[]) else some false).bind fun r_21=>(bif PE.andM
 (PE.andM (PE.andM (PE.andM (PE.andM r_14 r_15) (PE.andM (PE.andM (PE.andM (PE.andM (PE.andM r_16 r_17) (PE.notM r_18)) r_19) (eqM r_10.1.1 4)) (eqM (lenM
 r_10.1.2) 14))) (PE.andM (PE.andM (eqM r_11.1.1 1) (PE.andM (eqM r_11.1.2.1 2) (PE.andM (eqM r_11.1.2.2.1 0) (PE.andM (eqM r_11.1.2.2.2.1 1340) (eqM
 r_11.1.2.2.2.2 1342))))) (PE.andM (eqM r_12.1.1 1) (PE.andM (eqM r_12.1.2.1 1) (PE.andM (eqM r_12.1.2.2.1 0) (PE.andM (eqM r_12.1.2.2.2.1 1407) (eqM
 r_12.1.2.2.2.2 1410))))))) r_20) (PE.notM r_21) then m18F (((3,[(0,1),(1,2)]),[(2,0,0,1320,0),(1,2,0,1300,1341),(5,0,1,5,200)]),[1320,
 1325,1340]) else some false).bind fun r_22=>(bif PE.andM (PE.andM (PE.andM (PE.andM (PE.andM (PE.andM r_14 r_15) (PE.andM (PE.andM (PE.andM (PE.andM
 (PE.andM r_16 r_17) (PE.notM r_18)) r_19) (eqM r_10.1.1 4)) (eqM (lenM r_10.1.2) 14))) (PE.andM (PE.andM (eqM r_11.1.1 1) (PE.andM (eqM r_11.1.2.1 2) (PE.andM
 (eqM r_11.1.2.2.1 0) (PE.andM (eqM r_11.1.2.2.2.1 1340) (eqM r_11.1.2.2.2.2 1342))))) (PE.andM (eqM r_12.1.1 1) (PE.andM (eqM r_12.1.2.1 1) (PE.andM (eqM
 r_12.1.2.2.1 0) (PE.andM (eqM r_12.1.2.2.2.1 1407) (eqM r_12.1.2.2.2.2 1410))))))) r_20) (PE.notM r_21)) r_22 then m18F (((3,[(0,1),(1,2)]),[(2,0,0,
 1320,0),(1,2,0,1300,1341),(5,0,1,5,200)]),[1320,1324,1340]) else some false).bind fun r=>some (PE.andM (PE.andM (PE.andM (PE.andM (PE.andM
 (PE.andM (PE.andM r_14 r_15) (PE.andM (PE.andM (PE.andM (PE.andM (PE.andM r_16 r_17) (PE.notM r_18)) r_19) (eqM r_10.1.1 4)) (eqM (lenM r_10.1.2) 14)))
 (PE.andM (PE.andM (eqM r_11.1.1 1) (PE.andM (eqM r_11.1.2.1 2) (PE.andM (eqM r_11.1.2.2.1 0) (PE.andM (eqM r_11.1.2.2.2.1 1340) (eqM r_11.1.2.2.2.2 1342)))))
 (PE.andM (eqM r_12.1.1 1) (PE.andM (eqM r_12.1.2.1 1) (PE.andM (eqM r_12.1.2.2.1 0) (PE.andM (eqM r_12.1.2.2.2.1 1407) (eqM r_12.1.2.2.2.2 1410))))))) r_20)
 (PE.notM r_21)) r_22) (PE.notM r))
theorem le10 (x):Le (m10F x) (m10 x):=by
 unfold m10F m10
 repeat' first | with_reducible exact le16 _ | with_reducible exact le17 _ | with_reducible exact le18 _ | with_reducible exact le20 _ | with_reducible exact le23 _ | with_reducible exact le24 _ | with_reducible exact le26 _ | with_reducible exact le31 _ | with_reducible exact le32 _ | with_reducible exact le33 _ | with_reducible exact le34 _ | with_reducible exact Le.refl _ | intro _ | apply Le.bind | apply Le.cond | apply Le.nil | apply Le.loop | apply Le.elim
end
end Go.Proofs.YthfgccfaildmfaaGreatDoor
namespace Go.Proofs.YthfgccfaildmfaaGreatDoor
open Go Go.Abs Go.PE
set_option maxRecDepth 100000 in
theorem saneF:m10F ()=some true:=by kernel_rfl
theorem sane_ok:m10 ()=some true:=(le10 ()).out saneF
end Go.Proofs.YthfgccfaildmfaaGreatDoor
namespace Go.Proofs.YthfgccfaildmfaaGreatDoor
open Go Go.Abs Go.PE
open Ord (Rel clos)
set_option maxRecDepth 10000
end Go.Proofs.YthfgccfaildmfaaGreatDoor
namespace Go.Proofs.YthfgccfaildmfaaGreatDoor
open Go Go.Abs Go.PE
open Ord (Rel clos)
set_option maxRecDepth 10000
def kp (x:Sys) (g:Nat→Int):Prop:=∀ a b:Nat,∀ m:Int,((a:Int),(b:Int),m)∈x.2→g b-g a≤m
theorem kp_rg {d:Dat} (h:DOK d) {g:Nat→Int} (h0:g (og d)=0) (hk:kp (bds d) g) {a:Nat} (ha:a<og d):0≤g a∧g a≤2100:=by
 have e:=og_is h
 have h1:=hk a (og d) 0 (mem_bds.2 (.inl ⟨a,ha,.inl (by rw [e])⟩))
 have h2:=hk (og d) a 2100 (mem_bds.2 (.inl ⟨a,ha,.inr (by rw [e])⟩))
 omega
theorem alw_kp {d:Dat} (h:DOK d) {g:Nat→Int} (h0:g (og d)=0) (hk:kp (bds d) g):alw d (row (og d) g)=true:=by
 have hN:=bds_n h
 have e:=og_is h
 unfold alw
 rw [h.v,Bool.true_and,decide_eq_true (by rw [row_length];exact e),Bool.true_and,Bool.and_eq_true]
 refine ⟨List.all_eq_true.2 fun v hv=>?_,?_⟩
 ·obtain ⟨i,hi,rfl⟩:=row_mem hv
  exact decide_eq_true (kp_rg h h0 hk hi)
 ·have e2:row (og d) g++[0]=row (bds d).1.toNat g:=by rw [hN,row_succ,h0]
  rw [e2]
  refine (allw_row h.s).2 ⟨fun i hi=>?_,hk⟩
  rcases Nat.lt_or_ge i (og d) with hi2 | hi2
  ·have:=kp_rg h h0 hk hi2
   omega
  ·have:i=og d:=by omega
   subst this
   omega
theorem alw_of {d:Dat} {y:List Int} (h:alw d y=true):(y.length:Int)=d.1.1∧kp (bds d) fun a=>y.getD a 0:=by
 unfold alw at h
 rw [Bool.and_eq_true,Bool.and_eq_true,Bool.and_eq_true,decide_eq_true_eq] at h
 refine ⟨h.1.1.2,fun a b m hm=>?_⟩
 have:=allw_keep h.2 hm
 have e:∀ k,(y++[0]).getD k 0=y.getD k 0:=fun k=>by
  rw [List.getD_eq_getElem?_getD,List.getD_eq_getElem?_getD]
  rcases Nat.lt_or_ge k y.length with hk | hk
  ·rw [List.getElem?_append_left hk]
  ·rw [List.getElem?_append_right hk,List.getElem?_eq_none hk]
   cases k-y.length<;>rfl
 rw [e,e] at this
 exact this
def fit (e:Int) (y:List Int) (q:Clu):Prop :=
 (q.1=1→q.2.2.2.1≤y.getD q.2.1.toNat 0+e∧y.getD q.2.1.toNat 0<q.2.2.2.2+e)∧(q.1=2→q.2.2.2.1≤y.getD q.2.1.toNat 0+e)∧(q.1=3→y.getD q.2.1.toNat 0≤q.2.2.2.1+e) ∧
 (q.1=4→y.getD q.2.2.1.toNat 0=y.getD q.2.1.toNat 0)∧(q.1=5→q.2.2.2.1≤y.getD q.2.2.1.toNat 0-y.getD q.2.1.toNat 0+e∧y.getD q.2.2.1.toNat 0-y.getD q.2.1.toNat 0≤q.2.2.2.2+e)
theorem clb_fit {N e:Int} {y:List Int} {q:Clu} (hN:0≤N) (he:0≤e) (l0:y.getD N.toNat 0=0) (hr:0≤y.getD q.2.1.toNat 0∧y.getD q.2.1.toNat 0≤2100) (hv:vcl N q=true) (ht:fit e y q) {a b:Nat} {m:Int} (hc:((a:Int),(b:Int),m)∈clb N q):y.getD b 0-y.getD a 0≤m+e:=by
 obtain ⟨v1,v2,v3⟩:=vcl_of hv
 obtain ⟨t1,t2,t3,t4,t5⟩:=ht
 unfold clb at hc
 split at hc
 ·have:=t1 ‹_›
  simp only [List.mem_cons,List.not_mem_nil,or_false,Prod.mk.injEq] at hc
  rcases hc with ⟨e1,e2,rfl⟩ | ⟨e1,e2,rfl⟩
  ·rw [show a=q.2.1.toNat by omega,show b=N.toNat by omega];omega
  ·rw [show b=q.2.1.toNat by omega,show a=N.toNat by omega];omega
 ·split at hc
  ·have:=t2 ‹_›
   simp only [List.mem_cons,List.not_mem_nil,or_false,Prod.mk.injEq] at hc
   rcases hc with ⟨e1,e2,rfl⟩ | ⟨e1,e2,rfl⟩
   ·rw [show a=q.2.1.toNat by omega,show b=N.toNat by omega];omega
   ·rw [show b=q.2.1.toNat by omega,show a=N.toNat by omega];omega
  ·split at hc
   ·have:=t3 ‹_›
    simp only [List.mem_cons,List.not_mem_nil,or_false,Prod.mk.injEq] at hc
    rcases hc with ⟨e1,e2,rfl⟩ | ⟨e1,e2,rfl⟩
    ·rw [show a=q.2.1.toNat by omega,show b=N.toNat by omega];omega
    ·rw [show b=q.2.1.toNat by omega,show a=N.toNat by omega];omega
   ·simp only [List.mem_cons,List.not_mem_nil,or_false,Prod.mk.injEq] at hc
    rcases hc with ⟨e1,e2,rfl⟩ | ⟨e1,e2,rfl⟩
    ·rw [show a=q.2.1.toNat by omega,show b=q.2.2.1.toNat by omega]
     rcases (show q.1=4∨q.1=5 by omega) with k | k
     ·have:=t4 k;omega
     ·have:=t5 k;omega
    ·rw [show b=q.2.1.toNat by omega,show a=q.2.2.1.toNat by omega]
     rcases (show q.1=4∨q.1=5 by omega) with k | k
     ·have:=t4 k;omega
     ·have:=t5 k;omega
theorem pass_loop {n:Nat} {body:Int→Option (Int⊕(Unit⊕Bool))} (hb:∀ k,k<n→body (k:Int)=some (.inl ((k:Int)+1))) (he:body (n:Int)=some (.inr (.inl ()))):loopM body 0=some (.inl ()):=by
 obtain ⟨b,q1,q2⟩:=all_loop (n:=n) (fun _=>true) (body:=body) hb he
 have:b=true:=q2.2 fun _ _=>rfl
 subst this
 exact q1
end Go.Proofs.YthfgccfaildmfaaGreatDoor
namespace Go.Proofs.YthfgccfaildmfaaGreatDoor
open Go Go.Abs Go.PE
open Ord (Rel clos)
set_option maxRecDepth 10000
theorem memD {α:Type} {xs:List α} {k:Nat} (h:k<xs.length) (z:α):xs.getD k z∈xs:=by
 rw [getD_of h]
 exact List.getElem_mem h
theorem getD_left {α:Type} {xs ys:List α} {k:Nat} (h:k<xs.length) (z:α):(xs++ys).getD k z=xs.getD k z:=by
 rw [List.getD_eq_getElem?_getD,List.getElem?_append_left h,← List.getD_eq_getElem?_getD]
theorem getD_right {α:Type} {xs ys:List α} {k:Nat} (h:xs.length≤k) (z:α):(xs++ys).getD k z=ys.getD (k-xs.length) z:=by
 rw [List.getD_eq_getElem?_getD,List.getElem?_append_right h,← List.getD_eq_getElem?_getD]
theorem nodup_len:∀ (a b:List Int),a.Nodup→(∀ x∈a,x∈b)→a.length≤b.length:=fun a b h1 h2=>nodup_sub a b h1 h2
structure Cyc (x:Sys) (m:Nat) (v:Nat→Nat) (S:Nat→Int):Prop where
 pos:1≤m
 v0:v 0<x.1.toNat
 ret:v m=v 0
 s0:S 0=0
 neg:S m<0
 st:∀ k,k<m→((v k:Int),(v (k+1):Int),S (k+1)-S k)∈x.2
 inj:∀ a b,a<b→b<m→v a≠v b
theorem cyc_of {x:Sys} (hs:sys x=true) (ho:ovS x=true):∃ v S,Cyc x (cycL x.2).length v S ∧
  (∀ k (hk:k<(cycL x.2).length),0≤(cycL x.2)[k]∧(cycL x.2)[k]<x.2.length∧x.2.getD (cycL x.2)[k].toNat (0,0,0)=((v k:Int),(v (k+1):Int),S (k+1)-S k)) ∧
  (∀ u m w,u<x.1.toNat→m<(cycL x.2).length→WN x.2 u u m w→0≤w)∧(cycL x.2).length≤x.1.toNat:=by
 obtain ⟨_,v,S,p1,p2,p3,p4,p5,p6,p7,p8⟩:=cyc_st hs ho
 have hst:∀ k,k<(cycL x.2).length→((v k:Int),(v (k+1):Int),S (k+1)-S k)∈x.2:=fun k hk=>by
  obtain ⟨g1,g2,g3⟩:=p7 k hk
  rw [← g3]
  exact memD (by omega) _
 exact ⟨v,S,⟨p1,p3,p4,p5,p6,hst,fun a b hab hb=>cyc_inj hs p3 p4 p5 p6 hst p8 hab hb⟩,p7,p8,p2⟩
theorem Cyc.wn {x:Sys} {m:Nat} {v:Nat→Nat} {S:Nat→Int} (h:Cyc x m v S) {bs:List Bnd} (hst:∀ k,k<m→((v k:Int),(v (k+1):Int),S (k+1)-S k)∈bs):WN bs (v 0) (v 0) m (S m):=by
 have w:=seg hst 0 m (by omega)
 rw [Nat.zero_add,h.ret,h.s0,Int.sub_zero] at w
 exact w
theorem Cyc.cross {x:Sys} {m:Nat} {v:Nat→Nat} {S:Nat→Int} (h:Cyc x m v S) {a b:Nat} (hab:a<b) (hb:b<m) (x1:v a=v (b+1)) (x2:v (a+1)=v b) (hw:0≤(S (a+1)-S a)+(S (b+1)-S b)):False:=by
 have e1:a+1=b:=Classical.byContradiction fun hne=>h.inj (a+1) b (by omega) hb x2
 have e2:b+1=m:=Classical.byContradiction fun hne=>h.inj a (b+1) (by omega) (by omega) x1
 rw [e2,h.ret] at x1
 have e3:a=0:=Classical.byContradiction fun hne=>h.inj 0 a (by omega) (by omega) x1.symm
 subst e3
 have e4:b=1:=by omega
 subst e4
 have e5:m=2:=by omega
 subst e5
 have r1:=h.s0
 have r2:=h.neg
 have r3:S (0+1)=S 1:=rfl
 have r4:S (1+1)=S 2:=rfl
 omega
theorem clb_two {n:Int} {q:Clu} (hv:vcl n q=true):∃ p r m1 m2,clb n q=[(p,r,m1),(r,p,m2)]∧0≤m1+m2:=by
 obtain ⟨v1,v2,v3⟩:=vcl_of hv
 unfold clb
 split
 ·exact ⟨_,_,_,_,rfl,by omega⟩
 ·split
  ·exact ⟨_,_,_,_,rfl,by omega⟩
  ·split
   ·exact ⟨_,_,_,_,rfl,by omega⟩
   ·exact ⟨_,_,_,_,rfl,by omega⟩
theorem Cyc.clue {x:Sys} {m:Nat} {v:Nat→Nat} {S:Nat→Int} (h:Cyc x m v S) {n:Int} {q:Clu} (hv:vcl n q=true) {a b:Nat} (hab:a<b) (hb:b<m)
  (h1:((v a:Int),(v (a+1):Int),S (a+1)-S a)∈clb n q) (h2:((v b:Int),(v (b+1):Int),S (b+1)-S b)∈clb n q):False:=by
 obtain ⟨p,r,m1,m2,e,hm⟩:=clb_two hv
 rw [e] at h1 h2
 simp only [List.mem_cons,List.not_mem_nil,or_false,Prod.mk.injEq] at h1 h2
 have n1:=h.inj a b hab hb
 rcases h1 with ⟨x1,x2,x3⟩ | ⟨x1,x2,x3⟩<;>rcases h2 with ⟨y1,y2,y3⟩ | ⟨y1,y2,y3⟩
 ·omega
 ·exact h.cross hab hb (by omega) (by omega) (by omega)
 ·exact h.cross hab hb (by omega) (by omega) (by omega)
 ·omega
def inl (d:Dat) (l:List Int):Prop:=∀ i∈l,0≤i∧i<(d.2.length:Int)+(rpr d.1).length
def ownr (d:Dat) (k:Nat):Int:=if k<2*og d then -1 else if k<2*og d+2*d.2.length then (((k-2*og d) / 2:Nat):Int) else ((k-2*og d-d.2.length:Nat):Int)
theorem flat2 {α β:Type} {f:α→List β} (hf:∀ q,(f q).length=2) (z:β) (z':α):∀ (L:List α) (k:Nat),k<2*L.length→(L.flatMap f).getD k z∈f (L.getD (k / 2) z')
 | [],k,h=>by simp at h
 | q::L,k,h=>by
  rw [List.flatMap_cons]
  have h2:=hf q
  rcases Nat.lt_or_ge k 2 with hk | hk
  ·have e:k / 2=0:=by omega
   rw [e,List.getD_cons_zero,getD_left (by omega)]
   exact memD (by omega) _
  ·have e:k / 2=(k-2) / 2+1:=by omega
   rw [getD_right (by omega),h2,e,List.getD_cons_succ]
   refine flat2 hf z z' L (k-2) ?_
   rw [List.length_cons] at h
   omega
theorem own_is {d:Dat} {k:Nat} (hk:k<(bds d).2.length) :
  (ownr d k=-1∧∃ a:Nat,a<og d∧((bds d).2.getD k (0,0,0)=((a:Int),d.1.1,0)∨(bds d).2.getD k (0,0,0)=(d.1.1,(a:Int),2100))) ∨
  (∃ j:Nat,j<d.2.length∧ownr d k=(j:Int)∧(bds d).2.getD k (0,0,0)∈clb d.1.1 (d.2.getD j (0,0,0,0,0))) ∨
  ∃ j:Nat,j<(rpr d.1).length∧ownr d k=(d.2.length:Int)+j∧(bds d).2.getD k (0,0,0)=(((rpr d.1).getD j (0,0)).2,((rpr d.1).getD j (0,0)).1,0):=by
 have lA:(obs d.1.1 d.1.1.toNat).length=2*og d:=obs_len _ _
 have lB:(d.2.flatMap (clb d.1.1)).length=2*d.2.length:=clbs_len _ _
 have lC:(prs (rpr d.1)).length=(rpr d.1).length:=prs_len _
 have hk':k<(obs d.1.1 d.1.1.toNat++d.2.flatMap (clb d.1.1)++prs (rpr d.1)).length:=hk
 simp only [List.length_append,lA,lB,lC] at hk'
 show (ownr d k=-1∧∃ a:Nat,a<og d∧((obs d.1.1 d.1.1.toNat++d.2.flatMap (clb d.1.1)++prs (rpr d.1)).getD k (0,0,0)=_∨(obs d.1.1 d.1.1.toNat++d.2.flatMap (clb d.1.1)++prs (rpr d.1)).getD k (0,0,0)=_))∨(∃ j:Nat,_∧_∧(obs d.1.1 d.1.1.toNat++d.2.flatMap (clb d.1.1)++prs (rpr d.1)).getD k (0,0,0)∈_)∨∃ j:Nat,_∧_∧(obs d.1.1 d.1.1.toNat++d.2.flatMap (clb d.1.1)++prs (rpr d.1)).getD k (0,0,0)=_
 unfold ownr
 by_cases h1:k<2*og d
 ·refine .inl ⟨if_pos h1,?_⟩
  rw [List.append_assoc,getD_left (by omega)]
  have hm:=memD (xs:=obs d.1.1 d.1.1.toNat) (k:=k) (by omega) (0,0,0)
  generalize (obs d.1.1 d.1.1.toNat).getD k (0,0,0)=c at hm
  unfold obs at hm
  obtain ⟨a,ha,hc⟩:=List.mem_flatMap.1 hm
  refine ⟨a,List.mem_range.1 ha,?_⟩
  simpa using hc
 ·rw [if_neg h1]
  by_cases h2:k<2*og d+2*d.2.length
  ·refine .inr (.inl ⟨(k-2*og d) / 2,by omega,if_pos h2,?_⟩)
   rw [List.append_assoc,getD_right (by omega),lA,getD_left (by omega)]
   exact flat2 (clb_len _) _ _ _ _ (by omega)
  ·refine .inr (.inr ⟨k-2*og d-2*d.2.length,by omega,by rw [if_neg h2];omega,?_⟩)
   have lAB:(obs d.1.1 d.1.1.toNat++d.2.flatMap (clb d.1.1)).length=2*og d+2*d.2.length:=by rw [List.length_append,lA,lB]
   rw [getD_right (by omega),lAB,show k-(2*og d+2*d.2.length)=k-2*og d-2*d.2.length by omega,getD_of (by omega),getD_of (by omega)]
   unfold prs
   rw [List.getElem_map]
end Go.Proofs.YthfgccfaildmfaaGreatDoor
namespace Go.Proofs.YthfgccfaildmfaaGreatDoor
open Go Go.Abs Go.PE
open Ord (Rel clos)
set_option maxRecDepth 10000
def ownF (d:Dat) (l:List Int):List Int:=(l.map fun e=>ownr d e.toNat).filter fun i=>decide (0≤i)
def ownL (d:Dat):List Int:=ownF d (cycL (bds d).2)
def blL (d:Dat):List Int:=if ovS (bds d)=true then Lib.compact (isortI (ownL d)) else []
theorem ownF_len (d:Dat) (l:List Int):(ownF d l).length≤l.length:=by
 unfold ownF
 refine Nat.le_trans (List.length_filter_le _ _) ?_
 rw [List.length_map]
 exact Nat.le_refl _
theorem ownF_snoc (d:Dat) (l:List Int) (e:Int):ownF d (l++[e])=if 0≤ownr d e.toNat then ownF d l++[ownr d e.toNat] else ownF d l:=by
 unfold ownF
 rw [List.map_append,List.filter_append]
 split
 ·rename_i h;simp [h]
 ·rename_i h;simp [h]
theorem own_0 {d:Dat} {k:Nat} (h:k<2*og d):ownr d k=-1:=if_pos h
theorem own_1 {d:Dat} {j:Nat} (h:j<d.2.length):ownr d (2*og d+2*j)=(j:Int)∧ownr d (2*og d+2*j+1)=(j:Int):=by
 unfold ownr
 rw [if_neg (by omega),if_pos (by omega),if_neg (by omega),if_pos (by omega)]
 constructor<;>omega
theorem own_2 {d:Dat} {j:Nat}:ownr d (2*og d+2*d.2.length+j)=(d.2.length:Int)+j:=by
 unfold ownr
 rw [if_neg (by omega),if_neg (by omega)]
 omega
theorem app8 {m:Nat} {g:Nat→Int} {y:Int} (hy:y=g m) (h:m≤1000):appM (nat_lit 8) (row m g) [y]=some (row (m+1) g):=app_rowOf hy (by show (m+1)*8≤140737488355328;omega)
theorem m16_eq {d:Dat} (h:DOK d):m16 d=some (blL d,ovS (bds d)):=by
 unfold m16
 rw [show (((d.1.1,d.1.2),d.2):Dat)=d from rfl,m24_eq,if_pos h.v,Option.bind_some]
 refine bind_of (m50_eq (bds d)) ?_
 dsimp only
 unfold cycR blL
 rw [h.s,Bool.true_and]
 cases ho:ovS (bds d) with
 | false=>rfl
 | true =>
  rw [show PE.orM (PE.notM (eqM (0:Int) (0:Int))) (PE.notM (bif true then (cycL (bds d).2,true) else (([]:List Int),false)).2)=false from rfl,cond_false,if_pos rfl]
  have hn:=h.n0
  have e:=og_is h
  have hc:=h.c
  have hO:=(vld_of h.v).1
  have hcl:=(vld_of h.v).2.2
  have hr:=rpr_len d.1 hO
  have hbl:(bds d).2.length=2*og d+2*d.2.length+(rpr d.1).length:=by
   show (obs d.1.1 d.1.1.toNat++d.2.flatMap (clb d.1.1)++prs (rpr d.1)).length=_
   simp only [List.length_append,obs_len,clbs_len,prs_len]
   rfl
  refine bind_of (x:=row (2*og d+2*d.2.length+(rpr d.1).length) (ownr d)) ?_ ?_
  ·refine bind_of (x:=.inl (row (2*og d) (ownr d))) ?_ ?_
   ·refine count_from (fun i=>row (2*i) (ownr d)) (og d) rfl (fun i hi=>?_) ?_
    ·rw [ltI (by dsimp only;omega),cond_true]
     dsimp only
     rw [app8 (own_0 (by omega)).symm (by omega),Option.bind_some,app8 (own_0 (by omega)).symm (by omega),Option.bind_some,wrap_in (by omega) (by omega)]
     rfl
    ·rw [geI (by dsimp only;omega),cond_false]
   ·rw [Sum.elim_inl]
    refine bind_of (x:=.inl (row (2*og d+2*d.2.length) (ownr d))) ?_ ?_
    ·refine count_from (fun i=>row (2*og d+2*i) (ownr d)) d.2.length rfl (fun i hi=>?_) ?_
     ·have hv:=vcl_of (hcl _ (List.getElem_mem hi))
      dsimp only
      rw [ltI (by show (i:Int)<(d.2.length:Int);omega),cond_true,idxM_lt hi,Option.bind_some]
      have o1:=own_1 hi
      have two:Option.bind (appM (nat_lit 8) (row (2*og d+2*i) (ownr d)) [(i:Int)]) (fun r=>Option.bind (appM (nat_lit 8) r [(i:Int)]) fun r=>(some (Sum.inr r):Option (List Int⊕List Int)))=some (.inr (row (2*og d+2*(i+1)) (ownr d))):=by
       rw [app8 o1.1.symm (by omega),Option.bind_some,app8 o1.2.symm (by omega),Option.bind_some]
       rfl
      generalize d.2[i]=c at hv ⊢
      obtain ⟨v1,v2,hv⟩:=hv
      have e138:m138 c=some (c.2.2.2.1,IntKind.wrap IntKind.i64 (c.2.2.2.2-1)):=rfl
      have e139:m139 c=some (c.2.2.2.1,2100):=rfl
      have e140:m140 c=some (0,c.2.2.2.1):=rfl
      have e141:m141 c=some (c.2.2.2.1,c.2.2.2.2):=rfl
      refine bind_of (x:=.inr (row (2*og d+2*(i+1)) (ownr d))) ?_ ?_
      ·by_cases k1:c.1=1
       ·rw [show PE.orM (eqM c.1 (1:Int)) (PE.orM (eqM c.1 (2:Int)) (eqM c.1 (3:Int)))=true by rw [eqI k1];rfl,cond_true,eqI k1,cond_true]
        exact bind_of e138 two
       ·by_cases k2:c.1=2
        ·rw [show PE.orM (eqM c.1 (1:Int)) (PE.orM (eqM c.1 (2:Int)) (eqM c.1 (3:Int)))=true by rw [neI k1,eqI k2];rfl,cond_true,neI k1,cond_false,eqI k2,cond_true]
         exact bind_of e139 two
        ·by_cases k3:c.1=3
         ·rw [show PE.orM (eqM c.1 (1:Int)) (PE.orM (eqM c.1 (2:Int)) (eqM c.1 (3:Int)))=true by rw [neI k1,neI k2,eqI k3];rfl,cond_true,neI k1,cond_false,neI k2,cond_false,eqI k3,cond_true]
          exact bind_of e140 two
         ·rw [show PE.orM (eqM c.1 (1:Int)) (PE.orM (eqM c.1 (2:Int)) (eqM c.1 (3:Int)))=false by rw [neI k1,neI k2,neI k3];rfl,cond_false]
          have e45:(bif eqM c.1 (4:Int) then m141 c else bif eqM c.1 (5:Int) then m141 c else none)=some (c.2.2.2.1,c.2.2.2.2):=by
           by_cases k4:c.1=4
           ·rw [eqI k4,cond_true,e141]
           ·have k5:c.1=5:=by omega
            rw [neI k4,cond_false,eqI k5,cond_true,e141]
          exact bind_of e45 two
      ·rw [Sum.elim_inr,wrap_in (by omega) (by omega)]
     ·dsimp only
      rw [geI (by show (d.2.length:Int)≤(d.2.length:Int);omega),cond_false]
    ·rw [Sum.elim_inl,show ((d.1.1,d.1.2):Int×List (Int×Int))=d.1 from rfl,m28_eq hO,Option.bind_some]
     show Option.bind (loopM _ _) _=_
     have hu:lst d.1.1.toNat (rdc d.1) d.1.1.toNat=rpr d.1:=rfl
     rw [hu]
     generalize hlr:rpr d.1=R at hr hu hbl ⊢
     refine bind_of (x:=row (2*og d+2*d.2.length+R.length) (ownr d)) ?_ rfl
     refine count_from (fun i=>row (2*og d+2*d.2.length+i) (ownr d)) R.length rfl (fun i hi=>?_) ?_
     ·dsimp only
      rw [ltI (by show (i:Int)<(R.length:Int);omega),cond_true,idxM_lt hi,Option.bind_some,show lenM d.2=(d.2.length:Int) from rfl,wrap_in (n:=(d.2.length:Int)+i) (by omega) (by omega),app8 own_2.symm (by omega),Option.bind_some,wrap_in (by omega) (by omega)]
      rfl
     ·dsimp only
      rw [geI (by show (R.length:Int)≤(R.length:Int);omega),cond_false]
  ·obtain ⟨v,S,c,hC,_,hCl⟩:=cyc_of h.s ho
   have hN:=bds_n h
   rw [hbl] at hC
   show Option.bind (loopM _ _) _=_
   refine bind_of (x:=ownL d) ?_ ?_
   ·unfold ownL
    generalize cycL (bds d).2=C at *
    rw [show ownF d C=ownF d (C.take C.length) by rw [List.take_length]]
    refine count_from (fun k=>ownF d (C.take k)) C.length rfl (fun k hk=>?_) ?_
    ·obtain ⟨g1,g2,_⟩:=hC k hk
     have hlen:=ownF_len d (C.take k)
     rw [List.length_take] at hlen
     dsimp only
     rw [ltI (by show (k:Int)<(C.length:Int);omega),cond_true]
     rw [List.take_succ_eq_append_getElem hk,ownF_snoc]
     refine bind_of (x:=if 0≤ownr d C[k].toNat then ownF d (C.take k)++[ownr d C[k].toNat] else ownF d (C.take k)) ?_ (by rw [wrap_in (by omega) (by omega)])
     refine bind_of (idxM_lt hk) ?_
     have a1:chkM C[k] (lenM (row (2*og d+2*d.2.length+(rpr d.1).length) (ownr d)))=some ():=chkM_of g1 (by rw [lenRow];exact g2)
     have a2:idxM (row (2*og d+2*d.2.length+(rpr d.1).length) (ownr d)) C[k]=some (ownr d C[k].toNat):=row_idxI g1 g2
     refine bind_of a1 (bind_of a2 ?_)
     by_cases hp:0≤ownr d C[k].toNat
     ·rw [leI hp,cond_true,if_pos hp]
      refine bind_of a1 (bind_of a2 ?_)
      exact bind_of (appM_of (by show ((ownF d (C.take k)).length+1)*8≤140737488355328;omega)) rfl
     ·rw [gtI (by omega),cond_false,if_neg hp]
    ·dsimp only
     rw [geI (by show (C.length:Int)≤(C.length:Int);omega),cond_false]
   ·have hl:(ownL d).length≤16:=by
     have:=ownF_len d (cycL (bds d).2)
     unfold ownL
     omega
    have e1:sortI (ownL d)=some (isortI (ownL d)):=by
     unfold sortI
     rw [decide_eq_true (by omega)]
    refine bind_of e1 ?_
    have hp:=(isortI_perm (ownL d)).length_eq
    have e2:compI (isortI (ownL d))=some (Lib.compact (isortI (ownL d))):=by
     unfold compI
     rw [decide_eq_true (by omega)]
    exact bind_of e2 rfl
end Go.Proofs.YthfgccfaildmfaaGreatDoor
namespace Go.Proofs.YthfgccfaildmfaaGreatDoor
open Go Go.Abs Go.PE
open Ord (Rel clos)
set_option maxRecDepth 10000
theorem comp_lt {zs:List Int} (h:List.Pairwise (·≤·) zs):List.Pairwise (·<·) (Lib.compact zs):=by
 unfold Lib.compact Lib.compactUpTo
 rw [List.pairwise_map]
 refine List.Pairwise.imp_of_mem (fun {a b} ha hb hab=>?_) ((List.pairwise_lt_range (n:=zs.length)).filter _)
 have hal:a<zs.length:=List.mem_range.1 (List.mem_filter.1 ha).1
 have hbl:b<zs.length:=List.mem_range.1 (List.mem_filter.1 hb).1
 have hk:=(List.mem_filter.1 hb).2
 unfold Lib.keeps at hk
 have hk:=of_decide_eq_true hk
 rw [getB (by simpa using hbl),getB (by simp;omega)] at hk
 rw [getB (by simpa using hal),getB (by simpa using hbl)]
 simp only [List.getElem_toArray] at hk ⊢
 have hs:=List.pairwise_iff_getElem.1 h
 have h1:zs[b-1]≤zs[b]:=hs (b-1) b (by omega) hbl (by omega)
 have h2:zs[a]≤zs[b-1]:=by
  by_cases e:a=b-1
  ·subst e;exact Int.le_refl _
  ·exact hs a (b-1) hal (by omega) (by omega)
 rcases hk with h0 | hne
 ·omega
 ·omega
theorem mem_comp {zs:List Int}:∀ (j:Nat) (hj:j<zs.length),zs[j]∈Lib.compact zs
 | j,hj=>by
  by_cases hk:Lib.keeps zs.toArray j=true
  ·unfold Lib.compact Lib.compactUpTo
   refine List.mem_map.2 ⟨j,List.mem_filter.2 ⟨List.mem_range.2 hj,hk⟩,?_⟩
   rw [getB (by simpa using hj)]
   simp
  ·have hk:¬ (j=0∨zs.toArray[j]! ≠ zs.toArray[j-1]!):=fun h=>hk (decide_eq_true h)
   have h0:j≠0:=fun h=>hk (.inl h)
   have he:zs.toArray[j]! = zs.toArray[j-1]! := Classical.byContradiction fun h=>hk (.inr h)
   rw [getB (by simpa using hj),getB (by simp;omega)] at he
   simp only [List.getElem_toArray] at he
   rw [he]
   exact mem_comp (j-1) (by omega)
 termination_by j=>j
theorem blL_lt (d:Dat):List.Pairwise (·<·) (blL d):=by
 unfold blL
 split
 ·exact comp_lt (isortI_sorted _)
 ·exact List.Pairwise.nil
theorem blL_of {d:Dat} (ho:ovS (bds d)=true) {e:Int} (h:e∈cycL (bds d).2) (h0:0≤ownr d e.toNat):ownr d e.toNat∈blL d:=by
 have h1:ownr d e.toNat∈isortI (ownL d):=(isortI_perm _).mem_iff.2 (List.mem_filter.2 ⟨List.mem_map.2 ⟨e,h,rfl⟩,decide_eq_true h0⟩)
 obtain ⟨j,hj,e1⟩:=List.mem_iff_getElem.1 h1
 rw [← e1]
 unfold blL
 rw [if_pos ho]
 exact mem_comp j hj
theorem of_blL {d:Dat} (ho:ovS (bds d)=true) {i:Int} (h:i∈blL d):0≤i∧∃ e∈cycL (bds d).2,ownr d e.toNat=i:=by
 unfold blL at h
 rw [if_pos ho] at h
 have h1:=(isortI_perm _).mem_iff.1 (compact_mem h)
 obtain ⟨h1,h2⟩:=List.mem_filter.1 h1
 obtain ⟨e,h3,h4⟩:=List.mem_map.1 h1
 exact ⟨of_decide_eq_true h2,e,h3,h4⟩
theorem blL_len (d:Dat) (ho:ovS (bds d)=true):(blL d).length≤(cycL (bds d).2).length:=by
 unfold blL
 rw [if_pos ho]
 refine Nat.le_trans (compact_len _) ?_
 rw [(isortI_perm _).length_eq]
 exact ownF_len _ _
end Go.Proofs.YthfgccfaildmfaaGreatDoor
namespace Go.Proofs.YthfgccfaildmfaaGreatDoor
open Go Go.Abs Go.PE
open Ord (Rel clos)
set_option maxRecDepth 10000
def clk (y:List Int) (q:Clu):Bool :=
 if q.1=1 then decide (q.2.2.2.1≤y.getD q.2.1.toNat 0)&&decide (y.getD q.2.1.toNat 0<q.2.2.2.2)
 else if q.1=2 then decide (q.2.2.2.1≤y.getD q.2.1.toNat 0)
 else if q.1=3 then decide (y.getD q.2.1.toNat 0≤q.2.2.2.1)
 else if q.1=4 then decide (y.getD q.2.1.toNat 0=y.getD q.2.2.1.toNat 0)
 else decide (q.2.2.2.1≤y.getD q.2.2.1.toNat 0-y.getD q.2.1.toNat 0∧y.getD q.2.2.1.toNat 0-y.getD q.2.1.toNat 0≤q.2.2.2.2)
theorem fit_clk {y:List Int} {q:Clu} (h:clk y q=true):fit 0 y q:=by
 unfold clk at h
 refine ⟨fun k=>?_,fun k=>?_,fun k=>?_,fun k=>?_,fun k=>?_⟩
 ·rw [if_pos k,Bool.and_eq_true,decide_eq_true_eq,decide_eq_true_eq] at h
  omega
 ·rw [if_neg (by omega),if_pos k,decide_eq_true_eq] at h
  omega
 ·rw [if_neg (by omega),if_neg (by omega),if_pos k,decide_eq_true_eq] at h
  omega
 ·rw [if_neg (by omega),if_neg (by omega),if_neg (by omega),if_pos k,decide_eq_true_eq] at h
  omega
 ·rw [if_neg (by omega),if_neg (by omega),if_neg (by omega),if_neg (by omega),decide_eq_true_eq] at h
  omega
theorem og_none {d:Dat} {y:List Int} (hl:y.length=og d):y.getD (og d) 0=0:=by
 rw [List.getD_eq_getElem?_getD,List.getElem?_eq_none (by omega)]
 rfl
theorem row_of {y:List Int} {n:Nat} (hl:y.length=n):row n (fun a=>y.getD a 0)=y:=by
 refine List.ext_getElem? fun i=>?_
 rcases Nat.lt_or_ge i n with h1 | h1
 ·rw [row_get h1,List.getElem?_eq_getElem (by omega),getD_of (by omega)]
 ·rw [List.getElem?_eq_none (by rw [row_length];exact h1),List.getElem?_eq_none (by omega)]
theorem alw_iff {d:Dat} (h:DOK d) {y:List Int} (hl:y.length=og d):alw d y=true↔kp (bds d) fun a=>y.getD a 0:=by
 constructor
 ·exact fun ha=>(alw_of ha).2
 ·intro hk
  have:=alw_kp h (og_none hl) hk
  rw [row_of hl] at this
  exact this
theorem kp_iff {d:Dat} (h:DOK d) {y:List Int} (hl:y.length=og d):kp (bds d) (fun a=>y.getD a 0) ↔
  (∀ k,k<og d→0≤y.getD k 0∧y.getD k 0≤2100)∧(∀ p∈d.1.2,y.getD p.1.toNat 0≤y.getD p.2.toNat 0)∧∀ q∈d.2,clk y q=true:=by
 have e:=og_is h
 have hn:=h.n0
 have hO:=(vld_of h.v).1
 have hf:=h.f
 have hpk:=(okO_of hO).2.2.2
 have l0:=og_none hl
 constructor
 ·intro hk
  refine ⟨fun k hk2=>kp_rg h l0 hk hk2,fun p hp=>?_,fun q hq=>?_⟩
  ·obtain ⟨p1,p2,p3,p4,_⟩:=pok_of (hpk p hp)
   have hrel:rel0 d.1.2 p.1.toNat p.2.toNat=true:=rel0_iff.2 (by
    rw [show ((p.1.toNat:Nat):Int)=p.1 by omega,show ((p.2.toNat:Nat):Int)=p.2 by omega]
    exact hp)
   have hr:rl d.1 p.1.toNat p.2.toNat=true:=Ord.clos_sub hrel _
   exact Ord.red_ind (n:=d.1.1.toNat) (r:=rl d.1) (f:=rk d.1) (fun a b hab=>rk_lt hO hab) (P:=fun a b=>y.getD a 0≤y.getD b 0)
    (fun a b hab=>by
     have hi:=clos_in hf (Ord.red_iff.1 hab).1
     have:=hk b a 0 (mem_bds.2 (.inr (.inr ⟨a,b,hi.1,hi.2,hab,rfl⟩)))
     dsimp only at this
     omega)
    (fun a b c h1 h2=>by omega) _ _ _ (Nat.le_refl _) hr
  ·have hv:=vcl_of ((vld_of h.v).2.2 q hq)
   obtain ⟨v1,v2,v3⟩:=hv
   have ea:((q.2.1.toNat:Nat):Int)=q.2.1:=by omega
   have hb:∀ {a b:Nat} {m:Int},((a:Int),(b:Int),m)∈clb d.1.1 q→y.getD b 0-y.getD a 0≤m:=fun hm=>hk _ _ _ (mem_bds.2 (.inr (.inl ⟨q,hq,hm⟩)))
   unfold clk
   unfold clb at hb
   split
   ·rename_i k1
    rw [if_pos k1] at hb
    have h1:=hb (a:=q.2.1.toNat) (b:=og d) (m:=-q.2.2.2.1) (by rw [ea,e];exact List.mem_cons_self ..)
    have h2:=hb (a:=og d) (b:=q.2.1.toNat) (m:=q.2.2.2.2-1) (by rw [ea,e];exact List.mem_cons_of_mem _ (List.mem_cons_self ..))
    rw [Bool.and_eq_true,decide_eq_true_eq,decide_eq_true_eq]
    omega
   ·rename_i k1
    rw [if_neg k1] at hb
    split
    ·rename_i k2
     rw [if_pos k2] at hb
     have h1:=hb (a:=q.2.1.toNat) (b:=og d) (m:=-q.2.2.2.1) (by rw [ea,e];exact List.mem_cons_self ..)
     rw [decide_eq_true_eq]
     omega
    ·rename_i k2
     rw [if_neg k2] at hb
     split
     ·rename_i k3
      rw [if_pos k3] at hb
      have h2:=hb (a:=og d) (b:=q.2.1.toNat) (m:=q.2.2.2.1) (by rw [ea,e];exact List.mem_cons_of_mem _ (List.mem_cons_self ..))
      rw [decide_eq_true_eq]
      omega
     ·rename_i k3
      rw [if_neg k3] at hb
      have eb:((q.2.2.1.toNat:Nat):Int)=q.2.2.1:=by omega
      have h1:=hb (a:=q.2.1.toNat) (b:=q.2.2.1.toNat) (m:=q.2.2.2.2) (by rw [ea,eb];exact List.mem_cons_self ..)
      have h2:=hb (a:=q.2.2.1.toNat) (b:=q.2.1.toNat) (m:=-q.2.2.2.1) (by rw [ea,eb];exact List.mem_cons_of_mem _ (List.mem_cons_self ..))
      split
      ·rw [decide_eq_true_eq]
       omega
      ·rw [decide_eq_true_eq]
       omega
 ·rintro ⟨h1,h2,h3⟩ a b m hm
  dsimp only
  have hle:∀ a b,rl d.1 a b=true→y.getD a 0≤y.getD b 0:=fun a b hr=>Ord.clos_ind (d:=rel0 d.1.2) (P:=fun a b=>y.getD a 0≤y.getD b 0) (fun a b hab=>by
   have:=h2 _ (rel0_iff.1 hab)
   rw [Int.toNat_natCast,Int.toNat_natCast] at this
   exact this) (fun a b c g1 g2=>by omega) _ a b hr
  rcases mem_bds.1 hm with ⟨c,hc,e1⟩ | ⟨q,hq,hc⟩ | ⟨s,t,hs,ht',hr,e1⟩
  ·have R:=h1 c hc
   simp only [Prod.mk.injEq] at e1
   rcases e1 with ⟨e1,e2,rfl⟩ | ⟨e1,e2,rfl⟩
   ·rw [show a=c by omega,show b=og d by omega];omega
   ·rw [show b=c by omega,show a=og d by omega];omega
  ·have hv:=(vld_of h.v).2.2 q hq
   obtain ⟨v1,v2,v3⟩:=vcl_of hv
   have A:=h1 q.2.1.toNat (by omega)
   have:=clb_fit (e:=0) hn.1 (Int.le_refl 0) l0 A hv (fit_clk (h3 q hq)) hc
   omega
  ·simp only [Prod.mk.injEq] at e1
   obtain ⟨e1,e2,rfl⟩:=e1
   rw [show a=t by omega,show b=s by omega]
   have:=hle s t (Ord.red_iff.1 hr).1
   omega
theorem m46_eq (d:Dat) (y:List Int):m46 (d,y)=some (alw d y):=by
 unfold m46
 dsimp only
 rw [show (((d.1.1,d.1.2),d.2):Dat)=d from rfl,m45_eq,Option.bind_some]
 by_cases hv:vld d=true
 ·have h:DOK d:=⟨hv⟩
  have e:=og_is h
  have hn:=h.n0
  have hpk:=(okO_of (vld_of hv).1).2.2.2
  have hp28:=(okO_of (vld_of hv).1).2.2.1
  have hc14:=h.c
  rw [hv,notT,orF]
  by_cases hl:(y.length:Int)=d.1.1
  ·have hl2:y.length=og d:=by omega
   rw [eqI (show lenM y=d.1.1 from hl),notT,cond_false]
   obtain ⟨b1,q1,w1⟩:=all_loop (n:=y.length) (fun k=>decide (0≤y.getD k 0∧y.getD k 0≤2100)) (body:=fun (s:Int)=>bif ltM s (lenM y) then Option.bind (idxM y s) fun (r_1:Int)=>Option.bind (m38 (r_1,(0:Int),(2100:Int))) fun (r:Bool)=>bif PE.notM r then some (Sum.inr (Sum.inr false)) else some (Sum.inl (IntKind.wrap IntKind.i64 (s+(1:Int)))) else some (Sum.inr (Sum.inl ()))) (fun k hk=>by
    rw [ltI (show (k:Int)<lenM y by show (k:Int)<(y.length:Int);omega),cond_true,idxM_lt hk,Option.bind_some,m38_eq,Option.bind_some,wrap_in (by omega) (by omega),getD_of hk]
    cases decide (0≤y[k]∧y[k]≤2100)<;>rfl) (by
    rw [geI (show lenM y≤((y.length:Nat):Int) from Int.le_refl _),cond_false])
   refine bind_of q1 ?_
   by_cases hy:∀ k,k<y.length→0≤y.getD k 0∧y.getD k 0≤2100
   ·have hb1:b1=true:=w1.2 fun k hk=>decide_eq_true (hy k hk)
    subst hb1
    obtain ⟨b2,q2,w2⟩:=all_loop (n:=d.1.2.length) (fun k=>decide (y.getD (d.1.2.getD k (0,0)).1.toNat 0≤y.getD (d.1.2.getD k (0,0)).2.toNat 0)) (body:=fun (s:Int)=>bif ltM s (lenM d.1.2) then Option.bind (idxM d.1.2 s) fun (r_1:Int×Int)=>Option.bind (idxM y r_1.1) fun (r_2:Int)=>Option.bind (idxM d.1.2 s) fun (r_3:Int×Int)=>Option.bind (idxM y r_3.2) fun (r:Int)=>bif ltM r r_2 then some (Sum.inr (Sum.inr false)) else some (Sum.inl (IntKind.wrap IntKind.i64 (s+(1:Int)))) else some (Sum.inr (Sum.inl ()))) (fun k hk=>by
     obtain ⟨p1,p2,p3,p4,_⟩:=pok_of (hpk _ (List.getElem_mem hk))
     rw [ltI (show (k:Int)<lenM d.1.2 by show (k:Int)<(d.1.2.length:Int);omega),cond_true,idxM_lt hk,Option.bind_some,idx_getD p1 (by omega),Option.bind_some,Option.bind_some,idx_getD p3 (by omega),Option.bind_some,wrap_in (by omega) (by omega),getD_of hk]
     by_cases hx:y.getD d.1.2[k].1.toNat 0≤y.getD d.1.2[k].2.toNat 0
     ·rw [geI hx,decide_eq_true hx];rfl
     ·rw [ltI (by omega),decide_eq_false hx];rfl) (by
     rw [geI (show lenM d.1.2≤((d.1.2.length:Nat):Int) from Int.le_refl _),cond_false])
    obtain ⟨b3,q3,w3⟩:=all_loop (n:=d.2.length) (fun k=>clk y (d.2.getD k (0,0,0,0,0))) (body:=fun (s:Int)=>bif ltM s (lenM d.2) then Option.bind (idxM d.2 s) fun (r_1:Int×Int×Int×Int×Int)=>Option.bind (idxM y r_1.2.1) fun (r_2:Int)=>Option.bind (bif eqM r_1.1 (1:Int) then some (PE.andM (leM r_1.2.2.2.1 r_2) (ltM r_2 r_1.2.2.2.2)) else bif eqM r_1.1 (2:Int) then some (leM r_1.2.2.2.1 r_2) else bif eqM r_1.1 (3:Int) then some (leM r_2 r_1.2.2.2.1) else bif eqM r_1.1 (4:Int) then Option.bind (idxM y r_1.2.2.1) fun (r:Int)=>some (eqM r_2 r) else bif eqM r_1.1 (5:Int) then Option.bind (idxM y r_1.2.2.1) fun (r_3:Int)=>Option.bind (m38 (IntKind.wrap IntKind.i64 (r_3-r_2),r_1.2.2.2.1,r_1.2.2.2.2)) fun (r:Bool)=>some r else some false) fun (o:Bool)=>bif PE.notM o then some (Sum.inr (Sum.inr false)) else some (Sum.inl (IntKind.wrap IntKind.i64 (s+(1:Int)))) else some (Sum.inr (Sum.inl ()))) (fun k hk=>by
     obtain ⟨v1,v2,v3⟩:=vcl_of ((vld_of hv).2.2 _ (List.getElem_mem hk))
     rw [ltI (show (k:Int)<lenM d.2 by show (k:Int)<(d.2.length:Int);omega),cond_true,idxM_lt hk,Option.bind_some,idx_getD v1 (by omega),Option.bind_some,wrap_in (n:=(k:Int)+1) (by omega) (by omega),getD_of hk]
     generalize d.2[k]=q at *
     have Y:=hy q.2.1.toNat (by omega)
     refine bind_of (x:=clk y q) ?_ (by cases clk y q<;>rfl)
     unfold clk
     by_cases k1:q.1=1
     ·rw [eqI k1,cond_true,if_pos k1];rfl
     ·rw [neI k1,cond_false,if_neg k1]
      by_cases k2:q.1=2
      ·rw [eqI k2,cond_true,if_pos k2]
      ·rw [neI k2,cond_false,if_neg k2]
       by_cases k3:q.1=3
       ·rw [eqI k3,cond_true,if_pos k3]
       ·rw [neI k3,cond_false,if_neg k3]
        have YO:=hy q.2.2.1.toNat (by omega)
        by_cases k4:q.1=4
        ·rw [eqI k4,cond_true,if_pos k4,idx_getD (i:=q.2.2.1) (by omega) (by omega),Option.bind_some]
        ·rw [neI k4,cond_false,if_neg k4,eqI (show q.1=5 by omega),cond_true,idx_getD (i:=q.2.2.1) (by omega) (by omega),Option.bind_some,m38_eq,Option.bind_some,wrap_in (by omega) (by omega)]) (by
     rw [geI (show lenM d.2≤((d.2.length:Nat):Int) from Int.le_refl _),cond_false])
    have key:alw d y=(b2&&b3):=by
     rw [Bool.eq_iff_iff,alw_iff h hl2,kp_iff h hl2,Bool.and_eq_true,w2,w3]
     constructor
     ·rintro ⟨h1,h2,h3⟩
      refine ⟨fun k hk=>decide_eq_true ?_,fun k hk=>?_⟩
      ·rw [getD_of hk];exact h2 _ (List.getElem_mem hk)
      ·rw [getD_of hk];exact h3 _ (List.getElem_mem hk)
     ·rintro ⟨h2,h3⟩
      refine ⟨fun k hk=>hy k (by omega),fun p hp=>?_,fun q hq=>?_⟩
      ·obtain ⟨k,hk,rfl⟩:=List.mem_iff_getElem.1 hp
       have:=of_decide_eq_true (h2 k hk)
       rw [getD_of hk] at this
       exact this
      ·obtain ⟨k,hk,rfl⟩:=List.mem_iff_getElem.1 hq
       have:=h3 k hk
       rw [getD_of hk] at this
       exact this
    rw [key]
    refine bind_of (x:=(bif b2 then Sum.inl () else Sum.inr false)) q2 ?_
    cases b2 with
    | false=>rfl
    | true =>
     refine bind_of (x:=(bif b3 then Sum.inl () else Sum.inr false)) q3 ?_
     cases b3<;>rfl
   ·have hb1:b1=false:=by
     cases b1 with
     | false=>rfl
     | true=>exact absurd (fun k hk=>of_decide_eq_true (w1.1 rfl k hk)) hy
    subst hb1
    have key:alw d y=false:=by
     cases ha:alw d y with
     | false=>rfl
     | true=>exact absurd (fun k hk=>((kp_iff h hl2).1 ((alw_iff h hl2).1 ha)).1 k (by omega)) hy
    rw [key]
    rfl
  ·rw [neI (show lenM y≠d.1.1 from hl),notF,cond_true]
   unfold alw
   rw [decide_eq_false hl,Bool.and_false,Bool.false_and,Bool.false_and]
 ·have hv:vld d=false:=by simpa using hv
  rw [hv,notF,orT,cond_true]
  unfold alw
  rw [hv,Bool.false_and,Bool.false_and,Bool.false_and]
theorem m16_bad {d:Dat} (h:vld d=false):m16 d=some ([],false):=by
 unfold m16
 rw [show (((d.1.1,d.1.2),d.2):Dat)=d from rfl,m24_eq,h,if_neg (by decide),Option.bind_some]
 refine bind_of (m50_eq _) ?_
 rfl
theorem inc_eq:∀ (a b:List Int),List.Pairwise (·<·) a→List.Pairwise (·<·) b→(∀ x,x∈a↔x∈b)→a=b
 | [],[],_,_,_=>rfl
 | [],y::b,_,_,h=>by have:=(h y).2 (List.mem_cons_self ..);cases this
 | x::a,[],_,_,h=>by have:=(h x).1 (List.mem_cons_self ..);cases this
 | x::a,y::b,ha,hb,h=>by
  have ha':=List.pairwise_cons.1 ha
  have hb':=List.pairwise_cons.1 hb
  have e:x=y:=by
   rcases List.mem_cons.1 ((h x).1 (List.mem_cons_self ..)) with e | e
   ·exact e
   ·rcases List.mem_cons.1 ((h y).2 (List.mem_cons_self ..)) with e2 | e2
    ·exact e2.symm
    ·have:=hb'.1 x e
     have:=ha'.1 y e2
     omega
  subst e
  refine congrArg (x::·) (inc_eq a b ha'.2 hb'.2 fun z=>?_)
  constructor
  ·intro hz
   rcases List.mem_cons.1 ((h z).1 (List.mem_cons_of_mem _ hz)) with e | e
   ·have:=ha'.1 z hz;omega
   ·exact e
  ·intro hz
   rcases List.mem_cons.1 ((h z).2 (List.mem_cons_of_mem _ hz)) with e | e
   ·have:=hb'.1 z hz;omega
   ·exact e
def hasO (d:Dat) (C:List Int) (n:Nat):Bool:=C.any fun e=>decide (ownr d e.toNat=(n:Int))
def refL (d:Dat) (C:List Int) (n:Nat):List Int:=((List.range n).filter (hasO d C)).map fun (i:Nat)=>(i:Int)
theorem refL_succ (d:Dat) (C:List Int) (n:Nat):refL d C (n+1)=refL d C n++(if hasO d C n=true then [(n:Int)] else []):=by
 unfold refL
 rw [List.range_succ,List.filter_append,List.map_append]
 cases h:hasO d C n<;>simp [h]
theorem refL_len (d:Dat) (C:List Int) (n:Nat):(refL d C n).length≤n:=by
 unfold refL
 rw [List.length_map]
 have:=List.length_filter_le (hasO d C) (List.range n)
 rw [List.length_range] at this
 exact this
theorem own_ref {d:Dat} (h:DOK d) {e:Int} (h0:0≤e) (h1:e<(bds d).2.length) (n:Nat) :
  (Option.bind (bif leM (IntKind.wrap IntKind.i64 (2*lenM d.2)) (IntKind.wrap IntKind.i64 (e-IntKind.wrap IntKind.i64 (2*d.1.1))) then some (IntKind.wrap IntKind.i64 (IntKind.wrap IntKind.i64 (e-IntKind.wrap IntKind.i64 (2*d.1.1))-lenM d.2)) else bif leM (0:Int) (IntKind.wrap IntKind.i64 (e-IntKind.wrap IntKind.i64 (2*d.1.1))) then Option.bind (divM IntKind.i64 (IntKind.wrap IntKind.i64 (e-IntKind.wrap IntKind.i64 (2*d.1.1))) (2:Int)) fun (r:Int)=>some r else some (IntKind.wrap IntKind.i64 (e-IntKind.wrap IntKind.i64 (2*d.1.1)))) fun (o:Int)=>some (eqM o (n:Int)))=some (decide (ownr d e.toNat=(n:Int))):=by
 have hn:=h.n0
 have eo:=og_is h
 have hc:=h.c
 have hr:=rpr_len d.1 (vld_of h.v).1
 have hbl:(bds d).2.length≤108:=bds_len d h.v
 obtain ⟨k,rfl⟩:=Int.eq_ofNat_of_zero_le h0
 rw [show lenM d.2=(d.2.length:Int) from rfl,wrap_in (n:=2*d.1.1) (by omega) (by omega),wrap_in (n:=2*(d.2.length:Int)) (by omega) (by omega),wrap_in (n:=(k:Int)-2*d.1.1) (by omega) (by omega),wrap_in (n:=(k:Int)-2*d.1.1-(d.2.length:Int)) (by omega) (by omega),Int.toNat_natCast]
 unfold ownr
 by_cases h2:2*og d+2*d.2.length≤k
 ·rw [leI (by omega),cond_true,Option.bind_some,if_neg (by omega),if_neg (by omega)]
  exact congrArg some (decide_eq_decide.2 (by omega))
 ·rw [gtI (by omega),cond_false]
  by_cases h3:2*og d≤k
  ·rw [leI (by omega),cond_true,if_neg (by omega),if_pos (by omega)]
   obtain ⟨m,hm⟩:∃ m:Nat,k=2*og d+m:=⟨k-2*og d,by omega⟩
   have e1:(k:Int)-2*d.1.1=(m:Int):=by omega
   rw [e1]
   have e2:divM IntKind.i64 (m:Int) 2=some ((m / 2:Nat):Int):=by
    unfold divM
    rw [decide_eq_false (by omega)]
    show some (IntKind.wrap IntKind.i64 ((m / 2:Nat):Int))=_
    rw [wrap_in (by omega) (by omega)]
   rw [e2,Option.bind_some,Option.bind_some,show (k-2*og d) / 2=m / 2 by rw [hm];congr 1;omega]
  ·rw [gtI (by omega),cond_false,Option.bind_some,if_pos (by omega)]
   exact congrArg some (decide_eq_decide.2 (by omega))
theorem m43_eq (d:Dat):m43 d=m16 d:=by
 by_cases hv:vld d=true
 ·have h:DOK d:=⟨hv⟩
  rw [m16_eq h]
  unfold m43
  rw [show (((d.1.1,d.1.2),d.2):Dat)=d from rfl,m41_eq,m24_eq,if_pos hv,Option.bind_some,show PE.notM (eqM ((bds d,(0:Int)):(Int×List Bnd)×Int).2 0)=false from rfl,cond_false]
  refine bind_of (m81_eq (bds d)) ?_
  unfold cycR
  rw [h.s,Bool.true_and]
  cases ho:ovS (bds d) with
  | false =>
   unfold blL
   rw [ho]
   rfl
  | true =>
   rw [show (bif true then (cycL (bds d).2,true) else (([]:List Int),false))=(cycL (bds d).2,true) from rfl,show PE.notM ((cycL (bds d).2,true):List Int×Bool).2=false from rfl,cond_false]
   dsimp only
   obtain ⟨v,S,c,hC,_,hCl⟩:=cyc_of h.s ho
   have hN:=bds_n h
   have hn:=h.n0
   have eo:=og_is h
   have hbl:(bds d).2.length≤108:=bds_len d hv
   have hfin:refL d (cycL (bds d).2) (bds d).2.length=blL d:=by
    refine inc_eq _ _ ?_ (blL_lt d) fun x=>?_
    ·unfold refL
     rw [List.pairwise_map]
     exact ((List.pairwise_lt_range).filter _).imp fun h=>by omega
    ·unfold refL
     rw [List.mem_map]
     constructor
     ·rintro ⟨n,hn2,rfl⟩
      obtain ⟨_,hh⟩:=List.mem_filter.1 hn2
      obtain ⟨e,he,h1⟩:=List.any_eq_true.1 hh
      have h1:=of_decide_eq_true h1
      have:=blL_of ho he (by omega)
      rw [h1] at this
      exact this
     ·intro hx
      obtain ⟨h0,e,he,h1⟩:=of_blL ho hx
      obtain ⟨k,hk,rfl⟩:=List.mem_iff_getElem.1 he
      obtain ⟨g1,g2,_⟩:=hC k hk
      have hlt:x<(bds d).2.length:=by
       have hb2:(bds d).2.length=2*og d+2*d.2.length+(rpr d.1).length:=by
        show (obs d.1.1 d.1.1.toNat++d.2.flatMap (clb d.1.1)++prs (rpr d.1)).length=_
        simp only [List.length_append,obs_len,clbs_len,prs_len]
        rfl
       rcases own_is (d:=d) (k:=(cycL (bds d).2)[k].toNat) (by omega) with ⟨e1,_⟩ | ⟨j,hj,e1,_⟩ | ⟨j,hj,e1,_⟩<;>omega
      refine ⟨x.toNat,List.mem_filter.2 ⟨List.mem_range.2 (by omega),List.any_eq_true.2 ⟨_,he,decide_eq_true (by omega)⟩⟩,by omega⟩
   rw [← hfin]
   generalize hCe:cycL (bds d).2=C at *
   refine bind_of (x:=refL d C (bds d).2.length) ?_ rfl
   refine count_from (fun n=>refL d C n) (bds d).2.length rfl (fun n hn2=>?_) ?_
   ·dsimp only
    have hl:=refL_len d C n
    rw [ltI (show (n:Int)<lenM (bds d).2 by show (n:Int)<((bds d).2.length:Int);omega),cond_true]
    refine bind_of (x:=refL d C (n+1)) ?_ (by rw [wrap_in (by omega) (by omega)])
    refine bind_of (x:=hasO d C n) ?_ ?_
    ·refine loopM_is (fun k s=>s=((C.take k).any fun e=>decide (ownr d e.toNat=(n:Int)),(k:Int))) C.length rfl fun k s hk hs=>?_
     subst hs
     dsimp only
     rcases Nat.lt_or_ge k C.length with hk2 | hk2
     ·obtain ⟨g1,g2,_⟩:=hC k hk2
      refine .inl ⟨_,hk2,?_,rfl⟩
      rw [ltI (show (k:Int)<lenM C by show (k:Int)<(C.length:Int);omega),cond_true,idxM_lt hk2,Option.bind_some]
      have hor:=own_ref h g1 g2 n
      generalize hb:(bif leM (IntKind.wrap IntKind.i64 (2*lenM d.2)) (IntKind.wrap IntKind.i64 (C[k]-IntKind.wrap IntKind.i64 (2*d.1.1))) then some (IntKind.wrap IntKind.i64 (IntKind.wrap IntKind.i64 (C[k]-IntKind.wrap IntKind.i64 (2*d.1.1))-lenM d.2)) else bif leM (0:Int) (IntKind.wrap IntKind.i64 (C[k]-IntKind.wrap IntKind.i64 (2*d.1.1))) then Option.bind (divM IntKind.i64 (IntKind.wrap IntKind.i64 (C[k]-IntKind.wrap IntKind.i64 (2*d.1.1))) (2:Int)) fun (r:Int)=>some r else some (IntKind.wrap IntKind.i64 (C[k]-IntKind.wrap IntKind.i64 (2*d.1.1))))=B at hor ⊢
      cases B with
      | none=>cases hor
      | some o =>
       have hor:eqM o (n:Int)=decide (ownr d C[k].toNat=(n:Int)):=Option.some.inj hor
       rw [Option.bind_some,hor,wrap_in (by omega) (by omega),List.take_succ_eq_append_getElem hk2,List.any_append]
       simp [PE.orM]
     ·have ek:k=C.length:=by omega
      subst ek
      refine .inr ?_
      rw [geI (show lenM C≤((C.length:Nat):Int) from Int.le_refl _),cond_false,List.take_length]
      rfl
    ·rw [refL_succ]
     cases hasO d C n with
     | false =>
      rw [cond_false,if_neg (by decide),List.append_nil]
     | true =>
      rw [cond_true,if_pos rfl]
      exact bind_of (appM_of (by show ((refL d C n).length+1)*8≤140737488355328;omega)) rfl
   ·dsimp only
    rw [geI (show lenM (bds d).2≤(((bds d).2.length:Nat):Int) from Int.le_refl _),cond_false]
 ·have hv:vld d=false:=by simpa using hv
  rw [m16_bad hv]
  unfold m43
  rw [show (((d.1.1,d.1.2),d.2):Dat)=d from rfl,m41_eq,m24_eq,hv,if_neg (by decide)]
  rfl
end Go.Proofs.YthfgccfaildmfaaGreatDoor
namespace Go.Proofs.YthfgccfaildmfaaGreatDoor
open Go Go.Abs Go.PE
open Ord (Rel clos)
set_option maxRecDepth 10000
theorem eqb_self (b:Bool):eqbM b b=true:=decide_eq_true rfl
theorem eqm_self (n:Int):eqM n n=true:=decide_eq_true rfl
theorem and_tt:PE.andM true true=true:=rfl
theorem same_bds {b:Int×List Bnd} (hl:b.2.length≤1000):m47 (b,b)=some true:=by
 unfold m47
 dsimp only
 rw [eqm_self,eqm_self,notT,orF,cond_false]
 refine bind_of (x:=Sum.inl ()) (pass_loop (n:=b.2.length) (fun k hk=>?_) ?_) rfl
 ·rw [ltI (show (k:Int)<lenM b.2 by show (k:Int)<(b.2.length:Int);omega),cond_true,idxM_lt hk,Option.bind_some,Option.bind_some,eqm_self,eqm_self,eqm_self,and_tt,and_tt,notT,cond_false,wrap_in (by omega) (by omega)]
 ·rw [geI (show lenM b.2≤((b.2.length:Nat):Int) from Int.le_refl _),cond_false]
theorem same_spells {l:List (Int×Int)} (hl:l.length≤1000):m33 (l,l)=some true:=by
 have e:m73 (l,l)=some true:=by
  unfold m73
  dsimp only
  rw [eqm_self,notT,cond_false]
  refine bind_of (x:=Sum.inl ()) (pass_loop (n:=l.length) (fun k hk=>?_) ?_) rfl
  ·rw [ltI (show (k:Int)<lenM l by show (k:Int)<(l.length:Int);omega),cond_true,idxM_lt hk,Option.bind_some,Option.bind_some,eqm_self,eqm_self,and_tt,notT,cond_false,wrap_in (by omega) (by omega)]
  ·rw [geI (show lenM l≤((l.length:Nat):Int) from Int.le_refl _),cond_false]
 unfold m33
 exact bind_of e rfl
theorem same_ints {l:List Int} (hl:l.length≤1000):m34 (l,l)=some true:=by
 unfold m34
 refine bind_of (m74_eq (a:=l) (b:=l) (by omega)) ?_
 rw [decide_eq_true rfl]
theorem m17_inv {d:Dat} (h:vld d=false):m17 d=some ([],220):=by
 unfold m17
 rw [show (((d.1.1,d.1.2),d.2):Dat)=d from rfl,m24_eq,h,if_neg (by decide),Option.bind_some]
 refine bind_of (m25_eq _) ?_
 rfl
theorem m17_any (d:Dat):∃ R,m17 d=some R∧R.1.length≤1000:=by
 by_cases hv:vld d=true
 ·have h:DOK d:=⟨hv⟩
  have hn:=h.n0
  have e:=og_is h
  cases ho:ovS (bds d) with
  | true=>exact ⟨_,m17_bad h ho,Nat.zero_le _⟩
  | false=>exact ⟨_,m17_good h ho,by unfold rng;rw [row_length];omega⟩
 ·exact ⟨_,m17_inv (by simpa using hv),Nat.zero_le _⟩
theorem m16_any (d:Dat):∃ B,m16 d=some B∧B.1.length≤1000:=by
 by_cases hv:vld d=true
 ·have h:DOK d:=⟨hv⟩
  have hn:=h.n0
  have hN:=bds_n h
  have e:=og_is h
  refine ⟨_,m16_eq h,?_⟩
  cases ho:ovS (bds d) with
  | true =>
   have:=blL_len d ho
   obtain ⟨_,_,_,_,_,hCl⟩:=cyc_of h.s ho
   dsimp only
   omega
  | false =>
   unfold blL
   rw [ho]
   exact Nat.zero_le _
 ·exact ⟨_,m16_bad (by simpa using hv),Nat.zero_le _⟩
theorem ctn_len (d:Dat) (a b k:Int):(ctn d a b k).1.length≤60:=by
 unfold ctn
 split
 ·cases h:(impR (bds d) (b,a,-k)).2 with
  | false=>rw [imp_none h];exact Nat.zero_le _
  | true =>
   have:=imp_accepted h
   unfold chkChain at this
   rw [Bool.and_eq_true,Bool.and_eq_true,Bool.and_eq_true,Bool.and_eq_true] at this
   exact (folR_ok this.2.1.1).1
 ·exact Nat.zero_le _
theorem bds_any (d:Dat):(if vld d=true then (bds d,(0:Int)) else ((0,[]),220)).1.2.length≤1000:=by
 split
 ·rename_i h
  have:=bds_len d h
  show (bds d).2.length≤1000
  omega
 ·exact Nat.zero_le _
theorem m14_ok (d:Dat) (y:List Int) (a b:Int) {k:Int} (hk:IntKind.i64.has k) {l:List Int} (hl:l.length≤1000):m14 (d,y,a,b,k,l)=some true:=by
 obtain ⟨R,hR,lR⟩:=m17_any d
 obtain ⟨B,hB,lB⟩:=m16_any d
 unfold m14
 dsimp only
 rw [show (((d.1.1,d.1.2),d.2):Dat)=d from rfl]
 refine bind_of (m24_eq d) (bind_of ((m41_eq d).trans (m24_eq d)) (bind_of hR (bind_of ((m42_eq d).trans hR) (bind_of hB (bind_of ((m43_eq d).trans hB) (bind_of (m23_eq d a b k hk) (bind_of (m44_eq d a b k) (bind_of (m20_eq d) (bind_of (m45_eq d) ?_)))))))))
 rw [eqb_self,cond_true,cond_true]
 refine bind_of (m18_eq d y) (bind_of (m46_eq d y) ?_)
 rw [eqb_self,and_tt,eqm_self,and_tt,cond_true]
 refine bind_of (same_bds (bds_any d)) ?_
 rw [and_tt,eqm_self,and_tt,cond_true]
 refine bind_of (same_spells lR) ?_
 rw [and_tt,eqb_self,and_tt,cond_true]
 refine bind_of (same_ints lB) ?_
 rw [and_tt,eqb_self,and_tt,cond_true]
 have lc:=ctn_len d a b k
 refine bind_of (same_ints (by omega)) ?_
 rw [and_tt,cond_true,cond_true]
 refine bind_of (m26_eq d a b k l hk (by omega)) (bind_of (m48_eq d a b k hl) ?_)
 rw [eqb_self,and_tt,cond_true,cond_true]
 refine bind_of (m26_eq d a b k _ hk (by omega)) (bind_of (m48_eq d a b k (by omega)) ?_)
 rw [eqb_self,and_tt]
theorem div_has {a:Int} (ha:IntKind.i64.has a) {b:Int} (hb:b≠0):∃ r,divM IntKind.i64 a b=some r∧IntKind.i64.has r:=by
 unfold divM
 rw [decide_eq_false hb]
 exact ⟨_,rfl,wrap_has _ _⟩
theorem m49_any {o:Int×List (Int×Int)} (h20:o.2.length≤20) {how n a:Int} (h1:IntKind.i64.has how) (h2:IntKind.i64.has n) (h3:IntKind.i64.has a):Ans (m49 (o,how,n,a)) fun _=>True:=by
 unfold m49
 dsimp only
 refine Ans.seq (x:=o.2) (by rw [appM_of (by show (0+o.2.length)*16≤140737488355328;omega)];rfl) ?_
 refine Ans.seq (m86_eq h1 (by omega)) ?_
 refine Ans.cond (fun _=>Ans.some trivial) fun hc=>?_
 have hlen:0<o.2.length:=by
  rcases Nat.lt_or_ge 0 o.2.length with h | h
  ·exact h
  ·rw [eqI (show lenM o.2=0 by show (o.2.length:Int)=0;omega)] at hc
   cases hx:eqM (pk how 4) 0<;>rw [hx] at hc<;>cases hc
 have hlm:lenM o.2=(o.2.length:Int):=rfl
 rw [hlm]
 refine Ans.seq (m86_eq h3 (by omega)) ?_
 have i0:=pk_lo (c:=a) (n:=(o.2.length:Int)) (by omega)
 have i1:=pk_hi (c:=a) (n:=(o.2.length:Int)) (by omega)
 generalize pk a (o.2.length:Int)=I at *
 refine Ans.bind (P:=fun _=>True) ?_ fun _ _=>Ans.some trivial
 refine Ans.seq (m86_eq h1 (by omega)) ?_
 refine Ans.cond (fun _=>?_) fun _=>Ans.cond (fun _=>?_) fun _=>?_
 ·obtain ⟨r,hr,hr2⟩:=div_has h3 (b:=8) (by omega)
  refine Ans.seq hr (Ans.seq (m86_eq hr2 (by omega)) (Ans.seq (x:=()) (chkM_of i0 i1) ?_))
  have j0:=pk_lo (c:=r) (n:=2) (by omega)
  have j1:=pk_hi (c:=r) (n:=2) (by omega)
  generalize pk r 2=J at *
  refine Ans.seq (x:=()) (chkM_of (n:=(2:Int)) j0 j1) ?_
  rw [show ((nat_lit 0:Nat):Int)+J*((nat_lit 1:Nat):Int)=J by show (0:Int)+J*1=J;omega]
  by_cases hj:J=1
  ·rw [eqI (show J=((nat_lit 1:Nat):Int) from hj)]
   exact Ans.seq (setM_of i0 i1 rfl) (Ans.some trivial)
  ·rw [neI (show J≠((nat_lit 1:Nat):Int) from hj),eqI (show J=((nat_lit 0:Nat):Int) by show J=(0:Int);omega)]
   exact Ans.seq (setM_of i0 i1 rfl) (Ans.some trivial)
 ·obtain ⟨i,rfl⟩:=Int.eq_ofNat_of_zero_le i0
  refine Ans.seq (x:=()) (chkM_of i0 i1) (Ans.seq (bind_of (idxM_lt (by omega)) rfl) (Ans.seq (x:=()) (chkM_of i0 i1) (Ans.seq (bind_of (idxM_lt (by omega)) rfl) (Ans.seq (appM_of ?_) (Ans.some trivial)))))
  show (o.2.length+1)*16≤140737488355328
  omega
 ·refine Ans.bind (P:=fun _=>True) ?_ fun _ _=>Ans.some trivial
  have p0:=pk_lo (c:=n) (n:=4) (by omega)
  have p1:=pk_hi (c:=n) (n:=4) (by omega)
  refine Ans.loop (fun k s=>s.2.length=o.2.length+k) 31 rfl fun k s hk hP=>?_
  refine Ans.seq (m86_eq h2 (by omega)) ?_
  rw [wrap_in (n:=27+pk n 4) (by omega) (by omega)]
  by_cases hlt:lenM s.2<27+pk n 4
  ·have hlt':(s.2.length:Int)<27+pk n 4:=hlt
   rw [ltI hlt,cond_true]
   obtain ⟨i,rfl⟩:=Int.eq_ofNat_of_zero_le i0
   refine Ans.seq (x:=()) (chkM_of i0 (by show (i:Int)<(s.2.length:Int);omega)) (Ans.seq (idxM_lt (by omega)) (Ans.seq (appM_of ?_) (Ans.some ⟨by omega,?_⟩)))
   ·show (s.2.length+1)*16≤140737488355328
    omega
   ·dsimp only
    rw [List.length_append]
    show s.2.length+1=_
    omega
  ·rw [geI (by omega),cond_false]
   exact Ans.some trivial
theorem m15_any {d:Dat} (h20:d.1.2.length≤20) (h10:d.2.length≤100) {how n a:Int} (h1:IntKind.i64.has how) (h2:IntKind.i64.has n) (h3:IntKind.i64.has a):Ans (m15 (d,how,n,a)) fun _=>True:=by
 unfold m15
 dsimp only
 refine Ans.seq (x:=d.2) (by rw [appM_of (by show (0+d.2.length)*40≤140737488355328;omega)];rfl) ?_
 refine Ans.bind (P:=fun _=>True) (Ans.cond (fun _=>Ans.of (m37_eq h1 (by omega)) trivial) fun _=>Ans.some trivial) fun r1 _=>?_
 refine Ans.cond (fun _=>?_) fun hc=>?_
 ·obtain ⟨r,hr,hr2⟩:=div_has h3 (b:=4) (by omega)
  refine Ans.seq hr (Ans.bind (P:=fun _=>True) ?_ fun _ _=>Ans.some trivial)
  exact m49_any (o:=d.1) h20 h3 h2 hr2
 ·have hlen:0<d.2.length:=by
   rcases Nat.lt_or_ge 0 d.2.length with h | h
   ·exact h
   ·rw [eqI (show lenM d.2=0 by show (d.2.length:Int)=0;omega)] at hc
    cases hc
  have hlm:lenM d.2=(d.2.length:Int):=rfl
  rw [hlm]
  refine Ans.seq (m37_eq h3 (by omega)) ?_
  have i0:=pk_lo (c:=a) (n:=(d.2.length:Int)) (by omega)
  have i1:=pk_hi (c:=a) (n:=(d.2.length:Int)) (by omega)
  generalize pk a (d.2.length:Int)=I at *
  refine Ans.seq (x:=()) (chkM_of i0 i1) ?_
  refine Ans.bind (P:=fun _=>True) ?_ fun _ _=>Ans.some trivial
  refine Ans.seq (m37_eq h1 (by omega)) ?_
  refine Ans.cond (fun _=>?_) fun _=>Ans.cond (fun _=>?_) fun _=>Ans.cond (fun _=>?_) fun _=>Ans.cond (fun _=>?_) fun _=>?_
  all_goals exact Ans.seq (setM_of i0 i1 rfl) (Ans.some trivial)
theorem take_is {α:Type} (l:List α) (n:Nat):sliceM l 0 (min (lenM l) (n:Int))=some (l.take n):=by
 rw [sliceM_of (Int.le_refl _) (by show (0:Int)≤min (l.length:Int) n;omega) (by show min (l.length:Int) n≤_;omega)]
 congr 1
 show (l.take (min (l.length:Int) n).toNat).drop 0=_
 rw [List.drop_zero]
 rcases Nat.lt_or_ge n l.length with h | h
 ·congr 1;omega
 ·rw [show (min (l.length:Int) n).toNat=l.length by omega,List.take_length,List.take_of_length_le h]
theorem law3_ok (x:Nums) (hx:DNum x) (bend:Int×Int×Int) (raw:Dat) (years:List Int) {a b n:Int} (proof:List Int) (hb:IntKind.i64.has bend.1∧IntKind.i64.has bend.2.1∧IntKind.i64.has bend.2.2) (h1:IntKind.i64.has a) (h2:IntKind.i64.has b) (h3:IntKind.i64.has n) :
  m3 (x,bend,raw,years,a,b,n,proof)=some true:=by
 obtain ⟨o,y,d,_,hy,hd,e1,hO,h20,hH,k1,k2,_⟩:=m11_ok hx
 subst e1
 unfold m3
 dsimp only
 rw [sane_ok,Option.bind_some,notT,cond_false]
 refine bind_of (x:=d) hd (bind_of (x:=y) hy ?_)
 rw [show (((d.1.1,d.1.2),d.2):Dat)=d from rfl]
 refine bind_of (take_is years 9) (bind_of (take_is proof 62) (bind_of (take_is raw.1.2 30) (bind_of (take_is raw.2 16) ?_)))
 have q0:=pk_lo (c:=n) (n:=61) (by omega)
 have q1:=pk_hi (c:=n) (n:=61) (by omega)
 rw [m13_eq h1 (by omega),Option.bind_some,m13_eq h2 (by omega),Option.bind_some,m13_eq h3 (by omega),Option.bind_some,wrap_in (n:=pk n 61-30) (by omega) (by omega),cond_true]
 have hk:IntKind.i64.has (pk n 61-30):=by show (-9223372036854775808:Int)≤pk n 61-30∧pk n 61-30≤9223372036854775807;omega
 have hp:(proof.take 62).length≤1000:=by rw [List.length_take];omega
 refine bind_of (m14_ok d y _ _ hk hp) ?_
 rw [and_tt,cond_true]
 refine bind_of (m14_ok d _ _ _ h3 hp) ?_
 rw [and_tt,cond_true]
 obtain ⟨d2,hd2,_⟩:=m15_any h20 (by omega) hb.1 hb.2.1 hb.2.2
 refine bind_of (x:=d2) hd2 ?_
 rw [cond_true]
 refine bind_of (m14_ok d2 _ _ _ hk hp) ?_
 rw [and_tt,cond_true]
 refine bind_of (m14_ok ((raw.1.1,raw.1.2.take 30),raw.2.take 16) _ _ _ h3 hp) rfl
end Go.Proofs.YthfgccfaildmfaaGreatDoor
namespace Go.Proofs.YthfgccfaildmfaaGreatDoor
open Go Go.Abs Go.PE
theorem dn_ok {x:Nums} (h:InR (.pair tI (.pair (.list (.pair tI tI)) (.pair tI (.pair tI (.pair (.list tI) (.pair (.list (.pair tI (.pair tI (.pair tI (.pair tI tI))))) (.pair tI (.pair tI tI)))))))) x):DNum x:=by
 obtain ⟨h0,⟨_,h1⟩,h2,h3,⟨_,h4⟩,⟨_,h5⟩,h6,h7,h8⟩:=h
 refine ⟨h0,fun p hp=>?_,h2,h3,fun g hg=>?_,fun c hc=>?_,h6,h7,h8⟩
 ·obtain ⟨i,hi,rfl⟩:=List.mem_iff_getElem.1 hp
  exact h1 i _ (List.getElem?_eq_getElem hi)
 ·obtain ⟨i,hi,rfl⟩:=List.mem_iff_getElem.1 hg
  exact h4 i _ (List.getElem?_eq_getElem hi)
 ·obtain ⟨i,hi,rfl⟩:=List.mem_iff_getElem.1 hc
  exact h5 i _ (List.getElem?_eq_getElem hi)
end Go.Proofs.YthfgccfaildmfaaGreatDoor
namespace Go.Proofs.YthfgccfaildmfaaGreatDoor
open Go Go.Abs Go.PE
theorem law3:∀ (S:Cells) (w:World) (η:Eta) (vs:List Value) x,All2 (RM S w η) (rvs as3 x) vs→m3 x=some true :=
 law_of_ok fun x h=>law3_ok x.1 (dn_ok h.1) x.2.1 x.2.2.1 x.2.2.2.1 x.2.2.2.2.2.2.2 h.2.1 h.2.2.2.2.1 h.2.2.2.2.2.1 h.2.2.2.2.2.2.1
end Go.Proofs.YthfgccfaildmfaaGreatDoor
