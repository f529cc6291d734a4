/-
 Texts of this proof, put together: Bk, Bl, Ah, Bm, Bn, Ai, Bo, Aj, Bp, Ca, Cb, Cc, Cd, Cf, Cg, Da, Db, Dc, Dd, Ak, Al, De, Df, Dg, LawArchiveMatchesReference.
 No conditions.
-/
import Derived.Test.YtdnabfadigkjgaaGreatDoorZ6
import Derived.Test.YtdnabfadigkjgaaGreatDoorZ5
set_option linter.all false
namespace Go.Proofs.YtdnabfadigkjgaaGreatDoor
open Go Go.Lib Go.Abs Go.PE Go.Ar Go.Sort
open Go.Proofs (ltOf)
abbrev tRp:Ty:=Ty.pair (Ty.int IntKind.i64) (Ty.pair (Ty.int IntKind.i64) (Ty.pair (Ty.int IntKind.i64) (Ty.pair (Ty.int IntKind.i64) (Ty.pair (Ty.int IntKind.i64) (Ty.pair (Ty.int IntKind.i64) (Ty.pair (Ty.int IntKind.i64) (Ty.pair Ty.str Ty.str)))))))
theorem clampR {r:Rp} (h:OkR r):clampT tRp r=r:=by
 obtain ⟨a1,a2,a3,a4,a5,a6,a7,a8,a9⟩:=r
 unfold OkR at h
 dsimp only [Rp.sv,Rp.nu,Rp.da,Rp.ki,Rp.su,Rp.va,Rp.rf,Rp.pv,Rp.tg] at h
 show (IntKind.wrap .i64 a1,IntKind.wrap .i64 a2,IntKind.wrap .i64 a3,IntKind.wrap .i64 a4,IntKind.wrap .i64 a5,IntKind.wrap .i64 a6,IntKind.wrap .i64 a7,List.take maxLen a8,List.take maxLen a9)=_
 rw [wrap_in (by omega) (by omega),wrap_in (by omega) (by omega),wrap_in (by omega) (by omega),wrap_in (by omega) (by omega),wrap_in (by omega) (by omega),wrap_in (by omega) (by omega),wrap_in (by omega) (by omega),tkL (by unfold maxLen;omega),tkL (by unfold maxLen;omega)]
theorem sortR {cf:Rp→Rp→Int} (hO:SWO (ltOf cf)) {xs:List Rp} (hin:∀ q∈xs,OkR q) (hl:xs.length≤100000):∃ ys:List Rp,sortM tRp cf xs=some ys∧ys.Perm xs∧ys.Pairwise fun a b=>ltOf cf b a=false:=by
 have hs:=Go.Sort.pdq_sorts (ltOf (cmpC tRp cf)) (swo_cmpC hO) xs.toArray 0 xs.length (Lib.bitLen xs.length) true true (Nat.zero_le _) (by simp) (Or.inl rfl)
 have key:∀ d:Array Rp,PermIn 0 xs.length xs.toArray d∧SortedIn (ltOf (cmpC tRp cf)) 0 xs.length d→d.toList.Perm xs∧d.toList.Pairwise fun a b=>ltOf cf b a=false:=fun d hs=>by
  obtain ⟨⟨h1,_,h3⟩,h4⟩:=hs
  have hsz:d.size=xs.length:=by simpa using h1
  have hp:d.toList.Perm xs:=by
   have e1:d.extract 0 xs.length=d:=by rw [← hsz];simp
   have e2:xs.toArray.extract 0 xs.length=xs.toArray:=by simp
   rw [e1,e2] at h3
   simpa using h3
  refine ⟨hp,List.pairwise_iff_getElem.2 fun i j hi hj hij=>?_⟩
  have hj':j<d.size:=by simpa using hj
  have h5:=h4 i j (Nat.zero_le _) hij (by omega)
  rw [getElem!_pos d j hj',getElem!_pos d i (by omega)] at h5
  have m1:=hin _ (hp.mem_iff.1 (List.getElem_mem hi))
  have m2:=hin _ (hp.mem_iff.1 (List.getElem_mem hj))
  have g1:d.toList[i]=d[i]'(by omega):=Array.getElem_toList ..
  have g2:d.toList[j]=d[j]:=Array.getElem_toList ..
  rw [g1] at m1 ⊢
  rw [g2] at m2 ⊢
  have e:ltOf (cmpC tRp cf) d[j] (d[i]'(by omega))=ltOf cf (clampT tRp d[j]) (clampT tRp (d[i]'(by omega))):=rfl
  rw [e,clampR m1,clampR m2] at h5
  exact h5
 unfold sortM
 rw [dT (by omega)]
 exact ⟨_,rfl,key _ hs⟩
theorem srt76 {xs:List Rp} (hin:∀ q∈xs,OkR q) (hl:xs.length≤100000):∃ ys:List Rp,sortM tRp cf76 xs=some ys∧ys.Perm xs∧ys.Pairwise fun a b=>ltR b a=false:=by
 obtain ⟨ys,h1,h2,h3⟩:=sortR swo76 hin hl
 refine ⟨ys,h1,h2,List.Pairwise.imp_of_mem (fun {a b} ha hb h=>?_) h3⟩
 have oa:=hin a (h2.mem_iff.1 ha)
 have ob:=hin b (h2.mem_iff.1 hb)
 cases e:ltR b a
 ·rfl
 ·rw [(lt76 b a).2 ((lt2_ok ob oa).2 e)] at h;cases h
noncomputable def cpM (r_4:List Rp):Option (List Rp):=bif ltM (lenM r_4) 2 then some r_4 else (loopM (fun (s:Int)=>bif ltM s (lenM r_4) then (chkM s (lenM r_4)).bind fun r_5=>(idxM r_4 s).bind fun r_6=>(chkM (IntKind.wrap .i64 (s-1)) (lenM r_4)).bind fun r_7=>(idxM r_4 (IntKind.wrap .i64 (s-1))).bind fun r_8=>bif PE.andM (eqM r_6.1 r_8.1) (PE.andM (eqM r_6.2.1 r_8.2.1) (PE.andM (eqM r_6.2.2.1 r_8.2.2.1) (PE.andM (eqM r_6.2.2.2.1 r_8.2.2.2.1) (PE.andM (eqM r_6.2.2.2.2.1 r_8.2.2.2.2.1) (PE.andM (eqM r_6.2.2.2.2.2.1 r_8.2.2.2.2.2.1) (PE.andM (eqM r_6.2.2.2.2.2.2.1 r_8.2.2.2.2.2.2.1) (PE.andM (eqsM r_6.2.2.2.2.2.2.2.1 r_8.2.2.2.2.2.2.2.1) (eqsM r_6.2.2.2.2.2.2.2.2 r_8.2.2.2.2.2.2.2.2)))))))) then (chkM s (lenM r_4)).bind fun r_9=>(loopM (fun (s_1:Int×Int×List Rp)=>bif ltM s_1.2.1 (lenM s_1.2.2-s) then ((chkM s_1.2.1 (lenM s_1.2.2-s)).bind fun r_10=>(idxM s_1.2.2 (s+s_1.2.1)).bind fun r_11=>(chkM (IntKind.wrap .i64 (s_1.2.1-1)) (lenM s_1.2.2-s)).bind fun r_12=>(idxM s_1.2.2 (s+IntKind.wrap .i64 (s_1.2.1-1))).bind fun r_13=>bif PE.notM (PE.andM (eqM r_11.1 r_13.1) (PE.andM (eqM r_11.2.1 r_13.2.1) (PE.andM (eqM r_11.2.2.1 r_13.2.2.1) (PE.andM (eqM r_11.2.2.2.1 r_13.2.2.2.1) (PE.andM (eqM r_11.2.2.2.2.1 r_13.2.2.2.2.1) (PE.andM (eqM r_11.2.2.2.2.2.1 r_13.2.2.2.2.2.1) (PE.andM (eqM r_11.2.2.2.2.2.2.1 r_13.2.2.2.2.2.2.1) (PE.andM (eqsM r_11.2.2.2.2.2.2.2.1 r_13.2.2.2.2.2.2.2.1) (eqsM r_11.2.2.2.2.2.2.2.2 r_13.2.2.2.2.2.2.2.2))))))))) then (chkM s_1.2.1 (lenM s_1.2.2-s)).bind fun r_14=>(idxM s_1.2.2 (s+s_1.2.1)).bind fun r_15=>(chkM s_1.1 (lenM s_1.2.2)).bind fun r_16=>(setM s_1.2.2 s_1.1 fun (x:Rp)=>some (r_15.1,r_15.2.1,r_15.2.2.1,r_15.2.2.2.1,r_15.2.2.2.2.1,r_15.2.2.2.2.2.1,r_15.2.2.2.2.2.2.1,r_15.2.2.2.2.2.2.2.1,r_15.2.2.2.2.2.2.2.2)).bind fun r=>some (IntKind.wrap .i64 (s_1.1+1),r) else some (s_1.1,s_1.2.2)).bind fun o=>some (Sum.inl (o.1,IntKind.wrap .i64 (s_1.2.1+1),o.2)) else some (Sum.inr (s_1.1,s_1.2.2))) (s,1,r_4)).bind fun o=>(chkM o.1 (lenM o.2)).bind fun r_10=>(sliceM (clrM o.2 o.1 (0,0,0,0,0,0,0,[],[])) 0 o.1).bind fun r=>some (Sum.inr (Sum.inr r)) else some (Sum.inl (IntKind.wrap .i64 (s+1))) else some (Sum.inr (Sum.inl ()))) 1).bind fun o=>Sum.elim (fun (t:Unit)=>some r_4) (fun (t:List Rp)=>some t) o
abbrev Up0 (l:List Rp):Prop:=l.Pairwise fun a b=>ltR b a=false
theorem Up0.get {l:List Rp} (h:Up0 l) {i j:Nat} (hj:j<l.length) (hij:i<j):ltR l[j] (l[i]'(by omega))=false:=List.pairwise_iff_getElem.1 h i j (by omega) hj hij
theorem cp_step {l D:List Rp} (h:Up0 l) {m:Nat} (h0:0<m) (hm:m<l.length) (hD:Up D) (hmem:∀ x,x∈D↔x∈l.take m) (hne:l[m]≠l[m-1]'(by omega)):Up (D++[l[m]]):=by
 refine List.pairwise_append.2 ⟨hD,List.pairwise_singleton _ _,fun d hd y hy=>?_⟩
 rw [List.mem_singleton.1 hy]
 have h1:=Up0.get h hm (show m-1<m by omega)
 have h2:ltR (l[m-1]'(by omega)) l[m]=true:=by
  rcases ltR_tri (l[m-1]'(by omega)) l[m] with q | q | q
  ·exact q
  ·exact absurd q.symm hne
  ·rw [q] at h1;cases h1
 obtain ⟨i,hi,e⟩:=List.getElem_of_mem ((hmem d).1 hd)
 rw [lT] at hi
 rw [List.getElem_take] at e
 by_cases q:i=m-1
 ·subst q;rw [← e];exact h2
 ·have h3:=Up0.get h (show m-1<l.length by omega) (show i<m-1 by omega)
  rcases ltR_tri d (l[m-1]'(by omega)) with p | p | p
  ·exact ltR_trans p h2
  ·rw [p];exact h2
  ·rw [← e,h3] at p;cases p
theorem take_mem_succ {l:List Rp} {m:Nat} (hm:m<l.length) (x:Rp):x∈l.take (m+1)↔x∈l.take m∨x=l[m]:=by
 rw [List.take_add_one,gE hm,Option.toList_some,List.mem_append,List.mem_singleton]
theorem cpM_ok {l:List Rp} (h:Up0 l) (hl:l.length≤100000):cpM l=some (arch l):=by
 unfold cpM
 simp only [eqR_eq]
 rw [lenI]
 by_cases h2:l.length<2
 ·rw [ltI (by omega),cT]
  congr 1
  refine up_arch ?_ fun _=>Iff.rfl
  match l,h2 with
  | [],_=>exact List.Pairwise.nil
  | [x],_=>exact List.pairwise_singleton _ _
 rw [geI (by omega),cF]
 refine Ans.bindEq (Q:=fun (o:Unit⊕List Rp)=>(o=.inl ()∧Up l)∨o=.inr (arch l)) ?_ fun o ho=>?_
 ·refine Ans.loop (fun k s=>s=((k+1:Nat):Int)∧k+1≤l.length∧Up (l.take (k+1))) (l.length-1) ⟨rfl,by omega,?_⟩ ?_
  ·rw [List.take_add_one,gE (by omega)]
   exact List.pairwise_singleton _ _
  rintro k s hk ⟨rfl,h3,h4⟩
  by_cases hkl:k+1<l.length
  ·rw [ltI (by omega),cT,chkM_of (by omega) (by omega),oB,idxM_lt hkl,oB,wrap_in (n:=((k+1:Nat):Int)-1) (by omega) (by omega),show ((k+1:Nat):Int)-1=(k:Int) by omega,chkM_of (by omega) (by omega),oB,idxM_lt (by omega),oB]
   by_cases e:l[k+1]=l[k]'(by omega)
   ·rw [dT e,cT,oB]
    refine Ans.bind (P:=fun (o:Int×List Rp)=>∃ w:Nat,o.1=w∧w<l.length∧o.2.length=l.length∧Up (o.2.take w)∧∀ x,x∈o.2.take w↔x∈l) ?_ fun o ho=>?_
    ·refine Ans.loop (fun j z=>∃ (w:Nat) (l':List Rp),z=((w:Int),((j+1:Nat):Int),l')∧w+1≤k+1+(j+1)∧k+1+(j+1)≤l.length∧l'.length=l.length∧l'.drop w=l.drop w∧Up (l'.take w)∧∀ x,x∈l'.take w↔x∈l.take (k+1+(j+1))) (l.length-(k+1)-1) ⟨k+1,l,rfl,by omega,by omega,rfl,rfl,h4,fun x=>?_⟩ ?_
     ·rw [take_mem_succ hkl]
      constructor
      ·exact .inl
      ·rintro (q | q)
       ·exact q
       ·rw [q,e]
        exact (take_mem_succ (by omega) _).2 (.inr rfl)
     ·rintro j z hj ⟨w,l',rfl,q1,q2,q3,q4,q5,q6⟩
      dsimp only
      rw [lenI,q3]
      by_cases hjl:k+1+(j+1)<l.length
      ·have gd:∀ i,w≤i→(hi:i<l.length)→l'[i]'(by omega)=l[i]:=fun i hi hi2=>by
        have:=congrArg (fun z=>z[i-w]?) q4
        simp only [List.getElem?_drop] at this
        rw [show w+(i-w)=i by omega,gE (by omega),gE hi2] at this
        exact Option.some.inj this
       have I1:idxM l' (((k+1:Nat):Int)+((j+1:Nat):Int))=some l[k+1+(j+1)]:=by
        rw [show ((k+1:Nat):Int)+((j+1:Nat):Int)=((k+1+(j+1):Nat):Int) by omega,idxM_lt (by omega),gd _ (by omega) hjl]
       have I2:idxM l' (((k+1:Nat):Int)+(j:Int))=some (l[k+1+j]'(by omega)):=by
        rw [show ((k+1:Nat):Int)+(j:Int)=((k+1+j:Nat):Int) by omega,idxM_lt (by omega),gd _ (by omega) (by omega)]
       have hC:∀ i:Nat,i≤j+1→chkM (i:Int) ((l.length:Int)-((k+1:Nat):Int))=some ():=fun i hi=>chkM_of (by omega) (by omega)
       rw [ltI (by omega),cT,hC (j+1) (by omega),oB,I1,oB,wrap_in (n:=((j+1:Nat):Int)-1) (by omega) (by omega),show ((j+1:Nat):Int)-1=(j:Int) by omega,hC j (by omega),oB,I2,oB,wrap_in (n:=((j+1:Nat):Int)+1) (by omega) (by omega)]
       by_cases f:l[k+1+(j+1)]=l[k+1+j]'(by omega)
       ·rw [dT f,notT,cF,oB]
        refine Ans.some ⟨by omega,w,l',rfl,by omega,by omega,q3,q4,q5,fun x=>?_⟩
        rw [show k+1+(j+1+1)=k+1+(j+1)+1 by omega,take_mem_succ hjl,q6]
        constructor
        ·exact .inl
        ·rintro (p | p)
         ·exact p
         ·rw [p,f]
          rw [show k+1+(j+1)=k+1+j+1 by omega]
          exact (take_mem_succ (by omega) _).2 (.inr rfl)
       ·rw [dF f,notF,cT,oB,oB,chkM_of (by omega) (by omega),oB,eR,setM_of (y:=l[k+1+(j+1)]) (by omega) (by omega) rfl,oB,oB,wrap_in (n:=(w:Int)+1) (by omega) (by omega),Int.toNat_natCast]
        have t1:(l'.set w l[k+1+(j+1)]).take (w+1)=l'.take w++[l[k+1+(j+1)]]:=by
         rw [List.take_add_one,List.take_set_of_le (nR _),List.getElem?_set_self (by omega)];rfl
        refine Ans.some ⟨by omega,w+1,_,rfl,by omega,by omega,by rw [List.length_set];exact q3,?_,?_,fun x=>?_⟩
        ·rw [List.drop_set_of_lt (by omega)]
         have:=congrArg (List.drop 1) q4
         rw [List.drop_drop,List.drop_drop] at this
         exact this
        ·rw [t1]
         exact cp_step h (by omega) hjl q5 q6 (by simpa using f)
        ·rw [t1,List.mem_append,List.mem_singleton,q6,show k+1+(j+1+1)=k+1+(j+1)+1 by omega,take_mem_succ hjl]
      ·rw [geI (by omega),cF]
       refine Ans.some ⟨w,rfl,by omega,q3,q5,fun x=>?_⟩
       rw [q6,tkL (by omega)]
    ·obtain ⟨w,e1,e2,e3,e4,e5⟩:=ho
     rw [e1,chkM_of (by omega) (by rw [lenI];omega),oB]
     have e6:sliceM (clrM o.2 (w:Int) (0,0,0,0,0,0,0,[],[])) 0 (w:Int)=some (o.2.take w):=by
      unfold clrM
      rw [sliceM_of (by omega) (by omega) (by simp;omega)]
      simp [e3,List.take_append_of_le_length,Nat.min_eq_left (Nat.le_of_lt e2)]
     rw [e6,oB]
     exact Ans.some (.inr (by rw [up_arch e4 e5]))
   ·rw [dF e,cF,wrap_in (by omega) (by omega)]
    refine Ans.some ⟨by omega,rfl,by omega,?_⟩
    rw [List.take_add_one,gE hkl]
    exact cp_step h (by omega) hkl h4 (fun _=>Iff.rfl) (by simpa using e)
  ·rw [geI (by omega),cF]
   rw [tkL (by omega)] at h4
   exact Ans.some (.inl ⟨rfl,h4⟩)
 ·rcases ho with ⟨rfl,h5⟩ | rfl
  ·show some l=_
   rw [arch_self h5]
  ·rfl
theorem made_ok {xs:List Rp} (hin:∀ q∈xs,OkR q) (hl:xs.length≤100000):((sortM tRp cf76 xs).bind fun r_4=>(cpM r_4).bind fun (ov:List Rp)=>bif ltM 40 (lenM ov) then some ((390:Int),([]:List Rp)) else some (0,ov))=some ((mk40 (arch xs)).2,(mk40 (arch xs)).1):=by
 obtain ⟨ys,h1,h2,h3⟩:=srt76 hin hl
 have e:arch ys=arch xs:=arch_congr fun x=>h2.mem_iff
 rw [h1,oB,cpM_ok h3 (by rw [h2.length_eq];exact hl),oB,e,lenI]
 unfold mk40
 by_cases h:(arch xs).length≤40
 ·rw [geI (by omega),cF,if_pos h]
 ·rw [ltI (by omega),cT,if_neg h]
theorem clone_ok {xs:List Rp} (hl:xs.length≤1000000):mo77 xs=some xs:=by
 unfold mo77
 match xs with
 | [] =>
  show bothM _ _=_
  unfold bothM
  rw [appR (by simp),oB]
  split
  ·rfl
  ·rename_i h _;exact absurd rfl h
 | x::r =>
  show (appM (nat_lit 88) [] (x::r)).bind (fun r=>some r)=_
  rw [appR (by simpa using hl)];rfl
theorem wAdd_eq {a:List Rp} {r:Rp} (ha:a.length≤1000000):m31 (a,r)=some (addR a r):=by
 unfold m31 addR
 dsimp only
 rw [eR,wValid_eq ha,oB]
 by_cases h1:OkA a
 ·rw [dT h1,notT,notF,cT,wOk_eq,oB,orF]
  by_cases h2:OkR r
  ·rw [dT h2,notT,cF,clone_ok (by omega),oB,appR (by simp;omega),oB,if_pos ⟨h1,h2⟩]
   obtain ⟨a1,a2,a3⟩:=h1
   exact bind_of (made_ok (xs:=a++[r]) (fun x hx=>by
    rcases List.mem_append.1 hx with q | q
    ·exact a1 x q
    ·rw [List.mem_singleton.1 q];exact h2) (by simp;omega)) rfl
  ·rw [dF h2,notF,cT,if_neg fun h=>h2 h.2]
 ·rw [dF h1,notF,notT,cF,oB,orT,cT,if_neg fun h=>h1 h.1]
def three {α:Type} (x y z:α):Nat→α
 | 0=>x
 | 1=>y
 | _+2=>z
theorem three0 {α:Type} (x y z:α):three x y z 0=x:=rfl
theorem three1 {α:Type} (x y z:α):three x y z 1=y:=rfl
theorem three2 {α:Type} (x y z:α):three x y z 2=z:=rfl
theorem wMerge_eq {a b:List Rp} (ha:a.length≤1000000) (hb:b.length≤1000000):m27 (a,b)=some (mrg a b):=by
 unfold m27 mrg
 dsimp only
 rw [wValid_eq ha,oB]
 by_cases h1:OkA a
 ·rw [dT h1,notT,notF,cT,wValid_eq hb,oB,orF]
  by_cases h2:OkA b
  ·rw [dT h2,notT,cF,if_pos ⟨h1,h2⟩]
   obtain ⟨a1,a2,a3⟩:=h1
   obtain ⟨b1,b2,b3⟩:=h2
   have L2:lenM [a,b]=2:=rfl
   have i0:idxM [a,b] ((0:Nat):Int)=some a:=rfl
   have i1:idxM [a,b] ((1:Nat):Int)=some b:=rfl
   refine bind_of (x:=((a.length+b.length:Nat):Int)) (loopM_at (fun k=>(three 0 (a.length:Int) ((a.length+b.length:Nat):Int) k,(k:Int))) 2 rfl (fun k hk=>?_) ?_) ?_
   ·match k,hk with
    | 0,_ =>
     dsimp only
     rw [L2,ltI (by omega),cT,i0,oB,three0,lenI,wrap_in (n:=0+(a.length:Int)) (by omega) (by omega),geI (by omega),cF,wrap_in (by omega) (by omega),Int.zero_add]
     rfl
    | 1,_ =>
     dsimp only
     rw [L2,ltI (by omega),cT,i1,oB,three1,lenI,wrap_in (n:=(a.length:Int)+(b.length:Int)) (by omega) (by omega),geI (by omega),cF,wrap_in (by omega) (by omega)]
     rfl
   ·dsimp only
    rw [L2,geI (by omega),cF,three2]
   refine bind_of (x:=([]:List Rp)) ?_ ?_
   ·unfold growM
    rw [dT (by omega),dT (by omega)]
   refine bind_of (x:=a++b) (loopM_at (fun k=>((k:Int),three [] a (a++b) k)) 2 rfl (fun k hk=>?_) ?_) ?_
   ·match k,hk with
    | 0,_ =>
     dsimp only
     rw [L2,ltI (by omega),cT,i0,oB,three0,appR (by simp;omega),oB]
     rfl
    | 1,_ =>
     dsimp only
     rw [L2,ltI (by omega),cT,i1,oB,three1,appR (by omega),oB]
     rfl
   ·dsimp only
    rw [L2,geI (by omega),cF,three2]
   exact bind_of (made_ok (xs:=a++b) (fun x hx=>by
    rcases List.mem_append.1 hx with q | q
    ·exact a1 x q
    ·exact b1 x q) (by simp;omega)) rfl
  ·rw [dF h2,notF,cT,if_neg fun h=>h2 h.2]
 ·rw [dF h1,notF,notT,cF,oB,orT,cT,if_neg fun h=>h1 h.1]
theorem cf76_zero {a b:Rp} (ha:OkR a) (hb:OkR b):eqM (cf76 a b) 0=decide (a=b):=by
 unfold eqM
 congr 1
 refine propext ⟨fun h=>?_,fun h=>?_⟩
 ·unfold cf76 at h
  by_cases h1:cmpI a.sv b.sv=0
  ·rw [if_pos h1] at h
   by_cases h2:cmpI a.nu b.nu=0
   ·rw [if_pos h2] at h
    rcases blt_tri (en2 a) (en2 b) with q | q | q
    ·have:=cmpS_neg.2 q;omega
    ·rw [en2_ok ha,en2_ok hb] at q;exact en_inj q
    ·unfold cmpS at h
     rw [blt_asym q,q] at h
     simp at h
   ·rw [if_neg h2] at h;exact absurd h h2
  ·rw [if_neg h1] at h;exact absurd h h1
 ·subst h
  unfold cf76
  rw [if_pos (cmpI_zero.2 rfl),if_pos (cmpI_zero.2 rfl),cmpS_self]
theorem wMiss_eq {a b:List Rp} (ha:a.length≤1000000) (hb:b.length≤1000000):m28 (a,b)=some (miss a b):=by
 unfold m28 miss
 dsimp only
 rw [wValid_eq ha,oB]
 by_cases h1:OkA a
 ·rw [dT h1,notT,notF,cT,wValid_eq hb,oB,orF]
  by_cases h2:OkA b
  ·rw [dT h2,notT,cF,if_pos ⟨h1,h2⟩]
   obtain ⟨a1,a2,a3⟩:=h1
   obtain ⟨b1,b2,b3⟩:=h2
   refine bind_of (filt (fun r:Rp=>decide (r∉b)) a (fun k hk out ho=>?_) (fun out=>?_)) rfl
   ·have hr:=a1 _ (List.getElem_mem hk)
    dsimp only
    rw [lenI,ltI (by omega),cT,idxM_lt hk,oB]
    generalize a[k]=r at hr
    refine bind_of (x:=if decide (r∉b)=true then out++[r] else out) ?_ (by rw [wrap_in (by omega) (by omega)])
    refine Ans.bindEq (Q:=fun (o:Int)=>∃ i:Nat,o=i∧i≤b.length∧(∀ j x,j<i→b[j]? = some x→ltR x r=true)∧∀ j x,i≤j→b[j]? = some x→ltR x r=false) ?_ fun o ho2=>?_
    ·refine Ans.loop (fun t z=>∃ i j:Nat,z=((i:Int),(j:Int))∧i≤j∧j≤b.length∧t+j≤b.length+i∧(∀ p x,p<i→b[p]? = some x→ltR x r=true)∧∀ p x,j≤p→b[p]? = some x→ltR x r=false) b.length ⟨0,b.length,rfl,by omega,by omega,by omega,fun p x hp=>by omega,fun p x hp hx=>by have:=lt_of_get hx;omega⟩ ?_
     rintro t z ht ⟨i,j,rfl,q1,q2,q3,q4,q5⟩
     dsimp only
     by_cases hij:i<j
     ·have hb3:(i+j) / 2<b.length:=by omega
      have hx:=gE hb3
      have hox:=b1 _ (List.getElem_mem hb3)
      rw [ltI (by omega),cT,wrap_in (n:=(i:Int)+(j:Int)) (by omega) (by omega),wu64_in (by omega) (by omega),show (i:Int)+(j:Int)=((i+j:Nat):Int) by omega,shrI (n:=1) (k:=.u64) (i+j) 1 rfl (by decide),oB,show shr (i+j) 1=(i+j) / 2 from rfl,wrap_in (n:=(((i+j) / 2:Nat):Int)) (by omega) (by omega),idxM_lt hb3,oB,eR,eR,hm76,oB]
      have hlt:=(cf76_neg (x:=b[(i+j) / 2]) (y:=r)).trans (lt2_ok hox hr)
      cases e:ltR b[(i+j) / 2] r
      ·have:¬ cf76 b[(i+j) / 2] r<0:=fun q=>by rw [hlt.1 q] at e;cases e
       rw [geI (by omega),cF]
       refine Ans.some ⟨by omega,i,(i+j) / 2,rfl,by omega,by omega,by omega,q4,fun p x hp hx2=>?_⟩
       by_cases f:p=(i+j) / 2
       ·subst f;rw [hx] at hx2;cases hx2;exact e
       ·cases g:ltR x r
        ·rfl
        ·have hp2:=lt_of_get hx2
         have:=List.pairwise_iff_getElem.1 b2 ((i+j) / 2) p hb3 hp2 (by omega)
         rw [gE hp2] at hx2
         cases hx2
         rw [ltR_trans this g] at e;cases e
      ·rw [ltI (hlt.2 e),cT,wrap_in (by omega) (by omega)]
       refine Ans.some ⟨by omega,(i+j) / 2+1,j,rfl,by omega,by omega,by omega,fun p x hp hx2=>?_,q5⟩
       by_cases f:p=(i+j) / 2
       ·subst f;rw [hx] at hx2;cases hx2;exact e
       ·have hp2:=lt_of_get hx2
        have:=List.pairwise_iff_getElem.1 b2 p ((i+j) / 2) hp2 hb3 (by omega)
        rw [gE hp2] at hx2
        cases hx2
        exact ltR_trans this e
     ·rw [geI (by omega),cF]
      exact Ans.some ⟨i,rfl,by omega,q4,fun p x hp=>q5 p x (by omega)⟩
    ·obtain ⟨i,rfl,q1,q2,q3⟩:=ho2
     have hfound:(r∈b)↔b[i]? = some r:=by
      constructor
      ·intro h
       obtain ⟨p,hp,e⟩:=List.getElem_of_mem h
       have e2:b[p]? = some r:=by rw [gE hp,e]
       by_cases f:p<i
       ·have:=q2 p r f e2;rw [ltR_irr] at this;cases this
       ·by_cases g:p=i
        ·rw [← g];exact e2
        ·have:=List.pairwise_iff_getElem.1 b2 i p (by omega) hp (by omega)
         rw [e] at this
         have h4:=q3 i _ (nR _) (gE (by omega))
         rw [h4] at this;cases this
      ·exact fun h=>List.mem_of_getElem? h
     rw [lenI]
     by_cases hi:i<b.length
     ·have hox:=b1 _ (List.getElem_mem hi)
      rw [ltI (by omega),cT,idxM_lt hi,oB,cT,eR,eR,hm76,oB,andT,cf76_zero hox hr]
      rw [gE hi,Option.some.injEq] at hfound
      by_cases e:b[i]=r
      ·rw [dT e,notT,cF,if_neg (by simp;exact hfound.2 e)]
      ·rw [dF e,notF,cT,appR (by simp;omega),oB,if_pos (by simp;exact fun h=>e (hfound.1 h))]
     ·rw [geI (by omega),cF,oB,cF,oB,andF,notF,cT,eR,appR (by simp;omega),oB,if_pos (by
       simp only [decide_eq_true_eq]
       intro h
       rw [hfound,List.getElem?_eq_none (by omega)] at h;cases h)]
   ·dsimp only
    rw [lenI,geI (by omega),cF]
  ·rw [dF h2,notF,cT,if_neg fun h=>h2 h.2]
 ·rw [dF h1,notF,notT,cF,oB,orT,cT,if_neg fun h=>h1 h.1]
theorem same_loop {α:Type} [DecidableEq α] {a b:List α} (hl:a.length=b.length) (ha:a.length≤1000000):Ans (loopM (fun (s:Int)=>bif ltM s (lenM a) then (idxM a s).bind fun r=>(idxM b s).bind fun r_1=>bif PE.notM (decide (r=r_1)) then some (Sum.inr (Sum.inr false)) else some (Sum.inl (IntKind.wrap .i64 (s+1))) else some (Sum.inr (Sum.inl ()))) 0) (fun (o:Unit⊕Bool)=>(o=.inl ()∧a=b)∨(o=.inr false∧a≠b)):=by
 refine Ans.loop (fun k s=>s=(k:Int)∧k≤a.length∧∀ i,i<k→a[i]? = b[i]?) a.length ⟨rfl,by omega,fun i hi=>by omega⟩ ?_
 rintro k s hk ⟨rfl,h2,h3⟩
 rw [lenI]
 by_cases hkl:k<a.length
 ·rw [ltI (by omega),cT,idxM_lt hkl,oB,idxM_lt (by omega),oB]
  by_cases e:a[k]=b[k]'(by omega)
  ·rw [dT e,notT,cF,wrap_in (by omega) (by omega)]
   refine Ans.some ⟨by omega,rfl,by omega,fun i hi=>?_⟩
   by_cases f:i=k
   ·subst f;rw [gE hkl,gE (by omega),e]
   ·exact h3 i (by omega)
  ·rw [dF e,notF,cT]
   refine Ans.some (.inr ⟨rfl,fun h=>e ?_⟩)
   subst h;rfl
 ·rw [geI (by omega),cF]
  refine Ans.some (.inl ⟨rfl,List.ext_getElem? fun i=>?_⟩)
  by_cases f:i<a.length
  ·exact h3 i (by omega)
  ·rw [List.getElem?_eq_none (by omega),List.getElem?_eq_none (by omega)]
theorem same_eq {a b:List Rp} (ha:a.length≤1000000):m26 (a,b)=some (decide (a=b)):=by
 unfold m26
 simp only [eqR_eq]
 rw [lenI,lenI]
 by_cases hl:a.length=b.length
 ·rw [eqI (by omega),notT,cF]
  refine Ans.bindEq (same_loop hl ha) fun o ho=>?_
  rcases ho with ⟨rfl,h⟩ | ⟨rfl,h⟩
  ·rw [dT h];rfl
  ·rw [dF h];rfl
 ·rw [neI (by omega),notF,cT,dF fun h=>hl (by rw [h])]
theorem samePairs_eq {a b:List (Int×Int)} (ha:a.length≤1000000):m40 (a,b)=some (decide (a=b)):=by
 unfold m40
 have e2:∀ x y:Int×Int,PE.andM (eqM x.1 y.1) (eqM x.2 y.2)=decide (x=y):=fun x y=>by
  obtain ⟨x1,x2⟩:=x
  obtain ⟨y1,y2⟩:=y
  unfold PE.andM eqM
  rw [← Bool.decide_and]
  congr 1
  exact propext (by simp)
 simp only [e2]
 rw [lenI,lenI]
 by_cases hl:a.length=b.length
 ·rw [eqI (by omega),notT,cF]
  refine Ans.bindEq (same_loop hl ha) fun o ho=>?_
  rcases ho with ⟨rfl,h⟩ | ⟨rfl,h⟩
  ·rw [dT h];rfl
  ·rw [dF h];rfl
 ·rw [neI (by omega),notF,cT,dF fun h=>hl (by rw [h])]
theorem some_ok {l:List Rp} {set:Int} (hs:has64 set) (hl:l.length≤1000000):∃ s,m16 (l,set)=some s∧s.Sublist l:=by
 have key:Ans (m16 (l,set)) (fun s=>s.Sublist l):=by
  unfold m16
  dsimp only
  refine Ans.bind (P:=fun s:List Rp=>s.Sublist l) ?_ fun s hs=>Ans.some hs
  refine Ans.loop (fun k z=>∃ s:List Rp,z=((k:Int),s)∧k≤l.length∧s.Sublist (l.take k)) l.length ⟨[],rfl,by omega,by simp⟩ ?_
  rintro k z hk ⟨s,rfl,h1,h2⟩
  dsimp only
  rw [lenI]
  by_cases hkl:k<l.length
  ·have hp:=pickN_lt (c:=set) (show (0:Int)<1048576 by omega)
   obtain ⟨p,hp2⟩:=Int.eq_ofNat_of_zero_le hp.1
   have hsl:=h2.length_le
   rw [lT] at hsl
   rw [ltI (by omega),cT,pick39_eq hs (by omega),oB,hp2,show (20:Int)=((20:Nat):Int) from rfl,remM_nat' _ _ (by decide),oB,shrI p (k % 20) rfl (by show k % 20≤64;omega),oB,show (2:Int)=((2:Nat):Int) from rfl,remM_nat' _ _ (by decide),oB]
   have hx:l.take (k+1)=l.take k++[l[k]]:=by rw [List.take_add_one,gE hkl];rfl
   refine Ans.bind (P:=fun o:List Rp=>o.Sublist (l.take (k+1))) ?_ fun o ho=>?_
   ·refine Ans.cond (fun _=>?_) (fun _=>?_)
    ·rw [idxM_lt hkl,oB,eR,appR (by simp;omega),oB]
     exact Ans.some (by rw [hx];exact h2.append (List.Sublist.refl _))
    ·exact Ans.some (by rw [hx];exact h2.trans (List.sublist_append_left _ _))
   ·rw [wrap_in (by omega) (by omega)]
    exact Ans.some ⟨by omega,o,rfl,by omega,ho⟩
  ·rw [geI (by omega),cF]
   rw [tkL (by omega)] at h2
   exact Ans.some h2
 exact key
theorem of_ok {l:List Rp} (h:∀ x∈l,OkR x) (hl:l.length≤40):m15 l=some (arch l):=by
 unfold m15
 refine bind_of (loopM_at (fun k=>((k:Int),arch (l.take k))) l.length rfl (fun k hk=>?_) ?_) rfl
 ·have ho:=h _ (List.getElem_mem hk)
  have hla:=arch_len (l.take k)
  rw [lT] at hla
  dsimp only
  rw [lenI,ltI (by omega),cT,idxM_lt hk,oB,eR,rAdd_eq (by omega),oB,addR_arch (fun x hx=>h x (List.mem_of_mem_take hx)) ho (by rw [lT];omega)]
  rw [show (arch (l.take k++[l[k]]),(0:Int)).2=0 from rfl,eqI rfl,cT,oB,wrap_in (by omega) (by omega),List.take_add_one,gE hk]
  rfl
 ·dsimp only
  rw [lenI,geI (by omega),cF,List.take_length]
def forkR (r:Rp) (how n:Int):Rp :=
 let x:Rp:=if pickN how 3=0 then (r.1,r.2.1,(r.2.2.1+1+pickN n 800000) % 800001,r.2.2.2)
  else if pickN how 3=1 then (r.1,r.2.1,r.2.2.1,1,9,pickN n 100,-1,r.2.2.2.2.2.2.2)
  else (r.1,r.2.1,r.2.2.1,r.2.2.2.1,r.2.2.2.2.1,r.2.2.2.2.2.1,r.2.2.2.2.2.2.1,keyN n,r.2.2.2.2.2.2.2.2)
 (x.1,x.2.1,x.2.2.1,x.2.2.2.1,x.2.2.2.2.1,x.2.2.2.2.2.1,x.2.2.2.2.2.2.1,x.2.2.2.2.2.2.2.1,tagR (keyN x.1) x)
theorem fork_ok {r:Rp} {how n:Int} (h:OkR r) (h1:has64 how) (h2:has64 n):m13 (r,how,n)=some (forkR r how n)∧Gen (keyN r.sv) (forkR r how n)∧(forkR r how n).sv=r.sv∧(forkR r how n).nu=r.nu:=by
 obtain ⟨a1,a2,a3,a4,a5,a6,a7,a8,a9⟩:=r
 have h':=h
 unfold OkR at h'
 dsimp only [Rp.sv,Rp.nu,Rp.da,Rp.ki,Rp.su,Rp.va,Rp.rf,Rp.pv,Rp.tg] at h'
 have p3:=pickN_lt (c:=how) (show (0:Int)<3 by omega)
 have p8:=pickN_lt (c:=n) (show (0:Int)<800000 by omega)
 have p1:=pickN_lt (c:=n) (show (0:Int)<100 by omega)
 have hk:has64 a1:=by unfold has64;omega
 have fin:∀ x:Rp,OkR x→x.1=a1→x.2.1=a2→((m17 x.1).bind fun r=>(m51 (r,x.1,x.2.1,x.2.2.1,x.2.2.2.1,x.2.2.2.2.1,x.2.2.2.2.2.1,x.2.2.2.2.2.2.1,x.2.2.2.2.2.2.2.1,x.2.2.2.2.2.2.2.2)).bind fun r=>some (x.1,x.2.1,x.2.2.1,x.2.2.2.1,x.2.2.2.2.1,x.2.2.2.2.2.1,x.2.2.2.2.2.2.1,x.2.2.2.2.2.2.2.1,r))=some ((x.1,x.2.1,x.2.2.1,x.2.2.2.1,x.2.2.2.2.1,x.2.2.2.2.2.1,x.2.2.2.2.2.2.1,x.2.2.2.2.2.2.2.1,tagR (keyN x.1) x):Rp)∧Gen (keyN a1) (x.1,x.2.1,x.2.2.1,x.2.2.2.1,x.2.2.2.2.1,x.2.2.2.2.2.1,x.2.2.2.2.2.2.1,x.2.2.2.2.2.2.2.1,tagR (keyN x.1) x):=fun x hx e1 e2=>by
  refine ⟨?_,key_len _,?_,?_⟩
  ·rw [e1,key_eq hk,oB,← e1,eR,rTag_ok (by rw [key_len];omega) hx,oB]
  ·obtain ⟨b1,b2,b3,b4,b5,b6,b7,b8,b9⟩:=hx
   exact ⟨b1,b2,b3,b4,b5,b6,b7,tag_len _ _,b9⟩
  ·rw [← e1];rfl
 unfold m13 forkR
 dsimp only
 rw [pick39_eq h1 (by omega),oB]
 by_cases c0:pickN how 3=0
 ·rw [eqI c0,cT,pick39_eq h2 (by omega),oB,wrap_in (n:=a3+1) (by omega) (by omega),wrap_in (by omega) (by omega),remM_of (by omega) (by omega),oB,if_pos c0,oB]
  obtain ⟨f1,f2⟩:=fin (a1,a2,(a3+1+pickN n 800000) % 800001,a4,a5,a6,a7,a8,a9) (by
   unfold OkR;dsimp only [Rp.sv,Rp.nu,Rp.da,Rp.ki,Rp.su,Rp.va,Rp.rf,Rp.pv,Rp.tg]
   have:=Int.emod_nonneg (a3+1+pickN n 800000) (show (800001:Int)≠0 by omega)
   have:=Int.emod_lt_of_pos (a3+1+pickN n 800000) (show (0:Int)<800001 by omega)
   omega) rfl rfl
  exact ⟨f1,f2,rfl,rfl⟩
 ·rw [neI c0,cF,if_neg c0]
  by_cases c1:pickN how 3=1
  ·rw [eqI c1,cT,pick39_eq h2 (by omega),oB,if_pos c1,oB]
   obtain ⟨f1,f2⟩:=fin (a1,a2,a3,1,9,pickN n 100,-1,a8,a9) (by
    unfold OkR;dsimp only [Rp.sv,Rp.nu,Rp.da,Rp.ki,Rp.su,Rp.va,Rp.rf,Rp.pv,Rp.tg]
    omega) rfl rfl
   exact ⟨f1,f2,rfl,rfl⟩
  ·rw [neI c1,cF,key_eq h2,oB,if_neg c1,oB]
   have kl:=key_len n
   obtain ⟨f1,f2⟩:=fin (a1,a2,a3,a4,a5,a6,a7,keyN n,a9) (by
    unfold OkR;dsimp only [Rp.sv,Rp.nu,Rp.da,Rp.ki,Rp.su,Rp.va,Rp.rf,Rp.pv,Rp.tg]
    omega) rfl rfl
   exact ⟨f1,f2,rfl,rfl⟩
theorem made_take {x:List X6} {k:Nat} (h:k<x.length) (h2:k<16):((x.take (k+1)).foldl (fun l x=>l++[nextR l x]) [])=((x.take k).foldl (fun l x=>l++[nextR l x]) [])++[nextR ((x.take k).foldl (fun l x=>l++[nextR l x]) []) x[k]]:=by
 rw [List.take_add_one,gE h,Option.toList_some,List.foldl_append];rfl
theorem madeO_ok {x:List X6} (h:∀ y∈x,has6 y):mo12 x=some (madeL x):=by
 unfold mo12
 refine bind_of (x:=(arch (madeL x),madeL x)) (loopM_at (fun k=>((k:Int),arch ((x.take k).foldl (fun l x=>l++[nextR l x]) []),(x.take k).foldl (fun l x=>l++[nextR l x]) [])) (min x.length 16) rfl (fun k hk=>?_) ?_) rfl
 ·have hk1:k<x.length:=by omega
  have hk2:k<16:=by omega
  have hx:=h _ (List.getElem_mem hk1)
  obtain ⟨hM,hlen⟩:=made_mde (x.take k) Mde.nil (by simp;omega)
  rw [List.length_nil,Nat.zero_add,lT] at hlen
  dsimp only
  rw [made_take hk1 hk2]
  generalize (x.take k).foldl (fun l x=>l++[nextR l x]) []=l at hM hlen
  rw [PE.andM,ltI (by rw [lenI];omega),ltI (by omega),show (true&&true)=true from rfl,cT,idxM_lt hk1]
  generalize x[k]'hk1=y at hx
  have hl:l.length≤39:=by omega
  have hol:=own_le l (pickN y.1 4)
  have hp:=pickN_lt (c:=y.1) (show (0:Int)<4 by omega)
  have ho:=nextR_ok y hl
  have hla:=arch_len l
  rw [oB,pick39_eq hx.1 (by omega),oB,rBel_ok (hM.toChn.okA (by omega)),hM.toChn.belAll,oB,oB,pick39_eq hx.1 (by omega),oB,key_eq (by unfold has64;omega),oB,oB]
  dsimp only
  rw [show (y.1,y.2.1,y.2.2.1,y.2.2.2.1,y.2.2.2.2.1,y.2.2.2.2.2)=y from rfl,lenI,draft_eq hx (by omega) (by omega),oB,eR,rWrite_eq (by omega),nextR_wr hM.toChn y hl,oB]
  dsimp only
  rw [eqI rfl,cT,eR,appR (by simp;omega),oB,rAdd_eq (by omega),oB,addR_arch hM.toChn.ok ho hl,oB,wrap_in (by omega) (by omega)]
  rfl
 ·dsimp only
  have:PE.andM (ltM ((min x.length 16:Nat):Int) (lenM x)) (ltM ((min x.length 16:Nat):Int) 16)=false:=by
   unfold PE.andM ltM
   rw [lenI,← Bool.decide_and]
   exact dF (by omega)
  rw [this,cF]
  have e:x.take (min x.length 16)=x.take 16:=by
   by_cases h:x.length≤16
   ·rw [Nat.min_eq_left h,List.take_length,tkL h]
   ·rw [Nat.min_eq_right (by omega)]
  rw [e];rfl
end Go.Proofs.YtdnabfadigkjgaaGreatDoor
namespace Go.Ar
def gv:Bs→Nat
 | []=>0
 | b::l=>b.toNat % 128+128*gv l
theorem gv_snoc:∀ (l:Bs) (b:UInt8),gv (l++[b])=gv l+b.toNat % 128*128 ^ l.length
 | [],b=>by simp [gv]
 | a::l,b=>by
  simp only [List.cons_append,gv,gv_snoc l b,List.length_cons,Nat.pow_succ]
  rw [Nat.mul_add,← Nat.add_assoc,Nat.mul_comm (128 ^ l.length),Nat.mul_left_comm]
theorem gv_lt:∀ (l:Bs),gv l<128 ^ l.length
 | []=>by simp [gv]
 | b::l=>by
  have:=gv_lt l
  simp only [gv,List.length_cons,Nat.pow_succ];omega
theorem gv_grp (z:Nat):gv (grp z)=z:=by
 induction z using Nat.strongRecOn with
 | _ z ih =>
  by_cases h:z<128
  ·rw [grp_lt h];simp only [gv];rw [u8 (by omega)];omega
  ·rw [grp_ge (by omega)]
   simp only [gv]
   rw [ih _ (by omega),u8 (by omega)];omega
def Sh (l:Bs) (c:Bs) (b:UInt8):Prop:=l=c++[b]∧(∀ x∈c,128≤x.toNat)∧b.toNat<128
theorem grp_sh (z:Nat):∃ c b,Sh (grp z) c b∧(c=[]∨b.toNat≠0):=by
 induction z using Nat.strongRecOn with
 | _ z ih =>
  by_cases h:z<128
  ·exact ⟨[],UInt8.ofNat z,⟨grp_lt h,fun x hx=>(by simp at hx),by rw [u8 (by omega)];exact h⟩,.inl rfl⟩
  ·obtain ⟨c,b,⟨h1,h2,h3⟩,h4⟩:=ih (z / 128) (by omega)
   refine ⟨UInt8.ofNat (z % 128+128)::c,b,⟨by rw [grp_ge (by omega),h1];rfl,fun x hx=>?_,h3⟩,.inr ?_⟩
   ·rcases List.mem_cons.1 hx with q | q
    ·rw [q,u8 (by omega)];omega
    ·exact h2 x q
   ·rcases h4 with rfl | h4
    ·intro e
     have e1:gv (grp (z / 128))=z / 128:=gv_grp _
     rw [h1] at e1
     simp only [List.nil_append,gv,e] at e1
     omega
    ·exact h4
theorem sh_grp:∀ {c:Bs} {b:UInt8} {l:Bs},Sh l c b→(c=[]∨b.toNat≠0)→grp (gv l)=l
 | [],b,l,⟨h1,h2,h3⟩,_=>by
  subst h1
  simp only [List.nil_append,gv]
  rw [grp_lt (by omega)]
  congr 1
  apply u8eq;rw [u8 (by omega)];omega
 | x::c,b,l,⟨h1,h2,h3⟩,h4=>by
  have hb:b.toNat≠0:=h4.resolve_left (by simp)
  subst h1
  have hx:=h2 x (by simp)
  have hx2:=u8lt x
  have ih:=sh_grp (c:=c) (b:=b) ⟨rfl,fun y hy=>h2 y (by simp [hy]),h3⟩ (.inr hb)
  have hpos:0<gv (c++[b]):=by
   rw [gv_snoc]
   have:0<128 ^ c.length:=Nat.pow_pos (by omega)
   have:0<b.toNat % 128*128 ^ c.length:=Nat.mul_pos (by omega) this
   omega
  simp only [List.cons_append,gv]
  rw [grp_ge (by omega)]
  have e1:(x.toNat % 128+128*gv (c++[b])) / 128=gv (c++[b]):=by omega
  have e2:(x.toNat % 128+128*gv (c++[b])) % 128=x.toNat % 128:=by omega
  rw [e1,e2,ih]
  congr 1
  apply u8eq;rw [u8 (by omega)];omega
theorem sh_pre:∀ {c c':Bs} {b b':UInt8} {l l' x y:Bs},Sh l c b→Sh l' c' b'→l++x=l'++y→l=l'
 | [],[],b,b',l,l',x,y,⟨h1,_,h3⟩,⟨g1,_,g3⟩,e=>by
  subst h1;subst g1
  simp at e
  rw [e.1]
 | [],d::c',b,b',l,l',x,y,⟨h1,_,h3⟩,⟨g1,g2,g3⟩,e=>by
  subst h1;subst g1
  simp at e
  have:=g2 d (by simp)
  rw [← e.1] at this;omega
 | d::c,[],b,b',l,l',x,y,⟨h1,h2,h3⟩,⟨g1,g2,g3⟩,e=>by
  subst h1;subst g1
  simp at e
  have:=h2 d (by simp)
  rw [e.1] at this;omega
 | d::c,d'::c',b,b',l,l',x,y,⟨h1,h2,h3⟩,⟨g1,g2,g3⟩,e=>by
  subst h1;subst g1
  simp only [List.cons_append,List.cons.injEq] at e ⊢
  refine ⟨e.1,?_⟩
  exact sh_pre (c:=c) (c':=c') (b:=b) (b':=b') ⟨rfl,fun z hz=>h2 z (by simp [hz]),h3⟩ ⟨rfl,fun z hz=>g2 z (by simp [hz]),g3⟩ e.2
theorem isI_sh {t l c:Bs} {b:UInt8} (hl:Sh l c b) (ht:l <+: t) {n:Int} {k:Nat}:IsI t n k↔inR n∧pI n=l∧k=l.length:=by
 constructor
 ·rintro ⟨h1,h2,y,hy⟩
  obtain ⟨x,hx⟩:=ht
  obtain ⟨c',b',h3,_⟩:=grp_sh (zz n)
  have e:pI n=l:=sh_pre h3 hl (show pI n++y=l++x by rw [hy,hx])
  exact ⟨h1,e,by rw [h2,e]⟩
 ·rintro ⟨h1,h2,h3⟩
  exact ⟨h1,by rw [h3,h2],by rw [h2];exact ht⟩
theorem isI_canon {t l c:Bs} {b:UInt8} (hl:Sh l c b) (ht:l <+: t) {n:Int} {k:Nat}:IsI t n k↔inR n∧n=uz (gv l)∧(c=[]∨b.toNat≠0)∧k=l.length:=by
 rw [isI_sh hl ht]
 constructor
 ·rintro ⟨h1,h2,h3⟩
  have e:zz n=gv l:=by rw [← h2];exact (gv_grp _).symm
  refine ⟨h1,by rw [← e,uz_zz],?_,h3⟩
  obtain ⟨c',b',g1,g2⟩:=grp_sh (zz n)
  have:c'++[b']=c++[b]:=by rw [← g1.1,← hl.1];exact h2
  obtain ⟨p,q⟩:=List.append_inj' this rfl
  simp at q
  rw [← p,← q];exact g2
 ·rintro ⟨h1,h2,h3,h4⟩
  refine ⟨h1,?_,h4⟩
  unfold pI
  rw [h2,zz_uz,sh_grp hl h3]
theorem isI_none {t:Bs} {i:Nat} (h:∀ x∈t.take i,128≤x.toNat) (hi:i=9∨t.length≤i) (n:Int) (k:Nat):¬ IsI t n k:=by
 rintro ⟨h1,h2,y,hy⟩
 obtain ⟨c,b,h3,_⟩:=grp_sh (zz n)
 have hl:=pI_len h1
 have e:pI n=c++[b]:=h3.1
 rw [e] at hl hy
 simp only [lA,List.length_singleton] at hl
 have hb:b∈t.take i:=by
  rw [← hy,aA]
  rcases hi with rfl | hi
  ·rw [List.take_append]
   obtain ⟨m,hm⟩:∃ m,9-c.length=m+1:=⟨8-c.length,by omega⟩
   rw [hm];simp
  ·rw [← hy] at hi
   rw [tkL (by rw [aA] at hi;exact hi)];simp
 have:=h b hb
 have:=h3.2.2
 omega
def IntR (s:Bs) (p:Nat) (r:Int×Int×Int):Prop:=(∀ n k,IsI (s.drop p) n k→r=(n,((p+k:Nat):Int),0))∧((∀ n k,¬ IsI (s.drop p) n k)→r=(0,0,10))
def StrR (s:Bs) (p:Nat) (r:Bs×Int×Int):Prop:=(∀ n k,IsS (s.drop p) n k→r=(n,((p+k:Nat):Int),0))∧((∀ n k,¬ IsS (s.drop p) n k)→r=([],0,10))
theorem IntR.cases {s:Bs} {p:Nat} {r:Int×Int×Int} (h:IntR s p r):(∃ n k,IsI (s.drop p) n k∧r=(n,((p+k:Nat):Int),0))∨((∀ n k,¬ IsI (s.drop p) n k)∧r=(0,0,10)):=by
 by_cases e:∃ n k,IsI (s.drop p) n k
 ·obtain ⟨n,k,e⟩:=e
  exact .inl ⟨n,k,e,h.1 n k e⟩
 ·have e2:∀ n k,¬ IsI (s.drop p) n k:=fun n k q=>e ⟨n,k,q⟩
  exact .inr ⟨e2,h.2 e2⟩
theorem StrR.cases {s:Bs} {p:Nat} {r:Bs×Int×Int} (h:StrR s p r):(∃ n k,IsS (s.drop p) n k∧r=(n,((p+k:Nat):Int),0))∨((∀ n k,¬ IsS (s.drop p) n k)∧r=([],0,10)):=by
 by_cases e:∃ n k,IsS (s.drop p) n k
 ·obtain ⟨n,k,e⟩:=e
  exact .inl ⟨n,k,e,h.1 n k e⟩
 ·have e2:∀ n k,¬ IsS (s.drop p) n k:=fun n k q=>e ⟨n,k,q⟩
  exact .inr ⟨e2,h.2 e2⟩
theorem IsI.le {t:Bs} {n:Int} {k:Nat} (h:IsI t n k):k≤t.length∧t=pI n++t.drop k:=by
 obtain ⟨_,rfl,x,hx⟩:=h
 rw [← hx]
 simp
theorem IsS.le {t u:Bs} {k:Nat} (h:IsS t u k):k≤t.length∧t=pS u++t.drop k:=by
 obtain ⟨_,rfl,x,hx⟩:=h
 rw [← hx]
 simp
end Go.Ar
namespace Go.Proofs.YtdnabfadigkjgaaGreatDoor
open Go Go.Lib Go.Abs Go.PE Go.Ar
theorem pow128 (i:Nat):128 ^ i=2 ^ (7*i):=by rw [Nat.pow_mul]
theorem take_snoc {s:Bs} {p i:Nat} {b:UInt8} (h:s[p+i]? = some b):(s.drop p).take (i+1)=(s.drop p).take i++[b]:=by
 rw [List.take_add_one,List.getElem?_drop,h];rfl
theorem sub_len {s:Bs} {p i:Nat} (h:p+i≤s.length):((s.drop p).take i).length=i:=by rw [lT,List.length_drop];omega
theorem pre_take (t:Bs) (i:Nat):t.take i <+: t:=List.take_prefix _ _
theorem grp_add {i:Nat} (hi:i<9) {z:Nat} (hz:z<128 ^ i) {d:Nat} (hd:d<128):z+d*128 ^ i<9223372036854775808:=by
 have h1:(d+1)*128 ^ i≤128*128 ^ i:=Nat.mul_le_mul_right _ (by omega)
 have h2:128*128 ^ i=128 ^ (i+1):=by rw [Nat.pow_succ,Nat.mul_comm]
 have h3:128 ^ (i+1)≤128 ^ 9:=Nat.pow_le_pow_right (by omega) (by omega)
 have h4:(128:Nat) ^ 9=9223372036854775808:=by decide
 rw [Nat.add_mul] at h1
 omega
theorem xorNeg (m:Nat) (hm:m<4611686018427387904) (o:Nat) (ho:o<2):bitM .xor .i64 (m:Int) (IntKind.wrap .i64 (negM (o:Int)))=if o=0 then (m:Int) else -(m:Int)-1:=by
 unfold negM
 rw [wrap_in (by omega) (by omega)]
 unfold bitM
 dsimp only
 have b1:(BitVec.ofInt IntKind.i64.bits (m:Int)).toNat=m % 18446744073709551616:=by rw [BitVec.ofInt_natCast];rfl
 rw [BitVec.toNat_xor,b1,Nat.mod_eq_of_lt (by omega)]
 by_cases h:o=0
 ·subst h
  rw [if_pos rfl,show (BitVec.ofInt IntKind.i64.bits (-((0:Nat):Int))).toNat=0 from rfl,Nat.xor_zero,wrap_in (by omega) (by omega)]
 ·have:o=1:=by omega
  subst this
  rw [if_neg (by omega),show (BitVec.ofInt IntKind.i64.bits (-((1:Nat):Int))).toNat=18446744073709551615 from rfl,xorAll64 (by omega),IntKind.wrap_i64]
  omega
theorem uz_eq (z:Nat):(if z % 2=0 then ((z / 2:Nat):Int) else -((z / 2:Nat):Int)-1)=uz z:=rfl
theorem wInt_ok {s:Bs} {p:Nat} (hp:p≤s.length) (hs:s.length≤1000000):Ans (m105 (s,(p:Int))) (IntR s p):=by
 unfold m105
 dsimp only
 rw [lenI,geI (by omega),geI (by omega),orF,cF]
 refine Ans.bind (P:=fun (o:Unit⊕Int×Int×Int)=>(o=.inl ()∧∀ n k,¬ IsI (s.drop p) n k)∨∃ r,o=.inr r∧IntR s p r) ?_ fun o ho=>?_
 ·refine Ans.loop (fun i z=>z=((gv ((s.drop p).take i):Int),(i:Int))∧i≤9∧p+i≤s.length∧∀ x∈(s.drop p).take i,128≤x.toNat) 9 ⟨by simp [gv],by omega,by omega,fun x hx=>by simp at hx⟩ ?_
  rintro i z hi ⟨rfl,h1,h2,h3⟩
  dsimp only
  by_cases h9:i=9
  ·rw [geI (by omega),cF]
   exact Ans.some (.inl ⟨rfl,isI_none h3 (.inl h9)⟩)
  rw [ltI (by omega),cT,wrap_in (n:=(p:Int)+(i:Int)) (by omega) (by omega),show (p:Int)+(i:Int)=((p+i:Nat):Int) by omega]
  by_cases hl:p+i<s.length
  ·obtain ⟨b,hb⟩:∃ b,s[p+i]? = some b:=⟨_,gE hl⟩
   have hbl:=u8lt b
   have hz:=gv_lt ((s.drop p).take i)
   rw [sub_len (by omega)] at hz
   have hlen:=sub_len (s:=s) (p:=p) (i:=i) (by omega)
   have hsn:=take_snoc hb
   have hadd:=grp_add (i:=i) (by omega) hz (show b.toNat % 128<128 by omega)
   have hgv:gv ((s.drop p).take (i+1))=gv ((s.drop p).take i)+b.toNat % 128*128 ^ i:=by rw [hsn,gv_snoc,hlen]
   have hlt2:b.toNat % 128*128 ^ i<9223372036854775808:=by omega
   rw [gtI (by omega),cF,byteM_of hb,oB,show (127:Int)=((127:Nat):Int) from rfl,and8 (by omega) (by omega),and127,wu64_in (n:=((b.toNat % 128:Nat):Int)) (by omega) (by omega),wrap_in (n:=7*(i:Int)) (by omega) (by omega),show 7*(i:Int)=((7*i:Nat):Int) by omega,shlM_of (k:=.u64) (by show 7*i≤64;omega),oB]
   have e1:IntKind.wrap .u64 (((b.toNat % 128:Nat):Int)*2 ^ (7*i))=((b.toNat % 128*128 ^ i:Nat):Int):=by
    rw [pow128,show (((b.toNat % 128:Nat):Int)*2 ^ (7*i))=((b.toNat % 128*2 ^ (7*i):Nat):Int) by rw [Int.natCast_mul,Int.natCast_pow];rfl]
    rw [pow128] at hlt2
    exact wu64_in (by omega) (by omega)
   have e2:bitM .or .u64 (gv ((s.drop p).take i):Int) ((b.toNat % 128*128 ^ i:Nat):Int)=(gv ((s.drop p).take (i+1)):Int):=by
    rw [or64 (by omega) (by omega),hgv,Nat.or_comm,pow128]
    rw [pow128] at hz
    have:=Nat.two_pow_add_eq_or_of_lt hz (b.toNat % 128)
    rw [Nat.mul_comm,← this,Nat.add_comm]
   rw [e1,e2]
   by_cases hc:128≤b.toNat
   ·rw [leI (by omega),cT,wrap_in (n:=(i:Int)+1) (by omega) (by omega)]
    refine Ans.some ⟨by omega,rfl,by omega,by omega,fun x hx=>?_⟩
    rw [hsn] at hx
    rcases List.mem_append.1 hx with q | q
    ·exact h3 x q
    ·rw [List.mem_singleton.1 q];exact hc
   ·have hsh:Sh ((s.drop p).take (i+1)) ((s.drop p).take i) b:=⟨hsn,h3,by omega⟩
    have hcan:=fun n k=>isI_canon (n:=n) (k:=k) hsh (pre_take _ _)
    have hZ:gv ((s.drop p).take (i+1))<9223372036854775808:=by rw [hgv];exact hadd
    have hlen1:((s.drop p).take (i+1)).length=i+1:=sub_len (by omega)
    have hc0:(s.drop p).take i=[]↔i=0:=by rw [← List.length_eq_zero_iff,hlen]
    generalize gv ((s.drop p).take (i+1))=Z at hcan hZ
    rw [gtI (by omega),cF,shrI (n:=1) (k:=.u64) Z 1 rfl (by decide),oB,show (1:Int)=((1:Nat):Int) from rfl,and64 (by omega) (by omega),and1,wrap_in (n:=((shr Z 1:Nat):Int)) (by show _≤((Z / 2:Nat):Int);omega) (by show ((Z / 2:Nat):Int)≤_;omega),wrap_in (n:=((Z % 2:Nat):Int)) (by omega) (by omega),show shr Z 1=Z / 2 from rfl,xorNeg (Z / 2) (by omega) (Z % 2) (by omega),uz_eq]
    have hub:uz Z≤4611686018427387903:=by unfold uz;split<;>omega
    by_cases hbad:(b.toNat=0∧0<i)∨uz Z < -4611686018427387903
    ·have:PE.orM (PE.andM (eqM (b.toNat:Int) 0) (ltM 0 (i:Int))) (ltM (uz Z) (-4611686018427387903))=true:=by
      unfold PE.orM PE.andM eqM ltM
      rw [← Bool.decide_and,← Bool.decide_or]
      exact dT (by omega)
     rw [this,cT]
     refine Ans.some (.inl ⟨rfl,fun n k h=>?_⟩)
     obtain ⟨g1,g2,g3,g4⟩:=(hcan n k).1 h
     rw [hc0] at g3
     unfold inR at g1
     omega
    ·have:PE.orM (PE.andM (eqM (b.toNat:Int) 0) (ltM 0 (i:Int))) (ltM (uz Z) (-4611686018427387903))=false:=by
      unfold PE.orM PE.andM eqM ltM
      rw [← Bool.decide_and,← Bool.decide_or]
      exact dF (by omega)
     rw [this,cF]
     have hin:IsI (s.drop p) (uz Z) (i+1):=(hcan _ _).2 ⟨by unfold inR;omega,rfl,by rw [hc0];omega,hlen1.symm⟩
     refine Ans.some (.inr ⟨_,rfl,fun n k h=>?_,fun h=>absurd hin (h _ _)⟩)
     obtain ⟨q1,q2⟩:=h.uniq hin
     rw [q1,q2,wrap_in (by omega) (by omega)]
     congr 1
  ·rw [leI (by omega),cT]
   exact Ans.some (.inl ⟨rfl,isI_none h3 (.inr (by rw [List.length_drop];omega))⟩)
 ·rcases ho with ⟨rfl,h⟩ | ⟨r,rfl,h⟩
  ·exact Ans.some ⟨fun n k q=>absurd q (h n k),fun _=>rfl⟩
  ·exact Ans.some h
theorem isS_of {t:Bs} {n:Int} {k:Nat} (h:IsI t n k) (h0:0≤n) (h1:n≤65536) (h2:k+n.toNat≤t.length):IsS t ((t.drop k).take n.toNat) (k+n.toNat):=by
 obtain ⟨hk,e⟩:=h.le
 obtain ⟨_,rfl,_⟩:=h
 have hl:((t.drop (pI n).length).take n.toNat).length=n.toNat:=by rw [lT,List.length_drop];omega
 have hl2:((((t.drop (pI n).length).take n.toNat).length:Nat):Int)=n:=by rw [hl];omega
 refine ⟨by omega,?_,?_⟩
 ·unfold pS
  rw [lA,hl2,hl]
 ·unfold pS
  rw [hl2]
  conv=>rhs;rw [e]
  exact List.prefix_append_right_inj _ |>.2 (List.take_prefix _ _)
theorem isI_of {t u:Bs} {k:Nat} (h:IsS t u k):IsI t u.length (k-u.length)∧u.length≤k∧(t.drop (k-u.length)).take u.length=u∧k≤t.length:=by
 obtain ⟨hk,e⟩:=h.le
 obtain ⟨h1,rfl,h3⟩:=h
 have hl:(pS u).length-u.length=(pI u.length).length:=by unfold pS;rw [lA];omega
 rw [hl]
 refine ⟨⟨inR_len h1,rfl,?_⟩,by unfold pS;rw [lA];omega,?_,hk⟩
 ·obtain ⟨x,hx⟩:=h3
  exact ⟨u++x,by rw [← hx];unfold pS;rw [aA]⟩
 ·rw [e]
  unfold pS
  rw [aA,List.drop_left,List.take_left]
theorem str_ok {s:Bs} {p:Nat} (hp:p≤s.length) (hs:s.length≤1000000) {r:Int×Int×Int} (hr:IntR s p r) :
  Ans (bif PE.notM (eqM r.2.2 0) then some ([],0,r.2.2) else bif PE.orM (PE.orM (ltM r.1 0) (ltM 65536 r.1)) (ltM (IntKind.wrap .i64 (lenM s-r.2.1)) r.1) then some ([],0,10) else (sliceM s r.2.1 (IntKind.wrap .i64 (r.2.1+r.1))).bind fun r_1=>some (r_1,IntKind.wrap .i64 (r.2.1+r.1),0)) (StrR s p):=by
 rcases hr.cases with ⟨n,k,h,rfl⟩ | ⟨h,rfl⟩
 ·dsimp only
  have hk:=h.le.1
  have hn:=h.1
  unfold inR at hn
  rw [List.length_drop] at hk
  rw [eqI rfl,notT,cF,lenI,wrap_in (n:=(s.length:Int)-((p+k:Nat):Int)) (by omega) (by omega)]
  by_cases hb:(n<0∨65536<n)∨(s.length:Int)-((p+k:Nat):Int)<n
  ·have:PE.orM (PE.orM (ltM n 0) (ltM 65536 n)) (ltM ((s.length:Int)-((p+k:Nat):Int)) n)=true:=by
    unfold PE.orM ltM
    rw [← Bool.decide_or,← Bool.decide_or];exact dT hb
   rw [this,cT]
   refine Ans.some ⟨fun u j g=>?_,fun _=>rfl⟩
   obtain ⟨g1,g2,g3,g4⟩:=isI_of g
   obtain ⟨q1,q2⟩:=g1.uniq h
   have:=g.1
   rw [List.length_drop] at g4
   omega
  ·have:PE.orM (PE.orM (ltM n 0) (ltM 65536 n)) (ltM ((s.length:Int)-((p+k:Nat):Int)) n)=false:=by
    unfold PE.orM ltM
    rw [← Bool.decide_or,← Bool.decide_or];exact dF hb
   have hS:=isS_of h (by omega) (by omega) (by rw [List.length_drop];omega)
   rw [this,cF,wrap_in (by omega) (by omega),sliceM_of (by omega) (by omega) (by omega),oB]
   have e:((s.take (((p+k:Nat):Int)+n).toNat).drop ((p+k:Nat):Int).toNat)=((s.drop p).drop k).take n.toNat:=by
    rw [List.drop_take,List.drop_drop,show (((p+k:Nat):Int)+n).toNat-((p+k:Nat):Int).toNat=n.toNat by omega,Int.toNat_natCast]
   rw [e]
   refine Ans.some ⟨fun u j g=>?_,fun g=>absurd hS (g _ _)⟩
   obtain ⟨q1,q2⟩:=g.uniq hS
   rw [q1,q2]
   congr 2
   omega
 ·dsimp only
  rw [neI (by decide),notF,cT]
  refine Ans.some ⟨fun u j g=>absurd (isI_of g).1 (h _ _),fun _=>rfl⟩
theorem wStr_ok {s:Bs} {p:Nat} (hp:p≤s.length) (hs:s.length≤1000000):Ans (m107 (s,(p:Int))) (StrR s p):=by
 unfold m107
 dsimp only
 exact Ans.bind (wInt_ok hp hs) fun r hr=>str_ok hp hs hr
def RepR (s:Bs) (o:Rp×Int):Prop:=(∀ r,OkR r→s=en r→o=(r,0))∧((∀ r,OkR r→s≠en r)→o=(zR,390))
theorem wInt_next {s:Bs} (hs:s.length≤1000000) {p:Nat} (hp:p≤s.length) {f:Int×Int×Int→Option (Rp×Int)}
  (h2:(∀ n x,inR n→s.drop p≠pI n++x)→Ans (f (0,0,10)) (RepR s))
  (h1:∀ n k,inR n→s.drop p=pI n++s.drop (p+k)→p+k≤s.length→Ans (f (n,((p+k:Nat):Int),0)) (RepR s)):Ans ((m105 (s,(p:Int))).bind f) (RepR s):=by
 refine Ans.bind (wInt_ok hp hs) fun r hr=>?_
 rcases hr.cases with ⟨n,k,h,rfl⟩ | ⟨h,rfl⟩
 ·obtain ⟨q1,q2⟩:=h.le
  rw [List.length_drop] at q1
  rw [List.drop_drop] at q2
  exact h1 n k h.1 q2 (by omega)
 ·refine h2 fun n x hn e=>h n (pI n).length ⟨hn,rfl,?_⟩
  exact ⟨x,e.symm⟩
theorem wStr_next {s:Bs} (hs:s.length≤1000000) {p:Nat} (hp:p≤s.length) {f:Bs×Int×Int→Option (Rp×Int)}
  (h2:(∀ (n:Bs) x,n.length≤65536→s.drop p≠pS n++x)→Ans (f ([],0,10)) (RepR s))
  (h1:∀ (n:Bs) k,n.length≤65536→s.drop p=pS n++s.drop (p+k)→p+k≤s.length→Ans (f (n,((p+k:Nat):Int),0)) (RepR s)):Ans ((m107 (s,(p:Int))).bind f) (RepR s):=by
 refine Ans.bind (wStr_ok hp hs) fun r hr=>?_
 rcases hr.cases with ⟨n,k,h,rfl⟩ | ⟨h,rfl⟩
 ·obtain ⟨q1,q2⟩:=h.le
  rw [List.length_drop] at q1
  rw [List.drop_drop] at q2
  exact h1 n k h.1 q2 (by omega)
 ·refine h2 fun n x hn e=>h n (pS n).length ⟨hn,rfl,?_⟩
  exact ⟨x,e.symm⟩
theorem ok_inR {r:Rp} (h:OkR r):inR r.sv∧inR r.nu∧inR r.da∧inR r.ki∧inR r.su∧inR r.va∧inR r.rf∧r.pv.length≤65536∧r.tg.length≤65536:=by
 obtain ⟨a1,a2,a3,a4,a5,a6,a7,a8,a9⟩:=h
 unfold inR
 omega
theorem en_eq (r:Rp):en r=pI r.sv++(pI r.nu++(pI r.da++(pI r.ki++(pI r.su++(pI r.va++(pI r.rf++(pS r.pv++(pS r.tg++[])))))))):=by
 unfold en sg;simp
theorem rep_bad {s:Bs} (h:∀ r,OkR r→s≠en r):Ans (some (((0,0,0,0,0,0,0,[],[]):Rp),(390:Int))) (RepR s):=Ans.some ⟨fun r hr e=>absurd e (h r hr),fun _=>rfl⟩
theorem wDec_ok {s:Bs} (hs:s.length≤1000000):Ans (m22 s) (RepR s):=by
 unfold m22
 have E0:=fun (r:Rp) (hr:OkR r) (e:s=en r)=>(List.drop_zero (l:=s)).trans (e.trans (en_eq r))
 refine wInt_next (p:=0) hs (by omega) (fun h=>?_) (fun n1 k1 i1 e1 l1=>?_)
 ·dsimp only
  rw [neI (by decide),notF,cT]
  exact rep_bad fun r hr e=>h r.sv _ (ok_inR hr).1 (E0 r hr e)
 dsimp only
 rw [eqI rfl,notT,cF]
 have E1:=fun (r:Rp) (hr:OkR r) (e:s=en r)=>(pI_pre (e1.symm.trans (E0 r hr e))).2
 refine wInt_next (p:=(0+k1)) hs (by omega) (fun h=>?_) (fun n2 k2 i2 e2 l2=>?_)
 ·dsimp only
  rw [neI (by decide),notF,cT]
  exact rep_bad fun r hr e=>h r.nu _ (ok_inR hr).2.1 (E1 r hr e)
 dsimp only
 rw [eqI rfl,notT,cF]
 have E2:=fun (r:Rp) (hr:OkR r) (e:s=en r)=>(pI_pre (e2.symm.trans (E1 r hr e))).2
 refine wInt_next (p:=((0+k1)+k2)) hs (by omega) (fun h=>?_) (fun n3 k3 i3 e3 l3=>?_)
 ·dsimp only
  rw [neI (by decide),notF,cT]
  exact rep_bad fun r hr e=>h r.da _ (ok_inR hr).2.2.1 (E2 r hr e)
 dsimp only
 rw [eqI rfl,notT,cF]
 have E3:=fun (r:Rp) (hr:OkR r) (e:s=en r)=>(pI_pre (e3.symm.trans (E2 r hr e))).2
 refine wInt_next (p:=(((0+k1)+k2)+k3)) hs (by omega) (fun h=>?_) (fun n4 k4 i4 e4 l4=>?_)
 ·dsimp only
  rw [neI (by decide),notF,cT]
  exact rep_bad fun r hr e=>h r.ki _ (ok_inR hr).2.2.2.1 (E3 r hr e)
 dsimp only
 rw [eqI rfl,notT,cF]
 have E4:=fun (r:Rp) (hr:OkR r) (e:s=en r)=>(pI_pre (e4.symm.trans (E3 r hr e))).2
 refine wInt_next (p:=((((0+k1)+k2)+k3)+k4)) hs (by omega) (fun h=>?_) (fun n5 k5 i5 e5 l5=>?_)
 ·dsimp only
  rw [neI (by decide),notF,cT]
  exact rep_bad fun r hr e=>h r.su _ (ok_inR hr).2.2.2.2.1 (E4 r hr e)
 dsimp only
 rw [eqI rfl,notT,cF]
 have E5:=fun (r:Rp) (hr:OkR r) (e:s=en r)=>(pI_pre (e5.symm.trans (E4 r hr e))).2
 refine wInt_next (p:=(((((0+k1)+k2)+k3)+k4)+k5)) hs (by omega) (fun h=>?_) (fun n6 k6 i6 e6 l6=>?_)
 ·dsimp only
  rw [neI (by decide),notF,cT]
  exact rep_bad fun r hr e=>h r.va _ (ok_inR hr).2.2.2.2.2.1 (E5 r hr e)
 dsimp only
 rw [eqI rfl,notT,cF]
 have E6:=fun (r:Rp) (hr:OkR r) (e:s=en r)=>(pI_pre (e6.symm.trans (E5 r hr e))).2
 refine wInt_next (p:=((((((0+k1)+k2)+k3)+k4)+k5)+k6)) hs (by omega) (fun h=>?_) (fun n7 k7 i7 e7 l7=>?_)
 ·dsimp only
  rw [neI (by decide),notF,cT]
  exact rep_bad fun r hr e=>h r.rf _ (ok_inR hr).2.2.2.2.2.2.1 (E6 r hr e)
 dsimp only
 rw [eqI rfl,notT,cF]
 have E7:=fun (r:Rp) (hr:OkR r) (e:s=en r)=>(pI_pre (e7.symm.trans (E6 r hr e))).2
 refine wStr_next (p:=(((((((0+k1)+k2)+k3)+k4)+k5)+k6)+k7)) hs (by omega) (fun h=>?_) (fun n8 k8 i8 e8 l8=>?_)
 ·dsimp only
  rw [neI (by decide),notF,cT]
  exact rep_bad fun r hr e=>h r.pv _ (ok_inR hr).2.2.2.2.2.2.2.1 (E7 r hr e)
 dsimp only
 rw [eqI rfl,notT,cF]
 have E8:=fun (r:Rp) (hr:OkR r) (e:s=en r)=>(pS_pre (e8.symm.trans (E7 r hr e))).2
 refine wStr_next (p:=((((((((0+k1)+k2)+k3)+k4)+k5)+k6)+k7)+k8)) hs (by omega) (fun h=>?_) (fun n9 k9 i9 e9 l9=>?_)
 ·dsimp only
  rw [neI (by decide),notF,cT]
  exact rep_bad fun r hr e=>h r.tg _ (ok_inR hr).2.2.2.2.2.2.2.2 (E8 r hr e)
 dsimp only
 rw [eqI rfl,notT,cF]
 have hall:s=en (n1,n2,n3,n4,n5,n6,n7,n8,n9)++s.drop (((((((((0+k1)+k2)+k3)+k4)+k5)+k6)+k7)+k8)+k9):=by
  rw [en,sg]
  simp only [aA,Rp.sv,Rp.nu,Rp.da,Rp.ki,Rp.su,Rp.va,Rp.rf,Rp.pv,Rp.tg]
  rw [← e9,← e8,← e7,← e6,← e5,← e4,← e3,← e2,← e1,List.drop_zero]
 rw [lenI]
 have huniq:∀ r,s=en r→r=(n1,n2,n3,n4,n5,n6,n7,n8,n9)∧s.drop (((((((((0+k1)+k2)+k3)+k4)+k5)+k6)+k7)+k8)+k9)=[]:=fun r e=>by
  have:=en_pre (a:=r) (b:=(n1,n2,n3,n4,n5,n6,n7,n8,n9)) (x:=[]) (y:=s.drop (((((((((0+k1)+k2)+k3)+k4)+k5)+k6)+k7)+k8)+k9)) (by rw [← hall,List.append_nil,← e])
  exact ⟨this.1,this.2.symm⟩
 by_cases hend:(((((((((0+k1)+k2)+k3)+k4)+k5)+k6)+k7)+k8)+k9)=s.length
 ·rw [eqI (by omega),notT,notF,cT,wOk_eq,oB,orF]
  have h0:s.drop (((((((((0+k1)+k2)+k3)+k4)+k5)+k6)+k7)+k8)+k9)=[]:=List.drop_of_length_le (by omega)
  rw [h0,List.append_nil] at hall
  by_cases ho:OkR (n1,n2,n3,n4,n5,n6,n7,n8,n9)
  ·rw [dT ho,notT,cF]
   exact Ans.some ⟨fun r hr e=>by rw [(huniq r e).1],fun h=>absurd hall (h _ ho)⟩
  ·rw [dF ho,notF,cT]
   exact rep_bad fun r hr e=>ho (by rw [← (huniq r e).1];exact hr)
 ·rw [neI (by omega),notF,notT,cF,oB,orT,cT]
  refine rep_bad fun r hr e=>hend ?_
  have:=congrArg List.length (huniq r e).2
  rw [List.length_drop] at this
  simp at this
  omega
def Pw (P:List (List Bs)):Prop:=P.Pairwise (fun p q=>q.length<p.length)∧∀ p∈P,∃ a,p.length=2 ^ a
theorem pow_lt2 {a b:Nat} (h:(2:Nat) ^ a<2 ^ b):2*2 ^ a≤2 ^ b:=by
 have:a<b:=(Nat.pow_lt_pow_iff_right (by omega)).1 h
 rw [show 2*2 ^ a=2 ^ (a+1) by rw [Nat.pow_succ];omega]
 exact Nat.pow_le_pow_right (by omega) this
theorem Pw.tail {p:List Bs} {P:List (List Bs)} (h:Pw (p::P)):Pw P:=⟨(List.pairwise_cons.1 h.1).2,fun q hq=>h.2 q (by simp [hq])⟩
theorem Pw.sum:∀ {p:List Bs} {P:List (List Bs)},Pw (p::P)→P.flatten.length<p.length
 | p,[],h=>by
  obtain ⟨a,ha⟩:=h.2 p (by simp)
  have:=Nat.two_pow_pos a
  simp;omega
 | p,q::P,h=>by
  have h1:=Pw.sum h.tail
  have h2:=(List.pairwise_cons.1 h.1).1 q (by simp)
  obtain ⟨a,ha⟩:=h.2 p (by simp)
  obtain ⟨b,hb⟩:=h.2 q (by simp)
  rw [ha,hb] at h2
  have:=pow_lt2 h2
  rw [List.flatten_cons,lA];omega
theorem Pw.root {p:List Bs} {P:List (List Bs)} (h:Pw (p::P)) (hP:P≠[]):rootL (p::P).flatten=node (rootL p) (rootL P.flatten):=by
 obtain ⟨a,ha⟩:=h.2 p (by simp)
 have h1:=h.sum
 rw [List.flatten_cons]
 refine rootL_split ha ?_ (by omega)
 match P,hP with
 | q::P,_ =>
  obtain ⟨b,hb⟩:=h.2 q (by simp)
  have:=Nat.two_pow_pos b
  rw [List.flatten_cons,lA];omega
theorem Pw.drop {P:List (List Bs)} (h:Pw P) (k:Nat):Pw (P.drop k):=⟨h.1.sublist (List.drop_sublist k P),fun p hp=>h.2 p (List.mem_of_mem_drop hp)⟩
structure Pq1 (P:List (List Bs)) (q:List Bs):Prop where
 pw:Pw P
 two:∃ a,q.length=2 ^ a
 le:∀ p∈P,q.length≤p.length
theorem Pq1.done {P:List (List Bs)} {q:List Bs} (h:Pq1 P q) (hne:∀ P' p,P=P'++[p]→p.length≠q.length):Pw (P++[q]):=by
 refine ⟨List.pairwise_append.2 ⟨h.pw.1,List.pairwise_singleton _ _,fun p hp x hx=>?_⟩,fun p hp=>?_⟩
 ·rw [List.mem_singleton.1 hx]
  rcases List.eq_nil_or_concat P with e | ⟨P',t,e⟩
  ·rw [e] at hp;simp at hp
  ·rw [List.concat_eq_append] at e
   have h1:=hne P' t e
   have h2:=h.le t (by rw [e];simp)
   rw [e] at hp
   rcases List.mem_append.1 hp with g | g
   ·have hp2:=h.pw.1
    rw [e,List.pairwise_append] at hp2
    have:=hp2.2.2 p g t (by simp)
    omega
   ·rw [List.mem_singleton.1 g];omega
 ·rcases List.mem_append.1 hp with g | g
  ·exact h.pw.2 p g
  ·rw [List.mem_singleton.1 g];exact h.two
theorem Pq1.merge {P:List (List Bs)} {p q:List Bs} (h:Pq1 (P++[p]) q) (e:p.length=q.length):Pq1 P (p++q)∧rootL (p++q)=node (rootL p) (rootL q):=by
 obtain ⟨a,ha⟩:=h.two
 have hpos:=Nat.two_pow_pos a
 have hp2:=h.pw.1
 rw [List.pairwise_append] at hp2
 refine ⟨⟨⟨hp2.1,fun x hx=>h.pw.2 x (by simp [hx])⟩,⟨a+1,by rw [lA,Nat.pow_succ];omega⟩,fun x hx=>?_⟩,rootL_split (a:=a) (by omega) (by omega) (by omega)⟩
 have h1:=hp2.2.2 x hx p (by simp)
 obtain ⟨b,hb⟩:=h.pw.2 x (by simp [hx])
 rw [hb,e,ha] at h1
 have:=pow_lt2 h1
 rw [lA];omega
def szs (P:List (List Bs)):List Int:=P.map fun p=>(p.length:Int)
theorem szs_len (P:List (List Bs)):(szs P).length=P.length:=by simp [szs]
theorem szs_app (P Q:List (List Bs)):szs (P++Q)=szs P++szs Q:=by simp [szs]
theorem wRoot_ok {l:List Bs} (hl:l.length≤100000) (hs:∀ s∈l,s.length≤800000):m78 l=some (rootL l):=by
 unfold m78
 refine Ans.bindEq (Q:=fun (o:List Bs)=>∃ P,Pw P∧P.flatten=l∧o=P.map rootL∧P.length≤l.length) ?_ fun o ho=>?_
 ·refine Ans.loop (fun i z=>∃ P,Pw P∧P.flatten=l.take i∧i≤l.length∧P.length≤i∧z=((i:Int),P.map rootL,szs P)) l.length ⟨[],⟨List.Pairwise.nil,fun p hp=>by simp at hp⟩,by simp,by omega,by simp,rfl⟩ ?_
  rintro i z hi ⟨P,h1,h2,h3,h4,rfl⟩
  dsimp only
  rw [lenI]
  by_cases hil:i<l.length
  ·rw [ltI (by omega),cT,idxM_lt hil,oB,wLeaf_ok (hs _ (List.getElem_mem hil)),oB,appM_of (by simp;omega),oB,appM_of (by rw [szs_len];simp;omega),oB]
   have r2:P.map rootL++[leaf l[i]]=(P++[[l[i]]]).map rootL:=by rw [List.map_append,List.map_cons,rootL_one];rfl
   have r3:szs P++[1]=szs (P++[[l[i]]]):=by rw [szs_app];rfl
   rw [r2,r3]
   refine Ans.bind (P:=fun (o:List Bs×List Int)=>∃ Q,Pw Q∧Q.flatten=l.take (i+1)∧Q.length≤i+1∧o=(Q.map rootL,szs Q)) ?_ fun o ho=>?_
   ·refine Ans.loop (fun j z=>∃ Q q,Pq1 Q q∧Q.length+j≤i∧(Q++[q]).flatten=l.take (i+1)∧z=((Q.length:Int)+1,(Q++[q]).map rootL,szs (Q++[q]))) i ⟨P,[l[i]],⟨h1,⟨0,rfl⟩,fun p hp=>?_⟩,by omega,?_,?_⟩ ?_
    ·obtain ⟨a,ha⟩:=h1.2 p hp
     have:=Nat.two_pow_pos a
     simp;omega
    ·rw [List.flatten_append,h2,List.take_add_one,gE hil];simp
    ·rw [lenI,szs_len];simp
    ·rintro j z hj ⟨Q,q,g1,g2,g3,rfl⟩
     dsimp only
     rcases List.eq_nil_or_concat Q with e | ⟨Q',p,e⟩
     ·subst e
      rw [geI (by simp)]
      simp only [cF,oB,andF]
      exact Ans.some ⟨[q],by simpa using g1.done (fun P' p h=>by simp at h),by simpa using g3,by simp,rfl⟩
     ·rw [List.concat_eq_append] at e
      subst e
      have hQl:(Q'++[p]).length=Q'.length+1:=by simp
      rw [hQl] at g2 ⊢
      have hn2:IntKind.wrap .i64 (((Q'.length+1:Nat):Int)+1-2)=(Q'.length:Int):=by rw [wrap_in (by omega) (by omega)];omega
      have hn1:IntKind.wrap .i64 (((Q'.length+1:Nat):Int)+1-1)=((Q'.length+1:Nat):Int):=by rw [wrap_in (by omega) (by omega)];omega
      have lw:((Q'++[p]++[q]).map rootL).length=Q'.length+2:=by simp
      have ls:(szs (Q'++[p]++[q])).length=Q'.length+2:=by rw [szs_len];simp
      have i1:idxM (szs (Q'++[p]++[q])) (Q'.length:Int)=some (p.length:Int):=by rw [idxM_nat];simp [szs]
      have i2:idxM (szs (Q'++[p]++[q])) ((Q'.length+1:Nat):Int)=some (q.length:Int):=by rw [idxM_nat];simp [szs]
      have i3:idxM ((Q'++[p]++[q]).map rootL) (Q'.length:Int)=some (rootL p):=by rw [idxM_nat];simp
      have i4:idxM ((Q'++[p]++[q]).map rootL) ((Q'.length+1:Nat):Int)=some (rootL q):=by rw [idxM_nat];simp
      rw [hn2,hn1,i1,i2,i3,i4,lenI,lenI,lw,ls,ltI (a:=1) (by omega),chkM_of (i:=(Q'.length:Int)) (n:=((Q'.length+2:Nat):Int)) (by omega) (by omega),chkM_of (i:=((Q'.length+1:Nat):Int)) (n:=((Q'.length+2:Nat):Int)) (by omega) (by omega)]
      simp only [cT,oB,andT]
      by_cases e:p.length=q.length
      ·obtain ⟨m1,m2⟩:=g1.merge e
       rw [eqI (by omega),cT,chkM_of (by omega) (by omega),oB,wNode_ok (by rw [rootL_len,rootL_len];omega),oB,sliceM_of (by omega) (by omega) (by rw [lw];omega),oB]
       have t1:((((Q'++[p]++[q]).map rootL).take (Q'.length:Int).toNat).drop (0:Int).toNat)=Q'.map rootL:=by simp [List.take_append_of_le_length]
       have t2:(((szs (Q'++[p]++[q])).take (Q'.length:Int).toNat).drop (0:Int).toNat)=szs Q':=by simp [szs,List.take_append_of_le_length]
       have hq:q.length≤l.length:=by
        have:=congrArg List.length g3
        rw [List.flatten_append,lA,lT] at this
        simp at this;omega
       rw [t1,appM_of (by simp;omega),oB,sliceM_of (by omega) (by omega) (by rw [ls];omega),oB,t2,oB,wrap_in (n:=2*(q.length:Int)) (by omega) (by omega),appM_of (by rw [szs_len];simp;omega),oB]
       refine Ans.some ⟨by omega,Q',p++q,m1,by omega,by rw [← g3];simp,?_⟩
       have u1:Q'.map rootL++[node (rootL p) (rootL q)]=(Q'++[p++q]).map rootL:=by rw [List.map_append,List.map_cons,m2];rfl
       have u2:szs Q'++[2*(q.length:Int)]=szs (Q'++[p++q]):=by
        rw [szs_app];unfold szs;simp;omega
       rw [u1,u2];rfl
      ·rw [neI (by omega),cF]
       refine Ans.some ⟨Q'++[p]++[q],g1.done fun P' x hx=>?_,g3,by simp;omega,rfl⟩
       obtain ⟨_,hx2⟩:=List.append_inj' hx rfl
       simp at hx2
       rw [← hx2];exact e
   ·obtain ⟨Q,q1,q2,q3,rfl⟩:=ho
    rw [wrap_in (by omega) (by omega)]
    exact Ans.some ⟨by omega,Q,q1,q2,by omega,q3,rfl⟩
  ·rw [geI (by omega),cF]
   refine Ans.some ⟨P,h1,?_,rfl,by omega⟩
   rw [h2,tkL (by omega)]
 ·obtain ⟨P,h1,h2,rfl,h4⟩:=ho
  rw [lenI,List.length_map]
  rcases List.eq_nil_or_concat P with e | ⟨Q,q,e⟩
  ·subst e
   rw [← h2,List.length_nil,eqI (by omega),cT,wSum_ok (by simp),oB,show ([]:List (List Bs)).flatten=[] from rfl,rootL_nil]
  ·rw [List.concat_eq_append] at e
   have hQ:P.length=Q.length+1:=by rw [e];simp
   have hn1:IntKind.wrap .i64 ((P.length:Int)-1)=(Q.length:Int):=by rw [wrap_in (by omega) (by omega)];omega
   have i1:idxM (P.map rootL) (Q.length:Int)=some (rootL q):=by rw [idxM_nat,e];simp
   have t1:(((P.map rootL).take (Q.length:Int).toNat).drop (0:Int).toNat)=Q.map rootL:=by rw [e];simp [List.take_append_of_le_length]
   rw [neI (by omega),cF,hn1,chkM_of (by omega) (by omega),oB,i1,oB,sliceM_of (by omega) (by omega) (by rw [List.length_map];omega),oB,t1,lenI,List.length_map,wrap_in (n:=(Q.length:Int)-1) (by omega) (by omega)]
   refine bind_of (loopM_at (fun j=>((Q.length:Int)-1-(j:Int),rootL (P.drop (Q.length-j)).flatten)) Q.length ?_ (fun j hj=>?_) ?_) rfl
   ·rw [Nat.sub_zero,e,List.drop_left];simp
   ·obtain ⟨m,hm⟩:∃ m,Q.length-j=m+1:=⟨Q.length-j-1,by omega⟩
    have hd:P.drop m=(P[m]'(by omega))::P.drop (m+1):=List.drop_eq_getElem_cons (by omega)
    have i2:idxM (Q.map rootL) ((Q.length:Int)-1-(j:Int))=some (rootL (P[m]'(by omega))):=by
     rw [show (Q.length:Int)-1-(j:Int)=(m:Int) by omega,idxM_nat,List.getElem?_map,gE (by omega)]
     simp [e,List.getElem_append_left (show m<Q.length by omega)]
    dsimp only
    rw [leI (by omega),cT,i2,oB,hm,wNode_ok (by rw [rootL_len,rootL_len];omega),oB,wrap_in (by omega) (by omega),show Q.length-(j+1)=m by omega,hd]
    have hp:=(hd▸h1.drop m:Pw (P[m]'(by omega)::P.drop (m+1)))
    rw [hp.root (by
     intro h
     have:=congrArg List.length h
     rw [List.length_drop] at this
     simp at this;omega)]
    congr 3
    omega
   ·dsimp only
    rw [gtI (by omega),cF,Nat.sub_self,List.drop_zero,h2]
theorem wEnc_eq (r:Rp):m20 r=some (if OkR r then (en r,0) else ([],390)):=by
 unfold m20
 rw [eR,wOk_eq,oB]
 by_cases h:OkR r
 ·rw [dT h,notT,cF,wEn_all,oB,en2_ok h,if_pos h]
 ·rw [dF h,notF,cT,if_neg h]
theorem wHead_eq {a:List Rp} (ha:a.length≤1000000):m32 a=some (if OkA a then (rootL (a.map en),0) else ([],390)):=by
 unfold m32
 rw [wValid_eq ha,oB]
 by_cases h:OkA a
 ·obtain ⟨a1,a2,a3⟩:=h
  rw [dT ⟨a1,a2,a3⟩,notT,cF,if_pos ⟨a1,a2,a3⟩]
  refine bind_of (x:=a.map en) (loopM_at (fun k=>((k:Int),(a.take k).map en)) a.length rfl (fun k hk=>?_) ?_) ?_
  ·have ho:=a1 _ (List.getElem_mem hk)
   dsimp only
   rw [lenI,ltI (by omega),cT,idxM_lt hk,oB,eR,wEn_all,oB,en2_ok ho,appM_of (by simp;omega),oB,wrap_in (by omega) (by omega),List.take_add_one,gE hk,List.map_append]
   rfl
  ·dsimp only
   rw [lenI,geI (by omega),cF,List.take_length]
  ·rw [wRoot_ok (by simp;omega) (fun s hs=>by
    obtain ⟨r,hr,rfl⟩:=List.mem_map.1 hs
    have:=(okR_len (a1 r hr)).2
    omega),oB]
 ·rw [dF h,notF,cT,if_neg h]
theorem wLoad_ok {l:List Bs} (hl:l.length≤1000) (hs:∀ s∈l,s.length≤1000000):∃ D:List Rp,(∀ r,r∈D↔OkR r∧en r∈l)∧m24 l=some (mk40 (arch D)):=by
 have key:Ans (m24 l) (fun o=>∃ D:List Rp,(∀ r,r∈D↔OkR r∧en r∈l)∧o=mk40 (arch D)):=by
  unfold m24
  refine Ans.bind (P:=fun (D:List Rp)=>D.length≤l.length∧∀ r,r∈D↔OkR r∧en r∈l) ?_ fun D hD=>?_
  ·refine Ans.loop (fun k z=>∃ D:List Rp,z=((k:Int),D)∧k≤l.length∧D.length≤k∧∀ r,r∈D↔OkR r∧en r∈l.take k) l.length ⟨[],rfl,by omega,by simp,fun r=>by simp⟩ ?_
   rintro k z hk ⟨D,rfl,h1,h2,h3⟩
   dsimp only
   rw [lenI]
   by_cases hkl:k<l.length
   ·rw [ltI (by omega),cT,idxM_lt hkl,oB]
    obtain ⟨o,e1,e2,e3⟩:=wDec_ok (hs _ (List.getElem_mem hkl))
    have tk:l.take (k+1)=l.take k++[l[k]]:=by rw [List.take_add_one,gE hkl];rfl
    rw [e1,oB]
    by_cases hx:∃ r,OkR r∧l[k]=en r
    ·obtain ⟨x,hx1,hx2⟩:=hx
     rw [e2 x hx1 hx2]
     dsimp only
     rw [eqI rfl,cT,eR,appR (by simp;omega),oB,oB,wrap_in (by omega) (by omega)]
     refine Ans.some ⟨by omega,D++[x],rfl,by omega,by simp;omega,fun r=>?_⟩
     rw [tk,List.mem_append,List.mem_singleton,List.mem_append,List.mem_singleton,h3]
     constructor
     ·rintro (⟨p,q⟩ | p)
      ·exact ⟨p,.inl q⟩
      ·rw [p];exact ⟨hx1,.inr hx2.symm⟩
     ·rintro ⟨p,q | q⟩
      ·exact .inl ⟨p,q⟩
      ·exact .inr (en_inj (q.trans hx2))
    ·have hne:∀ r,OkR r→l[k]≠en r:=fun r h1 h2=>hx ⟨r,h1,h2⟩
     rw [e3 hne]
     dsimp only
     rw [neI (by decide),cF,oB,wrap_in (by omega) (by omega)]
     refine Ans.some ⟨by omega,D,rfl,by omega,by omega,fun r=>?_⟩
     rw [tk,List.mem_append,List.mem_singleton,h3]
     constructor
     ·rintro ⟨p,q⟩;exact ⟨p,.inl q⟩
     ·rintro ⟨p,q | q⟩
      ·exact ⟨p,q⟩
      ·exact absurd q.symm (hne r p)
   ·rw [geI (by omega),cF]
    rw [tkL (by omega)] at h3
    exact Ans.some ⟨by omega,h3⟩
  ·exact Ans.of (bind_of (made_ok (xs:=D) (fun x hx=>((hD.2 x).1 hx).1) (by omega)) rfl) ⟨D,hD.2,rfl⟩
 obtain ⟨o,h1,D,h2,rfl⟩:=key
 exact ⟨D,h2,h1⟩
theorem wBelieved_eq {a:List Rp} {s:Int} (ha:a.length≤1000000):m34 (a,s)=some (if OkA a then bel a s else []):=by
 unfold m34
 dsimp only
 rw [wValid_eq ha,oB]
 by_cases h:OkA a
 ·rw [dT h,notT,cF,wBel_ok h,oB,if_pos h]
 ·rw [dF h,notF,cT,if_neg h]
end Go.Proofs.YtdnabfadigkjgaaGreatDoor
namespace Go.Ar
def Kc (x y:Rp):Prop:=x.su<y.su∨(x.su=y.su∧x.sv<y.sv)
theorem Kc.irr (x:Rp):¬ Kc x x:=by unfold Kc;omega
theorem Kc.tr {x y z:Rp} (h:Kc x y) (k:Kc y z):Kc x z:=by unfold Kc at *;omega
def curAll (a:List Rp):List Rp:=(List.range 8).flatMap fun (s:Nat)=>curOf (bel a s)
structure CurR (a ys:List Rp):Prop where
 ord:ys.Pairwise Kc
 mem:∀ x,x∈ys↔x∈curAll a
theorem CurR.uniq {a ys zs:List Rp} (h:CurR a ys) (k:CurR a zs):ys=zs:=ext_of Kc.irr (fun h k=>Kc.tr h k) h.ord k.ord fun x=>by rw [h.mem,k.mem]
theorem curOf_mem {l:List Rp} {x:Rp} (h:x∈curOf l):x∈l∧x.ki≠2:=by
 obtain ⟨h1,_,h2,_⟩:=curS_mem _ _ _ x h
 exact ⟨by simpa using h1,h2⟩
theorem bel_sv {a:List Rp} {s:Int} {x:Rp} (h:x∈bel a s):x∈a∧x.sv=s:=by
 obtain ⟨i,hi,e⟩:=List.getElem_of_mem h
 have:=Pbel.mem (bel_is a s).1 (i:=i) (r:=x) (by rw [gE hi,e])
 exact ⟨this.1,this.2.1⟩
theorem curAll_mem {a:List Rp} {x:Rp}:x∈curAll a↔∃ s:Nat,s<8∧x∈curOf (bel a s):=by
 unfold curAll
 rw [List.mem_flatMap]
 constructor
 ·rintro ⟨s,h1,h2⟩;exact ⟨s,List.mem_range.1 h1,h2⟩
 ·rintro ⟨s,h1,h2⟩;exact ⟨s,List.mem_range.2 h1,h2⟩
theorem curOf_dist (l:List Rp):(curOf l).Pairwise fun a b=>a.su≠b.su:=curS_dist _ _ _
theorem curAll_dist (a:List Rp):∀ n,((List.range n).flatMap fun (s:Nat)=>curOf (bel a s)).Pairwise fun x y=>¬ (x.su=y.su∧x.sv=y.sv)
 | 0=>List.Pairwise.nil
 | n+1=>by
  rw [List.range_succ,List.flatMap_append]
  refine List.pairwise_append.2 ⟨curAll_dist a n,?_,fun x hx y hy h=>?_⟩
  ·simp only [List.flatMap_cons,List.flatMap_nil,List.append_nil]
   exact (curOf_dist _).imp fun h k=>h k.1
  ·simp only [List.flatMap_cons,List.flatMap_nil,List.append_nil] at hy
   rw [List.mem_flatMap] at hx
   obtain ⟨s,h1,h2⟩:=hx
   have e1:=(bel_sv (curOf_mem h2).1).2
   have e2:=(bel_sv (curOf_mem hy).1).2
   have:=List.mem_range.1 h1
   omega
theorem strict_of {ys out:List Rp} (hp:ys.Perm out) (hd:out.Pairwise fun x y=>¬ (x.su=y.su∧x.sv=y.sv)) (hs:ys.Pairwise fun x y=>¬ Kc y x):ys.Pairwise Kc:=by
 have hd2:ys.Pairwise fun x y=>¬ (x.su=y.su∧x.sv=y.sv):=(hp.pairwise_iff (fun {x y} h k=>h ⟨k.1.symm,k.2.symm⟩)).2 hd
 refine (List.Pairwise.and hs hd2).imp fun h=>?_
 unfold Kc at *
 omega
def frkG:Rp→List Rp→List (Int×Int)→List (Int×Int)
 | _,[],out=>out
 | last,r::t,out=>frkG r t (if last.sv=r.sv∧last.nu=r.nu∧(out=[]∨(out.getLast?.map Prod.fst)≠some r.sv) then out++[(r.sv,r.nu)] else out)
def frk:List Rp→List (Int×Int)
 | []=>[]
 | x::t=>frkG x t []
end Go.Ar
namespace Go.Proofs.YtdnabfadigkjgaaGreatDoor
open Go Go.Lib Go.Abs Go.PE Go.Ar Go.Sort
open Go.Proofs (ltOf)
def Bits (n:Nat) (w:List Bool) (W:List Int):Prop:=w.length=n∧∀ b:Nat,b<n→w[b]? = some (decide ((b:Int)∈W))
theorem Bits.zero (n:Nat):Bits n (List.replicate n false) []:=⟨by simp,fun b hb=>by simp [hb]⟩
theorem Bits.get {n:Nat} {w:List Bool} {W:List Int} (h:Bits n w W) {i:Int} (h0:0≤i) (hi:i<n):idxM w i=some (decide (i∈W)):=by
 obtain ⟨b,rfl⟩:=Int.eq_ofNat_of_zero_le h0
 rw [idxM_nat];exact h.2 b (by omega)
theorem Bits.put {n:Nat} {w:List Bool} {W:List Int} (h:Bits n w W) {i:Int} (h0:0≤i) (hi:i<n):setM w i (fun _=>some true)=some (w.set i.toNat true)∧Bits n (w.set i.toNat true) (i::W):=by
 obtain ⟨h1,h2⟩:=h
 refine ⟨setM_of h0 (by omega) rfl,by rw [List.length_set];exact h1,fun b hb=>?_⟩
 rw [List.getElem?_set]
 by_cases e:i.toNat=b
 ·rw [if_pos e,if_pos (by omega)]
  have:(b:Int)=i:=by omega
  simp [this]
 ·rw [if_neg e,h2 b hb]
  have:(b:Int)≠i:=by omega
  simp [this]
theorem hundred:[false,false,false,false,false,false,false,false,false,false,false,false,false,false,false,false,false,false,false,false,false,false,false,false,false,false,false,false,false,false,false,false,false,false,false,false,false,false,false,false,false,false,false,false,false,false,false,false,false,false,false,false,false,false,false,false,false,false,false,false,false,false,false,false,false,false,false,false,false,false,false,false,false,false,false,false,false,false,false,false,false,false,false,false,false,false,false,false,false,false,false,false,false,false,false,false,false,false,false,false]=List.replicate 100 false:=rfl
theorem wCur_ok {a:List Rp} (h:OkA a):∃ ys,m33 a=some ys∧CurR a ys:=by
 obtain ⟨a1,a2,a3⟩:=h
 have key:Ans (m33 a) (CurR a):=by
  unfold m33
  rw [wValid_eq (by omega),oB,dT ⟨a1,a2,a3⟩,notT,cF]
  refine Ans.seq (x:=curAll a) (loopM_at (fun k=>((k:Int),(List.range k).flatMap fun (s:Nat)=>curOf (bel a s))) 8 rfl (fun k hk=>?_) ?_) ?_
  ·dsimp only
   rw [ltI (by omega),cT,wBel_ok ⟨a1,a2,a3⟩,oB]
   have hb:Pbel a k (bel a k):=(bel_is a k).1
   have hok:∀ r∈bel a (k:Int),OkR r:=fun r hr=>a1 r (bel_sv hr).1
   have hlen:=Pbel.ok hb a1
   have hout:((List.range k).flatMap fun (s:Nat)=>curOf (bel a s)).length≤40*k:=by
    rw [List.length_flatMap]
    have:∀ (L:List Nat),((L.map fun (s:Nat)=>(curOf (bel a s)).length).sum)≤40*L.length:=fun L=>by
     induction L with
     | nil=>simp
     | cons x L ih =>
      have h1:=Pbel.ok (bel_is a x).1 a1
      have h2:(curOf (bel a x)).length≤(bel a x).length:=nodup_len ((curOf_dist _).imp fun h e=>h (by rw [e])) fun y hy=>(curOf_mem hy).1
      simp only [List.map_cons,List.sum_cons,List.length_cons];omega
    simpa using this (List.range k)
   dsimp only
   rw [lenI,mkM_of (by omega) (by omega) (by show _*1≤_;omega),oB,Int.toNat_natCast,wrap_in (n:=((bel a (k:Int)).length:Int)-1) (by omega) (by omega),hundred,List.range_succ,List.flatMap_append]
   simp only [List.flatMap_cons,List.flatMap_nil,List.append_nil]
   generalize (List.range k).flatMap (fun (s:Nat)=>curOf (bel a s))=o0 at hout
   generalize bel a (k:Int)=l at hb hok hlen
   refine Ans.bindEq (Q:=fun (o:List Bool×List Bool×List Rp)=>o.2.2=o0++curOf l) ?_ fun o ho=>by
    rw [wrap_in (by omega) (by omega),ho];rfl
   refine Ans.loop (fun j z=>j≤l.length∧∃ (wd sn:List Bool) (W SN:List Int) (O:List Rp),z=((l.length:Int)-1-(j:Int),wd,sn,o0++O)∧Bits l.length wd W∧Bits 100 sn SN∧O.length≤j∧curS ((l.take (l.length-j)).reverse) W SN O=curOf l) l.length ⟨by omega,_,_,[],[],[],by simp,Bits.zero _,Bits.zero _,by simp,by rw [Nat.sub_zero,List.take_length];rfl⟩ ?_
   rintro j z hj ⟨q0,wd,sn,W,SN,O,rfl,q1,q2,q3,q4⟩
   dsimp only
   by_cases hjl:j<l.length
   ·obtain ⟨m,hm⟩:∃ m,l.length-j=m+1:=⟨l.length-j-1,by omega⟩
    have hml:m<l.length:=by omega
    have hi:(l.length:Int)-1-(j:Int)=(m:Int):=by omega
    have hget:=gE hml
    have hr:=hok _ (List.getElem_mem hml)
    have hnu:=(hb.mem hget).2.2
    have htk:(l.take (m+1)).reverse=l[m]::(l.take m).reverse:=by
     rw [List.take_add_one,hget,Option.toList_some,List.reverse_append];rfl
    rw [hm,htk] at q4
    rw [hi,leI (by omega),cT,idxM_lt hml,oB,chkM_of (by omega) (by rw [lenI,q1.1];omega),oB,q1.get (by omega) (by omega),oB]
    generalize l[m]=r at hr hnu q4
    obtain ⟨b1,b2,b3,b4,b5,b6,b7,b8,b9⟩:=hr
    unfold curS at q4
    rw [hnu] at q4
    by_cases hw:(m:Int)∈W
    ·rw [dT hw,cT,oB,wrap_in (by omega) (by omega)]
     rw [if_pos hw] at q4
     exact Ans.some ⟨by omega,by omega,wd,sn,W,SN,O,by rw [show (m:Int)-1=(l.length:Int)-1-((j+1:Nat):Int) by omega],q1,q2,by omega,by rw [show l.length-(j+1)=m by omega];exact q4⟩
    ·rw [dF hw,cF]
     rw [if_neg hw] at q4
     by_cases hk2:r.ki=2
     ·rw [if_pos hk2] at q4
      have hrf:0≤r.rf∧r.rf<(m:Int):=by omega
      obtain ⟨p1,p2⟩:=q1.put (i:=r.rf) hrf.1 (by omega)
      rw [eqI (show r.2.2.2.1=2 from hk2),cT,chkM_of hrf.1 (by rw [lenI,q1.1];show r.rf<_;omega),oB,p1,oB,oB,wrap_in (by omega) (by omega)]
      exact Ans.some ⟨by omega,by omega,_,sn,r.rf::W,SN,O,by rw [show (m:Int)-1=(l.length:Int)-1-((j+1:Nat):Int) by omega],p2,q2,by omega,by rw [show l.length-(j+1)=m by omega];exact q4⟩
     ·rw [if_neg hk2] at q4
      have hsu:0≤r.su∧r.su<100:=by omega
      rw [neI (show r.2.2.2.1≠2 from hk2),cF,chkM_of hsu.1 (by show r.su<100;exact hsu.2),oB,z01,q2.get hsu.1 hsu.2,oB]
      by_cases hs:r.su∈SN
      ·rw [if_pos hs] at q4
       rw [dT hs,notT,cF,oB,wrap_in (by omega) (by omega)]
       exact Ans.some ⟨by omega,by omega,wd,sn,W,SN,O,by rw [show (m:Int)-1=(l.length:Int)-1-((j+1:Nat):Int) by omega],q1,q2,by omega,by rw [show l.length-(j+1)=m by omega];exact q4⟩
      ·rw [if_neg hs] at q4
       obtain ⟨p1,p2⟩:=q2.put (i:=r.su) hsu.1 hsu.2
       rw [dF hs,notF,cT,oB,p1,oB,eR,appR (by simp;omega),oB,oB,wrap_in (by omega) (by omega)]
       exact Ans.some ⟨by omega,by omega,wd,_,W,r.su::SN,O++[r],by rw [show (m:Int)-1=(l.length:Int)-1-((j+1:Nat):Int) by omega,aA],q1,p2,by simp;omega,by rw [show l.length-(j+1)=m by omega];exact q4⟩
   ·rw [gtI (by omega),cF]
    rw [show l.length-j=0 by omega,List.take_zero] at q4
    refine Ans.some ?_
    show o0++O=_
    rw [← q4];rfl
  ·dsimp only
   rw [geI (by omega),cF]
   rfl
  ·have hin:∀ q∈curAll a,OkR q:=fun q hq=>by
    obtain ⟨s,_,h⟩:=curAll_mem.1 hq
    exact a1 q (bel_sv (curOf_mem h).1).1
   have hlen:(curAll a).length≤40:=by
    have hd:=curAll_dist a 8
    refine Nat.le_trans (nodup_len (m:=a) (List.Pairwise.imp (fun {x y} h e=>h (by rw [e];exact ⟨rfl,rfl⟩)) hd) fun x hx=>?_) a3
    obtain ⟨s,_,h⟩:=curAll_mem.1 hx
    exact (bel_sv (curOf_mem h).1).1
   obtain ⟨ys,h1,h2,h3⟩:=sortR swo82 hin (by omega)
   refine Ans.seq h1 (Ans.some ⟨strict_of h2 (curAll_dist a 8) (h3.imp fun {x y} h k=>?_),fun x=>h2.mem_iff⟩)
   rw [(lt82 y x).2 k] at h;cases h
 exact key
theorem getLast_idx {α:Type} {l:List α} (h:l≠[]):idxM l ((l.length:Int)-1)=l.getLast? := by
 have:=List.length_pos_iff.2 h
 rw [show (l.length:Int)-1=((l.length-1:Nat):Int) by omega,idxM_nat,List.getLast?_eq_getElem?]
theorem wForks_eq {a:List Rp} (h:OkA a):m39 a=some (frk a):=by
 obtain ⟨a1,a2,a3⟩:=h
 unfold m39
 rw [wValid_eq (by omega),oB,dT ⟨a1,a2,a3⟩,notT,cF,lenI]
 cases a with
 | nil =>
  rw [show min (1:Int) ((([]:List Rp).length:Nat):Int)=0 from rfl,sliceM_of (by omega) (by simp) (by simp),oB]
  refine bind_of (x:=[]) ?_ rfl
  rw [loopM_eq];rfl
 | cons x t =>
  have hl:(x::t).length=t.length+1:=rfl
  rw [hl] at a3
  rw [show min (1:Int) (((x::t).length:Nat):Int)=1 by rw [hl];omega,sliceM_of (by omega) (by rw [hl];omega) (Int.le_refl _),oB,Int.toNat_natCast,List.take_length]
  show (loopM _ _).bind _=some (frkG x t [])
  refine Ans.bindEq (Q:=fun o=>o=frkG x t []) ?_ fun o ho=>by rw [ho]
  refine Ans.loop (fun k z=>∃ out y,z=((k:Int),out)∧k≤t.length∧out.length≤k∧(x::t)[k]? = some y∧frkG y (t.drop k) out=frkG x t []) t.length ⟨[],x,rfl,by omega,by simp,rfl,rfl⟩ ?_
  rintro k z hk ⟨out,y,rfl,h1,h2,h3,h4⟩
  have hd:List.drop (1:Int).toNat (x::t)=t:=rfl
  dsimp only
  rw [hd,lenI]
  by_cases hkl:k<t.length
  ·have hdk:t.drop k=t[k]::t.drop (k+1):=List.drop_eq_getElem_cons hkl
   rw [hdk,frkG] at h4
   rw [ltI (by omega),cT,idxM_lt hkl,oB,idxM_nat,h3,oB]
   have hnext:(x::t)[k+1]? = some t[k]:=by rw [List.getElem?_cons_succ,gE hkl]
   generalize t[k]=r at h4 hnext
   refine Ans.bind (P:=fun o=>o=if y.sv=r.sv∧y.nu=r.nu∧(out=[]∨(out.getLast?.map Prod.fst)≠some r.sv) then out++[(r.sv,r.nu)] else out) ?_ fun o ho=>?_
   ·rw [lenI]
    by_cases ho:out=[]
    ·subst ho
     rw [show ((([]:List (Int×Int)).length:Nat):Int)=0 from rfl,eqI rfl,notT]
     simp only [cF,oB,orT]
     by_cases hc:y.sv=r.sv∧y.nu=r.nu
     ·rw [eqI (show y.1=r.1 from hc.1),eqI (show y.2.1=r.2.1 from hc.2),if_pos ⟨hc.1,hc.2,.inl trivial⟩]
      simp only [andT,cT]
      rw [appM_of (by simp),oB]
      exact Ans.some rfl
     ·have:PE.andM (PE.andM (eqM y.1 r.1) (eqM y.2.1 r.2.1)) true=false:=by
       unfold PE.andM eqM
       rw [Bool.and_true,← Bool.decide_and];exact dF hc
      rw [this,cF,if_neg fun q=>hc ⟨q.1,q.2.1⟩]
      exact Ans.some rfl
    ·have hpos:=List.length_pos_iff.2 ho
     obtain ⟨v,hv⟩:∃ v,out.getLast? = some v:=⟨_,List.getLast?_eq_some_getLast ho⟩
     rw [neI (by omega),notF,wrap_in (n:=(out.length:Int)-1) (by omega) (by omega),chkM_of (by omega) (by omega),getLast_idx ho,hv]
     simp only [cT,oB,orF]
     by_cases hc:y.sv=r.sv∧y.nu=r.nu∧v.1≠r.sv
     ·rw [eqI (show y.1=r.1 from hc.1),eqI (show y.2.1=r.2.1 from hc.2.1),neI (show v.1≠r.1 from hc.2.2),if_pos ⟨hc.1,hc.2.1,.inr (by simpa using hc.2.2)⟩]
      simp only [andT,notF,cT]
      rw [appM_of (by simp;omega),oB]
      exact Ans.some rfl
     ·have:PE.andM (PE.andM (eqM y.1 r.1) (eqM y.2.1 r.2.1)) (PE.notM (eqM v.1 r.1))=false:=by
       unfold PE.andM eqM PE.notM
       rw [← decide_not,← Bool.decide_and,← Bool.decide_and]
       exact dF fun q=>hc ⟨q.1.1,q.1.2,q.2⟩
      rw [this,cF,if_neg fun q=>hc ⟨q.1,q.2.1,by
       rcases q.2.2 with w | w
       ·exact absurd w ho
       ·simpa using w⟩]
      exact Ans.some rfl
   ·rw [wrap_in (by omega) (by omega)]
    refine Ans.some ⟨by omega,o,r,rfl,by omega,?_,hnext,by rw [ho];exact h4⟩
    rw [ho];split
    ·simp;omega
    ·omega
  ·rw [geI (by omega),cF]
   rw [List.drop_of_length_le (by omega)] at h4
   exact Ans.some h4
end Go.Proofs.YtdnabfadigkjgaaGreatDoor
namespace Go.Ar
set_option maxRecDepth 100000
def k32:Bs:=List.replicate 32 107
def s1:Rp:=(3,0,100,1,5,10,-1,h0,[183,206,247,132,16,190,162,145,231,189,128,117,78,27,252,149,175,238,66,166,50,20,35,39,34,221,47,214,44,75,7,158])
def s2:Rp:=(3,1,200,1,5,12,-1,[141,45,5,180,132,107,163,71,50,199,12,151,27,190,196,105,90,110,52,3,63,255,31,52,164,0,206,211,166,47,30,41],[110,201,126,255,249,203,131,70,149,121,71,16,89,238,29,209,133,171,181,98,19,26,47,68,242,242,28,160,205,58,126,70])
def s3:Rp:=(3,2,300,2,0,0,1,[81,72,191,58,53,82,76,30,92,225,77,36,254,82,252,234,221,103,150,8,17,226,120,99,254,250,153,51,12,193,93,254],[0,67,231,216,185,110,57,4,166,255,159,196,218,133,151,64,29,220,125,40,41,61,215,160,229,170,251,5,10,18,80,38])
def s4:Rp:=(s2.1,s2.2.1,201,s2.2.2.2)
theorem x1:wrR k32 [] (3,0,100,1,5,10,-1,[],[])=(s1,0):=by decide +kernel
theorem x2:addR [] s1=([s1],0):=by decide +kernel
theorem x3:wrR k32 [s1] (3,0,200,1,5,12,-1,[],[])=(s2,0):=by decide +kernel
theorem x4:addR [s1] s2=([s1,s2],0):=by decide +kernel
theorem x5:wrR k32 [s1,s2] (3,0,300,2,0,0,1,[],[])=(s3,0):=by decide +kernel
theorem x6:addR [s1,s2] s3=([s1,s2,s3],0):=by decide +kernel
theorem x7:OkR s1:=by decide +kernel
theorem x8:wrR [107] [s1] s1=(zR,390):=by decide +kernel
theorem x9:mrg [s1] [s3]=([s1,s3],0):=by decide +kernel
theorem x10:addR [s1,s2,s3] s4=([s1,s2,s4,s3],0):=by decide +kernel
theorem x11:miss [s1,s2,s3] [s1]=([s2,s3],0):=by decide +kernel
theorem x12:OkA [s1]:=by decide +kernel
theorem x13:OkA [s1,s2]:=by decide +kernel
theorem x14:OkA [s1,s2,s3]:=by decide +kernel
theorem x15:curAll [s1]=[s1]:=by decide +kernel
theorem x16:curAll [s1,s2]=[s2]:=by decide +kernel
theorem x17:curAll [s1,s2,s3]=[s1]:=by decide +kernel
theorem x18:bel [s1,s2,s3] 3=[s1,s2,s3]:=by decide +kernel
theorem x19:OkA [s1,s3]∧bel [s1,s3] 3=[s1]:=by decide +kernel
theorem x20:OkA [s2,s3]∧bel [s2,s3] 3=[]:=by decide +kernel
theorem x21:OkA [s1,s2,s4,s3]∧bel [s1,s2,s4,s3] 3=[s1]:=by decide +kernel
theorem x22:frk [s1,s2,s4,s3]=[(3,1)]:=by decide +kernel
theorem x23:frk [s1,s2,s3]=[]:=by decide +kernel
theorem x24:9≤(en s1).length∧(en s1).take 9=[6,0,200,1,2,10,20,1,64]:=by decide +kernel
theorem x25:Gen k32 s2:=by decide +kernel
theorem x26:¬ Gen k32 s4:=by decide +kernel
theorem x27:¬ OkA [s2,s1]:=by decide +kernel
theorem en_eq0 (r:Rp):en r=pI r.sv++(pI r.nu++(pI r.da++(pI r.ki++(pI r.su++(pI r.va++(pI r.rf++(pS r.pv++pS r.tg))))))):=by
 unfold en sg;simp
theorem en_long (r:Rp):7≤(en r).length:=by
 have:=pI_pos r.sv
 have:=pI_pos r.nu
 have:=pI_pos r.da
 have:=pI_pos r.ki
 have:=pI_pos r.su
 have:=pI_pos r.va
 have:=pI_pos r.rf
 rw [en_eq0]
 simp only [lA];omega
end Go.Ar
namespace Go.Proofs.YtdnabfadigkjgaaGreatDoor
open Go Go.Lib Go.Abs Go.PE Go.Ar
set_option maxRecDepth 100000
theorem bif_no {α:Type} {c:Bool} {a b r:α} (h:c=false) (h2:b=r):(bif c then a else b)=r:=by rw [h];exact h2
theorem bif_yes {α:Type} {c:Bool} {a b r:α} (h:c=true) (h2:a=r):(bif c then a else b)=r:=by rw [h];exact h2
theorem cur_is {a l:List Rp} (h:OkA a) (hc:curAll a=l) (hl:l.length=1):m33 a=some l:=by
 obtain ⟨ys,h1,h2⟩:=wCur_ok h
 obtain ⟨x,rfl⟩:=List.length_eq_one_iff.1 hl
 rw [h1,h2.uniq (zs:=[x]) ⟨List.pairwise_singleton _ _,fun y=>by rw [hc]⟩]
theorem believed_is {a l:List Rp} {s:Int} (h:OkA a∧bel a s=l):m34 (a,s)=some l:=by
 have:=h.1.2.2
 rw [wBelieved_eq (by omega),if_pos h.1,h.2]
theorem load_is:m24 [en s1,[120]]=some ([s1],0):=by
 have hen:=(okR_len x7).2
 obtain ⟨D,h1,h2⟩:=wLoad_ok (l:=[en s1,[120]]) (by simp) (fun s hs=>by
  rcases List.mem_cons.1 hs with q | q
  ·rw [q];omega
  ·rw [List.mem_singleton.1 q];simp)
 have e:arch D=[s1]:=(up_arch (l:=[s1]) (List.pairwise_singleton _ _) fun r=>by
  rw [h1,List.mem_singleton]
  constructor
  ·intro q;rw [q];exact ⟨x7,by simp⟩
  ·rintro ⟨q1,q2⟩
   rcases List.mem_cons.1 q2 with q | q
   ·exact en_inj q
   ·have q:=List.mem_singleton.1 q
    have:=en_long r
    rw [q] at this
    simp at this).symm
 rw [h2,e];rfl
theorem sane_ok:m11 ()=some true:=by
 unfold m11
 have L1:([s1]:List Rp).length≤1000000:=by simp
 have L2:([s1,s2]:List Rp).length≤1000000:=by simp
 have L3:([s1,s2,s3]:List Rp).length≤1000000:=by simp
 have w:∀ {key:Bs} {a:List Rp} {r:Rp} {v:Rp×Int},a.length≤1000000→wrR key a r=v→m37 (key,a,r)=some v:=fun ha h=>by rw [wWrite_eq ha,h]
 have ad:∀ {a:List Rp} {r:Rp} {v:List Rp×Int},a.length≤1000000→addR a r=v→m31 (a,r)=some v:=fun ha h=>by rw [wAdd_eq ha,h]
 refine bind_of (w (by simp) x1) ?_
 refine bind_of (ad (by simp) x2) ?_
 refine bind_of (w L1 x3) ?_
 refine bind_of (ad L1 x4) ?_
 refine bind_of (w L2 x5) ?_
 refine bind_of (ad L2 x6) ?_
 refine bind_of (x:=(en s1,0)) ((wEnc_eq s1).trans (by rw [if_pos x7])) ?_
 refine bind_of (w L1 x8) ?_
 refine bif_no (by decide +kernel) ?_
 refine bind_of ((wMerge_eq L1 (by simp)).trans (congrArg some x9)) ?_
 refine bind_of (ad L3 x10) ?_
 refine bind_of ((wMiss_eq L3 L1).trans (congrArg some x11)) ?_
 refine bind_of load_is ?_
 refine bind_of (x:=(leaf (en s1),0)) ((wHead_eq L1).trans (by rw [if_pos x12];exact congrArg some (congrArg (fun z=>(z,(0:Int))) (rootL_one _)))) ?_
 refine bind_of (x:=leaf (en s1)) (bif_yes rfl (wLeaf_ok (a:=en s1) (by have:=(okR_len x7).2;omega))) ?_
 refine bif_no (by
  show PE.orM _ (PE.notM (eqsM (leaf (en s1)) (leaf (en s1))))=false
  rw [eqsT rfl];rfl) ?_
 refine bind_of (cur_is x12 x15 rfl) ?_
 refine bind_of (cur_is x13 x16 rfl) ?_
 refine bind_of (cur_is x14 x17 rfl) ?_
 refine bind_of (x:=s1) rfl ?_
 refine bind_of (x:=s2) rfl ?_
 refine bind_of (x:=s1) rfl ?_
 refine bind_of (believed_is ⟨x14,x18⟩) ?_
 refine bind_of (x:=[s1]) (bif_yes rfl (believed_is x19)) ?_
 refine bind_of (x:=[]) (bif_yes rfl (believed_is x20)) ?_
 refine bind_of (x:=[s1]) (bif_yes rfl (believed_is x21)) ?_
 refine bind_of ((wForks_eq x21.1).trans (congrArg some x22)) ?_
 refine bind_of (x:=true) ((samePairs_eq (by simp)).trans (by rw [dT rfl])) ?_
 refine bind_of (x:=[]) (bif_yes rfl ((wForks_eq x14).trans (congrArg some x23))) ?_
 refine bind_of (x:=[6,0,200,1,2,10,20,1,64]) (bif_yes rfl ?_) ?_
 ·show sliceM (en s1) 0 9=_
  rw [sliceM_of (by omega) (by omega) (by have:=x24.1;omega)]
  exact congrArg some x24.2
 refine bind_of (x:=true) (bif_yes rfl ((same_eq (by simp)).trans (by rw [dT rfl]))) ?_
 refine bind_of (x:=true) (bif_yes rfl ((same_eq L1).trans (by rw [dT rfl]))) ?_
 refine bind_of (x:=true) (bif_yes rfl ((wGen_eq k32 s2).trans (by rw [dT x25]))) ?_
 refine bind_of (x:=false) (bif_yes rfl ((wGen_eq k32 s4).trans (by rw [dF x26]))) ?_
 refine bind_of (x:=true) (bif_yes rfl ((wValid_eq L3).trans (by rw [dT x14]))) ?_
 refine bind_of (x:=false) (bif_yes rfl ((wValid_eq (by simp)).trans (by rw [dF x27]))) ?_
 rfl
structure Good (L a:List Rp):Prop where
 up:Up a
 sub:∀ x∈a,x∈L
structure LOk (L:List Rp):Prop where
 ok:∀ x∈L,OkR x
 len:L.length≤40
theorem Good.len {L a:List Rp} (h:Good L a):a.length≤L.length:=nodup_len h.up.nodup h.sub
theorem Good.ok {L a:List Rp} (hL:LOk L) (h:Good L a):OkA a:=⟨fun x hx=>hL.ok x (h.sub x hx),h.up,by have:=h.len;have:=hL.len;omega⟩
theorem cur_two {a:List Rp} (h:OkA a):∃ ys:List Rp,m33 a=some ys∧CurR a ys∧ys.length≤1000000:=by
 obtain ⟨ys,h1,h2⟩:=wCur_ok h
 refine ⟨ys,h1,h2,?_⟩
 have h3:ys.length≤a.length:=nodup_len (h2.ord.imp fun {x y} h e=>by subst e;exact Kc.irr _ h) fun x hx=>by
  obtain ⟨s,_,h⟩:=curAll_mem.1 ((h2.mem x).1 hx)
  exact (bel_sv (curOf_mem h).1).1
 have:=h.2.2
 omega
theorem left_ok {n:Nat} (h2:2≤n) (hn:n≤100000):m89 (n:Int)=some ((cutN n:Nat):Int):=by
 unfold m89
 refine bind_of (x:=((cutN n:Nat):Int)) (loopM_is (fun i (s:Int)=>∃ k:Nat,s=(k:Int)∧2 ^ i≤k∧k<n∧cutG (n-i) n k=cutN n) n ⟨1,rfl,by simp,by omega,rfl⟩ ?_) rfl
 rintro i s hi ⟨k,rfl,g1,g2,g3⟩
 have hii:i<2 ^ i:=Nat.lt_two_pow_self
 obtain ⟨f,hf⟩:∃ f,n-i=f+1:=⟨n-i-1,by omega⟩
 rw [hf] at g3
 unfold cutG at g3
 rw [wrap_in (n:=(n:Int)-(k:Int)) (by omega) (by omega)]
 by_cases c:k<n-k
 ·left
  rw [if_pos c] at g3
  refine ⟨((2*k:Nat):Int),by omega,bif_yes (ltI (by omega)) (by rw [wrap_in (by omega) (by omega)];rfl),2*k,rfl,by rw [Nat.pow_succ];omega,by omega,?_⟩
  rw [show n-(i+1)=f by omega];exact g3
 ·right
  rw [if_neg c] at g3
  refine bif_no (geI (by omega)) (by rw [g3])
theorem one_of {α:Type} {l:List α} (h:l.length=1):∃ a,l=[a]:=List.length_eq_one_iff.1 h
theorem rRoot_go:∀ (k:Nat) (l:List Bs),l.length≤k→l.length≤1000→(∀ s∈l,s.length≤800000)→mF90 (k+1) l=some (rootL l):=by
 intro k
 induction k with
 | zero =>
  intro l hk _ _
  have:l=[]:=List.length_eq_zero_iff.1 (by omega)
  subst this
  show mR90 _ []=_
  unfold mR90
  refine bif_yes rfl (bind_of (rSum_ok (by simp)) ?_)
  rw [rootL_nil]
 | succ k ih =>
  intro l hk hl hs
  show mR90 (mF90 (k+1)) l=_
  unfold mR90
  by_cases h0:l.length=0
  ·have:l=[]:=List.length_eq_zero_iff.1 h0
   subst this
   refine bif_yes rfl (bind_of (rSum_ok (by simp)) ?_)
   rw [rootL_nil]
  refine bif_no (by rw [lenI];exact neI (by omega)) ?_
  by_cases h1:l.length=1
  ·obtain ⟨a,rfl⟩:=one_of h1
   refine bif_yes rfl ?_
   refine bind_of (x:=a) rfl ?_
   refine bind_of (rLeaf_ok (hs a (by simp))) ?_
   rw [rootL_one]
  refine bif_no (by rw [lenI];exact neI (by omega)) ?_
  have hb:=cutN_bd (n:=l.length) (by omega)
  refine bind_of (by rw [lenI];exact left_ok (by omega) (by omega)) ?_
  refine bind_of (x:=l.take (cutN l.length)) (by rw [sliceM_of (by omega) (by omega) (by omega)];simp) ?_
  refine bind_of (ih _ (by rw [lT];omega) (by rw [lT];omega) fun s hm=>hs s (List.mem_of_mem_take hm)) ?_
  refine bind_of (x:=l.drop (cutN l.length)) (by rw [lenI,sliceM_of (by omega) (by omega) (by omega)];simp) ?_
  refine bind_of (ih _ (by rw [List.length_drop];omega) (by rw [List.length_drop];omega) fun s hm=>hs s (List.mem_of_mem_drop hm)) ?_
  refine bind_of (rNode_ok (by rw [rootL_len,rootL_len];omega)) ?_
  rw [← rootL_ge (by omega)]
theorem rRoot_ok {l:List Bs} (hl:l.length≤60) (hs:∀ s∈l,s.length≤800000):m90 l=some (rootL l):=rRoot_go 63 l (by omega) (by omega) hs
theorem rEncs_ok {a:List Rp} (ha:∀ r∈a,OkR r) (hl:a.length≤1000):m46 a=some (a.map en):=by
 unfold m46
 refine bind_of (x:=a.map en) (loopM_at (fun k=>((k:Int),(a.take k).map en)) a.length rfl (fun k hk=>?_) ?_) rfl
 ·have ho:=ha _ (List.getElem_mem hk)
  dsimp only
  rw [lenI,ltI (by omega),cT,idxM_lt hk,oB,eR,rEn_all,oB,en2_ok ho,appM_of (by simp;omega),oB,wrap_in (by omega) (by omega),List.take_add_one,gE hk,List.map_append]
  rfl
 ·dsimp only
  rw [lenI,geI (by omega),cF,List.take_length]
theorem uz_div {Z:Nat} (h:Z<9223372036854775808) {β:Type} (f:Int→Option β):((remM (Z:Int) 2).bind fun r=>bif eqM r 1 then some (IntKind.wrap .i64 (IntKind.wrap .i64 (negM (IntKind.wrap .i64 ((Z / 2:Nat):Int)))-1)) else some (IntKind.wrap .i64 ((Z / 2:Nat):Int))).bind f=f (uz Z):=by
 rw [show (2:Int)=((2:Nat):Int) from rfl,remM_nat _ _ (by decide),oB]
 unfold negM uz
 rw [wrap_in (n:=((Z / 2:Nat):Int)) (by omega) (by omega),wrap_in (n:=-((Z / 2:Nat):Int)) (by omega) (by omega),wrap_in (n:=-((Z / 2:Nat):Int)-1) (by omega) (by omega)]
 by_cases e:Z % 2=0
 ·rw [neI (by omega),cF,oB,if_pos e]
 ·rw [eqI (by omega),cT,oB,if_neg e]
theorem rInt_ok {s:Bs} {p:Nat} (hp:p≤s.length) (hs:s.length≤1000000):Ans (m68 (s,(p:Int))) (IntR s p):=by
 unfold m68
 dsimp only
 rw [lenI,geI (by omega),geI (by omega),orF,cF]
 refine Ans.bind (P:=fun (o:Unit⊕Int×Int×Int)=>(o=.inl ()∧∀ n k,¬ IsI (s.drop p) n k)∨∃ r,o=.inr r∧IntR s p r) ?_ fun o ho=>?_
 ·refine Ans.loop (fun i z=>z=((gv ((s.drop p).take i):Int),(i:Int))∧i≤9∧p+i≤s.length∧∀ x∈(s.drop p).take i,128≤x.toNat) 9 ⟨by simp [gv],by omega,by omega,fun x hx=>by simp at hx⟩ ?_
  rintro i z hi ⟨rfl,h1,h2,h3⟩
  dsimp only
  by_cases h9:i=9
  ·rw [geI (by omega),andF,cF]
   exact Ans.some (.inl ⟨rfl,isI_none h3 (.inl h9)⟩)
  rw [ltI (by omega),andT,wrap_in (n:=(p:Int)+(i:Int)) (by omega) (by omega),show (p:Int)+(i:Int)=((p+i:Nat):Int) by omega]
  by_cases hl:p+i<s.length
  ·obtain ⟨b,hb⟩:∃ b,s[p+i]? = some b:=⟨_,gE hl⟩
   have hbl:=u8lt b
   have hz:=gv_lt ((s.drop p).take i)
   rw [sub_len (by omega)] at hz
   have hlen:=sub_len (s:=s) (p:=p) (i:=i) (by omega)
   have hsn:=take_snoc hb
   have hadd:=grp_add (i:=i) (by omega) hz (show b.toNat % 128<128 by omega)
   have hgv:gv ((s.drop p).take (i+1))=gv ((s.drop p).take i)+b.toNat % 128*128 ^ i:=by rw [hsn,gv_snoc,hlen]
   have hlt2:b.toNat % 128*128 ^ i<9223372036854775808:=by omega
   rw [ltI (by omega),cT,byteM_of hb,oB,wu64_in (n:=(b.toNat:Int)) (by omega) (by omega),show (128:Int)=((128:Nat):Int) from rfl,remM_nat _ _ (by decide),oB,wrap_in (n:=7*(i:Int)) (by omega) (by omega),show 7*(i:Int)=((7*i:Nat):Int) by omega,shlM_of (k:=.u64) (by show 7*i≤64;omega),oB]
   have e1:IntKind.wrap .u64 (((b.toNat % 128:Nat):Int)*2 ^ (7*i))=((b.toNat % 128*128 ^ i:Nat):Int):=by
    rw [pow128,show (((b.toNat % 128:Nat):Int)*2 ^ (7*i))=((b.toNat % 128*2 ^ (7*i):Nat):Int) by rw [Int.natCast_mul,Int.natCast_pow];rfl]
    rw [pow128] at hlt2
    exact wu64_in (by omega) (by omega)
   have e2:IntKind.wrap .u64 ((gv ((s.drop p).take i):Int)+((b.toNat % 128*128 ^ i:Nat):Int))=(gv ((s.drop p).take (i+1)):Int):=by
    rw [hgv,Int.natCast_add]
    exact wu64_in (by omega) (by omega)
   rw [e1,e2]
   by_cases hc:128≤b.toNat
   ·rw [leI (by omega),cT,wrap_in (n:=(i:Int)+1) (by omega) (by omega)]
    refine Ans.some ⟨by omega,rfl,by omega,by omega,fun x hx=>?_⟩
    rw [hsn] at hx
    rcases List.mem_append.1 hx with q | q
    ·exact h3 x q
    ·rw [List.mem_singleton.1 q];exact hc
   ·have hsh:Sh ((s.drop p).take (i+1)) ((s.drop p).take i) b:=⟨hsn,h3,by omega⟩
    have hcan:=fun n k=>isI_sh (n:=n) (k:=k) hsh (pre_take _ _)
    have hcan2:=fun n k=>isI_canon (n:=n) (k:=k) hsh (pre_take _ _)
    have hZ:gv ((s.drop p).take (i+1))<9223372036854775808:=by rw [hgv];exact hadd
    have hlen1:((s.drop p).take (i+1)).length=i+1:=sub_len (by omega)
    have hsl:sliceM s (p:Int) ((p+i+1:Nat):Int)=some ((s.drop p).take (i+1)):=by
     rw [sliceM_of (by omega) (by omega) (by omega),Int.toNat_natCast,Int.toNat_natCast,List.drop_take,show p+i+1-p=i+1 by omega]
    generalize gv ((s.drop p).take (i+1))=Z at hcan2 hZ
    rw [gtI (by omega),cF,show (2:Int)=((2:Nat):Int) from rfl,divM_nat _ _ (by decide),oB,wu64_in (n:=((Z / 2:Nat):Int)) (by omega) (by omega),show ((2:Nat):Int)=(2:Int) from rfl,uz_div hZ,wrap_in (n:=((p+i:Nat):Int)+1) (by omega) (by omega),show ((p+i:Nat):Int)+1=((p+i+1:Nat):Int) by omega]
    by_cases hin:inR (uz Z)
    ·rw [rPut_ok hin,oB]
     dsimp only
     rw [eqI rfl,notT,notF,cT,hsl,oB,orF]
     by_cases hq:pI (uz Z)=(s.drop p).take (i+1)
     ·rw [eqsT hq,notT,cF]
      have hI:IsI (s.drop p) (uz Z) (i+1):=(hcan _ _).2 ⟨hin,hq,hlen1.symm⟩
      refine Ans.some (.inr ⟨_,rfl,fun n k h=>?_,fun h=>absurd hI (h _ _)⟩)
      obtain ⟨q1,q2⟩:=h.uniq hI
      rw [q1,q2];rfl
     ·rw [eqsF hq,notF,cT]
      refine Ans.some (.inr ⟨_,rfl,fun n k h=>?_,fun _=>rfl⟩)
      have g1:=(hcan n k).1 h
      have g2:=(hcan2 n k).1 h
      exact absurd (g2.2.1▸g1.2.1) hq
    ·have hp2:m87 (uz Z)=some ([],10):=by
      unfold m87
      try dsimp only
      rw [not_inR hin,cT]
     rw [hp2,oB]
     dsimp only
     rw [neI (by decide),notF,notT,cF,oB,orT,cT]
     refine Ans.some (.inr ⟨_,rfl,fun n k h=>?_,fun _=>rfl⟩)
     have g2:=(hcan2 n k).1 h
     exact absurd (g2.2.1▸g2.1) hin
  ·rw [geI (by omega),cF]
   exact Ans.some (.inl ⟨rfl,isI_none h3 (.inr (by rw [List.length_drop];omega))⟩)
 ·rcases ho with ⟨rfl,h⟩ | ⟨r,rfl,h⟩
  ·exact Ans.some ⟨fun n k q=>absurd q (h n k),fun _=>rfl⟩
  ·exact Ans.some h
theorem rStr_ok {s:Bs} {p:Nat} (hp:p≤s.length) (hs:s.length≤1000000):Ans (m69 (s,(p:Int))) (StrR s p):=by
 unfold m69
 dsimp only
 exact Ans.bind (rInt_ok hp hs) fun r hr=>str_ok hp hs hr
theorem rInt_next {s:Bs} (hs:s.length≤1000000) {p:Nat} (hp:p≤s.length) {f:Int×Int×Int→Option (Rp×Int)}
  (h2:(∀ n x,inR n→s.drop p≠pI n++x)→Ans (f (0,0,10)) (RepR s))
  (h1:∀ n k,inR n→s.drop p=pI n++s.drop (p+k)→p+k≤s.length→Ans (f (n,((p+k:Nat):Int),0)) (RepR s)):Ans ((m68 (s,(p:Int))).bind f) (RepR s):=by
 refine Ans.bind (rInt_ok hp hs) fun r hr=>?_
 rcases hr.cases with ⟨n,k,h,rfl⟩ | ⟨h,rfl⟩
 ·obtain ⟨q1,q2⟩:=h.le
  rw [List.length_drop] at q1
  rw [List.drop_drop] at q2
  exact h1 n k h.1 q2 (by omega)
 ·refine h2 fun n x hn e=>h n (pI n).length ⟨hn,rfl,?_⟩
  exact ⟨x,e.symm⟩
theorem rStr_next {s:Bs} (hs:s.length≤1000000) {p:Nat} (hp:p≤s.length) {f:Bs×Int×Int→Option (Rp×Int)}
  (h2:(∀ (n:Bs) x,n.length≤65536→s.drop p≠pS n++x)→Ans (f ([],0,10)) (RepR s))
  (h1:∀ (n:Bs) k,n.length≤65536→s.drop p=pS n++s.drop (p+k)→p+k≤s.length→Ans (f (n,((p+k:Nat):Int),0)) (RepR s)):Ans ((m69 (s,(p:Int))).bind f) (RepR s):=by
 refine Ans.bind (rStr_ok hp hs) fun r hr=>?_
 rcases hr.cases with ⟨n,k,h,rfl⟩ | ⟨h,rfl⟩
 ·obtain ⟨q1,q2⟩:=h.le
  rw [List.length_drop] at q1
  rw [List.drop_drop] at q2
  exact h1 n k h.1 q2 (by omega)
 ·refine h2 fun n x hn e=>h n (pS n).length ⟨hn,rfl,?_⟩
  exact ⟨x,e.symm⟩
theorem rDec_ok {s:Bs} (hs:s.length≤1000000):Ans (m23 s) (RepR s):=by
 unfold m23
 have E0:=fun (r:Rp) (hr:OkR r) (e:s=en r)=>(List.drop_zero (l:=s)).trans (e.trans (en_eq r))
 refine rInt_next (p:=0) hs (by omega) (fun h=>?_) (fun n1 k1 i1 e1 l1=>?_)
 ·dsimp only
  rw [neI (by decide),notF,cT]
  exact rep_bad fun r hr e=>h r.sv _ (ok_inR hr).1 (E0 r hr e)
 dsimp only
 rw [eqI rfl,notT,cF]
 have E1:=fun (r:Rp) (hr:OkR r) (e:s=en r)=>(pI_pre (e1.symm.trans (E0 r hr e))).2
 refine rInt_next (p:=(0+k1)) hs (by omega) (fun h=>?_) (fun n2 k2 i2 e2 l2=>?_)
 ·dsimp only
  rw [neI (by decide),notF,cT]
  exact rep_bad fun r hr e=>h r.nu _ (ok_inR hr).2.1 (E1 r hr e)
 dsimp only
 rw [eqI rfl,notT,cF]
 have E2:=fun (r:Rp) (hr:OkR r) (e:s=en r)=>(pI_pre (e2.symm.trans (E1 r hr e))).2
 refine rInt_next (p:=((0+k1)+k2)) hs (by omega) (fun h=>?_) (fun n3 k3 i3 e3 l3=>?_)
 ·dsimp only
  rw [neI (by decide),notF,cT]
  exact rep_bad fun r hr e=>h r.da _ (ok_inR hr).2.2.1 (E2 r hr e)
 dsimp only
 rw [eqI rfl,notT,cF]
 have E3:=fun (r:Rp) (hr:OkR r) (e:s=en r)=>(pI_pre (e3.symm.trans (E2 r hr e))).2
 refine rInt_next (p:=(((0+k1)+k2)+k3)) hs (by omega) (fun h=>?_) (fun n4 k4 i4 e4 l4=>?_)
 ·dsimp only
  rw [neI (by decide),notF,cT]
  exact rep_bad fun r hr e=>h r.ki _ (ok_inR hr).2.2.2.1 (E3 r hr e)
 dsimp only
 rw [eqI rfl,notT,cF]
 have E4:=fun (r:Rp) (hr:OkR r) (e:s=en r)=>(pI_pre (e4.symm.trans (E3 r hr e))).2
 refine rInt_next (p:=((((0+k1)+k2)+k3)+k4)) hs (by omega) (fun h=>?_) (fun n5 k5 i5 e5 l5=>?_)
 ·dsimp only
  rw [neI (by decide),notF,cT]
  exact rep_bad fun r hr e=>h r.su _ (ok_inR hr).2.2.2.2.1 (E4 r hr e)
 dsimp only
 rw [eqI rfl,notT,cF]
 have E5:=fun (r:Rp) (hr:OkR r) (e:s=en r)=>(pI_pre (e5.symm.trans (E4 r hr e))).2
 refine rInt_next (p:=(((((0+k1)+k2)+k3)+k4)+k5)) hs (by omega) (fun h=>?_) (fun n6 k6 i6 e6 l6=>?_)
 ·dsimp only
  rw [neI (by decide),notF,cT]
  exact rep_bad fun r hr e=>h r.va _ (ok_inR hr).2.2.2.2.2.1 (E5 r hr e)
 dsimp only
 rw [eqI rfl,notT,cF]
 have E6:=fun (r:Rp) (hr:OkR r) (e:s=en r)=>(pI_pre (e6.symm.trans (E5 r hr e))).2
 refine rInt_next (p:=((((((0+k1)+k2)+k3)+k4)+k5)+k6)) hs (by omega) (fun h=>?_) (fun n7 k7 i7 e7 l7=>?_)
 ·dsimp only
  rw [neI (by decide),notF,cT]
  exact rep_bad fun r hr e=>h r.rf _ (ok_inR hr).2.2.2.2.2.2.1 (E6 r hr e)
 dsimp only
 rw [eqI rfl,notT,cF]
 have E7:=fun (r:Rp) (hr:OkR r) (e:s=en r)=>(pI_pre (e7.symm.trans (E6 r hr e))).2
 refine rStr_next (p:=(((((((0+k1)+k2)+k3)+k4)+k5)+k6)+k7)) hs (by omega) (fun h=>?_) (fun n8 k8 i8 e8 l8=>?_)
 ·dsimp only
  rw [neI (by decide),notF,cT]
  exact rep_bad fun r hr e=>h r.pv _ (ok_inR hr).2.2.2.2.2.2.2.1 (E7 r hr e)
 dsimp only
 rw [eqI rfl,notT,cF]
 have E8:=fun (r:Rp) (hr:OkR r) (e:s=en r)=>(pS_pre (e8.symm.trans (E7 r hr e))).2
 refine rStr_next (p:=((((((((0+k1)+k2)+k3)+k4)+k5)+k6)+k7)+k8)) hs (by omega) (fun h=>?_) (fun n9 k9 i9 e9 l9=>?_)
 ·dsimp only
  rw [neI (by decide),notF,orT,notT,cF,oB,orT,cT]
  exact rep_bad fun r hr e=>h r.tg _ (ok_inR hr).2.2.2.2.2.2.2.2 (E8 r hr e)
 dsimp only
 rw [eqI rfl,notT,orF]
 have hall:s=en (n1,n2,n3,n4,n5,n6,n7,n8,n9)++s.drop (((((((((0+k1)+k2)+k3)+k4)+k5)+k6)+k7)+k8)+k9):=by
  rw [en,sg]
  simp only [aA,Rp.sv,Rp.nu,Rp.da,Rp.ki,Rp.su,Rp.va,Rp.rf,Rp.pv,Rp.tg]
  rw [← e9,← e8,← e7,← e6,← e5,← e4,← e3,← e2,← e1,List.drop_zero]
 rw [lenI]
 have huniq:∀ r,s=en r→r=(n1,n2,n3,n4,n5,n6,n7,n8,n9)∧s.drop (((((((((0+k1)+k2)+k3)+k4)+k5)+k6)+k7)+k8)+k9)=[]:=fun r e=>by
  have:=en_pre (a:=r) (b:=(n1,n2,n3,n4,n5,n6,n7,n8,n9)) (x:=[]) (y:=s.drop (((((((((0+k1)+k2)+k3)+k4)+k5)+k6)+k7)+k8)+k9)) (by rw [← hall,List.append_nil,← e])
  exact ⟨this.1,this.2.symm⟩
 by_cases hend:(((((((((0+k1)+k2)+k3)+k4)+k5)+k6)+k7)+k8)+k9)=s.length
 ·rw [eqI (by omega),notT,notF,cT,rOk_eq,oB,orF]
  have h0:s.drop (((((((((0+k1)+k2)+k3)+k4)+k5)+k6)+k7)+k8)+k9)=[]:=List.drop_of_length_le (by omega)
  rw [h0,List.append_nil] at hall
  by_cases ho:OkR (n1,n2,n3,n4,n5,n6,n7,n8,n9)
  ·rw [dT ho,notT,cF]
   exact Ans.some ⟨fun r hr e=>by rw [(huniq r e).1],fun h=>absurd hall (h _ ho)⟩
  ·rw [dF ho,notF,cT]
   exact rep_bad fun r hr e=>ho (by rw [← (huniq r e).1];exact hr)
 ·rw [neI (by omega),notF,notT,cF,oB,orT,cT]
  refine rep_bad fun r hr e=>hend ?_
  have:=congrArg List.length (huniq r e).2
  rw [List.length_drop] at this
  simp at this
  omega
theorem rEnc_eq (r:Rp):m21 r=some (if OkR r then (en r,0) else ([],390)):=by
 unfold m21
 rw [eR,rOk_eq,oB]
 by_cases h:OkR r
 ·rw [dT h,notT,cF,rEn_all,oB,en2_ok h,if_pos h]
 ·rw [dF h,notF,cT,if_neg h]
theorem rHead_eq {a:List Rp} (ha:a.length≤1000000):m60 a=some (if OkA a then (rootL (a.map en),0) else ([],390)):=by
 unfold m60
 rw [rValid_eq ha,oB]
 by_cases h:OkA a
 ·have h3:=h.2.2
  rw [dT h,notT,cF,if_pos h,rEncs_ok h.1 (by omega),oB,rRoot_ok (by simp;omega) (fun s hs=>by
    obtain ⟨r,hr,rfl⟩:=List.mem_map.1 hs
    have:=(okR_len (h.1 r hr)).2
    omega),oB]
 ·rw [dF h,notF,cT,if_neg h]
theorem rBelieved_eq {a:List Rp} {s:Int} (ha:a.length≤1000000):m55 (a,s)=some (if OkA a then bel a s else []):=by
 unfold m55
 rw [rValid_eq ha,oB]
 by_cases h:OkA a
 ·rw [dT h,notT,cF,if_pos h,rBel_ok h,oB]
 ·rw [dF h,notF,cT,if_neg h]
theorem rMiss_eq {a b:List Rp} (ha:a.length≤1000000) (hb:b.length≤1000000):m59 (a,b)=some (miss a b):=by
 unfold m59 miss
 dsimp only
 rw [rValid_eq ha,oB]
 by_cases h1:OkA a
 ·rw [dT h1,notT,notF,cT,rValid_eq hb,oB,orF]
  by_cases h2:OkA b
  ·rw [dT h2,notT,cF,if_pos ⟨h1,h2⟩]
   refine bind_of (filt (fun r:Rp=>decide (r∉b)) a (fun k hk o2 h2=>?_) (fun o2=>?_)) rfl
   ·dsimp only
    rw [lenI,ltI (by omega),cT,idxM_lt hk,oB,eR,rHas_eq _ hb,oB,wrap_in (by omega) (by omega),oB]
    by_cases e:a[k]∈b
    ·rw [dT e,notT,cF,oB,if_neg (by simp [e])]
    ·rw [dF e,notF,cT,appR (by simp;omega),oB,oB,if_pos (by simp [e])]
   ·dsimp only
    rw [lenI,geI (by omega),cF]
  ·rw [dF h2,notF,cT,if_neg fun q=>h2 q.2]
 ·rw [dF h1,notF,notT,cF,oB,orT,cT,if_neg fun q=>h1 q.1]
theorem rForks_eq {a:List Rp} (h:OkA a):m57 a=some (frk a):=by
 obtain ⟨a1,a2,a3⟩:=h
 unfold m57
 rw [rValid_eq (by omega),oB,dT ⟨a1,a2,a3⟩,notT,cF]
 cases a with
 | nil =>
  refine bind_of (x:=[]) ?_ rfl
  rw [loopM_eq];rfl
 | cons x t =>
  have hl:(x::t).length=t.length+1:=rfl
  rw [hl] at a3
  show (loopM _ _).bind _=some (frkG x t [])
  refine Ans.bindEq (Q:=fun o=>o=frkG x t []) ?_ fun o ho=>by rw [ho]
  refine Ans.loop (fun k z=>∃ out y,z=(((k+1:Nat):Int),out)∧k≤t.length∧out.length≤k∧(x::t)[k]? = some y∧frkG y (t.drop k) out=frkG x t []) t.length ⟨[],x,rfl,by omega,by simp,rfl,rfl⟩ ?_
  rintro k z hk ⟨out,y,rfl,h1,h2,h3,h4⟩
  dsimp only
  rw [lenI,hl]
  by_cases hkl:k<t.length
  ·have hdk:t.drop k=t[k]::t.drop (k+1):=List.drop_eq_getElem_cons hkl
   rw [hdk,frkG] at h4
   have hnext:(x::t)[k+1]? = some t[k]:=by rw [List.getElem?_cons_succ,gE hkl]
   generalize t[k]=r at h4 hnext
   have i1:idxM (x::t) ((k+1:Nat):Int)=some r:=by rw [idxM_nat,hnext]
   have i2:idxM (x::t) ((k:Nat):Int)=some y:=by rw [idxM_nat,h3]
   rw [ltI (by omega),cT,i1,oB,wrap_in (n:=((k+1:Nat):Int)-1) (by omega) (by omega),show ((k+1:Nat):Int)-1=((k:Nat):Int) by omega,i2,oB]
   refine Ans.bind (P:=fun o=>o=if y.sv=r.sv∧y.nu=r.nu∧(out=[]∨(out.getLast?.map Prod.fst)≠some r.sv) then out++[(r.sv,r.nu)] else out) ?_ fun o ho=>?_
   ·by_cases s1:r.sv=y.sv
    ·rw [eqI (show r.1=y.1 from s1),notT,notF,cT,oB,orF]
     by_cases s2:r.nu=y.nu
     ·rw [eqI (show r.2.1=y.2.1 from s2),notT,cF,lenI]
      by_cases ho:out=[]
      ·subst ho
       rw [show ((([]:List (Int×Int)).length:Nat):Int)=0 from rfl,eqI rfl,notT]
       simp only [cF,oB,orT,cT]
       rw [if_pos ⟨s1.symm,s2.symm,.inl trivial⟩,appM_of (by simp),oB]
       exact Ans.some rfl
      ·have hpos:=List.length_pos_iff.2 ho
       obtain ⟨v,hv⟩:∃ v,out.getLast? = some v:=⟨_,List.getLast?_eq_some_getLast ho⟩
       rw [neI (by omega),notF,wrap_in (n:=(out.length:Int)-1) (by omega) (by omega),chkM_of (by omega) (by omega),getLast_idx ho,hv]
       simp only [cT,oB,orF]
       by_cases hc:v.1=r.sv
       ·rw [eqI (show v.1=r.1 from hc),notT,cF,if_neg fun q=>by
         rcases q.2.2 with w | w
         ·exact ho w
         ·exact w (by simp [hc])]
        exact Ans.some rfl
       ·rw [neI (show v.1≠r.1 from hc),notF,cT,if_pos ⟨s1.symm,s2.symm,.inr (by simpa using hc)⟩,appM_of (by simp;omega),oB]
        exact Ans.some rfl
     ·rw [neI (show r.2.1≠y.2.1 from s2),notF,cT,if_neg fun q=>s2 q.2.1.symm]
      exact Ans.some rfl
    ·rw [neI (show r.1≠y.1 from s1),notF,notT,cF,oB,orT,cT,if_neg fun q=>s1 q.1.symm]
     exact Ans.some rfl
   ·rw [wrap_in (by omega) (by omega)]
    refine Ans.some ⟨by omega,o,r,rfl,by omega,?_,hnext,by rw [ho];exact h4⟩
    rw [ho];split
    ·simp;omega
    ·omega
  ·rw [geI (by omega),cF]
   rw [List.drop_of_length_le (by omega)] at h4
   exact Ans.some h4
theorem rLoad_ok {l:List Bs} (hl:l.length≤1000) (hs:∀ s∈l,s.length≤1000000):∃ D:List Rp,(∀ r,r∈D↔OkR r∧en r∈l)∧m25 l=some (mk40 (arch D)):=by
 obtain ⟨o,h1,hU,hm⟩:Ans (loopM (fun (s:List Rp×Int)=>bif ltM s.2 (lenM l) then ((idxM l s.2).bind fun r=>(m23 r).bind fun r_1=>bif eqM r_1.2 0 then (m71 (s.1,r_1.1)).bind fun r=>some r else some s.1).bind fun o=>some (Sum.inl (o,IntKind.wrap .i64 (s.2+1))) else some (Sum.inr s.1)) ([],0)) (fun o=>Up o∧∀ r,r∈o↔OkR r∧en r∈l):=by
  refine Ans.loop (fun k z=>∃ o:List Rp,z=(o,(k:Int))∧k≤l.length∧Up o∧o.length≤k∧∀ r,r∈o↔OkR r∧en r∈l.take k) l.length ⟨[],rfl,by omega,List.Pairwise.nil,by simp,fun r=>by simp⟩ ?_
  rintro k z hk ⟨o,rfl,q1,q2,q3,q4⟩
  dsimp only
  rw [lenI]
  by_cases hkl:k<l.length
  ·obtain ⟨d,d1,d2,d3⟩:=rDec_ok (hs _ (List.getElem_mem hkl))
   have htk:∀ s,s∈l.take (k+1)↔s∈l.take k∨s=l[k]:=fun s=>by rw [show l.take (k+1)=l.take k++[l[k]] by rw [List.take_add_one,gE hkl];rfl,List.mem_append,List.mem_singleton]
   rw [ltI (by omega),cT,idxM_lt hkl,oB,d1,oB]
   by_cases hu:∃ u,OkR u∧l[k]=en u
   ·obtain ⟨u,hu1,hu2⟩:=hu
    rw [d2 u hu1 hu2]
    dsimp only
    rw [eqI rfl,cT,rPutR_ok q2 (fun x hx=>((q4 x).1 hx).1) hu1 (by omega),oB,oB,wrap_in (by omega) (by omega)]
    refine Ans.some ⟨by omega,putR u o,rfl,by omega,putR_up u q2,by have:=putR_len u o;omega,fun r=>?_⟩
    rw [putR_mem,q4,htk]
    constructor
    ·rintro (e | ⟨e1,e2⟩)
     ·subst e;exact ⟨hu1,.inr hu2.symm⟩
     ·exact ⟨e1,.inl e2⟩
    ·rintro ⟨e1,e2 | e2⟩
     ·exact .inr ⟨e1,e2⟩
     ·exact .inl (en_inj (e2.trans hu2))
   ·have hu':∀ u,OkR u→l[k]≠en u:=fun u h e=>hu ⟨u,h,e⟩
    rw [d3 hu']
    dsimp only
    rw [neI (by decide),cF,oB,wrap_in (by omega) (by omega)]
    refine Ans.some ⟨by omega,o,rfl,by omega,q2,by omega,fun r=>?_⟩
    rw [q4,htk]
    constructor
    ·rintro ⟨e1,e2⟩;exact ⟨e1,.inl e2⟩
    ·rintro ⟨e1,e2 | e2⟩
     ·exact ⟨e1,e2⟩
     ·exact absurd e2.symm (hu' r e1)
  ·rw [geI (by omega),cF]
   refine Ans.some ⟨q2,fun r=>?_⟩
   rw [q4,tkL (by omega)]
 refine ⟨o,hm,?_⟩
 have e:arch o=o:=(up_arch hU fun x=>Iff.rfl).symm
 unfold m25
 refine bind_of h1 ?_
 rw [e,lenI]
 unfold mk40
 by_cases hc:o.length≤40
 ·rw [geI (by omega),cF,if_pos hc]
 ·rw [ltI (by omega),cT,if_neg hc]
theorem load_same {l:List Bs} (hl:l.length≤1000) (hs:∀ s∈l,s.length≤1000000):∃ v:List Rp×Int,m24 l=some v∧m25 l=some v∧v.1.length≤1000000:=by
 obtain ⟨D,d1,d2⟩:=wLoad_ok hl hs
 obtain ⟨E,e1,e2⟩:=rLoad_ok hl hs
 have:arch D=arch E:=arch_congr fun x=>by rw [d1,e1]
 refine ⟨_,d2,by rw [e2,this],?_⟩
 unfold mk40;split
 ·dsimp only;omega
 ·simp
end Go.Proofs.YtdnabfadigkjgaaGreatDoor
namespace Go.Ar
def wdA:List Rp→List Int→List Int
 | [],wd=>wd
 | r::t,wd=>if r.nu∈wd then wdA t wd else if r.ki=2 then wdA t (r.rf::wd) else wdA t wd
theorem wdA_sub:∀ (t:List Rp) (wd:List Int) (n:Int),n∈wd→n∈wdA t wd
 | [],_,_,h=>h
 | r::t,wd,n,h=>by
  unfold wdA
  split
  ·exact wdA_sub t _ n h
  ·split
   ·exact wdA_sub t _ n (by simp [h])
   ·exact wdA_sub t _ n h
theorem wdA_mem:∀ (t:List Rp) (wd:List Int) (n:Int),n∈wdA t wd→n∈wd∨∃ y∈t,y.ki=2∧y.rf=n
 | [],_,_,h=>.inl h
 | r::t,wd,n,h=>by
  unfold wdA at h
  split at h
  ·rcases wdA_mem t _ n h with q | ⟨y,q1,q2⟩
   ·exact .inl q
   ·exact .inr ⟨y,by simp [q1],q2⟩
  ·split at h
   ·rename_i hk
    rcases wdA_mem t _ n h with q | ⟨y,q1,q2⟩
    ·rcases List.mem_cons.1 q with q | q
     ·exact .inr ⟨r,by simp,hk,q.symm⟩
     ·exact .inl q
    ·exact .inr ⟨y,by simp [q1],q2⟩
   ·rcases wdA_mem t _ n h with q | ⟨y,q1,q2⟩
    ·exact .inl q
    ·exact .inr ⟨y,by simp [q1],q2⟩
def hitR (W:List Int) (u:Int) (r:Rp):Bool:=decide (r.ki≠2∧r.su=u∧r.nu∉W)
theorem curS_find (u:Int):∀ (t:List Rp) (wd sn:List Int),u∉sn→t.Pairwise (fun a b=>b.nu<a.nu)→(∀ x∈t,x.ki=2→x.rf<x.nu)→(curS t wd sn []).filter (fun r=>decide (r.su=u))=(t.find? (hitR (wdA t wd) u)).toList
 | [],_,_,_,_,_=>rfl
 | r::t,wd,sn,hu,hp,hk=>by
  obtain ⟨p1,p2⟩:=List.pairwise_cons.1 hp
  have hk':∀ x∈t,x.ki=2→x.rf<x.nu:=fun x hx=>hk x (by simp [hx])
  unfold curS wdA
  by_cases a:r.nu∈wd
  ·rw [if_pos a,if_pos a,List.find?_cons_of_neg (by
    unfold hitR
    rw [decide_eq_true_iff]
    exact fun q=>q.2.2 (wdA_sub t wd _ a))]
   exact curS_find u t wd sn hu p2 hk'
  ·rw [if_neg a,if_neg a]
   by_cases b:r.ki=2
   ·rw [if_pos b,if_pos b,List.find?_cons_of_neg (by
     unfold hitR
     rw [decide_eq_true_iff]
     exact fun q=>q.1 b)]
    exact curS_find u t _ sn hu p2 hk'
   ·rw [if_neg b,if_neg b]
    by_cases c:r.su∈sn
    ·rw [if_pos c,List.find?_cons_of_neg (by
      unfold hitR
      rw [decide_eq_true_iff]
      exact fun q=>hu (q.2.1▸c))]
     exact curS_find u t _ sn hu p2 hk'
    ·rw [if_neg c,curS_nil,List.filter_append]
     by_cases d:r.su=u
     ·have hh:hitR (wdA t wd) u r=true:=by
       unfold hitR
       rw [decide_eq_true_iff]
       refine ⟨b,d,fun q=>?_⟩
       rcases wdA_mem t wd _ q with q | ⟨y,q1,q2,q3⟩
       ·exact a q
       ·have h1:=hk' y q1 q2
        have h2:=p1 y q1
        omega
      rw [List.find?_cons_of_pos hh]
      have e:(curS t wd (r.su::sn) []).filter (fun r=>decide (r.su=u))=[]:=by
       rw [List.filter_eq_nil_iff]
       intro x hx
       rw [decide_eq_true_iff]
       intro q
       exact (curS_mem _ _ _ x hx).2.2.2 (by simp [d,q])
      rw [e]
      simp [d]
     ·rw [List.find?_cons_of_neg (by
       unfold hitR
       rw [decide_eq_true_iff]
       exact fun q=>d q.2.1),curS_find u t wd (r.su::sn) (by simp only [List.mem_cons,not_or];exact ⟨fun q=>d q.symm,hu⟩) p2 hk']
      simp [d]
def curG (a:List Rp) (u s:Nat):List Rp:=((bel a s).reverse.find? (hitR (wdA (bel a s).reverse []) u)).toList
theorem curG_len (a:List Rp) (u s:Nat):(curG a u s).length≤1:=by unfold curG;cases List.find? _ _<;>simp
theorem bel_desc {a:List Rp} {s:Int}:(bel a s).reverse.Pairwise fun a b=>b.nu<a.nu:=by
 rw [List.pairwise_reverse,List.pairwise_iff_getElem]
 intro i j hi hj hij
 have h1:=(Pbel.mem (bel_is a s).1 (gE hi)).2.2
 have h2:=(Pbel.mem (bel_is a s).1 (gE hj)).2.2
 omega
theorem curG_eq {a:List Rp} (ha:∀ r∈a,OkR r) (u s:Nat):(curOf (bel a s)).filter (fun r=>decide (r.su=(u:Int)))=curG a u s :=
 curS_find u _ [] [] (by simp) bel_desc fun x hx hk=>by
  have:=ha x (bel_sv (by simpa using hx)).1
  obtain ⟨_,_,_,_,_,_,_,_,w | w⟩:=this
  ·omega
  ·omega
theorem flat_le (f:Nat→List Rp) (c:Nat) (h:∀ s,(f s).length≤c):∀ n,((List.range n).flatMap f).length≤c*n
 | 0=>by simp
 | n+1=>by
  rw [List.range_succ,List.flatMap_append,lA,Nat.mul_add]
  have:=flat_le f c h n
  have:=h n
  simp only [List.flatMap_cons,List.flatMap_nil,List.append_nil]
  omega
theorem flat_pw {R:Rp→Rp→Prop} (f:Nat→List Rp) (h1:∀ s,(f s).Pairwise R) (h2:∀ i j,i<j→∀ x∈f i,∀ y∈f j,R x y):∀ n,((List.range n).flatMap f).Pairwise R
 | 0=>List.Pairwise.nil
 | n+1=>by
  rw [List.range_succ,List.flatMap_append]
  simp only [List.flatMap_cons,List.flatMap_nil,List.append_nil]
  refine List.pairwise_append.2 ⟨flat_pw f h1 h2 n,h1 n,fun x hx y hy=>?_⟩
  obtain ⟨i,q1,q2⟩:=List.mem_flatMap.1 hx
  exact h2 i n (List.mem_range.1 q1) x q2 y hy
theorem curR_of {a:List Rp} (ha:∀ r∈a,OkR r):CurR a ((List.range 100).flatMap fun u=>(List.range 8).flatMap fun s=>curG a u s):=by
 have hm:∀ {u s:Nat} {x:Rp},x∈curG a u s→x.su=u∧x.sv=s∧x∈curOf (bel a s):=fun {u s x} h=>by
  rw [← curG_eq ha,List.mem_filter,decide_eq_true_iff] at h
  exact ⟨h.2,(bel_sv (curOf_mem h.1).1).2,h.1⟩
 refine ⟨flat_pw _ (fun u=>flat_pw _ (fun s=>?_) (fun i j hij x hx y hy=>?_) 8) (fun i j hij x hx y hy=>?_) 100,fun x=>?_⟩
 ·have:=curG_len a u s
  generalize curG a u s=l at this
  match l,this with
  | [],_=>exact List.Pairwise.nil
  | [x],_=>exact List.pairwise_singleton _ _
 ·have h1:=hm hx
  have h2:=hm hy
  unfold Kc;omega
 ·obtain ⟨s,_,q⟩:=List.mem_flatMap.1 hx
  obtain ⟨t,_,q'⟩:=List.mem_flatMap.1 hy
  have h1:=hm q
  have h2:=hm q'
  unfold Kc;omega
 ·rw [curAll_mem,List.mem_flatMap]
  constructor
  ·rintro ⟨u,_,q⟩
   obtain ⟨s,q1,q2⟩:=List.mem_flatMap.1 q
   exact ⟨s,List.mem_range.1 q1,(hm q2).2.2⟩
  ·rintro ⟨s,q1,q2⟩
   have ho:=ha x (bel_sv (curOf_mem q2).1).1
   have hk:=(curOf_mem q2).2
   have hsu:0≤x.su∧x.su≤99:=by
    obtain ⟨_,_,_,_,_,_,_,_,w | w⟩:=ho
    ·omega
    ·omega
   obtain ⟨u,hu⟩:=Int.eq_ofNat_of_zero_le hsu.1
   refine ⟨u,List.mem_range.2 (by omega),List.mem_flatMap.2 ⟨s,List.mem_range.2 q1,?_⟩⟩
   rw [← curG_eq ha,List.mem_filter,decide_eq_true_iff]
   exact ⟨q2,hu⟩
end Go.Ar
namespace Go.Proofs.YtdnabfadigkjgaaGreatDoor
open Go Go.Lib Go.Abs Go.PE Go.Ar
theorem rCur_ok {a:List Rp} (h:OkA a):∃ ys,m56 a=some ys∧CurR a ys:=by
 obtain ⟨a1,a2,a3⟩:=h
 refine ⟨_,?_,curR_of a1⟩
 unfold m56
 rw [rValid_eq (by omega),oB,dT ⟨a1,a2,a3⟩,notT,cF]
 have b1:∀ u n,((List.range n).flatMap fun s=>curG a u s).length≤1*n:=fun u n=>flat_le _ 1 (curG_len a u) n
 refine bind_of (loopM_at (fun k=>((k:Int),(List.range k).flatMap fun u=>(List.range 8).flatMap fun s=>curG a u s)) 100 rfl (fun u hu=>?_) ?_) rfl
 ·have b2:=flat_le (fun u=>(List.range 8).flatMap fun s=>curG a u s) 8 (fun u=>by have:=b1 u 8;omega) u
  have e0:((List.range (u+1)).flatMap fun u=>(List.range 8).flatMap fun s=>curG a u s)=((List.range u).flatMap fun u=>(List.range 8).flatMap fun s=>curG a u s)++(List.range 8).flatMap fun s=>curG a u s:=by
   rw [List.range_succ (n:=u),List.flatMap_append,List.flatMap_cons,List.flatMap_nil,List.append_nil]
  dsimp only
  rw [e0]
  clear e0
  generalize (List.range u).flatMap (fun u=>(List.range 8).flatMap fun s=>curG a u s)=o0 at b2
  refine bif_yes (leI (by omega)) ?_
  refine bind_of (x:=o0++(List.range 8).flatMap fun s=>curG a u s) (loopM_at (fun k=>((k:Int),o0++(List.range k).flatMap fun s=>curG a u s)) 8 (by simp) (fun s hs=>?_) ?_) ?_
  ·have b3:=b1 u s
   dsimp only
   rw [List.range_succ,List.flatMap_append]
   simp only [List.flatMap_cons,List.flatMap_nil,List.append_nil]
   rw [← aA]
   have b4:(o0++(List.range s).flatMap fun s=>curG a u s).length≤100000:=by rw [lA];omega
   generalize (o0++(List.range s).flatMap fun s=>curG a u s)=o1 at b4
   refine bif_yes (leI (by omega)) ?_
   refine bind_of (x:=o1++curG a u s) ?_ (by rw [wrap_in (by omega) (by omega)];rfl)
   have hany:loopM (fun (s_2:Bool×Int)=>bif ltM s_2.2 (lenM a) then (bif PE.notM s_2.1 then idxM a s_2.2 else some ((0,0,0,0,0,0,0,[],[]):Rp)).bind fun r_1=>(bif PE.andM (PE.notM s_2.1) (eqM r_1.1 (s:Int)) then idxM a s_2.2 else some ((0,0,0,0,0,0,0,[],[]):Rp)).bind fun r=>some (Sum.inl (PE.orM s_2.1 (PE.andM (eqM r_1.1 (s:Int)) (eqM r.2.2.2.2.1 (u:Int))),IntKind.wrap .i64 (s_2.2+1))) else some (Sum.inr s_2.1)) (false,0)=some (a.any fun r=>decide (r.sv=s)&&decide (r.su=u)):=by
    refine loopM_at (fun k=>((a.take k).any fun r=>decide (r.sv=s)&&decide (r.su=u),(k:Int))) a.length rfl (fun k hk=>?_) ?_
    ·dsimp only
     rw [lenI,ltI (by omega),cT,show a.take (k+1)=a.take k++[a[k]] by rw [List.take_add_one,gE hk];rfl,List.any_append,wrap_in (by omega) (by omega)]
     cases (a.take k).any fun r=>decide (r.sv=s)&&decide (r.su=u)
     ·rw [notF,cT,idxM_lt hk,oB,andT]
      simp only [orF,List.any_cons,List.any_nil,Bool.or_false,Bool.false_or]
      by_cases e:a[k].sv=s
      ·rw [eqI (show a[k].1=s from e),cT,oB,andT,dT e,Bool.true_and];rfl
      ·rw [neI (show a[k].1≠s from e),cF,oB,andF,dF e,Bool.false_and];rfl
     ·rw [notT,cF,oB,andF,cF,oB,orT,Bool.true_or];rfl
    ·dsimp only
     rw [lenI,geI (by omega),cF,List.take_length]
   refine bind_of hany ?_
   by_cases hex:(a.any fun r=>decide (r.sv=s)&&decide (r.su=u))=true
   ·rw [hex]
    refine bif_no rfl ?_
    refine bind_of (rBel_ok ⟨a1,a2,a3⟩) ?_
    have hb:Pbel a s (bel a s):=(bel_is a s).1
    have hok:∀ r∈bel a (s:Int),OkR r:=fun r hr=>a1 r (bel_sv hr).1
    have hlen:=Pbel.ok hb a1
    unfold curG
    dsimp only
    generalize bel a (s:Int)=l at hb hok hlen
    generalize hG:wdA l.reverse []=G
    refine bind_of (x:=List.replicate l.length false) (by rw [lenI,mkM_of (by omega) (by omega) (by show _*1≤_;omega),Int.toNat_natCast]) ?_
    have hw1:IntKind.wrap .i64 (lenM l-1)=(l.length:Int)-1:=by rw [lenI];exact wrap_in (by omega) (by omega)
    rw [hw1]
    refine Ans.bindEq (Q:=fun w=>Bits l.length w (G)) ?_ fun w hw=>?_
    ·refine Ans.loop (fun j z=>j≤l.length∧∃ (w:List Bool) (W:List Int),z=((l.length:Int)-1-(j:Int),w)∧Bits l.length w W∧wdA ((l.take (l.length-j)).reverse) W=G) l.length ⟨by omega,_,[],by simp,Bits.zero _,by rw [Nat.sub_zero,List.take_length];exact hG⟩ ?_
     rintro j z hj ⟨q0,w,W,rfl,q1,q4⟩
     dsimp only
     by_cases hjl:j<l.length
     ·obtain ⟨m,hm⟩:∃ m,l.length-j=m+1:=⟨l.length-j-1,by omega⟩
      have hml:m<l.length:=by omega
      have hi:(l.length:Int)-1-(j:Int)=(m:Int):=by omega
      have hget:=gE hml
      have hr:=hok _ (List.getElem_mem hml)
      have hnu:=(hb.mem hget).2.2
      have htk:(l.take (m+1)).reverse=l[m]::(l.take m).reverse:=by
       rw [List.take_add_one,hget,Option.toList_some,List.reverse_append];rfl
      rw [hm,htk] at q4
      rw [hi,leI (by omega),cT,idxM_lt hml,oB]
      generalize l[m]=r at hr hnu q4
      obtain ⟨_,_,_,_,_,_,_,_,b9⟩:=hr
      unfold wdA at q4
      rw [hnu] at q4
      have fin:∀ (w:List Bool) (W:List Int),Bits l.length w W→wdA ((l.take m).reverse) W=G→Ans (some (Sum.inl (IntKind.wrap .i64 ((m:Int)-1),w)):Option ((Int×List Bool)⊕List Bool)) (Nxt (fun z=>j<l.length∧(j+1≤l.length∧∃ (w:List Bool) (W:List Int),z=((l.length:Int)-1-((j+1:Nat):Int),w)∧Bits l.length w W∧wdA ((l.take (l.length-(j+1))).reverse) W=G)) fun w=>Bits l.length w G):=fun w W h1 h2=>by
       rw [wrap_in (by omega) (by omega)]
       exact Ans.some ⟨by omega,by omega,w,W,by rw [show (m:Int)-1=(l.length:Int)-1-((j+1:Nat):Int) by omega],h1,by rw [show l.length-(j+1)=m by omega];exact h2⟩
      by_cases hk2:r.ki=2
      ·rw [if_pos hk2] at q4
       have hrf:0≤r.rf∧r.rf<(m:Int):=by omega
       rw [eqI (show r.2.2.2.1=2 from hk2),cT,cT,chkM_of (by omega) (by rw [lenI,q1.1];omega),oB,q1.get (by omega) (by omega),oB,andT]
       by_cases hw:(m:Int)∈W
       ·rw [if_pos hw] at q4
        rw [dT hw,notT,cF,oB]
        exact fin w W q1 q4
       ·rw [if_neg hw] at q4
        obtain ⟨p1,p2⟩:=q1.put (i:=r.rf) hrf.1 (by omega)
        rw [dF hw,notF,cT,oB,chkM_of hrf.1 (by rw [lenI,q1.1];show r.rf<_;omega),oB,p1,oB,oB]
        exact fin _ _ p2 q4
      ·have q5:wdA ((l.take m).reverse) W=G:=by
        split at q4<;>first | exact q4 | (rw [if_neg hk2] at q4;exact q4)
       rw [neI (show r.2.2.2.1≠2 from hk2),cF,cF,oB,oB,andF,cF,oB]
       exact fin w W q1 q5
     ·rw [gtI (by omega),cF]
      rw [show l.length-j=0 by omega,List.take_zero] at q4
      exact Ans.some (by rw [← q4];exact q1)
    ·clear hG;generalize G=W at hw
     refine Ans.bindEq (Q:=fun o=>o=o1++(l.reverse.find? (hitR W u)).toList) ?_ fun o ho=>by rw [ho]
     refine Ans.loop (fun j (z:Int)=>j≤l.length∧z=(l.length:Int)-1-(j:Int)∧((l.take (l.length-j)).reverse).find? (hitR W u)=l.reverse.find? (hitR W u)) l.length ⟨by omega,by simp,by rw [Nat.sub_zero,List.take_length]⟩ ?_
     rintro j z hj ⟨q0,rfl,q4⟩
     by_cases hjl:j<l.length
     ·obtain ⟨m,hm⟩:∃ m,l.length-j=m+1:=⟨l.length-j-1,by omega⟩
      have hml:m<l.length:=by omega
      have hi:(l.length:Int)-1-(j:Int)=(m:Int):=by omega
      have hget:=gE hml
      have hr:=hok _ (List.getElem_mem hml)
      have hnu:=(hb.mem hget).2.2
      have htk:(l.take (m+1)).reverse=l[m]::(l.take m).reverse:=by
       rw [List.take_add_one,hget,Option.toList_some,List.reverse_append];rfl
      rw [hm,htk] at q4
      rw [hi,leI (by omega),cT,idxM_lt hml,oB]
      generalize l[m]=r at hr hnu q4
      obtain ⟨_,_,_,_,_,_,_,_,b9⟩:=hr
      have hk12:r.ki=1↔r.ki≠2:=by omega
      by_cases hc:r.ki=1∧r.su=u
      ·rw [eqI (show r.2.2.2.1=1 from hc.1),cT,oB,eqI (show r.2.2.2.2.1=(u:Int) from hc.2),andT,cT,cT,chkM_of (by omega) (by rw [lenI,hw.1];omega),oB,hw.get (by omega) (by omega),oB,andT]
       by_cases hq:(m:Int)∈W
       ·rw [dT hq,notT,cF,wrap_in (by omega) (by omega)]
        rw [List.find?_cons_of_neg (by
         unfold hitR
         rw [decide_eq_true_iff]
         exact fun q=>q.2.2 (by rw [hnu];exact hq))] at q4
        exact Ans.some ⟨by omega,by omega,by omega,by rw [show l.length-(j+1)=m by omega];exact q4⟩
       ·rw [dF hq,notF,cT,oB,eR,appR (by simp;omega),oB]
        rw [List.find?_cons_of_pos (by
         unfold hitR
         rw [decide_eq_true_iff]
         exact ⟨hk12.1 hc.1,hc.2,by rw [hnu];exact hq⟩)] at q4
        refine Ans.some ?_
        show o1++[r]=_
        rw [← q4];rfl
      ·have hf:(bif eqM r.2.2.2.1 1 then (some r:Option Rp) else some ((0,0,0,0,0,0,0,[],[]):Rp)).bind (fun r_4=>some (PE.andM (eqM r.2.2.2.1 1) (eqM r_4.2.2.2.2.1 (u:Int))))=some false:=by
        by_cases e1:r.ki=1
        ·rw [eqI (show r.2.2.2.1=1 from e1),cT,oB,neI (show r.2.2.2.2.1≠(u:Int) from fun e=>hc ⟨e1,e⟩),andT]
        ·rw [neI (show r.2.2.2.1≠1 from e1),cF,oB,andF]
       rw [List.find?_cons_of_neg (by
        unfold hitR
        rw [decide_eq_true_iff]
        exact fun q=>hc ⟨hk12.2 q.1,q.2.1⟩)] at q4
       by_cases e1:r.ki=1
       ·rw [eqI (show r.2.2.2.1=1 from e1),cT,oB,neI (show r.2.2.2.2.1≠(u:Int) from fun e=>hc ⟨e1,e⟩),andT,cF,cF,oB,oB,andF,cF,wrap_in (by omega) (by omega)]
        exact Ans.some ⟨by omega,by omega,by omega,by rw [show l.length-(j+1)=m by omega];exact q4⟩
       ·rw [neI (show r.2.2.2.1≠1 from e1),cF,oB,andF,cF,cF,oB,oB,andF,cF,wrap_in (by omega) (by omega)]
        exact Ans.some ⟨by omega,by omega,by omega,by rw [show l.length-(j+1)=m by omega];exact q4⟩
     ·rw [gtI (by omega),cF]
      rw [show l.length-j=0 by omega,List.take_zero] at q4
      refine Ans.some ?_
      show o1=_
      rw [← q4];simp
   ·rw [Bool.not_eq_true] at hex
    rw [hex]
    refine bif_yes rfl ?_
    have e:curG a u s=[]:=by
     rw [← curG_eq a1,List.filter_eq_nil_iff]
     intro x hx
     rw [decide_eq_true_iff]
     intro q
     have h1:=bel_sv (curOf_mem hx).1
     have:=List.any_eq_false.1 hex x h1.1
     rw [dT h1.2,dT q] at this
     simp at this
    rw [e,List.append_nil]
  ·dsimp only
   rw [gtI (by omega),cF]
  ·rw [wrap_in (by omega) (by omega)];rfl
 ·dsimp only
  rw [gtI (by omega),cF]
theorem eqbS (b:Bool):eqbM b b=true:=by cases b<;>rfl
theorem cur_same {a:List Rp} (ha:a.length≤1000000):∃ ys:List Rp,m33 a=some ys∧m56 a=some ys∧ys.length≤1000000:=by
 by_cases h:OkA a
 ·obtain ⟨ys,h1,h2,h3⟩:=cur_two h
  obtain ⟨zs,g1,g2⟩:=rCur_ok h
  exact ⟨ys,h1,by rw [g1,h2.uniq g2],h3⟩
 ·refine ⟨[],?_,?_,by simp⟩
  ·unfold m33
   rw [wValid_eq ha,oB,dF h,notF,cT]
  ·unfold m56
   rw [rValid_eq ha,oB,dF h,notF,cT]
theorem frkG_len:∀ (l:List Rp) (x:Rp) (out:List (Int×Int)),(frkG x l out).length≤out.length+l.length
 | [],_,_=>nR _
 | r::t,x,out=>by
  unfold frkG
  have:=frkG_len t r (if x.sv=r.sv∧x.nu=r.nu∧(out=[]∨(out.getLast?.map Prod.fst)≠some r.sv) then out++[(r.sv,r.nu)] else out)
  refine Nat.le_trans this ?_
  split
  ·simp;omega
  ·simp
theorem forks_same {a:List Rp} (ha:a.length≤1000000):∃ ys:List (Int×Int),m39 a=some ys∧m57 a=some ys∧ys.length≤1000000:=by
 by_cases h:OkA a
 ·refine ⟨frk a,wForks_eq h,rForks_eq h,?_⟩
  cases a with
  | nil=>simp [frk]
  | cons x t =>
   have:=frkG_len t x []
   show (frkG x t []).length≤_
   simp at this ha;omega
 ·refine ⟨[],?_,?_,by simp⟩
  ·unfold m39
   rw [wValid_eq ha,oB,dF h,notF,cT]
  ·unfold m57
   rw [rValid_eq ha,oB,dF h,notF,cT]
theorem mk40_len (l:List Rp):(mk40 l).1.length≤1000000:=by
 unfold mk40;split
 ·dsimp only;omega
 ·simp
theorem addR_len (a:List Rp) (r:Rp):(addR a r).1.length≤1000000:=by
 unfold addR;split
 ·exact mk40_len _
 ·simp
theorem mrg_len (a b:List Rp):(mrg a b).1.length≤1000000:=by
 unfold mrg;split
 ·exact mk40_len _
 ·simp
theorem miss_len {a:List Rp} (b:List Rp) (ha:a.length≤1000000):(miss a b).1.length≤1000000:=by
 unfold miss;split
 ·exact Nat.le_trans (List.length_filter_le _ _) ha
 ·simp
theorem same_self {a:List Rp} (ha:a.length≤1000000):m26 (a,a)=some true:=by rw [same_eq ha,dT rfl]
theorem agree_ok {a b:List Rp} (ha:a.length≤1000000) (hb:b.length≤1000000) (key:Bs) (r:Rp) (s:Int):m18 (a,b,key,r,s)=some true:=by
 unfold m18
 dsimp only
 simp only [eqR_eq]
 obtain ⟨ys,y1,y2,y3⟩:=cur_same ha
 obtain ⟨fs,f1,f2,f3⟩:=forks_same ha
 have hbl:(if OkA a then bel a s else []).length≤1000000:=by
  split
  ·rename_i h
   have:=Pbel.ok (bel_is a s).1 h.1
   omega
  ·simp
 have w1:=wWrite_eq (key:=key) (r:=r) ha
 have w2:=rWrite_eq (key:=key) (r:=r) ha
 have d1:=wAdd_eq (r:=r) ha
 have d2:=rAdd_eq (r:=r) ha
 have g1:=wGen_eq key r
 have g2:=rGen_eq key r
 refine bind_of (wValid_eq ha) ?_
 refine bind_of (rValid_eq ha) ?_
 have e1:=eqbS (decide (OkA a))
 rw [e1]
 refine bind_of (bif_yes rfl g1) ?_
 refine bind_of (bif_yes rfl g2) ?_
 have e2:=eqbS (decide (Gen key r))
 rw [e2]
 refine bind_of (bif_yes rfl (wBelieved_eq ha)) ?_
 refine bind_of (bif_yes rfl (rBelieved_eq ha)) ?_
 refine bind_of (bif_yes rfl (same_self hbl)) ?_
 refine bind_of (bif_yes rfl y1) ?_
 refine bind_of (bif_yes rfl y2) ?_
 refine bind_of (bif_yes rfl (same_self y3)) ?_
 refine bind_of (bif_yes rfl f1) ?_
 refine bind_of (bif_yes rfl f2) ?_
 refine bind_of (x:=true) (bif_yes rfl (by rw [samePairs_eq f3,dT rfl])) ?_
 refine bif_no rfl ?_
 refine bind_of d1 ?_
 refine bind_of d2 ?_
 refine bind_of (wMerge_eq ha hb) ?_
 refine bind_of (rMerge_eq ha hb) ?_
 refine bind_of (wMiss_eq ha hb) ?_
 refine bind_of (rMiss_eq ha hb) ?_
 refine bind_of (wHead_eq ha) ?_
 refine bind_of (rHead_eq ha) ?_
 refine bind_of w1 ?_
 refine bind_of w2 ?_
 have n1:=addR_len a r
 have n2:=mrg_len a b
 have n3:=miss_len b ha
 generalize addR a r=v1 at n1
 generalize mrg a b=v2 at n2
 generalize miss a b=v3 at n3
 generalize (if OkA a then (rootL (a.map en),(0:Int)) else ([],390))=v4
 generalize wrR key a r=v5
 have q:∀ x:Int,eqM x x=true:=fun x=>eqI rfl
 have qs:∀ x:Bs,eqsM x x=true:=fun x=>eqsT rfl
 rw [q,q,q,q,q,qs]
 refine bind_of (bif_yes rfl (same_self n1)) ?_
 refine bind_of (bif_yes rfl (same_self n2)) ?_
 refine bind_of (bif_yes rfl (same_self n3)) ?_
 rw [dT rfl];rfl
theorem cut_ok (s:Bs) (n:Nat):∃ t,sliceM s 0 (min (lenM s) (n:Int))=some t∧t.length≤n:=by
 refine ⟨s.take (min s.length n),?_,by rw [lT];omega⟩
 rw [lenI,sliceM_of (by omega) (by omega) (by omega)]
 simp
 omega
theorem dec_same {s:Bs} (hs:s.length≤1000000):∃ v:Rp×Int,m22 s=some v∧m23 s=some v:=by
 obtain ⟨o,h1,h2,h3⟩:=wDec_ok hs
 obtain ⟨p,g1,g2,g3⟩:=rDec_ok hs
 refine ⟨o,h1,?_⟩
 rw [g1]
 by_cases h:∃ u,OkR u∧s=en u
 ·obtain ⟨u,hu,e⟩:=h
  rw [h2 u hu e,g2 u hu e]
 ·have h':∀ u,OkR u→s≠en u:=fun u hu e=>h ⟨u,hu,e⟩
  rw [h3 h',g3 h']
def encR (r:Rp):Bs×Int:=if OkR r then (en r,0) else ([],390)
theorem encR_len (r:Rp):(encR r).1.length≤131153:=by
 unfold encR;split
 ·rename_i h;exact (okR_len h).2
 ·simp
theorem bent_ok {a:List Rp} {how n at_:Int} {s:Bs} (ha:a.length≤1000) (h1:has64 how) (h2:has64 at_):∃ b:List Rp,m19 (a,how,n,at_,s)=some b∧b.length≤1000000:=by
 have key:Ans (m19 (a,how,n,at_,s)) (fun b=>b.length≤1000000):=by
  unfold m19
  dsimp only
  refine Ans.seq (x:=a) (by rw [appR (by simp;omega)];rfl) ?_
  rw [lenI]
  by_cases h0:a.length=0
  ·rw [eqI (by omega),cT]
   exact Ans.some (by simp)
  rw [neI (by omega),cF]
  have hp:=pickN_lt (c:=at_) (n:=a.length) (by omega)
  refine Ans.seq (pick39_eq h2 (by omega)) ?_
  refine Ans.seq (chkM_of hp.1 hp.2) ?_
  refine Ans.bind (P:=fun (b:List Rp)=>b.length≤1000000) ?_ fun b hb=>Ans.some hb
  refine Ans.seq (pick39_eq h1 (by omega)) ?_
  have st:∀ (f:Rp→Rp),Ans ((setM a (pickN at_ a.length) fun x=>some (f x)).bind fun r=>some r) (fun (b:List Rp)=>b.length≤1000000):=fun f=>by
   rw [setM_of hp.1 hp.2 (y:=f (a[(pickN at_ a.length).toNat]'(by omega))) rfl]
   exact Ans.some (by rw [List.length_set];omega)
  refine Ans.cond (fun _=>st _) fun _=>?_
  refine Ans.cond (fun _=>st _) fun _=>?_
  refine Ans.cond (fun _=>st _) fun _=>?_
  refine Ans.cond (fun _=>st _) fun _=>?_
  refine Ans.cond (fun _=>st _) fun _=>?_
  refine Ans.cond (fun _=>st _) fun _=>?_
  refine Ans.cond (fun _=>st _) fun _=>?_
  refine Ans.cond (fun _=>st _) fun _=>?_
  refine Ans.cond (fun _=>st _) fun _=>?_
  refine Ans.cond (fun _=>?_) fun _=>?_
  ·refine Ans.seq (idxM_of hp.1 hp.2) ?_
   refine Ans.seq (appR (by simp;omega)) ?_
   exact Ans.some (by simp;omega)
  ·refine Ans.seq (idxM_of hp.1 hp.2) ?_
   refine Ans.seq (chkM_of (by omega) (by omega)) ?_
   refine Ans.seq (idxM_of (i:=0) (by omega) (by omega)) ?_
   refine Ans.seq (chkM_of (by omega) (by omega)) ?_
   refine Ans.seq (setM_of (i:=0) (by omega) (by omega) rfl) ?_
   refine Ans.seq (setM_of hp.1 (by rw [List.length_set];exact hp.2) rfl) ?_
   exact Ans.some (by rw [List.length_set,List.length_set];omega)
 exact key
theorem law3_ok (x:List X6×Int×Int×(Int×Int×Int)×(Int×Int×Int)×List Rp×Rp×Bs×Int×Int×Int×Bs) (hx:∀ y∈x.1,has6 y) (h1:has64 x.2.1) (h2:has64 x.2.2.1) (f0:has64 x.2.2.2.1.1) (f1:has64 x.2.2.2.1.2.1) (f2:has64 x.2.2.2.1.2.2) (b0:has64 x.2.2.2.2.1.1) (b2:has64 x.2.2.2.2.1.2.2) (hs:has64 x.2.2.2.2.2.2.2.2.1) (hpl:has64 x.2.2.2.2.2.2.2.2.2.1):m3 x=some true:=by
 obtain ⟨x1,set,other,⟨g0,g1,g2⟩,⟨e0,e1,e2⟩,raw,odd,key,sv,place,c,text⟩:=x
 dsimp only at hx h1 h2 f0 f1 f2 b0 b2 hs hpl
 unfold m3
 dsimp only
 simp only [eqR_eq]
 refine bind_of sane_ok ?_
 refine bif_no rfl ?_
 refine bind_of (madeO_ok hx) ?_
 have hM:=madeL_mde x1
 have hl:=madeL_len x1
 generalize madeL x1=l at hM hl
 refine Ans.bindEq (Q:=fun (L:List Rp)=>(∀ r∈L,OkR r)∧L.length≤17) ?_ fun L hL=>?_
 ·rw [lenI]
  by_cases h0:l.length=0
  ·rw [geI (by omega),cF]
   exact Ans.some ⟨hM.ok,by omega⟩
  ·have hp:=pickN_lt (c:=g0) (n:=l.length) (by omega)
   rw [ltI (by omega),cT]
   refine Ans.seq (lpick_eq f0 (by omega)) ?_
   refine Ans.seq (chkM_of hp.1 hp.2) ?_
   refine Ans.seq (idxM_of hp.1 hp.2) ?_
   have hu:l[(pickN g0 l.length).toNat]'(by omega)∈l:=List.getElem_mem _
   generalize l[(pickN g0 l.length).toNat]'(by omega)=u at hu
   obtain ⟨q1,q2,_⟩:=fork_ok (hM.ok u hu) f1 f2
   refine Ans.seq q1 ?_
   refine Ans.seq (appR (by simp;omega)) ?_
   refine Ans.some ⟨fun r hr=>?_,by simp;omega⟩
   rcases List.mem_append.1 hr with w | w
   ·exact hM.ok r w
   ·rw [List.mem_singleton.1 w];exact q2.2.1
 obtain ⟨hLok,hLn⟩:=hL
 obtain ⟨s,s1,s2⟩:=some_ok (l:=L) h1 (by omega)
 obtain ⟨t,t1,t2⟩:=some_ok (l:=L) h2 (by omega)
 have sl:=s2.length_le
 have tl:=t2.length_le
 refine bind_of s1 ?_
 refine bind_of (of_ok (fun y hy=>hLok y (s2.subset hy)) (by omega)) ?_
 refine bind_of t1 ?_
 refine bind_of (of_ok (fun y hy=>hLok y (t2.subset hy)) (by omega)) ?_
 have la:(arch s).length≤17:=Nat.le_trans (arch_len s) (by omega)
 have lb:(arch t).length≤17:=Nat.le_trans (arch_len t) (by omega)
 generalize arch s=a at la
 generalize arch t=b at lb
 refine Ans.bindEq (Q:=fun (C:List Rp)=>C.length≤4) ?_ fun C hC=>?_
 ·refine Ans.loop (fun k z=>∃ C:List Rp,z=((k:Int),C)∧k≤4∧C.length≤k) 4 ⟨[],rfl,by omega,by simp⟩ ?_
  rintro k z hk ⟨C,rfl,q1,q2⟩
  dsimp only
  rw [lenI]
  by_cases hkl:k<raw.length∧k<4
  ·rw [ltI (by omega),ltI (by omega),andT,cT]
   refine Ans.seq (idxM_lt hkl.1) ?_
   obtain ⟨u,u1,_⟩:=cut_ok raw[k].2.2.2.2.2.2.2.1 40
   obtain ⟨v,v1,_⟩:=cut_ok raw[k].2.2.2.2.2.2.2.2 40
   refine Ans.seq u1 ?_
   refine Ans.seq v1 ?_
   refine Ans.seq (appR (by simp;omega)) ?_
   rw [wrap_in (by omega) (by omega)]
   exact Ans.some ⟨by omega,_,rfl,by omega,by simp;omega⟩
  ·have:PE.andM (ltM (k:Int) (raw.length:Int)) (ltM (k:Int) 4)=false:=by
    unfold PE.andM ltM
    rw [← Bool.decide_and]
    exact dF (by omega)
   rw [this,cF]
   exact Ans.some (show C.length≤4 by omega)
 obtain ⟨u,u1,_⟩:=cut_ok odd.2.2.2.2.2.2.2.1 40
 obtain ⟨v,v1,_⟩:=cut_ok odd.2.2.2.2.2.2.2.2 40
 obtain ⟨w,w1,w2⟩:=cut_ok text 100
 refine bind_of u1 ?_
 refine bind_of v1 ?_
 refine bind_of w1 ?_
 refine bind_of (lpick_eq hs (by omega)) ?_
 have p4:=pickN_lt (c:=sv) (show (0:Int)<4 by omega)
 refine bind_of (key_eq (n:=pickN sv 4) (by unfold has64;omega)) ?_
 refine Ans.bindEq (Q:=fun (_:Rp)=>True) ?_ fun r _=>?_
 ·rw [lenI]
  by_cases h0:L.length=0
  ·rw [geI (by omega),cF]
   exact Ans.some trivial
  ·have hp:=pickN_lt (c:=place) (n:=L.length) (by omega)
   rw [ltI (by omega),cT]
   refine Ans.seq (lpick_eq hpl (by omega)) ?_
   refine Ans.seq (idxM_of hp.1 hp.2) ?_
   exact Ans.some trivial
 obtain ⟨bn,n1,n2⟩:=bent_ok (a:=a) (n:=e1) (s:=w) (by omega) b0 b2
 refine bind_of (lpick_eq hs (by omega)) ?_
 refine bind_of (agree_ok (by omega) (by omega) _ _ _) ?_
 refine bind_of (bif_yes rfl (agree_ok (by omega) (by omega) _ _ _)) ?_
 refine bind_of (bif_yes rfl n1) ?_
 refine bind_of (bif_yes rfl (lpick_eq hs (by omega))) ?_
 refine bind_of (bif_yes rfl (agree_ok n2 (by omega) _ _ _)) ?_
 refine bind_of (bif_yes rfl (lpick_eq hs (by omega))) ?_
 refine bind_of (bif_yes rfl (agree_ok (by omega) (by omega) _ _ _)) ?_
 refine bif_no rfl ?_
 have q0:∀ x:Int,eqM x x=true:=fun x=>eqI rfl
 have qs:∀ x:Bs,eqsM x x=true:=fun x=>eqsT rfl
 refine Ans.bindEq (Q:=fun (o:List Bs⊕Bool)=>∃ T,o=.inl T∧(∀ s∈T,s.length≤1000000)∧T.length≤17) ?_ fun o ho=>?_
 ·refine Ans.loop (fun k z=>∃ T:List Bs,z=((k:Int),T)∧k≤a.length∧T.length≤k∧∀ s∈T,s.length≤1000000) a.length ⟨[],rfl,by omega,by simp,fun s h=>by simp at h⟩ ?_
  rintro k z hk ⟨T,rfl,q1,q2,q3⟩
  dsimp only
  rw [lenI]
  by_cases hkl:k<a.length
  ·have hi:=idxM_lt hkl
   rw [ltI (by omega),cT]
   refine Ans.seq hi ?_
   generalize a[k]=y at hi
   have hy:=encR_len y
   have y1:m20 y=some (encR y):=wEnc_eq y
   have y2:m21 y=some (encR y):=rEnc_eq y
   refine Ans.seq y1 ?_
   refine Ans.seq hi ?_
   refine Ans.seq y2 ?_
   generalize encR y=e at hy
   rw [q0,qs]
   refine Ans.seq (x:=T++[e.1]) (appM_of (by simp;omega)) ?_
   rw [wrap_in (by omega) (by omega)]
   refine Ans.some ⟨by omega,_,rfl,by omega,by simp;omega,fun s hs=>?_⟩
   rcases List.mem_append.1 hs with q | q
   ·exact q3 s q
   ·rw [List.mem_singleton.1 q];omega
  ·rw [geI (by omega),cF]
   exact Ans.some ⟨T,rfl,q3,by omega⟩
 obtain ⟨T,rfl,hT,hTn⟩:=ho
 show Option.bind _ _=_
 generalize hod:((odd.1,odd.2.1,odd.2.2.1,odd.2.2.2.1,odd.2.2.2.2.1,odd.2.2.2.2.2.1,odd.2.2.2.2.2.2.1,u,v):Rp)=od
 have hod2:=encR_len od
 refine bind_of (show m20 od=some (encR od) from wEnc_eq od) ?_
 refine bind_of (show m21 od=some (encR od) from rEnc_eq od) ?_
 generalize encR od=eo at hod2
 refine bind_of (x:=T++[eo.1,w]) (appM_of (by simp;omega)) ?_
 have hT2:∀ s∈T++[eo.1,w],s.length≤1000000:=fun s hs=>by
  simp only [List.mem_append,List.mem_cons,List.not_mem_nil,or_false] at hs
  rcases hs with q | q | q
  ·exact hT s q
  ·rw [q];omega
  ·rw [q];omega
 have hT3:(T++[eo.1,w]).length≤19:=by simp;omega
 have hT4:0<(T++[eo.1,w]).length:=by simp
 generalize T++[eo.1,w]=T2 at hT2 hT3 hT4
 have hp:=pickN_lt (c:=place) (n:=T2.length) (by omega)
 refine bind_of (by rw [lenI];exact lpick_eq hpl (by omega)) ?_
 refine Ans.bindEq (Q:=fun (T3:List Bs)=>(∀ s∈T3,s.length≤1000000)∧T3.length≤20) ?_ fun T3 h3=>?_
 ·have hi:=idxM_of hp.1 hp.2
  have hck:chkM (pickN place T2.length) (lenM T2)=some ():=by rw [lenI];exact chkM_of hp.1 hp.2
  refine Ans.seq hck ?_
  refine Ans.seq hi ?_
  have hy:=hT2 _ (List.getElem_mem (l:=T2) (n:=(pickN place T2.length).toNat) (by omega))
  generalize T2[(pickN place T2.length).toNat]'(by omega)=y at hi hy
  rw [lenI]
  by_cases hy0:y.length=0
  ·rw [geI (by omega),cF]
   exact Ans.some ⟨hT2,by omega⟩
  ·rw [ltI (by omega),cT]
   have hq:=pickN_lt (c:=g2) (n:=y.length) (by omega)
   refine Ans.seq hck ?_
   refine Ans.seq hi ?_
   refine Ans.seq (by rw [lenI];exact lpick_eq f2 (by omega)) ?_
   refine Ans.seq hck ?_
   refine Ans.seq hi ?_
   obtain ⟨k,hk⟩:=Int.eq_ofNat_of_zero_le hq.1
   rw [hk]
   have hkl:k<y.length:=by omega
   refine Ans.seq (x:=y.take k) (by rw [sliceM_of (by omega) (by omega) (by omega)];simp) ?_
   have hb1:(strB [c]).length=1:=by unfold strB;simp
   generalize strB [c]=cb at hb1
   refine Ans.seq (catM_of (by rw [lT];omega)) ?_
   refine Ans.seq hck ?_
   refine Ans.seq hi ?_
   refine Ans.seq (x:=y.drop (k+1)) (by rw [wrap_in (by omega) (by omega),lenI,sliceM_of (by omega) (by omega) (by omega)];simp) ?_
   refine Ans.seq (catM_of (by rw [lA,lT,List.length_drop];omega)) ?_
   have hzl:(y.take k++cb++y.drop (k+1)).length≤1000000:=by rw [lA,lA,lT,List.length_drop];omega
   generalize y.take k++cb++y.drop (k+1)=z at hzl
   refine Ans.seq (x:=T2++[z]) (appM_of (by simp;omega)) ?_
   refine Ans.some ⟨fun s hs=>?_,by simp;omega⟩
   rcases List.mem_append.1 hs with q | q
   ·exact hT2 s q
   ·rw [List.mem_singleton.1 q];exact hzl
 obtain ⟨h3,h4⟩:=h3
 refine bind_of (x:=.inl ()) (loopM_fn (fun k=>(k:Int)) T3.length (fun k hk=>?_) (by rw [lenI,geI (by omega),cF])) ?_
 ·have hi:=idxM_lt hk
  have hck:chkM (k:Int) (lenM T3)=some ():=by rw [lenI];exact chkM_of (by omega) (by omega)
  obtain ⟨d,d1,d2⟩:=dec_same (h3 _ (List.getElem_mem hk))
  refine bif_yes (ltI (by rw [lenI];omega)) ?_
  refine bind_of hck ?_
  refine bind_of hi ?_
  refine bind_of d1 ?_
  refine bind_of hck ?_
  refine bind_of hi ?_
  refine bind_of d2 ?_
  rw [dT rfl,q0]
  refine bif_no rfl ?_
  rw [wrap_in (by omega) (by omega)];rfl
 show Option.bind _ _=_
 obtain ⟨z,z1,z2,z3⟩:=load_same (l:=T3) (by omega) h3
 refine bind_of z1 ?_
 refine bind_of z2 ?_
 rw [q0,q0,qs]
 refine bind_of (bif_yes rfl (same_self z3)) ?_
 rfl
end Go.Proofs.YtdnabfadigkjgaaGreatDoor
namespace Go.Proofs.YtdnabfadigkjgaaGreatDoor
open Go Go.Abs Go.PE
theorem mem_in {t:Ty} {l:List t.den} (h:InR (.list t) l):∀ x∈l,InR t x:=fun x hx=>by
 obtain ⟨i,hi,rfl⟩:=List.mem_iff_getElem.1 hx
 exact h.2 i _ (gE hi)
theorem law3:∀ (S:Cells) (w:World) (η:Eta) (vs:List Value) x,All2 (RM S w η) (rvs as3 x) vs→m3 x=some true :=
 law_of_ok fun x h=>law3_ok x (mem_in h.1) h.2.1 h.2.2.1 h.2.2.2.1.1 h.2.2.2.1.2.1 h.2.2.2.1.2.2 h.2.2.2.2.1.1 h.2.2.2.2.1.2.2 h.2.2.2.2.2.2.2.2.1 h.2.2.2.2.2.2.2.2.2.1
end Go.Proofs.YtdnabfadigkjgaaGreatDoor
