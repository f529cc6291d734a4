/-
 Texts of this proof, put together: BI, Fa, Fj, Fb, Cn, Fc, Fk, Fm, F, Bs, Fl, LawNetworkMatchesReference.
 No conditions.
-/
import Derived.Test.YtfekoiabjbdnfaaGreatZ6
import Derived.Test.YtfekoiabjbdnfaaGreatZ4
import Derived.Test.YtfekoiabjbdnfaaGreatZ5
set_option linter.all false
namespace Go.Proofs.YtfekoiabjbdnfaaGreat
open Go Go.Abs Go.PE
theorem m78_heads {a b:Int} {l l':List Int} (h:a≠b):m78 (a::l,b::l')=some (decide (a<b)):=by
 unfold m78
 rw [loopM_eq]
 dsimp only
 have e1:idxM (a::l) 0=some a:=idxM_lt (xs:=a::l) (i:=0) (by show 0<l.length+1;omega)
 have e2:idxM (b::l') 0=some b:=idxM_lt (xs:=b::l') (i:=0) (by show 0<l'.length+1;omega)
 rw [ltI (a:=0) (b:=lenM (a::l)) (by show (0:Int)<((l.length+1:Nat):Int);omega),ltI (a:=0) (b:=lenM (b::l')) (by show (0:Int)<((l'.length+1:Nat):Int);omega),andT,cT,e1,oB,e2,oB,neI h,notF,cT,oB,oB]
 rfl
def lstK (bs:List (Int×Int×Int)) (m k:Nat):List Int:=(k:Int)::chP bs (bs.getD k (0,0,0)).1.toNat m (bs.getD k (0,0,0)).2.1.toNat (-1-(bs.getD k (0,0,0)).2.2)
theorem best_loop {n:Nat} (hn:n≤16) {bs:List (Int×Int×Int)} (hl:bs.length≤60) (hb:bs.all (bnd (n:Int))=true) {m:Nat} (hm:m<n) :
  Ans (loopM
           (fun (s_1:Option (List Int)×Int) =>
            bif ltM s_1.2 (n:Int) then
             Option.bind
              (Option.bind (m77 (((n:Int),bs),row (n+1) (fun m=>rt n (fun _=>n) (wkT bs m)),s_1.2,s_1.2,((m+1:Nat):Int),(-1:Int)))
               fun (r_2:List Int×Bool) =>
               Option.bind
                (bif PE.andM r_2.2 (PE.notM (Option.isNone s_1.1)) then m78 (r_2.1,getL s_1.1)
                else some false)
                fun (r_3:Bool) =>
                bif PE.andM r_2.2 (PE.orM (Option.isNone s_1.1) r_3) then
                 Option.bind (neM r_2.1) fun (r:List Int)=>some (some r)
                else some s_1.1)
              fun (o:Option (List Int)) =>
              some (Sum.inl (o,IntKind.wrap .i64 (s_1.2+(1:Int))))
            else some (Sum.inr s_1.1))
           (none,(0:Int))) (fun o=>(o=none∧bs.findIdx? (cst bs m)=none)∨∃ k,bs.findIdx? (cst bs m)=some k∧o=some (lstK bs m k)):=by
 refine Ans.loop (fun i s=>s.2=(i:Int)∧((s.1=none∧∀ j (hj:j<bs.length),cst bs m bs[j]=true→¬ bs[j].1<(i:Int))∨∃ k,∃ hk:k<bs.length,s.1=some (lstK bs m k)∧cst bs m bs[k]=true∧bs[k].1<(i:Int)∧∀ j (hj:j<bs.length),j<k→cst bs m bs[j]=true→¬ bs[j].1<(i:Int))) n ⟨rfl,.inl ⟨rfl,fun j hj _ hlt=>?_⟩⟩ fun i s hi hs=>?_
 ·have:=of_decide_eq_true (List.all_eq_true.1 hb _ (List.getElem_mem hj))
  have h0:bs[j].1<0:=hlt
  omega
 ·obtain ⟨s1,s2⟩:=s
  obtain ⟨e,hinv⟩:=hs
  simp only at e hinv
  subst e
  dsimp only
  by_cases hil:i<n
  ·rw [ltI (by omega),cT,m77_eq hl hb hil (by omega) (by omega) hil (by omega) (by omega),oB]
   have hw1:IntKind.wrap .i64 ((i:Int)+1)=((i+1:Nat):Int):=by rw [wrap_in (by omega) (by omega)];rfl
   rw [hw1]
   have hstp:∀ c,c∈bs→(stp bs i m i (-1) c=true↔c.1=(i:Int)∧cst bs m c=true):=fun c hc=>by
    unfold stp cst
    rw [Bool.and_eq_true]
    constructor
    ·intro ⟨h1,h2⟩
     have h1:=of_decide_eq_true h1
     have h2:=of_decide_eq_true h2
     have t:c.1.toNat=i:=by omega
     rw [t]
     exact ⟨h1,dT (by omega)⟩
    ·intro ⟨h1,h2⟩
     have h2:=of_decide_eq_true h2
     have t:c.1.toNat=i:=by omega
     rw [t] at h2
     exact ⟨dT h1,dT (by omega)⟩
   by_cases hw:wkT bs (m+1) i i≤-1
   ·rw [if_pos hw]
    obtain ⟨c,hc,hcp⟩:=stp_ex hb (by omega) hil hil (by omega) hw
    cases hf:bs.findIdx? (stp bs i m i (-1)) with
    | none =>
     rw [List.findIdx?_eq_none_iff] at hf
     rw [hf c hc] at hcp
     cases hcp
    | some k =>
     obtain ⟨hk,hp2,hall⟩:=List.findIdx?_eq_some_iff_getElem.1 hf
     obtain ⟨k1,k2⟩:=(hstp _ (List.getElem_mem hk)).1 hp2
     have hkl:chP bs i (m+1) i (-1)=lstK bs m k:=by
      show (match bs.findIdx? (stp bs i m i (-1)) with | some k=>_ | none=>_)=_
      rw [hf]
      show (k:Int)::chP bs i m (bs.getD k (0,0,0)).2.1.toNat (-1-(bs.getD k (0,0,0)).2.2)=_
      unfold lstK
      rw [getD_of hk,k1]
      have t:((i:Int)).toNat=i:=by omega
      rw [t]
     rw [hkl]
     dsimp only
     have hne:Option.bind (neM (lstK bs m k)) (fun (r:List Int)=>some (some r))=some (some (lstK bs m k)):=rfl
     have hfirst:∀ j (hj:j<bs.length),j<k→cst bs m bs[j]=true→¬ bs[j].1=(i:Int):=fun j hj hjk hcj he=>hall j hjk ((hstp _ (List.getElem_mem hj)).2 ⟨he,hcj⟩)
     rcases hinv with ⟨rfl,hinv⟩ | ⟨b,hbk,rfl,g1,g2,g3⟩
     ·rw [show Option.isNone (none:Option (List Int))=true from rfl,notT,andT,cF,oB,orT,andT,cT,hne,oB]
      refine Ans.some ⟨hil,rfl,.inr ⟨k,hk,rfl,k2,by omega,fun j hj hjk hcj=>?_⟩⟩
      have h1:=hinv j hj hcj
      have h2:=hfirst j hj hjk hcj
      show ¬ bs[j].1<((i+1:Nat):Int)
      omega
     ·have hkb:k≠b:=fun e=>by subst e;omega
      rw [show Option.isNone (some (lstK bs m b))=false from rfl,notF,andT,cT]
      have h46:m78 (lstK bs m k,getL (some (lstK bs m b)))=some (decide ((k:Int)<(b:Int))):=m78_heads (by omega)
      rw [h46,oB,orF,andT]
      by_cases hlt:k<b
      ·rw [dT (show (k:Int)<(b:Int) by omega),cT,hne,oB]
       refine Ans.some ⟨hil,rfl,.inr ⟨k,hk,rfl,k2,by omega,fun j hj hjk hcj=>?_⟩⟩
       have h1:=g3 j hj (by omega) hcj
       have h2:=hfirst j hj hjk hcj
       show ¬ bs[j].1<((i+1:Nat):Int)
       omega
      ·rw [decide_eq_false (show ¬ (k:Int)<(b:Int) by omega),cF,oB]
       refine Ans.some ⟨hil,rfl,.inr ⟨b,hbk,rfl,g1,by omega,fun j hj hjk hcj=>?_⟩⟩
       have h1:=g3 j hj hjk hcj
       have h2:¬ bs[j].1=(i:Int):=hfirst j hj (by omega) hcj
       show ¬ bs[j].1<((i+1:Nat):Int)
       omega
   ·rw [if_neg hw]
    dsimp only
    rw [andF,cF,oB,andF,cF,oB]
    have hnone:∀ j (hj:j<bs.length),cst bs m bs[j]=true→¬ bs[j].1=(i:Int):=fun j hj hcj he=>by
     have hwk:=(cst_walk hb (by omega) (List.getElem_mem hj)).1 hcj
     obtain ⟨a,b,ha,hb',e1,e2,_,_⟩:=bnd_of (List.all_eq_true.1 hb _ (List.getElem_mem hj))
     have t1:bs[j].1.toNat=i:=by omega
     have t2:bs[j].2.1.toNat=b:=by omega
     rw [t1,t2] at hwk
     have hmem:((i:Int),(b:Int),bs[j].2.2)∈bs:=by rw [← e2,← he];exact List.getElem_mem hj
     have hw2:=WN.cons hmem (wk_walk hb (m:=m) (by omega) hb' hil (by omega))
     have:=(wk_le hb (m:=m+1) (by omega) hil hw2).1
     omega
    refine Ans.some ⟨hil,rfl,?_⟩
    rcases hinv with ⟨rfl,hinv⟩ | ⟨b,hbk,rfl,g1,g2,g3⟩
    ·refine .inl ⟨rfl,fun j hj hcj=>?_⟩
     have h1:=hinv j hj hcj
     have h2:=hnone j hj hcj
     show ¬ bs[j].1<((i+1:Nat):Int)
     omega
    ·refine .inr ⟨b,hbk,rfl,g1,by omega,fun j hj hjk hcj=>?_⟩
     have h1:=g3 j hj hjk hcj
     have h2:=hnone j hj hcj
     show ¬ bs[j].1<((i+1:Nat):Int)
     omega
  ·have ei:i=n:=by omega
   subst ei
   rw [geI (by omega),cF]
   refine Ans.some ?_
   have hlt:∀ j (hj:j<bs.length),bs[j].1<(i:Int):=fun j hj=>(of_decide_eq_true (List.all_eq_true.1 hb _ (List.getElem_mem hj))).2.1
   rcases hinv with ⟨rfl,hinv⟩ | ⟨b,hbk,rfl,g1,g2,g3⟩
   ·refine .inl ⟨rfl,?_⟩
    rw [List.findIdx?_eq_none_iff]
    intro c hc
    obtain ⟨j,hj,rfl⟩:=List.mem_iff_getElem.1 hc
    cases hcj:cst bs m bs[j] with
    | false=>rfl
    | true=>exact absurd (hlt j hj) (hinv j hj hcj)
   ·refine .inr ⟨b,List.findIdx?_eq_some_iff_getElem.2 ⟨hbk,g1,fun j hj hcj=>?_⟩,rfl⟩
    exact g3 j (by omega) hj hcj (hlt j (by omega))
theorem m52_eq (x:Sys):m52 x=some (cycR x):=by
 unfold m52 cycR
 rw [show (x.1,x.2)=x from rfl,m75_eq,oB]
 cases hs:sys x with
 | false=>rfl
 | true =>
  obtain ⟨hn,hb,he⟩:=sys_all hs
  have hl:=(sys_bnd hs).1.2.2
  have h41:=m76_eq hn hl hb
  rw [he] at h41
  rw [notT,cF]
  refine bind_of h41 ?_
  have hbest:=fun m (hm:m<x.1.toNat)=>best_loop hn hl hb hm
  rw [he] at hbest
  cases ho:ovS x with
  | true =>
   obtain ⟨c1,c2,c3⟩:=cycM_of hs ho
   obtain ⟨k0,hk0⟩:=Option.isSome_iff_exists.1 c2
   have hcy:cycL x.2=lstK x.2 (cycM x.2) k0:=by
    unfold cycL lstK
    rw [hk0]
   rw [hcy]
   generalize cycM x.2=m0 at *
   refine bind_of (loopM_fn (fun k=>((k+1:Nat):Int)) m0 (r:=Sum.inr (some (lstK x.2 m0 k0),true)) (fun k hk=>?_) ?_) rfl
   ·rw [leI (by omega),cT]
    have hno:=c3 k hk
    have hnone:x.2.findIdx? (cst x.2 k)=none:=by
     cases hq:x.2.findIdx? (cst x.2 k) with
     | none=>rfl
     | some z=>rw [hq] at hno;cases hno
    refine bind_of (x:=none) (Ans.is ((hbest k (by omega)).mono fun o ho=>?_)) ?_
    ·rcases ho with ⟨h,_⟩ | ⟨z,h,_⟩
     ·exact h
     ·rw [hnone] at h;cases h
    ·show some (Sum.inl (IntKind.wrap .i64 (((k+1:Nat):Int)+1)))=_
     rw [wrap_in (by omega) (by omega)]
     rfl
   ·rw [leI (by omega),cT]
    refine bind_of (x:=some (lstK x.2 m0 k0)) (Ans.is ((hbest m0 (by omega)).mono fun o ho=>?_)) rfl
    rcases ho with ⟨_,h⟩ | ⟨z,h,h2⟩
    ·rw [hk0] at h;cases h
    ·rw [hk0] at h
     have:z=k0:=(Option.some.inj h).symm
     rw [h2,this]
  | false =>
   refine bind_of (loopM_fn (fun k=>((k+1:Nat):Int)) x.1.toNat (r:=Sum.inl ()) (fun k hk=>?_) ?_) rfl
   ·rw [leI (by omega),cT]
    have hnone:x.2.findIdx? (cst x.2 k)=none:=by
     cases hq:x.2.findIdx? (cst x.2 k) with
     | none=>rfl
     | some z =>
      obtain ⟨hz,hw⟩:=of_cst hb (by omega) hq
      obtain ⟨a,b,ha,hb',e1,e2,_,_⟩:=bnd_of (List.all_eq_true.1 hb _ (List.getElem_mem hz))
      have t1:x.2[z].1.toNat=a:=by omega
      have t2:x.2[z].2.1.toNat=b:=by omega
      rw [t1,t2] at hw
      have hmem:((a:Int),(b:Int),x.2[z].2.2)∈x.2:=by rw [← e1,← e2];exact List.getElem_mem hz
      have hw2:=WN.cons hmem (wk_walk hb (m:=k) (by omega) hb' ha (by omega))
      have:=no_neg hs ho a _ _ ha hw2
      omega
    refine bind_of (x:=none) (Ans.is ((hbest k (by omega)).mono fun o ho=>?_)) ?_
    ·rcases ho with ⟨h,_⟩ | ⟨z,h,_⟩
     ·exact h
     ·rw [hnone] at h;cases h
    ·show some (Sum.inl (IntKind.wrap .i64 (((k+1:Nat):Int)+1)))=_
     rw [wrap_in (by omega) (by omega)]
     rfl
   ·rw [gtI (by omega),cF]
theorem all_list {α:Type} {xs:List α} (p:α→Bool) {body:Int→Option (Int⊕(Unit⊕Bool))}
  (hb:∀ k (hk:k<xs.length),body (k:Int)=some (bif p xs[k] then .inl ((k:Int)+1) else .inr (.inr false))) (he:body (xs.length:Int)=some (.inr (.inl ()))) :
  loopM body 0=some (bif xs.all p then .inl () else .inr false):=by
 obtain ⟨b,h1,h2⟩:=all_loop (n:=xs.length) (fun k=>(xs[k]?.map p).getD true) (body:=body) (fun k hk=>by rw [hb k hk,List.getElem?_eq_getElem hk];rfl) he
 have e:b=xs.all p:=by
  rw [Bool.eq_iff_iff,h2,List.all_eq_true]
  constructor
  ·intro h x hx
   obtain ⟨k,hk,rfl⟩:=List.mem_iff_getElem.1 hx
   have:=h k hk
   rw [List.getElem?_eq_getElem hk] at this;exact this
  ·intro h k hk
   rw [List.getElem?_eq_getElem hk]
   exact h _ (List.getElem_mem hk)
 rw [h1,e]
theorem m46_eq (a b c:Int):m46 (a,b,c)=some (inB a b c):=rfl
theorem m25_eq (c:Net):m25 c=some (nval c):=by
 obtain ⟨n,fs,ss⟩:=c
 unfold m25 nval
 dsimp only
 rw [m46_eq,oB]
 by_cases h:inB n 0 8=true∧fs.length≤8∧ss.length≤20
 ·obtain ⟨h1,h2,h3⟩:=h
  have hn:=inB_iff.1 h1
  have e0:IntKind.wrap .i64 (n-1)=n-1:=wrap_in (by omega) (by omega)
  rw [h1,geI (a:=8) (by show (fs.length:Int)≤8;omega),geI (a:=20) (by show (ss.length:Int)≤20;omega),dT h2,dT h3]
  show Option.bind _ _=_
  refine bind_of (all_list (xs:=fs) (fixB n) (fun k hk=>?_) (by rw [geI (by show (fs.length:Int)≤(fs.length:Int);omega),cF])) ?_
  ·rw [ltI (by show (k:Int)<(fs.length:Int);omega),cT,idxM_lt hk,oB,wrap_in (n:=(k:Int)+1) (by omega) (by omega)]
   simp only [m46_eq,e0]
   unfold fixB nearB
   generalize fs[k]=f
   show _=some (bif inB f.1 0 (n-1)&&(inB f.2.1 (-10000) 10000&&inB f.2.2.1 (-10000) 10000)&&inB f.2.2.2 0 1000 then _ else _)
   cases inB f.1 0 (n-1)<;>cases inB f.2.1 (-10000) 10000<;>cases inB f.2.2.1 (-10000) 10000<;>cases inB f.2.2.2 0 1000<;>rfl
  ·cases fs.all (fixB n) with
   | false=>rfl
   | true =>
    show Option.bind _ _=_
    refine bind_of (all_list (xs:=ss) (sgtB n) (fun k hk=>?_) (by rw [geI (by show (ss.length:Int)≤(ss.length:Int);omega),cF])) ?_
    ·rw [ltI (by show (k:Int)<(ss.length:Int);omega),cT,idxM_lt hk,oB,wrap_in (n:=(k:Int)+1) (by omega) (by omega)]
     simp only [m46_eq,e0]
     unfold sgtB nearB
     generalize ss[k]=f
     show _=some (bif inB f.1 0 (n-1)&&inB f.2.1 0 (n-1)&&!decide (f.1=f.2.1)&&(inB f.2.2.1 (-10000) 10000&&inB f.2.2.2.1 (-10000) 10000)&&inB f.2.2.2.2 0 1000 then _ else _)
     have ee:eqM f.1 f.2.1=decide (f.1=f.2.1):=rfl
     rw [ee]
     cases inB f.1 0 (n-1)<;>cases inB f.2.1 0 (n-1)<;>cases decide (f.1=f.2.1)<;>cases inB f.2.2.1 (-10000) 10000<;>cases inB f.2.2.2.1 (-10000) 10000<;>cases inB f.2.2.2.2 0 1000<;>rfl
    ·cases ss.all (sgtB n)<;>rfl
 ·have e1:PE.orM (PE.orM (PE.notM (inB n 0 8)) (ltM 8 (lenM fs))) (ltM 20 (lenM ss))=true:=by
   by_cases h1:inB n 0 8=true
   ·by_cases h2:fs.length≤8
    ·have h3:¬ ss.length≤20:=fun h3=>h ⟨h1,h2,h3⟩
     rw [ltI (show (20:Int)<lenM ss by show (20:Int)<(ss.length:Int);omega)]
     cases PE.orM (PE.notM (inB n 0 8)) (ltM 8 (lenM fs))<;>rfl
    ·rw [ltI (show (8:Int)<lenM fs by show (8:Int)<(fs.length:Int);omega)]
     cases PE.notM (inB n 0 8)<;>cases ltM 20 (lenM ss)<;>rfl
   ·rw [Bool.eq_false_iff.2 h1]
    cases ltM 8 (lenM fs)<;>cases ltM 20 (lenM ss)<;>rfl
  have e2:(inB n 0 8&&decide (fs.length≤8)&&decide (ss.length≤20))=false:=by
   rw [Bool.eq_false_iff]
   intro hh
   simp only [Bool.and_eq_true,decide_eq_true_eq] at hh
   exact h ⟨hh.1.1,hh.1.2,hh.2⟩
  rw [e1,cT,e2,Bool.false_and]
def plc (l:List (Int×Int)) (i:Nat):Int×Int:=l.getD i (0,0)
def alw (c:Net) (l:List (Int×Int)):Bool:=nval c&&decide ((l.length:Int)=c.1)&&l.all (fun p=>nearB p.1 p.2 1000000)&&(c.2.1.all (kpF (plc l))&&c.2.2.all (kpS (plc l)))
theorem row_of (l:List (Int×Int)):row l.length (plc l)=l:=by
 apply List.ext_getElem?
 intro i
 by_cases h:i<l.length
 ·rw [row_get h,List.getElem?_eq_getElem h]
  unfold plc
  rw [List.getD_eq_getElem?_getD,List.getElem?_eq_getElem h];rfl
 ·rw [List.getElem?_eq_none (by rw [row_length];omega),List.getElem?_eq_none (by omega)]
theorem near_bd {x y:Int} (h:nearB x y 1000000=true):(-1000000≤x∧x≤1000000)∧-1000000≤y∧y≤1000000:=by
 unfold nearB at h
 rw [Bool.and_eq_true,inB_iff,inB_iff] at h
 exact h
theorem m15_eq (c:Net) (l:List (Int×Int)):m15 (c,l)=some (alw c l):=by
 by_cases hv:nval c=true
 ·have hc:=nval_iff.1 hv
  by_cases hl:(l.length:Int)=c.1
  ·by_cases hn:l.all (fun p=>nearB p.1 p.2 1000000)=true
   ·have e:l=row c.1.toNat (plc l):=by rw [show c.1.toNat=l.length by omega,row_of]
    have:=m15_row hc (g:=plc l) fun i hi=>by
     refine near_bd (List.all_eq_true.1 hn _ ?_)
     unfold plc
     rw [List.getD_eq_getElem?_getD,List.getElem?_eq_getElem (by omega)]
     exact List.getElem_mem (by omega)
    rw [← e] at this
    rw [this]
    unfold alw
    rw [hv,dT hl,hn];rfl
   ·have e:alw c l=false:=by unfold alw;rw [Bool.eq_false_iff.2 hn];simp
    rw [e]
    unfold m15
    dsimp only
    refine bind_of (m17_eq c) ?_
    rw [hv,eqI hl,notT,orF,notF,cT]
    have L1:=any_loop (xs:=l) (fun p=>!nearB p.1 p.2 1000000) (body:=fun (s:Int) =>
         bif ltM s (lenM l) then
          Option.bind (idxM l s) fun (r_1:Int×Int) =>
           Option.bind (m37 (r_1.1,r_1.2)) fun (r:Bool) =>
            bif r then some (Sum.inr (Sum.inr s))
            else some (Sum.inl (IntKind.wrap .i64 (s+(1:Int))))
         else some (Sum.inr (Sum.inl ()))) (fun k hk=>by
     have h8:=hc.n8
     rw [ltI (by show (k:Int)<(l.length:Int);omega),cT,idxM_lt hk,oB]
     unfold m37
     dsimp only
     rw [m38_eq (by omega) (by omega),wrap_in (by omega) (by omega)]
     cases nearB l[k].1 l[k].2 1000000<;>rfl) (by rw [geI (Int.le_refl _),cF])
    have ea:l.any (fun p=>!nearB p.1 p.2 1000000)=true:=by
     cases hb:l.any (fun p=>!nearB p.1 p.2 1000000) with
     | true=>rfl
     | false=>exact absurd (by rw [← not_any l (fun p=>nearB p.1 p.2 1000000),hb];rfl) hn
    rw [ea] at L1
    obtain ⟨ov,g1,g2⟩:=Option.bind_eq_some_iff.1 L1
    refine bind_of (x:=true) (bind_of g1 g2) ?_
    rfl
  ·have e:alw c l=false:=by unfold alw;rw [decide_eq_false hl];simp
   rw [e]
   unfold m15
   dsimp only
   refine bind_of (m17_eq c) ?_
   rw [hv,neI (show lenM l≠c.1 from hl)]
   rfl
 ·have e:alw c l=false:=by unfold alw;rw [Bool.eq_false_iff.2 hv];simp
  rw [e]
  unfold m15
  dsimp only
  refine bind_of (m17_eq c) ?_
  rw [Bool.eq_false_iff.2 hv]
  rfl
theorem m26_eq (c:Net) (l:List (Int×Int)):m26 (c,l)=some (alw c l):=by
 unfold m26
 dsimp only
 refine bind_of (m25_eq c) ?_
 by_cases hv:nval c=true
 ·have hc:=nval_iff.1 hv
  by_cases hl:(l.length:Int)=c.1
  ·have h8:=hc.n8
   unfold alw
   rw [hv,dT hl,eqI (show lenM l=c.1 from hl),notT,orF,cF]
   refine bind_of (all_list (xs:=l) (fun p=>nearB p.1 p.2 1000000) (fun k hk=>?_) (by rw [geI (by show (l.length:Int)≤(l.length:Int);omega),cF])) ?_
   ·rw [ltI (by show (k:Int)<(l.length:Int);omega),cT,idxM_lt hk,oB,wrap_in (n:=(k:Int)+1) (by omega) (by omega)]
    simp only [m46_eq]
    unfold nearB
    generalize l[k]=f
    show _=some (bif inB f.1 (-1000000) 1000000&&inB f.2 (-1000000) 1000000 then _ else _)
    cases inB f.1 (-1000000) 1000000
    ·rfl
    ·rw [oB,notT,notF,cT,oB]
     cases inB f.2 (-1000000) 1000000<;>rfl
   ·cases hn:l.all fun p=>nearB p.1 p.2 1000000 with
    | false=>rfl
    | true =>
     show Option.bind _ _=_
     have hpl:∀ i (hi:i<l.length),plc l i=l[i]:=fun i hi=>by
      unfold plc
      rw [List.getD_eq_getElem?_getD,List.getElem?_eq_getElem hi];rfl
     have hbd:∀ i (hi:i<l.length),(-1000000≤l[i].1∧l[i].1≤1000000)∧-1000000≤l[i].2∧l[i].2≤1000000:=fun i hi=>near_bd (List.all_eq_true.1 hn _ (List.getElem_mem hi))
     refine bind_of (all_list (xs:=c.2.1) (kpF (plc l)) (fun k hk=>?_) (by rw [geI (by show (c.2.1.length:Int)≤(c.2.1.length:Int);omega),cF])) ?_
     ·have hfl:=hc.fl
      rw [ltI (by show (k:Int)<(c.2.1.length:Int);omega),cT,idxM_lt hk,oB,wrap_in (n:=(k:Int)+1) (by omega) (by omega)]
      have hf:=hc.fx _ (List.getElem_mem hk)
      generalize c.2.1[k]=f at hf
      obtain ⟨f0,f1,f2,f3,f4,f5,f6,f7⟩:=hf
      have hi:f.1.toNat<l.length:=by omega
      have ei:idxM l f.1=some l[f.1.toNat]:=idxM_of f0 (by omega)
      have hb:=hbd _ hi
      unfold kpF
      rw [hpl _ hi]
      simp only [ei,m46_eq]
      generalize l[f.1.toNat]=p at hb
      obtain ⟨⟨b1,b2⟩,b3,b4⟩:=hb
      rw [oB,show IntKind.wrap .i64 (PE.negM f.2.2.2)=-f.2.2.2 from wrap_in (n:=-f.2.2.2) (by omega) (by omega),wrap_in (n:=p.1-f.2.1) (by omega) (by omega),oB]
      cases inB (p.1-f.2.1) (-f.2.2.2) f.2.2.2
      ·rfl
      ·rw [notT,notF,cT,oB,cT,wrap_in (n:=p.2-f.2.2.1) (by omega) (by omega),oB]
       cases inB (p.2-f.2.2.1) (-f.2.2.2) f.2.2.2<;>rfl
     ·cases c.2.1.all (kpF (plc l)) with
      | false=>rfl
      | true =>
       show Option.bind _ _=_
       refine bind_of (all_list (xs:=c.2.2) (kpS (plc l)) (fun k hk=>?_) (by rw [geI (by show (c.2.2.length:Int)≤(c.2.2.length:Int);omega),cF])) ?_
       ·have hfl:=hc.sl
        rw [ltI (by show (k:Int)<(c.2.2.length:Int);omega),cT,idxM_lt hk,oB,wrap_in (n:=(k:Int)+1) (by omega) (by omega)]
        have hf:=hc.sg _ (List.getElem_mem hk)
        generalize c.2.2[k]=f at hf
        obtain ⟨f0,f1,f2,f3,_,f4,f5,f6,f7,f8,f9⟩:=hf
        have hi:f.1.toNat<l.length:=by omega
        have hj:f.2.1.toNat<l.length:=by omega
        have ei:idxM l f.1=some l[f.1.toNat]:=idxM_of f0 (by omega)
        have ej:idxM l f.2.1=some l[f.2.1.toNat]:=idxM_of f2 (by omega)
        have hb:=hbd _ hi
        have hb2:=hbd _ hj
        unfold kpS
        rw [hpl _ hi,hpl _ hj]
        simp only [ei,ej,m46_eq]
        generalize l[f.1.toNat]=p at hb
        generalize l[f.2.1.toNat]=q at hb2
        obtain ⟨⟨b1,b2⟩,b3,b4⟩:=hb
        obtain ⟨⟨d1,d2⟩,d3,d4⟩:=hb2
        rw [oB,oB,show IntKind.wrap .i64 (PE.negM f.2.2.2.2)=-f.2.2.2.2 from wrap_in (n:=-f.2.2.2.2) (by omega) (by omega),wrap_in (n:=q.1-p.1) (by omega) (by omega),wrap_in (n:=q.1-p.1-f.2.2.1) (by omega) (by omega),oB]
        cases inB (q.1-p.1-f.2.2.1) (-f.2.2.2.2) f.2.2.2.2
        ·rfl
        ·rw [notT,notF,cT,oB,cT,oB,cT,wrap_in (n:=q.2-p.2) (by omega) (by omega),wrap_in (n:=q.2-p.2-f.2.2.2.1) (by omega) (by omega),oB]
         cases inB (q.2-p.2-f.2.2.2.1) (-f.2.2.2.2) f.2.2.2.2<;>rfl
       ·cases c.2.2.all (kpS (plc l))<;>rfl
  ·have e:alw c l=false:=by unfold alw;rw [decide_eq_false hl];simp
   rw [e,hv,neI (show lenM l≠c.1 from hl)]
   rfl
 ·have e:alw c l=false:=by unfold alw;rw [Bool.eq_false_iff.2 hv];simp
  rw [e,Bool.eq_false_iff.2 hv]
  rfl
end Go.Proofs.YtfekoiabjbdnfaaGreat
namespace Go.Proofs.YtfekoiabjbdnfaaGreat
open Go Go.Abs Go.PE Go.Det
theorem dets_ok {c:Net} (h:NOK c) (hr:regN c):0<del (nmA c) c.1.toNat∧big (del (nmA c) c.1.toNat)∧m49 (rt c.1.toNat (fun _=>c.1.toNat) (nmA c))=some (del (nmA c) c.1.toNat) ∧
  ∀ i,i<c.1.toNat→(big (xs8 c i)∧m49 (rt c.1.toNat (fun _=>c.1.toNat) (ins (nmA c) i 8))=some (xs8 c i))∧big (xs9 c i)∧m49 (rt c.1.toNat (fun _=>c.1.toNat) (ins (nmA c) i 9))=some (xs9 c i):=by
 have h0:=h.n0
 have h8:=h.n8
 have hL:=nok_lap h
 obtain ⟨b,lb,z,d⟩:=run_ok8 hL c.1.toNat (Nat.le_refl _) hr
 obtain ⟨s1,s2⟩:=sizes_end hL z
 have ent:=fun {i j:Nat} (hi:i<c.1.toNat) (hj:j<10)=>lap_ent hL hi hj
 have col:∀ i k,i<c.1.toNat→(k=8∨k=9)→big (stt (nmA c) c.1.toNat c.1.toNat i k)∧m49 (rt c.1.toNat (fun _=>c.1.toNat) (ins (nmA c) i k))=some (stt (nmA c) c.1.toNat c.1.toNat i k):=fun i k hi hk=>by
  have e1:=s2 i k hi (by omega) (by omega)
  have e2:=ab_le (stt (nmA c) c.1.toNat c.1.toNat i k)
  have e3:stt (nmA c) c.1.toNat c.1.toNat i k=det c.1.toNat (ins (nmA c) i k):=b.cramer (by omega) hi (by omega) (by omega)
  refine ⟨by unfold big;omega,?_⟩
  rw [m49_any (by omega) (fun x j hx hj=>?_) (by omega) (by omega),← e3]
  show -480000≤nmA c x (if j=i then k else j)∧nmA c x (if j=i then k else j)≤480000
  refine ent hx ?_
  split<;>omega
 refine ⟨d,by unfold big;omega,?_,fun i hi=>⟨col i 8 hi (.inl rfl),col i 9 hi (.inr rfl)⟩⟩
 have e:del (nmA c) c.1.toNat=det c.1.toNat (nmA c):=rfl
 rw [m49_any (A:=nmA c) (by omega) (fun x j hx hj=>ent hx (by omega)) (by omega) (by omega)]
 rfl
theorem crs_loop {c:Net} (h:NOK c) (hr:regN c) (d:Int):loopM (fun (s:List (List Int)
 × Int×Int×List Int×List Int)=>bif ltM s.2.1 c.1 then ((loopM (fun (s_1:Int×List (List Int))=>bif ltM s_1.1 (lenM s.1) then (idxM s.1 s_1.1).bind
 fun r_6=>(appM (nat_lit 8) [] r_6).bind fun r_7=>(chkM s_1.1 (lenM (row c.1.toNat fun i=>nmA c i 8))).bind fun r_8=>(idxM (row c.1.toNat fun i=>nmA c i 8) s_1.1).bind fun r_9=>(chkM s.2.1 (lenM
 r_7)).bind fun r_10=>(setM r_7 s.2.1 fun (x:Int)=>some r_9).bind fun r_11=>(appM (nat_lit 24) s_1.2 [r_11]).bind fun r=>some (Sum.inl (IntKind.wrap
 IntKind.i64 (s_1.1+1),r)) else some (Sum.inr s_1.2)) (0,[])).bind fun o=>some o).bind fun (ov:List (List Int))=>(m49 ov).bind fun r_6=>(appM
 (nat_lit 8) s.2.2.2.1 [r_6]).bind fun r_7=>((loopM (fun (s_1:Int×List (List Int))=>bif ltM s_1.1 (lenM s.1) then (idxM s.1 s_1.1).bind fun r_8 =>
 (appM (nat_lit 8) [] r_8).bind fun r_9=>(chkM s_1.1 (lenM (row c.1.toNat fun i=>nmA c i 9))).bind fun r_10=>(idxM (row c.1.toNat fun i=>nmA c i 9) s_1.1).bind fun r_11=>(chkM s.2.1 (lenM r_9)).bind fun
 r_12=>(setM r_9 s.2.1 fun (x:Int)=>some r_11).bind fun r_13=>(appM (nat_lit 24) s_1.2 [r_13]).bind fun r=>some (Sum.inl (IntKind.wrap .i64 (s_1.1 +
 1),r)) else some (Sum.inr s_1.2)) (0,[])).bind fun o=>some o).bind fun (ov_1:List (List Int))=>(m49 ov_1).bind fun r_8=>(appM (nat_lit 8) s.2.2.2.2
 [r_8]).bind fun r=>some (Sum.inl (s.1,IntKind.wrap .i64 (s.2.1+1),s.2.2.1,r_7,r)) else some (Sum.inr (s.2.2.1,s.2.2.2.1,s.2.2.2.2))) (rt c.1.toNat (fun _=>c.1.toNat) (nmA c),0,d,
 [],[])=some (d,row c.1.toNat (xs8 c),row c.1.toNat (xs9 c)):=by
 have h0:=h.n0
 have h8:=h.n8
 obtain ⟨_,_,_,hcol⟩:=dets_ok h hr
 generalize hn:c.1.toNat=n at *
 have hN:c.1=(n:Int):=by omega
 rw [hN]
 refine loopM_fn (fun k=>(rt n (fun _=>n) (nmA c),(k:Int),d,row k (xs8 c),row k (xs9 c))) n (fun k hk=>?_) ?_
 ·obtain ⟨⟨_,c8⟩,_,c9⟩:=hcol k hk
  dsimp only
  rw [ltI (by omega),cT]
  refine bind_of (bind_of (ins_loop (by omega) hk) rfl) (bind_of c8 ?_)
  rw [appM_of (by rw [row_length];simp;omega),oB]
  refine bind_of (bind_of (ins_loop (by omega) hk) rfl) (bind_of c9 ?_)
  rw [appM_of (by rw [row_length];simp;omega),oB,wrap_in (by omega) (by omega),row_succ,row_succ]
  rfl
 ·dsimp only
  rw [geI (Int.le_refl _),cF]
theorem gcd_rows {c:Net} {n:Nat} {X Y:Nat→Int} {d:Int} (hn:n≤8) (hN:c.1=(n:Int)) (hd:0<d) (hdb:big d) (hX:∀ i,i<n→big (X i)) (hY:∀ i,i<n→big (Y i)):loopM (fun (s:Int×Int)=>bif ltM s.2 c.1 then (chkM s.2 (lenM (row n X))).bind fun r_6=>(idxM (row n X) s.2).bind fun r_7=>(m51
 (s.1,r_7)).bind fun r_8=>(chkM s.2 (lenM (row n Y))).bind fun r_9=>(idxM (row n Y) s.2).bind fun r_10=>(m51 (r_8,r_10)).bind fun r=>some (Sum.inl (r,
 IntKind.wrap .i64 (s.2+1))) else some (Sum.inr s.1)) (d,0)=some (gc d X Y n):=by
 rw [hN]
 refine loopM_fn (fun k=>(gc d X Y k,(k:Int))) n (fun k hk=>?_) ?_
 ·obtain ⟨g1,g2⟩:=gc_pos hd X Y k
  have b1:big (gc d X Y k):=by unfold big at *;omega
  obtain ⟨g3,g4⟩:=gI_pos g1 (X k)
  have b2:big (gI (gc d X Y k) (X k)):=by unfold big at *;omega
  dsimp only
  rw [ltI (by omega),cT,chkM_of (by omega) (by rw [lenR];omega),oB,row_idx hk,oB,m51_eq b1 (hX k hk),oB,chkM_of (by omega) (by rw [lenR];omega),oB,row_idx hk,oB,m51_eq b2 (hY k hk),oB,wrap_in (by omega) (by omega)]
  rfl
 ·dsimp only
  rw [geI (Int.le_refl _),cF]
theorem m23_eq (c:Net):m23 c=m12 c:=by
 cases hv:nval c with
 | false =>
  rw [m12_bad hv]
  unfold m23
  refine bind_of (m25_eq c) ?_
  rw [hv]
  rfl
 | true =>
  have h:=nval_iff.1 hv
  have h0:=h.n0
  have h8:=h.n8
  have hN:c.1=((c.1.toNat:Nat):Int):=by omega
  obtain ⟨r,t1,t2⟩:=tied_loop h
  unfold m23
  refine bind_of (m25_eq c) ?_
  rw [hv,notT,cF]
  refine bind_of (m48_eq h) ?_
  refine bind_of (x:=row c.1.toNat fun _=>[]) (by rw [mkM_of (by omega) (by omega) (by show c.1*24≤140737488355328;omega),replicate_row]) ?_
  refine bind_of (x:=row c.1.toNat fun _=>0) (by rw [mkM_of (by omega) (by omega) (by show c.1*8≤140737488355328;omega),replicate_row]) ?_
  refine bind_of (x:=row c.1.toNat fun _=>0) (by rw [mkM_of (by omega) (by omega) (by show c.1*8≤140737488355328;omega),replicate_row]) ?_
  refine bind_of t1 ?_
  rcases t2 with ⟨hall,rfl⟩ | ⟨⟨i,hi,hti⟩,t,rfl⟩
  ·have hr:=reg_of_tied h (nok_lap h) hall
   obtain ⟨d0,db,hd,hcol⟩:=dets_ok h hr
   rcases m12_eq h (nok_lap h) with ⟨_,_,hm⟩ | ⟨hno,_⟩
   ·rw [hm,Sum.elim_inl]
    refine bind_of (mk_fix h) ?_
    refine bind_of (mk_sgt h) ?_
    refine bind_of hd ?_
    refine bind_of (crs_loop h hr _) ?_
    refine bind_of (gcd_rows (by omega) hN d0 db (fun i hi=>(hcol i hi).1.1) fun i hi=>(hcol i hi).2.1) ?_
    obtain ⟨g1,g2⟩:=gc_pos d0 (xs8 c) (xs9 c) c.1.toNat
    have hq:divM .i64 (del (nmA c) c.1.toNat) (gcN c)=some ((del (nmA c) c.1.toNat).tdiv (gcN c)):=by
     have hg0:gcN c≠0:=by unfold gcN;omega
     have:=Int.natAbs_tdiv_le_natAbs (del (nmA c) c.1.toNat) (gcN c)
     unfold big at db
     rw [divM_pos hg0,wrap_in (by omega) (by omega)]
    refine bind_of hq ?_
    have Q:=qB_ok (n:=c.1.toNat) (X:=xs8 c) (Y:=xs9 c) (g:=gcN c) (by omega) g1 (fun i hi=>(hcol i hi).1.1) (fun i hi=>(hcol i hi).2.1)
    rw [← hN] at Q
    exact bind_of Q rfl
   ·exact absurd hr hno
  ·rcases m12_eq h (nok_lap h) with ⟨hr,_,_⟩ | ⟨_,hm⟩
   ·have:=tied_of_reg h (nok_lap h) hr i hi
    rw [hti] at this
    cases this
   ·rw [hm,Sum.elim_inr]
end Go.Proofs.YtfekoiabjbdnfaaGreat
namespace Go.Proofs.YtfekoiabjbdnfaaGreat
open Go Go.Abs Go.PE
theorem m47_eq {c:Net} (h:NOK c) {i j:Nat} (hi:i≤c.1.toNat) (hj:j≤c.1.toNat):m47 (c,(i:Int),(j:Int))=some ((apM c i j).1,decide ((apM c i j).2=0)):=by
 unfold m47
 dsimp only
 refine bind_of (m53_X h) ?_
 have hX:=m54_bad (sysX h)
 have hY:=m54_bad (sysY h)
 have gX:=m54_good (sysX h)
 have gY:=m54_good (sysY h)
 unfold apM okN
 cases ox:ovS (axX c) with
 | true =>
  refine bind_of ((m69_eq _).trans (hX ox)) ?_
  refine bind_of (m53_Y h) ?_
  cases oy:ovS (axY c) with
  | true =>
   refine bind_of ((m69_eq _).trans (hY oy)) ?_
   rfl
  | false =>
   refine bind_of ((m69_eq _).trans (gY oy)) ?_
   rfl
 | false =>
  refine bind_of ((m69_eq _).trans (gX ox)) ?_
  refine bind_of (m53_Y h) ?_
  cases oy:ovS (axY c) with
  | true =>
   refine bind_of ((m69_eq _).trans (hY oy)) ?_
   rfl
  | false =>
   refine bind_of ((m69_eq _).trans (gY oy)) ?_
   have nX:=axX_n h
   have nY:=axY_n h
   have ho:okN c=true:=by unfold okN;rw [ox,oy];rfl
   have aX:=axisX h ho
   have aY:=axisY h ho
   dsimp only
   rw [eqI rfl,notT,orF,notF,cT,rt_idx (by omega),oB,cT,row_idx (by omega),oB,orF]
   by_cases hc:fX' c i j=1152921504606846976
   ·rw [eqI hc,cT,if_neg]
    ·rfl
    ·rintro ⟨_,h2⟩
     unfold cnB at h2
     exact of_decide_eq_true h2 hc
   ·have hcn:=(aX.cn i j hi hj).1 hc
    have b1:-100000000000000000≤fwS (axX c) j i∧fwS (axX c) j i≤100000000000000000:=aX.bd j i hj hi ((aX.cn j i hj hi).2 hcn.symm)
    have b2:-100000000000000000≤fwS (axY c) j i∧fwS (axY c) j i≤100000000000000000:=aY.bd j i hj hi ((aY.cn j i hj hi).2 hcn.symm)
    have p1:j<(axX c).1.toNat:=by omega
    have p2:i<(axX c).1.toNat:=by omega
    have p3:j<(axY c).1.toNat:=by omega
    have p4:i<(axY c).1.toNat:=by omega
    rw [neI hc,cF]
    simp only [rt_idx p1,rt_idx p2,rt_idx p3,rt_idx p4,row_idx p1,row_idx p2,row_idx p3,row_idx p4,oB]
    rw [if_pos ⟨rfl,by unfold cnB;exact dT hc⟩]
    unfold PE.negM boxR
    rw [wrap_in (n:=-fwS (axX c) j i) (by omega) (by omega),wrap_in (n:=-fwS (axY c) j i) (by omega) (by omega)]
    rfl
theorem apM_two (c:Net) (i j:Nat):(bif PE.notM (decide ((apM c i j).2=0)) then some (((0:Int),(0:Int),(0:Int),(0:Int)),(100:Int)) else some (((apM c i j).1.1,(apM c i j).1.2.1,(apM c i j).1.2.2.1,(apM c i j).1.2.2.2),0))=some (apM c i j):=by
 unfold apM
 split<;>rfl
theorem m22_eq (c:Net) (p q:Int):m22 (c,p,q)=some (aptR c p q):=by
 unfold m22 aptR
 dsimp only
 refine bind_of (m25_eq c) ?_
 cases hv:nval c with
 | false =>
  rw [if_neg (by rintro ⟨h,_⟩;cases h)]
  rfl
 | true =>
  have h:=nval_iff.1 hv
  have h0:=h.n0
  have h8:=h.n8
  have e0:IntKind.wrap .i64 (c.1-1)=c.1-1:=wrap_in (by omega) (by omega)
  rw [e0,notT,notF,cT,m46_eq,oB]
  cases hp:inB p 0 (c.1-1) with
  | false =>
   rw [if_neg (by rintro ⟨_,h,_⟩;cases h)]
   rfl
  | true =>
   rw [notT,orF,notF,cT,m46_eq,oB]
   cases hq:inB q 0 (c.1-1) with
   | false =>
    rw [if_neg (by rintro ⟨_,_,h⟩;cases h)]
    rfl
   | true =>
    rw [notT,orF,cF,if_pos ⟨rfl,rfl,rfl⟩]
    have h1:=inB_iff.1 hp
    have h2:=inB_iff.1 hq
    obtain ⟨i,rfl⟩:=Int.eq_ofNat_of_zero_le h1.1
    obtain ⟨j,rfl⟩:=Int.eq_ofNat_of_zero_le h2.1
    exact bind_of (m47_eq h (by omega) (by omega)) (apM_two c i j)
theorem m21_eq (c:Net) (p:Int):m21 (c,p)=some (boxQ c p):=by
 unfold m21 boxQ
 dsimp only
 refine bind_of (m25_eq c) ?_
 cases hv:nval c with
 | false =>
  rw [if_neg (by rintro ⟨h,_⟩;cases h)]
  rfl
 | true =>
  have h:=nval_iff.1 hv
  have h0:=h.n0
  have h8:=h.n8
  have e0:IntKind.wrap .i64 (c.1-1)=c.1-1:=wrap_in (by omega) (by omega)
  rw [e0,notT,notF,cT,m46_eq,oB]
  cases hp:inB p 0 (c.1-1) with
  | false =>
   rw [if_neg (by rintro ⟨_,h⟩;cases h)]
   rfl
  | true =>
   rw [notT,orF,cF,if_pos ⟨rfl,rfl⟩]
   have h1:=inB_iff.1 hp
   obtain ⟨i,rfl⟩:=Int.eq_ofNat_of_zero_le h1.1
   have e:c.1=((c.1.toNat:Nat):Int):=by omega
   refine bind_of (x:=((apM c c.1.toNat i).1,decide ((apM c c.1.toNat i).2=0))) ?_ (apM_two c c.1.toNat i)
   have:=m47_eq h (i:=c.1.toNat) (j:=i) (Nat.le_refl _) (by omega)
   rw [← e] at this
   exact this
def blR (c:Net):List Int×Bool:=if nval c=true then (blL c,!okN c) else ([],false)
theorem best_none {c:Net} (ho:okN c=true):best c=[]:=by
 obtain ⟨h1,h2⟩:=okN_iff.1 ho
 unfold best
 rw [if_neg (by rw [h2];rintro ⟨h,_⟩;cases h),if_neg (by rw [h1];decide)]
theorem blL_none {c:Net} (ho:okN c=true):blL c=[]:=by
 cases h:blL c with
 | nil=>rfl
 | cons a l =>
  obtain ⟨e,he,_⟩:=of_blL (c:=c) (i:=a) (by rw [h];exact List.mem_cons_self ..)
  rw [best_none ho] at he
  cases he
theorem lt_same:∀ {a b:List Int},List.Pairwise (·<·) a→List.Pairwise (·<·) b→(∀ x,x∈a↔x∈b)→a=b
 | [],[],_,_,_=>rfl
 | [],y::r,_,_,h=>by have:=(h y).2 (List.mem_cons_self ..);cases this
 | x::r,[],_,_,h=>by have:=(h x).1 (List.mem_cons_self ..);cases this
 | x::r,y::s,ha,hb,h=>by
  obtain ⟨h1,h2⟩:=List.pairwise_cons.1 ha
  obtain ⟨h3,h4⟩:=List.pairwise_cons.1 hb
  have e:x=y:=by
   rcases List.mem_cons.1 ((h x).1 (List.mem_cons_self ..)) with e | e
   ·exact e
   ·rcases List.mem_cons.1 ((h y).2 (List.mem_cons_self ..)) with e2 | e2
    ·exact e2.symm
    ·have:=h1 _ e2
     have:=h3 _ e
     omega
  subst e
  rw [lt_same h2 h4 fun z=>?_]
  constructor
  ·intro hz
   rcases List.mem_cons.1 ((h z).1 (List.mem_cons_of_mem _ hz)) with e | e
   ·subst e;have:=h1 _ hz;omega
   ·exact e
  ·intro hz
   rcases List.mem_cons.1 ((h z).2 (List.mem_cons_of_mem _ hz)) with e | e
   ·subst e;have:=h3 _ hz;omega
   ·exact e
theorem cyc_at {c:Net} (h:NOK c) {d1:Fix→Int} {d2:Sgt→Int} (hd:dOk d1 d2 c) (hov:ovS (c.1+1,bds (obs d1 d2 c))=true) :
  1≤(cycL (bds (obs d1 d2 c))).length∧(∀ e∈cycL (bds (obs d1 d2 c)),0≤half e∧half e<(c.2.1.length:Int)+c.2.2.length) ∧
  ∀ l:List Int,inl c l→NOK (onl c l)→(∀ e∈cycL (bds (obs d1 d2 c)),half e∈l)→ovS (c.1+1,bds (obs d1 d2 (onl c l)))=true:=by
 have hs1:sys (c.1+1,bds (obs d1 d2 c))=true:=ax_sys h hd
 have hfl:=h.fl
 have hsl:=h.sl
 have hbl:=bds_len (obs d1 d2 c)
 rw [obs_len] at hbl
 obtain ⟨_,v,S,p1,p2,p3,p4,p5,p6,p7,p8⟩:=cyc_st hs1 hov
 dsimp only at p1 p2 p3 p4 p6 p7 p8
 have rng:∀ e∈cycL (bds (obs d1 d2 c)),0≤e∧e<((bds (obs d1 d2 c)).length:Int):=fun e he=>by
  obtain ⟨k,hk,rfl⟩:=List.mem_iff_getElem.1 he
  obtain ⟨g1,g2,_⟩:=p7 k hk
  exact ⟨g1,g2⟩
 refine ⟨p1,fun e he=>?_,fun l hl hn hall=>?_⟩
 ·obtain ⟨g1,g2⟩:=rng e he
  obtain ⟨j,rfl⟩:=Int.eq_ofNat_of_zero_le g1
  rw [half_nat (by omega)]
  omega
 ·have hs2:sys (c.1+1,bds (obs d1 d2 (onl c l)))=true:=ax_sys hn (onl_d hl hd)
  have hst:∀ k,k<(cycL (bds (obs d1 d2 c))).length→((v k:Int),(v (k+1):Int),S (k+1)-S k)∈bds (obs d1 d2 (onl c l)):=fun k hk=>by
   obtain ⟨g1,g2,g3⟩:=p7 k hk
   have hm:=hall _ (List.getElem_mem hk)
   generalize (cycL (bds (obs d1 d2 c)))[k]=e at *
   obtain ⟨j,rfl⟩:=Int.eq_ofNat_of_zero_le g1
   rw [half_nat (by omega)] at hm
   rw [Int.toNat_natCast] at g3
   rw [← g3]
   have ht:=bds_getD (obs d1 d2 c) j (by rw [obs_len];omega) (0,0,0) (0,0,0,0)
   rw [obAt_getD (by omega)] at ht
   exact List.mem_flatMap.2 ⟨_,obs_onl.2 ⟨_,hm,rfl⟩,ht⟩
  have w:=seg hst 0 (cycL (bds (obs d1 d2 c))).length (by omega)
  rw [Nat.zero_add,p4,p5,Int.sub_zero] at w
  exact ov_of_walk hs2 (i:=v 0) p3 p6 w.wk
theorem best_is {c:Net} (h:okN c=false):(ovS (axX c)=true∧best c=cycL (axX c).2)∨(ovS (axY c)=true∧best c=cycL (axY c).2):=by
 unfold best
 split
 ·rename_i h1;exact .inr ⟨h1.1,rfl⟩
 ·rename_i h1
  cases hx:ovS (axX c) with
  | true=>rw [if_pos rfl];exact .inl ⟨rfl,rfl⟩
  | false =>
   cases hy:ovS (axY c) with
   | true=>exact absurd ⟨hy,.inl hx⟩ h1
   | false=>exact absurd (okN_iff.2 ⟨hx,hy⟩) (by rw [h];decide)
theorem bl_is {c:Net} (h:NOK c) (ho:okN c=false) (h6:c.2.1.length≤8):inl c (blL c)∧1≤(blL c).length∧NOK (onl c (blL c))∧okN (onl c (blL c))=false:=by
 have key:∀ {d1:Fix→Int} {d2:Sgt→Int},dOk d1 d2 c→ovS (c.1+1,bds (obs d1 d2 c))=true→best c=cycL (bds (obs d1 d2 c))→inl c (blL c)∧1≤(blL c).length∧NOK (onl c (blL c))∧ovS (c.1+1,bds (obs d1 d2 (onl c (blL c))))=true:=by
  intro d1 d2 hd hov hb
  obtain ⟨g1,g2,g3⟩:=cyc_at h hd hov
  rw [← hb] at g1 g2 g3
  have hin:inl c (blL c):=fun i hi=>by
   obtain ⟨e,he,rfl⟩:=of_blL hi
   exact g2 e he
  have hpos:1≤(blL c).length:=by
   have:=blL_of (c:=c) (List.getElem_mem (l:=best c) (n:=0) (by omega))
   exact List.length_pos_of_mem this
  have hF:(onF c (blL c)).length≤8:=by
   unfold onF
   rw [List.length_map]
   have:=rise_len ((blL c).filter (isF c)) 0 (c.2.1.length:Int) ((blL_lt c).filter _) fun i hi=>by
    obtain ⟨m1,m2⟩:=List.mem_filter.1 hi
    exact ⟨(hin i m1).1,of_decide_eq_true m2⟩
   omega
  have hS:(onS c (blL c)).length≤20:=by
   have a1:=onS_len c (blL c)
   have a2:=blL_len c
   have a3:=best_len h
   omega
  have hn:=onl_nok h hin hF hS
  exact ⟨hin,hpos,hn,g3 _ hin hn fun e he=>blL_of he⟩
 rcases best_is ho with ⟨h1,h2⟩ | ⟨h1,h2⟩
 ·obtain ⟨a,b,d,e⟩:=key h.dx h1 h2
  refine ⟨a,b,d,?_⟩
  unfold okN
  have e:ovS (axX (onl c (blL c)))=true:=e
  rw [e];rfl
 ·obtain ⟨a,b,d,e⟩:=key h.dy h1 h2
  refine ⟨a,b,d,?_⟩
  unfold okN
  have e:ovS (axY (onl c (blL c)))=true:=e
  rw [e,Bool.not_true,Bool.and_false]
def hasH (o:List Int) (n:Int):Bool:=o.any fun e=>decide (half e=n)
theorem has_loop (o:List Int) (hl:o.length≤100) (n:Int) {body:Bool×Int→Option ((Bool×Int)⊕Bool)}
  (hb:∀ (b:Bool) k (hk:k<o.length),body (b,(k:Int))=some (.inl (b||decide (half o[k]=n),(k:Int)+1))) (he:∀ b,body (b,(o.length:Int))=some (.inr b)) :
  loopM body (false,0)=some (hasH o n):=by
 obtain ⟨r,h1,h2⟩:=loopM_from (body:=body) (fun k s=>s=(hasH (o.take k) n,(k:Int))) (fun r=>r=hasH o n) o.length (s:=(false,0)) rfl fun k s hk hs=>by
  subst hs
  by_cases hlt:k<o.length
  ·refine .inl ⟨_,hlt,hb _ k hlt,?_⟩
   rw [List.take_succ_eq_append_getElem hlt]
   unfold hasH
   rw [List.any_append]
   simp
  ·have e:k=o.length:=by omega
   subst e
   refine .inr ⟨_,he _,?_⟩
   rw [List.take_length]
 rw [h1,h2]
def nms (o:List Int) (N:Nat):List Int:=((List.range N).map fun (n:Nat)=>(n:Int)).filter (hasH o)
theorem nms_succ (o:List Int) (N:Nat):nms o (N+1)=nms o N++(if hasH o N then [(N:Int)] else []):=by
 unfold nms
 rw [List.range_succ,List.map_append,List.filter_append]
 congr 1
 show List.filter (hasH o) [(N:Int)]=_
 rw [List.filter_cons]
 cases hasH o (N:Int)<;>rfl
theorem nms_len (o:List Int) (N:Nat):(nms o N).length≤N:=by
 unfold nms
 refine Nat.le_trans (List.length_filter_le _ _) ?_
 simp
theorem nms_lt (o:List Int) (N:Nat):List.Pairwise (·<·) (nms o N):=by
 unfold nms
 refine List.Pairwise.filter _ ?_
 rw [List.pairwise_map]
 exact List.Pairwise.imp (fun h=>by omega) (List.pairwise_lt_range (n:=N))
theorem nms_mem {o:List Int} {N:Nat} {x:Int}:x∈nms o N↔0≤x∧x<N∧∃ e∈o,half e=x:=by
 unfold nms
 rw [List.mem_filter,List.mem_map]
 constructor
 ·rintro ⟨⟨n,hn,rfl⟩,h2⟩
  unfold hasH at h2
  obtain ⟨e,he,h3⟩:=List.any_eq_true.1 h2
  have:=List.mem_range.1 hn
  exact ⟨by omega,by omega,e,he,of_decide_eq_true h3⟩
 ·rintro ⟨h0,h1,e,he,h2⟩
  refine ⟨⟨x.toNat,List.mem_range.2 (by omega),by omega⟩,?_⟩
  unfold hasH
  exact List.any_eq_true.2 ⟨e,he,dT h2⟩
theorem nms_best {c:Net} (h:NOK c) (ho:okN c=false):nms (best c) (c.2.1.length+c.2.2.length)=blL c:=by
 have hin:=(bl_is h ho h.fl).1
 refine lt_same (nms_lt _ _) (blL_lt c) fun x=>?_
 rw [nms_mem]
 constructor
 ·rintro ⟨_,_,e,he,rfl⟩;exact blL_of he
 ·intro hx
  have:=hin x hx
  obtain ⟨e,he,h2⟩:=of_blL hx
  exact ⟨this.1,by omega,e,he,h2⟩
theorem m24_loop {c:Net} (h:NOK c) (o:List Int) (hl:o.length≤100):loopM (fun (s:Int×List Int)=>bif ltM s.1 (IntKind.wrap .i64 (lenM c.2.1+lenM c.2.2)) then Option.bind (Option.bind (loopM (fun (s_1:Bool×Int)=>bif ltM s_1.2 (lenM o) then Option.bind (bif
   PE.notM s_1.1 then idxM o s_1.2 else some 0) fun r_5=>Option.bind (bif PE.notM s_1.1 then divM .i64 r_5 2 else some 0) fun r=>some (Sum.inl (PE.orM
   s_1.1 (eqM r s.1),IntKind.wrap .i64 (s_1.2+1))) else some (Sum.inr s_1.1)) (false,0)) fun o_1=>bif o_1 then Option.bind (appM (nat_lit 8) s.2 [s.1]) fun r
   => some r else some s.2) fun o=>some (Sum.inl (IntKind.wrap .i64 (s.1+1),o)) else some (Sum.inr s.2)) (0,[])=some (nms o (c.2.1.length+c.2.2.length)):=by
 have hf:=h.fl
 have hs:=h.sl
 have eN:IntKind.wrap .i64 (lenM c.2.1+lenM c.2.2)=((c.2.1.length+c.2.2.length:Nat):Int):=by
  rw [wrap_in (by show _≤(c.2.1.length:Int)+(c.2.2.length:Int);omega) (by show (c.2.1.length:Int)+(c.2.2.length:Int)≤_;omega)]
  show (c.2.1.length:Int)+(c.2.2.length:Int)=_
  omega
 rw [eN]
 generalize hN:c.2.1.length+c.2.2.length=N
 have hN28:N≤28:=by omega
 refine count_loop (g:=fun k=>nms o k) N (fun k hk=>?_) ?_
 ·dsimp only
  rw [ltI (by omega),cT,has_loop o hl (k:Int) (fun b j hj=>?_) (fun b=>?_),oB]
  ·rw [nms_succ]
   cases hh:hasH o (k:Int) with
   | true =>
    have:=nms_len o k
    rw [cT,appM_of (by simp;omega),oB,oB,wrap_in (by omega) (by omega)];rfl
   | false=>rw [cF,oB,wrap_in (by omega) (by omega)];simp
  ·dsimp only
   rw [ltI (by show (j:Int)<(o.length:Int);omega),cT,wrap_in (n:=(j:Int)+1) (by omega) (by omega)]
   cases b with
   | true=>rfl
   | false =>
    rw [notF,cT,idxM_lt hj,oB,cT,divM_pos (by omega),oB];rfl
  ·dsimp only
   rw [geI (Int.le_refl _),cF]
 ·dsimp only
  rw [geI (Int.le_refl _),cF]
theorem cyc_pairX {c:Net} (h:NOK c):cycR (axX c)=(if ovS (axX c)=true then (cycL (axX c).2,true) else ([],false)):=by
 unfold cycR
 rw [sysX h]
 cases ovS (axX c)<;>rfl
theorem cyc_pairY {c:Net} (h:NOK c):cycR (axY c)=(if ovS (axY c)=true then (cycL (axY c).2,true) else ([],false)):=by
 unfold cycR
 rw [sysY h]
 cases ovS (axY c)<;>rfl
theorem m24_eq (c:Net):m24 c=some (blR c):=by
 unfold m24 blR
 dsimp only
 refine bind_of (m25_eq c) ?_
 cases hv:nval c with
 | false =>
  rw [if_neg (by decide)]
  rfl
 | true =>
  have h:=nval_iff.1 hv
  rw [notT,cF,if_pos rfl]
  refine bind_of (m53_X h) ?_
  refine bind_of (m52_eq _) ?_
  refine bind_of (m53_Y h) ?_
  refine bind_of (m52_eq _) ?_
  have eX:cycR ((axX c).1,(axX c).2)=_:=cyc_pairX h
  have eY:cycR ((axY c).1,(axY c).2)=_:=cyc_pairY h
  rw [eX,eY]
  have hok:okN c=(!ovS (axX c)&&!ovS (axY c)):=rfl
  cases ox:ovS (axX c) with
  | false =>
   cases oy:ovS (axY c) with
   | false =>
    have ho:okN c=true:=by rw [hok,ox,oy];rfl
    rw [ho,blL_none ho]
    rfl
   | true =>
    have ho:okN c=false:=by rw [hok,ox,oy];rfl
    have hb:best c=cycL (axY c).2:=by unfold best;rw [if_pos ⟨oy,.inl ox⟩]
    have hl:=best_len h
    rw [ho,← nms_best h ho,← hb]
    simp only [if_true,Bool.false_eq_true,if_false]
    rw [notF,notT,show PE.andM true false=false from rfl,cF,show ∀ b,PE.orM true b=true from fun b=>rfl,cT,oB]
    exact bind_of (m24_loop h (best c) (by omega)) rfl
  | true =>
   have ho:okN c=false:=by rw [hok,ox];rfl
   have hl:=best_len h
   rw [ho,← nms_best h ho]
   cases oy:ovS (axY c) with
   | false =>
    have hb:best c=cycL (axX c).2:=by unfold best;rw [if_neg (by rw [oy];rintro ⟨h,_⟩;cases h),if_pos ox]
    rw [← hb]
    simp only [if_true,Bool.false_eq_true,if_false]
    rw [notT,notF,show PE.andM false true=false from rfl,cF,show ∀ b,PE.orM false (PE.andM false b)=false from fun b=>rfl,cF,oB]
    exact bind_of (m24_loop h (best c) (by omega)) rfl
   | true =>
    simp only [if_true]
    rw [notT,show PE.andM false false=false from rfl,cF]
    by_cases hlt:(cycL (axY c).2).length<(cycL (axX c).2).length
    ·have hb:best c=cycL (axY c).2:=by unfold best;rw [if_pos ⟨oy,.inr hlt⟩]
     rw [ltI (show lenM (cycL (axY c).2)<lenM (cycL (axX c).2) by show ((cycL (axY c).2).length:Int)<((cycL (axX c).2).length:Int);omega),show PE.orM false (PE.andM true true)=true from rfl,cT,oB,← hb]
     exact bind_of (m24_loop h (best c) (by omega)) rfl
    ·have hb:best c=cycL (axX c).2:=by unfold best;rw [if_neg (fun hh=>hh.2.elim (fun h=>by rw [ox] at h;cases h) hlt),if_pos ox]
     rw [geI (show lenM (cycL (axX c).2)≤lenM (cycL (axY c).2) by show ((cycL (axX c).2).length:Int)≤((cycL (axY c).2).length:Int);omega),show PE.orM false (PE.andM true false)=false from rfl,cF,oB,← hb]
     exact bind_of (m24_loop h (best c) (by omega)) rfl
end Go.Proofs.YtfekoiabjbdnfaaGreat
namespace Go.Proofs.YtfekoiabjbdnfaaGreat
open Go Go.Abs Go.PE Go.Det
theorem m13_all (c:Net):m13 c=some (blR c):=by
 unfold blR
 cases hv:nval c with
 | false =>
  rw [if_neg (by decide)]
  exact m13_bad fun h=>by rw [nval_iff.2 h] at hv;cases hv
 | true =>
  rw [if_pos rfl]
  exact m13_eq (nval_iff.1 hv)
theorem blR_len (c:Net):(blR c).1.length≤16:=by
 unfold blR
 cases hv:nval c with
 | false=>rw [if_neg (by decide)];exact Nat.zero_le _
 | true =>
  rw [if_pos rfl]
  exact Nat.le_trans (blL_len c) (best_len (nval_iff.1 hv))
theorem m16_self {l:List Int} (h:l.length≤16):m16 (l,l)=some true:=by
 unfold m16
 refine bind_of (m41_eq (show l.length≤4611686018427387904 by omega)) ?_
 rw [dT rfl]
theorem m12_all (c:Net):∃ v,m12 c=some v∧v.1.1.length≤16∧v.1.2.1.length≤16:=by
 cases hv:nval c with
 | false=>exact ⟨_,m12_bad hv,Nat.zero_le _,Nat.zero_le _⟩
 | true =>
  have h:=nval_iff.1 hv
  have h0:=h.n0
  have h8:=h.n8
  rcases m12_eq h (nok_lap h) with ⟨_,_,hm⟩ | ⟨_,hm⟩
  ·refine ⟨_,hm,?_,?_⟩
   ·show (row _ _).length≤16;rw [row_length];omega
   ·show (row _ _).length≤16;rw [row_length];omega
  ·exact ⟨_,hm,Nat.zero_le _,Nat.zero_le _⟩
theorem m14_self {a b:List Int} (d:Int) (h1:a.length≤16) (h2:b.length≤16):m14 ((a,b,d),a,b,d)=some true:=by
 unfold m14
 refine bind_of (m16_self h1) ?_
 rw [cT,m16_self h2,oB,eqI rfl]
 rfl
theorem eqM_self (z:Int):eqM z z=true:=eqI rfl
theorem eqbM_self (b:Bool):eqbM b b=true:=by cases b<;>rfl
theorem m8_ok (c:Net) (l:List (Int×Int)) (p q:Int):m8 (c,l,p,q)=some true:=by
 obtain ⟨v,hv,v1,v2⟩:=m12_all c
 unfold m8
 refine bind_of (m10_eq c p) (bind_of (m21_eq c p) (bind_of (m11_eq c p q) (bind_of (m22_eq c p q) (bind_of hv (bind_of ((m23_eq c).trans hv) (bind_of (m13_all c) (bind_of (m24_eq c) (bind_of (m17_eq c) (bind_of (m25_eq c) ?_)))))))))
 have T:PE.andM true true=true:=rfl
 rw [eqbM_self,cT,cT]
 refine bind_of (m15_eq c l) (bind_of (m26_eq c l) ?_)
 simp only [eqM_self,eqbM_self,T,cT]
 refine bind_of (m14_self v.1.2.2 v1 v2) ?_
 rw [T,T,cT]
 refine bind_of (m16_self (blR_len c)) ?_
 rfl
theorem set_tot {α:Type} {xs:List α} {i:Int} (h0:0≤i) (h:i<xs.length) (f:α→α):∃ r,setM xs i (fun x=>some (f x))=some r:=by
 obtain ⟨k,rfl⟩:=Int.eq_ofNat_of_zero_le h0
 unfold setM
 rw [idxM_lt (by omega)]
 exact ⟨_,rfl⟩
theorem slice_tot {α:Type} (xs:List α) {k:Int} (hk:0≤k):∃ r,sliceM xs 0 (min (lenM xs) k)=some r:=by
 have:(0:Int)≤lenM xs:=by show (0:Int)≤(xs.length:Int);omega
 refine ⟨_,sliceM_of (by omega) (by omega) (by show min (xs.length:Int) k≤_;omega)⟩
theorem m9_tot {c:Net} (h:NOK c) {a b d:Int} (ha:i64 a) (hd:i64 d):∃ c',m9 (c,a,b,d)=some c':=by
 have hf:=h.fl
 have hs:=h.sl
 unfold m9
 dsimp only
 rw [appM_of (by simp;omega),oB,List.nil_append,appM_of (by simp;omega),oB,List.nil_append,m18_eq ha (by omega),oB]
 generalize pk a 10=t
 have bb:∀ {α:Type} {o:Option α} {β:Type} {f:α→Option β},(∃ x,o=some x)→(∀ x,∃ y,f x=some y)→∃ y,o.bind f=some y:=fun h1 h2=>by
  obtain ⟨x,rfl⟩:=h1
  exact h2 x
 have sx:∀ {α:Type} {xs:List α} {i:Int} {f:α→α},0≤i→i<xs.length→∃ r,((setM xs i fun x=>some (f x)).bind fun r=>some r)=some r:=fun h0 h1=>bb (set_tot h0 h1 _) fun x=>⟨_,rfl⟩
 cases e1:PE.andM (ltM t 4) (ltM 0 (lenM c.2.1)) with
 | true =>
  have hp:0<c.2.1.length:=by
   rcases Nat.eq_zero_or_pos c.2.1.length with h0 | h0
   ·rw [List.length_eq_zero_iff.1 h0] at e1
    cases hx:ltM t 4<;>rw [hx] at e1<;>cases e1
   ·exact h0
  have hi1:=pk_lo (c:=d) (n:=(c.2.1.length:Int)) (by omega)
  have hi2:=pk_hi (c:=d) (n:=(c.2.1.length:Int)) (by omega)
  rw [cT,show lenM c.2.1=(c.2.1.length:Int) from rfl,m18_eq hd (by omega),oB,chkM_of (by omega) (by omega),oB]
  refine bb ?_ fun x=>⟨_,rfl⟩
  cases eqM t 0 with
  | true=>exact sx (by omega) (by omega)
  | false =>
   rw [cF]
   cases eqM t 1 with
   | true=>exact sx (by omega) (by omega)
   | false =>
    rw [cF]
    cases eqM t 2 with
    | true=>exact sx (by omega) (by omega)
    | false=>exact sx (by omega) (by omega)
 | false =>
  rw [cF]
  cases e2:PE.andM (ltM t 9) (ltM 0 (lenM c.2.2)) with
  | true =>
   have hp:0<c.2.2.length:=by
    rcases Nat.eq_zero_or_pos c.2.2.length with h0 | h0
    ·rw [List.length_eq_zero_iff.1 h0] at e2
     cases hx:ltM t 9<;>rw [hx] at e2<;>cases e2
    ·exact h0
   have hi1:=pk_lo (c:=d) (n:=(c.2.2.length:Int)) (by omega)
   have hi2:=pk_hi (c:=d) (n:=(c.2.2.length:Int)) (by omega)
   rw [cT,show lenM c.2.2=(c.2.2.length:Int) from rfl,m18_eq hd (by omega),oB,chkM_of (by omega) (by omega),oB]
   refine bb ?_ fun x=>⟨_,rfl⟩
   cases eqM t 4 with
   | true=>exact sx (by omega) (by omega)
   | false =>
    rw [cF]
    cases eqM t 5 with
    | true=>exact sx (by omega) (by omega)
    | false =>
     rw [cF]
     cases eqM t 6 with
     | true=>exact sx (by omega) (by omega)
     | false =>
      rw [cF]
      cases eqM t 7 with
      | true=>exact sx (by omega) (by omega)
      | false=>exact sx (by omega) (by omega)
  | false=>exact ⟨_,rfl⟩
def cS:Int×List (Int×Int×Int×Int)×List (Int×Int×Int×Int×Int):=(3,[(0,0,0,2)],[(0,1,100,0,3),(1,2,0,50,1),(0,2,104,48,2)])
theorem regS:regN cS:=fun k hk=>by
 have hk:k<3:=hk
 rcases (show k=0∨k=1∨k=2 by omega) with rfl | rfl | rfl<;>decide +kernel
theorem lstS:lstN cS=([0,304,308],[0,-2,146],3):=by decide +kernel
theorem m12S:m12 cS=some (([0,304,308],[0,-2,146],3),0):=by
 have h:NOK cS:=nval_iff.1 (by decide)
 rcases m12_eq h (nok_lap h) with ⟨_,_,e⟩ | ⟨h2,_⟩
 ·rw [e,lstS]
 ·exact absurd regS h2
def m12F (x:Int×List (Int×Int×Int×Int)×List (Int×Int×Int×Int×Int)):Option ((List Int×List Int×Int)×Int):=if x.1=3 then if x.2.1=[(0,0,0,2)] then if x.2.2=[(0,1,100,0,3),(1,2,0,50,1),(0,2,104,48,2)] then some (([0,304,308],[0,-2,146],3),0) else none else none else none
theorem le12 (x):Le (m12F x) (m12 x):=by
 obtain ⟨a,b,c⟩:=x
 unfold Le m12F
 intro r hr
 dsimp only at hr
 split at hr
 ·rename_i e1
  split at hr
  ·rename_i e2
   split at hr
   ·rename_i e3
    rw [e1,e2,e3]
    exact m12S.trans hr
   ·cases hr
  ·cases hr
 ·cases hr
end Go.Proofs.YtfekoiabjbdnfaaGreat
namespace Go.Proofs.YtfekoiabjbdnfaaGreat
open Go Go.Abs Go.PE Go.Proofs
open Go.IntKind (wrap)
set_option maxRecDepth 100000
set_option maxHeartbeats 0
noncomputable section
def m17F:(Int×(List (Int×Int×Int×Int))×List (Int×Int×Int×Int×Int))→Option (Bool) :=
 fun x=>(m27 (x.1,0,8)).bind fun r=>bif PE.orM (PE.orM (PE.notM r) (ltM 8 (lenM x.2.1))) (ltM 20 (lenM x.2.2)) then some false else ((loopF (fun (s:Int)
 => bif ltM s (lenM x.2.1) then (idxM x.2.1 s).bind fun r_1=>(m27 (r_1.1,0,wrap .i64 (x.1-1))).bind fun r_2=>(bif PE.notM (PE.notM r_2) then m38
 (r_1.2.1,r_1.2.2.1,10000) else some false).bind fun r_3=>(bif PE.notM (PE.orM (PE.notM r_2) (PE.notM r_3)) then m27 (r_1.2.2.2,0,1000) else some
 false).bind fun r=>bif PE.orM (PE.orM (PE.notM r_2) (PE.notM r_3)) (PE.notM r) then some (Sum.inr (Sum.inr s)) else some (Sum.inl (wrap .i64 (s +
 1))) else some (Sum.inr (Sum.inl ()))) 0).bind fun o=>Sum.elim (fun (t:Unit)=>some (-1)) (fun (t:Int)=>some t) o).bind fun (ov:Int)=>(bif
 PE.notM (leM 0 ov) then ((loopF (fun (s:Int)=>bif ltM s (lenM x.2.2) then (idxM x.2.2 s).bind fun r_1=>(m27 (r_1.1,0,wrap .i64 (x.1-1))).bind
 fun r_2=>(bif PE.notM (PE.notM r_2) then m27 (r_1.2.1,0,wrap .i64 (x.1-1)) else some false).bind fun r_3=>(bif PE.notM (PE.orM (PE.orM (PE.notM
 r_2) (PE.notM r_3)) (eqM r_1.1 r_1.2.1)) then m38 (r_1.2.2.1,r_1.2.2.2.1,10000) else some false).bind fun r_4=>(bif PE.notM (PE.orM (PE.orM (PE.orM
 (PE.notM r_2) (PE.notM r_3)) (eqM r_1.1 r_1.2.1)) (PE.notM r_4)) then m27 (r_1.2.2.2.2,0,1000) else some false).bind fun r=>bif PE.orM (PE.orM (PE.orM
 (PE.orM (PE.notM r_2) (PE.notM r_3)) (eqM r_1.1 r_1.2.1)) (PE.notM r_4)) (PE.notM r) then some (Sum.inr (Sum.inr s)) else some (Sum.inl (wrap .i64 (s +
 1))) else some (Sum.inr (Sum.inl ()))) 0).bind fun o=>Sum.elim (fun (t:Unit)=>some (-1)) (fun (t:Int)=>some t) o).bind fun (ov:Int)=>some (leM 0
 ov) else some false).bind fun (ov_1:Bool)=>some (PE.andM (PE.notM (leM 0 ov)) (PE.notM ov_1))
theorem le17 (x):Le (m17F x) (m17 x):=by
 unfold m17F m17
 repeat' first | with_reducible exact Le.refl _ | intro _ | apply Le.bind | apply Le.cond | apply Le.nil | apply Le.loop | apply Le.elim
def m32F:(Int×(List (Int×Int×Int×Int))×List (Int×Int×Int×Int×Int))→Option ((Int×List (Int×Int×Int))×Int×List (Int×Int×Int)) :=
 fun x=>(loopF (fun (s:Int×Int×Int×List (Int×Int×Int)×List (Int×Int×Int))=>bif ltM s.1 (lenM x.2.1) then (idxM x.2.1 s.1).bind fun r =>
 (m56 (r.2.1,r.2.2.1)).bind fun r_1=>(appM (nat_lit 24) s.2.2.2.1 [(x.1,r.1,wrap .i64 (r_1+r.2.2.2)),(r.1,x.1,wrap .i64 (r.2.2.2 -
 r_1))]).bind fun r_2=>(m57 (r.2.1,r.2.2.1)).bind fun r_3=>(appM (nat_lit 24) s.2.2.2.2 [(x.1,r.1,wrap .i64 (r_3+r.2.2.2)),(r.1,x.1,wrap
 IntKind.i64 (r.2.2.2-r_3))]).bind fun r=>some (Sum.inl (wrap .i64 (s.1+1),s.2.1,s.2.2.1,r_2,r)) else some (Sum.inr (s.2.1,s.2.2.1,
 s.2.2.2.1,s.2.2.2.2))) (0,wrap .i64 (x.1+1),wrap .i64 (x.1+1),[],[])).bind fun o=>(loopF (fun (s:Int×Int×Int×List (Int×Int
 × Int)×List (Int×Int×Int))=>bif ltM s.1 (lenM x.2.2) then (idxM x.2.2 s.1).bind fun r=>(m56 (r.2.2.1,r.2.2.2.1)).bind fun r_1=>(appM (nat_lit 24)
 s.2.2.2.1 [(r.1,r.2.1,wrap .i64 (r_1+r.2.2.2.2)),(r.2.1,r.1,wrap .i64 (r.2.2.2.2-r_1))]).bind fun r_2=>(m57 (r.2.2.1,
 r.2.2.2.1)).bind fun r_3=>(appM (nat_lit 24) s.2.2.2.2 [(r.1,r.2.1,wrap .i64 (r_3+r.2.2.2.2)),(r.2.1,r.1,wrap .i64 (r.2.2.2.2 -
 r_3))]).bind fun r=>some (Sum.inl (wrap .i64 (s.1+1),s.2.1,s.2.2.1,r_2,r)) else some (Sum.inr (s.2.1,s.2.2.1,s.2.2.2.1,s.2.2.2.2))) (0,o.1,
 o.2.1,o.2.2.1,o.2.2.2)).bind fun o=>some ((o.1,o.2.2.1),o.2.1,o.2.2.2)
theorem le32 (x):Le (m32F x) (m32 x):=by
 unfold m32F m32
 repeat' first | with_reducible exact Le.refl _ | intro _ | apply Le.bind | apply Le.cond | apply Le.nil | apply Le.loop | apply Le.elim
def m58F:(Int×List (Int×Int×Int))→Option (Bool) :=
 fun x=>(m79 (x.1,0,16)).bind fun r=>(bif PE.andM r (leM (lenM x.2) 60) then ((loopF (fun (s:Int)=>bif ltM s (lenM x.2) then (idxM x.2 s).bind fun r_1
 => (m82 (x.1,r_1.1,r_1.2.1,r_1.2.2)).bind fun r=>bif PE.notM r then some (Sum.inr (Sum.inr s)) else some (Sum.inl (wrap .i64 (s+1))) else some
 (Sum.inr (Sum.inl ()))) 0).bind fun o=>Sum.elim (fun (t:Unit)=>some (-1)) (fun (t:Int)=>some t) o).bind fun (ov:Int)=>some (leM 0 ov) else some
 false).bind fun (ov:Bool)=>some (PE.andM (PE.andM r (leM (lenM x.2) 60)) (PE.notM ov))
theorem le58 (x):Le (m58F x) (m58 x):=by
 unfold m58F m58
 repeat' first | with_reducible exact Le.refl _ | intro _ | apply Le.bind | apply Le.cond | apply Le.nil | apply Le.loop | apply Le.elim
def m83F:Int→Option (List (List Int)) :=
 fun x=>(mkM x x (nat_lit 24) []).bind fun r=>(loopF (fun (s:Int×List (List Int))=>bif ltM s.1 x then (loopF (fun (s_1:Int×List (List Int))=>bif
 ltM s_1.1 x then (chkM s.1 (lenM s_1.2)).bind fun r_1=>(chkM s.1 (lenM s_1.2)).bind fun r_2=>(m113 (s.1,s_1.1)).bind fun r_3=>(app2M (nat_lit 8) s_1.2
 s.1 [r_3]).bind fun r_4=>(chkM s.1 (lenM r_4)).bind fun r_5=>((sameM s.1 s.1).bind fun (x:Unit)=>(sameM s.1 s.1).bind fun (x:Unit)=>chkM s.1 (lenM
 r_4)).bind fun r=>some (Sum.inl (wrap .i64 (s_1.1+1),r_4)) else some (Sum.inr s_1.2)) (0,s.2)).bind fun o=>some (Sum.inl (wrap .i64 (s.1
 + 1),o)) else some (Sum.inr s.2)) (0,r)).bind fun o=>some o
theorem le83 (x):Le (m83F x) (m83 x):=by
 unfold m83F m83
 repeat' first | with_reducible exact Le.refl _ | intro _ | apply Le.bind | apply Le.cond | apply Le.nil | apply Le.loop | apply Le.elim
def m59F:(Int×List (Int×Int×Int))→Option (List (List Int)×Bool) :=
 fun x=>(mkM x.1 x.1 (nat_lit 24) []).bind fun r=>(loopF (fun (s:Int×List (List Int))=>bif ltM s.1 x.1 then (loopF (fun (s_1:Int×List (List Int))
 => bif ltM s_1.1 x.1 then (chkM s.1 (lenM s_1.2)).bind fun r_1=>(chkM s.1 (lenM s_1.2)).bind fun r_2=>(m113 (s.1,s_1.1)).bind fun r_3=>(app2M (nat_lit
 8) s_1.2 s.1 [r_3]).bind fun r_4=>(chkM s.1 (lenM r_4)).bind fun r_5=>((sameM s.1 s.1).bind fun (x:Unit)=>(sameM s.1 s.1).bind fun (x:Unit)=>chkM
 s.1 (lenM r_4)).bind fun r=>some (Sum.inl (wrap .i64 (s_1.1+1),r_4)) else some (Sum.inr s_1.2)) (0,s.2)).bind fun o=>some (Sum.inl (wrap
 IntKind.i64 (s.1+1),o)) else some (Sum.inr s.2)) (0,r)).bind fun o=>(loopF (fun (s:Int×List (List Int))=>bif ltM s.1 (lenM x.2) then (idxM x.2
 s.1).bind fun r_1=>(chkM r_1.1 (lenM s.2)).bind fun r_2=>(chkM r_1.1 (lenM s.2)).bind fun r_3=>(chkM r_1.1 (lenM s.2)).bind fun r_4=>(chkM r_1.1 (lenM
 s.2)).bind fun r_5=>((idxM s.2 r_1.1).bind fun (xs:List Int)=>chkM r_1.2.1 (lenM xs)).bind fun r_6=>((idxM s.2 r_1.1).bind fun (xs:List Int) =>
 (idxM xs r_1.2.1).bind fun (x:Int)=>some x).bind fun r_7=>((idxM s.2 r_1.1).bind fun (xs:List Int)=>chkM r_1.2.1 (lenM xs)).bind fun r_8=>(set2M
 s.2 r_1.1 r_1.2.1 fun (x:Int)=>some (min r_7 r_1.2.2)).bind fun r=>some (Sum.inl (wrap .i64 (s.1+1),r)) else some (Sum.inr s.2)) (0,o)).bind
 fun o_1=>(loopF (fun (s:Int×List (List Int))=>bif ltM s.1 x.1 then (mkM x.1 x.1 (nat_lit 8) 0).bind fun r_1=>(chkM s.1 (lenM s.2)).bind fun r_2 =>
 (chkM s.1 (lenM s.2)).bind fun r_3=>(idxM s.2 s.1).bind fun r_4=>(loopF (fun (s_1:Int×List (List Int))=>bif ltM s_1.1 x.1 then (loopF (fun (s_2 :
 Int×List (List Int))=>bif ltM s_2.1 x.1 then (chkM s_1.1 (lenM s_2.2)).bind fun r_5=>(chkM s_1.1 (lenM s_2.2)).bind fun r_6=>(chkM s_1.1 (lenM
 s_2.2)).bind fun r_7=>(chkM s_1.1 (lenM s_2.2)).bind fun r_8=>((idxM s_2.2 s_1.1).bind fun (xs:List Int)=>chkM s_2.1 (lenM xs)).bind fun r_9=>((idxM
 s_2.2 s_1.1).bind fun (xs:List Int)=>(idxM xs s_2.1).bind fun (x:Int)=>some x).bind fun r_10=>(chkM s_1.1 (lenM s_2.2)).bind fun r_11=>(chkM s_1.1
 (lenM s_2.2)).bind fun r_12=>((idxM s_2.2 s_1.1).bind fun (xs:List Int)=>chkM s.1 (lenM xs)).bind fun r_13=>((idxM s_2.2 s_1.1).bind fun (xs:List
 Int)=>(idxM xs s.1).bind fun (x:Int)=>some x).bind fun r_14=>(chkM s_2.1 (lenM (copyM r_1 r_4))).bind fun r_15=>(idxM (copyM r_1 r_4) s_2.1).bind
 fun r_16=>(m61 (r_14,r_16)).bind fun r_17=>((idxM s_2.2 s_1.1).bind fun (xs:List Int)=>chkM s_2.1 (lenM xs)).bind fun r_18=>(set2M s_2.2 s_1.1
 s_2.1 fun (x:Int)=>some (min r_10 r_17)).bind fun r=>some (Sum.inl (wrap .i64 (s_2.1+1),r)) else some (Sum.inr s_2.2)) (0,s_1.2)).bind fun o
 => some (Sum.inl (wrap .i64 (s_1.1+1),o)) else some (Sum.inr s_1.2)) (0,s.2)).bind fun o=>some (Sum.inl (wrap .i64 (s.1+1),o)) else
 some (Sum.inr s.2)) (0,o_1)).bind fun o_2=>(loopF (fun (s:Int)=>bif ltM s x.1 then (chkM s (lenM o_2)).bind fun r_1=>(chkM s (lenM o_2)).bind fun r_2
 => ((idxM o_2 s).bind fun (xs:List Int)=>chkM s (lenM xs)).bind fun r_3=>((idxM o_2 s).bind fun (xs:List Int)=>(idxM xs s).bind fun (x:Int) =>
 some x).bind fun r=>bif ltM r 0 then some (Sum.inr (Sum.inr false)) else some (Sum.inl (wrap .i64 (s+1))) else some (Sum.inr (Sum.inl ()))) 0).bind
 fun o=>Sum.elim (fun (t:Unit)=>some (o_2,true)) (fun (t:Bool)=>some ([],t)) o
theorem le59 (x):Le (m59F x) (m59 x):=by
 unfold m59F m59
 repeat' first | with_reducible exact Le.refl _ | intro _ | apply Le.bind | apply Le.cond | apply Le.nil | apply Le.loop | apply Le.elim
def m54F:(Int×List (Int×Int×Int))→Option (List (List Int)×Int) :=
 fun x=>(m58F (x.1,x.2)).bind fun r=>bif PE.notM r then some ([],90) else (m59F (x.1,x.2)).bind fun r=>bif PE.notM r.2 then some ([],90) else some
 (r.1,0)
theorem le54 (x):Le (m54F x) (m54 x):=by
 unfold m54F m54
 repeat' first | with_reducible exact le58 _ | with_reducible exact le59 _ | with_reducible exact Le.refl _ | intro _ | apply Le.bind | apply Le.cond | apply Le.nil | apply Le.loop | apply Le.elim
def m28F:((Int×(List (Int×Int×Int×Int))×List (Int×Int×Int×Int×Int))×Int×Int)→Option ((Int×Int×Int×Int)×Int) :=
 fun x=>(m32F (x.1.1,x.1.2.1,x.1.2.2)).bind fun r=>(m54F (r.1.1,r.1.2)).bind fun r_1=>(m54F (r.2.1,r.2.2)).bind fun r_2=>(bif PE.notM (PE.orM
 (PE.notM (eqM r_1.2 0)) (PE.notM (eqM r_2.2 0))) then idxM r_1.1 x.2.1 else some []).bind fun r_3=>(bif PE.notM (PE.orM (PE.notM (eqM r_1.2 0)) (PE.notM
 (eqM r_2.2 0))) then idxM r_3 x.2.2 else some 0).bind fun r_4=>bif PE.orM (PE.orM (PE.notM (eqM r_1.2 0)) (PE.notM (eqM r_2.2 0))) (eqM r_4
 1152921504606846976) then some ((0,0,0,0),100) else (idxM r_1.1 x.2.2).bind fun r_5=>(idxM r_5 x.2.1).bind fun r_6=>(idxM r_1.1 x.2.1).bind fun r_7 =>
 (idxM r_7 x.2.2).bind fun r_8=>(idxM r_2.1 x.2.2).bind fun r_9=>(idxM r_9 x.2.1).bind fun r_10=>(idxM r_2.1 x.2.1).bind fun r_11=>(idxM r_11
 x.2.2).bind fun r=>some ((wrap .i64 (negM r_6),r_8,wrap .i64 (negM r_10),r),0)
theorem le28 (x):Le (m28F x) (m28 x):=by
 unfold m28F m28
 repeat' first | with_reducible exact le32 _ | with_reducible exact le54 _ | with_reducible exact Le.refl _ | intro _ | apply Le.bind | apply Le.cond | apply Le.nil | apply Le.loop | apply Le.elim
def m10F:((Int×(List (Int×Int×Int×Int))×List (Int×Int×Int×Int×Int))×Int)→Option ((Int×Int×Int×Int)×Int) :=
 fun x=>(m17F (x.1.1,x.1.2.1,x.1.2.2)).bind fun r=>(bif PE.notM (PE.notM r) then m27 (x.2,0,wrap .i64 (x.1.1-1)) else some false).bind fun r_1
 => bif PE.orM (PE.notM r) (PE.notM r_1) then some ((0,0,0,0),100) else (m28F ((x.1.1,x.1.2.1,x.1.2.2),x.1.1,x.2)).bind fun r=>some ((r.1.1,r.1.2.1,
 r.1.2.2.1,r.1.2.2.2),r.2)
theorem le10 (x):Le (m10F x) (m10 x):=by
 unfold m10F m10
 repeat' first | with_reducible exact le17 _ | with_reducible exact le28 _ | with_reducible exact Le.refl _ | intro _ | apply Le.bind | apply Le.cond | apply Le.nil | apply Le.loop | apply Le.elim
def m11F:((Int×(List (Int×Int×Int×Int))×List (Int×Int×Int×Int×Int))×Int×Int)→Option ((Int×Int×Int×Int)×Int) :=
 fun x=>(m17F (x.1.1,x.1.2.1,x.1.2.2)).bind fun r=>(bif PE.notM (PE.notM r) then m27 (x.2.1,0,wrap .i64 (x.1.1-1)) else some false).bind fun r_1
 => (bif PE.notM (PE.orM (PE.notM r) (PE.notM r_1)) then m27 (x.2.2,0,wrap .i64 (x.1.1-1)) else some false).bind fun r_2=>bif PE.orM (PE.orM
 (PE.notM r) (PE.notM r_1)) (PE.notM r_2) then some ((0,0,0,0),100) else (m28F ((x.1.1,x.1.2.1,x.1.2.2),x.2.1,x.2.2)).bind fun r=>some ((r.1.1,
 r.1.2.1,r.1.2.2.1,r.1.2.2.2),r.2)
theorem le11 (x):Le (m11F x) (m11 x):=by
 unfold m11F m11
 repeat' first | with_reducible exact le17 _ | with_reducible exact le28 _ | with_reducible exact Le.refl _ | intro _ | apply Le.bind | apply Le.cond | apply Le.nil | apply Le.loop | apply Le.elim
def m62F:((Int×List (Int×Int×Int))×List (List (List Int))×Int×Int×Int×Int)→Option (List Int) :=
 fun x=>(loopF (fun (s:Int×Int×Int×List Int)=>bif ltM 0 s.2.1 then ((loopF (fun (s_1:Int)=>bif ltM s_1 (lenM x.1.2) then (idxM x.1.2 s_1).bind
 fun r=>(bif eqM r.1 s.1 then idxM x.2.1 (wrap .i64 (s.2.1-1)) else some []).bind fun r_1=>(bif eqM r.1 s.1 then idxM r_1 r.2.1 else some []).bind
 fun r_2=>(bif eqM r.1 s.1 then idxM r_2 x.2.2.2.1 else some 0).bind fun r_3=>(bif eqM r.1 s.1 then m61 (r.2.2,r_3) else some 0).bind fun r_4=>bif
 PE.andM (eqM r.1 s.1) (leM r_4 s.2.2.1) then some (Sum.inr (Sum.inr s_1)) else some (Sum.inl (wrap .i64 (s_1+1))) else some (Sum.inr (Sum.inl ())))
 0).bind fun o=>Sum.elim (fun (t:Unit)=>some (-1)) (fun (t:Int)=>some t) o).bind fun (ov:Int)=>(idxM x.1.2 ov).bind fun r=>(idxM x.1.2 ov).bind
 fun r_1=>(appM (nat_lit 8) s.2.2.2 [ov]).bind fun r_2=>some (Sum.inl (r.2.1,wrap .i64 (s.2.1-1),wrap .i64 (s.2.2.1-r_1.2.2),r_2))
 else some (Sum.inr (s.1,s.2.1,s.2.2.1,s.2.2.2))) (x.2.2.1,x.2.2.2.2.1,x.2.2.2.2.2,[])).bind fun o=>some o.2.2.2
theorem le62 (x):Le (m62F x) (m62 x):=by
 unfold m62F m62
 repeat' first | with_reducible exact Le.refl _ | intro _ | apply Le.bind | apply Le.cond | apply Le.nil | apply Le.loop | apply Le.elim
def m33F:(Int×List (Int×Int×Int))→Option (List Int×Bool) :=
 fun x=>(m58F (x.1,x.2)).bind fun r=>bif PE.notM r then some ([],false) else (m59F (x.1,x.2)).bind fun r_1=>bif r_1.2 then some ([],false) else (m83F
 x.1).bind fun r_2=>(loopF (fun (s:List (List Int)×List (List (List Int)))=>(appM (nat_lit 24) s.2 [s.1]).bind fun r_3=>(loopF (fun (s_1:Int) =>
 bif ltM s_1 (lenM x.2) then (idxM x.2 s_1).bind fun r_4=>(bif ltM 0 (wrap .i64 (lenM r_3-1)) then chkM (wrap .i64 (wrap .i64 (lenM
 r_3-1)-1)) (lenM r_3) else some ()).bind fun r_5=>(bif ltM 0 (wrap .i64 (lenM r_3-1)) then idxM r_3 (wrap .i64 (wrap .i64 (lenM
 r_3-1)-1)) else some []).bind fun r_6=>(bif ltM 0 (wrap .i64 (lenM r_3-1)) then idxM r_6 r_4.2.1 else some []).bind fun r_7=>(bif ltM 0 (wrap
 IntKind.i64 (lenM r_3-1)) then idxM r_7 r_4.1 else some 0).bind fun r_8=>(bif ltM 0 (wrap .i64 (lenM r_3-1)) then m61 (r_4.2.2,r_8) else some
 0).bind fun r_9=>bif PE.andM (ltM 0 (wrap .i64 (lenM r_3-1))) (ltM r_9 0) then (m62F ((x.1,x.2),r_3,r_4.2.1,r_4.1,wrap .i64 (wrap
 IntKind.i64 (lenM r_3-1)-1),wrap .i64 ((-1)-r_4.2.2))).bind fun r_10=>(appM (nat_lit 8) [s_1] r_10).bind fun r=>some (Sum.inr (Sum.inr (r,
 true,r_3))) else some (Sum.inl (wrap .i64 (s_1+1))) else some (Sum.inr (Sum.inl ()))) 0).bind fun o=>Sum.elim (fun (t:Unit)=>(mkM x.1 x.1
 (nat_lit 24) []).bind fun r_4=>(loopF (fun (s_1:Int×List (List Int))=>bif ltM s_1.1 x.1 then (loopF (fun (s_2:Int×List (List Int))=>bif ltM
 s_2.1 x.1 then (chkM s_1.1 (lenM s_2.2)).bind fun r_5=>(chkM s_1.1 (lenM s_2.2)).bind fun r_6=>(m86 (s_1.1,s_2.1)).bind fun r_7=>(app2M (nat_lit 8)
 s_2.2 s_1.1 [r_7]).bind fun r_8=>(chkM s_1.1 (lenM r_8)).bind fun r_9=>((sameM s_1.1 s_1.1).bind fun (x:Unit)=>(sameM s_1.1 s_1.1).bind fun (x:Unit)
 => chkM s_1.1 (lenM r_8)).bind fun r=>some (Sum.inl (wrap .i64 (s_2.1+1),r_8)) else some (Sum.inr s_2.2)) (0,s_1.2)).bind fun o=>some (Sum.inl
 (wrap .i64 (s_1.1+1),o)) else some (Sum.inr s_1.2)) (0,r_4)).bind fun o=>(loopF (fun (s_1:Int×List (List Int))=>bif ltM s_1.1 (lenM x.2)
 then (idxM x.2 s_1.1).bind fun r_5=>(loopF (fun (s_2:Int×List (List Int))=>bif ltM s_2.1 x.1 then (chkM s_2.1 (lenM s_2.2)).bind fun r_6=>(chkM
 s_2.1 (lenM s_2.2)).bind fun r_7=>(chkM s_2.1 (lenM s_2.2)).bind fun r_8=>(chkM s_2.1 (lenM s_2.2)).bind fun r_9=>((idxM s_2.2 s_2.1).bind fun (xs :
 List Int)=>chkM r_5.2.1 (lenM xs)).bind fun r_10=>((idxM s_2.2 s_2.1).bind fun (xs:List Int)=>(idxM xs r_5.2.1).bind fun (x:Int)=>some x).bind fun
 r_11=>(idxM s.1 s_2.1).bind fun r_12=>(idxM r_12 r_5.1).bind fun r_13=>(m61 (r_13,r_5.2.2)).bind fun r_14=>((idxM s_2.2 s_2.1).bind fun (xs:List
 Int)=>chkM r_5.2.1 (lenM xs)).bind fun r_15=>(set2M s_2.2 s_2.1 r_5.2.1 fun (x:Int)=>some (min r_11 r_14)).bind fun r=>some (Sum.inl (wrap
 IntKind.i64 (s_2.1+1),r)) else some (Sum.inr s_2.2)) (0,s_1.2)).bind fun o=>some (Sum.inl (wrap .i64 (s_1.1+1),o)) else some (Sum.inr s_1.2))
 (0,o)).bind fun o=>some (Sum.inl (o,r_3))) (fun (t:List Int×Bool×List (List (List Int)))=>some (Sum.inr (t.1,t.2.1,t.2.2))) o) (r_2,[])).bind
 fun o=>some (o.1,o.2.1)
theorem le33 (x):Le (m33F x) (m33 x):=by
 unfold m33F m33
 repeat' first | with_reducible exact le58 _ | with_reducible exact le59 _ | with_reducible exact le62 _ | with_reducible exact le83 _ | with_reducible exact Le.refl _ | intro _ | apply Le.bind | apply Le.cond | apply Le.nil | apply Le.loop | apply Le.elim
def m13F:(Int×(List (Int×Int×Int×Int))×List (Int×Int×Int×Int×Int))→Option (List Int×Bool) :=
 fun x=>(m17F (x.1,x.2.1,x.2.2)).bind fun r=>bif PE.notM r then some ([],false) else (m32F (x.1,x.2.1,x.2.2)).bind fun r_1=>((m33F (r_1.1.1,
 r_1.1.2)).bind fun r=>bif PE.andM r.2 (PE.orM true (ltM (lenM r.1) 0)) then some (r.1,true) else some ([],false)).bind fun o=>((m33F (r_1.2.1,
 r_1.2.2)).bind fun r=>bif PE.andM r.2 (PE.orM (PE.notM o.2) (ltM (lenM r.1) (lenM o.1))) then some (r.1,true) else some (o.1,o.2)).bind fun o_1=>(loopF
 (fun (s:Int×List Int)=>bif ltM s.1 (lenM o_1.1) then (idxM o_1.1 s.1).bind fun r_2=>(divM .i64 r_2 2).bind fun r_3=>(appM (nat_lit 8) s.2
 [r_3]).bind fun r=>some (Sum.inl (wrap .i64 (s.1+1),r)) else some (Sum.inr s.2)) (0,[])).bind fun o_2=>(sortI o_2).bind fun r_2=>(compI
 r_2).bind fun r=>some (r,o_1.2)
theorem le13 (x):Le (m13F x) (m13 x):=by
 unfold m13F m13
 repeat' first | with_reducible exact le17 _ | with_reducible exact le32 _ | with_reducible exact le33 _ | with_reducible exact Le.refl _ | intro _ | apply Le.bind | apply Le.cond | apply Le.nil | apply Le.loop | apply Le.elim
def m41F:(List Int×List Int)→Option (Bool) :=
 fun x=>bif PE.notM (eqM (lenM x.1) (lenM x.2)) then some false else (loopF (fun (s:Int)=>bif ltM s (lenM x.1) then (idxM x.1 s).bind fun r=>(idxM x.2
 s).bind fun r_1=>bif PE.notM (eqM r r_1) then some (Sum.inr (Sum.inr false)) else some (Sum.inl (wrap .i64 (s+1))) else some (Sum.inr (Sum.inl
 ()))) 0).bind fun o=>Sum.elim (fun (t:Unit)=>some true) (fun (t:Bool)=>some t) o
theorem le41 (x):Le (m41F x) (m41 x):=by
 unfold m41F m41
 repeat' first | with_reducible exact Le.refl _ | intro _ | apply Le.bind | apply Le.cond | apply Le.nil | apply Le.loop | apply Le.elim
def m16F:(List Int×List Int)→Option (Bool) :=
 fun x=>(m41F (x.1,x.2)).bind fun r=>some r
theorem le16 (x):Le (m16F x) (m16 x):=by
 unfold m16F m16
 repeat' first | with_reducible exact le41 _ | with_reducible exact Le.refl _ | intro _ | apply Le.bind | apply Le.cond | apply Le.nil | apply Le.loop | apply Le.elim
def m14F:((List Int×List Int×Int)×List Int×List Int×Int)→Option (Bool) :=
 fun x=>(m16F (x.1.1,x.2.1)).bind fun r=>(bif r then m16F (x.1.2.1,x.2.2.1) else some false).bind fun r_1=>some (PE.andM (PE.andM r r_1) (eqM x.1.2.2
 x.2.2.2))
theorem le14 (x):Le (m14F x) (m14 x):=by
 unfold m14F m14
 repeat' first | with_reducible exact le16 _ | with_reducible exact Le.refl _ | intro _ | apply Le.bind | apply Le.cond | apply Le.nil | apply Le.loop | apply Le.elim
def m15F:((Int×(List (Int×Int×Int×Int))×List (Int×Int×Int×Int×Int))×List (Int×Int))→Option (Bool) :=
 fun x=>(m17F (x.1.1,x.1.2.1,x.1.2.2)).bind fun r=>(bif PE.notM (PE.orM (PE.notM r) (PE.notM (eqM (lenM x.2) x.1.1))) then ((loopF (fun (s:Int)=>bif
 ltM s (lenM x.2) then (idxM x.2 s).bind fun r_1=>(m37 (r_1.1,r_1.2)).bind fun r=>bif r then some (Sum.inr (Sum.inr s)) else some (Sum.inl (wrap
 IntKind.i64 (s+1))) else some (Sum.inr (Sum.inl ()))) 0).bind fun o=>Sum.elim (fun (t:Unit)=>some (-1)) (fun (t:Int)=>some t) o).bind fun (ov :
 Int)=>some (leM 0 ov) else some false).bind fun (ov:Bool)=>bif PE.orM (PE.orM (PE.notM r) (PE.notM (eqM (lenM x.2) x.1.1))) ov then some false else
 (mo39 x.2).bind fun r_1=>(appM (nat_lit 16) r_1 [(0,0)]).bind fun r_2=>(loopF (fun (s:Int)=>bif ltM s (lenM x.1.2.1) then (idxM x.1.2.1 s).bind fun
 r_3=>(chkM r_3.1 (lenM r_2)).bind fun r_4=>((idxM r_2 r_3.1).bind fun (x:Int×Int)=>some x.1).bind fun r_5=>(chkM x.1.1 (lenM r_2)).bind fun r_6 =>
 ((idxM r_2 x.1.1).bind fun (x:Int×Int)=>some x.1).bind fun r_7=>(chkM r_3.1 (lenM r_2)).bind fun r_8=>((idxM r_2 r_3.1).bind fun (x:Int×Int) =>
 some x.2).bind fun r_9=>(chkM x.1.1 (lenM r_2)).bind fun r_10=>((idxM r_2 x.1.1).bind fun (x:Int×Int)=>some x.2).bind fun r_11=>(m38 (wrap
 IntKind.i64 (wrap .i64 (r_5-r_7)-r_3.2.1),wrap .i64 (wrap .i64 (r_9-r_11)-r_3.2.2.1),r_3.2.2.2)).bind fun r=>bif PE.notM r
 then some (Sum.inr (Sum.inr false)) else some (Sum.inl (wrap .i64 (s+1))) else some (Sum.inr (Sum.inl ()))) 0).bind fun o=>Sum.elim (fun (t:Unit)
 => (loopF (fun (s:Int)=>bif ltM s (lenM x.1.2.2) then (idxM x.1.2.2 s).bind fun r_3=>(chkM r_3.2.1 (lenM r_2)).bind fun r_4=>((idxM r_2 r_3.2.1).bind
 fun (x:Int×Int)=>some x.1).bind fun r_5=>(chkM r_3.1 (lenM r_2)).bind fun r_6=>((idxM r_2 r_3.1).bind fun (x:Int×Int)=>some x.1).bind fun r_7
 => (chkM r_3.2.1 (lenM r_2)).bind fun r_8=>((idxM r_2 r_3.2.1).bind fun (x:Int×Int)=>some x.2).bind fun r_9=>(chkM r_3.1 (lenM r_2)).bind fun r_10
 => ((idxM r_2 r_3.1).bind fun (x:Int×Int)=>some x.2).bind fun r_11=>(m38 (wrap .i64 (wrap .i64 (r_5-r_7)-r_3.2.2.1),wrap
 IntKind.i64 (wrap .i64 (r_9-r_11)-r_3.2.2.2.1),r_3.2.2.2.2)).bind fun r=>bif PE.notM r then some (Sum.inr (Sum.inr false)) else some (Sum.inl
 (wrap .i64 (s+1))) else some (Sum.inr (Sum.inl ()))) 0).bind fun o=>Sum.elim (fun (t:Unit)=>some true) (fun (t:Bool)=>some t) o) (fun (t :
 Bool)=>some t) o
theorem le15 (x):Le (m15F x) (m15 x):=by
 unfold m15F m15
 repeat' first | with_reducible exact le17 _ | with_reducible exact Le.refl _ | intro _ | apply Le.bind | apply Le.cond | apply Le.nil | apply Le.loop | apply Le.elim
def m4F:Unit→Option (Bool) :=
 fun x=>(appM (nat_lit 40) [] [(0,1,100,0,3),(1,2,0,50,1),(0,2,104,48,2)]).bind fun r=>(chkM 2 (lenM r)).bind fun r_1=>(setM r 2 fun (x:Int
 × Int×Int×Int×Int)=>some (x.1,x.2.1,111,x.2.2.2)).bind fun r_2=>(m10F ((3,[(0,0,0,2)],[(0,1,100,0,3),(1,2,0,50,1),(0,2,104,48,
 2)]),0)).bind fun r_3=>(m10F ((3,[(0,0,0,2)],[(0,1,100,0,3),(1,2,0,50,1),(0,2,104,48,2)]),1)).bind fun r_4=>(m10F ((3,[(0,0,0,
 2)],[(0,1,100,0,3),(1,2,0,50,1),(0,2,104,48,2)]),2)).bind fun r_5=>(m11F ((3,[(0,0,0,2)],[(0,1,100,0,3),(1,2,0,50,1),(0,2,
 104,48,2)]),0,2)).bind fun r_6=>(m12F (3,[(0,0,0,2)],[(0,1,100,0,3),(1,2,0,50,1),(0,2,104,48,2)])).bind fun r_7=>(m13F (3,[(0,0,
 0,2)],r_2)).bind fun r_8=>(m13F (3,[(0,0,0,2)],[(0,1,100,0,3),(1,2,0,50,1),(0,2,104,48,2)])).bind fun r_9=>(m10F ((3,[(0,0,0,2)],
 r_2),0)).bind fun r_10=>bif PE.orM (PE.orM (PE.orM (PE.orM (PE.orM (PE.orM (PE.orM (PE.notM (eqM r_3.2 0)) (PE.notM (eqM r_4.2 0))) (PE.notM (eqM r_5.2
 0))) (PE.notM (eqM r_6.2 0))) (PE.notM (eqM r_7.2 0))) (PE.notM (eqM r_10.2 100))) (PE.notM r_8.2)) r_9.2 then some false else (m14F ((r_7.1.1,r_7.1.2.1,
 r_7.1.2.2),[0,304,308],[0,(-2),146],3)).bind fun r_11=>(m15F ((3,[(0,0,0,2)],[(0,1,100,0,3),(1,2,0,50,1),(0,2,104,48,2)]),[(0,
 0),(101,(-1)),(102,48)])).bind fun r_12=>(bif r_12 then m15F ((3,[(0,0,0,2)],[(0,1,100,0,3),(1,2,0,50,1),(0,2,104,48,2)]),[(0,0),
 (104,(-1)),(103,48)]) else some false).bind fun r_13=>(bif PE.andM (PE.andM (PE.andM (PE.andM (PE.andM (PE.andM (eqM r_3.1.1 (-2)) (PE.andM (eqM
 r_3.1.2.1 2) (PE.andM (eqM r_3.1.2.2.1 (-2)) (eqM r_3.1.2.2.2 2)))) (PE.andM (eqM r_4.1.1 99) (PE.andM (eqM r_4.1.2.1 105) (PE.andM (eqM r_4.1.2.2.1 (-5))
 (eqM r_4.1.2.2.2 3))))) (PE.andM (eqM r_5.1.1 100) (PE.andM (eqM r_5.1.2.1 106) (PE.andM (eqM r_5.1.2.2.1 44) (eqM r_5.1.2.2.2 52))))) (PE.andM (eqM r_6.1.1
 102) (PE.andM (eqM r_6.1.2.1 104) (PE.andM (eqM r_6.1.2.2.1 46) (eqM r_6.1.2.2.2 50))))) r_11) (PE.andM r_12 (PE.notM r_13)) then m16F (r_8.1,[1,2,3]) else
 some false).bind fun r_14=>(bif PE.andM (PE.andM (PE.andM (PE.andM (PE.andM (PE.andM (PE.andM (eqM r_3.1.1 (-2)) (PE.andM (eqM r_3.1.2.1 2) (PE.andM (eqM
 r_3.1.2.2.1 (-2)) (eqM r_3.1.2.2.2 2)))) (PE.andM (eqM r_4.1.1 99) (PE.andM (eqM r_4.1.2.1 105) (PE.andM (eqM r_4.1.2.2.1 (-5)) (eqM r_4.1.2.2.2 3)))))
 (PE.andM (eqM r_5.1.1 100) (PE.andM (eqM r_5.1.2.1 106) (PE.andM (eqM r_5.1.2.2.1 44) (eqM r_5.1.2.2.2 52))))) (PE.andM (eqM r_6.1.1 102) (PE.andM (eqM
 r_6.1.2.1 104) (PE.andM (eqM r_6.1.2.2.1 46) (eqM r_6.1.2.2.2 50))))) r_11) (PE.andM r_12 (PE.notM r_13))) r_14 then m17F (3,[(0,0,0,2)],[(0,1,100,0,
 3),(1,2,0,50,1),(0,2,104,48,2)]) else some false).bind fun r_15=>(bif PE.andM (PE.andM (PE.andM (PE.andM (PE.andM (PE.andM (PE.andM (PE.andM (eqM
 r_3.1.1 (-2)) (PE.andM (eqM r_3.1.2.1 2) (PE.andM (eqM r_3.1.2.2.1 (-2)) (eqM r_3.1.2.2.2 2)))) (PE.andM (eqM r_4.1.1 99) (PE.andM (eqM r_4.1.2.1 105)
 (PE.andM (eqM r_4.1.2.2.1 (-5)) (eqM r_4.1.2.2.2 3))))) (PE.andM (eqM r_5.1.1 100) (PE.andM (eqM r_5.1.2.1 106) (PE.andM (eqM r_5.1.2.2.1 44) (eqM r_5.1.2.2.2
 52))))) (PE.andM (eqM r_6.1.1 102) (PE.andM (eqM r_6.1.2.1 104) (PE.andM (eqM r_6.1.2.2.1 46) (eqM r_6.1.2.2.2 50))))) r_11) (PE.andM r_12 (PE.notM r_13)))
 r_14) r_15 then m17F (9,[],[]) else some false).bind fun r=>some (PE.andM (PE.andM (PE.andM (PE.andM (PE.andM (PE.andM (PE.andM (PE.andM (PE.andM (eqM
 r_3.1.1 (-2)) (PE.andM (eqM r_3.1.2.1 2) (PE.andM (eqM r_3.1.2.2.1 (-2)) (eqM r_3.1.2.2.2 2)))) (PE.andM (eqM r_4.1.1 99) (PE.andM (eqM r_4.1.2.1 105)
 (PE.andM (eqM r_4.1.2.2.1 (-5)) (eqM r_4.1.2.2.2 3))))) (PE.andM (eqM r_5.1.1 100) (PE.andM (eqM r_5.1.2.1 106) (PE.andM (eqM r_5.1.2.2.1 44) (eqM r_5.1.2.2.2
 52))))) (PE.andM (eqM r_6.1.1 102) (PE.andM (eqM r_6.1.2.1 104) (PE.andM (eqM r_6.1.2.2.1 46) (eqM r_6.1.2.2.2 50))))) r_11) (PE.andM r_12 (PE.notM r_13)))
 r_14) r_15) (PE.notM r))
theorem le4 (x):Le (m4F x) (m4 x):=by
 unfold m4F m4
 repeat' first | with_reducible exact le10 _ | with_reducible exact le11 _ | with_reducible exact le12 _ | with_reducible exact le13 _ | with_reducible exact le14 _ | with_reducible exact le15 _ | with_reducible exact le16 _ | with_reducible exact le17 _ | with_reducible exact Le.refl _ | intro _ | apply Le.bind | apply Le.cond | apply Le.nil | apply Le.loop | apply Le.elim
end
end Go.Proofs.YtfekoiabjbdnfaaGreat
namespace Go.Proofs.YtfekoiabjbdnfaaGreat
open Go Go.Abs Go.PE
set_option maxRecDepth 100000 in
theorem saneF:m4F ()=some true:=by kernel_rfl
theorem sane_ok:m4 ()=some true:=(le4 ()).out saneF
end Go.Proofs.YtfekoiabjbdnfaaGreat
namespace Go.Proofs.YtfekoiabjbdnfaaGreat
open Go Go.Abs Go.PE Go.Det
theorem lawN_ok (x:NNum×(Int×Int×Int)×Net×List (Int×Int)×Int×Int) (h:NN x.1) (h1:i64 x.2.1.1) (h2:i64 x.2.1.2.2) (h3:i64 x.2.2.2.2.1) (h4:i64 x.2.2.2.2.2):m3 x=some true:=by
 obtain ⟨x,bend,raw,l,p,q⟩:=x
 dsimp only at h h1 h2 h3 h4
 obtain ⟨r3,e3⟩:=slice_tot l (k:=9) (by decide)
 obtain ⟨r4,e4⟩:=slice_tot raw.2.1 (k:=10) (by decide)
 obtain ⟨r5,e5⟩:=slice_tot raw.2.2 (k:=22) (by decide)
 obtain ⟨c',e9⟩:=m9_tot (made_ok x) (a:=bend.1) (b:=bend.2.1) (d:=bend.2.2) h1 h2
 unfold m3
 dsimp only
 have T:PE.andM true true=true:=rfl
 rw [sane_ok,oB,notT,cF]
 refine bind_of (m5_eq h) (bind_of (m6_eq h) (bind_of e3 (bind_of e4 (bind_of e5 (bind_of (m7_eq h3 (by decide)) (bind_of (m7_eq h4 (by decide)) ?_))))))
 rw [cT]
 refine bind_of (m8_ok (madeN x) (hidL x) _ _) ?_
 rw [T,cT]
 refine bind_of (m8_ok (madeN x) r3 p q) ?_
 rw [T,cT]
 refine bind_of e9 ?_
 rw [cT]
 refine bind_of (m8_ok c' (hidL x) _ _) ?_
 rw [T,cT]
 refine bind_of (m8_ok (raw.1,r4,r5) r3 _ q) ?_
 rfl
end Go.Proofs.YtfekoiabjbdnfaaGreat
namespace Go.Proofs.YtfekoiabjbdnfaaGreat
open Go Go.Abs Go.PE
theorem law3:∀ (S:Cells) (w:World) (η:Eta) (vs:List Value) x,All2 (RM S w η) (rvs as3 x) vs→m3 x=some true :=
 law_of_ok fun x h=>lawN_ok x (nn_ok h.1) h.2.1.1 h.2.1.2.2 h.2.2.2.2.1 h.2.2.2.2.2
end Go.Proofs.YtfekoiabjbdnfaaGreat
