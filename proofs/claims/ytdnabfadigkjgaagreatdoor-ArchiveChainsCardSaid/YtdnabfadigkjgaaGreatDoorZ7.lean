/-
 Texts of this proof, put together: Bn, Ai, Bo, Aj, Bp, Ca, Cb, Cc, LawArchiveChains.
 No conditions.
-/
import Derived.Test.YtdnabfadigkjgaaGreatDoorZ6
set_option linter.all false
namespace Go.Proofs.YtdnabfadigkjgaaGreatDoor
open Go Go.Lib Go.Abs Go.PE Go.Ar
def Pw (P:List (List Bs)):Prop:=P.Pairwise (fun p q=>q.length<p.length)∧∀ p∈P,∃ a,p.length=2 ^ a
theorem pow_lt2 {a b:Nat} (h:(2:Nat) ^ a<2 ^ b):2*2 ^ a≤2 ^ b:=by
 have:a<b:=(Nat.pow_lt_pow_iff_right (by omega)).1 h
 rw [show 2*2 ^ a=2 ^ (a+1) by rw [Nat.pow_succ];omega]
 exact Nat.pow_le_pow_right (by omega) this
theorem Pw.tail {p:List Bs} {P:List (List Bs)} (h:Pw (p::P)):Pw P:=⟨(List.pairwise_cons.1 h.1).2,fun q hq=>h.2 q (by simp [hq])⟩
theorem Pw.sum:∀ {p:List Bs} {P:List (List Bs)},Pw (p::P)→P.flatten.length<p.length
 | p,[],h=>by
  obtain ⟨a,ha⟩:=h.2 p (by simp)
  have:=Nat.two_pow_pos a
  simp;omega
 | p,q::P,h=>by
  have h1:=Pw.sum h.tail
  have h2:=(List.pairwise_cons.1 h.1).1 q (by simp)
  obtain ⟨a,ha⟩:=h.2 p (by simp)
  obtain ⟨b,hb⟩:=h.2 q (by simp)
  rw [ha,hb] at h2
  have:=pow_lt2 h2
  rw [List.flatten_cons,List.length_append];omega
theorem Pw.root {p:List Bs} {P:List (List Bs)} (h:Pw (p::P)) (hP:P≠[]):rootL (p::P).flatten=node (rootL p) (rootL P.flatten):=by
 obtain ⟨a,ha⟩:=h.2 p (by simp)
 have h1:=h.sum
 rw [List.flatten_cons]
 refine rootL_split ha ?_ (by omega)
 match P,hP with
 | q::P,_ =>
  obtain ⟨b,hb⟩:=h.2 q (by simp)
  have:=Nat.two_pow_pos b
  rw [List.flatten_cons,List.length_append];omega
theorem Pw.drop {P:List (List Bs)} (h:Pw P) (k:Nat):Pw (P.drop k):=⟨h.1.sublist (List.drop_sublist k P),fun p hp=>h.2 p (List.mem_of_mem_drop hp)⟩
structure Pq1 (P:List (List Bs)) (q:List Bs):Prop where
 pw:Pw P
 two:∃ a,q.length=2 ^ a
 le:∀ p∈P,q.length≤p.length
theorem Pq1.done {P:List (List Bs)} {q:List Bs} (h:Pq1 P q) (hne:∀ P' p,P=P'++[p]→p.length≠q.length):Pw (P++[q]):=by
 refine ⟨List.pairwise_append.2 ⟨h.pw.1,List.pairwise_singleton _ _,fun p hp x hx=>?_⟩,fun p hp=>?_⟩
 ·rw [List.mem_singleton.1 hx]
  rcases List.eq_nil_or_concat P with e | ⟨P',t,e⟩
  ·rw [e] at hp;simp at hp
  ·rw [List.concat_eq_append] at e
   have h1:=hne P' t e
   have h2:=h.le t (by rw [e];simp)
   rw [e] at hp
   rcases List.mem_append.1 hp with g | g
   ·have hp2:=h.pw.1
    rw [e,List.pairwise_append] at hp2
    have:=hp2.2.2 p g t (by simp)
    omega
   ·rw [List.mem_singleton.1 g];omega
 ·rcases List.mem_append.1 hp with g | g
  ·exact h.pw.2 p g
  ·rw [List.mem_singleton.1 g];exact h.two
theorem Pq1.merge {P:List (List Bs)} {p q:List Bs} (h:Pq1 (P++[p]) q) (e:p.length=q.length):Pq1 P (p++q)∧rootL (p++q)=node (rootL p) (rootL q):=by
 obtain ⟨a,ha⟩:=h.two
 have hpos:=Nat.two_pow_pos a
 have hp2:=h.pw.1
 rw [List.pairwise_append] at hp2
 refine ⟨⟨⟨hp2.1,fun x hx=>h.pw.2 x (by simp [hx])⟩,⟨a+1,by rw [List.length_append,Nat.pow_succ];omega⟩,fun x hx=>?_⟩,rootL_split (a:=a) (by omega) (by omega) (by omega)⟩
 have h1:=hp2.2.2 x hx p (by simp)
 obtain ⟨b,hb⟩:=h.pw.2 x (by simp [hx])
 rw [hb,e,ha] at h1
 have:=pow_lt2 h1
 rw [List.length_append];omega
def szs (P:List (List Bs)):List Int:=P.map fun p=>(p.length:Int)
theorem szs_len (P:List (List Bs)):(szs P).length=P.length:=by simp [szs]
theorem szs_app (P Q:List (List Bs)):szs (P++Q)=szs P++szs Q:=by simp [szs]
theorem wRoot_ok {l:List Bs} (hl:l.length≤100000) (hs:∀ s∈l,s.length≤800000):m78 l=some (rootL l):=by
 unfold m78
 refine Ans.bindEq (Q:=fun (o:List Bs)=>∃ P,Pw P∧P.flatten=l∧o=P.map rootL∧P.length≤l.length) ?_ fun o ho=>?_
 ·refine Ans.loop (fun i z=>∃ P,Pw P∧P.flatten=l.take i∧i≤l.length∧P.length≤i∧z=((i:Int),P.map rootL,szs P)) l.length ⟨[],⟨List.Pairwise.nil,fun p hp=>by simp at hp⟩,by simp,by omega,by simp,rfl⟩ ?_
  rintro i z hi ⟨P,h1,h2,h3,h4,rfl⟩
  dsimp only
  rw [lenI]
  by_cases hil:i<l.length
  ·rw [ltI (by omega),cT,idxM_lt hil,oB,wLeaf_ok (hs _ (List.getElem_mem hil)),oB,appM_of (by simp;omega),oB,appM_of (by rw [szs_len];simp;omega),oB]
   have r2:P.map rootL++[leaf l[i]]=(P++[[l[i]]]).map rootL:=by rw [List.map_append,List.map_cons,rootL_one];rfl
   have r3:szs P++[1]=szs (P++[[l[i]]]):=by rw [szs_app];rfl
   rw [r2,r3]
   refine Ans.bind (P:=fun (o:List Bs×List Int)=>∃ Q,Pw Q∧Q.flatten=l.take (i+1)∧Q.length≤i+1∧o=(Q.map rootL,szs Q)) ?_ fun o ho=>?_
   ·refine Ans.loop (fun j z=>∃ Q q,Pq1 Q q∧Q.length+j≤i∧(Q++[q]).flatten=l.take (i+1)∧z=((Q.length:Int)+1,(Q++[q]).map rootL,szs (Q++[q]))) i ⟨P,[l[i]],⟨h1,⟨0,rfl⟩,fun p hp=>?_⟩,by omega,?_,?_⟩ ?_
    ·obtain ⟨a,ha⟩:=h1.2 p hp
     have:=Nat.two_pow_pos a
     simp;omega
    ·rw [List.flatten_append,h2,List.take_add_one,List.getElem?_eq_getElem hil];simp
    ·rw [lenI,szs_len];simp
    ·rintro j z hj ⟨Q,q,g1,g2,g3,rfl⟩
     dsimp only
     rcases List.eq_nil_or_concat Q with e | ⟨Q',p,e⟩
     ·subst e
      rw [geI (by simp)]
      simp only [cF,oB,andF]
      exact Ans.some ⟨[q],by simpa using g1.done (fun P' p h=>by simp at h),by simpa using g3,by simp,rfl⟩
     ·rw [List.concat_eq_append] at e
      subst e
      have hQl:(Q'++[p]).length=Q'.length+1:=by simp
      rw [hQl] at g2 ⊢
      have hn2:IntKind.wrap .i64 (((Q'.length+1:Nat):Int)+1-2)=(Q'.length:Int):=by rw [wrap_in (by omega) (by omega)];omega
      have hn1:IntKind.wrap .i64 (((Q'.length+1:Nat):Int)+1-1)=((Q'.length+1:Nat):Int):=by rw [wrap_in (by omega) (by omega)];omega
      have lw:((Q'++[p]++[q]).map rootL).length=Q'.length+2:=by simp
      have ls:(szs (Q'++[p]++[q])).length=Q'.length+2:=by rw [szs_len];simp
      have i1:idxM (szs (Q'++[p]++[q])) (Q'.length:Int)=some (p.length:Int):=by rw [idxM_nat];simp [szs]
      have i2:idxM (szs (Q'++[p]++[q])) ((Q'.length+1:Nat):Int)=some (q.length:Int):=by rw [idxM_nat];simp [szs]
      have i3:idxM ((Q'++[p]++[q]).map rootL) (Q'.length:Int)=some (rootL p):=by rw [idxM_nat];simp
      have i4:idxM ((Q'++[p]++[q]).map rootL) ((Q'.length+1:Nat):Int)=some (rootL q):=by rw [idxM_nat];simp
      rw [hn2,hn1,i1,i2,i3,i4,lenI,lenI,lw,ls,ltI (a:=1) (by omega),chkM_of (i:=(Q'.length:Int)) (n:=((Q'.length+2:Nat):Int)) (by omega) (by omega),chkM_of (i:=((Q'.length+1:Nat):Int)) (n:=((Q'.length+2:Nat):Int)) (by omega) (by omega)]
      simp only [cT,oB,andT]
      by_cases e:p.length=q.length
      ·obtain ⟨m1,m2⟩:=g1.merge e
       rw [eqI (by omega),cT,chkM_of (by omega) (by omega),oB,wNode_ok (by rw [rootL_len,rootL_len];omega),oB,sliceM_of (by omega) (by omega) (by rw [lw];omega),oB]
       have t1:((((Q'++[p]++[q]).map rootL).take (Q'.length:Int).toNat).drop (0:Int).toNat)=Q'.map rootL:=by simp [List.take_append_of_le_length]
       have t2:(((szs (Q'++[p]++[q])).take (Q'.length:Int).toNat).drop (0:Int).toNat)=szs Q':=by simp [szs,List.take_append_of_le_length]
       have hq:q.length≤l.length:=by
        have:=congrArg List.length g3
        rw [List.flatten_append,List.length_append,List.length_take] at this
        simp at this;omega
       rw [t1,appM_of (by simp;omega),oB,sliceM_of (by omega) (by omega) (by rw [ls];omega),oB,t2,oB,wrap_in (n:=2*(q.length:Int)) (by omega) (by omega),appM_of (by rw [szs_len];simp;omega),oB]
       refine Ans.some ⟨by omega,Q',p++q,m1,by omega,by rw [← g3];simp,?_⟩
       have u1:Q'.map rootL++[node (rootL p) (rootL q)]=(Q'++[p++q]).map rootL:=by rw [List.map_append,List.map_cons,m2];rfl
       have u2:szs Q'++[2*(q.length:Int)]=szs (Q'++[p++q]):=by
        rw [szs_app];unfold szs;simp;omega
       rw [u1,u2];rfl
      ·rw [neI (by omega),cF]
       refine Ans.some ⟨Q'++[p]++[q],g1.done fun P' x hx=>?_,g3,by simp;omega,rfl⟩
       obtain ⟨_,hx2⟩:=List.append_inj' hx rfl
       simp at hx2
       rw [← hx2];exact e
   ·obtain ⟨Q,q1,q2,q3,rfl⟩:=ho
    rw [wrap_in (by omega) (by omega)]
    exact Ans.some ⟨by omega,Q,q1,q2,by omega,q3,rfl⟩
  ·rw [geI (by omega),cF]
   refine Ans.some ⟨P,h1,?_,rfl,by omega⟩
   rw [h2,List.take_of_length_le (by omega)]
 ·obtain ⟨P,h1,h2,rfl,h4⟩:=ho
  rw [lenI,List.length_map]
  rcases List.eq_nil_or_concat P with e | ⟨Q,q,e⟩
  ·subst e
   rw [← h2,List.length_nil,eqI (by omega),cT,wSum_ok (by simp),oB,show ([]:List (List Bs)).flatten=[] from rfl,rootL_nil]
  ·rw [List.concat_eq_append] at e
   have hQ:P.length=Q.length+1:=by rw [e];simp
   have hn1:IntKind.wrap .i64 ((P.length:Int)-1)=(Q.length:Int):=by rw [wrap_in (by omega) (by omega)];omega
   have i1:idxM (P.map rootL) (Q.length:Int)=some (rootL q):=by rw [idxM_nat,e];simp
   have t1:(((P.map rootL).take (Q.length:Int).toNat).drop (0:Int).toNat)=Q.map rootL:=by rw [e];simp [List.take_append_of_le_length]
   rw [neI (by omega),cF,hn1,chkM_of (by omega) (by omega),oB,i1,oB,sliceM_of (by omega) (by omega) (by rw [List.length_map];omega),oB,t1,lenI,List.length_map,wrap_in (n:=(Q.length:Int)-1) (by omega) (by omega)]
   refine bind_of (loopM_at (fun j=>((Q.length:Int)-1-(j:Int),rootL (P.drop (Q.length-j)).flatten)) Q.length ?_ (fun j hj=>?_) ?_) rfl
   ·rw [Nat.sub_zero,e,List.drop_left];simp
   ·obtain ⟨m,hm⟩:∃ m,Q.length-j=m+1:=⟨Q.length-j-1,by omega⟩
    have hd:P.drop m=(P[m]'(by omega))::P.drop (m+1):=List.drop_eq_getElem_cons (by omega)
    have i2:idxM (Q.map rootL) ((Q.length:Int)-1-(j:Int))=some (rootL (P[m]'(by omega))):=by
     rw [show (Q.length:Int)-1-(j:Int)=(m:Int) by omega,idxM_nat,List.getElem?_map,List.getElem?_eq_getElem (by omega)]
     simp [e,List.getElem_append_left (show m<Q.length by omega)]
    dsimp only
    rw [leI (by omega),cT,i2,oB,hm,wNode_ok (by rw [rootL_len,rootL_len];omega),oB,wrap_in (by omega) (by omega),show Q.length-(j+1)=m by omega,hd]
    have hp:=(hd▸h1.drop m:Pw (P[m]'(by omega)::P.drop (m+1)))
    rw [hp.root (by
     intro h
     have:=congrArg List.length h
     rw [List.length_drop] at this
     simp at this;omega)]
    congr 3
    omega
   ·dsimp only
    rw [gtI (by omega),cF,Nat.sub_self,List.drop_zero,h2]
theorem wEnc_eq (r:Rp):m20 r=some (if OkR r then (en r,0) else ([],390)):=by
 unfold m20
 rw [eR,wOk_eq,oB]
 by_cases h:OkR r
 ·rw [dT h,notT,cF,wEn_all,oB,en2_ok h,if_pos h]
 ·rw [decide_eq_false h,notF,cT,if_neg h]
theorem wHead_eq {a:List Rp} (ha:a.length≤1000000):m32 a=some (if OkA a then (rootL (a.map en),0) else ([],390)):=by
 unfold m32
 rw [wValid_eq ha,oB]
 by_cases h:OkA a
 ·obtain ⟨a1,a2,a3⟩:=h
  rw [dT ⟨a1,a2,a3⟩,notT,cF,if_pos ⟨a1,a2,a3⟩]
  refine bind_of (x:=a.map en) (loopM_at (fun k=>((k:Int),(a.take k).map en)) a.length rfl (fun k hk=>?_) ?_) ?_
  ·have ho:=a1 _ (List.getElem_mem hk)
   dsimp only
   rw [lenI,ltI (by omega),cT,idxM_lt hk,oB,eR,wEn_all,oB,en2_ok ho,appM_of (by simp;omega),oB,wrap_in (by omega) (by omega),List.take_add_one,List.getElem?_eq_getElem hk,List.map_append]
   rfl
  ·dsimp only
   rw [lenI,geI (by omega),cF,List.take_length]
  ·rw [wRoot_ok (by simp;omega) (fun s hs=>by
    obtain ⟨r,hr,rfl⟩:=List.mem_map.1 hs
    have:=(okR_len (a1 r hr)).2
    omega),oB]
 ·rw [decide_eq_false h,notF,cT,if_neg h]
theorem wLoad_ok {l:List Bs} (hl:l.length≤1000) (hs:∀ s∈l,s.length≤1000000):∃ D:List Rp,(∀ r,r∈D↔OkR r∧en r∈l)∧m24 l=some (mk40 (arch D)):=by
 have key:Ans (m24 l) (fun o=>∃ D:List Rp,(∀ r,r∈D↔OkR r∧en r∈l)∧o=mk40 (arch D)):=by
  unfold m24
  refine Ans.bind (P:=fun (D:List Rp)=>D.length≤l.length∧∀ r,r∈D↔OkR r∧en r∈l) ?_ fun D hD=>?_
  ·refine Ans.loop (fun k z=>∃ D:List Rp,z=((k:Int),D)∧k≤l.length∧D.length≤k∧∀ r,r∈D↔OkR r∧en r∈l.take k) l.length ⟨[],rfl,by omega,by simp,fun r=>by simp⟩ ?_
   rintro k z hk ⟨D,rfl,h1,h2,h3⟩
   dsimp only
   rw [lenI]
   by_cases hkl:k<l.length
   ·rw [ltI (by omega),cT,idxM_lt hkl,oB]
    obtain ⟨o,e1,e2,e3⟩:=wDec_ok (hs _ (List.getElem_mem hkl))
    have tk:l.take (k+1)=l.take k++[l[k]]:=by rw [List.take_add_one,List.getElem?_eq_getElem hkl];rfl
    rw [e1,oB]
    by_cases hx:∃ r,OkR r∧l[k]=en r
    ·obtain ⟨x,hx1,hx2⟩:=hx
     rw [e2 x hx1 hx2]
     dsimp only
     rw [eqI rfl,cT,eR,appR (by simp;omega),oB,oB,wrap_in (by omega) (by omega)]
     refine Ans.some ⟨by omega,D++[x],rfl,by omega,by simp;omega,fun r=>?_⟩
     rw [tk,List.mem_append,List.mem_singleton,List.mem_append,List.mem_singleton,h3]
     constructor
     ·rintro (⟨p,q⟩ | p)
      ·exact ⟨p,.inl q⟩
      ·rw [p];exact ⟨hx1,.inr hx2.symm⟩
     ·rintro ⟨p,q | q⟩
      ·exact .inl ⟨p,q⟩
      ·exact .inr (en_inj (q.trans hx2))
    ·have hne:∀ r,OkR r→l[k]≠en r:=fun r h1 h2=>hx ⟨r,h1,h2⟩
     rw [e3 hne]
     dsimp only
     rw [neI (by decide),cF,oB,wrap_in (by omega) (by omega)]
     refine Ans.some ⟨by omega,D,rfl,by omega,by omega,fun r=>?_⟩
     rw [tk,List.mem_append,List.mem_singleton,h3]
     constructor
     ·rintro ⟨p,q⟩;exact ⟨p,.inl q⟩
     ·rintro ⟨p,q | q⟩
      ·exact ⟨p,q⟩
      ·exact absurd q.symm (hne r p)
   ·rw [geI (by omega),cF]
    rw [List.take_of_length_le (by omega)] at h3
    exact Ans.some ⟨by omega,h3⟩
  ·exact Ans.of (bind_of (made_ok (xs:=D) (fun x hx=>((hD.2 x).1 hx).1) (by omega)) rfl) ⟨D,hD.2,rfl⟩
 obtain ⟨o,h1,D,h2,rfl⟩:=key
 exact ⟨D,h2,h1⟩
theorem wBelieved_eq {a:List Rp} {s:Int} (ha:a.length≤1000000):m34 (a,s)=some (if OkA a then bel a s else []):=by
 unfold m34
 dsimp only
 rw [wValid_eq ha,oB]
 by_cases h:OkA a
 ·rw [dT h,notT,cF,wBel_ok h,oB,if_pos h]
 ·rw [decide_eq_false h,notF,cT,if_neg h]
end Go.Proofs.YtdnabfadigkjgaaGreatDoor
namespace Go.Ar
def Kc (x y:Rp):Prop:=x.su<y.su∨(x.su=y.su∧x.sv<y.sv)
theorem Kc.irr (x:Rp):¬ Kc x x:=by unfold Kc;omega
theorem Kc.tr {x y z:Rp} (h:Kc x y) (k:Kc y z):Kc x z:=by unfold Kc at *;omega
def curAll (a:List Rp):List Rp:=(List.range 8).flatMap fun (s:Nat)=>curOf (bel a s)
structure CurR (a ys:List Rp):Prop where
 ord:ys.Pairwise Kc
 mem:∀ x,x∈ys↔x∈curAll a
theorem CurR.uniq {a ys zs:List Rp} (h:CurR a ys) (k:CurR a zs):ys=zs:=ext_of Kc.irr (fun h k=>Kc.tr h k) h.ord k.ord fun x=>by rw [h.mem,k.mem]
theorem curOf_mem {l:List Rp} {x:Rp} (h:x∈curOf l):x∈l∧x.ki≠2:=by
 obtain ⟨h1,_,h2,_⟩:=curS_mem _ _ _ x h
 exact ⟨by simpa using h1,h2⟩
theorem bel_sv {a:List Rp} {s:Int} {x:Rp} (h:x∈bel a s):x∈a∧x.sv=s:=by
 obtain ⟨i,hi,e⟩:=List.getElem_of_mem h
 have:=Pbel.mem (bel_is a s).1 (i:=i) (r:=x) (by rw [List.getElem?_eq_getElem hi,e])
 exact ⟨this.1,this.2.1⟩
theorem curAll_mem {a:List Rp} {x:Rp}:x∈curAll a↔∃ s:Nat,s<8∧x∈curOf (bel a s):=by
 unfold curAll
 rw [List.mem_flatMap]
 constructor
 ·rintro ⟨s,h1,h2⟩;exact ⟨s,List.mem_range.1 h1,h2⟩
 ·rintro ⟨s,h1,h2⟩;exact ⟨s,List.mem_range.2 h1,h2⟩
theorem curOf_dist (l:List Rp):(curOf l).Pairwise fun a b=>a.su≠b.su:=curS_dist _ _ _
theorem curAll_dist (a:List Rp):∀ n,((List.range n).flatMap fun (s:Nat)=>curOf (bel a s)).Pairwise fun x y=>¬ (x.su=y.su∧x.sv=y.sv)
 | 0=>List.Pairwise.nil
 | n+1=>by
  rw [List.range_succ,List.flatMap_append]
  refine List.pairwise_append.2 ⟨curAll_dist a n,?_,fun x hx y hy h=>?_⟩
  ·simp only [List.flatMap_cons,List.flatMap_nil,List.append_nil]
   exact (curOf_dist _).imp fun h k=>h k.1
  ·simp only [List.flatMap_cons,List.flatMap_nil,List.append_nil] at hy
   rw [List.mem_flatMap] at hx
   obtain ⟨s,h1,h2⟩:=hx
   have e1:=(bel_sv (curOf_mem h2).1).2
   have e2:=(bel_sv (curOf_mem hy).1).2
   have:=List.mem_range.1 h1
   omega
theorem strict_of {ys out:List Rp} (hp:ys.Perm out) (hd:out.Pairwise fun x y=>¬ (x.su=y.su∧x.sv=y.sv)) (hs:ys.Pairwise fun x y=>¬ Kc y x):ys.Pairwise Kc:=by
 have hd2:ys.Pairwise fun x y=>¬ (x.su=y.su∧x.sv=y.sv):=(hp.pairwise_iff (fun {x y} h k=>h ⟨k.1.symm,k.2.symm⟩)).2 hd
 refine (List.Pairwise.and hs hd2).imp fun h=>?_
 unfold Kc at *
 omega
def frkG:Rp→List Rp→List (Int×Int)→List (Int×Int)
 | _,[],out=>out
 | last,r::t,out=>frkG r t (if last.sv=r.sv∧last.nu=r.nu∧(out=[]∨(out.getLast?.map Prod.fst)≠some r.sv) then out++[(r.sv,r.nu)] else out)
def frk:List Rp→List (Int×Int)
 | []=>[]
 | x::t=>frkG x t []
def SameK (x y:Rp):Prop:=x.sv=y.sv∧x.nu=y.nu
theorem frkG_none:∀ (l:List Rp) (x:Rp) (out:List (Int×Int)),(x::l).Pairwise (fun x y=>¬ SameK x y)→frkG x l out=out
 | [],_,_,_=>rfl
 | y::l,x,out,h=>by
  obtain ⟨h1,h2⟩:=List.pairwise_cons.1 h
  unfold frkG
  rw [if_neg fun e=>h1 y (by simp) ⟨e.1,e.2.1⟩]
  exact frkG_none l y out h2
theorem frk_none {l:List Rp} (h:l.Pairwise (fun x y=>¬ SameK x y)):frk l=[]:=by
 cases l with
 | nil=>rfl
 | cons x t=>exact frkG_none t x [] h
theorem Up.frk_none {a:List Rp} (h:∀ x∈a,∀ y∈a,SameK x y→x=y) (hu:Up a):frk a=[]:=by
 refine Go.Ar.frk_none (List.Pairwise.imp_of_mem (fun {x y} hx hy hlt hs=>?_) hu)
 rw [h x hx y hy hs,ltR_irr] at hlt;cases hlt
end Go.Ar
namespace Go.Proofs.YtdnabfadigkjgaaGreatDoor
open Go Go.Lib Go.Abs Go.PE Go.Ar Go.Sort
open Go.Proofs (ltOf)
def Bits (n:Nat) (w:List Bool) (W:List Int):Prop:=w.length=n∧∀ b:Nat,b<n→w[b]? = some (decide ((b:Int)∈W))
theorem Bits.zero (n:Nat):Bits n (List.replicate n false) []:=⟨by simp,fun b hb=>by simp [hb]⟩
theorem Bits.get {n:Nat} {w:List Bool} {W:List Int} (h:Bits n w W) {i:Int} (h0:0≤i) (hi:i<n):idxM w i=some (decide (i∈W)):=by
 obtain ⟨b,rfl⟩:=Int.eq_ofNat_of_zero_le h0
 rw [idxM_nat];exact h.2 b (by omega)
theorem Bits.put {n:Nat} {w:List Bool} {W:List Int} (h:Bits n w W) {i:Int} (h0:0≤i) (hi:i<n):setM w i (fun _=>some true)=some (w.set i.toNat true)∧Bits n (w.set i.toNat true) (i::W):=by
 obtain ⟨h1,h2⟩:=h
 refine ⟨setM_of h0 (by omega) rfl,by rw [List.length_set];exact h1,fun b hb=>?_⟩
 rw [List.getElem?_set]
 by_cases e:i.toNat=b
 ·rw [if_pos e,if_pos (by omega)]
  have:(b:Int)=i:=by omega
  simp [this]
 ·rw [if_neg e,h2 b hb]
  have:(b:Int)≠i:=by omega
  simp [this]
theorem hundred:[false,false,false,false,false,false,false,false,false,false,false,false,false,false,false,false,false,false,false,false,false,false,false,false,false,false,false,false,false,false,false,false,false,false,false,false,false,false,false,false,false,false,false,false,false,false,false,false,false,false,false,false,false,false,false,false,false,false,false,false,false,false,false,false,false,false,false,false,false,false,false,false,false,false,false,false,false,false,false,false,false,false,false,false,false,false,false,false,false,false,false,false,false,false,false,false,false,false,false,false]=List.replicate 100 false:=rfl
theorem wCur_ok {a:List Rp} (h:OkA a):∃ ys,m33 a=some ys∧CurR a ys:=by
 obtain ⟨a1,a2,a3⟩:=h
 have key:Ans (m33 a) (CurR a):=by
  unfold m33
  rw [wValid_eq (by omega),oB,dT ⟨a1,a2,a3⟩,notT,cF]
  refine Ans.seq (x:=curAll a) (loopM_at (fun k=>((k:Int),(List.range k).flatMap fun (s:Nat)=>curOf (bel a s))) 8 rfl (fun k hk=>?_) ?_) ?_
  ·dsimp only
   rw [ltI (by omega),cT,wBel_ok ⟨a1,a2,a3⟩,oB]
   have hb:Pbel a k (bel a k):=(bel_is a k).1
   have hok:∀ r∈bel a (k:Int),OkR r:=fun r hr=>a1 r (bel_sv hr).1
   have hlen:=Pbel.ok hb a1
   have hout:((List.range k).flatMap fun (s:Nat)=>curOf (bel a s)).length≤40*k:=by
    rw [List.length_flatMap]
    have:∀ (L:List Nat),((L.map fun (s:Nat)=>(curOf (bel a s)).length).sum)≤40*L.length:=fun L=>by
     induction L with
     | nil=>simp
     | cons x L ih =>
      have h1:=Pbel.ok (bel_is a x).1 a1
      have h2:(curOf (bel a x)).length≤(bel a x).length:=nodup_len ((curOf_dist _).imp fun h e=>h (by rw [e])) fun y hy=>(curOf_mem hy).1
      simp only [List.map_cons,List.sum_cons,List.length_cons];omega
    simpa using this (List.range k)
   dsimp only
   rw [lenI,mkM_of (by omega) (by omega) (by show _*1≤_;omega),oB,Int.toNat_natCast,wrap_in (n:=((bel a (k:Int)).length:Int)-1) (by omega) (by omega),hundred,List.range_succ,List.flatMap_append]
   simp only [List.flatMap_cons,List.flatMap_nil,List.append_nil]
   generalize (List.range k).flatMap (fun (s:Nat)=>curOf (bel a s))=o0 at hout
   generalize bel a (k:Int)=l at hb hok hlen
   refine Ans.bindEq (Q:=fun (o:List Bool×List Bool×List Rp)=>o.2.2=o0++curOf l) ?_ fun o ho=>by
    rw [wrap_in (by omega) (by omega),ho];rfl
   refine Ans.loop (fun j z=>j≤l.length∧∃ (wd sn:List Bool) (W SN:List Int) (O:List Rp),z=((l.length:Int)-1-(j:Int),wd,sn,o0++O)∧Bits l.length wd W∧Bits 100 sn SN∧O.length≤j∧curS ((l.take (l.length-j)).reverse) W SN O=curOf l) l.length ⟨by omega,_,_,[],[],[],by simp,Bits.zero _,Bits.zero _,by simp,by rw [Nat.sub_zero,List.take_length];rfl⟩ ?_
   rintro j z hj ⟨q0,wd,sn,W,SN,O,rfl,q1,q2,q3,q4⟩
   dsimp only
   by_cases hjl:j<l.length
   ·obtain ⟨m,hm⟩:∃ m,l.length-j=m+1:=⟨l.length-j-1,by omega⟩
    have hml:m<l.length:=by omega
    have hi:(l.length:Int)-1-(j:Int)=(m:Int):=by omega
    have hget:=List.getElem?_eq_getElem hml
    have hr:=hok _ (List.getElem_mem hml)
    have hnu:=(hb.mem hget).2.2
    have htk:(l.take (m+1)).reverse=l[m]::(l.take m).reverse:=by
     rw [List.take_add_one,hget,Option.toList_some,List.reverse_append];rfl
    rw [hm,htk] at q4
    rw [hi,leI (by omega),cT,idxM_lt hml,oB,chkM_of (by omega) (by rw [lenI,q1.1];omega),oB,q1.get (by omega) (by omega),oB]
    generalize l[m]=r at hr hnu q4
    obtain ⟨b1,b2,b3,b4,b5,b6,b7,b8,b9⟩:=hr
    unfold curS at q4
    rw [hnu] at q4
    by_cases hw:(m:Int)∈W
    ·rw [dT hw,cT,oB,wrap_in (by omega) (by omega)]
     rw [if_pos hw] at q4
     exact Ans.some ⟨by omega,by omega,wd,sn,W,SN,O,by rw [show (m:Int)-1=(l.length:Int)-1-((j+1:Nat):Int) by omega],q1,q2,by omega,by rw [show l.length-(j+1)=m by omega];exact q4⟩
    ·rw [decide_eq_false hw,cF]
     rw [if_neg hw] at q4
     by_cases hk2:r.ki=2
     ·rw [if_pos hk2] at q4
      have hrf:0≤r.rf∧r.rf<(m:Int):=by omega
      obtain ⟨p1,p2⟩:=q1.put (i:=r.rf) hrf.1 (by omega)
      rw [eqI (show r.2.2.2.1=2 from hk2),cT,chkM_of hrf.1 (by rw [lenI,q1.1];show r.rf<_;omega),oB,p1,oB,oB,wrap_in (by omega) (by omega)]
      exact Ans.some ⟨by omega,by omega,_,sn,r.rf::W,SN,O,by rw [show (m:Int)-1=(l.length:Int)-1-((j+1:Nat):Int) by omega],p2,q2,by omega,by rw [show l.length-(j+1)=m by omega];exact q4⟩
     ·rw [if_neg hk2] at q4
      have hsu:0≤r.su∧r.su<100:=by omega
      rw [neI (show r.2.2.2.1≠2 from hk2),cF,chkM_of hsu.1 (by show r.su<100;exact hsu.2),oB,z01,q2.get hsu.1 hsu.2,oB]
      by_cases hs:r.su∈SN
      ·rw [if_pos hs] at q4
       rw [dT hs,notT,cF,oB,wrap_in (by omega) (by omega)]
       exact Ans.some ⟨by omega,by omega,wd,sn,W,SN,O,by rw [show (m:Int)-1=(l.length:Int)-1-((j+1:Nat):Int) by omega],q1,q2,by omega,by rw [show l.length-(j+1)=m by omega];exact q4⟩
      ·rw [if_neg hs] at q4
       obtain ⟨p1,p2⟩:=q2.put (i:=r.su) hsu.1 hsu.2
       rw [decide_eq_false hs,notF,cT,oB,p1,oB,eR,appR (by simp;omega),oB,oB,wrap_in (by omega) (by omega)]
       exact Ans.some ⟨by omega,by omega,wd,_,W,r.su::SN,O++[r],by rw [show (m:Int)-1=(l.length:Int)-1-((j+1:Nat):Int) by omega,List.append_assoc],q1,p2,by simp;omega,by rw [show l.length-(j+1)=m by omega];exact q4⟩
   ·rw [gtI (by omega),cF]
    rw [show l.length-j=0 by omega,List.take_zero] at q4
    refine Ans.some ?_
    show o0++O=_
    rw [← q4];rfl
  ·dsimp only
   rw [geI (by omega),cF]
   rfl
  ·have hin:∀ q∈curAll a,OkR q:=fun q hq=>by
    obtain ⟨s,_,h⟩:=curAll_mem.1 hq
    exact a1 q (bel_sv (curOf_mem h).1).1
   have hlen:(curAll a).length≤40:=by
    have hd:=curAll_dist a 8
    refine Nat.le_trans (nodup_len (m:=a) (List.Pairwise.imp (fun {x y} h e=>h (by rw [e];exact ⟨rfl,rfl⟩)) hd) fun x hx=>?_) a3
    obtain ⟨s,_,h⟩:=curAll_mem.1 hx
    exact (bel_sv (curOf_mem h).1).1
   obtain ⟨ys,h1,h2,h3⟩:=sortR swo82 hin (by omega)
   refine Ans.seq h1 (Ans.some ⟨strict_of h2 (curAll_dist a 8) (h3.imp fun {x y} h k=>?_),fun x=>h2.mem_iff⟩)
   rw [(lt82 y x).2 k] at h;cases h
 exact key
theorem getLast_idx {α:Type} {l:List α} (h:l≠[]):idxM l ((l.length:Int)-1)=l.getLast? := by
 have:=List.length_pos_iff.2 h
 rw [show (l.length:Int)-1=((l.length-1:Nat):Int) by omega,idxM_nat,List.getLast?_eq_getElem?]
theorem wForks_eq {a:List Rp} (h:OkA a):m39 a=some (frk a):=by
 obtain ⟨a1,a2,a3⟩:=h
 unfold m39
 rw [wValid_eq (by omega),oB,dT ⟨a1,a2,a3⟩,notT,cF,lenI]
 cases a with
 | nil =>
  rw [show min (1:Int) ((([]:List Rp).length:Nat):Int)=0 from rfl,sliceM_of (by omega) (by simp) (by simp),oB]
  refine bind_of (x:=[]) ?_ rfl
  rw [loopM_eq];rfl
 | cons x t =>
  have hl:(x::t).length=t.length+1:=rfl
  rw [hl] at a3
  rw [show min (1:Int) (((x::t).length:Nat):Int)=1 by rw [hl];omega,sliceM_of (by omega) (by rw [hl];omega) (Int.le_refl _),oB,Int.toNat_natCast,List.take_length]
  show (loopM _ _).bind _=some (frkG x t [])
  refine Ans.bindEq (Q:=fun o=>o=frkG x t []) ?_ fun o ho=>by rw [ho]
  refine Ans.loop (fun k z=>∃ out y,z=((k:Int),out)∧k≤t.length∧out.length≤k∧(x::t)[k]? = some y∧frkG y (t.drop k) out=frkG x t []) t.length ⟨[],x,rfl,by omega,by simp,rfl,rfl⟩ ?_
  rintro k z hk ⟨out,y,rfl,h1,h2,h3,h4⟩
  have hd:List.drop (1:Int).toNat (x::t)=t:=rfl
  dsimp only
  rw [hd,lenI]
  by_cases hkl:k<t.length
  ·have hdk:t.drop k=t[k]::t.drop (k+1):=List.drop_eq_getElem_cons hkl
   rw [hdk,frkG] at h4
   rw [ltI (by omega),cT,idxM_lt hkl,oB,idxM_nat,h3,oB]
   have hnext:(x::t)[k+1]? = some t[k]:=by rw [List.getElem?_cons_succ,List.getElem?_eq_getElem hkl]
   generalize t[k]=r at h4 hnext
   refine Ans.bind (P:=fun o=>o=if y.sv=r.sv∧y.nu=r.nu∧(out=[]∨(out.getLast?.map Prod.fst)≠some r.sv) then out++[(r.sv,r.nu)] else out) ?_ fun o ho=>?_
   ·rw [lenI]
    by_cases ho:out=[]
    ·subst ho
     rw [show ((([]:List (Int×Int)).length:Nat):Int)=0 from rfl,eqI rfl,notT]
     simp only [cF,oB,orT]
     by_cases hc:y.sv=r.sv∧y.nu=r.nu
     ·rw [eqI (show y.1=r.1 from hc.1),eqI (show y.2.1=r.2.1 from hc.2),if_pos ⟨hc.1,hc.2,.inl trivial⟩]
      simp only [andT,cT]
      rw [appM_of (by simp),oB]
      exact Ans.some rfl
     ·have:PE.andM (PE.andM (eqM y.1 r.1) (eqM y.2.1 r.2.1)) true=false:=by
       unfold PE.andM eqM
       rw [Bool.and_true,← Bool.decide_and];exact decide_eq_false hc
      rw [this,cF,if_neg fun q=>hc ⟨q.1,q.2.1⟩]
      exact Ans.some rfl
    ·have hpos:=List.length_pos_iff.2 ho
     obtain ⟨v,hv⟩:∃ v,out.getLast? = some v:=⟨_,List.getLast?_eq_some_getLast ho⟩
     rw [neI (by omega),notF,wrap_in (n:=(out.length:Int)-1) (by omega) (by omega),chkM_of (by omega) (by omega),getLast_idx ho,hv]
     simp only [cT,oB,orF]
     by_cases hc:y.sv=r.sv∧y.nu=r.nu∧v.1≠r.sv
     ·rw [eqI (show y.1=r.1 from hc.1),eqI (show y.2.1=r.2.1 from hc.2.1),neI (show v.1≠r.1 from hc.2.2),if_pos ⟨hc.1,hc.2.1,.inr (by simpa using hc.2.2)⟩]
      simp only [andT,notF,cT]
      rw [appM_of (by simp;omega),oB]
      exact Ans.some rfl
     ·have:PE.andM (PE.andM (eqM y.1 r.1) (eqM y.2.1 r.2.1)) (PE.notM (eqM v.1 r.1))=false:=by
       unfold PE.andM eqM PE.notM
       rw [← decide_not,← Bool.decide_and,← Bool.decide_and]
       exact decide_eq_false fun q=>hc ⟨q.1.1,q.1.2,q.2⟩
      rw [this,cF,if_neg fun q=>hc ⟨q.1,q.2.1,by
       rcases q.2.2 with w | w
       ·exact absurd w ho
       ·simpa using w⟩]
      exact Ans.some rfl
   ·rw [wrap_in (by omega) (by omega)]
    refine Ans.some ⟨by omega,o,r,rfl,by omega,?_,hnext,by rw [ho];exact h4⟩
    rw [ho];split
    ·simp;omega
    ·omega
  ·rw [geI (by omega),cF]
   rw [List.drop_of_length_le (by omega)] at h4
   exact Ans.some h4
theorem count_eq {l:List Rp} {s:Int} (hl:l.length≤1000000):m36 (l,s)=some ((ownL l s).length:Int):=by
 unfold m36
 dsimp only
 refine bind_of (loopM_at (fun k=>(((ownL (l.take k) s).length:Int),(k:Int))) l.length rfl (fun k hk=>?_) ?_) rfl
 ·have:=own_le (l.take k) s
  rw [List.length_take] at this
  dsimp only
  rw [lenI,ltI (by omega),cT,idxM_lt hk,oB,List.take_add_one,List.getElem?_eq_getElem hk,Option.toList_some,own_snoc]
  by_cases e:l[k].sv=s
  ·rw [eqI (show l[k].1=s from e),cT,if_pos e,oB,wrap_in (by omega) (by omega),wrap_in (by omega) (by omega)]
   simp
  ·rw [neI (show l[k].1≠s from e),cF,if_neg e,oB,wrap_in (by omega) (by omega)]
   rfl
 ·dsimp only
  rw [lenI,geI (by omega),cF,List.take_length]
end Go.Proofs.YtdnabfadigkjgaaGreatDoor
namespace Go.Ar
set_option maxRecDepth 100000
def k32:Bs:=List.replicate 32 107
def s1:Rp:=(3,0,100,1,5,10,-1,h0,[183,206,247,132,16,190,162,145,231,189,128,117,78,27,252,149,175,238,66,166,50,20,35,39,34,221,47,214,44,75,7,158])
def s2:Rp:=(3,1,200,1,5,12,-1,[141,45,5,180,132,107,163,71,50,199,12,151,27,190,196,105,90,110,52,3,63,255,31,52,164,0,206,211,166,47,30,41],[110,201,126,255,249,203,131,70,149,121,71,16,89,238,29,209,133,171,181,98,19,26,47,68,242,242,28,160,205,58,126,70])
def s3:Rp:=(3,2,300,2,0,0,1,[81,72,191,58,53,82,76,30,92,225,77,36,254,82,252,234,221,103,150,8,17,226,120,99,254,250,153,51,12,193,93,254],[0,67,231,216,185,110,57,4,166,255,159,196,218,133,151,64,29,220,125,40,41,61,215,160,229,170,251,5,10,18,80,38])
def s4:Rp:=(s2.1,s2.2.1,201,s2.2.2.2)
theorem x1:wrR k32 [] (3,0,100,1,5,10,-1,[],[])=(s1,0):=by decide +kernel
theorem x2:addR [] s1=([s1],0):=by decide +kernel
theorem x3:wrR k32 [s1] (3,0,200,1,5,12,-1,[],[])=(s2,0):=by decide +kernel
theorem x4:addR [s1] s2=([s1,s2],0):=by decide +kernel
theorem x5:wrR k32 [s1,s2] (3,0,300,2,0,0,1,[],[])=(s3,0):=by decide +kernel
theorem x6:addR [s1,s2] s3=([s1,s2,s3],0):=by decide +kernel
theorem x7:OkR s1:=by decide +kernel
theorem x8:wrR [107] [s1] s1=(zR,390):=by decide +kernel
theorem x9:mrg [s1] [s3]=([s1,s3],0):=by decide +kernel
theorem x10:addR [s1,s2,s3] s4=([s1,s2,s4,s3],0):=by decide +kernel
theorem x11:miss [s1,s2,s3] [s1]=([s2,s3],0):=by decide +kernel
theorem x12:OkA [s1]:=by decide +kernel
theorem x13:OkA [s1,s2]:=by decide +kernel
theorem x14:OkA [s1,s2,s3]:=by decide +kernel
theorem x15:curAll [s1]=[s1]:=by decide +kernel
theorem x16:curAll [s1,s2]=[s2]:=by decide +kernel
theorem x17:curAll [s1,s2,s3]=[s1]:=by decide +kernel
theorem x18:bel [s1,s2,s3] 3=[s1,s2,s3]:=by decide +kernel
theorem x19:OkA [s1,s3]∧bel [s1,s3] 3=[s1]:=by decide +kernel
theorem x20:OkA [s2,s3]∧bel [s2,s3] 3=[]:=by decide +kernel
theorem x21:OkA [s1,s2,s4,s3]∧bel [s1,s2,s4,s3] 3=[s1]:=by decide +kernel
theorem x22:frk [s1,s2,s4,s3]=[(3,1)]:=by decide +kernel
theorem x23:frk [s1,s2,s3]=[]:=by decide +kernel
theorem x24:9≤(en s1).length∧(en s1).take 9=[6,0,200,1,2,10,20,1,64]:=by decide +kernel
theorem x25:Gen k32 s2:=by decide +kernel
theorem x26:¬ Gen k32 s4:=by decide +kernel
theorem x27:¬ OkA [s2,s1]:=by decide +kernel
theorem en_eq0 (r:Rp):en r=pI r.sv++(pI r.nu++(pI r.da++(pI r.ki++(pI r.su++(pI r.va++(pI r.rf++(pS r.pv++pS r.tg))))))):=by
 unfold en sg;simp
theorem en_long (r:Rp):7≤(en r).length:=by
 have:=pI_pos r.sv
 have:=pI_pos r.nu
 have:=pI_pos r.da
 have:=pI_pos r.ki
 have:=pI_pos r.su
 have:=pI_pos r.va
 have:=pI_pos r.rf
 rw [en_eq0]
 simp only [List.length_append];omega
end Go.Ar
namespace Go.Proofs.YtdnabfadigkjgaaGreatDoor
open Go Go.Lib Go.Abs Go.PE Go.Ar
set_option maxRecDepth 100000
theorem bif_no {α:Type} {c:Bool} {a b r:α} (h:c=false) (h2:b=r):(bif c then a else b)=r:=by rw [h];exact h2
theorem bif_yes {α:Type} {c:Bool} {a b r:α} (h:c=true) (h2:a=r):(bif c then a else b)=r:=by rw [h];exact h2
theorem cur_is {a l:List Rp} (h:OkA a) (hc:curAll a=l) (hl:l.length=1):m33 a=some l:=by
 obtain ⟨ys,h1,h2⟩:=wCur_ok h
 obtain ⟨x,rfl⟩:=List.length_eq_one_iff.1 hl
 rw [h1,h2.uniq (zs:=[x]) ⟨List.pairwise_singleton _ _,fun y=>by rw [hc]⟩]
theorem believed_is {a l:List Rp} {s:Int} (h:OkA a∧bel a s=l):m34 (a,s)=some l:=by
 have:=h.1.2.2
 rw [wBelieved_eq (by omega),if_pos h.1,h.2]
theorem load_is:m24 [en s1,[120]]=some ([s1],0):=by
 have hen:=(okR_len x7).2
 obtain ⟨D,h1,h2⟩:=wLoad_ok (l:=[en s1,[120]]) (by simp) (fun s hs=>by
  rcases List.mem_cons.1 hs with q | q
  ·rw [q];omega
  ·rw [List.mem_singleton.1 q];simp)
 have e:arch D=[s1]:=(up_arch (l:=[s1]) (List.pairwise_singleton _ _) fun r=>by
  rw [h1,List.mem_singleton]
  constructor
  ·intro q;rw [q];exact ⟨x7,by simp⟩
  ·rintro ⟨q1,q2⟩
   rcases List.mem_cons.1 q2 with q | q
   ·exact en_inj q
   ·have q:=List.mem_singleton.1 q
    have:=en_long r
    rw [q] at this
    simp at this).symm
 rw [h2,e];rfl
theorem sane_ok:m11 ()=some true:=by
 unfold m11
 have L1:([s1]:List Rp).length≤1000000:=by simp
 have L2:([s1,s2]:List Rp).length≤1000000:=by simp
 have L3:([s1,s2,s3]:List Rp).length≤1000000:=by simp
 have w:∀ {key:Bs} {a:List Rp} {r:Rp} {v:Rp×Int},a.length≤1000000→wrR key a r=v→m37 (key,a,r)=some v:=fun ha h=>by rw [wWrite_eq ha,h]
 have ad:∀ {a:List Rp} {r:Rp} {v:List Rp×Int},a.length≤1000000→addR a r=v→m31 (a,r)=some v:=fun ha h=>by rw [wAdd_eq ha,h]
 refine bind_of (w (by simp) x1) ?_
 refine bind_of (ad (by simp) x2) ?_
 refine bind_of (w L1 x3) ?_
 refine bind_of (ad L1 x4) ?_
 refine bind_of (w L2 x5) ?_
 refine bind_of (ad L2 x6) ?_
 refine bind_of (x:=(en s1,0)) ((wEnc_eq s1).trans (by rw [if_pos x7])) ?_
 refine bind_of (w L1 x8) ?_
 refine bif_no (by decide +kernel) ?_
 refine bind_of ((wMerge_eq L1 (by simp)).trans (congrArg some x9)) ?_
 refine bind_of (ad L3 x10) ?_
 refine bind_of ((wMiss_eq L3 L1).trans (congrArg some x11)) ?_
 refine bind_of load_is ?_
 refine bind_of (x:=(leaf (en s1),0)) ((wHead_eq L1).trans (by rw [if_pos x12];exact congrArg some (congrArg (fun z=>(z,(0:Int))) (rootL_one _)))) ?_
 refine bind_of (x:=leaf (en s1)) (bif_yes rfl (wLeaf_ok (a:=en s1) (by have:=(okR_len x7).2;omega))) ?_
 refine bif_no (by
  show PE.orM _ (PE.notM (eqsM (leaf (en s1)) (leaf (en s1))))=false
  rw [eqsT rfl];rfl) ?_
 refine bind_of (cur_is x12 x15 rfl) ?_
 refine bind_of (cur_is x13 x16 rfl) ?_
 refine bind_of (cur_is x14 x17 rfl) ?_
 refine bind_of (x:=s1) rfl ?_
 refine bind_of (x:=s2) rfl ?_
 refine bind_of (x:=s1) rfl ?_
 refine bind_of (believed_is ⟨x14,x18⟩) ?_
 refine bind_of (x:=[s1]) (bif_yes rfl (believed_is x19)) ?_
 refine bind_of (x:=[]) (bif_yes rfl (believed_is x20)) ?_
 refine bind_of (x:=[s1]) (bif_yes rfl (believed_is x21)) ?_
 refine bind_of ((wForks_eq x21.1).trans (congrArg some x22)) ?_
 refine bind_of (x:=true) ((samePairs_eq (by simp)).trans (by rw [dT rfl])) ?_
 refine bind_of (x:=[]) (bif_yes rfl ((wForks_eq x14).trans (congrArg some x23))) ?_
 refine bind_of (x:=[6,0,200,1,2,10,20,1,64]) (bif_yes rfl ?_) ?_
 ·show sliceM (en s1) 0 9=_
  rw [sliceM_of (by omega) (by omega) (by have:=x24.1;omega)]
  exact congrArg some x24.2
 refine bind_of (x:=true) (bif_yes rfl ((same_eq (by simp)).trans (by rw [dT rfl]))) ?_
 refine bind_of (x:=true) (bif_yes rfl ((same_eq L1).trans (by rw [dT rfl]))) ?_
 refine bind_of (x:=true) (bif_yes rfl ((wGen_eq k32 s2).trans (by rw [dT x25]))) ?_
 refine bind_of (x:=false) (bif_yes rfl ((wGen_eq k32 s4).trans (by rw [decide_eq_false x26]))) ?_
 refine bind_of (x:=true) (bif_yes rfl ((wValid_eq L3).trans (by rw [dT x14]))) ?_
 refine bind_of (x:=false) (bif_yes rfl ((wValid_eq (by simp)).trans (by rw [decide_eq_false x27]))) ?_
 rfl
structure Good (L a:List Rp):Prop where
 up:Up a
 sub:∀ x∈a,x∈L
structure LOk (L:List Rp):Prop where
 ok:∀ x∈L,OkR x
 len:L.length≤40
theorem Good.len {L a:List Rp} (h:Good L a):a.length≤L.length:=nodup_len h.up.nodup h.sub
theorem Good.ok {L a:List Rp} (hL:LOk L) (h:Good L a):OkA a:=⟨fun x hx=>hL.ok x (h.sub x hx),h.up,by have:=h.len;have:=hL.len;omega⟩
theorem _root_.Go.Ar.Chn.forks {l a:List Rp} (h:Chn l) (ha:Up a) (hs:∀ x∈a,x∈l):frk a=[]:=Up.frk_none (fun x hx y hy e=>h.uniq (hs x hx) (hs y hy) e.1 e.2) ha
theorem believed_of {a l:List Rp} {s:Int} (h:OkA a) (hb:IsBel a s l):m34 (a,s)=some l:=believed_is ⟨h,hb.eq⟩
theorem law6_ok (x:List X6×Int) (hx:∀ y∈x.1,has6 y) (hw:has64 x.2):m6 x=some true:=by
 unfold m6
 refine bind_of sane_ok ?_
 refine bif_no rfl ?_
 have hM:=madeL_mde x.1
 have hl:=madeL_len x.1
 refine bind_of (x:=.inl (arch (madeL x.1),madeL x.1)) (loopM_at (fun k=>((k:Int),arch ((x.1.take k).foldl (fun l x=>l++[nextR l x]) []),(x.1.take k).foldl (fun l x=>l++[nextR l x]) [])) (min x.1.length 16) rfl (fun k hk=>?_) ?_) ?_
 ·have hk1:k<x.1.length:=by omega
  have hk2:k<16:=by omega
  have hxk:=hx _ (List.getElem_mem hk1)
  obtain ⟨hM,hlen⟩:=made_mde (x.1.take k) Mde.nil (by simp;omega)
  rw [List.length_nil,Nat.zero_add,List.length_take] at hlen
  dsimp only
  rw [made_take hk1 hk2]
  generalize (x.1.take k).foldl (fun l x=>l++[nextR l x]) []=l at hM hlen
  have hix:idxM x.1 (k:Int)=some (x.1[k]'hk1):=idxM_lt hk1
  generalize x.1[k]'hk1=y at hxk hix
  have hll:l.length≤39:=by omega
  have hol:=own_le l (pickN y.1 4)
  have hp:=pickN_lt (c:=y.1) (show (0:Int)<4 by omega)
  have ho:=nextR_ok y hll
  have hla:=arch_len l
  have hkey:=key_eq (n:=pickN y.1 4) (by unfold has64;omega)
  have hcount:=count_eq (l:=l) (s:=pickN y.1 4) (by omega)
  have hgen:=nextR_gen y hll
  rw [nextR_sv] at hgen
  refine bif_yes (by unfold PE.andM;rw [ltI (by rw [lenI];omega),ltI (by omega)];rfl) ?_
  refine bind_of hix ?_
  refine bind_of (lpick_eq hxk.1 (by omega)) ?_
  refine bind_of hix ?_
  refine bind_of hcount ?_
  refine bind_of (draft_eq hxk (by omega) (by omega)) ?_
  refine bind_of hkey ?_
  refine bind_of (x:=(nextR l y,0)) (by rw [eR,wWrite_eq (by omega),nextR_wr hM.toChn y hll]) ?_
  refine bind_of (x:=(arch (l++[nextR l y]),0)) (by rw [eR,wAdd_eq (by omega),addR_arch hM.toChn.ok ho hll]) ?_
  refine bind_of (bif_yes rfl hcount) ?_
  have hnu:(nextR l y).2.1=((ownL l (pickN y.1 4)).length:Int):=rfl
  refine bind_of (x:=keyN (pickN y.1 4)) ?_ ?_
  ·dsimp only
   rw [hnu,eqI (a:=((ownL l (pickN y.1 4)).length:Int)) rfl]
   exact hkey
  refine bind_of (x:=true) ?_ ?_
  ·dsimp only
   rw [hnu,eqI (a:=((ownL l (pickN y.1 4)).length:Int)) rfl]
   refine bif_yes rfl ((wGen_eq (keyN (pickN y.1 4)) (nextR l y)).trans (by rw [dT hgen]))
  ·dsimp only
   have d1:(nextR l y).2.2.1=(draft y ((ownL l (pickN y.1 4)).length:Int)).2.2.1:=rfl
   have d2:(nextR l y).2.2.2.2.2.1=(draft y ((ownL l (pickN y.1 4)).length:Int)).2.2.2.2.2.1:=rfl
   have d3:(nextR l y).2.2.2.2.2.2.1=(draft y ((ownL l (pickN y.1 4)).length:Int)).2.2.2.2.2.2.1:=rfl
   rw [hnu,d1,d2,d3,eqI (a:=((ownL l (pickN y.1 4)).length:Int)) rfl,eqI (a:=(draft y ((ownL l (pickN y.1 4)).length:Int)).2.2.1) rfl,eqI (a:=(draft y ((ownL l (pickN y.1 4)).length:Int)).2.2.2.2.2.1) rfl,eqI (a:=(draft y ((ownL l (pickN y.1 4)).length:Int)).2.2.2.2.2.2.1) rfl]
   refine bif_no rfl ?_
   refine bind_of (appR (l:=l) (m:=[nextR l y]) (by simp;omega)) ?_
   rw [wrap_in (by omega) (by omega)]
   rfl
 ·dsimp only
  have:PE.andM (ltM ((min x.1.length 16:Nat):Int) (lenM x.1)) (ltM ((min x.1.length 16:Nat):Int) 16)=false:=by
   unfold PE.andM ltM
   rw [lenI,← Bool.decide_and]
   exact decide_eq_false (by omega)
  rw [this,cF]
  have e:x.1.take (min x.1.length 16)=x.1.take 16:=by
   by_cases h:x.1.length≤16
   ·rw [Nat.min_eq_left h,List.take_length,List.take_of_length_le h]
   ·rw [Nat.min_eq_right (by omega)]
  rw [e];rfl
 show Option.bind _ _=_
 generalize madeL x.1=l at hM hl
 have hok:=hM.toChn.okA (show l.length≤40 by omega)
 have hb:∀ s:Int,m34 (arch l,s)=some (ownL l s):=fun s=>believed_is ⟨hok,hM.toChn.belAll s⟩
 have hc:∀ s:Int,m36 (l,s)=some ((ownL l s).length:Int):=fun s=>count_eq (by omega)
 have hol:=fun s=>own_le l s
 have hF:=Chn.forks hM.toChn (arch_up l) (fun x hx=>(arch_mem l x).1 hx)
 refine bind_of (x:=.inl ()) (loopM_fn (fun k=>(k:Int)) 4 (fun k hk=>?_) (by rw [geI (by omega),cF])) ?_
 ·refine bif_yes (ltI (by omega)) ?_
  refine bind_of (hb _) ?_
  refine bind_of (hc _) ?_
  refine bif_no (by rw [lenI,eqI rfl];rfl) ?_
  have hok:=hol k
  refine bind_of (x:=.inl ()) (loopM_fn (fun j=>(j:Int)) (ownL l (k:Int)).length (fun j hj=>?_) (by rw [lenI,geI (by omega),cF])) ?_
  ·have hg:=List.getElem?_eq_getElem hj
   have hi:=(hM.toChn.idx _ _ _ hg).1
   have hs:=(own_mem.1 (List.getElem_mem hj)).2
   refine bif_yes (ltI (by rw [lenI];omega)) ?_
   refine bind_of (idxM_lt hj) ?_
   rw [eqI (show (ownL l (k:Int))[j].2.1=(j:Int) from hi)]
   refine bind_of (bif_yes rfl (idxM_lt hj)) ?_
   rw [eqI (show (ownL l (k:Int))[j].1=(k:Int) from hs)]
   refine bif_no rfl ?_
   rw [wrap_in (by omega) (by omega)];rfl
  ·show some _=_
   rw [wrap_in (by omega) (by omega)];rfl
 show (bif _ then _ else _)=_
 dsimp only
 by_cases h0:l.length=0
 ·refine bif_yes (by rw [lenI];exact eqI (by omega)) ?_
  refine bind_of ((wForks_eq hok).trans (congrArg some hF)) ?_
  rfl
 refine bif_no (by rw [lenI];exact neI (by omega)) ?_
 have hp:=pickN_lt (c:=x.2) (n:=l.length) (by omega)
 obtain ⟨k,hk⟩:=Int.eq_ofNat_of_zero_le hp.1
 have hkl:k<l.length:=by omega
 refine bind_of (x:=((k:Int),l)) (by rw [lenI,lpick_eq hw (by omega),oB,hk]) ?_
 dsimp only
 refine bind_of (x:=l.take k) (by rw [sliceM_of (by omega) (by omega) (by omega)];simp) ?_
 refine bind_of (x:=l.take k) (by rw [appR (by simp;omega)];rfl) ?_
 refine bind_of (x:=l.drop (k+1)) (by rw [wrap_in (by omega) (by omega),lenI,sliceM_of (by omega) (by omega) (by omega)];simp) ?_
 refine bind_of (appR (by simp;omega)) ?_
 have hL':∀ y,y∈l.take k++l.drop (k+1)↔y∈l∧y≠l[k]:=fun y=>by
  have hn:=hM.toChn.nd
  have e:l=l.take k++l[k]::l.drop (k+1):=by rw [← List.drop_eq_getElem_cons hkl,List.take_append_drop]
  have hn2:(l.take k++l[k]::l.drop (k+1)).Nodup:=e▸hn
  rw [List.nodup_append,List.nodup_cons] at hn2
  have hy:y∈l↔y∈l.take k++l[k]::l.drop (k+1):=by rw [← e]
  rw [hy,List.mem_append,List.mem_append,List.mem_cons]
  constructor
  ·rintro (q | q)
   ·exact ⟨.inl q,fun e2=>hn2.2.2 y q y (List.mem_cons.2 (.inl e2)) rfl⟩
   ·exact ⟨.inr (.inr q),fun e2=>hn2.2.1.1 (e2▸q)⟩
  ·rintro ⟨q | q | q,r⟩
   ·exact .inl q
   ·exact absurd q r
   ·exact .inr q
 have hLl:(l.take k++l.drop (k+1)).length≤16:=by simp;omega
 generalize l.take k++l.drop (k+1)=L' at hL' hLl
 have hLok:∀ y∈L',OkR y:=fun y hy=>hM.ok y ((hL' y).1 hy).1
 have hlk:=hM.ok _ (List.getElem_mem hkl)
 have hA:OkA (arch L'):=⟨fun y hy=>hLok y ((arch_mem L' y).1 hy),arch_up L',by have:=arch_len L';omega⟩
 have hAs:∀ y∈arch L',y∈l:=fun y hy=>((hL' y).1 ((arch_mem L' y).1 hy)).1
 have hF2:=Chn.forks hM.toChn (arch_up L') hAs
 have hix:idxM l (k:Int)=some l[k]:=idxM_lt hkl
 refine bind_of (of_ok hLok (by omega)) ?_
 refine bind_of hix ?_
 refine bind_of (x:=(arch l,0)) (by
  rw [eR,wAdd_eq (by have:=hA.2.2;omega),addR_arch hLok hlk (by omega)]
  congr 2
  refine arch_congr fun y=>?_
  rw [List.mem_append,List.mem_singleton,hL']
  constructor
  ·rintro (q | q)
   ·exact q.1
   ·rw [q];exact List.getElem_mem hkl
  ·intro q
   by_cases e:y=l[k]
   ·exact .inr e
   ·exact .inl ⟨q,e⟩) ?_
 refine bind_of (x:=.inl ()) (loopM_fn (fun s=>(s:Int)) 4 (fun s hs=>?_) (by rw [geI (by omega),cF])) ?_
 ·obtain ⟨i,hi1,hi2⟩:=hM.toChn.get (List.getElem_mem hkl)
  have hmem:∀ y,y∈arch L'↔y∈l∧y≠l[k]:=fun y=>by rw [arch_mem,hL']
  refine bif_yes (ltI (by omega)) ?_
  refine bind_of (hc _) ?_
  by_cases e:(s:Int)=l[k].sv
  ·have hb2:IsBel (arch L') (s:Int) ((ownL l (s:Int)).take i):=by
    refine hM.toChn.isBel (arch_up L').nodup hAs (fun j r hj hr=>(hmem r).2 ⟨(own_mem.1 (List.mem_of_getElem? hr)).1,fun q=>?_⟩) (fun r hr q=>?_)
    ·have:=(hM.toChn.idx _ _ _ hr).1
     rw [q] at this;omega
    ·rw [e,hi2] at hr
     cases hr
     exact ((hmem _).1 q).2 rfl
   have hil:=lt_of_get hi2
   refine bind_of (x:=(i:Int)) (by rw [hix,oB];exact bif_yes (eqI e) (congrArg some hi1)) ?_
   refine bind_of (believed_of hA hb2) ?_
   refine bif_no (by rw [lenI,List.length_take,e,Nat.min_eq_left (Nat.le_of_lt hil),eqI rfl];rfl) ?_
   rw [wrap_in (by omega) (by omega)];rfl
  ·have hb2:IsBel (arch L') (s:Int) ((ownL l (s:Int)).take (ownL l (s:Int)).length):=by
    refine hM.toChn.isBel (arch_up L').nodup hAs (fun j r hj hr=>(hmem r).2 ⟨(own_mem.1 (List.mem_of_getElem? hr)).1,fun q=>e ?_⟩) (fun r hr=>by simp at hr)
    rw [← q];exact (own_mem.1 (List.mem_of_getElem? hr)).2.symm
   rw [List.take_length] at hb2
   refine bind_of (x:=((ownL l (s:Int)).length:Int)) (by rw [hix,oB];exact bif_no (neI e) rfl) ?_
   refine bind_of (believed_of hA hb2) ?_
   refine bif_no (by rw [lenI,eqI rfl];rfl) ?_
   rw [wrap_in (by omega) (by omega)];rfl
 show Option.bind _ _=_
 refine bind_of (x:=true) (bif_yes rfl ((same_eq (a:=arch l) (by have:=hok.2.2;omega)).trans (by rw [dT rfl]))) ?_
 refine bind_of (bif_yes rfl ((wForks_eq hok).trans (congrArg some hF))) ?_
 refine bind_of (bif_yes rfl ((wForks_eq hA).trans (congrArg some hF2))) ?_
 rfl
end Go.Proofs.YtdnabfadigkjgaaGreatDoor
namespace Go.Proofs.YtdnabfadigkjgaaGreatDoor
open Go Go.Abs Go.PE
theorem mem_in {t:Ty} {l:List t.den} (h:InR (.list t) l):∀ x∈l,InR t x:=fun x hx=>by
 obtain ⟨i,hi,rfl⟩:=List.mem_iff_getElem.1 hx
 exact h.2 i _ (List.getElem?_eq_getElem hi)
theorem law6:∀ (S:Cells) (w:World) (η:Eta) (vs:List Value) x,All2 (RM S w η) (rvs as6 x) vs→m6 x=some true :=
 law_of_ok fun x h=>law6_ok x (mem_in h.1) h.2
end Go.Proofs.YtdnabfadigkjgaaGreatDoor
