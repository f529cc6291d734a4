/-
 Texts of this proof, put together: BD, BE, Oc, Od, Oe, Of, OC, Og, Oh, Oi, Oj, Ok, OD, BG, BH, BI, OE, Ol, Om, On, Oo, Op.
 No conditions.
-/
import Derived.Test.YthfgccfaildmfaaGreatDoorZ5
import Derived.Test.YthfgccfaildmfaaGreatDoorZ4
set_option linter.all false
namespace Go.Proofs.YthfgccfaildmfaaGreatDoor
open Go Go.Abs Go.PE
theorem findg_loop {α γ:Type} {xs:List α} (p:α→Bool) (g:Nat→γ) {body:Int→Option (Int⊕(Unit⊕γ))}
  (h1:∀ j,xs.findIdx? p=some j→body (j:Int)=some (.inr (.inr (g j)))) (h2:∀ j (hj:j<xs.length),p xs[j]=false→body (j:Int)=some (.inl ((j:Int)+1))) (he:body (xs.length:Int)=some (.inr (.inl ()))) :
  loopM body 0=some (match xs.findIdx? p with | some j=>.inr (g j) | none=>.inl ()):=by
 cases hf:xs.findIdx? p with
 | none =>
  rw [List.findIdx?_eq_none_iff] at hf
  refine loopM_fn (fun k=>(k:Int)) xs.length (fun k hk=>h2 k hk (hf _ (List.getElem_mem hk))) he
 | some j =>
  obtain ⟨hj,hp,hall⟩:=List.findIdx?_eq_some_iff_getElem.1 hf
  refine loopM_fn (fun k=>(k:Int)) j (fun k hk=>h2 k (by omega) ?_) (h1 j hf)
  have:=hall k hk
  simpa using this
def cst (bs:List (Int×Int×Int)) (m:Nat) (c:Int×Int×Int):Bool:=decide (pl c.2.2 (wkT bs m c.2.1.toNat c.1.toNat)<0)
def cycM (bs:List (Int×Int×Int)):Nat:=((List.range 17).find? fun m=>(bs.findIdx? (cst bs m)).isSome).getD 0
def cycL (bs:List (Int×Int×Int)):List Int:=match bs.findIdx? (cst bs (cycM bs)) with
 | some k=>(k:Int)::chP bs (bs.getD k (0,0,0)).1.toNat (cycM bs) (bs.getD k (0,0,0)).2.1.toNat (-1-(bs.getD k (0,0,0)).2.2)
 | none=>[]
theorem cst_walk {n:Nat} {bs:List (Int×Int×Int)} (hb:bs.all (bnd (n:Int))=true) {m:Nat} (hm:m≤999) {c:Int×Int×Int} (hc:c∈bs):cst bs m c=true↔wkT bs m c.2.1.toNat c.1.toNat≤-1-c.2.2:=by
 have hcb:=of_decide_eq_true (List.all_eq_true.1 hb _ hc)
 unfold cst
 rcases wk_sz hb (m:=m) (i:=c.2.1.toNat) (j:=c.1.toNat) (by omega) (by omega) (by omega) with e | e
 ·rw [e,far_pl]
  constructor
  ·intro h;exact absurd (of_decide_eq_true h) (by omega)
  ·intro h;omega
 ·rw [pl_sz (by omega) (by omega)]
  constructor
  ·intro h;have:=of_decide_eq_true h;omega
  ·intro h;exact decide_eq_true (by omega)
theorem cst_of {n:Nat} {bs:List (Int×Int×Int)} (hb:bs.all (bnd (n:Int))=true) {m u:Nat} {w:Int} (hm:m≤999) (hu:u<n) (hw:w<0) (h:WN bs u u (m+1) w):(bs.findIdx? (cst bs m)).isSome=true:=by
 cases h with
 | @cons _ a _ _ c w' hmem h2 =>
  have hc:=of_decide_eq_true (List.all_eq_true.1 hb _ hmem)
  simp only at hc
  have ha:a<n:=by omega
  have h3:=(wk_le hb (by omega) ha h2).1
  have hp:cst bs m ((u:Int),(a:Int),c)=true:=(cst_walk hb hm hmem).2 (by
   have t1:((a:Int)).toNat=a:=by omega
   have t2:((u:Int)).toNat=u:=by omega
   simp only [t1,t2]
   omega)
  cases hf:bs.findIdx? (cst bs m) with
  | none =>
   rw [List.findIdx?_eq_none_iff] at hf
   rw [hf _ hmem] at hp
   cases hp
  | some k=>rfl
theorem of_cst {n:Nat} {bs:List (Int×Int×Int)} (hb:bs.all (bnd (n:Int))=true) {m k:Nat} (hm:m≤999) (h:bs.findIdx? (cst bs m)=some k):∃ hk:k<bs.length,wkT bs m bs[k].2.1.toNat bs[k].1.toNat≤-1-bs[k].2.2:=by
 obtain ⟨hk,hp,_⟩:=List.findIdx?_eq_some_iff_getElem.1 h
 exact ⟨hk,(cst_walk hb hm (List.getElem_mem hk)).1 hp⟩
theorem cycM_of {x:Sys} (hs:sys x=true) (ho:ovS x=true):cycM x.2<x.1.toNat∧(x.2.findIdx? (cst x.2 (cycM x.2))).isSome=true∧∀ k,k<cycM x.2→(x.2.findIdx? (cst x.2 k)).isSome=false:=by
 obtain ⟨hn,hb,he⟩:=sys_all hs
 obtain ⟨i,w,hi,hw,hwk⟩:=ov_walk hs ho
 obtain ⟨m0,hm0⟩:=hwk.wn
 obtain ⟨u,m1,w1,hu,g1,g2,g3,g4⟩:=WN.cycle hb m0 hi hw hm0
 obtain ⟨m,rfl⟩:∃ m,m1=m+1:=⟨m1-1,by omega⟩
 have hex:=cst_of hb (by omega) hu g3 g4
 unfold cycM
 cases e:(List.range 17).find? fun m=>(x.2.findIdx? (cst x.2 m)).isSome with
 | none =>
  rw [List.find?_eq_none] at e
  exact absurd hex (e m (List.mem_range.2 (by omega)))
 | some k =>
  rw [List.find?_eq_some_iff_getElem] at e
  obtain ⟨h1,i,hi,h2,h3⟩:=e
  rw [List.getElem_range] at h2
  subst h2
  rw [List.length_range] at hi
  have h3':∀ j,j<i→(x.2.findIdx? (cst x.2 j)).isSome=false:=fun j hj=>by
   have:=h3 j hj
   rw [List.getElem_range] at this
   simpa using this
  refine ⟨?_,h1,h3'⟩
  show i<x.1.toNat
  refine Classical.byContradiction fun hn=>?_
  have:=h3' m (by omega)
  rw [hex] at this
  cases this
def cycR (x:Sys):List Int×Bool:=bif sys x&&ovS x then (cycL x.2,true) else ([],false)
theorem m50_eq (x:Sys):m50 x=some (cycR x):=by
 unfold m50 cycR
 dsimp only
 rw [show (x.1,x.2)=x from rfl,m64_eq,Option.bind_some]
 cases hs:sys x with
 | false=>rfl
 | true =>
  obtain ⟨hn,hb,he⟩:=sys_all hs
  have hl:=(sys_bnd hs).1.2.2
  have h39:=m65_eq hn hl hb
  rw [he] at h39
  rw [notT,cond_false]
  refine bind_of (x:=bif ovS x then ([],false) else (rt x.1.toNat (fun _=>x.1.toNat) (fwS x),true)) h39 ?_
  cases ho:ovS x with
  | false=>rfl
  | true =>
   obtain ⟨c1,c2,c3⟩:=cycM_of hs ho
   obtain ⟨k0,hk0⟩:=Option.isSome_iff_exists.1 c2
   obtain ⟨hkl,hkw⟩:=of_cst hb (by omega) hk0
   have h58:=none_table hn
   rw [he] at h58
   rw [cond_true,cond_false]
   refine bind_of h58 ?_
   have hcy:cycL x.2=(k0:Int)::chP x.2 x.2[k0].1.toNat (cycM x.2) x.2[k0].2.1.toNat (-1-x.2[k0].2.2):=by
    unfold cycL
    rw [hk0]
    dsimp only
    rw [getD_of hkl]
   rw [hcy]
   generalize cycM x.2=m0 at *
   refine bind_of (x:=((k0:Int)::chP x.2 x.2[k0].1.toNat m0 x.2[k0].2.1.toNat (-1-x.2[k0].2.2),true,row (m0+2) fun m=>rt x.1.toNat (fun _=>x.1.toNat) (wkT x.2 m)))
    (loopM_fn (fun m=>(rt x.1.toNat (fun _=>x.1.toNat) (wkT x.2 m),row m fun m=>rt x.1.toNat (fun _=>x.1.toNat) (wkT x.2 m))) (m0+1) (fun k hk=>?_) ?_) rfl
   ·dsimp only
    refine bind_of (app_rowOf rfl (by show (k+1)*24≤140737488355328;omega)) ?_
    have elen:IntKind.wrap IntKind.i64 (lenM (row (k+1) fun m=>rt x.1.toNat (fun _=>x.1.toNat) (wkT x.2 m))-1)=(k:Int):=by rw [lenRow,wrap_in (by omega) (by omega)];omega
    rw [elen]
    refine bind_of (x:=Sum.inl ()) (loopM_is (fun j s=>s=(j:Int)) x.2.length rfl fun j s hj hs=>?_) ?_
    ·subst hs
     by_cases hlt:j<x.2.length
     ·refine .inl ⟨((j+1:Nat):Int),hlt,?_,rfl⟩
      obtain ⟨a,b,ha,hb',e1,e2,_,_⟩:=bnd_of (List.all_eq_true.1 hb _ (List.getElem_mem hlt))
      have ej:IntKind.wrap IntKind.i64 ((j:Int)+1)=((j+1:Nat):Int):=by rw [wrap_in (by omega) (by omega)];rfl
      rw [ltI (a:=(j:Int)) (b:=lenM x.2) (by show (j:Int)<(x.2.length:Int);omega),cond_true,idxM_lt hlt,Option.bind_some]
      cases k with
      | zero =>
       rw [geI (by omega),cond_false,Option.bind_some,cond_false,Option.bind_some,cond_false,Option.bind_some,cond_false,Option.bind_some,cond_false,Option.bind_some,andF,cond_false,ej]
      | succ k =>
       have e3:((k+1:Nat):Int)-1=(k:Int):=by omega
       have hno:=c3 k (by omega)
       have hpf:cst x.2 k x.2[j]=false:=by
        have:x.2.findIdx? (cst x.2 k)=none:=by
         cases hq:x.2.findIdx? (cst x.2 k) with
         | none=>rfl
         | some z=>rw [hq] at hno;cases hno
        rw [List.findIdx?_eq_none_iff] at this
        exact this _ (List.getElem_mem hlt)
       unfold cst at hpf
       have hpf:=of_decide_eq_false hpf
       have t1:x.2[j].1.toNat=a:=by omega
       have t2:x.2[j].2.1.toNat=b:=by omega
       rw [t1,t2] at hpf
       rw [ltI (by omega),cond_true,e3,wrap_in (n:=(k:Int)) (by omega) (by omega),chkM_of (by omega) (by rw [lenRow];omega),Option.bind_some,cond_true,row_idx (by omega),Option.bind_some,cond_true,e2,rt_idx hb',Option.bind_some,cond_true,e1,row_idx ha,Option.bind_some,cond_true,m88_pl,Option.bind_some,geI (by omega),andT,cond_false,ej]
     ·refine .inr ?_
      have e:j=x.2.length:=by omega
      rw [e,geI (Int.le_refl _),cond_false]
    ·have hmk:=none_make hn
     have hfl:=far_loop hn
     rw [he] at hmk hfl
     have hnl:=next_loop hn hl hb (wkT x.2 k)
     rw [he] at hnl
     show Option.bind _ _=_
     refine bind_of hmk (bind_of hfl (bind_of hnl ?_))
     rfl
   ·dsimp only
    refine bind_of (app_rowOf rfl (by show (m0+1+1)*24≤140737488355328;omega)) ?_
    have elen:IntKind.wrap IntKind.i64 (lenM (row (m0+1+1) fun m=>rt x.1.toNat (fun _=>x.1.toNat) (wkT x.2 m))-1)=((m0+1:Nat):Int):=by rw [lenRow,wrap_in (by omega) (by omega)];omega
    rw [elen]
    have e3:((m0+1:Nat):Int)-1=(m0:Int):=by omega
    refine bind_of (x:=Sum.inr ((k0:Int)::chP x.2 x.2[k0].1.toNat m0 x.2[k0].2.1.toNat (-1-x.2[k0].2.2),true,row (m0+1+1) fun m=>rt x.1.toNat (fun _=>x.1.toNat) (wkT x.2 m))) ?_ rfl
    have hfg:=fun body h1 h2 he=>findg_loop (xs:=x.2) (cst x.2 m0) (fun j=>((j:Int)::chP x.2 (x.2.getD j (0,0,0)).1.toNat m0 (x.2.getD j (0,0,0)).2.1.toNat (-1-(x.2.getD j (0,0,0)).2.2),true,row (m0+1+1) fun m=>rt x.1.toNat (fun _=>x.1.toNat) (wkT x.2 m))) (body:=body) h1 h2 he
    rw [hk0] at hfg
    dsimp only at hfg
    rw [getD_of hkl] at hfg
    refine hfg _ (fun j hj=>?_) (fun j hj hp=>?_) ?_
    ·have ej:j=k0:=(Option.some.inj hj).symm
     subst ej
     obtain ⟨a,b,ha,hb',e1,e2,g1,g2⟩:=bnd_of (List.all_eq_true.1 hb _ (List.getElem_mem hkl))
     have t1:x.2[j].1.toNat=a:=by omega
     have t2:x.2[j].2.1.toNat=b:=by omega
     have hpt:=(cst_walk hb (by omega) (List.getElem_mem hkl)).2 hkw
     unfold cst at hpt
     have hpt:=of_decide_eq_true hpt
     rw [t1,t2] at hpt hkw
     rw [ltI (a:=(j:Int)) (b:=lenM x.2) (by show (j:Int)<(x.2.length:Int);omega),cond_true,idxM_lt hkl,Option.bind_some]
     rw [ltI (by omega),cond_true,e3,wrap_in (n:=(m0:Int)) (by omega) (by omega),chkM_of (by omega) (by rw [lenRow];omega),Option.bind_some,cond_true,row_idx (by omega),Option.bind_some,cond_true,e2,rt_idx hb',Option.bind_some,cond_true,e1,row_idx ha,Option.bind_some,cond_true,m88_pl,Option.bind_some,ltI hpt,andT,cond_true]
     rw [wrap_in (n:=-1-x.2[j].2.2) (by omega) (by omega)]
     have h44:=m89_eq (n:=x.1.toNat) hl hb (M:=m0+1+1) (to:=a) (m:=m0) (f:=b) (q:=-1-x.2[j].2.2) ha (by omega) (by omega) hb' (by omega) (by omega) hkw
     rw [he] at h44
     refine bind_of h44 ?_
     obtain ⟨k1,_⟩:=chP_fol hb ha m0 b (-1-x.2[j].2.2) 0 (by omega) hb' (by omega) (by omega) (by omega) (by omega) hkw
     refine bind_of (appM_of (by show (1+(chP x.2 a m0 b (-1-x.2[j].2.2)).length)*8≤140737488355328;omega)) ?_
     rw [getD_of hkl,t1,t2]
     rfl
    ·obtain ⟨a,b,ha,hb',e1,e2,g1,g2⟩:=bnd_of (List.all_eq_true.1 hb _ (List.getElem_mem hj))
     have t1:x.2[j].1.toNat=a:=by omega
     have t2:x.2[j].2.1.toNat=b:=by omega
     unfold cst at hp
     have hp:=of_decide_eq_false hp
     rw [t1,t2] at hp
     rw [ltI (a:=(j:Int)) (b:=lenM x.2) (by show (j:Int)<(x.2.length:Int);omega),cond_true,idxM_lt hj,Option.bind_some]
     rw [ltI (by omega),cond_true,e3,wrap_in (n:=(m0:Int)) (by omega) (by omega),chkM_of (by omega) (by rw [lenRow];omega),Option.bind_some,cond_true,row_idx (by omega),Option.bind_some,cond_true,e2,rt_idx hb',Option.bind_some,cond_true,e1,row_idx ha,Option.bind_some,cond_true,m88_pl,Option.bind_some,geI (by omega),andT,cond_false,wrap_in (by omega) (by omega)]
    ·rw [geI (Int.le_refl _),cond_false]
end Go.Proofs.YthfgccfaildmfaaGreatDoor
namespace Go.Proofs.YthfgccfaildmfaaGreatDoor
open Go Go.Abs Go.PE
theorem folP_st {n:Nat} {bs:List (Int×Int×Int)} (hb:bs.all (bnd (n:Int))=true):∀ (l:List Int) (f:Nat) (s:Int) {e s':Int},l.length≤100→-1000000000000000+l.length*1000000000≤s→s≤1000000000000000-l.length*1000000000→folP bs l f s=some (e,s') →
  ∃ (v:Nat→Nat) (S:Nat→Int),v 0=f∧(v l.length:Int)=e∧S 0=s∧S l.length=s'∧∀ k (hk:k<l.length),0≤l[k]∧l[k]<bs.length∧bs.getD l[k].toNat (0,0,0)=((v k:Int),(v (k+1):Int),S (k+1)-S k):=by
 intro l
 induction l with
 | nil =>
  intro f s e s' _ _ _ h
  have h':some ((f:Int),s)=some (e,s'):=h
  have h1:=congrArg Prod.fst (Option.some.inj h')
  have h2:=congrArg Prod.snd (Option.some.inj h')
  simp only at h1 h2
  exact ⟨fun _=>f,fun _=>s,rfl,h1,rfl,h2,fun k hk=>absurd hk (Nat.not_lt_zero _)⟩
 | cons k l ih =>
  intro f s e s' hl h1 h2 h
  unfold folP at h
  have hl':(k::l).length=l.length+1:=rfl
  rw [hl'] at hl h1 h2
  split at h
  ·rename_i hk
   obtain ⟨k0,k1,k2⟩:=hk
   have hkl:k.toNat<bs.length:=by omega
   obtain ⟨a,b,ha,hb',e1,e2,e3,e4⟩:=bnd_of (List.all_eq_true.1 hb _ (List.getElem_mem hkl))
   have hgd:=getD_of (z:=(0,0,0)) hkl
   rw [hgd] at h k2
   rw [wrap_in (by omega) (by omega),e2] at h
   obtain ⟨v,S,g1,g2,g3,g4,g5⟩:=ih b _ (by omega) (by omega) (by omega) h
   refine ⟨fun j=>match j with | 0=>f | j+1=>v j,fun j=>match j with | 0=>s | j+1=>S j,rfl,g2,rfl,g4,fun j hj=>?_⟩
   cases j with
   | zero =>
    refine ⟨k0,k1,?_⟩
    show bs.getD k.toNat (0,0,0)=((f:Int),(v 0:Int),S 0-s)
    rw [hgd,g1,g3,← k2,← e2]
    have:s+bs[k.toNat].2.2-s=bs[k.toNat].2.2:=by omega
    rw [this]
   | succ j=>exact g5 j (by rw [hl'] at hj;omega)
  ·cases h
theorem cyc_st {x:Sys} (hs:sys x=true) (ho:ovS x=true):chkCycle x (cycL x.2)=true∧∃ (v:Nat→Nat) (S:Nat→Int),1≤(cycL x.2).length∧(cycL x.2).length≤x.1.toNat∧v 0<x.1.toNat∧v (cycL x.2).length=v 0∧S 0=0∧S (cycL x.2).length<0 ∧
  (∀ k (hk:k<(cycL x.2).length),0≤(cycL x.2)[k]∧(cycL x.2)[k]<x.2.length∧x.2.getD (cycL x.2)[k].toNat (0,0,0)=((v k:Int),(v (k+1):Int),S (k+1)-S k)) ∧
  (∀ u m w,u<x.1.toNat→m<(cycL x.2).length→WN x.2 u u m w→0≤w):=by
 obtain ⟨hn,hb,he⟩:=sys_all hs
 have hl:=(sys_bnd hs).1.2.2
 obtain ⟨c1,c2,c3⟩:=cycM_of hs ho
 obtain ⟨k0,hk0⟩:=Option.isSome_iff_exists.1 c2
 obtain ⟨hkl,hkw⟩:=of_cst hb (by omega) hk0
 obtain ⟨a,b,ha,hb',e1,e2,g1,g2⟩:=bnd_of (List.all_eq_true.1 hb _ (List.getElem_mem hkl))
 have t1:x.2[k0].1.toNat=a:=by omega
 have t2:x.2[k0].2.1.toNat=b:=by omega
 rw [t1,t2] at hkw
 have hcy:cycL x.2=(k0:Int)::chP x.2 a (cycM x.2) b (-1-x.2[k0].2.2):=by
  unfold cycL
  rw [hk0]
  dsimp only
  rw [getD_of hkl,t1,t2]
 have hmin:∀ u m w,u<x.1.toNat→m<cycM x.2+1→WN x.2 u u m w→0≤w:=fun u m w hu hm hw=>by
  refine Classical.byContradiction fun hneg=>?_
  cases m with
  | zero=>have:=hw.zero.2;omega
  | succ m =>
   have h1:=cst_of hb (by omega) hu (by omega) hw
   rw [c3 m (by omega)] at h1
   cases h1
 generalize cycM x.2=m0 at *
 obtain ⟨k1,s',k2,k3⟩:=chP_fol hb ha m0 b (-1-x.2[k0].2.2) x.2[k0].2.2 (by omega) hb' (by omega) (by omega) (by omega) (by omega) hkw
 have hlen:(cycL x.2).length=m0+1:=by rw [hcy,List.length_cons,k1]
 have hfol:folP x.2 (cycL x.2) a 0=some ((a:Int),s'):=by
  rw [hcy]
  unfold folP
  have t3:((k0:Int)).toNat=k0:=by omega
  rw [t3,getD_of hkl,if_pos ⟨by omega,by omega,e1⟩,wrap_in (by omega) (by omega),Int.zero_add,e2]
  exact k2
 refine ⟨?_,?_⟩
 ·have hR:folR x.2 (cycL x.2) a=((a:Int),s',true):=by
   unfold folR
   rw [hfol,hlen]
   dsimp only
   rw [decide_eq_true (by omega)]
  rw [hcy] at hR ⊢
  unfold chkCycle
  have t3:((k0:Int)).toNat=k0:=by omega
  dsimp only
  rw [hs,t3,getD_of hkl,e1,hR,decide_eq_true (by omega),decide_eq_true (by omega)]
  show (true&&(true&&true)&&(true&&decide ((a:Int)=a)&&decide (s'<0)))=true
  rw [decide_eq_true (show (a:Int)=a from rfl),decide_eq_true (show s'<0 by omega)]
  rfl
 ·obtain ⟨v,S,h1,h2,h3,h4,h5⟩:=folP_st hb (cycL x.2) a 0 (by omega) (by omega) (by omega) hfol
  refine ⟨v,S,by omega,by omega,by omega,by omega,h3,by omega,h5,?_⟩
  rw [hlen]
  exact hmin
theorem cyc_inj {x:Sys} (hs:sys x=true) {m:Nat} {v:Nat→Nat} {S:Nat→Int} (h0:v 0<x.1.toNat) (hc:v m=v 0) (hS:S 0=0) (hneg:S m<0) (hst:∀ k,k<m→((v k:Int),(v (k+1):Int),S (k+1)-S k)∈x.2) (hmin:∀ u k w,u<x.1.toNat→k<m→WN x.2 u u k w→0≤w)
  {a b:Nat} (hab:a<b) (hb:b<m):v a≠v b:=fun e=>by
 obtain ⟨_,hall,_⟩:=sys_all hs
 have s1:=seg hst 0 a (by omega)
 have s2:=seg hst a (b-a) (by omega)
 have s3:=seg hst b (m-b) (by omega)
 rw [Nat.zero_add] at s1
 rw [show a+(b-a)=b by omega] at s2
 rw [show b+(m-b)=m by omega,← e,hc] at s3
 have hva:v a<x.1.toNat:=s1.stays hall h0
 rw [← e] at s2
 have g1:=hmin _ _ _ hva (by omega) s2
 have g2:=hmin _ _ _ h0 (by omega) (s1.trans s3)
 omega
end Go.Proofs.YthfgccfaildmfaaGreatDoor
namespace Go.Proofs.YthfgccfaildmfaaGreatDoor
open Go Go.Abs Go.PE
open Ord (Rel clos)
set_option maxRecDepth 10000
def pok (n:Int) (p:Int×Int):Bool:=decide (0≤p.1∧p.1<n∧0≤p.2∧p.2<n∧p.1≠p.2)
def frm (o:Int×List (Int×Int)):Bool:=decide (0≤o.1∧o.1≤8∧o.2.length≤28)&&o.2.all (pok o.1)
theorem frm_of {o:Int×List (Int×Int)} (h:frm o=true):0≤o.1∧o.1≤8∧o.2.length≤28∧∀ p∈o.2,pok o.1 p=true:=by
 unfold frm at h
 simp only [Bool.and_eq_true,decide_eq_true_eq,List.all_eq_true] at h
 exact ⟨h.1.1,h.1.2.1,h.1.2.2,h.2⟩
theorem pok_of {n:Int} {p:Int×Int} (h:pok n p=true):0≤p.1∧p.1<n∧0≤p.2∧p.2<n∧p.1≠p.2:=of_decide_eq_true h
theorem m106_eq (o:Int×List (Int×Int)):m106 o=some (frm o):=by
 unfold m106
 by_cases h1:0≤o.1∧o.1≤8∧o.2.length≤28
 ·obtain ⟨h2,h3,h4⟩:=h1
  have e:PE.orM (PE.orM (ltM o.1 (0:Int)) (ltM (8:Int) o.1)) (ltM (28:Int) (lenM o.2))=false:=by
   rw [geI h2,geI h3,orF,orF]
   exact geI (by show (o.2.length:Int)≤28;omega)
  rw [e,cond_false]
  have hl:=find_loop (xs:=o.2) (fun p=>!pok o.1 p) (body:=fun (s:Int)=>bif ltM s (lenM o.2) then Option.bind (idxM o.2 s) fun (r:Int×Int)=>bif PE.orM (PE.orM (ltM (min r.1 r.2) (0 :
 Int)) (leM o.1 (max r.1 r.2))) (eqM r.1 r.2) then some (Sum.inr (Sum.inr s)) else some (Sum.inl (IntKind.wrap IntKind.i64 (s+(1:Int)))) else some (Sum.inr
 (Sum.inl ()))) (fun k hk=>by
   rw [ltI (by show (k:Int)<(o.2.length:Int);omega),cond_true,idxM_lt hk,Option.bind_some]
   have e2:PE.orM (PE.orM (ltM (min o.2[k].1 o.2[k].2) (0:Int)) (leM o.1 (max o.2[k].1 o.2[k].2))) (eqM o.2[k].1 o.2[k].2)=!pok o.1 o.2[k]:=by
    rw [Bool.eq_iff_iff]
    unfold pok
    show ((decide _||decide _)||decide _)=true↔_
    simp only [Bool.or_eq_true,decide_eq_true_eq,Bool.not_eq_true',decide_eq_false_iff_not]
    omega
   rw [e2,wrap_in (by omega) (by omega)]
   cases pok o.1 o.2[k]<;>rfl) (by
   rw [geI (by show (o.2.length:Int)≤(o.2.length:Int);omega)];rfl)
  obtain ⟨r,hr,hr2⟩:=hl
  rw [hr]
  unfold frm
  rw [decide_eq_true ⟨h2,h3,h4⟩,Bool.true_and]
  rcases hr2 with ⟨rfl,hr2⟩ | ⟨k,hk,rfl,hr2,_⟩
  ·have:o.2.all (pok o.1)=true:=by
    rw [List.all_eq_true]
    intro p hp
    obtain ⟨k,hk,rfl⟩:=List.mem_iff_getElem.1 hp
    have:=hr2 k hk
    simpa using this
   rw [this];rfl
  ·have:o.2.all (pok o.1)=false:=by
    rw [List.all_eq_false]
    exact ⟨_,List.getElem_mem hk,by simpa using hr2⟩
   rw [this]
   show some (PE.notM (leM 0 (k:Int)))=_
   rw [leI (by omega)];rfl
 ·have e:PE.orM (PE.orM (ltM o.1 (0:Int)) (ltM (8:Int) o.1)) (ltM (28:Int) (lenM o.2))=true:=by
   show ((decide _||decide _)||decide (28<(o.2.length:Int)))=true
   simp only [Bool.or_eq_true,decide_eq_true_eq]
   omega
  rw [e,cond_true]
  unfold frm
  rw [decide_eq_false (by omega),Bool.false_and]
def rel0 (l:List (Int×Int)):Rel:=fun a b=>l.any fun p=>decide (p.1=(a:Int)∧p.2=(b:Int))
def rl (o:Int×List (Int×Int)):Rel:=clos (rel0 o.2) o.1.toNat
def acy (o:Int×List (Int×Int)):Bool:=(List.range o.1.toNat).all fun a=>!rl o a a
def okO (o:Int×List (Int×Int)):Bool:=frm o&&acy o
theorem rel0_iff {l:List (Int×Int)} {a b:Nat}:rel0 l a b=true↔((a:Int),(b:Int))∈l:=by
 unfold rel0
 rw [List.any_eq_true]
 constructor
 ·rintro ⟨p,hp,h⟩
  have h:=of_decide_eq_true h
  have:p=((a:Int),(b:Int)):=Prod.ext h.1 h.2
  rw [← this];exact hp
 ·intro h
  exact ⟨_,h,decide_eq_true ⟨rfl,rfl⟩⟩
theorem clos_in {o:Int×List (Int×Int)} (h:frm o=true) {k a b:Nat} (hr:clos (rel0 o.2) k a b=true):a<o.1.toNat∧b<o.1.toNat:=by
 obtain ⟨h0,h1,h2,h3⟩:=frm_of h
 refine Ord.clos_ind (P:=fun a b=>a<o.1.toNat∧b<o.1.toNat) (fun a b hab=>?_) (fun a b c h1 h2=>⟨h1.1,h2.2⟩) k a b hr
 have:=pok_of (h3 _ (rel0_iff.1 hab))
 dsimp only at this
 omega
theorem at0 (x:Int):((nat_lit 0:Nat):Int)+x*((nat_lit 1:Nat):Int)=x:=by show (0:Int)+x*1=x;omega
theorem chk8 {b:Nat} (h:b<8):chkM (b:Int) ((nat_lit 8:Nat):Int)=some ():=chkM_of (n:=(8:Int)) (by omega) (by omega)
def tup (d:Rel):Int×Int×Int×Int×Int×Int×Int×Int:=(b8 fun a=>d a 0,b8 fun a=>d a 1,b8 fun a=>d a 2,b8 fun a=>d a 3,b8 fun a=>d a 4,b8 fun a=>d a 5,b8 fun a=>d a 6,b8 fun a=>d a 7)
theorem rel0_take {l:List (Int×Int)} {k:Nat} (hk:k<l.length) (a b:Nat):rel0 (l.take (k+1)) a b=(rel0 (l.take k) a b||decide (l[k].1=(a:Int)∧l[k].2=(b:Int))):=by
 unfold rel0
 rw [List.take_succ_eq_append_getElem hk,List.any_append,List.any_cons,List.any_nil,Bool.or_false]
theorem cond_some {α β:Type} (c:Bool) (x y:α) (f:α→Option β):Option.bind (bif c then some x else some y) f=f (bif c then x else y):=by cases c<;>rfl
attribute [local irreducible] tb b8 in
theorem pairs_loop {n:Nat} (hn8:n≤8) {l:List (Int×Int)} (hl:l.length≤28) (h3:∀ p∈l,pok n p=true) :
  loopM (fun (s:Int×List Int)=>bif ltM s.1 (lenM l) then Option.bind (idxM l s.1) fun (r:Int×Int)
 => Option.bind (chkM r.2 ↑(nat_lit 8)) fun (r_1:Unit)=>Option.bind (idxM s.2 (↑(nat_lit 0)+r.2*↑(nat_lit 1))) fun (r_2:Int)=>Option.bind (shlM
 IntKind.i64 (1:Int) r.1) fun (r_3:Int)=>Option.bind (chkM r.2 ↑(nat_lit 8)) fun (r_4:Unit)=>Option.bind (setM s.2 (↑(nat_lit 0)+r.2*↑(nat_lit
 1)) fun (x:Int)=>some (bitM BinOp.or IntKind.i64 r_2 r_3)) fun (r:List Int)=>some (Sum.inl (IntKind.wrap IntKind.i64 (s.1+(1:Int)),r)) else some
 (Sum.inr s.2)) ((0:Int),tb fun _ _=>false)=some (tb (rel0 l)):=by
 refine count_from (fun k=>tb (rel0 (l.take k))) l.length rfl (fun k hk=>?_) ?_
 ·obtain ⟨p1,p2,p3,p4,p5⟩:=pok_of (h3 _ (List.getElem_mem hk))
  obtain ⟨a,ha⟩:∃ a:Nat,l[k].1=(a:Int):=⟨l[k].1.toNat,by omega⟩
  obtain ⟨b,hb⟩:∃ b:Nat,l[k].2=(b:Int):=⟨l[k].2.toNat,by omega⟩
  simp only [ltI (a:=(k:Int)) (b:=lenM l) (by show (k:Int)<(l.length:Int);omega),cond_true,idxM_lt hk,Option.bind_some,at0]
  rw [ha,hb]
  simp only [chk8 (b:=b) (by omega),Option.bind_some,tb_idx _ (b:=b) (by omega),shl_one (k:=a) (by omega),or_b8]
  rw [tb_setc _ (by omega),Option.bind_some,wrap_in (by omega) (by omega)]
  refine congrArg (fun z=>some (Sum.inl ((k:Int)+1,z))) ?_
  refine tb_congr fun a' b' ha' hb'=>?_
  rw [rel0_take hk,ha,hb]
  by_cases hbb:b'=b
  ·subst hbb
   rw [if_pos rfl]
   congr 1
   by_cases haa:a'=a
   ·subst haa;simp
   ·have:¬ (a:Int)=(a':Int):=by omega
    simp [haa,this]
  ·rw [if_neg hbb]
   have:¬ (b:Int)=(b':Int):=by omega
   simp [this]
 ·rw [List.take_length,geI (by show (l.length:Int)≤(l.length:Int);omega)];rfl
attribute [local irreducible] tb b8 in
theorem round_loop {n k:Nat} (hn8:n≤8) (hk:k<n) {d:Rel} (hd:∀ b,n≤b→d k b=false) :
  loopM (fun (s_1:Int×List Int)=>bif ltM s_1.1 (n:Int) then Option.bind (Option.bind (chkM
 s_1.1 ↑(nat_lit 8)) fun (r:Unit)=>Option.bind (idxM s_1.2 (↑(nat_lit 0)+s_1.1*↑(nat_lit 1))) fun (r_1:Int)=>Option.bind (shrM IntKind.i64 r_1 (k:Int))
 fun (r_2:Int)=>bif eqM (bitM BinOp.and IntKind.i64 r_2 (1:Int)) (1:Int) then Option.bind (chkM s_1.1 ↑(nat_lit 8)) fun (r_3:Unit)=>Option.bind
 (idxM s_1.2 (↑(nat_lit 0)+s_1.1*↑(nat_lit 1))) fun (r_4:Int)=>Option.bind (chkM (k:Int) ↑(nat_lit 8)) fun (r_5:Unit)=>Option.bind (idxM s_1.2
 (↑(nat_lit 0)+(k:Int)*↑(nat_lit 1))) fun (r_6:Int)=>Option.bind (chkM s_1.1 ↑(nat_lit 8)) fun (r_7:Unit)=>Option.bind (setM s_1.2 (↑(nat_lit 0) +
 s_1.1*↑(nat_lit 1)) fun (x:Int)=>some (bitM BinOp.or IntKind.i64 r_4 r_6)) fun (r:List Int)=>some r else some s_1.2) fun (o:List Int)=>some
 (Sum.inl (IntKind.wrap IntKind.i64 (s_1.1+(1:Int)),o)) else some (Sum.inr s_1.2)) ((0:Int),tb d)=some (tb (Ord.stp k d)):=by
 refine count_from (fun j=>tb fun a b=>if b<j then Ord.stp k d a b else d a b) n (tb_congr fun a b _ _=>(if_neg (by omega)).symm) (fun j hj=>?_) ?_
 ·rw [ltI (by dsimp only;omega),cond_true]
  have c1:=chk8 (b:=j) (by omega)
  have c2:=chk8 (b:=k) (by omega)
  dsimp only
  rw [at0,at0,c1,c2,Option.bind_some,tb_idx _ (b:=j) (by omega),Option.bind_some,shr_b8 _ (k:=k) (by omega),Option.bind_some,has_b8,Option.bind_some,Option.bind_some,Option.bind_some,tb_idx _ (b:=k) (by omega),Option.bind_some,Option.bind_some,or_b8,tb_setc _ (by omega),Option.bind_some,cond_some,wrap_in (by omega) (by omega)]
  refine congrArg (fun z=>some (Sum.inl ((j:Int)+1,z))) ?_
  have hk8:decide (k<8)=true:=decide_eq_true (by omega)
  have hjj:¬ j<j:=by omega
  rw [hk8,Bool.true_and,if_neg hjj]
  have hrow:∀ a,(if k<j then Ord.stp k d a k else d a k)=d a k:=by
   intro a
   by_cases hkj:k<j
   ·rw [if_pos hkj]
    show (d a k||(d a k&&d k k))=_
    cases d a k<;>rfl
   ·rw [if_neg hkj]
  cases hc:d k j
  ·rw [cond_false]
   refine tb_congr fun a b _ _=>?_
   by_cases hb:b=j
   ·subst hb
    rw [if_neg (by omega),if_pos (by omega)]
    show _=(d a b||(d a k&&d k b))
    rw [hc,Bool.and_false,Bool.or_false]
   ·by_cases hb2:b<j
    ·rw [if_pos hb2,if_pos (by omega)]
    ·rw [if_neg hb2,if_neg (by omega)]
  ·rw [cond_true]
   refine tb_congr fun a b _ _=>?_
   by_cases hb:b=j
   ·subst hb
    rw [if_pos rfl,hrow a,if_neg (by omega),if_pos (by omega)]
    show _=(d a b||(d a k&&d k b))
    rw [hc,Bool.and_true]
   ·rw [if_neg hb]
    by_cases hb2:b<j
    ·rw [if_pos hb2,if_pos (by omega)]
    ·rw [if_neg hb2,if_neg (by omega)]
 ·rw [geI (by dsimp only;omega),cond_false]
  refine congrArg (fun z=>some (Sum.inr z)) (tb_congr fun a b _ _=>?_)
  by_cases hb:b<n
  ·rw [if_pos hb]
  ·rw [if_neg hb]
   show _=(d a b||(d a k&&d k b))
   rw [hd b (by omega),Bool.and_false,Bool.or_false]
attribute [local irreducible] tb b8 in
theorem clos_loop {n:Nat} (hn8:n≤8) {d:Rel} (hd:∀ k b,n≤b→clos d k k b=false) :
  loopM (fun (s:Int×List Int)=>bif ltM s.1 (n:Int) then Option.bind (loopM (fun (s_1:Int×List Int)=>bif ltM s_1.1 (n:Int) then Option.bind (Option.bind (chkM
 s_1.1 ↑(nat_lit 8)) fun (r:Unit)=>Option.bind (idxM s_1.2 (↑(nat_lit 0)+s_1.1*↑(nat_lit 1))) fun (r_1:Int)=>Option.bind (shrM IntKind.i64 r_1 s.1)
 fun (r_2:Int)=>bif eqM (bitM BinOp.and IntKind.i64 r_2 (1:Int)) (1:Int) then Option.bind (chkM s_1.1 ↑(nat_lit 8)) fun (r_3:Unit)=>Option.bind
 (idxM s_1.2 (↑(nat_lit 0)+s_1.1*↑(nat_lit 1))) fun (r_4:Int)=>Option.bind (chkM s.1 ↑(nat_lit 8)) fun (r_5:Unit)=>Option.bind (idxM s_1.2
 (↑(nat_lit 0)+s.1*↑(nat_lit 1))) fun (r_6:Int)=>Option.bind (chkM s_1.1 ↑(nat_lit 8)) fun (r_7:Unit)=>Option.bind (setM s_1.2 (↑(nat_lit 0) +
 s_1.1*↑(nat_lit 1)) fun (x:Int)=>some (bitM BinOp.or IntKind.i64 r_4 r_6)) fun (r:List Int)=>some r else some s_1.2) fun (o:List Int)=>some
 (Sum.inl (IntKind.wrap IntKind.i64 (s_1.1+(1:Int)),o)) else some (Sum.inr s_1.2)) ((0:Int),s.2)) fun (o:List Int)=>some (Sum.inl (IntKind.wrap
 IntKind.i64 (s.1+(1:Int)),o)) else some (Sum.inr s.2)) ((0:Int),tb d)=some (tb (clos d n)):=by
 refine count_from (fun k=>tb (clos d k)) n rfl (fun k hk=>?_) ?_
 ·rw [ltI (by dsimp only;omega),cond_true]
  refine bind_of (round_loop hn8 hk (d:=clos d k) (hd k)) ?_
  rw [wrap_in (by dsimp only;omega) (by dsimp only;omega)]
  rfl
 ·rw [geI (by dsimp only;omega),cond_false]
attribute [local irreducible] tb b8 in
theorem dia_loop {n:Nat} (hn8:n≤8) (d:Rel) (x:Bool×List Int) :
  ∃ r,loopM (fun (s:Int)=>bif ltM s (n:Int) then
 Option.bind (chkM s ↑(nat_lit 8)) fun (r:Unit)=>Option.bind (idxM (tb d) (↑(nat_lit 0)+s*↑(nat_lit 1))) fun (r_1:Int)=>Option.bind (shrM IntKind.i64
 r_1 s) fun (r:Int)=>bif eqM (bitM BinOp.and IntKind.i64 r (1:Int)) (1:Int) then some (Sum.inr (Sum.inr x)) else some (Sum.inl (IntKind.wrap IntKind.i64 (s+(1:Int)))) else some (Sum.inr (Sum.inl
 ()))) (0:Int)=some r∧((r=.inl ()∧((List.range n).all fun a=>!d a a)=true)∨(r=.inr x∧((List.range n).all fun a=>!d a a)=false)):=by
 refine loopM_from (fun k s=>s=(k:Int)∧k≤n∧∀ a,a<k→d a a=false) (fun (r:Unit⊕Bool×List Int)=>(r=.inl ()∧((List.range n).all fun a=>!d a a)=true)∨(r=.inr x∧((List.range n).all fun a=>!d a a)=false)) n (s:=0) ⟨rfl,by omega,fun a ha=>by omega⟩ (fun k s hk hP=>?_)
 obtain ⟨rfl,hk,hP⟩:=hP
 by_cases hlt:k<n
 ·rw [ltI (by omega),cond_true,chk8 (by omega),Option.bind_some,at0,tb_idx _ (by omega),Option.bind_some,shr_b8 _ (by omega),Option.bind_some,has_b8,decide_eq_true (by omega:k<8),Bool.true_and,wrap_in (by omega) (by omega)]
  cases hc:d k k
  ·exact .inl ⟨_,hlt,rfl,rfl,by omega,fun a ha=>by
    by_cases ha2:a=k
    ·rw [ha2];exact hc
    ·exact hP a (by omega)⟩
  ·refine .inr ⟨_,rfl,.inr ⟨rfl,?_⟩⟩
   rw [List.all_eq_false]
   exact ⟨k,List.mem_range.2 (by omega),by rw [hc];decide⟩
 ·refine .inr ⟨.inl (),?_,.inl ⟨rfl,?_⟩⟩
  ·rw [geI (by omega)];rfl
  ·rw [List.all_eq_true]
   intro a ha
   rw [List.mem_range] at ha
   rw [hP a (by omega)];rfl
attribute [local irreducible] tb b8 in
theorem m107_eq {o:Int×List (Int×Int)} (h:frm o=true):m107 o=some (tup (rl o),acy o):=by
 obtain ⟨h0,h1,h2,h3⟩:=frm_of h
 unfold m107
 generalize hn:o.1.toNat=n
 have hn8:n≤8:=by omega
 have on:o.1=(n:Int):=by omega
 rw [tb_nil,on]
 refine bind_of (pairs_loop hn8 h2 (fun p hp=>by rw [← on];exact h3 p hp)) ?_
 refine bind_of (clos_loop hn8 fun k b hb=>?_) ?_
 ·cases hc:clos (rel0 o.2) k k b
  ·rfl
  ·exact absurd (clos_in h hc).2 (by omega)
 have hrl:clos (rel0 o.2) n=rl o:=by unfold rl;rw [hn]
 rw [hrl]
 simp only [tb_nths]
 obtain ⟨r,hr,hr2⟩:=dia_loop hn8 (rl o) (false,tb (rl o))
 refine bind_of (x:=r) hr ?_
 have e8:∀ b:Nat,b<8→nthD (tb (rl o)) b (0:Int)=b8 fun a=>rl o a b:=fun b hb=>tb_nth _ hb
 have ea:acy o=(List.range n).all fun a=>!rl o a a:=by unfold acy;rw [hn]
 rw [ea]
 rcases hr2 with ⟨rfl,hr2⟩ | ⟨rfl,hr2⟩
 ·simp only [Sum.elim_inl,e8 _ (by decide:0<8),e8 _ (by decide:1<8),e8 _ (by decide:2<8),e8 _ (by decide:3<8),e8 _ (by decide:4<8),e8 _ (by decide:5<8),e8 _ (by decide:6<8),e8 _ (by decide:7<8)]
  rw [hr2];rfl
 ·simp only [Sum.elim_inr,e8 _ (by decide:0<8),e8 _ (by decide:1<8),e8 _ (by decide:2<8),e8 _ (by decide:3<8),e8 _ (by decide:4<8),e8 _ (by decide:5<8),e8 _ (by decide:6<8),e8 _ (by decide:7<8)]
  rw [hr2];rfl
theorem m67_eq (o:Int×List (Int×Int)):m67 o=some (if frm o=true then (tup (rl o),acy o) else ((0,0,0,0,0,0,0,0),false)):=by
 unfold m67
 rw [show ((o.1,o.2):Int×List (Int×Int))=o from rfl,m106_eq,Option.bind_some]
 cases h:frm o
 ·rfl
 ·rw [m107_eq h,if_pos rfl];rfl
theorem m60_eq (o:Int×List (Int×Int)):m60 o=some (okO o):=by
 unfold m60 okO
 rw [show ((o.1,o.2):Int×List (Int×Int))=o from rfl,m67_eq,Option.bind_some]
 cases h:frm o<;>rfl
end Go.Proofs.YthfgccfaildmfaaGreatDoor
namespace Go.Proofs.YthfgccfaildmfaaGreatDoor
open Go Go.Abs Go.PE
open Ord (Rel clos)
set_option maxRecDepth 10000
def lsr (n:Nat) (d:Rel) (a:Nat) (j:Nat):List (Int×Int):=((List.range j).filter fun b=>d a b).map fun (b:Nat)=>((a:Int),(b:Int))
def lst (n:Nat) (d:Rel) (i:Nat):List (Int×Int):=(List.range i).flatMap fun a=>lsr n d a n
theorem lsr_len (n:Nat) (d:Rel) (a j:Nat):(lsr n d a j).length≤j:=by
 unfold lsr
 rw [List.length_map]
 have:=List.length_filter_le (fun b=>d a b) (List.range j)
 rw [List.length_range] at this
 exact this
theorem lst_len (n:Nat) (d:Rel):∀ i,(lst n d i).length≤i*n
 | 0=>by simp [lst]
 | i+1=>by
  have e:lst n d (i+1)=lst n d i++lsr n d i n:=by
   unfold lst
   rw [List.range_succ,List.flatMap_append]
   simp
  have h1:=lst_len n d i
  have h2:=lsr_len n d i n
  rw [e,List.length_append,Nat.succ_mul]
  omega
theorem lst_succ (n:Nat) (d:Rel) (i:Nat):lst n d (i+1)=lst n d i++lsr n d i n:=by
 unfold lst
 rw [List.range_succ,List.flatMap_append]
 simp
theorem lsr_succ (n:Nat) (d:Rel) (a j:Nat):lsr n d a (j+1)=lsr n d a j++(bif d a j then [((a:Int),(j:Int))] else []):=by
 unfold lsr
 rw [List.range_succ,List.filter_append,List.map_append]
 congr 1
 cases h:d a j<;>simp [h]
theorem mem_lst {n:Nat} {d:Rel} {p:Int×Int}:p∈lst n d n↔∃ a b:Nat,a<n∧b<n∧d a b=true∧p=((a:Int),(b:Int)):=by
 unfold lst lsr
 rw [List.mem_flatMap]
 constructor
 ·rintro ⟨a,ha,h⟩
  rw [List.mem_map] at h
  obtain ⟨b,hb,rfl⟩:=h
  rw [List.mem_filter,List.mem_range] at hb
  rw [List.mem_range] at ha
  exact ⟨a,b,ha,hb.1,hb.2,rfl⟩
 ·rintro ⟨a,b,ha,hb,h,rfl⟩
  exact ⟨a,List.mem_range.2 ha,List.mem_map.2 ⟨b,List.mem_filter.2 ⟨List.mem_range.2 hb,h⟩,rfl⟩⟩
attribute [local irreducible] tb b8 in
theorem row_loop {n i:Nat} (hn8:n≤8) (hi:i<n) (d:Rel) (N:Int) {acc:List (Int×Int)} (ha:acc.length≤64) :
  loopM (fun (s_1:Int×Int×List (Int×Int))=>bif ltM s_1.1 (n:Int) then Option.bind (Option.bind (chkM s_1.1 ↑(nat_lit 8)) fun (r:Unit)=>Option.bind
 (idxM (tb d) (↑(nat_lit 0)+s_1.1*↑(nat_lit 1)))
 fun (r_1:Int)=>Option.bind (shrM IntKind.i64 r_1 (i:Int)) fun (r_2:Int)=>bif eqM (bitM BinOp.and IntKind.i64 r_2 (1:Int)) (1:Int) then Option.bind
 (appM (nat_lit 16) s_1.2.2 [((i:Int),s_1.1)]) fun (r:List (Int×Int))=>some (s_1.2.1,r) else some (s_1.2.1,s_1.2.2)) fun (o:Int×List (Int×Int)) =>
 some (Sum.inl (IntKind.wrap IntKind.i64 (s_1.1+(1:Int)),o.1,o.2)) else some (Sum.inr (s_1.2.1,s_1.2.2))) ((0:Int),N,acc)=some (N,acc++lsr n d i n):=by
 refine count_from (fun j=>(N,acc++lsr n d i j)) n (by show _=(N,acc++lsr n d i 0);rw [show lsr n d i 0=[] from rfl,List.append_nil]) (fun j hj=>?_) ?_
 ·rw [ltI (by dsimp only;omega),cond_true]
  dsimp only
  have hl:=lsr_len n d i j
  rw [at0,chk8 (b:=j) (by omega),Option.bind_some,tb_idx _ (b:=j) (by omega),Option.bind_some,shr_b8 _ (k:=i) (by omega),Option.bind_some,has_b8,decide_eq_true (show i<8 by omega),Bool.true_and,appM_of (by rw [List.length_append];show (_+_+1)*16≤_;omega),Option.bind_some,cond_some,wrap_in (by omega) (by omega),lsr_succ,← List.append_assoc]
  cases d i j
  ·rw [cond_false,cond_false,List.append_nil]
  ·rw [cond_true,cond_true]
 ·rw [geI (by dsimp only;omega),cond_false]
attribute [local irreducible] tb b8 in
theorem m68_eq {n:Nat} (hn8:n≤8) (d:Rel):m68 ((n:Int),tup d)=some ((n:Int),lst n d n):=by
 unfold m68
 have e:[(tup d).1,(tup d).2.1,(tup d).2.2.1,(tup d).2.2.2.1,(tup d).2.2.2.2.1,(tup d).2.2.2.2.2.1,(tup d).2.2.2.2.2.2.1,(tup d).2.2.2.2.2.2.2]=tb d:=tb_list d
 dsimp only
 rw [e]
 refine bind_of (x:=((n:Int),lst n d n)) ?_ rfl
 refine count_from (fun i=>((n:Int),lst n d i)) n rfl (fun i hi=>?_) ?_
 ·rw [ltI (by dsimp only;omega),cond_true]
  refine bind_of (row_loop hn8 hi d (n:Int) (by dsimp only;have:=lst_len n d i;have h2:i*n≤8*8:=Nat.mul_le_mul (by omega) (by omega);omega)) ?_
  dsimp only
  rw [wrap_in (by omega) (by omega),lst_succ]
 ·rw [geI (by dsimp only;omega),cond_false]
def rdc (o:Int×List (Int×Int)):Rel:=Ord.red o.1.toNat (rl o)
def pred (r:Rel) (a b j:Nat):Bool:=r a b&&(List.range j).all fun k=>!(r a k&&r k b)
theorem pred_succ (r:Rel) (a b j:Nat):pred r a b (j+1)=(pred r a b j&&!(r a j&&r j b)):=by
 unfold pred
 rw [List.range_succ,List.all_append,Bool.and_assoc]
 simp
theorem pred_zero (r:Rel) (a b:Nat):pred r a b 0=r a b:=by
 unfold pred
 rw [List.range_zero,List.all_nil,Bool.and_true]
attribute [local irreducible] tb b8 in
theorem less_loop {n i:Nat} (hn8:n≤8) (hi:i<n) (r d:Rel) (hd:∀ a,d a i=r a i) :
  loopM (fun (s_1:Int×List Int)=>bif ltM s_1.1 (n:Int) then Option.bind (Option.bind (chkM (i:Int) ↑(nat_lit 8)) fun (r_1:Unit)=>Option.bind (idxM (tb r) (↑(nat_lit 0)+(i:Int)*↑(nat_lit 1))) fun (r_2:Int)=>Option.bind (shrM IntKind.i64
 r_2 s_1.1) fun (r_3:Int)=>bif eqM (bitM BinOp.and IntKind.i64 r_3 (1:Int)) (1:Int) then Option.bind (chkM (i:Int) ↑(nat_lit 8)) fun (r_4:Unit) =>
 Option.bind (idxM s_1.2 (↑(nat_lit 0)+(i:Int)*↑(nat_lit 1))) fun (r_5:Int)=>Option.bind (chkM s_1.1 ↑(nat_lit 8)) fun (r_6:Unit)=>Option.bind (idxM
 (tb r) (↑(nat_lit 0)+s_1.1*↑(nat_lit 1))) fun (r_7
 : Int)=>Option.bind (chkM (i:Int) ↑(nat_lit 8)) fun (r_8:Unit)=>Option.bind (setM s_1.2 (↑(nat_lit 0)+(i:Int)*↑(nat_lit 1)) fun (x:Int)=>some (bitM
 BinOp.andNot IntKind.i64 r_5 r_7)) fun (r:List Int)=>some r else some s_1.2) fun (o:List Int)=>some (Sum.inl (IntKind.wrap IntKind.i64 (s_1.1+(1 :
 Int)),o)) else some (Sum.inr s_1.2)) ((0:Int),tb d)=some (tb fun a b=>if b=i then pred r a i n else d a b):=by
 refine count_from (fun j=>tb fun a b=>if b=i then pred r a i j else d a b) n (tb_congr fun a b _ _=>?_) (fun j hj=>?_) ?_
 ·by_cases hb:b=i
  ·subst hb;rw [if_pos rfl,pred_zero,hd]
  ·rw [if_neg hb]
 ·rw [ltI (by dsimp only;omega),cond_true]
  have c1:=chk8 (b:=i) (by omega)
  have c2:=chk8 (b:=j) (by omega)
  dsimp only
  rw [at0,at0,c1,c2,Option.bind_some,tb_idx _ (b:=i) (by omega),Option.bind_some,shr_b8 _ (k:=j) (by omega),Option.bind_some,has_b8,Option.bind_some,tb_idx _ (b:=i) (by omega),Option.bind_some,Option.bind_some,tb_idx _ (b:=j) (by omega),Option.bind_some,Option.bind_some,andNot_b8,tb_setc _ (by omega),Option.bind_some,cond_some,wrap_in (by omega) (by omega)]
  refine congrArg (fun z=>some (Sum.inl ((j:Int)+1,z))) ?_
  rw [decide_eq_true (show j<8 by omega),Bool.true_and]
  cases hc:r j i
  ·rw [cond_false]
   refine tb_congr fun a b _ _=>?_
   by_cases hb:b=i
   ·subst hb
    rw [if_pos rfl,if_pos rfl,pred_succ,hc,Bool.and_false,Bool.not_false,Bool.and_true]
   ·rw [if_neg hb,if_neg hb]
  ·rw [cond_true]
   refine tb_congr fun a b _ _=>?_
   by_cases hb:b=i
   ·subst hb
    rw [if_pos rfl,if_pos rfl,if_pos rfl,pred_succ,hc,Bool.and_true]
   ·rw [if_neg hb,if_neg hb,if_neg hb]
 ·rw [geI (by dsimp only;omega),cond_false]
attribute [local irreducible] tb b8 in
theorem m28_eq {o:Int×List (Int×Int)} (h:okO o=true):m28 o=some ((o.1,lst o.1.toNat (rdc o) o.1.toNat),0):=by
 unfold okO at h
 rw [Bool.and_eq_true] at h
 obtain ⟨h0,h1,h2,h3⟩:=frm_of h.1
 unfold m28
 rw [show ((o.1,o.2):Int×List (Int×Int))=o from rfl,m67_eq,Option.bind_some,if_pos h.1,h.2]
 show Option.bind (loopM _ _) _=_
 generalize hn:o.1.toNat=n
 have hn8:n≤8:=by omega
 have on:o.1=(n:Int):=by omega
 have e:[(tup (rl o)).1,(tup (rl o)).2.1,(tup (rl o)).2.2.1,(tup (rl o)).2.2.2.1,(tup (rl o)).2.2.2.2.1,(tup (rl o)).2.2.2.2.2.1,(tup (rl o)).2.2.2.2.2.2.1,(tup (rl o)).2.2.2.2.2.2.2]=tb (rl o):=tb_list _
 rw [e,on]
 refine bind_of (x:=tb fun a b=>if b<n then pred (rl o) a b n else rl o a b) ?_ ?_
 ·refine count_from (fun i=>tb fun a b=>if b<i then pred (rl o) a b n else rl o a b) n (tb_congr fun a b _ _=>(if_neg (by omega)).symm) (fun i hi=>?_) ?_
  ·rw [ltI (by dsimp only;omega),cond_true]
   refine bind_of (less_loop hn8 hi (rl o) _ fun a=>if_neg (by omega)) ?_
   dsimp only
   rw [wrap_in (by omega) (by omega)]
   refine congrArg (fun z=>some (Sum.inl ((i:Int)+1,z))) (tb_congr fun a b _ _=>?_)
   by_cases hb:b=i
   ·subst hb;rw [if_pos rfl,if_pos (by omega)]
   ·rw [if_neg hb]
    by_cases hb2:b<i
    ·rw [if_pos hb2,if_pos (by omega)]
    ·rw [if_neg hb2,if_neg (by omega)]
  ·rw [geI (by dsimp only;omega),cond_false]
 ·have e8:∀ (d:Rel) (b:Nat),b<8→nthD (tb d) b (0:Int)=b8 fun a=>d a b:=fun d b hb=>tb_nth _ hb
  have et:tb (fun a b=>if b<n then pred (rl o) a b n else rl o a b)=tb (rdc o):=tb_congr fun a b _ _=>by
   unfold rdc Ord.red
   rw [hn]
   by_cases hb:b<n
   ·rw [if_pos hb];rfl
   ·rw [if_neg hb]
    have:rl o a b=false:=by
     cases hc:rl o a b
     ·rfl
     ·exact absurd (clos_in h.1 hc).2 (by omega)
    rw [this,Bool.false_and]
  rw [et]
  refine bind_of (x:=((n:Int),lst n (rdc o) n)) ?_ rfl
  rw [e8 _ _ (by decide:0<8),e8 _ _ (by decide:1<8),e8 _ _ (by decide:2<8),e8 _ _ (by decide:3<8),e8 _ _ (by decide:4<8),e8 _ _ (by decide:5<8),e8 _ _ (by decide:6<8),e8 _ _ (by decide:7<8)]
  exact m68_eq hn8 (rdc o)
end Go.Proofs.YthfgccfaildmfaaGreatDoor
namespace Go.Proofs.YthfgccfaildmfaaGreatDoor
open Go Go.Abs Go.PE
open Ord (Rel clos)
set_option maxRecDepth 10000
abbrev Clu:=Int×Int×Int×Int×Int
abbrev Dat:=(Int×List (Int×Int))×List Clu
def vcl (n:Int) (c:Clu):Bool:=decide (0≤c.2.1∧c.2.1<n ∧
  ((c.1=1∧c.2.2.1=0∧0≤c.2.2.2.1∧c.2.2.2.1<c.2.2.2.2∧c.2.2.2.2≤2101) ∨
   ((c.1=2∨c.1=3)∧c.2.2.1=0∧0≤c.2.2.2.1∧c.2.2.2.1≤2100∧c.2.2.2.2=0) ∨
   (c.1=4∧0≤c.2.2.1∧c.2.2.1<n∧c.2.2.2.1=0∧c.2.2.2.2=0) ∨
   (c.1=5∧0≤c.2.2.1∧c.2.2.1<n∧-200≤c.2.2.2.1∧c.2.2.2.1≤c.2.2.2.2∧c.2.2.2.2≤200)))
theorem m54_eq (a b c:Int):m54 (a,b,c)=some (decide (b≤a∧a≤c)):=by
 unfold m54
 show some (decide _&&decide _)=_
 rw [← Bool.decide_and]
theorem cond_bit (c:Bool) (x:Bool):(bif c then some x else some false)=some (c&&x):=by cases c<;>rfl
theorem m59_eq {n:Int} (h0:0≤n) (h1:n≤8) (c:Clu):m59 (c,n)=some (vcl n c):=by
 unfold m59
 dsimp only
 rw [wrap_in (by omega) (by omega),m54_eq,Option.bind_some]
 by_cases k1:c.1=1
 ·rw [eqI k1,cond_true]
  congr 1
  rw [Bool.eq_iff_iff]
  unfold vcl
  show ((((decide _&&decide _)&&decide _)&&decide _)&&decide _)=true↔_
  simp only [Bool.and_eq_true,decide_eq_true_eq]
  omega
 ·rw [neI k1,cond_false,cond_some]
  by_cases k2:c.1=2∨c.1=3
  ·have e:(bif eqM c.1 2 then eqM c.1 2 else eqM c.1 3)=true:=by
    rcases k2 with k | k
    ·rw [eqI k];rfl
    ·rw [neI (by omega),cond_false,eqI k]
   rw [e,cond_true,m54_eq,cond_bit,Option.bind_some]
   congr 1
   rw [Bool.eq_iff_iff]
   unfold vcl
   show (((decide _&&decide _)&&((decide _&&decide _)&&decide _))&&decide _)=true↔_
   simp only [Bool.and_eq_true,decide_eq_true_eq]
   omega
  ·have e:(bif eqM c.1 2 then eqM c.1 2 else eqM c.1 3)=false:=by
    rw [neI (by omega),cond_false,neI (by omega)]
   rw [e,cond_false,m54_eq]
   by_cases k4:c.1=4
   ·rw [eqI k4,cond_true,cond_bit,Option.bind_some]
    congr 1
    rw [Bool.eq_iff_iff]
    unfold vcl
    show (((decide _&&(decide _&&decide _))&&decide _)&&decide _)=true↔_
    simp only [Bool.and_eq_true,decide_eq_true_eq]
    omega
   ·rw [neI k4,cond_false]
    by_cases k5:c.1=5
    ·rw [eqI k5,cond_true,cond_bit,Option.bind_some]
     congr 1
     rw [Bool.eq_iff_iff]
     unfold vcl
     show ((((decide _&&(decide _&&decide _))&&decide _)&&decide _)&&decide _)=true↔_
     simp only [Bool.and_eq_true,decide_eq_true_eq]
     omega
    ·rw [neI k5,cond_false]
     congr 1
     symm
     unfold vcl
     exact decide_eq_false (by omega)
def vld (d:Dat):Bool:=(okO d.1&&decide (d.2.length≤14))&&d.2.all (vcl d.1.1)
theorem m20_eq (d:Dat):m20 d=some (vld d):=by
 unfold m20
 rw [show ((d.1.1,d.1.2):Int×List (Int×Int))=d.1 from rfl,m60_eq,Option.bind_some]
 have e:leM (lenM d.2) (14:Int)=decide (d.2.length≤14):=by
  show decide ((d.2.length:Int)≤14)=_
  rw [Bool.eq_iff_iff,decide_eq_true_eq,decide_eq_true_eq]
  omega
 rw [e,show PE.andM (okO d.1) (decide (d.2.length≤14))=(okO d.1&&decide (d.2.length≤14)) from rfl]
 unfold vld
 by_cases h:(okO d.1&&decide (d.2.length≤14))=true
 ·rw [h,cond_true,Bool.true_and]
  rw [Bool.and_eq_true,decide_eq_true_eq] at h
  obtain ⟨ho,hl⟩:=h
  unfold okO at ho
  rw [Bool.and_eq_true] at ho
  obtain ⟨h0,h1,h2,h3⟩:=frm_of ho.1
  refine bind_of (x:=d.2.any fun c=>!vcl d.1.1 c) ?_ ?_
  ·refine any_loop (xs:=d.2) (fun c=>!vcl d.1.1 c) (fun k hk=>?_) ?_
   ·rw [ltI (by show (k:Int)<(d.2.length:Int);omega),cond_true,idxM_lt hk,Option.bind_some,show ((d.2[k].1,d.2[k].2.1,d.2[k].2.2.1,d.2[k].2.2.2.1,d.2[k].2.2.2.2):Clu)=d.2[k] from rfl,m59_eq h0 h1,Option.bind_some,wrap_in (by omega) (by omega)]
    show (bif !vcl d.1.1 d.2[k] then _ else _)=_
    cases vcl d.1.1 d.2[k]<;>rfl
   ·rw [geI (by show (d.2.length:Int)≤(d.2.length:Int);omega)];rfl
  ·show some (true&&!(d.2.any fun c=>!vcl d.1.1 c))=_
   rw [Bool.true_and,List.not_any_eq_all_not]
   simp
 ·have h:(okO d.1&&decide (d.2.length≤14))=false:=by simpa using h
  rw [h,cond_false,Bool.false_and,Option.bind_some]
  rfl
end Go.Proofs.YthfgccfaildmfaaGreatDoor
namespace Go.Proofs.YthfgccfaildmfaaGreatDoor
open Go Go.Abs Go.PE
open Ord (Rel clos)
set_option maxRecDepth 10000
abbrev Bnd:=Int×Int×Int
def obs (n:Int) (i:Nat):List Bnd:=(List.range i).flatMap fun (a:Nat)=>[((a:Int),n,(0:Int)),(n,(a:Int),(2100:Int))]
def clb (n:Int) (c:Clu):List Bnd :=
 if c.1=1 then [(c.2.1,n,-c.2.2.2.1),(n,c.2.1,c.2.2.2.2-1)]
 else if c.1=2 then [(c.2.1,n,-c.2.2.2.1),(n,c.2.1,2100)]
 else if c.1=3 then [(c.2.1,n,0),(n,c.2.1,c.2.2.2.1)]
 else [(c.2.1,c.2.2.1,c.2.2.2.2),(c.2.2.1,c.2.1,-c.2.2.2.1)]
def prs (l:List (Int×Int)):List Bnd:=l.map fun p=>(p.2,p.1,(0:Int))
def rpr (o:Int×List (Int×Int)):List (Int×Int):=lst o.1.toNat (rdc o) o.1.toNat
def bds (d:Dat):Int×List Bnd:=(d.1.1+1,obs d.1.1 d.1.1.toNat++d.2.flatMap (clb d.1.1)++prs (rpr d.1))
theorem obs_succ (n:Int) (i:Nat):obs n (i+1)=obs n i++[((i:Int),n,(0:Int)),(n,(i:Int),(2100:Int))]:=by
 unfold obs
 rw [List.range_succ,List.flatMap_append]
 simp
theorem obs_len (n:Int):∀ i,(obs n i).length=2*i
 | 0=>rfl
 | i+1=>by rw [obs_succ,List.length_append,obs_len n i];show 2*i+2=_;omega
theorem clb_len (n:Int) (c:Clu):(clb n c).length=2:=by
 unfold clb
 split
 ·rfl
 ·split
  ·rfl
  ·split<;>rfl
theorem clbs_len (n:Int):∀ l:List Clu,(l.flatMap (clb n)).length=2*l.length
 | []=>rfl
 | c::r=>by rw [List.flatMap_cons,List.length_append,clb_len,clbs_len n r,List.length_cons];omega
theorem vld_of {d:Dat} (h:vld d=true):okO d.1=true∧d.2.length≤14∧∀ c∈d.2,vcl d.1.1 c=true:=by
 unfold vld at h
 simp only [Bool.and_eq_true,decide_eq_true_eq,List.all_eq_true] at h
 exact ⟨h.1.1,h.1.2,h.2⟩
theorem okO_of {o:Int×List (Int×Int)} (h:okO o=true):0≤o.1∧o.1≤8∧o.2.length≤28∧∀ p∈o.2,pok o.1 p=true:=by
 unfold okO at h
 rw [Bool.and_eq_true] at h
 exact frm_of h.1
theorem vcl_of {n:Int} {c:Clu} (h:vcl n c=true):0≤c.2.1∧c.2.1<n ∧
  ((c.1=1∧c.2.2.1=0∧0≤c.2.2.2.1∧c.2.2.2.1<c.2.2.2.2∧c.2.2.2.2≤2101) ∨
   ((c.1=2∨c.1=3)∧c.2.2.1=0∧0≤c.2.2.2.1∧c.2.2.2.1≤2100∧c.2.2.2.2=0) ∨
   (c.1=4∧0≤c.2.2.1∧c.2.2.1<n∧c.2.2.2.1=0∧c.2.2.2.2=0) ∨
   (c.1=5∧0≤c.2.2.1∧c.2.2.1<n∧-200≤c.2.2.2.1∧c.2.2.2.1≤c.2.2.2.2∧c.2.2.2.2≤200)):=of_decide_eq_true h
theorem rpr_len (o:Int×List (Int×Int)) (h:okO o=true):(rpr o).length≤64:=by
 obtain ⟨h0,h1,_,_⟩:=okO_of h
 have h2:=lst_len o.1.toNat (rdc o) o.1.toNat
 have h3:o.1.toNat*o.1.toNat≤8*8:=Nat.mul_le_mul (by omega) (by omega)
 unfold rpr
 omega
theorem prs_len (l:List (Int×Int)):(prs l).length=l.length:=List.length_map ..
theorem bds_len (d:Dat) (h:vld d=true):(bds d).2.length≤108:=by
 obtain ⟨h1,h2,h3⟩:=vld_of h
 obtain ⟨h4,h5,_,_⟩:=okO_of h1
 have h6:=rpr_len d.1 h1
 unfold bds
 simp only [List.length_append,obs_len,clbs_len,prs_len]
 omega
theorem app24 {xs:List Bnd} {y:Bnd} (h:xs.length≤200):appM (nat_lit 24) xs [y]=some (xs++[y]):=appM_of (by
 show (xs.length+1)*24≤_
 omega)
theorem prs_append (a b:List (Int×Int)):prs (a++b)=prs a++prs b:=List.map_append ..
theorem m24_eq (d:Dat):m24 d=some (if vld d=true then (bds d,0) else ((0,[]),220)):=by
 unfold m24
 rw [show (((d.1.1,d.1.2),d.2):Dat)=d from rfl,m20_eq,Option.bind_some]
 by_cases h:vld d=true
 ·rw [h,if_pos rfl,notT,cond_false]
  obtain ⟨hO,hl,hc⟩:=vld_of h
  obtain ⟨n0,n8,_,_⟩:=okO_of hO
  refine bind_of (x:=bds d) ?_ rfl
  generalize hn:d.1.1.toNat=n
  have on:d.1.1=(n:Int):=by omega
  have ow:IntKind.wrap IntKind.i64 (d.1.1+1)=d.1.1+1:=wrap_in (by omega) (by omega)
  rw [ow]
  refine bind_of (x:=.inl (d.1.1+1,obs d.1.1 n)) ?_ ?_
  ·refine count_from (fun i=>(d.1.1+1,obs d.1.1 i)) n rfl (fun i hi=>?_) ?_
   ·rw [ltI (by dsimp only;omega),cond_true]
    have hx:=obs_len d.1.1 i
    dsimp only
    rw [app24 (by omega),Option.bind_some,app24 (by rw [List.length_append];show _+1≤_;omega),Option.bind_some,wrap_in (by omega) (by omega),obs_succ,List.append_assoc]
    rfl
   ·rw [geI (by dsimp only;omega),cond_false]
  ·rw [Sum.elim_inl]
   have hL:obs d.1.1 n++(d.2.take d.2.length).flatMap (clb d.1.1)=obs d.1.1 n++d.2.flatMap (clb d.1.1):=by rw [List.take_length]
   refine bind_of (x:=.inl (d.1.1+1,obs d.1.1 n++d.2.flatMap (clb d.1.1))) ?_ ?_
   ·refine count_from (fun i=>(d.1.1+1,obs d.1.1 n++(d.2.take i).flatMap (clb d.1.1))) d.2.length (by rw [List.take_zero,List.flatMap_nil,List.append_nil]) (fun i hi=>?_) ?_
    ·rw [ltI (by show (i:Int)<(d.2.length:Int);omega),cond_true,idxM_lt hi,Option.bind_some]
     dsimp only
     have hx:=obs_len d.1.1 n
     have hy:=clbs_len d.1.1 (d.2.take i)
     rw [List.length_take] at hy
     have hs:(obs d.1.1 n++(d.2.take i).flatMap (clb d.1.1)).length≤100:=by rw [List.length_append];omega
     have et:(d.2.take (i+1)).flatMap (clb d.1.1)=(d.2.take i).flatMap (clb d.1.1)++clb d.1.1 d.2[i]:=by
      rw [List.take_succ_eq_append_getElem hi,List.flatMap_append]
      simp
     rw [et,← List.append_assoc]
     have hv:=vcl_of (hc _ (List.getElem_mem hi))
     generalize d.2[i]=c at hv ⊢
     generalize obs d.1.1 n++(d.2.take i).flatMap (clb d.1.1)=acc at hs ⊢
     obtain ⟨v1,v2,hv⟩:=hv
     have e138:m138 c=some (c.2.2.2.1,IntKind.wrap IntKind.i64 (c.2.2.2.2-1)):=rfl
     have e139:m139 c=some (c.2.2.2.1,2100):=rfl
     have e140:m140 c=some (0,c.2.2.2.1):=rfl
     have e141:m141 c=some (c.2.2.2.1,c.2.2.2.2):=rfl
     have two:∀ (y z:Bnd),Option.bind (appM (nat_lit 24) acc [y]) (fun r=>Option.bind (appM (nat_lit 24) r [z]) fun r=>(some (Sum.inr (d.1.1+1,r)):Option ((Int×List Bnd)⊕(Int×List Bnd))))=some (.inr (d.1.1+1,acc++[y,z])):=fun y z=>by
      rw [app24 (by omega),Option.bind_some,app24 (by rw [List.length_append];show _+1≤_;omega),Option.bind_some,List.append_assoc]
      rfl
     refine bind_of (x:=.inr (d.1.1+1,acc++clb d.1.1 c)) ?_ ?_
     ·unfold clb
      by_cases k1:c.1=1
      ·rw [if_pos k1,show PE.orM (eqM c.1 (1:Int)) (PE.orM (eqM c.1 (2:Int)) (eqM c.1 (3:Int)))=true by rw [eqI k1];rfl,cond_true,eqI k1,cond_true]
       refine bind_of e138 ?_
       dsimp only
       rw [show PE.negM c.2.2.2.1=-c.2.2.2.1 from rfl,wrap_in (n:=-c.2.2.2.1) (by omega) (by omega),wrap_in (n:=c.2.2.2.2-1) (by omega) (by omega)]
       exact two _ _
      ·rw [if_neg k1]
       by_cases k2:c.1=2
       ·rw [if_pos k2,show PE.orM (eqM c.1 (1:Int)) (PE.orM (eqM c.1 (2:Int)) (eqM c.1 (3:Int)))=true by rw [neI k1,eqI k2];rfl,cond_true,neI k1,cond_false,eqI k2,cond_true]
        refine bind_of e139 ?_
        dsimp only
        rw [show PE.negM c.2.2.2.1=-c.2.2.2.1 from rfl,wrap_in (by omega) (by omega)]
        exact two _ _
       ·rw [if_neg k2]
        by_cases k3:c.1=3
        ·rw [if_pos k3,show PE.orM (eqM c.1 (1:Int)) (PE.orM (eqM c.1 (2:Int)) (eqM c.1 (3:Int)))=true by rw [neI k1,neI k2,eqI k3];rfl,cond_true,neI k1,cond_false,neI k2,cond_false,eqI k3,cond_true]
         refine bind_of e140 ?_
         dsimp only
         rw [show IntKind.wrap IntKind.i64 (PE.negM 0)=0 from rfl]
         exact two _ _
        ·rw [if_neg k3,show PE.orM (eqM c.1 (1:Int)) (PE.orM (eqM c.1 (2:Int)) (eqM c.1 (3:Int)))=false by rw [neI k1,neI k2,neI k3];rfl,cond_false]
         have e45:(bif eqM c.1 (4:Int) then m141 c else bif eqM c.1 (5:Int) then m141 c else none)=some (c.2.2.2.1,c.2.2.2.2):=by
          by_cases k4:c.1=4
          ·rw [eqI k4,cond_true,e141]
          ·have k5:c.1=5:=by omega
           rw [neI k4,cond_false,eqI k5,cond_true,e141]
         refine bind_of e45 ?_
         dsimp only
         rw [show PE.negM c.2.2.2.1=-c.2.2.2.1 from rfl,wrap_in (by omega) (by omega)]
         exact two _ _
     ·rw [Sum.elim_inr,wrap_in (by omega) (by omega)]
    ·rw [geI (by show (d.2.length:Int)≤(d.2.length:Int);omega),cond_false,hL]
   ·rw [Sum.elim_inl,show ((d.1.1,d.1.2):Int×List (Int×Int))=d.1 from rfl,m28_eq hO,Option.bind_some]
    show Option.bind (loopM _ _) _=_
    have hr:=rpr_len d.1 hO
    have hx:=obs_len d.1.1 n
    have hy:=clbs_len d.1.1 d.2
    refine bind_of (x:=bds d) ?_ rfl
    unfold bds
    rw [hn]
    generalize hacc:obs d.1.1 n++d.2.flatMap (clb d.1.1)=acc
    have hs:acc.length≤60:=by rw [← hacc,List.length_append];omega
    have hu:lst d.1.1.toNat (rdc d.1) d.1.1.toNat=rpr d.1:=rfl
    generalize hlr:rpr d.1=R at hr hu ⊢
    rw [← hn,hu]
    refine count_from (fun i=>(d.1.1+1,acc++prs (R.take i))) R.length (by rw [List.take_zero];show _=(_,acc++[]);rw [List.append_nil]) (fun i hi=>?_) ?_
    ·rw [ltI (by show (i:Int)<(R.length:Int);omega),cond_true,idxM_lt hi,Option.bind_some]
     dsimp only
     rw [app24 (by rw [List.length_append,prs_len,List.length_take];omega),Option.bind_some,wrap_in (by omega) (by omega),List.take_succ_eq_append_getElem hi,prs_append,List.append_assoc]
     rfl
    ·rw [geI (by show (R.length:Int)≤(R.length:Int);omega),cond_false,List.take_length]
 ·have h:vld d=false:=by simpa using h
  rw [h,if_neg (by decide)]
  rfl
end Go.Proofs.YthfgccfaildmfaaGreatDoor
namespace Go.Proofs.YthfgccfaildmfaaGreatDoor
open Go Go.Abs Go.PE
open Ord (Rel clos)
set_option maxRecDepth 10000
theorem nodup_sub {α:Type} [DecidableEq α]:∀ (m l:List α),m.Nodup→(∀ x∈m,x∈l)→m.length≤l.length
 | [],l,_,_=>by simp
 | x::m,l,hn,hs=>by
  rw [List.nodup_cons] at hn
  have hx:=hs x (List.mem_cons_self ..)
  have:=nodup_sub m (l.erase x) hn.2 fun y hy=>by
   have hne:y≠x:=fun e=>hn.1 (e▸hy)
   exact (List.mem_erase_of_ne hne).2 (hs y (List.mem_cons_of_mem _ hy))
  rw [List.length_erase_of_mem hx] at this
  have hp:=List.length_pos_of_mem hx
  rw [List.length_cons]
  omega
theorem flat_le {α β:Type} {f:α→List β} {D:Nat}:∀ (us:List α),(∀ u∈us,(f u).length≤D)→(us.flatMap f).length≤us.length*D
 | [],_=>by simp
 | u::us,h=>by
  have h1:=h u (List.mem_cons_self ..)
  have h2:=flat_le us fun v hv=>h v (List.mem_cons_of_mem _ hv)
  rw [List.flatMap_cons,List.length_append,List.length_cons,Nat.add_mul]
  omega
theorem most_of (f:Nat→Nat):∀ n,0<n→∃ v,v<n∧∀ u,u<n→f u≤f v
 | 0,h=>by omega
 | 1,_=>⟨0,by omega,fun u hu=>by rw [show u=0 by omega];exact Nat.le_refl _⟩
 | n+2,_=>by
  obtain ⟨v,h1,h2⟩:=most_of f (n+1) (by omega)
  rcases Nat.lt_or_ge (f v) (f (n+1)) with h | h
  ·refine ⟨n+1,by omega,fun u hu=>?_⟩
   rcases Nat.lt_or_ge u (n+1) with h3 | h3
   ·have:=h2 u h3;omega
   ·rw [show u=n+1 by omega];exact Nat.le_refl _
  ·refine ⟨v,by omega,fun u hu=>?_⟩
   rcases Nat.lt_or_ge u (n+1) with h3 | h3
   ·exact h2 u h3
   ·rw [show u=n+1 by omega];exact h
theorem filt_sum {α:Type} (p:α→Bool):∀ l:List α,(l.filter p).length+(l.filter fun x=>!p x).length=l.length
 | []=>rfl
 | x::l=>by
  have:=filt_sum p l
  cases h:p x<;>simp [h]<;>omega
theorem mul_le16:∀ n,n≤8→∀ k,k≤n→(n-k)*k≤16:=by decide
theorem mantel {n:Nat} (hn:n≤8) {A:Nat→Nat→Bool} (hs:∀ a b,A a b=A b a) (ht:∀ a b c,A a b=true→A b c=true→A a c=false) {E:List (Int×Int)} (hE:E.Nodup)
  (hm:∀ p∈E,(∃ a b:Nat,a<n∧b<n∧A a b=true∧p=((a:Int),(b:Int)))∧(p.2,p.1)∉E):E.length≤16:=by
 rcases Nat.lt_or_ge 0 n with h0 | h0
 ·let deg:Nat→List Nat:=fun u=>(List.range n).filter fun w=>A u w
  obtain ⟨v,hv,hmax⟩:=most_of (fun u=>(deg u).length) n h0
  let out:List Nat:=(List.range n).filter fun u=>!A v u
  let L:List (Int×Int):=out.flatMap fun u=>(deg u).map fun (w:Nat)=>((u:Int),(w:Int))
  have hL:L.length≤out.length*(deg v).length:=flat_le _ fun u hu=>by
   rw [List.length_map]
   exact hmax u (List.mem_range.1 (List.mem_filter.1 hu).1)
  have hsum:(deg v).length+out.length=n:=by
   have:=filt_sum (fun w=>A v w) (List.range n)
   rw [List.length_range] at this
   exact this
  have h16:=mul_le16 n hn (deg v).length (by omega)
  rw [show n-(deg v).length=out.length by omega] at h16
  let f:Int×Int→Int×Int:=fun p=>if A v p.1.toNat=true then (p.2,p.1) else p
  have hnd:(E.map f).Nodup:=by
   unfold List.Nodup
   rw [List.pairwise_map]
   refine List.Pairwise.imp_of_mem (fun {p q} hp hq hne=>?_) hE
   intro e
   have e:(if A v p.1.toNat=true then (p.2,p.1) else p)=(if A v q.1.toNat=true then (q.2,q.1) else q):=e
   split at e
   ·split at e
    ·have:=Prod.mk.inj e
     exact hne (Prod.ext this.2 this.1)
    ·exact (hm p hp).2 (e▸hq)
   ·split at e
    ·exact (hm q hq).2 (e▸hp)
    ·exact hne e
  have:=nodup_sub (E.map f) L hnd fun x hx=>by
   obtain ⟨p,hp,rfl⟩:=List.mem_map.1 hx
   obtain ⟨⟨a,b,ha,hb,hab,rfl⟩,_⟩:=hm p hp
   show (if A v ((a:Int)).toNat=true then ((b:Int),(a:Int)) else ((a:Int),(b:Int)))∈L
   rw [Int.toNat_natCast]
   split
   ·rename_i hva
    have hvb:=ht v a b hva hab
    exact List.mem_flatMap.2 ⟨b,List.mem_filter.2 ⟨List.mem_range.2 hb,by rw [hvb];rfl⟩,List.mem_map.2 ⟨a,List.mem_filter.2 ⟨List.mem_range.2 ha,by rw [hs];exact hab⟩,rfl⟩⟩
   ·rename_i hva
    have hva:A v a=false:=by simpa using hva
    exact List.mem_flatMap.2 ⟨a,List.mem_filter.2 ⟨List.mem_range.2 ha,by rw [hva];rfl⟩,List.mem_map.2 ⟨b,List.mem_filter.2 ⟨List.mem_range.2 hb,hab⟩,rfl⟩⟩
  rw [List.length_map] at this
  omega
 ·cases E with
  | nil=>exact Nat.zero_le _
  | cons p E =>
   obtain ⟨⟨a,b,ha,_⟩,_⟩:=hm p (List.mem_cons_self ..)
   omega
end Go.Proofs.YthfgccfaildmfaaGreatDoor
namespace Go.Proofs.YthfgccfaildmfaaGreatDoor
open Go Go.Abs Go.PE
open Ord (Rel clos)
set_option maxRecDepth 10000
theorem rl_tri {o:Int×List (Int×Int)} (h:frm o=true) {a b c:Nat} (h1:rl o a b=true) (h2:rl o b c=true):rl o a c=true :=
 Ord.clos_tri _ b a c (clos_in h h1).2 h1 h2
theorem lsr_nodup (n:Nat) (d:Rel) (a j:Nat):(lsr n d a j).Nodup:=by
 unfold lsr
 rw [List.nodup_iff_pairwise_ne,List.pairwise_map]
 have h:((List.range j).filter fun b=>d a b).Pairwise (·<·):=(List.pairwise_lt_range).filter _
 refine h.imp fun {x y} hxy he=>?_
 have:=(Prod.mk.inj he).2
 omega
theorem lst_nodup (n:Nat) (d:Rel):∀ i,(lst n d i).Nodup
 | 0=>by simp [lst]
 | i+1=>by
  rw [lst_succ,List.nodup_append]
  refine ⟨lst_nodup n d i,lsr_nodup n d i n,fun x hx y hy he=>?_⟩
  subst he
  unfold lst at hx
  rw [List.mem_flatMap] at hx
  obtain ⟨a,ha,hx⟩:=hx
  rw [List.mem_range] at ha
  unfold lsr at hx hy
  rw [List.mem_map] at hx hy
  obtain ⟨b,_,rfl⟩:=hx
  obtain ⟨c,_,e⟩:=hy
  have:=(Prod.mk.inj e).1
  omega
theorem mem_rpr {o:Int×List (Int×Int)} {p:Int×Int}:p∈rpr o↔∃ a b:Nat,a<o.1.toNat∧b<o.1.toNat∧rdc o a b=true∧p=((a:Int),(b:Int)):=mem_lst
theorem no_loop {o:Int×List (Int×Int)} (h:okO o=true) {a:Nat}:rl o a a=false:=by
 unfold okO at h
 rw [Bool.and_eq_true] at h
 cases hr:rl o a a with
 | false=>rfl
 | true =>
  have ha:=(clos_in h.1 hr).1
  have:=List.all_eq_true.1 h.2 a (List.mem_range.2 ha)
  rw [hr] at this
  cases this
theorem rpr_16 {o:Int×List (Int×Int)} (h:okO o=true):(rpr o).length≤16:=by
 have hf:frm o=true:=by unfold okO at h;rw [Bool.and_eq_true] at h;exact h.1
 obtain ⟨h0,h1,_,_⟩:=frm_of hf
 have r1:∀ {a b},rdc o a b=true→rl o a b=true:=fun hr=>(Ord.red_iff.1 hr).1
 have no2:∀ {x k z},rdc o x z=true→rdc o x k=true→rdc o k z=true→False:=fun {x k z} a b c=>(Ord.red_iff.1 a).2 k (clos_in hf (r1 b)).2 ⟨r1 b,r1 c⟩
 have cyc:∀ {x k z},rdc o x k=true→rdc o k z=true→rdc o z x=true→False:=fun {x k z} a b c=>by
  have:=rl_tri hf (rl_tri hf (r1 a) (r1 b)) (r1 c)
  rw [no_loop h] at this
  cases this
 refine mantel (n:=o.1.toNat) (by omega) (A:=fun a b=>rdc o a b||rdc o b a) (fun a b=>Bool.or_comm _ _) (fun a b c g1 g2=>?_) (lst_nodup _ _ _) fun p hp=>?_
 ·cases g3:(rdc o a c||rdc o c a) with
  | false=>rfl
  | true =>
   exfalso
   rw [Bool.or_eq_true] at g1 g2 g3
   rcases g1 with g1 | g1<;>rcases g2 with g2 | g2<;>rcases g3 with g3 | g3
   ·exact no2 g3 g1 g2
   ·exact cyc g1 g2 g3
   ·exact no2 g1 g3 g2
   ·exact no2 g2 g3 g1
   ·exact no2 g2 g1 g3
   ·exact no2 g1 g2 g3
   ·exact cyc g1 g3 g2
   ·exact no2 g3 g2 g1
 ·obtain ⟨a,b,ha,hb,hr,rfl⟩:=mem_rpr.1 hp
  refine ⟨⟨a,b,ha,hb,by show (rdc o a b||rdc o b a)=true;rw [hr];rfl,rfl⟩,fun hq=>?_⟩
  obtain ⟨c,d,_,_,hr2,e⟩:=mem_rpr.1 hq
  have e:=Prod.mk.inj e
  have e1:c=b:=by omega
  have e2:d=a:=by omega
  subst e1 e2
  have:=rl_tri hf (r1 hr) (r1 hr2)
  rw [no_loop h] at this
  cases this
theorem mem_bds {d:Dat} {c:Bnd}:c∈(bds d).2↔(∃ a:Nat,a<d.1.1.toNat∧(c=((a:Int),d.1.1,0)∨c=(d.1.1,(a:Int),2100)))∨(∃ q∈d.2,c∈clb d.1.1 q)∨∃ a b:Nat,a<d.1.1.toNat∧b<d.1.1.toNat∧rdc d.1 a b=true∧c=((b:Int),(a:Int),0):=by
 unfold bds
 simp only [List.mem_append,List.mem_flatMap]
 rw [or_assoc]
 refine or_congr ?_ (or_congr Iff.rfl ?_)
 ·unfold obs
  rw [List.mem_flatMap]
  constructor
  ·rintro ⟨a,ha,hc⟩
   rw [List.mem_range] at ha
   simp only [List.mem_cons,List.not_mem_nil,or_false] at hc
   exact ⟨a,ha,hc⟩
  ·rintro ⟨a,ha,hc⟩
   exact ⟨a,List.mem_range.2 ha,by simpa using hc⟩
 ·unfold prs
  rw [List.mem_map]
  constructor
  ·rintro ⟨p,hp,rfl⟩
   obtain ⟨a,b,ha,hb,hr,rfl⟩:=mem_rpr.1 hp
   exact ⟨a,b,ha,hb,hr,rfl⟩
  ·rintro ⟨a,b,ha,hb,hr,rfl⟩
   exact ⟨_,mem_rpr.2 ⟨a,b,ha,hb,hr,rfl⟩,rfl⟩
theorem clb_bnd {n:Int} {q:Clu} (hn:n≤8) (h:vcl n q=true) {c:Bnd} (hc:c∈clb n q):0≤c.1∧c.1<n+1∧0≤c.2.1∧c.2.1<n+1∧-2101≤c.2.2∧c.2.2≤2101:=by
 obtain ⟨v1,v2,hv⟩:=vcl_of h
 unfold clb at hc
 split at hc
 ·simp only [List.mem_cons,List.not_mem_nil,or_false] at hc
  rcases hc with rfl | rfl<;>dsimp only<;>omega
 ·split at hc
  ·simp only [List.mem_cons,List.not_mem_nil,or_false] at hc
   rcases hc with rfl | rfl<;>dsimp only<;>omega
  ·split at hc <;>
   ·simp only [List.mem_cons,List.not_mem_nil,or_false] at hc
    rcases hc with rfl | rfl<;>dsimp only<;>omega
structure DOK (d:Dat):Prop where
 v:vld d=true
theorem DOK.c {d:Dat} (h:DOK d):d.2.length≤14:=(vld_of h.v).2.1
theorem DOK.n0 {d:Dat} (h:DOK d):0≤d.1.1∧d.1.1≤8:=by
 obtain ⟨a,b,_,_⟩:=okO_of (vld_of h.v).1
 exact ⟨a,b⟩
theorem DOK.f {d:Dat} (h:DOK d):frm d.1=true:=by
 have:=(vld_of h.v).1
 unfold okO at this
 rw [Bool.and_eq_true] at this
 exact this.1
theorem bds_in {d:Dat} (h:DOK d) {c:Bnd} (hc:c∈(bds d).2):0≤c.1∧c.1<d.1.1+1∧0≤c.2.1∧c.2.1<d.1.1+1∧-2101≤c.2.2∧c.2.2≤2101:=by
 have hn:=h.n0
 rcases mem_bds.1 hc with ⟨a,ha,rfl | rfl⟩ | ⟨q,hq,hc⟩ | ⟨a,b,ha,hb,_,rfl⟩
 ·dsimp only;omega
 ·dsimp only;omega
 ·exact clb_bnd hn.2 ((vld_of h.v).2.2 q hq) hc
 ·dsimp only;omega
theorem DOK.s {d:Dat} (h:DOK d):sys (bds d)=true:=by
 have hn:=h.n0
 unfold sys
 rw [Bool.and_eq_true]
 constructor
 ·refine decide_eq_true ⟨?_,?_,?_⟩
  ·show 0≤d.1.1+1;omega
  ·show d.1.1+1≤16;omega
  ·have h1:=rpr_16 (vld_of h.v).1
   have h2:=h.c
   unfold bds
   simp only [List.length_append,obs_len,clbs_len,prs_len]
   omega
 ·refine List.all_eq_true.2 fun c hc=>decide_eq_true ?_
  have:=bds_in h hc
  show 0≤c.1∧c.1<d.1.1+1∧0≤c.2.1∧c.2.1<d.1.1+1∧-1000000000≤c.2.2∧c.2.2≤1000000000
  omega
def og (d:Dat):Nat:=d.1.1.toNat
theorem bds_n {d:Dat} (h:DOK d):(bds d).1.toNat=og d+1:=by
 have hn:=h.n0
 show (d.1.1+1).toNat=d.1.1.toNat+1
 omega
theorem og_is {d:Dat} (h:DOK d):((og d:Nat):Int)=d.1.1:=by
 have hn:=h.n0
 unfold og
 omega
theorem fw_or {d:Dat} (h:DOK d) (ho:ovS (bds d)=false) {a:Nat} (ha:a<og d) :
  -2100≤fwS (bds d) a (og d)∧fwS (bds d) a (og d)≤0∧0≤fwS (bds d) (og d) a∧fwS (bds d) (og d) a≤2100∧0≤fwS (bds d) a (og d)+fwS (bds d) (og d) a:=by
 have hN:=bds_n h
 have e:=og_is h
 have h1:fwS (bds d) a (og d)≤0:=fw_bound (mem_bds.2 (.inl ⟨a,ha,.inl (by rw [e])⟩))
 have h2:fwS (bds d) (og d) a≤2100:=fw_bound (mem_bds.2 (.inl ⟨a,ha,.inr (by rw [e])⟩))
 have h3:=fw_tri' h.s ho (i:=a) (k:=og d) (j:=a) (by omega) (by omega) (by omega) (by omega) (by omega)
 rw [fw_self ho (by omega)] at h3
 omega
def lo (d:Dat) (a:Nat):Int:=-fwS (bds d) a (og d)
def hi (d:Dat) (a:Nat):Int:=fwS (bds d) (og d) a
def rng (d:Dat):List (Int×Int):=row (og d) fun a=>(lo d a,hi d a+1)
theorem m17_good {d:Dat} (h:DOK d) (ho:ovS (bds d)=false):m17 d=some (rng d,0):=by
 unfold m17
 rw [show (((d.1.1,d.1.2),d.2):Dat)=d from rfl,m24_eq,if_pos h.v,Option.bind_some,show (((bds d,(0:Int)):(Int×List Bnd)×Int).1.1,((bds d,(0:Int)):(Int×List Bnd)×Int).1.2)=bds d from rfl,m25_good h.s ho,Option.bind_some]
 have hn:=h.n0
 have hN:=bds_n h
 have e:=og_is h
 rw [show PE.orM (PE.notM (eqM (0:Int) (0:Int))) (PE.notM (eqM (0:Int) (0:Int)))=false from rfl,cond_false]
 refine bind_of (x:=rng d) ?_ rfl
 rw [← e]
 refine count_from (fun i=>row i fun a=>(lo d a,hi d a+1)) (og d) rfl (fun i hi'=>?_) ?_
 ·have F:=fw_or h ho hi'
  rw [ltI (by dsimp only;omega),cond_true]
  dsimp only
  rw [rt_idx (by omega),Option.bind_some,row_idx (by omega),Option.bind_some,rt_idx (by omega),Option.bind_some,row_idx (by omega),Option.bind_some,show PE.negM (fwS (bds d) i (og d))=-fwS (bds d) i (og d) from rfl,wrap_in (n:=-fwS (bds d) i (og d)) (by omega) (by omega),wrap_in (n:=fwS (bds d) (og d) i+1) (by omega) (by omega),wrap_in (n:=(i:Int)+1) (by omega) (by omega)]
  rw [app_rowOf (y:=(-fwS (bds d) i (og d),fwS (bds d) (og d) i+1)) (g:=fun a=>(lo d a,hi d a+1)) rfl (by show (i+1)*16≤_;omega),Option.bind_some]
 ·rw [geI (by dsimp only;omega),cond_false];rfl
theorem m17_bad {d:Dat} (h:DOK d) (ho:ovS (bds d)=true):m17 d=some ([],220):=by
 unfold m17
 rw [show (((d.1.1,d.1.2),d.2):Dat)=d from rfl,m24_eq,if_pos h.v,Option.bind_some,show (((bds d,(0:Int)):(Int×List Bnd)×Int).1.1,((bds d,(0:Int)):(Int×List Bnd)×Int).1.2)=bds d from rfl,m25_bad h.s ho,Option.bind_some]
 rfl
end Go.Proofs.YthfgccfaildmfaaGreatDoor
namespace Go.Proofs.YthfgccfaildmfaaGreatDoor
open Go Go.Abs Go.PE
set_option maxRecDepth 10000
theorem some_of {α β:Type} {o:Option α} {f:α→β} {b:β} (h:Option.bind o (fun x=>some (f x))=some b):∃ r,o=some r∧f r=b:=by
 cases o with
 | none=>cases h
 | some r=>exact ⟨r,rfl,Option.some.inj h⟩
theorem mo57_eq {l:List Int} (h:l.length≤1000000):mo57 l=some l:=by
 unfold mo57
 cases l with
 | nil =>
  show bothM (some []) (Option.bind (appM _ [] []) _)=_
  rw [appM_of (by show (0+0)*8≤_;omega),Option.bind_some]
  show bothM (some []) (some [])=_
  unfold bothM
  split
  ·rfl
  ·rename_i h _;exact absurd rfl h
 | cons a r =>
  show Option.bind (appM _ [] (a::r)) _=_
  rw [appM_of (by show (0+(a::r).length)*8≤_;omega),Option.bind_some]
  rfl
def yrs (v:Int):Bool:=decide (0≤v∧v≤2100)
def alw (d:Dat) (y:List Int):Bool:=(vld d&&decide ((y.length:Int)=d.1.1)&&y.all yrs)&&allw (bds d) (y++[0])
theorem m53_eq (v:Int):m53 v=some (!yrs v):=by
 unfold m53
 rw [m54_eq]
 rfl
theorem m18_eq (d:Dat) (y:List Int):m18 (d,y)=some (alw d y):=by
 unfold m18
 dsimp only
 rw [show (((d.1.1,d.1.2),d.2):Dat)=d from rfl,m24_eq,Option.bind_some]
 unfold alw
 by_cases hv:vld d=true
 ·rw [if_pos hv,hv,Bool.true_and]
  have hn:=okO_of (vld_of hv).1
  rw [show eqM ((bds d,(0:Int)):(Int×List Bnd)×Int).2 0=true from rfl,cond_true,andT]
  by_cases hl:(y.length:Int)=d.1.1
  ·rw [eqI hl,cond_true,decide_eq_true hl,Bool.true_and]
   obtain ⟨r,h1,h2⟩:=some_of (any_loop (xs:=y) (fun v=>!yrs v) (body:=fun (s:Int)=>bif ltM s
 (lenM y) then Option.bind (idxM y s) fun (r_1:Int)=>Option.bind (m53 r_1) fun (r:Bool)=>bif r then some (Sum.inr (Sum.inr s)) else some (Sum.inl
 (IntKind.wrap IntKind.i64 (s+(1:Int)))) else some (Sum.inr (Sum.inl ()))) (fun k hk=>by
     rw [ltI (by show (k:Int)<(y.length:Int);omega),cond_true,idxM_lt hk,Option.bind_some,m53_eq,Option.bind_some,wrap_in (by omega) (by omega)]
     cases yrs y[k]<;>rfl) (by rw [geI (by show (y.length:Int)≤(y.length:Int);omega)];rfl))
   refine bind_of h1 ?_
   rw [h2,andT]
   have e:PE.notM (y.any fun v=>!yrs v)=y.all yrs:=by
    show (!(y.any fun v=>!yrs v))=_
    rw [List.not_any_eq_all_not]
    simp
   rw [e]
   cases hy:y.all yrs
   ·rfl
   ·rw [cond_true,mo57_eq (by omega),Option.bind_some,appM_of (by show (y.length+1)*8≤_;omega),Option.bind_some,show (((bds d).1,(bds d).2):Sys)=bds d from rfl,m56_eq,Option.bind_some]
    rfl
  ·rw [neI hl,cond_false,decide_eq_false hl];rfl
 ·have hv:vld d=false:=by simpa using hv
  rw [hv,if_neg (by decide)]
  rfl
def ask (d:Dat) (a b k:Int):Bool:=vld d&&decide ((0≤a∧a<d.1.1)∧(0≤b∧b<d.1.1)∧-2100≤k∧k≤2100)
theorem m62_eq (d:Dat) (a b k:Int) (hk:IntKind.i64.has k):∃ z,m62 (d,a,b,k)=some (if vld d=true then bds d else (0,[]),(b,a,z),ask d a b k)∧(-2100≤k→k≤2100→z=-k):=by
 refine ⟨IntKind.wrap IntKind.i64 (-k),?_,fun h1 h2=>wrap_in (by omega) (by omega)⟩
 unfold m62
 dsimp only
 rw [show (((d.1.1,d.1.2),d.2):Dat)=d from rfl,m24_eq,Option.bind_some]
 unfold ask
 by_cases hv:vld d=true
 ·have hn:=okO_of (vld_of hv).1
  rw [if_pos hv,if_pos hv,hv,Bool.true_and,show eqM ((bds d,(0:Int)):(Int×List Bnd)×Int).2 0=true from rfl,cond_true,wrap_in (n:=d.1.1-1) (by omega) (by omega),m54_eq,m54_eq,m54_eq,Option.bind_some,andT]
  by_cases h1:0≤a∧a≤d.1.1-1
  ·rw [decide_eq_true h1,cond_true,Option.bind_some,andT]
   by_cases h2:0≤b∧b≤d.1.1-1
   ·rw [decide_eq_true h2,cond_true,Option.bind_some,andT]
    refine congrArg (fun z=>some (bds d,(b,a,IntKind.wrap IntKind.i64 (-k)),z)) ?_
    rw [Bool.eq_iff_iff,decide_eq_true_eq,decide_eq_true_eq]
    omega
   ·rw [decide_eq_false h2,cond_false,Option.bind_some,andF]
    refine congrArg (fun z=>some (bds d,(b,a,IntKind.wrap IntKind.i64 (-k)),z)) ?_
    symm;exact decide_eq_false (by omega)
  ·rw [decide_eq_false h1,cond_false,Option.bind_some,andF,cond_false,Option.bind_some,andF]
   refine congrArg (fun z=>some (bds d,(b,a,IntKind.wrap IntKind.i64 (-k)),z)) ?_
   symm;exact decide_eq_false (by omega)
 ·have hv:vld d=false:=by simpa using hv
  rw [hv,if_neg (by decide),if_neg (by decide)]
  rfl
def ctn (d:Dat) (a b k:Int):List Int×Bool:=if ask d a b k=true then impR (bds d) (b,a,-k) else ([],false)
theorem m23_eq (d:Dat) (a b k:Int) (hk:IntKind.i64.has k):m23 (d,a,b,k)=some (ctn d a b k):=by
 obtain ⟨z,h1,h2⟩:=m62_eq d a b k hk
 unfold m23
 dsimp only
 rw [show (((d.1.1,d.1.2),d.2):Dat)=d from rfl,h1,Option.bind_some]
 dsimp only
 unfold ctn
 by_cases ha:ask d a b k=true
 ·have hq:=ha
  unfold ask at hq
  rw [Bool.and_eq_true,decide_eq_true_eq] at hq
  rw [ha,if_pos hq.1,if_pos rfl,notT,cond_false,h2 hq.2.2.2.1 hq.2.2.2.2]
  refine bind_of (m63_eq (bds d) (b,a,-k)) ?_
  rfl
 ·have ha:ask d a b k=false:=by simpa using ha
  rw [ha];rfl
def chk (d:Dat) (a b k:Int) (l:List Int):Bool:=ask d a b k&&chkChain (bds d) (b,a,-k) l
theorem m26_eq (d:Dat) (a b k:Int) (l:List Int) (hk:IntKind.i64.has k) (hl:l.length≤4611686018427387904):m26 (d,a,b,k,l)=some (chk d a b k l):=by
 obtain ⟨z,h1,h2⟩:=m62_eq d a b k hk
 unfold m26
 dsimp only
 rw [show (((d.1.1,d.1.2),d.2):Dat)=d from rfl,h1,Option.bind_some]
 dsimp only
 unfold chk
 by_cases ha:ask d a b k=true
 ·have hq:=ha
  unfold ask at hq
  rw [Bool.and_eq_true,decide_eq_true_eq] at hq
  rw [ha,if_pos hq.1,cond_true,h2 hq.2.2.2.1 hq.2.2.2.2]
  refine bind_of (m66_eq (bds d) (b,a,-k) hl) ?_
  rfl
 ·have ha:ask d a b k=false:=by simpa using ha
  rw [ha];rfl
end Go.Proofs.YthfgccfaildmfaaGreatDoor
namespace Go.Proofs.YthfgccfaildmfaaGreatDoor
open Go Go.Abs Go.PE
open Ord (Rel clos)
set_option maxRecDepth 10000
theorem m86_eq {c n:Int} (hc:IntKind.i64.has c) (hn:0<n):m86 (c,n)=some (pk c n):=pk_text hc hn
theorem m37_eq {c n:Int} (hc:IntKind.i64.has c) (hn:0<n):m37 (c,n)=some (pk c n):=pk_text hc hn
theorem m13_eq {c n:Int} (hc:IntKind.i64.has c) (hn:0<n):m13 (c,n)=some (pk c n):=pk_text hc hn
theorem m38_eq (a b c:Int):m38 (a,b,c)=some (decide (b≤a∧a≤c)):=m54_eq a b c
def has2 (p:Int×Int):Prop:=IntKind.i64.has p.1∧IntKind.i64.has p.2
def lp (n:Int) (x:List (Int×Int)) (i:Nat):Int×Int:=match x[i]? with
 | some p=>(pk p.1 n,(pk p.1 n+1+pk p.2 (n-1)) % n)
 | none=>(0,1)
theorem lp_ok {n:Int} (hn:1<n) (x:List (Int×Int)) (i:Nat):pok n (lp n x i)=true:=by
 refine decide_eq_true ?_
 unfold lp
 split
 ·rename_i p _
  have h1:=pk_lo (c:=p.1) (n:=n) (by omega)
  have h2:=pk_hi (c:=p.1) (n:=n) (by omega)
  have h3:=pk_lo (c:=p.2) (n:=n-1) (by omega)
  have h4:=pk_hi (c:=p.2) (n:=n-1) (by omega)
  generalize pk p.1 n=a at *
  generalize pk p.2 (n-1)=t at *
  dsimp only
  have h5:=Int.emod_nonneg (a+1+t) (show n≠0 by omega)
  have h6:=Int.emod_lt_of_pos (a+1+t) (show 0<n by omega)
  refine ⟨h1,h2,h5,h6,fun h=>?_⟩
  by_cases hlt:a+1+t<n
  ·rw [Int.emod_eq_of_lt (by omega) hlt] at h
   omega
  ·have e:(a+1+t) % n=a+1+t-n:=by
    rw [← Int.sub_emod_right (a+1+t) n]
    exact Int.emod_eq_of_lt (by omega) (by omega)
   rw [e] at h
   omega
 ·dsimp only;omega
theorem loose_loop {n:Int} (h0:0≤n) (h8:n≤8) {x:List (Int×Int)} (hx:∀ p∈x,has2 p) :
  ∃ l,(l.length≤20∧∀ p∈l,pok n p=true)∧loopM (fun (s:Int×Int×List (Int×Int))=>bif
 PE.andM (PE.andM (ltM s.1 (lenM x)) (ltM s.1 (20:Int))) (ltM (1:Int) s.2.1) then Option.bind (idxM x s.1) fun (r_1:Int×Int)=>Option.bind
 (m86 (r_1.1,s.2.1)) fun (r_2:Int)=>Option.bind (idxM x s.1) fun (r_3:Int×Int)=>Option.bind (m86 (r_3.2,IntKind.wrap IntKind.i64 (s.2.1-(1 :
 Int)))) fun (r_4:Int)=>Option.bind (remM (IntKind.wrap IntKind.i64 (IntKind.wrap IntKind.i64 (r_2+(1:Int))+r_4)) s.2.1) fun (r_5:Int) =>
 Option.bind (appM (nat_lit 16) s.2.2 [(r_2,r_5)]) fun (r:List (Int×Int))=>some (Sum.inl (IntKind.wrap IntKind.i64 (s.1+(1:Int)),s.2.1,r)) else
 some (Sum.inr (s.2.1,s.2.2))) ((0:Int),n,[])=some (n,l):=by
 let K:Nat:=if 1<n then min x.length 20 else 0
 have hK:K≤20∧K≤x.length∧(0<K→1<n):=by
  show (if 1<n then min x.length 20 else 0)≤20∧(if 1<n then min x.length 20 else 0)≤x.length∧(0<(if 1<n then min x.length 20 else 0)→1<n)
  split
  ·rename_i h;exact ⟨by omega,by omega,fun _=>h⟩
  ·exact ⟨by omega,by omega,fun h=>absurd h (by omega)⟩
 refine ⟨row K (lp n x),⟨by rw [row_length];omega,fun p hp=>?_⟩,?_⟩
 ·obtain ⟨i,hi,rfl⟩:=row_mem hp
  exact lp_ok (hK.2.2 (by omega)) x i
 ·refine count_from (fun k=>(n,row k (lp n x))) K rfl (fun k hk=>?_) ?_
  ·have h1:=hK.2.2 (by omega)
   dsimp only
   rw [ltI (show (k:Int)<lenM x by show (k:Int)<(x.length:Int);omega),ltI (show (k:Int)<20 by omega),ltI h1,andT,andT,cond_true,idxM_lt (show k<x.length by omega),Option.bind_some]
   have hm:=hx _ (List.getElem_mem (show k<x.length by omega))
   have p1:=pk_lo (c:=x[k].1) (n:=n) (by omega)
   have p2:=pk_hi (c:=x[k].1) (n:=n) (by omega)
   have p3:=pk_lo (c:=x[k].2) (n:=n-1) (by omega)
   have p4:=pk_hi (c:=x[k].2) (n:=n-1) (by omega)
   rw [m86_eq hm.1 (by omega),Option.bind_some,Option.bind_some,wrap_in (n:=n-1) (by omega) (by omega),m86_eq hm.2 (by omega),Option.bind_some,wrap_in (n:=pk x[k].1 n+1) (by omega) (by omega),wrap_in (n:=pk x[k].1 n+1+pk x[k].2 (n-1)) (by omega) (by omega),remM_of (by omega) (by omega),Option.bind_some]
   have e:(pk x[k].1 n,(pk x[k].1 n+1+pk x[k].2 (n-1)) % n)=lp n x k:=by
    unfold lp
    rw [List.getElem?_eq_getElem (show k<x.length by omega)]
   rw [e,app_row (g:=lp n x) (by omega),Option.bind_some,wrap_in (by omega) (by omega)]
  ·dsimp only
   have e:PE.andM (PE.andM (ltM (K:Int) (lenM x)) (ltM (K:Int) (20:Int))) (ltM (1:Int) n)=false:=by
    show ((decide ((K:Int)<(x.length:Int))&&decide _)&&decide _)=false
    rw [Bool.and_eq_false_iff,Bool.and_eq_false_iff,decide_eq_false_iff_not,decide_eq_false_iff_not,decide_eq_false_iff_not]
    show (¬ ((if 1<n then min x.length 20 else 0:Nat):Int)<x.length∨¬ ((if 1<n then min x.length 20 else 0:Nat):Int)<20)∨¬ 1<n
    split<;>omega
   rw [e,cond_false]
theorem place_loop {n:Nat} (h8:n≤8) {left:List Int} (hl:left.length=n) (hd:left.Nodup) {m:Int} (hm0:0≤m) (hm:m≤1000000) :
  ∃ pl,(pl.length=n∧pl.Nodup)∧loopM (fun (s:Int×List Int×List Int)
 => bif ltM (0:Int) (lenM s.2.1) then Option.bind (remM s.1 (lenM s.2.1)) fun (r_2:Int)=>Option.bind (divM IntKind.i64 s.1 (lenM s.2.1)) fun (r_3:Int)
 => Option.bind (idxM s.2.1 r_2) fun (r_4:Int)=>Option.bind (appM (nat_lit 8) s.2.2 [r_4]) fun (r_5:List Int)=>Option.bind (Option.bind (sameM r_2 r_2)
 fun (x:Unit)=>sliceM s.2.1 (0:Int) r_2) fun (r_6:List Int)=>Option.bind (sliceM s.2.1 (IntKind.wrap IntKind.i64 (r_2+(1:Int))) (lenM s.2.1)) fun
 (r_7:List Int)=>Option.bind (appM (nat_lit 8) r_6 r_7) fun (r:List Int)=>some (Sum.inl (r_3,r,r_5)) else some (Sum.inr s.2.2)) (m,left,[])=some pl:=by
 obtain ⟨r,hr,hq⟩:=loopM_from (body:=fun (s:Int×List Int×List Int)
 => bif ltM (0:Int) (lenM s.2.1) then Option.bind (remM s.1 (lenM s.2.1)) fun (r_2:Int)=>Option.bind (divM IntKind.i64 s.1 (lenM s.2.1)) fun (r_3:Int)
 => Option.bind (idxM s.2.1 r_2) fun (r_4:Int)=>Option.bind (appM (nat_lit 8) s.2.2 [r_4]) fun (r_5:List Int)=>Option.bind (Option.bind (sameM r_2 r_2)
 fun (x:Unit)=>sliceM s.2.1 (0:Int) r_2) fun (r_6:List Int)=>Option.bind (sliceM s.2.1 (IntKind.wrap IntKind.i64 (r_2+(1:Int))) (lenM s.2.1)) fun
 (r_7:List Int)=>Option.bind (appM (nat_lit 8) r_6 r_7) fun (r:List Int)=>some (Sum.inl (r_3,r,r_5)) else some (Sum.inr s.2.2))
  (fun k s=>(0≤s.1∧s.1≤1000000)∧s.2.1.length+k=n∧s.2.2.length=k∧(s.2.2++s.2.1).Nodup) (fun pl=>pl.length=n∧pl.Nodup) n (s:=(m,left,[])) ⟨⟨hm0,hm⟩,by dsimp only;omega,rfl,hd⟩ (fun k s hk hP=>by
  obtain ⟨m,L,P⟩:=s
  obtain ⟨⟨q0,q1⟩,q2,q3,q4⟩:=hP
  dsimp only at q0 q1 q2 q3 q4 ⊢
  by_cases hL:0<L.length
  ·have e0:lenM L=(L.length:Int):=rfl
   have r0:=Int.emod_nonneg m (show (L.length:Int)≠0 by omega)
   have r1:=Int.emod_lt_of_pos m (show 0<(L.length:Int) by omega)
   have d0:0≤m.tdiv L.length:=Int.tdiv_nonneg q0 (by omega)
   have d1:m.tdiv L.length≤m:=by
    rw [Int.tdiv_eq_ediv_of_nonneg q0]
    exact Int.ediv_le_self _ q0
   rw [e0,ltI (by omega),cond_true,remM_of q0 (by omega),Option.bind_some,divM_pos (by omega),Option.bind_some,wrap_in (by omega) (by omega)]
   obtain ⟨j,hj⟩:=Int.eq_ofNat_of_zero_le r0
   rw [hj] at r1 ⊢
   have hjl:j<L.length:=by omega
   rw [idxM_lt hjl,Option.bind_some,appM_of (by show (P.length+1)*8≤_;omega),Option.bind_some,sameM_self,Option.bind_some,sliceM_of (by omega) (by omega) (by omega),Option.bind_some,wrap_in (by omega) (by omega),sliceM_of (by omega) (by omega) (by omega),Option.bind_some]
   have e1:((L.take (j:Int).toNat).drop (0:Int).toNat)=L.take j:=by simp
   have e2:((L.take (L.length:Int).toNat).drop ((j:Int)+1).toNat)=L.drop (j+1):=by
    rw [show ((j:Int)+1).toNat=j+1 by omega];simp
   rw [e1,e2,appM_of (by rw [List.length_take,List.length_drop];show _*8≤_;omega),Option.bind_some]
   refine .inl ⟨_,by omega,rfl,⟨d0,by omega⟩,?_,?_,?_⟩
   ·dsimp only;rw [List.length_append,List.length_take,List.length_drop];omega
   ·dsimp only;rw [List.length_append];show P.length+1=k+1;omega
   ·dsimp only
    have hp:(P++[L[j]]++(L.take j++L.drop (j+1))).Perm (P++L):=by
     rw [List.append_assoc]
     refine List.Perm.append_left _ ?_
     have hsplit:L=L.take j++L[j]::L.drop (j+1):=by
      rw [List.getElem_cons_drop,List.take_append_drop]
     show (L[j]::(L.take j++L.drop (j+1))).Perm L
     have h2:(L.take j++L[j]::L.drop (j+1)).Perm (L[j]::(L.take j++L.drop (j+1))):=List.perm_middle
     exact h2.symm.trans (by rw [← hsplit])
    exact hp.nodup_iff.2 q4
  ·have hz:L=[]:=List.eq_nil_of_length_eq_zero (by omega)
   subst hz
   refine .inr ⟨P,by rw [geI (by show (([]:List Int).length:Int)≤0;simp)];rfl,?_,?_⟩
   ·simp only [List.length_nil] at q2;omega
   ·rw [List.append_nil] at q4;exact q4)
 exact ⟨r,hq,hr⟩
theorem nodup_getD {l:List Int} (h:l.Nodup) {i j:Nat} (hi:i<l.length) (hj:j<l.length) (hne:i≠j):l.getD i 0≠l.getD j 0:=by
 rw [List.getD_eq_getElem?_getD,List.getD_eq_getElem?_getD,List.getElem?_eq_getElem hi,List.getElem?_eq_getElem hj]
 intro he
 have he:l[i]=l[j]:=he
 have hp:=List.pairwise_iff_getElem.1 h
 rcases Nat.lt_or_gt_of_ne hne with hlt | hlt
 ·exact hp i j hi hj hlt he
 ·exact hp j i hj hi hlt he.symm
def ori (pl:List Int) (p:Int×Int):Prop:=pl.getD p.1.toNat 0<pl.getD p.2.toNat 0
theorem turn_loop {n:Nat} (h8:n≤8) {pl:List Int} (hl:pl.length=n) (hd:pl.Nodup) {ps:List (Int×Int)} (hp:∀ p∈ps,pok n p=true) (hs:ps.length≤20) :
  ∃ qs,(qs.length=ps.length∧∀ p∈qs,pok n p=true∧ori pl p)∧loopM (fun (s:Int×List (Int×Int))=>bif ltM s.1 (lenM s.2) then Option.bind (Option.bind (chkM s.1 (lenM s.2)) fun
 (r_2:Unit)=>Option.bind (idxM s.2 s.1) fun (r_3:Int×Int)=>Option.bind (chkM r_3.1 (lenM pl)) fun (r_4:Unit)=>Option.bind (idxM pl r_3.1) fun
 (r_5:Int)=>Option.bind (chkM r_3.2 (lenM pl)) fun (r_6:Unit)=>Option.bind (idxM pl r_3.2) fun (r_7:Int)=>bif ltM r_7 r_5 then Option.bind (chkM
 s.1 (lenM s.2)) fun (r_8:Unit)=>Option.bind (setM s.2 s.1 fun (x:Int×Int)=>some (r_3.2,r_3.1)) fun (r:List (Int×Int))=>some r else some s.2)
 fun (o:List (Int×Int))=>some (Sum.inl (IntKind.wrap IntKind.i64 (s.1+(1:Int)),o)) else some (Sum.inr s.2)) ((0:Int),ps)=some qs:=by
 obtain ⟨r,hr,hq⟩:=loopM_from (body:=fun (s:Int×List (Int×Int))=>bif ltM s.1 (lenM s.2) then Option.bind (Option.bind (chkM s.1 (lenM s.2)) fun
 (r_2:Unit)=>Option.bind (idxM s.2 s.1) fun (r_3:Int×Int)=>Option.bind (chkM r_3.1 (lenM pl)) fun (r_4:Unit)=>Option.bind (idxM pl r_3.1) fun
 (r_5:Int)=>Option.bind (chkM r_3.2 (lenM pl)) fun (r_6:Unit)=>Option.bind (idxM pl r_3.2) fun (r_7:Int)=>bif ltM r_7 r_5 then Option.bind (chkM
 s.1 (lenM s.2)) fun (r_8:Unit)=>Option.bind (setM s.2 s.1 fun (x:Int×Int)=>some (r_3.2,r_3.1)) fun (r:List (Int×Int))=>some r else some s.2)
 fun (o:List (Int×Int))=>some (Sum.inl (IntKind.wrap IntKind.i64 (s.1+(1:Int)),o)) else some (Sum.inr s.2))
  (fun k s=>s.1=(k:Int)∧s.2.length=ps.length∧(∀ p∈s.2,pok n p=true)∧∀ i (hi:i<s.2.length),i<k→ori pl s.2[i]) (fun qs=>qs.length=ps.length∧∀ p∈qs,pok n p=true∧ori pl p) ps.length (s:=((0:Int),ps)) ⟨rfl,rfl,hp,fun i _ h=>by omega⟩ (fun k s hk hP=>by
  obtain ⟨i,Q⟩:=s
  obtain ⟨q0,q1,q2,q3⟩:=hP
  dsimp only at q0 q1 q2 q3 ⊢
  subst q0
  by_cases hlt:k<Q.length
  ·obtain ⟨v1,v2,v3,v4,v5⟩:=pok_of (q2 _ (List.getElem_mem hlt))
   rw [ltI (show (k:Int)<lenM Q by show (k:Int)<(Q.length:Int);omega),cond_true,chkM_of (n:=lenM Q) (by omega) (by show (k:Int)<(Q.length:Int);omega),Option.bind_some,idxM_lt hlt,Option.bind_some,chkM_of (n:=lenM pl) v1 (by show _<(pl.length:Int);omega),Option.bind_some,idx_getD v1 (by omega),Option.bind_some,chkM_of (n:=lenM pl) v3 (by show _<(pl.length:Int);omega),Option.bind_some,idx_getD v3 (by omega),Option.bind_some,Option.bind_some,setM_of (y:=(Q[k].2,Q[k].1)) (by omega) (by omega) rfl,Option.bind_some,cond_some,wrap_in (by omega) (by omega)]
   have hne:=nodup_getD hd (i:=Q[k].1.toNat) (j:=Q[k].2.toNat) (by omega) (by omega) (by omega)
   by_cases hc:pl.getD Q[k].2.toNat 0<pl.getD Q[k].1.toNat 0
   ·rw [ltI hc,cond_true]
    refine .inl ⟨_,by omega,rfl,rfl,?_,?_,?_⟩
    ·dsimp only;rw [List.length_set,q1]
    ·dsimp only
     intro p hp
     rcases List.mem_or_eq_of_mem_set hp with h | rfl
     ·exact q2 p h
     ·exact decide_eq_true (by dsimp only;omega)
    ·dsimp only
     intro j hj hjk
     rw [List.getElem_set]
     by_cases hkj:(k:Int).toNat=j
     ·rw [if_pos hkj];exact hc
     ·rw [if_neg hkj];exact q3 j _ (by omega)
   ·rw [geI (by omega),cond_false]
    refine .inl ⟨_,by omega,rfl,rfl,q1,q2,?_⟩
    dsimp only
    intro j hj hjk
    by_cases hkj:j=k
    ·subst hkj
     show pl.getD Q[j].1.toNat 0<pl.getD Q[j].2.toNat 0
     omega
    ·exact q3 j hj (by omega)
  ·refine .inr ⟨Q,by rw [geI (by show (Q.length:Int)≤(k:Int);omega)];rfl,q1,fun p hp=>⟨q2 p hp,?_⟩⟩
   obtain ⟨j,hj,rfl⟩:=List.mem_iff_getElem.1 hp
   exact q3 j hj (by omega))
 exact ⟨r,hq,hr⟩
theorem m75_ok {n0:Int} {x:List (Int×Int)} {l:Int} (h1:IntKind.i64.has n0) (h2:∀ p∈x,has2 p) (h3:IntKind.i64.has l) :
  ∃ o,m75 (n0,x,l)=some o∧okO o=true∧o.2.length≤20:=by
 have p1:=pk_lo (c:=n0) (n:=9) (by omega)
 have p2:=pk_hi (c:=n0) (n:=9) (by omega)
 obtain ⟨n,hn⟩:=Int.eq_ofNat_of_zero_le p1
 have n8:n≤8:=by omega
 obtain ⟨ps,⟨a1,a2⟩,a3⟩:=loose_loop (n:=(n:Int)) (by omega) (by omega) h2
 have l1:=pk_lo (c:=l) (n:=40320) (by omega)
 have l2:=pk_hi (c:=l) (n:=40320) (by omega)
 have hd:(row n fun i=>(i:Int)).Nodup:=by
  unfold row
  refine List.pairwise_map.2 ((List.pairwise_lt_range).imp fun {a b} h=>?_)
  show ((a:Int))≠(b:Int)
  omega
 obtain ⟨pl,⟨b1,b2⟩,b3⟩:=place_loop n8 (left:=row n fun i=>(i:Int)) (row_length _ _) hd (m:=pk l 40320) l1 (by omega)
 obtain ⟨qs,⟨c1,c2⟩,c3⟩:=turn_loop n8 b1 b2 a2 a1
 refine ⟨((n:Int),qs),?_,?_,by dsimp only;omega⟩
 ·unfold m75
  dsimp only
  rw [m86_eq h1 (by omega),Option.bind_some,hn]
  refine bind_of a3 ?_
  dsimp only
  rw [m86_eq h3 (by omega),Option.bind_some]
  refine bind_of (x:=row n fun i=>(i:Int)) ?_ ?_
  ·refine count_from (fun i=>row i fun i=>(i:Int)) n rfl (fun i hi=>?_) ?_
   ·rw [ltI (by dsimp only;omega),cond_true]
    dsimp only
    rw [app_row (g:=fun i=>(i:Int)) (by omega),Option.bind_some,wrap_in (by omega) (by omega)]
   ·rw [geI (by dsimp only;omega),cond_false]
  ·refine bind_of b3 ?_
   exact bind_of c3 rfl
 ·have hf:frm ((n:Int),qs)=true:=by
   unfold frm
   rw [Bool.and_eq_true]
   exact ⟨decide_eq_true ⟨by dsimp only;omega,by dsimp only;omega,by dsimp only;omega⟩,List.all_eq_true.2 fun p hp=>(c2 p hp).1⟩
  unfold okO
  rw [hf,Bool.true_and]
  unfold acy
  rw [List.all_eq_true]
  intro a _
  cases hc:rl ((n:Int),qs) a a
  ·rfl
  ·have:=Ord.clos_ind (d:=rel0 qs) (P:=fun a b=>pl.getD a 0<pl.getD b 0) (fun a b hab=>by
    have:=(c2 _ (rel0_iff.1 hab)).2
    unfold ori at this
    simpa using this) (fun a b c h1 h2=>by omega) _ a a hc
   omega
end Go.Proofs.YthfgccfaildmfaaGreatDoor
namespace Go.Proofs.YthfgccfaildmfaaGreatDoor
open Go Go.Abs Go.PE
open Ord (Rel clos)
set_option maxRecDepth 10000
def fl8 (d:Rel):List Bool:=row 64 fun i=>d (i / 8) (i % 8)
theorem fl_len (d:Rel):(fl8 d).length=64:=row_length _ _
theorem at8 (a b:Nat):((nat_lit 0:Nat):Int)+(a:Int)*((nat_lit 8:Nat):Int)+(b:Int)*((nat_lit 1:Nat):Int)=((a*8+b:Nat):Int):=by
 show (0:Int)+(a:Int)*8+(b:Int)*1=_
 omega
theorem fl_idx (d:Rel) {a b:Nat} (ha:a<8) (hb:b<8):idxM (fl8 d) (((nat_lit 0:Nat):Int)+(a:Int)*((nat_lit 8:Nat):Int)+(b:Int)*((nat_lit 1:Nat):Int))=some (d a b):=by
 rw [at8]
 unfold fl8
 rw [row_idx (by omega)]
 rw [show (a*8+b) / 8=a by omega,show (a*8+b) % 8=b by omega]
theorem fl_congr {d d':Rel} (h:∀ a b,a<8→b<8→d a b=d' a b):fl8 d=fl8 d':=row_congr fun i hi=>h _ _ (by omega) (by omega)
theorem fl_set (d:Rel) {a b:Nat} (ha:a<8) (hb:b<8):setM (fl8 d) (((nat_lit 0:Nat):Int)+(a:Int)*((nat_lit 8:Nat):Int)+(b:Int)*((nat_lit 1:Nat):Int)) (fun _=>some true)=some (fl8 fun a' b'=>if a'=a∧b'=b then true else d a' b'):=by
 rw [at8,setM_of (y:=true) (by omega) (by rw [fl_len];omega) rfl]
 congr 1
 unfold fl8
 rw [Int.toNat_natCast,row_set (by omega)]
 refine row_congr fun i hi=>?_
 by_cases h:i=a*8+b
 ·subst h
  rw [if_pos rfl]
  exact (if_pos (show (a*8+b) / 8=a∧(a*8+b) % 8=b by omega)).symm
 ·rw [if_neg h]
  exact (if_neg (show ¬ (i / 8=a∧i % 8=b) by omega)).symm
abbrev B8:=Bool×Bool×Bool×Bool×Bool×Bool×Bool×Bool
def r8 (f:Nat→Bool):B8:=(f 0,f 1,f 2,f 3,f 4,f 5,f 6,f 7)
def tq64 (d:Rel):B8×B8×B8×B8×B8×B8×B8×B8:=(r8 (d 0),r8 (d 1),r8 (d 2),r8 (d 3),r8 (d 4),r8 (d 5),r8 (d 6),r8 (d 7))
def l64 (r:B8×B8×B8×B8×B8×B8×B8×B8):List Bool:=[r.1.1,r.1.2.1,r.1.2.2.1,r.1.2.2.2.1,r.1.2.2.2.2.1,
 r.1.2.2.2.2.2.1,r.1.2.2.2.2.2.2.1,r.1.2.2.2.2.2.2.2,r.2.1.1,r.2.1.2.1,r.2.1.2.2.1,r.2.1.2.2.2.1,r.2.1.2.2.2.2.1,r.2.1.2.2.2.2.2.1,
 r.2.1.2.2.2.2.2.2.1,r.2.1.2.2.2.2.2.2.2,r.2.2.1.1,r.2.2.1.2.1,r.2.2.1.2.2.1,r.2.2.1.2.2.2.1,r.2.2.1.2.2.2.2.1,r.2.2.1.2.2.2.2.2.1,
 r.2.2.1.2.2.2.2.2.2.1,r.2.2.1.2.2.2.2.2.2.2,r.2.2.2.1.1,r.2.2.2.1.2.1,r.2.2.2.1.2.2.1,r.2.2.2.1.2.2.2.1,r.2.2.2.1.2.2.2.2.1,r.2.2.2.1.2.2.2.2.2.1,
 r.2.2.2.1.2.2.2.2.2.2.1,r.2.2.2.1.2.2.2.2.2.2.2,r.2.2.2.2.1.1,r.2.2.2.2.1.2.1,r.2.2.2.2.1.2.2.1,r.2.2.2.2.1.2.2.2.1,r.2.2.2.2.1.2.2.2.2.1,
 r.2.2.2.2.1.2.2.2.2.2.1,r.2.2.2.2.1.2.2.2.2.2.2.1,r.2.2.2.2.1.2.2.2.2.2.2.2,r.2.2.2.2.2.1.1,r.2.2.2.2.2.1.2.1,r.2.2.2.2.2.1.2.2.1,r.2.2.2.2.2.1.2.2.2.1,
 r.2.2.2.2.2.1.2.2.2.2.1,r.2.2.2.2.2.1.2.2.2.2.2.1,r.2.2.2.2.2.1.2.2.2.2.2.2.1,r.2.2.2.2.2.1.2.2.2.2.2.2.2,r.2.2.2.2.2.2.1.1,r.2.2.2.2.2.2.1.2.1,
 r.2.2.2.2.2.2.1.2.2.1,r.2.2.2.2.2.2.1.2.2.2.1,r.2.2.2.2.2.2.1.2.2.2.2.1,r.2.2.2.2.2.2.1.2.2.2.2.2.1,r.2.2.2.2.2.2.1.2.2.2.2.2.2.1,
 r.2.2.2.2.2.2.1.2.2.2.2.2.2.2,r.2.2.2.2.2.2.2.1,r.2.2.2.2.2.2.2.2.1,r.2.2.2.2.2.2.2.2.2.1,r.2.2.2.2.2.2.2.2.2.2.1,r.2.2.2.2.2.2.2.2.2.2.2.1,
 r.2.2.2.2.2.2.2.2.2.2.2.2.1,r.2.2.2.2.2.2.2.2.2.2.2.2.2.1,r.2.2.2.2.2.2.2.2.2.2.2.2.2.2]
theorem l64_is (d:Rel):l64 (tq64 d)=fl8 d:=rfl
theorem m123_eq (o:Int×List (Int×Int)):m123 o=some (frm o):=by
 unfold m123
 by_cases h1:0≤o.1∧o.1≤8∧o.2.length≤28
 ·obtain ⟨h2,h3,h4⟩:=h1
  have e:PE.orM (PE.orM (ltM o.1 (0:Int)) (ltM (8:Int) o.1)) (ltM (28:Int) (lenM o.2))=false:=by
   rw [geI h2,geI h3,orF,orF]
   exact geI (by show (o.2.length:Int)≤28;omega)
  rw [e,cond_false]
  obtain ⟨r,hr,hq⟩:=loopM_from (body:=fun (s:Int)=>bif ltM s (lenM o.2) then Option.bind (idxM o.2 s) fun (r:Int×Int)=>bif PE.orM (PE.orM (PE.orM (PE.orM (ltM r.1 (0:Int)) (leM
 o.1 r.1)) (ltM r.2 (0:Int))) (leM o.1 r.2)) (eqM r.1 r.2) then some (Sum.inr (Sum.inr false)) else some (Sum.inl (IntKind.wrap IntKind.i64 (s+(1:Int))))
 else some (Sum.inr (Sum.inl ()))) (fun k s=>s=(k:Int)∧∀ j (hj:j<o.2.length),j<k→pok o.1 o.2[j]=true) (fun (r:Unit⊕Bool)=>(r=.inl ()∧o.2.all (pok o.1)=true)∨(r=.inr false∧o.2.all (pok o.1)=false)) o.2.length (s:=0) ⟨rfl,fun j _ h=>by omega⟩ (fun k s hk hP=>by
   obtain ⟨rfl,hP⟩:=hP
   by_cases hlt:k<o.2.length
   ·rw [ltI (show (k:Int)<lenM o.2 by show (k:Int)<(o.2.length:Int);omega),cond_true,idxM_lt hlt,Option.bind_some,wrap_in (by omega) (by omega)]
    have e2:PE.orM (PE.orM (PE.orM (PE.orM (ltM o.2[k].1 (0:Int)) (leM o.1 o.2[k].1)) (ltM o.2[k].2 (0:Int))) (leM o.1 o.2[k].2)) (eqM o.2[k].1 o.2[k].2)=!pok o.1 o.2[k]:=by
     rw [Bool.eq_iff_iff]
     unfold pok
     show ((((decide _||decide _)||decide _)||decide _)||decide _)=true↔_
     simp only [Bool.or_eq_true,decide_eq_true_eq,Bool.not_eq_true',decide_eq_false_iff_not]
     omega
    rw [e2]
    cases hp:pok o.1 o.2[k]
    ·refine .inr ⟨_,rfl,.inr ⟨rfl,?_⟩⟩
     rw [List.all_eq_false]
     exact ⟨_,List.getElem_mem hlt,by rw [hp];decide⟩
    ·refine .inl ⟨_,hlt,rfl,rfl,fun j hj hjk=>?_⟩
     by_cases hj2:j=k
     ·subst hj2;exact hp
     ·exact hP j hj (by omega)
   ·refine .inr ⟨.inl (),by rw [geI (by show (o.2.length:Int)≤(k:Int);omega)];rfl,.inl ⟨rfl,?_⟩⟩
    rw [List.all_eq_true]
    intro p hp
    obtain ⟨j,hj,rfl⟩:=List.mem_iff_getElem.1 hp
    exact hP j hj (by omega))
  refine bind_of hr ?_
  unfold frm
  rw [decide_eq_true ⟨h2,h3,h4⟩,Bool.true_and]
  rcases hq with ⟨rfl,hq⟩ | ⟨rfl,hq⟩<;>rw [hq]<;>rfl
 ·have e:PE.orM (PE.orM (ltM o.1 (0:Int)) (ltM (8:Int) o.1)) (ltM (28:Int) (lenM o.2))=true:=by
   show ((decide _||decide _)||decide (28<(o.2.length:Int)))=true
   simp only [Bool.or_eq_true,decide_eq_true_eq]
   omega
  rw [e,cond_true]
  unfold frm
  rw [decide_eq_false (by omega),Bool.false_and]
attribute [local irreducible] fl8 in
theorem m124_loop {n:Nat} (h8:n≤8) {l:List (Int×Int)} (hl:l.length≤28) (hp:∀ p∈l,pok n p=true) :
  loopM (fun (s:Int×List Bool)=>bif ltM s.1 (lenM l) then Option.bind (idxM l s.1) fun (r:Int×Int)
 => Option.bind (idxM l s.1) fun (r_1:Int×Int)=>Option.bind (chkM r.1 ↑(nat_lit 8)) fun (r_2:Unit)=>Option.bind (chkM r_1.2 ↑(nat_lit 8)) fun (r_3
 : Unit)=>Option.bind (setM s.2 (↑(nat_lit 0)+r.1*↑(nat_lit 8)+r_1.2*↑(nat_lit 1)) fun (x:Bool)=>some true) fun (r:List Bool)=>some (Sum.inl
 (IntKind.wrap IntKind.i64 (s.1+(1:Int)),r)) else some (Sum.inr s.2)) ((0:Int),fl8 fun _ _=>false)=some (fl8 (rel0 l)):=by
 refine count_from (fun k=>fl8 (rel0 (l.take k))) l.length rfl (fun k hk=>?_) ?_
 ·obtain ⟨p1,p2,p3,p4,p5⟩:=pok_of (hp _ (List.getElem_mem hk))
  obtain ⟨a,ha⟩:∃ a:Nat,l[k].1=(a:Int):=⟨l[k].1.toNat,by omega⟩
  obtain ⟨b,hb⟩:∃ b:Nat,l[k].2=(b:Int):=⟨l[k].2.toNat,by omega⟩
  have c1:=chk8 (b:=a) (by omega)
  have c2:=chk8 (b:=b) (by omega)
  rw [ltI (by show (k:Int)<(l.length:Int);omega),cond_true,idxM_lt hk,Option.bind_some,Option.bind_some,ha,hb,c1,Option.bind_some,c2,Option.bind_some,fl_set _ (by omega) (by omega),Option.bind_some,wrap_in (by dsimp only;omega) (by dsimp only;omega)]
  refine congrArg (fun z=>some (Sum.inl ((k:Int)+1,z))) (fl_congr fun a' b' _ _=>?_)
  rw [rel0_take hk,ha,hb]
  by_cases h:a'=a∧b'=b
  ·obtain ⟨rfl,rfl⟩:=h
   rw [if_pos ⟨rfl,rfl⟩,decide_eq_true ⟨rfl,rfl⟩,Bool.or_true]
  ·rw [if_neg h,decide_eq_false (by omega),Bool.or_false]
 ·rw [List.take_length,geI (by show (l.length:Int)≤(l.length:Int);omega)];rfl
theorem m124_eq {o:Int×List (Int×Int)} (h:frm o=true):m124 o=some (tq64 (rel0 o.2)):=by
 obtain ⟨h0,h1,h2,h3⟩:=frm_of h
 unfold m124
 have on:o.1=((o.1.toNat:Nat):Int):=by omega
 refine bind_of (x:=fl8 (rel0 o.2)) ?_ ?_
 ·exact m124_loop (n:=o.1.toNat) (by omega) h2 fun p hp=>by rw [← on];exact h3 p hp
 ·rfl
attribute [local irreducible] fl8 in
theorem inner64 {n k a:Nat} (h8:n≤8) (hk:k<n) (ha:a<n) (e:Rel) :
  loopM (fun (s_2:Int×List Bool)=>bif ltM s_2.1 (n:Int) then Option.bind (Option.bind
 (chkM (a:Int) ↑(nat_lit 8)) fun (r_1:Unit)=>Option.bind (chkM (k:Int) ↑(nat_lit 8)) fun (r_2:Unit)=>Option.bind (idxM s_2.2 (↑(nat_lit 0)+(a:Int) *
 ↑(nat_lit 8)+(k:Int)*↑(nat_lit 1))) fun (r_3:Bool)=>Option.bind (bif r_3 then chkM (k:Int) ↑(nat_lit 8) else some ()) fun (r_4:Unit)=>Option.bind (bif r_3
 then chkM s_2.1 ↑(nat_lit 8) else some ()) fun (r_5:Unit)=>Option.bind (bif r_3 then idxM s_2.2 (↑(nat_lit 0)+(k:Int)*↑(nat_lit 8)+s_2.1*↑(nat_lit 1))
 else some false) fun (r_6:Bool)=>bif PE.andM r_3 r_6 then Option.bind (chkM (a:Int) ↑(nat_lit 8)) fun (r_7:Unit)=>Option.bind (chkM s_2.1 ↑(nat_lit 8))
 fun (r_8:Unit)=>Option.bind (setM s_2.2 (↑(nat_lit 0)+(a:Int)*↑(nat_lit 8)+s_2.1*↑(nat_lit 1)) fun (x:Bool)=>some true) fun (r:List Bool) =>
 some r else some s_2.2) fun (o:List Bool)=>some (Sum.inl (IntKind.wrap IntKind.i64 (s_2.1+(1:Int)),o)) else some (Sum.inr s_2.2)) ((0:Int),fl8 e)=some (fl8 fun a' b'=>if a'=a∧b'<n then (e a b'||(e a k&&e k b')) else e a' b'):=by
 refine count_from (fun j=>fl8 fun a' b'=>if a'=a∧b'<j then (e a b'||(e a k&&e k b')) else e a' b') n (fl_congr fun a' b' _ _=>(if_neg (by omega)).symm) (fun j hj=>?_) ?_
 ·have c1:=chk8 (b:=a) (by omega)
  have c2:=chk8 (b:=k) (by omega)
  have c3:=chk8 (b:=j) (by omega)
  have ak:(if a=a∧k<j then (e a k||(e a k&&e k k)) else e a k)=e a k:=by
   by_cases h:k<j
   ·rw [if_pos ⟨rfl,h⟩];cases e a k<;>rfl
   ·rw [if_neg (by omega)]
  have kj:(if k=a∧j<j then (e a j||(e a k&&e k j)) else e k j)=e k j:=if_neg (by omega)
  have step:∀ a' b':Nat,(if a'=a∧b'<j+1 then (e a b'||(e a k&&e k b')) else e a' b')=if a'=a∧b'=j then (e a j||(e a k&&e k j)) else (if a'=a∧b'<j then (e a b'||(e a k&&e k b')) else e a' b'):=by
   intro a' b'
   by_cases h1:a'=a∧b'=j
   ·rw [if_pos h1,if_pos (by omega),h1.2]
   ·rw [if_neg h1]
    by_cases h2:a'=a∧b'<j
    ·rw [if_pos h2,if_pos (by omega)]
    ·rw [if_neg h2,if_neg (by omega)]
  rw [ltI (by dsimp only;omega),cond_true]
  dsimp only
  rw [c1,Option.bind_some,c2,Option.bind_some,fl_idx _ (by omega) (by omega),Option.bind_some,ak]
  cases h1:e a k
  ·rw [cond_false,Option.bind_some,cond_false,Option.bind_some,cond_false,Option.bind_some,andF,cond_false,Option.bind_some,wrap_in (by omega) (by omega)]
   refine congrArg (fun z=>some (Sum.inl ((j:Int)+1,z))) (fl_congr fun a' b' _ _=>?_)
   have s1:=step a' b'
   rw [h1] at s1
   rw [s1]
   by_cases h2:a'=a∧b'=j
   ·rw [if_pos h2,if_neg (by omega),h2.1,h2.2,Bool.false_and,Bool.or_false]
   ·rw [if_neg h2]
  ·rw [h1] at kj
   rw [cond_true,Option.bind_some,cond_true,c3,Option.bind_some,cond_true,fl_idx _ (by omega) (by omega),Option.bind_some,andT]
   have fin:∀ c:Bool,c=e k j→(bif c then fl8 (fun a' b'=>if a'=a∧b'=j then true else if a'=a∧b'<j then (e a b'||(true&&e k b')) else e a' b') else fl8 fun a' b'=>if a'=a∧b'<j then (e a b'||(true&&e k b')) else e a' b')=fl8 fun a' b'=>if a'=a∧b'<j+1 then (e a b'||(true&&e k b')) else e a' b':=by
    intro c hc
    cases c
    ·rw [cond_false]
     refine fl_congr fun a' b' _ _=>?_
     have s1:=step a' b'
     rw [h1] at s1
     rw [s1]
     by_cases h2:a'=a∧b'=j
     ·rw [if_pos h2,if_neg (by omega),h2.1,h2.2,← hc,Bool.and_false,Bool.or_false]
     ·rw [if_neg h2]
    ·rw [cond_true]
     refine fl_congr fun a' b' _ _=>?_
     have s1:=step a' b'
     rw [h1] at s1
     rw [s1]
     by_cases h2:a'=a∧b'=j
     ·rw [if_pos h2,if_pos h2,← hc,Bool.true_and,Bool.or_true]
     ·rw [if_neg h2,if_neg h2]
   rw [fl_set _ (by omega) (by omega),Option.bind_some,Option.bind_some,Option.bind_some,cond_some,wrap_in (by omega) (by omega)]
   exact congrArg (fun z=>some (Sum.inl ((j:Int)+1,z))) (fin _ kj)
 ·rw [geI (by dsimp only;omega),cond_false]
end Go.Proofs.YthfgccfaildmfaaGreatDoor
namespace Go.Proofs.YthfgccfaildmfaaGreatDoor
open Go Go.Abs Go.PE
open Ord (Rel clos)
set_option maxRecDepth 10000
attribute [local irreducible] fl8 in
theorem clos64 {n:Nat} (h8:n≤8) {d:Rel} (hd:∀ k a b,clos d k a b=true→a<n∧b<n) :
  loopM (fun (s:Int×List Bool)=>bif ltM s.1 (n:Int) then Option.bind (loopM
 (fun (s_1:Int×List Bool)=>bif ltM s_1.1 (n:Int) then Option.bind (loopM (fun (s_2:Int×List Bool)=>bif ltM s_2.1 (n:Int) then Option.bind (Option.bind
 (chkM s_1.1 ↑(nat_lit 8)) fun (r_1:Unit)=>Option.bind (chkM s.1 ↑(nat_lit 8)) fun (r_2:Unit)=>Option.bind (idxM s_2.2 (↑(nat_lit 0)+s_1.1 *
 ↑(nat_lit 8)+s.1*↑(nat_lit 1))) fun (r_3:Bool)=>Option.bind (bif r_3 then chkM s.1 ↑(nat_lit 8) else some ()) fun (r_4:Unit)=>Option.bind (bif r_3
 then chkM s_2.1 ↑(nat_lit 8) else some ()) fun (r_5:Unit)=>Option.bind (bif r_3 then idxM s_2.2 (↑(nat_lit 0)+s.1*↑(nat_lit 8)+s_2.1*↑(nat_lit 1))
 else some false) fun (r_6:Bool)=>bif PE.andM r_3 r_6 then Option.bind (chkM s_1.1 ↑(nat_lit 8)) fun (r_7:Unit)=>Option.bind (chkM s_2.1 ↑(nat_lit 8))
 fun (r_8:Unit)=>Option.bind (setM s_2.2 (↑(nat_lit 0)+s_1.1*↑(nat_lit 8)+s_2.1*↑(nat_lit 1)) fun (x:Bool)=>some true) fun (r:List Bool) =>
 some r else some s_2.2) fun (o:List Bool)=>some (Sum.inl (IntKind.wrap IntKind.i64 (s_2.1+(1:Int)),o)) else some (Sum.inr s_2.2)) ((0:Int),s_1.2))
 fun (o:List Bool)=>some (Sum.inl (IntKind.wrap IntKind.i64 (s_1.1+(1:Int)),o)) else some (Sum.inr s_1.2)) ((0:Int),s.2)) fun (o:List Bool) =>
 some (Sum.inl (IntKind.wrap IntKind.i64 (s.1+(1:Int)),o)) else some (Sum.inr s.2)) ((0:Int),fl8 d)=some (fl8 (clos d n)):=by
 refine count_from (fun k=>fl8 (clos d k)) n rfl (fun k hk=>?_) ?_
 ·rw [ltI (by dsimp only;omega),cond_true]
  refine bind_of (x:=fl8 (clos d (k+1))) ?_ ?_
  ·refine count_from (fun a=>fl8 fun a' b'=>if a'<a∧b'<n then clos d (k+1) a' b' else clos d k a' b') n (fl_congr fun a' b' _ _=>(if_neg (by omega)).symm) (fun a ha=>?_) ?_
   ·rw [ltI (by dsimp only;omega),cond_true]
    refine bind_of (inner64 h8 hk ha (fun a' b'=>if a'<a∧b'<n then clos d (k+1) a' b' else clos d k a' b')) ?_
    dsimp only
    rw [wrap_in (by omega) (by omega)]
    refine congrArg (fun z=>some (Sum.inl ((a:Int)+1,z))) (fl_congr fun a' b' _ _=>?_)
    by_cases h1:a'=a∧b'<n
    ·obtain ⟨rfl,h1⟩:=h1
     rw [if_pos ⟨rfl,h1⟩,if_neg (show ¬ (a'<a'∧b'<n) by omega),if_neg (show ¬ (a'<a'∧k<n) by omega),if_pos (show a'<a'+1∧b'<n by omega)]
     have hk2:(if k<a'∧b'<n then clos d (k+1) k b' else clos d k k b')=clos d k k b':=by
      by_cases h2:k<a'∧b'<n
      ·rw [if_pos h2]
       show (clos d k k b'||(clos d k k k&&clos d k k b'))=_
       cases clos d k k b'<;>simp
      ·rw [if_neg h2]
     rw [hk2]
     rfl
    ·rw [if_neg h1]
     by_cases h2:a'<a∧b'<n
     ·rw [if_pos h2,if_pos (by omega)]
     ·rw [if_neg h2,if_neg (by omega)]
   ·rw [geI (by dsimp only;omega),cond_false]
    refine congrArg (fun z=>some (Sum.inr z)) (fl_congr fun a' b' _ _=>?_)
    by_cases h1:a'<n∧b'<n
    ·rw [if_pos h1]
    ·rw [if_neg h1]
     have e:∀ j,clos d j a' b'=false:=fun j=>by
      cases hc:clos d j a' b'
      ·rfl
      ·exact absurd (hd j a' b' hc) h1
     rw [e,e]
  ·dsimp only
   rw [wrap_in (by omega) (by omega)]
 ·rw [geI (by dsimp only;omega),cond_false]
theorem m77_eq {o:Int×List (Int×Int)} (h:frm o=true):m77 o=some (tq64 (rl o)):=by
 obtain ⟨h0,h1,h2,h3⟩:=frm_of h
 unfold m77
 rw [show ((o.1,o.2):Int×List (Int×Int))=o from rfl,m124_eq h,Option.bind_some]
 have on:o.1=((o.1.toNat:Nat):Int):=by omega
 refine bind_of (x:=fl8 (rl o)) ?_ rfl
 have hl:=l64_is (rel0 o.2)
 unfold l64 at hl
 rw [hl,on]
 exact clos64 (n:=o.1.toNat) (by omega) fun k a b hc=>clos_in h hc
attribute [local irreducible] fl8 in
theorem m76_eq (o:Int×List (Int×Int)):m76 o=some (okO o):=by
 unfold m76
 rw [show ((o.1,o.2):Int×List (Int×Int))=o from rfl,m123_eq,Option.bind_some]
 unfold okO
 by_cases h:frm o=true
 ·obtain ⟨h0,h1,h2,h3⟩:=frm_of h
  rw [h,notT,cond_false,Bool.true_and,m77_eq h,Option.bind_some]
  have hl:=l64_is (rl o)
  unfold l64 at hl
  rw [hl]
  unfold acy
  generalize hn:o.1.toNat=n
  have on:o.1=(n:Int):=by omega
  rw [on]
  obtain ⟨r,hr,hq⟩:=loopM_from (body:=fun (s:Int)=>bif ltM s (n:Int) then Option.bind (chkM s ↑(nat_lit 8)) fun (r_2:Unit)=>Option.bind (chkM s ↑(nat_lit 8)) fun (r_3:Unit) =>
 Option.bind (idxM (fl8 (rl o)) (↑(nat_lit 0)+s*↑(nat_lit 8)+s*↑(nat_lit 1))) fun (r:Bool)=>bif r then some (Sum.inr (Sum.inr false)) else some (Sum.inl (IntKind.wrap IntKind.i64
 (s+(1:Int)))) else some (Sum.inr (Sum.inl ()))) (fun k s=>s=(k:Int)∧∀ a,a<k→rl o a a=false) (fun (r:Unit⊕Bool)=>(r=.inl ()∧((List.range n).all fun a=>!rl o a a)=true)∨(r=.inr false∧((List.range n).all fun a=>!rl o a a)=false)) n (s:=0) ⟨rfl,fun a ha=>by omega⟩ (fun k s hk hP=>by
   obtain ⟨rfl,hP⟩:=hP
   by_cases hlt:k<n
   ·have c1:=chk8 (b:=k) (by omega)
    rw [ltI (by omega),cond_true,c1,Option.bind_some,Option.bind_some,fl_idx _ (by omega) (by omega),Option.bind_some,wrap_in (by omega) (by omega)]
    cases hc:rl o k k
    ·exact .inl ⟨_,hlt,rfl,rfl,fun a ha=>by
      by_cases ha2:a=k
      ·rw [ha2];exact hc
      ·exact hP a (by omega)⟩
    ·refine .inr ⟨_,rfl,.inr ⟨rfl,?_⟩⟩
     rw [List.all_eq_false]
     exact ⟨k,List.mem_range.2 (by omega),by rw [hc];decide⟩
   ·refine .inr ⟨.inl (),by rw [geI (by omega)];rfl,.inl ⟨rfl,?_⟩⟩
    rw [List.all_eq_true]
    intro a ha
    rw [List.mem_range] at ha
    rw [hP a (by omega)];rfl)
  refine bind_of hr ?_
  rcases hq with ⟨rfl,hq⟩ | ⟨rfl,hq⟩<;>rw [hq]<;>rfl
 ·have h:frm o=false:=by simpa using h
  rw [h];rfl
end Go.Proofs.YthfgccfaildmfaaGreatDoor
namespace Go.Proofs.YthfgccfaildmfaaGreatDoor
open Go Go.Abs Go.PE
open Ord (Rel clos)
set_option maxRecDepth 10000
theorem fl_setv (d:Rel) {a b:Nat} (ha:a<8) (hb:b<8) (v:Bool):setM (fl8 d) (((nat_lit 0:Nat):Int)+(a:Int)*((nat_lit 8:Nat):Int)+(b:Int)*((nat_lit 1:Nat):Int)) (fun _=>some v)=some (fl8 fun a' b'=>if a'=a∧b'=b then v else d a' b'):=by
 rw [at8,setM_of (y:=v) (by omega) (by rw [fl_len];omega) rfl]
 congr 1
 unfold fl8
 rw [Int.toNat_natCast,row_set (by omega)]
 refine row_congr fun i hi=>?_
 by_cases h:i=a*8+b
 ·subst h
  rw [if_pos rfl]
  exact (if_pos (show (a*8+b) / 8=a∧(a*8+b) % 8=b by omega)).symm
 ·rw [if_neg h]
  exact (if_neg (show ¬ (i / 8=a∧i % 8=b) by omega)).symm
attribute [local irreducible] fl8 in
theorem red_in {n a b:Nat} (h8:n≤8) (ha:a<n) (hb:b<n) (r e:Rel) (he:e a b=r a b) :
  loopM (fun (s_2:Int×List Bool)=>bif ltM s_2.1 (n:Int) then Option.bind (Option.bind (chkM (a:Int) ↑(nat_lit 8)) fun (r_8:Unit)=>Option.bind (chkM s_2.1 ↑(nat_lit 8)) fun (r_9:Unit) =>
 Option.bind (idxM (fl8 r) (↑(nat_lit 0)+(a:Int)*↑(nat_lit 8)+s_2.1*↑(nat_lit 1))) fun (r_10:Bool)=>Option.bind (bif r_10 then chkM s_2.1 ↑(nat_lit 8) else some ()) fun (r_11:Unit) =>
 Option.bind (bif r_10 then chkM (b:Int) ↑(nat_lit 8) else some ()) fun (r_12:Unit)=>Option.bind (bif r_10 then idxM (fl8 r) (↑(nat_lit 0)+s_2.1*↑(nat_lit 8)+(b:Int)*↑(nat_lit 1)) else some false) fun (r_13:Bool) =>
 bif PE.andM r_10 r_13 then Option.bind (chkM (a:Int) ↑(nat_lit 8)) fun (r_14:Unit)=>Option.bind (chkM (b:Int) ↑(nat_lit 8)) fun (r_15:Unit) =>
 Option.bind (setM s_2.2 (↑(nat_lit 0)+(a:Int)*↑(nat_lit 8)+(b:Int)*↑(nat_lit 1)) fun (x:Bool)=>some false) fun (r:List Bool)=>some r else some s_2.2) fun (o:List Bool) =>
 some (Sum.inl (IntKind.wrap IntKind.i64 (s_2.1+(1:Int)),o)) else some (Sum.inr s_2.2)) ((0:Int),fl8 e)=some (fl8 fun a' b'=>if a'=a∧b'=b then pred r a b n else e a' b'):=by
 have c1:=chk8 (b:=a) (by omega)
 have c2:=chk8 (b:=b) (by omega)
 refine count_from (fun k=>fl8 fun a' b'=>if a'=a∧b'=b then pred r a b k else e a' b') n (fl_congr fun a' b' _ _=>?_) (fun k hk=>?_) ?_
 ·by_cases h:a'=a∧b'=b
  ·rw [if_pos h,pred_zero,h.1,h.2,he]
  ·rw [if_neg h]
 ·have c3:=chk8 (b:=k) (by omega)
  rw [ltI (by dsimp only;omega),cond_true]
  dsimp only
  rw [c1,Option.bind_some,c3,Option.bind_some,fl_idx _ (by omega) (by omega),Option.bind_some]
  have fin:∀ z:List Bool,z=fl8 (fun a' b'=>if a'=a∧b'=b then pred r a b (k+1) else e a' b')→some (Sum.inl (IntKind.wrap IntKind.i64 ((k:Int)+1),z))=(some (Sum.inl ((k:Int)+1,fl8 fun a' b'=>if a'=a∧b'=b then pred r a b (k+1) else e a' b')):Option ((Int×List Bool)⊕List Bool)):=fun z hz=>by
   rw [hz,wrap_in (by omega) (by omega)]
  cases h1:r a k with
  | false =>
   refine fin _ (fl_congr fun a' b' _ _=>?_)
   by_cases h:a'=a∧b'=b
   ·rw [if_pos h,if_pos h,pred_succ,h1];simp
   ·rw [if_neg h,if_neg h]
  | true =>
   rw [cond_true,Option.bind_some,cond_true,c2,Option.bind_some,cond_true,fl_idx _ (by omega) (by omega),Option.bind_some,andT]
   cases h2:r k b with
   | false =>
    refine fin _ (fl_congr fun a' b' _ _=>?_)
    by_cases h:a'=a∧b'=b
    ·rw [if_pos h,if_pos h,pred_succ,h1,h2];simp
    ·rw [if_neg h,if_neg h]
   | true =>
    rw [cond_true,Option.bind_some,Option.bind_some,fl_setv _ (by omega) (by omega),Option.bind_some,Option.bind_some]
    refine fin _ (fl_congr fun a' b' _ _=>?_)
    by_cases h:a'=a∧b'=b
    ·rw [if_pos h,if_pos h,pred_succ,h1,h2];simp
    ·rw [if_neg h,if_neg h,if_neg h]
 ·rw [geI (by dsimp only;omega),cond_false]
attribute [local irreducible] fl8 in
theorem list_row {n i:Nat} (hn8:n≤8) (hi:i<n) (d:Rel) (N:Int) {acc:List (Int×Int)} (ha:acc.length≤64) :
  loopM (fun (s_1:Int×Int×List (Int×Int))=>bif ltM s_1.1 (n:Int) then Option.bind (Option.bind (chkM (i:Int) ↑(nat_lit 8)) fun (r:Unit)=>Option.bind (chkM s_1.1 ↑(nat_lit 8)) fun (r_1:Unit)=>Option.bind
 (idxM (fl8 d) (↑(nat_lit 0)+(i:Int)*↑(nat_lit 8)+s_1.1*↑(nat_lit 1))) fun (r_2:Bool)=>bif r_2 then Option.bind
 (appM (nat_lit 16) s_1.2.2 [((i:Int),s_1.1)]) fun (r:List (Int×Int))=>some (s_1.2.1,r) else some (s_1.2.1,s_1.2.2)) fun (o:Int×List (Int×Int)) =>
 some (Sum.inl (IntKind.wrap IntKind.i64 (s_1.1+(1:Int)),o.1,o.2)) else some (Sum.inr (s_1.2.1,s_1.2.2))) ((0:Int),N,acc)=some (N,acc++lsr n d i n):=by
 refine count_from (fun j=>(N,acc++lsr n d i j)) n (by show _=(N,acc++lsr n d i 0);rw [show lsr n d i 0=[] from rfl,List.append_nil]) (fun j hj=>?_) ?_
 ·rw [ltI (by dsimp only;omega),cond_true]
  dsimp only
  have hl:=lsr_len n d i j
  rw [chk8 (b:=i) (by omega),Option.bind_some,chk8 (b:=j) (by omega),Option.bind_some,fl_idx _ (by omega) (by omega),Option.bind_some,appM_of (by rw [List.length_append];show (_+_+1)*16≤_;omega),Option.bind_some,cond_some,wrap_in (by omega) (by omega),lsr_succ,← List.append_assoc]
  cases d i j
  ·rw [cond_false,cond_false,List.append_nil]
  ·rw [cond_true,cond_true]
 ·rw [geI (by dsimp only;omega),cond_false]
attribute [local irreducible] fl8 in
theorem m125_eq {n:Nat} (hn8:n≤8) (d:Rel):m125 ((n:Int),tq64 d)=some ((n:Int),lst n d n):=by
 unfold m125
 dsimp only
 have hl:=l64_is d
 unfold l64 at hl
 rw [hl]
 refine bind_of (x:=((n:Int),lst n d n)) ?_ rfl
 refine count_from (fun i=>((n:Int),lst n d i)) n rfl (fun i hi=>?_) ?_
 ·rw [ltI (by dsimp only;omega),cond_true]
  refine bind_of (list_row hn8 hi d (n:Int) (by dsimp only;have:=lst_len n d i;have h2:i*n≤8*8:=Nat.mul_le_mul (by omega) (by omega);omega)) ?_
  dsimp only
  rw [wrap_in (by omega) (by omega),lst_succ]
 ·rw [geI (by dsimp only;omega),cond_false]
theorem m79_eq (o:Int×List (Int×Int)):m79 o=some (if okO o=true then ((o.1,rpr o),0) else ((0,[]),150)):=by
 unfold m79
 rw [show ((o.1,o.2):Int×List (Int×Int))=o from rfl,m76_eq,Option.bind_some]
 by_cases h:okO o=true
 ·rw [h,notT,cond_false,if_pos rfl]
  have hf:frm o=true:=by unfold okO at h;rw [Bool.and_eq_true] at h;exact h.1
  obtain ⟨h0,h1,h2,h3⟩:=frm_of hf
  rw [m77_eq hf,Option.bind_some]
  have hl:=l64_is (rl o)
  unfold l64 at hl
  rw [hl]
  have on:o.1=((o.1.toNat:Nat):Int):=by omega
  refine bind_of (x:=fl8 (rdc o)) ?_ ?_
  ·rw [on]
   unfold rdc
   generalize hr:rl o=r
   generalize hn:o.1.toNat=n
   have h8:n≤8:=by omega
   have hout:∀ a b,¬ (a<n∧b<n)→r a b=false:=fun a b hab=>by
    cases hc:r a b with
    | false=>rfl
    | true =>
     rw [← hr] at hc
     have:=clos_in hf hc
     rw [hn] at this
     exact absurd this hab
   refine Eq.trans (count_from (fun i=>fl8 fun a' b'=>if a'<i∧b'<n then Ord.red n r a' b' else false) n (r:=fl8 fun a' b'=>if a'<n∧b'<n then Ord.red n r a' b' else false) (show _=fl8 _ from (fl_congr (d:=fun _ _=>false) fun a' b' _ _=>(if_neg (by omega)).symm)) (fun i hi=>?_) ?_) (congrArg some (fl_congr fun a' b' _ _=>?_))
   ·rw [ltI (by dsimp only;omega),cond_true]
    refine bind_of (x:=fl8 fun a' b'=>if a'<i+1∧b'<n then Ord.red n r a' b' else false) ?_ (by dsimp only;rw [wrap_in (by omega) (by omega)])
    refine Eq.trans (count_from (fun j=>fl8 fun a' b'=>if a'<i∧b'<n∨a'=i∧b'<j then Ord.red n r a' b' else false) n (r:=fl8 fun a' b'=>if a'<i∧b'<n∨a'=i∧b'<n then Ord.red n r a' b' else false) (show (fl8 fun a' b'=>if a'<i∧b'<n then Ord.red n r a' b' else false)=_ from fl_congr fun a' b' _ _=>?_) (fun j hj=>?_) ?_) (congrArg some (fl_congr fun a' b' _ _=>?_))
    ·by_cases hx:a'<i∧b'<n
     ·rw [if_pos hx,if_pos (.inl hx)]
     ·rw [if_neg hx,if_neg (by omega)]
    ·have c1:=chk8 (b:=i) (by omega)
     have c2:=chk8 (b:=j) (by omega)
     rw [ltI (by dsimp only;omega),cond_true]
     dsimp only
     refine bind_of c1 (bind_of c2 (bind_of (fl_idx r (by omega) (by omega)) (bind_of c1 (bind_of c2 (bind_of (fl_setv _ (by omega) (by omega) _) (bind_of (red_in h8 hi hj r (fun a' b'=>if a'=i∧b'=j then r i j else if a'<i∧b'<n∨a'=i∧b'<j then Ord.red n r a' b' else false) (if_pos ⟨rfl,rfl⟩)) ?_))))))
     rw [wrap_in (by omega) (by omega)]
     refine congrArg (fun z=>some (Sum.inl ((j:Int)+1,z))) (fl_congr fun a' b' _ _=>?_)
     by_cases hx:a'=i∧b'=j
     ·rw [if_pos hx,if_pos (by omega),hx.1,hx.2]
      rfl
     ·rw [if_neg hx,if_neg hx]
      by_cases hy:a'<i∧b'<n∨a'=i∧b'<j
      ·rw [if_pos hy,if_pos (by omega)]
      ·rw [if_neg hy,if_neg (by omega)]
    ·rw [geI (by dsimp only;omega),cond_false]
    ·by_cases hx:a'<i+1∧b'<n
     ·rw [if_pos hx,if_pos (by omega)]
     ·rw [if_neg hx,if_neg (by omega)]
   ·rw [geI (by dsimp only;omega),cond_false]
   ·by_cases hx:a'<n∧b'<n
    ·rw [if_pos hx]
    ·rw [if_neg hx]
     unfold Ord.red
     rw [hout a' b' hx,Bool.false_and]
  ·refine bind_of (x:=(o.1,lst o.1.toNat (rdc o) o.1.toNat)) ?_ rfl
   have:=m125_eq (n:=o.1.toNat) (by omega) (rdc o)
   rw [← on] at this
   exact this
 ·have h:okO o=false:=by simpa using h
  rw [h,if_neg (by decide)]
  rfl
end Go.Proofs.YthfgccfaildmfaaGreatDoor
namespace Go.Proofs.YthfgccfaildmfaaGreatDoor
open Go Go.Abs Go.PE
theorem m165_eq (a b c:Int):m165 (a,b,c)=some (decide (b≤a)&&decide (a≤c)):=rfl
theorem m131_eq {n:Int} (c:Int×Int×Int) (h0:0≤n) (h1:n≤16):m131 (n,c.1,c.2.1,c.2.2)=some (bnd n c):=by
 unfold m131 bnd
 have e:∀ a:Int,decide (a≤n-1)=decide (a<n):=fun a=>by
  by_cases h:a<n
  ·rw [decide_eq_true h,decide_eq_true (by omega)]
  ·rw [decide_eq_false h,decide_eq_false (by omega)]
 simp only [m165_eq,Option.bind_some,wrap_in (n:=n-1) (by omega) (by omega),Bool.decide_and,e]
 generalize decide ((0:Int)≤c.1)=p1
 generalize decide (c.1<n)=p2
 generalize decide ((0:Int)≤c.2.1)=p3
 generalize decide (c.2.1<n)=p4
 generalize decide ((-1000000000:Int)≤c.2.2)=p5
 generalize decide (c.2.2≤(1000000000:Int))=p6
 cases p1<;>cases p2<;>cases p3<;>cases p4<;>cases p5<;>cases p6<;>rfl
theorem m126_eq (x:Sys):m126 x=some (sys x):=by
 unfold m126
 rw [m165_eq,Option.bind_some]
 by_cases h:0≤x.1∧x.1≤16∧x.2.length≤60
 ·obtain ⟨h0,h1,h2⟩:=h
  rw [decide_eq_true h0,decide_eq_true h1,Bool.and_self,notT,orF,geI (by show (x.2.length:Int)≤60;omega),cond_false]
  obtain ⟨r,g1,g2⟩:=all_loop (n:=x.2.length) (fun k=>bnd x.1 (x.2.getD k (0,0,0))) (body:=fun (s:Int) =>
       bif ltM s (lenM x.2) then
        Option.bind (idxM x.2 s) fun (r_1:Int×Int×Int) =>
         Option.bind (m131 (x.1,r_1.1,r_1.2.1,r_1.2.2)) fun (r:Bool) =>
          bif PE.notM r then some (Sum.inr (Sum.inr false))
          else some (Sum.inl (IntKind.wrap IntKind.i64 (s+(1:Int))))
       else some (Sum.inr (Sum.inl ()))) (fun k hk=>by
   rw [ltI (by show (k:Int)<(x.2.length:Int);omega),cond_true,idxM_lt hk,Option.bind_some,m131_eq _ h0 h1,Option.bind_some,wrap_in (by omega) (by omega),getD_of hk]
   cases bnd x.1 x.2[k]<;>rfl) (by rw [geI (Int.le_refl _)];rfl)
  refine bind_of g1 ?_
  have e:sys x=r:=by
   unfold sys
   rw [decide_eq_true ⟨h0,h1,h2⟩,Bool.true_and,Bool.eq_iff_iff,g2]
   constructor
   ·intro h k hk
    rw [getD_of hk]
    exact List.all_eq_true.1 h _ (List.getElem_mem hk)
   ·intro h
    refine List.all_eq_true.2 fun c hc=>?_
    obtain ⟨k,hk,rfl⟩:=List.mem_iff_getElem.1 hc
    have:=h k hk
    rw [getD_of hk] at this
    exact this
  rw [e]
  cases r<;>rfl
 ·have e:PE.orM (PE.notM (decide (0≤x.1)&&decide (x.1≤16))) (ltM 60 (lenM x.2))=true:=by
   by_cases a:0≤x.1
   ·by_cases b:x.1≤16
    ·rw [decide_eq_true a,decide_eq_true b,Bool.and_self,notT,orF]
     exact decide_eq_true (by show (60:Int)<(x.2.length:Int);omega)
    ·rw [decide_eq_false b,Bool.and_false];rfl
   ·rw [decide_eq_false a,Bool.false_and];rfl
  rw [e,cond_true]
  unfold sys
  rw [decide_eq_false h,Bool.false_and]
theorem row_done {m:Nat} (g g':Nat→Int):row m (fun k=>if k<m then g k else g' k)=row m g:=row_congr fun k hk=>if_pos hk
theorem row_put {m j:Nat} {g g':Nat→Int} (hj:j<m):(row m (fun k=>if k<j then g k else g' k)).set j (g j)=row m (fun k=>if k<j+1 then g k else g' k):=by
 rw [row_set hj]
 refine row_congr fun k _=>?_
 by_cases e:k=j
 ·subst e;rw [if_pos rfl,if_pos (by omega)]
 ·rw [if_neg e]
  by_cases e3:k<j
  ·rw [if_pos e3,if_pos (by omega)]
  ·rw [if_neg e3,if_neg (by omega)]
theorem set_row {m j:Nat} {g:Nat→Int} {f:Int→Option Int} {y:Int} (hj:j<m) (hy:f (g j)=some y):setM (row m g) (j:Int) f=some ((row m g).set j y):=by
 unfold setM
 rw [row_idx hj]
 simp only [hy]
 have e2:((j:Int)).toNat=j:=by omega
 rw [e2]
theorem set_rowc {m j:Nat} {g:Nat→Int} {y:Int} (hj:j<m):setM (row m g) (j:Int) (fun _=>some y)=some ((row m g).set j y):=set_row (f:=fun _=>some y) hj rfl
def iniR (m i:Nat) (k:Nat):Int:=if m=0∧i=k then 0 else 1152921504606846976
theorem m128_eq {n:Nat} (hn:n≤16) {bs:List (Int×Int×Int)} (hl:bs.length≤60) (hb:bs.all (bnd (n:Int))=true):m128 ((n:Int),bs)=some (row (n+1) fun m=>rt n (fun _=>n) (wkT bs m)):=by
 unfold m128
 dsimp only
 refine bind_of (count_loop (fun m=>row m fun m=>rt n (fun _=>n) (wkT bs m)) (n+1) (fun m hm=>?_) ?_) rfl
 ·dsimp only
  rw [leI (by omega),cond_true]
  refine bind_of (x:=rt n (fun _=>n) (wkT bs m)) ?_ (bind_of (app_rowOf rfl (by show (m+1)*24≤140737488355328;omega)) (by rw [wrap_in (by omega) (by omega)]))
  refine count_loop (fun i=>row i fun i=>row n (wkT bs m i)) n (fun i hi=>?_) ?_
  ·dsimp only
   rw [ltI (by omega),cond_true]
   have hmk:mkM (n:Int) (n:Int) (nat_lit 8) (0:Int)=some (row n fun _=>0):=by
    rw [mkM_of (by omega) (by omega) (by show (n:Int)*8≤140737488355328;omega),replicate_row]
    have ht:((n:Int)).toNat=n:=by omega
    rw [ht]
   refine bind_of hmk ?_
   refine bind_of (x:=row n (iniR m i)) ?_ ?_
   ·have e0:(row n fun _=>(0:Int))=row n fun k=>if k<0 then iniR m i k else 0:=row_congr fun k _=>by rw [if_neg (by omega)]
    rw [e0]
    refine count_loop (fun j=>row n fun k=>if k<j then iniR m i k else 0) n (fun j hj=>?_) ?_
    ·dsimp only
     rw [ltI (by omega),cond_true,chk_row hj,Option.bind_some,set_rowc hj,Option.bind_some]
     refine bind_of (x:=row n fun k=>if k<j+1 then iniR m i k else 0) ?_ (by rw [wrap_in (by omega) (by omega)])
     by_cases e:m=0∧i=j
     ·have e1:PE.andM (eqM (m:Int) 0) (eqM (i:Int) (j:Int))=true:=by rw [eqI (by omega),eqI (by omega)];rfl
      rw [e1,cond_true,row_set hj,chk_row hj,Option.bind_some,set_rowc hj,Option.bind_some,row_set hj]
      congr 1
      refine row_congr fun k _=>?_
      by_cases e2:k=j
      ·subst e2
       rw [if_pos rfl,if_pos (by omega)]
       unfold iniR
       rw [if_pos e]
      ·rw [if_neg e2,if_neg e2]
       by_cases e3:k<j
       ·rw [if_pos e3,if_pos (by omega)]
       ·rw [if_neg e3,if_neg (by omega)]
     ·have e1:PE.andM (eqM (m:Int) 0) (eqM (i:Int) (j:Int))=false:=by
       by_cases e2:m=0
       ·have:i≠j:=fun h=>e ⟨e2,h⟩
        rw [neI (a:=(i:Int)) (b:=(j:Int)) (by omega)]
        cases eqM (m:Int) 0<;>rfl
       ·rw [neI (by omega)];rfl
      rw [e1,cond_false]
      have e4:iniR m i j=1152921504606846976:=by unfold iniR;rw [if_neg e]
      have:=row_put (m:=n) (g:=iniR m i) (g':=fun _=>0) hj
      rw [e4] at this
      rw [this]
    ·dsimp only
     rw [geI (by omega),cond_false,row_done]
   ·refine bind_of (x:=row n (wkT bs m i)) ?_ (bind_of (app_rowOf rfl (by show (i+1)*24≤140737488355328;omega)) (by rw [wrap_in (by omega) (by omega)]))
    cases m with
    | zero =>
     rw [loopM_eq]
     have e1:PE.andM (ltM (0:Int) (lenM bs)) (ltM 0 ((0:Nat):Int))=false:=by
      rw [geI (a:=0) (b:=((0:Nat):Int)) (by omega)]
      cases ltM (0:Int) (lenM bs)<;>rfl
     dsimp only
     rw [e1,cond_false]
     show some (row n (iniR 0 i))=some (row n (d0 i))
     congr 1
     refine row_congr fun k _=>?_
     unfold iniR d0
     by_cases e:i=k
     ·rw [if_pos ⟨rfl,e⟩,if_pos e]
     ·rw [if_neg fun h=>e h.2,if_neg e]
    | succ m =>
     have e0:row n (iniR (m+1) i)=row n (farT i):=row_congr fun k _=>by unfold iniR;rw [if_neg (by omega)];rfl
     rw [e0]
     refine count_loop (fun j=>row n ((bs.take j).foldl (addW (wkT bs m)) farT i)) bs.length (fun j hj=>?_) ?_
     ·obtain ⟨a,b,ha,hb',e1,e2,_,_⟩:=bnd_of (List.all_eq_true.1 hb _ (List.getElem_mem hj))
      have t1:bs[j].1.toNat=a:=by omega
      have t2:bs[j].2.1.toNat=b:=by omega
      have e3:((m+1:Nat):Int)-1=(m:Int):=by omega
      have hle:=foldW_le (wkT bs m) (bs.take j) farT i b
      have hfe:farT i b=1152921504606846976:=rfl
      dsimp only
      rw [ltI (by show (j:Int)<(bs.length:Int);omega),andT,ltI (by omega),cond_true,idxM_lt hj,Option.bind_some,e3,wrap_in (n:=(m:Int)) (by omega) (by omega),chkM_of (by omega) (by rw [lenRow];omega),Option.bind_some,row_idx (by omega),Option.bind_some,rt_idx hi,Option.bind_some,e1,row_idx ha,Option.bind_some,e2,foldl_take (addW (wkT bs m)) farT bs j hj,wrap_in (n:=(j:Int)+1) (by omega) (by omega)]
      rcases wk_sz hb (m:=m) (by omega) hi ha with e | e
      ·rw [eqI e,notT,cond_false]
       have:row n ((bs.take j).foldl (addW (wkT bs m)) farT i)=row n (addW (wkT bs m) ((bs.take j).foldl (addW (wkT bs m)) farT) bs[j] i):=by
        refine row_congr fun k _=>?_
        unfold addW
        rw [t1,t2,e,pl_far]
        by_cases ek:k=b
        ·rw [if_pos ek,ek,Int.min_eq_left (by rw [← hfe];exact hle)]
        ·rw [if_neg ek]
       rw [this]
       rfl
      ·rw [neI (by omega),notF,cond_true,chk_row hb',Option.bind_some,row_idx hb',Option.bind_some,Option.bind_some]
       refine bind_of (bind_of (set_rowc hb') rfl) ?_
       have:(row n ((bs.take j).foldl (addW (wkT bs m)) farT i)).set b (min ((bs.take j).foldl (addW (wkT bs m)) farT i b) (IntKind.wrap IntKind.i64 (wkT bs m i a+bs[j].2.2)))=row n (addW (wkT bs m) ((bs.take j).foldl (addW (wkT bs m)) farT) bs[j] i):=by
        rw [row_set hb']
        refine row_congr fun k _=>?_
        unfold addW
        rw [t1,t2,pl_fin (by omega) (by omega),wrap_in (by omega) (by omega)]
        by_cases ek:k=b
        ·rw [if_pos ek,if_pos ek,ek]
        ·rw [if_neg ek,if_neg ek]
       rw [this]
       all_goals rfl
     ·dsimp only
      rw [geI (Int.le_refl _),andF,cond_false,List.take_length]
      rfl
  ·dsimp only
   rw [geI (by omega),cond_false]
   rfl
 ·dsimp only
  rw [gtI (by omega),cond_false]
theorem m127_eq {x:Sys} (hs:sys x=true):m127 x=some (ovS x):=by
 obtain ⟨hn,hb,he⟩:=sys_all hs
 have hl:=(sys_bnd hs).1.2.2
 have h41:=m128_eq hn hl hb
 rw [he] at h41
 unfold m127
 refine bind_of h41 ?_
 have hx:x.1=((x.1.toNat:Nat):Int):=he.symm
 have hiff:ovS x=true↔∃ m i,1≤m∧m≤x.1.toNat∧i<x.1.toNat∧wkT x.2 m i i<0:=by
  constructor
  ·intro ho
   obtain ⟨i,w,hi,hw,hwk⟩:=ov_walk hs ho
   obtain ⟨m0,hm0⟩:=hwk.wn
   obtain ⟨u,m,w1,hu,g1,g2,g3,g4⟩:=WN.cycle hb m0 hi hw hm0
   have:=(wk_le hb (by omega) hu g4).1
   exact ⟨m,u,g1,g2,hu,by omega⟩
  ·intro ⟨m,i,g1,g2,g3,g4⟩
   exact ov_of_walk hs g3 g4 (wk_walk hb (by omega) g3 g3 (by omega)).wk
 refine Ans.is (Ans.bind (P:=fun o=>(o=.inr true∧ovS x=true)∨(o=.inl ()∧ovS x=false)) ?_ ?_)
 ·refine Ans.loop (fun k s=>s=((k+1:Nat):Int)∧∀ m i,1≤m→m≤k→i<x.1.toNat→¬ wkT x.2 m i i<0) x.1.toNat ⟨rfl,fun m i h1 h2=>by omega⟩ fun k s hk hs'=>?_
  obtain ⟨hs',hP⟩:=hs'
  subst hs'
  by_cases hlt:k<x.1.toNat
  ·rw [leI (by omega),cond_true]
   refine Ans.bind (P:=fun o=>(o=.inr true∧∃ i,i<x.1.toNat∧wkT x.2 (k+1) i i<0)∨(o=.inl ()∧∀ i,i<x.1.toNat→¬ wkT x.2 (k+1) i i<0)) ?_ ?_
   ·refine Ans.loop (fun i s=>s=(i:Int)∧∀ i',i'<i→¬ wkT x.2 (k+1) i' i'<0) x.1.toNat ⟨rfl,fun i h=>by omega⟩ fun i s hi hs'=>?_
    obtain ⟨hs',hP'⟩:=hs'
    subst hs'
    by_cases hil:i<x.1.toNat
    ·rw [ltI (by omega),cond_true,row_idx (by omega),Option.bind_some,rt_idx hil,Option.bind_some,row_idx hil,Option.bind_some]
     by_cases hneg:wkT x.2 (k+1) i i<0
     ·rw [ltI hneg,cond_true]
      exact Ans.some (.inl ⟨rfl,i,hil,hneg⟩)
     ·rw [geI (by omega),cond_false,wrap_in (by omega) (by omega)]
      refine Ans.some ⟨hil,rfl,fun i' hi'=>?_⟩
      by_cases e:i'=i
      ·subst e;exact hneg
      ·exact hP' i' (by omega)
    ·rw [geI (by omega),cond_false]
     exact Ans.some (.inr ⟨rfl,fun i' hi'=>hP' i' (by omega)⟩)
   ·rintro o (⟨rfl,i,hi,hneg⟩ | ⟨rfl,hall⟩)
    ·exact Ans.some (.inl ⟨rfl,hiff.2 ⟨k+1,i,by omega,by omega,hi,hneg⟩⟩)
    ·show Ans (some (Sum.inl (IntKind.wrap IntKind.i64 (((k+1:Nat):Int)+1)))) _
     rw [wrap_in (by omega) (by omega)]
     refine Ans.some ⟨hlt,rfl,fun m i h1 h2 hi=>?_⟩
     by_cases e:m=k+1
     ·subst e;exact hall i hi
     ·exact hP m i h1 (by omega) hi
  ·rw [gtI (by omega),cond_false]
   refine Ans.some (.inr ⟨rfl,?_⟩)
   cases ho:ovS x with
   | false=>rfl
   | true =>
    obtain ⟨m,i,g1,g2,g3,g4⟩:=hiff.1 ho
    exact absurd g4 (hP m i g1 (by omega) g3)
 ·rintro o (⟨rfl,h⟩ | ⟨rfl,h⟩)
  ·exact Ans.some h.symm
  ·exact Ans.some h.symm
def mnf (bs:List (Int×Int×Int)) (i k:Nat):Nat→Int
 | 0=>1152921504606846976
 | m+1=>min (mnf bs i k m) (wkT bs m i k)
theorem mnf_le (bs:List (Int×Int×Int)) (i k:Nat):∀ M m,m<M→mnf bs i k M≤wkT bs m i k
 | M+1,m,h=>by
  by_cases e:m=M
  ·subst e;exact Int.min_le_right _ _
  ·exact Int.le_trans (Int.min_le_left _ _) (mnf_le bs i k M m (by omega))
theorem mnf_ge {bs:List (Int×Int×Int)} {i k:Nat} {z:Int} (hz:z≤1152921504606846976):∀ M,(∀ m,m<M→z≤wkT bs m i k)→z≤mnf bs i k M
 | 0,_=>hz
 | M+1,h=>by
  have h1:=mnf_ge hz M fun m hm=>h m (by omega)
  have h2:=h M (by omega)
  show z≤min _ _
  omega
theorem mnf_fw {x:Sys} (hs:sys x=true) (ho:ovS x=false) {i k:Nat} (hi:i<x.1.toNat) (hk:k<x.1.toNat):mnf x.2 i k (x.1.toNat+1)=fwS x i k:=by
 obtain ⟨hn,hb,he⟩:=sys_all hs
 have h1:=mnf_ge (bs:=x.2) (i:=i) (k:=k) (fw_far hs ho hi hk) (x.1.toNat+1) fun m hm=>wk_ge_fw hs ho (by omega) hi hk
 refine Int.le_antisymm ?_ h1
 rcases fw_cases hs ho hi hk with ⟨e,_⟩ | ⟨_,e,_⟩
 ·rw [e]
  have h2:=mnf_le x.2 i k (x.1.toNat+1) 0 (by omega)
  have h3:wkT x.2 0 i k≤1152921504606846976:=by show d0 i k≤_;unfold d0;split<;>omega
  omega
 ·obtain ⟨m,hm,hw⟩:=fw_short hs ho hi hk (q:=fwS x i k) e (Int.le_refl _)
  have h2:=mnf_le x.2 i k (x.1.toNat+1) m (by omega)
  omega
theorem m80_eq (x:Sys):m80 x=m25 x:=by
 rw [m25_eq]
 unfold m80
 rw [show (x.1,x.2)=x from rfl,m126_eq,Option.bind_some]
 cases hs:sys x with
 | false=>rfl
 | true =>
  obtain ⟨hn,hb,he⟩:=sys_all hs
  have hl:=(sys_bnd hs).1.2.2
  rw [notT,cond_false,m127_eq hs,Option.bind_some]
  cases ho:ovS x with
  | true =>
   unfold ovS at ho
   rw [ho]
   rfl
  | false =>
   have ho':=ho
   unfold ovS at ho'
   rw [ho',cond_false]
   have h41:=m128_eq hn hl hb
   rw [he] at h41
   refine bind_of h41 ?_
   have hmk:mkM x.1 x.1 (nat_lit 8) (0:Int)=some (row x.1.toNat fun _=>0):=by
    rw [mkM_of (by omega) (by omega) (by show x.1*8≤140737488355328;omega),replicate_row]
   refine bind_of (x:=rt x.1.toNat (fun _=>x.1.toNat) (fwS x)) ?_ rfl
   refine count_loop (fun i=>row i fun i=>row x.1.toNat (fwS x i)) x.1.toNat (fun i hi=>?_) ?_
   ·dsimp only
    rw [ltI (by omega),cond_true]
    refine bind_of hmk (bind_of (x:=row x.1.toNat (fwS x i)) ?_ (bind_of (app_rowOf rfl (by show (i+1)*24≤140737488355328;omega)) (by rw [wrap_in (by omega) (by omega)])))
    have e0:(row x.1.toNat fun _=>(0:Int))=row x.1.toNat fun k=>if k<0 then fwS x i k else 0:=row_congr fun k _=>by rw [if_neg (by omega)]
    rw [e0]
    refine count_loop (fun j=>row x.1.toNat fun k=>if k<j then fwS x i k else 0) x.1.toNat (fun j hj=>?_) ?_
    ·dsimp only
     rw [ltI (by omega),cond_true,chk_row hj,Option.bind_some,set_rowc hj,Option.bind_some,row_set hj]
     refine bind_of (x:=row x.1.toNat fun k=>if k<j+1 then fwS x i k else 0) ?_ (by rw [wrap_in (by omega) (by omega)])
     refine count_loop (fun m=>row x.1.toNat fun k=>if k=j then mnf x.2 i j m else if k<j then fwS x i k else 0) (x.1.toNat+1) (fun m hm=>?_) ?_
     ·dsimp only
      rw [leI (by omega),cond_true,chk_row hj,Option.bind_some,row_idx hj,Option.bind_some,row_idx (by omega),Option.bind_some,rt_idx hi,Option.bind_some,row_idx hj,Option.bind_some,Option.bind_some,if_pos rfl]
      refine bind_of (set_row hj rfl) ?_
      rw [row_set hj,wrap_in (by omega) (by omega)]
      congr 3
      refine row_congr fun k _=>?_
      by_cases e:k=j
      ·rw [if_pos e,if_pos e];rfl
      ·rw [if_neg e,if_neg e,if_neg e]
     ·dsimp only
      rw [gtI (by omega),cond_false,mnf_fw hs ho hi hj]
      congr 2
      refine row_congr fun k _=>?_
      by_cases e:k=j
      ·subst e;rw [if_pos rfl,if_pos (by omega)]
      ·rw [if_neg e]
       by_cases e3:k<j
       ·rw [if_pos e3,if_pos (by omega)]
       ·rw [if_neg e3,if_neg (by omega)]
    ·dsimp only
     rw [geI (by omega),cond_false,row_done]
   ·dsimp only
    rw [geI (by omega),cond_false]
    rfl
end Go.Proofs.YthfgccfaildmfaaGreatDoor
namespace Go.Proofs.YthfgccfaildmfaaGreatDoor
open Go Go.Abs Go.PE
theorem findz_loop {α γ:Type} {xs:List α} (p:α→Bool) (g:Nat→γ) (z:γ) {body:Int→Option (Int⊕γ)}
  (h1:∀ j,xs.findIdx? p=some j→body (j:Int)=some (.inr (g j))) (h2:∀ j (hj:j<xs.length),p xs[j]=false→body (j:Int)=some (.inl ((j:Int)+1))) (he:body (xs.length:Int)=some (.inr z)) :
  loopM body 0=some (match xs.findIdx? p with | some j=>g j | none=>z):=by
 cases hf:xs.findIdx? p with
 | none =>
  rw [List.findIdx?_eq_none_iff] at hf
  refine loopM_fn (fun k=>(k:Int)) xs.length (fun k hk=>h2 k hk (hf _ (List.getElem_mem hk))) he
 | some j =>
  obtain ⟨hj,hp,hall⟩:=List.findIdx?_eq_some_iff_getElem.1 hf
  refine loopM_fn (fun k=>(k:Int)) j (fun k hk=>h2 k (by omega) ?_) (h1 j hf)
  have:=hall k hk
  simpa using this
theorem first_walk {n:Nat} {bs:List (Int×Int×Int)} (hl:bs.length≤60) (hb:bs.all (bnd (n:Int))=true) {M to:Nat} (ht:to<n) {body:Int×Int×Int×List Int→Option ((Int×Int×Int×List Int)⊕List Int)}
  (hbody:body=fun (s:Int×Int×Int×List Int) =>
        bif ltM (0:Int) s.2.1 then
         Option.bind
          (loopM
           (fun (s_1:Int) =>
            bif ltM s_1 (lenM bs) then
             Option.bind (idxM bs s_1) fun (r_3:Int×Int×Int) =>
              Option.bind
               (bif PE.notM (PE.notM (eqM r_3.1 s.1)) then
                idxM (row M fun m=>rt n (fun _=>n) (wkT bs m)) (IntKind.wrap IntKind.i64 (s.2.1-(1:Int)))
               else some [])
               fun (r_4:List (List Int)) =>
               Option.bind (bif PE.notM (PE.notM (eqM r_3.1 s.1)) then idxM r_4 r_3.2.1 else some [])
                fun (r_5:List Int) =>
                Option.bind
                 (bif PE.notM (PE.notM (eqM r_3.1 s.1)) then idxM r_5 (to:Int) else some (0:Int))
                 fun (r_6:Int) =>
                 Option.bind
                  (bif
                    PE.notM
                     (PE.orM (PE.notM (eqM r_3.1 s.1)) (eqM r_6 (1152921504606846976:Int))) then
                   idxM (row M fun m=>rt n (fun _=>n) (wkT bs m)) (IntKind.wrap IntKind.i64 (s.2.1-(1:Int)))
                  else some [])
                  fun (r_7:List (List Int)) =>
                  Option.bind
                   (bif
                     PE.notM
                      (PE.orM (PE.notM (eqM r_3.1 s.1))
                       (eqM r_6 (1152921504606846976:Int))) then
                    idxM r_7 r_3.2.1
                   else some [])
                   fun (r_8:List Int) =>
                   Option.bind
                    (bif
                      PE.notM
                       (PE.orM (PE.notM (eqM r_3.1 s.1))
                        (eqM r_6 (1152921504606846976:Int))) then
                     idxM r_8 (to:Int)
                    else some (0:Int))
                    fun (r_9:Int) =>
                    bif
                      PE.orM
                       (PE.orM (PE.notM (eqM r_3.1 s.1)) (eqM r_6 (1152921504606846976:Int)))
                       (ltM s.2.2.1 (IntKind.wrap IntKind.i64 (r_3.2.2+r_9))) then
                     some (Sum.inl (IntKind.wrap IntKind.i64 (s_1+(1:Int))))
                    else
                     Option.bind (appM (nat_lit 8) s.2.2.2 [s_1]) fun (r:List Int) =>
                      some
                       (Sum.inr (r_3.2.1,IntKind.wrap IntKind.i64 (s.2.2.1-r_3.2.2),r))
            else some (Sum.inr (s.1,s.2.2.1,s.2.2.2)))
           (0:Int))
          fun (o:Int×Int×List Int) =>
          some (Sum.inl (o.1,IntKind.wrap IntKind.i64 (s.2.1-(1:Int)),o.2.1,o.2.2))
        else some (Sum.inr s.2.2.2)) :
  ∀ (m f:Nat) (q:Int) (out:List Int),m≤M→m≤100→f<n→-10000000000000+m*1000000000≤q→q≤10000000000000-m*1000000000→out.length+m≤1000→wkT bs m f to≤q →
   loopM body ((f:Int),(m:Int),q,out)=some (out++chP bs to m f q):=by
 intro m
 induction m with
 | zero =>
  intro f q out _ _ _ _ _ _ _
  have hstep:body ((f:Int),((0:Nat):Int),q,out)=some (.inr out):=by
   rw [hbody]
   dsimp only
   rw [geI (by omega),cond_false]
  rw [loopM_eq,hstep]
  show some out=some (out++[])
  rw [List.append_nil]
 | succ m ih =>
  intro f q out hM hm hf hq1 hq2 ho h
  obtain ⟨c,hcm,hcp⟩:=stp_ex hb (by omega) hf ht (by omega) h
  cases hi:bs.findIdx? (stp bs to m f q) with
  | none =>
   rw [List.findIdx?_eq_none_iff] at hi
   rw [hi c hcm] at hcp
   cases hcp
  | some k =>
   obtain ⟨hk,hp2,_⟩:=List.findIdx?_eq_some_iff_getElem.1 hi
   obtain ⟨h1,h2,h3⟩:=stp_rest hb (by omega) ht (by omega) (List.getElem_mem hk) hp2
   have hcb:=of_decide_eq_true (List.all_eq_true.1 hb _ (List.getElem_mem hk))
   have e4:chP bs to (m+1) f q=(k:Int)::chP bs to m bs[k].2.1.toNat (q-bs[k].2.2):=by
    show (match bs.findIdx? (stp bs to m f q) with | some k=>_ | none=>_)=_
    rw [hi]
    show (k:Int)::chP bs to m (bs.getD k (0,0,0)).2.1.toNat (q-(bs.getD k (0,0,0)).2.2)=_
    rw [getD_of hk]
   have t4:((bs[k].2.1.toNat:Nat):Int)=bs[k].2.1:=by omega
   have e3:((m+1:Nat):Int)-1=(m:Int):=by omega
   have hstep:body ((f:Int),((m+1:Nat):Int),q,out)=some (.inl ((bs[k].2.1.toNat:Int),(m:Int),q-bs[k].2.2,out++[(k:Int)])):=by
    rw [hbody]
    dsimp only
    rw [ltI (by omega),cond_true]
    have hfg:=fun body h1 h2 he=>findz_loop (xs:=bs) (stp bs to m f q) (fun j=>((bs[k]'hk).2.1,q-(bs[k]'hk).2.2,out++[(k:Int)])) ((f:Int),q,out) (body:=body) h1 h2 he
    rw [hi] at hfg
    refine bind_of (hfg _ (fun j hj=>?_) (fun j hj hp=>?_) ?_) ?_
    ·have ej:j=k:=(Option.some.inj hj).symm
     subst ej
     obtain ⟨a,b,ha,hb',g1,g2,_,_⟩:=bnd_of (List.all_eq_true.1 hb _ (List.getElem_mem hk))
     have t2:bs[j].2.1.toNat=b:=by omega
     rw [t2] at h3
     rw [ltI (a:=(j:Int)) (b:=lenM bs) (by show (j:Int)<(bs.length:Int);omega),cond_true,idxM_lt hk,Option.bind_some,eqI h1,notT,notF,cond_true,e3,wrap_in (n:=(m:Int)) (by omega) (by omega),row_idx (by omega),Option.bind_some,cond_true,g2,rt_idx hb',Option.bind_some,cond_true,row_idx ht,Option.bind_some,orF]
     rcases wk_sz hb (m:=m) (by omega) hb' ht with e | e
     ·omega
     ·rw [neI (by omega),notF,cond_true,Option.bind_some,cond_true,rt_idx hb',Option.bind_some,cond_true,row_idx ht,Option.bind_some,orF,wrap_in (n:=bs[j].2.2+wkT bs m b to) (by omega) (by omega),geI (by omega),cond_false,appM_of (by show (out.length+1)*8≤140737488355328;omega),Option.bind_some,wrap_in (by omega) (by omega)]
    ·obtain ⟨a,b,ha,hb',g1,g2,_,_⟩:=bnd_of (List.all_eq_true.1 hb _ (List.getElem_mem hj))
     have t2:bs[j].2.1.toNat=b:=by omega
     unfold stp at hp
     rw [t2] at hp
     rw [ltI (a:=(j:Int)) (b:=lenM bs) (by show (j:Int)<(bs.length:Int);omega),cond_true,idxM_lt hj,Option.bind_some]
     by_cases e:bs[j].1=(f:Int)
     ·rw [decide_eq_true e,Bool.true_and] at hp
      have hp:=of_decide_eq_false hp
      rw [eqI e,notT,notF,cond_true,e3,wrap_in (n:=(m:Int)) (by omega) (by omega),row_idx (by omega),Option.bind_some,cond_true,g2,rt_idx hb',Option.bind_some,cond_true,row_idx ht,Option.bind_some,orF]
      rcases wk_sz hb (m:=m) (by omega) hb' ht with e' | e'
      ·rw [eqI e',notT,cond_false,Option.bind_some,cond_false,Option.bind_some,cond_false,Option.bind_some,orT,cond_true,wrap_in (by omega) (by omega)]
      ·rw [pl_sz (by omega) (by omega)] at hp
       rw [neI (by omega),notF,cond_true,Option.bind_some,cond_true,rt_idx hb',Option.bind_some,cond_true,row_idx ht,Option.bind_some,orF,wrap_in (n:=bs[j].2.2+wkT bs m b to) (by omega) (by omega),ltI (by omega),cond_true,wrap_in (by omega) (by omega)]
     ·rw [neI e,notF,notT,cond_false,Option.bind_some,cond_false,Option.bind_some,cond_false,Option.bind_some,orT,notT,cond_false,Option.bind_some,cond_false,Option.bind_some,cond_false,Option.bind_some,orT,cond_true,wrap_in (by omega) (by omega)]
    ·rw [geI (Int.le_refl _),cond_false]
    ·show some (Sum.inl (bs[k].2.1,IntKind.wrap IntKind.i64 (((m+1:Nat):Int)-1),q-bs[k].2.2,out++[(k:Int)]))=_
     rw [e3,wrap_in (by omega) (by omega),t4]
   rw [loopM_eq,hstep]
   show loopM body _=_
   rw [ih bs[k].2.1.toNat (q-bs[k].2.2) (out++[(k:Int)]) (by omega) (by omega) h2 (by omega) (by omega) (by rw [List.length_append];show out.length+1+m≤1000;omega) h3,e4,List.append_assoc]
   rfl
theorem m129_eq {n:Nat} {bs:List (Int×Int×Int)} (hl:bs.length≤60) (hb:bs.all (bnd (n:Int))=true) {M to m f:Nat} {q:Int} (ht:to<n) (hM:m<M) (hm:m≤100) (hf:f<n) (hq1:-1000000000000≤q) (hq2:q≤1000000000000) :
  m129 (((n:Int),bs),row M (fun m=>rt n (fun _=>n) (wkT bs m)),(f:Int),(to:Int),(m:Int),q)=some (if wkT bs m f to≤q then (chP bs to m f q,true) else ([],false)):=by
 unfold m129
 dsimp only
 rw [row_idx hM,Option.bind_some,rt_idx hf,Option.bind_some,row_idx ht,Option.bind_some]
 by_cases h:wkT bs m f to≤q
 ·rw [geI h,cond_false,if_pos h]
  exact bind_of (first_walk hl hb (M:=M) ht rfl m f q [] (by omega) hm hf (by omega) (by omega) (by show 0+m≤1000;omega) h) rfl
 ·rw [ltI (by omega),cond_true,if_neg h]
theorem m83_eq (x:Sys) (v:Int×Int×Int):m83 (x,v)=some (impR x v):=by
 unfold m83 impR
 dsimp only
 rw [show (x.1,x.2)=x from rfl,m126_eq,Option.bind_some]
 cases hs:sys x with
 | false=>rfl
 | true =>
  obtain ⟨hn,hb,he⟩:=sys_all hs
  have hl:=(sys_bnd hs).1.2.2
  rw [notT,notF,cond_true,m131_eq v (sys_bnd hs).1.1 (sys_bnd hs).1.2.1,Option.bind_some,orF]
  cases hv:bnd x.1 v with
  | false=>rfl
  | true =>
   have hvb:=of_decide_eq_true hv
   rw [notT,cond_false,m127_eq hs,Option.bind_some]
   cases ho:ovS x with
   | true=>rfl
   | false =>
    have h41:=m128_eq hn hl hb
    rw [he] at h41
    rw [cond_false]
    refine bind_of h41 ?_
    have ef:((v.1.toNat:Nat):Int)=v.1:=by omega
    have et:((v.2.1.toNat:Nat):Int)=v.2.1:=by omega
    have hf:v.1.toNat<x.1.toNat:=by omega
    have ht:v.2.1.toNat<x.1.toNat:=by omega
    have h45:=fun m (hm:m<x.1.toNat+1)=>m129_eq hl hb (M:=x.1.toNat+1) (to:=v.2.1.toNat) (m:=m) (f:=v.1.toNat) (q:=v.2.2) ht hm (by omega) hf (by omega) (by omega)
    rw [he,ef,et] at h45
    by_cases hle:fwS x v.1.toNat v.2.1.toNat≤v.2.2
    ·obtain ⟨m,hm,hmw⟩:=fw_short hs ho hf ht (by omega) hle
     obtain ⟨g1,g2,g3⟩:=fstM_of (bs:=x.2) (f:=v.1.toNat) (t:=v.2.1.toNat) (q:=v.2.2) (by omega) hmw
     rw [decide_eq_true hle]
     refine bind_of (loopM_fn (fun k=>(k:Int)) (fstM x.2 v.1.toNat v.2.1.toNat v.2.2) (r:=Sum.inr (chP x.2 v.2.1.toNat (fstM x.2 v.1.toNat v.2.1.toNat v.2.2) v.1.toNat v.2.2,true)) (fun k hk=>?_) ?_) rfl
     ·rw [leI (by omega),cond_true]
      refine bind_of (h45 k (by omega)) ?_
      rw [if_neg (g3 k hk)]
      dsimp only
      rw [cond_false,wrap_in (by omega) (by omega)]
      rfl
     ·rw [leI (by omega),cond_true]
      refine bind_of (h45 _ (by omega)) ?_
      rw [if_pos g2]
      rfl
    ·rw [decide_eq_false hle]
     refine bind_of (loopM_fn (fun k=>(k:Int)) (x.1.toNat+1) (r:=Sum.inl ()) (fun k hk=>?_) ?_) rfl
     ·rw [leI (by omega),cond_true]
      refine bind_of (h45 k (by omega)) ?_
      have:=wk_ge_fw hs ho (m:=k) (by omega) hf ht
      rw [if_neg (by omega)]
      dsimp only
      rw [cond_false,wrap_in (by omega) (by omega)]
      rfl
     ·rw [gtI (by omega),cond_false]
end Go.Proofs.YthfgccfaildmfaaGreatDoor
namespace Go.Proofs.YthfgccfaildmfaaGreatDoor
open Go Go.Abs Go.PE
theorem m130_heads {a b:Int} {l l':List Int} (h:a≠b):m130 (a::l,b::l')=some (decide (a<b)):=by
 unfold m130
 rw [loopM_eq]
 dsimp only
 have e1:idxM (a::l) 0=some a:=idxM_lt (xs:=a::l) (i:=0) (by show 0<l.length+1;omega)
 have e2:idxM (b::l') 0=some b:=idxM_lt (xs:=b::l') (i:=0) (by show 0<l'.length+1;omega)
 rw [ltI (a:=0) (b:=lenM (a::l)) (by show (0:Int)<((l.length+1:Nat):Int);omega),ltI (a:=0) (b:=lenM (b::l')) (by show (0:Int)<((l'.length+1:Nat):Int);omega),andT,cond_true,e1,Option.bind_some,e2,Option.bind_some,neI h,notF,cond_true,Option.bind_some,Option.bind_some]
 rfl
def lstK (bs:List (Int×Int×Int)) (m k:Nat):List Int:=(k:Int)::chP bs (bs.getD k (0,0,0)).1.toNat m (bs.getD k (0,0,0)).2.1.toNat (-1-(bs.getD k (0,0,0)).2.2)
theorem best_loop {n:Nat} (hn:n≤16) {bs:List (Int×Int×Int)} (hl:bs.length≤60) (hb:bs.all (bnd (n:Int))=true) {m:Nat} (hm:m<n) :
  Ans (loopM
           (fun (s_1:Option (List Int)×Int) =>
            bif ltM s_1.2 (n:Int) then
             Option.bind
              (Option.bind (m129 (((n:Int),bs),row (n+1) (fun m=>rt n (fun _=>n) (wkT bs m)),s_1.2,s_1.2,((m+1:Nat):Int),(-1:Int)))
               fun (r_2:List Int×Bool) =>
               Option.bind
                (bif PE.andM r_2.2 (PE.notM (Option.isNone s_1.1)) then m130 (r_2.1,getL s_1.1)
                else some false)
                fun (r_3:Bool) =>
                bif PE.andM r_2.2 (PE.orM (Option.isNone s_1.1) r_3) then
                 Option.bind (neM r_2.1) fun (r:List Int)=>some (some r)
                else some s_1.1)
              fun (o:Option (List Int)) =>
              some (Sum.inl (o,IntKind.wrap IntKind.i64 (s_1.2+(1:Int))))
            else some (Sum.inr s_1.1))
           (none,(0:Int))) (fun o=>(o=none∧bs.findIdx? (cst bs m)=none)∨∃ k,bs.findIdx? (cst bs m)=some k∧o=some (lstK bs m k)):=by
 refine Ans.loop (fun i s=>s.2=(i:Int)∧((s.1=none∧∀ j (hj:j<bs.length),cst bs m bs[j]=true→¬ bs[j].1<(i:Int))∨∃ k,∃ hk:k<bs.length,s.1=some (lstK bs m k)∧cst bs m bs[k]=true∧bs[k].1<(i:Int)∧∀ j (hj:j<bs.length),j<k→cst bs m bs[j]=true→¬ bs[j].1<(i:Int))) n ⟨rfl,.inl ⟨rfl,fun j hj _ hlt=>?_⟩⟩ fun i s hi hs=>?_
 ·have:=of_decide_eq_true (List.all_eq_true.1 hb _ (List.getElem_mem hj))
  have h0:bs[j].1<0:=hlt
  omega
 ·obtain ⟨s1,s2⟩:=s
  obtain ⟨e,hinv⟩:=hs
  simp only at e hinv
  subst e
  dsimp only
  by_cases hil:i<n
  ·rw [ltI (by omega),cond_true,m129_eq hl hb hil (by omega) (by omega) hil (by omega) (by omega),Option.bind_some]
   have hw1:IntKind.wrap IntKind.i64 ((i:Int)+1)=((i+1:Nat):Int):=by rw [wrap_in (by omega) (by omega)];rfl
   rw [hw1]
   have hstp:∀ c,c∈bs→(stp bs i m i (-1) c=true↔c.1=(i:Int)∧cst bs m c=true):=fun c hc=>by
    unfold stp cst
    rw [Bool.and_eq_true]
    constructor
    ·intro ⟨h1,h2⟩
     have h1:=of_decide_eq_true h1
     have h2:=of_decide_eq_true h2
     have t:c.1.toNat=i:=by omega
     rw [t]
     exact ⟨h1,decide_eq_true (by omega)⟩
    ·intro ⟨h1,h2⟩
     have h2:=of_decide_eq_true h2
     have t:c.1.toNat=i:=by omega
     rw [t] at h2
     exact ⟨decide_eq_true h1,decide_eq_true (by omega)⟩
   by_cases hw:wkT bs (m+1) i i≤-1
   ·rw [if_pos hw]
    obtain ⟨c,hc,hcp⟩:=stp_ex hb (by omega) hil hil (by omega) hw
    cases hf:bs.findIdx? (stp bs i m i (-1)) with
    | none =>
     rw [List.findIdx?_eq_none_iff] at hf
     rw [hf c hc] at hcp
     cases hcp
    | some k =>
     obtain ⟨hk,hp2,hall⟩:=List.findIdx?_eq_some_iff_getElem.1 hf
     obtain ⟨k1,k2⟩:=(hstp _ (List.getElem_mem hk)).1 hp2
     have hkl:chP bs i (m+1) i (-1)=lstK bs m k:=by
      show (match bs.findIdx? (stp bs i m i (-1)) with | some k=>_ | none=>_)=_
      rw [hf]
      show (k:Int)::chP bs i m (bs.getD k (0,0,0)).2.1.toNat (-1-(bs.getD k (0,0,0)).2.2)=_
      unfold lstK
      rw [getD_of hk,k1]
      have t:((i:Int)).toNat=i:=by omega
      rw [t]
     rw [hkl]
     dsimp only
     have hne:Option.bind (neM (lstK bs m k)) (fun (r:List Int)=>some (some r))=some (some (lstK bs m k)):=rfl
     have hfirst:∀ j (hj:j<bs.length),j<k→cst bs m bs[j]=true→¬ bs[j].1=(i:Int):=fun j hj hjk hcj he=>hall j hjk ((hstp _ (List.getElem_mem hj)).2 ⟨he,hcj⟩)
     rcases hinv with ⟨rfl,hinv⟩ | ⟨b,hbk,rfl,g1,g2,g3⟩
     ·rw [show Option.isNone (none:Option (List Int))=true from rfl,notT,andT,cond_false,Option.bind_some,orT,andT,cond_true,hne,Option.bind_some]
      refine Ans.some ⟨hil,rfl,.inr ⟨k,hk,rfl,k2,by omega,fun j hj hjk hcj=>?_⟩⟩
      have h1:=hinv j hj hcj
      have h2:=hfirst j hj hjk hcj
      show ¬ bs[j].1<((i+1:Nat):Int)
      omega
     ·have hkb:k≠b:=fun e=>by subst e;omega
      rw [show Option.isNone (some (lstK bs m b))=false from rfl,notF,andT,cond_true]
      have h46:m130 (lstK bs m k,getL (some (lstK bs m b)))=some (decide ((k:Int)<(b:Int))):=m130_heads (by omega)
      rw [h46,Option.bind_some,orF,andT]
      by_cases hlt:k<b
      ·rw [decide_eq_true (show (k:Int)<(b:Int) by omega),cond_true,hne,Option.bind_some]
       refine Ans.some ⟨hil,rfl,.inr ⟨k,hk,rfl,k2,by omega,fun j hj hjk hcj=>?_⟩⟩
       have h1:=g3 j hj (by omega) hcj
       have h2:=hfirst j hj hjk hcj
       show ¬ bs[j].1<((i+1:Nat):Int)
       omega
      ·rw [decide_eq_false (show ¬ (k:Int)<(b:Int) by omega),cond_false,Option.bind_some]
       refine Ans.some ⟨hil,rfl,.inr ⟨b,hbk,rfl,g1,by omega,fun j hj hjk hcj=>?_⟩⟩
       have h1:=g3 j hj hjk hcj
       have h2:¬ bs[j].1=(i:Int):=hfirst j hj (by omega) hcj
       show ¬ bs[j].1<((i+1:Nat):Int)
       omega
   ·rw [if_neg hw]
    dsimp only
    rw [andF,cond_false,Option.bind_some,andF,cond_false,Option.bind_some]
    have hnone:∀ j (hj:j<bs.length),cst bs m bs[j]=true→¬ bs[j].1=(i:Int):=fun j hj hcj he=>by
     have hwk:=(cst_walk hb (by omega) (List.getElem_mem hj)).1 hcj
     obtain ⟨a,b,ha,hb',e1,e2,_,_⟩:=bnd_of (List.all_eq_true.1 hb _ (List.getElem_mem hj))
     have t1:bs[j].1.toNat=i:=by omega
     have t2:bs[j].2.1.toNat=b:=by omega
     rw [t1,t2] at hwk
     have hmem:((i:Int),(b:Int),bs[j].2.2)∈bs:=by rw [← e2,← he];exact List.getElem_mem hj
     have hw2:=WN.cons hmem (wk_walk hb (m:=m) (by omega) hb' hil (by omega))
     have:=(wk_le hb (m:=m+1) (by omega) hil hw2).1
     omega
    refine Ans.some ⟨hil,rfl,?_⟩
    rcases hinv with ⟨rfl,hinv⟩ | ⟨b,hbk,rfl,g1,g2,g3⟩
    ·refine .inl ⟨rfl,fun j hj hcj=>?_⟩
     have h1:=hinv j hj hcj
     have h2:=hnone j hj hcj
     show ¬ bs[j].1<((i+1:Nat):Int)
     omega
    ·refine .inr ⟨b,hbk,rfl,g1,by omega,fun j hj hjk hcj=>?_⟩
     have h1:=g3 j hj hjk hcj
     have h2:=hnone j hj hcj
     show ¬ bs[j].1<((i+1:Nat):Int)
     omega
  ·have ei:i=n:=by omega
   subst ei
   rw [geI (by omega),cond_false]
   refine Ans.some ?_
   have hlt:∀ j (hj:j<bs.length),bs[j].1<(i:Int):=fun j hj=>(of_decide_eq_true (List.all_eq_true.1 hb _ (List.getElem_mem hj))).2.1
   rcases hinv with ⟨rfl,hinv⟩ | ⟨b,hbk,rfl,g1,g2,g3⟩
   ·refine .inl ⟨rfl,?_⟩
    rw [List.findIdx?_eq_none_iff]
    intro c hc
    obtain ⟨j,hj,rfl⟩:=List.mem_iff_getElem.1 hc
    cases hcj:cst bs m bs[j] with
    | false=>rfl
    | true=>exact absurd (hlt j hj) (hinv j hj hcj)
   ·refine .inr ⟨b,List.findIdx?_eq_some_iff_getElem.2 ⟨hbk,g1,fun j hj hcj=>?_⟩,rfl⟩
    exact g3 j (by omega) hj hcj (hlt j (by omega))
theorem m81_eq (x:Sys):m81 x=some (cycR x):=by
 unfold m81 cycR
 rw [show (x.1,x.2)=x from rfl,m126_eq,Option.bind_some]
 cases hs:sys x with
 | false=>rfl
 | true =>
  obtain ⟨hn,hb,he⟩:=sys_all hs
  have hl:=(sys_bnd hs).1.2.2
  have h41:=m128_eq hn hl hb
  rw [he] at h41
  rw [notT,cond_false]
  refine bind_of h41 ?_
  have hbest:=fun m (hm:m<x.1.toNat)=>best_loop hn hl hb hm
  rw [he] at hbest
  cases ho:ovS x with
  | true =>
   obtain ⟨c1,c2,c3⟩:=cycM_of hs ho
   obtain ⟨k0,hk0⟩:=Option.isSome_iff_exists.1 c2
   have hcy:cycL x.2=lstK x.2 (cycM x.2) k0:=by
    unfold cycL lstK
    rw [hk0]
   rw [hcy]
   generalize cycM x.2=m0 at *
   refine bind_of (loopM_fn (fun k=>((k+1:Nat):Int)) m0 (r:=Sum.inr (some (lstK x.2 m0 k0),true)) (fun k hk=>?_) ?_) rfl
   ·rw [leI (by omega),cond_true]
    have hno:=c3 k hk
    have hnone:x.2.findIdx? (cst x.2 k)=none:=by
     cases hq:x.2.findIdx? (cst x.2 k) with
     | none=>rfl
     | some z=>rw [hq] at hno;cases hno
    refine bind_of (x:=none) (Ans.is ((hbest k (by omega)).mono fun o ho=>?_)) ?_
    ·rcases ho with ⟨h,_⟩ | ⟨z,h,_⟩
     ·exact h
     ·rw [hnone] at h;cases h
    ·show some (Sum.inl (IntKind.wrap IntKind.i64 (((k+1:Nat):Int)+1)))=_
     rw [wrap_in (by omega) (by omega)]
     rfl
   ·rw [leI (by omega),cond_true]
    refine bind_of (x:=some (lstK x.2 m0 k0)) (Ans.is ((hbest m0 (by omega)).mono fun o ho=>?_)) rfl
    rcases ho with ⟨_,h⟩ | ⟨z,h,h2⟩
    ·rw [hk0] at h;cases h
    ·rw [hk0] at h
     have:z=k0:=(Option.some.inj h).symm
     rw [h2,this]
  | false =>
   refine bind_of (loopM_fn (fun k=>((k+1:Nat):Int)) x.1.toNat (r:=Sum.inl ()) (fun k hk=>?_) ?_) rfl
   ·rw [leI (by omega),cond_true]
    have hnone:x.2.findIdx? (cst x.2 k)=none:=by
     cases hq:x.2.findIdx? (cst x.2 k) with
     | none=>rfl
     | some z =>
      obtain ⟨hz,hw⟩:=of_cst hb (by omega) hq
      obtain ⟨a,b,ha,hb',e1,e2,_,_⟩:=bnd_of (List.all_eq_true.1 hb _ (List.getElem_mem hz))
      have t1:x.2[z].1.toNat=a:=by omega
      have t2:x.2[z].2.1.toNat=b:=by omega
      rw [t1,t2] at hw
      have hmem:((a:Int),(b:Int),x.2[z].2.2)∈x.2:=by rw [← e1,← e2];exact List.getElem_mem hz
      have hw2:=WN.cons hmem (wk_walk hb (m:=k) (by omega) hb' ha (by omega))
      have:=no_neg hs ho a _ _ ha hw2
      omega
    refine bind_of (x:=none) (Ans.is ((hbest k (by omega)).mono fun o ho=>?_)) ?_
    ·rcases ho with ⟨h,_⟩ | ⟨z,h,_⟩
     ·exact h
     ·rw [hnone] at h;cases h
    ·show some (Sum.inl (IntKind.wrap IntKind.i64 (((k+1:Nat):Int)+1)))=_
     rw [wrap_in (by omega) (by omega)]
     rfl
   ·rw [gtI (by omega),cond_false]
theorem m132_eq {n:Int} {bs:List (Int×Int×Int)} {l:List Int} (hbl:bs.length≤1000000000) (hl:l.length≤60) (f:Int):m132 ((n,bs),f,l)=some (folR bs l f):=by
 have key:∀ (body:Int×Int×Int→Option ((Int×Int×Int)⊕(Int×Int⊕Int×Int×Bool))),(body=fun (s:Int×Int×Int) =>
     bif ltM s.2.2 (lenM l) then
      Option.bind (idxM l s.2.2) fun (r:Int) =>
       Option.bind (m165 (r,(0:Int),IntKind.wrap IntKind.i64 (lenM bs-(1:Int)))) fun (r_1:Bool) =>
        bif PE.orM (PE.notM r_1) (ltM (60:Int) (lenM l)) then
         some (Sum.inr (Sum.inr ((0:Int),(0:Int),false)))
        else
         Option.bind (idxM l s.2.2) fun (r_2:Int) =>
          Option.bind (idxM bs r_2) fun (r:Int×Int×Int) =>
           bif PE.notM (eqM r.1 s.1) then some (Sum.inr (Sum.inr ((0:Int),(0:Int),false)))
           else
            some
             (Sum.inl
              (r.2.1,IntKind.wrap IntKind.i64 (s.2.1+r.2.2),
               IntKind.wrap IntKind.i64 (s.2.2+(1:Int))))
     else some (Sum.inr (Sum.inl (s.1,s.2.1))))→∀ (d k:Nat) (f s:Int),k+d=l.length→loopM body (f,s,(k:Int))=some (match folP bs (l.drop k) f s with | some r=>.inl r | none=>.inr (0,0,false)):=by
  intro body hbody d
  induction d with
  | zero =>
   intro k f s hk
   have hstep:body (f,s,(k:Int))=some (.inr (.inl (f,s))):=by
    rw [hbody]
    dsimp only
    rw [geI (by show (l.length:Int)≤(k:Int);omega),cond_false]
   rw [loopM_eq,hstep,List.drop_eq_nil_of_le (by omega)]
   rfl
  | succ d ih =>
   intro k f s hk
   have hkl:k<l.length:=by omega
   have hd:l.drop k=l[k]::l.drop (k+1):=List.drop_eq_getElem_cons hkl
   rw [hd]
   unfold folP
   rw [loopM_eq]
   have e60:ltM (60:Int) (lenM l)=false:=geI (by show (l.length:Int)≤60;omega)
   by_cases h1:0≤l[k]∧l[k]<bs.length
   ·have e1:(decide (0≤l[k])&&decide (l[k]≤IntKind.wrap IntKind.i64 (lenM bs-1)))=true:=by
     have:IntKind.wrap IntKind.i64 (lenM bs-1)=(bs.length:Int)-1:=wrap_in (by show _≤(bs.length:Int)-1;omega) (by show (bs.length:Int)-1≤_;omega)
     rw [this,decide_eq_true h1.1,decide_eq_true (by omega)]
     rfl
    have e2:idxM bs l[k]=some (bs.getD l[k].toNat (0,0,0)):=by
     rw [idxM_of h1.1 h1.2,getD_of (by omega)]
    by_cases h2:(bs.getD l[k].toNat (0,0,0)).1=f
    ·have hstep:body (f,s,(k:Int))=some (.inl ((bs.getD l[k].toNat (0,0,0)).2.1,IntKind.wrap IntKind.i64 (s+(bs.getD l[k].toNat (0,0,0)).2.2),((k+1:Nat):Int))):=by
      rw [hbody]
      dsimp only
      rw [ltI (by show (k:Int)<(l.length:Int);omega),cond_true,idxM_lt hkl,Option.bind_some,m165_eq,e1,Option.bind_some,notT,e60,orF,cond_false,Option.bind_some,e2,Option.bind_some,eqI h2,notT,cond_false,wrap_in (n:=(k:Int)+1) (by omega) (by omega)]
      rfl
     rw [hstep,if_pos ⟨h1.1,h1.2,h2⟩]
     exact ih (k+1) _ _ (by omega)
    ·have hstep:body (f,s,(k:Int))=some (.inr (.inr (0,0,false))):=by
      rw [hbody]
      dsimp only
      rw [ltI (by show (k:Int)<(l.length:Int);omega),cond_true,idxM_lt hkl,Option.bind_some,m165_eq,e1,Option.bind_some,notT,e60,orF,cond_false,Option.bind_some,e2,Option.bind_some,neI h2,notF,cond_true]
     rw [hstep,if_neg fun h=>h2 h.2.2]
     rfl
   ·have e1:(decide (0≤l[k])&&decide (l[k]≤IntKind.wrap IntKind.i64 (lenM bs-1)))=false:=by
     have:IntKind.wrap IntKind.i64 (lenM bs-1)=(bs.length:Int)-1:=wrap_in (by show _≤(bs.length:Int)-1;omega) (by show (bs.length:Int)-1≤_;omega)
     rw [this]
     by_cases h0:0≤l[k]
     ·rw [decide_eq_true h0,decide_eq_false (by omega)];rfl
     ·rw [decide_eq_false h0];rfl
    have hstep:body (f,s,(k:Int))=some (.inr (.inr (0,0,false))):=by
     rw [hbody]
     dsimp only
     rw [ltI (by show (k:Int)<(l.length:Int);omega),cond_true,idxM_lt hkl,Option.bind_some,m165_eq,e1,Option.bind_some,notF,orT,cond_true]
    rw [hstep,if_neg fun h=>h1 ⟨h.1,h.2.1⟩]
    rfl
 unfold m132
 have h0:=key _ rfl l.length 0 f 0 (by omega)
 rw [List.drop_zero] at h0
 refine bind_of h0 ?_
 unfold folR
 rw [decide_eq_true (by omega)]
 cases folP bs l f 0 with
 | some r=>rfl
 | none=>rfl
theorem m85_eq (x:Sys) (v:Int×Int×Int) {l:List Int} (hl:l.length≤60):m85 (x,v,l)=some (chkChain x v l):=by
 unfold m85 chkChain
 dsimp only
 rw [show (x.1,x.2)=x from rfl,m126_eq,Option.bind_some]
 cases h:sys x with
 | false=>rfl
 | true =>
  rw [notT,notF,cond_true,m131_eq v (sys_bnd h).1.1 (sys_bnd h).1.2.1,Option.bind_some,orF]
  cases h2:bnd x.1 v with
  | false=>rfl
  | true =>
   rw [notT,cond_false]
   exact bind_of (m132_eq (n:=x.1) (bs:=x.2) (by have:=(sys_bnd h).1;omega) hl v.1) rfl
end Go.Proofs.YthfgccfaildmfaaGreatDoor
namespace Go.Proofs.YthfgccfaildmfaaGreatDoor
open Go Go.Abs Go.PE
open Ord (Rel clos)
set_option maxRecDepth 10000
theorem m84_eq {n:Int} (h0:0≤n) (h1:n≤8) (c:Clu):m84 (c,n)=some (vcl n c):=by
 unfold m84
 dsimp only
 rw [wrap_in (n:=n-1) (by omega) (by omega),m38_eq,Option.bind_some]
 by_cases ha:0≤c.2.1∧c.2.1≤n-1
 ·rw [decide_eq_true ha,notT,cond_false]
  by_cases k1:c.1=1
  ·rw [eqI k1,cond_true]
   refine congrArg some ?_
   unfold vcl
   rw [Bool.eq_iff_iff]
   simp only [PE.andM,Bool.and_eq_true,decide_eq_true_eq]
   omega
  ·rw [neI k1,cond_false]
   by_cases k23:c.1=2∨c.1=3
   ·have e:(bif eqM c.1 (2:Int) then some (eqM c.1 (2:Int)) else some (eqM c.1 (3:Int)))=some true:=by
     rcases k23 with k | k
     ·rw [eqI k];rfl
     ·rw [neI (show c.1≠2 by omega),cond_false,eqI k]
    rw [e,Option.bind_some,cond_true]
    by_cases o0:c.2.2.1=0
    ·rw [eqI o0,cond_true,m38_eq,Option.bind_some]
     refine congrArg some ?_
     unfold vcl
     rw [Bool.eq_iff_iff]
     simp only [PE.andM,Bool.and_eq_true,decide_eq_true_eq,true_and]
     omega
    ·rw [neI o0,cond_false,Option.bind_some]
     refine congrArg some ?_
     unfold vcl
     rw [andF,andF]
     exact (decide_eq_false (by omega)).symm
   ·have e:(bif eqM c.1 (2:Int) then some (eqM c.1 (2:Int)) else some (eqM c.1 (3:Int)))=some false:=by
     rw [neI (show c.1≠2 by omega),cond_false,neI (show c.1≠3 by omega)]
    rw [e,Option.bind_some,cond_false]
    by_cases k4:c.1=4
    ·rw [eqI k4,cond_true,m38_eq,Option.bind_some]
     refine congrArg some ?_
     unfold vcl
     rw [Bool.eq_iff_iff]
     simp only [PE.andM,Bool.and_eq_true,decide_eq_true_eq]
     omega
    ·rw [neI k4,cond_false]
     by_cases k5:c.1=5
     ·rw [eqI k5,cond_true,m38_eq,Option.bind_some]
      refine congrArg some ?_
      unfold vcl
      rw [Bool.eq_iff_iff]
      simp only [PE.andM,Bool.and_eq_true,decide_eq_true_eq]
      omega
     ·rw [neI k5,cond_false]
      refine congrArg some ?_
      unfold vcl
      exact (decide_eq_false (by omega)).symm
 ·rw [decide_eq_false ha,notF,cond_true]
  refine congrArg some ?_
  unfold vcl
  exact (decide_eq_false (by omega)).symm
theorem m45_eq (d:Dat):m45 d=some (vld d):=by
 unfold m45
 rw [show ((d.1.1,d.1.2):Int×List (Int×Int))=d.1 from rfl,m76_eq,Option.bind_some]
 unfold vld
 cases hO:okO d.1 with
 | false=>rfl
 | true =>
  rw [notT,orF,Bool.true_and]
  obtain ⟨h0,h8,_,_⟩:=okO_of hO
  by_cases hl:d.2.length≤14
  ·rw [geI (show lenM d.2≤14 by show (d.2.length:Int)≤14;omega),cond_false,decide_eq_true hl,Bool.true_and]
   obtain ⟨b,q1,q2⟩:=all_loop (n:=d.2.length) (fun k=>vcl d.1.1 (d.2.getD k (0,0,0,0,0))) (body:=fun (s:Int)=>bif ltM s (lenM d.2) then Option.bind (idxM d.2 s) fun (r_1:Int×Int×Int×Int×Int)=>Option.bind (m84 ((r_1.1,r_1.2.1,r_1.2.2.1,r_1.2.2.2.1,r_1.2.2.2.2),d.1.1)) fun (r:Bool)=>bif PE.notM r then some (Sum.inr (Sum.inr false)) else some (Sum.inl (IntKind.wrap IntKind.i64 (s+(1:Int)))) else some (Sum.inr (Sum.inl ()))) (fun k hk=>by
    rw [ltI (show (k:Int)<lenM d.2 by show (k:Int)<(d.2.length:Int);omega),cond_true,idxM_lt hk,Option.bind_some,m84_eq h0 h8,Option.bind_some,wrap_in (by omega) (by omega),getD_of hk]
    cases vcl d.1.1 d.2[k]<;>rfl) (by
    rw [geI (show lenM d.2≤((d.2.length:Nat):Int) from Int.le_refl _),cond_false])
   refine bind_of q1 ?_
   have e:d.2.all (vcl d.1.1)=b:=by
    rw [Bool.eq_iff_iff,q2,List.all_eq_true]
    constructor
    ·intro h k hk
     rw [getD_of hk]
     exact h _ (List.getElem_mem hk)
    ·intro h q hq
     obtain ⟨k,hk,rfl⟩:=List.mem_iff_getElem.1 hq
     have:=h k hk
     rw [getD_of hk] at this
     exact this
   rw [e]
   cases b<;>rfl
  ·rw [ltI (show (14:Int)<lenM d.2 by show (14:Int)<(d.2.length:Int);omega),cond_true,decide_eq_false hl,Bool.false_and]
theorem app24b {xs:List Bnd} {y z:Bnd} (h:xs.length≤200):appM (nat_lit 24) xs [y,z]=some (xs++[y,z]):=appM_of (by
 show (xs.length+2)*24≤_
 omega)
theorem m41_eq (d:Dat):m41 d=m24 d:=by
 rw [m24_eq]
 unfold m41
 rw [show (((d.1.1,d.1.2),d.2):Dat)=d from rfl,m45_eq,Option.bind_some]
 by_cases h:vld d=true
 ·rw [h,if_pos rfl,notT,cond_false]
  obtain ⟨hO,hl,hc⟩:=vld_of h
  obtain ⟨n0,n8,_,_⟩:=okO_of hO
  generalize hn:d.1.1.toNat=n
  have on:d.1.1=(n:Int):=by omega
  have ow:IntKind.wrap IntKind.i64 (d.1.1+1)=d.1.1+1:=wrap_in (by omega) (by omega)
  rw [ow]
  refine bind_of (x:=(d.1.1+1,obs d.1.1 n)) ?_ ?_
  ·refine count_from (fun i=>(d.1.1+1,obs d.1.1 i)) n rfl (fun i hi=>?_) ?_
   ·have hx:=obs_len d.1.1 i
    dsimp only
    rw [ltI (by omega),cond_true,app24b (by omega),Option.bind_some,wrap_in (by omega) (by omega),obs_succ]
   ·dsimp only
    rw [geI (by omega),cond_false]
  ·refine bind_of (x:=(d.1.1+1,obs d.1.1 n++d.2.flatMap (clb d.1.1))) ?_ ?_
   ·rw [show obs d.1.1 n++d.2.flatMap (clb d.1.1)=obs d.1.1 n++(d.2.take d.2.length).flatMap (clb d.1.1) by rw [List.take_length]]
    refine count_from (fun i=>(d.1.1+1,obs d.1.1 n++(d.2.take i).flatMap (clb d.1.1))) d.2.length (by rw [List.take_zero,List.flatMap_nil,List.append_nil]) (fun i hi=>?_) ?_
    ·dsimp only
     rw [ltI (by show (i:Int)<(d.2.length:Int);omega),cond_true,idxM_lt hi,Option.bind_some]
     have hx:=obs_len d.1.1 n
     have hy:=clbs_len d.1.1 (d.2.take i)
     rw [List.length_take] at hy
     have hs:(obs d.1.1 n++(d.2.take i).flatMap (clb d.1.1)).length≤100:=by rw [List.length_append];omega
     have et:(d.2.take (i+1)).flatMap (clb d.1.1)=(d.2.take i).flatMap (clb d.1.1)++clb d.1.1 d.2[i]:=by
      rw [List.take_succ_eq_append_getElem hi,List.flatMap_append]
      simp
     rw [et,← List.append_assoc]
     have hv:=vcl_of (hc _ (List.getElem_mem hi))
     generalize d.2[i]=c at hv ⊢
     generalize obs d.1.1 n++(d.2.take i).flatMap (clb d.1.1)=acc at hs ⊢
     obtain ⟨v1,v2,hv⟩:=hv
     have two:∀ (y z:Bnd),appM (nat_lit 24) acc [y,z]=some (acc++[y,z]):=fun y z=>app24b (by omega)
     refine bind_of (x:=(d.1.1+1,acc++clb d.1.1 c)) ?_ (by dsimp only;rw [wrap_in (by omega) (by omega)])
     unfold clb
     by_cases k1:c.1=1
     ·rw [if_pos k1,eqI k1,cond_true]
      refine bind_of (x:=.inl (c.2.2.2.1,c.2.2.2.2-1)) (by rw [wrap_in (n:=c.2.2.2.2-1) (by omega) (by omega)]) ?_
      rw [Sum.elim_inl]
      dsimp only
      rw [show PE.negM c.2.2.2.1=-c.2.2.2.1 from rfl,wrap_in (n:=-c.2.2.2.1) (by omega) (by omega)]
      exact bind_of (two _ _) rfl
     ·rw [if_neg k1,neI k1,cond_false]
      by_cases k2:c.1=2
      ·rw [if_pos k2,eqI k2,cond_true]
       refine bind_of (x:=.inl (c.2.2.2.1,2100)) rfl ?_
       rw [Sum.elim_inl]
       dsimp only
       rw [show PE.negM c.2.2.2.1=-c.2.2.2.1 from rfl,wrap_in (n:=-c.2.2.2.1) (by omega) (by omega)]
       exact bind_of (two _ _) rfl
      ·rw [if_neg k2,neI k2,cond_false]
       by_cases k3:c.1=3
       ·rw [if_pos k3,eqI k3,cond_true]
        refine bind_of (x:=.inl (0,c.2.2.2.1)) rfl ?_
        rw [Sum.elim_inl]
        dsimp only
        rw [show IntKind.wrap IntKind.i64 (PE.negM 0)=0 from rfl]
        exact bind_of (two _ _) rfl
       ·rw [if_neg k3,neI k3,cond_false]
        by_cases k4:c.1=4
        ·rw [eqI k4,cond_true]
         refine bind_of (x:=.inr (d.1.1+1,acc++[(c.2.1,c.2.2.1,c.2.2.2.2),(c.2.2.1,c.2.1,-c.2.2.2.1)])) ?_ rfl
         have f1:c.2.2.2.2=0:=by omega
         have f2:c.2.2.2.1=0:=by omega
         rw [f1,f2]
         exact bind_of (two _ _) rfl
        ·rw [neI k4,cond_false]
         refine bind_of (x:=.inr (d.1.1+1,acc++[(c.2.1,c.2.2.1,c.2.2.2.2),(c.2.2.1,c.2.1,-c.2.2.2.1)])) ?_ rfl
         rw [show PE.negM c.2.2.2.1=-c.2.2.2.1 from rfl,wrap_in (n:=-c.2.2.2.1) (by omega) (by omega)]
         exact bind_of (two _ _) rfl
    ·dsimp only
     rw [geI (by show (d.2.length:Int)≤(d.2.length:Int);omega),cond_false]
   ·rw [show ((d.1.1,d.1.2):Int×List (Int×Int))=d.1 from rfl,m79_eq,if_pos hO,Option.bind_some]
    dsimp only
    have hr:=rpr_len d.1 hO
    have hx:=obs_len d.1.1 n
    have hy:=clbs_len d.1.1 d.2
    refine bind_of (x:=bds d) ?_ rfl
    unfold bds
    rw [hn]
    generalize hacc:obs d.1.1 n++d.2.flatMap (clb d.1.1)=acc
    have hs:acc.length≤60:=by rw [← hacc,List.length_append];omega
    generalize rpr d.1=R at hr ⊢
    rw [show acc++prs R=acc++prs (R.take R.length) by rw [List.take_length]]
    refine count_from (fun i=>(d.1.1+1,acc++prs (R.take i))) R.length (by rw [List.take_zero];show _=(_,acc++[]);rw [List.append_nil]) (fun i hi=>?_) ?_
    ·dsimp only
     rw [ltI (by show (i:Int)<(R.length:Int);omega),cond_true,idxM_lt hi,Option.bind_some,Option.bind_some]
     rw [app24 (by rw [List.length_append,prs_len,List.length_take];omega),Option.bind_some,wrap_in (by omega) (by omega),List.take_succ_eq_append_getElem hi,prs_append,List.append_assoc]
     rfl
    ·dsimp only
     rw [geI (by show (R.length:Int)≤(R.length:Int);omega),cond_false]
 ·have h:vld d=false:=by simpa using h
  rw [h,if_neg (by decide)]
  rfl
theorem m82_eq {d:Dat} (hn:0≤d.1.1∧d.1.1≤8) (a b k:Int):m82 (d,a,b,k)=some (decide ((0≤a∧a<d.1.1)∧(0≤b∧b<d.1.1)∧-2100≤k∧k≤2100)):=by
 unfold m82
 dsimp only
 rw [wrap_in (n:=d.1.1-1) (by omega) (by omega),m38_eq,Option.bind_some,m38_eq,m38_eq]
 by_cases h1:0≤a∧a≤d.1.1-1
 ·rw [decide_eq_true h1,cond_true,Option.bind_some,andT]
  by_cases h2:0≤b∧b≤d.1.1-1
  ·rw [decide_eq_true h2,cond_true,Option.bind_some,andT]
   refine congrArg some (decide_eq_decide.2 ?_)
   omega
  ·rw [decide_eq_false h2,cond_false,Option.bind_some,andF]
   exact congrArg some (decide_eq_false (by omega)).symm
 ·rw [decide_eq_false h1,cond_false,Option.bind_some,andF,cond_false,Option.bind_some,andF]
  exact congrArg some (decide_eq_false (by omega)).symm
theorem m44_eq (d:Dat) (a b k:Int):m44 (d,a,b,k)=some (ctn d a b k):=by
 unfold m44 ctn
 dsimp only
 rw [show (((d.1.1,d.1.2),d.2):Dat)=d from rfl,m41_eq,m24_eq,Option.bind_some]
 unfold ask
 by_cases h:vld d=true
 ·have hn:=okO_of (vld_of h).1
  rw [if_pos h,h,Bool.true_and,show PE.notM (PE.notM (eqM ((bds d,(0:Int)):(Int×List Bnd)×Int).2 0))=true from rfl,cond_true,m82_eq ⟨hn.1,hn.2.1⟩,Option.bind_some]
  by_cases hq:(0≤a∧a<d.1.1)∧(0≤b∧b<d.1.1)∧-2100≤k∧k≤2100
  ·rw [decide_eq_true hq,if_pos rfl,show PE.orM (PE.notM (eqM ((bds d,(0:Int)):(Int×List Bnd)×Int).2 0)) (PE.notM true)=false from rfl,cond_false,show PE.negM k=-k from rfl,wrap_in (n:=-k) (by omega) (by omega)]
   refine bind_of (m83_eq (bds d) (b,a,-k)) ?_
   rfl
  ·rw [decide_eq_false hq,if_neg (by decide)]
   rfl
 ·have h:vld d=false:=by simpa using h
  rw [h,if_neg (by decide)]
  rfl
theorem m85_long (x:Sys) (v:Int×Int×Int) {l:List Int} (hl:60<l.length) (hl2:l.length≤1000):m85 (x,v,l)=some (chkChain x v l):=by
 unfold m85 chkChain
 dsimp only
 rw [show (x.1,x.2)=x from rfl,m126_eq,Option.bind_some]
 cases h:sys x with
 | false=>rfl
 | true =>
  rw [notT,notF,cond_true,m131_eq v (sys_bnd h).1.1 (sys_bnd h).1.2.1,Option.bind_some,orF]
  cases h2:bnd x.1 v with
  | false=>rfl
  | true =>
   rw [notT,cond_false]
   have e:m132 ((x.1,x.2),v.1,l)=some (0,0,false):=by
    unfold m132
    dsimp only
    refine bind_of (x:=.inr (0,0,false)) ?_ rfl
    rw [loopM_eq]
    dsimp only
    rw [ltI (show (0:Int)<lenM l by show (0:Int)<(l.length:Int);omega),cond_true,show idxM l 0=some (l[0]'(by omega)) from idxM_lt (xs:=l) (i:=0) (by omega),Option.bind_some,m165_eq,Option.bind_some,ltI (show (60:Int)<lenM l by show (60:Int)<(l.length:Int);omega)]
    rw [show ∀ b:Bool,PE.orM (PE.notM b) true=true from fun b=>by cases b<;>rfl,cond_true]
    rfl
   refine bind_of e ?_
   unfold folR
   rw [decide_eq_false (by omega)]
   cases folP x.2 l v.1 0 with
   | none=>rfl
   | some r=>rfl
theorem m48_eq (d:Dat) (a b k:Int) {l:List Int} (hl:l.length≤1000):m48 (d,a,b,k,l)=some (chk d a b k l):=by
 unfold m48 chk
 dsimp only
 rw [show (((d.1.1,d.1.2),d.2):Dat)=d from rfl,m41_eq,m24_eq,Option.bind_some]
 unfold ask
 by_cases h:vld d=true
 ·have hn:=okO_of (vld_of h).1
  rw [if_pos h,h,Bool.true_and,show eqM ((bds d,(0:Int)):(Int×List Bnd)×Int).2 0=true from rfl,cond_true,m82_eq ⟨hn.1,hn.2.1⟩,Option.bind_some,andT]
  by_cases hq:(0≤a∧a<d.1.1)∧(0≤b∧b<d.1.1)∧-2100≤k∧k≤2100
  ·rw [decide_eq_true hq,cond_true,show PE.negM k=-k from rfl,wrap_in (n:=-k) (by omega) (by omega),Bool.true_and]
   refine bind_of (x:=chkChain (bds d) (b,a,-k) l) ?_ rfl
   rcases Nat.lt_or_ge 60 l.length with h60 | h60
   ·exact m85_long _ _ h60 hl
   ·exact m85_eq _ _ h60
  ·rw [decide_eq_false hq,cond_false,Option.bind_some]
   rfl
 ·have h:vld d=false:=by simpa using h
  rw [h,if_neg (by decide)]
  rfl
theorem m42_eq (d:Dat):m42 d=m17 d:=by
 unfold m42 m17
 rw [show (((d.1.1,d.1.2),d.2):Dat)=d from rfl,m41_eq,m24_eq,Option.bind_some,Option.bind_some,m80_eq]
end Go.Proofs.YthfgccfaildmfaaGreatDoor
namespace Go.Proofs.YthfgccfaildmfaaGreatDoor
open Go Go.Abs Go.PE
open Ord (Rel clos)
set_option maxRecDepth 10000
theorem fl_slice (d:Rel) {a:Nat} (ha:a<8):sliceM (fl8 d) ((a:Int)*((nat_lit 8:Nat):Int)) ((a:Int)*((nat_lit 8:Nat):Int)+((nat_lit 8:Nat):Int))=some (row 8 fun b=>d a b):=by
 have e1:(a:Int)*((nat_lit 8:Nat):Int)=((a*8:Nat):Int):=by
  show (a:Int)*8=_;omega
 have e2:((a*8:Nat):Int)+((nat_lit 8:Nat):Int)=((a*8+8:Nat):Int):=by
  show ((a*8:Nat):Int)+8=_;omega
 rw [e1,e2,sliceM_of (by omega) (by omega) (by rw [fl_len];omega),Int.toNat_natCast,Int.toNat_natCast]
 congr 1
 refine List.ext_getElem? fun i=>?_
 rw [List.getElem?_drop,List.getElem?_take]
 by_cases hi:i<8
 ·rw [if_pos (by omega),row_get hi]
  unfold fl8
  rw [row_get (by omega),show (a*8+i) / 8=a by omega,show (a*8+i) % 8=i by omega]
 ·rw [if_neg (by omega),List.getElem?_eq_none (by rw [row_length];omega)]
attribute [local irreducible] fl8 in
theorem m40_eq {o:Int×List (Int×Int)} (h:okO o=true) {a b:Nat} (ha:a<o.1.toNat) (hb:b<o.1.toNat):m40 (o,(a:Int),(b:Int))=some (rl o a b):=by
 have hf:frm o=true:=by unfold okO at h;rw [Bool.and_eq_true] at h;exact h.1
 obtain ⟨h0,h1,h2,h3⟩:=frm_of hf
 unfold m40
 dsimp only
 rw [show ((o.1,o.2):Int×List (Int×Int))=o from rfl,m76_eq,Option.bind_some,h,notT,orF,geI (show (0:Int)≤(a:Int) by omega),orF,gtI (show (a:Int)<o.1 by omega),orF,geI (show (0:Int)≤(b:Int) by omega),orF,gtI (show (b:Int)<o.1 by omega),cond_false,m77_eq hf,Option.bind_some]
 have hl:=l64_is (rl o)
 unfold l64 at hl
 rw [hl,fl_slice _ (by omega),Option.bind_some]
 have e:[nthD (row 8 fun b=>rl o a b) (nat_lit 0) false,nthD (row 8 fun b=>rl o a b) (nat_lit 1) false,nthD (row 8 fun b=>rl o a b) (nat_lit 2) false,nthD (row 8 fun b=>rl o a b) (nat_lit 3) false,nthD (row 8 fun b=>rl o a b) (nat_lit 4) false,nthD (row 8 fun b=>rl o a b) (nat_lit 5) false,nthD (row 8 fun b=>rl o a b) (nat_lit 6) false,nthD (row 8 fun b=>rl o a b) (nat_lit 7) false]=row 8 fun b=>rl o a b:=rfl
 rw [e,row_idx (by omega),Option.bind_some]
def rk (o:Int×List (Int×Int)) (x:Nat):Nat:=((List.range o.1.toNat).filter fun a=>rl o a x).length
theorem okO_f {o:Int×List (Int×Int)} (h:okO o=true):frm o=true:=by unfold okO at h;rw [Bool.and_eq_true] at h;exact h.1
theorem no_self {o:Int×List (Int×Int)} (h:okO o=true) (a:Nat):rl o a a=false:=by
 cases hc:rl o a a
 ·rfl
 ·have hi:=(clos_in (okO_f h) hc).1
  unfold okO at h
  rw [Bool.and_eq_true] at h
  have:=List.all_eq_true.1 h.2 a (List.mem_range.2 hi)
  rw [hc] at this
  cases this
theorem rk_lt {o:Int×List (Int×Int)} (h:okO o=true) {a b:Nat} (hr:rl o a b=true):rk o a<rk o b:=by
 have hf:=okO_f h
 have hi:=clos_in hf hr
 have hn:∀ x,((List.range o.1.toNat).filter fun a=>rl o a x).Nodup:=fun x=>(List.nodup_range).filter _
 have hsub:(a::(List.range o.1.toNat).filter fun c=>rl o c a).length≤((List.range o.1.toNat).filter fun c=>rl o c b).length:=by
  refine nodup_sub _ _ ?_ fun x hx=>?_
  ·rw [List.nodup_cons]
   refine ⟨fun hm=>?_,hn a⟩
   rw [List.mem_filter] at hm
   have:=no_self h a
   rw [hm.2] at this
   cases this
  ·rw [List.mem_cons] at hx
   rw [List.mem_filter,List.mem_range]
   rcases hx with rfl | hx
   ·exact ⟨hi.1,hr⟩
   ·rw [List.mem_filter,List.mem_range] at hx
    exact ⟨hx.1,rl_tri hf hx.2 hr⟩
 rw [List.length_cons] at hsub
 unfold rk
 omega
end Go.Proofs.YthfgccfaildmfaaGreatDoor
namespace Go.Proofs.YthfgccfaildmfaaGreatDoor
open Go Go.Abs Go.PE
open Ord (Rel clos)
set_option maxRecDepth 10000
theorem m78_eq {l:List Int} (hl:l.length≤1000000) (v:Int):m78 (l,v)=some (decide (v∈l)):=by
 unfold m78
 dsimp only
 obtain ⟨r,hr,hq⟩:=loopM_from (body:=fun (s:Int)=>bif ltM s (lenM l) then Option.bind (idxM l s) fun (r:Int)=>bif eqM r v then some
 (Sum.inr (Sum.inr true)) else some (Sum.inl (IntKind.wrap IntKind.i64 (s+(1:Int)))) else some (Sum.inr (Sum.inl ()))) (fun k s=>s=(k:Int)∧∀ j (hj:j<l.length),j<k→l[j]≠v)
  (fun (r:Unit⊕Bool)=>(r=.inl ()∧v∉l)∨(r=.inr true∧v∈l)) l.length (s:=0) ⟨rfl,fun j _ h=>by omega⟩ (fun k s hk hP=>by
  obtain ⟨rfl,hP⟩:=hP
  by_cases hlt:k<l.length
  ·rw [ltI (show (k:Int)<lenM l by show (k:Int)<(l.length:Int);omega),cond_true,idxM_lt hlt,Option.bind_some,wrap_in (by omega) (by omega)]
   by_cases hv:l[k]=v
   ·rw [eqI hv,cond_true]
    exact .inr ⟨_,rfl,.inr ⟨rfl,hv▸List.getElem_mem hlt⟩⟩
   ·rw [neI hv,cond_false]
    exact .inl ⟨_,hlt,rfl,rfl,fun j hj hjk=>by
     by_cases hj2:j=k
     ·subst hj2;exact hv
     ·exact hP j hj (by omega)⟩
  ·refine .inr ⟨.inl (),by rw [geI (by show (l.length:Int)≤(k:Int);omega)];rfl,.inl ⟨rfl,fun hm=>?_⟩⟩
   obtain ⟨j,hj,e⟩:=List.mem_iff_getElem.1 hm
   exact hP j hj (by omega) e)
 refine bind_of hr ?_
 rcases hq with ⟨rfl,hq⟩ | ⟨rfl,hq⟩
 ·rw [decide_eq_false hq];rfl
 ·rw [decide_eq_true hq];rfl
structure TL (o:Int×List (Int×Int)) (l:List Int):Prop where
 nd:l.Nodup
 rg:∀ v∈l,0≤v∧v<o.1
 tp:∀ i (hi:i<l.length) (a:Nat),rl o a l[i].toNat=true→(a:Int)∈l.take i
def fr1 (o:Int×List (Int×Int)) (s:List Int) (x j:Nat):Bool:=!decide ((x:Int)∈s)&&(List.range j).all fun a=>!(rl o a x&&!decide ((a:Int)∈s))
theorem fr1_succ (o:Int×List (Int×Int)) (s:List Int) (x j:Nat):fr1 o s x (j+1)=(fr1 o s x j&&!(rl o j x&&!decide ((j:Int)∈s))):=by
 unfold fr1
 rw [List.range_succ,List.all_append,Bool.and_assoc]
 simp
theorem fr1_iff {o:Int×List (Int×Int)} {s:List Int} {x n:Nat}:fr1 o s x n=true↔(x:Int)∉s∧∀ a,a<n→rl o a x=true→(a:Int)∈s:=by
 unfold fr1
 simp only [Bool.and_eq_true,Bool.not_eq_true',decide_eq_false_iff_not,List.all_eq_true,List.mem_range,Bool.and_eq_false_iff,Bool.not_eq_false',decide_eq_true_eq]
 constructor
 ·rintro ⟨h1,h2⟩
  refine ⟨h1,fun a ha hr=>?_⟩
  rcases h2 a ha with h | h
  ·rw [hr] at h;cases h
  ·exact h
 ·rintro ⟨h1,h2⟩
  refine ⟨h1,fun a ha=>?_⟩
  cases hr:rl o a x
  ·exact .inl rfl
  ·exact .inr (h2 a ha hr)
theorem free_ex {o:Int×List (Int×Int)} (h:okO o=true) {s:List Int} (hl:s.length<o.1.toNat):∃ x,x<o.1.toNat∧fr1 o s x o.1.toNat=true:=by
 have h0:∃ x:Nat,x<o.1.toNat∧(x:Int)∉s:=by
  rcases Classical.em (∃ x:Nat,x<o.1.toNat∧(x:Int)∉s) with hx | hx
  ·exact hx
  ·exfalso
   have hnd:((List.range o.1.toNat).map fun (x:Nat)=>(x:Int)).Nodup:=List.pairwise_map.2 ((List.pairwise_lt_range).imp fun {a b} h=>by show ((a:Int))≠(b:Int);omega)
   have:=nodup_sub _ s hnd fun v hv=>by
    rw [List.mem_map] at hv
    obtain ⟨x,hx1,rfl⟩:=hv
    rw [List.mem_range] at hx1
    rcases Classical.em ((x:Int)∈s) with hm | hm
    ·exact hm
    ·exact absurd ⟨x,hx1,hm⟩ hx
   rw [List.length_map,List.length_range] at this
   omega
 have key:∀ (m x:Nat),rk o x≤m→x<o.1.toNat→(x:Int)∉s→∃ y,y<o.1.toNat∧fr1 o s y o.1.toNat=true:=by
  intro m
  induction m with
  | zero =>
   intro x hm hx hs
   refine ⟨x,hx,fr1_iff.2 ⟨hs,fun a ha hr=>?_⟩⟩
   have:=rk_lt h hr
   omega
  | succ m ih =>
   intro x hm hx hs
   rcases Classical.em (∃ a,a<o.1.toNat∧rl o a x=true∧(a:Int)∉s) with ⟨a,ha,hr,hns⟩ | hx2
   ·have:=rk_lt h hr
    exact ih a (by omega) ha hns
   ·refine ⟨x,hx,fr1_iff.2 ⟨hs,fun a ha hr=>?_⟩⟩
    rcases Classical.em ((a:Int)∈s) with hm | hm
    ·exact hm
    ·exact absurd ⟨a,ha,hr,hm⟩ hx2
 obtain ⟨x,hx,hs⟩:=h0
 exact key _ x (Nat.le_refl _) hx hs
theorem TL.app {o:Int×List (Int×Int)} (h:okO o=true) {s:List Int} (ht:TL o s) {x:Nat} (hx:x<o.1.toNat) (hf:fr1 o s x o.1.toNat=true):TL o (s++[(x:Int)]):=by
 have h0:=okO_of h
 obtain ⟨f1,f2⟩:=fr1_iff.1 hf
 refine ⟨?_,fun v hv=>?_,fun i hi a hr=>?_⟩
 ·rw [List.nodup_append]
  exact ⟨ht.nd,by simp,fun u hu v hv e=>by
   rw [List.mem_singleton] at hv
   subst hv;subst e
   exact f1 hu⟩
 ·rw [List.mem_append,List.mem_singleton] at hv
  rcases hv with hv | rfl
  ·exact ht.rg v hv
  ·omega
 ·rw [List.length_append] at hi
  have hi:i<s.length+1:=hi
  by_cases hlt:i<s.length
  ·rw [List.getElem_append_left hlt] at hr
   rw [List.take_append_of_le_length (by omega)]
   exact ht.tp i hlt a hr
  ·have:i=s.length:=by omega
   subst this
   rw [List.getElem_append_right (Nat.le_refl _)] at hr
   simp only [Nat.sub_self,List.getElem_cons_zero,Int.toNat_natCast] at hr
   rw [List.take_left]
   exact f2 a (clos_in (okO_f h) hr).1 hr
attribute [local irreducible] fl8 in
theorem free_loop {o:Int×List (Int×Int)} {n:Nat} (h8:n≤8) {s:List Int} (hs:s.length≤8) {x:Nat} (hx:x<n) :
  loopM (fun (s_2:Bool×Int)=>bif ltM s_2.2 (n:Int) then Option.bind (Option.bind (chkM s_2.2 ↑(nat_lit 8)) fun (r_3:Unit)
 => Option.bind (chkM (x:Int) ↑(nat_lit 8)) fun (r_4:Unit)=>Option.bind (idxM (fl8 (rl o)) (↑(nat_lit 0)+s_2.2*↑(nat_lit 8)+(x:Int)*↑(nat_lit 1))) fun (r_5:Bool)=>Option.bind (bif r_5 then m78 (s,s_2.2) else
 some false) fun (r:Bool)=>bif PE.andM r_5 (PE.notM r) then some false else some s_2.1) fun (o:Bool)=>some (Sum.inl (o,IntKind.wrap IntKind.i64 (s_2.2
 + (1:Int)))) else some (Sum.inr s_2.1)) (PE.notM (decide ((x:Int)∈s)),(0:Int))=some (fr1 o s x n):=by
 have e0:(PE.notM (decide ((x:Int)∈s)),(0:Int))=(fun k:Nat=>(fr1 o s x k,(k:Int))) 0:=by
  dsimp only
  unfold fr1
  rw [List.range_zero,List.all_nil,Bool.and_true]
  rfl
 rw [e0]
 refine loopM_fn (fun k:Nat=>(fr1 o s x k,(k:Int))) n (fun k hk=>?_) ?_
 ·have c1:=chk8 (b:=k) (by omega)
  have c2:=chk8 (b:=x) (by omega)
  dsimp only
  rw [ltI (by omega),cond_true,c1,Option.bind_some,c2,Option.bind_some,fl_idx _ (by omega) (by omega),Option.bind_some,m78_eq (by omega),wrap_in (by omega) (by omega),fr1_succ]
  cases rl o k x
  ·rw [cond_false,Option.bind_some,andF,cond_false,Option.bind_some,Bool.false_and,Bool.not_false,Bool.and_true]
   rfl
  ·rw [cond_true,Option.bind_some,andT]
   cases decide ((k:Int)∈s)
   ·rw [notF,cond_true,Option.bind_some];simp
   ·rw [notT,cond_false,Option.bind_some];simp
 ·dsimp only
  rw [geI (by omega),cond_false]
end Go.Proofs.YthfgccfaildmfaaGreatDoor
namespace Go.Proofs.YthfgccfaildmfaaGreatDoor
open Go Go.Abs Go.PE
open Ord (Rel clos)
set_option maxRecDepth 10000
attribute [local irreducible] fl8 in
theorem m39_ok {o:Int×List (Int×Int)} (h:okO o=true):∃ l,m39 o=some (l,0)∧TL o l∧l.length=o.1.toNat:=by
 have hf:=okO_f h
 obtain ⟨h0,h1,h2,h3⟩:=frm_of hf
 have key:Ans (m39 o) fun z=>∃ l,z=(l,0)∧TL o l∧l.length=o.1.toNat:=by
  unfold m39
  rw [show ((o.1,o.2):Int×List (Int×Int))=o from rfl,m76_eq,Option.bind_some,h,notT,cond_false,m77_eq hf,Option.bind_some]
  have hl:=l64_is (rl o)
  unfold l64 at hl
  rw [hl]
  generalize hn:o.1.toNat=n
  have on:o.1=(n:Int):=by omega
  rw [on]
  refine Ans.bind (P:=fun l=>TL o l∧l.length=n) (Ans.loop (fun k s=>TL o s∧s.length=k) n ⟨⟨List.nodup_nil,(fun v hv=>by cases hv),(fun i hi=>by cases hi)⟩,rfl⟩ fun k s hk hP=>?_) fun l hl=>Ans.some ⟨l,rfl,hl.1,hl.2⟩
  obtain ⟨ht,hsl⟩:=hP
  by_cases hlt:k<n
  ·rw [ltI (show lenM s<(n:Int) by show (s.length:Int)<_;omega),cond_true]
   refine Ans.bind (P:=fun s'=>TL o s'∧s'.length=k+1) ?_ fun s' hs'=>Ans.some ⟨hlt,hs'⟩
   refine Ans.loop (fun j x=>x=(j:Int)∧∀ y,y<j→fr1 o s y n=false) n ⟨rfl,fun y hy=>by omega⟩ fun j x hj hP=>?_
   obtain ⟨rfl,hP⟩:=hP
   by_cases hjn:j<n
   ·rw [ltI (by omega),cond_true,m78_eq (by omega),Option.bind_some]
    refine Ans.seq (free_loop (o:=o) (by omega) (by omega) hjn) ?_
    cases hfr:fr1 o s j n
    ·rw [cond_false,wrap_in (by omega) (by omega)]
     exact Ans.some ⟨hjn,rfl,fun y hy=>by
      by_cases hyj:y=j
      ·rw [hyj];exact hfr
      ·exact hP y (by omega)⟩
    ·rw [cond_true,appM_of (by show (s.length+1)*8≤_;omega),Option.bind_some]
     refine Ans.some ⟨ht.app h (by omega) (by rw [hn];exact hfr),?_⟩
     rw [List.length_append,hsl];rfl
   ·exfalso
    obtain ⟨y,hy,hfy⟩:=free_ex h (s:=s) (by omega)
    rw [hn] at hy hfy
    rw [hP y (by omega)] at hfy
    cases hfy
  ·rw [geI (show (n:Int)≤lenM s by show _≤(s.length:Int);omega),cond_false]
   exact Ans.some ⟨ht,by omega⟩
 obtain ⟨z,hz,l,rfl,h4,h5⟩:=key
 exact ⟨l,hz,h4,h5⟩
abbrev Nums:=Int×List (Int×Int)×Int×Int×List Int×List Clu×Int×Int×Int
def has5 (c:Clu):Prop:=IntKind.i64.has c.1∧IntKind.i64.has c.2.1∧IntKind.i64.has c.2.2.1∧IntKind.i64.has c.2.2.2.1∧IntKind.i64.has c.2.2.2.2
structure DNum (x:Nums):Prop where
 n:IntKind.i64.has x.1
 ps:∀ p∈x.2.1,has2 p
 ln:IntKind.i64.has x.2.2.1
 bs:IntKind.i64.has x.2.2.2.1
 gs:∀ g∈x.2.2.2.2.1,IntKind.i64.has g
 cs:∀ c∈x.2.2.2.2.2.1,has5 c
 m0:IntKind.i64.has x.2.2.2.2.2.2.1
 m1:IntKind.i64.has x.2.2.2.2.2.2.2.1
 m2:IntKind.i64.has x.2.2.2.2.2.2.2.2
theorem m35_ok {x:Nums} (h:DNum x):∃ o,m35 x=some o∧okO o=true∧o.2.length≤20:=by
 obtain ⟨o,h1,h2,h3⟩:=m75_ok h.n h.ps h.ln
 refine ⟨o,?_,h2,h3⟩
 unfold m35
 rw [h1];rfl
structure Hid (o:Int×List (Int×Int)) (y:List Int):Prop where
 len:y.length=o.1.toNat
 rg:∀ a,a<o.1.toNat→1000≤y.getD a 0∧y.getD a 0≤1711
 up:∀ a b,rl o a b=true→y.getD a 0≤y.getD b 0
theorem getD_set {l:List Int} {i j:Nat} (hi:i<l.length) (v:Int):(l.set i v).getD j 0=if j=i then v else l.getD j 0:=by
 rw [List.getD_eq_getElem?_getD,List.getElem?_set,List.getD_eq_getElem?_getD]
 by_cases h:i=j
 ·subst h;rw [if_pos rfl,if_pos hi,if_pos rfl];rfl
 ·rw [if_neg h,if_neg (fun e=>h e.symm)]
theorem m12_ok {x:Nums} (h:DNum x) {o:Int×List (Int×Int)} (ho:m35 x=some o) (hO:okO o=true):∃ y,m12 x=some y∧Hid o y:=by
 obtain ⟨l,hl1,hl2,hl3⟩:=m39_ok hO
 have hf:=okO_f hO
 obtain ⟨h0,h1,h2,h3⟩:=frm_of hf
 have key:Ans (m12 x) fun y=>Hid o y:=by
  unfold m12
  refine Ans.seq (x:=o) ho ?_
  rw [show ((o.1,o.2):Int×List (Int×Int))=o from rfl]
  refine Ans.seq hl1 ?_
  generalize hn:o.1.toNat=n at hl3
  have on:o.1=(n:Int):=by omega
  refine Ans.seq (x:=List.replicate n 0) (by rw [mkM_of h0 (Int.le_refl _) (by show o.1*8≤_;omega),hn]) ?_
  dsimp only
  have b0:=pk_lo (c:=x.2.2.2.1) (n:=400) (by omega)
  have b1:=pk_hi (c:=x.2.2.2.1) (n:=400) (by omega)
  have li:∀ i (hi:i<l.length),∃ v:Nat,l[i]=(v:Int)∧v<n:=fun i hi=>by
   have:=hl2.rg _ (List.getElem_mem hi)
   exact ⟨l[i].toNat,by omega,by omega⟩
  refine Ans.bind (P:=fun y=>Hid o y) ?_ fun y hy=>Ans.some hy
  refine Ans.loop (fun i s=>s.1=(i:Int)∧s.2.length=n∧(∀ k (hk:k<l.length),k<i→1000≤s.2.getD l[k].toNat 0∧s.2.getD l[k].toNat 0≤1399+(k+1)*39) ∧
   ∀ k (hk:k<l.length),k<i→∀ a,rl o a l[k].toNat=true→s.2.getD a 0≤s.2.getD l[k].toNat 0) n ⟨rfl,List.length_replicate,fun k hk hk2=>by omega,fun k hk hk2=>by omega⟩ fun i s hi hP=>?_
  obtain ⟨s1,out⟩:=s
  obtain ⟨q0,q1,q2,q3⟩:=hP
  dsimp only at q0 q1 q2 q3 ⊢
  subst q0
  by_cases hlt:i<n
  ·have hil:i<l.length:=by omega
   obtain ⟨v,hv,hvn⟩:=li i hil
   rw [ltI (show (i:Int)<lenM l by show (i:Int)<(l.length:Int);omega),cond_true,m37_eq h.bs (by omega),Option.bind_some,wrap_in (n:=1000+pk x.2.2.2.1 400) (by omega) (by omega)]
   refine Ans.bind (P:=fun (y:Int)=>1000≤y∧y≤1399+(i:Int)*39∧∀ k (hk:k<l.length),k<i→rl o l[k].toNat v=true→out.getD l[k].toNat 0≤y) ?_ fun y hy=>?_
   ·refine Ans.loop (fun k s=>s.2=(k:Int)∧1000≤s.1∧s.1≤1399+(i:Int)*39∧∀ k' (hk:k'<l.length),k'<k→rl o l[k'].toNat v=true→out.getD l[k'].toNat 0≤s.1) i ⟨rfl,by dsimp only;omega,by dsimp only;omega,fun k' _ hk=>by omega⟩ fun k s hk hP=>?_
    obtain ⟨y,s2⟩:=s
    obtain ⟨g0,g1,g2,g3⟩:=hP
    dsimp only at g0 g1 g2 g3 ⊢
    subst g0
    by_cases hki:k<i
    ·have hkl:k<l.length:=by omega
     obtain ⟨u,hu,hun⟩:=li k hkl
     rw [ltI (by omega),cond_true,idxM_lt hkl,Option.bind_some,idxM_lt hil,Option.bind_some,hu,hv,m40_eq hO (by omega) (by omega),Option.bind_some,wrap_in (by omega) (by omega)]
     have g4:=q2 k hkl hki
     rw [hu,Int.toNat_natCast] at g4
     cases hr:rl o u v
     ·rw [cond_false,Option.bind_some]
      refine Ans.some ⟨hki,rfl,g1,g2,fun k' hk' hkk=>?_⟩
      by_cases e:k'=k
      ·subst e;intro hr';rw [hu,Int.toNat_natCast,hr] at hr';cases hr'
      ·exact g3 k' hk' (by omega)
     ·rw [cond_true,Option.bind_some,chkM_of (n:=lenM out) (by omega) (by show (u:Int)<(out.length:Int);omega),Option.bind_some,idx_getD (by omega) (by omega),Option.bind_some,Option.bind_some,Int.toNat_natCast]
      refine Ans.some ⟨hki,rfl,by dsimp only;omega,by dsimp only;omega,fun k' hk' hkk hr'=>?_⟩
      dsimp only
      by_cases e:k'=k
      ·subst e;rw [hu,Int.toNat_natCast];omega
      ·have:=g3 k' hk' (by omega) hr'
       omega
    ·rw [geI (by omega),cond_false]
     exact Ans.some ⟨g1,g2,fun k' hk' hkk=>g3 k' hk' (by omega)⟩
   ·obtain ⟨y0,y1,y2⟩:=hy
    refine Ans.bind (P:=fun (z:Int)=>y≤z∧z≤y+39) ?_ fun z hz=>?_
    ·by_cases hg:i<x.2.2.2.2.1.length
     ·have hgm:=h.gs _ (List.getElem_mem hg)
      have c0:=pk_lo (c:=x.2.2.2.2.1[i]) (n:=40) (by omega)
      have c1:=pk_hi (c:=x.2.2.2.2.1[i]) (n:=40) (by omega)
      rw [ltI (show (i:Int)<lenM x.2.2.2.2.1 by show (i:Int)<(x.2.2.2.2.1.length:Int);omega),cond_true,idxM_lt hg,Option.bind_some,m37_eq hgm (by omega),Option.bind_some,wrap_in (by omega) (by omega)]
      exact Ans.some ⟨by omega,by omega⟩
     ·rw [geI (show lenM x.2.2.2.2.1≤(i:Int) by show (x.2.2.2.2.1.length:Int)≤_;omega),cond_false]
      exact Ans.some ⟨by omega,by omega⟩
    ·rw [idxM_lt hil,Option.bind_some,hv,chkM_of (n:=lenM out) (by omega) (by show (v:Int)<(out.length:Int);omega),Option.bind_some,setM_of (y:=z) (by omega) (by omega) rfl,Option.bind_some,wrap_in (by omega) (by omega),Int.toNat_natCast]
     have hne:∀ k (hk:k<l.length),k<i→l[k].toNat≠v:=fun k hk hki e=>by
      have hp:=List.pairwise_iff_getElem.1 hl2.nd k i hk hil hki
      obtain ⟨u,hu,_⟩:=li k hk
      apply hp
      rw [hu,hv]
      rw [hu,Int.toNat_natCast] at e
      rw [e]
     have hgs:∀ j,(out.set v z).getD j 0=if j=v then z else out.getD j 0:=fun j=>getD_set (by omega) z
     have mem:∀ k (hk:k<l.length) (a:Nat),rl o a l[k].toNat=true→∃ k',∃ hk':k'<l.length,k'<k∧l[k'].toNat=a:=fun k hk a hr=>by
      have hm:=hl2.tp k hk a hr
      obtain ⟨k',hk',e⟩:=List.mem_iff_getElem.1 hm
      rw [List.length_take] at hk'
      rw [List.getElem_take] at e
      exact ⟨k',by omega,by omega,by rw [e];rfl⟩
     refine Ans.some ⟨hlt,rfl,by rw [List.length_set];exact q1,fun k hk hki=>?_,fun k hk hki a hr=>?_⟩
     ·rw [hgs]
      by_cases e:k=i
      ·subst e
       rw [hv,Int.toNat_natCast,if_pos rfl]
       omega
      ·rw [if_neg (hne k hk (by omega))]
       exact q2 k hk (by omega)
     ·obtain ⟨k',hk',hkk,e'⟩:=mem k hk a hr
      have ha:a≠v:=e'▸hne k' hk' (by omega)
      rw [hgs,hgs,if_neg ha]
      by_cases e:k=i
      ·subst e
       rw [hv,Int.toNat_natCast] at hr ⊢
       rw [if_pos rfl]
       have:=y2 k' hk' hkk (by rw [e'];exact hr)
       rw [e'] at this
       omega
      ·rw [if_neg (hne k hk (by omega))]
       exact q3 k hk (by omega) a hr
  ·rw [geI (show lenM l≤(i:Int) by show (l.length:Int)≤_;omega),cond_false]
   have hin:∀ a,a<n→∃ k,∃ hk:k<l.length,l[k].toNat=a:=fun a ha=>by
    have hnd:(l.map Int.toNat).Nodup:=by
     refine List.pairwise_map.2 ?_
     refine List.pairwise_iff_getElem.2 fun i j hi hj hij=>?_
     have hp:=List.pairwise_iff_getElem.1 hl2.nd i j hi hj hij
     obtain ⟨u,hu,_⟩:=li i hi
     obtain ⟨w,hw,_⟩:=li j hj
     intro e
     apply hp
     rw [hu,hw] at e ⊢
     rw [Int.toNat_natCast,Int.toNat_natCast] at e
     rw [e]
    rcases Classical.em (a∈l.map Int.toNat) with hm | hm
    ·rw [List.mem_map] at hm
     obtain ⟨w,hw,e⟩:=hm
     obtain ⟨k,hk,rfl⟩:=List.mem_iff_getElem.1 hw
     exact ⟨k,hk,e⟩
    ·exfalso
     have:=nodup_sub (a::l.map Int.toNat) (List.range n) (List.nodup_cons.2 ⟨hm,hnd⟩) fun w hw=>by
      rw [List.mem_cons] at hw
      rw [List.mem_range]
      rcases hw with rfl | hw
      ·exact ha
      ·rw [List.mem_map] at hw
       obtain ⟨w',hw',rfl⟩:=hw
       have:=hl2.rg _ hw'
       omega
     rw [List.length_cons,List.length_map,List.length_range] at this
     omega
   refine Ans.some ⟨by rw [hn];exact q1,fun a ha=>?_,fun a b hr=>?_⟩
   ·obtain ⟨k,hk,rfl⟩:=hin a (by omega)
    have:=q2 k hk (by omega)
    omega
   ·have hb:=(clos_in hf hr).2
    obtain ⟨k,hk,rfl⟩:=hin b (by omega)
    exact q3 k hk (by omega) a hr
 obtain ⟨y,hy,hH⟩:=key
 exact ⟨y,hy,hH⟩
end Go.Proofs.YthfgccfaildmfaaGreatDoor
namespace Go.Proofs.YthfgccfaildmfaaGreatDoor
open Go Go.Abs Go.PE
open Ord (Rel clos)
set_option maxRecDepth 10000
def tru (y:List Int) (q:Clu):Prop :=
 (q.1=1→q.2.2.2.1≤y.getD q.2.1.toNat 0∧y.getD q.2.1.toNat 0<q.2.2.2.2)∧(q.1=2→q.2.2.2.1≤y.getD q.2.1.toNat 0)∧(q.1=3→y.getD q.2.1.toNat 0≤q.2.2.2.1) ∧
 (q.1=4→y.getD q.2.2.1.toNat 0=y.getD q.2.1.toNat 0)∧(q.1=5→q.2.2.2.1≤y.getD q.2.2.1.toNat 0-y.getD q.2.1.toNat 0∧y.getD q.2.2.1.toNat 0-y.getD q.2.1.toNat 0≤q.2.2.2.2)
def mid (b:Int) (q:Clu):Prop:=(q.1=1→971-b≤q.2.2.2.1∧q.2.2.2.2≤1741+b)∧(q.1=2→951-b≤q.2.2.2.1∧q.2.2.2.1≤1711+b)∧(q.1=3→1000-b≤q.2.2.2.1∧q.2.2.2.1≤1760+b)
theorem m22_ok {N:Int} (h8:N≤8) {y:List Int} (hl:(y.length:Int)=N) (h0:0<N) (hy:∀ a,a<y.length→1000≤y.getD a 0∧y.getD a 0≤1711) {c:Clu} (hc:has5 c) :
  ∃ q,m22 (y,c)=some q∧vcl N q=true∧tru y q∧mid 0 q:=by
 have key:Ans (m22 (y,c)) fun q=>vcl N q=true∧tru y q∧mid 0 q:=by
  obtain ⟨c1,c2,c3,c4,c5⟩:=hc
  unfold m22
  dsimp only
  have e0:lenM y=N:=hl
  have k0:=pk_lo (c:=c.1) (n:=5) (by omega)
  have k1:=pk_hi (c:=c.1) (n:=5) (by omega)
  have a0:=pk_lo (c:=c.2.1) (n:=N) h0
  have a1:=pk_hi (c:=c.2.1) (n:=N) h0
  have b0:=pk_lo (c:=c.2.2.1) (n:=N) h0
  have b1:=pk_hi (c:=c.2.2.1) (n:=N) h0
  rw [e0,m37_eq c1 (by omega),Option.bind_some,m37_eq c2 h0,Option.bind_some,m37_eq c3 h0,Option.bind_some,idx_getD a0 (by omega),Option.bind_some,idx_getD b0 (by omega),Option.bind_some]
  generalize pk c.1 5=k at *
  generalize pk c.2.1 N=a at *
  generalize pk c.2.2.1 N=b at *
  have ya:=hy a.toNat (by omega)
  have yb:=hy b.toNat (by omega)
  generalize hA:y.getD a.toNat 0=A at *
  generalize hB:y.getD b.toNat 0=B at *
  rw [wrap_in (n:=1+k) (by omega) (by omega),wrap_in (n:=B-A) (by omega) (by omega)]
  refine Ans.bind (P:=fun o:Clu=>o.2=(a,0,0,0)∧1≤o.1∧o.1≤5∧(o.1=4→B=A)) ?_ fun o ho=>?_
  ·refine Ans.cond (fun h=>Ans.some ⟨rfl,by dsimp only;omega,by dsimp only;omega,fun h=>by dsimp only at h;omega⟩) fun h=>Ans.some ⟨rfl,by dsimp only;omega,by dsimp only;omega,fun h4=>?_⟩
   dsimp only at h4
   rw [eqI h4,andT] at h
   rcases Classical.em (B-A=0) with e | e
   ·omega
   ·rw [neI e] at h;cases h
  ·obtain ⟨kd,rest⟩:=o
   obtain ⟨o1,o2,o3,o4⟩:=ho
   dsimp only at o1 o2 o3 o4
   subst o1
   dsimp only
   refine Ans.bind (P:=fun o:Clu=>o.2=(a,0,0,0)∧1≤o.1∧o.1≤5∧(o.1=4→B=A)∧(o.1=5→-200≤B-A∧B-A≤200)) ?_ fun o ho=>?_
   ·by_cases h5:kd=5
    ·rw [eqI h5,cond_true,m38_eq,Option.bind_some,andT]
     refine Ans.cond (fun h=>Ans.some ⟨rfl,(by dsimp only;omega),(by dsimp only;omega),(fun h=>by dsimp only at h;omega),(fun h=>by dsimp only at h;omega)⟩) fun h=>Ans.some ⟨rfl,o2,o3,o4,fun _=>?_⟩
     rcases Classical.em (-200≤B-A∧B-A≤200) with e | e
     ·exact e
     ·rw [decide_eq_false e] at h;cases h
    ·rw [neI h5,cond_false,Option.bind_some,andF,cond_false]
     exact Ans.some ⟨rfl,o2,o3,o4,fun h=>absurd h h5⟩
   ·obtain ⟨kd,rest⟩:=o
    obtain ⟨o1,o2,o3,o4,o5⟩:=ho
    dsimp only at o1 o2 o3 o4 o5
    subst o1
    dsimp only
    have fin:∀ q:Clu,vcl N q=true∧tru y q∧mid 0 q→Ans (some q) fun q=>vcl N q=true∧tru y q∧mid 0 q:=fun q h=>Ans.some h
    have p30:=pk_lo (c:=c.2.2.2.1) (n:=30) (by omega)
    have p31:=pk_hi (c:=c.2.2.2.1) (n:=30) (by omega)
    have q30:=pk_lo (c:=c.2.2.2.2) (n:=30) (by omega)
    have q31:=pk_hi (c:=c.2.2.2.2) (n:=30) (by omega)
    have p50:=pk_lo (c:=c.2.2.2.1) (n:=50) (by omega)
    have p51:=pk_hi (c:=c.2.2.2.1) (n:=50) (by omega)
    refine Ans.bind (P:=fun q:Clu=>vcl N q=true∧tru y q∧mid 0 q) ?_ fun q hq=>Ans.some hq
    by_cases k1:kd=1
    ·subst k1
     rw [eqI rfl,cond_true,m37_eq c4 (by omega),Option.bind_some,m37_eq c5 (by omega),Option.bind_some,wrap_in (n:=A-pk c.2.2.2.1 30) (by omega) (by omega),wrap_in (n:=A+1) (by omega) (by omega),wrap_in (n:=A+1+pk c.2.2.2.2 30) (by omega) (by omega)]
     refine fin _ ⟨decide_eq_true (by dsimp only;omega),?_,?_⟩
     ·unfold tru;dsimp only;rw [hA]
      exact ⟨fun _=>by omega,fun h=>by omega,fun h=>by omega,fun h=>by omega,fun h=>by omega⟩
     ·unfold mid;dsimp only
      exact ⟨fun _=>by omega,fun h=>by omega,fun h=>by omega⟩
    ·rw [neI k1,cond_false]
     by_cases k2:kd=2
     ·subst k2
      rw [eqI rfl,cond_true,m37_eq c4 (by omega),Option.bind_some,wrap_in (n:=A-pk c.2.2.2.1 50) (by omega) (by omega)]
      refine fin _ ⟨decide_eq_true (by dsimp only;omega),?_,?_⟩
      ·unfold tru;dsimp only;rw [hA]
       exact ⟨fun h=>by omega,fun h=>by omega,fun h=>by omega,fun h=>by omega,fun h=>by omega⟩
      ·unfold mid;dsimp only
       exact ⟨fun h=>by omega,fun h=>by omega,fun h=>by omega⟩
     ·rw [neI k2,cond_false]
      by_cases k3:kd=3
      ·subst k3
       rw [eqI rfl,cond_true,m37_eq c4 (by omega),Option.bind_some,wrap_in (n:=A+pk c.2.2.2.1 50) (by omega) (by omega)]
       refine fin _ ⟨decide_eq_true (by dsimp only;omega),?_,?_⟩
       ·unfold tru;dsimp only;rw [hA]
        exact ⟨fun h=>by omega,fun h=>by omega,fun h=>by omega,fun h=>by omega,fun h=>by omega⟩
       ·unfold mid;dsimp only
        exact ⟨fun h=>by omega,fun h=>by omega,fun h=>by omega⟩
      ·rw [neI k3,cond_false]
       by_cases k4:kd=4
       ·subst k4
        rw [eqI rfl,cond_true]
        have e:=o4 rfl
        refine fin _ ⟨decide_eq_true (by dsimp only;omega),?_,?_⟩
        ·unfold tru;dsimp only;rw [hA,hB]
         exact ⟨fun h=>by omega,fun h=>by omega,fun h=>by omega,fun h=>by omega,fun h=>by omega⟩
        ·unfold mid;dsimp only
         exact ⟨fun h=>by omega,fun h=>by omega,fun h=>by omega⟩
       ·have k5:kd=5:=by omega
        subst k5
        have e:=o5 rfl
        rw [neI k4,cond_false,m37_eq c4 (by omega),Option.bind_some,m37_eq c5 (by omega),Option.bind_some,wrap_in (n:=B-A-pk c.2.2.2.1 30) (by omega) (by omega),wrap_in (n:=B-A+pk c.2.2.2.2 30) (by omega) (by omega)]
        refine fin _ ⟨decide_eq_true (by dsimp only;omega),?_,?_⟩
        ·unfold tru;dsimp only;rw [hA,hB]
         exact ⟨fun h=>by omega,fun h=>by omega,fun h=>by omega,fun h=>by omega,fun h=>by omega⟩
        ·unfold mid;dsimp only
         exact ⟨fun h=>by omega,fun h=>by omega,fun h=>by omega⟩
 obtain ⟨q,h1,h2⟩:=key
 exact ⟨q,h1,h2⟩
end Go.Proofs.YthfgccfaildmfaaGreatDoor
namespace Go.Proofs.YthfgccfaildmfaaGreatDoor
open Go Go.Abs Go.PE
open Ord (Rel clos)
set_option maxRecDepth 10000
def missd (x:Nums):Bool:=eqM (pk x.2.2.2.2.2.2.1 3) 2
theorem m36_eq {x:Nums} (h:DNum x):m36 x=some (missd x):=by
 unfold m36
 rw [m37_eq h.m0 (by omega)]
 rfl
def gd (N:Int) (b:Int) (q:Clu):Prop:=vcl N q=true∧mid b q
theorem set_good {N:Int} {L:List Clu} (hL:∀ q∈L,gd N 0 q) {i:Nat} {c:Clu} (hc:gd N 30 c):∀ q∈L.set i c,gd N 30 q:=fun q hq=>by
 rcases List.mem_or_eq_of_mem_set hq with h | rfl
 ·obtain ⟨h1,h2⟩:=hL q h
  refine ⟨h1,?_⟩
  unfold mid at h2 ⊢
  exact ⟨fun e=>by have:=h2.1 e;omega,fun e=>by have:=h2.2.1 e;omega,fun e=>by have:=h2.2.2 e;omega⟩
 ·exact hc
theorem gd_up {N:Int} {q:Clu} (h:gd N 0 q):gd N 30 q:=by
 obtain ⟨h1,h2⟩:=h
 refine ⟨h1,?_⟩
 unfold mid at h2 ⊢
 exact ⟨fun e=>by have:=h2.1 e;omega,fun e=>by have:=h2.2.1 e;omega,fun e=>by have:=h2.2.2 e;omega⟩
theorem idx_set {L:List Clu} {i:Nat} (hi:i<L.length) (c:Clu):idxM (L.set i c) (i:Int)=some c:=by
 rw [idxM_lt (by rw [List.length_set];exact hi),List.getElem_set_self]
theorem set_is {L:List Clu} {i:Nat} (hi:i<L.length) {f:Clu→Option Clu} {c:Clu} (h:f L[i]=some c):setM L (i:Int) f=some (L.set i c):=by
 rw [setM_of (y:=c) (by omega) (by omega) (by exact h)]
 rfl
theorem set_again {L:List Clu} {i:Nat} (hi:i<L.length) {f:Clu→Option Clu} {b c:Clu} (h:f b=some c):setM (L.set i b) (i:Int) f=some (L.set i c):=by
 have hl:i<(L.set i b).length:=by rw [List.length_set];exact hi
 rw [set_is hl (c:=c) (by rw [List.getElem_set_self];exact h),List.set_set]
def off (y:List Int) (q:Clu):Prop :=
 (q.1=1→q.2.2.2.1≤y.getD q.2.1.toNat 0+30∧y.getD q.2.1.toNat 0<q.2.2.2.2+30)∧(q.1=2→q.2.2.2.1≤y.getD q.2.1.toNat 0+30)∧(q.1=3→y.getD q.2.1.toNat 0≤q.2.2.2.1+30) ∧
 (q.1=4→y.getD q.2.2.1.toNat 0=y.getD q.2.1.toNat 0)∧(q.1=5→q.2.2.2.1≤y.getD q.2.2.1.toNat 0-y.getD q.2.1.toNat 0+30∧y.getD q.2.2.1.toNat 0-y.getD q.2.1.toNat 0≤q.2.2.2.2+30)
theorem off_of {y:List Int} {q:Clu} (h:tru y q):off y q:=by
 unfold tru at h
 obtain ⟨t1,t2,t3,t4,t5⟩:=h
 exact ⟨fun k=>by have:=t1 k;omega,fun k=>by have:=t2 k;omega,fun k=>by have:=t3 k;omega,t4,fun k=>by have:=t5 k;omega⟩
theorem off1 {y:List Int} {q:Clu} (h:tru y q) (k:q.1=1) {r:Int} (h0:-30≤r) (h1:r≤30):off y (q.1,q.2.1,q.2.2.1,q.2.2.2.1+r,q.2.2.2.2+r):=by
 have:=h.1 k
 exact ⟨fun _=>by dsimp only;omega,fun h=>by dsimp only at h;omega,fun h=>by dsimp only at h;omega,fun h=>by dsimp only at h;omega,fun h=>by dsimp only at h;omega⟩
theorem off2 {y:List Int} {q:Clu} (h:tru y q) (k:q.1=2) {r:Int} (h1:r≤30):off y (q.1,q.2.1,q.2.2.1,q.2.2.2.1+r,q.2.2.2.2):=by
 have:=h.2.1 k
 exact ⟨fun h=>by dsimp only at h;omega,fun _=>by dsimp only;omega,fun h=>by dsimp only at h;omega,fun h=>by dsimp only at h;omega,fun h=>by dsimp only at h;omega⟩
theorem off3 {y:List Int} {q:Clu} (h:tru y q) (k:q.1=3) {r:Int} (h1:r≤30):off y (q.1,q.2.1,q.2.2.1,q.2.2.2.1-r,q.2.2.2.2):=by
 have:=h.2.2.1 k
 exact ⟨fun h=>by dsimp only at h;omega,fun h=>by dsimp only at h;omega,fun _=>by dsimp only;omega,fun h=>by dsimp only at h;omega,fun h=>by dsimp only at h;omega⟩
theorem off5 {y:List Int} {q:Clu} (h:tru y q) (k:q.1=5) {r:Int} (h0:-30≤r) (h1:r≤30):off y (q.1,q.2.1,q.2.2.1,q.2.2.2.1+r,q.2.2.2.2+r):=by
 have:=h.2.2.2.2 k
 exact ⟨fun h=>by dsimp only at h;omega,fun h=>by dsimp only at h;omega,fun h=>by dsimp only at h;omega,fun h=>by dsimp only at h;omega,fun _=>by dsimp only;omega⟩
def near (y:List Int) (L:List Clu):Prop:=∃ q0,(q0∈L→off y q0)∧∀ q∈L,q=q0∨tru y q
theorem near_of {y:List Int} {L:List Clu} (h:∀ q∈L,tru y q):near y L:=⟨(0,0,0,0,0),fun hq=>off_of (h _ hq),fun q hq=>.inr (h q hq)⟩
theorem near_set {y:List Int} {L:List Clu} (h:∀ q∈L,tru y q) (i:Nat) {c:Clu} (hc:off y c):near y (L.set i c):=⟨c,fun _=>hc,fun q hq=>by
 rcases List.mem_or_eq_of_mem_set hq with h1 | h1
 ·exact .inr (h q h1)
 ·exact .inl h1⟩
theorem m11_ok {x:Nums} (h:DNum x):∃ o y d,m35 x=some o∧m12 x=some y∧m11 x=some d∧d.1=o∧okO o=true∧o.2.length≤20∧Hid o y∧d.2.length≤10∧(∀ q∈d.2,gd o.1 30 q)∧(missd x=false→∀ q∈d.2,tru y q)∧near y d.2:=by
 obtain ⟨o,ho,hO,h20⟩:=m35_ok h
 obtain ⟨y,hy,hH⟩:=m12_ok h ho hO
 obtain ⟨h0,h8,h28,h3⟩:=okO_of hO
 have hyl:=hH.len
 have key:Ans (m11 x) fun d=>d.1=o∧d.2.length≤10∧(∀ q∈d.2,gd o.1 30 q)∧(missd x=false→∀ q∈d.2,tru y q)∧near y d.2:=by
  unfold m11
  refine Ans.seq (x:=o) ho ?_
  refine Ans.seq (x:=y) hy ?_
  refine Ans.bind (P:=fun (z:Int×List (Int×Int)×List Clu)=>(z.1,z.2.1)=o∧z.2.2.length≤10∧(∀ q∈z.2.2,gd o.1 0 q∧tru y q)) ?_ fun z hz=>?_
  ·refine Ans.loop (fun k s=>s.1=(k:Int)∧(s.2.1,s.2.2.1)=o∧s.2.2.2.length=k∧∀ q∈s.2.2.2,gd o.1 0 q∧tru y q) 10 ⟨rfl,rfl,rfl,fun q hq=>by cases hq⟩ fun k s hk hP=>?_
   obtain ⟨s1,s2,s3,L⟩:=s
   obtain ⟨q0,q1,q2,q3⟩:=hP
   dsimp only at q0 q1 q2 q3 ⊢
   subst q0
   by_cases hc:k<x.2.2.2.2.2.1.length∧k<10∧0<y.length
   ·obtain ⟨g1,g2,g3⟩:=hc
    rw [ltI (show (k:Int)<lenM x.2.2.2.2.2.1 by show (k:Int)<(x.2.2.2.2.2.1.length:Int);omega),ltI (show (k:Int)<10 by omega),ltI (show (0:Int)<lenM y by show (0:Int)<(y.length:Int);omega),andT,andT,cond_true,idxM_lt g1,Option.bind_some]
    obtain ⟨q,hq1,hq2,hq3,hq4⟩:=m22_ok (N:=o.1) h8 (y:=y) (by omega) (by omega) (fun a ha=>hH.rg a (by omega)) (h.cs _ (List.getElem_mem g1))
    refine Ans.seq (x:=q) hq1 ?_
    rw [appM_of (by show (L.length+1)*40≤_;omega),Option.bind_some,wrap_in (by omega) (by omega)]
    refine Ans.some ⟨g2,rfl,q1,by dsimp only;rw [List.length_append,q2];rfl,fun p hp=>?_⟩
    dsimp only at hp
    rw [List.mem_append,List.mem_singleton] at hp
    rcases hp with hp | rfl
    ·exact q3 p hp
    ·exact ⟨⟨hq2,hq4⟩,hq3⟩
   ·have e:PE.andM (PE.andM (ltM (k:Int) (lenM x.2.2.2.2.2.1)) (ltM (k:Int) (10:Int))) (ltM (0:Int) (lenM y))=false:=by
     show ((decide ((k:Int)<(x.2.2.2.2.2.1.length:Int))&&decide _)&&decide ((0:Int)<(y.length:Int)))=false
     rw [Bool.and_eq_false_iff,Bool.and_eq_false_iff,decide_eq_false_iff_not,decide_eq_false_iff_not,decide_eq_false_iff_not]
     omega
    rw [e,cond_false]
    exact Ans.some ⟨q1,by dsimp only;omega,q3⟩
  ·obtain ⟨z1,z2,L⟩:=z
   obtain ⟨e1,e2,e3⟩:=hz
   dsimp only at e1 e2 e3 ⊢
   refine Ans.bind (P:=fun (M:List Clu)=>M.length≤10∧(∀ q∈M,gd o.1 30 q)∧(missd x=false→∀ q∈M,tru y q)∧near y M) ?_ fun M hM=>Ans.some ⟨e1,hM.1,hM.2.1,hM.2.2⟩
   have same:Ans (some L) fun (M:List Clu)=>M.length≤10∧(∀ q∈M,gd o.1 30 q)∧(missd x=false→∀ q∈M,tru y q)∧near y M:=Ans.some ⟨e2,fun q hq=>gd_up (e3 q hq).1,fun _ q hq=>(e3 q hq).2,near_of fun q hq=>(e3 q hq).2⟩
   rw [show ((x.1,x.2.1,x.2.2.1,x.2.2.2.1,x.2.2.2.2.1,x.2.2.2.2.2.1,x.2.2.2.2.2.2.1,x.2.2.2.2.2.2.2.1,x.2.2.2.2.2.2.2.2):Nums)=x from rfl,m36_eq h,Option.bind_some]
   by_cases hm:missd x=true∧0<L.length
   ·obtain ⟨hm,hL⟩:=hm
    rw [hm,andT,ltI (show (0:Int)<lenM L by show (0:Int)<(L.length:Int);omega),cond_true]
    have hlen:lenM L=(L.length:Int):=rfl
    have i0:=pk_lo (c:=x.2.2.2.2.2.2.2.1) (n:=(L.length:Int)) (by omega)
    have i1:=pk_hi (c:=x.2.2.2.2.2.2.2.1) (n:=(L.length:Int)) (by omega)
    have b0:=pk_lo (c:=x.2.2.2.2.2.2.2.2) (n:=60) (by omega)
    have b1:=pk_hi (c:=x.2.2.2.2.2.2.2.2) (n:=60) (by omega)
    rw [hlen,m37_eq h.m1 (by omega),Option.bind_some,chkM_of i0 i1,Option.bind_some,m37_eq h.m2 (by omega),Option.bind_some]
    generalize pk x.2.2.2.2.2.2.2.1 (L.length:Int)=I at *
    generalize pk x.2.2.2.2.2.2.2.2 60=r at *
    obtain ⟨i,rfl⟩:=Int.eq_ofNat_of_zero_le i0
    have hi:i<L.length:=by omega
    have hg:=(e3 _ (List.getElem_mem hi)).1
    have T:=(e3 _ (List.getElem_mem hi)).2
    have hv:=vcl_of hg.1
    have hmid:=hg.2
    unfold mid at hmid
    rw [wrap_in (n:=r-30) (by omega) (by omega),idxM_lt hi,Option.bind_some,Option.bind_some]
    have fin:∀ c:Clu,gd o.1 30 c→off y c→Ans (some (L.set i c)) fun (M:List Clu)=>M.length≤10∧(∀ q∈M,gd o.1 30 q)∧(true=false→∀ q∈M,tru y q)∧near y M:=fun c hc ho=>Ans.some ⟨by rw [List.length_set];exact e2,set_good (fun q hq=>(e3 q hq).1) hc,(fun h=>by cases h),near_set (fun q hq=>(e3 q hq).2) i ho⟩
    rw [hm] at same
    generalize hc:L[i]=c at *
    obtain ⟨v1,v2,v3⟩:=hv
    by_cases k1:c.1=1
    ·have g:=hmid.1 k1
     rw [eqI k1,cond_true,Option.bind_some,Option.bind_some,wrap_in (n:=c.2.2.2.1+(r-30)) (by omega) (by omega),set_is hi (c:=(c.1,c.2.1,c.2.2.1,c.2.2.2.1+(r-30),c.2.2.2.2)) (by rw [hc]),Option.bind_some,idx_set hi,Option.bind_some,Option.bind_some,wrap_in (n:=c.2.2.2.2+(r-30)) (by omega) (by omega),set_again hi (f:=fun x=>some (x.1,x.2.1,x.2.2.1,x.2.2.2.1,c.2.2.2.2+(r-30))) (c:=(c.1,c.2.1,c.2.2.1,c.2.2.2.1+(r-30),c.2.2.2.2+(r-30))) rfl,Option.bind_some]
     refine fin _ ⟨decide_eq_true (by dsimp only;omega),?_⟩ (off1 T k1 (by omega) (by omega))
     unfold mid;dsimp only
     exact ⟨fun _=>by omega,fun h=>by omega,fun h=>by omega⟩
    ·rw [neI k1,cond_false]
     by_cases k2:c.1=2
     ·have g:=hmid.2.1 k2
      rw [eqI k2,cond_true,Option.bind_some,Option.bind_some,show PE.negM (r-30)=-(r-30) from rfl,wrap_in (n:=-(r-30)) (by omega) (by omega),wrap_in (n:=c.2.2.2.1+max (r-30) (-(r-30))) (by omega) (by omega),set_is hi (c:=(c.1,c.2.1,c.2.2.1,c.2.2.2.1+max (r-30) (-(r-30)),c.2.2.2.2)) (by rw [hc]),Option.bind_some]
      refine fin _ ⟨decide_eq_true (by dsimp only;omega),?_⟩ (off2 T k2 (by omega))
      unfold mid;dsimp only
      exact ⟨fun h=>by omega,fun _=>by omega,fun h=>by omega⟩
     ·rw [neI k2,cond_false]
      by_cases k3:c.1=3
      ·have g:=hmid.2.2 k3
       rw [eqI k3,cond_true,Option.bind_some,Option.bind_some,show PE.negM (r-30)=-(r-30) from rfl,wrap_in (n:=-(r-30)) (by omega) (by omega),wrap_in (n:=c.2.2.2.1-max (r-30) (-(r-30))) (by omega) (by omega),set_is hi (c:=(c.1,c.2.1,c.2.2.1,c.2.2.2.1-max (r-30) (-(r-30)),c.2.2.2.2)) (by rw [hc]),Option.bind_some]
       refine fin _ ⟨decide_eq_true (by dsimp only;omega),?_⟩ (off3 T k3 (by omega))
       unfold mid;dsimp only
       exact ⟨fun h=>by omega,fun h=>by omega,fun _=>by omega⟩
      ·rw [neI k3,cond_false]
       by_cases k5:c.1=5
       ·rw [eqI k5,cond_true,Option.bind_some,Option.bind_some,wrap_in (n:=c.2.2.2.1+(r-30)) (by omega) (by omega),m38_eq,Option.bind_some]
        by_cases f1:-200≤c.2.2.2.1+(r-30)∧c.2.2.2.1+(r-30)≤200
        ·rw [decide_eq_true f1,cond_true,Option.bind_some,Option.bind_some,cond_true,wrap_in (n:=c.2.2.2.2+(r-30)) (by omega) (by omega),m38_eq,Option.bind_some,andT]
         by_cases f2:-200≤c.2.2.2.2+(r-30)∧c.2.2.2.2+(r-30)≤200
         ·rw [decide_eq_true f2,cond_true,Option.bind_some,wrap_in (n:=c.2.2.2.1+(r-30)) (by omega) (by omega),set_is hi (c:=(c.1,c.2.1,c.2.2.1,c.2.2.2.1+(r-30),c.2.2.2.2)) (by rw [hc]),Option.bind_some,idx_set hi,Option.bind_some,Option.bind_some,wrap_in (n:=c.2.2.2.2+(r-30)) (by omega) (by omega),set_again hi (f:=fun x=>some (x.1,x.2.1,x.2.2.1,x.2.2.2.1,c.2.2.2.2+(r-30))) (c:=(c.1,c.2.1,c.2.2.1,c.2.2.2.1+(r-30),c.2.2.2.2+(r-30))) rfl,Option.bind_some]
          refine fin _ ⟨decide_eq_true (by dsimp only;omega),?_⟩ (off5 T k5 (by omega) (by omega))
          unfold mid;dsimp only
          exact ⟨fun h=>by omega,fun h=>by omega,fun h=>by omega⟩
         ·rw [decide_eq_false f2,cond_false]
          exact same
        ·rw [decide_eq_false f1,cond_false,Option.bind_some,cond_false,Option.bind_some,andF,cond_false]
         exact same
       ·rw [neI k5,cond_false]
        exact same
   ·have e:PE.andM (missd x) (ltM (0:Int) (lenM L))=false:=by
     show (missd x&&decide ((0:Int)<(L.length:Int)))=false
     rw [Bool.and_eq_false_iff,decide_eq_false_iff_not]
     rcases Classical.em (missd x=true) with hx | hx
     ·right;intro hx2;exact hm ⟨hx,by omega⟩
     ·left;simpa using hx
    rw [e,cond_false]
    exact same
 obtain ⟨d,hd,k1,k2,k3,k4⟩:=key
 exact ⟨o,y,d,ho,hy,hd,k1,hO,h20,hH,k2,k3,k4⟩
end Go.Proofs.YthfgccfaildmfaaGreatDoor
