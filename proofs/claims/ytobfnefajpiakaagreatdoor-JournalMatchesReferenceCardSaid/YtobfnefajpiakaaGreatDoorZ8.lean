/-
 Texts of this proof, put together: Dg, LawJournalMatchesReference.
 No conditions.
-/
import Derived.Test.YtobfnefajpiakaaGreatDoorZ7
set_option linter.all false
namespace Go.Proofs.YtobfnefajpiakaaGreatDoor
open Go Go.Lib Go.Abs Go.PE Go.Ar
variable [EA]
variable {o:Bool} {L:Int} {du vi:Bs} {pd:List (Int×Bs)} {n p:Nat} {br:Bool} {recs l:List Bs}
theorem rcut_u {c:Int} (h:0≤c):m66 (c,false,false,L,nB du,pd)=some (0,decide (c=0),c):=by
 unfold m66
 dsimp only [nonM,oB,cF]
 rw [geI h,cF]
 try rfl
theorem rcutoff_u {c:Int}:m66 (c,false,true,L,nB du,pd)=some (361,true,L):=by
 unfold m66
 dsimp only [nonM,oB,cT]
theorem pend_u:m32 (false,o,L,nB du,nB vi,pd)=some (lenM pd):=by
 unfold m32
 dsimp only [nonM,oB]
theorem has_ok {keep:List Int} (hk:keep.length≤1000) (i:Int):m93 (keep,i)=some (decide (i∈keep)):=by
 unfold m93
 dsimp only
 obtain ⟨o,h1,h2⟩:Ans (loopM (fun (s:Int)=>bif ltM s (lenM keep) then (idxM keep s).bind fun r=>bif eqM r i then some (Sum.inr (Sum.inr true)) else some (Sum.inl (IntKind.wrap .i64 (s+1))) else some (Sum.inr (Sum.inl ()))) 0) (fun (o:Unit⊕Bool)=>(o=.inl ()∧i∉keep)∨(o=.inr true∧i∈keep)):=by
  refine Ans.loop (fun k s=>s=(k:Int)∧k≤keep.length∧i∉keep.take k) keep.length ⟨rfl,by omega,by simp⟩ ?_
  rintro k s hk2 ⟨rfl,q1,q2⟩
  rw [lenI]
  by_cases hkl:k<keep.length
  ·rw [ltI (by omega),cT,idxM_lt hkl,oB]
   by_cases e:keep[k]=i
   ·rw [eqI e,cT]
    exact Ans.some (.inr ⟨rfl,by rw [← e];exact List.getElem_mem hkl⟩)
   ·rw [neI e,cF,wrap_in (by omega) (by omega)]
    refine Ans.some ⟨by omega,rfl,by omega,fun h=>?_⟩
    rw [List.take_succ_eq_append_getElem hkl] at h
    rcases List.mem_append.1 h with h | h
    ·exact q2 h
    ·simp only [List.mem_singleton] at h
     exact e h.symm
  ·rw [geI (by omega),cF]
   exact Ans.some (.inl ⟨rfl,by rwa [tkL (by omega)] at q2⟩)
 rw [h1,oB]
 rcases h2 with ⟨rfl,h2⟩ | ⟨rfl,h2⟩
 ·rw [dF h2];rfl
 ·rw [dT h2];rfl
theorem rcrash_ok {keep:List Int} {t:Int} (hk:keep.length≤1000) (hd1:du.length=n) (hn:n≤100000) (hp:PdIn n pd) (h1:pd.length≤1) (ht:-9223372036854775808≤t∧t≤9223372036854775807) :
  m67 (keep,t,false,o,L,nB du,pd)=some (false,0,nB (cr keep t du pd),[]):=by
 unfold m67
 dsimp only [nonM,oB]
 match pd,hp,h1 with
 | [],hp,_ =>
  refine bind_of (x:=([]:List (Int×Bs))) ?_ ?_
  ·refine loopM_at (fun k=>((k:Int),([]:List (Int×Bs)))) 0 rfl (fun k hk2=>absurd hk2 (by omega)) ?_
   rfl
  ·refine bind_of (x:=nB du) ?_ rfl
   refine loopM_at (fun k=>((k:Int),nB du)) 0 rfl (fun k hk2=>absurd hk2 (by omega)) ?_
   rfl
 | [(q,s)],hp,_ =>
  obtain ⟨h2,h3⟩:=hp.2 (q,s) (by simp)
  dsimp only at h2 h3
  have htl:=torn_len t s
  refine bind_of (x:=if (0:Int)∈keep then [(q,s)] else []) ?_ ?_
  ·refine loopM_at (fun k=>((k:Int),if k=0 then [] else if (0:Int)∈keep then [(q,s)] else [])) 1 rfl (fun k hk2=>?_) ?_
   ·obtain rfl:k=0:=by omega
    dsimp only
    rw [if_pos rfl,show ((0:Nat):Int)=0 from rfl,has_ok hk,oB]
    by_cases h0:(0:Int)∈keep
    ·rw [dT h0,if_pos h0];rfl
    ·rw [dF h0,if_neg h0];rfl
   ·rfl
  ·by_cases h0:(0:Int)∈keep
   ·have hcr:cr keep t du [(q,s)]=spl du q.toNat (torn t s):=by show (if _ then _ else _)=_;rw [if_pos h0]
    rw [if_pos h0,hcr]
    refine bind_of (x:=nB (spl du q.toNat (torn t s))) ?_ rfl
    refine loopM_at (fun k=>((k:Int),nB (if k=0 then du else spl du q.toNat (torn t s)))) 1 rfl (fun k hk2=>?_) ?_
    ·obtain rfl:k=0:=by omega
     dsimp only
     rw [if_pos rfl,show ((0:Nat):Int)=0 from rfl]
     have hidx:idxM [((q,s):Int×Bs)] 0=some (q,s):=rfl
     rw [show ltM 0 (lenM [((q,s):Int×Bs)])=true from rfl,cT,show chkM 0 (lenM [((q,s):Int×Bs)])=some () from rfl,oB,hidx,oB,oB]
     dsimp only
     have hs':(bif PE.andM (PE.andM (eqM 0 (IntKind.wrap .i64 (lenM [((q,s):Int×Bs)]-1))) (leM 0 t)) (ltM t (lenM s)) then (sliceM s 0 t).bind fun r=>some r else some s)=some (torn t s):=by
      rw [show eqM 0 (IntKind.wrap .i64 (lenM [((q,s):Int×Bs)]-1))=true from rfl,andT,lenI]
      unfold torn
      by_cases ht0:0≤t
      ·rw [leI ht0,andT,if_pos ht0]
       by_cases ht1:t<(s.length:Int)
       ·rw [ltI ht1,cT,sliceM_of (by omega) (by omega) (by omega),oB,show (0:Int).toNat=0 from rfl,List.drop_zero]
        congr 2;omega
       ·rw [geI (by omega),cF,tkL (by omega)]
      ·rw [gtI (by omega),andF,cF,if_neg ht0]
     rw [hs',oB,oB,oB,oB,apply_ok h2 (by omega) (by omega),oB]
     rfl
    ·rfl
   ·have hcr:cr keep t du [(q,s)]=du:=by show (if _ then _ else _)=_;rw [if_neg h0]
    rw [if_neg h0,hcr]
    refine bind_of (x:=nB du) ?_ rfl
    refine loopM_at (fun k=>((k:Int),nB du)) 0 rfl (fun k hk2=>absurd hk2 (by omega)) ?_
    rfl
 | _::_::_,_,h1=>exact absurd h1 (by simp)
abbrev S7:Type:=Bool×Int×List Int×List Int×Bool×Int×List (Int×Bs)×List Int×List (Int×Bs)×Bool×Bs×Int×Bool×Bool×Int×Bool×List Bs×List Bs
def W7 (n:Nat) (s:S7):Prop:=∃ o L du pd nil hh,∃ q:Nat,∃ br recs,s=(o,L,nB du,nB (app du pd),o,L,pd,nB du,pd,nil,hh,(q:Int),br,nil,(q:Int),br,recs,recs)∧du.length=n∧PdIn n pd∧pd.length≤1∧(o=false→pd=[])∧0≤L∧L≤1000∧(∀ w∈pd,w.1<(n:Int))∧((nil=false∧OkL recs∧hh=hd h0 recs∧q=(enc h0 recs).length∧q≤n)∨nil=true)
theorem app_nil {x:Int} {hh:Bs} {vi:Bs}:m10 (l,true,hh,x,br,recs,false,o,L,nB du,nB vi,pd)=some (1,true,hh,x,br,o,L,nB du,nB vi,recs,pd):=by
 unfold m10
 dsimp only [nonM,oB]
 rw [cT]
theorem w_open (h0n:0<n) (hd1:du.length=n) (hn:n≤100000) (hp:PdIn n pd) (h1:pd.length≤1) (hL:0≤L∧L≤1000) (hoff:o=false→pd=[]) (hw:∀ w∈pd,w.1<(n:Int)):∃ e o' L' du' pd' nil hh,∃ q:Nat,∃ recs,
  m25 (false,o,L,nB du,nB (app du pd),pd)=some (e,o',L',nB du',nB (app du' pd'),nil,hh,(q:Int),false,recs,pd') ∧
  m50 (false,o,L,nB du,pd)=some (e,o',L',nil,(q:Int),false,recs,nB du',pd')∧PE.andM true (eqbM (PE.notM (eqM e 0)) nil)=true ∧
  W7 n (o',L',nB du',nB (app du' pd'),o',L',pd',nB du',pd',nil,hh,(q:Int),false,nil,(q:Int),false,recs,recs):=by
 obtain ⟨e,o',L',du',pd',nil,hh,q,recs,c1,c2,c3,c4,c5,c6,c7,c8,c9,c10,c11⟩:=open_both (o:=o) (L:=L) (du:=du) (pd:=pd) (n:=n) h0n hd1 hn hp (by omega) hL
 refine ⟨e,o',L',du',pd',nil,hh,q,recs,c1,c2,?_,o',L',du',pd',nil,hh,q,false,recs,rfl,c4,c5,?_,?_,c6,c7,c11 hw,?_⟩
 ·rcases c3 with ⟨rfl,rfl,_⟩ | ⟨d0,rfl,_⟩
  ·rfl
  ·rw [neI d0];rfl
 ·rcases c8 with rfl | rfl | ⟨rfl,h⟩
  ·exact h1
  ·simp
  ·cases o with
   | true=>rw [(c9 rfl).2];exact h1
   | false=>rw [hoff rfl] at h;simp at h;omega
 ·intro ho
  rcases c8 with h | h | ⟨h,_⟩
  ·cases o with
   | true=>have:=(c9 rfl).1;rw [ho] at this;cases this
   | false=>rw [h];exact hoff rfl
  ·exact h
  ·rw [ho] at h;cases h
 ·rcases c3 with ⟨_,rfl,d1,d2,d3,d4⟩ | ⟨_,rfl,_⟩
  ·exact .inl ⟨rfl,d1,d2,d3,d4⟩
  ·exact .inr rfl
theorem law7_ok {c0:Int} {ops:List (Int×List Bs×Int×List Int)} (h1:InR (.int .i64) c0) (h2:InR (.list (.pair (.int .i64) (.pair (.list .str) (.pair (.int .i64) (.list (.int .i64)))))) ops):m7 (c0,ops)=some true:=by
 have hops:ops.length≤9223372036854775807:=Nat.le_trans h2.1 (by decide)
 have hel:∀ k (hk:k<ops.length),IntKind.i64.has ops[k].1∧(ops[k].2.1.length≤9223372036854775807∧∀ s∈ops[k].2.1,s.length≤9223372036854775807)∧IntKind.i64.has ops[k].2.2.1∧ops[k].2.2.2.length≤9223372036854775807:=fun k hk=>by
  obtain ⟨g1,g2,g3,g4⟩:=h2.2 k _ (gE hk)
  refine ⟨g1,⟨Nat.le_trans g2.1 (by decide),fun s hs=>?_⟩,g3,Nat.le_trans g4.1 (by decide)⟩
  obtain ⟨j,hj,rfl⟩:=List.mem_iff_getElem.1 hs
  exact Nat.le_trans (g2.2 j _ (gE hj)) (by decide)
 obtain ⟨n,hn1,hn2,hn⟩:=siz_ok h1
 have ok0:OkL ([]:List Bs):=fun r h=>by simp at h
 have e0:(enc h0 ([]:List Bs)).length=0:=rfl
 have hc0:(ct n ([]:List Bs)).length=n:=ct_len (by rw [e0];omega)
 have hp0:PdIn n []:=⟨by simp,fun w hw=>by simp at hw⟩
 unfold m7
 dsimp only
 rw [sane_ok,oB,hn,oB,new_u hn1 (by omega),oB,oB,rnew_ok hn1 (by omega),oB]
 dsimp only
 rw [open_u ok0 (by rw [e0];omega) (by omega) (by omega) (by omega),oB]
 dsimp only
 rw [ropen_u ok0 (by rw [e0];omega) (by omega) (by omega) (by omega),oB]
 dsimp only
 rw [eqI rfl,notT,show PE.notM (PE.andM true (eqbM false false))=false from rfl,cF]
 refine Ans.is ?_
 refine Ans.bind (P:=fun o=>∃ x,o=.inl x) ?_ ?_
 ·refine Ans.loop (fun k s=>k≤min ops.length 25∧∃ s',s=((k:Int),s')∧W7 n s') (min ops.length 25) ⟨by omega,_,rfl,false,0,ct n [],[],false,hd h0 [],(enc h0 ([]:List Bs)).length,false,[],rfl,hc0,hp0,by simp,fun _=>rfl,by omega,by omega,fun w hw=>by simp at hw,.inl ⟨rfl,ok0,rfl,rfl,by rw [e0];omega⟩⟩ ?_
  rintro k _ hk ⟨_,s,rfl,hI⟩
  dsimp only
  rw [lenI]
  by_cases hkl:k<min ops.length 25
  ·have hko:k<ops.length:=by omega
   obtain ⟨g1,g2,g3,g4⟩:=hel k hko
   rw [ltI (by omega),andT,ltI (by omega),cT,idxM_lt hko,oB]
   refine Ans.bind (P:=fun o=>∃ t,o=.inr t∧W7 n t) ?_ ?_
   ·refine Ans.bind (P:=fun ov=>∃ s',ov=(true,s')∧W7 n s') ?_ ?_
    ·obtain ⟨o,L,du,pd,nil,hh,q,br,recs,rfl,i1,i2,i3,i4,i5,i6,i7,i8⟩:=hI
     obtain ⟨c,hc,hp⟩:=pick_ok (n:=8) g1 (by omega)
     rw [show (8:Int)=((8:Nat):Int) from rfl,hp,oB]
     dsimp only
     by_cases c5:c=5
     ·subst c5
      obtain ⟨j,hj,hp5⟩:=pick_ok (n:=5) g3 (by omega)
      rw [show eqM ((5:Nat):Int) 5=true from rfl,cT,show (5:Int)=((5:Nat):Int) from rfl,hp5,oB,wrap_in (by omega) (by omega)]
      cases o with
      | true =>
       rw [cutoff_u,oB,oB,wrap_in (by omega) (by omega),rcutoff_u,oB]
       exact Ans.some ⟨_,rfl,true,L,du,pd,nil,hh,q,br,recs,rfl,i1,i2,i3,i4,i5,i6,i7,i8⟩
      | false =>
       rw [cut_u (by omega),oB,oB,wrap_in (by omega) (by omega),rcut_u (by omega),oB,dF (by omega)]
       exact Ans.some ⟨_,rfl,false,1+(j:Int),du,pd,nil,hh,q,br,recs,rfl,i1,i2,i3,i4,by omega,by omega,i7,i8⟩
     ·rw [neI (by omega),cF]
      by_cases c6:c=6
      ·subst c6
       obtain ⟨hk1,hk2⟩:=keep_ok g4
       have hpo:PdOk du.length pd:=⟨i3,fun q s h=>by
        have a1:=i2.2 (q,s) h
        have a2:=i7 (q,s) h
        dsimp only at a1 a2
        omega⟩
       have hvl:=app_len i2.2 i1
       have hcl:=cr_len (keep:=ops[k].2.2.2.take 20) (t:=ops[k].2.2.1) hpo
       rw [show eqM ((6:Nat):Int) 6=true from rfl,cT,hk1,oB,crash_u hk2 g3 hpo (by omega) (by omega),oB,rcrash_ok hk2 i1 (by omega) i2 i3 g3,oB]
       dsimp only
       obtain ⟨e,o',L',du',pd',nil',hh',q',recs',w1,w2,w3,w4⟩:=w_open (o:=false) (L:=0) (du:=cr (ops[k].2.2.2.take 20) ops[k].2.2.1 du pd) (pd:=[]) (n:=n) (by omega) (by omega) (by omega) hp0 (by simp) (by omega) (fun _=>rfl) (fun w hw=>by simp at hw)
       rw [show app (cr (ops[k].2.2.2.take 20) ops[k].2.2.1 du pd) []=cr (ops[k].2.2.2.take 20) ops[k].2.2.1 du pd from rfl] at w1
       rw [w1,oB,w2,oB]
       dsimp only
       rw [eqI rfl,w3]
       exact Ans.some ⟨_,rfl,w4⟩
      ·rw [neI (by omega),cF]
       by_cases c7:c=7
       ·subst c7
        obtain ⟨e,o',L',du',pd',nil',hh',q',recs',w1,w2,w3,w4⟩:=w_open (o:=o) (L:=L) (du:=du) (pd:=pd) (n:=n) (by omega) i1 (by omega) i2 i3 ⟨i5,i6⟩ i4 i7
        rw [show eqM ((7:Nat):Int) 7=true from rfl,cT,w1,oB,w2,oB]
        dsimp only
        rw [eqI rfl,w3]
        exact Ans.some ⟨_,rfl,w4⟩
       ·rw [neI (by omega),cF]
        obtain ⟨hfw,hfl⟩:=fw_ok ops[k].2.1
        rcases i8 with ⟨rfl,j1,rfl,j3,j4⟩ | rfl
        ·obtain ⟨e,o',L',du',pd',q',recs',br',a1,a2,a3,a4,a5,a6,a7,a8,a9,a10,a11,a12⟩:=app_both (o:=o) (L:=L) (du:=du) (pd:=pd) (n:=n) (p:=q) (br:=br) (recs:=recs) (l:=fw ops[k].2.1) hfw (by omega) j1 j3 j4 i1 (by omega) i2 (by omega) ⟨i5,i6⟩ i4 i3
         rw [cF,few_ok g2.1 g2.2,oB,a1,oB,oB,a2,oB]
         dsimp only
         rw [eqI rfl]
         exact Ans.some ⟨_,rfl,o',L',du',pd',false,_,q',br',recs',rfl,a6,a7,a11,a10,a8,a9,a12 i7,.inl ⟨rfl,a3,rfl,a4,a5⟩⟩
        ·rw [cT,few_ok g2.1 g2.2,oB,app_nil,oB]
         dsimp only
         rw [eqI rfl]
         exact Ans.some ⟨_,rfl,o,L,du,pd,true,hh,q,br,recs,rfl,i1,i2,i3,i4,i5,i6,i7,.inr rfl⟩
    ·rintro _ ⟨_,rfl,o,L,du,pd,nil,hh,q,br,recs,rfl,i1,i2,i3,i4,i5,i6,i7,i8⟩
     have hvl:=app_len i2.2 i1
     dsimp only
     rw [notT,notF,cT,pend_u,oB,eqI rfl,notT,orF,notF,cT]
     refine Ans.bind (P:=fun x=>x=.inr (o,L,nB du,nB (app du pd),o,L,pd,nB du,pd)) ?_ ?_
     ·cases o with
      | true=>exact Ans.some rfl
      | false =>
       rw [notF,cT,size_u i1,oB,read_u (by omega) i1 hvl (by omega),oB,oB,rvis_ok i1 (by omega) i2,oB]
       dsimp only
       rw [strB_nB,eqsT rfl,notT,andT,orF,cF]
       exact Ans.some rfl
     ·rintro _ rfl
      dsimp only [Sum.elim_inr]
      rcases i8 with ⟨rfl,j1,rfl,j3,j4⟩ | rfl
      ·have hle:=enc_le (h:=h0) recs
       rw [notF,cT,recs_u (by omega),oB]
       dsimp only [nonM,oB]
       rw [same_ok (by omega),oB,dT rfl,notT,notF,cT,room_u (by omega) (by omega),oB,rroom_ok (by omega) (by omega),oB]
       dsimp only
       rw [eqI rfl,notT,orF,andT,cF]
       exact Ans.some ⟨_,rfl,o,L,du,pd,false,_,q,br,recs,rfl,i1,i2,i3,i4,i5,i6,i7,.inl ⟨rfl,j1,rfl,j3,j4⟩⟩
      ·rw [notT,cF]
       exact Ans.some ⟨_,rfl,o,L,du,pd,true,hh,q,br,recs,rfl,i1,i2,i3,i4,i5,i6,i7,.inr rfl⟩
   ·rintro _ ⟨t,rfl,hI⟩
    dsimp only [Sum.elim_inr]
    rw [wrap_in (by omega) (by omega)]
    exact Ans.some ⟨by omega,by omega,_,rfl,hI⟩
  ·have hend:PE.andM (ltM (k:Int) (ops.length:Int)) (ltM (k:Int) 25)=false:=by
    unfold PE.andM ltM
    simp
    omega
   rw [hend,cF]
   exact Ans.some ⟨_,rfl⟩
 ·rintro _ ⟨x,rfl⟩
  exact Ans.some rfl
end Go.Proofs.YtobfnefajpiakaaGreatDoor
namespace Go.Proofs.YtobfnefajpiakaaGreatDoor
open Go Go.Abs Go.PE
theorem law7 [EA]:∀ (S:Cells) (w:World) (η:Eta) (vs:List Value) x,All2 (RM S w η) (rvs as7 x) vs→m7 x=some true :=
 law_of_ok fun x h=>law7_ok h.1 h.2
end Go.Proofs.YtobfnefajpiakaaGreatDoor
