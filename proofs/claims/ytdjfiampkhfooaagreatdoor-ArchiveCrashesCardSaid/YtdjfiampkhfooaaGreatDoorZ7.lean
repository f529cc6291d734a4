/-
 Texts of this proof, put together: Bg, Bh, Bi, Bj, Bk, Bl, Ah, Bm, Bn, Ai, Bo, Aj, Bp, Jj, Ja, Jb, Jc, Jd, Je, Jf, Jg, Jh, Ka, Kb, Kz, LawArchiveCrashes.
 No conditions.
-/
import Derived.Test.YtdjfiampkhfooaaGreatDoorZ6
import Derived.Test.YtdjfiampkhfooaaGreatDoorZ5
set_option linter.all false
namespace Go.Proofs.YtdjfiampkhfooaaGreatDoor
open Go Go.Lib Go.Abs Go.PE Go.Ar
variable [EA]
theorem eR (r:Rp):(r.1,r.2.1,r.2.2.1,r.2.2.2.1,r.2.2.2.2.1,r.2.2.2.2.2.1,r.2.2.2.2.2.2.1,r.2.2.2.2.2.2.2.1,r.2.2.2.2.2.2.2.2)=r:=rfl
theorem join_two (a b:Bs):Lib.join [a,b] []=a++b:=by rw [join_cons];simp [joinTail]
theorem pK {a b:Bs} (h:a.length+b.length≤800000):m102 (a,b)=some (pB a b):=by
 unfold m102 fH
 dsimp only
 rw [join_two,dT (by rw [lA];omega),dT (by simp)]
 dsimp only
 rw [oB,fC (by simp;omega),oB,wSum_ok (by simp;omega)]
 rfl
theorem wNode_ok {a b:Bs} (h:a.length+b.length≤800000):m115 (a,b)=some (node a b):=by
 unfold m115 fH
 dsimp only
 rw [join_two,dT (by rw [lA];omega),dT (by simp)]
 dsimp only
 rw [oB,fC (by simp;omega),oB,wSum_ok (by simp;omega)]
 rfl
theorem wLeaf_ok {a:Bs} (h:a.length≤800000):m22 a=some (leaf a):=by
 unfold m22 fH
 rw [join_one,dT (by omega),dT (by simp)]
 dsimp only
 rw [oB,fC (by simp;omega),oB,wSum_ok (by simp;omega)]
 rfl
theorem rChain_ok {a b:Bs} (h:a.length+b.length≤800000):m77 (a,b)=some (pB a b):=by
 unfold m77
 dsimp only
 rw [fC (by simp;omega),oB,fC (by simp;omega),oB,rSum_ok (by simp;omega)]
 rfl
theorem rNode_ok {a b:Bs} (h:a.length+b.length≤800000):m129 (a,b)=some (node a b):=by
 unfold m129
 dsimp only
 rw [fC (by simp;omega),oB,fC (by simp;omega),oB,rSum_ok (by simp;omega)]
 rfl
theorem rLeaf_ok {a:Bs} (h:a.length≤800000):m130 a=some (leaf a):=by
 unfold m130
 rw [fC (by simp;omega),oB,rSum_ok (by simp;omega)]
 rfl
theorem strB_zero (n:Nat):oC (List.replicate n 0)=List.replicate n 0:=by unfold oC;rw [List.map_replicate];rfl
theorem rHead_nil:m76 []=some h0:=by
 unfold m76
 rw [mkM_of (by omega) (by omega) (by decide),oB,show (32:Int).toNat=32 from rfl,strB_zero]
 refine eA (x:=h0) ?_ rfl
 rw [xF];rfl
theorem nG (x lo hi:Int):m97 (x,lo,hi)=some (decide (lo≤x∧x≤hi)):=by
 unfold m97 PE.andM leM
 dsimp only
 rw [Bool.decide_and]
theorem in_eq (x lo hi:Int):m128 (x,lo,hi)=some (decide (lo≤x∧x≤hi)):=by
 unfold m128 PE.andM leM
 dsimp only
 rw [Bool.decide_and]
theorem wOk_eq (r:Rp):m43 r=some (decide (OkR r)):=by
 obtain ⟨a1,a2,a3,a4,a5,a6,a7,a8,a9⟩:=r
 unfold m43 OkR
 dsimp only [Rp.sv,Rp.nu,Rp.da,Rp.ki,Rp.su,Rp.va,Rp.rf,Rp.pv,Rp.tg]
 rw [nG,oB]
 by_cases h1:0≤a1∧a1≤7
 ·rw [dT h1,sA,xA,cT,nG,oB]
  by_cases h2:0≤a2∧a2≤39
  ·rw [dT h2,sA,orF,xA,cT,nG,oB,orF]
   have e:IntKind.wrap .i64 (a2-1)=a2-1:=fA (by omega) (by omega)
   by_cases h3:0≤a3∧a3≤800000
   ·rw [dT h3,sA,orF,mA,mA]
    by_cases h4:a8.length=32
    ·rw [eqI (by omega),sA,orF]
     by_cases h5:a9.length=32
     ·rw [eqI (by omega),sA,cF]
      by_cases k1:a4=1
      ·rw [eqI k1,cT,nG,oB]
       by_cases s1:0≤a5∧a5≤99
       ·rw [dT s1,cT,nG,oB]
        congr 1
        unfold PE.andM eqM
        rw [Bool.true_and,← Bool.decide_and]
        congr 1
        refine propext ⟨fun h=>?_,fun h=>?_⟩<;>omega
       ·rw [dF s1,cF,oB]
        congr 1
        unfold PE.andM
        rw [Bool.false_and,Bool.false_and]
        exact (dF (by omega)).symm
      ·rw [neI k1,cF]
       by_cases k2:a4=2
       ·rw [eqI k2,cT]
        by_cases s1:a5=0∧a6=0
        ·rw [eqI s1.1,eqI s1.2,mG,cT,nG,oB,e,mG]
         congr 1
         congr 1
         refine propext ⟨fun h=>?_,fun h=>?_⟩<;>omega
        ·have:PE.andM (eqM a5 0) (eqM a6 0)=false:=by
          unfold PE.andM eqM;rw [← Bool.decide_and];exact dF s1
         rw [this,cF,oB,mK]
         congr 1
         exact (dF (by omega)).symm
       ·rw [neI k2,cF]
        congr 1
        exact (dF (by omega)).symm
     ·rw [neI (by omega),xA,cT]
      congr 1
      exact (dF (by omega)).symm
    ·rw [neI (by omega),xA,orT,cT]
     congr 1
     exact (dF (by omega)).symm
   ·rw [dF h3,xA,orT,orT,cT]
    congr 1
    exact (dF (by omega)).symm
  ·rw [dF h2,xA,orF,sA,cF,oB]
   unfold PE.orM
   simp only [Bool.true_or,Bool.false_or,Bool.or_true,cT]
   congr 1
   exact (dF (by omega)).symm
 ·rw [dF h1,xA,sA,cF,oB,orT,sA,cF,oB]
  simp only [orT,cT]
  congr 1
  exact (dF (by omega)).symm
theorem rOk_eq (r:Rp):m80 r=some (decide (OkR r)):=by
 obtain ⟨a1,a2,a3,a4,a5,a6,a7,a8,a9⟩:=r
 unfold m80 OkR
 dsimp only [Rp.sv,Rp.nu,Rp.da,Rp.ki,Rp.su,Rp.va,Rp.rf,Rp.pv,Rp.tg]
 rw [in_eq,oB]
 by_cases h1:0≤a1∧a1≤7
 ·rw [dT h1,sA,xA,cT,in_eq,oB]
  by_cases h2:0≤a2∧a2≤39
  ·rw [dT h2,sA,orF,xA,cT,in_eq,oB,orF]
   have e:IntKind.wrap .i64 (a2-1)=a2-1:=fA (by omega) (by omega)
   by_cases h3:0≤a3∧a3≤800000
   ·rw [dT h3,sA,orF,mA,mA]
    by_cases h4:a8.length=32
    ·rw [eqI (by omega),sA,orF]
     by_cases h5:a9.length=32
     ·rw [eqI (by omega),sA,cF]
      by_cases k1:a4=1
      ·rw [eqI k1,cT,in_eq,oB]
       by_cases s1:0≤a5∧a5≤99
       ·rw [dT s1,cT,in_eq,oB]
        congr 1
        unfold PE.andM eqM
        rw [Bool.true_and,← Bool.decide_and]
        congr 1
        refine propext ⟨fun h=>?_,fun h=>?_⟩<;>omega
       ·rw [dF s1,cF,oB]
        congr 1
        unfold PE.andM
        rw [Bool.false_and,Bool.false_and]
        exact (dF (by omega)).symm
      ·rw [neI k1,cF]
       by_cases s1:(a4=2∧a5=0)∧a6=0
       ·rw [eqI s1.1.1,eqI s1.1.2,eqI s1.2,mG,mG,cT,in_eq,oB,e,mG]
        congr 1
        congr 1
        refine propext ⟨fun h=>?_,fun h=>?_⟩<;>omega
       ·have:PE.andM (PE.andM (eqM a4 2) (eqM a5 0)) (eqM a6 0)=false:=by
         unfold PE.andM eqM;rw [← Bool.decide_and,← Bool.decide_and];exact dF s1
        rw [this,cF,oB,mK]
        congr 1
        exact (dF (by omega)).symm
     ·rw [neI (by omega),xA,cT]
      congr 1
      exact (dF (by omega)).symm
    ·rw [neI (by omega),xA,orT,cT]
     congr 1
     exact (dF (by omega)).symm
   ·rw [dF h3,xA,orT,orT,cT]
    congr 1
    exact (dF (by omega)).symm
  ·rw [dF h2,xA,orF,sA,cF,oB]
   unfold PE.orM
   simp only [Bool.true_or,Bool.false_or,Bool.or_true,cT]
   congr 1
   exact (dF (by omega)).symm
 ·rw [dF h1,xA,sA,cF,oB,orT,sA,cF,oB]
  simp only [orT,cT]
  congr 1
  exact (dF (by omega)).symm
theorem cH {r:Rp} (h:OkR r):(sg r).length≤65608∧(en r).length≤131153:=by
 have h1:=sg2_len r
 have h2:=en2_len r
 rw [sg2_ok h] at h1
 rw [pH h] at h2
 exact ⟨h1,h2⟩
theorem wTag_ok {key:Bs} {r:Rp} (hk:key.length≤1000) (h:OkR r):m64 (key,r)=some (tagR key r):=by
 unfold m64
 dsimp only
 have:=(cH h).1
 have h3:(leaf (sg r)).length=32:=iG _
 rw [eR,wSg_all,oB,sg2_ok h,wLeaf_ok (by omega),oB,wNode_ok (by omega),oB]
 rfl
theorem rTag_ok {key:Bs} {r:Rp} (hk:key.length≤1000) (h:OkR r):m81 (key,r)=some (tagR key r):=by
 unfold m81
 dsimp only
 have:=(cH h).1
 have h3:(leaf (sg r)).length=32:=iG _
 rw [eR,rSg_all,oB,sg2_ok h,rLeaf_ok (by omega),oB,rNode_ok (by omega),oB]
 rfl
theorem wGen_eq (key:Bs) (r:Rp):m27 (key,r)=some (decide (Gen key r)):=by
 unfold m27
 dsimp only
 rw [eR,mA]
 by_cases hk:key.length=32
 ·rw [eqI (by omega),cT,wOk_eq,oB,mG]
  by_cases h:OkR r
  ·rw [dT h,cT,wTag_ok (by omega) h,oB,mG]
   congr 1
   unfold kB Gen
   congr 1
   exact propext ⟨fun e=>⟨hk,h,e⟩,fun e=>e.2.2⟩
  ·rw [dF h,cF,oB,mK]
   congr 1
   exact (dF fun e=>h e.2.1).symm
 ·rw [neI (by omega),cF,oB,mK,cF,oB,mK]
  congr 1
  exact (dF fun e=>hk e.1).symm
theorem lt2_ok {a b:Rp} (ha:OkR a) (hb:OkR b):lt2 a b↔ltR a b=true:=by
 rw [ltR_iff,lt2,pH ha,pH hb]
theorem cf76_lt {a b:Rp} (ha:OkR a) (hb:OkR b):leM 0 (sH a b)=!(ltR a b):=by
 have h:=(cf76_neg (x:=a) (y:=b)).trans (lt2_ok ha hb)
 cases e:ltR a b
 ·rw [e] at h
  have:¬ sH a b<0:=fun q=>by simpa using h.1 q
  exact leI (by omega)
 ·exact gtI (h.2 e)
theorem rBef_eq (a b:Rp):m127 (a,b)=some (decide (lt2 a b)):=by
 obtain ⟨x1,x2,x3,x4,x5,x6,x7,x8,x9⟩:=a
 obtain ⟨y1,y2,y3,y4,y5,y6,y7,y8,y9⟩:=b
 unfold m127 lt2
 dsimp only [Rp.sv,Rp.nu]
 by_cases h1:x1=y1
 ·rw [eqI h1,sA,cF]
  by_cases h2:x2=y2
  ·rw [eqI h2,sA,cF,rEn_all,oB,rEn_all,oB,slt_eq]
   congr 1
   rw [Bool.eq_iff_iff,decide_eq_true_iff]
   constructor
   ·intro h;exact .inr ⟨h1,.inr ⟨h2,h⟩⟩
   ·rintro (h | ⟨_,h | ⟨_,h⟩⟩)
    ·omega
    ·omega
    ·exact h
  ·rw [neI h2,xA,cT]
   congr 1
   unfold ltM
   congr 1
   exact propext ⟨fun h=>.inr ⟨h1,.inl h⟩,fun h=>by
    rcases h with h | ⟨_,h | ⟨h,_⟩⟩
    ·omega
    ·exact h
    ·exact absurd h h2⟩
 ·rw [neI h1,xA,cT]
  congr 1
  unfold ltM
  congr 1
  exact propext ⟨fun h=>.inl h,fun h=>by
   rcases h with h | ⟨h,_⟩
   ·exact h
   ·exact absurd h h1⟩
variable [EA]
theorem up_of_adj {l:List Rp} (h:∀ i x y,l[i]? = some x→l[i+1]? = some y→ltR x y=true):Up l:=by
 rw [Up,List.pairwise_iff_getElem]
 intro i j hi hj hij
 obtain ⟨d,rfl⟩:∃ d,j=i+1+d:=⟨j-i-1,by omega⟩
 induction d with
 | zero=>exact h i _ _ (gE hi) (gE hj)
 | succ d ih =>
  have:=ih (by omega) (by omega)
  exact eF this (h (i+1+d) _ _ (gE (by omega)) (gE hj))
theorem adj_of_up {l:List Rp} (h:Up l) {i:Nat} {x y:Rp} (hx:l[i]? = some x) (hy:l[i+1]? = some y):ltR x y=true:=by
 rw [Up,List.pairwise_iff_getElem] at h
 have h1:=lC hx
 have h2:=lC hy
 have:=h i (i+1) h1 h2 (by omega)
 rw [gE h1] at hx
 rw [gE h2] at hy
 cases hx;cases hy;exact this
theorem bC {l:List Rp} (hl:l.length≤1000000):m28 l=some (decide (OkA l)):=by
 unfold m28
 have key:Ans (iA (fun (s:Int)=>bif ltM s (lenM l) then (gA l s).bind fun r=>(m43 (r.1,r.2.1,r.2.2.1,r.2.2.2.1,r.2.2.2.2.1,r.2.2.2.2.2.1,r.2.2.2.2.2.2.1,r.2.2.2.2.2.2.2.1,r.2.2.2.2.2.2.2.2)).bind fun r_1=>(bif PE.andM (PE.notM (PE.notM r_1)) (ltM 0 s) then gA l (IntKind.wrap .i64 (s-1)) else some (0,0,0,0,0,0,0,[],[])).bind fun r_2=>(bif PE.andM (PE.notM (PE.notM r_1)) (ltM 0 s) then m68 ((r_2.1,r_2.2.1,r_2.2.2.1,r_2.2.2.2.1,r_2.2.2.2.2.1,r_2.2.2.2.2.2.1,r_2.2.2.2.2.2.2.1,r_2.2.2.2.2.2.2.2.1,r_2.2.2.2.2.2.2.2.2),r.1,r.2.1,r.2.2.1,r.2.2.2.1,r.2.2.2.2.1,r.2.2.2.2.2.1,r.2.2.2.2.2.2.1,r.2.2.2.2.2.2.2.1,r.2.2.2.2.2.2.2.2) else some 0).bind fun r=>bif PE.orM (PE.notM r_1) (PE.andM (ltM 0 s) (leM 0 r)) then some (Sum.inr (Sum.inr false)) else some (Sum.inl (IntKind.wrap .i64 (s+1))) else some (Sum.inr (Sum.inl ()))) 0)
   (fun (o:Unit⊕Bool)=>(o=.inl ()∧(∀ r∈l,OkR r)∧Up l)∨(o=.inr false∧¬ ((∀ r∈l,OkR r)∧Up l))):=by
  refine Ans.loop (fun k s=>s=k∧k≤l.length∧(∀ i r,i<k→l[i]? = some r→OkR r)∧∀ i x y,i+1<k→l[i]? = some x→l[i+1]? = some y→ltR x y=true) l.length ⟨rfl,by omega,fun i r h=>by omega,fun i x y h=>by omega⟩ ?_
  rintro k s hk ⟨rfl,h2,h3,h4⟩
  rw [mA]
  by_cases hkl:k<l.length
  ·rw [ltI (by omega),cT,aB hkl,oB,eR,wOk_eq,oB]
   by_cases ho:OkR l[k]
   ·rw [dT ho,sA,xA,mG]
    by_cases h0:k=0
    ·subst h0
     rw [geI (by omega),cF,oB,cF,oB,mK,orF,cF,fA (by omega) (by omega)]
     refine Ans.some ⟨by omega,rfl,by omega,fun i r hi hr=>?_,fun i x y hi=>by omega⟩
     have:i=0:=by omega
     subst this
     rw [gE hkl] at hr
     cases hr;exact ho
    ·obtain ⟨j,rfl⟩:∃ j,k=j+1:=⟨k-1,by omega⟩
     have hj:l[j]? = some (l[j]'(by omega)):=gE (by omega)
     have hoj:OkR (l[j]'(by omega)):=h3 j _ (by omega) hj
     rw [ltI (a:=0) (by omega),cT,fA (n:=((j+1:Nat):Int)-1) (by omega) (by omega),show ((j+1:Nat):Int)-1=(j:Int) by omega,aB (by omega),oB,cT,eR,hm68,oB,mG,orF,cf76_lt hoj ho]
     cases e:ltR (l[j]'(by omega)) l[j+1]
     ·refine Ans.some (.inr ⟨rfl,fun h=>?_⟩)
      rw [adj_of_up h.2 hj (gE hkl)] at e
      cases e
     ·rw [show (!true)=false from rfl,cF,fA (by omega) (by omega)]
      refine Ans.some ⟨by omega,rfl,by omega,fun i r hi hr=>?_,fun i x y hi hx hy=>?_⟩
      ·by_cases q:i=j+1
       ·subst q;rw [gE hkl] at hr;cases hr;exact ho
       ·exact h3 i r (by omega) hr
      ·by_cases q:i=j
       ·subst q;rw [hj] at hx;rw [gE hkl] at hy;cases hx;cases hy;exact e
       ·exact h4 i x y (by omega) hx hy
   ·rw [dF ho,xA,sA]
    simp only [mK,orT,cT,cF,oB]
    exact Ans.some (.inr ⟨rfl,fun h=>ho (h.1 _ (List.getElem_mem hkl))⟩)
  ·rw [geI (by omega),cF]
   have e:k=l.length:=by omega
   refine Ans.some (.inl ⟨rfl,fun r hr=>?_,up_of_adj fun i x y hx hy=>h4 i x y (by have:=lC hy;omega) hx hy⟩)
   obtain ⟨i,hi,q⟩:=List.getElem_of_mem hr
   exact h3 i r (by omega) (by rw [gE hi,q])
 obtain ⟨o,h1,h2⟩:=key
 refine eA h1 ?_
 rcases h2 with ⟨rfl,h2,h3⟩ | ⟨rfl,h2⟩
 ·show some (leM (lenM l) 40)=_
  congr 1
  rw [mA]
  unfold leM
  congr 1
  exact propext ⟨fun h=>⟨h2,h3,by omega⟩,fun h=>by have:=h.2.2;omega⟩
 ·show some false=_
  congr 1
  exact (dF fun h=>h2 ⟨h.1,h.2.1⟩).symm
theorem rValid_eq {l:List Rp} (hl:l.length≤1000000):m79 l=some (decide (OkA l)):=by
 unfold m79
 rw [mA]
 by_cases h40:40<l.length
 ·rw [ltI (by omega),cT]
  congr 1
  exact (dF fun h=>by have:=h.2.2;omega).symm
 rw [geI (by omega),cF]
 have key:Ans (iA (fun (s:Int)=>bif ltM s (lenM l) then (gA l s).bind fun r=>(m80 (r.1,r.2.1,r.2.2.1,r.2.2.2.1,r.2.2.2.2.1,r.2.2.2.2.2.1,r.2.2.2.2.2.2.1,r.2.2.2.2.2.2.2.1,r.2.2.2.2.2.2.2.2)).bind fun r_1=>bif PE.notM r_1 then some (Sum.inr (Sum.inr false)) else (bif ltM 0 s then gA l (IntKind.wrap .i64 (s-1)) else some (0,0,0,0,0,0,0,[],[])).bind fun r_2=>(bif ltM 0 s then gA l s else some (0,0,0,0,0,0,0,[],[])).bind fun r_3=>(bif ltM 0 s then m127 ((r_2.1,r_2.2.1,r_2.2.2.1,r_2.2.2.2.1,r_2.2.2.2.2.1,r_2.2.2.2.2.2.1,r_2.2.2.2.2.2.2.1,r_2.2.2.2.2.2.2.2.1,r_2.2.2.2.2.2.2.2.2),r_3.1,r_3.2.1,r_3.2.2.1,r_3.2.2.2.1,r_3.2.2.2.2.1,r_3.2.2.2.2.2.1,r_3.2.2.2.2.2.2.1,r_3.2.2.2.2.2.2.2.1,r_3.2.2.2.2.2.2.2.2) else some false).bind fun r=>bif PE.andM (ltM 0 s) (PE.notM r) then some (Sum.inr (Sum.inr false)) else some (Sum.inl (IntKind.wrap .i64 (s+1))) else some (Sum.inr (Sum.inl ()))) 0)
   (fun (o:Unit⊕Bool)=>(o=.inl ()∧(∀ r∈l,OkR r)∧Up l)∨(o=.inr false∧¬ ((∀ r∈l,OkR r)∧Up l))):=by
  refine Ans.loop (fun k s=>s=k∧k≤l.length∧(∀ i r,i<k→l[i]? = some r→OkR r)∧∀ i x y,i+1<k→l[i]? = some x→l[i+1]? = some y→ltR x y=true) l.length ⟨rfl,by omega,fun i r h=>by omega,fun i x y h=>by omega⟩ ?_
  rintro k s hk ⟨rfl,h2,h3,h4⟩
  rw [mA]
  by_cases hkl:k<l.length
  ·rw [ltI (by omega),cT,aB hkl,oB,eR,rOk_eq,oB]
   by_cases ho:OkR l[k]
   ·rw [dT ho,sA,cF]
    by_cases h0:k=0
    ·subst h0
     rw [geI (by omega),cF,oB,cF,oB,cF,oB,mK,cF,fA (by omega) (by omega)]
     refine Ans.some ⟨by omega,rfl,by omega,fun i r hi hr=>?_,fun i x y hi=>by omega⟩
     have:i=0:=by omega
     subst this
     rw [gE hkl] at hr
     cases hr;exact ho
    ·obtain ⟨j,rfl⟩:∃ j,k=j+1:=⟨k-1,by omega⟩
     have hj:l[j]? = some (l[j]'(by omega)):=gE (by omega)
     have hoj:OkR (l[j]'(by omega)):=h3 j _ (by omega) hj
     rw [ltI (a:=0) (by omega),cT,fA (n:=((j+1:Nat):Int)-1) (by omega) (by omega),show ((j+1:Nat):Int)-1=(j:Int) by omega,aB (by omega),oB,cT,oB,cT,eR,eR,rBef_eq,oB,mG]
     have hlt:=lt2_ok hoj ho
     by_cases e:lt2 (l[j]'(by omega)) l[j+1]
     ·rw [dT e,sA,cF,fA (by omega) (by omega)]
      refine Ans.some ⟨by omega,rfl,by omega,fun i r hi hr=>?_,fun i x y hi hx hy=>?_⟩
      ·by_cases q:i=j+1
       ·subst q;rw [gE hkl] at hr;cases hr;exact ho
       ·exact h3 i r (by omega) hr
      ·by_cases q:i=j
       ·subst q;rw [hj] at hx;rw [gE hkl] at hy;cases hx;cases hy;exact hlt.1 e
       ·exact h4 i x y (by omega) hx hy
     ·rw [dF e,xA,cT]
      refine Ans.some (.inr ⟨rfl,fun h=>?_⟩)
      exact e (hlt.2 (adj_of_up h.2 hj (gE hkl)))
   ·rw [dF ho,xA,cT]
    exact Ans.some (.inr ⟨rfl,fun h=>ho (h.1 _ (List.getElem_mem hkl))⟩)
  ·rw [geI (by omega),cF]
   have e:k=l.length:=by omega
   refine Ans.some (.inl ⟨rfl,fun r hr=>?_,up_of_adj fun i x y hx hy=>h4 i x y (by have:=lC hy;omega) hx hy⟩)
   obtain ⟨i,hi,q⟩:=List.getElem_of_mem hr
   exact h3 i r (by omega) (by rw [gE hi,q])
 obtain ⟨o,h1,h2⟩:=key
 refine eA h1 ?_
 rcases h2 with ⟨rfl,h2,h3⟩ | ⟨rfl,h2⟩
 ·show some true=_
  congr 1
  exact (dT ⟨h2,h3,by omega⟩).symm
 ·show some false=_
  congr 1
  exact (dF fun h=>h2 ⟨h.1,h.2.1⟩).symm
theorem eqR_eq (a b:Rp):PE.andM (eqM a.1 b.1) (PE.andM (eqM a.2.1 b.2.1) (PE.andM (eqM a.2.2.1 b.2.2.1) (PE.andM (eqM a.2.2.2.1 b.2.2.2.1) (PE.andM (eqM a.2.2.2.2.1 b.2.2.2.2.1) (PE.andM (eqM a.2.2.2.2.2.1 b.2.2.2.2.2.1) (PE.andM (eqM a.2.2.2.2.2.2.1 b.2.2.2.2.2.2.1) (PE.andM (kB a.2.2.2.2.2.2.2.1 b.2.2.2.2.2.2.2.1) (kB a.2.2.2.2.2.2.2.2 b.2.2.2.2.2.2.2.2))))))))=decide (a=b):=by
 obtain ⟨x1,x2,x3,x4,x5,x6,x7,x8,x9⟩:=a
 obtain ⟨y1,y2,y3,y4,y5,y6,y7,y8,y9⟩:=b
 rw [Bool.eq_iff_iff,decide_eq_true_iff]
 unfold PE.andM eqM kB
 simp only [bA,decide_eq_true_eq,Prod.mk.injEq]
theorem rHas_eq {l:List Rp} (r:Rp) (hl:l.length≤1000000):m172 (l,r)=some (decide (r∈l)):=by
 unfold m172
 dsimp only
 have key:Ans (iA (fun (s:Int)=>bif ltM s (lenM l) then (gA l s).bind fun x=>bif decide (x=r) then some (Sum.inr (Sum.inr true)) else some (Sum.inl (IntKind.wrap .i64 (s+1))) else some (Sum.inr (Sum.inl ()))) 0)
   (fun (o:Unit⊕Bool)=>(o=.inl ()∧r∉l)∨(o=.inr true∧r∈l)):=by
  refine Ans.loop (fun k s=>s=k∧k≤l.length∧∀ i x,i<k→l[i]? = some x→x≠r) l.length ⟨rfl,by omega,fun i r h=>by omega⟩ ?_
  rintro k s hk ⟨rfl,h2,h3⟩
  rw [mA]
  by_cases hkl:k<l.length
  ·rw [ltI (by omega),cT,aB hkl,oB]
   by_cases e:l[k]=r
   ·rw [dT e,cT]
    exact Ans.some (.inr ⟨rfl,by rw [← e];exact List.getElem_mem hkl⟩)
   ·rw [dF e,cF,fA (by omega) (by omega)]
    refine Ans.some ⟨by omega,rfl,by omega,fun i x hi hx=>?_⟩
    by_cases q:i=k
    ·subst q;rw [gE hkl] at hx;cases hx;exact e
    ·exact h3 i x (by omega) hx
  ·rw [geI (by omega),cF]
   refine Ans.some (.inl ⟨rfl,fun h=>?_⟩)
   obtain ⟨i,hi,q⟩:=List.getElem_of_mem h
   exact h3 i r (by omega) (by rw [gE hi,q]) rfl
 obtain ⟨o,h1,h2⟩:=key
 simp only [eqR_eq]
 refine eA h1 ?_
 rcases h2 with ⟨rfl,h2⟩ | ⟨rfl,h2⟩
 ·show some false=_
  rw [dF h2]
 ·show some true=_
  rw [dT h2]
variable [EA]
theorem fG {l m:List Rp} (h:l.length+m.length≤1000000):eB (nat_lit 88) l m=some (l++m):=aC (by show _*88≤_;omega)
theorem _root_.Go.PE.Ans.bindEq {α β:Type} {o:Option α} {f:α→Option β} {r:Option β} {Q:α→Prop} (h:Ans o Q) (hf:∀ x,Q x→f x=r):Option.bind o f=r:=by
 obtain ⟨x,h1,h2⟩:=h
 rw [h1];exact hf x h2
theorem len_eq {α:Type} (l:List α) (n:Nat):eqM (lenM l) (n:Int)=decide (l.length=n):=by
 rw [mA];unfold eqM;congr 1;exact propext (by omega)
theorem filt {α:Type} (p:α→Bool) (xs:List α) {body:Int×List α→Option ((Int×List α)⊕List α)}
  (hb:∀ (k:Nat) (h:k<xs.length) (out:List α),out.length≤k→body ((k:Int),out)=some (.inl ((k:Int)+1,if p xs[k] then out++[xs[k]] else out)))
  (he:∀ out,body ((xs.length:Int),out)=some (.inr out)):iA body ((0:Int),[])=some (xs.filter p):=by
 refine vA (fun k=>((k:Int),(xs.take k).filter p)) xs.length rfl (fun k hk=>?_) ?_
 ·rw [hb k hk _ (Nat.le_trans (List.length_filter_le _ _) (by rw [lT];omega)),List.take_add_one,gE hk,Option.toList_some,List.filter_append]
  refine congrArg (fun z=>some (Sum.inl ((k:Int)+1,z))) ?_
  cases hp:p xs[k]<;>simp [hp]
 ·rw [he,List.take_length]
theorem putR_in {l:List Rp} {r:Rp} (h:Up l) (hr:r∈l):uJ r l=l:=Up.ext (putR_up r h) h fun x=>by
 rw [tJ]
 exact ⟨fun q=>q.elim (fun e=>by rw [e];exact hr) id,.inr⟩
theorem putR_at {l:List Rp} {r:Rp} (h:Up l) {k:Nat} (hk:k≤l.length) (h1:∀ i x,i<k→l[i]? = some x→ltR x r=true) (h2:∀ x,l[k]? = some x→ltR r x=true):uJ r l=l.take k++r::l.drop k:=by
 have hp:l.Pairwise fun a b=>ltR a b=true:=h
 rw [← List.take_append_drop k l,List.pairwise_append] at hp
 obtain ⟨p1,p2,p3⟩:=hp
 have hb:∀ x∈l.take k,ltR x r=true:=fun x hx=>by
  obtain ⟨i,hi,e⟩:=List.getElem_of_mem hx
  rw [lT] at hi
  exact h1 i x (by omega) (by rw [← e,List.getElem_take,gE (by omega)])
 have ha:∀ x∈l.drop k,ltR r x=true:=fun x hx=>by
  cases e:l.drop k with
  | nil=>rw [e] at hx;simp at hx
  | cons y t =>
   rw [e] at hx p2
   have hy:l[k]? = some y:=by
    have:=congrArg (fun z=>z[0]?) e
    simpa using this
   rcases List.mem_cons.1 hx with q | q
   ·rw [q];exact h2 y hy
   ·exact eF (h2 y hy) ((List.pairwise_cons.1 p2).1 x q)
 refine Up.ext (putR_up r h) ?_ fun x=>?_
 ·refine List.pairwise_append.2 ⟨p1,List.pairwise_cons.2 ⟨ha,p2⟩,fun x hx y hy=>?_⟩
  rcases List.mem_cons.1 hy with q | q
  ·rw [q];exact hb x hx
  ·exact p3 x hx y q
 ·rw [tJ,List.mem_append,List.mem_cons]
  conv=>lhs;rw [← List.take_append_drop k l,List.mem_append]
  constructor
  ·rintro (q | q | q)<;>simp [q]
  ·rintro (q | q | q)<;>simp [q]
theorem rPutR_ok {l:List Rp} {r:Rp} (h:Up l) (hl:∀ x∈l,OkR x) (hr:OkR r) (hn:l.length≤100000):m133 (l,r)=some (uJ r l):=by
 unfold m133
 dsimp only
 rw [eR,rHas_eq r (by omega),oB]
 by_cases hm:r∈l
 ·rw [dT hm,cT,putR_in h hm]
 rw [dF hm,cF]
 have key:Ans (iA (fun (s:Int)=>(bif ltM s (lenM l) then gA l s else some (0,0,0,0,0,0,0,[],[])).bind fun r_1=>(bif ltM s (lenM l) then m127 (r_1,r) else some false).bind fun r=>bif PE.andM (ltM s (lenM l)) r then some (Sum.inl (IntKind.wrap .i64 (s+1))) else some (Sum.inr s)) 0)
   (fun (o:Int)=>∃ k:Nat,o=k∧k≤l.length∧(∀ i x,i<k→l[i]? = some x→ltR x r=true)∧∀ x,l[k]? = some x→ltR r x=true):=by
  refine Ans.loop (fun k s=>s=k∧k≤l.length∧∀ i x,i<k→l[i]? = some x→ltR x r=true) l.length ⟨rfl,by omega,fun i x h=>by omega⟩ ?_
  rintro k s hk ⟨rfl,h2,h3⟩
  rw [mA]
  by_cases hkl:k<l.length
  ·have ho:=hl _ (List.getElem_mem hkl)
   have hlt:=lt2_ok ho hr
   rw [ltI (by omega),cT,aB hkl,oB,cT,rBef_eq,oB,mG]
   by_cases e:lt2 l[k] r
   ·rw [dT e,cT,fA (by omega) (by omega)]
    refine Ans.some ⟨by omega,rfl,by omega,fun i x hi hx=>?_⟩
    by_cases q:i=k
    ·subst q;rw [gE hkl] at hx;cases hx;exact hlt.1 e
    ·exact h3 i x (by omega) hx
   ·rw [dF e,cF]
    refine Ans.some ⟨k,rfl,by omega,h3,fun x hx=>?_⟩
    rw [gE hkl] at hx
    cases hx
    rcases ltR_tri r l[k] with q | q | q
    ·exact q
    ·exact absurd (by rw [q];exact List.getElem_mem hkl) hm
    ·exact absurd (hlt.2 q) e
  ·rw [geI (by omega),cF,oB,cF,oB,mK,cF]
   exact Ans.some ⟨k,rfl,by omega,h3,fun x hx=>by have:=lC hx;omega⟩
 obtain ⟨o,h1,k,rfl,h2,h3,h4⟩:=key
 refine eA h1 ?_
 rw [sameM_self,oB,fB (by omega) (by omega) (by omega),oB,mA,fB (by omega) (by omega) (by omega),oB,fG (by simp;omega),oB,fG (by simp;omega),putR_at h h2 h3 h4,oB]
 simp
theorem putA_ok {m l:List Rp} (hm:∀ x∈m,OkR x) (hl:∀ x∈l,OkR x):∀ x∈putA l m,OkR x:=fun x hx=>by
 rcases (putA_mem m l x).1 hx with q | q
 ·exact hl x q
 ·exact hm x q
theorem putA_len:∀ (m l:List Rp),(putA l m).length≤l.length+m.length
 | [],l=>nR _
 | r::m,l=>by
  have:=putA_len m (uJ r l)
  have:=putR_len r l
  show (putA (uJ r l) m).length≤_
  rw [List.length_cons];omega
theorem putA_take {m l:List Rp} {k:Nat} (h:k<m.length):putA l (m.take (k+1))=uJ m[k] (putA l (m.take k)):=by
 unfold putA
 rw [List.take_add_one,gE h,Option.toList_some,List.foldl_append];rfl
theorem arch_app {a b:List Rp} (ha:Up a):mB (a++b)=putA a b:=by
 refine (qK (putA_up b ha) fun x=>?_).symm
 rw [putA_mem,List.mem_append]
theorem rMerge_eq {a b:List Rp} (ha:a.length≤1000000) (hb:b.length≤1000000):m83 (a,b)=some (mrg a b):=by
 unfold m83 mrg
 dsimp only
 rw [rValid_eq ha,oB]
 by_cases h1:OkA a
 ·rw [dT h1,sA,xA,cT,rValid_eq hb,oB,orF]
  by_cases h2:OkA b
  ·obtain ⟨a1,a2,a3⟩:=h1
   obtain ⟨b1,b2,b3⟩:=h2
   rw [dT ⟨b1,b2,b3⟩,sA,cF,if_pos ⟨⟨a1,a2,a3⟩,b1,b2,b3⟩,fG (by simp;omega),oB,List.nil_append]
   refine eA (x:=putA a b) (vA (fun k=>(putA a (b.take k),(k:Int))) b.length rfl (fun k hk=>?_) ?_) ?_
   ·have hlen:=putA_len (b.take k) a
    rw [lT] at hlen
    dsimp only
    rw [mA,ltI (by omega),cT,aB hk,oB,eR,rPutR_ok (putA_up _ a2) (putA_ok (fun x hx=>b1 x (List.mem_of_mem_take hx)) a1) (b1 _ (List.getElem_mem hk)) (by omega),oB,fA (by omega) (by omega),putA_take hk]
    rfl
   ·dsimp only
    rw [mA,geI (by omega),cF,List.take_length]
   ·rw [arch_app a2]
    unfold mk40
    rw [mA]
    by_cases h:(putA a b).length≤40
    ·rw [geI (by omega),cF,if_pos h]
    ·rw [ltI (by omega),cT,if_neg h]
  ·rw [dF h2,xA,cT,if_neg fun h=>h2 h.2]
 ·rw [dF h1,xA,sA,cF,oB,orT,cT,if_neg fun h=>h1 h.1]
theorem rAdd_eq {a:List Rp} {r:Rp} (ha:a.length≤1000000):m34 (a,r)=some (addR a r):=by
 unfold m34
 dsimp only
 rw [eR,rMerge_eq ha (by simp),oB]
 show some (mrg a [r])=_
 unfold mrg addR
 congr 1
 by_cases h:OkA a∧OkR r
 ·rw [if_pos h,if_pos ⟨h.1,fun x hx=>by rw [List.mem_singleton.1 hx];exact h.2,List.pairwise_singleton _ _,by simp⟩]
 ·rw [if_neg h,if_neg fun q=>h ⟨q.1,q.2.1 r (by simp)⟩]
theorem rBel_ok {a:List Rp} {s:Int} (h:OkA a):m29 (a,s)=some (bel a s,hd (bel a s)):=by
 obtain ⟨a1,a2,a3⟩:=h
 unfold m29
 dsimp only
 rw [rHead_nil,oB]
 have hin:∀ out:List Rp,out.length≤1000→iA (fun (s_1:Int×List Rp)=>bif ltM s_1.1 (lenM a) then ((gA a s_1.1).bind fun r_1=>(bif eqM r_1.1 s then gA a s_1.1 else some (0,0,0,0,0,0,0,[],[])).bind fun r_2=>bif PE.andM (eqM r_1.1 s) (eqM r_2.2.1 (lenM out)) then (gA a s_1.1).bind fun r_3=>(eB (nat_lit 88) s_1.2 [(r_3.1,r_3.2.1,r_3.2.2.1,r_3.2.2.2.1,r_3.2.2.2.2.1,r_3.2.2.2.2.2.1,r_3.2.2.2.2.2.2.1,r_3.2.2.2.2.2.2.2.1,r_3.2.2.2.2.2.2.2.2)]).bind fun r=>some r else some s_1.2).bind fun o=>some (Sum.inl (IntKind.wrap .i64 (s_1.1+1),o)) else some (Sum.inr s_1.2)) ((0:Int),[])=some (atN a s out.length):=fun out ho=>by
  refine filt (fun r=>decide (r.sv=s)&&decide (r.nu=(out.length:Int))) a (fun k hk o2 h2=>?_) (fun o2=>?_)
  ·dsimp only
   rw [mA,ltI (by omega),cT,aB hk,oB,fA (by omega) (by omega)]
   by_cases e1:a[k].1=s
   ·rw [eqI e1,cT,oB,mG]
    by_cases e2:a[k].2.1=(out.length:Int)
    ·rw [eqI (by rw [mA];exact e2),cT,oB,eR,fG (by simp;omega),oB,oB,if_pos (by simp [e1,e2])]
    ·rw [neI (by rw [mA];exact e2),cF,oB,if_neg (by simp [e2])]
   ·rw [neI e1,cF,oB,mK,cF,oB,if_neg (by simp [e1])]
  ·dsimp only
   rw [mA,geI (by omega),cF]
 refine Ans.bindEq (Q:=fun o=>IsBel a s o.2∧o.1=hd o.2) ?_ fun o h=>by rw [h.2,h.1.eq]
 refine Ans.loop (fun k s'=>Pbel a s s'.2∧s'.2.length=k∧s'.1=hd s'.2) a.length ⟨Pbel.nil a s,rfl,rfl⟩ ?_
 rintro k ⟨hh,acc⟩ hk ⟨h1,h2,h3⟩
 dsimp only at h1 h2 h3 ⊢
 refine Ans.seq (hin acc (by omega)) ?_
 by_cases hlen:(atN a s acc.length).length=1
 ·obtain ⟨r,hr⟩:=List.length_eq_one_iff.1 hlen
  rw [hr,show lenM [r]=1 from rfl,eqI rfl,sA,xA,cT,bB (by omega) (by omega),oB,cT,show gA [r] 0=some r from rfl,oB,oB,orF]
  have hm:=atN_mem.1 (show r∈atN a s acc.length by rw [hr];simp)
  have hok:=a1 r hm.1
  by_cases e:r.pv=hd acc
  ·rw [eqsT (by rw [h3];exact e),sA,cF,oB,oB,fG (by simp;omega),oB,oB,oB,rEn_all,oB,pH hok,h3,rChain_ok (by have:=cH hok;have:=hd_len acc;omega),oB]
   have hs:=h1.snoc hr e
   have hl:=hs.len
   simp only [lA,List.length_singleton] at hl
   exact Ans.some ⟨by omega,hs,by simp [h2],by dsimp only;rw [hd_snoc]⟩
  ·rw [eqsF (by rw [h3];exact e),xA,cT]
   exact Ans.some ⟨⟨h1,fun x hx=>by rw [hr] at hx;cases hx;exact e⟩,h3⟩
 ·rw [show (1:Int)=((1:Nat):Int) from rfl,len_eq,dF hlen,xA,sA,cF,oB,cF,oB,orT,cT]
  exact Ans.some ⟨⟨h1,fun x hx=>by rw [hx] at hlen;exact absurd rfl hlen⟩,h3⟩
variable [EA]
theorem rpt0:rptM [(0:UInt8)] 32=some h0:=rfl
theorem own_filter {a:List Rp} {s:Int} {n:Nat}:atN a s n=(a.filter fun r=>decide (r.sv=s)).filter fun r=>decide (r.nu=(n:Int)):=by
 unfold atN
 rw [List.filter_filter]
 congr 1
 funext r
 rw [Bool.and_comm]
theorem wBel_ok {a:List Rp} {s:Int} (h:OkA a):m63 (a,s)=some (bel a s,hd (bel a s)):=by
 obtain ⟨a1,a2,a3⟩:=h
 unfold m63
 dsimp only
 refine eA (x:=a.filter fun r=>decide (r.sv=s)) (filt (fun r:Rp=>decide (r.sv=s)) a (fun k hk o2 h2=>?_) (fun o2=>?_)) ?_
 ·dsimp only
  rw [mA,ltI (by omega),cT,aB hk,oB,fA (by omega) (by omega)]
  by_cases e1:a[k].1=s
  ·rw [eqI e1,cT,eR,fG (by simp;omega),oB,oB,if_pos (by simp [e1])]
  ·rw [neI e1,cF,oB,if_neg (by simp [e1])]
 ·dsimp only
  rw [mA,geI (by omega),cF]
 refine eA rpt0 ?_
 have hat:∀ n,atN a s n=(a.filter fun r=>decide (r.sv=s)).filter fun r=>decide (r.nu=(n:Int)):=fun n=>own_filter
 have hup:Up (a.filter fun r=>decide (r.sv=s)):=List.Pairwise.filter _ a2
 have hsv:∀ x∈a.filter (fun r=>decide (r.sv=s)),x.sv=s∧OkR x:=fun x hx=>by
  rw [List.mem_filter] at hx;exact ⟨by simpa using hx.2,a1 x hx.1⟩
 have hlen:(a.filter fun r=>decide (r.sv=s)).length≤40:=Nat.le_trans (List.length_filter_le _ _) a3
 generalize a.filter (fun r=>decide (r.sv=s))=o at *
 have mono:∀ (pre:List Rp) (x:Rp) (t:List Rp),o=pre++x::t→∀ y∈t,x.nu≤y.nu:=fun pre x t e y hy=>by
  have hp:(pre++x::t).Pairwise fun a b=>ltR a b=true:=e▸hup
  have:=(List.pairwise_cons.1 (List.pairwise_append.1 hp).2.1).1 y hy
  rw [ltR_iff] at this
  have q1:=(hsv x (by rw [e];simp)).1
  have q2:=(hsv y (by rw [e];simp [hy])).1
  omega
 refine Ans.bindEq (Q:=fun z=>∃ k:Nat,z.2=k∧k≤o.length∧IsBel a s (o.take k)∧z.1=hd (o.take k)) ?_ fun z hz=>?_
 ·refine Ans.loop (fun k z=>∃ acc rest,o=acc++rest∧acc.length=k∧Pbel a s acc∧(∀ x∈acc,x.nu<(k:Int))∧(∀ x∈rest,(k:Int)≤x.nu)∧z=(hd acc,(k:Int))) o.length ⟨[],o,rfl,rfl,Pbel.nil a s,fun x hx=>by simp at hx,fun x hx=>(hsv x hx).2.2.2.1,rfl⟩ ?_
  rintro k z hk ⟨acc,rest,e,hk1,h1,h2,h3,rfl⟩
  dsimp only
  have hak:atN a s k=rest.filter fun r=>decide (r.nu=(k:Int)):=by
   rw [hat k,e,List.filter_append,List.filter_eq_nil_iff.2 fun x hx=>?_,List.nil_append]
   have:=h2 x hx
   simp;omega
  have htk:o.take k=acc:=by rw [e,← hk1,List.take_left]
  match rest,e,h3,hak with
  | [],e,h3,hak =>
   have hl:o.length=k:=by rw [e,← hk1];simp
   rw [mA,geI (by omega)]
   simp only [cF,oB,mK]
   refine Ans.some ⟨k,rfl,by omega,⟨by rw [htk];exact h1,fun r hr=>?_⟩,by rw [htk]⟩
   rw [htk,hk1,hak] at hr;simp at hr
  | x::t,e,h3,hak =>
   have hl:k<o.length:=by rw [e,← hk1];simp
   have hx:o[k]? = some x:=by rw [e,← hk1];simp
   have hix:gA o (k:Int)=some x:=by rw [eC,hx]
   have hck:oA (k:Int) (lenM o)=some ():=bB (by omega) (by rw [mA];omega)
   have hxo:=hsv x (by rw [e];simp)
   have hmt:=mono acc x t e
   rw [hck,hix,ltI (a:=(k:Int)) (by rw [mA];omega)]
   simp only [cT,oB,mG]
   by_cases c1:x.nu=(k:Int)
   ·rw [eqI (show x.2.1=(k:Int) from c1)]
    simp only [cT,oB,mG]
    have hfx:(x::t).filter (fun r=>decide (r.nu=(k:Int)))=x::t.filter (fun r=>decide (r.nu=(k:Int))):=List.filter_cons_of_pos (by simpa using c1)
    by_cases c2:x.pv=hd acc
    ·rw [eqsT (show x.2.2.2.2.2.2.2.1=hd acc from c2)]
     simp only [cT]
     rw [fA (n:=(k:Int)+1) (by omega) (by omega)]
     match t,e,hmt,hfx,hak with
     | [],e,hmt,hfx,hak =>
      have hl2:o.length=k+1:=by rw [e,← hk1];simp
      rw [mA,geI (a:=(k:Int)+1) (by omega)]
      simp only [cF,oB,mK]
      rw [eR,oK,oB,pH hxo.2,pK (by have:=(cH hxo.2).2;have:=hd_len acc;omega),oB]
      refine Ans.some ⟨by omega,acc++[x],[],by rw [e];simp,by simp [hk1],h1.snoc (by rw [hk1,hak,hfx];rfl) c2,fun y hy=>?_,fun y hy=>by simp at hy,by rw [hd_snoc];rfl⟩
      rcases List.mem_append.1 hy with q | q
      ·have:=h2 y q;omega
      ·rw [List.mem_singleton.1 q];omega
     | y::u,e,hmt,hfx,hak =>
      have hl2:k+1<o.length:=by rw [e,← hk1];simp
      have hy:o[k+1]? = some y:=by rw [e,← hk1];simp
      have hy2:gA o ((k:Int)+1)=some y:=by
       have:=eC o (k+1)
       rw [hy] at this;exact this
      rw [ltI (a:=(k:Int)+1) (by rw [mA];omega)]
      simp only [cT]
      rw [bB (by omega) (by rw [mA];omega),oB,hy2,oB,oB,mG]
      by_cases c3:y.nu=(k:Int)
      ·rw [eqI (show y.2.1=(k:Int) from c3),cT]
       refine Ans.some ⟨k,rfl,by omega,⟨by rw [htk];exact h1,fun r hr=>?_⟩,by rw [htk]⟩
       rw [htk,hk1,hak,hfx,List.filter_cons_of_pos (by simpa using c3)] at hr
       simp at hr
      ·rw [neI (show y.2.1≠(k:Int) from c3),cF]
       have hmy:=mono (acc++[x]) y u (by rw [e];simp)
       have hy3:(k:Int)≤y.nu:=h3 y (by simp)
       have hge:∀ z∈y::u,((k+1:Nat):Int)≤z.nu:=fun z hz=>by
        rcases List.mem_cons.1 hz with q | q
        ·rw [q];omega
        ·have:=hmy z q;omega
       have hnil:(y::u).filter (fun r=>decide (r.nu=(k:Int)))=[]:=List.filter_eq_nil_iff.2 fun z hz=>by
        have:=hge z hz
        simp;omega
       rw [eR,oK,oB,pH hxo.2,pK (by have:=(cH hxo.2).2;have:=hd_len acc;omega),oB]
       refine Ans.some ⟨by omega,acc++[x],y::u,by rw [e];simp,by simp [hk1],h1.snoc (by rw [hk1,hak,hfx,hnil]) c2,fun z hz=>?_,hge,by rw [hd_snoc];rfl⟩
       rcases List.mem_append.1 hz with q | q
       ·have:=h2 z q;omega
       ·rw [List.mem_singleton.1 q];omega
    ·rw [eqsF (show x.2.2.2.2.2.2.2.1≠hd acc from c2),cF]
     refine Ans.some ⟨k,rfl,by omega,⟨by rw [htk];exact h1,fun r hr=>?_⟩,by rw [htk]⟩
     rw [htk]
     rw [htk,hk1,hak,hfx] at hr
     simp only [List.cons.injEq] at hr
     rw [← hr.1];exact c2
   ·rw [neI (show x.2.1≠(k:Int) from c1)]
    simp only [cF,oB,mK]
    refine Ans.some ⟨k,rfl,by omega,⟨by rw [htk];exact h1,fun r hr=>?_⟩,by rw [htk]⟩
    have h4:(k:Int)≤x.nu:=h3 x (by simp)
    have:(x::t).filter (fun r=>decide (r.nu=(k:Int)))=[]:=List.filter_eq_nil_iff.2 fun z hz=>by
     rcases List.mem_cons.1 hz with q | q
     ·rw [q];simpa using c1
     ·have:=hmt z q;simp;omega
    rw [htk,hk1,hak,this] at hr
    simp at hr
 ·obtain ⟨k,hk,hk2,hb,hh⟩:=hz
  rw [hk,hh,fB (by omega) (by omega) (by omega),oB,hb.eq]
  simp
theorem rWrite_eq {key:Bs} {a:List Rp} {r:Rp} (ha:a.length≤1000000):m31 (key,a,r)=some (wrR key a r):=by
 unfold m31 wrR
 dsimp only
 rw [mA]
 by_cases hk:key.length=32
 ·rw [eqI (by omega),sA,xA,cT,rValid_eq ha,oB,orF]
  by_cases h1:OkA a
  ·rw [dT h1,sA,cF,if_pos ⟨hk,h1⟩,rBel_ok h1,oB]
   dsimp only
   have e:((r.1,lenM (bel a r.1),r.2.2.1,r.2.2.2.1,r.2.2.2.2.1,r.2.2.2.2.2.1,r.2.2.2.2.2.2.1,hd (bel a r.1),hd (bel a r.1)):Rp)=fix3 r (bel a r.sv).length (hd (bel a r.sv)) (hd (bel a r.sv)):=rfl
   rw [e,rOk_eq,oB]
   by_cases h2:OkR (fix3 r (bel a r.sv).length (hd (bel a r.sv)) (hd (bel a r.sv)))
   ·rw [dT h2,sA,cF,rTag_ok (by omega) h2,oB,if_pos h2]
    rfl
   ·rw [dF h2,xA,cT,if_neg h2];rfl
  ·rw [dF h1,xA,cT,if_neg fun h=>h1 h.2];rfl
 ·rw [neI (by omega),xA,sA,cF,oB,orT,cT,if_neg fun h=>hk h.1];rfl
theorem wWrite_eq {key:Bs} {a:List Rp} {r:Rp} (ha:a.length≤1000000):m19 (key,a,r)=some (wrR key a r):=by
 unfold m19 wrR
 dsimp only
 rw [mA]
 by_cases hk:key.length=32
 ·rw [eqI (by omega),sA,xA,cT,bC ha,oB,orF]
  by_cases h1:OkA a
  ·rw [dT h1,sA,cF,if_pos ⟨hk,h1⟩,wBel_ok h1,oB]
   dsimp only
   have e:((r.1,lenM (bel a r.1),r.2.2.1,r.2.2.2.1,r.2.2.2.2.1,r.2.2.2.2.2.1,r.2.2.2.2.2.2.1,hd (bel a r.1),hd (bel a r.1)):Rp)=fix3 r (bel a r.sv).length (hd (bel a r.sv)) (hd (bel a r.sv)):=rfl
   rw [e,wOk_eq,oB]
   by_cases h2:OkR (fix3 r (bel a r.sv).length (hd (bel a r.sv)) (hd (bel a r.sv)))
   ·rw [dT h2,sA,cF,wTag_ok (by omega) h2,oB,if_pos h2]
    rfl
   ·rw [dF h2,xA,cT,if_neg h2];rfl
  ·rw [dF h1,xA,cT,if_neg fun h=>h1 h.2];rfl
 ·rw [neI (by omega),xA,sA,cF,oB,orT,cT,if_neg fun h=>hk h.1];rfl
def mJ (n:Int):Prop:=-9223372036854775808≤n∧n≤9223372036854775807
theorem pD {c n:Int} (hc:mJ c) (hn:0<n):m30 (c,n)=some (xC c n):=pk_text hc hn
theorem lpick_eq {c n:Int} (hc:mJ c) (hn:0<n):m10 (c,n)=some (xC c n):=pk_text hc hn
theorem key_eq {n:Int} (hn:mJ n):m32 n=some (keyN n):=by
 unfold m32 keyN
 have:=xD (c:=n) (show (0:Int)<256 by omega)
 rw [pD hn (by omega),oB,wu8_in this.1 this.2]
 show (m82 [UInt8.ofNat (xC n 256).toNat]).bind (fun r=>some r)=_
 rw [rSum_ok (by simp),oB]
def has6 (x:X6):Prop:=mJ x.1∧mJ x.2.1∧mJ x.2.2.1∧mJ x.2.2.2.1∧mJ x.2.2.2.2.1∧mJ x.2.2.2.2.2
theorem draft_eq {x:X6} (h:has6 x) {n:Int} (h0:0≤n) (hn:n≤1000):m33 (x,n)=some (draft x n):=by
 obtain ⟨g1,g2,g3,g4,g5,g6⟩:=h
 unfold m33 draft
 dsimp only
 have a4:=xD (c:=x.2.2.2.1) (show (0:Int)<20001 by omega)
 rw [pD g1 (by omega),oB,pD g2 (by omega),oB,pD g3 (by omega),oB,pD g4 (by omega),oB,pD g5 (by omega),oB]
 by_cases c1:xC x.2.2.2.2.1 4=3∧0<n
 ·rw [eqI c1.1,mG,ltI c1.2,cT,pD g6 c1.2,oB,if_pos c1]
 ·rw [if_neg c1]
  have:PE.andM (eqM (xC x.2.2.2.2.1 4) 3) (ltM 0 n)=false:=by
   unfold PE.andM eqM ltM
   rw [← Bool.decide_and];exact dF c1
  rw [this,cF,fA (by omega) (by omega)]
end Go.Proofs.YtdjfiampkhfooaaGreatDoor
namespace Go.Proofs.YtdjfiampkhfooaaGreatDoor
open Go Go.Lib Go.Abs Go.PE Go.Ar Go.Sort
open Go.Proofs (ltOf)
variable [EA]
abbrev tRp:Ty:=Ty.pair (Ty.int IntKind.i64) (Ty.pair (Ty.int IntKind.i64) (Ty.pair (Ty.int IntKind.i64) (Ty.pair (Ty.int IntKind.i64) (Ty.pair (Ty.int IntKind.i64) (Ty.pair (Ty.int IntKind.i64) (Ty.pair (Ty.int IntKind.i64) (Ty.pair Ty.str Ty.str)))))))
theorem clampR {r:Rp} (h:OkR r):uC tRp r=r:=by
 obtain ⟨a1,a2,a3,a4,a5,a6,a7,a8,a9⟩:=r
 unfold OkR at h
 dsimp only [Rp.sv,Rp.nu,Rp.da,Rp.ki,Rp.su,Rp.va,Rp.rf,Rp.pv,Rp.tg] at h
 show (IntKind.wrap .i64 a1,IntKind.wrap .i64 a2,IntKind.wrap .i64 a3,IntKind.wrap .i64 a4,IntKind.wrap .i64 a5,IntKind.wrap .i64 a6,IntKind.wrap .i64 a7,List.take maxLen a8,List.take maxLen a9)=_
 rw [fA (by omega) (by omega),fA (by omega) (by omega),fA (by omega) (by omega),fA (by omega) (by omega),fA (by omega) (by omega),fA (by omega) (by omega),fA (by omega) (by omega),tkL (by unfold maxLen;omega),tkL (by unfold maxLen;omega)]
theorem sortR {cf:Rp→Rp→Int} (hO:SWO (ltOf cf)) {xs:List Rp} (hin:∀ q∈xs,OkR q) (hl:xs.length≤100000):∃ ys:List Rp,qG tRp cf xs=some ys∧ys.Perm xs∧ys.Pairwise fun a b=>ltOf cf b a=false:=by
 have hs:=Go.Sort.pdq_sorts (ltOf (cmpC tRp cf)) (swo_cmpC hO) xs.toArray 0 xs.length (Lib.bitLen xs.length) true true (Nat.zero_le _) (by simp) (Or.inl rfl)
 have key:∀ d:Array Rp,PermIn 0 xs.length xs.toArray d∧SortedIn (ltOf (cmpC tRp cf)) 0 xs.length d→d.toList.Perm xs∧d.toList.Pairwise fun a b=>ltOf cf b a=false:=fun d hs=>by
  obtain ⟨⟨h1,_,h3⟩,h4⟩:=hs
  have hsz:d.size=xs.length:=by simpa using h1
  have hp:d.toList.Perm xs:=by
   have e1:d.extract 0 xs.length=d:=by rw [← hsz];simp
   have e2:xs.toArray.extract 0 xs.length=xs.toArray:=by simp
   rw [e1,e2] at h3
   simpa using h3
  refine ⟨hp,List.pairwise_iff_getElem.2 fun i j hi hj hij=>?_⟩
  have hj':j<d.size:=by simpa using hj
  have h5:=h4 i j (Nat.zero_le _) hij (by omega)
  rw [getElem!_pos d j hj',getElem!_pos d i (by omega)] at h5
  have m1:=hin _ (hp.mem_iff.1 (List.getElem_mem hi))
  have m2:=hin _ (hp.mem_iff.1 (List.getElem_mem hj))
  have g1:d.toList[i]=d[i]'(by omega):=Array.getElem_toList ..
  have g2:d.toList[j]=d[j]:=Array.getElem_toList ..
  rw [g1] at m1 ⊢
  rw [g2] at m2 ⊢
  have e:ltOf (cmpC tRp cf) d[j] (d[i]'(by omega))=ltOf cf (uC tRp d[j]) (uC tRp (d[i]'(by omega))):=rfl
  rw [e,clampR m1,clampR m2] at h5
  exact h5
 unfold qG
 rw [dT (by omega)]
 exact ⟨_,rfl,key _ hs⟩
theorem srt68 {xs:List Rp} (hin:∀ q∈xs,OkR q) (hl:xs.length≤100000):∃ ys:List Rp,qG tRp sH xs=some ys∧ys.Perm xs∧ys.Pairwise fun a b=>ltR b a=false:=by
 obtain ⟨ys,h1,h2,h3⟩:=sortR swo68 hin hl
 refine ⟨ys,h1,h2,List.Pairwise.imp_of_mem (fun {a b} ha hb h=>?_) h3⟩
 have oa:=hin a (h2.mem_iff.1 ha)
 have ob:=hin b (h2.mem_iff.1 hb)
 cases e:ltR b a
 ·rfl
 ·rw [(lt68 b a).2 ((lt2_ok ob oa).2 e)] at h;cases h
noncomputable def cpM (r_4:List Rp):Option (List Rp):=bif ltM (lenM r_4) 2 then some r_4 else (iA (fun (s:Int)=>bif ltM s (lenM r_4) then (oA s (lenM r_4)).bind fun r_5=>(gA r_4 s).bind fun r_6=>(oA (IntKind.wrap .i64 (s-1)) (lenM r_4)).bind fun r_7=>(gA r_4 (IntKind.wrap .i64 (s-1))).bind fun r_8=>bif PE.andM (eqM r_6.1 r_8.1) (PE.andM (eqM r_6.2.1 r_8.2.1) (PE.andM (eqM r_6.2.2.1 r_8.2.2.1) (PE.andM (eqM r_6.2.2.2.1 r_8.2.2.2.1) (PE.andM (eqM r_6.2.2.2.2.1 r_8.2.2.2.2.1) (PE.andM (eqM r_6.2.2.2.2.2.1 r_8.2.2.2.2.2.1) (PE.andM (eqM r_6.2.2.2.2.2.2.1 r_8.2.2.2.2.2.2.1) (PE.andM (kB r_6.2.2.2.2.2.2.2.1 r_8.2.2.2.2.2.2.2.1) (kB r_6.2.2.2.2.2.2.2.2 r_8.2.2.2.2.2.2.2.2)))))))) then (oA s (lenM r_4)).bind fun r_9=>(iA (fun (s_1:Int×Int×List Rp)=>bif ltM s_1.2.1 (lenM s_1.2.2-s) then ((oA s_1.2.1 (lenM s_1.2.2-s)).bind fun r_10=>(gA s_1.2.2 (s+s_1.2.1)).bind fun r_11=>(oA (IntKind.wrap .i64 (s_1.2.1-1)) (lenM s_1.2.2-s)).bind fun r_12=>(gA s_1.2.2 (s+IntKind.wrap .i64 (s_1.2.1-1))).bind fun r_13=>bif PE.notM (PE.andM (eqM r_11.1 r_13.1) (PE.andM (eqM r_11.2.1 r_13.2.1) (PE.andM (eqM r_11.2.2.1 r_13.2.2.1) (PE.andM (eqM r_11.2.2.2.1 r_13.2.2.2.1) (PE.andM (eqM r_11.2.2.2.2.1 r_13.2.2.2.2.1) (PE.andM (eqM r_11.2.2.2.2.2.1 r_13.2.2.2.2.2.1) (PE.andM (eqM r_11.2.2.2.2.2.2.1 r_13.2.2.2.2.2.2.1) (PE.andM (kB r_11.2.2.2.2.2.2.2.1 r_13.2.2.2.2.2.2.2.1) (kB r_11.2.2.2.2.2.2.2.2 r_13.2.2.2.2.2.2.2.2))))))))) then (oA s_1.2.1 (lenM s_1.2.2-s)).bind fun r_14=>(gA s_1.2.2 (s+s_1.2.1)).bind fun r_15=>(oA s_1.1 (lenM s_1.2.2)).bind fun r_16=>(wE s_1.2.2 s_1.1 fun (x:Rp)=>some (r_15.1,r_15.2.1,r_15.2.2.1,r_15.2.2.2.1,r_15.2.2.2.2.1,r_15.2.2.2.2.2.1,r_15.2.2.2.2.2.2.1,r_15.2.2.2.2.2.2.2.1,r_15.2.2.2.2.2.2.2.2)).bind fun r=>some (IntKind.wrap .i64 (s_1.1+1),r) else some (s_1.1,s_1.2.2)).bind fun o=>some (Sum.inl (o.1,IntKind.wrap .i64 (s_1.2.1+1),o.2)) else some (Sum.inr (s_1.1,s_1.2.2))) (s,1,r_4)).bind fun o=>(oA o.1 (lenM o.2)).bind fun r_10=>(pA (clrM o.2 o.1 (0,0,0,0,0,0,0,[],[])) 0 o.1).bind fun r=>some (Sum.inr (Sum.inr r)) else some (Sum.inl (IntKind.wrap .i64 (s+1))) else some (Sum.inr (Sum.inl ()))) 1).bind fun o=>Sum.elim (fun (t:Unit)=>some r_4) (fun (t:List Rp)=>some t) o
abbrev Up0 (l:List Rp):Prop:=l.Pairwise fun a b=>ltR b a=false
theorem Up0.get {l:List Rp} (h:Up0 l) {i j:Nat} (hj:j<l.length) (hij:i<j):ltR l[j] (l[i]'(by omega))=false:=List.pairwise_iff_getElem.1 h i j (by omega) hj hij
theorem cp_step {l D:List Rp} (h:Up0 l) {m:Nat} (h0:0<m) (hm:m<l.length) (hD:Up D) (hmem:∀ x,x∈D↔x∈l.take m) (hne:l[m]≠l[m-1]'(by omega)):Up (D++[l[m]]):=by
 refine List.pairwise_append.2 ⟨hD,List.pairwise_singleton _ _,fun d hd y hy=>?_⟩
 rw [List.mem_singleton.1 hy]
 have h1:=Up0.get h hm (show m-1<m by omega)
 have h2:ltR (l[m-1]'(by omega)) l[m]=true:=by
  rcases ltR_tri (l[m-1]'(by omega)) l[m] with q | q | q
  ·exact q
  ·exact absurd q.symm hne
  ·rw [q] at h1;cases h1
 obtain ⟨i,hi,e⟩:=List.getElem_of_mem ((hmem d).1 hd)
 rw [lT] at hi
 rw [List.getElem_take] at e
 by_cases q:i=m-1
 ·subst q;rw [← e];exact h2
 ·have h3:=Up0.get h (show m-1<l.length by omega) (show i<m-1 by omega)
  rcases ltR_tri d (l[m-1]'(by omega)) with p | p | p
  ·exact eF p h2
  ·rw [p];exact h2
  ·rw [← e,h3] at p;cases p
theorem wD {l:List Rp} {m:Nat} (hm:m<l.length) (x:Rp):x∈l.take (m+1)↔x∈l.take m∨x=l[m]:=by
 rw [List.take_add_one,gE hm,Option.toList_some,List.mem_append,List.mem_singleton]
theorem cpM_ok {l:List Rp} (h:Up0 l) (hl:l.length≤100000):cpM l=some (mB l):=by
 unfold cpM
 simp only [eqR_eq]
 rw [mA]
 by_cases h2:l.length<2
 ·rw [ltI (by omega),cT]
  congr 1
  refine qK ?_ fun _=>Iff.rfl
  match l,h2 with
  | [],_=>exact List.Pairwise.nil
  | [x],_=>exact List.pairwise_singleton _ _
 rw [geI (by omega),cF]
 refine Ans.bindEq (Q:=fun (o:Unit⊕List Rp)=>(o=.inl ()∧Up l)∨o=.inr (mB l)) ?_ fun o ho=>?_
 ·refine Ans.loop (fun k s=>s=((k+1:Nat):Int)∧k+1≤l.length∧Up (l.take (k+1))) (l.length-1) ⟨rfl,by omega,?_⟩ ?_
  ·rw [List.take_add_one,gE (by omega)]
   exact List.pairwise_singleton _ _
  rintro k s hk ⟨rfl,h3,h4⟩
  by_cases hkl:k+1<l.length
  ·rw [ltI (by omega),cT,bB (by omega) (by omega),oB,aB hkl,oB,fA (n:=((k+1:Nat):Int)-1) (by omega) (by omega),show ((k+1:Nat):Int)-1=(k:Int) by omega,bB (by omega) (by omega),oB,aB (by omega),oB]
   by_cases e:l[k+1]=l[k]'(by omega)
   ·rw [dT e,cT,oB]
    refine Ans.bind (P:=fun (o:Int×List Rp)=>∃ w:Nat,o.1=w∧w<l.length∧o.2.length=l.length∧Up (o.2.take w)∧∀ x,x∈o.2.take w↔x∈l) ?_ fun o ho=>?_
    ·refine Ans.loop (fun j z=>∃ (w:Nat) (l':List Rp),z=((w:Int),((j+1:Nat):Int),l')∧w+1≤k+1+(j+1)∧k+1+(j+1)≤l.length∧l'.length=l.length∧l'.drop w=l.drop w∧Up (l'.take w)∧∀ x,x∈l'.take w↔x∈l.take (k+1+(j+1))) (l.length-(k+1)-1) ⟨k+1,l,rfl,by omega,by omega,rfl,rfl,h4,fun x=>?_⟩ ?_
     ·rw [wD hkl]
      constructor
      ·exact .inl
      ·rintro (q | q)
       ·exact q
       ·rw [q,e]
        exact (wD (by omega) _).2 (.inr rfl)
     ·rintro j z hj ⟨w,l',rfl,q1,q2,q3,q4,q5,q6⟩
      dsimp only
      rw [mA,q3]
      by_cases hjl:k+1+(j+1)<l.length
      ·have gd:∀ i,w≤i→(hi:i<l.length)→l'[i]'(by omega)=l[i]:=fun i hi hi2=>by
        have:=congrArg (fun z=>z[i-w]?) q4
        simp only [List.getElem?_drop] at this
        rw [show w+(i-w)=i by omega,gE (by omega),gE hi2] at this
        exact Option.some.inj this
       have I1:gA l' (((k+1:Nat):Int)+((j+1:Nat):Int))=some l[k+1+(j+1)]:=by
        rw [show ((k+1:Nat):Int)+((j+1:Nat):Int)=((k+1+(j+1):Nat):Int) by omega,aB (by omega),gd _ (by omega) hjl]
       have I2:gA l' (((k+1:Nat):Int)+(j:Int))=some (l[k+1+j]'(by omega)):=by
        rw [show ((k+1:Nat):Int)+(j:Int)=((k+1+j:Nat):Int) by omega,aB (by omega),gd _ (by omega) (by omega)]
       have hC:∀ i:Nat,i≤j+1→oA (i:Int) ((l.length:Int)-((k+1:Nat):Int))=some ():=fun i hi=>bB (by omega) (by omega)
       rw [ltI (by omega),cT,hC (j+1) (by omega),oB,I1,oB,fA (n:=((j+1:Nat):Int)-1) (by omega) (by omega),show ((j+1:Nat):Int)-1=(j:Int) by omega,hC j (by omega),oB,I2,oB,fA (n:=((j+1:Nat):Int)+1) (by omega) (by omega)]
       by_cases f:l[k+1+(j+1)]=l[k+1+j]'(by omega)
       ·rw [dT f,sA,cF,oB]
        refine Ans.some ⟨by omega,w,l',rfl,by omega,by omega,q3,q4,q5,fun x=>?_⟩
        rw [show k+1+(j+1+1)=k+1+(j+1)+1 by omega,wD hjl,q6]
        constructor
        ·exact .inl
        ·rintro (p | p)
         ·exact p
         ·rw [p,f]
          rw [show k+1+(j+1)=k+1+j+1 by omega]
          exact (wD (by omega) _).2 (.inr rfl)
       ·rw [dF f,xA,cT,oB,oB,bB (by omega) (by omega),oB,eR,setM_of (y:=l[k+1+(j+1)]) (by omega) (by omega) rfl,oB,oB,fA (n:=(w:Int)+1) (by omega) (by omega),Int.toNat_natCast]
        have t1:(l'.set w l[k+1+(j+1)]).take (w+1)=l'.take w++[l[k+1+(j+1)]]:=by
         rw [List.take_add_one,List.take_set_of_le (nR _),List.getElem?_set_self (by omega)];rfl
        refine Ans.some ⟨by omega,w+1,_,rfl,by omega,by omega,by rw [List.length_set];exact q3,?_,?_,fun x=>?_⟩
        ·rw [List.drop_set_of_lt (by omega)]
         have:=congrArg (List.drop 1) q4
         rw [List.drop_drop,List.drop_drop] at this
         exact this
        ·rw [t1]
         exact cp_step h (by omega) hjl q5 q6 (by simpa using f)
        ·rw [t1,List.mem_append,List.mem_singleton,q6,show k+1+(j+1+1)=k+1+(j+1)+1 by omega,wD hjl]
      ·rw [geI (by omega),cF]
       refine Ans.some ⟨w,rfl,by omega,q3,q5,fun x=>?_⟩
       rw [q6,tkL (by omega)]
    ·obtain ⟨w,e1,e2,e3,e4,e5⟩:=ho
     rw [e1,bB (by omega) (by rw [mA];omega),oB]
     have e6:pA (clrM o.2 (w:Int) (0,0,0,0,0,0,0,[],[])) 0 (w:Int)=some (o.2.take w):=by
      unfold clrM
      rw [fB (by omega) (by omega) (by simp;omega)]
      simp [e3,List.take_append_of_le_length,Nat.min_eq_left (Nat.le_of_lt e2)]
     rw [e6,oB]
     exact Ans.some (.inr (by rw [qK e4 e5]))
   ·rw [dF e,cF,fA (by omega) (by omega)]
    refine Ans.some ⟨by omega,rfl,by omega,?_⟩
    rw [List.take_add_one,gE hkl]
    exact cp_step h (by omega) hkl h4 (fun _=>Iff.rfl) (by simpa using e)
  ·rw [geI (by omega),cF]
   rw [tkL (by omega)] at h4
   exact Ans.some (.inl ⟨rfl,h4⟩)
 ·rcases ho with ⟨rfl,h5⟩ | rfl
  ·show some l=_
   rw [arch_self h5]
  ·rfl
theorem made_ok {xs:List Rp} (hin:∀ q∈xs,OkR q) (hl:xs.length≤100000):((qG tRp sH xs).bind fun r_4=>(cpM r_4).bind fun (ov:List Rp)=>bif ltM 40 (lenM ov) then some ((390:Int),([]:List Rp)) else some (0,ov))=some ((mk40 (mB xs)).2,(mk40 (mB xs)).1):=by
 obtain ⟨ys,h1,h2,h3⟩:=srt68 hin hl
 have e:mB ys=mB xs:=yG fun x=>h2.mem_iff
 rw [h1,oB,cpM_ok h3 (by rw [h2.length_eq];exact hl),oB,e,mA]
 unfold mk40
 by_cases h:(mB xs).length≤40
 ·rw [geI (by omega),cF,if_pos h]
 ·rw [ltI (by omega),cT,if_neg h]
theorem clone_ok {xs:List Rp} (hl:xs.length≤1000000):mo61 xs=some xs:=by
 unfold mo61
 match xs with
 | [] =>
  show bothM _ _=_
  unfold bothM
  rw [fG (by simp),oB]
  split
  ·rfl
  ·rename_i h _;exact absurd rfl h
 | x::r =>
  show (eB (nat_lit 88) [] (x::r)).bind (fun r=>some r)=_
  rw [fG (by simpa using hl)];rfl
theorem wAdd_eq {a:List Rp} {r:Rp} (ha:a.length≤1000000):m16 (a,r)=some (addR a r):=by
 unfold m16 addR
 dsimp only
 rw [eR,bC ha,oB]
 by_cases h1:OkA a
 ·rw [dT h1,sA,xA,cT,wOk_eq,oB,orF]
  by_cases h2:OkR r
  ·rw [dT h2,sA,cF,clone_ok (by omega),oB,fG (by simp;omega),oB,if_pos ⟨h1,h2⟩]
   obtain ⟨a1,a2,a3⟩:=h1
   exact eA (made_ok (xs:=a++[r]) (fun x hx=>by
    rcases List.mem_append.1 hx with q | q
    ·exact a1 x q
    ·rw [List.mem_singleton.1 q];exact h2) (by simp;omega)) rfl
  ·rw [dF h2,xA,cT,if_neg fun h=>h2 h.2]
 ·rw [dF h1,xA,sA,cF,oB,orT,cT,if_neg fun h=>h1 h.1]
variable [EA]
def three {α:Type} (x y z:α):Nat→α
 | 0=>x
 | 1=>y
 | _+2=>z
theorem three0 {α:Type} (x y z:α):three x y z 0=x:=rfl
theorem three1 {α:Type} (x y z:α):three x y z 1=y:=rfl
theorem three2 {α:Type} (x y z:α):three x y z 2=z:=rfl
theorem wMerge_eq {a b:List Rp} (ha:a.length≤1000000) (hb:b.length≤1000000):m17 (a,b)=some (mrg a b):=by
 unfold m17 mrg
 dsimp only
 rw [bC ha,oB]
 by_cases h1:OkA a
 ·rw [dT h1,sA,xA,cT,bC hb,oB,orF]
  by_cases h2:OkA b
  ·rw [dT h2,sA,cF,if_pos ⟨h1,h2⟩]
   obtain ⟨a1,a2,a3⟩:=h1
   obtain ⟨b1,b2,b3⟩:=h2
   have L2:lenM [a,b]=2:=rfl
   have i0:gA [a,b] ((0:Nat):Int)=some a:=rfl
   have i1:gA [a,b] ((1:Nat):Int)=some b:=rfl
   refine eA (x:=((a.length+b.length:Nat):Int)) (vA (fun k=>(three 0 (a.length:Int) ((a.length+b.length:Nat):Int) k,(k:Int))) 2 rfl (fun k hk=>?_) ?_) ?_
   ·match k,hk with
    | 0,_ =>
     dsimp only
     rw [L2,ltI (by omega),cT,i0,oB,three0,mA,fA (n:=0+(a.length:Int)) (by omega) (by omega),geI (by omega),cF,fA (by omega) (by omega),Int.zero_add]
     rfl
    | 1,_ =>
     dsimp only
     rw [L2,ltI (by omega),cT,i1,oB,three1,mA,fA (n:=(a.length:Int)+(b.length:Int)) (by omega) (by omega),geI (by omega),cF,fA (by omega) (by omega)]
     rfl
   ·dsimp only
    rw [L2,geI (by omega),cF,three2]
   refine eA (x:=([]:List Rp)) ?_ ?_
   ·unfold growM
    rw [dT (by omega),dT (by omega)]
   refine eA (x:=a++b) (vA (fun k=>((k:Int),three [] a (a++b) k)) 2 rfl (fun k hk=>?_) ?_) ?_
   ·match k,hk with
    | 0,_ =>
     dsimp only
     rw [L2,ltI (by omega),cT,i0,oB,three0,fG (by simp;omega),oB]
     rfl
    | 1,_ =>
     dsimp only
     rw [L2,ltI (by omega),cT,i1,oB,three1,fG (by omega),oB]
     rfl
   ·dsimp only
    rw [L2,geI (by omega),cF,three2]
   exact eA (made_ok (xs:=a++b) (fun x hx=>by
    rcases List.mem_append.1 hx with q | q
    ·exact a1 x q
    ·exact b1 x q) (by simp;omega)) rfl
  ·rw [dF h2,xA,cT,if_neg fun h=>h2 h.2]
 ·rw [dF h1,xA,sA,cF,oB,orT,cT,if_neg fun h=>h1 h.1]
theorem cf76_zero {a b:Rp} (ha:OkR a) (hb:OkR b):eqM (sH a b) 0=decide (a=b):=by
 unfold eqM
 congr 1
 refine propext ⟨fun h=>?_,fun h=>?_⟩
 ·unfold sH at h
  by_cases h1:gI a.sv b.sv=0
  ·rw [if_pos h1] at h
   by_cases h2:gI a.nu b.nu=0
   ·rw [if_pos h2] at h
    rcases blt_tri (en2 a) (en2 b) with q | q | q
    ·have:=cmpS_neg.2 q;omega
    ·rw [pH ha,pH hb] at q;exact en_inj q
    ·unfold cmpS at h
     rw [blt_asym q,q] at h
     simp at h
   ·rw [if_neg h2] at h;exact absurd h h2
  ·rw [if_neg h1] at h;exact absurd h h1
 ·subst h
  unfold sH
  rw [if_pos (oE.2 rfl),if_pos (oE.2 rfl),cmpS_self]
theorem wMiss_eq {a b:List Rp} (ha:a.length≤1000000) (hb:b.length≤1000000):m20 (a,b)=some (miss a b):=by
 unfold m20 miss
 dsimp only
 rw [bC ha,oB]
 by_cases h1:OkA a
 ·rw [dT h1,sA,xA,cT,bC hb,oB,orF]
  by_cases h2:OkA b
  ·rw [dT h2,sA,cF,if_pos ⟨h1,h2⟩]
   obtain ⟨a1,a2,a3⟩:=h1
   obtain ⟨b1,b2,b3⟩:=h2
   refine eA (filt (fun r:Rp=>decide (r∉b)) a (fun k hk out ho=>?_) (fun out=>?_)) rfl
   ·have hr:=a1 _ (List.getElem_mem hk)
    dsimp only
    rw [mA,ltI (by omega),cT,aB hk,oB]
    generalize a[k]=r at hr
    refine eA (x:=if decide (r∉b)=true then out++[r] else out) ?_ (by rw [fA (by omega) (by omega)])
    refine Ans.bindEq (Q:=fun (o:Int)=>∃ i:Nat,o=i∧i≤b.length∧(∀ j x,j<i→b[j]? = some x→ltR x r=true)∧∀ j x,i≤j→b[j]? = some x→ltR x r=false) ?_ fun o ho2=>?_
    ·refine Ans.loop (fun t z=>∃ i j:Nat,z=((i:Int),(j:Int))∧i≤j∧j≤b.length∧t+j≤b.length+i∧(∀ p x,p<i→b[p]? = some x→ltR x r=true)∧∀ p x,j≤p→b[p]? = some x→ltR x r=false) b.length ⟨0,b.length,rfl,by omega,by omega,by omega,fun p x hp=>by omega,fun p x hp hx=>by have:=lC hx;omega⟩ ?_
     rintro t z ht ⟨i,j,rfl,q1,q2,q3,q4,q5⟩
     dsimp only
     by_cases hij:i<j
     ·have hb3:(i+j) / 2<b.length:=by omega
      have hx:=gE hb3
      have hox:=b1 _ (List.getElem_mem hb3)
      rw [ltI (by omega),cT,fA (n:=(i:Int)+(j:Int)) (by omega) (by omega),mD (by omega) (by omega),show (i:Int)+(j:Int)=((i+j:Nat):Int) by omega,shrI (n:=1) (k:=.u64) (i+j) 1 rfl (by decide),oB,show shr (i+j) 1=(i+j) / 2 from rfl,fA (n:=(((i+j) / 2:Nat):Int)) (by omega) (by omega),aB hb3,oB,eR,eR,hm68,oB]
      have hlt:=(cf76_neg (x:=b[(i+j) / 2]) (y:=r)).trans (lt2_ok hox hr)
      cases e:ltR b[(i+j) / 2] r
      ·have:¬ sH b[(i+j) / 2] r<0:=fun q=>by rw [hlt.1 q] at e;cases e
       rw [geI (by omega),cF]
       refine Ans.some ⟨by omega,i,(i+j) / 2,rfl,by omega,by omega,by omega,q4,fun p x hp hx2=>?_⟩
       by_cases f:p=(i+j) / 2
       ·subst f;rw [hx] at hx2;cases hx2;exact e
       ·cases g:ltR x r
        ·rfl
        ·have hp2:=lC hx2
         have:=List.pairwise_iff_getElem.1 b2 ((i+j) / 2) p hb3 hp2 (by omega)
         rw [gE hp2] at hx2
         cases hx2
         rw [eF this g] at e;cases e
      ·rw [ltI (hlt.2 e),cT,fA (by omega) (by omega)]
       refine Ans.some ⟨by omega,(i+j) / 2+1,j,rfl,by omega,by omega,by omega,fun p x hp hx2=>?_,q5⟩
       by_cases f:p=(i+j) / 2
       ·subst f;rw [hx] at hx2;cases hx2;exact e
       ·have hp2:=lC hx2
        have:=List.pairwise_iff_getElem.1 b2 p ((i+j) / 2) hp2 hb3 (by omega)
        rw [gE hp2] at hx2
        cases hx2
        exact eF this e
     ·rw [geI (by omega),cF]
      exact Ans.some ⟨i,rfl,by omega,q4,fun p x hp=>q5 p x (by omega)⟩
    ·obtain ⟨i,rfl,q1,q2,q3⟩:=ho2
     have hfound:(r∈b)↔b[i]? = some r:=by
      constructor
      ·intro h
       obtain ⟨p,hp,e⟩:=List.getElem_of_mem h
       have e2:b[p]? = some r:=by rw [gE hp,e]
       by_cases f:p<i
       ·have:=q2 p r f e2;rw [ltR_irr] at this;cases this
       ·by_cases g:p=i
        ·rw [← g];exact e2
        ·have:=List.pairwise_iff_getElem.1 b2 i p (by omega) hp (by omega)
         rw [e] at this
         have h4:=q3 i _ (nR _) (gE (by omega))
         rw [h4] at this;cases this
      ·exact fun h=>List.mem_of_getElem? h
     rw [mA]
     by_cases hi:i<b.length
     ·have hox:=b1 _ (List.getElem_mem hi)
      rw [ltI (by omega),cT,aB hi,oB,cT,eR,eR,hm68,oB,mG,cf76_zero hox hr]
      rw [gE hi,Option.some.injEq] at hfound
      by_cases e:b[i]=r
      ·rw [dT e,sA,cF,if_neg (by simp;exact hfound.2 e)]
      ·rw [dF e,xA,cT,fG (by simp;omega),oB,if_pos (by simp;exact fun h=>e (hfound.1 h))]
     ·rw [geI (by omega),cF,oB,cF,oB,mK,xA,cT,eR,fG (by simp;omega),oB,if_pos (by
       simp only [decide_eq_true_eq]
       intro h
       rw [hfound,List.getElem?_eq_none (by omega)] at h;cases h)]
   ·dsimp only
    rw [mA,geI (by omega),cF]
  ·rw [dF h2,xA,cT,if_neg fun h=>h2 h.2]
 ·rw [dF h1,xA,sA,cF,oB,orT,cT,if_neg fun h=>h1 h.1]
theorem same_loop {α:Type} [DecidableEq α] {a b:List α} (hl:a.length=b.length) (ha:a.length≤1000000):Ans (iA (fun (s:Int)=>bif ltM s (lenM a) then (gA a s).bind fun r=>(gA b s).bind fun r_1=>bif PE.notM (decide (r=r_1)) then some (Sum.inr (Sum.inr false)) else some (Sum.inl (IntKind.wrap .i64 (s+1))) else some (Sum.inr (Sum.inl ()))) 0) (fun (o:Unit⊕Bool)=>(o=.inl ()∧a=b)∨(o=.inr false∧a≠b)):=by
 refine Ans.loop (fun k s=>s=(k:Int)∧k≤a.length∧∀ i,i<k→a[i]? = b[i]?) a.length ⟨rfl,by omega,fun i hi=>by omega⟩ ?_
 rintro k s hk ⟨rfl,h2,h3⟩
 rw [mA]
 by_cases hkl:k<a.length
 ·rw [ltI (by omega),cT,aB hkl,oB,aB (by omega),oB]
  by_cases e:a[k]=b[k]'(by omega)
  ·rw [dT e,sA,cF,fA (by omega) (by omega)]
   refine Ans.some ⟨by omega,rfl,by omega,fun i hi=>?_⟩
   by_cases f:i=k
   ·subst f;rw [gE hkl,gE (by omega),e]
   ·exact h3 i (by omega)
  ·rw [dF e,xA,cT]
   refine Ans.some (.inr ⟨rfl,fun h=>e ?_⟩)
   subst h;rfl
 ·rw [geI (by omega),cF]
  refine Ans.some (.inl ⟨rfl,List.ext_getElem? fun i=>?_⟩)
  by_cases f:i<a.length
  ·exact h3 i (by omega)
  ·rw [List.getElem?_eq_none (by omega),List.getElem?_eq_none (by omega)]
theorem same_eq {a b:List Rp} (ha:a.length≤1000000):m18 (a,b)=some (decide (a=b)):=by
 unfold m18
 simp only [eqR_eq]
 rw [mA,mA]
 by_cases hl:a.length=b.length
 ·rw [eqI (by omega),sA,cF]
  refine Ans.bindEq (same_loop hl ha) fun o ho=>?_
  rcases ho with ⟨rfl,h⟩ | ⟨rfl,h⟩
  ·rw [dT h];rfl
  ·rw [dF h];rfl
 ·rw [neI (by omega),xA,cT,dF fun h=>hl (by rw [h])]
theorem samePairs_eq {a b:List (Int×Int)} (ha:a.length≤1000000):m25 (a,b)=some (decide (a=b)):=by
 unfold m25
 have e2:∀ x y:Int×Int,PE.andM (eqM x.1 y.1) (eqM x.2 y.2)=decide (x=y):=fun x y=>by
  obtain ⟨x1,x2⟩:=x
  obtain ⟨y1,y2⟩:=y
  unfold PE.andM eqM
  rw [← Bool.decide_and]
  congr 1
  exact propext (by simp)
 simp only [e2]
 rw [mA,mA]
 by_cases hl:a.length=b.length
 ·rw [eqI (by omega),sA,cF]
  refine Ans.bindEq (same_loop hl ha) fun o ho=>?_
  rcases ho with ⟨rfl,h⟩ | ⟨rfl,h⟩
  ·rw [dT h];rfl
  ·rw [dF h];rfl
 ·rw [neI (by omega),xA,cT,dF fun h=>hl (by rw [h])]
theorem of_ok {l:List Rp} (h:∀ x∈l,OkR x) (hl:l.length≤40):m6 l=some (mB l):=by
 unfold m6
 refine eA (vA (fun k=>((k:Int),mB (l.take k))) l.length rfl (fun k hk=>?_) ?_) rfl
 ·have ho:=h _ (List.getElem_mem hk)
  have hla:=lI (l.take k)
  rw [lT] at hla
  dsimp only
  rw [mA,ltI (by omega),cT,aB hk,oB,eR,rAdd_eq (by omega),oB,addR_arch (fun x hx=>h x (List.mem_of_mem_take hx)) ho (by rw [lT];omega)]
  rw [show (mB (l.take k++[l[k]]),(0:Int)).2=0 from rfl,eqI rfl,cT,oB,fA (by omega) (by omega),List.take_add_one,gE hk]
  rfl
 ·dsimp only
  rw [mA,geI (by omega),cF,List.take_length]
theorem made_take {x:List X6} {k:Nat} (h:k<x.length) (h2:k<16):((x.take (k+1)).foldl (fun l x=>l++[xE l x]) [])=((x.take k).foldl (fun l x=>l++[xE l x]) [])++[xE ((x.take k).foldl (fun l x=>l++[xE l x]) []) x[k]]:=by
 rw [List.take_add_one,gE h,Option.toList_some,List.foldl_append];rfl
theorem madeO_ok {x:List X6} (h:∀ y∈x,has6 y):mo5 x=some (madeL x):=by
 unfold mo5
 refine eA (x:=(mB (madeL x),madeL x)) (vA (fun k=>((k:Int),mB ((x.take k).foldl (fun l x=>l++[xE l x]) []),(x.take k).foldl (fun l x=>l++[xE l x]) [])) (min x.length 16) rfl (fun k hk=>?_) ?_) rfl
 ·have hk1:k<x.length:=by omega
  have hk2:k<16:=by omega
  have hx:=h _ (List.getElem_mem hk1)
  obtain ⟨hM,hlen⟩:=made_mde (x.take k) Mde.nil (by simp;omega)
  rw [List.length_nil,Nat.zero_add,lT] at hlen
  dsimp only
  rw [made_take hk1 hk2]
  generalize (x.take k).foldl (fun l x=>l++[xE l x]) []=l at hM hlen
  rw [PE.andM,ltI (by rw [mA];omega),ltI (by omega),show (true&&true)=true from rfl,cT,aB hk1]
  generalize x[k]'hk1=y at hx
  have hl:l.length≤39:=by omega
  have hol:=own_le l (xC y.1 4)
  have hp:=xD (c:=y.1) (show (0:Int)<4 by omega)
  have ho:=nextR_ok y hl
  have hla:=lI l
  rw [oB,pD hx.1 (by omega),oB,rBel_ok (hM.toChn.okA (by omega)),hM.toChn.belAll,oB,oB,pD hx.1 (by omega),oB,key_eq (by unfold mJ;omega),oB,oB]
  dsimp only
  rw [show (y.1,y.2.1,y.2.2.1,y.2.2.2.1,y.2.2.2.2.1,y.2.2.2.2.2)=y from rfl,mA,draft_eq hx (by omega) (by omega),oB,eR,rWrite_eq (by omega),nextR_wr hM.toChn y hl,oB]
  dsimp only
  rw [eqI rfl,cT,eR,fG (by simp;omega),oB,rAdd_eq (by omega),oB,addR_arch hM.toChn.ok ho hl,oB,fA (by omega) (by omega)]
  rfl
 ·dsimp only
  have:PE.andM (ltM ((min x.length 16:Nat):Int) (lenM x)) (ltM ((min x.length 16:Nat):Int) 16)=false:=by
   unfold PE.andM ltM
   rw [mA,← Bool.decide_and]
   exact dF (by omega)
  rw [this,cF]
  have e:x.take (min x.length 16)=x.take 16:=by
   by_cases h:x.length≤16
   ·rw [Nat.min_eq_left h,List.take_length,tkL h]
   ·rw [Nat.min_eq_right (by omega)]
  rw [e];rfl
end Go.Proofs.YtdjfiampkhfooaaGreatDoor
namespace Go.Ar
def gv:Bs→Nat
 | []=>0
 | b::l=>b.toNat % 128+128*gv l
theorem gv_snoc:∀ (l:Bs) (b:UInt8),gv (l++[b])=gv l+b.toNat % 128*128 ^ l.length
 | [],b=>by simp [gv]
 | a::l,b=>by
  simp only [List.cons_append,gv,gv_snoc l b,List.length_cons,Nat.pow_succ]
  rw [Nat.mul_add,← Nat.add_assoc,Nat.mul_comm (128 ^ l.length),Nat.mul_left_comm]
theorem gv_lt:∀ (l:Bs),gv l<128 ^ l.length
 | []=>by simp [gv]
 | b::l=>by
  have:=gv_lt l
  simp only [gv,List.length_cons,Nat.pow_succ];omega
theorem gv_grp (z:Nat):gv (grp z)=z:=by
 induction z using Nat.strongRecOn with
 | _ z ih =>
  by_cases h:z<128
  ·rw [nH h];simp only [gv];rw [u8 (by omega)];omega
  ·rw [cJ (by omega)]
   simp only [gv]
   rw [ih _ (by omega),u8 (by omega)];omega
def Sh (l:Bs) (c:Bs) (b:UInt8):Prop:=l=c++[b]∧(∀ x∈c,128≤x.toNat)∧b.toNat<128
theorem grp_sh (z:Nat):∃ c b,Sh (grp z) c b∧(c=[]∨b.toNat≠0):=by
 induction z using Nat.strongRecOn with
 | _ z ih =>
  by_cases h:z<128
  ·exact ⟨[],UInt8.ofNat z,⟨nH h,fun x hx=>(by simp at hx),by rw [u8 (by omega)];exact h⟩,.inl rfl⟩
  ·obtain ⟨c,b,⟨h1,h2,h3⟩,h4⟩:=ih (z / 128) (by omega)
   refine ⟨UInt8.ofNat (z % 128+128)::c,b,⟨by rw [cJ (by omega),h1];rfl,fun x hx=>?_,h3⟩,.inr ?_⟩
   ·rcases List.mem_cons.1 hx with q | q
    ·rw [q,u8 (by omega)];omega
    ·exact h2 x q
   ·rcases h4 with rfl | h4
    ·intro e
     have e1:gv (grp (z / 128))=z / 128:=gv_grp _
     rw [h1] at e1
     simp only [List.nil_append,gv,e] at e1
     omega
    ·exact h4
theorem sh_grp:∀ {c:Bs} {b:UInt8} {l:Bs},Sh l c b→(c=[]∨b.toNat≠0)→grp (gv l)=l
 | [],b,l,⟨h1,h2,h3⟩,_=>by
  subst h1
  simp only [List.nil_append,gv]
  rw [nH (by omega)]
  congr 1
  apply u8eq;rw [u8 (by omega)];omega
 | x::c,b,l,⟨h1,h2,h3⟩,h4=>by
  have hb:b.toNat≠0:=h4.resolve_left (by simp)
  subst h1
  have hx:=h2 x (by simp)
  have hx2:=u8lt x
  have ih:=sh_grp (c:=c) (b:=b) ⟨rfl,fun y hy=>h2 y (by simp [hy]),h3⟩ (.inr hb)
  have hpos:0<gv (c++[b]):=by
   rw [gv_snoc]
   have:0<128 ^ c.length:=Nat.pow_pos (by omega)
   have:0<b.toNat % 128*128 ^ c.length:=Nat.mul_pos (by omega) this
   omega
  simp only [List.cons_append,gv]
  rw [cJ (by omega)]
  have e1:(x.toNat % 128+128*gv (c++[b])) / 128=gv (c++[b]):=by omega
  have e2:(x.toNat % 128+128*gv (c++[b])) % 128=x.toNat % 128:=by omega
  rw [e1,e2,ih]
  congr 1
  apply u8eq;rw [u8 (by omega)];omega
theorem sh_pre:∀ {c c':Bs} {b b':UInt8} {l l' x y:Bs},Sh l c b→Sh l' c' b'→l++x=l'++y→l=l'
 | [],[],b,b',l,l',x,y,⟨h1,_,h3⟩,⟨g1,_,g3⟩,e=>by
  subst h1;subst g1
  simp at e
  rw [e.1]
 | [],d::c',b,b',l,l',x,y,⟨h1,_,h3⟩,⟨g1,g2,g3⟩,e=>by
  subst h1;subst g1
  simp at e
  have:=g2 d (by simp)
  rw [← e.1] at this;omega
 | d::c,[],b,b',l,l',x,y,⟨h1,h2,h3⟩,⟨g1,g2,g3⟩,e=>by
  subst h1;subst g1
  simp at e
  have:=h2 d (by simp)
  rw [e.1] at this;omega
 | d::c,d'::c',b,b',l,l',x,y,⟨h1,h2,h3⟩,⟨g1,g2,g3⟩,e=>by
  subst h1;subst g1
  simp only [List.cons_append,List.cons.injEq] at e ⊢
  refine ⟨e.1,?_⟩
  exact sh_pre (c:=c) (c':=c') (b:=b) (b':=b') ⟨rfl,fun z hz=>h2 z (by simp [hz]),h3⟩ ⟨rfl,fun z hz=>g2 z (by simp [hz]),g3⟩ e.2
theorem isI_sh {t l c:Bs} {b:UInt8} (hl:Sh l c b) (ht:l <+: t) {n:Int} {k:Nat}:IsI t n k↔inR n∧pI n=l∧k=l.length:=by
 constructor
 ·rintro ⟨h1,h2,y,hy⟩
  obtain ⟨x,hx⟩:=ht
  obtain ⟨c',b',h3,_⟩:=grp_sh (zz n)
  have e:pI n=l:=sh_pre h3 hl (show pI n++y=l++x by rw [hy,hx])
  exact ⟨h1,e,by rw [h2,e]⟩
 ·rintro ⟨h1,h2,h3⟩
  exact ⟨h1,by rw [h3,h2],by rw [h2];exact ht⟩
theorem isI_canon {t l c:Bs} {b:UInt8} (hl:Sh l c b) (ht:l <+: t) {n:Int} {k:Nat}:IsI t n k↔inR n∧n=uz (gv l)∧(c=[]∨b.toNat≠0)∧k=l.length:=by
 rw [isI_sh hl ht]
 constructor
 ·rintro ⟨h1,h2,h3⟩
  have e:zz n=gv l:=by rw [← h2];exact (gv_grp _).symm
  refine ⟨h1,by rw [← e,uz_zz],?_,h3⟩
  obtain ⟨c',b',g1,g2⟩:=grp_sh (zz n)
  have:c'++[b']=c++[b]:=by rw [← g1.1,← hl.1];exact h2
  obtain ⟨p,q⟩:=List.append_inj' this rfl
  simp at q
  rw [← p,← q];exact g2
 ·rintro ⟨h1,h2,h3,h4⟩
  refine ⟨h1,?_,h4⟩
  unfold pI
  rw [h2,zz_uz,sh_grp hl h3]
theorem isI_none {t:Bs} {i:Nat} (h:∀ x∈t.take i,128≤x.toNat) (hi:i=9∨t.length≤i) (n:Int) (k:Nat):¬ IsI t n k:=by
 rintro ⟨h1,h2,y,hy⟩
 obtain ⟨c,b,h3,_⟩:=grp_sh (zz n)
 have hl:=cE h1
 have e:pI n=c++[b]:=h3.1
 rw [e] at hl hy
 simp only [lA,List.length_singleton] at hl
 have hb:b∈t.take i:=by
  rw [← hy,aA]
  rcases hi with rfl | hi
  ·rw [List.take_append]
   obtain ⟨m,hm⟩:∃ m,9-c.length=m+1:=⟨8-c.length,by omega⟩
   rw [hm];simp
  ·rw [← hy] at hi
   rw [tkL (by rw [aA] at hi;exact hi)];simp
 have:=h b hb
 have:=h3.2.2
 omega
def IntR (s:Bs) (p:Nat) (r:Int×Int×Int):Prop:=(∀ n k,IsI (s.drop p) n k→r=(n,((p+k:Nat):Int),0))∧((∀ n k,¬ IsI (s.drop p) n k)→r=(0,0,10))
def StrR (s:Bs) (p:Nat) (r:Bs×Int×Int):Prop:=(∀ n k,IsS (s.drop p) n k→r=(n,((p+k:Nat):Int),0))∧((∀ n k,¬ IsS (s.drop p) n k)→r=([],0,10))
theorem IntR.cases {s:Bs} {p:Nat} {r:Int×Int×Int} (h:IntR s p r):(∃ n k,IsI (s.drop p) n k∧r=(n,((p+k:Nat):Int),0))∨((∀ n k,¬ IsI (s.drop p) n k)∧r=(0,0,10)):=by
 by_cases e:∃ n k,IsI (s.drop p) n k
 ·obtain ⟨n,k,e⟩:=e
  exact .inl ⟨n,k,e,h.1 n k e⟩
 ·have e2:∀ n k,¬ IsI (s.drop p) n k:=fun n k q=>e ⟨n,k,q⟩
  exact .inr ⟨e2,h.2 e2⟩
theorem StrR.cases {s:Bs} {p:Nat} {r:Bs×Int×Int} (h:StrR s p r):(∃ n k,IsS (s.drop p) n k∧r=(n,((p+k:Nat):Int),0))∨((∀ n k,¬ IsS (s.drop p) n k)∧r=([],0,10)):=by
 by_cases e:∃ n k,IsS (s.drop p) n k
 ·obtain ⟨n,k,e⟩:=e
  exact .inl ⟨n,k,e,h.1 n k e⟩
 ·have e2:∀ n k,¬ IsS (s.drop p) n k:=fun n k q=>e ⟨n,k,q⟩
  exact .inr ⟨e2,h.2 e2⟩
theorem IsI.le {t:Bs} {n:Int} {k:Nat} (h:IsI t n k):k≤t.length∧t=pI n++t.drop k:=by
 obtain ⟨_,rfl,x,hx⟩:=h
 rw [← hx]
 simp
theorem IsS.le {t u:Bs} {k:Nat} (h:IsS t u k):k≤t.length∧t=pS u++t.drop k:=by
 obtain ⟨_,rfl,x,hx⟩:=h
 rw [← hx]
 simp
end Go.Ar
namespace Go.Proofs.YtdjfiampkhfooaaGreatDoor
open Go Go.Lib Go.Abs Go.PE Go.Ar
variable [EA]
theorem pow128 (i:Nat):128 ^ i=2 ^ (7*i):=by rw [Nat.pow_mul]
theorem take_snoc {s:Bs} {p i:Nat} {b:UInt8} (h:s[p+i]? = some b):(s.drop p).take (i+1)=(s.drop p).take i++[b]:=by
 rw [List.take_add_one,List.getElem?_drop,h];rfl
theorem sub_len {s:Bs} {p i:Nat} (h:p+i≤s.length):((s.drop p).take i).length=i:=by rw [lT,List.length_drop];omega
theorem pre_take (t:Bs) (i:Nat):t.take i <+: t:=List.take_prefix _ _
theorem grp_add {i:Nat} (hi:i<9) {z:Nat} (hz:z<128 ^ i) {d:Nat} (hd:d<128):z+d*128 ^ i<9223372036854775808:=by
 have h1:(d+1)*128 ^ i≤128*128 ^ i:=Nat.mul_le_mul_right _ (by omega)
 have h2:128*128 ^ i=128 ^ (i+1):=by rw [Nat.pow_succ,Nat.mul_comm]
 have h3:128 ^ (i+1)≤128 ^ 9:=Nat.pow_le_pow_right (by omega) (by omega)
 have h4:(128:Nat) ^ 9=9223372036854775808:=by decide
 rw [Nat.add_mul] at h1
 omega
theorem xorNeg (m:Nat) (hm:m<4611686018427387904) (o:Nat) (ho:o<2):uA .xor .i64 (m:Int) (IntKind.wrap .i64 (negM (o:Int)))=if o=0 then (m:Int) else -(m:Int)-1:=by
 unfold negM
 rw [fA (by omega) (by omega)]
 unfold uA
 dsimp only
 have b1:(BitVec.ofInt IntKind.i64.bits (m:Int)).toNat=m % 18446744073709551616:=by rw [BitVec.ofInt_natCast];rfl
 rw [BitVec.toNat_xor,b1,Nat.mod_eq_of_lt (by omega)]
 by_cases h:o=0
 ·subst h
  rw [if_pos rfl,show (BitVec.ofInt IntKind.i64.bits (-((0:Nat):Int))).toNat=0 from rfl,Nat.xor_zero,fA (by omega) (by omega)]
 ·have:o=1:=by omega
  subst this
  rw [if_neg (by omega),show (BitVec.ofInt IntKind.i64.bits (-((1:Nat):Int))).toNat=18446744073709551615 from rfl,xorAll64 (by omega),IntKind.wrap_i64]
  omega
theorem uz_eq (z:Nat):(if z % 2=0 then ((z / 2:Nat):Int) else -((z / 2:Nat):Int)-1)=uz z:=rfl
theorem wInt_ok {s:Bs} {p:Nat} (hp:p≤s.length) (hs:s.length≤1000000):Ans (m148 (s,(p:Int))) (IntR s p):=by
 unfold m148
 dsimp only
 rw [mA,geI (by omega),geI (by omega),orF,cF]
 refine Ans.bind (P:=fun (o:Unit⊕Int×Int×Int)=>(o=.inl ()∧∀ n k,¬ IsI (s.drop p) n k)∨∃ r,o=.inr r∧IntR s p r) ?_ fun o ho=>?_
 ·refine Ans.loop (fun i z=>z=((gv ((s.drop p).take i):Int),(i:Int))∧i≤9∧p+i≤s.length∧∀ x∈(s.drop p).take i,128≤x.toNat) 9 ⟨by simp [gv],by omega,by omega,fun x hx=>by simp at hx⟩ ?_
  rintro i z hi ⟨rfl,h1,h2,h3⟩
  dsimp only
  by_cases h9:i=9
  ·rw [geI (by omega),cF]
   exact Ans.some (.inl ⟨rfl,isI_none h3 (.inl h9)⟩)
  rw [ltI (by omega),cT,fA (n:=(p:Int)+(i:Int)) (by omega) (by omega),show (p:Int)+(i:Int)=((p+i:Nat):Int) by omega]
  by_cases hl:p+i<s.length
  ·obtain ⟨b,hb⟩:∃ b,s[p+i]? = some b:=⟨_,gE hl⟩
   have hbl:=u8lt b
   have hz:=gv_lt ((s.drop p).take i)
   rw [sub_len (by omega)] at hz
   have hlen:=sub_len (s:=s) (p:=p) (i:=i) (by omega)
   have hsn:=take_snoc hb
   have hadd:=grp_add (i:=i) (by omega) hz (show b.toNat % 128<128 by omega)
   have hgv:gv ((s.drop p).take (i+1))=gv ((s.drop p).take i)+b.toNat % 128*128 ^ i:=by rw [hsn,gv_snoc,hlen]
   have hlt2:b.toNat % 128*128 ^ i<9223372036854775808:=by omega
   rw [gtI (by omega),cF,byteM_of hb,oB,show (127:Int)=((127:Nat):Int) from rfl,and8 (by omega) (by omega),and127,mD (n:=((b.toNat % 128:Nat):Int)) (by omega) (by omega),fA (n:=7*(i:Int)) (by omega) (by omega),show 7*(i:Int)=((7*i:Nat):Int) by omega,shlM_of (k:=.u64) (by show 7*i≤64;omega),oB]
   have e1:IntKind.wrap .u64 (((b.toNat % 128:Nat):Int)*2 ^ (7*i))=((b.toNat % 128*128 ^ i:Nat):Int):=by
    rw [pow128,show (((b.toNat % 128:Nat):Int)*2 ^ (7*i))=((b.toNat % 128*2 ^ (7*i):Nat):Int) by rw [Int.natCast_mul,Int.natCast_pow];rfl]
    rw [pow128] at hlt2
    exact mD (by omega) (by omega)
   have e2:uA .or .u64 (gv ((s.drop p).take i):Int) ((b.toNat % 128*128 ^ i:Nat):Int)=(gv ((s.drop p).take (i+1)):Int):=by
    rw [or64 (by omega) (by omega),hgv,Nat.or_comm,pow128]
    rw [pow128] at hz
    have:=Nat.two_pow_add_eq_or_of_lt hz (b.toNat % 128)
    rw [Nat.mul_comm,← this,Nat.add_comm]
   rw [e1,e2]
   by_cases hc:128≤b.toNat
   ·rw [leI (by omega),cT,fA (n:=(i:Int)+1) (by omega) (by omega)]
    refine Ans.some ⟨by omega,rfl,by omega,by omega,fun x hx=>?_⟩
    rw [hsn] at hx
    rcases List.mem_append.1 hx with q | q
    ·exact h3 x q
    ·rw [List.mem_singleton.1 q];exact hc
   ·have hsh:Sh ((s.drop p).take (i+1)) ((s.drop p).take i) b:=⟨hsn,h3,by omega⟩
    have hcan:=fun n k=>isI_canon (n:=n) (k:=k) hsh (pre_take _ _)
    have hZ:gv ((s.drop p).take (i+1))<9223372036854775808:=by rw [hgv];exact hadd
    have hlen1:((s.drop p).take (i+1)).length=i+1:=sub_len (by omega)
    have hc0:(s.drop p).take i=[]↔i=0:=by rw [← List.length_eq_zero_iff,hlen]
    generalize gv ((s.drop p).take (i+1))=Z at hcan hZ
    rw [gtI (by omega),cF,shrI (n:=1) (k:=.u64) Z 1 rfl (by decide),oB,show (1:Int)=((1:Nat):Int) from rfl,and64 (by omega) (by omega),and1,fA (n:=((shr Z 1:Nat):Int)) (by show _≤((Z / 2:Nat):Int);omega) (by show ((Z / 2:Nat):Int)≤_;omega),fA (n:=((Z % 2:Nat):Int)) (by omega) (by omega),show shr Z 1=Z / 2 from rfl,xorNeg (Z / 2) (by omega) (Z % 2) (by omega),uz_eq]
    have hub:uz Z≤4611686018427387903:=by unfold uz;split<;>omega
    by_cases hbad:(b.toNat=0∧0<i)∨uz Z < -4611686018427387903
    ·have:PE.orM (PE.andM (eqM (b.toNat:Int) 0) (ltM 0 (i:Int))) (ltM (uz Z) (-4611686018427387903))=true:=by
      unfold PE.orM PE.andM eqM ltM
      rw [← Bool.decide_and,← Bool.decide_or]
      exact dT (by omega)
     rw [this,cT]
     refine Ans.some (.inl ⟨rfl,fun n k h=>?_⟩)
     obtain ⟨g1,g2,g3,g4⟩:=(hcan n k).1 h
     rw [hc0] at g3
     unfold inR at g1
     omega
    ·have:PE.orM (PE.andM (eqM (b.toNat:Int) 0) (ltM 0 (i:Int))) (ltM (uz Z) (-4611686018427387903))=false:=by
      unfold PE.orM PE.andM eqM ltM
      rw [← Bool.decide_and,← Bool.decide_or]
      exact dF (by omega)
     rw [this,cF]
     have hin:IsI (s.drop p) (uz Z) (i+1):=(hcan _ _).2 ⟨by unfold inR;omega,rfl,by rw [hc0];omega,hlen1.symm⟩
     refine Ans.some (.inr ⟨_,rfl,fun n k h=>?_,fun h=>absurd hin (h _ _)⟩)
     obtain ⟨q1,q2⟩:=h.uniq hin
     rw [q1,q2,fA (by omega) (by omega)]
     congr 1
  ·rw [leI (by omega),cT]
   exact Ans.some (.inl ⟨rfl,isI_none h3 (.inr (by rw [List.length_drop];omega))⟩)
 ·rcases ho with ⟨rfl,h⟩ | ⟨r,rfl,h⟩
  ·exact Ans.some ⟨fun n k q=>absurd q (h n k),fun _=>rfl⟩
  ·exact Ans.some h
theorem isS_of {t:Bs} {n:Int} {k:Nat} (h:IsI t n k) (h0:0≤n) (h1:n≤65536) (h2:k+n.toNat≤t.length):IsS t ((t.drop k).take n.toNat) (k+n.toNat):=by
 obtain ⟨hk,e⟩:=h.le
 obtain ⟨_,rfl,_⟩:=h
 have hl:((t.drop (pI n).length).take n.toNat).length=n.toNat:=by rw [lT,List.length_drop];omega
 have hl2:((((t.drop (pI n).length).take n.toNat).length:Nat):Int)=n:=by rw [hl];omega
 refine ⟨by omega,?_,?_⟩
 ·unfold pS
  rw [lA,hl2,hl]
 ·unfold pS
  rw [hl2]
  conv=>rhs;rw [e]
  exact List.prefix_append_right_inj _ |>.2 (List.take_prefix _ _)
theorem isI_of {t u:Bs} {k:Nat} (h:IsS t u k):IsI t u.length (k-u.length)∧u.length≤k∧(t.drop (k-u.length)).take u.length=u∧k≤t.length:=by
 obtain ⟨hk,e⟩:=h.le
 obtain ⟨h1,rfl,h3⟩:=h
 have hl:(pS u).length-u.length=(pI u.length).length:=by unfold pS;rw [lA];omega
 rw [hl]
 refine ⟨⟨inR_len h1,rfl,?_⟩,by unfold pS;rw [lA];omega,?_,hk⟩
 ·obtain ⟨x,hx⟩:=h3
  exact ⟨u++x,by rw [← hx];unfold pS;rw [aA]⟩
 ·rw [e]
  unfold pS
  rw [aA,List.drop_left,List.take_left]
theorem str_ok {s:Bs} {p:Nat} (hp:p≤s.length) (hs:s.length≤1000000) {r:Int×Int×Int} (hr:IntR s p r) :
  Ans (bif PE.notM (eqM r.2.2 0) then some ([],0,r.2.2) else bif PE.orM (PE.orM (ltM r.1 0) (ltM 65536 r.1)) (ltM (IntKind.wrap .i64 (lenM s-r.2.1)) r.1) then some ([],0,10) else (pA s r.2.1 (IntKind.wrap .i64 (r.2.1+r.1))).bind fun r_1=>some (r_1,IntKind.wrap .i64 (r.2.1+r.1),0)) (StrR s p):=by
 rcases hr.cases with ⟨n,k,h,rfl⟩ | ⟨h,rfl⟩
 ·dsimp only
  have hk:=h.le.1
  have hn:=h.1
  unfold inR at hn
  rw [List.length_drop] at hk
  rw [eqI rfl,sA,cF,mA,fA (n:=(s.length:Int)-((p+k:Nat):Int)) (by omega) (by omega)]
  by_cases hb:(n<0∨65536<n)∨(s.length:Int)-((p+k:Nat):Int)<n
  ·have:PE.orM (PE.orM (ltM n 0) (ltM 65536 n)) (ltM ((s.length:Int)-((p+k:Nat):Int)) n)=true:=by
    unfold PE.orM ltM
    rw [← Bool.decide_or,← Bool.decide_or];exact dT hb
   rw [this,cT]
   refine Ans.some ⟨fun u j g=>?_,fun _=>rfl⟩
   obtain ⟨g1,g2,g3,g4⟩:=isI_of g
   obtain ⟨q1,q2⟩:=g1.uniq h
   have:=g.1
   rw [List.length_drop] at g4
   omega
  ·have:PE.orM (PE.orM (ltM n 0) (ltM 65536 n)) (ltM ((s.length:Int)-((p+k:Nat):Int)) n)=false:=by
    unfold PE.orM ltM
    rw [← Bool.decide_or,← Bool.decide_or];exact dF hb
   have hS:=isS_of h (by omega) (by omega) (by rw [List.length_drop];omega)
   rw [this,cF,fA (by omega) (by omega),fB (by omega) (by omega) (by omega),oB]
   have e:((s.take (((p+k:Nat):Int)+n).toNat).drop ((p+k:Nat):Int).toNat)=((s.drop p).drop k).take n.toNat:=by
    rw [List.drop_take,List.drop_drop,show (((p+k:Nat):Int)+n).toNat-((p+k:Nat):Int).toNat=n.toNat by omega,Int.toNat_natCast]
   rw [e]
   refine Ans.some ⟨fun u j g=>?_,fun g=>absurd hS (g _ _)⟩
   obtain ⟨q1,q2⟩:=g.uniq hS
   rw [q1,q2]
   congr 2
   omega
 ·dsimp only
  rw [neI (by decide),xA,cT]
  refine Ans.some ⟨fun u j g=>absurd (isI_of g).1 (h _ _),fun _=>rfl⟩
theorem wStr_ok {s:Bs} {p:Nat} (hp:p≤s.length) (hs:s.length≤1000000):Ans (m137 (s,(p:Int))) (StrR s p):=by
 unfold m137
 dsimp only
 exact Ans.bind (wInt_ok hp hs) fun r hr=>str_ok hp hs hr
def RepR (s:Bs) (o:Rp×Int):Prop:=(∀ r,OkR r→s=en r→o=(r,0))∧((∀ r,OkR r→s≠en r)→o=(zR,390))
theorem yE {s:Bs} (hs:s.length≤1000000) {p:Nat} (hp:p≤s.length) {f:Int×Int×Int→Option (Rp×Int)}
  (h2:(∀ n x,inR n→s.drop p≠pI n++x)→Ans (f (0,0,10)) (RepR s))
  (h1:∀ n k,inR n→s.drop p=pI n++s.drop (p+k)→p+k≤s.length→Ans (f (n,((p+k:Nat):Int),0)) (RepR s)):Ans ((m148 (s,(p:Int))).bind f) (RepR s):=by
 refine Ans.bind (wInt_ok hp hs) fun r hr=>?_
 rcases hr.cases with ⟨n,k,h,rfl⟩ | ⟨h,rfl⟩
 ·obtain ⟨q1,q2⟩:=h.le
  rw [List.length_drop] at q1
  rw [List.drop_drop] at q2
  exact h1 n k h.1 q2 (by omega)
 ·refine h2 fun n x hn e=>h n (pI n).length ⟨hn,rfl,?_⟩
  exact ⟨x,e.symm⟩
theorem wStr_next {s:Bs} (hs:s.length≤1000000) {p:Nat} (hp:p≤s.length) {f:Bs×Int×Int→Option (Rp×Int)}
  (h2:(∀ (n:Bs) x,n.length≤65536→s.drop p≠pS n++x)→Ans (f ([],0,10)) (RepR s))
  (h1:∀ (n:Bs) k,n.length≤65536→s.drop p=pS n++s.drop (p+k)→p+k≤s.length→Ans (f (n,((p+k:Nat):Int),0)) (RepR s)):Ans ((m137 (s,(p:Int))).bind f) (RepR s):=by
 refine Ans.bind (wStr_ok hp hs) fun r hr=>?_
 rcases hr.cases with ⟨n,k,h,rfl⟩ | ⟨h,rfl⟩
 ·obtain ⟨q1,q2⟩:=h.le
  rw [List.length_drop] at q1
  rw [List.drop_drop] at q2
  exact h1 n k h.1 q2 (by omega)
 ·refine h2 fun n x hn e=>h n (pS n).length ⟨hn,rfl,?_⟩
  exact ⟨x,e.symm⟩
theorem uI {r:Rp} (h:OkR r):inR r.sv∧inR r.nu∧inR r.da∧inR r.ki∧inR r.su∧inR r.va∧inR r.rf∧r.pv.length≤65536∧r.tg.length≤65536:=by
 obtain ⟨a1,a2,a3,a4,a5,a6,a7,a8,a9⟩:=h
 unfold inR
 omega
theorem en_eq (r:Rp):en r=pI r.sv++(pI r.nu++(pI r.da++(pI r.ki++(pI r.su++(pI r.va++(pI r.rf++(pS r.pv++(pS r.tg++[])))))))):=by
 unfold en sg;simp
theorem sE {s:Bs} (h:∀ r,OkR r→s≠en r):Ans (some (((0,0,0,0,0,0,0,[],[]):Rp),(390:Int))) (RepR s):=Ans.some ⟨fun r hr e=>absurd e (h r hr),fun _=>rfl⟩
theorem wDec_ok {s:Bs} (hs:s.length≤1000000):Ans (m59 s) (RepR s):=by
 unfold m59
 have E0:=fun (r:Rp) (hr:OkR r) (e:s=en r)=>(List.drop_zero (l:=s)).trans (e.trans (en_eq r))
 refine yE (p:=0) hs (by omega) (fun h=>?_) (fun n1 k1 i1 e1 l1=>?_)
 ·dsimp only
  rw [neI (by decide),xA,cT]
  exact sE fun r hr e=>h r.sv _ (uI hr).1 (E0 r hr e)
 dsimp only
 rw [eqI rfl,sA,cF]
 have E1:=fun (r:Rp) (hr:OkR r) (e:s=en r)=>(sD (e1.symm.trans (E0 r hr e))).2
 refine yE (p:=(0+k1)) hs (by omega) (fun h=>?_) (fun n2 k2 i2 e2 l2=>?_)
 ·dsimp only
  rw [neI (by decide),xA,cT]
  exact sE fun r hr e=>h r.nu _ (uI hr).2.1 (E1 r hr e)
 dsimp only
 rw [eqI rfl,sA,cF]
 have E2:=fun (r:Rp) (hr:OkR r) (e:s=en r)=>(sD (e2.symm.trans (E1 r hr e))).2
 refine yE (p:=((0+k1)+k2)) hs (by omega) (fun h=>?_) (fun n3 k3 i3 e3 l3=>?_)
 ·dsimp only
  rw [neI (by decide),xA,cT]
  exact sE fun r hr e=>h r.da _ (uI hr).2.2.1 (E2 r hr e)
 dsimp only
 rw [eqI rfl,sA,cF]
 have E3:=fun (r:Rp) (hr:OkR r) (e:s=en r)=>(sD (e3.symm.trans (E2 r hr e))).2
 refine yE (p:=(((0+k1)+k2)+k3)) hs (by omega) (fun h=>?_) (fun n4 k4 i4 e4 l4=>?_)
 ·dsimp only
  rw [neI (by decide),xA,cT]
  exact sE fun r hr e=>h r.ki _ (uI hr).2.2.2.1 (E3 r hr e)
 dsimp only
 rw [eqI rfl,sA,cF]
 have E4:=fun (r:Rp) (hr:OkR r) (e:s=en r)=>(sD (e4.symm.trans (E3 r hr e))).2
 refine yE (p:=((((0+k1)+k2)+k3)+k4)) hs (by omega) (fun h=>?_) (fun n5 k5 i5 e5 l5=>?_)
 ·dsimp only
  rw [neI (by decide),xA,cT]
  exact sE fun r hr e=>h r.su _ (uI hr).2.2.2.2.1 (E4 r hr e)
 dsimp only
 rw [eqI rfl,sA,cF]
 have E5:=fun (r:Rp) (hr:OkR r) (e:s=en r)=>(sD (e5.symm.trans (E4 r hr e))).2
 refine yE (p:=(((((0+k1)+k2)+k3)+k4)+k5)) hs (by omega) (fun h=>?_) (fun n6 k6 i6 e6 l6=>?_)
 ·dsimp only
  rw [neI (by decide),xA,cT]
  exact sE fun r hr e=>h r.va _ (uI hr).2.2.2.2.2.1 (E5 r hr e)
 dsimp only
 rw [eqI rfl,sA,cF]
 have E6:=fun (r:Rp) (hr:OkR r) (e:s=en r)=>(sD (e6.symm.trans (E5 r hr e))).2
 refine yE (p:=((((((0+k1)+k2)+k3)+k4)+k5)+k6)) hs (by omega) (fun h=>?_) (fun n7 k7 i7 e7 l7=>?_)
 ·dsimp only
  rw [neI (by decide),xA,cT]
  exact sE fun r hr e=>h r.rf _ (uI hr).2.2.2.2.2.2.1 (E6 r hr e)
 dsimp only
 rw [eqI rfl,sA,cF]
 have E7:=fun (r:Rp) (hr:OkR r) (e:s=en r)=>(sD (e7.symm.trans (E6 r hr e))).2
 refine wStr_next (p:=(((((((0+k1)+k2)+k3)+k4)+k5)+k6)+k7)) hs (by omega) (fun h=>?_) (fun n8 k8 i8 e8 l8=>?_)
 ·dsimp only
  rw [neI (by decide),xA,cT]
  exact sE fun r hr e=>h r.pv _ (uI hr).2.2.2.2.2.2.2.1 (E7 r hr e)
 dsimp only
 rw [eqI rfl,sA,cF]
 have E8:=fun (r:Rp) (hr:OkR r) (e:s=en r)=>(pS_pre (e8.symm.trans (E7 r hr e))).2
 refine wStr_next (p:=((((((((0+k1)+k2)+k3)+k4)+k5)+k6)+k7)+k8)) hs (by omega) (fun h=>?_) (fun n9 k9 i9 e9 l9=>?_)
 ·dsimp only
  rw [neI (by decide),xA,cT]
  exact sE fun r hr e=>h r.tg _ (uI hr).2.2.2.2.2.2.2.2 (E8 r hr e)
 dsimp only
 rw [eqI rfl,sA,cF]
 have hall:s=en (n1,n2,n3,n4,n5,n6,n7,n8,n9)++s.drop (((((((((0+k1)+k2)+k3)+k4)+k5)+k6)+k7)+k8)+k9):=by
  rw [en,sg]
  simp only [aA,Rp.sv,Rp.nu,Rp.da,Rp.ki,Rp.su,Rp.va,Rp.rf,Rp.pv,Rp.tg]
  rw [← e9,← e8,← e7,← e6,← e5,← e4,← e3,← e2,← e1,List.drop_zero]
 rw [mA]
 have huniq:∀ r,s=en r→r=(n1,n2,n3,n4,n5,n6,n7,n8,n9)∧s.drop (((((((((0+k1)+k2)+k3)+k4)+k5)+k6)+k7)+k8)+k9)=[]:=fun r e=>by
  have:=en_pre (a:=r) (b:=(n1,n2,n3,n4,n5,n6,n7,n8,n9)) (x:=[]) (y:=s.drop (((((((((0+k1)+k2)+k3)+k4)+k5)+k6)+k7)+k8)+k9)) (by rw [← hall,List.append_nil,← e])
  exact ⟨this.1,this.2.symm⟩
 by_cases hend:(((((((((0+k1)+k2)+k3)+k4)+k5)+k6)+k7)+k8)+k9)=s.length
 ·rw [eqI (by omega),sA,xA,cT,wOk_eq,oB,orF]
  have h0:s.drop (((((((((0+k1)+k2)+k3)+k4)+k5)+k6)+k7)+k8)+k9)=[]:=List.drop_of_length_le (by omega)
  rw [h0,List.append_nil] at hall
  by_cases ho:OkR (n1,n2,n3,n4,n5,n6,n7,n8,n9)
  ·rw [dT ho,sA,cF]
   exact Ans.some ⟨fun r hr e=>by rw [(huniq r e).1],fun h=>absurd hall (h _ ho)⟩
  ·rw [dF ho,xA,cT]
   exact sE fun r hr e=>ho (by rw [← (huniq r e).1];exact hr)
 ·rw [neI (by omega),xA,sA,cF,oB,orT,cT]
  refine sE fun r hr e=>hend ?_
  have:=congrArg List.length (huniq r e).2
  rw [List.length_drop] at this
  simp at this
  omega
variable [EA]
def Pw (P:List (List Bs)):Prop:=P.Pairwise (fun p q=>q.length<p.length)∧∀ p∈P,∃ a,p.length=2 ^ a
theorem pow_lt2 {a b:Nat} (h:(2:Nat) ^ a<2 ^ b):2*2 ^ a≤2 ^ b:=by
 have:a<b:=(Nat.pow_lt_pow_iff_right (by omega)).1 h
 rw [show 2*2 ^ a=2 ^ (a+1) by rw [Nat.pow_succ];omega]
 exact Nat.pow_le_pow_right (by omega) this
theorem Pw.tail {p:List Bs} {P:List (List Bs)} (h:Pw (p::P)):Pw P:=⟨(List.pairwise_cons.1 h.1).2,fun q hq=>h.2 q (by simp [hq])⟩
theorem Pw.sum:∀ {p:List Bs} {P:List (List Bs)},Pw (p::P)→P.flatten.length<p.length
 | p,[],h=>by
  obtain ⟨a,ha⟩:=h.2 p (by simp)
  have:=Nat.two_pow_pos a
  simp;omega
 | p,q::P,h=>by
  have h1:=Pw.sum h.tail
  have h2:=(List.pairwise_cons.1 h.1).1 q (by simp)
  obtain ⟨a,ha⟩:=h.2 p (by simp)
  obtain ⟨b,hb⟩:=h.2 q (by simp)
  rw [ha,hb] at h2
  have:=pow_lt2 h2
  rw [List.flatten_cons,lA];omega
theorem Pw.root {p:List Bs} {P:List (List Bs)} (h:Pw (p::P)) (hP:P≠[]):rootL (p::P).flatten=node (rootL p) (rootL P.flatten):=by
 obtain ⟨a,ha⟩:=h.2 p (by simp)
 have h1:=h.sum
 rw [List.flatten_cons]
 refine rootL_split ha ?_ (by omega)
 match P,hP with
 | q::P,_ =>
  obtain ⟨b,hb⟩:=h.2 q (by simp)
  have:=Nat.two_pow_pos b
  rw [List.flatten_cons,lA];omega
theorem Pw.drop {P:List (List Bs)} (h:Pw P) (k:Nat):Pw (P.drop k):=⟨h.1.sublist (List.drop_sublist k P),fun p hp=>h.2 p (List.mem_of_mem_drop hp)⟩
structure Pq1 (P:List (List Bs)) (q:List Bs):Prop where
 pw:Pw P
 two:∃ a,q.length=2 ^ a
 le:∀ p∈P,q.length≤p.length
theorem Pq1.done {P:List (List Bs)} {q:List Bs} (h:Pq1 P q) (hne:∀ P' p,P=P'++[p]→p.length≠q.length):Pw (P++[q]):=by
 refine ⟨List.pairwise_append.2 ⟨h.pw.1,List.pairwise_singleton _ _,fun p hp x hx=>?_⟩,fun p hp=>?_⟩
 ·rw [List.mem_singleton.1 hx]
  rcases List.eq_nil_or_concat P with e | ⟨P',t,e⟩
  ·rw [e] at hp;simp at hp
  ·rw [List.concat_eq_append] at e
   have h1:=hne P' t e
   have h2:=h.le t (by rw [e];simp)
   rw [e] at hp
   rcases List.mem_append.1 hp with g | g
   ·have hp2:=h.pw.1
    rw [e,List.pairwise_append] at hp2
    have:=hp2.2.2 p g t (by simp)
    omega
   ·rw [List.mem_singleton.1 g];omega
 ·rcases List.mem_append.1 hp with g | g
  ·exact h.pw.2 p g
  ·rw [List.mem_singleton.1 g];exact h.two
theorem Pq1.merge {P:List (List Bs)} {p q:List Bs} (h:Pq1 (P++[p]) q) (e:p.length=q.length):Pq1 P (p++q)∧rootL (p++q)=node (rootL p) (rootL q):=by
 obtain ⟨a,ha⟩:=h.two
 have hpos:=Nat.two_pow_pos a
 have hp2:=h.pw.1
 rw [List.pairwise_append] at hp2
 refine ⟨⟨⟨hp2.1,fun x hx=>h.pw.2 x (by simp [hx])⟩,⟨a+1,by rw [lA,Nat.pow_succ];omega⟩,fun x hx=>?_⟩,rootL_split (a:=a) (by omega) (by omega) (by omega)⟩
 have h1:=hp2.2.2 x hx p (by simp)
 obtain ⟨b,hb⟩:=h.pw.2 x (by simp [hx])
 rw [hb,e,ha] at h1
 have:=pow_lt2 h1
 rw [lA];omega
def szs (P:List (List Bs)):List Int:=P.map fun p=>(p.length:Int)
theorem szs_len (P:List (List Bs)):(szs P).length=P.length:=by simp [szs]
theorem szs_app (P Q:List (List Bs)):szs (P++Q)=szs P++szs Q:=by simp [szs]
theorem wRoot_ok {l:List Bs} (hl:l.length≤100000) (hs:∀ s∈l,s.length≤800000):m69 l=some (rootL l):=by
 unfold m69
 refine Ans.bindEq (Q:=fun (o:List Bs)=>∃ P,Pw P∧P.flatten=l∧o=P.map rootL∧P.length≤l.length) ?_ fun o ho=>?_
 ·refine Ans.loop (fun i z=>∃ P,Pw P∧P.flatten=l.take i∧i≤l.length∧P.length≤i∧z=((i:Int),P.map rootL,szs P)) l.length ⟨[],⟨List.Pairwise.nil,fun p hp=>by simp at hp⟩,by simp,by omega,by simp,rfl⟩ ?_
  rintro i z hi ⟨P,h1,h2,h3,h4,rfl⟩
  dsimp only
  rw [mA]
  by_cases hil:i<l.length
  ·rw [ltI (by omega),cT,aB hil,oB,wLeaf_ok (hs _ (List.getElem_mem hil)),oB,aC (by simp;omega),oB,aC (by rw [szs_len];simp;omega),oB]
   have r2:P.map rootL++[leaf l[i]]=(P++[[l[i]]]).map rootL:=by rw [List.map_append,List.map_cons,rootL_one];rfl
   have r3:szs P++[1]=szs (P++[[l[i]]]):=by rw [szs_app];rfl
   rw [r2,r3]
   refine Ans.bind (P:=fun (o:List Bs×List Int)=>∃ Q,Pw Q∧Q.flatten=l.take (i+1)∧Q.length≤i+1∧o=(Q.map rootL,szs Q)) ?_ fun o ho=>?_
   ·refine Ans.loop (fun j z=>∃ Q q,Pq1 Q q∧Q.length+j≤i∧(Q++[q]).flatten=l.take (i+1)∧z=((Q.length:Int)+1,(Q++[q]).map rootL,szs (Q++[q]))) i ⟨P,[l[i]],⟨h1,⟨0,rfl⟩,fun p hp=>?_⟩,by omega,?_,?_⟩ ?_
    ·obtain ⟨a,ha⟩:=h1.2 p hp
     have:=Nat.two_pow_pos a
     simp;omega
    ·rw [List.flatten_append,h2,List.take_add_one,gE hil];simp
    ·rw [mA,szs_len];simp
    ·rintro j z hj ⟨Q,q,g1,g2,g3,rfl⟩
     dsimp only
     rcases List.eq_nil_or_concat Q with e | ⟨Q',p,e⟩
     ·subst e
      rw [geI (by simp)]
      simp only [cF,oB,mK]
      exact Ans.some ⟨[q],by simpa using g1.done (fun P' p h=>by simp at h),by simpa using g3,by simp,rfl⟩
     ·rw [List.concat_eq_append] at e
      subst e
      have hQl:(Q'++[p]).length=Q'.length+1:=by simp
      rw [hQl] at g2 ⊢
      have hn2:IntKind.wrap .i64 (((Q'.length+1:Nat):Int)+1-2)=(Q'.length:Int):=by rw [fA (by omega) (by omega)];omega
      have hn1:IntKind.wrap .i64 (((Q'.length+1:Nat):Int)+1-1)=((Q'.length+1:Nat):Int):=by rw [fA (by omega) (by omega)];omega
      have lw:((Q'++[p]++[q]).map rootL).length=Q'.length+2:=by simp
      have ls:(szs (Q'++[p]++[q])).length=Q'.length+2:=by rw [szs_len];simp
      have i1:gA (szs (Q'++[p]++[q])) (Q'.length:Int)=some (p.length:Int):=by rw [eC];simp [szs]
      have i2:gA (szs (Q'++[p]++[q])) ((Q'.length+1:Nat):Int)=some (q.length:Int):=by rw [eC];simp [szs]
      have i3:gA ((Q'++[p]++[q]).map rootL) (Q'.length:Int)=some (rootL p):=by rw [eC];simp
      have i4:gA ((Q'++[p]++[q]).map rootL) ((Q'.length+1:Nat):Int)=some (rootL q):=by rw [eC];simp
      rw [hn2,hn1,i1,i2,i3,i4,mA,mA,lw,ls,ltI (a:=1) (by omega),bB (i:=(Q'.length:Int)) (n:=((Q'.length+2:Nat):Int)) (by omega) (by omega),bB (i:=((Q'.length+1:Nat):Int)) (n:=((Q'.length+2:Nat):Int)) (by omega) (by omega)]
      simp only [cT,oB,mG]
      by_cases e:p.length=q.length
      ·obtain ⟨m1,m2⟩:=g1.merge e
       rw [eqI (by omega),cT,bB (by omega) (by omega),oB,wNode_ok (by rw [tK,tK];omega),oB,fB (by omega) (by omega) (by rw [lw];omega),oB]
       have t1:((((Q'++[p]++[q]).map rootL).take (Q'.length:Int).toNat).drop (0:Int).toNat)=Q'.map rootL:=by simp [List.take_append_of_le_length]
       have t2:(((szs (Q'++[p]++[q])).take (Q'.length:Int).toNat).drop (0:Int).toNat)=szs Q':=by simp [szs,List.take_append_of_le_length]
       have hq:q.length≤l.length:=by
        have:=congrArg List.length g3
        rw [List.flatten_append,lA,lT] at this
        simp at this;omega
       rw [t1,aC (by simp;omega),oB,fB (by omega) (by omega) (by rw [ls];omega),oB,t2,oB,fA (n:=2*(q.length:Int)) (by omega) (by omega),aC (by rw [szs_len];simp;omega),oB]
       refine Ans.some ⟨by omega,Q',p++q,m1,by omega,by rw [← g3];simp,?_⟩
       have u1:Q'.map rootL++[node (rootL p) (rootL q)]=(Q'++[p++q]).map rootL:=by rw [List.map_append,List.map_cons,m2];rfl
       have u2:szs Q'++[2*(q.length:Int)]=szs (Q'++[p++q]):=by
        rw [szs_app];unfold szs;simp;omega
       rw [u1,u2];rfl
      ·rw [neI (by omega),cF]
       refine Ans.some ⟨Q'++[p]++[q],g1.done fun P' x hx=>?_,g3,by simp;omega,rfl⟩
       obtain ⟨_,hx2⟩:=List.append_inj' hx rfl
       simp at hx2
       rw [← hx2];exact e
   ·obtain ⟨Q,q1,q2,q3,rfl⟩:=ho
    rw [fA (by omega) (by omega)]
    exact Ans.some ⟨by omega,Q,q1,q2,by omega,q3,rfl⟩
  ·rw [geI (by omega),cF]
   refine Ans.some ⟨P,h1,?_,rfl,by omega⟩
   rw [h2,tkL (by omega)]
 ·obtain ⟨P,h1,h2,rfl,h4⟩:=ho
  rw [mA,List.length_map]
  rcases List.eq_nil_or_concat P with e | ⟨Q,q,e⟩
  ·subst e
   rw [← h2,List.length_nil,eqI (by omega),cT,wSum_ok (by simp),oB,show ([]:List (List Bs)).flatten=[] from rfl,rootL_nil]
  ·rw [List.concat_eq_append] at e
   have hQ:P.length=Q.length+1:=by rw [e];simp
   have hn1:IntKind.wrap .i64 ((P.length:Int)-1)=(Q.length:Int):=by rw [fA (by omega) (by omega)];omega
   have i1:gA (P.map rootL) (Q.length:Int)=some (rootL q):=by rw [eC,e];simp
   have t1:(((P.map rootL).take (Q.length:Int).toNat).drop (0:Int).toNat)=Q.map rootL:=by rw [e];simp [List.take_append_of_le_length]
   rw [neI (by omega),cF,hn1,bB (by omega) (by omega),oB,i1,oB,fB (by omega) (by omega) (by rw [List.length_map];omega),oB,t1,mA,List.length_map,fA (n:=(Q.length:Int)-1) (by omega) (by omega)]
   refine eA (vA (fun j=>((Q.length:Int)-1-(j:Int),rootL (P.drop (Q.length-j)).flatten)) Q.length ?_ (fun j hj=>?_) ?_) rfl
   ·rw [Nat.sub_zero,e,List.drop_left];simp
   ·obtain ⟨m,hm⟩:∃ m,Q.length-j=m+1:=⟨Q.length-j-1,by omega⟩
    have hd:P.drop m=(P[m]'(by omega))::P.drop (m+1):=List.drop_eq_getElem_cons (by omega)
    have i2:gA (Q.map rootL) ((Q.length:Int)-1-(j:Int))=some (rootL (P[m]'(by omega))):=by
     rw [show (Q.length:Int)-1-(j:Int)=(m:Int) by omega,eC,List.getElem?_map,gE (by omega)]
     simp [e,List.getElem_append_left (show m<Q.length by omega)]
    dsimp only
    rw [leI (by omega),cT,i2,oB,hm,wNode_ok (by rw [tK,tK];omega),oB,fA (by omega) (by omega),show Q.length-(j+1)=m by omega,hd]
    have hp:=(hd▸h1.drop m:Pw (P[m]'(by omega)::P.drop (m+1)))
    rw [hp.root (by
     intro h
     have:=congrArg List.length h
     rw [List.length_drop] at this
     simp at this;omega)]
    congr 3
    omega
   ·dsimp only
    rw [gtI (by omega),cF,Nat.sub_self,List.drop_zero,h2]
theorem wEnc_eq (r:Rp):m11 r=some (if OkR r then (en r,0) else ([],390)):=by
 unfold m11
 rw [eR,wOk_eq,oB]
 by_cases h:OkR r
 ·rw [dT h,sA,cF,oK,oB,pH h,if_pos h]
 ·rw [dF h,xA,cT,if_neg h]
theorem wHead_eq {a:List Rp} (ha:a.length≤1000000):m21 a=some (if OkA a then (rootL (a.map en),0) else ([],390)):=by
 unfold m21
 rw [bC ha,oB]
 by_cases h:OkA a
 ·obtain ⟨a1,a2,a3⟩:=h
  rw [dT ⟨a1,a2,a3⟩,sA,cF,if_pos ⟨a1,a2,a3⟩]
  refine eA (x:=a.map en) (vA (fun k=>((k:Int),(a.take k).map en)) a.length rfl (fun k hk=>?_) ?_) ?_
  ·have ho:=a1 _ (List.getElem_mem hk)
   dsimp only
   rw [mA,ltI (by omega),cT,aB hk,oB,eR,oK,oB,pH ho,aC (by simp;omega),oB,fA (by omega) (by omega),List.take_add_one,gE hk,List.map_append]
   rfl
  ·dsimp only
   rw [mA,geI (by omega),cF,List.take_length]
  ·rw [wRoot_ok (by simp;omega) (fun s hs=>by
    obtain ⟨r,hr,rfl⟩:=List.mem_map.1 hs
    have:=(cH (a1 r hr)).2
    omega),oB]
 ·rw [dF h,xA,cT,if_neg h]
theorem wLoad_ok {l:List Bs} (hl:l.length≤1000) (hs:∀ s∈l,s.length≤1000000):∃ D:List Rp,(∀ r,r∈D↔OkR r∧en r∈l)∧m14 l=some (mk40 (mB D)):=by
 have key:Ans (m14 l) (fun o=>∃ D:List Rp,(∀ r,r∈D↔OkR r∧en r∈l)∧o=mk40 (mB D)):=by
  unfold m14
  refine Ans.bind (P:=fun (D:List Rp)=>D.length≤l.length∧∀ r,r∈D↔OkR r∧en r∈l) ?_ fun D hD=>?_
  ·refine Ans.loop (fun k z=>∃ D:List Rp,z=((k:Int),D)∧k≤l.length∧D.length≤k∧∀ r,r∈D↔OkR r∧en r∈l.take k) l.length ⟨[],rfl,by omega,by simp,fun r=>by simp⟩ ?_
   rintro k z hk ⟨D,rfl,h1,h2,h3⟩
   dsimp only
   rw [mA]
   by_cases hkl:k<l.length
   ·rw [ltI (by omega),cT,aB hkl,oB]
    obtain ⟨o,e1,e2,e3⟩:=wDec_ok (hs _ (List.getElem_mem hkl))
    have tk:l.take (k+1)=l.take k++[l[k]]:=by rw [List.take_add_one,gE hkl];rfl
    rw [e1,oB]
    by_cases hx:∃ r,OkR r∧l[k]=en r
    ·obtain ⟨x,hx1,hx2⟩:=hx
     rw [e2 x hx1 hx2]
     dsimp only
     rw [eqI rfl,cT,eR,fG (by simp;omega),oB,oB,fA (by omega) (by omega)]
     refine Ans.some ⟨by omega,D++[x],rfl,by omega,by simp;omega,fun r=>?_⟩
     rw [tk,List.mem_append,List.mem_singleton,List.mem_append,List.mem_singleton,h3]
     constructor
     ·rintro (⟨p,q⟩ | p)
      ·exact ⟨p,.inl q⟩
      ·rw [p];exact ⟨hx1,.inr hx2.symm⟩
     ·rintro ⟨p,q | q⟩
      ·exact .inl ⟨p,q⟩
      ·exact .inr (en_inj (q.trans hx2))
    ·have hne:∀ r,OkR r→l[k]≠en r:=fun r h1 h2=>hx ⟨r,h1,h2⟩
     rw [e3 hne]
     dsimp only
     rw [neI (by decide),cF,oB,fA (by omega) (by omega)]
     refine Ans.some ⟨by omega,D,rfl,by omega,by omega,fun r=>?_⟩
     rw [tk,List.mem_append,List.mem_singleton,h3]
     constructor
     ·rintro ⟨p,q⟩;exact ⟨p,.inl q⟩
     ·rintro ⟨p,q | q⟩
      ·exact ⟨p,q⟩
      ·exact absurd q.symm (hne r p)
   ·rw [geI (by omega),cF]
    rw [tkL (by omega)] at h3
    exact Ans.some ⟨by omega,h3⟩
  ·exact Ans.of (eA (made_ok (xs:=D) (fun x hx=>((hD.2 x).1 hx).1) (by omega)) rfl) ⟨D,hD.2,rfl⟩
 obtain ⟨o,h1,D,h2,rfl⟩:=key
 exact ⟨D,h2,h1⟩
theorem wBelieved_eq {a:List Rp} {s:Int} (ha:a.length≤1000000):m24 (a,s)=some (if OkA a then bel a s else []):=by
 unfold m24
 dsimp only
 rw [bC ha,oB]
 by_cases h:OkA a
 ·rw [dT h,sA,cF,wBel_ok h,oB,if_pos h]
 ·rw [dF h,xA,cT,if_neg h]
end Go.Proofs.YtdjfiampkhfooaaGreatDoor
namespace Go.Ar
def Kc (x y:Rp):Prop:=x.su<y.su∨(x.su=y.su∧x.sv<y.sv)
theorem Kc.irr (x:Rp):¬ Kc x x:=by unfold Kc;omega
theorem Kc.tr {x y z:Rp} (h:Kc x y) (k:Kc y z):Kc x z:=by unfold Kc at *;omega
def rH (a:List Rp):List Rp:=(List.range 8).flatMap fun (s:Nat)=>nJ (bel a s)
structure CurR (a ys:List Rp):Prop where
 ord:ys.Pairwise Kc
 mem:∀ x,x∈ys↔x∈rH a
theorem CurR.uniq {a ys zs:List Rp} (h:CurR a ys) (k:CurR a zs):ys=zs:=ext_of Kc.irr (fun h k=>Kc.tr h k) h.ord k.ord fun x=>by rw [h.mem,k.mem]
theorem fI {l:List Rp} {x:Rp} (h:x∈nJ l):x∈l∧x.ki≠2:=by
 obtain ⟨h1,_,h2,_⟩:=dI _ _ _ x h
 exact ⟨by simpa using h1,h2⟩
theorem bel_sv {a:List Rp} {s:Int} {x:Rp} (h:x∈bel a s):x∈a∧x.sv=s:=by
 obtain ⟨i,hi,e⟩:=List.getElem_of_mem h
 have:=Pbel.mem (bel_is a s).1 (i:=i) (r:=x) (by rw [gE hi,e])
 exact ⟨this.1,this.2.1⟩
theorem curAll_mem {a:List Rp} {x:Rp}:x∈rH a↔∃ s:Nat,s<8∧x∈nJ (bel a s):=by
 unfold rH
 rw [List.mem_flatMap]
 constructor
 ·rintro ⟨s,h1,h2⟩;exact ⟨s,List.mem_range.1 h1,h2⟩
 ·rintro ⟨s,h1,h2⟩;exact ⟨s,List.mem_range.2 h1,h2⟩
theorem curOf_dist (l:List Rp):(nJ l).Pairwise fun a b=>a.su≠b.su:=eI _ _ _
theorem eK (a:List Rp):∀ n,((List.range n).flatMap fun (s:Nat)=>nJ (bel a s)).Pairwise fun x y=>¬ (x.su=y.su∧x.sv=y.sv)
 | 0=>List.Pairwise.nil
 | n+1=>by
  rw [List.range_succ,List.flatMap_append]
  refine List.pairwise_append.2 ⟨eK a n,?_,fun x hx y hy h=>?_⟩
  ·simp only [List.flatMap_cons,List.flatMap_nil,List.append_nil]
   exact (curOf_dist _).imp fun h k=>h k.1
  ·simp only [List.flatMap_cons,List.flatMap_nil,List.append_nil] at hy
   rw [List.mem_flatMap] at hx
   obtain ⟨s,h1,h2⟩:=hx
   have e1:=(bel_sv (fI h2).1).2
   have e2:=(bel_sv (fI hy).1).2
   have:=List.mem_range.1 h1
   omega
theorem strict_of {ys out:List Rp} (hp:ys.Perm out) (hd:out.Pairwise fun x y=>¬ (x.su=y.su∧x.sv=y.sv)) (hs:ys.Pairwise fun x y=>¬ Kc y x):ys.Pairwise Kc:=by
 have hd2:ys.Pairwise fun x y=>¬ (x.su=y.su∧x.sv=y.sv):=(hp.pairwise_iff (fun {x y} h k=>h ⟨k.1.symm,k.2.symm⟩)).2 hd
 refine (List.Pairwise.and hs hd2).imp fun h=>?_
 unfold Kc at *
 omega
def frkG:Rp→List Rp→List (Int×Int)→List (Int×Int)
 | _,[],out=>out
 | last,r::t,out=>frkG r t (if last.sv=r.sv∧last.nu=r.nu∧(out=[]∨(out.getLast?.map Prod.fst)≠some r.sv) then out++[(r.sv,r.nu)] else out)
def frk:List Rp→List (Int×Int)
 | []=>[]
 | x::t=>frkG x t []
end Go.Ar
namespace Go.Proofs.YtdjfiampkhfooaaGreatDoor
open Go Go.Lib Go.Abs Go.PE Go.Ar Go.Sort
open Go.Proofs (ltOf)
variable [EA]
def Bits (n:Nat) (w:List Bool) (W:List Int):Prop:=w.length=n∧∀ b:Nat,b<n→w[b]? = some (decide ((b:Int)∈W))
theorem Bits.zero (n:Nat):Bits n (List.replicate n false) []:=⟨by simp,fun b hb=>by simp [hb]⟩
theorem Bits.get {n:Nat} {w:List Bool} {W:List Int} (h:Bits n w W) {i:Int} (h0:0≤i) (hi:i<n):gA w i=some (decide (i∈W)):=by
 obtain ⟨b,rfl⟩:=Int.eq_ofNat_of_zero_le h0
 rw [eC];exact h.2 b (by omega)
theorem Bits.put {n:Nat} {w:List Bool} {W:List Int} (h:Bits n w W) {i:Int} (h0:0≤i) (hi:i<n):wE w i (fun _=>some true)=some (w.set i.toNat true)∧Bits n (w.set i.toNat true) (i::W):=by
 obtain ⟨h1,h2⟩:=h
 refine ⟨setM_of h0 (by omega) rfl,by rw [List.length_set];exact h1,fun b hb=>?_⟩
 rw [List.getElem?_set]
 by_cases e:i.toNat=b
 ·rw [if_pos e,if_pos (by omega)]
  have:(b:Int)=i:=by omega
  simp [this]
 ·rw [if_neg e,h2 b hb]
  have:(b:Int)≠i:=by omega
  simp [this]
theorem hundred:[false,false,false,false,false,false,false,false,false,false,false,false,false,false,false,false,false,false,false,false,false,false,false,false,false,false,false,false,false,false,false,false,false,false,false,false,false,false,false,false,false,false,false,false,false,false,false,false,false,false,false,false,false,false,false,false,false,false,false,false,false,false,false,false,false,false,false,false,false,false,false,false,false,false,false,false,false,false,false,false,false,false,false,false,false,false,false,false,false,false,false,false,false,false,false,false,false,false,false,false]=List.replicate 100 false:=rfl
theorem wCur_ok {a:List Rp} (h:OkA a):∃ ys,m23 a=some ys∧CurR a ys:=by
 obtain ⟨a1,a2,a3⟩:=h
 have key:Ans (m23 a) (CurR a):=by
  unfold m23
  rw [bC (by omega),oB,dT ⟨a1,a2,a3⟩,sA,cF]
  refine Ans.seq (x:=rH a) (vA (fun k=>((k:Int),(List.range k).flatMap fun (s:Nat)=>nJ (bel a s))) 8 rfl (fun k hk=>?_) ?_) ?_
  ·dsimp only
   rw [ltI (by omega),cT,wBel_ok ⟨a1,a2,a3⟩,oB]
   have hb:Pbel a k (bel a k):=(bel_is a k).1
   have hok:∀ r∈bel a (k:Int),OkR r:=fun r hr=>a1 r (bel_sv hr).1
   have hlen:=Pbel.ok hb a1
   have hout:((List.range k).flatMap fun (s:Nat)=>nJ (bel a s)).length≤40*k:=by
    rw [List.length_flatMap]
    have:∀ (L:List Nat),((L.map fun (s:Nat)=>(nJ (bel a s)).length).sum)≤40*L.length:=fun L=>by
     induction L with
     | nil=>simp
     | cons x L ih =>
      have h1:=Pbel.ok (bel_is a x).1 a1
      have h2:(nJ (bel a x)).length≤(bel a x).length:=qD ((curOf_dist _).imp fun h e=>h (by rw [e])) fun y hy=>(fI hy).1
      simp only [List.map_cons,List.sum_cons,List.length_cons];omega
    simpa using this (List.range k)
   dsimp only
   rw [mA,mkM_of (by omega) (by omega) (by show _*1≤_;omega),oB,Int.toNat_natCast,fA (n:=((bel a (k:Int)).length:Int)-1) (by omega) (by omega),hundred,List.range_succ,List.flatMap_append]
   simp only [List.flatMap_cons,List.flatMap_nil,List.append_nil]
   generalize (List.range k).flatMap (fun (s:Nat)=>nJ (bel a s))=o0 at hout
   generalize bel a (k:Int)=l at hb hok hlen
   refine Ans.bindEq (Q:=fun (o:List Bool×List Bool×List Rp)=>o.2.2=o0++nJ l) ?_ fun o ho=>by
    rw [fA (by omega) (by omega),ho];rfl
   refine Ans.loop (fun j z=>j≤l.length∧∃ (wd sn:List Bool) (W SN:List Int) (O:List Rp),z=((l.length:Int)-1-(j:Int),wd,sn,o0++O)∧Bits l.length wd W∧Bits 100 sn SN∧O.length≤j∧dK ((l.take (l.length-j)).reverse) W SN O=nJ l) l.length ⟨by omega,_,_,[],[],[],by simp,Bits.zero _,Bits.zero _,by simp,by rw [Nat.sub_zero,List.take_length];rfl⟩ ?_
   rintro j z hj ⟨q0,wd,sn,W,SN,O,rfl,q1,q2,q3,q4⟩
   dsimp only
   by_cases hjl:j<l.length
   ·obtain ⟨m,hm⟩:∃ m,l.length-j=m+1:=⟨l.length-j-1,by omega⟩
    have hml:m<l.length:=by omega
    have hi:(l.length:Int)-1-(j:Int)=(m:Int):=by omega
    have hget:=gE hml
    have hr:=hok _ (List.getElem_mem hml)
    have hnu:=(hb.mem hget).2.2
    have htk:(l.take (m+1)).reverse=l[m]::(l.take m).reverse:=by
     rw [List.take_add_one,hget,Option.toList_some,List.reverse_append];rfl
    rw [hm,htk] at q4
    rw [hi,leI (by omega),cT,aB hml,oB,bB (by omega) (by rw [mA,q1.1];omega),oB,q1.get (by omega) (by omega),oB]
    generalize l[m]=r at hr hnu q4
    obtain ⟨b1,b2,b3,b4,b5,b6,b7,b8,b9⟩:=hr
    unfold dK at q4
    rw [hnu] at q4
    by_cases hw:(m:Int)∈W
    ·rw [dT hw,cT,oB,fA (by omega) (by omega)]
     rw [if_pos hw] at q4
     exact Ans.some ⟨by omega,by omega,wd,sn,W,SN,O,by rw [show (m:Int)-1=(l.length:Int)-1-((j+1:Nat):Int) by omega],q1,q2,by omega,by rw [show l.length-(j+1)=m by omega];exact q4⟩
    ·rw [dF hw,cF]
     rw [if_neg hw] at q4
     by_cases hk2:r.ki=2
     ·rw [if_pos hk2] at q4
      have hrf:0≤r.rf∧r.rf<(m:Int):=by omega
      obtain ⟨p1,p2⟩:=q1.put (i:=r.rf) hrf.1 (by omega)
      rw [eqI (show r.2.2.2.1=2 from hk2),cT,bB hrf.1 (by rw [mA,q1.1];show r.rf<_;omega),oB,p1,oB,oB,fA (by omega) (by omega)]
      exact Ans.some ⟨by omega,by omega,_,sn,r.rf::W,SN,O,by rw [show (m:Int)-1=(l.length:Int)-1-((j+1:Nat):Int) by omega],p2,q2,by omega,by rw [show l.length-(j+1)=m by omega];exact q4⟩
     ·rw [if_neg hk2] at q4
      have hsu:0≤r.su∧r.su<100:=by omega
      rw [neI (show r.2.2.2.1≠2 from hk2),cF,bB hsu.1 (by show r.su<100;exact hsu.2),oB,z01,q2.get hsu.1 hsu.2,oB]
      by_cases hs:r.su∈SN
      ·rw [if_pos hs] at q4
       rw [dT hs,sA,cF,oB,fA (by omega) (by omega)]
       exact Ans.some ⟨by omega,by omega,wd,sn,W,SN,O,by rw [show (m:Int)-1=(l.length:Int)-1-((j+1:Nat):Int) by omega],q1,q2,by omega,by rw [show l.length-(j+1)=m by omega];exact q4⟩
      ·rw [if_neg hs] at q4
       obtain ⟨p1,p2⟩:=q2.put (i:=r.su) hsu.1 hsu.2
       rw [dF hs,xA,cT,oB,p1,oB,eR,fG (by simp;omega),oB,oB,fA (by omega) (by omega)]
       exact Ans.some ⟨by omega,by omega,wd,_,W,r.su::SN,O++[r],by rw [show (m:Int)-1=(l.length:Int)-1-((j+1:Nat):Int) by omega,aA],q1,p2,by simp;omega,by rw [show l.length-(j+1)=m by omega];exact q4⟩
   ·rw [gtI (by omega),cF]
    rw [show l.length-j=0 by omega,List.take_zero] at q4
    refine Ans.some ?_
    show o0++O=_
    rw [← q4];rfl
  ·dsimp only
   rw [geI (by omega),cF]
   rfl
  ·have hin:∀ q∈rH a,OkR q:=fun q hq=>by
    obtain ⟨s,_,h⟩:=curAll_mem.1 hq
    exact a1 q (bel_sv (fI h).1).1
   have hlen:(rH a).length≤40:=by
    have hd:=eK a 8
    refine Nat.le_trans (qD (m:=a) (List.Pairwise.imp (fun {x y} h e=>h (by rw [e];exact ⟨rfl,rfl⟩)) hd) fun x hx=>?_) a3
    obtain ⟨s,_,h⟩:=curAll_mem.1 hx
    exact (bel_sv (fI h).1).1
   obtain ⟨ys,h1,h2,h3⟩:=sortR swo73 hin (by omega)
   refine Ans.seq h1 (Ans.some ⟨strict_of h2 (eK a 8) (h3.imp fun {x y} h k=>?_),fun x=>h2.mem_iff⟩)
   rw [(lt73 y x).2 k] at h;cases h
 exact key
theorem getLast_idx {α:Type} {l:List α} (h:l≠[]):gA l ((l.length:Int)-1)=l.getLast? := by
 have:=List.length_pos_iff.2 h
 rw [show (l.length:Int)-1=((l.length-1:Nat):Int) by omega,eC,List.getLast?_eq_getElem?]
theorem wForks_eq {a:List Rp} (h:OkA a):m26 a=some (frk a):=by
 obtain ⟨a1,a2,a3⟩:=h
 unfold m26
 rw [bC (by omega),oB,dT ⟨a1,a2,a3⟩,sA,cF,mA]
 cases a with
 | nil =>
  rw [show min (1:Int) ((([]:List Rp).length:Nat):Int)=0 from rfl,fB (by omega) (by simp) (by simp),oB]
  refine eA (x:=[]) ?_ rfl
  rw [xF];rfl
 | cons x t =>
  have hl:(x::t).length=t.length+1:=rfl
  rw [hl] at a3
  rw [show min (1:Int) (((x::t).length:Nat):Int)=1 by rw [hl];omega,fB (by omega) (by rw [hl];omega) (Int.le_refl _),oB,Int.toNat_natCast,List.take_length]
  show (iA _ _).bind _=some (frkG x t [])
  refine Ans.bindEq (Q:=fun o=>o=frkG x t []) ?_ fun o ho=>by rw [ho]
  refine Ans.loop (fun k z=>∃ out y,z=((k:Int),out)∧k≤t.length∧out.length≤k∧(x::t)[k]? = some y∧frkG y (t.drop k) out=frkG x t []) t.length ⟨[],x,rfl,by omega,by simp,rfl,rfl⟩ ?_
  rintro k z hk ⟨out,y,rfl,h1,h2,h3,h4⟩
  have hd:List.drop (1:Int).toNat (x::t)=t:=rfl
  dsimp only
  rw [hd,mA]
  by_cases hkl:k<t.length
  ·have hdk:t.drop k=t[k]::t.drop (k+1):=List.drop_eq_getElem_cons hkl
   rw [hdk,frkG] at h4
   rw [ltI (by omega),cT,aB hkl,oB,eC,h3,oB]
   have hnext:(x::t)[k+1]? = some t[k]:=by rw [List.getElem?_cons_succ,gE hkl]
   generalize t[k]=r at h4 hnext
   refine Ans.bind (P:=fun o=>o=if y.sv=r.sv∧y.nu=r.nu∧(out=[]∨(out.getLast?.map Prod.fst)≠some r.sv) then out++[(r.sv,r.nu)] else out) ?_ fun o ho=>?_
   ·rw [mA]
    by_cases ho:out=[]
    ·subst ho
     rw [show ((([]:List (Int×Int)).length:Nat):Int)=0 from rfl,eqI rfl,sA]
     simp only [cF,oB,orT]
     by_cases hc:y.sv=r.sv∧y.nu=r.nu
     ·rw [eqI (show y.1=r.1 from hc.1),eqI (show y.2.1=r.2.1 from hc.2),if_pos ⟨hc.1,hc.2,.inl trivial⟩]
      simp only [mG,cT]
      rw [aC (by simp),oB]
      exact Ans.some rfl
     ·have:PE.andM (PE.andM (eqM y.1 r.1) (eqM y.2.1 r.2.1)) true=false:=by
       unfold PE.andM eqM
       rw [Bool.and_true,← Bool.decide_and];exact dF hc
      rw [this,cF,if_neg fun q=>hc ⟨q.1,q.2.1⟩]
      exact Ans.some rfl
    ·have hpos:=List.length_pos_iff.2 ho
     obtain ⟨v,hv⟩:∃ v,out.getLast? = some v:=⟨_,List.getLast?_eq_some_getLast ho⟩
     rw [neI (by omega),xA,fA (n:=(out.length:Int)-1) (by omega) (by omega),bB (by omega) (by omega),getLast_idx ho,hv]
     simp only [cT,oB,orF]
     by_cases hc:y.sv=r.sv∧y.nu=r.nu∧v.1≠r.sv
     ·rw [eqI (show y.1=r.1 from hc.1),eqI (show y.2.1=r.2.1 from hc.2.1),neI (show v.1≠r.1 from hc.2.2),if_pos ⟨hc.1,hc.2.1,.inr (by simpa using hc.2.2)⟩]
      simp only [mG,xA,cT]
      rw [aC (by simp;omega),oB]
      exact Ans.some rfl
     ·have:PE.andM (PE.andM (eqM y.1 r.1) (eqM y.2.1 r.2.1)) (PE.notM (eqM v.1 r.1))=false:=by
       unfold PE.andM eqM PE.notM
       rw [← decide_not,← Bool.decide_and,← Bool.decide_and]
       exact dF fun q=>hc ⟨q.1.1,q.1.2,q.2⟩
      rw [this,cF,if_neg fun q=>hc ⟨q.1,q.2.1,by
       rcases q.2.2 with w | w
       ·exact absurd w ho
       ·simpa using w⟩]
      exact Ans.some rfl
   ·rw [fA (by omega) (by omega)]
    refine Ans.some ⟨by omega,o,r,rfl,by omega,?_,hnext,by rw [ho];exact h4⟩
    rw [ho];split
    ·simp;omega
    ·omega
  ·rw [geI (by omega),cF]
   rw [List.drop_of_length_le (by omega)] at h4
   exact Ans.some h4
end Go.Proofs.YtdjfiampkhfooaaGreatDoor
namespace Go.Ar
set_option maxRecDepth 100000
def k32:Bs:=List.replicate 32 107
def s1:Rp:=(3,0,100,1,5,10,-1,h0,[183,206,247,132,16,190,162,145,231,189,128,117,78,27,252,149,175,238,66,166,50,20,35,39,34,221,47,214,44,75,7,158])
def s2:Rp:=(3,1,200,1,5,12,-1,[141,45,5,180,132,107,163,71,50,199,12,151,27,190,196,105,90,110,52,3,63,255,31,52,164,0,206,211,166,47,30,41],[110,201,126,255,249,203,131,70,149,121,71,16,89,238,29,209,133,171,181,98,19,26,47,68,242,242,28,160,205,58,126,70])
def s3:Rp:=(3,2,300,2,0,0,1,[81,72,191,58,53,82,76,30,92,225,77,36,254,82,252,234,221,103,150,8,17,226,120,99,254,250,153,51,12,193,93,254],[0,67,231,216,185,110,57,4,166,255,159,196,218,133,151,64,29,220,125,40,41,61,215,160,229,170,251,5,10,18,80,38])
def s4:Rp:=(s2.1,s2.2.1,201,s2.2.2.2)
theorem x1:wrR k32 [] (3,0,100,1,5,10,-1,[],[])=(s1,0):=by decide +kernel
theorem x2:addR [] s1=([s1],0):=by decide +kernel
theorem x3:wrR k32 [s1] (3,0,200,1,5,12,-1,[],[])=(s2,0):=by decide +kernel
theorem x4:addR [s1] s2=([s1,s2],0):=by decide +kernel
theorem x5:wrR k32 [s1,s2] (3,0,300,2,0,0,1,[],[])=(s3,0):=by decide +kernel
theorem x6:addR [s1,s2] s3=([s1,s2,s3],0):=by decide +kernel
theorem x7:OkR s1:=by decide +kernel
theorem x8:wrR [107] [s1] s1=(zR,390):=by decide +kernel
theorem x9:mrg [s1] [s3]=([s1,s3],0):=by decide +kernel
theorem x10:addR [s1,s2,s3] s4=([s1,s2,s4,s3],0):=by decide +kernel
theorem x11:miss [s1,s2,s3] [s1]=([s2,s3],0):=by decide +kernel
theorem x12:OkA [s1]:=by decide +kernel
theorem x13:OkA [s1,s2]:=by decide +kernel
theorem x14:OkA [s1,s2,s3]:=by decide +kernel
theorem x15:rH [s1]=[s1]:=by decide +kernel
theorem x16:rH [s1,s2]=[s2]:=by decide +kernel
theorem x17:rH [s1,s2,s3]=[s1]:=by decide +kernel
theorem x18:bel [s1,s2,s3] 3=[s1,s2,s3]:=by decide +kernel
theorem x19:OkA [s1,s3]∧bel [s1,s3] 3=[s1]:=by decide +kernel
theorem x20:OkA [s2,s3]∧bel [s2,s3] 3=[]:=by decide +kernel
theorem x21:OkA [s1,s2,s4,s3]∧bel [s1,s2,s4,s3] 3=[s1]:=by decide +kernel
theorem x22:frk [s1,s2,s4,s3]=[(3,1)]:=by decide +kernel
theorem x23:frk [s1,s2,s3]=[]:=by decide +kernel
theorem x24:9≤(en s1).length∧(en s1).take 9=[6,0,200,1,2,10,20,1,64]:=by decide +kernel
theorem x25:Gen k32 s2:=by decide +kernel
theorem x26:¬ Gen k32 s4:=by decide +kernel
theorem x27:¬ OkA [s2,s1]:=by decide +kernel
theorem en_eq0 (r:Rp):en r=pI r.sv++(pI r.nu++(pI r.da++(pI r.ki++(pI r.su++(pI r.va++(pI r.rf++(pS r.pv++pS r.tg))))))):=by
 unfold en sg;simp
theorem en_long (r:Rp):7≤(en r).length:=by
 have:=pI_pos r.sv
 have:=pI_pos r.nu
 have:=pI_pos r.da
 have:=pI_pos r.ki
 have:=pI_pos r.su
 have:=pI_pos r.va
 have:=pI_pos r.rf
 rw [en_eq0]
 simp only [lA];omega
end Go.Ar
namespace Go.Proofs.YtdjfiampkhfooaaGreatDoor
open Go Go.Lib Go.Abs Go.PE Go.Ar
variable [EA]
set_option maxRecDepth 100000
theorem bif_no {α:Type} {c:Bool} {a b r:α} (h:c=false) (h2:b=r):(bif c then a else b)=r:=by rw [h];exact h2
theorem bE {α:Type} {c:Bool} {a b r:α} (h:c=true) (h2:a=r):(bif c then a else b)=r:=by rw [h];exact h2
theorem cur_is {a l:List Rp} (h:OkA a) (hc:rH a=l) (hl:l.length=1):m23 a=some l:=by
 obtain ⟨ys,h1,h2⟩:=wCur_ok h
 obtain ⟨x,rfl⟩:=List.length_eq_one_iff.1 hl
 rw [h1,h2.uniq (zs:=[x]) ⟨List.pairwise_singleton _ _,fun y=>by rw [hc]⟩]
theorem iH {a l:List Rp} {s:Int} (h:OkA a∧bel a s=l):m24 (a,s)=some l:=by
 have:=h.1.2.2
 rw [wBelieved_eq (by omega),if_pos h.1,h.2]
theorem load_is:m14 [en s1,[120]]=some ([s1],0):=by
 have hen:=(cH x7).2
 obtain ⟨D,h1,h2⟩:=wLoad_ok (l:=[en s1,[120]]) (by simp) (fun s hs=>by
  rcases List.mem_cons.1 hs with q | q
  ·rw [q];omega
  ·rw [List.mem_singleton.1 q];simp)
 have e:mB D=[s1]:=(qK (l:=[s1]) (List.pairwise_singleton _ _) fun r=>by
  rw [h1,List.mem_singleton]
  constructor
  ·intro q;rw [q];exact ⟨x7,by simp⟩
  ·rintro ⟨q1,q2⟩
   rcases List.mem_cons.1 q2 with q | q
   ·exact en_inj q
   ·have q:=List.mem_singleton.1 q
    have:=en_long r
    rw [q] at this
    simp at this).symm
 rw [h2,e];rfl
theorem sane_ok:m4 ()=some true:=by
 unfold m4
 have L1:([s1]:List Rp).length≤1000000:=by simp
 have L2:([s1,s2]:List Rp).length≤1000000:=by simp
 have L3:([s1,s2,s3]:List Rp).length≤1000000:=by simp
 have w:∀ {key:Bs} {a:List Rp} {r:Rp} {v:Rp×Int},a.length≤1000000→wrR key a r=v→m19 (key,a,r)=some v:=fun ha h=>by rw [wWrite_eq ha,h]
 have ad:∀ {a:List Rp} {r:Rp} {v:List Rp×Int},a.length≤1000000→addR a r=v→m16 (a,r)=some v:=fun ha h=>by rw [wAdd_eq ha,h]
 refine eA (w (by simp) x1) ?_
 refine eA (ad (by simp) x2) ?_
 refine eA (w L1 x3) ?_
 refine eA (ad L1 x4) ?_
 refine eA (w L2 x5) ?_
 refine eA (ad L2 x6) ?_
 refine eA (x:=(en s1,0)) ((wEnc_eq s1).trans (by rw [if_pos x7])) ?_
 refine eA (w L1 x8) ?_
 refine bif_no (by decide +kernel) ?_
 refine eA ((wMerge_eq L1 (by simp)).trans (congrArg some x9)) ?_
 refine eA (ad L3 x10) ?_
 refine eA ((wMiss_eq L3 L1).trans (congrArg some x11)) ?_
 refine eA load_is ?_
 refine eA (x:=(leaf (en s1),0)) ((wHead_eq L1).trans (by rw [if_pos x12];exact congrArg some (congrArg (fun z=>(z,(0:Int))) (rootL_one _)))) ?_
 refine eA (x:=leaf (en s1)) (bE rfl (wLeaf_ok (a:=en s1) (by have:=(cH x7).2;omega))) ?_
 refine bif_no (by
  show PE.orM _ (PE.notM (kB (leaf (en s1)) (leaf (en s1))))=false
  rw [eqsT rfl];rfl) ?_
 refine eA (cur_is x12 x15 rfl) ?_
 refine eA (cur_is x13 x16 rfl) ?_
 refine eA (cur_is x14 x17 rfl) ?_
 refine eA (x:=s1) rfl ?_
 refine eA (x:=s2) rfl ?_
 refine eA (x:=s1) rfl ?_
 refine eA (iH ⟨x14,x18⟩) ?_
 refine eA (x:=[s1]) (bE rfl (iH x19)) ?_
 refine eA (x:=[]) (bE rfl (iH x20)) ?_
 refine eA (x:=[s1]) (bE rfl (iH x21)) ?_
 refine eA ((wForks_eq x21.1).trans (congrArg some x22)) ?_
 refine eA (x:=true) ((samePairs_eq (by simp)).trans (by rw [dT rfl])) ?_
 refine eA (x:=[]) (bE rfl ((wForks_eq x14).trans (congrArg some x23))) ?_
 refine eA (x:=[6,0,200,1,2,10,20,1,64]) (bE rfl ?_) ?_
 ·show pA (en s1) 0 9=_
  rw [fB (by omega) (by omega) (by have:=x24.1;omega)]
  exact congrArg some x24.2
 refine eA (x:=true) (bE rfl ((same_eq (by simp)).trans (by rw [dT rfl]))) ?_
 refine eA (x:=true) (bE rfl ((same_eq L1).trans (by rw [dT rfl]))) ?_
 refine eA (x:=true) (bE rfl ((wGen_eq k32 s2).trans (by rw [dT x25]))) ?_
 refine eA (x:=false) (bE rfl ((wGen_eq k32 s4).trans (by rw [dF x26]))) ?_
 refine eA (x:=true) (bE rfl ((bC L3).trans (by rw [dT x14]))) ?_
 refine eA (x:=false) (bE rfl ((bC (by simp)).trans (by rw [dF x27]))) ?_
 rfl
end Go.Proofs.YtdjfiampkhfooaaGreatDoor
namespace Go.Ar
def sto (h r:Bs):Bs:=1::(pS r++pB h r)
def hj (h:Bs) (l:List Bs):Bs:=l.foldl pB h
def enc:Bs→List Bs→Bs
 | _,[]=>[]
 | h,r::l=>sto h r++enc (pB h r) l
def OkL (l:List Bs):Prop:=∀ r∈l,r.length≤65536
theorem chain_len (h r:Bs):(pB h r).length=32:=iG _
theorem h0_len:h0.length=32:=by decide
theorem hj_len {h:Bs} (hh:h.length=32):∀ l:List Bs,(hj h l).length=32
 | []=>hh
 | r::l=>hj_len (chain_len h r) l
theorem hj_app (h:Bs) (l m:List Bs):hj h (l++m)=hj (hj h l) m:=List.foldl_append
theorem hj_snoc (h:Bs) (l:List Bs) (r:Bs):hj h (l++[r])=pB (hj h l) r:=hj_app h l [r]
theorem enc_app:∀ (h:Bs) (l m:List Bs),enc h (l++m)=enc h l++enc (hj h l) m
 | _,[],_=>rfl
 | h,r::l,m=>by
  show sto h r++enc (pB h r) (l++m)=(sto h r++enc (pB h r) l)++enc (hj (pB h r) l) m
  rw [enc_app,aA]
theorem enc_snoc (h:Bs) (l:List Bs) (r:Bs):enc h (l++[r])=enc h l++sto (hj h l) r:=by
 rw [enc_app]
 show _++(sto (hj h l) r++[])=_
 rw [List.append_nil]
theorem nD (h r:Bs):(sto h r).length=(pS r).length+33:=by
 unfold sto
 rw [List.length_cons,lA,chain_len]
theorem enc_nil {h:Bs} {l:List Bs}:enc h l=[]↔l=[]:=by
 cases l with
 | nil=>exact ⟨fun _=>rfl,fun _=>rfl⟩
 | cons r l=>exact ⟨fun e=>by have:=congrArg List.length e;simp [enc,nD] at this,fun e=>by cases e⟩
theorem enc_head {h:Bs}:∀ {l:List Bs},l≠[]→∃ t,enc h l=1::t
 | [],e=>absurd rfl e
 | r::l,_=>⟨_,rfl⟩
def Stop (z:Bs):Prop:=∀ b,z.head? = some b→b=0
def Bad (h z:Bs):Prop:=(∃ b,z.head? = some b∧b≠0)∧∀ r:Bs,r.length≤65536→¬ sto h r <+: z
theorem Stop.bad {h z:Bs} (s:Stop z) (b:Bad h z):False:=by
 obtain ⟨⟨c,h1,h2⟩,_⟩:=b
 exact h2 (s c h1)
theorem stop_sto {h r z:Bs} (s:Stop (sto h r++z)):False:=by
 have:=s 1 rfl
 cases this
theorem sto_pre {h a b x y:Bs} (e:sto h a++x=sto h b++y):a=b∧x=y:=by
 unfold sto at e
 simp only [List.cons_append,aA,List.cons.injEq,true_and] at e
 obtain ⟨h1,h2⟩:=pS_pre e
 subst h1
 exact ⟨rfl,List.append_cancel_left h2⟩
theorem enc_uniq:∀ {h:Bs} {l l':List Bs} {z z':Bs},OkL l→OkL l'→enc h l++z=enc h l'++z'→Stop z∨Bad (hj h l) z→Stop z'∨Bad (hj h l') z'→l=l'∧z=z'
 | h,[],[],z,z',_,_,e,_,_=>⟨rfl,e⟩
 | h,[],r::l',z,z',_,o,e,s,_=>by
  exfalso
  have e:z=sto h r++(enc (pB h r) l'++z'):=by rw [← aA];exact e
  rcases s with s | s
  ·exact stop_sto (e▸s)
  ·exact s.2 r (o r (by simp)) ⟨_,e.symm⟩
 | h,r::l,[],z,z',o,_,e,_,s=>by
  exfalso
  have e:z'=sto h r++(enc (pB h r) l++z):=by rw [← aA];exact e.symm
  rcases s with s | s
  ·exact stop_sto (e▸s)
  ·exact s.2 r (o r (by simp)) ⟨_,e.symm⟩
 | h,r::l,r'::l',z,z',o,o',e,s,s'=>by
  have e:sto h r++(enc (pB h r) l++z)=sto h r'++(enc (pB h r') l'++z'):=by rw [← aA,← aA];exact e
  obtain ⟨rfl,e2⟩:=sto_pre e
  obtain ⟨rfl,rfl⟩:=enc_uniq (fun x hx=>o x (by simp [hx])) (fun x hx=>o' x (by simp [hx])) e2 s s'
  exact ⟨rfl,rfl⟩
def Rd (h t:Bs) (l:List Bs) (z:Bs):Prop:=OkL l∧t=enc h l++z∧(Stop z∨Bad (hj h l) z)
theorem Rd.uniq {h t:Bs} {l l':List Bs} {z z':Bs} (a:Rd h t l z) (b:Rd h t l' z'):l=l'∧z=z':=enc_uniq a.1 b.1 (a.2.1.symm.trans b.2.1) a.2.2 b.2.2
theorem stop_zeros (n:Nat):Stop (List.replicate n 0):=fun b h=>by
 cases n with
 | zero=>cases h
 | succ n=>exact (Option.some.inj h).symm
theorem stop_cons (z:Bs):Stop (0::z):=fun b h=>(Option.some.inj h).symm
theorem OkL.app {l m:List Bs} (h:OkL l) (h':OkL m):OkL (l++m):=fun x hx=>by
 rcases List.mem_append.1 hx with hx | hx
 ·exact h x hx
 ·exact h' x hx
theorem enc_le {h:Bs}:∀ (l:List Bs),l.length≤(enc h l).length
 | []=>nR 0
 | r::l=>by
  show l.length+1≤(sto h r++enc (pB h r) l).length
  have:=enc_le (h:=pB h r) l
  rw [lA,nD]
  omega
end Go.Ar
namespace Go.Proofs.YtdjfiampkhfooaaGreatDoor
open Go Go.Lib Go.Abs Go.PE Go.Ar
variable [EA]
theorem nB_zero (n:Nat):List.replicate n (0:Int)=nB (List.replicate n 0):=by unfold nB;rw [List.map_replicate];rfl
abbrev Dk:Type:=Bool×Int×List Int×List Int×List (Int×Bs)
def dk (o:Bool) (L:Int) (du vi:Bs) (pd:List (Int×Bs)):Dk:=(o,L,nB du,nB vi,pd)
def usd (L:Int):Bool×Int:=if L=0 then (false,0) else (decide (L-1=0),L-1)
def spl (b:Bs) (p:Nat) (s:Bs):Bs:=b.take p++(s++b.drop (p+s.length))
theorem sK {b:Bs} {p:Nat} {s:Bs} (h:p+s.length≤b.length):(spl b p s).length=b.length:=by
 unfold spl
 simp only [lA,lT,List.length_drop]
 omega
variable {o:Bool} {L:Int} {du vi:Bs} {pd:List (Int×Bs)}
theorem lenN (s:Bs):lenM (nB s)=(s.length:Int):=by rw [mA,xI]
theorem size_ok:m36 (false,dk o L du vi pd)=some (du.length:Int):=by
 unfold m36 dk
 dsimp only [cC,oB]
 rw [lenN]
theorem new_ok {n:Int} (h1:1≤n) (h2:n≤10000):m7 n=some (0,false,dk false 0 (List.replicate n.toNat 0) (List.replicate n.toNat 0) []):=by
 unfold m7 dk
 rw [geI (by omega),geI (by omega),orF,cF,mkM_of (by omega) (by omega) (by show n*1≤_;omega),oB,oB,nB_zero]
theorem ins_ok {p k n:Nat} (h:p+k≤n) (hn:n≤10000000):PE.notM (PE.andM (PE.andM (PE.andM (leM 0 (p:Int)) (leM 0 (k:Int))) (leM (p:Int) (n:Int))) (leM (k:Int) (IntKind.wrap .i64 ((n:Int)-(p:Int)))))=false:=by
 rw [fA (by omega) (by omega),leI (by omega),leI (by omega),leI (by omega),leI (by omega)]
 rfl
theorem read_ok (h0:0<du.length) (hv:vi.length=du.length) (hn:du.length≤1000000):m35 (0,(du.length:Int),false,dk false L du vi pd)=some (vi,0):=by
 unfold m35 dk
 dsimp only [cC,oB,cF]
 have hi:=ins_ok (p:=0) (k:=du.length) (n:=du.length) (by omega) (by omega)
 rw [show ((0:Nat):Int)=0 from rfl] at hi
 rw [eqI rfl,sA,cF,lenN,lenN,hi,cF,bB (by omega) (by omega),oB,bB (by omega) (by omega),oB]
 have:rC (nB vi) (0:Int).toNat (du.length:Int).toNat=nB vi:=by
  unfold rC
  rw [Int.toNat_natCast,show (0:Int).toNat=0 from rfl,List.drop_zero,← hv,← xI,List.take_length]
 rw [this,strB_nB]
theorem put_ok {b s:Bs} {p:Nat} (h:p+s.length≤b.length):putM (nB b) (p:Int) (byteI s)=some (nB (spl b p s)):=by
 unfold putM
 have h2:byteI s=nB s:=rfl
 rw [h2,dT (by omega),dT (by rw [xI,xI];omega)]
 dsimp only
 unfold spl
 rw [nB_app,nB_app,Int.toNat_natCast,xI]
 unfold nB
 rw [← List.map_take,← List.map_drop]
theorem write_ok {s:Bs} {p:Nat} (h1:p<du.length) (h:p+s.length≤du.length) (hv:vi.length=du.length) (hn:du.length≤1000000) (hp:pd.length≤1000) (hL:0≤L∧L≤1000) :
  m96 ((p:Int),s,false,dk false L du vi pd)=some (0,(usd L).1,(usd L).2,nB (spl vi p s),pd++[((p:Int),s)]):=by
 unfold m96 dk
 dsimp only [cC,oB,cF]
 rw [eqI rfl,sA,cF,lenN,lenN,mA,ins_ok (by omega) (by omega),cF,aC (by show (pd.length+1)*24≤_;omega),oB,bB (by omega) (by omega)]
 by_cases h0:p+s.length≤vi.length
 ·rw [oB,put_ok h0,oB]
  unfold usd
  by_cases hz:L=0
  ·rw [eqI hz,cT,if_pos hz,oB,hz]
  ·rw [neI hz,cF,if_neg hz,oB,fA (by omega) (by omega)]
   try rfl
 ·omega
theorem write_off {p:Int} {s:Bs}:m96 (p,s,false,dk true L du vi pd)=some (361,true,L,nB vi,pd):=by
 unfold m96 dk
 dsimp only [cC,oB,cT]
 rw [neI (by decide),xA,cT]
theorem copy_eq {a b:Bs} (h:a.length=b.length):gK (nB a) (nB b)=nB b:=by
 unfold gK
 rw [xI,h,← xI b,List.take_length,List.drop_eq_nil_of_le (by rw [xI,xI];omega),List.append_nil]
theorem iK {α:Type} (xs:List α) (d:α):pA (zerosL xs d) 0 0=some []:=by
 rw [fB (by omega) (by omega) (by omega)];rfl
theorem sync_ok (hv:vi.length=du.length):m41 (false,dk false L du vi pd)=some (0,false,L,nB vi,[]):=by
 unfold m41 dk
 dsimp only [cC,oB,cF]
 rw [eqI rfl,cT,iK,oB,oB,copy_eq hv.symm]
theorem sync_off:m41 (false,dk true L du vi pd)=some (361,true,L,nB du,pd):=by
 unfold m41 dk
 dsimp only [cC,oB,cT]
 rw [neI (by decide),cF,oB]
theorem cut_ok {c:Int} (h:0≤c):m9 (c,false,dk false L du vi pd)=some (0,decide (c=0),c):=by
 unfold m9 dk
 dsimp only [cC,oB,cF]
 rw [eqI rfl,sA,cF,geI h,cF]
 try rfl
variable [EA]
theorem sto_isS {h r t:Bs} (hr:r.length≤65536) (hp:sto h r <+: 1::t):IsS t r (pS r).length∧(1::t:Bs).take ((pS r).length+33)=sto h r∧(pS r).length+33≤(1::t:Bs).length:=by
 obtain ⟨z,hz⟩:=hp
 have hl:=nD h r
 refine ⟨⟨hr,rfl,pB h r++z,?_⟩,?_,?_⟩
 ·have:(1:UInt8)::(pS r++(pB h r++z))=1::t:=by rw [← hz];simp [sto]
  exact (List.cons.inj this).2
 ·rw [← hz,← hl,List.take_left'];rfl
 ·rw [← hz,lA];omega
theorem bad_none {h t:Bs} (hn:∀ u k,¬ IsS t u k):Bad h (1::t):=⟨⟨1,rfl,by decide⟩,fun r hr hp=>hn _ _ (sto_isS hr hp).1⟩
theorem bad_one {h t u:Bs} {k:Nat} (hu:IsS t u k) (hn:¬ sto h u <+: 1::t):Bad h (1::t):=⟨⟨1,rfl,by decide⟩,fun r hr hp=>by
 obtain ⟨rfl,_⟩:=hu.uniq (sto_isS hr hp).1
 exact hn hp⟩
theorem bad_byte {h t:Bs} {b:UInt8} (h0:b≠0) (h1:b≠1):Bad h (b::t):=⟨⟨b,rfl,h0⟩,fun r _ hp=>by
 obtain ⟨z,hz⟩:=hp
 exact h1 (List.cons.inj hz).1.symm⟩
def LdQ (s:Bs) (o:(Bs×Int×Bool×List Bs)⊕(Bs×Int×Bool×List Bs)):Prop:=∃ l z,Rd h0 s l z∧((Stop z∧o=.inl (hj h0 l,((enc h0 l).length:Int),false,l))∨(Bad (hj h0 l) z∧∃ y,o=.inr y))
theorem via_loop {β γ:Type} {o:Option β} {f:β→Option γ} {Q:β→Prop} (h:Ans o Q):∃ x,Q x∧Option.bind o f=f x:=by
 obtain ⟨x,h1,h2⟩:=h
 exact ⟨x,h2,by rw [h1];rfl⟩
theorem load_ok {s:Bs} (hs:s.length≤100000) (d:Dk):∃ l z,Rd h0 s l z∧((Stop z∧m37 (s,false,d)=some (0,false,hj h0 l,((enc h0 l).length:Int),false,l))∨(Bad (hj h0 l) z∧m37 (s,false,d)=some (372,true,[],0,false,[]))):=by
 suffices h:∃ o,LdQ s o∧m37 (s,false,d)=Sum.elim (fun (t:List UInt8×Int×Bool×List (List UInt8))=>some (0,false,t.1,t.2.1,t.2.2.1,t.2.2.2)) (fun (t:List UInt8×Int×Bool×List (List UInt8))=>some (372,true,[],0,false,[])) o by
  obtain ⟨o,⟨l,z,h1,h2⟩,h3⟩:=h
  refine ⟨l,z,h1,?_⟩
  rcases h2 with ⟨h2,rfl⟩ | ⟨h2,y,rfl⟩
  ·exact .inl ⟨h2,h3⟩
  ·exact .inr ⟨h2,h3⟩
 unfold m37
 dsimp only [cC,oB]
 rw [mkM_of (by omega) (by omega) (by decide),oB,show (32:Int).toNat=32 from rfl,strB_zero]
 refine via_loop ?_
 refine Ans.loop (fun k st=>∃ l t,OkL l∧s=enc h0 l++t∧st=(hj h0 l,((enc h0 l).length:Int),false,l)∧l.length=k) s.length ⟨[],s,(fun r hr=>by simp at hr),rfl,rfl,rfl⟩ ?_
 rintro k st hk ⟨l,t,hl,hst,rfl,hlk⟩
 have hsl:s.length=(enc h0 l).length+t.length:=by rw [hst,lA]
 have hle:=enc_le (h:=h0) l
 have hdr:s.drop (enc h0 l).length=t:=by rw [hst,List.drop_left'];rfl
 dsimp only
 rw [mA]
 cases t with
 | nil =>
  rw [geI (by simp at hsl;omega),cF,oB,mK,cF]
  exact Ans.some ⟨l,[],⟨hl,hst,.inl fun b hb=>by cases hb⟩,.inl ⟨fun b hb=>(by cases hb),rfl⟩⟩
 | cons b t =>
  simp only [List.length_cons] at hsl
  have hb:s[(enc h0 l).length]? = some b:=by
   have:=congrArg (fun x:Bs=>x[0]?) hdr
   simpa using this
  rw [ltI (by omega),cT,byteM_of hb,oB,mG]
  by_cases hb0:b=0
  ·subst hb0
   rw [show eqM ((0:UInt8).toNat:Int) 0=true from rfl,sA,cF]
   exact Ans.some ⟨l,_,⟨hl,hst,.inl (stop_cons t)⟩,.inl ⟨stop_cons t,rfl⟩⟩
  have hb0':(b.toNat:Int)≠0:=fun e=>hb0 (u8eq (show b.toNat=(0:UInt8).toNat by rw [show (0:UInt8).toNat=0 from rfl];omega))
  rw [neI hb0',xA,cT,oB]
  by_cases hb1:b=1
  ·subst hb1
   have hdr1:s.drop ((enc h0 l).length+1)=t:=by rw [← List.drop_drop,hdr];rfl
   rw [show eqM ((1:UInt8).toNat:Int) 1=true from rfl,sA,cF,fA (by omega) (by omega)]
   obtain ⟨r3,e3,q3⟩:=wStr_ok (s:=s) (p:=(enc h0 l).length+1) (by omega) (by omega)
   rw [show (((enc h0 l).length:Int)+1)=(((enc h0 l).length+1:Nat):Int) by omega,e3,oB]
   rcases q3.cases with ⟨u,k2,hu,rfl⟩ | ⟨hu,rfl⟩
   ·rw [hdr1] at hu
    have hkt:=hu.le.1
    dsimp only
    have bad:(¬ sto (hj h0 l) u <+: 1::t)→LdQ s (.inr (hj h0 l,((enc h0 l).length:Int),false,l)):=fun hn=>⟨l,_,⟨hl,hst,.inr (bad_one hu hn)⟩,.inr ⟨bad_one hu hn,_,rfl⟩⟩
    by_cases hfit:(enc h0 l).length+1+k2+32≤s.length
    ·rw [eqI rfl,mG,fA (by omega) (by omega),leI (by omega),sA,cF]
     have hk2:=hu.2.1
     have hu1:=hu.1
     have hps:=pS_len hu1
     have hhd:=hj_len h0_len l
     rw [pK (by omega),oB,aC (by show (l.length+1)*16≤_;omega),oB,wPutS_ok hu1,oB]
     dsimp only
     rw [fC (by rw [show oC [1]=([1]:Bs) from rfl];simp;omega),oB,fC (by rw [show oC [1]=([1]:Bs) from rfl];simp [chain_len];omega),oB]
     have hout:(oC [1]++pS u)++pB (hj h0 l) u=sto (hj h0 l) u:=rfl
     rw [hout,oB]
     dsimp only
     rw [fB (by omega) (by omega) (by omega),oB]
     have hsl2:(s.take (((((enc h0 l).length+1+k2:Nat):Int)+32).toNat)).drop (((enc h0 l).length:Int).toNat)=(1::t:Bs).take (k2+33):=by
      rw [List.drop_take,show ((enc h0 l).length:Int).toNat=(enc h0 l).length by omega,hdr]
      congr 1
      omega
     rw [hsl2]
     by_cases heq:sto (hj h0 l) u=(1::t:Bs).take (k2+33)
     ·rw [eqsT heq,sA,cF]
      have hlen:=congrArg List.length heq
      rw [nD,lT,List.length_cons] at hlen
      refine Ans.some ⟨by omega,l++[u],(1::t:Bs).drop (k2+33),hl.app fun x hx=>?_,?_,?_,?_⟩
      ·simp at hx;subst hx;exact hu1
      ·rw [enc_snoc,aA,heq,List.take_append_drop];exact hst
      ·rw [hj_snoc,enc_snoc,lA,mA,fA (by rw [nD];omega) (by rw [nD];omega)]
       refine Prod.ext rfl (Prod.ext ?_ rfl)
       exact (Int.natCast_add _ _).symm
      ·rw [lA];simp;omega
     ·rw [eqsF heq,xA,cT]
      refine Ans.some ⟨l,_,⟨hl,hst,.inr (bad_one hu fun hp=>?_)⟩,.inr ⟨bad_one hu fun hp=>?_,_,rfl⟩⟩
      all_goals
       obtain ⟨_,h2,_⟩:=sto_isS hu1 hp
       exact heq (by rw [hk2];exact h2.symm)
    ·rw [eqI rfl,mG,fA (by omega) (by omega),gtI (by omega),xA,cT]
     refine Ans.some (bad fun hp=>?_)
     obtain ⟨h1,_,h2⟩:=sto_isS hu.1 hp
     have:=hu.2.1
     simp only [List.length_cons] at h2
     omega
   ·rw [hdr1] at hu
    rw [neI (by decide),mK,xA,cT]
    exact Ans.some ⟨l,_,⟨hl,hst,.inr (bad_none hu)⟩,.inr ⟨bad_none hu,_,rfl⟩⟩
  ·have hb1':(b.toNat:Int)≠1:=fun e=>hb1 (u8eq (show b.toNat=(1:UInt8).toNat by rw [show (1:UInt8).toNat=1 from rfl];omega))
   rw [neI hb1',xA,cT]
   exact Ans.some ⟨l,_,⟨hl,hst,.inr (bad_byte hb0 hb1)⟩,.inr ⟨bad_byte hb0 hb1,_,rfl⟩⟩
variable [EA]
def Zs (z:Bs):Prop:=z=List.replicate z.length 0
theorem zs_all {z:Bs} (h:∀ b∈z,b=0):Zs z:=List.eq_replicate_iff.2 ⟨rfl,h⟩
theorem Zs.mem {z:Bs} (h:Zs z):∀ b∈z,b=0:=(List.eq_replicate_iff.1 h).2
theorem mem_drop {p:UInt8→Bool} {b:UInt8} (hb:p b=false):∀ {l:Bs},b∈l→b∈l.dropWhile p
 | a::l,h=>by
  rw [List.dropWhile_cons]
  split
  ·rename_i ha
   rcases List.mem_cons.1 h with rfl | h
   ·rw [hb] at ha;cases ha
   ·exact mem_drop hb h
  ·exact h
theorem drop_all {p:UInt8→Bool}:∀ {l:Bs},(∀ b∈l,p b=true)→l.dropWhile p=[]
 | [],_=>rfl
 | a::l,h=>by
  rw [List.dropWhile_cons,if_pos (h a (by simp))]
  exact drop_all fun b hb=>h b (by simp [hb])
theorem trim_ok (z:Bs):∃ r,trimM z [(0:UInt8)]=some r∧(r=[]↔Zs z):=by
 refine ⟨Lib.trimS z [0],rfl,fun h=>zs_all fun b hb=>?_,fun h=>?_⟩
 ·apply Classical.byContradiction
  intro h0
  have hp:(([0]:List UInt8).contains b)=false:=by simp [h0]
  have h1:b∈Lib.trimS z [0]:=by
   unfold Lib.trimS Lib.trimLeftS Lib.trimRightS
   exact mem_drop hp (List.mem_reverse.2 (mem_drop hp (List.mem_reverse.2 hb)))
  rw [h] at h1
  cases h1
 ·unfold Lib.trimS Lib.trimLeftS Lib.trimRightS
  have h1:z.reverse.dropWhile (([0]:List UInt8).contains ·)=[]:=drop_all fun b hb=>by simp [h.mem b (List.mem_reverse.1 hb)]
  rw [h1]
  rfl
variable {L:Int} {du vi:Bs} {pd:List (Int×Bs)}
theorem spl_end {a z s:Bs} (h:s.length=z.length):spl (a++z) a.length s=a++s:=by
 unfold spl
 rw [List.take_left' rfl,h,List.drop_eq_nil_of_le (by simp),List.append_nil]
theorem open_ok (h0:0<du.length) (hv:vi.length=du.length) (hn:du.length≤100000) (hp:pd.length≤1000) (hL:0≤L∧L≤1000):∃ l z,Rd Ar.h0 vi l z ∧
  ((Bad (hj Ar.h0 l) z∧m8 (false,dk false L du vi pd)=some (372,false,L,nB du,nB vi,true,[],0,false,[],pd)) ∨
  (Stop z∧Zs z∧m8 (false,dk false L du vi pd)=some (0,false,L,nB du,nB vi,false,hj Ar.h0 l,((enc Ar.h0 l).length:Int),false,l,pd)) ∨
  (Stop z∧¬ Zs z∧(usd L).1=true∧m8 (false,dk false L du vi pd)=some (361,true,(usd L).2,nB du,nB (enc Ar.h0 l++List.replicate z.length 0),true,[],0,false,[],pd++[(((enc Ar.h0 l).length:Int),List.replicate z.length 0)])) ∨
  (Stop z∧¬ Zs z∧(usd L).1=false∧m8 (false,dk false L du vi pd)=some (0,false,(usd L).2,nB (enc Ar.h0 l++List.replicate z.length 0),nB (enc Ar.h0 l++List.replicate z.length 0),false,hj Ar.h0 l,((enc Ar.h0 l).length:Int),false,l,[]))):=by
 obtain ⟨l,z,hr,hm⟩:=load_ok (s:=vi) (by omega) (dk false L du vi pd)
 refine ⟨l,z,hr,?_⟩
 unfold m8
 rw [show (false,dk false L du vi pd)=(false,false,L,nB du,nB vi,pd) from rfl]
 dsimp only [cC,oB]
 rw [show (false,false,L,nB du,nB vi,pd)=(false,dk false L du vi pd) from rfl,size_ok,oB,read_ok h0 hv (by omega),oB]
 dsimp only
 rw [eqI rfl,sA,cF]
 rcases hm with ⟨hs,hm⟩ | ⟨hb,hm⟩
 ·rw [hm,oB]
  have hvl:vi.length=(enc Ar.h0 l).length+z.length:=by rw [hr.2.1,lA]
  dsimp only [cC,oB]
  have hsl:pA vi ((enc Ar.h0 l).length:Int) (lenM vi)=some z:=by
   rw [mA,fB (by omega) (by omega) (by omega),Int.toNat_natCast,Int.toNat_natCast,List.take_length,hr.2.1,List.drop_left' rfl]
  rw [eqI rfl,sA,cF,hsl,oB]
  obtain ⟨r6,h6,h6'⟩:=trim_ok z
  rw [h6,oB]
  by_cases hz:Zs z
  ·refine .inr (.inl ⟨hs,hz,?_⟩)
   rw [eqsT (h6'.2 hz),sA,cF,oB]
   dsimp only
   rw [eqI rfl,sA,cF]
  ·have hzl:0<z.length:=by
    cases z with
    | nil=>exact absurd rfl hz
    | cons _ _=>simp
   rw [eqsF (fun e=>hz (h6'.1 e)),xA,cT,mA,fA (by omega) (by omega),mkM_of (by omega) (by omega) (by show _*1≤_;omega),oB,show ((vi.length:Int)-((enc Ar.h0 l).length:Int)).toNat=z.length by omega,strB_zero]
   have hw:=write_ok (L:=L) (du:=du) (vi:=vi) (pd:=pd) (s:=List.replicate z.length 0) (p:=(enc Ar.h0 l).length) (by omega) (by rw [List.length_replicate];omega) hv (by omega) hp hL
   rw [hw,oB]
   dsimp only
   rw [eqI rfl,sA,cF]
   have hspl:spl vi (enc Ar.h0 l).length (List.replicate z.length 0)=enc Ar.h0 l++List.replicate z.length 0:=by
    rw [hr.2.1];exact spl_end (by simp)
   rw [hspl]
   cases hu:(usd L).1 with
   | true =>
    refine .inr (.inr (.inl ⟨hs,hz,rfl,?_⟩))
    rw [show (false,true,(usd L).2,nB du,nB (enc Ar.h0 l++List.replicate z.length 0),pd++[(((enc Ar.h0 l).length:Int),(List.replicate z.length 0:Bs))])=(false,dk true (usd L).2 du (enc Ar.h0 l++List.replicate z.length 0) (pd++[(((enc Ar.h0 l).length:Int),(List.replicate z.length 0:Bs))])) from rfl,sync_off,oB]
    dsimp only
    rw [neI (by decide),xA,cT,oB]
    dsimp only
    rw [oB]
    dsimp only
    rw [neI (by decide),xA,cT]
   | false =>
    refine .inr (.inr (.inr ⟨hs,hz,rfl,?_⟩))
    rw [show (false,false,(usd L).2,nB du,nB (enc Ar.h0 l++List.replicate z.length 0),pd++[(((enc Ar.h0 l).length:Int),(List.replicate z.length 0:Bs))])=(false,dk false (usd L).2 du (enc Ar.h0 l++List.replicate z.length 0) (pd++[(((enc Ar.h0 l).length:Int),(List.replicate z.length 0:Bs))])) from rfl,sync_ok (by rw [lA,List.length_replicate];omega),oB]
    dsimp only
    rw [eqI rfl,sA,cF,oB]
    dsimp only
    rw [oB]
    dsimp only
    rw [eqI rfl,sA,cF]
 ·refine .inl ⟨hb,?_⟩
  rw [hm,oB]
  dsimp only
  rw [neI (by decide),xA,cT]
variable [EA]
variable {o:Bool} {L:Int} {du vi:Bs} {pd:List (Int×Bs)} {hh:Bs} {p:Nat} {br:Bool} {recs l:List Bs}
theorem both_self {α:Type} (a:Option α):PE.bothM a a=a:=by
 unfold PE.bothM
 split
 ·rfl
 ·rename_i h _
  exact absurd rfl h
theorem cloneS_ok {l:List Bs} (h:l.length≤1000000):mo47 l=some l:=by
 unfold mo47 nilM
 cases l with
 | nil =>
  show PE.bothM _ (Option.bind (eB _ [] []) _)=_
  rw [aC (by show (0+0)*16≤_;omega)]
  exact both_self (some [])
 | cons a l =>
  show (Option.bind (eB _ [] (a::l)) _)=_
  rw [aC (by show (0+(a::l).length)*16≤_;omega)]
  rfl
theorem room_ok (hp:p≤du.length) (hn:du.length≤100000):m51 (false,hh,(p:Int),br,recs,false,dk o L du vi pd)=some (((du.length-p:Nat):Int),dk o L du vi pd):=by
 unfold m51 dk
 dsimp only [cC,oB]
 rw [show (false,o,L,nB du,nB vi,pd)=(false,dk o L du vi pd) from rfl,size_ok,oB,fA (by omega) (by omega),show (du.length:Int)-(p:Int)=((du.length-p:Nat):Int) by omega]
theorem recs_ok (h:recs.length≤1000000) {n:Int}:m15 (false,hh,n,br,recs,false,dk o L du vi pd)=some recs:=by
 unfold m15
 dsimp only [cC,oB]
 rw [cloneS_ok h,oB]
def apd (o:Bool) (L:Int) (du vi:Bs) (pd:List (Int×Bs)) (p:Nat) (out:Bs):Int×Bool×Int×Bs×Bs×List (Int×Bs) :=
 if o then (361,true,L,du,vi,pd) else
 if (usd L).1 then (361,true,(usd L).2,du,spl vi (p+1) out.tail,pd++[(((p+1:Nat):Int),out.tail)]) else
 if (usd (usd L).2).1 then (361,true,(usd (usd L).2).2,spl vi (p+1) out.tail,spl (spl vi (p+1) out.tail) p [1],[((p:Int),[1])]) else
 (0,false,(usd (usd L).2).2,spl (spl vi (p+1) out.tail) p [1],spl (spl vi (p+1) out.tail) p [1],[])
theorem enc_step {h:Bs} {l:List Bs} {k:Nat} (hk:k<l.length):enc h (l.take (k+1))=enc h (l.take k)++sto (hj h (l.take k)) l[k]∧hj h (l.take (k+1))=pB (hj h (l.take k)) l[k]:=by
 rw [List.take_succ_eq_append_getElem hk,enc_snoc,hj_snoc]
 exact ⟨rfl,rfl⟩
theorem enc_bound {h:Bs}:∀ {l:List Bs},OkL l→(enc h l).length≤l.length*65578
 | [],_=>nR 0
 | r::l,hl=>by
  show (sto h r++enc (pB h r) l).length≤_
  have h1:=enc_bound (h:=pB h r) (l:=l) fun x hx=>hl x (by simp [hx])
  have h2:=pS_len (hl r (by simp))
  have h3:=hl r (by simp)
  rw [lA,nD,List.length_cons]
  omega
theorem usd_in (hL:0≤L∧L≤1000):0≤(usd L).2∧(usd L).2≤1000:=by
 unfold usd
 split
 ·exact ⟨by decide,by decide⟩
 ·dsimp only;omega
theorem app_ok (hhl:hh.length=32) (hl:OkL l) (hll:l.length≤1000) (hr:recs.length≤100000) (hp:p≤du.length) (hv:vi.length=du.length) (hn:du.length≤100000) (hpd:pd.length≤100) (hL:0≤L∧L≤1000) :
  m12 (l,false,hh,(p:Int),false,recs,false,dk o L du vi pd) =
  some (if du.length<p+(enc hh l).length then (371,false,hh,(p:Int),false,o,L,nB du,nB vi,recs,pd) else
   if l=[] then (0,false,hh,(p:Int),false,o,L,nB du,nB vi,recs,pd) else
   if (apd o L du vi pd p (enc hh l)).1=0 then (0,false,hj hh l,((p+(enc hh l).length:Nat):Int),false,(apd o L du vi pd p (enc hh l)).2.1,(apd o L du vi pd p (enc hh l)).2.2.1,nB (apd o L du vi pd p (enc hh l)).2.2.2.1,nB (apd o L du vi pd p (enc hh l)).2.2.2.2.1,recs++l,(apd o L du vi pd p (enc hh l)).2.2.2.2.2) else
   ((apd o L du vi pd p (enc hh l)).1,false,hh,(p:Int),true,(apd o L du vi pd p (enc hh l)).2.1,(apd o L du vi pd p (enc hh l)).2.2.1,nB (apd o L du vi pd p (enc hh l)).2.2.2.1,nB (apd o L du vi pd p (enc hh l)).2.2.2.2.1,recs,(apd o L du vi pd p (enc hh l)).2.2.2.2.2)):=by
 unfold m12
 rw [show (l,false,hh,(p:Int),false,recs,false,dk o L du vi pd)=(l,false,hh,(p:Int),false,recs,false,o,L,nB du,nB vi,pd) from rfl]
 dsimp only [cC,oB]
 rw [cF,xA,cT]
 have hbd:=enc_bound (h:=hh) hl
 have hlong:∃ t:Unit⊕Int,t=.inl ()∧iA (fun (s:Int)=>bif ltM s (lenM l) then (gA l s).bind fun r=>(m45 r).bind fun r=>bif r then some (Sum.inr (Sum.inr s)) else some (Sum.inl (IntKind.wrap .i64 (s+1))) else some (Sum.inr (Sum.inl ()))) 0=some t:=by
  refine ⟨_,rfl,?_⟩
  refine zH (fun k=>(k:Int)) l.length (fun k hk=>?_) ?_
  ·rw [mA,ltI (by omega),cT,aB hk,oB,show m45 l[k]=some (ltM 65536 (lenM l[k])) from rfl,oB,mA,geI (by have:=hl _ (List.getElem_mem hk);omega),cF,fA (by omega) (by omega)]
   rfl
  ·rw [mA,geI (by omega),cF]
 obtain ⟨_,rfl,hlong⟩:=hlong
 rw [hlong,oB]
 dsimp only [Sum.elim_inl,oB]
 rw [gtI (by decide),orF,cF,cloneS_ok (by omega),oB]
 have hloop:iA (fun (s:Int×List UInt8×Int×List UInt8×List (List UInt8))=>bif ltM s.1 (lenM l) then (gA l s.1).bind fun r_5=>(m102 (s.2.1,r_5)).bind fun r_6=>(eB (nat_lit 16) s.2.2.2.2 [r_5]).bind fun r_7=>(m103 r_5).bind fun r_8=>(lG (oC [1]) r_8.1).bind fun r_9=>(lG r_9 r_6).bind fun r_10=>(catB s.2.2.2.1 r_10).bind fun r=>some (Sum.inl (IntKind.wrap .i64 (s.1+1),r_6,IntKind.wrap .i64 (s.2.2.1+lenM r_10),r,r_7)) else some (Sum.inr (s.2.1,s.2.2.1,s.2.2.2.1,s.2.2.2.2))) (0,hh,(p:Int),[],recs)=some (hj hh l,((p+(enc hh l).length:Nat):Int),enc hh l,recs++l):=by
  refine vA (fun k=>((k:Int),hj hh (l.take k),((p+(enc hh (l.take k)).length:Nat):Int),enc hh (l.take k),recs++l.take k)) l.length ?_ (fun k hk=>?_) ?_
  ·simp [hj,enc]
  ·have hkl:=hl _ (List.getElem_mem hk)
   have hps:=pS_len hkl
   have hb2:=enc_bound (h:=hh) (l:=l.take k) fun x hx=>hl x (List.mem_of_mem_take hx)
   have hb3:(l.take k).length≤1000:=by rw [lT];omega
   have hhd:=hj_len hhl (l.take k)
   dsimp only
   rw [mA,ltI (by omega),cT,aB hk,oB,pK (by omega),oB,aC (by rw [lA];show (_+1)*16≤_;omega),oB,wPutS_ok hkl,oB]
   dsimp only
   rw [fC (by rw [show oC [1]=([1]:Bs) from rfl];simp;omega),oB,fC (by rw [show oC [1]=([1]:Bs) from rfl];simp [chain_len];omega),oB]
   have hout:(oC [1]++pS l[k])++pB (hj hh (l.take k)) l[k]=sto (hj hh (l.take k)) l[k]:=rfl
   rw [hout,catB_of (by rw [nD];omega),oB,mA,fA (by omega) (by omega),fA (by rw [nD];omega) (by rw [nD];omega),(enc_step hk).1,(enc_step hk).2,lA,aA,List.take_succ_eq_append_getElem hk]
   rw [show ((p+(enc hh (l.take k)).length:Nat):Int)+((sto (hj hh (l.take k)) l[k]).length:Int)=((p+((enc hh (l.take k)).length+(sto (hj hh (l.take k)) l[k]).length):Nat):Int) by omega]
   rfl
  ·dsimp only
   rw [mA,geI (by omega),cF,List.take_length]
 rw [hloop,oB]
 dsimp only
 rw [show (false,hh,(p:Int),false,recs,false,o,L,nB du,nB vi,pd)=(false,hh,(p:Int),false,recs,false,dk o L du vi pd) from rfl,room_ok hp hn,oB,mA]
 by_cases hfit:du.length<p+(enc hh l).length
 ·rw [if_pos hfit,ltI (by omega),cT]
  rfl
 rw [if_neg hfit,geI (by omega),cF]
 by_cases hnil:l=[]
 ·subst hnil
  rw [if_pos rfl,show enc hh []=[] from rfl,eqsT rfl,cT]
  rfl
 rw [if_neg hnil,eqsF (fun e=>hnil (enc_nil.1 e)),cF]
 obtain ⟨t,ht⟩:=enc_head (h:=hh) hnil
 have h33:33≤(enc hh l).length:=by
  cases l with
  | nil=>exact absurd rfl hnil
  | cons r l =>
   show 33≤(sto hh r++_).length
   rw [lA,nD];omega
 rw [ht,List.length_cons] at h33
 rw [ht] at hfit ⊢
 rw [List.length_cons] at hfit
 rw [fB (by omega) (by rw [List.length_cons];omega) (by rw [List.length_cons];omega),oB,fB (by omega) (by omega) (by rw [List.length_cons];omega),oB,Int.toNat_natCast,List.take_length,show (1:Int).toNat=1 from rfl,show (0:Int).toNat=0 from rfl,List.drop_one,List.tail_cons,show ((1::t:Bs).take 1).drop 0=[1] from rfl,fA (by omega) (by omega),show ((p:Int)+1)=((p+1:Nat):Int) by omega]
 dsimp only [dk]
 rw [show ((o,L,nB du,nB vi,pd):Dk)=dk o L du vi pd from rfl]
 have htl:(1::t:Bs).tail=t:=rfl
 cases o with
 | true =>
  have ha:apd true L du vi pd p (1::t)=(361,true,L,du,vi,pd):=rfl
  rw [write_off,oB,ha]
  dsimp only
  rw [neI (by decide),xA,cT,oB,if_neg (by decide)]
  dsimp only
  rw [neI (by decide),xA,cT]
 | false =>
  rw [write_ok (by omega) (by omega) hv (by omega) (by omega) hL,oB]
  dsimp only
  rw [eqI rfl,sA,cF]
  have hv1:(spl vi (p+1) t).length=du.length:=by rw [sK (by omega),hv]
  cases hu:(usd L).1 with
  | true =>
   have ha:apd false L du vi pd p (1::t)=(361,true,(usd L).2,du,spl vi (p+1) t,pd++[(((p+1:Nat):Int),t)]):=by
    unfold apd
    rw [if_neg (by decide),if_pos hu];rfl
   rw [ha,show ((true,(usd L).2,nB du,nB (spl vi (p+1) t),pd++[(((p+1:Nat):Int),t)]):Dk)=dk true (usd L).2 du (spl vi (p+1) t) (pd++[(((p+1:Nat):Int),t)]) from rfl,sync_off,oB]
   dsimp only
   rw [neI (by decide),xA,cT,oB,if_neg (by decide)]
   dsimp only
   rw [neI (by decide),xA,cT]
  | false =>
   rw [show ((false,(usd L).2,nB du,nB (spl vi (p+1) t),pd++[(((p+1:Nat):Int),t)]):Dk)=dk false (usd L).2 du (spl vi (p+1) t) (pd++[(((p+1:Nat):Int),t)]) from rfl,sync_ok hv1,oB]
   dsimp only
   rw [eqI rfl,sA,cF,show ((false,(usd L).2,nB (spl vi (p+1) t),nB (spl vi (p+1) t),([]:List (Int×Bs))):Dk)=dk false (usd L).2 (spl vi (p+1) t) (spl vi (p+1) t) [] from rfl,
    write_ok (by rw [hv1];omega) (by rw [hv1];show p+1≤_;omega) rfl (by omega) (by simp) (usd_in hL),oB]
   dsimp only
   rw [eqI rfl,sA,cF,List.nil_append]
   have hv2:(spl (spl vi (p+1) t) p [1]).length=(spl vi (p+1) t).length:=sK (by rw [hv1];show p+1≤_;omega)
   cases hu2:(usd (usd L).2).1 with
   | true =>
    have ha:apd false L du vi pd p (1::t)=(361,true,(usd (usd L).2).2,spl vi (p+1) t,spl (spl vi (p+1) t) p [1],[((p:Int),[1])]):=by
     unfold apd
     rw [if_neg (by decide),hu,if_neg (by decide),if_pos hu2];rfl
    rw [ha,show ((true,(usd (usd L).2).2,nB (spl vi (p+1) t),nB (spl (spl vi (p+1) t) p [1]),[((p:Int),([1]:Bs))]):Dk)=dk true (usd (usd L).2).2 (spl vi (p+1) t) (spl (spl vi (p+1) t) p [1]) [((p:Int),[1])] from rfl,sync_off,oB]
    dsimp only
    rw [neI (by decide),xA,cT,oB,if_neg (by decide)]
    dsimp only
    rw [neI (by decide),xA,cT]
   | false =>
    have ha:apd false L du vi pd p (1::t)=(0,false,(usd (usd L).2).2,spl (spl vi (p+1) t) p [1],spl (spl vi (p+1) t) p [1],[]):=by
     unfold apd
     rw [if_neg (by decide),hu,if_neg (by decide),hu2,if_neg (by decide)];rfl
    rw [ha,show ((false,(usd (usd L).2).2,nB (spl vi (p+1) t),nB (spl (spl vi (p+1) t) p [1]),[((p:Int),([1]:Bs))]):Dk)=dk false (usd (usd L).2).2 (spl vi (p+1) t) (spl (spl vi (p+1) t) p [1]) [((p:Int),[1])] from rfl,sync_ok hv2,oB]
    dsimp only
    rw [eqI rfl,sA,cF,oB,if_pos rfl]
    dsimp only
    rw [eqI rfl,sA,cF]
variable [EA]
theorem comp_lt {zs:List Int} (h:List.Pairwise (·≤·) zs):List.Pairwise (·<·) (Lib.compact zs):=by
 unfold Lib.compact Lib.compactUpTo
 rw [List.pairwise_map]
 refine List.Pairwise.imp_of_mem (fun {a b} ha hb hab=>?_) ((List.pairwise_lt_range (n:=zs.length)).filter _)
 have hal:a<zs.length:=List.mem_range.1 (List.mem_filter.1 ha).1
 have hbl:b<zs.length:=List.mem_range.1 (List.mem_filter.1 hb).1
 have hk:=(List.mem_filter.1 hb).2
 unfold Lib.keeps at hk
 have hk:=oD hk
 rw [getB (by simpa using hbl),getB (by simp;omega)] at hk
 rw [getB (by simpa using hal),getB (by simpa using hbl)]
 simp only [List.getElem_toArray] at hk ⊢
 have hs:=List.pairwise_iff_getElem.1 h
 have h1:zs[b-1]≤zs[b]:=hs (b-1) b (by omega) hbl (by omega)
 have h2:zs[a]≤zs[b-1]:=by
  by_cases e:a=b-1
  ·subst e;exact Int.le_refl _
  ·exact hs a (b-1) hal (by omega) (by omega)
 rcases hk with h0 | hne
 ·omega
 ·omega
theorem mem_comp {zs:List Int}:∀ (j:Nat) (hj:j<zs.length),zs[j]∈Lib.compact zs
 | j,hj=>by
  by_cases hk:Lib.keeps zs.toArray j=true
  ·unfold Lib.compact Lib.compactUpTo
   refine List.mem_map.2 ⟨j,List.mem_filter.2 ⟨List.mem_range.2 hj,hk⟩,?_⟩
   rw [getB (by simpa using hj)]
   simp
  ·have hk:¬ (j=0∨zs.toArray[j]! ≠ zs.toArray[j-1]!):=fun h=>hk (dT h)
   have h0:j≠0:=fun h=>hk (.inl h)
   have he:zs.toArray[j]! = zs.toArray[j-1]! := Classical.byContradiction fun h=>hk (.inr h)
   rw [getB (by simpa using hj),getB (by simp;omega)] at he
   simp only [List.getElem_toArray] at he
   rw [he]
   exact mem_comp (j-1) (by omega)
 termination_by j=>j
def okeep (keep:List Int):List Int:=Lib.compact (zI keep)
theorem okeep_lt (keep:List Int):List.Pairwise (·<·) (okeep keep):=comp_lt (lH _)
theorem okeep_mem {keep:List Int} {i:Int}:i∈okeep keep↔i∈keep:=by
 refine ⟨fun h=>(gD _).mem_iff.1 (compact_mem h),fun h=>?_⟩
 obtain ⟨j,hj,e1⟩:=List.mem_iff_getElem.1 ((gD _).mem_iff.2 h)
 rw [← e1]
 exact mem_comp j hj
theorem okeep_len (keep:List Int):(okeep keep).length≤keep.length:=by
 refine Nat.le_trans (compact_len _) ?_
 rw [(gD _).length_eq]
 exact nR _
def inN (n:Nat) (i:Int):Bool:=!(decide (i<0)||decide ((n:Int)≤i))
theorem one_keep {keep:List Int} {n:Nat} (hn:n≤1):(okeep keep).filter (inN n)=if n=1∧(0:Int)∈keep then [0] else []:=by
 have hp:List.Pairwise (·<·) ((okeep keep).filter (inN n)):=(okeep_lt keep).filter _
 have hm:∀ i,i∈(okeep keep).filter (inN n)↔i∈keep∧0≤i∧i<n:=fun i=>by
  rw [List.mem_filter,okeep_mem]
  unfold inN
  simp only [Bool.not_eq_true',Bool.or_eq_false_iff,decide_eq_false_iff_not]
  constructor<;>rintro ⟨h1,h2,h3⟩<;>exact ⟨h1,by omega,by omega⟩
 generalize hl:(okeep keep).filter (inN n)=l at hp hm
 split
 ·rename_i h
  obtain ⟨rfl,h0⟩:=h
  match l,hp,hm with
  | [],_,hm=>exact absurd ((hm 0).2 ⟨h0,by omega,by omega⟩) (by simp)
  | [a],_,hm =>
   have:=(hm a).1 (by simp)
   rw [show a=0 by omega]
  | a::b::r,hp,hm =>
   have h1:=(hm a).1 (by simp)
   have h2:=(hm b).1 (by simp)
   have h3:a<b:=(List.pairwise_cons.1 hp).1 b (by simp)
   omega
 ·rename_i h
  match l,hm with
  | [],_=>rfl
  | a::r,hm =>
   have h1:=(hm a).1 (by simp)
   exact absurd ⟨by omega,by rw [show (0:Int)=a by omega];exact h1.1⟩ h
theorem bad_eq (n:Nat) (r:Int):PE.orM (ltM r 0) (leM (n:Int) r)=!inN n r:=by
 unfold inN PE.orM ltM leM
 rw [Bool.not_not]
theorem del_ok {l:List Int} {n:Nat} (hl:l.length≤100000000000000) :
  Option.bind (Option.bind (iA (fun (s:Int)=>bif ltM s (lenM l) then (oA s (lenM l)).bind fun r_2=>(gA l s).bind fun r=>bif PE.orM (ltM r 0) (leM (n:Int) r) then some (Sum.inr (Sum.inr s)) else some (Sum.inl (IntKind.wrap .i64 (s+1))) else some (Sum.inr (Sum.inl ()))) 0) fun (o:Unit⊕Int)=>Sum.elim (fun (t:Unit)=>some (-1:Int)) (fun (t:Int)=>some t) o) (fun (ov:Int)=>bif eqM ov (-1) then some l else (iA (fun (s:Int×Int×List Int)=>bif ltM s.2.1 (lenM s.2.2) then ((oA s.2.1 (lenM s.2.2)).bind fun r_2=>(gA s.2.2 s.2.1).bind fun r_3=>bif PE.notM (PE.orM (ltM r_3 0) (leM (n:Int) r_3)) then (oA s.1 (lenM s.2.2)).bind fun r_4=>(wE s.2.2 s.1 fun (x:Int)=>some r_3).bind fun r=>some (IntKind.wrap .i64 (s.1+1),r) else some (s.1,s.2.2)).bind fun o=>some (Sum.inl (o.1,IntKind.wrap .i64 (s.2.1+1),o.2)) else some (Sum.inr (s.1,s.2.2))) (ov,IntKind.wrap .i64 (ov+1),l)).bind fun o_1=>(oA o_1.1 (lenM o_1.2)).bind fun r_2=>(pA (clrM o_1.2 o_1.1 0) 0 o_1.1).bind fun r=>some r)=some (l.filter (inN n)):=by
 obtain ⟨o,h1,h2⟩:=find_loop (xs:=l) (fun r=>!inN n r) (body:=(fun (s:Int)=>bif ltM s (lenM l) then (oA s (lenM l)).bind fun r_2=>(gA l s).bind fun r=>bif PE.orM (ltM r 0) (leM (n:Int) r) then some (Sum.inr (Sum.inr s)) else some (Sum.inl (IntKind.wrap .i64 (s+1))) else some (Sum.inr (Sum.inl ())))) (fun k hk=>by
  rw [mA,ltI (by omega),cT,bB (by omega) (by omega),oB,aB hk,oB,bad_eq,fA (by omega) (by omega)]
  cases (!inN n l[k])<;>rfl) (by
  rw [mA,geI (by omega),cF])
 rw [h1,oB]
 rcases h2 with ⟨rfl,h2⟩ | ⟨k,hk,rfl,h2,h3⟩
 ·dsimp only [Sum.elim_inl,oB]
  rw [eqI rfl,cT,List.filter_eq_self.2 fun x hx=>?_]
  obtain ⟨i,hi,rfl⟩:=List.mem_iff_getElem.1 hx
  simpa using h2 i hi
 ·dsimp only [Sum.elim_inr,oB]
  rw [neI (by omega),cF,fA (by omega) (by omega)]
  have hpre:(l.take (k+1)).filter (inN n)=l.take k:=by
   rw [List.take_succ_eq_append_getElem hk,List.filter_append,List.filter_eq_self.2 fun x hx=>?_]
   ·have:inN n l[k]=false:=by simpa using h2
    simp [this]
   ·obtain ⟨i,hi,rfl⟩:=List.mem_iff_getElem.1 hx
    rw [lT] at hi
    rw [List.getElem_take]
    simpa using h3 i (by omega)
  have hlen:∀ m,k+1+m≤l.length→((l.take (k+1+m)).filter (inN n)).length≤k+m:=fun m hm=>by
   rw [List.take_add,List.filter_append,lA,hpre,lT]
   have:=List.length_filter_le (inN n) ((l.drop (k+1)).take m)
   rw [lT] at this
   omega
  obtain ⟨o,e1,xs,rfl,q1,q2,q3⟩:Ans (iA (fun (s:Int×Int×List Int)=>bif ltM s.2.1 (lenM s.2.2) then ((oA s.2.1 (lenM s.2.2)).bind fun r_2=>(gA s.2.2 s.2.1).bind fun r_3=>bif PE.notM (PE.orM (ltM r_3 0) (leM (n:Int) r_3)) then (oA s.1 (lenM s.2.2)).bind fun r_4=>(wE s.2.2 s.1 fun (x:Int)=>some r_3).bind fun r=>some (IntKind.wrap .i64 (s.1+1),r) else some (s.1,s.2.2)).bind fun o=>some (Sum.inl (o.1,IntKind.wrap .i64 (s.2.1+1),o.2)) else some (Sum.inr (s.1,s.2.2))) ((k:Int),(k:Int)+1,l)) (fun o=>∃ xs,o=(((l.filter (inN n)).length:Int),xs)∧xs.take (l.filter (inN n)).length=l.filter (inN n)∧(l.filter (inN n)).length<l.length∧xs.length=l.length):=by
   refine Ans.loop (fun m st=>∃ xs,st=((((l.take (k+1+m)).filter (inN n)).length:Int),((k+1+m:Nat):Int),xs)∧xs.length=l.length∧xs.take ((l.take (k+1+m)).filter (inN n)).length=(l.take (k+1+m)).filter (inN n)∧xs.drop (k+1+m)=l.drop (k+1+m)∧k+1+m≤l.length) (l.length-(k+1)) ⟨l,?_,rfl,?_,rfl,by omega⟩ ?_
   ·rw [Nat.add_zero,hpre,lT,Nat.min_eq_left (by omega)];rfl
   ·rw [Nat.add_zero,hpre,lT,Nat.min_eq_left (by omega)]
   rintro m st hm ⟨xs,rfl,x1,x2,x3,x4⟩
   have hl2:=hlen m x4
   dsimp only
   rw [mA,x1]
   by_cases hj:k+1+m<l.length
   ·have hxj:xs[k+1+m]'(by omega)=l[k+1+m]:=by
     have:=congrArg (fun (y:List Int)=>y[0]?) x3
     simp only [List.getElem?_drop,Nat.add_zero] at this
     rw [gE (by omega),gE hj] at this
     exact Option.some.inj this
    rw [ltI (by omega),cT,bB (by omega) (by omega),oB,aB (by omega),oB,hxj,bad_eq]
    have hft:(l.take (k+1+(m+1))).filter (inN n)=(l.take (k+1+m)).filter (inN n)++[l[k+1+m]].filter (inN n):=by
     rw [show k+1+(m+1)=(k+1+m)+1 by omega,List.take_succ_eq_append_getElem hj,List.filter_append]
    cases hg:inN n l[k+1+m] with
    | true =>
     rw [show PE.notM (!true)=true from rfl,cT,bB (by omega) (by omega),oB,setM_of (y:=l[k+1+m]) (by omega) (by omega) rfl,oB,oB,fA (by omega) (by omega),fA (by omega) (by omega)]
     have hft:(l.take (k+1+(m+1))).filter (inN n)=(l.take (k+1+m)).filter (inN n)++[l[k+1+m]]:=by
      rw [hft];simp [hg]
     refine Ans.some ⟨by omega,xs.set ((l.take (k+1+m)).filter (inN n)).length l[k+1+m],?_,by rw [List.length_set];exact x1,?_,?_,by omega⟩
     ·rw [hft,lA,Int.toNat_natCast]
      refine Prod.ext rfl (Prod.ext ?_ rfl)
      exact show ((k+1+m:Nat):Int)+1=((k+1+(m+1):Nat):Int) by omega
     ·rw [hft,lA,List.length_singleton,List.take_succ_eq_append_getElem (by rw [List.length_set];omega),List.getElem_set_self,List.take_set_of_le (nR _),x2]
     ·rw [List.drop_set_of_lt (by omega),show k+1+(m+1)=(k+1+m)+1 by omega,← List.drop_drop,x3,List.drop_drop]
    | false =>
     rw [show PE.notM (!false)=false from rfl,cF,oB,fA (by omega) (by omega)]
     rw [show [l[k+1+m]].filter (inN n)=[] by simp [hg],List.append_nil] at hft
     refine Ans.some ⟨by omega,xs,?_,x1,by rw [hft];exact x2,?_,by omega⟩
     ·rw [hft]
      refine Prod.ext rfl (Prod.ext ?_ rfl)
      exact show ((k+1+m:Nat):Int)+1=((k+1+(m+1):Nat):Int) by omega
     ·rw [show k+1+(m+1)=(k+1+m)+1 by omega,← List.drop_drop,x3,List.drop_drop]
   ·rw [geI (by omega),cF]
    have he:k+1+m=l.length:=by omega
    rw [he,List.take_length] at x2 hl2 ⊢
    exact Ans.some ⟨xs,rfl,x2,by omega,x1⟩
  rw [e1,oB]
  dsimp only
  have hcl:(clrM xs ((l.filter (inN n)).length:Int) 0).length=l.length:=by
   unfold clrM
   rw [lA,lT,List.length_replicate,Int.toNat_natCast]
   omega
  rw [mA,bB (by omega) (by omega),oB,fB (by omega) (by omega) (by omega),oB,Int.toNat_natCast,show (0:Int).toNat=0 from rfl,List.drop_zero]
  unfold clrM
  rw [Int.toNat_natCast,List.take_left' (by rw [lT];omega),q1]
variable [EA]
variable {o:Bool} {L:Int} {du vi:Bs} {pd:List (Int×Bs)}
def torn (t:Int) (s:Bs):Bs:=if 0≤t then s.take (min t s.length).toNat else s
def cr (keep:List Int) (t:Int) (du:Bs):List (Int×Bs)→Bs
 | [(q,s)]=>if (0:Int)∈keep then spl du q.toNat (torn t s) else du
 | _=>du
def PdOk (n:Nat) (pd:List (Int×Bs)):Prop:=pd.length≤1∧∀ q s,(q,s)∈pd→0≤q∧q<n∧q+s.length≤n
theorem torn_len (t:Int) (s:Bs):(torn t s).length≤s.length:=by
 unfold torn
 split
 ·rw [lT];omega
 ·exact nR _
theorem cr_len {keep:List Int} {t:Int} (h:PdOk du.length pd):(cr keep t du pd).length=du.length:=by
 unfold cr
 split
 ·rename_i q s
  obtain ⟨h1,h2,h3⟩:=h.2 q s (by simp)
  have:=torn_len t s
  split
  ·rw [sK (by omega)]
  ·rfl
 ·rfl
theorem crash_ok {keep:List Int} {t:Int} (hk:keep.length≤17592186043904) (ht:-9223372036854775808≤t∧t≤9223372036854775807) (h:PdOk du.length pd) (hv:vi.length=du.length) (hn:du.length≤100000) :
  m13 (keep,t,false,dk o L du vi pd)=some (0,false,0,nB (cr keep t du pd),nB (cr keep t du pd),[]):=by
 unfold m13 dk
 dsimp only [cC,oB]
 have hloop:iA (fun (s:Int×List Int)=>bif ltM s.1 (lenM keep) then (gA keep s.1).bind fun r=>(eB (nat_lit 8) s.2 [r]).bind fun r=>some (Sum.inl (IntKind.wrap .i64 (s.1+1),r)) else some (Sum.inr s.2)) (0,[])=some keep:=by
  refine vA (fun k=>((k:Int),keep.take k)) keep.length rfl (fun k hk2=>?_) ?_
  ·dsimp only
   rw [mA,ltI (by omega),cT,aB hk2,oB,aC (by rw [lT];show (_+1)*8≤_;omega),oB,fA (by omega) (by omega),List.take_succ_eq_append_getElem hk2]
   rfl
  ·dsimp only
   rw [mA,geI (by omega),cF,List.take_length]
 rw [hloop,oB]
 have e1:sortI keep=some (zI keep):=by unfold sortI;rw [dT (by omega)]
 have hsl:=(gD keep).length_eq
 have e2:compI (zI keep)=some (okeep keep):=by unfold compI;rw [dT (by omega)];rfl
 rw [e1,oB,e2,oB]
 have hol:=okeep_len keep
 have hdel:=del_ok (l:=okeep keep) (n:=pd.length) (by omega)
 rw [one_keep h.1] at hdel
 rw [mA pd,hdel,oB]
 have hcl:pA (zerosL pd ((0:Int),([]:Bs))) 0 0=some []:=iK _ _
 match pd,h with
 | [],h =>
  rw [if_neg (fun x=>absurd x.1 (by simp))]
  refine eA (x:=nB du) ?_ ?_
  ·refine vA (fun k=>((k:Int),nB du)) 0 rfl (fun k hk2=>absurd hk2 (by omega)) ?_
   try dsimp only
   rw [mA,geI (by simp),cF]
  ·try dsimp only
   rw [iK,oB,copy_eq hv]
   rfl
 | [(q,s)],h =>
  obtain ⟨h1,h2,h3⟩:=h.2 q s (by simp)
  have htl:=torn_len t s
  by_cases h0:(0:Int)∈keep
  ·rw [if_pos ⟨rfl,h0⟩]
   have hcr:cr keep t du [(q,s)]=spl du q.toNat (torn t s):=by show (if _ then _ else _)=_;rw [if_pos h0]
   refine eA (x:=nB (cr keep t du [(q,s)])) ?_ ?_
   ·refine vA (fun k=>((k:Int),nB (if k=0 then du else cr keep t du [(q,s)]))) 1 rfl (fun k hk2=>?_) ?_
    ·obtain rfl:k=0:=by omega
     try dsimp only
     have hidx:gA [(0:Int)] ((0:Nat):Int)=some 0:=rfl
     have hidx2:gA [((q,s):Int×Bs)] 0=some (q,s):=rfl
     rw [if_pos rfl,mA,ltI (by simp),cT,bB (by simp) (by simp),oB,hidx,oB,bB (by simp) (by simp [mA]),oB,hidx2,oB]
     have hcond:eqM (((0:Nat):Int)) (IntKind.wrap .i64 (([(0:Int)].length:Int)-1))=true:=eqI rfl
     rw [hcond,mG]
     have hs':(bif leM 0 t then (pA s 0 (min t (lenM s))).bind fun r=>some (q,r) else some (q,s))=some (q,torn t s):=by
      unfold torn
      by_cases ht0:0≤t
      ·rw [leI ht0,cT,mA,fB (by omega) (by omega) (by omega),oB,if_pos ht0]
       rfl
      ·rw [gtI (by omega),cF,if_neg ht0]
     rw [hs',oB]
     try dsimp only
     have hput:=put_ok (b:=du) (s:=torn t s) (p:=q.toNat) (by omega)
     rw [show ((q.toNat:Nat):Int)=q by omega] at hput
     rw [bB h1 (by rw [lenN];omega),oB,hput,oB,hcr,fA (by decide) (by decide)]
     rfl
    ·try dsimp only
     rw [if_neg (by decide),mA,geI (by simp),cF]
   ·try dsimp only
    rw [iK,oB,copy_eq (by rw [cr_len h,hv])]
  ·rw [if_neg (fun x=>h0 x.2)]
   have hcr:cr keep t du [(q,s)]=du:=by show (if _ then _ else _)=_;rw [if_neg h0]
   refine eA (x:=nB du) ?_ ?_
   ·refine vA (fun k=>((k:Int),nB du)) 0 rfl (fun k hk2=>absurd hk2 (by omega)) ?_
    try dsimp only
    rw [mA,geI (by simp),cF]
   ·try dsimp only
    rw [iK,oB,copy_eq hv,hcr]
 | _::_::_,h=>exact absurd h.1 (by simp)
variable [EA]
def ct (n:Nat) (l:List Bs):Bs:=enc h0 l++List.replicate (n-(enc h0 l).length) 0
theorem fK {n:Nat} {l:List Bs} (h:(enc h0 l).length≤n):(ct n l).length=n:=by
 unfold ct
 rw [lA,List.length_replicate];omega
def Semi (n:Nat) (l:List Bs) (c:Bs):Prop:=OkL l∧c.length=n∧∃ z,Stop z∧c=enc h0 l++z
theorem semi_ct {n:Nat} {l:List Bs} (hl:OkL l) (h:(enc h0 l).length≤n):Semi n l (ct n l):=⟨hl,fK h,_,stop_zeros _,rfl⟩
theorem open_semi {n:Nat} {l:List Bs} {c:Bs} (h:Semi n l c) (h0n:0<n) (hn:n≤100000):m8 (false,dk false 0 c c [])=some (0,false,0,nB (ct n l),nB (ct n l),false,hj h0 l,((enc h0 l).length:Int),false,l,[]):=by
 obtain ⟨hl,hc,z,hz,rfl⟩:=h
 have hzl:n-(enc h0 l).length=z.length:=by rw [lA] at hc;omega
 obtain ⟨l',z',hr,hm⟩:=open_ok (L:=0) (du:=enc h0 l++z) (vi:=enc h0 l++z) (pd:=[]) (by omega) rfl (by omega) (by simp) (by omega)
 obtain ⟨rfl,rfl⟩:=Rd.uniq (⟨hl,rfl,.inl hz⟩:Rd h0 (enc h0 l++z) l z) hr
 have hu:(usd 0)=(false,0):=rfl
 rcases hm with ⟨hb,_⟩ | ⟨_,hzs,hm⟩ | ⟨_,_,hu2,_⟩ | ⟨_,_,_,hm⟩
 ·exact (hz.bad hb).elim
 ·rw [hm]
  unfold ct
  rw [hzl,← hzs]
 ·rw [hu] at hu2;cases hu2
 ·rw [hm,hu]
  unfold ct
  rw [hzl]
theorem open_ct {n:Nat} {l:List Bs} {L:Int} (hl:OkL l) (hf:(enc h0 l).length≤n) (h0n:0<n) (hn:n≤100000) (hL:0≤L∧L≤1000):m8 (false,dk false L (ct n l) (ct n l) [])=some (0,false,L,nB (ct n l),nB (ct n l),false,hj h0 l,((enc h0 l).length:Int),false,l,[]):=by
 have hc:=fK hf
 obtain ⟨l',z',hr,hm⟩:=open_ok (L:=L) (du:=ct n l) (vi:=ct n l) (pd:=[]) (by omega) rfl (by omega) (by simp) hL
 have hst:=stop_zeros (n-(enc h0 l).length)
 obtain ⟨rfl,rfl⟩:=Rd.uniq (⟨hl,rfl,.inl hst⟩:Rd h0 (ct n l) l _) hr
 have hzs:Zs (List.replicate (n-(enc h0 l).length) (0:UInt8)):=by unfold Zs;rw [List.length_replicate]
 rcases hm with ⟨hb,_⟩ | ⟨_,_,hm⟩ | ⟨_,hz,_⟩ | ⟨_,hz,_⟩
 ·exact (hst.bad hb).elim
 ·exact hm
 ·exact absurd hzs hz
 ·exact absurd hzs hz
theorem spl_mid {a m z s:Bs} (h:s.length=m.length):spl (a++(m++z)) a.length s=a++(s++z):=by
 have e:(a++(m++z)).drop (a.length+m.length)=z:=by rw [← aA,← lA,List.drop_left' rfl]
 unfold spl
 rw [List.take_left' rfl,h,e]
theorem spl_nil (b:Bs) (p:Nat):spl b p []=b:=by
 unfold spl
 simp
theorem zeros_split {m k:Nat} (h:k≤m):(List.replicate m 0:Bs)=List.replicate k 0++List.replicate (m-k) 0:=by
 rw [List.replicate_append_replicate];congr 1;omega
section
variable {n:Nat} {r l:List Bs} {t:Bs}
theorem first_write (ht:enc (hj h0 r) l=1::t) (hf:(enc h0 r).length+(1::t:Bs).length≤n) {s:Bs} (hs:s.length≤t.length) :
  spl (ct n r) ((enc h0 r).length+1) s=enc h0 r++(0::(s++List.replicate (n-(enc h0 r).length-1-s.length) 0)):=by
 rw [List.length_cons] at hf
 unfold ct
 have e:(List.replicate (n-(enc h0 r).length) 0:Bs)=[0]++(List.replicate s.length 0++List.replicate (n-(enc h0 r).length-1-s.length) 0):=by
  rw [zeros_split (m:=n-(enc h0 r).length) (k:=1) (by omega),zeros_split (m:=n-(enc h0 r).length-1) (k:=s.length) (by omega)]
  rfl
 rw [e,← aA,show (enc h0 r).length+1=(enc h0 r++[0]).length by simp,spl_mid (by simp),aA]
 rfl
theorem rI (ht:enc (hj h0 r) l=1::t) (hf:(enc h0 r).length+(1::t:Bs).length≤n) :
  spl (spl (ct n r) ((enc h0 r).length+1) t) (enc h0 r).length [1]=ct n (r++l):=by
 rw [first_write ht hf (nR _)]
 have:=spl_mid (a:=enc h0 r) (m:=[0]) (z:=t++List.replicate (n-(enc h0 r).length-1-t.length) 0) (s:=[1]) rfl
 rw [show (0::(t++List.replicate (n-(enc h0 r).length-1-t.length) 0):Bs)=[0]++(t++List.replicate (n-(enc h0 r).length-1-t.length) 0) from rfl,this]
 unfold ct
 rw [enc_app,ht,lA,List.length_cons,aA,show n-((enc h0 r).length+(t.length+1))=n-(enc h0 r).length-1-t.length by omega]
 rfl
theorem semi_first (hr:OkL r) (ht:enc (hj h0 r) l=1::t) (hf:(enc h0 r).length+(1::t:Bs).length≤n) {s:Bs} (hs:s.length≤t.length):Semi n r (spl (ct n r) ((enc h0 r).length+1) s):=by
 refine ⟨hr,?_,_,stop_cons _,first_write ht hf hs⟩
 rw [List.length_cons] at hf
 rw [sK (by rw [fK (by omega)];omega),fK (by omega)]
end
structure Aft (n:Nat) (was want:List Bs) (du vi:Bs) (pd:List (Int×Bs)):Prop where
 hpd:PdOk n pd
 hdu:du.length=n
 hvi:vi.length=n
 hcr:∀ keep t,Semi n was (cr keep t du pd)∨Semi n want (cr keep t du pd)
theorem aft_ct {n:Nat} {r:List Bs} (hr:OkL r) (hf:(enc h0 r).length≤n):Aft n r r (ct n r) (ct n r) [] :=
 ⟨⟨by simp,fun _ _ h=>by cases h⟩,fK hf,fK hf,fun keep t=>.inl (semi_ct hr hf)⟩
theorem app_clean {n:Nat} {r l:List Bs} {L:Int} (hr:OkL r) (hf:(enc h0 r).length≤n) (hn:n≤100000) (hl:OkL l) (hll:l.length≤1000) (hL:0≤L∧L≤1000) :
  (n<(enc h0 (r++l)).length∧m12 (l,false,hj h0 r,((enc h0 r).length:Int),false,r,false,dk false L (ct n r) (ct n r) [])=some (371,false,hj h0 r,((enc h0 r).length:Int),false,false,L,nB (ct n r),nB (ct n r),r,[])) ∨
  ((enc h0 (r++l)).length≤n∧∃ L',0≤L'∧L'≤1000∧(L=0→L'=0)∧m12 (l,false,hj h0 r,((enc h0 r).length:Int),false,r,false,dk false L (ct n r) (ct n r) [])=some (0,false,hj h0 (r++l),((enc h0 (r++l)).length:Int),false,false,L',nB (ct n (r++l)),nB (ct n (r++l)),r++l,[])) ∨
  (L≠0∧∃ L' du vi pd,0≤L'∧L'≤1000∧Aft n r (r++l) du vi pd∧m12 (l,false,hj h0 r,((enc h0 r).length:Int),false,r,false,dk false L (ct n r) (ct n r) [])=some (361,false,hj h0 r,((enc h0 r).length:Int),true,true,L',nB du,nB vi,r,pd)):=by
 have hle:=enc_le (h:=h0) r
 have hea:(enc h0 (r++l)).length=(enc h0 r).length+(enc (hj h0 r) l).length:=by rw [enc_app,lA]
 have hcl:=fK hf
 rw [app_ok (o:=false) (L:=L) (du:=ct n r) (vi:=ct n r) (pd:=[]) (hh:=hj h0 r) (p:=(enc h0 r).length) (recs:=r) (l:=l) (hj_len h0_len r) hl hll (by omega) (by omega) rfl (by omega) (by simp) hL,hcl]
 by_cases h1:n<(enc h0 r).length+(enc (hj h0 r) l).length
 ·exact .inl ⟨by omega,by rw [if_pos h1]⟩
 rw [if_neg h1]
 by_cases h2:l=[]
 ·subst h2
  refine .inr (.inl ⟨by omega,L,hL.1,hL.2,fun h=>h,?_⟩)
  rw [if_pos rfl,List.append_nil]
 rw [if_neg h2]
 obtain ⟨t,ht⟩:=enc_head (h:=hj h0 r) h2
 rw [ht] at h1 hea ⊢
 have hfit:(enc h0 r).length+(1::t:Bs).length≤n:=by omega
 have hrl:OkL (r++l):=hr.app hl
 have htl:(1::t:Bs).tail=t:=rfl
 have hlc:(1::t:Bs).length=t.length+1:=rfl
 have h21:=usd_in hL
 have hL0:(usd L).1=true→L≠0:=fun h e=>by subst e;cases h
 cases hu:(usd L).1 with
 | true =>
  have ha:apd false L (ct n r) (ct n r) [] (enc h0 r).length (1::t)=(361,true,(usd L).2,ct n r,spl (ct n r) ((enc h0 r).length+1) t,[((((enc h0 r).length+1:Nat):Int),t)]):=by
   unfold apd
   rw [if_neg (by decide),if_pos hu];rfl
  refine .inr (.inr ⟨hL0 hu,(usd L).2,ct n r,spl (ct n r) ((enc h0 r).length+1) t,[((((enc h0 r).length+1:Nat):Int),t)],h21.1,h21.2,⟨⟨by simp,fun q s h=>?_⟩,hcl,?_,fun keep x=>?_⟩,?_⟩)
  ·simp only [List.mem_singleton,Prod.mk.injEq] at h
   obtain ⟨rfl,rfl⟩:=h
   have h33:1≤s.length:=by
    cases l with
    | nil=>exact absurd rfl h2
    | cons a l =>
     have:=congrArg List.length ht
     rw [List.length_cons,show enc (hj h0 r) (a::l)=sto (hj h0 r) a++enc (pB (hj h0 r) a) l from rfl,lA,nD] at this
     omega
   omega
  ·rw [sK (by rw [hcl];omega),hcl]
  ·unfold cr
   dsimp only
   split
   ·rw [Int.toNat_natCast]
    exact .inl (semi_first hr ht hfit (torn_len _ _))
   ·exact .inl (semi_ct hr hf)
  ·rw [ha,if_neg (show ¬ ((361:Int)=0) by decide)]
 | false =>
  have hv1:(spl (ct n r) ((enc h0 r).length+1) t).length=n:=by rw [sK (by rw [hcl];omega),hcl]
  cases hu2:(usd (usd L).2).1 with
  | true =>
   have ha:apd false L (ct n r) (ct n r) [] (enc h0 r).length (1::t)=(361,true,(usd (usd L).2).2,spl (ct n r) ((enc h0 r).length+1) t,spl (spl (ct n r) ((enc h0 r).length+1) t) (enc h0 r).length [1],[(((enc h0 r).length:Int),[1])]):=by
    unfold apd
    rw [if_neg (by decide),hu,if_neg (by decide),if_pos hu2];rfl
   have h22:=usd_in h21
   refine .inr (.inr ⟨(fun e=>by subst e;cases hu2),(usd (usd L).2).2,spl (ct n r) ((enc h0 r).length+1) t,spl (spl (ct n r) ((enc h0 r).length+1) t) (enc h0 r).length [1],[(((enc h0 r).length:Int),[1])],h22.1,h22.2,⟨⟨by simp,fun q s h=>?_⟩,hv1,?_,fun keep x=>?_⟩,?_⟩)
   ·simp only [List.mem_singleton,Prod.mk.injEq] at h
    obtain ⟨rfl,rfl⟩:=h
    rw [show ([1]:Bs).length=1 from rfl]
    omega
   ·rw [rI ht hfit,fK (by omega)]
   ·unfold cr
    dsimp only
    split
    ·rw [Int.toNat_natCast]
     have:torn x [1]=[]∨torn x [1]=[1]:=by
      have h3:=torn_len x [1]
      unfold torn at h3 ⊢
      split
      ·rcases Nat.eq_zero_or_pos (min x (([1]:Bs).length:Int)).toNat with e | e
       ·rw [e];exact .inl rfl
       ·rw [tkL (show ([1]:Bs).length≤_ from e)];exact .inr rfl
      ·exact .inr rfl
     rcases this with e | e
     ·rw [e,spl_nil]
      exact .inl (semi_first hr ht hfit (nR _))
     ·rw [e,rI ht hfit]
      exact .inr (semi_ct hrl (by omega))
    ·exact .inl (semi_first hr ht hfit (nR _))
   ·rw [ha,if_neg (show ¬ ((361:Int)=0) by decide)]
  | false =>
   have ha:apd false L (ct n r) (ct n r) [] (enc h0 r).length (1::t)=(0,false,(usd (usd L).2).2,spl (spl (ct n r) ((enc h0 r).length+1) t) (enc h0 r).length [1],spl (spl (ct n r) ((enc h0 r).length+1) t) (enc h0 r).length [1],[]):=by
    unfold apd
    rw [if_neg (by decide),hu,if_neg (by decide),hu2,if_neg (by decide)];rfl
   have h22:=usd_in h21
   refine .inr (.inl ⟨by omega,(usd (usd L).2).2,h22.1,h22.2,(fun e=>by subst e;rfl),?_⟩)
   rw [ha,if_pos rfl,rI ht hfit,hea,hj_app]
variable [EA]
section
variable {o:Bool} {L:Int} {du vi:Bs} {pd:List (Int×Bs)} {hh:Bs} {p n:Nat} {br:Bool} {recs r l:List Bs}
theorem new_u {n:Nat} (h1:1≤n) (h2:n≤10000):m7 (n:Int)=some (0,false,false,0,nB (ct n []),nB (ct n []),[]):=(new_ok (n:=(n:Int)) (by omega) (by omega)).trans (by rw [Int.toNat_natCast];rfl)
theorem open_u (hl:OkL l) (hf:(enc h0 l).length≤n) (h0n:0<n) (hn:n≤100000) (hL:0≤L∧L≤1000):m8 (false,false,L,nB (ct n l),nB (ct n l),[])=some (0,false,L,nB (ct n l),nB (ct n l),false,hj h0 l,((enc h0 l).length:Int),false,l,[]):=open_ct hl hf h0n hn hL
theorem opens_u {c:Bs} (h:Semi n l c) (h0n:0<n) (hn:n≤100000):m8 (false,false,0,nB c,nB c,[])=some (0,false,0,nB (ct n l),nB (ct n l),false,hj h0 l,((enc h0 l).length:Int),false,l,[]):=open_semi h h0n hn
theorem recs_u {x:Int} (h:recs.length≤1000000):m15 (false,hh,x,br,recs,false,o,L,nB du,nB vi,pd)=some recs:=recs_ok h
theorem cut_u {c:Int} (h:0≤c):m9 (c,false,false,L,nB du,nB vi,pd)=some (0,decide (c=0),c):=cut_ok h
theorem app_u (hr:OkL r) (hf:(enc h0 r).length≤n) (hn:n≤100000) (hl:OkL l) (hll:l.length≤1000) (hL:0≤L∧L≤1000) :
  (n<(enc h0 (r++l)).length∧m12 (l,false,hj h0 r,((enc h0 r).length:Int),false,r,false,false,L,nB (ct n r),nB (ct n r),[])=some (371,false,hj h0 r,((enc h0 r).length:Int),false,false,L,nB (ct n r),nB (ct n r),r,[])) ∨
  ((enc h0 (r++l)).length≤n∧∃ L',0≤L'∧L'≤1000∧(L=0→L'=0)∧m12 (l,false,hj h0 r,((enc h0 r).length:Int),false,r,false,false,L,nB (ct n r),nB (ct n r),[])=some (0,false,hj h0 (r++l),((enc h0 (r++l)).length:Int),false,false,L',nB (ct n (r++l)),nB (ct n (r++l)),r++l,[])) ∨
  (L≠0∧∃ L' du vi pd,0≤L'∧L'≤1000∧Aft n r (r++l) du vi pd∧m12 (l,false,hj h0 r,((enc h0 r).length:Int),false,r,false,false,L,nB (ct n r),nB (ct n r),[])=some (361,false,hj h0 r,((enc h0 r).length:Int),true,true,L',nB du,nB vi,r,pd)):=app_clean hr hf hn hl hll hL
theorem crash_u {o:Bool} {L:Int} {du vi:Bs} {pd:List (Int×Bs)} {keep:List Int} {t:Int} (hk:keep.length≤17592186043904) (ht:-9223372036854775808≤t∧t≤9223372036854775807) (h:PdOk du.length pd) (hv:vi.length=du.length) (hn:du.length≤100000) :
  m13 (keep,t,false,o,L,nB du,nB vi,pd)=some (0,false,0,nB (cr keep t du pd),nB (cr keep t du pd),[]):=crash_ok hk ht h hv hn
end
end Go.Proofs.YtdjfiampkhfooaaGreatDoor
namespace Go.Ar
def rD (l:List Rp) (k:Nat):List Bs:=(l.take k).map en
theorem recsR_succ {l:List Rp} {k:Nat} (h:k<l.length):rD l (k+1)=rD l k++[en l[k]]:=by
 unfold rD
 rw [List.take_succ_eq_append_getElem h,List.map_append];rfl
theorem en_short {r:Rp} (h:OkR r):(en r).length≤200:=by
 have hi:inR r.sv∧inR r.nu∧inR r.da∧inR r.ki∧inR r.su∧inR r.va∧inR r.rf:=by
  obtain ⟨h1,h2,h3,h4,h5,h6,h7,h8,h9⟩:=h
  unfold inR
  rcases h9 with h9 | h9<;>omega
 obtain ⟨i1,i2,i3,i4,i5,i6,i7⟩:=hi
 have j1:=cE i1
 have j2:=cE i2
 have j3:=cE i3
 have j4:=cE i4
 have j5:=cE i5
 have j6:=cE i6
 have j7:=cE i7
 have hp:r.pv.length=32:=h.2.2.2.2.2.2.1
 have ht:r.tg.length=32:=h.2.2.2.2.2.2.2.1
 have k1:(pI (r.pv.length:Int)).length≤9:=cE (by unfold inR;omega)
 have k2:(pI (r.tg.length:Int)).length≤9:=cE (by unfold inR;omega)
 unfold en sg pS
 simp only [lA]
 omega
theorem recsR_ok {l:List Rp} (h:∀ r∈l,OkR r) (k:Nat):OkL (rD l k):=fun s hs=>by
 obtain ⟨r,hr,rfl⟩:=List.mem_map.1 hs
 have:=en_short (h r (List.mem_of_mem_take hr))
 omega
theorem recsR_len (l:List Rp) (k:Nat):(rD l k).length=min k l.length:=by unfold rD;rw [List.length_map,lT]
theorem enc_short:∀ (h:Bs) (m:List Bs),(∀ s∈m,s.length≤200)→(enc h m).length≤250*m.length
 | _,[],_=>nR 0
 | h,s::m,hm=>by
  have h1:=hm s (by simp)
  have h2:=enc_short (pB h s) m fun t ht=>hm t (List.mem_cons_of_mem _ ht)
  have h3:(pI (s.length:Int)).length≤9:=cE (by unfold inR;omega)
  show (sto h s++enc (pB h s) m).length≤_
  rw [lA,nD,List.length_cons]
  unfold pS
  rw [lA]
  omega
theorem recsR_fits {l:List Rp} (h:∀ r∈l,OkR r) (hl:l.length≤16) (k:Nat):(enc h0 (rD l k)).length≤4000:=by
 have h1:=enc_short h0 (rD l k) fun s hs=>by
  obtain ⟨r,hr,rfl⟩:=List.mem_map.1 hs
  exact en_short (h r (List.mem_of_mem_take hr))
 have:=recsR_len l k
 omega
theorem load_arch {l D:List Rp} (h:∀ r∈l,OkR r) {k:Nat} (hD:∀ r,r∈D↔OkR r∧en r∈rD l k):mB D=mB (l.take k):=yG fun r=>by
 rw [hD]
 constructor
 ·rintro ⟨_,q⟩
  obtain ⟨x,hx,e⟩:=List.mem_map.1 q
  rw [← en_inj e];exact hx
 ·intro q
  exact ⟨h r (List.mem_of_mem_take q),List.mem_map.2 ⟨r,q,rfl⟩⟩
theorem load_len {l:List Rp} (h:Chn l) (k:Nat):(mB (l.take k)).length=min k l.length:=by
 rw [arch_len_nodup (h.nd.sublist (List.take_sublist k l)),lT]
theorem load_okA {l:List Rp} (h:Chn l) (hl:l.length≤16) (k:Nat):OkA (mB (l.take k)):=⟨fun r hr=>h.ok r (List.mem_of_mem_take ((nC _ r).1 hr)),hJ _,by rw [load_len h];omega⟩
theorem load_add {l:List Rp} (h:Chn l) (hl:l.length≤16) {k i:Nat} (hi:i<k) (hil:i<l.length):addR (mB (l.take k)) l[i]=(mB (l.take k),0):=by
 have hm:l[i]∈l.take k:=List.mem_take_iff_getElem.2 ⟨i,by omega,rfl⟩
 have e:mB (mB (l.take k)++[l[i]])=mB (l.take k):=(yG (m:=l.take k) fun x=>by
  rw [List.mem_append,nC,List.mem_singleton]
  exact ⟨fun q=>q.elim id fun q=>q▸hm,.inl⟩)
 have ho:=load_okA h hl k
 rw [addR_ok ho (h.ok _ (List.getElem_mem hil)) (by rw [e];exact ho.2.2),e]
theorem load_mrg {l:List Rp} (h:Chn l) (hl:l.length≤16) (k:Nat):mrg (mB (l.take k)) (mB l)=(mB l,0):=by
 have ho:=load_okA h hl k
 have hw:OkA (mB l):=h.okA (by omega)
 have e:mB (mB (l.take k)++mB l)=mB l:=yG fun x=>by
  rw [List.mem_append,nC,nC]
  exact ⟨fun q=>q.elim List.mem_of_mem_take id,.inr⟩
 unfold mrg mk40
 rw [if_pos ⟨ho,hw⟩,e,if_pos hw.2.2]
end Go.Ar
namespace Go.Proofs.YtdjfiampkhfooaaGreatDoor
open Go Go.Lib Go.Abs Go.PE Go.Ar
variable [EA]
theorem law7_ok (x:List X6×Int×List Int×Int) (hx:∀ y∈x.1,has6 y) (h1:mJ x.2.1) (h2:x.2.2.1.length≤17592186043904) (h3:mJ x.2.2.2):m3 x=some true:=by
 unfold m3
 refine eA sane_ok ?_
 refine bif_no rfl ?_
 refine eA (madeO_ok hx) ?_
 have hM:=(madeL_mde x.1).toChn
 have hl:=madeL_len x.1
 generalize madeL x.1=l at hM hl
 refine eA (of_ok hM.ok (by omega)) ?_
 have ok0:OkL ([]:List Bs):=fun r h=>by simp at h
 have e0:(enc h0 ([]:List Bs)).length=0:=rfl
 refine eA (new_u (n:=8192) (by omega) (by omega)) ?_
 refine eA (open_u (n:=8192) (L:=0) ok0 (by rw [e0];omega) (by omega) (by omega) (by omega)) ?_
 refine bif_no rfl ?_
 have hp:=xD (c:=x.2.1) (n:=2*(l.length:Int)+2) (by omega)
 refine eA (x:=xC x.2.1 (2*(l.length:Int)+2)) (by rw [mA,fA (n:=2*(l.length:Int)) (by omega) (by omega),fA (by omega) (by omega)];exact lpick_eq h1 (by omega)) ?_
 generalize xC x.2.1 (2*(l.length:Int)+2)=p at hp
 refine eA (x:=(0,false,1+p)) (by rw [fA (by omega) (by omega)];exact (cut_u (by omega)).trans (by rw [dF (by omega)])) ?_
 refine bif_no rfl ?_
 refine Ans.is ?_
 refine Ans.bind (P:=fun o=>∃ k:Nat,∃ o' L du vi hh pz br pd recs,o=.inl ((k:Int),o',L,nB du,nB vi,false,hh,pz,br,pd,recs)∧k≤l.length∧Aft 8192 (rD l k) (rD l (k+1)) du vi pd) ?_ ?_
 ·refine Ans.loop (fun k s=>k≤l.length∧∃ L,0≤L∧L≤1000∧s=((k:Int),(k:Int),false,L,nB (ct 8192 (rD l k)),nB (ct 8192 (rD l k)),false,hj h0 (rD l k),((enc h0 (rD l k)).length:Int),false,[],rD l k)) l.length ⟨by omega,1+p,by omega,by omega,rfl⟩ ?_
  rintro k _ hk ⟨_,L,hL1,hL2,rfl⟩
  dsimp only
  rw [mA]
  have hr:=recsR_ok hM.ok k
  have hf:=recsR_fits hM.ok hl k
  have hf1:=recsR_fits hM.ok hl (k+1)
  by_cases hkl:k<l.length
  ·have ho:=hM.ok _ (List.getElem_mem hkl)
   have hs:=recsR_succ hkl
   rw [ltI (by omega),cT,aB hkl,oB,eR,wEnc_eq,if_pos ho,oB]
   dsimp only
   rw [eqI rfl,sA,cF]
   rcases app_u (n:=8192) (L:=L) (r:=rD l k) (l:=[en l[k]]) hr (by omega) (by omega) (fun s hs=>by
    rw [List.mem_singleton.1 hs]
    have:=en_short ho
    omega) (by simp) ⟨hL1,hL2⟩ with ⟨hbad,_⟩ | ⟨_,L',q1,q2,_,e⟩ | ⟨_,L',du,vi,pd,q1,q2,ha,e⟩
   ·rw [← hs] at hbad;omega
   ·rw [e,oB]
    dsimp only
    rw [eqI rfl,sA,cF,fA (by omega) (by omega),← hs]
    exact Ans.some ⟨by omega,by omega,L',q1,q2,rfl⟩
   ·rw [e,oB]
    dsimp only
    rw [neI (by decide),xA,cT]
    rw [← hs] at ha
    exact Ans.some ⟨k,true,L',du,vi,_,_,_,pd,_,rfl,by omega,ha⟩
  ·have e:rD l (k+1)=rD l k:=by unfold rD;rw [tkL (by omega),tkL (by omega)]
   rw [geI (by omega),cF]
   exact Ans.some ⟨k,false,L,_,_,_,_,_,_,_,rfl,by omega,by rw [e];exact aft_ct hr (by omega)⟩
 ·rintro _ ⟨k,o,L,du,vi,hh,pz,br,pd,recs,rfl,hk,ha⟩
  dsimp only [Sum.elim_inl]
  have hdu:=ha.hdu
  have hvi:=ha.hvi
  rw [crash_u h2 h3 (by rw [hdu];exact ha.hpd) (by omega) (by omega),oB]
  dsimp only
  rw [eqI rfl,sA,cF]
  obtain ⟨m,hm1,hm2,hs⟩:∃ m,k≤m∧m≤k+1∧Semi 8192 (rD l m) (cr x.2.2.1 x.2.2.2 du pd):=by
   rcases ha.hcr x.2.2.1 x.2.2.2 with h | h
   ·exact ⟨k,by omega,by omega,h⟩
   ·exact ⟨k+1,by omega,by omega,h⟩
  have hrl:=recsR_len l m
  have hlen:=load_len hM m
  have ho:=load_okA hM hl m
  have hoL:=ho.2.2
  rw [opens_u hs (by omega) (by omega),oB]
  dsimp only
  rw [eqI rfl,sA,orF,cF,recs_u (by omega),oB]
  obtain ⟨D,hD,hLd⟩:=wLoad_ok (l:=rD l m) (by omega) (fun s hs=>by
   have:=recsR_ok hM.ok m s hs
   omega)
  rw [hLd,load_arch hM.ok hD,mk40,if_pos hoL,oB]
  dsimp only
  rw [eqI rfl,sA,orF,mA,geI (by omega),orF,fA (by omega) (by omega),geI (by omega),cF]
  refine Ans.bind (P:=fun o=>o=.inl ()) ?_ ?_
  ·refine Ans.loop (fun i s=>s=(i:Int)∧i≤k) k ⟨rfl,by omega⟩ ?_
   rintro i _ hi ⟨rfl,_⟩
   by_cases hik:i<k
   ·rw [ltI (by omega),cT,aB (show i<l.length by omega),oB,eR,wAdd_eq (by omega),load_add hM hl (by omega) (by omega),oB]
    dsimp only
    rw [eqI rfl,sA,orF,mA,eqI rfl,sA,cF,fA (by omega) (by omega)]
    exact Ans.some ⟨by omega,rfl,by omega⟩
   ·rw [geI (by omega),cF]
    exact Ans.some rfl
  ·rintro _ rfl
   dsimp only [Sum.elim_inl]
   have hw:=(hM.okA (by omega)).2.2
   rw [wMerge_eq (by omega) (by omega),load_mrg hM hl,oB]
   dsimp only
   rw [eqI rfl,cT,same_eq (by omega),oB,dT rfl]
   exact Ans.some rfl
end Go.Proofs.YtdjfiampkhfooaaGreatDoor
namespace Go.PE
open Go Go.RowKit Go.Abs Go.ChangeShapes Go.WideShapes Go.ChangeAt
variable [ea:EA]
section
variable {H:Type} {enc:TypeId×Value→H} {P:Program} {W:World} {base:Nat} {spare:Nat→Bool} {held:Bool}
theorem trod_len {S:Cells} {w:World} {t e:TypeId} {T:Ty} {v:Value} {d:DataW H} {ps:List MemPlace} {xs:List T.den} (ht:P.underlying t=some (.slice e)) (h:DataW.Trod enc P W base spare held t v d ps) (hw:(DataW.weights P t d).all (·≤reachBytes)=true) (hx:VRep S w (.list T) xs v):xs.length*P.bytesOf e≤reachBytes:=by
 obtain ⟨b,cap,rfl,_,_,_⟩:=VRep.slice hx
 obtain ⟨n,h⟩:=h
 rcases DataW.trod_slice ht h with ⟨e1,e2⟩ | ⟨a,len,cap',elems,rest,m,hm,e1,e2,_,_,_,hl,_⟩
 ·have e1:[Value.slice b xs.length cap]=[.slice none 0 0]:=e1
  simp only [List.cons.injEq,Value.slice.injEq,and_true] at e1
  rw [e1.2.1,Nat.zero_mul]
  exact Nat.zero_le _
 ·have e1:[Value.slice b xs.length cap]=[.slice (some a) len cap']:=e1
  simp only [List.cons.injEq,Value.slice.injEq,and_true] at e1
  obtain rfl:=(Prod.mk.inj e2).1
  simp only [DataW.weights,ht,List.all_cons,bA,decide_eq_true_eq,List.length_map] at hw
  exact Nat.le_trans (Nat.mul_le_mul_right _ (by omega)) hw.1
end
theorem law_contractW {P:Program} (hl:laidOutB P=true) {f:FuncId} {fn:Func} {s:ChangeSpec} {args:List Ty} {m:Tup (args.map .d)→Option Bool} (hspec:SpecOK P f ⟨args,[.bool],m⟩) {ts:List TypeId} (hts:fn.params.toList=ts) (hT:TysP P ts args) {tb:TypeId} (hrt:fn.resultTypes=#[tb]) (htb:P.underlying tb=some .bool)
  (hvars:s.vars=[]) (hfn:∀ (H:Type) (ds:List (DataW H)),ds.length=args.length→(s.fn H ds).results=[.lit (.bool true)]∧(s.fn H ds).args=ds∧(s.fn H ds).vars=[])
  {H:Type} {enc:TypeId×Value→H} {W:World} {base:Nat} {av:Array Value} {ds gs:List (DataW H)} {before:List MemPlace} (hm:∀ x,All2 (RM (InWd W) W (fun _=>none)) (rvs args x) av.toList→m x=some true) (hglob:GlobOK (InWd W) W) (herr:ErrOK (InWd W) W)
  (hval:∀ (j:Nat) t v,fn.params[j]? = some t→av[j]? = some v→Value.okWide P W .any base t v) (hW:DataW.Whole enc P fn.params.toList s.vars false W av.toList ds gs before) :
  Calls P f av W fun e W'=>∃ v,e=.returned v∧s.post enc P fn false true false false W av v W':=by
 have hW0:=hW
 obtain ⟨p,q,hA,hV,rfl,hfz,_⟩:=hW
 rw [hvars] at hV
 obtain ⟨rfl,rfl⟩:=trodVars_none hV
 rw [List.append_nil] at *
 rw [hts] at hA
 have hlt:∀ x∈p,x.block<W.heap.size:=fun x hx=>by simpa using hW0.lt x hx
 obtain ⟨x,hx⟩:=args_data (η:=fun _=>none) (r:=.any) (b0:=base) hT hA fun j t v h1 h2=>hval j t v (by rw [← hts] at h1;simpa using h1) (by simpa using h2)
 have hc:=hspec x true (hm x hx) (InWd W) W (fun _=>none) av.toList ⟨fun b o h=>h,hglob,herr⟩ hx
 have hav:av.toList.toArray=av:=by simp
 rw [hav] at hc
 refine hc.mono fun e W' ⟨v,S',he,hg,hp⟩=>⟨v,he,?_⟩
 have hvb:v=.bool true:=VRep.bool.1 hp.2
 subst hvb
 have hb:=hg.below
 have hlen:ds.length=args.length:=by
  have h1:∀ {ts:List TypeId} {Ts:List Ty} {vs:List Value} {ds:List (DataW H)} {ps:List MemPlace},TysP P ts Ts→DataW.TrodAll enc P W 0 (fun _=>true) true ts vs ds ps→ds.length=Ts.length:=by
   intro ts Ts vs ds ps hT
   induction hT generalizing vs ds ps with
   | nil=>intro h;obtain ⟨_,rfl,_⟩:=trodAll_nil h;rfl
   | cons _ _ _ _ ih=>intro h;obtain ⟨_,_,_,_,_,_,rfl,rfl,rfl,_,hr⟩:=trodAll_cons h;simp [ih hr]
  exact h1 hT hA
 obtain ⟨f1,f2,f3⟩:=hfn H (ds++[]) (by simpa using hlen)
 have hargs:∀ sp:Nat→Bool,(∀ y∈p,sp y.block=true)→DataW.TrodAll enc P W' 0 sp true fn.params.toList av.toList (s.fn H (ds++[])).args p:=fun sp hsp=>by
  rw [f2,List.append_nil,hts]
  exact args_back hl hb hT hA hlt hsp
 have hres:∀ (b:Nat) (sp:Nat→Bool) (hd:Bool),DataW.TrodAll enc P W' b sp hd fn.resultTypes.toList ((Value.bool true).resultList fn.resultTypes.size) (s.fn H (ds++[])).results []:=fun b sp hd=>by
  rw [f1,hrt]
  exact trodAll_cons_mk (shut_bool htb _) trodAll_mk0
 have hvv:∀ sp:Nat→Bool,DataW.TrodVars enc P W' sp s.vars (s.fn H (ds++[])).vars []:=fun sp=>by rw [f3,hvars];rfl
 have hold:∀ y∈p,(fun b=>decide (b<W.heap.size)) y.block=true:=fun y hy=>by simpa using hlt y hy
 refine ⟨ds,[],p,[],p,[],hW0,hres _ _ _,hargs _ hold,hvv _,World.keptBut_mono (fun y hy=>⟨hy,?_⟩) (hb.frame (·∈p)),fun _=>?_⟩
 ·simpa using hy
 ·refine ⟨ok_one hrt rfl (okWide_bool_mk htb _),_,_,([]++p)++[],⟨[]++p,[],trodAll_append (hargs _ (fun _ _=>rfl)) (hres _ _ _),hvv _,rfl,?_,?_⟩,?_⟩
  ·intro b off hpm
   have hpm:MemPlace.cell b off∈p:=by simpa using hpm
   have hlt':=hlt _ hpm
   rw [hb.frozen (p:=⟨b,off,none⟩) hlt']
   exact hfz b off hpm
  ·intro h;cases h
  ·intro y hy _
   simpa using hy
end Go.PE
namespace Go.Proofs.YtdjfiampkhfooaaGreatDoor
open Go Go.Abs Go.PE Go.Ar Go.RowKit Go.ChangeShapes Go.WideShapes Go.ChangeAt
set_option maxRecDepth 100000
theorem mem_in {t:Ty} {l:List t.den} (h:InR (.list t) l):∀ x∈l,InR t x:=fun x hx=>by
 obtain ⟨i,hi,rfl⟩:=List.mem_iff_getElem.1 hx
 exact h.2 i _ (gE hi)
theorem params3:Tryz.f3.params.toList=[22,3,23,3]:=by kernel_rfl
theorem bytes8:Tryz.prog.bytesOf 3=8:=by kernel_rfl
theorem law3 [EA] {H:Type} {enc:TypeId×Value→H} {W:World} {av:Array Value} {vars:List String} {ds gs:List (DataW H)} {before:List MemPlace} {tv:List TypeId}
  (hW:DataW.Whole enc Tryz.prog Tryz.f3.params.toList vars false W av.toList ds gs before) (hsz:(DataW.weightsEach Tryz.prog (Tryz.f3.params.toList++tv) (ds++gs)).all (·≤reachBytes)=true)
  (x:Tup (as3.map .d)) (hx:All2 (RM (InWd W) W (fun _=>none)) (rvs as3 x) av.toList):m3 x=some true:=by
 have ho:=rvs_ok hx
 obtain ⟨p,q,hA,hV,rfl,hfz,_⟩:=hW
 rw [params3] at hA hsz
 obtain ⟨v1,vs1,d1,ds1,p1,q1,e1,rfl,_,_,hA1⟩:=trodAll_cons hA
 obtain ⟨v2,vs2,d2,ds2,p2,q2,rfl,rfl,_,_,hA2⟩:=trodAll_cons hA1
 obtain ⟨v3,vs3,d3,ds3,p3,q3,rfl,rfl,_,h3,hA3⟩:=trodAll_cons hA2
 rw [e1] at hx
 cases hx with
 | cons _ hx =>
  cases hx with
  | cons _ hx =>
   cases hx with
   | cons hk _ =>
    simp only [List.cons_append,DataW.weightsEach,List.all_append,bA] at hsz
    have hl:=trod_len (T:=.int .i64) Tryz.underlying23 h3 hsz.2.2.1 hk.2
    rw [bytes8] at hl
    exact law7_ok x (mem_in ho.1) ho.2.1 (by unfold reachBytes at hl;omega) ho.2.2.2
end Go.Proofs.YtdjfiampkhfooaaGreatDoor
