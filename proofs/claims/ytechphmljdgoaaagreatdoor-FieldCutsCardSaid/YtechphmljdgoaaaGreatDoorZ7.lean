/-
 Texts of this proof, put together: Ga, Ia, Ib, Ic, Id, Ie, If, Ig, Ih, Ii, Fx, Gb, Gc, Gd, Fy, Ge, Gf, Gg, Gh, Gn, Go, LawFieldCuts.
 No conditions.
-/
import Derived.Test.YtechphmljdgoaaaGreatDoorZ6
import Derived.Lib.ItoaNum
import Derived.Lib.AtoiAll
import Derived.Lib.Repeat
import Derived.Lib.SlTrimSet
import Derived.Lib.Strings
set_option linter.all false
namespace Go.Proofs.YtechphmljdgoaaaGreatDoor
open Go Go.Abs Go.PE
open Go.IntKind (wrap)
theorem remM_any {a b:Int} (h:b≠0):remM a b=some (a.tmod b):=by
 unfold remM
 rw [decide_eq_false h]
theorem gcd_loop:∀ (n:Nat) {a b:Int},b.natAbs≤n→∃ g:Int,loopM (fun (s:Int×Int)=>bif PE.notM (eqM s.2 0) then (remM s.1 s.2).bind fun r=>some (Sum.inl (s.2,r)) else some (Sum.inr s.1)) (a,b)=some g∧g.natAbs=Int.gcd a b
 | n,a,b,h=>by
  by_cases hb:b=0
  ·refine ⟨a,?_,by rw [hb,Int.gcd_zero_right]⟩
   rw [loopM_eq]
   dsimp only
   rw [eqI hb,notT,cond_false];rfl
  ·match n,h with
   | 0,h=>omega
   | n+1,h =>
    have hlt:(a.tmod b).natAbs<b.natAbs:=by rw [Int.natAbs_tmod];exact Nat.mod_lt _ (by omega)
    obtain ⟨g,e1,e2⟩:=gcd_loop n (a:=b) (b:=a.tmod b) (by omega)
    refine ⟨g,?_,?_⟩
    ·rw [loopM_eq]
     dsimp only
     rw [neI hb,notF,cond_true,remM_any hb]
     exact e1
    ·rw [e2]
     show Nat.gcd b.natAbs (a.tmod b).natAbs=Nat.gcd a.natAbs b.natAbs
     rw [Int.natAbs_tmod,Nat.gcd_comm b.natAbs,← Nat.gcd_rec,Nat.gcd_comm]
theorem gcd_ok {a b:Int} (ha:a.natAbs≤1000000000) (hb:b.natAbs≤1000000000):m93 (a,b)=some (Int.gcd a b:Int):=by
 obtain ⟨g,e1,e2⟩:=gcd_loop b.natAbs (a:=a) (b:=b) (Nat.le_refl _)
 have hg:Int.gcd a b≤1000000000:=by
  by_cases h:a=0∧b=0
  ·rw [h.1,h.2];decide
  ·by_cases h0:a=0
   ·rw [h0,Int.gcd_zero_left];exact hb
   ·exact Nat.le_trans (Int.gcd_le_natAbs_left b h0) ha
 unfold m93
 dsimp only
 refine bind_of e1 ?_
 rw [show negM g=-g from rfl,wrap_in (by omega) (by omega)]
 congr 1
 omega
theorem div_exact {x k:Int} (hk:k≠0) (h:k ∣ x) (hx:x.natAbs≤1000000000):divM .i64 x k=some (x / k):=by
 have h2:=Int.natAbs_ediv_le_natAbs x k
 rw [divM_pos hk,Int.tdiv_eq_ediv_of_dvd h,wrap_in (by omega) (by omega)]
theorem reduced_ok {s:Spt} (h:s.2.2≠0) (h1:s.1.natAbs≤1000000000) (h2:s.2.1.natAbs≤1000000000) (h3:s.2.2.natAbs≤1000000000):m72 s=some (redS s):=by
 have hg:Int.gcd (Int.gcd s.1 s.2.1) s.2.2≠0:=fun e=>h (Int.gcd_eq_zero_iff.1 e).2
 have g1:Int.gcd s.1 s.2.1≤1000000000:=by
  by_cases h0:s.1=0
  ·rw [h0,Int.gcd_zero_left];exact h2
  ·exact Nat.le_trans (Int.gcd_le_natAbs_left _ h0) h1
 have g2:Int.gcd (Int.gcd s.1 s.2.1) s.2.2≤1000000000:=Nat.le_trans (Int.gcd_le_natAbs_right _ h) h3
 obtain ⟨k,hk⟩:∃ k:Int,k=if s.2.2<0 then -(Int.gcd (Int.gcd s.1 s.2.1) s.2.2:Int) else Int.gcd (Int.gcd s.1 s.2.1) s.2.2:=⟨_,rfl⟩
 have hka:k.natAbs=Int.gcd (Int.gcd s.1 s.2.1) s.2.2:=by rw [hk];split<;>omega
 have hk0:k≠0:=by omega
 have d3:k ∣ s.2.2:=by rw [← Int.natAbs_dvd,hka];exact Int.gcd_dvd_right _ _
 have d12:k ∣ (Int.gcd s.1 s.2.1:Int):=by rw [← Int.natAbs_dvd,hka];exact Int.gcd_dvd_left _ _
 have d1:k ∣ s.1:=Int.dvd_trans d12 (Int.gcd_dvd_left _ _)
 have d2:k ∣ s.2.1:=Int.dvd_trans d12 (Int.gcd_dvd_right _ _)
 have er:redS s=(s.1 / k,s.2.1 / k,s.2.2 / k):=by unfold redS;dsimp only;rw [← hk]
 unfold m72
 rw [gcd_ok h1 h2,Option.bind_some,gcd_ok (by omega) h3,Option.bind_some]
 refine bind_of (x:=k) ?_ ?_
 ·by_cases hn:s.2.2<0
  ·rw [ltI hn,cond_true,hk,if_pos hn,show ∀ z:Int,negM z=-z from fun _=>rfl,wrap_in (by omega) (by omega)]
  ·rw [geI (by omega),cond_false,hk,if_neg hn]
 ·rw [div_exact hk0 d1 h1,Option.bind_some,div_exact hk0 d2 h2,Option.bind_some,div_exact hk0 d3 h3,Option.bind_some,er]
def lineF (ax ay bx by_:Int):Spt:=(-(by_-ay),bx-ax,(by_-ay)*ax-(bx-ax)*ay)
structure Nod (ax ay bx by_:Int):Prop where
 a0:0≤ax
 a1:ax≤6
 b0:0≤ay
 b1:ay≤6
 d0:-1≤bx-ax
 d1:bx-ax≤1
 e0:-1≤by_-ay
 e1:by_-ay≤1
def Bx (s:Spt):Prop:=0≤s.1∧s.1≤72∧0≤s.2.1∧s.2.1≤72∧0<s.2.2∧s.2.2≤12
theorem unit_mul {u z B:Int} (h0:-1≤u) (h1:u≤1) (hz:-B≤z∧z≤B):-B≤u*z∧u*z≤B:=by
 rcases (show u=-1∨u=0∨u=1 by omega) with rfl | rfl | rfl
 ·rw [Int.neg_mul,Int.one_mul];omega
 ·rw [Int.zero_mul];omega
 ·rw [Int.one_mul];omega
theorem lev_lnF (ax ay bx by_:Int) (s:Spt):lev (lineF ax ay bx by_) s=(bx-ax)*(s.2.1-ay*s.2.2)-(by_-ay)*(s.1-ax*s.2.2):=by
 unfold lev lineF;grind
theorem left_bds {ax ay bx by_:Int} {s:Spt} (h:Nod ax ay bx by_) (hs:Bx s):(0≤ay*s.2.2∧ay*s.2.2≤72)∧(0≤ax*s.2.2∧ax*s.2.2≤72)∧(-72≤(bx-ax)*(s.2.1-ay*s.2.2)∧(bx-ax)*(s.2.1-ay*s.2.2)≤72)∧(-72≤(by_-ay)*(s.1-ax*s.2.2)∧(by_-ay)*(s.1-ax*s.2.2)≤72):=by
 obtain ⟨x0,x1,y0,y1,d0,d1⟩:=hs
 obtain ⟨a0,a1,b0,b1,c0,c1,e0,e1⟩:=h
 have p1:=prod_bd (a:=ay) (b:=s.2.2) (A:=6) (B:=12) b0 b1 (by omega) d1
 have p2:=prod_bd (a:=ax) (b:=s.2.2) (A:=6) (B:=12) a0 a1 (by omega) d1
 exact ⟨by omega,by omega,unit_mul c0 c1 (by omega),unit_mul e0 e1 (by omega)⟩
theorem lev_bd {ax ay bx by_:Int} {s:Spt} (h:Nod ax ay bx by_) (hs:Bx s):-144≤lev (lineF ax ay bx by_) s∧lev (lineF ax ay bx by_) s≤144:=by
 obtain ⟨_,_,c,d⟩:=left_bds h hs
 rw [lev_lnF];omega
theorem left_ok {ax ay bx by_:Int} {s:Spt} (h:Nod ax ay bx by_) (hs:Bx s):m48 ((ax,ay),(bx,by_),s.1,s.2.1,s.2.2)=some (lev (lineF ax ay bx by_) s):=by
 obtain ⟨p1,p2,p3,p4⟩:=left_bds h hs
 obtain ⟨x0,x1,y0,y1,d0,d1⟩:=hs
 obtain ⟨a0,a1,b0,b1,c0,c1,e0,e1⟩:=h
 unfold m48
 dsimp only
 rw [wrap_in (n:=bx-ax) (by omega) (by omega),wrap_in (n:=ay*s.2.2) (by omega) (by omega),wrap_in (n:=s.2.1-_) (by omega) (by omega),wrap_in (n:=(bx-ax)*_) (by omega) (by omega),wrap_in (n:=by_-ay) (by omega) (by omega),wrap_in (n:=ax*s.2.2) (by omega) (by omega),wrap_in (n:=s.1-_) (by omega) (by omega),wrap_in (n:=(by_-ay)*_) (by omega) (by omega),wrap_in (by omega) (by omega),lev_lnF]
noncomputable def adE (o:List Spt) (r:Spt):Option (List Spt):=(bif PE.notM (eqM (lenM o) 0) then chkM (wrap .i64 (lenM o-1)) (lenM o) else some ()).bind fun r_10=>(bif PE.notM (eqM (lenM o) 0) then idxM o (wrap .i64 (lenM o-1)) else some (0,0,0)).bind fun r_11 =>
 bif PE.orM (eqM (lenM o) 0) (PE.notM (PE.andM (eqM r_11.1 r.1) (PE.andM (eqM r_11.2.1 r.2.1) (eqM r_11.2.2 r.2.2)))) then (appM (nat_lit 24) o [(r.1,r.2.1,r.2.2)]).bind fun r=>some r else some o
noncomputable def clipB (ax ay bx by_:Int) (l:List Spt) (s_2:Int×List Spt):Option ((Int×List Spt)⊕List Spt):=bif ltM s_2.1 (lenM l) then ((chkM s_2.1 (lenM l)).bind fun r_3=>(idxM l s_2.1).bind fun r_4=>(remM (wrap .i64 (s_2.1+1)) (lenM l)).bind fun r_5=>(chkM r_5 (lenM l)).bind fun r_6=>(idxM l r_5).bind fun r_7 =>
 (m48 ((ax,ay),(bx,by_),r_4.1,r_4.2.1,r_4.2.2)).bind fun r_8=>(m48 ((ax,ay),(bx,by_),r_7.1,r_7.2.1,r_7.2.2)).bind fun r_9=>(bif leM 0 r_8 then (adE s_2.2 r_4).bind fun (ov:List (Int×Int×Int))=>some ov else some s_2.2).bind fun o_1 =>
 bif PE.orM (PE.andM (ltM 0 r_8) (ltM r_9 0)) (PE.andM (ltM r_8 0) (ltM 0 r_9)) then (m72 (wrap .i64 (wrap .i64 (r_4.1*r_9)-wrap .i64 (r_7.1*r_8)),wrap .i64 (wrap .i64 (r_4.2.1*r_9)-wrap .i64 (r_7.2.1*r_8)),wrap .i64 (wrap .i64 (r_4.2.2*r_9)-wrap .i64 (r_7.2.2*r_8)))).bind fun r_10 =>
 (adE o_1 r_10).bind fun (ov:List (Int×Int×Int))=>some ov else some o_1).bind fun o=>some (Sum.inl (wrap .i64 (s_2.1+1),o)) else some (Sum.inr s_2.2)
noncomputable def clipE (ax ay bx by_:Int) (l:List Spt):Option (List Spt):=loopM (clipB ax ay bx by_ l) (0,[])
theorem adE_ok {o:List Spt} {r:Spt} (hl:o.length≤1000):adE o r=some (adS o r):=by
 have happ:appM (nat_lit 24) o [(r.1,r.2.1,r.2.2)]=some (o++[r]):=appM_of (by show (o.length+1)*24≤_;omega)
 unfold adE
 by_cases h0:o=[]
 ·subst h0
  rw [show eqM (lenM ([]:List Spt)) 0=true from rfl,notT,cond_false,Option.bind_some,cond_false,Option.bind_some,show PE.orM true _=true from rfl,cond_true,happ];rfl
 ·have hp:=List.length_pos_iff.2 h0
  have hz:=getD_last3 hp
  have hidx:idxM o ((o.length:Int)-1)=some (o.getD (o.length-1) z3):=by
   rw [show (o.length:Int)-1=((o.length-1:Nat):Int) by omega,idxM_nat,← List.getLast?_eq_getElem?,hz]
  rw [lenL,neI (by omega),notF,cond_true,wrap_in (n:=(o.length:Int)-1) (by omega) (by omega),chkM_of (by omega) (by omega),Option.bind_some,cond_true,hidx,Option.bind_some,orF]
  unfold adS
  rw [hz]
  generalize o.getD (o.length-1) z3=q at *
  by_cases hq:q=r
  ·subst hq
   rw [if_pos rfl,eqI rfl,eqI rfl,eqI rfl,andT,andT,notT,cond_false]
  ·rw [if_neg (fun e=>hq (Option.some.inj e))]
   have:PE.andM (eqM q.1 r.1) (PE.andM (eqM q.2.1 r.2.1) (eqM q.2.2 r.2.2))=false:=by
    unfold PE.andM eqM
    simp only [Bool.and_eq_false_iff,decide_eq_false_iff_not]
    refine Decidable.byContradiction fun hn=>hq ?_
    simp only [not_or,Decidable.not_not] at hn
    exact Prod.ext hn.1 (Prod.ext hn.2.1 hn.2.2)
   rw [this,notF,cond_true,happ];rfl
theorem bif_or (a b c d:Int):PE.orM (PE.andM (ltM 0 a) (ltM b 0)) (PE.andM (ltM a 0) (ltM 0 b))=decide ((0<a∧b<0)∨(a<0∧0<b)):=by
 by_cases h:(0<a∧b<0)∨(a<0∧0<b)
 ·rw [decide_eq_true h]
  rcases h with ⟨h1,h2⟩ | ⟨h1,h2⟩
  ·rw [ltI h1,ltI h2];rfl
  ·rw [ltI h1,ltI h2];cases PE.andM (ltM 0 a) (ltM b 0)<;>rfl
 ·rw [decide_eq_false h]
  by_cases h1:0<a
  ·rw [ltI h1,geI (a:=b) (by omega),geI (a:=a) (by omega)];rfl
  ·rw [geI (a:=0) (b:=a) (by omega)]
   by_cases h2:a<0
   ·rw [ltI h2,geI (a:=0) (by omega)];cases ltM b 0<;>rfl
   ·rw [geI (a:=a) (by omega)];cases ltM b 0<;>cases ltM 0 b<;>rfl
theorem crS_lits {h t:Int} {s n:Spt} (hs:Bx s) (hn:Bx n) (h0:-144≤h∧h≤144) (t0:-144≤t∧t≤144) :
  (-20736≤s.1*t-n.1*h∧s.1*t-n.1*h≤20736)∧(-20736≤s.2.1*t-n.2.1*h∧s.2.1*t-n.2.1*h≤20736)∧(-20736≤s.2.2*t-n.2.2*h∧s.2.2*t-n.2.2*h≤20736) ∧
  (-10368≤s.1*t∧s.1*t≤10368)∧(-10368≤n.1*h∧n.1*h≤10368)∧(-10368≤s.2.1*t∧s.2.1*t≤10368)∧(-10368≤n.2.1*h∧n.2.1*h≤10368)∧(-10368≤s.2.2*t∧s.2.2*t≤10368)∧(-10368≤n.2.2*h∧n.2.2*h≤10368):=by
 have key:∀ {x z:Int},0≤x→x≤72→-144≤z∧z≤144→-10368≤x*z∧x*z≤10368:=fun {x z} h0 h1 hz=>by
  have a:=Int.mul_le_mul_of_nonneg_left hz.2 h0
  have b:=Int.mul_le_mul_of_nonneg_left hz.1 h0
  omega
 obtain ⟨x0,x1,y0,y1,d0,d1⟩:=hs
 obtain ⟨a0,a1,b0,b1,c0,c1⟩:=hn
 have k1:=key x0 x1 t0
 have k2:=key y0 y1 t0
 have k3:=key (show 0≤s.2.2 by omega) (by omega) t0
 have k4:=key a0 a1 h0
 have k5:=key b0 b1 h0
 have k6:=key (show 0≤n.2.2 by omega) (by omega) h0
 omega
theorem clipB_ok {ax ay bx by_:Int} {l:List Spt} (hN:Nod ax ay bx by_) (hl:∀ x∈l,Bx x) (hlen:l.length≤200) {k:Nat} (hk:k<l.length):clipB ax ay bx by_ l ((k:Int),clN (lineF ax ay bx by_) l k)=some (.inl ((k:Int)+1,clN (lineF ax ay bx by_) l (k+1))):=by
 have hn:(k+1) % l.length<l.length:=Nat.mod_lt _ (by omega)
 have b1:=hl _ (getD_mem3 hk)
 have b2:=hl _ (getD_mem3 hn)
 have g1:idxM l (k:Int)=some (l.getD k z3):=by rw [idxM_lt hk];simp [List.getD,hk]
 have g2:idxM l (((k+1) % l.length:Nat):Int)=some (l.getD ((k+1) % l.length) z3):=by rw [idxM_lt hn];simp [List.getD,hn]
 have hlen2:=clN_len (lineF ax ay bx by_) l k
 unfold clipB
 dsimp only
 rw [lenL,ltI (by omega),cond_true,chkM_of (by omega) (by omega),Option.bind_some,g1,Option.bind_some,wrap_in (n:=(k:Int)+1) (by omega) (by omega),remM_of (by omega) (by omega),Option.bind_some,show ((k:Int)+1) % (l.length:Int)=(((k+1) % l.length:Nat):Int) by rw [Int.natCast_emod];rfl,chkM_of (by omega) (by omega),Option.bind_some,g2,Option.bind_some]
 show _=some (Sum.inl ((k:Int)+1,clS (lineF ax ay bx by_) (clN (lineF ax ay bx by_) l k) (l.getD k z3) (l.getD ((k+1) % l.length) z3)))
 generalize clN (lineF ax ay bx by_) l k=o at *
 generalize l.getD k z3=s at *
 generalize l.getD ((k+1) % l.length) z3=n at *
 have e1:=lev_bd hN b1
 have e2:=lev_bd hN b2
 rw [left_ok hN b1,Option.bind_some,left_ok hN b2,Option.bind_some,bif_or _ _ 0 0]
 obtain ⟨m1,m2,m3,m4,m5,m6,m7,m8,m9⟩:=crS_lits b1 b2 e1 e2
 have hdn:=fun hx=>crS_mix (h:=lev (lineF ax ay bx by_) s) (t:=lev (lineF ax ay bx by_) n) b1.2.2.2.2.1 b2.2.2.2.2.1 hx
 unfold clS
 dsimp only
 generalize lev (lineF ax ay bx by_) s=u at *
 generalize lev (lineF ax ay bx by_) n=v at *
 refine bind_of (x:=if (0<u∧v<0)∨(u<0∧0<v) then adS (if 0≤u then adS o s else o) (crS u v s n) else (if 0≤u then adS o s else o)) ?_ rfl
 have hlen3:(if 0≤u then adS o s else o).length≤401:=by
  split
  ·exact Nat.le_trans (adS_len _ _) (by omega)
  ·omega
 refine bind_of (x:=if 0≤u then adS o s else o) ?_ ?_
 ·by_cases hu:0≤u
  ·rw [leI hu,cond_true,adE_ok (by omega),if_pos hu];rfl
  ·rw [gtI (by omega),cond_false,if_neg hu]
 ·by_cases hx:(0<u∧v<0)∨(u<0∧0<v)
  ·have hd0:s.2.2*v-n.2.2*u≠0:=by
    rcases hx with ⟨h1,h2⟩ | ⟨h1,h2⟩
    ·have:=Int.mul_neg_of_pos_of_neg b1.2.2.2.2.1 h2
     have:=Int.mul_pos b2.2.2.2.2.1 h1
     omega
    ·have:=Int.mul_pos b1.2.2.2.2.1 h2
     have:=Int.mul_neg_of_pos_of_neg b2.2.2.2.2.1 h1
     omega
   rw [decide_eq_true hx,cond_true,if_pos hx,wrap_in (n:=s.1*v) (by omega) (by omega),wrap_in (n:=n.1*u) (by omega) (by omega),wrap_in (n:=s.2.1*v) (by omega) (by omega),wrap_in (n:=n.2.1*u) (by omega) (by omega),wrap_in (n:=s.2.2*v) (by omega) (by omega),wrap_in (n:=n.2.2*u) (by omega) (by omega),wrap_in (n:=s.1*v-n.1*u) (by omega) (by omega),wrap_in (n:=s.2.1*v-n.2.1*u) (by omega) (by omega),wrap_in (n:=s.2.2*v-n.2.2*u) (by omega) (by omega),
    reduced_ok (s:=(s.1*v-n.1*u,s.2.1*v-n.2.1*u,s.2.2*v-n.2.2*u)) hd0 (by dsimp only;omega) (by dsimp only;omega) (by dsimp only;omega),Option.bind_some,adE_ok (by omega)]
   rfl
  ·rw [decide_eq_false hx,cond_false,if_neg hx]
theorem clipE_ok {ax ay bx by_:Int} {l:List Spt} (hN:Nod ax ay bx by_) (hl:∀ x∈l,Bx x) (hlen:l.length≤200):clipE ax ay bx by_ l=some (clR (lineF ax ay bx by_) l):=by
 refine count_loop (fun k=>clN (lineF ax ay bx by_) l k) l.length (fun k hk=>clipB_ok hN hl hlen hk) ?_
 unfold clipB
 dsimp only
 rw [lenL,geI (by omega),cond_false];rfl
end Go.Proofs.YtechphmljdgoaaaGreatDoor
namespace Go.Num
open Go.Lib
def vl:List Int→Int
 | []=>0
 | d::l=>d+10000*vl l
def okd (l:List Int):Prop:=∀ d∈l,0≤d∧d≤9999
def grp (n:Nat):List Int:=if h:n=0 then [] else ((n % 10000:Nat):Int)::grp (n / 10000)
termination_by n
decreasing_by omega
theorem grp_zero:grp 0=[]:=by rw [grp];simp
theorem grp_pos {n:Nat} (h:n≠0):grp n=((n % 10000:Nat):Int)::grp (n / 10000):=by rw [grp];simp [h]
theorem okd_nil:okd []:=fun _ h=>absurd h (by simp)
theorem okd_cons {d:Int} {l:List Int}:okd (d::l)↔(0≤d∧d≤9999)∧okd l:=by unfold okd;simp
theorem okd_app {l m:List Int}:okd (l++m)↔okd l∧okd m:=by
 unfold okd;constructor
 ·exact fun h=>⟨fun d hd=>h d (by simp [hd]),fun d hd=>h d (by simp [hd])⟩
 ·rintro ⟨h1,h2⟩ d hd;rcases List.mem_append.1 hd with h | h
  ·exact h1 d h
  ·exact h2 d h
theorem vl_nn:∀ {l:List Int},okd l→0≤vl l
 | [],_=>by simp [vl]
 | d::l,h=>by have:=vl_nn (okd_cons.1 h).2;have:=(okd_cons.1 h).1;simp only [vl];omega
theorem grp_okd (n:Nat):okd (grp n):=by
 induction n using Nat.strongRecOn with
 | _ n ih =>
  by_cases h:n=0
  ·subst h;rw [grp_zero];exact okd_nil
  ·rw [grp_pos h,okd_cons];exact ⟨by omega,ih _ (by omega)⟩
theorem vl_grp (n:Nat):vl (grp n)=n:=by
 induction n using Nat.strongRecOn with
 | _ n ih =>
  by_cases h:n=0
  ·subst h;rw [grp_zero];rfl
  ·rw [grp_pos h,vl,ih _ (by omega)];omega
theorem vl_app:∀ (l m:List Int),vl (l++m)=vl l+10000 ^ l.length*vl m
 | [],m=>by simp [vl]
 | d::l,m=>by
  simp only [List.cons_append,vl,vl_app l m,List.length_cons,Int.pow_succ]
  rw [Int.mul_add,← Int.add_assoc,← Int.mul_assoc,Int.mul_comm 10000 (10000 ^ l.length)]
theorem grp_of:∀ {l:List Int},okd l→(∀ h:l≠[],l.getLast h≠0)→grp (vl l).toNat=l
 | [],_,_=>by simp [vl,grp_zero]
 | d::l,h,hl=>by
  obtain ⟨h1,h2⟩:=okd_cons.1 h
  have hn:=vl_nn h2
  have hl':∀ h:l≠[],l.getLast h≠0:=fun h=>by have:=hl (by simp);rwa [List.getLast_cons h] at this
  have hz:(vl (d::l)).toNat≠0:=by
   intro h0
   have h3:vl l=0∧d=0:=by simp only [vl] at h0;omega
   cases l with
   | nil=>have:=hl (by simp);simp at this;exact this h3.2
   | cons e l=>have:=grp_of h2 hl';rw [h3.1] at this;simp [grp_zero] at this
  rw [grp_pos hz]
  have e1:(((vl (d::l)).toNat % 10000:Nat):Int)=d:=by simp only [vl];omega
  have e2:(vl (d::l)).toNat / 10000=(vl l).toNat:=by simp only [vl];omega
  rw [e1,e2,grp_of h2 hl']
theorem grp_drop:∀ (i n:Nat),(grp n).drop i=grp (n / 10000 ^ i)
 | 0,n=>by simp
 | i+1,n=>by
  by_cases h:n=0
  ·subst h;simp [grp_zero]
  ·rw [grp_pos h,List.drop_succ_cons,grp_drop i,Nat.pow_succ,Nat.div_div_eq_div_mul,Nat.mul_comm]
theorem grp_nil {n:Nat}:grp n=[]↔n=0:=by
 constructor
 ·intro h;by_cases h0:n=0
  ·exact h0
  ·rw [grp_pos h0] at h;simp at h
 ·rintro rfl;exact grp_zero
theorem grp_get (n i:Nat):(grp n).getD i 0=((n / 10000 ^ i % 10000:Nat):Int):=by
 have h:(grp n).getD i 0=((grp n).drop i).getD 0 0:=by simp
 rw [h,grp_drop]
 by_cases h0:n / 10000 ^ i=0
 ·rw [h0];simp [grp_zero]
 ·rw [grp_pos h0];rfl
theorem grp_len_le {n k:Nat} (h:n<10000 ^ k):(grp n).length≤k:=by
 have h1:(grp n).drop k=[]:=by rw [grp_drop,Nat.div_eq_of_lt h,grp_zero]
 exact List.drop_eq_nil_iff.1 h1
theorem grp_lt (n:Nat):n<10000 ^ (grp n).length:=by
 have h1:(grp n).drop (grp n).length=[]:=List.drop_length
 rw [grp_drop,grp_nil] at h1
 rcases Nat.div_eq_zero_iff.1 h1 with h | h
 ·have:=Nat.pow_pos (n:=(grp n).length) (show 0<10000 by decide);omega
 ·exact h
theorem grp_len_pow {n:Nat} (h:n≠0):10000 ^ ((grp n).length-1)≤n:=by
 by_cases h2:10000 ^ ((grp n).length-1)≤n
 ·exact h2
 ·have h3:=grp_len_le (Nat.lt_of_not_le h2)
  have:(grp n).length≠0:=fun e=>h (grp_nil.1 (List.length_eq_zero_iff.1 e))
  omega

def dgt (c:UInt8):Nat:=c.toNat-48
def isD (c:UInt8):Prop:=48≤c.toNat∧c.toNat≤57
def dv (l:List UInt8):Nat:=l.foldl (fun a c=>a*10+dgt c) 0
theorem dig_toNat {u:Nat} (h:u<10):(UInt8.ofNat (48+u)).toNat=48+u:=by
 rw [UInt8.toNat_ofNat'];omega
theorem isD_dig {u:Nat} (h:u<10):isD (UInt8.ofNat (48+u)):=by unfold isD;rw [dig_toNat h];omega
theorem dgt_dig {u:Nat} (h:u<10):dgt (UInt8.ofNat (48+u))=u:=by unfold dgt;rw [dig_toNat h];omega
theorem dv_app1 (l:List UInt8) (c:UInt8):dv (l++[c])=dv l*10+dgt c:=by unfold dv;rw [List.foldl_append];rfl
theorem dv_from:∀ (l:List UInt8) (a:Nat),l.foldl (fun a c=>a*10+dgt c) a=a*10 ^ l.length+dv l
 | [],a=>by simp [dv]
 | c::l,a=>by
  have e:dv (c::l)=dgt c*10 ^ l.length+dv l:=by
   show l.foldl (fun a c=>a*10+dgt c) (0*10+dgt c)=_
   rw [dv_from l,Nat.zero_mul,Nat.zero_add]
  rw [List.foldl_cons,dv_from l,e,List.length_cons,Nat.pow_succ,Nat.add_mul,Nat.mul_assoc,Nat.mul_comm 10,Nat.add_assoc]
theorem dv_app (l m:List UInt8):dv (l++m)=dv l*10 ^ m.length+dv m:=by unfold dv;rw [List.foldl_append,dv_from];rfl
theorem dec_step {n:Nat} (h:10≤n):decDigits n=decDigits (n / 10)++[UInt8.ofNat (48+n % 10)]:=by rw [decDigits,dif_neg (by omega)]
theorem dv_dec (n:Nat):dv (decDigits n)=n:=by
 induction n using Nat.strongRecOn with
 | _ n ih =>
  by_cases h:n<10
  ·rw [decDigits_one h];simp only [dv,List.foldl_cons,List.foldl_nil,dgt_dig h];omega
  ·rw [dec_step (by omega),dv_app1,ih _ (by omega),dgt_dig (by omega)];omega
theorem dec_isD (n:Nat):∀ c∈decDigits n,isD c:=by
 induction n using Nat.strongRecOn with
 | _ n ih =>
  by_cases h:n<10
  ·rw [decDigits_one h];intro c hc;rw [List.mem_singleton.1 hc];exact isD_dig h
  ·rw [dec_step (by omega)];intro c hc
   rcases List.mem_append.1 hc with h1 | h1
   ·exact ih _ (by omega) c h1
   ·rw [List.mem_singleton.1 h1];exact isD_dig (by omega)
theorem dec_ne (n:Nat):decDigits n≠[]:=by
 intro h;have:=decDigits_length n;rw [h] at this;have:=nDigits_pos n;simp at *;omega
theorem nDig_le:∀ (k n:Nat),n<10 ^ (k+1)→nDigits n≤k+1
 | 0,n,h=>by rw [nDigits_small (by simpa using h)];omega
 | k+1,n,h=>by
  by_cases h1:n<10
  ·rw [nDigits_small h1];omega
  ·rw [nDigits_big h1];have:=nDig_le k (n / 10) (by rw [Nat.pow_succ] at h;omega);omega
theorem dec_len_le {k n:Nat} (h:n<10 ^ (k+1)):(decDigits n).length≤k+1:=by rw [decDigits_length];exact nDig_le k n h
theorem dec_len_lt (n:Nat):n<10 ^ (decDigits n).length:=by rw [decDigits_length];exact lt_pow_nDigits n
theorem dec_head {n:Nat} (h:n≠0):∃ c l,decDigits n=c::l∧c≠48:=by
 induction n using Nat.strongRecOn with
 | _ n ih =>
  by_cases h1:n<10
  ·refine ⟨_,[],decDigits_one h1,fun e=>?_⟩
   have:=congrArg UInt8.toNat e;rw [dig_toNat h1] at this;simp at this;omega
  ·obtain ⟨c,l,e,hc⟩:=ih (n / 10) (by omega) (by omega)
   exact ⟨c,l++[UInt8.ofNat (48+n % 10)],by rw [dec_step (by omega),e];rfl,hc⟩
theorem dec_zero:decDigits 0=[48]:=by rw [decDigits_one (by omega)];rfl
def pad (m:Nat):List UInt8:=[UInt8.ofNat (48+m / 1000 % 10),UInt8.ofNat (48+m / 100 % 10),UInt8.ofNat (48+m / 10 % 10),UInt8.ofNat (48+m % 10)]
theorem dec_pad {n:Nat} (h:10000≤n):decDigits n=decDigits (n / 10000)++pad (n % 10000):=by
 rw [dec_step (by omega),dec_step (by omega),dec_step (by omega),dec_step (by omega)]
 simp only [List.append_assoc,List.cons_append,List.nil_append,pad]
 rw [show n / 10 / 10 / 10 / 10=n / 10000 by omega,show n / 10 / 10 / 10 % 10=n % 10000 / 1000 % 10 by omega,show n / 10 / 10 % 10=n % 10000 / 100 % 10 by omega,show n / 10 % 10=n % 10000 / 10 % 10 by omega,show n % 10000 % 10=n % 10 by omega]
theorem pad_dec {m:Nat} (h:m<10000):repeatL [48] (4-(decDigits m).length)++decDigits m=pad m:=by
 by_cases h1:m<10
 ·rw [decDigits_one h1];unfold pad
  rw [show m / 1000 % 10=0 by omega,show m / 100 % 10=0 by omega,show m / 10 % 10=0 by omega,show m % 10=m by omega];rfl
 ·by_cases h2:m<100
  ·rw [dec_step (by omega),decDigits_one (by omega)];unfold pad
   rw [show m / 1000 % 10=0 by omega,show m / 100 % 10=0 by omega,show m / 10 % 10=m / 10 by omega];rfl
  ·by_cases h3:m<1000
   ·rw [dec_step (by omega),dec_step (by omega),decDigits_one (by omega)];unfold pad
    rw [show m / 1000 % 10=0 by omega,show m / 100 % 10=m / 10 / 10 by omega];rfl
   ·rw [dec_step (by omega),dec_step (by omega),dec_step (by omega),decDigits_one (by omega)];unfold pad
    rw [show m / 1000 % 10=m / 10 / 10 / 10 by omega,show m / 100 % 10=m / 10 / 10 % 10 by omega];rfl
theorem dec_len4 {m:Nat} (h:m<10000):(decDigits m).length≤4:=dec_len_le (k:=3) (by omega)

theorem pu_dv:∀ (l:List UInt8) (a:Nat),(∀ c∈l,isD c)→a*10 ^ l.length+dv l<1844674407370955162→parseUint10 a l=.ok (a*10 ^ l.length+dv l)
 | [],a,_,_=>by simp [parseUint10,dv]
 | c::l,a,h,hb=>by
  have hc:isD c:=h c (by simp)
  have e:a*10 ^ (c::l).length+dv (c::l)=(a*10+(c.toNat-48))*10 ^ l.length+dv l:=by
   rw [show dv (c::l)=dgt c*10 ^ l.length+dv l from by have:=dv_app [c] l;simp only [List.singleton_append] at this;rw [this];simp [dv]]
   rw [List.length_cons,Nat.pow_succ,Nat.add_mul,← Nat.add_assoc,Nat.mul_assoc,Nat.mul_comm 10 (10 ^ l.length)];rfl
  have hp:1≤10 ^ l.length:=Nat.one_le_pow _ _ (by decide)
  rw [e] at hb ⊢
  have hs:a*10+(c.toNat-48)≤(a*10+(c.toNat-48))*10 ^ l.length:=Nat.le_mul_of_pos_right _ hp
  unfold parseUint10
  unfold isD at hc
  rw [if_pos hc,if_neg (by omega),if_neg (by omega)]
  exact pu_dv l _ (fun c hc=>h c (by simp [hc])) hb
theorem atoi_dv {l:List UInt8} (h0:l≠[]) (h:∀ c∈l,isD c) (hb:dv l<1844674407370955162):atoiAll l=.ok (dv l:Int):=by
 cases l with
 | nil=>exact absurd rfl h0
 | cons c l =>
  have hc:isD c:=h c (by simp)
  unfold isD at hc
  have e:parseMag (c::l)=.ok (dv (c::l)):=by
   unfold parseMag;rw [if_neg (by simp),pu_dv _ 0 h (by simpa using hb)];simp
  unfold atoiAll
  simp only
  rw [if_neg (by omega),e]
  simp only
  rw [if_neg (by omega),if_neg (by omega),if_neg (by omega)]
theorem dropW {α:Type} {p:α→Bool}:∀ {l:List α},(∀ c∈l,p c=true)→l.dropWhile p=[]
 | [],_=>rfl
 | c::l,h=>by rw [List.dropWhile_cons,if_pos (h c (by simp))];exact dropW fun c hc=>h c (by simp [hc])
theorem trim_dig {l cs:List UInt8} (h:∀ c∈l,cs.contains c=true):trimS l cs=[]:=by
 have e:trimRightS l cs=[]:=by
  unfold trimRightS
  rw [dropW fun c hc=>h c (List.mem_reverse.1 hc)];rfl
 unfold trimS;rw [e];rfl
def cyph:List UInt8:=[48,49,50,51,52,53,54,55,56,57]
theorem cyph_in {c:UInt8} (h:isD c):cyph.contains c=true:=by
 have h1:c=UInt8.ofNat c.toNat:=(UInt8.ofNat_toNat (x:=c)).symm
 unfold isD at h
 rw [h1]
 generalize c.toNat=k at h
 obtain ⟨h1,h2⟩:=h
 have:k=48∨k=49∨k=50∨k=51∨k=52∨k=53∨k=54∨k=55∨k=56∨k=57:=by omega
 rcases this with rfl | rfl | rfl | rfl | rfl | rfl | rfl | rfl | rfl | rfl<;>decide
theorem itoa_nn {n:Nat}:itoa (n:Int)=decDigits n:=by unfold itoa;rw [if_neg (by omega)];simp
theorem itoa_ng {n:Nat} (h:n≠0):itoa (-(n:Int))=45::decDigits n:=by unfold itoa;rw [if_pos (by omega)];simp
theorem pref_dec (n:Nat):trimPrefix (decDigits n) [45]=decDigits n:=by
 unfold trimPrefix hasPrefix
 have h:=dec_isD n
 cases e:decDigits n with
 | nil=>rfl
 | cons c l =>
  have hc:isD c:=h c (by rw [e];simp)
  have:(45==c)=false:=by
   rw [beq_eq_false_iff_ne];rintro rfl;revert hc;unfold isD;decide
  simp [List.isPrefixOf,this]
theorem pref_neg (l:List UInt8):trimPrefix (45::l) [45]=l:=by
 unfold trimPrefix hasPrefix;simp [List.isPrefixOf]
theorem pref_itoa (z:Int):trimPrefix (itoa z) [45]=decDigits z.natAbs:=by
 by_cases h:z<0
 ·obtain ⟨n,rfl⟩:∃ n:Nat,z=-(n:Int):=⟨z.natAbs,by omega⟩
  rw [itoa_ng (by omega),pref_neg];congr 1;omega
 ·obtain ⟨n,rfl⟩:∃ n:Nat,z=(n:Int):=⟨z.toNat,by omega⟩
  rw [itoa_nn,pref_dec];congr 1
theorem itoa_len (z:Int):(itoa z).length=(decDigits z.natAbs).length+if z<0 then 1 else 0:=by
 by_cases h:z<0
 ·obtain ⟨n,rfl⟩:∃ n:Nat,z=-(n:Int):=⟨z.natAbs,by omega⟩
  rw [itoa_ng (by omega),if_pos h,List.length_cons];congr 3;omega
 ·obtain ⟨n,rfl⟩:∃ n:Nat,z=(n:Int):=⟨z.toNat,by omega⟩
  rw [itoa_nn,if_neg h];rfl
theorem itoa_inj {x y:Int} (h:itoa x=itoa y):x=y:=by
 have e:decDigits x.natAbs=decDigits y.natAbs:=by rw [← pref_itoa,h,pref_itoa]
 have e2:x.natAbs=y.natAbs:=by rw [← dv_dec x.natAbs,e,dv_dec]
 have e3:=itoa_len x
 rw [h,itoa_len y,e] at e3
 split at e3<;>split at e3<;>omega
end Go.Num
namespace Go.Num
open Go Go.Lib Go.PE
def seqL:Nat→(Nat→Int)→List Int
 | 0,_=>[]
 | n+1,g=>g 0::seqL n fun i=>g (i+1)
theorem seqL_len:∀ n g,(seqL n g).length=n
 | 0,_=>rfl
 | n+1,g=>by show (seqL n _).length+1=n+1;rw [seqL_len]
theorem seqL_get:∀ (n:Nat) (g:Nat→Int) (i:Nat),i<n→(seqL n g).getD i 0=g i
 | n+1,g,0,_=>rfl
 | n+1,g,i+1,h=>by
  show (seqL n fun i=>g (i+1)).getD i 0=_
  exact seqL_get n _ i (by omega)
theorem vl_add:∀ (n:Nat) (f g:Nat→Int),vl (seqL n fun i=>f i+g i)=vl (seqL n f)+vl (seqL n g)
 | 0,_,_=>rfl
 | n+1,f,g=>by
  show f 0+g 0+10000*vl (seqL n fun i=>f (i+1)+g (i+1))=f 0+10000*vl (seqL n fun i=>f (i+1))+(g 0+10000*vl (seqL n fun i=>g (i+1)))
  rw [vl_add n (fun i=>f (i+1)) fun i=>g (i+1)];omega
theorem vl_sub:∀ (n:Nat) (f g:Nat→Int),vl (seqL n fun i=>f i-g i)=vl (seqL n f)-vl (seqL n g)
 | 0,_,_=>rfl
 | n+1,f,g=>by
  show f 0-g 0+10000*vl (seqL n fun i=>f (i+1)-g (i+1))=f 0+10000*vl (seqL n fun i=>f (i+1))-(g 0+10000*vl (seqL n fun i=>g (i+1)))
  rw [vl_sub n (fun i=>f (i+1)) fun i=>g (i+1)];omega
theorem vl_mul (c:Int):∀ (n:Nat) (f:Nat→Int),vl (seqL n fun i=>f i*c)=vl (seqL n f)*c
 | 0,_=>by show (0:Int)=0*c;rw [Int.zero_mul]
 | n+1,f=>by
  show f 0*c+10000*vl (seqL n fun i=>f (i+1)*c)=(f 0+10000*vl (seqL n fun i=>f (i+1)))*c
  rw [vl_mul c n fun i=>f (i+1),Int.add_mul,Int.mul_assoc]
theorem vl_zero:∀ n,vl (seqL n fun _=>0)=0
 | 0=>rfl
 | n+1=>by show 0+10000*vl (seqL n fun _=>0)=0;rw [vl_zero n];rfl
theorem vl_of:∀ (n:Nat) (l:List Int),l.length≤n→vl (seqL n fun i=>l.getD i 0)=vl l
 | 0,[],_=>rfl
 | n+1,[],_=>by
  have:(fun i=>([]:List Int).getD i 0)=fun _=>0:=by funext i;simp
  rw [this,vl_zero];rfl
 | n+1,d::l,h=>by
  show d+10000*vl (seqL n fun i=>l.getD i 0)=d+10000*vl l
  rw [vl_of n l (by simpa using h)]
theorem getD_in {α:Type} (l:List α) (d:α) {i:Nat} (h:i<l.length):l.getD i d=l[i]:=by rw [List.getD_eq_getElem?_getD,List.getElem?_eq_getElem h];rfl
theorem getD_out {α:Type} (l:List α) (d:α) {i:Nat} (h:l.length≤i):l.getD i d=d:=by rw [List.getD_eq_getElem?_getD,List.getElem?_eq_none h];rfl
theorem vl_drop (l:List Int) (i:Nat):vl (l.drop i)=l.getD i 0+10000*vl (l.drop (i+1)):=by
 by_cases h:i<l.length
 ·rw [List.drop_eq_getElem_cons h,vl,getD_in _ _ h]
 ·rw [List.drop_eq_nil_of_le (by omega),List.drop_eq_nil_of_le (by omega),getD_out _ _ (by omega)];rfl
theorem pow_pos10 (k:Nat):(0:Int)<10000 ^ k:=Int.pow_pos (by omega)
theorem vl_lt:∀ {l:List Int},okd l→vl l<10000 ^ l.length
 | [],_=>by show (0:Int)<1;omega
 | d::l,h=>by
  have:=vl_lt (okd_cons.1 h).2
  have:=(okd_cons.1 h).1
  rw [List.length_cons,Int.pow_succ]
  simp only [vl]
  omega
theorem vl_snoc (l:List Int) (d:Int):vl (l++[d])=vl l+10000 ^ l.length*d:=by
 rw [vl_app];simp [vl]
theorem okd_get {l:List Int} (h:okd l) (i:Nat):0≤l.getD i 0∧l.getD i 0≤9999:=by
 by_cases hi:i<l.length
 ·rw [getD_in _ _ hi];exact h _ (List.getElem_mem hi)
 ·rw [getD_out _ _ (by omega)];omega
theorem carry_loop {body:Int×Int×List Int→Option ((Int×Int×List Int)⊕List Int)} {dl:List Int} (hd:∀ i,-9999≤dl.getD i 0∧dl.getD i 0≤99980001) (h0:0≤vl dl)
  (hb:∀ (i:Nat) (c:Int) (out:List Int),out.length=i→i≤dl.length→-1≤c→c≤9999→(i<dl.length∨c≠0)→body (c,(i:Int),out)=some (.inl ((dl.getD i 0+c) / 10000,(i:Int)+1,out++[(dl.getD i 0+c) % 10000])))
  (he:∀ (i:Nat) (out:List Int),dl.length≤i→body (0,(i:Int),out)=some (.inr out)):Ans (loopM body (0,0,[])) fun out=>okd out∧vl out=vl dl∧out.length≤dl.length+1:=by
 refine Ans.loop (fun k s=>s.2.1=(k:Int)∧s.2.2.length=k∧okd s.2.2∧(-1≤s.1∧s.1≤9999)∧(dl.length<k→s.1=0)∧vl s.2.2+10000 ^ k*(s.1+vl (dl.drop k))=vl dl) (dl.length+1)
  ⟨rfl,rfl,okd_nil,⟨by decide,by decide⟩,fun _=>rfl,by simp [vl]⟩ ?_
 rintro k ⟨c,i,out⟩ hk ⟨h1,h2,h3,h4,h5,h6⟩
 dsimp only at h1 h2 h3 h4 h5 h6
 subst h1
 have hout:=vl_lt h3
 rw [h2] at hout
 have hpk:=pow_pos10 k
 by_cases hend:dl.length≤k∧c=0
 ·obtain ⟨e1,e2⟩:=hend
  subst e2
  refine .of (he k out e1) ⟨h3,?_,by omega⟩
  rw [List.drop_eq_nil_of_le e1] at h6
  simp [vl] at h6
  exact h6
 ·have hkl:k≤dl.length:=by
   by_cases h:dl.length<k
   ·exact absurd ⟨by omega,h5 h⟩ hend
   ·omega
  have hD:=hd k
  refine .of (hb k c out h2 hkl h4.1 h4.2 (by omega)) ⟨by omega,rfl,by simp [h2],okd_app.2 ⟨h3,okd_cons.2 ⟨by omega,okd_nil⟩⟩,by dsimp only;omega,fun hl=>?_,?_⟩
  ·have hk2:k=dl.length:=by omega
   have e0:dl.getD k 0=0:=getD_out _ _ (by omega)
   dsimp only
   rw [e0,Int.zero_add]
   by_cases hc:0≤c
   ·omega
   ·exfalso
    rw [List.drop_eq_nil_of_le (by omega)] at h6
    have hc1:c=-1:=by omega
    rw [hc1] at h6
    simp only [vl] at h6
    omega
  ·dsimp only
   rw [vl_snoc,h2,← h6,vl_drop dl k,Int.pow_succ,Int.mul_assoc,Int.add_assoc,← Int.mul_add]
   congr 2
   have:=Int.emod_add_mul_ediv (dl.getD k 0+c) 10000
   omega
theorem step_digit {v:Int} (h:-10000≤v) (h2:v≤100000000):(bif ltM v 0 then some ((-1:Int),IntKind.wrap .i64 (v+10000)) else bif leM 10000 v then (divM .i64 v 10000).bind fun r_3=>(remM v 10000).bind fun r=>some (r_3,r) else some (0,v))=some (v / 10000,v % 10000):=by
 by_cases h1:v<0
 ·rw [ltI h1,cond_true,wrap_in (by omega) (by omega),show v / 10000=-1 by omega,show v % 10000=v+10000 by omega]
 ·rw [geI (by omega),cond_false]
  by_cases h3:10000≤v
  ·rw [leI h3,cond_true,divM_pos (by omega),remM_of (by omega) (by omega),Int.tdiv_eq_ediv_of_nonneg (by omega),wrap_in (by omega) (by omega)];rfl
  ·rw [gtI (by omega),cond_false,show v / 10000=0 by omega,show v % 10000=v by omega]
theorem dv_lt:∀ {l:List UInt8},(∀ c∈l,isD c)→dv l<10 ^ l.length
 | [],_=>by decide
 | c::l,h=>by
  have:=dv_lt fun c hc=>h c (List.mem_cons_of_mem _ hc)
  have hc:isD c:=h c (by simp)
  unfold isD at hc
  have e:dv (c::l)=dgt c*10 ^ l.length+dv l:=by have:=dv_app [c] l;simp only [List.singleton_append] at this;rw [this];simp [dv]
  have h9:dgt c*10 ^ l.length≤9*10 ^ l.length:=Nat.mul_le_mul_right _ (by unfold dgt;omega)
  rw [e,List.length_cons,Nat.pow_succ]
  omega
end Go.Num
namespace Go.Proofs.YtechphmljdgoaaaGreatDoor
open Go Go.Lib Go.Abs Go.PE Go.Num
theorem itoa_zero:itoa 0=[48]:=by rw [show (0:Int)=((0:Nat):Int) from rfl,itoa_nn,dec_zero]
theorem itoa_eq0 {z:Int}:itoa z=[48]↔z=0:=⟨fun h=>itoa_inj (h.trans itoa_zero.symm),fun h=>h▸itoa_zero⟩
theorem eqsT {x y:List UInt8} (h:x=y):eqsM x y=true:=decide_eq_true h
theorem eqsF {x y:List UInt8} (h:x≠y):eqsM x y=false:=decide_eq_false h
theorem lenI {α:Type} (l:List α):lenM l=(l.length:Int):=rfl
theorem snoc_of {α:Type} {l:List α} (h:l≠[]):∃ t d,l=t++[d]:=⟨l.dropLast,l.getLast h,(List.dropLast_concat_getLast h).symm⟩
theorem strip_ok {l:List Int} (h:okd l) (hl:l.length≤100000):m113 l=some (grp (vl l).toNat):=by
 unfold m113
 refine bind_of (loopM_is (r:=grp (vl l).toNat) (fun k s=>okd s∧vl s=vl l∧s.length+k=l.length) l.length ⟨h,rfl,by omega⟩ ?_) rfl
 rintro k s hk ⟨h1,h2,h3⟩
 by_cases h0:s=[]
 ·subst h0
  right
  have e:vl l=0:=h2.symm
  rw [e,show (0:Int).toNat=0 from rfl,grp_zero];rfl
 ·obtain ⟨t,d,rfl⟩:=snoc_of h0
  have hlen:lenM (t++[d])=(t.length:Int)+1:=by rw [lenI];simp
  have hlen2:(t++[d]).length=t.length+1:=by simp
  have e:IntKind.wrap .i64 (lenM (t++[d])-1)=(t.length:Int):=by rw [hlen,wrap_in (by omega) (by omega)];omega
  have e1:idxM (t++[d]) (t.length:Int)=some d:=by rw [idxM_nat];simp
  have e2:sliceM (t++[d]) 0 (t.length:Int)=some t:=by rw [sliceM_of (by omega) (by omega) (by rw [hlen2];omega)];simp
  rw [e,ltI (show (0:Int)<lenM (t++[d]) by rw [hlen];omega),cond_true,e1,Option.bind_some,andT]
  by_cases hd:d=0
  ·left
   refine ⟨t,by omega,by rw [eqI hd,cond_true,e2];rfl,(okd_app.1 h1).1,?_,by omega⟩
   rw [← h2,vl_snoc,hd];omega
  ·right
   rw [neI hd,cond_false,← h2,grp_of h1 fun _=>by simpa using hd]
theorem ivalid_ok {z:Int} (h:z.natAbs<10 ^ 200):m110 (itoa z)=some true:=by
 unfold m110
 have e0:prefM (itoa z) [(45:UInt8)]=decDigits z.natAbs:=pref_itoa z
 have hl:(decDigits z.natAbs).length≤200:=dec_len_le (k:=199) h
 have e3:trimM (decDigits z.natAbs) [(48:UInt8),(49:UInt8),(50:UInt8),(51:UInt8),(52:UInt8),(53:UInt8),(54:UInt8),(55:UInt8),(56:UInt8),(57:UInt8)]=some []:=by
  have e:trimM (decDigits z.natAbs) cyph=some (trimS (decDigits z.natAbs) cyph):=rfl
  rw [trim_dig fun c hc=>cyph_in (dec_isD _ c hc)] at e
  exact e
 rw [e0,eqsF (dec_ne _),geI (show lenM (decDigits z.natAbs)≤200 by rw [lenI];omega),orF,notF,cond_true,e3,Option.bind_some,orF,eqsT rfl,notT,cond_false]
 by_cases hz:z=0
 ·subst hz;rw [itoa_zero];rfl
 ·obtain ⟨c,l,e,hc⟩:=dec_head (n:=z.natAbs) (by omega)
  rw [eqsF fun e=>hz (itoa_eq0.1 e),notF,cond_true,e]
  have e4:byteM (c::l) 0=some (c.toNat:Int):=rfl
  rw [e4,Option.bind_some,orF,neI fun h=>hc (UInt8.toNat_inj.1 (by rw [show (48:UInt8).toNat=48 from rfl];omega))];rfl
theorem atoi_ok {l:List UInt8} (h0:l≠[]) (h:∀ c∈l,isD c) (hl:l.length≤4):atoiM l=some (dv l:Int):=by
 have hd:=dv_lt h
 have hp:10 ^ l.length≤10 ^ 4:=Nat.pow_le_pow_right (by omega) hl
 unfold atoiM
 rw [atoi_dv h0 h (by omega),decide_eq_true (show l.length≤9223372036854775806 by omega)]
 dsimp only
 rw [decide_eq_true (show (-9223372036854775808:Int)≤dv l by omega),decide_eq_true (show (dv l:Int)≤9223372036854775807 by omega)]
theorem parse_ok {z:Int} (h:z.natAbs<10 ^ 200):m111 (itoa z)=some (decide (z<0),grp z.natAbs):=by
 unfold m111
 have e0:prefM (itoa z) [(45:UInt8)]=decDigits z.natAbs:=pref_itoa z
 have hl:(decDigits z.natAbs).length≤200:=dec_len_le (k:=199) h
 have hn:ltM (lenM (decDigits z.natAbs)) (lenM (itoa z))=decide (z<0):=by
  have:=itoa_len z
  by_cases hz:z<0
  ·rw [if_pos hz] at this;rw [decide_eq_true hz];exact ltI (by rw [lenI,lenI];omega)
  ·rw [if_neg hz] at this;rw [decide_eq_false hz];exact geI (by rw [lenI,lenI];omega)
 dsimp only
 rw [e0,hn]
 refine Ans.is (Ans.bind (P:=fun o=>o.1=decide (z<0)∧okd o.2∧vl o.2=z.natAbs∧o.2.length≤50) (Ans.loop (fun k s=>(∀ c∈s.1,isD c)∧s.1.length≤4*(50-k)∧s.2.1=decide (z<0)∧okd s.2.2∧s.2.2.length=k∧vl s.2.2+10000 ^ k*(dv s.1:Int)=z.natAbs) 50 ⟨dec_isD _,by omega,rfl,okd_nil,rfl,by rw [dv_dec];simp [vl]⟩ ?_) ?_)
 ·rintro k ⟨ds,ng,sz⟩ hk ⟨h1,h2,h3,h4,h5,h6⟩
  dsimp only at h1 h2 h3 h4 h5 h6
  dsimp only
  by_cases hd:ds=[]
  ·subst hd
   refine Ans.of (r:=.inr (ng,sz)) (by rfl) ?_
   refine show ng=decide (z<0)∧okd sz∧vl sz=z.natAbs∧sz.length≤50 from ⟨h3,h4,?_,by omega⟩
   rw [← h6];simp [dv]
  ·have hlp:0<ds.length:=List.length_pos_iff.2 hd
   have hf:max (0:Int) (IntKind.wrap .i64 (lenM ds-4))=((ds.length-4:Nat):Int):=by
    rw [wrap_in (by rw [lenI];omega) (by rw [lenI];omega),lenI];omega
   have e1:sliceM ds ((ds.length-4:Nat):Int) (lenM ds)=some (ds.drop (ds.length-4)):=by
    rw [sliceM_of (by omega) (by show ((ds.length-4:Nat):Int)≤(ds.length:Int);omega) (Int.le_refl _)]
    congr 1
    rw [List.take_of_length_le (by show ds.length≤(ds.length:Int).toNat;omega)];rfl
   have e2:sliceM ds 0 ((ds.length-4:Nat):Int)=some (ds.take (ds.length-4)):=by
    rw [sliceM_of (by omega) (by omega) (by omega)];rfl
   have hdl:(ds.drop (ds.length-4)).length=min 4 ds.length:=by rw [List.length_drop];omega
   have e3:atoiM (ds.drop (ds.length-4))=some (dv (ds.drop (ds.length-4)):Int):=atoi_ok (fun e=>by rw [e] at hdl;simp at hdl;omega) (fun c hc=>h1 c (List.mem_of_mem_drop hc)) (by omega)
   have e4:appM (nat_lit 8) sz [(dv (ds.drop (ds.length-4)):Int)]=some (sz++[(dv (ds.drop (ds.length-4)):Int)]):=appM_of (by simp;omega)
   have hlt:=dv_lt (l:=ds.drop (ds.length-4)) fun c hc=>h1 c (List.mem_of_mem_drop hc)
   have hpw:10 ^ (ds.drop (ds.length-4)).length≤10 ^ 4:=Nat.pow_le_pow_right (by omega) (by omega)
   have hv:(dv ds:Int)=dv (ds.drop (ds.length-4))+10000*dv (ds.take (ds.length-4)):=by
    have:=dv_app (ds.take (ds.length-4)) (ds.drop (ds.length-4))
    rw [List.take_append_drop] at this
    by_cases h4:4≤ds.length
    ·rw [hdl,show min 4 ds.length=4 by omega] at this;omega
    ·rw [show ds.length-4=0 by omega,List.take_zero,List.drop_zero] at this ⊢;simp [dv] at this ⊢
   refine Ans.of (r:=.inl (ds.take (ds.length-4),ng,sz++[(dv (ds.drop (ds.length-4)):Int)])) ?_ ?_
   ·rw [hf,e1,e2,Option.bind_some,e3,Option.bind_some,e4,Option.bind_some,Option.bind_some,ltI (by rw [lenI];omega),cond_true]
   ·refine show k<50∧(∀ c∈ds.take (ds.length-4),isD c)∧(ds.take (ds.length-4)).length≤4*(50-(k+1))∧ng=decide (z<0)∧okd (sz++[(dv (ds.drop (ds.length-4)):Int)])∧(sz++[(dv (ds.drop (ds.length-4)):Int)]).length=k+1∧vl (sz++[(dv (ds.drop (ds.length-4)):Int)])+10000 ^ (k+1)*(dv (ds.take (ds.length-4)):Int)=z.natAbs from ⟨by omega,fun c hc=>h1 c (List.mem_of_mem_take hc),by rw [List.length_take];omega,h3,okd_app.2 ⟨h4,okd_cons.2 ⟨by omega,okd_nil⟩⟩,by simp [h5],?_⟩
    rw [vl_snoc,h5,← h6,hv,Int.pow_succ,Int.mul_add,Int.mul_assoc];omega
 ·rintro ⟨ng,sz⟩ ⟨h1,h2,h3,h4⟩
  dsimp only at h1 h2 h3 h4
  have e:=strip_ok h2 (by omega)
  rw [h3] at e
  exact .of (r:=(ng,grp z.natAbs)) (by dsimp only;rw [e];rfl) (by rw [h1])
theorem both_ok {x y:Int} (hx:x.natAbs<10 ^ 200) (hy:y.natAbs<10 ^ 200):m82 (itoa x,itoa y)=some ((decide (x<0),grp x.natAbs),(decide (y<0),grp y.natAbs),true):=by
 unfold m82
 dsimp only
 rw [ivalid_ok hx,Option.bind_some,notT,notF,cond_true,ivalid_ok hy,Option.bind_some,notT,orF,cond_false,parse_ok hx,Option.bind_some,parse_ok hy];rfl
end Go.Proofs.YtechphmljdgoaaaGreatDoor
namespace Go.Proofs.YtechphmljdgoaaaGreatDoor
open Go Go.Lib Go.Abs Go.PE Go.Num
theorem catB_of {x y:List UInt8} (h:x.length+y.length≤140737488355328):catB x y=some (x++y):=by unfold catB;rw [Nat.ble_eq_true_of_le h]
theorem catM_of {x y:List UInt8} (h:x.length+y.length≤9223372036854775807):catM x y=some (x++y):=by unfold catM;rw [Nat.ble_eq_true_of_le h]
theorem rpt_of {n:Nat} (h:n≤1000):rptM [(48:UInt8)] (n:Int)=some (repeatL [48] n):=by
 unfold rptM
 rw [decide_eq_true (show (0:Int)≤n by omega),decide_eq_true (show ([(48:UInt8)]:List UInt8).length*(n:Int).toNat≤140737488355328 by simp;omega),decide_eq_true (show (n:Int)≤9223372036854775807 by omega)];rfl
theorem grp_idx {n i:Nat} (h:i<(grp n).length):idxM (grp n) (i:Int)=some ((n / 10000 ^ i % 10000:Nat):Int):=by
 rw [idxM_lt h,← getD_in _ 0 h,grp_get]
theorem pow10k (L:Nat):10000 ^ L=10 ^ (4*L):=by rw [Nat.pow_mul]
theorem dec_len_grp {m n:Nat} (h:n<10000 ^ (m+1)):(decDigits n).length≤4*(m+1):=by
 rw [pow10k] at h
 exact dec_len_le (k:=4*m+3) (by rw [show 4*m+3+1=4*(m+1) by omega];exact h)
theorem div_pow_succ (n j:Nat):n / 10000 ^ (j+1)=n / 10000 ^ j / 10000:=by rw [Nat.pow_succ,Nat.div_div_eq_div_mul]
theorem grp_top {n:Nat} (h:n≠0):n / 10000 ^ ((grp n).length-1)<10000:=by
 have h1:=grp_lt n
 have h2:(grp n).length≠0:=fun e=>h (grp_nil.1 (List.length_eq_zero_iff.1 e))
 rw [Nat.div_lt_iff_lt_mul (Nat.pow_pos (by omega)),Nat.mul_comm,← Nat.pow_succ,show ((grp n).length-1).succ=(grp n).length by omega]
 exact h1
theorem text_ok {ng:Bool} {n:Nat} (hn:(grp n).length≤400):m87 (ng,grp n)=some (if n<10 ^ 200 then (itoa (if ng then -(n:Int) else n),0) else ([],30)):=by
 unfold m87
 by_cases h0:n=0
 ·subst h0
  rw [grp_zero,if_pos (by decide)]
  cases ng
  ·show some (([48]:List UInt8),(0:Int))=some (itoa 0,0);rw [itoa_zero]
  ·show some (([48]:List UInt8),(0:Int))=some (itoa 0,0);rw [itoa_zero]
 ·have hL:(grp n).length≠0:=fun e=>h0 (grp_nil.1 (List.length_eq_zero_iff.1 e))
  obtain ⟨L,hLL⟩:∃ L,(grp n).length=L+1:=⟨(grp n).length-1,by omega⟩
  have hlen:lenM (grp n)=(L:Int)+1:=by rw [lenI,hLL];omega
  have htop:=grp_top h0
  rw [hLL,Nat.add_sub_cancel] at htop
  have hnl:n<10000 ^ (L+1):=by have:=grp_lt n;rwa [hLL] at this
  have hge:10000 ^ L≤n:=by have:=grp_len_pow h0;rwa [hLL,Nat.add_sub_cancel] at this
  have hw:IntKind.wrap .i64 (lenM (grp n)-1)=(L:Int):=by rw [hlen,wrap_in (by omega) (by omega)];omega
  dsimp only
  rw [neI (by rw [hlen];omega),cond_false,hw]
  refine bind_of (x:=decDigits n) ?_ ?_
  ·refine (loopM_fn (fun k=>((L:Int)-k,if k=0 then [] else decDigits (n / 10000 ^ (L+1-k)))) (L+1) (r:=decDigits n) (fun k hk=>?_) ?_)
   ·have hi:(L:Int)-k=((L-k:Nat):Int):=by omega
    have hq:n / 10000 ^ (L-k)≤n:=Nat.div_le_self _ _
    have hdl:(decDigits (n / 10000 ^ (L-k) % 10000)).length≤4:=dec_len4 (by omega)
    have e1:idxM (grp n) ((L-k:Nat):Int)=some ((n / 10000 ^ (L-k) % 10000:Nat):Int):=grp_idx (by omega)
    have e2:itoaM ((n / 10000 ^ (L-k) % 10000:Nat):Int)=decDigits (n / 10000 ^ (L-k) % 10000):=itoa_nn
    have e3:IntKind.wrap .i64 (4-lenM (decDigits (n / 10000 ^ (L-k) % 10000)))=((4-(decDigits (n / 10000 ^ (L-k) % 10000)).length:Nat):Int):=by
     rw [lenI,wrap_in (by omega) (by omega)];omega
    have e4:IntKind.wrap .i64 (((L-k:Nat):Int)-1)=(L:Int)-((k+1:Nat):Int):=by rw [wrap_in (by omega) (by omega)];omega
    dsimp only
    rw [hi,leI (by omega),cond_true,e1,Option.bind_some,e2,e4,if_neg (show ¬ k+1=0 by omega),show L+1-(k+1)=L-k by omega]
    by_cases hk0:k=0
    ·subst hk0
     rw [geI (by omega),cond_false,Option.bind_some,if_pos rfl,Nat.sub_zero]
     rw [Nat.mod_eq_of_lt htop,catB_of (by have:=dec_len4 htop;simp;omega)];rfl
    ·have hb:n / 10000 ^ (L+1-k)=n / 10000 ^ (L-k) / 10000:=by rw [show L+1-k=L-k+1 by omega,div_pow_succ]
     have hbig:10000≤n / 10000 ^ (L-k):=by
      rw [Nat.le_div_iff_mul_le (Nat.pow_pos (by omega)),Nat.mul_comm,← Nat.pow_succ]
      exact Nat.le_trans (Nat.pow_le_pow_right (by omega) (by omega)) hge
     have hlen2:(decDigits (n / 10000 ^ (L-k) / 10000)).length≤4*(L+1):=dec_len_grp (Nat.lt_of_le_of_lt (Nat.le_trans (Nat.div_le_self _ _) hq) hnl)
     have e5:(repeatL [(48:UInt8)] (4-(decDigits (n / 10000 ^ (L-k) % 10000)).length)++decDigits (n / 10000 ^ (L-k) % 10000)).length=4:=by rw [pad_dec (by omega)];rfl
     rw [List.length_append] at e5
     rw [ltI (by omega),cond_true,e3,rpt_of (by omega),Option.bind_some,catM_of (by omega),Option.bind_some,pad_dec (by omega),Option.bind_some,if_neg hk0,hb,
      catB_of (by show _+4≤_;omega),← dec_pad hbig];rfl
   ·have e:(L:Int)-((L+1:Nat):Int)=-1:=by omega
    dsimp only
    rw [e,if_neg (by omega),show L+1-(L+1)=0 by omega,Nat.pow_zero,Nat.div_one];rfl
  ·have hl2:=dec_len_grp hnl
   by_cases hs:n<10 ^ 200
   ·have h200:(decDigits n).length≤200:=dec_len_le (k:=199) hs
    rw [if_pos hs,geI (by rw [lenI];omega),cond_false]
    cases ng
    ·rw [cond_false,if_neg (by decide),itoa_nn]
    ·rw [cond_true,catM_of (by simp;omega),Option.bind_some,if_pos rfl,itoa_ng h0];rfl
   ·have h200:¬ (decDigits n).length≤200:=fun h=>hs (Nat.lt_of_lt_of_le (dec_len_lt n) (Nat.pow_le_pow_right (by omega) h))
    rw [if_neg hs,ltI (by rw [lenI];omega),cond_true]
def Sg (o:Bool×List Int) (z:Int):Prop:=o.2=grp z.natAbs∧(z≠0→o.1=decide (z<0))
theorem textZ {o:Bool×List Int} {z:Int} (h:Sg o z) (hn:(grp z.natAbs).length≤400):m87 o=some (if z.natAbs<10 ^ 200 then (itoa z,0) else ([],30)):=by
 obtain ⟨ng,l⟩:=o
 obtain ⟨h1,h2⟩:=h
 dsimp only at h1 h2
 subst h1
 rw [text_ok hn]
 have e:(if ng then -(z.natAbs:Int) else z.natAbs)=z:=by
  by_cases hz:z=0
  ·subst hz;cases ng<;>rfl
  ·rw [h2 hz]
   by_cases hneg:z<0
   ·rw [if_pos (by simpa using hneg)];omega
   ·rw [if_neg (by simpa using hneg)];omega
 rw [e]
theorem iat_ok (l:List Int) (i:Nat):m119 (l,(i:Int))=some (l.getD i 0):=by
 unfold m119
 by_cases h:i<l.length
 ·dsimp only;rw [ltI (by rw [lenI];omega),cond_true,idxM_lt h,getD_in _ _ h];rfl
 ·dsimp only;rw [geI (by rw [lenI];omega),cond_false,getD_out _ _ (by omega)]
theorem mk0 {n:Int} (h0:0≤n) (h:n≤1000000):mkM 0 n (nat_lit 8) (0:Int)=some []:=by rw [mkM_of (by omega) (by omega) (by show n*8≤_;omega)];rfl
theorem app1 {l:List Int} {d:Int} (h:l.length≤1000000):appM (nat_lit 8) l [d]=some (l++[d]):=appM_of (by simp;omega)
theorem fold_end {o:Option (List Int)} {n k:Nat} (h:Ans o fun out=>okd out∧vl out=(n:Int)∧out.length≤k+1) (hk:k≤10000):(o.bind fun o=>(m113 o).bind fun r=>some r)=some (grp n):=by
 refine Ans.is (Ans.bind h ?_)
 rintro out ⟨h1,h2,h3⟩
 have e:=strip_ok h1 (by omega)
 rw [h2] at e
 exact .of (by rw [e];rfl) rfl
theorem seq_at (n:Nat) (g:Nat→Int) {i:Nat} (hz:∀ i,n≤i→g i=0):(seqL n g).getD i 0=g i:=by
 by_cases h:i<n
 ·exact seqL_get n g i h
 ·rw [getD_out _ _ (by rw [seqL_len];omega),hz i (by omega)]
theorem plus_ok {a b:Nat} (ha:(grp a).length≤1000) (hb:(grp b).length≤1000):m84 (grp a,grp b)=some (grp (a+b)):=by
 unfold m84
 dsimp only
 have hm:max (lenM (grp a)) (lenM (grp b))=((max (grp a).length (grp b).length:Nat):Int):=by rw [lenI,lenI];omega
 rw [hm,wrap_in (by omega) (by omega),mk0 (by omega) (by omega),Option.bind_some]
 have hs:∀ i,(seqL (max (grp a).length (grp b).length) fun i=>(grp a).getD i 0+(grp b).getD i 0).getD i 0=(grp a).getD i 0+(grp b).getD i 0:=fun i=>seq_at _ _ fun i hi=>by rw [getD_out _ _ (by omega),getD_out _ _ (by omega)];rfl
 have hA:=okd_get (grp_okd a)
 have hB:=okd_get (grp_okd b)
 have hv:vl (seqL (max (grp a).length (grp b).length) fun i=>(grp a).getD i 0+(grp b).getD i 0)=((a+b:Nat):Int):=by
  rw [vl_add,vl_of _ _ (by omega),vl_of _ _ (by omega),vl_grp,vl_grp];omega
 refine fold_end (k:=max (grp a).length (grp b).length) ?_ (by omega)
 have key:=carry_loop (dl:=seqL (max (grp a).length (grp b).length) fun i=>(grp a).getD i 0+(grp b).getD i 0) (fun i=>by rw [hs];have:=hA i;have:=hB i;omega) (by rw [hv];omega)
  (body:=fun (s:Int×Int×List Int)=>bif PE.orM (ltM s.2.1 ((max (grp a).length (grp b).length:Nat):Int))
 (PE.notM (eqM s.1 0)) then (m119 (grp a,s.2.1)).bind fun r_1=>(m119 (grp b,s.2.1)).bind fun r_2=>(bif ltM (IntKind.wrap .i64 (IntKind.wrap
 IntKind.i64 (r_1+r_2)+s.1)) 0 then some ((-1),IntKind.wrap .i64 (IntKind.wrap .i64 (IntKind.wrap .i64 (r_1+r_2)+s.1)+10000)) else bif leM 10000 (IntKind.wrap
 IntKind.i64 (IntKind.wrap .i64 (r_1+r_2)+s.1)) then (divM .i64 (IntKind.wrap .i64 (IntKind.wrap .i64 (r_1+r_2)+s.1)) 10000).bind fun r_3=>(remM
 (IntKind.wrap .i64 (IntKind.wrap .i64 (r_1+r_2)+s.1)) 10000).bind fun r=>some (r_3,r) else some (0,IntKind.wrap .i64 (IntKind.wrap .i64 (r_1+r_2) +
 s.1))).bind fun o=>(appM (nat_lit 8) s.2.2 [o.2]).bind fun r=>some (Sum.inl (o.1,IntKind.wrap .i64 (s.2.1+1),r)) else some (Sum.inr s.2.2))
  (fun i c out ho hi h1 h2 h3=>?_) (fun i out hi=>?_)
 ·rw [hv,seqL_len] at key
  exact key
 ·rw [seqL_len] at hi h3
  have hA:=hA i
  have hB:=hB i
  have hc:PE.orM (ltM (i:Int) ((max (grp a).length (grp b).length:Nat):Int)) (PE.notM (eqM c 0))=true:=by
   rcases h3 with h | h
   ·rw [ltI (by omega),orT]
   ·rw [neI h,notF];cases ltM (i:Int) _<;>rfl
  have e:IntKind.wrap .i64 (IntKind.wrap .i64 ((grp a).getD i 0+(grp b).getD i 0)+c)=(grp a).getD i 0+(grp b).getD i 0+c:=by rw [wrap_in (n:=_+_) (by rw [wrap_in (by omega) (by omega)];omega) (by rw [wrap_in (by omega) (by omega)];omega),wrap_in (by omega) (by omega)]
  dsimp only
  rw [hc,cond_true,iat_ok,Option.bind_some,iat_ok,Option.bind_some,e,step_digit (by omega) (by omega),Option.bind_some,app1 (by omega),Option.bind_some,wrap_in (by omega) (by omega),hs]
 ·rw [seqL_len] at hi
  dsimp only
  rw [geI (by omega)];rfl
end Go.Proofs.YtechphmljdgoaaaGreatDoor
namespace Go.Proofs.YtechphmljdgoaaaGreatDoor
open Go Go.Lib Go.Abs Go.PE Go.Num
theorem by_ok {a d:Nat} (ha:(grp a).length≤1000) (hd:d≤9999):m114 (grp a,(d:Int))=some (grp (a*d)):=by
 unfold m114
 dsimp only
 have hm:lenM (grp a)=((grp a).length:Int):=lenI _
 rw [hm,wrap_in (by omega) (by omega),mk0 (by omega) (by omega),Option.bind_some]
 have hs:∀ i,(seqL (grp a).length fun i=>(grp a).getD i 0*(d:Int)).getD i 0=(grp a).getD i 0*(d:Int):=fun i=>seq_at _ _ fun i hi=>by rw [getD_out _ _ (by omega),Int.zero_mul]
 have hA:=okd_get (grp_okd a)
 have hb:∀ i,0≤(grp a).getD i 0*(d:Int)∧(grp a).getD i 0*(d:Int)≤99980001:=fun i=>by
  have h1:=hA i
  refine ⟨Int.mul_nonneg h1.1 (by omega),?_⟩
  have:=Int.mul_le_mul h1.2 (show (d:Int)≤9999 by omega) (by omega) (by omega)
  omega
 have hv:vl (seqL (grp a).length fun i=>(grp a).getD i 0*(d:Int))=((a*d:Nat):Int):=by
  rw [vl_mul,vl_of _ _ (by omega),vl_grp];exact (Int.natCast_mul a d).symm
 refine fold_end (k:=(grp a).length) ?_ (by omega)
 have key:=carry_loop (dl:=seqL (grp a).length fun i=>(grp a).getD i 0*(d:Int)) (fun i=>by rw [hs];have:=hb i;omega) (by rw [hv];omega)
  (body:=fun (s:Int×Int×List Int)=>bif PE.orM (ltM s.2.1 ((grp a).length:Int))
 (PE.notM (eqM s.1 0)) then (m119 (grp a,s.2.1)).bind fun r_1=>(bif ltM (IntKind.wrap .i64 (IntKind.wrap
 IntKind.i64 (r_1*(d:Int))+s.1)) 0 then some ((-1),IntKind.wrap .i64 (IntKind.wrap .i64 (IntKind.wrap .i64 (r_1*(d:Int))+s.1)+10000)) else bif leM 10000 (IntKind.wrap
 IntKind.i64 (IntKind.wrap .i64 (r_1*(d:Int))+s.1)) then (divM .i64 (IntKind.wrap .i64 (IntKind.wrap .i64 (r_1*(d:Int))+s.1)) 10000).bind fun r_2=>(remM
 (IntKind.wrap .i64 (IntKind.wrap .i64 (r_1*(d:Int))+s.1)) 10000).bind fun r=>some (r_2,r) else some (0,IntKind.wrap .i64 (IntKind.wrap .i64 (r_1*(d:Int)) +
 s.1))).bind fun o=>(appM (nat_lit 8) s.2.2 [o.2]).bind fun r=>some (Sum.inl (o.1,IntKind.wrap .i64 (s.2.1+1),r)) else some (Sum.inr s.2.2))
  (fun i c out ho hi h1 h2 h3=>?_) (fun i out hi=>?_)
 ·rw [hv,seqL_len] at key
  exact key
 ·rw [seqL_len] at hi h3
  have hb:=hb i
  have hc:PE.orM (ltM (i:Int) ((grp a).length:Int)) (PE.notM (eqM c 0))=true:=by
   rcases h3 with h | h
   ·rw [ltI (by omega),orT]
   ·rw [neI h,notF];cases ltM (i:Int) _<;>rfl
  have e:IntKind.wrap .i64 (IntKind.wrap .i64 ((grp a).getD i 0*(d:Int))+c)=(grp a).getD i 0*(d:Int)+c:=by rw [wrap_in (n:=(grp a).getD i 0*(d:Int)) (by omega) (by omega),wrap_in (by omega) (by omega)]
  dsimp only
  rw [hc,cond_true,iat_ok,Option.bind_some,e,step_digit (by omega) (by omega),Option.bind_some,app1 (by omega),Option.bind_some,wrap_in (by omega) (by omega),hs]
 ·rw [seqL_len] at hi
  dsimp only
  rw [geI (by omega)];rfl
theorem grp_len_mono {a b:Nat} (h:a≤b):(grp a).length≤(grp b).length:=grp_len_le (Nat.lt_of_le_of_lt h (grp_lt b))
theorem minus_ok {a b:Nat} (ha:(grp a).length≤1000) (hb:b≤a):m86 (grp a,grp b)=some (grp (a-b)):=by
 unfold m86
 dsimp only
 have hl:=grp_len_mono hb
 have hm:lenM (grp a)=((grp a).length:Int):=lenI _
 rw [hm,wrap_in (by omega) (by omega),mk0 (by omega) (by omega),Option.bind_some]
 have hs:∀ i,(seqL (grp a).length fun i=>(grp a).getD i 0-(grp b).getD i 0).getD i 0=(grp a).getD i 0-(grp b).getD i 0:=fun i=>seq_at _ _ fun i hi=>by rw [getD_out _ _ (by omega),getD_out _ _ (by omega)];rfl
 have hA:=okd_get (grp_okd a)
 have hB:=okd_get (grp_okd b)
 have hv:vl (seqL (grp a).length fun i=>(grp a).getD i 0-(grp b).getD i 0)=((a-b:Nat):Int):=by
  rw [vl_sub,vl_of _ _ (by omega),vl_of _ _ (by omega),vl_grp,vl_grp];omega
 refine fold_end (k:=(grp a).length) ?_ (by omega)
 have key:=carry_loop (dl:=seqL (grp a).length fun i=>(grp a).getD i 0-(grp b).getD i 0) (fun i=>by rw [hs];have:=hA i;have:=hB i;omega) (by rw [hv];omega)
  (body:=fun (s:Int×Int×List Int)=>bif PE.orM (ltM s.2.1 ((grp a).length:Int))
 (PE.notM (eqM s.1 0)) then (m119 (grp a,s.2.1)).bind fun r_1=>(m119 (grp b,s.2.1)).bind fun r_2=>(bif ltM (IntKind.wrap .i64 (IntKind.wrap
 IntKind.i64 (r_1-r_2)+s.1)) 0 then some ((-1),IntKind.wrap .i64 (IntKind.wrap .i64 (IntKind.wrap .i64 (r_1-r_2)+s.1)+10000)) else bif leM 10000 (IntKind.wrap
 IntKind.i64 (IntKind.wrap .i64 (r_1-r_2)+s.1)) then (divM .i64 (IntKind.wrap .i64 (IntKind.wrap .i64 (r_1-r_2)+s.1)) 10000).bind fun r_3=>(remM
 (IntKind.wrap .i64 (IntKind.wrap .i64 (r_1-r_2)+s.1)) 10000).bind fun r=>some (r_3,r) else some (0,IntKind.wrap .i64 (IntKind.wrap .i64 (r_1-r_2) +
 s.1))).bind fun o=>(appM (nat_lit 8) s.2.2 [o.2]).bind fun r=>some (Sum.inl (o.1,IntKind.wrap .i64 (s.2.1+1),r)) else some (Sum.inr s.2.2))
  (fun i c out ho hi h1 h2 h3=>?_) (fun i out hi=>?_)
 ·rw [hv,seqL_len] at key
  exact key
 ·rw [seqL_len] at hi h3
  have hA:=hA i
  have hB:=hB i
  have hc:PE.orM (ltM (i:Int) ((grp a).length:Int)) (PE.notM (eqM c 0))=true:=by
   rcases h3 with h | h
   ·rw [ltI (by omega),orT]
   ·rw [neI h,notF];cases ltM (i:Int) _<;>rfl
  have e:IntKind.wrap .i64 (IntKind.wrap .i64 ((grp a).getD i 0-(grp b).getD i 0)+c)=(grp a).getD i 0-(grp b).getD i 0+c:=by rw [wrap_in (n:=(grp a).getD i 0-(grp b).getD i 0) (by omega) (by omega),wrap_in (by omega) (by omega)]
  dsimp only
  rw [hc,cond_true,iat_ok,Option.bind_some,iat_ok,Option.bind_some,e,step_digit (by omega) (by omega),Option.bind_some,app1 (by omega),Option.bind_some,wrap_in (by omega) (by omega),hs]
 ·rw [seqL_len] at hi
  dsimp only
  rw [geI (by omega)];rfl
theorem grp_mul {a b:Nat}:(grp (a*b)).length≤(grp a).length+(grp b).length:=grp_len_le (by rw [Nat.pow_add];exact Nat.mul_lt_mul'' (grp_lt a) (grp_lt b))
theorem grp_add {a b:Nat}:(grp (a+b)).length≤max (grp a).length (grp b).length+1:=grp_len_le (by
 have h1:=grp_lt a
 have h2:=grp_lt b
 have h3:=Nat.pow_le_pow_right (show 0<10000 by omega) (Nat.le_max_left (grp a).length (grp b).length)
 have h4:=Nat.pow_le_pow_right (show 0<10000 by omega) (Nat.le_max_right (grp a).length (grp b).length)
 rw [Nat.pow_succ];omega)
theorem shift_ok {m:Nat} (h:(grp m).length≤10000):((bif ltM 0 (lenM (grp m)) then (appM (nat_lit 8) [0] (grp m)).bind fun r=>some r else some (grp m)):Option (List Int))=some (grp (10000*m)):=by
 by_cases h0:m=0
 ·subst h0;rw [Nat.mul_zero,grp_zero];rfl
 ·have hl:(grp m).length≠0:=fun e=>h0 (grp_nil.1 (List.length_eq_zero_iff.1 e))
  rw [ltI (by rw [lenI];omega),cond_true,appM_of (by simp;omega),Option.bind_some,grp_pos (show 10000*m≠0 by omega),show 10000*m / 10000=m by omega,show 10000*m % 10000=0 by omega];rfl
theorem grp_shift_len (m:Nat):(grp (10000*m)).length≤(grp m).length+1:=by
 by_cases h0:m=0
 ·subst h0;rw [Nat.mul_zero,grp_zero];simp
 ·rw [grp_pos (show 10000*m≠0 by omega),show 10000*m / 10000=m by omega,List.length_cons];omega
theorem times_ok {a b:Nat} (ha:(grp a).length≤400) (hb:(grp b).length≤400):m132 (grp a,grp b)=some (grp (a*b)):=by
 unfold m132
 have hw:IntKind.wrap .i64 (lenM (grp b)-1)=((grp b).length:Int)-((0:Nat):Int)-1:=by rw [lenI,wrap_in (by omega) (by omega)];omega
 have h0:([]:List Int)=grp (a*(b / 10000 ^ ((grp b).length-0))):=by rw [Nat.sub_zero,Nat.div_eq_of_lt (grp_lt b),Nat.mul_zero,grp_zero]
 refine bind_of (Eq.trans (congrArg (loopM _) (Prod.ext hw h0)) (loopM_fn (fun k=>(((grp b).length:Int)-(k:Int)-1,grp (a*(b / 10000 ^ ((grp b).length-k))))) (grp b).length (r:=grp (a*b)) (fun k hk=>?_) ?_)) rfl
 ·have hi:((grp b).length:Int)-(k:Int)-1=(((grp b).length-k-1:Nat):Int):=by omega
  have hq2:b / 10000 ^ ((grp b).length-k)≤b:=Nat.div_le_self _ _
  have hd:b / 10000 ^ ((grp b).length-k)=b / 10000 ^ ((grp b).length-k-1) / 10000:=by
   rw [← div_pow_succ,show (grp b).length-k-1+1=(grp b).length-k by omega]
  have l1:(grp (a*(b / 10000 ^ ((grp b).length-k)))).length≤800:=Nat.le_trans grp_mul (by have:=grp_len_mono hq2;omega)
  have hrec:a*(b / 10000 ^ ((grp b).length-k-1))=10000*(a*(b / 10000 ^ ((grp b).length-k)))+a*(b / 10000 ^ ((grp b).length-k-1) % 10000):=by
   rw [hd,Nat.mul_left_comm,← Nat.mul_add];congr 1;omega
  have l2:=grp_shift_len (a*(b / 10000 ^ ((grp b).length-k)))
  have l4:(grp (a*(b / 10000 ^ ((grp b).length-k-1) % 10000))).length≤1000:=Nat.le_trans grp_mul (by have:(grp (b / 10000 ^ ((grp b).length-k-1) % 10000)).length≤1:=grp_len_le (by omega);omega)
  dsimp only
  rw [hi,leI (by omega),cond_true,grp_idx (by omega),Option.bind_some,shift_ok (by omega),Option.bind_some,by_ok (by omega) (by omega),Option.bind_some,plus_ok (by omega) l4,Option.bind_some,← hrec,wrap_in (by omega) (by omega),show (grp b).length-(k+1)=(grp b).length-k-1 by omega]
  congr 3;omega
 ·have e:((grp b).length:Int)-((grp b).length:Int)-1=-1:=by omega
  dsimp only
  rw [e,gtI (by omega),cond_false,Nat.sub_self,Nat.pow_zero,Nat.div_one]
def cmp3 (x y:Int):Int:=if x<y then -1 else if y<x then 1 else 0
theorem cmp_ok1 (x y:Int):m124 (x,y)=some (cmp3 x y):=by
 unfold m124
 have e:∀ z:Int,m131 z=some false:=fun z=>by unfold m131;rw [eqI rfl];rfl
 dsimp only
 rw [e,Option.bind_some,e,Option.bind_some,cond_false,cond_false]
 unfold cmp3
 by_cases h1:x<y
 ·rw [ltI h1,cond_true,if_pos h1]
 ·rw [geI (by omega),cond_false,if_neg h1]
  by_cases h2:y<x
  ·rw [ltI h2,cond_true,if_pos h2]
  ·rw [geI (by omega),cond_false,if_neg h2]
theorem cmp3_div {a b j:Nat} (h:a / j<b / j):cmp3 (a:Int) b=-1:=by
 have:a<b:=by
  rcases Nat.lt_or_ge a b with h1 | h1
  ·exact h1
  ·exact absurd (Nat.div_le_div_right (c:=j) h1) (by omega)
 unfold cmp3;rw [if_pos (by omega)]
theorem cmp3_div' {a b j:Nat} (h:b / j<a / j):cmp3 (a:Int) b=1:=by
 have:b<a:=by
  rcases Nat.lt_or_ge b a with h1 | h1
  ·exact h1
  ·exact absurd (Nat.div_le_div_right (c:=j) h1) (by omega)
 unfold cmp3;rw [if_neg (by omega),if_pos (by omega)]
theorem compare_ok {a b:Nat} (ha:(grp a).length≤10000) (hb:(grp b).length≤10000):m88 (grp a,grp b)=some (cmp3 a b):=by
 unfold m88
 dsimp only
 by_cases hl:(grp a).length=(grp b).length
 ·rw [eqI (show lenM (grp a)=lenM (grp b) by rw [lenI,lenI,hl]),notT,cond_false]
  have hw:IntKind.wrap .i64 (lenM (grp a)-1)=((grp a).length:Int)-((0:Nat):Int)-1:=by rw [lenI,wrap_in (by omega) (by omega)];omega
  rw [hw]
  refine Ans.is (Ans.bind (P:=fun o=>Sum.elim (fun (_:Unit)=>some 0) (fun (t:Int)=>some t) o=some (cmp3 a b)) (Ans.loop (fun k s=>s=((grp a).length:Int)-(k:Int)-1∧a / 10000 ^ ((grp a).length-k)=b / 10000 ^ ((grp a).length-k)) (grp a).length ⟨rfl,?_⟩ ?_) ?_)
  ·rw [Nat.sub_zero,Nat.div_eq_of_lt (grp_lt a),hl,Nat.div_eq_of_lt (grp_lt b)]
  ·rintro k s hk ⟨rfl,he⟩
   by_cases hkl:k<(grp a).length
   ·have hi:((grp a).length:Int)-(k:Int)-1=(((grp a).length-k-1:Nat):Int):=by omega
    have hd:∀ n,n / 10000 ^ ((grp a).length-k)=n / 10000 ^ ((grp a).length-k-1) / 10000:=fun n=>by
     rw [← div_pow_succ,show (grp a).length-k-1+1=(grp a).length-k by omega]
    rw [hd a,hd b] at he
    rw [hi,leI (by omega),cond_true,grp_idx (by omega),Option.bind_some,grp_idx (by omega),Option.bind_some]
    by_cases hx:a / 10000 ^ ((grp a).length-k-1) % 10000=b / 10000 ^ ((grp a).length-k-1) % 10000
    ·rw [eqI (by omega),notT,cond_false]
     refine Ans.of (r:=.inl (((grp a).length:Int)-((k+1:Nat):Int)-1)) (by rw [wrap_in (by omega) (by omega)];congr 2;omega) ?_
     exact show k<(grp a).length∧_ from ⟨hkl,rfl,by rw [show (grp a).length-(k+1)=(grp a).length-k-1 by omega];omega⟩
    ·rw [neI (by omega),notF,cond_true,Option.bind_some,cmp_ok1]
     refine Ans.of (r:=.inr (.inr (cmp3 ((a / 10000 ^ ((grp a).length-k-1) % 10000:Nat):Int) ((b / 10000 ^ ((grp a).length-k-1) % 10000:Nat):Int)))) rfl ?_
     show some (cmp3 ((a / 10000 ^ ((grp a).length-k-1) % 10000:Nat):Int) ((b / 10000 ^ ((grp a).length-k-1) % 10000:Nat):Int))=some (cmp3 a b)
     congr 1
     rcases Nat.lt_or_gt_of_ne hx with h | h
     ·rw [cmp3_div (a:=a) (b:=b) (j:=10000 ^ ((grp a).length-k-1)) (by omega)];unfold cmp3;rw [if_pos (by omega)]
     ·rw [cmp3_div' (a:=a) (b:=b) (j:=10000 ^ ((grp a).length-k-1)) (by omega)];unfold cmp3;rw [if_neg (by omega),if_pos (by omega)]
   ·have:k=(grp a).length:=by omega
    subst this
    rw [Nat.sub_self,Nat.pow_zero,Nat.div_one,Nat.div_one] at he
    have e:((grp a).length:Int)-((grp a).length:Int)-1=-1:=by omega
    rw [e,gtI (by omega),cond_false]
    refine Ans.of (r:=.inr (.inl ())) rfl ?_
    show some (0:Int)=some (cmp3 a b)
    unfold cmp3;rw [if_neg (by omega),if_neg (by omega)]
  ·intro o ho
   exact .of ho rfl
 ·rw [neI (by rw [lenI,lenI];omega),notF,cond_true,cmp_ok1,Option.bind_some]
  have ka:=grp_lt a
  have kb:=grp_lt b
  congr 1
  rcases Nat.lt_or_gt_of_ne hl with h | h
  ·have hb0:b≠0:=fun e=>by subst e;rw [grp_zero] at h;simp at h
   have h1:=grp_len_pow hb0
   have h2:=Nat.pow_le_pow_right (show 0<10000 by omega) (show (grp a).length≤(grp b).length-1 by omega)
   unfold cmp3;rw [if_pos (by rw [lenI,lenI];omega),if_pos (by omega)]
  ·have ha0:a≠0:=fun e=>by subst e;rw [grp_zero] at h;simp at h
   have h1:=grp_len_pow ha0
   have h2:=Nat.pow_le_pow_right (show 0<10000 by omega) (show (grp b).length≤(grp a).length-1 by omega)
   unfold cmp3;rw [if_neg (by rw [lenI,lenI];omega),if_pos (by rw [lenI,lenI];omega),if_neg (by omega),if_pos (by omega)]
theorem cmp3_pos (x y:Int):leM 0 (cmp3 x y)=decide (y≤x):=by
 unfold cmp3
 by_cases h1:x<y
 ·rw [if_pos h1,gtI (by omega),decide_eq_false (by omega)]
 ·rw [if_neg h1,decide_eq_true (by omega)]
  by_cases h2:y<x
  ·rw [if_pos h2,leI (by omega)]
  ·rw [if_neg h2,leI (by omega)]
theorem splus_ok {x y:Int} (hx:(grp x.natAbs).length≤400) (hy:(grp y.natAbs).length≤400):Ans (m95 ((decide (x<0),grp x.natAbs),decide (y<0),grp y.natAbs)) fun o=>Sg o (x+y):=by
 unfold m95
 dsimp only
 by_cases hs:decide (x<0)=decide (y<0)
 ·have hs':=decide_eq_decide.1 hs
  rw [show eqbM (decide (x<0)) (decide (y<0))=true from decide_eq_true hs,cond_true,plus_ok (by omega) (by omega),Option.bind_some]
  refine .of rfl ⟨by show grp _=grp _;congr 1;omega,fun h=>?_⟩
  show decide (x<0)=decide (x+y<0)
  exact decide_eq_decide.2 (by omega)
 ·have hs':¬ (x<0↔y<0):=fun h=>hs (decide_eq_decide.2 h)
  rw [show eqbM (decide (x<0)) (decide (y<0))=false from decide_eq_false hs,cond_false,compare_ok (by omega) (by omega),Option.bind_some,cmp3_pos]
  by_cases hc:y.natAbs≤x.natAbs
  ·rw [decide_eq_true (by omega),cond_true,minus_ok (by omega) hc,Option.bind_some]
   refine .of rfl ⟨by show grp _=grp _;congr 1;omega,fun h=>?_⟩
   show decide (x<0)=decide (x+y<0)
   exact decide_eq_decide.2 (by omega)
  ·rw [decide_eq_false (by omega),cond_false,minus_ok (by omega) (by omega),Option.bind_some]
   refine .of rfl ⟨by show grp _=grp _;congr 1;omega,fun h=>?_⟩
   show decide (y<0)=decide (x+y<0)
   exact decide_eq_decide.2 (by omega)
def Fits (z:Int):Prop:=z.natAbs<10 ^ 200
instance (z:Int):Decidable (Fits z):=inferInstanceAs (Decidable (z.natAbs<10 ^ 200))
def sn (z:Int):List UInt8×Int:=if Fits z then (itoa z,0) else ([],30)
theorem fits_len {z:Int} (h:Fits z):(grp z.natAbs).length≤50:=grp_len_le (Nat.lt_of_lt_of_le h (by decide))
theorem sn_text {o:Bool×List Int} {z:Int} (h:Sg o z) (hn:(grp z.natAbs).length≤400):m87 o=some (sn z):=by
 rw [textZ h hn];rfl
theorem iadd_ok {x y:Int} (hx:Fits x) (hy:Fits y):m74 (itoa x,itoa y)=some (sn (x+y)):=by
 have h1:=fits_len hx
 have h2:=fits_len hy
 unfold m74
 dsimp only
 rw [both_ok hx hy,Option.bind_some,notT,cond_false]
 refine Ans.is (Ans.bind (splus_ok (by omega) (by omega)) fun o ho=>?_)
 rw [sn_text ho (Nat.le_trans (grp_len_mono (show (x+y).natAbs≤x.natAbs+y.natAbs by omega)) (Nat.le_trans grp_add (by omega)))]
 exact .of rfl rfl
theorem imul_ok {x y:Int} (hx:Fits x) (hy:Fits y):m107 (itoa x,itoa y)=some (sn (x*y)):=by
 have h1:=fits_len hx
 have h2:=fits_len hy
 unfold m107
 dsimp only
 rw [both_ok hx hy,Option.bind_some,notT,cond_false,times_ok (by omega) (by omega),Option.bind_some]
 rw [sn_text (z:=x*y) ⟨by show grp _=grp _;rw [Int.natAbs_mul],fun h=>?_⟩ (by rw [Int.natAbs_mul];exact Nat.le_trans grp_mul (by omega))]
 ·rfl
 ·show PE.notM (eqbM (decide (x<0)) (decide (y<0)))=decide (x*y<0)
  have hx0:x≠0:=fun e=>h (by rw [e,Int.zero_mul])
  have hy0:y≠0:=fun e=>h (by rw [e,Int.mul_zero])
  by_cases hx:x<0<;>by_cases hy:y<0
  ·rw [decide_eq_true hx,decide_eq_true hy,decide_eq_false (by have:=Int.mul_pos_of_neg_of_neg hx hy;omega)];rfl
  ·rw [decide_eq_true hx,decide_eq_false hy,decide_eq_true (Int.mul_neg_of_neg_of_pos hx (by omega))];rfl
  ·rw [decide_eq_false hx,decide_eq_true hy,decide_eq_true (Int.mul_neg_of_pos_of_neg (by omega) hy)];rfl
  ·rw [decide_eq_false hx,decide_eq_false hy,decide_eq_false (by have:=Int.mul_pos (show 0<x by omega) (show 0<y by omega);omega)];rfl
theorem icmp_ok {x y:Int} (hx:Fits x) (hy:Fits y):m57 (itoa x,itoa y)=some (cmp3 x y):=by
 have h1:=fits_len hx
 have h2:=fits_len hy
 unfold m57
 dsimp only
 rw [both_ok hx hy,Option.bind_some,notT,cond_false]
 by_cases hx:x<0
 ·rw [decide_eq_true hx]
  by_cases hy:y<0
  ·rw [decide_eq_true hy,andT,cond_true,compare_ok (by omega) (by omega),Option.bind_some]
   congr 1;unfold cmp3;grind
  ·rw [decide_eq_false hy,andT,cond_false,cond_true]
   congr 1;unfold cmp3;grind
 ·rw [decide_eq_false hx,andF,cond_false,cond_false]
  by_cases hy:y<0
  ·rw [decide_eq_true hy,cond_true]
   congr 1;unfold cmp3;grind
  ·rw [decide_eq_false hy,cond_false,compare_ok (by omega) (by omega),Option.bind_some]
   congr 1;unfold cmp3;grind
end Go.Proofs.YtechphmljdgoaaaGreatDoor
namespace Go.Proofs.YtechphmljdgoaaaGreatDoor
open Go Go.Lib Go.Abs Go.PE Go.Num
theorem vl_set:∀ (l:List Int) (i:Nat) (d:Int),i<l.length→vl (l.set i d)=vl l+10000 ^ i*(d-l.getD i 0)
 | [],i,d,h=>by simp at h
 | c::l,0,d,_=>by show d+10000*vl l=c+10000*vl l+1*(d-c);omega
 | c::l,i+1,d,h=>by
  have ih:=vl_set l i d (by simpa using h)
  show c+10000*vl (l.set i d)=c+10000*vl l+10000 ^ (i+1)*(d-l.getD i 0)
  rw [ih,Int.pow_succ,Int.mul_add,Int.mul_comm (10000 ^ i) 10000,Int.mul_assoc];omega
theorem okd_set {l:List Int} (h:okd l) {i:Nat} {d:Int} (hd:0≤d∧d≤9999):okd (l.set i d):=fun c hc=>by
 rcases List.mem_or_eq_of_mem_set hc with hc | rfl
 ·exact h c hc
 ·exact hd
theorem okd_rep (n:Nat):okd (List.replicate n 0):=fun c hc=>by rw [(List.mem_replicate.1 hc).2];omega
theorem vl_rep:∀ n,vl (List.replicate n 0)=0
 | 0=>rfl
 | n+1=>by show 0+10000*vl (List.replicate n 0)=0;rw [vl_rep n];rfl
theorem half_ok {i j:Nat} (h:i<j) (hj:j≤9999):shrM IntKind.u64 (IntKind.wrap IntKind.u64 (IntKind.wrap .i64 ((i:Int)+(j:Int)))) 1=some (((i+j) / 2:Nat):Int):=by
 rw [wrap_in (by omega) (by omega)]
 have e:IntKind.wrap IntKind.u64 ((i:Int)+j)=(i:Int)+j:=by
  unfold IntKind.wrap
  show ((i:Int)+j) % 18446744073709551616=_
  omega
 rw [e]
 unfold shrM
 rw [decide_eq_false (by omega)]
 show some (((i:Int)+j).fdiv 2)=_
 rw [Int.fdiv_eq_ediv_of_nonneg _ (by omega)]
 congr 1
theorem nat_int {t:Nat} (h:t≤9999):(0:Int)≤(t:Int)∧(t:Int)≤9999:=by omega
theorem search_ok {b R:Nat} (hb:0<b) (hR:R<10000*b) (lb:(grp b).length≤400) (lR:(grp R).length≤500) :
  loopM (fun (s_1:Int×Int)=>bif ltM s_1.1 s_1.2 then (shrM IntKind.u64
 (IntKind.wrap IntKind.u64 (IntKind.wrap .i64 (s_1.1+s_1.2))) 1).bind fun r_4=>(m114 (grp b,IntKind.wrap .i64 (IntKind.wrap .i64 r_4+1))).bind fun r_5=>(m88 (r_5,
 grp R)).bind fun r=>bif PE.notM (ltM 0 r) then some (Sum.inl (IntKind.wrap .i64 (IntKind.wrap .i64 r_4+1),s_1.2)) else some (Sum.inl (s_1.1,IntKind.wrap IntKind.i64
 r_4)) else some (Sum.inr s_1.1)) (0,9999)=some ((R / b:Nat):Int):=by
 have hq:R / b≤9999:=by
  have:R / b<10000:=(Nat.div_lt_iff_lt_mul hb).2 hR
  omega
 refine Ans.is (Ans.loop (fun k s=>∃ i j:Nat,s=((i:Int),(j:Int))∧i≤R / b∧R / b≤j∧j≤9999∧j-i+k≤9999) 9999 ⟨0,9999,rfl,Nat.zero_le _,hq,Nat.le_refl _,by omega⟩ ?_)
 rintro k s hk ⟨i,j,rfl,h1,h2,h3,h4⟩
 dsimp only
 by_cases hij:i<j
 ·rw [ltI (by omega),cond_true,half_ok hij h3,Option.bind_some,wrap_in (n:=(((i+j) / 2:Nat):Int)) (by omega) (by omega),wrap_in (n:=(((i+j) / 2:Nat):Int)+1) (by omega) (by omega)]
  have e1:(((i+j) / 2:Nat):Int)+1=(((i+j) / 2+1:Nat):Int):=by omega
  rw [e1,by_ok (by omega) (by omega),Option.bind_some]
  have l1:(grp (b*((i+j) / 2+1))).length≤10000:=Nat.le_trans grp_mul (by have:(grp ((i+j) / 2+1)).length≤1:=grp_len_le (by omega);omega)
  rw [compare_ok l1 (by omega),Option.bind_some]
  have key:(i+j) / 2+1≤R / b↔b*((i+j) / 2+1)≤R:=by rw [Nat.le_div_iff_mul_le hb,Nat.mul_comm]
  by_cases hc:b*((i+j) / 2+1)≤R
  ·have e2:ltM 0 (cmp3 ((b*((i+j) / 2+1):Nat):Int) (R:Int))=false:=by
    unfold cmp3
    by_cases h5:((b*((i+j) / 2+1):Nat):Int)<R
    ·rw [if_pos h5];rfl
    ·rw [if_neg h5,if_neg (by omega)];rfl
   rw [e2,notF,cond_true]
   refine Ans.of (r:=.inl ((((i+j) / 2+1:Nat):Int),(j:Int))) rfl ?_
   exact show k<9999∧∃ i' j':Nat,((((i+j) / 2+1:Nat):Int),(j:Int))=((i':Int),(j':Int))∧i'≤R / b∧R / b≤j'∧j'≤9999∧j'-i'+(k+1)≤9999 from ⟨by omega,_,_,rfl,key.2 hc,h2,h3,by omega⟩
  ·have e2:ltM 0 (cmp3 ((b*((i+j) / 2+1):Nat):Int) (R:Int))=true:=by
    unfold cmp3
    rw [if_neg (by omega),if_pos (by omega)];rfl
   rw [e2,notT,cond_false]
   refine Ans.of (r:=.inl ((i:Int),(((i+j) / 2:Nat):Int))) rfl ?_
   have h6:¬ (i+j) / 2+1≤R / b:=fun h=>hc (key.1 h)
   exact show k<9999∧∃ i' j':Nat,((i:Int),(((i+j) / 2:Nat):Int))=((i':Int),(j':Int))∧i'≤R / b∧R / b≤j'∧j'≤9999∧j'-i'+(k+1)≤9999 from ⟨by omega,_,_,rfl,h1,by omega,by omega,by omega⟩
 ·rw [geI (by omega),cond_false]
  refine Ans.of (r:=.inr (i:Int)) rfl ?_
  show (i:Int)=((R / b:Nat):Int)
  omega
theorem over_ok {a b:Nat} (hb:0<b) (la:(grp a).length≤400) (lb:(grp b).length≤400):m83 (grp a,grp b)=some (grp (a / b),grp (a % b)):=by
 unfold m83
 obtain ⟨L,hL⟩:∃ L,L=(grp a).length:=⟨_,rfl⟩
 have hlen:lenM (grp a)=(L:Int):=by rw [lenI,hL]
 dsimp only
 rw [hlen,mkM_of (by omega) (by omega) (by show (L:Int)*8≤_;omega),Option.bind_some,show ((L:Nat):Int).toNat=L by omega]
 have hw:IntKind.wrap .i64 ((L:Int)-1)=(L:Int)-((0:Nat):Int)-1:=by rw [wrap_in (by omega) (by omega)];omega
 rw [hw]
 refine Ans.is (Ans.bind (P:=fun o=>o.1=grp (a % b)∧okd o.2∧o.2.length=L∧vl o.2=((a / b:Nat):Int)) (Ans.loop (fun k s=>s.1=(L:Int)-(k:Int)-1∧s.2.1=grp (a / 10000 ^ (L-k) % b)∧okd s.2.2∧s.2.2.length=L∧vl s.2.2=10000 ^ (L-k)*((a / 10000 ^ (L-k) / b:Nat):Int)∧∀ j,j<L-k→s.2.2.getD j 0=0) L ⟨rfl,?_,okd_rep _,List.length_replicate,?_,?_⟩ ?_) ?_)
 ·show ([]:List Int)=_
  rw [Nat.sub_zero,hL,Nat.div_eq_of_lt (grp_lt a),Nat.zero_mod,grp_zero]
 ·show vl (List.replicate L 0)=_
  rw [Nat.sub_zero,hL,Nat.div_eq_of_lt (grp_lt a),Nat.zero_div,vl_rep];simp
 ·intro j hj
  show (List.replicate L 0).getD j 0=0
  rw [getD_in _ _ (by simp;omega)];simp
 ·rintro k ⟨i,rm,q⟩ hk ⟨h1,h2,h3,h4,h5,h6⟩
  dsimp only at h1 h2 h3 h4 h5 h6
  subst h1 h2
  by_cases hkL:k<L
  ·have hi:(L:Int)-(k:Int)-1=((L-k-1:Nat):Int):=by omega
   have hd:a / 10000 ^ (L-k)=a / 10000 ^ (L-k-1) / 10000:=by rw [← div_pow_succ,show L-k-1+1=L-k by omega]
   obtain ⟨A,hA⟩:∃ A,A=a / 10000 ^ (L-k-1):=⟨_,rfl⟩
   have hAl:(grp A).length≤400:=by rw [hA];exact Nat.le_trans (grp_len_mono (Nat.div_le_self _ _)) la
   rw [hd,← hA] at h5 ⊢
   have hrm:(grp (A / 10000 % b)).length≤400:=Nat.le_trans (grp_len_mono (Nat.le_of_lt (Nat.mod_lt _ hb))) lb
   have hRv:vl (((A % 10000:Nat):Int)::grp (A / 10000 % b))=((10000*(A / 10000 % b)+A % 10000:Nat):Int):=by rw [vl,vl_grp];omega
   obtain ⟨R,hR⟩:∃ R,R=10000*(A / 10000 % b)+A % 10000:=⟨_,rfl⟩
   have hRb:R<10000*b:=by
    have:=Nat.mod_lt (A / 10000) hb
    omega
   have hAR:A=10000*(A / 10000 / b)*b+R:=by
    have h7:=Nat.div_add_mod (A / 10000) b
    have h8:10000*(A / 10000 / b)*b=10000*(b*(A / 10000 / b)):=by rw [Nat.mul_assoc,Nat.mul_comm b]
    omega
   have hq:A / b=10000*(A / 10000 / b)+R / b:=by
    conv=>lhs;rw [hAR]
    rw [Nat.mul_comm (10000*_) b,Nat.mul_add_div hb]
   have hm:A % b=R % b:=by
    conv=>lhs;rw [hAR]
    rw [Nat.mul_comm (10000*_) b,Nat.mul_add_mod]
   have lR:(grp R).length≤500:=Nat.le_trans (grp_len_mono (show R≤10000*b by omega)) (Nat.le_trans (grp_shift_len b) (by omega))
   have hgi:idxM (grp a) ((L-k-1:Nat):Int)=some ((A % 10000:Nat):Int):=by rw [hA];exact grp_idx (by omega)
   have hst:m113 (((A % 10000:Nat):Int)::grp (A / 10000 % b))=some (grp R):=by
    rw [strip_ok (okd_cons.2 ⟨by omega,grp_okd _⟩) (by simp;omega),hRv,← hR];rfl
   have hd9:R / b≤9999:=by
    have:R / b<10000:=(Nat.div_lt_iff_lt_mul hb).2 hRb
    omega
   dsimp only
   rw [hi,leI (by omega),cond_true,hgi,Option.bind_some,appM_of (by simp;omega),Option.bind_some,List.singleton_append,hst,Option.bind_some]
   refine Ans.bind (P:=fun o=>o=((R / b:Nat):Int)) (.of (bind_of (search_ok hb hRb lb lR) rfl) rfl) ?_
   rintro ov rfl
   rw [lenI,h4,chkM_of (by omega) (by omega),Option.bind_some,setM_of (y:=((R / b:Nat):Int)) (by omega) (by rw [h4];omega) rfl,Option.bind_some,show (((L-k-1:Nat):Int)).toNat=L-k-1 by omega]
   have hsl:(q.set (L-k-1) ((R / b:Nat):Int)).length=L:=by rw [List.length_set,h4]
   rw [lenI,hsl,chkM_of (by omega) (by omega),Option.bind_some,idxM_lt (by rw [hsl];omega),Option.bind_some,List.getElem_set_self,by_ok (by omega) hd9,Option.bind_some,minus_ok (by omega) (Nat.mul_div_le R b),Option.bind_some,wrap_in (by omega) (by omega)]
   have e9:R-b*(R / b)=A % b:=by rw [hm];have:=Nat.div_add_mod R b;omega
   rw [e9]
   refine Ans.of (r:=.inl ((((L-k-1:Nat):Int)-1,grp (A % b),q.set (L-k-1) ((R / b:Nat):Int)))) rfl ?_
   refine show k<L∧((L-k-1:Nat):Int)-1=(L:Int)-((k+1:Nat):Int)-1∧grp (A % b)=grp (a / 10000 ^ (L-(k+1)) % b)∧okd (q.set (L-k-1) ((R / b:Nat):Int))∧(q.set (L-k-1) ((R / b:Nat):Int)).length=L ∧
     vl (q.set (L-k-1) ((R / b:Nat):Int))=10000 ^ (L-(k+1))*((a / 10000 ^ (L-(k+1)) / b:Nat):Int)∧∀ j,j<L-(k+1)→(q.set (L-k-1) ((R / b:Nat):Int)).getD j 0=0 from ⟨hkL,by omega,?_,okd_set h3 (nat_int hd9),hsl,?_,fun j hj=>?_⟩
   ·rw [show L-(k+1)=L-k-1 by omega,← hA]
   ·obtain ⟨m,hm'⟩:∃ m,m=L-k-1:=⟨_,rfl⟩
    rw [show L-(k+1)=L-k-1 by omega,← hA,hq,vl_set _ _ _ (by rw [h4];omega),h6 _ (by omega),h5,← hm',show L-k=m+1 by omega,Int.pow_succ,Int.mul_assoc,Int.sub_zero,← Int.mul_add,Int.natCast_add,Int.natCast_mul]
    rfl
   ·rw [List.getD_eq_getElem?_getD,List.getElem?_set_ne (by omega),← List.getD_eq_getElem?_getD]
    exact h6 j (by omega)
  ·have hk':k=L:=by omega
   subst hk'
   rw [Nat.sub_self,Nat.pow_zero,Nat.div_one] at h5 ⊢
   dsimp only
   rw [gtI (by omega),cond_false]
   refine Ans.of (r:=.inr (grp (a % b),q)) rfl ?_
   exact show grp (a % b)=grp (a % b)∧okd q∧q.length=k∧vl q=((a / b:Nat):Int) from ⟨rfl,h3,h4,by rw [h5];omega⟩
 ·rintro ⟨rm,q⟩ ⟨h1,h2,h3,h4⟩
  dsimp only at h1 h2 h3 h4
  have e:=strip_ok h2 (by omega)
  rw [h4] at e
  subst h1
  exact .of (by dsimp only;rw [e];rfl) rfl
theorem sg_sign {nx:Bool} {l:List Int} {x:Int} (h:Sg (nx,l) x):l=grp x.natAbs∧(nx=false→0≤x)∧(nx=true→x≤0):=by
 obtain ⟨h1,h2⟩:=h
 refine ⟨h1,fun e=>?_,fun e=>?_⟩
 ·by_cases h0:x=0
  ·omega
  ·have:=h2 h0
   have e':decide (x<0)=false:=by rw [← this];exact e
   have:=of_decide_eq_false e'
   omega
 ·by_cases h0:x=0
  ·omega
  ·have:=h2 h0
   have e':decide (x<0)=true:=by rw [← this];exact e
   have:=of_decide_eq_true e'
   omega
theorem sg_mk {nx:Bool} {x:Int} (h1:nx=false→0≤x) (h2:nx=true→x≤0):Sg (nx,grp x.natAbs) x:=by
 refine ⟨rfl,fun h0=>?_⟩
 cases nx
 ·exact (decide_eq_false (by have:=h1 rfl;omega)).symm
 ·exact (decide_eq_true (by have:=h2 rfl;omega)).symm
theorem splus_gen {o1 o2:Bool×List Int} {x y:Int} (h1:Sg o1 x) (h2:Sg o2 y) (hx:(grp x.natAbs).length≤400) (hy:(grp y.natAbs).length≤400):Ans (m95 ((o1.1,o1.2),o2.1,o2.2)) fun o=>Sg o (x+y):=by
 obtain ⟨nx,l⟩:=o1
 obtain ⟨ny,m⟩:=o2
 obtain ⟨rfl,a1,a2⟩:=sg_sign h1
 obtain ⟨rfl,b1,b2⟩:=sg_sign h2
 unfold m95
 dsimp only
 by_cases hs:nx=ny
 ·rw [show eqbM nx ny=true from decide_eq_true hs,cond_true,plus_ok (by omega) (by omega),Option.bind_some]
  refine .of rfl ?_
  have e:x.natAbs+y.natAbs=(x+y).natAbs:=by
   subst hs
   cases nx
   ·have:=a1 rfl;have:=b1 rfl;omega
   ·have:=a2 rfl;have:=b2 rfl;omega
  rw [e]
  subst hs
  exact sg_mk (fun e=>by have:=a1 e;have:=b1 e;omega) (fun e=>by have:=a2 e;have:=b2 e;omega)
 ·rw [show eqbM nx ny=false from decide_eq_false hs,cond_false,compare_ok (by omega) (by omega),Option.bind_some,cmp3_pos]
  have hop:(nx=false∧ny=true)∨(nx=true∧ny=false):=by cases nx<;>cases ny<;>simp at hs ⊢
  by_cases hc:y.natAbs≤x.natAbs
  ·rw [decide_eq_true (by omega),cond_true,minus_ok (by omega) hc,Option.bind_some]
   refine .of rfl ?_
   rcases hop with ⟨rfl,rfl⟩ | ⟨rfl,rfl⟩
   ·have:=a1 rfl
    have:=b2 rfl
    rw [show x.natAbs-y.natAbs=(x+y).natAbs by omega]
    exact sg_mk (fun _=>by omega) (fun e=>by cases e)
   ·have:=a2 rfl
    have:=b1 rfl
    rw [show x.natAbs-y.natAbs=(x+y).natAbs by omega]
    exact sg_mk (fun e=>by cases e) (fun _=>by omega)
  ·rw [decide_eq_false (by omega),cond_false,minus_ok (by omega) (by omega),Option.bind_some]
   refine .of rfl ?_
   rcases hop with ⟨rfl,rfl⟩ | ⟨rfl,rfl⟩
   ·have:=a1 rfl
    have:=b2 rfl
    rw [show y.natAbs-x.natAbs=(x+y).natAbs by omega]
    exact sg_mk (fun e=>by cases e) (fun _=>by omega)
   ·have:=a2 rfl
    have:=b1 rfl
    rw [show y.natAbs-x.natAbs=(x+y).natAbs by omega]
    exact sg_mk (fun _=>by omega) (fun e=>by cases e)
theorem sg_of (x:Int):Sg (decide (x<0),grp x.natAbs) x:=⟨rfl,fun _=>rfl⟩
theorem sg_neg (x:Int):Sg (PE.notM (decide (x<0)),grp x.natAbs) (-x):=by
 rw [← Int.natAbs_neg x]
 refine sg_mk (fun e=>?_) (fun e=>?_)
 ·by_cases h:x<0
  ·omega
  ·rw [decide_eq_false h] at e;cases e
 ·by_cases h:x<0
  ·rw [decide_eq_true h] at e;cases e
  ·omega
theorem isub_ok {x y:Int} (hx:Fits x) (hy:Fits y):m108 (itoa x,itoa y)=some (sn (x-y)):=by
 have h1:=fits_len hx
 have h2:=fits_len hy
 have hn:(-y).natAbs=y.natAbs:=Int.natAbs_neg y
 unfold m108
 dsimp only
 rw [both_ok hx hy,Option.bind_some,notT,cond_false]
 refine Ans.is (Ans.bind (splus_gen (sg_of x) (sg_neg y) (by omega) (by rw [hn];omega)) fun o ho=>?_)
 rw [← Int.sub_eq_add_neg] at ho
 rw [show m87 (o.1,o.2)=some (sn (x-y)) from sn_text ho (Nat.le_trans (grp_len_mono (show (x-y).natAbs≤x.natAbs+y.natAbs by omega)) (Nat.le_trans grp_add (by omega)))]
 exact .of rfl rfl
theorem igcd_loop:∀ (N a b:Nat),b≤N→(grp a).length≤400→(grp b).length≤400→loopM (fun (s:List Int×List Int)=>bif ltM 0 (lenM s.2) then (m83
 (s.1,s.2)).bind fun r=>some (Sum.inl (s.2,r.2)) else some (Sum.inr s.1)) (grp a,grp b)=some (grp (Nat.gcd a b))
 | N,a,0,_,la,lb=>by rw [loopM_eq,Nat.gcd_zero_right,grp_zero];rfl
 | 0,a,b+1,h,_,_=>absurd h (by omega)
 | N+1,a,b+1,h,la,lb=>by
  have hlt:=Nat.mod_lt a (show 0<b+1 by omega)
  have ih:=igcd_loop N (b+1) (a % (b+1)) (by omega) lb (Nat.le_trans (grp_len_mono (Nat.le_of_lt hlt)) lb)
  have hl:(grp (b+1)).length≠0:=fun e=>by have:=grp_nil.1 (List.length_eq_zero_iff.1 e);omega
  rw [loopM_eq]
  dsimp only
  rw [ltI (by rw [lenI];omega),cond_true,over_ok (by omega) la lb,Option.bind_some]
  refine Eq.trans ih ?_
  rw [Nat.gcd_comm (b+1),← Nat.gcd_rec,Nat.gcd_comm]
theorem igcd_ok {x y:Int} (hx:Fits x) (hy:Fits y):m81 (itoa x,itoa y)=some (sn ((Nat.gcd x.natAbs y.natAbs:Nat):Int)):=by
 have h1:=fits_len hx
 have h2:=fits_len hy
 have hl:(grp (Nat.gcd x.natAbs y.natAbs)).length≤400:=by
  by_cases h0:x.natAbs=0
  ·rw [h0,Nat.gcd_zero_left];omega
  ·exact Nat.le_trans (grp_len_mono (Nat.le_of_dvd (by omega) (Nat.gcd_dvd_left _ _))) (by omega)
 unfold m81
 dsimp only
 rw [both_ok hx hy,Option.bind_some,notT,cond_false]
 refine bind_of (igcd_loop _ _ _ (Nat.le_refl _) (by omega) (by omega)) ?_
 have hs:Sg (false,grp (Nat.gcd x.natAbs y.natAbs)) ((Nat.gcd x.natAbs y.natAbs:Nat):Int):=by
  have:=sg_mk (nx:=false) (x:=((Nat.gcd x.natAbs y.natAbs:Nat):Int)) (fun _=>by omega) (fun e=>by cases e)
  rwa [Int.natAbs_natCast] at this
 rw [sn_text hs (by rw [Int.natAbs_natCast];exact hl)]
 rfl
end Go.Proofs.YtechphmljdgoaaaGreatDoor
namespace Go.Proofs.YtechphmljdgoaaaGreatDoor
open Go Go.Lib Go.Abs Go.PE Go.Num
theorem ione_ok:m85 ()=some (grp 1):=by
 have e:grp 1=[1]:=by rw [grp_pos (by omega)];simp [grp_zero]
 rw [e];rfl
theorem idiv_ok {x y:Int} (hx:Fits x) (hy:Fits y) (hy0:0<y):m56 (itoa x,itoa y)=some (itoa (x / y),itoa (x % y),0):=by
 have h1:=fits_len hx
 have h2:=fits_len hy
 have hyn:0<y.natAbs:=by omega
 have hyl:(grp y.natAbs).length≠0:=fun e=>by have:=grp_nil.1 (List.length_eq_zero_iff.1 e);omega
 have hm:=Nat.mod_lt x.natAbs hyn
 have hdm:=Nat.div_add_mod x.natAbs y.natAbs
 have hql:(grp (x.natAbs / y.natAbs)).length≤50:=Nat.le_trans (grp_len_mono (Nat.div_le_self _ _)) h1
 have hQle:x.natAbs / y.natAbs≤x.natAbs:=Nat.div_le_self _ _
 have hyd:decide (y<0)=false:=decide_eq_false (by omega)
 unfold m56
 dsimp only
 rw [both_ok hx hy,Option.bind_some,notT,orF,neI (show lenM (grp y.natAbs)≠0 by rw [lenI];omega),cond_false,over_ok hyn (by omega) (by omega),Option.bind_some,hyd]
 generalize x.natAbs / y.natAbs=Q at *
 generalize x.natAbs % y.natAbs=R at *
 have hmul:((y.natAbs*(Q):Nat):Int)=y*((Q:Nat):Int):=by rw [Int.natCast_mul];congr 1;omega
 by_cases hxn:x<0
 ·rw [decide_eq_true hxn,andT]
  by_cases hr:R=0
  ·have e:x / y=-((Q:Nat):Int)∧x % y=0:=(Int.ediv_emod_unique hy0).2 ⟨by rw [Int.mul_neg,← hmul];omega,Int.le_refl _,hy0⟩
   rw [hr,grp_zero,geI (by rw [lenI];simp),cond_false,Option.bind_some]
   have t1:=sn_text (o:=(true,grp (Q))) (z:=x / y) (by rw [e.1];have:=sg_mk (nx:=true) (x:=-((Q:Nat):Int)) (fun e=>by cases e) (fun _=>by omega);rwa [Int.natAbs_neg,Int.natAbs_natCast] at this) (by rw [e.1,Int.natAbs_neg,Int.natAbs_natCast];omega)
   have f1:Fits (x / y):=by rw [e.1];unfold Fits;rw [Int.natAbs_neg,Int.natAbs_natCast];exact Nat.lt_of_le_of_lt hQle hx
   have t2:=sn_text (o:=(false,grp 0)) (z:=(0:Int)) ⟨rfl,fun h=>absurd rfl h⟩ (by rw [show (0:Int).natAbs=0 from rfl,grp_zero];simp)
   rw [grp_zero] at t2
   have g1:sn (x / y)=(itoa (x / y),0):=if_pos f1
   have g2:sn 0=(itoa 0,0):=if_pos (by decide)
   dsimp only
   rw [show PE.notM (eqbM true false)=true from rfl,t1,g1,Option.bind_some,eqI rfl,notT,cond_false,t2,g2,Option.bind_some,e.2]
  ·have hrl:(grp (R)).length≠0:=fun e=>hr (grp_nil.1 (List.length_eq_zero_iff.1 e))
   have e:x / y=-((Q+1:Nat):Int)∧x % y=((y.natAbs-R:Nat):Int):=(Int.ediv_emod_unique hy0).2 ⟨by
    rw [Int.mul_neg,Int.natCast_add,Int.mul_add,← hmul];omega,by omega,by omega⟩
   have hq1:Q+1≤x.natAbs:=by
    have h3:Q*y.natAbs+R=x.natAbs:=by rw [Nat.mul_comm];exact hdm
    have h4:Q≤Q*y.natAbs:=Nat.le_mul_of_pos_right _ hyn
    omega
   rw [ltI (show 0<lenM (grp R) by rw [lenI];omega),cond_true,ione_ok,Option.bind_some,plus_ok (by omega) (by rw [show grp 1=[1] from by rw [grp_pos (by omega)];simp [grp_zero]];simp),Option.bind_some,minus_ok (by omega) (Nat.le_of_lt hm),Option.bind_some,Option.bind_some]
   have t1:=sn_text (o:=(true,grp (Q+1))) (z:=x / y) (by rw [e.1];have:=sg_mk (nx:=true) (x:=-((Q+1:Nat):Int)) (fun e=>by cases e) (fun _=>by omega);rwa [Int.natAbs_neg,Int.natAbs_natCast] at this) (by rw [e.1,Int.natAbs_neg,Int.natAbs_natCast];exact Nat.le_trans (grp_len_mono hq1) (by omega))
   have f1:Fits (x / y):=by rw [e.1];unfold Fits;rw [Int.natAbs_neg,Int.natAbs_natCast];exact Nat.lt_of_le_of_lt hq1 hx
   have t2:=sn_text (o:=(false,grp (y.natAbs-R))) (z:=x % y) (by rw [e.2];have:=sg_mk (nx:=false) (x:=((y.natAbs-R:Nat):Int)) (fun _=>by omega) (fun e=>by cases e);rwa [Int.natAbs_natCast] at this) (by rw [e.2,Int.natAbs_natCast];exact Nat.le_trans (grp_len_mono (Nat.sub_le _ _)) (by omega))
   have f2:Fits (x % y):=by rw [e.2];unfold Fits;rw [Int.natAbs_natCast];exact Nat.lt_of_le_of_lt (Nat.sub_le _ _) hy
   have g1:sn (x / y)=(itoa (x / y),0):=if_pos f1
   have g2:sn (x % y)=(itoa (x % y),0):=if_pos f2
   dsimp only
   rw [show PE.notM (eqbM true false)=true from rfl,t1,g1,Option.bind_some,eqI rfl,notT,cond_false,t2,g2,Option.bind_some]
 ·have e:x / y=((Q:Nat):Int)∧x % y=((R:Nat):Int):=(Int.ediv_emod_unique hy0).2 ⟨by rw [← hmul];omega,by omega,by omega⟩
  rw [decide_eq_false hxn,andF,cond_false,Option.bind_some]
  have t1:=sn_text (o:=(false,grp (Q))) (z:=x / y) (by rw [e.1];have:=sg_mk (nx:=false) (x:=((Q:Nat):Int)) (fun _=>by omega) (fun e=>by cases e);rwa [Int.natAbs_natCast] at this) (by rw [e.1,Int.natAbs_natCast];omega)
  have f1:Fits (x / y):=by rw [e.1];unfold Fits;rw [Int.natAbs_natCast];exact Nat.lt_of_le_of_lt hQle hx
  have t2:=sn_text (o:=(false,grp (R))) (z:=x % y) (by rw [e.2];have:=sg_mk (nx:=false) (x:=((R:Nat):Int)) (fun _=>by omega) (fun e=>by cases e);rwa [Int.natAbs_natCast] at this) (by rw [e.2,Int.natAbs_natCast];exact Nat.le_trans (grp_len_mono (Nat.le_of_lt hm)) (by omega))
  have f2:Fits (x % y):=by rw [e.2];unfold Fits;rw [Int.natAbs_natCast];exact Nat.lt_trans hm hy
  have g1:sn (x / y)=(itoa (x / y),0):=if_pos f1
  have g2:sn (x % y)=(itoa (x % y),0):=if_pos f2
  dsimp only
  rw [show PE.notM (eqbM false false)=false from rfl,t1,g1,Option.bind_some,eqI rfl,notT,cond_false,t2,g2,Option.bind_some]
end Go.Proofs.YtechphmljdgoaaaGreatDoor
namespace Go.Proofs.YtechphmljdgoaaaGreatDoor
open Go Go.Lib Go.Abs Go.PE Go.Num
def rt (q:Rat):List UInt8×List UInt8:=(itoa q.num,itoa (q.den:Int))
def FitsR (q:Rat):Prop:=Fits q.num∧Fits (q.den:Int)
noncomputable def redE (n d:List UInt8) (bad:Bool):Option ((List UInt8×List UInt8)×Int) :=
 (bif PE.orM bad (eqsM d [(48:UInt8)]) then some ([],[],40,bad) else ((m57 (d,[(48:UInt8)])).bind fun r=>bif ltM r 0 then (bif bad then some ([],bad) else (m108 ([(48:UInt8)],
 n)).bind fun r=>some (r.1,PE.notM (eqM r.2 0))).bind fun (ov_4:List UInt8×Bool)=>(bif ov_4.2 then some ([],ov_4.2) else (m108 ([(48:UInt8)],
 d)).bind fun r=>some (r.1,PE.notM (eqM r.2 0))).bind fun (ov:List UInt8×Bool)=>some (ov_4.1,ov.1,ov.2) else some (n,d,
 bad)).bind fun o_1=>(bif o_1.2.2 then some ([],o_1.2.2) else (m81 (o_1.1,o_1.2.1)).bind fun r=>some (r.1,PE.notM (eqM r.2 0))).bind fun (ov_4 :
 List UInt8×Bool)=>(bif ov_4.2 then some ([],ov_4.2) else (m133 (o_1.1,ov_4.1)).bind fun r=>some (r.1,PE.notM (eqM r.2 0))).bind fun (ov_5:List
 UInt8×Bool)=>(bif ov_5.2 then some ([],ov_5.2) else (m133 (o_1.2.1,ov_4.1)).bind fun r=>some (r.1,PE.notM (eqM r.2 0))).bind fun (ov:List UInt8 ×
 Bool)=>bif ov.2 then some ([],[],40,ov.2) else some (ov_5.1,ov.1,0,ov.2)).bind fun (ov:List UInt8×List UInt8×Int×Bool)=>some ((ov.1,
 ov.2.1),ov.2.2.1)
theorem sn_fit {z:Int} (h:Fits z):sn z=(itoa z,0):=if_pos h
theorem fits_neg {z:Int} (h:Fits z):Fits (-z):=by unfold Fits at *;rwa [Int.natAbs_neg]
theorem fits_zero:Fits 0:=by decide
theorem quot_ok {x y:Int} (hx:Fits x) (hy:Fits y) (hy0:0<y):m133 (itoa x,itoa y)=some (itoa (x / y),0):=by
 unfold m133
 dsimp only
 rw [idiv_ok hx hy hy0];rfl
theorem redE_pos {n d:Int} (hn:Fits n) (hd:Fits d) (h0:0<d):(bif false then some (([]:List UInt8),false) else (m81 (itoa n,itoa d)).bind fun r=>some (r.1,PE.notM (eqM r.2 0)))=some (itoa ((Int.gcd d n:Nat):Int),false):=by
 have hg:Fits ((Nat.gcd n.natAbs d.natAbs:Nat):Int):=by
  unfold Fits
  rw [Int.natAbs_natCast]
  exact Nat.lt_of_le_of_lt (Nat.le_of_dvd (by omega) (Nat.gcd_dvd_right _ _)) hd
 rw [cond_false,igcd_ok hn hd,Option.bind_some,sn_fit hg,eqI rfl,notT,Nat.gcd_comm];rfl
theorem redE_ok {n d:Int} (hn:Fits n) (hd:Fits d) (h0:d≠0):redE (itoa n) (itoa d) false=some (rt (Rat.divInt n d),0):=by
 have hq:(Rat.divInt n d).num=d.sign*n / ((Int.gcd d n:Nat):Int)∧(((Rat.divInt n d).den:Nat):Int)=d.sign*d / ((Int.gcd d n:Nat):Int):=by
  refine ⟨Rat.num_divInt n d,?_⟩
  have hsn:d.sign*d=(d.natAbs:Int):=by
   by_cases h:d<0
   ·rw [Int.sign_eq_neg_one_of_neg h];omega
   ·rw [Int.sign_eq_one_of_pos (by omega)];omega
  rw [Rat.den_divInt,if_neg h0,hsn,Int.natCast_ediv]
 have hgp:(0:Int)<((Int.gcd d n:Nat):Int):=by
  have:=Int.gcd_pos_of_ne_zero_left n h0
  omega
 have hgf:Fits ((Int.gcd d n:Nat):Int):=by
  unfold Fits
  rw [Int.natAbs_natCast]
  exact Nat.lt_of_le_of_lt (Nat.le_of_dvd (by omega) (Nat.gcd_dvd_left _ _)) hd
 unfold redE rt
 rw [eqsF (fun e=>h0 (itoa_eq0.1 e)),orF,cond_false,← itoa_zero,icmp_ok hd fits_zero,Option.bind_some]
 by_cases hneg:d<0
 ·have hs:d.sign=-1:=Int.sign_eq_neg_one_of_neg hneg
  have e1:ltM (cmp3 d 0) 0=true:=by unfold cmp3;rw [if_pos hneg];rfl
  rw [e1,cond_true,cond_false,isub_ok fits_zero hn,Option.bind_some,Int.zero_sub,sn_fit (fits_neg hn),eqI rfl,notT,Option.bind_some,cond_false,isub_ok fits_zero hd,Option.bind_some,Int.zero_sub,sn_fit (fits_neg hd),eqI rfl,notT,Option.bind_some,Option.bind_some]
  dsimp only
  rw [redE_pos (fits_neg hn) (fits_neg hd) (by omega),Option.bind_some]
  have eg:Int.gcd (-d) (-n)=Int.gcd d n:=by unfold Int.gcd;rw [Int.natAbs_neg,Int.natAbs_neg]
  rw [eg,cond_false,quot_ok (fits_neg hn) hgf hgp,Option.bind_some,eqI rfl,notT,Option.bind_some,cond_false,quot_ok (fits_neg hd) hgf hgp,Option.bind_some,eqI rfl,notT,Option.bind_some,cond_false,Option.bind_some,hq.1,hq.2,hs]
  simp only [Int.neg_mul,Int.one_mul]
 ·have hs:d.sign=1:=Int.sign_eq_one_of_pos (by omega)
  have e1:ltM (cmp3 d 0) 0=false:=by unfold cmp3;rw [if_neg hneg,if_pos (by omega)];rfl
  rw [e1,cond_false,Option.bind_some]
  dsimp only
  rw [redE_pos hn hd (by omega),Option.bind_some,cond_false,quot_ok hn hgf hgp,Option.bind_some,eqI rfl,notT,Option.bind_some,cond_false,quot_ok hd hgf hgp,Option.bind_some,eqI rfl,notT,Option.bind_some,cond_false,Option.bind_some,hq.1,hq.2,hs]
  simp only [Int.one_mul]
theorem ivalid2_ok {z:Int} (h:Fits z):m80 (itoa z)=some true:=by
 unfold m80
 rw [ivalid_ok h];rfl
theorem of_ok {n d:Int} (hn:Fits n) (hd:Fits d) (h0:d≠0):m25 (n,d)=some (rt (Rat.divInt n d),0):=by
 unfold m25
 dsimp only
 rw [show m59 n=some (itoa n) from rfl,show m59 d=some (itoa d) from rfl,Option.bind_some,Option.bind_some]
 unfold m58
 dsimp only
 rw [ivalid2_ok hn,Option.bind_some,notT,notF,cond_true,ivalid2_ok hd,Option.bind_some,notT,show PE.orM false false=false from rfl]
 have:=redE_ok hn hd h0
 unfold redE at this
 rw [this];rfl
theorem rvalid_ok {q:Rat} (h:FitsR q):m55 (rt q)=some true:=by
 have hd:(0:Int)<(q.den:Int):=by have:=q.den_nz;omega
 unfold m55 rt
 dsimp only
 rw [ivalid2_ok h.1,Option.bind_some,notT,notF,cond_true,ivalid2_ok h.2,Option.bind_some,notT,orF,notF,cond_true,← itoa_zero,icmp_ok h.2 fits_zero,Option.bind_some,orF]
 have e1:leM (cmp3 (q.den:Int) 0) 0=false:=by unfold cmp3;rw [if_neg (by omega),if_pos hd];rfl
 have hg:Nat.gcd q.num.natAbs (q.den:Int).natAbs=1:=by rw [Int.natAbs_natCast];exact q.reduced
 rw [e1,cond_false,igcd_ok h.1 h.2,Option.bind_some,hg,sn_fit (by decide),eqI rfl,andT,eqsT (by show itoa ((1:Nat):Int)=_;rw [itoa_nn,decDigits_one (by omega)];rfl)]
theorem check_ok {p q:Rat} (hp:FitsR p) (hq:FitsR q):loopM (fun (s:Int×Bool)=>bif ltM s.1 (lenM [((rt p).1,(rt p).2),((rt q).1,(rt q).2)]) then (idxM [((rt p).1,(rt p).2),((rt q).1,(rt q).2)] s.1).bind fun r=>(bif
 PE.notM s.2 then m55 (r.1,r.2) else some false).bind fun r=>some (Sum.inl (IntKind.wrap .i64 (s.1+1),PE.orM s.2 (PE.notM r))) else some (Sum.inr s.2))
 (0,false)=some false:=by
 refine loopM_fn (fun k=>((k:Int),false)) 2 (fun k hk=>?_) rfl
 rcases (show k=0∨k=1 by omega) with rfl | rfl
 ·have:=rvalid_ok hp
  show ((some ((rt p).1,(rt p).2)).bind fun r=>(bif PE.notM false then m55 (r.1,r.2) else some false).bind fun r=>some (Sum.inl (IntKind.wrap .i64 (((0:Nat):Int)+1),PE.orM false (PE.notM r))))=_
  rw [Option.bind_some,notF,cond_true,show m55 ((rt p).1,(rt p).2)=some true from this,Option.bind_some,wrap_in (by omega) (by omega)];rfl
 ·have:=rvalid_ok hq
  show ((some ((rt q).1,(rt q).2)).bind fun r=>(bif PE.notM false then m55 (r.1,r.2) else some false).bind fun r=>some (Sum.inl (IntKind.wrap .i64 (((1:Nat):Int)+1),PE.orM false (PE.notM r))))=_
  rw [Option.bind_some,notF,cond_true,show m55 ((rt q).1,(rt q).2)=some true from this,Option.bind_some,wrap_in (by omega) (by omega)];rfl
theorem radd_ok {p q:Rat} (hp:FitsR p) (hq:FitsR q) (h1:Fits (p.num*q.den)) (h2:Fits (q.num*p.den)) (h3:Fits (p.num*q.den+q.num*p.den)) (h4:Fits ((p.den:Int)*q.den)):m49 (rt p,rt q)=some (rt (p+q),0):=by
 have hd:(p.den:Int)*q.den≠0:=Int.mul_ne_zero (by have:=p.den_nz;omega) (by have:=q.den_nz;omega)
 have e:p+q=Rat.divInt (p.num*q.den+q.num*p.den) ((p.den:Int)*q.den):=by rw [Rat.add_def',← Rat.divInt_ofNat,Int.natCast_mul]
 have key:=redE_ok h3 h4 hd
 unfold m49
 dsimp only
 rw [check_ok hp hq,Option.bind_some,cond_false]
 unfold rt
 dsimp only
 rw [imul_ok hp.1 hq.2,Option.bind_some,sn_fit h1,eqI rfl,notT,Option.bind_some,Option.bind_some,cond_false,imul_ok hq.1 hp.2,Option.bind_some,sn_fit h2,eqI rfl,notT,Option.bind_some,Option.bind_some,cond_false,iadd_ok h1 h2,Option.bind_some,sn_fit h3,eqI rfl,notT,Option.bind_some,cond_false,imul_ok hp.2 hq.2,Option.bind_some,sn_fit h4,eqI rfl,notT,Option.bind_some]
 unfold redE at key
 rw [e]
 exact key
end Go.Proofs.YtechphmljdgoaaaGreatDoor
namespace Go.Proofs.YtechphmljdgoaaaGreatDoor
open Go Go.Lib Go.Abs Go.PE Go.Num
open Go.IntKind (wrap)
end Go.Proofs.YtechphmljdgoaaaGreatDoor
namespace Go.Proofs.YtechphmljdgoaaaGreatDoor
open Go Go.Abs Go.PE Go.Num
open Go.IntKind (wrap)
theorem Dn.fits {D B:Nat} {q:Rat} (h:Dn D B q) (hD:0<D) (h1:D<10 ^ 200) (h2:B*D<10 ^ 200):FitsR q:=by
 obtain ⟨a,b⟩:=h.num_den hD
 refine ⟨Nat.lt_of_le_of_lt b h2,?_⟩
 unfold Fits
 rw [Int.natAbs_natCast]
 exact Nat.lt_of_le_of_lt a h1
theorem Dn.fits2 {D B C:Nat} {q:Rat} (h:Dn D B q) (hD:0<D) (hBC:B≤C) (h2:(C+1)*(D*D)<10 ^ 200):FitsR q:=by
 have h1:D≤(C+1)*(D*D):=Nat.le_trans (Nat.le_mul_of_pos_right D hD) (Nat.le_mul_of_pos_left _ (by omega))
 have h3:B*D≤(C+1)*(D*D):=Nat.mul_le_mul (by omega) (Nat.le_mul_of_pos_right D hD)
 exact h.fits hD (Nat.lt_of_le_of_lt h1 h2) (Nat.lt_of_le_of_lt h3 h2)
theorem radd_dn {D B C E:Nat} {p q:Rat} (hp:Dn D B p) (hq:Dn D C q) (hD:0<D) (hE:B+C≤E) (h2:(E+1)*(D*D)<10 ^ 200):m49 (rt p,rt q)=some (rt (p+q),0):=by
 obtain ⟨a1,a2⟩:=hp.num_den hD
 obtain ⟨b1,b2⟩:=hq.num_den hD
 have m1:p.num.natAbs*q.den≤B*(D*D):=by rw [← Nat.mul_assoc];exact Nat.mul_le_mul a2 b1
 have m2:q.num.natAbs*p.den≤C*(D*D):=by rw [← Nat.mul_assoc];exact Nat.mul_le_mul b2 a1
 have m3:p.den*q.den≤D*D:=Nat.mul_le_mul a1 b1
 have mm:B*(D*D)+C*(D*D)≤E*(D*D):=by rw [← Nat.add_mul];exact Nat.mul_le_mul_right _ hE
 have e:(E+1)*(D*D)=E*(D*D)+D*D:=by rw [Nat.add_mul,Nat.one_mul]
 have e1:(p.num*(q.den:Int)).natAbs=p.num.natAbs*q.den:=by rw [Int.natAbs_mul,Int.natAbs_natCast]
 have e2:(q.num*(p.den:Int)).natAbs=q.num.natAbs*p.den:=by rw [Int.natAbs_mul,Int.natAbs_natCast]
 refine radd_ok (hp.fits2 hD (C:=E) (by omega) h2) (hq.fits2 hD (C:=E) (by omega) h2) ?_ ?_ ?_ ?_
 ·unfold Fits;rw [e1];omega
 ·unfold Fits;rw [e2];omega
 ·unfold Fits
  have:=Int.natAbs_add_le (p.num*(q.den:Int)) (q.num*(p.den:Int))
  omega
 ·unfold Fits;rw [Int.natAbs_mul,Int.natAbs_natCast,Int.natAbs_natCast];omega
theorem fits_small {z:Int} (h:z.natAbs≤1000000000000000000):Fits z:=Nat.lt_of_le_of_lt h (by decide)
end Go.Proofs.YtechphmljdgoaaaGreatDoor
namespace Go.Proofs.YtechphmljdgoaaaGreatDoor
open Go Go.Abs Go.PE Go.Num
open Go.IntKind (wrap)
noncomputable def valE (W:Int) (L:List Int) (ax ay bx by_ cx cy:Int) (q:Spt):Option Int:=(((idxM L (wrap .i64 (wrap .i64 (ay*wrap .i64 (W+1))+ax))).bind fun r=>some r).bind fun (ov_1:Int)=>(m48 ((bx,by_),(cx,
 cy),q.1,q.2.1,q.2.2)).bind fun r_9=>((idxM L (wrap .i64 (wrap .i64 (by_*wrap .i64 (W+1))+bx))).bind fun r=>some r).bind fun (ov_2 :
 Int)=>(m48 ((cx,cy),(ax,ay),q.1,q.2.1,q.2.2)).bind fun r_10=>((idxM L (wrap .i64 (wrap .i64 (cy*wrap .i64 (W+1)) +
 cx))).bind fun r=>some r).bind fun (ov_3:Int)=>(m48 ((ax,ay),(bx,by_),q.1,q.2.1,q.2.2)).bind fun r=>some (wrap .i64 (wrap IntKind.i64
 (wrap .i64 (0+wrap .i64 (ov_1*r_9))+wrap .i64 (ov_2*r_10))+wrap .i64 (ov_3*r))))
noncomputable def fanE (W:Int) (L:List Int) (ax ay bx by_ cx cy:Int) (l:List Spt) (s:List UInt8×List UInt8):Option (List UInt8×List UInt8):=loopM (fun (s_2:Int×List UInt8×List UInt8)=>bif ltM s_2.1 (lenM l) then (chkM 0 (lenM l)).bind fun r_3=>(idxM l 0).bind fun r_4=>(chkM (wrap IntKind.i64
 (s_2.1-1)) (lenM l)).bind fun r_5=>(idxM l (wrap .i64 (s_2.1-1))).bind fun r_6=>(chkM s_2.1 (lenM l)).bind fun r_7=>(idxM l s_2.1).bind fun r_8 =>
 (valE W L ax ay bx by_ cx cy r_4).bind fun (ov_1:Int)=>(valE W L ax ay bx by_ cx cy r_6).bind fun (ov_2:Int)=>(valE W L ax ay bx by_ cx cy r_8).bind fun (ov_3 :
 Int)=>(m25 (wrap .i64 (wrap .i64 (wrap .i64 (wrap .i64 (r_4.1*wrap .i64 (wrap .i64 (r_6.2.1*r_8.2.2)-wrap
 IntKind.i64 (r_6.2.2*r_8.2.1)))-wrap .i64 (r_4.2.1*wrap .i64 (wrap .i64 (r_6.1*r_8.2.2)-wrap .i64 (r_6.2.2*r_8.1))))+wrap
 IntKind.i64 (r_4.2.2*wrap .i64 (wrap .i64 (r_6.1*r_8.2.1)-wrap .i64 (r_6.2.1*r_8.1))))*wrap .i64 (wrap .i64 (wrap
 IntKind.i64 (wrap .i64 (ov_1*r_6.2.2)*r_8.2.2)+wrap .i64 (wrap .i64 (ov_2*r_4.2.2)*r_8.2.2))+wrap .i64 (wrap .i64 (ov_3 *
 r_4.2.2)*r_6.2.2))),wrap .i64 (wrap .i64 (6*wrap .i64 (wrap .i64 (r_4.2.2*r_6.2.2)*r_8.2.2))*wrap .i64 (wrap IntKind.i64
 (r_4.2.2*r_6.2.2)*r_8.2.2)))).bind fun r_9=>(m49 ((s_2.2.1,s_2.2.2),r_9.1.1,r_9.1.2)).bind fun r=>some (Sum.inl (wrap .i64 (s_2.1+1),
 r.1.1,r.1.2)) else some (Sum.inr (s_2.2.1,s_2.2.2))) (2,s.1,s.2)
structure Trg (W H:Nat) (ax ay bx by_ cx cy:Int):Prop where
 ab:Nod ax ay bx by_
 bc:Nod bx by_ cx cy
 ca:Nod cx cy ax ay
 a:0≤ax∧ax≤W∧0≤ay∧ay≤H
 b:0≤bx∧bx≤W∧0≤by_∧by_≤H
 c:0≤cx∧cx≤W∧0≤cy∧cy≤H
 nab:¬ (ax=bx∧ay=by_)
 nbc:¬ (bx=cx∧by_=cy)
 nca:¬ (cx=ax∧cy=ay)
def valQ (A B C:Spt) (va vb vc:Int) (q:Spt):Int:=va*lev A q+vb*lev B q+vc*lev C q
def wV (A B C:Spt) (va vb vc:Int):Rat×Rat×Rat:=((va:Rat)*(A.1:Rat)+(vb:Rat)*(B.1:Rat)+(vc:Rat)*(C.1:Rat),(va:Rat)*(A.2.1:Rat)+(vb:Rat)*(B.2.1:Rat)+(vc:Rat)*(C.2.1:Rat),(va:Rat)*(A.2.2:Rat)+(vb:Rat)*(B.2.2:Rat)+(vc:Rat)*(C.2.2:Rat))
theorem val_vl (A B C:Spt) (va vb vc:Int) {q:Spt} (h:0<q.2.2):((valQ A B C va vb vc q:Int):Rat)=(q.2.2:Rat)*vlq (wV A B C va vb vc) (rp q):=by
 unfold valQ
 simp only [Rat.intCast_add,Rat.intCast_mul]
 rw [lev_lv A h,lev_lv B h,lev_lv C h]
 unfold vlq wV lv
 grind
theorem val_term {v z:Int} (hv:0≤v∧v≤100) (hz:-144≤z∧z≤144):-14400≤v*z∧v*z≤14400:=by
 have a:=Int.mul_le_mul_of_nonneg_left hz.2 hv.1
 have b:=Int.mul_le_mul_of_nonneg_left hz.1 hv.1
 omega
theorem valQ_bd {W H:Nat} {ax ay bx by_ cx cy:Int} (T:Trg W H ax ay bx by_ cx cy) {va vb vc:Int} (ha:0≤va∧va≤100) (hb:0≤vb∧vb≤100) (hc:0≤vc∧vc≤100) {q:Spt} (hq:Bx q) :
  -43200≤valQ (lineF bx by_ cx cy) (lineF cx cy ax ay) (lineF ax ay bx by_) va vb vc q∧valQ (lineF bx by_ cx cy) (lineF cx cy ax ay) (lineF ax ay bx by_) va vb vc q≤43200:=by
 have t1:=val_term ha (lev_bd T.bc hq)
 have t2:=val_term hb (lev_bd T.ca hq)
 have t3:=val_term hc (lev_bd T.ab hq)
 unfold valQ
 omega
theorem valE_ok {W H:Nat} {v:Nat→Int} (h:OkV W H v) {ax ay bx by_ cx cy:Int} (T:Trg W H ax ay bx by_ cx cy) {q:Spt} (hq:Bx q) :
  valE W (row (nn W H) v) ax ay bx by_ cx cy q=some (valQ (lineF bx by_ cx cy) (lineF cx cy ax ay) (lineF ax ay bx by_) (nv W v ax ay) (nv W v bx by_) (nv W v cx cy) q):=by
 obtain ⟨a0,a1,a2,a3⟩:=T.a
 obtain ⟨b0,b1,b2,b3⟩:=T.b
 obtain ⟨c0,c1,c2,c3⟩:=T.c
 have t1:=val_term (nv_bd h a0 a1 a2 a3) (lev_bd T.bc hq)
 have t2:=val_term (nv_bd h b0 b1 b2 b3) (lev_bd T.ca hq)
 have t3:=val_term (nv_bd h c0 c1 c2 c3) (lev_bd T.ab hq)
 unfold valE valQ
 rw [node_ok h.w6 h.h6 a0 a1 a2 a3,Option.bind_some,Option.bind_some,left_ok T.bc hq,Option.bind_some,node_ok h.w6 h.h6 b0 b1 b2 b3,Option.bind_some,Option.bind_some,left_ok T.ca hq,Option.bind_some,node_ok h.w6 h.h6 c0 c1 c2 c3,Option.bind_some,Option.bind_some,left_ok T.ab hq,Option.bind_some]
 generalize nv W v ax ay*lev (lineF bx by_ cx cy) q=x at *
 generalize nv W v bx by_*lev (lineF cx cy ax ay) q=y at *
 generalize nv W v cx cy*lev (lineF ax ay bx by_) q=z at *
 rw [wrap_in (n:=x) (by omega) (by omega),wrap_in (n:=y) (by omega) (by omega),wrap_in (n:=z) (by omega) (by omega),Int.zero_add,wrap_in (n:=x) (by omega) (by omega),wrap_in (n:=x+y) (by omega) (by omega),wrap_in (n:=x+y+z) (by omega) (by omega)]
def MM:Nat:=27720*27720*27720
def DO:Nat:=6*MM*MM
theorem DO_pos:0<DO:=by decide
theorem DO_fit:(1000000000000000000+1)*(DO*DO)<10 ^ 200:=by decide
theorem d12_dvd:∀ x:Nat,x<13→0<x→27720 % x=0:=by decide
theorem dd_dvd {x y z:Int} (hx:0<x∧x≤12) (hy:0<y∧y≤12) (hz:0<z∧z≤12):6*(x*y*z)*(x*y*z) ∣ (DO:Int):=by
 have d:∀ z:Int,0<z∧z≤12→z ∣ (27720:Int):=fun z h=>by
  have:=d12_dvd z.toNat (by omega) (by omega)
  have h3:((z.toNat:Nat):Int) ∣ ((27720:Nat):Int):=Int.natCast_dvd_natCast.2 (Nat.dvd_of_mod_eq_zero this)
  rwa [show ((z.toNat:Nat):Int)=z by omega] at h3
 have e:x*y*z ∣ (MM:Int):=Int.mul_dvd_mul (Int.mul_dvd_mul (d x hx) (d y hy)) (d z hz)
 exact Int.mul_dvd_mul (Int.mul_dvd_mul (Int.dvd_refl 6) e) e
theorem small_mul {x y A B:Int} (hx:0≤x∧x≤A) (hy:-B≤y∧y≤B) (hB:0≤B):-(A*B)≤x*y∧x*y≤A*B:=by
 have a:=Int.mul_le_mul_of_nonneg_left hy.2 hx.1
 have b:=Int.mul_le_mul_of_nonneg_left hy.1 hx.1
 have c:=Int.mul_le_mul_of_nonneg_right hx.2 hB
 rw [Int.mul_neg] at b
 omega
theorem term_rat {A B C:Spt} {va vb vc:Int} {p q r:Spt} (hp:0<p.2.2) (hq:0<q.2.2) (hr:0<r.2.2) :
  Rat.divInt (dt3 p q r*(valQ A B C va vb vc p*q.2.2*r.2.2+valQ A B C va vb vc q*p.2.2*r.2.2+valQ A B C va vb vc r*p.2.2*q.2.2)) (6*(p.2.2*q.2.2*r.2.2)*(p.2.2*q.2.2*r.2.2))=phi (wV A B C va vb vc) (rp p) (rp q) (rp r):=by
 rw [Rat.divInt_eq_div]
 simp only [Rat.intCast_mul,Rat.intCast_add]
 rw [dt3_dtr hp hq hr,val_vl _ _ _ _ _ _ hp,val_vl _ _ _ _ _ _ hq,val_vl _ _ _ _ _ _ hr,show ((6:Int):Rat)=6 from rfl]
 obtain ⟨_,_,p3⟩:=rp_mul hp
 obtain ⟨_,_,q3⟩:=rp_mul hq
 obtain ⟨_,_,r3⟩:=rp_mul hr
 unfold phi
 generalize dtr (rp p) (rp q) (rp r)=t
 generalize vlq (wV A B C va vb vc) (rp p)=x
 generalize vlq (wV A B C va vb vc) (rp q)=y
 generalize vlq (wV A B C va vb vc) (rp r)=z
 generalize (p.2.2:Rat)=a at *
 generalize (q.2.2:Rat)=b at *
 generalize (r.2.2:Rat)=c at *
 have m:=Rat.mul_pos (Rat.mul_pos p3 q3) r3
 have m2:=Rat.mul_pos m m
 have e:=qdiv_mul (n:=a*b*c*t*(a*x*b*c+b*y*a*c+c*z*a*b)) (d:=6*(a*b*c)*(a*b*c)) (by grind)
 generalize a*b*c*t*(a*x*b*c+b*y*a*c+c*z*a*b) / (6*(a*b*c)*(a*b*c))=u at *
 refine qcancel (a:=6*(a*b*c)*(a*b*c)) (by grind) ?_
 grind
theorem fan_step {W H:Nat} {v:Nat→Int} (h:OkV W H v) {ax ay bx by_ cx cy:Int} (T:Trg W H ax ay bx by_ cx cy) {p q r:Spt} (hp:Bx p) (hq:Bx q) (hr:Bx r) {B:Nat} {acc:Rat} (hB:B≤100000000000000000) (hacc:Dn DO B acc) {i:Int} (i0:0≤i) (i1:i≤1000) :
  ((valE W (row (nn W H) v) ax ay bx by_ cx cy p).bind fun (ov_1:Int)=>(valE W (row (nn W H) v) ax ay bx by_ cx cy q).bind fun (ov_2:Int)=>(valE W (row (nn W H) v) ax ay bx by_ cx cy r).bind fun (ov_3 :
 Int)=>(m25 (wrap .i64 (wrap .i64 (wrap .i64 (wrap .i64 (p.1*wrap .i64 (wrap .i64 (q.2.1*r.2.2)-wrap
 IntKind.i64 (q.2.2*r.2.1)))-wrap .i64 (p.2.1*wrap .i64 (wrap .i64 (q.1*r.2.2)-wrap .i64 (q.2.2*r.1))))+wrap
 IntKind.i64 (p.2.2*wrap .i64 (wrap .i64 (q.1*r.2.1)-wrap .i64 (q.2.1*r.1))))*wrap .i64 (wrap .i64 (wrap
 IntKind.i64 (wrap .i64 (ov_1*q.2.2)*r.2.2)+wrap .i64 (wrap .i64 (ov_2*p.2.2)*r.2.2))+wrap .i64 (wrap .i64 (ov_3 *
 p.2.2)*q.2.2))),wrap .i64 (wrap .i64 (6*wrap .i64 (wrap .i64 (p.2.2*q.2.2)*r.2.2))*wrap .i64 (wrap IntKind.i64
 (p.2.2*q.2.2)*r.2.2)))).bind fun r_9=>(m49 (((rt acc).1,(rt acc).2),r_9.1.1,r_9.1.2)).bind fun r=>some (Sum.inl (α:=Int×List UInt8×List UInt8) (β:=List UInt8×List UInt8) (wrap .i64 (i+1),r.1.1,r.1.2))) =
  some (.inl (i+1,rt (acc+phi (wV (lineF bx by_ cx cy) (lineF cx cy ax ay) (lineF ax ay bx by_) (nv W v ax ay) (nv W v bx by_) (nv W v cx cy)) (rp p) (rp q) (rp r))))∧Dn DO (B+4000000000000) (acc+phi (wV (lineF bx by_ cx cy) (lineF cx cy ax ay) (lineF ax ay bx by_) (nv W v ax ay) (nv W v bx by_) (nv W v cx cy)) (rp p) (rp q) (rp r)):=by
 obtain ⟨a0,a1,a2,a3⟩:=T.a
 obtain ⟨b0,b1,b2,b3⟩:=T.b
 obtain ⟨c0,c1,c2,c3⟩:=T.c
 have na:=nv_bd h a0 a1 a2 a3
 have nb:=nv_bd h b0 b1 b2 b3
 have nc:=nv_bd h c0 c1 c2 c3
 have v1:=valQ_bd T na nb nc hp
 have v2:=valQ_bd T na nb nc hq
 have v3:=valQ_bd T na nb nc hr
 have et:=term_rat (A:=lineF bx by_ cx cy) (B:=lineF cx cy ax ay) (C:=lineF ax ay bx by_) (va:=nv W v ax ay) (vb:=nv W v bx by_) (vc:=nv W v cx cy) hp.2.2.2.2.1 hq.2.2.2.2.1 hr.2.2.2.2.1
 rw [valE_ok h T hp,Option.bind_some,valE_ok h T hq,Option.bind_some,valE_ok h T hr,Option.bind_some,← et]
 generalize valQ (lineF bx by_ cx cy) (lineF cx cy ax ay) (lineF ax ay bx by_) (nv W v ax ay) (nv W v bx by_) (nv W v cx cy) p=x at *
 generalize valQ (lineF bx by_ cx cy) (lineF cx cy ax ay) (lineF ax ay bx by_) (nv W v ax ay) (nv W v bx by_) (nv W v cx cy) q=y at *
 generalize valQ (lineF bx by_ cx cy) (lineF cx cy ax ay) (lineF ax ay bx by_) (nv W v ax ay) (nv W v bx by_) (nv W v cx cy) r=z at *
 clear et
 obtain ⟨px,py,pd⟩:=p
 obtain ⟨qx,qy,qd⟩:=q
 obtain ⟨rx,ry,rd⟩:=r
 obtain ⟨p0,p1,p2,p3,p4,p5⟩:=hp
 obtain ⟨q0,q1,q2,q3,q4,q5⟩:=hq
 obtain ⟨r0,r1,r2,r3,r4,r5⟩:=hr
 dsimp only at *
 have s1:=prod_bd (a:=qy) (b:=rd) (A:=72) (B:=12) q2 q3 (by omega) r5
 have s2:=prod_bd (a:=qd) (b:=ry) (A:=12) (B:=72) (by omega) q5 r2 r3
 have s3:=prod_bd (a:=qx) (b:=rd) (A:=72) (B:=12) q0 q1 (by omega) r5
 have s4:=prod_bd (a:=qd) (b:=rx) (A:=12) (B:=72) (by omega) q5 r0 r1
 have s5:=prod_bd (a:=qx) (b:=ry) (A:=72) (B:=72) q0 q1 r2 r3
 have s6:=prod_bd (a:=qy) (b:=rx) (A:=72) (B:=72) q2 q3 r0 r1
 have u1:=small_mul (x:=px) (y:=qy*rd-qd*ry) (A:=72) (B:=864) ⟨p0,p1⟩ (by omega) (by omega)
 have u2:=small_mul (x:=py) (y:=qx*rd-qd*rx) (A:=72) (B:=864) ⟨p2,p3⟩ (by omega) (by omega)
 have u3:=small_mul (x:=pd) (y:=qx*ry-qy*rx) (A:=12) (B:=5184) ⟨by omega,p5⟩ (by omega) (by omega)
 have d1:=prod_bd (a:=pd) (b:=qd) (A:=12) (B:=12) (by omega) p5 (by omega) q5
 have d1p:=Int.mul_pos p4 q4
 have d2:=prod_bd (a:=pd*qd) (b:=rd) (A:=144) (B:=12) d1.1 (by omega) (by omega) r5
 have d2p:=Int.mul_pos d1p r4
 have d3:=prod_bd (a:=6*(pd*qd*rd)) (b:=pd*qd*rd) (A:=10368) (B:=1728) (by omega) (by omega) (by omega) (by omega)
 have d3p:=Int.mul_pos (show 0<6*(pd*qd*rd) by omega) d2p
 have w1:=small_mul (x:=qd) (y:=x) (A:=12) (B:=43200) ⟨by omega,q5⟩ (by omega) (by omega)
 rw [Int.mul_comm qd x] at w1
 have w1':=small_mul (x:=rd) (y:=x*qd) (A:=12) (B:=518400) ⟨by omega,r5⟩ (by omega) (by omega)
 rw [Int.mul_comm rd (x*qd)] at w1'
 have w2:=small_mul (x:=pd) (y:=y) (A:=12) (B:=43200) ⟨by omega,p5⟩ (by omega) (by omega)
 rw [Int.mul_comm pd y] at w2
 have w2':=small_mul (x:=rd) (y:=y*pd) (A:=12) (B:=518400) ⟨by omega,r5⟩ (by omega) (by omega)
 rw [Int.mul_comm rd (y*pd)] at w2'
 have w3:=small_mul (x:=pd) (y:=z) (A:=12) (B:=43200) ⟨by omega,p5⟩ (by omega) (by omega)
 rw [Int.mul_comm pd z] at w3
 have w3':=small_mul (x:=qd) (y:=z*pd) (A:=12) (B:=518400) ⟨by omega,q5⟩ (by omega) (by omega)
 rw [Int.mul_comm qd (z*pd)] at w3'
 have hdv:=dd_dvd (x:=pd) (y:=qd) (z:=rd) ⟨p4,p5⟩ ⟨q4,q5⟩ ⟨r4,r5⟩
 rw [wrap_in (n:=qy*rd) (by omega) (by omega),wrap_in (n:=qd*ry) (by omega) (by omega),wrap_in (n:=qx*rd) (by omega) (by omega),wrap_in (n:=qd*rx) (by omega) (by omega),wrap_in (n:=qx*ry) (by omega) (by omega),wrap_in (n:=qy*rx) (by omega) (by omega),
  wrap_in (n:=qy*rd-qd*ry) (by omega) (by omega),wrap_in (n:=qx*rd-qd*rx) (by omega) (by omega),wrap_in (n:=qx*ry-qy*rx) (by omega) (by omega),wrap_in (n:=px*_) (by omega) (by omega),wrap_in (n:=py*_) (by omega) (by omega),wrap_in (n:=pd*(qx*ry-qy*rx)) (by omega) (by omega),
  wrap_in (n:=px*(qy*rd-qd*ry)-py*(qx*rd-qd*rx)) (by omega) (by omega),wrap_in (n:=px*(qy*rd-qd*ry)-py*(qx*rd-qd*rx)+pd*(qx*ry-qy*rx)) (by omega) (by omega),
  wrap_in (n:=x*qd) (by omega) (by omega),wrap_in (n:=x*qd*rd) (by omega) (by omega),wrap_in (n:=y*pd) (by omega) (by omega),wrap_in (n:=y*pd*rd) (by omega) (by omega),wrap_in (n:=z*pd) (by omega) (by omega),wrap_in (n:=z*pd*qd) (by omega) (by omega),wrap_in (n:=x*qd*rd+y*pd*rd) (by omega) (by omega),wrap_in (n:=x*qd*rd+y*pd*rd+z*pd*qd) (by omega) (by omega),
  wrap_in (n:=pd*qd) (by omega) (by omega),wrap_in (n:=pd*qd*rd) (by omega) (by omega),wrap_in (n:=6*(pd*qd*rd)) (by omega) (by omega),wrap_in (n:=6*(pd*qd*rd)*(pd*qd*rd)) (by omega) (by omega)]
 show _∧Dn DO _ (acc+Rat.divInt ((px*(qy*rd-qd*ry)-py*(qx*rd-qd*rx)+pd*(qx*ry-qy*rx))*(x*qd*rd+y*pd*rd+z*pd*qd)) (6*(pd*qd*rd)*(pd*qd*rd)))
 have ed:dt3 (px,py,pd) (qx,qy,qd) (rx,ry,rd)=px*(qy*rd-qd*ry)-py*(qx*rd-qd*rx)+pd*(qx*ry-qy*rx):=rfl
 rw [ed]
 have hab:-186624≤px*(qy*rd-qd*ry)-py*(qx*rd-qd*rx)+pd*(qx*ry-qy*rx)∧px*(qy*rd-qd*ry)-py*(qx*rd-qd*rx)+pd*(qx*ry-qy*rx)≤186624:=by omega
 generalize px*(qy*rd-qd*ry)-py*(qx*rd-qd*rx)+pd*(qx*ry-qy*rx)=ar at *
 generalize hS:x*qd*rd+y*pd*rd+z*pd*qd=S at *
 generalize 6*(pd*qd*rd)*(pd*qd*rd)=D at *
 have har:ar.natAbs≤186624:=by omega
 have hS2:S.natAbs≤18662400:=by omega
 have hnum:(ar*S).natAbs≤4000000000000:=by rw [Int.natAbs_mul];exact Nat.le_trans (Nat.mul_le_mul har hS2) (by decide)
 have dn:=Dn.of (D:=DO) (B:=4000000000000) (n:=ar*S) (d:=D) (by omega) hdv (Nat.le_trans hnum (Nat.le_mul_of_pos_right _ (by omega)))
 rw [wrap_in (n:=ar*S) (by omega) (by omega),of_ok (fits_small (by omega)) (fits_small (by omega)) (by omega),Option.bind_some]
 refine ⟨?_,hacc.add dn⟩
 refine bind_of (x:=(rt (acc+Rat.divInt (ar*S) D),0)) (radd_dn hacc dn DO_pos (E:=1000000000000000000) (by omega) DO_fit) ?_
 rw [wrap_in (by omega) (by omega)]
theorem fanE_ok {W H:Nat} {v:Nat→Int} (h:OkV W H v) {ax ay bx by_ cx cy:Int} (T:Trg W H ax ay bx by_ cx cy) {l:List Spt} (hl:∀ x∈l,Bx x) (hlen:l.length≤64) {B:Nat} {acc:Rat} (hB:B≤50000000000000000) (hacc:Dn DO B acc) :
  fanE W (row (nn W H) v) ax ay bx by_ cx cy l (rt acc)=some (rt (acc+fan (wV (lineF bx by_ cx cy) (lineF cx cy ax ay) (lineF ax ay bx by_) (nv W v ax ay) (nv W v bx by_) (nv W v cx cy)) l))∧Dn DO (B+300000000000000) (acc+fan (wV (lineF bx by_ cx cy) (lineF cx cy ax ay) (lineF ax ay bx by_) (nv W v ax ay) (nv W v bx by_) (nv W v cx cy)) l):=by
 obtain ⟨f,hf⟩:∃ f:Nat→Rat,f=fun i=>phi (wV (lineF bx by_ cx cy) (lineF cx cy ax ay) (lineF ax ay bx by_) (nv W v ax ay) (nv W v bx by_) (nv W v cx cy)) (rp (l.getD 0 z3)) (rp (l.getD (i+1) z3)) (rp (l.getD (i+2) z3)):=⟨_,rfl⟩
 have hg:∀ {i:Nat},i<l.length→idxM l (i:Int)=some (l.getD i z3):=fun {i} hi=>by rw [idxM_lt hi];simp [List.getD,hi]
 have step:=fun {k:Nat} {C:Nat} {a:Rat} (hk:k+2<l.length) (hC:C≤100000000000000000) (ha:Dn DO C a)=>fan_step h T (hl _ (getD_mem3 (show 0<l.length by omega))) (hl _ (getD_mem3 (show k+1<l.length by omega))) (hl _ (getD_mem3 hk)) hC ha (i:=((k+2:Nat):Int)) (by omega) (by omega)
 have hdn:∀ k,k≤l.length-2→Dn DO (B+k*4000000000000) (acc+qsum k f):=by
  intro k
  induction k with
  | zero=>intro _;rw [Nat.zero_mul,show qsum 0 f=0 from rfl,Rat.add_zero];exact hacc
  | succ k ih =>
   intro hk
   have:=(step (k:=k) (C:=B+k*4000000000000) (a:=acc+qsum k f) (by omega) (by omega) (ih (by omega))).2
   rw [show qsum (k+1) f=qsum k f+f k from rfl,← Rat.add_assoc,hf]
   rw [hf] at this
   exact this.mono (by omega)
 have hfin:fan (wV (lineF bx by_ cx cy) (lineF cx cy ax ay) (lineF ax ay bx by_) (nv W v ax ay) (nv W v bx by_) (nv W v cx cy)) l=qsum (l.length-2) f:=by rw [hf];rfl
 rw [hfin]
 refine ⟨?_,(hdn _ (Nat.le_refl _)).mono (by omega)⟩
 unfold fanE
 have e0:rt acc=rt (acc+qsum 0 f):=by rw [show qsum 0 f=0 from rfl,Rat.add_zero]
 rw [e0]
 refine loopM_fn (fun k=>(((k+2:Nat):Int),rt (acc+qsum k f))) (l.length-2) (fun k hk=>?_) ?_
 ·have g0:=hg (show 0<l.length by omega)
  have g1:=hg (show k+1<l.length by omega)
  have g2:=hg (show k+2<l.length by omega)
  have hs:=(step (k:=k) (C:=B+k*4000000000000) (a:=acc+qsum k f) (by omega) (by omega) (hdn k (by omega))).1
  dsimp only
  rw [lenL,ltI (by omega),cond_true,chkM_of (by omega) (by omega),Option.bind_some,show idxM l 0=some (l.getD 0 z3) from g0,Option.bind_some,wrap_in (n:=((k+2:Nat):Int)-1) (by omega) (by omega),chkM_of (i:=((k+2:Nat):Int)-1) (by omega) (by omega),Option.bind_some,show ((k+2:Nat):Int)-1=((k+1:Nat):Int) by omega,g1,Option.bind_some,chkM_of (by omega) (by omega),Option.bind_some,g2,Option.bind_some]
  refine Eq.trans hs ?_
  have e1:acc+qsum k f+f k=acc+qsum (k+1) f:=by rw [show qsum (k+1) f=qsum k f+f k from rfl,Rat.add_assoc]
  rw [← e1,hf];rfl
 ·dsimp only
  rw [lenL,geI (by omega),cond_false]
end Go.Proofs.YtechphmljdgoaaaGreatDoor
namespace Go.Proofs.YtechphmljdgoaaaGreatDoor
open Go Go.Abs Go.PE Go.Num
open Go.IntKind (wrap)
noncomputable def polyE (ax ay bx by_ cx cy:Int) (o:List Spt):Option (List Spt):=(clipE ax ay bx by_ o).bind fun o_1=>bif eqM (lenM o_1) 0 then some o_1 else (clipE bx by_ cx cy o_1).bind fun o_2=>bif eqM (lenM o_2) 0 then some o_2 else (clipE cx cy ax ay o_2).bind fun o=>bif eqM (lenM o) 0 then some o else some o
noncomputable def overE (W H:Int) (L:List Int) (o:List Spt):Option (List UInt8×List UInt8):=(m25 (0,1)).bind fun r_2=>(loopM (fun (s:Int×List UInt8×List UInt8)=>bif ltM s.1 H then (loopM (fun (s_1:Int×List UInt8×List UInt8)=>bif ltM s_1.1 W then
 (polyE s_1.1 s.1 (wrap .i64 (s_1.1+1)) s.1 (wrap .i64 (s_1.1+1)) (wrap .i64 (s.1+1)) o).bind fun o_1=>(fanE W L s_1.1 s.1 (wrap .i64 (s_1.1+1)) s.1 (wrap .i64 (s_1.1+1)) (wrap .i64 (s.1+1)) o_1 (s_1.2.1,s_1.2.2)).bind fun o_2 =>
 (polyE s_1.1 s.1 (wrap .i64 (s_1.1+1)) (wrap .i64 (s.1+1)) s_1.1 (wrap .i64 (s.1+1)) o).bind fun o_3=>(fanE W L s_1.1 s.1 (wrap .i64 (s_1.1+1)) (wrap .i64 (s.1+1)) s_1.1 (wrap .i64 (s.1+1)) o_3 (o_2.1,o_2.2)).bind fun o =>
 some (Sum.inl (wrap .i64 (s_1.1+1),o.1,o.2)) else some (Sum.inr (s_1.2.1,s_1.2.2))) (0,s.2.1,s.2.2)).bind fun o=>some (Sum.inl (wrap .i64 (s.1+1),o.1,o.2)) else some (Sum.inr (s.2.1,s.2.2))) (0,r_2.1.1,r_2.1.2)).bind fun o=>some (o.1,o.2)
structure Pol (l:List Spt):Prop where
 poly:Poly l
 in6:∀ x∈l,0≤x.1∧x.1≤6*x.2.2∧0≤x.2.1∧x.2.1≤6*x.2.2
theorem Pol.bx {l:List Spt} (h:Pol l):∀ x∈l,Bx x:=fun x hx=>by
 have a:=h.poly.d0 x hx
 have b:=h.poly.d12 x hx
 have c:=h.in6 x hx
 unfold Bx
 omega
theorem pol_clR {l:List Spt} {L:Spt} (l1:L.1.natAbs≤1) (l2:L.2.1.natAbs≤1) (l0:¬ (L.1=0∧L.2.1=0)) (h:Pol l):Pol (clR L l):=by
 refine ⟨clR_poly l1 l2 l0 h.poly,fun x hx=>?_⟩
 have k:=fun (M:Spt) (hM:∀ x∈l,0≤lev M x)=>left_all M (L:=L) h.poly hM x hx
 have k1:=k (1,0,0) (fun x hx=>by have:=h.in6 x hx;unfold lev;dsimp only;omega)
 have k2:=k (-1,0,6) (fun x hx=>by have:=h.in6 x hx;unfold lev;dsimp only;omega)
 have k3:=k (0,1,0) (fun x hx=>by have:=h.in6 x hx;unfold lev;dsimp only;omega)
 have k4:=k (0,-1,6) (fun x hx=>by have:=h.in6 x hx;unfold lev;dsimp only;omega)
 unfold lev at k1 k2 k3 k4
 dsimp only at k1 k2 k3 k4
 omega
theorem line_ok {ax ay bx by_:Int} (h:Nod ax ay bx by_) (hn:¬ (ax=bx∧ay=by_)):(lineF ax ay bx by_).1.natAbs≤1∧(lineF ax ay bx by_).2.1.natAbs≤1∧¬ ((lineF ax ay bx by_).1=0∧(lineF ax ay bx by_).2.1=0):=by
 obtain ⟨a0,a1,b0,b1,c0,c1,e0,e1⟩:=h
 unfold lineF
 dsimp only
 omega
theorem lenE {l:List Spt}:eqM (lenM l) 0=decide (l=[]):=by
 cases l with
 | nil=>rfl
 | cons x l=>rw [decide_eq_false (by simp),lenL,neI (by rw [List.length_cons];omega)]
theorem polyE_ok {W H:Nat} {ax ay bx by_ cx cy:Int} (T:Trg W H ax ay bx by_ cx cy) {l:List Spt} (hP:Pol l) (hlen:l.length≤8) :
  polyE ax ay bx by_ cx cy l=some (clL [lineF cx cy ax ay,lineF bx by_ cx cy,lineF ax ay bx by_] l)∧Pol (clL [lineF cx cy ax ay,lineF bx by_ cx cy,lineF ax ay bx by_] l)∧(clL [lineF cx cy ax ay,lineF bx by_ cx cy,lineF ax ay bx by_] l).length≤64:=by
 have n1:=line_ok T.ab T.nab
 have n2:=line_ok T.bc T.nbc
 have n3:=line_ok T.ca T.nca
 have P1:=pol_clR n1.1 n1.2.1 n1.2.2 hP
 have P2:=pol_clR n2.1 n2.2.1 n2.2.2 P1
 have P3:=pol_clR n3.1 n3.2.1 n3.2.2 P2
 have k1:(clR (lineF ax ay bx by_) l).length≤16:=Nat.le_trans (clN_len _ _ _) (by omega)
 have k2:(clR (lineF bx by_ cx cy) (clR (lineF ax ay bx by_) l)).length≤32:=Nat.le_trans (clN_len _ _ _) (by omega)
 have k3:(clR (lineF cx cy ax ay) (clR (lineF bx by_ cx cy) (clR (lineF ax ay bx by_) l))).length≤64:=Nat.le_trans (clN_len _ _ _) (by omega)
 refine ⟨?_,P3,k3⟩
 show _=some (clR (lineF cx cy ax ay) (clR (lineF bx by_ cx cy) (clR (lineF ax ay bx by_) l)))
 unfold polyE
 rw [clipE_ok T.ab hP.bx (by omega),Option.bind_some]
 by_cases e1:clR (lineF ax ay bx by_) l=[]
 ·rw [lenE,e1];rfl
 ·rw [lenE,decide_eq_false e1,cond_false,clipE_ok T.bc P1.bx (by omega),Option.bind_some]
  by_cases e2:clR (lineF bx by_ cx cy) (clR (lineF ax ay bx by_) l)=[]
  ·rw [lenE,e2];rfl
  ·rw [lenE,decide_eq_false e2,cond_false,clipE_ok T.ca P2.bx (by omega),Option.bind_some]
   cases eqM (lenM (clR (lineF cx cy ax ay) (clR (lineF bx by_ cx cy) (clR (lineF ax ay bx by_) l)))) 0<;>rfl
theorem trg_low {W H:Nat} {x y:Nat} (w6:W≤6) (h6:H≤6) (hx:x<W) (hy:y<H):Trg W H x y ((x:Int)+1) y ((x:Int)+1) ((y:Int)+1) :=
 ⟨⟨by omega,by omega,by omega,by omega,by omega,by omega,by omega,by omega⟩,⟨by omega,by omega,by omega,by omega,by omega,by omega,by omega,by omega⟩,⟨by omega,by omega,by omega,by omega,by omega,by omega,by omega,by omega⟩,by omega,by omega,by omega,by omega,by omega,by omega⟩
theorem trg_upp {W H:Nat} {x y:Nat} (w6:W≤6) (h6:H≤6) (hx:x<W) (hy:y<H):Trg W H x y ((x:Int)+1) ((y:Int)+1) x ((y:Int)+1) :=
 ⟨⟨by omega,by omega,by omega,by omega,by omega,by omega,by omega,by omega⟩,⟨by omega,by omega,by omega,by omega,by omega,by omega,by omega,by omega⟩,⟨by omega,by omega,by omega,by omega,by omega,by omega,by omega,by omega⟩,by omega,by omega,by omega,by omega,by omega,by omega⟩
theorem line_gY (x y:Int):lineF x y (x+1) y=gY y:=by
 unfold lineF gY;rw [show y-y=0 by omega,show x+1-x=1 by omega];simp
theorem line_lX (x y:Int):lineF (x+1) y (x+1) (y+1)=lX (x+1):=by
 unfold lineF lX;rw [show y+1-y=1 by omega,show x+1-(x+1)=0 by omega];simp
theorem line_dL (x y:Int):lineF (x+1) (y+1) x y=dgL (y-x):=by
 unfold lineF dgL;rw [show y-(y+1)=-1 by omega,show x-(x+1)=-1 by omega]
 refine Prod.ext rfl (Prod.ext rfl ?_)
 dsimp only
 omega
theorem line_ndL (x y:Int):lineF x y (x+1) (y+1)=neg3 (dgL (y-x)):=by
 unfold lineF dgL neg3;rw [show y+1-y=1 by omega,show x+1-x=1 by omega]
 refine Prod.ext rfl (Prod.ext rfl ?_)
 dsimp only
 omega
theorem line_lY (x y:Int):lineF (x+1) (y+1) x (y+1)=lY (y+1):=by
 unfold lineF lY;rw [show y+1-(y+1)=0 by omega,show x-(x+1)=-1 by omega]
 refine Prod.ext rfl (Prod.ext rfl ?_)
 dsimp only
 omega
theorem line_gX (x y:Int):lineF x (y+1) x y=gX x:=by
 unfold lineF gX;rw [show y-(y+1)=-1 by omega,show x-x=0 by omega]
 refine Prod.ext rfl (Prod.ext rfl ?_)
 dsimp only
 omega
def lowV (W:Nat) (v:Nat→Int) (x y:Int):Rat×Rat×Rat:=wV (lX (x+1)) (dgL (y-x)) (gY y) (nv W v x y) (nv W v (x+1) y) (nv W v (x+1) (y+1))
def uppV (W:Nat) (v:Nat→Int) (x y:Int):Rat×Rat×Rat:=wV (lY (y+1)) (gX x) (neg3 (dgL (y-x))) (nv W v x y) (nv W v (x+1) (y+1)) (nv W v x (y+1))
def ovT (W:Nat) (v:Nat→Int) (P:List Spt) (k:Nat):Rat :=
 if k % 2=0 then fan (lowV W v ((k / 2 % W:Nat):Int) ((k / 2 / W:Nat):Int)) (clL (lowL ((k / 2 % W:Nat):Int) ((k / 2 / W:Nat):Int)) P)
 else fan (uppV W v ((k / 2 % W:Nat):Int) ((k / 2 / W:Nat):Int)) (clL (uppL ((k / 2 % W:Nat):Int) ((k / 2 / W:Nat):Int)) P)
theorem ovT_low {W:Nat} (v:Nat→Int) (P:List Spt) {cx cy:Nat} (h:cx<W):ovT W v P (2*(cy*W+cx))=fan (lowV W v cx cy) (clL (lowL cx cy) P):=by
 unfold ovT
 rw [if_pos (by omega),show 2*(cy*W+cx) / 2=cy*W+cx by omega,Nat.mul_comm cy W,Nat.mul_add_mod,Nat.mod_eq_of_lt h,Nat.mul_add_div (by omega),Nat.div_eq_of_lt h,Nat.add_zero]
theorem ovT_upp {W:Nat} (v:Nat→Int) (P:List Spt) {cx cy:Nat} (h:cx<W):ovT W v P (2*(cy*W+cx)+1)=fan (uppV W v cx cy) (clL (uppL cx cy) P):=by
 unfold ovT
 rw [if_neg (by omega),show (2*(cy*W+cx)+1) / 2=cy*W+cx by omega,Nat.mul_comm cy W,Nat.mul_add_mod,Nat.mod_eq_of_lt h,Nat.mul_add_div (by omega),Nat.div_eq_of_lt h,Nat.add_zero]
def ovQ (W H:Nat) (v:Nat→Int) (P:List Spt):Rat:=qsum (2*(H*W)) (ovT W v P)
theorem low_step {W H:Nat} {v:Nat→Int} (h:OkV W H v) {P:List Spt} (hP:Pol P) (hlen:P.length≤8) {x y:Nat} (hx:x<W) (hy:y<H) {B:Nat} {acc:Rat} (hB:B≤50000000000000000) (hacc:Dn DO B acc) :
  ∃ Q,polyE x y ((x:Int)+1) y ((x:Int)+1) ((y:Int)+1) P=some Q∧fanE W (row (nn W H) v) x y ((x:Int)+1) y ((x:Int)+1) ((y:Int)+1) Q (rt acc)=some (rt (acc+fan (lowV W v x y) (clL (lowL x y) P)))∧Dn DO (B+300000000000000) (acc+fan (lowV W v x y) (clL (lowL x y) P)):=by
 have T:=trg_low (x:=x) (y:=y) h.w6 h.h6 hx hy
 obtain ⟨a,b,c⟩:=polyE_ok T hP hlen
 obtain ⟨d,e⟩:=fanE_ok h T b.bx c hB hacc
 rw [line_gY,line_lX,line_dL] at d e
 rw [line_gY,line_lX,line_dL] at a
 exact ⟨_,a,d,e⟩
theorem upp_step {W H:Nat} {v:Nat→Int} (h:OkV W H v) {P:List Spt} (hP:Pol P) (hlen:P.length≤8) {x y:Nat} (hx:x<W) (hy:y<H) {B:Nat} {acc:Rat} (hB:B≤50000000000000000) (hacc:Dn DO B acc) :
  ∃ Q,polyE x y ((x:Int)+1) ((y:Int)+1) x ((y:Int)+1) P=some Q∧fanE W (row (nn W H) v) x y ((x:Int)+1) ((y:Int)+1) x ((y:Int)+1) Q (rt acc)=some (rt (acc+fan (uppV W v x y) (clL (uppL x y) P)))∧Dn DO (B+300000000000000) (acc+fan (uppV W v x y) (clL (uppL x y) P)):=by
 have T:=trg_upp (x:=x) (y:=y) h.w6 h.h6 hx hy
 obtain ⟨a,b,c⟩:=polyE_ok T hP hlen
 obtain ⟨d,e⟩:=fanE_ok h T b.bx c hB hacc
 rw [line_ndL,line_lY,line_gX] at d e
 rw [line_ndL,line_lY,line_gX] at a
 exact ⟨_,a,d,e⟩
theorem ovQ_dn {W H:Nat} {v:Nat→Int} (h:OkV W H v) {P:List Spt} (hP:Pol P) (hlen:P.length≤8):∀ k,k≤2*(H*W)→Dn DO (k*300000000000000) (qsum k (ovT W v P))
 | 0,_=>Dn.zero
 | k+1,hk=>by
  have hWH:H*W≤36:=Nat.mul_le_mul h.h6 h.w6
  have ih:=ovQ_dn h hP hlen k (by omega)
  have w1:=h.w1
  have hc:k / 2<H*W:=by omega
  have hx:k / 2 % W<W:=Nat.mod_lt _ (by omega)
  have hy:k / 2 / W<H:=(Nat.div_lt_iff_lt_mul (by omega)).2 hc
  show Dn DO ((k+1)*300000000000000) (qsum k (ovT W v P)+ovT W v P k)
  rw [Nat.add_mul,Nat.one_mul]
  unfold ovT
  split
  ·obtain ⟨_,_,_,e⟩:=low_step h hP hlen hx hy (by omega) ih
   exact e
  ·obtain ⟨_,_,_,e⟩:=upp_step h hP hlen hx hy (by omega) ih
   exact e
theorem overE_ok {W H:Nat} {v:Nat→Int} (h:OkV W H v) {P:List Spt} (hP:Pol P) (hlen:P.length≤8):overE W H (row (nn W H) v) P=some (rt (ovQ W H v P)):=by
 have w6:=h.w6
 have h6:=h.h6
 have hWH:H*W≤36:=Nat.mul_le_mul h6 w6
 have hof:m25 (0,1)=some (rt (qsum (2*(0*W)) (ovT W v P)),0):=by
  rw [Nat.zero_mul]
  have:=of_ok (n:=0) (d:=1) (by decide) (by decide) (by decide)
  rw [this];rfl
 unfold overE
 rw [hof,Option.bind_some]
 refine bind_of (x:=rt (ovQ W H v P)) ?_ rfl
 refine count_loop (fun cy=>rt (qsum (2*(cy*W)) (ovT W v P))) H (fun cy hy=>?_) ?_
 ·dsimp only
  rw [ltI (by omega),cond_true,wrap_in (n:=(cy:Int)+1) (by omega) (by omega)]
  refine bind_of (x:=rt (qsum (2*((cy+1)*W)) (ovT W v P))) ?_ rfl
  refine count_loop (fun cx=>rt (qsum (2*(cy*W+cx)) (ovT W v P))) W (fun cx hx=>?_) ?_
  ·have hb:cy*W+cx+1≤H*W:=by
    have:(cy+1)*W≤H*W:=Nat.mul_le_mul_right _ hy
    rw [Nat.add_mul,Nat.one_mul] at this
    omega
   have dn:=ovQ_dn h hP hlen (2*(cy*W+cx)) (by omega)
   obtain ⟨Q1,a1,a2,a3⟩:=low_step h hP hlen hx hy (by omega) dn
   obtain ⟨Q2,b1,b2,b3⟩:=upp_step h hP hlen hx hy (by omega) a3
   have e1:qsum (2*(cy*W+cx)) (ovT W v P)+fan (lowV W v cx cy) (clL (lowL cx cy) P)+fan (uppV W v cx cy) (clL (uppL cx cy) P)=qsum (2*(cy*W+(cx+1))) (ovT W v P):=by
    rw [show 2*(cy*W+(cx+1))=2*(cy*W+cx)+1+1 by omega]
    show _=qsum (2*(cy*W+cx)) (ovT W v P)+ovT W v P (2*(cy*W+cx))+ovT W v P (2*(cy*W+cx)+1)
    rw [ovT_low v P hx,ovT_upp v P hx]
   rw [e1] at b2
   dsimp only
   rw [ltI (by omega),cond_true,wrap_in (n:=(cx:Int)+1) (by omega) (by omega)]
   refine bind_of a1 ?_
   refine bind_of a2 ?_
   refine bind_of b1 ?_
   refine bind_of b2 rfl
  ·dsimp only
   rw [geI (by omega),cond_false,Nat.add_mul,Nat.one_mul]
 ·dsimp only
  rw [geI (by omega),cond_false];rfl
end Go.Proofs.YtechphmljdgoaaaGreatDoor
namespace Go.Proofs.YtechphmljdgoaaaGreatDoor
open Go Go.Abs Go.PE Go.Num
open Go.IntKind (wrap)
def In6 (p:Int×Int):Prop:=0≤p.1∧p.1≤6∧0≤p.2∧p.2≤6
theorem mul6 {x y:Int} (hx:-6≤x∧x≤6) (hy:-6≤y∧y≤6):-36≤x*y∧x*y≤36:=by
 have:(x*y).natAbs≤36:=by rw [Int.natAbs_mul];exact Nat.mul_le_mul (show x.natAbs≤6 by omega) (show y.natAbs≤6 by omega)
 omega
theorem eqP (a b:Int×Int):PE.andM (eqM a.1 b.1) (eqM a.2 b.2)=decide (a=b):=by
 by_cases h:a=b
 ·rw [decide_eq_true h,h,eqI rfl,eqI rfl];rfl
 ·rw [decide_eq_false h]
  by_cases h1:a.1=b.1
  ·rw [eqI h1,andT,neI (fun e=>h (Prod.ext h1 e))]
  ·rw [neI h1,andF]
theorem turn_ok {a b c:Int×Int} (ha:In6 a) (hb:In6 b) (hc:In6 c):m68 ((a.1,a.2),(b.1,b.2),c.1,c.2)=some (trn a b c):=by
 obtain ⟨a0,a1,a2,a3⟩:=ha
 obtain ⟨b0,b1,b2,b3⟩:=hb
 obtain ⟨c0,c1,c2,c3⟩:=hc
 have p1:=mul6 (x:=b.1-a.1) (y:=c.2-a.2) (by omega) (by omega)
 have p2:=mul6 (x:=b.2-a.2) (y:=c.1-a.1) (by omega) (by omega)
 unfold m68 trn
 dsimp only
 rw [wrap_in (n:=b.1-a.1) (by omega) (by omega),wrap_in (n:=c.2-a.2) (by omega) (by omega),wrap_in (n:=b.2-a.2) (by omega) (by omega),wrap_in (n:=c.1-a.1) (by omega) (by omega),wrap_in (n:=(b.1-a.1)*_) (by omega) (by omega),wrap_in (n:=(b.2-a.2)*_) (by omega) (by omega),wrap_in (by omega) (by omega)]
theorem turn2_ok {a b c:Int×Int} (ha:In6 a) (hb:In6 b) (hc:In6 c):m64 ((a.1,a.2),(b.1,b.2),c.1,c.2)=some (trn a b c):=by
 obtain ⟨a0,a1,a2,a3⟩:=ha
 obtain ⟨b0,b1,b2,b3⟩:=hb
 obtain ⟨c0,c1,c2,c3⟩:=hc
 have p1:=mul6 (x:=b.1-a.1) (y:=c.2-a.2) (by omega) (by omega)
 have p2:=mul6 (x:=b.2-a.2) (y:=c.1-a.1) (by omega) (by omega)
 unfold m64 trn
 dsimp only
 rw [wrap_in (n:=b.1-a.1) (by omega) (by omega),wrap_in (n:=c.2-a.2) (by omega) (by omega),wrap_in (n:=b.2-a.2) (by omega) (by omega),wrap_in (n:=c.1-a.1) (by omega) (by omega),wrap_in (n:=(b.1-a.1)*_) (by omega) (by omega),wrap_in (n:=(b.2-a.2)*_) (by omega) (by omega),wrap_in (by omega) (by omega)]
theorem far_ok {a b:Int×Int} (ha:In6 a) (hb:In6 b):m69 ((a.1,a.2),b.1,b.2)=some (farD a b):=by
 obtain ⟨a0,a1,a2,a3⟩:=ha
 obtain ⟨b0,b1,b2,b3⟩:=hb
 have p1:=mul6 (x:=a.1-b.1) (y:=a.1-b.1) (by omega) (by omega)
 have p2:=mul6 (x:=a.2-b.2) (y:=a.2-b.2) (by omega) (by omega)
 unfold m69 farD
 dsimp only
 rw [wrap_in (n:=a.1-b.1) (by omega) (by omega),wrap_in (n:=a.2-b.2) (by omega) (by omega),wrap_in (n:=(a.1-b.1)*_) (by omega) (by omega),wrap_in (n:=(a.2-b.2)*_) (by omega) (by omega),wrap_in (by omega) (by omega)]
def lowS (f p:Int×Int):Int×Int:=if p.2<f.2∨(p.2=f.2∧p.1<f.1) then p else f
theorem lowF_ok:∀ (l:List (Int×Int)) (f:Int×Int),(l.foldl lowS f=f∨l.foldl lowS f∈l)∧((l.foldl lowS f).2<f.2∨((l.foldl lowS f).2=f.2∧(l.foldl lowS f).1≤f.1))∧∀ p∈l,(l.foldl lowS f).2<p.2∨((l.foldl lowS f).2=p.2∧(l.foldl lowS f).1≤p.1)
 | [],f=>⟨.inl rfl,.inr ⟨rfl,Int.le_refl _⟩,fun p hp=>by cases hp⟩
 | x::l,f=>by
  obtain ⟨h1,h2,h3⟩:=lowF_ok l (lowS f x)
  rw [List.foldl_cons]
  generalize l.foldl lowS (lowS f x)=g at *
  unfold lowS at *
  by_cases hc:x.2<f.2∨(x.2=f.2∧x.1<f.1)
  ·rw [if_pos hc] at h1 h2
   refine ⟨.inr ?_,by omega,fun p hp=>?_⟩
   ·rcases h1 with h | h
    ·rw [h];exact List.mem_cons_self
    ·exact List.mem_cons_of_mem _ h
   ·rcases List.mem_cons.1 hp with e | e
    ·rw [e];exact h2
    ·exact h3 p e
  ·rw [if_neg hc] at h1 h2
   refine ⟨?_,h2,fun p hp=>?_⟩
   ·rcases h1 with h | h
    ·exact .inl h
    ·exact .inr (List.mem_cons_of_mem _ h)
   ·rcases List.mem_cons.1 hp with e | e
    ·rw [e];omega
    ·exact h3 p e
theorem first_ok {x:List (Int×Int)} (hx:x.length≤1000) (f:Int×Int):loopM (fun (s:Int×Int×Int)=>bif ltM s.1 (lenM x) then ((idxM x s.1).bind fun r_1=>(bif PE.notM (ltM r_1.2 s.2.2) then idxM x s.1 else some (0,0)).bind fun r_2=>(bif PE.andM (PE.notM (ltM r_1.2 s.2.2)) (eqM r_2.2 s.2.2) then idxM x s.1 else some (0,0)).bind fun r_3 =>
  bif PE.orM (ltM r_1.2 s.2.2) (PE.andM (eqM r_2.2 s.2.2) (ltM r_3.1 s.2.1)) then (idxM x s.1).bind fun r=>some (r.1,r.2) else some (s.2.1,s.2.2)).bind fun o=>some (Sum.inl (wrap .i64 (s.1+1),o.1,o.2)) else some (Sum.inr (s.2.1,s.2.2))) (0,f.1,f.2)=some (x.foldl lowS f):=by
 refine loopM_fn (fun k=>((k:Int),(x.take k).foldl lowS f)) x.length (fun k hk=>?_) ?_
 ·have e:(x.take (k+1)).foldl lowS f=lowS ((x.take k).foldl lowS f) x[k]:=by
   rw [List.take_add_one,List.getElem?_eq_getElem hk,Option.toList_some,List.foldl_append];rfl
  dsimp only
  rw [e,lenL,ltI (by omega),cond_true,idxM_lt hk,Option.bind_some,wrap_in (by omega) (by omega)]
  generalize (x.take k).foldl lowS f=g
  generalize x[k]=p
  refine bind_of (x:=lowS g p) ?_ rfl
  unfold lowS
  by_cases h1:p.2<g.2
  ·rw [ltI h1,notT,cond_false,Option.bind_some,andF,cond_false,Option.bind_some,show ∀ b,PE.orM true b=true from fun _=>rfl,cond_true,if_pos (.inl h1)];rfl
  ·rw [geI (by omega),notF,cond_true,Option.bind_some,andT]
   by_cases h2:p.2=g.2
   ·rw [eqI h2,cond_true,Option.bind_some,orF,andT]
    by_cases h3:p.1<g.1
    ·rw [ltI h3,cond_true,if_pos (.inr ⟨h2,h3⟩)];rfl
    ·rw [geI (by omega),cond_false,if_neg (by omega)]
   ·rw [neI h2,cond_false,Option.bind_some,orF,andF,cond_false,if_neg (by omega)]
 ·dsimp only
  rw [lenL,geI (by omega),cond_false,List.take_length]
theorem next_ok {x:List (Int×Int)} (hx:x.length≤1000) (h6:∀ p∈x,In6 p) {a:Int×Int} (ha:In6 a):loopM (fun (s_1:Int×Int×Int)=>bif ltM s_1.1 (lenM x) then ((idxM x s_1.1).bind fun r_1=>bif PE.andM (eqM r_1.1 a.1) (eqM r_1.2 a.2) then some (s_1.2.1,s_1.2.2) else (idxM x s_1.1).bind fun r_2 =>
  (m68 ((a.1,a.2),(s_1.2.1,s_1.2.2),r_2.1,r_2.2)).bind fun r_3=>(bif PE.andM (PE.notM (PE.orM (PE.andM (eqM s_1.2.1 a.1) (eqM s_1.2.2 a.2)) (ltM r_3 0))) (eqM r_3 0) then idxM x s_1.1 else some (0,0)).bind fun r_4 =>
  (bif PE.andM (PE.notM (PE.orM (PE.andM (eqM s_1.2.1 a.1) (eqM s_1.2.2 a.2)) (ltM r_3 0))) (eqM r_3 0) then m69 ((a.1,a.2),r_4.1,r_4.2) else some 0).bind fun r_5 =>
  (bif PE.andM (PE.notM (PE.orM (PE.andM (eqM s_1.2.1 a.1) (eqM s_1.2.2 a.2)) (ltM r_3 0))) (eqM r_3 0) then m69 ((a.1,a.2),s_1.2.1,s_1.2.2) else some 0).bind fun r_6 =>
  bif PE.orM (PE.orM (PE.andM (eqM s_1.2.1 a.1) (eqM s_1.2.2 a.2)) (ltM r_3 0)) (PE.andM (eqM r_3 0) (ltM r_6 r_5)) then (idxM x s_1.1).bind fun r=>some (r.1,r.2) else some (s_1.2.1,s_1.2.2)).bind fun o=>some (Sum.inl (wrap .i64 (s_1.1+1),o.1,o.2)) else some (Sum.inr (s_1.2.1,s_1.2.2))) (0,a.1,a.2)=some (nxF a x):=by
 have hin:∀ (l:List (Int×Int)),(∀ p∈l,In6 p)→∀ n,In6 n→In6 (l.foldl (nxS a) n):=by
  intro l
  induction l with
  | nil=>intro _ n hn;exact hn
  | cons y l ih =>
   intro hl n hn
   refine ih (fun p hp=>hl p (List.mem_cons_of_mem _ hp)) _ ?_
   unfold nxS
   split
   ·exact hn
   ·split
    ·exact hl y List.mem_cons_self
    ·exact hn
 refine loopM_fn (fun k=>((k:Int),(x.take k).foldl (nxS a) a)) x.length (fun k hk=>?_) ?_
 ·have e:(x.take (k+1)).foldl (nxS a) a=nxS a ((x.take k).foldl (nxS a) a) x[k]:=by
   rw [List.take_add_one,List.getElem?_eq_getElem hk,Option.toList_some,List.foldl_append];rfl
  have hn:=hin (x.take k) (fun p hp=>h6 p (List.mem_of_mem_take hp)) a ha
  have hp:=h6 _ (List.getElem_mem hk)
  dsimp only
  rw [e,lenL,ltI (by omega),cond_true,idxM_lt hk,Option.bind_some,wrap_in (by omega) (by omega)]
  generalize (x.take k).foldl (nxS a) a=n at *
  generalize x[k]=p at *
  refine bind_of (x:=nxS a n p) ?_ rfl
  unfold nxS
  rw [eqP p a]
  by_cases hpa:p=a
  ·rw [decide_eq_true hpa,cond_true,if_pos hpa]
  ·rw [decide_eq_false hpa,cond_false,Option.bind_some,if_neg hpa,turn_ok ha hn hp,Option.bind_some,eqP n a]
   by_cases h1:n=a
   ·rw [decide_eq_true h1,show ∀ b,PE.orM true b=true from fun _=>rfl,notT,andF,cond_false,Option.bind_some,cond_false,Option.bind_some,cond_false,Option.bind_some,show ∀ b,PE.orM true b=true from fun _=>rfl,cond_true,if_pos (.inl h1)];rfl
   ·rw [decide_eq_false h1,orF]
    by_cases h2:trn a n p<0
    ·rw [ltI h2,notT,andF,cond_false,Option.bind_some,cond_false,Option.bind_some,cond_false,Option.bind_some,show ∀ b,PE.orM true b=true from fun _=>rfl,cond_true,if_pos (.inr (.inl h2))];rfl
    ·rw [geI (by omega),notF,andT]
     simp only [orF]
     by_cases h3:trn a n p=0
     ·rw [eqI h3,cond_true,Option.bind_some,cond_true,far_ok ha hp,Option.bind_some,cond_true,far_ok ha hn,Option.bind_some,andT]
      by_cases h4:farD a n<farD a p
      ·rw [ltI h4,cond_true,if_pos (.inr (.inr ⟨h3,h4⟩))];rfl
      ·rw [geI (by omega),cond_false,if_neg (fun q=>q.elim h1 fun q=>q.elim h2 fun q=>h4 q.2)]
     ·rw [neI h3,cond_false,Option.bind_some,cond_false,Option.bind_some,cond_false,Option.bind_some,andF,cond_false,if_neg (fun q=>q.elim h1 fun q=>q.elim h2 fun q=>h3 q.1)]
 ·dsimp only
  rw [lenL,geI (by omega),cond_false,List.take_length];rfl
theorem nxF_in {x:List (Int×Int)} {a:Int×Int} (ha:ExtP x a):(nxF a x=a∧∀ p∈x,p=a)∨Suc x a (nxF a x):=by
 have:=nxF_inv ha x [] a (fun p hp=>hp) (.inl ⟨rfl,fun p hp=>by cases hp⟩)
 rcases this with h | h
 ·exact .inl h
 ·exact .inr h
def HR (x l:List (Int×Int)):Prop:=l.length≤x.length∧(∀ p∈l,p∈x)∧(3≤l.length→Cvx l)
theorem hull_loop {x:List (Int×Int)} (hx:x.length≤1000) (h6:∀ p∈x,In6 p) (f:Int×Int) {body:List (Int×Int)×Int×Int→Option ((List (Int×Int)×Int×Int)⊕List (Int×Int))}
  (hb:∀ (out:List (Int×Int)) (a:Int×Int),In6 a→out.length≤1000→body (out,a.1,a.2)=if nxF a x=a∨nxF a x=f then some (.inr out) else some (.inl (out++[nxF a x],(nxF a x).1,(nxF a x).2))) :
  ∀ (n:Nat) (out:List (Int×Int)),Chn x out→out.getD 0 (0,0)=f→x.length≤out.length+n→∃ l,loopM body (out,(out.getD (out.length-1) (0,0)).1,(out.getD (out.length-1) (0,0)).2)=some l∧HR x l:=by
 intro n
 induction n with
 | zero =>
  intro out hC h0 hn
  have hp:=hC.pos
  have hm:=hC.mem (out.length-1) (by omega)
  have hlen:=hC.len
  refine ⟨out,?_,hlen,fun p hp=>?_,fun h3=>?_⟩
  ·rw [loopM_eq,hb _ _ (h6 _ hm.1) (by omega)]
   by_cases hc:nxF (out.getD (out.length-1) (0,0)) x=out.getD (out.length-1) (0,0)∨nxF (out.getD (out.length-1) (0,0)) x=f
   ·rw [if_pos hc];rfl
   ·exfalso
    rcases nxF_in hm.2 with h | h
    ·exact hc (.inl h.1)
    ·have:=(hC.app h (fun e=>hc (.inr (e.trans h0)))).len
     rw [List.length_append,List.length_singleton] at this
     omega
  ·obtain ⟨j,hj,e⟩:=mem_getD hp
   rw [e];exact (hC.mem j hj).1
  ·rcases nxF_in hm.2 with h | h
   ·exfalso
    have a1:=h.2 _ (hC.mem 0 (by omega)).1
    have a2:=h.2 _ (hC.mem 1 (by omega)).1
    have:=nd_getD hC.nd (i:=0) (j:=1) (by omega) (by omega) (a1.trans a2.symm)
    omega
   ·by_cases hc:nxF (out.getD (out.length-1) (0,0)) x=out.getD 0 (0,0)
    ·rw [hc] at h;exact hC.cvx h
    ·exfalso
     have:=(hC.app h hc).len
     rw [List.length_append,List.length_singleton] at this
     omega
 | succ n ih =>
  intro out hC h0 hn
  have hp:=hC.pos
  have hm:=hC.mem (out.length-1) (by omega)
  have hlen:=hC.len
  rcases nxF_in hm.2 with h | h
  ·refine ⟨out,?_,hlen,fun p hp=>?_,fun h3=>?_⟩
   ·rw [loopM_eq,hb _ _ (h6 _ hm.1) (by omega),if_pos (.inl h.1)];rfl
   ·obtain ⟨j,hj,e⟩:=mem_getD hp
    rw [e];exact (hC.mem j hj).1
   ·exfalso
    have a1:=h.2 _ (hC.mem 0 (by omega)).1
    have a2:=h.2 _ (hC.mem 1 (by omega)).1
    have:=nd_getD hC.nd (i:=0) (j:=1) (by omega) (by omega) (a1.trans a2.symm)
    omega
  ·by_cases hc:nxF (out.getD (out.length-1) (0,0)) x=f
   ·refine ⟨out,?_,hlen,fun p hp=>?_,fun h3=>?_⟩
    ·rw [loopM_eq,hb _ _ (h6 _ hm.1) (by omega),if_pos (.inr hc)];rfl
    ·obtain ⟨j,hj,e⟩:=mem_getD hp
     rw [e];exact (hC.mem j hj).1
    ·rw [hc,← h0] at h;exact hC.cvx h
   ·have hne:¬ (nxF (out.getD (out.length-1) (0,0)) x=out.getD (out.length-1) (0,0)∨nxF (out.getD (out.length-1) (0,0)) x=f):=fun q=>q.elim (fun e=>h.2.1 e) hc
    have hA:=hC.app h (fun e=>hc (e.trans h0))
    obtain ⟨l,e1,e2⟩:=ih _ hA (by rw [getD_app 0 (by omega)];exact h0) (by rw [List.length_append,List.length_singleton];omega)
    refine ⟨l,?_,e2⟩
    rw [List.length_append,List.length_singleton,Nat.add_sub_cancel,getD_last] at e1
    rw [loopM_eq,hb _ _ (h6 _ hm.1) (by omega),if_neg hne]
    exact e1
theorem hull_ok {x:List (Int×Int)} (h0:0<x.length) (hx:x.length≤1000) (h6:∀ p∈x,In6 p):∃ l,m41 x=some l∧HR x l:=by
 obtain ⟨l1,l2,l3⟩:=lowF_ok x x[0]
 have hf:x.foldl lowS x[0]∈x:=by
  rcases l1 with h | h
  ·rw [h];exact List.getElem_mem h0
  ·exact h
 have hE:ExtP x (x.foldl lowS x[0]):=ext_low l3
 have hfirst:=first_ok hx x[0]
 generalize x.foldl lowS x[0]=f at *
 unfold m41
 dsimp only
 rw [show idxM x 0=some x[0] from idxM_lt h0,Option.bind_some]
 obtain ⟨l,e1,e2⟩:=hull_loop hx h6 f (body:=fun (s:List (Int×Int)×Int×Int)=>(loopM (fun (s_1:Int×Int×Int)=>bif ltM s_1.1 (lenM x) then ((idxM x s_1.1).bind fun r_1=>bif PE.andM (eqM r_1.1 s.2.1) (eqM r_1.2 s.2.2) then some (s_1.2.1,s_1.2.2) else (idxM x s_1.1).bind fun r_2 =>
  (m68 ((s.2.1,s.2.2),(s_1.2.1,s_1.2.2),r_2.1,r_2.2)).bind fun r_3=>(bif PE.andM (PE.notM (PE.orM (PE.andM (eqM s_1.2.1 s.2.1) (eqM s_1.2.2 s.2.2)) (ltM r_3 0))) (eqM r_3 0) then idxM x s_1.1 else some (0,0)).bind fun r_4 =>
  (bif PE.andM (PE.notM (PE.orM (PE.andM (eqM s_1.2.1 s.2.1) (eqM s_1.2.2 s.2.2)) (ltM r_3 0))) (eqM r_3 0) then m69 ((s.2.1,s.2.2),r_4.1,r_4.2) else some 0).bind fun r_5 =>
  (bif PE.andM (PE.notM (PE.orM (PE.andM (eqM s_1.2.1 s.2.1) (eqM s_1.2.2 s.2.2)) (ltM r_3 0))) (eqM r_3 0) then m69 ((s.2.1,s.2.2),s_1.2.1,s_1.2.2) else some 0).bind fun r_6 =>
  bif PE.orM (PE.orM (PE.andM (eqM s_1.2.1 s.2.1) (eqM s_1.2.2 s.2.2)) (ltM r_3 0)) (PE.andM (eqM r_3 0) (ltM r_6 r_5)) then (idxM x s_1.1).bind fun r=>some (r.1,r.2) else some (s_1.2.1,s_1.2.2)).bind fun o=>some (Sum.inl (wrap .i64 (s_1.1+1),o.1,o.2)) else some (Sum.inr (s_1.2.1,s_1.2.2))) (0,s.2.1,s.2.2)).bind fun o_1 =>
  bif PE.orM (PE.andM (eqM o_1.1 s.2.1) (eqM o_1.2 s.2.2)) (PE.andM (eqM o_1.1 f.1) (eqM o_1.2 f.2)) then some (Sum.inr s.1) else (appM (nat_lit 16) s.1 [(o_1.1,o_1.2)]).bind fun r=>some (Sum.inl (r,o_1.1,o_1.2)))
  (fun out a ha hout=>by
   refine bind_of (next_ok hx h6 ha) ?_
   rw [eqP (nxF a x) a,eqP (nxF a x) f]
   by_cases hc:nxF a x=a∨nxF a x=f
   ·rw [if_pos hc]
    have:PE.orM (decide (nxF a x=a)) (decide (nxF a x=f))=true:=by
     rcases hc with h | h
     ·rw [decide_eq_true h];rfl
     ·rw [decide_eq_true h];cases decide (nxF a x=a)<;>rfl
    rw [this,cond_true]
   ·rw [if_neg hc,decide_eq_false (fun e=>hc (.inl e)),decide_eq_false (fun e=>hc (.inr e)),orF,cond_false,appM_of (by show (out.length+1)*16≤_;omega),Option.bind_some])
  x.length [f] (Chn.one hf hE) rfl (by omega)
 refine ⟨l,?_,e2⟩
 refine bind_of hfirst ?_
 exact bind_of e1 rfl
end Go.Proofs.YtechphmljdgoaaaGreatDoor
namespace Go.Proofs.YtechphmljdgoaaaGreatDoor
open Go Go.Abs Go.PE Go.Num
open Go.IntKind (wrap)
theorem qsum_mul (c:Rat) (f:Nat→Rat):∀ n:Nat,qsum n (fun i=>f i*c)=qsum n f*c
 | 0=>by show (0:Rat)=0*c;rw [Rat.zero_mul]
 | n+1=>by
  show qsum n (fun i=>f i*c)+f n*c=(qsum n f+f n)*c
  rw [qsum_mul c f n];grind
theorem sT_q (W:Nat) (v:Nat→Int):∀ n:Nat,((sT W v n:Int):Rat)=qsum n (fun k=>((tSum W v k:Int):Rat))
 | 0=>rfl
 | n+1=>by
  show ((sT W v n+tSum W v n:Int):Rat)=qsum n (fun k=>((tSum W v k:Int):Rat))+((tSum W v n:Int):Rat)
  rw [Rat.intCast_add,sT_q W v n]
theorem andM_false (b:Bool):PE.andM b false=false:=by cases b<;>rfl
theorem eqs_self (x:List UInt8):eqsM x x=true:=eqsT rfl
end Go.Proofs.YtechphmljdgoaaaGreatDoor
namespace Go.Proofs.YtechphmljdgoaaaGreatDoor
open Go Go.Abs Go.PE Go.Num
open Go.IntKind (wrap)
structure PlOK (W H:Nat) (l:List (Int×Int)):Prop where
 h3:3≤l.length
 h8:l.length≤8
 cvx:Cvx l
 on:∀ p∈l,0≤p.1∧p.1≤W∧0≤p.2∧p.2≤H
theorem PlOK.in6 {W H:Nat} {l:List (Int×Int)} (h:PlOK W H l) (w6:W≤6) (h6:H≤6):∀ p∈l,In6 p:=fun p hp=>by
 have:=h.on p hp
 unfold In6
 omega
def rectP (W H:Int):List (Int×Int):=[(0,0),(W,0),(W,H),(0,H)]
theorem rect_cvx {W H:Nat} (w1:1≤W) (h1:1≤H):Cvx (rectP W H):=by
 have hm:(0:Int)<(W:Int)*(H:Int):=Int.mul_pos (by omega) (by omega)
 have key:∀ i k,i<4→k<4→k≠i→k≠(i+1) % 4→0<trn ((rectP W H).getD i (0,0)) ((rectP W H).getD ((i+1) % 4) (0,0)) ((rectP W H).getD k (0,0)):=by
  intro i k hi hk g1 g2
  rcases (show i=0∨i=1∨i=2∨i=3 by omega) with rfl | rfl | rfl | rfl<;>rcases (show k=0∨k=1∨k=2∨k=3 by omega) with rfl | rfl | rfl | rfl<;>first
   | exact absurd rfl g1
   | (exfalso;omega)
   | (simp only [rectP,trn];simp;grind)
 exact key
theorem rect_ok {W H:Nat} (w1:1≤W) (h1:1≤H):PlOK W H (rectP W H):=by
 refine ⟨by show 3≤4;omega,by show 4≤8;omega,rect_cvx w1 h1,fun p hp=>?_⟩
 unfold rectP at hp
 simp only [List.mem_cons,List.not_mem_nil,or_false] at hp
 rcases hp with rfl | rfl | rfl | rfl<;>dsimp only<;>omega
def ptF (W H:Nat) (x:List (Int×Int)) (i:Nat):Int×Int:=(pk (x.getD i (0,0)).1 ((W:Int)+1),pk (x.getD i (0,0)).2 ((H:Int)+1))
theorem part_ok {W H:Nat} {lo hi:Nat→Int} (w1:1≤W) (w6:W≤6) (h1:1≤H) (h6:H≤6) {x:List (Int×Int)} (hx:∀ p∈x,i64 p.1∧i64 p.2):∃ l,m15 (fd W H lo hi,x)=some l∧PlOK W H l:=by
 have hloop:loopM (fun (s:Int×List (Int×Int))=>bif PE.andM (ltM s.1 (lenM x)) (ltM s.1 8) then (idxM x s.1).bind fun r=>(m32 (r.1,wrap .i64 ((W:Int)+1))).bind fun r_1=>(idxM x s.1).bind fun r_2=>(m32 (r_2.2,wrap .i64 ((H:Int)+1))).bind fun r_3 =>
   (appM (nat_lit 16) s.2 [(r_1,r_3)]).bind fun r=>some (Sum.inl (wrap .i64 (s.1+1),r)) else some (Sum.inr s.2)) (0,[])=some (row (min x.length 8) (ptF W H x)):=by
  refine count_loop (fun k=>row k (ptF W H x)) (min x.length 8) (fun k hk=>?_) ?_
  ·have hk2:k<x.length:=by omega
   have hm:x.getD k (0,0)∈x:=by simp [List.getD,hk2]
   have g:=hx _ hm
   have hidx:idxM x (k:Int)=some (x.getD k (0,0)):=by rw [idxM_lt hk2];simp [List.getD,hk2]
   dsimp only
   rw [lenL,ltI (by omega),ltI (by omega),andT,cond_true,hidx,Option.bind_some,wrap_in (n:=(W:Int)+1) (by omega) (by omega),pick_ok g.1 (by omega),Option.bind_some,Option.bind_some,wrap_in (n:=(H:Int)+1) (by omega) (by omega),pick_ok g.2 (by omega),Option.bind_some,app_rowOf (y:=(pk (x.getD k (0,0)).1 ((W:Int)+1),pk (x.getD k (0,0)).2 ((H:Int)+1))) (g:=ptF W H x) rfl (by show (k+1)*16≤_;omega),Option.bind_some,wrap_in (by omega) (by omega)]
  ·dsimp only
   have:PE.andM (ltM ((min x.length 8:Nat):Int) (lenM x)) (ltM ((min x.length 8:Nat):Int) 8)=false:=by
    rw [lenL]
    by_cases h:x.length<8
    ·rw [geI (by omega),andF]
    ·rw [geI (a:=((min x.length 8:Nat):Int)) (b:=8) (by omega),andM_false]
   rw [this,cond_false]
 have hon:∀ p∈row (min x.length 8) (ptF W H x),0≤p.1∧p.1≤W∧0≤p.2∧p.2≤H:=fun p hp=>by
  unfold row at hp
  obtain ⟨i,hi,e⟩:=List.mem_map.1 hp
  subst e
  have a1:=pk_lo (c:=(x.getD i (0,0)).1) (n:=(W:Int)+1) (by omega)
  have a2:=pk_hi (c:=(x.getD i (0,0)).1) (n:=(W:Int)+1) (by omega)
  have b1:=pk_lo (c:=(x.getD i (0,0)).2) (n:=(H:Int)+1) (by omega)
  have b2:=pk_hi (c:=(x.getD i (0,0)).2) (n:=(H:Int)+1) (by omega)
  unfold ptF
  dsimp only
  omega
 have hlen:(row (min x.length 8) (ptF W H x)).length=min x.length 8:=row_length _ _
 generalize row (min x.length 8) (ptF W H x)=o at *
 unfold m15 fd
 dsimp only
 by_cases h0:o.length=0
 ·refine ⟨rectP W H,bind_of hloop ?_,rect_ok w1 h1⟩
  rw [lenL,eqI (by omega),cond_true];rfl
 ·obtain ⟨l,e1,e2,e3,e4⟩:=hull_ok (x:=o) (by omega) (by omega) (fun p hp=>by have:=hon p hp;unfold In6;omega)
  by_cases h3:3≤l.length
  ·refine ⟨l,bind_of hloop ?_,h3,by omega,e4 h3,fun p hp=>hon p (e3 p hp)⟩
   rw [lenL,neI (by omega),cond_false,e1,Option.bind_some,lenL,leI (by omega),cond_true]
  ·refine ⟨rectP W H,bind_of hloop ?_,rect_ok w1 h1⟩
   rw [lenL,neI (by omega),cond_false,e1,Option.bind_some,lenL,gtI (by omega),cond_false];rfl
theorem getP {l:List (Int×Int)} {i:Nat} (h:i<l.length):idxM l (i:Int)=some (l.getD i (0,0)):=by rw [idxM_lt h];simp [List.getD,h]
theorem pvalid_ok {l:List (Int×Int)} (h3:3≤l.length) (h8:l.length≤8) (hc:Cvx l) (h6:∀ p∈l,In6 p):m28 l=some true:=by
 have hm:∀ {i:Nat},i<l.length→In6 (l.getD i (0,0)):=fun {i} hi=>h6 _ (by simp [List.getD,hi])
 unfold m28
 rw [lenL,geI (a:=(l.length:Int)) (b:=3) (by omega),geI (a:=8) (by omega),show PE.orM false false=false from rfl,notF,cond_true]
 refine bind_of (x:=false) ?_ ?_
 ·refine bind_of (x:=(-1:Int)) ?_ rfl
  refine bind_of (pass_loop (n:=l.length) (fun k hk=>?_) ?_) rfl
  ·obtain ⟨a0,a1,a2,a3⟩:=hm hk
   rw [ltI (by omega),cond_true,getP hk,Option.bind_some]
   unfold m65
   dsimp only
   rw [geI (a:=min _ _) (by omega),geI (a:=40) (by omega),show PE.orM false false=false from rfl,Option.bind_some,cond_false,wrap_in (by omega) (by omega)]
  ·rw [geI (by omega),cond_false]
 ·rw [show PE.orM false false=false from rfl,cond_false]
  refine bind_of (pass_loop (n:=l.length) (fun i hi=>?_) ?_) rfl
  ·have hn:(i+1) % l.length<l.length:=Nat.mod_lt _ (by omega)
   rw [ltI (by omega),cond_true,getP hi,Option.bind_some,wrap_in (n:=(i:Int)+1) (by omega) (by omega),remM_of (by omega) (by omega),Option.bind_some,show ((i:Int)+1) % (l.length:Int)=(((i+1) % l.length:Nat):Int) by rw [Int.natCast_emod];rfl]
   refine bind_of (pass_loop (n:=l.length) (fun k hk=>?_) ?_) rfl
   ·rw [ltI (by omega),cond_true,getP hk,Option.bind_some,wrap_in (n:=(k:Int)+1) (by omega) (by omega)]
    by_cases e1:k=i
    ·rw [eqI (a:=(k:Int)) (b:=(i:Int)) (by omega),notT,andF,cond_false,Option.bind_some,cond_false,Option.bind_some,andF,cond_false]
    ·rw [neI (a:=(k:Int)) (b:=(i:Int)) (by omega),notF,andT]
     by_cases e2:k=(i+1) % l.length
     ·rw [eqI (by omega),notT,cond_false,Option.bind_some,cond_false,Option.bind_some,andF,cond_false]
     ·have ht:=hc i k hi hk e1 e2
      rw [neI (by omega),notF,cond_true,getP hn,Option.bind_some,cond_true,turn2_ok (hm hi) (hm hn) (hm hk),Option.bind_some,andT,gtI (by omega),cond_false]
   ·rw [geI (by omega),cond_false]
  ·rw [geI (by omega),cond_false]
theorem PlOK.pol {W H:Nat} {l:List (Int×Int)} (h:PlOK W H l) (w6:W≤6) (h6:H≤6):Pol (spS l):=by
 refine ⟨spS_poly h.h3 h.cvx (fun p hp=>by have:=h.on p hp;omega),fun x hx=>?_⟩
 obtain ⟨p,hp,rfl⟩:=List.mem_map.1 hx
 have:=h.on p hp
 dsimp only
 omega
theorem fover_ok {W H:Nat} {lo hi:Nat→Int} (F:OkF W H lo hi) {l:List (Int×Int)} (hl:PlOK W H l):m17 (fd W H lo hi,l)=some (rt (ovQ W H lo (spS l)),rt (ovQ W H hi (spS l)),0):=by
 have w6:=F.w6
 have h6:=F.h6
 have hP:=hl.pol w6 h6
 have h8:=hl.h8
 have hlen:(spS l).length≤8:=by rw [spS_len];exact h8
 have v1:=valid_ok F
 have v2:=pvalid_ok hl.h3 h8 hl.cvx (hl.in6 w6 h6)
 have hs:loopM (fun (s:Int×List (Int×Int×Int))=>bif ltM s.1 (lenM l) then (idxM l s.1).bind fun r_2=>(appM (nat_lit 24) s.2 [(r_2.1,r_2.2,1)]).bind fun r=>some (Sum.inl (wrap .i64 (s.1+1),r)) else some (Sum.inr s.2)) (0,[])=some (spS l):=by
  refine count_loop (fun k=>spS (l.take k)) l.length (fun k hk=>?_) ?_
  ·have e:spS (l.take (k+1))=spS (l.take k)++[((l.getD k (0,0)).1,(l.getD k (0,0)).2,1)]:=by
    unfold spS
    rw [List.take_add_one,List.getElem?_eq_getElem hk,Option.toList_some,List.map_append]
    simp [List.getD,hk]
   have hk2:(spS (l.take k)).length≤8:=by rw [spS_len];exact Nat.le_trans (List.length_take_le _ _) (by omega)
   dsimp only
   rw [lenL,ltI (by omega),cond_true,getP hk,Option.bind_some,appM_of (by show ((spS (l.take k)).length+1)*24≤_;omega),Option.bind_some,wrap_in (by omega) (by omega),e]
  ·dsimp only
   rw [lenL,geI (by omega),cond_false,List.take_length]
 unfold m17
 unfold fd at v1 ⊢
 dsimp only
 rw [v1,Option.bind_some,notT,notF,cond_true,v2,Option.bind_some,notT,show PE.orM false false=false from rfl,notF,cond_true]
 refine bind_of (x:=false) ?_ ?_
 ·refine bind_of (x:=(-1:Int)) ?_ rfl
  refine bind_of (pass_loop (n:=l.length) (fun k hk=>?_) ?_) rfl
  ·have hm:l.getD k (0,0)∈l:=by simp [List.getD,hk]
   have:=hl.on _ hm
   rw [lenL,ltI (by omega),cond_true,getP hk,Option.bind_some,geI (a:=(W:Int)) (by omega),geI (a:=(H:Int)) (by omega),show PE.orM false false=false from rfl,cond_false,wrap_in (by omega) (by omega)]
  ·rw [lenL,geI (by omega),cond_false]
 ·rw [show PE.orM false false=false from rfl,cond_false]
  refine bind_of hs ?_
  refine bind_of (overE_ok F.okLo hP hlen) ?_
  refine bind_of (overE_ok F.okHi hP hlen) rfl
end Go.Proofs.YtechphmljdgoaaaGreatDoor
namespace Go.Proofs.YtechphmljdgoaaaGreatDoor
open Go Go.Abs Go.PE Go.Num
open Go.IntKind (wrap)
def BO:Nat:=21600000000000000
theorem ovQ_dn2 {W H:Nat} {v:Nat→Int} (h:OkV W H v) {P:List Spt} (hP:Pol P) (hlen:P.length≤8):Dn DO BO (ovQ W H v P):=by
 have hWH:H*W≤36:=Nat.mul_le_mul h.h6 h.w6
 exact (ovQ_dn h hP hlen (2*(H*W)) (Nat.le_refl _)).mono (by show _≤21600000000000000;omega)
theorem sumF_ok {p q:Rat} (hp:Dn DO BO p) (hq:Dn DO BO q):m22 (((rt p).1,(rt p).2),(rt q).1,(rt q).2)=some ((rt (p+q)).1,(rt (p+q)).2):=by
 unfold m22
 exact bind_of (x:=(rt (p+q),0)) (radd_dn hp hq DO_pos (E:=1000000000000000000) (by decide) DO_fit) rfl
end Go.Proofs.YtechphmljdgoaaaGreatDoor
namespace Go.Proofs.YtechphmljdgoaaaGreatDoor
open Go Go.Abs Go.PE Go.Num
open Go.IntKind (wrap)
theorem vlq_wV (A B C:Spt) (a b c:Int) (p:RP):vlq (wV A B C a b c) p=(a:Rat)*lv A p+(b:Rat)*lv B p+(c:Rat)*lv C p:=by
 unfold vlq wV lv;grind
theorem eqM_self (a:Int):eqM a a=true:=eqI rfl
theorem orff:PE.orM false false=false:=rfl
end Go.Proofs.YtechphmljdgoaaaGreatDoor
namespace Go.Proofs.YtechphmljdgoaaaGreatDoor
open Go Go.Abs Go.PE Go.Num
open Go.IntKind (wrap)
theorem rp_sp (p:Int×Int):rp (p.1,p.2,1)=((p.1:Rat),(p.2:Rat)):=by
 unfold rp
 have e1:((1:Int):Rat)=1:=rfl
 dsimp only
 rw [e1,Rat.div_def,Rat.div_def]
 refine Prod.ext ?_ ?_<;>dsimp only<;>grind
end Go.Proofs.YtechphmljdgoaaaGreatDoor
namespace Go.Proofs.YtechphmljdgoaaaGreatDoor
open Go Go.Abs Go.PE Go.Num
open Go.IntKind (wrap)
def STri (l:List (Int×Int)):Prop:=∀ i j k,i<j→j<k→k<l.length→0<trn (l.getD i (0,0)) (l.getD j (0,0)) (l.getD k (0,0))
theorem trn_rot (a b c:Int×Int):trn a b c=trn b c a:=by unfold trn;grind
theorem STri.cvx {l:List (Int×Int)} (h:STri l):Cvx l:=by
 intro i k hi hk h1 h2
 by_cases e:i+1<l.length
 ·rw [Nat.mod_eq_of_lt e] at h2 ⊢
  by_cases hki:k<i
  ·rw [← trn_rot];exact h k i (i+1) hki (by omega) e
  ·exact h i (i+1) k (by omega) (by omega) hk
 ·have e2:i+1=l.length:=by omega
  rw [e2,Nat.mod_self] at h2 ⊢
  rw [trn_rot];exact h 0 k i (by omega) (by omega) hi
theorem getD_appL {α:Type} {s t:List α} {i:Nat} {d:α} (h:i<s.length):(s++t).getD i d=s.getD i d:=by simp [List.getD,List.getElem?_append_left h]
theorem getD_appR {α:Type} {s t:List α} {i:Nat} {d:α} (h:s.length≤i):(s++t).getD i d=t.getD (i-s.length) d:=by simp [List.getD,List.getElem?_append_right h]
theorem STri.mid {a b c:List (Int×Int)} (h:STri (a++b++c)):STri b:=by
 intro i j k hij hjk hk
 have:=h (a.length+i) (a.length+j) (a.length+k) (by omega) (by omega) (by simp only [List.length_append];omega)
 have e:∀ m,m<b.length→(a++b++c).getD (a.length+m) (0,0)=b.getD m (0,0):=fun m hm=>by
  rw [getD_appL (by simp only [List.length_append];omega),getD_appR (by omega),Nat.add_sub_cancel_left]
 rwa [e i (by omega),e j (by omega),e k hk] at this
theorem STri.round {a b:List (Int×Int)} (h:STri (a++b)):STri (b++a):=by
 intro i j k hij hjk hk
 rw [List.length_append] at hk
 have eb:∀ m,m<b.length→(b++a).getD m (0,0)=(a++b).getD (a.length+m) (0,0):=fun m hm=>by
  rw [getD_appL hm,getD_appR (by omega),Nat.add_sub_cancel_left]
 have ea:∀ m,b.length≤m→m<b.length+a.length→(b++a).getD m (0,0)=(a++b).getD (m-b.length) (0,0):=fun m h1 h2=>by
  rw [getD_appR h1,getD_appL (by omega)]
 have hl:(a++b).length=a.length+b.length:=List.length_append
 by_cases c1:k<b.length
 ·rw [eb i (by omega),eb j (by omega),eb k c1]
  exact h _ _ _ (by omega) (by omega) (by omega)
 by_cases c2:j<b.length
 ·rw [eb i (by omega),eb j c2,ea k (by omega) hk,← trn_rot]
  exact h _ _ _ (by omega) (by omega) (by omega)
 by_cases c3:i<b.length
 ·rw [eb i c3,ea j (by omega) (by omega),ea k (by omega) hk,trn_rot]
  exact h _ _ _ (by omega) (by omega) (by omega)
 ·rw [ea i (by omega) (by omega),ea j (by omega) (by omega),ea k (by omega) hk]
  exact h _ _ _ (by omega) (by omega) (by omega)
theorem cut_at {l:List (Int×Int)} {a b:Nat} (hab:a<b) (hb:b<l.length):∃ A p B q C,l=A++(p::B++[q])++C∧A.length=a∧B.length+a+1=b:=by
 refine ⟨l.take a,l[a],(l.drop (a+1)).take (b-a-1),l[b],l.drop (b+1),?_,by rw [List.length_take];omega,by rw [List.length_take,List.length_drop];omega⟩
 have e1:l=l.take a++l.drop a:=(List.take_append_drop a l).symm
 have e2:l.drop a=l[a]::l.drop (a+1):=List.drop_eq_getElem_cons (by omega)
 have e3:l.drop (a+1)=(l.drop (a+1)).take (b-a-1)++(l.drop (a+1)).drop (b-a-1):=(List.take_append_drop _ _).symm
 have e4:(l.drop (a+1)).drop (b-a-1)=l.drop b:=by rw [List.drop_drop];congr 1;omega
 have e5:l.drop b=l[b]::l.drop (b+1):=List.drop_eq_getElem_cons hb
 rw [e4,e5] at e3
 conv=>lhs;rw [e1,e2,e3]
 simp
structure Parts (l u w:List (Int×Int)) (a b:Nat):Prop where
 mid:(l.take (b+1)).drop a=u
 out:l.drop b++l.take (a+1)=w
 sum:∀ {F:RP→RP→Rat},Fn F→cyc F (spS l)=cyc F (spS u)+cyc F (spS w)
 cu:Cvx l→Cvx u
 cw:Cvx l→Cvx w
 mu:∀ p∈u,p∈l
 mw:∀ p∈w,p∈l
 lu:u.length=b-a+1
 lw:w.length=l.length-b+a+1
theorem parts_ok {l:List (Int×Int)} {a b:Nat} (hab:a<b) (hb:b<l.length):∃ u w,Parts l u w a b:=by
 obtain ⟨A,p,B,q,C,hl,hA,hB⟩:=cut_at hab hb
 have ll:l.length=A.length+(B.length+2)+C.length:=by rw [hl];simp only [List.length_append,List.length_cons,List.length_nil]
 refine ⟨p::B++[q],q::C++(A++[p]),?_,?_,fun {F} hF=>?_,fun hc=>?_,fun hc=>?_,fun x hx=>?_,fun x hx=>?_,?_,?_⟩
 ·have e:l.take (b+1)=A++(p::B++[q]):=by
   rw [hl];exact List.take_left' (by simp only [List.length_append,List.length_cons,List.length_nil];omega)
  rw [e];exact List.drop_left' hA
 ·have e1:l.drop b=q::C:=by
   have:l=(A++p::B)++(q::C):=by rw [hl];simp
   rw [this];exact List.drop_left' (by simp only [List.length_append,List.length_cons];omega)
  have e2:l.take (a+1)=A++[p]:=by
   have:l=(A++[p])++(B++[q]++C):=by rw [hl];simp
   rw [this];exact List.take_left' (by simp only [List.length_append,List.length_cons,List.length_nil];omega)
  rw [e1,e2]
 ·have h:=cyc_cut hF (spS A) (spS B) (spS C) (p.1,p.2,1) (q.1,q.2,1)
  have e1:spS l=spS A++(p.1,p.2,1)::spS B++(q.1,q.2,1)::spS C:=by rw [hl];unfold spS;simp
  have e2:spS (p::B++[q])=(p.1,p.2,1)::spS B++[(q.1,q.2,1)]:=by unfold spS;simp
  have e3:spS (q::C++(A++[p]))=(q.1,q.2,1)::spS C++(spS A++[(p.1,p.2,1)]):=by unfold spS;simp
  rw [e1,e2,e3];exact h
 ·have hs:STri l:=fun i j k hij hjk hk=>cvx_trn hc hij k hjk hk
  rw [hl] at hs
  exact hs.mid.cvx
 ·have hs:STri l:=fun i j k hij hjk hk=>cvx_trn hc hij k hjk hk
  have e:l=(A++[p])++(B++(q::C)):=by rw [hl];simp
  rw [e] at hs
  have h2:=hs.round
  have e2:B++q::C++(A++[p])=B++(q::C++(A++[p]))++[]:=by simp
  rw [e2] at h2
  exact h2.mid.cvx
 ·rw [hl]
  simp only [List.mem_append,List.mem_cons,List.not_mem_nil,or_false] at hx ⊢
  rcases hx with (h | h) | h
  ·exact .inl (.inr (.inl (.inl h)))
  ·exact .inl (.inr (.inl (.inr h)))
  ·exact .inl (.inr (.inr h))
 ·rw [hl]
  simp only [List.mem_append,List.mem_cons,List.not_mem_nil,or_false] at hx ⊢
  rcases hx with (h | h) | h | h
  ·exact .inl (.inr (.inr h))
  ·exact .inr h
  ·exact .inl (.inl h)
  ·exact .inl (.inr (.inl (.inl h)))
 ·simp only [List.length_append,List.length_cons,List.length_nil];omega
 ·simp only [List.length_append,List.length_cons,List.length_nil];omega
theorem clL_fn {Ls:List Spt} (h:OkL Ls):∀ {F:RP→RP→Rat},Fn F→∃ G,Fn G∧∀ P,Poly P→cyc F (clL Ls P)=cyc G P:=by
 induction Ls with
 | nil=>intro F hF;exact ⟨F,hF,fun P _=>rfl⟩
 | cons L Ls ih =>
  intro F hF
  obtain ⟨o,hL⟩:=h L (by simp)
  have h':OkL Ls:=fun M hM=>h M (by simp [hM])
  obtain ⟨G,hG,e⟩:=ih h' (F:=ct L o F) (ct_fn hF)
  exact ⟨G,hG,fun P hP=>(clL_cons hL hF h' hP).trans (e P hP)⟩
theorem ovQ_cut {W H:Nat} {v:Nat→Int} {P U V:List Spt} (hP:Poly P) (hU:Poly U) (hV:Poly V) (h:∀ {F:RP→RP→Rat},Fn F→cyc F P=cyc F U+cyc F V):ovQ W H v P=ovQ W H v U+ovQ W H v V:=by
 unfold ovQ
 rw [← qsum_add]
 refine qsum_congr fun k _=>?_
 unfold ovT
 split
 ·rw [fan_cyc,fan_cyc,fan_cyc]
  obtain ⟨G,hG,e⟩:=clL_fn (okL_low ((k / 2 % W:Nat):Int) ((k / 2 / W:Nat):Int)) (efn_fn (lowV W v ((k / 2 % W:Nat):Int) ((k / 2 / W:Nat):Int)))
  rw [e P hP,e U hU,e V hV,h hG]
 ·rw [fan_cyc,fan_cyc,fan_cyc]
  obtain ⟨G,hG,e⟩:=clL_fn (okL_upp ((k / 2 % W:Nat):Int) ((k / 2 / W:Nat):Int)) (efn_fn (uppV W v ((k / 2 % W:Nat):Int) ((k / 2 / W:Nat):Int)))
  rw [e P hP,e U hU,e V hV,h hG]
theorem ovQ_face {W H:Nat} (w6:W≤6) (h6:H≤6) (w1:1≤W) (v:Nat→Int):ovQ W H v (spS (rectP W H))=Rat.divInt (sT W v (2*(H*W))) 6:=by
 have er:spS (rectP W H)=rect W H:=rfl
 rw [Rat.divInt_eq_div,sT_q,er,Rat.div_def]
 unfold ovQ
 rw [← qsum_mul]
 refine qsum_congr fun k hk=>?_
 have hk2:k / 2<H*W:=by omega
 have hx:k / 2 % W<W:=Nat.mod_lt _ (by omega)
 have hy:k / 2 / W<H:=(Nat.div_lt_iff_lt_mul (by omega)).2 hk2
 have hface:=face_ok W (by omega) H (by omega) (k / 2 % W) hx (k / 2 / W) hy
 unfold faceOk at hface
 rw [Bool.and_eq_true] at hface
 have e1:((1:Int):Rat)=1:=rfl
 have e0:((0:Int):Rat)=0:=rfl
 have e6:((6:Int):Rat)=6:=rfl
 unfold ovT tSum triF
 dsimp only
 generalize k / 2 % W=x at *
 generalize k / 2 / W=y at *
 split
 ·rw [fan_cyc,cyc_rot hface.1,← phi_efn]
  have r1:=rp_sp ((x:Int),(y:Int))
  have r2:=rp_sp ((x:Int)+1,(y:Int))
  have r3:=rp_sp ((x:Int)+1,(y:Int)+1)
  dsimp only at r1 r2 r3
  rw [r1,r2,r3]
  unfold lowV phi nd
  dsimp only
  rw [vlq_wV,vlq_wV,vlq_wV]
  unfold lv dtr lX dgL gY
  dsimp only
  simp only [Rat.intCast_add,Rat.intCast_sub,Rat.intCast_neg]
  grind
 ·rw [fan_cyc,cyc_rot hface.2,← phi_efn]
  have r1:=rp_sp ((x:Int),(y:Int))
  have r2:=rp_sp ((x:Int)+1,(y:Int)+1)
  have r3:=rp_sp ((x:Int),(y:Int)+1)
  dsimp only at r1 r2 r3
  rw [r1,r2,r3]
  unfold uppV phi nd
  dsimp only
  rw [vlq_wV,vlq_wV,vlq_wV]
  unfold lv dtr lY dgL gX neg3
  dsimp only
  simp only [Rat.intCast_add,Rat.intCast_sub,Rat.intCast_neg]
  grind
end Go.Proofs.YtechphmljdgoaaaGreatDoor
namespace Go.Proofs.YtechphmljdgoaaaGreatDoor
open Go Go.Abs Go.PE Go.Num
open Go.IntKind (wrap)
theorem cloneP_ok {l:List (Int×Int)} (h0:0<l.length) (h:l.length≤1000):m61 l=some l:=by
 unfold m61
 have e:nilM l (some []) ((appM (nat_lit 16) [] l).bind fun r=>some r)=(appM (nat_lit 16) [] l).bind fun r=>some r:=by
  cases l with
  | nil=>simp at h0
  | cons a l=>rfl
 rw [e,appM_of (by show (0+l.length)*16≤_;omega)];rfl
theorem concat_ok {u w:List (Int×Int)} (h0:0<u.length+w.length) (h:u.length+w.length≤1000):m62 [u,w]=some (u++w):=by
 unfold m62
 have l1:loopM (fun (s:Int×Int)=>bif ltM s.2 (lenM [u,w]) then (idxM [u,w] s.2).bind fun r=>bif ltM (wrap .i64 (s.1+lenM r)) 0 then none else some (Sum.inl (wrap .i64 (s.1+lenM r),wrap .i64 (s.2+1))) else some (Sum.inr s.1)) (0,0)=some ((u.length:Int)+(w.length:Int)):=by
  refine loopM_fn (fun k=>(if k=0 then 0 else if k=1 then (u.length:Int) else (u.length:Int)+(w.length:Int),(k:Int))) 2 (fun k hk=>?_) rfl
  rcases (show k=0∨k=1 by omega) with rfl | rfl
  ·show ((some u).bind fun r=>bif ltM (wrap .i64 (0+lenM r)) 0 then none else some (Sum.inl (wrap .i64 (0+lenM r),wrap .i64 (((0:Nat):Int)+1))))=_
   rw [Option.bind_some,lenL,Int.zero_add,wrap_in (n:=(u.length:Int)) (by omega) (by omega),geI (by omega),cond_false];rfl
  ·show ((some w).bind fun r=>bif ltM (wrap .i64 ((u.length:Int)+lenM r)) 0 then none else some (Sum.inl (wrap .i64 ((u.length:Int)+lenM r),wrap .i64 (((1:Nat):Int)+1))))=_
   rw [Option.bind_some,lenL,wrap_in (n:=(u.length:Int)+(w.length:Int)) (by omega) (by omega),geI (by omega),cond_false];rfl
 have l2:loopM (fun (s:Int×List (Int×Int))=>bif ltM s.1 (lenM [u,w]) then (idxM [u,w] s.1).bind fun r_1=>(appM (nat_lit 16) s.2 r_1).bind fun r=>some (Sum.inl (wrap .i64 (s.1+1),r)) else some (Sum.inr s.2)) (0,[])=some (u++w):=by
  refine loopM_fn (fun k=>((k:Int),if k=0 then [] else if k=1 then u else u++w)) 2 (fun k hk=>?_) rfl
  rcases (show k=0∨k=1 by omega) with rfl | rfl
  ·show ((some u).bind fun r_1=>(appM (nat_lit 16) [] r_1).bind fun r=>some (Sum.inl (wrap .i64 (((0:Nat):Int)+1),r)))=_
   rw [Option.bind_some,appM_of (by show (0+u.length)*16≤_;omega)];rfl
  ·show ((some w).bind fun r_1=>(appM (nat_lit 16) u r_1).bind fun r=>some (Sum.inl (wrap .i64 (((1:Nat):Int)+1),r)))=_
   rw [Option.bind_some,appM_of (by show (u.length+w.length)*16≤_;omega)];rfl
 refine bind_of l1 ?_
 have hg:growM ((u.length:Int)+(w.length:Int)) (0,0)=some ([]:List (Int×Int)):=by
  unfold growM
  rw [decide_eq_true (by omega),decide_eq_true (by omega)]
 refine bind_of hg ?_
 exact bind_of l2 rfl
def partP (l:List (Int×Int)) (a b:Nat):List (Int×Int):=if a≤b then (l.take (b+1)).drop a else l.drop a++l.take (b+1)
theorem partP_ok {l:List (Int×Int)} (hl:l.length≤8) {a b:Nat} (ha:a<l.length) (hb:b<l.length):(bif leM (a:Int) (b:Int) then (sliceM l (a:Int) (wrap .i64 ((b:Int)+1))).bind fun r_1=>(m61 r_1).bind fun r=>some r else
  (sliceM l (a:Int) (lenM l)).bind fun r_1=>(sliceM l 0 (wrap .i64 ((b:Int)+1))).bind fun r_2=>(m62 [r_1,r_2]).bind fun r=>some r)=some (partP l a b):=by
 unfold partP
 rw [wrap_in (n:=(b:Int)+1) (by omega) (by omega)]
 by_cases h:a≤b
 ·have e:((l.take (b+1)).drop a).length=b+1-a:=by rw [List.length_drop,List.length_take];omega
  rw [leI (by omega),cond_true,if_pos h,sliceM_of (by omega) (by omega) (by omega),Option.bind_some,show ((b:Int)+1).toNat=b+1 by omega,show (a:Int).toNat=a by omega,cloneP_ok (by omega) (by omega)];rfl
 ·have e1:(l.drop a).length=l.length-a:=List.length_drop
  have e2:(l.take (b+1)).length=b+1:=by rw [List.length_take];omega
  rw [gtI (by omega),cond_false,if_neg h,sliceM_of (by omega) (by rw [lenL];omega) (by rw [lenL];omega),Option.bind_some,sliceM_of (by omega) (by omega) (by omega),Option.bind_some,lenL,show ((l.length:Nat):Int).toNat=l.length by omega,show ((b:Int)+1).toNat=b+1 by omega,show (a:Int).toNat=a by omega,List.take_length,show (0:Int).toNat=0 from rfl,List.drop_zero,concat_ok (by omega) (by omega)];rfl
theorem cutP_ok {l:List (Int×Int)} (hl:l.length≤8) (hv:m28 l=some true) {a b:Nat} (ha:a<l.length) (hb:b<l.length):m26 (l,(a:Int),(b:Int))=some (if min (partP l a b).length (partP l b a).length<3 then ([],[],70) else (partP l a b,partP l b a,0)):=by
 unfold m26
 dsimp only
 rw [hv,Option.bind_some,notT,orF,geI (a:=min (a:Int) (b:Int)) (by omega),orF,lenL,gtI (a:=(l.length:Int)) (by omega),cond_false]
 refine bind_of (partP_ok hl ha hb) ?_
 refine bind_of (partP_ok hl hb ha) ?_
 rw [lenL,lenL]
 by_cases h:min (partP l a b).length (partP l b a).length<3
 ·rw [ltI (by omega),cond_true,if_pos h]
 ·rw [geI (by omega),cond_false,if_neg h]
theorem two_parts {W H:Nat} {l:List (Int×Int)} (hp:PlOK W H l) (w6:W≤6) (h6:H≤6) {a b:Nat} (ha:a<l.length) (hb:b<l.length) (hab:a≠b) (h3:¬ min (partP l a b).length (partP l b a).length<3) :
  PlOK W H (partP l a b)∧PlOK W H (partP l b a)∧∀ v,ovQ W H v (spS l)=ovQ W H v (spS (partP l a b))+ovQ W H v (spS (partP l b a)):=by
 have h8:=hp.h8
 have key:∀ {a b:Nat},a<b→b<l.length→¬ min (partP l a b).length (partP l b a).length<3→PlOK W H (partP l a b)∧PlOK W H (partP l b a)∧∀ v,ovQ W H v (spS l)=ovQ W H v (spS (partP l a b))+ovQ W H v (spS (partP l b a)):=by
  intro a b hab hb h3
  obtain ⟨u,w,hP⟩:=parts_ok hab hb
  have e1:partP l a b=u:=by unfold partP;rw [if_pos (by omega)];exact hP.mid
  have e2:partP l b a=w:=by unfold partP;rw [if_neg (by omega)];exact hP.out
  rw [e1,e2] at h3 ⊢
  have lu:=hP.lu
  have lw:=hP.lw
  have P1:PlOK W H u:=⟨by omega,by omega,hP.cu hp.cvx,fun p h=>hp.on p (hP.mu p h)⟩
  have P2:PlOK W H w:=⟨by omega,by omega,hP.cw hp.cvx,fun p h=>hp.on p (hP.mw p h)⟩
  exact ⟨P1,P2,fun v=>ovQ_cut (hp.pol w6 h6).poly (P1.pol w6 h6).poly (P2.pol w6 h6).poly hP.sum⟩
 rcases Nat.lt_or_gt_of_ne hab with h | h
 ·exact key h hb h3
 ·obtain ⟨k1,k2,k3⟩:=key (a:=b) (b:=a) h ha (by omega)
  exact ⟨k2,k1,fun v=>by rw [k3 v];grind⟩
theorem partP_len {l:List (Int×Int)} {a b:Nat} (ha:a<l.length) (hb:b<l.length):(partP l a b).length=if a≤b then b-a+1 else l.length-a+b+1:=by
 unfold partP
 split
 ·rw [List.length_drop,List.length_take];omega
 ·rw [List.length_append,List.length_drop,List.length_take];omega
theorem law7_ok (x:(Int×Int×Int×Int)×(List (Int×Int))×(List (Int×Int))×Int×Int) (hw:i64 x.1.1) (hh:i64 x.1.2.1) (h1:∀ p∈x.2.1,i64 p.1∧i64 p.2) (l1:x.2.1.length≤maxLen)
  (h3:∀ p∈x.2.2.1,i64 p.1∧i64 p.2) (g1:i64 x.2.2.2.1) (g2:i64 x.2.2.2.2):m7 x=some true:=by
 obtain ⟨⟨w,h,s2,s3⟩,xs,ls,ii,kk⟩:=x
 dsimp only at hw hh h1 l1 h3 g1 g2
 have F:=made_F (w:=w) (h:=h) (size:=6) (most:=100) (x:=xs) (by omega) (by omega) (by omega) (by omega)
 have e1:=made_ok (size:=6) (most:=100) hw hh (by omega) (by omega) (by omega) (by omega) h1 l1
 generalize szF w 6=W at *
 generalize szF h 6=H at *
 generalize loF 100 xs=lo at *
 generalize hiF 100 xs=hi at *
 have w1:=F.w1
 have w6:=F.w6
 have h1':=F.h1
 have h6:=F.h6
 have hWH:H*W≤36:=Nat.mul_le_mul h6 w6
 have i1:=integral_ok F
 have sl:=sT_bd F.okLo (2*(H*W)) (Nat.le_refl _)
 have sh:=sT_bd F.okHi (2*(H*W)) (Nat.le_refl _)
 have o0:=fover_ok F (rect_ok w1 h1')
 rw [ovQ_face w6 h6 w1,ovQ_face w6 h6 w1] at o0
 have ofl:m25 (sT W lo (2*(H*W)),6)=some (rt (Rat.divInt (sT W lo (2*(H*W))) 6),0):=of_ok (fits_small (by omega)) (by decide) (by decide)
 have ofh:m25 (sT W hi (2*(H*W)),6)=some (rt (Rat.divInt (sT W hi (2*(H*W))) 6),0):=of_ok (fits_small (by omega)) (by decide) (by decide)
 obtain ⟨pl,ep,hpl⟩:=part_ok (lo:=lo) (hi:=hi) w1 w6 h1' h6 h3
 have p3:=hpl.h3
 have p8:=hpl.h8
 have hv2:=pvalid_ok hpl.h3 hpl.h8 hpl.cvx (hpl.in6 w6 h6)
 have i0:=pk_lo (c:=ii) (n:=(pl.length:Int)) (by omega)
 have i2:=pk_hi (c:=ii) (n:=(pl.length:Int)) (by omega)
 have pi:=pickL_ok (n:=(pl.length:Int)) g1 (by omega)
 have k0:=pk_lo (c:=kk) (n:=max ((pl.length:Int)-3) 1) (by omega)
 have k2:=pk_hi (c:=kk) (n:=max ((pl.length:Int)-3) 1) (by omega)
 have pk':=pickL_ok (n:=max ((pl.length:Int)-3) 1) g2 (by omega)
 generalize pk ii (pl.length:Int)=I at *
 generalize pk kk (max ((pl.length:Int)-3) 1)=K at *
 obtain ⟨a,rfl⟩:∃ a:Nat,I=(a:Int):=⟨I.toNat,by omega⟩
 obtain ⟨k,rfl⟩:∃ k:Nat,K=(k:Int):=⟨K.toNat,by omega⟩
 obtain ⟨b,hb⟩:∃ b:Nat,b=(a+2+k) % pl.length:=⟨_,rfl⟩
 have hbl:b<pl.length:=by rw [hb];exact Nat.mod_lt _ (by omega)
 have ha:a<pl.length:=by omega
 have hb2:((a:Int)+2+(k:Int)) % (pl.length:Int)=(b:Int):=by
  rw [hb,Int.natCast_emod];rfl
 have hcases:b=a+2+k∨b+pl.length=a+2+k:=by
  by_cases hlt:a+2+k<pl.length
  ·left;rw [hb,Nat.mod_eq_of_lt hlt]
  ·right
   have:(a+2+k) % pl.length=a+2+k-pl.length:=by
    rw [Nat.mod_eq_sub_mod (by omega),Nat.mod_eq_of_lt (by omega)]
   omega
 have hab:a≠b:=by omega
 have hcut:=cutP_ok p8 hv2 ha hbl
 have lab:=partP_len ha hbl
 have lba:=partP_len hbl ha
 unfold fd at e1 i1 ep
 have o0':=o0
 unfold fd rectP at o0'
 unfold m7
 dsimp only
 rw [sane_ok,Option.bind_some,notT,cond_false,e1,Option.bind_some,show ∀ a b:Int,m16 (a,b)=some (a,b) from fun _ _=>rfl,Option.bind_some,show ∀ a b:Int,m16 (a,b)=some (a,b) from fun _ _=>rfl,Option.bind_some,show ∀ a b:Int,m16 (a,b)=some (a,b) from fun _ _=>rfl,Option.bind_some,show ∀ a b:Int,m16 (a,b)=some (a,b) from fun _ _=>rfl,Option.bind_some]
 refine bind_of i1 ?_
 refine bind_of o0' ?_
 rw [ofl,Option.bind_some,ofh,Option.bind_some]
 dsimp only
 rw [eqM_self,eqs_self,eqs_self,eqs_self,eqs_self,andT,notT,orff,orff,cond_false,ep,Option.bind_some,lenL,pi,Option.bind_some,wrap_in (n:=(pl.length:Int)-3) (by omega) (by omega),pk',Option.bind_some,wrap_in (n:=(a:Int)+2) (by omega) (by omega),wrap_in (n:=(a:Int)+2+(k:Int)) (by omega) (by omega),remM_of (by omega) (by omega),Option.bind_some,hb2]
 refine bind_of hcut ?_
 by_cases h3':min (partP pl a b).length (partP pl b a).length<3
 ·have hl3:pl.length=3:=by
   rw [lab,lba] at h3'
   split at h3'<;>split at h3'<;>omega
  rw [if_pos h3']
  dsimp only
  rw [neI (by decide),notF,cond_true,hl3];rfl
 ·obtain ⟨q1,q2,q3⟩:=two_parts hpl w6 h6 ha hbl hab h3'
  rw [if_neg h3']
  dsimp only
  rw [eqM_self,notT,cond_false]
  have o1:=fover_ok F hpl
  have o2:=fover_ok F q1
  have o3:=fover_ok F q2
  have len1:(spS (partP pl a b)).length≤8:=by rw [spS_len];exact q1.h8
  have len2:(spS (partP pl b a)).length≤8:=by rw [spS_len];exact q2.h8
  have s1:=sumF_ok (ovQ_dn2 F.okLo (q1.pol w6 h6) len1) (ovQ_dn2 F.okLo (q2.pol w6 h6) len2)
  have s2:=sumF_ok (ovQ_dn2 F.okHi (q1.pol w6 h6) len1) (ovQ_dn2 F.okHi (q2.pol w6 h6) len2)
  rw [q3 lo,q3 hi] at o1
  unfold fd at o1 o2 o3
  refine bind_of o1 ?_
  refine bind_of o2 ?_
  refine bind_of o3 ?_
  dsimp only
  rw [eqM_self]
  simp only [andT,cond_true]
  rw [s1,Option.bind_some]
  dsimp only
  rw [eqs_self,eqs_self]
  simp only [andT,cond_true]
  rw [s2,Option.bind_some]
  dsimp only
  rw [eqs_self,eqs_self]
  rfl
end Go.Proofs.YtechphmljdgoaaaGreatDoor
namespace Go.Proofs.YtechphmljdgoaaaGreatDoor
open Go Go.Abs Go.PE
theorem mem_in {t:Ty} {l:List t.den} (h:InR (.list t) l):∀ x∈l,InR t x:=fun x hx=>by
 obtain ⟨i,hi,rfl⟩:=List.mem_iff_getElem.1 hx
 exact h.2 i _ (List.getElem?_eq_getElem hi)
theorem law7:∀ (S:Cells) (w:World) (η:Eta) (vs:List Value) x,All2 (RM S w η) (rvs as7 x) vs→m7 x=some true :=
 law_of_ok fun x h=>law7_ok x h.1.1 h.1.2.1 (mem_in h.2.1) h.2.1.1 (mem_in h.2.2.1) h.2.2.2.1 h.2.2.2.2
end Go.Proofs.YtechphmljdgoaaaGreatDoor
