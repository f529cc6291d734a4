/-
 Texts of this proof, put together: Ho, Hp, Hq, Hr, Hs, F, Fs, Ht, LawFieldPartsMatchReference.
 No conditions.
-/
import Derived.Test.YtdgabicjcepmeaaGreatDoorZ6
import Derived.Test.YtdgabicjcepmeaaGreatDoorZ5
set_option linter.all false
namespace Go.Proofs.YtdgabicjcepmeaaGreatDoor
open Go Go.Abs Go.PE Go.Num
open Go.IntKind (wrap)
theorem pol_clL:∀ {Ls:List Spt},OkL Ls→∀ {P:List Spt},Pol P→Pol (clL Ls P)
 | [],_,_,hP=>hP
 | L::Ls,h,P,hP=>by
  obtain ⟨o,ho⟩:=h L (by simp)
  exact pol_clR ho.l1 ho.l2 ho.l0 (pol_clL (fun M hM=>h M (by simp [hM])) hP)
theorem tri_ref {W H:Nat} (w6:W≤6) (h6:H≤6) {P:List (Int×Int)} (hP:PlOK W H P) {ax ay bx by_ cx cy:Int} (T:Trg W H ax ay bx by_ cx cy) {Ls:List Spt} (hLs:OkL Ls) (hT:Tr3 (ax,ay) (bx,by_) (cx,cy)=Ls.reverse) (va vb vc:Int) (V':Rat×Rat×Rat) :
  ∃ O,m67 (((ax,ay,va),(bx,by_,vb),cx,cy,vc),P)=some O∧OkO O∧fan V' O=fan V' (clL Ls (spS P)):=by
 have hCrn:Crn (Ls++plS P) (allV (Tr3 (ax,ay) (bx,by_) (cx,cy)++plS P) (Tr3 (ax,ay) (bx,by_) (cx,cy)++plS P).length):=by
  rw [hT];exact allV_rev Ls P
 obtain ⟨V,hV⟩:∃ V,V=allV (Tr3 (ax,ay) (bx,by_) (cx,cy)++plS P) (Tr3 (ax,ay) (bx,by_) (cx,cy)++plS P).length:=⟨_,rfl⟩
 rw [← hV] at hCrn
 obtain ⟨c1,c2⟩:=cut_ref hP.h3 hP.cvx (okL_nz hLs) hCrn (efn_fn V')
 have in6:∀ {x y:Int},0≤x∧x≤W∧0≤y∧y≤H→In6 (x,y):=fun h=>⟨by dsimp only;omega,by dsimp only;omega,by dsimp only;omega,by dsimp only;omega⟩
 obtain ⟨O,e,o1,o2⟩:=common_ok (p:=(ax,ay)) (q:=(bx,by_)) (r:=(cx,cy)) (in6 T.a) (in6 T.b) (in6 T.c) va vb vc hP.h3 hP.h8 (hP.in6 w6 h6) hV (fun h3=>(c2 h3).1)
 refine ⟨O,e,?_⟩
 by_cases h3:V.length<3
 ·have:=o1 h3
  subst this
  refine ⟨⟨by simp,fun x hx=>by cases hx⟩,?_⟩
  rw [fan_cyc V' (clL Ls (spS P)),c1 h3];rfl
 ·have hR:=o2 (by omega)
  obtain ⟨_,d2,d3⟩:=c2 (by omega)
  have hb:=(pol_clL hLs (hP.pol w6 h6)).bx
  refine ⟨⟨hR.le,fun x hx=>⟨hR.pb x hx,hCrn.sp x (hR.mem x hx),?_⟩⟩,?_⟩
  ·obtain ⟨y,hy,ey⟩:=d2 x (hR.mem x hx)
   exact ⟨y,hb y hy,ey⟩
  ·have hl:=hR.len
   rw [fan_cyc,fan_cyc]
   exact d3 O hR.len (hR.mem _ (getD_mem3 (by omega))) hR.nx
theorem rover_ok {W H:Nat} {v:Nat→Int} {lo hi:List Int} (h:OkV W H v) {P:List (Int×Int)} (hP:PlOK W H P):m37 (((W:Int),(H:Int),lo,hi),row (nn W H) v,P)=some (rt (ovQ W H v (spS P))):=by
 have w6:=h.w6
 have h6:=h.h6
 have w1:=h.w1
 have hWH:H*W≤36:=Nat.mul_le_mul h6 w6
 have h8:=hP.h8
 have hlen:(spS P).length≤8:=by rw [spS_len];exact h8
 have hof:m65 (0,1)=some (rt (qsum 0 (ovT W v (spS P))),0):=by
  rw [rof_ok (n:=0) (d:=1) (by decide) (by decide) (by decide)];rfl
 unfold m37
 dsimp only
 rw [hof,Option.bind_some,tris_ok w6 h6,Option.bind_some]
 refine bind_of (x:=rt (ovQ W H v (spS P))) ?_ rfl
 refine count_loop (fun k=>rt (qsum k (ovT W v (spS P)))) (2*(H*W)) (fun k hk=>?_) ?_
 ·have hc:k / 2<H*W:=by omega
  have hx:k / 2 % W<W:=Nat.mod_lt _ (by omega)
  have hy:k / 2 / W<H:=(Nat.div_lt_iff_lt_mul (by omega)).2 hc
  have hdm:=Nat.div_add_mod' (k / 2) W
  have dn:=ovQ_dn h (hP.pol w6 h6) hlen k (by omega)
  dsimp only
  rw [lenR,ltI (by omega),cond_true,row_idx hk,Option.bind_some]
  rw [show qsum (k+1) (ovT W v (spS P))=qsum k (ovT W v (spS P))+ovT W v (spS P) k from rfl]
  generalize k / 2 % W=cx at *
  generalize k / 2 / W=cy at *
  generalize hacc:qsum k (ovT W v (spS P))=acc at *
  rcases (show k=2*(cy*W+cx)∨k=2*(cy*W+cx)+1 by omega) with e | e
  ·have T:=trg_low (x:=cx) (y:=cy) w6 h6 hx hy
   obtain ⟨O,e1,e2,e3⟩:=tri_ref w6 h6 hP T (okL_low cx cy) (thr_low cx cy) (nv W v cx cy) (nv W v (cx+1) cy) (nv W v (cx+1) (cy+1)) (lowV W v cx cy)
   have e4:=rfanE_ok h T e2 (by omega) dn
   rw [line_gY,line_lX,line_dL] at e4
   rw [e,triF_low v hx,ovT_low v _ hx,← e,← e3]
   unfold nd
   dsimp only
   refine bind_of e1 ?_
   refine bind_of e4 ?_
   rw [wrap_in (by omega) (by omega)];rfl
  ·have T:=trg_upp (x:=cx) (y:=cy) w6 h6 hx hy
   obtain ⟨O,e1,e2,e3⟩:=tri_ref w6 h6 hP T (okL_upp cx cy) (thr_upp cx cy) (nv W v cx cy) (nv W v (cx+1) (cy+1)) (nv W v cx (cy+1)) (uppV W v cx cy)
   have e4:=rfanE_ok h T e2 (by omega) dn
   rw [line_ndL,line_lY,line_gX] at e4
   rw [e,triF_upp v hx,ovT_upp v _ hx,← e,← e3]
   unfold nd
   dsimp only
   refine bind_of e1 ?_
   refine bind_of e4 ?_
   rw [wrap_in (by omega) (by omega)];rfl
 ·dsimp only
  rw [lenR,geI (by omega),cond_false];rfl
end Go.Proofs.YtdgabicjcepmeaaGreatDoor
namespace Go.Proofs.YtdgabicjcepmeaaGreatDoor
open Go Go.Abs Go.PE Go.Num
open Go.IntKind (wrap)
theorem rrsub_small {n d m e:Int} (hd:d≠0) (he:e≠0) (h1:n.natAbs≤1000000000000000000) (h2:d.natAbs≤1000000000000000000) (h3:m.natAbs≤1000000000000000000) (h4:e.natAbs≤1000000000000000000) :
  m74 (rt (Rat.divInt n d),rt (Rat.divInt m e))=some (rt (Rat.divInt n d-Rat.divInt m e),0):=by
 obtain ⟨a1,a2⟩:=divInt_small hd h1 h2
 obtain ⟨b1,b2⟩:=divInt_small he h3 h4
 have f:∀ {x:Nat},x≤1000000000000000000→x<10 ^ 200:=fun h=>Nat.lt_of_le_of_lt h (by decide)
 have g:∀ {x y:Nat},x≤1000000000000000000→y≤1000000000000000000→x*y≤1000000000000000000*1000000000000000000:=fun h h'=>Nat.mul_le_mul h h'
 have g2:1000000000000000000*1000000000000000000+1000000000000000000*1000000000000000000<10 ^ 200:=by decide
 have p1:((Rat.divInt n d).num*((Rat.divInt m e).den:Int)).natAbs≤1000000000000000000*1000000000000000000:=by rw [Int.natAbs_mul,Int.natAbs_natCast];exact g a1 b2
 have p2:((Rat.divInt m e).num*((Rat.divInt n d).den:Int)).natAbs≤1000000000000000000*1000000000000000000:=by rw [Int.natAbs_mul,Int.natAbs_natCast];exact g b1 a2
 refine rrsub_ok ⟨f a1,?_⟩ ⟨f b1,?_⟩ ?_ ?_ ?_ ?_
 ·unfold Fits;rw [Int.natAbs_natCast];exact f a2
 ·unfold Fits;rw [Int.natAbs_natCast];exact f b2
 ·unfold Fits;omega
 ·unfold Fits;omega
 ·unfold Fits
  have:=Int.natAbs_sub_le ((Rat.divInt n d).num*((Rat.divInt m e).den:Int)) ((Rat.divInt m e).num*((Rat.divInt n d).den:Int))
  omega
 ·unfold Fits;rw [Int.natAbs_mul,Int.natAbs_natCast,Int.natAbs_natCast]
  have:=g a2 b2
  omega
theorem k30 (a b c:Int):chkM 0 (lenM [a,b,c])=some ():=rfl
theorem k31 (a b c:Int):chkM 1 (lenM [a,b,c])=some ():=rfl
theorem k32 (a b c:Int):chkM 2 (lenM [a,b,c])=some ():=rfl
theorem s30 (a b c d:Int):setM [a,b,c] 0 (fun (x:Int)=>some d)=some [d,b,c]:=rfl
theorem s31 (a b c d:Int):setM [a,b,c] 1 (fun (x:Int)=>some d)=some [a,d,c]:=rfl
theorem s32 (a b c d:Int):setM [a,b,c] 2 (fun (x:Int)=>some d)=some [a,b,d]:=rfl
theorem w1_:wrap .i64 ((0:Int)+1)=1:=rfl
theorem w2_:wrap .i64 ((1:Int)+1)=2:=rfl
theorem pass3 (a b c:Int):loopM (fun (s_2:Int×List Int)=>bif ltM s_2.1 2 then ((chkM s_2.1 (lenM s_2.2)).bind fun r_5=>(idxM s_2.2 s_2.1).bind fun r_6 =>
 (chkM (wrap .i64 (s_2.1+1)) (lenM s_2.2)).bind fun r_7=>(idxM s_2.2 (wrap .i64 (s_2.1+1))).bind fun r_8=>bif ltM r_6 r_8 then (chkM
 (wrap .i64 (s_2.1+1)) (lenM s_2.2)).bind fun r_9=>(idxM s_2.2 (wrap .i64 (s_2.1+1))).bind fun r_10=>(chkM s_2.1 (lenM s_2.2)).bind fun
 r_11=>(idxM s_2.2 s_2.1).bind fun r_12=>(chkM s_2.1 (lenM s_2.2)).bind fun r_13=>(setM s_2.2 s_2.1 fun (x:Int)=>some r_10).bind fun r_14=>(chkM
 (wrap .i64 (s_2.1+1)) (lenM r_14)).bind fun r_15=>(setM r_14 (wrap .i64 (s_2.1+1)) fun (x:Int)=>some r_12).bind fun r=>some r else
 some s_2.2).bind fun o=>some (Sum.inl (wrap .i64 (s_2.1+1),o)) else some (Sum.inr s_2.2)) (0,[a,b,c])=some [max a b,max (min a b) c,min (min a b) c]:=by
 refine loopM_fn (fun k=>((k:Int),if k=0 then [a,b,c] else if k=1 then [max a b,min a b,c] else [max a b,max (min a b) c,min (min a b) c])) 2 (fun k hk=>?_) rfl
 rcases (show k=0∨k=1 by omega) with rfl | rfl
 ·refine Eq.trans (b:=some (Sum.inl ((1:Int),[max a b,min a b,c]))) ?_ rfl
  dsimp only
  rw [if_pos rfl,show ((0:Nat):Int)=0 from rfl,ltI (by omega),cond_true,w1_]
  by_cases h:a<b
  ·simp only [k30,k31,i30,i31,Option.bind_some,ltI h,cond_true,s30,s31]
   rw [show max a b=b by omega,show min a b=a by omega]
  ·simp only [k30,k31,i30,i31,Option.bind_some,geI (show b≤a by omega),cond_false]
   rw [show max a b=a by omega,show min a b=b by omega]
 ·refine Eq.trans (b:=some (Sum.inl ((2:Int),[max a b,max (min a b) c,min (min a b) c]))) ?_ rfl
  dsimp only
  rw [if_neg (by decide),if_pos rfl,show ((1:Nat):Int)=1 from rfl,ltI (by omega),cond_true,w2_]
  by_cases h:min a b<c
  ·simp only [k31,k32,i31,i32,Option.bind_some,ltI h,cond_true,s31,s32]
   rw [show max (min a b) c=c by omega,show min (min a b) c=min a b by omega]
  ·simp only [k31,k32,i31,i32,Option.bind_some,geI (show c≤min a b by omega),cond_false]
   rw [show max (min a b) c=min a b by omega,show min (min a b) c=c by omega]
theorem rabove_ok {W H:Nat} {v:Nat→Int} {lo hi:List Int} (h:OkV W H v) {n:Int} (n0:0≤n) (n1:n≤100):m42 (((W:Int),(H:Int),lo,hi),row (nn W H) v,n)=some (rt (abQ W H v n)):=by
 have w6:=h.w6
 have h6:=h.h6
 have hWH:H*W≤36:=Nat.mul_le_mul h6 w6
 have hof:m65 (0,1)=some (rt (qsum 0 (aT W v n)),0):=by
  rw [rof_ok (n:=0) (d:=1) (by decide) (by decide) (by decide)];rfl
 have hhalf:m65 (1,2)=some (rt (Rat.divInt 1 2),0):=rof_ok (n:=1) (d:=2) (by decide) (by decide) (by decide)
 unfold m42
 dsimp only
 rw [hof,Option.bind_some,tris_ok w6 h6,Option.bind_some]
 refine bind_of (x:=rt (abQ W H v n)) ?_ rfl
 refine count_loop (fun k=>rt (qsum k (aT W v n))) (2*(H*W)) (fun k hk=>?_) ?_
 ·have t:=tSum_bd h (show k<2*(H*W) by omega)
  have dn:=abQ_dn h n0 n1 k (by omega)
  dsimp only
  rw [lenR,ltI (by omega),cond_true,row_idx hk,Option.bind_some,Option.bind_some,Option.bind_some]
  show (Option.bind _ _)=some (Sum.inl ((k:Int)+1,rt (qsum k (aT W v n)+arT (triF W v k).1.2.2 (triF W v k).2.1.2.2 (triF W v k).2.2.2.2 n)))
  generalize qsum k (aT W v n)=acc at *
  generalize (triF W v k).1.2.2=p at *
  generalize (triF W v k).2.1.2.2=q at *
  generalize (triF W v k).2.2.2.2=r at *
  have hdn2:Dn DA 2 (arT p q r n):=by
   have:=(abvT_ok (p:=p) (q:=q) (r:=r) ⟨t.1,t.2.1⟩ ⟨t.2.2.1,t.2.2.2.1⟩ t.2.2.2.2 n0 n1 (B:=0) (acc:=0) (by omega) Dn.zero).2
   rw [Rat.zero_add,Nat.zero_add] at this
   exact this
  obtain ⟨a,hadef⟩:∃ a,a=min p (min q r):=⟨_,rfl⟩
  obtain ⟨b,hbdef⟩:∃ b,b=max (min p q) (min (max p q) r):=⟨_,rfl⟩
  obtain ⟨c,hcdef⟩:∃ c,c=max p (max q r):=⟨_,rfl⟩
  have hab:0≤a∧a≤b∧b≤c∧c≤100:=by omega
  refine bind_of (x:=[c,b,a]) ?_ ?_
  ·refine loopM_fn (fun k=>((k:Int),if k=0 then [p,q,r] else if k=1 then [max p q,max (min p q) r,min (min p q) r] else [c,b,a])) 2 (fun k hk=>?_) rfl
   rcases (show k=0∨k=1 by omega) with rfl | rfl
   ·exact bind_of (pass3 p q r) rfl
   ·refine bind_of (pass3 (max p q) (max (min p q) r) (min (min p q) r)) ?_
    refine congrArg (fun l=>some (Sum.inl ((2:Int),l))) ?_
    show _=[c,b,a]
    rw [show max (max p q) (max (min p q) r)=c by omega,show max (min (max p q) (max (min p q) r)) (min (min p q) r)=b by omega,show min (min (max p q) (max (min p q) r)) (min (min p q) r)=a by omega]
  ·rw [Option.bind_some,hhalf,Option.bind_some]
   have har:arT p q r n=ar ((a-n:Int):Rat) ((b-n:Int):Rat) ((c-n:Int):Rat):=by unfold arT;rw [hadef,hbdef,hcdef]
   clear hadef hbdef hcdef t
   have qle:∀ {x y:Int},x≤y↔((x:Int):Rat)≤((y:Int):Rat):=fun {x y}=>Rat.intCast_le_intCast.symm
   have qlt:∀ {x y:Int},x<y↔((x:Int):Rat)<((y:Int):Rat):=fun {x y}=>Rat.intCast_lt_intCast.symm
   have z0:((0:Int):Rat)=0:=rfl
   have e3:((2:Int):Rat)=2:=rfl
   have sqb:∀ {x:Int},0≤x→x≤100→0≤x*x∧x*x≤10000:=fun {x} hx hy=>prod_bd (A:=100) (B:=100) hx hy hx hy
   refine bind_of (x:=rt (arT p q r n)) ?_ (bind_of (rradd_dn dn hdn2 DA_pos (E:=1000) (by omega) DA_fit) (by rw [wrap_in (by omega) (by omega)]))
   rw [har]
   simp only [k30,k31,k32,i30,i31,i32,Option.bind_some]
   by_cases ha:n<a
   ·rw [ltI ha,cond_true,ar_1 (by rw [← z0,← qlt];omega),show (1:Rat) / 2=Rat.divInt 1 2 from (Rat.divInt_eq_div 1 2).symm]
   ·rw [geI (by omega),cond_false]
    by_cases hb:n<b
    ·have p1:=sqb (x:=n-a) (by omega) (by omega)
     have p2:=prod_bd (a:=b-a) (b:=c-a) (A:=100) (B:=100) (by omega) (by omega) (by omega) (by omega)
     have p3:=Int.mul_pos (show 0<b-a by omega) (show 0<c-a by omega)
     have e2:2*(c-a)*(b-a)=2*((b-a)*(c-a)):=by grind
     rw [ltI hb,cond_true,wrap_in (n:=n-a) (by omega) (by omega),wrap_in (n:=(n-a)*(n-a)) (by omega) (by omega),wrap_in (n:=c-a) (by omega) (by omega),wrap_in (n:=2*(c-a)) (by omega) (by omega),wrap_in (n:=b-a) (by omega) (by omega),wrap_in (n:=2*(c-a)*(b-a)) (by omega) (by omega),rof_ok (by omega) (by omega) (by omega),Option.bind_some]
     refine bind_of (rrsub_small (n:=1) (d:=2) (by omega) (by omega) (by omega) (by omega) (by omega) (by omega)) ?_
     show some (rt (Rat.divInt 1 2-Rat.divInt ((n-a)*(n-a)) (2*(c-a)*(b-a))))=_
     congr 2
     rw [ar_2 (by rw [← z0,← qle];omega) (by rw [← z0,← qlt];omega),Rat.divInt_eq_div,Rat.divInt_eq_div]
     simp only [Rat.intCast_mul,Rat.intCast_sub]
     rw [e3,show ((1:Int):Rat)=1 from rfl]
     congr 2<;>grind
    ·rw [geI (by omega),cond_false]
     by_cases hc:n<c
     ·have p1:=sqb (x:=c-n) (by omega) (by omega)
      have p2:=prod_bd (a:=c-b) (b:=c-a) (A:=100) (B:=100) (by omega) (by omega) (by omega) (by omega)
      have p3:=Int.mul_pos (show 0<c-b by omega) (show 0<c-a by omega)
      have e2:2*(c-b)*(c-a)=2*((c-b)*(c-a)):=by grind
      rw [ltI hc,cond_true,wrap_in (n:=c-n) (by omega) (by omega),wrap_in (n:=(c-n)*(c-n)) (by omega) (by omega),wrap_in (n:=c-b) (by omega) (by omega),wrap_in (n:=2*(c-b)) (by omega) (by omega),wrap_in (n:=c-a) (by omega) (by omega),wrap_in (n:=2*(c-b)*(c-a)) (by omega) (by omega),rof_ok (by omega) (by omega) (by omega),Option.bind_some]
      show some (rt (Rat.divInt ((c-n)*(c-n)) (2*(c-b)*(c-a))))=_
      congr 2
      rw [ar_3 (by rw [← z0,← qle];omega) (by rw [← z0,← qle];omega) (by rw [← z0,← qlt];omega),Rat.divInt_eq_div]
      simp only [Rat.intCast_mul,Rat.intCast_sub]
      rw [e3]
      congr 1<;>grind
     ·rw [geI (by omega),cond_false,ar_4 (by rw [← z0,← qle];omega) (by rw [← z0,← qle];omega) (by rw [← z0,← qle];omega)];rfl
 ·dsimp only
  rw [lenR,geI (by omega),cond_false];rfl
end Go.Proofs.YtdgabicjcepmeaaGreatDoor
namespace Go.Proofs.YtdgabicjcepmeaaGreatDoor
open Go Go.Abs Go.PE Go.Num
open Go.IntKind (wrap)
abbrev On40 (p:Int×Int):Prop:=0≤p.1∧p.1≤40∧0≤p.2∧p.2≤40
theorem turn40 {a b c:Int×Int} (ha:On40 a) (hb:On40 b) (hc:On40 c):m50 ((a.1,a.2),(b.1,b.2),c.1,c.2)=some (trn a b c)∧m53 ((a.1,a.2),(b.1,b.2),c.1,c.2)=some (trn a b c):=by
 obtain ⟨a0,a1,a2,a3⟩:=ha
 obtain ⟨b0,b1,b2,b3⟩:=hb
 obtain ⟨c0,c1,c2,c3⟩:=hc
 have p1:=mul_in (x:=b.1-a.1) (y:=c.2-a.2) (A:=40) (B:=40) (by omega) (by omega)
 have p2:=mul_in (x:=b.2-a.2) (y:=c.1-a.1) (A:=40) (B:=40) (by omega) (by omega)
 unfold m50 m53 trn
 dsimp only
 rw [wrap_in (n:=b.1-a.1) (by omega) (by omega),wrap_in (n:=c.2-a.2) (by omega) (by omega),wrap_in (n:=b.2-a.2) (by omega) (by omega),wrap_in (n:=c.1-a.1) (by omega) (by omega),wrap_in (n:=(b.1-a.1)*_) (by omega) (by omega),wrap_in (n:=(b.2-a.2)*_) (by omega) (by omega),wrap_in (by omega) (by omega)]
 exact ⟨rfl,rfl⟩
theorem off_ok (p:Int×Int):m52 (p.1,p.2)=some (decide (¬ On40 p))∧m63 (p.1,p.2)=some (decide (On40 p)):=by
 unfold m52 m63
 dsimp only
 by_cases h:0≤p.1∧p.1≤40∧0≤p.2∧p.2≤40
 ·rw [decide_eq_true h,decide_eq_false (fun q=>q h),geI (a:=min p.1 p.2) (by omega),geI (a:=40) (by omega),leI h.1,leI h.2.1,leI h.2.2.1,leI h.2.2.2]
  exact ⟨rfl,rfl⟩
 ·rw [decide_eq_false h,decide_eq_true h]
  constructor
  ·by_cases h1:min p.1 p.2<0
   ·rw [ltI h1];rfl
   ·rw [geI (by omega),ltI (a:=40) (by omega)];rfl
  ·unfold leM
   congr 1
   by_cases h1:0≤p.1
   ·by_cases h2:p.1≤40
    ·by_cases h3:0≤p.2
     ·rw [decide_eq_true h1,decide_eq_true h2,decide_eq_true h3,decide_eq_false (show ¬ p.2≤40 by omega)];rfl
     ·rw [decide_eq_true h1,decide_eq_true h2,decide_eq_false h3];rfl
    ·rw [decide_eq_true h1,decide_eq_false h2];rfl
   ·rw [decide_eq_false h1];rfl
theorem first_bad {n:Nat} {body:Int→Option (Int⊕(Unit⊕Int))} (bad:Nat→Prop) (h:∃ k,k<n∧bad k) (hb:∀ k,k<n→(bad k→body (k:Int)=some (.inr (.inr (k:Int))))∧(¬ bad k→body (k:Int)=some (.inl ((k:Int)+1)))):∃ j:Int,0≤j∧loopM body 0=some (.inr j):=by
 obtain ⟨k0,hk0,hb0⟩:=h
 have:Ans (loopM body 0) fun o=>∃ j:Int,0≤j∧o=.inr j:=by
  refine Ans.loop (fun k s=>s=(k:Int)∧∃ j,k≤j∧j<n∧bad j) n ⟨rfl,k0,by omega,hk0,hb0⟩ ?_
  rintro k s hk ⟨rfl,j,h1,h2,h3⟩
  have hkn:k<n:=by omega
  by_cases hbad:bad k
  ·exact .of ((hb k hkn).1 hbad) (show ∃ j:Int,0≤j∧(Sum.inr (k:Int):Unit⊕Int)=.inr j from ⟨k,by omega,rfl⟩)
  ·refine .of ((hb k hkn).2 hbad) (show k<n∧_ from ⟨hkn,by omega,j,?_,h2,h3⟩)
   rcases Nat.lt_or_ge k j with h | h
   ·omega
   ·have:k=j:=by omega
    subst this
    exact absurd h3 hbad
 obtain ⟨o,h1,j,h2,h3⟩:=this
 exact ⟨j,h2,by rw [h1,h3]⟩
structure PlM (l:List (Int×Int)):Prop where
 h3:3≤l.length
 h8:l.length≤8
 cvx:Cvx l
 on:∀ p∈l,On40 p
theorem plv_cases (l:List (Int×Int)) (hl:l.length≤100):(PlM l∧m25 l=some true∧m36 l=some true)∨(m25 l=some false∧m36 l=some false):=by
 unfold m25 m36
 rw [lenL]
 by_cases hlen:3≤l.length∧l.length≤8
 case neg =>
  right
  have:PE.orM (ltM (l.length:Int) 3) (ltM 8 (l.length:Int))=true:=by
   by_cases h:l.length<3
   ·rw [ltI (by omega)];rfl
   ·rw [geI (by omega),ltI (a:=8) (by omega)];rfl
  rw [this]
  exact ⟨rfl,rfl⟩
 obtain ⟨g3,g8⟩:=hlen
 have hlt:PE.orM (ltM (l.length:Int) 3) (ltM 8 (l.length:Int))=false:=by rw [geI (by omega),geI (a:=8) (by omega)];rfl
 rw [hlt,notF,cond_true,cond_false]
 by_cases hoff:∃ k,k<l.length∧¬ On40 (l.getD k (0,0))
 ·right
  constructor
  ·obtain ⟨j,j0,ej⟩:=first_bad (n:=l.length) (body:=fun (s:Int)=>bif ltM s (l.length:Int) then (idxM l s).bind fun r=>(m52 (r.1,
     r.2)).bind fun r=>bif r then some (Sum.inr (Sum.inr s)) else some (Sum.inl (wrap .i64 (s+1))) else some (Sum.inr (Sum.inl ()))) _ hoff fun k hk=>by
    rw [ltI (by omega),cond_true,getP hk,Option.bind_some,(off_ok _).1,Option.bind_some]
    refine ⟨fun hb=>by rw [decide_eq_true hb,cond_true],fun hb=>by rw [decide_eq_false hb,cond_false,wrap_in (by omega) (by omega)]⟩
   refine bind_of (x:=true) ?_ rfl
   refine bind_of (x:=j) (bind_of ej rfl) ?_
   rw [leI j0]
  ·refine bind_of (bad_loop (n:=l.length) _ hoff fun k hk=>?_) rfl
   rw [ltI (by omega),cond_true,getP hk,Option.bind_some,(off_ok _).2,Option.bind_some]
   refine ⟨fun hb=>by rw [decide_eq_false hb,notF,cond_true],fun hb=>by rw [decide_eq_true (Classical.not_not.1 hb),notT,cond_false,wrap_in (by omega) (by omega)]⟩
 ·have hon:∀ k,k<l.length→On40 (l.getD k (0,0)):=fun k hk=>Classical.not_not.1 fun q=>hoff ⟨k,hk,q⟩
  have l1:((loopM (fun (s:Int)=>bif ltM s (l.length:Int) then (idxM l s).bind fun r=>(m52 (r.1,
     r.2)).bind fun r=>bif r then some (Sum.inr (Sum.inr s)) else some (Sum.inl (wrap .i64 (s+1))) else some (Sum.inr (Sum.inl ()))) 0).bind fun o =>
     Sum.elim (fun (t:Unit)=>some (-1)) (fun (t:Int)=>some t) o)=some (-1):=by
   refine bind_of (pass_loop (n:=l.length) (fun k hk=>?_) ?_) rfl
   ·rw [ltI (by omega),cond_true,getP hk,Option.bind_some,(off_ok _).1,Option.bind_some,decide_eq_false (fun q=>q (hon k hk)),cond_false,wrap_in (by omega) (by omega)]
   ·rw [geI (by omega),cond_false]
  have l2:loopM (fun (s:Int)=>bif ltM s (l.length:Int) then (idxM l s).bind fun r=>(m63 (r.1,
     r.2)).bind fun r=>bif PE.notM r then some (Sum.inr (Sum.inr false)) else some (Sum.inl (wrap .i64 (s+1))) else some (Sum.inr (Sum.inl ()))) 0=some (.inl ()):=by
   refine pass_loop (n:=l.length) (fun k hk=>?_) ?_
   ·rw [ltI (by omega),cond_true,getP hk,Option.bind_some,(off_ok _).2,Option.bind_some,decide_eq_true (hon k hk),notT,cond_false,wrap_in (by omega) (by omega)]
   ·rw [geI (by omega),cond_false]
  rw [l1,Option.bind_some,Option.bind_some,show leM 0 (-1)=false from rfl,show PE.orM false false=false from rfl,cond_false,l2,Option.bind_some,Sum.elim_inl]
  -- one pair of an edge and a corner
  have hmod:∀ {i:Nat},i<l.length→(remM (wrap .i64 ((i:Int)+1)) (l.length:Int))=some (((i+1) % l.length:Nat):Int):=fun {i} hi=>by
   rw [wrap_in (by omega) (by omega),remM_of (by omega) (by omega),Int.natCast_emod];rfl
  have in1:∀ {i k:Nat},i<l.length→k<l.length→(bif PE.andM (PE.notM (eqM (k:Int) (i:Int))) (PE.notM (eqM (k:Int) (((i+1) % l.length:Nat):Int))) then idxM l (((i+1) % l.length:Nat):Int) else some (0,0)).bind (fun r_3=>(bif PE.andM (PE.notM (eqM (k:Int) (i:Int))) (PE.notM (eqM (k:Int) (((i+1) % l.length:Nat):Int))) then m53 (((l.getD i (0,0)).1,
    (l.getD i (0,0)).2),(r_3.1,r_3.2),(l.getD k (0,0)).1,(l.getD k (0,0)).2) else some 0).bind fun r=>bif PE.andM (PE.andM (PE.notM (eqM (k:Int) (i:Int))) (PE.notM (eqM (k:Int) (((i+1) % l.length:Nat):Int)))) (leM r 0) then some
    (Sum.inr (Sum.inr false)) else some (Sum.inl (wrap .i64 ((k:Int)+1))))=if k≠i∧k≠(i+1) % l.length∧trn (l.getD i (0,0)) (l.getD ((i+1) % l.length) (0,0)) (l.getD k (0,0))≤0 then some (Sum.inr (Sum.inr false):Int⊕(Unit⊕Bool)) else some (.inl ((k:Int)+1)):=fun {i k} hi hk=>by
   have hn:(i+1) % l.length<l.length:=Nat.mod_lt _ (by omega)
   by_cases e1:k=i
   ·rw [eqI (a:=(k:Int)) (b:=(i:Int)) (by omega),notT,andF,cond_false,Option.bind_some,cond_false,Option.bind_some,andF,cond_false,if_neg (fun q=>q.1 e1),wrap_in (by omega) (by omega)]
   ·rw [neI (a:=(k:Int)) (b:=(i:Int)) (by omega),notF,andT]
    by_cases e2:k=(i+1) % l.length
    ·rw [eqI (by omega),notT,cond_false,Option.bind_some,cond_false,Option.bind_some,andF,cond_false,if_neg (fun q=>q.2.1 e2),wrap_in (by omega) (by omega)]
    ·rw [neI (by omega),notF,cond_true,getP hn,Option.bind_some,cond_true,(turn40 (hon i hi) (hon _ hn) (hon k hk)).2,Option.bind_some,andT]
     by_cases ht:trn (l.getD i (0,0)) (l.getD ((i+1) % l.length) (0,0)) (l.getD k (0,0))≤0
     ·rw [leI ht,cond_true,if_pos ⟨e1,e2,ht⟩]
     ·rw [gtI (by omega),cond_false,if_neg (fun q=>ht q.2.2),wrap_in (by omega) (by omega)]
  have hend:∀ {i:Nat},i<l.length→m64 (l,(i:Int))=some (l.getD ((i+1) % l.length) (0,0)):=fun {i} hi=>by
   have hn:(i+1) % l.length<l.length:=Nat.mod_lt _ (by omega)
   unfold m64
   dsimp only
   rw [lenL,hmod hi,Option.bind_some,getP hn];rfl
  have in2:∀ {i k:Nat},i<l.length→k<l.length→(bif PE.notM (eqM (k:Int) (i:Int)) then remM (wrap .i64 ((i:Int)+1)) (l.length:Int) else some 0).bind (fun r=>(bif PE.andM (PE.notM (eqM (k:Int) (i:Int))) (PE.notM (eqM (k:Int) r)) then idxM l (i:Int) else
    some (0,0)).bind fun r_1=>(bif PE.andM (PE.notM (eqM (k:Int) (i:Int))) (PE.notM (eqM (k:Int) r)) then m64 (l,(i:Int)) else some (0,0)).bind fun r_2=>(bif PE.andM (PE.notM
    (eqM (k:Int) (i:Int))) (PE.notM (eqM (k:Int) r)) then idxM l (k:Int) else some (0,0)).bind fun r_3=>(bif PE.andM (PE.notM (eqM (k:Int) (i:Int))) (PE.notM (eqM (k:Int) r)) then m50
    ((r_1.1,r_1.2),(r_2.1,r_2.2),r_3.1,r_3.2) else some 0).bind fun r_4=>bif PE.andM (PE.andM (PE.notM (eqM (k:Int) (i:Int))) (PE.notM (eqM (k:Int) r))) (leM r_4 0) then
    some (Sum.inr (Sum.inr false)) else some (Sum.inl (wrap .i64 ((k:Int)+1))))=if k≠i∧k≠(i+1) % l.length∧trn (l.getD i (0,0)) (l.getD ((i+1) % l.length) (0,0)) (l.getD k (0,0))≤0 then some (Sum.inr (Sum.inr false):Int⊕(Unit⊕Bool)) else some (.inl ((k:Int)+1)):=fun {i k} hi hk=>by
   have hn:(i+1) % l.length<l.length:=Nat.mod_lt _ (by omega)
   by_cases e1:k=i
   ·rw [eqI (a:=(k:Int)) (b:=(i:Int)) (by omega),notT,cond_false,Option.bind_some]
    simp only [andF,cond_false,Option.bind_some]
    rw [if_neg (fun q=>q.1 e1),wrap_in (by omega) (by omega)]
   ·rw [neI (a:=(k:Int)) (b:=(i:Int)) (by omega),notF,cond_true,hmod hi,Option.bind_some]
    simp only [andT]
    by_cases e2:k=(i+1) % l.length
    ·rw [eqI (by omega),notT]
     simp only [andF,cond_false,Option.bind_some]
     rw [if_neg (fun q=>q.2.1 e2),wrap_in (by omega) (by omega)]
    ·rw [neI (by omega),notF,cond_true,getP hi,Option.bind_some,cond_true,hend hi,Option.bind_some,cond_true,getP hk,Option.bind_some,cond_true,(turn40 (hon i hi) (hon _ hn) (hon k hk)).1,Option.bind_some,andT]
     by_cases ht:trn (l.getD i (0,0)) (l.getD ((i+1) % l.length) (0,0)) (l.getD k (0,0))≤0
     ·rw [leI ht,cond_true,if_pos ⟨e1,e2,ht⟩]
     ·rw [gtI (by omega),cond_false,if_neg (fun q=>ht q.2.2),wrap_in (by omega) (by omega)]
  -- the two loops
  have two:∀ {f:Nat→Int→Option (Int⊕(Unit⊕Bool))} {b:Int→Option (Int⊕(Unit⊕Bool))},
    (∀ i k,i<l.length→k<l.length→f i (k:Int)=if k≠i∧k≠(i+1) % l.length∧trn (l.getD i (0,0)) (l.getD ((i+1) % l.length) (0,0)) (l.getD k (0,0))≤0 then some (Sum.inr (Sum.inr false):Int⊕(Unit⊕Bool)) else some (.inl ((k:Int)+1))) →
    (∀ i,f i (l.length:Int)=some (.inr (.inl ()))) →
    (∀ i,i<l.length→b (i:Int)=(loopM (f i) 0).bind fun o=>Sum.elim (fun (t:Unit)=>some (Sum.inl (wrap .i64 ((i:Int)+1)))) (fun (t:Bool)=>some (Sum.inr (Sum.inr t))) o)→b (l.length:Int)=some (.inr (.inl ())) →
    (Cvx l→loopM b 0=some (.inl ()))∧(¬ Cvx l→loopM b 0=some (.inr false)):=by
   intro f b hf hfe hb hbe
   have good:∀ i,i<l.length→(∀ k,k<l.length→¬ (k≠i∧k≠(i+1) % l.length∧trn (l.getD i (0,0)) (l.getD ((i+1) % l.length) (0,0)) (l.getD k (0,0))≤0))→b (i:Int)=some (.inl ((i:Int)+1)):=fun i hi hg=>by
    rw [hb i hi]
    refine bind_of (pass_loop (n:=l.length) (fun k hk=>?_) (hfe i)) ?_
    ·rw [hf i k hi hk,if_neg (hg k hk)]
    ·rw [Sum.elim_inl,wrap_in (by omega) (by omega)]
   refine ⟨fun hc=>pass_loop (n:=l.length) (fun i hi=>good i hi fun k hk q=>?_) hbe,fun hc=>?_⟩
   ·have:=hc i k hi hk q.1 q.2.1
    omega
   ·have:∃ i,i<l.length∧∃ k,k<l.length∧(k≠i∧k≠(i+1) % l.length∧trn (l.getD i (0,0)) (l.getD ((i+1) % l.length) (0,0)) (l.getD k (0,0))≤0):=by
     refine Classical.byContradiction fun q=>hc fun i k hi hk h1 h2=>?_
     refine Int.not_le.1 fun h=>q ⟨i,hi,k,hk,h1,h2,h⟩
    refine bad_loop (n:=l.length) _ this fun i hi=>⟨fun hbad=>?_,fun hg=>good i hi fun k hk q=>hg ⟨k,hk,q⟩⟩
    rw [hb i hi]
    refine bind_of (bad_loop (n:=l.length) _ hbad fun k hk=>⟨fun q=>?_,fun q=>?_⟩) rfl
    ·rw [hf i k hi hk,if_pos q]
    ·rw [hf i k hi hk,if_neg q]
  have mem:∀ p∈l,On40 p:=fun p hp=>by
   obtain ⟨k,hk,e⟩:=List.getElem_of_mem hp
   have:=hon k hk
   simpa [List.getD,hk,e] using this
  obtain ⟨t1,t2⟩:=two (f:=fun i s_1=>bif ltM s_1 (l.length:Int) then (idxM l s_1).bind fun r_2=>(bif PE.andM (PE.notM (eqM
   s_1 (i:Int))) (PE.notM (eqM s_1 (((i+1) % l.length:Nat):Int))) then idxM l (((i+1) % l.length:Nat):Int) else some (0,0)).bind fun r_3=>(bif PE.andM (PE.notM (eqM s_1 (i:Int))) (PE.notM (eqM s_1 (((i+1) % l.length:Nat):Int))) then m53 (((l.getD i (0,0)).1,
   (l.getD i (0,0)).2),(r_3.1,r_3.2),r_2.1,r_2.2) else some 0).bind fun r=>bif PE.andM (PE.andM (PE.notM (eqM s_1 (i:Int))) (PE.notM (eqM s_1 (((i+1) % l.length:Nat):Int)))) (leM r 0) then some
   (Sum.inr (Sum.inr false)) else some (Sum.inl (wrap .i64 (s_1+1))) else some (Sum.inr (Sum.inl ()))) (b:=fun (s:Int)=>bif ltM s (l.length:Int) then (idxM l s).bind fun r=>(remM (wrap
   IntKind.i64 (s+1)) (l.length:Int)).bind fun r_1=>(loopM (fun (s_1:Int)=>bif ltM s_1 (l.length:Int) then (idxM l s_1).bind fun r_2=>(bif PE.andM (PE.notM (eqM
   s_1 s)) (PE.notM (eqM s_1 r_1)) then idxM l r_1 else some (0,0)).bind fun r_3=>(bif PE.andM (PE.notM (eqM s_1 s)) (PE.notM (eqM s_1 r_1)) then m53 ((r.1,
   r.2),(r_3.1,r_3.2),r_2.1,r_2.2) else some 0).bind fun r=>bif PE.andM (PE.andM (PE.notM (eqM s_1 s)) (PE.notM (eqM s_1 r_1))) (leM r 0) then some
   (Sum.inr (Sum.inr false)) else some (Sum.inl (wrap .i64 (s_1+1))) else some (Sum.inr (Sum.inl ()))) 0).bind fun o=>Sum.elim (fun (t:Unit)=>some
   (Sum.inl (wrap .i64 (s+1)))) (fun (t:Bool)=>some (Sum.inr (Sum.inr t))) o else some (Sum.inr (Sum.inl ())))
   (fun i k hi hk=>by
    rw [ltI (by omega),cond_true,getP hk,Option.bind_some]
    exact in1 hi hk)
   (fun i=>by rw [geI (by omega),cond_false])
   (fun i hi=>by
    rw [ltI (by omega),cond_true,getP hi,Option.bind_some,hmod hi,Option.bind_some])
   (by rw [geI (by omega),cond_false])
  obtain ⟨u1,u2⟩:=two (f:=fun i s_1=>bif ltM s_1 (l.length:Int) then (bif PE.notM (eqM
   s_1 (i:Int)) then remM (wrap .i64 ((i:Int)+1)) (l.length:Int) else some 0).bind fun r=>(bif PE.andM (PE.notM (eqM s_1 (i:Int))) (PE.notM (eqM s_1 r)) then idxM l (i:Int) else
   some (0,0)).bind fun r_1=>(bif PE.andM (PE.notM (eqM s_1 (i:Int))) (PE.notM (eqM s_1 r)) then m64 (l,(i:Int)) else some (0,0)).bind fun r_2=>(bif PE.andM (PE.notM
   (eqM s_1 (i:Int))) (PE.notM (eqM s_1 r)) then idxM l s_1 else some (0,0)).bind fun r_3=>(bif PE.andM (PE.notM (eqM s_1 (i:Int))) (PE.notM (eqM s_1 r)) then m50
   ((r_1.1,r_1.2),(r_2.1,r_2.2),r_3.1,r_3.2) else some 0).bind fun r_4=>bif PE.andM (PE.andM (PE.notM (eqM s_1 (i:Int))) (PE.notM (eqM s_1 r))) (leM r_4 0) then
   some (Sum.inr (Sum.inr false)) else some (Sum.inl (wrap .i64 (s_1+1))) else some (Sum.inr (Sum.inl ()))) (b:=fun (s:Int)=>bif ltM s (l.length:Int) then (loopM (fun (s_1:Int)=>bif ltM s_1 (l.length:Int) then (bif PE.notM (eqM
   s_1 s) then remM (wrap .i64 (s+1)) (l.length:Int) else some 0).bind fun r=>(bif PE.andM (PE.notM (eqM s_1 s)) (PE.notM (eqM s_1 r)) then idxM l s else
   some (0,0)).bind fun r_1=>(bif PE.andM (PE.notM (eqM s_1 s)) (PE.notM (eqM s_1 r)) then m64 (l,s) else some (0,0)).bind fun r_2=>(bif PE.andM (PE.notM
   (eqM s_1 s)) (PE.notM (eqM s_1 r)) then idxM l s_1 else some (0,0)).bind fun r_3=>(bif PE.andM (PE.notM (eqM s_1 s)) (PE.notM (eqM s_1 r)) then m50
   ((r_1.1,r_1.2),(r_2.1,r_2.2),r_3.1,r_3.2) else some 0).bind fun r_4=>bif PE.andM (PE.andM (PE.notM (eqM s_1 s)) (PE.notM (eqM s_1 r))) (leM r_4 0) then
   some (Sum.inr (Sum.inr false)) else some (Sum.inl (wrap .i64 (s_1+1))) else some (Sum.inr (Sum.inl ()))) 0).bind fun o=>Sum.elim (fun (t:Unit) =>
   some (Sum.inl (wrap .i64 (s+1)))) (fun (t:Bool)=>some (Sum.inr (Sum.inr t))) o else some (Sum.inr (Sum.inl ())))
   (fun i k hi hk=>by
    rw [ltI (by omega),cond_true]
    exact in2 hi hk)
   (fun i=>by rw [geI (by omega),cond_false])
   (fun i hi=>by
    rw [ltI (by omega),cond_true])
   (by rw [geI (by omega),cond_false])
  by_cases hc:Cvx l
  ·left
   exact ⟨⟨g3,g8,hc,mem⟩,bind_of (t1 hc) rfl,bind_of (u1 hc) rfl⟩
  ·right
   exact ⟨bind_of (t2 hc) rfl,bind_of (u2 hc) rfl⟩
end Go.Proofs.YtdgabicjcepmeaaGreatDoor
namespace Go.Proofs.YtdgabicjcepmeaaGreatDoor
open Go Go.Abs Go.PE Go.Num
open Go.IntKind (wrap)
theorem bad_loopC {α:Type} {n:Nat} {c:α} {body:Int→Option (Int⊕(Unit⊕α))} (bad:Nat→Prop) (h:∃ k,k<n∧bad k) (hb:∀ k,k<n→(bad k→body (k:Int)=some (.inr (.inr c)))∧(¬ bad k→body (k:Int)=some (.inl ((k:Int)+1)))):loopM body 0=some (.inr c):=by
 obtain ⟨k0,hk0,hb0⟩:=h
 refine loopM_is (fun k s=>s=(k:Int)∧∃ j,k≤j∧j<n∧bad j) n ⟨rfl,k0,by omega,hk0,hb0⟩ ?_
 rintro k s hk ⟨rfl,j,h1,h2,h3⟩
 have hkn:k<n:=by omega
 by_cases hbad:bad k
 ·exact .inr ((hb k hkn).1 hbad)
 ·refine .inl ⟨_,hkn,(hb k hkn).2 hbad,by omega,j,?_,h2,h3⟩
  rcases Nat.lt_or_ge k j with h | h
  ·omega
  ·have:k=j:=by omega
   subst this
   exact absurd h3 hbad
theorem over_off {W H:Nat} {lo hi:Nat→Int} (hF:OkF W H lo hi) {l:List (Int×Int)} (hM:PlM l) (p1:m25 l=some true) (p2:m36 l=some true) (hon:∃ k,k<l.length∧¬ ((l.getD k (0,0)).1≤W∧(l.getD k (0,0)).2≤H)) :
  m8 (fd W H lo hi,l)=some (([],[]),([],[]),250)∧m9 (fd W H lo hi,l)=some (([],[]),([],[]),250):=by
 have w6:=hF.w6
 have h6:=hF.h6
 have h8:=hM.h8
 have v1:=valid_ok hF
 have v2:=valid2_ok hF
 constructor
 ·unfold m8
  unfold fd at v1 ⊢
  dsimp only
  rw [v1,Option.bind_some,notT,notF,cond_true,p1,Option.bind_some,notT,show PE.orM false false=false from rfl,notF,cond_true]
  obtain ⟨j,j0,ej⟩:=first_bad (n:=l.length) (body:=fun (s:Int)=>bif ltM s (lenM l) then (idxM l s).bind fun r=>bif PE.orM (ltM (W:Int) r.1) (ltM (H:Int) r.2)
   then some (Sum.inr (Sum.inr s)) else some (Sum.inl (wrap .i64 (s+1))) else some (Sum.inr (Sum.inl ()))) _ hon fun k hk=>by
    rw [lenL,ltI (by omega),cond_true,getP hk,Option.bind_some]
    refine ⟨fun hb=>?_,fun hg=>?_⟩
    ·by_cases h1:(W:Int)<(l.getD k (0,0)).1
     ·rw [ltI h1];rfl
     ·rw [geI (by omega),ltI (a:=(H:Int)) (by omega)];rfl
    ·have:=Classical.not_not.1 hg
     rw [geI (a:=(W:Int)) (by omega),geI (a:=(H:Int)) (by omega),show PE.orM false false=false from rfl,cond_false,wrap_in (by omega) (by omega)]
  refine bind_of (x:=true) ?_ rfl
  refine bind_of (x:=j) (bind_of ej rfl) ?_
  rw [leI j0]
 ·unfold m9
  unfold fd at v2 ⊢
  dsimp only
  rw [v2,Option.bind_some,notT,notF,cond_true,p2,Option.bind_some,notT,show PE.orM false false=false from rfl,cond_false]
  refine bind_of (bad_loopC (n:=l.length) (c:=((250:Int),([]:List UInt8),([]:List UInt8),([]:List UInt8),([]:List UInt8))) _ hon fun k hk=>?_) rfl
  rw [lenL,ltI (by omega),cond_true,getP hk,Option.bind_some]
  refine ⟨fun hb=>?_,fun hg=>?_⟩
  ·by_cases h1:(W:Int)<(l.getD k (0,0)).1
   ·rw [ltI h1];rfl
   ·rw [geI (by omega),notF,cond_true,Option.bind_some,ltI (a:=(H:Int)) (by omega)];rfl
  ·have:=Classical.not_not.1 hg
   rw [geI (a:=(W:Int)) (by omega),notF,cond_true,Option.bind_some,geI (a:=(H:Int)) (by omega),show PE.orM false false=false from rfl,cond_false,wrap_in (by omega) (by omega)]
theorem over_same {t:Fld} (hr:RngF t) {l:List (Int×Int)} (hl:l.length≤9):∃ r,m8 (t,l)=some r∧m9 (t,l)=some r:=by
 rcases valid_cases t hr with ⟨W,H,lo,hi,hF,rfl⟩ | ⟨e1,e2⟩
 ·have w6:=hF.w6
  have h6:=hF.h6
  have v1:=valid_ok hF
  have v2:=valid2_ok hF
  rcases plv_cases l (by omega) with ⟨hM,p1,p2⟩ | ⟨p1,p2⟩
  ·have h8:=hM.h8
   by_cases hon:∃ k,k<l.length∧¬ ((l.getD k (0,0)).1≤W∧(l.getD k (0,0)).2≤H)
   ·exact ⟨_,over_off hF hM p1 p2 hon⟩
   ·have hon2:∀ k,k<l.length→(l.getD k (0,0)).1≤W∧(l.getD k (0,0)).2≤H:=fun k hk=>Classical.not_not.1 fun q=>hon ⟨k,hk,q⟩
    have hP:PlOK W H l:=⟨hM.h3,hM.h8,hM.cvx,fun p hp=>by
     obtain ⟨k,hk,e⟩:=List.getElem_of_mem hp
     have h1:=hon2 k hk
     have h2:=hM.on p hp
     have e2:l.getD k (0,0)=p:=by simp [List.getD,hk,e]
     rw [e2] at h1
     omega⟩
    refine ⟨_,fover_ok hF hP,?_⟩
    unfold m9
    have o1:=rover_ok (lo:=row (nn W H) lo) (hi:=row (nn W H) hi) hF.okLo hP
    have o2:=rover_ok (lo:=row (nn W H) lo) (hi:=row (nn W H) hi) hF.okHi hP
    unfold fd at v2 ⊢
    dsimp only
    rw [v2,Option.bind_some,notT,notF,cond_true,p2,Option.bind_some,notT,show PE.orM false false=false from rfl,cond_false]
    refine bind_of (pass_loop (n:=l.length) (fun k hk=>?_) ?_) ?_
    ·have:=hon2 k hk
     rw [lenL,ltI (by omega),cond_true,getP hk,Option.bind_some,geI (a:=(W:Int)) (by omega),notF,cond_true,Option.bind_some,geI (a:=(H:Int)) (by omega),show PE.orM false false=false from rfl,cond_false,wrap_in (by omega) (by omega)]
    ·rw [lenL,geI (by omega),cond_false]
    ·rw [Sum.elim_inl,o1,Option.bind_some,o2];rfl
  ·refine ⟨(([],[]),([],[]),250),?_,?_⟩
   ·unfold m8
    unfold fd at v1 ⊢
    dsimp only
    rw [v1,Option.bind_some,notT,notF,cond_true,p1];rfl
   ·unfold m9
    unfold fd at v2 ⊢
    dsimp only
    rw [v2,Option.bind_some,notT,notF,cond_true,p2];rfl
 ·obtain ⟨W,H,Lo,Hi⟩:=t
  refine ⟨(([],[]),([],[]),250),?_,?_⟩
  ·unfold m8
   dsimp only
   rw [e1];rfl
  ·unfold m9
   dsimp only
   rw [e2];rfl
theorem above_same {t:Fld} (hr:RngF t) (n:Int):∃ r,m11 (t,n)=some r∧m12 (t,n)=some r:=by
 rcases valid_cases t hr with ⟨W,H,lo,hi,hF,rfl⟩ | ⟨e1,e2⟩
 ·have v1:=valid_ok hF
  have v2:=valid2_ok hF
  by_cases hn:0≤n∧n≤100
  ·refine ⟨_,above_ok hF hn.1 hn.2,?_⟩
   have o1:=rabove_ok (lo:=row (nn W H) lo) (hi:=row (nn W H) hi) hF.okLo hn.1 hn.2
   have o2:=rabove_ok (lo:=row (nn W H) lo) (hi:=row (nn W H) hi) hF.okHi hn.1 hn.2
   unfold m12
   unfold fd at v2 ⊢
   dsimp only
   rw [v2,Option.bind_some,notT,orF,geI hn.1,orF,geI hn.2,cond_false,o1,Option.bind_some,o2];rfl
  ·refine ⟨(([],[]),([],[]),250),?_,?_⟩
   ·unfold m11
    unfold fd at v1 ⊢
    dsimp only
    rw [v1,Option.bind_some,notT,notF,cond_true,within_ok,Option.bind_some,decide_eq_false hn];rfl
   ·unfold m12
    unfold fd at v2 ⊢
    dsimp only
    rw [v2,Option.bind_some,notT,orF]
    by_cases h1:n<0
    ·rw [ltI h1];rfl
    ·rw [geI (by omega),ltI (a:=100) (by omega)];rfl
 ·obtain ⟨W,H,Lo,Hi⟩:=t
  refine ⟨(([],[]),([],[]),250),?_,?_⟩
  ·unfold m11
   dsimp only
   rw [e1];rfl
  ·unfold m12
   dsimp only
   rw [e2];rfl
theorem cut50 {l:List Int} (hl:l.length≤maxLen):∃ r,sliceM l 0 (min (lenM l) 50)=some r∧r.length≤maxLen:=by
 have hl:l.length≤9223372036854775807:=hl
 have hm:min (lenM l) 50=((min l.length 50:Nat):Int):=by rw [lenL];omega
 refine ⟨l.take (min l.length 50),?_,?_⟩
 ·rw [hm,sliceM_of (by omega) (by omega) (by omega)];rfl
 ·rw [List.length_take];show _≤9223372036854775807;omega
theorem cut9 {l:List (Int×Int)} (hl:l.length≤maxLen):∃ r,sliceM l 0 (min (lenM l) 9)=some r∧r.length≤9:=by
 have hl:l.length≤9223372036854775807:=hl
 have hm:min (lenM l) 9=((min l.length 9:Nat):Int):=by rw [lenL];omega
 refine ⟨l.take (min l.length 9),?_,?_⟩
 ·rw [hm,sliceM_of (by omega) (by omega) (by omega)];rfl
 ·rw [List.length_take];omega
theorem eqs_refl (x:List UInt8):eqsM x x=true:=eqsT rfl
theorem in3 {α:Type} {P:α→Prop} {a b c:α} (ha:P a) (hb:P b) (hc:P c) {k:Nat} (hk:k<3):∃ t,idxM [a,b,c] (k:Int)=some t∧P t:=by
 rcases (show k=0∨k=1∨k=2 by omega) with rfl | rfl | rfl
 ·exact ⟨a,rfl,ha⟩
 ·exact ⟨b,rfl,hb⟩
 ·exact ⟨c,rfl,hc⟩
theorem in2 {α:Type} {P:α→Prop} {a b:α} (ha:P a) (hb:P b) {k:Nat} (hk:k<2):∃ t,idxM [a,b] (k:Int)=some t∧P t:=by
 rcases (show k=0∨k=1 by omega) with rfl | rfl
 ·exact ⟨a,rfl,ha⟩
 ·exact ⟨b,rfl,hb⟩
end Go.Proofs.YtdgabicjcepmeaaGreatDoor
namespace Go.Proofs.YtdgabicjcepmeaaGreatDoor
open Go Go.Abs Go.PE Go.Num Go.Lib
def vS (i:Nat):Int:=[0,6,12,6].getD i 0
theorem okS:OkF 1 1 vS vS:=by
 have h:∀ i,i<nn 1 1→0≤vS i∧vS i≤100:=by decide
 exact ⟨by decide,by decide,by decide,by decide,fun i hi=>(h i hi).1,fun i hi=>Int.le_refl _,fun i hi=>(h i hi).2⟩
theorem fdS:fd 1 1 vS vS=(1,1,[0,6,12,6],[0,6,12,6]):=by decide
theorem cvx3 {a b c:Int×Int} (h1:0<trn a b c) (h2:0<trn b c a) (h3:0<trn c a b):Cvx [a,b,c]:=by
 intro i k hi hk g1 g2
 have hi:i<3:=hi
 have hk:k<3:=hk
 have e:∀ i:Nat,(i+1) % [a,b,c].length=(i+1) % 3:=fun _=>rfl
 rw [e] at g2 ⊢
 rcases (show i=0∨i=1∨i=2 by omega) with rfl | rfl | rfl<;>rcases (show k=0∨k=1∨k=2 by omega) with rfl | rfl | rfl<;>first
  | exact absurd rfl g1
  | exact (g2 rfl).elim
  | exact h1
  | exact h2
  | exact h3
theorem it1:itoa 1=[49]:=by rw [show (1:Int)=((1:Nat):Int) from rfl,itoa_nn,decDigits_one (by omega)];rfl
theorem it2:itoa 2=[50]:=by rw [show (2:Int)=((2:Nat):Int) from rfl,itoa_nn,decDigits_one (by omega)];rfl
theorem it13:itoa 13=[49,51]:=by rw [show (13:Int)=((13:Nat):Int) from rfl,itoa_nn,dec_step (by omega),decDigits_one (by omega)];rfl
theorem it16:itoa 16=[49,54]:=by rw [show (16:Int)=((16:Nat):Int) from rfl,itoa_nn,dec_step (by omega),decDigits_one (by omega)];rfl
theorem it144:itoa 144=[49,52,52]:=by rw [show (144:Int)=((144:Nat):Int) from rfl,itoa_nn,dec_step (by omega),dec_step (by omega),decDigits_one (by omega)];rfl
theorem ovS:(ovQ 1 1 vS (spS [(0,0),(1,0),(0,1)])).num=2∧(ovQ 1 1 vS (spS [(0,0),(1,0),(0,1)])).den=1:=by decide +kernel
theorem abS:(abQ 1 1 vS 3).num=13∧(abQ 1 1 vS 3).den=16∧(abQ 1 1 vS 11).num=1∧(abQ 1 1 vS 11).den=144:=by decide +kernel
theorem over1:m8 ((1,1,[0,6,12,6],[0,6,12,6]),[(0,0),(1,0),(0,1)])=some (([50],[49]),([50],[49]),0):=by
 have hP:PlOK 1 1 [(0,0),(1,0),(0,1)]:=⟨by decide,by decide,cvx3 (by decide) (by decide) (by decide),by decide⟩
 have h:=fover_ok okS hP
 rw [fdS] at h
 rw [h]
 unfold rt
 rw [ovS.1,ovS.2,it2,show ((1:Nat):Int)=1 from rfl,it1]
theorem over2:m8 ((1,1,[0,6,12,6],[0,6,12,6]),[(0,0),(2,0),(0,1)])=some (([],[]),([],[]),250):=by
 have hM:PlM [(0,0),(2,0),(0,1)]:=⟨by decide,by decide,cvx3 (by decide) (by decide) (by decide),by decide⟩
 rcases plv_cases [(0,0),(2,0),(0,1)] (by decide) with ⟨_,p1,p2⟩ | ⟨p1,p2⟩
 ·have h:=(over_off okS hM p1 p2 ⟨1,by decide,by decide⟩).1
  rw [fdS] at h
  exact h
 ·unfold m8
  have v1:=valid_ok okS
  rw [fdS] at v1
  dsimp only
  rw [v1,Option.bind_some,notT,notF,cond_true,p1];rfl
theorem above1:m11 ((1,1,[0,6,12,6],[0,6,12,6]),3)=some (([49,51],[49,54]),([49,51],[49,54]),0):=by
 have h:=above_ok okS (n:=3) (by decide) (by decide)
 rw [fdS] at h
 rw [h]
 unfold rt
 rw [abS.1,abS.2.1,it13,show ((16:Nat):Int)=16 from rfl,it16]
theorem above2:m11 ((1,1,[0,6,12,6],[0,6,12,6]),11)=some (([49],[49,52,52]),([49],[49,52,52]),0):=by
 have h:=above_ok okS (n:=11) (by decide) (by decide)
 rw [fdS] at h
 rw [h]
 unfold rt
 rw [abS.2.2.1,abS.2.2.2,it1,show ((144:Nat):Int)=144 from rfl,it144]
def m8F (x:(Int×Int×List Int×List Int)×List (Int×Int)):Option ((List UInt8×List UInt8)×(List UInt8×List UInt8)×Int) :=
 if x=((1,1,[0,6,12,6],[0,6,12,6]),[(0,0),(1,0),(0,1)]) then some (([50],[49]),([50],[49]),0) else if x=((1,1,[0,6,12,6],[0,6,12,6]),[(0,0),(2,0),(0,1)]) then some (([],[]),([],[]),250) else none
theorem le8 (x):Le (m8F x) (m8 x):=by
 unfold Le m8F
 intro r hr
 split at hr
 ·rename_i e;rw [e,over1];exact hr
 ·split at hr
  ·rename_i e;rw [e,over2];exact hr
  ·cases hr
def m11F (x:(Int×Int×List Int×List Int)×Int):Option ((List UInt8×List UInt8)×(List UInt8×List UInt8)×Int) :=
 if x=((1,1,[0,6,12,6],[0,6,12,6]),3) then some (([49,51],[49,54]),([49,51],[49,54]),0) else if x=((1,1,[0,6,12,6],[0,6,12,6]),11) then some (([49],[49,52,52]),([49],[49,52,52]),0) else none
theorem le11 (x):Le (m11F x) (m11 x):=by
 unfold Le m11F
 intro r hr
 split at hr
 ·rename_i e;rw [e,above1];exact hr
 ·split at hr
  ·rename_i e;rw [e,above2];exact hr
  ·cases hr
end Go.Proofs.YtdgabicjcepmeaaGreatDoor
namespace Go.Proofs.YtdgabicjcepmeaaGreatDoor
open Go Go.Abs Go.PE Go.Proofs
open Go.IntKind (wrap)
set_option maxRecDepth 100000
set_option maxHeartbeats 0
noncomputable section
def m21F:(Int×Int×List Int×List Int)→Option (Bool) :=
 fun x=>(m38 (x.1,1,6)).bind fun r=>(bif PE.notM (PE.notM r) then m38 (x.2.1,1,6) else some false).bind fun r_1=>bif PE.orM (PE.orM (PE.orM (PE.notM r)
 (PE.notM r_1)) (PE.notM (eqM (lenM x.2.2.1) (wrap .i64 (wrap .i64 (x.1+1)*wrap .i64 (x.2.1+1)))))) (PE.notM (eqM (lenM x.2.2.2)
 (lenM x.2.2.1))) then some false else (loopF (fun (s:Int)=>bif ltM s (lenM x.2.2.1) then (idxM x.2.2.1 s).bind fun r_2=>(idxM x.2.2.2 s).bind fun r_3 =>
 (m38 (r_2,0,r_3)).bind fun r_4=>(bif PE.notM (PE.notM r_4) then idxM x.2.2.2 s else some 0).bind fun r=>bif PE.orM (PE.notM r_4) (ltM 100 r) then some
 (Sum.inr (Sum.inr false)) else some (Sum.inl (wrap .i64 (s+1))) else some (Sum.inr (Sum.inl ()))) 0).bind fun o=>Sum.elim (fun (t:Unit)=>some
 true) (fun (t:Bool)=>some t) o
theorem le21 (x):Le (m21F x) (m21 x):=by
 unfold m21F m21
 repeat' first | with_reducible exact Le.refl _ | intro _ | apply Le.bind | apply Le.cond | apply Le.nil | apply Le.loop | apply Le.elim
def m13F:((Int×Int×List Int×List Int)×Int×Int×Int)→Option (Int×Int×Int) :=
 fun x=>(m21F (x.1.1,x.1.2.1,x.1.2.2.1,x.1.2.2.2)).bind fun r=>(bif PE.notM (PE.notM r) then m38 (x.2.2.2,1,60) else some false).bind fun r_1=>(bif
 PE.notM (PE.orM (PE.notM r) (PE.notM r_1)) then m38 (x.2.1,0,wrap .i64 (x.1.1*x.2.2.2)) else some false).bind fun r_2=>(bif PE.notM (PE.orM
 (PE.orM (PE.notM r) (PE.notM r_1)) (PE.notM r_2)) then m38 (x.2.2.1,0,wrap .i64 (x.1.2.1*x.2.2.2)) else some false).bind fun r_3=>bif PE.orM
 (PE.orM (PE.orM (PE.notM r) (PE.notM r_1)) (PE.notM r_2)) (PE.notM r_3) then some (0,0,250) else (divM .i64 x.2.1 x.2.2.2).bind fun r_4=>(divM
 IntKind.i64 x.2.2.1 x.2.2.2).bind fun r_5=>((idxM x.1.2.2.1 (wrap .i64 (wrap .i64 (wrap .i64 (min r_5 (wrap .i64 (x.1.2.1-1))
 + 1)*wrap .i64 (x.1.1+1))+wrap .i64 (min r_4 (wrap .i64 (x.1.1-1))+1)))).bind fun r_6=>bif leM (wrap .i64 (x.2.2.1 -
 wrap .i64 (min r_5 (wrap .i64 (x.1.2.1-1))*x.2.2.2))) (wrap .i64 (x.2.1-wrap .i64 (min r_4 (wrap .i64 (x.1.1-1)) *
 x.2.2.2))) then ((idxM x.1.2.2.1 (wrap .i64 (wrap .i64 (min r_5 (wrap .i64 (x.1.2.1-1))*wrap .i64 (x.1.1+1))+min r_4 (wrap
 IntKind.i64 (x.1.1-1))))).bind fun r=>some r).bind fun (ov:Int)=>((idxM x.1.2.2.1 (wrap .i64 (wrap .i64 (min r_5 (wrap IntKind.i64
 (x.1.2.1-1))*wrap .i64 (x.1.1+1))+wrap .i64 (min r_4 (wrap .i64 (x.1.1-1))+1)))).bind fun r=>some r).bind fun (ov_1:Int)
 => some (wrap .i64 (wrap .i64 (wrap .i64 (wrap .i64 (x.2.2.2-wrap .i64 (x.2.1-wrap .i64 (min r_4 (wrap
 IntKind.i64 (x.1.1-1))*x.2.2.2)))*ov)+wrap .i64 (wrap .i64 (wrap .i64 (x.2.1-wrap .i64 (min r_4 (wrap .i64 (x.1.1
 - 1))*x.2.2.2))-wrap .i64 (x.2.2.1-wrap .i64 (min r_5 (wrap .i64 (x.1.2.1-1))*x.2.2.2)))*ov_1))+wrap .i64 (wrap
 IntKind.i64 (x.2.2.1-wrap .i64 (min r_5 (wrap .i64 (x.1.2.1-1))*x.2.2.2))*r_6))) else ((idxM x.1.2.2.1 (wrap .i64 (wrap
 IntKind.i64 (min r_5 (wrap .i64 (x.1.2.1-1))*wrap .i64 (x.1.1+1))+min r_4 (wrap .i64 (x.1.1-1))))).bind fun r=>some r).bind
 fun (ov:Int)=>((idxM x.1.2.2.1 (wrap .i64 (wrap .i64 (wrap .i64 (min r_5 (wrap .i64 (x.1.2.1-1))+1)*wrap IntKind.i64
 (x.1.1+1))+min r_4 (wrap .i64 (x.1.1-1))))).bind fun r=>some r).bind fun (ov_1:Int)=>some (wrap .i64 (wrap .i64 (wrap
 IntKind.i64 (wrap .i64 (x.2.2.2-wrap .i64 (x.2.2.1-wrap .i64 (min r_5 (wrap .i64 (x.1.2.1-1))*x.2.2.2)))*ov)+wrap
 IntKind.i64 (wrap .i64 (wrap .i64 (x.2.2.1-wrap .i64 (min r_5 (wrap .i64 (x.1.2.1-1))*x.2.2.2))-wrap .i64 (x.2.1 -
 wrap .i64 (min r_4 (wrap .i64 (x.1.1-1))*x.2.2.2)))*ov_1))+wrap .i64 (wrap .i64 (x.2.1-wrap .i64 (min r_4 (wrap
 IntKind.i64 (x.1.1-1))*x.2.2.2))*r_6)))).bind fun (ov:Int)=>((idxM x.1.2.2.2 (wrap .i64 (wrap .i64 (wrap .i64 (min r_5 (wrap
 IntKind.i64 (x.1.2.1-1))+1)*wrap .i64 (x.1.1+1))+wrap .i64 (min r_4 (wrap .i64 (x.1.1-1))+1)))).bind fun r_6=>bif leM
 (wrap .i64 (x.2.2.1-wrap .i64 (min r_5 (wrap .i64 (x.1.2.1-1))*x.2.2.2))) (wrap .i64 (x.2.1-wrap .i64 (min r_4
 (wrap .i64 (x.1.1-1))*x.2.2.2))) then ((idxM x.1.2.2.2 (wrap .i64 (wrap .i64 (min r_5 (wrap .i64 (x.1.2.1-1))*wrap
 IntKind.i64 (x.1.1+1))+min r_4 (wrap .i64 (x.1.1-1))))).bind fun r=>some r).bind fun (ov_1:Int)=>((idxM x.1.2.2.2 (wrap .i64 (wrap
 IntKind.i64 (min r_5 (wrap .i64 (x.1.2.1-1))*wrap .i64 (x.1.1+1))+wrap .i64 (min r_4 (wrap .i64 (x.1.1-1))+1)))).bind
 fun r=>some r).bind fun (ov:Int)=>some (wrap .i64 (wrap .i64 (wrap .i64 (wrap .i64 (x.2.2.2-wrap .i64 (x.2.1-wrap
 IntKind.i64 (min r_4 (wrap .i64 (x.1.1-1))*x.2.2.2)))*ov_1)+wrap .i64 (wrap .i64 (wrap .i64 (x.2.1-wrap .i64 (min
 r_4 (wrap .i64 (x.1.1-1))*x.2.2.2))-wrap .i64 (x.2.2.1-wrap .i64 (min r_5 (wrap .i64 (x.1.2.1-1))*x.2.2.2)))*ov)) +
 wrap .i64 (wrap .i64 (x.2.2.1-wrap .i64 (min r_5 (wrap .i64 (x.1.2.1-1))*x.2.2.2))*r_6))) else ((idxM x.1.2.2.2 (wrap
 IntKind.i64 (wrap .i64 (min r_5 (wrap .i64 (x.1.2.1-1))*wrap .i64 (x.1.1+1))+min r_4 (wrap .i64 (x.1.1-1))))).bind fun r
 => some r).bind fun (ov_1:Int)=>((idxM x.1.2.2.2 (wrap .i64 (wrap .i64 (wrap .i64 (min r_5 (wrap .i64 (x.1.2.1-1))+1) *
 wrap .i64 (x.1.1+1))+min r_4 (wrap .i64 (x.1.1-1))))).bind fun r=>some r).bind fun (ov:Int)=>some (wrap .i64 (wrap
 IntKind.i64 (wrap .i64 (wrap .i64 (x.2.2.2-wrap .i64 (x.2.2.1-wrap .i64 (min r_5 (wrap .i64 (x.1.2.1-1))*x.2.2.2)))
 * ov_1)+wrap .i64 (wrap .i64 (wrap .i64 (x.2.2.1-wrap .i64 (min r_5 (wrap .i64 (x.1.2.1-1))*x.2.2.2))-wrap
 IntKind.i64 (x.2.1-wrap .i64 (min r_4 (wrap .i64 (x.1.1-1))*x.2.2.2)))*ov))+wrap .i64 (wrap .i64 (x.2.1-wrap
 IntKind.i64 (min r_4 (wrap .i64 (x.1.1-1))*x.2.2.2))*r_6)))).bind fun (ov_1:Int)=>some (ov,ov_1,0)
theorem le13 (x):Le (m13F x) (m13 x):=by
 unfold m13F m13
 repeat' first | with_reducible exact le21 _ | with_reducible exact Le.refl _ | intro _ | apply Le.bind | apply Le.cond | apply Le.nil | apply Le.loop | apply Le.elim
def m14F:(Int×Int×List Int×List Int)→Option (Int×Int) :=
 fun x=>(m21F (x.1,x.2.1,x.2.2.1,x.2.2.2)).bind fun r=>bif PE.notM r then some (0,0) else ((loopF (fun (s:Int×Int)=>bif ltM s.1 x.2.1 then (loopF
 (fun (s_1:Int×Int)=>bif ltM s_1.1 x.1 then ((idxM x.2.2.1 (wrap .i64 (wrap .i64 (s.1*wrap .i64 (x.1+1))+s_1.1))).bind fun r
 => some r).bind fun (ov:Int)=>((idxM x.2.2.1 (wrap .i64 (wrap .i64 (s.1*wrap .i64 (x.1+1))+wrap .i64 (s_1.1+1)))).bind
 fun r=>some r).bind fun (ov_1:Int)=>((idxM x.2.2.1 (wrap .i64 (wrap .i64 (wrap .i64 (s.1+1)*wrap .i64 (x.1+1))+wrap
 IntKind.i64 (s_1.1+1)))).bind fun r=>some r).bind fun (ov_2:Int)=>((idxM x.2.2.1 (wrap .i64 (wrap .i64 (s.1*wrap .i64 (x.1 +
 1))+s_1.1))).bind fun r=>some r).bind fun (ov_3:Int)=>((idxM x.2.2.1 (wrap .i64 (wrap .i64 (wrap .i64 (s.1+1)*wrap
 IntKind.i64 (x.1+1))+wrap .i64 (s_1.1+1)))).bind fun r=>some r).bind fun (ov_4:Int)=>((idxM x.2.2.1 (wrap .i64 (wrap IntKind.i64
 (wrap .i64 (s.1+1)*wrap .i64 (x.1+1))+s_1.1))).bind fun r=>some r).bind fun (ov_5:Int)=>some (Sum.inl (wrap .i64 (s_1.1 +
 1),wrap .i64 (wrap .i64 (s_1.2+wrap .i64 (wrap .i64 (ov+ov_1)+ov_2))+wrap .i64 (wrap .i64 (ov_3+ov_4) +
 ov_5)))) else some (Sum.inr s_1.2)) (0,s.2)).bind fun o=>some (Sum.inl (wrap .i64 (s.1+1),o)) else some (Sum.inr s.2)) (0,0)).bind fun o=>some
 o).bind fun (ov:Int)=>((loopF (fun (s:Int×Int)=>bif ltM s.1 x.2.1 then (loopF (fun (s_1:Int×Int)=>bif ltM s_1.1 x.1 then ((idxM x.2.2.2 (wrap
 IntKind.i64 (wrap .i64 (s.1*wrap .i64 (x.1+1))+s_1.1))).bind fun r=>some r).bind fun (ov_1:Int)=>((idxM x.2.2.2 (wrap IntKind.i64
 (wrap .i64 (s.1*wrap .i64 (x.1+1))+wrap .i64 (s_1.1+1)))).bind fun r=>some r).bind fun (ov_2:Int)=>((idxM x.2.2.2 (wrap
 IntKind.i64 (wrap .i64 (wrap .i64 (s.1+1)*wrap .i64 (x.1+1))+wrap .i64 (s_1.1+1)))).bind fun r=>some r).bind fun (ov_3
 : Int)=>((idxM x.2.2.2 (wrap .i64 (wrap .i64 (s.1*wrap .i64 (x.1+1))+s_1.1))).bind fun r=>some r).bind fun (ov_4:Int) =>
 ((idxM x.2.2.2 (wrap .i64 (wrap .i64 (wrap .i64 (s.1+1)*wrap .i64 (x.1+1))+wrap .i64 (s_1.1+1)))).bind fun r =>
 some r).bind fun (ov_5:Int)=>((idxM x.2.2.2 (wrap .i64 (wrap .i64 (wrap .i64 (s.1+1)*wrap .i64 (x.1+1))+s_1.1))).bind
 fun r=>some r).bind fun (ov:Int)=>some (Sum.inl (wrap .i64 (s_1.1+1),wrap .i64 (wrap .i64 (s_1.2+wrap .i64 (wrap
 IntKind.i64 (ov_1+ov_2)+ov_3))+wrap .i64 (wrap .i64 (ov_4+ov_5)+ov)))) else some (Sum.inr s_1.2)) (0,s.2)).bind fun o=>some
 (Sum.inl (wrap .i64 (s.1+1),o)) else some (Sum.inr s.2)) (0,0)).bind fun o=>some o).bind fun (ov_1:Int)=>some (ov,ov_1)
theorem le14 (x):Le (m14F x) (m14 x):=by
 unfold m14F m14
 repeat' first | with_reducible exact le21 _ | with_reducible exact Le.refl _ | intro _ | apply Le.bind | apply Le.cond | apply Le.nil | apply Le.loop | apply Le.elim
def m48F:(Int×Int×List Int×List Int)→Option ((Int×Int×List Int×List Int)×Int) :=
 fun x=>(m21F (x.1,x.2.1,x.2.2.1,x.2.2.2)).bind fun r=>bif PE.notM r then some ((0,0,[],[]),250) else some ((x.1,x.2.1,x.2.2.1,x.2.2.2),0)
theorem le48 (x):Le (m48F x) (m48 x):=by
 unfold m48F m48
 repeat' first | with_reducible exact le21 _ | with_reducible exact Le.refl _ | intro _ | apply Le.bind | apply Le.cond | apply Le.nil | apply Le.loop | apply Le.elim
def m16F:(Int×Int×List Int×List Int)→Option ((Int×Int×List Int×List Int)×Int) :=
 fun x=>(m21F (x.1,x.2.1,x.2.2.1,x.2.2.2)).bind fun r=>bif PE.notM r then some ((0,0,[],[]),250) else ((loopF (fun (s:Int×List Int)=>bif ltM s.1
 (wrap .i64 (wrap .i64 (2*x.2.1)+1)) then (loopF (fun (s_1:Int×List Int)=>bif ltM s_1.1 (wrap .i64 (wrap .i64 (2*x.1) +
 1)) then (divM .i64 s_1.1 2).bind fun r_1=>(divM .i64 s.1 2).bind fun r_2=>(idxM x.2.2.1 (wrap .i64 (wrap .i64 (r_2*wrap
 IntKind.i64 (x.1+1))+r_1))).bind fun r_3=>(divM .i64 (wrap .i64 (s_1.1+1)) 2).bind fun r_4=>(divM .i64 (wrap .i64 (s.1 +
 1)) 2).bind fun r_5=>(idxM x.2.2.1 (wrap .i64 (wrap .i64 (r_5*wrap .i64 (x.1+1))+r_4))).bind fun r_6=>(appM (nat_lit 8) s_1.2
 [wrap .i64 (r_3+r_6)]).bind fun r=>some (Sum.inl (wrap .i64 (s_1.1+1),r)) else some (Sum.inr s_1.2)) (0,s.2)).bind fun o=>some
 (Sum.inl (wrap .i64 (s.1+1),o)) else some (Sum.inr s.2)) (0,[])).bind fun o=>some o).bind fun (ov:List Int)=>((loopF (fun (s:Int×List
 Int)=>bif ltM s.1 (wrap .i64 (wrap .i64 (2*x.2.1)+1)) then (loopF (fun (s_1:Int×List Int)=>bif ltM s_1.1 (wrap .i64 (wrap
 IntKind.i64 (2*x.1)+1)) then (divM .i64 s_1.1 2).bind fun r_1=>(divM .i64 s.1 2).bind fun r_2=>(idxM x.2.2.2 (wrap .i64 (wrap
 IntKind.i64 (r_2*wrap .i64 (x.1+1))+r_1))).bind fun r_3=>(divM .i64 (wrap .i64 (s_1.1+1)) 2).bind fun r_4=>(divM IntKind.i64
 (wrap .i64 (s.1+1)) 2).bind fun r_5=>(idxM x.2.2.2 (wrap .i64 (wrap .i64 (r_5*wrap .i64 (x.1+1))+r_4))).bind fun r_6 =>
 (appM (nat_lit 8) s_1.2 [wrap .i64 (r_3+r_6)]).bind fun r=>some (Sum.inl (wrap .i64 (s_1.1+1),r)) else some (Sum.inr s_1.2)) (0,
 s.2)).bind fun o=>some (Sum.inl (wrap .i64 (s.1+1),o)) else some (Sum.inr s.2)) (0,[])).bind fun o=>some o).bind fun (ov_1:List Int)=>(m48F
 (wrap .i64 (2*x.1),wrap .i64 (2*x.2.1),ov,ov_1)).bind fun r=>some ((r.1.1,r.1.2.1,r.1.2.2.1,r.1.2.2.2),r.2)
theorem le16 (x):Le (m16F x) (m16 x):=by
 unfold m16F m16
 repeat' first | with_reducible exact le21 _ | with_reducible exact le48 _ | with_reducible exact Le.refl _ | intro _ | apply Le.bind | apply Le.cond | apply Le.nil | apply Le.loop | apply Le.elim
def m17F:((Int×Int×List Int×List Int)×Int×Int×List Int×List Int)→Option ((Int×Int×List Int×List Int)×Int) :=
 fun x=>(m21F (x.1.1,x.1.2.1,x.1.2.2.1,x.1.2.2.2)).bind fun r=>(bif PE.notM (PE.notM r) then m21F (x.2.1,x.2.2.1,x.2.2.2.1,x.2.2.2.2) else some
 false).bind fun r_1=>bif PE.orM (PE.orM (PE.orM (PE.notM r) (PE.notM r_1)) (PE.notM (eqM x.1.1 x.2.1))) (PE.notM (eqM x.1.2.1 x.2.2.1)) then some ((0,0,
 [],[]),250) else (mo49 x.1.2.2.1).bind fun r_2=>(mo49 x.1.2.2.2).bind fun r_3=>(loopF (fun (s:Int×List Int×List Int)=>bif ltM s.1 (lenM r_2)
 then (chkM s.1 (lenM s.2.1)).bind fun r_4=>(idxM s.2.1 s.1).bind fun r_5=>(idxM x.2.2.2.1 s.1).bind fun r_6=>(chkM s.1 (lenM s.2.1)).bind fun r_7 =>
 (setM s.2.1 s.1 fun (x:Int)=>some (wrap .i64 (r_5+r_6))).bind fun r_8=>(chkM s.1 (lenM s.2.2)).bind fun r_9=>(idxM s.2.2 s.1).bind fun r_10
 => (idxM x.2.2.2.2 s.1).bind fun r_11=>(chkM s.1 (lenM s.2.2)).bind fun r_12=>(setM s.2.2 s.1 fun (x:Int)=>some (wrap .i64 (r_10+r_11))).bind
 fun r=>some (Sum.inl (wrap .i64 (s.1+1),r_8,r)) else some (Sum.inr (s.2.1,s.2.2))) (0,r_2,r_3)).bind fun o=>(m48F (x.1.1,x.1.2.1,o.1,
 o.2)).bind fun r=>some ((r.1.1,r.1.2.1,r.1.2.2.1,r.1.2.2.2),r.2)
theorem le17 (x):Le (m17F x) (m17 x):=by
 unfold m17F m17
 repeat' first | with_reducible exact le21 _ | with_reducible exact le48 _ | with_reducible exact Le.refl _ | intro _ | apply Le.bind | apply Le.cond | apply Le.nil | apply Le.loop | apply Le.elim
def m18F:((Int×Int×List Int×List Int)×Int)→Option ((Int×Int×List Int×List Int)×Int) :=
 fun x=>(m21F (x.1.1,x.1.2.1,x.1.2.2.1,x.1.2.2.2)).bind fun r=>(bif PE.notM (PE.notM r) then m38 (x.2,0,100) else some false).bind fun r_1=>bif PE.orM
 (PE.notM r) (PE.notM r_1) then some ((0,0,[],[]),250) else (mo49 x.1.2.2.1).bind fun r_2=>(mo49 x.1.2.2.2).bind fun r_3=>(loopF (fun (s:Int×List
 Int×List Int)=>bif ltM s.1 (lenM r_2) then (chkM s.1 (lenM s.2.1)).bind fun r_4=>(idxM s.2.1 s.1).bind fun r_5=>(chkM s.1 (lenM s.2.1)).bind fun r_6
 => (setM s.2.1 s.1 fun (x_1:Int)=>some (wrap .i64 (r_5*x.2))).bind fun r_7=>(chkM s.1 (lenM s.2.2)).bind fun r_8=>(idxM s.2.2 s.1).bind fun
 r_9=>(chkM s.1 (lenM s.2.2)).bind fun r_10=>(setM s.2.2 s.1 fun (x_1:Int)=>some (wrap .i64 (r_9*x.2))).bind fun r=>some (Sum.inl (wrap
 IntKind.i64 (s.1+1),r_7,r)) else some (Sum.inr (s.2.1,s.2.2))) (0,r_2,r_3)).bind fun o=>(m48F (x.1.1,x.1.2.1,o.1,o.2)).bind fun r=>some ((r.1.1,
 r.1.2.1,r.1.2.2.1,r.1.2.2.2),r.2)
theorem le18 (x):Le (m18F x) (m18 x):=by
 unfold m18F m18
 repeat' first | with_reducible exact le21 _ | with_reducible exact le48 _ | with_reducible exact Le.refl _ | intro _ | apply Le.bind | apply Le.cond | apply Le.nil | apply Le.loop | apply Le.elim
def m19F:((Int×Int×List Int×List Int)×Int×Int×List Int×List Int)→Option (List Int×Int) :=
 fun x=>(m21F (x.1.1,x.1.2.1,x.1.2.2.1,x.1.2.2.2)).bind fun r=>(bif PE.notM (PE.notM r) then m21F (x.2.1,x.2.2.1,x.2.2.2.1,x.2.2.2.2) else some
 false).bind fun r_1=>bif PE.orM (PE.orM (PE.orM (PE.notM r) (PE.notM r_1)) (PE.notM (eqM x.1.1 x.2.1))) (PE.notM (eqM x.1.2.1 x.2.2.1)) then some ([],250)
 else (mkM (lenM x.1.2.2.1) (lenM x.1.2.2.1) (nat_lit 8) 0).bind fun r_2=>(loopF (fun (s:Int×List Int)=>bif ltM s.1 (lenM r_2) then ((idxM x.1.2.2.1
 s.1).bind fun r_3=>(idxM x.1.2.2.2 s.1).bind fun r_4=>(idxM x.2.2.2.1 s.1).bind fun r_5=>(idxM x.2.2.2.2 s.1).bind fun r_6=>bif ltM (min r_4 r_6) (max
 r_3 r_5) then (chkM s.1 (lenM s.2)).bind fun r_7=>(setM s.2 s.1 fun (x:Int)=>some 2).bind fun r=>some r else bif PE.orM (PE.notM (PE.andM (eqM r_3
 r_5) (eqM r_4 r_6))) (PE.notM (eqM r_3 r_4)) then (chkM s.1 (lenM s.2)).bind fun r_7=>(setM s.2 s.1 fun (x:Int)=>some 1).bind fun r=>some r else some
 s.2).bind fun o=>some (Sum.inl (wrap .i64 (s.1+1),o)) else some (Sum.inr s.2)) (0,r_2)).bind fun o=>some (o,0)
theorem le19 (x):Le (m19F x) (m19 x):=by
 unfold m19F m19
 repeat' first | with_reducible exact le21 _ | with_reducible exact Le.refl _ | intro _ | apply Le.bind | apply Le.cond | apply Le.nil | apply Le.loop | apply Le.elim
def m20F:(List Int×List Int)→Option (Bool) :=
 fun x=>bif PE.notM (eqM (lenM x.1) (lenM x.2)) then some false else (loopF (fun (s:Int)=>bif ltM s (lenM x.1) then (idxM x.1 s).bind fun r=>(idxM x.2
 s).bind fun r_1=>bif PE.notM (eqM r r_1) then some (Sum.inr (Sum.inr false)) else some (Sum.inl (wrap .i64 (s+1))) else some (Sum.inr (Sum.inl
 ()))) 0).bind fun o=>Sum.elim (fun (t:Unit)=>some true) (fun (t:Bool)=>some t) o
theorem le20 (x):Le (m20F x) (m20 x):=by
 unfold m20F m20
 repeat' first | with_reducible exact Le.refl _ | intro _ | apply Le.bind | apply Le.cond | apply Le.nil | apply Le.loop | apply Le.elim
def m4F:Unit→Option (Bool) :=
 fun x=>(m13F ((1,1,[0,6,12,6],[0,6,12,6]),1,1,2)).bind fun r=>(m13F ((1,1,[0,6,12,6],[0,6,12,6]),1,3,4)).bind fun r_1=>(m13F ((1,
 1,[0,6,12,6],[0,6,12,6]),3,0,2)).bind fun r_2=>(m14F (1,1,[0,6,12,6],[0,6,12,6])).bind fun r_3=>(m15 (0,0)).bind fun r_4=>(m15 (1,
 0)).bind fun r_5=>(m15 (0,1)).bind fun r_6=>(m8F ((1,1,[0,6,12,6],[0,6,12,6]),[(r_4.1,r_4.2),(r_5.1,r_5.2),(r_6.1,r_6.2)])).bind fun r_7
 => (m15 (0,0)).bind fun r_8=>(m15 (2,0)).bind fun r_9=>(m15 (0,1)).bind fun r_10=>(m8F ((1,1,[0,6,12,6],[0,6,12,6]),[(r_8.1,r_8.2),
 (r_9.1,r_9.2),(r_10.1,r_10.2)])).bind fun r_11=>(m11F ((1,1,[0,6,12,6],[0,6,12,6]),3)).bind fun r_12=>(m11F ((1,1,[0,6,12,6],[0,6,12,
 6]),11)).bind fun r_13=>(m16F (1,1,[0,6,12,6],[0,6,12,6])).bind fun r_14=>(m17F ((1,1,[0,6,12,6],[0,6,12,6]),1,1,[0,6,12,6],[0,
 6,12,6])).bind fun r_15=>(m18F ((1,1,[0,6,12,6],[0,6,12,6]),3)).bind fun r_16=>(m18F ((1,1,[0,6,12,6],[0,6,12,6]),9)).bind fun r_17
 => (m19F ((1,1,[0,6,12,6],[0,6,12,6]),1,1,[0,6,12,6],[0,7,12,6])).bind fun r_18=>bif PE.orM (PE.orM (PE.orM (PE.orM (PE.orM (PE.orM
 (PE.orM (PE.orM (PE.orM (PE.orM (PE.orM (PE.notM (eqM r.2.2 0)) (PE.notM (eqM r_1.2.2 0))) (PE.notM (eqM r_2.2.2 250))) (PE.notM (eqM r_7.2.2 0))) (PE.notM
 (eqM r_11.2.2 250))) (PE.notM (eqM r_12.2.2 0))) (PE.notM (eqM r_13.2.2 0))) (PE.notM (eqM r_14.2 0))) (PE.notM (eqM r_15.2 0))) (PE.notM (eqM r_16.2 0)))
 (PE.notM (eqM r_17.2 250))) (PE.notM (eqM r_18.2 0)) then some false else (m20F (r_14.1.2.2.1,[0,6,12,12,6,12,24,18,12])).bind fun r_19=>(bif r_19
 then m20F (r_14.1.2.2.2,r_14.1.2.2.1) else some false).bind fun r_20=>(bif PE.andM (PE.andM (PE.andM r_19 r_20) (eqM r_14.1.1 2)) (eqM r_14.1.2.1 2) then
 m20F (r_15.1.2.2.2,[0,12,24,12]) else some false).bind fun r_21=>(bif PE.andM (PE.andM (PE.andM (PE.andM r_19 r_20) (eqM r_14.1.1 2)) (eqM r_14.1.2.1
 2)) r_21 then m20F (r_16.1.2.2.1,[0,18,36,18]) else some false).bind fun r_22=>(bif PE.andM (PE.andM (PE.andM (PE.andM (PE.andM (PE.andM (PE.andM (eqM
 r.1 6) (eqM r.2.1 6)) (eqM r_1.1 30)) (eqM r_1.2.1 30)) (eqM r_3.1 30)) (eqM r_3.2 30)) (PE.andM (PE.andM (PE.andM (PE.andM (PE.andM (eqsM r_7.1.1 [(50 :
 UInt8)]) (eqsM r_7.1.2 [(49:UInt8)])) (PE.andM (eqsM r_7.2.1.1 r_7.1.1) (eqsM r_7.2.1.2 r_7.1.2))) (PE.andM (eqsM r_12.1.1 [(49:UInt8),(51:UInt8)])
 (eqsM r_12.1.2 [(49:UInt8),(54:UInt8)]))) (PE.andM (eqsM r_13.1.1 [(49:UInt8)]) (eqsM r_13.1.2 [(49:UInt8),(52:UInt8),(52:UInt8)]))) (PE.andM
 (eqsM r_13.2.1.1 r_13.1.1) (eqsM r_13.2.1.2 r_13.1.2)))) (PE.andM (PE.andM (PE.andM (PE.andM (PE.andM r_19 r_20) (eqM r_14.1.1 2)) (eqM r_14.1.2.1 2)) r_21)
 r_22) then m20F (r_18.1,[0,1,0,0]) else some false).bind fun r_23=>(bif PE.andM (PE.andM (PE.andM (PE.andM (PE.andM (PE.andM (PE.andM (PE.andM (eqM r.1
 6) (eqM r.2.1 6)) (eqM r_1.1 30)) (eqM r_1.2.1 30)) (eqM r_3.1 30)) (eqM r_3.2 30)) (PE.andM (PE.andM (PE.andM (PE.andM (PE.andM (eqsM r_7.1.1 [(50:UInt8)])
 (eqsM r_7.1.2 [(49:UInt8)])) (PE.andM (eqsM r_7.2.1.1 r_7.1.1) (eqsM r_7.2.1.2 r_7.1.2))) (PE.andM (eqsM r_12.1.1 [(49:UInt8),(51:UInt8)]) (eqsM
 r_12.1.2 [(49:UInt8),(54:UInt8)]))) (PE.andM (eqsM r_13.1.1 [(49:UInt8)]) (eqsM r_13.1.2 [(49:UInt8),(52:UInt8),(52:UInt8)]))) (PE.andM (eqsM
 r_13.2.1.1 r_13.1.1) (eqsM r_13.2.1.2 r_13.1.2)))) (PE.andM (PE.andM (PE.andM (PE.andM (PE.andM r_19 r_20) (eqM r_14.1.1 2)) (eqM r_14.1.2.1 2)) r_21) r_22))
 r_23 then m21F (1,1,[0,6,12,6],[0,6,12,6]) else some false).bind fun r_24=>(bif PE.andM (PE.andM (PE.andM (PE.andM (PE.andM (PE.andM (PE.andM
 (PE.andM (PE.andM (eqM r.1 6) (eqM r.2.1 6)) (eqM r_1.1 30)) (eqM r_1.2.1 30)) (eqM r_3.1 30)) (eqM r_3.2 30)) (PE.andM (PE.andM (PE.andM (PE.andM (PE.andM
 (eqsM r_7.1.1 [(50:UInt8)]) (eqsM r_7.1.2 [(49:UInt8)])) (PE.andM (eqsM r_7.2.1.1 r_7.1.1) (eqsM r_7.2.1.2 r_7.1.2))) (PE.andM (eqsM r_12.1.1 [(49 :
 UInt8),(51:UInt8)]) (eqsM r_12.1.2 [(49:UInt8),(54:UInt8)]))) (PE.andM (eqsM r_13.1.1 [(49:UInt8)]) (eqsM r_13.1.2 [(49:UInt8),(52:UInt8),(52
 : UInt8)]))) (PE.andM (eqsM r_13.2.1.1 r_13.1.1) (eqsM r_13.2.1.2 r_13.1.2)))) (PE.andM (PE.andM (PE.andM (PE.andM (PE.andM r_19 r_20) (eqM r_14.1.1 2)) (eqM
 r_14.1.2.1 2)) r_21) r_22)) r_23) r_24 then m21F (0,0,[],[]) else some false).bind fun r_25=>some (PE.andM (PE.andM (PE.andM (PE.andM (PE.andM (PE.andM
 (PE.andM (PE.andM (PE.andM (PE.andM (eqM r.1 6) (eqM r.2.1 6)) (eqM r_1.1 30)) (eqM r_1.2.1 30)) (eqM r_3.1 30)) (eqM r_3.2 30)) (PE.andM (PE.andM (PE.andM
 (PE.andM (PE.andM (eqsM r_7.1.1 [(50:UInt8)]) (eqsM r_7.1.2 [(49:UInt8)])) (PE.andM (eqsM r_7.2.1.1 r_7.1.1) (eqsM r_7.2.1.2 r_7.1.2))) (PE.andM (eqsM
 r_12.1.1 [(49:UInt8),(51:UInt8)]) (eqsM r_12.1.2 [(49:UInt8),(54:UInt8)]))) (PE.andM (eqsM r_13.1.1 [(49:UInt8)]) (eqsM r_13.1.2 [(49:UInt8),
 (52:UInt8),(52:UInt8)]))) (PE.andM (eqsM r_13.2.1.1 r_13.1.1) (eqsM r_13.2.1.2 r_13.1.2)))) (PE.andM (PE.andM (PE.andM (PE.andM (PE.andM r_19 r_20) (eqM
 r_14.1.1 2)) (eqM r_14.1.2.1 2)) r_21) r_22)) r_23) r_24) (PE.notM r_25))
theorem le4 (x):Le (m4F x) (m4 x):=by
 unfold m4F m4
 repeat' first | with_reducible exact le8 _ | with_reducible exact le11 _ | with_reducible exact le13 _ | with_reducible exact le14 _ | with_reducible exact le16 _ | with_reducible exact le17 _ | with_reducible exact le18 _ | with_reducible exact le19 _ | with_reducible exact le20 _ | with_reducible exact le21 _ | with_reducible exact Le.refl _ | intro _ | apply Le.bind | apply Le.cond | apply Le.nil | apply Le.loop | apply Le.elim
end
end Go.Proofs.YtdgabicjcepmeaaGreatDoor
namespace Go.Proofs.YtdgabicjcepmeaaGreatDoor
open Go Go.Abs Go.PE
set_option maxRecDepth 100000 in
theorem saneF:m4F ()=some true:=by kernel_rfl
theorem sane_ok:m4 ()=some true:=(le4 ()).out saneF
end Go.Proofs.YtdgabicjcepmeaaGreatDoor
namespace Go.Proofs.YtdgabicjcepmeaaGreatDoor
open Go Go.Abs Go.PE Go.Num
open Go.IntKind (wrap)
theorem lawP_ok (x:(Int×Int×Int×Int)×(List (Int×Int))×(Int×Int×Int)×(Int×Int×List Int×List Int)×(List (Int×Int))×(List (Int×Int))×Int) (h1:i64 x.1.1) (h2:i64 x.1.2.1)
  (a1:∀ p∈x.2.1,i64 p.1∧i64 p.2) (l1:x.2.1.length≤maxLen) (b1:i64 x.2.2.1.1) (b3:i64 x.2.2.1.2.2)
  (r1:x.2.2.2.1.2.2.1.length≤maxLen) (r2:x.2.2.2.1.2.2.2.length≤maxLen) (a2:∀ p∈x.2.2.2.2.1,i64 p.1∧i64 p.2) (l3:x.2.2.2.2.2.1.length≤maxLen) (p1:i64 x.2.2.2.2.2.2):m3 x=some true:=by
 obtain ⟨⟨s0,s1,s2,s3⟩,xs,⟨bh,bn,ba⟩,⟨rW,rH,rLo,rHi⟩,ls,ps,n⟩:=x
 dsimp only at h1 h2 a1 l1 b1 b3 r1 r2 a2 l3 p1
 have F1:=made_F (w:=s0) (h:=s1) (size:=6) (most:=100) (x:=xs) (by omega) (by omega) (by omega) (by omega)
 have e1:=made_ok (size:=6) (most:=100) h1 h2 (by omega) (by omega) (by omega) (by omega) a1 l1
 obtain ⟨q4,e4,hq4⟩:=cut50 r1
 obtain ⟨q5,e5,hq5⟩:=cut50 r2
 obtain ⟨q6,e6,hq6⟩:=cut9 l3
 have hbent:=bent_ok F1 (n:=bn) b1 b3
 generalize szF s0 6=W at *
 generalize szF s1 6=H at *
 generalize loF 100 xs=lo at *
 generalize hiF 100 xs=hi at *
 obtain ⟨bt,e7,hbt⟩:=hbent
 obtain ⟨pl,e8,hpl⟩:=part_ok (lo:=lo) (hi:=hi) F1.w1 F1.w6 F1.h1 F1.h6 a2
 have hp8:=hpl.h8
 have R1:RngF (fd W H lo hi):=by
  have:=nn_bd F1.w6 F1.h6
  unfold RngF fd
  dsimp only
  rw [row_length,row_length]
  show _≤9223372036854775807∧_≤9223372036854775807
  omega
 have R4:RngF (rW,rH,q4,q5):=⟨hq4,hq5⟩
 unfold m3
 dsimp only
 rw [sane_ok,Option.bind_some,notT,cond_false,e1,Option.bind_some,e4,Option.bind_some,e5,Option.bind_some,e6,Option.bind_some]
 refine bind_of (show m6 _=some bt from e7) ?_
 refine bind_of (x:=.inl ()) ?_ rfl
 refine loopM_fn (fun k=>(k:Int)) 3 (fun k hk=>?_) rfl
 obtain ⟨t,et,hR⟩:=in3 (P:=RngF) (a:=(((fd W H lo hi).1,(fd W H lo hi).2.1,(fd W H lo hi).2.2.1,(fd W H lo hi).2.2.2):Fld)) (b:=(bt.1,bt.2.1,bt.2.2.1,bt.2.2.2)) (c:=(rW,rH,q4,q5)) R1 hbt R4 hk
 rw [ltI (by show (k:Int)<3;omega),cond_true,et,Option.bind_some]
 obtain ⟨tW,tH,tLo,tHi⟩:=t
 refine bind_of (show m7 _=some pl from e8) ?_
 dsimp only
 refine bind_of (x:=.inl ()) ?_ ?_
 ·refine loopM_fn (fun k=>(k:Int)) 2 (fun j hj=>?_) rfl
  obtain ⟨u,eu,hu⟩:=in2 (P:=fun l:List (Int×Int)=>l.length≤9) (a:=pl) (b:=q6) (by omega) hq6 hj
  obtain ⟨av,c1,c2⟩:=over_same hR hu
  rw [ltI (by show (j:Int)<2;omega),cond_true,eu,Option.bind_some,c1,Option.bind_some,c2,Option.bind_some]
  simp only [eqs_refl,show PE.andM true true=true from rfl,notT,orF,eqI rfl,cond_false]
  rw [wrap_in (by omega) (by omega)];rfl
 ·rw [Sum.elim_inl,pickL_ok p1 (by omega),Option.bind_some]
  refine bind_of (x:=.inl ()) ?_ (by rw [Sum.elim_inl,wrap_in (by omega) (by omega)];rfl)
  refine loopM_fn (fun k=>(k:Int)) 2 (fun j hj=>?_) rfl
  obtain ⟨u,eu,_⟩:=in2 (P:=fun _:Int=>True) (a:=n) (b:=pk n 101) trivial trivial hj
  obtain ⟨av,c1,c2⟩:=above_same hR u
  rw [ltI (by show (j:Int)<2;omega),cond_true,eu,Option.bind_some,c1,Option.bind_some,c2,Option.bind_some]
  simp only [eqs_refl,show PE.andM true true=true from rfl,notT,orF,eqI rfl,cond_false]
  rw [wrap_in (by omega) (by omega)];rfl
end Go.Proofs.YtdgabicjcepmeaaGreatDoor
namespace Go.Proofs.YtdgabicjcepmeaaGreatDoor
open Go Go.Abs Go.PE
theorem mem_in {t:Ty} {l:List t.den} (h:InR (.list t) l):∀ x∈l,InR t x:=fun x hx=>by
 obtain ⟨i,hi,rfl⟩:=List.mem_iff_getElem.1 hx
 exact h.2 i _ (List.getElem?_eq_getElem hi)
theorem law3:∀ (S:Cells) (w:World) (η:Eta) (vs:List Value) x,All2 (RM S w η) (rvs as3 x) vs→m3 x=some true :=
 law_of_ok fun x h=>lawP_ok x h.1.1 h.1.2.1 (mem_in h.2.1) h.2.1.1 h.2.2.1.1 h.2.2.1.2.2 h.2.2.2.1.2.2.1.1 h.2.2.2.1.2.2.2.1 (mem_in h.2.2.2.2.1) h.2.2.2.2.2.1.1 h.2.2.2.2.2.2
end Go.Proofs.YtdgabicjcepmeaaGreatDoor
