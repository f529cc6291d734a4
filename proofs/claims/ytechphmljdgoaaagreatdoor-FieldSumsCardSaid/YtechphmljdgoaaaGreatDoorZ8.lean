/-
 Texts of this proof, put together: If, Ig, Ih, Ii, Fx, Gb, Gc, Gd, Fy, Ge, Gf, LawFieldSums.
 No conditions.
-/
import Derived.Test.YtechphmljdgoaaaGreatDoorZ7
set_option linter.all false
namespace Go.Proofs.YtechphmljdgoaaaGreatDoor
open Go Go.Lib Go.Abs Go.PE Go.Num
theorem vl_set:∀ (l:List Int) (i:Nat) (d:Int),i<l.length→vl (l.set i d)=vl l+10000 ^ i*(d-l.getD i 0)
 | [],i,d,h=>by simp at h
 | c::l,0,d,_=>by show d+10000*vl l=c+10000*vl l+1*(d-c);omega
 | c::l,i+1,d,h=>by
  have ih:=vl_set l i d (by simpa using h)
  show c+10000*vl (l.set i d)=c+10000*vl l+10000 ^ (i+1)*(d-l.getD i 0)
  rw [ih,Int.pow_succ,Int.mul_add,Int.mul_comm (10000 ^ i) 10000,Int.mul_assoc];omega
theorem okd_set {l:List Int} (h:okd l) {i:Nat} {d:Int} (hd:0≤d∧d≤9999):okd (l.set i d):=fun c hc=>by
 rcases List.mem_or_eq_of_mem_set hc with hc | rfl
 ·exact h c hc
 ·exact hd
theorem okd_rep (n:Nat):okd (List.replicate n 0):=fun c hc=>by rw [(List.mem_replicate.1 hc).2];omega
theorem vl_rep:∀ n,vl (List.replicate n 0)=0
 | 0=>rfl
 | n+1=>by show 0+10000*vl (List.replicate n 0)=0;rw [vl_rep n];rfl
theorem half_ok {i j:Nat} (h:i<j) (hj:j≤9999):shrM IntKind.u64 (IntKind.wrap IntKind.u64 (IntKind.wrap IntKind.i64 ((i:Int)+(j:Int)))) 1=some (((i+j) / 2:Nat):Int):=by
 rw [wrap_in (by omega) (by omega)]
 have e:IntKind.wrap IntKind.u64 ((i:Int)+j)=(i:Int)+j:=by
  unfold IntKind.wrap
  show ((i:Int)+j) % 18446744073709551616=_
  omega
 rw [e]
 unfold shrM
 rw [decide_eq_false (by omega)]
 show some (((i:Int)+j).fdiv 2)=_
 rw [Int.fdiv_eq_ediv_of_nonneg _ (by omega)]
 congr 1
theorem nat_int {t:Nat} (h:t≤9999):(0:Int)≤(t:Int)∧(t:Int)≤9999:=by omega
theorem search_ok {b R:Nat} (hb:0<b) (hR:R<10000*b) (lb:(grp b).length≤400) (lR:(grp R).length≤500) :
  loopM (fun (s_1:Int×Int)=>bif ltM s_1.1 s_1.2 then (shrM IntKind.u64
 (IntKind.wrap IntKind.u64 (IntKind.wrap IntKind.i64 (s_1.1+s_1.2))) 1).bind fun r_4=>(m114 (grp b,IntKind.wrap IntKind.i64 (IntKind.wrap IntKind.i64 r_4+1))).bind fun r_5=>(m88 (r_5,
 grp R)).bind fun r=>bif PE.notM (ltM 0 r) then some (Sum.inl (IntKind.wrap IntKind.i64 (IntKind.wrap IntKind.i64 r_4+1),s_1.2)) else some (Sum.inl (s_1.1,IntKind.wrap IntKind.i64
 r_4)) else some (Sum.inr s_1.1)) (0,9999)=some ((R / b:Nat):Int):=by
 have hq:R / b≤9999:=by
  have:R / b<10000:=(Nat.div_lt_iff_lt_mul hb).2 hR
  omega
 refine Ans.is (Ans.loop (fun k s=>∃ i j:Nat,s=((i:Int),(j:Int))∧i≤R / b∧R / b≤j∧j≤9999∧j-i+k≤9999) 9999 ⟨0,9999,rfl,Nat.zero_le _,hq,Nat.le_refl _,by omega⟩ ?_)
 rintro k s hk ⟨i,j,rfl,h1,h2,h3,h4⟩
 dsimp only
 by_cases hij:i<j
 ·rw [ltI (by omega),cond_true,half_ok hij h3,Option.bind_some,wrap_in (n:=(((i+j) / 2:Nat):Int)) (by omega) (by omega),wrap_in (n:=(((i+j) / 2:Nat):Int)+1) (by omega) (by omega)]
  have e1:(((i+j) / 2:Nat):Int)+1=(((i+j) / 2+1:Nat):Int):=by omega
  rw [e1,by_ok (by omega) (by omega),Option.bind_some]
  have l1:(grp (b*((i+j) / 2+1))).length≤10000:=Nat.le_trans grp_mul (by have:(grp ((i+j) / 2+1)).length≤1:=grp_len_le (by omega);omega)
  rw [compare_ok l1 (by omega),Option.bind_some]
  have key:(i+j) / 2+1≤R / b↔b*((i+j) / 2+1)≤R:=by rw [Nat.le_div_iff_mul_le hb,Nat.mul_comm]
  by_cases hc:b*((i+j) / 2+1)≤R
  ·have e2:ltM 0 (cmp3 ((b*((i+j) / 2+1):Nat):Int) (R:Int))=false:=by
    unfold cmp3
    by_cases h5:((b*((i+j) / 2+1):Nat):Int)<R
    ·rw [if_pos h5];rfl
    ·rw [if_neg h5,if_neg (by omega)];rfl
   rw [e2,notF,cond_true]
   refine Ans.of (r:=.inl ((((i+j) / 2+1:Nat):Int),(j:Int))) rfl ?_
   exact show k<9999∧∃ i' j':Nat,((((i+j) / 2+1:Nat):Int),(j:Int))=((i':Int),(j':Int))∧i'≤R / b∧R / b≤j'∧j'≤9999∧j'-i'+(k+1)≤9999 from ⟨by omega,_,_,rfl,key.2 hc,h2,h3,by omega⟩
  ·have e2:ltM 0 (cmp3 ((b*((i+j) / 2+1):Nat):Int) (R:Int))=true:=by
    unfold cmp3
    rw [if_neg (by omega),if_pos (by omega)];rfl
   rw [e2,notT,cond_false]
   refine Ans.of (r:=.inl ((i:Int),(((i+j) / 2:Nat):Int))) rfl ?_
   have h6:¬ (i+j) / 2+1≤R / b:=fun h=>hc (key.1 h)
   exact show k<9999∧∃ i' j':Nat,((i:Int),(((i+j) / 2:Nat):Int))=((i':Int),(j':Int))∧i'≤R / b∧R / b≤j'∧j'≤9999∧j'-i'+(k+1)≤9999 from ⟨by omega,_,_,rfl,h1,by omega,by omega,by omega⟩
 ·rw [geI (by omega),cond_false]
  refine Ans.of (r:=.inr (i:Int)) rfl ?_
  show (i:Int)=((R / b:Nat):Int)
  omega
theorem over_ok {a b:Nat} (hb:0<b) (la:(grp a).length≤400) (lb:(grp b).length≤400):m83 (grp a,grp b)=some (grp (a / b),grp (a % b)):=by
 unfold m83
 obtain ⟨L,hL⟩:∃ L,L=(grp a).length:=⟨_,rfl⟩
 have hlen:lenM (grp a)=(L:Int):=by rw [lenI,hL]
 dsimp only
 rw [hlen,mkM_of (by omega) (by omega) (by show (L:Int)*8≤_;omega),Option.bind_some,show ((L:Nat):Int).toNat=L by omega]
 have hw:IntKind.wrap IntKind.i64 ((L:Int)-1)=(L:Int)-((0:Nat):Int)-1:=by rw [wrap_in (by omega) (by omega)];omega
 rw [hw]
 refine Ans.is (Ans.bind (P:=fun o=>o.1=grp (a % b)∧okd o.2∧o.2.length=L∧vl o.2=((a / b:Nat):Int)) (Ans.loop (fun k s=>s.1=(L:Int)-(k:Int)-1∧s.2.1=grp (a / 10000 ^ (L-k) % b)∧okd s.2.2∧s.2.2.length=L∧vl s.2.2=10000 ^ (L-k)*((a / 10000 ^ (L-k) / b:Nat):Int)∧∀ j,j<L-k→s.2.2.getD j 0=0) L ⟨rfl,?_,okd_rep _,List.length_replicate,?_,?_⟩ ?_) ?_)
 ·show ([]:List Int)=_
  rw [Nat.sub_zero,hL,Nat.div_eq_of_lt (grp_lt a),Nat.zero_mod,grp_zero]
 ·show vl (List.replicate L 0)=_
  rw [Nat.sub_zero,hL,Nat.div_eq_of_lt (grp_lt a),Nat.zero_div,vl_rep];simp
 ·intro j hj
  show (List.replicate L 0).getD j 0=0
  rw [getD_in _ _ (by simp;omega)];simp
 ·rintro k ⟨i,rm,q⟩ hk ⟨h1,h2,h3,h4,h5,h6⟩
  dsimp only at h1 h2 h3 h4 h5 h6
  subst h1 h2
  by_cases hkL:k<L
  ·have hi:(L:Int)-(k:Int)-1=((L-k-1:Nat):Int):=by omega
   have hd:a / 10000 ^ (L-k)=a / 10000 ^ (L-k-1) / 10000:=by rw [← div_pow_succ,show L-k-1+1=L-k by omega]
   obtain ⟨A,hA⟩:∃ A,A=a / 10000 ^ (L-k-1):=⟨_,rfl⟩
   have hAl:(grp A).length≤400:=by rw [hA];exact Nat.le_trans (grp_len_mono (Nat.div_le_self _ _)) la
   rw [hd,← hA] at h5 ⊢
   have hrm:(grp (A / 10000 % b)).length≤400:=Nat.le_trans (grp_len_mono (Nat.le_of_lt (Nat.mod_lt _ hb))) lb
   have hRv:vl (((A % 10000:Nat):Int)::grp (A / 10000 % b))=((10000*(A / 10000 % b)+A % 10000:Nat):Int):=by rw [vl,vl_grp];omega
   obtain ⟨R,hR⟩:∃ R,R=10000*(A / 10000 % b)+A % 10000:=⟨_,rfl⟩
   have hRb:R<10000*b:=by
    have:=Nat.mod_lt (A / 10000) hb
    omega
   have hAR:A=10000*(A / 10000 / b)*b+R:=by
    have h7:=Nat.div_add_mod (A / 10000) b
    have h8:10000*(A / 10000 / b)*b=10000*(b*(A / 10000 / b)):=by rw [Nat.mul_assoc,Nat.mul_comm b]
    omega
   have hq:A / b=10000*(A / 10000 / b)+R / b:=by
    conv=>lhs;rw [hAR]
    rw [Nat.mul_comm (10000*_) b,Nat.mul_add_div hb]
   have hm:A % b=R % b:=by
    conv=>lhs;rw [hAR]
    rw [Nat.mul_comm (10000*_) b,Nat.mul_add_mod]
   have lR:(grp R).length≤500:=Nat.le_trans (grp_len_mono (show R≤10000*b by omega)) (Nat.le_trans (grp_shift_len b) (by omega))
   have hgi:idxM (grp a) ((L-k-1:Nat):Int)=some ((A % 10000:Nat):Int):=by rw [hA];exact grp_idx (by omega)
   have hst:m113 (((A % 10000:Nat):Int)::grp (A / 10000 % b))=some (grp R):=by
    rw [strip_ok (okd_cons.2 ⟨by omega,grp_okd _⟩) (by simp;omega),hRv,← hR];rfl
   have hd9:R / b≤9999:=by
    have:R / b<10000:=(Nat.div_lt_iff_lt_mul hb).2 hRb
    omega
   dsimp only
   rw [hi,leI (by omega),cond_true,hgi,Option.bind_some,appM_of (by simp;omega),Option.bind_some,List.singleton_append,hst,Option.bind_some]
   refine Ans.bind (P:=fun o=>o=((R / b:Nat):Int)) (.of (bind_of (search_ok hb hRb lb lR) rfl) rfl) ?_
   rintro ov rfl
   rw [lenI,h4,chkM_of (by omega) (by omega),Option.bind_some,setM_of (y:=((R / b:Nat):Int)) (by omega) (by rw [h4];omega) rfl,Option.bind_some,show (((L-k-1:Nat):Int)).toNat=L-k-1 by omega]
   have hsl:(q.set (L-k-1) ((R / b:Nat):Int)).length=L:=by rw [List.length_set,h4]
   rw [lenI,hsl,chkM_of (by omega) (by omega),Option.bind_some,idxM_lt (by rw [hsl];omega),Option.bind_some,List.getElem_set_self,by_ok (by omega) hd9,Option.bind_some,minus_ok (by omega) (Nat.mul_div_le R b),Option.bind_some,wrap_in (by omega) (by omega)]
   have e9:R-b*(R / b)=A % b:=by rw [hm];have:=Nat.div_add_mod R b;omega
   rw [e9]
   refine Ans.of (r:=.inl ((((L-k-1:Nat):Int)-1,grp (A % b),q.set (L-k-1) ((R / b:Nat):Int)))) rfl ?_
   refine show k<L∧((L-k-1:Nat):Int)-1=(L:Int)-((k+1:Nat):Int)-1∧grp (A % b)=grp (a / 10000 ^ (L-(k+1)) % b)∧okd (q.set (L-k-1) ((R / b:Nat):Int))∧(q.set (L-k-1) ((R / b:Nat):Int)).length=L ∧
     vl (q.set (L-k-1) ((R / b:Nat):Int))=10000 ^ (L-(k+1))*((a / 10000 ^ (L-(k+1)) / b:Nat):Int)∧∀ j,j<L-(k+1)→(q.set (L-k-1) ((R / b:Nat):Int)).getD j 0=0 from ⟨hkL,by omega,?_,okd_set h3 (nat_int hd9),hsl,?_,fun j hj=>?_⟩
   ·rw [show L-(k+1)=L-k-1 by omega,← hA]
   ·obtain ⟨m,hm'⟩:∃ m,m=L-k-1:=⟨_,rfl⟩
    rw [show L-(k+1)=L-k-1 by omega,← hA,hq,vl_set _ _ _ (by rw [h4];omega),h6 _ (by omega),h5,← hm',show L-k=m+1 by omega,Int.pow_succ,Int.mul_assoc,Int.sub_zero,← Int.mul_add,Int.natCast_add,Int.natCast_mul]
    rfl
   ·rw [List.getD_eq_getElem?_getD,List.getElem?_set_ne (by omega),← List.getD_eq_getElem?_getD]
    exact h6 j (by omega)
  ·have hk':k=L:=by omega
   subst hk'
   rw [Nat.sub_self,Nat.pow_zero,Nat.div_one] at h5 ⊢
   dsimp only
   rw [gtI (by omega),cond_false]
   refine Ans.of (r:=.inr (grp (a % b),q)) rfl ?_
   exact show grp (a % b)=grp (a % b)∧okd q∧q.length=k∧vl q=((a / b:Nat):Int) from ⟨rfl,h3,h4,by rw [h5];omega⟩
 ·rintro ⟨rm,q⟩ ⟨h1,h2,h3,h4⟩
  dsimp only at h1 h2 h3 h4
  have e:=strip_ok h2 (by omega)
  rw [h4] at e
  subst h1
  exact .of (by dsimp only;rw [e];rfl) rfl
theorem sg_sign {nx:Bool} {l:List Int} {x:Int} (h:Sg (nx,l) x):l=grp x.natAbs∧(nx=false→0≤x)∧(nx=true→x≤0):=by
 obtain ⟨h1,h2⟩:=h
 refine ⟨h1,fun e=>?_,fun e=>?_⟩
 ·by_cases h0:x=0
  ·omega
  ·have:=h2 h0
   have e':decide (x<0)=false:=by rw [← this];exact e
   have:=of_decide_eq_false e'
   omega
 ·by_cases h0:x=0
  ·omega
  ·have:=h2 h0
   have e':decide (x<0)=true:=by rw [← this];exact e
   have:=of_decide_eq_true e'
   omega
theorem sg_mk {nx:Bool} {x:Int} (h1:nx=false→0≤x) (h2:nx=true→x≤0):Sg (nx,grp x.natAbs) x:=by
 refine ⟨rfl,fun h0=>?_⟩
 cases nx
 ·exact (decide_eq_false (by have:=h1 rfl;omega)).symm
 ·exact (decide_eq_true (by have:=h2 rfl;omega)).symm
theorem splus_gen {o1 o2:Bool×List Int} {x y:Int} (h1:Sg o1 x) (h2:Sg o2 y) (hx:(grp x.natAbs).length≤400) (hy:(grp y.natAbs).length≤400):Ans (m95 ((o1.1,o1.2),o2.1,o2.2)) fun o=>Sg o (x+y):=by
 obtain ⟨nx,l⟩:=o1
 obtain ⟨ny,m⟩:=o2
 obtain ⟨rfl,a1,a2⟩:=sg_sign h1
 obtain ⟨rfl,b1,b2⟩:=sg_sign h2
 unfold m95
 dsimp only
 by_cases hs:nx=ny
 ·rw [show eqbM nx ny=true from decide_eq_true hs,cond_true,plus_ok (by omega) (by omega),Option.bind_some]
  refine .of rfl ?_
  have e:x.natAbs+y.natAbs=(x+y).natAbs:=by
   subst hs
   cases nx
   ·have:=a1 rfl;have:=b1 rfl;omega
   ·have:=a2 rfl;have:=b2 rfl;omega
  rw [e]
  subst hs
  exact sg_mk (fun e=>by have:=a1 e;have:=b1 e;omega) (fun e=>by have:=a2 e;have:=b2 e;omega)
 ·rw [show eqbM nx ny=false from decide_eq_false hs,cond_false,compare_ok (by omega) (by omega),Option.bind_some,cmp3_pos]
  have hop:(nx=false∧ny=true)∨(nx=true∧ny=false):=by cases nx<;>cases ny<;>simp at hs ⊢
  by_cases hc:y.natAbs≤x.natAbs
  ·rw [decide_eq_true (by omega),cond_true,minus_ok (by omega) hc,Option.bind_some]
   refine .of rfl ?_
   rcases hop with ⟨rfl,rfl⟩ | ⟨rfl,rfl⟩
   ·have:=a1 rfl
    have:=b2 rfl
    rw [show x.natAbs-y.natAbs=(x+y).natAbs by omega]
    exact sg_mk (fun _=>by omega) (fun e=>by cases e)
   ·have:=a2 rfl
    have:=b1 rfl
    rw [show x.natAbs-y.natAbs=(x+y).natAbs by omega]
    exact sg_mk (fun e=>by cases e) (fun _=>by omega)
  ·rw [decide_eq_false (by omega),cond_false,minus_ok (by omega) (by omega),Option.bind_some]
   refine .of rfl ?_
   rcases hop with ⟨rfl,rfl⟩ | ⟨rfl,rfl⟩
   ·have:=a1 rfl
    have:=b2 rfl
    rw [show y.natAbs-x.natAbs=(x+y).natAbs by omega]
    exact sg_mk (fun e=>by cases e) (fun _=>by omega)
   ·have:=a2 rfl
    have:=b1 rfl
    rw [show y.natAbs-x.natAbs=(x+y).natAbs by omega]
    exact sg_mk (fun _=>by omega) (fun e=>by cases e)
theorem sg_of (x:Int):Sg (decide (x<0),grp x.natAbs) x:=⟨rfl,fun _=>rfl⟩
theorem sg_neg (x:Int):Sg (PE.notM (decide (x<0)),grp x.natAbs) (-x):=by
 rw [← Int.natAbs_neg x]
 refine sg_mk (fun e=>?_) (fun e=>?_)
 ·by_cases h:x<0
  ·omega
  ·rw [decide_eq_false h] at e;cases e
 ·by_cases h:x<0
  ·rw [decide_eq_true h] at e;cases e
  ·omega
theorem isub_ok {x y:Int} (hx:Fits x) (hy:Fits y):m108 (itoa x,itoa y)=some (sn (x-y)):=by
 have h1:=fits_len hx
 have h2:=fits_len hy
 have hn:(-y).natAbs=y.natAbs:=Int.natAbs_neg y
 unfold m108
 dsimp only
 rw [both_ok hx hy,Option.bind_some,notT,cond_false]
 refine Ans.is (Ans.bind (splus_gen (sg_of x) (sg_neg y) (by omega) (by rw [hn];omega)) fun o ho=>?_)
 rw [← Int.sub_eq_add_neg] at ho
 rw [show m87 (o.1,o.2)=some (sn (x-y)) from sn_text ho (Nat.le_trans (grp_len_mono (show (x-y).natAbs≤x.natAbs+y.natAbs by omega)) (Nat.le_trans grp_add (by omega)))]
 exact .of rfl rfl
theorem igcd_loop:∀ (N a b:Nat),b≤N→(grp a).length≤400→(grp b).length≤400→loopM (fun (s:List Int×List Int)=>bif ltM 0 (lenM s.2) then (m83
 (s.1,s.2)).bind fun r=>some (Sum.inl (s.2,r.2)) else some (Sum.inr s.1)) (grp a,grp b)=some (grp (Nat.gcd a b))
 | N,a,0,_,la,lb=>by rw [loopM_eq,Nat.gcd_zero_right,grp_zero];rfl
 | 0,a,b+1,h,_,_=>absurd h (by omega)
 | N+1,a,b+1,h,la,lb=>by
  have hlt:=Nat.mod_lt a (show 0<b+1 by omega)
  have ih:=igcd_loop N (b+1) (a % (b+1)) (by omega) lb (Nat.le_trans (grp_len_mono (Nat.le_of_lt hlt)) lb)
  have hl:(grp (b+1)).length≠0:=fun e=>by have:=grp_nil.1 (List.length_eq_zero_iff.1 e);omega
  rw [loopM_eq]
  dsimp only
  rw [ltI (by rw [lenI];omega),cond_true,over_ok (by omega) la lb,Option.bind_some]
  refine Eq.trans ih ?_
  rw [Nat.gcd_comm (b+1),← Nat.gcd_rec,Nat.gcd_comm]
theorem igcd_ok {x y:Int} (hx:Fits x) (hy:Fits y):m81 (itoa x,itoa y)=some (sn ((Nat.gcd x.natAbs y.natAbs:Nat):Int)):=by
 have h1:=fits_len hx
 have h2:=fits_len hy
 have hl:(grp (Nat.gcd x.natAbs y.natAbs)).length≤400:=by
  by_cases h0:x.natAbs=0
  ·rw [h0,Nat.gcd_zero_left];omega
  ·exact Nat.le_trans (grp_len_mono (Nat.le_of_dvd (by omega) (Nat.gcd_dvd_left _ _))) (by omega)
 unfold m81
 dsimp only
 rw [both_ok hx hy,Option.bind_some,notT,cond_false]
 refine bind_of (igcd_loop _ _ _ (Nat.le_refl _) (by omega) (by omega)) ?_
 have hs:Sg (false,grp (Nat.gcd x.natAbs y.natAbs)) ((Nat.gcd x.natAbs y.natAbs:Nat):Int):=by
  have:=sg_mk (nx:=false) (x:=((Nat.gcd x.natAbs y.natAbs:Nat):Int)) (fun _=>by omega) (fun e=>by cases e)
  rwa [Int.natAbs_natCast] at this
 rw [sn_text hs (by rw [Int.natAbs_natCast];exact hl)]
 rfl
end Go.Proofs.YtechphmljdgoaaaGreatDoor
namespace Go.Proofs.YtechphmljdgoaaaGreatDoor
open Go Go.Lib Go.Abs Go.PE Go.Num
theorem ione_ok:m85 ()=some (grp 1):=by
 have e:grp 1=[1]:=by rw [grp_pos (by omega)];simp [grp_zero]
 rw [e];rfl
theorem idiv_ok {x y:Int} (hx:Fits x) (hy:Fits y) (hy0:0<y):m56 (itoa x,itoa y)=some (itoa (x / y),itoa (x % y),0):=by
 have h1:=fits_len hx
 have h2:=fits_len hy
 have hyn:0<y.natAbs:=by omega
 have hyl:(grp y.natAbs).length≠0:=fun e=>by have:=grp_nil.1 (List.length_eq_zero_iff.1 e);omega
 have hm:=Nat.mod_lt x.natAbs hyn
 have hdm:=Nat.div_add_mod x.natAbs y.natAbs
 have hql:(grp (x.natAbs / y.natAbs)).length≤50:=Nat.le_trans (grp_len_mono (Nat.div_le_self _ _)) h1
 have hQle:x.natAbs / y.natAbs≤x.natAbs:=Nat.div_le_self _ _
 have hyd:decide (y<0)=false:=decide_eq_false (by omega)
 unfold m56
 dsimp only
 rw [both_ok hx hy,Option.bind_some,notT,orF,neI (show lenM (grp y.natAbs)≠0 by rw [lenI];omega),cond_false,over_ok hyn (by omega) (by omega),Option.bind_some,hyd]
 generalize x.natAbs / y.natAbs=Q at *
 generalize x.natAbs % y.natAbs=R at *
 have hmul:((y.natAbs*(Q):Nat):Int)=y*((Q:Nat):Int):=by rw [Int.natCast_mul];congr 1;omega
 by_cases hxn:x<0
 ·rw [decide_eq_true hxn,andT]
  by_cases hr:R=0
  ·have e:x / y=-((Q:Nat):Int)∧x % y=0:=(Int.ediv_emod_unique hy0).2 ⟨by rw [Int.mul_neg,← hmul];omega,Int.le_refl _,hy0⟩
   rw [hr,grp_zero,geI (by rw [lenI];simp),cond_false,Option.bind_some]
   have t1:=sn_text (o:=(true,grp (Q))) (z:=x / y) (by rw [e.1];have:=sg_mk (nx:=true) (x:=-((Q:Nat):Int)) (fun e=>by cases e) (fun _=>by omega);rwa [Int.natAbs_neg,Int.natAbs_natCast] at this) (by rw [e.1,Int.natAbs_neg,Int.natAbs_natCast];omega)
   have f1:Fits (x / y):=by rw [e.1];unfold Fits;rw [Int.natAbs_neg,Int.natAbs_natCast];exact Nat.lt_of_le_of_lt hQle hx
   have t2:=sn_text (o:=(false,grp 0)) (z:=(0:Int)) ⟨rfl,fun h=>absurd rfl h⟩ (by rw [show (0:Int).natAbs=0 from rfl,grp_zero];simp)
   rw [grp_zero] at t2
   have g1:sn (x / y)=(itoa (x / y),0):=if_pos f1
   have g2:sn 0=(itoa 0,0):=if_pos (by decide)
   dsimp only
   rw [show PE.notM (eqbM true false)=true from rfl,t1,g1,Option.bind_some,eqI rfl,notT,cond_false,t2,g2,Option.bind_some,e.2]
  ·have hrl:(grp (R)).length≠0:=fun e=>hr (grp_nil.1 (List.length_eq_zero_iff.1 e))
   have e:x / y=-((Q+1:Nat):Int)∧x % y=((y.natAbs-R:Nat):Int):=(Int.ediv_emod_unique hy0).2 ⟨by
    rw [Int.mul_neg,Int.natCast_add,Int.mul_add,← hmul];omega,by omega,by omega⟩
   have hq1:Q+1≤x.natAbs:=by
    have h3:Q*y.natAbs+R=x.natAbs:=by rw [Nat.mul_comm];exact hdm
    have h4:Q≤Q*y.natAbs:=Nat.le_mul_of_pos_right _ hyn
    omega
   rw [ltI (show 0<lenM (grp R) by rw [lenI];omega),cond_true,ione_ok,Option.bind_some,plus_ok (by omega) (by rw [show grp 1=[1] from by rw [grp_pos (by omega)];simp [grp_zero]];simp),Option.bind_some,minus_ok (by omega) (Nat.le_of_lt hm),Option.bind_some,Option.bind_some]
   have t1:=sn_text (o:=(true,grp (Q+1))) (z:=x / y) (by rw [e.1];have:=sg_mk (nx:=true) (x:=-((Q+1:Nat):Int)) (fun e=>by cases e) (fun _=>by omega);rwa [Int.natAbs_neg,Int.natAbs_natCast] at this) (by rw [e.1,Int.natAbs_neg,Int.natAbs_natCast];exact Nat.le_trans (grp_len_mono hq1) (by omega))
   have f1:Fits (x / y):=by rw [e.1];unfold Fits;rw [Int.natAbs_neg,Int.natAbs_natCast];exact Nat.lt_of_le_of_lt hq1 hx
   have t2:=sn_text (o:=(false,grp (y.natAbs-R))) (z:=x % y) (by rw [e.2];have:=sg_mk (nx:=false) (x:=((y.natAbs-R:Nat):Int)) (fun _=>by omega) (fun e=>by cases e);rwa [Int.natAbs_natCast] at this) (by rw [e.2,Int.natAbs_natCast];exact Nat.le_trans (grp_len_mono (Nat.sub_le _ _)) (by omega))
   have f2:Fits (x % y):=by rw [e.2];unfold Fits;rw [Int.natAbs_natCast];exact Nat.lt_of_le_of_lt (Nat.sub_le _ _) hy
   have g1:sn (x / y)=(itoa (x / y),0):=if_pos f1
   have g2:sn (x % y)=(itoa (x % y),0):=if_pos f2
   dsimp only
   rw [show PE.notM (eqbM true false)=true from rfl,t1,g1,Option.bind_some,eqI rfl,notT,cond_false,t2,g2,Option.bind_some]
 ·have e:x / y=((Q:Nat):Int)∧x % y=((R:Nat):Int):=(Int.ediv_emod_unique hy0).2 ⟨by rw [← hmul];omega,by omega,by omega⟩
  rw [decide_eq_false hxn,andF,cond_false,Option.bind_some]
  have t1:=sn_text (o:=(false,grp (Q))) (z:=x / y) (by rw [e.1];have:=sg_mk (nx:=false) (x:=((Q:Nat):Int)) (fun _=>by omega) (fun e=>by cases e);rwa [Int.natAbs_natCast] at this) (by rw [e.1,Int.natAbs_natCast];omega)
  have f1:Fits (x / y):=by rw [e.1];unfold Fits;rw [Int.natAbs_natCast];exact Nat.lt_of_le_of_lt hQle hx
  have t2:=sn_text (o:=(false,grp (R))) (z:=x % y) (by rw [e.2];have:=sg_mk (nx:=false) (x:=((R:Nat):Int)) (fun _=>by omega) (fun e=>by cases e);rwa [Int.natAbs_natCast] at this) (by rw [e.2,Int.natAbs_natCast];exact Nat.le_trans (grp_len_mono (Nat.le_of_lt hm)) (by omega))
  have f2:Fits (x % y):=by rw [e.2];unfold Fits;rw [Int.natAbs_natCast];exact Nat.lt_trans hm hy
  have g1:sn (x / y)=(itoa (x / y),0):=if_pos f1
  have g2:sn (x % y)=(itoa (x % y),0):=if_pos f2
  dsimp only
  rw [show PE.notM (eqbM false false)=false from rfl,t1,g1,Option.bind_some,eqI rfl,notT,cond_false,t2,g2,Option.bind_some]
end Go.Proofs.YtechphmljdgoaaaGreatDoor
namespace Go.Proofs.YtechphmljdgoaaaGreatDoor
open Go Go.Lib Go.Abs Go.PE Go.Num
def rt (q:Rat):List UInt8×List UInt8:=(itoa q.num,itoa (q.den:Int))
def FitsR (q:Rat):Prop:=Fits q.num∧Fits (q.den:Int)
noncomputable def redE (n d:List UInt8) (bad:Bool):Option ((List UInt8×List UInt8)×Int) :=
 (bif PE.orM bad (eqsM d [(48:UInt8)]) then some ([],[],40,bad) else ((m57 (d,[(48:UInt8)])).bind fun r=>bif ltM r 0 then (bif bad then some ([],bad) else (m108 ([(48:UInt8)],
 n)).bind fun r=>some (r.1,PE.notM (eqM r.2 0))).bind fun (ov_4:List UInt8×Bool)=>(bif ov_4.2 then some ([],ov_4.2) else (m108 ([(48:UInt8)],
 d)).bind fun r=>some (r.1,PE.notM (eqM r.2 0))).bind fun (ov:List UInt8×Bool)=>some (ov_4.1,ov.1,ov.2) else some (n,d,
 bad)).bind fun o_1=>(bif o_1.2.2 then some ([],o_1.2.2) else (m81 (o_1.1,o_1.2.1)).bind fun r=>some (r.1,PE.notM (eqM r.2 0))).bind fun (ov_4 :
 List UInt8×Bool)=>(bif ov_4.2 then some ([],ov_4.2) else (m133 (o_1.1,ov_4.1)).bind fun r=>some (r.1,PE.notM (eqM r.2 0))).bind fun (ov_5:List
 UInt8×Bool)=>(bif ov_5.2 then some ([],ov_5.2) else (m133 (o_1.2.1,ov_4.1)).bind fun r=>some (r.1,PE.notM (eqM r.2 0))).bind fun (ov:List UInt8 ×
 Bool)=>bif ov.2 then some ([],[],40,ov.2) else some (ov_5.1,ov.1,0,ov.2)).bind fun (ov:List UInt8×List UInt8×Int×Bool)=>some ((ov.1,
 ov.2.1),ov.2.2.1)
theorem sn_fit {z:Int} (h:Fits z):sn z=(itoa z,0):=if_pos h
theorem fits_neg {z:Int} (h:Fits z):Fits (-z):=by unfold Fits at *;rwa [Int.natAbs_neg]
theorem fits_zero:Fits 0:=by decide
theorem quot_ok {x y:Int} (hx:Fits x) (hy:Fits y) (hy0:0<y):m133 (itoa x,itoa y)=some (itoa (x / y),0):=by
 unfold m133
 dsimp only
 rw [idiv_ok hx hy hy0];rfl
theorem redE_pos {n d:Int} (hn:Fits n) (hd:Fits d) (h0:0<d):(bif false then some (([]:List UInt8),false) else (m81 (itoa n,itoa d)).bind fun r=>some (r.1,PE.notM (eqM r.2 0)))=some (itoa ((Int.gcd d n:Nat):Int),false):=by
 have hg:Fits ((Nat.gcd n.natAbs d.natAbs:Nat):Int):=by
  unfold Fits
  rw [Int.natAbs_natCast]
  exact Nat.lt_of_le_of_lt (Nat.le_of_dvd (by omega) (Nat.gcd_dvd_right _ _)) hd
 rw [cond_false,igcd_ok hn hd,Option.bind_some,sn_fit hg,eqI rfl,notT,Nat.gcd_comm];rfl
theorem redE_ok {n d:Int} (hn:Fits n) (hd:Fits d) (h0:d≠0):redE (itoa n) (itoa d) false=some (rt (Rat.divInt n d),0):=by
 have hq:(Rat.divInt n d).num=d.sign*n / ((Int.gcd d n:Nat):Int)∧(((Rat.divInt n d).den:Nat):Int)=d.sign*d / ((Int.gcd d n:Nat):Int):=by
  refine ⟨Rat.num_divInt n d,?_⟩
  have hsn:d.sign*d=(d.natAbs:Int):=by
   by_cases h:d<0
   ·rw [Int.sign_eq_neg_one_of_neg h];omega
   ·rw [Int.sign_eq_one_of_pos (by omega)];omega
  rw [Rat.den_divInt,if_neg h0,hsn,Int.natCast_ediv]
 have hgp:(0:Int)<((Int.gcd d n:Nat):Int):=by
  have:=Int.gcd_pos_of_ne_zero_left n h0
  omega
 have hgf:Fits ((Int.gcd d n:Nat):Int):=by
  unfold Fits
  rw [Int.natAbs_natCast]
  exact Nat.lt_of_le_of_lt (Nat.le_of_dvd (by omega) (Nat.gcd_dvd_left _ _)) hd
 unfold redE rt
 rw [eqsF (fun e=>h0 (itoa_eq0.1 e)),orF,cond_false,← itoa_zero,icmp_ok hd fits_zero,Option.bind_some]
 by_cases hneg:d<0
 ·have hs:d.sign=-1:=Int.sign_eq_neg_one_of_neg hneg
  have e1:ltM (cmp3 d 0) 0=true:=by unfold cmp3;rw [if_pos hneg];rfl
  rw [e1,cond_true,cond_false,isub_ok fits_zero hn,Option.bind_some,Int.zero_sub,sn_fit (fits_neg hn),eqI rfl,notT,Option.bind_some,cond_false,isub_ok fits_zero hd,Option.bind_some,Int.zero_sub,sn_fit (fits_neg hd),eqI rfl,notT,Option.bind_some,Option.bind_some]
  dsimp only
  rw [redE_pos (fits_neg hn) (fits_neg hd) (by omega),Option.bind_some]
  have eg:Int.gcd (-d) (-n)=Int.gcd d n:=by unfold Int.gcd;rw [Int.natAbs_neg,Int.natAbs_neg]
  rw [eg,cond_false,quot_ok (fits_neg hn) hgf hgp,Option.bind_some,eqI rfl,notT,Option.bind_some,cond_false,quot_ok (fits_neg hd) hgf hgp,Option.bind_some,eqI rfl,notT,Option.bind_some,cond_false,Option.bind_some,hq.1,hq.2,hs]
  simp only [Int.neg_mul,Int.one_mul]
 ·have hs:d.sign=1:=Int.sign_eq_one_of_pos (by omega)
  have e1:ltM (cmp3 d 0) 0=false:=by unfold cmp3;rw [if_neg hneg,if_pos (by omega)];rfl
  rw [e1,cond_false,Option.bind_some]
  dsimp only
  rw [redE_pos hn hd (by omega),Option.bind_some,cond_false,quot_ok hn hgf hgp,Option.bind_some,eqI rfl,notT,Option.bind_some,cond_false,quot_ok hd hgf hgp,Option.bind_some,eqI rfl,notT,Option.bind_some,cond_false,Option.bind_some,hq.1,hq.2,hs]
  simp only [Int.one_mul]
theorem ivalid2_ok {z:Int} (h:Fits z):m80 (itoa z)=some true:=by
 unfold m80
 rw [ivalid_ok h];rfl
theorem of_ok {n d:Int} (hn:Fits n) (hd:Fits d) (h0:d≠0):m25 (n,d)=some (rt (Rat.divInt n d),0):=by
 unfold m25
 dsimp only
 rw [show m59 n=some (itoa n) from rfl,show m59 d=some (itoa d) from rfl,Option.bind_some,Option.bind_some]
 unfold m58
 dsimp only
 rw [ivalid2_ok hn,Option.bind_some,notT,notF,cond_true,ivalid2_ok hd,Option.bind_some,notT,show PE.orM false false=false from rfl]
 have:=redE_ok hn hd h0
 unfold redE at this
 rw [this];rfl
theorem rvalid_ok {q:Rat} (h:FitsR q):m55 (rt q)=some true:=by
 have hd:(0:Int)<(q.den:Int):=by have:=q.den_nz;omega
 unfold m55 rt
 dsimp only
 rw [ivalid2_ok h.1,Option.bind_some,notT,notF,cond_true,ivalid2_ok h.2,Option.bind_some,notT,orF,notF,cond_true,← itoa_zero,icmp_ok h.2 fits_zero,Option.bind_some,orF]
 have e1:leM (cmp3 (q.den:Int) 0) 0=false:=by unfold cmp3;rw [if_neg (by omega),if_pos hd];rfl
 have hg:Nat.gcd q.num.natAbs (q.den:Int).natAbs=1:=by rw [Int.natAbs_natCast];exact q.reduced
 rw [e1,cond_false,igcd_ok h.1 h.2,Option.bind_some,hg,sn_fit (by decide),eqI rfl,andT,eqsT (by show itoa ((1:Nat):Int)=_;rw [itoa_nn,decDigits_one (by omega)];rfl)]
theorem check_ok {p q:Rat} (hp:FitsR p) (hq:FitsR q):loopM (fun (s:Int×Bool)=>bif ltM s.1 (lenM [((rt p).1,(rt p).2),((rt q).1,(rt q).2)]) then (idxM [((rt p).1,(rt p).2),((rt q).1,(rt q).2)] s.1).bind fun r=>(bif
 PE.notM s.2 then m55 (r.1,r.2) else some false).bind fun r=>some (Sum.inl (IntKind.wrap IntKind.i64 (s.1+1),PE.orM s.2 (PE.notM r))) else some (Sum.inr s.2))
 (0,false)=some false:=by
 refine loopM_fn (fun k=>((k:Int),false)) 2 (fun k hk=>?_) rfl
 rcases (show k=0∨k=1 by omega) with rfl | rfl
 ·have:=rvalid_ok hp
  show ((some ((rt p).1,(rt p).2)).bind fun r=>(bif PE.notM false then m55 (r.1,r.2) else some false).bind fun r=>some (Sum.inl (IntKind.wrap IntKind.i64 (((0:Nat):Int)+1),PE.orM false (PE.notM r))))=_
  rw [Option.bind_some,notF,cond_true,show m55 ((rt p).1,(rt p).2)=some true from this,Option.bind_some,wrap_in (by omega) (by omega)];rfl
 ·have:=rvalid_ok hq
  show ((some ((rt q).1,(rt q).2)).bind fun r=>(bif PE.notM false then m55 (r.1,r.2) else some false).bind fun r=>some (Sum.inl (IntKind.wrap IntKind.i64 (((1:Nat):Int)+1),PE.orM false (PE.notM r))))=_
  rw [Option.bind_some,notF,cond_true,show m55 ((rt q).1,(rt q).2)=some true from this,Option.bind_some,wrap_in (by omega) (by omega)];rfl
theorem radd_ok {p q:Rat} (hp:FitsR p) (hq:FitsR q) (h1:Fits (p.num*q.den)) (h2:Fits (q.num*p.den)) (h3:Fits (p.num*q.den+q.num*p.den)) (h4:Fits ((p.den:Int)*q.den)):m49 (rt p,rt q)=some (rt (p+q),0):=by
 have hd:(p.den:Int)*q.den≠0:=Int.mul_ne_zero (by have:=p.den_nz;omega) (by have:=q.den_nz;omega)
 have e:p+q=Rat.divInt (p.num*q.den+q.num*p.den) ((p.den:Int)*q.den):=by rw [Rat.add_def',← Rat.divInt_ofNat,Int.natCast_mul]
 have key:=redE_ok h3 h4 hd
 unfold m49
 dsimp only
 rw [check_ok hp hq,Option.bind_some,cond_false]
 unfold rt
 dsimp only
 rw [imul_ok hp.1 hq.2,Option.bind_some,sn_fit h1,eqI rfl,notT,Option.bind_some,Option.bind_some,cond_false,imul_ok hq.1 hp.2,Option.bind_some,sn_fit h2,eqI rfl,notT,Option.bind_some,Option.bind_some,cond_false,iadd_ok h1 h2,Option.bind_some,sn_fit h3,eqI rfl,notT,Option.bind_some,cond_false,imul_ok hp.2 hq.2,Option.bind_some,sn_fit h4,eqI rfl,notT,Option.bind_some]
 unfold redE at key
 rw [e]
 exact key
theorem rmul_ok {p q:Rat} (hp:FitsR p) (hq:FitsR q) (h1:Fits (p.num*q.num)) (h4:Fits ((p.den:Int)*q.den)):m53 (rt p,rt q)=some (rt (p*q),0):=by
 have hd:(p.den:Int)*q.den≠0:=Int.mul_ne_zero (by have:=p.den_nz;omega) (by have:=q.den_nz;omega)
 have e:p*q=Rat.divInt (p.num*q.num) ((p.den:Int)*q.den):=by rw [Rat.mul_def',← Rat.divInt_ofNat,Int.natCast_mul]
 have key:=redE_ok h1 h4 hd
 unfold m53
 dsimp only
 rw [check_ok hp hq,Option.bind_some,cond_false]
 unfold rt
 dsimp only
 rw [imul_ok hp.1 hq.1,Option.bind_some,sn_fit h1,eqI rfl,notT,Option.bind_some,cond_false,imul_ok hp.2 hq.2,Option.bind_some,sn_fit h4,eqI rfl,notT,Option.bind_some]
 unfold redE at key
 rw [e]
 exact key
end Go.Proofs.YtechphmljdgoaaaGreatDoor
namespace Go.Proofs.YtechphmljdgoaaaGreatDoor
open Go Go.Lib Go.Abs Go.PE Go.Num
open Go.IntKind (wrap)
end Go.Proofs.YtechphmljdgoaaaGreatDoor
namespace Go.Proofs.YtechphmljdgoaaaGreatDoor
open Go Go.Abs Go.PE Go.Num
open Go.IntKind (wrap)
theorem Dn.fits {D B:Nat} {q:Rat} (h:Dn D B q) (hD:0<D) (h1:D<10 ^ 200) (h2:B*D<10 ^ 200):FitsR q:=by
 obtain ⟨a,b⟩:=h.num_den hD
 refine ⟨Nat.lt_of_le_of_lt b h2,?_⟩
 unfold Fits
 rw [Int.natAbs_natCast]
 exact Nat.lt_of_le_of_lt a h1
theorem Dn.fits2 {D B C:Nat} {q:Rat} (h:Dn D B q) (hD:0<D) (hBC:B≤C) (h2:(C+1)*(D*D)<10 ^ 200):FitsR q:=by
 have h1:D≤(C+1)*(D*D):=Nat.le_trans (Nat.le_mul_of_pos_right D hD) (Nat.le_mul_of_pos_left _ (by omega))
 have h3:B*D≤(C+1)*(D*D):=Nat.mul_le_mul (by omega) (Nat.le_mul_of_pos_right D hD)
 exact h.fits hD (Nat.lt_of_le_of_lt h1 h2) (Nat.lt_of_le_of_lt h3 h2)
theorem radd_dn {D B C E:Nat} {p q:Rat} (hp:Dn D B p) (hq:Dn D C q) (hD:0<D) (hE:B+C≤E) (h2:(E+1)*(D*D)<10 ^ 200):m49 (rt p,rt q)=some (rt (p+q),0):=by
 obtain ⟨a1,a2⟩:=hp.num_den hD
 obtain ⟨b1,b2⟩:=hq.num_den hD
 have m1:p.num.natAbs*q.den≤B*(D*D):=by rw [← Nat.mul_assoc];exact Nat.mul_le_mul a2 b1
 have m2:q.num.natAbs*p.den≤C*(D*D):=by rw [← Nat.mul_assoc];exact Nat.mul_le_mul b2 a1
 have m3:p.den*q.den≤D*D:=Nat.mul_le_mul a1 b1
 have mm:B*(D*D)+C*(D*D)≤E*(D*D):=by rw [← Nat.add_mul];exact Nat.mul_le_mul_right _ hE
 have e:(E+1)*(D*D)=E*(D*D)+D*D:=by rw [Nat.add_mul,Nat.one_mul]
 have e1:(p.num*(q.den:Int)).natAbs=p.num.natAbs*q.den:=by rw [Int.natAbs_mul,Int.natAbs_natCast]
 have e2:(q.num*(p.den:Int)).natAbs=q.num.natAbs*p.den:=by rw [Int.natAbs_mul,Int.natAbs_natCast]
 refine radd_ok (hp.fits2 hD (C:=E) (by omega) h2) (hq.fits2 hD (C:=E) (by omega) h2) ?_ ?_ ?_ ?_
 ·unfold Fits;rw [e1];omega
 ·unfold Fits;rw [e2];omega
 ·unfold Fits
  have:=Int.natAbs_add_le (p.num*(q.den:Int)) (q.num*(p.den:Int))
  omega
 ·unfold Fits;rw [Int.natAbs_mul,Int.natAbs_natCast,Int.natAbs_natCast];omega
theorem fits_small {z:Int} (h:z.natAbs≤1000000000000000000):Fits z:=Nat.lt_of_le_of_lt h (by decide)
end Go.Proofs.YtechphmljdgoaaaGreatDoor
namespace Go.Proofs.YtechphmljdgoaaaGreatDoor
open Go Go.Abs Go.PE Go.Num
open Go.IntKind (wrap)
/-- The value at a spot. -/
noncomputable def valE (W:Int) (L:List Int) (ax ay bx by_ cx cy:Int) (q:Spt):Option Int:=(((idxM L (wrap IntKind.i64 (wrap IntKind.i64 (ay*wrap IntKind.i64 (W+1))+ax))).bind fun r=>some r).bind fun (ov_1:Int)=>(m48 ((bx,by_),(cx,
 cy),q.1,q.2.1,q.2.2)).bind fun r_9=>((idxM L (wrap IntKind.i64 (wrap IntKind.i64 (by_*wrap IntKind.i64 (W+1))+bx))).bind fun r=>some r).bind fun (ov_2 :
 Int)=>(m48 ((cx,cy),(ax,ay),q.1,q.2.1,q.2.2)).bind fun r_10=>((idxM L (wrap IntKind.i64 (wrap IntKind.i64 (cy*wrap IntKind.i64 (W+1)) +
 cx))).bind fun r=>some r).bind fun (ov_3:Int)=>(m48 ((ax,ay),(bx,by_),q.1,q.2.1,q.2.2)).bind fun r=>some (wrap IntKind.i64 (wrap IntKind.i64
 (wrap IntKind.i64 (0+wrap IntKind.i64 (ov_1*r_9))+wrap IntKind.i64 (ov_2*r_10))+wrap IntKind.i64 (ov_3*r))))
/-- The sum over a fan. -/
noncomputable def fanE (W:Int) (L:List Int) (ax ay bx by_ cx cy:Int) (l:List Spt) (s:List UInt8×List UInt8):Option (List UInt8×List UInt8):=loopM (fun (s_2:Int×List UInt8×List UInt8)=>bif ltM s_2.1 (lenM l) then (chkM 0 (lenM l)).bind fun r_3=>(idxM l 0).bind fun r_4=>(chkM (wrap IntKind.i64
 (s_2.1-1)) (lenM l)).bind fun r_5=>(idxM l (wrap IntKind.i64 (s_2.1-1))).bind fun r_6=>(chkM s_2.1 (lenM l)).bind fun r_7=>(idxM l s_2.1).bind fun r_8 =>
 (valE W L ax ay bx by_ cx cy r_4).bind fun (ov_1:Int)=>(valE W L ax ay bx by_ cx cy r_6).bind fun (ov_2:Int)=>(valE W L ax ay bx by_ cx cy r_8).bind fun (ov_3 :
 Int)=>(m25 (wrap IntKind.i64 (wrap IntKind.i64 (wrap IntKind.i64 (wrap IntKind.i64 (r_4.1*wrap IntKind.i64 (wrap IntKind.i64 (r_6.2.1*r_8.2.2)-wrap
 IntKind.i64 (r_6.2.2*r_8.2.1)))-wrap IntKind.i64 (r_4.2.1*wrap IntKind.i64 (wrap IntKind.i64 (r_6.1*r_8.2.2)-wrap IntKind.i64 (r_6.2.2*r_8.1))))+wrap
 IntKind.i64 (r_4.2.2*wrap IntKind.i64 (wrap IntKind.i64 (r_6.1*r_8.2.1)-wrap IntKind.i64 (r_6.2.1*r_8.1))))*wrap IntKind.i64 (wrap IntKind.i64 (wrap
 IntKind.i64 (wrap IntKind.i64 (ov_1*r_6.2.2)*r_8.2.2)+wrap IntKind.i64 (wrap IntKind.i64 (ov_2*r_4.2.2)*r_8.2.2))+wrap IntKind.i64 (wrap IntKind.i64 (ov_3 *
 r_4.2.2)*r_6.2.2))),wrap IntKind.i64 (wrap IntKind.i64 (6*wrap IntKind.i64 (wrap IntKind.i64 (r_4.2.2*r_6.2.2)*r_8.2.2))*wrap IntKind.i64 (wrap IntKind.i64
 (r_4.2.2*r_6.2.2)*r_8.2.2)))).bind fun r_9=>(m49 ((s_2.2.1,s_2.2.2),r_9.1.1,r_9.1.2)).bind fun r=>some (Sum.inl (wrap IntKind.i64 (s_2.1+1),
 r.1.1,r.1.2)) else some (Sum.inr (s_2.2.1,s_2.2.2))) (2,s.1,s.2)
/-- The triangle with these corners. -/
structure Trg (W H:Nat) (ax ay bx by_ cx cy:Int):Prop where
 ab:Nod ax ay bx by_
 bc:Nod bx by_ cx cy
 ca:Nod cx cy ax ay
 a:0≤ax∧ax≤W∧0≤ay∧ay≤H
 b:0≤bx∧bx≤W∧0≤by_∧by_≤H
 c:0≤cx∧cx≤W∧0≤cy∧cy≤H
 nab:¬ (ax=bx∧ay=by_)
 nbc:¬ (bx=cx∧by_=cy)
 nca:¬ (cx=ax∧cy=ay)
def valQ (A B C:Spt) (va vb vc:Int) (q:Spt):Int:=va*lev A q+vb*lev B q+vc*lev C q
def wV (A B C:Spt) (va vb vc:Int):Rat×Rat×Rat:=((va:Rat)*(A.1:Rat)+(vb:Rat)*(B.1:Rat)+(vc:Rat)*(C.1:Rat),(va:Rat)*(A.2.1:Rat)+(vb:Rat)*(B.2.1:Rat)+(vc:Rat)*(C.2.1:Rat),(va:Rat)*(A.2.2:Rat)+(vb:Rat)*(B.2.2:Rat)+(vc:Rat)*(C.2.2:Rat))
theorem val_vl (A B C:Spt) (va vb vc:Int) {q:Spt} (h:0<q.2.2):((valQ A B C va vb vc q:Int):Rat)=(q.2.2:Rat)*vlq (wV A B C va vb vc) (rp q):=by
 unfold valQ
 simp only [Rat.intCast_add,Rat.intCast_mul]
 rw [lev_lv A h,lev_lv B h,lev_lv C h]
 unfold vlq wV lv
 grind
theorem val_term {v z:Int} (hv:0≤v∧v≤100) (hz:-144≤z∧z≤144):-14400≤v*z∧v*z≤14400:=by
 have a:=Int.mul_le_mul_of_nonneg_left hz.2 hv.1
 have b:=Int.mul_le_mul_of_nonneg_left hz.1 hv.1
 omega
theorem valQ_bd {W H:Nat} {ax ay bx by_ cx cy:Int} (T:Trg W H ax ay bx by_ cx cy) {va vb vc:Int} (ha:0≤va∧va≤100) (hb:0≤vb∧vb≤100) (hc:0≤vc∧vc≤100) {q:Spt} (hq:Bx q) :
  -43200≤valQ (lineF bx by_ cx cy) (lineF cx cy ax ay) (lineF ax ay bx by_) va vb vc q∧valQ (lineF bx by_ cx cy) (lineF cx cy ax ay) (lineF ax ay bx by_) va vb vc q≤43200:=by
 have t1:=val_term ha (lev_bd T.bc hq)
 have t2:=val_term hb (lev_bd T.ca hq)
 have t3:=val_term hc (lev_bd T.ab hq)
 unfold valQ
 omega
theorem valE_ok {W H:Nat} {v:Nat→Int} (h:OkV W H v) {ax ay bx by_ cx cy:Int} (T:Trg W H ax ay bx by_ cx cy) {q:Spt} (hq:Bx q) :
  valE W (row (nn W H) v) ax ay bx by_ cx cy q=some (valQ (lineF bx by_ cx cy) (lineF cx cy ax ay) (lineF ax ay bx by_) (nv W v ax ay) (nv W v bx by_) (nv W v cx cy) q):=by
 obtain ⟨a0,a1,a2,a3⟩:=T.a
 obtain ⟨b0,b1,b2,b3⟩:=T.b
 obtain ⟨c0,c1,c2,c3⟩:=T.c
 have t1:=val_term (nv_bd h a0 a1 a2 a3) (lev_bd T.bc hq)
 have t2:=val_term (nv_bd h b0 b1 b2 b3) (lev_bd T.ca hq)
 have t3:=val_term (nv_bd h c0 c1 c2 c3) (lev_bd T.ab hq)
 unfold valE valQ
 rw [node_ok h.w6 h.h6 a0 a1 a2 a3,Option.bind_some,Option.bind_some,left_ok T.bc hq,Option.bind_some,node_ok h.w6 h.h6 b0 b1 b2 b3,Option.bind_some,Option.bind_some,left_ok T.ca hq,Option.bind_some,node_ok h.w6 h.h6 c0 c1 c2 c3,Option.bind_some,Option.bind_some,left_ok T.ab hq,Option.bind_some]
 generalize nv W v ax ay*lev (lineF bx by_ cx cy) q=x at *
 generalize nv W v bx by_*lev (lineF cx cy ax ay) q=y at *
 generalize nv W v cx cy*lev (lineF ax ay bx by_) q=z at *
 rw [wrap_in (n:=x) (by omega) (by omega),wrap_in (n:=y) (by omega) (by omega),wrap_in (n:=z) (by omega) (by omega),Int.zero_add,wrap_in (n:=x) (by omega) (by omega),wrap_in (n:=x+y) (by omega) (by omega),wrap_in (n:=x+y+z) (by omega) (by omega)]
/-! ### A term -/
def MM:Nat:=27720*27720*27720
def DO:Nat:=6*MM*MM
theorem DO_pos:0<DO:=by decide
theorem DO_fit:(1000000000000000000+1)*(DO*DO)<10 ^ 200:=by decide
theorem d12_dvd:∀ x:Nat,x<13→0<x→27720 % x=0:=by decide
theorem dd_dvd {x y z:Int} (hx:0<x∧x≤12) (hy:0<y∧y≤12) (hz:0<z∧z≤12):6*(x*y*z)*(x*y*z) ∣ (DO:Int):=by
 have d:∀ z:Int,0<z∧z≤12→z ∣ (27720:Int):=fun z h=>by
  have:=d12_dvd z.toNat (by omega) (by omega)
  have h3:((z.toNat:Nat):Int) ∣ ((27720:Nat):Int):=Int.natCast_dvd_natCast.2 (Nat.dvd_of_mod_eq_zero this)
  rwa [show ((z.toNat:Nat):Int)=z by omega] at h3
 have e:x*y*z ∣ (MM:Int):=Int.mul_dvd_mul (Int.mul_dvd_mul (d x hx) (d y hy)) (d z hz)
 exact Int.mul_dvd_mul (Int.mul_dvd_mul (Int.dvd_refl 6) e) e
theorem small_mul {x y A B:Int} (hx:0≤x∧x≤A) (hy:-B≤y∧y≤B) (hB:0≤B):-(A*B)≤x*y∧x*y≤A*B:=by
 have a:=Int.mul_le_mul_of_nonneg_left hy.2 hx.1
 have b:=Int.mul_le_mul_of_nonneg_left hy.1 hx.1
 have c:=Int.mul_le_mul_of_nonneg_right hx.2 hB
 rw [Int.mul_neg] at b
 omega
theorem term_rat {A B C:Spt} {va vb vc:Int} {p q r:Spt} (hp:0<p.2.2) (hq:0<q.2.2) (hr:0<r.2.2) :
  Rat.divInt (dt3 p q r*(valQ A B C va vb vc p*q.2.2*r.2.2+valQ A B C va vb vc q*p.2.2*r.2.2+valQ A B C va vb vc r*p.2.2*q.2.2)) (6*(p.2.2*q.2.2*r.2.2)*(p.2.2*q.2.2*r.2.2))=phi (wV A B C va vb vc) (rp p) (rp q) (rp r):=by
 rw [Rat.divInt_eq_div]
 simp only [Rat.intCast_mul,Rat.intCast_add]
 rw [dt3_dtr hp hq hr,val_vl _ _ _ _ _ _ hp,val_vl _ _ _ _ _ _ hq,val_vl _ _ _ _ _ _ hr,show ((6:Int):Rat)=6 from rfl]
 obtain ⟨_,_,p3⟩:=rp_mul hp
 obtain ⟨_,_,q3⟩:=rp_mul hq
 obtain ⟨_,_,r3⟩:=rp_mul hr
 unfold phi
 generalize dtr (rp p) (rp q) (rp r)=t
 generalize vlq (wV A B C va vb vc) (rp p)=x
 generalize vlq (wV A B C va vb vc) (rp q)=y
 generalize vlq (wV A B C va vb vc) (rp r)=z
 generalize (p.2.2:Rat)=a at *
 generalize (q.2.2:Rat)=b at *
 generalize (r.2.2:Rat)=c at *
 have m:=Rat.mul_pos (Rat.mul_pos p3 q3) r3
 have m2:=Rat.mul_pos m m
 have e:=qdiv_mul (n:=a*b*c*t*(a*x*b*c+b*y*a*c+c*z*a*b)) (d:=6*(a*b*c)*(a*b*c)) (by grind)
 generalize a*b*c*t*(a*x*b*c+b*y*a*c+c*z*a*b) / (6*(a*b*c)*(a*b*c))=u at *
 refine qcancel (a:=6*(a*b*c)*(a*b*c)) (by grind) ?_
 grind
theorem fan_step {W H:Nat} {v:Nat→Int} (h:OkV W H v) {ax ay bx by_ cx cy:Int} (T:Trg W H ax ay bx by_ cx cy) {p q r:Spt} (hp:Bx p) (hq:Bx q) (hr:Bx r) {B:Nat} {acc:Rat} (hB:B≤100000000000000000) (hacc:Dn DO B acc) {i:Int} (i0:0≤i) (i1:i≤1000) :
  ((valE W (row (nn W H) v) ax ay bx by_ cx cy p).bind fun (ov_1:Int)=>(valE W (row (nn W H) v) ax ay bx by_ cx cy q).bind fun (ov_2:Int)=>(valE W (row (nn W H) v) ax ay bx by_ cx cy r).bind fun (ov_3 :
 Int)=>(m25 (wrap IntKind.i64 (wrap IntKind.i64 (wrap IntKind.i64 (wrap IntKind.i64 (p.1*wrap IntKind.i64 (wrap IntKind.i64 (q.2.1*r.2.2)-wrap
 IntKind.i64 (q.2.2*r.2.1)))-wrap IntKind.i64 (p.2.1*wrap IntKind.i64 (wrap IntKind.i64 (q.1*r.2.2)-wrap IntKind.i64 (q.2.2*r.1))))+wrap
 IntKind.i64 (p.2.2*wrap IntKind.i64 (wrap IntKind.i64 (q.1*r.2.1)-wrap IntKind.i64 (q.2.1*r.1))))*wrap IntKind.i64 (wrap IntKind.i64 (wrap
 IntKind.i64 (wrap IntKind.i64 (ov_1*q.2.2)*r.2.2)+wrap IntKind.i64 (wrap IntKind.i64 (ov_2*p.2.2)*r.2.2))+wrap IntKind.i64 (wrap IntKind.i64 (ov_3 *
 p.2.2)*q.2.2))),wrap IntKind.i64 (wrap IntKind.i64 (6*wrap IntKind.i64 (wrap IntKind.i64 (p.2.2*q.2.2)*r.2.2))*wrap IntKind.i64 (wrap IntKind.i64
 (p.2.2*q.2.2)*r.2.2)))).bind fun r_9=>(m49 (((rt acc).1,(rt acc).2),r_9.1.1,r_9.1.2)).bind fun r=>some (Sum.inl (α:=Int×List UInt8×List UInt8) (β:=List UInt8×List UInt8) (wrap IntKind.i64 (i+1),r.1.1,r.1.2))) =
  some (.inl (i+1,rt (acc+phi (wV (lineF bx by_ cx cy) (lineF cx cy ax ay) (lineF ax ay bx by_) (nv W v ax ay) (nv W v bx by_) (nv W v cx cy)) (rp p) (rp q) (rp r))))∧Dn DO (B+4000000000000) (acc+phi (wV (lineF bx by_ cx cy) (lineF cx cy ax ay) (lineF ax ay bx by_) (nv W v ax ay) (nv W v bx by_) (nv W v cx cy)) (rp p) (rp q) (rp r)):=by
 obtain ⟨a0,a1,a2,a3⟩:=T.a
 obtain ⟨b0,b1,b2,b3⟩:=T.b
 obtain ⟨c0,c1,c2,c3⟩:=T.c
 have na:=nv_bd h a0 a1 a2 a3
 have nb:=nv_bd h b0 b1 b2 b3
 have nc:=nv_bd h c0 c1 c2 c3
 have v1:=valQ_bd T na nb nc hp
 have v2:=valQ_bd T na nb nc hq
 have v3:=valQ_bd T na nb nc hr
 have et:=term_rat (A:=lineF bx by_ cx cy) (B:=lineF cx cy ax ay) (C:=lineF ax ay bx by_) (va:=nv W v ax ay) (vb:=nv W v bx by_) (vc:=nv W v cx cy) hp.2.2.2.2.1 hq.2.2.2.2.1 hr.2.2.2.2.1
 rw [valE_ok h T hp,Option.bind_some,valE_ok h T hq,Option.bind_some,valE_ok h T hr,Option.bind_some,← et]
 generalize valQ (lineF bx by_ cx cy) (lineF cx cy ax ay) (lineF ax ay bx by_) (nv W v ax ay) (nv W v bx by_) (nv W v cx cy) p=x at *
 generalize valQ (lineF bx by_ cx cy) (lineF cx cy ax ay) (lineF ax ay bx by_) (nv W v ax ay) (nv W v bx by_) (nv W v cx cy) q=y at *
 generalize valQ (lineF bx by_ cx cy) (lineF cx cy ax ay) (lineF ax ay bx by_) (nv W v ax ay) (nv W v bx by_) (nv W v cx cy) r=z at *
 clear et
 obtain ⟨px,py,pd⟩:=p
 obtain ⟨qx,qy,qd⟩:=q
 obtain ⟨rx,ry,rd⟩:=r
 obtain ⟨p0,p1,p2,p3,p4,p5⟩:=hp
 obtain ⟨q0,q1,q2,q3,q4,q5⟩:=hq
 obtain ⟨r0,r1,r2,r3,r4,r5⟩:=hr
 dsimp only at *
 have s1:=prod_bd (a:=qy) (b:=rd) (A:=72) (B:=12) q2 q3 (by omega) r5
 have s2:=prod_bd (a:=qd) (b:=ry) (A:=12) (B:=72) (by omega) q5 r2 r3
 have s3:=prod_bd (a:=qx) (b:=rd) (A:=72) (B:=12) q0 q1 (by omega) r5
 have s4:=prod_bd (a:=qd) (b:=rx) (A:=12) (B:=72) (by omega) q5 r0 r1
 have s5:=prod_bd (a:=qx) (b:=ry) (A:=72) (B:=72) q0 q1 r2 r3
 have s6:=prod_bd (a:=qy) (b:=rx) (A:=72) (B:=72) q2 q3 r0 r1
 have u1:=small_mul (x:=px) (y:=qy*rd-qd*ry) (A:=72) (B:=864) ⟨p0,p1⟩ (by omega) (by omega)
 have u2:=small_mul (x:=py) (y:=qx*rd-qd*rx) (A:=72) (B:=864) ⟨p2,p3⟩ (by omega) (by omega)
 have u3:=small_mul (x:=pd) (y:=qx*ry-qy*rx) (A:=12) (B:=5184) ⟨by omega,p5⟩ (by omega) (by omega)
 have d1:=prod_bd (a:=pd) (b:=qd) (A:=12) (B:=12) (by omega) p5 (by omega) q5
 have d1p:=Int.mul_pos p4 q4
 have d2:=prod_bd (a:=pd*qd) (b:=rd) (A:=144) (B:=12) d1.1 (by omega) (by omega) r5
 have d2p:=Int.mul_pos d1p r4
 have d3:=prod_bd (a:=6*(pd*qd*rd)) (b:=pd*qd*rd) (A:=10368) (B:=1728) (by omega) (by omega) (by omega) (by omega)
 have d3p:=Int.mul_pos (show 0<6*(pd*qd*rd) by omega) d2p
 have w1:=small_mul (x:=qd) (y:=x) (A:=12) (B:=43200) ⟨by omega,q5⟩ (by omega) (by omega)
 rw [Int.mul_comm qd x] at w1
 have w1':=small_mul (x:=rd) (y:=x*qd) (A:=12) (B:=518400) ⟨by omega,r5⟩ (by omega) (by omega)
 rw [Int.mul_comm rd (x*qd)] at w1'
 have w2:=small_mul (x:=pd) (y:=y) (A:=12) (B:=43200) ⟨by omega,p5⟩ (by omega) (by omega)
 rw [Int.mul_comm pd y] at w2
 have w2':=small_mul (x:=rd) (y:=y*pd) (A:=12) (B:=518400) ⟨by omega,r5⟩ (by omega) (by omega)
 rw [Int.mul_comm rd (y*pd)] at w2'
 have w3:=small_mul (x:=pd) (y:=z) (A:=12) (B:=43200) ⟨by omega,p5⟩ (by omega) (by omega)
 rw [Int.mul_comm pd z] at w3
 have w3':=small_mul (x:=qd) (y:=z*pd) (A:=12) (B:=518400) ⟨by omega,q5⟩ (by omega) (by omega)
 rw [Int.mul_comm qd (z*pd)] at w3'
 have hdv:=dd_dvd (x:=pd) (y:=qd) (z:=rd) ⟨p4,p5⟩ ⟨q4,q5⟩ ⟨r4,r5⟩
 rw [wrap_in (n:=qy*rd) (by omega) (by omega),wrap_in (n:=qd*ry) (by omega) (by omega),wrap_in (n:=qx*rd) (by omega) (by omega),wrap_in (n:=qd*rx) (by omega) (by omega),wrap_in (n:=qx*ry) (by omega) (by omega),wrap_in (n:=qy*rx) (by omega) (by omega),
  wrap_in (n:=qy*rd-qd*ry) (by omega) (by omega),wrap_in (n:=qx*rd-qd*rx) (by omega) (by omega),wrap_in (n:=qx*ry-qy*rx) (by omega) (by omega),wrap_in (n:=px*_) (by omega) (by omega),wrap_in (n:=py*_) (by omega) (by omega),wrap_in (n:=pd*(qx*ry-qy*rx)) (by omega) (by omega),
  wrap_in (n:=px*(qy*rd-qd*ry)-py*(qx*rd-qd*rx)) (by omega) (by omega),wrap_in (n:=px*(qy*rd-qd*ry)-py*(qx*rd-qd*rx)+pd*(qx*ry-qy*rx)) (by omega) (by omega),
  wrap_in (n:=x*qd) (by omega) (by omega),wrap_in (n:=x*qd*rd) (by omega) (by omega),wrap_in (n:=y*pd) (by omega) (by omega),wrap_in (n:=y*pd*rd) (by omega) (by omega),wrap_in (n:=z*pd) (by omega) (by omega),wrap_in (n:=z*pd*qd) (by omega) (by omega),wrap_in (n:=x*qd*rd+y*pd*rd) (by omega) (by omega),wrap_in (n:=x*qd*rd+y*pd*rd+z*pd*qd) (by omega) (by omega),
  wrap_in (n:=pd*qd) (by omega) (by omega),wrap_in (n:=pd*qd*rd) (by omega) (by omega),wrap_in (n:=6*(pd*qd*rd)) (by omega) (by omega),wrap_in (n:=6*(pd*qd*rd)*(pd*qd*rd)) (by omega) (by omega)]
 show _∧Dn DO _ (acc+Rat.divInt ((px*(qy*rd-qd*ry)-py*(qx*rd-qd*rx)+pd*(qx*ry-qy*rx))*(x*qd*rd+y*pd*rd+z*pd*qd)) (6*(pd*qd*rd)*(pd*qd*rd)))
 have ed:dt3 (px,py,pd) (qx,qy,qd) (rx,ry,rd)=px*(qy*rd-qd*ry)-py*(qx*rd-qd*rx)+pd*(qx*ry-qy*rx):=rfl
 rw [ed]
 have hab:-186624≤px*(qy*rd-qd*ry)-py*(qx*rd-qd*rx)+pd*(qx*ry-qy*rx)∧px*(qy*rd-qd*ry)-py*(qx*rd-qd*rx)+pd*(qx*ry-qy*rx)≤186624:=by omega
 generalize px*(qy*rd-qd*ry)-py*(qx*rd-qd*rx)+pd*(qx*ry-qy*rx)=ar at *
 generalize hS:x*qd*rd+y*pd*rd+z*pd*qd=S at *
 generalize 6*(pd*qd*rd)*(pd*qd*rd)=D at *
 have har:ar.natAbs≤186624:=by omega
 have hS2:S.natAbs≤18662400:=by omega
 have hnum:(ar*S).natAbs≤4000000000000:=by rw [Int.natAbs_mul];exact Nat.le_trans (Nat.mul_le_mul har hS2) (by decide)
 have dn:=Dn.of (D:=DO) (B:=4000000000000) (n:=ar*S) (d:=D) (by omega) hdv (Nat.le_trans hnum (Nat.le_mul_of_pos_right _ (by omega)))
 rw [wrap_in (n:=ar*S) (by omega) (by omega),of_ok (fits_small (by omega)) (fits_small (by omega)) (by omega),Option.bind_some]
 refine ⟨?_,hacc.add dn⟩
 refine bind_of (x:=(rt (acc+Rat.divInt (ar*S) D),0)) (radd_dn hacc dn DO_pos (E:=1000000000000000000) (by omega) DO_fit) ?_
 rw [wrap_in (by omega) (by omega)]
theorem fanE_ok {W H:Nat} {v:Nat→Int} (h:OkV W H v) {ax ay bx by_ cx cy:Int} (T:Trg W H ax ay bx by_ cx cy) {l:List Spt} (hl:∀ x∈l,Bx x) (hlen:l.length≤64) {B:Nat} {acc:Rat} (hB:B≤50000000000000000) (hacc:Dn DO B acc) :
  fanE W (row (nn W H) v) ax ay bx by_ cx cy l (rt acc)=some (rt (acc+fan (wV (lineF bx by_ cx cy) (lineF cx cy ax ay) (lineF ax ay bx by_) (nv W v ax ay) (nv W v bx by_) (nv W v cx cy)) l))∧Dn DO (B+300000000000000) (acc+fan (wV (lineF bx by_ cx cy) (lineF cx cy ax ay) (lineF ax ay bx by_) (nv W v ax ay) (nv W v bx by_) (nv W v cx cy)) l):=by
 obtain ⟨f,hf⟩:∃ f:Nat→Rat,f=fun i=>phi (wV (lineF bx by_ cx cy) (lineF cx cy ax ay) (lineF ax ay bx by_) (nv W v ax ay) (nv W v bx by_) (nv W v cx cy)) (rp (l.getD 0 z3)) (rp (l.getD (i+1) z3)) (rp (l.getD (i+2) z3)):=⟨_,rfl⟩
 have hg:∀ {i:Nat},i<l.length→idxM l (i:Int)=some (l.getD i z3):=fun {i} hi=>by rw [idxM_lt hi];simp [List.getD,hi]
 have step:=fun {k:Nat} {C:Nat} {a:Rat} (hk:k+2<l.length) (hC:C≤100000000000000000) (ha:Dn DO C a)=>fan_step h T (hl _ (getD_mem3 (show 0<l.length by omega))) (hl _ (getD_mem3 (show k+1<l.length by omega))) (hl _ (getD_mem3 hk)) hC ha (i:=((k+2:Nat):Int)) (by omega) (by omega)
 have hdn:∀ k,k≤l.length-2→Dn DO (B+k*4000000000000) (acc+qsum k f):=by
  intro k
  induction k with
  | zero=>intro _;rw [Nat.zero_mul,show qsum 0 f=0 from rfl,Rat.add_zero];exact hacc
  | succ k ih =>
   intro hk
   have:=(step (k:=k) (C:=B+k*4000000000000) (a:=acc+qsum k f) (by omega) (by omega) (ih (by omega))).2
   rw [show qsum (k+1) f=qsum k f+f k from rfl,← Rat.add_assoc,hf]
   rw [hf] at this
   exact this.mono (by omega)
 have hfin:fan (wV (lineF bx by_ cx cy) (lineF cx cy ax ay) (lineF ax ay bx by_) (nv W v ax ay) (nv W v bx by_) (nv W v cx cy)) l=qsum (l.length-2) f:=by rw [hf];rfl
 rw [hfin]
 refine ⟨?_,(hdn _ (Nat.le_refl _)).mono (by omega)⟩
 unfold fanE
 have e0:rt acc=rt (acc+qsum 0 f):=by rw [show qsum 0 f=0 from rfl,Rat.add_zero]
 rw [e0]
 refine loopM_fn (fun k=>(((k+2:Nat):Int),rt (acc+qsum k f))) (l.length-2) (fun k hk=>?_) ?_
 ·have g0:=hg (show 0<l.length by omega)
  have g1:=hg (show k+1<l.length by omega)
  have g2:=hg (show k+2<l.length by omega)
  have hs:=(step (k:=k) (C:=B+k*4000000000000) (a:=acc+qsum k f) (by omega) (by omega) (hdn k (by omega))).1
  dsimp only
  rw [lenL,ltI (by omega),cond_true,chkM_of (by omega) (by omega),Option.bind_some,show idxM l 0=some (l.getD 0 z3) from g0,Option.bind_some,wrap_in (n:=((k+2:Nat):Int)-1) (by omega) (by omega),chkM_of (i:=((k+2:Nat):Int)-1) (by omega) (by omega),Option.bind_some,show ((k+2:Nat):Int)-1=((k+1:Nat):Int) by omega,g1,Option.bind_some,chkM_of (by omega) (by omega),Option.bind_some,g2,Option.bind_some]
  refine Eq.trans hs ?_
  have e1:acc+qsum k f+f k=acc+qsum (k+1) f:=by rw [show qsum (k+1) f=qsum k f+f k from rfl,Rat.add_assoc]
  rw [← e1,hf];rfl
 ·dsimp only
  rw [lenL,geI (by omega),cond_false]
end Go.Proofs.YtechphmljdgoaaaGreatDoor
namespace Go.Proofs.YtechphmljdgoaaaGreatDoor
open Go Go.Abs Go.PE Go.Num
open Go.IntKind (wrap)
noncomputable def polyE (ax ay bx by_ cx cy:Int) (o:List Spt):Option (List Spt):=(clipE ax ay bx by_ o).bind fun o_1=>bif eqM (lenM o_1) 0 then some o_1 else (clipE bx by_ cx cy o_1).bind fun o_2=>bif eqM (lenM o_2) 0 then some o_2 else (clipE cx cy ax ay o_2).bind fun o=>bif eqM (lenM o) 0 then some o else some o
noncomputable def overE (W H:Int) (L:List Int) (o:List Spt):Option (List UInt8×List UInt8):=(m25 (0,1)).bind fun r_2=>(loopM (fun (s:Int×List UInt8×List UInt8)=>bif ltM s.1 H then (loopM (fun (s_1:Int×List UInt8×List UInt8)=>bif ltM s_1.1 W then
 (polyE s_1.1 s.1 (wrap IntKind.i64 (s_1.1+1)) s.1 (wrap IntKind.i64 (s_1.1+1)) (wrap IntKind.i64 (s.1+1)) o).bind fun o_1=>(fanE W L s_1.1 s.1 (wrap IntKind.i64 (s_1.1+1)) s.1 (wrap IntKind.i64 (s_1.1+1)) (wrap IntKind.i64 (s.1+1)) o_1 (s_1.2.1,s_1.2.2)).bind fun o_2 =>
 (polyE s_1.1 s.1 (wrap IntKind.i64 (s_1.1+1)) (wrap IntKind.i64 (s.1+1)) s_1.1 (wrap IntKind.i64 (s.1+1)) o).bind fun o_3=>(fanE W L s_1.1 s.1 (wrap IntKind.i64 (s_1.1+1)) (wrap IntKind.i64 (s.1+1)) s_1.1 (wrap IntKind.i64 (s.1+1)) o_3 (o_2.1,o_2.2)).bind fun o =>
 some (Sum.inl (wrap IntKind.i64 (s_1.1+1),o.1,o.2)) else some (Sum.inr (s_1.2.1,s_1.2.2))) (0,s.2.1,s.2.2)).bind fun o=>some (Sum.inl (wrap IntKind.i64 (s.1+1),o.1,o.2)) else some (Sum.inr (s.2.1,s.2.2))) (0,r_2.1.1,r_2.1.2)).bind fun o=>some (o.1,o.2)
/-- Polygons on a face. -/
structure Pol (l:List Spt):Prop where
 poly:Poly l
 in6:∀ x∈l,0≤x.1∧x.1≤6*x.2.2∧0≤x.2.1∧x.2.1≤6*x.2.2
theorem Pol.bx {l:List Spt} (h:Pol l):∀ x∈l,Bx x:=fun x hx=>by
 have a:=h.poly.d0 x hx
 have b:=h.poly.d12 x hx
 have c:=h.in6 x hx
 unfold Bx
 omega
theorem pol_clR {l:List Spt} {L:Spt} (l1:L.1.natAbs≤1) (l2:L.2.1.natAbs≤1) (l0:¬ (L.1=0∧L.2.1=0)) (h:Pol l):Pol (clR L l):=by
 refine ⟨clR_poly l1 l2 l0 h.poly,fun x hx=>?_⟩
 have k:=fun (M:Spt) (hM:∀ x∈l,0≤lev M x)=>left_all M (L:=L) h.poly hM x hx
 have k1:=k (1,0,0) (fun x hx=>by have:=h.in6 x hx;unfold lev;dsimp only;omega)
 have k2:=k (-1,0,6) (fun x hx=>by have:=h.in6 x hx;unfold lev;dsimp only;omega)
 have k3:=k (0,1,0) (fun x hx=>by have:=h.in6 x hx;unfold lev;dsimp only;omega)
 have k4:=k (0,-1,6) (fun x hx=>by have:=h.in6 x hx;unfold lev;dsimp only;omega)
 unfold lev at k1 k2 k3 k4
 dsimp only at k1 k2 k3 k4
 omega
theorem line_ok {ax ay bx by_:Int} (h:Nod ax ay bx by_) (hn:¬ (ax=bx∧ay=by_)):(lineF ax ay bx by_).1.natAbs≤1∧(lineF ax ay bx by_).2.1.natAbs≤1∧¬ ((lineF ax ay bx by_).1=0∧(lineF ax ay bx by_).2.1=0):=by
 obtain ⟨a0,a1,b0,b1,c0,c1,e0,e1⟩:=h
 unfold lineF
 dsimp only
 omega
theorem clR_nil (L:Spt):clR L []=[]:=rfl
theorem lenE {l:List Spt}:eqM (lenM l) 0=decide (l=[]):=by
 cases l with
 | nil=>rfl
 | cons x l=>rw [decide_eq_false (by simp),lenL,neI (by rw [List.length_cons];omega)]
theorem polyE_ok {W H:Nat} {ax ay bx by_ cx cy:Int} (T:Trg W H ax ay bx by_ cx cy) {l:List Spt} (hP:Pol l) (hlen:l.length≤8) :
  polyE ax ay bx by_ cx cy l=some (clL [lineF cx cy ax ay,lineF bx by_ cx cy,lineF ax ay bx by_] l)∧Pol (clL [lineF cx cy ax ay,lineF bx by_ cx cy,lineF ax ay bx by_] l)∧(clL [lineF cx cy ax ay,lineF bx by_ cx cy,lineF ax ay bx by_] l).length≤64:=by
 have n1:=line_ok T.ab T.nab
 have n2:=line_ok T.bc T.nbc
 have n3:=line_ok T.ca T.nca
 have P1:=pol_clR n1.1 n1.2.1 n1.2.2 hP
 have P2:=pol_clR n2.1 n2.2.1 n2.2.2 P1
 have P3:=pol_clR n3.1 n3.2.1 n3.2.2 P2
 have k1:(clR (lineF ax ay bx by_) l).length≤16:=Nat.le_trans (clN_len _ _ _) (by omega)
 have k2:(clR (lineF bx by_ cx cy) (clR (lineF ax ay bx by_) l)).length≤32:=Nat.le_trans (clN_len _ _ _) (by omega)
 have k3:(clR (lineF cx cy ax ay) (clR (lineF bx by_ cx cy) (clR (lineF ax ay bx by_) l))).length≤64:=Nat.le_trans (clN_len _ _ _) (by omega)
 refine ⟨?_,P3,k3⟩
 show _=some (clR (lineF cx cy ax ay) (clR (lineF bx by_ cx cy) (clR (lineF ax ay bx by_) l)))
 unfold polyE
 rw [clipE_ok T.ab hP.bx (by omega),Option.bind_some]
 by_cases e1:clR (lineF ax ay bx by_) l=[]
 ·rw [lenE,e1];rfl
 ·rw [lenE,decide_eq_false e1,cond_false,clipE_ok T.bc P1.bx (by omega),Option.bind_some]
  by_cases e2:clR (lineF bx by_ cx cy) (clR (lineF ax ay bx by_) l)=[]
  ·rw [lenE,e2];rfl
  ·rw [lenE,decide_eq_false e2,cond_false,clipE_ok T.ca P2.bx (by omega),Option.bind_some]
   cases eqM (lenM (clR (lineF cx cy ax ay) (clR (lineF bx by_ cx cy) (clR (lineF ax ay bx by_) l)))) 0<;>rfl
/-! ### The triangles of the grid -/
theorem trg_low {W H:Nat} {x y:Nat} (w6:W≤6) (h6:H≤6) (hx:x<W) (hy:y<H):Trg W H x y ((x:Int)+1) y ((x:Int)+1) ((y:Int)+1) :=
 ⟨⟨by omega,by omega,by omega,by omega,by omega,by omega,by omega,by omega⟩,⟨by omega,by omega,by omega,by omega,by omega,by omega,by omega,by omega⟩,⟨by omega,by omega,by omega,by omega,by omega,by omega,by omega,by omega⟩,by omega,by omega,by omega,by omega,by omega,by omega⟩
theorem trg_upp {W H:Nat} {x y:Nat} (w6:W≤6) (h6:H≤6) (hx:x<W) (hy:y<H):Trg W H x y ((x:Int)+1) ((y:Int)+1) x ((y:Int)+1) :=
 ⟨⟨by omega,by omega,by omega,by omega,by omega,by omega,by omega,by omega⟩,⟨by omega,by omega,by omega,by omega,by omega,by omega,by omega,by omega⟩,⟨by omega,by omega,by omega,by omega,by omega,by omega,by omega,by omega⟩,by omega,by omega,by omega,by omega,by omega,by omega⟩
theorem line_gY (x y:Int):lineF x y (x+1) y=gY y:=by
 unfold lineF gY;rw [show y-y=0 by omega,show x+1-x=1 by omega];simp
theorem line_lX (x y:Int):lineF (x+1) y (x+1) (y+1)=lX (x+1):=by
 unfold lineF lX;rw [show y+1-y=1 by omega,show x+1-(x+1)=0 by omega];simp
theorem line_dL (x y:Int):lineF (x+1) (y+1) x y=dgL (y-x):=by
 unfold lineF dgL;rw [show y-(y+1)=-1 by omega,show x-(x+1)=-1 by omega]
 refine Prod.ext rfl (Prod.ext rfl ?_)
 dsimp only
 omega
theorem line_ndL (x y:Int):lineF x y (x+1) (y+1)=neg3 (dgL (y-x)):=by
 unfold lineF dgL neg3;rw [show y+1-y=1 by omega,show x+1-x=1 by omega]
 refine Prod.ext rfl (Prod.ext rfl ?_)
 dsimp only
 omega
theorem line_lY (x y:Int):lineF (x+1) (y+1) x (y+1)=lY (y+1):=by
 unfold lineF lY;rw [show y+1-(y+1)=0 by omega,show x-(x+1)=-1 by omega]
 refine Prod.ext rfl (Prod.ext rfl ?_)
 dsimp only
 omega
theorem line_gX (x y:Int):lineF x (y+1) x y=gX x:=by
 unfold lineF gX;rw [show y-(y+1)=-1 by omega,show x-x=0 by omega]
 refine Prod.ext rfl (Prod.ext rfl ?_)
 dsimp only
 omega
def lowV (W:Nat) (v:Nat→Int) (x y:Int):Rat×Rat×Rat:=wV (lX (x+1)) (dgL (y-x)) (gY y) (nv W v x y) (nv W v (x+1) y) (nv W v (x+1) (y+1))
def uppV (W:Nat) (v:Nat→Int) (x y:Int):Rat×Rat×Rat:=wV (lY (y+1)) (gX x) (neg3 (dgL (y-x))) (nv W v x y) (nv W v (x+1) (y+1)) (nv W v x (y+1))
/-- The integral over what lies in a triangle. -/
def ovT (W:Nat) (v:Nat→Int) (P:List Spt) (k:Nat):Rat :=
 if k % 2=0 then fan (lowV W v ((k / 2 % W:Nat):Int) ((k / 2 / W:Nat):Int)) (clL (lowL ((k / 2 % W:Nat):Int) ((k / 2 / W:Nat):Int)) P)
 else fan (uppV W v ((k / 2 % W:Nat):Int) ((k / 2 / W:Nat):Int)) (clL (uppL ((k / 2 % W:Nat):Int) ((k / 2 / W:Nat):Int)) P)
theorem ovT_low {W:Nat} (v:Nat→Int) (P:List Spt) {cx cy:Nat} (h:cx<W):ovT W v P (2*(cy*W+cx))=fan (lowV W v cx cy) (clL (lowL cx cy) P):=by
 unfold ovT
 rw [if_pos (by omega),show 2*(cy*W+cx) / 2=cy*W+cx by omega,Nat.mul_comm cy W,Nat.mul_add_mod,Nat.mod_eq_of_lt h,Nat.mul_add_div (by omega),Nat.div_eq_of_lt h,Nat.add_zero]
theorem ovT_upp {W:Nat} (v:Nat→Int) (P:List Spt) {cx cy:Nat} (h:cx<W):ovT W v P (2*(cy*W+cx)+1)=fan (uppV W v cx cy) (clL (uppL cx cy) P):=by
 unfold ovT
 rw [if_neg (by omega),show (2*(cy*W+cx)+1) / 2=cy*W+cx by omega,Nat.mul_comm cy W,Nat.mul_add_mod,Nat.mod_eq_of_lt h,Nat.mul_add_div (by omega),Nat.div_eq_of_lt h,Nat.add_zero]
def ovQ (W H:Nat) (v:Nat→Int) (P:List Spt):Rat:=qsum (2*(H*W)) (ovT W v P)
theorem low_step {W H:Nat} {v:Nat→Int} (h:OkV W H v) {P:List Spt} (hP:Pol P) (hlen:P.length≤8) {x y:Nat} (hx:x<W) (hy:y<H) {B:Nat} {acc:Rat} (hB:B≤50000000000000000) (hacc:Dn DO B acc) :
  ∃ Q,polyE x y ((x:Int)+1) y ((x:Int)+1) ((y:Int)+1) P=some Q∧fanE W (row (nn W H) v) x y ((x:Int)+1) y ((x:Int)+1) ((y:Int)+1) Q (rt acc)=some (rt (acc+fan (lowV W v x y) (clL (lowL x y) P)))∧Dn DO (B+300000000000000) (acc+fan (lowV W v x y) (clL (lowL x y) P)):=by
 have T:=trg_low (x:=x) (y:=y) h.w6 h.h6 hx hy
 obtain ⟨a,b,c⟩:=polyE_ok T hP hlen
 obtain ⟨d,e⟩:=fanE_ok h T b.bx c hB hacc
 rw [line_gY,line_lX,line_dL] at d e
 rw [line_gY,line_lX,line_dL] at a
 exact ⟨_,a,d,e⟩
theorem upp_step {W H:Nat} {v:Nat→Int} (h:OkV W H v) {P:List Spt} (hP:Pol P) (hlen:P.length≤8) {x y:Nat} (hx:x<W) (hy:y<H) {B:Nat} {acc:Rat} (hB:B≤50000000000000000) (hacc:Dn DO B acc) :
  ∃ Q,polyE x y ((x:Int)+1) ((y:Int)+1) x ((y:Int)+1) P=some Q∧fanE W (row (nn W H) v) x y ((x:Int)+1) ((y:Int)+1) x ((y:Int)+1) Q (rt acc)=some (rt (acc+fan (uppV W v x y) (clL (uppL x y) P)))∧Dn DO (B+300000000000000) (acc+fan (uppV W v x y) (clL (uppL x y) P)):=by
 have T:=trg_upp (x:=x) (y:=y) h.w6 h.h6 hx hy
 obtain ⟨a,b,c⟩:=polyE_ok T hP hlen
 obtain ⟨d,e⟩:=fanE_ok h T b.bx c hB hacc
 rw [line_ndL,line_lY,line_gX] at d e
 rw [line_ndL,line_lY,line_gX] at a
 exact ⟨_,a,d,e⟩
theorem ovQ_dn {W H:Nat} {v:Nat→Int} (h:OkV W H v) {P:List Spt} (hP:Pol P) (hlen:P.length≤8):∀ k,k≤2*(H*W)→Dn DO (k*300000000000000) (qsum k (ovT W v P))
 | 0,_=>Dn.zero
 | k+1,hk=>by
  have hWH:H*W≤36:=Nat.mul_le_mul h.h6 h.w6
  have ih:=ovQ_dn h hP hlen k (by omega)
  have w1:=h.w1
  have hc:k / 2<H*W:=by omega
  have hx:k / 2 % W<W:=Nat.mod_lt _ (by omega)
  have hy:k / 2 / W<H:=(Nat.div_lt_iff_lt_mul (by omega)).2 hc
  show Dn DO ((k+1)*300000000000000) (qsum k (ovT W v P)+ovT W v P k)
  rw [Nat.add_mul,Nat.one_mul]
  unfold ovT
  split
  ·obtain ⟨_,_,_,e⟩:=low_step h hP hlen hx hy (by omega) ih
   exact e
  ·obtain ⟨_,_,_,e⟩:=upp_step h hP hlen hx hy (by omega) ih
   exact e
theorem overE_ok {W H:Nat} {v:Nat→Int} (h:OkV W H v) {P:List Spt} (hP:Pol P) (hlen:P.length≤8):overE W H (row (nn W H) v) P=some (rt (ovQ W H v P)):=by
 have w6:=h.w6
 have h6:=h.h6
 have hWH:H*W≤36:=Nat.mul_le_mul h6 w6
 have hof:m25 (0,1)=some (rt (qsum (2*(0*W)) (ovT W v P)),0):=by
  rw [Nat.zero_mul]
  have:=of_ok (n:=0) (d:=1) (by decide) (by decide) (by decide)
  rw [this];rfl
 unfold overE
 rw [hof,Option.bind_some]
 refine bind_of (x:=rt (ovQ W H v P)) ?_ rfl
 refine count_loop (fun cy=>rt (qsum (2*(cy*W)) (ovT W v P))) H (fun cy hy=>?_) ?_
 ·dsimp only
  rw [ltI (by omega),cond_true,wrap_in (n:=(cy:Int)+1) (by omega) (by omega)]
  refine bind_of (x:=rt (qsum (2*((cy+1)*W)) (ovT W v P))) ?_ rfl
  refine count_loop (fun cx=>rt (qsum (2*(cy*W+cx)) (ovT W v P))) W (fun cx hx=>?_) ?_
  ·have hb:cy*W+cx+1≤H*W:=by
    have:(cy+1)*W≤H*W:=Nat.mul_le_mul_right _ hy
    rw [Nat.add_mul,Nat.one_mul] at this
    omega
   have dn:=ovQ_dn h hP hlen (2*(cy*W+cx)) (by omega)
   obtain ⟨Q1,a1,a2,a3⟩:=low_step h hP hlen hx hy (by omega) dn
   obtain ⟨Q2,b1,b2,b3⟩:=upp_step h hP hlen hx hy (by omega) a3
   have e1:qsum (2*(cy*W+cx)) (ovT W v P)+fan (lowV W v cx cy) (clL (lowL cx cy) P)+fan (uppV W v cx cy) (clL (uppL cx cy) P)=qsum (2*(cy*W+(cx+1))) (ovT W v P):=by
    rw [show 2*(cy*W+(cx+1))=2*(cy*W+cx)+1+1 by omega]
    show _=qsum (2*(cy*W+cx)) (ovT W v P)+ovT W v P (2*(cy*W+cx))+ovT W v P (2*(cy*W+cx)+1)
    rw [ovT_low v P hx,ovT_upp v P hx]
   rw [e1] at b2
   dsimp only
   rw [ltI (by omega),cond_true,wrap_in (n:=(cx:Int)+1) (by omega) (by omega)]
   refine bind_of a1 ?_
   refine bind_of a2 ?_
   refine bind_of b1 ?_
   refine bind_of b2 rfl
  ·dsimp only
   rw [geI (by omega),cond_false,Nat.add_mul,Nat.one_mul]
 ·dsimp only
  rw [geI (by omega),cond_false];rfl
end Go.Proofs.YtechphmljdgoaaaGreatDoor
namespace Go.Proofs.YtechphmljdgoaaaGreatDoor
open Go Go.Abs Go.PE Go.Num
open Go.IntKind (wrap)
def In6 (p:Int×Int):Prop:=0≤p.1∧p.1≤6∧0≤p.2∧p.2≤6
theorem mul6 {x y:Int} (hx:-6≤x∧x≤6) (hy:-6≤y∧y≤6):-36≤x*y∧x*y≤36:=by
 have:(x*y).natAbs≤36:=by rw [Int.natAbs_mul];exact Nat.mul_le_mul (show x.natAbs≤6 by omega) (show y.natAbs≤6 by omega)
 omega
theorem eqP (a b:Int×Int):PE.andM (eqM a.1 b.1) (eqM a.2 b.2)=decide (a=b):=by
 by_cases h:a=b
 ·rw [decide_eq_true h,h,eqI rfl,eqI rfl];rfl
 ·rw [decide_eq_false h]
  by_cases h1:a.1=b.1
  ·rw [eqI h1,andT,neI (fun e=>h (Prod.ext h1 e))]
  ·rw [neI h1,andF]
theorem turn_ok {a b c:Int×Int} (ha:In6 a) (hb:In6 b) (hc:In6 c):m68 ((a.1,a.2),(b.1,b.2),c.1,c.2)=some (trn a b c):=by
 obtain ⟨a0,a1,a2,a3⟩:=ha
 obtain ⟨b0,b1,b2,b3⟩:=hb
 obtain ⟨c0,c1,c2,c3⟩:=hc
 have p1:=mul6 (x:=b.1-a.1) (y:=c.2-a.2) (by omega) (by omega)
 have p2:=mul6 (x:=b.2-a.2) (y:=c.1-a.1) (by omega) (by omega)
 unfold m68 trn
 dsimp only
 rw [wrap_in (n:=b.1-a.1) (by omega) (by omega),wrap_in (n:=c.2-a.2) (by omega) (by omega),wrap_in (n:=b.2-a.2) (by omega) (by omega),wrap_in (n:=c.1-a.1) (by omega) (by omega),wrap_in (n:=(b.1-a.1)*_) (by omega) (by omega),wrap_in (n:=(b.2-a.2)*_) (by omega) (by omega),wrap_in (by omega) (by omega)]
theorem turn2_ok {a b c:Int×Int} (ha:In6 a) (hb:In6 b) (hc:In6 c):m64 ((a.1,a.2),(b.1,b.2),c.1,c.2)=some (trn a b c):=by
 obtain ⟨a0,a1,a2,a3⟩:=ha
 obtain ⟨b0,b1,b2,b3⟩:=hb
 obtain ⟨c0,c1,c2,c3⟩:=hc
 have p1:=mul6 (x:=b.1-a.1) (y:=c.2-a.2) (by omega) (by omega)
 have p2:=mul6 (x:=b.2-a.2) (y:=c.1-a.1) (by omega) (by omega)
 unfold m64 trn
 dsimp only
 rw [wrap_in (n:=b.1-a.1) (by omega) (by omega),wrap_in (n:=c.2-a.2) (by omega) (by omega),wrap_in (n:=b.2-a.2) (by omega) (by omega),wrap_in (n:=c.1-a.1) (by omega) (by omega),wrap_in (n:=(b.1-a.1)*_) (by omega) (by omega),wrap_in (n:=(b.2-a.2)*_) (by omega) (by omega),wrap_in (by omega) (by omega)]
theorem far_ok {a b:Int×Int} (ha:In6 a) (hb:In6 b):m69 ((a.1,a.2),b.1,b.2)=some (farD a b):=by
 obtain ⟨a0,a1,a2,a3⟩:=ha
 obtain ⟨b0,b1,b2,b3⟩:=hb
 have p1:=mul6 (x:=a.1-b.1) (y:=a.1-b.1) (by omega) (by omega)
 have p2:=mul6 (x:=a.2-b.2) (y:=a.2-b.2) (by omega) (by omega)
 unfold m69 farD
 dsimp only
 rw [wrap_in (n:=a.1-b.1) (by omega) (by omega),wrap_in (n:=a.2-b.2) (by omega) (by omega),wrap_in (n:=(a.1-b.1)*_) (by omega) (by omega),wrap_in (n:=(a.2-b.2)*_) (by omega) (by omega),wrap_in (by omega) (by omega)]
/-! ### Hull -/
def lowS (f p:Int×Int):Int×Int:=if p.2<f.2∨(p.2=f.2∧p.1<f.1) then p else f
theorem lowF_ok:∀ (l:List (Int×Int)) (f:Int×Int),(l.foldl lowS f=f∨l.foldl lowS f∈l)∧((l.foldl lowS f).2<f.2∨((l.foldl lowS f).2=f.2∧(l.foldl lowS f).1≤f.1))∧∀ p∈l,(l.foldl lowS f).2<p.2∨((l.foldl lowS f).2=p.2∧(l.foldl lowS f).1≤p.1)
 | [],f=>⟨.inl rfl,.inr ⟨rfl,Int.le_refl _⟩,fun p hp=>by cases hp⟩
 | x::l,f=>by
  obtain ⟨h1,h2,h3⟩:=lowF_ok l (lowS f x)
  rw [List.foldl_cons]
  generalize l.foldl lowS (lowS f x)=g at *
  unfold lowS at *
  by_cases hc:x.2<f.2∨(x.2=f.2∧x.1<f.1)
  ·rw [if_pos hc] at h1 h2
   refine ⟨.inr ?_,by omega,fun p hp=>?_⟩
   ·rcases h1 with h | h
    ·rw [h];exact List.mem_cons_self
    ·exact List.mem_cons_of_mem _ h
   ·rcases List.mem_cons.1 hp with e | e
    ·rw [e];exact h2
    ·exact h3 p e
  ·rw [if_neg hc] at h1 h2
   refine ⟨?_,h2,fun p hp=>?_⟩
   ·rcases h1 with h | h
    ·exact .inl h
    ·exact .inr (List.mem_cons_of_mem _ h)
   ·rcases List.mem_cons.1 hp with e | e
    ·rw [e];omega
    ·exact h3 p e
theorem first_ok {x:List (Int×Int)} (hx:x.length≤1000) (f:Int×Int):loopM (fun (s:Int×Int×Int)=>bif ltM s.1 (lenM x) then ((idxM x s.1).bind fun r_1=>(bif PE.notM (ltM r_1.2 s.2.2) then idxM x s.1 else some (0,0)).bind fun r_2=>(bif PE.andM (PE.notM (ltM r_1.2 s.2.2)) (eqM r_2.2 s.2.2) then idxM x s.1 else some (0,0)).bind fun r_3 =>
  bif PE.orM (ltM r_1.2 s.2.2) (PE.andM (eqM r_2.2 s.2.2) (ltM r_3.1 s.2.1)) then (idxM x s.1).bind fun r=>some (r.1,r.2) else some (s.2.1,s.2.2)).bind fun o=>some (Sum.inl (wrap IntKind.i64 (s.1+1),o.1,o.2)) else some (Sum.inr (s.2.1,s.2.2))) (0,f.1,f.2)=some (x.foldl lowS f):=by
 refine loopM_fn (fun k=>((k:Int),(x.take k).foldl lowS f)) x.length (fun k hk=>?_) ?_
 ·have e:(x.take (k+1)).foldl lowS f=lowS ((x.take k).foldl lowS f) x[k]:=by
   rw [List.take_add_one,List.getElem?_eq_getElem hk,Option.toList_some,List.foldl_append];rfl
  dsimp only
  rw [e,lenL,ltI (by omega),cond_true,idxM_lt hk,Option.bind_some,wrap_in (by omega) (by omega)]
  generalize (x.take k).foldl lowS f=g
  generalize x[k]=p
  refine bind_of (x:=lowS g p) ?_ rfl
  unfold lowS
  by_cases h1:p.2<g.2
  ·rw [ltI h1,notT,cond_false,Option.bind_some,andF,cond_false,Option.bind_some,show ∀ b,PE.orM true b=true from fun _=>rfl,cond_true,if_pos (.inl h1)];rfl
  ·rw [geI (by omega),notF,cond_true,Option.bind_some,andT]
   by_cases h2:p.2=g.2
   ·rw [eqI h2,cond_true,Option.bind_some,orF,andT]
    by_cases h3:p.1<g.1
    ·rw [ltI h3,cond_true,if_pos (.inr ⟨h2,h3⟩)];rfl
    ·rw [geI (by omega),cond_false,if_neg (by omega)]
   ·rw [neI h2,cond_false,Option.bind_some,orF,andF,cond_false,if_neg (by omega)]
 ·dsimp only
  rw [lenL,geI (by omega),cond_false,List.take_length]
theorem next_ok {x:List (Int×Int)} (hx:x.length≤1000) (h6:∀ p∈x,In6 p) {a:Int×Int} (ha:In6 a):loopM (fun (s_1:Int×Int×Int)=>bif ltM s_1.1 (lenM x) then ((idxM x s_1.1).bind fun r_1=>bif PE.andM (eqM r_1.1 a.1) (eqM r_1.2 a.2) then some (s_1.2.1,s_1.2.2) else (idxM x s_1.1).bind fun r_2 =>
  (m68 ((a.1,a.2),(s_1.2.1,s_1.2.2),r_2.1,r_2.2)).bind fun r_3=>(bif PE.andM (PE.notM (PE.orM (PE.andM (eqM s_1.2.1 a.1) (eqM s_1.2.2 a.2)) (ltM r_3 0))) (eqM r_3 0) then idxM x s_1.1 else some (0,0)).bind fun r_4 =>
  (bif PE.andM (PE.notM (PE.orM (PE.andM (eqM s_1.2.1 a.1) (eqM s_1.2.2 a.2)) (ltM r_3 0))) (eqM r_3 0) then m69 ((a.1,a.2),r_4.1,r_4.2) else some 0).bind fun r_5 =>
  (bif PE.andM (PE.notM (PE.orM (PE.andM (eqM s_1.2.1 a.1) (eqM s_1.2.2 a.2)) (ltM r_3 0))) (eqM r_3 0) then m69 ((a.1,a.2),s_1.2.1,s_1.2.2) else some 0).bind fun r_6 =>
  bif PE.orM (PE.orM (PE.andM (eqM s_1.2.1 a.1) (eqM s_1.2.2 a.2)) (ltM r_3 0)) (PE.andM (eqM r_3 0) (ltM r_6 r_5)) then (idxM x s_1.1).bind fun r=>some (r.1,r.2) else some (s_1.2.1,s_1.2.2)).bind fun o=>some (Sum.inl (wrap IntKind.i64 (s_1.1+1),o.1,o.2)) else some (Sum.inr (s_1.2.1,s_1.2.2))) (0,a.1,a.2)=some (nxF a x):=by
 have hin:∀ (l:List (Int×Int)),(∀ p∈l,In6 p)→∀ n,In6 n→In6 (l.foldl (nxS a) n):=by
  intro l
  induction l with
  | nil=>intro _ n hn;exact hn
  | cons y l ih =>
   intro hl n hn
   refine ih (fun p hp=>hl p (List.mem_cons_of_mem _ hp)) _ ?_
   unfold nxS
   split
   ·exact hn
   ·split
    ·exact hl y List.mem_cons_self
    ·exact hn
 refine loopM_fn (fun k=>((k:Int),(x.take k).foldl (nxS a) a)) x.length (fun k hk=>?_) ?_
 ·have e:(x.take (k+1)).foldl (nxS a) a=nxS a ((x.take k).foldl (nxS a) a) x[k]:=by
   rw [List.take_add_one,List.getElem?_eq_getElem hk,Option.toList_some,List.foldl_append];rfl
  have hn:=hin (x.take k) (fun p hp=>h6 p (List.mem_of_mem_take hp)) a ha
  have hp:=h6 _ (List.getElem_mem hk)
  dsimp only
  rw [e,lenL,ltI (by omega),cond_true,idxM_lt hk,Option.bind_some,wrap_in (by omega) (by omega)]
  generalize (x.take k).foldl (nxS a) a=n at *
  generalize x[k]=p at *
  refine bind_of (x:=nxS a n p) ?_ rfl
  unfold nxS
  rw [eqP p a]
  by_cases hpa:p=a
  ·rw [decide_eq_true hpa,cond_true,if_pos hpa]
  ·rw [decide_eq_false hpa,cond_false,Option.bind_some,if_neg hpa,turn_ok ha hn hp,Option.bind_some,eqP n a]
   by_cases h1:n=a
   ·rw [decide_eq_true h1,show ∀ b,PE.orM true b=true from fun _=>rfl,notT,andF,cond_false,Option.bind_some,cond_false,Option.bind_some,cond_false,Option.bind_some,show ∀ b,PE.orM true b=true from fun _=>rfl,cond_true,if_pos (.inl h1)];rfl
   ·rw [decide_eq_false h1,orF]
    by_cases h2:trn a n p<0
    ·rw [ltI h2,notT,andF,cond_false,Option.bind_some,cond_false,Option.bind_some,cond_false,Option.bind_some,show ∀ b,PE.orM true b=true from fun _=>rfl,cond_true,if_pos (.inr (.inl h2))];rfl
    ·rw [geI (by omega),notF,andT]
     simp only [orF]
     by_cases h3:trn a n p=0
     ·rw [eqI h3,cond_true,Option.bind_some,cond_true,far_ok ha hp,Option.bind_some,cond_true,far_ok ha hn,Option.bind_some,andT]
      by_cases h4:farD a n<farD a p
      ·rw [ltI h4,cond_true,if_pos (.inr (.inr ⟨h3,h4⟩))];rfl
      ·rw [geI (by omega),cond_false,if_neg (fun q=>q.elim h1 fun q=>q.elim h2 fun q=>h4 q.2)]
     ·rw [neI h3,cond_false,Option.bind_some,cond_false,Option.bind_some,cond_false,Option.bind_some,andF,cond_false,if_neg (fun q=>q.elim h1 fun q=>q.elim h2 fun q=>h3 q.1)]
 ·dsimp only
  rw [lenL,geI (by omega),cond_false,List.take_length];rfl
theorem nxF_in {x:List (Int×Int)} {a:Int×Int} (ha:ExtP x a):(nxF a x=a∧∀ p∈x,p=a)∨Suc x a (nxF a x):=by
 have:=nxF_inv ha x [] a (fun p hp=>hp) (.inl ⟨rfl,fun p hp=>by cases hp⟩)
 rcases this with h | h
 ·exact .inl h
 ·exact .inr h
def HR (x l:List (Int×Int)):Prop:=l.length≤x.length∧(∀ p∈l,p∈x)∧(3≤l.length→Cvx l)
theorem hull_loop {x:List (Int×Int)} (hx:x.length≤1000) (h6:∀ p∈x,In6 p) (f:Int×Int) {body:List (Int×Int)×Int×Int→Option ((List (Int×Int)×Int×Int)⊕List (Int×Int))}
  (hb:∀ (out:List (Int×Int)) (a:Int×Int),In6 a→out.length≤1000→body (out,a.1,a.2)=if nxF a x=a∨nxF a x=f then some (.inr out) else some (.inl (out++[nxF a x],(nxF a x).1,(nxF a x).2))) :
  ∀ (n:Nat) (out:List (Int×Int)),Chn x out→out.getD 0 (0,0)=f→x.length≤out.length+n→∃ l,loopM body (out,(out.getD (out.length-1) (0,0)).1,(out.getD (out.length-1) (0,0)).2)=some l∧HR x l:=by
 intro n
 induction n with
 | zero =>
  intro out hC h0 hn
  have hp:=hC.pos
  have hm:=hC.mem (out.length-1) (by omega)
  have hlen:=hC.len
  refine ⟨out,?_,hlen,fun p hp=>?_,fun h3=>?_⟩
  ·rw [loopM_eq,hb _ _ (h6 _ hm.1) (by omega)]
   by_cases hc:nxF (out.getD (out.length-1) (0,0)) x=out.getD (out.length-1) (0,0)∨nxF (out.getD (out.length-1) (0,0)) x=f
   ·rw [if_pos hc];rfl
   ·exfalso
    rcases nxF_in hm.2 with h | h
    ·exact hc (.inl h.1)
    ·have:=(hC.app h (fun e=>hc (.inr (e.trans h0)))).len
     rw [List.length_append,List.length_singleton] at this
     omega
  ·obtain ⟨j,hj,e⟩:=mem_getD hp
   rw [e];exact (hC.mem j hj).1
  ·rcases nxF_in hm.2 with h | h
   ·exfalso
    have a1:=h.2 _ (hC.mem 0 (by omega)).1
    have a2:=h.2 _ (hC.mem 1 (by omega)).1
    have:=nd_getD hC.nd (i:=0) (j:=1) (by omega) (by omega) (a1.trans a2.symm)
    omega
   ·by_cases hc:nxF (out.getD (out.length-1) (0,0)) x=out.getD 0 (0,0)
    ·rw [hc] at h;exact hC.cvx h
    ·exfalso
     have:=(hC.app h hc).len
     rw [List.length_append,List.length_singleton] at this
     omega
 | succ n ih =>
  intro out hC h0 hn
  have hp:=hC.pos
  have hm:=hC.mem (out.length-1) (by omega)
  have hlen:=hC.len
  rcases nxF_in hm.2 with h | h
  ·refine ⟨out,?_,hlen,fun p hp=>?_,fun h3=>?_⟩
   ·rw [loopM_eq,hb _ _ (h6 _ hm.1) (by omega),if_pos (.inl h.1)];rfl
   ·obtain ⟨j,hj,e⟩:=mem_getD hp
    rw [e];exact (hC.mem j hj).1
   ·exfalso
    have a1:=h.2 _ (hC.mem 0 (by omega)).1
    have a2:=h.2 _ (hC.mem 1 (by omega)).1
    have:=nd_getD hC.nd (i:=0) (j:=1) (by omega) (by omega) (a1.trans a2.symm)
    omega
  ·by_cases hc:nxF (out.getD (out.length-1) (0,0)) x=f
   ·refine ⟨out,?_,hlen,fun p hp=>?_,fun h3=>?_⟩
    ·rw [loopM_eq,hb _ _ (h6 _ hm.1) (by omega),if_pos (.inr hc)];rfl
    ·obtain ⟨j,hj,e⟩:=mem_getD hp
     rw [e];exact (hC.mem j hj).1
    ·rw [hc,← h0] at h;exact hC.cvx h
   ·have hne:¬ (nxF (out.getD (out.length-1) (0,0)) x=out.getD (out.length-1) (0,0)∨nxF (out.getD (out.length-1) (0,0)) x=f):=fun q=>q.elim (fun e=>h.2.1 e) hc
    have hA:=hC.app h (fun e=>hc (e.trans h0))
    obtain ⟨l,e1,e2⟩:=ih _ hA (by rw [getD_app 0 (by omega)];exact h0) (by rw [List.length_append,List.length_singleton];omega)
    refine ⟨l,?_,e2⟩
    rw [List.length_append,List.length_singleton,Nat.add_sub_cancel,getD_last] at e1
    rw [loopM_eq,hb _ _ (h6 _ hm.1) (by omega),if_neg hne]
    exact e1
theorem hull_ok {x:List (Int×Int)} (h0:0<x.length) (hx:x.length≤1000) (h6:∀ p∈x,In6 p):∃ l,m41 x=some l∧HR x l:=by
 obtain ⟨l1,l2,l3⟩:=lowF_ok x x[0]
 have hf:x.foldl lowS x[0]∈x:=by
  rcases l1 with h | h
  ·rw [h];exact List.getElem_mem h0
  ·exact h
 have hE:ExtP x (x.foldl lowS x[0]):=ext_low l3
 have hfirst:=first_ok hx x[0]
 generalize x.foldl lowS x[0]=f at *
 unfold m41
 dsimp only
 rw [show idxM x 0=some x[0] from idxM_lt h0,Option.bind_some]
 obtain ⟨l,e1,e2⟩:=hull_loop hx h6 f (body:=fun (s:List (Int×Int)×Int×Int)=>(loopM (fun (s_1:Int×Int×Int)=>bif ltM s_1.1 (lenM x) then ((idxM x s_1.1).bind fun r_1=>bif PE.andM (eqM r_1.1 s.2.1) (eqM r_1.2 s.2.2) then some (s_1.2.1,s_1.2.2) else (idxM x s_1.1).bind fun r_2 =>
  (m68 ((s.2.1,s.2.2),(s_1.2.1,s_1.2.2),r_2.1,r_2.2)).bind fun r_3=>(bif PE.andM (PE.notM (PE.orM (PE.andM (eqM s_1.2.1 s.2.1) (eqM s_1.2.2 s.2.2)) (ltM r_3 0))) (eqM r_3 0) then idxM x s_1.1 else some (0,0)).bind fun r_4 =>
  (bif PE.andM (PE.notM (PE.orM (PE.andM (eqM s_1.2.1 s.2.1) (eqM s_1.2.2 s.2.2)) (ltM r_3 0))) (eqM r_3 0) then m69 ((s.2.1,s.2.2),r_4.1,r_4.2) else some 0).bind fun r_5 =>
  (bif PE.andM (PE.notM (PE.orM (PE.andM (eqM s_1.2.1 s.2.1) (eqM s_1.2.2 s.2.2)) (ltM r_3 0))) (eqM r_3 0) then m69 ((s.2.1,s.2.2),s_1.2.1,s_1.2.2) else some 0).bind fun r_6 =>
  bif PE.orM (PE.orM (PE.andM (eqM s_1.2.1 s.2.1) (eqM s_1.2.2 s.2.2)) (ltM r_3 0)) (PE.andM (eqM r_3 0) (ltM r_6 r_5)) then (idxM x s_1.1).bind fun r=>some (r.1,r.2) else some (s_1.2.1,s_1.2.2)).bind fun o=>some (Sum.inl (wrap IntKind.i64 (s_1.1+1),o.1,o.2)) else some (Sum.inr (s_1.2.1,s_1.2.2))) (0,s.2.1,s.2.2)).bind fun o_1 =>
  bif PE.orM (PE.andM (eqM o_1.1 s.2.1) (eqM o_1.2 s.2.2)) (PE.andM (eqM o_1.1 f.1) (eqM o_1.2 f.2)) then some (Sum.inr s.1) else (appM (nat_lit 16) s.1 [(o_1.1,o_1.2)]).bind fun r=>some (Sum.inl (r,o_1.1,o_1.2)))
  (fun out a ha hout=>by
   refine bind_of (next_ok hx h6 ha) ?_
   rw [eqP (nxF a x) a,eqP (nxF a x) f]
   by_cases hc:nxF a x=a∨nxF a x=f
   ·rw [if_pos hc]
    have:PE.orM (decide (nxF a x=a)) (decide (nxF a x=f))=true:=by
     rcases hc with h | h
     ·rw [decide_eq_true h];rfl
     ·rw [decide_eq_true h];cases decide (nxF a x=a)<;>rfl
    rw [this,cond_true]
   ·rw [if_neg hc,decide_eq_false (fun e=>hc (.inl e)),decide_eq_false (fun e=>hc (.inr e)),orF,cond_false,appM_of (by show (out.length+1)*16≤_;omega),Option.bind_some])
  x.length [f] (Chn.one hf hE) rfl (by omega)
 refine ⟨l,?_,e2⟩
 refine bind_of hfirst ?_
 exact bind_of e1 rfl
end Go.Proofs.YtechphmljdgoaaaGreatDoor
namespace Go.Proofs.YtechphmljdgoaaaGreatDoor
open Go Go.Abs Go.PE Go.Num
open Go.IntKind (wrap)
theorem qsum_mul (c:Rat) (f:Nat→Rat):∀ n:Nat,qsum n (fun i=>f i*c)=qsum n f*c
 | 0=>by show (0:Rat)=0*c;rw [Rat.zero_mul]
 | n+1=>by
  show qsum n (fun i=>f i*c)+f n*c=(qsum n f+f n)*c
  rw [qsum_mul c f n];grind
theorem divInt_one (z:Int):Rat.divInt z 1=(z:Rat):=by rw [Rat.divInt_eq_div,show ((1:Int):Rat)=1 from rfl,Rat.div_def];grind
theorem timesQ_ok {D B:Nat} {q:Rat} {n:Int} (hq:Dn D B q) (hD:0<D) (n0:0≤n) (n1:n≤1000) (h2:(1000*B+1)*(D*D)<10 ^ 200):m19 (((rt q).1,(rt q).2),n)=some ((rt (q*(n:Rat))).1,(rt (q*(n:Rat))).2)∧Dn D (B*1000) (q*(n:Rat)):=by
 obtain ⟨a1,a2⟩:=hq.num_den hD
 have hof:m25 (n,1)=some (rt ((n:Int):Rat),0):=by
  have:=of_ok (n:=n) (d:=1) (fits_small (by omega)) (by decide) (by decide)
  rw [this,divInt_one]
 have hB:B*D≤1000*B*(D*D):=by
  have h1:B*D≤B*D*D:=Nat.le_mul_of_pos_right _ hD
  have h3:B*D*D=B*(D*D):=Nat.mul_assoc _ _ _
  have h4:1000*B*(D*D)=1000*(B*(D*D)):=Nat.mul_assoc _ _ _
  omega
 have hDD:D≤D*D:=Nat.le_mul_of_pos_right _ hD
 have e1:(1000*B+1)*(D*D)=1000*B*(D*D)+D*D:=by rw [Nat.add_mul,Nat.one_mul]
 have hf:FitsR q:=hq.fits hD (by omega) (by omega)
 have hmul:m53 (rt q,rt ((n:Int):Rat))=some (rt (q*(n:Rat)),0):=by
  refine rmul_ok hf ⟨fits_small (by show n.natAbs≤_;omega),by show Fits 1;decide⟩ ?_ ?_
  ·show Fits (q.num*n)
   unfold Fits
   rw [Int.natAbs_mul]
   have:q.num.natAbs*n.natAbs≤B*D*1000:=Nat.mul_le_mul a2 (by omega)
   have h3:B*D*1000=1000*(B*D):=Nat.mul_comm _ _
   have h5:1000*(B*D)≤1000*(B*D*D):=Nat.mul_le_mul_left _ (Nat.le_mul_of_pos_right _ hD)
   have h4:1000*B*(D*D)=1000*(B*D*D):=by rw [Nat.mul_assoc,Nat.mul_assoc]
   omega
  ·show Fits ((q.den:Int)*((1:Nat):Int))
   unfold Fits
   rw [Int.natAbs_mul,Int.natAbs_natCast,Int.natAbs_natCast]
   omega
 refine ⟨?_,hq.mul_int (by omega)⟩
 unfold m19
 dsimp only
 rw [hof,Option.bind_some]
 exact bind_of (x:=(rt (q*(n:Rat)),0)) hmul rfl
theorem andM_false (b:Bool):PE.andM b false=false:=by cases b<;>rfl
theorem eqs_self (x:List UInt8):eqsM x x=true:=eqsT rfl
end Go.Proofs.YtechphmljdgoaaaGreatDoor
namespace Go.Proofs.YtechphmljdgoaaaGreatDoor
open Go Go.Abs Go.PE Go.Num
open Go.IntKind (wrap)
/-- A valid polygon on the face. -/
structure PlOK (W H:Nat) (l:List (Int×Int)):Prop where
 h3:3≤l.length
 h8:l.length≤8
 cvx:Cvx l
 on:∀ p∈l,0≤p.1∧p.1≤W∧0≤p.2∧p.2≤H
theorem PlOK.in6 {W H:Nat} {l:List (Int×Int)} (h:PlOK W H l) (w6:W≤6) (h6:H≤6):∀ p∈l,In6 p:=fun p hp=>by
 have:=h.on p hp
 unfold In6
 omega
def rectP (W H:Int):List (Int×Int):=[(0,0),(W,0),(W,H),(0,H)]
theorem rect_cvx {W H:Nat} (w1:1≤W) (h1:1≤H):Cvx (rectP W H):=by
 have hm:(0:Int)<(W:Int)*(H:Int):=Int.mul_pos (by omega) (by omega)
 have key:∀ i k,i<4→k<4→k≠i→k≠(i+1) % 4→0<trn ((rectP W H).getD i (0,0)) ((rectP W H).getD ((i+1) % 4) (0,0)) ((rectP W H).getD k (0,0)):=by
  intro i k hi hk g1 g2
  rcases (show i=0∨i=1∨i=2∨i=3 by omega) with rfl | rfl | rfl | rfl<;>rcases (show k=0∨k=1∨k=2∨k=3 by omega) with rfl | rfl | rfl | rfl<;>first
   | exact absurd rfl g1
   | (exfalso;omega)
   | (simp only [rectP,trn];simp;grind)
 exact key
theorem rect_ok {W H:Nat} (w1:1≤W) (h1:1≤H):PlOK W H (rectP W H):=by
 refine ⟨by show 3≤4;omega,by show 4≤8;omega,rect_cvx w1 h1,fun p hp=>?_⟩
 unfold rectP at hp
 simp only [List.mem_cons,List.not_mem_nil,or_false] at hp
 rcases hp with rfl | rfl | rfl | rfl<;>dsimp only<;>omega
def ptF (W H:Nat) (x:List (Int×Int)) (i:Nat):Int×Int:=(pk (x.getD i (0,0)).1 ((W:Int)+1),pk (x.getD i (0,0)).2 ((H:Int)+1))
theorem part_ok {W H:Nat} {lo hi:Nat→Int} (w1:1≤W) (w6:W≤6) (h1:1≤H) (h6:H≤6) {x:List (Int×Int)} (hx:∀ p∈x,i64 p.1∧i64 p.2):∃ l,m15 (fd W H lo hi,x)=some l∧PlOK W H l:=by
 have hloop:loopM (fun (s:Int×List (Int×Int))=>bif PE.andM (ltM s.1 (lenM x)) (ltM s.1 8) then (idxM x s.1).bind fun r=>(m32 (r.1,wrap IntKind.i64 ((W:Int)+1))).bind fun r_1=>(idxM x s.1).bind fun r_2=>(m32 (r_2.2,wrap IntKind.i64 ((H:Int)+1))).bind fun r_3 =>
   (appM (nat_lit 16) s.2 [(r_1,r_3)]).bind fun r=>some (Sum.inl (wrap IntKind.i64 (s.1+1),r)) else some (Sum.inr s.2)) (0,[])=some (row (min x.length 8) (ptF W H x)):=by
  refine count_loop (fun k=>row k (ptF W H x)) (min x.length 8) (fun k hk=>?_) ?_
  ·have hk2:k<x.length:=by omega
   have hm:x.getD k (0,0)∈x:=by simp [List.getD,hk2]
   have g:=hx _ hm
   have hidx:idxM x (k:Int)=some (x.getD k (0,0)):=by rw [idxM_lt hk2];simp [List.getD,hk2]
   dsimp only
   rw [lenL,ltI (by omega),ltI (by omega),andT,cond_true,hidx,Option.bind_some,wrap_in (n:=(W:Int)+1) (by omega) (by omega),pick_ok g.1 (by omega),Option.bind_some,Option.bind_some,wrap_in (n:=(H:Int)+1) (by omega) (by omega),pick_ok g.2 (by omega),Option.bind_some,app_rowOf (y:=(pk (x.getD k (0,0)).1 ((W:Int)+1),pk (x.getD k (0,0)).2 ((H:Int)+1))) (g:=ptF W H x) rfl (by show (k+1)*16≤_;omega),Option.bind_some,wrap_in (by omega) (by omega)]
  ·dsimp only
   have:PE.andM (ltM ((min x.length 8:Nat):Int) (lenM x)) (ltM ((min x.length 8:Nat):Int) 8)=false:=by
    rw [lenL]
    by_cases h:x.length<8
    ·rw [geI (by omega),andF]
    ·rw [geI (a:=((min x.length 8:Nat):Int)) (b:=8) (by omega),andM_false]
   rw [this,cond_false]
 have hon:∀ p∈row (min x.length 8) (ptF W H x),0≤p.1∧p.1≤W∧0≤p.2∧p.2≤H:=fun p hp=>by
  unfold row at hp
  obtain ⟨i,hi,e⟩:=List.mem_map.1 hp
  subst e
  have a1:=pk_lo (c:=(x.getD i (0,0)).1) (n:=(W:Int)+1) (by omega)
  have a2:=pk_hi (c:=(x.getD i (0,0)).1) (n:=(W:Int)+1) (by omega)
  have b1:=pk_lo (c:=(x.getD i (0,0)).2) (n:=(H:Int)+1) (by omega)
  have b2:=pk_hi (c:=(x.getD i (0,0)).2) (n:=(H:Int)+1) (by omega)
  unfold ptF
  dsimp only
  omega
 have hlen:(row (min x.length 8) (ptF W H x)).length=min x.length 8:=row_length _ _
 generalize row (min x.length 8) (ptF W H x)=o at *
 unfold m15 fd
 dsimp only
 by_cases h0:o.length=0
 ·refine ⟨rectP W H,bind_of hloop ?_,rect_ok w1 h1⟩
  rw [lenL,eqI (by omega),cond_true];rfl
 ·obtain ⟨l,e1,e2,e3,e4⟩:=hull_ok (x:=o) (by omega) (by omega) (fun p hp=>by have:=hon p hp;unfold In6;omega)
  by_cases h3:3≤l.length
  ·refine ⟨l,bind_of hloop ?_,h3,by omega,e4 h3,fun p hp=>hon p (e3 p hp)⟩
   rw [lenL,neI (by omega),cond_false,e1,Option.bind_some,lenL,leI (by omega),cond_true]
  ·refine ⟨rectP W H,bind_of hloop ?_,rect_ok w1 h1⟩
   rw [lenL,neI (by omega),cond_false,e1,Option.bind_some,lenL,gtI (by omega),cond_false];rfl
/-! ### Valid of plane -/
theorem getP {l:List (Int×Int)} {i:Nat} (h:i<l.length):idxM l (i:Int)=some (l.getD i (0,0)):=by rw [idxM_lt h];simp [List.getD,h]
theorem pvalid_ok {l:List (Int×Int)} (h3:3≤l.length) (h8:l.length≤8) (hc:Cvx l) (h6:∀ p∈l,In6 p):m28 l=some true:=by
 have hm:∀ {i:Nat},i<l.length→In6 (l.getD i (0,0)):=fun {i} hi=>h6 _ (by simp [List.getD,hi])
 unfold m28
 rw [lenL,geI (a:=(l.length:Int)) (b:=3) (by omega),geI (a:=8) (by omega),show PE.orM false false=false from rfl,notF,cond_true]
 refine bind_of (x:=false) ?_ ?_
 ·refine bind_of (x:=(-1:Int)) ?_ rfl
  refine bind_of (pass_loop (n:=l.length) (fun k hk=>?_) ?_) rfl
  ·obtain ⟨a0,a1,a2,a3⟩:=hm hk
   rw [ltI (by omega),cond_true,getP hk,Option.bind_some]
   unfold m65
   dsimp only
   rw [geI (a:=min _ _) (by omega),geI (a:=40) (by omega),show PE.orM false false=false from rfl,Option.bind_some,cond_false,wrap_in (by omega) (by omega)]
  ·rw [geI (by omega),cond_false]
 ·rw [show PE.orM false false=false from rfl,cond_false]
  refine bind_of (pass_loop (n:=l.length) (fun i hi=>?_) ?_) rfl
  ·have hn:(i+1) % l.length<l.length:=Nat.mod_lt _ (by omega)
   rw [ltI (by omega),cond_true,getP hi,Option.bind_some,wrap_in (n:=(i:Int)+1) (by omega) (by omega),remM_of (by omega) (by omega),Option.bind_some,show ((i:Int)+1) % (l.length:Int)=(((i+1) % l.length:Nat):Int) by rw [Int.natCast_emod];rfl]
   refine bind_of (pass_loop (n:=l.length) (fun k hk=>?_) ?_) rfl
   ·rw [ltI (by omega),cond_true,getP hk,Option.bind_some,wrap_in (n:=(k:Int)+1) (by omega) (by omega)]
    by_cases e1:k=i
    ·rw [eqI (a:=(k:Int)) (b:=(i:Int)) (by omega),notT,andF,cond_false,Option.bind_some,cond_false,Option.bind_some,andF,cond_false]
    ·rw [neI (a:=(k:Int)) (b:=(i:Int)) (by omega),notF,andT]
     by_cases e2:k=(i+1) % l.length
     ·rw [eqI (by omega),notT,cond_false,Option.bind_some,cond_false,Option.bind_some,andF,cond_false]
     ·have ht:=hc i k hi hk e1 e2
      rw [neI (by omega),notF,cond_true,getP hn,Option.bind_some,cond_true,turn2_ok (hm hi) (hm hn) (hm hk),Option.bind_some,andT,gtI (by omega),cond_false]
   ·rw [geI (by omega),cond_false]
  ·rw [geI (by omega),cond_false]
/-! ### Over -/
theorem PlOK.pol {W H:Nat} {l:List (Int×Int)} (h:PlOK W H l) (w6:W≤6) (h6:H≤6):Pol (spS l):=by
 refine ⟨spS_poly h.h3 h.cvx (fun p hp=>by have:=h.on p hp;omega),fun x hx=>?_⟩
 obtain ⟨p,hp,rfl⟩:=List.mem_map.1 hx
 have:=h.on p hp
 dsimp only
 omega
theorem fover_ok {W H:Nat} {lo hi:Nat→Int} (F:OkF W H lo hi) {l:List (Int×Int)} (hl:PlOK W H l):m17 (fd W H lo hi,l)=some (rt (ovQ W H lo (spS l)),rt (ovQ W H hi (spS l)),0):=by
 have w6:=F.w6
 have h6:=F.h6
 have hP:=hl.pol w6 h6
 have h8:=hl.h8
 have hlen:(spS l).length≤8:=by rw [spS_len];exact h8
 have v1:=valid_ok F
 have v2:=pvalid_ok hl.h3 h8 hl.cvx (hl.in6 w6 h6)
 have hs:loopM (fun (s:Int×List (Int×Int×Int))=>bif ltM s.1 (lenM l) then (idxM l s.1).bind fun r_2=>(appM (nat_lit 24) s.2 [(r_2.1,r_2.2,1)]).bind fun r=>some (Sum.inl (wrap IntKind.i64 (s.1+1),r)) else some (Sum.inr s.2)) (0,[])=some (spS l):=by
  refine count_loop (fun k=>spS (l.take k)) l.length (fun k hk=>?_) ?_
  ·have e:spS (l.take (k+1))=spS (l.take k)++[((l.getD k (0,0)).1,(l.getD k (0,0)).2,1)]:=by
    unfold spS
    rw [List.take_add_one,List.getElem?_eq_getElem hk,Option.toList_some,List.map_append]
    simp [List.getD,hk]
   have hk2:(spS (l.take k)).length≤8:=by rw [spS_len];exact Nat.le_trans (List.length_take_le _ _) (by omega)
   dsimp only
   rw [lenL,ltI (by omega),cond_true,getP hk,Option.bind_some,appM_of (by show ((spS (l.take k)).length+1)*24≤_;omega),Option.bind_some,wrap_in (by omega) (by omega),e]
  ·dsimp only
   rw [lenL,geI (by omega),cond_false,List.take_length]
 unfold m17
 unfold fd at v1 ⊢
 dsimp only
 rw [v1,Option.bind_some,notT,notF,cond_true,v2,Option.bind_some,notT,show PE.orM false false=false from rfl,notF,cond_true]
 refine bind_of (x:=false) ?_ ?_
 ·refine bind_of (x:=(-1:Int)) ?_ rfl
  refine bind_of (pass_loop (n:=l.length) (fun k hk=>?_) ?_) rfl
  ·have hm:l.getD k (0,0)∈l:=by simp [List.getD,hk]
   have:=hl.on _ hm
   rw [lenL,ltI (by omega),cond_true,getP hk,Option.bind_some,geI (a:=(W:Int)) (by omega),geI (a:=(H:Int)) (by omega),show PE.orM false false=false from rfl,cond_false,wrap_in (by omega) (by omega)]
  ·rw [lenL,geI (by omega),cond_false]
 ·rw [show PE.orM false false=false from rfl,cond_false]
  refine bind_of hs ?_
  refine bind_of (overE_ok F.okLo hP hlen) ?_
  refine bind_of (overE_ok F.okHi hP hlen) rfl
end Go.Proofs.YtechphmljdgoaaaGreatDoor
namespace Go.Proofs.YtechphmljdgoaaaGreatDoor
open Go Go.Abs Go.PE Go.Num
open Go.IntKind (wrap)
theorem cloneF_ok {n:Nat} {f:Nat→Int} (h0:0<n) (h:n≤1000):mo54 (row n f)=some (row n f):=by
 unfold mo54
 have e:nilM (row n f) (some []) ((appM (nat_lit 8) [] (row n f)).bind fun r=>some r)=(appM (nat_lit 8) [] (row n f)).bind fun r=>some r:=by
  obtain ⟨m,rfl⟩:∃ m,n=m+1:=⟨n-1,by omega⟩
  cases hr:row (m+1) f with
  | nil=>have:=congrArg List.length hr;rw [row_length] at this;cases this
  | cons a l=>rfl
 rw [e,appM_of (by rw [row_length];show (0+n)*8≤_;omega)];rfl
theorem row_nextF {n k:Nat} {f g:Nat→Int} (hk:k<n):(row n fun a=>if a=k then g k else if a<k then g a else f a)=row n fun a=>if a<k+1 then g a else f a:=row_congr fun a ha=>by
 by_cases h1:a=k
 ·subst h1;rw [if_pos rfl,if_pos (by omega)]
 ·rw [if_neg h1]
  by_cases h2:a<k
  ·rw [if_pos h2,if_pos (by omega)]
  ·rw [if_neg h2,if_neg (by omega)]
theorem madeF_ok {W H:Nat} {lo hi:Nat→Int} (F:OkF W H lo hi):m35 (fd W H lo hi)=some (fd W H lo hi,0):=by
 unfold m35
 have v1:=valid_ok F
 unfold fd at v1 ⊢
 dsimp only
 rw [v1,Option.bind_some,notT,cond_false]
theorem addF_ok {W H:Nat} {lo hi lo' hi':Nat→Int} (F:OkF W H lo hi) (F':OkF W H lo' hi') (F2:OkF W H (fun i=>lo i+lo' i) (fun i=>hi i+hi' i)):m20 (fd W H lo hi,fd W H lo' hi')=some (fd W H (fun i=>lo i+lo' i) (fun i=>hi i+hi' i),0):=by
 have h49:=nn_bd F.w6 F.h6
 have hpos:=nn_pos W H
 have v1:=valid_ok F
 have v2:=valid_ok F'
 have v3:=madeF_ok F2
 unfold m20
 unfold fd at v1 v2 v3 ⊢
 dsimp only
 rw [v1,Option.bind_some,notT,notF,cond_true,v2,Option.bind_some,notT,orF,orF,eqI rfl,notT,orF,eqI rfl,notT,cond_false,cloneF_ok hpos (by omega),Option.bind_some,cloneF_ok hpos (by omega),Option.bind_some]
 refine bind_of (x:=(row (nn W H) (fun i=>lo i+lo' i),row (nn W H) (fun i=>hi i+hi' i))) ?_ ?_
 ·have e0:(row (nn W H) lo,row (nn W H) hi)=(row (nn W H) (fun a=>if a<0 then lo a+lo' a else lo a),row (nn W H) fun a=>if a<0 then hi a+hi' a else hi a):=rfl
  rw [e0]
  refine count_loop (fun j=>(row (nn W H) (fun a=>if a<j then lo a+lo' a else lo a),row (nn W H) fun a=>if a<j then hi a+hi' a else hi a)) (nn W H) (fun j hj=>?_) ?_
  ·have a0:=F.l0 j hj
   have a1:=F.lh j hj
   have a2:=F.h9 j hj
   have b0:=F'.l0 j hj
   have b1:=F'.lh j hj
   have b2:=F'.h9 j hj
   dsimp only
   rw [lenR,ltI (by omega),cond_true,lenR,chkM_of (by omega) (by omega),Option.bind_some,row_idx hj,Option.bind_some,row_idx hj,Option.bind_some,Option.bind_some,if_neg (Nat.lt_irrefl j),wrap_in (n:=lo j+lo' j) (by omega) (by omega),set_rowA hj,Option.bind_some,lenR,chkM_of (by omega) (by omega),Option.bind_some,row_idx hj,Option.bind_some,row_idx hj,Option.bind_some,Option.bind_some,if_neg (Nat.lt_irrefl j),wrap_in (n:=hi j+hi' j) (by omega) (by omega),set_rowA hj,Option.bind_some,wrap_in (by omega) (by omega),
    row_nextF (f:=lo) (g:=fun a=>lo a+lo' a) hj,row_nextF (f:=hi) (g:=fun a=>hi a+hi' a) hj]
  ·dsimp only
   rw [lenR,geI (by omega),cond_false,row_congr (g':=fun i=>lo i+lo' i) fun a ha=>if_pos ha,row_congr (g':=fun i=>hi i+hi' i) fun a ha=>if_pos ha]
 ·dsimp only
  rw [v3];rfl
theorem scaleF_ok {W H:Nat} {lo hi:Nat→Int} {k:Int} (F:OkF W H lo hi) (k0:0≤k) (k1:k≤100) (F2:OkF W H (fun i=>lo i*k) (fun i=>hi i*k)):m21 (fd W H lo hi,k)=some (fd W H (fun i=>lo i*k) (fun i=>hi i*k),0):=by
 have h49:=nn_bd F.w6 F.h6
 have hpos:=nn_pos W H
 have v1:=valid_ok F
 have v3:=madeF_ok F2
 unfold m21
 unfold fd at v1 v3 ⊢
 dsimp only
 rw [v1,Option.bind_some,notT,notF,cond_true,within_ok,Option.bind_some,decide_eq_true ⟨k0,k1⟩,notT,orF,cond_false,cloneF_ok hpos (by omega),Option.bind_some,cloneF_ok hpos (by omega),Option.bind_some]
 refine bind_of (x:=(row (nn W H) (fun i=>lo i*k),row (nn W H) (fun i=>hi i*k))) ?_ ?_
 ·have e0:(row (nn W H) lo,row (nn W H) hi)=(row (nn W H) (fun a=>if a<0 then lo a*k else lo a),row (nn W H) fun a=>if a<0 then hi a*k else hi a):=rfl
  rw [e0]
  refine count_loop (fun j=>(row (nn W H) (fun a=>if a<j then lo a*k else lo a),row (nn W H) fun a=>if a<j then hi a*k else hi a)) (nn W H) (fun j hj=>?_) ?_
  ·have a0:=F2.l0 j hj
   have a1:=F2.lh j hj
   have a2:=F2.h9 j hj
   dsimp only
   rw [lenR,ltI (by omega),cond_true,lenR,chkM_of (by omega) (by omega),Option.bind_some,row_idx hj,Option.bind_some,Option.bind_some,if_neg (Nat.lt_irrefl j),wrap_in (n:=lo j*k) (by omega) (by omega),set_rowA hj,Option.bind_some,lenR,chkM_of (by omega) (by omega),Option.bind_some,row_idx hj,Option.bind_some,Option.bind_some,if_neg (Nat.lt_irrefl j),wrap_in (n:=hi j*k) (by omega) (by omega),set_rowA hj,Option.bind_some,wrap_in (by omega) (by omega),
    row_nextF (f:=lo) (g:=fun a=>lo a*k) hj,row_nextF (f:=hi) (g:=fun a=>hi a*k) hj]
  ·dsimp only
   rw [lenR,geI (by omega),cond_false,row_congr (g':=fun i=>lo i*k) fun a ha=>if_pos ha,row_congr (g':=fun i=>hi i*k) fun a ha=>if_pos ha]
 ·dsimp only
  rw [v3];rfl
/-! ### Linear -/
theorem nv_add (W:Nat) (v v':Nat→Int) (x y:Int):nv W (fun i=>v i+v' i) x y=nv W v x y+nv W v' x y:=rfl
theorem nv_mul (W:Nat) (v:Nat→Int) (k x y:Int):nv W (fun i=>v i*k) x y=nv W v x y*k:=rfl
theorem atv_add (W H:Nat) (v v':Nat→Int) (x y d:Int):atv W H (fun i=>v i+v' i) x y d=atv W H v x y d+atv W H v' x y d:=by
 unfold atv
 split
 ·unfold lowT;rw [nv_add,nv_add,nv_add];grind
 ·unfold uppT;rw [nv_add,nv_add,nv_add];grind
theorem atv_mul (W H:Nat) (v:Nat→Int) (k x y d:Int):atv W H (fun i=>v i*k) x y d=k*atv W H v x y d:=by
 unfold atv
 split
 ·unfold lowT;rw [nv_mul,nv_mul,nv_mul];grind
 ·unfold uppT;rw [nv_mul,nv_mul,nv_mul];grind
theorem atv_bd {W H:Nat} {v:Nat→Int} (h:OkV W H v) {x y d:Int} (hd:1≤d) (hd2:d≤60) (x0:0≤x) (x1:x≤W*d) (y0:0≤y) (y1:y≤H*d):0≤atv W H v x y d∧atv W H v x y d≤18000:=by
 obtain ⟨a0,a1,a2,a3⟩:=cell_bd h.w1 hd x0 x1
 obtain ⟨b0,b1,b2,b3⟩:=cell_bd h.h1 hd y0 y1
 unfold atv
 generalize min (x / d) ((W:Int)-1)=px at *
 generalize min (y / d) ((H:Int)-1)=py at *
 have n00:=nv_bd h (cx:=px) (cy:=py) a0 (by omega) b0 (by omega)
 have n10:=nv_bd h (cx:=px+1) (cy:=py) (by omega) (by omega) b0 (by omega)
 have n01:=nv_bd h (cx:=px) (cy:=py+1) a0 (by omega) (by omega) (by omega)
 have n11:=nv_bd h (cx:=px+1) (cy:=py+1) (by omega) (by omega) (by omega) (by omega)
 unfold lowT uppT
 generalize hR:x-px*d=R at *
 generalize hU:y-py*d=U at *
 split
 ·have q1:=prod_bd (show 0≤d-R by omega) (show d-R≤60 by omega) n00.1 n00.2
  have q2:=prod_bd (show 0≤R-U by omega) (show R-U≤60 by omega) n10.1 n10.2
  have q3:=prod_bd (show 0≤U by omega) (show U≤60 by omega) n11.1 n11.2
  omega
 ·have q1:=prod_bd (show 0≤d-U by omega) (show d-U≤60 by omega) n00.1 n00.2
  have q2:=prod_bd (show 0≤U-R by omega) (show U-R≤60 by omega) n01.1 n01.2
  have q3:=prod_bd (show 0≤R by omega) (show R≤60 by omega) n11.1 n11.2
  omega
theorem tSum_add (W:Nat) (v v':Nat→Int) (k:Nat):tSum W (fun i=>v i+v' i) k=tSum W v k+tSum W v' k:=by
 unfold tSum triF
 dsimp only
 split<;>(unfold nd;dsimp only;rw [nv_add,nv_add,nv_add];omega)
theorem tSum_mul (W:Nat) (v:Nat→Int) (c:Int) (k:Nat):tSum W (fun i=>v i*c) k=c*tSum W v k:=by
 unfold tSum triF
 dsimp only
 split<;>(unfold nd;dsimp only;rw [nv_mul,nv_mul,nv_mul];grind)
theorem sT_add (W:Nat) (v v':Nat→Int):∀ n,sT W (fun i=>v i+v' i) n=sT W v n+sT W v' n
 | 0=>rfl
 | n+1=>by
  show sT W (fun i=>v i+v' i) n+tSum W (fun i=>v i+v' i) n=sT W v n+tSum W v n+(sT W v' n+tSum W v' n)
  rw [sT_add W v v' n,tSum_add];omega
theorem sT_mul (W:Nat) (v:Nat→Int) (c:Int):∀ n,sT W (fun i=>v i*c) n=c*sT W v n
 | 0=>(Int.mul_zero c).symm
 | n+1=>by
  show sT W (fun i=>v i*c) n+tSum W (fun i=>v i*c) n=c*(sT W v n+tSum W v n)
  rw [sT_mul W v c n,tSum_mul,Int.mul_add]
theorem fan_add {V V1 V2:Rat×Rat×Rat} (h:∀ p,vlq V p=vlq V1 p+vlq V2 p) (l:List Spt):fan V l=fan V1 l+fan V2 l:=by
 unfold fan
 rw [← qsum_add]
 refine qsum_congr fun i _=>?_
 unfold phi
 rw [h,h,h];grind
theorem fan_mul {V V1:Rat×Rat×Rat} {c:Rat} (h:∀ p,vlq V p=vlq V1 p*c) (l:List Spt):fan V l=fan V1 l*c:=by
 unfold fan
 rw [← qsum_mul]
 refine qsum_congr fun i _=>?_
 unfold phi
 rw [h,h,h];grind
theorem wV_add (A B C:Spt) (a b c a' b' c':Int) (p:RP):vlq (wV A B C (a+a') (b+b') (c+c')) p=vlq (wV A B C a b c) p+vlq (wV A B C a' b' c') p:=by
 unfold vlq wV
 simp only [Rat.intCast_add]
 grind
theorem wV_mul (A B C:Spt) (a b c k:Int) (p:RP):vlq (wV A B C (a*k) (b*k) (c*k)) p=vlq (wV A B C a b c) p*(k:Rat):=by
 unfold vlq wV
 simp only [Rat.intCast_mul]
 grind
theorem ovQ_add (W H:Nat) (v v':Nat→Int) (P:List Spt):ovQ W H (fun i=>v i+v' i) P=ovQ W H v P+ovQ W H v' P:=by
 unfold ovQ
 rw [← qsum_add]
 refine qsum_congr fun k _=>?_
 unfold ovT
 split
 ·exact fan_add (fun p=>wV_add _ _ _ _ _ _ _ _ _ p) _
 ·exact fan_add (fun p=>wV_add _ _ _ _ _ _ _ _ _ p) _
theorem ovQ_mul (W H:Nat) (v:Nat→Int) (c:Int) (P:List Spt):ovQ W H (fun i=>v i*c) P=ovQ W H v P*(c:Rat):=by
 unfold ovQ
 rw [← qsum_mul]
 refine qsum_congr fun k _=>?_
 unfold ovT
 split
 ·exact fan_mul (fun p=>wV_mul _ _ _ _ _ _ _ p) _
 ·exact fan_mul (fun p=>wV_mul _ _ _ _ _ _ _ p) _
/-! ### The law -/
def BO:Nat:=21600000000000000
theorem ovQ_dn2 {W H:Nat} {v:Nat→Int} (h:OkV W H v) {P:List Spt} (hP:Pol P) (hlen:P.length≤8):Dn DO BO (ovQ W H v P):=by
 have hWH:H*W≤36:=Nat.mul_le_mul h.h6 h.w6
 exact (ovQ_dn h hP hlen (2*(H*W)) (Nat.le_refl _)).mono (by show _≤21600000000000000;omega)
theorem DO_fit2:(1000*BO+1)*(DO*DO)<10 ^ 200:=by decide
theorem sumF_ok {p q:Rat} (hp:Dn DO BO p) (hq:Dn DO BO q):m22 (((rt p).1,(rt p).2),(rt q).1,(rt q).2)=some ((rt (p+q)).1,(rt (p+q)).2):=by
 unfold m22
 exact bind_of (x:=(rt (p+q),0)) (radd_dn hp hq DO_pos (E:=1000000000000000000) (by decide) DO_fit) rfl
theorem law4_ok (x:(Int×Int×Int×Int)×(List (Int×Int))×(List (Int×Int))×(List (Int×Int))×Int×Int×Int×Int) (hw:i64 x.1.1) (hh:i64 x.1.2.1) (h1:∀ p∈x.2.1,i64 p.1∧i64 p.2) (l1:x.2.1.length≤maxLen) (h2:∀ p∈x.2.2.1,i64 p.1∧i64 p.2) (l2:x.2.2.1.length≤maxLen)
  (h3:∀ p∈x.2.2.2.1,i64 p.1∧i64 p.2) (g1:i64 x.2.2.2.2.1) (g2:i64 x.2.2.2.2.2.1) (g3:i64 x.2.2.2.2.2.2.1) (g4:i64 x.2.2.2.2.2.2.2):m4 x=some true:=by
 obtain ⟨⟨w,h,s2,s3⟩,xs,ys,ls,px,py,dd,kk⟩:=x
 dsimp only at hw hh h1 l1 h2 l2 h3 g1 g2 g3 g4
 have F:=made_F (w:=w) (h:=h) (size:=6) (most:=50) (x:=xs) (by omega) (by omega) (by omega) (by omega)
 have G:=made_F (w:=w) (h:=h) (size:=6) (most:=50) (x:=ys) (by omega) (by omega) (by omega) (by omega)
 have bF:∀ i,hiF 50 xs i≤50:=fun i=>by unfold hiF;omega
 have bG:∀ i,hiF 50 ys i≤50:=fun i=>by unfold hiF;omega
 have e1:=made_ok (size:=6) (most:=50) hw hh (by omega) (by omega) (by omega) (by omega) h1 l1
 have e2:=made_ok (size:=6) (most:=50) hw hh (by omega) (by omega) (by omega) (by omega) h2 l2
 generalize szF w 6=W at *
 generalize szF h 6=H at *
 generalize loF 50 xs=lo at *
 generalize hiF 50 xs=hi at *
 generalize loF 50 ys=lo' at *
 generalize hiF 50 ys=hi' at *
 have w1:=F.w1
 have w6:=F.w6
 have h1':=F.h1
 have h6:=F.h6
 have hWH:H*W≤36:=Nat.mul_le_mul h6 w6
 have k0:=pk_lo (c:=kk) (n:=3) (by omega)
 have k1:=pk_hi (c:=kk) (n:=3) (by omega)
 have p1:=pickL_ok (n:=3) g4 (by omega)
 generalize pk kk 3=k at *
 have FA:OkF W H (fun i=>lo i+lo' i) (fun i=>hi i+hi' i):=⟨w1,w6,h1',h6,fun i hi9=>by have:=F.l0 i hi9;have:=G.l0 i hi9;omega,fun i hi9=>by have:=F.lh i hi9;have:=G.lh i hi9;omega,fun i hi9=>by have:=bF i;have:=bG i;omega⟩
 have FS:OkF W H (fun i=>lo i*k) (fun i=>hi i*k):=⟨w1,w6,h1',h6,fun i hi9=>Int.mul_nonneg (F.l0 i hi9) k0,fun i hi9=>Int.mul_le_mul_of_nonneg_right (F.lh i hi9) k0,fun i hi9=>by
  have a:=F.l0 i hi9
  have b:=F.lh i hi9
  have:=prod_bd (a:=hi i) (b:=k) (A:=50) (B:=2) (by omega) (bF i) k0 (by omega)
  omega⟩
 have aA:=addF_ok F G FA
 have aS:=scaleF_ok F k0 (by omega) FS
 have d0:=pk_lo (c:=dd) (n:=60) (by omega)
 have d1:=pk_hi (c:=dd) (n:=60) (by omega)
 have p2:=pickL_ok (n:=60) g3 (by omega)
 obtain ⟨d,hd⟩:∃ d,d=1+pk dd 60:=⟨_,rfl⟩
 have wd:=prod_bd (a:=(W:Int)) (b:=d) (A:=6) (B:=60) (by omega) (by omega) (by omega) (by omega)
 have hdd:=prod_bd (a:=(H:Int)) (b:=d) (A:=6) (B:=60) (by omega) (by omega) (by omega) (by omega)
 have x0:=pk_lo (c:=px) (n:=(W:Int)*d+1) (by omega)
 have x1:=pk_hi (c:=px) (n:=(W:Int)*d+1) (by omega)
 have p3:=pickL_ok (n:=(W:Int)*d+1) g1 (by omega)
 have y0:=pk_lo (c:=py) (n:=(H:Int)*d+1) (by omega)
 have y1:=pk_hi (c:=py) (n:=(H:Int)*d+1) (by omega)
 have p4:=pickL_ok (n:=(H:Int)*d+1) g2 (by omega)
 generalize pk px ((W:Int)*d+1)=X at *
 generalize pk py ((H:Int)*d+1)=Y at *
 have hcond:1≤d∧d≤60∧0≤X∧X≤W*d∧0≤Y∧Y≤H*d:=⟨by omega,by omega,by omega,by omega,by omega,by omega⟩
 have atx:∀ {l1 h1:Nat→Int},OkF W H l1 h1→m13 (fd W H l1 h1,X,Y,d)=some (atv W H l1 X Y d,atv W H h1 X Y d,0):=fun {l1 h1} hF=>by
  rw [at_ok hF];unfold atR;rw [if_pos hcond]
 have t1:=atx F
 have t2:=atx G
 have t3:=atx FA
 have t4:=atx FS
 have bd:∀ {v:Nat→Int},OkV W H v→0≤atv W H v X Y d∧atv W H v X Y d≤18000:=fun {v} hv=>atv_bd hv hcond.1 hcond.2.1 hcond.2.2.1 hcond.2.2.2.1 hcond.2.2.2.2.1 hcond.2.2.2.2.2
 have b1:=bd F.okLo
 have b2:=bd F.okHi
 have b3:=bd G.okLo
 have b4:=bd G.okHi
 have b5:=bd FS.okLo
 have b6:=bd FS.okHi
 have i1:=integral_ok F
 have i2:=integral_ok G
 have i3:=integral_ok FA
 have i4:=integral_ok FS
 have c1:=sT_bd F.okLo (2*(H*W)) (Nat.le_refl _)
 have c2:=sT_bd F.okHi (2*(H*W)) (Nat.le_refl _)
 have c3:=sT_bd G.okLo (2*(H*W)) (Nat.le_refl _)
 have c4:=sT_bd G.okHi (2*(H*W)) (Nat.le_refl _)
 have c5:=sT_bd FS.okLo (2*(H*W)) (Nat.le_refl _)
 have c6:=sT_bd FS.okHi (2*(H*W)) (Nat.le_refl _)
 obtain ⟨pl,ep,hpl⟩:=part_ok (lo:=lo) (hi:=hi) w1 w6 h1' h6 h3
 have hPol:=hpl.pol w6 h6
 have hlen:(spS pl).length≤8:=by rw [spS_len];exact hpl.h8
 have o1:=fover_ok F hpl
 have o2:=fover_ok G hpl
 have o3:=fover_ok FA hpl
 have o4:=fover_ok FS hpl
 have n1:=ovQ_dn2 F.okLo hPol hlen
 have n2:=ovQ_dn2 F.okHi hPol hlen
 have n3:=ovQ_dn2 G.okLo hPol hlen
 have n4:=ovQ_dn2 G.okHi hPol hlen
 have s1:=sumF_ok n1 n3
 have s2:=sumF_ok n2 n4
 have m1:=(timesQ_ok (n:=k) n1 DO_pos k0 (by omega) DO_fit2).1
 have m2:=(timesQ_ok (n:=k) n2 DO_pos k0 (by omega) DO_fit2).1
 rw [ovQ_add,ovQ_add] at o3
 rw [ovQ_mul,ovQ_mul] at o4
 rw [atv_add,atv_add] at t3
 rw [atv_mul] at b5
 rw [atv_mul] at b6
 rw [atv_mul,atv_mul] at t4
 rw [sT_add,sT_add] at i3
 rw [sT_mul] at c5
 rw [sT_mul] at c6
 rw [sT_mul,sT_mul] at i4
 unfold fd at e1 e2 aA aS t1 t2 t3 t4 i1 i2 i3 i4 ep o1 o2 o3 o4
 unfold m4
 dsimp only
 rw [sane_ok,Option.bind_some,notT,cond_false,e1,Option.bind_some,e2,Option.bind_some,p1,Option.bind_some,aA,Option.bind_some,aS,Option.bind_some,p2,Option.bind_some,wrap_in (n:=1+pk dd 60) (by omega) (by omega),← hd,wrap_in (n:=(W:Int)*d) (by omega) (by omega),wrap_in (n:=(W:Int)*d+1) (by omega) (by omega),p3,Option.bind_some,wrap_in (n:=(H:Int)*d) (by omega) (by omega),wrap_in (n:=(H:Int)*d+1) (by omega) (by omega),p4,Option.bind_some]
 refine bind_of t1 ?_
 refine bind_of t2 ?_
 refine bind_of t3 ?_
 refine bind_of t4 ?_
 dsimp only
 rw [eqI rfl,notT,wrap_in (n:=atv W H lo X Y d+atv W H lo' X Y d) (by omega) (by omega),wrap_in (n:=atv W H hi X Y d+atv W H hi' X Y d) (by omega) (by omega),wrap_in (n:=k*atv W H lo X Y d) (by omega) (by omega),wrap_in (n:=k*atv W H hi X Y d) (by omega) (by omega),eqI rfl,eqI rfl,eqI rfl,eqI rfl,notT]
 refine Eq.trans (b:=cond false _ _) rfl ?_
 rw [cond_false]
 refine bind_of i1 ?_
 refine bind_of i2 ?_
 refine bind_of i3 ?_
 refine bind_of i4 ?_
 dsimp only
 rw [wrap_in (n:=sT W lo (2*(H*W))+sT W lo' (2*(H*W))) (by omega) (by omega),wrap_in (n:=sT W hi (2*(H*W))+sT W hi' (2*(H*W))) (by omega) (by omega),wrap_in (n:=k*sT W lo (2*(H*W))) (by omega) (by omega),wrap_in (n:=k*sT W hi (2*(H*W))) (by omega) (by omega),eqI rfl,eqI rfl,eqI rfl,eqI rfl,notT]
 refine Eq.trans (b:=cond false _ _) rfl ?_
 rw [cond_false,ep,Option.bind_some]
 refine bind_of o1 ?_
 refine bind_of o2 ?_
 refine bind_of o3 ?_
 refine bind_of o4 ?_
 dsimp only
 rw [eqI rfl,andT,cond_true,s1,Option.bind_some]
 dsimp only
 rw [eqs_self,eqs_self,andT,andT,cond_true,s2,Option.bind_some]
 dsimp only
 rw [eqs_self,eqs_self,andT,andT,cond_true,m1,Option.bind_some]
 dsimp only
 rw [eqs_self,eqs_self,andT,andT,cond_true,m2,Option.bind_some]
 dsimp only
 rw [eqs_self,eqs_self]
 rfl
end Go.Proofs.YtechphmljdgoaaaGreatDoor
namespace Go.Proofs.YtechphmljdgoaaaGreatDoor
open Go Go.Abs Go.PE
theorem mem_in {t:Ty} {l:List t.den} (h:InR (.list t) l):∀ x∈l,InR t x:=fun x hx=>by
 obtain ⟨i,hi,rfl⟩:=List.mem_iff_getElem.1 hx
 exact h.2 i _ (List.getElem?_eq_getElem hi)
theorem law4:∀ (S:Cells) (w:World) (η:Eta) (vs:List Value) x,All2 (RM S w η) (rvs as4 x) vs→m4 x=some true :=
 law_of_ok fun x h=>law4_ok x h.1.1 h.1.2.1 (mem_in h.2.1) h.2.1.1 (mem_in h.2.2.1) h.2.2.1.1 (mem_in h.2.2.2.1) h.2.2.2.2.1 h.2.2.2.2.2.1 h.2.2.2.2.2.2.1 h.2.2.2.2.2.2.2
end Go.Proofs.YtechphmljdgoaaaGreatDoor
