/-
 Texts of this proof, put together: Ie, If, Ig, Ih, Ii, Fx, Gb, Gc, Gd, Fy, Ge, Gf, Gg, LawFieldBounds.
 No conditions.
-/
import Derived.Test.YtechphmljdgoaaaGreatDoorZ7
set_option linter.all false
namespace Go.Proofs.YtechphmljdgoaaaGreatDoor
open Go Go.Lib Go.Abs Go.PE Go.Num
theorem by_ok {a d:Nat} (ha:(grp a).length≤1000) (hd:d≤9999):m114 (grp a,(d:Int))=some (grp (a*d)):=by
 unfold m114
 dsimp only
 have hm:lenM (grp a)=((grp a).length:Int):=lenI _
 rw [hm,wrap_in (by omega) (by omega),mk0 (by omega) (by omega),Option.bind_some]
 have hs:∀ i,(seqL (grp a).length fun i=>(grp a).getD i 0*(d:Int)).getD i 0=(grp a).getD i 0*(d:Int):=fun i=>seq_at _ _ fun i hi=>by rw [getD_out _ _ (by omega),Int.zero_mul]
 have hA:=okd_get (grp_okd a)
 have hb:∀ i,0≤(grp a).getD i 0*(d:Int)∧(grp a).getD i 0*(d:Int)≤99980001:=fun i=>by
  have h1:=hA i
  refine ⟨Int.mul_nonneg h1.1 (by omega),?_⟩
  have:=Int.mul_le_mul h1.2 (show (d:Int)≤9999 by omega) (by omega) (by omega)
  omega
 have hv:vl (seqL (grp a).length fun i=>(grp a).getD i 0*(d:Int))=((a*d:Nat):Int):=by
  rw [vl_mul,vl_of _ _ (by omega),vl_grp];exact (Int.natCast_mul a d).symm
 refine fold_end (k:=(grp a).length) ?_ (by omega)
 have key:=carry_loop (dl:=seqL (grp a).length fun i=>(grp a).getD i 0*(d:Int)) (fun i=>by rw [hs];have:=hb i;omega) (by rw [hv];omega)
  (body:=fun (s:Int×Int×List Int)=>bif PE.orM (ltM s.2.1 ((grp a).length:Int))
 (PE.notM (eqM s.1 0)) then (m119 (grp a,s.2.1)).bind fun r_1=>(bif ltM (IntKind.wrap .i64 (IntKind.wrap
 IntKind.i64 (r_1*(d:Int))+s.1)) 0 then some ((-1),IntKind.wrap .i64 (IntKind.wrap .i64 (IntKind.wrap .i64 (r_1*(d:Int))+s.1)+10000)) else bif leM 10000 (IntKind.wrap
 IntKind.i64 (IntKind.wrap .i64 (r_1*(d:Int))+s.1)) then (divM .i64 (IntKind.wrap .i64 (IntKind.wrap .i64 (r_1*(d:Int))+s.1)) 10000).bind fun r_2=>(remM
 (IntKind.wrap .i64 (IntKind.wrap .i64 (r_1*(d:Int))+s.1)) 10000).bind fun r=>some (r_2,r) else some (0,IntKind.wrap .i64 (IntKind.wrap .i64 (r_1*(d:Int)) +
 s.1))).bind fun o=>(appM (nat_lit 8) s.2.2 [o.2]).bind fun r=>some (Sum.inl (o.1,IntKind.wrap .i64 (s.2.1+1),r)) else some (Sum.inr s.2.2))
  (fun i c out ho hi h1 h2 h3=>?_) (fun i out hi=>?_)
 ·rw [hv,seqL_len] at key
  exact key
 ·rw [seqL_len] at hi h3
  have hb:=hb i
  have hc:PE.orM (ltM (i:Int) ((grp a).length:Int)) (PE.notM (eqM c 0))=true:=by
   rcases h3 with h | h
   ·rw [ltI (by omega),orT]
   ·rw [neI h,notF];cases ltM (i:Int) _<;>rfl
  have e:IntKind.wrap .i64 (IntKind.wrap .i64 ((grp a).getD i 0*(d:Int))+c)=(grp a).getD i 0*(d:Int)+c:=by rw [wrap_in (n:=(grp a).getD i 0*(d:Int)) (by omega) (by omega),wrap_in (by omega) (by omega)]
  dsimp only
  rw [hc,cond_true,iat_ok,Option.bind_some,e,step_digit (by omega) (by omega),Option.bind_some,app1 (by omega),Option.bind_some,wrap_in (by omega) (by omega),hs]
 ·rw [seqL_len] at hi
  dsimp only
  rw [geI (by omega)];rfl
theorem grp_len_mono {a b:Nat} (h:a≤b):(grp a).length≤(grp b).length:=grp_len_le (Nat.lt_of_le_of_lt h (grp_lt b))
theorem minus_ok {a b:Nat} (ha:(grp a).length≤1000) (hb:b≤a):m86 (grp a,grp b)=some (grp (a-b)):=by
 unfold m86
 dsimp only
 have hl:=grp_len_mono hb
 have hm:lenM (grp a)=((grp a).length:Int):=lenI _
 rw [hm,wrap_in (by omega) (by omega),mk0 (by omega) (by omega),Option.bind_some]
 have hs:∀ i,(seqL (grp a).length fun i=>(grp a).getD i 0-(grp b).getD i 0).getD i 0=(grp a).getD i 0-(grp b).getD i 0:=fun i=>seq_at _ _ fun i hi=>by rw [getD_out _ _ (by omega),getD_out _ _ (by omega)];rfl
 have hA:=okd_get (grp_okd a)
 have hB:=okd_get (grp_okd b)
 have hv:vl (seqL (grp a).length fun i=>(grp a).getD i 0-(grp b).getD i 0)=((a-b:Nat):Int):=by
  rw [vl_sub,vl_of _ _ (by omega),vl_of _ _ (by omega),vl_grp,vl_grp];omega
 refine fold_end (k:=(grp a).length) ?_ (by omega)
 have key:=carry_loop (dl:=seqL (grp a).length fun i=>(grp a).getD i 0-(grp b).getD i 0) (fun i=>by rw [hs];have:=hA i;have:=hB i;omega) (by rw [hv];omega)
  (body:=fun (s:Int×Int×List Int)=>bif PE.orM (ltM s.2.1 ((grp a).length:Int))
 (PE.notM (eqM s.1 0)) then (m119 (grp a,s.2.1)).bind fun r_1=>(m119 (grp b,s.2.1)).bind fun r_2=>(bif ltM (IntKind.wrap .i64 (IntKind.wrap
 IntKind.i64 (r_1-r_2)+s.1)) 0 then some ((-1),IntKind.wrap .i64 (IntKind.wrap .i64 (IntKind.wrap .i64 (r_1-r_2)+s.1)+10000)) else bif leM 10000 (IntKind.wrap
 IntKind.i64 (IntKind.wrap .i64 (r_1-r_2)+s.1)) then (divM .i64 (IntKind.wrap .i64 (IntKind.wrap .i64 (r_1-r_2)+s.1)) 10000).bind fun r_3=>(remM
 (IntKind.wrap .i64 (IntKind.wrap .i64 (r_1-r_2)+s.1)) 10000).bind fun r=>some (r_3,r) else some (0,IntKind.wrap .i64 (IntKind.wrap .i64 (r_1-r_2) +
 s.1))).bind fun o=>(appM (nat_lit 8) s.2.2 [o.2]).bind fun r=>some (Sum.inl (o.1,IntKind.wrap .i64 (s.2.1+1),r)) else some (Sum.inr s.2.2))
  (fun i c out ho hi h1 h2 h3=>?_) (fun i out hi=>?_)
 ·rw [hv,seqL_len] at key
  exact key
 ·rw [seqL_len] at hi h3
  have hA:=hA i
  have hB:=hB i
  have hc:PE.orM (ltM (i:Int) ((grp a).length:Int)) (PE.notM (eqM c 0))=true:=by
   rcases h3 with h | h
   ·rw [ltI (by omega),orT]
   ·rw [neI h,notF];cases ltM (i:Int) _<;>rfl
  have e:IntKind.wrap .i64 (IntKind.wrap .i64 ((grp a).getD i 0-(grp b).getD i 0)+c)=(grp a).getD i 0-(grp b).getD i 0+c:=by rw [wrap_in (n:=(grp a).getD i 0-(grp b).getD i 0) (by omega) (by omega),wrap_in (by omega) (by omega)]
  dsimp only
  rw [hc,cond_true,iat_ok,Option.bind_some,iat_ok,Option.bind_some,e,step_digit (by omega) (by omega),Option.bind_some,app1 (by omega),Option.bind_some,wrap_in (by omega) (by omega),hs]
 ·rw [seqL_len] at hi
  dsimp only
  rw [geI (by omega)];rfl
theorem grp_mul {a b:Nat}:(grp (a*b)).length≤(grp a).length+(grp b).length:=grp_len_le (by rw [Nat.pow_add];exact Nat.mul_lt_mul'' (grp_lt a) (grp_lt b))
theorem grp_add {a b:Nat}:(grp (a+b)).length≤max (grp a).length (grp b).length+1:=grp_len_le (by
 have h1:=grp_lt a
 have h2:=grp_lt b
 have h3:=Nat.pow_le_pow_right (show 0<10000 by omega) (Nat.le_max_left (grp a).length (grp b).length)
 have h4:=Nat.pow_le_pow_right (show 0<10000 by omega) (Nat.le_max_right (grp a).length (grp b).length)
 rw [Nat.pow_succ];omega)
theorem shift_ok {m:Nat} (h:(grp m).length≤10000):((bif ltM 0 (lenM (grp m)) then (appM (nat_lit 8) [0] (grp m)).bind fun r=>some r else some (grp m)):Option (List Int))=some (grp (10000*m)):=by
 by_cases h0:m=0
 ·subst h0;rw [Nat.mul_zero,grp_zero];rfl
 ·have hl:(grp m).length≠0:=fun e=>h0 (grp_nil.1 (List.length_eq_zero_iff.1 e))
  rw [ltI (by rw [lenI];omega),cond_true,appM_of (by simp;omega),Option.bind_some,grp_pos (show 10000*m≠0 by omega),show 10000*m / 10000=m by omega,show 10000*m % 10000=0 by omega];rfl
theorem grp_shift_len (m:Nat):(grp (10000*m)).length≤(grp m).length+1:=by
 by_cases h0:m=0
 ·subst h0;rw [Nat.mul_zero,grp_zero];simp
 ·rw [grp_pos (show 10000*m≠0 by omega),show 10000*m / 10000=m by omega,List.length_cons];omega
theorem times_ok {a b:Nat} (ha:(grp a).length≤400) (hb:(grp b).length≤400):m132 (grp a,grp b)=some (grp (a*b)):=by
 unfold m132
 have hw:IntKind.wrap .i64 (lenM (grp b)-1)=((grp b).length:Int)-((0:Nat):Int)-1:=by rw [lenI,wrap_in (by omega) (by omega)];omega
 have h0:([]:List Int)=grp (a*(b / 10000 ^ ((grp b).length-0))):=by rw [Nat.sub_zero,Nat.div_eq_of_lt (grp_lt b),Nat.mul_zero,grp_zero]
 refine bind_of (Eq.trans (congrArg (loopM _) (Prod.ext hw h0)) (loopM_fn (fun k=>(((grp b).length:Int)-(k:Int)-1,grp (a*(b / 10000 ^ ((grp b).length-k))))) (grp b).length (r:=grp (a*b)) (fun k hk=>?_) ?_)) rfl
 ·have hi:((grp b).length:Int)-(k:Int)-1=(((grp b).length-k-1:Nat):Int):=by omega
  have hq2:b / 10000 ^ ((grp b).length-k)≤b:=Nat.div_le_self _ _
  have hd:b / 10000 ^ ((grp b).length-k)=b / 10000 ^ ((grp b).length-k-1) / 10000:=by
   rw [← div_pow_succ,show (grp b).length-k-1+1=(grp b).length-k by omega]
  have l1:(grp (a*(b / 10000 ^ ((grp b).length-k)))).length≤800:=Nat.le_trans grp_mul (by have:=grp_len_mono hq2;omega)
  have hrec:a*(b / 10000 ^ ((grp b).length-k-1))=10000*(a*(b / 10000 ^ ((grp b).length-k)))+a*(b / 10000 ^ ((grp b).length-k-1) % 10000):=by
   rw [hd,Nat.mul_left_comm,← Nat.mul_add];congr 1;omega
  have l2:=grp_shift_len (a*(b / 10000 ^ ((grp b).length-k)))
  have l4:(grp (a*(b / 10000 ^ ((grp b).length-k-1) % 10000))).length≤1000:=Nat.le_trans grp_mul (by have:(grp (b / 10000 ^ ((grp b).length-k-1) % 10000)).length≤1:=grp_len_le (by omega);omega)
  dsimp only
  rw [hi,leI (by omega),cond_true,grp_idx (by omega),Option.bind_some,shift_ok (by omega),Option.bind_some,by_ok (by omega) (by omega),Option.bind_some,plus_ok (by omega) l4,Option.bind_some,← hrec,wrap_in (by omega) (by omega),show (grp b).length-(k+1)=(grp b).length-k-1 by omega]
  congr 3;omega
 ·have e:((grp b).length:Int)-((grp b).length:Int)-1=-1:=by omega
  dsimp only
  rw [e,gtI (by omega),cond_false,Nat.sub_self,Nat.pow_zero,Nat.div_one]
def cmp3 (x y:Int):Int:=if x<y then -1 else if y<x then 1 else 0
theorem cmp_ok1 (x y:Int):m124 (x,y)=some (cmp3 x y):=by
 unfold m124
 have e:∀ z:Int,m131 z=some false:=fun z=>by unfold m131;rw [eqI rfl];rfl
 dsimp only
 rw [e,Option.bind_some,e,Option.bind_some,cond_false,cond_false]
 unfold cmp3
 by_cases h1:x<y
 ·rw [ltI h1,cond_true,if_pos h1]
 ·rw [geI (by omega),cond_false,if_neg h1]
  by_cases h2:y<x
  ·rw [ltI h2,cond_true,if_pos h2]
  ·rw [geI (by omega),cond_false,if_neg h2]
theorem cmp3_div {a b j:Nat} (h:a / j<b / j):cmp3 (a:Int) b=-1:=by
 have:a<b:=by
  rcases Nat.lt_or_ge a b with h1 | h1
  ·exact h1
  ·exact absurd (Nat.div_le_div_right (c:=j) h1) (by omega)
 unfold cmp3;rw [if_pos (by omega)]
theorem cmp3_div' {a b j:Nat} (h:b / j<a / j):cmp3 (a:Int) b=1:=by
 have:b<a:=by
  rcases Nat.lt_or_ge b a with h1 | h1
  ·exact h1
  ·exact absurd (Nat.div_le_div_right (c:=j) h1) (by omega)
 unfold cmp3;rw [if_neg (by omega),if_pos (by omega)]
theorem compare_ok {a b:Nat} (ha:(grp a).length≤10000) (hb:(grp b).length≤10000):m88 (grp a,grp b)=some (cmp3 a b):=by
 unfold m88
 dsimp only
 by_cases hl:(grp a).length=(grp b).length
 ·rw [eqI (show lenM (grp a)=lenM (grp b) by rw [lenI,lenI,hl]),notT,cond_false]
  have hw:IntKind.wrap .i64 (lenM (grp a)-1)=((grp a).length:Int)-((0:Nat):Int)-1:=by rw [lenI,wrap_in (by omega) (by omega)];omega
  rw [hw]
  refine Ans.is (Ans.bind (P:=fun o=>Sum.elim (fun (_:Unit)=>some 0) (fun (t:Int)=>some t) o=some (cmp3 a b)) (Ans.loop (fun k s=>s=((grp a).length:Int)-(k:Int)-1∧a / 10000 ^ ((grp a).length-k)=b / 10000 ^ ((grp a).length-k)) (grp a).length ⟨rfl,?_⟩ ?_) ?_)
  ·rw [Nat.sub_zero,Nat.div_eq_of_lt (grp_lt a),hl,Nat.div_eq_of_lt (grp_lt b)]
  ·rintro k s hk ⟨rfl,he⟩
   by_cases hkl:k<(grp a).length
   ·have hi:((grp a).length:Int)-(k:Int)-1=(((grp a).length-k-1:Nat):Int):=by omega
    have hd:∀ n,n / 10000 ^ ((grp a).length-k)=n / 10000 ^ ((grp a).length-k-1) / 10000:=fun n=>by
     rw [← div_pow_succ,show (grp a).length-k-1+1=(grp a).length-k by omega]
    rw [hd a,hd b] at he
    rw [hi,leI (by omega),cond_true,grp_idx (by omega),Option.bind_some,grp_idx (by omega),Option.bind_some]
    by_cases hx:a / 10000 ^ ((grp a).length-k-1) % 10000=b / 10000 ^ ((grp a).length-k-1) % 10000
    ·rw [eqI (by omega),notT,cond_false]
     refine Ans.of (r:=.inl (((grp a).length:Int)-((k+1:Nat):Int)-1)) (by rw [wrap_in (by omega) (by omega)];congr 2;omega) ?_
     exact show k<(grp a).length∧_ from ⟨hkl,rfl,by rw [show (grp a).length-(k+1)=(grp a).length-k-1 by omega];omega⟩
    ·rw [neI (by omega),notF,cond_true,Option.bind_some,cmp_ok1]
     refine Ans.of (r:=.inr (.inr (cmp3 ((a / 10000 ^ ((grp a).length-k-1) % 10000:Nat):Int) ((b / 10000 ^ ((grp a).length-k-1) % 10000:Nat):Int)))) rfl ?_
     show some (cmp3 ((a / 10000 ^ ((grp a).length-k-1) % 10000:Nat):Int) ((b / 10000 ^ ((grp a).length-k-1) % 10000:Nat):Int))=some (cmp3 a b)
     congr 1
     rcases Nat.lt_or_gt_of_ne hx with h | h
     ·rw [cmp3_div (a:=a) (b:=b) (j:=10000 ^ ((grp a).length-k-1)) (by omega)];unfold cmp3;rw [if_pos (by omega)]
     ·rw [cmp3_div' (a:=a) (b:=b) (j:=10000 ^ ((grp a).length-k-1)) (by omega)];unfold cmp3;rw [if_neg (by omega),if_pos (by omega)]
   ·have:k=(grp a).length:=by omega
    subst this
    rw [Nat.sub_self,Nat.pow_zero,Nat.div_one,Nat.div_one] at he
    have e:((grp a).length:Int)-((grp a).length:Int)-1=-1:=by omega
    rw [e,gtI (by omega),cond_false]
    refine Ans.of (r:=.inr (.inl ())) rfl ?_
    show some (0:Int)=some (cmp3 a b)
    unfold cmp3;rw [if_neg (by omega),if_neg (by omega)]
  ·intro o ho
   exact .of ho rfl
 ·rw [neI (by rw [lenI,lenI];omega),notF,cond_true,cmp_ok1,Option.bind_some]
  have ka:=grp_lt a
  have kb:=grp_lt b
  congr 1
  rcases Nat.lt_or_gt_of_ne hl with h | h
  ·have hb0:b≠0:=fun e=>by subst e;rw [grp_zero] at h;simp at h
   have h1:=grp_len_pow hb0
   have h2:=Nat.pow_le_pow_right (show 0<10000 by omega) (show (grp a).length≤(grp b).length-1 by omega)
   unfold cmp3;rw [if_pos (by rw [lenI,lenI];omega),if_pos (by omega)]
  ·have ha0:a≠0:=fun e=>by subst e;rw [grp_zero] at h;simp at h
   have h1:=grp_len_pow ha0
   have h2:=Nat.pow_le_pow_right (show 0<10000 by omega) (show (grp b).length≤(grp a).length-1 by omega)
   unfold cmp3;rw [if_neg (by rw [lenI,lenI];omega),if_pos (by rw [lenI,lenI];omega),if_neg (by omega),if_pos (by omega)]
theorem cmp3_pos (x y:Int):leM 0 (cmp3 x y)=decide (y≤x):=by
 unfold cmp3
 by_cases h1:x<y
 ·rw [if_pos h1,gtI (by omega),decide_eq_false (by omega)]
 ·rw [if_neg h1,decide_eq_true (by omega)]
  by_cases h2:y<x
  ·rw [if_pos h2,leI (by omega)]
  ·rw [if_neg h2,leI (by omega)]
theorem splus_ok {x y:Int} (hx:(grp x.natAbs).length≤400) (hy:(grp y.natAbs).length≤400):Ans (m95 ((decide (x<0),grp x.natAbs),decide (y<0),grp y.natAbs)) fun o=>Sg o (x+y):=by
 unfold m95
 dsimp only
 by_cases hs:decide (x<0)=decide (y<0)
 ·have hs':=decide_eq_decide.1 hs
  rw [show eqbM (decide (x<0)) (decide (y<0))=true from decide_eq_true hs,cond_true,plus_ok (by omega) (by omega),Option.bind_some]
  refine .of rfl ⟨by show grp _=grp _;congr 1;omega,fun h=>?_⟩
  show decide (x<0)=decide (x+y<0)
  exact decide_eq_decide.2 (by omega)
 ·have hs':¬ (x<0↔y<0):=fun h=>hs (decide_eq_decide.2 h)
  rw [show eqbM (decide (x<0)) (decide (y<0))=false from decide_eq_false hs,cond_false,compare_ok (by omega) (by omega),Option.bind_some,cmp3_pos]
  by_cases hc:y.natAbs≤x.natAbs
  ·rw [decide_eq_true (by omega),cond_true,minus_ok (by omega) hc,Option.bind_some]
   refine .of rfl ⟨by show grp _=grp _;congr 1;omega,fun h=>?_⟩
   show decide (x<0)=decide (x+y<0)
   exact decide_eq_decide.2 (by omega)
  ·rw [decide_eq_false (by omega),cond_false,minus_ok (by omega) (by omega),Option.bind_some]
   refine .of rfl ⟨by show grp _=grp _;congr 1;omega,fun h=>?_⟩
   show decide (y<0)=decide (x+y<0)
   exact decide_eq_decide.2 (by omega)
def Fits (z:Int):Prop:=z.natAbs<10 ^ 200
instance (z:Int):Decidable (Fits z):=inferInstanceAs (Decidable (z.natAbs<10 ^ 200))
def sn (z:Int):List UInt8×Int:=if Fits z then (itoa z,0) else ([],30)
theorem fits_len {z:Int} (h:Fits z):(grp z.natAbs).length≤50:=grp_len_le (Nat.lt_of_lt_of_le h (by decide))
theorem sn_text {o:Bool×List Int} {z:Int} (h:Sg o z) (hn:(grp z.natAbs).length≤400):m87 o=some (sn z):=by
 rw [textZ h hn];rfl
theorem iadd_ok {x y:Int} (hx:Fits x) (hy:Fits y):m74 (itoa x,itoa y)=some (sn (x+y)):=by
 have h1:=fits_len hx
 have h2:=fits_len hy
 unfold m74
 dsimp only
 rw [both_ok hx hy,Option.bind_some,notT,cond_false]
 refine Ans.is (Ans.bind (splus_ok (by omega) (by omega)) fun o ho=>?_)
 rw [sn_text ho (Nat.le_trans (grp_len_mono (show (x+y).natAbs≤x.natAbs+y.natAbs by omega)) (Nat.le_trans grp_add (by omega)))]
 exact .of rfl rfl
theorem imul_ok {x y:Int} (hx:Fits x) (hy:Fits y):m107 (itoa x,itoa y)=some (sn (x*y)):=by
 have h1:=fits_len hx
 have h2:=fits_len hy
 unfold m107
 dsimp only
 rw [both_ok hx hy,Option.bind_some,notT,cond_false,times_ok (by omega) (by omega),Option.bind_some]
 rw [sn_text (z:=x*y) ⟨by show grp _=grp _;rw [Int.natAbs_mul],fun h=>?_⟩ (by rw [Int.natAbs_mul];exact Nat.le_trans grp_mul (by omega))]
 ·rfl
 ·show PE.notM (eqbM (decide (x<0)) (decide (y<0)))=decide (x*y<0)
  have hx0:x≠0:=fun e=>h (by rw [e,Int.zero_mul])
  have hy0:y≠0:=fun e=>h (by rw [e,Int.mul_zero])
  by_cases hx:x<0<;>by_cases hy:y<0
  ·rw [decide_eq_true hx,decide_eq_true hy,decide_eq_false (by have:=Int.mul_pos_of_neg_of_neg hx hy;omega)];rfl
  ·rw [decide_eq_true hx,decide_eq_false hy,decide_eq_true (Int.mul_neg_of_neg_of_pos hx (by omega))];rfl
  ·rw [decide_eq_false hx,decide_eq_true hy,decide_eq_true (Int.mul_neg_of_pos_of_neg (by omega) hy)];rfl
  ·rw [decide_eq_false hx,decide_eq_false hy,decide_eq_false (by have:=Int.mul_pos (show 0<x by omega) (show 0<y by omega);omega)];rfl
theorem icmp_ok {x y:Int} (hx:Fits x) (hy:Fits y):m57 (itoa x,itoa y)=some (cmp3 x y):=by
 have h1:=fits_len hx
 have h2:=fits_len hy
 unfold m57
 dsimp only
 rw [both_ok hx hy,Option.bind_some,notT,cond_false]
 by_cases hx:x<0
 ·rw [decide_eq_true hx]
  by_cases hy:y<0
  ·rw [decide_eq_true hy,andT,cond_true,compare_ok (by omega) (by omega),Option.bind_some]
   congr 1;unfold cmp3;grind
  ·rw [decide_eq_false hy,andT,cond_false,cond_true]
   congr 1;unfold cmp3;grind
 ·rw [decide_eq_false hx,andF,cond_false,cond_false]
  by_cases hy:y<0
  ·rw [decide_eq_true hy,cond_true]
   congr 1;unfold cmp3;grind
  ·rw [decide_eq_false hy,cond_false,compare_ok (by omega) (by omega),Option.bind_some]
   congr 1;unfold cmp3;grind
end Go.Proofs.YtechphmljdgoaaaGreatDoor
namespace Go.Proofs.YtechphmljdgoaaaGreatDoor
open Go Go.Lib Go.Abs Go.PE Go.Num
theorem vl_set:∀ (l:List Int) (i:Nat) (d:Int),i<l.length→vl (l.set i d)=vl l+10000 ^ i*(d-l.getD i 0)
 | [],i,d,h=>by simp at h
 | c::l,0,d,_=>by show d+10000*vl l=c+10000*vl l+1*(d-c);omega
 | c::l,i+1,d,h=>by
  have ih:=vl_set l i d (by simpa using h)
  show c+10000*vl (l.set i d)=c+10000*vl l+10000 ^ (i+1)*(d-l.getD i 0)
  rw [ih,Int.pow_succ,Int.mul_add,Int.mul_comm (10000 ^ i) 10000,Int.mul_assoc];omega
theorem okd_set {l:List Int} (h:okd l) {i:Nat} {d:Int} (hd:0≤d∧d≤9999):okd (l.set i d):=fun c hc=>by
 rcases List.mem_or_eq_of_mem_set hc with hc | rfl
 ·exact h c hc
 ·exact hd
theorem okd_rep (n:Nat):okd (List.replicate n 0):=fun c hc=>by rw [(List.mem_replicate.1 hc).2];omega
theorem vl_rep:∀ n,vl (List.replicate n 0)=0
 | 0=>rfl
 | n+1=>by show 0+10000*vl (List.replicate n 0)=0;rw [vl_rep n];rfl
theorem half_ok {i j:Nat} (h:i<j) (hj:j≤9999):shrM IntKind.u64 (IntKind.wrap IntKind.u64 (IntKind.wrap .i64 ((i:Int)+(j:Int)))) 1=some (((i+j) / 2:Nat):Int):=by
 rw [wrap_in (by omega) (by omega)]
 have e:IntKind.wrap IntKind.u64 ((i:Int)+j)=(i:Int)+j:=by
  unfold IntKind.wrap
  show ((i:Int)+j) % 18446744073709551616=_
  omega
 rw [e]
 unfold shrM
 rw [decide_eq_false (by omega)]
 show some (((i:Int)+j).fdiv 2)=_
 rw [Int.fdiv_eq_ediv_of_nonneg _ (by omega)]
 congr 1
theorem nat_int {t:Nat} (h:t≤9999):(0:Int)≤(t:Int)∧(t:Int)≤9999:=by omega
theorem search_ok {b R:Nat} (hb:0<b) (hR:R<10000*b) (lb:(grp b).length≤400) (lR:(grp R).length≤500) :
  loopM (fun (s_1:Int×Int)=>bif ltM s_1.1 s_1.2 then (shrM IntKind.u64
 (IntKind.wrap IntKind.u64 (IntKind.wrap .i64 (s_1.1+s_1.2))) 1).bind fun r_4=>(m114 (grp b,IntKind.wrap .i64 (IntKind.wrap .i64 r_4+1))).bind fun r_5=>(m88 (r_5,
 grp R)).bind fun r=>bif PE.notM (ltM 0 r) then some (Sum.inl (IntKind.wrap .i64 (IntKind.wrap .i64 r_4+1),s_1.2)) else some (Sum.inl (s_1.1,IntKind.wrap IntKind.i64
 r_4)) else some (Sum.inr s_1.1)) (0,9999)=some ((R / b:Nat):Int):=by
 have hq:R / b≤9999:=by
  have:R / b<10000:=(Nat.div_lt_iff_lt_mul hb).2 hR
  omega
 refine Ans.is (Ans.loop (fun k s=>∃ i j:Nat,s=((i:Int),(j:Int))∧i≤R / b∧R / b≤j∧j≤9999∧j-i+k≤9999) 9999 ⟨0,9999,rfl,Nat.zero_le _,hq,Nat.le_refl _,by omega⟩ ?_)
 rintro k s hk ⟨i,j,rfl,h1,h2,h3,h4⟩
 dsimp only
 by_cases hij:i<j
 ·rw [ltI (by omega),cond_true,half_ok hij h3,Option.bind_some,wrap_in (n:=(((i+j) / 2:Nat):Int)) (by omega) (by omega),wrap_in (n:=(((i+j) / 2:Nat):Int)+1) (by omega) (by omega)]
  have e1:(((i+j) / 2:Nat):Int)+1=(((i+j) / 2+1:Nat):Int):=by omega
  rw [e1,by_ok (by omega) (by omega),Option.bind_some]
  have l1:(grp (b*((i+j) / 2+1))).length≤10000:=Nat.le_trans grp_mul (by have:(grp ((i+j) / 2+1)).length≤1:=grp_len_le (by omega);omega)
  rw [compare_ok l1 (by omega),Option.bind_some]
  have key:(i+j) / 2+1≤R / b↔b*((i+j) / 2+1)≤R:=by rw [Nat.le_div_iff_mul_le hb,Nat.mul_comm]
  by_cases hc:b*((i+j) / 2+1)≤R
  ·have e2:ltM 0 (cmp3 ((b*((i+j) / 2+1):Nat):Int) (R:Int))=false:=by
    unfold cmp3
    by_cases h5:((b*((i+j) / 2+1):Nat):Int)<R
    ·rw [if_pos h5];rfl
    ·rw [if_neg h5,if_neg (by omega)];rfl
   rw [e2,notF,cond_true]
   refine Ans.of (r:=.inl ((((i+j) / 2+1:Nat):Int),(j:Int))) rfl ?_
   exact show k<9999∧∃ i' j':Nat,((((i+j) / 2+1:Nat):Int),(j:Int))=((i':Int),(j':Int))∧i'≤R / b∧R / b≤j'∧j'≤9999∧j'-i'+(k+1)≤9999 from ⟨by omega,_,_,rfl,key.2 hc,h2,h3,by omega⟩
  ·have e2:ltM 0 (cmp3 ((b*((i+j) / 2+1):Nat):Int) (R:Int))=true:=by
    unfold cmp3
    rw [if_neg (by omega),if_pos (by omega)];rfl
   rw [e2,notT,cond_false]
   refine Ans.of (r:=.inl ((i:Int),(((i+j) / 2:Nat):Int))) rfl ?_
   have h6:¬ (i+j) / 2+1≤R / b:=fun h=>hc (key.1 h)
   exact show k<9999∧∃ i' j':Nat,((i:Int),(((i+j) / 2:Nat):Int))=((i':Int),(j':Int))∧i'≤R / b∧R / b≤j'∧j'≤9999∧j'-i'+(k+1)≤9999 from ⟨by omega,_,_,rfl,h1,by omega,by omega,by omega⟩
 ·rw [geI (by omega),cond_false]
  refine Ans.of (r:=.inr (i:Int)) rfl ?_
  show (i:Int)=((R / b:Nat):Int)
  omega
theorem over_ok {a b:Nat} (hb:0<b) (la:(grp a).length≤400) (lb:(grp b).length≤400):m83 (grp a,grp b)=some (grp (a / b),grp (a % b)):=by
 unfold m83
 obtain ⟨L,hL⟩:∃ L,L=(grp a).length:=⟨_,rfl⟩
 have hlen:lenM (grp a)=(L:Int):=by rw [lenI,hL]
 dsimp only
 rw [hlen,mkM_of (by omega) (by omega) (by show (L:Int)*8≤_;omega),Option.bind_some,show ((L:Nat):Int).toNat=L by omega]
 have hw:IntKind.wrap .i64 ((L:Int)-1)=(L:Int)-((0:Nat):Int)-1:=by rw [wrap_in (by omega) (by omega)];omega
 rw [hw]
 refine Ans.is (Ans.bind (P:=fun o=>o.1=grp (a % b)∧okd o.2∧o.2.length=L∧vl o.2=((a / b:Nat):Int)) (Ans.loop (fun k s=>s.1=(L:Int)-(k:Int)-1∧s.2.1=grp (a / 10000 ^ (L-k) % b)∧okd s.2.2∧s.2.2.length=L∧vl s.2.2=10000 ^ (L-k)*((a / 10000 ^ (L-k) / b:Nat):Int)∧∀ j,j<L-k→s.2.2.getD j 0=0) L ⟨rfl,?_,okd_rep _,List.length_replicate,?_,?_⟩ ?_) ?_)
 ·show ([]:List Int)=_
  rw [Nat.sub_zero,hL,Nat.div_eq_of_lt (grp_lt a),Nat.zero_mod,grp_zero]
 ·show vl (List.replicate L 0)=_
  rw [Nat.sub_zero,hL,Nat.div_eq_of_lt (grp_lt a),Nat.zero_div,vl_rep];simp
 ·intro j hj
  show (List.replicate L 0).getD j 0=0
  rw [getD_in _ _ (by simp;omega)];simp
 ·rintro k ⟨i,rm,q⟩ hk ⟨h1,h2,h3,h4,h5,h6⟩
  dsimp only at h1 h2 h3 h4 h5 h6
  subst h1 h2
  by_cases hkL:k<L
  ·have hi:(L:Int)-(k:Int)-1=((L-k-1:Nat):Int):=by omega
   have hd:a / 10000 ^ (L-k)=a / 10000 ^ (L-k-1) / 10000:=by rw [← div_pow_succ,show L-k-1+1=L-k by omega]
   obtain ⟨A,hA⟩:∃ A,A=a / 10000 ^ (L-k-1):=⟨_,rfl⟩
   have hAl:(grp A).length≤400:=by rw [hA];exact Nat.le_trans (grp_len_mono (Nat.div_le_self _ _)) la
   rw [hd,← hA] at h5 ⊢
   have hrm:(grp (A / 10000 % b)).length≤400:=Nat.le_trans (grp_len_mono (Nat.le_of_lt (Nat.mod_lt _ hb))) lb
   have hRv:vl (((A % 10000:Nat):Int)::grp (A / 10000 % b))=((10000*(A / 10000 % b)+A % 10000:Nat):Int):=by rw [vl,vl_grp];omega
   obtain ⟨R,hR⟩:∃ R,R=10000*(A / 10000 % b)+A % 10000:=⟨_,rfl⟩
   have hRb:R<10000*b:=by
    have:=Nat.mod_lt (A / 10000) hb
    omega
   have hAR:A=10000*(A / 10000 / b)*b+R:=by
    have h7:=Nat.div_add_mod (A / 10000) b
    have h8:10000*(A / 10000 / b)*b=10000*(b*(A / 10000 / b)):=by rw [Nat.mul_assoc,Nat.mul_comm b]
    omega
   have hq:A / b=10000*(A / 10000 / b)+R / b:=by
    conv=>lhs;rw [hAR]
    rw [Nat.mul_comm (10000*_) b,Nat.mul_add_div hb]
   have hm:A % b=R % b:=by
    conv=>lhs;rw [hAR]
    rw [Nat.mul_comm (10000*_) b,Nat.mul_add_mod]
   have lR:(grp R).length≤500:=Nat.le_trans (grp_len_mono (show R≤10000*b by omega)) (Nat.le_trans (grp_shift_len b) (by omega))
   have hgi:idxM (grp a) ((L-k-1:Nat):Int)=some ((A % 10000:Nat):Int):=by rw [hA];exact grp_idx (by omega)
   have hst:m113 (((A % 10000:Nat):Int)::grp (A / 10000 % b))=some (grp R):=by
    rw [strip_ok (okd_cons.2 ⟨by omega,grp_okd _⟩) (by simp;omega),hRv,← hR];rfl
   have hd9:R / b≤9999:=by
    have:R / b<10000:=(Nat.div_lt_iff_lt_mul hb).2 hRb
    omega
   dsimp only
   rw [hi,leI (by omega),cond_true,hgi,Option.bind_some,appM_of (by simp;omega),Option.bind_some,List.singleton_append,hst,Option.bind_some]
   refine Ans.bind (P:=fun o=>o=((R / b:Nat):Int)) (.of (bind_of (search_ok hb hRb lb lR) rfl) rfl) ?_
   rintro ov rfl
   rw [lenI,h4,chkM_of (by omega) (by omega),Option.bind_some,setM_of (y:=((R / b:Nat):Int)) (by omega) (by rw [h4];omega) rfl,Option.bind_some,show (((L-k-1:Nat):Int)).toNat=L-k-1 by omega]
   have hsl:(q.set (L-k-1) ((R / b:Nat):Int)).length=L:=by rw [List.length_set,h4]
   rw [lenI,hsl,chkM_of (by omega) (by omega),Option.bind_some,idxM_lt (by rw [hsl];omega),Option.bind_some,List.getElem_set_self,by_ok (by omega) hd9,Option.bind_some,minus_ok (by omega) (Nat.mul_div_le R b),Option.bind_some,wrap_in (by omega) (by omega)]
   have e9:R-b*(R / b)=A % b:=by rw [hm];have:=Nat.div_add_mod R b;omega
   rw [e9]
   refine Ans.of (r:=.inl ((((L-k-1:Nat):Int)-1,grp (A % b),q.set (L-k-1) ((R / b:Nat):Int)))) rfl ?_
   refine show k<L∧((L-k-1:Nat):Int)-1=(L:Int)-((k+1:Nat):Int)-1∧grp (A % b)=grp (a / 10000 ^ (L-(k+1)) % b)∧okd (q.set (L-k-1) ((R / b:Nat):Int))∧(q.set (L-k-1) ((R / b:Nat):Int)).length=L ∧
     vl (q.set (L-k-1) ((R / b:Nat):Int))=10000 ^ (L-(k+1))*((a / 10000 ^ (L-(k+1)) / b:Nat):Int)∧∀ j,j<L-(k+1)→(q.set (L-k-1) ((R / b:Nat):Int)).getD j 0=0 from ⟨hkL,by omega,?_,okd_set h3 (nat_int hd9),hsl,?_,fun j hj=>?_⟩
   ·rw [show L-(k+1)=L-k-1 by omega,← hA]
   ·obtain ⟨m,hm'⟩:∃ m,m=L-k-1:=⟨_,rfl⟩
    rw [show L-(k+1)=L-k-1 by omega,← hA,hq,vl_set _ _ _ (by rw [h4];omega),h6 _ (by omega),h5,← hm',show L-k=m+1 by omega,Int.pow_succ,Int.mul_assoc,Int.sub_zero,← Int.mul_add,Int.natCast_add,Int.natCast_mul]
    rfl
   ·rw [List.getD_eq_getElem?_getD,List.getElem?_set_ne (by omega),← List.getD_eq_getElem?_getD]
    exact h6 j (by omega)
  ·have hk':k=L:=by omega
   subst hk'
   rw [Nat.sub_self,Nat.pow_zero,Nat.div_one] at h5 ⊢
   dsimp only
   rw [gtI (by omega),cond_false]
   refine Ans.of (r:=.inr (grp (a % b),q)) rfl ?_
   exact show grp (a % b)=grp (a % b)∧okd q∧q.length=k∧vl q=((a / b:Nat):Int) from ⟨rfl,h3,h4,by rw [h5];omega⟩
 ·rintro ⟨rm,q⟩ ⟨h1,h2,h3,h4⟩
  dsimp only at h1 h2 h3 h4
  have e:=strip_ok h2 (by omega)
  rw [h4] at e
  subst h1
  exact .of (by dsimp only;rw [e];rfl) rfl
theorem sg_sign {nx:Bool} {l:List Int} {x:Int} (h:Sg (nx,l) x):l=grp x.natAbs∧(nx=false→0≤x)∧(nx=true→x≤0):=by
 obtain ⟨h1,h2⟩:=h
 refine ⟨h1,fun e=>?_,fun e=>?_⟩
 ·by_cases h0:x=0
  ·omega
  ·have:=h2 h0
   have e':decide (x<0)=false:=by rw [← this];exact e
   have:=of_decide_eq_false e'
   omega
 ·by_cases h0:x=0
  ·omega
  ·have:=h2 h0
   have e':decide (x<0)=true:=by rw [← this];exact e
   have:=of_decide_eq_true e'
   omega
theorem sg_mk {nx:Bool} {x:Int} (h1:nx=false→0≤x) (h2:nx=true→x≤0):Sg (nx,grp x.natAbs) x:=by
 refine ⟨rfl,fun h0=>?_⟩
 cases nx
 ·exact (decide_eq_false (by have:=h1 rfl;omega)).symm
 ·exact (decide_eq_true (by have:=h2 rfl;omega)).symm
theorem splus_gen {o1 o2:Bool×List Int} {x y:Int} (h1:Sg o1 x) (h2:Sg o2 y) (hx:(grp x.natAbs).length≤400) (hy:(grp y.natAbs).length≤400):Ans (m95 ((o1.1,o1.2),o2.1,o2.2)) fun o=>Sg o (x+y):=by
 obtain ⟨nx,l⟩:=o1
 obtain ⟨ny,m⟩:=o2
 obtain ⟨rfl,a1,a2⟩:=sg_sign h1
 obtain ⟨rfl,b1,b2⟩:=sg_sign h2
 unfold m95
 dsimp only
 by_cases hs:nx=ny
 ·rw [show eqbM nx ny=true from decide_eq_true hs,cond_true,plus_ok (by omega) (by omega),Option.bind_some]
  refine .of rfl ?_
  have e:x.natAbs+y.natAbs=(x+y).natAbs:=by
   subst hs
   cases nx
   ·have:=a1 rfl;have:=b1 rfl;omega
   ·have:=a2 rfl;have:=b2 rfl;omega
  rw [e]
  subst hs
  exact sg_mk (fun e=>by have:=a1 e;have:=b1 e;omega) (fun e=>by have:=a2 e;have:=b2 e;omega)
 ·rw [show eqbM nx ny=false from decide_eq_false hs,cond_false,compare_ok (by omega) (by omega),Option.bind_some,cmp3_pos]
  have hop:(nx=false∧ny=true)∨(nx=true∧ny=false):=by cases nx<;>cases ny<;>simp at hs ⊢
  by_cases hc:y.natAbs≤x.natAbs
  ·rw [decide_eq_true (by omega),cond_true,minus_ok (by omega) hc,Option.bind_some]
   refine .of rfl ?_
   rcases hop with ⟨rfl,rfl⟩ | ⟨rfl,rfl⟩
   ·have:=a1 rfl
    have:=b2 rfl
    rw [show x.natAbs-y.natAbs=(x+y).natAbs by omega]
    exact sg_mk (fun _=>by omega) (fun e=>by cases e)
   ·have:=a2 rfl
    have:=b1 rfl
    rw [show x.natAbs-y.natAbs=(x+y).natAbs by omega]
    exact sg_mk (fun e=>by cases e) (fun _=>by omega)
  ·rw [decide_eq_false (by omega),cond_false,minus_ok (by omega) (by omega),Option.bind_some]
   refine .of rfl ?_
   rcases hop with ⟨rfl,rfl⟩ | ⟨rfl,rfl⟩
   ·have:=a1 rfl
    have:=b2 rfl
    rw [show y.natAbs-x.natAbs=(x+y).natAbs by omega]
    exact sg_mk (fun e=>by cases e) (fun _=>by omega)
   ·have:=a2 rfl
    have:=b1 rfl
    rw [show y.natAbs-x.natAbs=(x+y).natAbs by omega]
    exact sg_mk (fun _=>by omega) (fun e=>by cases e)
theorem sg_of (x:Int):Sg (decide (x<0),grp x.natAbs) x:=⟨rfl,fun _=>rfl⟩
theorem sg_neg (x:Int):Sg (PE.notM (decide (x<0)),grp x.natAbs) (-x):=by
 rw [← Int.natAbs_neg x]
 refine sg_mk (fun e=>?_) (fun e=>?_)
 ·by_cases h:x<0
  ·omega
  ·rw [decide_eq_false h] at e;cases e
 ·by_cases h:x<0
  ·rw [decide_eq_true h] at e;cases e
  ·omega
theorem isub_ok {x y:Int} (hx:Fits x) (hy:Fits y):m108 (itoa x,itoa y)=some (sn (x-y)):=by
 have h1:=fits_len hx
 have h2:=fits_len hy
 have hn:(-y).natAbs=y.natAbs:=Int.natAbs_neg y
 unfold m108
 dsimp only
 rw [both_ok hx hy,Option.bind_some,notT,cond_false]
 refine Ans.is (Ans.bind (splus_gen (sg_of x) (sg_neg y) (by omega) (by rw [hn];omega)) fun o ho=>?_)
 rw [← Int.sub_eq_add_neg] at ho
 rw [show m87 (o.1,o.2)=some (sn (x-y)) from sn_text ho (Nat.le_trans (grp_len_mono (show (x-y).natAbs≤x.natAbs+y.natAbs by omega)) (Nat.le_trans grp_add (by omega)))]
 exact .of rfl rfl
theorem igcd_loop:∀ (N a b:Nat),b≤N→(grp a).length≤400→(grp b).length≤400→loopM (fun (s:List Int×List Int)=>bif ltM 0 (lenM s.2) then (m83
 (s.1,s.2)).bind fun r=>some (Sum.inl (s.2,r.2)) else some (Sum.inr s.1)) (grp a,grp b)=some (grp (Nat.gcd a b))
 | N,a,0,_,la,lb=>by rw [loopM_eq,Nat.gcd_zero_right,grp_zero];rfl
 | 0,a,b+1,h,_,_=>absurd h (by omega)
 | N+1,a,b+1,h,la,lb=>by
  have hlt:=Nat.mod_lt a (show 0<b+1 by omega)
  have ih:=igcd_loop N (b+1) (a % (b+1)) (by omega) lb (Nat.le_trans (grp_len_mono (Nat.le_of_lt hlt)) lb)
  have hl:(grp (b+1)).length≠0:=fun e=>by have:=grp_nil.1 (List.length_eq_zero_iff.1 e);omega
  rw [loopM_eq]
  dsimp only
  rw [ltI (by rw [lenI];omega),cond_true,over_ok (by omega) la lb,Option.bind_some]
  refine Eq.trans ih ?_
  rw [Nat.gcd_comm (b+1),← Nat.gcd_rec,Nat.gcd_comm]
theorem igcd_ok {x y:Int} (hx:Fits x) (hy:Fits y):m81 (itoa x,itoa y)=some (sn ((Nat.gcd x.natAbs y.natAbs:Nat):Int)):=by
 have h1:=fits_len hx
 have h2:=fits_len hy
 have hl:(grp (Nat.gcd x.natAbs y.natAbs)).length≤400:=by
  by_cases h0:x.natAbs=0
  ·rw [h0,Nat.gcd_zero_left];omega
  ·exact Nat.le_trans (grp_len_mono (Nat.le_of_dvd (by omega) (Nat.gcd_dvd_left _ _))) (by omega)
 unfold m81
 dsimp only
 rw [both_ok hx hy,Option.bind_some,notT,cond_false]
 refine bind_of (igcd_loop _ _ _ (Nat.le_refl _) (by omega) (by omega)) ?_
 have hs:Sg (false,grp (Nat.gcd x.natAbs y.natAbs)) ((Nat.gcd x.natAbs y.natAbs:Nat):Int):=by
  have:=sg_mk (nx:=false) (x:=((Nat.gcd x.natAbs y.natAbs:Nat):Int)) (fun _=>by omega) (fun e=>by cases e)
  rwa [Int.natAbs_natCast] at this
 rw [sn_text hs (by rw [Int.natAbs_natCast];exact hl)]
 rfl
end Go.Proofs.YtechphmljdgoaaaGreatDoor
namespace Go.Proofs.YtechphmljdgoaaaGreatDoor
open Go Go.Lib Go.Abs Go.PE Go.Num
theorem ione_ok:m85 ()=some (grp 1):=by
 have e:grp 1=[1]:=by rw [grp_pos (by omega)];simp [grp_zero]
 rw [e];rfl
theorem idiv_ok {x y:Int} (hx:Fits x) (hy:Fits y) (hy0:0<y):m56 (itoa x,itoa y)=some (itoa (x / y),itoa (x % y),0):=by
 have h1:=fits_len hx
 have h2:=fits_len hy
 have hyn:0<y.natAbs:=by omega
 have hyl:(grp y.natAbs).length≠0:=fun e=>by have:=grp_nil.1 (List.length_eq_zero_iff.1 e);omega
 have hm:=Nat.mod_lt x.natAbs hyn
 have hdm:=Nat.div_add_mod x.natAbs y.natAbs
 have hql:(grp (x.natAbs / y.natAbs)).length≤50:=Nat.le_trans (grp_len_mono (Nat.div_le_self _ _)) h1
 have hQle:x.natAbs / y.natAbs≤x.natAbs:=Nat.div_le_self _ _
 have hyd:decide (y<0)=false:=decide_eq_false (by omega)
 unfold m56
 dsimp only
 rw [both_ok hx hy,Option.bind_some,notT,orF,neI (show lenM (grp y.natAbs)≠0 by rw [lenI];omega),cond_false,over_ok hyn (by omega) (by omega),Option.bind_some,hyd]
 generalize x.natAbs / y.natAbs=Q at *
 generalize x.natAbs % y.natAbs=R at *
 have hmul:((y.natAbs*(Q):Nat):Int)=y*((Q:Nat):Int):=by rw [Int.natCast_mul];congr 1;omega
 by_cases hxn:x<0
 ·rw [decide_eq_true hxn,andT]
  by_cases hr:R=0
  ·have e:x / y=-((Q:Nat):Int)∧x % y=0:=(Int.ediv_emod_unique hy0).2 ⟨by rw [Int.mul_neg,← hmul];omega,Int.le_refl _,hy0⟩
   rw [hr,grp_zero,geI (by rw [lenI];simp),cond_false,Option.bind_some]
   have t1:=sn_text (o:=(true,grp (Q))) (z:=x / y) (by rw [e.1];have:=sg_mk (nx:=true) (x:=-((Q:Nat):Int)) (fun e=>by cases e) (fun _=>by omega);rwa [Int.natAbs_neg,Int.natAbs_natCast] at this) (by rw [e.1,Int.natAbs_neg,Int.natAbs_natCast];omega)
   have f1:Fits (x / y):=by rw [e.1];unfold Fits;rw [Int.natAbs_neg,Int.natAbs_natCast];exact Nat.lt_of_le_of_lt hQle hx
   have t2:=sn_text (o:=(false,grp 0)) (z:=(0:Int)) ⟨rfl,fun h=>absurd rfl h⟩ (by rw [show (0:Int).natAbs=0 from rfl,grp_zero];simp)
   rw [grp_zero] at t2
   have g1:sn (x / y)=(itoa (x / y),0):=if_pos f1
   have g2:sn 0=(itoa 0,0):=if_pos (by decide)
   dsimp only
   rw [show PE.notM (eqbM true false)=true from rfl,t1,g1,Option.bind_some,eqI rfl,notT,cond_false,t2,g2,Option.bind_some,e.2]
  ·have hrl:(grp (R)).length≠0:=fun e=>hr (grp_nil.1 (List.length_eq_zero_iff.1 e))
   have e:x / y=-((Q+1:Nat):Int)∧x % y=((y.natAbs-R:Nat):Int):=(Int.ediv_emod_unique hy0).2 ⟨by
    rw [Int.mul_neg,Int.natCast_add,Int.mul_add,← hmul];omega,by omega,by omega⟩
   have hq1:Q+1≤x.natAbs:=by
    have h3:Q*y.natAbs+R=x.natAbs:=by rw [Nat.mul_comm];exact hdm
    have h4:Q≤Q*y.natAbs:=Nat.le_mul_of_pos_right _ hyn
    omega
   rw [ltI (show 0<lenM (grp R) by rw [lenI];omega),cond_true,ione_ok,Option.bind_some,plus_ok (by omega) (by rw [show grp 1=[1] from by rw [grp_pos (by omega)];simp [grp_zero]];simp),Option.bind_some,minus_ok (by omega) (Nat.le_of_lt hm),Option.bind_some,Option.bind_some]
   have t1:=sn_text (o:=(true,grp (Q+1))) (z:=x / y) (by rw [e.1];have:=sg_mk (nx:=true) (x:=-((Q+1:Nat):Int)) (fun e=>by cases e) (fun _=>by omega);rwa [Int.natAbs_neg,Int.natAbs_natCast] at this) (by rw [e.1,Int.natAbs_neg,Int.natAbs_natCast];exact Nat.le_trans (grp_len_mono hq1) (by omega))
   have f1:Fits (x / y):=by rw [e.1];unfold Fits;rw [Int.natAbs_neg,Int.natAbs_natCast];exact Nat.lt_of_le_of_lt hq1 hx
   have t2:=sn_text (o:=(false,grp (y.natAbs-R))) (z:=x % y) (by rw [e.2];have:=sg_mk (nx:=false) (x:=((y.natAbs-R:Nat):Int)) (fun _=>by omega) (fun e=>by cases e);rwa [Int.natAbs_natCast] at this) (by rw [e.2,Int.natAbs_natCast];exact Nat.le_trans (grp_len_mono (Nat.sub_le _ _)) (by omega))
   have f2:Fits (x % y):=by rw [e.2];unfold Fits;rw [Int.natAbs_natCast];exact Nat.lt_of_le_of_lt (Nat.sub_le _ _) hy
   have g1:sn (x / y)=(itoa (x / y),0):=if_pos f1
   have g2:sn (x % y)=(itoa (x % y),0):=if_pos f2
   dsimp only
   rw [show PE.notM (eqbM true false)=true from rfl,t1,g1,Option.bind_some,eqI rfl,notT,cond_false,t2,g2,Option.bind_some]
 ·have e:x / y=((Q:Nat):Int)∧x % y=((R:Nat):Int):=(Int.ediv_emod_unique hy0).2 ⟨by rw [← hmul];omega,by omega,by omega⟩
  rw [decide_eq_false hxn,andF,cond_false,Option.bind_some]
  have t1:=sn_text (o:=(false,grp (Q))) (z:=x / y) (by rw [e.1];have:=sg_mk (nx:=false) (x:=((Q:Nat):Int)) (fun _=>by omega) (fun e=>by cases e);rwa [Int.natAbs_natCast] at this) (by rw [e.1,Int.natAbs_natCast];omega)
  have f1:Fits (x / y):=by rw [e.1];unfold Fits;rw [Int.natAbs_natCast];exact Nat.lt_of_le_of_lt hQle hx
  have t2:=sn_text (o:=(false,grp (R))) (z:=x % y) (by rw [e.2];have:=sg_mk (nx:=false) (x:=((R:Nat):Int)) (fun _=>by omega) (fun e=>by cases e);rwa [Int.natAbs_natCast] at this) (by rw [e.2,Int.natAbs_natCast];exact Nat.le_trans (grp_len_mono (Nat.le_of_lt hm)) (by omega))
  have f2:Fits (x % y):=by rw [e.2];unfold Fits;rw [Int.natAbs_natCast];exact Nat.lt_trans hm hy
  have g1:sn (x / y)=(itoa (x / y),0):=if_pos f1
  have g2:sn (x % y)=(itoa (x % y),0):=if_pos f2
  dsimp only
  rw [show PE.notM (eqbM false false)=false from rfl,t1,g1,Option.bind_some,eqI rfl,notT,cond_false,t2,g2,Option.bind_some]
end Go.Proofs.YtechphmljdgoaaaGreatDoor
namespace Go.Proofs.YtechphmljdgoaaaGreatDoor
open Go Go.Lib Go.Abs Go.PE Go.Num
def rt (q:Rat):List UInt8×List UInt8:=(itoa q.num,itoa (q.den:Int))
def FitsR (q:Rat):Prop:=Fits q.num∧Fits (q.den:Int)
noncomputable def redE (n d:List UInt8) (bad:Bool):Option ((List UInt8×List UInt8)×Int) :=
 (bif PE.orM bad (eqsM d [(48:UInt8)]) then some ([],[],40,bad) else ((m57 (d,[(48:UInt8)])).bind fun r=>bif ltM r 0 then (bif bad then some ([],bad) else (m108 ([(48:UInt8)],
 n)).bind fun r=>some (r.1,PE.notM (eqM r.2 0))).bind fun (ov_4:List UInt8×Bool)=>(bif ov_4.2 then some ([],ov_4.2) else (m108 ([(48:UInt8)],
 d)).bind fun r=>some (r.1,PE.notM (eqM r.2 0))).bind fun (ov:List UInt8×Bool)=>some (ov_4.1,ov.1,ov.2) else some (n,d,
 bad)).bind fun o_1=>(bif o_1.2.2 then some ([],o_1.2.2) else (m81 (o_1.1,o_1.2.1)).bind fun r=>some (r.1,PE.notM (eqM r.2 0))).bind fun (ov_4 :
 List UInt8×Bool)=>(bif ov_4.2 then some ([],ov_4.2) else (m133 (o_1.1,ov_4.1)).bind fun r=>some (r.1,PE.notM (eqM r.2 0))).bind fun (ov_5:List
 UInt8×Bool)=>(bif ov_5.2 then some ([],ov_5.2) else (m133 (o_1.2.1,ov_4.1)).bind fun r=>some (r.1,PE.notM (eqM r.2 0))).bind fun (ov:List UInt8 ×
 Bool)=>bif ov.2 then some ([],[],40,ov.2) else some (ov_5.1,ov.1,0,ov.2)).bind fun (ov:List UInt8×List UInt8×Int×Bool)=>some ((ov.1,
 ov.2.1),ov.2.2.1)
theorem sn_fit {z:Int} (h:Fits z):sn z=(itoa z,0):=if_pos h
theorem fits_neg {z:Int} (h:Fits z):Fits (-z):=by unfold Fits at *;rwa [Int.natAbs_neg]
theorem fits_zero:Fits 0:=by decide
theorem quot_ok {x y:Int} (hx:Fits x) (hy:Fits y) (hy0:0<y):m133 (itoa x,itoa y)=some (itoa (x / y),0):=by
 unfold m133
 dsimp only
 rw [idiv_ok hx hy hy0];rfl
theorem redE_pos {n d:Int} (hn:Fits n) (hd:Fits d) (h0:0<d):(bif false then some (([]:List UInt8),false) else (m81 (itoa n,itoa d)).bind fun r=>some (r.1,PE.notM (eqM r.2 0)))=some (itoa ((Int.gcd d n:Nat):Int),false):=by
 have hg:Fits ((Nat.gcd n.natAbs d.natAbs:Nat):Int):=by
  unfold Fits
  rw [Int.natAbs_natCast]
  exact Nat.lt_of_le_of_lt (Nat.le_of_dvd (by omega) (Nat.gcd_dvd_right _ _)) hd
 rw [cond_false,igcd_ok hn hd,Option.bind_some,sn_fit hg,eqI rfl,notT,Nat.gcd_comm];rfl
theorem redE_ok {n d:Int} (hn:Fits n) (hd:Fits d) (h0:d≠0):redE (itoa n) (itoa d) false=some (rt (Rat.divInt n d),0):=by
 have hq:(Rat.divInt n d).num=d.sign*n / ((Int.gcd d n:Nat):Int)∧(((Rat.divInt n d).den:Nat):Int)=d.sign*d / ((Int.gcd d n:Nat):Int):=by
  refine ⟨Rat.num_divInt n d,?_⟩
  have hsn:d.sign*d=(d.natAbs:Int):=by
   by_cases h:d<0
   ·rw [Int.sign_eq_neg_one_of_neg h];omega
   ·rw [Int.sign_eq_one_of_pos (by omega)];omega
  rw [Rat.den_divInt,if_neg h0,hsn,Int.natCast_ediv]
 have hgp:(0:Int)<((Int.gcd d n:Nat):Int):=by
  have:=Int.gcd_pos_of_ne_zero_left n h0
  omega
 have hgf:Fits ((Int.gcd d n:Nat):Int):=by
  unfold Fits
  rw [Int.natAbs_natCast]
  exact Nat.lt_of_le_of_lt (Nat.le_of_dvd (by omega) (Nat.gcd_dvd_left _ _)) hd
 unfold redE rt
 rw [eqsF (fun e=>h0 (itoa_eq0.1 e)),orF,cond_false,← itoa_zero,icmp_ok hd fits_zero,Option.bind_some]
 by_cases hneg:d<0
 ·have hs:d.sign=-1:=Int.sign_eq_neg_one_of_neg hneg
  have e1:ltM (cmp3 d 0) 0=true:=by unfold cmp3;rw [if_pos hneg];rfl
  rw [e1,cond_true,cond_false,isub_ok fits_zero hn,Option.bind_some,Int.zero_sub,sn_fit (fits_neg hn),eqI rfl,notT,Option.bind_some,cond_false,isub_ok fits_zero hd,Option.bind_some,Int.zero_sub,sn_fit (fits_neg hd),eqI rfl,notT,Option.bind_some,Option.bind_some]
  dsimp only
  rw [redE_pos (fits_neg hn) (fits_neg hd) (by omega),Option.bind_some]
  have eg:Int.gcd (-d) (-n)=Int.gcd d n:=by unfold Int.gcd;rw [Int.natAbs_neg,Int.natAbs_neg]
  rw [eg,cond_false,quot_ok (fits_neg hn) hgf hgp,Option.bind_some,eqI rfl,notT,Option.bind_some,cond_false,quot_ok (fits_neg hd) hgf hgp,Option.bind_some,eqI rfl,notT,Option.bind_some,cond_false,Option.bind_some,hq.1,hq.2,hs]
  simp only [Int.neg_mul,Int.one_mul]
 ·have hs:d.sign=1:=Int.sign_eq_one_of_pos (by omega)
  have e1:ltM (cmp3 d 0) 0=false:=by unfold cmp3;rw [if_neg hneg,if_pos (by omega)];rfl
  rw [e1,cond_false,Option.bind_some]
  dsimp only
  rw [redE_pos hn hd (by omega),Option.bind_some,cond_false,quot_ok hn hgf hgp,Option.bind_some,eqI rfl,notT,Option.bind_some,cond_false,quot_ok hd hgf hgp,Option.bind_some,eqI rfl,notT,Option.bind_some,cond_false,Option.bind_some,hq.1,hq.2,hs]
  simp only [Int.one_mul]
theorem ivalid2_ok {z:Int} (h:Fits z):m80 (itoa z)=some true:=by
 unfold m80
 rw [ivalid_ok h];rfl
theorem of_ok {n d:Int} (hn:Fits n) (hd:Fits d) (h0:d≠0):m25 (n,d)=some (rt (Rat.divInt n d),0):=by
 unfold m25
 dsimp only
 rw [show m59 n=some (itoa n) from rfl,show m59 d=some (itoa d) from rfl,Option.bind_some,Option.bind_some]
 unfold m58
 dsimp only
 rw [ivalid2_ok hn,Option.bind_some,notT,notF,cond_true,ivalid2_ok hd,Option.bind_some,notT,show PE.orM false false=false from rfl]
 have:=redE_ok hn hd h0
 unfold redE at this
 rw [this];rfl
theorem rvalid_ok {q:Rat} (h:FitsR q):m55 (rt q)=some true:=by
 have hd:(0:Int)<(q.den:Int):=by have:=q.den_nz;omega
 unfold m55 rt
 dsimp only
 rw [ivalid2_ok h.1,Option.bind_some,notT,notF,cond_true,ivalid2_ok h.2,Option.bind_some,notT,orF,notF,cond_true,← itoa_zero,icmp_ok h.2 fits_zero,Option.bind_some,orF]
 have e1:leM (cmp3 (q.den:Int) 0) 0=false:=by unfold cmp3;rw [if_neg (by omega),if_pos hd];rfl
 have hg:Nat.gcd q.num.natAbs (q.den:Int).natAbs=1:=by rw [Int.natAbs_natCast];exact q.reduced
 rw [e1,cond_false,igcd_ok h.1 h.2,Option.bind_some,hg,sn_fit (by decide),eqI rfl,andT,eqsT (by show itoa ((1:Nat):Int)=_;rw [itoa_nn,decDigits_one (by omega)];rfl)]
theorem check_ok {p q:Rat} (hp:FitsR p) (hq:FitsR q):loopM (fun (s:Int×Bool)=>bif ltM s.1 (lenM [((rt p).1,(rt p).2),((rt q).1,(rt q).2)]) then (idxM [((rt p).1,(rt p).2),((rt q).1,(rt q).2)] s.1).bind fun r=>(bif
 PE.notM s.2 then m55 (r.1,r.2) else some false).bind fun r=>some (Sum.inl (IntKind.wrap .i64 (s.1+1),PE.orM s.2 (PE.notM r))) else some (Sum.inr s.2))
 (0,false)=some false:=by
 refine loopM_fn (fun k=>((k:Int),false)) 2 (fun k hk=>?_) rfl
 rcases (show k=0∨k=1 by omega) with rfl | rfl
 ·have:=rvalid_ok hp
  show ((some ((rt p).1,(rt p).2)).bind fun r=>(bif PE.notM false then m55 (r.1,r.2) else some false).bind fun r=>some (Sum.inl (IntKind.wrap .i64 (((0:Nat):Int)+1),PE.orM false (PE.notM r))))=_
  rw [Option.bind_some,notF,cond_true,show m55 ((rt p).1,(rt p).2)=some true from this,Option.bind_some,wrap_in (by omega) (by omega)];rfl
 ·have:=rvalid_ok hq
  show ((some ((rt q).1,(rt q).2)).bind fun r=>(bif PE.notM false then m55 (r.1,r.2) else some false).bind fun r=>some (Sum.inl (IntKind.wrap .i64 (((1:Nat):Int)+1),PE.orM false (PE.notM r))))=_
  rw [Option.bind_some,notF,cond_true,show m55 ((rt q).1,(rt q).2)=some true from this,Option.bind_some,wrap_in (by omega) (by omega)];rfl
theorem radd_ok {p q:Rat} (hp:FitsR p) (hq:FitsR q) (h1:Fits (p.num*q.den)) (h2:Fits (q.num*p.den)) (h3:Fits (p.num*q.den+q.num*p.den)) (h4:Fits ((p.den:Int)*q.den)):m49 (rt p,rt q)=some (rt (p+q),0):=by
 have hd:(p.den:Int)*q.den≠0:=Int.mul_ne_zero (by have:=p.den_nz;omega) (by have:=q.den_nz;omega)
 have e:p+q=Rat.divInt (p.num*q.den+q.num*p.den) ((p.den:Int)*q.den):=by rw [Rat.add_def',← Rat.divInt_ofNat,Int.natCast_mul]
 have key:=redE_ok h3 h4 hd
 unfold m49
 dsimp only
 rw [check_ok hp hq,Option.bind_some,cond_false]
 unfold rt
 dsimp only
 rw [imul_ok hp.1 hq.2,Option.bind_some,sn_fit h1,eqI rfl,notT,Option.bind_some,Option.bind_some,cond_false,imul_ok hq.1 hp.2,Option.bind_some,sn_fit h2,eqI rfl,notT,Option.bind_some,Option.bind_some,cond_false,iadd_ok h1 h2,Option.bind_some,sn_fit h3,eqI rfl,notT,Option.bind_some,cond_false,imul_ok hp.2 hq.2,Option.bind_some,sn_fit h4,eqI rfl,notT,Option.bind_some]
 unfold redE at key
 rw [e]
 exact key
end Go.Proofs.YtechphmljdgoaaaGreatDoor
namespace Go.Proofs.YtechphmljdgoaaaGreatDoor
open Go Go.Lib Go.Abs Go.PE Go.Num
open Go.IntKind (wrap)
abbrev CSt:=Int×List UInt8×List UInt8×List UInt8×List UInt8
noncomputable def cmpB (s:CSt):Option (CSt⊕CSt):=(m56 (s.2.1,s.2.2.1)).bind fun r =>
 (m56 (s.2.2.2.1,s.2.2.2.2)).bind fun r_1=>(m57 (r.1,r_1.1)).bind fun r_2=>bif PE.notM (eqM r_2 0) then some (Sum.inr (wrap .i64 (s.1*r_2),
 s.2.1,s.2.2.1,s.2.2.2.1,s.2.2.2.2)) else bif PE.andM (eqsM r.2.1 [(48:UInt8)]) (eqsM r_1.2.1 [(48:UInt8)]) then some (Sum.inr (0,s.2.1,s.2.2.1,
 s.2.2.2.1,s.2.2.2.2)) else bif eqsM r.2.1 [(48:UInt8)] then some (Sum.inr (wrap .i64 (negM s.1),s.2.1,s.2.2.1,s.2.2.2.1,s.2.2.2.2)) else bif
 eqsM r_1.2.1 [(48:UInt8)] then some (Sum.inr (s.1,s.2.1,s.2.2.1,s.2.2.2.1,s.2.2.2.2)) else some (Sum.inl (wrap .i64 (negM s.1),s.2.2.1,r.2.1,
 s.2.2.2.2,r_1.2.1))
def cst (g a b c d:Int):CSt:=(g,itoa a,itoa b,itoa c,itoa d)
theorem cmp3_lt {x y:Int} (h:x<y):cmp3 x y=-1:=if_pos h
theorem cmp3_gt {x y:Int} (h:y<x):cmp3 x y=1:=by unfold cmp3;rw [if_neg (by omega),if_pos h]
theorem cmp3_eq {x y:Int} (h:x=y):cmp3 x y=0:=by unfold cmp3;rw [if_neg (by omega),if_neg (by omega)]
theorem cmp3_bd (x y:Int):cmp3 x y=-1∨cmp3 x y=0∨cmp3 x y=1:=by
 rcases Int.lt_trichotomy x y with h | h | h
 ·exact .inl (cmp3_lt h)
 ·exact .inr (.inl (cmp3_eq h))
 ·exact .inr (.inr (cmp3_gt h))
theorem cmp3_neg (x y:Int):cmp3 y x=- cmp3 x y:=by
 rcases Int.lt_trichotomy x y with h | h | h
 ·rw [cmp3_lt h,cmp3_gt h];rfl
 ·rw [cmp3_eq h,cmp3_eq h.symm];rfl
 ·rw [cmp3_lt h,cmp3_gt h]
theorem cmp3_sub {x y z w:Int} (h:x-y=z-w):cmp3 x y=cmp3 z w:=by
 rcases Int.lt_trichotomy x y with q | q | q
 ·rw [cmp3_lt q,cmp3_lt (by omega)]
 ·rw [cmp3_eq q,cmp3_eq (by omega)]
 ·rw [cmp3_gt q,cmp3_gt (by omega)]
theorem cmp3_whole {a b c d:Int} (hb:0<b) (hd:0<d) (h:a / b≠c / d):cmp3 (a*d) (c*b)=cmp3 (a / b) (c / d):=by
 have ea:=Int.mul_ediv_add_emod a b
 have ec:=Int.mul_ediv_add_emod c d
 have a0:=Int.emod_nonneg a (show b≠0 by omega)
 have a1:=Int.emod_lt_of_pos a hb
 have c0:=Int.emod_nonneg c (show d≠0 by omega)
 have c1:=Int.emod_lt_of_pos c hd
 generalize a / b=p at *
 generalize a % b=r at *
 generalize c / d=q at *
 generalize c % d=s at *
 subst ea ec
 have key:(b*p+r)*d-(d*q+s)*b=(b*d)*(p-q)+(r*d-s*b):=by grind
 have hbd:=Int.mul_pos hb hd
 have k1:=Int.mul_nonneg a0 (show 0≤d by omega)
 have k2:=Int.mul_lt_mul_of_pos_right a1 hd
 have k3:=Int.mul_nonneg c0 (show 0≤b by omega)
 have k4:=Int.mul_lt_mul_of_pos_right c1 hb
 have k5:d*b=b*d:=Int.mul_comm _ _
 rcases Int.lt_trichotomy p q with h1 | h1 | h1
 ·have:=Int.mul_le_mul_of_nonneg_left (show p-q≤-1 by omega) (show 0≤b*d by omega)
  rw [cmp3_lt h1,cmp3_lt (by omega)]
 ·exact absurd h1 h
 ·have:=Int.mul_le_mul_of_nonneg_left (show 1≤p-q by omega) (show 0≤b*d by omega)
  rw [cmp3_gt h1,cmp3_gt (by omega)]
theorem cmp3_rest {a b c d:Int} (h:a / b=c / d):cmp3 (a*d) (c*b)=cmp3 (a % b*d) (c % d*b):=by
 have ea:=Int.mul_ediv_add_emod a b
 have ec:=Int.mul_ediv_add_emod c d
 rw [← h] at ec
 clear h
 generalize a / b=p at *
 generalize a % b=r at *
 generalize c % d=s at *
 subst ea ec
 refine cmp3_sub ?_
 grind
theorem fits_mod {a b:Int} (hb:0<b) (h:Fits b):Fits (a % b):=by
 have a0:=Int.emod_nonneg a (show b≠0 by omega)
 have a1:=Int.emod_lt_of_pos a hb
 unfold Fits at *
 omega
theorem fits_div {a b:Int} (h:Fits a):Fits (a / b):=by
 unfold Fits at *
 exact Nat.lt_of_le_of_lt (Int.natAbs_ediv_le_natAbs a b) h
theorem cmpB_ok {g a b c d:Int} (hg:g=1∨g=-1) (ha:Fits a) (hb:Fits b) (hc:Fits c) (hd:Fits d) (b0:0<b) (d0:0<d) :
  (∃ s:CSt,cmpB (cst g a b c d)=some (.inr s)∧s.1=g*cmp3 (a*d) (c*b))∨(0<a % b∧0<c % d∧cmpB (cst g a b c d)=some (.inl (cst (-g) b (a % b) d (c % d)))∧g*cmp3 (a*d) (c*b)=-g*cmp3 (b*(c % d)) (d*(a % b))):=by
 have fr:=fits_mod (a:=a) b0 hb
 have fs:=fits_mod (a:=c) d0 hd
 have r0:=Int.emod_nonneg a (show b≠0 by omega)
 have s0:=Int.emod_nonneg c (show d≠0 by omega)
 have hw:=fun z=>cmp3_bd z
 unfold cmpB cst
 dsimp only
 rw [idiv_ok ha hb b0,Option.bind_some,idiv_ok hc hd d0,Option.bind_some]
 dsimp only
 rw [icmp_ok (fits_div ha) (fits_div hc),Option.bind_some]
 by_cases hpq:a / b=c / d
 ·have hx:=cmp3_rest hpq
  rw [cmp3_eq hpq,eqI rfl,notT,cond_false]
  by_cases hr:a % b=0
  ·rw [hr,Int.zero_mul] at hx
   rw [hr,eqsT itoa_zero]
   by_cases hs:c % d=0
   ·rw [hs,Int.zero_mul] at hx
    rw [hs,eqsT itoa_zero,andT,cond_true]
    exact .inl ⟨_,rfl,by rw [hx,cmp3_eq rfl,Int.mul_zero]⟩
   ·have hsp:0<c % d:=by omega
    rw [eqsF (fun e=>hs (itoa_eq0.1 e)),andT,cond_false,cond_true]
    refine .inl ⟨_,rfl,?_⟩
    rw [hx,cmp3_lt (Int.mul_pos hsp b0)]
    rcases hg with rfl | rfl<;>rfl
  ·have hrp:0<a % b:=by omega
   rw [eqsF (fun e=>hr (itoa_eq0.1 e)),andF,cond_false,cond_false]
   by_cases hs:c % d=0
   ·rw [hs,Int.zero_mul] at hx
    rw [hs,eqsT itoa_zero,cond_true]
    refine .inl ⟨_,rfl,?_⟩
    rw [hx,cmp3_gt (Int.mul_pos hrp d0),Int.mul_one]
   ·have hsp:0<c % d:=by omega
    rw [eqsF (fun e=>hs (itoa_eq0.1 e)),cond_false]
    refine .inr ⟨hrp,hsp,?_,?_⟩
    ·have:wrap .i64 (negM g)=-g:=by rcases hg with rfl | rfl<;>rfl
     rw [this]
    ·have e:=cmp3_neg (b*(c % d)) (d*(a % b))
     rw [hx,Int.mul_comm (a % b) d,Int.mul_comm (c % d) b,e]
     grind
 ·rw [cmp3_whole b0 d0 hpq]
  have h3:=cmp3_bd (a / b) (c / d)
  have hn:cmp3 (a / b) (c / d)≠0:=by
   rcases Int.lt_trichotomy (a / b) (c / d) with h | h | h
   ·rw [cmp3_lt h];decide
   ·exact absurd h hpq
   ·rw [cmp3_gt h];decide
  rw [neI hn,notF,cond_true]
  refine .inl ⟨_,rfl,?_⟩
  show wrap .i64 (g*_)=_
  rw [wrap_in]
  ·rcases hg with rfl | rfl<;>rcases h3 with h | h | h<;>rw [h]<;>decide
  ·rcases hg with rfl | rfl<;>rcases h3 with h | h | h<;>rw [h]<;>decide
theorem cmp_loop:∀ (n:Nat) {g a b c d:Int},(g=1∨g=-1)→Fits a→Fits b→Fits c→Fits d→0<b→0<d→b.toNat≤n→∃ s:CSt,loopM cmpB (cst g a b c d)=some s∧s.1=g*cmp3 (a*d) (c*b)
 | 0,g,a,b,c,d,_,_,_,_,_,hb,_,hn=>by omega
 | n+1,g,a,b,c,d,hg,fa,fb,fc,fd,hb,hd,hn=>by
  rcases cmpB_ok hg fa fb fc fd hb hd with ⟨s,h1,h2⟩ | ⟨hr,hs,h1,h2⟩
  ·exact ⟨s,by rw [loopM_eq,h1];rfl,h2⟩
  ·have hl:=Int.emod_lt_of_pos a hb
   obtain ⟨s,e1,e2⟩:=cmp_loop n (g:=-g) (a:=b) (b:=a % b) (c:=d) (d:=c % d) (by omega) fb (fits_mod hb fb) fd (fits_mod hd fd) hr hs (by omega)
   exact ⟨s,by rw [loopM_eq,h1];exact e1,by rw [e2,h2]⟩
theorem rcmp_ok {p q:Rat} (hp:FitsR p) (hq:FitsR q):m24 (rt p,rt q)=some (cmp3 (p.num*q.den) (q.num*p.den)):=by
 have h1:(0:Int)<(p.den:Int):=by have:=p.den_nz;omega
 have h2:(0:Int)<(q.den:Int):=by have:=q.den_nz;omega
 obtain ⟨s,e1,e2⟩:=cmp_loop _ (g:=1) (.inl rfl) hp.1 hp.2 hq.1 hq.2 h1 h2 (Nat.le_refl _)
 rw [loopM_eq] at e1
 have v1:m55 ((rt p).1,(rt p).2)=some true:=rvalid_ok hp
 have v2:m55 ((rt q).1,(rt q).2)=some true:=rvalid_ok hq
 unfold m24
 dsimp only
 rw [v1,Option.bind_some,notT,notF,cond_true,v2,Option.bind_some,notT,orF,cond_false]
 refine bind_of (x:=s) ?_ (by rw [e2,Int.one_mul])
 exact e1
end Go.Proofs.YtechphmljdgoaaaGreatDoor
namespace Go.Proofs.YtechphmljdgoaaaGreatDoor
open Go Go.Abs Go.PE Go.Num
open Go.IntKind (wrap)
theorem Dn.fits {D B:Nat} {q:Rat} (h:Dn D B q) (hD:0<D) (h1:D<10 ^ 200) (h2:B*D<10 ^ 200):FitsR q:=by
 obtain ⟨a,b⟩:=h.num_den hD
 refine ⟨Nat.lt_of_le_of_lt b h2,?_⟩
 unfold Fits
 rw [Int.natAbs_natCast]
 exact Nat.lt_of_le_of_lt a h1
theorem Dn.fits2 {D B C:Nat} {q:Rat} (h:Dn D B q) (hD:0<D) (hBC:B≤C) (h2:(C+1)*(D*D)<10 ^ 200):FitsR q:=by
 have h1:D≤(C+1)*(D*D):=Nat.le_trans (Nat.le_mul_of_pos_right D hD) (Nat.le_mul_of_pos_left _ (by omega))
 have h3:B*D≤(C+1)*(D*D):=Nat.mul_le_mul (by omega) (Nat.le_mul_of_pos_right D hD)
 exact h.fits hD (Nat.lt_of_le_of_lt h1 h2) (Nat.lt_of_le_of_lt h3 h2)
theorem radd_dn {D B C E:Nat} {p q:Rat} (hp:Dn D B p) (hq:Dn D C q) (hD:0<D) (hE:B+C≤E) (h2:(E+1)*(D*D)<10 ^ 200):m49 (rt p,rt q)=some (rt (p+q),0):=by
 obtain ⟨a1,a2⟩:=hp.num_den hD
 obtain ⟨b1,b2⟩:=hq.num_den hD
 have m1:p.num.natAbs*q.den≤B*(D*D):=by rw [← Nat.mul_assoc];exact Nat.mul_le_mul a2 b1
 have m2:q.num.natAbs*p.den≤C*(D*D):=by rw [← Nat.mul_assoc];exact Nat.mul_le_mul b2 a1
 have m3:p.den*q.den≤D*D:=Nat.mul_le_mul a1 b1
 have mm:B*(D*D)+C*(D*D)≤E*(D*D):=by rw [← Nat.add_mul];exact Nat.mul_le_mul_right _ hE
 have e:(E+1)*(D*D)=E*(D*D)+D*D:=by rw [Nat.add_mul,Nat.one_mul]
 have e1:(p.num*(q.den:Int)).natAbs=p.num.natAbs*q.den:=by rw [Int.natAbs_mul,Int.natAbs_natCast]
 have e2:(q.num*(p.den:Int)).natAbs=q.num.natAbs*p.den:=by rw [Int.natAbs_mul,Int.natAbs_natCast]
 refine radd_ok (hp.fits2 hD (C:=E) (by omega) h2) (hq.fits2 hD (C:=E) (by omega) h2) ?_ ?_ ?_ ?_
 ·unfold Fits;rw [e1];omega
 ·unfold Fits;rw [e2];omega
 ·unfold Fits
  have:=Int.natAbs_add_le (p.num*(q.den:Int)) (q.num*(p.den:Int))
  omega
 ·unfold Fits;rw [Int.natAbs_mul,Int.natAbs_natCast,Int.natAbs_natCast];omega
def LL:Nat:=69720375229712477164533808935312303556800
def DA:Nat:=2*(LL*LL)
theorem LL_dvd:∀ x:Nat,x<101→0<x→LL % x=0:=by decide
theorem DA_dvd {x y:Int} (hx:0<x) (hx2:x≤100) (hy:0<y) (hy2:y≤100):2*x*y ∣ (DA:Int):=by
 have d:∀ z:Int,0<z→z≤100→z ∣ (LL:Int):=fun z h1 h2=>by
  have:=LL_dvd z.toNat (by omega) (by omega)
  have h3:((z.toNat:Nat):Int) ∣ (LL:Int):=Int.natCast_dvd_natCast.2 (Nat.dvd_of_mod_eq_zero this)
  rwa [show ((z.toNat:Nat):Int)=z by omega] at h3
 have e:(DA:Int)=2*(LL:Int)*(LL:Int):=by unfold DA;rw [Int.natCast_mul,Int.natCast_mul,Int.mul_assoc];rfl
 rw [e]
 exact Int.mul_dvd_mul (Int.mul_dvd_mul (Int.dvd_refl _) (d x hx hx2)) (d y hy hy2)
theorem DA_pos:0<DA:=by decide
theorem DA_fit:(1000+1)*(DA*DA)<10 ^ 200:=by decide
noncomputable def abvT (n:Int) (l:List Int) (s:List UInt8×List UInt8):Option (List UInt8×List UInt8):=(sortI l).bind fun r_3=>(chkM 0 (lenM r_3)).bind fun r_4=>(idxM r_3 0).bind fun r_5=>bif ltM n r_5 then (m25 (1,2)).bind fun r_6=>(m49
 ((s.1,s.2),r_6.1.1,r_6.1.2)).bind fun r=>some (r.1.1,r.1.2) else (chkM 1 (lenM r_3)).bind fun r_6=>(idxM r_3 1).bind fun r_7=>bif ltM n r_7 then
 (m25 (1,2)).bind fun r_8=>(m49 ((s.1,s.2),r_8.1.1,r_8.1.2)).bind fun r_9=>(chkM 0 (lenM r_3)).bind fun r_10=>(idxM r_3 0).bind fun
 r_11=>(chkM 0 (lenM r_3)).bind fun r_12=>(idxM r_3 0).bind fun r_13=>(chkM 1 (lenM r_3)).bind fun r_14=>(idxM r_3 1).bind fun r_15=>(chkM 0 (lenM r_3)).bind
 fun r_16=>(idxM r_3 0).bind fun r_17=>(chkM 2 (lenM r_3)).bind fun r_18=>(idxM r_3 2).bind fun r_19=>(chkM 0 (lenM r_3)).bind fun r_20=>(idxM r_3 0).bind fun
 r_21=>(m25 (wrap .i64 (wrap .i64 (negM (wrap .i64 (n-r_11)))*wrap .i64 (n-r_13)),wrap .i64 (wrap .i64 (2
 * wrap .i64 (r_15-r_17))*wrap .i64 (r_19-r_21)))).bind fun r_22=>(m49 ((r_9.1.1,r_9.1.2),r_22.1.1,r_22.1.2)).bind fun r=>some
 (r.1.1,r.1.2) else (chkM 2 (lenM r_3)).bind fun r_8=>(idxM r_3 2).bind fun r_9=>bif ltM n r_9 then (chkM 2 (lenM r_3)).bind fun r_10=>(idxM r_3 2).bind fun r_11
 => (chkM 2 (lenM r_3)).bind fun r_12=>(idxM r_3 2).bind fun r_13=>(chkM 2 (lenM r_3)).bind fun r_14=>(idxM r_3 2).bind fun r_15=>(chkM 0 (lenM r_3)).bind fun
 r_16=>(idxM r_3 0).bind fun r_17=>(chkM 2 (lenM r_3)).bind fun r_18=>(idxM r_3 2).bind fun r_19=>(chkM 1 (lenM r_3)).bind fun r_20=>(idxM r_3 1).bind fun r_21
 => (m25 (wrap .i64 (wrap .i64 (r_11-n)*wrap .i64 (r_13-n)),wrap .i64 (wrap .i64 (2*wrap .i64 (r_15 -
 r_17))*wrap .i64 (r_19-r_21)))).bind fun r_22=>(m49 ((s.1,s.2),r_22.1.1,r_22.1.2)).bind fun r=>some (r.1.1,r.1.2) else some (s.1,s.2)
noncomputable def abvE (W H:Int) (L:List Int) (n:Int):Option (List UInt8×List UInt8):=(m25 (0,1)).bind fun r_2=>(loopM (fun (s:Int×List UInt8×List UInt8)=>bif ltM s.1 H then (loopM (fun (s_1:Int×List UInt8×List UInt8)=>bif
 ltM s_1.1 W then (((idxM L (wrap .i64 (wrap .i64 (s.1*wrap .i64 (W+1))+s_1.1))).bind fun r=>some r).bind fun (ov:Int)=>((idxM L (wrap
 IntKind.i64 (wrap .i64 (s.1*wrap .i64 (W+1))+wrap .i64 (s_1.1+1)))).bind fun r=>some r).bind fun (ov_1:Int)=>((idxM L (wrap
 IntKind.i64 (wrap .i64 (wrap .i64 (s.1+1)*wrap .i64 (W+1))+wrap .i64 (s_1.1+1)))).bind fun r=>some r).bind fun (ov_2:Int) =>
 abvT n [ov,ov_1,ov_2] (s_1.2.1,s_1.2.2)).bind fun o=>(((idxM L (wrap .i64 (wrap .i64 (s.1*wrap .i64 (W+1))+s_1.1))).bind fun r=>some
 r).bind fun (ov:Int)=>((idxM L (wrap .i64 (wrap .i64 (wrap .i64 (s.1+1)*wrap .i64 (W+1))+wrap .i64 (s_1.1+1)))).bind
 fun r=>some r).bind fun (ov_1:Int)=>((idxM L (wrap .i64 (wrap .i64 (wrap .i64 (s.1+1)*wrap .i64 (W+1))+s_1.1))).bind fun r =>
 some r).bind fun (ov_2:Int)=>abvT n [ov,ov_1,ov_2] (o.1,o.2)).bind fun o=>some (Sum.inl (wrap .i64 (s_1.1+1),o.1,o.2)) else some (Sum.inr (s_1.2.1,
 s_1.2.2))) (0,s.2.1,s.2.2)).bind fun o=>some (Sum.inl (wrap .i64 (s.1+1),o.1,o.2)) else some (Sum.inr (s.2.1,s.2.2))) (0,r_2.1.1,r_2.1.2)).bind fun o
 => some (o.1,o.2)
def arT (p q r n:Int):Rat:=ar ((min p (min q r)-n:Int):Rat) ((max (min p q) (min (max p q) r)-n:Int):Rat) ((max p (max q r)-n:Int):Rat)
theorem sort3 (p q r:Int):sortI [p,q,r]=some [min p (min q r),max (min p q) (min (max p q) r),max p (max q r)]:=by
 have:isortI [p,q,r]=[min p (min q r),max (min p q) (min (max p q) r),max p (max q r)]:=by
  show insI p (insI q [r])=_
  by_cases h1:q≤r
  ·have e1:insI q [r]=[q,r]:=by show (bif leM q r then [q,r] else _)=_;rw [leI h1];rfl
   rw [e1]
   by_cases h2:p≤q
   ·show (bif leM p q then [p,q,r] else _)=_
    rw [leI h2,cond_true];congr 1;omega;congr 1;omega;congr 1;omega
   ·show (bif leM p q then _ else q::insI p [r])=_
    rw [gtI (by omega),cond_false]
    by_cases h3:p≤r
    ·show q::(bif leM p r then [p,r] else _)=_
     rw [leI h3,cond_true];congr 1;omega;congr 1;omega;congr 1;omega
    ·show q::(bif leM p r then _ else [r,p])=_
     rw [gtI (by omega),cond_false];congr 1;omega;congr 1;omega;congr 1;omega
  ·have e1:insI q [r]=[r,q]:=by show (bif leM q r then _ else [r,q])=_;rw [gtI (by omega)];rfl
   rw [e1]
   by_cases h2:p≤r
   ·show (bif leM p r then [p,r,q] else _)=_
    rw [leI h2,cond_true];congr 1;omega;congr 1;omega;congr 1;omega
   ·show (bif leM p r then _ else r::insI p [q])=_
    rw [gtI (by omega),cond_false]
    by_cases h3:p≤q
    ·show r::(bif leM p q then [p,q] else _)=_
     rw [leI h3,cond_true];congr 1;omega;congr 1;omega;congr 1;omega
    ·show r::(bif leM p q then _ else [q,p])=_
     rw [gtI (by omega),cond_false];congr 1;omega;congr 1;omega;congr 1;omega
 unfold sortI
 rw [decide_eq_true (show [p,q,r].length<4611686018427387904 by show 3<_;omega),this]
theorem idx3 (a b c:Int):idxM [a,b,c] 0=some a∧idxM [a,b,c] 1=some b∧idxM [a,b,c] 2=some c∧chkM 0 (lenM [a,b,c])=some ()∧chkM 1 (lenM [a,b,c])=some ()∧chkM 2 (lenM [a,b,c])=some ():=⟨rfl,rfl,rfl,rfl,rfl,rfl⟩
theorem fits_small {z:Int} (h:z.natAbs≤1000000000000000000):Fits z:=Nat.lt_of_le_of_lt h (by decide)
theorem half_dn:Dn DA 1 (Rat.divInt 1 2):=Dn.of (by decide) (by decide) (by decide)
theorem abv_core {a b c n:Int} {B:Nat} {acc:Rat} (h0:0≤a) (h1:a≤b) (h2:b≤c) (h3:c≤100) (n0:0≤n) (n1:n≤100) (hB:B≤900) (hacc:Dn DA B acc) {p q r:Int} (hs:sortI [p,q,r]=some [a,b,c]) :
  abvT n [p,q,r] (rt acc)=some (rt (acc+ar ((a-n:Int):Rat) ((b-n:Int):Rat) ((c-n:Int):Rat)))∧Dn DA (B+2) (acc+ar ((a-n:Int):Rat) ((b-n:Int):Rat) ((c-n:Int):Rat)):=by
 obtain ⟨i0,i1,i2,c0,c1,c2⟩:=idx3 a b c
 have qle:∀ {x y:Int},x≤y↔((x:Int):Rat)≤((y:Int):Rat):=fun {x y}=>Rat.intCast_le_intCast.symm
 have qlt:∀ {x y:Int},x<y↔((x:Int):Rat)<((y:Int):Rat):=fun {x y}=>Rat.intCast_lt_intCast.symm
 have z0:((0:Int):Rat)=0:=rfl
 have hof:m25 (1,2)=some (rt (Rat.divInt 1 2),0):=of_ok (by decide) (by decide) (by decide)
 have hhalf:Rat.divInt 1 2=(1:Rat) / 2:=Rat.divInt_eq_div 1 2
 have sqb:∀ {x y:Int},0≤x→x≤y→y≤100→0≤x*x∧x*x≤10000:=fun {x y} hx hy hz=>prod_bd (A:=100) (B:=100) hx (by omega) hx (by omega)
 unfold abvT
 rw [hs,Option.bind_some,c0,Option.bind_some,i0,Option.bind_some]
 by_cases ha:n<a
 ·have hadd:=radd_dn hacc half_dn DA_pos (E:=1000) (by omega) DA_fit
  rw [ltI ha,cond_true,hof,Option.bind_some,ar_1 (by rw [← z0,← qlt];omega),← hhalf]
  refine ⟨bind_of (x:=(rt (acc+Rat.divInt 1 2),0)) hadd rfl,(hacc.add half_dn).mono (by omega)⟩
 rw [geI (by omega),cond_false,c1,Option.bind_some,i1,Option.bind_some]
 by_cases hb:n<b
 ·have hadd:=radd_dn hacc half_dn DA_pos (E:=1000) (by omega) DA_fit
  have p1:=sqb (x:=n-a) (y:=n) (by omega) (by omega) n1
  have p2:=prod_bd (a:=b-a) (b:=c-a) (A:=100) (B:=100) (by omega) (by omega) (by omega) (by omega)
  have p3:=Int.mul_pos (show 0<b-a by omega) (show 0<c-a by omega)
  have p4:(n-a)*(n-a)≤(b-a)*(c-a):=Int.mul_le_mul (by omega) (by omega) (by omega) (by omega)
  have e1:-(n-a)*(n-a)=-((n-a)*(n-a)):=Int.neg_mul _ _
  have e2:2*(b-a)*(c-a)=2*((b-a)*(c-a)):=Int.mul_assoc _ _ _
  have dn2:Dn DA 1 (Rat.divInt (-(n-a)*(n-a)) (2*(b-a)*(c-a))):=Dn.of (by omega) (DA_dvd (by omega) (by omega) (by omega) (by omega)) (by rw [e1,e2];omega)
  have hof2:m25 (-(n-a)*(n-a),2*(b-a)*(c-a))=some (rt (Rat.divInt (-(n-a)*(n-a)) (2*(b-a)*(c-a))),0):=of_ok (fits_small (by omega)) (fits_small (by omega)) (by omega)
  have hadd2:=radd_dn (hacc.add half_dn) dn2 DA_pos (E:=1000) (by omega) DA_fit
  have ear:ar ((a-n:Int):Rat) ((b-n:Int):Rat) ((c-n:Int):Rat)=Rat.divInt 1 2+Rat.divInt (-(n-a)*(n-a)) (2*(b-a)*(c-a)):=by
   rw [ar_2 (by rw [← z0,← qle];omega) (by rw [← z0,← qlt];omega),hhalf,Rat.divInt_eq_div]
   simp only [Rat.intCast_mul,Rat.intCast_neg,Rat.intCast_sub]
   have e3:((2:Int):Rat)=2:=rfl
   rw [e3,frac_mul,frac_mul (-((n:Rat)-(a:Rat))*((n:Rat)-(a:Rat))),show (b:Rat)-(n:Rat)-((a:Rat)-(n:Rat))=(b:Rat)-(a:Rat) by grind,show (c:Rat)-(n:Rat)-((a:Rat)-(n:Rat))=(c:Rat)-(a:Rat) by grind,show 2*((b:Rat)-(a:Rat))*((c:Rat)-(a:Rat))=2*(((b:Rat)-(a:Rat))*((c:Rat)-(a:Rat))) by grind]
   grind
  rw [ltI hb,cond_true,hof,Option.bind_some,ear,← Rat.add_assoc]
  refine ⟨bind_of (x:=(rt (acc+Rat.divInt 1 2),0)) hadd ?_,((hacc.add half_dn).add dn2).mono (by omega)⟩
  simp only [c0,c2,i0,i2,Option.bind_some]
  rw [show negM (wrap .i64 (n-a))=-(wrap .i64 (n-a)) from rfl,wrap_in (n:=n-a) (by omega) (by omega),wrap_in (n:=-(n-a)) (by omega) (by omega),wrap_in (n:=-(n-a)*(n-a)) (by omega) (by omega),wrap_in (n:=b-a) (by omega) (by omega),wrap_in (n:=2*(b-a)) (by omega) (by omega),wrap_in (n:=c-a) (by omega) (by omega),wrap_in (n:=2*(b-a)*(c-a)) (by omega) (by omega),hof2,Option.bind_some]
  exact bind_of (x:=(rt (acc+Rat.divInt 1 2+Rat.divInt (-(n-a)*(n-a)) (2*(b-a)*(c-a))),0)) hadd2 rfl
 rw [geI (by omega),cond_false,c2,Option.bind_some,i2,Option.bind_some]
 by_cases hc:n<c
 ·have p1:=sqb (x:=c-n) (y:=c) (by omega) (by omega) h3
  have p2:=prod_bd (a:=c-a) (b:=c-b) (A:=100) (B:=100) (by omega) (by omega) (by omega) (by omega)
  have p3:=Int.mul_pos (show 0<c-a by omega) (show 0<c-b by omega)
  have p4:(c-n)*(c-n)≤(c-a)*(c-b):=Int.mul_le_mul (by omega) (by omega) (by omega) (by omega)
  have e2:2*(c-a)*(c-b)=2*((c-a)*(c-b)):=Int.mul_assoc _ _ _
  have dn2:Dn DA 1 (Rat.divInt ((c-n)*(c-n)) (2*(c-a)*(c-b))):=Dn.of (by omega) (DA_dvd (by omega) (by omega) (by omega) (by omega)) (by rw [e2];omega)
  have hof2:m25 ((c-n)*(c-n),2*(c-a)*(c-b))=some (rt (Rat.divInt ((c-n)*(c-n)) (2*(c-a)*(c-b))),0):=of_ok (fits_small (by omega)) (fits_small (by omega)) (by omega)
  have hadd2:=radd_dn hacc dn2 DA_pos (E:=1000) (by omega) DA_fit
  have ear:ar ((a-n:Int):Rat) ((b-n:Int):Rat) ((c-n:Int):Rat)=Rat.divInt ((c-n)*(c-n)) (2*(c-a)*(c-b)):=by
   rw [ar_3 (by rw [← z0,← qle];omega) (by rw [← z0,← qle];omega) (by rw [← z0,← qlt];omega),Rat.divInt_eq_div]
   simp only [Rat.intCast_mul,Rat.intCast_neg,Rat.intCast_sub]
   have e3:((2:Int):Rat)=2:=rfl
   rw [e3,show (c:Rat)-(n:Rat)-((a:Rat)-(n:Rat))=(c:Rat)-(a:Rat) by grind,show (c:Rat)-(n:Rat)-((b:Rat)-(n:Rat))=(c:Rat)-(b:Rat) by grind,show 2*((c:Rat)-(a:Rat))*((c:Rat)-(b:Rat))=2*(((c:Rat)-(a:Rat))*((c:Rat)-(b:Rat))) by grind]
  rw [ltI hc,cond_true,ear]
  refine ⟨?_,(hacc.add dn2).mono (by omega)⟩
  simp only [Option.bind_some]
  rw [wrap_in (n:=c-n) (by omega) (by omega),wrap_in (n:=(c-n)*(c-n)) (by omega) (by omega),wrap_in (n:=c-a) (by omega) (by omega),wrap_in (n:=2*(c-a)) (by omega) (by omega),wrap_in (n:=c-b) (by omega) (by omega),wrap_in (n:=2*(c-a)*(c-b)) (by omega) (by omega),hof2,Option.bind_some]
  exact bind_of (x:=(rt (acc+Rat.divInt ((c-n)*(c-n)) (2*(c-a)*(c-b))),0)) hadd2 rfl
 ·rw [geI (by omega),cond_false,ar_4 (by rw [← z0,← qle];omega) (by rw [← z0,← qle];omega) (by rw [← z0,← qle];omega),Rat.add_zero]
  exact ⟨rfl,hacc.mono (by omega)⟩
theorem abvT_ok {p q r n:Int} {B:Nat} {acc:Rat} (hp:0≤p∧p≤100) (hq:0≤q∧q≤100) (hr:0≤r∧r≤100) (n0:0≤n) (n1:n≤100) (hB:B≤900) (hacc:Dn DA B acc) :
  abvT n [p,q,r] (rt acc)=some (rt (acc+arT p q r n))∧Dn DA (B+2) (acc+arT p q r n) :=
 abv_core (by omega) (by omega) (by omega) (by omega) n0 n1 hB hacc (sort3 p q r)
def aT (W:Nat) (v:Nat→Int) (n:Int) (k:Nat):Rat:=arT (triF W v k).1.2.2 (triF W v k).2.1.2.2 (triF W v k).2.2.2.2 n
def abQ (W H:Nat) (v:Nat→Int) (n:Int):Rat:=qsum (2*(H*W)) (aT W v n)
theorem abQ_dn {W H:Nat} {v:Nat→Int} (h:OkV W H v) {n:Int} (n0:0≤n) (n1:n≤100):∀ k,k≤2*(H*W)→Dn DA (2*k) (qsum k (aT W v n))
 | 0,_=>Dn.zero
 | k+1,hk=>by
  have hWH:H*W≤36:=Nat.mul_le_mul h.h6 h.w6
  have t:=tSum_bd h (show k<2*(H*W) by omega)
  exact ((abvT_ok (p:=(triF W v k).1.2.2) (q:=(triF W v k).2.1.2.2) (r:=(triF W v k).2.2.2.2) ⟨t.1,t.2.1⟩ ⟨t.2.2.1,t.2.2.2.1⟩ t.2.2.2.2 n0 n1 (by omega) (abQ_dn h n0 n1 k (by omega))).2).mono (by omega)
theorem abv_tri {W H:Nat} {v:Nat→Int} (h:OkV W H v) {n:Int} (n0:0≤n) (n1:n≤100) {k:Nat} (hk:k<2*(H*W)):abvT n [(triF W v k).1.2.2,(triF W v k).2.1.2.2,(triF W v k).2.2.2.2] (rt (qsum k (aT W v n)))=some (rt (qsum (k+1) (aT W v n))):=by
 have hWH:H*W≤36:=Nat.mul_le_mul h.h6 h.w6
 have t:=tSum_bd h hk
 exact (abvT_ok ⟨t.1,t.2.1⟩ ⟨t.2.2.1,t.2.2.2.1⟩ t.2.2.2.2 n0 n1 (by omega) (abQ_dn h n0 n1 k (by omega))).1
theorem abvE_ok {W H:Nat} {v:Nat→Int} (h:OkV W H v) {n:Int} (n0:0≤n) (n1:n≤100):abvE W H (row (nn W H) v) n=some (rt (abQ W H v n)):=by
 have w6:=h.w6
 have h6:=h.h6
 have hWH:H*W≤36:=Nat.mul_le_mul h6 w6
 have hof:m25 (0,1)=some (rt (qsum (2*(0*W)) (aT W v n)),0):=by
  rw [Nat.zero_mul]
  have:=of_ok (n:=0) (d:=1) (by decide) (by decide) (by decide)
  rw [this];rfl
 unfold abvE
 rw [hof,Option.bind_some]
 refine bind_of (x:=rt (abQ W H v n)) ?_ rfl
 refine count_loop (fun cy=>rt (qsum (2*(cy*W)) (aT W v n))) H (fun cy hy=>?_) ?_
 ·dsimp only
  rw [ltI (by omega),cond_true,wrap_in (n:=(cy:Int)+1) (by omega) (by omega)]
  refine bind_of (x:=rt (qsum (2*((cy+1)*W)) (aT W v n))) ?_ rfl
  refine count_loop (fun cx=>rt (qsum (2*(cy*W+cx)) (aT W v n))) W (fun cx hx=>?_) ?_
  ·have hb:cy*W+cx+1≤H*W:=by
    have:(cy+1)*W≤H*W:=Nat.mul_le_mul_right _ hy
    rw [Nat.add_mul,Nat.one_mul] at this
    omega
   have t1:=abv_tri h n0 n1 (k:=2*(cy*W+cx)) (by omega)
   have t2:=abv_tri h n0 n1 (k:=2*(cy*W+cx)+1) (by omega)
   rw [triF_low v hx] at t1
   rw [triF_upp v hx] at t2
   unfold nd at t1 t2
   dsimp only at t1 t2
   dsimp only
   rw [ltI (by omega),cond_true,wrap_in (n:=(cx:Int)+1) (by omega) (by omega),node_ok w6 h6 (cx:=(cx:Int)) (cy:=(cy:Int)) (by omega) (by omega) (by omega) (by omega),node_ok w6 h6 (cx:=(cx:Int)+1) (cy:=(cy:Int)) (by omega) (by omega) (by omega) (by omega),node_ok w6 h6 (cx:=(cx:Int)+1) (cy:=(cy:Int)+1) (by omega) (by omega) (by omega) (by omega),node_ok w6 h6 (cx:=(cx:Int)) (cy:=(cy:Int)+1) (by omega) (by omega) (by omega) (by omega)]
   simp only [Option.bind_some]
   refine bind_of t1 ?_
   refine bind_of t2 ?_
   rw [show 2*(cy*W+cx)+1+1=2*(cy*W+(cx+1)) by omega]
  ·dsimp only
   rw [geI (by omega),cond_false,Nat.add_mul,Nat.one_mul]
 ·dsimp only
  rw [geI (by omega),cond_false];rfl
theorem above_ok {W H:Nat} {lo hi:Nat→Int} (h:OkF W H lo hi) {n:Int} (n0:0≤n) (n1:n≤100):m18 (fd W H lo hi,n)=some (rt (abQ W H lo n),rt (abQ W H hi n),0):=by
 unfold m18
 have v1:=valid_ok h
 unfold fd at v1 ⊢
 dsimp only
 rw [v1,Option.bind_some,notT,notF,cond_true,within_ok,Option.bind_some,decide_eq_true (by omega),notT,orF,cond_false]
 refine bind_of (abvE_ok h.okLo n0 n1) ?_
 refine bind_of (abvE_ok h.okHi n0 n1) rfl
end Go.Proofs.YtechphmljdgoaaaGreatDoor
namespace Go.Proofs.YtechphmljdgoaaaGreatDoor
open Go Go.Abs Go.PE Go.Num
open Go.IntKind (wrap)
noncomputable def valE (W:Int) (L:List Int) (ax ay bx by_ cx cy:Int) (q:Spt):Option Int:=(((idxM L (wrap .i64 (wrap .i64 (ay*wrap .i64 (W+1))+ax))).bind fun r=>some r).bind fun (ov_1:Int)=>(m48 ((bx,by_),(cx,
 cy),q.1,q.2.1,q.2.2)).bind fun r_9=>((idxM L (wrap .i64 (wrap .i64 (by_*wrap .i64 (W+1))+bx))).bind fun r=>some r).bind fun (ov_2 :
 Int)=>(m48 ((cx,cy),(ax,ay),q.1,q.2.1,q.2.2)).bind fun r_10=>((idxM L (wrap .i64 (wrap .i64 (cy*wrap .i64 (W+1)) +
 cx))).bind fun r=>some r).bind fun (ov_3:Int)=>(m48 ((ax,ay),(bx,by_),q.1,q.2.1,q.2.2)).bind fun r=>some (wrap .i64 (wrap IntKind.i64
 (wrap .i64 (0+wrap .i64 (ov_1*r_9))+wrap .i64 (ov_2*r_10))+wrap .i64 (ov_3*r))))
noncomputable def fanE (W:Int) (L:List Int) (ax ay bx by_ cx cy:Int) (l:List Spt) (s:List UInt8×List UInt8):Option (List UInt8×List UInt8):=loopM (fun (s_2:Int×List UInt8×List UInt8)=>bif ltM s_2.1 (lenM l) then (chkM 0 (lenM l)).bind fun r_3=>(idxM l 0).bind fun r_4=>(chkM (wrap IntKind.i64
 (s_2.1-1)) (lenM l)).bind fun r_5=>(idxM l (wrap .i64 (s_2.1-1))).bind fun r_6=>(chkM s_2.1 (lenM l)).bind fun r_7=>(idxM l s_2.1).bind fun r_8 =>
 (valE W L ax ay bx by_ cx cy r_4).bind fun (ov_1:Int)=>(valE W L ax ay bx by_ cx cy r_6).bind fun (ov_2:Int)=>(valE W L ax ay bx by_ cx cy r_8).bind fun (ov_3 :
 Int)=>(m25 (wrap .i64 (wrap .i64 (wrap .i64 (wrap .i64 (r_4.1*wrap .i64 (wrap .i64 (r_6.2.1*r_8.2.2)-wrap
 IntKind.i64 (r_6.2.2*r_8.2.1)))-wrap .i64 (r_4.2.1*wrap .i64 (wrap .i64 (r_6.1*r_8.2.2)-wrap .i64 (r_6.2.2*r_8.1))))+wrap
 IntKind.i64 (r_4.2.2*wrap .i64 (wrap .i64 (r_6.1*r_8.2.1)-wrap .i64 (r_6.2.1*r_8.1))))*wrap .i64 (wrap .i64 (wrap
 IntKind.i64 (wrap .i64 (ov_1*r_6.2.2)*r_8.2.2)+wrap .i64 (wrap .i64 (ov_2*r_4.2.2)*r_8.2.2))+wrap .i64 (wrap .i64 (ov_3 *
 r_4.2.2)*r_6.2.2))),wrap .i64 (wrap .i64 (6*wrap .i64 (wrap .i64 (r_4.2.2*r_6.2.2)*r_8.2.2))*wrap .i64 (wrap IntKind.i64
 (r_4.2.2*r_6.2.2)*r_8.2.2)))).bind fun r_9=>(m49 ((s_2.2.1,s_2.2.2),r_9.1.1,r_9.1.2)).bind fun r=>some (Sum.inl (wrap .i64 (s_2.1+1),
 r.1.1,r.1.2)) else some (Sum.inr (s_2.2.1,s_2.2.2))) (2,s.1,s.2)
structure Trg (W H:Nat) (ax ay bx by_ cx cy:Int):Prop where
 ab:Nod ax ay bx by_
 bc:Nod bx by_ cx cy
 ca:Nod cx cy ax ay
 a:0≤ax∧ax≤W∧0≤ay∧ay≤H
 b:0≤bx∧bx≤W∧0≤by_∧by_≤H
 c:0≤cx∧cx≤W∧0≤cy∧cy≤H
 nab:¬ (ax=bx∧ay=by_)
 nbc:¬ (bx=cx∧by_=cy)
 nca:¬ (cx=ax∧cy=ay)
def valQ (A B C:Spt) (va vb vc:Int) (q:Spt):Int:=va*lev A q+vb*lev B q+vc*lev C q
def wV (A B C:Spt) (va vb vc:Int):Rat×Rat×Rat:=((va:Rat)*(A.1:Rat)+(vb:Rat)*(B.1:Rat)+(vc:Rat)*(C.1:Rat),(va:Rat)*(A.2.1:Rat)+(vb:Rat)*(B.2.1:Rat)+(vc:Rat)*(C.2.1:Rat),(va:Rat)*(A.2.2:Rat)+(vb:Rat)*(B.2.2:Rat)+(vc:Rat)*(C.2.2:Rat))
theorem val_vl (A B C:Spt) (va vb vc:Int) {q:Spt} (h:0<q.2.2):((valQ A B C va vb vc q:Int):Rat)=(q.2.2:Rat)*vlq (wV A B C va vb vc) (rp q):=by
 unfold valQ
 simp only [Rat.intCast_add,Rat.intCast_mul]
 rw [lev_lv A h,lev_lv B h,lev_lv C h]
 unfold vlq wV lv
 grind
theorem val_term {v z:Int} (hv:0≤v∧v≤100) (hz:-144≤z∧z≤144):-14400≤v*z∧v*z≤14400:=by
 have a:=Int.mul_le_mul_of_nonneg_left hz.2 hv.1
 have b:=Int.mul_le_mul_of_nonneg_left hz.1 hv.1
 omega
theorem valQ_bd {W H:Nat} {ax ay bx by_ cx cy:Int} (T:Trg W H ax ay bx by_ cx cy) {va vb vc:Int} (ha:0≤va∧va≤100) (hb:0≤vb∧vb≤100) (hc:0≤vc∧vc≤100) {q:Spt} (hq:Bx q) :
  -43200≤valQ (lineF bx by_ cx cy) (lineF cx cy ax ay) (lineF ax ay bx by_) va vb vc q∧valQ (lineF bx by_ cx cy) (lineF cx cy ax ay) (lineF ax ay bx by_) va vb vc q≤43200:=by
 have t1:=val_term ha (lev_bd T.bc hq)
 have t2:=val_term hb (lev_bd T.ca hq)
 have t3:=val_term hc (lev_bd T.ab hq)
 unfold valQ
 omega
theorem valE_ok {W H:Nat} {v:Nat→Int} (h:OkV W H v) {ax ay bx by_ cx cy:Int} (T:Trg W H ax ay bx by_ cx cy) {q:Spt} (hq:Bx q) :
  valE W (row (nn W H) v) ax ay bx by_ cx cy q=some (valQ (lineF bx by_ cx cy) (lineF cx cy ax ay) (lineF ax ay bx by_) (nv W v ax ay) (nv W v bx by_) (nv W v cx cy) q):=by
 obtain ⟨a0,a1,a2,a3⟩:=T.a
 obtain ⟨b0,b1,b2,b3⟩:=T.b
 obtain ⟨c0,c1,c2,c3⟩:=T.c
 have t1:=val_term (nv_bd h a0 a1 a2 a3) (lev_bd T.bc hq)
 have t2:=val_term (nv_bd h b0 b1 b2 b3) (lev_bd T.ca hq)
 have t3:=val_term (nv_bd h c0 c1 c2 c3) (lev_bd T.ab hq)
 unfold valE valQ
 rw [node_ok h.w6 h.h6 a0 a1 a2 a3,Option.bind_some,Option.bind_some,left_ok T.bc hq,Option.bind_some,node_ok h.w6 h.h6 b0 b1 b2 b3,Option.bind_some,Option.bind_some,left_ok T.ca hq,Option.bind_some,node_ok h.w6 h.h6 c0 c1 c2 c3,Option.bind_some,Option.bind_some,left_ok T.ab hq,Option.bind_some]
 generalize nv W v ax ay*lev (lineF bx by_ cx cy) q=x at *
 generalize nv W v bx by_*lev (lineF cx cy ax ay) q=y at *
 generalize nv W v cx cy*lev (lineF ax ay bx by_) q=z at *
 rw [wrap_in (n:=x) (by omega) (by omega),wrap_in (n:=y) (by omega) (by omega),wrap_in (n:=z) (by omega) (by omega),Int.zero_add,wrap_in (n:=x) (by omega) (by omega),wrap_in (n:=x+y) (by omega) (by omega),wrap_in (n:=x+y+z) (by omega) (by omega)]
def MM:Nat:=27720*27720*27720
def DO:Nat:=6*MM*MM
theorem DO_pos:0<DO:=by decide
theorem DO_fit:(1000000000000000000+1)*(DO*DO)<10 ^ 200:=by decide
theorem d12_dvd:∀ x:Nat,x<13→0<x→27720 % x=0:=by decide
theorem dd_dvd {x y z:Int} (hx:0<x∧x≤12) (hy:0<y∧y≤12) (hz:0<z∧z≤12):6*(x*y*z)*(x*y*z) ∣ (DO:Int):=by
 have d:∀ z:Int,0<z∧z≤12→z ∣ (27720:Int):=fun z h=>by
  have:=d12_dvd z.toNat (by omega) (by omega)
  have h3:((z.toNat:Nat):Int) ∣ ((27720:Nat):Int):=Int.natCast_dvd_natCast.2 (Nat.dvd_of_mod_eq_zero this)
  rwa [show ((z.toNat:Nat):Int)=z by omega] at h3
 have e:x*y*z ∣ (MM:Int):=Int.mul_dvd_mul (Int.mul_dvd_mul (d x hx) (d y hy)) (d z hz)
 exact Int.mul_dvd_mul (Int.mul_dvd_mul (Int.dvd_refl 6) e) e
theorem small_mul {x y A B:Int} (hx:0≤x∧x≤A) (hy:-B≤y∧y≤B) (hB:0≤B):-(A*B)≤x*y∧x*y≤A*B:=by
 have a:=Int.mul_le_mul_of_nonneg_left hy.2 hx.1
 have b:=Int.mul_le_mul_of_nonneg_left hy.1 hx.1
 have c:=Int.mul_le_mul_of_nonneg_right hx.2 hB
 rw [Int.mul_neg] at b
 omega
theorem term_rat {A B C:Spt} {va vb vc:Int} {p q r:Spt} (hp:0<p.2.2) (hq:0<q.2.2) (hr:0<r.2.2) :
  Rat.divInt (dt3 p q r*(valQ A B C va vb vc p*q.2.2*r.2.2+valQ A B C va vb vc q*p.2.2*r.2.2+valQ A B C va vb vc r*p.2.2*q.2.2)) (6*(p.2.2*q.2.2*r.2.2)*(p.2.2*q.2.2*r.2.2))=phi (wV A B C va vb vc) (rp p) (rp q) (rp r):=by
 rw [Rat.divInt_eq_div]
 simp only [Rat.intCast_mul,Rat.intCast_add]
 rw [dt3_dtr hp hq hr,val_vl _ _ _ _ _ _ hp,val_vl _ _ _ _ _ _ hq,val_vl _ _ _ _ _ _ hr,show ((6:Int):Rat)=6 from rfl]
 obtain ⟨_,_,p3⟩:=rp_mul hp
 obtain ⟨_,_,q3⟩:=rp_mul hq
 obtain ⟨_,_,r3⟩:=rp_mul hr
 unfold phi
 generalize dtr (rp p) (rp q) (rp r)=t
 generalize vlq (wV A B C va vb vc) (rp p)=x
 generalize vlq (wV A B C va vb vc) (rp q)=y
 generalize vlq (wV A B C va vb vc) (rp r)=z
 generalize (p.2.2:Rat)=a at *
 generalize (q.2.2:Rat)=b at *
 generalize (r.2.2:Rat)=c at *
 have m:=Rat.mul_pos (Rat.mul_pos p3 q3) r3
 have m2:=Rat.mul_pos m m
 have e:=qdiv_mul (n:=a*b*c*t*(a*x*b*c+b*y*a*c+c*z*a*b)) (d:=6*(a*b*c)*(a*b*c)) (by grind)
 generalize a*b*c*t*(a*x*b*c+b*y*a*c+c*z*a*b) / (6*(a*b*c)*(a*b*c))=u at *
 refine qcancel (a:=6*(a*b*c)*(a*b*c)) (by grind) ?_
 grind
theorem fan_step {W H:Nat} {v:Nat→Int} (h:OkV W H v) {ax ay bx by_ cx cy:Int} (T:Trg W H ax ay bx by_ cx cy) {p q r:Spt} (hp:Bx p) (hq:Bx q) (hr:Bx r) {B:Nat} {acc:Rat} (hB:B≤100000000000000000) (hacc:Dn DO B acc) {i:Int} (i0:0≤i) (i1:i≤1000) :
  ((valE W (row (nn W H) v) ax ay bx by_ cx cy p).bind fun (ov_1:Int)=>(valE W (row (nn W H) v) ax ay bx by_ cx cy q).bind fun (ov_2:Int)=>(valE W (row (nn W H) v) ax ay bx by_ cx cy r).bind fun (ov_3 :
 Int)=>(m25 (wrap .i64 (wrap .i64 (wrap .i64 (wrap .i64 (p.1*wrap .i64 (wrap .i64 (q.2.1*r.2.2)-wrap
 IntKind.i64 (q.2.2*r.2.1)))-wrap .i64 (p.2.1*wrap .i64 (wrap .i64 (q.1*r.2.2)-wrap .i64 (q.2.2*r.1))))+wrap
 IntKind.i64 (p.2.2*wrap .i64 (wrap .i64 (q.1*r.2.1)-wrap .i64 (q.2.1*r.1))))*wrap .i64 (wrap .i64 (wrap
 IntKind.i64 (wrap .i64 (ov_1*q.2.2)*r.2.2)+wrap .i64 (wrap .i64 (ov_2*p.2.2)*r.2.2))+wrap .i64 (wrap .i64 (ov_3 *
 p.2.2)*q.2.2))),wrap .i64 (wrap .i64 (6*wrap .i64 (wrap .i64 (p.2.2*q.2.2)*r.2.2))*wrap .i64 (wrap IntKind.i64
 (p.2.2*q.2.2)*r.2.2)))).bind fun r_9=>(m49 (((rt acc).1,(rt acc).2),r_9.1.1,r_9.1.2)).bind fun r=>some (Sum.inl (α:=Int×List UInt8×List UInt8) (β:=List UInt8×List UInt8) (wrap .i64 (i+1),r.1.1,r.1.2))) =
  some (.inl (i+1,rt (acc+phi (wV (lineF bx by_ cx cy) (lineF cx cy ax ay) (lineF ax ay bx by_) (nv W v ax ay) (nv W v bx by_) (nv W v cx cy)) (rp p) (rp q) (rp r))))∧Dn DO (B+4000000000000) (acc+phi (wV (lineF bx by_ cx cy) (lineF cx cy ax ay) (lineF ax ay bx by_) (nv W v ax ay) (nv W v bx by_) (nv W v cx cy)) (rp p) (rp q) (rp r)):=by
 obtain ⟨a0,a1,a2,a3⟩:=T.a
 obtain ⟨b0,b1,b2,b3⟩:=T.b
 obtain ⟨c0,c1,c2,c3⟩:=T.c
 have na:=nv_bd h a0 a1 a2 a3
 have nb:=nv_bd h b0 b1 b2 b3
 have nc:=nv_bd h c0 c1 c2 c3
 have v1:=valQ_bd T na nb nc hp
 have v2:=valQ_bd T na nb nc hq
 have v3:=valQ_bd T na nb nc hr
 have et:=term_rat (A:=lineF bx by_ cx cy) (B:=lineF cx cy ax ay) (C:=lineF ax ay bx by_) (va:=nv W v ax ay) (vb:=nv W v bx by_) (vc:=nv W v cx cy) hp.2.2.2.2.1 hq.2.2.2.2.1 hr.2.2.2.2.1
 rw [valE_ok h T hp,Option.bind_some,valE_ok h T hq,Option.bind_some,valE_ok h T hr,Option.bind_some,← et]
 generalize valQ (lineF bx by_ cx cy) (lineF cx cy ax ay) (lineF ax ay bx by_) (nv W v ax ay) (nv W v bx by_) (nv W v cx cy) p=x at *
 generalize valQ (lineF bx by_ cx cy) (lineF cx cy ax ay) (lineF ax ay bx by_) (nv W v ax ay) (nv W v bx by_) (nv W v cx cy) q=y at *
 generalize valQ (lineF bx by_ cx cy) (lineF cx cy ax ay) (lineF ax ay bx by_) (nv W v ax ay) (nv W v bx by_) (nv W v cx cy) r=z at *
 clear et
 obtain ⟨px,py,pd⟩:=p
 obtain ⟨qx,qy,qd⟩:=q
 obtain ⟨rx,ry,rd⟩:=r
 obtain ⟨p0,p1,p2,p3,p4,p5⟩:=hp
 obtain ⟨q0,q1,q2,q3,q4,q5⟩:=hq
 obtain ⟨r0,r1,r2,r3,r4,r5⟩:=hr
 dsimp only at *
 have s1:=prod_bd (a:=qy) (b:=rd) (A:=72) (B:=12) q2 q3 (by omega) r5
 have s2:=prod_bd (a:=qd) (b:=ry) (A:=12) (B:=72) (by omega) q5 r2 r3
 have s3:=prod_bd (a:=qx) (b:=rd) (A:=72) (B:=12) q0 q1 (by omega) r5
 have s4:=prod_bd (a:=qd) (b:=rx) (A:=12) (B:=72) (by omega) q5 r0 r1
 have s5:=prod_bd (a:=qx) (b:=ry) (A:=72) (B:=72) q0 q1 r2 r3
 have s6:=prod_bd (a:=qy) (b:=rx) (A:=72) (B:=72) q2 q3 r0 r1
 have u1:=small_mul (x:=px) (y:=qy*rd-qd*ry) (A:=72) (B:=864) ⟨p0,p1⟩ (by omega) (by omega)
 have u2:=small_mul (x:=py) (y:=qx*rd-qd*rx) (A:=72) (B:=864) ⟨p2,p3⟩ (by omega) (by omega)
 have u3:=small_mul (x:=pd) (y:=qx*ry-qy*rx) (A:=12) (B:=5184) ⟨by omega,p5⟩ (by omega) (by omega)
 have d1:=prod_bd (a:=pd) (b:=qd) (A:=12) (B:=12) (by omega) p5 (by omega) q5
 have d1p:=Int.mul_pos p4 q4
 have d2:=prod_bd (a:=pd*qd) (b:=rd) (A:=144) (B:=12) d1.1 (by omega) (by omega) r5
 have d2p:=Int.mul_pos d1p r4
 have d3:=prod_bd (a:=6*(pd*qd*rd)) (b:=pd*qd*rd) (A:=10368) (B:=1728) (by omega) (by omega) (by omega) (by omega)
 have d3p:=Int.mul_pos (show 0<6*(pd*qd*rd) by omega) d2p
 have w1:=small_mul (x:=qd) (y:=x) (A:=12) (B:=43200) ⟨by omega,q5⟩ (by omega) (by omega)
 rw [Int.mul_comm qd x] at w1
 have w1':=small_mul (x:=rd) (y:=x*qd) (A:=12) (B:=518400) ⟨by omega,r5⟩ (by omega) (by omega)
 rw [Int.mul_comm rd (x*qd)] at w1'
 have w2:=small_mul (x:=pd) (y:=y) (A:=12) (B:=43200) ⟨by omega,p5⟩ (by omega) (by omega)
 rw [Int.mul_comm pd y] at w2
 have w2':=small_mul (x:=rd) (y:=y*pd) (A:=12) (B:=518400) ⟨by omega,r5⟩ (by omega) (by omega)
 rw [Int.mul_comm rd (y*pd)] at w2'
 have w3:=small_mul (x:=pd) (y:=z) (A:=12) (B:=43200) ⟨by omega,p5⟩ (by omega) (by omega)
 rw [Int.mul_comm pd z] at w3
 have w3':=small_mul (x:=qd) (y:=z*pd) (A:=12) (B:=518400) ⟨by omega,q5⟩ (by omega) (by omega)
 rw [Int.mul_comm qd (z*pd)] at w3'
 have hdv:=dd_dvd (x:=pd) (y:=qd) (z:=rd) ⟨p4,p5⟩ ⟨q4,q5⟩ ⟨r4,r5⟩
 rw [wrap_in (n:=qy*rd) (by omega) (by omega),wrap_in (n:=qd*ry) (by omega) (by omega),wrap_in (n:=qx*rd) (by omega) (by omega),wrap_in (n:=qd*rx) (by omega) (by omega),wrap_in (n:=qx*ry) (by omega) (by omega),wrap_in (n:=qy*rx) (by omega) (by omega),
  wrap_in (n:=qy*rd-qd*ry) (by omega) (by omega),wrap_in (n:=qx*rd-qd*rx) (by omega) (by omega),wrap_in (n:=qx*ry-qy*rx) (by omega) (by omega),wrap_in (n:=px*_) (by omega) (by omega),wrap_in (n:=py*_) (by omega) (by omega),wrap_in (n:=pd*(qx*ry-qy*rx)) (by omega) (by omega),
  wrap_in (n:=px*(qy*rd-qd*ry)-py*(qx*rd-qd*rx)) (by omega) (by omega),wrap_in (n:=px*(qy*rd-qd*ry)-py*(qx*rd-qd*rx)+pd*(qx*ry-qy*rx)) (by omega) (by omega),
  wrap_in (n:=x*qd) (by omega) (by omega),wrap_in (n:=x*qd*rd) (by omega) (by omega),wrap_in (n:=y*pd) (by omega) (by omega),wrap_in (n:=y*pd*rd) (by omega) (by omega),wrap_in (n:=z*pd) (by omega) (by omega),wrap_in (n:=z*pd*qd) (by omega) (by omega),wrap_in (n:=x*qd*rd+y*pd*rd) (by omega) (by omega),wrap_in (n:=x*qd*rd+y*pd*rd+z*pd*qd) (by omega) (by omega),
  wrap_in (n:=pd*qd) (by omega) (by omega),wrap_in (n:=pd*qd*rd) (by omega) (by omega),wrap_in (n:=6*(pd*qd*rd)) (by omega) (by omega),wrap_in (n:=6*(pd*qd*rd)*(pd*qd*rd)) (by omega) (by omega)]
 show _∧Dn DO _ (acc+Rat.divInt ((px*(qy*rd-qd*ry)-py*(qx*rd-qd*rx)+pd*(qx*ry-qy*rx))*(x*qd*rd+y*pd*rd+z*pd*qd)) (6*(pd*qd*rd)*(pd*qd*rd)))
 have ed:dt3 (px,py,pd) (qx,qy,qd) (rx,ry,rd)=px*(qy*rd-qd*ry)-py*(qx*rd-qd*rx)+pd*(qx*ry-qy*rx):=rfl
 rw [ed]
 have hab:-186624≤px*(qy*rd-qd*ry)-py*(qx*rd-qd*rx)+pd*(qx*ry-qy*rx)∧px*(qy*rd-qd*ry)-py*(qx*rd-qd*rx)+pd*(qx*ry-qy*rx)≤186624:=by omega
 generalize px*(qy*rd-qd*ry)-py*(qx*rd-qd*rx)+pd*(qx*ry-qy*rx)=ar at *
 generalize hS:x*qd*rd+y*pd*rd+z*pd*qd=S at *
 generalize 6*(pd*qd*rd)*(pd*qd*rd)=D at *
 have har:ar.natAbs≤186624:=by omega
 have hS2:S.natAbs≤18662400:=by omega
 have hnum:(ar*S).natAbs≤4000000000000:=by rw [Int.natAbs_mul];exact Nat.le_trans (Nat.mul_le_mul har hS2) (by decide)
 have dn:=Dn.of (D:=DO) (B:=4000000000000) (n:=ar*S) (d:=D) (by omega) hdv (Nat.le_trans hnum (Nat.le_mul_of_pos_right _ (by omega)))
 rw [wrap_in (n:=ar*S) (by omega) (by omega),of_ok (fits_small (by omega)) (fits_small (by omega)) (by omega),Option.bind_some]
 refine ⟨?_,hacc.add dn⟩
 refine bind_of (x:=(rt (acc+Rat.divInt (ar*S) D),0)) (radd_dn hacc dn DO_pos (E:=1000000000000000000) (by omega) DO_fit) ?_
 rw [wrap_in (by omega) (by omega)]
theorem fanE_ok {W H:Nat} {v:Nat→Int} (h:OkV W H v) {ax ay bx by_ cx cy:Int} (T:Trg W H ax ay bx by_ cx cy) {l:List Spt} (hl:∀ x∈l,Bx x) (hlen:l.length≤64) {B:Nat} {acc:Rat} (hB:B≤50000000000000000) (hacc:Dn DO B acc) :
  fanE W (row (nn W H) v) ax ay bx by_ cx cy l (rt acc)=some (rt (acc+fan (wV (lineF bx by_ cx cy) (lineF cx cy ax ay) (lineF ax ay bx by_) (nv W v ax ay) (nv W v bx by_) (nv W v cx cy)) l))∧Dn DO (B+300000000000000) (acc+fan (wV (lineF bx by_ cx cy) (lineF cx cy ax ay) (lineF ax ay bx by_) (nv W v ax ay) (nv W v bx by_) (nv W v cx cy)) l):=by
 obtain ⟨f,hf⟩:∃ f:Nat→Rat,f=fun i=>phi (wV (lineF bx by_ cx cy) (lineF cx cy ax ay) (lineF ax ay bx by_) (nv W v ax ay) (nv W v bx by_) (nv W v cx cy)) (rp (l.getD 0 z3)) (rp (l.getD (i+1) z3)) (rp (l.getD (i+2) z3)):=⟨_,rfl⟩
 have hg:∀ {i:Nat},i<l.length→idxM l (i:Int)=some (l.getD i z3):=fun {i} hi=>by rw [idxM_lt hi];simp [List.getD,hi]
 have step:=fun {k:Nat} {C:Nat} {a:Rat} (hk:k+2<l.length) (hC:C≤100000000000000000) (ha:Dn DO C a)=>fan_step h T (hl _ (getD_mem3 (show 0<l.length by omega))) (hl _ (getD_mem3 (show k+1<l.length by omega))) (hl _ (getD_mem3 hk)) hC ha (i:=((k+2:Nat):Int)) (by omega) (by omega)
 have hdn:∀ k,k≤l.length-2→Dn DO (B+k*4000000000000) (acc+qsum k f):=by
  intro k
  induction k with
  | zero=>intro _;rw [Nat.zero_mul,show qsum 0 f=0 from rfl,Rat.add_zero];exact hacc
  | succ k ih =>
   intro hk
   have:=(step (k:=k) (C:=B+k*4000000000000) (a:=acc+qsum k f) (by omega) (by omega) (ih (by omega))).2
   rw [show qsum (k+1) f=qsum k f+f k from rfl,← Rat.add_assoc,hf]
   rw [hf] at this
   exact this.mono (by omega)
 have hfin:fan (wV (lineF bx by_ cx cy) (lineF cx cy ax ay) (lineF ax ay bx by_) (nv W v ax ay) (nv W v bx by_) (nv W v cx cy)) l=qsum (l.length-2) f:=by rw [hf];rfl
 rw [hfin]
 refine ⟨?_,(hdn _ (Nat.le_refl _)).mono (by omega)⟩
 unfold fanE
 have e0:rt acc=rt (acc+qsum 0 f):=by rw [show qsum 0 f=0 from rfl,Rat.add_zero]
 rw [e0]
 refine loopM_fn (fun k=>(((k+2:Nat):Int),rt (acc+qsum k f))) (l.length-2) (fun k hk=>?_) ?_
 ·have g0:=hg (show 0<l.length by omega)
  have g1:=hg (show k+1<l.length by omega)
  have g2:=hg (show k+2<l.length by omega)
  have hs:=(step (k:=k) (C:=B+k*4000000000000) (a:=acc+qsum k f) (by omega) (by omega) (hdn k (by omega))).1
  dsimp only
  rw [lenL,ltI (by omega),cond_true,chkM_of (by omega) (by omega),Option.bind_some,show idxM l 0=some (l.getD 0 z3) from g0,Option.bind_some,wrap_in (n:=((k+2:Nat):Int)-1) (by omega) (by omega),chkM_of (i:=((k+2:Nat):Int)-1) (by omega) (by omega),Option.bind_some,show ((k+2:Nat):Int)-1=((k+1:Nat):Int) by omega,g1,Option.bind_some,chkM_of (by omega) (by omega),Option.bind_some,g2,Option.bind_some]
  refine Eq.trans hs ?_
  have e1:acc+qsum k f+f k=acc+qsum (k+1) f:=by rw [show qsum (k+1) f=qsum k f+f k from rfl,Rat.add_assoc]
  rw [← e1,hf];rfl
 ·dsimp only
  rw [lenL,geI (by omega),cond_false]
end Go.Proofs.YtechphmljdgoaaaGreatDoor
namespace Go.Proofs.YtechphmljdgoaaaGreatDoor
open Go Go.Abs Go.PE Go.Num
open Go.IntKind (wrap)
noncomputable def polyE (ax ay bx by_ cx cy:Int) (o:List Spt):Option (List Spt):=(clipE ax ay bx by_ o).bind fun o_1=>bif eqM (lenM o_1) 0 then some o_1 else (clipE bx by_ cx cy o_1).bind fun o_2=>bif eqM (lenM o_2) 0 then some o_2 else (clipE cx cy ax ay o_2).bind fun o=>bif eqM (lenM o) 0 then some o else some o
noncomputable def overE (W H:Int) (L:List Int) (o:List Spt):Option (List UInt8×List UInt8):=(m25 (0,1)).bind fun r_2=>(loopM (fun (s:Int×List UInt8×List UInt8)=>bif ltM s.1 H then (loopM (fun (s_1:Int×List UInt8×List UInt8)=>bif ltM s_1.1 W then
 (polyE s_1.1 s.1 (wrap .i64 (s_1.1+1)) s.1 (wrap .i64 (s_1.1+1)) (wrap .i64 (s.1+1)) o).bind fun o_1=>(fanE W L s_1.1 s.1 (wrap .i64 (s_1.1+1)) s.1 (wrap .i64 (s_1.1+1)) (wrap .i64 (s.1+1)) o_1 (s_1.2.1,s_1.2.2)).bind fun o_2 =>
 (polyE s_1.1 s.1 (wrap .i64 (s_1.1+1)) (wrap .i64 (s.1+1)) s_1.1 (wrap .i64 (s.1+1)) o).bind fun o_3=>(fanE W L s_1.1 s.1 (wrap .i64 (s_1.1+1)) (wrap .i64 (s.1+1)) s_1.1 (wrap .i64 (s.1+1)) o_3 (o_2.1,o_2.2)).bind fun o =>
 some (Sum.inl (wrap .i64 (s_1.1+1),o.1,o.2)) else some (Sum.inr (s_1.2.1,s_1.2.2))) (0,s.2.1,s.2.2)).bind fun o=>some (Sum.inl (wrap .i64 (s.1+1),o.1,o.2)) else some (Sum.inr (s.2.1,s.2.2))) (0,r_2.1.1,r_2.1.2)).bind fun o=>some (o.1,o.2)
structure Pol (l:List Spt):Prop where
 poly:Poly l
 in6:∀ x∈l,0≤x.1∧x.1≤6*x.2.2∧0≤x.2.1∧x.2.1≤6*x.2.2
theorem Pol.bx {l:List Spt} (h:Pol l):∀ x∈l,Bx x:=fun x hx=>by
 have a:=h.poly.d0 x hx
 have b:=h.poly.d12 x hx
 have c:=h.in6 x hx
 unfold Bx
 omega
theorem pol_clR {l:List Spt} {L:Spt} (l1:L.1.natAbs≤1) (l2:L.2.1.natAbs≤1) (l0:¬ (L.1=0∧L.2.1=0)) (h:Pol l):Pol (clR L l):=by
 refine ⟨clR_poly l1 l2 l0 h.poly,fun x hx=>?_⟩
 have k:=fun (M:Spt) (hM:∀ x∈l,0≤lev M x)=>left_all M (L:=L) h.poly hM x hx
 have k1:=k (1,0,0) (fun x hx=>by have:=h.in6 x hx;unfold lev;dsimp only;omega)
 have k2:=k (-1,0,6) (fun x hx=>by have:=h.in6 x hx;unfold lev;dsimp only;omega)
 have k3:=k (0,1,0) (fun x hx=>by have:=h.in6 x hx;unfold lev;dsimp only;omega)
 have k4:=k (0,-1,6) (fun x hx=>by have:=h.in6 x hx;unfold lev;dsimp only;omega)
 unfold lev at k1 k2 k3 k4
 dsimp only at k1 k2 k3 k4
 omega
theorem line_ok {ax ay bx by_:Int} (h:Nod ax ay bx by_) (hn:¬ (ax=bx∧ay=by_)):(lineF ax ay bx by_).1.natAbs≤1∧(lineF ax ay bx by_).2.1.natAbs≤1∧¬ ((lineF ax ay bx by_).1=0∧(lineF ax ay bx by_).2.1=0):=by
 obtain ⟨a0,a1,b0,b1,c0,c1,e0,e1⟩:=h
 unfold lineF
 dsimp only
 omega
theorem lenE {l:List Spt}:eqM (lenM l) 0=decide (l=[]):=by
 cases l with
 | nil=>rfl
 | cons x l=>rw [decide_eq_false (by simp),lenL,neI (by rw [List.length_cons];omega)]
theorem polyE_ok {W H:Nat} {ax ay bx by_ cx cy:Int} (T:Trg W H ax ay bx by_ cx cy) {l:List Spt} (hP:Pol l) (hlen:l.length≤8) :
  polyE ax ay bx by_ cx cy l=some (clL [lineF cx cy ax ay,lineF bx by_ cx cy,lineF ax ay bx by_] l)∧Pol (clL [lineF cx cy ax ay,lineF bx by_ cx cy,lineF ax ay bx by_] l)∧(clL [lineF cx cy ax ay,lineF bx by_ cx cy,lineF ax ay bx by_] l).length≤64:=by
 have n1:=line_ok T.ab T.nab
 have n2:=line_ok T.bc T.nbc
 have n3:=line_ok T.ca T.nca
 have P1:=pol_clR n1.1 n1.2.1 n1.2.2 hP
 have P2:=pol_clR n2.1 n2.2.1 n2.2.2 P1
 have P3:=pol_clR n3.1 n3.2.1 n3.2.2 P2
 have k1:(clR (lineF ax ay bx by_) l).length≤16:=Nat.le_trans (clN_len _ _ _) (by omega)
 have k2:(clR (lineF bx by_ cx cy) (clR (lineF ax ay bx by_) l)).length≤32:=Nat.le_trans (clN_len _ _ _) (by omega)
 have k3:(clR (lineF cx cy ax ay) (clR (lineF bx by_ cx cy) (clR (lineF ax ay bx by_) l))).length≤64:=Nat.le_trans (clN_len _ _ _) (by omega)
 refine ⟨?_,P3,k3⟩
 show _=some (clR (lineF cx cy ax ay) (clR (lineF bx by_ cx cy) (clR (lineF ax ay bx by_) l)))
 unfold polyE
 rw [clipE_ok T.ab hP.bx (by omega),Option.bind_some]
 by_cases e1:clR (lineF ax ay bx by_) l=[]
 ·rw [lenE,e1];rfl
 ·rw [lenE,decide_eq_false e1,cond_false,clipE_ok T.bc P1.bx (by omega),Option.bind_some]
  by_cases e2:clR (lineF bx by_ cx cy) (clR (lineF ax ay bx by_) l)=[]
  ·rw [lenE,e2];rfl
  ·rw [lenE,decide_eq_false e2,cond_false,clipE_ok T.ca P2.bx (by omega),Option.bind_some]
   cases eqM (lenM (clR (lineF cx cy ax ay) (clR (lineF bx by_ cx cy) (clR (lineF ax ay bx by_) l)))) 0<;>rfl
theorem trg_low {W H:Nat} {x y:Nat} (w6:W≤6) (h6:H≤6) (hx:x<W) (hy:y<H):Trg W H x y ((x:Int)+1) y ((x:Int)+1) ((y:Int)+1) :=
 ⟨⟨by omega,by omega,by omega,by omega,by omega,by omega,by omega,by omega⟩,⟨by omega,by omega,by omega,by omega,by omega,by omega,by omega,by omega⟩,⟨by omega,by omega,by omega,by omega,by omega,by omega,by omega,by omega⟩,by omega,by omega,by omega,by omega,by omega,by omega⟩
theorem trg_upp {W H:Nat} {x y:Nat} (w6:W≤6) (h6:H≤6) (hx:x<W) (hy:y<H):Trg W H x y ((x:Int)+1) ((y:Int)+1) x ((y:Int)+1) :=
 ⟨⟨by omega,by omega,by omega,by omega,by omega,by omega,by omega,by omega⟩,⟨by omega,by omega,by omega,by omega,by omega,by omega,by omega,by omega⟩,⟨by omega,by omega,by omega,by omega,by omega,by omega,by omega,by omega⟩,by omega,by omega,by omega,by omega,by omega,by omega⟩
theorem line_gY (x y:Int):lineF x y (x+1) y=gY y:=by
 unfold lineF gY;rw [show y-y=0 by omega,show x+1-x=1 by omega];simp
theorem line_lX (x y:Int):lineF (x+1) y (x+1) (y+1)=lX (x+1):=by
 unfold lineF lX;rw [show y+1-y=1 by omega,show x+1-(x+1)=0 by omega];simp
theorem line_dL (x y:Int):lineF (x+1) (y+1) x y=dgL (y-x):=by
 unfold lineF dgL;rw [show y-(y+1)=-1 by omega,show x-(x+1)=-1 by omega]
 refine Prod.ext rfl (Prod.ext rfl ?_)
 dsimp only
 omega
theorem line_ndL (x y:Int):lineF x y (x+1) (y+1)=neg3 (dgL (y-x)):=by
 unfold lineF dgL neg3;rw [show y+1-y=1 by omega,show x+1-x=1 by omega]
 refine Prod.ext rfl (Prod.ext rfl ?_)
 dsimp only
 omega
theorem line_lY (x y:Int):lineF (x+1) (y+1) x (y+1)=lY (y+1):=by
 unfold lineF lY;rw [show y+1-(y+1)=0 by omega,show x-(x+1)=-1 by omega]
 refine Prod.ext rfl (Prod.ext rfl ?_)
 dsimp only
 omega
theorem line_gX (x y:Int):lineF x (y+1) x y=gX x:=by
 unfold lineF gX;rw [show y-(y+1)=-1 by omega,show x-x=0 by omega]
 refine Prod.ext rfl (Prod.ext rfl ?_)
 dsimp only
 omega
def lowV (W:Nat) (v:Nat→Int) (x y:Int):Rat×Rat×Rat:=wV (lX (x+1)) (dgL (y-x)) (gY y) (nv W v x y) (nv W v (x+1) y) (nv W v (x+1) (y+1))
def uppV (W:Nat) (v:Nat→Int) (x y:Int):Rat×Rat×Rat:=wV (lY (y+1)) (gX x) (neg3 (dgL (y-x))) (nv W v x y) (nv W v (x+1) (y+1)) (nv W v x (y+1))
def ovT (W:Nat) (v:Nat→Int) (P:List Spt) (k:Nat):Rat :=
 if k % 2=0 then fan (lowV W v ((k / 2 % W:Nat):Int) ((k / 2 / W:Nat):Int)) (clL (lowL ((k / 2 % W:Nat):Int) ((k / 2 / W:Nat):Int)) P)
 else fan (uppV W v ((k / 2 % W:Nat):Int) ((k / 2 / W:Nat):Int)) (clL (uppL ((k / 2 % W:Nat):Int) ((k / 2 / W:Nat):Int)) P)
theorem ovT_low {W:Nat} (v:Nat→Int) (P:List Spt) {cx cy:Nat} (h:cx<W):ovT W v P (2*(cy*W+cx))=fan (lowV W v cx cy) (clL (lowL cx cy) P):=by
 unfold ovT
 rw [if_pos (by omega),show 2*(cy*W+cx) / 2=cy*W+cx by omega,Nat.mul_comm cy W,Nat.mul_add_mod,Nat.mod_eq_of_lt h,Nat.mul_add_div (by omega),Nat.div_eq_of_lt h,Nat.add_zero]
theorem ovT_upp {W:Nat} (v:Nat→Int) (P:List Spt) {cx cy:Nat} (h:cx<W):ovT W v P (2*(cy*W+cx)+1)=fan (uppV W v cx cy) (clL (uppL cx cy) P):=by
 unfold ovT
 rw [if_neg (by omega),show (2*(cy*W+cx)+1) / 2=cy*W+cx by omega,Nat.mul_comm cy W,Nat.mul_add_mod,Nat.mod_eq_of_lt h,Nat.mul_add_div (by omega),Nat.div_eq_of_lt h,Nat.add_zero]
def ovQ (W H:Nat) (v:Nat→Int) (P:List Spt):Rat:=qsum (2*(H*W)) (ovT W v P)
theorem low_step {W H:Nat} {v:Nat→Int} (h:OkV W H v) {P:List Spt} (hP:Pol P) (hlen:P.length≤8) {x y:Nat} (hx:x<W) (hy:y<H) {B:Nat} {acc:Rat} (hB:B≤50000000000000000) (hacc:Dn DO B acc) :
  ∃ Q,polyE x y ((x:Int)+1) y ((x:Int)+1) ((y:Int)+1) P=some Q∧fanE W (row (nn W H) v) x y ((x:Int)+1) y ((x:Int)+1) ((y:Int)+1) Q (rt acc)=some (rt (acc+fan (lowV W v x y) (clL (lowL x y) P)))∧Dn DO (B+300000000000000) (acc+fan (lowV W v x y) (clL (lowL x y) P)):=by
 have T:=trg_low (x:=x) (y:=y) h.w6 h.h6 hx hy
 obtain ⟨a,b,c⟩:=polyE_ok T hP hlen
 obtain ⟨d,e⟩:=fanE_ok h T b.bx c hB hacc
 rw [line_gY,line_lX,line_dL] at d e
 rw [line_gY,line_lX,line_dL] at a
 exact ⟨_,a,d,e⟩
theorem upp_step {W H:Nat} {v:Nat→Int} (h:OkV W H v) {P:List Spt} (hP:Pol P) (hlen:P.length≤8) {x y:Nat} (hx:x<W) (hy:y<H) {B:Nat} {acc:Rat} (hB:B≤50000000000000000) (hacc:Dn DO B acc) :
  ∃ Q,polyE x y ((x:Int)+1) ((y:Int)+1) x ((y:Int)+1) P=some Q∧fanE W (row (nn W H) v) x y ((x:Int)+1) ((y:Int)+1) x ((y:Int)+1) Q (rt acc)=some (rt (acc+fan (uppV W v x y) (clL (uppL x y) P)))∧Dn DO (B+300000000000000) (acc+fan (uppV W v x y) (clL (uppL x y) P)):=by
 have T:=trg_upp (x:=x) (y:=y) h.w6 h.h6 hx hy
 obtain ⟨a,b,c⟩:=polyE_ok T hP hlen
 obtain ⟨d,e⟩:=fanE_ok h T b.bx c hB hacc
 rw [line_ndL,line_lY,line_gX] at d e
 rw [line_ndL,line_lY,line_gX] at a
 exact ⟨_,a,d,e⟩
theorem ovQ_dn {W H:Nat} {v:Nat→Int} (h:OkV W H v) {P:List Spt} (hP:Pol P) (hlen:P.length≤8):∀ k,k≤2*(H*W)→Dn DO (k*300000000000000) (qsum k (ovT W v P))
 | 0,_=>Dn.zero
 | k+1,hk=>by
  have hWH:H*W≤36:=Nat.mul_le_mul h.h6 h.w6
  have ih:=ovQ_dn h hP hlen k (by omega)
  have w1:=h.w1
  have hc:k / 2<H*W:=by omega
  have hx:k / 2 % W<W:=Nat.mod_lt _ (by omega)
  have hy:k / 2 / W<H:=(Nat.div_lt_iff_lt_mul (by omega)).2 hc
  show Dn DO ((k+1)*300000000000000) (qsum k (ovT W v P)+ovT W v P k)
  rw [Nat.add_mul,Nat.one_mul]
  unfold ovT
  split
  ·obtain ⟨_,_,_,e⟩:=low_step h hP hlen hx hy (by omega) ih
   exact e
  ·obtain ⟨_,_,_,e⟩:=upp_step h hP hlen hx hy (by omega) ih
   exact e
theorem overE_ok {W H:Nat} {v:Nat→Int} (h:OkV W H v) {P:List Spt} (hP:Pol P) (hlen:P.length≤8):overE W H (row (nn W H) v) P=some (rt (ovQ W H v P)):=by
 have w6:=h.w6
 have h6:=h.h6
 have hWH:H*W≤36:=Nat.mul_le_mul h6 w6
 have hof:m25 (0,1)=some (rt (qsum (2*(0*W)) (ovT W v P)),0):=by
  rw [Nat.zero_mul]
  have:=of_ok (n:=0) (d:=1) (by decide) (by decide) (by decide)
  rw [this];rfl
 unfold overE
 rw [hof,Option.bind_some]
 refine bind_of (x:=rt (ovQ W H v P)) ?_ rfl
 refine count_loop (fun cy=>rt (qsum (2*(cy*W)) (ovT W v P))) H (fun cy hy=>?_) ?_
 ·dsimp only
  rw [ltI (by omega),cond_true,wrap_in (n:=(cy:Int)+1) (by omega) (by omega)]
  refine bind_of (x:=rt (qsum (2*((cy+1)*W)) (ovT W v P))) ?_ rfl
  refine count_loop (fun cx=>rt (qsum (2*(cy*W+cx)) (ovT W v P))) W (fun cx hx=>?_) ?_
  ·have hb:cy*W+cx+1≤H*W:=by
    have:(cy+1)*W≤H*W:=Nat.mul_le_mul_right _ hy
    rw [Nat.add_mul,Nat.one_mul] at this
    omega
   have dn:=ovQ_dn h hP hlen (2*(cy*W+cx)) (by omega)
   obtain ⟨Q1,a1,a2,a3⟩:=low_step h hP hlen hx hy (by omega) dn
   obtain ⟨Q2,b1,b2,b3⟩:=upp_step h hP hlen hx hy (by omega) a3
   have e1:qsum (2*(cy*W+cx)) (ovT W v P)+fan (lowV W v cx cy) (clL (lowL cx cy) P)+fan (uppV W v cx cy) (clL (uppL cx cy) P)=qsum (2*(cy*W+(cx+1))) (ovT W v P):=by
    rw [show 2*(cy*W+(cx+1))=2*(cy*W+cx)+1+1 by omega]
    show _=qsum (2*(cy*W+cx)) (ovT W v P)+ovT W v P (2*(cy*W+cx))+ovT W v P (2*(cy*W+cx)+1)
    rw [ovT_low v P hx,ovT_upp v P hx]
   rw [e1] at b2
   dsimp only
   rw [ltI (by omega),cond_true,wrap_in (n:=(cx:Int)+1) (by omega) (by omega)]
   refine bind_of a1 ?_
   refine bind_of a2 ?_
   refine bind_of b1 ?_
   refine bind_of b2 rfl
  ·dsimp only
   rw [geI (by omega),cond_false,Nat.add_mul,Nat.one_mul]
 ·dsimp only
  rw [geI (by omega),cond_false];rfl
end Go.Proofs.YtechphmljdgoaaaGreatDoor
namespace Go.Proofs.YtechphmljdgoaaaGreatDoor
open Go Go.Abs Go.PE Go.Num
open Go.IntKind (wrap)
def In6 (p:Int×Int):Prop:=0≤p.1∧p.1≤6∧0≤p.2∧p.2≤6
theorem mul6 {x y:Int} (hx:-6≤x∧x≤6) (hy:-6≤y∧y≤6):-36≤x*y∧x*y≤36:=by
 have:(x*y).natAbs≤36:=by rw [Int.natAbs_mul];exact Nat.mul_le_mul (show x.natAbs≤6 by omega) (show y.natAbs≤6 by omega)
 omega
theorem eqP (a b:Int×Int):PE.andM (eqM a.1 b.1) (eqM a.2 b.2)=decide (a=b):=by
 by_cases h:a=b
 ·rw [decide_eq_true h,h,eqI rfl,eqI rfl];rfl
 ·rw [decide_eq_false h]
  by_cases h1:a.1=b.1
  ·rw [eqI h1,andT,neI (fun e=>h (Prod.ext h1 e))]
  ·rw [neI h1,andF]
theorem turn_ok {a b c:Int×Int} (ha:In6 a) (hb:In6 b) (hc:In6 c):m68 ((a.1,a.2),(b.1,b.2),c.1,c.2)=some (trn a b c):=by
 obtain ⟨a0,a1,a2,a3⟩:=ha
 obtain ⟨b0,b1,b2,b3⟩:=hb
 obtain ⟨c0,c1,c2,c3⟩:=hc
 have p1:=mul6 (x:=b.1-a.1) (y:=c.2-a.2) (by omega) (by omega)
 have p2:=mul6 (x:=b.2-a.2) (y:=c.1-a.1) (by omega) (by omega)
 unfold m68 trn
 dsimp only
 rw [wrap_in (n:=b.1-a.1) (by omega) (by omega),wrap_in (n:=c.2-a.2) (by omega) (by omega),wrap_in (n:=b.2-a.2) (by omega) (by omega),wrap_in (n:=c.1-a.1) (by omega) (by omega),wrap_in (n:=(b.1-a.1)*_) (by omega) (by omega),wrap_in (n:=(b.2-a.2)*_) (by omega) (by omega),wrap_in (by omega) (by omega)]
theorem turn2_ok {a b c:Int×Int} (ha:In6 a) (hb:In6 b) (hc:In6 c):m64 ((a.1,a.2),(b.1,b.2),c.1,c.2)=some (trn a b c):=by
 obtain ⟨a0,a1,a2,a3⟩:=ha
 obtain ⟨b0,b1,b2,b3⟩:=hb
 obtain ⟨c0,c1,c2,c3⟩:=hc
 have p1:=mul6 (x:=b.1-a.1) (y:=c.2-a.2) (by omega) (by omega)
 have p2:=mul6 (x:=b.2-a.2) (y:=c.1-a.1) (by omega) (by omega)
 unfold m64 trn
 dsimp only
 rw [wrap_in (n:=b.1-a.1) (by omega) (by omega),wrap_in (n:=c.2-a.2) (by omega) (by omega),wrap_in (n:=b.2-a.2) (by omega) (by omega),wrap_in (n:=c.1-a.1) (by omega) (by omega),wrap_in (n:=(b.1-a.1)*_) (by omega) (by omega),wrap_in (n:=(b.2-a.2)*_) (by omega) (by omega),wrap_in (by omega) (by omega)]
theorem far_ok {a b:Int×Int} (ha:In6 a) (hb:In6 b):m69 ((a.1,a.2),b.1,b.2)=some (farD a b):=by
 obtain ⟨a0,a1,a2,a3⟩:=ha
 obtain ⟨b0,b1,b2,b3⟩:=hb
 have p1:=mul6 (x:=a.1-b.1) (y:=a.1-b.1) (by omega) (by omega)
 have p2:=mul6 (x:=a.2-b.2) (y:=a.2-b.2) (by omega) (by omega)
 unfold m69 farD
 dsimp only
 rw [wrap_in (n:=a.1-b.1) (by omega) (by omega),wrap_in (n:=a.2-b.2) (by omega) (by omega),wrap_in (n:=(a.1-b.1)*_) (by omega) (by omega),wrap_in (n:=(a.2-b.2)*_) (by omega) (by omega),wrap_in (by omega) (by omega)]
def lowS (f p:Int×Int):Int×Int:=if p.2<f.2∨(p.2=f.2∧p.1<f.1) then p else f
theorem lowF_ok:∀ (l:List (Int×Int)) (f:Int×Int),(l.foldl lowS f=f∨l.foldl lowS f∈l)∧((l.foldl lowS f).2<f.2∨((l.foldl lowS f).2=f.2∧(l.foldl lowS f).1≤f.1))∧∀ p∈l,(l.foldl lowS f).2<p.2∨((l.foldl lowS f).2=p.2∧(l.foldl lowS f).1≤p.1)
 | [],f=>⟨.inl rfl,.inr ⟨rfl,Int.le_refl _⟩,fun p hp=>by cases hp⟩
 | x::l,f=>by
  obtain ⟨h1,h2,h3⟩:=lowF_ok l (lowS f x)
  rw [List.foldl_cons]
  generalize l.foldl lowS (lowS f x)=g at *
  unfold lowS at *
  by_cases hc:x.2<f.2∨(x.2=f.2∧x.1<f.1)
  ·rw [if_pos hc] at h1 h2
   refine ⟨.inr ?_,by omega,fun p hp=>?_⟩
   ·rcases h1 with h | h
    ·rw [h];exact List.mem_cons_self
    ·exact List.mem_cons_of_mem _ h
   ·rcases List.mem_cons.1 hp with e | e
    ·rw [e];exact h2
    ·exact h3 p e
  ·rw [if_neg hc] at h1 h2
   refine ⟨?_,h2,fun p hp=>?_⟩
   ·rcases h1 with h | h
    ·exact .inl h
    ·exact .inr (List.mem_cons_of_mem _ h)
   ·rcases List.mem_cons.1 hp with e | e
    ·rw [e];omega
    ·exact h3 p e
theorem first_ok {x:List (Int×Int)} (hx:x.length≤1000) (f:Int×Int):loopM (fun (s:Int×Int×Int)=>bif ltM s.1 (lenM x) then ((idxM x s.1).bind fun r_1=>(bif PE.notM (ltM r_1.2 s.2.2) then idxM x s.1 else some (0,0)).bind fun r_2=>(bif PE.andM (PE.notM (ltM r_1.2 s.2.2)) (eqM r_2.2 s.2.2) then idxM x s.1 else some (0,0)).bind fun r_3 =>
  bif PE.orM (ltM r_1.2 s.2.2) (PE.andM (eqM r_2.2 s.2.2) (ltM r_3.1 s.2.1)) then (idxM x s.1).bind fun r=>some (r.1,r.2) else some (s.2.1,s.2.2)).bind fun o=>some (Sum.inl (wrap .i64 (s.1+1),o.1,o.2)) else some (Sum.inr (s.2.1,s.2.2))) (0,f.1,f.2)=some (x.foldl lowS f):=by
 refine loopM_fn (fun k=>((k:Int),(x.take k).foldl lowS f)) x.length (fun k hk=>?_) ?_
 ·have e:(x.take (k+1)).foldl lowS f=lowS ((x.take k).foldl lowS f) x[k]:=by
   rw [List.take_add_one,List.getElem?_eq_getElem hk,Option.toList_some,List.foldl_append];rfl
  dsimp only
  rw [e,lenL,ltI (by omega),cond_true,idxM_lt hk,Option.bind_some,wrap_in (by omega) (by omega)]
  generalize (x.take k).foldl lowS f=g
  generalize x[k]=p
  refine bind_of (x:=lowS g p) ?_ rfl
  unfold lowS
  by_cases h1:p.2<g.2
  ·rw [ltI h1,notT,cond_false,Option.bind_some,andF,cond_false,Option.bind_some,show ∀ b,PE.orM true b=true from fun _=>rfl,cond_true,if_pos (.inl h1)];rfl
  ·rw [geI (by omega),notF,cond_true,Option.bind_some,andT]
   by_cases h2:p.2=g.2
   ·rw [eqI h2,cond_true,Option.bind_some,orF,andT]
    by_cases h3:p.1<g.1
    ·rw [ltI h3,cond_true,if_pos (.inr ⟨h2,h3⟩)];rfl
    ·rw [geI (by omega),cond_false,if_neg (by omega)]
   ·rw [neI h2,cond_false,Option.bind_some,orF,andF,cond_false,if_neg (by omega)]
 ·dsimp only
  rw [lenL,geI (by omega),cond_false,List.take_length]
theorem next_ok {x:List (Int×Int)} (hx:x.length≤1000) (h6:∀ p∈x,In6 p) {a:Int×Int} (ha:In6 a):loopM (fun (s_1:Int×Int×Int)=>bif ltM s_1.1 (lenM x) then ((idxM x s_1.1).bind fun r_1=>bif PE.andM (eqM r_1.1 a.1) (eqM r_1.2 a.2) then some (s_1.2.1,s_1.2.2) else (idxM x s_1.1).bind fun r_2 =>
  (m68 ((a.1,a.2),(s_1.2.1,s_1.2.2),r_2.1,r_2.2)).bind fun r_3=>(bif PE.andM (PE.notM (PE.orM (PE.andM (eqM s_1.2.1 a.1) (eqM s_1.2.2 a.2)) (ltM r_3 0))) (eqM r_3 0) then idxM x s_1.1 else some (0,0)).bind fun r_4 =>
  (bif PE.andM (PE.notM (PE.orM (PE.andM (eqM s_1.2.1 a.1) (eqM s_1.2.2 a.2)) (ltM r_3 0))) (eqM r_3 0) then m69 ((a.1,a.2),r_4.1,r_4.2) else some 0).bind fun r_5 =>
  (bif PE.andM (PE.notM (PE.orM (PE.andM (eqM s_1.2.1 a.1) (eqM s_1.2.2 a.2)) (ltM r_3 0))) (eqM r_3 0) then m69 ((a.1,a.2),s_1.2.1,s_1.2.2) else some 0).bind fun r_6 =>
  bif PE.orM (PE.orM (PE.andM (eqM s_1.2.1 a.1) (eqM s_1.2.2 a.2)) (ltM r_3 0)) (PE.andM (eqM r_3 0) (ltM r_6 r_5)) then (idxM x s_1.1).bind fun r=>some (r.1,r.2) else some (s_1.2.1,s_1.2.2)).bind fun o=>some (Sum.inl (wrap .i64 (s_1.1+1),o.1,o.2)) else some (Sum.inr (s_1.2.1,s_1.2.2))) (0,a.1,a.2)=some (nxF a x):=by
 have hin:∀ (l:List (Int×Int)),(∀ p∈l,In6 p)→∀ n,In6 n→In6 (l.foldl (nxS a) n):=by
  intro l
  induction l with
  | nil=>intro _ n hn;exact hn
  | cons y l ih =>
   intro hl n hn
   refine ih (fun p hp=>hl p (List.mem_cons_of_mem _ hp)) _ ?_
   unfold nxS
   split
   ·exact hn
   ·split
    ·exact hl y List.mem_cons_self
    ·exact hn
 refine loopM_fn (fun k=>((k:Int),(x.take k).foldl (nxS a) a)) x.length (fun k hk=>?_) ?_
 ·have e:(x.take (k+1)).foldl (nxS a) a=nxS a ((x.take k).foldl (nxS a) a) x[k]:=by
   rw [List.take_add_one,List.getElem?_eq_getElem hk,Option.toList_some,List.foldl_append];rfl
  have hn:=hin (x.take k) (fun p hp=>h6 p (List.mem_of_mem_take hp)) a ha
  have hp:=h6 _ (List.getElem_mem hk)
  dsimp only
  rw [e,lenL,ltI (by omega),cond_true,idxM_lt hk,Option.bind_some,wrap_in (by omega) (by omega)]
  generalize (x.take k).foldl (nxS a) a=n at *
  generalize x[k]=p at *
  refine bind_of (x:=nxS a n p) ?_ rfl
  unfold nxS
  rw [eqP p a]
  by_cases hpa:p=a
  ·rw [decide_eq_true hpa,cond_true,if_pos hpa]
  ·rw [decide_eq_false hpa,cond_false,Option.bind_some,if_neg hpa,turn_ok ha hn hp,Option.bind_some,eqP n a]
   by_cases h1:n=a
   ·rw [decide_eq_true h1,show ∀ b,PE.orM true b=true from fun _=>rfl,notT,andF,cond_false,Option.bind_some,cond_false,Option.bind_some,cond_false,Option.bind_some,show ∀ b,PE.orM true b=true from fun _=>rfl,cond_true,if_pos (.inl h1)];rfl
   ·rw [decide_eq_false h1,orF]
    by_cases h2:trn a n p<0
    ·rw [ltI h2,notT,andF,cond_false,Option.bind_some,cond_false,Option.bind_some,cond_false,Option.bind_some,show ∀ b,PE.orM true b=true from fun _=>rfl,cond_true,if_pos (.inr (.inl h2))];rfl
    ·rw [geI (by omega),notF,andT]
     simp only [orF]
     by_cases h3:trn a n p=0
     ·rw [eqI h3,cond_true,Option.bind_some,cond_true,far_ok ha hp,Option.bind_some,cond_true,far_ok ha hn,Option.bind_some,andT]
      by_cases h4:farD a n<farD a p
      ·rw [ltI h4,cond_true,if_pos (.inr (.inr ⟨h3,h4⟩))];rfl
      ·rw [geI (by omega),cond_false,if_neg (fun q=>q.elim h1 fun q=>q.elim h2 fun q=>h4 q.2)]
     ·rw [neI h3,cond_false,Option.bind_some,cond_false,Option.bind_some,cond_false,Option.bind_some,andF,cond_false,if_neg (fun q=>q.elim h1 fun q=>q.elim h2 fun q=>h3 q.1)]
 ·dsimp only
  rw [lenL,geI (by omega),cond_false,List.take_length];rfl
theorem nxF_in {x:List (Int×Int)} {a:Int×Int} (ha:ExtP x a):(nxF a x=a∧∀ p∈x,p=a)∨Suc x a (nxF a x):=by
 have:=nxF_inv ha x [] a (fun p hp=>hp) (.inl ⟨rfl,fun p hp=>by cases hp⟩)
 rcases this with h | h
 ·exact .inl h
 ·exact .inr h
def HR (x l:List (Int×Int)):Prop:=l.length≤x.length∧(∀ p∈l,p∈x)∧(3≤l.length→Cvx l)
theorem hull_loop {x:List (Int×Int)} (hx:x.length≤1000) (h6:∀ p∈x,In6 p) (f:Int×Int) {body:List (Int×Int)×Int×Int→Option ((List (Int×Int)×Int×Int)⊕List (Int×Int))}
  (hb:∀ (out:List (Int×Int)) (a:Int×Int),In6 a→out.length≤1000→body (out,a.1,a.2)=if nxF a x=a∨nxF a x=f then some (.inr out) else some (.inl (out++[nxF a x],(nxF a x).1,(nxF a x).2))) :
  ∀ (n:Nat) (out:List (Int×Int)),Chn x out→out.getD 0 (0,0)=f→x.length≤out.length+n→∃ l,loopM body (out,(out.getD (out.length-1) (0,0)).1,(out.getD (out.length-1) (0,0)).2)=some l∧HR x l:=by
 intro n
 induction n with
 | zero =>
  intro out hC h0 hn
  have hp:=hC.pos
  have hm:=hC.mem (out.length-1) (by omega)
  have hlen:=hC.len
  refine ⟨out,?_,hlen,fun p hp=>?_,fun h3=>?_⟩
  ·rw [loopM_eq,hb _ _ (h6 _ hm.1) (by omega)]
   by_cases hc:nxF (out.getD (out.length-1) (0,0)) x=out.getD (out.length-1) (0,0)∨nxF (out.getD (out.length-1) (0,0)) x=f
   ·rw [if_pos hc];rfl
   ·exfalso
    rcases nxF_in hm.2 with h | h
    ·exact hc (.inl h.1)
    ·have:=(hC.app h (fun e=>hc (.inr (e.trans h0)))).len
     rw [List.length_append,List.length_singleton] at this
     omega
  ·obtain ⟨j,hj,e⟩:=mem_getD hp
   rw [e];exact (hC.mem j hj).1
  ·rcases nxF_in hm.2 with h | h
   ·exfalso
    have a1:=h.2 _ (hC.mem 0 (by omega)).1
    have a2:=h.2 _ (hC.mem 1 (by omega)).1
    have:=nd_getD hC.nd (i:=0) (j:=1) (by omega) (by omega) (a1.trans a2.symm)
    omega
   ·by_cases hc:nxF (out.getD (out.length-1) (0,0)) x=out.getD 0 (0,0)
    ·rw [hc] at h;exact hC.cvx h
    ·exfalso
     have:=(hC.app h hc).len
     rw [List.length_append,List.length_singleton] at this
     omega
 | succ n ih =>
  intro out hC h0 hn
  have hp:=hC.pos
  have hm:=hC.mem (out.length-1) (by omega)
  have hlen:=hC.len
  rcases nxF_in hm.2 with h | h
  ·refine ⟨out,?_,hlen,fun p hp=>?_,fun h3=>?_⟩
   ·rw [loopM_eq,hb _ _ (h6 _ hm.1) (by omega),if_pos (.inl h.1)];rfl
   ·obtain ⟨j,hj,e⟩:=mem_getD hp
    rw [e];exact (hC.mem j hj).1
   ·exfalso
    have a1:=h.2 _ (hC.mem 0 (by omega)).1
    have a2:=h.2 _ (hC.mem 1 (by omega)).1
    have:=nd_getD hC.nd (i:=0) (j:=1) (by omega) (by omega) (a1.trans a2.symm)
    omega
  ·by_cases hc:nxF (out.getD (out.length-1) (0,0)) x=f
   ·refine ⟨out,?_,hlen,fun p hp=>?_,fun h3=>?_⟩
    ·rw [loopM_eq,hb _ _ (h6 _ hm.1) (by omega),if_pos (.inr hc)];rfl
    ·obtain ⟨j,hj,e⟩:=mem_getD hp
     rw [e];exact (hC.mem j hj).1
    ·rw [hc,← h0] at h;exact hC.cvx h
   ·have hne:¬ (nxF (out.getD (out.length-1) (0,0)) x=out.getD (out.length-1) (0,0)∨nxF (out.getD (out.length-1) (0,0)) x=f):=fun q=>q.elim (fun e=>h.2.1 e) hc
    have hA:=hC.app h (fun e=>hc (e.trans h0))
    obtain ⟨l,e1,e2⟩:=ih _ hA (by rw [getD_app 0 (by omega)];exact h0) (by rw [List.length_append,List.length_singleton];omega)
    refine ⟨l,?_,e2⟩
    rw [List.length_append,List.length_singleton,Nat.add_sub_cancel,getD_last] at e1
    rw [loopM_eq,hb _ _ (h6 _ hm.1) (by omega),if_neg hne]
    exact e1
theorem hull_ok {x:List (Int×Int)} (h0:0<x.length) (hx:x.length≤1000) (h6:∀ p∈x,In6 p):∃ l,m41 x=some l∧HR x l:=by
 obtain ⟨l1,l2,l3⟩:=lowF_ok x x[0]
 have hf:x.foldl lowS x[0]∈x:=by
  rcases l1 with h | h
  ·rw [h];exact List.getElem_mem h0
  ·exact h
 have hE:ExtP x (x.foldl lowS x[0]):=ext_low l3
 have hfirst:=first_ok hx x[0]
 generalize x.foldl lowS x[0]=f at *
 unfold m41
 dsimp only
 rw [show idxM x 0=some x[0] from idxM_lt h0,Option.bind_some]
 obtain ⟨l,e1,e2⟩:=hull_loop hx h6 f (body:=fun (s:List (Int×Int)×Int×Int)=>(loopM (fun (s_1:Int×Int×Int)=>bif ltM s_1.1 (lenM x) then ((idxM x s_1.1).bind fun r_1=>bif PE.andM (eqM r_1.1 s.2.1) (eqM r_1.2 s.2.2) then some (s_1.2.1,s_1.2.2) else (idxM x s_1.1).bind fun r_2 =>
  (m68 ((s.2.1,s.2.2),(s_1.2.1,s_1.2.2),r_2.1,r_2.2)).bind fun r_3=>(bif PE.andM (PE.notM (PE.orM (PE.andM (eqM s_1.2.1 s.2.1) (eqM s_1.2.2 s.2.2)) (ltM r_3 0))) (eqM r_3 0) then idxM x s_1.1 else some (0,0)).bind fun r_4 =>
  (bif PE.andM (PE.notM (PE.orM (PE.andM (eqM s_1.2.1 s.2.1) (eqM s_1.2.2 s.2.2)) (ltM r_3 0))) (eqM r_3 0) then m69 ((s.2.1,s.2.2),r_4.1,r_4.2) else some 0).bind fun r_5 =>
  (bif PE.andM (PE.notM (PE.orM (PE.andM (eqM s_1.2.1 s.2.1) (eqM s_1.2.2 s.2.2)) (ltM r_3 0))) (eqM r_3 0) then m69 ((s.2.1,s.2.2),s_1.2.1,s_1.2.2) else some 0).bind fun r_6 =>
  bif PE.orM (PE.orM (PE.andM (eqM s_1.2.1 s.2.1) (eqM s_1.2.2 s.2.2)) (ltM r_3 0)) (PE.andM (eqM r_3 0) (ltM r_6 r_5)) then (idxM x s_1.1).bind fun r=>some (r.1,r.2) else some (s_1.2.1,s_1.2.2)).bind fun o=>some (Sum.inl (wrap .i64 (s_1.1+1),o.1,o.2)) else some (Sum.inr (s_1.2.1,s_1.2.2))) (0,s.2.1,s.2.2)).bind fun o_1 =>
  bif PE.orM (PE.andM (eqM o_1.1 s.2.1) (eqM o_1.2 s.2.2)) (PE.andM (eqM o_1.1 f.1) (eqM o_1.2 f.2)) then some (Sum.inr s.1) else (appM (nat_lit 16) s.1 [(o_1.1,o_1.2)]).bind fun r=>some (Sum.inl (r,o_1.1,o_1.2)))
  (fun out a ha hout=>by
   refine bind_of (next_ok hx h6 ha) ?_
   rw [eqP (nxF a x) a,eqP (nxF a x) f]
   by_cases hc:nxF a x=a∨nxF a x=f
   ·rw [if_pos hc]
    have:PE.orM (decide (nxF a x=a)) (decide (nxF a x=f))=true:=by
     rcases hc with h | h
     ·rw [decide_eq_true h];rfl
     ·rw [decide_eq_true h];cases decide (nxF a x=a)<;>rfl
    rw [this,cond_true]
   ·rw [if_neg hc,decide_eq_false (fun e=>hc (.inl e)),decide_eq_false (fun e=>hc (.inr e)),orF,cond_false,appM_of (by show (out.length+1)*16≤_;omega),Option.bind_some])
  x.length [f] (Chn.one hf hE) rfl (by omega)
 refine ⟨l,?_,e2⟩
 refine bind_of hfirst ?_
 exact bind_of e1 rfl
end Go.Proofs.YtechphmljdgoaaaGreatDoor
namespace Go.Proofs.YtechphmljdgoaaaGreatDoor
open Go Go.Abs Go.PE Go.Num
open Go.IntKind (wrap)
theorem icast_le {x y:Int} (h:x≤y):((x:Int):Rat)≤((y:Int):Rat):=Rat.intCast_le_intCast.2 h
theorem arT_mono {p q r n p' q' r' n':Int} (hp:p-n≤p'-n') (hq:q-n≤q'-n') (hr:r-n≤r'-n'):arT p q r n≤arT p' q' r' n' :=
 ar_mono (icast_le (by omega)) (icast_le (by omega)) (icast_le (by omega)) (icast_le (by omega)) (icast_le (by omega)) (icast_le (by omega)) (icast_le (by omega))
theorem qsum_le {f g:Nat→Rat}:∀ {n:Nat},(∀ i,i<n→f i≤g i)→qsum n f≤qsum n g
 | 0,_=>Rat.le_refl
 | n+1,h=>by
  have a:=qsum_le (n:=n) (f:=f) (g:=g) (fun i hi=>h i (by omega))
  have b:=h n (by omega)
  show qsum n f+f n≤qsum n g+g n
  grind
theorem tri_le {W H:Nat} {v v':Nat→Int} (hW:1≤W) (hv:∀ i,i<nn W H→v i≤v' i) {k:Nat} (hk:k<2*(H*W)):(triF W v k).1.2.2≤(triF W v' k).1.2.2∧(triF W v k).2.1.2.2≤(triF W v' k).2.1.2.2∧(triF W v k).2.2.2.2≤(triF W v' k).2.2.2.2:=by
 have hc:k / 2<H*W:=by omega
 have hx:k / 2 % W<W:=Nat.mod_lt _ (by omega)
 have hy:k / 2 / W<H:=(Nat.div_lt_iff_lt_mul (by omega)).2 hc
 have key:∀ cx cy:Int,0≤cx→cx≤W→0≤cy→cy≤H→nv W v cx cy≤nv W v' cx cy:=fun cx cy a b c d=>by
  obtain ⟨_,e,f⟩:=node_bd a b c d
  exact hv _ (by omega)
 unfold triF
 dsimp only
 generalize k / 2 % W=p at *
 generalize k / 2 / W=q at *
 have n00:=key (p:Int) (q:Int) (by omega) (by omega) (by omega) (by omega)
 have n10:=key ((p:Int)+1) (q:Int) (by omega) (by omega) (by omega) (by omega)
 have n11:=key ((p:Int)+1) ((q:Int)+1) (by omega) (by omega) (by omega) (by omega)
 have n01:=key (p:Int) ((q:Int)+1) (by omega) (by omega) (by omega) (by omega)
 split
 ·exact ⟨n00,n10,n11⟩
 ·exact ⟨n00,n11,n01⟩
theorem abQ_mono {W H:Nat} {v v':Nat→Int} {n n':Int} (hW:1≤W) (hv:∀ i,i<nn W H→v i≤v' i) (hn:n'≤n):abQ W H v n≤abQ W H v' n':=by
 refine qsum_le fun k hk=>?_
 obtain ⟨a,b,c⟩:=tri_le hW hv hk
 exact arT_mono (by omega) (by omega) (by omega)
def cmpQ (p q:Rat):Int:=cmp3 (p.num*q.den) (q.num*p.den)
theorem cmpQ_le {p q:Rat} (h:p≤q):cmpQ p q≤0:=by
 have:=(Rat.le_iff p q).1 h
 unfold cmpQ
 rcases Int.lt_or_eq_of_le this with x | x
 ·rw [cmp3_lt x];decide
 ·rw [cmp3_eq x];decide
theorem cmpQ_ge {p q:Rat} (h:q≤p):0≤cmpQ p q:=by
 have:=(Rat.le_iff q p).1 h
 unfold cmpQ
 rcases Int.lt_or_eq_of_le this with x | x
 ·rw [cmp3_gt x];decide
 ·rw [cmp3_eq x.symm];decide
theorem rcmp_q {p q:Rat} (hp:FitsR p) (hq:FitsR q):m24 (((rt p).1,(rt p).2),(rt q).1,(rt q).2)=some (cmpQ p q):=rcmp_ok hp hq
theorem andM_false (b:Bool):PE.andM b false=false:=by cases b<;>rfl
theorem eqs_self (x:List UInt8):eqsM x x=true:=eqsT rfl
theorem abQ_dn2 {W H:Nat} {v:Nat→Int} (h:OkV W H v) {n:Int} (n0:0≤n) (n1:n≤100):Dn DA 144 (abQ W H v n):=by
 have hWH:H*W≤36:=Nat.mul_le_mul h.h6 h.w6
 exact (abQ_dn h n0 n1 (2*(H*W)) (Nat.le_refl _)).mono (by omega)
theorem dnA_fits {q:Rat} (h:Dn DA 144 q):FitsR q:=h.fits2 (C:=1000) DA_pos (by omega) DA_fit
end Go.Proofs.YtechphmljdgoaaaGreatDoor
namespace Go.Proofs.YtechphmljdgoaaaGreatDoor
open Go Go.Abs Go.PE Go.Num
open Go.IntKind (wrap)
structure PlOK (W H:Nat) (l:List (Int×Int)):Prop where
 h3:3≤l.length
 h8:l.length≤8
 cvx:Cvx l
 on:∀ p∈l,0≤p.1∧p.1≤W∧0≤p.2∧p.2≤H
theorem PlOK.in6 {W H:Nat} {l:List (Int×Int)} (h:PlOK W H l) (w6:W≤6) (h6:H≤6):∀ p∈l,In6 p:=fun p hp=>by
 have:=h.on p hp
 unfold In6
 omega
def rectP (W H:Int):List (Int×Int):=[(0,0),(W,0),(W,H),(0,H)]
theorem rect_cvx {W H:Nat} (w1:1≤W) (h1:1≤H):Cvx (rectP W H):=by
 have hm:(0:Int)<(W:Int)*(H:Int):=Int.mul_pos (by omega) (by omega)
 have key:∀ i k,i<4→k<4→k≠i→k≠(i+1) % 4→0<trn ((rectP W H).getD i (0,0)) ((rectP W H).getD ((i+1) % 4) (0,0)) ((rectP W H).getD k (0,0)):=by
  intro i k hi hk g1 g2
  rcases (show i=0∨i=1∨i=2∨i=3 by omega) with rfl | rfl | rfl | rfl<;>rcases (show k=0∨k=1∨k=2∨k=3 by omega) with rfl | rfl | rfl | rfl<;>first
   | exact absurd rfl g1
   | (exfalso;omega)
   | (simp only [rectP,trn];simp;grind)
 exact key
theorem rect_ok {W H:Nat} (w1:1≤W) (h1:1≤H):PlOK W H (rectP W H):=by
 refine ⟨by show 3≤4;omega,by show 4≤8;omega,rect_cvx w1 h1,fun p hp=>?_⟩
 unfold rectP at hp
 simp only [List.mem_cons,List.not_mem_nil,or_false] at hp
 rcases hp with rfl | rfl | rfl | rfl<;>dsimp only<;>omega
def ptF (W H:Nat) (x:List (Int×Int)) (i:Nat):Int×Int:=(pk (x.getD i (0,0)).1 ((W:Int)+1),pk (x.getD i (0,0)).2 ((H:Int)+1))
theorem part_ok {W H:Nat} {lo hi:Nat→Int} (w1:1≤W) (w6:W≤6) (h1:1≤H) (h6:H≤6) {x:List (Int×Int)} (hx:∀ p∈x,i64 p.1∧i64 p.2):∃ l,m15 (fd W H lo hi,x)=some l∧PlOK W H l:=by
 have hloop:loopM (fun (s:Int×List (Int×Int))=>bif PE.andM (ltM s.1 (lenM x)) (ltM s.1 8) then (idxM x s.1).bind fun r=>(m32 (r.1,wrap .i64 ((W:Int)+1))).bind fun r_1=>(idxM x s.1).bind fun r_2=>(m32 (r_2.2,wrap .i64 ((H:Int)+1))).bind fun r_3 =>
   (appM (nat_lit 16) s.2 [(r_1,r_3)]).bind fun r=>some (Sum.inl (wrap .i64 (s.1+1),r)) else some (Sum.inr s.2)) (0,[])=some (row (min x.length 8) (ptF W H x)):=by
  refine count_loop (fun k=>row k (ptF W H x)) (min x.length 8) (fun k hk=>?_) ?_
  ·have hk2:k<x.length:=by omega
   have hm:x.getD k (0,0)∈x:=by simp [List.getD,hk2]
   have g:=hx _ hm
   have hidx:idxM x (k:Int)=some (x.getD k (0,0)):=by rw [idxM_lt hk2];simp [List.getD,hk2]
   dsimp only
   rw [lenL,ltI (by omega),ltI (by omega),andT,cond_true,hidx,Option.bind_some,wrap_in (n:=(W:Int)+1) (by omega) (by omega),pick_ok g.1 (by omega),Option.bind_some,Option.bind_some,wrap_in (n:=(H:Int)+1) (by omega) (by omega),pick_ok g.2 (by omega),Option.bind_some,app_rowOf (y:=(pk (x.getD k (0,0)).1 ((W:Int)+1),pk (x.getD k (0,0)).2 ((H:Int)+1))) (g:=ptF W H x) rfl (by show (k+1)*16≤_;omega),Option.bind_some,wrap_in (by omega) (by omega)]
  ·dsimp only
   have:PE.andM (ltM ((min x.length 8:Nat):Int) (lenM x)) (ltM ((min x.length 8:Nat):Int) 8)=false:=by
    rw [lenL]
    by_cases h:x.length<8
    ·rw [geI (by omega),andF]
    ·rw [geI (a:=((min x.length 8:Nat):Int)) (b:=8) (by omega),andM_false]
   rw [this,cond_false]
 have hon:∀ p∈row (min x.length 8) (ptF W H x),0≤p.1∧p.1≤W∧0≤p.2∧p.2≤H:=fun p hp=>by
  unfold row at hp
  obtain ⟨i,hi,e⟩:=List.mem_map.1 hp
  subst e
  have a1:=pk_lo (c:=(x.getD i (0,0)).1) (n:=(W:Int)+1) (by omega)
  have a2:=pk_hi (c:=(x.getD i (0,0)).1) (n:=(W:Int)+1) (by omega)
  have b1:=pk_lo (c:=(x.getD i (0,0)).2) (n:=(H:Int)+1) (by omega)
  have b2:=pk_hi (c:=(x.getD i (0,0)).2) (n:=(H:Int)+1) (by omega)
  unfold ptF
  dsimp only
  omega
 have hlen:(row (min x.length 8) (ptF W H x)).length=min x.length 8:=row_length _ _
 generalize row (min x.length 8) (ptF W H x)=o at *
 unfold m15 fd
 dsimp only
 by_cases h0:o.length=0
 ·refine ⟨rectP W H,bind_of hloop ?_,rect_ok w1 h1⟩
  rw [lenL,eqI (by omega),cond_true];rfl
 ·obtain ⟨l,e1,e2,e3,e4⟩:=hull_ok (x:=o) (by omega) (by omega) (fun p hp=>by have:=hon p hp;unfold In6;omega)
  by_cases h3:3≤l.length
  ·refine ⟨l,bind_of hloop ?_,h3,by omega,e4 h3,fun p hp=>hon p (e3 p hp)⟩
   rw [lenL,neI (by omega),cond_false,e1,Option.bind_some,lenL,leI (by omega),cond_true]
  ·refine ⟨rectP W H,bind_of hloop ?_,rect_ok w1 h1⟩
   rw [lenL,neI (by omega),cond_false,e1,Option.bind_some,lenL,gtI (by omega),cond_false];rfl
theorem getP {l:List (Int×Int)} {i:Nat} (h:i<l.length):idxM l (i:Int)=some (l.getD i (0,0)):=by rw [idxM_lt h];simp [List.getD,h]
theorem pvalid_ok {l:List (Int×Int)} (h3:3≤l.length) (h8:l.length≤8) (hc:Cvx l) (h6:∀ p∈l,In6 p):m28 l=some true:=by
 have hm:∀ {i:Nat},i<l.length→In6 (l.getD i (0,0)):=fun {i} hi=>h6 _ (by simp [List.getD,hi])
 unfold m28
 rw [lenL,geI (a:=(l.length:Int)) (b:=3) (by omega),geI (a:=8) (by omega),show PE.orM false false=false from rfl,notF,cond_true]
 refine bind_of (x:=false) ?_ ?_
 ·refine bind_of (x:=(-1:Int)) ?_ rfl
  refine bind_of (pass_loop (n:=l.length) (fun k hk=>?_) ?_) rfl
  ·obtain ⟨a0,a1,a2,a3⟩:=hm hk
   rw [ltI (by omega),cond_true,getP hk,Option.bind_some]
   unfold m65
   dsimp only
   rw [geI (a:=min _ _) (by omega),geI (a:=40) (by omega),show PE.orM false false=false from rfl,Option.bind_some,cond_false,wrap_in (by omega) (by omega)]
  ·rw [geI (by omega),cond_false]
 ·rw [show PE.orM false false=false from rfl,cond_false]
  refine bind_of (pass_loop (n:=l.length) (fun i hi=>?_) ?_) rfl
  ·have hn:(i+1) % l.length<l.length:=Nat.mod_lt _ (by omega)
   rw [ltI (by omega),cond_true,getP hi,Option.bind_some,wrap_in (n:=(i:Int)+1) (by omega) (by omega),remM_of (by omega) (by omega),Option.bind_some,show ((i:Int)+1) % (l.length:Int)=(((i+1) % l.length:Nat):Int) by rw [Int.natCast_emod];rfl]
   refine bind_of (pass_loop (n:=l.length) (fun k hk=>?_) ?_) rfl
   ·rw [ltI (by omega),cond_true,getP hk,Option.bind_some,wrap_in (n:=(k:Int)+1) (by omega) (by omega)]
    by_cases e1:k=i
    ·rw [eqI (a:=(k:Int)) (b:=(i:Int)) (by omega),notT,andF,cond_false,Option.bind_some,cond_false,Option.bind_some,andF,cond_false]
    ·rw [neI (a:=(k:Int)) (b:=(i:Int)) (by omega),notF,andT]
     by_cases e2:k=(i+1) % l.length
     ·rw [eqI (by omega),notT,cond_false,Option.bind_some,cond_false,Option.bind_some,andF,cond_false]
     ·have ht:=hc i k hi hk e1 e2
      rw [neI (by omega),notF,cond_true,getP hn,Option.bind_some,cond_true,turn2_ok (hm hi) (hm hn) (hm hk),Option.bind_some,andT,gtI (by omega),cond_false]
   ·rw [geI (by omega),cond_false]
  ·rw [geI (by omega),cond_false]
theorem PlOK.pol {W H:Nat} {l:List (Int×Int)} (h:PlOK W H l) (w6:W≤6) (h6:H≤6):Pol (spS l):=by
 refine ⟨spS_poly h.h3 h.cvx (fun p hp=>by have:=h.on p hp;omega),fun x hx=>?_⟩
 obtain ⟨p,hp,rfl⟩:=List.mem_map.1 hx
 have:=h.on p hp
 dsimp only
 omega
theorem fover_ok {W H:Nat} {lo hi:Nat→Int} (F:OkF W H lo hi) {l:List (Int×Int)} (hl:PlOK W H l):m17 (fd W H lo hi,l)=some (rt (ovQ W H lo (spS l)),rt (ovQ W H hi (spS l)),0):=by
 have w6:=F.w6
 have h6:=F.h6
 have hP:=hl.pol w6 h6
 have h8:=hl.h8
 have hlen:(spS l).length≤8:=by rw [spS_len];exact h8
 have v1:=valid_ok F
 have v2:=pvalid_ok hl.h3 h8 hl.cvx (hl.in6 w6 h6)
 have hs:loopM (fun (s:Int×List (Int×Int×Int))=>bif ltM s.1 (lenM l) then (idxM l s.1).bind fun r_2=>(appM (nat_lit 24) s.2 [(r_2.1,r_2.2,1)]).bind fun r=>some (Sum.inl (wrap .i64 (s.1+1),r)) else some (Sum.inr s.2)) (0,[])=some (spS l):=by
  refine count_loop (fun k=>spS (l.take k)) l.length (fun k hk=>?_) ?_
  ·have e:spS (l.take (k+1))=spS (l.take k)++[((l.getD k (0,0)).1,(l.getD k (0,0)).2,1)]:=by
    unfold spS
    rw [List.take_add_one,List.getElem?_eq_getElem hk,Option.toList_some,List.map_append]
    simp [List.getD,hk]
   have hk2:(spS (l.take k)).length≤8:=by rw [spS_len];exact Nat.le_trans (List.length_take_le _ _) (by omega)
   dsimp only
   rw [lenL,ltI (by omega),cond_true,getP hk,Option.bind_some,appM_of (by show ((spS (l.take k)).length+1)*24≤_;omega),Option.bind_some,wrap_in (by omega) (by omega),e]
  ·dsimp only
   rw [lenL,geI (by omega),cond_false,List.take_length]
 unfold m17
 unfold fd at v1 ⊢
 dsimp only
 rw [v1,Option.bind_some,notT,notF,cond_true,v2,Option.bind_some,notT,show PE.orM false false=false from rfl,notF,cond_true]
 refine bind_of (x:=false) ?_ ?_
 ·refine bind_of (x:=(-1:Int)) ?_ rfl
  refine bind_of (pass_loop (n:=l.length) (fun k hk=>?_) ?_) rfl
  ·have hm:l.getD k (0,0)∈l:=by simp [List.getD,hk]
   have:=hl.on _ hm
   rw [lenL,ltI (by omega),cond_true,getP hk,Option.bind_some,geI (a:=(W:Int)) (by omega),geI (a:=(H:Int)) (by omega),show PE.orM false false=false from rfl,cond_false,wrap_in (by omega) (by omega)]
  ·rw [lenL,geI (by omega),cond_false]
 ·rw [show PE.orM false false=false from rfl,cond_false]
  refine bind_of hs ?_
  refine bind_of (overE_ok F.okLo hP hlen) ?_
  refine bind_of (overE_ok F.okHi hP hlen) rfl
end Go.Proofs.YtechphmljdgoaaaGreatDoor
namespace Go.Proofs.YtechphmljdgoaaaGreatDoor
open Go Go.Abs Go.PE Go.Num
open Go.IntKind (wrap)
def BO:Nat:=21600000000000000
theorem ovQ_dn2 {W H:Nat} {v:Nat→Int} (h:OkV W H v) {P:List Spt} (hP:Pol P) (hlen:P.length≤8):Dn DO BO (ovQ W H v P):=by
 have hWH:H*W≤36:=Nat.mul_le_mul h.h6 h.w6
 exact (ovQ_dn h hP hlen (2*(H*W)) (Nat.le_refl _)).mono (by show _≤21600000000000000;omega)
end Go.Proofs.YtechphmljdgoaaaGreatDoor
namespace Go.Proofs.YtechphmljdgoaaaGreatDoor
open Go Go.Abs Go.PE Go.Num
open Go.IntKind (wrap)
theorem nv_le {W H:Nat} {v v':Nat→Int} (hv:∀ i,i<nn W H→v i≤v' i) {cx cy:Int} (a:0≤cx) (b:cx≤W) (c:0≤cy) (d:cy≤H):nv W v cx cy≤nv W v' cx cy:=by
 obtain ⟨_,e,f⟩:=node_bd a b c d
 exact hv _ (by omega)
theorem atv_le {W H:Nat} {v v':Nat→Int} (w1:1≤W) (h1:1≤H) (hv:∀ i,i<nn W H→v i≤v' i) {x y d:Int} (hd:1≤d) (x0:0≤x) (x1:x≤W*d) (y0:0≤y) (y1:y≤H*d):atv W H v x y d≤atv W H v' x y d:=by
 obtain ⟨a0,a1,a2,a3⟩:=cell_bd w1 hd x0 x1
 obtain ⟨b0,b1,b2,b3⟩:=cell_bd h1 hd y0 y1
 unfold atv
 generalize min (x / d) ((W:Int)-1)=px at *
 generalize min (y / d) ((H:Int)-1)=py at *
 have n00:=nv_le hv (cx:=px) (cy:=py) a0 (by omega) b0 (by omega)
 have n10:=nv_le hv (cx:=px+1) (cy:=py) (by omega) (by omega) b0 (by omega)
 have n01:=nv_le hv (cx:=px) (cy:=py+1) a0 (by omega) (by omega) (by omega)
 have n11:=nv_le hv (cx:=px+1) (cy:=py+1) (by omega) (by omega) (by omega) (by omega)
 unfold lowT uppT
 generalize hR:x-px*d=R at *
 generalize hU:y-py*d=U at *
 split
 ·have q1:=Int.mul_le_mul_of_nonneg_left n00 (show 0≤d-R by omega)
  have q2:=Int.mul_le_mul_of_nonneg_left n10 (show 0≤R-U by omega)
  have q3:=Int.mul_le_mul_of_nonneg_left n11 (show 0≤U by omega)
  omega
 ·have q1:=Int.mul_le_mul_of_nonneg_left n00 (show 0≤d-U by omega)
  have q2:=Int.mul_le_mul_of_nonneg_left n01 (show 0≤U-R by omega)
  have q3:=Int.mul_le_mul_of_nonneg_left n11 (show 0≤R by omega)
  omega
theorem sT_le {W H:Nat} {v v':Nat→Int} (w1:1≤W) (hv:∀ i,i<nn W H→v i≤v' i):∀ n,n≤2*(H*W)→sT W v n≤sT W v' n
 | 0,_=>Int.le_refl _
 | n+1,h=>by
  have a:=sT_le w1 hv n (by omega)
  obtain ⟨b,c,d⟩:=tri_le w1 hv (show n<2*(H*W) by omega)
  show sT W v n+tSum W v n≤sT W v' n+tSum W v' n
  unfold tSum
  omega
theorem dtr_nn {p q r:Spt} (hp:0<p.2.2) (hq:0<q.2.2) (hr:0<r.2.2) (h:0≤dt3 p q r):0≤dtr (rp p) (rp q) (rp r):=by
 have e:=dt3_dtr hp hq hr
 obtain ⟨_,_,a3⟩:=rp_mul hp
 obtain ⟨_,_,b3⟩:=rp_mul hq
 obtain ⟨_,_,c3⟩:=rp_mul hr
 have m:=Rat.mul_pos (Rat.mul_pos a3 b3) c3
 have h2:((0:Int):Rat)≤((dt3 p q r:Int):Rat):=icast_le h
 rw [e] at h2
 refine Rat.not_lt.1 fun hl=>?_
 have:=Rat.mul_lt_mul_of_pos_left hl m
 have z0:((0:Int):Rat)=0:=rfl
 grind
theorem vlq_wV (A B C:Spt) (a b c:Int) (p:RP):vlq (wV A B C a b c) p=(a:Rat)*lv A p+(b:Rat)*lv B p+(c:Rat)*lv C p:=by
 unfold vlq wV lv;grind
structure Cpt (l:List Spt):Prop where
 pol:Pol l
 tri:TriL l
theorem cpt_clR {l:List Spt} {L:Spt} (l1:L.1.natAbs≤1) (l2:L.2.1.natAbs≤1) (l0:¬ (L.1=0∧L.2.1=0)) (h:Cpt l):Cpt (clR L l):=⟨pol_clR l1 l2 l0 h.pol,clR_tri L h.pol.poly.d0 h.tri⟩
theorem cpt_clL {Ls:List Spt} (h:OkL Ls) {l:List Spt} (hc:Cpt l):Cpt (clL Ls l):=by
 induction Ls with
 | nil=>exact hc
 | cons L Ls ih =>
  obtain ⟨o,hL⟩:=h L (by simp)
  exact cpt_clR hL.l1 hL.l2 hL.l0 (ih (fun M hM=>h M (by simp [hM])))
theorem fan_le {A B C:Spt} {a b c a' b' c':Int} {l:List Spt} (hc:Cpt l) (hA:∀ s∈l,0≤lev A s) (hB:∀ s∈l,0≤lev B s) (hC:∀ s∈l,0≤lev C s) (ha:a≤a') (hb:b≤b') (hc':c≤c'):fan (wV A B C a b c) l≤fan (wV A B C a' b' c') l:=by
 have hd:=hc.pol.poly.d0
 have hv:∀ s∈l,vlq (wV A B C a b c) (rp s)≤vlq (wV A B C a' b' c') (rp s):=fun s hs=>by
  have m1:=Rat.mul_le_mul_of_nonneg_right (icast_le ha) ((lev_sgn A (hd s hs)).1.1 (hA s hs))
  have m2:=Rat.mul_le_mul_of_nonneg_right (icast_le hb) ((lev_sgn B (hd s hs)).1.1 (hB s hs))
  have m3:=Rat.mul_le_mul_of_nonneg_right (icast_le hc') ((lev_sgn C (hd s hs)).1.1 (hC s hs))
  rw [vlq_wV,vlq_wV]
  grind
 refine qsum_le fun i hi=>?_
 have m0:=getD_mem3 (show 0<l.length by omega)
 have m1:=getD_mem3 (show i+1<l.length by omega)
 have m2:=getD_mem3 (show i+2<l.length by omega)
 have ht:=dtr_nn (hd _ m0) (hd _ m1) (hd _ m2) (hc.tri 0 (i+1) (i+2) (by omega) (by omega) (by omega))
 have v0:=hv _ m0
 have v1:=hv _ m1
 have v2:=hv _ m2
 unfold phi
 generalize dtr (rp (l.getD 0 z3)) (rp (l.getD (i+1) z3)) (rp (l.getD (i+2) z3))=t at *
 have:=Rat.mul_le_mul_of_nonneg_left (show vlq (wV A B C a b c) (rp (l.getD 0 z3))+vlq (wV A B C a b c) (rp (l.getD (i+1) z3))+vlq (wV A B C a b c) (rp (l.getD (i+2) z3))≤vlq (wV A B C a' b' c') (rp (l.getD 0 z3))+vlq (wV A B C a' b' c') (rp (l.getD (i+1) z3))+vlq (wV A B C a' b' c') (rp (l.getD (i+2) z3)) by grind) ht
 grind
theorem ovQ_le {W H:Nat} {v v':Nat→Int} (w1:1≤W) (hv:∀ i,i<nn W H→v i≤v' i) {P:List Spt} (hc:Cpt P):ovQ W H v P≤ovQ W H v' P:=by
 refine qsum_le fun k hk=>?_
 have hk2:k / 2<H*W:=by omega
 have hx:k / 2 % W<W:=Nat.mod_lt _ (by omega)
 have hy:k / 2 / W<H:=(Nat.div_lt_iff_lt_mul (by omega)).2 hk2
 unfold ovT
 generalize k / 2 % W=x at *
 generalize k / 2 / W=y at *
 have n00:=nv_le hv (cx:=(x:Int)) (cy:=(y:Int)) (by omega) (by omega) (by omega) (by omega)
 have n10:=nv_le hv (cx:=(x:Int)+1) (cy:=(y:Int)) (by omega) (by omega) (by omega) (by omega)
 have n11:=nv_le hv (cx:=(x:Int)+1) (cy:=(y:Int)+1) (by omega) (by omega) (by omega) (by omega)
 have n01:=nv_le hv (cx:=(x:Int)) (cy:=(y:Int)+1) (by omega) (by omega) (by omega) (by omega)
 split
 ·have hl:=clL_left (okL_low x y) hc.pol.poly
  exact fan_le (cpt_clL (okL_low x y) hc) (hl _ (by simp [lowL])) (hl _ (by simp [lowL])) (hl _ (by simp [lowL])) n00 n10 n11
 ·have hl:=clL_left (okL_upp x y) hc.pol.poly
  exact fan_le (cpt_clL (okL_upp x y) hc) (hl _ (by simp [uppL])) (hl _ (by simp [uppL])) (hl _ (by simp [uppL])) n00 n11 n01
theorem PlOK.cpt {W H:Nat} {l:List (Int×Int)} (h:PlOK W H l) (w6:W≤6) (h6:H≤6):Cpt (spS l):=⟨h.pol w6 h6,spS_tri h.cvx⟩
theorem eqM_self (a:Int):eqM a a=true:=eqI rfl
theorem orff:PE.orM false false=false:=rfl
theorem law5b_ok (x:(Int×Int×Int×Int)×(List (Int×Int))×List Int×(List (Int×Int))×Int×Int×Int×Int) (hw:i64 x.1.1) (hh:i64 x.1.2.1) (h1:∀ p∈x.2.1,i64 p.1∧i64 p.2) (l1:x.2.1.length≤maxLen) (h2:∀ p∈x.2.2.1,i64 p) (l2:x.2.2.1.length≤maxLen)
  (h3:∀ p∈x.2.2.2.1,i64 p.1∧i64 p.2) (g1:i64 x.2.2.2.2.1) (g2:i64 x.2.2.2.2.2.1) (g3:i64 x.2.2.2.2.2.2.1) (g4:i64 x.2.2.2.2.2.2.2):m5 x=some true:=by
 obtain ⟨⟨w,h,s2,s3⟩,xs,vs,ls,px,py,dd,li⟩:=x
 dsimp only at hw hh h1 l1 h2 l2 h3 g1 g2 g3 g4
 have F:=made_F (w:=w) (h:=h) (size:=6) (most:=100) (x:=xs) (by omega) (by omega) (by omega) (by omega)
 have e1:=made_ok (size:=6) (most:=100) hw hh (by omega) (by omega) (by omega) (by omega) h1 l1
 generalize szF w 6=W at *
 generalize szF h 6=H at *
 generalize loF 100 xs=lo at *
 generalize hiF 100 xs=hi at *
 have w1:=F.w1
 have w6:=F.w6
 have h1':=F.h1
 have h6:=F.h6
 have eb:=between_ok F h2 l2
 have FB:=bw_F F vs
 have bB:∀ i,i<nn W H→lo i≤bwF lo hi vs i∧bwF lo hi vs i≤hi i:=fun i hi9=>bw_bd (F.lh i hi9)
 generalize bwF lo hi vs=bw at *
 have d0:=pk_lo (c:=dd) (n:=60) (by omega)
 have d1:=pk_hi (c:=dd) (n:=60) (by omega)
 have p2:=pickL_ok (n:=60) g3 (by omega)
 obtain ⟨d,hd⟩:∃ d,d=1+pk dd 60:=⟨_,rfl⟩
 have wd:=prod_bd (a:=(W:Int)) (b:=d) (A:=6) (B:=60) (by omega) (by omega) (by omega) (by omega)
 have hdd:=prod_bd (a:=(H:Int)) (b:=d) (A:=6) (B:=60) (by omega) (by omega) (by omega) (by omega)
 have x0:=pk_lo (c:=px) (n:=(W:Int)*d+1) (by omega)
 have x1:=pk_hi (c:=px) (n:=(W:Int)*d+1) (by omega)
 have p3:=pickL_ok (n:=(W:Int)*d+1) g1 (by omega)
 have y0:=pk_lo (c:=py) (n:=(H:Int)*d+1) (by omega)
 have y1:=pk_hi (c:=py) (n:=(H:Int)*d+1) (by omega)
 have p4:=pickL_ok (n:=(H:Int)*d+1) g2 (by omega)
 generalize pk px ((W:Int)*d+1)=X at *
 generalize pk py ((H:Int)*d+1)=Y at *
 have n0:=pk_lo (c:=li) (n:=101) (by omega)
 have n1:=pk_hi (c:=li) (n:=101) (by omega)
 have p5:=pickL_ok (n:=101) g4 (by omega)
 generalize pk li 101=n at *
 have hcond:1≤d∧d≤60∧0≤X∧X≤W*d∧0≤Y∧Y≤H*d:=⟨by omega,by omega,by omega,by omega,by omega,by omega⟩
 have atx:∀ {l1 h1:Nat→Int},OkF W H l1 h1→m13 (fd W H l1 h1,X,Y,d)=some (atv W H l1 X Y d,atv W H h1 X Y d,0):=fun {l1 h1} hF=>by
  rw [at_ok hF];unfold atR;rw [if_pos hcond]
 have atm:∀ {v v':Nat→Int},(∀ i,i<nn W H→v i≤v' i)→atv W H v X Y d≤atv W H v' X Y d:=fun hv=>atv_le w1 h1' hv hcond.1 hcond.2.2.1 hcond.2.2.2.1 hcond.2.2.2.2.1 hcond.2.2.2.2.2
 obtain ⟨pl,ep,hpl⟩:=part_ok (lo:=lo) (hi:=hi) w1 w6 h1' h6 h3
 have hPol:=hpl.pol w6 h6
 have hcpt:=hpl.cpt w6 h6
 have hlen:(spS pl).length≤8:=by rw [spS_len];exact hpl.h8
 have t1:=atx F
 have i1:=integral_ok F
 have o1:=fover_ok F hpl
 have a1:=above_ok F n0 (show n≤100 by omega)
 have fo:∀ {v:Nat→Int},OkV W H v→FitsR (ovQ W H v (spS pl)):=fun {v} hv=>(ovQ_dn2 hv hPol hlen).fits2 (C:=1000000000000000000) DO_pos (by decide) DO_fit
 have fa:∀ {v:Nat→Int},OkV W H v→FitsR (abQ W H v n):=fun {v} hv=>dnA_fits (abQ_dn2 hv n0 (show n≤100 by omega))
 unfold m5
 unfold fd at e1 eb t1 i1 o1 a1 ep
 dsimp only
 rw [sane_ok,Option.bind_some,notT,cond_false,e1,Option.bind_some,p2,Option.bind_some,wrap_in (n:=1+pk dd 60) (by omega) (by omega),← hd,wrap_in (n:=(W:Int)*d) (by omega) (by omega),wrap_in (n:=(W:Int)*d+1) (by omega) (by omega),p3,Option.bind_some,wrap_in (n:=(H:Int)*d) (by omega) (by omega),wrap_in (n:=(H:Int)*d+1) (by omega) (by omega),p4,Option.bind_some,ep,Option.bind_some,p5,Option.bind_some,eb,Option.bind_some]
 refine bind_of t1 ?_
 refine bind_of i1 ?_
 refine bind_of o1 ?_
 refine bind_of a1 ?_
 dsimp only
 rw [eqM_self,notT,orff,orff,cond_false]
 refine bind_of (pass_loop (n:=3) (fun k hk=>?_) ?_) rfl
 ·obtain ⟨v,hF,hlo,hhi,hidx,hk0,hk1⟩:∃ v:Nat→Int,OkF W H v v∧(∀ i,i<nn W H→lo i≤v i)∧(∀ i,i<nn W H→v i≤hi i)∧idxM [((W:Int),(H:Int),row (nn W H) lo,row (nn W H) lo),((W:Int),(H:Int),row (nn W H) hi,row (nn W H) hi),((W:Int),(H:Int),row (nn W H) bw,row (nn W H) bw)] (k:Int)=some ((W:Int),(H:Int),row (nn W H) v,row (nn W H) v)∧(k=0→v=lo)∧(k=1→v=hi):=by
   rcases (show k=0∨k=1∨k=2 by omega) with rfl | rfl | rfl
   ·exact ⟨lo,⟨w1,w6,h1',h6,F.l0,fun _ _=>Int.le_refl _,fun i hi9=>by have:=F.lh i hi9;have:=F.h9 i hi9;omega⟩,fun _ _=>Int.le_refl _,F.lh,rfl,fun _=>rfl,fun e=>by omega⟩
   ·exact ⟨hi,⟨w1,w6,h1',h6,fun i hi9=>by have:=F.lh i hi9;have:=F.l0 i hi9;omega,fun _ _=>Int.le_refl _,F.h9⟩,F.lh,fun _ _=>Int.le_refl _,rfl,fun e=>by omega,fun _=>rfl⟩
   ·exact ⟨bw,FB,fun i hi9=>(bB i hi9).1,fun i hi9=>(bB i hi9).2,rfl,fun e=>by omega,fun e=>by omega⟩
  have t2:=atx hF
  have i2:=integral_ok hF
  have o2:=fover_ok hF hpl
  have a2:=above_ok hF n0 (show n≤100 by omega)
  have u1:=atm hlo
  have u2:=atm hhi
  have u3:=sT_le (H:=H) w1 hlo (2*(H*W)) (Nat.le_refl _)
  have u4:=sT_le (H:=H) w1 hhi (2*(H*W)) (Nat.le_refl _)
  have u5:=ovQ_le (H:=H) w1 hlo hcpt
  have u6:=ovQ_le (H:=H) w1 hhi hcpt
  have u7:=abQ_mono (H:=H) (n:=n) (n':=n) w1 hlo (Int.le_refl _)
  have u8:=abQ_mono (H:=H) (n:=n) (n':=n) w1 hhi (Int.le_refl _)
  have f1:=fo hF.okLo
  have f2:=fo F.okLo
  have f3:=fo F.okHi
  have f4:=fa hF.okLo
  have f5:=fa F.okLo
  have f6:=fa F.okHi
  unfold fd at t2 i2 o2 a2
  rw [show lenM [((W:Int),(H:Int),row (nn W H) lo,row (nn W H) lo),((W:Int),(H:Int),row (nn W H) hi,row (nn W H) hi),((W:Int),(H:Int),row (nn W H) bw,row (nn W H) bw)]=3 from rfl,ltI (by omega),cond_true,hidx,Option.bind_some]
  refine bind_of t2 ?_
  refine bind_of i2 ?_
  refine bind_of o2 ?_
  refine bind_of a2 ?_
  dsimp only
  rw [eqM_self,eqM_self,eqM_self,eqs_self,eqs_self,eqs_self,eqs_self,andT,notT,geI u1,geI u2,geI u3,geI u4]
  simp only [orff,notF,cond_true]
  rw [rcmp_q f1 f2,Option.bind_some,geI (cmpQ_ge u5)]
  simp only [orff,notF,cond_true]
  rw [rcmp_q f1 f3,Option.bind_some,geI (cmpQ_le u6)]
  simp only [orff,notF,cond_true]
  rw [rcmp_q f4 f5,Option.bind_some,geI (cmpQ_ge u7)]
  simp only [orff,notF,cond_true]
  rw [rcmp_q f4 f6,Option.bind_some,geI (cmpQ_le u8)]
  simp only [orff,cond_false]
  rw [wrap_in (n:=(k:Int)+1) (by omega) (by omega)]
  by_cases e0:k=0
  ·have ev:=hk0 e0
   subst ev
   subst e0
   rw [eqM_self,eqM_self,eqs_self,eqs_self,eqs_self,eqs_self,show eqM ((0:Nat):Int) 0=true from rfl,show eqM ((0:Nat):Int) 1=false from rfl]
   rfl
  ·by_cases e2:k=1
   ·have ev:=hk1 e2
    subst ev
    subst e2
    rw [eqM_self,eqM_self,eqs_self,eqs_self,eqs_self,eqs_self,show eqM ((1:Nat):Int) 0=false from rfl,show eqM ((1:Nat):Int) 1=true from rfl]
    rfl
   ·rw [neI (a:=(k:Int)) (b:=0) (by omega),neI (a:=(k:Int)) (b:=1) (by omega)]
    rfl
 ·rfl
end Go.Proofs.YtechphmljdgoaaaGreatDoor
namespace Go.Proofs.YtechphmljdgoaaaGreatDoor
open Go Go.Abs Go.PE
theorem mem_in {t:Ty} {l:List t.den} (h:InR (.list t) l):∀ x∈l,InR t x:=fun x hx=>by
 obtain ⟨i,hi,rfl⟩:=List.mem_iff_getElem.1 hx
 exact h.2 i _ (List.getElem?_eq_getElem hi)
theorem law5:∀ (S:Cells) (w:World) (η:Eta) (vs:List Value) x,All2 (RM S w η) (rvs as5 x) vs→m5 x=some true :=
 law_of_ok fun x h=>law5b_ok x h.1.1 h.1.2.1 (mem_in h.2.1) h.2.1.1 (mem_in h.2.2.1) h.2.2.1.1 (mem_in h.2.2.2.1) h.2.2.2.2.1 h.2.2.2.2.2.1 h.2.2.2.2.2.2.1 h.2.2.2.2.2.2.2
end Go.Proofs.YtechphmljdgoaaaGreatDoor
