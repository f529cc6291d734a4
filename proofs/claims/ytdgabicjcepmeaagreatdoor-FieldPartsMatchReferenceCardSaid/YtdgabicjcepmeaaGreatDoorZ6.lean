/-
 Texts of this proof, put together: Ic, Id, Ie, If, Ig, Ih, Fx, Gb, Gc, Gd, Ge, Hk, Hl, Hm, Ja, Jb, Jc, Jd, Je, Jf, Jg, Jh, Ji, Jk, Hn.
 No conditions.
-/
import Derived.Test.YtdgabicjcepmeaaGreatDoorZ5
set_option linter.all false
namespace Go.Proofs.YtdgabicjcepmeaaGreatDoor
open Go Go.Lib Go.Abs Go.PE Go.Num
theorem itoa_zero:itoa 0=[48]:=by rw [show (0:Int)=((0:Nat):Int) from rfl,itoa_nn,dec_zero]
theorem itoa_eq0 {z:Int}:itoa z=[48]↔z=0:=⟨fun h=>itoa_inj (h.trans itoa_zero.symm),fun h=>h▸itoa_zero⟩
theorem eqsT {x y:List UInt8} (h:x=y):eqsM x y=true:=decide_eq_true h
theorem eqsF {x y:List UInt8} (h:x≠y):eqsM x y=false:=decide_eq_false h
theorem lenI {α:Type} (l:List α):lenM l=(l.length:Int):=rfl
theorem snoc_of {α:Type} {l:List α} (h:l≠[]):∃ t d,l=t++[d]:=⟨l.dropLast,l.getLast h,(List.dropLast_concat_getLast h).symm⟩
theorem strip_ok {l:List Int} (h:okd l) (hl:l.length≤100000):m145 l=some (grp (vl l).toNat):=by
 unfold m145
 refine bind_of (loopM_is (r:=grp (vl l).toNat) (fun k s=>okd s∧vl s=vl l∧s.length+k=l.length) l.length ⟨h,rfl,by omega⟩ ?_) rfl
 rintro k s hk ⟨h1,h2,h3⟩
 by_cases h0:s=[]
 ·subst h0
  right
  have e:vl l=0:=h2.symm
  rw [e,show (0:Int).toNat=0 from rfl,grp_zero];rfl
 ·obtain ⟨t,d,rfl⟩:=snoc_of h0
  have hlen:lenM (t++[d])=(t.length:Int)+1:=by rw [lenI];simp
  have hlen2:(t++[d]).length=t.length+1:=by simp
  have e:IntKind.wrap .i64 (lenM (t++[d])-1)=(t.length:Int):=by rw [hlen,wrap_in (by omega) (by omega)];omega
  have e1:idxM (t++[d]) (t.length:Int)=some d:=by rw [idxM_nat];simp
  have e2:sliceM (t++[d]) 0 (t.length:Int)=some t:=by rw [sliceM_of (by omega) (by omega) (by rw [hlen2];omega)];simp
  rw [e,ltI (show (0:Int)<lenM (t++[d]) by rw [hlen];omega),cond_true,e1,Option.bind_some,andT]
  by_cases hd:d=0
  ·left
   refine ⟨t,by omega,by rw [eqI hd,cond_true,e2];rfl,(okd_app.1 h1).1,?_,by omega⟩
   rw [← h2,vl_snoc,hd];omega
  ·right
   rw [neI hd,cond_false,← h2,grp_of h1 fun _=>by simpa using hd]
theorem ivalid_ok {z:Int} (h:z.natAbs<10 ^ 200):m106 (itoa z)=some true:=by
 unfold m106
 have e0:prefM (itoa z) [(45:UInt8)]=decDigits z.natAbs:=pref_itoa z
 have hl:(decDigits z.natAbs).length≤200:=dec_len_le (k:=199) h
 have e3:trimM (decDigits z.natAbs) [(48:UInt8),(49:UInt8),(50:UInt8),(51:UInt8),(52:UInt8),(53:UInt8),(54:UInt8),(55:UInt8),(56:UInt8),(57:UInt8)]=some []:=by
  have e:trimM (decDigits z.natAbs) cyph=some (trimS (decDigits z.natAbs) cyph):=rfl
  rw [trim_dig fun c hc=>cyph_in (dec_isD _ c hc)] at e
  exact e
 rw [e0,eqsF (dec_ne _),geI (show lenM (decDigits z.natAbs)≤200 by rw [lenI];omega),orF,notF,cond_true,e3,Option.bind_some,orF,eqsT rfl,notT,cond_false]
 by_cases hz:z=0
 ·subst hz;rw [itoa_zero];rfl
 ·obtain ⟨c,l,e,hc⟩:=dec_head (n:=z.natAbs) (by omega)
  rw [eqsF fun e=>hz (itoa_eq0.1 e),notF,cond_true,e]
  have e4:byteM (c::l) 0=some (c.toNat:Int):=rfl
  rw [e4,Option.bind_some,orF,neI fun h=>hc (UInt8.toNat_inj.1 (by rw [show (48:UInt8).toNat=48 from rfl];omega))];rfl
theorem atoi_ok {l:List UInt8} (h0:l≠[]) (h:∀ c∈l,isD c) (hl:l.length≤4):atoiM l=some (dv l:Int):=by
 have hd:=dv_lt h
 have hp:10 ^ l.length≤10 ^ 4:=Nat.pow_le_pow_right (by omega) hl
 unfold atoiM
 rw [atoi_dv h0 h (by omega),decide_eq_true (show l.length≤9223372036854775806 by omega)]
 dsimp only
 rw [decide_eq_true (show (-9223372036854775808:Int)≤dv l by omega),decide_eq_true (show (dv l:Int)≤9223372036854775807 by omega)]
theorem parse_ok {z:Int} (h:z.natAbs<10 ^ 200):m114 (itoa z)=some (decide (z<0),grp z.natAbs):=by
 unfold m114
 have e0:prefM (itoa z) [(45:UInt8)]=decDigits z.natAbs:=pref_itoa z
 have hl:(decDigits z.natAbs).length≤200:=dec_len_le (k:=199) h
 have hn:ltM (lenM (decDigits z.natAbs)) (lenM (itoa z))=decide (z<0):=by
  have:=itoa_len z
  by_cases hz:z<0
  ·rw [if_pos hz] at this;rw [decide_eq_true hz];exact ltI (by rw [lenI,lenI];omega)
  ·rw [if_neg hz] at this;rw [decide_eq_false hz];exact geI (by rw [lenI,lenI];omega)
 dsimp only
 rw [e0,hn]
 refine Ans.is (Ans.bind (P:=fun o=>o.1=decide (z<0)∧okd o.2∧vl o.2=z.natAbs∧o.2.length≤50) (Ans.loop (fun k s=>(∀ c∈s.1,isD c)∧s.1.length≤4*(50-k)∧s.2.1=decide (z<0)∧okd s.2.2∧s.2.2.length=k∧vl s.2.2+10000 ^ k*(dv s.1:Int)=z.natAbs) 50 ⟨dec_isD _,by omega,rfl,okd_nil,rfl,by rw [dv_dec];simp [vl]⟩ ?_) ?_)
 ·rintro k ⟨ds,ng,sz⟩ hk ⟨h1,h2,h3,h4,h5,h6⟩
  dsimp only at h1 h2 h3 h4 h5 h6
  dsimp only
  by_cases hd:ds=[]
  ·subst hd
   refine Ans.of (r:=.inr (ng,sz)) (by rfl) ?_
   refine show ng=decide (z<0)∧okd sz∧vl sz=z.natAbs∧sz.length≤50 from ⟨h3,h4,?_,by omega⟩
   rw [← h6];simp [dv]
  ·have hlp:0<ds.length:=List.length_pos_iff.2 hd
   have hf:max (0:Int) (IntKind.wrap .i64 (lenM ds-4))=((ds.length-4:Nat):Int):=by
    rw [wrap_in (by rw [lenI];omega) (by rw [lenI];omega),lenI];omega
   have e1:sliceM ds ((ds.length-4:Nat):Int) (lenM ds)=some (ds.drop (ds.length-4)):=by
    rw [sliceM_of (by omega) (by show ((ds.length-4:Nat):Int)≤(ds.length:Int);omega) (Int.le_refl _)]
    congr 1
    rw [List.take_of_length_le (by show ds.length≤(ds.length:Int).toNat;omega)];rfl
   have e2:sliceM ds 0 ((ds.length-4:Nat):Int)=some (ds.take (ds.length-4)):=by
    rw [sliceM_of (by omega) (by omega) (by omega)];rfl
   have hdl:(ds.drop (ds.length-4)).length=min 4 ds.length:=by rw [List.length_drop];omega
   have e3:atoiM (ds.drop (ds.length-4))=some (dv (ds.drop (ds.length-4)):Int):=atoi_ok (fun e=>by rw [e] at hdl;simp at hdl;omega) (fun c hc=>h1 c (List.mem_of_mem_drop hc)) (by omega)
   have e4:appM (nat_lit 8) sz [(dv (ds.drop (ds.length-4)):Int)]=some (sz++[(dv (ds.drop (ds.length-4)):Int)]):=appM_of (by simp;omega)
   have hlt:=dv_lt (l:=ds.drop (ds.length-4)) fun c hc=>h1 c (List.mem_of_mem_drop hc)
   have hpw:10 ^ (ds.drop (ds.length-4)).length≤10 ^ 4:=Nat.pow_le_pow_right (by omega) (by omega)
   have hv:(dv ds:Int)=dv (ds.drop (ds.length-4))+10000*dv (ds.take (ds.length-4)):=by
    have:=dv_app (ds.take (ds.length-4)) (ds.drop (ds.length-4))
    rw [List.take_append_drop] at this
    by_cases h4:4≤ds.length
    ·rw [hdl,show min 4 ds.length=4 by omega] at this;omega
    ·rw [show ds.length-4=0 by omega,List.take_zero,List.drop_zero] at this ⊢;simp [dv] at this ⊢
   refine Ans.of (r:=.inl (ds.take (ds.length-4),ng,sz++[(dv (ds.drop (ds.length-4)):Int)])) ?_ ?_
   ·rw [hf,e1,e2,Option.bind_some,e3,Option.bind_some,e4,Option.bind_some,Option.bind_some,ltI (by rw [lenI];omega),cond_true]
   ·refine show k<50∧(∀ c∈ds.take (ds.length-4),isD c)∧(ds.take (ds.length-4)).length≤4*(50-(k+1))∧ng=decide (z<0)∧okd (sz++[(dv (ds.drop (ds.length-4)):Int)])∧(sz++[(dv (ds.drop (ds.length-4)):Int)]).length=k+1∧vl (sz++[(dv (ds.drop (ds.length-4)):Int)])+10000 ^ (k+1)*(dv (ds.take (ds.length-4)):Int)=z.natAbs from ⟨by omega,fun c hc=>h1 c (List.mem_of_mem_take hc),by rw [List.length_take];omega,h3,okd_app.2 ⟨h4,okd_cons.2 ⟨by omega,okd_nil⟩⟩,by simp [h5],?_⟩
    rw [vl_snoc,h5,← h6,hv,Int.pow_succ,Int.mul_add,Int.mul_assoc];omega
 ·rintro ⟨ng,sz⟩ ⟨h1,h2,h3,h4⟩
  dsimp only at h1 h2 h3 h4
  have e:=strip_ok h2 (by omega)
  rw [h3] at e
  exact .of (r:=(ng,grp z.natAbs)) (by dsimp only;rw [e];rfl) (by rw [h1])
theorem both_ok {x y:Int} (hx:x.natAbs<10 ^ 200) (hy:y.natAbs<10 ^ 200):m83 (itoa x,itoa y)=some ((decide (x<0),grp x.natAbs),(decide (y<0),grp y.natAbs),true):=by
 unfold m83
 dsimp only
 rw [ivalid_ok hx,Option.bind_some,notT,notF,cond_true,ivalid_ok hy,Option.bind_some,notT,orF,cond_false,parse_ok hx,Option.bind_some,parse_ok hy];rfl
end Go.Proofs.YtdgabicjcepmeaaGreatDoor
namespace Go.Proofs.YtdgabicjcepmeaaGreatDoor
open Go Go.Lib Go.Abs Go.PE Go.Num
theorem catB_of {x y:List UInt8} (h:x.length+y.length≤140737488355328):catB x y=some (x++y):=by unfold catB;rw [Nat.ble_eq_true_of_le h]
theorem catM_of {x y:List UInt8} (h:x.length+y.length≤9223372036854775807):catM x y=some (x++y):=by unfold catM;rw [Nat.ble_eq_true_of_le h]
theorem rpt_of {n:Nat} (h:n≤1000):rptM [(48:UInt8)] (n:Int)=some (repeatL [48] n):=by
 unfold rptM
 rw [decide_eq_true (show (0:Int)≤n by omega),decide_eq_true (show ([(48:UInt8)]:List UInt8).length*(n:Int).toNat≤140737488355328 by simp;omega),decide_eq_true (show (n:Int)≤9223372036854775807 by omega)];rfl
theorem grp_idx {n i:Nat} (h:i<(grp n).length):idxM (grp n) (i:Int)=some ((n / 10000 ^ i % 10000:Nat):Int):=by
 rw [idxM_lt h,← getD_in _ 0 h,grp_get]
theorem pow10k (L:Nat):10000 ^ L=10 ^ (4*L):=by rw [Nat.pow_mul]
theorem dec_len_grp {m n:Nat} (h:n<10000 ^ (m+1)):(decDigits n).length≤4*(m+1):=by
 rw [pow10k] at h
 exact dec_len_le (k:=4*m+3) (by rw [show 4*m+3+1=4*(m+1) by omega];exact h)
theorem div_pow_succ (n j:Nat):n / 10000 ^ (j+1)=n / 10000 ^ j / 10000:=by rw [Nat.pow_succ,Nat.div_div_eq_div_mul]
theorem grp_top {n:Nat} (h:n≠0):n / 10000 ^ ((grp n).length-1)<10000:=by
 have h1:=grp_lt n
 have h2:(grp n).length≠0:=fun e=>h (grp_nil.1 (List.length_eq_zero_iff.1 e))
 rw [Nat.div_lt_iff_lt_mul (Nat.pow_pos (by omega)),Nat.mul_comm,← Nat.pow_succ,show ((grp n).length-1).succ=(grp n).length by omega]
 exact h1
theorem text_ok {ng:Bool} {n:Nat} (hn:(grp n).length≤400):m85 (ng,grp n)=some (if n<10 ^ 200 then (itoa (if ng then -(n:Int) else n),0) else ([],30)):=by
 unfold m85
 by_cases h0:n=0
 ·subst h0
  rw [grp_zero,if_pos (by decide)]
  cases ng
  ·show some (([48]:List UInt8),(0:Int))=some (itoa 0,0);rw [itoa_zero]
  ·show some (([48]:List UInt8),(0:Int))=some (itoa 0,0);rw [itoa_zero]
 ·have hL:(grp n).length≠0:=fun e=>h0 (grp_nil.1 (List.length_eq_zero_iff.1 e))
  obtain ⟨L,hLL⟩:∃ L,(grp n).length=L+1:=⟨(grp n).length-1,by omega⟩
  have hlen:lenM (grp n)=(L:Int)+1:=by rw [lenI,hLL];omega
  have htop:=grp_top h0
  rw [hLL,Nat.add_sub_cancel] at htop
  have hnl:n<10000 ^ (L+1):=by have:=grp_lt n;rwa [hLL] at this
  have hge:10000 ^ L≤n:=by have:=grp_len_pow h0;rwa [hLL,Nat.add_sub_cancel] at this
  have hw:IntKind.wrap .i64 (lenM (grp n)-1)=(L:Int):=by rw [hlen,wrap_in (by omega) (by omega)];omega
  dsimp only
  rw [neI (by rw [hlen];omega),cond_false,hw]
  refine bind_of (x:=decDigits n) ?_ ?_
  ·refine (loopM_fn (fun k=>((L:Int)-k,if k=0 then [] else decDigits (n / 10000 ^ (L+1-k)))) (L+1) (r:=decDigits n) (fun k hk=>?_) ?_)
   ·have hi:(L:Int)-k=((L-k:Nat):Int):=by omega
    have hq:n / 10000 ^ (L-k)≤n:=Nat.div_le_self _ _
    have hdl:(decDigits (n / 10000 ^ (L-k) % 10000)).length≤4:=dec_len4 (by omega)
    have e1:idxM (grp n) ((L-k:Nat):Int)=some ((n / 10000 ^ (L-k) % 10000:Nat):Int):=grp_idx (by omega)
    have e2:itoaM ((n / 10000 ^ (L-k) % 10000:Nat):Int)=decDigits (n / 10000 ^ (L-k) % 10000):=itoa_nn
    have e3:IntKind.wrap .i64 (4-lenM (decDigits (n / 10000 ^ (L-k) % 10000)))=((4-(decDigits (n / 10000 ^ (L-k) % 10000)).length:Nat):Int):=by
     rw [lenI,wrap_in (by omega) (by omega)];omega
    have e4:IntKind.wrap .i64 (((L-k:Nat):Int)-1)=(L:Int)-((k+1:Nat):Int):=by rw [wrap_in (by omega) (by omega)];omega
    dsimp only
    rw [hi,leI (by omega),cond_true,e1,Option.bind_some,e2,e4,if_neg (show ¬ k+1=0 by omega),show L+1-(k+1)=L-k by omega]
    by_cases hk0:k=0
    ·subst hk0
     rw [geI (by omega),cond_false,Option.bind_some,if_pos rfl,Nat.sub_zero]
     rw [Nat.mod_eq_of_lt htop,catB_of (by have:=dec_len4 htop;simp;omega)];rfl
    ·have hb:n / 10000 ^ (L+1-k)=n / 10000 ^ (L-k) / 10000:=by rw [show L+1-k=L-k+1 by omega,div_pow_succ]
     have hbig:10000≤n / 10000 ^ (L-k):=by
      rw [Nat.le_div_iff_mul_le (Nat.pow_pos (by omega)),Nat.mul_comm,← Nat.pow_succ]
      exact Nat.le_trans (Nat.pow_le_pow_right (by omega) (by omega)) hge
     have hlen2:(decDigits (n / 10000 ^ (L-k) / 10000)).length≤4*(L+1):=dec_len_grp (Nat.lt_of_le_of_lt (Nat.le_trans (Nat.div_le_self _ _) hq) hnl)
     have e5:(repeatL [(48:UInt8)] (4-(decDigits (n / 10000 ^ (L-k) % 10000)).length)++decDigits (n / 10000 ^ (L-k) % 10000)).length=4:=by rw [pad_dec (by omega)];rfl
     rw [List.length_append] at e5
     rw [ltI (by omega),cond_true,e3,rpt_of (by omega),Option.bind_some,catM_of (by omega),Option.bind_some,pad_dec (by omega),Option.bind_some,if_neg hk0,hb,
      catB_of (by show _+4≤_;omega),← dec_pad hbig];rfl
   ·have e:(L:Int)-((L+1:Nat):Int)=-1:=by omega
    dsimp only
    rw [e,if_neg (by omega),show L+1-(L+1)=0 by omega,Nat.pow_zero,Nat.div_one];rfl
  ·have hl2:=dec_len_grp hnl
   by_cases hs:n<10 ^ 200
   ·have h200:(decDigits n).length≤200:=dec_len_le (k:=199) hs
    rw [if_pos hs,geI (by rw [lenI];omega),cond_false]
    cases ng
    ·rw [cond_false,if_neg (by decide),itoa_nn]
    ·rw [cond_true,catM_of (by simp;omega),Option.bind_some,if_pos rfl,itoa_ng h0];rfl
   ·have h200:¬ (decDigits n).length≤200:=fun h=>hs (Nat.lt_of_lt_of_le (dec_len_lt n) (Nat.pow_le_pow_right (by omega) h))
    rw [if_neg hs,ltI (by rw [lenI];omega),cond_true]
def Sg (o:Bool×List Int) (z:Int):Prop:=o.2=grp z.natAbs∧(z≠0→o.1=decide (z<0))
theorem textZ {o:Bool×List Int} {z:Int} (h:Sg o z) (hn:(grp z.natAbs).length≤400):m85 o=some (if z.natAbs<10 ^ 200 then (itoa z,0) else ([],30)):=by
 obtain ⟨ng,l⟩:=o
 obtain ⟨h1,h2⟩:=h
 dsimp only at h1 h2
 subst h1
 rw [text_ok hn]
 have e:(if ng then -(z.natAbs:Int) else z.natAbs)=z:=by
  by_cases hz:z=0
  ·subst hz;cases ng<;>rfl
  ·rw [h2 hz]
   by_cases hneg:z<0
   ·rw [if_pos (by simpa using hneg)];omega
   ·rw [if_neg (by simpa using hneg)];omega
 rw [e]
theorem iat_ok (l:List Int) (i:Nat):m148 (l,(i:Int))=some (l.getD i 0):=by
 unfold m148
 by_cases h:i<l.length
 ·dsimp only;rw [ltI (by rw [lenI];omega),cond_true,idxM_lt h,getD_in _ _ h];rfl
 ·dsimp only;rw [geI (by rw [lenI];omega),cond_false,getD_out _ _ (by omega)]
theorem mk0 {n:Int} (h0:0≤n) (h:n≤1000000):mkM 0 n (nat_lit 8) (0:Int)=some []:=by rw [mkM_of (by omega) (by omega) (by show n*8≤_;omega)];rfl
theorem app1 {l:List Int} {d:Int} (h:l.length≤1000000):appM (nat_lit 8) l [d]=some (l++[d]):=appM_of (by simp;omega)
theorem fold_end {o:Option (List Int)} {n k:Nat} (h:Ans o fun out=>okd out∧vl out=(n:Int)∧out.length≤k+1) (hk:k≤10000):(o.bind fun o=>(m145 o).bind fun r=>some r)=some (grp n):=by
 refine Ans.is (Ans.bind h ?_)
 rintro out ⟨h1,h2,h3⟩
 have e:=strip_ok h1 (by omega)
 rw [h2] at e
 exact .of (by rw [e];rfl) rfl
theorem seq_at (n:Nat) (g:Nat→Int) {i:Nat} (hz:∀ i,n≤i→g i=0):(seqL n g).getD i 0=g i:=by
 by_cases h:i<n
 ·exact seqL_get n g i h
 ·rw [getD_out _ _ (by rw [seqL_len];omega),hz i (by omega)]
theorem plus_ok {a b:Nat} (ha:(grp a).length≤1000) (hb:(grp b).length≤1000):m115 (grp a,grp b)=some (grp (a+b)):=by
 unfold m115
 dsimp only
 have hm:max (lenM (grp a)) (lenM (grp b))=((max (grp a).length (grp b).length:Nat):Int):=by rw [lenI,lenI];omega
 rw [hm,wrap_in (by omega) (by omega),mk0 (by omega) (by omega),Option.bind_some]
 have hs:∀ i,(seqL (max (grp a).length (grp b).length) fun i=>(grp a).getD i 0+(grp b).getD i 0).getD i 0=(grp a).getD i 0+(grp b).getD i 0:=fun i=>seq_at _ _ fun i hi=>by rw [getD_out _ _ (by omega),getD_out _ _ (by omega)];rfl
 have hA:=okd_get (grp_okd a)
 have hB:=okd_get (grp_okd b)
 have hv:vl (seqL (max (grp a).length (grp b).length) fun i=>(grp a).getD i 0+(grp b).getD i 0)=((a+b:Nat):Int):=by
  rw [vl_add,vl_of _ _ (by omega),vl_of _ _ (by omega),vl_grp,vl_grp];omega
 refine fold_end (k:=max (grp a).length (grp b).length) ?_ (by omega)
 have key:=carry_loop (dl:=seqL (max (grp a).length (grp b).length) fun i=>(grp a).getD i 0+(grp b).getD i 0) (fun i=>by rw [hs];have:=hA i;have:=hB i;omega) (by rw [hv];omega)
  (body:=fun (s:Int×Int×List Int)=>bif PE.orM (ltM s.2.1 ((max (grp a).length (grp b).length:Nat):Int))
 (PE.notM (eqM s.1 0)) then (m148 (grp a,s.2.1)).bind fun r_1=>(m148 (grp b,s.2.1)).bind fun r_2=>(bif ltM (IntKind.wrap .i64 (IntKind.wrap
 IntKind.i64 (r_1+r_2)+s.1)) 0 then some ((-1),IntKind.wrap .i64 (IntKind.wrap .i64 (IntKind.wrap .i64 (r_1+r_2)+s.1)+10000)) else bif leM 10000 (IntKind.wrap
 IntKind.i64 (IntKind.wrap .i64 (r_1+r_2)+s.1)) then (divM .i64 (IntKind.wrap .i64 (IntKind.wrap .i64 (r_1+r_2)+s.1)) 10000).bind fun r_3=>(remM
 (IntKind.wrap .i64 (IntKind.wrap .i64 (r_1+r_2)+s.1)) 10000).bind fun r=>some (r_3,r) else some (0,IntKind.wrap .i64 (IntKind.wrap .i64 (r_1+r_2) +
 s.1))).bind fun o=>(appM (nat_lit 8) s.2.2 [o.2]).bind fun r=>some (Sum.inl (o.1,IntKind.wrap .i64 (s.2.1+1),r)) else some (Sum.inr s.2.2))
  (fun i c out ho hi h1 h2 h3=>?_) (fun i out hi=>?_)
 ·rw [hv,seqL_len] at key
  exact key
 ·rw [seqL_len] at hi h3
  have hA:=hA i
  have hB:=hB i
  have hc:PE.orM (ltM (i:Int) ((max (grp a).length (grp b).length:Nat):Int)) (PE.notM (eqM c 0))=true:=by
   rcases h3 with h | h
   ·rw [ltI (by omega),orT]
   ·rw [neI h,notF];cases ltM (i:Int) _<;>rfl
  have e:IntKind.wrap .i64 (IntKind.wrap .i64 ((grp a).getD i 0+(grp b).getD i 0)+c)=(grp a).getD i 0+(grp b).getD i 0+c:=by rw [wrap_in (n:=_+_) (by rw [wrap_in (by omega) (by omega)];omega) (by rw [wrap_in (by omega) (by omega)];omega),wrap_in (by omega) (by omega)]
  dsimp only
  rw [hc,cond_true,iat_ok,Option.bind_some,iat_ok,Option.bind_some,e,step_digit (by omega) (by omega),Option.bind_some,app1 (by omega),Option.bind_some,wrap_in (by omega) (by omega),hs]
 ·rw [seqL_len] at hi
  dsimp only
  rw [geI (by omega)];rfl
end Go.Proofs.YtdgabicjcepmeaaGreatDoor
namespace Go.Proofs.YtdgabicjcepmeaaGreatDoor
open Go Go.Lib Go.Abs Go.PE Go.Num
theorem by_ok {a d:Nat} (ha:(grp a).length≤1000) (hd:d≤9999):m171 (grp a,(d:Int))=some (grp (a*d)):=by
 unfold m171
 dsimp only
 have hm:lenM (grp a)=((grp a).length:Int):=lenI _
 rw [hm,wrap_in (by omega) (by omega),mk0 (by omega) (by omega),Option.bind_some]
 have hs:∀ i,(seqL (grp a).length fun i=>(grp a).getD i 0*(d:Int)).getD i 0=(grp a).getD i 0*(d:Int):=fun i=>seq_at _ _ fun i hi=>by rw [getD_out _ _ (by omega),Int.zero_mul]
 have hA:=okd_get (grp_okd a)
 have hb:∀ i,0≤(grp a).getD i 0*(d:Int)∧(grp a).getD i 0*(d:Int)≤99980001:=fun i=>by
  have h1:=hA i
  refine ⟨Int.mul_nonneg h1.1 (by omega),?_⟩
  have:=Int.mul_le_mul h1.2 (show (d:Int)≤9999 by omega) (by omega) (by omega)
  omega
 have hv:vl (seqL (grp a).length fun i=>(grp a).getD i 0*(d:Int))=((a*d:Nat):Int):=by
  rw [vl_mul,vl_of _ _ (by omega),vl_grp];exact (Int.natCast_mul a d).symm
 refine fold_end (k:=(grp a).length) ?_ (by omega)
 have key:=carry_loop (dl:=seqL (grp a).length fun i=>(grp a).getD i 0*(d:Int)) (fun i=>by rw [hs];have:=hb i;omega) (by rw [hv];omega)
  (body:=fun (s:Int×Int×List Int)=>bif PE.orM (ltM s.2.1 ((grp a).length:Int))
 (PE.notM (eqM s.1 0)) then (m148 (grp a,s.2.1)).bind fun r_1=>(bif ltM (IntKind.wrap .i64 (IntKind.wrap
 IntKind.i64 (r_1*(d:Int))+s.1)) 0 then some ((-1),IntKind.wrap .i64 (IntKind.wrap .i64 (IntKind.wrap .i64 (r_1*(d:Int))+s.1)+10000)) else bif leM 10000 (IntKind.wrap
 IntKind.i64 (IntKind.wrap .i64 (r_1*(d:Int))+s.1)) then (divM .i64 (IntKind.wrap .i64 (IntKind.wrap .i64 (r_1*(d:Int))+s.1)) 10000).bind fun r_2=>(remM
 (IntKind.wrap .i64 (IntKind.wrap .i64 (r_1*(d:Int))+s.1)) 10000).bind fun r=>some (r_2,r) else some (0,IntKind.wrap .i64 (IntKind.wrap .i64 (r_1*(d:Int)) +
 s.1))).bind fun o=>(appM (nat_lit 8) s.2.2 [o.2]).bind fun r=>some (Sum.inl (o.1,IntKind.wrap .i64 (s.2.1+1),r)) else some (Sum.inr s.2.2))
  (fun i c out ho hi h1 h2 h3=>?_) (fun i out hi=>?_)
 ·rw [hv,seqL_len] at key
  exact key
 ·rw [seqL_len] at hi h3
  have hb:=hb i
  have hc:PE.orM (ltM (i:Int) ((grp a).length:Int)) (PE.notM (eqM c 0))=true:=by
   rcases h3 with h | h
   ·rw [ltI (by omega),orT]
   ·rw [neI h,notF];cases ltM (i:Int) _<;>rfl
  have e:IntKind.wrap .i64 (IntKind.wrap .i64 ((grp a).getD i 0*(d:Int))+c)=(grp a).getD i 0*(d:Int)+c:=by rw [wrap_in (n:=(grp a).getD i 0*(d:Int)) (by omega) (by omega),wrap_in (by omega) (by omega)]
  dsimp only
  rw [hc,cond_true,iat_ok,Option.bind_some,e,step_digit (by omega) (by omega),Option.bind_some,app1 (by omega),Option.bind_some,wrap_in (by omega) (by omega),hs]
 ·rw [seqL_len] at hi
  dsimp only
  rw [geI (by omega)];rfl
theorem grp_len_mono {a b:Nat} (h:a≤b):(grp a).length≤(grp b).length:=grp_len_le (Nat.lt_of_le_of_lt h (grp_lt b))
theorem minus_ok {a b:Nat} (ha:(grp a).length≤1000) (hb:b≤a):m117 (grp a,grp b)=some (grp (a-b)):=by
 unfold m117
 dsimp only
 have hl:=grp_len_mono hb
 have hm:lenM (grp a)=((grp a).length:Int):=lenI _
 rw [hm,wrap_in (by omega) (by omega),mk0 (by omega) (by omega),Option.bind_some]
 have hs:∀ i,(seqL (grp a).length fun i=>(grp a).getD i 0-(grp b).getD i 0).getD i 0=(grp a).getD i 0-(grp b).getD i 0:=fun i=>seq_at _ _ fun i hi=>by rw [getD_out _ _ (by omega),getD_out _ _ (by omega)];rfl
 have hA:=okd_get (grp_okd a)
 have hB:=okd_get (grp_okd b)
 have hv:vl (seqL (grp a).length fun i=>(grp a).getD i 0-(grp b).getD i 0)=((a-b:Nat):Int):=by
  rw [vl_sub,vl_of _ _ (by omega),vl_of _ _ (by omega),vl_grp,vl_grp];omega
 refine fold_end (k:=(grp a).length) ?_ (by omega)
 have key:=carry_loop (dl:=seqL (grp a).length fun i=>(grp a).getD i 0-(grp b).getD i 0) (fun i=>by rw [hs];have:=hA i;have:=hB i;omega) (by rw [hv];omega)
  (body:=fun (s:Int×Int×List Int)=>bif PE.orM (ltM s.2.1 ((grp a).length:Int))
 (PE.notM (eqM s.1 0)) then (m148 (grp a,s.2.1)).bind fun r_1=>(m148 (grp b,s.2.1)).bind fun r_2=>(bif ltM (IntKind.wrap .i64 (IntKind.wrap
 IntKind.i64 (r_1-r_2)+s.1)) 0 then some ((-1),IntKind.wrap .i64 (IntKind.wrap .i64 (IntKind.wrap .i64 (r_1-r_2)+s.1)+10000)) else bif leM 10000 (IntKind.wrap
 IntKind.i64 (IntKind.wrap .i64 (r_1-r_2)+s.1)) then (divM .i64 (IntKind.wrap .i64 (IntKind.wrap .i64 (r_1-r_2)+s.1)) 10000).bind fun r_3=>(remM
 (IntKind.wrap .i64 (IntKind.wrap .i64 (r_1-r_2)+s.1)) 10000).bind fun r=>some (r_3,r) else some (0,IntKind.wrap .i64 (IntKind.wrap .i64 (r_1-r_2) +
 s.1))).bind fun o=>(appM (nat_lit 8) s.2.2 [o.2]).bind fun r=>some (Sum.inl (o.1,IntKind.wrap .i64 (s.2.1+1),r)) else some (Sum.inr s.2.2))
  (fun i c out ho hi h1 h2 h3=>?_) (fun i out hi=>?_)
 ·rw [hv,seqL_len] at key
  exact key
 ·rw [seqL_len] at hi h3
  have hA:=hA i
  have hB:=hB i
  have hc:PE.orM (ltM (i:Int) ((grp a).length:Int)) (PE.notM (eqM c 0))=true:=by
   rcases h3 with h | h
   ·rw [ltI (by omega),orT]
   ·rw [neI h,notF];cases ltM (i:Int) _<;>rfl
  have e:IntKind.wrap .i64 (IntKind.wrap .i64 ((grp a).getD i 0-(grp b).getD i 0)+c)=(grp a).getD i 0-(grp b).getD i 0+c:=by rw [wrap_in (n:=(grp a).getD i 0-(grp b).getD i 0) (by omega) (by omega),wrap_in (by omega) (by omega)]
  dsimp only
  rw [hc,cond_true,iat_ok,Option.bind_some,iat_ok,Option.bind_some,e,step_digit (by omega) (by omega),Option.bind_some,app1 (by omega),Option.bind_some,wrap_in (by omega) (by omega),hs]
 ·rw [seqL_len] at hi
  dsimp only
  rw [geI (by omega)];rfl
theorem grp_mul {a b:Nat}:(grp (a*b)).length≤(grp a).length+(grp b).length:=grp_len_le (by rw [Nat.pow_add];exact Nat.mul_lt_mul'' (grp_lt a) (grp_lt b))
theorem grp_add {a b:Nat}:(grp (a+b)).length≤max (grp a).length (grp b).length+1:=grp_len_le (by
 have h1:=grp_lt a
 have h2:=grp_lt b
 have h3:=Nat.pow_le_pow_right (show 0<10000 by omega) (Nat.le_max_left (grp a).length (grp b).length)
 have h4:=Nat.pow_le_pow_right (show 0<10000 by omega) (Nat.le_max_right (grp a).length (grp b).length)
 rw [Nat.pow_succ];omega)
theorem shift_ok {m:Nat} (h:(grp m).length≤10000):((bif ltM 0 (lenM (grp m)) then (appM (nat_lit 8) [0] (grp m)).bind fun r=>some r else some (grp m)):Option (List Int))=some (grp (10000*m)):=by
 by_cases h0:m=0
 ·subst h0;rw [Nat.mul_zero,grp_zero];rfl
 ·have hl:(grp m).length≠0:=fun e=>h0 (grp_nil.1 (List.length_eq_zero_iff.1 e))
  rw [ltI (by rw [lenI];omega),cond_true,appM_of (by simp;omega),Option.bind_some,grp_pos (show 10000*m≠0 by omega),show 10000*m / 10000=m by omega,show 10000*m % 10000=0 by omega];rfl
theorem grp_shift_len (m:Nat):(grp (10000*m)).length≤(grp m).length+1:=by
 by_cases h0:m=0
 ·subst h0;rw [Nat.mul_zero,grp_zero];simp
 ·rw [grp_pos (show 10000*m≠0 by omega),show 10000*m / 10000=m by omega,List.length_cons];omega
theorem times_ok {a b:Nat} (ha:(grp a).length≤400) (hb:(grp b).length≤400):m143 (grp a,grp b)=some (grp (a*b)):=by
 unfold m143
 have hw:IntKind.wrap .i64 (lenM (grp b)-1)=((grp b).length:Int)-((0:Nat):Int)-1:=by rw [lenI,wrap_in (by omega) (by omega)];omega
 have h0:([]:List Int)=grp (a*(b / 10000 ^ ((grp b).length-0))):=by rw [Nat.sub_zero,Nat.div_eq_of_lt (grp_lt b),Nat.mul_zero,grp_zero]
 refine bind_of (Eq.trans (congrArg (loopM _) (Prod.ext hw h0)) (loopM_fn (fun k=>(((grp b).length:Int)-(k:Int)-1,grp (a*(b / 10000 ^ ((grp b).length-k))))) (grp b).length (r:=grp (a*b)) (fun k hk=>?_) ?_)) rfl
 ·have hi:((grp b).length:Int)-(k:Int)-1=(((grp b).length-k-1:Nat):Int):=by omega
  have hq2:b / 10000 ^ ((grp b).length-k)≤b:=Nat.div_le_self _ _
  have hd:b / 10000 ^ ((grp b).length-k)=b / 10000 ^ ((grp b).length-k-1) / 10000:=by
   rw [← div_pow_succ,show (grp b).length-k-1+1=(grp b).length-k by omega]
  have l1:(grp (a*(b / 10000 ^ ((grp b).length-k)))).length≤800:=Nat.le_trans grp_mul (by have:=grp_len_mono hq2;omega)
  have hrec:a*(b / 10000 ^ ((grp b).length-k-1))=10000*(a*(b / 10000 ^ ((grp b).length-k)))+a*(b / 10000 ^ ((grp b).length-k-1) % 10000):=by
   rw [hd,Nat.mul_left_comm,← Nat.mul_add];congr 1;omega
  have l2:=grp_shift_len (a*(b / 10000 ^ ((grp b).length-k)))
  have l4:(grp (a*(b / 10000 ^ ((grp b).length-k-1) % 10000))).length≤1000:=Nat.le_trans grp_mul (by have:(grp (b / 10000 ^ ((grp b).length-k-1) % 10000)).length≤1:=grp_len_le (by omega);omega)
  dsimp only
  rw [hi,leI (by omega),cond_true,grp_idx (by omega),Option.bind_some,shift_ok (by omega),Option.bind_some,by_ok (by omega) (by omega),Option.bind_some,plus_ok (by omega) l4,Option.bind_some,← hrec,wrap_in (by omega) (by omega),show (grp b).length-(k+1)=(grp b).length-k-1 by omega]
  congr 3;omega
 ·have e:((grp b).length:Int)-((grp b).length:Int)-1=-1:=by omega
  dsimp only
  rw [e,gtI (by omega),cond_false,Nat.sub_self,Nat.pow_zero,Nat.div_one]
def cmp3 (x y:Int):Int:=if x<y then -1 else if y<x then 1 else 0
theorem cmp_ok1 (x y:Int):m149 (x,y)=some (cmp3 x y):=by
 unfold m149
 have e:∀ z:Int,m136 z=some false:=fun z=>by unfold m136;rw [eqI rfl];rfl
 dsimp only
 rw [e,Option.bind_some,e,Option.bind_some,cond_false,cond_false]
 unfold cmp3
 by_cases h1:x<y
 ·rw [ltI h1,cond_true,if_pos h1]
 ·rw [geI (by omega),cond_false,if_neg h1]
  by_cases h2:y<x
  ·rw [ltI h2,cond_true,if_pos h2]
  ·rw [geI (by omega),cond_false,if_neg h2]
theorem cmp3_div {a b j:Nat} (h:a / j<b / j):cmp3 (a:Int) b=-1:=by
 have:a<b:=by
  rcases Nat.lt_or_ge a b with h1 | h1
  ·exact h1
  ·exact absurd (Nat.div_le_div_right (c:=j) h1) (by omega)
 unfold cmp3;rw [if_pos (by omega)]
theorem cmp3_div' {a b j:Nat} (h:b / j<a / j):cmp3 (a:Int) b=1:=by
 have:b<a:=by
  rcases Nat.lt_or_ge b a with h1 | h1
  ·exact h1
  ·exact absurd (Nat.div_le_div_right (c:=j) h1) (by omega)
 unfold cmp3;rw [if_neg (by omega),if_pos (by omega)]
theorem compare_ok {a b:Nat} (ha:(grp a).length≤10000) (hb:(grp b).length≤10000):m116 (grp a,grp b)=some (cmp3 a b):=by
 unfold m116
 dsimp only
 by_cases hl:(grp a).length=(grp b).length
 ·rw [eqI (show lenM (grp a)=lenM (grp b) by rw [lenI,lenI,hl]),notT,cond_false]
  have hw:IntKind.wrap .i64 (lenM (grp a)-1)=((grp a).length:Int)-((0:Nat):Int)-1:=by rw [lenI,wrap_in (by omega) (by omega)];omega
  rw [hw]
  refine Ans.is (Ans.bind (P:=fun o=>Sum.elim (fun (_:Unit)=>some 0) (fun (t:Int)=>some t) o=some (cmp3 a b)) (Ans.loop (fun k s=>s=((grp a).length:Int)-(k:Int)-1∧a / 10000 ^ ((grp a).length-k)=b / 10000 ^ ((grp a).length-k)) (grp a).length ⟨rfl,?_⟩ ?_) ?_)
  ·rw [Nat.sub_zero,Nat.div_eq_of_lt (grp_lt a),hl,Nat.div_eq_of_lt (grp_lt b)]
  ·rintro k s hk ⟨rfl,he⟩
   by_cases hkl:k<(grp a).length
   ·have hi:((grp a).length:Int)-(k:Int)-1=(((grp a).length-k-1:Nat):Int):=by omega
    have hd:∀ n,n / 10000 ^ ((grp a).length-k)=n / 10000 ^ ((grp a).length-k-1) / 10000:=fun n=>by
     rw [← div_pow_succ,show (grp a).length-k-1+1=(grp a).length-k by omega]
    rw [hd a,hd b] at he
    rw [hi,leI (by omega),cond_true,grp_idx (by omega),Option.bind_some,grp_idx (by omega),Option.bind_some]
    by_cases hx:a / 10000 ^ ((grp a).length-k-1) % 10000=b / 10000 ^ ((grp a).length-k-1) % 10000
    ·rw [eqI (by omega),notT,cond_false]
     refine Ans.of (r:=.inl (((grp a).length:Int)-((k+1:Nat):Int)-1)) (by rw [wrap_in (by omega) (by omega)];congr 2;omega) ?_
     exact show k<(grp a).length∧_ from ⟨hkl,rfl,by rw [show (grp a).length-(k+1)=(grp a).length-k-1 by omega];omega⟩
    ·rw [neI (by omega),notF,cond_true,Option.bind_some,cmp_ok1]
     refine Ans.of (r:=.inr (.inr (cmp3 ((a / 10000 ^ ((grp a).length-k-1) % 10000:Nat):Int) ((b / 10000 ^ ((grp a).length-k-1) % 10000:Nat):Int)))) rfl ?_
     show some (cmp3 ((a / 10000 ^ ((grp a).length-k-1) % 10000:Nat):Int) ((b / 10000 ^ ((grp a).length-k-1) % 10000:Nat):Int))=some (cmp3 a b)
     congr 1
     rcases Nat.lt_or_gt_of_ne hx with h | h
     ·rw [cmp3_div (a:=a) (b:=b) (j:=10000 ^ ((grp a).length-k-1)) (by omega)];unfold cmp3;rw [if_pos (by omega)]
     ·rw [cmp3_div' (a:=a) (b:=b) (j:=10000 ^ ((grp a).length-k-1)) (by omega)];unfold cmp3;rw [if_neg (by omega),if_pos (by omega)]
   ·have:k=(grp a).length:=by omega
    subst this
    rw [Nat.sub_self,Nat.pow_zero,Nat.div_one,Nat.div_one] at he
    have e:((grp a).length:Int)-((grp a).length:Int)-1=-1:=by omega
    rw [e,gtI (by omega),cond_false]
    refine Ans.of (r:=.inr (.inl ())) rfl ?_
    show some (0:Int)=some (cmp3 a b)
    unfold cmp3;rw [if_neg (by omega),if_neg (by omega)]
  ·intro o ho
   exact .of ho rfl
 ·rw [neI (by rw [lenI,lenI];omega),notF,cond_true,cmp_ok1,Option.bind_some]
  have ka:=grp_lt a
  have kb:=grp_lt b
  congr 1
  rcases Nat.lt_or_gt_of_ne hl with h | h
  ·have hb0:b≠0:=fun e=>by subst e;rw [grp_zero] at h;simp at h
   have h1:=grp_len_pow hb0
   have h2:=Nat.pow_le_pow_right (show 0<10000 by omega) (show (grp a).length≤(grp b).length-1 by omega)
   unfold cmp3;rw [if_pos (by rw [lenI,lenI];omega),if_pos (by omega)]
  ·have ha0:a≠0:=fun e=>by subst e;rw [grp_zero] at h;simp at h
   have h1:=grp_len_pow ha0
   have h2:=Nat.pow_le_pow_right (show 0<10000 by omega) (show (grp b).length≤(grp a).length-1 by omega)
   unfold cmp3;rw [if_neg (by rw [lenI,lenI];omega),if_pos (by rw [lenI,lenI];omega),if_neg (by omega),if_pos (by omega)]
theorem cmp3_pos (x y:Int):leM 0 (cmp3 x y)=decide (y≤x):=by
 unfold cmp3
 by_cases h1:x<y
 ·rw [if_pos h1,gtI (by omega),decide_eq_false (by omega)]
 ·rw [if_neg h1,decide_eq_true (by omega)]
  by_cases h2:y<x
  ·rw [if_pos h2,leI (by omega)]
  ·rw [if_neg h2,leI (by omega)]
theorem splus_ok {x y:Int} (hx:(grp x.natAbs).length≤400) (hy:(grp y.natAbs).length≤400):Ans (m84 ((decide (x<0),grp x.natAbs),decide (y<0),grp y.natAbs)) fun o=>Sg o (x+y):=by
 unfold m84
 dsimp only
 by_cases hs:decide (x<0)=decide (y<0)
 ·have hs':=decide_eq_decide.1 hs
  rw [show eqbM (decide (x<0)) (decide (y<0))=true from decide_eq_true hs,cond_true,plus_ok (by omega) (by omega),Option.bind_some]
  refine .of rfl ⟨by show grp _=grp _;congr 1;omega,fun h=>?_⟩
  show decide (x<0)=decide (x+y<0)
  exact decide_eq_decide.2 (by omega)
 ·have hs':¬ (x<0↔y<0):=fun h=>hs (decide_eq_decide.2 h)
  rw [show eqbM (decide (x<0)) (decide (y<0))=false from decide_eq_false hs,cond_false,compare_ok (by omega) (by omega),Option.bind_some,cmp3_pos]
  by_cases hc:y.natAbs≤x.natAbs
  ·rw [decide_eq_true (by omega),cond_true,minus_ok (by omega) hc,Option.bind_some]
   refine .of rfl ⟨by show grp _=grp _;congr 1;omega,fun h=>?_⟩
   show decide (x<0)=decide (x+y<0)
   exact decide_eq_decide.2 (by omega)
  ·rw [decide_eq_false (by omega),cond_false,minus_ok (by omega) (by omega),Option.bind_some]
   refine .of rfl ⟨by show grp _=grp _;congr 1;omega,fun h=>?_⟩
   show decide (y<0)=decide (x+y<0)
   exact decide_eq_decide.2 (by omega)
def Fits (z:Int):Prop:=z.natAbs<10 ^ 200
instance (z:Int):Decidable (Fits z):=inferInstanceAs (Decidable (z.natAbs<10 ^ 200))
def sn (z:Int):List UInt8×Int:=if Fits z then (itoa z,0) else ([],30)
theorem fits_len {z:Int} (h:Fits z):(grp z.natAbs).length≤50:=grp_len_le (Nat.lt_of_lt_of_le h (by decide))
theorem sn_text {o:Bool×List Int} {z:Int} (h:Sg o z) (hn:(grp z.natAbs).length≤400):m85 o=some (sn z):=by
 rw [textZ h hn];rfl
theorem iadd_ok {x y:Int} (hx:Fits x) (hy:Fits y):m62 (itoa x,itoa y)=some (sn (x+y)):=by
 have h1:=fits_len hx
 have h2:=fits_len hy
 unfold m62
 dsimp only
 rw [both_ok hx hy,Option.bind_some,notT,cond_false]
 refine Ans.is (Ans.bind (splus_ok (by omega) (by omega)) fun o ho=>?_)
 rw [sn_text ho (Nat.le_trans (grp_len_mono (show (x+y).natAbs≤x.natAbs+y.natAbs by omega)) (Nat.le_trans grp_add (by omega)))]
 exact .of rfl rfl
theorem imul_ok {x y:Int} (hx:Fits x) (hy:Fits y):m113 (itoa x,itoa y)=some (sn (x*y)):=by
 have h1:=fits_len hx
 have h2:=fits_len hy
 unfold m113
 dsimp only
 rw [both_ok hx hy,Option.bind_some,notT,cond_false,times_ok (by omega) (by omega),Option.bind_some]
 rw [sn_text (z:=x*y) ⟨by show grp _=grp _;rw [Int.natAbs_mul],fun h=>?_⟩ (by rw [Int.natAbs_mul];exact Nat.le_trans grp_mul (by omega))]
 ·rfl
 ·show PE.notM (eqbM (decide (x<0)) (decide (y<0)))=decide (x*y<0)
  have hx0:x≠0:=fun e=>h (by rw [e,Int.zero_mul])
  have hy0:y≠0:=fun e=>h (by rw [e,Int.mul_zero])
  by_cases hx:x<0<;>by_cases hy:y<0
  ·rw [decide_eq_true hx,decide_eq_true hy,decide_eq_false (by have:=Int.mul_pos_of_neg_of_neg hx hy;omega)];rfl
  ·rw [decide_eq_true hx,decide_eq_false hy,decide_eq_true (Int.mul_neg_of_neg_of_pos hx (by omega))];rfl
  ·rw [decide_eq_false hx,decide_eq_true hy,decide_eq_true (Int.mul_neg_of_pos_of_neg (by omega) hy)];rfl
  ·rw [decide_eq_false hx,decide_eq_false hy,decide_eq_false (by have:=Int.mul_pos (show 0<x by omega) (show 0<y by omega);omega)];rfl
theorem icmp_ok {x y:Int} (hx:Fits x) (hy:Fits y):m107 (itoa x,itoa y)=some (cmp3 x y):=by
 have h1:=fits_len hx
 have h2:=fits_len hy
 unfold m107
 dsimp only
 rw [both_ok hx hy,Option.bind_some,notT,cond_false]
 by_cases hx:x<0
 ·rw [decide_eq_true hx]
  by_cases hy:y<0
  ·rw [decide_eq_true hy,andT,cond_true,compare_ok (by omega) (by omega),Option.bind_some]
   congr 1;unfold cmp3;grind
  ·rw [decide_eq_false hy,andT,cond_false,cond_true]
   congr 1;unfold cmp3;grind
 ·rw [decide_eq_false hx,andF,cond_false,cond_false]
  by_cases hy:y<0
  ·rw [decide_eq_true hy,cond_true]
   congr 1;unfold cmp3;grind
  ·rw [decide_eq_false hy,cond_false,compare_ok (by omega) (by omega),Option.bind_some]
   congr 1;unfold cmp3;grind
end Go.Proofs.YtdgabicjcepmeaaGreatDoor
namespace Go.Proofs.YtdgabicjcepmeaaGreatDoor
open Go Go.Lib Go.Abs Go.PE Go.Num
theorem vl_set:∀ (l:List Int) (i:Nat) (d:Int),i<l.length→vl (l.set i d)=vl l+10000 ^ i*(d-l.getD i 0)
 | [],i,d,h=>by simp at h
 | c::l,0,d,_=>by show d+10000*vl l=c+10000*vl l+1*(d-c);omega
 | c::l,i+1,d,h=>by
  have ih:=vl_set l i d (by simpa using h)
  show c+10000*vl (l.set i d)=c+10000*vl l+10000 ^ (i+1)*(d-l.getD i 0)
  rw [ih,Int.pow_succ,Int.mul_add,Int.mul_comm (10000 ^ i) 10000,Int.mul_assoc];omega
theorem okd_set {l:List Int} (h:okd l) {i:Nat} {d:Int} (hd:0≤d∧d≤9999):okd (l.set i d):=fun c hc=>by
 rcases List.mem_or_eq_of_mem_set hc with hc | rfl
 ·exact h c hc
 ·exact hd
theorem okd_rep (n:Nat):okd (List.replicate n 0):=fun c hc=>by rw [(List.mem_replicate.1 hc).2];omega
theorem vl_rep:∀ n,vl (List.replicate n 0)=0
 | 0=>rfl
 | n+1=>by show 0+10000*vl (List.replicate n 0)=0;rw [vl_rep n];rfl
theorem half_ok {i j:Nat} (h:i<j) (hj:j≤9999):shrM IntKind.u64 (IntKind.wrap IntKind.u64 (IntKind.wrap .i64 ((i:Int)+(j:Int)))) 1=some (((i+j) / 2:Nat):Int):=by
 rw [wrap_in (by omega) (by omega)]
 have e:IntKind.wrap IntKind.u64 ((i:Int)+j)=(i:Int)+j:=by
  unfold IntKind.wrap
  show ((i:Int)+j) % 18446744073709551616=_
  omega
 rw [e]
 unfold shrM
 rw [decide_eq_false (by omega)]
 show some (((i:Int)+j).fdiv 2)=_
 rw [Int.fdiv_eq_ediv_of_nonneg _ (by omega)]
 congr 1
theorem nat_int {t:Nat} (h:t≤9999):(0:Int)≤(t:Int)∧(t:Int)≤9999:=by omega
theorem search_ok {b R:Nat} (hb:0<b) (hR:R<10000*b) (lb:(grp b).length≤400) (lR:(grp R).length≤500) :
  loopM (fun (s_1:Int×Int)=>bif ltM s_1.1 s_1.2 then (shrM IntKind.u64
 (IntKind.wrap IntKind.u64 (IntKind.wrap .i64 (s_1.1+s_1.2))) 1).bind fun r_4=>(m171 (grp b,IntKind.wrap .i64 (IntKind.wrap .i64 r_4+1))).bind fun r_5=>(m116 (r_5,
 grp R)).bind fun r=>bif PE.notM (ltM 0 r) then some (Sum.inl (IntKind.wrap .i64 (IntKind.wrap .i64 r_4+1),s_1.2)) else some (Sum.inl (s_1.1,IntKind.wrap IntKind.i64
 r_4)) else some (Sum.inr s_1.1)) (0,9999)=some ((R / b:Nat):Int):=by
 have hq:R / b≤9999:=by
  have:R / b<10000:=(Nat.div_lt_iff_lt_mul hb).2 hR
  omega
 refine Ans.is (Ans.loop (fun k s=>∃ i j:Nat,s=((i:Int),(j:Int))∧i≤R / b∧R / b≤j∧j≤9999∧j-i+k≤9999) 9999 ⟨0,9999,rfl,Nat.zero_le _,hq,Nat.le_refl _,by omega⟩ ?_)
 rintro k s hk ⟨i,j,rfl,h1,h2,h3,h4⟩
 dsimp only
 by_cases hij:i<j
 ·rw [ltI (by omega),cond_true,half_ok hij h3,Option.bind_some,wrap_in (n:=(((i+j) / 2:Nat):Int)) (by omega) (by omega),wrap_in (n:=(((i+j) / 2:Nat):Int)+1) (by omega) (by omega)]
  have e1:(((i+j) / 2:Nat):Int)+1=(((i+j) / 2+1:Nat):Int):=by omega
  rw [e1,by_ok (by omega) (by omega),Option.bind_some]
  have l1:(grp (b*((i+j) / 2+1))).length≤10000:=Nat.le_trans grp_mul (by have:(grp ((i+j) / 2+1)).length≤1:=grp_len_le (by omega);omega)
  rw [compare_ok l1 (by omega),Option.bind_some]
  have key:(i+j) / 2+1≤R / b↔b*((i+j) / 2+1)≤R:=by rw [Nat.le_div_iff_mul_le hb,Nat.mul_comm]
  by_cases hc:b*((i+j) / 2+1)≤R
  ·have e2:ltM 0 (cmp3 ((b*((i+j) / 2+1):Nat):Int) (R:Int))=false:=by
    unfold cmp3
    by_cases h5:((b*((i+j) / 2+1):Nat):Int)<R
    ·rw [if_pos h5];rfl
    ·rw [if_neg h5,if_neg (by omega)];rfl
   rw [e2,notF,cond_true]
   refine Ans.of (r:=.inl ((((i+j) / 2+1:Nat):Int),(j:Int))) rfl ?_
   exact show k<9999∧∃ i' j':Nat,((((i+j) / 2+1:Nat):Int),(j:Int))=((i':Int),(j':Int))∧i'≤R / b∧R / b≤j'∧j'≤9999∧j'-i'+(k+1)≤9999 from ⟨by omega,_,_,rfl,key.2 hc,h2,h3,by omega⟩
  ·have e2:ltM 0 (cmp3 ((b*((i+j) / 2+1):Nat):Int) (R:Int))=true:=by
    unfold cmp3
    rw [if_neg (by omega),if_pos (by omega)];rfl
   rw [e2,notT,cond_false]
   refine Ans.of (r:=.inl ((i:Int),(((i+j) / 2:Nat):Int))) rfl ?_
   have h6:¬ (i+j) / 2+1≤R / b:=fun h=>hc (key.1 h)
   exact show k<9999∧∃ i' j':Nat,((i:Int),(((i+j) / 2:Nat):Int))=((i':Int),(j':Int))∧i'≤R / b∧R / b≤j'∧j'≤9999∧j'-i'+(k+1)≤9999 from ⟨by omega,_,_,rfl,h1,by omega,by omega,by omega⟩
 ·rw [geI (by omega),cond_false]
  refine Ans.of (r:=.inr (i:Int)) rfl ?_
  show (i:Int)=((R / b:Nat):Int)
  omega
theorem over_ok {a b:Nat} (hb:0<b) (la:(grp a).length≤400) (lb:(grp b).length≤400):m139 (grp a,grp b)=some (grp (a / b),grp (a % b)):=by
 unfold m139
 obtain ⟨L,hL⟩:∃ L,L=(grp a).length:=⟨_,rfl⟩
 have hlen:lenM (grp a)=(L:Int):=by rw [lenI,hL]
 dsimp only
 rw [hlen,mkM_of (by omega) (by omega) (by show (L:Int)*8≤_;omega),Option.bind_some,show ((L:Nat):Int).toNat=L by omega]
 have hw:IntKind.wrap .i64 ((L:Int)-1)=(L:Int)-((0:Nat):Int)-1:=by rw [wrap_in (by omega) (by omega)];omega
 rw [hw]
 refine Ans.is (Ans.bind (P:=fun o=>o.1=grp (a % b)∧okd o.2∧o.2.length=L∧vl o.2=((a / b:Nat):Int)) (Ans.loop (fun k s=>s.1=(L:Int)-(k:Int)-1∧s.2.1=grp (a / 10000 ^ (L-k) % b)∧okd s.2.2∧s.2.2.length=L∧vl s.2.2=10000 ^ (L-k)*((a / 10000 ^ (L-k) / b:Nat):Int)∧∀ j,j<L-k→s.2.2.getD j 0=0) L ⟨rfl,?_,okd_rep _,List.length_replicate,?_,?_⟩ ?_) ?_)
 ·show ([]:List Int)=_
  rw [Nat.sub_zero,hL,Nat.div_eq_of_lt (grp_lt a),Nat.zero_mod,grp_zero]
 ·show vl (List.replicate L 0)=_
  rw [Nat.sub_zero,hL,Nat.div_eq_of_lt (grp_lt a),Nat.zero_div,vl_rep];simp
 ·intro j hj
  show (List.replicate L 0).getD j 0=0
  rw [getD_in _ _ (by simp;omega)];simp
 ·rintro k ⟨i,rm,q⟩ hk ⟨h1,h2,h3,h4,h5,h6⟩
  dsimp only at h1 h2 h3 h4 h5 h6
  subst h1 h2
  by_cases hkL:k<L
  ·have hi:(L:Int)-(k:Int)-1=((L-k-1:Nat):Int):=by omega
   have hd:a / 10000 ^ (L-k)=a / 10000 ^ (L-k-1) / 10000:=by rw [← div_pow_succ,show L-k-1+1=L-k by omega]
   obtain ⟨A,hA⟩:∃ A,A=a / 10000 ^ (L-k-1):=⟨_,rfl⟩
   have hAl:(grp A).length≤400:=by rw [hA];exact Nat.le_trans (grp_len_mono (Nat.div_le_self _ _)) la
   rw [hd,← hA] at h5 ⊢
   have hrm:(grp (A / 10000 % b)).length≤400:=Nat.le_trans (grp_len_mono (Nat.le_of_lt (Nat.mod_lt _ hb))) lb
   have hRv:vl (((A % 10000:Nat):Int)::grp (A / 10000 % b))=((10000*(A / 10000 % b)+A % 10000:Nat):Int):=by rw [vl,vl_grp];omega
   obtain ⟨R,hR⟩:∃ R,R=10000*(A / 10000 % b)+A % 10000:=⟨_,rfl⟩
   have hRb:R<10000*b:=by
    have:=Nat.mod_lt (A / 10000) hb
    omega
   have hAR:A=10000*(A / 10000 / b)*b+R:=by
    have h7:=Nat.div_add_mod (A / 10000) b
    have h8:10000*(A / 10000 / b)*b=10000*(b*(A / 10000 / b)):=by rw [Nat.mul_assoc,Nat.mul_comm b]
    omega
   have hq:A / b=10000*(A / 10000 / b)+R / b:=by
    conv=>lhs;rw [hAR]
    rw [Nat.mul_comm (10000*_) b,Nat.mul_add_div hb]
   have hm:A % b=R % b:=by
    conv=>lhs;rw [hAR]
    rw [Nat.mul_comm (10000*_) b,Nat.mul_add_mod]
   have lR:(grp R).length≤500:=Nat.le_trans (grp_len_mono (show R≤10000*b by omega)) (Nat.le_trans (grp_shift_len b) (by omega))
   have hgi:idxM (grp a) ((L-k-1:Nat):Int)=some ((A % 10000:Nat):Int):=by rw [hA];exact grp_idx (by omega)
   have hst:m145 (((A % 10000:Nat):Int)::grp (A / 10000 % b))=some (grp R):=by
    rw [strip_ok (okd_cons.2 ⟨by omega,grp_okd _⟩) (by simp;omega),hRv,← hR];rfl
   have hd9:R / b≤9999:=by
    have:R / b<10000:=(Nat.div_lt_iff_lt_mul hb).2 hRb
    omega
   dsimp only
   rw [hi,leI (by omega),cond_true,hgi,Option.bind_some,appM_of (by simp;omega),Option.bind_some,List.singleton_append,hst,Option.bind_some]
   refine Ans.bind (P:=fun o=>o=((R / b:Nat):Int)) (.of (bind_of (search_ok hb hRb lb lR) rfl) rfl) ?_
   rintro ov rfl
   rw [lenI,h4,chkM_of (by omega) (by omega),Option.bind_some,setM_of (y:=((R / b:Nat):Int)) (by omega) (by rw [h4];omega) rfl,Option.bind_some,show (((L-k-1:Nat):Int)).toNat=L-k-1 by omega]
   have hsl:(q.set (L-k-1) ((R / b:Nat):Int)).length=L:=by rw [List.length_set,h4]
   rw [lenI,hsl,chkM_of (by omega) (by omega),Option.bind_some,idxM_lt (by rw [hsl];omega),Option.bind_some,List.getElem_set_self,by_ok (by omega) hd9,Option.bind_some,minus_ok (by omega) (Nat.mul_div_le R b),Option.bind_some,wrap_in (by omega) (by omega)]
   have e9:R-b*(R / b)=A % b:=by rw [hm];have:=Nat.div_add_mod R b;omega
   rw [e9]
   refine Ans.of (r:=.inl ((((L-k-1:Nat):Int)-1,grp (A % b),q.set (L-k-1) ((R / b:Nat):Int)))) rfl ?_
   refine show k<L∧((L-k-1:Nat):Int)-1=(L:Int)-((k+1:Nat):Int)-1∧grp (A % b)=grp (a / 10000 ^ (L-(k+1)) % b)∧okd (q.set (L-k-1) ((R / b:Nat):Int))∧(q.set (L-k-1) ((R / b:Nat):Int)).length=L ∧
     vl (q.set (L-k-1) ((R / b:Nat):Int))=10000 ^ (L-(k+1))*((a / 10000 ^ (L-(k+1)) / b:Nat):Int)∧∀ j,j<L-(k+1)→(q.set (L-k-1) ((R / b:Nat):Int)).getD j 0=0 from ⟨hkL,by omega,?_,okd_set h3 (nat_int hd9),hsl,?_,fun j hj=>?_⟩
   ·rw [show L-(k+1)=L-k-1 by omega,← hA]
   ·obtain ⟨m,hm'⟩:∃ m,m=L-k-1:=⟨_,rfl⟩
    rw [show L-(k+1)=L-k-1 by omega,← hA,hq,vl_set _ _ _ (by rw [h4];omega),h6 _ (by omega),h5,← hm',show L-k=m+1 by omega,Int.pow_succ,Int.mul_assoc,Int.sub_zero,← Int.mul_add,Int.natCast_add,Int.natCast_mul]
    rfl
   ·rw [List.getD_eq_getElem?_getD,List.getElem?_set_ne (by omega),← List.getD_eq_getElem?_getD]
    exact h6 j (by omega)
  ·have hk':k=L:=by omega
   subst hk'
   rw [Nat.sub_self,Nat.pow_zero,Nat.div_one] at h5 ⊢
   dsimp only
   rw [gtI (by omega),cond_false]
   refine Ans.of (r:=.inr (grp (a % b),q)) rfl ?_
   exact show grp (a % b)=grp (a % b)∧okd q∧q.length=k∧vl q=((a / b:Nat):Int) from ⟨rfl,h3,h4,by rw [h5];omega⟩
 ·rintro ⟨rm,q⟩ ⟨h1,h2,h3,h4⟩
  dsimp only at h1 h2 h3 h4
  have e:=strip_ok h2 (by omega)
  rw [h4] at e
  subst h1
  exact .of (by dsimp only;rw [e];rfl) rfl
theorem sg_sign {nx:Bool} {l:List Int} {x:Int} (h:Sg (nx,l) x):l=grp x.natAbs∧(nx=false→0≤x)∧(nx=true→x≤0):=by
 obtain ⟨h1,h2⟩:=h
 refine ⟨h1,fun e=>?_,fun e=>?_⟩
 ·by_cases h0:x=0
  ·omega
  ·have:=h2 h0
   have e':decide (x<0)=false:=by rw [← this];exact e
   have:=of_decide_eq_false e'
   omega
 ·by_cases h0:x=0
  ·omega
  ·have:=h2 h0
   have e':decide (x<0)=true:=by rw [← this];exact e
   have:=of_decide_eq_true e'
   omega
theorem sg_mk {nx:Bool} {x:Int} (h1:nx=false→0≤x) (h2:nx=true→x≤0):Sg (nx,grp x.natAbs) x:=by
 refine ⟨rfl,fun h0=>?_⟩
 cases nx
 ·exact (decide_eq_false (by have:=h1 rfl;omega)).symm
 ·exact (decide_eq_true (by have:=h2 rfl;omega)).symm
theorem splus_gen {o1 o2:Bool×List Int} {x y:Int} (h1:Sg o1 x) (h2:Sg o2 y) (hx:(grp x.natAbs).length≤400) (hy:(grp y.natAbs).length≤400):Ans (m84 ((o1.1,o1.2),o2.1,o2.2)) fun o=>Sg o (x+y):=by
 obtain ⟨nx,l⟩:=o1
 obtain ⟨ny,m⟩:=o2
 obtain ⟨rfl,a1,a2⟩:=sg_sign h1
 obtain ⟨rfl,b1,b2⟩:=sg_sign h2
 unfold m84
 dsimp only
 by_cases hs:nx=ny
 ·rw [show eqbM nx ny=true from decide_eq_true hs,cond_true,plus_ok (by omega) (by omega),Option.bind_some]
  refine .of rfl ?_
  have e:x.natAbs+y.natAbs=(x+y).natAbs:=by
   subst hs
   cases nx
   ·have:=a1 rfl;have:=b1 rfl;omega
   ·have:=a2 rfl;have:=b2 rfl;omega
  rw [e]
  subst hs
  exact sg_mk (fun e=>by have:=a1 e;have:=b1 e;omega) (fun e=>by have:=a2 e;have:=b2 e;omega)
 ·rw [show eqbM nx ny=false from decide_eq_false hs,cond_false,compare_ok (by omega) (by omega),Option.bind_some,cmp3_pos]
  have hop:(nx=false∧ny=true)∨(nx=true∧ny=false):=by cases nx<;>cases ny<;>simp at hs ⊢
  by_cases hc:y.natAbs≤x.natAbs
  ·rw [decide_eq_true (by omega),cond_true,minus_ok (by omega) hc,Option.bind_some]
   refine .of rfl ?_
   rcases hop with ⟨rfl,rfl⟩ | ⟨rfl,rfl⟩
   ·have:=a1 rfl
    have:=b2 rfl
    rw [show x.natAbs-y.natAbs=(x+y).natAbs by omega]
    exact sg_mk (fun _=>by omega) (fun e=>by cases e)
   ·have:=a2 rfl
    have:=b1 rfl
    rw [show x.natAbs-y.natAbs=(x+y).natAbs by omega]
    exact sg_mk (fun e=>by cases e) (fun _=>by omega)
  ·rw [decide_eq_false (by omega),cond_false,minus_ok (by omega) (by omega),Option.bind_some]
   refine .of rfl ?_
   rcases hop with ⟨rfl,rfl⟩ | ⟨rfl,rfl⟩
   ·have:=a1 rfl
    have:=b2 rfl
    rw [show y.natAbs-x.natAbs=(x+y).natAbs by omega]
    exact sg_mk (fun e=>by cases e) (fun _=>by omega)
   ·have:=a2 rfl
    have:=b1 rfl
    rw [show y.natAbs-x.natAbs=(x+y).natAbs by omega]
    exact sg_mk (fun _=>by omega) (fun e=>by cases e)
theorem sg_of (x:Int):Sg (decide (x<0),grp x.natAbs) x:=⟨rfl,fun _=>rfl⟩
theorem sg_neg (x:Int):Sg (PE.notM (decide (x<0)),grp x.natAbs) (-x):=by
 rw [← Int.natAbs_neg x]
 refine sg_mk (fun e=>?_) (fun e=>?_)
 ·by_cases h:x<0
  ·omega
  ·rw [decide_eq_false h] at e;cases e
 ·by_cases h:x<0
  ·rw [decide_eq_true h] at e;cases e
  ·omega
theorem isub_ok {x y:Int} (hx:Fits x) (hy:Fits y):m108 (itoa x,itoa y)=some (sn (x-y)):=by
 have h1:=fits_len hx
 have h2:=fits_len hy
 have hn:(-y).natAbs=y.natAbs:=Int.natAbs_neg y
 unfold m108
 dsimp only
 rw [both_ok hx hy,Option.bind_some,notT,cond_false]
 refine Ans.is (Ans.bind (splus_gen (sg_of x) (sg_neg y) (by omega) (by rw [hn];omega)) fun o ho=>?_)
 rw [← Int.sub_eq_add_neg] at ho
 rw [show m85 (o.1,o.2)=some (sn (x-y)) from sn_text ho (Nat.le_trans (grp_len_mono (show (x-y).natAbs≤x.natAbs+y.natAbs by omega)) (Nat.le_trans grp_add (by omega)))]
 exact .of rfl rfl
theorem igcd_loop:∀ (N a b:Nat),b≤N→(grp a).length≤400→(grp b).length≤400→loopM (fun (s:List Int×List Int)=>bif ltM 0 (lenM s.2) then (m139
 (s.1,s.2)).bind fun r=>some (Sum.inl (s.2,r.2)) else some (Sum.inr s.1)) (grp a,grp b)=some (grp (Nat.gcd a b))
 | N,a,0,_,la,lb=>by rw [loopM_eq,Nat.gcd_zero_right,grp_zero];rfl
 | 0,a,b+1,h,_,_=>absurd h (by omega)
 | N+1,a,b+1,h,la,lb=>by
  have hlt:=Nat.mod_lt a (show 0<b+1 by omega)
  have ih:=igcd_loop N (b+1) (a % (b+1)) (by omega) lb (Nat.le_trans (grp_len_mono (Nat.le_of_lt hlt)) lb)
  have hl:(grp (b+1)).length≠0:=fun e=>by have:=grp_nil.1 (List.length_eq_zero_iff.1 e);omega
  rw [loopM_eq]
  dsimp only
  rw [ltI (by rw [lenI];omega),cond_true,over_ok (by omega) la lb,Option.bind_some]
  refine Eq.trans ih ?_
  rw [Nat.gcd_comm (b+1),← Nat.gcd_rec,Nat.gcd_comm]
theorem igcd_ok {x y:Int} (hx:Fits x) (hy:Fits y):m109 (itoa x,itoa y)=some (sn ((Nat.gcd x.natAbs y.natAbs:Nat):Int)):=by
 have h1:=fits_len hx
 have h2:=fits_len hy
 have hl:(grp (Nat.gcd x.natAbs y.natAbs)).length≤400:=by
  by_cases h0:x.natAbs=0
  ·rw [h0,Nat.gcd_zero_left];omega
  ·exact Nat.le_trans (grp_len_mono (Nat.le_of_dvd (by omega) (Nat.gcd_dvd_left _ _))) (by omega)
 unfold m109
 dsimp only
 rw [both_ok hx hy,Option.bind_some,notT,cond_false]
 refine bind_of (igcd_loop _ _ _ (Nat.le_refl _) (by omega) (by omega)) ?_
 have hs:Sg (false,grp (Nat.gcd x.natAbs y.natAbs)) ((Nat.gcd x.natAbs y.natAbs:Nat):Int):=by
  have:=sg_mk (nx:=false) (x:=((Nat.gcd x.natAbs y.natAbs:Nat):Int)) (fun _=>by omega) (fun e=>by cases e)
  rwa [Int.natAbs_natCast] at this
 rw [sn_text hs (by rw [Int.natAbs_natCast];exact hl)]
 rfl
end Go.Proofs.YtdgabicjcepmeaaGreatDoor
namespace Go.Proofs.YtdgabicjcepmeaaGreatDoor
open Go Go.Lib Go.Abs Go.PE Go.Num
theorem ione_ok:m174 ()=some (grp 1):=by
 have e:grp 1=[1]:=by rw [grp_pos (by omega)];simp [grp_zero]
 rw [e];rfl
theorem idiv_ok {x y:Int} (hx:Fits x) (hy:Fits y) (hy0:0<y):m141 (itoa x,itoa y)=some (itoa (x / y),itoa (x % y),0):=by
 have h1:=fits_len hx
 have h2:=fits_len hy
 have hyn:0<y.natAbs:=by omega
 have hyl:(grp y.natAbs).length≠0:=fun e=>by have:=grp_nil.1 (List.length_eq_zero_iff.1 e);omega
 have hm:=Nat.mod_lt x.natAbs hyn
 have hdm:=Nat.div_add_mod x.natAbs y.natAbs
 have hql:(grp (x.natAbs / y.natAbs)).length≤50:=Nat.le_trans (grp_len_mono (Nat.div_le_self _ _)) h1
 have hQle:x.natAbs / y.natAbs≤x.natAbs:=Nat.div_le_self _ _
 have hyd:decide (y<0)=false:=decide_eq_false (by omega)
 unfold m141
 dsimp only
 rw [both_ok hx hy,Option.bind_some,notT,orF,neI (show lenM (grp y.natAbs)≠0 by rw [lenI];omega),cond_false,over_ok hyn (by omega) (by omega),Option.bind_some,hyd]
 generalize x.natAbs / y.natAbs=Q at *
 generalize x.natAbs % y.natAbs=R at *
 have hmul:((y.natAbs*(Q):Nat):Int)=y*((Q:Nat):Int):=by rw [Int.natCast_mul];congr 1;omega
 by_cases hxn:x<0
 ·rw [decide_eq_true hxn,andT]
  by_cases hr:R=0
  ·have e:x / y=-((Q:Nat):Int)∧x % y=0:=(Int.ediv_emod_unique hy0).2 ⟨by rw [Int.mul_neg,← hmul];omega,Int.le_refl _,hy0⟩
   rw [hr,grp_zero,geI (by rw [lenI];simp),cond_false,Option.bind_some]
   have t1:=sn_text (o:=(true,grp (Q))) (z:=x / y) (by rw [e.1];have:=sg_mk (nx:=true) (x:=-((Q:Nat):Int)) (fun e=>by cases e) (fun _=>by omega);rwa [Int.natAbs_neg,Int.natAbs_natCast] at this) (by rw [e.1,Int.natAbs_neg,Int.natAbs_natCast];omega)
   have f1:Fits (x / y):=by rw [e.1];unfold Fits;rw [Int.natAbs_neg,Int.natAbs_natCast];exact Nat.lt_of_le_of_lt hQle hx
   have t2:=sn_text (o:=(false,grp 0)) (z:=(0:Int)) ⟨rfl,fun h=>absurd rfl h⟩ (by rw [show (0:Int).natAbs=0 from rfl,grp_zero];simp)
   rw [grp_zero] at t2
   have g1:sn (x / y)=(itoa (x / y),0):=if_pos f1
   have g2:sn 0=(itoa 0,0):=if_pos (by decide)
   dsimp only
   rw [show PE.notM (eqbM true false)=true from rfl,t1,g1,Option.bind_some,eqI rfl,notT,cond_false,t2,g2,Option.bind_some,e.2]
  ·have hrl:(grp (R)).length≠0:=fun e=>hr (grp_nil.1 (List.length_eq_zero_iff.1 e))
   have e:x / y=-((Q+1:Nat):Int)∧x % y=((y.natAbs-R:Nat):Int):=(Int.ediv_emod_unique hy0).2 ⟨by
    rw [Int.mul_neg,Int.natCast_add,Int.mul_add,← hmul];omega,by omega,by omega⟩
   have hq1:Q+1≤x.natAbs:=by
    have h3:Q*y.natAbs+R=x.natAbs:=by rw [Nat.mul_comm];exact hdm
    have h4:Q≤Q*y.natAbs:=Nat.le_mul_of_pos_right _ hyn
    omega
   rw [ltI (show 0<lenM (grp R) by rw [lenI];omega),cond_true,ione_ok,Option.bind_some,plus_ok (by omega) (by rw [show grp 1=[1] from by rw [grp_pos (by omega)];simp [grp_zero]];simp),Option.bind_some,minus_ok (by omega) (Nat.le_of_lt hm),Option.bind_some,Option.bind_some]
   have t1:=sn_text (o:=(true,grp (Q+1))) (z:=x / y) (by rw [e.1];have:=sg_mk (nx:=true) (x:=-((Q+1:Nat):Int)) (fun e=>by cases e) (fun _=>by omega);rwa [Int.natAbs_neg,Int.natAbs_natCast] at this) (by rw [e.1,Int.natAbs_neg,Int.natAbs_natCast];exact Nat.le_trans (grp_len_mono hq1) (by omega))
   have f1:Fits (x / y):=by rw [e.1];unfold Fits;rw [Int.natAbs_neg,Int.natAbs_natCast];exact Nat.lt_of_le_of_lt hq1 hx
   have t2:=sn_text (o:=(false,grp (y.natAbs-R))) (z:=x % y) (by rw [e.2];have:=sg_mk (nx:=false) (x:=((y.natAbs-R:Nat):Int)) (fun _=>by omega) (fun e=>by cases e);rwa [Int.natAbs_natCast] at this) (by rw [e.2,Int.natAbs_natCast];exact Nat.le_trans (grp_len_mono (Nat.sub_le _ _)) (by omega))
   have f2:Fits (x % y):=by rw [e.2];unfold Fits;rw [Int.natAbs_natCast];exact Nat.lt_of_le_of_lt (Nat.sub_le _ _) hy
   have g1:sn (x / y)=(itoa (x / y),0):=if_pos f1
   have g2:sn (x % y)=(itoa (x % y),0):=if_pos f2
   dsimp only
   rw [show PE.notM (eqbM true false)=true from rfl,t1,g1,Option.bind_some,eqI rfl,notT,cond_false,t2,g2,Option.bind_some]
 ·have e:x / y=((Q:Nat):Int)∧x % y=((R:Nat):Int):=(Int.ediv_emod_unique hy0).2 ⟨by rw [← hmul];omega,by omega,by omega⟩
  rw [decide_eq_false hxn,andF,cond_false,Option.bind_some]
  have t1:=sn_text (o:=(false,grp (Q))) (z:=x / y) (by rw [e.1];have:=sg_mk (nx:=false) (x:=((Q:Nat):Int)) (fun _=>by omega) (fun e=>by cases e);rwa [Int.natAbs_natCast] at this) (by rw [e.1,Int.natAbs_natCast];omega)
  have f1:Fits (x / y):=by rw [e.1];unfold Fits;rw [Int.natAbs_natCast];exact Nat.lt_of_le_of_lt hQle hx
  have t2:=sn_text (o:=(false,grp (R))) (z:=x % y) (by rw [e.2];have:=sg_mk (nx:=false) (x:=((R:Nat):Int)) (fun _=>by omega) (fun e=>by cases e);rwa [Int.natAbs_natCast] at this) (by rw [e.2,Int.natAbs_natCast];exact Nat.le_trans (grp_len_mono (Nat.le_of_lt hm)) (by omega))
  have f2:Fits (x % y):=by rw [e.2];unfold Fits;rw [Int.natAbs_natCast];exact Nat.lt_trans hm hy
  have g1:sn (x / y)=(itoa (x / y),0):=if_pos f1
  have g2:sn (x % y)=(itoa (x % y),0):=if_pos f2
  dsimp only
  rw [show PE.notM (eqbM false false)=false from rfl,t1,g1,Option.bind_some,eqI rfl,notT,cond_false,t2,g2,Option.bind_some]
end Go.Proofs.YtdgabicjcepmeaaGreatDoor
namespace Go.Proofs.YtdgabicjcepmeaaGreatDoor
open Go Go.Lib Go.Abs Go.PE Go.Num
def rt (q:Rat):List UInt8×List UInt8:=(itoa q.num,itoa (q.den:Int))
def FitsR (q:Rat):Prop:=Fits q.num∧Fits (q.den:Int)
noncomputable def redE (n d:List UInt8) (bad:Bool):Option ((List UInt8×List UInt8)×Int) :=
 (bif PE.orM bad (eqsM d [(48:UInt8)]) then some ([],[],40,bad) else ((m107 (d,[(48:UInt8)])).bind fun r=>bif ltM r 0 then (bif bad then some ([],bad) else (m108 ([(48:UInt8)],
 n)).bind fun r=>some (r.1,PE.notM (eqM r.2 0))).bind fun (ov_4:List UInt8×Bool)=>(bif ov_4.2 then some ([],ov_4.2) else (m108 ([(48:UInt8)],
 d)).bind fun r=>some (r.1,PE.notM (eqM r.2 0))).bind fun (ov:List UInt8×Bool)=>some (ov_4.1,ov.1,ov.2) else some (n,d,
 bad)).bind fun o_1=>(bif o_1.2.2 then some ([],o_1.2.2) else (m109 (o_1.1,o_1.2.1)).bind fun r=>some (r.1,PE.notM (eqM r.2 0))).bind fun (ov_4 :
 List UInt8×Bool)=>(bif ov_4.2 then some ([],ov_4.2) else (m140 (o_1.1,ov_4.1)).bind fun r=>some (r.1,PE.notM (eqM r.2 0))).bind fun (ov_5:List
 UInt8×Bool)=>(bif ov_5.2 then some ([],ov_5.2) else (m140 (o_1.2.1,ov_4.1)).bind fun r=>some (r.1,PE.notM (eqM r.2 0))).bind fun (ov:List UInt8 ×
 Bool)=>bif ov.2 then some ([],[],40,ov.2) else some (ov_5.1,ov.1,0,ov.2)).bind fun (ov:List UInt8×List UInt8×Int×Bool)=>some ((ov.1,
 ov.2.1),ov.2.2.1)
theorem sn_fit {z:Int} (h:Fits z):sn z=(itoa z,0):=if_pos h
theorem fits_neg {z:Int} (h:Fits z):Fits (-z):=by unfold Fits at *;rwa [Int.natAbs_neg]
theorem fits_zero:Fits 0:=by decide
theorem fits_dvd {z:Int} {g:Nat} (h:Fits z):Fits (z / (g:Int)):=by
 unfold Fits at *
 refine Nat.lt_of_le_of_lt ?_ h
 exact Int.natAbs_ediv_le_natAbs z g
theorem quot_ok {x y:Int} (hx:Fits x) (hy:Fits y) (hy0:0<y):m140 (itoa x,itoa y)=some (itoa (x / y),0):=by
 unfold m140
 dsimp only
 rw [idiv_ok hx hy hy0];rfl
theorem redE_pos {n d:Int} (hn:Fits n) (hd:Fits d) (h0:0<d):(bif false then some (([]:List UInt8),false) else (m109 (itoa n,itoa d)).bind fun r=>some (r.1,PE.notM (eqM r.2 0)))=some (itoa ((Int.gcd d n:Nat):Int),false):=by
 have hg:Fits ((Nat.gcd n.natAbs d.natAbs:Nat):Int):=by
  unfold Fits
  rw [Int.natAbs_natCast]
  exact Nat.lt_of_le_of_lt (Nat.le_of_dvd (by omega) (Nat.gcd_dvd_right _ _)) hd
 rw [cond_false,igcd_ok hn hd,Option.bind_some,sn_fit hg,eqI rfl,notT,Nat.gcd_comm];rfl
theorem redE_ok {n d:Int} (hn:Fits n) (hd:Fits d) (h0:d≠0):redE (itoa n) (itoa d) false=some (rt (Rat.divInt n d),0):=by
 have hq:(Rat.divInt n d).num=d.sign*n / ((Int.gcd d n:Nat):Int)∧(((Rat.divInt n d).den:Nat):Int)=d.sign*d / ((Int.gcd d n:Nat):Int):=by
  refine ⟨Rat.num_divInt n d,?_⟩
  have hsn:d.sign*d=(d.natAbs:Int):=by
   by_cases h:d<0
   ·rw [Int.sign_eq_neg_one_of_neg h];omega
   ·rw [Int.sign_eq_one_of_pos (by omega)];omega
  rw [Rat.den_divInt,if_neg h0,hsn,Int.natCast_ediv]
 have hgp:(0:Int)<((Int.gcd d n:Nat):Int):=by
  have:=Int.gcd_pos_of_ne_zero_left n h0
  omega
 have hgf:Fits ((Int.gcd d n:Nat):Int):=by
  unfold Fits
  rw [Int.natAbs_natCast]
  exact Nat.lt_of_le_of_lt (Nat.le_of_dvd (by omega) (Nat.gcd_dvd_left _ _)) hd
 unfold redE rt
 rw [eqsF (fun e=>h0 (itoa_eq0.1 e)),orF,cond_false,← itoa_zero,icmp_ok hd fits_zero,Option.bind_some]
 by_cases hneg:d<0
 ·have hs:d.sign=-1:=Int.sign_eq_neg_one_of_neg hneg
  have e1:ltM (cmp3 d 0) 0=true:=by unfold cmp3;rw [if_pos hneg];rfl
  rw [e1,cond_true,cond_false,isub_ok fits_zero hn,Option.bind_some,Int.zero_sub,sn_fit (fits_neg hn),eqI rfl,notT,Option.bind_some,cond_false,isub_ok fits_zero hd,Option.bind_some,Int.zero_sub,sn_fit (fits_neg hd),eqI rfl,notT,Option.bind_some,Option.bind_some]
  dsimp only
  rw [redE_pos (fits_neg hn) (fits_neg hd) (by omega),Option.bind_some]
  have eg:Int.gcd (-d) (-n)=Int.gcd d n:=by unfold Int.gcd;rw [Int.natAbs_neg,Int.natAbs_neg]
  rw [eg,cond_false,quot_ok (fits_neg hn) hgf hgp,Option.bind_some,eqI rfl,notT,Option.bind_some,cond_false,quot_ok (fits_neg hd) hgf hgp,Option.bind_some,eqI rfl,notT,Option.bind_some,cond_false,Option.bind_some,hq.1,hq.2,hs]
  simp only [Int.neg_mul,Int.one_mul]
 ·have hs:d.sign=1:=Int.sign_eq_one_of_pos (by omega)
  have e1:ltM (cmp3 d 0) 0=false:=by unfold cmp3;rw [if_neg hneg,if_pos (by omega)];rfl
  rw [e1,cond_false,Option.bind_some]
  dsimp only
  rw [redE_pos hn hd (by omega),Option.bind_some,cond_false,quot_ok hn hgf hgp,Option.bind_some,eqI rfl,notT,Option.bind_some,cond_false,quot_ok hd hgf hgp,Option.bind_some,eqI rfl,notT,Option.bind_some,cond_false,Option.bind_some,hq.1,hq.2,hs]
  simp only [Int.one_mul]
theorem ivalid2_ok {z:Int} (h:Fits z):m76 (itoa z)=some true:=by
 unfold m76
 rw [ivalid_ok h];rfl
theorem of_ok {n d:Int} (hn:Fits n) (hd:Fits d) (h0:d≠0):m29 (n,d)=some (rt (Rat.divInt n d),0):=by
 unfold m29
 dsimp only
 rw [show m57 n=some (itoa n) from rfl,show m57 d=some (itoa d) from rfl,Option.bind_some,Option.bind_some]
 unfold m56
 dsimp only
 rw [ivalid2_ok hn,Option.bind_some,notT,notF,cond_true,ivalid2_ok hd,Option.bind_some,notT,show PE.orM false false=false from rfl]
 have:=redE_ok hn hd h0
 unfold redE at this
 rw [this];rfl
theorem rvalid_ok {q:Rat} (h:FitsR q):m112 (rt q)=some true:=by
 have hd:(0:Int)<(q.den:Int):=by have:=q.den_nz;omega
 unfold m112 rt
 dsimp only
 rw [ivalid2_ok h.1,Option.bind_some,notT,notF,cond_true,ivalid2_ok h.2,Option.bind_some,notT,orF,notF,cond_true,← itoa_zero,icmp_ok h.2 fits_zero,Option.bind_some,orF]
 have e1:leM (cmp3 (q.den:Int) 0) 0=false:=by unfold cmp3;rw [if_neg (by omega),if_pos hd];rfl
 have hg:Nat.gcd q.num.natAbs (q.den:Int).natAbs=1:=by rw [Int.natAbs_natCast];exact q.reduced
 rw [e1,cond_false,igcd_ok h.1 h.2,Option.bind_some,hg,sn_fit (by decide),eqI rfl,andT,eqsT (by show itoa ((1:Nat):Int)=_;rw [itoa_nn,decDigits_one (by omega)];rfl)]
theorem check_ok {p q:Rat} (hp:FitsR p) (hq:FitsR q):loopM (fun (s:Int×Bool)=>bif ltM s.1 (lenM [((rt p).1,(rt p).2),((rt q).1,(rt q).2)]) then (idxM [((rt p).1,(rt p).2),((rt q).1,(rt q).2)] s.1).bind fun r=>(bif
 PE.notM s.2 then m112 (r.1,r.2) else some false).bind fun r=>some (Sum.inl (IntKind.wrap .i64 (s.1+1),PE.orM s.2 (PE.notM r))) else some (Sum.inr s.2))
 (0,false)=some false:=by
 refine loopM_fn (fun k=>((k:Int),false)) 2 (fun k hk=>?_) rfl
 rcases (show k=0∨k=1 by omega) with rfl | rfl
 ·have:=rvalid_ok hp
  show ((some ((rt p).1,(rt p).2)).bind fun r=>(bif PE.notM false then m112 (r.1,r.2) else some false).bind fun r=>some (Sum.inl (IntKind.wrap .i64 (((0:Nat):Int)+1),PE.orM false (PE.notM r))))=_
  rw [Option.bind_some,notF,cond_true,show m112 ((rt p).1,(rt p).2)=some true from this,Option.bind_some,wrap_in (by omega) (by omega)];rfl
 ·have:=rvalid_ok hq
  show ((some ((rt q).1,(rt q).2)).bind fun r=>(bif PE.notM false then m112 (r.1,r.2) else some false).bind fun r=>some (Sum.inl (IntKind.wrap .i64 (((1:Nat):Int)+1),PE.orM false (PE.notM r))))=_
  rw [Option.bind_some,notF,cond_true,show m112 ((rt q).1,(rt q).2)=some true from this,Option.bind_some,wrap_in (by omega) (by omega)];rfl
theorem radd_ok {p q:Rat} (hp:FitsR p) (hq:FitsR q) (h1:Fits (p.num*q.den)) (h2:Fits (q.num*p.den)) (h3:Fits (p.num*q.den+q.num*p.den)) (h4:Fits ((p.den:Int)*q.den)):m34 (rt p,rt q)=some (rt (p+q),0):=by
 have hd:(p.den:Int)*q.den≠0:=Int.mul_ne_zero (by have:=p.den_nz;omega) (by have:=q.den_nz;omega)
 have e:p+q=Rat.divInt (p.num*q.den+q.num*p.den) ((p.den:Int)*q.den):=by rw [Rat.add_def',← Rat.divInt_ofNat,Int.natCast_mul]
 have key:=redE_ok h3 h4 hd
 unfold m34
 dsimp only
 rw [check_ok hp hq,Option.bind_some,cond_false]
 unfold rt
 dsimp only
 rw [imul_ok hp.1 hq.2,Option.bind_some,sn_fit h1,eqI rfl,notT,Option.bind_some,Option.bind_some,cond_false,imul_ok hq.1 hp.2,Option.bind_some,sn_fit h2,eqI rfl,notT,Option.bind_some,Option.bind_some,cond_false,iadd_ok h1 h2,Option.bind_some,sn_fit h3,eqI rfl,notT,Option.bind_some,cond_false,imul_ok hp.2 hq.2,Option.bind_some,sn_fit h4,eqI rfl,notT,Option.bind_some]
 unfold redE at key
 rw [e]
 exact key
end Go.Proofs.YtdgabicjcepmeaaGreatDoor
namespace Go.Proofs.YtdgabicjcepmeaaGreatDoor
open Go Go.Abs Go.PE Go.Num
open Go.IntKind (wrap)
theorem Dn.fits {D B:Nat} {q:Rat} (h:Dn D B q) (hD:0<D) (h1:D<10 ^ 200) (h2:B*D<10 ^ 200):FitsR q:=by
 obtain ⟨a,b⟩:=h.num_den hD
 refine ⟨Nat.lt_of_le_of_lt b h2,?_⟩
 unfold Fits
 rw [Int.natAbs_natCast]
 exact Nat.lt_of_le_of_lt a h1
theorem Dn.fits2 {D B C:Nat} {q:Rat} (h:Dn D B q) (hD:0<D) (hBC:B≤C) (h2:(C+1)*(D*D)<10 ^ 200):FitsR q:=by
 have h1:D≤(C+1)*(D*D):=Nat.le_trans (Nat.le_mul_of_pos_right D hD) (Nat.le_mul_of_pos_left _ (by omega))
 have h3:B*D≤(C+1)*(D*D):=Nat.mul_le_mul (by omega) (Nat.le_mul_of_pos_right D hD)
 exact h.fits hD (Nat.lt_of_le_of_lt h1 h2) (Nat.lt_of_le_of_lt h3 h2)
theorem radd_dn {D B C E:Nat} {p q:Rat} (hp:Dn D B p) (hq:Dn D C q) (hD:0<D) (hE:B+C≤E) (h2:(E+1)*(D*D)<10 ^ 200):m34 (rt p,rt q)=some (rt (p+q),0):=by
 obtain ⟨a1,a2⟩:=hp.num_den hD
 obtain ⟨b1,b2⟩:=hq.num_den hD
 have m1:p.num.natAbs*q.den≤B*(D*D):=by rw [← Nat.mul_assoc];exact Nat.mul_le_mul a2 b1
 have m2:q.num.natAbs*p.den≤C*(D*D):=by rw [← Nat.mul_assoc];exact Nat.mul_le_mul b2 a1
 have m3:p.den*q.den≤D*D:=Nat.mul_le_mul a1 b1
 have mm:B*(D*D)+C*(D*D)≤E*(D*D):=by rw [← Nat.add_mul];exact Nat.mul_le_mul_right _ hE
 have e:(E+1)*(D*D)=E*(D*D)+D*D:=by rw [Nat.add_mul,Nat.one_mul]
 have e1:(p.num*(q.den:Int)).natAbs=p.num.natAbs*q.den:=by rw [Int.natAbs_mul,Int.natAbs_natCast]
 have e2:(q.num*(p.den:Int)).natAbs=q.num.natAbs*p.den:=by rw [Int.natAbs_mul,Int.natAbs_natCast]
 refine radd_ok (hp.fits2 hD (C:=E) (by omega) h2) (hq.fits2 hD (C:=E) (by omega) h2) ?_ ?_ ?_ ?_
 ·unfold Fits;rw [e1];omega
 ·unfold Fits;rw [e2];omega
 ·unfold Fits
  have:=Int.natAbs_add_le (p.num*(q.den:Int)) (q.num*(p.den:Int))
  omega
 ·unfold Fits;rw [Int.natAbs_mul,Int.natAbs_natCast,Int.natAbs_natCast];omega
def LL:Nat:=69720375229712477164533808935312303556800
def DA:Nat:=2*(LL*LL)
theorem LL_dvd:∀ x:Nat,x<101→0<x→LL % x=0:=by decide
theorem DA_dvd {x y:Int} (hx:0<x) (hx2:x≤100) (hy:0<y) (hy2:y≤100):2*x*y ∣ (DA:Int):=by
 have d:∀ z:Int,0<z→z≤100→z ∣ (LL:Int):=fun z h1 h2=>by
  have:=LL_dvd z.toNat (by omega) (by omega)
  have h3:((z.toNat:Nat):Int) ∣ (LL:Int):=Int.natCast_dvd_natCast.2 (Nat.dvd_of_mod_eq_zero this)
  rwa [show ((z.toNat:Nat):Int)=z by omega] at h3
 have e:(DA:Int)=2*(LL:Int)*(LL:Int):=by unfold DA;rw [Int.natCast_mul,Int.natCast_mul,Int.mul_assoc];rfl
 rw [e]
 exact Int.mul_dvd_mul (Int.mul_dvd_mul (Int.dvd_refl _) (d x hx hx2)) (d y hy hy2)
theorem DA_pos:0<DA:=by decide
theorem DA_fit:(1000+1)*(DA*DA)<10 ^ 200:=by decide
def arT (p q r n:Int):Rat:=ar ((min p (min q r)-n:Int):Rat) ((max (min p q) (min (max p q) r)-n:Int):Rat) ((max p (max q r)-n:Int):Rat)
theorem sort3 (p q r:Int):sortI [p,q,r]=some [min p (min q r),max (min p q) (min (max p q) r),max p (max q r)]:=by
 have:isortI [p,q,r]=[min p (min q r),max (min p q) (min (max p q) r),max p (max q r)]:=by
  show insI p (insI q [r])=_
  by_cases h1:q≤r
  ·have e1:insI q [r]=[q,r]:=by show (bif leM q r then [q,r] else _)=_;rw [leI h1];rfl
   rw [e1]
   by_cases h2:p≤q
   ·show (bif leM p q then [p,q,r] else _)=_
    rw [leI h2,cond_true];congr 1;omega;congr 1;omega;congr 1;omega
   ·show (bif leM p q then _ else q::insI p [r])=_
    rw [gtI (by omega),cond_false]
    by_cases h3:p≤r
    ·show q::(bif leM p r then [p,r] else _)=_
     rw [leI h3,cond_true];congr 1;omega;congr 1;omega;congr 1;omega
    ·show q::(bif leM p r then _ else [r,p])=_
     rw [gtI (by omega),cond_false];congr 1;omega;congr 1;omega;congr 1;omega
  ·have e1:insI q [r]=[r,q]:=by show (bif leM q r then _ else [r,q])=_;rw [gtI (by omega)];rfl
   rw [e1]
   by_cases h2:p≤r
   ·show (bif leM p r then [p,r,q] else _)=_
    rw [leI h2,cond_true];congr 1;omega;congr 1;omega;congr 1;omega
   ·show (bif leM p r then _ else r::insI p [q])=_
    rw [gtI (by omega),cond_false]
    by_cases h3:p≤q
    ·show r::(bif leM p q then [p,q] else _)=_
     rw [leI h3,cond_true];congr 1;omega;congr 1;omega;congr 1;omega
    ·show r::(bif leM p q then _ else [q,p])=_
     rw [gtI (by omega),cond_false];congr 1;omega;congr 1;omega;congr 1;omega
 unfold sortI
 rw [decide_eq_true (show [p,q,r].length<4611686018427387904 by show 3<_;omega),this]
theorem idx3 (a b c:Int):idxM [a,b,c] 0=some a∧idxM [a,b,c] 1=some b∧idxM [a,b,c] 2=some c∧chkM 0 (lenM [a,b,c])=some ()∧chkM 1 (lenM [a,b,c])=some ()∧chkM 2 (lenM [a,b,c])=some ():=⟨rfl,rfl,rfl,rfl,rfl,rfl⟩
theorem fits_small {z:Int} (h:z.natAbs≤1000000000000000000):Fits z:=Nat.lt_of_le_of_lt h (by decide)
theorem half_dn:Dn DA 1 (Rat.divInt 1 2):=Dn.of (by decide) (by decide) (by decide)
theorem abv_core {a b c n:Int} {B:Nat} {acc:Rat} (h0:0≤a) (h1:a≤b) (h2:b≤c) (h3:c≤100) (n0:0≤n) (n1:n≤100) (hB:B≤900) (hacc:Dn DA B acc) {p q r:Int} (hs:sortI [p,q,r]=some [a,b,c]) :
  abvT n [p,q,r] (rt acc)=some (rt (acc+ar ((a-n:Int):Rat) ((b-n:Int):Rat) ((c-n:Int):Rat)))∧Dn DA (B+2) (acc+ar ((a-n:Int):Rat) ((b-n:Int):Rat) ((c-n:Int):Rat)):=by
 obtain ⟨i0,i1,i2,c0,c1,c2⟩:=idx3 a b c
 have qle:∀ {x y:Int},x≤y↔((x:Int):Rat)≤((y:Int):Rat):=fun {x y}=>Rat.intCast_le_intCast.symm
 have qlt:∀ {x y:Int},x<y↔((x:Int):Rat)<((y:Int):Rat):=fun {x y}=>Rat.intCast_lt_intCast.symm
 have z0:((0:Int):Rat)=0:=rfl
 have hof:m29 (1,2)=some (rt (Rat.divInt 1 2),0):=of_ok (by decide) (by decide) (by decide)
 have hhalf:Rat.divInt 1 2=(1:Rat) / 2:=Rat.divInt_eq_div 1 2
 have sqb:∀ {x y:Int},0≤x→x≤y→y≤100→0≤x*x∧x*x≤10000:=fun {x y} hx hy hz=>prod_bd (A:=100) (B:=100) hx (by omega) hx (by omega)
 unfold abvT
 rw [hs,Option.bind_some,c0,Option.bind_some,i0,Option.bind_some]
 by_cases ha:n<a
 ·have hadd:=radd_dn hacc half_dn DA_pos (E:=1000) (by omega) DA_fit
  rw [ltI ha,cond_true,hof,Option.bind_some,ar_1 (by rw [← z0,← qlt];omega),← hhalf]
  refine ⟨bind_of (x:=(rt (acc+Rat.divInt 1 2),0)) hadd rfl,(hacc.add half_dn).mono (by omega)⟩
 rw [geI (by omega),cond_false,c1,Option.bind_some,i1,Option.bind_some]
 by_cases hb:n<b
 ·have hadd:=radd_dn hacc half_dn DA_pos (E:=1000) (by omega) DA_fit
  have p1:=sqb (x:=n-a) (y:=n) (by omega) (by omega) n1
  have p2:=prod_bd (a:=b-a) (b:=c-a) (A:=100) (B:=100) (by omega) (by omega) (by omega) (by omega)
  have p3:=Int.mul_pos (show 0<b-a by omega) (show 0<c-a by omega)
  have p4:(n-a)*(n-a)≤(b-a)*(c-a):=Int.mul_le_mul (by omega) (by omega) (by omega) (by omega)
  have e1:-(n-a)*(n-a)=-((n-a)*(n-a)):=Int.neg_mul _ _
  have e2:2*(b-a)*(c-a)=2*((b-a)*(c-a)):=Int.mul_assoc _ _ _
  have dn2:Dn DA 1 (Rat.divInt (-(n-a)*(n-a)) (2*(b-a)*(c-a))):=Dn.of (by omega) (DA_dvd (by omega) (by omega) (by omega) (by omega)) (by rw [e1,e2];omega)
  have hof2:m29 (-(n-a)*(n-a),2*(b-a)*(c-a))=some (rt (Rat.divInt (-(n-a)*(n-a)) (2*(b-a)*(c-a))),0):=of_ok (fits_small (by omega)) (fits_small (by omega)) (by omega)
  have hadd2:=radd_dn (hacc.add half_dn) dn2 DA_pos (E:=1000) (by omega) DA_fit
  have ear:ar ((a-n:Int):Rat) ((b-n:Int):Rat) ((c-n:Int):Rat)=Rat.divInt 1 2+Rat.divInt (-(n-a)*(n-a)) (2*(b-a)*(c-a)):=by
   rw [ar_2 (by rw [← z0,← qle];omega) (by rw [← z0,← qlt];omega),hhalf,Rat.divInt_eq_div]
   simp only [Rat.intCast_mul,Rat.intCast_neg,Rat.intCast_sub]
   have e3:((2:Int):Rat)=2:=rfl
   rw [e3,frac_mul,frac_mul (-((n:Rat)-(a:Rat))*((n:Rat)-(a:Rat))),show (b:Rat)-(n:Rat)-((a:Rat)-(n:Rat))=(b:Rat)-(a:Rat) by grind,show (c:Rat)-(n:Rat)-((a:Rat)-(n:Rat))=(c:Rat)-(a:Rat) by grind,show 2*((b:Rat)-(a:Rat))*((c:Rat)-(a:Rat))=2*(((b:Rat)-(a:Rat))*((c:Rat)-(a:Rat))) by grind]
   grind
  rw [ltI hb,cond_true,hof,Option.bind_some,ear,← Rat.add_assoc]
  refine ⟨bind_of (x:=(rt (acc+Rat.divInt 1 2),0)) hadd ?_,((hacc.add half_dn).add dn2).mono (by omega)⟩
  simp only [c0,c2,i0,i2,Option.bind_some]
  rw [show negM (wrap .i64 (n-a))=-(wrap .i64 (n-a)) from rfl,wrap_in (n:=n-a) (by omega) (by omega),wrap_in (n:=-(n-a)) (by omega) (by omega),wrap_in (n:=-(n-a)*(n-a)) (by omega) (by omega),wrap_in (n:=b-a) (by omega) (by omega),wrap_in (n:=2*(b-a)) (by omega) (by omega),wrap_in (n:=c-a) (by omega) (by omega),wrap_in (n:=2*(b-a)*(c-a)) (by omega) (by omega),hof2,Option.bind_some]
  exact bind_of (x:=(rt (acc+Rat.divInt 1 2+Rat.divInt (-(n-a)*(n-a)) (2*(b-a)*(c-a))),0)) hadd2 rfl
 rw [geI (by omega),cond_false,c2,Option.bind_some,i2,Option.bind_some]
 by_cases hc:n<c
 ·have p1:=sqb (x:=c-n) (y:=c) (by omega) (by omega) h3
  have p2:=prod_bd (a:=c-a) (b:=c-b) (A:=100) (B:=100) (by omega) (by omega) (by omega) (by omega)
  have p3:=Int.mul_pos (show 0<c-a by omega) (show 0<c-b by omega)
  have p4:(c-n)*(c-n)≤(c-a)*(c-b):=Int.mul_le_mul (by omega) (by omega) (by omega) (by omega)
  have e2:2*(c-a)*(c-b)=2*((c-a)*(c-b)):=Int.mul_assoc _ _ _
  have dn2:Dn DA 1 (Rat.divInt ((c-n)*(c-n)) (2*(c-a)*(c-b))):=Dn.of (by omega) (DA_dvd (by omega) (by omega) (by omega) (by omega)) (by rw [e2];omega)
  have hof2:m29 ((c-n)*(c-n),2*(c-a)*(c-b))=some (rt (Rat.divInt ((c-n)*(c-n)) (2*(c-a)*(c-b))),0):=of_ok (fits_small (by omega)) (fits_small (by omega)) (by omega)
  have hadd2:=radd_dn hacc dn2 DA_pos (E:=1000) (by omega) DA_fit
  have ear:ar ((a-n:Int):Rat) ((b-n:Int):Rat) ((c-n:Int):Rat)=Rat.divInt ((c-n)*(c-n)) (2*(c-a)*(c-b)):=by
   rw [ar_3 (by rw [← z0,← qle];omega) (by rw [← z0,← qle];omega) (by rw [← z0,← qlt];omega),Rat.divInt_eq_div]
   simp only [Rat.intCast_mul,Rat.intCast_neg,Rat.intCast_sub]
   have e3:((2:Int):Rat)=2:=rfl
   rw [e3,show (c:Rat)-(n:Rat)-((a:Rat)-(n:Rat))=(c:Rat)-(a:Rat) by grind,show (c:Rat)-(n:Rat)-((b:Rat)-(n:Rat))=(c:Rat)-(b:Rat) by grind,show 2*((c:Rat)-(a:Rat))*((c:Rat)-(b:Rat))=2*(((c:Rat)-(a:Rat))*((c:Rat)-(b:Rat))) by grind]
  rw [ltI hc,cond_true,ear]
  refine ⟨?_,(hacc.add dn2).mono (by omega)⟩
  simp only [Option.bind_some]
  rw [wrap_in (n:=c-n) (by omega) (by omega),wrap_in (n:=(c-n)*(c-n)) (by omega) (by omega),wrap_in (n:=c-a) (by omega) (by omega),wrap_in (n:=2*(c-a)) (by omega) (by omega),wrap_in (n:=c-b) (by omega) (by omega),wrap_in (n:=2*(c-a)*(c-b)) (by omega) (by omega),hof2,Option.bind_some]
  exact bind_of (x:=(rt (acc+Rat.divInt ((c-n)*(c-n)) (2*(c-a)*(c-b))),0)) hadd2 rfl
 ·rw [geI (by omega),cond_false,ar_4 (by rw [← z0,← qle];omega) (by rw [← z0,← qle];omega) (by rw [← z0,← qle];omega),Rat.add_zero]
  exact ⟨rfl,hacc.mono (by omega)⟩
theorem abvT_ok {p q r n:Int} {B:Nat} {acc:Rat} (hp:0≤p∧p≤100) (hq:0≤q∧q≤100) (hr:0≤r∧r≤100) (n0:0≤n) (n1:n≤100) (hB:B≤900) (hacc:Dn DA B acc) :
  abvT n [p,q,r] (rt acc)=some (rt (acc+arT p q r n))∧Dn DA (B+2) (acc+arT p q r n) :=
 abv_core (by omega) (by omega) (by omega) (by omega) n0 n1 hB hacc (sort3 p q r)
def aT (W:Nat) (v:Nat→Int) (n:Int) (k:Nat):Rat:=arT (triF W v k).1.2.2 (triF W v k).2.1.2.2 (triF W v k).2.2.2.2 n
def abQ (W H:Nat) (v:Nat→Int) (n:Int):Rat:=qsum (2*(H*W)) (aT W v n)
theorem abQ_dn {W H:Nat} {v:Nat→Int} (h:OkV W H v) {n:Int} (n0:0≤n) (n1:n≤100):∀ k,k≤2*(H*W)→Dn DA (2*k) (qsum k (aT W v n))
 | 0,_=>Dn.zero
 | k+1,hk=>by
  have hWH:H*W≤36:=Nat.mul_le_mul h.h6 h.w6
  have t:=tSum_bd h (show k<2*(H*W) by omega)
  exact ((abvT_ok (p:=(triF W v k).1.2.2) (q:=(triF W v k).2.1.2.2) (r:=(triF W v k).2.2.2.2) ⟨t.1,t.2.1⟩ ⟨t.2.2.1,t.2.2.2.1⟩ t.2.2.2.2 n0 n1 (by omega) (abQ_dn h n0 n1 k (by omega))).2).mono (by omega)
theorem abv_tri {W H:Nat} {v:Nat→Int} (h:OkV W H v) {n:Int} (n0:0≤n) (n1:n≤100) {k:Nat} (hk:k<2*(H*W)):abvT n [(triF W v k).1.2.2,(triF W v k).2.1.2.2,(triF W v k).2.2.2.2] (rt (qsum k (aT W v n)))=some (rt (qsum (k+1) (aT W v n))):=by
 have hWH:H*W≤36:=Nat.mul_le_mul h.h6 h.w6
 have t:=tSum_bd h hk
 exact (abvT_ok ⟨t.1,t.2.1⟩ ⟨t.2.2.1,t.2.2.2.1⟩ t.2.2.2.2 n0 n1 (by omega) (abQ_dn h n0 n1 k (by omega))).1
theorem abvE_ok {W H:Nat} {v:Nat→Int} (h:OkV W H v) {n:Int} (n0:0≤n) (n1:n≤100):abvE W H (row (nn W H) v) n=some (rt (abQ W H v n)):=by
 have w6:=h.w6
 have h6:=h.h6
 have hWH:H*W≤36:=Nat.mul_le_mul h6 w6
 have hof:m29 (0,1)=some (rt (qsum (2*(0*W)) (aT W v n)),0):=by
  rw [Nat.zero_mul]
  have:=of_ok (n:=0) (d:=1) (by decide) (by decide) (by decide)
  rw [this];rfl
 unfold abvE
 rw [hof,Option.bind_some]
 refine bind_of (x:=rt (abQ W H v n)) ?_ rfl
 refine count_loop (fun cy=>rt (qsum (2*(cy*W)) (aT W v n))) H (fun cy hy=>?_) ?_
 ·dsimp only
  rw [ltI (by omega),cond_true,wrap_in (n:=(cy:Int)+1) (by omega) (by omega)]
  refine bind_of (x:=rt (qsum (2*((cy+1)*W)) (aT W v n))) ?_ rfl
  refine count_loop (fun cx=>rt (qsum (2*(cy*W+cx)) (aT W v n))) W (fun cx hx=>?_) ?_
  ·have hb:cy*W+cx+1≤H*W:=by
    have:(cy+1)*W≤H*W:=Nat.mul_le_mul_right _ hy
    rw [Nat.add_mul,Nat.one_mul] at this
    omega
   have t1:=abv_tri h n0 n1 (k:=2*(cy*W+cx)) (by omega)
   have t2:=abv_tri h n0 n1 (k:=2*(cy*W+cx)+1) (by omega)
   rw [triF_low v hx] at t1
   rw [triF_upp v hx] at t2
   unfold nd at t1 t2
   dsimp only at t1 t2
   dsimp only
   rw [ltI (by omega),cond_true,wrap_in (n:=(cx:Int)+1) (by omega) (by omega),node_ok w6 h6 (cx:=(cx:Int)) (cy:=(cy:Int)) (by omega) (by omega) (by omega) (by omega),node_ok w6 h6 (cx:=(cx:Int)+1) (cy:=(cy:Int)) (by omega) (by omega) (by omega) (by omega),node_ok w6 h6 (cx:=(cx:Int)+1) (cy:=(cy:Int)+1) (by omega) (by omega) (by omega) (by omega),node_ok w6 h6 (cx:=(cx:Int)) (cy:=(cy:Int)+1) (by omega) (by omega) (by omega) (by omega)]
   simp only [Option.bind_some]
   refine bind_of t1 ?_
   refine bind_of t2 ?_
   rw [show 2*(cy*W+cx)+1+1=2*(cy*W+(cx+1)) by omega]
  ·dsimp only
   rw [geI (by omega),cond_false,Nat.add_mul,Nat.one_mul]
 ·dsimp only
  rw [geI (by omega),cond_false];rfl
theorem above_ok {W H:Nat} {lo hi:Nat→Int} (h:OkF W H lo hi) {n:Int} (n0:0≤n) (n1:n≤100):m11 (fd W H lo hi,n)=some (rt (abQ W H lo n),rt (abQ W H hi n),0):=by
 unfold m11
 have v1:=valid_ok h
 unfold fd at v1 ⊢
 dsimp only
 rw [v1,Option.bind_some,notT,notF,cond_true,within_ok,Option.bind_some,decide_eq_true (by omega),notT,orF,cond_false]
 refine bind_of (abvE_ok h.okLo n0 n1) ?_
 refine bind_of (abvE_ok h.okHi n0 n1) rfl
theorem andM_false (b:Bool):PE.andM b false=false:=by cases b<;>rfl
end Go.Proofs.YtdgabicjcepmeaaGreatDoor
namespace Go.Proofs.YtdgabicjcepmeaaGreatDoor
open Go Go.Abs Go.PE Go.Num
open Go.IntKind (wrap)
structure Trg (W H:Nat) (ax ay bx by_ cx cy:Int):Prop where
 ab:Nod ax ay bx by_
 bc:Nod bx by_ cx cy
 ca:Nod cx cy ax ay
 a:0≤ax∧ax≤W∧0≤ay∧ay≤H
 b:0≤bx∧bx≤W∧0≤by_∧by_≤H
 c:0≤cx∧cx≤W∧0≤cy∧cy≤H
 nab:¬ (ax=bx∧ay=by_)
 nbc:¬ (bx=cx∧by_=cy)
 nca:¬ (cx=ax∧cy=ay)
def valQ (A B C:Spt) (va vb vc:Int) (q:Spt):Int:=va*lev A q+vb*lev B q+vc*lev C q
def wV (A B C:Spt) (va vb vc:Int):Rat×Rat×Rat:=((va:Rat)*(A.1:Rat)+(vb:Rat)*(B.1:Rat)+(vc:Rat)*(C.1:Rat),(va:Rat)*(A.2.1:Rat)+(vb:Rat)*(B.2.1:Rat)+(vc:Rat)*(C.2.1:Rat),(va:Rat)*(A.2.2:Rat)+(vb:Rat)*(B.2.2:Rat)+(vc:Rat)*(C.2.2:Rat))
theorem val_vl (A B C:Spt) (va vb vc:Int) {q:Spt} (h:0<q.2.2):((valQ A B C va vb vc q:Int):Rat)=(q.2.2:Rat)*vlq (wV A B C va vb vc) (rp q):=by
 unfold valQ
 simp only [Rat.intCast_add,Rat.intCast_mul]
 rw [lev_lv A h,lev_lv B h,lev_lv C h]
 unfold vlq wV lv
 grind
theorem val_term {v z:Int} (hv:0≤v∧v≤100) (hz:-144≤z∧z≤144):-14400≤v*z∧v*z≤14400:=by
 have a:=Int.mul_le_mul_of_nonneg_left hz.2 hv.1
 have b:=Int.mul_le_mul_of_nonneg_left hz.1 hv.1
 omega
theorem valQ_bd {W H:Nat} {ax ay bx by_ cx cy:Int} (T:Trg W H ax ay bx by_ cx cy) {va vb vc:Int} (ha:0≤va∧va≤100) (hb:0≤vb∧vb≤100) (hc:0≤vc∧vc≤100) {q:Spt} (hq:Bx q) :
  -43200≤valQ (lineF bx by_ cx cy) (lineF cx cy ax ay) (lineF ax ay bx by_) va vb vc q∧valQ (lineF bx by_ cx cy) (lineF cx cy ax ay) (lineF ax ay bx by_) va vb vc q≤43200:=by
 have t1:=val_term ha (lev_bd T.bc hq)
 have t2:=val_term hb (lev_bd T.ca hq)
 have t3:=val_term hc (lev_bd T.ab hq)
 unfold valQ
 omega
theorem valE_ok {W H:Nat} {v:Nat→Int} (h:OkV W H v) {ax ay bx by_ cx cy:Int} (T:Trg W H ax ay bx by_ cx cy) {q:Spt} (hq:Bx q) :
  valE W (row (nn W H) v) ax ay bx by_ cx cy q=some (valQ (lineF bx by_ cx cy) (lineF cx cy ax ay) (lineF ax ay bx by_) (nv W v ax ay) (nv W v bx by_) (nv W v cx cy) q):=by
 obtain ⟨a0,a1,a2,a3⟩:=T.a
 obtain ⟨b0,b1,b2,b3⟩:=T.b
 obtain ⟨c0,c1,c2,c3⟩:=T.c
 have t1:=val_term (nv_bd h a0 a1 a2 a3) (lev_bd T.bc hq)
 have t2:=val_term (nv_bd h b0 b1 b2 b3) (lev_bd T.ca hq)
 have t3:=val_term (nv_bd h c0 c1 c2 c3) (lev_bd T.ab hq)
 unfold valE valQ
 rw [node_ok h.w6 h.h6 a0 a1 a2 a3,Option.bind_some,Option.bind_some,left_ok T.bc hq,Option.bind_some,node_ok h.w6 h.h6 b0 b1 b2 b3,Option.bind_some,Option.bind_some,left_ok T.ca hq,Option.bind_some,node_ok h.w6 h.h6 c0 c1 c2 c3,Option.bind_some,Option.bind_some,left_ok T.ab hq,Option.bind_some]
 generalize nv W v ax ay*lev (lineF bx by_ cx cy) q=x at *
 generalize nv W v bx by_*lev (lineF cx cy ax ay) q=y at *
 generalize nv W v cx cy*lev (lineF ax ay bx by_) q=z at *
 rw [wrap_in (n:=x) (by omega) (by omega),wrap_in (n:=y) (by omega) (by omega),wrap_in (n:=z) (by omega) (by omega),Int.zero_add,wrap_in (n:=x) (by omega) (by omega),wrap_in (n:=x+y) (by omega) (by omega),wrap_in (n:=x+y+z) (by omega) (by omega)]
def MM:Nat:=27720*27720*27720
def DO:Nat:=6*MM*MM
theorem DO_pos:0<DO:=by decide
theorem DO_fit:(1000000000000000000+1)*(DO*DO)<10 ^ 200:=by decide
theorem d12_dvd:∀ x:Nat,x<13→0<x→27720 % x=0:=by decide
theorem dd_dvd {x y z:Int} (hx:0<x∧x≤12) (hy:0<y∧y≤12) (hz:0<z∧z≤12):6*(x*y*z)*(x*y*z) ∣ (DO:Int):=by
 have d:∀ z:Int,0<z∧z≤12→z ∣ (27720:Int):=fun z h=>by
  have:=d12_dvd z.toNat (by omega) (by omega)
  have h3:((z.toNat:Nat):Int) ∣ ((27720:Nat):Int):=Int.natCast_dvd_natCast.2 (Nat.dvd_of_mod_eq_zero this)
  rwa [show ((z.toNat:Nat):Int)=z by omega] at h3
 have e:x*y*z ∣ (MM:Int):=Int.mul_dvd_mul (Int.mul_dvd_mul (d x hx) (d y hy)) (d z hz)
 exact Int.mul_dvd_mul (Int.mul_dvd_mul (Int.dvd_refl 6) e) e
theorem small_mul {x y A B:Int} (hx:0≤x∧x≤A) (hy:-B≤y∧y≤B) (hB:0≤B):-(A*B)≤x*y∧x*y≤A*B:=by
 have a:=Int.mul_le_mul_of_nonneg_left hy.2 hx.1
 have b:=Int.mul_le_mul_of_nonneg_left hy.1 hx.1
 have c:=Int.mul_le_mul_of_nonneg_right hx.2 hB
 rw [Int.mul_neg] at b
 omega
theorem term_rat {A B C:Spt} {va vb vc:Int} {p q r:Spt} (hp:0<p.2.2) (hq:0<q.2.2) (hr:0<r.2.2) :
  Rat.divInt (dt3 p q r*(valQ A B C va vb vc p*q.2.2*r.2.2+valQ A B C va vb vc q*p.2.2*r.2.2+valQ A B C va vb vc r*p.2.2*q.2.2)) (6*(p.2.2*q.2.2*r.2.2)*(p.2.2*q.2.2*r.2.2))=phi (wV A B C va vb vc) (rp p) (rp q) (rp r):=by
 rw [Rat.divInt_eq_div]
 simp only [Rat.intCast_mul,Rat.intCast_add]
 rw [dt3_dtr hp hq hr,val_vl _ _ _ _ _ _ hp,val_vl _ _ _ _ _ _ hq,val_vl _ _ _ _ _ _ hr,show ((6:Int):Rat)=6 from rfl]
 obtain ⟨_,_,p3⟩:=rp_mul hp
 obtain ⟨_,_,q3⟩:=rp_mul hq
 obtain ⟨_,_,r3⟩:=rp_mul hr
 unfold phi
 generalize dtr (rp p) (rp q) (rp r)=t
 generalize vlq (wV A B C va vb vc) (rp p)=x
 generalize vlq (wV A B C va vb vc) (rp q)=y
 generalize vlq (wV A B C va vb vc) (rp r)=z
 generalize (p.2.2:Rat)=a at *
 generalize (q.2.2:Rat)=b at *
 generalize (r.2.2:Rat)=c at *
 have m:=Rat.mul_pos (Rat.mul_pos p3 q3) r3
 have m2:=Rat.mul_pos m m
 have e:=qdiv_mul (n:=a*b*c*t*(a*x*b*c+b*y*a*c+c*z*a*b)) (d:=6*(a*b*c)*(a*b*c)) (by grind)
 generalize a*b*c*t*(a*x*b*c+b*y*a*c+c*z*a*b) / (6*(a*b*c)*(a*b*c))=u at *
 refine qcancel (a:=6*(a*b*c)*(a*b*c)) (by grind) ?_
 grind
theorem fan_step {W H:Nat} {v:Nat→Int} (h:OkV W H v) {ax ay bx by_ cx cy:Int} (T:Trg W H ax ay bx by_ cx cy) {p q r:Spt} (hp:Bx p) (hq:Bx q) (hr:Bx r) {B:Nat} {acc:Rat} (hB:B≤100000000000000000) (hacc:Dn DO B acc) {i:Int} (i0:0≤i) (i1:i≤1000) :
  ((valE W (row (nn W H) v) ax ay bx by_ cx cy p).bind fun (ov_1:Int)=>(valE W (row (nn W H) v) ax ay bx by_ cx cy q).bind fun (ov_2:Int)=>(valE W (row (nn W H) v) ax ay bx by_ cx cy r).bind fun (ov_3 :
 Int)=>(m29 (wrap .i64 (wrap .i64 (wrap .i64 (wrap .i64 (p.1*wrap .i64 (wrap .i64 (q.2.1*r.2.2)-wrap
 IntKind.i64 (q.2.2*r.2.1)))-wrap .i64 (p.2.1*wrap .i64 (wrap .i64 (q.1*r.2.2)-wrap .i64 (q.2.2*r.1))))+wrap
 IntKind.i64 (p.2.2*wrap .i64 (wrap .i64 (q.1*r.2.1)-wrap .i64 (q.2.1*r.1))))*wrap .i64 (wrap .i64 (wrap
 IntKind.i64 (wrap .i64 (ov_1*q.2.2)*r.2.2)+wrap .i64 (wrap .i64 (ov_2*p.2.2)*r.2.2))+wrap .i64 (wrap .i64 (ov_3 *
 p.2.2)*q.2.2))),wrap .i64 (wrap .i64 (6*wrap .i64 (wrap .i64 (p.2.2*q.2.2)*r.2.2))*wrap .i64 (wrap IntKind.i64
 (p.2.2*q.2.2)*r.2.2)))).bind fun r_9=>(m34 (((rt acc).1,(rt acc).2),r_9.1.1,r_9.1.2)).bind fun r=>some (Sum.inl (α:=Int×List UInt8×List UInt8) (β:=List UInt8×List UInt8) (wrap .i64 (i+1),r.1.1,r.1.2))) =
  some (.inl (i+1,rt (acc+phi (wV (lineF bx by_ cx cy) (lineF cx cy ax ay) (lineF ax ay bx by_) (nv W v ax ay) (nv W v bx by_) (nv W v cx cy)) (rp p) (rp q) (rp r))))∧Dn DO (B+4000000000000) (acc+phi (wV (lineF bx by_ cx cy) (lineF cx cy ax ay) (lineF ax ay bx by_) (nv W v ax ay) (nv W v bx by_) (nv W v cx cy)) (rp p) (rp q) (rp r)):=by
 obtain ⟨a0,a1,a2,a3⟩:=T.a
 obtain ⟨b0,b1,b2,b3⟩:=T.b
 obtain ⟨c0,c1,c2,c3⟩:=T.c
 have na:=nv_bd h a0 a1 a2 a3
 have nb:=nv_bd h b0 b1 b2 b3
 have nc:=nv_bd h c0 c1 c2 c3
 have v1:=valQ_bd T na nb nc hp
 have v2:=valQ_bd T na nb nc hq
 have v3:=valQ_bd T na nb nc hr
 have et:=term_rat (A:=lineF bx by_ cx cy) (B:=lineF cx cy ax ay) (C:=lineF ax ay bx by_) (va:=nv W v ax ay) (vb:=nv W v bx by_) (vc:=nv W v cx cy) hp.2.2.2.2.1 hq.2.2.2.2.1 hr.2.2.2.2.1
 rw [valE_ok h T hp,Option.bind_some,valE_ok h T hq,Option.bind_some,valE_ok h T hr,Option.bind_some,← et]
 generalize valQ (lineF bx by_ cx cy) (lineF cx cy ax ay) (lineF ax ay bx by_) (nv W v ax ay) (nv W v bx by_) (nv W v cx cy) p=x at *
 generalize valQ (lineF bx by_ cx cy) (lineF cx cy ax ay) (lineF ax ay bx by_) (nv W v ax ay) (nv W v bx by_) (nv W v cx cy) q=y at *
 generalize valQ (lineF bx by_ cx cy) (lineF cx cy ax ay) (lineF ax ay bx by_) (nv W v ax ay) (nv W v bx by_) (nv W v cx cy) r=z at *
 clear et
 obtain ⟨px,py,pd⟩:=p
 obtain ⟨qx,qy,qd⟩:=q
 obtain ⟨rx,ry,rd⟩:=r
 obtain ⟨p0,p1,p2,p3,p4,p5⟩:=hp
 obtain ⟨q0,q1,q2,q3,q4,q5⟩:=hq
 obtain ⟨r0,r1,r2,r3,r4,r5⟩:=hr
 dsimp only at *
 have s1:=prod_bd (a:=qy) (b:=rd) (A:=72) (B:=12) q2 q3 (by omega) r5
 have s2:=prod_bd (a:=qd) (b:=ry) (A:=12) (B:=72) (by omega) q5 r2 r3
 have s3:=prod_bd (a:=qx) (b:=rd) (A:=72) (B:=12) q0 q1 (by omega) r5
 have s4:=prod_bd (a:=qd) (b:=rx) (A:=12) (B:=72) (by omega) q5 r0 r1
 have s5:=prod_bd (a:=qx) (b:=ry) (A:=72) (B:=72) q0 q1 r2 r3
 have s6:=prod_bd (a:=qy) (b:=rx) (A:=72) (B:=72) q2 q3 r0 r1
 have u1:=small_mul (x:=px) (y:=qy*rd-qd*ry) (A:=72) (B:=864) ⟨p0,p1⟩ (by omega) (by omega)
 have u2:=small_mul (x:=py) (y:=qx*rd-qd*rx) (A:=72) (B:=864) ⟨p2,p3⟩ (by omega) (by omega)
 have u3:=small_mul (x:=pd) (y:=qx*ry-qy*rx) (A:=12) (B:=5184) ⟨by omega,p5⟩ (by omega) (by omega)
 have d1:=prod_bd (a:=pd) (b:=qd) (A:=12) (B:=12) (by omega) p5 (by omega) q5
 have d1p:=Int.mul_pos p4 q4
 have d2:=prod_bd (a:=pd*qd) (b:=rd) (A:=144) (B:=12) d1.1 (by omega) (by omega) r5
 have d2p:=Int.mul_pos d1p r4
 have d3:=prod_bd (a:=6*(pd*qd*rd)) (b:=pd*qd*rd) (A:=10368) (B:=1728) (by omega) (by omega) (by omega) (by omega)
 have d3p:=Int.mul_pos (show 0<6*(pd*qd*rd) by omega) d2p
 have w1:=small_mul (x:=qd) (y:=x) (A:=12) (B:=43200) ⟨by omega,q5⟩ (by omega) (by omega)
 rw [Int.mul_comm qd x] at w1
 have w1':=small_mul (x:=rd) (y:=x*qd) (A:=12) (B:=518400) ⟨by omega,r5⟩ (by omega) (by omega)
 rw [Int.mul_comm rd (x*qd)] at w1'
 have w2:=small_mul (x:=pd) (y:=y) (A:=12) (B:=43200) ⟨by omega,p5⟩ (by omega) (by omega)
 rw [Int.mul_comm pd y] at w2
 have w2':=small_mul (x:=rd) (y:=y*pd) (A:=12) (B:=518400) ⟨by omega,r5⟩ (by omega) (by omega)
 rw [Int.mul_comm rd (y*pd)] at w2'
 have w3:=small_mul (x:=pd) (y:=z) (A:=12) (B:=43200) ⟨by omega,p5⟩ (by omega) (by omega)
 rw [Int.mul_comm pd z] at w3
 have w3':=small_mul (x:=qd) (y:=z*pd) (A:=12) (B:=518400) ⟨by omega,q5⟩ (by omega) (by omega)
 rw [Int.mul_comm qd (z*pd)] at w3'
 have hdv:=dd_dvd (x:=pd) (y:=qd) (z:=rd) ⟨p4,p5⟩ ⟨q4,q5⟩ ⟨r4,r5⟩
 rw [wrap_in (n:=qy*rd) (by omega) (by omega),wrap_in (n:=qd*ry) (by omega) (by omega),wrap_in (n:=qx*rd) (by omega) (by omega),wrap_in (n:=qd*rx) (by omega) (by omega),wrap_in (n:=qx*ry) (by omega) (by omega),wrap_in (n:=qy*rx) (by omega) (by omega),
  wrap_in (n:=qy*rd-qd*ry) (by omega) (by omega),wrap_in (n:=qx*rd-qd*rx) (by omega) (by omega),wrap_in (n:=qx*ry-qy*rx) (by omega) (by omega),wrap_in (n:=px*_) (by omega) (by omega),wrap_in (n:=py*_) (by omega) (by omega),wrap_in (n:=pd*(qx*ry-qy*rx)) (by omega) (by omega),
  wrap_in (n:=px*(qy*rd-qd*ry)-py*(qx*rd-qd*rx)) (by omega) (by omega),wrap_in (n:=px*(qy*rd-qd*ry)-py*(qx*rd-qd*rx)+pd*(qx*ry-qy*rx)) (by omega) (by omega),
  wrap_in (n:=x*qd) (by omega) (by omega),wrap_in (n:=x*qd*rd) (by omega) (by omega),wrap_in (n:=y*pd) (by omega) (by omega),wrap_in (n:=y*pd*rd) (by omega) (by omega),wrap_in (n:=z*pd) (by omega) (by omega),wrap_in (n:=z*pd*qd) (by omega) (by omega),wrap_in (n:=x*qd*rd+y*pd*rd) (by omega) (by omega),wrap_in (n:=x*qd*rd+y*pd*rd+z*pd*qd) (by omega) (by omega),
  wrap_in (n:=pd*qd) (by omega) (by omega),wrap_in (n:=pd*qd*rd) (by omega) (by omega),wrap_in (n:=6*(pd*qd*rd)) (by omega) (by omega),wrap_in (n:=6*(pd*qd*rd)*(pd*qd*rd)) (by omega) (by omega)]
 show _∧Dn DO _ (acc+Rat.divInt ((px*(qy*rd-qd*ry)-py*(qx*rd-qd*rx)+pd*(qx*ry-qy*rx))*(x*qd*rd+y*pd*rd+z*pd*qd)) (6*(pd*qd*rd)*(pd*qd*rd)))
 have ed:dt3 (px,py,pd) (qx,qy,qd) (rx,ry,rd)=px*(qy*rd-qd*ry)-py*(qx*rd-qd*rx)+pd*(qx*ry-qy*rx):=rfl
 rw [ed]
 have hab:-186624≤px*(qy*rd-qd*ry)-py*(qx*rd-qd*rx)+pd*(qx*ry-qy*rx)∧px*(qy*rd-qd*ry)-py*(qx*rd-qd*rx)+pd*(qx*ry-qy*rx)≤186624:=by omega
 generalize px*(qy*rd-qd*ry)-py*(qx*rd-qd*rx)+pd*(qx*ry-qy*rx)=ar at *
 generalize hS:x*qd*rd+y*pd*rd+z*pd*qd=S at *
 generalize 6*(pd*qd*rd)*(pd*qd*rd)=D at *
 have har:ar.natAbs≤186624:=by omega
 have hS2:S.natAbs≤18662400:=by omega
 have hnum:(ar*S).natAbs≤4000000000000:=by rw [Int.natAbs_mul];exact Nat.le_trans (Nat.mul_le_mul har hS2) (by decide)
 have dn:=Dn.of (D:=DO) (B:=4000000000000) (n:=ar*S) (d:=D) (by omega) hdv (Nat.le_trans hnum (Nat.le_mul_of_pos_right _ (by omega)))
 rw [wrap_in (n:=ar*S) (by omega) (by omega),of_ok (fits_small (by omega)) (fits_small (by omega)) (by omega),Option.bind_some]
 refine ⟨?_,hacc.add dn⟩
 refine bind_of (x:=(rt (acc+Rat.divInt (ar*S) D),0)) (radd_dn hacc dn DO_pos (E:=1000000000000000000) (by omega) DO_fit) ?_
 rw [wrap_in (by omega) (by omega)]
theorem fanE_ok {W H:Nat} {v:Nat→Int} (h:OkV W H v) {ax ay bx by_ cx cy:Int} (T:Trg W H ax ay bx by_ cx cy) {l:List Spt} (hl:∀ x∈l,Bx x) (hlen:l.length≤64) {B:Nat} {acc:Rat} (hB:B≤50000000000000000) (hacc:Dn DO B acc) :
  fanE W (row (nn W H) v) ax ay bx by_ cx cy l (rt acc)=some (rt (acc+fan (wV (lineF bx by_ cx cy) (lineF cx cy ax ay) (lineF ax ay bx by_) (nv W v ax ay) (nv W v bx by_) (nv W v cx cy)) l))∧Dn DO (B+300000000000000) (acc+fan (wV (lineF bx by_ cx cy) (lineF cx cy ax ay) (lineF ax ay bx by_) (nv W v ax ay) (nv W v bx by_) (nv W v cx cy)) l):=by
 obtain ⟨f,hf⟩:∃ f:Nat→Rat,f=fun i=>phi (wV (lineF bx by_ cx cy) (lineF cx cy ax ay) (lineF ax ay bx by_) (nv W v ax ay) (nv W v bx by_) (nv W v cx cy)) (rp (l.getD 0 z3)) (rp (l.getD (i+1) z3)) (rp (l.getD (i+2) z3)):=⟨_,rfl⟩
 have hg:∀ {i:Nat},i<l.length→idxM l (i:Int)=some (l.getD i z3):=fun {i} hi=>by rw [idxM_lt hi];simp [List.getD,hi]
 have step:=fun {k:Nat} {C:Nat} {a:Rat} (hk:k+2<l.length) (hC:C≤100000000000000000) (ha:Dn DO C a)=>fan_step h T (hl _ (getD_mem3 (show 0<l.length by omega))) (hl _ (getD_mem3 (show k+1<l.length by omega))) (hl _ (getD_mem3 hk)) hC ha (i:=((k+2:Nat):Int)) (by omega) (by omega)
 have hdn:∀ k,k≤l.length-2→Dn DO (B+k*4000000000000) (acc+qsum k f):=by
  intro k
  induction k with
  | zero=>intro _;rw [Nat.zero_mul,show qsum 0 f=0 from rfl,Rat.add_zero];exact hacc
  | succ k ih =>
   intro hk
   have:=(step (k:=k) (C:=B+k*4000000000000) (a:=acc+qsum k f) (by omega) (by omega) (ih (by omega))).2
   rw [show qsum (k+1) f=qsum k f+f k from rfl,← Rat.add_assoc,hf]
   rw [hf] at this
   exact this.mono (by omega)
 have hfin:fan (wV (lineF bx by_ cx cy) (lineF cx cy ax ay) (lineF ax ay bx by_) (nv W v ax ay) (nv W v bx by_) (nv W v cx cy)) l=qsum (l.length-2) f:=by rw [hf];rfl
 rw [hfin]
 refine ⟨?_,(hdn _ (Nat.le_refl _)).mono (by omega)⟩
 unfold fanE
 have e0:rt acc=rt (acc+qsum 0 f):=by rw [show qsum 0 f=0 from rfl,Rat.add_zero]
 rw [e0]
 refine loopM_fn (fun k=>(((k+2:Nat):Int),rt (acc+qsum k f))) (l.length-2) (fun k hk=>?_) ?_
 ·have g0:=hg (show 0<l.length by omega)
  have g1:=hg (show k+1<l.length by omega)
  have g2:=hg (show k+2<l.length by omega)
  have hs:=(step (k:=k) (C:=B+k*4000000000000) (a:=acc+qsum k f) (by omega) (by omega) (hdn k (by omega))).1
  dsimp only
  rw [lenL,ltI (by omega),cond_true,chkM_of (by omega) (by omega),Option.bind_some,show idxM l 0=some (l.getD 0 z3) from g0,Option.bind_some,wrap_in (n:=((k+2:Nat):Int)-1) (by omega) (by omega),chkM_of (i:=((k+2:Nat):Int)-1) (by omega) (by omega),Option.bind_some,show ((k+2:Nat):Int)-1=((k+1:Nat):Int) by omega,g1,Option.bind_some,chkM_of (by omega) (by omega),Option.bind_some,g2,Option.bind_some]
  refine Eq.trans hs ?_
  have e1:acc+qsum k f+f k=acc+qsum (k+1) f:=by rw [show qsum (k+1) f=qsum k f+f k from rfl,Rat.add_assoc]
  rw [← e1,hf];rfl
 ·dsimp only
  rw [lenL,geI (by omega),cond_false]
end Go.Proofs.YtdgabicjcepmeaaGreatDoor
namespace Go.Proofs.YtdgabicjcepmeaaGreatDoor
open Go Go.Abs Go.PE Go.Num
open Go.IntKind (wrap)
structure Pol (l:List Spt):Prop where
 poly:Poly l
 in6:∀ x∈l,0≤x.1∧x.1≤6*x.2.2∧0≤x.2.1∧x.2.1≤6*x.2.2
theorem Pol.bx {l:List Spt} (h:Pol l):∀ x∈l,Bx x:=fun x hx=>by
 have a:=h.poly.d0 x hx
 have b:=h.poly.d12 x hx
 have c:=h.in6 x hx
 unfold Bx
 omega
theorem pol_clR {l:List Spt} {L:Spt} (l1:L.1.natAbs≤1) (l2:L.2.1.natAbs≤1) (l0:¬ (L.1=0∧L.2.1=0)) (h:Pol l):Pol (clR L l):=by
 refine ⟨clR_poly l1 l2 l0 h.poly,fun x hx=>?_⟩
 have k:=fun (M:Spt) (hM:∀ x∈l,0≤lev M x)=>left_all M (L:=L) h.poly hM x hx
 have k1:=k (1,0,0) (fun x hx=>by have:=h.in6 x hx;unfold lev;dsimp only;omega)
 have k2:=k (-1,0,6) (fun x hx=>by have:=h.in6 x hx;unfold lev;dsimp only;omega)
 have k3:=k (0,1,0) (fun x hx=>by have:=h.in6 x hx;unfold lev;dsimp only;omega)
 have k4:=k (0,-1,6) (fun x hx=>by have:=h.in6 x hx;unfold lev;dsimp only;omega)
 unfold lev at k1 k2 k3 k4
 dsimp only at k1 k2 k3 k4
 omega
theorem line_ok {ax ay bx by_:Int} (h:Nod ax ay bx by_) (hn:¬ (ax=bx∧ay=by_)):(lineF ax ay bx by_).1.natAbs≤1∧(lineF ax ay bx by_).2.1.natAbs≤1∧¬ ((lineF ax ay bx by_).1=0∧(lineF ax ay bx by_).2.1=0):=by
 obtain ⟨a0,a1,b0,b1,c0,c1,e0,e1⟩:=h
 unfold lineF
 dsimp only
 omega
theorem lenE {l:List Spt}:eqM (lenM l) 0=decide (l=[]):=by
 cases l with
 | nil=>rfl
 | cons x l=>rw [decide_eq_false (by simp),lenL,neI (by rw [List.length_cons];omega)]
theorem polyE_ok {W H:Nat} {ax ay bx by_ cx cy:Int} (T:Trg W H ax ay bx by_ cx cy) {l:List Spt} (hP:Pol l) (hlen:l.length≤8) :
  polyE ax ay bx by_ cx cy l=some (clL [lineF cx cy ax ay,lineF bx by_ cx cy,lineF ax ay bx by_] l)∧Pol (clL [lineF cx cy ax ay,lineF bx by_ cx cy,lineF ax ay bx by_] l)∧(clL [lineF cx cy ax ay,lineF bx by_ cx cy,lineF ax ay bx by_] l).length≤64:=by
 have n1:=line_ok T.ab T.nab
 have n2:=line_ok T.bc T.nbc
 have n3:=line_ok T.ca T.nca
 have P1:=pol_clR n1.1 n1.2.1 n1.2.2 hP
 have P2:=pol_clR n2.1 n2.2.1 n2.2.2 P1
 have P3:=pol_clR n3.1 n3.2.1 n3.2.2 P2
 have k1:(clR (lineF ax ay bx by_) l).length≤16:=Nat.le_trans (clN_len _ _ _) (by omega)
 have k2:(clR (lineF bx by_ cx cy) (clR (lineF ax ay bx by_) l)).length≤32:=Nat.le_trans (clN_len _ _ _) (by omega)
 have k3:(clR (lineF cx cy ax ay) (clR (lineF bx by_ cx cy) (clR (lineF ax ay bx by_) l))).length≤64:=Nat.le_trans (clN_len _ _ _) (by omega)
 refine ⟨?_,P3,k3⟩
 show _=some (clR (lineF cx cy ax ay) (clR (lineF bx by_ cx cy) (clR (lineF ax ay bx by_) l)))
 unfold polyE
 rw [clipE_ok T.ab hP.bx (by omega),Option.bind_some]
 by_cases e1:clR (lineF ax ay bx by_) l=[]
 ·rw [lenE,e1];rfl
 ·rw [lenE,decide_eq_false e1,cond_false,clipE_ok T.bc P1.bx (by omega),Option.bind_some]
  by_cases e2:clR (lineF bx by_ cx cy) (clR (lineF ax ay bx by_) l)=[]
  ·rw [lenE,e2];rfl
  ·rw [lenE,decide_eq_false e2,cond_false,clipE_ok T.ca P2.bx (by omega),Option.bind_some]
   cases eqM (lenM (clR (lineF cx cy ax ay) (clR (lineF bx by_ cx cy) (clR (lineF ax ay bx by_) l)))) 0<;>rfl
theorem trg_low {W H:Nat} {x y:Nat} (w6:W≤6) (h6:H≤6) (hx:x<W) (hy:y<H):Trg W H x y ((x:Int)+1) y ((x:Int)+1) ((y:Int)+1) :=
 ⟨⟨by omega,by omega,by omega,by omega,by omega,by omega,by omega,by omega⟩,⟨by omega,by omega,by omega,by omega,by omega,by omega,by omega,by omega⟩,⟨by omega,by omega,by omega,by omega,by omega,by omega,by omega,by omega⟩,by omega,by omega,by omega,by omega,by omega,by omega⟩
theorem trg_upp {W H:Nat} {x y:Nat} (w6:W≤6) (h6:H≤6) (hx:x<W) (hy:y<H):Trg W H x y ((x:Int)+1) ((y:Int)+1) x ((y:Int)+1) :=
 ⟨⟨by omega,by omega,by omega,by omega,by omega,by omega,by omega,by omega⟩,⟨by omega,by omega,by omega,by omega,by omega,by omega,by omega,by omega⟩,⟨by omega,by omega,by omega,by omega,by omega,by omega,by omega,by omega⟩,by omega,by omega,by omega,by omega,by omega,by omega⟩
theorem line_gY (x y:Int):lineF x y (x+1) y=gY y:=by
 unfold lineF gY;rw [show y-y=0 by omega,show x+1-x=1 by omega];simp
theorem line_lX (x y:Int):lineF (x+1) y (x+1) (y+1)=lX (x+1):=by
 unfold lineF lX;rw [show y+1-y=1 by omega,show x+1-(x+1)=0 by omega];simp
theorem line_dL (x y:Int):lineF (x+1) (y+1) x y=dgL (y-x):=by
 unfold lineF dgL;rw [show y-(y+1)=-1 by omega,show x-(x+1)=-1 by omega]
 refine Prod.ext rfl (Prod.ext rfl ?_)
 dsimp only
 omega
theorem line_ndL (x y:Int):lineF x y (x+1) (y+1)=neg3 (dgL (y-x)):=by
 unfold lineF dgL neg3;rw [show y+1-y=1 by omega,show x+1-x=1 by omega]
 refine Prod.ext rfl (Prod.ext rfl ?_)
 dsimp only
 omega
theorem line_lY (x y:Int):lineF (x+1) (y+1) x (y+1)=lY (y+1):=by
 unfold lineF lY;rw [show y+1-(y+1)=0 by omega,show x-(x+1)=-1 by omega]
 refine Prod.ext rfl (Prod.ext rfl ?_)
 dsimp only
 omega
theorem line_gX (x y:Int):lineF x (y+1) x y=gX x:=by
 unfold lineF gX;rw [show y-(y+1)=-1 by omega,show x-x=0 by omega]
 refine Prod.ext rfl (Prod.ext rfl ?_)
 dsimp only
 omega
def lowV (W:Nat) (v:Nat→Int) (x y:Int):Rat×Rat×Rat:=wV (lX (x+1)) (dgL (y-x)) (gY y) (nv W v x y) (nv W v (x+1) y) (nv W v (x+1) (y+1))
def uppV (W:Nat) (v:Nat→Int) (x y:Int):Rat×Rat×Rat:=wV (lY (y+1)) (gX x) (neg3 (dgL (y-x))) (nv W v x y) (nv W v (x+1) (y+1)) (nv W v x (y+1))
def ovT (W:Nat) (v:Nat→Int) (P:List Spt) (k:Nat):Rat :=
 if k % 2=0 then fan (lowV W v ((k / 2 % W:Nat):Int) ((k / 2 / W:Nat):Int)) (clL (lowL ((k / 2 % W:Nat):Int) ((k / 2 / W:Nat):Int)) P)
 else fan (uppV W v ((k / 2 % W:Nat):Int) ((k / 2 / W:Nat):Int)) (clL (uppL ((k / 2 % W:Nat):Int) ((k / 2 / W:Nat):Int)) P)
theorem ovT_low {W:Nat} (v:Nat→Int) (P:List Spt) {cx cy:Nat} (h:cx<W):ovT W v P (2*(cy*W+cx))=fan (lowV W v cx cy) (clL (lowL cx cy) P):=by
 unfold ovT
 rw [if_pos (by omega),show 2*(cy*W+cx) / 2=cy*W+cx by omega,Nat.mul_comm cy W,Nat.mul_add_mod,Nat.mod_eq_of_lt h,Nat.mul_add_div (by omega),Nat.div_eq_of_lt h,Nat.add_zero]
theorem ovT_upp {W:Nat} (v:Nat→Int) (P:List Spt) {cx cy:Nat} (h:cx<W):ovT W v P (2*(cy*W+cx)+1)=fan (uppV W v cx cy) (clL (uppL cx cy) P):=by
 unfold ovT
 rw [if_neg (by omega),show (2*(cy*W+cx)+1) / 2=cy*W+cx by omega,Nat.mul_comm cy W,Nat.mul_add_mod,Nat.mod_eq_of_lt h,Nat.mul_add_div (by omega),Nat.div_eq_of_lt h,Nat.add_zero]
def ovQ (W H:Nat) (v:Nat→Int) (P:List Spt):Rat:=qsum (2*(H*W)) (ovT W v P)
theorem low_step {W H:Nat} {v:Nat→Int} (h:OkV W H v) {P:List Spt} (hP:Pol P) (hlen:P.length≤8) {x y:Nat} (hx:x<W) (hy:y<H) {B:Nat} {acc:Rat} (hB:B≤50000000000000000) (hacc:Dn DO B acc) :
  ∃ Q,polyE x y ((x:Int)+1) y ((x:Int)+1) ((y:Int)+1) P=some Q∧fanE W (row (nn W H) v) x y ((x:Int)+1) y ((x:Int)+1) ((y:Int)+1) Q (rt acc)=some (rt (acc+fan (lowV W v x y) (clL (lowL x y) P)))∧Dn DO (B+300000000000000) (acc+fan (lowV W v x y) (clL (lowL x y) P)):=by
 have T:=trg_low (x:=x) (y:=y) h.w6 h.h6 hx hy
 obtain ⟨a,b,c⟩:=polyE_ok T hP hlen
 obtain ⟨d,e⟩:=fanE_ok h T b.bx c hB hacc
 rw [line_gY,line_lX,line_dL] at d e
 rw [line_gY,line_lX,line_dL] at a
 exact ⟨_,a,d,e⟩
theorem upp_step {W H:Nat} {v:Nat→Int} (h:OkV W H v) {P:List Spt} (hP:Pol P) (hlen:P.length≤8) {x y:Nat} (hx:x<W) (hy:y<H) {B:Nat} {acc:Rat} (hB:B≤50000000000000000) (hacc:Dn DO B acc) :
  ∃ Q,polyE x y ((x:Int)+1) ((y:Int)+1) x ((y:Int)+1) P=some Q∧fanE W (row (nn W H) v) x y ((x:Int)+1) ((y:Int)+1) x ((y:Int)+1) Q (rt acc)=some (rt (acc+fan (uppV W v x y) (clL (uppL x y) P)))∧Dn DO (B+300000000000000) (acc+fan (uppV W v x y) (clL (uppL x y) P)):=by
 have T:=trg_upp (x:=x) (y:=y) h.w6 h.h6 hx hy
 obtain ⟨a,b,c⟩:=polyE_ok T hP hlen
 obtain ⟨d,e⟩:=fanE_ok h T b.bx c hB hacc
 rw [line_ndL,line_lY,line_gX] at d e
 rw [line_ndL,line_lY,line_gX] at a
 exact ⟨_,a,d,e⟩
theorem ovQ_dn {W H:Nat} {v:Nat→Int} (h:OkV W H v) {P:List Spt} (hP:Pol P) (hlen:P.length≤8):∀ k,k≤2*(H*W)→Dn DO (k*300000000000000) (qsum k (ovT W v P))
 | 0,_=>Dn.zero
 | k+1,hk=>by
  have hWH:H*W≤36:=Nat.mul_le_mul h.h6 h.w6
  have ih:=ovQ_dn h hP hlen k (by omega)
  have w1:=h.w1
  have hc:k / 2<H*W:=by omega
  have hx:k / 2 % W<W:=Nat.mod_lt _ (by omega)
  have hy:k / 2 / W<H:=(Nat.div_lt_iff_lt_mul (by omega)).2 hc
  show Dn DO ((k+1)*300000000000000) (qsum k (ovT W v P)+ovT W v P k)
  rw [Nat.add_mul,Nat.one_mul]
  unfold ovT
  split
  ·obtain ⟨_,_,_,e⟩:=low_step h hP hlen hx hy (by omega) ih
   exact e
  ·obtain ⟨_,_,_,e⟩:=upp_step h hP hlen hx hy (by omega) ih
   exact e
theorem overE_ok {W H:Nat} {v:Nat→Int} (h:OkV W H v) {P:List Spt} (hP:Pol P) (hlen:P.length≤8):overE W H (row (nn W H) v) P=some (rt (ovQ W H v P)):=by
 have w6:=h.w6
 have h6:=h.h6
 have hWH:H*W≤36:=Nat.mul_le_mul h6 w6
 have hof:m29 (0,1)=some (rt (qsum (2*(0*W)) (ovT W v P)),0):=by
  rw [Nat.zero_mul]
  have:=of_ok (n:=0) (d:=1) (by decide) (by decide) (by decide)
  rw [this];rfl
 unfold overE
 rw [hof,Option.bind_some]
 refine bind_of (x:=rt (ovQ W H v P)) ?_ rfl
 refine count_loop (fun cy=>rt (qsum (2*(cy*W)) (ovT W v P))) H (fun cy hy=>?_) ?_
 ·dsimp only
  rw [ltI (by omega),cond_true,wrap_in (n:=(cy:Int)+1) (by omega) (by omega)]
  refine bind_of (x:=rt (qsum (2*((cy+1)*W)) (ovT W v P))) ?_ rfl
  refine count_loop (fun cx=>rt (qsum (2*(cy*W+cx)) (ovT W v P))) W (fun cx hx=>?_) ?_
  ·have hb:cy*W+cx+1≤H*W:=by
    have:(cy+1)*W≤H*W:=Nat.mul_le_mul_right _ hy
    rw [Nat.add_mul,Nat.one_mul] at this
    omega
   have dn:=ovQ_dn h hP hlen (2*(cy*W+cx)) (by omega)
   obtain ⟨Q1,a1,a2,a3⟩:=low_step h hP hlen hx hy (by omega) dn
   obtain ⟨Q2,b1,b2,b3⟩:=upp_step h hP hlen hx hy (by omega) a3
   have e1:qsum (2*(cy*W+cx)) (ovT W v P)+fan (lowV W v cx cy) (clL (lowL cx cy) P)+fan (uppV W v cx cy) (clL (uppL cx cy) P)=qsum (2*(cy*W+(cx+1))) (ovT W v P):=by
    rw [show 2*(cy*W+(cx+1))=2*(cy*W+cx)+1+1 by omega]
    show _=qsum (2*(cy*W+cx)) (ovT W v P)+ovT W v P (2*(cy*W+cx))+ovT W v P (2*(cy*W+cx)+1)
    rw [ovT_low v P hx,ovT_upp v P hx]
   rw [e1] at b2
   dsimp only
   rw [ltI (by omega),cond_true,wrap_in (n:=(cx:Int)+1) (by omega) (by omega)]
   refine bind_of a1 ?_
   refine bind_of a2 ?_
   refine bind_of b1 ?_
   refine bind_of b2 rfl
  ·dsimp only
   rw [geI (by omega),cond_false,Nat.add_mul,Nat.one_mul]
 ·dsimp only
  rw [geI (by omega),cond_false];rfl
end Go.Proofs.YtdgabicjcepmeaaGreatDoor
namespace Go.Proofs.YtdgabicjcepmeaaGreatDoor
open Go Go.Abs Go.PE Go.Num
open Go.IntKind (wrap)
def In6 (p:Int×Int):Prop:=0≤p.1∧p.1≤6∧0≤p.2∧p.2≤6
theorem mul6 {x y:Int} (hx:-6≤x∧x≤6) (hy:-6≤y∧y≤6):-36≤x*y∧x*y≤36:=by
 have:(x*y).natAbs≤36:=by rw [Int.natAbs_mul];exact Nat.mul_le_mul (show x.natAbs≤6 by omega) (show y.natAbs≤6 by omega)
 omega
theorem eqP (a b:Int×Int):PE.andM (eqM a.1 b.1) (eqM a.2 b.2)=decide (a=b):=by
 by_cases h:a=b
 ·rw [decide_eq_true h,h,eqI rfl,eqI rfl];rfl
 ·rw [decide_eq_false h]
  by_cases h1:a.1=b.1
  ·rw [eqI h1,andT,neI (fun e=>h (Prod.ext h1 e))]
  ·rw [neI h1,andF]
theorem turn_ok {a b c:Int×Int} (ha:In6 a) (hb:In6 b) (hc:In6 c):m50 ((a.1,a.2),(b.1,b.2),c.1,c.2)=some (trn a b c):=by
 obtain ⟨a0,a1,a2,a3⟩:=ha
 obtain ⟨b0,b1,b2,b3⟩:=hb
 obtain ⟨c0,c1,c2,c3⟩:=hc
 have p1:=mul6 (x:=b.1-a.1) (y:=c.2-a.2) (by omega) (by omega)
 have p2:=mul6 (x:=b.2-a.2) (y:=c.1-a.1) (by omega) (by omega)
 unfold m50 trn
 dsimp only
 rw [wrap_in (n:=b.1-a.1) (by omega) (by omega),wrap_in (n:=c.2-a.2) (by omega) (by omega),wrap_in (n:=b.2-a.2) (by omega) (by omega),wrap_in (n:=c.1-a.1) (by omega) (by omega),wrap_in (n:=(b.1-a.1)*_) (by omega) (by omega),wrap_in (n:=(b.2-a.2)*_) (by omega) (by omega),wrap_in (by omega) (by omega)]
theorem turn2_ok {a b c:Int×Int} (ha:In6 a) (hb:In6 b) (hc:In6 c):m53 ((a.1,a.2),(b.1,b.2),c.1,c.2)=some (trn a b c):=by
 obtain ⟨a0,a1,a2,a3⟩:=ha
 obtain ⟨b0,b1,b2,b3⟩:=hb
 obtain ⟨c0,c1,c2,c3⟩:=hc
 have p1:=mul6 (x:=b.1-a.1) (y:=c.2-a.2) (by omega) (by omega)
 have p2:=mul6 (x:=b.2-a.2) (y:=c.1-a.1) (by omega) (by omega)
 unfold m53 trn
 dsimp only
 rw [wrap_in (n:=b.1-a.1) (by omega) (by omega),wrap_in (n:=c.2-a.2) (by omega) (by omega),wrap_in (n:=b.2-a.2) (by omega) (by omega),wrap_in (n:=c.1-a.1) (by omega) (by omega),wrap_in (n:=(b.1-a.1)*_) (by omega) (by omega),wrap_in (n:=(b.2-a.2)*_) (by omega) (by omega),wrap_in (by omega) (by omega)]
theorem far_ok {a b:Int×Int} (ha:In6 a) (hb:In6 b):m51 ((a.1,a.2),b.1,b.2)=some (farD a b):=by
 obtain ⟨a0,a1,a2,a3⟩:=ha
 obtain ⟨b0,b1,b2,b3⟩:=hb
 have p1:=mul6 (x:=a.1-b.1) (y:=a.1-b.1) (by omega) (by omega)
 have p2:=mul6 (x:=a.2-b.2) (y:=a.2-b.2) (by omega) (by omega)
 unfold m51 farD
 dsimp only
 rw [wrap_in (n:=a.1-b.1) (by omega) (by omega),wrap_in (n:=a.2-b.2) (by omega) (by omega),wrap_in (n:=(a.1-b.1)*_) (by omega) (by omega),wrap_in (n:=(a.2-b.2)*_) (by omega) (by omega),wrap_in (by omega) (by omega)]
def lowS (f p:Int×Int):Int×Int:=if p.2<f.2∨(p.2=f.2∧p.1<f.1) then p else f
theorem lowF_ok:∀ (l:List (Int×Int)) (f:Int×Int),(l.foldl lowS f=f∨l.foldl lowS f∈l)∧((l.foldl lowS f).2<f.2∨((l.foldl lowS f).2=f.2∧(l.foldl lowS f).1≤f.1))∧∀ p∈l,(l.foldl lowS f).2<p.2∨((l.foldl lowS f).2=p.2∧(l.foldl lowS f).1≤p.1)
 | [],f=>⟨.inl rfl,.inr ⟨rfl,Int.le_refl _⟩,fun p hp=>by cases hp⟩
 | x::l,f=>by
  obtain ⟨h1,h2,h3⟩:=lowF_ok l (lowS f x)
  rw [List.foldl_cons]
  generalize l.foldl lowS (lowS f x)=g at *
  unfold lowS at *
  by_cases hc:x.2<f.2∨(x.2=f.2∧x.1<f.1)
  ·rw [if_pos hc] at h1 h2
   refine ⟨.inr ?_,by omega,fun p hp=>?_⟩
   ·rcases h1 with h | h
    ·rw [h];exact List.mem_cons_self
    ·exact List.mem_cons_of_mem _ h
   ·rcases List.mem_cons.1 hp with e | e
    ·rw [e];exact h2
    ·exact h3 p e
  ·rw [if_neg hc] at h1 h2
   refine ⟨?_,h2,fun p hp=>?_⟩
   ·rcases h1 with h | h
    ·exact .inl h
    ·exact .inr (List.mem_cons_of_mem _ h)
   ·rcases List.mem_cons.1 hp with e | e
    ·rw [e];omega
    ·exact h3 p e
theorem first_ok {x:List (Int×Int)} (hx:x.length≤1000) (f:Int×Int):loopM (fun (s:Int×Int×Int)=>bif ltM s.1 (lenM x) then ((idxM x s.1).bind fun r_1=>(bif PE.notM (ltM r_1.2 s.2.2) then idxM x s.1 else some (0,0)).bind fun r_2=>(bif PE.andM (PE.notM (ltM r_1.2 s.2.2)) (eqM r_2.2 s.2.2) then idxM x s.1 else some (0,0)).bind fun r_3 =>
  bif PE.orM (ltM r_1.2 s.2.2) (PE.andM (eqM r_2.2 s.2.2) (ltM r_3.1 s.2.1)) then (idxM x s.1).bind fun r=>some (r.1,r.2) else some (s.2.1,s.2.2)).bind fun o=>some (Sum.inl (wrap .i64 (s.1+1),o.1,o.2)) else some (Sum.inr (s.2.1,s.2.2))) (0,f.1,f.2)=some (x.foldl lowS f):=by
 refine loopM_fn (fun k=>((k:Int),(x.take k).foldl lowS f)) x.length (fun k hk=>?_) ?_
 ·have e:(x.take (k+1)).foldl lowS f=lowS ((x.take k).foldl lowS f) x[k]:=by
   rw [List.take_add_one,List.getElem?_eq_getElem hk,Option.toList_some,List.foldl_append];rfl
  dsimp only
  rw [e,lenL,ltI (by omega),cond_true,idxM_lt hk,Option.bind_some,wrap_in (by omega) (by omega)]
  generalize (x.take k).foldl lowS f=g
  generalize x[k]=p
  refine bind_of (x:=lowS g p) ?_ rfl
  unfold lowS
  by_cases h1:p.2<g.2
  ·rw [ltI h1,notT,cond_false,Option.bind_some,andF,cond_false,Option.bind_some,show ∀ b,PE.orM true b=true from fun _=>rfl,cond_true,if_pos (.inl h1)];rfl
  ·rw [geI (by omega),notF,cond_true,Option.bind_some,andT]
   by_cases h2:p.2=g.2
   ·rw [eqI h2,cond_true,Option.bind_some,orF,andT]
    by_cases h3:p.1<g.1
    ·rw [ltI h3,cond_true,if_pos (.inr ⟨h2,h3⟩)];rfl
    ·rw [geI (by omega),cond_false,if_neg (by omega)]
   ·rw [neI h2,cond_false,Option.bind_some,orF,andF,cond_false,if_neg (by omega)]
 ·dsimp only
  rw [lenL,geI (by omega),cond_false,List.take_length]
theorem next_ok {x:List (Int×Int)} (hx:x.length≤1000) (h6:∀ p∈x,In6 p) {a:Int×Int} (ha:In6 a):loopM (fun (s_1:Int×Int×Int)=>bif ltM s_1.1 (lenM x) then ((idxM x s_1.1).bind fun r_1=>bif PE.andM (eqM r_1.1 a.1) (eqM r_1.2 a.2) then some (s_1.2.1,s_1.2.2) else (idxM x s_1.1).bind fun r_2 =>
  (m50 ((a.1,a.2),(s_1.2.1,s_1.2.2),r_2.1,r_2.2)).bind fun r_3=>(bif PE.andM (PE.notM (PE.orM (PE.andM (eqM s_1.2.1 a.1) (eqM s_1.2.2 a.2)) (ltM r_3 0))) (eqM r_3 0) then idxM x s_1.1 else some (0,0)).bind fun r_4 =>
  (bif PE.andM (PE.notM (PE.orM (PE.andM (eqM s_1.2.1 a.1) (eqM s_1.2.2 a.2)) (ltM r_3 0))) (eqM r_3 0) then m51 ((a.1,a.2),r_4.1,r_4.2) else some 0).bind fun r_5 =>
  (bif PE.andM (PE.notM (PE.orM (PE.andM (eqM s_1.2.1 a.1) (eqM s_1.2.2 a.2)) (ltM r_3 0))) (eqM r_3 0) then m51 ((a.1,a.2),s_1.2.1,s_1.2.2) else some 0).bind fun r_6 =>
  bif PE.orM (PE.orM (PE.andM (eqM s_1.2.1 a.1) (eqM s_1.2.2 a.2)) (ltM r_3 0)) (PE.andM (eqM r_3 0) (ltM r_6 r_5)) then (idxM x s_1.1).bind fun r=>some (r.1,r.2) else some (s_1.2.1,s_1.2.2)).bind fun o=>some (Sum.inl (wrap .i64 (s_1.1+1),o.1,o.2)) else some (Sum.inr (s_1.2.1,s_1.2.2))) (0,a.1,a.2)=some (nxF a x):=by
 have hin:∀ (l:List (Int×Int)),(∀ p∈l,In6 p)→∀ n,In6 n→In6 (l.foldl (nxS a) n):=by
  intro l
  induction l with
  | nil=>intro _ n hn;exact hn
  | cons y l ih =>
   intro hl n hn
   refine ih (fun p hp=>hl p (List.mem_cons_of_mem _ hp)) _ ?_
   unfold nxS
   split
   ·exact hn
   ·split
    ·exact hl y List.mem_cons_self
    ·exact hn
 refine loopM_fn (fun k=>((k:Int),(x.take k).foldl (nxS a) a)) x.length (fun k hk=>?_) ?_
 ·have e:(x.take (k+1)).foldl (nxS a) a=nxS a ((x.take k).foldl (nxS a) a) x[k]:=by
   rw [List.take_add_one,List.getElem?_eq_getElem hk,Option.toList_some,List.foldl_append];rfl
  have hn:=hin (x.take k) (fun p hp=>h6 p (List.mem_of_mem_take hp)) a ha
  have hp:=h6 _ (List.getElem_mem hk)
  dsimp only
  rw [e,lenL,ltI (by omega),cond_true,idxM_lt hk,Option.bind_some,wrap_in (by omega) (by omega)]
  generalize (x.take k).foldl (nxS a) a=n at *
  generalize x[k]=p at *
  refine bind_of (x:=nxS a n p) ?_ rfl
  unfold nxS
  rw [eqP p a]
  by_cases hpa:p=a
  ·rw [decide_eq_true hpa,cond_true,if_pos hpa]
  ·rw [decide_eq_false hpa,cond_false,Option.bind_some,if_neg hpa,turn_ok ha hn hp,Option.bind_some,eqP n a]
   by_cases h1:n=a
   ·rw [decide_eq_true h1,show ∀ b,PE.orM true b=true from fun _=>rfl,notT,andF,cond_false,Option.bind_some,cond_false,Option.bind_some,cond_false,Option.bind_some,show ∀ b,PE.orM true b=true from fun _=>rfl,cond_true,if_pos (.inl h1)];rfl
   ·rw [decide_eq_false h1,orF]
    by_cases h2:trn a n p<0
    ·rw [ltI h2,notT,andF,cond_false,Option.bind_some,cond_false,Option.bind_some,cond_false,Option.bind_some,show ∀ b,PE.orM true b=true from fun _=>rfl,cond_true,if_pos (.inr (.inl h2))];rfl
    ·rw [geI (by omega),notF,andT]
     simp only [orF]
     by_cases h3:trn a n p=0
     ·rw [eqI h3,cond_true,Option.bind_some,cond_true,far_ok ha hp,Option.bind_some,cond_true,far_ok ha hn,Option.bind_some,andT]
      by_cases h4:farD a n<farD a p
      ·rw [ltI h4,cond_true,if_pos (.inr (.inr ⟨h3,h4⟩))];rfl
      ·rw [geI (by omega),cond_false,if_neg (fun q=>q.elim h1 fun q=>q.elim h2 fun q=>h4 q.2)]
     ·rw [neI h3,cond_false,Option.bind_some,cond_false,Option.bind_some,cond_false,Option.bind_some,andF,cond_false,if_neg (fun q=>q.elim h1 fun q=>q.elim h2 fun q=>h3 q.1)]
 ·dsimp only
  rw [lenL,geI (by omega),cond_false,List.take_length];rfl
theorem nxF_in {x:List (Int×Int)} {a:Int×Int} (ha:ExtP x a):(nxF a x=a∧∀ p∈x,p=a)∨Suc x a (nxF a x):=by
 have:=nxF_inv ha x [] a (fun p hp=>hp) (.inl ⟨rfl,fun p hp=>by cases hp⟩)
 rcases this with h | h
 ·exact .inl h
 ·exact .inr h
def HR (x l:List (Int×Int)):Prop:=l.length≤x.length∧(∀ p∈l,p∈x)∧(3≤l.length→Cvx l)
theorem hull_loop {x:List (Int×Int)} (hx:x.length≤1000) (h6:∀ p∈x,In6 p) (f:Int×Int) {body:List (Int×Int)×Int×Int→Option ((List (Int×Int)×Int×Int)⊕List (Int×Int))}
  (hb:∀ (out:List (Int×Int)) (a:Int×Int),In6 a→out.length≤1000→body (out,a.1,a.2)=if nxF a x=a∨nxF a x=f then some (.inr out) else some (.inl (out++[nxF a x],(nxF a x).1,(nxF a x).2))) :
  ∀ (n:Nat) (out:List (Int×Int)),Chn x out→out.getD 0 (0,0)=f→x.length≤out.length+n→∃ l,loopM body (out,(out.getD (out.length-1) (0,0)).1,(out.getD (out.length-1) (0,0)).2)=some l∧HR x l:=by
 intro n
 induction n with
 | zero =>
  intro out hC h0 hn
  have hp:=hC.pos
  have hm:=hC.mem (out.length-1) (by omega)
  have hlen:=hC.len
  refine ⟨out,?_,hlen,fun p hp=>?_,fun h3=>?_⟩
  ·rw [loopM_eq,hb _ _ (h6 _ hm.1) (by omega)]
   by_cases hc:nxF (out.getD (out.length-1) (0,0)) x=out.getD (out.length-1) (0,0)∨nxF (out.getD (out.length-1) (0,0)) x=f
   ·rw [if_pos hc];rfl
   ·exfalso
    rcases nxF_in hm.2 with h | h
    ·exact hc (.inl h.1)
    ·have:=(hC.app h (fun e=>hc (.inr (e.trans h0)))).len
     rw [List.length_append,List.length_singleton] at this
     omega
  ·obtain ⟨j,hj,e⟩:=mem_getD hp
   rw [e];exact (hC.mem j hj).1
  ·rcases nxF_in hm.2 with h | h
   ·exfalso
    have a1:=h.2 _ (hC.mem 0 (by omega)).1
    have a2:=h.2 _ (hC.mem 1 (by omega)).1
    have:=nd_getD hC.nd (i:=0) (j:=1) (by omega) (by omega) (a1.trans a2.symm)
    omega
   ·by_cases hc:nxF (out.getD (out.length-1) (0,0)) x=out.getD 0 (0,0)
    ·rw [hc] at h;exact hC.cvx h
    ·exfalso
     have:=(hC.app h hc).len
     rw [List.length_append,List.length_singleton] at this
     omega
 | succ n ih =>
  intro out hC h0 hn
  have hp:=hC.pos
  have hm:=hC.mem (out.length-1) (by omega)
  have hlen:=hC.len
  rcases nxF_in hm.2 with h | h
  ·refine ⟨out,?_,hlen,fun p hp=>?_,fun h3=>?_⟩
   ·rw [loopM_eq,hb _ _ (h6 _ hm.1) (by omega),if_pos (.inl h.1)];rfl
   ·obtain ⟨j,hj,e⟩:=mem_getD hp
    rw [e];exact (hC.mem j hj).1
   ·exfalso
    have a1:=h.2 _ (hC.mem 0 (by omega)).1
    have a2:=h.2 _ (hC.mem 1 (by omega)).1
    have:=nd_getD hC.nd (i:=0) (j:=1) (by omega) (by omega) (a1.trans a2.symm)
    omega
  ·by_cases hc:nxF (out.getD (out.length-1) (0,0)) x=f
   ·refine ⟨out,?_,hlen,fun p hp=>?_,fun h3=>?_⟩
    ·rw [loopM_eq,hb _ _ (h6 _ hm.1) (by omega),if_pos (.inr hc)];rfl
    ·obtain ⟨j,hj,e⟩:=mem_getD hp
     rw [e];exact (hC.mem j hj).1
    ·rw [hc,← h0] at h;exact hC.cvx h
   ·have hne:¬ (nxF (out.getD (out.length-1) (0,0)) x=out.getD (out.length-1) (0,0)∨nxF (out.getD (out.length-1) (0,0)) x=f):=fun q=>q.elim (fun e=>h.2.1 e) hc
    have hA:=hC.app h (fun e=>hc (e.trans h0))
    obtain ⟨l,e1,e2⟩:=ih _ hA (by rw [getD_app 0 (by omega)];exact h0) (by rw [List.length_append,List.length_singleton];omega)
    refine ⟨l,?_,e2⟩
    rw [List.length_append,List.length_singleton,Nat.add_sub_cancel,getD_last] at e1
    rw [loopM_eq,hb _ _ (h6 _ hm.1) (by omega),if_neg hne]
    exact e1
theorem hull_ok {x:List (Int×Int)} (h0:0<x.length) (hx:x.length≤1000) (h6:∀ p∈x,In6 p):∃ l,m23 x=some l∧HR x l:=by
 obtain ⟨l1,l2,l3⟩:=lowF_ok x x[0]
 have hf:x.foldl lowS x[0]∈x:=by
  rcases l1 with h | h
  ·rw [h];exact List.getElem_mem h0
  ·exact h
 have hE:ExtP x (x.foldl lowS x[0]):=ext_low l3
 have hfirst:=first_ok hx x[0]
 generalize x.foldl lowS x[0]=f at *
 unfold m23
 dsimp only
 rw [show idxM x 0=some x[0] from idxM_lt h0,Option.bind_some]
 obtain ⟨l,e1,e2⟩:=hull_loop hx h6 f (body:=fun (s:List (Int×Int)×Int×Int)=>(loopM (fun (s_1:Int×Int×Int)=>bif ltM s_1.1 (lenM x) then ((idxM x s_1.1).bind fun r_1=>bif PE.andM (eqM r_1.1 s.2.1) (eqM r_1.2 s.2.2) then some (s_1.2.1,s_1.2.2) else (idxM x s_1.1).bind fun r_2 =>
  (m50 ((s.2.1,s.2.2),(s_1.2.1,s_1.2.2),r_2.1,r_2.2)).bind fun r_3=>(bif PE.andM (PE.notM (PE.orM (PE.andM (eqM s_1.2.1 s.2.1) (eqM s_1.2.2 s.2.2)) (ltM r_3 0))) (eqM r_3 0) then idxM x s_1.1 else some (0,0)).bind fun r_4 =>
  (bif PE.andM (PE.notM (PE.orM (PE.andM (eqM s_1.2.1 s.2.1) (eqM s_1.2.2 s.2.2)) (ltM r_3 0))) (eqM r_3 0) then m51 ((s.2.1,s.2.2),r_4.1,r_4.2) else some 0).bind fun r_5 =>
  (bif PE.andM (PE.notM (PE.orM (PE.andM (eqM s_1.2.1 s.2.1) (eqM s_1.2.2 s.2.2)) (ltM r_3 0))) (eqM r_3 0) then m51 ((s.2.1,s.2.2),s_1.2.1,s_1.2.2) else some 0).bind fun r_6 =>
  bif PE.orM (PE.orM (PE.andM (eqM s_1.2.1 s.2.1) (eqM s_1.2.2 s.2.2)) (ltM r_3 0)) (PE.andM (eqM r_3 0) (ltM r_6 r_5)) then (idxM x s_1.1).bind fun r=>some (r.1,r.2) else some (s_1.2.1,s_1.2.2)).bind fun o=>some (Sum.inl (wrap .i64 (s_1.1+1),o.1,o.2)) else some (Sum.inr (s_1.2.1,s_1.2.2))) (0,s.2.1,s.2.2)).bind fun o_1 =>
  bif PE.orM (PE.andM (eqM o_1.1 s.2.1) (eqM o_1.2 s.2.2)) (PE.andM (eqM o_1.1 f.1) (eqM o_1.2 f.2)) then some (Sum.inr s.1) else (appM (nat_lit 16) s.1 [(o_1.1,o_1.2)]).bind fun r=>some (Sum.inl (r,o_1.1,o_1.2)))
  (fun out a ha hout=>by
   refine bind_of (next_ok hx h6 ha) ?_
   rw [eqP (nxF a x) a,eqP (nxF a x) f]
   by_cases hc:nxF a x=a∨nxF a x=f
   ·rw [if_pos hc]
    have:PE.orM (decide (nxF a x=a)) (decide (nxF a x=f))=true:=by
     rcases hc with h | h
     ·rw [decide_eq_true h];rfl
     ·rw [decide_eq_true h];cases decide (nxF a x=a)<;>rfl
    rw [this,cond_true]
   ·rw [if_neg hc,decide_eq_false (fun e=>hc (.inl e)),decide_eq_false (fun e=>hc (.inr e)),orF,cond_false,appM_of (by show (out.length+1)*16≤_;omega),Option.bind_some])
  x.length [f] (Chn.one hf hE) rfl (by omega)
 refine ⟨l,?_,e2⟩
 refine bind_of hfirst ?_
 exact bind_of e1 rfl
end Go.Proofs.YtdgabicjcepmeaaGreatDoor
namespace Go.Proofs.YtdgabicjcepmeaaGreatDoor
open Go Go.Abs Go.PE Go.Num
open Go.IntKind (wrap)
structure PlOK (W H:Nat) (l:List (Int×Int)):Prop where
 h3:3≤l.length
 h8:l.length≤8
 cvx:Cvx l
 on:∀ p∈l,0≤p.1∧p.1≤W∧0≤p.2∧p.2≤H
theorem PlOK.in6 {W H:Nat} {l:List (Int×Int)} (h:PlOK W H l) (w6:W≤6) (h6:H≤6):∀ p∈l,In6 p:=fun p hp=>by
 have:=h.on p hp
 unfold In6
 omega
def rectP (W H:Int):List (Int×Int):=[(0,0),(W,0),(W,H),(0,H)]
theorem rect_cvx {W H:Nat} (w1:1≤W) (h1:1≤H):Cvx (rectP W H):=by
 have hm:(0:Int)<(W:Int)*(H:Int):=Int.mul_pos (by omega) (by omega)
 have key:∀ i k,i<4→k<4→k≠i→k≠(i+1) % 4→0<trn ((rectP W H).getD i (0,0)) ((rectP W H).getD ((i+1) % 4) (0,0)) ((rectP W H).getD k (0,0)):=by
  intro i k hi hk g1 g2
  rcases (show i=0∨i=1∨i=2∨i=3 by omega) with rfl | rfl | rfl | rfl<;>rcases (show k=0∨k=1∨k=2∨k=3 by omega) with rfl | rfl | rfl | rfl<;>first
   | exact absurd rfl g1
   | (exfalso;omega)
   | (simp only [rectP,trn];simp;grind)
 exact key
theorem rect_ok {W H:Nat} (w1:1≤W) (h1:1≤H):PlOK W H (rectP W H):=by
 refine ⟨by show 3≤4;omega,by show 4≤8;omega,rect_cvx w1 h1,fun p hp=>?_⟩
 unfold rectP at hp
 simp only [List.mem_cons,List.not_mem_nil,or_false] at hp
 rcases hp with rfl | rfl | rfl | rfl<;>dsimp only<;>omega
def ptF (W H:Nat) (x:List (Int×Int)) (i:Nat):Int×Int:=(pk (x.getD i (0,0)).1 ((W:Int)+1),pk (x.getD i (0,0)).2 ((H:Int)+1))
theorem part_ok {W H:Nat} {lo hi:Nat→Int} (w1:1≤W) (w6:W≤6) (h1:1≤H) (h6:H≤6) {x:List (Int×Int)} (hx:∀ p∈x,i64 p.1∧i64 p.2):∃ l,m7 (fd W H lo hi,x)=some l∧PlOK W H l:=by
 have hloop:loopM (fun (s:Int×List (Int×Int))=>bif PE.andM (ltM s.1 (lenM x)) (ltM s.1 8) then (idxM x s.1).bind fun r=>(m22 (r.1,wrap .i64 ((W:Int)+1))).bind fun r_1=>(idxM x s.1).bind fun r_2=>(m22 (r_2.2,wrap .i64 ((H:Int)+1))).bind fun r_3 =>
   (appM (nat_lit 16) s.2 [(r_1,r_3)]).bind fun r=>some (Sum.inl (wrap .i64 (s.1+1),r)) else some (Sum.inr s.2)) (0,[])=some (row (min x.length 8) (ptF W H x)):=by
  refine count_loop (fun k=>row k (ptF W H x)) (min x.length 8) (fun k hk=>?_) ?_
  ·have hk2:k<x.length:=by omega
   have hm:x.getD k (0,0)∈x:=by simp [List.getD,hk2]
   have g:=hx _ hm
   have hidx:idxM x (k:Int)=some (x.getD k (0,0)):=by rw [idxM_lt hk2];simp [List.getD,hk2]
   dsimp only
   rw [lenL,ltI (by omega),ltI (by omega),andT,cond_true,hidx,Option.bind_some,wrap_in (n:=(W:Int)+1) (by omega) (by omega),pick_ok g.1 (by omega),Option.bind_some,Option.bind_some,wrap_in (n:=(H:Int)+1) (by omega) (by omega),pick_ok g.2 (by omega),Option.bind_some,app_rowOf (y:=(pk (x.getD k (0,0)).1 ((W:Int)+1),pk (x.getD k (0,0)).2 ((H:Int)+1))) (g:=ptF W H x) rfl (by show (k+1)*16≤_;omega),Option.bind_some,wrap_in (by omega) (by omega)]
  ·dsimp only
   have:PE.andM (ltM ((min x.length 8:Nat):Int) (lenM x)) (ltM ((min x.length 8:Nat):Int) 8)=false:=by
    rw [lenL]
    by_cases h:x.length<8
    ·rw [geI (by omega),andF]
    ·rw [geI (a:=((min x.length 8:Nat):Int)) (b:=8) (by omega),andM_false]
   rw [this,cond_false]
 have hon:∀ p∈row (min x.length 8) (ptF W H x),0≤p.1∧p.1≤W∧0≤p.2∧p.2≤H:=fun p hp=>by
  unfold row at hp
  obtain ⟨i,hi,e⟩:=List.mem_map.1 hp
  subst e
  have a1:=pk_lo (c:=(x.getD i (0,0)).1) (n:=(W:Int)+1) (by omega)
  have a2:=pk_hi (c:=(x.getD i (0,0)).1) (n:=(W:Int)+1) (by omega)
  have b1:=pk_lo (c:=(x.getD i (0,0)).2) (n:=(H:Int)+1) (by omega)
  have b2:=pk_hi (c:=(x.getD i (0,0)).2) (n:=(H:Int)+1) (by omega)
  unfold ptF
  dsimp only
  omega
 have hlen:(row (min x.length 8) (ptF W H x)).length=min x.length 8:=row_length _ _
 generalize row (min x.length 8) (ptF W H x)=o at *
 unfold m7 fd
 dsimp only
 by_cases h0:o.length=0
 ·refine ⟨rectP W H,bind_of hloop ?_,rect_ok w1 h1⟩
  rw [lenL,eqI (by omega),cond_true];rfl
 ·obtain ⟨l,e1,e2,e3,e4⟩:=hull_ok (x:=o) (by omega) (by omega) (fun p hp=>by have:=hon p hp;unfold In6;omega)
  by_cases h3:3≤l.length
  ·refine ⟨l,bind_of hloop ?_,h3,by omega,e4 h3,fun p hp=>hon p (e3 p hp)⟩
   rw [lenL,neI (by omega),cond_false,e1,Option.bind_some,lenL,leI (by omega),cond_true]
  ·refine ⟨rectP W H,bind_of hloop ?_,rect_ok w1 h1⟩
   rw [lenL,neI (by omega),cond_false,e1,Option.bind_some,lenL,gtI (by omega),cond_false];rfl
theorem getP {l:List (Int×Int)} {i:Nat} (h:i<l.length):idxM l (i:Int)=some (l.getD i (0,0)):=by rw [idxM_lt h];simp [List.getD,h]
theorem pvalid_ok {l:List (Int×Int)} (h3:3≤l.length) (h8:l.length≤8) (hc:Cvx l) (h6:∀ p∈l,In6 p):m25 l=some true:=by
 have hm:∀ {i:Nat},i<l.length→In6 (l.getD i (0,0)):=fun {i} hi=>h6 _ (by simp [List.getD,hi])
 unfold m25
 rw [lenL,geI (a:=(l.length:Int)) (b:=3) (by omega),geI (a:=8) (by omega),show PE.orM false false=false from rfl,notF,cond_true]
 refine bind_of (x:=false) ?_ ?_
 ·refine bind_of (x:=(-1:Int)) ?_ rfl
  refine bind_of (pass_loop (n:=l.length) (fun k hk=>?_) ?_) rfl
  ·obtain ⟨a0,a1,a2,a3⟩:=hm hk
   rw [ltI (by omega),cond_true,getP hk,Option.bind_some]
   unfold m52
   dsimp only
   rw [geI (a:=min _ _) (by omega),geI (a:=40) (by omega),show PE.orM false false=false from rfl,Option.bind_some,cond_false,wrap_in (by omega) (by omega)]
  ·rw [geI (by omega),cond_false]
 ·rw [show PE.orM false false=false from rfl,cond_false]
  refine bind_of (pass_loop (n:=l.length) (fun i hi=>?_) ?_) rfl
  ·have hn:(i+1) % l.length<l.length:=Nat.mod_lt _ (by omega)
   rw [ltI (by omega),cond_true,getP hi,Option.bind_some,wrap_in (n:=(i:Int)+1) (by omega) (by omega),remM_of (by omega) (by omega),Option.bind_some,show ((i:Int)+1) % (l.length:Int)=(((i+1) % l.length:Nat):Int) by rw [Int.natCast_emod];rfl]
   refine bind_of (pass_loop (n:=l.length) (fun k hk=>?_) ?_) rfl
   ·rw [ltI (by omega),cond_true,getP hk,Option.bind_some,wrap_in (n:=(k:Int)+1) (by omega) (by omega)]
    by_cases e1:k=i
    ·rw [eqI (a:=(k:Int)) (b:=(i:Int)) (by omega),notT,andF,cond_false,Option.bind_some,cond_false,Option.bind_some,andF,cond_false]
    ·rw [neI (a:=(k:Int)) (b:=(i:Int)) (by omega),notF,andT]
     by_cases e2:k=(i+1) % l.length
     ·rw [eqI (by omega),notT,cond_false,Option.bind_some,cond_false,Option.bind_some,andF,cond_false]
     ·have ht:=hc i k hi hk e1 e2
      rw [neI (by omega),notF,cond_true,getP hn,Option.bind_some,cond_true,turn2_ok (hm hi) (hm hn) (hm hk),Option.bind_some,andT,gtI (by omega),cond_false]
   ·rw [geI (by omega),cond_false]
  ·rw [geI (by omega),cond_false]
theorem PlOK.pol {W H:Nat} {l:List (Int×Int)} (h:PlOK W H l) (w6:W≤6) (h6:H≤6):Pol (spS l):=by
 refine ⟨spS_poly h.h3 h.cvx (fun p hp=>by have:=h.on p hp;omega),fun x hx=>?_⟩
 obtain ⟨p,hp,rfl⟩:=List.mem_map.1 hx
 have:=h.on p hp
 dsimp only
 omega
theorem fover_ok {W H:Nat} {lo hi:Nat→Int} (F:OkF W H lo hi) {l:List (Int×Int)} (hl:PlOK W H l):m8 (fd W H lo hi,l)=some (rt (ovQ W H lo (spS l)),rt (ovQ W H hi (spS l)),0):=by
 have w6:=F.w6
 have h6:=F.h6
 have hP:=hl.pol w6 h6
 have h8:=hl.h8
 have hlen:(spS l).length≤8:=by rw [spS_len];exact h8
 have v1:=valid_ok F
 have v2:=pvalid_ok hl.h3 h8 hl.cvx (hl.in6 w6 h6)
 have hs:loopM (fun (s:Int×List (Int×Int×Int))=>bif ltM s.1 (lenM l) then (idxM l s.1).bind fun r_2=>(appM (nat_lit 24) s.2 [(r_2.1,r_2.2,1)]).bind fun r=>some (Sum.inl (wrap .i64 (s.1+1),r)) else some (Sum.inr s.2)) (0,[])=some (spS l):=by
  refine count_loop (fun k=>spS (l.take k)) l.length (fun k hk=>?_) ?_
  ·have e:spS (l.take (k+1))=spS (l.take k)++[((l.getD k (0,0)).1,(l.getD k (0,0)).2,1)]:=by
    unfold spS
    rw [List.take_add_one,List.getElem?_eq_getElem hk,Option.toList_some,List.map_append]
    simp [List.getD,hk]
   have hk2:(spS (l.take k)).length≤8:=by rw [spS_len];exact Nat.le_trans (List.length_take_le _ _) (by omega)
   dsimp only
   rw [lenL,ltI (by omega),cond_true,getP hk,Option.bind_some,appM_of (by show ((spS (l.take k)).length+1)*24≤_;omega),Option.bind_some,wrap_in (by omega) (by omega),e]
  ·dsimp only
   rw [lenL,geI (by omega),cond_false,List.take_length]
 unfold m8
 unfold fd at v1 ⊢
 dsimp only
 rw [v1,Option.bind_some,notT,notF,cond_true,v2,Option.bind_some,notT,show PE.orM false false=false from rfl,notF,cond_true]
 refine bind_of (x:=false) ?_ ?_
 ·refine bind_of (x:=(-1:Int)) ?_ rfl
  refine bind_of (pass_loop (n:=l.length) (fun k hk=>?_) ?_) rfl
  ·have hm:l.getD k (0,0)∈l:=by simp [List.getD,hk]
   have:=hl.on _ hm
   rw [lenL,ltI (by omega),cond_true,getP hk,Option.bind_some,geI (a:=(W:Int)) (by omega),geI (a:=(H:Int)) (by omega),show PE.orM false false=false from rfl,cond_false,wrap_in (by omega) (by omega)]
  ·rw [lenL,geI (by omega),cond_false]
 ·rw [show PE.orM false false=false from rfl,cond_false]
  refine bind_of hs ?_
  refine bind_of (overE_ok F.okLo hP hlen) ?_
  refine bind_of (overE_ok F.okHi hP hlen) rfl
end Go.Proofs.YtdgabicjcepmeaaGreatDoor
namespace Go.Proofs.YtdgabicjcepmeaaGreatDoor
open Go Go.Abs Go.PE Go.Num
open Go.IntKind (wrap)
abbrev Fld:=Int×Int×List Int×List Int
theorem bad_loop {n:Nat} {body:Int→Option (Int⊕(Unit⊕Bool))} (bad:Nat→Prop) (h:∃ k,k<n∧bad k) (hb:∀ k,k<n→(bad k→body (k:Int)=some (.inr (.inr false)))∧(¬ bad k→body (k:Int)=some (.inl ((k:Int)+1)))):loopM body 0=some (.inr false):=by
 obtain ⟨k0,hk0,hb0⟩:=h
 refine loopM_is (fun k s=>s=(k:Int)∧∃ j,k≤j∧j<n∧bad j) n ⟨rfl,k0,by omega,hk0,hb0⟩ ?_
 rintro k s hk ⟨rfl,j,h1,h2,h3⟩
 have hkn:k<n:=by omega
 by_cases hbad:bad k
 ·exact .inr ((hb k hkn).1 hbad)
 ·refine .inl ⟨_,hkn,(hb k hkn).2 hbad,by omega,j,?_,h2,h3⟩
  rcases Nat.lt_or_ge k j with h | h
  ·omega
  ·have:k=j:=by omega
   subst this
   exact absurd h3 hbad
theorem list_row {α:Type} (l:List α) (d:α):l=row l.length fun i=>l.getD i d:=by
 apply List.ext_getElem?
 intro k
 by_cases hk:k<l.length
 ·rw [row_get hk,List.getElem?_eq_getElem hk];simp [List.getD,hk]
 ·rw [List.getElem?_eq_none (by omega),List.getElem?_eq_none (by rw [row_length];omega)]
theorem valid2_ok {W H:Nat} {lo hi:Nat→Int} (h:OkF W H lo hi):m35 (fd W H lo hi)=some true:=by
 have h49:=nn_bd h.w6 h.h6
 have w1:=h.w1
 have w6:=h.w6
 have h1:=h.h1
 have h6:=h.h6
 unfold m35 fd
 dsimp only
 rw [geI (by omega),orF,geI (by omega),orF,geI (by omega),orF,geI (by omega),orF,lenR,lenR,nn_wrap w6 h6,eqI rfl,notT,orF,cond_false]
 refine bind_of (pass_loop (n:=nn W H) (fun k hk=>?_) ?_) rfl
 ·have a:=h.l0 k hk
  have b:=h.lh k hk
  have c:=h.h9 k hk
  rw [ltI (by omega),cond_true,row_idx hk,Option.bind_some,geI (by omega),notF,cond_true,cond_true,row_idx hk,Option.bind_some,Option.bind_some,orF,geI (by omega),notF,cond_true,Option.bind_some,orF,geI (by omega),cond_false,wrap_in (by omega) (by omega)]
 ·rw [geI (by omega),cond_false]
def RngF (t:Fld):Prop:=t.2.2.1.length≤maxLen∧t.2.2.2.length≤maxLen
theorem valid_cases (t:Fld) (hr:RngF t):(∃ W H lo hi,OkF W H lo hi∧t=fd W H lo hi)∨(m21 t=some false∧m35 t=some false):=by
 obtain ⟨W,H,Lo,Hi⟩:=t
 have hr1:Lo.length≤9223372036854775807:=hr.1
 have hr2:Hi.length≤9223372036854775807:=hr.2
 unfold m21 m35
 dsimp only
 by_cases hW:1≤W∧W≤6
 case neg =>
  right
  refine ⟨?_,?_⟩
  ·rw [within_ok,Option.bind_some,decide_eq_false hW];rfl
  ·by_cases h1:W<1
   ·rw [ltI h1,orT];rfl
   ·rw [geI (by omega),orF,ltI (by omega),orT];rfl
 by_cases hH:1≤H∧H≤6
 case neg =>
  right
  refine ⟨?_,?_⟩
  ·rw [within_ok,Option.bind_some,decide_eq_true hW,notT,notF,cond_true,within_ok,Option.bind_some,decide_eq_false hH];rfl
  ·rw [geI (by omega),orF,geI (by omega),orF]
   by_cases h1:H<1
   ·rw [ltI h1,orT];rfl
   ·rw [geI (by omega),orF,ltI (by omega),orT];rfl
 obtain ⟨w,rfl⟩:∃ w:Nat,W=w:=⟨W.toNat,by omega⟩
 obtain ⟨h,rfl⟩:∃ h:Nat,H=h:=⟨H.toNat,by omega⟩
 have w6:w≤6:=by omega
 have h6:h≤6:=by omega
 have h49:=nn_bd w6 h6
 by_cases hl:Lo.length=nn w h∧Hi.length=nn w h
 case neg =>
  right
  rw [within_ok,Option.bind_some,decide_eq_true hW,notT,notF,cond_true,within_ok,Option.bind_some,decide_eq_true hH,notT,orF,orF,nn_wrap w6 h6]
  rw [geI (a:=(w:Int)) (by omega),orF,geI (a:=6) (b:=(w:Int)) (by omega),orF,geI (a:=(h:Int)) (by omega),orF,geI (a:=6) (b:=(h:Int)) (by omega),orF]
  by_cases h1:Lo.length=nn w h
  ·rw [eqI (a:=lenM Lo) (by rw [lenL];omega),notT,orF,neI (a:=lenM Hi) (by rw [lenL,lenL];omega),notF];exact ⟨rfl,rfl⟩
  ·rw [neI (a:=lenM Lo) (by rw [lenL];omega),notF,orT];exact ⟨rfl,rfl⟩
 have e1:=list_row Lo 0
 have e2:=list_row Hi 0
 rw [hl.1] at e1
 rw [hl.2] at e2
 generalize (fun i=>Lo.getD i 0)=lo at e1
 generalize (fun i=>Hi.getD i 0)=hi at e2
 subst e1 e2
 by_cases hb:∃ k,k<nn w h∧¬ (0≤lo k∧lo k≤hi k∧hi k≤100)
 ·right
  rw [within_ok,Option.bind_some,decide_eq_true hW,notT,notF,cond_true,within_ok,Option.bind_some,decide_eq_true hH,notT,orF,orF,lenR,lenR,nn_wrap w6 h6,eqI rfl,notT,orF,cond_false]
  rw [geI (a:=(w:Int)) (by omega),orF,geI (a:=6) (b:=(w:Int)) (by omega),orF,geI (a:=(h:Int)) (by omega),orF,geI (a:=6) (b:=(h:Int)) (by omega),orF,orF,cond_false]
  refine ⟨bind_of (bad_loop (n:=nn w h) _ hb fun k hk=>?_) rfl,bind_of (bad_loop (n:=nn w h) _ hb fun k hk=>?_) rfl⟩
  ·rw [ltI (by omega),cond_true,row_idx hk,Option.bind_some,row_idx hk,Option.bind_some,within_ok,Option.bind_some]
   refine ⟨fun hbad=>?_,fun hgood=>?_⟩
   ·by_cases h1:0≤lo k∧lo k≤hi k
    ·rw [decide_eq_true h1,notT,notF,cond_true,Option.bind_some,orF,ltI (by omega),cond_true]
    ·rw [decide_eq_false h1];rfl
   ·have h1:0≤lo k∧lo k≤hi k∧hi k≤100:=Classical.not_not.1 hgood
    rw [decide_eq_true ⟨h1.1,h1.2.1⟩,notT,notF,cond_true,Option.bind_some,orF,geI (by omega),cond_false,wrap_in (by omega) (by omega)]
  ·rw [ltI (by omega),cond_true,row_idx hk,Option.bind_some]
   refine ⟨fun hbad=>?_,fun hgood=>?_⟩
   ·by_cases h1:lo k<0
    ·rw [ltI h1];rfl
    ·rw [geI (by omega),notF,cond_true,cond_true,row_idx hk,Option.bind_some,Option.bind_some,orF]
     by_cases h2:hi k<lo k
     ·rw [ltI h2];rfl
     ·rw [geI (by omega),notF,cond_true,Option.bind_some,orF,ltI (by omega),cond_true]
   ·have h1:0≤lo k∧lo k≤hi k∧hi k≤100:=Classical.not_not.1 hgood
    rw [geI (by omega),notF,cond_true,cond_true,row_idx hk,Option.bind_some,Option.bind_some,orF,geI (by omega),notF,cond_true,Option.bind_some,orF,geI (by omega),cond_false,wrap_in (by omega) (by omega)]
 ·left
  have hg:∀ k,k<nn w h→0≤lo k∧lo k≤hi k∧hi k≤100:=fun k hk=>Classical.not_not.1 fun h=>hb ⟨k,hk,h⟩
  exact ⟨w,h,lo,hi,⟨by omega,by omega,by omega,by omega,fun i hi=>(hg i hi).1,fun i hi=>(hg i hi).2.1,fun i hi=>(hg i hi).2.2⟩,rfl⟩
theorem corner_ok {W H:Nat} {v:Nat→Int} {lo hi:List Int} (w6:W≤6) (h6:H≤6) {cx cy:Int} (x0:0≤cx) (x1:cx≤W) (y0:0≤cy) (y1:cy≤H):m88 (((W:Int),(H:Int),lo,hi),row (nn W H) v,cx,cy)=some (nd W v cx cy):=by
 unfold m88
 dsimp only
 rw [node_ok w6 h6 x0 x1 y0 y1];rfl
theorem tris_ok {W H:Nat} {v:Nat→Int} {lo hi:List Int} (w6:W≤6) (h6:H≤6):m66 (((W:Int),(H:Int),lo,hi),row (nn W H) v)=some (row (2*(H*W)) (triF W v)):=by
 unfold m66
 have hWH:H*W≤36:=Nat.mul_le_mul h6 w6
 refine bind_of (x:=row (2*(H*W)) (triF W v)) ?_ rfl
 have e0:([]:List Tri)=row (2*(0*W)) (triF W v):=by rw [Nat.zero_mul,Nat.mul_zero,row_zero]
 refine Eq.trans (congrArg (fun l=>loopM _ ((0:Int),l)) e0) (count_loop (fun cy=>row (2*(cy*W)) (triF W v)) H (fun cy hy=>?_) ?_)
 ·dsimp only
  rw [ltI (by omega),cond_true,wrap_in (n:=(cy:Int)+1) (by omega) (by omega)]
  refine bind_of (x:=row (2*((cy+1)*W)) (triF W v)) ?_ rfl
  have e1:row (2*(cy*W)) (triF W v)=row (2*(cy*W+0)) (triF W v):=rfl
  rw [e1]
  refine count_loop (fun cx=>row (2*(cy*W+cx)) (triF W v)) W (fun cx hx=>?_) ?_
  ·dsimp only
   have hb:cy*W+cx+1≤36:=by
    have:(cy+1)*W≤H*W:=Nat.mul_le_mul_right _ hy
    rw [Nat.add_mul,Nat.one_mul] at this
    omega
   rw [ltI (by omega),cond_true,wrap_in (n:=(cx:Int)+1) (by omega) (by omega),corner_ok w6 h6 (by omega) (by omega) (by omega) (by omega),Option.bind_some,corner_ok w6 h6 (by omega) (by omega) (by omega) (by omega),Option.bind_some,corner_ok w6 h6 (by omega) (by omega) (by omega) (by omega),Option.bind_some,corner_ok w6 h6 (by omega) (by omega) (by omega) (by omega),Option.bind_some]
   rw [appM_of (by rw [row_length];show (2*(cy*W+cx)+2)*72≤_;omega),Option.bind_some]
   have e2:2*(cy*W+(cx+1))=2*(cy*W+cx)+1+1:=by omega
   rw [e2,row_succ,row_succ,triF_low v hx,triF_upp v hx,List.append_assoc]
   rfl
  ·dsimp only
   rw [geI (by omega),cond_false,Nat.add_mul,Nat.one_mul]
 ·dsimp only
  rw [geI (by omega),cond_false]
theorem bent_ok {W H:Nat} {lo hi:Nat→Int} (h:OkF W H lo hi) {how n at_:Int} (h1:i64 how) (h3:i64 at_):Ans (m6 (fd W H lo hi,how,n,at_)) RngF:=by
 have h49:=nn_bd h.w6 h.h6
 have hpos:=nn_pos W H
 unfold m6 fd
 dsimp only
 rw [appM_of (by rw [row_length];show (0+nn W H)*8≤_;omega),Option.bind_some,appM_of (by rw [row_length];show (0+nn W H)*8≤_;omega),Option.bind_some,pick_ok h1 (by omega),Option.bind_some,List.nil_append,List.nil_append]
 have a:=pk_lo (c:=at_) (n:=(nn W H:Int)) (by omega)
 have b:=pk_hi (c:=at_) (n:=(nn W H:Int)) (by omega)
 have hR:∀ (x y:Int) (l m:List Int),l.length≤100→m.length≤100→RngF (x,y,l,m):=fun x y l m hl hm=>by
  show l.length≤9223372036854775807∧m.length≤9223372036854775807
  omega
 refine Ans.bind (P:=RngF) ?_ fun o ho=>.of rfl ho
 refine Ans.cond (fun _=>.of rfl (hR _ _ _ _ (by rw [row_length];omega) (by rw [row_length];omega))) fun _=>?_
 refine Ans.cond (fun _=>.of rfl (hR _ _ _ _ (by rw [row_length];omega) (by rw [row_length];omega))) fun _=>?_
 obtain ⟨j,hj⟩:∃ j:Nat,pk at_ (nn W H:Int)=(j:Int):=⟨(pk at_ (nn W H:Int)).toNat,by omega⟩
 refine Ans.cond (fun _=>?_) fun _=>?_
 ·rw [lenR,pick_ok h3 (by omega),Option.bind_some,hj,chkM_of (by omega) (by omega),Option.bind_some,set_rowA (by omega),Option.bind_some]
  exact .of rfl (hR _ _ _ _ (by rw [row_length];omega) (by rw [row_length];omega))
 refine Ans.cond (fun _=>?_) fun _=>?_
 ·rw [lenR,pick_ok h3 (by omega),Option.bind_some,hj,chkM_of (by omega) (by omega),Option.bind_some,set_rowA (by omega),Option.bind_some]
  exact .of rfl (hR _ _ _ _ (by rw [row_length];omega) (by rw [row_length];omega))
 refine Ans.cond (fun _=>?_) fun _=>?_
 ·rw [lenR,wrap_in (by omega) (by omega),sliceM_of (by omega) (by omega) (by rw [row_length];omega),Option.bind_some]
  refine .of rfl (hR _ _ _ _ ?_ (by rw [row_length];omega))
  rw [List.length_drop,List.length_take,row_length];omega
 ·rw [appM_of (by rw [row_length];show (nn W H+1)*8≤_;omega),Option.bind_some]
  exact .of rfl (hR _ _ _ _ (by rw [row_length];omega) (by rw [List.length_append,row_length];show nn W H+1≤100;omega))
end Go.Proofs.YtdgabicjcepmeaaGreatDoor
namespace Go.Proofs.YtdgabicjcepmeaaGreatDoor
open Go Go.Abs Go.PE Go.Num
open Go.IntKind (wrap)
def LnB (L:Spt):Prop:=-6≤L.1∧L.1≤6∧-6≤L.2.1∧L.2.1≤6∧-72≤L.2.2∧L.2.2≤72
def PB (v:Spt):Prop:=-864≤v.1∧v.1≤864∧-864≤v.2.1∧v.2.1≤864∧-72≤v.2.2∧v.2.2≤72
theorem mul_in {x y A B:Int} (hx:-A≤x∧x≤A) (hy:-B≤y∧y≤B):-(A*B)≤x*y∧x*y≤A*B:=by
 have h1:=Int.mul_nonneg (show 0≤A-x by omega) (show 0≤B+y by omega)
 have h2:=Int.mul_nonneg (show 0≤A+x by omega) (show 0≤B-y by omega)
 have h3:=Int.mul_nonneg (show 0≤A-x by omega) (show 0≤B-y by omega)
 have h4:=Int.mul_nonneg (show 0≤A+x by omega) (show 0≤B+y by omega)
 constructor<;>grind
theorem thr_bd {p q:Int×Int} (hp:In6 p) (hq:In6 q):LnB (thr p q):=by
 obtain ⟨a,b,c,d⟩:=hp
 obtain ⟨e,f,g,h⟩:=hq
 have m1:=mul_in (x:=q.2-p.2) (y:=p.1) (A:=6) (B:=6) (by omega) (by omega)
 have m2:=mul_in (x:=q.1-p.1) (y:=p.2) (A:=6) (B:=6) (by omega) (by omega)
 unfold LnB thr
 dsimp only
 omega
theorem thr_ok {p q:Int×Int} (hp:In6 p) (hq:In6 q):m89 (p.1,p.2,q.1,q.2)=some (thr p q):=by
 obtain ⟨a,b,c,d⟩:=hp
 obtain ⟨e,f,g,h⟩:=hq
 have m1:=mul_in (x:=q.2-p.2) (y:=p.1) (A:=6) (B:=6) (by omega) (by omega)
 have m2:=mul_in (x:=q.1-p.1) (y:=p.2) (A:=6) (B:=6) (by omega) (by omega)
 unfold m89 thr
 dsimp only
 rw [wrap_in (n:=p.2-q.2) (by omega) (by omega),wrap_in (n:=q.1-p.1) (by omega) (by omega),wrap_in (n:=q.2-p.2) (by omega) (by omega),wrap_in (n:=(q.2-p.2)*p.1) (by omega) (by omega),wrap_in (n:=(q.1-p.1)*p.2) (by omega) (by omega),wrap_in (by omega) (by omega)]
theorem mtS_bd {a b:Spt} (ha:LnB a) (hb:LnB b):PB (mtS a b):=by
 obtain ⟨a1,a2,a3,a4,a5,a6⟩:=ha
 obtain ⟨b1,b2,b3,b4,b5,b6⟩:=hb
 have m1:=mul_in (x:=a.2.1) (y:=b.2.2) (A:=6) (B:=72) (by omega) (by omega)
 have m2:=mul_in (x:=b.2.1) (y:=a.2.2) (A:=6) (B:=72) (by omega) (by omega)
 have m3:=mul_in (x:=a.2.2) (y:=b.1) (A:=72) (B:=6) (by omega) (by omega)
 have m4:=mul_in (x:=b.2.2) (y:=a.1) (A:=72) (B:=6) (by omega) (by omega)
 have m5:=mul_in (x:=a.1) (y:=b.2.1) (A:=6) (B:=6) (by omega) (by omega)
 have m6:=mul_in (x:=b.1) (y:=a.2.1) (A:=6) (B:=6) (by omega) (by omega)
 unfold PB mtS
 dsimp only
 omega
theorem nrS_bd {p:Spt} (h:PB p):PB (nrS p):=by
 unfold PB nrS at *
 split
 ·dsimp only;omega
 ·exact h
theorem meet_ok {a b:Spt} (ha:LnB a) (hb:LnB b):(bif ltM (wrap .i64 (wrap .i64 (a.1*b.2.1)-wrap .i64 (b.1*a.2.1))) 0 then some (wrap
 IntKind.i64 (negM (wrap .i64 (wrap .i64 (a.2.1*b.2.2)-wrap .i64 (b.2.1*a.2.2)))),wrap .i64 (negM (wrap IntKind.i64
 (wrap .i64 (a.2.2*b.1)-wrap .i64 (b.2.2*a.1)))),wrap .i64 (negM (wrap .i64 (wrap .i64 (a.1*b.2.1) -
 wrap .i64 (b.1*a.2.1))))) else some (wrap .i64 (wrap .i64 (a.2.1*b.2.2)-wrap .i64 (b.2.1*a.2.2)),
 wrap .i64 (wrap .i64 (a.2.2*b.1)-wrap .i64 (b.2.2*a.1)),wrap .i64 (wrap .i64 (a.1*b.2.1)-wrap IntKind.i64
 (b.1*a.2.1))))=some (nrS (mtS a b)):=by
 obtain ⟨a1,a2,a3,a4,a5,a6⟩:=ha
 obtain ⟨b1,b2,b3,b4,b5,b6⟩:=hb
 have m1:=mul_in (x:=a.2.1) (y:=b.2.2) (A:=6) (B:=72) (by omega) (by omega)
 have m2:=mul_in (x:=b.2.1) (y:=a.2.2) (A:=6) (B:=72) (by omega) (by omega)
 have m3:=mul_in (x:=a.2.2) (y:=b.1) (A:=72) (B:=6) (by omega) (by omega)
 have m4:=mul_in (x:=b.2.2) (y:=a.1) (A:=72) (B:=6) (by omega) (by omega)
 have m5:=mul_in (x:=a.1) (y:=b.2.1) (A:=6) (B:=6) (by omega) (by omega)
 have m6:=mul_in (x:=b.1) (y:=a.2.1) (A:=6) (B:=6) (by omega) (by omega)
 rw [wrap_in (n:=a.1*b.2.1) (by omega) (by omega),wrap_in (n:=b.1*a.2.1) (by omega) (by omega),wrap_in (n:=a.2.1*b.2.2) (by omega) (by omega),wrap_in (n:=b.2.1*a.2.2) (by omega) (by omega),wrap_in (n:=a.2.2*b.1) (by omega) (by omega),wrap_in (n:=b.2.2*a.1) (by omega) (by omega),
  wrap_in (n:=a.1*b.2.1-b.1*a.2.1) (by omega) (by omega),wrap_in (n:=a.2.1*b.2.2-b.2.1*a.2.2) (by omega) (by omega),wrap_in (n:=a.2.2*b.1-b.2.2*a.1) (by omega) (by omega)]
 unfold nrS mtS
 dsimp only
 by_cases h:a.1*b.2.1-b.1*a.2.1<0
 ·rw [ltI h,cond_true,if_pos h]
  show some (wrap .i64 (-(a.2.1*b.2.2-b.2.1*a.2.2)),wrap .i64 (-(a.2.2*b.1-b.2.2*a.1)),wrap .i64 (-(a.1*b.2.1-b.1*a.2.1)))=_
  rw [wrap_in (n:=-(a.2.1*b.2.2-b.2.1*a.2.2)) (by omega) (by omega),wrap_in (n:=-(a.2.2*b.1-b.2.2*a.1)) (by omega) (by omega),wrap_in (n:=-(a.1*b.2.1-b.1*a.2.1)) (by omega) (by omega)]
 ·rw [geI (by omega),cond_false,if_neg h]
theorem lev_wrap {L p:Spt} (hL:LnB L) (hp:PB p):wrap .i64 (wrap .i64 (wrap .i64 (L.1*p.1)+wrap .i64 (L.2.1*p.2.1))+wrap .i64 (L.2.2*p.2.2))=lev L p:=by
 obtain ⟨a1,a2,a3,a4,a5,a6⟩:=hL
 obtain ⟨b1,b2,b3,b4,b5,b6⟩:=hp
 have m1:=mul_in (x:=L.1) (y:=p.1) (A:=6) (B:=864) (by omega) (by omega)
 have m2:=mul_in (x:=L.2.1) (y:=p.2.1) (A:=6) (B:=864) (by omega) (by omega)
 have m3:=mul_in (x:=L.2.2) (y:=p.2.2) (A:=72) (B:=72) (by omega) (by omega)
 rw [wrap_in (n:=L.1*p.1) (by omega) (by omega),wrap_in (n:=L.2.1*p.2.1) (by omega) (by omega),wrap_in (n:=L.2.2*p.2.2) (by omega) (by omega),wrap_in (n:=L.1*p.1+L.2.1*p.2.1) (by omega) (by omega),wrap_in (by omega) (by omega)]
 rfl
theorem idxZ {l:List Spt} {k:Nat} (h:k<l.length):idxM l (k:Int)=some (l.getD k z3):=by rw [idxM_lt h];simp [List.getD,h]
theorem chkZ {l:List Spt} {k:Nat} (h:k<l.length):chkM (k:Int) (lenM l)=some ():=chkM_of (by omega) (by rw [lenL];omega)
theorem takeZ {l:List Spt} {k:Nat} (h:k<l.length):l.take (k+1)=l.take k++[l.getD k z3]:=by
 rw [List.take_add_one,List.getElem?_eq_getElem h];simp [List.getD,h]
theorem left_loop {M:List Spt} (hM:∀ L∈M,LnB L) (hl:M.length≤100) {p:Spt} (hp:PB p) (b0:Bool):leftE M p b0=some (b0&&M.all fun L=>decide (0≤lev L p)):=by
 unfold leftE
 refine Eq.trans (congrArg (loopM _) ?_) (Eq.trans (loopM_fn (fun k=>((b0&&(M.take k).all fun L=>decide (0≤lev L p)),(k:Int))) M.length (r:=b0&&M.all fun L=>decide (0≤lev L p)) (fun k hk=>?_) ?_) rfl)
 ·rw [List.take_zero,List.all_nil,Bool.and_true];rfl
 ·rw [takeZ hk,List.all_append,List.all_cons,List.all_nil,Bool.and_true,← Bool.and_assoc]
  dsimp only
  generalize (b0&&(M.take k).all fun L=>decide (0≤lev L p))=b
  rw [lenL,ltI (by omega),cond_true]
  cases b
  ·simp only [cond_false,Option.bind_some,Bool.false_and]
   rw [wrap_in (n:=(k:Int)+1) (by omega) (by omega),andF]
   rfl
  ·have hc:chkM (k:Int) ((M.length:Nat):Int)=some ():=chkZ hk
   simp only [cond_true,hc,idxZ hk,Option.bind_some,Bool.true_and]
   rw [lev_wrap (hM _ (getD_mem3 hk)) hp,wrap_in (n:=(k:Int)+1) (by omega) (by omega),andT]
   rfl
 ·dsimp only
  rw [lenL,geI (by omega),cond_false,List.take_length]
def pqB (v p:Spt):Bool:=decide (v.1*p.2.2=p.1*v.2.2)&&decide (v.2.1*p.2.2=p.2.1*v.2.2)
theorem pqB_iff {v p:Spt}:pqB v p=true↔Pq v p:=by unfold pqB Pq;simp
theorem pq_wrap {a b:Int} (ha:-864≤a∧a≤864) (hb:-72≤b∧b≤72):wrap .i64 (a*b)=a*b:=by
 have m1:=mul_in (x:=a) (y:=b) (A:=864) (B:=72) (by omega) (by omega)
 exact wrap_in (by omega) (by omega)
theorem old_loop {V:List Spt} (hV:∀ v∈V,PB v) (hl:V.length≤1000) {p:Spt} (hp:PB p) (b0:Bool):oldE V p b0=some (b0&&V.all fun v=>!pqB v p):=by
 unfold oldE
 refine Eq.trans (b:=some ((fun k=>((b0&&(V.take k).all fun v=>!pqB v p),(k:Int))) V.length).1) (Eq.trans (congrArg (loopM _) ?_) (loopM_fn (fun k=>((b0&&(V.take k).all fun v=>!pqB v p),(k:Int))) V.length (fun k hk=>?_) ?_)) ?_
 ·rw [List.take_zero,List.all_nil,Bool.and_true];rfl
 ·rw [takeZ hk,List.all_append,List.all_cons,List.all_nil,Bool.and_true,← Bool.and_assoc]
  dsimp only
  generalize (b0&&(V.take k).all fun v=>!pqB v p)=b
  rw [lenL,ltI (by omega),cond_true]
  cases b
  ·simp only [cond_false,Option.bind_some,Bool.false_and,andF]
   rw [wrap_in (n:=(k:Int)+1) (by omega) (by omega)]
   rfl
  ·have hc:chkM (k:Int) ((V.length:Nat):Int)=some ():=chkZ hk
   obtain ⟨v1,v2,v3,v4,v5,v6⟩:=hV _ (getD_mem3 hk)
   obtain ⟨p1,p2,p3,p4,p5,p6⟩:=hp
   simp only [cond_true,hc,idxZ hk,Option.bind_some,Bool.true_and,andT]
   rw [pq_wrap ⟨v1,v2⟩ ⟨p5,p6⟩,pq_wrap ⟨p1,p2⟩ ⟨v5,v6⟩,wrap_in (n:=(k:Int)+1) (by omega) (by omega)]
   unfold pqB
   by_cases h1:(V.getD k z3).1*p.2.2=p.1*(V.getD k z3).2.2
   ·rw [eqI h1,decide_eq_true h1]
    simp only [notT,notF,cond_true,Option.bind_some,Bool.true_and,orF]
    rw [pq_wrap ⟨v3,v4⟩ ⟨p5,p6⟩,pq_wrap ⟨p3,p4⟩ ⟨v5,v6⟩]
    rfl
   ·rw [neI h1,decide_eq_false h1]
    simp only [notT,notF,cond_false,Option.bind_some,Bool.false_and]
    rfl
 ·dsimp only
  rw [lenL,geI (by omega),cond_false]
 ·dsimp only
  rw [List.take_length]
end Go.Proofs.YtdgabicjcepmeaaGreatDoor
namespace Go.Proofs.YtdgabicjcepmeaaGreatDoor
open Go Go.Abs Go.PE Go.Num
open Go.IntKind (wrap)
theorem eqS (x a:Spt):PE.andM (eqM x.1 a.1) (PE.andM (eqM x.2.1 a.2.1) (eqM x.2.2 a.2.2))=decide (x=a):=by
 obtain ⟨x1,x2,x3⟩:=x
 obtain ⟨a1,a2,a3⟩:=a
 dsimp only
 by_cases h1:x1=a1
 ·by_cases h2:x2=a2
  ·by_cases h3:x3=a3
   ·rw [eqI h1,eqI h2,eqI h3,decide_eq_true (by rw [h1,h2,h3])];rfl
   ·rw [eqI h1,eqI h2,neI h3,decide_eq_false (fun e=>h3 (by injection e with _ e;injection e))];rfl
  ·rw [eqI h1,neI h2,decide_eq_false (fun e=>h2 (by injection e with _ e;injection e))];rfl
 ·rw [neI h1,decide_eq_false (fun e=>h1 (by injection e))];rfl
theorem det_ok {p q r:Spt} (hp:PB p) (hq:PB q) (hr:PB r):m69 ((p.1,p.2.1,p.2.2),(q.1,q.2.1,q.2.2),r.1,r.2.1,r.2.2)=some (dt3 p q r):=by
 obtain ⟨p1,p2,p3,p4,p5,p6⟩:=hp
 obtain ⟨q1,q2,q3,q4,q5,q6⟩:=hq
 obtain ⟨r1,r2,r3,r4,r5,r6⟩:=hr
 have m1:=mul_in (x:=q.2.1) (y:=r.2.2) (A:=864) (B:=72) (by omega) (by omega)
 have m2:=mul_in (x:=q.2.2) (y:=r.2.1) (A:=72) (B:=864) (by omega) (by omega)
 have m3:=mul_in (x:=q.1) (y:=r.2.2) (A:=864) (B:=72) (by omega) (by omega)
 have m4:=mul_in (x:=q.2.2) (y:=r.1) (A:=72) (B:=864) (by omega) (by omega)
 have m5:=mul_in (x:=q.1) (y:=r.2.1) (A:=864) (B:=864) (by omega) (by omega)
 have m6:=mul_in (x:=q.2.1) (y:=r.1) (A:=864) (B:=864) (by omega) (by omega)
 have u1:=mul_in (x:=p.1) (y:=q.2.1*r.2.2-q.2.2*r.2.1) (A:=864) (B:=124416) (by omega) (by omega)
 have u2:=mul_in (x:=p.2.1) (y:=q.1*r.2.2-q.2.2*r.1) (A:=864) (B:=124416) (by omega) (by omega)
 have u3:=mul_in (x:=p.2.2) (y:=q.1*r.2.1-q.2.1*r.1) (A:=72) (B:=1492992) (by omega) (by omega)
 unfold m69 dt3
 dsimp only
 rw [wrap_in (n:=q.2.1*r.2.2) (by omega) (by omega),wrap_in (n:=q.2.2*r.2.1) (by omega) (by omega),wrap_in (n:=q.1*r.2.2) (by omega) (by omega),wrap_in (n:=q.2.2*r.1) (by omega) (by omega),wrap_in (n:=q.1*r.2.1) (by omega) (by omega),wrap_in (n:=q.2.1*r.1) (by omega) (by omega),
  wrap_in (n:=q.2.1*r.2.2-q.2.2*r.2.1) (by omega) (by omega),wrap_in (n:=q.1*r.2.2-q.2.2*r.1) (by omega) (by omega),wrap_in (n:=q.1*r.2.1-q.2.1*r.1) (by omega) (by omega),wrap_in (n:=p.1*_) (by omega) (by omega),wrap_in (n:=p.2.1*_) (by omega) (by omega),wrap_in (n:=p.2.2*_) (by omega) (by omega),
  wrap_in (n:=p.1*(q.2.1*r.2.2-q.2.2*r.2.1)-p.2.1*(q.1*r.2.2-q.2.2*r.1)) (by omega) (by omega),wrap_in (by omega) (by omega)]
theorem adV_pb {M V:List Spt} {p:Spt} (hV:∀ v∈V,PB v) (hp:PB p):∀ v∈adV M V p,PB v:=fun v hv=>by
 unfold adV at hv
 split at hv
 ·rcases List.mem_append.1 hv with q | q
  ·exact hV v q
  ·rw [List.mem_singleton.1 q];exact hp
 ·exact hV v hv
theorem adV_len (M V:List Spt) (p:Spt):(adV M V p).length≤V.length+1:=by
 unfold adV
 split
 ·simp
 ·omega
theorem rowV_pb {M V:List Spt} (hM:∀ L∈M,LnB L) (hV:∀ v∈V,PB v) {i:Nat} (hi:i<M.length):∀ k,i+1+k≤M.length→∀ v∈rowV M i V k,PB v
 | 0,_=>hV
 | k+1,hk=>adV_pb (rowV_pb hM hV hi k (by omega)) (nrS_bd (mtS_bd (hM _ (getD_mem3 hi)) (hM _ (getD_mem3 (by omega)))))
theorem rowV_len (M V:List Spt) (i:Nat):∀ k,(rowV M i V k).length≤V.length+k
 | 0=>Nat.le_refl _
 | k+1=>by
  have:=adV_len M (rowV M i V k) (nrS (mtS (M.getD i z3) (M.getD (i+1+k) z3)))
  have:=rowV_len M V i k
  show (adV M _ _).length≤_
  omega
theorem allV_pb {M:List Spt} (hM:∀ L∈M,LnB L):∀ i,i≤M.length→∀ v∈allV M i,PB v
 | 0,_=>fun _ h=>by cases h
 | i+1,hi=>rowV_pb hM (allV_pb hM i (by omega)) (by omega) _ (by omega)
theorem allV_len (M:List Spt):∀ i,(allV M i).length≤i*M.length
 | 0=>Nat.zero_le _
 | i+1=>by
  have h1:=allV_len M i
  have h2:=rowV_len M (allV M i) i (M.length-(i+1))
  show (rowV M i (allV M i) (M.length-(i+1))).length≤_
  rw [Nat.add_mul,Nat.one_mul]
  omega
theorem adV_if {M V:List Spt} {p:Spt}:adV M V p=if ((ltM 0 p.2.2&&M.all fun L=>decide (0≤lev L p))&&V.all fun v=>!pqB v p)=true then V++[p] else V:=by
 unfold adV
 have:OkW M V p↔((ltM 0 p.2.2&&M.all fun L=>decide (0≤lev L p))&&V.all fun v=>!pqB v p)=true:=by
  rw [Bool.and_eq_true,Bool.and_eq_true,List.all_eq_true,List.all_eq_true]
  have e:ltM 0 p.2.2=true↔0<p.2.2:=decide_eq_true_iff
  rw [e]
  unfold OkW
  refine ⟨fun ⟨a,b,c⟩=>⟨⟨a,fun L hL=>decide_eq_true (b L hL)⟩,fun v hv=>?_⟩,fun ⟨⟨a,b⟩,c⟩=>⟨a,fun L hL=>of_decide_eq_true (b L hL),fun v hv h=>?_⟩⟩
  ·cases h:pqB v p
   ·rfl
   ·exact absurd (pqB_iff.1 h) (c v hv)
  ·have:=c v hv
   rw [pqB_iff.2 h] at this
   cases this
 by_cases h:OkW M V p
 ·rw [if_pos h,if_pos (this.1 h)]
 ·rw [if_neg h,if_neg (fun q=>h (this.2 q))]
def nxB (V:List Spt) (a c:Spt):Bool:=!decide (c=a)&&V.all fun k=>decide (k=a)||decide (k=c)||decide (0<dt3 a c k)
theorem nxB_iff {V:List Spt} {a c:Spt} (hc:c∈V):nxB V a c=true↔Nx3 V a c:=by
 unfold nxB Nx3
 rw [Bool.and_eq_true,List.all_eq_true]
 refine ⟨fun ⟨h1,h2⟩=>⟨hc,fun e=>?_,fun k hk=>?_⟩,fun ⟨_,h1,h2⟩=>⟨?_,fun k hk=>?_⟩⟩
 ·rw [decide_eq_true e] at h1;cases h1
 ·have:=h2 k hk
  rw [Bool.or_eq_true,Bool.or_eq_true,decide_eq_true_iff,decide_eq_true_iff,decide_eq_true_iff] at this
  exact this.elim (fun q=>q.elim .inl fun q=>.inr (.inl q)) fun q=>.inr (.inr q)
 ·rw [decide_eq_false h1];rfl
 ·rw [Bool.or_eq_true,Bool.or_eq_true,decide_eq_true_iff,decide_eq_true_iff,decide_eq_true_iff]
  exact (h2 k hk).elim (fun q=>.inl (.inl q)) fun q=>q.elim (fun q=>.inl (.inr q)) .inr
def Tr3 (p q r:Int×Int):List Spt:=[thr p q,thr q r,thr r p]
structure ComR (V O:List Spt):Prop where
 le:O.length≤121
 pb:∀ x∈O,PB x
 len:O.length=V.length
 mem:∀ x∈O,x∈V
 nx:∀ i,i+1<O.length→Nx3 V (O.getD i z3) (O.getD (i+1) z3)
theorem common_ok {p q r:Int×Int} (hp:In6 p) (hq:In6 q) (hr:In6 r) (va vb vc:Int) {l:List (Int×Int)} (h3:3≤l.length) (h8:l.length≤8) (hl:∀ x∈l,In6 x)
  {V:List Spt} (hVd:V=allV (Tr3 p q r++plS l) (Tr3 p q r++plS l).length) (hnx:3≤V.length→∀ a∈V,∃ b,Nx3 V a b) :
  Ans (m67 (((p.1,p.2,va),(q.1,q.2,vb),r.1,r.2,vc),l)) fun O=>(V.length<3→O=[])∧(3≤V.length→ComR V O):=by
 have hM:∀ L∈Tr3 p q r++plS l,LnB L:=fun L hL=>by
  rcases List.mem_append.1 hL with h | h
  ·unfold Tr3 at h
   simp only [List.mem_cons,List.not_mem_nil,or_false] at h
   rcases h with rfl | rfl | rfl
   ·exact thr_bd hp hq
   ·exact thr_bd hq hr
   ·exact thr_bd hr hp
  ·obtain ⟨i,hi,rfl⟩:=List.mem_map.1 h
   rw [List.mem_range] at hi
   have hn:(i+1) % l.length<l.length:=Nat.mod_lt _ (by omega)
   exact thr_bd (hl _ (by simp [List.getD,hi])) (hl _ (by simp [List.getD,hn]))
 have hpl:(plS l).length=l.length:=by unfold plS;simp
 have hMl:(Tr3 p q r++plS l).length=3+l.length:=by rw [List.length_append,hpl];rfl
 unfold m67
 dsimp only
 rw [thr_ok hp hq,Option.bind_some,appM_of (by show (0+1)*24≤_;omega),Option.bind_some,thr_ok hq hr,Option.bind_some,appM_of (by show (1+1)*24≤_;omega),Option.bind_some,thr_ok hr hp,Option.bind_some,appM_of (by show (2+1)*24≤_;omega),Option.bind_some]
 refine Ans.seq (x:=Tr3 p q r++plS l) ?_ ?_
 ·refine Eq.trans (b:=some (Tr3 p q r++(plS l).take l.length)) (count_loop (fun k=>Tr3 p q r++(plS l).take k) l.length (fun k hk=>?_) ?_) ?_
  ·have hn:(k+1) % l.length<l.length:=Nat.mod_lt _ (by omega)
   have hk':k<(plS l).length:=by omega
   have ht:(plS l).take (k+1)=(plS l).take k++[thr (l.getD k (0,0)) (l.getD ((k+1) % l.length) (0,0))]:=by
    rw [List.take_add_one,List.getElem?_eq_getElem hk']
    unfold plS
    simp
   have e1:=thr_ok (hl (l.getD k (0,0)) (by simp [List.getD,hk])) (hl (l.getD ((k+1) % l.length) (0,0)) (by simp [List.getD,hn]))
   dsimp only
   rw [lenL,ltI (by omega),cond_true,getP hk,Option.bind_some,wrap_in (n:=(k:Int)+1) (by omega) (by omega),remM_of (by omega) (by omega),Option.bind_some,show ((k:Int)+1) % (l.length:Int)=(((k+1) % l.length:Nat):Int) by rw [Int.natCast_emod];rfl,getP hn,Option.bind_some,e1,Option.bind_some]
   rw [appM_of (by rw [List.length_append,List.length_take,hpl];show (3+min k l.length+1)*24≤_;omega),Option.bind_some,ht,← List.append_assoc]
  ·dsimp only
   rw [lenL,geI (by omega),cond_false]
  ·rw [← hpl,List.take_length]
 generalize Tr3 p q r++plS l=M at *
 have hl11:M.length≤11:=by omega
 refine Ans.seq (x:=V) ?_ ?_
 ·refine Eq.trans (b:=some (allV M M.length)) (count_loop (fun i=>allV M i) M.length (fun i hi=>?_) ?_) (by rw [hVd])
  ·dsimp only
   rw [lenL,ltI (by omega),cond_true]
   refine bind_of (x:=allV M (i+1)) ?_ (by rw [wrap_in (by omega) (by omega)])
   have hA:=allV_pb hM i (by omega)
   have hAl:=allV_len M i
   have hA1:i*M.length≤10*11:=Nat.mul_le_mul (by omega) hl11
   refine Eq.trans (congrArg (loopM _) (show _=((fun k:Nat=>(((i+1+k:Nat):Int),rowV M i (allV M i) k)) 0) from ?_)) (loopM_fn (fun k:Nat=>(((i+1+k:Nat):Int),rowV M i (allV M i) k)) (M.length-(i+1)) (fun k hk=>?_) ?_)
   ·show (wrap .i64 ((i:Int)+1),allV M i)=(((i+1+0:Nat):Int),allV M i)
    rw [wrap_in (by omega) (by omega)];rfl
   ·have hik:i+1+k<M.length:=by omega
    have hW:=rowV_pb (i:=i) hM hA hi k (by omega)
    have hWl:=rowV_len M (allV M i) i k
    have hci:chkM (i:Int) ((M.length:Nat):Int)=some ():=chkZ hi
    have hck:chkM ((i+1+k:Nat):Int) ((M.length:Nat):Int)=some ():=chkZ hik
    have hLi:=hM _ (getD_mem3 hi)
    have hLk:=hM _ (getD_mem3 hik)
    have hpb:=nrS_bd (mtS_bd hLi hLk)
    have hmt:=meet_ok hLi hLk
    dsimp only
    rw [ltI (by omega),cond_true,hci,Option.bind_some,idxZ hi,Option.bind_some,hck,Option.bind_some,idxZ hik,Option.bind_some]
    show (Option.bind _ _)=some (Sum.inl (((i+1+(k+1):Nat):Int),adV M (rowV M i (allV M i) k) (nrS (mtS (M.getD i z3) (M.getD (i+1+k) z3)))))
    generalize rowV M i (allV M i) k=W at *
    generalize M.getD (i+1+k) z3=B at *
    generalize M.getD i z3=A at *
    refine bind_of (x:=adV M W (nrS (mtS A B))) ?_ (by rw [wrap_in (by omega) (by omega)];rfl)
    refine bind_of hmt ?_
    refine bind_of (left_loop hM (by omega) hpb (ltM 0 (nrS (mtS A B)).2.2)) ?_
    refine bind_of (old_loop hW (by omega) hpb _) ?_
    rw [adV_if]
    by_cases hh:((ltM 0 (nrS (mtS A B)).2.2&&M.all fun L=>decide (0≤lev L (nrS (mtS A B))))&&W.all fun v=>!pqB v (nrS (mtS A B)))=true
    ·rw [if_pos hh,hh,cond_true,appM_of (by show (W.length+1)*24≤_;omega)];rfl
    ·rw [if_neg hh,Bool.eq_false_iff.2 hh,cond_false]
   ·dsimp only
    rw [geI (by omega),cond_false];rfl
  ·dsimp only
   rw [lenL,geI (by omega),cond_false]
 have hVb:∀ v∈V,PB v:=by rw [hVd];exact allV_pb hM _ (Nat.le_refl _)
 have hVl:V.length≤121:=by
  have h1:=allV_len M M.length
  have h2:M.length*M.length≤11*11:=Nat.mul_le_mul hl11 hl11
  rw [← hVd] at h1
  omega
 clear hVd hM
 by_cases hv3:V.length<3
 ·rw [lenL,ltI (by omega),cond_true]
  exact .of rfl ⟨fun _=>rfl,fun h=>by omega⟩
 have hnx':=hnx (by omega)
 rw [lenL,geI (by omega),cond_false]
 have hc0:chkM 0 ((V.length:Nat):Int)=some ():=chkM_of (by omega) (by omega)
 have hi0:idxM V 0=some (V.getD 0 z3):=idxZ (k:=0) (by omega)
 rw [hc0,Option.bind_some,hi0,Option.bind_some]
 refine Ans.bind (P:=fun o=>∃ O,o=.inl O∧ComR V O) (Ans.loop (fun k s=>s.length=k+1∧k+1≤V.length∧(∀ x∈s,x∈V)∧∀ i,i+1<s.length→Nx3 V (s.getD i z3) (s.getD (i+1) z3)) V.length ⟨rfl,by omega,fun x hx=>?_,fun i hi=>?_⟩ ?_) ?_
 ·rw [List.mem_singleton.1 hx];exact getD_mem3 (by omega)
 ·simp at hi
 ·rintro k s hk ⟨s1,s2,s3,s4⟩
  by_cases hlt:s.length<V.length
  ·have hlast:s.length-1<s.length:=by omega
   have hw:wrap .i64 (lenM s-1)=((s.length-1:Nat):Int):=by rw [lenL,wrap_in (by omega) (by omega)];omega
   have ha:=s3 _ (getD_mem3 hlast)
   rw [lenL s,ltI (by omega),cond_true,← lenL s,hw,chkZ hlast,Option.bind_some,idxZ hlast,Option.bind_some]
   obtain ⟨a,hadef⟩:∃ a,a=s.getD (s.length-1) z3:=⟨_,rfl⟩
   rw [← hadef] at ha ⊢
   obtain ⟨b,hb⟩:=hnx' a ha
   obtain ⟨jb,hjb,ejb⟩:=mem_getD3 hb.1
   refine Ans.bind (P:=fun o=>o=(true,s++[b])) (Ans.loop (fun j t=>(t=(false,(j:Int),s)∧j≤jb)∨(t.1=true∧t.2.2=s++[b])) (V.length+1) (.inl ⟨rfl,Nat.zero_le _⟩) ?_) ?_
   ·rintro j ⟨f,i,t⟩ hj (⟨e,hjle⟩ | ⟨e1,e2⟩)
    ·obtain ⟨rfl,rfl,e3⟩:f=false∧i=(j:Int)∧t=s:=by injection e with e1 e2;injection e2 with e2 e3;exact ⟨e1,e2,e3⟩
     have hjV:j<V.length:=by omega
     have hcj:chkM (j:Int) ((V.length:Nat):Int)=some ():=chkZ hjV
     have hcV:=getD_mem3 hjV
     dsimp only
     rw [e3,ltI (by omega),notF,show PE.andM true true=true from rfl,cond_true,hcj,Option.bind_some,idxZ hjV,Option.bind_some]
     obtain ⟨c,hcdef⟩:∃ c,c=V.getD j z3:=⟨_,rfl⟩
     have hic:idxM V (j:Int)=some c:=by rw [hcdef];exact idxZ hjV
     rw [← hcdef] at hcV ⊢
     have hPa:=hVb a ha
     have hPc:=hVb c hcV
     refine Ans.bind (P:=fun o=>o=if nxB V a c=true then (true,s++[c]) else (false,s)) ?_ ?_
     ·refine Ans.seq (x:=nxB V a c) ?_ ?_
      ·refine Eq.trans (congrArg (loopM _) (show _=((fun k:Nat=>((!decide (c=a)&&(V.take k).all fun k=>decide (k=a)||decide (k=c)||decide (0<dt3 a c k)),(k:Int))) 0) from ?_)) (loopM_fn (fun k:Nat=>((!decide (c=a)&&(V.take k).all fun k=>decide (k=a)||decide (k=c)||decide (0<dt3 a c k)),(k:Int))) V.length (fun m hm=>?_) ?_)
       ·dsimp only
        rw [eqS,List.take_zero,List.all_nil,Bool.and_true]
        cases decide (c=a)<;>rfl
       ·have hcm:chkM (m:Int) ((V.length:Nat):Int)=some ():=chkZ hm
        have hPx:=hVb _ (getD_mem3 hm)
        rw [takeZ hm,List.all_append,List.all_cons,List.all_nil,Bool.and_true,← Bool.and_assoc]
        dsimp only
        generalize (!decide (c=a)&&(V.take m).all fun k=>decide (k=a)||decide (k=c)||decide (0<dt3 a c k))=f
        rw [ltI (by omega),cond_true]
        cases f
        ·simp only [cond_false,Option.bind_some,Bool.false_and,andF]
         rw [wrap_in (n:=(m:Int)+1) (by omega) (by omega)];rfl
        ·simp only [cond_true,hcm,idxZ hm,Option.bind_some,Bool.true_and,andT,eqS]
         rw [wrap_in (n:=(m:Int)+1) (by omega) (by omega)]
         generalize V.getD m z3=x at *
         by_cases h1:x=a
         ·rw [decide_eq_true h1]
          simp only [notT,cond_false,Option.bind_some,orT,Bool.true_or]
          rfl
         ·rw [decide_eq_false h1]
          simp only [notF,cond_true,Option.bind_some,orF,Bool.false_or]
          by_cases h2:x=c
          ·rw [decide_eq_true h2]
           simp only [notT,cond_false,Option.bind_some,orT,Bool.true_or]
           rfl
          ·have hd:=det_ok hPa hPc hPx
           rw [decide_eq_false h2]
           simp only [notF,cond_true,Option.bind_some,orF,Bool.false_or]
           rw [hd];rfl
       ·dsimp only
        rw [geI (by omega),cond_false,List.take_length];rfl
      ·by_cases hn:nxB V a c=true
       ·rw [hn,cond_true,Option.bind_some,Option.bind_some,appM_of (by show (s.length+1)*24≤_;omega),Option.bind_some]
        exact .of rfl rfl
       ·rw [Bool.eq_false_iff.2 hn,cond_false]
        exact .of rfl rfl
     ·rintro o rfl
      by_cases hn:nxB V a c=true
      ·have hcb:c=b:=nx3_un ((nxB_iff hcV).1 hn) hb
       rw [if_pos hn,hcb]
       exact .of rfl (show j<V.length+1∧_ from ⟨by omega,.inr ⟨rfl,rfl⟩⟩)
      ·rw [if_neg hn]
       refine .of rfl (show j<V.length+1∧_ from ⟨by omega,.inl ⟨by rw [wrap_in (by omega) (by omega)];rfl,?_⟩⟩)
       refine Nat.lt_of_le_of_ne hjle fun e=>hn ?_
       rw [nxB_iff hcV,hcdef,e,← ejb]
       exact hb
    ·dsimp only at e1 e2
     subst e1 e2
     dsimp only
     refine Ans.of (r:=(.inr (true,s++[b]):(Bool×Int×List Spt)⊕(Bool×List Spt))) ?_ (show (true,s++[b])=(true,s++[b]) from rfl)
     rw [notT,andM_false,cond_false]
   ·rintro o rfl
    dsimp only
    rw [notT,cond_false]
    refine .of rfl ?_
    show k<V.length∧(s++[b]).length=k+1+1∧k+1+1≤V.length∧(∀ x∈s++[b],x∈V)∧∀ i,i+1<(s++[b]).length→Nx3 V ((s++[b]).getD i z3) ((s++[b]).getD (i+1) z3)
    refine ⟨by omega,by simp [s1],by omega,fun x hx=>?_,fun i hi=>?_⟩
    ·rcases List.mem_append.1 hx with q | q
     ·exact s3 x q
     ·rw [List.mem_singleton.1 q];exact hb.1
    ·rw [List.length_append,List.length_singleton] at hi
     have g1:(s++[b]).getD i z3=s.getD i z3:=getD_app3 (by omega)
     rw [g1]
     by_cases q:i+1<s.length
     ·rw [getD_app3 q];exact s4 i q
     ·have e:i=s.length-1:=by omega
      have g2:(s++[b]).getD (i+1) z3=b:=by rw [show i+1=s.length by omega];simp [List.getD]
      rw [g2,e,← hadef];exact hb
  ·rw [lenL s,geI (by omega),cond_false]
   exact .of rfl ⟨s,rfl,by omega,fun x hx=>hVb x (s3 x hx),by omega,s3,s4⟩
 ·rintro o ⟨O,rfl,hO⟩
  exact .of rfl ⟨fun h=>absurd h hv3,fun _=>hO⟩
end Go.Proofs.YtdgabicjcepmeaaGreatDoor
namespace Go.Num
open Go Go.Lib Go.PE
def vt:List Int→Int
 | []=>0
 | d::l=>d+10*vt l
def okt (l:List Int):Prop:=∀ d∈l,0≤d∧d≤9
def dgs (n:Nat):List Int:=if h:n=0 then [] else ((n % 10:Nat):Int)::dgs (n / 10)
termination_by n
decreasing_by omega
theorem dgs_zero:dgs 0=[]:=by rw [dgs];simp
theorem dgs_pos {n:Nat} (h:n≠0):dgs n=((n % 10:Nat):Int)::dgs (n / 10):=by rw [dgs];simp [h]
theorem okt_nil:okt []:=fun _ h=>absurd h (by simp)
theorem okt_cons {d:Int} {l:List Int}:okt (d::l)↔(0≤d∧d≤9)∧okt l:=by unfold okt;simp
theorem okt_app {l m:List Int}:okt (l++m)↔okt l∧okt m:=by
 unfold okt;constructor
 ·exact fun h=>⟨fun d hd=>h d (by simp [hd]),fun d hd=>h d (by simp [hd])⟩
 ·rintro ⟨h1,h2⟩ d hd;rcases List.mem_append.1 hd with h | h
  ·exact h1 d h
  ·exact h2 d h
theorem vt_nn:∀ {l:List Int},okt l→0≤vt l
 | [],_=>by simp [vt]
 | d::l,h=>by have:=vt_nn (okt_cons.1 h).2;have:=(okt_cons.1 h).1;simp only [vt];omega
theorem dgs_okd (n:Nat):okt (dgs n):=by
 induction n using Nat.strongRecOn with
 | _ n ih =>
  by_cases h:n=0
  ·subst h;rw [dgs_zero];exact okt_nil
  ·rw [dgs_pos h,okt_cons];exact ⟨by omega,ih _ (by omega)⟩
theorem vt_grp (n:Nat):vt (dgs n)=n:=by
 induction n using Nat.strongRecOn with
 | _ n ih =>
  by_cases h:n=0
  ·subst h;rw [dgs_zero];rfl
  ·rw [dgs_pos h,vt,ih _ (by omega)];omega
theorem vt_app:∀ (l m:List Int),vt (l++m)=vt l+10 ^ l.length*vt m
 | [],m=>by simp [vt]
 | d::l,m=>by
  simp only [List.cons_append,vt,vt_app l m,List.length_cons,Int.pow_succ]
  rw [Int.mul_add,← Int.add_assoc,← Int.mul_assoc,Int.mul_comm 10 (10 ^ l.length)]
theorem dgs_of:∀ {l:List Int},okt l→(∀ h:l≠[],l.getLast h≠0)→dgs (vt l).toNat=l
 | [],_,_=>by simp [vt,dgs_zero]
 | d::l,h,hl=>by
  obtain ⟨h1,h2⟩:=okt_cons.1 h
  have hn:=vt_nn h2
  have hl':∀ h:l≠[],l.getLast h≠0:=fun h=>by have:=hl (by simp);rwa [List.getLast_cons h] at this
  have hz:(vt (d::l)).toNat≠0:=by
   intro h0
   have h3:vt l=0∧d=0:=by simp only [vt] at h0;omega
   cases l with
   | nil=>have:=hl (by simp);simp at this;exact this h3.2
   | cons e l=>have:=dgs_of h2 hl';rw [h3.1] at this;simp [dgs_zero] at this
  rw [dgs_pos hz]
  have e1:(((vt (d::l)).toNat % 10:Nat):Int)=d:=by simp only [vt];omega
  have e2:(vt (d::l)).toNat / 10=(vt l).toNat:=by simp only [vt];omega
  rw [e1,e2,dgs_of h2 hl']
theorem dgs_drop:∀ (i n:Nat),(dgs n).drop i=dgs (n / 10 ^ i)
 | 0,n=>by simp
 | i+1,n=>by
  by_cases h:n=0
  ·subst h;simp [dgs_zero]
  ·rw [dgs_pos h,List.drop_succ_cons,dgs_drop i,Nat.pow_succ,Nat.div_div_eq_div_mul,Nat.mul_comm]
theorem dgs_nil {n:Nat}:dgs n=[]↔n=0:=by
 constructor
 ·intro h;by_cases h0:n=0
  ·exact h0
  ·rw [dgs_pos h0] at h;simp at h
 ·rintro rfl;exact dgs_zero
theorem dgs_get (n i:Nat):(dgs n).getD i 0=((n / 10 ^ i % 10:Nat):Int):=by
 have h:(dgs n).getD i 0=((dgs n).drop i).getD 0 0:=by simp
 rw [h,dgs_drop]
 by_cases h0:n / 10 ^ i=0
 ·rw [h0];simp [dgs_zero]
 ·rw [dgs_pos h0];rfl
theorem dgs_len_le {n k:Nat} (h:n<10 ^ k):(dgs n).length≤k:=by
 have h1:(dgs n).drop k=[]:=by rw [dgs_drop,Nat.div_eq_of_lt h,dgs_zero]
 exact List.drop_eq_nil_iff.1 h1
theorem dgs_lt (n:Nat):n<10 ^ (dgs n).length:=by
 have h1:(dgs n).drop (dgs n).length=[]:=List.drop_length
 rw [dgs_drop,dgs_nil] at h1
 rcases Nat.div_eq_zero_iff.1 h1 with h | h
 ·have:=Nat.pow_pos (n:=(dgs n).length) (show 0<10 by decide);omega
 ·exact h
theorem dgs_len_gt {n k:Nat} (h:10 ^ k≤n):k<(dgs n).length:=by
 have:=dgs_lt n
 by_cases h2:k<(dgs n).length
 ·exact h2
 ·have:=Nat.pow_le_pow_right (show 0<10 by decide) (Nat.le_of_not_lt h2);omega
theorem pow_post (k:Nat):(0:Int)<10 ^ k:=Int.pow_pos (by omega)
theorem vt_lt:∀ {l:List Int},okt l→vt l<10 ^ l.length
 | [],_=>by show (0:Int)<1;omega
 | d::l,h=>by
  have:=vt_lt (okt_cons.1 h).2
  have:=(okt_cons.1 h).1
  rw [List.length_cons,Int.pow_succ]
  simp only [vt]
  omega
theorem vt_snoc (l:List Int) (d:Int):vt (l++[d])=vt l+10 ^ l.length*d:=by
 rw [vt_app];simp [vt]
theorem okt_get {l:List Int} (h:okt l) (i:Nat):0≤l.getD i 0∧l.getD i 0≤9:=by
 by_cases hi:i<l.length
 ·rw [getD_in _ _ hi];exact h _ (List.getElem_mem hi)
 ·rw [getD_out _ _ (by omega)];omega

end Go.Num
namespace Go.Proofs.YtdgabicjcepmeaaGreatDoor
open Go Go.Lib Go.Abs Go.PE Go.Num
theorem rtrim_ok {l:List Int} (h:okt l) (hl:l.length≤100000):m161 l=some (dgs (vt l).toNat):=by
 unfold m161
 refine bind_of (loopM_is (r:=dgs (vt l).toNat) (fun k s=>okt s∧vt s=vt l∧s.length+k=l.length) l.length ⟨h,rfl,by omega⟩ ?_) rfl
 rintro k s hk ⟨h1,h2,h3⟩
 by_cases h0:s=[]
 ·subst h0
  right
  have e:vt l=0:=h2.symm
  rw [e,show (0:Int).toNat=0 from rfl,dgs_zero];rfl
 ·obtain ⟨t,d,rfl⟩:=snoc_of h0
  have hlen:lenM (t++[d])=(t.length:Int)+1:=by rw [lenI];simp
  have hlen2:(t++[d]).length=t.length+1:=by simp
  have e:IntKind.wrap .i64 (lenM (t++[d])-1)=(t.length:Int):=by rw [hlen,wrap_in (by omega) (by omega)];omega
  have e1:idxM (t++[d]) (t.length:Int)=some d:=by rw [idxM_nat];simp
  have e2:sliceM (t++[d]) 0 (t.length:Int)=some t:=by rw [sliceM_of (by omega) (by omega) (by rw [hlen2];omega)];simp
  rw [e,ltI (show (0:Int)<lenM (t++[d]) by rw [hlen];omega),cond_true,e1,Option.bind_some,andT]
  by_cases hd:d=0
  ·left
   refine ⟨t,by omega,by rw [eqI hd,cond_true,e2];rfl,(okt_app.1 h1).1,?_,by omega⟩
   rw [← h2,vt_snoc,hd];omega
  ·right
   rw [neI hd,cond_false,← h2,dgs_of h1 fun _=>by simpa using hd]
theorem dgs_idx {n i:Nat} (h:i<(dgs n).length):idxM (dgs n) (i:Int)=some ((n / 10 ^ i % 10:Nat):Int):=by
 rw [idxM_lt h,← getD_in _ 0 h,dgs_get]
theorem dgs_len_mono {a b:Nat} (h:a≤b):(dgs a).length≤(dgs b).length:=dgs_len_le (Nat.lt_of_le_of_lt h (dgs_lt b))
theorem div10_succ (n j:Nat):n / 10 ^ (j+1)=n / 10 ^ j / 10:=by rw [Nat.pow_succ,Nat.div_div_eq_div_mul]
def ordN (a b:Nat):Int:=if a<b then -1 else if b<a then 1 else 0
theorem order_ok {a b:Nat} (ha:(dgs a).length≤1000) (hb:(dgs b).length≤1000):m157 (dgs a,dgs b)=some (ordN a b):=by
 unfold m157
 dsimp only
 rw [lenI,lenI]
 by_cases hl:(dgs a).length=(dgs b).length
 ·rw [eqI (by omega),notT,cond_false]
  have hw:IntKind.wrap .i64 (((dgs a).length:Int)-1)=((dgs a).length:Int)-1:=wrap_in (by omega) (by omega)
  rw [hw]
  refine bind_of (x:=if a<b then Sum.inr (-1) else if b<a then Sum.inr 1 else Sum.inl ()) (loopM_is (fun k s=>s=((dgs a).length:Int)-1-k∧k≤(dgs a).length∧a / 10 ^ ((dgs a).length-k)=b / 10 ^ ((dgs a).length-k)) (dgs a).length ⟨by simp,by omega,?_⟩ ?_) ?_
  ·rw [Nat.sub_zero,Nat.div_eq_of_lt (dgs_lt a),hl,Nat.div_eq_of_lt (dgs_lt b)]
  ·rintro k s hk ⟨h1,h2,h3⟩
   by_cases hz:k=(dgs a).length
   ·right
    rw [hz,Nat.sub_self,Nat.pow_zero,Nat.div_one,Nat.div_one] at h3
    rw [gtI (by omega),cond_false,h3,if_neg (by omega)]
    rw [if_neg (by omega)]
   ·obtain ⟨i,hi⟩:∃ i,(dgs a).length-k=i+1:=⟨(dgs a).length-k-1,by omega⟩
    have hs:s=(i:Int):=by omega
    rw [hi,div10_succ,div10_succ] at h3
    subst hs
    rw [leI (by omega),cond_true,dgs_idx (by omega),Option.bind_some,dgs_idx (by omega),Option.bind_some]
    by_cases hd:a / 10 ^ i % 10=b / 10 ^ i % 10
    ·left
     refine ⟨(i:Int)-1,by omega,by rw [eqI (by omega),notT,cond_false,wrap_in (by omega) (by omega)],by omega,by omega,?_⟩
     rw [show (dgs a).length-(k+1)=i by omega];omega
    ·right
     rw [neI (by omega),notF,cond_true,Option.bind_some,Option.bind_some]
     have mono:∀ {x y:Nat},x≤y→x / 10 ^ i≤y / 10 ^ i:=fun h=>Nat.div_le_div_right h
     by_cases c:a / 10 ^ i % 10<b / 10 ^ i % 10
     ·rw [ltI (by omega),cond_true,if_pos]
      refine Nat.lt_of_not_le fun q=>?_
      have:=mono q;omega
     ·rw [geI (by omega),cond_false]
      have:b<a:=Nat.lt_of_not_le fun q=>by have:=mono q;omega
      rw [if_neg (by omega),if_pos this]
  ·unfold ordN
   split
   ·rfl
   ·split<;>rfl
 ·rw [neI (by omega),notF,cond_true]
  unfold ordN
  by_cases c:(dgs a).length<(dgs b).length
  ·rw [ltI (by omega),cond_true,if_pos]
   refine Nat.lt_of_not_le fun q=>?_
   have:=dgs_len_mono q;omega
  ·rw [geI (by omega),cond_false]
   have:b<a:=Nat.lt_of_not_le fun q=>by have:=dgs_len_mono q;omega
   rw [if_neg (by omega),if_pos this]
theorem dec_dgs (n:Nat) (h:n≠0):decDigits n=((dgs n).map fun d=>UInt8.ofNat (48+d.toNat)).reverse:=by
 induction n using Nat.strongRecOn with
 | _ n ih =>
  rw [dgs_pos h]
  by_cases h2:10≤n
  ·rw [dec_step h2,ih (n / 10) (by omega) (by omega)];simp;congr 1
  ·rw [decDigits_one (by omega),show n / 10=0 by omega,dgs_zero,Nat.mod_eq_of_lt (show n<10 by omega)];simp
end Go.Proofs.YtdgabicjcepmeaaGreatDoor
namespace Go.Proofs.YtdgabicjcepmeaaGreatDoor
open Go Go.Lib Go.Abs Go.PE Go.Num
theorem byteM_at {s:List UInt8} {i:Nat} (h:i<s.length):byteM s (i:Int)=some ((s[i]).toNat:Int):=by
 unfold byteM
 rw [decide_eq_true (show (0:Int)≤i by omega)]
 simp [h]
theorem wrap_u8 {n:Int} (h:0≤n) (h2:n≤255):IntKind.wrap IntKind.u8 n=n:=by
 unfold IntKind.wrap
 have b:IntKind.u8.bits=8:=rfl
 have g:IntKind.u8.signed=false:=rfl
 rw [b,g]
 simp
 omega
theorem dec_len_dgs {n:Nat} (h:n≠0):(decDigits n).length=(dgs n).length:=by rw [dec_dgs n h];simp
theorem dec_at {n k:Nat} (h:n≠0) (hk:k<(dgs n).length):byteM (decDigits n) (((dgs n).length-1-k:Nat):Int)=some (48+((n / 10 ^ k % 10:Nat):Int)):=by
 rw [byteM_at (by rw [dec_len_dgs h];omega)]
 have e:(decDigits n)[(dgs n).length-1-k]'(by rw [dec_len_dgs h];omega)=UInt8.ofNat (48+(n / 10 ^ k % 10)):=by
  have g:(dgs n)[k]=((n / 10 ^ k % 10:Nat):Int):=by rw [← getD_in _ 0 hk,dgs_get]
  simp only [dec_dgs n h,List.getElem_reverse,List.getElem_map,List.length_map]
  have:(dgs n).length-1-((dgs n).length-1-k)=k:=by omega
  simp only [this,g]
  congr 1
 rw [e,dig_toNat (by omega)]
 simp
theorem dec48 {n:Nat} (h:n≠0):decDigits n≠[48]:=fun e=>h (by rw [← dv_dec n,e];rfl)
theorem digits_ok {z:Int} (h:z.natAbs<10 ^ 200):m127 (itoa z)=some (decide (z<0),dgs z.natAbs):=by
 unfold m127
 have hl:(decDigits z.natAbs).length≤200:=dec_len_le (k:=199) h
 have main:(loopM (fun (s:Int×List Int) =>
  bif PE.andM (leM 0 s.1) (PE.notM (eqsM (decDigits z.natAbs) [(48:UInt8)])) then (byteM (decDigits z.natAbs) s.1).bind fun r_1=>(appM (nat_lit 8) s.2 [IntKind.wrap .i64 (IntKind.wrap IntKind.u8 (r_1 -
  48))]).bind fun r=>some (Sum.inl (IntKind.wrap .i64 (s.1-1),r)) else some (Sum.inr s.2)) (IntKind.wrap .i64 (lenM (decDigits z.natAbs)-1),[]))=some (dgs z.natAbs):=by
  by_cases h0:z.natAbs=0
  ·rw [h0,dec_zero,dgs_zero]
   exact loopM_is (fun k s=>k=0∧s=((0:Int),([]:List Int))) 0 ⟨rfl,rfl⟩ fun k s hk ⟨_,hs⟩=>.inr (by rw [hs];rfl)
  ·have hd:=dec_len_dgs h0
   generalize z.natAbs=n at *
   have hw:IntKind.wrap .i64 (lenM (decDigits n)-1)=((dgs n).length:Int)-1:=by rw [lenI,wrap_in (by omega) (by omega),hd]
   rw [hw]
   have key:=loopM_fn (fun k=>(((dgs n).length:Int)-1-(k:Int),(dgs n).take k)) (dgs n).length (r:=dgs n) (body:=fun (s:Int×List Int) =>
    bif PE.andM (leM 0 s.1) (PE.notM (eqsM (decDigits n) [(48:UInt8)])) then (byteM (decDigits n) s.1).bind fun r_1=>(appM (nat_lit 8) s.2 [IntKind.wrap .i64 (IntKind.wrap IntKind.u8 (r_1 -
    48))]).bind fun r=>some (Sum.inl (IntKind.wrap .i64 (s.1-1),r)) else some (Sum.inr s.2)) (fun k hk=>?_) ?_
   ·simpa using key
   ·dsimp only
    rw [leI (by omega),eqsF (dec48 h0),notF,andT,cond_true,show ((dgs n).length:Int)-1-(k:Int)=(((dgs n).length-1-k:Nat):Int) by omega,dec_at h0 hk,Option.bind_some]
    rw [wrap_u8 (by omega) (by omega),wrap_in (by omega) (by omega),appM_of (by simp;omega),Option.bind_some,wrap_in (by omega) (by omega)]
    have e:(dgs n).take (k+1)=(dgs n).take k++[((n / 10 ^ k % 10:Nat):Int)]:=by
     rw [List.take_add_one,List.getElem?_eq_getElem hk,← getD_in _ 0 hk,dgs_get];rfl
    rw [e,show 48+((n / 10 ^ k % 10:Nat):Int)-48=((n / 10 ^ k % 10:Nat):Int) by omega,show (((dgs n).length-1-k:Nat):Int)-1=((dgs n).length:Int)-1-((k+1:Nat):Int) by omega]
   ·dsimp only
    rw [gtI (by omega),andF,cond_false,List.take_length]
 by_cases hz:z<0
 ·have e:itoa z=45::decDigits z.natAbs:=by
   have:=itoa_ng (n:=z.natAbs) (by omega)
   rwa [show -(z.natAbs:Int)=z by omega] at this
  have b:byteM (itoa z) 0=some 45:=by rw [e];rfl
  have s:sliceM (itoa z) 1 (lenM (itoa z))=some (decDigits z.natAbs):=by
   rw [e,sliceM_of (by omega) (by simp;omega) (Int.le_refl _)]
   simp
  dsimp only
  rw [b,Option.bind_some,eqI rfl,cond_true,s,Option.bind_some,Option.bind_some,main,Option.bind_some,decide_eq_true hz]
 ·have e:itoa z=decDigits z.natAbs:=by
   have:=itoa_nn (n:=z.natAbs)
   rwa [show (z.natAbs:Int)=z by omega] at this
  have hp:0<(decDigits z.natAbs).length:=List.length_pos_iff.2 (dec_ne _)
  have b:=byteM_at hp
  have hD:=dec_isD z.natAbs _ (List.getElem_mem hp)
  unfold isD at hD
  dsimp only
  rw [e,show (0:Int)=((0:Nat):Int) from rfl,b,Option.bind_some,neI (by omega),cond_false,Option.bind_some]
  rw [show ((0:Nat):Int)=0 from rfl,main,Option.bind_some,decide_eq_false hz]
end Go.Proofs.YtdgabicjcepmeaaGreatDoor
namespace Go.Proofs.YtdgabicjcepmeaaGreatDoor
open Go Go.Lib Go.Abs Go.PE Go.Num
theorem dgs_200 {n:Nat}:leM (lenM (dgs n)) 200=decide (n<10 ^ 200):=by
 rw [lenI]
 by_cases h:n<10 ^ 200
 ·rw [decide_eq_true h];exact leI (by have:=dgs_len_le h;omega)
 ·rw [decide_eq_false h];exact gtI (by have:=dgs_len_gt (show 10 ^ 200≤n by omega);omega)
def sg (ng:Bool) (n:Nat):Int:=if ng then -(n:Int) else n
theorem rtext_ok {ng:Bool} {n:Nat} (hl:(dgs n).length≤1000):m126 (ng,dgs n)=some (itoa (sg ng n),decide (n<10 ^ 200)):=by
 unfold m126
 dsimp only
 by_cases h0:n=0
 ·subst h0
  have e:sg ng 0=0:=by cases ng<;>rfl
  rw [dgs_zero,e,itoa_zero];rfl
 ·have hL:(dgs n).length≠0:=fun e=>h0 (dgs_nil.1 (List.length_eq_zero_iff.1 e))
  rw [neI (by rw [lenI];omega),cond_false]
  have hw:IntKind.wrap .i64 (lenM (dgs n)-1)=((dgs n).length:Int)-1:=by rw [lenI,wrap_in (by omega) (by omega)]
  obtain ⟨o,ho⟩:∃ o:List Int,o=if ng then [45] else []:=⟨_,rfl⟩
  have h1:(bif ng then (appM (nat_lit 1) [] [45]).bind fun r=>some r else some ([]:List Int))=some o:=by rw [ho];cases ng<;>rfl
  have hol:o.length≤1:=by rw [ho];split<;>simp
  rw [h1,Option.bind_some,hw]
  have main:(loopM (fun (s:Int×List Int)=>bif leM 0 s.1 then (idxM (dgs n) s.1).bind fun r=>(appM (nat_lit 1) s.2 [IntKind.wrap IntKind.u8 (IntKind.wrap .i64 (48+r))]).bind
    fun r=>some (Sum.inl (IntKind.wrap .i64 (s.1-1),r)) else some (Sum.inr s.2)) (((dgs n).length:Int)-1,o))=some (o++(dgs n).reverse.map (48+·)):=by
   have key:=loopM_fn (fun k=>(((dgs n).length:Int)-1-(k:Int),o++((dgs n).reverse.map (48+·)).take k)) (dgs n).length (r:=o++(dgs n).reverse.map (48+·)) (body:=fun (s:Int×List Int)=>bif leM 0 s.1 then (idxM (dgs n) s.1).bind fun r=>(appM (nat_lit 1) s.2 [IntKind.wrap IntKind.u8 (IntKind.wrap .i64 (48+r))]).bind
    fun r=>some (Sum.inl (IntKind.wrap .i64 (s.1-1),r)) else some (Sum.inr s.2)) (fun k hk=>?_) ?_
   ·simpa using key
   ·dsimp only
    have hd:n / 10 ^ ((dgs n).length-1-k) % 10<10:=Nat.mod_lt _ (by omega)
    have hk2:k<((dgs n).reverse.map (48+·)).length:=by simpa using hk
    have hi:(dgs n).length-1-k<(dgs n).length:=by omega
    rw [leI (by omega),cond_true,show ((dgs n).length:Int)-1-(k:Int)=(((dgs n).length-1-k:Nat):Int) by omega,dgs_idx hi,Option.bind_some]
    rw [wrap_in (n:=48+_) (by omega) (by omega),wrap_u8 (by omega) (by omega),appM_of (by simp;omega),Option.bind_some,wrap_in (by omega) (by omega)]
    have e:((dgs n).reverse.map (48+·)).take (k+1)=((dgs n).reverse.map (48+·)).take k++[48+((n / 10 ^ ((dgs n).length-1-k) % 10:Nat):Int)]:=by
     rw [List.take_add_one,List.getElem?_eq_getElem hk2]
     have g:(dgs n)[(dgs n).length-1-k]=((n / 10 ^ ((dgs n).length-1-k) % 10:Nat):Int):=by rw [← getD_in _ 0 hi,dgs_get]
     simp only [List.getElem_map,List.getElem_reverse,g];rfl
    rw [e,List.append_assoc,show (((dgs n).length-1-k:Nat):Int)-1=((dgs n).length:Int)-1-((k+1:Nat):Int) by omega]
   ·dsimp only
    rw [gtI (by omega),cond_false,List.take_of_length_le (by simp)]
  rw [main,Option.bind_some,dgs_200]
  have e:strB (o++(dgs n).reverse.map (48+·))=itoa (sg ng n):=by
   have e1:((dgs n).reverse.map (48+·)).map (fun d=>UInt8.ofNat d.toNat)=decDigits n:=by
    rw [dec_dgs n h0,← List.map_reverse,List.map_map]
    refine List.map_congr_left fun d hd=>?_
    have:=dgs_okd n d (List.mem_reverse.1 hd)
    dsimp only [Function.comp]
    congr 1
    omega
   unfold strB
   rw [List.map_append,e1,ho]
   cases ng
   ·show decDigits n=itoa (n:Int);rw [itoa_nn]
   ·show 45::decDigits n=itoa (-(n:Int));rw [itoa_ng h0]
  rw [e]
theorem rchecked_ok {ng:Bool} {n:Nat} (hl:(dgs n).length≤1000):m128 (ng,dgs n)=some (if n<10 ^ 200 then (itoa (sg ng n),0) else ([],30)):=by
 unfold m128
 dsimp only
 rw [rtext_ok hl,Option.bind_some]
 by_cases h:n<10 ^ 200
 ·rw [if_pos h,decide_eq_true h,notT,cond_false]
 ·rw [if_neg h,decide_eq_false h,notF,cond_true]
end Go.Proofs.YtdgabicjcepmeaaGreatDoor
namespace Go.Num
open Go Go.Lib Go.PE
theorem vt_set:∀ {l:List Int} {i:Nat} (h:i<l.length) (d:Int),vt (l.set i d)=vt l+10 ^ i*(d-l.getD i 0)
 | e::l,0,_,d=>by simp [vt];omega
 | e::l,i+1,h,d=>by
  have ih:=vt_set (l:=l) (i:=i) (by simpa using h) d
  simp only [List.set_cons_succ,vt,ih,List.getD_cons_succ,Int.pow_succ]
  grind
theorem okt_set {l:List Int} {i:Nat} {d:Int} (h:okt l) (hd:0≤d∧d≤9):okt (l.set i d):=fun e he=>(List.mem_or_eq_of_mem_set he).elim (h e) (fun q=>q▸hd)
theorem okt_snoc {l:List Int} {d:Int} (h:okt l) (hd:0≤d∧d≤9):okt (l++[d]):=okt_app.2 ⟨h,okt_cons.2 ⟨hd,okt_nil⟩⟩
theorem okt_rep (n:Nat):okt (List.replicate n 0):=fun d h=>by rw [List.eq_of_mem_replicate h];omega
theorem vt_rep:∀ n,vt (List.replicate n 0)=0
 | 0=>rfl
 | n+1=>by rw [List.replicate_succ,vt,vt_rep n];rfl
theorem ndiv10 (n k:Nat):n / 10 ^ (k+1)=n / 10 ^ k / 10:=by rw [Nat.pow_succ,Nat.div_div_eq_div_mul]
theorem nmod10 (n k:Nat):n % 10 ^ (k+1)=n % 10 ^ k+10 ^ k*(n / 10 ^ k % 10):=Nat.mod_pow_succ
theorem add_div_pow (a b k:Nat):(a+b) / 10 ^ k=a / 10 ^ k+b / 10 ^ k+(a % 10 ^ k+b % 10 ^ k) / 10 ^ k:=by
 have hp:0<10 ^ k:=Nat.pow_pos (by omega)
 rw [Nat.add_div hp]
 have h1:=Nat.mod_lt a hp
 have h2:=Nat.mod_lt b hp
 split
 ·rename_i h
  have:(a % 10 ^ k+b % 10 ^ k) / 10 ^ k=1:=Nat.div_eq_of_lt_le (by omega) (by omega)
  omega
 ·rename_i h
  rw [Nat.div_eq_of_lt (show a % 10 ^ k+b % 10 ^ k<10 ^ k by omega)]
theorem plus_step (a b k:Nat):((a % 10 ^ k+b % 10 ^ k) / 10 ^ k+a / 10 ^ k % 10+b / 10 ^ k % 10) % 10=(a+b) / 10 ^ k % 10∧((a % 10 ^ k+b % 10 ^ k) / 10 ^ k+a / 10 ^ k % 10+b / 10 ^ k % 10) / 10=(a % 10 ^ (k+1)+b % 10 ^ (k+1)) / 10 ^ (k+1):=by
 have hp:0<10 ^ k:=Nat.pow_pos (by omega)
 constructor
 ·rw [add_div_pow a b k]
  generalize (a % 10 ^ k+b % 10 ^ k) / 10 ^ k=c
  generalize a / 10 ^ k=x
  generalize b / 10 ^ k=y
  omega
 ·rw [ndiv10,nmod10 a k,nmod10 b k]
  congr 1
  rw [show a % 10 ^ k+10 ^ k*(a / 10 ^ k % 10)+(b % 10 ^ k+10 ^ k*(b / 10 ^ k % 10))=a % 10 ^ k+b % 10 ^ k+10 ^ k*(a / 10 ^ k % 10+b / 10 ^ k % 10) by grind,Nat.add_mul_div_left _ _ hp]
  omega
theorem carry_le (a b k:Nat):(a % 10 ^ k+b % 10 ^ k) / 10 ^ k≤1:=by
 have hp:0<10 ^ k:=Nat.pow_pos (by omega)
 have h1:=Nat.mod_lt a hp
 have h2:=Nat.mod_lt b hp
 have:(a % 10 ^ k+b % 10 ^ k) / 10 ^ k<2:=Nat.div_lt_of_lt_mul (by omega)
 omega
theorem plus_end (a b k:Nat):(k<(dgs a).length∨k<(dgs b).length∨0<(a % 10 ^ k+b % 10 ^ k) / 10 ^ k)↔k<(dgs (a+b)).length:=by
 have hp:0<10 ^ k:=Nat.pow_pos (by omega)
 have key:∀ n,k<(dgs n).length↔10 ^ k≤n:=fun n=>⟨fun h=>Nat.le_of_not_lt fun q=>by have:=dgs_len_le q;omega,dgs_len_gt⟩
 rw [key,key,key]
 have e:=add_div_pow a b k
 constructor
 ·rintro (h | h | h)
  ·omega
  ·omega
  ·refine Nat.le_of_not_lt fun q=>?_
   rw [Nat.div_eq_of_lt q] at e
   generalize (a % 10 ^ k+b % 10 ^ k) / 10 ^ k=c at *
   generalize a / 10 ^ k=x at *
   generalize b / 10 ^ k=y at *
   omega
 ·intro h
  by_cases h1:10 ^ k≤a
  ·exact .inl h1
  ·by_cases h2:10 ^ k≤b
   ·exact .inr (.inl h2)
   ·right;right
    rw [Nat.mod_eq_of_lt (by omega),Nat.mod_eq_of_lt (by omega)]
    exact Nat.div_pos h hp
theorem dgs_take {n k:Nat} (h:k<(dgs n).length):(dgs n).take (k+1)=(dgs n).take k++[((n / 10 ^ k % 10:Nat):Int)]:=by
 rw [List.take_add_one,List.getElem?_eq_getElem h,← getD_in _ 0 h,dgs_get];rfl
theorem tdig (n k:Nat):((n % 10 ^ (k+1):Nat):Int)=((n % 10 ^ k:Nat):Int)+10 ^ k*((n / 10 ^ k % 10:Nat):Int):=by
 rw [nmod10,Int.natCast_add,Int.natCast_mul,Int.natCast_pow];rfl
theorem div_cons (A b d:Nat):(10*A+d) / b=10*(A / b)+(10*(A % b)+d) / b∧(10*A+d) % b=(10*(A % b)+d) % b:=by
 by_cases hb:b=0
 ·subst hb;simp
 ·have e:10*A+d=b*(10*(A / b))+(10*(A % b)+d):=by
   have:=Nat.div_add_mod A b
   have h2:b*(10*(A / b))=10*(b*(A / b)):=by grind
   omega
  exact ⟨by rw [e,Nat.mul_add_div (by omega)],by rw [e,Nat.mul_add_mod]⟩
theorem quo_le {A b d:Nat} (hb:0<b) (hd:d≤9):(10*(A % b)+d) / b≤9:=by
 have:=Nat.mod_lt A hb
 have:(10*(A % b)+d) / b<10:=Nat.div_lt_of_lt_mul (by omega)
 omega
theorem set_mid (i:Nat) (t u:Int) (D:List Int):(List.replicate i 0++t::D).set i u=List.replicate i 0++u::D:=by
 rw [List.set_append_right _ _ (by simp)];simp
theorem rep_snoc (i:Nat) (D:List Int):List.replicate (i+1) (0:Int)++D=List.replicate i 0++0::D:=by
 rw [List.replicate_succ',List.append_assoc];rfl
theorem mul_step {v c u p q x:Int} (h:v+c*p=q) (n:Int) (hn:n=u+c+x):v+p*(n % 10-u)+n / 10*(p*10)=q+p*x:=by
 have e:n / 10*(p*10)=p*(10*(n / 10)):=by grind
 have e2:p*(n % 10-u)+p*(10*(n / 10))=p*(n-u):=by
  rw [← Int.mul_add];congr 1;omega
 rw [e]
 have e3:p*(n-u)=c*p+p*x:=by rw [hn];grind
 omega
end Go.Num
namespace Go.Proofs.YtdgabicjcepmeaaGreatDoor
open Go Go.Lib Go.Abs Go.PE Go.Num
theorem dig_opt {a k:Nat} {v:Int} (hv:0≤v∧v≤100):(bif ltM (k:Int) (lenM (dgs a)) then (idxM (dgs a) (k:Int)).bind fun r=>some (IntKind.wrap .i64 (v+r)) else some v)=some (v+((a / 10 ^ k % 10:Nat):Int)):=by
 by_cases h:k<(dgs a).length
 ·have:=Nat.mod_lt (a / 10 ^ k) (show 10 > 0 by omega)
  rw [ltI (by rw [lenI];omega),cond_true,dgs_idx h,Option.bind_some,wrap_in (by omega) (by omega)]
 ·have h2:a<10 ^ k:=Nat.lt_of_not_le fun q=>h (dgs_len_gt q)
  rw [geI (by rw [lenI];omega),cond_false,Nat.div_eq_of_lt h2];simp
theorem dgs_add {a b k:Nat} (ha:(dgs a).length≤k) (hb:(dgs b).length≤k):(dgs (a+b)).length≤k+1:=dgs_len_le (by
 have h1:=Nat.lt_of_lt_of_le (dgs_lt a) (Nat.pow_le_pow_right (show 0<10 by omega) ha)
 have h2:=Nat.lt_of_lt_of_le (dgs_lt b) (Nat.pow_le_pow_right (show 0<10 by omega) hb)
 rw [Nat.pow_succ];omega)
theorem dgs_ten {n b k:Nat} (h:n<10*b) (hb:(dgs b).length≤k):(dgs n).length≤k+1:=dgs_len_le (by
 have h1:=Nat.lt_of_lt_of_le (dgs_lt b) (Nat.pow_le_pow_right (show 0<10 by omega) hb)
 rw [Nat.pow_succ];omega)
theorem rplus_ok {a b:Nat} (ha:(dgs a).length≤1000) (hb:(dgs b).length≤1000):m159 (dgs a,dgs b)=some (dgs (a+b)):=by
 have hab:(dgs (a+b)).length≤1001:=dgs_add ha hb
 unfold m159
 dsimp only
 refine bind_of (x:=dgs (a+b)) ?_ rfl
 have key:=loopM_fn (fun k=>((((a % 10 ^ k+b % 10 ^ k) / 10 ^ k:Nat):Int),(k:Int),(dgs (a+b)).take k)) (dgs (a+b)).length (r:=dgs (a+b)) (body:=fun (s:Int×Int×List Int)=>bif PE.orM (PE.orM (ltM s.2.1 (lenM (dgs a))) (ltM s.2.1 (lenM (dgs b)))) (ltM 0 s.1) then (bif ltM s.2.1 (lenM (dgs a))
 then (idxM (dgs a) s.2.1).bind fun r=>some (IntKind.wrap .i64 (s.1+r)) else some s.1).bind fun o=>(bif ltM s.2.1 (lenM (dgs b)) then (idxM (dgs b) s.2.1).bind fun r
 => some (IntKind.wrap .i64 (o+r)) else some o).bind fun o_1=>(remM o_1 10).bind fun r=>(appM (nat_lit 8) s.2.2 [r]).bind fun r_1=>(divM .i64 o_1
 10).bind fun r=>some (Sum.inl (r,IntKind.wrap .i64 (s.2.1+1),r_1)) else some (Sum.inr s.2.2)) (fun k hk=>?_) ?_
 ·simp only [Nat.pow_zero,Nat.mod_one,Nat.zero_div,Nat.add_zero,List.take_zero] at key
  exact key
 ·have hc:=carry_le a b k
  have e:=plus_step a b k
  have ea:=Nat.mod_lt (a / 10 ^ k) (show 10 > 0 by omega)
  have eb:=Nat.mod_lt (b / 10 ^ k) (show 10 > 0 by omega)
  have hg:PE.orM (PE.orM (ltM (k:Int) (lenM (dgs a))) (ltM (k:Int) (lenM (dgs b)))) (ltM 0 (((a % 10 ^ k+b % 10 ^ k) / 10 ^ k:Nat):Int))=true:=by
   rcases (plus_end a b k).2 hk with h | h | h
   ·rw [ltI (by rw [lenI];omega)];rfl
   ·rw [ltI (a:=(k:Int)) (b:=lenM (dgs b)) (by rw [lenI];omega)];cases ltM (k:Int) (lenM (dgs a))<;>rfl
   ·rw [ltI (a:=0) (by omega)];cases PE.orM (ltM (k:Int) (lenM (dgs a))) (ltM (k:Int) (lenM (dgs b)))<;>rfl
  have e1:=e.1
  have e2:=e.2
  dsimp only
  rw [hg,cond_true]
  clear hg e
  generalize (a % 10 ^ k+b % 10 ^ k) / 10 ^ k=c at *
  rw [dig_opt (by omega),Option.bind_some]
  have hx:((a / 10 ^ k % 10:Nat):Int)≤9∧0≤((a / 10 ^ k % 10:Nat):Int):=⟨by omega,Int.natCast_nonneg _⟩
  rw [dig_opt (by omega),Option.bind_some,dgs_take hk,← e1,← e2]
  clear e1 e2 hx
  generalize a / 10 ^ k % 10=x at *
  generalize b / 10 ^ k % 10=y at *
  have er:(c:Int)+(x:Int)+(y:Int)=((c+x+y:Nat):Int):=by omega
  rw [er,remM_of (by omega) (by omega),Option.bind_some,appM_of (by rw [List.length_take,List.length_singleton];omega),Option.bind_some,divM_pos (by omega),Option.bind_some,Int.tdiv_eq_ediv_of_nonneg (by omega),wrap_in (by omega) (by omega),wrap_in (by omega) (by omega)]
  rfl
 ·have hn:¬ ((dgs (a+b)).length<(dgs a).length∨(dgs (a+b)).length<(dgs b).length∨0<(a % 10 ^ (dgs (a+b)).length+b % 10 ^ (dgs (a+b)).length) / 10 ^ (dgs (a+b)).length):=fun h=>by
   have:=(plus_end a b _).1 h
   omega
  dsimp only
  rw [geI (by rw [lenI];omega),geI (a:=((dgs (a+b)).length:Int)) (by rw [lenI];omega),geI (a:=0) (by omega),show PE.orM (PE.orM false false) false=false from rfl,cond_false,List.take_length]
theorem rminus_ok {a b:Nat} (ha:(dgs a).length≤1000) (hb:b≤a):m160 (dgs a,dgs b)=some (dgs (a-b)):=by
 unfold m160
 dsimp only
 have hfin:∀ out:List Int,okt out→vt out=(a:Int)-b→out.length=(dgs a).length→(m161 out).bind (fun r=>some r)=some (dgs (a-b)):=fun out h1 h2 h3=>by
  rw [rtrim_ok h1 (by omega),h2]
  show some (dgs ((a:Int)-b).toNat)=_
  congr 2;omega
 refine Ans.is (Ans.bind (P:=fun out=>okt out∧vt out=(a:Int)-b∧out.length=(dgs a).length) (Ans.loop (fun k s=>s.2.1=(k:Int)∧(s.1=0∨s.1=1)∧okt s.2.2∧s.2.2.length=k∧vt s.2.2-s.1*10 ^ k=((a % 10 ^ k:Nat):Int)-((b % 10 ^ k:Nat):Int)) (dgs a).length ⟨rfl,.inl rfl,okt_nil,rfl,by simp [vt,Nat.mod_one]⟩ ?_) ?_)
 ·rintro k ⟨c,i,out⟩ hk ⟨h1,h2,h3,h4,h5⟩
  dsimp only at h1 h2 h3 h4 h5
  subst h1
  dsimp only
  by_cases hz:k<(dgs a).length
  ·have ea:=Nat.mod_lt (a / 10 ^ k) (show 10 > 0 by omega)
   have eb:=Nat.mod_lt (b / 10 ^ k) (show 10 > 0 by omega)
   obtain ⟨n,hn⟩:∃ n:Int,n=((a / 10 ^ k % 10:Nat):Int)-c-((b / 10 ^ k % 10:Nat):Int):=⟨_,rfl⟩
   have hopt:(bif ltM (k:Int) (lenM (dgs b)) then (idxM (dgs b) (k:Int)).bind fun r_1=>some (IntKind.wrap .i64 (IntKind.wrap .i64 (((a / 10 ^ k % 10:Nat):Int)-c)-r_1)) else some (IntKind.wrap .i64 (((a / 10 ^ k % 10:Nat):Int)-c)))=some n:=by
    rw [wrap_in (n:=((a / 10 ^ k % 10:Nat):Int)-c) (by omega) (by omega)]
    by_cases h:k<(dgs b).length
    ·rw [ltI (by rw [lenI];omega),cond_true,dgs_idx h,Option.bind_some,wrap_in (by omega) (by omega),hn]
    ·have h2:b<10 ^ k:=Nat.lt_of_not_le fun q=>h (dgs_len_gt q)
     rw [geI (by rw [lenI];omega),cond_false,hn,Nat.div_eq_of_lt h2];simp
   obtain ⟨d,hd⟩:∃ d:Int,d=if n<0 then n+10 else n:=⟨_,rfl⟩
   obtain ⟨c',hc'⟩:∃ c':Int,c'=if n<0 then 1 else 0:=⟨_,rfl⟩
   have hs:(bif ltM n 0 then some ((1:Int),IntKind.wrap .i64 (n+10)) else some (0,n))=some (c',d):=by
    by_cases h:n<0
    ·rw [ltI h,cond_true,wrap_in (by omega) (by omega),hd,hc',if_pos h,if_pos h]
    ·rw [geI (by omega),cond_false,hd,hc',if_neg h,if_neg h]
   have hdc:d=n+10*c':=by rw [hd,hc'];split<;>omega
   have hd9:0≤d∧d≤9:=by rw [hd];split<;>omega
   have hc01:c'=0∨c'=1:=by rw [hc'];split<;>omega
   refine Ans.of (r:=.inl (c',(k:Int)+1,out++[d])) ?_ ?_
   ·rw [ltI (by rw [lenI];omega),cond_true,dgs_idx hz,Option.bind_some,hopt,Option.bind_some,hs,Option.bind_some,appM_of (by simp;omega),Option.bind_some,wrap_in (by omega) (by omega)]
   ·refine show k<(dgs a).length∧(k:Int)+1=((k+1:Nat):Int)∧(c'=0∨c'=1)∧okt (out++[d])∧(out++[d]).length=k+1∧vt (out++[d])-c'*10 ^ (k+1)=((a % 10 ^ (k+1):Nat):Int)-((b % 10 ^ (k+1):Nat):Int) from ⟨hz,by omega,hc01,okt_snoc h3 hd9,by simp [h4],?_⟩
    rw [vt_snoc,h4,hdc,hn,tdig,tdig,Int.pow_succ]
    generalize (10:Int) ^ k=p at *
    grind
  ·have hk':k=(dgs a).length:=by omega
   refine Ans.of (r:=.inr out) (by rw [geI (by rw [lenI];omega),cond_false]) ?_
   have la:=dgs_lt a
   rw [← hk'] at la
   have hv:=vt_nn h3
   have hv2:=vt_lt h3
   rw [h4] at hv2
   rw [Nat.mod_eq_of_lt la,Nat.mod_eq_of_lt (by omega)] at h5
   refine show okt out∧vt out=(a:Int)-b∧out.length=(dgs a).length from ⟨h3,?_,by omega⟩
   have hp:=pow_post k
   rcases h2 with h | h
   ·rw [h] at h5;omega
   ·rw [h] at h5;omega
 ·rintro out ⟨h1,h2,h3⟩
  exact .of (hfin out h1 h2 h3) rfl
end Go.Proofs.YtdgabicjcepmeaaGreatDoor
namespace Go.Proofs.YtdgabicjcepmeaaGreatDoor
open Go Go.Lib Go.Abs Go.PE Go.Num
open Go.IntKind (wrap)
theorem dgs_mul {a b:Nat}:(dgs (a*b)).length≤(dgs a).length+(dgs b).length:=dgs_len_le (by rw [Nat.pow_add];exact Nat.mul_lt_mul'' (dgs_lt a) (dgs_lt b))
theorem rtimes_ok {a b:Nat} (ha:(dgs a).length≤500) (hb:(dgs b).length≤500):m129 (dgs a,dgs b)=some (dgs (a*b)):=by
 obtain ⟨la,hla⟩:∃ la,la=(dgs a).length:=⟨_,rfl⟩
 obtain ⟨lb,hlb⟩:∃ lb,lb=(dgs b).length:=⟨_,rfl⟩
 have hma:=dgs_lt a
 have hmb:=dgs_lt b
 rw [← hla] at hma
 rw [← hlb] at hmb
 have hab:(a:Int)*b<10 ^ (la+lb):=by
  have h:a*b<10 ^ (la+lb):=by rw [Nat.pow_add];exact Nat.mul_lt_mul'' hma hmb
  have h2:((a*b:Nat):Int)<((10 ^ (la+lb):Nat):Int):=by omega
  rw [Int.natCast_mul,Int.natCast_pow] at h2
  exact h2
 unfold m129
 dsimp only
 rw [lenI,lenI,← hla,← hlb,wrap_in (n:=(la:Int)+lb) (by omega) (by omega),mkM_of (by omega) (by omega) (by show ((la:Int)+lb)*8≤_;omega),Option.bind_some,show ((la:Int)+lb).toNat=la+lb by omega]
 refine Ans.is (Ans.bind (P:=fun out=>okt out∧vt out=(a:Int)*b∧out.length=la+lb) (Ans.loop (fun k s=>s.1=(k:Int)∧okt s.2∧s.2.length=la+lb∧vt s.2=((a % 10 ^ k:Nat):Int)*b) la ⟨rfl,okt_rep _,List.length_replicate,by rw [vt_rep,Nat.pow_zero,Nat.mod_one];simp⟩ ?_) ?_)
 ·rintro i ⟨ii,out⟩ hi ⟨h1,h2,h3,h4⟩
  dsimp only at h1 h2 h3 h4
  subst h1
  dsimp only
  by_cases hz:i<la
  ·have ea:=Nat.mod_lt (a / 10 ^ i) (show 10 > 0 by omega)
   have eidx:idxM (dgs a) (i:Int)=some ((a / 10 ^ i % 10:Nat):Int):=dgs_idx (by omega)
   have htd:=tdig a i
   rw [ltI (by omega),cond_true,eidx]
   obtain ⟨d,hd⟩:∃ d:Int,d=((a / 10 ^ i % 10:Nat):Int):=⟨_,rfl⟩
   rw [← hd] at htd ⊢
   have hd9:0≤d∧d≤9:=by omega
   have hpi:=pow_post i
   -- what the digits added so far come to
   have htop:∀ k:Nat,((a % 10 ^ i:Nat):Int)*b+10 ^ i*(d*((b % 10 ^ k:Nat):Int))≤(a:Int)*b:=fun k=>by
    have q1:((b % 10 ^ k:Nat):Int)≤b:=by have:=Nat.mod_le b (10 ^ k);omega
    have q2:d*((b % 10 ^ k:Nat):Int)≤d*b:=Int.mul_le_mul_of_nonneg_left q1 hd9.1
    have q3:(10:Int) ^ i*(d*((b % 10 ^ k:Nat):Int))≤10 ^ i*(d*b):=Int.mul_le_mul_of_nonneg_left q2 (by omega)
    have q4:((a % 10 ^ (i+1):Nat):Int)≤a:=by have:=Nat.mod_le a (10 ^ (i+1));omega
    have q5:((a % 10 ^ (i+1):Nat):Int)*b≤(a:Int)*b:=Int.mul_le_mul_of_nonneg_right q4 (by omega)
    rw [htd,Int.add_mul,Int.mul_assoc] at q5
    omega
   refine Ans.bind (P:=fun out=>okt out∧out.length=la+lb∧vt out=((a % 10 ^ (i+1):Nat):Int)*b) (Ans.loop (fun k s=>s.2.1=(k:Int)∧0≤s.1∧s.1≤9∧okt s.2.2∧s.2.2.length=la+lb∧vt s.2.2+s.1*10 ^ (i+k)=((a % 10 ^ i:Nat):Int)*b+10 ^ i*(d*((b % 10 ^ k:Nat):Int))) (la+lb) ⟨rfl,by show (0:Int)≤0;omega,by show (0:Int)≤9;omega,h2,h3,by rw [h4,Nat.pow_zero,Nat.mod_one];simp⟩ ?_) ?_
   ·rintro k ⟨c,kk,o⟩ hk ⟨g1,g2,g3,g4,g5,g6⟩
    dsimp only at g1 g2 g3 g4 g5 g6
    subst g1
    dsimp only
    have hpk:=pow_post (i+k)
    by_cases hg:k<lb∨0<c
    ·-- there is room
     have hroom:i+k<la+lb:=by
      rcases hg with h | h
      ·omega
      ·refine Nat.lt_of_not_le fun q=>?_
       have e1:(10:Int) ^ (la+lb)≤10 ^ (i+k):=by
        have:10 ^ (la+lb)≤10 ^ (i+k):=Nat.pow_le_pow_right (by omega) q
        have h2:((10 ^ (la+lb):Nat):Int)≤((10 ^ (i+k):Nat):Int):=by omega
        rwa [Int.natCast_pow,Int.natCast_pow] at h2
       have e2:(1:Int)*10 ^ (i+k)≤c*10 ^ (i+k):=Int.mul_le_mul_of_nonneg_right (by omega) (by omega)
       have e3:=htop k
       have e4:=vt_nn g4
       omega
     have hgt:PE.orM (ltM (k:Int) (lb:Int)) (ltM 0 c)=true:=by
      rcases hg with h | h
      ·rw [ltI (by omega)];rfl
      ·rw [ltI h];cases ltM (k:Int) (lb:Int)<;>rfl
     have hw:wrap .i64 ((i:Int)+(k:Int))=((i+k:Nat):Int):=by rw [wrap_in (by omega) (by omega)];omega
     obtain ⟨u,hu⟩:∃ u,u=o.getD (i+k) 0:=⟨_,rfl⟩
     have hu9:=okt_get g4 (i+k)
     rw [← hu] at hu9
     have hidx:idxM o ((i+k:Nat):Int)=some u:=by rw [idxM_lt (by omega),hu,getD_in _ _ (by omega)]
     have hck:chkM ((i+k:Nat):Int) (lenM o)=some ():=chkM_of (by omega) (by rw [lenI];omega)
     have eb:=Nat.mod_lt (b / 10 ^ k) (show 10 > 0 by omega)
     obtain ⟨y,hy⟩:∃ y:Int,y=((b / 10 ^ k % 10:Nat):Int):=⟨_,rfl⟩
     have hy9:0≤y∧y≤9:=by omega
     have hdy:0≤d*y∧d*y≤81:=by
      have h1:=Int.mul_nonneg hd9.1 hy9.1
      have h2:=Int.mul_le_mul hd9.2 hy9.2 hy9.1 (show (0:Int)≤9 by omega)
      omega
     have hn:(bif ltM (k:Int) (lb:Int) then (some d).bind fun r_3=>(idxM (dgs b) (k:Int)).bind fun r=>some (wrap .i64 (wrap .i64 (u+c)+wrap .i64 (r_3*r))) else some (wrap .i64 (u+c)))=some (u+c+d*y):=by
      by_cases h:k<lb
      ·rw [ltI (by omega),cond_true,Option.bind_some,dgs_idx (by omega),Option.bind_some,← hy,wrap_in (n:=u+c) (by omega) (by omega),wrap_in (n:=d*y) (by omega) (by omega),wrap_in (by omega) (by omega)]
      ·have h2:b<10 ^ k:=Nat.lt_of_lt_of_le hmb (Nat.pow_le_pow_right (by omega) (by omega))
       rw [geI (by omega),cond_false,wrap_in (by omega) (by omega),hy,Nat.div_eq_of_lt h2];simp
     have hset:setM o ((i+k:Nat):Int) (fun (x:Int)=>some ((u+c+d*y) % 10))=some (o.set (i+k) ((u+c+d*y) % 10)):=by
      rw [setM_of (y:=(u+c+d*y) % 10) (by omega) (by omega) rfl];rfl
     refine Ans.of (r:=.inl ((u+c+d*y) / 10,(k:Int)+1,o.set (i+k) ((u+c+d*y) % 10))) ?_ ?_
     ·rw [hgt,cond_true,hw,hck,Option.bind_some,hidx,Option.bind_some]
      refine bind_of hn ?_
      rw [remM_of (by omega) (by omega),Option.bind_some]
      rw [Option.bind_some]
      refine bind_of hset ?_
      rw [divM_pos (by omega),Option.bind_some,Int.tdiv_eq_ediv_of_nonneg (by omega),wrap_in (by omega) (by omega),wrap_in (by omega) (by omega)]
     ·refine show k<la+lb∧(k:Int)+1=((k+1:Nat):Int)∧0≤(u+c+d*y) / 10∧(u+c+d*y) / 10≤9∧okt (o.set (i+k) ((u+c+d*y) % 10))∧(o.set (i+k) ((u+c+d*y) % 10)).length=la+lb∧vt (o.set (i+k) ((u+c+d*y) % 10))+(u+c+d*y) / 10*10 ^ (i+(k+1))=((a % 10 ^ i:Nat):Int)*b+10 ^ i*(d*((b % 10 ^ (k+1):Nat):Int)) from ⟨by omega,by omega,by omega,by omega,okt_set g4 (by omega),by rw [List.length_set];exact g5,?_⟩
      rw [vt_set (by omega),← hu,← Nat.add_assoc,Int.pow_succ,mul_step g6 (u+c+d*y) rfl,tdig b k,← hy,Int.pow_add]
      grind
    ·have hgf:PE.orM (ltM (k:Int) (lb:Int)) (ltM 0 c)=false:=by rw [geI (by omega),geI (a:=0) (by omega)];rfl
     refine Ans.of (r:=.inr o) (by rw [hgf,cond_false]) ?_
     have hc0:c=0:=by omega
     have h2:b<10 ^ k:=Nat.lt_of_lt_of_le hmb (Nat.pow_le_pow_right (by omega) (by omega))
     rw [hc0,Int.zero_mul,Int.add_zero,Nat.mod_eq_of_lt h2] at g6
     refine show okt o∧o.length=la+lb∧vt o=((a % 10 ^ (i+1):Nat):Int)*b from ⟨g4,g5,?_⟩
     rw [g6,htd,Int.add_mul,Int.mul_assoc]
   ·rintro o ⟨g1,g2,g3⟩
    exact .of (r:=(.inl ((i:Int)+1,o):(Int×List Int)⊕List Int)) (by rw [wrap_in (by omega) (by omega)]) (show i<la∧(i:Int)+1=((i+1:Nat):Int)∧okt o∧o.length=la+lb∧vt o=((a % 10 ^ (i+1):Nat):Int)*b from ⟨hz,by omega,g1,g2,g3⟩)
  ·have hk':i=la:=by omega
   refine Ans.of (r:=.inr out) (by rw [geI (by omega),cond_false]) ?_
   refine show okt out∧vt out=(a:Int)*b∧out.length=la+lb from ⟨h2,?_,h3⟩
   rw [h4,hk',Nat.mod_eq_of_lt hma]
 ·rintro out ⟨h1,h2,h3⟩
  refine .of (r:=dgs (a*b)) ?_ rfl
  rw [rtrim_ok h1 (by omega),h2,Option.bind_some,← Int.natCast_mul,Int.toNat_natCast]
end Go.Proofs.YtdgabicjcepmeaaGreatDoor
namespace Go.Proofs.YtdgabicjcepmeaaGreatDoor
open Go Go.Lib Go.Abs Go.PE Go.Num
open Go.IntKind (wrap)
theorem ord_le {a b:Nat}:leM 0 (ordN a b)=decide (b≤a):=by
 unfold ordN
 by_cases h:a<b
 ·rw [if_pos h,decide_eq_false (by omega)];rfl
 ·rw [if_neg h,decide_eq_true (by omega)]
  by_cases h2:b<a
  ·rw [if_pos h2];rfl
  ·rw [if_neg h2];rfl
theorem idx_mid (i:Nat) (t:Int) (D:List Int):idxM (List.replicate i 0++t::D) (i:Int)=some t:=by
 rw [idxM_nat,List.getElem?_append_right (by simp)];simp
theorem rdivided_ok {a b:Nat} (hb0:0<b) (ha:(dgs a).length≤500) (hb:(dgs b).length≤500):m158 (dgs a,dgs b)=some (dgs (a / b),dgs (a % b)):=by
 obtain ⟨la,hla⟩:∃ la,la=(dgs a).length:=⟨_,rfl⟩
 have hma:=dgs_lt a
 rw [← hla] at hma
 unfold m158
 dsimp only
 rw [lenI,← hla,mkM_of (by omega) (by omega) (by show (la:Int)*8≤_;omega),Option.bind_some,Int.toNat_natCast,wrap_in (n:=(la:Int)-1) (by omega) (by omega)]
 refine Ans.is (Ans.bind (P:=fun o=>o.1=dgs (a % b)∧okt o.2∧o.2.length=la∧vt o.2=((a / b:Nat):Int)) (Ans.loop (fun j s=>s.2.1=(la:Int)-1-j∧s.1=dgs (a / 10 ^ (la-j) % b)∧∃ D:List Int,s.2.2=List.replicate (la-j) 0++D∧okt D∧D.length=j∧vt D=((a / 10 ^ (la-j) / b:Nat):Int)) la ⟨by dsimp only;omega,?_,[],by simp,okt_nil,rfl,?_⟩ ?_) ?_)
 ·dsimp only
  rw [Nat.sub_zero,Nat.div_eq_of_lt hma,Nat.zero_mod,dgs_zero]
 ·rw [Nat.sub_zero,Nat.div_eq_of_lt hma,Nat.zero_div];rfl
 ·rintro j ⟨r,i,q⟩ hj ⟨h1,h2,D,h3,h4,h5,h6⟩
  dsimp only at h1 h2 h3
  subst h1 h2 h3
  dsimp only
  by_cases hz:j<la
  ·obtain ⟨m,hm⟩:∃ m,la-j=m+1:=⟨la-j-1,by omega⟩
   have hi:(la:Int)-1-j=(m:Int):=by omega
   have hmla:m<la:=by omega
   rw [hm] at h6 ⊢
   have ed:=Nat.mod_lt (a / 10 ^ m) (show 10 > 0 by omega)
   have eA:a / 10 ^ m=10*(a / 10 ^ (m+1))+a / 10 ^ m % 10:=by rw [ndiv10];omega
   have dv:=div_cons (a / 10 ^ (m+1)) b (a / 10 ^ m % 10)
   rw [← eA] at dv
   have hq9:=quo_le (A:=a / 10 ^ (m+1)) hb0 (show a / 10 ^ m % 10≤9 by omega)
   have hidx:idxM (dgs a) (m:Int)=some ((a / 10 ^ m % 10:Nat):Int):=dgs_idx (by omega)
   generalize a / 10 ^ m % 10=d at *
   generalize hR:a / 10 ^ (m+1) % b=R at *
   have hRb:R<b:=by rw [← hR];exact Nat.mod_lt _ hb0
   have hlR:(dgs R).length≤500:=Nat.le_trans (dgs_len_mono (show R≤b by omega)) hb
   obtain ⟨T,hT⟩:∃ T,T=10*R+d:=⟨_,rfl⟩
   rw [← hT] at dv hq9
   have hTl:∀ t,(dgs (T-t)).length≤501:=fun t=>dgs_ten (b:=b) (by omega) hb
   have htrim:m161 ((d:Int)::dgs R)=some (dgs T):=by
    rw [rtrim_ok (okt_cons.2 ⟨by omega,dgs_okd R⟩) (by rw [List.length_cons];omega),vt,vt_grp,hT]
    congr 2;omega
   have hinner:loopM (fun (s_1:List Int×List Int)=>(m157 (s_1.1,dgs b)).bind fun r_4 =>
     bif leM 0 r_4 then (m160 (s_1.1,dgs b)).bind fun r_5=>(chkM (m:Int) (lenM s_1.2)).bind fun r_6=>(idxM s_1.2 (m:Int)).bind fun r_7=>(chkM (m:Int) (lenM
     s_1.2)).bind fun r_8=>(setM s_1.2 (m:Int) fun (x:Int)=>some (wrap .i64 (r_7+1))).bind fun r=>some (Sum.inl (r_5,r)) else some (Sum.inr (s_1.1,
     s_1.2))) (dgs T,List.replicate m 0++0::D)=some (dgs (T % b),List.replicate m 0++((T / b:Nat):Int)::D):=by
    have key:=loopM_fn (fun t=>(dgs (T-t*b),List.replicate m (0:Int)++(t:Int)::D)) (T / b) (r:=(dgs (T % b),List.replicate m 0++((T / b:Nat):Int)::D)) (body:=fun (s_1:List Int×List Int)=>(m157 (s_1.1,dgs b)).bind fun r_4 =>
     bif leM 0 r_4 then (m160 (s_1.1,dgs b)).bind fun r_5=>(chkM (m:Int) (lenM s_1.2)).bind fun r_6=>(idxM s_1.2 (m:Int)).bind fun r_7=>(chkM (m:Int) (lenM
     s_1.2)).bind fun r_8=>(setM s_1.2 (m:Int) fun (x:Int)=>some (wrap .i64 (r_7+1))).bind fun r=>some (Sum.inl (r_5,r)) else some (Sum.inr (s_1.1,
     s_1.2))) (fun t ht=>?_) ?_
    ·rw [Nat.zero_mul,Nat.sub_zero] at key
     exact key
    ·have hle:(t+1)*b≤T:=Nat.le_trans (Nat.mul_le_mul_right b (show t+1≤T / b by omega)) (Nat.div_mul_le_self T b)
     rw [Nat.add_mul,Nat.one_mul] at hle
     have hck:chkM (m:Int) (lenM (List.replicate m (0:Int)++(t:Int)::D))=some ():=chkM_of (by omega) (by rw [lenI];simp;omega)
     have hset:setM (List.replicate m (0:Int)++(t:Int)::D) (m:Int) (fun (x:Int)=>some ((t:Int)+1))=some (List.replicate m (0:Int)++((t:Int)+1)::D):=by
      rw [setM_of (y:=(t:Int)+1) (by omega) (by simp;omega) rfl,Int.toNat_natCast,set_mid]
     dsimp only
     rw [order_ok (Nat.le_trans (hTl _) (by omega)) (by omega),Option.bind_some,ord_le,decide_eq_true (by omega),cond_true,rminus_ok (Nat.le_trans (hTl _) (by omega)) (by omega),Option.bind_some,hck,Option.bind_some,idx_mid,Option.bind_some,Option.bind_some,wrap_in (by omega) (by omega),hset,Option.bind_some,Nat.add_mul,Nat.one_mul,← Nat.sub_sub]
     rfl
    ·have e1:T-T / b*b=T % b:=by have:=Nat.div_add_mod' T b;omega
     have:=Nat.mod_lt T hb0
     have hl2:(dgs (T % b)).length≤501:=by rw [← e1];exact hTl _
     dsimp only
     rw [e1,order_ok (by omega) (by omega),Option.bind_some,ord_le,decide_eq_false (by omega),cond_false]
   refine Ans.of (r:=.inl (dgs (T % b),(m:Int)-1,List.replicate m 0++((T / b:Nat):Int)::D)) ?_ ?_
   ·rw [hi,leI (by omega),cond_true,hidx,Option.bind_some,appM_of (by simp;omega),Option.bind_some]
    refine bind_of htrim ?_
    rw [rep_snoc]
    refine bind_of hinner ?_
    rw [wrap_in (by omega) (by omega)]
   ·refine show j<la∧(m:Int)-1=(la:Int)-1-((j+1:Nat):Int)∧dgs (T % b)=dgs (a / 10 ^ (la-(j+1)) % b)∧∃ D':List Int,List.replicate m 0++((T / b:Nat):Int)::D=List.replicate (la-(j+1)) 0++D'∧okt D'∧D'.length=j+1∧vt D'=((a / 10 ^ (la-(j+1)) / b:Nat):Int) from ?_
    rw [show la-(j+1)=m by omega]
    refine ⟨hz,by omega,by rw [dv.2],_,rfl,okt_cons.2 ⟨⟨Int.natCast_nonneg _,by omega⟩,h4⟩,by simp [h5],?_⟩
    rw [vt,h6,dv.1]
    omega
  ·have hk':j=la:=by omega
   subst hk'
   rw [Nat.sub_self,Nat.pow_zero,Nat.div_one] at h6 ⊢
   refine Ans.of (r:=.inr (dgs (a % b),List.replicate 0 0++D)) (by rw [gtI (by omega),cond_false]) ?_
   exact show dgs (a % b)=dgs (a % b)∧okt (List.replicate 0 (0:Int)++D)∧(List.replicate 0 (0:Int)++D).length=j∧vt (List.replicate 0 (0:Int)++D)=((a / b:Nat):Int) from ⟨rfl,h4,h5,h6⟩
 ·rintro ⟨r,q⟩ ⟨h1,h2,h3,h4⟩
  dsimp only at h1 h2 h3 h4
  subst h1
  refine .of (r:=(dgs (a / b),dgs (a % b))) ?_ rfl
  rw [rtrim_ok h2 (by omega),h4,Option.bind_some,Int.toNat_natCast]
theorem rfromint_ok {n:Int} (h1:-9223372036854775808≤n) (h2:n≤9223372036854775807):m87 n=some (itoa n):=by
 unfold m87
 dsimp only
 have hl:(dgs n.natAbs).length≤19:=dgs_len_le (by omega)
 obtain ⟨e,he⟩:∃ e:Int,e=if n<0 then -1 else 1:=⟨_,rfl⟩
 have hne:n=e*(n.natAbs:Int):=by rw [he];split<;>omega
 have main:loopM (fun (s:Int×List Int)=>bif PE.notM (eqM s.1 0) then (remM s.1 10).bind fun r=>(bif ltM r 0 then some (wrap .i64 (negM r)) else
 some r).bind fun o=>(appM (nat_lit 8) s.2 [o]).bind fun r_1=>(divM .i64 s.1 10).bind fun r=>some (Sum.inl (r,r_1)) else some (Sum.inr s.2)) (n,[])=some (dgs n.natAbs):=by
  have key:=loopM_fn (fun k=>(e*((n.natAbs / 10 ^ k:Nat):Int),(dgs n.natAbs).take k)) (dgs n.natAbs).length (r:=dgs n.natAbs) (body:=fun (s:Int×List Int)=>bif PE.notM (eqM s.1 0) then (remM s.1 10).bind fun r=>(bif ltM r 0 then some (wrap .i64 (negM r)) else
   some r).bind fun o=>(appM (nat_lit 8) s.2 [o]).bind fun r_1=>(divM .i64 s.1 10).bind fun r=>some (Sum.inl (r,r_1)) else some (Sum.inr s.2)) (fun k hk=>?_) ?_
  ·rw [Nat.pow_zero,Nat.div_one,← hne,List.take_zero] at key
   exact key
  ·have hx:0<n.natAbs / 10 ^ k:=by
    refine Nat.pos_of_ne_zero fun q=>?_
    have:(dgs n.natAbs).drop k=[]:=by rw [dgs_drop,q,dgs_zero]
    have:=List.drop_eq_nil_iff.1 this
    omega
   have hxb:n.natAbs / 10 ^ k≤9223372036854775808:=Nat.le_trans (Nat.div_le_self _ _) (by omega)
   dsimp only
   rw [dgs_take hk,ndiv10]
   generalize n.natAbs / 10 ^ k=x at *
   have er:remM (e*(x:Int)) 10=some (e*((x % 10:Nat):Int)):=by
    unfold remM
    rw [decide_eq_false (by omega)]
    show some ((e*(x:Int)).tmod 10)=_
    congr 1
    rw [he]
    split
    ·rw [Int.neg_one_mul,Int.neg_tmod,Int.tmod_eq_emod_of_nonneg (by omega)];omega
    ·rw [Int.one_mul,Int.tmod_eq_emod_of_nonneg (by omega)];omega
   have ed:divM .i64 (e*(x:Int)) 10=some (e*((x / 10:Nat):Int)):=by
    rw [divM_pos (by omega)]
    congr 1
    rw [he]
    split
    ·rw [Int.neg_one_mul,Int.neg_tdiv,Int.tdiv_eq_ediv_of_nonneg (by omega),wrap_in (by omega) (by omega)];omega
    ·rw [Int.one_mul,Int.tdiv_eq_ediv_of_nonneg (by omega),wrap_in (by omega) (by omega)];omega
   have eo:(bif ltM (e*((x % 10:Nat):Int)) 0 then some (wrap .i64 (negM (e*((x % 10:Nat):Int)))) else some (e*((x % 10:Nat):Int)))=some ((x % 10:Nat):Int):=by
    rw [he]
    split
    ·rw [Int.neg_one_mul]
     by_cases h0:x % 10=0
     ·rw [h0];rfl
     ·rw [ltI (by omega),cond_true,show negM (-((x % 10:Nat):Int))=-(-((x % 10:Nat):Int)) from rfl,Int.neg_neg,wrap_in (by omega) (by omega)]
    ·rw [Int.one_mul,geI (by omega),cond_false]
   have hnz:e*(x:Int)≠0:=by rw [he];split<;>omega
   rw [neI hnz,notF,cond_true,er,Option.bind_some,eo,Option.bind_some,appM_of (by rw [List.length_take,List.length_singleton];omega),Option.bind_some,ed,Option.bind_some]
  ·dsimp only
   rw [Nat.div_eq_of_lt (dgs_lt n.natAbs),List.take_length,show e*((0:Nat):Int)=0 by omega,eqI rfl,notT,cond_false]
 have eL:ltM n 0=decide (n<0):=rfl
 have es:sg (decide (n<0)) n.natAbs=n:=by
  clear hne he main
  unfold sg
  by_cases h:n<0
  ·rw [decide_eq_true h,if_pos rfl];omega
  ·rw [decide_eq_false h,if_neg (by decide)];omega
 rw [main,Option.bind_some,rtext_ok (by omega),Option.bind_some,eL,es]
end Go.Proofs.YtdgabicjcepmeaaGreatDoor
namespace Go.Proofs.YtdgabicjcepmeaaGreatDoor
open Go Go.Lib Go.Abs Go.PE Go.Num
open Go.IntKind (wrap)
theorem rvalid3_ok {z:Int} (h:Fits z):m122 (itoa z)=some true:=by
 unfold m122
 have hl:(decDigits z.natAbs).length≤200:=dec_len_le (k:=199) h
 have hp:0<(decDigits z.natAbs).length:=List.length_pos_iff.2 (dec_ne _)
 have hD:=dec_isD z.natAbs
 have h0:((bif ltM 0 (lenM (itoa z)) then byteM (itoa z) 0 else some 0).bind fun r=>bif PE.andM (ltM 0 (lenM (itoa z))) (eqM r 45) then (sliceM (itoa z) 1 (lenM (itoa z))).bind fun r=>bif
   eqsM r [(48:UInt8)] then some (Sum.inl false) else some (Sum.inr r) else some (Sum.inr (itoa z)))=some ((.inr (decDigits z.natAbs)):Bool⊕List UInt8):=by
  have hb1:ltM 0 (lenM (itoa z))=true:=ltI (by rw [lenI];have:=List.length_pos_iff.2 (itoa_ne z);omega)
  rw [hb1,cond_true]
  by_cases hz:z<0
  ·have e:itoa z=45::decDigits z.natAbs:=by
    have:=itoa_ng (n:=z.natAbs) (by omega)
    rwa [show -(z.natAbs:Int)=z by omega] at this
   have b:byteM (itoa z) 0=some 45:=by rw [e];rfl
   have s:sliceM (itoa z) 1 (lenM (itoa z))=some (decDigits z.natAbs):=by
    rw [e,sliceM_of (by omega) (by simp;omega) (Int.le_refl _)]
    simp
   rw [b,Option.bind_some,eqI rfl,andT,cond_true,s,Option.bind_some,eqsF (dec48 (by omega)),cond_false]
  ·have e:itoa z=decDigits z.natAbs:=by
    have:=itoa_nn (n:=z.natAbs)
    rwa [show (z.natAbs:Int)=z by omega] at this
   have hD0:=hD _ (List.getElem_mem hp)
   unfold isD at hD0
   rw [e,show (0:Int)=((0:Nat):Int) from rfl,byteM_at hp,Option.bind_some,neI (by omega),andT,cond_false]
 refine bind_of h0 ?_
 rw [Sum.elim_inr]
 refine bind_of (x:=.inl ()) ?_ ?_
 ·refine loopM_fn (fun k=>(k:Int)) (decDigits z.natAbs).length (fun k hk=>?_) ?_
  ·have hk0:=hD _ (List.getElem_mem hk)
   unfold isD at hk0
   rw [ltI (by rw [lenI];omega),cond_true,byteM_at hk,Option.bind_some,geI (by omega),notF,cond_true,Option.bind_some,geI (a:=57) (by omega),show PE.orM false false=false from rfl,cond_false,wrap_in (by omega) (by omega)]
   rfl
  ·rw [geI (by rw [lenI];omega),cond_false]
 ·rw [Sum.elim_inl,ltI (by rw [lenI];omega),leI (by rw [lenI];omega),show PE.andM true true=true from rfl]
  by_cases hz:z.natAbs=0
  ·rw [hz,dec_zero];rfl
  ·obtain ⟨c,l,e,hc⟩:=dec_head hz
   have b:byteM (decDigits z.natAbs) 0=some (c.toNat:Int):=by rw [e];rfl
   have hc2:(c.toNat:Int)≠48:=fun q=>hc (UInt8.toNat_inj.1 (by rw [show (48:UInt8).toNat=48 from rfl];omega))
   rw [eqsF (dec48 hz),notF,andT,cond_true,b,Option.bind_some,neI hc2];rfl
theorem sg_abs (z:Int):sg (decide (z<0)) z.natAbs=z:=by
 unfold sg
 by_cases h:z<0
 ·rw [decide_eq_true h,if_pos rfl];omega
 ·rw [decide_eq_false h,if_neg (by decide)];omega
theorem sg_nabs (z:Int):sg (PE.notM (decide (z<0))) z.natAbs=-z:=by
 unfold sg
 by_cases h:z<0
 ·rw [decide_eq_true h,notT,if_neg (by decide)];omega
 ·rw [decide_eq_false h,notF,if_pos rfl];omega
theorem rchk_sn {ng:Bool} {n:Nat} (hl:(dgs n).length≤1000) {z:Int} (hz:sg ng n=z):m128 (ng,dgs n)=some (sn z):=by
 rw [rchecked_ok hl,← hz]
 have e:(sg ng n).natAbs=n:=by unfold sg;split<;>omega
 by_cases h:n<10 ^ 200
 ·rw [if_pos h,sn_fit (show Fits _ from by unfold Fits;rw [e];exact h)]
 ·unfold sn;rw [if_neg h,if_neg (show ¬ Fits _ from by unfold Fits;rw [e];exact h)]
theorem rsum_ok {x y:Bool} {a b:Nat} (ha:(dgs a).length≤200) (hb:(dgs b).length≤200):m130 (x,dgs a,y,dgs b)=some (sn (sg x a+sg y b)):=by
 have hab:(dgs (a+b)).length≤1000:=Nat.le_trans (dgs_len_le (k:=201) (by
  have h1:=Nat.lt_of_lt_of_le (dgs_lt a) (Nat.pow_le_pow_right (show 0<10 by omega) ha)
  have h2:=Nat.lt_of_lt_of_le (dgs_lt b) (Nat.pow_le_pow_right (show 0<10 by omega) hb)
  rw [Nat.pow_succ];omega)) (by omega)
 have hm1:(dgs (a-b)).length≤1000:=Nat.le_trans (dgs_len_mono (show a-b≤a by omega)) (by omega)
 have hm2:(dgs (b-a)).length≤1000:=Nat.le_trans (dgs_len_mono (show b-a≤b by omega)) (by omega)
 unfold m130
 dsimp only
 by_cases hxy:x=y
 ·subst hxy
  rw [show eqbM x x=true from decide_eq_true rfl,cond_true,rplus_ok (by omega) (by omega),Option.bind_some,Option.bind_some]
  dsimp only
  refine bind_of (rchk_sn hab (z:=sg x a+sg x b) ?_) rfl
  unfold sg;split<;>omega
 ·rw [show eqbM x y=false from decide_eq_false hxy,cond_false,order_ok (by omega) (by omega),Option.bind_some,ord_le]
  by_cases hle:b≤a
  ·rw [decide_eq_true hle,cond_true,rminus_ok (by omega) hle,Option.bind_some,Option.bind_some]
   dsimp only
   refine bind_of (rchk_sn hm1 (z:=sg x a+sg y b) ?_) rfl
   unfold sg;cases x<;>cases y<;>simp at hxy ⊢<;>omega
  ·rw [decide_eq_false hle,cond_false,rminus_ok (by omega) (by omega),Option.bind_some,Option.bind_some]
   dsimp only
   refine bind_of (rchk_sn hm2 (z:=sg x a+sg y b) ?_) rfl
   unfold sg;cases x<;>cases y<;>simp at hxy ⊢<;>omega
theorem rdig_ok {z:Int} (h:Fits z):m127 (itoa z)=some (decide (z<0),dgs z.natAbs):=digits_ok h
theorem fit_len {z:Int} (h:Fits z):(dgs z.natAbs).length≤200:=dgs_len_le h
theorem riadd_ok {x y:Int} (hx:Fits x) (hy:Fits y):m93 (itoa x,itoa y)=some (sn (x+y)):=by
 unfold m93
 dsimp only
 rw [rvalid3_ok hx,Option.bind_some,notT,notF,cond_true,rvalid3_ok hy,Option.bind_some,notT,show PE.orM false false=false from rfl,cond_false,rdig_ok hx,Option.bind_some,rdig_ok hy,Option.bind_some,rsum_ok (fit_len hx) (fit_len hy),sg_abs,sg_abs];rfl
theorem risub_ok {x y:Int} (hx:Fits x) (hy:Fits y):m105 (itoa x,itoa y)=some (sn (x-y)):=by
 unfold m105
 dsimp only
 rw [rvalid3_ok hx,Option.bind_some,notT,notF,cond_true,rvalid3_ok hy,Option.bind_some,notT,show PE.orM false false=false from rfl,cond_false,rdig_ok hx,Option.bind_some,rdig_ok hy,Option.bind_some,rsum_ok (fit_len hx) (fit_len hy),sg_abs,sg_nabs,← Int.sub_eq_add_neg];rfl
theorem rimul_ok {x y:Int} (hx:Fits x) (hy:Fits y):m91 (itoa x,itoa y)=some (sn (x*y)):=by
 have h1:=fit_len hx
 have h2:=fit_len hy
 have hl:(dgs (x.natAbs*y.natAbs)).length≤1000:=Nat.le_trans dgs_mul (by omega)
 unfold m91
 dsimp only
 rw [rvalid3_ok hx,Option.bind_some,notT,notF,cond_true,rvalid3_ok hy,Option.bind_some,notT,show PE.orM false false=false from rfl,cond_false,rdig_ok hx,Option.bind_some,rdig_ok hy,Option.bind_some,rtimes_ok (by omega) (by omega),Option.bind_some]
 refine bind_of (rchk_sn hl (z:=x*y) ?_) rfl
 have e:sg (PE.notM (eqbM (decide (x<0)) (decide (y<0)))) (x.natAbs*y.natAbs)=sg (decide (x<0)) x.natAbs*sg (decide (y<0)) y.natAbs:=by
  unfold sg
  cases decide (x<0)<;>cases decide (y<0)<;>simp [eqbM,PE.notM]<;>grind
 rw [e,sg_abs,sg_abs]
theorem ricmp_ok {x y:Int} (hx:Fits x) (hy:Fits y):m123 (itoa x,itoa y)=some (cmp3 x y):=by
 have h1:=fit_len hx
 have h2:=fit_len hy
 unfold m123
 dsimp only
 rw [rvalid3_ok hx,Option.bind_some,notT,notF,cond_true,rvalid3_ok hy,Option.bind_some,notT,show PE.orM false false=false from rfl,cond_false,rdig_ok hx,Option.bind_some,rdig_ok hy,Option.bind_some]
 dsimp only
 by_cases a:x<0
 ·rw [decide_eq_true a]
  by_cases b:y<0
  ·rw [decide_eq_true b,show eqbM true true=true from rfl,notT,cond_false,cond_true,order_ok (by omega) (by omega),Option.bind_some]
   unfold ordN cmp3
   congr 1
   split<;>split<;>(try split)<;>omega
  ·rw [decide_eq_false b,show eqbM true false=false from rfl,notF,cond_true,cond_true]
   unfold cmp3;rw [if_pos (by omega)]
 ·rw [decide_eq_false a]
  by_cases b:y<0
  ·rw [decide_eq_true b,show eqbM false true=false from rfl,notF,cond_true,cond_false]
   unfold cmp3;rw [if_neg (by omega),if_pos (by omega)]
  ·rw [decide_eq_false b,show eqbM false false=true from rfl,notT,cond_false,cond_false,order_ok (by omega) (by omega),Option.bind_some]
   unfold ordN cmp3
   congr 1
   split<;>split<;>(try split)<;>omega
theorem rgcd_loop:∀ (N a b:Nat),b≤N→(dgs a).length≤200→(dgs b).length≤200→loopM (fun (s:List Int×List Int)=>bif ltM 0 (lenM s.2) then (m158 (s.1,s.2)).bind fun r
  => some (Sum.inl (s.2,r.2)) else some (Sum.inr s.1)) (dgs a,dgs b)=some (dgs (Nat.gcd a b))
 | 0,a,b,h,ha,hb=>by
  obtain rfl:b=0:=by omega
  rw [loopM_eq]
  dsimp only
  rw [dgs_zero,geI (by rw [lenI];simp),cond_false,Nat.gcd_zero_right];rfl
 | N+1,a,b,h,ha,hb=>by
  by_cases h0:b=0
  ·subst h0
   rw [loopM_eq]
   dsimp only
   rw [dgs_zero,geI (by rw [lenI];simp),cond_false,Nat.gcd_zero_right];rfl
  ·have hm:=Nat.mod_lt a (show 0<b by omega)
   have hlen:0<(dgs b).length:=List.length_pos_iff.2 fun q=>h0 (dgs_nil.1 q)
   have ih:=rgcd_loop N b (a % b) (by omega) hb (Nat.le_trans (dgs_len_mono (show a % b≤b by omega)) hb)
   rw [loopM_eq]
   dsimp only
   rw [ltI (by rw [lenI];omega),cond_true,rdivided_ok (by omega) (by omega) (by omega),Option.bind_some]
   rw [Nat.gcd_comm a b,Nat.gcd_rec b a,Nat.gcd_comm (a % b) b]
   exact ih
theorem rigcd_ok {x y:Int} (hx:Fits x) (hy:Fits y):m124 (itoa x,itoa y)=some (sn ((Nat.gcd x.natAbs y.natAbs:Nat):Int)):=by
 have h1:=fit_len hx
 have h2:=fit_len hy
 have hl:(dgs (Nat.gcd x.natAbs y.natAbs)).length≤1000:=by
  by_cases h0:x.natAbs=0
  ·rw [h0,Nat.gcd_zero_left];omega
  ·exact Nat.le_trans (dgs_len_mono (Nat.le_of_dvd (by omega) (Nat.gcd_dvd_left _ _))) (by omega)
 unfold m124
 dsimp only
 rw [rvalid3_ok hx,Option.bind_some,notT,notF,cond_true,rvalid3_ok hy,Option.bind_some,notT,show PE.orM false false=false from rfl,cond_false,rdig_ok hx,Option.bind_some,rdig_ok hy,Option.bind_some]
 refine bind_of (rgcd_loop _ _ _ (Nat.le_refl _) h1 h2) ?_
 exact bind_of (rchk_sn hl (z:=((Nat.gcd x.natAbs y.natAbs:Nat):Int)) rfl) rfl
theorem dgs_one:dgs 1=[1]:=by rw [dgs_pos (by omega),dgs_zero];rfl
theorem ridiv_ok {x y:Int} (hx:Fits x) (hy:Fits y) (hy0:0<y):m125 (itoa x,itoa y)=some (itoa (x / y),itoa (x % y),0):=by
 have h1:=fit_len hx
 have h2:=fit_len hy
 obtain ⟨n,rfl⟩:∃ n:Nat,y=n:=⟨y.toNat,by omega⟩
 have hn:0<n:=by omega
 rw [Int.natAbs_natCast] at h2
 have hr:=Nat.mod_lt x.natAbs hn
 have hq:x.natAbs / n≤x.natAbs:=Nat.div_le_self _ _
 have hx':x.natAbs<10 ^ 200:=hx
 have hy':n<10 ^ 200:=by have:(n:Int).natAbs<10 ^ 200:=hy;rwa [Int.natAbs_natCast] at this
 have hlq:(dgs (x.natAbs / n)).length≤200:=Nat.le_trans (dgs_len_mono hq) h1
 unfold m125
 dsimp only
 rw [rvalid3_ok hx,Option.bind_some,notT,notF,cond_true,rvalid3_ok hy,Option.bind_some,notT,show PE.orM false false=false from rfl,orF,eqsF (fun e=>by have:=itoa_eq0.1 e;omega),cond_false,rdig_ok hx,Option.bind_some,rdig_ok hy,Option.bind_some,Int.natAbs_natCast,rdivided_ok hn (by omega) (by omega),Option.bind_some]
 dsimp only
 rw [decide_eq_false (show ¬ ((n:Int)<0) by omega)]
 have fin:∀ {b:Bool} {q r:Nat},q≤10 ^ 199+x.natAbs→r<n→sg b q=x / n→(r:Int)=x % n→Fits (x / (n:Int))→((m128 (b,dgs q)).bind fun r_5=>(m126 (false,dgs r)).bind fun r=>bif PE.notM (eqM r_5.2 0) then some ([],[],r_5.2) else some (r_5.1,r.1,0))=some (itoa (x / n),itoa (x % n),0):=by
  intro b q r q1 r1 e1 e2 hf
  have hlq':(dgs q).length≤1000:=Nat.le_trans (dgs_len_le (k:=201) (by omega)) (by omega)
  have hlr:(dgs r).length≤1000:=Nat.le_trans (dgs_len_mono (show r≤n by omega)) (by omega)
  rw [rchk_sn hlq' e1,Option.bind_some,rtext_ok hlr,Option.bind_some,sn_fit hf]
  dsimp only
  rw [eqI rfl,notT,cond_false]
  congr 3
  show itoa (r:Int)=_
  rw [e2]
 have hf:Fits (x / (n:Int)):=fits_dvd hx
 have dm:=Nat.div_add_mod x.natAbs n
 by_cases hneg:x<0
 ·rw [decide_eq_true hneg,andT,show PE.notM (eqbM true false)=true from rfl]
  by_cases h0:x.natAbs % n=0
  ·rw [h0,dgs_zero,show ltM 0 (lenM ([]:List Int))=false from rfl,cond_false,Option.bind_some]
   dsimp only
   rw [← dgs_zero]
   have ex:x=-((x.natAbs / n:Nat):Int)*(n:Int):=by
    have:(x.natAbs:Int)=(n:Int)*((x.natAbs / n:Nat):Int):=by rw [← Int.natCast_mul];omega
    rw [Int.neg_mul,Int.mul_comm,← this];omega
   refine fin (by omega) hn ?_ ?_ hf
   ·show -((x.natAbs / n:Nat):Int)=x / n
    conv=>rhs;rw [ex]
    rw [Int.mul_ediv_cancel _ (by omega)]
   ·conv=>rhs;rw [ex]
    rw [Int.mul_emod_left];rfl
  ·have hlen:0<(dgs (x.natAbs % n)).length:=List.length_pos_iff.2 fun q=>h0 (dgs_nil.1 q)
   rw [ltI (by rw [lenI];omega),cond_true,← dgs_one,rplus_ok (by omega) (by rw [dgs_one];simp),Option.bind_some,rminus_ok (by omega) (by omega),Option.bind_some,Option.bind_some]
   dsimp only
   have ex:x=(n:Int)*-((x.natAbs / n+1:Nat):Int)+((n-x.natAbs % n:Nat):Int):=by
    have h3:(x.natAbs:Int)=(n:Int)*((x.natAbs / n:Nat):Int)+((x.natAbs % n:Nat):Int):=by rw [← Int.natCast_mul];omega
    rw [Int.natCast_add,Int.mul_neg,Int.mul_add]
    omega
   refine fin (by have:0<10 ^ 199:=Nat.pow_pos (by omega);omega) (by omega) ?_ ?_ hf
   ·show -((x.natAbs / n+1:Nat):Int)=x / n
    conv=>rhs;rw [ex]
    rw [Int.mul_add_ediv_left _ _ (by omega),Int.ediv_eq_zero_of_lt (by omega) (by omega),Int.add_zero]
   ·conv=>rhs;rw [ex]
    rw [Int.mul_add_emod_self_left,Int.emod_eq_of_lt (by omega) (by omega)]
 ·rw [decide_eq_false hneg,andF,cond_false,Option.bind_some,show PE.notM (eqbM false false)=false from rfl]
  dsimp only
  refine fin (by omega) hr ?_ ?_ hf
  ·show ((x.natAbs / n:Nat):Int)=x / n
   rw [Int.natCast_ediv];congr 1;omega
  ·rw [Int.natCast_emod];congr 1;omega
end Go.Proofs.YtdgabicjcepmeaaGreatDoor
namespace Go.Proofs.YtdgabicjcepmeaaGreatDoor
open Go Go.Lib Go.Abs Go.PE Go.Num
open Go.IntKind (wrap)
theorem rmake_pos {n d:Int} (hn:Fits n) (hd:Fits d) (h0:0<d):((m124 (itoa n,itoa d)).bind fun r_2=>(m125 (itoa n,r_2.1)).bind fun r_3=>(m125 (itoa d,r_2.1)).bind fun r =>
  bif PE.orM (PE.notM (eqM r_3.2.2 0)) (PE.notM (eqM r.2.2 0)) then some ((([]:List UInt8),([]:List UInt8)),(40:Int)) else some ((r_3.1,r.1),0))=some ((itoa (n / ((Int.gcd d n:Nat):Int)),itoa (d / ((Int.gcd d n:Nat):Int))),0):=by
 have eg:Nat.gcd n.natAbs d.natAbs=Int.gcd d n:=by unfold Int.gcd;rw [Nat.gcd_comm]
 have hgp:(0:Int)<((Int.gcd d n:Nat):Int):=by
  have:=Int.gcd_pos_of_ne_zero_left n (show d≠0 by omega)
  omega
 have hgf:Fits ((Int.gcd d n:Nat):Int):=by
  unfold Fits
  rw [Int.natAbs_natCast]
  exact Nat.lt_of_le_of_lt (Nat.le_of_dvd (by omega) (Nat.gcd_dvd_left _ _)) hd
 rw [rigcd_ok hn hd,Option.bind_some,eg,sn_fit hgf]
 dsimp only
 rw [ridiv_ok hn hgf hgp,Option.bind_some,ridiv_ok hd hgf hgp,Option.bind_some]
 rfl
theorem rmake_ok {n d:Int} (hn:Fits n) (hd:Fits d) (h0:d≠0):m86 (itoa n,itoa d)=some (rt (Rat.divInt n d),0):=by
 have hq:(Rat.divInt n d).num=d.sign*n / ((Int.gcd d n:Nat):Int)∧(((Rat.divInt n d).den:Nat):Int)=d.sign*d / ((Int.gcd d n:Nat):Int):=by
  refine ⟨Rat.num_divInt n d,?_⟩
  have hsn:d.sign*d=(d.natAbs:Int):=by
   by_cases h:d<0
   ·rw [Int.sign_eq_neg_one_of_neg h];omega
   ·rw [Int.sign_eq_one_of_pos (by omega)];omega
  rw [Rat.den_divInt,if_neg h0,hsn,Int.natCast_ediv]
 unfold m86 rt
 dsimp only
 rw [rvalid3_ok hn,Option.bind_some,rvalid3_ok hd,Option.bind_some,notT,show PE.orM false false=false from rfl,orF,eqsF (fun e=>h0 (itoa_eq0.1 e)),cond_false,← itoa_zero,ricmp_ok hd fits_zero,Option.bind_some]
 by_cases hneg:d<0
 ·have hs:d.sign=-1:=Int.sign_eq_neg_one_of_neg hneg
  have e1:ltM (cmp3 d 0) 0=true:=by unfold cmp3;rw [if_pos hneg];rfl
  have eg:Int.gcd (-d) (-n)=Int.gcd d n:=by unfold Int.gcd;rw [Int.natAbs_neg,Int.natAbs_neg]
  rw [e1,cond_true,risub_ok fits_zero hn,Option.bind_some,risub_ok fits_zero hd,Option.bind_some,Int.zero_sub,Int.zero_sub,sn_fit (fits_neg hn),sn_fit (fits_neg hd),Option.bind_some]
  dsimp only
  rw [rmake_pos (fits_neg hn) (fits_neg hd) (by omega),eg,hq.1,hq.2,hs]
  simp only [Int.neg_mul,Int.one_mul]
 ·have hs:d.sign=1:=Int.sign_eq_one_of_pos (by omega)
  have e1:ltM (cmp3 d 0) 0=false:=by unfold cmp3;rw [if_neg hneg,if_pos (by omega)];rfl
  rw [e1,cond_false,Option.bind_some]
  dsimp only
  rw [rmake_pos hn hd (by omega),hq.1,hq.2,hs]
  simp only [Int.one_mul]
theorem rof_ok {n d:Int} (hn:-9223372036854775808≤n∧n≤9223372036854775807) (hd:-9223372036854775808≤d∧d≤9223372036854775807) (h0:d≠0):m65 (n,d)=some (rt (Rat.divInt n d),0):=by
 have f:∀ {z:Int},(-9223372036854775808≤z∧z≤9223372036854775807)→Fits z:=fun {z} h=>by
  have h2:z.natAbs<10 ^ 19:=by omega
  exact Nat.lt_of_lt_of_le h2 (by decide)
 unfold m65
 dsimp only
 rw [rfromint_ok hn.1 hn.2,Option.bind_some,rfromint_ok hd.1 hd.2,Option.bind_some,rmake_ok (f hn) (f hd) h0]
 rfl
theorem rrvalid_ok {q:Rat} (h:FitsR q):m90 (rt q)=some true:=by
 have hd:(0:Int)<(q.den:Int):=by have:=q.den_nz;omega
 unfold m90 rt
 dsimp only
 have e1:leM (cmp3 (q.den:Int) 0) 0=false:=by unfold cmp3;rw [if_neg (by omega),if_pos hd];rfl
 have hg:Nat.gcd q.num.natAbs (q.den:Int).natAbs=1:=by rw [Int.natAbs_natCast];exact q.reduced
 rw [rvalid3_ok h.1,Option.bind_some,rvalid3_ok h.2,Option.bind_some,notT,show PE.orM false false=false from rfl,notF,cond_true,← itoa_zero,ricmp_ok h.2 fits_zero,Option.bind_some,orF,e1,cond_false,rigcd_ok h.1 h.2,Option.bind_some,hg,sn_fit (by decide),eqI rfl,andT,eqsT (by show itoa ((1:Nat):Int)=_;rw [itoa_nn,decDigits_one (by omega)];rfl)]
theorem rcross_ok {p q:Rat} (hp:FitsR p) (hq:FitsR q) (h1:Fits (p.num*q.den)) (h2:Fits (q.num*p.den)) (h4:Fits ((p.den:Int)*q.den)):m92 (rt p,rt q)=some (itoa (p.num*q.den),itoa (q.num*p.den),itoa ((p.den:Int)*q.den),true):=by
 have v1:=rrvalid_ok hp
 have v2:=rrvalid_ok hq
 unfold m92
 unfold rt at v1 v2 ⊢
 dsimp only
 rw [v1,Option.bind_some,v2,Option.bind_some,notT,show PE.orM false false=false from rfl,cond_false,rimul_ok hp.1 hq.2,Option.bind_some,rimul_ok hq.1 hp.2,Option.bind_some,rimul_ok hp.2 hq.2,Option.bind_some,sn_fit h1,sn_fit h2,sn_fit h4]
 rfl
theorem rradd_ok {p q:Rat} (hp:FitsR p) (hq:FitsR q) (h1:Fits (p.num*q.den)) (h2:Fits (q.num*p.den)) (h3:Fits (p.num*q.den+q.num*p.den)) (h4:Fits ((p.den:Int)*q.den)):m71 (rt p,rt q)=some (rt (p+q),0):=by
 have hd:(p.den:Int)*q.den≠0:=Int.mul_ne_zero (by have:=p.den_nz;omega) (by have:=q.den_nz;omega)
 have e:p+q=Rat.divInt (p.num*q.den+q.num*p.den) ((p.den:Int)*q.den):=by rw [Rat.add_def',← Rat.divInt_ofNat,Int.natCast_mul]
 unfold m71
 refine bind_of (rcross_ok hp hq h1 h2 h4) ?_
 dsimp only
 rw [notT,cond_false,riadd_ok h1 h2,Option.bind_some,sn_fit h3]
 dsimp only
 rw [eqI rfl,notT,cond_false,rmake_ok h3 h4 hd,e]
 rfl
theorem rrsub_ok {p q:Rat} (hp:FitsR p) (hq:FitsR q) (h1:Fits (p.num*q.den)) (h2:Fits (q.num*p.den)) (h3:Fits (p.num*q.den-q.num*p.den)) (h4:Fits ((p.den:Int)*q.den)):m74 (rt p,rt q)=some (rt (p-q),0):=by
 have hd:(p.den:Int)*q.den≠0:=Int.mul_ne_zero (by have:=p.den_nz;omega) (by have:=q.den_nz;omega)
 have e:p-q=Rat.divInt (p.num*q.den-q.num*p.den) ((p.den:Int)*q.den):=by rw [Rat.sub_def',← Rat.divInt_ofNat,Int.natCast_mul]
 unfold m74
 refine bind_of (rcross_ok hp hq h1 h2 h4) ?_
 dsimp only
 rw [notT,cond_false,risub_ok h1 h2,Option.bind_some,sn_fit h3]
 dsimp only
 rw [eqI rfl,notT,cond_false,rmake_ok h3 h4 hd,e]
 rfl
theorem rrmul_ok {p q:Rat} (hp:FitsR p) (hq:FitsR q) (h1:Fits (p.num*q.num)) (h4:Fits ((p.den:Int)*q.den)):m70 (rt p,rt q)=some (rt (p*q),0):=by
 have hd:(p.den:Int)*q.den≠0:=Int.mul_ne_zero (by have:=p.den_nz;omega) (by have:=q.den_nz;omega)
 have e:p*q=Rat.divInt (p.num*q.num) ((p.den:Int)*q.den):=by rw [Rat.mul_def',← Rat.divInt_ofNat,Int.natCast_mul]
 have v1:=rrvalid_ok hp
 have v2:=rrvalid_ok hq
 unfold m70
 rw [e]
 unfold rt at v1 v2 ⊢
 dsimp only
 rw [v1,Option.bind_some,v2,Option.bind_some,notT,show PE.orM false false=false from rfl,cond_false,rimul_ok hp.1 hq.1,Option.bind_some,rimul_ok hp.2 hq.2,Option.bind_some,sn_fit h1,sn_fit h4]
 dsimp only
 rw [eqI rfl,notT,show PE.orM false false=false from rfl,cond_false,rmake_ok h1 h4 hd]
 rfl
end Go.Proofs.YtdgabicjcepmeaaGreatDoor
namespace Go.Proofs.YtdgabicjcepmeaaGreatDoor
open Go Go.Abs Go.PE Go.Num
open Go.IntKind (wrap)
theorem weighted_ok {W H:Nat} {ax ay bx by_ cx cy va vb vc:Int} (T:Trg W H ax ay bx by_ cx cy) (ha:0≤va∧va≤100) (hb:0≤vb∧vb≤100) (hc:0≤vc∧vc≤100) {q:Spt} (hq:PB q) :
  m68 (((ax,ay,va),(bx,by_,vb),cx,cy,vc),q.1,q.2.1,q.2.2)=some (valQ (lineF bx by_ cx cy) (lineF cx cy ax ay) (lineF ax ay bx by_) va vb vc q)∧-777600≤valQ (lineF bx by_ cx cy) (lineF cx cy ax ay) (lineF ax ay bx by_) va vb vc q∧valQ (lineF bx by_ cx cy) (lineF cx cy ax ay) (lineF ax ay bx by_) va vb vc q≤777600:=by
 obtain ⟨q1,q2,q3,q4,q5,q6⟩:=hq
 obtain ⟨a1,a2,a3,a4,a5,a6,a7,a8⟩:=T.ab
 obtain ⟨b1,b2,b3,b4,b5,b6,b7,b8⟩:=T.bc
 obtain ⟨c1,c2,c3,c4,c5,c6,c7,c8⟩:=T.ca
 unfold m68 valQ
 rw [lev_lnF,lev_lnF,lev_lnF]
 dsimp only
 have key:∀ {x y dx dy v:Int},(0≤x∧x≤6)→(0≤y∧y≤6)→(-1≤dx∧dx≤1)→(-1≤dy∧dy≤1)→(0≤v∧v≤100) →
   wrap .i64 (v*wrap .i64 (wrap .i64 (wrap .i64 dx*wrap .i64 (q.2.1-wrap .i64 (y*q.2.2)))-wrap .i64 (wrap .i64 dy*wrap .i64 (q.1-wrap .i64 (x*q.2.2)))))=v*(dx*(q.2.1-y*q.2.2)-dy*(q.1-x*q.2.2))∧-259200≤v*(dx*(q.2.1-y*q.2.2)-dy*(q.1-x*q.2.2))∧v*(dx*(q.2.1-y*q.2.2)-dy*(q.1-x*q.2.2))≤259200:=by
  intro x y dx dy v hx hy hdx hdy hv
  have m1:=mul_in (x:=x) (y:=q.2.2) (A:=6) (B:=72) (by omega) (by omega)
  have m2:=mul_in (x:=y) (y:=q.2.2) (A:=6) (B:=72) (by omega) (by omega)
  have m3:=mul_in (x:=dx) (y:=q.2.1-y*q.2.2) (A:=1) (B:=1296) (by omega) (by omega)
  have m4:=mul_in (x:=dy) (y:=q.1-x*q.2.2) (A:=1) (B:=1296) (by omega) (by omega)
  have m5:=mul_in (x:=v) (y:=dx*(q.2.1-y*q.2.2)-dy*(q.1-x*q.2.2)) (A:=100) (B:=2592) (by omega) (by omega)
  rw [wrap_in (n:=dx) (by omega) (by omega),wrap_in (n:=dy) (by omega) (by omega),wrap_in (n:=x*q.2.2) (by omega) (by omega),wrap_in (n:=y*q.2.2) (by omega) (by omega),wrap_in (n:=q.2.1-y*q.2.2) (by omega) (by omega),wrap_in (n:=q.1-x*q.2.2) (by omega) (by omega),wrap_in (n:=dx*_) (by omega) (by omega),wrap_in (n:=dy*_) (by omega) (by omega),wrap_in (n:=dx*(q.2.1-y*q.2.2)-dy*(q.1-x*q.2.2)) (by omega) (by omega),wrap_in (by omega) (by omega)]
  exact ⟨rfl,by omega,by omega⟩
 obtain ⟨e1,x1,x2⟩:=key (x:=bx) (y:=by_) (dx:=cx-bx) (dy:=cy-by_) (v:=va) (by omega) (by omega) (by omega) (by omega) ha
 obtain ⟨e2,y1,y2⟩:=key (x:=cx) (y:=cy) (dx:=ax-cx) (dy:=ay-cy) (v:=vb) (by omega) (by omega) (by omega) (by omega) hb
 obtain ⟨e3,z1,z2⟩:=key (x:=ax) (y:=ay) (dx:=bx-ax) (dy:=by_-ay) (v:=vc) (by omega) (by omega) (by omega) (by omega) hc
 rw [e1,e2,e3]
 generalize va*((cx-bx)*(q.2.1-by_*q.2.2)-(cy-by_)*(q.1-bx*q.2.2))=x at *
 generalize vb*((ax-cx)*(q.2.1-cy*q.2.2)-(ay-cy)*(q.1-cx*q.2.2))=y at *
 generalize vc*((bx-ax)*(q.2.1-ay*q.2.2)-(by_-ay)*(q.1-ax*q.2.2))=z at *
 rw [Int.zero_add,wrap_in (n:=x) (by omega) (by omega),wrap_in (n:=x+y) (by omega) (by omega),wrap_in (by omega) (by omega)]
 exact ⟨rfl,by omega,by omega⟩
theorem i30 {α:Type} (a b c:α):idxM [a,b,c] 0=some a:=rfl
theorem i31 {α:Type} (a b c:α):idxM [a,b,c] 1=some b:=rfl
theorem i32 {α:Type} (a b c:α):idxM [a,b,c] 2=some c:=rfl
theorem divInt_small {n d:Int} {B:Nat} (hd:d≠0) (hn:n.natAbs≤B) (hdB:d.natAbs≤B):(Rat.divInt n d).num.natAbs≤B∧(Rat.divInt n d).den≤B:=by
 constructor
 ·rw [Rat.num_divInt]
  refine Nat.le_trans (Int.natAbs_ediv_le_natAbs _ _) ?_
  rw [Int.natAbs_mul]
  have h1:d.sign.natAbs=1:=Int.natAbs_sign_of_ne_zero hd
  rw [h1,Nat.one_mul];exact hn
 ·rw [Rat.den_divInt,if_neg hd]
  exact Nat.le_trans (Nat.div_le_self _ _) hdB
theorem rrmul_small {n d m e:Int} (hd:d≠0) (he:e≠0) (h1:n.natAbs≤1000000000000000000) (h2:d.natAbs≤1000000000000000000) (h3:m.natAbs≤1000000000000000000) (h4:e.natAbs≤1000000000000000000) :
  m70 (rt (Rat.divInt n d),rt (Rat.divInt m e))=some (rt (Rat.divInt n d*Rat.divInt m e),0):=by
 obtain ⟨a1,a2⟩:=divInt_small hd h1 h2
 obtain ⟨b1,b2⟩:=divInt_small he h3 h4
 have f:∀ {x:Nat},x≤1000000000000000000→x<10 ^ 200:=fun h=>Nat.lt_of_le_of_lt h (by decide)
 have g:∀ {x y:Nat},x≤1000000000000000000→y≤1000000000000000000→x*y<10 ^ 200:=fun h h'=>Nat.lt_of_le_of_lt (Nat.mul_le_mul h h') (by decide)
 refine rrmul_ok ⟨f a1,?_⟩ ⟨f b1,?_⟩ ?_ ?_
 ·unfold Fits;rw [Int.natAbs_natCast];exact f a2
 ·unfold Fits;rw [Int.natAbs_natCast];exact f b2
 ·unfold Fits;rw [Int.natAbs_mul];exact g a1 b1
 ·unfold Fits;rw [Int.natAbs_mul,Int.natAbs_natCast,Int.natAbs_natCast];exact g a2 b2
theorem rradd_dn {D B C E:Nat} {p q:Rat} (hp:Dn D B p) (hq:Dn D C q) (hD:0<D) (hE:B+C≤E) (h2:(E+1)*(D*D)<10 ^ 200):m71 (rt p,rt q)=some (rt (p+q),0):=by
 obtain ⟨a1,a2⟩:=hp.num_den hD
 obtain ⟨b1,b2⟩:=hq.num_den hD
 have m1:p.num.natAbs*q.den≤B*(D*D):=by rw [← Nat.mul_assoc];exact Nat.mul_le_mul a2 b1
 have m2:q.num.natAbs*p.den≤C*(D*D):=by rw [← Nat.mul_assoc];exact Nat.mul_le_mul b2 a1
 have m3:p.den*q.den≤D*D:=Nat.mul_le_mul a1 b1
 have mm:B*(D*D)+C*(D*D)≤E*(D*D):=by rw [← Nat.add_mul];exact Nat.mul_le_mul_right _ hE
 have e:(E+1)*(D*D)=E*(D*D)+D*D:=by rw [Nat.add_mul,Nat.one_mul]
 have e1:(p.num*(q.den:Int)).natAbs=p.num.natAbs*q.den:=by rw [Int.natAbs_mul,Int.natAbs_natCast]
 have e2:(q.num*(p.den:Int)).natAbs=q.num.natAbs*p.den:=by rw [Int.natAbs_mul,Int.natAbs_natCast]
 refine rradd_ok (hp.fits2 hD (C:=E) (by omega) h2) (hq.fits2 hD (C:=E) (by omega) h2) ?_ ?_ ?_ ?_
 ·unfold Fits;rw [e1];omega
 ·unfold Fits;rw [e2];omega
 ·unfold Fits
  have:=Int.natAbs_add_le (p.num*(q.den:Int)) (q.num*(p.den:Int))
  omega
 ·unfold Fits;rw [Int.natAbs_mul,Int.natAbs_natCast,Int.natAbs_natCast];omega
theorem quo3 {v a b c:Int} (ha:a≠0) (hb:b≠0) (hc:c≠0):(v*(a*b*c)).tdiv a=v*(b*c)∧(v*(a*b*c)).tdiv b=v*(a*c)∧(v*(a*b*c)).tdiv c=v*(a*b):=by
 refine ⟨?_,?_,?_⟩
 ·rw [show v*(a*b*c)=v*(b*c)*a by grind];exact Int.mul_tdiv_cancel _ ha
 ·rw [show v*(a*b*c)=v*(a*c)*b by grind];exact Int.mul_tdiv_cancel _ hb
 ·rw [show v*(a*b*c)=v*(a*b)*c by grind];exact Int.mul_tdiv_cancel _ hc
theorem term_ref {A B C:Spt} {va vb vc:Int} {p q r:Spt} (hp:0<p.2.2) (hq:0<q.2.2) (hr:0<r.2.2) :
  Rat.divInt (dt3 p q r) (p.2.2*q.2.2*r.2.2)*Rat.divInt (valQ A B C va vb vc p*(q.2.2*r.2.2)+valQ A B C va vb vc q*(p.2.2*r.2.2)+valQ A B C va vb vc r*(p.2.2*q.2.2)) (6*(p.2.2*q.2.2*r.2.2))=phi (wV A B C va vb vc) (rp p) (rp q) (rp r):=by
 rw [← term_rat hp hq hr,Rat.divInt_mul_divInt]
 congr 1<;>grind
structure OkO (O:List Spt):Prop where
 le:O.length≤121
 pb:∀ x∈O,PB x∧0<x.2.2∧∃ y,Bx y∧rp x=rp y
theorem phi_dn {W H:Nat} {v:Nat→Int} (h:OkV W H v) {ax ay bx by_ cx cy:Int} (T:Trg W H ax ay bx by_ cx cy) {p q r:Spt} (hp:Bx p) (hq:Bx q) (hr:Bx r):Dn DO 4000000000000 (phi (wV (lineF bx by_ cx cy) (lineF cx cy ax ay) (lineF ax ay bx by_) (nv W v ax ay) (nv W v bx by_) (nv W v cx cy)) (rp p) (rp q) (rp r)):=by
 have:=(fan_step h T hp hq hr (B:=0) (acc:=0) (by omega) Dn.zero (i:=0) (by omega) (by omega)).2
 rw [Rat.zero_add,Nat.zero_add] at this
 exact this
theorem rfanE_ok {W H:Nat} {v:Nat→Int} (h:OkV W H v) {ax ay bx by_ cx cy:Int} (T:Trg W H ax ay bx by_ cx cy) {O:List Spt} (hO:OkO O) {B:Nat} {acc:Rat} (hB:B≤50000000000000000) (hacc:Dn DO B acc) :
  rfanE O ax ay (nv W v ax ay) bx by_ (nv W v bx by_) cx cy (nv W v cx cy) (rt acc)=some (rt (acc+fan (wV (lineF bx by_ cx cy) (lineF cx cy ax ay) (lineF ax ay bx by_) (nv W v ax ay) (nv W v bx by_) (nv W v cx cy)) O)):=by
 obtain ⟨a0,a1,a2,a3⟩:=T.a
 obtain ⟨b0,b1,b2,b3⟩:=T.b
 obtain ⟨c0,c1,c2,c3⟩:=T.c
 have na:=nv_bd h a0 a1 a2 a3
 have nb:=nv_bd h b0 b1 b2 b3
 have nc:=nv_bd h c0 c1 c2 c3
 have hwt:=fun {q:Spt} (hq:PB q)=>weighted_ok T na nb nc hq
 have hpd:=fun {p q r:Spt} (hp:Bx p) (hq:Bx q) (hr:Bx r)=>phi_dn h T hp hq hr
 have hle:=hO.le
 generalize nv W v ax ay=va at *
 generalize nv W v bx by_=vb at *
 generalize nv W v cx cy=vc at *
 have htr:=fun {p q r:Spt} (hp:0<p.2.2) (hq:0<q.2.2) (hr:0<r.2.2)=>term_ref (A:=lineF bx by_ cx cy) (B:=lineF cx cy ax ay) (C:=lineF ax ay bx by_) (va:=va) (vb:=vb) (vc:=vc) hp hq hr
 obtain ⟨X,hX⟩:∃ X,X=valQ (lineF bx by_ cx cy) (lineF cx cy ax ay) (lineF ax ay bx by_) va vb vc:=⟨_,rfl⟩
 obtain ⟨V',hV'⟩:∃ V',V'=wV (lineF bx by_ cx cy) (lineF cx cy ax ay) (lineF ax ay bx by_) va vb vc:=⟨_,rfl⟩
 rw [← hV'] at hpd htr ⊢
 simp only [← hX] at hwt htr
 obtain ⟨f,hf⟩:∃ f:Nat→Rat,f=fun i=>phi V' (rp (O.getD 0 z3)) (rp (O.getD (i+1) z3)) (rp (O.getD (i+2) z3)):=⟨_,rfl⟩
 have hfin:fan V' O=qsum (O.length-2) f:=by rw [hf];rfl
 have hfd:∀ k,k+2<O.length→Dn DO 4000000000000 (f k):=fun k hk=>by
  obtain ⟨_,_,y0,g0,e0⟩:=hO.pb _ (getD_mem3 (show 0<O.length by omega))
  obtain ⟨_,_,y1,g1,e1⟩:=hO.pb _ (getD_mem3 (show k+1<O.length by omega))
  obtain ⟨_,_,y2,g2,e2⟩:=hO.pb _ (getD_mem3 hk)
  rw [hf]
  dsimp only
  rw [e0,e1,e2]
  exact hpd g0 g1 g2
 have hdn:∀ k,k≤O.length-2→Dn DO (B+k*4000000000000) (acc+qsum k f):=by
  intro k
  induction k with
  | zero=>intro _;rw [Nat.zero_mul,show qsum 0 f=0 from rfl,Rat.add_zero];exact hacc
  | succ k ih =>
   intro hk
   rw [show qsum (k+1) f=qsum k f+f k from rfl,← Rat.add_assoc]
   exact ((ih (by omega)).add (hfd k (by omega))).mono (by omega)
 rw [hfin]
 unfold rfanE
 have e0:rt acc=rt (acc+qsum 0 f):=by rw [show qsum 0 f=0 from rfl,Rat.add_zero]
 rw [e0]
 refine loopM_fn (fun k=>(((k+1:Nat):Int),rt (acc+qsum k f))) (O.length-2) (fun k hk=>?_) ?_
 ·have i0:idxM O 0=some (O.getD 0 z3):=idxZ (k:=0) (by omega)
  have i1:idxM O ((k+1:Nat):Int)=some (O.getD (k+1) z3):=idxZ (by omega)
  have i2:idxM O ((k+2:Nat):Int)=some (O.getD (k+2) z3):=idxZ (by omega)
  obtain ⟨p0,p1,_⟩:=hO.pb _ (getD_mem3 (show 0<O.length by omega))
  obtain ⟨q0,q1,_⟩:=hO.pb _ (getD_mem3 (show k+1<O.length by omega))
  obtain ⟨r0,r1,_⟩:=hO.pb _ (getD_mem3 (show k+2<O.length by omega))
  have hfk:=hfd k (by omega)
  have hdk:=hdn k (by omega)
  have hfe:f k=phi V' (rp (O.getD 0 z3)) (rp (O.getD (k+1) z3)) (rp (O.getD (k+2) z3)):=by rw [hf]
  have ew:wrap .i64 (((k+1:Nat):Int)+1)=((k+2:Nat):Int):=by rw [wrap_in (by omega) (by omega)];rfl
  have eadd:acc+qsum k f+f k=acc+qsum (k+1) f:=by rw [show qsum (k+1) f=qsum k f+f k from rfl,Rat.add_assoc]
  dsimp only
  rw [ew,lenL,ltI (by omega),cond_true,i0,Option.bind_some,i1,Option.bind_some,i2,Option.bind_some]
  generalize O.getD 0 z3=p at *
  generalize O.getD (k+1) z3=q at *
  generalize O.getD (k+2) z3=r at *
  simp only [i30,i31,i32,Option.bind_some]
  obtain ⟨wp,xp0,xp1⟩:=hwt p0
  obtain ⟨wq,xq0,xq1⟩:=hwt q0
  obtain ⟨wr,xr0,xr1⟩:=hwt r0
  have ht:=htr p1 q1 r1
  have hdet:=det_ok p0 q0 r0
  obtain ⟨p2,p3,p4,p5,p6,p7⟩:=p0
  obtain ⟨q2,q3,q4,q5,q6,q7⟩:=q0
  obtain ⟨r2,r3,r4,r5,r6,r7⟩:=r0
  have d1:=mul_in (x:=p.2.2) (y:=q.2.2) (A:=72) (B:=72) (by omega) (by omega)
  have d1p:=Int.mul_pos p1 q1
  have d2:=mul_in (x:=p.2.2*q.2.2) (y:=r.2.2) (A:=5184) (B:=72) (by omega) (by omega)
  have d2p:=Int.mul_pos d1p r1
  have dqr:=mul_in (x:=q.2.2) (y:=r.2.2) (A:=72) (B:=72) (by omega) (by omega)
  have dpr:=mul_in (x:=p.2.2) (y:=r.2.2) (A:=72) (B:=72) (by omega) (by omega)
  have t1:=mul_in (x:=X p) (y:=q.2.2*r.2.2) (A:=777600) (B:=5184) (by omega) (by omega)
  have t2:=mul_in (x:=X q) (y:=p.2.2*r.2.2) (A:=777600) (B:=5184) (by omega) (by omega)
  have t3:=mul_in (x:=X r) (y:=p.2.2*q.2.2) (A:=777600) (B:=5184) (by omega) (by omega)
  have u1:=mul_in (x:=X p) (y:=p.2.2*q.2.2*r.2.2) (A:=777600) (B:=373248) (by omega) (by omega)
  have u2:=mul_in (x:=X q) (y:=p.2.2*q.2.2*r.2.2) (A:=777600) (B:=373248) (by omega) (by omega)
  have u3:=mul_in (x:=X r) (y:=p.2.2*q.2.2*r.2.2) (A:=777600) (B:=373248) (by omega) (by omega)
  have dm1:=mul_in (x:=q.2.1) (y:=r.2.2) (A:=864) (B:=72) (by omega) (by omega)
  have dm2:=mul_in (x:=q.2.2) (y:=r.2.1) (A:=72) (B:=864) (by omega) (by omega)
  have dm3:=mul_in (x:=q.1) (y:=r.2.2) (A:=864) (B:=72) (by omega) (by omega)
  have dm4:=mul_in (x:=q.2.2) (y:=r.1) (A:=72) (B:=864) (by omega) (by omega)
  have dm5:=mul_in (x:=q.1) (y:=r.2.1) (A:=864) (B:=864) (by omega) (by omega)
  have dm6:=mul_in (x:=q.2.1) (y:=r.1) (A:=864) (B:=864) (by omega) (by omega)
  have du1:=mul_in (x:=p.1) (y:=q.2.1*r.2.2-q.2.2*r.2.1) (A:=864) (B:=124416) (by omega) (by omega)
  have du2:=mul_in (x:=p.2.1) (y:=q.1*r.2.2-q.2.2*r.1) (A:=864) (B:=124416) (by omega) (by omega)
  have du3:=mul_in (x:=p.2.2) (y:=q.1*r.2.1-q.2.1*r.1) (A:=72) (B:=1492992) (by omega) (by omega)
  have hdb:-1000000000≤dt3 p q r∧dt3 p q r≤1000000000:=by unfold dt3;omega
  obtain ⟨s1,_,_⟩:=quo3 (v:=X p) (a:=p.2.2) (b:=q.2.2) (c:=r.2.2) (by omega) (by omega) (by omega)
  obtain ⟨_,s2,_⟩:=quo3 (v:=X q) (a:=p.2.2) (b:=q.2.2) (c:=r.2.2) (by omega) (by omega) (by omega)
  obtain ⟨_,_,s3⟩:=quo3 (v:=X r) (a:=p.2.2) (b:=q.2.2) (c:=r.2.2) (by omega) (by omega) (by omega)
  clear dm1 dm2 dm3 dm4 dm5 dm6 du1 du2 du3
  rw [wrap_in (n:=p.2.2*q.2.2) (by omega) (by omega),wrap_in (n:=p.2.2*q.2.2*r.2.2) (by omega) (by omega),wrap_in (n:=6*(p.2.2*q.2.2*r.2.2)) (by omega) (by omega)]
  refine bind_of (x:=X p*(q.2.2*r.2.2)+X q*(p.2.2*r.2.2)+X r*(p.2.2*q.2.2)) ?_ ?_
  ·refine loopM_fn (fun k=>([0,X p*(q.2.2*r.2.2),X p*(q.2.2*r.2.2)+X q*(p.2.2*r.2.2),X p*(q.2.2*r.2.2)+X q*(p.2.2*r.2.2)+X r*(p.2.2*q.2.2)].getD k 0,(k:Int))) 3 (fun k hk=>?_) rfl
   rcases (show k=0∨k=1∨k=2 by omega) with rfl | rfl | rfl
   ·refine Eq.trans (b:=some (Sum.inl (X p*(q.2.2*r.2.2),(1:Int)))) ?_ rfl
    dsimp only
    rw [ltI (by omega),cond_true,show ((0:Nat):Int)=0 from rfl]
    rw [i30,Option.bind_some,wp,Option.bind_some,Option.bind_some,divM_pos (b:=p.2.2) (by omega),wrap_in (n:=X p*_) (by omega) (by omega),s1,wrap_in (n:=X p*_) (by omega) (by omega),Option.bind_some]
    show some (Sum.inl (wrap .i64 (0+X p*(q.2.2*r.2.2)),wrap .i64 (0+1)))=_
    rw [Int.zero_add,wrap_in (n:=X p*_) (by omega) (by omega)];rfl
   ·refine Eq.trans (b:=some (Sum.inl (X p*(q.2.2*r.2.2)+X q*(p.2.2*r.2.2),(2:Int)))) ?_ rfl
    dsimp only
    rw [ltI (by omega),cond_true,show ((1:Nat):Int)=1 from rfl]
    rw [i31,Option.bind_some,wq,Option.bind_some,Option.bind_some,divM_pos (b:=q.2.2) (by omega),wrap_in (n:=X q*_) (by omega) (by omega),s2,wrap_in (n:=X q*_) (by omega) (by omega),Option.bind_some]
    show some (Sum.inl (wrap .i64 (X p*(q.2.2*r.2.2)+X q*(p.2.2*r.2.2)),wrap .i64 (1+1)))=_
    rw [wrap_in (n:=_+_) (by omega) (by omega)];rfl
   ·refine Eq.trans (b:=some (Sum.inl (X p*(q.2.2*r.2.2)+X q*(p.2.2*r.2.2)+X r*(p.2.2*q.2.2),(3:Int)))) ?_ rfl
    dsimp only
    rw [ltI (by omega),cond_true,show ((2:Nat):Int)=2 from rfl]
    rw [i32,Option.bind_some,wr,Option.bind_some,Option.bind_some,divM_pos (b:=r.2.2) (by omega),wrap_in (n:=X r*_) (by omega) (by omega),s3,wrap_in (n:=X r*_) (by omega) (by omega),Option.bind_some]
    show some (Sum.inl (wrap .i64 (X p*(q.2.2*r.2.2)+X q*(p.2.2*r.2.2)+X r*(p.2.2*q.2.2)),wrap .i64 (2+1)))=_
    rw [wrap_in (n:=_+_) (by omega) (by omega)];rfl
  ·rw [hdet,Option.bind_some,rof_ok (by omega) (by omega) (by omega),Option.bind_some,rof_ok (by omega) (by omega) (by omega),Option.bind_some]
   refine bind_of (rrmul_small (by omega) (by omega) (by omega) (by omega) (by omega) (by omega)) ?_
   rw [ht,← hfe]
   refine bind_of (rradd_dn hdk hfk DO_pos (E:=1000000000000000000) (by omega) DO_fit) ?_
   rw [← eadd]
 ·have:wrap .i64 (((O.length-2+1:Nat):Int)+1)=((O.length-2+2:Nat):Int):=by rw [wrap_in (by omega) (by omega)];rfl
  dsimp only
  rw [this,lenL,geI (by omega),cond_false]
end Go.Proofs.YtdgabicjcepmeaaGreatDoor
