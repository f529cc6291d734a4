/-
 Texts of this proof, put together: Ja, Iz, Jb, Jc, Jd, Je, Jf, Jg, Jh, Ji, Jl, Jm, Fd, Fe, Ff, Ci, Df, Dg, Dh, Di, Dj, Dk, Dl, Dr, Ds, Fg, Fh, Fi, Cf, Ch, Cm, BG, BH.
 No conditions.
-/
import Derived.Test.YtfekoiabjbdnfaaGreatZ5
import Derived.Test.YtfekoiabjbdnfaaGreatZ4
set_option linter.all false
namespace Go.Num
open Go Go.Lib Go.PE
def vt:List Int→Int
 | []=>0
 | d::l=>d+10*vt l
def okt (l:List Int):Prop:=∀ d∈l,0≤d∧d≤9
def dgs (n:Nat):List Int:=if h:n=0 then [] else ((n % 10:Nat):Int)::dgs (n / 10)
termination_by n
decreasing_by omega
theorem dgs_zero:dgs 0=[]:=by rw [dgs];simp
theorem dgs_pos {n:Nat} (h:n≠0):dgs n=((n % 10:Nat):Int)::dgs (n / 10):=by rw [dgs];simp [h]
theorem okt_nil:okt []:=fun _ h=>absurd h (by simp)
theorem okt_cons {d:Int} {l:List Int}:okt (d::l)↔(0≤d∧d≤9)∧okt l:=by unfold okt;simp
theorem okt_app {l m:List Int}:okt (l++m)↔okt l∧okt m:=by
 unfold okt;constructor
 ·exact fun h=>⟨fun d hd=>h d (by simp [hd]),fun d hd=>h d (by simp [hd])⟩
 ·rintro ⟨h1,h2⟩ d hd;rcases List.mem_append.1 hd with h | h
  ·exact h1 d h
  ·exact h2 d h
theorem vt_nn:∀ {l:List Int},okt l→0≤vt l
 | [],_=>by simp [vt]
 | d::l,h=>by have:=vt_nn (okt_cons.1 h).2;have:=(okt_cons.1 h).1;simp only [vt];omega
theorem dgs_okd (n:Nat):okt (dgs n):=by
 induction n using Nat.strongRecOn with
 | _ n ih =>
  by_cases h:n=0
  ·subst h;rw [dgs_zero];exact okt_nil
  ·rw [dgs_pos h,okt_cons];exact ⟨by omega,ih _ (by omega)⟩
theorem vt_grp (n:Nat):vt (dgs n)=n:=by
 induction n using Nat.strongRecOn with
 | _ n ih =>
  by_cases h:n=0
  ·subst h;rw [dgs_zero];rfl
  ·rw [dgs_pos h,vt,ih _ (by omega)];omega
theorem vt_app:∀ (l m:List Int),vt (l++m)=vt l+10 ^ l.length*vt m
 | [],m=>by simp [vt]
 | d::l,m=>by
  simp only [List.cons_append,vt,vt_app l m,List.length_cons,Int.pow_succ]
  rw [Int.mul_add,← Int.add_assoc,← Int.mul_assoc,Int.mul_comm 10 (10 ^ l.length)]
theorem dgs_of:∀ {l:List Int},okt l→(∀ h:l≠[],l.getLast h≠0)→dgs (vt l).toNat=l
 | [],_,_=>by simp [vt,dgs_zero]
 | d::l,h,hl=>by
  obtain ⟨h1,h2⟩:=okt_cons.1 h
  have hn:=vt_nn h2
  have hl':∀ h:l≠[],l.getLast h≠0:=fun h=>by have:=hl (by simp);rwa [List.getLast_cons h] at this
  have hz:(vt (d::l)).toNat≠0:=by
   intro h0
   have h3:vt l=0∧d=0:=by simp only [vt] at h0;omega
   cases l with
   | nil=>have:=hl (by simp);simp at this;exact this h3.2
   | cons e l=>have:=dgs_of h2 hl';rw [h3.1] at this;simp [dgs_zero] at this
  rw [dgs_pos hz]
  have e1:(((vt (d::l)).toNat % 10:Nat):Int)=d:=by simp only [vt];omega
  have e2:(vt (d::l)).toNat / 10=(vt l).toNat:=by simp only [vt];omega
  rw [e1,e2,dgs_of h2 hl']
theorem dgs_drop:∀ (i n:Nat),(dgs n).drop i=dgs (n / 10 ^ i)
 | 0,n=>by simp
 | i+1,n=>by
  by_cases h:n=0
  ·subst h;simp [dgs_zero]
  ·rw [dgs_pos h,List.drop_succ_cons,dgs_drop i,Nat.pow_succ,Nat.div_div_eq_div_mul,Nat.mul_comm]
theorem dgs_nil {n:Nat}:dgs n=[]↔n=0:=by
 constructor
 ·intro h;by_cases h0:n=0
  ·exact h0
  ·rw [dgs_pos h0] at h;simp at h
 ·rintro rfl;exact dgs_zero
theorem dgs_get (n i:Nat):(dgs n).getD i 0=((n / 10 ^ i % 10:Nat):Int):=by
 have h:(dgs n).getD i 0=((dgs n).drop i).getD 0 0:=by simp
 rw [h,dgs_drop]
 by_cases h0:n / 10 ^ i=0
 ·rw [h0];simp [dgs_zero]
 ·rw [dgs_pos h0];rfl
theorem dgs_len_le {n k:Nat} (h:n<10 ^ k):(dgs n).length≤k:=by
 have h1:(dgs n).drop k=[]:=by rw [dgs_drop,Nat.div_eq_of_lt h,dgs_zero]
 exact List.drop_eq_nil_iff.1 h1
theorem dgs_lt (n:Nat):n<10 ^ (dgs n).length:=by
 have h1:(dgs n).drop (dgs n).length=[]:=List.drop_length
 rw [dgs_drop,dgs_nil] at h1
 rcases Nat.div_eq_zero_iff.1 h1 with h | h
 ·have:=Nat.pow_pos (n:=(dgs n).length) (show 0<10 by decide);omega
 ·exact h
theorem dgs_len_gt {n k:Nat} (h:10 ^ k≤n):k<(dgs n).length:=by
 have:=dgs_lt n
 by_cases h2:k<(dgs n).length
 ·exact h2
 ·have:=Nat.pow_le_pow_right (show 0<10 by decide) (Nat.le_of_not_lt h2);omega
theorem pow_post (k:Nat):(0:Int)<10 ^ k:=Int.pow_pos (by omega)
theorem vt_lt:∀ {l:List Int},okt l→vt l<10 ^ l.length
 | [],_=>by show (0:Int)<1;omega
 | d::l,h=>by
  have:=vt_lt (okt_cons.1 h).2
  have:=(okt_cons.1 h).1
  rw [List.length_cons,Int.pow_succ]
  simp only [vt]
  omega
theorem vt_snoc (l:List Int) (d:Int):vt (l++[d])=vt l+10 ^ l.length*d:=by
 rw [vt_app];simp [vt]
theorem okt_get {l:List Int} (h:okt l) (i:Nat):0≤l.getD i 0∧l.getD i 0≤9:=by
 by_cases hi:i<l.length
 ·rw [getD_in _ _ hi];exact h _ (List.getElem_mem hi)
 ·rw [getD_out _ _ (by omega)];omega

end Go.Num
namespace Go.Proofs.YtfekoiabjbdnfaaGreat
open Go Go.Lib Go.Abs Go.PE Go.Num
open Go.IntKind (wrap)
theorem itoa_zero:itoa 0=[48]:=by rw [show (0:Int)=((0:Nat):Int) from rfl,itoa_nn,dec_zero]
theorem itoa_eq0 {z:Int}:itoa z=[48]↔z=0:=⟨fun h=>itoa_inj (h.trans itoa_zero.symm),fun h=>h▸itoa_zero⟩
theorem eqsT {x y:List UInt8} (h:x=y):eqsM x y=true:=dT h
theorem eqsF {x y:List UInt8} (h:x≠y):eqsM x y=false:=decide_eq_false h
theorem lenI {α:Type} (l:List α):lenM l=(l.length:Int):=rfl
theorem snoc_of {α:Type} {l:List α} (h:l≠[]):∃ t d,l=t++[d]:=⟨l.dropLast,l.getLast h,(List.dropLast_concat_getLast h).symm⟩
def cmp3 (x y:Int):Int:=if x<y then -1 else if y<x then 1 else 0
def Fits (z:Int):Prop:=z.natAbs<10 ^ 200
instance (z:Int):Decidable (Fits z):=inferInstanceAs (Decidable (z.natAbs<10 ^ 200))
def sn (z:Int):List UInt8×Int:=if Fits z then (itoa z,0) else ([],30)
theorem sn_fit {z:Int} (h:Fits z):sn z=(itoa z,0):=if_pos h
end Go.Proofs.YtfekoiabjbdnfaaGreat
namespace Go.Proofs.YtfekoiabjbdnfaaGreat
open Go Go.Lib Go.Abs Go.PE Go.Num
theorem rtrim_ok {l:List Int} (h:okt l) (hl:l.length≤100000):m120 l=some (dgs (vt l).toNat):=by
 unfold m120
 refine bind_of (loopM_is (r:=dgs (vt l).toNat) (fun k s=>okt s∧vt s=vt l∧s.length+k=l.length) l.length ⟨h,rfl,by omega⟩ ?_) rfl
 rintro k s hk ⟨h1,h2,h3⟩
 by_cases h0:s=[]
 ·subst h0
  right
  have e:vt l=0:=h2.symm
  rw [e,show (0:Int).toNat=0 from rfl,dgs_zero];rfl
 ·obtain ⟨t,d,rfl⟩:=snoc_of h0
  have hlen:lenM (t++[d])=(t.length:Int)+1:=by rw [lenI];simp
  have hlen2:(t++[d]).length=t.length+1:=by simp
  have e:IntKind.wrap .i64 (lenM (t++[d])-1)=(t.length:Int):=by rw [hlen,wrap_in (by omega) (by omega)];omega
  have e1:idxM (t++[d]) (t.length:Int)=some d:=by rw [idxM_nat];simp
  have e2:sliceM (t++[d]) 0 (t.length:Int)=some t:=by rw [sliceM_of (by omega) (by omega) (by rw [hlen2];omega)];simp
  rw [e,ltI (show (0:Int)<lenM (t++[d]) by rw [hlen];omega),cT,e1,oB,andT]
  by_cases hd:d=0
  ·left
   refine ⟨t,by omega,by rw [eqI hd,cT,e2];rfl,(okt_app.1 h1).1,?_,by omega⟩
   rw [← h2,vt_snoc,hd];omega
  ·right
   rw [neI hd,cF,← h2,dgs_of h1 fun _=>by simpa using hd]
theorem dgs_idx {n i:Nat} (h:i<(dgs n).length):idxM (dgs n) (i:Int)=some ((n / 10 ^ i % 10:Nat):Int):=by
 rw [idxM_lt h,← getD_in _ 0 h,dgs_get]
theorem dgs_len_mono {a b:Nat} (h:a≤b):(dgs a).length≤(dgs b).length:=dgs_len_le (Nat.lt_of_le_of_lt h (dgs_lt b))
theorem div10_succ (n j:Nat):n / 10 ^ (j+1)=n / 10 ^ j / 10:=by rw [Nat.pow_succ,Nat.div_div_eq_div_mul]
def ordN (a b:Nat):Int:=if a<b then -1 else if b<a then 1 else 0
theorem order_ok {a b:Nat} (ha:(dgs a).length≤1000) (hb:(dgs b).length≤1000):m121 (dgs a,dgs b)=some (ordN a b):=by
 unfold m121
 dsimp only
 rw [lenI,lenI]
 by_cases hl:(dgs a).length=(dgs b).length
 ·rw [eqI (by omega),notT,cF]
  have hw:IntKind.wrap .i64 (((dgs a).length:Int)-1)=((dgs a).length:Int)-1:=wrap_in (by omega) (by omega)
  rw [hw]
  refine bind_of (x:=if a<b then Sum.inr (-1) else if b<a then Sum.inr 1 else Sum.inl ()) (loopM_is (fun k s=>s=((dgs a).length:Int)-1-k∧k≤(dgs a).length∧a / 10 ^ ((dgs a).length-k)=b / 10 ^ ((dgs a).length-k)) (dgs a).length ⟨by simp,by omega,?_⟩ ?_) ?_
  ·rw [Nat.sub_zero,Nat.div_eq_of_lt (dgs_lt a),hl,Nat.div_eq_of_lt (dgs_lt b)]
  ·rintro k s hk ⟨h1,h2,h3⟩
   by_cases hz:k=(dgs a).length
   ·right
    rw [hz,Nat.sub_self,Nat.pow_zero,Nat.div_one,Nat.div_one] at h3
    rw [gtI (by omega),cF,h3,if_neg (by omega)]
    rw [if_neg (by omega)]
   ·obtain ⟨i,hi⟩:∃ i,(dgs a).length-k=i+1:=⟨(dgs a).length-k-1,by omega⟩
    have hs:s=(i:Int):=by omega
    rw [hi,div10_succ,div10_succ] at h3
    subst hs
    rw [leI (by omega),cT,dgs_idx (by omega),oB,dgs_idx (by omega),oB]
    by_cases hd:a / 10 ^ i % 10=b / 10 ^ i % 10
    ·left
     refine ⟨(i:Int)-1,by omega,by rw [eqI (by omega),notT,cF,wrap_in (by omega) (by omega)],by omega,by omega,?_⟩
     rw [show (dgs a).length-(k+1)=i by omega];omega
    ·right
     rw [neI (by omega),notF,cT,oB,oB]
     have mono:∀ {x y:Nat},x≤y→x / 10 ^ i≤y / 10 ^ i:=fun h=>Nat.div_le_div_right h
     by_cases c:a / 10 ^ i % 10<b / 10 ^ i % 10
     ·rw [ltI (by omega),cT,if_pos]
      refine Nat.lt_of_not_le fun q=>?_
      have:=mono q;omega
     ·rw [geI (by omega),cF]
      have:b<a:=Nat.lt_of_not_le fun q=>by have:=mono q;omega
      rw [if_neg (by omega),if_pos this]
  ·unfold ordN
   split
   ·rfl
   ·split<;>rfl
 ·rw [neI (by omega),notF,cT]
  unfold ordN
  by_cases c:(dgs a).length<(dgs b).length
  ·rw [ltI (by omega),cT,if_pos]
   refine Nat.lt_of_not_le fun q=>?_
   have:=dgs_len_mono q;omega
  ·rw [geI (by omega),cF]
   have:b<a:=Nat.lt_of_not_le fun q=>by have:=dgs_len_mono q;omega
   rw [if_neg (by omega),if_pos this]
theorem dec_dgs (n:Nat) (h:n≠0):decDigits n=((dgs n).map fun d=>UInt8.ofNat (48+d.toNat)).reverse:=by
 induction n using Nat.strongRecOn with
 | _ n ih =>
  rw [dgs_pos h]
  by_cases h2:10≤n
  ·rw [dec_step h2,ih (n / 10) (by omega) (by omega)];simp;congr 1
  ·rw [decDigits_one (by omega),show n / 10=0 by omega,dgs_zero,Nat.mod_eq_of_lt (show n<10 by omega)];simp
theorem byteM_at {s:List UInt8} {i:Nat} (h:i<s.length):byteM s (i:Int)=some ((s[i]).toNat:Int):=by
 unfold byteM
 rw [dT (show (0:Int)≤i by omega)]
 simp [h]
theorem wrap_u8 {n:Int} (h:0≤n) (h2:n≤255):IntKind.wrap IntKind.u8 n=n:=by
 unfold IntKind.wrap
 have b:IntKind.u8.bits=8:=rfl
 have g:IntKind.u8.signed=false:=rfl
 rw [b,g]
 simp
 omega
theorem dec_len_dgs {n:Nat} (h:n≠0):(decDigits n).length=(dgs n).length:=by rw [dec_dgs n h];simp
theorem dec_at {n k:Nat} (h:n≠0) (hk:k<(dgs n).length):byteM (decDigits n) (((dgs n).length-1-k:Nat):Int)=some (48+((n / 10 ^ k % 10:Nat):Int)):=by
 rw [byteM_at (by rw [dec_len_dgs h];omega)]
 have e:(decDigits n)[(dgs n).length-1-k]'(by rw [dec_len_dgs h];omega)=UInt8.ofNat (48+(n / 10 ^ k % 10)):=by
  have g:(dgs n)[k]=((n / 10 ^ k % 10:Nat):Int):=by rw [← getD_in _ 0 hk,dgs_get]
  simp only [dec_dgs n h,List.getElem_reverse,List.getElem_map,List.length_map]
  have:(dgs n).length-1-((dgs n).length-1-k)=k:=by omega
  simp only [this,g]
  congr 1
 rw [e,dig_toNat (by omega)]
 simp
theorem dec48 {n:Nat} (h:n≠0):decDigits n≠[48]:=fun e=>h (by rw [← dv_dec n,e];rfl)
theorem digits_ok {z:Int} (h:z.natAbs<10 ^ 200):m103 (itoa z)=some (decide (z<0),dgs z.natAbs):=by
 unfold m103
 have hl:(decDigits z.natAbs).length≤200:=dec_len_le (k:=199) h
 have main:(loopM (fun (s:Int×List Int) =>
  bif PE.andM (leM 0 s.1) (PE.notM (eqsM (decDigits z.natAbs) [(48:UInt8)])) then (byteM (decDigits z.natAbs) s.1).bind fun r_1=>(appM (nat_lit 8) s.2 [IntKind.wrap .i64 (IntKind.wrap IntKind.u8 (r_1 -
  48))]).bind fun r=>some (Sum.inl (IntKind.wrap .i64 (s.1-1),r)) else some (Sum.inr s.2)) (IntKind.wrap .i64 (lenM (decDigits z.natAbs)-1),[]))=some (dgs z.natAbs):=by
  by_cases h0:z.natAbs=0
  ·rw [h0,dec_zero,dgs_zero]
   exact loopM_is (fun k s=>k=0∧s=((0:Int),([]:List Int))) 0 ⟨rfl,rfl⟩ fun k s hk ⟨_,hs⟩=>.inr (by rw [hs];rfl)
  ·have hd:=dec_len_dgs h0
   generalize z.natAbs=n at *
   have hw:IntKind.wrap .i64 (lenM (decDigits n)-1)=((dgs n).length:Int)-1:=by rw [lenI,wrap_in (by omega) (by omega),hd]
   rw [hw]
   have key:=loopM_fn (fun k=>(((dgs n).length:Int)-1-(k:Int),(dgs n).take k)) (dgs n).length (r:=dgs n) (body:=fun (s:Int×List Int) =>
    bif PE.andM (leM 0 s.1) (PE.notM (eqsM (decDigits n) [(48:UInt8)])) then (byteM (decDigits n) s.1).bind fun r_1=>(appM (nat_lit 8) s.2 [IntKind.wrap .i64 (IntKind.wrap IntKind.u8 (r_1 -
    48))]).bind fun r=>some (Sum.inl (IntKind.wrap .i64 (s.1-1),r)) else some (Sum.inr s.2)) (fun k hk=>?_) ?_
   ·simpa using key
   ·dsimp only
    rw [leI (by omega),eqsF (dec48 h0),notF,andT,cT,show ((dgs n).length:Int)-1-(k:Int)=(((dgs n).length-1-k:Nat):Int) by omega,dec_at h0 hk,oB]
    rw [wrap_u8 (by omega) (by omega),wrap_in (by omega) (by omega),appM_of (by simp;omega),oB,wrap_in (by omega) (by omega)]
    have e:(dgs n).take (k+1)=(dgs n).take k++[((n / 10 ^ k % 10:Nat):Int)]:=by
     rw [List.take_add_one,List.getElem?_eq_getElem hk,← getD_in _ 0 hk,dgs_get];rfl
    rw [e,show 48+((n / 10 ^ k % 10:Nat):Int)-48=((n / 10 ^ k % 10:Nat):Int) by omega,show (((dgs n).length-1-k:Nat):Int)-1=((dgs n).length:Int)-1-((k+1:Nat):Int) by omega]
   ·dsimp only
    rw [gtI (by omega),andF,cF,List.take_length]
 by_cases hz:z<0
 ·have e:itoa z=45::decDigits z.natAbs:=by
   have:=itoa_ng (n:=z.natAbs) (by omega)
   rwa [show -(z.natAbs:Int)=z by omega] at this
  have b:byteM (itoa z) 0=some 45:=by rw [e];rfl
  have s:sliceM (itoa z) 1 (lenM (itoa z))=some (decDigits z.natAbs):=by
   rw [e,sliceM_of (by omega) (by simp;omega) (Int.le_refl _)]
   simp
  dsimp only
  rw [b,oB,eqI rfl,cT,s,oB,oB,main,oB,dT hz]
 ·have e:itoa z=decDigits z.natAbs:=by
   have:=itoa_nn (n:=z.natAbs)
   rwa [show (z.natAbs:Int)=z by omega] at this
  have hp:0<(decDigits z.natAbs).length:=List.length_pos_iff.2 (dec_ne _)
  have b:=byteM_at hp
  have hD:=dec_isD z.natAbs _ (List.getElem_mem hp)
  unfold isD at hD
  dsimp only
  rw [e,show (0:Int)=((0:Nat):Int) from rfl,b,oB,neI (by omega),cF,oB]
  rw [show ((0:Nat):Int)=0 from rfl,main,oB,decide_eq_false hz]
theorem dgs_200 {n:Nat}:leM (lenM (dgs n)) 200=decide (n<10 ^ 200):=by
 rw [lenI]
 by_cases h:n<10 ^ 200
 ·rw [dT h];exact leI (by have:=dgs_len_le h;omega)
 ·rw [decide_eq_false h];exact gtI (by have:=dgs_len_gt (show 10 ^ 200≤n by omega);omega)
def sg (ng:Bool) (n:Nat):Int:=if ng then -(n:Int) else n
theorem rtext_ok {ng:Bool} {n:Nat} (hl:(dgs n).length≤1000):m101 (ng,dgs n)=some (itoa (sg ng n),decide (n<10 ^ 200)):=by
 unfold m101
 dsimp only
 by_cases h0:n=0
 ·subst h0
  have e:sg ng 0=0:=by cases ng<;>rfl
  rw [dgs_zero,e,itoa_zero];rfl
 ·have hL:(dgs n).length≠0:=fun e=>h0 (dgs_nil.1 (List.length_eq_zero_iff.1 e))
  rw [neI (by rw [lenI];omega),cF]
  have hw:IntKind.wrap .i64 (lenM (dgs n)-1)=((dgs n).length:Int)-1:=by rw [lenI,wrap_in (by omega) (by omega)]
  obtain ⟨o,ho⟩:∃ o:List Int,o=if ng then [45] else []:=⟨_,rfl⟩
  have h1:(bif ng then (appM (nat_lit 1) [] [45]).bind fun r=>some r else some ([]:List Int))=some o:=by rw [ho];cases ng<;>rfl
  have hol:o.length≤1:=by rw [ho];split<;>simp
  rw [h1,oB,hw]
  have main:(loopM (fun (s:Int×List Int)=>bif leM 0 s.1 then (idxM (dgs n) s.1).bind fun r=>(appM (nat_lit 1) s.2 [IntKind.wrap IntKind.u8 (IntKind.wrap .i64 (48+r))]).bind
    fun r=>some (Sum.inl (IntKind.wrap .i64 (s.1-1),r)) else some (Sum.inr s.2)) (((dgs n).length:Int)-1,o))=some (o++(dgs n).reverse.map (48+·)):=by
   have key:=loopM_fn (fun k=>(((dgs n).length:Int)-1-(k:Int),o++((dgs n).reverse.map (48+·)).take k)) (dgs n).length (r:=o++(dgs n).reverse.map (48+·)) (body:=fun (s:Int×List Int)=>bif leM 0 s.1 then (idxM (dgs n) s.1).bind fun r=>(appM (nat_lit 1) s.2 [IntKind.wrap IntKind.u8 (IntKind.wrap .i64 (48+r))]).bind
    fun r=>some (Sum.inl (IntKind.wrap .i64 (s.1-1),r)) else some (Sum.inr s.2)) (fun k hk=>?_) ?_
   ·simpa using key
   ·dsimp only
    have hd:n / 10 ^ ((dgs n).length-1-k) % 10<10:=Nat.mod_lt _ (by omega)
    have hk2:k<((dgs n).reverse.map (48+·)).length:=by simpa using hk
    have hi:(dgs n).length-1-k<(dgs n).length:=by omega
    rw [leI (by omega),cT,show ((dgs n).length:Int)-1-(k:Int)=(((dgs n).length-1-k:Nat):Int) by omega,dgs_idx hi,oB]
    rw [wrap_in (n:=48+_) (by omega) (by omega),wrap_u8 (by omega) (by omega),appM_of (by simp;omega),oB,wrap_in (by omega) (by omega)]
    have e:((dgs n).reverse.map (48+·)).take (k+1)=((dgs n).reverse.map (48+·)).take k++[48+((n / 10 ^ ((dgs n).length-1-k) % 10:Nat):Int)]:=by
     rw [List.take_add_one,List.getElem?_eq_getElem hk2]
     have g:(dgs n)[(dgs n).length-1-k]=((n / 10 ^ ((dgs n).length-1-k) % 10:Nat):Int):=by rw [← getD_in _ 0 hi,dgs_get]
     simp only [List.getElem_map,List.getElem_reverse,g];rfl
    rw [e,List.append_assoc,show (((dgs n).length-1-k:Nat):Int)-1=((dgs n).length:Int)-1-((k+1:Nat):Int) by omega]
   ·dsimp only
    rw [gtI (by omega),cF,List.take_of_length_le (by simp)]
  rw [main,oB,dgs_200]
  have e:strB (o++(dgs n).reverse.map (48+·))=itoa (sg ng n):=by
   have e1:((dgs n).reverse.map (48+·)).map (fun d=>UInt8.ofNat d.toNat)=decDigits n:=by
    rw [dec_dgs n h0,← List.map_reverse,List.map_map]
    refine List.map_congr_left fun d hd=>?_
    have:=dgs_okd n d (List.mem_reverse.1 hd)
    dsimp only [Function.comp]
    congr 1
    omega
   unfold strB
   rw [List.map_append,e1,ho]
   cases ng
   ·show decDigits n=itoa (n:Int);rw [itoa_nn]
   ·show 45::decDigits n=itoa (-(n:Int));rw [itoa_ng h0]
  rw [e]
theorem rchecked_ok {ng:Bool} {n:Nat} (hl:(dgs n).length≤1000):m104 (ng,dgs n)=some (if n<10 ^ 200 then (itoa (sg ng n),0) else ([],30)):=by
 unfold m104
 dsimp only
 rw [rtext_ok hl,oB]
 by_cases h:n<10 ^ 200
 ·rw [if_pos h,dT h,notT,cF]
 ·rw [if_neg h,decide_eq_false h,notF,cT]
end Go.Proofs.YtfekoiabjbdnfaaGreat
namespace Go.Num
open Go Go.Lib Go.PE
theorem vt_set:∀ {l:List Int} {i:Nat} (h:i<l.length) (d:Int),vt (l.set i d)=vt l+10 ^ i*(d-l.getD i 0)
 | e::l,0,_,d=>by simp [vt];omega
 | e::l,i+1,h,d=>by
  have ih:=vt_set (l:=l) (i:=i) (by simpa using h) d
  simp only [List.set_cons_succ,vt,ih,List.getD_cons_succ,Int.pow_succ]
  grind
theorem okt_set {l:List Int} {i:Nat} {d:Int} (h:okt l) (hd:0≤d∧d≤9):okt (l.set i d):=fun e he=>(List.mem_or_eq_of_mem_set he).elim (h e) (fun q=>q▸hd)
theorem okt_snoc {l:List Int} {d:Int} (h:okt l) (hd:0≤d∧d≤9):okt (l++[d]):=okt_app.2 ⟨h,okt_cons.2 ⟨hd,okt_nil⟩⟩
theorem okt_rep (n:Nat):okt (List.replicate n 0):=fun d h=>by rw [List.eq_of_mem_replicate h];omega
theorem vt_rep:∀ n,vt (List.replicate n 0)=0
 | 0=>rfl
 | n+1=>by rw [List.replicate_succ,vt,vt_rep n];rfl
theorem ndiv10 (n k:Nat):n / 10 ^ (k+1)=n / 10 ^ k / 10:=by rw [Nat.pow_succ,Nat.div_div_eq_div_mul]
theorem nmod10 (n k:Nat):n % 10 ^ (k+1)=n % 10 ^ k+10 ^ k*(n / 10 ^ k % 10):=Nat.mod_pow_succ
theorem add_div_pow (a b k:Nat):(a+b) / 10 ^ k=a / 10 ^ k+b / 10 ^ k+(a % 10 ^ k+b % 10 ^ k) / 10 ^ k:=by
 have hp:0<10 ^ k:=Nat.pow_pos (by omega)
 rw [Nat.add_div hp]
 have h1:=Nat.mod_lt a hp
 have h2:=Nat.mod_lt b hp
 split
 ·rename_i h
  have:(a % 10 ^ k+b % 10 ^ k) / 10 ^ k=1:=Nat.div_eq_of_lt_le (by omega) (by omega)
  omega
 ·rename_i h
  rw [Nat.div_eq_of_lt (show a % 10 ^ k+b % 10 ^ k<10 ^ k by omega)]
theorem plus_step (a b k:Nat):((a % 10 ^ k+b % 10 ^ k) / 10 ^ k+a / 10 ^ k % 10+b / 10 ^ k % 10) % 10=(a+b) / 10 ^ k % 10∧((a % 10 ^ k+b % 10 ^ k) / 10 ^ k+a / 10 ^ k % 10+b / 10 ^ k % 10) / 10=(a % 10 ^ (k+1)+b % 10 ^ (k+1)) / 10 ^ (k+1):=by
 have hp:0<10 ^ k:=Nat.pow_pos (by omega)
 constructor
 ·rw [add_div_pow a b k]
  generalize (a % 10 ^ k+b % 10 ^ k) / 10 ^ k=c
  generalize a / 10 ^ k=x
  generalize b / 10 ^ k=y
  omega
 ·rw [ndiv10,nmod10 a k,nmod10 b k]
  congr 1
  rw [show a % 10 ^ k+10 ^ k*(a / 10 ^ k % 10)+(b % 10 ^ k+10 ^ k*(b / 10 ^ k % 10))=a % 10 ^ k+b % 10 ^ k+10 ^ k*(a / 10 ^ k % 10+b / 10 ^ k % 10) by grind,Nat.add_mul_div_left _ _ hp]
  omega
theorem carry_le (a b k:Nat):(a % 10 ^ k+b % 10 ^ k) / 10 ^ k≤1:=by
 have hp:0<10 ^ k:=Nat.pow_pos (by omega)
 have h1:=Nat.mod_lt a hp
 have h2:=Nat.mod_lt b hp
 have:(a % 10 ^ k+b % 10 ^ k) / 10 ^ k<2:=Nat.div_lt_of_lt_mul (by omega)
 omega
theorem plus_end (a b k:Nat):(k<(dgs a).length∨k<(dgs b).length∨0<(a % 10 ^ k+b % 10 ^ k) / 10 ^ k)↔k<(dgs (a+b)).length:=by
 have hp:0<10 ^ k:=Nat.pow_pos (by omega)
 have key:∀ n,k<(dgs n).length↔10 ^ k≤n:=fun n=>⟨fun h=>Nat.le_of_not_lt fun q=>by have:=dgs_len_le q;omega,dgs_len_gt⟩
 rw [key,key,key]
 have e:=add_div_pow a b k
 constructor
 ·rintro (h | h | h)
  ·omega
  ·omega
  ·refine Nat.le_of_not_lt fun q=>?_
   rw [Nat.div_eq_of_lt q] at e
   generalize (a % 10 ^ k+b % 10 ^ k) / 10 ^ k=c at *
   generalize a / 10 ^ k=x at *
   generalize b / 10 ^ k=y at *
   omega
 ·intro h
  by_cases h1:10 ^ k≤a
  ·exact .inl h1
  ·by_cases h2:10 ^ k≤b
   ·exact .inr (.inl h2)
   ·right;right
    rw [Nat.mod_eq_of_lt (by omega),Nat.mod_eq_of_lt (by omega)]
    exact Nat.div_pos h hp
theorem dgs_take {n k:Nat} (h:k<(dgs n).length):(dgs n).take (k+1)=(dgs n).take k++[((n / 10 ^ k % 10:Nat):Int)]:=by
 rw [List.take_add_one,List.getElem?_eq_getElem h,← getD_in _ 0 h,dgs_get];rfl
theorem tdig (n k:Nat):((n % 10 ^ (k+1):Nat):Int)=((n % 10 ^ k:Nat):Int)+10 ^ k*((n / 10 ^ k % 10:Nat):Int):=by
 rw [nmod10,Int.natCast_add,Int.natCast_mul,Int.natCast_pow];rfl
theorem div_cons (A b d:Nat):(10*A+d) / b=10*(A / b)+(10*(A % b)+d) / b∧(10*A+d) % b=(10*(A % b)+d) % b:=by
 by_cases hb:b=0
 ·subst hb;simp
 ·have e:10*A+d=b*(10*(A / b))+(10*(A % b)+d):=by
   have:=Nat.div_add_mod A b
   have h2:b*(10*(A / b))=10*(b*(A / b)):=by grind
   omega
  exact ⟨by rw [e,Nat.mul_add_div (by omega)],by rw [e,Nat.mul_add_mod]⟩
theorem quo_le {A b d:Nat} (hb:0<b) (hd:d≤9):(10*(A % b)+d) / b≤9:=by
 have:=Nat.mod_lt A hb
 have:(10*(A % b)+d) / b<10:=Nat.div_lt_of_lt_mul (by omega)
 omega
theorem set_mid (i:Nat) (t u:Int) (D:List Int):(List.replicate i 0++t::D).set i u=List.replicate i 0++u::D:=by
 rw [List.set_append_right _ _ (by simp)];simp
theorem rep_snoc (i:Nat) (D:List Int):List.replicate (i+1) (0:Int)++D=List.replicate i 0++0::D:=by
 rw [List.replicate_succ',List.append_assoc];rfl
theorem mul_step {v c u p q x:Int} (h:v+c*p=q) (n:Int) (hn:n=u+c+x):v+p*(n % 10-u)+n / 10*(p*10)=q+p*x:=by
 have e:n / 10*(p*10)=p*(10*(n / 10)):=by grind
 have e2:p*(n % 10-u)+p*(10*(n / 10))=p*(n-u):=by
  rw [← Int.mul_add];congr 1;omega
 rw [e]
 have e3:p*(n-u)=c*p+p*x:=by rw [hn];grind
 omega
end Go.Num
namespace Go.Proofs.YtfekoiabjbdnfaaGreat
open Go Go.Lib Go.Abs Go.PE Go.Num
theorem dig_opt {a k:Nat} {v:Int} (hv:0≤v∧v≤100):(bif ltM (k:Int) (lenM (dgs a)) then (idxM (dgs a) (k:Int)).bind fun r=>some (IntKind.wrap .i64 (v+r)) else some v)=some (v+((a / 10 ^ k % 10:Nat):Int)):=by
 by_cases h:k<(dgs a).length
 ·have:=Nat.mod_lt (a / 10 ^ k) (show 10 > 0 by omega)
  rw [ltI (by rw [lenI];omega),cT,dgs_idx h,oB,wrap_in (by omega) (by omega)]
 ·have h2:a<10 ^ k:=Nat.lt_of_not_le fun q=>h (dgs_len_gt q)
  rw [geI (by rw [lenI];omega),cF,Nat.div_eq_of_lt h2];simp
theorem dgs_add {a b k:Nat} (ha:(dgs a).length≤k) (hb:(dgs b).length≤k):(dgs (a+b)).length≤k+1:=dgs_len_le (by
 have h1:=Nat.lt_of_lt_of_le (dgs_lt a) (Nat.pow_le_pow_right (show 0<10 by omega) ha)
 have h2:=Nat.lt_of_lt_of_le (dgs_lt b) (Nat.pow_le_pow_right (show 0<10 by omega) hb)
 rw [Nat.pow_succ];omega)
theorem dgs_ten {n b k:Nat} (h:n<10*b) (hb:(dgs b).length≤k):(dgs n).length≤k+1:=dgs_len_le (by
 have h1:=Nat.lt_of_lt_of_le (dgs_lt b) (Nat.pow_le_pow_right (show 0<10 by omega) hb)
 rw [Nat.pow_succ];omega)
theorem rplus_ok {a b:Nat} (ha:(dgs a).length≤1000) (hb:(dgs b).length≤1000):m108 (dgs a,dgs b)=some (dgs (a+b)):=by
 have hab:(dgs (a+b)).length≤1001:=dgs_add ha hb
 unfold m108
 dsimp only
 refine bind_of (x:=dgs (a+b)) ?_ rfl
 have key:=loopM_fn (fun k=>((((a % 10 ^ k+b % 10 ^ k) / 10 ^ k:Nat):Int),(k:Int),(dgs (a+b)).take k)) (dgs (a+b)).length (r:=dgs (a+b)) (body:=fun (s:Int×Int×List Int)=>bif PE.orM (PE.orM (ltM s.2.1 (lenM (dgs a))) (ltM s.2.1 (lenM (dgs b)))) (ltM 0 s.1) then (bif ltM s.2.1 (lenM (dgs a))
 then (idxM (dgs a) s.2.1).bind fun r=>some (IntKind.wrap .i64 (s.1+r)) else some s.1).bind fun o=>(bif ltM s.2.1 (lenM (dgs b)) then (idxM (dgs b) s.2.1).bind fun r
 => some (IntKind.wrap .i64 (o+r)) else some o).bind fun o_1=>(remM o_1 10).bind fun r=>(appM (nat_lit 8) s.2.2 [r]).bind fun r_1=>(divM .i64 o_1
 10).bind fun r=>some (Sum.inl (r,IntKind.wrap .i64 (s.2.1+1),r_1)) else some (Sum.inr s.2.2)) (fun k hk=>?_) ?_
 ·simp only [Nat.pow_zero,Nat.mod_one,Nat.zero_div,Nat.add_zero,List.take_zero] at key
  exact key
 ·have hc:=carry_le a b k
  have e:=plus_step a b k
  have ea:=Nat.mod_lt (a / 10 ^ k) (show 10 > 0 by omega)
  have eb:=Nat.mod_lt (b / 10 ^ k) (show 10 > 0 by omega)
  have hg:PE.orM (PE.orM (ltM (k:Int) (lenM (dgs a))) (ltM (k:Int) (lenM (dgs b)))) (ltM 0 (((a % 10 ^ k+b % 10 ^ k) / 10 ^ k:Nat):Int))=true:=by
   rcases (plus_end a b k).2 hk with h | h | h
   ·rw [ltI (by rw [lenI];omega)];rfl
   ·rw [ltI (a:=(k:Int)) (b:=lenM (dgs b)) (by rw [lenI];omega)];cases ltM (k:Int) (lenM (dgs a))<;>rfl
   ·rw [ltI (a:=0) (by omega)];cases PE.orM (ltM (k:Int) (lenM (dgs a))) (ltM (k:Int) (lenM (dgs b)))<;>rfl
  have e1:=e.1
  have e2:=e.2
  dsimp only
  rw [hg,cT]
  clear hg e
  generalize (a % 10 ^ k+b % 10 ^ k) / 10 ^ k=c at *
  rw [dig_opt (by omega),oB]
  have hx:((a / 10 ^ k % 10:Nat):Int)≤9∧0≤((a / 10 ^ k % 10:Nat):Int):=⟨by omega,Int.natCast_nonneg _⟩
  rw [dig_opt (by omega),oB,dgs_take hk,← e1,← e2]
  clear e1 e2 hx
  generalize a / 10 ^ k % 10=x at *
  generalize b / 10 ^ k % 10=y at *
  have er:(c:Int)+(x:Int)+(y:Int)=((c+x+y:Nat):Int):=by omega
  rw [er,remM_of (by omega) (by omega),oB,appM_of (by rw [List.length_take,List.length_singleton];omega),oB,divM_pos (by omega),oB,Int.tdiv_eq_ediv_of_nonneg (by omega),wrap_in (by omega) (by omega),wrap_in (by omega) (by omega)]
  rfl
 ·have hn:¬ ((dgs (a+b)).length<(dgs a).length∨(dgs (a+b)).length<(dgs b).length∨0<(a % 10 ^ (dgs (a+b)).length+b % 10 ^ (dgs (a+b)).length) / 10 ^ (dgs (a+b)).length):=fun h=>by
   have:=(plus_end a b _).1 h
   omega
  dsimp only
  rw [geI (by rw [lenI];omega),geI (a:=((dgs (a+b)).length:Int)) (by rw [lenI];omega),geI (a:=0) (by omega),show PE.orM (PE.orM false false) false=false from rfl,cF,List.take_length]
theorem rminus_ok {a b:Nat} (ha:(dgs a).length≤1000) (hb:b≤a):m109 (dgs a,dgs b)=some (dgs (a-b)):=by
 unfold m109
 dsimp only
 have hfin:∀ out:List Int,okt out→vt out=(a:Int)-b→out.length=(dgs a).length→(m120 out).bind (fun r=>some r)=some (dgs (a-b)):=fun out h1 h2 h3=>by
  rw [rtrim_ok h1 (by omega),h2]
  show some (dgs ((a:Int)-b).toNat)=_
  congr 2;omega
 refine Ans.is (Ans.bind (P:=fun out=>okt out∧vt out=(a:Int)-b∧out.length=(dgs a).length) (Ans.loop (fun k s=>s.2.1=(k:Int)∧(s.1=0∨s.1=1)∧okt s.2.2∧s.2.2.length=k∧vt s.2.2-s.1*10 ^ k=((a % 10 ^ k:Nat):Int)-((b % 10 ^ k:Nat):Int)) (dgs a).length ⟨rfl,.inl rfl,okt_nil,rfl,by simp [vt,Nat.mod_one]⟩ ?_) ?_)
 ·rintro k ⟨c,i,out⟩ hk ⟨h1,h2,h3,h4,h5⟩
  dsimp only at h1 h2 h3 h4 h5
  subst h1
  dsimp only
  by_cases hz:k<(dgs a).length
  ·have ea:=Nat.mod_lt (a / 10 ^ k) (show 10 > 0 by omega)
   have eb:=Nat.mod_lt (b / 10 ^ k) (show 10 > 0 by omega)
   obtain ⟨n,hn⟩:∃ n:Int,n=((a / 10 ^ k % 10:Nat):Int)-c-((b / 10 ^ k % 10:Nat):Int):=⟨_,rfl⟩
   have hopt:(bif ltM (k:Int) (lenM (dgs b)) then (idxM (dgs b) (k:Int)).bind fun r_1=>some (IntKind.wrap .i64 (IntKind.wrap .i64 (((a / 10 ^ k % 10:Nat):Int)-c)-r_1)) else some (IntKind.wrap .i64 (((a / 10 ^ k % 10:Nat):Int)-c)))=some n:=by
    rw [wrap_in (n:=((a / 10 ^ k % 10:Nat):Int)-c) (by omega) (by omega)]
    by_cases h:k<(dgs b).length
    ·rw [ltI (by rw [lenI];omega),cT,dgs_idx h,oB,wrap_in (by omega) (by omega),hn]
    ·have h2:b<10 ^ k:=Nat.lt_of_not_le fun q=>h (dgs_len_gt q)
     rw [geI (by rw [lenI];omega),cF,hn,Nat.div_eq_of_lt h2];simp
   obtain ⟨d,hd⟩:∃ d:Int,d=if n<0 then n+10 else n:=⟨_,rfl⟩
   obtain ⟨c',hc'⟩:∃ c':Int,c'=if n<0 then 1 else 0:=⟨_,rfl⟩
   have hs:(bif ltM n 0 then some ((1:Int),IntKind.wrap .i64 (n+10)) else some (0,n))=some (c',d):=by
    by_cases h:n<0
    ·rw [ltI h,cT,wrap_in (by omega) (by omega),hd,hc',if_pos h,if_pos h]
    ·rw [geI (by omega),cF,hd,hc',if_neg h,if_neg h]
   have hdc:d=n+10*c':=by rw [hd,hc'];split<;>omega
   have hd9:0≤d∧d≤9:=by rw [hd];split<;>omega
   have hc01:c'=0∨c'=1:=by rw [hc'];split<;>omega
   refine Ans.of (r:=.inl (c',(k:Int)+1,out++[d])) ?_ ?_
   ·rw [ltI (by rw [lenI];omega),cT,dgs_idx hz,oB,hopt,oB,hs,oB,appM_of (by simp;omega),oB,wrap_in (by omega) (by omega)]
   ·refine show k<(dgs a).length∧(k:Int)+1=((k+1:Nat):Int)∧(c'=0∨c'=1)∧okt (out++[d])∧(out++[d]).length=k+1∧vt (out++[d])-c'*10 ^ (k+1)=((a % 10 ^ (k+1):Nat):Int)-((b % 10 ^ (k+1):Nat):Int) from ⟨hz,by omega,hc01,okt_snoc h3 hd9,by simp [h4],?_⟩
    rw [vt_snoc,h4,hdc,hn,tdig,tdig,Int.pow_succ]
    generalize (10:Int) ^ k=p at *
    grind
  ·have hk':k=(dgs a).length:=by omega
   refine Ans.of (r:=.inr out) (by rw [geI (by rw [lenI];omega),cF]) ?_
   have la:=dgs_lt a
   rw [← hk'] at la
   have hv:=vt_nn h3
   have hv2:=vt_lt h3
   rw [h4] at hv2
   rw [Nat.mod_eq_of_lt la,Nat.mod_eq_of_lt (by omega)] at h5
   refine show okt out∧vt out=(a:Int)-b∧out.length=(dgs a).length from ⟨h3,?_,by omega⟩
   have hp:=pow_post k
   rcases h2 with h | h
   ·rw [h] at h5;omega
   ·rw [h] at h5;omega
 ·rintro out ⟨h1,h2,h3⟩
  exact .of (hfin out h1 h2 h3) rfl
end Go.Proofs.YtfekoiabjbdnfaaGreat
namespace Go.Proofs.YtfekoiabjbdnfaaGreat
open Go Go.Lib Go.Abs Go.PE Go.Num
open Go.IntKind (wrap)
theorem dgs_mul {a b:Nat}:(dgs (a*b)).length≤(dgs a).length+(dgs b).length:=dgs_len_le (by rw [Nat.pow_add];exact Nat.mul_lt_mul'' (dgs_lt a) (dgs_lt b))
theorem rtimes_ok {a b:Nat} (ha:(dgs a).length≤500) (hb:(dgs b).length≤500):m105 (dgs a,dgs b)=some (dgs (a*b)):=by
 obtain ⟨la,hla⟩:∃ la,la=(dgs a).length:=⟨_,rfl⟩
 obtain ⟨lb,hlb⟩:∃ lb,lb=(dgs b).length:=⟨_,rfl⟩
 have hma:=dgs_lt a
 have hmb:=dgs_lt b
 rw [← hla] at hma
 rw [← hlb] at hmb
 have hab:(a:Int)*b<10 ^ (la+lb):=by
  have h:a*b<10 ^ (la+lb):=by rw [Nat.pow_add];exact Nat.mul_lt_mul'' hma hmb
  have h2:((a*b:Nat):Int)<((10 ^ (la+lb):Nat):Int):=by omega
  rw [Int.natCast_mul,Int.natCast_pow] at h2
  exact h2
 unfold m105
 dsimp only
 rw [lenI,lenI,← hla,← hlb,wrap_in (n:=(la:Int)+lb) (by omega) (by omega),mkM_of (by omega) (by omega) (by show ((la:Int)+lb)*8≤_;omega),oB,show ((la:Int)+lb).toNat=la+lb by omega]
 refine Ans.is (Ans.bind (P:=fun out=>okt out∧vt out=(a:Int)*b∧out.length=la+lb) (Ans.loop (fun k s=>s.1=(k:Int)∧okt s.2∧s.2.length=la+lb∧vt s.2=((a % 10 ^ k:Nat):Int)*b) la ⟨rfl,okt_rep _,List.length_replicate,by rw [vt_rep,Nat.pow_zero,Nat.mod_one];simp⟩ ?_) ?_)
 ·rintro i ⟨ii,out⟩ hi ⟨h1,h2,h3,h4⟩
  dsimp only at h1 h2 h3 h4
  subst h1
  dsimp only
  by_cases hz:i<la
  ·have ea:=Nat.mod_lt (a / 10 ^ i) (show 10 > 0 by omega)
   have eidx:idxM (dgs a) (i:Int)=some ((a / 10 ^ i % 10:Nat):Int):=dgs_idx (by omega)
   have htd:=tdig a i
   rw [ltI (by omega),cT,eidx]
   obtain ⟨d,hd⟩:∃ d:Int,d=((a / 10 ^ i % 10:Nat):Int):=⟨_,rfl⟩
   rw [← hd] at htd ⊢
   have hd9:0≤d∧d≤9:=by omega
   have hpi:=pow_post i
   -- what the digits added so far come to
   have htop:∀ k:Nat,((a % 10 ^ i:Nat):Int)*b+10 ^ i*(d*((b % 10 ^ k:Nat):Int))≤(a:Int)*b:=fun k=>by
    have q1:((b % 10 ^ k:Nat):Int)≤b:=by have:=Nat.mod_le b (10 ^ k);omega
    have q2:d*((b % 10 ^ k:Nat):Int)≤d*b:=Int.mul_le_mul_of_nonneg_left q1 hd9.1
    have q3:(10:Int) ^ i*(d*((b % 10 ^ k:Nat):Int))≤10 ^ i*(d*b):=Int.mul_le_mul_of_nonneg_left q2 (by omega)
    have q4:((a % 10 ^ (i+1):Nat):Int)≤a:=by have:=Nat.mod_le a (10 ^ (i+1));omega
    have q5:((a % 10 ^ (i+1):Nat):Int)*b≤(a:Int)*b:=Int.mul_le_mul_of_nonneg_right q4 (by omega)
    rw [htd,Int.add_mul,Int.mul_assoc] at q5
    omega
   refine Ans.bind (P:=fun out=>okt out∧out.length=la+lb∧vt out=((a % 10 ^ (i+1):Nat):Int)*b) (Ans.loop (fun k s=>s.2.1=(k:Int)∧0≤s.1∧s.1≤9∧okt s.2.2∧s.2.2.length=la+lb∧vt s.2.2+s.1*10 ^ (i+k)=((a % 10 ^ i:Nat):Int)*b+10 ^ i*(d*((b % 10 ^ k:Nat):Int))) (la+lb) ⟨rfl,by show (0:Int)≤0;omega,by show (0:Int)≤9;omega,h2,h3,by rw [h4,Nat.pow_zero,Nat.mod_one];simp⟩ ?_) ?_
   ·rintro k ⟨c,kk,o⟩ hk ⟨g1,g2,g3,g4,g5,g6⟩
    dsimp only at g1 g2 g3 g4 g5 g6
    subst g1
    dsimp only
    have hpk:=pow_post (i+k)
    by_cases hg:k<lb∨0<c
    ·-- there is room
     have hroom:i+k<la+lb:=by
      rcases hg with h | h
      ·omega
      ·refine Nat.lt_of_not_le fun q=>?_
       have e1:(10:Int) ^ (la+lb)≤10 ^ (i+k):=by
        have:10 ^ (la+lb)≤10 ^ (i+k):=Nat.pow_le_pow_right (by omega) q
        have h2:((10 ^ (la+lb):Nat):Int)≤((10 ^ (i+k):Nat):Int):=by omega
        rwa [Int.natCast_pow,Int.natCast_pow] at h2
       have e2:(1:Int)*10 ^ (i+k)≤c*10 ^ (i+k):=Int.mul_le_mul_of_nonneg_right (by omega) (by omega)
       have e3:=htop k
       have e4:=vt_nn g4
       omega
     have hgt:PE.orM (ltM (k:Int) (lb:Int)) (ltM 0 c)=true:=by
      rcases hg with h | h
      ·rw [ltI (by omega)];rfl
      ·rw [ltI h];cases ltM (k:Int) (lb:Int)<;>rfl
     have hw:wrap .i64 ((i:Int)+(k:Int))=((i+k:Nat):Int):=by rw [wrap_in (by omega) (by omega)];omega
     obtain ⟨u,hu⟩:∃ u,u=o.getD (i+k) 0:=⟨_,rfl⟩
     have hu9:=okt_get g4 (i+k)
     rw [← hu] at hu9
     have hidx:idxM o ((i+k:Nat):Int)=some u:=by rw [idxM_lt (by omega),hu,getD_in _ _ (by omega)]
     have hck:chkM ((i+k:Nat):Int) (lenM o)=some ():=chkM_of (by omega) (by rw [lenI];omega)
     have eb:=Nat.mod_lt (b / 10 ^ k) (show 10 > 0 by omega)
     obtain ⟨y,hy⟩:∃ y:Int,y=((b / 10 ^ k % 10:Nat):Int):=⟨_,rfl⟩
     have hy9:0≤y∧y≤9:=by omega
     have hdy:0≤d*y∧d*y≤81:=by
      have h1:=Int.mul_nonneg hd9.1 hy9.1
      have h2:=Int.mul_le_mul hd9.2 hy9.2 hy9.1 (show (0:Int)≤9 by omega)
      omega
     have hn:(bif ltM (k:Int) (lb:Int) then (some d).bind fun r_3=>(idxM (dgs b) (k:Int)).bind fun r=>some (wrap .i64 (wrap .i64 (u+c)+wrap .i64 (r_3*r))) else some (wrap .i64 (u+c)))=some (u+c+d*y):=by
      by_cases h:k<lb
      ·rw [ltI (by omega),cT,oB,dgs_idx (by omega),oB,← hy,wrap_in (n:=u+c) (by omega) (by omega),wrap_in (n:=d*y) (by omega) (by omega),wrap_in (by omega) (by omega)]
      ·have h2:b<10 ^ k:=Nat.lt_of_lt_of_le hmb (Nat.pow_le_pow_right (by omega) (by omega))
       rw [geI (by omega),cF,wrap_in (by omega) (by omega),hy,Nat.div_eq_of_lt h2];simp
     have hset:setM o ((i+k:Nat):Int) (fun (x:Int)=>some ((u+c+d*y) % 10))=some (o.set (i+k) ((u+c+d*y) % 10)):=by
      rw [setM_of (y:=(u+c+d*y) % 10) (by omega) (by omega) rfl];rfl
     refine Ans.of (r:=.inl ((u+c+d*y) / 10,(k:Int)+1,o.set (i+k) ((u+c+d*y) % 10))) ?_ ?_
     ·rw [hgt,cT,hw,hck,oB,hidx,oB]
      refine bind_of hn ?_
      rw [remM_of (by omega) (by omega),oB]
      rw [oB]
      refine bind_of hset ?_
      rw [divM_pos (by omega),oB,Int.tdiv_eq_ediv_of_nonneg (by omega),wrap_in (by omega) (by omega),wrap_in (by omega) (by omega)]
     ·refine show k<la+lb∧(k:Int)+1=((k+1:Nat):Int)∧0≤(u+c+d*y) / 10∧(u+c+d*y) / 10≤9∧okt (o.set (i+k) ((u+c+d*y) % 10))∧(o.set (i+k) ((u+c+d*y) % 10)).length=la+lb∧vt (o.set (i+k) ((u+c+d*y) % 10))+(u+c+d*y) / 10*10 ^ (i+(k+1))=((a % 10 ^ i:Nat):Int)*b+10 ^ i*(d*((b % 10 ^ (k+1):Nat):Int)) from ⟨by omega,by omega,by omega,by omega,okt_set g4 (by omega),by rw [List.length_set];exact g5,?_⟩
      rw [vt_set (by omega),← hu,← Nat.add_assoc,Int.pow_succ,mul_step g6 (u+c+d*y) rfl,tdig b k,← hy,Int.pow_add]
      grind
    ·have hgf:PE.orM (ltM (k:Int) (lb:Int)) (ltM 0 c)=false:=by rw [geI (by omega),geI (a:=0) (by omega)];rfl
     refine Ans.of (r:=.inr o) (by rw [hgf,cF]) ?_
     have hc0:c=0:=by omega
     have h2:b<10 ^ k:=Nat.lt_of_lt_of_le hmb (Nat.pow_le_pow_right (by omega) (by omega))
     rw [hc0,Int.zero_mul,Int.add_zero,Nat.mod_eq_of_lt h2] at g6
     refine show okt o∧o.length=la+lb∧vt o=((a % 10 ^ (i+1):Nat):Int)*b from ⟨g4,g5,?_⟩
     rw [g6,htd,Int.add_mul,Int.mul_assoc]
   ·rintro o ⟨g1,g2,g3⟩
    exact .of (r:=(.inl ((i:Int)+1,o):(Int×List Int)⊕List Int)) (by rw [wrap_in (by omega) (by omega)]) (show i<la∧(i:Int)+1=((i+1:Nat):Int)∧okt o∧o.length=la+lb∧vt o=((a % 10 ^ (i+1):Nat):Int)*b from ⟨hz,by omega,g1,g2,g3⟩)
  ·have hk':i=la:=by omega
   refine Ans.of (r:=.inr out) (by rw [geI (by omega),cF]) ?_
   refine show okt out∧vt out=(a:Int)*b∧out.length=la+lb from ⟨h2,?_,h3⟩
   rw [h4,hk',Nat.mod_eq_of_lt hma]
 ·rintro out ⟨h1,h2,h3⟩
  refine .of (r:=dgs (a*b)) ?_ rfl
  rw [rtrim_ok h1 (by omega),h2,oB,← Int.natCast_mul,Int.toNat_natCast]
theorem ord_le {a b:Nat}:leM 0 (ordN a b)=decide (b≤a):=by
 unfold ordN
 by_cases h:a<b
 ·rw [if_pos h,decide_eq_false (by omega)];rfl
 ·rw [if_neg h,dT (by omega)]
  by_cases h2:b<a
  ·rw [if_pos h2];rfl
  ·rw [if_neg h2];rfl
theorem idx_mid (i:Nat) (t:Int) (D:List Int):idxM (List.replicate i 0++t::D) (i:Int)=some t:=by
 rw [idxM_nat,List.getElem?_append_right (by simp)];simp
theorem rdivided_ok {a b:Nat} (hb0:0<b) (ha:(dgs a).length≤500) (hb:(dgs b).length≤500):m107 (dgs a,dgs b)=some (dgs (a / b),dgs (a % b)):=by
 obtain ⟨la,hla⟩:∃ la,la=(dgs a).length:=⟨_,rfl⟩
 have hma:=dgs_lt a
 rw [← hla] at hma
 unfold m107
 dsimp only
 rw [lenI,← hla,mkM_of (by omega) (by omega) (by show (la:Int)*8≤_;omega),oB,Int.toNat_natCast,wrap_in (n:=(la:Int)-1) (by omega) (by omega)]
 refine Ans.is (Ans.bind (P:=fun o=>o.1=dgs (a % b)∧okt o.2∧o.2.length=la∧vt o.2=((a / b:Nat):Int)) (Ans.loop (fun j s=>s.2.1=(la:Int)-1-j∧s.1=dgs (a / 10 ^ (la-j) % b)∧∃ D:List Int,s.2.2=List.replicate (la-j) 0++D∧okt D∧D.length=j∧vt D=((a / 10 ^ (la-j) / b:Nat):Int)) la ⟨by dsimp only;omega,?_,[],by simp,okt_nil,rfl,?_⟩ ?_) ?_)
 ·dsimp only
  rw [Nat.sub_zero,Nat.div_eq_of_lt hma,Nat.zero_mod,dgs_zero]
 ·rw [Nat.sub_zero,Nat.div_eq_of_lt hma,Nat.zero_div];rfl
 ·rintro j ⟨r,i,q⟩ hj ⟨h1,h2,D,h3,h4,h5,h6⟩
  dsimp only at h1 h2 h3
  subst h1 h2 h3
  dsimp only
  by_cases hz:j<la
  ·obtain ⟨m,hm⟩:∃ m,la-j=m+1:=⟨la-j-1,by omega⟩
   have hi:(la:Int)-1-j=(m:Int):=by omega
   have hmla:m<la:=by omega
   rw [hm] at h6 ⊢
   have ed:=Nat.mod_lt (a / 10 ^ m) (show 10 > 0 by omega)
   have eA:a / 10 ^ m=10*(a / 10 ^ (m+1))+a / 10 ^ m % 10:=by rw [ndiv10];omega
   have dv:=div_cons (a / 10 ^ (m+1)) b (a / 10 ^ m % 10)
   rw [← eA] at dv
   have hq9:=quo_le (A:=a / 10 ^ (m+1)) hb0 (show a / 10 ^ m % 10≤9 by omega)
   have hidx:idxM (dgs a) (m:Int)=some ((a / 10 ^ m % 10:Nat):Int):=dgs_idx (by omega)
   generalize a / 10 ^ m % 10=d at *
   generalize hR:a / 10 ^ (m+1) % b=R at *
   have hRb:R<b:=by rw [← hR];exact Nat.mod_lt _ hb0
   have hlR:(dgs R).length≤500:=Nat.le_trans (dgs_len_mono (show R≤b by omega)) hb
   obtain ⟨T,hT⟩:∃ T,T=10*R+d:=⟨_,rfl⟩
   rw [← hT] at dv hq9
   have hTl:∀ t,(dgs (T-t)).length≤501:=fun t=>dgs_ten (b:=b) (by omega) hb
   have htrim:m120 ((d:Int)::dgs R)=some (dgs T):=by
    rw [rtrim_ok (okt_cons.2 ⟨by omega,dgs_okd R⟩) (by rw [List.length_cons];omega),vt,vt_grp,hT]
    congr 2;omega
   have hinner:loopM (fun (s_1:List Int×List Int)=>(m121 (s_1.1,dgs b)).bind fun r_4 =>
     bif leM 0 r_4 then (m109 (s_1.1,dgs b)).bind fun r_5=>(chkM (m:Int) (lenM s_1.2)).bind fun r_6=>(idxM s_1.2 (m:Int)).bind fun r_7=>(chkM (m:Int) (lenM
     s_1.2)).bind fun r_8=>(setM s_1.2 (m:Int) fun (x:Int)=>some (wrap .i64 (r_7+1))).bind fun r=>some (Sum.inl (r_5,r)) else some (Sum.inr (s_1.1,
     s_1.2))) (dgs T,List.replicate m 0++0::D)=some (dgs (T % b),List.replicate m 0++((T / b:Nat):Int)::D):=by
    have key:=loopM_fn (fun t=>(dgs (T-t*b),List.replicate m (0:Int)++(t:Int)::D)) (T / b) (r:=(dgs (T % b),List.replicate m 0++((T / b:Nat):Int)::D)) (body:=fun (s_1:List Int×List Int)=>(m121 (s_1.1,dgs b)).bind fun r_4 =>
     bif leM 0 r_4 then (m109 (s_1.1,dgs b)).bind fun r_5=>(chkM (m:Int) (lenM s_1.2)).bind fun r_6=>(idxM s_1.2 (m:Int)).bind fun r_7=>(chkM (m:Int) (lenM
     s_1.2)).bind fun r_8=>(setM s_1.2 (m:Int) fun (x:Int)=>some (wrap .i64 (r_7+1))).bind fun r=>some (Sum.inl (r_5,r)) else some (Sum.inr (s_1.1,
     s_1.2))) (fun t ht=>?_) ?_
    ·rw [Nat.zero_mul,Nat.sub_zero] at key
     exact key
    ·have hle:(t+1)*b≤T:=Nat.le_trans (Nat.mul_le_mul_right b (show t+1≤T / b by omega)) (Nat.div_mul_le_self T b)
     rw [Nat.add_mul,Nat.one_mul] at hle
     have hck:chkM (m:Int) (lenM (List.replicate m (0:Int)++(t:Int)::D))=some ():=chkM_of (by omega) (by rw [lenI];simp;omega)
     have hset:setM (List.replicate m (0:Int)++(t:Int)::D) (m:Int) (fun (x:Int)=>some ((t:Int)+1))=some (List.replicate m (0:Int)++((t:Int)+1)::D):=by
      rw [setM_of (y:=(t:Int)+1) (by omega) (by simp;omega) rfl,Int.toNat_natCast,set_mid]
     dsimp only
     rw [order_ok (Nat.le_trans (hTl _) (by omega)) (by omega),oB,ord_le,dT (by omega),cT,rminus_ok (Nat.le_trans (hTl _) (by omega)) (by omega),oB,hck,oB,idx_mid,oB,oB,wrap_in (by omega) (by omega),hset,oB,Nat.add_mul,Nat.one_mul,← Nat.sub_sub]
     rfl
    ·have e1:T-T / b*b=T % b:=by have:=Nat.div_add_mod' T b;omega
     have:=Nat.mod_lt T hb0
     have hl2:(dgs (T % b)).length≤501:=by rw [← e1];exact hTl _
     dsimp only
     rw [e1,order_ok (by omega) (by omega),oB,ord_le,decide_eq_false (by omega),cF]
   refine Ans.of (r:=.inl (dgs (T % b),(m:Int)-1,List.replicate m 0++((T / b:Nat):Int)::D)) ?_ ?_
   ·rw [hi,leI (by omega),cT,hidx,oB,appM_of (by simp;omega),oB]
    refine bind_of htrim ?_
    rw [rep_snoc]
    refine bind_of hinner ?_
    rw [wrap_in (by omega) (by omega)]
   ·refine show j<la∧(m:Int)-1=(la:Int)-1-((j+1:Nat):Int)∧dgs (T % b)=dgs (a / 10 ^ (la-(j+1)) % b)∧∃ D':List Int,List.replicate m 0++((T / b:Nat):Int)::D=List.replicate (la-(j+1)) 0++D'∧okt D'∧D'.length=j+1∧vt D'=((a / 10 ^ (la-(j+1)) / b:Nat):Int) from ?_
    rw [show la-(j+1)=m by omega]
    refine ⟨hz,by omega,by rw [dv.2],_,rfl,okt_cons.2 ⟨⟨Int.natCast_nonneg _,by omega⟩,h4⟩,by simp [h5],?_⟩
    rw [vt,h6,dv.1]
    omega
  ·have hk':j=la:=by omega
   subst hk'
   rw [Nat.sub_self,Nat.pow_zero,Nat.div_one] at h6 ⊢
   refine Ans.of (r:=.inr (dgs (a % b),List.replicate 0 0++D)) (by rw [gtI (by omega),cF]) ?_
   exact show dgs (a % b)=dgs (a % b)∧okt (List.replicate 0 (0:Int)++D)∧(List.replicate 0 (0:Int)++D).length=j∧vt (List.replicate 0 (0:Int)++D)=((a / b:Nat):Int) from ⟨rfl,h4,h5,h6⟩
 ·rintro ⟨r,q⟩ ⟨h1,h2,h3,h4⟩
  dsimp only at h1 h2 h3 h4
  subst h1
  refine .of (r:=(dgs (a / b),dgs (a % b))) ?_ rfl
  rw [rtrim_ok h2 (by omega),h4,oB,Int.toNat_natCast]
theorem rfromint_ok {n:Int} (h1:-9223372036854775808≤n) (h2:n≤9223372036854775807):m70 n=some (itoa n):=by
 unfold m70
 dsimp only
 have hl:(dgs n.natAbs).length≤19:=dgs_len_le (by omega)
 obtain ⟨e,he⟩:∃ e:Int,e=if n<0 then -1 else 1:=⟨_,rfl⟩
 have hne:n=e*(n.natAbs:Int):=by rw [he];split<;>omega
 have main:loopM (fun (s:Int×List Int)=>bif PE.notM (eqM s.1 0) then (remM s.1 10).bind fun r=>(bif ltM r 0 then some (wrap .i64 (negM r)) else
 some r).bind fun o=>(appM (nat_lit 8) s.2 [o]).bind fun r_1=>(divM .i64 s.1 10).bind fun r=>some (Sum.inl (r,r_1)) else some (Sum.inr s.2)) (n,[])=some (dgs n.natAbs):=by
  have key:=loopM_fn (fun k=>(e*((n.natAbs / 10 ^ k:Nat):Int),(dgs n.natAbs).take k)) (dgs n.natAbs).length (r:=dgs n.natAbs) (body:=fun (s:Int×List Int)=>bif PE.notM (eqM s.1 0) then (remM s.1 10).bind fun r=>(bif ltM r 0 then some (wrap .i64 (negM r)) else
   some r).bind fun o=>(appM (nat_lit 8) s.2 [o]).bind fun r_1=>(divM .i64 s.1 10).bind fun r=>some (Sum.inl (r,r_1)) else some (Sum.inr s.2)) (fun k hk=>?_) ?_
  ·rw [Nat.pow_zero,Nat.div_one,← hne,List.take_zero] at key
   exact key
  ·have hx:0<n.natAbs / 10 ^ k:=by
    refine Nat.pos_of_ne_zero fun q=>?_
    have:(dgs n.natAbs).drop k=[]:=by rw [dgs_drop,q,dgs_zero]
    have:=List.drop_eq_nil_iff.1 this
    omega
   have hxb:n.natAbs / 10 ^ k≤9223372036854775808:=Nat.le_trans (Nat.div_le_self _ _) (by omega)
   dsimp only
   rw [dgs_take hk,ndiv10]
   generalize n.natAbs / 10 ^ k=x at *
   have er:remM (e*(x:Int)) 10=some (e*((x % 10:Nat):Int)):=by
    unfold remM
    rw [decide_eq_false (by omega)]
    show some ((e*(x:Int)).tmod 10)=_
    congr 1
    rw [he]
    split
    ·rw [Int.neg_one_mul,Int.neg_tmod,Int.tmod_eq_emod_of_nonneg (by omega)];omega
    ·rw [Int.one_mul,Int.tmod_eq_emod_of_nonneg (by omega)];omega
   have ed:divM .i64 (e*(x:Int)) 10=some (e*((x / 10:Nat):Int)):=by
    rw [divM_pos (by omega)]
    congr 1
    rw [he]
    split
    ·rw [Int.neg_one_mul,Int.neg_tdiv,Int.tdiv_eq_ediv_of_nonneg (by omega),wrap_in (by omega) (by omega)];omega
    ·rw [Int.one_mul,Int.tdiv_eq_ediv_of_nonneg (by omega),wrap_in (by omega) (by omega)];omega
   have eo:(bif ltM (e*((x % 10:Nat):Int)) 0 then some (wrap .i64 (negM (e*((x % 10:Nat):Int)))) else some (e*((x % 10:Nat):Int)))=some ((x % 10:Nat):Int):=by
    rw [he]
    split
    ·rw [Int.neg_one_mul]
     by_cases h0:x % 10=0
     ·rw [h0];rfl
     ·rw [ltI (by omega),cT,show negM (-((x % 10:Nat):Int))=-(-((x % 10:Nat):Int)) from rfl,Int.neg_neg,wrap_in (by omega) (by omega)]
    ·rw [Int.one_mul,geI (by omega),cF]
   have hnz:e*(x:Int)≠0:=by rw [he];split<;>omega
   rw [neI hnz,notF,cT,er,oB,eo,oB,appM_of (by rw [List.length_take,List.length_singleton];omega),oB,ed,oB]
  ·dsimp only
   rw [Nat.div_eq_of_lt (dgs_lt n.natAbs),List.take_length,show e*((0:Nat):Int)=0 by omega,eqI rfl,notT,cF]
 have eL:ltM n 0=decide (n<0):=rfl
 have es:sg (decide (n<0)) n.natAbs=n:=by
  clear hne he main
  unfold sg
  by_cases h:n<0
  ·rw [dT h,if_pos rfl];omega
  ·rw [decide_eq_false h,if_neg (by decide)];omega
 rw [main,oB,rtext_ok (by omega),oB,eL,es]
theorem rvalid3_ok {z:Int} (h:Fits z):m102 (itoa z)=some true:=by
 unfold m102
 have hl:(decDigits z.natAbs).length≤200:=dec_len_le (k:=199) h
 have hp:0<(decDigits z.natAbs).length:=List.length_pos_iff.2 (dec_ne _)
 have hD:=dec_isD z.natAbs
 have h0:((bif ltM 0 (lenM (itoa z)) then byteM (itoa z) 0 else some 0).bind fun r=>bif PE.andM (ltM 0 (lenM (itoa z))) (eqM r 45) then (sliceM (itoa z) 1 (lenM (itoa z))).bind fun r=>bif
   eqsM r [(48:UInt8)] then some (Sum.inl false) else some (Sum.inr r) else some (Sum.inr (itoa z)))=some ((.inr (decDigits z.natAbs)):Bool⊕List UInt8):=by
  have hb1:ltM 0 (lenM (itoa z))=true:=ltI (by rw [lenI];have:=List.length_pos_iff.2 (itoa_ne z);omega)
  rw [hb1,cT]
  by_cases hz:z<0
  ·have e:itoa z=45::decDigits z.natAbs:=by
    have:=itoa_ng (n:=z.natAbs) (by omega)
    rwa [show -(z.natAbs:Int)=z by omega] at this
   have b:byteM (itoa z) 0=some 45:=by rw [e];rfl
   have s:sliceM (itoa z) 1 (lenM (itoa z))=some (decDigits z.natAbs):=by
    rw [e,sliceM_of (by omega) (by simp;omega) (Int.le_refl _)]
    simp
   rw [b,oB,eqI rfl,andT,cT,s,oB,eqsF (dec48 (by omega)),cF]
  ·have e:itoa z=decDigits z.natAbs:=by
    have:=itoa_nn (n:=z.natAbs)
    rwa [show (z.natAbs:Int)=z by omega] at this
   have hD0:=hD _ (List.getElem_mem hp)
   unfold isD at hD0
   rw [e,show (0:Int)=((0:Nat):Int) from rfl,byteM_at hp,oB,neI (by omega),andT,cF]
 refine bind_of h0 ?_
 rw [Sum.elim_inr]
 refine bind_of (x:=.inl ()) ?_ ?_
 ·refine loopM_fn (fun k=>(k:Int)) (decDigits z.natAbs).length (fun k hk=>?_) ?_
  ·have hk0:=hD _ (List.getElem_mem hk)
   unfold isD at hk0
   rw [ltI (by rw [lenI];omega),cT,byteM_at hk,oB,geI (by omega),notF,cT,oB,geI (a:=57) (by omega),show PE.orM false false=false from rfl,cF,wrap_in (by omega) (by omega)]
   rfl
  ·rw [geI (by rw [lenI];omega),cF]
 ·rw [Sum.elim_inl,ltI (by rw [lenI];omega),leI (by rw [lenI];omega),show PE.andM true true=true from rfl]
  by_cases hz:z.natAbs=0
  ·rw [hz,dec_zero];rfl
  ·obtain ⟨c,l,e,hc⟩:=dec_head hz
   have b:byteM (decDigits z.natAbs) 0=some (c.toNat:Int):=by rw [e];rfl
   have hc2:(c.toNat:Int)≠48:=fun q=>hc (UInt8.toNat_inj.1 (by rw [show (48:UInt8).toNat=48 from rfl];omega))
   rw [eqsF (dec48 hz),notF,andT,cT,b,oB,neI hc2];rfl
theorem sg_abs (z:Int):sg (decide (z<0)) z.natAbs=z:=by
 unfold sg
 by_cases h:z<0
 ·rw [dT h,if_pos rfl];omega
 ·rw [decide_eq_false h,if_neg (by decide)];omega
theorem sg_nabs (z:Int):sg (PE.notM (decide (z<0))) z.natAbs=-z:=by
 unfold sg
 by_cases h:z<0
 ·rw [dT h,notT,if_neg (by decide)];omega
 ·rw [decide_eq_false h,notF,if_pos rfl];omega
theorem rchk_sn {ng:Bool} {n:Nat} (hl:(dgs n).length≤1000) {z:Int} (hz:sg ng n=z):m104 (ng,dgs n)=some (sn z):=by
 rw [rchecked_ok hl,← hz]
 have e:(sg ng n).natAbs=n:=by unfold sg;split<;>omega
 by_cases h:n<10 ^ 200
 ·rw [if_pos h,sn_fit (show Fits _ from by unfold Fits;rw [e];exact h)]
 ·unfold sn;rw [if_neg h,if_neg (show ¬ Fits _ from by unfold Fits;rw [e];exact h)]
theorem rsum_ok {x y:Bool} {a b:Nat} (ha:(dgs a).length≤200) (hb:(dgs b).length≤200):m106 (x,dgs a,y,dgs b)=some (sn (sg x a+sg y b)):=by
 have hab:(dgs (a+b)).length≤1000:=Nat.le_trans (dgs_len_le (k:=201) (by
  have h1:=Nat.lt_of_lt_of_le (dgs_lt a) (Nat.pow_le_pow_right (show 0<10 by omega) ha)
  have h2:=Nat.lt_of_lt_of_le (dgs_lt b) (Nat.pow_le_pow_right (show 0<10 by omega) hb)
  rw [Nat.pow_succ];omega)) (by omega)
 have hm1:(dgs (a-b)).length≤1000:=Nat.le_trans (dgs_len_mono (show a-b≤a by omega)) (by omega)
 have hm2:(dgs (b-a)).length≤1000:=Nat.le_trans (dgs_len_mono (show b-a≤b by omega)) (by omega)
 unfold m106
 dsimp only
 by_cases hxy:x=y
 ·subst hxy
  rw [show eqbM x x=true from dT rfl,cT,rplus_ok (by omega) (by omega),oB,oB]
  dsimp only
  refine bind_of (rchk_sn hab (z:=sg x a+sg x b) ?_) rfl
  unfold sg;split<;>omega
 ·rw [show eqbM x y=false from decide_eq_false hxy,cF,order_ok (by omega) (by omega),oB,ord_le]
  by_cases hle:b≤a
  ·rw [dT hle,cT,rminus_ok (by omega) hle,oB,oB]
   dsimp only
   refine bind_of (rchk_sn hm1 (z:=sg x a+sg y b) ?_) rfl
   unfold sg;cases x<;>cases y<;>simp at hxy ⊢<;>omega
  ·rw [decide_eq_false hle,cF,rminus_ok (by omega) (by omega),oB,oB]
   dsimp only
   refine bind_of (rchk_sn hm2 (z:=sg x a+sg y b) ?_) rfl
   unfold sg;cases x<;>cases y<;>simp at hxy ⊢<;>omega
theorem rdig_ok {z:Int} (h:Fits z):m103 (itoa z)=some (decide (z<0),dgs z.natAbs):=digits_ok h
theorem fit_len {z:Int} (h:Fits z):(dgs z.natAbs).length≤200:=dgs_len_le h
theorem risub_ok {x y:Int} (hx:Fits x) (hy:Fits y):m72 (itoa x,itoa y)=some (sn (x-y)):=by
 unfold m72
 dsimp only
 rw [rvalid3_ok hx,oB,notT,notF,cT,rvalid3_ok hy,oB,notT,show PE.orM false false=false from rfl,cF,rdig_ok hx,oB,rdig_ok hy,oB,rsum_ok (fit_len hx) (fit_len hy),sg_abs,sg_nabs,← Int.sub_eq_add_neg];rfl
theorem rimul_ok {x y:Int} (hx:Fits x) (hy:Fits y):m71 (itoa x,itoa y)=some (sn (x*y)):=by
 have h1:=fit_len hx
 have h2:=fit_len hy
 have hl:(dgs (x.natAbs*y.natAbs)).length≤1000:=Nat.le_trans dgs_mul (by omega)
 unfold m71
 dsimp only
 rw [rvalid3_ok hx,oB,notT,notF,cT,rvalid3_ok hy,oB,notT,show PE.orM false false=false from rfl,cF,rdig_ok hx,oB,rdig_ok hy,oB,rtimes_ok (by omega) (by omega),oB]
 refine bind_of (rchk_sn hl (z:=x*y) ?_) rfl
 have e:sg (PE.notM (eqbM (decide (x<0)) (decide (y<0)))) (x.natAbs*y.natAbs)=sg (decide (x<0)) x.natAbs*sg (decide (y<0)) y.natAbs:=by
  unfold sg
  cases decide (x<0)<;>cases decide (y<0)<;>simp [eqbM,PE.notM]<;>grind
 rw [e,sg_abs,sg_abs]
theorem ricmp_ok {x y:Int} (hx:Fits x) (hy:Fits y):m110 (itoa x,itoa y)=some (cmp3 x y):=by
 have h1:=fit_len hx
 have h2:=fit_len hy
 unfold m110
 dsimp only
 rw [rvalid3_ok hx,oB,notT,notF,cT,rvalid3_ok hy,oB,notT,show PE.orM false false=false from rfl,cF,rdig_ok hx,oB,rdig_ok hy,oB]
 dsimp only
 by_cases a:x<0
 ·rw [dT a]
  by_cases b:y<0
  ·rw [dT b,show eqbM true true=true from rfl,notT,cF,cT,order_ok (by omega) (by omega),oB]
   unfold ordN cmp3
   congr 1
   split<;>split<;>(try split)<;>omega
  ·rw [decide_eq_false b,show eqbM true false=false from rfl,notF,cT,cT]
   unfold cmp3;rw [if_pos (by omega)]
 ·rw [decide_eq_false a]
  by_cases b:y<0
  ·rw [dT b,show eqbM false true=false from rfl,notF,cT,cF]
   unfold cmp3;rw [if_neg (by omega),if_pos (by omega)]
  ·rw [decide_eq_false b,show eqbM false false=true from rfl,notT,cF,cF,order_ok (by omega) (by omega),oB]
   unfold ordN cmp3
   congr 1
   split<;>split<;>(try split)<;>omega
theorem dv_take_le {l:List UInt8} (k:Nat):dv (l.take k)≤dv l:=by
 have e:dv l=dv (l.take k)*10 ^ (l.drop k).length+dv (l.drop k):=by rw [← dv_app,List.take_append_drop]
 have h:dv (l.take k)*1≤dv (l.take k)*10 ^ (l.drop k).length:=Nat.mul_le_mul_left _ (Nat.pow_pos (by omega))
 omega
theorem dv_take_succ {l:List UInt8} {k:Nat} (h:k<l.length):dv (l.take (k+1))=dv (l.take k)*10+dgt l[k]:=by
 rw [List.take_succ_eq_append_getElem h,dv_app1]
theorem min64:itoa (-9223372036854775808)=[(45:UInt8),(57:UInt8),(50:UInt8),(50:UInt8),(51:UInt8),(51:UInt8),(55:UInt8),(50:UInt8),(48:UInt8),(51:UInt8),(54:UInt8),(56:UInt8),(53:UInt8),(52:UInt8),(55:UInt8),(55:UInt8),(53:UInt8),(56:UInt8),(48:UInt8),(56:UInt8)]:=by
 simp [itoa,decDigits]
theorem max64:itoa 9223372036854775807=[(57:UInt8),(50:UInt8),(50:UInt8),(51:UInt8),(51:UInt8),(55:UInt8),(50:UInt8),(48:UInt8),(51:UInt8),(54:UInt8),(56:UInt8),(53:UInt8),(52:UInt8),(55:UInt8),(55:UInt8),(53:UInt8),(56:UInt8),(48:UInt8),(55:UInt8)]:=by
 simp [itoa,decDigits]
theorem dig_u8 {c:UInt8} (h:isD c):IntKind.wrap .i64 (IntKind.wrap IntKind.u8 ((c.toNat:Int)-48))=(dgt c:Int):=by
 unfold isD at h
 unfold dgt
 rw [wrap_u8 (by omega) (by omega),wrap_in (by omega) (by omega)]
 omega
theorem toint_nn {n:Nat} (h:n≤9223372036854775807):loopM (fun (s:Int×Int)=>bif ltM s.2 (lenM (decDigits n)) then Option.bind (Option.bind (byteM (decDigits n) s.2) fun r_3=>bif eqM r_3 45 then some s.1 else Option.bind (byteM (decDigits n)
  s.2) fun r_4=>Option.bind (Option.bind (byteM (decDigits n) 0) fun r=>bif eqM r 45 then some (IntKind.wrap .i64 (PE.negM (IntKind.wrap .i64 (IntKind.wrap IntKind.u8 (r_4-48))))) else some
  (IntKind.wrap .i64 (IntKind.wrap IntKind.u8 (r_4-48)))) fun o=>some (IntKind.wrap .i64 (IntKind.wrap .i64 (10*s.1)+o))) fun o=>some (Sum.inl (o,IntKind.wrap
  IntKind.i64 (s.2+1))) else some (Sum.inr s.1)) (0,0)=some (n:Int):=by
 have hD:=dec_isD n
 have hv:=dv_dec n
 have hne:=dec_ne n
 have hlen:(decDigits n).length≤20:=dec_len_le (k:=19) (by omega)
 generalize decDigits n=D at *
 have h0:0<D.length:=List.length_pos_iff.2 hne
 obtain ⟨r,h1,h2⟩:=loopM_from (body:=fun (s:Int×Int)=>bif ltM s.2 (lenM D) then Option.bind (Option.bind (byteM D s.2) fun r_3=>bif eqM r_3 45 then some s.1 else Option.bind (byteM D
  s.2) fun r_4=>Option.bind (Option.bind (byteM D 0) fun r=>bif eqM r 45 then some (IntKind.wrap .i64 (PE.negM (IntKind.wrap .i64 (IntKind.wrap IntKind.u8 (r_4-48))))) else some
  (IntKind.wrap .i64 (IntKind.wrap IntKind.u8 (r_4-48)))) fun o=>some (IntKind.wrap .i64 (IntKind.wrap .i64 (10*s.1)+o))) fun o=>some (Sum.inl (o,IntKind.wrap
  IntKind.i64 (s.2+1))) else some (Sum.inr s.1)) (fun k s=>s=((dv (D.take k):Int),(k:Int))) (fun r=>r=(n:Int)) D.length (s:=(0,0)) rfl fun k s hk hs=>by
  subst hs
  by_cases hlt:k<D.length
  ·refine .inl ⟨_,hlt,?_,rfl⟩
   have hc:=hD _ (List.getElem_mem hlt)
   have hc0:=hD _ (List.getElem_mem h0)
   have e0:byteM D 0=some ((D[0]).toNat:Int):=byteM_at h0
   have hs:=dv_take_succ hlt
   have hle:=dv_take_le (l:=D) (k+1)
   have hu:=hc
   have hu0:=hc0
   unfold isD at hu hu0
   dsimp only
   rw [ltI (by show (k:Int)<(D.length:Int);omega),cT,byteM_at hlt,oB,neI (by omega),cF,oB,e0,oB,neI (by omega),cF,dig_u8 hc,oB,wrap_in (n:=10*(dv (D.take k):Int)) (by omega) (by omega),oB,wrap_in (n:=10*(dv (D.take k):Int)+(dgt D[k]:Int)) (by omega) (by omega),wrap_in (n:=(k:Int)+1) (by omega) (by omega)]
   rw [hs,show 10*(dv (D.take k):Int)+(dgt D[k]:Int)=((dv (D.take k)*10+dgt D[k]:Nat):Int) by omega]
   rfl
  ·have e:k=D.length:=by omega
   subst e
   refine .inr ⟨(dv (D.take D.length):Int),?_,?_⟩
   ·dsimp only
    rw [geI (Int.le_refl _),cF]
   ·rw [List.take_length,hv]
 rw [h1,h2]
theorem toint_ng {n:Nat} (h:n≤9223372036854775808):loopM (fun (s:Int×Int)=>bif ltM s.2 (lenM (45::decDigits n)) then Option.bind (Option.bind (byteM (45::decDigits n) s.2) fun r_3=>bif eqM r_3 45 then some s.1 else Option.bind (byteM (45::decDigits n)
  s.2) fun r_4=>Option.bind (Option.bind (byteM (45::decDigits n) 0) fun r=>bif eqM r 45 then some (IntKind.wrap .i64 (PE.negM (IntKind.wrap .i64 (IntKind.wrap IntKind.u8 (r_4-48))))) else some
  (IntKind.wrap .i64 (IntKind.wrap IntKind.u8 (r_4-48)))) fun o=>some (IntKind.wrap .i64 (IntKind.wrap .i64 (10*s.1)+o))) fun o=>some (Sum.inl (o,IntKind.wrap
  IntKind.i64 (s.2+1))) else some (Sum.inr s.1)) (0,0)=some (-(n:Int)):=by
 have hD:=dec_isD n
 have hv:=dv_dec n
 have hlen:(decDigits n).length≤20:=dec_len_le (k:=19) (by omega)
 generalize decDigits n=D at *
 obtain ⟨r,h1,h2⟩:=loopM_from (body:=fun (s:Int×Int)=>bif ltM s.2 (lenM (45::D)) then Option.bind (Option.bind (byteM (45::D) s.2) fun r_3=>bif eqM r_3 45 then some s.1 else Option.bind (byteM (45::D)
  s.2) fun r_4=>Option.bind (Option.bind (byteM (45::D) 0) fun r=>bif eqM r 45 then some (IntKind.wrap .i64 (PE.negM (IntKind.wrap .i64 (IntKind.wrap IntKind.u8 (r_4-48))))) else some
  (IntKind.wrap .i64 (IntKind.wrap IntKind.u8 (r_4-48)))) fun o=>some (IntKind.wrap .i64 (IntKind.wrap .i64 (10*s.1)+o))) fun o=>some (Sum.inl (o,IntKind.wrap
  IntKind.i64 (s.2+1))) else some (Sum.inr s.1)) (fun k s=>s=(-(dv (D.take (k-1)):Int),(k:Int))) (fun r=>r=-(n:Int)) (D.length+1) (s:=(0,0)) rfl fun k s hk hs=>by
  subst hs
  have el:lenM (45::D)=(D.length:Int)+1:=by show ((D.length+1:Nat):Int)=_;omega
  by_cases hlt:k<D.length+1
  ·refine .inl ⟨_,hlt,?_,rfl⟩
   have e0:byteM (45::D) 0=some (45:Int):=rfl
   cases k with
   | zero =>
    dsimp only
    rw [el,ltI (by omega),cT]
    show Option.bind (Option.bind (byteM (45::D) 0) _) _=_
    rw [e0,oB,eqI rfl,cT,oB]
    rfl
   | succ k =>
    have hlt':k<D.length:=by omega
    have hc:=hD _ (List.getElem_mem hlt')
    have ek:byteM (45::D) ((k+1:Nat):Int)=some ((D[k]).toNat:Int):=byteM_at (s:=45::D) (i:=k+1) (by simp;omega)
    have hs:=dv_take_succ hlt'
    have hle:=dv_take_le (l:=D) (k+1)
    have hu:=hc
    unfold isD at hu
    dsimp only
    rw [el,ltI (by omega),cT,ek,oB,neI (by omega),cF,oB,e0,oB,eqI rfl,cT,dig_u8 hc,oB,Nat.add_sub_cancel,show IntKind.wrap .i64 (PE.negM (dgt D[k]:Int))=-(dgt D[k]:Int) from wrap_in (n:=-(dgt D[k]:Int)) (by omega) (by omega),wrap_in (n:=10*-(dv (D.take k):Int)) (by omega) (by omega),oB,wrap_in (n:=10*-(dv (D.take k):Int)+-(dgt D[k]:Int)) (by omega) (by omega),wrap_in (n:=((k+1:Nat):Int)+1) (by omega) (by omega),Nat.add_sub_cancel]
    rw [hs,show 10*-(dv (D.take k):Int)+-(dgt D[k]:Int)=-((dv (D.take k)*10+dgt D[k]:Nat):Int) by omega]
    rfl
  ·have e:k=D.length+1:=by omega
   subst e
   refine .inr ⟨-(dv (D.take (D.length+1-1)):Int),?_,?_⟩
   ·dsimp only
    rw [el,geI (by omega),cF]
   ·rw [Nat.add_sub_cancel,List.take_length,hv]
 rw [h1,h2]
theorem cmp3_lt0 {x y:Int} (h:y≤x):ltM (cmp3 x y) 0=false:=by
 unfold cmp3
 rw [if_neg (by omega)]
 split<;>rfl
theorem cmp3_gt0 {x y:Int} (h:x≤y):ltM 0 (cmp3 x y)=false:=by
 unfold cmp3
 split
 ·rfl
 ·rw [if_neg (by omega)];rfl
theorem rtoint_ok {z:Int} (h1:-9223372036854775808≤z) (h2:z≤9223372036854775807):m74 (itoa z)=some (z,0):=by
 have hp:(9223372036854775809:Nat)<10 ^ 200:=by decide
 have hz:Fits z:=by unfold Fits;omega
 have hm:Fits (-9223372036854775808):=by unfold Fits;omega
 have hM:Fits 9223372036854775807:=by unfold Fits;omega
 unfold m74
 rw [rvalid3_ok hz,oB,notT,notF,cT,← min64,ricmp_ok hz hm,oB,cmp3_lt0 h1,show PE.orM false false=false from rfl,notF,cT,← max64,ricmp_ok hz hM,oB,cmp3_gt0 h2,show PE.orM false false=false from rfl,cF]
 by_cases h0:z<0
 ·obtain ⟨n,hn⟩:∃ n:Nat,z=-(n:Int):=⟨z.natAbs,by omega⟩
  subst hn
  rw [itoa_ng (by omega)]
  exact bind_of (toint_ng (by omega)) rfl
 ·obtain ⟨n,hn⟩:∃ n:Nat,z=(n:Int):=⟨z.natAbs,by omega⟩
  subst hn
  rw [itoa_nn]
  exact bind_of (toint_nn (by omega)) rfl
end Go.Proofs.YtfekoiabjbdnfaaGreat
namespace Go.Proofs.YtfekoiabjbdnfaaGreat
open Go Go.Lib Go.Abs Go.PE Go.Num
theorem range_loop {σ ρ:Type} (g:Nat→σ) (a b:Nat) (hab:a≤b) {body:σ→Option (σ⊕ρ)} {r:ρ}
  (h:∀ k,a≤k→k<b→body (g k)=some (.inl (g (k+1)))) (he:body (g b)=some (.inr r)):loopM body (g a)=some r:=by
 obtain ⟨q,h1,h2⟩:=loopM_from (body:=body) (fun k s=>s=g (a+k)) (fun q=>q=r) (b-a) (s:=g a) rfl fun k s hk hs=>by
  subst hs
  by_cases hlt:k<b-a
  ·exact .inl ⟨_,hlt,h (a+k) (by omega) (by omega),by rw [Nat.add_assoc]⟩
  ·have e:a+k=b:=by omega
   rw [e]
   exact .inr ⟨_,he,rfl⟩
 rw [h1,h2]
def itT (n:Nat) (T:Nat→Nat→Int):List (List (List UInt8)):=rt n (fun _=>n) fun i j=>itoa (T i j)
section
variable {n i j:Nat} {T:Nat→Nat→Int}
theorem it_len:lenM (itT n T)=(n:Int):=by show ((itT n T).length:Int)=n;unfold itT;rw [rt_length]
theorem it_chk (h:i<n):chkM (i:Int) (lenM (itT n T))=some ():=chkM_of (by omega) (by rw [it_len];omega)
theorem it_idx (h:i<n):idxM (itT n T) (i:Int)=some (row n fun j=>itoa (T i j)):=rt_idx h
theorem it_chk2 (h:i<n) (hj:j<n):((idxM (itT n T) (i:Int)).bind fun xs=>chkM (j:Int) (lenM xs))=some ():=by
 rw [it_idx h,oB]
 exact chkM_of (by omega) (by show (j:Int)<((row n _).length:Int);rw [row_length];omega)
theorem it_get (h:i<n) (hj:j<n):((idxM (itT n T) (i:Int)).bind fun xs=>(idxM xs (j:Int)).bind fun x=>some x)=some (itoa (T i j)):=by
 rw [it_idx h,oB,row_idx hj,oB]
theorem it_set (h:i<n) (hj:j<n) (y:Int):set2M (itT n T) (i:Int) (j:Int) (fun _=>some (itoa y))=some (itT n (upd T i j y)):=by
 unfold itT
 rw [rt_set (y:=itoa y) h hj rfl]
 congr 1
 refine rt_congr (fun _ _=>rfl) fun a b _ _=>?_
 unfold upd
 split<;>rfl
theorem it_congr {T':Nat→Nat→Int} (h:∀ i j,i<n→j<n→T i j=T' i j):itT n T=itT n T' :=
 rt_congr (fun _ _=>rfl) fun a b ha hb=>by rw [h a b ha hb]
theorem it_swap (h:i<n) (hj:j<n):swM (itT n T) (i:Int) (j:Int)=some (itT n fun a=>T (Go.Det.swi i j a)):=by
 unfold swM
 rw [it_idx h,it_idx hj]
 dsimp only
 rw [show ((i:Nat):Int).toNat=i by omega,show ((j:Nat):Int).toNat=j by omega]
 congr 1
 unfold itT rt
 rw [row_set h,row_set hj]
 refine row_congr fun a _=>?_
 have fin:∀ b,b=Go.Det.swi i j a→(row n fun c=>itoa (T b c))=row n fun c=>itoa (T (Go.Det.swi i j a) c):=fun b hb=>by rw [hb]
 by_cases e1:a=j
 ·rw [if_pos e1]
  exact fin i (by unfold Go.Det.swi;subst e1;by_cases e2:a=i<;>simp [e2])
 ·rw [if_neg e1]
  by_cases e2:a=i
  ·rw [if_pos e2]
   exact fin j (by unfold Go.Det.swi;rw [if_pos e2])
  ·rw [if_neg e2]
   exact fin a (by unfold Go.Det.swi;rw [if_neg e2,if_neg e1])
end
def BG:Int:=10 ^ 60
theorem fit_of {z:Int} (h1:-(10 ^ 130)≤z) (h2:z≤10 ^ 130):Fits z:=by
 have:(10:Nat) ^ 130<10 ^ 200:=by decide
 have e:((10 ^ 130:Nat):Int)=10 ^ 130:=by decide
 unfold Fits
 omega
theorem BG_fit {z:Int} (h1:-BG≤z) (h2:z≤BG):Fits z:=by
 have:(10:Int) ^ 60≤10 ^ 130:=by decide
 unfold BG at h1 h2
 exact fit_of (by omega) (by omega)
theorem pr_bd {a b E:Int} (hE:0≤E) (ha:-E≤a∧a≤E) (hb:-E≤b∧b≤E):-(E*E)≤a*b∧a*b≤E*E:=by
 have h1:a.natAbs*b.natAbs≤E.natAbs*E.natAbs:=Nat.mul_le_mul (by omega) (by omega)
 have h2:((a.natAbs*b.natAbs:Nat):Int)≤((E.natAbs*E.natAbs:Nat):Int):=by omega
 rw [← Int.natAbs_mul,← Int.natAbs_mul,Int.natAbs_of_nonneg (Int.mul_nonneg hE hE)] at h2
 omega
theorem BG2:BG*BG≤10 ^ 121:=by unfold BG;decide
theorem ridiv_ex {q p:Int} (hx:Fits (q*p)) (hy:Fits p) (hq:Fits q) (hp0:p≠0):m73 (itoa (q*p),itoa p)=some (itoa q,itoa 0,0):=by
 have h1:=fit_len hx
 have h2:=fit_len hy
 have hn:0<p.natAbs:=by omega
 have e1:(q*p).natAbs / p.natAbs=q.natAbs:=by rw [Int.natAbs_mul,Nat.mul_div_cancel _ hn]
 have e2:(q*p).natAbs % p.natAbs=0:=by rw [Int.natAbs_mul,Nat.mul_mod_left]
 have hl:(dgs q.natAbs).length≤1000:=Nat.le_trans (fit_len hq) (by omega)
 unfold m73
 dsimp only
 rw [rvalid3_ok hx,oB,notT,notF,cT,rvalid3_ok hy,oB,notT,show PE.orM false false=false from rfl,orF,eqsF (fun e=>hp0 (itoa_eq0.1 e)),cF,rdig_ok hx,oB,rdig_ok hy,oB,rdivided_ok hn (by omega) (by omega),oB]
 dsimp only
 rw [e1,e2,dgs_zero,show ltM 0 (lenM ([]:List Int))=false from rfl,show PE.andM (decide (q*p<0)) false=false from by cases decide (q*p<0)<;>rfl,cF,oB]
 dsimp only
 rw [← dgs_zero]
 have es:sg (PE.notM (eqbM (decide (q*p<0)) (decide (p<0)))) q.natAbs=q:=by
  by_cases hq0:q=0
  ·subst hq0
   unfold sg;split<;>rfl
  ·have hs:PE.notM (eqbM (decide (q*p<0)) (decide (p<0)))=decide (q<0):=by
    rcases Int.lt_or_gt_of_ne hp0 with a | a
    ·rcases Int.lt_or_gt_of_ne hq0 with b | b
     ·have:=Int.mul_pos_of_neg_of_neg b a
      rw [decide_eq_false (by omega),dT a,dT b];rfl
     ·have:=Int.mul_neg_of_pos_of_neg b a
      rw [dT this,dT a,decide_eq_false (by omega)];rfl
    ·rcases Int.lt_or_gt_of_ne hq0 with b | b
     ·have:=Int.mul_neg_of_neg_of_pos b a
      rw [dT this,decide_eq_false (by omega),dT b];rfl
     ·have:=Int.mul_pos b a
      rw [decide_eq_false (by omega),decide_eq_false (by omega),decide_eq_false (by omega)];rfl
   rw [hs,sg_abs]
 rw [rchk_sn hl es,oB,rtext_ok (by rw [dgs_zero];simp),oB,sn_fit hq]
 dsimp only
 rw [eqI rfl,notT,cF]
 rfl
theorem step_str {a b c d p q:Int} (ha:-BG≤a∧a≤BG) (hb:-BG≤b∧b≤BG) (hc:-BG≤c∧c≤BG) (hd:-BG≤d∧d≤BG) (hp:-BG≤p∧p≤BG) (hq:-BG≤q∧q≤BG) (hp0:p≠0) (h:a*b-c*d=q*p) :
  m71 (itoa a,itoa b)=some (itoa (a*b),0)∧m71 (itoa c,itoa d)=some (itoa (c*d),0)∧m72 (itoa (a*b),itoa (c*d))=some (itoa (q*p),0)∧m73 (itoa (q*p),itoa p)=some (itoa q,itoa 0,0):=by
 have h0:(0:Int)≤BG:=by decide
 have h1:=pr_bd h0 ha hb
 have h2:=pr_bd h0 hc hd
 have h3:=BG2
 have h4:(2:Int)*10 ^ 121≤10 ^ 130:=by decide
 have f1:Fits (a*b):=fit_of (by omega) (by omega)
 have f2:Fits (c*d):=fit_of (by omega) (by omega)
 have f3:Fits (q*p):=fit_of (by omega) (by omega)
 refine ⟨?_,?_,?_,?_⟩
 ·rw [rimul_ok (BG_fit ha.1 ha.2) (BG_fit hb.1 hb.2),sn_fit f1]
 ·rw [rimul_ok (BG_fit hc.1 hc.2) (BG_fit hd.1 hd.2),sn_fit f2]
 ·rw [risub_ok f1 f2,h,sn_fit f3]
 ·exact ridiv_ex f3 (BG_fit hp.1 hp.2) (BG_fit hq.1 hq.2) hp0
end Go.Proofs.YtfekoiabjbdnfaaGreat
namespace Go.Proofs.YtfekoiabjbdnfaaGreat
open Go Go.Lib Go.Abs Go.PE Go.Num
open Go.Det (Mx det del mn DI bdE sww swi)
theorem bdE8 {k:Nat} (h:k≤8):bdE 480000 k≤BG:=Int.le_trans (Go.Det.bdE_mono (by decide) h) (by decide +kernel)
theorem mn_BG {B:Mx} (h:∀ i j,-480000≤B i j∧B i j≤480000) {k:Nat} (hk:k<8) (x j:Nat):-BG≤mn B k x j∧mn B k x j≤BG:=by
 have h1:=Go.Det.mn_bd (by decide) h k x j
 have h2:=bdE8 (k:=k+1) (by omega)
 omega
theorem del_BG {B:Mx} (h:∀ i j,-480000≤B i j∧B i j≤480000) {k:Nat} (hk:k≤8):-BG≤del B k∧del B k≤BG:=by
 have h1:=Go.Det.del_bd (by decide) h k
 have h2:=bdE8 hk
 omega
abbrev Tbl:=List (List (List UInt8))
noncomputable def pvB (n:Int) (l:Tbl) (k:Int):Int→Option (Int⊕Int) :=
 fun (s_1:Int)=>(bif ltM s_1 n then chkM s_1 (lenM l) else some ()).bind fun r=>(bif ltM s_1 n then chkM s_1 (lenM l)
 else some ()).bind fun r_1=>(bif ltM s_1 n then (idxM l s_1).bind fun (xs:List (List UInt8))=>chkM k (lenM xs) else some ()).bind fun
 r_2=>(bif ltM s_1 n then (idxM l s_1).bind fun (xs:List (List UInt8))=>(idxM xs k).bind fun (x:List UInt8)=>some x else some
 []).bind fun r=>bif PE.andM (ltM s_1 n) (eqsM r [(48:UInt8)]) then some (Sum.inl (IntKind.wrap .i64 (s_1+1))) else some (Sum.inr s_1)
noncomputable def elB (n k i:Int) (last:List UInt8):Int×Tbl→Option ((Int×Tbl)⊕Tbl) :=
 fun (s_2:Int×Tbl)=>bif ltM s_2.1 n then (chkM i (lenM s_2.2)).bind fun r=>(chkM i (lenM s_2.2)).bind fun r_1=>((idxM s_2.2 i).bind fun (xs:List (List
 UInt8))=>chkM s_2.1 (lenM xs)).bind fun r_2=>((idxM s_2.2 i).bind fun (xs:List (List UInt8))=>(idxM xs s_2.1).bind fun (x:List UInt8)=>some
 x).bind fun r_3=>(chkM k (lenM s_2.2)).bind fun r_4=>(chkM k (lenM s_2.2)).bind fun r_5=>((idxM s_2.2 k).bind fun (xs:List (List
 UInt8))=>chkM k (lenM xs)).bind fun r_6=>((idxM s_2.2 k).bind fun (xs:List (List UInt8))=>(idxM xs k).bind fun (x:List UInt8) =>
 some x).bind fun r_7=>(m71 (r_3,r_7)).bind fun r_8=>(chkM i (lenM s_2.2)).bind fun r_9=>(chkM i (lenM s_2.2)).bind fun r_10=>((idxM s_2.2
 i).bind fun (xs:List (List UInt8))=>chkM k (lenM xs)).bind fun r_11=>((idxM s_2.2 i).bind fun (xs:List (List UInt8))=>(idxM xs
 k).bind fun (x:List UInt8)=>some x).bind fun r_12=>(chkM k (lenM s_2.2)).bind fun r_13=>(chkM k (lenM s_2.2)).bind fun r_14 =>
 ((idxM s_2.2 k).bind fun (xs:List (List UInt8))=>chkM s_2.1 (lenM xs)).bind fun r_15=>((idxM s_2.2 k).bind fun (xs:List (List UInt8)) =>
 (idxM xs s_2.1).bind fun (x:List UInt8)=>some x).bind fun r_16=>(m71 (r_12,r_16)).bind fun r_17=>(m72 (r_8.1,r_17.1)).bind fun r_18=>(chkM i
 (lenM s_2.2)).bind fun r_19=>(chkM i (lenM s_2.2)).bind fun r_20=>(m73 (r_18.1,last)).bind fun r_21=>((idxM s_2.2 i).bind fun (xs:List (List
 UInt8))=>chkM s_2.1 (lenM xs)).bind fun r_22=>(set2M s_2.2 i s_2.1 fun (x:List UInt8)=>some r_21.1).bind fun r=>some (Sum.inl (IntKind.wrap IntKind.i64
 (s_2.1+1),r)) else some (Sum.inr s_2.2)
noncomputable def iB (n k:Int) (last:List UInt8):Int×Tbl→Option ((Int×Tbl)⊕Tbl) :=
 fun (s_1:Int×Tbl)=>bif ltM s_1.1 n then (loopM (elB n k s_1.1 last) (IntKind.wrap .i64 (k+1),s_1.2)).bind fun o=>some (Sum.inl (IntKind.wrap .i64 (s_1.1+1),o)) else some (Sum.inr s_1.2)
theorem str48 {z:Int}:eqsM (itoa z) [(48:UInt8)]=decide (z=0):=by
 by_cases h:z=0
 ·rw [dT h,eqsT (itoa_eq0.2 h)]
 ·rw [decide_eq_false h,eqsF fun e=>h (itoa_eq0.1 e)]
theorem piv_loop {n k:Nat} {T:Nat→Nat→Int} (hn:n≤8) (hk:k<n) :
  ∃ p,k≤p∧p≤n∧(∀ q,k≤q→q<p→T q k=0)∧(p<n→T p k≠0)∧loopM (pvB (n:Int) (itT n T) (k:Int)) (k:Int)=some (p:Int):=by
 obtain ⟨r,h1,h2⟩:=loopM_from (body:=pvB (n:Int) (itT n T) (k:Int)) (fun j s=>s=((k+j:Nat):Int)∧∀ q,k≤q→q<k+j→T q k=0) (fun r=>∃ p:Nat,r=(p:Int)∧k≤p∧p≤n∧(∀ q,k≤q→q<p→T q k=0)∧(p<n→T p k≠0)) (n-k) (s:=(k:Int)) ⟨rfl,fun q h1 h2=>by omega⟩ fun j s hj hs=>by
  obtain ⟨rfl,hz⟩:=hs
  by_cases hlt:j<n-k
  ·have hp:k+j<n:=by omega
   have e:pvB (n:Int) (itT n T) (k:Int) ((k+j:Nat):Int)=bif decide (T (k+j) k=0) then some (Sum.inl (((k+(j+1):Nat):Int))) else some (Sum.inr ((k+j:Nat):Int)):=by
    unfold pvB
    rw [ltI (by omega),cT,cT,cT,it_chk hp,oB,oB,it_chk2 hp hk,oB,it_get hp hk,oB,andT,str48,wrap_in (by omega) (by omega)]
    rfl
   by_cases h0:T (k+j) k=0
   ·rw [dT h0,cT] at e
    refine .inl ⟨_,hlt,e,rfl,fun q h1 h2=>?_⟩
    by_cases hq:q=k+j
    ·rw [hq];exact h0
    ·exact hz q h1 (by omega)
   ·rw [decide_eq_false h0,cF] at e
    exact .inr ⟨_,e,k+j,rfl,by omega,by omega,hz,fun _=>h0⟩
  ·have en:k+j=n:=by omega
   refine .inr ⟨(n:Int),?_,n,rfl,by omega,Nat.le_refl _,fun q h1 h2=>hz q h1 (by omega),fun h=>absurd h (Nat.lt_irrefl _)⟩
   rw [en]
   unfold pvB
   rw [geI (Int.le_refl _),cF,oB,cF,oB,cF,oB]
   rfl
 obtain ⟨p,rfl,a,b,c,d⟩:=h2
 exact ⟨p,a,b,c,d,h1⟩
theorem el_step {n k i j:Nat} {T:Nat→Nat→Int} {p q:Int} (hn:n≤8) (hk:k<n) (hi:i<n) (hj:j<n) (hb:∀ x∈[T i j,T k k,T i k,T k j,p,q],-BG≤x∧x≤BG) (hp0:p≠0) (h:T i j*T k k-T i k*T k j=q*p) :
  elB (n:Int) (k:Int) (i:Int) (itoa p) ((j:Int),itT n T)=some (.inl (((j+1:Nat):Int),itT n (upd T i j q))):=by
 obtain ⟨e1,e2,e3,e4⟩:=step_str (hb _ (by simp)) (hb _ (by simp)) (hb _ (by simp)) (hb _ (by simp)) (hb p (by simp)) (hb q (by simp)) hp0 h
 unfold elB
 dsimp only
 rw [ltI (by omega),cT]
 simp only [it_chk hi,it_chk hk,it_chk2 hi hj,it_chk2 hk hk,it_chk2 hi hk,it_chk2 hk hj,it_get hi hj,it_get hk hk,it_get hi hk,it_get hk hj,oB,e1,e2,e3,e4]
 rw [it_set hi hj,oB,wrap_in (by omega) (by omega)]
 rfl
def upT (B:Mx) (T:Nat→Nat→Int) (k i j:Nat):Nat→Nat→Int:=fun a b=>if k<a∧k<b∧(a<i∨(a=i∧b<j)) then mn B (k+1) a b else T a b
def Hold (B:Mx) (T:Nat→Nat→Int) (n k:Nat):Prop:=∀ a b,k≤a→a<n→k≤b→b<n→T a b=mn B k a b
theorem row_step {A B:Mx} {n k i:Nat} {s:Int} {T:Nat→Nat→Int} (hn:n≤8) (hk:k<n) (hi:k<i) (hin:i<n) (hD:DI A n (k+1) 480000 B s) (hT:Hold B T n k) :
  loopM (elB (n:Int) (k:Int) (i:Int) (itoa (del B k))) (((k+1:Nat):Int),itT n (upT B T k i (k+1)))=some (itT n (upT B T k i n)):=by
 refine range_loop (fun j=>((j:Int),itT n (upT B T k i j))) (k+1) n (by omega) (fun j h1 h2=>?_) ?_
 ·have a1:upT B T k i j i j=mn B k i j:=by unfold upT;rw [if_neg (by omega)];exact hT i j (by omega) hin (by omega) h2
  have a2:upT B T k i j k k=mn B k k k:=by unfold upT;rw [if_neg (by omega)];exact hT k k (by omega) hk (by omega) hk
  have a3:upT B T k i j i k=mn B k i k:=by unfold upT;rw [if_neg (by omega)];exact hT i k (by omega) hin (by omega) hk
  have a4:upT B T k i j k j=mn B k k j:=by unfold upT;rw [if_neg (by omega)];exact hT k j (by omega) hk (by omega) h2
  have hd:del B k≠0:=by
   cases k with
   | zero=>show (1:Int)≠0;decide
   | succ k=>exact hD.pw k (by omega)
  have hs:=hD.step hk hi hin (show k<j by omega) h2
  rw [el_step (q:=mn B (k+1) i j) hn hk hin h2 (fun x hx=>?_) hd (by rw [a1,a2,a3,a4];exact hs)]
  ·congr 3
   refine it_congr fun a b _ _=>?_
   unfold upd upT
   by_cases e:a=i∧b=j
   ·rw [if_pos e,if_pos (by omega),e.1,e.2]
   ·rw [if_neg e]
    by_cases e2:k<a∧k<b∧(a<i∨(a=i∧b<j))
    ·rw [if_pos e2,if_pos (by omega)]
    ·rw [if_neg e2,if_neg (by omega)]
  ·rw [a1,a2,a3,a4] at hx
   have m1:=fun x j=>mn_BG hD.bd (k:=k) (by omega) x j
   simp only [List.mem_cons,List.not_mem_nil,or_false] at hx
   rcases hx with rfl | rfl | rfl | rfl | rfl | rfl
   ·exact m1 _ _
   ·exact m1 _ _
   ·exact m1 _ _
   ·exact m1 _ _
   ·exact del_BG hD.bd (by omega)
   ·exact mn_BG hD.bd (by omega) _ _
 ·unfold elB
  dsimp only
  rw [geI (Int.le_refl _),cF]
theorem rows_step {A B:Mx} {n k:Nat} {s:Int} {T:Nat→Nat→Int} (hn:n≤8) (hk:k<n) (hD:DI A n (k+1) 480000 B s) (hT:Hold B T n k) :
  loopM (iB (n:Int) (k:Int) (itoa (del B k))) (((k+1:Nat):Int),itT n T)=some (itT n (upT B T k n (k+1))):=by
 have e0:itT n T=itT n (upT B T k (k+1) (k+1)):=it_congr fun a b _ _=>by unfold upT;rw [if_neg (by omega)]
 rw [e0]
 refine range_loop (fun i=>((i:Int),itT n (upT B T k i (k+1)))) (k+1) n (by omega) (fun i h1 h2=>?_) ?_
 ·unfold iB
  dsimp only
  rw [ltI (by omega),cT,wrap_in (n:=(k:Int)+1) (by omega) (by omega)]
  refine bind_of (row_step hn hk (by omega) h2 hD hT) ?_
  rw [wrap_in (by omega) (by omega)]
  congr 3
  refine it_congr fun a b _ hb=>?_
  unfold upT
  by_cases e:k<a∧k<b∧(a<i∨(a=i∧b<n))
  ·rw [if_pos e,if_pos (by omega)]
  ·rw [if_neg e,if_neg (by omega)]
 ·unfold iB
  dsimp only
  rw [geI (Int.le_refl _),cF]
theorem Hold.next {B:Mx} {T:Nat→Nat→Int} {n k:Nat}:Hold B (upT B T k n (k+1)) n (k+1):=fun a b h1 h2 h3 h4=>by
 unfold upT
 rw [if_pos (by omega)]
theorem upT_piv {B:Mx} {T:Nat→Nat→Int} {n k:Nat} (hk:k<n) (hT:Hold B T n k):upT B T k n (k+1) k k=del B (k+1):=by
 unfold upT
 rw [if_neg (by omega),Go.Det.del_succ]
 exact hT k k (by omega) hk (by omega) hk
theorem swi_comm (p q i:Nat):swi p q i=swi q p i:=by unfold Go.Det.swi;(repeat' split)<;>omega
theorem Hold.swap {B:Mx} {T:Nat→Nat→Int} {n k p:Nat} (hk:k<p) (hp:p<n) (hT:Hold B T n k):Hold (sww k p B) (fun a=>T (swi p k a)) n k:=fun a b h1 h2 h3 h4=>by
 show T (swi p k a) b=_
 have hlt:swi k p a<n:=Go.Det.swi_lt (by omega) hp h2
 have hge:k≤swi k p a:=by unfold Go.Det.swi;(repeat' split)<;>omega
 rw [swi_comm,hT _ b hge hlt h3 h4,Go.Det.mn_sww hk]
noncomputable def outB (n:Int):Int×List UInt8×Int×Tbl→Option ((Int×List UInt8×Int×Tbl)⊕((Int×List UInt8×Tbl)⊕(Int×Tbl))) :=
 fun (s:Int×List UInt8×Int×Tbl)=>bif ltM s.2.2.1 n then
 (loopM (pvB n s.2.2.2 s.2.2.1) s.2.2.1).bind fun o_1=>bif eqM o_1 n then some (Sum.inr (Sum.inr (0,s.2.2.2))) else (bif PE.notM (eqM o_1 s.2.2.1) then (chkM s.2.2.1 (lenM
 s.2.2.2)).bind fun r=>(chkM s.2.2.1 (lenM s.2.2.2)).bind fun r_1=>(chkM o_1 (lenM s.2.2.2)).bind fun r_2=>(chkM o_1 (lenM s.2.2.2)).bind fun r_3 =>
 (chkM o_1 (lenM s.2.2.2)).bind fun r_4=>(swM s.2.2.2 o_1 s.2.2.1).bind fun r_5=>(chkM s.2.2.1 (lenM r_5)).bind fun r_6=>((sameM o_1 o_1).bind fun (x :
 Unit)=>(sameM s.2.2.1 s.2.2.1).bind fun (x:Unit)=>chkM s.2.2.1 (lenM r_5)).bind fun r=>some (IntKind.wrap .i64 (negM s.1),r_5) else some (s.1,
 s.2.2.2)).bind fun o_2=>(loopM (iB n s.2.2.1 s.2.1) (IntKind.wrap .i64 (s.2.2.1+1),o_2.2)).bind fun o_3=>(chkM s.2.2.1 (lenM o_3)).bind fun r=>(chkM s.2.2.1 (lenM o_3)).bind fun r_1 =>
 ((idxM o_3 s.2.2.1).bind fun (xs:List (List UInt8))=>chkM s.2.2.1 (lenM xs)).bind fun r_2=>((idxM o_3 s.2.2.1).bind fun (xs:List (List UInt8)) =>
 (idxM xs s.2.2.1).bind fun (x:List UInt8)=>some x).bind fun r=>some (Sum.inl (o_2.1,r,IntKind.wrap .i64 (s.2.2.1+1),o_3)) else some (Sum.inr
 (Sum.inl (s.1,s.2.1,s.2.2.2)))
noncomputable def outE:(Int×List UInt8×Tbl)⊕(Int×Tbl)→Option Int :=
 Sum.elim (fun (t:Int×List UInt8×Tbl)=>(m74 t.2.1).bind fun r=>some (IntKind.wrap .i64 (t.1*r.1))) (fun (t:Int×Tbl)=>some t.1)
theorem same_ok (i:Int):sameM i i=some ():=by unfold sameM;rw [dT rfl]
theorem out_tail {A B:Mx} {n k:Nat} {s:Int} {T:Nat→Nat→Int} (hn:n≤8) (hk:k<n) (hD:DI A n k 480000 B s) (hT:Hold B T n k) (hp:T k k≠0) :
  DI A n (k+1) 480000 B s∧((loopM (iB (n:Int) (k:Int) (itoa (del B k))) (IntKind.wrap .i64 ((k:Int)+1),itT n T)).bind fun o_3=>(chkM (k:Int) (lenM o_3)).bind fun r=>(chkM (k:Int) (lenM o_3)).bind fun r_1 =>
 ((idxM o_3 (k:Int)).bind fun (xs:List (List UInt8))=>chkM (k:Int) (lenM xs)).bind fun r_2=>((idxM o_3 (k:Int)).bind fun (xs:List (List UInt8)) =>
 (idxM xs (k:Int)).bind fun (x:List UInt8)=>some x).bind fun r=>some (Sum.inl (β:=(Int×List UInt8×Tbl)⊕(Int×Tbl)) (s,r,IntKind.wrap .i64 ((k:Int)+1),o_3)))=some (.inl (s,itoa (del B (k+1)),((k+1:Nat):Int),itT n (upT B T k n (k+1)))):=by
 have hm:mn B k k k≠0:=by rw [← hT k k (Nat.le_refl _) hk (Nat.le_refl _) hk];exact hp
 have hD1:=hD.next hm
 refine ⟨hD1,?_⟩
 rw [wrap_in (n:=(k:Int)+1) (by omega) (by omega)]
 refine bind_of (rows_step hn hk hD1 hT) ?_
 rw [it_chk hk,oB,oB,it_chk2 hk hk,oB,it_get hk hk,oB,upT_piv hk hT]
 rfl
theorem out_loop {A:Mx} {n:Nat} (hn:n≤8) (hb:∀ i j,-480000≤A i j∧A i j≤480000) (hd1:-9000000000000000000≤det n A) (hd2:det n A≤9000000000000000000) :
  ∃ r,loopM (outB (n:Int)) (1,[(49:UInt8)],0,itT n A)=some r∧outE r=some (det n A):=by
 have h49:[(49:UInt8)]=itoa (del A 0):=by
  rw [Go.Det.del_zero]
  simp [itoa,decDigits]
 refine loopM_from (body:=outB (n:Int)) (fun k s=>∃ B sn T,s=(sn,itoa (del B k),(k:Int),itT n T)∧DI A n k 480000 B sn∧Hold B T n k) (fun r=>outE r=some (det n A)) n (s:=(1,[(49:UInt8)],0,itT n A)) ⟨A,1,A,by rw [h49];rfl,Go.Det.DI.start hb,fun a b _ _ _ _=>(Go.Det.mn_zero0 A a b).symm⟩ fun k s hk hs=>?_
 obtain ⟨B,sn,T,rfl,hD,hT⟩:=hs
 by_cases hlt:k<n
 ·obtain ⟨p,p1,p2,p3,p4,p5⟩:=piv_loop (T:=T) hn hlt
  by_cases hpn:p=n
  ·right
   refine ⟨.inr (0,itT n T),?_,?_⟩
   ·unfold outB
    dsimp only
    rw [ltI (by omega),cT]
    refine bind_of p5 ?_
    rw [eqI (by omega),cT]
   ·show some 0=some (det n A)
    rw [hD.none hlt fun x hx hxn=>by rw [← hT x k hx hxn (Nat.le_refl _) hlt];exact p3 x hx (by omega)]
  ·left
   have hp:p<n:=by omega
   have hp0:=p4 hp
   by_cases hpk:p=k
   ·subst hpk
    obtain ⟨hD1,e⟩:=out_tail hn hlt hD hT hp0
    refine ⟨_,hlt,?_,B,sn,upT B T p n (p+1),rfl,hD1,Hold.next⟩
    unfold outB
    dsimp only
    rw [ltI (by omega),cT]
    refine bind_of p5 ?_
    rw [neI (by omega),cF,eqI rfl,notT,cF,oB]
    exact e
   ·have hkp:k<p:=by omega
    have hD':=hD.swap hkp hp
    have hT':=Hold.swap hkp hp hT
    have hpp:(fun a=>T (swi p k a)) k k≠0:=by
     show T (swi p k k) k≠0
     rw [show swi p k k=p by unfold Go.Det.swi;rw [if_neg (by omega),if_pos rfl]]
     exact hp0
    have hdel:del (sww k p B) k=del B k:=Go.Det.del_sww hkp (Nat.le_refl _)
    obtain ⟨hD1,e⟩:=out_tail hn hlt hD' hT' hpp
    refine ⟨_,hlt,?_,sww k p B,-sn,upT (sww k p B) (fun a=>T (swi p k a)) k n (k+1),rfl,hD1,Hold.next⟩
    rw [hdel] at e
    unfold outB
    dsimp only
    rw [ltI (by omega),cT]
    refine bind_of p5 ?_
    rw [neI (by omega),cF,neI (by omega),notF,cT]
    refine bind_of (x:=(-sn,itT n fun a=>T (swi p k a))) ?_ e
    have hw:IntKind.wrap .i64 (negM sn)=-sn:=by
     rcases hD.sg with h | h<;>rw [h]<;>rfl
    rw [it_chk hlt,oB,oB,it_chk hp,oB,oB,oB,it_swap hp hlt,oB,it_chk hlt,oB,same_ok,oB,same_ok,oB,oB,hw]
 ·right
  have e:k=n:=by omega
  subst e
  refine ⟨.inl (sn,itoa (del B k),itT k T),?_,?_⟩
  ·unfold outB
   dsimp only
   rw [geI (Int.le_refl _),cF]
  ·have hdt:det k A=sn*del B k:=hD.dt
   show ((m74 (itoa (del B k))).bind fun r=>some (IntKind.wrap .i64 (sn*r.1)))=_
   have hbd:-9000000000000000000≤del B k∧del B k≤9000000000000000000:=by
    rcases hD.sg with h | h<;>rw [h] at hdt<;>omega
   rw [rtoint_ok (by omega) (by omega),oB]
   dsimp only
   rw [← hdt,wrap_in (by omega) (by omega)]
theorem make_loop {A:Mx} {n:Nat} (hn:n≤8) (hb:∀ i j,-480000≤A i j∧A i j≤480000):loopM (fun (s:Int×List (List (List UInt8)))=>bif ltM s.1 (n:Int) then (loopM (fun (s_1:Int×List (List UInt8))=>bif ltM s_1.1 (n:Int)
 then (idxM (rt n (fun _=>n) A) s.1).bind fun r=>(idxM r s_1.1).bind fun r_1=>(m70 r_1).bind fun r_2=>(appM (nat_lit 16) s_1.2 [r_2]).bind fun r=>some (Sum.inl (IntKind.wrap
 IntKind.i64 (s_1.1+1),r)) else some (Sum.inr s_1.2)) (0,[])).bind fun o=>(catR2 (nat_lit 24) s.2 [o]).bind fun r=>some (Sum.inl (IntKind.wrap .i64 (s.1
 + 1),r)) else some (Sum.inr s.2)) (0,[])=some (itT n A):=by
 refine count_loop (fun k=>row k fun i=>row n fun j=>itoa (A i j)) n (fun i hi=>?_) ?_
 ·dsimp only
  rw [ltI (by omega),cT]
  refine bind_of (x:=row n fun j=>itoa (A i j)) ?_ ?_
  ·refine count_loop (fun k=>row k fun j=>itoa (A i j)) n (fun j hj=>?_) ?_
   ·dsimp only
    have:=hb i j
    rw [ltI (by omega),cT,rt_idx hi,oB,row_idx hj,oB,rfromint_ok (by omega) (by omega),oB,appM_of (by rw [row_length];simp;omega),oB,wrap_in (by omega) (by omega),row_succ]
   ·dsimp only
    rw [geI (Int.le_refl _),cF]
  ·show ((appM 24 (row i fun i=>row n fun j=>itoa (A i j)) [row n fun j=>itoa (A i j)]).bind fun r=>_)=_
   rw [appM_of (by rw [row_length];simp;omega),oB,wrap_in (by omega) (by omega),row_succ]
 ·dsimp only
  rw [geI (Int.le_refl _),cF]
  rfl
theorem m49_eq {A:Mx} {n:Nat} (hn:n≤8) (hb:∀ i j,-480000≤A i j∧A i j≤480000) (hd1:-9000000000000000000≤det n A) (hd2:det n A≤9000000000000000000):m49 (rt n (fun _=>n) A)=some (det n A):=by
 obtain ⟨r,h1,h2⟩:=out_loop hn hb hd1 hd2
 unfold m49
 have hl:lenM (rt n (fun _=>n) A)=(n:Int):=by show ((rt n (fun _=>n) A).length:Int)=n;rw [rt_length]
 rw [hl]
 refine bind_of (make_loop hn hb) ?_
 exact bind_of h1 h2
end Go.Proofs.YtfekoiabjbdnfaaGreat
namespace Go.Proofs.YtfekoiabjbdnfaaGreat
open Go Go.Abs Go.PE
def stepT (t:Nat→Bool) (s:Sgt):Nat→Bool:=fun i=>t i||((t s.1.toNat||t s.2.1.toNat)&&decide (i=s.1.toNat∨i=s.2.1.toNat))
def sweep (ss:List Sgt) (t:Nat→Bool):Nat→Bool:=ss.foldl stepT t
def t0 (fs:List Fix):Nat→Bool:=fun i=>fs.any fun f=>decide (i=f.1.toNat)
def tdR (c:Net):Nat→Nat→Bool
 | 0=>t0 c.2.1
 | k+1=>sweep c.2.2 (tdR c k)
def td (c:Net):Nat→Bool:=tdR c c.1.toNat
theorem set_rowA {α:Type} {m j:Nat} {g:Nat→α} {y:α} (hj:j<m):setM (row m g) (j:Int) (fun _=>some y)=some (row m fun a=>if a=j then y else g a):=by
 unfold setM
 rw [row_idx hj]
 show some ((row m g).set ((j:Int)).toNat y)=_
 rw [Int.toNat_natCast,row_set hj]
theorem m48_eq {c:Net} (h:NOK c):m48 c=some (row c.1.toNat (td c)):=by
 have h0:=h.n0
 have h8:=h.n8
 have hfl:=h.fl
 have hsl:=h.sl
 have hN:c.1=((c.1.toNat:Nat):Int):=by omega
 have hlR:∀ g:Nat→Bool,lenM (row c.1.toNat g)=c.1:=fun g=>by rw [lenR];omega
 unfold m48
 refine bind_of (x:=row c.1.toNat fun _=>false) ?_ ?_
 ·rw [mkM_of (by omega) (by omega) (by show c.1*1≤140737488355328;omega),replicate_row]
 refine bind_of (x:=row c.1.toNat (t0 c.2.1)) ?_ ?_
 ·have e0:row c.1.toNat (fun _=>false)=row c.1.toNat (t0 (c.2.1.take 0)):=row_congr fun i _=>by simp [t0]
  rw [e0]
  have L:=count_loop (body:=fun (s:Int×List Bool) =>
      bif ltM s.1 (lenM c.2.1) then
       Option.bind (idxM c.2.1 s.1) fun (r_1:Int×Int×Int×Int) =>
        Option.bind (chkM r_1.1 (lenM s.2)) fun (r_2:Unit) =>
         Option.bind (setM s.2 r_1.1 fun (x:Bool)=>some true) fun (r:List Bool) =>
          some (Sum.inl (IntKind.wrap .i64 (s.1+(1:Int)),r))
      else some (Sum.inr s.2)) (fun k=>row c.1.toNat (t0 (c.2.1.take k))) c.2.1.length (r:=row c.1.toNat (t0 (c.2.1.take c.2.1.length))) (fun k hk=>by
   have hm:=h.fx _ (List.getElem_mem hk)
   dsimp only
   rw [ltI (by show (k:Int)<(c.2.1.length:Int);omega),cT,idxM_lt hk,oB,hlR,chkM_of (by omega) (by omega),oB]
   obtain ⟨p,hp⟩:=Int.eq_ofNat_of_zero_le hm.1
   rw [hp,set_rowA (by omega),oB,wrap_in (by omega) (by omega)]
   congr 3
   refine row_congr fun i _=>?_
   rw [List.take_succ_eq_append_getElem hk]
   unfold t0
   rw [List.any_append]
   simp only [List.any_cons,List.any_nil,Bool.or_false,hp,Int.toNat_natCast]
   by_cases e:i=p
   ·rw [if_pos e,dT e,Bool.or_true]
   ·rw [if_neg e,decide_eq_false e,Bool.or_false]) (by
   dsimp only
   rw [geI (by show (c.2.1.length:Int)≤(c.2.1.length:Int);omega),cF])
  rw [List.take_length] at L
  exact L
 refine bind_of (x:=row c.1.toNat (td c)) ?_ rfl
 have LO:=count_loop (body:=fun (s:Int×List Bool) =>
       bif ltM s.1 c.1 then
        Option.bind
         (loopM
          (fun (s_1:Int×List Bool) =>
           bif ltM s_1.1 (lenM c.2.2) then
            Option.bind
             (Option.bind (idxM c.2.2 s_1.1) fun (r_1:Int×Int×Int×Int×Int) =>
              Option.bind (chkM r_1.1 (lenM s_1.2)) fun (r_2:Unit) =>
               Option.bind (idxM s_1.2 r_1.1) fun (r_3:Bool) =>
                Option.bind
                 (bif PE.notM r_3 then idxM c.2.2 s_1.1
                 else some ((0:Int),(0:Int),(0:Int),(0:Int),(0:Int)))
                 fun (r_4:Int×Int×Int×Int×Int) =>
                 Option.bind (bif PE.notM r_3 then chkM r_4.2.1 (lenM s_1.2) else some ())
                  fun (r_5:Unit) =>
                  Option.bind (bif PE.notM r_3 then idxM s_1.2 r_4.2.1 else some false)
                   fun (r_6:Bool) =>
                   bif PE.orM r_3 r_6 then
                    Option.bind (idxM c.2.2 s_1.1) fun (r_7:Int×Int×Int×Int×Int) =>
                     Option.bind (chkM r_7.1 (lenM s_1.2)) fun (r_8:Unit) =>
                      Option.bind (setM s_1.2 r_7.1 fun (x:Bool)=>some true)
                       fun (r_9:List Bool) =>
                       Option.bind (idxM c.2.2 s_1.1) fun (r_10:Int×Int×Int×Int×Int) =>
                        Option.bind (chkM r_10.2.1 (lenM r_9)) fun (r_11:Unit) =>
                         Option.bind (setM r_9 r_10.2.1 fun (x:Bool)=>some true)
                          fun (r:List Bool)=>some r
                   else some s_1.2)
             fun (o:List Bool)=>some (Sum.inl (IntKind.wrap .i64 (s_1.1+(1:Int)),o))
           else some (Sum.inr s_1.2))
          ((0:Int),s.2))
         fun (o:List Bool)=>some (Sum.inl (IntKind.wrap .i64 (s.1+(1:Int)),o))
       else some (Sum.inr s.2)) (fun k=>row c.1.toNat (tdR c k)) c.1.toNat (r:=row c.1.toNat (tdR c c.1.toNat)) (fun k hk=>by
  dsimp only
  rw [ltI (by omega),cT]
  refine bind_of (x:=row c.1.toNat (tdR c (k+1))) ?_ (by rw [wrap_in (by omega) (by omega)])
  have e0:row c.1.toNat (tdR c k)=row c.1.toNat (sweep (c.2.2.take 0) (tdR c k)):=rfl
  have e1:tdR c (k+1)=sweep (c.2.2.take c.2.2.length) (tdR c k):=by rw [List.take_length];rfl
  rw [e0,e1]
  generalize tdR c k=t
  refine count_loop (fun j=>row c.1.toNat (sweep (c.2.2.take j) t)) c.2.2.length (fun j hj=>?_) ?_
  ·have hm:=h.sg _ (List.getElem_mem hj)
   have es:sweep (c.2.2.take (j+1)) t=stepT (sweep (c.2.2.take j) t) c.2.2[j]:=by
    unfold sweep
    rw [List.take_succ_eq_append_getElem hj,List.foldl_append]
    rfl
   rw [es]
   generalize sweep (c.2.2.take j) t=u
   dsimp only
   rw [ltI (by show (j:Int)<(c.2.2.length:Int);omega),cT,idxM_lt hj,hlR]
   generalize c.2.2[j]=s at *
   obtain ⟨p,hp⟩:=Int.eq_ofNat_of_zero_le hm.1
   obtain ⟨q,hq⟩:=Int.eq_ofNat_of_zero_le hm.2.2.1
   obtain ⟨s1,s2,s3⟩:=s
   dsimp only at hp hq hm
   subst hp
   subst hq
   have hp':p<c.1.toNat:=by omega
   have hq':q<c.1.toNat:=by omega
   refine bind_of (x:=row c.1.toNat (stepT u ((p:Int),(q:Int),s3))) ?_ (by rw [wrap_in (by omega) (by omega)])
   rw [oB]
   dsimp only
   rw [chkM_of (by omega) (by omega),oB,row_idx hp',oB]
   have both:(Option.bind (some ((p:Int),(q:Int),s3)) fun (r_7:Int×Int×Int×Int×Int) =>
                     Option.bind (chkM r_7.1 c.1) fun (r_8:Unit) =>
                      Option.bind (setM (row c.1.toNat u) r_7.1 fun (x:Bool)=>some true)
                       fun (r_9:List Bool) =>
                       Option.bind (some ((p:Int),(q:Int),s3)) fun (r_10:Int×Int×Int×Int×Int) =>
                        Option.bind (chkM r_10.2.1 (lenM r_9)) fun (r_11:Unit) =>
                         Option.bind (setM r_9 r_10.2.1 fun (x:Bool)=>some true)
                          fun (r:List Bool)=>some r)=some (row c.1.toNat fun i=>if i=q then true else if i=p then true else u i):=by
    rw [oB]
    dsimp only
    rw [chkM_of (by omega) (by omega),oB,set_rowA hp',oB,oB,hlR]
    dsimp only
    rw [chkM_of (by omega) (by omega),oB,set_rowA hq',oB]
   have eT:(u p||u q)=true→row c.1.toNat (fun i=>if i=q then true else if i=p then true else u i)=row c.1.toNat (stepT u ((p:Int),(q:Int),s3)):=fun hu=>by
    refine row_congr fun i _=>?_
    unfold stepT
    dsimp only
    rw [Int.toNat_natCast,Int.toNat_natCast,hu,Bool.true_and]
    by_cases e1:i=q
    ·rw [if_pos e1,dT (.inr e1),Bool.or_true]
    ·rw [if_neg e1]
     by_cases e2:i=p
     ·rw [if_pos e2,dT (.inl e2),Bool.or_true]
     ·rw [if_neg e2,decide_eq_false (by rintro (h | h)<;>contradiction),Bool.or_false]
   have eF:(u p||u q)=false→row c.1.toNat u=row c.1.toNat (stepT u ((p:Int),(q:Int),s3)):=fun hu=>by
    refine row_congr fun i _=>?_
    unfold stepT
    dsimp only
    rw [Int.toNat_natCast,Int.toNat_natCast,hu,Bool.false_and,Bool.or_false]
   cases hup:u p with
   | true =>
    rw [notT,cF,oB,cF,oB,cF,oB,orT,cT,both,eT (by rw [hup];rfl)]
   | false =>
    rw [notF,cT,oB,cT]
    dsimp only
    rw [chkM_of (by omega) (by omega),oB,cT,row_idx hq',oB,orF]
    cases huq:u q with
    | true=>rw [cT,both,eT (by rw [hup,huq];rfl)]
    | false=>rw [cF,eF (by rw [hup,huq];rfl)]
  ·dsimp only
   rw [geI (by show (c.2.2.length:Int)≤(c.2.2.length:Int);omega),cF]) (by
  dsimp only
  rw [geI (by omega),cF])
 exact LO
theorem stepT_mono {t:Nat→Bool} {s:Sgt} {i:Nat} (h:t i=true):stepT t s i=true:=by unfold stepT;rw [h];rfl
theorem sweep_mono:∀ {ss:List Sgt} {t:Nat→Bool} {i:Nat},t i=true→sweep ss t i=true
 | [],_,_,h=>h
 | s::r,t,i,h=>by
  show sweep r (stepT t s) i=true
  exact sweep_mono (stepT_mono h)
theorem sweep_adds:∀ {ss:List Sgt} {t:Nat→Bool} {s:Sgt},s∈ss→(t s.1.toNat=true∨t s.2.1.toNat=true)→sweep ss t s.1.toNat=true∧sweep ss t s.2.1.toNat=true
 | s0::r,t,s,hs,ht=>by
  show sweep r (stepT t s0) s.1.toNat=true∧sweep r (stepT t s0) s.2.1.toNat=true
  rcases List.mem_cons.1 hs with rfl | hs
  ·have hor:(t s.1.toNat||t s.2.1.toNat)=true:=by
    rcases ht with h | h<;>rw [h]<;>simp
   refine ⟨sweep_mono ?_,sweep_mono ?_⟩
   ·unfold stepT
    rw [hor,dT (.inl rfl)];simp
   ·unfold stepT
    rw [hor,dT (.inr rfl)];simp
  ·exact sweep_adds hs (ht.imp stepT_mono stepT_mono)
theorem tdR_mono {c:Net} {i:Nat}:∀ {k m:Nat},k≤m→tdR c k i=true→tdR c m i=true:=by
 intro k m hkm h
 induction m with
 | zero =>
  have:k=0:=by omega
  subst this
  exact h
 | succ m ih =>
  by_cases e:k=m+1
  ·subst e;exact h
  ·exact sweep_mono (ih (by omega))
end Go.Proofs.YtfekoiabjbdnfaaGreat
namespace Go.Proofs.YtfekoiabjbdnfaaGreat
open Go Go.Abs Go.PE Go.Det
def fl (M:Mx):List Int:=row 80 fun e=>M (e / 10) (e % 10)
def up (M:Mx) (p q:Nat) (v:Int):Mx:=fun i j=>if i=p∧j=q then v else M i j
theorem fl_congr {M M':Mx} (h:∀ i j,i<8→j<10→M i j=M' i j):fl M=fl M':=row_congr fun e he=>h _ _ (by omega) (by omega)
theorem fl_idx {M:Mx} {p q:Nat} (hp:p<8) (hq:q<10) {z:Int} (hz:z=((p*10+q:Nat):Int)):idxM (fl M) z=some (M p q):=by
 rw [hz]
 unfold fl
 rw [row_idx (by omega)]
 have e1:(p*10+q) / 10=p:=by omega
 have e2:(p*10+q) % 10=q:=by omega
 rw [e1,e2]
theorem fl_set {M:Mx} {p q:Nat} {v:Int} {f:Int→Option Int} (hp:p<8) (hq:q<10) {z:Int} (hz:z=((p*10+q:Nat):Int)) (hv:f (M p q)=some v):setM (fl M) z f=some (fl (up M p q v)):=by
 rw [hz]
 have hl:(fl M).length=80:=row_length _ _
 have hg:(fl M)[((p*10+q:Nat):Int).toNat]'(by rw [hl];omega)=M p q:=by
  have h1:=fl_idx (M:=M) hp hq (z:=((p*10+q:Nat):Int)) rfl
  rw [idxM_of (by omega) (by rw [hl];omega)] at h1
  exact Option.some.inj h1
 rw [setM_of (y:=v) (by omega) (by rw [hl];omega) (by rw [hg];exact hv)]
 congr 1
 unfold fl
 rw [Int.toNat_natCast,row_set (by omega)]
 refine row_congr fun e he=>?_
 unfold up
 by_cases h:e=p*10+q
 ·rw [if_pos h,if_pos ⟨by omega,by omega⟩]
 ·rw [if_neg h,if_neg (by omega)]
theorem z1 (p q:Nat):((nat_lit 0:Nat):Int)+(p:Int)*((nat_lit 10:Nat):Int)+(q:Int)*((nat_lit 1:Nat):Int)=((p*10+q:Nat):Int):=by
 show (0:Int)+(p:Int)*10+(q:Int)*1=_
 omega
theorem z8 (p:Nat):((nat_lit 0:Nat):Int)+(p:Int)*((nat_lit 10:Nat):Int)+(8:Int)=((p*10+8:Nat):Int):=by
 show (0:Int)+(p:Int)*10+8=_
 omega
theorem z9 (p:Nat):((nat_lit 0:Nat):Int)+(p:Int)*((nat_lit 10:Nat):Int)+(9:Int)=((p*10+9:Nat):Int):=by
 show (0:Int)+(p:Int)*10+9=_
 omega
theorem ck8 {p:Nat} (h:p<8):chkM (p:Int) ((nat_lit 8:Nat):Int)=some ():=chkM_of (by omega) (by show (p:Int)<8;omega)
theorem ck10 {p:Nat} (h:p<10):chkM (p:Int) ((nat_lit 10:Nat):Int)=some ():=chkM_of (by omega) (by show (p:Int)<10;omega)
def addT (n p q vx vy:Int) (l:List Int):Option (List Int) :=
 bif eqM p n then some l else Option.bind (chkM p ((nat_lit 8:Nat):Int)) fun (_:Unit)=>Option.bind (chkM p ((nat_lit 10:Nat):Int)) fun (_:Unit) =>
 Option.bind (idxM l (((nat_lit 0:Nat):Int)+p*((nat_lit 10:Nat):Int)+p*((nat_lit 1:Nat):Int))) fun (r_4:Int)=>Option.bind (chkM p ((nat_lit 8:Nat):Int)) fun (_:Unit) =>
 Option.bind (chkM p ((nat_lit 10:Nat):Int)) fun (_:Unit)=>Option.bind (setM l (((nat_lit 0:Nat):Int)+p*((nat_lit 10:Nat):Int)+p*((nat_lit 1:Nat):Int)) fun (_:Int)=>some (IntKind.wrap .i64 (r_4+(1:Int)))) fun (r_7:List Int) =>
 Option.bind (chkM p ((nat_lit 8:Nat):Int)) fun (_:Unit)=>Option.bind (idxM r_7 (((nat_lit 0:Nat):Int)+p*((nat_lit 10:Nat):Int)+(8:Int))) fun (r_9:Int)=>Option.bind (chkM p ((nat_lit 8:Nat):Int)) fun (_:Unit) =>
 Option.bind (setM r_7 (((nat_lit 0:Nat):Int)+p*((nat_lit 10:Nat):Int)+(8:Int)) fun (_:Int)=>some (IntKind.wrap .i64 (r_9+vx))) fun (r_11:List Int) =>
 Option.bind (chkM p ((nat_lit 8:Nat):Int)) fun (_:Unit)=>Option.bind (idxM r_11 (((nat_lit 0:Nat):Int)+p*((nat_lit 10:Nat):Int)+(9:Int))) fun (r_13:Int)=>Option.bind (chkM p ((nat_lit 8:Nat):Int)) fun (_:Unit) =>
 Option.bind (setM r_11 (((nat_lit 0:Nat):Int)+p*((nat_lit 10:Nat):Int)+(9:Int)) fun (_:Int)=>some (IntKind.wrap .i64 (r_13+vy))) fun (r_15:List Int) =>
 bif ltM q n then Option.bind (chkM p ((nat_lit 8:Nat):Int)) fun (_:Unit)=>Option.bind (chkM q ((nat_lit 10:Nat):Int)) fun (_:Unit) =>
 Option.bind (idxM r_15 (((nat_lit 0:Nat):Int)+p*((nat_lit 10:Nat):Int)+q*((nat_lit 1:Nat):Int))) fun (r_18:Int)=>Option.bind (chkM p ((nat_lit 8:Nat):Int)) fun (_:Unit) =>
 Option.bind (chkM q ((nat_lit 10:Nat):Int)) fun (_:Unit)=>Option.bind (setM r_15 (((nat_lit 0:Nat):Int)+p*((nat_lit 10:Nat):Int)+q*((nat_lit 1:Nat):Int)) fun (_:Int)=>some (IntKind.wrap .i64 (r_18-(1:Int)))) fun (r:List Int)=>some r
 else some r_15
def adM (n p q:Nat) (vx vy:Int) (M:Mx):Mx:=fun i j=>if p<n∧i=p then M i j+(if j=p then 1 else 0)+(if j=8 then vx else 0)+(if j=9 then vy else 0)-(if j=q∧q<n then 1 else 0) else M i j
def Bd (C:Int) (M:Mx):Prop:=∀ i j,-C≤M i j∧M i j≤C
theorem addT_eq {n p q:Nat} {vx vy C:Int} {M:Mx} (hn:n≤8) (hp:p≤n) (hq:q≤n) (hpq:p≠q) (hx:-20000≤vx∧vx≤20000) (hy:-20000≤vy∧vy≤20000) (hC:C≤1000000000000) (hM:Bd C M):addT (n:Int) (p:Int) (q:Int) vx vy (fl M)=some (fl (adM n p q vx vy M)):=by
 unfold addT
 by_cases e:p=n
 ·rw [eqI (by omega),cT]
  congr 1
  refine fl_congr fun i j _ _=>?_
  unfold adM
  rw [if_neg (by omega)]
 ·rw [neI (by omega),cF]
  have h8:p<8:=by omega
  rw [ck8 h8,ck10 (by omega),oB,oB]
  refine bind_of (fl_idx h8 (by omega) (z1 p p)) ?_
  rw [oB,oB]
  have m1:=hM p p
  have m2:=hM p 8
  have m3:=hM p 9
  have m4:=hM p q
  refine bind_of (fl_set (v:=M p p+1) h8 (by omega) (z1 p p) (by rw [wrap_in (by omega) (by omega)])) ?_
  rw [oB]
  have v8:up M p p (M p p+1) p 8=M p 8:=by unfold up;rw [if_neg (by omega)]
  refine bind_of (fl_idx h8 (by omega) (z8 p)) ?_
  rw [oB,v8]
  refine bind_of (fl_set (v:=M p 8+vx) h8 (by omega) (z8 p) (by rw [wrap_in (by omega) (by omega)])) ?_
  rw [oB]
  have v9:up (up M p p (M p p+1)) p 8 (M p 8+vx) p 9=M p 9:=by unfold up;rw [if_neg (by omega),if_neg (by omega)]
  refine bind_of (fl_idx h8 (by omega) (z9 p)) ?_
  rw [oB,v9]
  refine bind_of (fl_set (v:=M p 9+vy) h8 (by omega) (z9 p) (by rw [wrap_in (by omega) (by omega)])) ?_
  by_cases hqn:q<n
  ·rw [ltI (by omega),cT,oB,ck10 (by omega),oB]
   have vq:up (up (up M p p (M p p+1)) p 8 (M p 8+vx)) p 9 (M p 9+vy) p q=M p q:=by unfold up;rw [if_neg (by omega),if_neg (by omega),if_neg (by omega)]
   refine bind_of (fl_idx h8 (by omega) (z1 p q)) ?_
   rw [oB,oB,vq]
   refine bind_of (fl_set (v:=M p q-1) h8 (by omega) (z1 p q) (by rw [wrap_in (by omega) (by omega)])) ?_
   congr 1
   refine fl_congr fun i j _ _=>?_
   clear m1 m2 m3 m4 v8 v9 vq hM
   unfold up adM
   grind
  ·rw [geI (by omega),cF]
   congr 1
   refine fl_congr fun i j _ _=>?_
   clear m1 m2 m3 m4 v8 v9 hM
   unfold up adM
   grind
theorem adM_bd {n p q:Nat} {vx vy C:Int} {M:Mx} (hn:n≤8) (hpq:p≠q) (hq:q≤n) (hx:-20000≤vx∧vx≤20000) (hy:-20000≤vy∧vy≤20000) (hM:Bd C M):Bd (C+50000) (adM n p q vx vy M):=fun i j=>by
 have:=hM i j
 unfold adM
 repeat' split
 all_goals omega
def obM (n a b:Nat) (dx dy:Int) (M:Mx):Mx:=adM n a b (-dx) (-dy) (adM n b a dx dy M)
def fxM (n:Nat) (M:Mx) (f:Fix):Mx:=obM n n f.1.toNat f.2.1 f.2.2.1 M
def sgM (n:Nat) (M:Mx) (s:Sgt):Mx:=obM n s.1.toNat s.2.1.toNat s.2.2.1 s.2.2.2.1 M
def nmF (n:Nat) (fs:List Fix):Mx:=fs.foldl (fxM n) fun _ _=>0
def nmA (c:Net):Mx:=c.2.2.foldl (sgM c.1.toNat) (nmF c.1.toNat c.2.1)
theorem sm_ind (f:Nat→Int) (p:Nat) (v:Int):∀ n,sm n (fun j=>f j+(if j=p then v else 0))=sm n f+(if p<n then v else 0)
 | 0=>by rw [if_neg (Nat.not_lt_zero _)];rfl
 | n+1=>by
  show sm n (fun j=>f j+(if j=p then v else 0))+(f n+(if n=p then v else 0))=sm n f+f n+(if p<n+1 then v else 0)
  rw [sm_ind f p v n]
  grind
structure NI (n:Nat) (D R:Int) (M:Mx):Prop where
 sy:∀ x j,x<n→j<n→M x j=M j x
 of:∀ x j,x<n→j<n→x≠j→M x j≤0
 rs:∀ x,x<n→0≤sm n (M x)
 dp:∀ x,x<n→0≤M x x
 ds:sm n (fun x=>M x x)≤D
 rh:∀ c,n≤c→c<10→sm n (fun x=>ab (M x c))≤R
theorem adM_row {n p q x:Nat} {vx vy:Int} {M:Mx} (hn:n≤8) (hx:x<n):sm n (adM n p q vx vy M x)=sm n (M x)+(if x=p then 1-(if q<n then 1 else 0) else 0):=by
 by_cases e:x=p
 ·subst e
  rw [if_pos rfl]
  have e1:sm n (adM n x q vx vy M x)=sm n (fun j=>(M x j+(if j=x then 1 else 0))+(if j=q then -1 else 0)):=sm_congr fun j hj=>by
   unfold adM
   grind
  rw [e1,sm_ind,sm_ind]
  grind
 ·rw [if_neg e,Int.add_zero]
  refine sm_congr fun j hj=>?_
  unfold adM
  rw [if_neg (fun h=>e h.2)]
theorem adM_dg {n p q:Nat} {vx vy:Int} {M:Mx} (hn:n≤8) (hpq:p≠q):sm n (fun x=>adM n p q vx vy M x x)=sm n (fun x=>M x x)+(if p<n then 1 else 0):=by
 rw [← sm_ind (fun x=>M x x) p 1 n]
 refine sm_congr fun x hx=>?_
 unfold adM
 grind
theorem adM_rh {n p q c:Nat} {vx vy V:Int} {M:Mx} (hn:n≤8) (hc:n≤c) (h1:-V≤vx∧vx≤V) (h2:-V≤vy∧vy≤V):sm n (fun x=>ab (adM n p q vx vy M x c))≤sm n (fun x=>ab (M x c))+(if p<n then V else 0):=by
 rw [← sm_ind (fun x=>ab (M x c)) p V n]
 refine sm_le fun x hx=>?_
 unfold adM ab
 by_cases e:p<n∧x=p
 ·rw [if_pos e,if_pos e.2,if_neg (by omega:¬ c=p),if_neg (by omega:¬ (c=q∧q<n))]
  repeat' split
  all_goals omega
 ·rw [if_neg e]
  split<;>omega
theorem obM_ni {n a b:Nat} {dx dy V D R:Int} {M:Mx} (hn:n≤8) (hab:a≠b) (ha:a≤n) (hb:b≤n) (h1:-V≤dx∧dx≤V) (h2:-V≤dy∧dy≤V) (h:NI n D R M):NI n (D+(if a<n then 1 else 0)+(if b<n then 1 else 0)) (R+(if a<n then V else 0)+(if b<n then V else 0)) (obM n a b dx dy M) where
 sy:=fun x j hx hj=>by
  have:=h.sy x j hx hj
  unfold obM adM
  grind
 of:=fun x j hx hj hne=>by
  have:=h.of x j hx hj hne
  unfold obM adM
  grind
 rs:=fun x hx=>by
  have:=h.rs x hx
  unfold obM
  rw [adM_row hn hx,adM_row hn hx]
  grind
 dp:=fun x hx=>by
  have:=h.dp x hx
  unfold obM adM
  grind
 ds:=by
  have:=h.ds
  unfold obM
  rw [adM_dg hn hab,adM_dg hn hab.symm]
  omega
 rh:=fun c hc hc10=>by
  have h3:=h.rh c hc hc10
  have h4:=adM_rh (p:=b) (q:=a) (M:=M) hn hc h1 h2
  have h5:=adM_rh (p:=a) (q:=b) (M:=adM n b a dx dy M) (vx:=-dx) (vy:=-dy) (V:=V) hn hc (by omega) (by omega)
  unfold obM
  omega
structure Sm (c:Net) (VF VS:Int):Prop where
 nok:NOK c
 fx:∀ f∈c.2.1,(-VF≤f.2.1∧f.2.1≤VF)∧-VF≤f.2.2.1∧f.2.2.1≤VF
 sg:∀ s∈c.2.2,(-VS≤s.2.2.1∧s.2.2.1≤VS)∧-VS≤s.2.2.2.1∧s.2.2.2.1≤VS
theorem nmF_ni {n:Nat} {VF:Int} (hn:n≤8):∀ (fs:List Fix) {D R:Int} {M:Mx},(∀ f∈fs,0≤f.1∧f.1<n∧(-VF≤f.2.1∧f.2.1≤VF)∧-VF≤f.2.2.1∧f.2.2.1≤VF)→NI n D R M→NI n (D+fs.length) (R+VF*fs.length) (fs.foldl (fxM n) M)
 | [],D,R,M,_,h=>by
  have e1:D+(([]:List Fix).length:Int)=D:=Int.add_zero D
  have e2:R+VF*(([]:List Fix).length:Int)=R:=by show R+VF*0=R;omega
  rw [e1,e2]
  exact h
 | f::r,D,R,M,hf,h=>by
  obtain ⟨h0,h1,h2,h3⟩:=hf f (List.mem_cons_self ..)
  have hs:=obM_ni hn (a:=n) (b:=f.1.toNat) (by omega) (Nat.le_refl n) (by omega) h2 h3 h
  rw [if_neg (Nat.lt_irrefl n),if_neg (Nat.lt_irrefl n),if_pos (by omega),if_pos (by omega)] at hs
  have ih:=nmF_ni hn r (fun f' hf'=>hf f' (List.mem_cons_of_mem _ hf')) hs
  have e1:D+0+1+(r.length:Int)=D+((f::r).length:Int):=by rw [List.length_cons];omega
  have e2:R+0+VF+VF*(r.length:Int)=R+VF*((f::r).length:Int):=by rw [List.length_cons];grind
  rw [e1,e2] at ih
  exact ih
theorem nmS_ni {n:Nat} {VS:Int} (hn:n≤8):∀ (ss:List Sgt) {D R:Int} {M:Mx},(∀ s∈ss,(0≤s.1∧s.1<n)∧(0≤s.2.1∧s.2.1<n)∧s.1≠s.2.1∧(-VS≤s.2.2.1∧s.2.2.1≤VS)∧-VS≤s.2.2.2.1∧s.2.2.2.1≤VS)→NI n D R M→NI n (D+2*ss.length) (R+2*VS*ss.length) (ss.foldl (sgM n) M)
 | [],D,R,M,_,h=>by
  have e1:D+2*(([]:List Sgt).length:Int)=D:=Int.add_zero D
  have e2:R+2*VS*(([]:List Sgt).length:Int)=R:=by show R+2*VS*0=R;omega
  rw [e1,e2]
  exact h
 | s::r,D,R,M,hf,h=>by
  obtain ⟨h0,h1,hne,h2,h3⟩:=hf s (List.mem_cons_self ..)
  have hs:=obM_ni hn (a:=s.1.toNat) (b:=s.2.1.toNat) (by omega) (by omega) (by omega) h2 h3 h
  rw [if_pos (by omega),if_pos (by omega),if_pos (by omega),if_pos (by omega)] at hs
  have ih:=nmS_ni hn r (fun f' hf'=>hf f' (List.mem_cons_of_mem _ hf')) hs
  have e1:D+1+1+2*(r.length:Int)=D+2*((s::r).length:Int):=by rw [List.length_cons];omega
  have e2:R+VS+VS+2*VS*(r.length:Int)=R+2*VS*((s::r).length:Int):=by rw [List.length_cons];grind
  rw [e1,e2] at ih
  exact ih
theorem nmA_ni {c:Net} {VF VS:Int} (h:Sm c VF VS):NI c.1.toNat ((c.2.1.length:Int)+2*c.2.2.length) (VF*c.2.1.length+2*VS*c.2.2.length) (nmA c):=by
 have h0:=h.nok.n0
 have h8:=h.nok.n8
 have z:NI c.1.toNat 0 0 (fun _ _=>0):=⟨fun _ _ _ _=>rfl,fun _ _ _ _ _=>Int.le_refl 0,fun _ _=>by rw [sm_zero fun _ _=>rfl];exact Int.le_refl 0,fun _ _=>Int.le_refl 0,by rw [sm_zero fun _ _=>rfl];exact Int.le_refl 0,fun c _ _=>Int.le_of_eq (sm_zero fun _ _=>by show ab 0=0;decide)⟩
 have h1:=nmF_ni (VF:=VF) (by omega) c.2.1 (fun f hf=>by
  have:=h.nok.fx f hf
  have:=h.fx f hf
  omega) z
 have h2:=nmS_ni (VS:=VS) (by omega) c.2.2 (fun s hs=>by
  have:=h.nok.sg s hs
  have:=h.sg s hs
  omega) h1
 rw [Int.zero_add,Int.zero_add] at h2
 exact h2
def dgN (M:Mx) (x:Nat):Nat:=(M x x).toNat
theorem lap_of {n:Nat} {D R:Int} {M:Mx} (hn:n≤8) (h:NI n D R M) (hD:D≤48) (hR:R≤480000):Lap8 M n 10 480000 (dgN M) where
 hW:=by omega
 hn:=hn
 hB:=by decide
 hB2:=by decide
 sy:=h.sy
 of:=h.of
 rs:=h.rs
 dg:=fun x hx=>by have:=h.dp x hx;unfold dgN;omega
 sd:=by
  have e:∀ k,k≤n→((sd (dgN M) k:Nat):Int)=sm k fun x=>M x x:=by
   intro k
   induction k with
   | zero=>intro _;rfl
   | succ k ih =>
    intro hk
    have i1:=ih (by omega)
    have i2:=h.dp k (by omega)
    show ((sd (dgN M) k+dgN M k:Nat):Int)=sm k (fun x=>M x x)+M k k
    unfold dgN at *
    omega
  have:=e n (Nat.le_refl n)
  have:=h.ds
  omega
 rh:=fun c hc hc10=>by have:=h.rh c hc hc10;omega
def obT (n a b dx dy:Int) (l:List Int):Option (List Int):=Option.bind (addT n b a dx dy l) fun ov=>addT n a b (IntKind.wrap .i64 (negM dx)) (IntKind.wrap .i64 (negM dy)) ov
theorem obT_eq {n a b:Nat} {dx dy C:Int} {M:Mx} (hn:n≤8) (ha:a≤n) (hb:b≤n) (hab:a≠b) (h1:-20000≤dx∧dx≤20000) (h2:-20000≤dy∧dy≤20000) (hC:C≤100000000000) (hM:Bd C M):obT (n:Int) (a:Int) (b:Int) dx dy (fl M)=some (fl (obM n a b dx dy M)):=by
 unfold obT
 have w1:IntKind.wrap .i64 (negM dx)=-dx:=wrap_in (n:=-dx) (by omega) (by omega)
 have w2:IntKind.wrap .i64 (negM dy)=-dy:=wrap_in (n:=-dy) (by omega) (by omega)
 rw [w1,w2]
 refine bind_of (addT_eq hn hb ha hab.symm h1 h2 (by omega) hM) ?_
 exact addT_eq (C:=C+50000) hn ha hb hab (by omega) (by omega) (by omega) (adM_bd hn hab.symm ha h1 h2 hM)
theorem obM_bd {n a b:Nat} {dx dy C:Int} {M:Mx} (hn:n≤8) (ha:a≤n) (hb:b≤n) (hab:a≠b) (h1:-20000≤dx∧dx≤20000) (h2:-20000≤dy∧dy≤20000) (hM:Bd C M):Bd (C+100000) (obM n a b dx dy M):=by
 have:=adM_bd (n:=n) (p:=a) (q:=b) (vx:=-dx) (vy:=-dy) hn hab hb (by omega) (by omega) (adM_bd hn hab.symm ha h1 h2 hM)
 intro i j
 have:=this i j
 unfold obM
 omega
theorem fold_loop {α:Type} {xs:List α} (g:Mx→α→Mx) (M0:Mx) {body:Int×List Int→Option ((Int×List Int)⊕List Int)}
  (hb:∀ k (hk:k<xs.length),body ((k:Int),fl ((xs.take k).foldl g M0))=some (.inl ((k:Int)+1,fl (g ((xs.take k).foldl g M0) xs[k])))) (he:body ((xs.length:Int),fl (xs.foldl g M0))=some (.inr (fl (xs.foldl g M0)))):loopM body ((0:Int),fl M0)=some (fl (xs.foldl g M0)):=by
 refine count_loop (fun k=>fl ((xs.take k).foldl g M0)) xs.length (fun k hk=>?_) ?_
 ·rw [hb k hk,List.take_succ_eq_append_getElem hk,List.foldl_append]
  rfl
 ·rw [List.take_length]
  exact he
theorem fold_bd {α:Type} (g:Mx→α→Mx):∀ (xs:List α) {C:Int} {M:Mx},(∀ x∈xs,∀ C M,Bd C M→Bd (C+100000) (g M x))→Bd C M→Bd (C+100000*xs.length) (xs.foldl g M)
 | [],C,M,_,h=>by
  have e:C+100000*(([]:List α).length:Int)=C:=Int.add_zero C
  rw [e];exact h
 | x::r,C,M,hx,h=>by
  have ih:=fold_bd g r (fun y hy=>hx y (List.mem_cons_of_mem _ hy)) (hx x (List.mem_cons_self ..) C M h)
  have e:C+100000+100000*(r.length:Int)=C+100000*((x::r).length:Int):=by rw [List.length_cons];omega
  rw [e] at ih
  exact ih
theorem fx_bd {c:Net} (h:NOK c):∀ f∈c.2.1,∀ C M,Bd C M→Bd (C+100000) (fxM c.1.toNat M f):=fun f hf C M hM=>by
 have h0:=h.n0
 have h8:=h.n8
 have:=h.fx f hf
 exact obM_bd (by omega) (Nat.le_refl _) (by omega) (by omega) (by omega) (by omega) hM
theorem sg_bd {c:Net} (h:NOK c):∀ s∈c.2.2,∀ C M,Bd C M→Bd (C+100000) (sgM c.1.toNat M s):=fun s hs C M hM=>by
 have h0:=h.n0
 have h8:=h.n8
 have:=h.sg s hs
 exact obM_bd (by omega) (by omega) (by omega) (by omega) (by omega) (by omega) hM
theorem nm_fix {c:Net} (h:NOK c):loopM (fun (s:Int×List Int)=>bif ltM s.1 (lenM c.2.1) then Option.bind (idxM c.2.1 s.1) fun (r_1:Int×Int×Int×Int)=>Option.bind (addT c.1 r_1.1 c.1 r_1.2.1 r_1.2.2.1 s.2) fun (ov:List Int)=>Option.bind (addT c.1 c.1 r_1.1 (IntKind.wrap .i64 (negM r_1.2.1)) (IntKind.wrap .i64 (negM r_1.2.2.1)) ov) fun (ov:List Int)=>some (Sum.inl (IntKind.wrap .i64 (s.1+(1:Int)),ov)) else some (Sum.inr s.2)) ((0:Int),fl fun _ _=>0)=some (fl (nmF c.1.toNat c.2.1)):=by
 have h0:=h.n0
 have h8:=h.n8
 have hl:=h.fl
 have hN:c.1=((c.1.toNat:Nat):Int):=by omega
 have hz:Bd 0 (fun _ _=>0):=fun _ _=>⟨by show (-0:Int)≤0;omega,by show (0:Int)≤0;omega⟩
 refine fold_loop (fxM c.1.toNat) (fun _ _=>0) (fun k hk=>?_) ?_
 ·have hm:=h.fx _ (List.getElem_mem hk)
  have hb:=fold_bd (fxM c.1.toNat) (c.2.1.take k) (fun f hf=>fx_bd h f (List.mem_of_mem_take hf)) hz
  have hlk:(c.2.1.take k).length≤8:=by rw [List.length_take];omega
  dsimp only
  rw [ltI (by show (k:Int)<(c.2.1.length:Int);omega),cT,idxM_lt hk,oB]
  generalize (c.2.1.take k).foldl (fxM c.1.toNat) (fun _ _=>0)=M at *
  generalize c.2.1[k]=f at *
  have ho:=obT_eq (n:=c.1.toNat) (a:=c.1.toNat) (b:=f.1.toNat) (dx:=f.2.1) (dy:=f.2.2.1) (M:=M) (by omega) (Nat.le_refl _) (by omega) (by omega) (by omega) (by omega) (by omega) hb
  have hp:((f.1.toNat:Nat):Int)=f.1:=by omega
  rw [hp,← hN] at ho
  unfold obT at ho
  obtain ⟨ov,g1,g2⟩:=Option.bind_eq_some_iff.1 ho
  refine bind_of g1 (bind_of g2 ?_)
  rw [wrap_in (by omega) (by omega)]
  rfl
 ·dsimp only
  rw [geI (by show (c.2.1.length:Int)≤(c.2.1.length:Int);omega),cF]
theorem nm_sgt {c:Net} (h:NOK c):loopM (fun (s:Int×List Int)=>bif ltM s.1 (lenM c.2.2) then Option.bind (idxM c.2.2 s.1) fun (r_1:Int×Int×Int×Int×Int)=>Option.bind (addT c.1 r_1.2.1 r_1.1 r_1.2.2.1 r_1.2.2.2.1 s.2) fun (ov:List Int)=>Option.bind (addT c.1 r_1.1 r_1.2.1 (IntKind.wrap .i64 (negM r_1.2.2.1)) (IntKind.wrap .i64 (negM r_1.2.2.2.1)) ov) fun (ov:List Int)=>some (Sum.inl (IntKind.wrap .i64 (s.1+(1:Int)),ov)) else some (Sum.inr s.2)) ((0:Int),fl (nmF c.1.toNat c.2.1))=some (fl (nmA c)):=by
 have h0:=h.n0
 have h8:=h.n8
 have hl:=h.fl
 have hl2:=h.sl
 have hN:c.1=((c.1.toNat:Nat):Int):=by omega
 have hz:Bd 0 (fun _ _=>0):=fun _ _=>⟨by show (-0:Int)≤0;omega,by show (0:Int)≤0;omega⟩
 have hz2:=fold_bd (fxM c.1.toNat) c.2.1 (fx_bd h) hz
 refine fold_loop (sgM c.1.toNat) (nmF c.1.toNat c.2.1) (fun k hk=>?_) ?_
 ·have hm:=h.sg _ (List.getElem_mem hk)
  have hb:=fold_bd (sgM c.1.toNat) (c.2.2.take k) (fun f hf=>sg_bd h f (List.mem_of_mem_take hf)) hz2
  have hlk:(c.2.2.take k).length≤20:=by rw [List.length_take];omega
  dsimp only
  rw [ltI (by show (k:Int)<(c.2.2.length:Int);omega),cT,idxM_lt hk,oB]
  have eF:c.2.1.foldl (fxM c.1.toNat) (fun _ _=>0)=nmF c.1.toNat c.2.1:=rfl
  rw [eF] at hb
  generalize (c.2.2.take k).foldl (sgM c.1.toNat) (nmF c.1.toNat c.2.1)=M at *
  generalize c.2.2[k]=s at *
  have ho:=obT_eq (n:=c.1.toNat) (a:=s.1.toNat) (b:=s.2.1.toNat) (dx:=s.2.2.1) (dy:=s.2.2.2.1) (M:=M) (by omega) (by omega) (by omega) (by omega) (by omega) (by omega) (by omega) hb
  have hp:((s.1.toNat:Nat):Int)=s.1:=by omega
  have hq:((s.2.1.toNat:Nat):Int)=s.2.1:=by omega
  rw [hp,hq,← hN] at ho
  unfold obT at ho
  obtain ⟨ov,g1,g2⟩:=Option.bind_eq_some_iff.1 ho
  refine bind_of g1 (bind_of g2 ?_)
  rw [wrap_in (by omega) (by omega)]
  rfl
 ·dsimp only
  rw [geI (by show (c.2.2.length:Int)≤(c.2.2.length:Int);omega),cF]
theorem fl_len (M:Mx):(fl M).length=80:=row_length _ _
theorem fl_part {M:Mx} {p:Nat} (hp:p<8):((fl M).take (p*10+10)).drop (p*10)=row 10 (M p):=by
 apply List.ext_getElem?
 intro j
 rw [List.getElem?_drop,List.getElem?_take]
 by_cases hj:j<10
 ·rw [if_pos (by omega),row_get hj]
  unfold fl
  rw [row_get (by omega)]
  have e1:(p*10+j) / 10=p:=by omega
  have e2:(p*10+j) % 10=j:=by omega
  rw [e1,e2]
 ·rw [if_neg (by omega),List.getElem?_eq_none (by rw [row_length];omega)]
theorem fl_slice {M:Mx} {p:Nat} (hp:p<8) {lo hi:Int} (h1:lo=((p*10:Nat):Int)) (h2:hi=((p*10+10:Nat):Int)):sliceM (fl M) lo hi=some (row 10 (M p)):=by
 rw [h1,h2,sliceM_of (by omega) (by omega) (by rw [fl_len];omega),Int.toNat_natCast,Int.toNat_natCast,fl_part hp]
theorem fl_put {M:Mx} {p:Nat} (hp:p<8) {z:Int} (hz:z=((p*10:Nat):Int)):putM (fl M) z (row 10 (M p))=some (fl M):=by
 rw [hz]
 unfold putM
 have hl:(row 10 (M p)).length=10:=row_length _ _
 rw [dT (by omega),hl,dT (by rw [fl_len];omega)]
 dsimp only
 congr 1
 rw [Int.toNat_natCast,← fl_part hp]
 have e:(fl M).take (p*10)=((fl M).take (p*10+10)).take (p*10):=by rw [List.take_take];congr 1;omega
 rw [e,← List.append_assoc,List.take_append_drop,List.take_append_drop]
theorem ten_row (g:Nat→Int):[nthD (row 10 g) (nat_lit 0) (0:Int),nthD (row 10 g) (nat_lit 1) (0:Int),nthD (row 10 g) (nat_lit 2) (0:Int),nthD (row 10 g) (nat_lit 3) (0:Int),nthD (row 10 g) (nat_lit 4) (0:Int),nthD (row 10 g) (nat_lit 5) (0:Int),nthD (row 10 g) (nat_lit 6) (0:Int),nthD (row 10 g) (nat_lit 7) (0:Int),nthD (row 10 g) (nat_lit 8) (0:Int),nthD (row 10 g) (nat_lit 9) (0:Int)]=row 10 g:=rfl
theorem zr (p:Nat):((nat_lit 0:Nat):Int)+(p:Int)*((nat_lit 10:Nat):Int)=((p*10:Nat):Int):=by
 show (0:Int)+(p:Int)*10=_
 omega
theorem zr2 (p:Nat):((nat_lit 0:Nat):Int)+(p:Int)*((nat_lit 10:Nat):Int)+((nat_lit 10:Nat):Int)=((p*10+10:Nat):Int):=by
 show (0:Int)+(p:Int)*10+10=_
 omega
theorem srch {n k:Nat} {m:Mx} (hn:n≤8) (hk:k<n) (hz:m k k=0→∀ x,k≤x→x<n→m x k=0):loopM (fun (s_1:Int)=>Option.bind (bif ltM s_1 (n:Int) then chkM s_1 ((nat_lit 8:Nat):Int) else some ()) fun (r_1:Unit)=>Option.bind (bif ltM s_1 (n:Int) then chkM (k:Int) ((nat_lit 10:Nat):Int) else some ()) fun (r_2:Unit) =>
  Option.bind (bif ltM s_1 (n:Int) then idxM (fl m) (((nat_lit 0:Nat):Int)+s_1*((nat_lit 10:Nat):Int)+(k:Int)*((nat_lit 1:Nat):Int)) else some (0:Int)) fun (r:Int)=>bif PE.andM (ltM s_1 (n:Int)) (eqM r (0:Int)) then some (Sum.inl (IntKind.wrap .i64 (s_1+(1:Int)))) else some (Sum.inr s_1)) (k:Int)=some (if m k k=0 then (n:Int) else (k:Int)):=by
 have row1:∀ x:Nat,x<n→(Option.bind (bif ltM (x:Int) (n:Int) then chkM (x:Int) ((nat_lit 8:Nat):Int) else some ()) fun (r_1:Unit)=>Option.bind (bif ltM (x:Int) (n:Int) then chkM (k:Int) ((nat_lit 10:Nat):Int) else some ()) fun (r_2:Unit) =>
  Option.bind (bif ltM (x:Int) (n:Int) then idxM (fl m) (((nat_lit 0:Nat):Int)+(x:Int)*((nat_lit 10:Nat):Int)+(k:Int)*((nat_lit 1:Nat):Int)) else some (0:Int)) fun (r:Int)=>bif PE.andM (ltM (x:Int) (n:Int)) (eqM r (0:Int)) then some (Sum.inl (β:=Int) (IntKind.wrap .i64 ((x:Int)+(1:Int)))) else some (Sum.inr (x:Int)))=(bif eqM (m x k) 0 then some (Sum.inl ((x:Int)+1)) else some (Sum.inr (x:Int))):=fun x hx=>by
  rw [ltI (by omega),cT,cT,cT,ck8 (by omega),ck10 (by omega),oB,oB,fl_idx (by omega) (by omega) (z1 x k),oB,andT,wrap_in (by omega) (by omega)]
 by_cases h0:m k k=0
 ·rw [if_pos h0]
  have L:=loopM_fn (body:=fun (s_1:Int)=>Option.bind (bif ltM s_1 (n:Int) then chkM s_1 ((nat_lit 8:Nat):Int) else some ()) fun (r_1:Unit)=>Option.bind (bif ltM s_1 (n:Int) then chkM (k:Int) ((nat_lit 10:Nat):Int) else some ()) fun (r_2:Unit) =>
   Option.bind (bif ltM s_1 (n:Int) then idxM (fl m) (((nat_lit 0:Nat):Int)+s_1*((nat_lit 10:Nat):Int)+(k:Int)*((nat_lit 1:Nat):Int)) else some (0:Int)) fun (r:Int)=>bif PE.andM (ltM s_1 (n:Int)) (eqM r (0:Int)) then some (Sum.inl (IntKind.wrap .i64 (s_1+(1:Int)))) else some (Sum.inr s_1)) (fun j=>((k+j:Nat):Int)) (n-k) (r:=(n:Int)) (fun j hj=>by
    dsimp only
    rw [row1 (k+j) (by omega),eqI (hz h0 (k+j) (by omega) (by omega)),cT]
    congr 2) (by
    dsimp only
    have e:((k+(n-k):Nat):Int)=(n:Int):=by omega
    rw [e,geI (Int.le_refl _)]
    rfl)
  exact L
 ·rw [if_neg h0]
  exact loopM_fn (fun _=>(k:Int)) 0 (fun j hj=>absurd hj (Nat.not_lt_zero _)) (by
   dsimp only
   rw [row1 k hk,neI h0,cF])
def part (m:Mx) (k i:Nat) (d:Int) (j:Nat):Mx:=fun x y=>if x=i∧y<j then (tt m k i y).tdiv d else m x y
theorem row_loop {n k i:Nat} {m:Mx} {d:Int} (hn:n≤8) (hk:k<n) (hi:i<n) (hik:i≠k) (hd:0<d) (bP:∀ j,j<10→ab (m i j)*ab (m k k)≤3000000000000000000∧ab (m i k)*ab (m k j)≤3000000000000000000):loopM (fun (s_2:Int×List Int)=>bif ltM s_2.1 (10:Int) then Option.bind (chkM (i:Int) ((nat_lit 8:Nat):Int)) fun (r_12:Unit)=>Option.bind (chkM s_2.1 ((nat_lit 10:Nat):Int)) fun (r_13:Unit)=>Option.bind (idxM s_2.2 (((nat_lit 0:Nat):Int)+(i:Int)*((nat_lit 10:Nat):Int)+s_2.1*((nat_lit 1:Nat):Int))) fun (r_14:Int) =>
  Option.bind (chkM (k:Int) ((nat_lit 8:Nat):Int)) fun (r_15:Unit)=>Option.bind (chkM (k:Int) ((nat_lit 10:Nat):Int)) fun (r_16:Unit)=>Option.bind (idxM s_2.2 (((nat_lit 0:Nat):Int)+(k:Int)*((nat_lit 10:Nat):Int)+(k:Int)*((nat_lit 1:Nat):Int))) fun (r_17:Int) =>
  Option.bind (chkM (k:Int) ((nat_lit 8:Nat):Int)) fun (r_18:Unit)=>Option.bind (chkM s_2.1 ((nat_lit 10:Nat):Int)) fun (r_19:Unit)=>Option.bind (idxM s_2.2 (((nat_lit 0:Nat):Int)+(k:Int)*((nat_lit 10:Nat):Int)+s_2.1*((nat_lit 1:Nat):Int))) fun (r_20:Int) =>
  Option.bind (divM .i64 (IntKind.wrap .i64 (IntKind.wrap .i64 (r_14*r_17)-IntKind.wrap .i64 (m i k*r_20))) d) fun (r_21:Int)=>Option.bind (chkM (i:Int) ((nat_lit 8:Nat):Int)) fun (r_22:Unit)=>Option.bind (chkM s_2.1 ((nat_lit 10:Nat):Int)) fun (r_23:Unit) =>
  Option.bind (setM s_2.2 (((nat_lit 0:Nat):Int)+(i:Int)*((nat_lit 10:Nat):Int)+s_2.1*((nat_lit 1:Nat):Int)) fun (x:Int)=>some r_21) fun (r:List Int)=>some (Sum.inl (IntKind.wrap .i64 (s_2.1+(1:Int)),r)) else some (Sum.inr s_2.2)) ((0:Int),fl m)=some (fl (part m k i d 10)):=by
 have e0:fl m=fl (part m k i d 0):=fl_congr fun x y _ _=>by unfold part;rw [if_neg (by omega)]
 rw [e0]
 refine count_loop (fun j=>fl (part m k i d j)) 10 (fun j hj=>?_) ?_
 ·dsimp only
  rw [ltI (by omega),cT,ck8 (by omega),ck10 hj,oB,oB]
  refine bind_of (fl_idx (by omega) hj (z1 i j)) ?_
  rw [ck8 (by omega),ck10 (by omega),oB,oB]
  refine bind_of (fl_idx (by omega) (by omega) (z1 k k)) ?_
  rw [oB,oB]
  refine bind_of (fl_idx (by omega) hj (z1 k j)) ?_
  have p1:part m k i d j i j=m i j:=by unfold part;rw [if_neg (by omega)]
  have p2:part m k i d j k k=m k k:=by unfold part;rw [if_neg (by omega)]
  have p3:part m k i d j k j=m k j:=by unfold part;rw [if_neg (by omega)]
  rw [p1,p2,p3]
  have q1:ab (m i j*m k k)≤3000000000000000000:=by rw [ab_mul];exact (bP j hj).1
  have q2:ab (m i k*m k j)≤3000000000000000000:=by rw [ab_mul];exact (bP j hj).2
  have r1:=ab_le (m i j*m k k)
  have r2:=ab_le (m i k*m k j)
  have ht:tt m k i j=m i j*m k k-m i k*m k j:=rfl
  have w:IntKind.wrap .i64 (IntKind.wrap .i64 (m i j*m k k)-IntKind.wrap .i64 (m i k*m k j))=tt m k i j:=by
   rw [wrap_in (n:=m i j*m k k) (by omega) (by omega),wrap_in (n:=m i k*m k j) (by omega) (by omega),wrap_in (n:=m i j*m k k-m i k*m k j) (by omega) (by omega),ht]
  rw [w]
  have hq1:-9000000000000000000≤(tt m k i j).tdiv d∧(tt m k i j).tdiv d≤9000000000000000000:=by
   have ha:-9000000000000000000≤tt m k i j∧tt m k i j≤9000000000000000000:=by omega
   generalize tt m k i j=t at *
   have:=Int.natAbs_tdiv_le_natAbs t d
   omega
  refine bind_of (divM_pos (by omega)) ?_
  rw [oB,oB,wrap_in (n:=(tt m k i j).tdiv d) (by omega) (by omega)]
  refine bind_of (fl_set (v:=(tt m k i j).tdiv d) (by omega) hj (z1 i j) rfl) ?_
  rw [wrap_in (by omega) (by omega)]
  congr 3
  refine fl_congr fun x y _ _=>?_
  unfold up part
  by_cases hx:x=i∧y=j
  ·rw [if_pos hx,if_pos ⟨hx.1,by omega⟩,hx.2]
  ·rw [if_neg hx]
   by_cases hy:x=i∧y<j
   ·rw [if_pos hy,if_pos ⟨hy.1,by omega⟩]
   ·rw [if_neg hy,if_neg (by omega)]
 ·dsimp only
  rw [geI (by omega),cF]
noncomputable def redB (n:Int):Int×Int×List Int→Option ((Int×Int×List Int)⊕((Int×List Int)⊕(Int×List Int))) :=
 (fun (s:Int×Int×List Int)=>bif ltM s.2.1 n then Option.bind (loopM (fun (s_1:Int)=>Option.bind (bif ltM s_1 n then chkM s_1 ((nat_lit 8:Nat):Int) else some ())
 fun (r_1:Unit)=>Option.bind (bif ltM s_1 n then chkM s.2.1 ((nat_lit 10:Nat):Int) else some ()) fun (r_2:Unit)=>Option.bind (bif ltM s_1 n then idxM s.2.2 (((nat_lit 0:Nat):Int)+s_1*((nat_lit 10:Nat):Int)+s.2.1*((nat_lit 1:Nat):Int)) else some (0:Int))
 fun (r:Int)=>bif PE.andM (ltM s_1 n) (eqM r (0:Int)) then some (Sum.inl (IntKind.wrap .i64 (s_1+(1:Int)))) else some (Sum.inr s_1)) s.2.1)
 fun (o_2:Int)=>bif eqM o_2 n then some (Sum.inr (Sum.inr ((0:Int),s.2.2))) else Option.bind (chkM s.2.1 ((nat_lit 8:Nat):Int))
 fun (r_1:Unit)=>Option.bind (sliceM s.2.2 (((nat_lit 0:Nat):Int)+s.2.1*((nat_lit 10:Nat):Int)) (((nat_lit 0:Nat):Int)+s.2.1*((nat_lit 10:Nat):Int)+((nat_lit 10:Nat):Int)))
 fun (r_2:List Int)=>Option.bind (chkM o_2 ((nat_lit 8:Nat):Int)) fun (r_3:Unit)=>Option.bind (sliceM s.2.2 (((nat_lit 0:Nat):Int)+o_2*((nat_lit 10:Nat):Int)) (((nat_lit 0:Nat):Int)+o_2*((nat_lit 10:Nat):Int)+((nat_lit 10:Nat):Int)))
 fun (r_4:List Int)=>Option.bind (chkM o_2 ((nat_lit 8:Nat):Int)) fun (r_5:Unit)=>Option.bind (putM s.2.2 (((nat_lit 0:Nat):Int)+o_2*((nat_lit 10:Nat):Int)) [nthD r_2 (nat_lit 0) (0:Int),nthD r_2 (nat_lit 1) (0:Int),nthD r_2 (nat_lit 2) (0:Int),nthD r_2 (nat_lit 3) (0:Int),nthD r_2 (nat_lit 4) (0:Int),nthD r_2 (nat_lit 5) (0:Int),nthD r_2 (nat_lit 6) (0:Int),nthD r_2 (nat_lit 7) (0:Int),nthD r_2 (nat_lit 8) (0:Int),nthD r_2 (nat_lit 9) (0:Int)])
 fun (r_6:List Int)=>Option.bind (chkM s.2.1 ((nat_lit 8:Nat):Int)) fun (r_7:Unit)=>Option.bind (putM r_6 (((nat_lit 0:Nat):Int)+s.2.1*((nat_lit 10:Nat):Int)) [nthD r_4 (nat_lit 0) (0:Int),nthD r_4 (nat_lit 1) (0:Int),nthD r_4 (nat_lit 2) (0:Int),nthD r_4 (nat_lit 3) (0:Int),nthD r_4 (nat_lit 4) (0:Int),nthD r_4 (nat_lit 5) (0:Int),nthD r_4 (nat_lit 6) (0:Int),nthD r_4 (nat_lit 7) (0:Int),nthD r_4 (nat_lit 8) (0:Int),nthD r_4 (nat_lit 9) (0:Int)])
 fun (r_8:List Int)=>Option.bind (loopM (fun (s_1:Int×List Int)=>bif ltM s_1.1 n then Option.bind (bif eqM s_1.1 s.2.1 then some s_1.2 else Option.bind (chkM s_1.1 ((nat_lit 8:Nat):Int))
 fun (r_9:Unit)=>Option.bind (chkM s.2.1 ((nat_lit 10:Nat):Int)) fun (r_10:Unit)=>Option.bind (idxM s_1.2 (((nat_lit 0:Nat):Int)+s_1.1*((nat_lit 10:Nat):Int)+s.2.1*((nat_lit 1:Nat):Int)))
 fun (r_11:Int)=>Option.bind (loopM (fun (s_2:Int×List Int)=>bif ltM s_2.1 (10:Int) then Option.bind (chkM s_1.1 ((nat_lit 8:Nat):Int))
 fun (r_12:Unit)=>Option.bind (chkM s_2.1 ((nat_lit 10:Nat):Int)) fun (r_13:Unit)=>Option.bind (idxM s_2.2 (((nat_lit 0:Nat):Int)+s_1.1*((nat_lit 10:Nat):Int)+s_2.1*((nat_lit 1:Nat):Int)))
 fun (r_14:Int)=>Option.bind (chkM s.2.1 ((nat_lit 8:Nat):Int)) fun (r_15:Unit)=>Option.bind (chkM s.2.1 ((nat_lit 10:Nat):Int))
 fun (r_16:Unit)=>Option.bind (idxM s_2.2 (((nat_lit 0:Nat):Int)+s.2.1*((nat_lit 10:Nat):Int)+s.2.1*((nat_lit 1:Nat):Int)))
 fun (r_17:Int)=>Option.bind (chkM s.2.1 ((nat_lit 8:Nat):Int)) fun (r_18:Unit)=>Option.bind (chkM s_2.1 ((nat_lit 10:Nat):Int))
 fun (r_19:Unit)=>Option.bind (idxM s_2.2 (((nat_lit 0:Nat):Int)+s.2.1*((nat_lit 10:Nat):Int)+s_2.1*((nat_lit 1:Nat):Int)))
 fun (r_20:Int)=>Option.bind (divM .i64 (IntKind.wrap .i64 (IntKind.wrap .i64 (r_14*r_17)-IntKind.wrap .i64 (r_11*r_20))) s.1)
 fun (r_21:Int)=>Option.bind (chkM s_1.1 ((nat_lit 8:Nat):Int)) fun (r_22:Unit)=>Option.bind (chkM s_2.1 ((nat_lit 10:Nat):Int))
 fun (r_23:Unit)=>Option.bind (setM s_2.2 (((nat_lit 0:Nat):Int)+s_1.1*((nat_lit 10:Nat):Int)+s_2.1*((nat_lit 1:Nat):Int))
 fun (x:Int)=>some r_21) fun (r:List Int)=>some (Sum.inl (IntKind.wrap .i64 (s_2.1+(1:Int)),r)) else some (Sum.inr s_2.2)) ((0:Int),s_1.2))
 fun (o:List Int)=>some o) fun (o:List Int)=>some (Sum.inl (IntKind.wrap .i64 (s_1.1+(1:Int)),o)) else some (Sum.inr s_1.2)) ((0:Int),r_8))
 fun (o_3:List Int)=>Option.bind (chkM s.2.1 ((nat_lit 8:Nat):Int)) fun (r_9:Unit)=>Option.bind (chkM s.2.1 ((nat_lit 10:Nat):Int))
 fun (r_10:Unit)=>Option.bind (idxM o_3 (((nat_lit 0:Nat):Int)+s.2.1*((nat_lit 10:Nat):Int)+s.2.1*((nat_lit 1:Nat):Int)))
 fun (r:Int)=>some (Sum.inl (r,IntKind.wrap .i64 (s.2.1+(1:Int)),o_3)) else some (Sum.inr (Sum.inl (s.1,s.2.2))))
def pr (m:Mx) (k:Nat) (d:Int) (i:Nat):Mx:=fun x y=>if x<i∧x≠k then (tt m k x y).tdiv d else m x y
theorem red_step {n k:Nat} {m:Mx} {d:Int} (hn:n≤8) (hk:k<n) (hd:0<d) (hp:m k k≠0) (bP:∀ i j,i<n→j<10→i≠k→ab (m i j)*ab (m k k)≤3000000000000000000∧ab (m i k)*ab (m k j)≤3000000000000000000) :
  redB (n:Int) (d,(k:Int),fl m)=some (.inl (m k k,(k:Int)+1,fl (pr m k d n))):=by
 unfold redB
 dsimp only
 rw [ltI (by omega),cT]
 refine bind_of (srch hn hk fun h=>absurd h hp) ?_
 rw [if_neg hp,neI (by omega),cF]
 have k8:=ck8 (p:=k) (by omega)
 have hput:=fl_put (M:=m) (p:=k) (by omega) (zr k)
 rw [← ten_row (m k)] at hput
 refine bind_of k8 (bind_of (fl_slice (by omega) (zr k) (zr2 k)) (bind_of k8 (bind_of (fl_slice (by omega) (zr k) (zr2 k)) (bind_of k8 (bind_of hput (bind_of k8 (bind_of hput ?_)))))))
 refine bind_of (x:=fl (pr m k d n)) ?_ ?_
 ·have e0:fl m=fl (pr m k d 0):=fl_congr fun x y _ _=>by unfold pr;rw [if_neg (by omega)]
  rw [e0]
  refine count_loop (fun i=>fl (pr m k d i)) n (fun i hi=>?_) ?_
  ·dsimp only
   rw [ltI (by omega),cT]
   refine bind_of (x:=fl (pr m k d (i+1))) ?_ (by rw [wrap_in (by omega) (by omega)])
   by_cases hik:i=k
   ·rw [eqI (by omega),cT]
    congr 1
    refine fl_congr fun x y _ _=>?_
    unfold pr
    by_cases hx:x<i∧x≠k
    ·rw [if_pos hx,if_pos ⟨by omega,hx.2⟩]
    ·rw [if_neg hx,if_neg (by omega)]
   ·rw [neI (by omega),cF]
    refine bind_of (ck8 (by omega)) (bind_of (ck10 (by omega)) (bind_of (fl_idx (by omega) (by omega) (z1 i k)) ?_))
    have p1:∀ y,pr m k d i i y=m i y:=fun y=>by unfold pr;rw [if_neg (by omega)]
    have p2:∀ y,pr m k d i k y=m k y:=fun y=>by unfold pr;rw [if_neg (by omega)]
    have L:=row_loop (m:=pr m k d i) (d:=d) hn hk hi hik hd (fun j hj=>by rw [p1,p1,p2,p2];exact bP i j hi hj hik)
    refine bind_of L ?_
    congr 1
    refine fl_congr fun x y _ hy=>?_
    have ht:tt (pr m k d i) k i y=tt m k i y:=by unfold tt;rw [p1,p1,p2,p2]
    unfold part
    by_cases hx:x=i
    ·subst hx
     rw [if_pos ⟨rfl,hy⟩,ht]
     unfold pr
     rw [if_pos ⟨by omega,hik⟩]
    ·rw [if_neg (by omega)]
     unfold pr
     by_cases hx2:x<i∧x≠k
     ·rw [if_pos hx2,if_pos ⟨by omega,hx2.2⟩]
     ·rw [if_neg hx2,if_neg (by omega)]
  ·dsimp only
   rw [geI (by omega),cF]
 ·refine bind_of k8 (bind_of (ck10 (by omega)) (bind_of (fl_idx (by omega) (by omega) (z1 k k)) ?_))
  have p2:pr m k d n k k=m k k:=by unfold pr;rw [if_neg (by omega)]
  rw [p2,wrap_in (by omega) (by omega)]
theorem red_stop {n k:Nat} {m:Mx} {d:Int} (hn:n≤8) (hk:k<n) (h0:m k k=0) (hz:∀ x,k≤x→x<n→m x k=0):redB (n:Int) (d,(k:Int),fl m)=some (.inr (.inr (0,fl m))):=by
 unfold redB
 dsimp only
 rw [ltI (by omega),cT]
 refine bind_of (srch hn hk fun _=>hz) ?_
 rw [if_pos h0,eqI rfl,cT]
theorem red_ok {A:Mx} {n:Nat} {B:Int} {a:Nat→Nat} (h:Lap8 A n 10 B a) :
  ((∀ k,k<n→del A (k+1)≠0)∧loopM (redB (n:Int)) (1,0,fl A)=some (.inl (del A n,fl (stt A n n))))∨((∃ k,k<n∧del A (k+1)=0)∧∃ l,loopM (redB (n:Int)) (1,0,fl A)=some (.inr (0,l))):=by
 have hn:=h.hn
 have step:∀ k,k<n→(∀ l,l<k→del A (l+1)≠0)→del A (k+1)≠0→redB (n:Int) (del A k,(k:Int),fl (stt A n k))=some (.inl (del A (k+1),((k+1:Nat):Int),fl (stt A n (k+1)))):=fun k hk hl hp=>by
  obtain ⟨b,l,z,d⟩:=run_ok8 h k (by omega) hl
  have s2:=sizes8 h b l z d hk
  have hpv:=b.pivot (by omega) hk h.hW
  rw [red_step hn hk d (by rw [hpv];exact hp) s2,hpv]
  congr 4
  refine fl_congr fun x y _ _=>?_
  show _=if x=k∨n≤x then stt A n k x y else (tt (stt A n k) k x y).tdiv (del A k)
  unfold pr
  by_cases hx:x<n∧x≠k
  ·rw [if_pos hx,if_neg (by omega)]
  ·rw [if_neg hx,if_pos (by omega)]
 by_cases hall:∀ k,k<n→del A (k+1)≠0
 ·left
  refine ⟨hall,?_⟩
  exact loopM_fn (body:=redB (n:Int)) (fun k=>(del A k,(k:Int),fl (stt A n k))) n (fun k hk=>step k hk (fun l hl=>hall l (by omega)) (hall k hk)) (by
   unfold redB
   dsimp only
   rw [geI (by omega),cF])
 ·right
  have hex:∃ k,k<n∧del A (k+1)=0:=by
   refine Classical.byContradiction fun hno=>hall fun k hk hz=>hno ⟨k,hk,hz⟩
  refine ⟨hex,?_⟩
  have least:∀ m,(∃ k,k<m∧k<n∧del A (k+1)=0)→∃ k,k<n∧del A (k+1)=0∧∀ l,l<k→del A (l+1)≠0:=by
   intro m
   induction m with
   | zero=>rintro ⟨k,hk,_⟩;exact absurd hk (Nat.not_lt_zero _)
   | succ m ih =>
    rintro ⟨k,hk,hkn,hz⟩
    by_cases hlow:∃ k,k<m∧k<n∧del A (k+1)=0
    ·exact ih hlow
    ·refine ⟨k,hkn,hz,fun l hl hz'=>hlow ⟨l,by omega,by omega,hz'⟩⟩
  obtain ⟨k1,hk1,hz1⟩:=hex
  obtain ⟨k,hk,hz,hl⟩:=least n ⟨k1,hk1,hk1,hz1⟩
  obtain ⟨b,l,z,d⟩:=run_ok8 h k (by omega) hl
  have hpv:=b.pivot (by omega) hk h.hW
  have h0:stt A n k k k=0:=by rw [hpv];exact hz
  exact ⟨_,loopM_fn (body:=redB (n:Int)) (fun k=>(del A k,(k:Int),fl (stt A n k))) k (fun j hj=>step j (by omega) (fun l' hl'=>hl l' (by omega)) (hl j hj)) (red_stop hn hk h0 (l.zero hk h0))⟩
def big (a:Int):Prop:=-9000000000000000000≤a∧a≤9000000000000000000
def gI (a b:Int):Int:=((Int.gcd a b:Nat):Int)
theorem gcd_loop:∀ (N:Nat) (a b:Int),b.natAbs≤N→big a→big b→∃ r,loopM (fun (s:Int×Int)=>bif PE.notM (eqM s.2 (0:Int)) then Option.bind (remM s.1 s.2) fun (r:Int)=>some (Sum.inl (s.2,r)) else some (Sum.inr s.1)) (a,b)=some r∧r.natAbs=Int.gcd a b∧big r:=by
 intro N
 induction N with
 | zero =>
  intro a b hN ha hb
  have e:b=0:=by omega
  subst e
  refine ⟨a,?_,?_,ha⟩
  ·rw [loopM_eq];rfl
  ·show _=Nat.gcd a.natAbs 0
   rw [Nat.gcd_zero_right]
 | succ N ih =>
  intro a b hN ha hb
  by_cases e:b=0
  ·subst e
   refine ⟨a,?_,?_,ha⟩
   ·rw [loopM_eq];rfl
   ·show _=Nat.gcd a.natAbs 0
    rw [Nat.gcd_zero_right]
  ·have ht:=Int.natAbs_tmod a b
   have hlt:a.natAbs % b.natAbs<b.natAbs:=Nat.mod_lt _ (by omega)
   have hbt:big (a.tmod b):=by unfold big at *;omega
   obtain ⟨r,h1,h2,h3⟩:=ih b (a.tmod b) (by omega) hb hbt
   refine ⟨r,?_,?_,h3⟩
   ·rw [loopM_eq]
    dsimp only
    have e1:remM a b=some (a.tmod b):=by unfold remM;rw [decide_eq_false e]
    rw [neI e,notF,cT,e1]
    exact h1
   ·rw [h2]
    show Nat.gcd b.natAbs (a.tmod b).natAbs=Nat.gcd a.natAbs b.natAbs
    rw [ht,Nat.gcd_comm a.natAbs b.natAbs,Nat.gcd_rec b.natAbs a.natAbs,Nat.gcd_comm]
theorem m31_eq {a b:Int} (ha:big a) (hb:big b):m31 (a,b)=some (gI a b):=by
 obtain ⟨r,h1,h2,h3⟩:=gcd_loop b.natAbs a b (Nat.le_refl _) ha hb
 unfold m31
 refine bind_of h1 ?_
 unfold big at h3
 have w:IntKind.wrap .i64 (negM r)=-r:=wrap_in (n:=-r) (by omega) (by omega)
 rw [w]
 unfold gI
 congr 1
 omega
theorem gI_left (a b:Int):gI a b ∣ a:=Int.gcd_dvd_left a b
theorem gI_nn (a b:Int):0≤gI a b:=Int.natCast_nonneg _
theorem gI_pos {a:Int} (h:0<a) (b:Int):0<gI a b∧gI a b≤a:=by
 have h1:=gI_nn a b
 have h2:=Int.le_of_dvd h (gI_left a b)
 refine ⟨?_,h2⟩
 refine Int.not_le.1 fun hle=>?_
 have e:gI a b=0:=by omega
 have:=gI_left a b
 rw [e] at this
 have:=Int.zero_dvd.1 this
 omega
def gc (d:Int) (X Y:Nat→Int):Nat→Int
 | 0=>d
 | k+1=>gI (gI (gc d X Y k) (X k)) (Y k)
theorem gc_pos {d:Int} (hd:0<d) (X Y:Nat→Int):∀ k,0<gc d X Y k∧gc d X Y k≤d
 | 0=>⟨hd,Int.le_refl d⟩
 | k+1=>by
  obtain ⟨h1,h2⟩:=gc_pos hd X Y k
  have h3:=gI_pos h1 (X k)
  have h4:=gI_pos h3.1 (Y k)
  show 0<gI (gI (gc d X Y k) (X k)) (Y k)∧gI (gI (gc d X Y k) (X k)) (Y k)≤d
  omega
noncomputable def gB (n:Int) (l:List Int):Int×Int×Int×List Int×List Int→Option ((Int×Int×Int×List Int×List Int)⊕(Int×Int×List Int×List Int)) :=
 (fun (s:Int×Int×Int×List Int×List Int)=>bif ltM s.2.1 n then Option.bind (chkM s.2.1 ((nat_lit 8:Nat):Int))
 fun (r_1:Unit)=>Option.bind (idxM l (((nat_lit 0:Nat):Int)+s.2.1*((nat_lit 10:Nat):Int)+(8:Int))) fun (r_2:Int)=>Option.bind (appM (nat_lit 8) s.2.2.2.1 [r_2])
 fun (r_3:List Int)=>Option.bind (chkM s.2.1 ((nat_lit 8:Nat):Int)) fun (r_4:Unit)=>Option.bind (idxM l (((nat_lit 0:Nat):Int)+s.2.1*((nat_lit 10:Nat):Int)+(9:Int)))
 fun (r_5:Int)=>Option.bind (appM (nat_lit 8) s.2.2.2.2 [r_5]) fun (r_6:List Int)=>Option.bind (chkM s.2.1 (lenM r_3))
 fun (r_7:Unit)=>Option.bind (idxM r_3 s.2.1) fun (r_8:Int)=>Option.bind (m31 (s.1,r_8)) fun (r_9:Int)=>Option.bind (chkM s.2.1 (lenM r_6))
 fun (r_10:Unit)=>Option.bind (idxM r_6 s.2.1) fun (r_11:Int)=>Option.bind (m31 (r_9,r_11)) fun (r:Int)=>some (Sum.inl (r,IntKind.wrap .i64 (s.2.1+(1:Int)),s.2.2.1,r_3,r_6)) else some (Sum.inr (s.1,s.2.2.1,s.2.2.2.1,s.2.2.2.2)))
theorem gB_ok {n:Nat} {M:Mx} {d:Int} (hn:n≤8) (hd:0<d) (hd2:big d) (hM:∀ i j,i<n→j<10→big (M i j)):loopM (gB (n:Int) (fl M)) (d,(0:Int),d,[],[])=some (gc d (fun i=>M i 8) (fun i=>M i 9) n,d,row n (fun i=>M i 8),row n fun i=>M i 9):=by
 refine loopM_fn (body:=gB (n:Int) (fl M)) (fun k=>(gc d (fun i=>M i 8) (fun i=>M i 9) k,(k:Int),d,row k (fun i=>M i 8),row k fun i=>M i 9)) n (fun k hk=>?_) ?_
 ·obtain ⟨g1,g2⟩:=gc_pos hd (fun i=>M i 8) (fun i=>M i 9) k
  have hg:big (gc d (fun i=>M i 8) (fun i=>M i 9) k):=by unfold big at *;omega
  have h8:=hM k 8 hk (by omega)
  have h9:=hM k 9 hk (by omega)
  obtain ⟨g3,g4⟩:=gI_pos g1 (M k 8)
  have hg2:big (gI (gc d (fun i=>M i 8) (fun i=>M i 9) k) (M k 8)):=by unfold big at *;omega
  have l1:lenM (row (k+1) fun i=>M i 8)=(k:Int)+1:=by rw [lenR];omega
  have l2:lenM (row (k+1) fun i=>M i 9)=(k:Int)+1:=by rw [lenR];omega
  unfold gB
  dsimp only
  rw [ltI (by omega),cT]
  refine bind_of (ck8 (by omega)) (bind_of (fl_idx (by omega) (by omega) (z8 k)) (bind_of (app_row (g:=fun i=>M i 8) (by show (k+1)*8≤140737488355328;omega)) (bind_of (ck8 (by omega)) (bind_of (fl_idx (by omega) (by omega) (z9 k)) (bind_of (app_row (g:=fun i=>M i 9) (by show (k+1)*8≤140737488355328;omega)) ?_)))))
  rw [l1,l2]
  refine bind_of (chkM_of (by omega) (by omega)) (bind_of (row_idx (by omega)) (bind_of (m31_eq hg h8) (bind_of (chkM_of (by omega) (by omega)) (bind_of (row_idx (by omega)) (bind_of (m31_eq hg2 h9) ?_)))))
  rw [wrap_in (by omega) (by omega)]
  rfl
 ·unfold gB
  dsimp only
  rw [geI (by omega),cF]
noncomputable def qB (n:Int) (g:Int):Int×List Int×List Int→Option ((Int×List Int×List Int)⊕(List Int×List Int)) :=
 (fun (s:Int×List Int×List Int)=>bif ltM s.1 n then Option.bind (chkM s.1 (lenM s.2.1)) fun (r_2:Unit)=>Option.bind (idxM s.2.1 s.1)
 fun (r_3:Int)=>Option.bind (divM .i64 r_3 g) fun (r_4:Int)=>Option.bind (chkM s.1 (lenM s.2.1)) fun (r_5:Unit)=>Option.bind (setM s.2.1 s.1
 fun (x:Int)=>some r_4) fun (r_6:List Int)=>Option.bind (chkM s.1 (lenM s.2.2)) fun (r_7:Unit)=>Option.bind (idxM s.2.2 s.1)
 fun (r_8:Int)=>Option.bind (divM .i64 r_8 g) fun (r_9:Int)=>Option.bind (chkM s.1 (lenM s.2.2)) fun (r_10:Unit)=>Option.bind (setM s.2.2 s.1
 fun (x:Int)=>some r_9) fun (r:List Int)=>some (Sum.inl (IntKind.wrap .i64 (s.1+(1:Int)),r_6,r)) else some (Sum.inr (s.2.1,s.2.2)))
theorem qB_ok {n:Nat} {X Y:Nat→Int} {g:Int} (hn:n≤8) (hg:0<g) (hX:∀ i,i<n→big (X i)) (hY:∀ i,i<n→big (Y i)):loopM (qB (n:Int) g) ((0:Int),row n X,row n Y)=some (row n (fun i=>(X i).tdiv g),row n fun i=>(Y i).tdiv g):=by
 have qq:∀ v:Int,big v→IntKind.wrap .i64 (v.tdiv g)=v.tdiv g:=fun v hv=>by
  have:=Int.natAbs_tdiv_le_natAbs v g
  unfold big at hv
  exact wrap_in (by omega) (by omega)
 have e0:∀ X:Nat→Int,row n X=row n fun i=>if i<0 then (X i).tdiv g else X i:=fun X=>row_congr fun i _=>by rw [if_neg (Nat.not_lt_zero _)]
 have e1:∀ X:Nat→Int,(row n fun i=>(X i).tdiv g)=row n fun i=>if i<n then (X i).tdiv g else X i:=fun X=>row_congr fun i hi=>by rw [if_pos hi]
 rw [e0 X,e0 Y,e1 X,e1 Y]
 refine loopM_fn (body:=qB (n:Int) g) (fun k=>((k:Int),row n (fun i=>if i<k then (X i).tdiv g else X i),row n fun i=>if i<k then (Y i).tdiv g else Y i)) n (fun k hk=>?_) ?_
 ·have st:∀ X:Nat→Int,big (X k)→(Option.bind (idxM (row n fun i=>if i<k then (X i).tdiv g else X i) (k:Int)) fun r=>divM .i64 r g)=some ((X k).tdiv g):=fun X hXk=>by
   rw [row_idx hk,oB,if_neg (Nat.lt_irrefl k),divM_pos (by omega),qq _ hXk]
  have ss:∀ X:Nat→Int,setM (row n fun i=>if i<k then (X i).tdiv g else X i) (k:Int) (fun _=>some ((X k).tdiv g))=some (row n fun i=>if i<k+1 then (X i).tdiv g else X i):=fun X=>by
   rw [set_rowA hk]
   congr 1
   refine row_congr fun i _=>?_
   by_cases e:i=k
   ·rw [if_pos e,if_pos (by omega),e]
   ·rw [if_neg e]
    by_cases h:i<k
    ·rw [if_pos h,if_pos (by omega)]
    ·rw [if_neg h,if_neg (by omega)]
  obtain ⟨x1,y1,z1⟩:=Option.bind_eq_some_iff.1 (st X (hX k hk))
  obtain ⟨x2,y2,z2⟩:=Option.bind_eq_some_iff.1 (st Y (hY k hk))
  have l1:∀ g:Nat→Int,lenM (row n g)=(n:Int):=fun g=>lenR ..
  unfold qB
  dsimp only
  rw [ltI (by omega),cT,l1,l1]
  refine bind_of (chkM_of (by omega) (by omega)) (bind_of y1 (bind_of z1 (bind_of (chkM_of (by omega) (by omega)) (bind_of (ss X) (bind_of (chkM_of (by omega) (by omega)) (bind_of y2 (bind_of z2 (bind_of (chkM_of (by omega) (by omega)) (bind_of (ss Y) ?_)))))))))
  rw [wrap_in (by omega) (by omega)]
  rfl
 ·unfold qB
  dsimp only
  rw [geI (by omega),cF]
def xs8 (c:Net) (i:Nat):Int:=stt (nmA c) c.1.toNat c.1.toNat i 8
def xs9 (c:Net) (i:Nat):Int:=stt (nmA c) c.1.toNat c.1.toNat i 9
def gcN (c:Net):Int:=gc (del (nmA c) c.1.toNat) (xs8 c) (xs9 c) c.1.toNat
def lstN (c:Net):List Int×List Int×Int:=(row c.1.toNat (fun i=>(xs8 c i).tdiv (gcN c)),row c.1.toNat (fun i=>(xs9 c i).tdiv (gcN c)),(del (nmA c) c.1.toNat).tdiv (gcN c))
def regN (c:Net):Prop:=∀ k,k<c.1.toNat→del (nmA c) (k+1)≠0
theorem zero_fl:([(0:Int),(0:Int),(0:Int),(0:Int),(0:Int),(0:Int),(0:Int),(0:Int),(0:Int),(0:Int),(0:Int),(0:Int),(0:Int),(0:Int),(0:Int),(0:Int),(0:Int),(0:Int),(0:Int),(0:Int),(0:Int),(0:Int),(0:Int),(0:Int),(0:Int),(0:Int),(0:Int),(0:Int),(0:Int),(0:Int),(0:Int),(0:Int),(0:Int),(0:Int),(0:Int),(0:Int),(0:Int),(0:Int),(0:Int),(0:Int),(0:Int),(0:Int),(0:Int),(0:Int),(0:Int),(0:Int),(0:Int),(0:Int),(0:Int),(0:Int),(0:Int),(0:Int),(0:Int),(0:Int),(0:Int),(0:Int),(0:Int),(0:Int),(0:Int),(0:Int),(0:Int),(0:Int),(0:Int),(0:Int),(0:Int),(0:Int),(0:Int),(0:Int),(0:Int),(0:Int),(0:Int),(0:Int),(0:Int),(0:Int),(0:Int),(0:Int),(0:Int),(0:Int),(0:Int),(0:Int)]:List Int)=fl fun _ _=>0:=rfl
theorem m12_eq {c:Net} (h:NOK c) (hL:Lap8 (nmA c) c.1.toNat 10 480000 (dgN (nmA c))):(regN c∧0<del (nmA c) c.1.toNat∧m12 c=some (lstN c,0))∨(¬ regN c∧m12 c=some (([],[],0),100)):=by
 have h0:=h.n0
 have h8:=h.n8
 have hN:((c.1.toNat:Nat):Int)=c.1:=by omega
 have F:=nm_fix h
 rw [← zero_fl] at F
 rcases red_ok hL with ⟨hall,hr⟩ | ⟨⟨k,hk,hz⟩,l,hr⟩
 ·left
  obtain ⟨b,lb,z,d⟩:=run_ok8 hL c.1.toNat (Nat.le_refl _) hall
  obtain ⟨s1,s2⟩:=sizes_end hL z
  refine ⟨hall,d,?_⟩
  have hbig:∀ i j,i<c.1.toNat→j<10→big (stt (nmA c) c.1.toNat c.1.toNat i j):=fun i j hi hj=>by
   by_cases hjn:j<c.1.toNat
   ·rw [b.su i j hi hjn]
    unfold big
    split<;>omega
   ·have h1:=s2 i j hi (by omega) hj
    have h2:=ab_le (stt (nmA c) c.1.toNat c.1.toNat i j)
    unfold big
    omega
  have G:=gB_ok (M:=stt (nmA c) c.1.toNat c.1.toNat) (n:=c.1.toNat) (d:=del (nmA c) c.1.toNat) (by omega) d (by unfold big;omega) hbig
  obtain ⟨g1,g2⟩:=gc_pos d (xs8 c) (xs9 c) c.1.toNat
  have Q:=qB_ok (n:=c.1.toNat) (X:=xs8 c) (Y:=xs9 c) (g:=gcN c) (by omega) g1 (fun i hi=>hbig i 8 hi (by omega)) (fun i hi=>hbig i 9 hi (by omega))
  rw [hN] at hr G Q
  unfold m12
  refine bind_of (m17_eq c) ?_
  rw [nval_iff.2 h,notT,cF]
  refine bind_of F (bind_of (nm_sgt h) (bind_of (bind_of hr rfl) ?_))
  dsimp only
  rw [neI (by omega),cF]
  refine bind_of G ?_
  dsimp only
  rw [geI (by omega),cF,oB]
  have hq:divM .i64 (del (nmA c) c.1.toNat) (gcN c)=some ((del (nmA c) c.1.toNat).tdiv (gcN c)):=by
   have hg0:gcN c≠0:=by unfold gcN;omega
   have:=Int.natAbs_tdiv_le_natAbs (del (nmA c) c.1.toNat) (gcN c)
   rw [divM_pos hg0,wrap_in (by omega) (by omega)]
  refine bind_of hq ?_
  exact bind_of Q rfl
 ·right
  refine ⟨fun hall=>hall k hk hz,?_⟩
  rw [hN] at hr
  unfold m12
  refine bind_of (m17_eq c) ?_
  rw [nval_iff.2 h,notT,cF]
  exact bind_of F (bind_of (nm_sgt h) (bind_of (bind_of hr rfl) rfl))
def gr (n:Nat) (u:Nat→Int) (p:Nat):Int:=if p<n then u p else 0
def rs (n:Nat) (u:Nat→Int) (d:Int) (o:Nat×Nat×Int):Int:=gr n u o.2.1-gr n u o.1-d*o.2.2
def suml {α:Type} (f:α→Int):List α→Int
 | []=>0
 | a::l=>f a+suml f l
def bal (n:Nat) (u:Nat→Int) (d:Int) (os:List (Nat×Nat×Int)) (p:Nat):Int:=suml (fun o=>(if o.2.1=p then rs n u d o else 0)-(if o.1=p then rs n u d o else 0)) os
theorem suml_congr {α:Type} {f g:α→Int}:∀ {l:List α},(∀ a∈l,f a=g a)→suml f l=suml g l
 | [],_=>rfl
 | a::l,h=>by show f a+suml f l=g a+suml g l;rw [h a (by simp),suml_congr fun a ha=>h a (by simp [ha])]
theorem suml_mul {α:Type} (c:Int) (f:α→Int):∀ l:List α,suml (fun a=>c*f a) l=c*suml f l
 | []=>(Int.mul_zero c).symm
 | a::l=>by show c*f a+suml (fun a=>c*f a) l=c*(f a+suml f l);rw [suml_mul c f l,Int.mul_add]
theorem suml_nn {α:Type} {f:α→Int}:∀ {l:List α},(∀ a∈l,0≤f a)→0≤suml f l
 | [],_=>Int.le_refl _
 | a::l,h=>by have:=suml_nn (f:=f) (l:=l) fun a ha=>h a (by simp [ha]);have:=h a (by simp);show 0≤f a+suml f l;omega
theorem suml_zero {α:Type} {f:α→Int}:∀ {l:List α},(∀ a∈l,0≤f a)→suml f l=0→∀ a∈l,f a=0
 | a::l,h,h0,b,hb=>by
  have h1:=suml_nn (f:=f) (l:=l) fun a ha=>h a (by simp [ha])
  have h2:=h a (by simp)
  have h0:f a+suml f l=0:=h0
  rcases List.mem_cons.1 hb with rfl | hb
  ·omega
  ·exact suml_zero (fun a ha=>h a (by simp [ha])) (by omega) b hb
theorem suml_app {α:Type} (f:α→Int):∀ l m:List α,suml f (l++m)=suml f l+suml f m
 | [],m=>(Int.zero_add _).symm
 | a::l,m=>by show f a+suml f (l++m)=f a+suml f l+suml f m;rw [suml_app f l m];omega
theorem sm_pick (z:Nat→Int) (b:Nat) (r:Int):∀ n,sm n (fun p=>z p*(if b=p then r else 0))=gr n z b*r
 | 0=>by show (0:Int)=gr 0 z b*r;unfold gr;rw [if_neg (Nat.not_lt_zero _)];simp
 | n+1=>by
  show sm n (fun p=>z p*(if b=p then r else 0))+z n*(if b=n then r else 0)=gr (n+1) z b*r
  rw [sm_pick z b r n]
  unfold gr
  by_cases h1:b<n
  ·rw [if_pos h1,if_pos (show b<n+1 by omega),if_neg (show ¬ b=n by omega),Int.mul_zero,Int.add_zero]
  ·by_cases h2:b=n
   ·subst h2;rw [if_neg h1,if_pos (Nat.lt_succ_self _),if_pos rfl,Int.zero_mul,Int.zero_add]
   ·rw [if_neg h1,if_neg (show ¬ b<n+1 by omega),if_neg h2,Int.zero_mul,Int.mul_zero,Int.add_zero]
theorem sm_zz:∀ n,sm n (fun _=>(0:Int))=0
 | 0=>rfl
 | n+1=>by show sm n (fun _=>(0:Int))+0=0;rw [sm_zz n];rfl
theorem sum_bal (n:Nat) (z u:Nat→Int) (d:Int):∀ os:List (Nat×Nat×Int),sm n (fun p=>z p*bal n u d os p)=suml (fun o=>(gr n z o.2.1-gr n z o.1)*rs n u d o) os
 | []=>by
  show sm n (fun p=>z p*0)=0
  rw [sm_congr (g:=fun _=>(0:Int)) fun i _=>Int.mul_zero _,sm_zz]
 | o::os=>by
  show _=(gr n z o.2.1-gr n z o.1)*rs n u d o+suml (fun o=>(gr n z o.2.1-gr n z o.1)*rs n u d o) os
  rw [← sum_bal n z u d os]
  have e:∀ p,z p*bal n u d (o::os) p=(z p*(if o.2.1=p then rs n u d o else 0)+-(z p*(if o.1=p then rs n u d o else 0)))+z p*bal n u d os p:=fun p=>by
   show z p*(((if o.2.1=p then rs n u d o else 0)-(if o.1=p then rs n u d o else 0))+bal n u d os p)=_
   rw [Int.mul_add,Int.mul_sub];omega
  rw [sm_congr fun p _=>e p,sm_add,sm_add,sm_neg,sm_pick,sm_pick,Int.sub_mul];omega
def lin (n:Nat) (M:Mx) (col:Nat) (u:Nat→Int) (d:Int) (x:Nat):Int:=sm n (fun j=>M x j*u j)-d*M x col
def cl (col:Nat) (vx vy:Int):Int:=if col=8 then vx else vy
theorem lin_ad {n p q x col:Nat} {vx vy d:Int} {u:Nat→Int} {M:Mx} (hn:n≤8) (hx:x<n) (hpq:p≠q) (hcol:col=8∨col=9) :
  lin n (adM n p q vx vy M) col u d x=lin n M col u d x+if p=x then gr n u p-gr n u q-d*cl col vx vy else 0:=by
 unfold lin
 by_cases hp:p=x
 ·subst hp
  rw [if_pos rfl]
  have e1:sm n (fun j=>adM n p q vx vy M p j*u j)=sm n (fun j=>(M p j*u j+(if j=p then u p else 0))+(if j=q then -gr n u q else 0)):=sm_congr fun j hj=>by
   unfold adM gr
   rw [if_pos ⟨hx,rfl⟩,if_neg (show ¬ j=8 by omega),if_neg (show ¬ j=9 by omega)]
   by_cases a:j=p
   ·subst a
    rw [if_pos rfl,if_pos rfl,if_neg (by omega),if_neg (by omega)]
    grind
   ·by_cases b:j=q
    ·subst b
     rw [if_neg a,if_neg a,if_pos ⟨rfl,hj⟩,if_pos rfl,if_pos hj]
     grind
    ·rw [if_neg a,if_neg a,if_neg (by omega),if_neg b]
     grind
  have e2:adM n p q vx vy M p col=M p col+cl col vx vy:=by
   unfold adM cl
   rw [if_pos ⟨hx,rfl⟩]
   rcases hcol with h | h
   ·subst h
    rw [if_neg (by omega),if_pos rfl,if_neg (by omega),if_neg (by omega),if_pos rfl];omega
   ·subst h
    rw [if_neg (by omega),if_neg (by omega),if_pos rfl,if_neg (by omega),if_neg (by omega)];omega
  rw [e1,e2,sm_ind,sm_ind,if_pos hx]
  have:(if q<n then -gr n u q else 0)=-gr n u q:=by
   unfold gr;split<;>simp
  rw [this,Int.mul_add]
  show _=_+(gr n u p-_-_)
  have:gr n u p=u p:=by unfold gr;rw [if_pos hx]
  omega
 ·rw [if_neg hp,Int.add_zero]
  have e1:∀ j,adM n p q vx vy M x j=M x j:=fun j=>by unfold adM;rw [if_neg (by omega)]
  rw [sm_congr fun j _=>by rw [e1 j],e1]
theorem lin_ob {n a b x col:Nat} {dx dy d:Int} {u:Nat→Int} {M:Mx} (hn:n≤8) (hx:x<n) (hab:a≠b) (hcol:col=8∨col=9) :
  lin n (obM n a b dx dy M) col u d x=lin n M col u d x+((if b=x then rs n u d (a,b,cl col dx dy) else 0)-(if a=x then rs n u d (a,b,cl col dx dy) else 0)):=by
 unfold obM
 rw [lin_ad hn hx hab hcol,lin_ad hn hx (Ne.symm hab) hcol]
 have:cl col (-dx) (-dy)=-cl col dx dy:=by unfold cl;split<;>rfl
 rw [this]
 unfold rs
 dsimp only
 grind
def obF (n col:Nat) (f:Fix):Nat×Nat×Int:=(n,f.1.toNat,cl col f.2.1 f.2.2.1)
def obS (col:Nat) (s:Sgt):Nat×Nat×Int:=(s.1.toNat,s.2.1.toNat,cl col s.2.2.1 s.2.2.2.1)
def obL (c:Net) (col:Nat):List (Nat×Nat×Int):=c.2.1.map (obF c.1.toNat col)++c.2.2.map (obS col)
theorem bal_app (n:Nat) (u:Nat→Int) (d:Int) (l m:List (Nat×Nat×Int)) (p:Nat):bal n u d (l++m) p=bal n u d l p+bal n u d m p:=suml_app _ l m
theorem lin_bal {c:Net} (h:NOK c) {col:Nat} (hcol:col=8∨col=9) (u:Nat→Int) (d:Int) {x:Nat} (hx:x<c.1.toNat):lin c.1.toNat (nmA c) col u d x=bal c.1.toNat u d (obL c col) x:=by
 have h0:=h.n0
 have h8:=h.n8
 have hn:c.1.toNat≤8:=by omega
 unfold nmA nmF obL
 rw [bal_app]
 have e1:lin c.1.toNat (c.2.1.foldl (fxM c.1.toNat) fun _ _=>0) col u d x=bal c.1.toNat u d (c.2.1.map (obF c.1.toNat col)) x:=by
  have key:∀ (l:List Fix) (M:Mx),(∀ f∈l,f∈c.2.1)→lin c.1.toNat (l.foldl (fxM c.1.toNat) M) col u d x=lin c.1.toNat M col u d x+bal c.1.toNat u d (l.map (obF c.1.toNat col)) x:=by
   intro l
   induction l with
   | nil=>intro M _;exact (Int.add_zero _).symm
   | cons f l ih =>
    intro M hl
    have hf:=h.fx f (hl f (by simp))
    rw [List.foldl_cons,ih _ fun f hf=>hl f (by simp [hf])]
    have e:lin c.1.toNat (fxM c.1.toNat M f) col u d x=lin c.1.toNat M col u d x+((if (obF c.1.toNat col f).2.1=x then rs c.1.toNat u d (obF c.1.toNat col f) else 0)-(if (obF c.1.toNat col f).1=x then rs c.1.toNat u d (obF c.1.toNat col f) else 0)):=lin_ob hn hx (by omega) hcol
    rw [e]
    exact Int.add_assoc _ _ _
  rw [key _ _ fun f hf=>hf]
  have:lin c.1.toNat (fun _ _=>0) col u d x=0:=by
   unfold lin
   rw [sm_congr (g:=fun _=>(0:Int)) fun j _=>Int.zero_mul _,sm_zz];simp
  omega
 rw [← e1]
 have key:∀ (l:List Sgt) (M:Mx),(∀ s∈l,s∈c.2.2)→lin c.1.toNat (l.foldl (sgM c.1.toNat) M) col u d x=lin c.1.toNat M col u d x+bal c.1.toNat u d (l.map (obS col)) x:=by
  intro l
  induction l with
  | nil=>intro M _;exact (Int.add_zero _).symm
  | cons s l ih =>
   intro M hl
   have hs:=h.sg s (hl s (by simp))
   rw [List.foldl_cons,ih _ fun s hs=>hl s (by simp [hs])]
   have e:lin c.1.toNat (sgM c.1.toNat M s) col u d x=lin c.1.toNat M col u d x+((if (obS col s).2.1=x then rs c.1.toNat u d (obS col s) else 0)-(if (obS col s).1=x then rs c.1.toNat u d (obS col s) else 0)):=lin_ob hn hx (by omega) hcol
   rw [e]
   exact Int.add_assoc _ _ _
 exact key _ _ fun s hs=>hs
def zz (n c:Nat) (u:Nat→Int) (d:Int) (j:Nat):Int:=if j<n then u j else if j=c then -d else 0
theorem dot_zz {n c W:Nat} (f u:Nat→Int) (d:Int) (hc:n≤c) (hcW:c<W):dot W f (zz n c u d)=sm n (fun j=>f j*u j)+f c*-d:=by
 unfold dot
 rw [sm_part hc hcW fun j h1 h2 _=>by unfold zz;rw [if_neg (by omega),if_neg h2,Int.mul_zero]]
 congr 1
 ·refine sm_congr fun j hj=>?_
  unfold zz
  rw [if_pos hj]
 ·unfold zz
  rw [if_neg (by omega),if_pos rfl]
theorem sweep_inv {Q:Nat→Prop}:∀ {ss:List Sgt},(∀ s∈ss,(Q s.1.toNat↔Q s.2.1.toNat))→∀ {t:Nat→Bool},(∀ i,t i=true→Q i)→∀ i,sweep ss t i=true→Q i
 | [],_,_,ht,i,hi=>ht i hi
 | s::r,hs,t,ht,i,hi=>by
  refine sweep_inv (fun s' h'=>hs s' (List.mem_cons_of_mem _ h')) (t:=stepT t s) (fun j hj=>?_) i hi
  unfold stepT at hj
  simp only [Bool.or_eq_true,Bool.and_eq_true,decide_eq_true_eq] at hj
  have hc:=hs s (List.mem_cons_self ..)
  rcases hj with hj | ⟨h1 | h1,rfl | rfl⟩
  ·exact ht j hj
  ·exact ht _ h1
  ·exact hc.1 (ht _ h1)
  ·exact hc.2 (ht _ h1)
  ·exact ht _ h1
theorem tdR_inv {c:Net} {Q:Nat→Prop} (h1:∀ f∈c.2.1,Q f.1.toNat) (h2:∀ s∈c.2.2,(Q s.1.toNat↔Q s.2.1.toNat)):∀ k i,tdR c k i=true→Q i
 | 0,i,hi=>by
  have hi:t0 c.2.1 i=true:=hi
  unfold t0 at hi
  obtain ⟨f,hf,e⟩:=List.any_eq_true.1 hi
  have e:=of_decide_eq_true e
  rw [e]
  exact h1 f hf
 | k+1,i,hi=>sweep_inv h2 (tdR_inv h1 h2 k) i hi
theorem sweep_congr {n:Nat}:∀ {ss:List Sgt},(∀ s∈ss,s.1.toNat<n∧s.2.1.toNat<n)→∀ {t t':Nat→Bool},(∀ i,i<n→t i=t' i)→∀ i,i<n→sweep ss t i=sweep ss t' i
 | [],_,_,_,ht,i,hi=>ht i hi
 | s::r,hs,t,t',ht,i,hi=>by
  refine sweep_congr (fun s' h'=>hs s' (List.mem_cons_of_mem _ h')) (t:=stepT t s) (t':=stepT t' s) (fun j hj=>?_) i hi
  have hc:=hs s (List.mem_cons_self ..)
  unfold stepT
  rw [ht j hj,ht _ hc.1,ht _ hc.2]
def cnt (t:Nat→Bool):Nat→Nat
 | 0=>0
 | n+1=>cnt t n+if t n=true then 1 else 0
theorem cnt_le {t t':Nat→Bool} (h:∀ i,t i=true→t' i=true):∀ n,cnt t n≤cnt t' n
 | 0=>Nat.le_refl _
 | n+1=>by
  have:=cnt_le h n
  have:=h n
  show cnt t n+_≤cnt t' n+_
  split
  ·rw [if_pos (this (by assumption))];omega
  ·split<;>omega
theorem cnt_lt {t t':Nat→Bool} (h:∀ i,t i=true→t' i=true) {j:Nat} (h1:t j=false) (h2:t' j=true):∀ n,j<n→cnt t n+1≤cnt t' n
 | n+1,hj=>by
  show cnt t n+_+1≤cnt t' n+_
  by_cases e:j=n
  ·subst e
   rw [if_neg (by rw [h1];decide),if_pos h2]
   have:=cnt_le h j
   omega
  ·have:=cnt_lt h h1 h2 n (by omega)
   have:=h n
   split
   ·rw [if_pos (this (by assumption))];omega
   ·split<;>omega
theorem cnt_max (t:Nat→Bool):∀ n,cnt t n≤n
 | 0=>Nat.le_refl _
 | n+1=>by
  have:=cnt_max t n
  show cnt t n+_≤_
  split<;>omega
theorem cnt_all {t:Nat→Bool}:∀ {n:Nat},cnt t n=n→∀ i,i<n→t i=true
 | n+1,h,i,hi=>by
  have h:cnt t n+(if t n=true then 1 else 0)=n+1:=h
  have:=cnt_max t n
  by_cases hn:t n=true
  ·rw [if_pos hn] at h
   by_cases e:i=n
   ·subst e;exact hn
   ·exact cnt_all (n:=n) (by omega) i (by omega)
  ·rw [if_neg hn] at h;omega
theorem sg_in {c:Net} (h:NOK c):∀ s∈c.2.2,s.1.toNat<c.1.toNat∧s.2.1.toNat<c.1.toNat:=fun s hs=>by
 have:=h.sg s hs
 omega
theorem stable_on {c:Net} (h:NOK c) {j:Nat} (hj:∀ i,i<c.1.toNat→tdR c (j+1) i=tdR c j i):∀ k,j≤k→∀ i,i<c.1.toNat→tdR c k i=tdR c j i:=by
 intro k
 induction k with
 | zero =>
  intro hk i hi
  have:j=0:=by omega
  subst this;rfl
 | succ k ih =>
  intro hk i hi
  by_cases e:j=k+1
  ·subst e;rfl
  ·have e1:tdR c (k+1) i=sweep c.2.2 (tdR c k) i:=rfl
   rw [e1,sweep_congr (sg_in h) (ih (by omega)) i hi]
   exact hj i hi
theorem td_closed {c:Net} (h:NOK c) {s:Sgt} (hs:s∈c.2.2):td c s.1.toNat=true↔td c s.2.1.toNat=true:=by
 by_cases hst:∃ j,j<c.1.toNat∧∀ i,i<c.1.toNat→tdR c (j+1) i=tdR c j i
 ·obtain ⟨j,hj,hst⟩:=hst
  have he:=stable_on h hst c.1.toNat (by omega)
  have hi:=sg_in h s hs
  have ha:∀ {i},i<c.1.toNat→tdR c (j+1) i=true→td c i=true:=fun hi h'=>by
   unfold td
   rw [he _ hi,← hst _ hi];exact h'
  constructor
  ·intro h1
   unfold td at h1
   rw [he _ hi.1] at h1
   exact ha hi.2 (sweep_adds hs (.inl h1)).2
  ·intro h1
   unfold td at h1
   rw [he _ hi.2] at h1
   exact ha hi.1 (sweep_adds hs (.inr h1)).1
 ·have hk:∀ k,k≤c.1.toNat→k≤cnt (tdR c k) c.1.toNat:=by
   intro k
   induction k with
   | zero=>intro _;omega
   | succ k ih =>
    intro hk
    have:=ih (by omega)
    obtain ⟨i,hi⟩:=Classical.not_forall.1 fun ha=>hst ⟨k,by omega,ha⟩
    obtain ⟨hi,hne⟩:=Classical.not_imp.1 hi
    have hm:∀ i,tdR c k i=true→tdR c (k+1) i=true:=fun i hi=>tdR_mono (by omega) hi
    have h1:tdR c k i=false:=by
     cases e:tdR c k i with
     | false=>rfl
     | true=>rw [e,hm i e] at hne;exact absurd rfl hne
    have h2:tdR c (k+1) i=true:=by
     cases e:tdR c (k+1) i with
     | true=>rfl
     | false=>rw [e,h1] at hne;exact absurd rfl hne
    have:=cnt_lt hm h1 h2 c.1.toNat hi
    omega
  have:=hk c.1.toNat (by omega)
  have hm:=cnt_max (tdR c c.1.toNat) c.1.toNat
  have hall:=cnt_all (t:=td c) (n:=c.1.toNat) (by unfold td;omega)
  have hi:=sg_in h s hs
  exact ⟨fun _=>hall _ hi.2,fun _=>hall _ hi.1⟩
theorem td_fix {c:Net} {f:Fix} (hf:f∈c.2.1):td c f.1.toNat=true:=by
 unfold td
 refine tdR_mono (Nat.zero_le _) ?_
 show t0 c.2.1 f.1.toNat=true
 unfold t0
 exact List.any_eq_true.2 ⟨f,hf,dT rfl⟩
theorem mem_obL {c:Net} {col:Nat} {o:Nat×Nat×Int} (ho:o∈obL c col):(∃ f∈c.2.1,o=obF c.1.toNat col f)∨∃ s∈c.2.2,o=obS col s:=by
 rcases List.mem_append.1 ho with h | h
 ·obtain ⟨f,hf,rfl⟩:=List.mem_map.1 h;exact .inl ⟨f,hf,rfl⟩
 ·obtain ⟨s,hs,rfl⟩:=List.mem_map.1 h;exact .inr ⟨s,hs,rfl⟩
theorem gr_g (n:Nat) (u:Nat→Int):gr n u n=0:=by unfold gr;rw [if_neg (Nat.lt_irrefl _)]
theorem reg_of_tied {c:Net} (h:NOK c) (hL:Lap8 (nmA c) c.1.toNat 10 480000 (dgN (nmA c))) (ht:∀ i,i<c.1.toNat→td c i=true):regN c:=by
 intro k
 induction k using Nat.strongRecOn with
 | _ k ih =>
  intro hk hd
  obtain ⟨b,l,z,d⟩:=run_ok8 hL k (by omega) fun l hl=>ih l hl (by omega)
  have h8:=h.n8
  -- the kernel of the leading rows
  have hz:∀ r,r≤k→sm c.1.toNat (fun j=>nmA c r j*zv (nmA c) k k j)=0:=fun r hr=>by
   have e:=dot_zv_A (A:=nmA c) (W:=10) r (Nat.le_refl k) (by omega)
   have e0:mn (nmA c) k r k=0:=by
    by_cases hrk:r<k
    ·exact mn_zero hrk
    ·have:r=k:=by omega
     subst this
     have e1:mn (nmA c) r r r=del (nmA c) (r+1):=by
      unfold mn del
      congr 1
      funext i j
      congr 1<;>(split<;>omega)
     rw [e1];exact hd
   rw [e0] at e
   have hx:∀ j,k+1≤j→j<10→nmA c r j*zv (nmA c) k k j=0:=fun j h1 h2=>by
    unfold zv
    rw [if_neg (by omega),if_neg (by omega),Int.mul_zero]
   unfold dot at e
   rw [sm_ext 10 (by omega) hx] at e
   rw [sm_ext c.1.toNat (by omega) fun j h1 h2=>hx j h1 (by omega)]
   simpa using e
  have hb:sm c.1.toNat (fun p=>zv (nmA c) k k p*bal c.1.toNat (zv (nmA c) k k) 0 (obL c 8) p)=0:=by
   refine sm_zero fun p hp=>?_
   by_cases hpk:p≤k
   ·rw [← lin_bal h (.inl rfl) _ _ hp]
    unfold lin
    rw [hz p hpk];simp
   ·have:zv (nmA c) k k p=0:=by unfold zv;rw [if_neg (by omega),if_neg (by omega)]
    rw [this,Int.zero_mul]
  rw [sum_bal] at hb
  have hrs:∀ o,rs c.1.toNat (zv (nmA c) k k) 0 o=gr c.1.toNat (zv (nmA c) k k) o.2.1-gr c.1.toNat (zv (nmA c) k k) o.1:=fun o=>by unfold rs;omega
  have hall:=suml_zero (l:=obL c 8) (fun o _=>by
   rw [hrs]
   generalize gr c.1.toNat (zv (nmA c) k k) o.2.1-gr c.1.toNat (zv (nmA c) k k) o.1=x
   rcases Int.le_total 0 x with hx | hx
   ·exact Int.mul_nonneg hx hx
   ·exact Int.mul_nonneg_of_nonpos_of_nonpos hx hx) hb
  have heq:∀ o∈obL c 8,gr c.1.toNat (zv (nmA c) k k) o.2.1=gr c.1.toNat (zv (nmA c) k k) o.1:=fun o ho=>by
   have:=hall o ho
   rw [hrs] at this
   rcases Int.mul_eq_zero.1 this with h | h<;>omega
  have hQ:=tdR_inv (c:=c) (Q:=fun p=>gr c.1.toNat (zv (nmA c) k k) p=0) (fun f hf=>by
   have:=heq (obF c.1.toNat 8 f) (List.mem_append.2 (.inl (List.mem_map.2 ⟨f,hf,rfl⟩)))
   rw [show (obF c.1.toNat 8 f).1=c.1.toNat from rfl,gr_g] at this
   exact this) (fun s hs=>by
   have:=heq (obS 8 s) (List.mem_append.2 (.inr (List.mem_map.2 ⟨s,hs,rfl⟩)))
   have this:gr c.1.toNat (zv (nmA c) k k) s.2.1.toNat=gr c.1.toNat (zv (nmA c) k k) s.1.toNat:=this
   show gr c.1.toNat (zv (nmA c) k k) s.1.toNat=0↔gr c.1.toNat (zv (nmA c) k k) s.2.1.toNat=0
   rw [this]) c.1.toNat k (ht k hk)
  have hQ:gr c.1.toNat (zv (nmA c) k k) k=0:=hQ
  unfold gr zv at hQ
  rw [if_pos hk,if_neg (Nat.lt_irrefl _),if_pos rfl] at hQ
  omega
theorem tied_of_reg {c:Net} (h:NOK c) (hL:Lap8 (nmA c) c.1.toNat 10 480000 (dgN (nmA c))) (hr:regN c):∀ i,i<c.1.toNat→td c i=true:=by
 intro i hi
 have h8:=h.n8
 cases ht:td c i with
 | true=>rfl
 | false =>
  exfalso
  obtain ⟨b,l,z,d⟩:=run_ok8 hL c.1.toNat (Nat.le_refl _) hr
  have hu:∃ u:Nat→Int,u=fun p=>if td c p=true then 0 else 1:=⟨_,rfl⟩
  obtain ⟨u,hu⟩:=hu
  have hrs:∀ o∈obL c 8,rs c.1.toNat u 0 o=0:=fun o ho=>by
   rcases mem_obL ho with ⟨f,hf,rfl⟩ | ⟨s,hs,rfl⟩
   ·unfold rs
    have e1:gr c.1.toNat u (obF c.1.toNat 8 f).2.1=0:=by
     show gr c.1.toNat u f.1.toNat=0
     unfold gr
     rw [hu]
     simp only
     rw [if_pos (td_fix hf)];split<;>rfl
    rw [e1,show (obF c.1.toNat 8 f).1=c.1.toNat from rfl,gr_g];omega
   ·have hi:=sg_in h s hs
    have hc:=td_closed h hs
    unfold rs
    show gr c.1.toNat u s.2.1.toNat-gr c.1.toNat u s.1.toNat-0*_=0
    unfold gr
    rw [if_pos hi.1,if_pos hi.2,hu]
    simp only
    by_cases ha:td c s.1.toNat=true
    ·rw [if_pos ha,if_pos (hc.1 ha)];omega
    ·rw [if_neg ha,if_neg fun h'=>ha (hc.2 h')];omega
  have hbal:∀ p,bal c.1.toNat u 0 (obL c 8) p=0:=fun p=>by
   unfold bal
   rw [suml_congr (g:=fun _=>0*0) fun o ho=>by rw [hrs o ho];split<;>split<;>rfl,suml_mul];omega
  have hA:∀ r,r<c.1.toNat→dot 10 (nmA c r) (zz c.1.toNat 8 u 0)=0:=fun r hr=>by
   rw [dot_zz _ _ _ (by omega) (by omega)]
   have e:=lin_bal h (.inl rfl) u 0 hr
   rw [hbal] at e
   unfold lin at e
   omega
  have hm:=b.up _ hA i hi
  rw [dot_zz _ _ _ (by omega) (by omega)] at hm
  have e4:sm c.1.toNat (fun j=>stt (nmA c) c.1.toNat c.1.toNat i j*u j)=del (nmA c) c.1.toNat*u i:=by
   rw [← sm_one (k:=c.1.toNat) (d:=del (nmA c) c.1.toNat) (g:=u) hi]
   exact sm_congr fun j hj=>by rw [b.su i j hi hj]
  have hui:u i=1:=by rw [hu];simp only;rw [if_neg (by rw [ht];decide)]
  rw [e4,hui] at hm
  omega
theorem tb_set {n i j:Nat} {T:Nat→Nat→Int} (h:i<n) (hj:j<n) (y:Int):set2M (rt n (fun _=>n) T) (i:Int) (j:Int) (fun _=>some y)=some (rt n (fun _=>n) (upd T i j y)):=rt_set h hj rfl
theorem fx_at {n p:Nat} {dx dy:Int} {M:Mx} (hp:p<n) (i j:Nat):obM n n p dx dy M i j=if i=p then M i j+(if j=p then 1 else 0)+(if j=8 then dx else 0)+(if j=9 then dy else 0) else M i j:=by
 unfold obM adM
 rw [if_neg (by omega)]
 by_cases e:i=p
 ·rw [if_pos ⟨hp,e⟩,if_pos e,if_neg (show ¬ (j=n∧n<n) by omega),Int.sub_zero]
 ·rw [if_neg (by omega),if_neg e]
theorem sg_at {n a b:Nat} {dx dy:Int} {M:Mx} (ha:a<n) (hb:b<n) (hab:a≠b) (i j:Nat):obM n a b dx dy M i j=if i=a then M i j+(if j=a then 1 else 0)+(if j=8 then -dx else 0)+(if j=9 then -dy else 0)-(if j=b then 1 else 0) else if i=b then M i j+(if j=b then 1 else 0)+(if j=8 then dx else 0)+(if j=9 then dy else 0)-(if j=a then 1 else 0) else M i j:=by
 have e1:∀ q,q<n→(if j=q∧q<n then (1:Int) else 0)=if j=q then 1 else 0:=fun q hq=>by
  by_cases e:j=q
  ·rw [if_pos ⟨e,hq⟩,if_pos e]
  ·rw [if_neg (fun h=>e h.1),if_neg e]
 unfold obM adM
 rw [e1 a ha,e1 b hb]
 by_cases e:i=a
 ·rw [if_pos ⟨ha,e⟩,if_pos e,if_neg (by omega)]
 ·rw [if_neg (by omega),if_neg e]
  by_cases e2:i=b
  ·rw [if_pos ⟨hb,e2⟩,if_pos e2]
  ·rw [if_neg (by omega),if_neg e2]
theorem zBd:Bd 0 (fun _ _=>0):=fun _ _=>⟨by show (-0:Int)≤0;omega,by show (0:Int)≤0;omega⟩
theorem mk_fix {c:Net} (h:NOK c):loopM (fun (s:Int×List (List Int)×List Int×List Int)=>bif
 ltM s.1 (lenM c.2.1) then (idxM c.2.1 s.1).bind fun r_5=>(chkM r_5.1 (lenM s.2.1)).bind fun r_6=>(chkM r_5.1 (lenM s.2.1)).bind fun r_7=>((idxM s.2.1
 r_5.1).bind fun (xs:List Int)=>chkM r_5.1 (lenM xs)).bind fun r_8=>((idxM s.2.1 r_5.1).bind fun (xs:List Int)=>(idxM xs r_5.1).bind fun (x:Int) =>
 some x).bind fun r_9=>((idxM s.2.1 r_5.1).bind fun (xs:List Int)=>chkM r_5.1 (lenM xs)).bind fun r_10=>(set2M s.2.1 r_5.1 r_5.1 fun (x:Int)=>some
 (IntKind.wrap .i64 (r_9+1))).bind fun r_11=>(chkM r_5.1 (lenM s.2.2.1)).bind fun r_12=>(idxM s.2.2.1 r_5.1).bind fun r_13=>(chkM r_5.1 (lenM
 s.2.2.1)).bind fun r_14=>(setM s.2.2.1 r_5.1 fun (x:Int)=>some (IntKind.wrap .i64 (r_13+r_5.2.1))).bind fun r_15=>(chkM r_5.1 (lenM s.2.2.2)).bind
 fun r_16=>(idxM s.2.2.2 r_5.1).bind fun r_17=>(chkM r_5.1 (lenM s.2.2.2)).bind fun r_18=>(setM s.2.2.2 r_5.1 fun (x:Int)=>some (IntKind.wrap IntKind.i64
 (r_17+r_5.2.2.1))).bind fun r=>some (Sum.inl (IntKind.wrap .i64 (s.1+1),r_11,r_15,r)) else some (Sum.inr (s.2.1,s.2.2.1,s.2.2.2)))
  (0,rt c.1.toNat (fun _=>c.1.toNat) (fun _ _=>0),row c.1.toNat (fun _=>0),row c.1.toNat fun _=>0)=some (rt c.1.toNat (fun _=>c.1.toNat) (nmF c.1.toNat c.2.1),row c.1.toNat (fun i=>nmF c.1.toNat c.2.1 i 8),row c.1.toNat fun i=>nmF c.1.toNat c.2.1 i 9):=by
 have h0:=h.n0
 have h8:=h.n8
 have hl:=h.fl
 generalize hn:c.1.toNat=n
 unfold nmF
 refine count_loop (fun k=>(rt n (fun _=>n) ((c.2.1.take k).foldl (fxM n) fun _ _=>0),row n (fun i=>((c.2.1.take k).foldl (fxM n) fun _ _=>0) i 8),row n fun i=>((c.2.1.take k).foldl (fxM n) fun _ _=>0) i 9)) c.2.1.length (fun k hk=>?_) ?_
 ·have hm:=h.fx _ (List.getElem_mem hk)
  have hb:=fold_bd (fxM n) (c.2.1.take k) (fun f hf=>by rw [← hn];exact fx_bd h f (List.mem_of_mem_take hf)) zBd
  have hlk:(c.2.1.take k).length≤8:=by rw [List.length_take];omega
  have e:((c.2.1.take (k+1)).foldl (fxM n) fun _ _=>0)=fxM n ((c.2.1.take k).foldl (fxM n) fun _ _=>0) c.2.1[k]:=by
   rw [List.take_succ_eq_append_getElem hk,List.foldl_append];rfl
  dsimp only
  rw [ltI (by show (k:Int)<(c.2.1.length:Int);omega),cT,idxM_lt hk,oB,e]
  generalize (c.2.1.take k).foldl (fxM n) (fun _ _=>0)=M at *
  generalize c.2.1[k]=f at *
  obtain ⟨p,hp⟩:∃ p:Nat,f.1=p:=⟨f.1.toNat,by omega⟩
  have hpn:p<n:=by omega
  have w1:IntKind.wrap .i64 (M p p+1)=M p p+1:=wrap_in (by have:=hb p p;omega) (by have:=hb p p;omega)
  have w2:IntKind.wrap .i64 (M p 8+f.2.1)=M p 8+f.2.1:=wrap_in (by have:=hb p 8;omega) (by have:=hb p 8;omega)
  have w3:IntKind.wrap .i64 (M p 9+f.2.2.1)=M p 9+f.2.2.1:=wrap_in (by have:=hb p 9;omega) (by have:=hb p 9;omega)
  have w4:IntKind.wrap .i64 ((k:Int)+1)=(k:Int)+1:=wrap_in (by omega) (by omega)
  have ep:f.1.toNat=p:=by omega
  have eT:rt n (fun _=>n) (upd M p p (M p p+1))=rt n (fun _=>n) (fxM n M f):=rt_congr (fun _ _=>rfl) fun i j hi hj=>by
   unfold fxM
   rw [ep,fx_at hpn]
   unfold upd
   have j8:j<n:=hj
   by_cases e1:i=p
   ·subst e1
    rw [if_pos rfl,if_neg (show ¬ j=8 by omega),if_neg (show ¬ j=9 by omega)]
    by_cases e2:j=i
    ·subst e2;rw [if_pos ⟨rfl,rfl⟩,if_pos rfl];omega
    ·rw [if_neg (fun h=>e2 h.2),if_neg e2];omega
   ·rw [if_neg (fun h=>e1 h.1),if_neg e1]
  have eX:(row n fun a=>if a=p then M p 8+f.2.1 else M a 8)=row n fun i=>fxM n M f i 8:=row_congr fun i hi=>by
   unfold fxM
   rw [ep,fx_at hpn]
   by_cases e1:i=p
   ·subst e1;rw [if_pos rfl,if_pos rfl,if_neg (by omega),if_pos rfl,if_neg (by omega)];omega
   ·rw [if_neg e1,if_neg e1]
  have eY:(row n fun a=>if a=p then M p 9+f.2.2.1 else M a 9)=row n fun i=>fxM n M f i 9:=row_congr fun i hi=>by
   unfold fxM
   rw [ep,fx_at hpn]
   by_cases e1:i=p
   ·subst e1;rw [if_pos rfl,if_pos rfl,if_neg (by omega),if_neg (by omega),if_pos rfl];omega
   ·rw [if_neg e1,if_neg e1]
  simp only [hp,chk_rt hpn,rt_idx hpn,chk_row hpn,row_idx hpn,oB,w1,w2,w3,w4,tb_set hpn hpn,set_rowA hpn]
  rw [eT,eX,eY]
 ·dsimp only
  rw [geI (by show (c.2.1.length:Int)≤(c.2.1.length:Int);omega),cF,List.take_length]
theorem mk_sgt {c:Net} (h:NOK c):loopM (fun (s:Int×List (List Int)×List Int×List Int)=>bif ltM s.1 (lenM c.2.2) then (idxM c.2.2 s.1).bind fun r_5=>(chkM
 r_5.1 (lenM s.2.1)).bind fun r_6=>(chkM r_5.1 (lenM s.2.1)).bind fun r_7=>((idxM s.2.1 r_5.1).bind fun (xs:List Int)=>chkM r_5.1 (lenM xs)).bind fun
 r_8=>((idxM s.2.1 r_5.1).bind fun (xs:List Int)=>(idxM xs r_5.1).bind fun (x:Int)=>some x).bind fun r_9=>((idxM s.2.1 r_5.1).bind fun (xs:List
 Int)=>chkM r_5.1 (lenM xs)).bind fun r_10=>(set2M s.2.1 r_5.1 r_5.1 fun (x:Int)=>some (IntKind.wrap .i64 (r_9+1))).bind fun r_11=>(chkM r_5.2.1
 (lenM r_11)).bind fun r_12=>(chkM r_5.2.1 (lenM r_11)).bind fun r_13=>((idxM r_11 r_5.2.1).bind fun (xs:List Int)=>chkM r_5.2.1 (lenM xs)).bind fun
 r_14=>((idxM r_11 r_5.2.1).bind fun (xs:List Int)=>(idxM xs r_5.2.1).bind fun (x:Int)=>some x).bind fun r_15=>((idxM r_11 r_5.2.1).bind fun (xs :
 List Int)=>chkM r_5.2.1 (lenM xs)).bind fun r_16=>(set2M r_11 r_5.2.1 r_5.2.1 fun (x:Int)=>some (IntKind.wrap .i64 (r_15+1))).bind fun r_17=>(chkM
 r_5.1 (lenM r_17)).bind fun r_18=>(chkM r_5.1 (lenM r_17)).bind fun r_19=>((idxM r_17 r_5.1).bind fun (xs:List Int)=>chkM r_5.2.1 (lenM xs)).bind fun
 r_20=>((idxM r_17 r_5.1).bind fun (xs:List Int)=>(idxM xs r_5.2.1).bind fun (x:Int)=>some x).bind fun r_21=>((idxM r_17 r_5.1).bind fun (xs:List
 Int)=>chkM r_5.2.1 (lenM xs)).bind fun r_22=>(set2M r_17 r_5.1 r_5.2.1 fun (x:Int)=>some (IntKind.wrap .i64 (r_21-1))).bind fun r_23=>(chkM r_5.2.1
 (lenM r_23)).bind fun r_24=>(chkM r_5.2.1 (lenM r_23)).bind fun r_25=>((idxM r_23 r_5.2.1).bind fun (xs:List Int)=>chkM r_5.1 (lenM xs)).bind fun r_26
 => ((idxM r_23 r_5.2.1).bind fun (xs:List Int)=>(idxM xs r_5.1).bind fun (x:Int)=>some x).bind fun r_27=>((idxM r_23 r_5.2.1).bind fun (xs:List
 Int)=>chkM r_5.1 (lenM xs)).bind fun r_28=>(set2M r_23 r_5.2.1 r_5.1 fun (x:Int)=>some (IntKind.wrap .i64 (r_27-1))).bind fun r_29=>(chkM r_5.2.1
 (lenM s.2.2.1)).bind fun r_30=>(idxM s.2.2.1 r_5.2.1).bind fun r_31=>(chkM r_5.2.1 (lenM s.2.2.1)).bind fun r_32=>(setM s.2.2.1 r_5.2.1 fun (x:Int) =>
 some (IntKind.wrap .i64 (r_31+r_5.2.2.1))).bind fun r_33=>(chkM r_5.2.1 (lenM s.2.2.2)).bind fun r_34=>(idxM s.2.2.2 r_5.2.1).bind fun r_35=>(chkM
 r_5.2.1 (lenM s.2.2.2)).bind fun r_36=>(setM s.2.2.2 r_5.2.1 fun (x:Int)=>some (IntKind.wrap .i64 (r_35+r_5.2.2.2.1))).bind fun r_37=>(chkM r_5.1
 (lenM r_33)).bind fun r_38=>(idxM r_33 r_5.1).bind fun r_39=>(chkM r_5.1 (lenM r_33)).bind fun r_40=>(setM r_33 r_5.1 fun (x:Int)=>some (IntKind.wrap
 IntKind.i64 (r_39-r_5.2.2.1))).bind fun r_41=>(chkM r_5.1 (lenM r_37)).bind fun r_42=>(idxM r_37 r_5.1).bind fun r_43=>(chkM r_5.1 (lenM r_37)).bind
 fun r_44=>(setM r_37 r_5.1 fun (x:Int)=>some (IntKind.wrap .i64 (r_43-r_5.2.2.2.1))).bind fun r=>some (Sum.inl (IntKind.wrap .i64 (s.1+1),r_29,
 r_41,r)) else some (Sum.inr (s.2.1,s.2.2.1,s.2.2.2)))
  (0,rt c.1.toNat (fun _=>c.1.toNat) (nmF c.1.toNat c.2.1),row c.1.toNat (fun i=>nmF c.1.toNat c.2.1 i 8),row c.1.toNat fun i=>nmF c.1.toNat c.2.1 i 9)=some (rt c.1.toNat (fun _=>c.1.toNat) (nmA c),row c.1.toNat (fun i=>nmA c i 8),row c.1.toNat fun i=>nmA c i 9):=by
 have h0:=h.n0
 have h8:=h.n8
 have hl:=h.sl
 have hfl:=h.fl
 have hz:Bd 800000 (nmF c.1.toNat c.2.1):=by
  have:=fold_bd (fxM c.1.toNat) c.2.1 (fun f hf=>fx_bd h f hf) zBd
  intro i j
  have:=this i j
  unfold nmF
  omega
 unfold nmA
 generalize nmF c.1.toNat c.2.1=M0 at *
 generalize hn:c.1.toNat=n
 refine count_loop (fun k=>(rt n (fun _=>n) ((c.2.2.take k).foldl (sgM n) M0),row n (fun i=>((c.2.2.take k).foldl (sgM n) M0) i 8),row n fun i=>((c.2.2.take k).foldl (sgM n) M0) i 9)) c.2.2.length (fun k hk=>?_) ?_
 ·have hm:=h.sg _ (List.getElem_mem hk)
  have hb:=fold_bd (sgM n) (c.2.2.take k) (fun f hf=>by rw [← hn];exact sg_bd h f (List.mem_of_mem_take hf)) hz
  have hlk:(c.2.2.take k).length≤20:=by rw [List.length_take];omega
  have e:(c.2.2.take (k+1)).foldl (sgM n) M0=sgM n ((c.2.2.take k).foldl (sgM n) M0) c.2.2[k]:=by
   rw [List.take_succ_eq_append_getElem hk,List.foldl_append];rfl
  dsimp only
  rw [ltI (by show (k:Int)<(c.2.2.length:Int);omega),cT,idxM_lt hk,oB,e]
  generalize (c.2.2.take k).foldl (sgM n) M0=M at *
  generalize c.2.2[k]=f at *
  obtain ⟨a,ha⟩:∃ a:Nat,f.1=a:=⟨f.1.toNat,by omega⟩
  obtain ⟨b,hb'⟩:∃ b:Nat,f.2.1=b:=⟨f.2.1.toNat,by omega⟩
  have han:a<n:=by omega
  have hbn:b<n:=by omega
  have hab:¬ a=b:=by omega
  have hba:¬ b=a:=by omega
  have w1:IntKind.wrap .i64 (M a a+1)=M a a+1:=wrap_in (by have:=hb a a;omega) (by have:=hb a a;omega)
  have w2:IntKind.wrap .i64 (M b b+1)=M b b+1:=wrap_in (by have:=hb b b;omega) (by have:=hb b b;omega)
  have w3:IntKind.wrap .i64 (M a b-1)=M a b-1:=wrap_in (by have:=hb a b;omega) (by have:=hb a b;omega)
  have w4:IntKind.wrap .i64 (M b a-1)=M b a-1:=wrap_in (by have:=hb b a;omega) (by have:=hb b a;omega)
  have w5:IntKind.wrap .i64 (M b 8+f.2.2.1)=M b 8+f.2.2.1:=wrap_in (by have:=hb b 8;omega) (by have:=hb b 8;omega)
  have w6:IntKind.wrap .i64 (M b 9+f.2.2.2.1)=M b 9+f.2.2.2.1:=wrap_in (by have:=hb b 9;omega) (by have:=hb b 9;omega)
  have w7:IntKind.wrap .i64 (M a 8-f.2.2.1)=M a 8-f.2.2.1:=wrap_in (by have:=hb a 8;omega) (by have:=hb a 8;omega)
  have w8:IntKind.wrap .i64 (M a 9-f.2.2.2.1)=M a 9-f.2.2.2.1:=wrap_in (by have:=hb a 9;omega) (by have:=hb a 9;omega)
  have w9:IntKind.wrap .i64 ((k:Int)+1)=(k:Int)+1:=wrap_in (by omega) (by omega)
  have u1:∀ v,upd M a a v b b=M b b:=fun v=>by unfold upd;rw [if_neg (by omega)]
  have u2:∀ v w,upd (upd M a a v) b b w a b=M a b:=fun v w=>by unfold upd;rw [if_neg (by omega),if_neg (by omega)]
  have u3:∀ v w z,upd (upd (upd M a a v) b b w) a b z b a=M b a:=fun v w z=>by unfold upd;rw [if_neg (by omega),if_neg (by omega),if_neg (by omega)]
  have x1:∀ (g:Nat→Int) (v:Int),(if a=b then v else g a)=g a:=fun g v=>if_neg hab
  have ea:f.1.toNat=a:=by omega
  have eb:f.2.1.toNat=b:=by omega
  have eT:rt n (fun _=>n) (upd (upd (upd (upd M a a (M a a+1)) b b (M b b+1)) a b (M a b-1)) b a (M b a-1))=rt n (fun _=>n) (sgM n M f):=rt_congr (fun _ _=>rfl) fun i j hi hj=>by
   have j8:j<n:=hj
   unfold sgM
   rw [ea,eb,sg_at han hbn hab,if_neg (show ¬ j=8 by omega),if_neg (show ¬ j=9 by omega),if_neg (show ¬ j=8 by omega),if_neg (show ¬ j=9 by omega)]
   unfold upd
   by_cases i1:i=a
   ·subst i1
    by_cases j1:j=i
    ·subst j1
     rw [if_neg (by omega),if_neg (by omega),if_neg (by omega),if_pos ⟨rfl,rfl⟩,if_pos rfl,if_pos rfl,if_neg (by omega)];omega
    ·by_cases j2:j=b
     ·subst j2
      rw [if_neg (by omega),if_pos ⟨rfl,rfl⟩,if_pos rfl,if_neg (by omega),if_pos rfl];omega
     ·rw [if_neg (by omega),if_neg (by omega),if_neg (by omega),if_neg (by omega),if_pos rfl,if_neg j1,if_neg j2];omega
   ·by_cases i2:i=b
    ·subst i2
     by_cases j1:j=i
     ·subst j1
      rw [if_neg (by omega),if_neg (by omega),if_pos ⟨rfl,rfl⟩,if_neg (by omega),if_pos rfl,if_pos rfl,if_neg (by omega)];omega
     ·by_cases j2:j=a
      ·subst j2
       rw [if_pos ⟨rfl,rfl⟩,if_neg (by omega),if_pos rfl,if_neg (by omega),if_pos rfl];omega
      ·rw [if_neg (by omega),if_neg (by omega),if_neg (by omega),if_neg (by omega),if_neg (by omega),if_pos rfl,if_neg j1,if_neg j2];omega
    ·rw [if_neg (by omega),if_neg (by omega),if_neg (by omega),if_neg (by omega),if_neg i1,if_neg i2]
  have eC:∀ (k:Nat) (d:Int),(k=8∧d=f.2.2.1)∨(k=9∧d=f.2.2.2.1)→(row n fun i=>if i=a then M a k-d else if i=b then M b k+d else M i k)=row n fun i=>sgM n M f i k:=fun k d hk=>row_congr fun i hi=>by
   unfold sgM
   rw [ea,eb,sg_at han hbn hab,if_neg (show ¬ k=a by omega),if_neg (show ¬ k=b by omega)]
   by_cases i1:i=a
   ·subst i1
    rw [if_pos rfl,if_pos rfl]
    rcases hk with ⟨rfl,rfl⟩ | ⟨rfl,rfl⟩
    ·rw [if_pos rfl,if_neg (by omega)];omega
    ·rw [if_neg (by omega),if_pos rfl];omega
   ·rw [if_neg i1,if_neg i1]
    by_cases i2:i=b
    ·subst i2
     rw [if_pos rfl,if_pos rfl]
     rcases hk with ⟨rfl,rfl⟩ | ⟨rfl,rfl⟩
     ·rw [if_pos rfl,if_neg (by omega)];omega
     ·rw [if_neg (by omega),if_pos rfl];omega
    ·rw [if_neg i2,if_neg i2]
  have eX:=eC 8 f.2.2.1 (.inl ⟨rfl,rfl⟩)
  have eY:=eC 9 f.2.2.2.1 (.inr ⟨rfl,rfl⟩)
  simp only [ha,hb',chk_rt han,chk_rt hbn,rt_idx han,rt_idx hbn,chk_row han,chk_row hbn,row_idx han,row_idx hbn,oB,u1,u2,u3,hab,if_false,w1,w2,w3,w4,w5,w6,w7,w8,w9,tb_set han han,tb_set hbn hbn,tb_set han hbn,tb_set hbn han,set_rowA han,set_rowA hbn]
  rw [eT,eX,eY]
 ·dsimp only
  rw [geI (by show (c.2.2.length:Int)≤(c.2.2.length:Int);omega),cF,List.take_length]
theorem tied_loop {c:Net} (h:NOK c):∃ r,loopM (fun (s:Int×List (List Int))=>bif
 ltM s.1 c.1 then (idxM (row c.1.toNat (td c)) s.1).bind fun r_5=>bif PE.notM r_5 then some (Sum.inr (Sum.inr ((100:Int),(0:Int),s.2))) else (mkM c.1 c.1 (nat_lit 8) (0:Int)).bind fun r_6 =>
 (chkM s.1 (lenM s.2)).bind fun r_7=>(setM s.2 s.1 fun (x:List Int)=>some r_6).bind fun r=>some (Sum.inl (IntKind.wrap .i64 (s.1+1),r)) else some
 (Sum.inr (Sum.inl s.2))) (0,row c.1.toNat fun _=>[])=some r∧(((∀ i,i<c.1.toNat→td c i=true)∧r=.inl (rt c.1.toNat (fun _=>c.1.toNat) fun _ _=>0))∨((∃ i,i<c.1.toNat∧td c i=false)∧∃ t,r=.inr (100,0,t))):=by
 have h0:=h.n0
 have h8:=h.n8
 generalize hn:c.1.toNat=n
 have hN:c.1=(n:Int):=by omega
 rw [hN]
 refine loopM_from (fun k s=>s=((k:Int),row n fun i=>if i<k then row n (fun _=>0) else [])∧∀ i,i<k→td c i=true) _ n ⟨?_,fun i hi=>absurd hi (Nat.not_lt_zero _)⟩ fun k s hk hs=>?_
 ·congr 1
 obtain ⟨rfl,ht⟩:=hs
 by_cases hlt:k<n
 ·cases e:td c k with
  | false =>
   refine .inr ⟨.inr (100,0,row n fun i=>if i<k then row n (fun _=>0) else []),?_,.inr ⟨⟨k,hlt,e⟩,_,rfl⟩⟩
   dsimp only
   rw [ltI (by omega),cT,row_idx hlt,oB,e,notF,cT]
  | true =>
   refine .inl ⟨_,hlt,?_,rfl,fun i hi=>?_⟩
   ·dsimp only
    rw [ltI (by omega),cT,row_idx hlt,oB,e,notT,cF,mkM_of (by omega) (by omega) (by show (n:Int)*8≤140737488355328;omega),oB,chkM_of (by omega) (by rw [lenR];omega),oB,Int.toNat_natCast,replicate_row,set_rowA hlt,oB,wrap_in (by omega) (by omega)]
    congr 3
    refine row_congr fun i _=>?_
    by_cases e1:i=k
    ·rw [if_pos e1,if_pos (by omega)]
    ·rw [if_neg e1]
     by_cases e2:i<k
     ·rw [if_pos e2,if_pos (by omega)]
     ·rw [if_neg e2,if_neg (by omega)]
   ·by_cases e1:i=k
    ·rw [e1];exact e
    ·exact ht i (by omega)
 ·have e:k=n:=by omega
  subst e
  refine .inr ⟨.inl (rt k (fun _=>k) fun _ _=>0),?_,.inl ⟨ht,rfl⟩⟩
  dsimp only
  rw [geI (Int.le_refl _),cF]
  congr 3
  exact row_congr fun i hi=>if_pos hi
theorem ins_loop {n p col:Nat} {A:Mx} (hn:n≤8) (hp:p<n):loopM (fun (s_1:Int×List (List Int))=>bif ltM s_1.1 (lenM (rt n (fun _=>n) A)) then (idxM (rt n (fun _=>n) A) s_1.1).bind
 fun r_6=>(appM (nat_lit 8) [] r_6).bind fun r_7=>(chkM s_1.1 (lenM (row n fun i=>A i col))).bind fun r_8=>(idxM (row n fun i=>A i col) s_1.1).bind fun r_9=>(chkM (p:Int) (lenM
 r_7)).bind fun r_10=>(setM r_7 (p:Int) fun (x:Int)=>some r_9).bind fun r_11=>(appM (nat_lit 24) s_1.2 [r_11]).bind fun r=>some (Sum.inl (IntKind.wrap
 IntKind.i64 (s_1.1+1),r)) else some (Sum.inr s_1.2)) (0,[])=some (rt n (fun _=>n) (ins A p col)):=by
 have hl:lenM (rt n (fun _=>n) A)=(n:Int):=by show ((rt n (fun _=>n) A).length:Int)=n;rw [rt_length]
 rw [hl]
 refine count_loop (fun k=>row k fun i=>row n (ins A p col i)) n (fun k hk=>?_) ?_
 ·dsimp only
  rw [ltI (by omega),cT,rt_idx hk,oB,appM_of (by rw [row_length];simp;omega),oB,List.nil_append,chkM_of (by omega) (by rw [lenR];omega),oB,row_idx hk,oB,chkM_of (by omega) (by rw [lenR];omega),oB,set_rowA hp,oB,appM_of (by rw [row_length];simp;omega),oB,wrap_in (by omega) (by omega),row_succ]
  congr 4
  refine congrArg (fun z=>[z]) (row_congr fun j _=>?_)
  unfold ins
  by_cases e:j=p
  ·rw [if_pos e,if_pos e]
  ·rw [if_neg e,if_neg e]
 ·dsimp only
  rw [geI (Int.le_refl _),cF]
  rfl
theorem m49_any {A:Mx} {n:Nat} (hn:n≤8) (hb:∀ i j,i<n→j<n→-480000≤A i j∧A i j≤480000) (hd1:-9000000000000000000≤det n A) (hd2:det n A≤9000000000000000000):m49 (rt n (fun _=>n) A)=some (det n A):=by
 have e1:rt n (fun _=>n) A=rt n (fun _=>n) fun i j=>if i<n∧j<n then A i j else 0:=rt_congr (fun _ _=>rfl) fun i j hi hj=>by rw [if_pos ⟨hi,hj⟩]
 have e2:det n A=det n fun i j=>if i<n∧j<n then A i j else 0:=det_congr fun i hi j hj=>by rw [if_pos ⟨hi,hj⟩]
 rw [e1,e2]
 refine m49_eq hn (fun i j=>?_) (by rw [← e2];exact hd1) (by rw [← e2];exact hd2)
 by_cases h:i<n∧j<n
 ·rw [if_pos h];exact hb i j h.1 h.2
 ·rw [if_neg h];omega
theorem m51_eq {a b:Int} (ha:big a) (hb:big b):m51 (a,b)=some (gI a b):=m31_eq ha hb
theorem nok_lap {c:Net} (h:NOK c):Lap8 (nmA c) c.1.toNat 10 480000 (dgN (nmA c)):=by
 have h0:=h.n0
 have h8:=h.n8
 have hf:=h.fl
 have hs:=h.sl
 exact lap_of (by omega) (nmA_ni (VF:=10000) (VS:=10000) ⟨h,fun f hf=>by have:=h.fx f hf;omega,fun s hs=>by have:=h.sg s hs;omega⟩) (by omega) (by omega)
theorem lap_ent {A:Mx} {n:Nat} {a:Nat→Nat} (h:Lap8 A n 10 480000 a) {i j:Nat} (hi:i<n) (hj:j<10):-480000≤A i j∧A i j≤480000:=by
 have hd:0≤A i i∧A i i≤48:=by
  have h1:=h.dg i hi
  have h2:=sd_mem a n hi
  have h3:=h.sd
  omega
 by_cases hjn:j<n
 ·by_cases e:i=j
  ·subst e;omega
  ·have h1:=h.of i j hi hjn e
   have h2:=h.rs i hi
   have h3:=sr_but (f:=A i) (k:=0) (Nat.zero_le i) hi
   have h4:=sr_mem (f:=fun y=>if y=i then 0 else -A i y) (n:=n) _ 0 rfl (fun y _ hy=>by
    by_cases e2:y=i
    ·rw [if_pos e2];exact Int.le_refl _
    ·rw [if_neg e2]
     have:=h.of i y hi hy fun h=>e2 h.symm
     omega) j (Nat.zero_le _) hjn
   rw [sr_zero n (A i)] at h3
   rw [if_neg (fun h=>e h.symm)] at h4
   omega
 ·have h1:=h.rh j (by omega) hj
  have h2:=sr_mem (f:=fun x=>ab (A x j)) (n:=n) _ 0 rfl (fun x _ _=>ab_pos _) i (Nat.zero_le _) hi
  rw [sr_zero] at h2
  have h3:=ab_le (A i j)
  omega
theorem m12_bad {c:Net} (h:nval c=false):m12 c=some (([],[],0),100):=by
 unfold m12
 refine bind_of (m17_eq c) ?_
 rw [h]
 rfl
end Go.Proofs.YtfekoiabjbdnfaaGreat
namespace Go.Proofs.YtfekoiabjbdnfaaGreat
open Go Go.Abs Go.PE
def best (c:Net):List Int:=if ovS (axY c)=true∧(ovS (axX c)=false∨(cycL (axY c).2).length<(cycL (axX c).2).length) then cycL (axY c).2 else if ovS (axX c)=true then cycL (axX c).2 else []
def half (v:Int):Int:=IntKind.wrap .i64 (v.tdiv 2)
def blL (c:Net):List Int:=Lib.compact (isortI ((best c).map half))
theorem cyc_len16 {x:Sys} (hs:sys x=true) (ho:ovS x=true):(cycL x.2).length≤16:=by
 obtain ⟨_,v,S,_,h2,_⟩:=cyc_st hs ho
 have:=(sys_all hs).1
 omega
theorem best_len {c:Net} (h:NOK c):(best c).length≤16:=by
 unfold best
 split
 ·rename_i h1;exact cyc_len16 (sysY h) h1.1
 ·split
  ·rename_i h1;exact cyc_len16 (sysX h) h1
  ·exact Nat.zero_le _
theorem m13_eq {c:Net} (h:NOK c):m13 c=some (blL c,!okN c):=by
 unfold m13
 refine bind_of (m17_eq c) ?_
 rw [nval_iff.2 h,notT,cF]
 refine bind_of (m32_eq h) ?_
 dsimp only
 refine bind_of (x:=(if ovS (axX c)=true then cycL (axX c).2 else [],ovS (axX c))) ?_ ?_
 ·refine bind_of (m33_eq (axX c)) ?_
  unfold cycR
  rw [sysX h]
  cases ovS (axX c)<;>rfl
 refine bind_of (x:=(best c,!okN c)) ?_ ?_
 ·refine bind_of (m33_eq (axY c)) ?_
  unfold cycR best okN
  rw [sysY h]
  have key:∀ (bx bY:Bool) (l1 l2:List Int),(bif PE.andM (bif true&&bY then (l2,true) else (([]:List Int),false)).2 (PE.orM (PE.notM (if bx=true then l1 else [],bx).2) (ltM (lenM (bif true&&bY then (l2,true) else (([]:List Int),false)).1) (lenM (if bx=true then l1 else [],bx).1))) then some ((bif true&&bY then (l2,true) else (([]:List Int),false)).1,true) else some ((if bx=true then l1 else [],bx).1,(if bx=true then l1 else [],bx).2))=some (if bY=true∧(bx=false∨l2.length<l1.length) then l2 else if bx=true then l1 else [],!(!bx&&!bY)):=by
   intro bx bY l1 l2
   cases bx<;>cases bY
   ·rfl
   ·rfl
   ·rfl
   ·by_cases hl:l2.length<l1.length
    ·have e:ltM (lenM l2) (lenM l1)=true:=ltI (by show (l2.length:Int)<(l1.length:Int);omega)
     have e2:(if true=true∧(true=false∨l2.length<l1.length) then l2 else if true=true then l1 else [])=l2:=if_pos ⟨rfl,.inr hl⟩
     rw [e2]
     show (bif PE.andM true (PE.orM (PE.notM true) (ltM (lenM l2) (lenM l1))) then some (l2,true) else some (l1,true))=some (l2,true)
     rw [e]
     rfl
    ·have e:ltM (lenM l2) (lenM l1)=false:=geI (by show (l1.length:Int)≤(l2.length:Int);omega)
     have e2:(if true=true∧(true=false∨l2.length<l1.length) then l2 else if true=true then l1 else [])=l1:=by
      rw [if_neg (by rintro ⟨_,h | h⟩<;>first | cases h | exact hl h)]
      rfl
     rw [e2]
     show (bif PE.andM true (PE.orM (PE.notM true) (ltM (lenM l2) (lenM l1))) then some (l2,true) else some (l1,true))=some (l1,true)
     rw [e]
     rfl
  exact key _ _ _ _
 dsimp only
 have hb:=best_len h
 refine bind_of (x:=(best c).map half) ?_ ?_
 ·have L:=count_loop (body:=fun (s:Int×List Int) =>
          bif ltM s.1 (lenM (best c)) then
           Option.bind (idxM (best c) s.1) fun (r_2:Int) =>
            Option.bind (divM .i64 r_2 (2:Int)) fun (r_3:Int) =>
             Option.bind (appM (nat_lit 8) s.2 [r_3]) fun (r:List Int) =>
              some (Sum.inl (IntKind.wrap .i64 (s.1+(1:Int)),r))
          else some (Sum.inr s.2)) (fun k=>((best c).take k).map half) (best c).length (r:=((best c).take (best c).length).map half) (fun k hk=>by
   dsimp only
   rw [ltI (by show (k:Int)<((best c).length:Int);omega),cT,idxM_lt hk,oB,divM_pos (by omega),oB]
   refine bind_of (appM_of (by simp;omega)) ?_
   rw [wrap_in (by omega) (by omega),List.take_succ_eq_append_getElem hk,List.map_append]
   rfl) (by
   dsimp only
   rw [geI (by show ((best c).length:Int)≤((best c).length:Int);omega),cF])
  rw [List.take_length] at L
  exact L
 have hl:((best c).map half).length≤16:=by rw [List.length_map];exact hb
 have e1:sortI ((best c).map half)=some (isortI ((best c).map half)):=by
  unfold sortI
  rw [dT (by omega)]
 refine bind_of e1 ?_
 have hp:=(isortI_perm ((best c).map half)).length_eq
 have e2:compI (isortI ((best c).map half))=some (blL c):=by
  unfold compI
  rw [dT (by omega)]
  rfl
 exact bind_of e2 rfl
def kpF (g:Nat→Int×Int) (f:Fix):Bool:=inB ((g f.1.toNat).1-f.2.1) (-f.2.2.2) f.2.2.2&&inB ((g f.1.toNat).2-f.2.2.1) (-f.2.2.2) f.2.2.2
def kpS (g:Nat→Int×Int) (s:Sgt):Bool:=inB ((g s.2.1.toNat).1-(g s.1.toNat).1-s.2.2.1) (-s.2.2.2.2) s.2.2.2.2&&inB ((g s.2.1.toNat).2-(g s.1.toNat).2-s.2.2.2.1) (-s.2.2.2.2) s.2.2.2.2
theorem m38_tol {x y t:Int} (h0:0≤t) (h1:t≤1000):m38 (x,y,t)=some (inB x (-t) t&&inB y (-t) t):=m38_eq (by omega) (by omega)
theorem m15_row {c:Net} (h:NOK c) {g:Nat→Int×Int} (hg:∀ i,i<c.1.toNat→(-1000000≤(g i).1∧(g i).1≤1000000)∧-1000000≤(g i).2∧(g i).2≤1000000):m15 (c,row c.1.toNat g)=some (c.2.1.all (kpF g)&&c.2.2.all (kpS g)):=by
 have h0:=h.n0
 have h8:=h.n8
 have hN:((c.1.toNat:Nat):Int)=c.1:=by omega
 have hl:lenM (row c.1.toNat g)=c.1:=by rw [lenR];exact hN
 have hfl:=h.fl
 have hsl:=h.sl
 unfold m15
 dsimp only
 refine bind_of (m17_eq c) ?_
 rw [nval_iff.2 h,hl,eqI rfl,notT,orF,notF,cT]
 have hx:(row c.1.toNat g).any (fun p=>!nearB p.1 p.2 1000000)=false:=by
  rw [List.any_eq_false]
  intro p hp
  obtain ⟨i,hi,rfl⟩:=row_mem hp
  have:=hg i hi
  have:nearB (g i).1 (g i).2 1000000=true:=by
   unfold nearB
   rw [Bool.and_eq_true,inB_iff,inB_iff]
   exact this
  rw [this]
  decide
 have L1:=any_loop (xs:=row c.1.toNat g) (fun p=>!nearB p.1 p.2 1000000) (body:=fun (s:Int) =>
         bif ltM s c.1 then
          Option.bind (idxM (row c.1.toNat g) s) fun (r_1:Int×Int) =>
           Option.bind (m37 (r_1.1,r_1.2)) fun (r:Bool) =>
            bif r then some (Sum.inr (Sum.inr s))
            else some (Sum.inl (IntKind.wrap .i64 (s+(1:Int))))
         else some (Sum.inr (Sum.inl ()))) (fun k hk=>by
  rw [row_length] at hk
  have e:(row c.1.toNat g)[k]'(by rw [row_length];exact hk)=g k:=by
   have:=row_get (g:=g) hk
   rw [List.getElem?_eq_getElem (by rw [row_length];exact hk)] at this
   exact Option.some.inj this
  rw [ltI (by omega),cT,row_idx hk,oB,e]
  unfold m37
  dsimp only
  rw [m38_eq (by omega) (by omega),wrap_in (by omega) (by omega)]
  cases nearB (g k).1 (g k).2 1000000<;>rfl) (by rw [row_length,hN,geI (Int.le_refl _),cF])
 rw [hx] at L1
 obtain ⟨ov,g1,g2⟩:=Option.bind_eq_some_iff.1 L1
 refine bind_of (x:=false) (bind_of g1 g2) ?_
 rw [orF,cF]
 have hnil:nilM (row c.1.toNat g) (some []) (Option.bind (appM (nat_lit 16) [] (row c.1.toNat g)) fun (r:List (Int×Int))=>some r)=some (row c.1.toNat g):=by
  have ea:(Option.bind (appM (nat_lit 16) [] (row c.1.toNat g)) fun (r:List (Int×Int))=>some r)=some (row c.1.toNat g):=by
   refine bind_of (appM_of (by rw [row_length];simp;omega)) rfl
  rw [ea]
  cases hr:row c.1.toNat g with
  | nil =>
   show bothM (some []) (some [])=some []
   unfold bothM
   split
   ·rfl
   ·rename_i hh _;exact absurd rfl hh
  | cons a l=>rfl
 refine bind_of hnil ?_
 refine bind_of (appM_of (by rw [row_length];simp;omega)) ?_
 -- the places,and the origin
 have hall:∃ l:List (Int×Int),l=row c.1.toNat g++[((0:Int),(0:Int))]:=⟨_,rfl⟩
 obtain ⟨l,hl0⟩:=hall
 rw [← hl0]
 have hll:l.length=c.1.toNat+1:=by rw [hl0,List.length_append,row_length];rfl
 have hlI:lenM l=c.1+1:=by show (l.length:Int)=_;rw [hll];omega
 have hget:∀ i:Int,0≤i→i<c.1→chkM i (lenM l)=some ()∧idxM l i=some (g i.toNat):=fun i hi0 hi1=>by
  refine ⟨chkM_of hi0 (by omega),?_⟩
  obtain ⟨k,rfl⟩:=Int.eq_ofNat_of_zero_le hi0
  rw [Int.toNat_natCast,hl0,idxM_nat,List.getElem?_append_left (by rw [row_length];omega),row_get (by omega)]
 have horg:chkM c.1 (lenM l)=some ()∧idxM l c.1=some ((0:Int),(0:Int)):=by
  refine ⟨chkM_of h0 (by omega),?_⟩
  have:idxM l ((c.1.toNat:Nat):Int)=some ((0:Int),(0:Int)):=by
   rw [hl0,idxM_nat,List.getElem?_append_right (by rw [row_length];omega),row_length]
   simp
  rw [hN] at this
  exact this
 obtain ⟨b1,q1,q2⟩:=all_loop (n:=c.2.1.length) (fun k=>kpF g (c.2.1.getD k (0,0,0,0))) (body:=fun (s:Int) =>
          bif ltM s (lenM c.2.1) then
           Option.bind (idxM c.2.1 s) fun (r_2:Int×Int×Int×Int) =>
            Option.bind (chkM r_2.1 (lenM l)) fun (r_3:Unit) =>
             Option.bind (Option.bind (idxM l r_2.1) fun (x:Int×Int)=>some x.1) fun (r_4:Int) =>
              Option.bind (chkM c.1 (lenM l)) fun (r_5:Unit) =>
               Option.bind (Option.bind (idxM l c.1) fun (x:Int×Int)=>some x.1)
                fun (r_6:Int) =>
                Option.bind (chkM r_2.1 (lenM l)) fun (r_7:Unit) =>
                 Option.bind (Option.bind (idxM l r_2.1) fun (x:Int×Int)=>some x.2)
                  fun (r_8:Int) =>
                  Option.bind (chkM c.1 (lenM l)) fun (r_9:Unit) =>
                   Option.bind (Option.bind (idxM l c.1) fun (x:Int×Int)=>some x.2)
                    fun (r_10:Int) =>
                    Option.bind
                     (m38
                      (IntKind.wrap .i64 (IntKind.wrap .i64 (r_4-r_6)-r_2.2.1),
                       IntKind.wrap IntKind.i64
                        (IntKind.wrap .i64 (r_8-r_10)-r_2.2.2.1),
                       r_2.2.2.2))
                     fun (r:Bool) =>
                     bif PE.notM r then some (Sum.inr (Sum.inr false))
                     else some (Sum.inl (IntKind.wrap .i64 (s+(1:Int))))
          else some (Sum.inr (Sum.inl ()))) (fun k hk=>by
  have hm:=h.fx _ (memD hk (0,0,0,0))
  rw [ltI (by show (k:Int)<(c.2.1.length:Int);omega),cT,idxD hk (0,0,0,0),oB]
  generalize c.2.1.getD k (0,0,0,0)=f at *
  obtain ⟨e1,e2⟩:=hget f.1 (by omega) (by omega)
  have hgb:=hg f.1.toNat (by omega)
  rw [e1,oB,e2,oB,oB,horg.1,oB,horg.2,oB,oB,oB,oB,oB,oB,oB,oB]
  rw [wrap_in (n:=(g f.1.toNat).1-0) (by omega) (by omega),wrap_in (n:=(g f.1.toNat).2-0) (by omega) (by omega),Int.sub_zero,Int.sub_zero,wrap_in (n:=(g f.1.toNat).1-f.2.1) (by omega) (by omega),wrap_in (n:=(g f.1.toNat).2-f.2.2.1) (by omega) (by omega),m38_tol (by omega) (by omega),oB,wrap_in (by omega) (by omega)]
  unfold kpF
  cases (inB ((g f.1.toNat).1-f.2.1) (-f.2.2.2) f.2.2.2&&inB ((g f.1.toNat).2-f.2.2.1) (-f.2.2.2) f.2.2.2)<;>rfl) (by rw [geI (by show (c.2.1.length:Int)≤(c.2.1.length:Int);omega),cF])
 obtain ⟨b2,r1,r2⟩:=all_loop (n:=c.2.2.length) (fun k=>kpS g (c.2.2.getD k (0,0,0,0,0))) (body:=fun (s:Int) =>
             bif ltM s (lenM c.2.2) then
              Option.bind (idxM c.2.2 s) fun (r_2:Int×Int×Int×Int×Int) =>
               Option.bind (chkM r_2.2.1 (lenM l)) fun (r_3:Unit) =>
                Option.bind (Option.bind (idxM l r_2.2.1) fun (x:Int×Int)=>some x.1)
                 fun (r_4:Int) =>
                 Option.bind (chkM r_2.1 (lenM l)) fun (r_5:Unit) =>
                  Option.bind (Option.bind (idxM l r_2.1) fun (x:Int×Int)=>some x.1)
                   fun (r_6:Int) =>
                   Option.bind (chkM r_2.2.1 (lenM l)) fun (r_7:Unit) =>
                    Option.bind (Option.bind (idxM l r_2.2.1) fun (x:Int×Int)=>some x.2)
                     fun (r_8:Int) =>
                     Option.bind (chkM r_2.1 (lenM l)) fun (r_9:Unit) =>
                      Option.bind (Option.bind (idxM l r_2.1) fun (x:Int×Int)=>some x.2)
                       fun (r_10:Int) =>
                       Option.bind
                        (m38
                         (IntKind.wrap IntKind.i64
                           (IntKind.wrap .i64 (r_4-r_6)-r_2.2.2.1),
                          IntKind.wrap IntKind.i64
                           (IntKind.wrap .i64 (r_8-r_10)-r_2.2.2.2.1),
                          r_2.2.2.2.2))
                        fun (r:Bool) =>
                        bif PE.notM r then some (Sum.inr (Sum.inr false))
                        else some (Sum.inl (IntKind.wrap .i64 (s+(1:Int))))
             else some (Sum.inr (Sum.inl ()))) (fun k hk=>by
  have hm:=h.sg _ (memD hk (0,0,0,0,0))
  rw [ltI (by show (k:Int)<(c.2.2.length:Int);omega),cT,idxD hk (0,0,0,0,0),oB]
  generalize c.2.2.getD k (0,0,0,0,0)=f at *
  obtain ⟨e1,e2⟩:=hget f.1 (by omega) (by omega)
  obtain ⟨e3,e4⟩:=hget f.2.1 (by omega) (by omega)
  have hgb:=hg f.1.toNat (by omega)
  have hgb2:=hg f.2.1.toNat (by omega)
  rw [e3,oB,e4,oB,oB,e1,oB,e2,oB,oB,oB,oB,oB,oB,oB,oB]
  rw [wrap_in (n:=(g f.2.1.toNat).1-(g f.1.toNat).1) (by omega) (by omega),wrap_in (n:=(g f.2.1.toNat).2-(g f.1.toNat).2) (by omega) (by omega),wrap_in (n:=(g f.2.1.toNat).1-(g f.1.toNat).1-f.2.2.1) (by omega) (by omega),wrap_in (n:=(g f.2.1.toNat).2-(g f.1.toNat).2-f.2.2.2.1) (by omega) (by omega),m38_tol (by omega) (by omega),oB,wrap_in (by omega) (by omega)]
  unfold kpS
  cases (inB ((g f.2.1.toNat).1-(g f.1.toNat).1-f.2.2.1) (-f.2.2.2.2) f.2.2.2.2&&inB ((g f.2.1.toNat).2-(g f.1.toNat).2-f.2.2.2.1) (-f.2.2.2.2) f.2.2.2.2)<;>rfl) (by rw [geI (by show (c.2.2.length:Int)≤(c.2.2.length:Int);omega),cF])
 have hb1:b1=c.2.1.all (kpF g):=by
  rw [Bool.eq_iff_iff,q2,List.all_eq_true]
  constructor
  ·intro hh f hf
   obtain ⟨i,hi,rfl⟩:=List.mem_iff_getElem.1 hf
   have:=hh i hi
   simpa [List.getD,hi] using this
  ·intro hh k hk
   exact hh _ (memD hk _)
 have hb2:b2=c.2.2.all (kpS g):=by
  rw [Bool.eq_iff_iff,r2,List.all_eq_true]
  constructor
  ·intro hh f hf
   obtain ⟨i,hi,rfl⟩:=List.mem_iff_getElem.1 hf
   have:=hh i hi
   simpa [List.getD,hi] using this
  ·intro hh k hk
   exact hh _ (memD hk _)
 refine bind_of q1 ?_
 cases b1 with
 | false=>rw [← hb1];rfl
 | true =>
  rw [← hb1,← hb2]
  refine bind_of r1 ?_
  cases b2<;>rfl
theorem comp_lt {zs:List Int} (h:List.Pairwise (·≤·) zs):List.Pairwise (·<·) (Lib.compact zs):=by
 unfold Lib.compact Lib.compactUpTo
 rw [List.pairwise_map]
 refine List.Pairwise.imp_of_mem (fun {a b} ha hb hab=>?_) ((List.pairwise_lt_range (n:=zs.length)).filter _)
 have hal:a<zs.length:=List.mem_range.1 (List.mem_filter.1 ha).1
 have hbl:b<zs.length:=List.mem_range.1 (List.mem_filter.1 hb).1
 have hk:=(List.mem_filter.1 hb).2
 unfold Lib.keeps at hk
 have hk:=of_decide_eq_true hk
 rw [getB (by simpa using hbl),getB (by simp;omega)] at hk
 rw [getB (by simpa using hal),getB (by simpa using hbl)]
 simp only [List.getElem_toArray] at hk ⊢
 have hs:=List.pairwise_iff_getElem.1 h
 have h1:zs[b-1]≤zs[b]:=hs (b-1) b (by omega) hbl (by omega)
 have h2:zs[a]≤zs[b-1]:=by
  by_cases e:a=b-1
  ·subst e;exact Int.le_refl _
  ·exact hs a (b-1) hal (by omega) (by omega)
 rcases hk with h0 | hne
 ·omega
 ·omega
theorem mem_comp {zs:List Int}:∀ (j:Nat) (hj:j<zs.length),zs[j]∈Lib.compact zs
 | j,hj=>by
  by_cases hk:Lib.keeps zs.toArray j=true
  ·unfold Lib.compact Lib.compactUpTo
   refine List.mem_map.2 ⟨j,List.mem_filter.2 ⟨List.mem_range.2 hj,hk⟩,?_⟩
   rw [getB (by simpa using hj)]
   simp
  ·have hk:¬ (j=0∨zs.toArray[j]! ≠ zs.toArray[j-1]!):=fun h=>hk (dT h)
   have h0:j≠0:=fun h=>hk (.inl h)
   have he:zs.toArray[j]! = zs.toArray[j-1]! := Classical.byContradiction fun h=>hk (.inr h)
   rw [getB (by simpa using hj),getB (by simp;omega)] at he
   simp only [List.getElem_toArray] at he
   rw [he]
   exact mem_comp (j-1) (by omega)
 termination_by j=>j
theorem blL_lt (c:Net):List.Pairwise (·<·) (blL c):=comp_lt (isortI_sorted _)
theorem blL_of {c:Net} {e:Int} (h:e∈best c):half e∈blL c:=by
 have h1:half e∈isortI ((best c).map half):=(isortI_perm _).mem_iff.2 (List.mem_map.2 ⟨e,h,rfl⟩)
 obtain ⟨j,hj,e1⟩:=List.mem_iff_getElem.1 h1
 rw [← e1]
 exact mem_comp j hj
theorem of_blL {c:Net} {i:Int} (h:i∈blL c):∃ e∈best c,half e=i:=by
 have h1:=(isortI_perm _).mem_iff.1 (compact_mem h)
 obtain ⟨e,h1,h2⟩:=List.mem_map.1 h1
 exact ⟨e,h1,h2⟩
theorem blL_len (c:Net):(blL c).length≤(best c).length:=by
 refine Nat.le_trans (compact_len _) ?_
 rw [(isortI_perm _).length_eq,List.length_map]
 exact Nat.le_refl _
theorem rise_len:∀ (l:List Int) (a b:Int),List.Pairwise (·<·) l→(∀ i∈l,a≤i∧i<b)→(l.length:Int)≤max (b-a) 0
 | [],a,b,_,_=>by simp;omega
 | x::r,a,b,h,hm=>by
  have h2:=List.pairwise_cons.1 h
  have hx:=hm x (List.mem_cons_self ..)
  have ih:=rise_len r (x+1) b h2.2 fun i hi=>⟨by have:=h2.1 i hi;omega,(hm i (List.mem_cons_of_mem _ hi)).2⟩
  rw [List.length_cons]
  omega
theorem nodup_len:∀ (a b:List Int),a.Nodup→(∀ x∈a,x∈b)→a.length≤b.length
 | [],b,_,_=>Nat.zero_le _
 | x::r,b,h,hm=>by
  have h2:=List.nodup_cons.1 h
  have hx:=hm x (List.mem_cons_self ..)
  have ih:=nodup_len r (b.erase x) h2.2 fun y hy=>by
   refine (List.mem_erase_of_ne ?_).2 (hm y (List.mem_cons_of_mem _ hy))
   rintro rfl
   exact h2.1 hy
  have:=List.length_erase_of_mem hx
  have:=List.length_pos_of_mem hx
  rw [List.length_cons]
  omega
def pickF (c:Net) (i:Int):Fix:=c.2.1.getD i.toNat (0,0,0,0)
def pickS (c:Net) (i:Int):Sgt:=c.2.2.getD (i-(c.2.1.length:Int)).toNat (0,0,0,0,0)
def isF (c:Net) (i:Int):Bool:=decide (i<(c.2.1.length:Int))
def onF (c:Net) (l:List Int):List Fix:=(l.filter (isF c)).map (pickF c)
def onS (c:Net) (l:List Int):List Sgt:=(l.filter fun i=>!isF c i).map (pickS c)
def onl (c:Net) (l:List Int):Net:=(c.1,onF c l,onS c l)
def inl (c:Net) (l:List Int):Prop:=∀ i∈l,0≤i∧i<(c.2.1.length:Int)+c.2.2.length
theorem onS_len (c:Net) (l:List Int):(onS c l).length≤l.length:=by unfold onS;rw [List.length_map];exact List.length_filter_le _ _
def obAt (d1:Fix→Int) (d2:Sgt→Int) (c:Net) (i:Int):Obs:=if isF c i=true then fOb d1 c.1 (pickF c i) else sOb d2 (pickS c i)
theorem obs_onl {d1:Fix→Int} {d2:Sgt→Int} {c:Net} {l:List Int} {o:Obs}:o∈obs d1 d2 (onl c l)↔∃ i∈l,o=obAt d1 d2 c i:=by
 unfold obs onl onF onS
 dsimp only
 constructor
 ·intro h
  rcases List.mem_append.1 h with h | h
  ·obtain ⟨f,hf,rfl⟩:=List.mem_map.1 h
   obtain ⟨i,hi,rfl⟩:=List.mem_map.1 hf
   obtain ⟨h1,h2⟩:=List.mem_filter.1 hi
   exact ⟨i,h1,by unfold obAt;rw [if_pos h2]⟩
  ·obtain ⟨s,hs,rfl⟩:=List.mem_map.1 h
   obtain ⟨i,hi,rfl⟩:=List.mem_map.1 hs
   obtain ⟨h1,h2⟩:=List.mem_filter.1 hi
   have h2:isF c i=false:=by simpa using h2
   exact ⟨i,h1,by unfold obAt;rw [h2,if_neg (by decide)]⟩
 ·rintro ⟨i,hi,rfl⟩
  unfold obAt
  cases hb:isF c i with
  | true =>
   rw [if_pos rfl]
   exact List.mem_append.2 (.inl (List.mem_map.2 ⟨_,List.mem_map.2 ⟨i,List.mem_filter.2 ⟨hi,hb⟩,rfl⟩,rfl⟩))
  | false =>
   rw [if_neg (by decide)]
   exact List.mem_append.2 (.inr (List.mem_map.2 ⟨_,List.mem_map.2 ⟨i,List.mem_filter.2 ⟨hi,by rw [hb];rfl⟩,rfl⟩,rfl⟩))
theorem pickF_mem {c:Net} {i:Int} (h0:0≤i) (h:isF c i=true):pickF c i∈c.2.1:=memD (by have:=of_decide_eq_true h;omega) _
theorem pickS_mem {c:Net} {i:Int} (h0:i<(c.2.1.length:Int)+c.2.2.length) (h:isF c i=false):pickS c i∈c.2.2:=memD (by have:=of_decide_eq_false h;omega) _
theorem obAt_getD {d1:Fix→Int} {d2:Sgt→Int} {c:Net} {j:Nat} (hj:j<c.2.1.length+c.2.2.length) (z:Obs):(obs d1 d2 c).getD j z=obAt d1 d2 c j:=by
 unfold obs obAt pickF pickS isF
 by_cases h:j<c.2.1.length
 ·rw [if_pos (dT (by omega))]
  simp [List.getD,List.getElem?_append,h]
 ·rw [if_neg (by rw [decide_eq_false (by omega)];decide)]
  have e:((j:Int)-(c.2.1.length:Int)).toNat=j-c.2.1.length:=by omega
  rw [e]
  have h2:j-c.2.1.length<c.2.2.length:=by omega
  simp [List.getD,List.getElem?_append,h,h2]
theorem bds_getD:∀ (os:List Obs) (k:Nat),k<2*os.length→∀ (z:Int×Int×Int) (y:Obs),(bds os).getD k z∈two (os.getD (k / 2) y)
 | [],k,h,_,_=>by simp at h
 | o::r,0,_,z,y=>List.mem_cons_self ..
 | o::r,1,_,z,y=>List.mem_cons_of_mem _ (List.mem_cons_self ..)
 | o::r,k+2,h,z,y=>by
  have ih:=bds_getD r k (by rw [List.length_cons] at h;omega) z y
  have e:(k+2) / 2=k / 2+1:=by omega
  rw [e]
  exact ih
theorem half_nat {k:Nat} (h:k<1000):half (k:Int)=((k / 2:Nat):Int):=by
 unfold half
 have e:(k:Int).tdiv 2=((k / 2:Nat):Int):=by
  rw [Int.tdiv_eq_ediv_of_nonneg (by omega)]
  omega
 rw [e]
 exact wrap_in (by omega) (by omega)
theorem onl_nok {c:Net} (hc:NOK c) {l:List Int} (h:inl c l) (h1:(onF c l).length≤8) (h2:(onS c l).length≤20):NOK (onl c l) :=
 ⟨hc.n0,hc.n8,h1,h2,fun f hf=>by
  obtain ⟨i,hi,rfl⟩:=List.mem_map.1 hf
  obtain ⟨h3,h4⟩:=List.mem_filter.1 hi
  exact hc.fx _ (pickF_mem (h i h3).1 h4),fun s hs=>by
  obtain ⟨i,hi,rfl⟩:=List.mem_map.1 hs
  obtain ⟨h3,h4⟩:=List.mem_filter.1 hi
  exact hc.sg _ (pickS_mem (h i h3).2 (by simpa using h4))⟩
theorem onl_d {d1:Fix→Int} {d2:Sgt→Int} {c:Net} {l:List Int} (h:inl c l) (hd:dOk d1 d2 c):dOk d1 d2 (onl c l) :=
 ⟨fun f hf=>by
  obtain ⟨i,hi,rfl⟩:=List.mem_map.1 hf
  obtain ⟨h3,h4⟩:=List.mem_filter.1 hi
  exact hd.1 _ (pickF_mem (h i h3).1 h4),fun s hs=>by
  obtain ⟨i,hi,rfl⟩:=List.mem_map.1 hs
  obtain ⟨h3,h4⟩:=List.mem_filter.1 hi
  exact hd.2 _ (pickS_mem (h i h3).2 (by simpa using h4))⟩
theorem m13_bad {c:Net} (h:¬ NOK c):m13 c=some ([],false):=by
 unfold m13
 refine bind_of (m17_eq c) ?_
 have:nval c=false:=by
  cases hv:nval c with
  | false=>rfl
  | true=>exact absurd (nval_iff.1 hv) h
 rw [this,notF,cT]
theorem m111_eq (a b c:Int):m111 (a,b,c)=some (decide (b≤a)&&decide (a≤c)):=rfl
theorem m112_eq {n:Int} (c:Int×Int×Int) (h0:0≤n) (h1:n≤16):m112 (n,c.1,c.2.1,c.2.2)=some (bnd n c):=by
 unfold m112 bnd
 have e:∀ a:Int,decide (a≤n-1)=decide (a<n):=fun a=>by
  by_cases h:a<n
  ·rw [dT h,dT (by omega)]
  ·rw [decide_eq_false h,decide_eq_false (by omega)]
 simp only [m111_eq,oB,wrap_in (n:=n-1) (by omega) (by omega),Bool.decide_and,e]
 generalize decide ((0:Int)≤c.1)=p1
 generalize decide (c.1<n)=p2
 generalize decide ((0:Int)≤c.2.1)=p3
 generalize decide (c.2.1<n)=p4
 generalize decide ((-1000000000:Int)≤c.2.2)=p5
 generalize decide (c.2.2≤(1000000000:Int))=p6
 cases p1<;>cases p2<;>cases p3<;>cases p4<;>cases p5<;>cases p6<;>rfl
theorem m75_eq (x:Sys):m75 x=some (sys x):=by
 unfold m75
 rw [m111_eq,oB]
 by_cases h:0≤x.1∧x.1≤16∧x.2.length≤60
 ·obtain ⟨h0,h1,h2⟩:=h
  rw [dT h0,dT h1,Bool.and_self,notT,orF,geI (by show (x.2.length:Int)≤60;omega),cF]
  obtain ⟨r,g1,g2⟩:=all_loop (n:=x.2.length) (fun k=>bnd x.1 (x.2.getD k (0,0,0))) (body:=fun (s:Int) =>
       bif ltM s (lenM x.2) then
        Option.bind (idxM x.2 s) fun (r_1:Int×Int×Int) =>
         Option.bind (m112 (x.1,r_1.1,r_1.2.1,r_1.2.2)) fun (r:Bool) =>
          bif PE.notM r then some (Sum.inr (Sum.inr false))
          else some (Sum.inl (IntKind.wrap .i64 (s+(1:Int))))
       else some (Sum.inr (Sum.inl ()))) (fun k hk=>by
   rw [ltI (by show (k:Int)<(x.2.length:Int);omega),cT,idxM_lt hk,oB,m112_eq _ h0 h1,oB,wrap_in (by omega) (by omega),getD_of hk]
   cases bnd x.1 x.2[k]<;>rfl) (by rw [geI (Int.le_refl _)];rfl)
  refine bind_of g1 ?_
  have e:sys x=r:=by
   unfold sys
   rw [dT ⟨h0,h1,h2⟩,Bool.true_and,Bool.eq_iff_iff,g2]
   constructor
   ·intro h k hk
    rw [getD_of hk]
    exact List.all_eq_true.1 h _ (List.getElem_mem hk)
   ·intro h
    refine List.all_eq_true.2 fun c hc=>?_
    obtain ⟨k,hk,rfl⟩:=List.mem_iff_getElem.1 hc
    have:=h k hk
    rw [getD_of hk] at this
    exact this
  rw [e]
  cases r<;>rfl
 ·have e:PE.orM (PE.notM (decide (0≤x.1)&&decide (x.1≤16))) (ltM 60 (lenM x.2))=true:=by
   by_cases a:0≤x.1
   ·by_cases b:x.1≤16
    ·rw [dT a,dT b,Bool.and_self,notT,orF]
     exact dT (by show (60:Int)<(x.2.length:Int);omega)
    ·rw [decide_eq_false b,Bool.and_false];rfl
   ·rw [decide_eq_false a,Bool.false_and];rfl
  rw [e,cT]
  unfold sys
  rw [decide_eq_false h,Bool.false_and]
theorem row_done {m:Nat} (g g':Nat→Int):row m (fun k=>if k<m then g k else g' k)=row m g:=row_congr fun k hk=>if_pos hk
theorem row_put {m j:Nat} {g g':Nat→Int} (hj:j<m):(row m (fun k=>if k<j then g k else g' k)).set j (g j)=row m (fun k=>if k<j+1 then g k else g' k):=by
 rw [row_set hj]
 refine row_congr fun k _=>?_
 by_cases e:k=j
 ·subst e;rw [if_pos rfl,if_pos (by omega)]
 ·rw [if_neg e]
  by_cases e3:k<j
  ·rw [if_pos e3,if_pos (by omega)]
  ·rw [if_neg e3,if_neg (by omega)]
theorem set_row {m j:Nat} {g:Nat→Int} {f:Int→Option Int} {y:Int} (hj:j<m) (hy:f (g j)=some y):setM (row m g) (j:Int) f=some ((row m g).set j y):=by
 unfold setM
 rw [row_idx hj]
 simp only [hy]
 have e2:((j:Int)).toNat=j:=by omega
 rw [e2]
theorem set_rowc {m j:Nat} {g:Nat→Int} {y:Int} (hj:j<m):setM (row m g) (j:Int) (fun _=>some y)=some ((row m g).set j y):=set_row (f:=fun _=>some y) hj rfl
def iniR (m i:Nat) (k:Nat):Int:=if m=0∧i=k then 0 else 1152921504606846976
theorem m76_eq {n:Nat} (hn:n≤16) {bs:List (Int×Int×Int)} (hl:bs.length≤60) (hb:bs.all (bnd (n:Int))=true):m76 ((n:Int),bs)=some (row (n+1) fun m=>rt n (fun _=>n) (wkT bs m)):=by
 unfold m76
 dsimp only
 refine bind_of (count_loop (fun m=>row m fun m=>rt n (fun _=>n) (wkT bs m)) (n+1) (fun m hm=>?_) ?_) rfl
 ·dsimp only
  rw [leI (by omega),cT]
  refine bind_of (x:=rt n (fun _=>n) (wkT bs m)) ?_ (bind_of (app_rowOf rfl (by show (m+1)*24≤140737488355328;omega)) (by rw [wrap_in (by omega) (by omega)]))
  refine count_loop (fun i=>row i fun i=>row n (wkT bs m i)) n (fun i hi=>?_) ?_
  ·dsimp only
   rw [ltI (by omega),cT]
   have hmk:mkM (n:Int) (n:Int) (nat_lit 8) (0:Int)=some (row n fun _=>0):=by
    rw [mkM_of (by omega) (by omega) (by show (n:Int)*8≤140737488355328;omega),replicate_row]
    have ht:((n:Int)).toNat=n:=by omega
    rw [ht]
   refine bind_of hmk ?_
   refine bind_of (x:=row n (iniR m i)) ?_ ?_
   ·have e0:(row n fun _=>(0:Int))=row n fun k=>if k<0 then iniR m i k else 0:=row_congr fun k _=>by rw [if_neg (by omega)]
    rw [e0]
    refine count_loop (fun j=>row n fun k=>if k<j then iniR m i k else 0) n (fun j hj=>?_) ?_
    ·dsimp only
     rw [ltI (by omega),cT,chk_row hj,oB,set_rowc hj,oB]
     refine bind_of (x:=row n fun k=>if k<j+1 then iniR m i k else 0) ?_ (by rw [wrap_in (by omega) (by omega)])
     by_cases e:m=0∧i=j
     ·have e1:PE.andM (eqM (m:Int) 0) (eqM (i:Int) (j:Int))=true:=by rw [eqI (by omega),eqI (by omega)];rfl
      rw [e1,cT,row_set hj,chk_row hj,oB,set_rowc hj,oB,row_set hj]
      congr 1
      refine row_congr fun k _=>?_
      by_cases e2:k=j
      ·subst e2
       rw [if_pos rfl,if_pos (by omega)]
       unfold iniR
       rw [if_pos e]
      ·rw [if_neg e2,if_neg e2]
       by_cases e3:k<j
       ·rw [if_pos e3,if_pos (by omega)]
       ·rw [if_neg e3,if_neg (by omega)]
     ·have e1:PE.andM (eqM (m:Int) 0) (eqM (i:Int) (j:Int))=false:=by
       by_cases e2:m=0
       ·have:i≠j:=fun h=>e ⟨e2,h⟩
        rw [neI (a:=(i:Int)) (b:=(j:Int)) (by omega)]
        cases eqM (m:Int) 0<;>rfl
       ·rw [neI (by omega)];rfl
      rw [e1,cF]
      have e4:iniR m i j=1152921504606846976:=by unfold iniR;rw [if_neg e]
      have:=row_put (m:=n) (g:=iniR m i) (g':=fun _=>0) hj
      rw [e4] at this
      rw [this]
    ·dsimp only
     rw [geI (by omega),cF,row_done]
   ·refine bind_of (x:=row n (wkT bs m i)) ?_ (bind_of (app_rowOf rfl (by show (i+1)*24≤140737488355328;omega)) (by rw [wrap_in (by omega) (by omega)]))
    cases m with
    | zero =>
     rw [loopM_eq]
     have e1:PE.andM (ltM (0:Int) (lenM bs)) (ltM 0 ((0:Nat):Int))=false:=by
      rw [geI (a:=0) (b:=((0:Nat):Int)) (by omega)]
      cases ltM (0:Int) (lenM bs)<;>rfl
     dsimp only
     rw [e1,cF]
     show some (row n (iniR 0 i))=some (row n (d0 i))
     congr 1
     refine row_congr fun k _=>?_
     unfold iniR d0
     by_cases e:i=k
     ·rw [if_pos ⟨rfl,e⟩,if_pos e]
     ·rw [if_neg fun h=>e h.2,if_neg e]
    | succ m =>
     have e0:row n (iniR (m+1) i)=row n (farT i):=row_congr fun k _=>by unfold iniR;rw [if_neg (by omega)];rfl
     rw [e0]
     refine count_loop (fun j=>row n ((bs.take j).foldl (addW (wkT bs m)) farT i)) bs.length (fun j hj=>?_) ?_
     ·obtain ⟨a,b,ha,hb',e1,e2,_,_⟩:=bnd_of (List.all_eq_true.1 hb _ (List.getElem_mem hj))
      have t1:bs[j].1.toNat=a:=by omega
      have t2:bs[j].2.1.toNat=b:=by omega
      have e3:((m+1:Nat):Int)-1=(m:Int):=by omega
      have hle:=foldW_le (wkT bs m) (bs.take j) farT i b
      have hfe:farT i b=1152921504606846976:=rfl
      dsimp only
      rw [ltI (by show (j:Int)<(bs.length:Int);omega),andT,ltI (by omega),cT,idxM_lt hj,oB,e3,wrap_in (n:=(m:Int)) (by omega) (by omega),chkM_of (by omega) (by rw [lenRow];omega),oB,row_idx (by omega),oB,rt_idx hi,oB,e1,row_idx ha,oB,e2,foldl_take (addW (wkT bs m)) farT bs j hj,wrap_in (n:=(j:Int)+1) (by omega) (by omega)]
      rcases wk_sz hb (m:=m) (by omega) hi ha with e | e
      ·rw [eqI e,notT,cF]
       have:row n ((bs.take j).foldl (addW (wkT bs m)) farT i)=row n (addW (wkT bs m) ((bs.take j).foldl (addW (wkT bs m)) farT) bs[j] i):=by
        refine row_congr fun k _=>?_
        unfold addW
        rw [t1,t2,e,pl_far]
        by_cases ek:k=b
        ·rw [if_pos ek,ek,Int.min_eq_left (by rw [← hfe];exact hle)]
        ·rw [if_neg ek]
       rw [this]
       rfl
      ·rw [neI (by omega),notF,cT,chk_row hb',oB,row_idx hb',oB,oB]
       refine bind_of (bind_of (set_rowc hb') rfl) ?_
       have:(row n ((bs.take j).foldl (addW (wkT bs m)) farT i)).set b (min ((bs.take j).foldl (addW (wkT bs m)) farT i b) (IntKind.wrap .i64 (wkT bs m i a+bs[j].2.2)))=row n (addW (wkT bs m) ((bs.take j).foldl (addW (wkT bs m)) farT) bs[j] i):=by
        rw [row_set hb']
        refine row_congr fun k _=>?_
        unfold addW
        rw [t1,t2,pl_fin (by omega) (by omega),wrap_in (by omega) (by omega)]
        by_cases ek:k=b
        ·rw [if_pos ek,if_pos ek,ek]
        ·rw [if_neg ek,if_neg ek]
       rw [this]
       all_goals rfl
     ·dsimp only
      rw [geI (Int.le_refl _),andF,cF,List.take_length]
      rfl
  ·dsimp only
   rw [geI (by omega),cF]
   rfl
 ·dsimp only
  rw [gtI (by omega),cF]
theorem m100_eq {x:Sys} (hs:sys x=true):m100 x=some (ovS x):=by
 obtain ⟨hn,hb,he⟩:=sys_all hs
 have hl:=(sys_bnd hs).1.2.2
 have h41:=m76_eq hn hl hb
 rw [he] at h41
 unfold m100
 refine bind_of h41 ?_
 have hx:x.1=((x.1.toNat:Nat):Int):=he.symm
 have hiff:ovS x=true↔∃ m i,1≤m∧m≤x.1.toNat∧i<x.1.toNat∧wkT x.2 m i i<0:=by
  constructor
  ·intro ho
   obtain ⟨i,w,hi,hw,hwk⟩:=ov_walk hs ho
   obtain ⟨m0,hm0⟩:=hwk.wn
   obtain ⟨u,m,w1,hu,g1,g2,g3,g4⟩:=WN.cycle hb m0 hi hw hm0
   have:=(wk_le hb (by omega) hu g4).1
   exact ⟨m,u,g1,g2,hu,by omega⟩
  ·intro ⟨m,i,g1,g2,g3,g4⟩
   exact ov_of_walk hs g3 g4 (wk_walk hb (by omega) g3 g3 (by omega)).wk
 refine Ans.is (Ans.bind (P:=fun o=>(o=.inr true∧ovS x=true)∨(o=.inl ()∧ovS x=false)) ?_ ?_)
 ·refine Ans.loop (fun k s=>s=((k+1:Nat):Int)∧∀ m i,1≤m→m≤k→i<x.1.toNat→¬ wkT x.2 m i i<0) x.1.toNat ⟨rfl,fun m i h1 h2=>by omega⟩ fun k s hk hs'=>?_
  obtain ⟨hs',hP⟩:=hs'
  subst hs'
  by_cases hlt:k<x.1.toNat
  ·rw [leI (by omega),cT]
   refine Ans.bind (P:=fun o=>(o=.inr true∧∃ i,i<x.1.toNat∧wkT x.2 (k+1) i i<0)∨(o=.inl ()∧∀ i,i<x.1.toNat→¬ wkT x.2 (k+1) i i<0)) ?_ ?_
   ·refine Ans.loop (fun i s=>s=(i:Int)∧∀ i',i'<i→¬ wkT x.2 (k+1) i' i'<0) x.1.toNat ⟨rfl,fun i h=>by omega⟩ fun i s hi hs'=>?_
    obtain ⟨hs',hP'⟩:=hs'
    subst hs'
    by_cases hil:i<x.1.toNat
    ·rw [ltI (by omega),cT,row_idx (by omega),oB,rt_idx hil,oB,row_idx hil,oB]
     by_cases hneg:wkT x.2 (k+1) i i<0
     ·rw [ltI hneg,cT]
      exact Ans.some (.inl ⟨rfl,i,hil,hneg⟩)
     ·rw [geI (by omega),cF,wrap_in (by omega) (by omega)]
      refine Ans.some ⟨hil,rfl,fun i' hi'=>?_⟩
      by_cases e:i'=i
      ·subst e;exact hneg
      ·exact hP' i' (by omega)
    ·rw [geI (by omega),cF]
     exact Ans.some (.inr ⟨rfl,fun i' hi'=>hP' i' (by omega)⟩)
   ·rintro o (⟨rfl,i,hi,hneg⟩ | ⟨rfl,hall⟩)
    ·exact Ans.some (.inl ⟨rfl,hiff.2 ⟨k+1,i,by omega,by omega,hi,hneg⟩⟩)
    ·show Ans (some (Sum.inl (IntKind.wrap .i64 (((k+1:Nat):Int)+1)))) _
     rw [wrap_in (by omega) (by omega)]
     refine Ans.some ⟨hlt,rfl,fun m i h1 h2 hi=>?_⟩
     by_cases e:m=k+1
     ·subst e;exact hall i hi
     ·exact hP m i h1 (by omega) hi
  ·rw [gtI (by omega),cF]
   refine Ans.some (.inr ⟨rfl,?_⟩)
   cases ho:ovS x with
   | false=>rfl
   | true =>
    obtain ⟨m,i,g1,g2,g3,g4⟩:=hiff.1 ho
    exact absurd g4 (hP m i g1 (by omega) g3)
 ·rintro o (⟨rfl,h⟩ | ⟨rfl,h⟩)
  ·exact Ans.some h.symm
  ·exact Ans.some h.symm
def mnf (bs:List (Int×Int×Int)) (i k:Nat):Nat→Int
 | 0=>1152921504606846976
 | m+1=>min (mnf bs i k m) (wkT bs m i k)
theorem mnf_le (bs:List (Int×Int×Int)) (i k:Nat):∀ M m,m<M→mnf bs i k M≤wkT bs m i k
 | M+1,m,h=>by
  by_cases e:m=M
  ·subst e;exact Int.min_le_right _ _
  ·exact Int.le_trans (Int.min_le_left _ _) (mnf_le bs i k M m (by omega))
theorem mnf_ge {bs:List (Int×Int×Int)} {i k:Nat} {z:Int} (hz:z≤1152921504606846976):∀ M,(∀ m,m<M→z≤wkT bs m i k)→z≤mnf bs i k M
 | 0,_=>hz
 | M+1,h=>by
  have h1:=mnf_ge hz M fun m hm=>h m (by omega)
  have h2:=h M (by omega)
  show z≤min _ _
  omega
theorem mnf_fw {x:Sys} (hs:sys x=true) (ho:ovS x=false) {i k:Nat} (hi:i<x.1.toNat) (hk:k<x.1.toNat):mnf x.2 i k (x.1.toNat+1)=fwS x i k:=by
 obtain ⟨hn,hb,he⟩:=sys_all hs
 have h1:=mnf_ge (bs:=x.2) (i:=i) (k:=k) (fw_far hs ho hi hk) (x.1.toNat+1) fun m hm=>wk_ge_fw hs ho (by omega) hi hk
 refine Int.le_antisymm ?_ h1
 rcases fw_cases hs ho hi hk with ⟨e,_⟩ | ⟨_,e,_⟩
 ·rw [e]
  have h2:=mnf_le x.2 i k (x.1.toNat+1) 0 (by omega)
  have h3:wkT x.2 0 i k≤1152921504606846976:=by show d0 i k≤_;unfold d0;split<;>omega
  omega
 ·obtain ⟨m,hm,hw⟩:=fw_short hs ho hi hk (q:=fwS x i k) e (Int.le_refl _)
  have h2:=mnf_le x.2 i k (x.1.toNat+1) m (by omega)
  omega
theorem m69_eq (x:Sys):m69 x=m54 x:=by
 rw [m54_eq]
 unfold m69
 rw [show (x.1,x.2)=x from rfl,m75_eq,oB]
 cases hs:sys x with
 | false=>rfl
 | true =>
  obtain ⟨hn,hb,he⟩:=sys_all hs
  have hl:=(sys_bnd hs).1.2.2
  rw [notT,cF,m100_eq hs,oB]
  cases ho:ovS x with
  | true =>
   unfold ovS at ho
   rw [ho]
   rfl
  | false =>
   have ho':=ho
   unfold ovS at ho'
   rw [ho',cF]
   have h41:=m76_eq hn hl hb
   rw [he] at h41
   refine bind_of h41 ?_
   have hmk:mkM x.1 x.1 (nat_lit 8) (0:Int)=some (row x.1.toNat fun _=>0):=by
    rw [mkM_of (by omega) (by omega) (by show x.1*8≤140737488355328;omega),replicate_row]
   refine bind_of (x:=rt x.1.toNat (fun _=>x.1.toNat) (fwS x)) ?_ rfl
   refine count_loop (fun i=>row i fun i=>row x.1.toNat (fwS x i)) x.1.toNat (fun i hi=>?_) ?_
   ·dsimp only
    rw [ltI (by omega),cT]
    refine bind_of hmk (bind_of (x:=row x.1.toNat (fwS x i)) ?_ (bind_of (app_rowOf rfl (by show (i+1)*24≤140737488355328;omega)) (by rw [wrap_in (by omega) (by omega)])))
    have e0:(row x.1.toNat fun _=>(0:Int))=row x.1.toNat fun k=>if k<0 then fwS x i k else 0:=row_congr fun k _=>by rw [if_neg (by omega)]
    rw [e0]
    refine count_loop (fun j=>row x.1.toNat fun k=>if k<j then fwS x i k else 0) x.1.toNat (fun j hj=>?_) ?_
    ·dsimp only
     rw [ltI (by omega),cT,chk_row hj,oB,set_rowc hj,oB,row_set hj]
     refine bind_of (x:=row x.1.toNat fun k=>if k<j+1 then fwS x i k else 0) ?_ (by rw [wrap_in (by omega) (by omega)])
     refine count_loop (fun m=>row x.1.toNat fun k=>if k=j then mnf x.2 i j m else if k<j then fwS x i k else 0) (x.1.toNat+1) (fun m hm=>?_) ?_
     ·dsimp only
      rw [leI (by omega),cT,chk_row hj,oB,row_idx hj,oB,row_idx (by omega),oB,rt_idx hi,oB,row_idx hj,oB,oB,if_pos rfl]
      refine bind_of (set_row hj rfl) ?_
      rw [row_set hj,wrap_in (by omega) (by omega)]
      congr 3
      refine row_congr fun k _=>?_
      by_cases e:k=j
      ·rw [if_pos e,if_pos e];rfl
      ·rw [if_neg e,if_neg e,if_neg e]
     ·dsimp only
      rw [gtI (by omega),cF,mnf_fw hs ho hi hj]
      congr 2
      refine row_congr fun k _=>?_
      by_cases e:k=j
      ·subst e;rw [if_pos rfl,if_pos (by omega)]
      ·rw [if_neg e]
       by_cases e3:k<j
       ·rw [if_pos e3,if_pos (by omega)]
       ·rw [if_neg e3,if_neg (by omega)]
    ·dsimp only
     rw [geI (by omega),cF,row_done]
   ·dsimp only
    rw [geI (by omega),cF]
    rfl
theorem findz_loop {α γ:Type} {xs:List α} (p:α→Bool) (g:Nat→γ) (z:γ) {body:Int→Option (Int⊕γ)}
  (h1:∀ j,xs.findIdx? p=some j→body (j:Int)=some (.inr (g j))) (h2:∀ j (hj:j<xs.length),p xs[j]=false→body (j:Int)=some (.inl ((j:Int)+1))) (he:body (xs.length:Int)=some (.inr z)) :
  loopM body 0=some (match xs.findIdx? p with | some j=>g j | none=>z):=by
 cases hf:xs.findIdx? p with
 | none =>
  rw [List.findIdx?_eq_none_iff] at hf
  refine loopM_fn (fun k=>(k:Int)) xs.length (fun k hk=>h2 k hk (hf _ (List.getElem_mem hk))) he
 | some j =>
  obtain ⟨hj,hp,hall⟩:=List.findIdx?_eq_some_iff_getElem.1 hf
  refine loopM_fn (fun k=>(k:Int)) j (fun k hk=>h2 k (by omega) ?_) (h1 j hf)
  have:=hall k hk
  simpa using this
theorem first_walk {n:Nat} {bs:List (Int×Int×Int)} (hl:bs.length≤60) (hb:bs.all (bnd (n:Int))=true) {M to:Nat} (ht:to<n) {body:Int×Int×Int×List Int→Option ((Int×Int×Int×List Int)⊕List Int)}
  (hbody:body=fun (s:Int×Int×Int×List Int) =>
        bif ltM (0:Int) s.2.1 then
         Option.bind
          (loopM
           (fun (s_1:Int) =>
            bif ltM s_1 (lenM bs) then
             Option.bind (idxM bs s_1) fun (r_3:Int×Int×Int) =>
              Option.bind
               (bif PE.notM (PE.notM (eqM r_3.1 s.1)) then
                idxM (row M fun m=>rt n (fun _=>n) (wkT bs m)) (IntKind.wrap .i64 (s.2.1-(1:Int)))
               else some [])
               fun (r_4:List (List Int)) =>
               Option.bind (bif PE.notM (PE.notM (eqM r_3.1 s.1)) then idxM r_4 r_3.2.1 else some [])
                fun (r_5:List Int) =>
                Option.bind
                 (bif PE.notM (PE.notM (eqM r_3.1 s.1)) then idxM r_5 (to:Int) else some (0:Int))
                 fun (r_6:Int) =>
                 Option.bind
                  (bif
                    PE.notM
                     (PE.orM (PE.notM (eqM r_3.1 s.1)) (eqM r_6 (1152921504606846976:Int))) then
                   idxM (row M fun m=>rt n (fun _=>n) (wkT bs m)) (IntKind.wrap .i64 (s.2.1-(1:Int)))
                  else some [])
                  fun (r_7:List (List Int)) =>
                  Option.bind
                   (bif
                     PE.notM
                      (PE.orM (PE.notM (eqM r_3.1 s.1))
                       (eqM r_6 (1152921504606846976:Int))) then
                    idxM r_7 r_3.2.1
                   else some [])
                   fun (r_8:List Int) =>
                   Option.bind
                    (bif
                      PE.notM
                       (PE.orM (PE.notM (eqM r_3.1 s.1))
                        (eqM r_6 (1152921504606846976:Int))) then
                     idxM r_8 (to:Int)
                    else some (0:Int))
                    fun (r_9:Int) =>
                    bif
                      PE.orM
                       (PE.orM (PE.notM (eqM r_3.1 s.1)) (eqM r_6 (1152921504606846976:Int)))
                       (ltM s.2.2.1 (IntKind.wrap .i64 (r_3.2.2+r_9))) then
                     some (Sum.inl (IntKind.wrap .i64 (s_1+(1:Int))))
                    else
                     Option.bind (appM (nat_lit 8) s.2.2.2 [s_1]) fun (r:List Int) =>
                      some
                       (Sum.inr (r_3.2.1,IntKind.wrap .i64 (s.2.2.1-r_3.2.2),r))
            else some (Sum.inr (s.1,s.2.2.1,s.2.2.2)))
           (0:Int))
          fun (o:Int×Int×List Int) =>
          some (Sum.inl (o.1,IntKind.wrap .i64 (s.2.1-(1:Int)),o.2.1,o.2.2))
        else some (Sum.inr s.2.2.2)) :
  ∀ (m f:Nat) (q:Int) (out:List Int),m≤M→m≤100→f<n→-10000000000000+m*1000000000≤q→q≤10000000000000-m*1000000000→out.length+m≤1000→wkT bs m f to≤q →
   loopM body ((f:Int),(m:Int),q,out)=some (out++chP bs to m f q):=by
 intro m
 induction m with
 | zero =>
  intro f q out _ _ _ _ _ _ _
  have hstep:body ((f:Int),((0:Nat):Int),q,out)=some (.inr out):=by
   rw [hbody]
   dsimp only
   rw [geI (by omega),cF]
  rw [loopM_eq,hstep]
  show some out=some (out++[])
  rw [List.append_nil]
 | succ m ih =>
  intro f q out hM hm hf hq1 hq2 ho h
  obtain ⟨c,hcm,hcp⟩:=stp_ex hb (by omega) hf ht (by omega) h
  cases hi:bs.findIdx? (stp bs to m f q) with
  | none =>
   rw [List.findIdx?_eq_none_iff] at hi
   rw [hi c hcm] at hcp
   cases hcp
  | some k =>
   obtain ⟨hk,hp2,_⟩:=List.findIdx?_eq_some_iff_getElem.1 hi
   obtain ⟨h1,h2,h3⟩:=stp_rest hb (by omega) ht (by omega) (List.getElem_mem hk) hp2
   have hcb:=of_decide_eq_true (List.all_eq_true.1 hb _ (List.getElem_mem hk))
   have e4:chP bs to (m+1) f q=(k:Int)::chP bs to m bs[k].2.1.toNat (q-bs[k].2.2):=by
    show (match bs.findIdx? (stp bs to m f q) with | some k=>_ | none=>_)=_
    rw [hi]
    show (k:Int)::chP bs to m (bs.getD k (0,0,0)).2.1.toNat (q-(bs.getD k (0,0,0)).2.2)=_
    rw [getD_of hk]
   have t4:((bs[k].2.1.toNat:Nat):Int)=bs[k].2.1:=by omega
   have e3:((m+1:Nat):Int)-1=(m:Int):=by omega
   have hstep:body ((f:Int),((m+1:Nat):Int),q,out)=some (.inl ((bs[k].2.1.toNat:Int),(m:Int),q-bs[k].2.2,out++[(k:Int)])):=by
    rw [hbody]
    dsimp only
    rw [ltI (by omega),cT]
    have hfg:=fun body h1 h2 he=>findz_loop (xs:=bs) (stp bs to m f q) (fun j=>((bs[k]'hk).2.1,q-(bs[k]'hk).2.2,out++[(k:Int)])) ((f:Int),q,out) (body:=body) h1 h2 he
    rw [hi] at hfg
    refine bind_of (hfg _ (fun j hj=>?_) (fun j hj hp=>?_) ?_) ?_
    ·have ej:j=k:=(Option.some.inj hj).symm
     subst ej
     obtain ⟨a,b,ha,hb',g1,g2,_,_⟩:=bnd_of (List.all_eq_true.1 hb _ (List.getElem_mem hk))
     have t2:bs[j].2.1.toNat=b:=by omega
     rw [t2] at h3
     rw [ltI (a:=(j:Int)) (b:=lenM bs) (by show (j:Int)<(bs.length:Int);omega),cT,idxM_lt hk,oB,eqI h1,notT,notF,cT,e3,wrap_in (n:=(m:Int)) (by omega) (by omega),row_idx (by omega),oB,cT,g2,rt_idx hb',oB,cT,row_idx ht,oB,orF]
     rcases wk_sz hb (m:=m) (by omega) hb' ht with e | e
     ·omega
     ·rw [neI (by omega),notF,cT,oB,cT,rt_idx hb',oB,cT,row_idx ht,oB,orF,wrap_in (n:=bs[j].2.2+wkT bs m b to) (by omega) (by omega),geI (by omega),cF,appM_of (by show (out.length+1)*8≤140737488355328;omega),oB,wrap_in (by omega) (by omega)]
    ·obtain ⟨a,b,ha,hb',g1,g2,_,_⟩:=bnd_of (List.all_eq_true.1 hb _ (List.getElem_mem hj))
     have t2:bs[j].2.1.toNat=b:=by omega
     unfold stp at hp
     rw [t2] at hp
     rw [ltI (a:=(j:Int)) (b:=lenM bs) (by show (j:Int)<(bs.length:Int);omega),cT,idxM_lt hj,oB]
     by_cases e:bs[j].1=(f:Int)
     ·rw [dT e,Bool.true_and] at hp
      have hp:=of_decide_eq_false hp
      rw [eqI e,notT,notF,cT,e3,wrap_in (n:=(m:Int)) (by omega) (by omega),row_idx (by omega),oB,cT,g2,rt_idx hb',oB,cT,row_idx ht,oB,orF]
      rcases wk_sz hb (m:=m) (by omega) hb' ht with e' | e'
      ·rw [eqI e',notT,cF,oB,cF,oB,cF,oB,orT,cT,wrap_in (by omega) (by omega)]
      ·rw [pl_sz (by omega) (by omega)] at hp
       rw [neI (by omega),notF,cT,oB,cT,rt_idx hb',oB,cT,row_idx ht,oB,orF,wrap_in (n:=bs[j].2.2+wkT bs m b to) (by omega) (by omega),ltI (by omega),cT,wrap_in (by omega) (by omega)]
     ·rw [neI e,notF,notT,cF,oB,cF,oB,cF,oB,orT,notT,cF,oB,cF,oB,cF,oB,orT,cT,wrap_in (by omega) (by omega)]
    ·rw [geI (Int.le_refl _),cF]
    ·show some (Sum.inl (bs[k].2.1,IntKind.wrap .i64 (((m+1:Nat):Int)-1),q-bs[k].2.2,out++[(k:Int)]))=_
     rw [e3,wrap_in (by omega) (by omega),t4]
   rw [loopM_eq,hstep]
   show loopM body _=_
   rw [ih bs[k].2.1.toNat (q-bs[k].2.2) (out++[(k:Int)]) (by omega) (by omega) h2 (by omega) (by omega) (by rw [List.length_append];show out.length+1+m≤1000;omega) h3,e4,List.append_assoc]
   rfl
theorem m77_eq {n:Nat} {bs:List (Int×Int×Int)} (hl:bs.length≤60) (hb:bs.all (bnd (n:Int))=true) {M to m f:Nat} {q:Int} (ht:to<n) (hM:m<M) (hm:m≤100) (hf:f<n) (hq1:-1000000000000≤q) (hq2:q≤1000000000000) :
  m77 (((n:Int),bs),row M (fun m=>rt n (fun _=>n) (wkT bs m)),(f:Int),(to:Int),(m:Int),q)=some (if wkT bs m f to≤q then (chP bs to m f q,true) else ([],false)):=by
 unfold m77
 dsimp only
 rw [row_idx hM,oB,rt_idx hf,oB,row_idx ht,oB]
 by_cases h:wkT bs m f to≤q
 ·rw [geI h,cF,if_pos h]
  exact bind_of (first_walk hl hb (M:=M) ht rfl m f q [] (by omega) hm hf (by omega) (by omega) (by show 0+m≤1000;omega) h) rfl
 ·rw [ltI (by omega),cT,if_neg h]
end Go.Proofs.YtfekoiabjbdnfaaGreat
