/-
 Texts of this proof, put together: Ah, Bm, Bn, Ai, Bo, Aj, Bp, Ca, Cb, Cc, Cd, LawArchiveForks.
 No conditions.
-/
import Derived.Test.YtdnabfadigkjgaaGreatDoorZ5
import Derived.Test.YtdnabfadigkjgaaGreatDoorZ6
set_option linter.all false
namespace Go.Ar
def gv:Bs→Nat
 | []=>0
 | b::l=>b.toNat % 128+128*gv l
theorem gv_snoc:∀ (l:Bs) (b:UInt8),gv (l++[b])=gv l+b.toNat % 128*128 ^ l.length
 | [],b=>by simp [gv]
 | a::l,b=>by
  simp only [List.cons_append,gv,gv_snoc l b,List.length_cons,Nat.pow_succ]
  rw [Nat.mul_add,← Nat.add_assoc,Nat.mul_comm (128 ^ l.length),Nat.mul_left_comm]
theorem gv_lt:∀ (l:Bs),gv l<128 ^ l.length
 | []=>by simp [gv]
 | b::l=>by
  have:=gv_lt l
  simp only [gv,List.length_cons,Nat.pow_succ];omega
theorem gv_grp (z:Nat):gv (grp z)=z:=by
 induction z using Nat.strongRecOn with
 | _ z ih =>
  by_cases h:z<128
  ·rw [grp_lt h];simp only [gv];rw [u8 (by omega)];omega
  ·rw [grp_ge (by omega)]
   simp only [gv]
   rw [ih _ (by omega),u8 (by omega)];omega
def Sh (l:Bs) (c:Bs) (b:UInt8):Prop:=l=c++[b]∧(∀ x∈c,128≤x.toNat)∧b.toNat<128
theorem grp_sh (z:Nat):∃ c b,Sh (grp z) c b∧(c=[]∨b.toNat≠0):=by
 induction z using Nat.strongRecOn with
 | _ z ih =>
  by_cases h:z<128
  ·exact ⟨[],UInt8.ofNat z,⟨grp_lt h,fun x hx=>(by simp at hx),by rw [u8 (by omega)];exact h⟩,.inl rfl⟩
  ·obtain ⟨c,b,⟨h1,h2,h3⟩,h4⟩:=ih (z / 128) (by omega)
   refine ⟨UInt8.ofNat (z % 128+128)::c,b,⟨by rw [grp_ge (by omega),h1];rfl,fun x hx=>?_,h3⟩,.inr ?_⟩
   ·rcases List.mem_cons.1 hx with q | q
    ·rw [q,u8 (by omega)];omega
    ·exact h2 x q
   ·rcases h4 with rfl | h4
    ·intro e
     have e1:gv (grp (z / 128))=z / 128:=gv_grp _
     rw [h1] at e1
     simp only [List.nil_append,gv,e] at e1
     omega
    ·exact h4
theorem sh_grp:∀ {c:Bs} {b:UInt8} {l:Bs},Sh l c b→(c=[]∨b.toNat≠0)→grp (gv l)=l
 | [],b,l,⟨h1,h2,h3⟩,_=>by
  subst h1
  simp only [List.nil_append,gv]
  rw [grp_lt (by omega)]
  congr 1
  apply u8eq;rw [u8 (by omega)];omega
 | x::c,b,l,⟨h1,h2,h3⟩,h4=>by
  have hb:b.toNat≠0:=h4.resolve_left (by simp)
  subst h1
  have hx:=h2 x (by simp)
  have hx2:=u8lt x
  have ih:=sh_grp (c:=c) (b:=b) ⟨rfl,fun y hy=>h2 y (by simp [hy]),h3⟩ (.inr hb)
  have hpos:0<gv (c++[b]):=by
   rw [gv_snoc]
   have:0<128 ^ c.length:=Nat.pow_pos (by omega)
   have:0<b.toNat % 128*128 ^ c.length:=Nat.mul_pos (by omega) this
   omega
  simp only [List.cons_append,gv]
  rw [grp_ge (by omega)]
  have e1:(x.toNat % 128+128*gv (c++[b])) / 128=gv (c++[b]):=by omega
  have e2:(x.toNat % 128+128*gv (c++[b])) % 128=x.toNat % 128:=by omega
  rw [e1,e2,ih]
  congr 1
  apply u8eq;rw [u8 (by omega)];omega
theorem sh_pre:∀ {c c':Bs} {b b':UInt8} {l l' x y:Bs},Sh l c b→Sh l' c' b'→l++x=l'++y→l=l'
 | [],[],b,b',l,l',x,y,⟨h1,_,h3⟩,⟨g1,_,g3⟩,e=>by
  subst h1;subst g1
  simp at e
  rw [e.1]
 | [],d::c',b,b',l,l',x,y,⟨h1,_,h3⟩,⟨g1,g2,g3⟩,e=>by
  subst h1;subst g1
  simp at e
  have:=g2 d (by simp)
  rw [← e.1] at this;omega
 | d::c,[],b,b',l,l',x,y,⟨h1,h2,h3⟩,⟨g1,g2,g3⟩,e=>by
  subst h1;subst g1
  simp at e
  have:=h2 d (by simp)
  rw [e.1] at this;omega
 | d::c,d'::c',b,b',l,l',x,y,⟨h1,h2,h3⟩,⟨g1,g2,g3⟩,e=>by
  subst h1;subst g1
  simp only [List.cons_append,List.cons.injEq] at e ⊢
  refine ⟨e.1,?_⟩
  exact sh_pre (c:=c) (c':=c') (b:=b) (b':=b') ⟨rfl,fun z hz=>h2 z (by simp [hz]),h3⟩ ⟨rfl,fun z hz=>g2 z (by simp [hz]),g3⟩ e.2
theorem isI_sh {t l c:Bs} {b:UInt8} (hl:Sh l c b) (ht:l <+: t) {n:Int} {k:Nat}:IsI t n k↔inR n∧pI n=l∧k=l.length:=by
 constructor
 ·rintro ⟨h1,h2,y,hy⟩
  obtain ⟨x,hx⟩:=ht
  obtain ⟨c',b',h3,_⟩:=grp_sh (zz n)
  have e:pI n=l:=sh_pre h3 hl (show pI n++y=l++x by rw [hy,hx])
  exact ⟨h1,e,by rw [h2,e]⟩
 ·rintro ⟨h1,h2,h3⟩
  exact ⟨h1,by rw [h3,h2],by rw [h2];exact ht⟩
theorem isI_canon {t l c:Bs} {b:UInt8} (hl:Sh l c b) (ht:l <+: t) {n:Int} {k:Nat}:IsI t n k↔inR n∧n=uz (gv l)∧(c=[]∨b.toNat≠0)∧k=l.length:=by
 rw [isI_sh hl ht]
 constructor
 ·rintro ⟨h1,h2,h3⟩
  have e:zz n=gv l:=by rw [← h2];exact (gv_grp _).symm
  refine ⟨h1,by rw [← e,uz_zz],?_,h3⟩
  obtain ⟨c',b',g1,g2⟩:=grp_sh (zz n)
  have:c'++[b']=c++[b]:=by rw [← g1.1,← hl.1];exact h2
  obtain ⟨p,q⟩:=List.append_inj' this rfl
  simp at q
  rw [← p,← q];exact g2
 ·rintro ⟨h1,h2,h3,h4⟩
  refine ⟨h1,?_,h4⟩
  unfold pI
  rw [h2,zz_uz,sh_grp hl h3]
theorem isI_none {t:Bs} {i:Nat} (h:∀ x∈t.take i,128≤x.toNat) (hi:i=9∨t.length≤i) (n:Int) (k:Nat):¬ IsI t n k:=by
 rintro ⟨h1,h2,y,hy⟩
 obtain ⟨c,b,h3,_⟩:=grp_sh (zz n)
 have hl:=pI_len h1
 have e:pI n=c++[b]:=h3.1
 rw [e] at hl hy
 simp only [List.length_append,List.length_singleton] at hl
 have hb:b∈t.take i:=by
  rw [← hy,List.append_assoc]
  rcases hi with rfl | hi
  ·rw [List.take_append]
   obtain ⟨m,hm⟩:∃ m,9-c.length=m+1:=⟨8-c.length,by omega⟩
   rw [hm];simp
  ·rw [← hy] at hi
   rw [List.take_of_length_le (by rw [List.append_assoc] at hi;exact hi)];simp
 have:=h b hb
 have:=h3.2.2
 omega
def IntR (s:Bs) (p:Nat) (r:Int×Int×Int):Prop:=(∀ n k,IsI (s.drop p) n k→r=(n,((p+k:Nat):Int),0))∧((∀ n k,¬ IsI (s.drop p) n k)→r=(0,0,10))
def StrR (s:Bs) (p:Nat) (r:Bs×Int×Int):Prop:=(∀ n k,IsS (s.drop p) n k→r=(n,((p+k:Nat):Int),0))∧((∀ n k,¬ IsS (s.drop p) n k)→r=([],0,10))
theorem IntR.cases {s:Bs} {p:Nat} {r:Int×Int×Int} (h:IntR s p r):(∃ n k,IsI (s.drop p) n k∧r=(n,((p+k:Nat):Int),0))∨((∀ n k,¬ IsI (s.drop p) n k)∧r=(0,0,10)):=by
 by_cases e:∃ n k,IsI (s.drop p) n k
 ·obtain ⟨n,k,e⟩:=e
  exact .inl ⟨n,k,e,h.1 n k e⟩
 ·have e2:∀ n k,¬ IsI (s.drop p) n k:=fun n k q=>e ⟨n,k,q⟩
  exact .inr ⟨e2,h.2 e2⟩
theorem StrR.cases {s:Bs} {p:Nat} {r:Bs×Int×Int} (h:StrR s p r):(∃ n k,IsS (s.drop p) n k∧r=(n,((p+k:Nat):Int),0))∨((∀ n k,¬ IsS (s.drop p) n k)∧r=([],0,10)):=by
 by_cases e:∃ n k,IsS (s.drop p) n k
 ·obtain ⟨n,k,e⟩:=e
  exact .inl ⟨n,k,e,h.1 n k e⟩
 ·have e2:∀ n k,¬ IsS (s.drop p) n k:=fun n k q=>e ⟨n,k,q⟩
  exact .inr ⟨e2,h.2 e2⟩
theorem IsI.le {t:Bs} {n:Int} {k:Nat} (h:IsI t n k):k≤t.length∧t=pI n++t.drop k:=by
 obtain ⟨_,rfl,x,hx⟩:=h
 rw [← hx]
 simp
theorem IsS.le {t u:Bs} {k:Nat} (h:IsS t u k):k≤t.length∧t=pS u++t.drop k:=by
 obtain ⟨_,rfl,x,hx⟩:=h
 rw [← hx]
 simp
end Go.Ar
namespace Go.Proofs.YtdnabfadigkjgaaGreatDoor
open Go Go.Lib Go.Abs Go.PE Go.Ar
theorem pow128 (i:Nat):128 ^ i=2 ^ (7*i):=by rw [Nat.pow_mul]
theorem take_snoc {s:Bs} {p i:Nat} {b:UInt8} (h:s[p+i]? = some b):(s.drop p).take (i+1)=(s.drop p).take i++[b]:=by
 rw [List.take_add_one,List.getElem?_drop,h];rfl
theorem sub_len {s:Bs} {p i:Nat} (h:p+i≤s.length):((s.drop p).take i).length=i:=by rw [List.length_take,List.length_drop];omega
theorem pre_take (t:Bs) (i:Nat):t.take i <+: t:=List.take_prefix _ _
theorem grp_add {i:Nat} (hi:i<9) {z:Nat} (hz:z<128 ^ i) {d:Nat} (hd:d<128):z+d*128 ^ i<9223372036854775808:=by
 have h1:(d+1)*128 ^ i≤128*128 ^ i:=Nat.mul_le_mul_right _ (by omega)
 have h2:128*128 ^ i=128 ^ (i+1):=by rw [Nat.pow_succ,Nat.mul_comm]
 have h3:128 ^ (i+1)≤128 ^ 9:=Nat.pow_le_pow_right (by omega) (by omega)
 have h4:(128:Nat) ^ 9=9223372036854775808:=by decide
 rw [Nat.add_mul] at h1
 omega
theorem xorNeg (m:Nat) (hm:m<4611686018427387904) (o:Nat) (ho:o<2):bitM .xor .i64 (m:Int) (IntKind.wrap .i64 (negM (o:Int)))=if o=0 then (m:Int) else -(m:Int)-1:=by
 unfold negM
 rw [wrap_in (by omega) (by omega)]
 unfold bitM
 dsimp only
 have b1:(BitVec.ofInt IntKind.i64.bits (m:Int)).toNat=m % 18446744073709551616:=by rw [BitVec.ofInt_natCast];rfl
 rw [BitVec.toNat_xor,b1,Nat.mod_eq_of_lt (by omega)]
 by_cases h:o=0
 ·subst h
  rw [if_pos rfl,show (BitVec.ofInt IntKind.i64.bits (-((0:Nat):Int))).toNat=0 from rfl,Nat.xor_zero,wrap_in (by omega) (by omega)]
 ·have:o=1:=by omega
  subst this
  rw [if_neg (by omega),show (BitVec.ofInt IntKind.i64.bits (-((1:Nat):Int))).toNat=18446744073709551615 from rfl,xorAll64 (by omega),IntKind.wrap_i64]
  omega
theorem uz_eq (z:Nat):(if z % 2=0 then ((z / 2:Nat):Int) else -((z / 2:Nat):Int)-1)=uz z:=rfl
theorem wInt_ok {s:Bs} {p:Nat} (hp:p≤s.length) (hs:s.length≤1000000):Ans (m105 (s,(p:Int))) (IntR s p):=by
 unfold m105
 dsimp only
 rw [lenI,geI (by omega),geI (by omega),orF,cF]
 refine Ans.bind (P:=fun (o:Unit⊕Int×Int×Int)=>(o=.inl ()∧∀ n k,¬ IsI (s.drop p) n k)∨∃ r,o=.inr r∧IntR s p r) ?_ fun o ho=>?_
 ·refine Ans.loop (fun i z=>z=((gv ((s.drop p).take i):Int),(i:Int))∧i≤9∧p+i≤s.length∧∀ x∈(s.drop p).take i,128≤x.toNat) 9 ⟨by simp [gv],by omega,by omega,fun x hx=>by simp at hx⟩ ?_
  rintro i z hi ⟨rfl,h1,h2,h3⟩
  dsimp only
  by_cases h9:i=9
  ·rw [geI (by omega),cF]
   exact Ans.some (.inl ⟨rfl,isI_none h3 (.inl h9)⟩)
  rw [ltI (by omega),cT,wrap_in (n:=(p:Int)+(i:Int)) (by omega) (by omega),show (p:Int)+(i:Int)=((p+i:Nat):Int) by omega]
  by_cases hl:p+i<s.length
  ·obtain ⟨b,hb⟩:∃ b,s[p+i]? = some b:=⟨_,List.getElem?_eq_getElem hl⟩
   have hbl:=u8lt b
   have hz:=gv_lt ((s.drop p).take i)
   rw [sub_len (by omega)] at hz
   have hlen:=sub_len (s:=s) (p:=p) (i:=i) (by omega)
   have hsn:=take_snoc hb
   have hadd:=grp_add (i:=i) (by omega) hz (show b.toNat % 128<128 by omega)
   have hgv:gv ((s.drop p).take (i+1))=gv ((s.drop p).take i)+b.toNat % 128*128 ^ i:=by rw [hsn,gv_snoc,hlen]
   have hlt2:b.toNat % 128*128 ^ i<9223372036854775808:=by omega
   rw [gtI (by omega),cF,byteM_of hb,oB,show (127:Int)=((127:Nat):Int) from rfl,and8 (by omega) (by omega),and127,wu64_in (n:=((b.toNat % 128:Nat):Int)) (by omega) (by omega),wrap_in (n:=7*(i:Int)) (by omega) (by omega),show 7*(i:Int)=((7*i:Nat):Int) by omega,shlM_of (k:=.u64) (by show 7*i≤64;omega),oB]
   have e1:IntKind.wrap .u64 (((b.toNat % 128:Nat):Int)*2 ^ (7*i))=((b.toNat % 128*128 ^ i:Nat):Int):=by
    rw [pow128,show (((b.toNat % 128:Nat):Int)*2 ^ (7*i))=((b.toNat % 128*2 ^ (7*i):Nat):Int) by rw [Int.natCast_mul,Int.natCast_pow];rfl]
    rw [pow128] at hlt2
    exact wu64_in (by omega) (by omega)
   have e2:bitM .or .u64 (gv ((s.drop p).take i):Int) ((b.toNat % 128*128 ^ i:Nat):Int)=(gv ((s.drop p).take (i+1)):Int):=by
    rw [or64 (by omega) (by omega),hgv,Nat.or_comm,pow128]
    rw [pow128] at hz
    have:=Nat.two_pow_add_eq_or_of_lt hz (b.toNat % 128)
    rw [Nat.mul_comm,← this,Nat.add_comm]
   rw [e1,e2]
   by_cases hc:128≤b.toNat
   ·rw [leI (by omega),cT,wrap_in (n:=(i:Int)+1) (by omega) (by omega)]
    refine Ans.some ⟨by omega,rfl,by omega,by omega,fun x hx=>?_⟩
    rw [hsn] at hx
    rcases List.mem_append.1 hx with q | q
    ·exact h3 x q
    ·rw [List.mem_singleton.1 q];exact hc
   ·have hsh:Sh ((s.drop p).take (i+1)) ((s.drop p).take i) b:=⟨hsn,h3,by omega⟩
    have hcan:=fun n k=>isI_canon (n:=n) (k:=k) hsh (pre_take _ _)
    have hZ:gv ((s.drop p).take (i+1))<9223372036854775808:=by rw [hgv];exact hadd
    have hlen1:((s.drop p).take (i+1)).length=i+1:=sub_len (by omega)
    have hc0:(s.drop p).take i=[]↔i=0:=by rw [← List.length_eq_zero_iff,hlen]
    generalize gv ((s.drop p).take (i+1))=Z at hcan hZ
    rw [gtI (by omega),cF,shrI (n:=1) (k:=.u64) Z 1 rfl (by decide),oB,show (1:Int)=((1:Nat):Int) from rfl,and64 (by omega) (by omega),and1,wrap_in (n:=((shr Z 1:Nat):Int)) (by show _≤((Z / 2:Nat):Int);omega) (by show ((Z / 2:Nat):Int)≤_;omega),wrap_in (n:=((Z % 2:Nat):Int)) (by omega) (by omega),show shr Z 1=Z / 2 from rfl,xorNeg (Z / 2) (by omega) (Z % 2) (by omega),uz_eq]
    have hub:uz Z≤4611686018427387903:=by unfold uz;split<;>omega
    by_cases hbad:(b.toNat=0∧0<i)∨uz Z < -4611686018427387903
    ·have:PE.orM (PE.andM (eqM (b.toNat:Int) 0) (ltM 0 (i:Int))) (ltM (uz Z) (-4611686018427387903))=true:=by
      unfold PE.orM PE.andM eqM ltM
      rw [← Bool.decide_and,← Bool.decide_or]
      exact dT (by omega)
     rw [this,cT]
     refine Ans.some (.inl ⟨rfl,fun n k h=>?_⟩)
     obtain ⟨g1,g2,g3,g4⟩:=(hcan n k).1 h
     rw [hc0] at g3
     unfold inR at g1
     omega
    ·have:PE.orM (PE.andM (eqM (b.toNat:Int) 0) (ltM 0 (i:Int))) (ltM (uz Z) (-4611686018427387903))=false:=by
      unfold PE.orM PE.andM eqM ltM
      rw [← Bool.decide_and,← Bool.decide_or]
      exact decide_eq_false (by omega)
     rw [this,cF]
     have hin:IsI (s.drop p) (uz Z) (i+1):=(hcan _ _).2 ⟨by unfold inR;omega,rfl,by rw [hc0];omega,hlen1.symm⟩
     refine Ans.some (.inr ⟨_,rfl,fun n k h=>?_,fun h=>absurd hin (h _ _)⟩)
     obtain ⟨q1,q2⟩:=h.uniq hin
     rw [q1,q2,wrap_in (by omega) (by omega)]
     congr 1
  ·rw [leI (by omega),cT]
   exact Ans.some (.inl ⟨rfl,isI_none h3 (.inr (by rw [List.length_drop];omega))⟩)
 ·rcases ho with ⟨rfl,h⟩ | ⟨r,rfl,h⟩
  ·exact Ans.some ⟨fun n k q=>absurd q (h n k),fun _=>rfl⟩
  ·exact Ans.some h
theorem isS_of {t:Bs} {n:Int} {k:Nat} (h:IsI t n k) (h0:0≤n) (h1:n≤65536) (h2:k+n.toNat≤t.length):IsS t ((t.drop k).take n.toNat) (k+n.toNat):=by
 obtain ⟨hk,e⟩:=h.le
 obtain ⟨_,rfl,_⟩:=h
 have hl:((t.drop (pI n).length).take n.toNat).length=n.toNat:=by rw [List.length_take,List.length_drop];omega
 have hl2:((((t.drop (pI n).length).take n.toNat).length:Nat):Int)=n:=by rw [hl];omega
 refine ⟨by omega,?_,?_⟩
 ·unfold pS
  rw [List.length_append,hl2,hl]
 ·unfold pS
  rw [hl2]
  conv=>rhs;rw [e]
  exact List.prefix_append_right_inj _ |>.2 (List.take_prefix _ _)
theorem isI_of {t u:Bs} {k:Nat} (h:IsS t u k):IsI t u.length (k-u.length)∧u.length≤k∧(t.drop (k-u.length)).take u.length=u∧k≤t.length:=by
 obtain ⟨hk,e⟩:=h.le
 obtain ⟨h1,rfl,h3⟩:=h
 have hl:(pS u).length-u.length=(pI u.length).length:=by unfold pS;rw [List.length_append];omega
 rw [hl]
 refine ⟨⟨inR_len h1,rfl,?_⟩,by unfold pS;rw [List.length_append];omega,?_,hk⟩
 ·obtain ⟨x,hx⟩:=h3
  exact ⟨u++x,by rw [← hx];unfold pS;rw [List.append_assoc]⟩
 ·rw [e]
  unfold pS
  rw [List.append_assoc,List.drop_left,List.take_left]
theorem str_ok {s:Bs} {p:Nat} (hp:p≤s.length) (hs:s.length≤1000000) {r:Int×Int×Int} (hr:IntR s p r) :
  Ans (bif PE.notM (eqM r.2.2 0) then some ([],0,r.2.2) else bif PE.orM (PE.orM (ltM r.1 0) (ltM 65536 r.1)) (ltM (IntKind.wrap .i64 (lenM s-r.2.1)) r.1) then some ([],0,10) else (sliceM s r.2.1 (IntKind.wrap .i64 (r.2.1+r.1))).bind fun r_1=>some (r_1,IntKind.wrap .i64 (r.2.1+r.1),0)) (StrR s p):=by
 rcases hr.cases with ⟨n,k,h,rfl⟩ | ⟨h,rfl⟩
 ·dsimp only
  have hk:=h.le.1
  have hn:=h.1
  unfold inR at hn
  rw [List.length_drop] at hk
  rw [eqI rfl,notT,cF,lenI,wrap_in (n:=(s.length:Int)-((p+k:Nat):Int)) (by omega) (by omega)]
  by_cases hb:(n<0∨65536<n)∨(s.length:Int)-((p+k:Nat):Int)<n
  ·have:PE.orM (PE.orM (ltM n 0) (ltM 65536 n)) (ltM ((s.length:Int)-((p+k:Nat):Int)) n)=true:=by
    unfold PE.orM ltM
    rw [← Bool.decide_or,← Bool.decide_or];exact dT hb
   rw [this,cT]
   refine Ans.some ⟨fun u j g=>?_,fun _=>rfl⟩
   obtain ⟨g1,g2,g3,g4⟩:=isI_of g
   obtain ⟨q1,q2⟩:=g1.uniq h
   have:=g.1
   rw [List.length_drop] at g4
   omega
  ·have:PE.orM (PE.orM (ltM n 0) (ltM 65536 n)) (ltM ((s.length:Int)-((p+k:Nat):Int)) n)=false:=by
    unfold PE.orM ltM
    rw [← Bool.decide_or,← Bool.decide_or];exact decide_eq_false hb
   have hS:=isS_of h (by omega) (by omega) (by rw [List.length_drop];omega)
   rw [this,cF,wrap_in (by omega) (by omega),sliceM_of (by omega) (by omega) (by omega),oB]
   have e:((s.take (((p+k:Nat):Int)+n).toNat).drop ((p+k:Nat):Int).toNat)=((s.drop p).drop k).take n.toNat:=by
    rw [List.drop_take,List.drop_drop,show (((p+k:Nat):Int)+n).toNat-((p+k:Nat):Int).toNat=n.toNat by omega,Int.toNat_natCast]
   rw [e]
   refine Ans.some ⟨fun u j g=>?_,fun g=>absurd hS (g _ _)⟩
   obtain ⟨q1,q2⟩:=g.uniq hS
   rw [q1,q2]
   congr 2
   omega
 ·dsimp only
  rw [neI (by decide),notF,cT]
  refine Ans.some ⟨fun u j g=>absurd (isI_of g).1 (h _ _),fun _=>rfl⟩
theorem wStr_ok {s:Bs} {p:Nat} (hp:p≤s.length) (hs:s.length≤1000000):Ans (m107 (s,(p:Int))) (StrR s p):=by
 unfold m107
 dsimp only
 exact Ans.bind (wInt_ok hp hs) fun r hr=>str_ok hp hs hr
def RepR (s:Bs) (o:Rp×Int):Prop:=(∀ r,OkR r→s=en r→o=(r,0))∧((∀ r,OkR r→s≠en r)→o=(zR,390))
theorem wInt_next {s:Bs} (hs:s.length≤1000000) {p:Nat} (hp:p≤s.length) {f:Int×Int×Int→Option (Rp×Int)}
  (h2:(∀ n x,inR n→s.drop p≠pI n++x)→Ans (f (0,0,10)) (RepR s))
  (h1:∀ n k,inR n→s.drop p=pI n++s.drop (p+k)→p+k≤s.length→Ans (f (n,((p+k:Nat):Int),0)) (RepR s)):Ans ((m105 (s,(p:Int))).bind f) (RepR s):=by
 refine Ans.bind (wInt_ok hp hs) fun r hr=>?_
 rcases hr.cases with ⟨n,k,h,rfl⟩ | ⟨h,rfl⟩
 ·obtain ⟨q1,q2⟩:=h.le
  rw [List.length_drop] at q1
  rw [List.drop_drop] at q2
  exact h1 n k h.1 q2 (by omega)
 ·refine h2 fun n x hn e=>h n (pI n).length ⟨hn,rfl,?_⟩
  exact ⟨x,e.symm⟩
theorem wStr_next {s:Bs} (hs:s.length≤1000000) {p:Nat} (hp:p≤s.length) {f:Bs×Int×Int→Option (Rp×Int)}
  (h2:(∀ (n:Bs) x,n.length≤65536→s.drop p≠pS n++x)→Ans (f ([],0,10)) (RepR s))
  (h1:∀ (n:Bs) k,n.length≤65536→s.drop p=pS n++s.drop (p+k)→p+k≤s.length→Ans (f (n,((p+k:Nat):Int),0)) (RepR s)):Ans ((m107 (s,(p:Int))).bind f) (RepR s):=by
 refine Ans.bind (wStr_ok hp hs) fun r hr=>?_
 rcases hr.cases with ⟨n,k,h,rfl⟩ | ⟨h,rfl⟩
 ·obtain ⟨q1,q2⟩:=h.le
  rw [List.length_drop] at q1
  rw [List.drop_drop] at q2
  exact h1 n k h.1 q2 (by omega)
 ·refine h2 fun n x hn e=>h n (pS n).length ⟨hn,rfl,?_⟩
  exact ⟨x,e.symm⟩
theorem ok_inR {r:Rp} (h:OkR r):inR r.sv∧inR r.nu∧inR r.da∧inR r.ki∧inR r.su∧inR r.va∧inR r.rf∧r.pv.length≤65536∧r.tg.length≤65536:=by
 obtain ⟨a1,a2,a3,a4,a5,a6,a7,a8,a9⟩:=h
 unfold inR
 omega
theorem en_eq (r:Rp):en r=pI r.sv++(pI r.nu++(pI r.da++(pI r.ki++(pI r.su++(pI r.va++(pI r.rf++(pS r.pv++(pS r.tg++[])))))))):=by
 unfold en sg;simp
theorem rep_bad {s:Bs} (h:∀ r,OkR r→s≠en r):Ans (some (((0,0,0,0,0,0,0,[],[]):Rp),(390:Int))) (RepR s):=Ans.some ⟨fun r hr e=>absurd e (h r hr),fun _=>rfl⟩
theorem wDec_ok {s:Bs} (hs:s.length≤1000000):Ans (m22 s) (RepR s):=by
 unfold m22
 refine wInt_next (p:=0) hs (by omega) (fun h=>?_) (fun n1 k1 i1 e1 l1=>?_)
 ·dsimp only
  rw [neI (by decide),notF,cT]
  refine rep_bad fun r hr e=>?_
  have e0:=e
  rw [en_eq] at e0
  rw [← List.drop_zero (l:=s)] at e0
  exact h r.sv _ (ok_inR hr).1 e0
 dsimp only
 rw [eqI rfl,notT,cF]
 refine wInt_next (p:=(0+k1)) hs (by omega) (fun h=>?_) (fun n2 k2 i2 e2 l2=>?_)
 ·dsimp only
  rw [neI (by decide),notF,cT]
  refine rep_bad fun r hr e=>?_
  have e0:=e
  rw [en_eq] at e0
  rw [← List.drop_zero (l:=s)] at e0
  rw [e1] at e0
  obtain ⟨_,e0⟩:=pI_pre e0
  exact h r.nu _ (ok_inR hr).2.1 e0
 dsimp only
 rw [eqI rfl,notT,cF]
 refine wInt_next (p:=((0+k1)+k2)) hs (by omega) (fun h=>?_) (fun n3 k3 i3 e3 l3=>?_)
 ·dsimp only
  rw [neI (by decide),notF,cT]
  refine rep_bad fun r hr e=>?_
  have e0:=e
  rw [en_eq] at e0
  rw [← List.drop_zero (l:=s)] at e0
  rw [e1] at e0
  obtain ⟨_,e0⟩:=pI_pre e0
  rw [e2] at e0
  obtain ⟨_,e0⟩:=pI_pre e0
  exact h r.da _ (ok_inR hr).2.2.1 e0
 dsimp only
 rw [eqI rfl,notT,cF]
 refine wInt_next (p:=(((0+k1)+k2)+k3)) hs (by omega) (fun h=>?_) (fun n4 k4 i4 e4 l4=>?_)
 ·dsimp only
  rw [neI (by decide),notF,cT]
  refine rep_bad fun r hr e=>?_
  have e0:=e
  rw [en_eq] at e0
  rw [← List.drop_zero (l:=s)] at e0
  rw [e1] at e0
  obtain ⟨_,e0⟩:=pI_pre e0
  rw [e2] at e0
  obtain ⟨_,e0⟩:=pI_pre e0
  rw [e3] at e0
  obtain ⟨_,e0⟩:=pI_pre e0
  exact h r.ki _ (ok_inR hr).2.2.2.1 e0
 dsimp only
 rw [eqI rfl,notT,cF]
 refine wInt_next (p:=((((0+k1)+k2)+k3)+k4)) hs (by omega) (fun h=>?_) (fun n5 k5 i5 e5 l5=>?_)
 ·dsimp only
  rw [neI (by decide),notF,cT]
  refine rep_bad fun r hr e=>?_
  have e0:=e
  rw [en_eq] at e0
  rw [← List.drop_zero (l:=s)] at e0
  rw [e1] at e0
  obtain ⟨_,e0⟩:=pI_pre e0
  rw [e2] at e0
  obtain ⟨_,e0⟩:=pI_pre e0
  rw [e3] at e0
  obtain ⟨_,e0⟩:=pI_pre e0
  rw [e4] at e0
  obtain ⟨_,e0⟩:=pI_pre e0
  exact h r.su _ (ok_inR hr).2.2.2.2.1 e0
 dsimp only
 rw [eqI rfl,notT,cF]
 refine wInt_next (p:=(((((0+k1)+k2)+k3)+k4)+k5)) hs (by omega) (fun h=>?_) (fun n6 k6 i6 e6 l6=>?_)
 ·dsimp only
  rw [neI (by decide),notF,cT]
  refine rep_bad fun r hr e=>?_
  have e0:=e
  rw [en_eq] at e0
  rw [← List.drop_zero (l:=s)] at e0
  rw [e1] at e0
  obtain ⟨_,e0⟩:=pI_pre e0
  rw [e2] at e0
  obtain ⟨_,e0⟩:=pI_pre e0
  rw [e3] at e0
  obtain ⟨_,e0⟩:=pI_pre e0
  rw [e4] at e0
  obtain ⟨_,e0⟩:=pI_pre e0
  rw [e5] at e0
  obtain ⟨_,e0⟩:=pI_pre e0
  exact h r.va _ (ok_inR hr).2.2.2.2.2.1 e0
 dsimp only
 rw [eqI rfl,notT,cF]
 refine wInt_next (p:=((((((0+k1)+k2)+k3)+k4)+k5)+k6)) hs (by omega) (fun h=>?_) (fun n7 k7 i7 e7 l7=>?_)
 ·dsimp only
  rw [neI (by decide),notF,cT]
  refine rep_bad fun r hr e=>?_
  have e0:=e
  rw [en_eq] at e0
  rw [← List.drop_zero (l:=s)] at e0
  rw [e1] at e0
  obtain ⟨_,e0⟩:=pI_pre e0
  rw [e2] at e0
  obtain ⟨_,e0⟩:=pI_pre e0
  rw [e3] at e0
  obtain ⟨_,e0⟩:=pI_pre e0
  rw [e4] at e0
  obtain ⟨_,e0⟩:=pI_pre e0
  rw [e5] at e0
  obtain ⟨_,e0⟩:=pI_pre e0
  rw [e6] at e0
  obtain ⟨_,e0⟩:=pI_pre e0
  exact h r.rf _ (ok_inR hr).2.2.2.2.2.2.1 e0
 dsimp only
 rw [eqI rfl,notT,cF]
 refine wStr_next (p:=(((((((0+k1)+k2)+k3)+k4)+k5)+k6)+k7)) hs (by omega) (fun h=>?_) (fun n8 k8 i8 e8 l8=>?_)
 ·dsimp only
  rw [neI (by decide),notF,cT]
  refine rep_bad fun r hr e=>?_
  have e0:=e
  rw [en_eq] at e0
  rw [← List.drop_zero (l:=s)] at e0
  rw [e1] at e0
  obtain ⟨_,e0⟩:=pI_pre e0
  rw [e2] at e0
  obtain ⟨_,e0⟩:=pI_pre e0
  rw [e3] at e0
  obtain ⟨_,e0⟩:=pI_pre e0
  rw [e4] at e0
  obtain ⟨_,e0⟩:=pI_pre e0
  rw [e5] at e0
  obtain ⟨_,e0⟩:=pI_pre e0
  rw [e6] at e0
  obtain ⟨_,e0⟩:=pI_pre e0
  rw [e7] at e0
  obtain ⟨_,e0⟩:=pI_pre e0
  exact h r.pv _ (ok_inR hr).2.2.2.2.2.2.2.1 e0
 dsimp only
 rw [eqI rfl,notT,cF]
 refine wStr_next (p:=((((((((0+k1)+k2)+k3)+k4)+k5)+k6)+k7)+k8)) hs (by omega) (fun h=>?_) (fun n9 k9 i9 e9 l9=>?_)
 ·dsimp only
  rw [neI (by decide),notF,cT]
  refine rep_bad fun r hr e=>?_
  have e0:=e
  rw [en_eq] at e0
  rw [← List.drop_zero (l:=s)] at e0
  rw [e1] at e0
  obtain ⟨_,e0⟩:=pI_pre e0
  rw [e2] at e0
  obtain ⟨_,e0⟩:=pI_pre e0
  rw [e3] at e0
  obtain ⟨_,e0⟩:=pI_pre e0
  rw [e4] at e0
  obtain ⟨_,e0⟩:=pI_pre e0
  rw [e5] at e0
  obtain ⟨_,e0⟩:=pI_pre e0
  rw [e6] at e0
  obtain ⟨_,e0⟩:=pI_pre e0
  rw [e7] at e0
  obtain ⟨_,e0⟩:=pI_pre e0
  rw [e8] at e0
  obtain ⟨_,e0⟩:=pS_pre e0
  exact h r.tg _ (ok_inR hr).2.2.2.2.2.2.2.2 e0
 dsimp only
 rw [eqI rfl,notT,cF]
 have hall:s=en (n1,n2,n3,n4,n5,n6,n7,n8,n9)++s.drop (((((((((0+k1)+k2)+k3)+k4)+k5)+k6)+k7)+k8)+k9):=by
  rw [en,sg]
  simp only [List.append_assoc,Rp.sv,Rp.nu,Rp.da,Rp.ki,Rp.su,Rp.va,Rp.rf,Rp.pv,Rp.tg]
  rw [← e9,← e8,← e7,← e6,← e5,← e4,← e3,← e2,← e1,List.drop_zero]
 rw [lenI]
 have huniq:∀ r,s=en r→r=(n1,n2,n3,n4,n5,n6,n7,n8,n9)∧s.drop (((((((((0+k1)+k2)+k3)+k4)+k5)+k6)+k7)+k8)+k9)=[]:=fun r e=>by
  have:=en_pre (a:=r) (b:=(n1,n2,n3,n4,n5,n6,n7,n8,n9)) (x:=[]) (y:=s.drop (((((((((0+k1)+k2)+k3)+k4)+k5)+k6)+k7)+k8)+k9)) (by rw [← hall,List.append_nil,← e])
  exact ⟨this.1,this.2.symm⟩
 by_cases hend:(((((((((0+k1)+k2)+k3)+k4)+k5)+k6)+k7)+k8)+k9)=s.length
 ·rw [eqI (by omega),notT,notF,cT,wOk_eq,oB,orF]
  have h0:s.drop (((((((((0+k1)+k2)+k3)+k4)+k5)+k6)+k7)+k8)+k9)=[]:=List.drop_of_length_le (by omega)
  rw [h0,List.append_nil] at hall
  by_cases ho:OkR (n1,n2,n3,n4,n5,n6,n7,n8,n9)
  ·rw [dT ho,notT,cF]
   exact Ans.some ⟨fun r hr e=>by rw [(huniq r e).1],fun h=>absurd hall (h _ ho)⟩
  ·rw [decide_eq_false ho,notF,cT]
   exact rep_bad fun r hr e=>ho (by rw [← (huniq r e).1];exact hr)
 ·rw [neI (by omega),notF,notT,cF,oB,orT,cT]
  refine rep_bad fun r hr e=>hend ?_
  have:=congrArg List.length (huniq r e).2
  rw [List.length_drop] at this
  simp at this
  omega
def Pw (P:List (List Bs)):Prop:=P.Pairwise (fun p q=>q.length<p.length)∧∀ p∈P,∃ a,p.length=2 ^ a
theorem pow_lt2 {a b:Nat} (h:(2:Nat) ^ a<2 ^ b):2*2 ^ a≤2 ^ b:=by
 have:a<b:=(Nat.pow_lt_pow_iff_right (by omega)).1 h
 rw [show 2*2 ^ a=2 ^ (a+1) by rw [Nat.pow_succ];omega]
 exact Nat.pow_le_pow_right (by omega) this
theorem Pw.tail {p:List Bs} {P:List (List Bs)} (h:Pw (p::P)):Pw P:=⟨(List.pairwise_cons.1 h.1).2,fun q hq=>h.2 q (by simp [hq])⟩
theorem Pw.sum:∀ {p:List Bs} {P:List (List Bs)},Pw (p::P)→P.flatten.length<p.length
 | p,[],h=>by
  obtain ⟨a,ha⟩:=h.2 p (by simp)
  have:=Nat.two_pow_pos a
  simp;omega
 | p,q::P,h=>by
  have h1:=Pw.sum h.tail
  have h2:=(List.pairwise_cons.1 h.1).1 q (by simp)
  obtain ⟨a,ha⟩:=h.2 p (by simp)
  obtain ⟨b,hb⟩:=h.2 q (by simp)
  rw [ha,hb] at h2
  have:=pow_lt2 h2
  rw [List.flatten_cons,List.length_append];omega
theorem Pw.root {p:List Bs} {P:List (List Bs)} (h:Pw (p::P)) (hP:P≠[]):rootL (p::P).flatten=node (rootL p) (rootL P.flatten):=by
 obtain ⟨a,ha⟩:=h.2 p (by simp)
 have h1:=h.sum
 rw [List.flatten_cons]
 refine rootL_split ha ?_ (by omega)
 match P,hP with
 | q::P,_ =>
  obtain ⟨b,hb⟩:=h.2 q (by simp)
  have:=Nat.two_pow_pos b
  rw [List.flatten_cons,List.length_append];omega
theorem Pw.drop {P:List (List Bs)} (h:Pw P) (k:Nat):Pw (P.drop k):=⟨h.1.sublist (List.drop_sublist k P),fun p hp=>h.2 p (List.mem_of_mem_drop hp)⟩
structure Pq1 (P:List (List Bs)) (q:List Bs):Prop where
 pw:Pw P
 two:∃ a,q.length=2 ^ a
 le:∀ p∈P,q.length≤p.length
theorem Pq1.done {P:List (List Bs)} {q:List Bs} (h:Pq1 P q) (hne:∀ P' p,P=P'++[p]→p.length≠q.length):Pw (P++[q]):=by
 refine ⟨List.pairwise_append.2 ⟨h.pw.1,List.pairwise_singleton _ _,fun p hp x hx=>?_⟩,fun p hp=>?_⟩
 ·rw [List.mem_singleton.1 hx]
  rcases List.eq_nil_or_concat P with e | ⟨P',t,e⟩
  ·rw [e] at hp;simp at hp
  ·rw [List.concat_eq_append] at e
   have h1:=hne P' t e
   have h2:=h.le t (by rw [e];simp)
   rw [e] at hp
   rcases List.mem_append.1 hp with g | g
   ·have hp2:=h.pw.1
    rw [e,List.pairwise_append] at hp2
    have:=hp2.2.2 p g t (by simp)
    omega
   ·rw [List.mem_singleton.1 g];omega
 ·rcases List.mem_append.1 hp with g | g
  ·exact h.pw.2 p g
  ·rw [List.mem_singleton.1 g];exact h.two
theorem Pq1.merge {P:List (List Bs)} {p q:List Bs} (h:Pq1 (P++[p]) q) (e:p.length=q.length):Pq1 P (p++q)∧rootL (p++q)=node (rootL p) (rootL q):=by
 obtain ⟨a,ha⟩:=h.two
 have hpos:=Nat.two_pow_pos a
 have hp2:=h.pw.1
 rw [List.pairwise_append] at hp2
 refine ⟨⟨⟨hp2.1,fun x hx=>h.pw.2 x (by simp [hx])⟩,⟨a+1,by rw [List.length_append,Nat.pow_succ];omega⟩,fun x hx=>?_⟩,rootL_split (a:=a) (by omega) (by omega) (by omega)⟩
 have h1:=hp2.2.2 x hx p (by simp)
 obtain ⟨b,hb⟩:=h.pw.2 x (by simp [hx])
 rw [hb,e,ha] at h1
 have:=pow_lt2 h1
 rw [List.length_append];omega
def szs (P:List (List Bs)):List Int:=P.map fun p=>(p.length:Int)
theorem szs_len (P:List (List Bs)):(szs P).length=P.length:=by simp [szs]
theorem szs_app (P Q:List (List Bs)):szs (P++Q)=szs P++szs Q:=by simp [szs]
theorem wRoot_ok {l:List Bs} (hl:l.length≤100000) (hs:∀ s∈l,s.length≤800000):m78 l=some (rootL l):=by
 unfold m78
 refine Ans.bindEq (Q:=fun (o:List Bs)=>∃ P,Pw P∧P.flatten=l∧o=P.map rootL∧P.length≤l.length) ?_ fun o ho=>?_
 ·refine Ans.loop (fun i z=>∃ P,Pw P∧P.flatten=l.take i∧i≤l.length∧P.length≤i∧z=((i:Int),P.map rootL,szs P)) l.length ⟨[],⟨List.Pairwise.nil,fun p hp=>by simp at hp⟩,by simp,by omega,by simp,rfl⟩ ?_
  rintro i z hi ⟨P,h1,h2,h3,h4,rfl⟩
  dsimp only
  rw [lenI]
  by_cases hil:i<l.length
  ·rw [ltI (by omega),cT,idxM_lt hil,oB,wLeaf_ok (hs _ (List.getElem_mem hil)),oB,appM_of (by simp;omega),oB,appM_of (by rw [szs_len];simp;omega),oB]
   have r2:P.map rootL++[leaf l[i]]=(P++[[l[i]]]).map rootL:=by rw [List.map_append,List.map_cons,rootL_one];rfl
   have r3:szs P++[1]=szs (P++[[l[i]]]):=by rw [szs_app];rfl
   rw [r2,r3]
   refine Ans.bind (P:=fun (o:List Bs×List Int)=>∃ Q,Pw Q∧Q.flatten=l.take (i+1)∧Q.length≤i+1∧o=(Q.map rootL,szs Q)) ?_ fun o ho=>?_
   ·refine Ans.loop (fun j z=>∃ Q q,Pq1 Q q∧Q.length+j≤i∧(Q++[q]).flatten=l.take (i+1)∧z=((Q.length:Int)+1,(Q++[q]).map rootL,szs (Q++[q]))) i ⟨P,[l[i]],⟨h1,⟨0,rfl⟩,fun p hp=>?_⟩,by omega,?_,?_⟩ ?_
    ·obtain ⟨a,ha⟩:=h1.2 p hp
     have:=Nat.two_pow_pos a
     simp;omega
    ·rw [List.flatten_append,h2,List.take_add_one,List.getElem?_eq_getElem hil];simp
    ·rw [lenI,szs_len];simp
    ·rintro j z hj ⟨Q,q,g1,g2,g3,rfl⟩
     dsimp only
     rcases List.eq_nil_or_concat Q with e | ⟨Q',p,e⟩
     ·subst e
      rw [geI (by simp)]
      simp only [cF,oB,andF]
      exact Ans.some ⟨[q],by simpa using g1.done (fun P' p h=>by simp at h),by simpa using g3,by simp,rfl⟩
     ·rw [List.concat_eq_append] at e
      subst e
      have hQl:(Q'++[p]).length=Q'.length+1:=by simp
      rw [hQl] at g2 ⊢
      have hn2:IntKind.wrap .i64 (((Q'.length+1:Nat):Int)+1-2)=(Q'.length:Int):=by rw [wrap_in (by omega) (by omega)];omega
      have hn1:IntKind.wrap .i64 (((Q'.length+1:Nat):Int)+1-1)=((Q'.length+1:Nat):Int):=by rw [wrap_in (by omega) (by omega)];omega
      have lw:((Q'++[p]++[q]).map rootL).length=Q'.length+2:=by simp
      have ls:(szs (Q'++[p]++[q])).length=Q'.length+2:=by rw [szs_len];simp
      have i1:idxM (szs (Q'++[p]++[q])) (Q'.length:Int)=some (p.length:Int):=by rw [idxM_nat];simp [szs]
      have i2:idxM (szs (Q'++[p]++[q])) ((Q'.length+1:Nat):Int)=some (q.length:Int):=by rw [idxM_nat];simp [szs]
      have i3:idxM ((Q'++[p]++[q]).map rootL) (Q'.length:Int)=some (rootL p):=by rw [idxM_nat];simp
      have i4:idxM ((Q'++[p]++[q]).map rootL) ((Q'.length+1:Nat):Int)=some (rootL q):=by rw [idxM_nat];simp
      rw [hn2,hn1,i1,i2,i3,i4,lenI,lenI,lw,ls,ltI (a:=1) (by omega),chkM_of (i:=(Q'.length:Int)) (n:=((Q'.length+2:Nat):Int)) (by omega) (by omega),chkM_of (i:=((Q'.length+1:Nat):Int)) (n:=((Q'.length+2:Nat):Int)) (by omega) (by omega)]
      simp only [cT,oB,andT]
      by_cases e:p.length=q.length
      ·obtain ⟨m1,m2⟩:=g1.merge e
       rw [eqI (by omega),cT,chkM_of (by omega) (by omega),oB,wNode_ok (by rw [rootL_len,rootL_len];omega),oB,sliceM_of (by omega) (by omega) (by rw [lw];omega),oB]
       have t1:((((Q'++[p]++[q]).map rootL).take (Q'.length:Int).toNat).drop (0:Int).toNat)=Q'.map rootL:=by simp [List.take_append_of_le_length]
       have t2:(((szs (Q'++[p]++[q])).take (Q'.length:Int).toNat).drop (0:Int).toNat)=szs Q':=by simp [szs,List.take_append_of_le_length]
       have hq:q.length≤l.length:=by
        have:=congrArg List.length g3
        rw [List.flatten_append,List.length_append,List.length_take] at this
        simp at this;omega
       rw [t1,appM_of (by simp;omega),oB,sliceM_of (by omega) (by omega) (by rw [ls];omega),oB,t2,oB,wrap_in (n:=2*(q.length:Int)) (by omega) (by omega),appM_of (by rw [szs_len];simp;omega),oB]
       refine Ans.some ⟨by omega,Q',p++q,m1,by omega,by rw [← g3];simp,?_⟩
       have u1:Q'.map rootL++[node (rootL p) (rootL q)]=(Q'++[p++q]).map rootL:=by rw [List.map_append,List.map_cons,m2];rfl
       have u2:szs Q'++[2*(q.length:Int)]=szs (Q'++[p++q]):=by
        rw [szs_app];unfold szs;simp;omega
       rw [u1,u2];rfl
      ·rw [neI (by omega),cF]
       refine Ans.some ⟨Q'++[p]++[q],g1.done fun P' x hx=>?_,g3,by simp;omega,rfl⟩
       obtain ⟨_,hx2⟩:=List.append_inj' hx rfl
       simp at hx2
       rw [← hx2];exact e
   ·obtain ⟨Q,q1,q2,q3,rfl⟩:=ho
    rw [wrap_in (by omega) (by omega)]
    exact Ans.some ⟨by omega,Q,q1,q2,by omega,q3,rfl⟩
  ·rw [geI (by omega),cF]
   refine Ans.some ⟨P,h1,?_,rfl,by omega⟩
   rw [h2,List.take_of_length_le (by omega)]
 ·obtain ⟨P,h1,h2,rfl,h4⟩:=ho
  rw [lenI,List.length_map]
  rcases List.eq_nil_or_concat P with e | ⟨Q,q,e⟩
  ·subst e
   rw [← h2,List.length_nil,eqI (by omega),cT,wSum_ok (by simp),oB,show ([]:List (List Bs)).flatten=[] from rfl,rootL_nil]
  ·rw [List.concat_eq_append] at e
   have hQ:P.length=Q.length+1:=by rw [e];simp
   have hn1:IntKind.wrap .i64 ((P.length:Int)-1)=(Q.length:Int):=by rw [wrap_in (by omega) (by omega)];omega
   have i1:idxM (P.map rootL) (Q.length:Int)=some (rootL q):=by rw [idxM_nat,e];simp
   have t1:(((P.map rootL).take (Q.length:Int).toNat).drop (0:Int).toNat)=Q.map rootL:=by rw [e];simp [List.take_append_of_le_length]
   rw [neI (by omega),cF,hn1,chkM_of (by omega) (by omega),oB,i1,oB,sliceM_of (by omega) (by omega) (by rw [List.length_map];omega),oB,t1,lenI,List.length_map,wrap_in (n:=(Q.length:Int)-1) (by omega) (by omega)]
   refine bind_of (loopM_at (fun j=>((Q.length:Int)-1-(j:Int),rootL (P.drop (Q.length-j)).flatten)) Q.length ?_ (fun j hj=>?_) ?_) rfl
   ·rw [Nat.sub_zero,e,List.drop_left];simp
   ·obtain ⟨m,hm⟩:∃ m,Q.length-j=m+1:=⟨Q.length-j-1,by omega⟩
    have hd:P.drop m=(P[m]'(by omega))::P.drop (m+1):=List.drop_eq_getElem_cons (by omega)
    have i2:idxM (Q.map rootL) ((Q.length:Int)-1-(j:Int))=some (rootL (P[m]'(by omega))):=by
     rw [show (Q.length:Int)-1-(j:Int)=(m:Int) by omega,idxM_nat,List.getElem?_map,List.getElem?_eq_getElem (by omega)]
     simp [e,List.getElem_append_left (show m<Q.length by omega)]
    dsimp only
    rw [leI (by omega),cT,i2,oB,hm,wNode_ok (by rw [rootL_len,rootL_len];omega),oB,wrap_in (by omega) (by omega),show Q.length-(j+1)=m by omega,hd]
    have hp:=(hd▸h1.drop m:Pw (P[m]'(by omega)::P.drop (m+1)))
    rw [hp.root (by
     intro h
     have:=congrArg List.length h
     rw [List.length_drop] at this
     simp at this;omega)]
    congr 3
    omega
   ·dsimp only
    rw [gtI (by omega),cF,Nat.sub_self,List.drop_zero,h2]
theorem wEnc_eq (r:Rp):m20 r=some (if OkR r then (en r,0) else ([],390)):=by
 unfold m20
 rw [eR,wOk_eq,oB]
 by_cases h:OkR r
 ·rw [dT h,notT,cF,wEn_all,oB,en2_ok h,if_pos h]
 ·rw [decide_eq_false h,notF,cT,if_neg h]
theorem wHead_eq {a:List Rp} (ha:a.length≤1000000):m32 a=some (if OkA a then (rootL (a.map en),0) else ([],390)):=by
 unfold m32
 rw [wValid_eq ha,oB]
 by_cases h:OkA a
 ·obtain ⟨a1,a2,a3⟩:=h
  rw [dT ⟨a1,a2,a3⟩,notT,cF,if_pos ⟨a1,a2,a3⟩]
  refine bind_of (x:=a.map en) (loopM_at (fun k=>((k:Int),(a.take k).map en)) a.length rfl (fun k hk=>?_) ?_) ?_
  ·have ho:=a1 _ (List.getElem_mem hk)
   dsimp only
   rw [lenI,ltI (by omega),cT,idxM_lt hk,oB,eR,wEn_all,oB,en2_ok ho,appM_of (by simp;omega),oB,wrap_in (by omega) (by omega),List.take_add_one,List.getElem?_eq_getElem hk,List.map_append]
   rfl
  ·dsimp only
   rw [lenI,geI (by omega),cF,List.take_length]
  ·rw [wRoot_ok (by simp;omega) (fun s hs=>by
    obtain ⟨r,hr,rfl⟩:=List.mem_map.1 hs
    have:=(okR_len (a1 r hr)).2
    omega),oB]
 ·rw [decide_eq_false h,notF,cT,if_neg h]
theorem wLoad_ok {l:List Bs} (hl:l.length≤1000) (hs:∀ s∈l,s.length≤1000000):∃ D:List Rp,(∀ r,r∈D↔OkR r∧en r∈l)∧m24 l=some (mk40 (arch D)):=by
 have key:Ans (m24 l) (fun o=>∃ D:List Rp,(∀ r,r∈D↔OkR r∧en r∈l)∧o=mk40 (arch D)):=by
  unfold m24
  refine Ans.bind (P:=fun (D:List Rp)=>D.length≤l.length∧∀ r,r∈D↔OkR r∧en r∈l) ?_ fun D hD=>?_
  ·refine Ans.loop (fun k z=>∃ D:List Rp,z=((k:Int),D)∧k≤l.length∧D.length≤k∧∀ r,r∈D↔OkR r∧en r∈l.take k) l.length ⟨[],rfl,by omega,by simp,fun r=>by simp⟩ ?_
   rintro k z hk ⟨D,rfl,h1,h2,h3⟩
   dsimp only
   rw [lenI]
   by_cases hkl:k<l.length
   ·rw [ltI (by omega),cT,idxM_lt hkl,oB]
    obtain ⟨o,e1,e2,e3⟩:=wDec_ok (hs _ (List.getElem_mem hkl))
    have tk:l.take (k+1)=l.take k++[l[k]]:=by rw [List.take_add_one,List.getElem?_eq_getElem hkl];rfl
    rw [e1,oB]
    by_cases hx:∃ r,OkR r∧l[k]=en r
    ·obtain ⟨x,hx1,hx2⟩:=hx
     rw [e2 x hx1 hx2]
     dsimp only
     rw [eqI rfl,cT,eR,appR (by simp;omega),oB,oB,wrap_in (by omega) (by omega)]
     refine Ans.some ⟨by omega,D++[x],rfl,by omega,by simp;omega,fun r=>?_⟩
     rw [tk,List.mem_append,List.mem_singleton,List.mem_append,List.mem_singleton,h3]
     constructor
     ·rintro (⟨p,q⟩ | p)
      ·exact ⟨p,.inl q⟩
      ·rw [p];exact ⟨hx1,.inr hx2.symm⟩
     ·rintro ⟨p,q | q⟩
      ·exact .inl ⟨p,q⟩
      ·exact .inr (en_inj (q.trans hx2))
    ·have hne:∀ r,OkR r→l[k]≠en r:=fun r h1 h2=>hx ⟨r,h1,h2⟩
     rw [e3 hne]
     dsimp only
     rw [neI (by decide),cF,oB,wrap_in (by omega) (by omega)]
     refine Ans.some ⟨by omega,D,rfl,by omega,by omega,fun r=>?_⟩
     rw [tk,List.mem_append,List.mem_singleton,h3]
     constructor
     ·rintro ⟨p,q⟩;exact ⟨p,.inl q⟩
     ·rintro ⟨p,q | q⟩
      ·exact ⟨p,q⟩
      ·exact absurd q.symm (hne r p)
   ·rw [geI (by omega),cF]
    rw [List.take_of_length_le (by omega)] at h3
    exact Ans.some ⟨by omega,h3⟩
  ·exact Ans.of (bind_of (made_ok (xs:=D) (fun x hx=>((hD.2 x).1 hx).1) (by omega)) rfl) ⟨D,hD.2,rfl⟩
 obtain ⟨o,h1,D,h2,rfl⟩:=key
 exact ⟨D,h2,h1⟩
theorem wBelieved_eq {a:List Rp} {s:Int} (ha:a.length≤1000000):m34 (a,s)=some (if OkA a then bel a s else []):=by
 unfold m34
 dsimp only
 rw [wValid_eq ha,oB]
 by_cases h:OkA a
 ·rw [dT h,notT,cF,wBel_ok h,oB,if_pos h]
 ·rw [decide_eq_false h,notF,cT,if_neg h]
end Go.Proofs.YtdnabfadigkjgaaGreatDoor
namespace Go.Ar
def Kc (x y:Rp):Prop:=x.su<y.su∨(x.su=y.su∧x.sv<y.sv)
theorem Kc.irr (x:Rp):¬ Kc x x:=by unfold Kc;omega
theorem Kc.tr {x y z:Rp} (h:Kc x y) (k:Kc y z):Kc x z:=by unfold Kc at *;omega
def curAll (a:List Rp):List Rp:=(List.range 8).flatMap fun (s:Nat)=>curOf (bel a s)
structure CurR (a ys:List Rp):Prop where
 ord:ys.Pairwise Kc
 mem:∀ x,x∈ys↔x∈curAll a
theorem CurR.uniq {a ys zs:List Rp} (h:CurR a ys) (k:CurR a zs):ys=zs:=ext_of Kc.irr (fun h k=>Kc.tr h k) h.ord k.ord fun x=>by rw [h.mem,k.mem]
theorem curOf_mem {l:List Rp} {x:Rp} (h:x∈curOf l):x∈l∧x.ki≠2:=by
 obtain ⟨h1,_,h2,_⟩:=curS_mem _ _ _ x h
 exact ⟨by simpa using h1,h2⟩
theorem bel_sv {a:List Rp} {s:Int} {x:Rp} (h:x∈bel a s):x∈a∧x.sv=s:=by
 obtain ⟨i,hi,e⟩:=List.getElem_of_mem h
 have:=Pbel.mem (bel_is a s).1 (i:=i) (r:=x) (by rw [List.getElem?_eq_getElem hi,e])
 exact ⟨this.1,this.2.1⟩
theorem curAll_mem {a:List Rp} {x:Rp}:x∈curAll a↔∃ s:Nat,s<8∧x∈curOf (bel a s):=by
 unfold curAll
 rw [List.mem_flatMap]
 constructor
 ·rintro ⟨s,h1,h2⟩;exact ⟨s,List.mem_range.1 h1,h2⟩
 ·rintro ⟨s,h1,h2⟩;exact ⟨s,List.mem_range.2 h1,h2⟩
theorem curOf_dist (l:List Rp):(curOf l).Pairwise fun a b=>a.su≠b.su:=curS_dist _ _ _
theorem curAll_dist (a:List Rp):∀ n,((List.range n).flatMap fun (s:Nat)=>curOf (bel a s)).Pairwise fun x y=>¬ (x.su=y.su∧x.sv=y.sv)
 | 0=>List.Pairwise.nil
 | n+1=>by
  rw [List.range_succ,List.flatMap_append]
  refine List.pairwise_append.2 ⟨curAll_dist a n,?_,fun x hx y hy h=>?_⟩
  ·simp only [List.flatMap_cons,List.flatMap_nil,List.append_nil]
   exact (curOf_dist _).imp fun h k=>h k.1
  ·simp only [List.flatMap_cons,List.flatMap_nil,List.append_nil] at hy
   rw [List.mem_flatMap] at hx
   obtain ⟨s,h1,h2⟩:=hx
   have e1:=(bel_sv (curOf_mem h2).1).2
   have e2:=(bel_sv (curOf_mem hy).1).2
   have:=List.mem_range.1 h1
   omega
theorem strict_of {ys out:List Rp} (hp:ys.Perm out) (hd:out.Pairwise fun x y=>¬ (x.su=y.su∧x.sv=y.sv)) (hs:ys.Pairwise fun x y=>¬ Kc y x):ys.Pairwise Kc:=by
 have hd2:ys.Pairwise fun x y=>¬ (x.su=y.su∧x.sv=y.sv):=(hp.pairwise_iff (fun {x y} h k=>h ⟨k.1.symm,k.2.symm⟩)).2 hd
 refine (List.Pairwise.and hs hd2).imp fun h=>?_
 unfold Kc at *
 omega
def frkG:Rp→List Rp→List (Int×Int)→List (Int×Int)
 | _,[],out=>out
 | last,r::t,out=>frkG r t (if last.sv=r.sv∧last.nu=r.nu∧(out=[]∨(out.getLast?.map Prod.fst)≠some r.sv) then out++[(r.sv,r.nu)] else out)
def frk:List Rp→List (Int×Int)
 | []=>[]
 | x::t=>frkG x t []
def SameK (x y:Rp):Prop:=x.sv=y.sv∧x.nu=y.nu
theorem frkG_none:∀ (l:List Rp) (x:Rp) (out:List (Int×Int)),(x::l).Pairwise (fun x y=>¬ SameK x y)→frkG x l out=out
 | [],_,_,_=>rfl
 | y::l,x,out,h=>by
  obtain ⟨h1,h2⟩:=List.pairwise_cons.1 h
  unfold frkG
  rw [if_neg fun e=>h1 y (by simp) ⟨e.1,e.2.1⟩]
  exact frkG_none l y out h2
theorem frkG_app:∀ (l:List Rp) (x y:Rp) (m:List Rp) (out:List (Int×Int)),frkG x (l++y::m) out=frkG y m (frkG x (l++[y]) out)
 | [],x,y,m,out=>by
  simp only [List.nil_append,frkG]
 | z::l,x,y,m,out=>by
  simp only [List.cons_append,frkG]
  exact frkG_app l z y m _
theorem frk_none {l:List Rp} (h:l.Pairwise (fun x y=>¬ SameK x y)):frk l=[]:=by
 cases l with
 | nil=>rfl
 | cons x t=>exact frkG_none t x [] h
theorem frk_one {pre post:List Rp} {u v:Rp} (h1:(pre++[u]).Pairwise (fun x y=>¬ SameK x y)) (h2:(v::post).Pairwise (fun x y=>¬ SameK x y)) (h:SameK u v):frk (pre++u::v::post)=[(v.sv,v.nu)]:=by
 have last:∀ w,frkG w (v::post) []=if w.sv=v.sv∧w.nu=v.nu then [(v.sv,v.nu)] else []:=fun w=>by
  unfold frkG
  by_cases e:w.sv=v.sv∧w.nu=v.nu
  ·rw [if_pos ⟨e.1,e.2,.inl rfl⟩,if_pos e,List.nil_append];exact frkG_none post v _ h2
  ·rw [if_neg fun q=>e ⟨q.1,q.2.1⟩,if_neg e];exact frkG_none post v _ h2
 cases pre with
 | nil =>
  show frkG u (v::post) []=_
  rw [last u,if_pos ⟨h.1,h.2⟩]
 | cons x pre =>
  show frkG x (pre++u::v::post) []=_
  rw [frkG_app,frkG_none (pre++[u]) x [] h1,last u,if_pos ⟨h.1,h.2⟩]
theorem frk_fork {l:List Rp} {u t:Rp} (hl:l.Pairwise (fun x y=>¬ SameK x y)) (hu:u∈l) (hk:SameK u t) (hne:u≠t):frk (arch (l++[t]))=[(u.sv,u.nu)]:=by
 have inj:∀ x∈l,∀ y∈l,SameK x y→x=y:=fun x hx y hy e=>by
  obtain ⟨i,hi,e1⟩:=List.getElem_of_mem hx
  obtain ⟨j,hj,e2⟩:=List.getElem_of_mem hy
  rcases Nat.lt_trichotomy i j with q | q | q
  ·exact absurd (by rw [e1,e2];exact e) (List.pairwise_iff_getElem.1 hl i j hi hj q)
  ·subst q;rw [← e1,← e2]
  ·exact absurd (by rw [e1,e2];exact ⟨e.1.symm,e.2.symm⟩) (List.pairwise_iff_getElem.1 hl j i hj hi q)
 have key:∀ x∈arch (l++[t]),∀ y∈arch (l++[t]),SameK x y→x=y∨(x=u∧y=t)∨(x=t∧y=u):=fun x hx y hy e=>by
  rw [arch_mem,List.mem_append,List.mem_singleton] at hx hy
  rcases hx with hx | hx<;>rcases hy with hy | hy
  ·exact .inl (inj x hx y hy e)
  ·subst hy
   exact .inr (.inl ⟨inj x hx u hu ⟨by rw [e.1,hk.1],by rw [e.2,hk.2]⟩,rfl⟩)
  ·subst hx
   exact .inr (.inr ⟨rfl,inj y hy u hu ⟨by rw [← e.1,hk.1],by rw [← e.2,hk.2]⟩⟩)
  ·exact .inl (by rw [hx,hy])
 have hup:=arch_up (l++[t])
 have hmu:u∈arch (l++[t]):=by rw [arch_mem];simp [hu]
 have hmt:t∈arch (l++[t]):=by rw [arch_mem];simp
 generalize arch (l++[t])=a at *
 have main:∀ x y:Rp,x∈a→y∈a→SameK x y→ltR x y=true→((x=u∧y=t)∨(x=t∧y=u))→frk a=[(u.sv,u.nu)]:=fun x y hx hy hxy hlt hc=>by
  obtain ⟨pre,rest,e⟩:=List.append_of_mem hx
  have hp:(pre++x::rest).Pairwise fun a b=>ltR a b=true:=e▸hup
  obtain ⟨p1,p2,p3⟩:=List.pairwise_append.1 hp
  obtain ⟨p4,p5⟩:=List.pairwise_cons.1 p2
  have hyr:y∈rest:=by
   rw [e] at hy
   rcases List.mem_append.1 hy with q | q
   ·have:=p3 y q x (by simp)
    have:=ltR_trans this hlt;rw [ltR_irr] at this;cases this
   ·rcases List.mem_cons.1 q with q | q
    ·rw [q,ltR_irr] at hlt;cases hlt
    ·exact q
  have ma:∀ z,z∈pre∨z=x∨z∈rest→z∈a:=fun z hz=>by rw [e];simpa using hz
  match rest,hyr,p4,p5,e,ma with
  | z::post,hyr,p4,p5,e,ma =>
   have hz:z=y:=by
    rcases List.mem_cons.1 hyr with q | q
    ·exact q.symm
    ·have h1:=p4 z (by simp)
     have h2:=(List.pairwise_cons.1 p5).1 y q
     rw [ltR_iff] at h1 h2
     have hxz:SameK x z:=by
      obtain ⟨k1,k2⟩:=hxy
      unfold SameK
      omega
     have hlt1:=p4 z (by simp)
     rcases key x hx z (ma z (by simp)) hxz with w | w | w
     ·rw [w,ltR_irr] at hlt1;cases hlt1
     ·rcases hc with c | c
      ·rw [w.2,c.2]
      ·rw [c.1] at w;exact absurd w.1.symm hne
     ·rcases hc with c | c
      ·rw [c.1] at w;exact absurd w.1 hne
      ·rw [w.2,c.2]
   subst hz
   have nd:∀ p∈a,∀ q∈a,ltR p q=true→SameK p q→p=x∧q=z:=fun p hp q hq h1 h2=>by
    have hlt1:=p4 z (by simp)
    rcases key p hp q hq h2 with w | w | w
    ·rw [w,ltR_irr] at h1;cases h1
    ·rcases hc with c | c
     ·exact ⟨w.1.trans c.1.symm,w.2.trans c.2.symm⟩
     ·rw [w.1,w.2,← c.1,← c.2] at h1
      have:=ltR_trans h1 hlt1;rw [ltR_irr] at this;cases this
    ·rcases hc with c | c
     ·rw [w.1,w.2,← c.1,← c.2] at h1
      have:=ltR_trans h1 hlt1;rw [ltR_irr] at this;cases this
     ·exact ⟨w.1.trans c.1.symm,w.2.trans c.2.symm⟩
   have hx0:∀ p∈pre,p≠x:=fun p hp q=>by
    have:=p3 p hp x (by simp)
    rw [q,ltR_irr] at this;cases this
   rw [e,frk_one (u:=x) (v:=z) ?_ ?_ hxy]
   ·rcases hc with c | c
    ·rw [c.2,hk.1,hk.2]
    ·rw [c.2]
   ·refine List.pairwise_append.2 ⟨List.Pairwise.imp_of_mem (fun {p q} hp hq h h2=>hx0 p hp (nd p (ma p (.inl hp)) q (ma q (.inl hq)) h h2).1) p1,List.pairwise_singleton _ _,fun p hp q hq h2=>?_⟩
    rw [List.mem_singleton.1 hq] at h2
    exact hx0 p hp (nd p (ma p (.inl hp)) x hx (p3 p hp x (by simp)) h2).1
   ·refine List.Pairwise.imp_of_mem (fun {p q} hp hq h h2=>?_) p5
    have:=(nd p (ma p (.inr (.inr hp))) q (ma q (.inr (.inr hq))) h h2).1
    have h3:=p4 p hp
    rw [this,ltR_irr] at h3;cases h3
 rcases ltR_tri u t with h | h | h
 ·exact main u t hmu hmt hk h (.inl ⟨rfl,rfl⟩)
 ·exact absurd h hne
 ·exact main t u hmt hmu ⟨hk.1.symm,hk.2.symm⟩ h (.inr ⟨rfl,rfl⟩)
theorem Up.frk_none {a:List Rp} (h:∀ x∈a,∀ y∈a,SameK x y→x=y) (hu:Up a):frk a=[]:=by
 refine Go.Ar.frk_none (List.Pairwise.imp_of_mem (fun {x y} hx hy hlt hs=>?_) hu)
 rw [h x hx y hy hs,ltR_irr] at hlt;cases hlt
end Go.Ar
namespace Go.Proofs.YtdnabfadigkjgaaGreatDoor
open Go Go.Lib Go.Abs Go.PE Go.Ar Go.Sort
open Go.Proofs (ltOf)
def Bits (n:Nat) (w:List Bool) (W:List Int):Prop:=w.length=n∧∀ b:Nat,b<n→w[b]? = some (decide ((b:Int)∈W))
theorem Bits.zero (n:Nat):Bits n (List.replicate n false) []:=⟨by simp,fun b hb=>by simp [hb]⟩
theorem Bits.get {n:Nat} {w:List Bool} {W:List Int} (h:Bits n w W) {i:Int} (h0:0≤i) (hi:i<n):idxM w i=some (decide (i∈W)):=by
 obtain ⟨b,rfl⟩:=Int.eq_ofNat_of_zero_le h0
 rw [idxM_nat];exact h.2 b (by omega)
theorem Bits.put {n:Nat} {w:List Bool} {W:List Int} (h:Bits n w W) {i:Int} (h0:0≤i) (hi:i<n):setM w i (fun _=>some true)=some (w.set i.toNat true)∧Bits n (w.set i.toNat true) (i::W):=by
 obtain ⟨h1,h2⟩:=h
 refine ⟨setM_of h0 (by omega) rfl,by rw [List.length_set];exact h1,fun b hb=>?_⟩
 rw [List.getElem?_set]
 by_cases e:i.toNat=b
 ·rw [if_pos e,if_pos (by omega)]
  have:(b:Int)=i:=by omega
  simp [this]
 ·rw [if_neg e,h2 b hb]
  have:(b:Int)≠i:=by omega
  simp [this]
theorem hundred:[false,false,false,false,false,false,false,false,false,false,false,false,false,false,false,false,false,false,false,false,false,false,false,false,false,false,false,false,false,false,false,false,false,false,false,false,false,false,false,false,false,false,false,false,false,false,false,false,false,false,false,false,false,false,false,false,false,false,false,false,false,false,false,false,false,false,false,false,false,false,false,false,false,false,false,false,false,false,false,false,false,false,false,false,false,false,false,false,false,false,false,false,false,false,false,false,false,false,false,false]=List.replicate 100 false:=rfl
theorem wCur_ok {a:List Rp} (h:OkA a):∃ ys,m33 a=some ys∧CurR a ys:=by
 obtain ⟨a1,a2,a3⟩:=h
 have key:Ans (m33 a) (CurR a):=by
  unfold m33
  rw [wValid_eq (by omega),oB,dT ⟨a1,a2,a3⟩,notT,cF]
  refine Ans.seq (x:=curAll a) (loopM_at (fun k=>((k:Int),(List.range k).flatMap fun (s:Nat)=>curOf (bel a s))) 8 rfl (fun k hk=>?_) ?_) ?_
  ·dsimp only
   rw [ltI (by omega),cT,wBel_ok ⟨a1,a2,a3⟩,oB]
   have hb:Pbel a k (bel a k):=(bel_is a k).1
   have hok:∀ r∈bel a (k:Int),OkR r:=fun r hr=>a1 r (bel_sv hr).1
   have hlen:=Pbel.ok hb a1
   have hout:((List.range k).flatMap fun (s:Nat)=>curOf (bel a s)).length≤40*k:=by
    rw [List.length_flatMap]
    have:∀ (L:List Nat),((L.map fun (s:Nat)=>(curOf (bel a s)).length).sum)≤40*L.length:=fun L=>by
     induction L with
     | nil=>simp
     | cons x L ih =>
      have h1:=Pbel.ok (bel_is a x).1 a1
      have h2:(curOf (bel a x)).length≤(bel a x).length:=nodup_len ((curOf_dist _).imp fun h e=>h (by rw [e])) fun y hy=>(curOf_mem hy).1
      simp only [List.map_cons,List.sum_cons,List.length_cons];omega
    simpa using this (List.range k)
   dsimp only
   rw [lenI,mkM_of (by omega) (by omega) (by show _*1≤_;omega),oB,Int.toNat_natCast,wrap_in (n:=((bel a (k:Int)).length:Int)-1) (by omega) (by omega),hundred,List.range_succ,List.flatMap_append]
   simp only [List.flatMap_cons,List.flatMap_nil,List.append_nil]
   generalize (List.range k).flatMap (fun (s:Nat)=>curOf (bel a s))=o0 at hout
   generalize bel a (k:Int)=l at hb hok hlen
   refine Ans.bindEq (Q:=fun (o:List Bool×List Bool×List Rp)=>o.2.2=o0++curOf l) ?_ fun o ho=>by
    rw [wrap_in (by omega) (by omega),ho];rfl
   refine Ans.loop (fun j z=>j≤l.length∧∃ (wd sn:List Bool) (W SN:List Int) (O:List Rp),z=((l.length:Int)-1-(j:Int),wd,sn,o0++O)∧Bits l.length wd W∧Bits 100 sn SN∧O.length≤j∧curS ((l.take (l.length-j)).reverse) W SN O=curOf l) l.length ⟨by omega,_,_,[],[],[],by simp,Bits.zero _,Bits.zero _,by simp,by rw [Nat.sub_zero,List.take_length];rfl⟩ ?_
   rintro j z hj ⟨q0,wd,sn,W,SN,O,rfl,q1,q2,q3,q4⟩
   dsimp only
   by_cases hjl:j<l.length
   ·obtain ⟨m,hm⟩:∃ m,l.length-j=m+1:=⟨l.length-j-1,by omega⟩
    have hml:m<l.length:=by omega
    have hi:(l.length:Int)-1-(j:Int)=(m:Int):=by omega
    have hget:=List.getElem?_eq_getElem hml
    have hr:=hok _ (List.getElem_mem hml)
    have hnu:=(hb.mem hget).2.2
    have htk:(l.take (m+1)).reverse=l[m]::(l.take m).reverse:=by
     rw [List.take_add_one,hget,Option.toList_some,List.reverse_append];rfl
    rw [hm,htk] at q4
    rw [hi,leI (by omega),cT,idxM_lt hml,oB,chkM_of (by omega) (by rw [lenI,q1.1];omega),oB,q1.get (by omega) (by omega),oB]
    generalize l[m]=r at hr hnu q4
    obtain ⟨b1,b2,b3,b4,b5,b6,b7,b8,b9⟩:=hr
    unfold curS at q4
    rw [hnu] at q4
    by_cases hw:(m:Int)∈W
    ·rw [dT hw,cT,oB,wrap_in (by omega) (by omega)]
     rw [if_pos hw] at q4
     exact Ans.some ⟨by omega,by omega,wd,sn,W,SN,O,by rw [show (m:Int)-1=(l.length:Int)-1-((j+1:Nat):Int) by omega],q1,q2,by omega,by rw [show l.length-(j+1)=m by omega];exact q4⟩
    ·rw [decide_eq_false hw,cF]
     rw [if_neg hw] at q4
     by_cases hk2:r.ki=2
     ·rw [if_pos hk2] at q4
      have hrf:0≤r.rf∧r.rf<(m:Int):=by omega
      obtain ⟨p1,p2⟩:=q1.put (i:=r.rf) hrf.1 (by omega)
      rw [eqI (show r.2.2.2.1=2 from hk2),cT,chkM_of hrf.1 (by rw [lenI,q1.1];show r.rf<_;omega),oB,p1,oB,oB,wrap_in (by omega) (by omega)]
      exact Ans.some ⟨by omega,by omega,_,sn,r.rf::W,SN,O,by rw [show (m:Int)-1=(l.length:Int)-1-((j+1:Nat):Int) by omega],p2,q2,by omega,by rw [show l.length-(j+1)=m by omega];exact q4⟩
     ·rw [if_neg hk2] at q4
      have hsu:0≤r.su∧r.su<100:=by omega
      rw [neI (show r.2.2.2.1≠2 from hk2),cF,chkM_of hsu.1 (by show r.su<100;exact hsu.2),oB,z01,q2.get hsu.1 hsu.2,oB]
      by_cases hs:r.su∈SN
      ·rw [if_pos hs] at q4
       rw [dT hs,notT,cF,oB,wrap_in (by omega) (by omega)]
       exact Ans.some ⟨by omega,by omega,wd,sn,W,SN,O,by rw [show (m:Int)-1=(l.length:Int)-1-((j+1:Nat):Int) by omega],q1,q2,by omega,by rw [show l.length-(j+1)=m by omega];exact q4⟩
      ·rw [if_neg hs] at q4
       obtain ⟨p1,p2⟩:=q2.put (i:=r.su) hsu.1 hsu.2
       rw [decide_eq_false hs,notF,cT,oB,p1,oB,eR,appR (by simp;omega),oB,oB,wrap_in (by omega) (by omega)]
       exact Ans.some ⟨by omega,by omega,wd,_,W,r.su::SN,O++[r],by rw [show (m:Int)-1=(l.length:Int)-1-((j+1:Nat):Int) by omega,List.append_assoc],q1,p2,by simp;omega,by rw [show l.length-(j+1)=m by omega];exact q4⟩
   ·rw [gtI (by omega),cF]
    rw [show l.length-j=0 by omega,List.take_zero] at q4
    refine Ans.some ?_
    show o0++O=_
    rw [← q4];rfl
  ·dsimp only
   rw [geI (by omega),cF]
   rfl
  ·have hin:∀ q∈curAll a,OkR q:=fun q hq=>by
    obtain ⟨s,_,h⟩:=curAll_mem.1 hq
    exact a1 q (bel_sv (curOf_mem h).1).1
   have hlen:(curAll a).length≤40:=by
    have hd:=curAll_dist a 8
    refine Nat.le_trans (nodup_len (m:=a) (List.Pairwise.imp (fun {x y} h e=>h (by rw [e];exact ⟨rfl,rfl⟩)) hd) fun x hx=>?_) a3
    obtain ⟨s,_,h⟩:=curAll_mem.1 hx
    exact (bel_sv (curOf_mem h).1).1
   obtain ⟨ys,h1,h2,h3⟩:=sortR swo82 hin (by omega)
   refine Ans.seq h1 (Ans.some ⟨strict_of h2 (curAll_dist a 8) (h3.imp fun {x y} h k=>?_),fun x=>h2.mem_iff⟩)
   rw [(lt82 y x).2 k] at h;cases h
 exact key
theorem getLast_idx {α:Type} {l:List α} (h:l≠[]):idxM l ((l.length:Int)-1)=l.getLast? := by
 have:=List.length_pos_iff.2 h
 rw [show (l.length:Int)-1=((l.length-1:Nat):Int) by omega,idxM_nat,List.getLast?_eq_getElem?]
theorem wForks_eq {a:List Rp} (h:OkA a):m39 a=some (frk a):=by
 obtain ⟨a1,a2,a3⟩:=h
 unfold m39
 rw [wValid_eq (by omega),oB,dT ⟨a1,a2,a3⟩,notT,cF,lenI]
 cases a with
 | nil =>
  rw [show min (1:Int) ((([]:List Rp).length:Nat):Int)=0 from rfl,sliceM_of (by omega) (by simp) (by simp),oB]
  refine bind_of (x:=[]) ?_ rfl
  rw [loopM_eq];rfl
 | cons x t =>
  have hl:(x::t).length=t.length+1:=rfl
  rw [hl] at a3
  rw [show min (1:Int) (((x::t).length:Nat):Int)=1 by rw [hl];omega,sliceM_of (by omega) (by rw [hl];omega) (Int.le_refl _),oB,Int.toNat_natCast,List.take_length]
  show (loopM _ _).bind _=some (frkG x t [])
  refine Ans.bindEq (Q:=fun o=>o=frkG x t []) ?_ fun o ho=>by rw [ho]
  refine Ans.loop (fun k z=>∃ out y,z=((k:Int),out)∧k≤t.length∧out.length≤k∧(x::t)[k]? = some y∧frkG y (t.drop k) out=frkG x t []) t.length ⟨[],x,rfl,by omega,by simp,rfl,rfl⟩ ?_
  rintro k z hk ⟨out,y,rfl,h1,h2,h3,h4⟩
  have hd:List.drop (1:Int).toNat (x::t)=t:=rfl
  dsimp only
  rw [hd,lenI]
  by_cases hkl:k<t.length
  ·have hdk:t.drop k=t[k]::t.drop (k+1):=List.drop_eq_getElem_cons hkl
   rw [hdk,frkG] at h4
   rw [ltI (by omega),cT,idxM_lt hkl,oB,idxM_nat,h3,oB]
   have hnext:(x::t)[k+1]? = some t[k]:=by rw [List.getElem?_cons_succ,List.getElem?_eq_getElem hkl]
   generalize t[k]=r at h4 hnext
   refine Ans.bind (P:=fun o=>o=if y.sv=r.sv∧y.nu=r.nu∧(out=[]∨(out.getLast?.map Prod.fst)≠some r.sv) then out++[(r.sv,r.nu)] else out) ?_ fun o ho=>?_
   ·rw [lenI]
    by_cases ho:out=[]
    ·subst ho
     rw [show ((([]:List (Int×Int)).length:Nat):Int)=0 from rfl,eqI rfl,notT]
     simp only [cF,oB,orT]
     by_cases hc:y.sv=r.sv∧y.nu=r.nu
     ·rw [eqI (show y.1=r.1 from hc.1),eqI (show y.2.1=r.2.1 from hc.2),if_pos ⟨hc.1,hc.2,.inl trivial⟩]
      simp only [andT,cT]
      rw [appM_of (by simp),oB]
      exact Ans.some rfl
     ·have:PE.andM (PE.andM (eqM y.1 r.1) (eqM y.2.1 r.2.1)) true=false:=by
       unfold PE.andM eqM
       rw [Bool.and_true,← Bool.decide_and];exact decide_eq_false hc
      rw [this,cF,if_neg fun q=>hc ⟨q.1,q.2.1⟩]
      exact Ans.some rfl
    ·have hpos:=List.length_pos_iff.2 ho
     obtain ⟨v,hv⟩:∃ v,out.getLast? = some v:=⟨_,List.getLast?_eq_some_getLast ho⟩
     rw [neI (by omega),notF,wrap_in (n:=(out.length:Int)-1) (by omega) (by omega),chkM_of (by omega) (by omega),getLast_idx ho,hv]
     simp only [cT,oB,orF]
     by_cases hc:y.sv=r.sv∧y.nu=r.nu∧v.1≠r.sv
     ·rw [eqI (show y.1=r.1 from hc.1),eqI (show y.2.1=r.2.1 from hc.2.1),neI (show v.1≠r.1 from hc.2.2),if_pos ⟨hc.1,hc.2.1,.inr (by simpa using hc.2.2)⟩]
      simp only [andT,notF,cT]
      rw [appM_of (by simp;omega),oB]
      exact Ans.some rfl
     ·have:PE.andM (PE.andM (eqM y.1 r.1) (eqM y.2.1 r.2.1)) (PE.notM (eqM v.1 r.1))=false:=by
       unfold PE.andM eqM PE.notM
       rw [← decide_not,← Bool.decide_and,← Bool.decide_and]
       exact decide_eq_false fun q=>hc ⟨q.1.1,q.1.2,q.2⟩
      rw [this,cF,if_neg fun q=>hc ⟨q.1,q.2.1,by
       rcases q.2.2 with w | w
       ·exact absurd w ho
       ·simpa using w⟩]
      exact Ans.some rfl
   ·rw [wrap_in (by omega) (by omega)]
    refine Ans.some ⟨by omega,o,r,rfl,by omega,?_,hnext,by rw [ho];exact h4⟩
    rw [ho];split
    ·simp;omega
    ·omega
  ·rw [geI (by omega),cF]
   rw [List.drop_of_length_le (by omega)] at h4
   exact Ans.some h4
theorem others_eq {l:List Rp} {s u:Int} (hl:l.length≤1000000):m41 (l,s,u)=some (l.filter fun r=>decide (r.sv≠s∨(0≤u∧r.su≠u))):=by
 unfold m41
 dsimp only
 refine bind_of (filt (fun r:Rp=>decide (r.sv≠s∨(0≤u∧r.su≠u))) l (fun k hk o2 h2=>?_) (fun o2=>?_)) rfl
 ·dsimp only
  rw [lenI,ltI (by omega),cT,idxM_lt hk,oB,wrap_in (by omega) (by omega)]
  by_cases e1:l[k].sv=s
  ·rw [eqI (show l[k].1=s from e1),notT,notF]
   simp only [andT,orF]
   by_cases e2:0≤u
   ·rw [leI e2,cT,oB]
    by_cases e3:l[k].su=u
    ·rw [eqI (show l[k].2.2.2.2.1=u from e3),notT,andT,cF,oB,if_neg (by simp [e1,e3])]
    ·rw [neI (show l[k].2.2.2.2.1≠u from e3),notF,andT,cT,oB,eR,appR (by simp;omega),oB,oB,if_pos (by simp [e2,e3])]
   ·rw [gtI (by omega),cF,oB,andF,cF,oB,if_neg (by simp [e1,e2])]
  ·rw [neI (show l[k].1≠s from e1),notF,notT]
   simp only [andF,orT,cF,cT,oB]
   rw [eR,appR (by simp;omega),oB,oB,if_pos (by simp [e1])]
 ·dsimp only
  rw [lenI,geI (by omega),cF]
end Go.Proofs.YtdnabfadigkjgaaGreatDoor
namespace Go.Ar
set_option maxRecDepth 100000
def k32:Bs:=List.replicate 32 107
def s1:Rp:=(3,0,100,1,5,10,-1,h0,[183,206,247,132,16,190,162,145,231,189,128,117,78,27,252,149,175,238,66,166,50,20,35,39,34,221,47,214,44,75,7,158])
def s2:Rp:=(3,1,200,1,5,12,-1,[141,45,5,180,132,107,163,71,50,199,12,151,27,190,196,105,90,110,52,3,63,255,31,52,164,0,206,211,166,47,30,41],[110,201,126,255,249,203,131,70,149,121,71,16,89,238,29,209,133,171,181,98,19,26,47,68,242,242,28,160,205,58,126,70])
def s3:Rp:=(3,2,300,2,0,0,1,[81,72,191,58,53,82,76,30,92,225,77,36,254,82,252,234,221,103,150,8,17,226,120,99,254,250,153,51,12,193,93,254],[0,67,231,216,185,110,57,4,166,255,159,196,218,133,151,64,29,220,125,40,41,61,215,160,229,170,251,5,10,18,80,38])
def s4:Rp:=(s2.1,s2.2.1,201,s2.2.2.2)
theorem x1:wrR k32 [] (3,0,100,1,5,10,-1,[],[])=(s1,0):=by decide +kernel
theorem x2:addR [] s1=([s1],0):=by decide +kernel
theorem x3:wrR k32 [s1] (3,0,200,1,5,12,-1,[],[])=(s2,0):=by decide +kernel
theorem x4:addR [s1] s2=([s1,s2],0):=by decide +kernel
theorem x5:wrR k32 [s1,s2] (3,0,300,2,0,0,1,[],[])=(s3,0):=by decide +kernel
theorem x6:addR [s1,s2] s3=([s1,s2,s3],0):=by decide +kernel
theorem x7:OkR s1:=by decide +kernel
theorem x8:wrR [107] [s1] s1=(zR,390):=by decide +kernel
theorem x9:mrg [s1] [s3]=([s1,s3],0):=by decide +kernel
theorem x10:addR [s1,s2,s3] s4=([s1,s2,s4,s3],0):=by decide +kernel
theorem x11:miss [s1,s2,s3] [s1]=([s2,s3],0):=by decide +kernel
theorem x12:OkA [s1]:=by decide +kernel
theorem x13:OkA [s1,s2]:=by decide +kernel
theorem x14:OkA [s1,s2,s3]:=by decide +kernel
theorem x15:curAll [s1]=[s1]:=by decide +kernel
theorem x16:curAll [s1,s2]=[s2]:=by decide +kernel
theorem x17:curAll [s1,s2,s3]=[s1]:=by decide +kernel
theorem x18:bel [s1,s2,s3] 3=[s1,s2,s3]:=by decide +kernel
theorem x19:OkA [s1,s3]∧bel [s1,s3] 3=[s1]:=by decide +kernel
theorem x20:OkA [s2,s3]∧bel [s2,s3] 3=[]:=by decide +kernel
theorem x21:OkA [s1,s2,s4,s3]∧bel [s1,s2,s4,s3] 3=[s1]:=by decide +kernel
theorem x22:frk [s1,s2,s4,s3]=[(3,1)]:=by decide +kernel
theorem x23:frk [s1,s2,s3]=[]:=by decide +kernel
theorem x24:9≤(en s1).length∧(en s1).take 9=[6,0,200,1,2,10,20,1,64]:=by decide +kernel
theorem x25:Gen k32 s2:=by decide +kernel
theorem x26:¬ Gen k32 s4:=by decide +kernel
theorem x27:¬ OkA [s2,s1]:=by decide +kernel
theorem en_eq0 (r:Rp):en r=pI r.sv++(pI r.nu++(pI r.da++(pI r.ki++(pI r.su++(pI r.va++(pI r.rf++(pS r.pv++pS r.tg))))))):=by
 unfold en sg;simp
theorem en_long (r:Rp):7≤(en r).length:=by
 have:=pI_pos r.sv
 have:=pI_pos r.nu
 have:=pI_pos r.da
 have:=pI_pos r.ki
 have:=pI_pos r.su
 have:=pI_pos r.va
 have:=pI_pos r.rf
 rw [en_eq0]
 simp only [List.length_append];omega
end Go.Ar
namespace Go.Proofs.YtdnabfadigkjgaaGreatDoor
open Go Go.Lib Go.Abs Go.PE Go.Ar
set_option maxRecDepth 100000
theorem bif_no {α:Type} {c:Bool} {a b r:α} (h:c=false) (h2:b=r):(bif c then a else b)=r:=by rw [h];exact h2
theorem bif_yes {α:Type} {c:Bool} {a b r:α} (h:c=true) (h2:a=r):(bif c then a else b)=r:=by rw [h];exact h2
theorem cur_is {a l:List Rp} (h:OkA a) (hc:curAll a=l) (hl:l.length=1):m33 a=some l:=by
 obtain ⟨ys,h1,h2⟩:=wCur_ok h
 obtain ⟨x,rfl⟩:=List.length_eq_one_iff.1 hl
 rw [h1,h2.uniq (zs:=[x]) ⟨List.pairwise_singleton _ _,fun y=>by rw [hc]⟩]
theorem believed_is {a l:List Rp} {s:Int} (h:OkA a∧bel a s=l):m34 (a,s)=some l:=by
 have:=h.1.2.2
 rw [wBelieved_eq (by omega),if_pos h.1,h.2]
theorem load_is:m24 [en s1,[120]]=some ([s1],0):=by
 have hen:=(okR_len x7).2
 obtain ⟨D,h1,h2⟩:=wLoad_ok (l:=[en s1,[120]]) (by simp) (fun s hs=>by
  rcases List.mem_cons.1 hs with q | q
  ·rw [q];omega
  ·rw [List.mem_singleton.1 q];simp)
 have e:arch D=[s1]:=(up_arch (l:=[s1]) (List.pairwise_singleton _ _) fun r=>by
  rw [h1,List.mem_singleton]
  constructor
  ·intro q;rw [q];exact ⟨x7,by simp⟩
  ·rintro ⟨q1,q2⟩
   rcases List.mem_cons.1 q2 with q | q
   ·exact en_inj q
   ·have q:=List.mem_singleton.1 q
    have:=en_long r
    rw [q] at this
    simp at this).symm
 rw [h2,e];rfl
theorem sane_ok:m11 ()=some true:=by
 unfold m11
 have L1:([s1]:List Rp).length≤1000000:=by simp
 have L2:([s1,s2]:List Rp).length≤1000000:=by simp
 have L3:([s1,s2,s3]:List Rp).length≤1000000:=by simp
 have w:∀ {key:Bs} {a:List Rp} {r:Rp} {v:Rp×Int},a.length≤1000000→wrR key a r=v→m37 (key,a,r)=some v:=fun ha h=>by rw [wWrite_eq ha,h]
 have ad:∀ {a:List Rp} {r:Rp} {v:List Rp×Int},a.length≤1000000→addR a r=v→m31 (a,r)=some v:=fun ha h=>by rw [wAdd_eq ha,h]
 refine bind_of (w (by simp) x1) ?_
 refine bind_of (ad (by simp) x2) ?_
 refine bind_of (w L1 x3) ?_
 refine bind_of (ad L1 x4) ?_
 refine bind_of (w L2 x5) ?_
 refine bind_of (ad L2 x6) ?_
 refine bind_of (x:=(en s1,0)) ((wEnc_eq s1).trans (by rw [if_pos x7])) ?_
 refine bind_of (w L1 x8) ?_
 refine bif_no (by decide +kernel) ?_
 refine bind_of ((wMerge_eq L1 (by simp)).trans (congrArg some x9)) ?_
 refine bind_of (ad L3 x10) ?_
 refine bind_of ((wMiss_eq L3 L1).trans (congrArg some x11)) ?_
 refine bind_of load_is ?_
 refine bind_of (x:=(leaf (en s1),0)) ((wHead_eq L1).trans (by rw [if_pos x12];exact congrArg some (congrArg (fun z=>(z,(0:Int))) (rootL_one _)))) ?_
 refine bind_of (x:=leaf (en s1)) (bif_yes rfl (wLeaf_ok (a:=en s1) (by have:=(okR_len x7).2;omega))) ?_
 refine bif_no (by
  show PE.orM _ (PE.notM (eqsM (leaf (en s1)) (leaf (en s1))))=false
  rw [eqsT rfl];rfl) ?_
 refine bind_of (cur_is x12 x15 rfl) ?_
 refine bind_of (cur_is x13 x16 rfl) ?_
 refine bind_of (cur_is x14 x17 rfl) ?_
 refine bind_of (x:=s1) rfl ?_
 refine bind_of (x:=s2) rfl ?_
 refine bind_of (x:=s1) rfl ?_
 refine bind_of (believed_is ⟨x14,x18⟩) ?_
 refine bind_of (x:=[s1]) (bif_yes rfl (believed_is x19)) ?_
 refine bind_of (x:=[]) (bif_yes rfl (believed_is x20)) ?_
 refine bind_of (x:=[s1]) (bif_yes rfl (believed_is x21)) ?_
 refine bind_of ((wForks_eq x21.1).trans (congrArg some x22)) ?_
 refine bind_of (x:=true) ((samePairs_eq (by simp)).trans (by rw [dT rfl])) ?_
 refine bind_of (x:=[]) (bif_yes rfl ((wForks_eq x14).trans (congrArg some x23))) ?_
 refine bind_of (x:=[6,0,200,1,2,10,20,1,64]) (bif_yes rfl ?_) ?_
 ·show sliceM (en s1) 0 9=_
  rw [sliceM_of (by omega) (by omega) (by have:=x24.1;omega)]
  exact congrArg some x24.2
 refine bind_of (x:=true) (bif_yes rfl ((same_eq (by simp)).trans (by rw [dT rfl]))) ?_
 refine bind_of (x:=true) (bif_yes rfl ((same_eq L1).trans (by rw [dT rfl]))) ?_
 refine bind_of (x:=true) (bif_yes rfl ((wGen_eq k32 s2).trans (by rw [dT x25]))) ?_
 refine bind_of (x:=false) (bif_yes rfl ((wGen_eq k32 s4).trans (by rw [decide_eq_false x26]))) ?_
 refine bind_of (x:=true) (bif_yes rfl ((wValid_eq L3).trans (by rw [dT x14]))) ?_
 refine bind_of (x:=false) (bif_yes rfl ((wValid_eq (by simp)).trans (by rw [decide_eq_false x27]))) ?_
 rfl
structure Good (L a:List Rp):Prop where
 up:Up a
 sub:∀ x∈a,x∈L
structure LOk (L:List Rp):Prop where
 ok:∀ x∈L,OkR x
 len:L.length≤40
theorem Good.len {L a:List Rp} (h:Good L a):a.length≤L.length:=nodup_len h.up.nodup h.sub
theorem Good.ok {L a:List Rp} (hL:LOk L) (h:Good L a):OkA a:=⟨fun x hx=>hL.ok x (h.sub x hx),h.up,by have:=h.len;have:=hL.len;omega⟩
theorem Good.arch {L s:List Rp} (h:∀ x∈s,x∈L):Good L (arch s):=⟨arch_up s,fun x hx=>h x ((arch_mem s x).1 hx)⟩
theorem Good.add {L a:List Rp} {r:Rp} (hL:LOk L) (ha:Good L a) (hr:r∈L):addR a r=(Ar.arch (a++[r]),0)∧Good L (Ar.arch (a++[r])):=by
 have hg:Good L (Ar.arch (a++[r])):=Good.arch fun x hx=>(List.mem_append.1 hx).elim (ha.sub x) fun q=>by rw [List.mem_singleton.1 q];exact hr
 exact ⟨addR_ok (ha.ok hL) (hL.ok r hr) (by have:=hg.len;have:=hL.len;omega),hg⟩
theorem Good.big {L a:List Rp} (hL:LOk L) (h:Good L a):a.length≤1000000:=by have:=h.len;have:=hL.len;omega
theorem lok_fork {l:List Rp} {u:Rp} {f2 f3:Int} (hM:Mde l) (hl:l.length≤16) (hu:u∈l) (h2:has64 f2) (h3:has64 f3):LOk (l++[forkR u f2 f3]) :=
 ⟨fun x hx=>by
  rcases List.mem_append.1 hx with q | q
  ·exact hM.ok x q
  ·rw [List.mem_singleton.1 q];exact (fork_ok (hM.ok u hu) h2 h3).2.1.2.1,by simp;omega⟩
theorem cur_two {a:List Rp} (h:OkA a):∃ ys:List Rp,m33 a=some ys∧CurR a ys∧ys.length≤1000000:=by
 obtain ⟨ys,h1,h2⟩:=wCur_ok h
 refine ⟨ys,h1,h2,?_⟩
 have h3:ys.length≤a.length:=nodup_len (h2.ord.imp fun {x y} h e=>by subst e;exact Kc.irr _ h) fun x hx=>by
  obtain ⟨s,_,h⟩:=curAll_mem.1 ((h2.mem x).1 hx)
  exact (bel_sv (curOf_mem h).1).1
 have:=h.2.2
 omega
theorem _root_.Go.Ar.Chn.forks {l a:List Rp} (h:Chn l) (ha:Up a) (hs:∀ x∈a,x∈l):frk a=[]:=Up.frk_none (fun x hx y hy e=>h.uniq (hs x hx) (hs y hy) e.1 e.2) ha
theorem made2_ok {x:List X6} (h:∀ y∈x,has6 y):m12 x=some (madeL x):=madeO_ok h
theorem bel_len {a:List Rp} (h:OkA a) (s:Int):(bel a s).length≤1000000:=by have:=Pbel.ok (bel_is a s).1 h.1;omega
theorem believed_eq {a:List Rp} (h:OkA a) (s:Int):m34 (a,s)=some (bel a s):=believed_is ⟨h,rfl⟩
theorem cur_others {a b ys zs:List Rp} (p:Rp→Bool) (ha:CurR a ys) (hb:CurR b zs) (h:∀ x,p x=true→(x∈curAll a↔x∈curAll b)):ys.filter p=zs.filter p:=by
 refine ext_of Kc.irr (fun h k=>Kc.tr h k) (ha.ord.filter _) (hb.ord.filter _) fun x=>?_
 rw [List.mem_filter,List.mem_filter,ha.mem,hb.mem]
 constructor
 ·rintro ⟨q1,q2⟩;exact ⟨(h x q2).1 q1,q2⟩
 ·rintro ⟨q1,q2⟩;exact ⟨(h x q2).2 q1,q2⟩
theorem curAll_of {a b:List Rp} {x:Rp} (h:bel a x.sv=bel b x.sv) (hx:x∈curAll a):x∈curAll b:=by
 obtain ⟨s,hs,q⟩:=curAll_mem.1 hx
 have e:=(bel_sv (curOf_mem q).1).2
 exact curAll_mem.2 ⟨s,hs,by rw [← e] at q ⊢;rw [← h];exact q⟩
theorem law7_ok (x:List X6×(Int×Int×Int)×Int) (hx:∀ y∈x.1,has6 y) (f1:has64 x.2.1.1) (f2:has64 x.2.1.2.1) (f3:has64 x.2.1.2.2) (hs:has64 x.2.2):m7 x=some true:=by
 unfold m7
 simp only [eqR_eq]
 refine bind_of sane_ok ?_
 refine bif_no rfl ?_
 refine bind_of (made2_ok hx) ?_
 have hM:=madeL_mde x.1
 have hl:=madeL_len x.1
 generalize madeL x.1=l at hM hl
 by_cases h0:l.length=0
 ·exact bif_yes (by rw [lenI];exact eqI (by omega)) rfl
 refine bif_no (by rw [lenI];exact neI (by omega)) ?_
 have hp:=pickN_lt (c:=x.2.1.1) (n:=l.length) (by omega)
 refine bind_of (by rw [lenI];exact lpick_eq f1 (by omega)) ?_
 refine bind_of (idxM_of hp.1 hp.2) ?_
 have hu:l[(pickN x.2.1.1 l.length).toNat]'(by omega)∈l:=List.getElem_mem _
 generalize l[(pickN x.2.1.1 l.length).toNat]'(by omega)=u at hu
 have hou:=hM.ok u hu
 obtain ⟨g1,g2,g3,g4⟩:=fork_ok hou f2 f3
 rw [eR]
 refine bind_of g1 ?_
 have hL:=lok_fork (f2:=x.2.1.2.1) (f3:=x.2.1.2.2) hM hl hu f2 f3
 generalize forkR u x.2.1.2.1 x.2.1.2.2=t at g1 g2 g3 g4 hL
 by_cases hut:u=t
 ·exact bif_yes (dT hut) rfl
 refine bif_no (decide_eq_false hut) ?_
 obtain ⟨s,h1,h2⟩:=some_ok (l:=l) hs (by omega)
 have hsl:=h2.length_le
 refine bind_of (show mo16 (l,x.2.2)=some s from h1) ?_
 rw [eR]
 refine bind_of (appR (by simp;omega)) ?_
 have hsub:∀ y∈s++[u],y∈l:=fun y hy=>(List.mem_append.1 hy).elim (fun q=>h2.subset q) fun q=>by rw [List.mem_singleton.1 q];exact hu
 refine bind_of (of_ok (fun y hy=>hM.ok y (hsub y hy)) (by simp;omega)) ?_
 have hus:u∈s++[u]:=by simp
 generalize s++[u]=sl at hsub hus
 have hH:Good (l++[t]) (arch sl):=Good.arch fun y hy=>by simp [hsub y hy]
 have ht:t∈l++[t]:=by simp
 obtain ⟨e1,hA⟩:=hH.add hL ht
 have hmH:∀ y,y∈arch sl↔y∈sl:=fun y=>arch_mem sl y
 have hmA:∀ y,y∈arch (arch sl++[t])↔y∈sl∨y=t:=fun y=>by rw [arch_mem,List.mem_append,List.mem_singleton,arch_mem]
 have hsame:SameK u t:=⟨g3.symm,g4.symm⟩
 have hFH:frk (arch sl)=[]:=hM.toChn.forks (arch_up sl) fun y hy=>hsub y ((hmH y).1 hy)
 have hFA:frk (arch (arch sl++[t]))=[(u.sv,u.nu)]:=frk_fork (List.Pairwise.imp_of_mem (fun {p q} hp hq h e=>by
  have:=hM.toChn.uniq (hsub p ((hmH p).1 hp)) (hsub q ((hmH q).1 hq)) e.1 e.2
  rw [this,ltR_irr] at h;cases h) (arch_up sl)) ((hmH u).2 hus) hsame hut
 have hAdd:m31 (arch sl,t)=some (arch (arch sl++[t]),0):=by rw [wAdd_eq (hH.big hL),e1]
 have hokH:=hH.ok hL
 have hokA:=hA.ok hL
 have hbel:∀ v:Int,v≠u.sv→bel (arch (arch sl++[t])) v=bel (arch sl) v:=fun v hv=>bel_congr fun n=>by
  refine ext_of (R:=fun a b=>ltR a b=true) (fun x h=>by rw [ltR_irr] at h;cases h) (fun h k=>ltR_trans h k) ((arch_up _).filter _) ((arch_up _).filter _) fun y=>?_
  have:=hmA y
  have:=hmH y
  show y∈atN _ v n↔y∈atN _ v n
  rw [atN_mem,atN_mem,hmA,hmH]
  constructor
  ·rintro ⟨q1,q2,q3⟩
   refine ⟨q1.resolve_right fun e=>hv ?_,q2,q3⟩
   rw [← q2,e,g3]
  ·rintro ⟨q1,q2⟩;exact ⟨.inl q1,q2⟩
 have hsmall:∀ (i:Nat) (r:Rp),(bel (arch (arch sl++[t])) u.sv)[i]? = some r→r.nu<u.nu:=fun i r hr=>by
  have hb:=(bel_is (arch (arch sl++[t])) u.sv).1
  have h3:=(Pbel.mem hb hr).2.2
  apply Int.lt_of_not_ge
  intro hge
  have hnu:0≤u.nu:=hou.2.2.1
  obtain ⟨j,hj⟩:=Int.eq_ofNat_of_zero_le hnu
  have hjl:j<(bel (arch (arch sl++[t])) u.sv).length:=by have:=lt_of_get hr;omega
  have h4:=(hb j _ (List.getElem?_eq_getElem hjl)).1
  have m1:u∈atN (arch (arch sl++[t])) u.sv j:=atN_mem.2 ⟨(hmA u).2 (.inl hus),rfl,hj⟩
  have m2:t∈atN (arch (arch sl++[t])) u.sv j:=atN_mem.2 ⟨(hmA t).2 (.inr rfl),g3,by rw [g4];exact hj⟩
  rw [h4] at m1 m2
  rw [List.mem_singleton] at m1 m2
  exact hut (m1.trans m2.symm)
 generalize arch (arch sl++[t])=a at *
 refine bind_of hAdd ?_
 refine bind_of (bif_yes rfl (key_eq (n:=u.sv) (by unfold has64;have:=hou.1;have:=hou.2.1;omega))) ?_
 refine bind_of (x:=true) (bif_yes rfl ((wGen_eq _ t).trans (by rw [dT g2]))) ?_
 refine bind_of (bif_yes rfl ((wForks_eq hokH).trans (congrArg some hFH))) ?_
 refine bind_of (bif_yes rfl ((wForks_eq hokA).trans (congrArg some hFA))) ?_
 refine bind_of (x:=true) (bif_yes rfl ((samePairs_eq (by simp)).trans (by rw [dT rfl]))) ?_
 refine bif_no rfl ?_
 refine bind_of (believed_eq hokA _) ?_
 have hlA:=bel_len hokA
 have hlH:=bel_len hokH
 refine bind_of (x:=.inl ()) (loopM_fn (fun k=>(k:Int)) (bel a u.sv).length (fun k hk=>?_) (by rw [lenI,geI (by show (((bel a u.sv).length:Nat):Int)≤_;exact Int.le_refl _),cF])) ?_
 ·have h5:=hsmall k _ (List.getElem?_eq_getElem hk)
  have:=hlA u.sv
  refine bif_yes (ltI (by rw [lenI];show (k:Int)<(((bel a u.sv).length:Nat):Int);omega)) ?_
  refine bind_of (idxM_lt hk) ?_
  refine bif_no (gtI h5) ?_
  rw [wrap_in (by omega) (by omega)];rfl
 show Option.bind _ _=_
 refine bind_of (x:=.inl ()) (loopM_fn (fun k=>(k:Int)) 4 (fun k hk=>?_) (by rw [geI (by omega),cF])) ?_
 ·refine bif_yes (ltI (by omega)) ?_
  by_cases e:(k:Int)=u.sv
  ·rw [eqI (show (k:Int)=u.1 from e),notT]
   refine bind_of (bif_no rfl rfl) ?_
   refine bind_of (bif_no rfl rfl) ?_
   refine bind_of (bif_no rfl rfl) ?_
   refine bif_no rfl ?_
   rw [wrap_in (by omega) (by omega)];rfl
  ·rw [neI (show (k:Int)≠u.1 from e),notF]
   refine bind_of (bif_yes rfl (believed_eq hokA _)) ?_
   refine bind_of (bif_yes rfl (believed_eq hokH _)) ?_
   refine bind_of (x:=true) (bif_yes rfl ((same_eq (hlA _)).trans (by rw [dT (hbel _ e)]))) ?_
   refine bif_no rfl ?_
   rw [wrap_in (by omega) (by omega)];rfl
 show Option.bind _ _=_
 obtain ⟨ys,c1,c2,c3⟩:=cur_two hokA
 obtain ⟨zs,d1,d2,d3⟩:=cur_two hokH
 refine bind_of c1 ?_
 refine bind_of (others_eq c3) ?_
 refine bind_of d1 ?_
 refine bind_of (others_eq d3) ?_
 refine bind_of (x:=true) ((same_eq (Nat.le_trans (List.length_filter_le _ _) c3)).trans ?_) rfl
 congr 1
 refine dT (cur_others _ c2 d2 fun y hy=>?_)
 have hne:y.sv≠u.sv:=by
  have:=of_decide_eq_true hy
  rcases this with q | q
  ·exact q
  ·omega
 exact ⟨curAll_of (hbel _ hne),curAll_of (hbel _ hne).symm⟩
end Go.Proofs.YtdnabfadigkjgaaGreatDoor
namespace Go.Proofs.YtdnabfadigkjgaaGreatDoor
open Go Go.Abs Go.PE
theorem mem_in {t:Ty} {l:List t.den} (h:InR (.list t) l):∀ x∈l,InR t x:=fun x hx=>by
 obtain ⟨i,hi,rfl⟩:=List.mem_iff_getElem.1 hx
 exact h.2 i _ (List.getElem?_eq_getElem hi)
theorem law7:∀ (S:Cells) (w:World) (η:Eta) (vs:List Value) x,All2 (RM S w η) (rvs as7 x) vs→m7 x=some true :=
 law_of_ok fun x h=>law7_ok x (mem_in h.1) h.2.1.1 h.2.1.2.1 h.2.1.2.2 h.2.2
end Go.Proofs.YtdnabfadigkjgaaGreatDoor
