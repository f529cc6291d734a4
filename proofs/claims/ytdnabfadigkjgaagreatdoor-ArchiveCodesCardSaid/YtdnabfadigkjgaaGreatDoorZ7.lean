/-
 Texts of this proof, put together: Ah, Bm, Bn, Ai, Bo, Aj, Bp, Ca, Cb, Cc, Cd, Cf, Cg, LawArchiveCodes.
 No conditions.
-/
import Derived.Test.YtdnabfadigkjgaaGreatDoorZ5
import Derived.Test.YtdnabfadigkjgaaGreatDoorZ6
set_option linter.all false
namespace Go.Ar
def gv:Bs→Nat
 | []=>0
 | b::l=>b.toNat % 128+128*gv l
theorem gv_snoc:∀ (l:Bs) (b:UInt8),gv (l++[b])=gv l+b.toNat % 128*128 ^ l.length
 | [],b=>by simp [gv]
 | a::l,b=>by
  simp only [List.cons_append,gv,gv_snoc l b,List.length_cons,Nat.pow_succ]
  rw [Nat.mul_add,← Nat.add_assoc,Nat.mul_comm (128 ^ l.length),Nat.mul_left_comm]
theorem gv_lt:∀ (l:Bs),gv l<128 ^ l.length
 | []=>by simp [gv]
 | b::l=>by
  have:=gv_lt l
  simp only [gv,List.length_cons,Nat.pow_succ];omega
theorem gv_grp (z:Nat):gv (grp z)=z:=by
 induction z using Nat.strongRecOn with
 | _ z ih =>
  by_cases h:z<128
  ·rw [grp_lt h];simp only [gv];rw [u8 (by omega)];omega
  ·rw [grp_ge (by omega)]
   simp only [gv]
   rw [ih _ (by omega),u8 (by omega)];omega
def Sh (l:Bs) (c:Bs) (b:UInt8):Prop:=l=c++[b]∧(∀ x∈c,128≤x.toNat)∧b.toNat<128
theorem grp_sh (z:Nat):∃ c b,Sh (grp z) c b∧(c=[]∨b.toNat≠0):=by
 induction z using Nat.strongRecOn with
 | _ z ih =>
  by_cases h:z<128
  ·exact ⟨[],UInt8.ofNat z,⟨grp_lt h,fun x hx=>(by simp at hx),by rw [u8 (by omega)];exact h⟩,.inl rfl⟩
  ·obtain ⟨c,b,⟨h1,h2,h3⟩,h4⟩:=ih (z / 128) (by omega)
   refine ⟨UInt8.ofNat (z % 128+128)::c,b,⟨by rw [grp_ge (by omega),h1];rfl,fun x hx=>?_,h3⟩,.inr ?_⟩
   ·rcases List.mem_cons.1 hx with q | q
    ·rw [q,u8 (by omega)];omega
    ·exact h2 x q
   ·rcases h4 with rfl | h4
    ·intro e
     have e1:gv (grp (z / 128))=z / 128:=gv_grp _
     rw [h1] at e1
     simp only [List.nil_append,gv,e] at e1
     omega
    ·exact h4
theorem sh_grp:∀ {c:Bs} {b:UInt8} {l:Bs},Sh l c b→(c=[]∨b.toNat≠0)→grp (gv l)=l
 | [],b,l,⟨h1,h2,h3⟩,_=>by
  subst h1
  simp only [List.nil_append,gv]
  rw [grp_lt (by omega)]
  congr 1
  apply u8eq;rw [u8 (by omega)];omega
 | x::c,b,l,⟨h1,h2,h3⟩,h4=>by
  have hb:b.toNat≠0:=h4.resolve_left (by simp)
  subst h1
  have hx:=h2 x (by simp)
  have hx2:=u8lt x
  have ih:=sh_grp (c:=c) (b:=b) ⟨rfl,fun y hy=>h2 y (by simp [hy]),h3⟩ (.inr hb)
  have hpos:0<gv (c++[b]):=by
   rw [gv_snoc]
   have:0<128 ^ c.length:=Nat.pow_pos (by omega)
   have:0<b.toNat % 128*128 ^ c.length:=Nat.mul_pos (by omega) this
   omega
  simp only [List.cons_append,gv]
  rw [grp_ge (by omega)]
  have e1:(x.toNat % 128+128*gv (c++[b])) / 128=gv (c++[b]):=by omega
  have e2:(x.toNat % 128+128*gv (c++[b])) % 128=x.toNat % 128:=by omega
  rw [e1,e2,ih]
  congr 1
  apply u8eq;rw [u8 (by omega)];omega
theorem sh_pre:∀ {c c':Bs} {b b':UInt8} {l l' x y:Bs},Sh l c b→Sh l' c' b'→l++x=l'++y→l=l'
 | [],[],b,b',l,l',x,y,⟨h1,_,h3⟩,⟨g1,_,g3⟩,e=>by
  subst h1;subst g1
  simp at e
  rw [e.1]
 | [],d::c',b,b',l,l',x,y,⟨h1,_,h3⟩,⟨g1,g2,g3⟩,e=>by
  subst h1;subst g1
  simp at e
  have:=g2 d (by simp)
  rw [← e.1] at this;omega
 | d::c,[],b,b',l,l',x,y,⟨h1,h2,h3⟩,⟨g1,g2,g3⟩,e=>by
  subst h1;subst g1
  simp at e
  have:=h2 d (by simp)
  rw [e.1] at this;omega
 | d::c,d'::c',b,b',l,l',x,y,⟨h1,h2,h3⟩,⟨g1,g2,g3⟩,e=>by
  subst h1;subst g1
  simp only [List.cons_append,List.cons.injEq] at e ⊢
  refine ⟨e.1,?_⟩
  exact sh_pre (c:=c) (c':=c') (b:=b) (b':=b') ⟨rfl,fun z hz=>h2 z (by simp [hz]),h3⟩ ⟨rfl,fun z hz=>g2 z (by simp [hz]),g3⟩ e.2
theorem isI_sh {t l c:Bs} {b:UInt8} (hl:Sh l c b) (ht:l <+: t) {n:Int} {k:Nat}:IsI t n k↔inR n∧pI n=l∧k=l.length:=by
 constructor
 ·rintro ⟨h1,h2,y,hy⟩
  obtain ⟨x,hx⟩:=ht
  obtain ⟨c',b',h3,_⟩:=grp_sh (zz n)
  have e:pI n=l:=sh_pre h3 hl (show pI n++y=l++x by rw [hy,hx])
  exact ⟨h1,e,by rw [h2,e]⟩
 ·rintro ⟨h1,h2,h3⟩
  exact ⟨h1,by rw [h3,h2],by rw [h2];exact ht⟩
theorem isI_canon {t l c:Bs} {b:UInt8} (hl:Sh l c b) (ht:l <+: t) {n:Int} {k:Nat}:IsI t n k↔inR n∧n=uz (gv l)∧(c=[]∨b.toNat≠0)∧k=l.length:=by
 rw [isI_sh hl ht]
 constructor
 ·rintro ⟨h1,h2,h3⟩
  have e:zz n=gv l:=by rw [← h2];exact (gv_grp _).symm
  refine ⟨h1,by rw [← e,uz_zz],?_,h3⟩
  obtain ⟨c',b',g1,g2⟩:=grp_sh (zz n)
  have:c'++[b']=c++[b]:=by rw [← g1.1,← hl.1];exact h2
  obtain ⟨p,q⟩:=List.append_inj' this rfl
  simp at q
  rw [← p,← q];exact g2
 ·rintro ⟨h1,h2,h3,h4⟩
  refine ⟨h1,?_,h4⟩
  unfold pI
  rw [h2,zz_uz,sh_grp hl h3]
theorem isI_none {t:Bs} {i:Nat} (h:∀ x∈t.take i,128≤x.toNat) (hi:i=9∨t.length≤i) (n:Int) (k:Nat):¬ IsI t n k:=by
 rintro ⟨h1,h2,y,hy⟩
 obtain ⟨c,b,h3,_⟩:=grp_sh (zz n)
 have hl:=pI_len h1
 have e:pI n=c++[b]:=h3.1
 rw [e] at hl hy
 simp only [List.length_append,List.length_singleton] at hl
 have hb:b∈t.take i:=by
  rw [← hy,List.append_assoc]
  rcases hi with rfl | hi
  ·rw [List.take_append]
   obtain ⟨m,hm⟩:∃ m,9-c.length=m+1:=⟨8-c.length,by omega⟩
   rw [hm];simp
  ·rw [← hy] at hi
   rw [List.take_of_length_le (by rw [List.append_assoc] at hi;exact hi)];simp
 have:=h b hb
 have:=h3.2.2
 omega
def IntR (s:Bs) (p:Nat) (r:Int×Int×Int):Prop:=(∀ n k,IsI (s.drop p) n k→r=(n,((p+k:Nat):Int),0))∧((∀ n k,¬ IsI (s.drop p) n k)→r=(0,0,10))
def StrR (s:Bs) (p:Nat) (r:Bs×Int×Int):Prop:=(∀ n k,IsS (s.drop p) n k→r=(n,((p+k:Nat):Int),0))∧((∀ n k,¬ IsS (s.drop p) n k)→r=([],0,10))
theorem IntR.cases {s:Bs} {p:Nat} {r:Int×Int×Int} (h:IntR s p r):(∃ n k,IsI (s.drop p) n k∧r=(n,((p+k:Nat):Int),0))∨((∀ n k,¬ IsI (s.drop p) n k)∧r=(0,0,10)):=by
 by_cases e:∃ n k,IsI (s.drop p) n k
 ·obtain ⟨n,k,e⟩:=e
  exact .inl ⟨n,k,e,h.1 n k e⟩
 ·have e2:∀ n k,¬ IsI (s.drop p) n k:=fun n k q=>e ⟨n,k,q⟩
  exact .inr ⟨e2,h.2 e2⟩
theorem StrR.cases {s:Bs} {p:Nat} {r:Bs×Int×Int} (h:StrR s p r):(∃ n k,IsS (s.drop p) n k∧r=(n,((p+k:Nat):Int),0))∨((∀ n k,¬ IsS (s.drop p) n k)∧r=([],0,10)):=by
 by_cases e:∃ n k,IsS (s.drop p) n k
 ·obtain ⟨n,k,e⟩:=e
  exact .inl ⟨n,k,e,h.1 n k e⟩
 ·have e2:∀ n k,¬ IsS (s.drop p) n k:=fun n k q=>e ⟨n,k,q⟩
  exact .inr ⟨e2,h.2 e2⟩
theorem IsI.le {t:Bs} {n:Int} {k:Nat} (h:IsI t n k):k≤t.length∧t=pI n++t.drop k:=by
 obtain ⟨_,rfl,x,hx⟩:=h
 rw [← hx]
 simp
theorem IsS.le {t u:Bs} {k:Nat} (h:IsS t u k):k≤t.length∧t=pS u++t.drop k:=by
 obtain ⟨_,rfl,x,hx⟩:=h
 rw [← hx]
 simp
end Go.Ar
namespace Go.Proofs.YtdnabfadigkjgaaGreatDoor
open Go Go.Lib Go.Abs Go.PE Go.Ar
theorem pow128 (i:Nat):128 ^ i=2 ^ (7*i):=by rw [Nat.pow_mul]
theorem take_snoc {s:Bs} {p i:Nat} {b:UInt8} (h:s[p+i]? = some b):(s.drop p).take (i+1)=(s.drop p).take i++[b]:=by
 rw [List.take_add_one,List.getElem?_drop,h];rfl
theorem sub_len {s:Bs} {p i:Nat} (h:p+i≤s.length):((s.drop p).take i).length=i:=by rw [List.length_take,List.length_drop];omega
theorem pre_take (t:Bs) (i:Nat):t.take i <+: t:=List.take_prefix _ _
theorem grp_add {i:Nat} (hi:i<9) {z:Nat} (hz:z<128 ^ i) {d:Nat} (hd:d<128):z+d*128 ^ i<9223372036854775808:=by
 have h1:(d+1)*128 ^ i≤128*128 ^ i:=Nat.mul_le_mul_right _ (by omega)
 have h2:128*128 ^ i=128 ^ (i+1):=by rw [Nat.pow_succ,Nat.mul_comm]
 have h3:128 ^ (i+1)≤128 ^ 9:=Nat.pow_le_pow_right (by omega) (by omega)
 have h4:(128:Nat) ^ 9=9223372036854775808:=by decide
 rw [Nat.add_mul] at h1
 omega
theorem xorNeg (m:Nat) (hm:m<4611686018427387904) (o:Nat) (ho:o<2):bitM .xor .i64 (m:Int) (IntKind.wrap .i64 (negM (o:Int)))=if o=0 then (m:Int) else -(m:Int)-1:=by
 unfold negM
 rw [wrap_in (by omega) (by omega)]
 unfold bitM
 dsimp only
 have b1:(BitVec.ofInt IntKind.i64.bits (m:Int)).toNat=m % 18446744073709551616:=by rw [BitVec.ofInt_natCast];rfl
 rw [BitVec.toNat_xor,b1,Nat.mod_eq_of_lt (by omega)]
 by_cases h:o=0
 ·subst h
  rw [if_pos rfl,show (BitVec.ofInt IntKind.i64.bits (-((0:Nat):Int))).toNat=0 from rfl,Nat.xor_zero,wrap_in (by omega) (by omega)]
 ·have:o=1:=by omega
  subst this
  rw [if_neg (by omega),show (BitVec.ofInt IntKind.i64.bits (-((1:Nat):Int))).toNat=18446744073709551615 from rfl,xorAll64 (by omega),IntKind.wrap_i64]
  omega
theorem uz_eq (z:Nat):(if z % 2=0 then ((z / 2:Nat):Int) else -((z / 2:Nat):Int)-1)=uz z:=rfl
theorem wInt_ok {s:Bs} {p:Nat} (hp:p≤s.length) (hs:s.length≤1000000):Ans (m105 (s,(p:Int))) (IntR s p):=by
 unfold m105
 dsimp only
 rw [lenI,geI (by omega),geI (by omega),orF,cF]
 refine Ans.bind (P:=fun (o:Unit⊕Int×Int×Int)=>(o=.inl ()∧∀ n k,¬ IsI (s.drop p) n k)∨∃ r,o=.inr r∧IntR s p r) ?_ fun o ho=>?_
 ·refine Ans.loop (fun i z=>z=((gv ((s.drop p).take i):Int),(i:Int))∧i≤9∧p+i≤s.length∧∀ x∈(s.drop p).take i,128≤x.toNat) 9 ⟨by simp [gv],by omega,by omega,fun x hx=>by simp at hx⟩ ?_
  rintro i z hi ⟨rfl,h1,h2,h3⟩
  dsimp only
  by_cases h9:i=9
  ·rw [geI (by omega),cF]
   exact Ans.some (.inl ⟨rfl,isI_none h3 (.inl h9)⟩)
  rw [ltI (by omega),cT,wrap_in (n:=(p:Int)+(i:Int)) (by omega) (by omega),show (p:Int)+(i:Int)=((p+i:Nat):Int) by omega]
  by_cases hl:p+i<s.length
  ·obtain ⟨b,hb⟩:∃ b,s[p+i]? = some b:=⟨_,List.getElem?_eq_getElem hl⟩
   have hbl:=u8lt b
   have hz:=gv_lt ((s.drop p).take i)
   rw [sub_len (by omega)] at hz
   have hlen:=sub_len (s:=s) (p:=p) (i:=i) (by omega)
   have hsn:=take_snoc hb
   have hadd:=grp_add (i:=i) (by omega) hz (show b.toNat % 128<128 by omega)
   have hgv:gv ((s.drop p).take (i+1))=gv ((s.drop p).take i)+b.toNat % 128*128 ^ i:=by rw [hsn,gv_snoc,hlen]
   have hlt2:b.toNat % 128*128 ^ i<9223372036854775808:=by omega
   rw [gtI (by omega),cF,byteM_of hb,oB,show (127:Int)=((127:Nat):Int) from rfl,and8 (by omega) (by omega),and127,wu64_in (n:=((b.toNat % 128:Nat):Int)) (by omega) (by omega),wrap_in (n:=7*(i:Int)) (by omega) (by omega),show 7*(i:Int)=((7*i:Nat):Int) by omega,shlM_of (k:=.u64) (by show 7*i≤64;omega),oB]
   have e1:IntKind.wrap .u64 (((b.toNat % 128:Nat):Int)*2 ^ (7*i))=((b.toNat % 128*128 ^ i:Nat):Int):=by
    rw [pow128,show (((b.toNat % 128:Nat):Int)*2 ^ (7*i))=((b.toNat % 128*2 ^ (7*i):Nat):Int) by rw [Int.natCast_mul,Int.natCast_pow];rfl]
    rw [pow128] at hlt2
    exact wu64_in (by omega) (by omega)
   have e2:bitM .or .u64 (gv ((s.drop p).take i):Int) ((b.toNat % 128*128 ^ i:Nat):Int)=(gv ((s.drop p).take (i+1)):Int):=by
    rw [or64 (by omega) (by omega),hgv,Nat.or_comm,pow128]
    rw [pow128] at hz
    have:=Nat.two_pow_add_eq_or_of_lt hz (b.toNat % 128)
    rw [Nat.mul_comm,← this,Nat.add_comm]
   rw [e1,e2]
   by_cases hc:128≤b.toNat
   ·rw [leI (by omega),cT,wrap_in (n:=(i:Int)+1) (by omega) (by omega)]
    refine Ans.some ⟨by omega,rfl,by omega,by omega,fun x hx=>?_⟩
    rw [hsn] at hx
    rcases List.mem_append.1 hx with q | q
    ·exact h3 x q
    ·rw [List.mem_singleton.1 q];exact hc
   ·have hsh:Sh ((s.drop p).take (i+1)) ((s.drop p).take i) b:=⟨hsn,h3,by omega⟩
    have hcan:=fun n k=>isI_canon (n:=n) (k:=k) hsh (pre_take _ _)
    have hZ:gv ((s.drop p).take (i+1))<9223372036854775808:=by rw [hgv];exact hadd
    have hlen1:((s.drop p).take (i+1)).length=i+1:=sub_len (by omega)
    have hc0:(s.drop p).take i=[]↔i=0:=by rw [← List.length_eq_zero_iff,hlen]
    generalize gv ((s.drop p).take (i+1))=Z at hcan hZ
    rw [gtI (by omega),cF,shrI (n:=1) (k:=.u64) Z 1 rfl (by decide),oB,show (1:Int)=((1:Nat):Int) from rfl,and64 (by omega) (by omega),and1,wrap_in (n:=((shr Z 1:Nat):Int)) (by show _≤((Z / 2:Nat):Int);omega) (by show ((Z / 2:Nat):Int)≤_;omega),wrap_in (n:=((Z % 2:Nat):Int)) (by omega) (by omega),show shr Z 1=Z / 2 from rfl,xorNeg (Z / 2) (by omega) (Z % 2) (by omega),uz_eq]
    have hub:uz Z≤4611686018427387903:=by unfold uz;split<;>omega
    by_cases hbad:(b.toNat=0∧0<i)∨uz Z < -4611686018427387903
    ·have:PE.orM (PE.andM (eqM (b.toNat:Int) 0) (ltM 0 (i:Int))) (ltM (uz Z) (-4611686018427387903))=true:=by
      unfold PE.orM PE.andM eqM ltM
      rw [← Bool.decide_and,← Bool.decide_or]
      exact dT (by omega)
     rw [this,cT]
     refine Ans.some (.inl ⟨rfl,fun n k h=>?_⟩)
     obtain ⟨g1,g2,g3,g4⟩:=(hcan n k).1 h
     rw [hc0] at g3
     unfold inR at g1
     omega
    ·have:PE.orM (PE.andM (eqM (b.toNat:Int) 0) (ltM 0 (i:Int))) (ltM (uz Z) (-4611686018427387903))=false:=by
      unfold PE.orM PE.andM eqM ltM
      rw [← Bool.decide_and,← Bool.decide_or]
      exact decide_eq_false (by omega)
     rw [this,cF]
     have hin:IsI (s.drop p) (uz Z) (i+1):=(hcan _ _).2 ⟨by unfold inR;omega,rfl,by rw [hc0];omega,hlen1.symm⟩
     refine Ans.some (.inr ⟨_,rfl,fun n k h=>?_,fun h=>absurd hin (h _ _)⟩)
     obtain ⟨q1,q2⟩:=h.uniq hin
     rw [q1,q2,wrap_in (by omega) (by omega)]
     congr 1
  ·rw [leI (by omega),cT]
   exact Ans.some (.inl ⟨rfl,isI_none h3 (.inr (by rw [List.length_drop];omega))⟩)
 ·rcases ho with ⟨rfl,h⟩ | ⟨r,rfl,h⟩
  ·exact Ans.some ⟨fun n k q=>absurd q (h n k),fun _=>rfl⟩
  ·exact Ans.some h
theorem isS_of {t:Bs} {n:Int} {k:Nat} (h:IsI t n k) (h0:0≤n) (h1:n≤65536) (h2:k+n.toNat≤t.length):IsS t ((t.drop k).take n.toNat) (k+n.toNat):=by
 obtain ⟨hk,e⟩:=h.le
 obtain ⟨_,rfl,_⟩:=h
 have hl:((t.drop (pI n).length).take n.toNat).length=n.toNat:=by rw [List.length_take,List.length_drop];omega
 have hl2:((((t.drop (pI n).length).take n.toNat).length:Nat):Int)=n:=by rw [hl];omega
 refine ⟨by omega,?_,?_⟩
 ·unfold pS
  rw [List.length_append,hl2,hl]
 ·unfold pS
  rw [hl2]
  conv=>rhs;rw [e]
  exact List.prefix_append_right_inj _ |>.2 (List.take_prefix _ _)
theorem isI_of {t u:Bs} {k:Nat} (h:IsS t u k):IsI t u.length (k-u.length)∧u.length≤k∧(t.drop (k-u.length)).take u.length=u∧k≤t.length:=by
 obtain ⟨hk,e⟩:=h.le
 obtain ⟨h1,rfl,h3⟩:=h
 have hl:(pS u).length-u.length=(pI u.length).length:=by unfold pS;rw [List.length_append];omega
 rw [hl]
 refine ⟨⟨inR_len h1,rfl,?_⟩,by unfold pS;rw [List.length_append];omega,?_,hk⟩
 ·obtain ⟨x,hx⟩:=h3
  exact ⟨u++x,by rw [← hx];unfold pS;rw [List.append_assoc]⟩
 ·rw [e]
  unfold pS
  rw [List.append_assoc,List.drop_left,List.take_left]
theorem str_ok {s:Bs} {p:Nat} (hp:p≤s.length) (hs:s.length≤1000000) {r:Int×Int×Int} (hr:IntR s p r) :
  Ans (bif PE.notM (eqM r.2.2 0) then some ([],0,r.2.2) else bif PE.orM (PE.orM (ltM r.1 0) (ltM 65536 r.1)) (ltM (IntKind.wrap .i64 (lenM s-r.2.1)) r.1) then some ([],0,10) else (sliceM s r.2.1 (IntKind.wrap .i64 (r.2.1+r.1))).bind fun r_1=>some (r_1,IntKind.wrap .i64 (r.2.1+r.1),0)) (StrR s p):=by
 rcases hr.cases with ⟨n,k,h,rfl⟩ | ⟨h,rfl⟩
 ·dsimp only
  have hk:=h.le.1
  have hn:=h.1
  unfold inR at hn
  rw [List.length_drop] at hk
  rw [eqI rfl,notT,cF,lenI,wrap_in (n:=(s.length:Int)-((p+k:Nat):Int)) (by omega) (by omega)]
  by_cases hb:(n<0∨65536<n)∨(s.length:Int)-((p+k:Nat):Int)<n
  ·have:PE.orM (PE.orM (ltM n 0) (ltM 65536 n)) (ltM ((s.length:Int)-((p+k:Nat):Int)) n)=true:=by
    unfold PE.orM ltM
    rw [← Bool.decide_or,← Bool.decide_or];exact dT hb
   rw [this,cT]
   refine Ans.some ⟨fun u j g=>?_,fun _=>rfl⟩
   obtain ⟨g1,g2,g3,g4⟩:=isI_of g
   obtain ⟨q1,q2⟩:=g1.uniq h
   have:=g.1
   rw [List.length_drop] at g4
   omega
  ·have:PE.orM (PE.orM (ltM n 0) (ltM 65536 n)) (ltM ((s.length:Int)-((p+k:Nat):Int)) n)=false:=by
    unfold PE.orM ltM
    rw [← Bool.decide_or,← Bool.decide_or];exact decide_eq_false hb
   have hS:=isS_of h (by omega) (by omega) (by rw [List.length_drop];omega)
   rw [this,cF,wrap_in (by omega) (by omega),sliceM_of (by omega) (by omega) (by omega),oB]
   have e:((s.take (((p+k:Nat):Int)+n).toNat).drop ((p+k:Nat):Int).toNat)=((s.drop p).drop k).take n.toNat:=by
    rw [List.drop_take,List.drop_drop,show (((p+k:Nat):Int)+n).toNat-((p+k:Nat):Int).toNat=n.toNat by omega,Int.toNat_natCast]
   rw [e]
   refine Ans.some ⟨fun u j g=>?_,fun g=>absurd hS (g _ _)⟩
   obtain ⟨q1,q2⟩:=g.uniq hS
   rw [q1,q2]
   congr 2
   omega
 ·dsimp only
  rw [neI (by decide),notF,cT]
  refine Ans.some ⟨fun u j g=>absurd (isI_of g).1 (h _ _),fun _=>rfl⟩
theorem wStr_ok {s:Bs} {p:Nat} (hp:p≤s.length) (hs:s.length≤1000000):Ans (m107 (s,(p:Int))) (StrR s p):=by
 unfold m107
 dsimp only
 exact Ans.bind (wInt_ok hp hs) fun r hr=>str_ok hp hs hr
def RepR (s:Bs) (o:Rp×Int):Prop:=(∀ r,OkR r→s=en r→o=(r,0))∧((∀ r,OkR r→s≠en r)→o=(zR,390))
theorem wInt_next {s:Bs} (hs:s.length≤1000000) {p:Nat} (hp:p≤s.length) {f:Int×Int×Int→Option (Rp×Int)}
  (h2:(∀ n x,inR n→s.drop p≠pI n++x)→Ans (f (0,0,10)) (RepR s))
  (h1:∀ n k,inR n→s.drop p=pI n++s.drop (p+k)→p+k≤s.length→Ans (f (n,((p+k:Nat):Int),0)) (RepR s)):Ans ((m105 (s,(p:Int))).bind f) (RepR s):=by
 refine Ans.bind (wInt_ok hp hs) fun r hr=>?_
 rcases hr.cases with ⟨n,k,h,rfl⟩ | ⟨h,rfl⟩
 ·obtain ⟨q1,q2⟩:=h.le
  rw [List.length_drop] at q1
  rw [List.drop_drop] at q2
  exact h1 n k h.1 q2 (by omega)
 ·refine h2 fun n x hn e=>h n (pI n).length ⟨hn,rfl,?_⟩
  exact ⟨x,e.symm⟩
theorem wStr_next {s:Bs} (hs:s.length≤1000000) {p:Nat} (hp:p≤s.length) {f:Bs×Int×Int→Option (Rp×Int)}
  (h2:(∀ (n:Bs) x,n.length≤65536→s.drop p≠pS n++x)→Ans (f ([],0,10)) (RepR s))
  (h1:∀ (n:Bs) k,n.length≤65536→s.drop p=pS n++s.drop (p+k)→p+k≤s.length→Ans (f (n,((p+k:Nat):Int),0)) (RepR s)):Ans ((m107 (s,(p:Int))).bind f) (RepR s):=by
 refine Ans.bind (wStr_ok hp hs) fun r hr=>?_
 rcases hr.cases with ⟨n,k,h,rfl⟩ | ⟨h,rfl⟩
 ·obtain ⟨q1,q2⟩:=h.le
  rw [List.length_drop] at q1
  rw [List.drop_drop] at q2
  exact h1 n k h.1 q2 (by omega)
 ·refine h2 fun n x hn e=>h n (pS n).length ⟨hn,rfl,?_⟩
  exact ⟨x,e.symm⟩
theorem ok_inR {r:Rp} (h:OkR r):inR r.sv∧inR r.nu∧inR r.da∧inR r.ki∧inR r.su∧inR r.va∧inR r.rf∧r.pv.length≤65536∧r.tg.length≤65536:=by
 obtain ⟨a1,a2,a3,a4,a5,a6,a7,a8,a9⟩:=h
 unfold inR
 omega
theorem en_eq (r:Rp):en r=pI r.sv++(pI r.nu++(pI r.da++(pI r.ki++(pI r.su++(pI r.va++(pI r.rf++(pS r.pv++(pS r.tg++[])))))))):=by
 unfold en sg;simp
theorem rep_bad {s:Bs} (h:∀ r,OkR r→s≠en r):Ans (some (((0,0,0,0,0,0,0,[],[]):Rp),(390:Int))) (RepR s):=Ans.some ⟨fun r hr e=>absurd e (h r hr),fun _=>rfl⟩
theorem wDec_ok {s:Bs} (hs:s.length≤1000000):Ans (m22 s) (RepR s):=by
 unfold m22
 refine wInt_next (p:=0) hs (by omega) (fun h=>?_) (fun n1 k1 i1 e1 l1=>?_)
 ·dsimp only
  rw [neI (by decide),notF,cT]
  refine rep_bad fun r hr e=>?_
  have e0:=e
  rw [en_eq] at e0
  rw [← List.drop_zero (l:=s)] at e0
  exact h r.sv _ (ok_inR hr).1 e0
 dsimp only
 rw [eqI rfl,notT,cF]
 refine wInt_next (p:=(0+k1)) hs (by omega) (fun h=>?_) (fun n2 k2 i2 e2 l2=>?_)
 ·dsimp only
  rw [neI (by decide),notF,cT]
  refine rep_bad fun r hr e=>?_
  have e0:=e
  rw [en_eq] at e0
  rw [← List.drop_zero (l:=s)] at e0
  rw [e1] at e0
  obtain ⟨_,e0⟩:=pI_pre e0
  exact h r.nu _ (ok_inR hr).2.1 e0
 dsimp only
 rw [eqI rfl,notT,cF]
 refine wInt_next (p:=((0+k1)+k2)) hs (by omega) (fun h=>?_) (fun n3 k3 i3 e3 l3=>?_)
 ·dsimp only
  rw [neI (by decide),notF,cT]
  refine rep_bad fun r hr e=>?_
  have e0:=e
  rw [en_eq] at e0
  rw [← List.drop_zero (l:=s)] at e0
  rw [e1] at e0
  obtain ⟨_,e0⟩:=pI_pre e0
  rw [e2] at e0
  obtain ⟨_,e0⟩:=pI_pre e0
  exact h r.da _ (ok_inR hr).2.2.1 e0
 dsimp only
 rw [eqI rfl,notT,cF]
 refine wInt_next (p:=(((0+k1)+k2)+k3)) hs (by omega) (fun h=>?_) (fun n4 k4 i4 e4 l4=>?_)
 ·dsimp only
  rw [neI (by decide),notF,cT]
  refine rep_bad fun r hr e=>?_
  have e0:=e
  rw [en_eq] at e0
  rw [← List.drop_zero (l:=s)] at e0
  rw [e1] at e0
  obtain ⟨_,e0⟩:=pI_pre e0
  rw [e2] at e0
  obtain ⟨_,e0⟩:=pI_pre e0
  rw [e3] at e0
  obtain ⟨_,e0⟩:=pI_pre e0
  exact h r.ki _ (ok_inR hr).2.2.2.1 e0
 dsimp only
 rw [eqI rfl,notT,cF]
 refine wInt_next (p:=((((0+k1)+k2)+k3)+k4)) hs (by omega) (fun h=>?_) (fun n5 k5 i5 e5 l5=>?_)
 ·dsimp only
  rw [neI (by decide),notF,cT]
  refine rep_bad fun r hr e=>?_
  have e0:=e
  rw [en_eq] at e0
  rw [← List.drop_zero (l:=s)] at e0
  rw [e1] at e0
  obtain ⟨_,e0⟩:=pI_pre e0
  rw [e2] at e0
  obtain ⟨_,e0⟩:=pI_pre e0
  rw [e3] at e0
  obtain ⟨_,e0⟩:=pI_pre e0
  rw [e4] at e0
  obtain ⟨_,e0⟩:=pI_pre e0
  exact h r.su _ (ok_inR hr).2.2.2.2.1 e0
 dsimp only
 rw [eqI rfl,notT,cF]
 refine wInt_next (p:=(((((0+k1)+k2)+k3)+k4)+k5)) hs (by omega) (fun h=>?_) (fun n6 k6 i6 e6 l6=>?_)
 ·dsimp only
  rw [neI (by decide),notF,cT]
  refine rep_bad fun r hr e=>?_
  have e0:=e
  rw [en_eq] at e0
  rw [← List.drop_zero (l:=s)] at e0
  rw [e1] at e0
  obtain ⟨_,e0⟩:=pI_pre e0
  rw [e2] at e0
  obtain ⟨_,e0⟩:=pI_pre e0
  rw [e3] at e0
  obtain ⟨_,e0⟩:=pI_pre e0
  rw [e4] at e0
  obtain ⟨_,e0⟩:=pI_pre e0
  rw [e5] at e0
  obtain ⟨_,e0⟩:=pI_pre e0
  exact h r.va _ (ok_inR hr).2.2.2.2.2.1 e0
 dsimp only
 rw [eqI rfl,notT,cF]
 refine wInt_next (p:=((((((0+k1)+k2)+k3)+k4)+k5)+k6)) hs (by omega) (fun h=>?_) (fun n7 k7 i7 e7 l7=>?_)
 ·dsimp only
  rw [neI (by decide),notF,cT]
  refine rep_bad fun r hr e=>?_
  have e0:=e
  rw [en_eq] at e0
  rw [← List.drop_zero (l:=s)] at e0
  rw [e1] at e0
  obtain ⟨_,e0⟩:=pI_pre e0
  rw [e2] at e0
  obtain ⟨_,e0⟩:=pI_pre e0
  rw [e3] at e0
  obtain ⟨_,e0⟩:=pI_pre e0
  rw [e4] at e0
  obtain ⟨_,e0⟩:=pI_pre e0
  rw [e5] at e0
  obtain ⟨_,e0⟩:=pI_pre e0
  rw [e6] at e0
  obtain ⟨_,e0⟩:=pI_pre e0
  exact h r.rf _ (ok_inR hr).2.2.2.2.2.2.1 e0
 dsimp only
 rw [eqI rfl,notT,cF]
 refine wStr_next (p:=(((((((0+k1)+k2)+k3)+k4)+k5)+k6)+k7)) hs (by omega) (fun h=>?_) (fun n8 k8 i8 e8 l8=>?_)
 ·dsimp only
  rw [neI (by decide),notF,cT]
  refine rep_bad fun r hr e=>?_
  have e0:=e
  rw [en_eq] at e0
  rw [← List.drop_zero (l:=s)] at e0
  rw [e1] at e0
  obtain ⟨_,e0⟩:=pI_pre e0
  rw [e2] at e0
  obtain ⟨_,e0⟩:=pI_pre e0
  rw [e3] at e0
  obtain ⟨_,e0⟩:=pI_pre e0
  rw [e4] at e0
  obtain ⟨_,e0⟩:=pI_pre e0
  rw [e5] at e0
  obtain ⟨_,e0⟩:=pI_pre e0
  rw [e6] at e0
  obtain ⟨_,e0⟩:=pI_pre e0
  rw [e7] at e0
  obtain ⟨_,e0⟩:=pI_pre e0
  exact h r.pv _ (ok_inR hr).2.2.2.2.2.2.2.1 e0
 dsimp only
 rw [eqI rfl,notT,cF]
 refine wStr_next (p:=((((((((0+k1)+k2)+k3)+k4)+k5)+k6)+k7)+k8)) hs (by omega) (fun h=>?_) (fun n9 k9 i9 e9 l9=>?_)
 ·dsimp only
  rw [neI (by decide),notF,cT]
  refine rep_bad fun r hr e=>?_
  have e0:=e
  rw [en_eq] at e0
  rw [← List.drop_zero (l:=s)] at e0
  rw [e1] at e0
  obtain ⟨_,e0⟩:=pI_pre e0
  rw [e2] at e0
  obtain ⟨_,e0⟩:=pI_pre e0
  rw [e3] at e0
  obtain ⟨_,e0⟩:=pI_pre e0
  rw [e4] at e0
  obtain ⟨_,e0⟩:=pI_pre e0
  rw [e5] at e0
  obtain ⟨_,e0⟩:=pI_pre e0
  rw [e6] at e0
  obtain ⟨_,e0⟩:=pI_pre e0
  rw [e7] at e0
  obtain ⟨_,e0⟩:=pI_pre e0
  rw [e8] at e0
  obtain ⟨_,e0⟩:=pS_pre e0
  exact h r.tg _ (ok_inR hr).2.2.2.2.2.2.2.2 e0
 dsimp only
 rw [eqI rfl,notT,cF]
 have hall:s=en (n1,n2,n3,n4,n5,n6,n7,n8,n9)++s.drop (((((((((0+k1)+k2)+k3)+k4)+k5)+k6)+k7)+k8)+k9):=by
  rw [en,sg]
  simp only [List.append_assoc,Rp.sv,Rp.nu,Rp.da,Rp.ki,Rp.su,Rp.va,Rp.rf,Rp.pv,Rp.tg]
  rw [← e9,← e8,← e7,← e6,← e5,← e4,← e3,← e2,← e1,List.drop_zero]
 rw [lenI]
 have huniq:∀ r,s=en r→r=(n1,n2,n3,n4,n5,n6,n7,n8,n9)∧s.drop (((((((((0+k1)+k2)+k3)+k4)+k5)+k6)+k7)+k8)+k9)=[]:=fun r e=>by
  have:=en_pre (a:=r) (b:=(n1,n2,n3,n4,n5,n6,n7,n8,n9)) (x:=[]) (y:=s.drop (((((((((0+k1)+k2)+k3)+k4)+k5)+k6)+k7)+k8)+k9)) (by rw [← hall,List.append_nil,← e])
  exact ⟨this.1,this.2.symm⟩
 by_cases hend:(((((((((0+k1)+k2)+k3)+k4)+k5)+k6)+k7)+k8)+k9)=s.length
 ·rw [eqI (by omega),notT,notF,cT,wOk_eq,oB,orF]
  have h0:s.drop (((((((((0+k1)+k2)+k3)+k4)+k5)+k6)+k7)+k8)+k9)=[]:=List.drop_of_length_le (by omega)
  rw [h0,List.append_nil] at hall
  by_cases ho:OkR (n1,n2,n3,n4,n5,n6,n7,n8,n9)
  ·rw [dT ho,notT,cF]
   exact Ans.some ⟨fun r hr e=>by rw [(huniq r e).1],fun h=>absurd hall (h _ ho)⟩
  ·rw [decide_eq_false ho,notF,cT]
   exact rep_bad fun r hr e=>ho (by rw [← (huniq r e).1];exact hr)
 ·rw [neI (by omega),notF,notT,cF,oB,orT,cT]
  refine rep_bad fun r hr e=>hend ?_
  have:=congrArg List.length (huniq r e).2
  rw [List.length_drop] at this
  simp at this
  omega
def Pw (P:List (List Bs)):Prop:=P.Pairwise (fun p q=>q.length<p.length)∧∀ p∈P,∃ a,p.length=2 ^ a
theorem pow_lt2 {a b:Nat} (h:(2:Nat) ^ a<2 ^ b):2*2 ^ a≤2 ^ b:=by
 have:a<b:=(Nat.pow_lt_pow_iff_right (by omega)).1 h
 rw [show 2*2 ^ a=2 ^ (a+1) by rw [Nat.pow_succ];omega]
 exact Nat.pow_le_pow_right (by omega) this
theorem Pw.tail {p:List Bs} {P:List (List Bs)} (h:Pw (p::P)):Pw P:=⟨(List.pairwise_cons.1 h.1).2,fun q hq=>h.2 q (by simp [hq])⟩
theorem Pw.sum:∀ {p:List Bs} {P:List (List Bs)},Pw (p::P)→P.flatten.length<p.length
 | p,[],h=>by
  obtain ⟨a,ha⟩:=h.2 p (by simp)
  have:=Nat.two_pow_pos a
  simp;omega
 | p,q::P,h=>by
  have h1:=Pw.sum h.tail
  have h2:=(List.pairwise_cons.1 h.1).1 q (by simp)
  obtain ⟨a,ha⟩:=h.2 p (by simp)
  obtain ⟨b,hb⟩:=h.2 q (by simp)
  rw [ha,hb] at h2
  have:=pow_lt2 h2
  rw [List.flatten_cons,List.length_append];omega
theorem Pw.root {p:List Bs} {P:List (List Bs)} (h:Pw (p::P)) (hP:P≠[]):rootL (p::P).flatten=node (rootL p) (rootL P.flatten):=by
 obtain ⟨a,ha⟩:=h.2 p (by simp)
 have h1:=h.sum
 rw [List.flatten_cons]
 refine rootL_split ha ?_ (by omega)
 match P,hP with
 | q::P,_ =>
  obtain ⟨b,hb⟩:=h.2 q (by simp)
  have:=Nat.two_pow_pos b
  rw [List.flatten_cons,List.length_append];omega
theorem Pw.drop {P:List (List Bs)} (h:Pw P) (k:Nat):Pw (P.drop k):=⟨h.1.sublist (List.drop_sublist k P),fun p hp=>h.2 p (List.mem_of_mem_drop hp)⟩
structure Pq1 (P:List (List Bs)) (q:List Bs):Prop where
 pw:Pw P
 two:∃ a,q.length=2 ^ a
 le:∀ p∈P,q.length≤p.length
theorem Pq1.done {P:List (List Bs)} {q:List Bs} (h:Pq1 P q) (hne:∀ P' p,P=P'++[p]→p.length≠q.length):Pw (P++[q]):=by
 refine ⟨List.pairwise_append.2 ⟨h.pw.1,List.pairwise_singleton _ _,fun p hp x hx=>?_⟩,fun p hp=>?_⟩
 ·rw [List.mem_singleton.1 hx]
  rcases List.eq_nil_or_concat P with e | ⟨P',t,e⟩
  ·rw [e] at hp;simp at hp
  ·rw [List.concat_eq_append] at e
   have h1:=hne P' t e
   have h2:=h.le t (by rw [e];simp)
   rw [e] at hp
   rcases List.mem_append.1 hp with g | g
   ·have hp2:=h.pw.1
    rw [e,List.pairwise_append] at hp2
    have:=hp2.2.2 p g t (by simp)
    omega
   ·rw [List.mem_singleton.1 g];omega
 ·rcases List.mem_append.1 hp with g | g
  ·exact h.pw.2 p g
  ·rw [List.mem_singleton.1 g];exact h.two
theorem Pq1.merge {P:List (List Bs)} {p q:List Bs} (h:Pq1 (P++[p]) q) (e:p.length=q.length):Pq1 P (p++q)∧rootL (p++q)=node (rootL p) (rootL q):=by
 obtain ⟨a,ha⟩:=h.two
 have hpos:=Nat.two_pow_pos a
 have hp2:=h.pw.1
 rw [List.pairwise_append] at hp2
 refine ⟨⟨⟨hp2.1,fun x hx=>h.pw.2 x (by simp [hx])⟩,⟨a+1,by rw [List.length_append,Nat.pow_succ];omega⟩,fun x hx=>?_⟩,rootL_split (a:=a) (by omega) (by omega) (by omega)⟩
 have h1:=hp2.2.2 x hx p (by simp)
 obtain ⟨b,hb⟩:=h.pw.2 x (by simp [hx])
 rw [hb,e,ha] at h1
 have:=pow_lt2 h1
 rw [List.length_append];omega
def szs (P:List (List Bs)):List Int:=P.map fun p=>(p.length:Int)
theorem szs_len (P:List (List Bs)):(szs P).length=P.length:=by simp [szs]
theorem szs_app (P Q:List (List Bs)):szs (P++Q)=szs P++szs Q:=by simp [szs]
theorem wRoot_ok {l:List Bs} (hl:l.length≤100000) (hs:∀ s∈l,s.length≤800000):m78 l=some (rootL l):=by
 unfold m78
 refine Ans.bindEq (Q:=fun (o:List Bs)=>∃ P,Pw P∧P.flatten=l∧o=P.map rootL∧P.length≤l.length) ?_ fun o ho=>?_
 ·refine Ans.loop (fun i z=>∃ P,Pw P∧P.flatten=l.take i∧i≤l.length∧P.length≤i∧z=((i:Int),P.map rootL,szs P)) l.length ⟨[],⟨List.Pairwise.nil,fun p hp=>by simp at hp⟩,by simp,by omega,by simp,rfl⟩ ?_
  rintro i z hi ⟨P,h1,h2,h3,h4,rfl⟩
  dsimp only
  rw [lenI]
  by_cases hil:i<l.length
  ·rw [ltI (by omega),cT,idxM_lt hil,oB,wLeaf_ok (hs _ (List.getElem_mem hil)),oB,appM_of (by simp;omega),oB,appM_of (by rw [szs_len];simp;omega),oB]
   have r2:P.map rootL++[leaf l[i]]=(P++[[l[i]]]).map rootL:=by rw [List.map_append,List.map_cons,rootL_one];rfl
   have r3:szs P++[1]=szs (P++[[l[i]]]):=by rw [szs_app];rfl
   rw [r2,r3]
   refine Ans.bind (P:=fun (o:List Bs×List Int)=>∃ Q,Pw Q∧Q.flatten=l.take (i+1)∧Q.length≤i+1∧o=(Q.map rootL,szs Q)) ?_ fun o ho=>?_
   ·refine Ans.loop (fun j z=>∃ Q q,Pq1 Q q∧Q.length+j≤i∧(Q++[q]).flatten=l.take (i+1)∧z=((Q.length:Int)+1,(Q++[q]).map rootL,szs (Q++[q]))) i ⟨P,[l[i]],⟨h1,⟨0,rfl⟩,fun p hp=>?_⟩,by omega,?_,?_⟩ ?_
    ·obtain ⟨a,ha⟩:=h1.2 p hp
     have:=Nat.two_pow_pos a
     simp;omega
    ·rw [List.flatten_append,h2,List.take_add_one,List.getElem?_eq_getElem hil];simp
    ·rw [lenI,szs_len];simp
    ·rintro j z hj ⟨Q,q,g1,g2,g3,rfl⟩
     dsimp only
     rcases List.eq_nil_or_concat Q with e | ⟨Q',p,e⟩
     ·subst e
      rw [geI (by simp)]
      simp only [cF,oB,andF]
      exact Ans.some ⟨[q],by simpa using g1.done (fun P' p h=>by simp at h),by simpa using g3,by simp,rfl⟩
     ·rw [List.concat_eq_append] at e
      subst e
      have hQl:(Q'++[p]).length=Q'.length+1:=by simp
      rw [hQl] at g2 ⊢
      have hn2:IntKind.wrap .i64 (((Q'.length+1:Nat):Int)+1-2)=(Q'.length:Int):=by rw [wrap_in (by omega) (by omega)];omega
      have hn1:IntKind.wrap .i64 (((Q'.length+1:Nat):Int)+1-1)=((Q'.length+1:Nat):Int):=by rw [wrap_in (by omega) (by omega)];omega
      have lw:((Q'++[p]++[q]).map rootL).length=Q'.length+2:=by simp
      have ls:(szs (Q'++[p]++[q])).length=Q'.length+2:=by rw [szs_len];simp
      have i1:idxM (szs (Q'++[p]++[q])) (Q'.length:Int)=some (p.length:Int):=by rw [idxM_nat];simp [szs]
      have i2:idxM (szs (Q'++[p]++[q])) ((Q'.length+1:Nat):Int)=some (q.length:Int):=by rw [idxM_nat];simp [szs]
      have i3:idxM ((Q'++[p]++[q]).map rootL) (Q'.length:Int)=some (rootL p):=by rw [idxM_nat];simp
      have i4:idxM ((Q'++[p]++[q]).map rootL) ((Q'.length+1:Nat):Int)=some (rootL q):=by rw [idxM_nat];simp
      rw [hn2,hn1,i1,i2,i3,i4,lenI,lenI,lw,ls,ltI (a:=1) (by omega),chkM_of (i:=(Q'.length:Int)) (n:=((Q'.length+2:Nat):Int)) (by omega) (by omega),chkM_of (i:=((Q'.length+1:Nat):Int)) (n:=((Q'.length+2:Nat):Int)) (by omega) (by omega)]
      simp only [cT,oB,andT]
      by_cases e:p.length=q.length
      ·obtain ⟨m1,m2⟩:=g1.merge e
       rw [eqI (by omega),cT,chkM_of (by omega) (by omega),oB,wNode_ok (by rw [rootL_len,rootL_len];omega),oB,sliceM_of (by omega) (by omega) (by rw [lw];omega),oB]
       have t1:((((Q'++[p]++[q]).map rootL).take (Q'.length:Int).toNat).drop (0:Int).toNat)=Q'.map rootL:=by simp [List.take_append_of_le_length]
       have t2:(((szs (Q'++[p]++[q])).take (Q'.length:Int).toNat).drop (0:Int).toNat)=szs Q':=by simp [szs,List.take_append_of_le_length]
       have hq:q.length≤l.length:=by
        have:=congrArg List.length g3
        rw [List.flatten_append,List.length_append,List.length_take] at this
        simp at this;omega
       rw [t1,appM_of (by simp;omega),oB,sliceM_of (by omega) (by omega) (by rw [ls];omega),oB,t2,oB,wrap_in (n:=2*(q.length:Int)) (by omega) (by omega),appM_of (by rw [szs_len];simp;omega),oB]
       refine Ans.some ⟨by omega,Q',p++q,m1,by omega,by rw [← g3];simp,?_⟩
       have u1:Q'.map rootL++[node (rootL p) (rootL q)]=(Q'++[p++q]).map rootL:=by rw [List.map_append,List.map_cons,m2];rfl
       have u2:szs Q'++[2*(q.length:Int)]=szs (Q'++[p++q]):=by
        rw [szs_app];unfold szs;simp;omega
       rw [u1,u2];rfl
      ·rw [neI (by omega),cF]
       refine Ans.some ⟨Q'++[p]++[q],g1.done fun P' x hx=>?_,g3,by simp;omega,rfl⟩
       obtain ⟨_,hx2⟩:=List.append_inj' hx rfl
       simp at hx2
       rw [← hx2];exact e
   ·obtain ⟨Q,q1,q2,q3,rfl⟩:=ho
    rw [wrap_in (by omega) (by omega)]
    exact Ans.some ⟨by omega,Q,q1,q2,by omega,q3,rfl⟩
  ·rw [geI (by omega),cF]
   refine Ans.some ⟨P,h1,?_,rfl,by omega⟩
   rw [h2,List.take_of_length_le (by omega)]
 ·obtain ⟨P,h1,h2,rfl,h4⟩:=ho
  rw [lenI,List.length_map]
  rcases List.eq_nil_or_concat P with e | ⟨Q,q,e⟩
  ·subst e
   rw [← h2,List.length_nil,eqI (by omega),cT,wSum_ok (by simp),oB,show ([]:List (List Bs)).flatten=[] from rfl,rootL_nil]
  ·rw [List.concat_eq_append] at e
   have hQ:P.length=Q.length+1:=by rw [e];simp
   have hn1:IntKind.wrap .i64 ((P.length:Int)-1)=(Q.length:Int):=by rw [wrap_in (by omega) (by omega)];omega
   have i1:idxM (P.map rootL) (Q.length:Int)=some (rootL q):=by rw [idxM_nat,e];simp
   have t1:(((P.map rootL).take (Q.length:Int).toNat).drop (0:Int).toNat)=Q.map rootL:=by rw [e];simp [List.take_append_of_le_length]
   rw [neI (by omega),cF,hn1,chkM_of (by omega) (by omega),oB,i1,oB,sliceM_of (by omega) (by omega) (by rw [List.length_map];omega),oB,t1,lenI,List.length_map,wrap_in (n:=(Q.length:Int)-1) (by omega) (by omega)]
   refine bind_of (loopM_at (fun j=>((Q.length:Int)-1-(j:Int),rootL (P.drop (Q.length-j)).flatten)) Q.length ?_ (fun j hj=>?_) ?_) rfl
   ·rw [Nat.sub_zero,e,List.drop_left];simp
   ·obtain ⟨m,hm⟩:∃ m,Q.length-j=m+1:=⟨Q.length-j-1,by omega⟩
    have hd:P.drop m=(P[m]'(by omega))::P.drop (m+1):=List.drop_eq_getElem_cons (by omega)
    have i2:idxM (Q.map rootL) ((Q.length:Int)-1-(j:Int))=some (rootL (P[m]'(by omega))):=by
     rw [show (Q.length:Int)-1-(j:Int)=(m:Int) by omega,idxM_nat,List.getElem?_map,List.getElem?_eq_getElem (by omega)]
     simp [e,List.getElem_append_left (show m<Q.length by omega)]
    dsimp only
    rw [leI (by omega),cT,i2,oB,hm,wNode_ok (by rw [rootL_len,rootL_len];omega),oB,wrap_in (by omega) (by omega),show Q.length-(j+1)=m by omega,hd]
    have hp:=(hd▸h1.drop m:Pw (P[m]'(by omega)::P.drop (m+1)))
    rw [hp.root (by
     intro h
     have:=congrArg List.length h
     rw [List.length_drop] at this
     simp at this;omega)]
    congr 3
    omega
   ·dsimp only
    rw [gtI (by omega),cF,Nat.sub_self,List.drop_zero,h2]
theorem wEnc_eq (r:Rp):m20 r=some (if OkR r then (en r,0) else ([],390)):=by
 unfold m20
 rw [eR,wOk_eq,oB]
 by_cases h:OkR r
 ·rw [dT h,notT,cF,wEn_all,oB,en2_ok h,if_pos h]
 ·rw [decide_eq_false h,notF,cT,if_neg h]
theorem wHead_eq {a:List Rp} (ha:a.length≤1000000):m32 a=some (if OkA a then (rootL (a.map en),0) else ([],390)):=by
 unfold m32
 rw [wValid_eq ha,oB]
 by_cases h:OkA a
 ·obtain ⟨a1,a2,a3⟩:=h
  rw [dT ⟨a1,a2,a3⟩,notT,cF,if_pos ⟨a1,a2,a3⟩]
  refine bind_of (x:=a.map en) (loopM_at (fun k=>((k:Int),(a.take k).map en)) a.length rfl (fun k hk=>?_) ?_) ?_
  ·have ho:=a1 _ (List.getElem_mem hk)
   dsimp only
   rw [lenI,ltI (by omega),cT,idxM_lt hk,oB,eR,wEn_all,oB,en2_ok ho,appM_of (by simp;omega),oB,wrap_in (by omega) (by omega),List.take_add_one,List.getElem?_eq_getElem hk,List.map_append]
   rfl
  ·dsimp only
   rw [lenI,geI (by omega),cF,List.take_length]
  ·rw [wRoot_ok (by simp;omega) (fun s hs=>by
    obtain ⟨r,hr,rfl⟩:=List.mem_map.1 hs
    have:=(okR_len (a1 r hr)).2
    omega),oB]
 ·rw [decide_eq_false h,notF,cT,if_neg h]
theorem wLoad_ok {l:List Bs} (hl:l.length≤1000) (hs:∀ s∈l,s.length≤1000000):∃ D:List Rp,(∀ r,r∈D↔OkR r∧en r∈l)∧m24 l=some (mk40 (arch D)):=by
 have key:Ans (m24 l) (fun o=>∃ D:List Rp,(∀ r,r∈D↔OkR r∧en r∈l)∧o=mk40 (arch D)):=by
  unfold m24
  refine Ans.bind (P:=fun (D:List Rp)=>D.length≤l.length∧∀ r,r∈D↔OkR r∧en r∈l) ?_ fun D hD=>?_
  ·refine Ans.loop (fun k z=>∃ D:List Rp,z=((k:Int),D)∧k≤l.length∧D.length≤k∧∀ r,r∈D↔OkR r∧en r∈l.take k) l.length ⟨[],rfl,by omega,by simp,fun r=>by simp⟩ ?_
   rintro k z hk ⟨D,rfl,h1,h2,h3⟩
   dsimp only
   rw [lenI]
   by_cases hkl:k<l.length
   ·rw [ltI (by omega),cT,idxM_lt hkl,oB]
    obtain ⟨o,e1,e2,e3⟩:=wDec_ok (hs _ (List.getElem_mem hkl))
    have tk:l.take (k+1)=l.take k++[l[k]]:=by rw [List.take_add_one,List.getElem?_eq_getElem hkl];rfl
    rw [e1,oB]
    by_cases hx:∃ r,OkR r∧l[k]=en r
    ·obtain ⟨x,hx1,hx2⟩:=hx
     rw [e2 x hx1 hx2]
     dsimp only
     rw [eqI rfl,cT,eR,appR (by simp;omega),oB,oB,wrap_in (by omega) (by omega)]
     refine Ans.some ⟨by omega,D++[x],rfl,by omega,by simp;omega,fun r=>?_⟩
     rw [tk,List.mem_append,List.mem_singleton,List.mem_append,List.mem_singleton,h3]
     constructor
     ·rintro (⟨p,q⟩ | p)
      ·exact ⟨p,.inl q⟩
      ·rw [p];exact ⟨hx1,.inr hx2.symm⟩
     ·rintro ⟨p,q | q⟩
      ·exact .inl ⟨p,q⟩
      ·exact .inr (en_inj (q.trans hx2))
    ·have hne:∀ r,OkR r→l[k]≠en r:=fun r h1 h2=>hx ⟨r,h1,h2⟩
     rw [e3 hne]
     dsimp only
     rw [neI (by decide),cF,oB,wrap_in (by omega) (by omega)]
     refine Ans.some ⟨by omega,D,rfl,by omega,by omega,fun r=>?_⟩
     rw [tk,List.mem_append,List.mem_singleton,h3]
     constructor
     ·rintro ⟨p,q⟩;exact ⟨p,.inl q⟩
     ·rintro ⟨p,q | q⟩
      ·exact ⟨p,q⟩
      ·exact absurd q.symm (hne r p)
   ·rw [geI (by omega),cF]
    rw [List.take_of_length_le (by omega)] at h3
    exact Ans.some ⟨by omega,h3⟩
  ·exact Ans.of (bind_of (made_ok (xs:=D) (fun x hx=>((hD.2 x).1 hx).1) (by omega)) rfl) ⟨D,hD.2,rfl⟩
 obtain ⟨o,h1,D,h2,rfl⟩:=key
 exact ⟨D,h2,h1⟩
theorem wBelieved_eq {a:List Rp} {s:Int} (ha:a.length≤1000000):m34 (a,s)=some (if OkA a then bel a s else []):=by
 unfold m34
 dsimp only
 rw [wValid_eq ha,oB]
 by_cases h:OkA a
 ·rw [dT h,notT,cF,wBel_ok h,oB,if_pos h]
 ·rw [decide_eq_false h,notF,cT,if_neg h]
end Go.Proofs.YtdnabfadigkjgaaGreatDoor
namespace Go.Ar
def Kc (x y:Rp):Prop:=x.su<y.su∨(x.su=y.su∧x.sv<y.sv)
theorem Kc.irr (x:Rp):¬ Kc x x:=by unfold Kc;omega
theorem Kc.tr {x y z:Rp} (h:Kc x y) (k:Kc y z):Kc x z:=by unfold Kc at *;omega
def curAll (a:List Rp):List Rp:=(List.range 8).flatMap fun (s:Nat)=>curOf (bel a s)
structure CurR (a ys:List Rp):Prop where
 ord:ys.Pairwise Kc
 mem:∀ x,x∈ys↔x∈curAll a
theorem CurR.uniq {a ys zs:List Rp} (h:CurR a ys) (k:CurR a zs):ys=zs:=ext_of Kc.irr (fun h k=>Kc.tr h k) h.ord k.ord fun x=>by rw [h.mem,k.mem]
theorem curOf_mem {l:List Rp} {x:Rp} (h:x∈curOf l):x∈l∧x.ki≠2:=by
 obtain ⟨h1,_,h2,_⟩:=curS_mem _ _ _ x h
 exact ⟨by simpa using h1,h2⟩
theorem bel_sv {a:List Rp} {s:Int} {x:Rp} (h:x∈bel a s):x∈a∧x.sv=s:=by
 obtain ⟨i,hi,e⟩:=List.getElem_of_mem h
 have:=Pbel.mem (bel_is a s).1 (i:=i) (r:=x) (by rw [List.getElem?_eq_getElem hi,e])
 exact ⟨this.1,this.2.1⟩
theorem curAll_mem {a:List Rp} {x:Rp}:x∈curAll a↔∃ s:Nat,s<8∧x∈curOf (bel a s):=by
 unfold curAll
 rw [List.mem_flatMap]
 constructor
 ·rintro ⟨s,h1,h2⟩;exact ⟨s,List.mem_range.1 h1,h2⟩
 ·rintro ⟨s,h1,h2⟩;exact ⟨s,List.mem_range.2 h1,h2⟩
theorem curOf_dist (l:List Rp):(curOf l).Pairwise fun a b=>a.su≠b.su:=curS_dist _ _ _
theorem curAll_dist (a:List Rp):∀ n,((List.range n).flatMap fun (s:Nat)=>curOf (bel a s)).Pairwise fun x y=>¬ (x.su=y.su∧x.sv=y.sv)
 | 0=>List.Pairwise.nil
 | n+1=>by
  rw [List.range_succ,List.flatMap_append]
  refine List.pairwise_append.2 ⟨curAll_dist a n,?_,fun x hx y hy h=>?_⟩
  ·simp only [List.flatMap_cons,List.flatMap_nil,List.append_nil]
   exact (curOf_dist _).imp fun h k=>h k.1
  ·simp only [List.flatMap_cons,List.flatMap_nil,List.append_nil] at hy
   rw [List.mem_flatMap] at hx
   obtain ⟨s,h1,h2⟩:=hx
   have e1:=(bel_sv (curOf_mem h2).1).2
   have e2:=(bel_sv (curOf_mem hy).1).2
   have:=List.mem_range.1 h1
   omega
theorem strict_of {ys out:List Rp} (hp:ys.Perm out) (hd:out.Pairwise fun x y=>¬ (x.su=y.su∧x.sv=y.sv)) (hs:ys.Pairwise fun x y=>¬ Kc y x):ys.Pairwise Kc:=by
 have hd2:ys.Pairwise fun x y=>¬ (x.su=y.su∧x.sv=y.sv):=(hp.pairwise_iff (fun {x y} h k=>h ⟨k.1.symm,k.2.symm⟩)).2 hd
 refine (List.Pairwise.and hs hd2).imp fun h=>?_
 unfold Kc at *
 omega
def frkG:Rp→List Rp→List (Int×Int)→List (Int×Int)
 | _,[],out=>out
 | last,r::t,out=>frkG r t (if last.sv=r.sv∧last.nu=r.nu∧(out=[]∨(out.getLast?.map Prod.fst)≠some r.sv) then out++[(r.sv,r.nu)] else out)
def frk:List Rp→List (Int×Int)
 | []=>[]
 | x::t=>frkG x t []
end Go.Ar
namespace Go.Proofs.YtdnabfadigkjgaaGreatDoor
open Go Go.Lib Go.Abs Go.PE Go.Ar Go.Sort
open Go.Proofs (ltOf)
def Bits (n:Nat) (w:List Bool) (W:List Int):Prop:=w.length=n∧∀ b:Nat,b<n→w[b]? = some (decide ((b:Int)∈W))
theorem Bits.zero (n:Nat):Bits n (List.replicate n false) []:=⟨by simp,fun b hb=>by simp [hb]⟩
theorem Bits.get {n:Nat} {w:List Bool} {W:List Int} (h:Bits n w W) {i:Int} (h0:0≤i) (hi:i<n):idxM w i=some (decide (i∈W)):=by
 obtain ⟨b,rfl⟩:=Int.eq_ofNat_of_zero_le h0
 rw [idxM_nat];exact h.2 b (by omega)
theorem Bits.put {n:Nat} {w:List Bool} {W:List Int} (h:Bits n w W) {i:Int} (h0:0≤i) (hi:i<n):setM w i (fun _=>some true)=some (w.set i.toNat true)∧Bits n (w.set i.toNat true) (i::W):=by
 obtain ⟨h1,h2⟩:=h
 refine ⟨setM_of h0 (by omega) rfl,by rw [List.length_set];exact h1,fun b hb=>?_⟩
 rw [List.getElem?_set]
 by_cases e:i.toNat=b
 ·rw [if_pos e,if_pos (by omega)]
  have:(b:Int)=i:=by omega
  simp [this]
 ·rw [if_neg e,h2 b hb]
  have:(b:Int)≠i:=by omega
  simp [this]
theorem hundred:[false,false,false,false,false,false,false,false,false,false,false,false,false,false,false,false,false,false,false,false,false,false,false,false,false,false,false,false,false,false,false,false,false,false,false,false,false,false,false,false,false,false,false,false,false,false,false,false,false,false,false,false,false,false,false,false,false,false,false,false,false,false,false,false,false,false,false,false,false,false,false,false,false,false,false,false,false,false,false,false,false,false,false,false,false,false,false,false,false,false,false,false,false,false,false,false,false,false,false,false]=List.replicate 100 false:=rfl
theorem wCur_ok {a:List Rp} (h:OkA a):∃ ys,m33 a=some ys∧CurR a ys:=by
 obtain ⟨a1,a2,a3⟩:=h
 have key:Ans (m33 a) (CurR a):=by
  unfold m33
  rw [wValid_eq (by omega),oB,dT ⟨a1,a2,a3⟩,notT,cF]
  refine Ans.seq (x:=curAll a) (loopM_at (fun k=>((k:Int),(List.range k).flatMap fun (s:Nat)=>curOf (bel a s))) 8 rfl (fun k hk=>?_) ?_) ?_
  ·dsimp only
   rw [ltI (by omega),cT,wBel_ok ⟨a1,a2,a3⟩,oB]
   have hb:Pbel a k (bel a k):=(bel_is a k).1
   have hok:∀ r∈bel a (k:Int),OkR r:=fun r hr=>a1 r (bel_sv hr).1
   have hlen:=Pbel.ok hb a1
   have hout:((List.range k).flatMap fun (s:Nat)=>curOf (bel a s)).length≤40*k:=by
    rw [List.length_flatMap]
    have:∀ (L:List Nat),((L.map fun (s:Nat)=>(curOf (bel a s)).length).sum)≤40*L.length:=fun L=>by
     induction L with
     | nil=>simp
     | cons x L ih =>
      have h1:=Pbel.ok (bel_is a x).1 a1
      have h2:(curOf (bel a x)).length≤(bel a x).length:=nodup_len ((curOf_dist _).imp fun h e=>h (by rw [e])) fun y hy=>(curOf_mem hy).1
      simp only [List.map_cons,List.sum_cons,List.length_cons];omega
    simpa using this (List.range k)
   dsimp only
   rw [lenI,mkM_of (by omega) (by omega) (by show _*1≤_;omega),oB,Int.toNat_natCast,wrap_in (n:=((bel a (k:Int)).length:Int)-1) (by omega) (by omega),hundred,List.range_succ,List.flatMap_append]
   simp only [List.flatMap_cons,List.flatMap_nil,List.append_nil]
   generalize (List.range k).flatMap (fun (s:Nat)=>curOf (bel a s))=o0 at hout
   generalize bel a (k:Int)=l at hb hok hlen
   refine Ans.bindEq (Q:=fun (o:List Bool×List Bool×List Rp)=>o.2.2=o0++curOf l) ?_ fun o ho=>by
    rw [wrap_in (by omega) (by omega),ho];rfl
   refine Ans.loop (fun j z=>j≤l.length∧∃ (wd sn:List Bool) (W SN:List Int) (O:List Rp),z=((l.length:Int)-1-(j:Int),wd,sn,o0++O)∧Bits l.length wd W∧Bits 100 sn SN∧O.length≤j∧curS ((l.take (l.length-j)).reverse) W SN O=curOf l) l.length ⟨by omega,_,_,[],[],[],by simp,Bits.zero _,Bits.zero _,by simp,by rw [Nat.sub_zero,List.take_length];rfl⟩ ?_
   rintro j z hj ⟨q0,wd,sn,W,SN,O,rfl,q1,q2,q3,q4⟩
   dsimp only
   by_cases hjl:j<l.length
   ·obtain ⟨m,hm⟩:∃ m,l.length-j=m+1:=⟨l.length-j-1,by omega⟩
    have hml:m<l.length:=by omega
    have hi:(l.length:Int)-1-(j:Int)=(m:Int):=by omega
    have hget:=List.getElem?_eq_getElem hml
    have hr:=hok _ (List.getElem_mem hml)
    have hnu:=(hb.mem hget).2.2
    have htk:(l.take (m+1)).reverse=l[m]::(l.take m).reverse:=by
     rw [List.take_add_one,hget,Option.toList_some,List.reverse_append];rfl
    rw [hm,htk] at q4
    rw [hi,leI (by omega),cT,idxM_lt hml,oB,chkM_of (by omega) (by rw [lenI,q1.1];omega),oB,q1.get (by omega) (by omega),oB]
    generalize l[m]=r at hr hnu q4
    obtain ⟨b1,b2,b3,b4,b5,b6,b7,b8,b9⟩:=hr
    unfold curS at q4
    rw [hnu] at q4
    by_cases hw:(m:Int)∈W
    ·rw [dT hw,cT,oB,wrap_in (by omega) (by omega)]
     rw [if_pos hw] at q4
     exact Ans.some ⟨by omega,by omega,wd,sn,W,SN,O,by rw [show (m:Int)-1=(l.length:Int)-1-((j+1:Nat):Int) by omega],q1,q2,by omega,by rw [show l.length-(j+1)=m by omega];exact q4⟩
    ·rw [decide_eq_false hw,cF]
     rw [if_neg hw] at q4
     by_cases hk2:r.ki=2
     ·rw [if_pos hk2] at q4
      have hrf:0≤r.rf∧r.rf<(m:Int):=by omega
      obtain ⟨p1,p2⟩:=q1.put (i:=r.rf) hrf.1 (by omega)
      rw [eqI (show r.2.2.2.1=2 from hk2),cT,chkM_of hrf.1 (by rw [lenI,q1.1];show r.rf<_;omega),oB,p1,oB,oB,wrap_in (by omega) (by omega)]
      exact Ans.some ⟨by omega,by omega,_,sn,r.rf::W,SN,O,by rw [show (m:Int)-1=(l.length:Int)-1-((j+1:Nat):Int) by omega],p2,q2,by omega,by rw [show l.length-(j+1)=m by omega];exact q4⟩
     ·rw [if_neg hk2] at q4
      have hsu:0≤r.su∧r.su<100:=by omega
      rw [neI (show r.2.2.2.1≠2 from hk2),cF,chkM_of hsu.1 (by show r.su<100;exact hsu.2),oB,z01,q2.get hsu.1 hsu.2,oB]
      by_cases hs:r.su∈SN
      ·rw [if_pos hs] at q4
       rw [dT hs,notT,cF,oB,wrap_in (by omega) (by omega)]
       exact Ans.some ⟨by omega,by omega,wd,sn,W,SN,O,by rw [show (m:Int)-1=(l.length:Int)-1-((j+1:Nat):Int) by omega],q1,q2,by omega,by rw [show l.length-(j+1)=m by omega];exact q4⟩
      ·rw [if_neg hs] at q4
       obtain ⟨p1,p2⟩:=q2.put (i:=r.su) hsu.1 hsu.2
       rw [decide_eq_false hs,notF,cT,oB,p1,oB,eR,appR (by simp;omega),oB,oB,wrap_in (by omega) (by omega)]
       exact Ans.some ⟨by omega,by omega,wd,_,W,r.su::SN,O++[r],by rw [show (m:Int)-1=(l.length:Int)-1-((j+1:Nat):Int) by omega,List.append_assoc],q1,p2,by simp;omega,by rw [show l.length-(j+1)=m by omega];exact q4⟩
   ·rw [gtI (by omega),cF]
    rw [show l.length-j=0 by omega,List.take_zero] at q4
    refine Ans.some ?_
    show o0++O=_
    rw [← q4];rfl
  ·dsimp only
   rw [geI (by omega),cF]
   rfl
  ·have hin:∀ q∈curAll a,OkR q:=fun q hq=>by
    obtain ⟨s,_,h⟩:=curAll_mem.1 hq
    exact a1 q (bel_sv (curOf_mem h).1).1
   have hlen:(curAll a).length≤40:=by
    have hd:=curAll_dist a 8
    refine Nat.le_trans (nodup_len (m:=a) (List.Pairwise.imp (fun {x y} h e=>h (by rw [e];exact ⟨rfl,rfl⟩)) hd) fun x hx=>?_) a3
    obtain ⟨s,_,h⟩:=curAll_mem.1 hx
    exact (bel_sv (curOf_mem h).1).1
   obtain ⟨ys,h1,h2,h3⟩:=sortR swo82 hin (by omega)
   refine Ans.seq h1 (Ans.some ⟨strict_of h2 (curAll_dist a 8) (h3.imp fun {x y} h k=>?_),fun x=>h2.mem_iff⟩)
   rw [(lt82 y x).2 k] at h;cases h
 exact key
theorem getLast_idx {α:Type} {l:List α} (h:l≠[]):idxM l ((l.length:Int)-1)=l.getLast? := by
 have:=List.length_pos_iff.2 h
 rw [show (l.length:Int)-1=((l.length-1:Nat):Int) by omega,idxM_nat,List.getLast?_eq_getElem?]
theorem wForks_eq {a:List Rp} (h:OkA a):m39 a=some (frk a):=by
 obtain ⟨a1,a2,a3⟩:=h
 unfold m39
 rw [wValid_eq (by omega),oB,dT ⟨a1,a2,a3⟩,notT,cF,lenI]
 cases a with
 | nil =>
  rw [show min (1:Int) ((([]:List Rp).length:Nat):Int)=0 from rfl,sliceM_of (by omega) (by simp) (by simp),oB]
  refine bind_of (x:=[]) ?_ rfl
  rw [loopM_eq];rfl
 | cons x t =>
  have hl:(x::t).length=t.length+1:=rfl
  rw [hl] at a3
  rw [show min (1:Int) (((x::t).length:Nat):Int)=1 by rw [hl];omega,sliceM_of (by omega) (by rw [hl];omega) (Int.le_refl _),oB,Int.toNat_natCast,List.take_length]
  show (loopM _ _).bind _=some (frkG x t [])
  refine Ans.bindEq (Q:=fun o=>o=frkG x t []) ?_ fun o ho=>by rw [ho]
  refine Ans.loop (fun k z=>∃ out y,z=((k:Int),out)∧k≤t.length∧out.length≤k∧(x::t)[k]? = some y∧frkG y (t.drop k) out=frkG x t []) t.length ⟨[],x,rfl,by omega,by simp,rfl,rfl⟩ ?_
  rintro k z hk ⟨out,y,rfl,h1,h2,h3,h4⟩
  have hd:List.drop (1:Int).toNat (x::t)=t:=rfl
  dsimp only
  rw [hd,lenI]
  by_cases hkl:k<t.length
  ·have hdk:t.drop k=t[k]::t.drop (k+1):=List.drop_eq_getElem_cons hkl
   rw [hdk,frkG] at h4
   rw [ltI (by omega),cT,idxM_lt hkl,oB,idxM_nat,h3,oB]
   have hnext:(x::t)[k+1]? = some t[k]:=by rw [List.getElem?_cons_succ,List.getElem?_eq_getElem hkl]
   generalize t[k]=r at h4 hnext
   refine Ans.bind (P:=fun o=>o=if y.sv=r.sv∧y.nu=r.nu∧(out=[]∨(out.getLast?.map Prod.fst)≠some r.sv) then out++[(r.sv,r.nu)] else out) ?_ fun o ho=>?_
   ·rw [lenI]
    by_cases ho:out=[]
    ·subst ho
     rw [show ((([]:List (Int×Int)).length:Nat):Int)=0 from rfl,eqI rfl,notT]
     simp only [cF,oB,orT]
     by_cases hc:y.sv=r.sv∧y.nu=r.nu
     ·rw [eqI (show y.1=r.1 from hc.1),eqI (show y.2.1=r.2.1 from hc.2),if_pos ⟨hc.1,hc.2,.inl trivial⟩]
      simp only [andT,cT]
      rw [appM_of (by simp),oB]
      exact Ans.some rfl
     ·have:PE.andM (PE.andM (eqM y.1 r.1) (eqM y.2.1 r.2.1)) true=false:=by
       unfold PE.andM eqM
       rw [Bool.and_true,← Bool.decide_and];exact decide_eq_false hc
      rw [this,cF,if_neg fun q=>hc ⟨q.1,q.2.1⟩]
      exact Ans.some rfl
    ·have hpos:=List.length_pos_iff.2 ho
     obtain ⟨v,hv⟩:∃ v,out.getLast? = some v:=⟨_,List.getLast?_eq_some_getLast ho⟩
     rw [neI (by omega),notF,wrap_in (n:=(out.length:Int)-1) (by omega) (by omega),chkM_of (by omega) (by omega),getLast_idx ho,hv]
     simp only [cT,oB,orF]
     by_cases hc:y.sv=r.sv∧y.nu=r.nu∧v.1≠r.sv
     ·rw [eqI (show y.1=r.1 from hc.1),eqI (show y.2.1=r.2.1 from hc.2.1),neI (show v.1≠r.1 from hc.2.2),if_pos ⟨hc.1,hc.2.1,.inr (by simpa using hc.2.2)⟩]
      simp only [andT,notF,cT]
      rw [appM_of (by simp;omega),oB]
      exact Ans.some rfl
     ·have:PE.andM (PE.andM (eqM y.1 r.1) (eqM y.2.1 r.2.1)) (PE.notM (eqM v.1 r.1))=false:=by
       unfold PE.andM eqM PE.notM
       rw [← decide_not,← Bool.decide_and,← Bool.decide_and]
       exact decide_eq_false fun q=>hc ⟨q.1.1,q.1.2,q.2⟩
      rw [this,cF,if_neg fun q=>hc ⟨q.1,q.2.1,by
       rcases q.2.2 with w | w
       ·exact absurd w ho
       ·simpa using w⟩]
      exact Ans.some rfl
   ·rw [wrap_in (by omega) (by omega)]
    refine Ans.some ⟨by omega,o,r,rfl,by omega,?_,hnext,by rw [ho];exact h4⟩
    rw [ho];split
    ·simp;omega
    ·omega
  ·rw [geI (by omega),cF]
   rw [List.drop_of_length_le (by omega)] at h4
   exact Ans.some h4
end Go.Proofs.YtdnabfadigkjgaaGreatDoor
namespace Go.Ar
set_option maxRecDepth 100000
def k32:Bs:=List.replicate 32 107
def s1:Rp:=(3,0,100,1,5,10,-1,h0,[183,206,247,132,16,190,162,145,231,189,128,117,78,27,252,149,175,238,66,166,50,20,35,39,34,221,47,214,44,75,7,158])
def s2:Rp:=(3,1,200,1,5,12,-1,[141,45,5,180,132,107,163,71,50,199,12,151,27,190,196,105,90,110,52,3,63,255,31,52,164,0,206,211,166,47,30,41],[110,201,126,255,249,203,131,70,149,121,71,16,89,238,29,209,133,171,181,98,19,26,47,68,242,242,28,160,205,58,126,70])
def s3:Rp:=(3,2,300,2,0,0,1,[81,72,191,58,53,82,76,30,92,225,77,36,254,82,252,234,221,103,150,8,17,226,120,99,254,250,153,51,12,193,93,254],[0,67,231,216,185,110,57,4,166,255,159,196,218,133,151,64,29,220,125,40,41,61,215,160,229,170,251,5,10,18,80,38])
def s4:Rp:=(s2.1,s2.2.1,201,s2.2.2.2)
theorem x1:wrR k32 [] (3,0,100,1,5,10,-1,[],[])=(s1,0):=by decide +kernel
theorem x2:addR [] s1=([s1],0):=by decide +kernel
theorem x3:wrR k32 [s1] (3,0,200,1,5,12,-1,[],[])=(s2,0):=by decide +kernel
theorem x4:addR [s1] s2=([s1,s2],0):=by decide +kernel
theorem x5:wrR k32 [s1,s2] (3,0,300,2,0,0,1,[],[])=(s3,0):=by decide +kernel
theorem x6:addR [s1,s2] s3=([s1,s2,s3],0):=by decide +kernel
theorem x7:OkR s1:=by decide +kernel
theorem x8:wrR [107] [s1] s1=(zR,390):=by decide +kernel
theorem x9:mrg [s1] [s3]=([s1,s3],0):=by decide +kernel
theorem x10:addR [s1,s2,s3] s4=([s1,s2,s4,s3],0):=by decide +kernel
theorem x11:miss [s1,s2,s3] [s1]=([s2,s3],0):=by decide +kernel
theorem x12:OkA [s1]:=by decide +kernel
theorem x13:OkA [s1,s2]:=by decide +kernel
theorem x14:OkA [s1,s2,s3]:=by decide +kernel
theorem x15:curAll [s1]=[s1]:=by decide +kernel
theorem x16:curAll [s1,s2]=[s2]:=by decide +kernel
theorem x17:curAll [s1,s2,s3]=[s1]:=by decide +kernel
theorem x18:bel [s1,s2,s3] 3=[s1,s2,s3]:=by decide +kernel
theorem x19:OkA [s1,s3]∧bel [s1,s3] 3=[s1]:=by decide +kernel
theorem x20:OkA [s2,s3]∧bel [s2,s3] 3=[]:=by decide +kernel
theorem x21:OkA [s1,s2,s4,s3]∧bel [s1,s2,s4,s3] 3=[s1]:=by decide +kernel
theorem x22:frk [s1,s2,s4,s3]=[(3,1)]:=by decide +kernel
theorem x23:frk [s1,s2,s3]=[]:=by decide +kernel
theorem x24:9≤(en s1).length∧(en s1).take 9=[6,0,200,1,2,10,20,1,64]:=by decide +kernel
theorem x25:Gen k32 s2:=by decide +kernel
theorem x26:¬ Gen k32 s4:=by decide +kernel
theorem x27:¬ OkA [s2,s1]:=by decide +kernel
theorem en_eq0 (r:Rp):en r=pI r.sv++(pI r.nu++(pI r.da++(pI r.ki++(pI r.su++(pI r.va++(pI r.rf++(pS r.pv++pS r.tg))))))):=by
 unfold en sg;simp
theorem en_long (r:Rp):7≤(en r).length:=by
 have:=pI_pos r.sv
 have:=pI_pos r.nu
 have:=pI_pos r.da
 have:=pI_pos r.ki
 have:=pI_pos r.su
 have:=pI_pos r.va
 have:=pI_pos r.rf
 rw [en_eq0]
 simp only [List.length_append];omega
end Go.Ar
namespace Go.Proofs.YtdnabfadigkjgaaGreatDoor
open Go Go.Lib Go.Abs Go.PE Go.Ar
set_option maxRecDepth 100000
theorem bif_no {α:Type} {c:Bool} {a b r:α} (h:c=false) (h2:b=r):(bif c then a else b)=r:=by rw [h];exact h2
theorem bif_yes {α:Type} {c:Bool} {a b r:α} (h:c=true) (h2:a=r):(bif c then a else b)=r:=by rw [h];exact h2
theorem cur_is {a l:List Rp} (h:OkA a) (hc:curAll a=l) (hl:l.length=1):m33 a=some l:=by
 obtain ⟨ys,h1,h2⟩:=wCur_ok h
 obtain ⟨x,rfl⟩:=List.length_eq_one_iff.1 hl
 rw [h1,h2.uniq (zs:=[x]) ⟨List.pairwise_singleton _ _,fun y=>by rw [hc]⟩]
theorem believed_is {a l:List Rp} {s:Int} (h:OkA a∧bel a s=l):m34 (a,s)=some l:=by
 have:=h.1.2.2
 rw [wBelieved_eq (by omega),if_pos h.1,h.2]
theorem load_is:m24 [en s1,[120]]=some ([s1],0):=by
 have hen:=(okR_len x7).2
 obtain ⟨D,h1,h2⟩:=wLoad_ok (l:=[en s1,[120]]) (by simp) (fun s hs=>by
  rcases List.mem_cons.1 hs with q | q
  ·rw [q];omega
  ·rw [List.mem_singleton.1 q];simp)
 have e:arch D=[s1]:=(up_arch (l:=[s1]) (List.pairwise_singleton _ _) fun r=>by
  rw [h1,List.mem_singleton]
  constructor
  ·intro q;rw [q];exact ⟨x7,by simp⟩
  ·rintro ⟨q1,q2⟩
   rcases List.mem_cons.1 q2 with q | q
   ·exact en_inj q
   ·have q:=List.mem_singleton.1 q
    have:=en_long r
    rw [q] at this
    simp at this).symm
 rw [h2,e];rfl
theorem sane_ok:m11 ()=some true:=by
 unfold m11
 have L1:([s1]:List Rp).length≤1000000:=by simp
 have L2:([s1,s2]:List Rp).length≤1000000:=by simp
 have L3:([s1,s2,s3]:List Rp).length≤1000000:=by simp
 have w:∀ {key:Bs} {a:List Rp} {r:Rp} {v:Rp×Int},a.length≤1000000→wrR key a r=v→m37 (key,a,r)=some v:=fun ha h=>by rw [wWrite_eq ha,h]
 have ad:∀ {a:List Rp} {r:Rp} {v:List Rp×Int},a.length≤1000000→addR a r=v→m31 (a,r)=some v:=fun ha h=>by rw [wAdd_eq ha,h]
 refine bind_of (w (by simp) x1) ?_
 refine bind_of (ad (by simp) x2) ?_
 refine bind_of (w L1 x3) ?_
 refine bind_of (ad L1 x4) ?_
 refine bind_of (w L2 x5) ?_
 refine bind_of (ad L2 x6) ?_
 refine bind_of (x:=(en s1,0)) ((wEnc_eq s1).trans (by rw [if_pos x7])) ?_
 refine bind_of (w L1 x8) ?_
 refine bif_no (by decide +kernel) ?_
 refine bind_of ((wMerge_eq L1 (by simp)).trans (congrArg some x9)) ?_
 refine bind_of (ad L3 x10) ?_
 refine bind_of ((wMiss_eq L3 L1).trans (congrArg some x11)) ?_
 refine bind_of load_is ?_
 refine bind_of (x:=(leaf (en s1),0)) ((wHead_eq L1).trans (by rw [if_pos x12];exact congrArg some (congrArg (fun z=>(z,(0:Int))) (rootL_one _)))) ?_
 refine bind_of (x:=leaf (en s1)) (bif_yes rfl (wLeaf_ok (a:=en s1) (by have:=(okR_len x7).2;omega))) ?_
 refine bif_no (by
  show PE.orM _ (PE.notM (eqsM (leaf (en s1)) (leaf (en s1))))=false
  rw [eqsT rfl];rfl) ?_
 refine bind_of (cur_is x12 x15 rfl) ?_
 refine bind_of (cur_is x13 x16 rfl) ?_
 refine bind_of (cur_is x14 x17 rfl) ?_
 refine bind_of (x:=s1) rfl ?_
 refine bind_of (x:=s2) rfl ?_
 refine bind_of (x:=s1) rfl ?_
 refine bind_of (believed_is ⟨x14,x18⟩) ?_
 refine bind_of (x:=[s1]) (bif_yes rfl (believed_is x19)) ?_
 refine bind_of (x:=[]) (bif_yes rfl (believed_is x20)) ?_
 refine bind_of (x:=[s1]) (bif_yes rfl (believed_is x21)) ?_
 refine bind_of ((wForks_eq x21.1).trans (congrArg some x22)) ?_
 refine bind_of (x:=true) ((samePairs_eq (by simp)).trans (by rw [dT rfl])) ?_
 refine bind_of (x:=[]) (bif_yes rfl ((wForks_eq x14).trans (congrArg some x23))) ?_
 refine bind_of (x:=[6,0,200,1,2,10,20,1,64]) (bif_yes rfl ?_) ?_
 ·show sliceM (en s1) 0 9=_
  rw [sliceM_of (by omega) (by omega) (by have:=x24.1;omega)]
  exact congrArg some x24.2
 refine bind_of (x:=true) (bif_yes rfl ((same_eq (by simp)).trans (by rw [dT rfl]))) ?_
 refine bind_of (x:=true) (bif_yes rfl ((same_eq L1).trans (by rw [dT rfl]))) ?_
 refine bind_of (x:=true) (bif_yes rfl ((wGen_eq k32 s2).trans (by rw [dT x25]))) ?_
 refine bind_of (x:=false) (bif_yes rfl ((wGen_eq k32 s4).trans (by rw [decide_eq_false x26]))) ?_
 refine bind_of (x:=true) (bif_yes rfl ((wValid_eq L3).trans (by rw [dT x14]))) ?_
 refine bind_of (x:=false) (bif_yes rfl ((wValid_eq (by simp)).trans (by rw [decide_eq_false x27]))) ?_
 rfl
structure Good (L a:List Rp):Prop where
 up:Up a
 sub:∀ x∈a,x∈L
structure LOk (L:List Rp):Prop where
 ok:∀ x∈L,OkR x
 len:L.length≤40
theorem Good.len {L a:List Rp} (h:Good L a):a.length≤L.length:=nodup_len h.up.nodup h.sub
theorem Good.ok {L a:List Rp} (hL:LOk L) (h:Good L a):OkA a:=⟨fun x hx=>hL.ok x (h.sub x hx),h.up,by have:=h.len;have:=hL.len;omega⟩
theorem made2_ok {x:List X6} (h:∀ y∈x,has6 y):m12 x=some (madeL x):=madeO_ok h
theorem collided_ok {A B:List Bs} (hA:A.length≤1000) (hB:B.length≤1000) (hAl:∀ a∈A,a.length≤900000) (hBl:∀ b∈B,b.length≤900000) (h:∃ (i j:Nat) (a b:Bs),A[i]? = some a∧B[j]? = some b∧a≠b∧sha a=sha b):m44 (A,B)=some true:=by
 unfold m44
 dsimp only
 refine bind_of (x:=B.map sha) (loopM_at (fun k=>((k:Int),(B.take k).map sha)) B.length rfl (fun k hk=>?_) ?_) ?_
 ·dsimp only
  refine bif_yes (ltI (by rw [lenI];omega)) ?_
  refine bind_of (idxM_lt hk) ?_
  refine bind_of (rSum_ok (hBl _ (List.getElem_mem hk))) ?_
  refine bind_of (x:=(B.take (k+1)).map sha) (by rw [appM_of (by simp;omega),List.take_add_one,List.getElem?_eq_getElem hk,List.map_append];rfl) ?_
  rw [wrap_in (by omega) (by omega)];rfl
 ·dsimp only
  rw [lenI,geI (by omega),cF,List.take_length]
 refine Ans.bindEq (Q:=fun o=>o=.inr true) ?_ fun o ho=>by subst ho;rfl
 refine Ans.loop (fun k s=>s=(k:Int)∧k≤A.length∧∀ (i:Nat) (a:Bs) (j:Nat) (b:Bs),i<k→A[i]? = some a→B[j]? = some b→a≠b→sha a≠sha b) A.length ⟨rfl,by omega,fun i a j b hi=>by omega⟩ ?_
 rintro k s hk ⟨rfl,h2,h3⟩
 rw [lenI]
 by_cases hkl:k<A.length
 ·have hi:=idxM_lt hkl
  rw [ltI (by omega),cT,hi,oB,rSum_ok (hAl _ (List.getElem_mem hkl)),oB]
  refine Ans.bind (P:=fun (o:Unit⊕Bool)=>(o=.inl ()∧∀ (j:Nat) (b:Bs),B[j]? = some b→A[k]≠b→sha A[k]≠sha b)∨o=.inr true) ?_ ?_
  ·refine Ans.loop (fun m s=>s=(m:Int)∧m≤B.length∧∀ (j:Nat) (b:Bs),j<m→B[j]? = some b→A[k]≠b→sha A[k]≠sha b) B.length ⟨rfl,by omega,fun j b hj=>by omega⟩ ?_
   rintro m s hm ⟨rfl,g2,g3⟩
   rw [lenI]
   by_cases hml:m<B.length
   ·rw [ltI (by omega),cT,oB,idxM_lt hml,oB]
    by_cases e:A[k]=B[m]
    ·rw [eqsT e,notT,cF,oB,cF,oB,andF,cF,wrap_in (by omega) (by omega)]
     refine Ans.some ⟨by omega,rfl,by omega,fun j b hj hb hn=>?_⟩
     by_cases f:j=m
     ·subst f;rw [List.getElem?_eq_getElem hml] at hb;cases hb;exact absurd e hn
     ·exact g3 j b (by omega) hb hn
    ·rw [eqsF e,notF,cT,lenI,List.length_map,chkM_of (by omega) (by omega),oB,cT,idxM_lt (show m<(B.map sha).length by rw [List.length_map];omega),oB,List.getElem_map,andT]
     by_cases f:sha A[k]=sha B[m]
     ·rw [eqsT f,cT]
      exact Ans.some (.inr rfl)
     ·rw [eqsF f,cF,wrap_in (by omega) (by omega)]
      refine Ans.some ⟨by omega,rfl,by omega,fun j b hj hb hn=>?_⟩
      by_cases q:j=m
      ·subst q;rw [List.getElem?_eq_getElem hml] at hb;cases hb;exact f
      ·exact g3 j b (by omega) hb hn
   ·rw [geI (by omega),cF]
    refine Ans.some (.inl ⟨rfl,fun j b hb hn=>?_⟩)
    exact g3 j b (by have:=lt_of_get hb;omega) hb hn
  ·rintro o (⟨rfl,ho⟩ | rfl)
   ·show Ans (some (Sum.inl (IntKind.wrap .i64 ((k:Int)+1)))) _
    rw [wrap_in (by omega) (by omega)]
    refine Ans.some ⟨by omega,rfl,by omega,fun i a j b hi ha hb hn=>?_⟩
    by_cases q:i=k
    ·subst q;rw [List.getElem?_eq_getElem hkl] at ha;cases ha;exact ho j b hb hn
    ·exact h3 i a j b (by omega) ha hb hn
   ·exact Ans.some rfl
 ·rw [geI (by omega),cF]
  obtain ⟨i,j,a,b,ha,hb,hn,he⟩:=h
  exact absurd he (h3 i a j b (by have:=lt_of_get ha;omega) ha hb hn)
theorem cat1 {b:UInt8} {x:Bs} (h:x.length≤800000):catM [b] x=some (b::x):=by rw [catM_of (by simp;omega)];rfl
theorem cat2 {b:UInt8} {x y:Bs} (h:x.length+y.length≤800000):catM (b::x) y=some (b::(x++y)):=by rw [catM_of (by simp;omega)];rfl
theorem left_ok {n:Nat} (h2:2≤n) (hn:n≤100000):m89 (n:Int)=some ((cutN n:Nat):Int):=by
 unfold m89
 refine bind_of (x:=((cutN n:Nat):Int)) (loopM_is (fun i (s:Int)=>∃ k:Nat,s=(k:Int)∧2 ^ i≤k∧k<n∧cutG (n-i) n k=cutN n) n ⟨1,rfl,by simp,by omega,rfl⟩ ?_) rfl
 rintro i s hi ⟨k,rfl,g1,g2,g3⟩
 have hii:i<2 ^ i:=Nat.lt_two_pow_self
 obtain ⟨f,hf⟩:∃ f,n-i=f+1:=⟨n-i-1,by omega⟩
 rw [hf] at g3
 unfold cutG at g3
 rw [wrap_in (n:=(n:Int)-(k:Int)) (by omega) (by omega)]
 by_cases c:k<n-k
 ·left
  rw [if_pos c] at g3
  refine ⟨((2*k:Nat):Int),by omega,bif_yes (ltI (by omega)) (by rw [wrap_in (by omega) (by omega)];rfl),2*k,rfl,by rw [Nat.pow_succ];omega,by omega,?_⟩
  rw [show n-(i+1)=f by omega];exact g3
 ·right
  rw [if_neg c] at g3
  refine bif_no (geI (by omega)) (by rw [g3])
theorem one_of {α:Type} {l:List α} (h:l.length=1):∃ a,l=[a]:=List.length_eq_one_iff.1 h
theorem rRoot_go:∀ (k:Nat) (l:List Bs),l.length≤k→l.length≤1000→(∀ s∈l,s.length≤800000)→mF90 (k+1) l=some (rootL l):=by
 intro k
 induction k with
 | zero =>
  intro l hk _ _
  have:l=[]:=List.length_eq_zero_iff.1 (by omega)
  subst this
  show mR90 _ []=_
  unfold mR90
  refine bif_yes rfl (bind_of (rSum_ok (by simp)) ?_)
  rw [rootL_nil]
 | succ k ih =>
  intro l hk hl hs
  show mR90 (mF90 (k+1)) l=_
  unfold mR90
  by_cases h0:l.length=0
  ·have:l=[]:=List.length_eq_zero_iff.1 h0
   subst this
   refine bif_yes rfl (bind_of (rSum_ok (by simp)) ?_)
   rw [rootL_nil]
  refine bif_no (by rw [lenI];exact neI (by omega)) ?_
  by_cases h1:l.length=1
  ·obtain ⟨a,rfl⟩:=one_of h1
   refine bif_yes rfl ?_
   refine bind_of (x:=a) rfl ?_
   refine bind_of (rLeaf_ok (hs a (by simp))) ?_
   rw [rootL_one]
  refine bif_no (by rw [lenI];exact neI (by omega)) ?_
  have hb:=cutN_bd (n:=l.length) (by omega)
  refine bind_of (by rw [lenI];exact left_ok (by omega) (by omega)) ?_
  refine bind_of (x:=l.take (cutN l.length)) (by rw [sliceM_of (by omega) (by omega) (by omega)];simp) ?_
  refine bind_of (ih _ (by rw [List.length_take];omega) (by rw [List.length_take];omega) fun s hm=>hs s (List.mem_of_mem_take hm)) ?_
  refine bind_of (x:=l.drop (cutN l.length)) (by rw [lenI,sliceM_of (by omega) (by omega) (by omega)];simp) ?_
  refine bind_of (ih _ (by rw [List.length_drop];omega) (by rw [List.length_drop];omega) fun s hm=>hs s (List.mem_of_mem_drop hm)) ?_
  refine bind_of (rNode_ok (by rw [rootL_len,rootL_len];omega)) ?_
  rw [← rootL_ge (by omega)]
theorem rRoot_ok {l:List Bs} (hl:l.length≤60) (hs:∀ s∈l,s.length≤800000):m90 l=some (rootL l):=rRoot_go 63 l (by omega) (by omega) hs
theorem hash_len:∀ (n:Nat) (l:List Bs),l.length=n→(hashL l).length≤2*n+1∧(0<n→(hashL l).length+1≤2*n)∧∀ b:Nat,100≤b→(∀ s∈l,s.length≤b)→∀ s∈hashL l,s.length≤b+1:=by
 intro n
 induction n using Nat.strongRecOn with
 | _ n ih =>
  intro l hn
  rw [hashL]
  by_cases h0:l.length=0
  ·rw [dif_pos h0]
   exact ⟨by simp,fun h=>by omega,fun b hb hs s hm=>by simp at hm;subst hm;simp⟩
  rw [dif_neg h0]
  by_cases h1:l.length=1
  ·rw [dif_pos h1]
   obtain ⟨a,rfl⟩:=one_of h1
   refine ⟨by simp,fun h=>by simp;omega,fun b hb hs s hm=>?_⟩
   simp at hm;subst hm
   have:=hs a (by simp)
   simp;omega
  rw [dif_neg h1]
  have hb:=cutN_bd (n:=l.length) (by omega)
  obtain ⟨_,a2,a3⟩:=ih (cutN l.length) (by omega) (l.take (cutN l.length)) (by rw [List.length_take];omega)
  obtain ⟨_,b2,b3⟩:=ih (l.length-cutN l.length) (by omega) (l.drop (cutN l.length)) (by rw [List.length_drop])
  have a2:=a2 (by omega)
  have b2:=b2 (by omega)
  simp only [List.length_append,List.length_cons,List.length_nil]
  refine ⟨by omega,fun _=>by omega,fun b hb hs s hm=>?_⟩
  simp only [List.mem_append,List.mem_singleton] at hm
  rcases hm with (hm | hm) | hm
  ·exact a3 b hb (fun s hm=>hs s (List.mem_of_mem_take hm)) s hm
  ·exact b3 b hb (fun s hm=>hs s (List.mem_of_mem_drop hm)) s hm
  ·subst hm
   have:=rootL_len (l.take (cutN l.length))
   have:=rootL_len (l.drop (cutN l.length))
   simp;omega
theorem rHash_go:∀ (k:Nat) (l:List Bs),l.length≤k→l.length≤60→(∀ s∈l,s.length≤700000)→mF45 (k+1) l=some (hashL l):=by
 intro k
 induction k with
 | zero =>
  intro l hk _ _
  have:l=[]:=List.length_eq_zero_iff.1 (by omega)
  subst this
  show mR45 _ []=_
  unfold mR45 hashL
  exact bif_yes rfl rfl
 | succ k ih =>
  intro l hk hl hs
  show mR45 (mF45 (k+1)) l=_
  unfold mR45
  by_cases h0:l.length=0
  ·have:l=[]:=List.length_eq_zero_iff.1 h0
   subst this
   unfold hashL
   exact bif_yes rfl rfl
  refine bif_no (by rw [lenI];exact neI (by omega)) ?_
  by_cases h1:l.length=1
  ·obtain ⟨a,rfl⟩:=one_of h1
   have:=hs a (by simp)
   refine bif_yes rfl ?_
   refine bind_of (x:=a) rfl ?_
   refine bind_of (cat1 (by omega)) ?_
   unfold hashL;rfl
  refine bif_no (by rw [lenI];exact neI (by omega)) ?_
  have hb:=cutN_bd (n:=l.length) (by omega)
  have t1:sliceM l 0 ((cutN l.length:Nat):Int)=some (l.take (cutN l.length)):=by rw [sliceM_of (by omega) (by omega) (by omega)];simp
  have t2:sliceM l ((cutN l.length:Nat):Int) (lenM l)=some (l.drop (cutN l.length)):=by rw [lenI,sliceM_of (by omega) (by omega) (by omega)];simp
  have s1:∀ s∈l.take (cutN l.length),s.length≤700000:=fun s hm=>hs s (List.mem_of_mem_take hm)
  have s2:∀ s∈l.drop (cutN l.length),s.length≤700000:=fun s hm=>hs s (List.mem_of_mem_drop hm)
  have l1:(l.take (cutN l.length)).length=cutN l.length:=by rw [List.length_take];omega
  have l2:(l.drop (cutN l.length)).length=l.length-cutN l.length:=by rw [List.length_drop]
  have n1:=(hash_len _ _ l1).1
  have n2:=(hash_len _ _ l2).1
  refine bind_of (by rw [lenI];exact left_ok (by omega) (by omega)) ?_
  refine bind_of t1 ?_
  refine bind_of (ih _ (by omega) (by omega) s1) ?_
  refine bind_of t2 ?_
  refine bind_of (ih _ (by omega) (by omega) s2) ?_
  refine bind_of (appM_of (by show (_+_)*16≤_;omega)) ?_
  refine bind_of t1 ?_
  refine bind_of (rRoot_ok (by omega) fun s hm=>Nat.le_trans (s1 s hm) (by omega)) ?_
  refine bind_of (cat1 (by rw [rootL_len];omega)) ?_
  refine bind_of t2 ?_
  refine bind_of (rRoot_ok (by omega) fun s hm=>Nat.le_trans (s2 s hm) (by omega)) ?_
  refine bind_of (cat2 (by rw [rootL_len,rootL_len];omega)) ?_
  refine bind_of (appM_of (by simp only [List.length_append,List.length_cons,List.length_nil];show (_+_+_)*16≤_;omega)) ?_
  have e:hashL l=hashL (l.take (cutN l.length))++hashL (l.drop (cutN l.length))++[1::(rootL (l.take (cutN l.length))++rootL (l.drop (cutN l.length)))]:=by rw [hashL,dif_neg h0,dif_neg h1]
  rw [e]
theorem rHash_ok {l:List Bs} (hl:l.length≤60) (hs:∀ s∈l,s.length≤700000):m45 l=some (hashL l):=rHash_go 63 l (by omega) hl hs
theorem rEncs_ok {a:List Rp} (ha:∀ r∈a,OkR r) (hl:a.length≤1000):m46 a=some (a.map en):=by
 unfold m46
 refine bind_of (x:=a.map en) (loopM_at (fun k=>((k:Int),(a.take k).map en)) a.length rfl (fun k hk=>?_) ?_) rfl
 ·have ho:=ha _ (List.getElem_mem hk)
  dsimp only
  rw [lenI,ltI (by omega),cT,idxM_lt hk,oB,eR,rEn_all,oB,en2_ok ho,appM_of (by simp;omega),oB,wrap_in (by omega) (by omega),List.take_add_one,List.getElem?_eq_getElem hk,List.map_append]
  rfl
 ·dsimp only
  rw [lenI,geI (by omega),cF,List.take_length]
theorem decEnc {r:Rp} (h:OkR r) (hl:(en r).length≤1000000):m22 (en r)=some (r,0):=by
 obtain ⟨o,h1,h2⟩:=wDec_ok hl
 rw [h1,h2.1 r h rfl]
theorem en_pos (r:Rp):0<(en r).length:=by
 rw [en_eq]
 have:0<(pI r.sv).length:=pI_pos _
 simp only [List.length_append];omega
theorem law10_ok (x:List X6×(Int×Int)×Int×Int×Int) (hx:∀ y∈x.1,has6 y) (h1:has64 x.2.1.1) (h2:has64 x.2.1.2) (h3:has64 x.2.2.1) (h4:has64 x.2.2.2.1):m10 x=some true:=by
 unfold m10
 simp only [eqR_eq]
 refine bind_of sane_ok ?_
 refine bif_no rfl ?_
 refine bind_of (made2_ok hx) ?_
 have hM:=madeL_mde x.1
 have hl:=madeL_len x.1
 generalize madeL x.1=l at hM hl
 obtain ⟨s,s1,s2⟩:=some_ok (l:=l) h1 (by omega)
 obtain ⟨t,t1,t2⟩:=some_ok (l:=l) h2 (by omega)
 have sl:=s2.length_le
 have tl:=t2.length_le
 refine bind_of s1 ?_
 refine bind_of (of_ok (fun y hy=>hM.ok y (s2.subset hy)) (by omega)) ?_
 refine bind_of t1 ?_
 refine bind_of (of_ok (fun y hy=>hM.ok y (t2.subset hy)) (by omega)) ?_
 have hA:OkA (arch s):=⟨fun y hy=>hM.ok y (s2.subset ((arch_mem s y).1 hy)),arch_up s,by have:=arch_len s;omega⟩
 have hB:OkA (arch t):=⟨fun y hy=>hM.ok y (t2.subset ((arch_mem t y).1 hy)),arch_up t,by have:=arch_len t;omega⟩
 have la:(arch s).length≤16:=Nat.le_trans (arch_len s) (by omega)
 have lb:(arch t).length≤16:=Nat.le_trans (arch_len t) (by omega)
 generalize arch s=a at hA la
 generalize arch t=b at hB lb
 have enl:∀ {a:List Rp},OkA a→∀ q∈a.map en,q.length≤131153:=fun h q hq=>by
  obtain ⟨r,hr,rfl⟩:=List.mem_map.1 hq
  exact (okR_len (h.1 r hr)).2
 refine bind_of ((wHead_eq (by omega)).trans (by rw [if_pos hA])) ?_
 refine bind_of ((wHead_eq (by omega)).trans (by rw [if_pos hB])) ?_
 dsimp only
 have z0:PE.notM (PE.orM (PE.notM (eqM 0 0)) (PE.notM (eqM 0 0)))=true:=rfl
 simp only [z0,andT]
 obtain ⟨c,hc⟩:∃ c,c=PE.andM (eqsM (rootL (a.map en)) (rootL (b.map en))) (eqM (lenM a) (lenM b)):=⟨_,rfl⟩
 rw [← hc]
 have hc':c=true→rootL (a.map en)=rootL (b.map en)∧a.length=b.length:=fun h=>by
  rw [hc] at h
  unfold PE.andM eqsM eqM lenM at h
  simp only [Bool.and_eq_true,decide_eq_true_eq] at h
  exact ⟨h.1,by omega⟩
 clear hc
 have same:(bif c then m26 (a,b) else some false)=some (c&&decide (a=b)):=by
  cases c
  ·rfl
  ·rw [cT,same_eq (by omega),Bool.true_and]
 refine bind_of same ?_
 obtain ⟨d,hd⟩:∃ d,d=PE.andM c (PE.notM (c&&decide (a=b))):=⟨_,rfl⟩
 rw [← hd]
 have hd':d=true→c=true∧a≠b:=fun h=>by
  rw [hd] at h
  unfold PE.andM PE.notM at h
  cases c
  ·cases h
  ·refine ⟨rfl,fun e=>?_⟩
   rw [dT e] at h;cases h
 clear hd
 obtain ⟨v9,v10,v11,v12,v13,e9,e10,e11,e12,e13,hfin⟩:∃ v9 v10 v11 v12 v13,(bif d then m46 a else some [])=some v9∧(bif d then m45 v9 else some [])=some v10∧(bif d then m46 b else some [])=some v11∧(bif d then m45 v11 else some [])=some v12∧(bif d then m44 (v10,v12) else some false)=some v13∧PE.andM d (PE.notM v13)=false:=by
  cases d
  ·exact ⟨_,_,_,_,_,rfl,rfl,rfl,rfl,rfl,rfl⟩
  ·obtain ⟨hc1,hne⟩:=hd' rfl
   obtain ⟨hr,hlen⟩:=hc' hc1
   have ha1:=hash_len a.length (a.map en) (by simp)
   have hb1:=hash_len b.length (b.map en) (by simp)
   obtain ⟨u,hu,v,hv,huv,huv2⟩:=root_coll a.length (a.map en) (b.map en) (by simp) (by simp [hlen]) hr fun e=>hne (List.map_inj_right (fun p q h=>en_inj h) |>.1 e)
   obtain ⟨i,hi,rfl⟩:=List.getElem_of_mem hu
   obtain ⟨j,hj,rfl⟩:=List.getElem_of_mem hv
   refine ⟨_,_,_,_,_,rEncs_ok hA.1 (by omega),rHash_ok (by simp;omega) fun q hq=>by have:=enl hA q hq;omega,rEncs_ok hB.1 (by omega),rHash_ok (by simp;omega) fun q hq=>by have:=enl hB q hq;omega,collided_ok (by omega) (by omega) (fun q hq=>?_) (fun q hq=>?_) ⟨i,j,_,_,List.getElem?_eq_getElem hi,List.getElem?_eq_getElem hj,huv,huv2⟩,rfl⟩
   ·have:=ha1.2.2 131153 (by omega) (enl hA) q hq;omega
   ·have:=hb1.2.2 131153 (by omega) (enl hB) q hq;omega
 refine bind_of e9 ?_
 refine bind_of e10 ?_
 refine bind_of e11 ?_
 refine bind_of e12 ?_
 refine bind_of e13 ?_
 rw [hfin]
 refine bif_no rfl ?_
 by_cases h0:l.length=0
 ·exact bif_yes (by rw [lenI];exact eqI (by omega)) rfl
 refine bif_no (by rw [lenI];exact neI (by omega)) ?_
 have hp:=pickN_lt (c:=x.2.2.1) (n:=l.length) (by omega)
 refine bind_of (by rw [lenI];exact lpick_eq h3 (by omega)) ?_
 refine bind_of (idxM_of hp.1 hp.2) ?_
 have hr:l[(pickN x.2.2.1 l.length).toNat]'(by omega)∈l:=List.getElem_mem _
 generalize l[(pickN x.2.2.1 l.length).toNat]'(by omega)=r at hr
 have hrO:=hM.ok r hr
 have hel:=(okR_len hrO).2
 have hep:=en_pos r
 refine bind_of ((wEnc_eq r).trans (by rw [if_pos hrO])) ?_
 refine bind_of (decEnc hrO (by omega)) ?_
 have e0:eqM (lenM (en r)) 0=false:=by rw [lenI];exact neI (by omega)
 refine bif_no (by
  dsimp only
  rw [dT rfl,e0];rfl) ?_
 have hq:=pickN_lt (c:=x.2.2.2.1) (n:=(en r).length) (by omega)
 dsimp only
 refine bind_of (by rw [lenI];exact lpick_eq h4 (by omega)) ?_
 obtain ⟨k,hk⟩:=Int.eq_ofNat_of_zero_le hq.1
 rw [hk]
 have hkl:k<(en r).length:=by omega
 refine bind_of (x:=(en r).take k) (by rw [sliceM_of (by omega) (by omega) (by omega)];simp) ?_
 have hb1:(strB [x.2.2.2.2]).length=1:=by unfold strB;simp
 generalize strB [x.2.2.2.2]=cb at hb1
 refine bind_of (catM_of (by rw [List.length_take];omega)) ?_
 refine bind_of (x:=(en r).drop (k+1)) (by rw [wrap_in (by omega) (by omega),lenI,sliceM_of (by omega) (by omega) (by omega)];simp) ?_
 refine bind_of (catM_of (by rw [List.length_append,List.length_take,List.length_drop];omega)) ?_
 have hzl:((en r).take k++cb++(en r).drop (k+1)).length≤1000000:=by rw [List.length_append,List.length_append,List.length_take,List.length_drop];omega
 generalize (en r).take k++cb++(en r).drop (k+1)=z at hzl
 obtain ⟨o,o1,o2,o3⟩:=wDec_ok hzl
 refine bind_of o1 ?_
 by_cases hz:∃ u,OkR u∧z=en u
 ·obtain ⟨u,hu,hzu⟩:=hz
  rw [o2 u hu hzu]
  refine bif_yes rfl ?_
  refine bind_of ((wEnc_eq u).trans (by rw [if_pos hu])) ?_
  dsimp only
  rw [eqsT hzu.symm];rfl
 ·have hz':∀ u,OkR u→z≠en u:=fun u hu e=>hz ⟨u,hu,e⟩
  rw [o3 hz']
  refine bif_no rfl ?_
  rw [eqsF (hz' r hrO)];rfl
end Go.Proofs.YtdnabfadigkjgaaGreatDoor
namespace Go.Proofs.YtdnabfadigkjgaaGreatDoor
open Go Go.Abs Go.PE
theorem mem_in {t:Ty} {l:List t.den} (h:InR (.list t) l):∀ x∈l,InR t x:=fun x hx=>by
 obtain ⟨i,hi,rfl⟩:=List.mem_iff_getElem.1 hx
 exact h.2 i _ (List.getElem?_eq_getElem hi)
theorem law10:∀ (S:Cells) (w:World) (η:Eta) (vs:List Value) x,All2 (RM S w η) (rvs as10 x) vs→m10 x=some true :=
 law_of_ok fun x h=>law10_ok x (mem_in h.1) h.2.1.1 h.2.1.2 h.2.2.1 h.2.2.2.1
end Go.Proofs.YtdnabfadigkjgaaGreatDoor
