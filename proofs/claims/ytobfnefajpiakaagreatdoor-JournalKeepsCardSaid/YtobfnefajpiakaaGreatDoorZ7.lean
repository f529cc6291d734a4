/-
 Texts of this proof, put together: PD, Aa, Ac, Ah, Ba, Bb, Bc, Bd, Be, Bf, Bm, Da, Aj, Ca, Cb, Cc, Cd, Ce, Cf, Cg, Ch, Ci, Cj, LawJournalKeeps.
 No conditions.
-/
import Derived.Test.YtobfnefajpiakaaGreatDoorZ6
set_option linter.all false
namespace Go.PE
variable [ea:Go.Abs.EA]
open Go Go.Abs
def Ans {α:Type} (o:Option α) (Q:α→Prop):Prop:=∃ r,o=some r∧Q r
theorem Ans.is {α:Type} {o:Option α} {r:α} (h:Ans o (fun x=>x=r)):o=some r:=by
 obtain ⟨x,h1,h2⟩:=h
 rw [h1,h2]
theorem Ans.some {α:Type} {r:α} {Q:α→Prop} (hQ:Q r):Ans (some r) Q:=⟨r,rfl,hQ⟩
theorem Ans.bind {α β:Type} {o:Option α} {f:α→Option β} {P:α→Prop} {Q:β→Prop} (h:Ans o P) (hf:∀ x,P x→Ans (f x) Q):Ans (Option.bind o f) Q:=by
 obtain ⟨x,h1,h2⟩:=h
 rw [h1]
 exact hf x h2
def Nxt {σ β:Type} (P:σ→Prop) (Q:β→Prop):σ⊕β→Prop
 | .inl s=>P s
 | .inr r=>Q r
theorem Ans.loop {σ β:Type} {body:σ→Option (σ⊕β)} {s:σ} {Q:β→Prop} (P:Nat→σ→Prop) (n:Nat) (h0:P 0 s)
  (h:∀ k s,k≤n→P k s→Ans (body s) (Nxt (fun s'=>k<n∧P (k+1) s') Q)):Ans (loopM body s) Q:=by
 refine loopM_from P Q n h0 fun k s hk hP=>?_
 obtain ⟨o,h1,h2⟩:=h k s hk hP
 cases o with
 | inl s'=>exact .inl ⟨s',h2.1,h1,h2.2⟩
 | inr r=>exact .inr ⟨r,h1,h2⟩
theorem ltI {a b:Int} (h:a<b):ltM a b=true:=dT h
theorem geI {a b:Int} (h:b≤a):ltM a b=false:=dF (by omega)
theorem leI {a b:Int} (h:a≤b):leM a b=true:=dT h
theorem gtI {a b:Int} (h:b<a):leM a b=false:=dF (by omega)
theorem eqI {a b:Int} (h:a=b):eqM a b=true:=dT h
theorem neI {a b:Int} (h:a≠b):eqM a b=false:=dF h
theorem notT:notM true=false:=rfl
theorem notF:notM false=true:=rfl
theorem orT (b:Bool):orM true b=true:=rfl
theorem orF (b:Bool):orM false b=b:=rfl
theorem andT (b:Bool):andM true b=b:=rfl
theorem andF (b:Bool):andM false b=false:=rfl
def pk (c n:Int):Int:=(if c<0 then -(c+1) else c) % n
theorem pk_lo {c n:Int} (h:0<n):0≤pk c n:=Int.emod_nonneg _ (by omega)
theorem pk_hi {c n:Int} (h:0<n):pk c n<n:=Int.emod_lt_of_pos _ h
theorem remM_of {a b:Int} (ha:0≤a) (hb:0<b):remM a b=some (a % b):=by
 unfold remM
 rw [dF (by omega)]
 show some (a.tmod b)=some (a % b)
 rw [Int.tmod_eq_emod_of_nonneg ha]
theorem pk_text {c n:Int} (hc:IntKind.i64.has c) (hn:0<n) :
  Option.bind (bif ltM c (0:Int) then some (IntKind.wrap .i64 (negM (IntKind.wrap .i64 (c+(1:Int))))) else some c) (fun (o:Int)=>Option.bind (remM o n) fun (r:Int)=>some r)=some (pk c n):=by
 have hc':-9223372036854775808≤c∧c≤9223372036854775807:=hc
 unfold pk
 by_cases h:c<0
 ·rw [ltI h,cT,oB,if_pos h,wrap_in (n:=c+1) (by omega) (by omega)]
  unfold negM
  rw [wrap_in (by omega) (by omega),remM_of (by omega) hn]
  rfl
 ·rw [geI (by omega),cF,oB,if_neg h,remM_of (by omega) hn]
  rfl
end Go.PE
namespace Go.Ar
abbrev Bs:=List UInt8
theorem u8 {n:Nat} (h:n<256):(UInt8.ofNat n).toNat=n:=by rw [UInt8.toNat_ofNat'];omega
theorem u8eq {a b:UInt8} (h:a.toNat=b.toNat):a=b:=UInt8.toNat_inj.1 h
theorem u8lt (b:UInt8):b.toNat<256:=b.toNat_lt
def grp (z:Nat):Bs:=if z<128 then [UInt8.ofNat z] else UInt8.ofNat (z % 128+128)::grp (z / 128)
termination_by z
theorem grp_lt {z:Nat} (h:z<128):grp z=[UInt8.ofNat z]:=by unfold grp;rw [if_pos h]
theorem grp_ge {z:Nat} (h:128≤z):grp z=UInt8.ofNat (z % 128+128)::grp (z / 128):=by rw [grp,if_neg (by omega)]
theorem grp_pre:∀ (a:Nat) {b:Nat} {x y:Bs},grp a++x=grp b++y→a=b∧x=y:=by
 intro a
 induction a using Nat.strongRecOn with
 | _ a ih =>
  intro b x y h
  by_cases ha:a<128<;>by_cases hb:b<128
  ·rw [grp_lt ha,grp_lt hb] at h
   simp only [List.cons_append,List.nil_append,List.cons.injEq] at h
   have e:=congrArg UInt8.toNat h.1
   rw [u8 (by omega),u8 (by omega)] at e
   exact ⟨e,h.2⟩
  ·rw [grp_lt ha,grp_ge (by omega)] at h
   simp only [List.cons_append,List.nil_append,List.cons.injEq] at h
   have e:=congrArg UInt8.toNat h.1
   rw [u8 (by omega),u8 (by omega)] at e
   omega
  ·rw [grp_ge (by omega),grp_lt hb] at h
   simp only [List.cons_append,List.nil_append,List.cons.injEq] at h
   have e:=congrArg UInt8.toNat h.1
   rw [u8 (by omega),u8 (by omega)] at e
   omega
  ·rw [grp_ge (z:=a) (by omega),grp_ge (z:=b) (by omega)] at h
   simp only [List.cons_append,List.cons.injEq] at h
   have e:=congrArg UInt8.toNat h.1
   rw [u8 (by omega),u8 (by omega)] at e
   obtain ⟨e2,e3⟩:=ih (a / 128) (by omega) h.2
   exact ⟨by omega,e3⟩
theorem grp_len:∀ (k:Nat) {z:Nat},z<128 ^ (k+1)→(grp z).length≤k+1
 | 0,z,h=>by rw [grp_lt (by simpa using h)];simp
 | k+1,z,h=>by
  by_cases hz:z<128
  ·rw [grp_lt hz];simp
  ·rw [grp_ge (by omega)]
   have:=grp_len k (z:=z / 128) (by rw [Nat.div_lt_iff_lt_mul (by omega),← Nat.pow_succ];exact h)
   simp only [List.length_cons];omega
def zz (n:Int):Nat:=if n<0 then (-2*n-1).toNat else (2*n).toNat
def uz (z:Nat):Int:=if z % 2=0 then (z / 2:Nat) else -((z / 2:Nat):Int)-1
theorem uz_zz (n:Int):uz (zz n)=n:=by unfold uz zz;split<;>split<;>omega
theorem zz_uz (z:Nat):zz (uz z)=z:=by unfold uz zz;split<;>split<;>omega
theorem zz_inj {a b:Int} (h:zz a=zz b):a=b:=by rw [← uz_zz a,h,uz_zz]
abbrev inR (n:Int):Prop:=-4611686018427387903≤n∧n≤4611686018427387903
theorem zz_lt {n:Int} (h:inR n):zz n<9223372036854775807:=by unfold inR at h;unfold zz;split<;>omega
def pI (n:Int):Bs:=grp (zz n)
theorem pI_pre {a b:Int} {x y:Bs} (h:pI a++x=pI b++y):a=b∧x=y:=by
 obtain ⟨e,f⟩:=grp_pre _ h
 exact ⟨zz_inj e,f⟩
theorem pI_len {n:Int} (h:inR n):(pI n).length≤9:=grp_len 8 (Nat.lt_trans (zz_lt h) (by decide))
def pS (s:Bs):Bs:=pI s.length++s
theorem pS_pre {a b x y:Bs} (h:pS a++x=pS b++y):a=b∧x=y:=by
 unfold pS at h
 rw [aA,aA] at h
 obtain ⟨e,f⟩:=pI_pre h
 exact List.append_inj f (by omega)
def IsI (s:Bs) (n:Int) (k:Nat):Prop:=inR n∧k=(pI n).length∧pI n <+: s
theorem IsI.uniq {s:Bs} {n m:Int} {j k:Nat} (h:IsI s n j) (h':IsI s m k):n=m∧j=k:=by
 obtain ⟨_,rfl,x,hx⟩:=h
 obtain ⟨_,rfl,y,hy⟩:=h'
 obtain ⟨e,_⟩:=pI_pre (hx.trans hy.symm)
 subst e
 exact ⟨rfl,rfl⟩
def IsS (s t:Bs) (k:Nat):Prop:=t.length≤65536∧k=(pS t).length∧pS t <+: s
theorem IsS.uniq {s t u:Bs} {j k:Nat} (h:IsS s t j) (h':IsS s u k):t=u∧j=k:=by
 obtain ⟨_,rfl,x,hx⟩:=h
 obtain ⟨_,rfl,y,hy⟩:=h'
 obtain ⟨e,_⟩:=pS_pre (hx.trans hy.symm)
 subst e
 exact ⟨rfl,rfl⟩
def mW (n:Nat):Nat:=n % 4294967296
def xW (a b:Nat):Nat:=mW a ^^^ mW b
def aW (a b:Nat):Nat:=mW a &&& mW b
def oW (a b:Nat):Nat:=mW a ||| mW b
def shl (x n:Nat):Nat:=mW (x*2 ^ n)
def shr (x n:Nat):Nat:=x / 2 ^ n
def rot (x n:Nat):Nat:=oW (shr x n) (shl x (32-n))
def kSha:List Nat:=[
 0x428a2f98,0x71374491,0xb5c0fbcf,0xe9b5dba5,0x3956c25b,0x59f111f1,0x923f82a4,0xab1c5ed5,
 0xd807aa98,0x12835b01,0x243185be,0x550c7dc3,0x72be5d74,0x80deb1fe,0x9bdc06a7,0xc19bf174,
 0xe49b69c1,0xefbe4786,0x0fc19dc6,0x240ca1cc,0x2de92c6f,0x4a7484aa,0x5cb0a9dc,0x76f988da,
 0x983e5152,0xa831c66d,0xb00327c8,0xbf597fc7,0xc6e00bf3,0xd5a79147,0x06ca6351,0x14292967,
 0x27b70a85,0x2e1b2138,0x4d2c6dfc,0x53380d13,0x650a7354,0x766a0abb,0x81c2c92e,0x92722c85,
 0xa2bfe8a1,0xa81a664b,0xc24b8b70,0xc76c51a3,0xd192e819,0xd6990624,0xf40e3585,0x106aa070,
 0x19a4c116,0x1e376c08,0x2748774c,0x34b0bcb5,0x391c0cb3,0x4ed8aa4a,0x5b9cca4f,0x682e6ff3,
 0x748f82ee,0x78a5636f,0x84c87814,0x8cc70208,0x90befffa,0xa4506ceb,0xbef9a3f7,0xc67178f2]
def hSha:List Nat:=[0x6a09e667,0xbb67ae85,0x3c6ef372,0xa54ff53a,0x510e527f,0x9b05688c,0x1f83d9ab,0x5be0cd19]
def w4 (b:List Nat) (i:Nat):Nat:=oW (oW (oW (shl (mW (b.getD (4*i) 0)) 24) (shl (mW (b.getD (4*i+1) 0)) 16)) (shl (mW (b.getD (4*i+2) 0)) 8)) (mW (b.getD (4*i+3) 0))
def nextW (a b c d:Nat):Nat:=mW (mW (mW (a+xW (xW (rot b 7) (rot b 18)) (shr b 3))+c)+xW (xW (rot d 17) (rot d 19)) (shr d 10))
def wNext (w:List Nat):Nat:=nextW (w.getD (w.length-16) 0) (w.getD (w.length-15) 0) (w.getD (w.length-7) 0) (w.getD (w.length-2) 0)
def wMore:Nat→List Nat→List Nat
 | 0,w=>w
 | k+1,w=>wMore k (w++[wNext w])
def wAll (b:List Nat):List Nat:=wMore 48 ((List.range 16).map (w4 b))
def tW (e f g h k w:Nat):Nat:=mW (mW (mW (mW (h+xW (xW (rot e 6) (rot e 11)) (rot e 25))+xW (aW e f) (aW (xW 4294967295 e) g))+k)+w)
def uW (a b c:Nat):Nat:=mW (xW (xW (rot a 2) (rot a 13)) (rot a 22)+xW (xW (aW a b) (aW a c)) (aW b c))
def rnd (v:List Nat) (kw:Nat×Nat):List Nat:=match v with
 | [a,b,c,d,e,f,g,h]=>[mW (tW e f g h kw.1 kw.2+uW a b c),a,b,c,mW (d+tW e f g h kw.1 kw.2),e,f,g]
 | _=>v
def blk (h:List Nat) (b:List Nat):List Nat:=List.zipWith (fun x y=>mW (x+y)) h ((kSha.zip (wAll b)).foldl rnd h)
def blks:Nat→List Nat→List Nat→List Nat
 | 0,h,_=>h
 | k+1,h,b=>blks k (blk h (b.take 64)) (b.drop 64)
def nZ (n:Nat):Nat:=(119-n % 64) % 64
def pad (b:List Nat):List Nat:=b++128::(List.replicate (nZ b.length) 0++(List.range 8).map fun i=>shr (8*b.length) (8*(7-i)) % 256)
def wBytes (h:List Nat):Bs:=h.flatMap fun x=>[UInt8.ofNat (shr x 24),UInt8.ofNat (shr x 16),UInt8.ofNat (shr x 8),UInt8.ofNat x]
def sha (s:Bs):Bs:=wBytes (blks ((pad (s.map UInt8.toNat)).length / 64) hSha (pad (s.map UInt8.toNat)))
theorem rnd_len {v:List Nat} (kw:Nat×Nat) (h:v.length=8):(rnd v kw).length=8:=by
 unfold rnd;split
 ·rfl
 ·exact h
theorem rnds_len:∀ (l:List (Nat×Nat)) (v:List Nat),v.length=8→(l.foldl rnd v).length=8
 | [],_,h=>h
 | x::l,v,h=>rnds_len l (rnd v x) (rnd_len x h)
theorem blk_len {h b:List Nat} (hh:h.length=8):(blk h b).length=8:=by
 unfold blk;rw [List.length_zipWith,rnds_len _ _ hh,hh];rfl
theorem blks_len:∀ (k:Nat) {h b:List Nat},h.length=8→(blks k h b).length=8
 | 0,_,_,h=>h
 | k+1,_,_,h=>blks_len k (blk_len h)
theorem sha_len (s:Bs):(sha s).length=32:=by
 have:=blks_len ((pad (s.map UInt8.toNat)).length / 64) (h:=hSha) (b:=pad (s.map UInt8.toNat)) rfl
 unfold sha wBytes
 generalize blks _ _ _=l at this
 match l,this with
 | [a,b,c,d,e,f,g,h],_=>rfl
def chain (h s:Bs):Bs:=sha (2::(h++s))
def gv:Bs→Nat
 | []=>0
 | b::l=>b.toNat % 128+128*gv l
theorem gv_snoc:∀ (l:Bs) (b:UInt8),gv (l++[b])=gv l+b.toNat % 128*128 ^ l.length
 | [],b=>by simp [gv]
 | a::l,b=>by
  simp only [List.cons_append,gv,gv_snoc l b,List.length_cons,Nat.pow_succ]
  rw [Nat.mul_add,← Nat.add_assoc,Nat.mul_comm (128 ^ l.length),Nat.mul_left_comm]
theorem gv_lt:∀ (l:Bs),gv l<128 ^ l.length
 | []=>by simp [gv]
 | b::l=>by
  have:=gv_lt l
  simp only [gv,List.length_cons,Nat.pow_succ];omega
theorem gv_grp (z:Nat):gv (grp z)=z:=by
 induction z using Nat.strongRecOn with
 | _ z ih =>
  by_cases h:z<128
  ·rw [grp_lt h];simp only [gv];rw [u8 (by omega)];omega
  ·rw [grp_ge (by omega)]
   simp only [gv]
   rw [ih _ (by omega),u8 (by omega)];omega
def Sh (l:Bs) (c:Bs) (b:UInt8):Prop:=l=c++[b]∧(∀ x∈c,128≤x.toNat)∧b.toNat<128
theorem grp_sh (z:Nat):∃ c b,Sh (grp z) c b∧(c=[]∨b.toNat≠0):=by
 induction z using Nat.strongRecOn with
 | _ z ih =>
  by_cases h:z<128
  ·exact ⟨[],UInt8.ofNat z,⟨grp_lt h,fun x hx=>(by simp at hx),by rw [u8 (by omega)];exact h⟩,.inl rfl⟩
  ·obtain ⟨c,b,⟨h1,h2,h3⟩,h4⟩:=ih (z / 128) (by omega)
   refine ⟨UInt8.ofNat (z % 128+128)::c,b,⟨by rw [grp_ge (by omega),h1];rfl,fun x hx=>?_,h3⟩,.inr ?_⟩
   ·rcases List.mem_cons.1 hx with q | q
    ·rw [q,u8 (by omega)];omega
    ·exact h2 x q
   ·rcases h4 with rfl | h4
    ·intro e
     have e1:gv (grp (z / 128))=z / 128:=gv_grp _
     rw [h1] at e1
     simp only [List.nil_append,gv,e] at e1
     omega
    ·exact h4
theorem sh_grp:∀ {c:Bs} {b:UInt8} {l:Bs},Sh l c b→(c=[]∨b.toNat≠0)→grp (gv l)=l
 | [],b,l,⟨h1,h2,h3⟩,_=>by
  subst h1
  simp only [List.nil_append,gv]
  rw [grp_lt (by omega)]
  congr 1
  apply u8eq;rw [u8 (by omega)];omega
 | x::c,b,l,⟨h1,h2,h3⟩,h4=>by
  have hb:b.toNat≠0:=h4.resolve_left (by simp)
  subst h1
  have hx:=h2 x (by simp)
  have hx2:=u8lt x
  have ih:=sh_grp (c:=c) (b:=b) ⟨rfl,fun y hy=>h2 y (by simp [hy]),h3⟩ (.inr hb)
  have hpos:0<gv (c++[b]):=by
   rw [gv_snoc]
   have:0<128 ^ c.length:=Nat.pow_pos (by omega)
   have:0<b.toNat % 128*128 ^ c.length:=Nat.mul_pos (by omega) this
   omega
  simp only [List.cons_append,gv]
  rw [grp_ge (by omega)]
  have e1:(x.toNat % 128+128*gv (c++[b])) / 128=gv (c++[b]):=by omega
  have e2:(x.toNat % 128+128*gv (c++[b])) % 128=x.toNat % 128:=by omega
  rw [e1,e2,ih]
  congr 1
  apply u8eq;rw [u8 (by omega)];omega
theorem sh_pre:∀ {c c':Bs} {b b':UInt8} {l l' x y:Bs},Sh l c b→Sh l' c' b'→l++x=l'++y→l=l'
 | [],[],b,b',l,l',x,y,⟨h1,_,h3⟩,⟨g1,_,g3⟩,e=>by
  subst h1;subst g1
  simp at e
  rw [e.1]
 | [],d::c',b,b',l,l',x,y,⟨h1,_,h3⟩,⟨g1,g2,g3⟩,e=>by
  subst h1;subst g1
  simp at e
  have:=g2 d (by simp)
  rw [← e.1] at this;omega
 | d::c,[],b,b',l,l',x,y,⟨h1,h2,h3⟩,⟨g1,g2,g3⟩,e=>by
  subst h1;subst g1
  simp at e
  have:=h2 d (by simp)
  rw [e.1] at this;omega
 | d::c,d'::c',b,b',l,l',x,y,⟨h1,h2,h3⟩,⟨g1,g2,g3⟩,e=>by
  subst h1;subst g1
  simp only [List.cons_append,List.cons.injEq] at e ⊢
  refine ⟨e.1,?_⟩
  exact sh_pre (c:=c) (c':=c') (b:=b) (b':=b') ⟨rfl,fun z hz=>h2 z (by simp [hz]),h3⟩ ⟨rfl,fun z hz=>g2 z (by simp [hz]),g3⟩ e.2
theorem isI_sh {t l c:Bs} {b:UInt8} (hl:Sh l c b) (ht:l <+: t) {n:Int} {k:Nat}:IsI t n k↔inR n∧pI n=l∧k=l.length:=by
 constructor
 ·rintro ⟨h1,h2,y,hy⟩
  obtain ⟨x,hx⟩:=ht
  obtain ⟨c',b',h3,_⟩:=grp_sh (zz n)
  have e:pI n=l:=sh_pre h3 hl (show pI n++y=l++x by rw [hy,hx])
  exact ⟨h1,e,by rw [h2,e]⟩
 ·rintro ⟨h1,h2,h3⟩
  exact ⟨h1,by rw [h3,h2],by rw [h2];exact ht⟩
theorem isI_canon {t l c:Bs} {b:UInt8} (hl:Sh l c b) (ht:l <+: t) {n:Int} {k:Nat}:IsI t n k↔inR n∧n=uz (gv l)∧(c=[]∨b.toNat≠0)∧k=l.length:=by
 rw [isI_sh hl ht]
 constructor
 ·rintro ⟨h1,h2,h3⟩
  have e:zz n=gv l:=by rw [← h2];exact (gv_grp _).symm
  refine ⟨h1,by rw [← e,uz_zz],?_,h3⟩
  obtain ⟨c',b',g1,g2⟩:=grp_sh (zz n)
  have:c'++[b']=c++[b]:=by rw [← g1.1,← hl.1];exact h2
  obtain ⟨p,q⟩:=List.append_inj' this rfl
  simp at q
  rw [← p,← q];exact g2
 ·rintro ⟨h1,h2,h3,h4⟩
  refine ⟨h1,?_,h4⟩
  unfold pI
  rw [h2,zz_uz,sh_grp hl h3]
theorem isI_none {t:Bs} {i:Nat} (h:∀ x∈t.take i,128≤x.toNat) (hi:i=9∨t.length≤i) (n:Int) (k:Nat):¬ IsI t n k:=by
 rintro ⟨h1,h2,y,hy⟩
 obtain ⟨c,b,h3,_⟩:=grp_sh (zz n)
 have hl:=pI_len h1
 have e:pI n=c++[b]:=h3.1
 rw [e] at hl hy
 simp only [lA,List.length_singleton] at hl
 have hb:b∈t.take i:=by
  rw [← hy,aA]
  rcases hi with rfl | hi
  ·rw [List.take_append]
   obtain ⟨m,hm⟩:∃ m,9-c.length=m+1:=⟨8-c.length,by omega⟩
   rw [hm];simp
  ·rw [← hy] at hi
   rw [tkL (by rw [aA] at hi;exact hi)];simp
 have:=h b hb
 have:=h3.2.2
 omega
def IntR (s:Bs) (p:Nat) (r:Int×Int×Int):Prop:=(∀ n k,IsI (s.drop p) n k→r=(n,((p+k:Nat):Int),0))∧((∀ n k,¬ IsI (s.drop p) n k)→r=(0,0,10))
def StrR (s:Bs) (p:Nat) (r:Bs×Int×Int):Prop:=(∀ n k,IsS (s.drop p) n k→r=(n,((p+k:Nat):Int),0))∧((∀ n k,¬ IsS (s.drop p) n k)→r=([],0,10))
theorem IntR.cases {s:Bs} {p:Nat} {r:Int×Int×Int} (h:IntR s p r):(∃ n k,IsI (s.drop p) n k∧r=(n,((p+k:Nat):Int),0))∨((∀ n k,¬ IsI (s.drop p) n k)∧r=(0,0,10)):=by
 by_cases e:∃ n k,IsI (s.drop p) n k
 ·obtain ⟨n,k,e⟩:=e
  exact .inl ⟨n,k,e,h.1 n k e⟩
 ·have e2:∀ n k,¬ IsI (s.drop p) n k:=fun n k q=>e ⟨n,k,q⟩
  exact .inr ⟨e2,h.2 e2⟩
theorem StrR.cases {s:Bs} {p:Nat} {r:Bs×Int×Int} (h:StrR s p r):(∃ n k,IsS (s.drop p) n k∧r=(n,((p+k:Nat):Int),0))∨((∀ n k,¬ IsS (s.drop p) n k)∧r=([],0,10)):=by
 by_cases e:∃ n k,IsS (s.drop p) n k
 ·obtain ⟨n,k,e⟩:=e
  exact .inl ⟨n,k,e,h.1 n k e⟩
 ·have e2:∀ n k,¬ IsS (s.drop p) n k:=fun n k q=>e ⟨n,k,q⟩
  exact .inr ⟨e2,h.2 e2⟩
theorem IsI.le {t:Bs} {n:Int} {k:Nat} (h:IsI t n k):k≤t.length∧t=pI n++t.drop k:=by
 obtain ⟨_,rfl,x,hx⟩:=h
 rw [← hx]
 simp
theorem IsS.le {t u:Bs} {k:Nat} (h:IsS t u k):k≤t.length∧t=pS u++t.drop k:=by
 obtain ⟨_,rfl,x,hx⟩:=h
 rw [← hx]
 simp
end Go.Ar
namespace Go.Proofs.YtobfnefajpiakaaGreatDoor
open Go Go.Lib Go.Abs Go.PE Go.Ar
variable [EA]
theorem wu64 (n:Int):IntKind.wrap .u64 n=n % 18446744073709551616:=by simp [IntKind.wrap,IntKind.bits,IntKind.signed]
theorem wu64_in {n:Int} (h0:0≤n) (h:n<18446744073709551616):IntKind.wrap .u64 n=n:=by rw [wu64];omega
theorem wu32_in {n:Int} (h0:0≤n) (h:n<4294967296):IntKind.wrap .u32 n=n:=IntWalk.u32_in n ⟨h0,by omega⟩
theorem wu8_in {n:Int} (h0:0≤n) (h:n<256):IntKind.wrap .u8 n=n:=IntWalk.u8_in n ⟨h0,by omega⟩
theorem wu32 (n:Int):IntKind.wrap .u32 n=n % 4294967296:=by simp [IntKind.wrap,IntKind.bits,IntKind.signed]
theorem wu8 (n:Int):IntKind.wrap .u8 n=n % 256:=by simp [IntKind.wrap,IntKind.bits,IntKind.signed]
theorem bv64 (a:Nat):(BitVec.ofInt IntKind.u64.bits (a:Int)).toNat=a % 18446744073709551616:=by rw [BitVec.ofInt_natCast];rfl
theorem bv32 (a:Nat):(BitVec.ofInt IntKind.u32.bits (a:Int)).toNat=a % 4294967296:=by rw [BitVec.ofInt_natCast];rfl
theorem bv8 (a:Nat):(BitVec.ofInt IntKind.u8.bits (a:Int)).toNat=a % 256:=by rw [BitVec.ofInt_natCast];rfl
theorem xor64 {a b:Nat} (ha:a<18446744073709551616) (hb:b<18446744073709551616):bitM .xor .u64 a b=((a ^^^ b:Nat):Int):=by
 unfold bitM
 dsimp only
 rw [BitVec.toNat_xor,bv64,bv64,Nat.mod_eq_of_lt ha,Nat.mod_eq_of_lt hb]
 have:=Nat.xor_lt_two_pow (n:=64) ha hb
 exact wu64_in (by omega) (by omega)
theorem and64 {a b:Nat} (ha:a<18446744073709551616) (hb:b<18446744073709551616):bitM .and .u64 a b=((a &&& b:Nat):Int):=by
 unfold bitM
 dsimp only
 rw [BitVec.toNat_and,bv64,bv64,Nat.mod_eq_of_lt ha,Nat.mod_eq_of_lt hb]
 have:=Nat.and_lt_two_pow (n:=64) a hb
 exact wu64_in (by omega) (by omega)
theorem or64 {a b:Nat} (ha:a<18446744073709551616) (hb:b<18446744073709551616):bitM .or .u64 a b=((a ||| b:Nat):Int):=by
 unfold bitM
 dsimp only
 rw [BitVec.toNat_or,bv64,bv64,Nat.mod_eq_of_lt ha,Nat.mod_eq_of_lt hb]
 have:=Nat.or_lt_two_pow (n:=64) ha hb
 exact wu64_in (by omega) (by omega)
theorem and8 {a b:Nat} (ha:a<256) (hb:b<256):bitM .and .u8 a b=((a &&& b:Nat):Int):=by
 unfold bitM
 dsimp only
 rw [BitVec.toNat_and,bv8,bv8,Nat.mod_eq_of_lt ha,Nat.mod_eq_of_lt hb]
 have:=Nat.and_lt_two_pow (n:=8) a hb
 exact wu8_in (by omega) (by omega)
theorem or8 {a b:Nat} (ha:a<256) (hb:b<256):bitM .or .u8 a b=((a ||| b:Nat):Int):=by
 unfold bitM
 dsimp only
 rw [BitVec.toNat_or,bv8,bv8,Nat.mod_eq_of_lt ha,Nat.mod_eq_of_lt hb]
 have:=Nat.or_lt_two_pow (n:=8) ha hb
 exact wu8_in (by omega) (by omega)
theorem and127 (a:Nat):a &&& 127=a % 128:=Nat.and_two_pow_sub_one_eq_mod a 7
theorem and1 (a:Nat):a &&& 1=a % 2:=Nat.and_two_pow_sub_one_eq_mod a 1
theorem or128 {a:Nat} (h:a<128):a ||| 128=a+128:=by
 have:=Nat.two_pow_add_eq_or_of_lt (i:=7) h 1
 rw [Nat.or_comm,Nat.add_comm];simpa using this.symm
theorem xorAll64 {a:Nat} (h:a<18446744073709551616):a ^^^ 18446744073709551615=18446744073709551615-a:=by
 have e:((BitVec.ofNat 64 a) ^^^ BitVec.allOnes 64).toNat=(~~~ (BitVec.ofNat 64 a)).toNat:=by rw [BitVec.xor_allOnes]
 rw [BitVec.toNat_xor,BitVec.toNat_not,BitVec.toNat_allOnes,BitVec.toNat_ofNat,Nat.mod_eq_of_lt h] at e
 simpa using e
theorem shrM_of {k:IntKind} {a:Int} {n:Nat} (h:n≤k.bits):shrM k a (n:Int)=some (a.fdiv (2 ^ n)):=by
 unfold shrM
 rw [dF (by omega)]
 show some (a.fdiv (2 ^ min ((n:Int).toNat) k.bits))=_
 rw [Int.toNat_natCast,Nat.min_eq_left h]
theorem shlM_of {k:IntKind} {a:Int} {n:Nat} (h:n≤k.bits):shlM k a (n:Int)=some (k.wrap (a*2 ^ n)):=by
 unfold shlM
 rw [dF (by omega)]
 show some (k.wrap (a*2 ^ min ((n:Int).toNat) k.bits))=_
 rw [Int.toNat_natCast,Nat.min_eq_left h]
theorem fdiv_nat (a b:Nat):Int.fdiv (a:Int) (b:Int)=((a / b:Nat):Int):=by
 rw [Int.fdiv_eq_ediv_of_nonneg _ (by omega)];rfl
theorem lenI {α:Type} (l:List α):lenM l=(l.length:Int):=rfl
theorem catM_of {x y:List UInt8} (h:x.length+y.length≤9223372036854775807):catM x y=some (x++y):=by unfold catM;rw [Nat.ble_eq_true_of_le h]
theorem catB_of {x y:List UInt8} (h:x.length+y.length≤140737488355328):catB x y=some (x++y):=by unfold catB;rw [Nat.ble_eq_true_of_le h]
theorem eqsT {x y:List UInt8} (h:x=y):eqsM x y=true:=dT h
theorem eqsF {x y:List UInt8} (h:x≠y):eqsM x y=false:=dF h
theorem app1 {α:Type} {b:Nat} {l:List α} {d:α} (hb:b≤1000) (h:l.length≤1000000):appM b l [d]=some (l++[d]):=by
 refine appM_of ?_
 have:(l.length+[d].length)*b≤(l.length+[d].length)*1000:=Nat.mul_le_mul_left _ hb
 simp only [List.length_singleton] at *
 omega
theorem byteM_of {s:List UInt8} {i:Nat} {b:UInt8} (h:s[i]? = some b):byteM s (i:Int)=some (b.toNat:Int):=by
 unfold byteM
 rw [dT (by omega)]
 simp only [Int.toNat_natCast,h]
def nB (s:Bs):List Int:=s.map fun b=>(b.toNat:Int)
theorem strB_nB (s:Bs):strB (nB s)=s:=by
 unfold strB nB
 rw [List.map_map]
 have:((fun n:Int=>UInt8.ofNat n.toNat) ∘ fun b:UInt8=>(b.toNat:Int))=id:=by
  funext b;simp
 rw [this,List.map_id]
theorem nB_len (s:Bs):(nB s).length=s.length:=by simp [nB]
theorem nB_app (s t:Bs):nB (s++t)=nB s++nB t:=by simp [nB]
theorem nB_grp_lt {z:Nat} (h:z<128):nB (grp z)=[(z:Int)]:=by rw [grp_lt h];simp [nB,u8 (show z<256 by omega)]
theorem nB_grp_ge {z:Nat} (h:128≤z):nB (grp z)=((z % 128+128:Nat):Int)::nB (grp (z / 128)):=by
 rw [grp_ge h];show ((UInt8.ofNat (z % 128+128)).toNat:Int)::_=_;rw [u8 (by omega)];rfl
theorem wPut_ok {n:Int} (h:inR n):m96 n=some (pI n,0):=by
 have h':-4611686018427387903≤n∧n≤4611686018427387903:=h
 have hz:=zz_lt h
 unfold m96
 dsimp only
 rw [geI h'.1,geI h'.2,orF,cF]
 have e0:bitM .xor .u64 (IntKind.wrap .u64 (IntKind.wrap .u64 n*2 ^ 1)) (IntKind.wrap .u64 (n.fdiv (2 ^ 63)))=(zz n:Int):=by
  by_cases hn:n<0
  ·have e1:IntKind.wrap .u64 (IntKind.wrap .u64 n*2 ^ 1)=((18446744073709551616+2*n).toNat:Int):=by rw [wu64 n,wu64];omega
   have e2:n.fdiv (2 ^ 63)=-1:=by
    rw [Int.fdiv_eq_ediv_of_nonneg _ (by decide)]
    omega
   rw [e1,e2,wu64,show (-1:Int) % 18446744073709551616=((18446744073709551615:Nat):Int) by decide,xor64 (by omega) (by omega),xorAll64 (by omega)]
   unfold zz
   rw [if_pos hn];omega
  ·have e1:IntKind.wrap .u64 (IntKind.wrap .u64 n*2 ^ 1)=((2*n).toNat:Int):=by rw [wu64 n,wu64];omega
   have e2:n.fdiv (2 ^ 63)=0:=by
    rw [Int.fdiv_eq_ediv_of_nonneg _ (by decide)]
    omega
   rw [e1,e2,wu64,show (0:Int) % 18446744073709551616=((0:Nat):Int) by decide,xor64 (by omega) (by omega),Nat.xor_zero]
   unfold zz
   rw [if_neg hn]
 rw [show (1:Int)=((1:Nat):Int) from rfl,shlM_of (k:=.u64) (by decide),oB,show (63:Int)=((63:Nat):Int) from rfl,shrM_of (k:=.i64) (by decide),oB,e0]
 have key:Ans (loopM (fun (s:Int×List Int)=>(bif PE.notM (ltM s.1 128) then some (bitM BinOp.or .u8 (IntKind.wrap .u8 (bitM BinOp.and .u64 s.1 127)) 128) else some (IntKind.wrap .u8 (bitM BinOp.and .u64 s.1 127))).bind fun o=>(appM (nat_lit 1) s.2 [o]).bind fun r_2=>bif PE.orM false (ltM s.1 128) then some (Sum.inr (s.1,r_2)) else (shrM .u64 s.1 7).bind fun r=>some (Sum.inl (r,r_2))) ((zz n:Int),([]:List Int))) (fun r=>r.2=nB (pI n)):=by
  refine Ans.loop (fun k s=>∃ z:Nat,s.1=z∧s.2.length=k∧z<128 ^ (10-k)∧z<9223372036854775807∧s.2++nB (grp z)=nB (pI n)) 10 ⟨zz n,rfl,rfl,Nat.lt_trans hz (by decide),hz,rfl⟩ ?_
  rintro k ⟨s1,s2⟩ hk ⟨z,h1,h2,h3,hz64,h4⟩
  dsimp only at h1 h2 h4 ⊢
  subst h1
  rw [show (127:Int)=((127:Nat):Int) from rfl,and64 (by omega) (by omega),and127,wu8_in (by omega) (by omega)]
  by_cases hs:z<128
  ·rw [ltI (by omega),notT,cF,oB,app1 (by decide) (by omega),oB,orF,cT]
   refine Ans.some ?_
   show s2++[((z % 128:Nat):Int)]=_
   rw [← h4,nB_grp_lt hs,Nat.mod_eq_of_lt hs]
  ·rw [geI (by omega),notF,cT,oB,show (128:Int)=((128:Nat):Int) from rfl,or8 (by omega) (by omega),or128 (by omega),app1 (by decide) (by omega),oB,orF,cF,show (7:Int)=((7:Nat):Int) from rfl,shrM_of (k:=.u64) (by decide),oB]
   obtain ⟨j,hj⟩:∃ j,10-k=j+1:=⟨10-k-1,by
    have:k≠10:=fun e=>by subst e;simp at h3;omega
    omega⟩
   refine Ans.some ⟨by omega,z / 128,?_,by simp [h2],?_,by omega,?_⟩
   ·show Int.fdiv (z:Int) ((128:Nat):Int)=_
    rw [fdiv_nat]
   ·rw [hj,Nat.pow_succ] at h3
    rw [show 10-(k+1)=j by omega];omega
   ·show (s2++[((z % 128+128:Nat):Int)])++nB (grp (z / 128))=_
    rw [← h4,nB_grp_ge (z:=z) (by omega),aA];rfl
 obtain ⟨r,h1,h2⟩:=key
 refine bind_of h1 ?_
 rw [h2,strB_nB]
theorem inR_len {s:Bs} (h:s.length≤65536):inR s.length:=by unfold inR;omega
theorem pS_len {s:Bs} (h:s.length≤65536):(pS s).length≤s.length+9:=by
 have:=pI_len (inR_len h)
 unfold pS;rw [lA];omega
theorem wPutS_ok {s:Bs} (h:s.length≤65536):m71 s=some (pS s,0):=by
 unfold m71
 try dsimp only
 rw [lenI,geI (by omega),cF,wPut_ok (inR_len h),oB,catM_of (by have:=pI_len (inR_len h);dsimp only;omega),oB]
 rfl
variable [EA]
variable [EA]
theorem xorI (a b:Nat):bitM .xor .u32 (a:Int) (b:Int)=((xW a b:Nat):Int):=by
 unfold bitM xW mW
 dsimp only
 rw [BitVec.toNat_xor,bv32,bv32]
 have:=Nat.xor_lt_two_pow (n:=32) (x:=a % 4294967296) (y:=b % 4294967296) (Nat.mod_lt _ (by decide)) (Nat.mod_lt _ (by decide))
 exact wu32_in (by omega) (by omega)
theorem andI (a b:Nat):bitM .and .u32 (a:Int) (b:Int)=((aW a b:Nat):Int):=by
 unfold bitM aW mW
 dsimp only
 rw [BitVec.toNat_and,bv32,bv32]
 have:=Nat.and_lt_two_pow (n:=32) (a % 4294967296) (y:=b % 4294967296) (Nat.mod_lt _ (by decide))
 exact wu32_in (by omega) (by omega)
theorem orI (a b:Nat):bitM .or .u32 (a:Int) (b:Int)=((oW a b:Nat):Int):=by
 unfold bitM oW mW
 dsimp only
 rw [BitVec.toNat_or,bv32,bv32]
 have:=Nat.or_lt_two_pow (n:=32) (x:=a % 4294967296) (y:=b % 4294967296) (Nat.mod_lt _ (by decide)) (Nat.mod_lt _ (by decide))
 exact wu32_in (by omega) (by omega)
theorem cplI (a:Nat):cplM .u32 (a:Int)=((xW 4294967295 a:Nat):Int):=by
 unfold cplM
 rw [show (if IntKind.u32.signed then (-1:Int) else IntKind.u32.max)=((4294967295:Nat):Int) by decide,xorI]
theorem wrapI (a:Nat):IntKind.wrap .u32 (a:Int)=((mW a:Nat):Int):=by rw [wu32];rfl
theorem addI (a b:Nat):IntKind.wrap .u32 ((a:Int)+(b:Int))=((mW (a+b):Nat):Int):=by rw [wu32];rfl
theorem shlI (a:Nat) {n:Int} (k:Nat) (e:n=k) (h:k≤32):shlM .u32 (a:Int) n=some ((shl a k:Nat):Int):=by
 subst e
 rw [shlM_of (k:=.u32) h,wu32]
 unfold shl mW
 congr 1
theorem shrI {k:IntKind} (a:Nat) {n:Int} (j:Nat) (e:n=j) (h:j≤k.bits):shrM k (a:Int) n=some ((shr a j:Nat):Int):=by
 subst e
 rw [shrM_of h]
 unfold shr
 have:((2:Int) ^ j)=((2 ^ j:Nat):Int):=by rw [Int.natCast_pow];rfl
 rw [this,fdiv_nat]
theorem oW_comm (a b:Nat):oW a b=oW b a:=Nat.or_comm _ _
theorem xW_zero (a b:Nat):xW (xW 0 a) b=xW a b:=by
 unfold xW mW
 rw [Nat.zero_mod,Nat.zero_xor,Nat.mod_mod]
theorem loopM_at {σ β:Type} {body:σ→Option (σ⊕β)} {s:σ} (g:Nat→σ) (n:Nat) {r:β} (hs:s=g 0) (h:∀ k,k<n→body (g k)=some (.inl (g (k+1)))) (he:body (g n)=some (.inr r)):loopM body s=some r:=by
 subst hs;exact loopM_fn g n h he
theorem remM_nat' (a b:Nat) (hb:0<b):remM (a:Int) (b:Int)=some ((a % b:Nat):Int):=by rw [remM_of (by omega) (by omega)];rfl
theorem ofNat_mod (n:Nat):UInt8.ofNat ((n:Int) % 256).toNat=UInt8.ofNat n:=by
 rw [show ((n:Int) % 256).toNat=n % 256 by omega]
 apply u8eq;simp
theorem neg31:∀ k:Fin 32,0<k.val→bitM .and .u64 (IntKind.wrap .u64 (IntKind.wrap .i64 (negM (k.val:Int)))) 31=((32-k.val:Nat):Int)∧IntKind.wrap .u64 (32-((32-k.val:Nat):Int))=(k.val:Int):=by decide +kernel
theorem mixed_ok (x:Nat) {l:List Nat} (hl:∀ n∈l,0<n∧n<32) (hn:l.length≤10):m145 ((x:Int),l.map fun n:Nat=>(n:Int))=some ((l.foldl (fun o n=>xW o (rot x n)) 0:Nat):Int):=by
 unfold m145
 dsimp only
 refine bind_of (loopM_fn (fun k=>((((l.take k).foldl (fun o n=>xW o (rot x n)) 0:Nat):Int),(k:Int))) l.length (r:=((l.foldl (fun o n=>xW o (rot x n)) 0:Nat):Int)) (fun k hk=>?_) ?_) rfl
 ·dsimp only
  obtain ⟨h0,h1⟩:=hl l[k] (by simp)
  obtain ⟨e1,e2⟩:=neg31 ⟨l[k],h1⟩ h0
  dsimp only at e1 e2
  rw [lenI,ltI (by simp;omega),cT,idxM_nat,List.getElem?_map,gE hk,Option.map_some,oB,e1,shlI x (32-l[k]) rfl (by omega),oB,e2,shrI x l[k] rfl (by show l[k]≤32;omega),oB,orI,xorI,wrap_in (by omega) (by omega),List.take_add_one,gE hk,Option.toList_some,List.foldl_append,oW_comm]
  rfl
 ·dsimp only
  rw [lenI,geI (by simp),cF,List.take_length]
theorem mixed2 (x n m:Nat) (h1:0<n∧n<32) (h2:0<m∧m<32):m145 ((x:Int),[(n:Int),(m:Int)])=some ((xW (rot x n) (rot x m):Nat):Int):=by
 have:=mixed_ok x (l:=[n,m]) (by simp [h1,h2]) (by simp)
 simp only [List.map_cons,List.map_nil,List.foldl_cons,List.foldl_nil,xW_zero] at this
 exact this
theorem mixed3 (x n m k:Nat) (h1:0<n∧n<32) (h2:0<m∧m<32) (h3:0<k∧k<32):m145 ((x:Int),[(n:Int),(m:Int),(k:Int)])=some ((xW (xW (rot x n) (rot x m)) (rot x k):Nat):Int):=by
 have:=mixed_ok x (l:=[n,m,k]) (by simp [h1,h2,h3]) (by simp)
 simp only [List.map_cons,List.map_nil,List.foldl_cons,List.foldl_nil,xW_zero] at this
 exact this
abbrev iL (l:List Nat):List Int:=l.map fun n:Nat=>(n:Int)
theorem iL_len (l:List Nat):(iL l).length=l.length:=by simp
theorem iL_idx {l:List Nat} {i:Nat} (h:i<l.length):idxM (iL l) (i:Int)=some ((l.getD i 0:Nat):Int):=by
 rw [idxM_nat,List.getElem?_map,gE h];simp [h]
theorem z01 (i:Int):((nat_lit 0:Nat):Int)+i*((nat_lit 1:Nat):Int)=i:=by show 0+i*1=i;omega
theorem set_next {l:List Nat} {k n y:Nat} (h:l.length=k):(l++List.replicate (n+1) 0).set k y=(l++[y])++List.replicate n 0:=by
 subst h
 rw [List.set_append_right _ _ (nR _),Nat.sub_self,List.replicate_succ,List.set_cons_zero,aA];rfl
theorem iL_set {l:List Nat} {j:Int} (i:Nat) (e:j=i) (h:i<l.length) {f:Int→Option Int} {y:Nat} (hf:∀ x,f x=some (y:Int)):setM (iL l) j f=some (iL (l.set i y)):=by
 subst e
 rw [setM_of (by omega) (by rw [iL_len];omega) (hf _)]
 simp [iL]
theorem iL_slice {l:List Nat} {i j:Int} (a b:Nat) (ei:i=a) (ej:j=b) (h:a≤b) (hb:b≤l.length):sliceM (iL l) i j=some (iL ((l.drop a).take (b-a))):=by
 subst ei;subst ej
 rw [sliceM_of (by omega) (by omega) (by rw [iL_len];omega),Int.toNat_natCast,Int.toNat_natCast,List.drop_take,iL,← List.map_drop,← List.map_take]
theorem getD_app {l m:List Nat} {i:Nat} (h:i<l.length):(l++m).getD i 0=l.getD i 0:=by
 rw [List.getD_eq_getElem?_getD,xL h,← List.getD_eq_getElem?_getD]
theorem wMore_succ:∀ (j:Nat) (w:List Nat),wMore (j+1) w=wMore j w++[wNext (wMore j w)]
 | 0,w=>rfl
 | j+1,w=>by
  rw [wMore,wMore_succ j,← wMore]
theorem wMore_len:∀ (j:Nat) (w:List Nat),(wMore j w).length=w.length+j
 | 0,w=>rfl
 | j+1,w=>by rw [wMore,wMore_len j];simp;omega
theorem w16_succ (b:List Nat) (k:Nat):(List.range (k+1)).map (w4 b)=(List.range k).map (w4 b)++[w4 b k]:=by rw [List.range_succ,List.map_append];rfl
theorem rnds_take {l:List (Nat×Nat)} {k:Nat} (hk:k<l.length) (v:List Nat):(l.take (k+1)).foldl rnd v=rnd ((l.take k).foldl rnd v) l[k]:=by
 rw [List.take_add_one,gE hk,Option.toList_some,List.foldl_append];rfl
theorem eight {v:List Nat} (h:v.length=8):∃ a b c d e f g i,v=[a,b,c,d,e,f,g,i]:=by
 match v,h with
 | [a,b,c,d,e,f,g,i],_=>exact ⟨a,b,c,d,e,f,g,i,rfl⟩
variable [EA]
set_option maxRecDepth 100000
def rndsN (b h:List Nat) (k:Nat):List Nat:=((kSha.zip (wAll b)).take k).foldl rnd h
theorem wAll_len (b:List Nat):(wAll b).length=64:=by unfold wAll;rw [wMore_len];simp
theorem kz_len (b:List Nat):(kSha.zip (wAll b)).length=64:=by rw [List.length_zip,wAll_len];rfl
theorem kz_get (b:List Nat) {k:Nat} (h:k<64):(kSha.zip (wAll b))[k]'(by rw [kz_len];exact h)=(kSha.getD k 0,(wAll b).getD k 0):=by
 rw [List.getElem_zip]
 simp [List.getD_eq_getElem?_getD,gE (show k<kSha.length from h),gE (show k<(wAll b).length by rw [wAll_len];exact h)]
theorem rndsN_len (b:List Nat) {h:List Nat} (hh:h.length=8) (k:Nat):(rndsN b h k).length=8:=rnds_len _ _ hh
theorem rndsN_succ (b h:List Nat) {k:Nat} (hk:k<64):rndsN b h (k+1)=rnd (rndsN b h k) (kSha.getD k 0,(wAll b).getD k 0):=by
 unfold rndsN
 rw [rnds_take (by rw [kz_len];exact hk),kz_get b hk]
theorem blk_eq (h b:List Nat):blk h b=List.zipWith (fun x y=>mW (x+y)) h (rndsN b h 64):=by
 unfold blk rndsN
 rw [tkL (by rw [kz_len];exact nR _)]
theorem idx64 {o:List Int} {i:Int} (h:o.length=64):idxM ((List.range 64).map fun k=>nthD o k 0) i=idxM o i:=by
 congr 1
 apply List.ext_getElem?
 intro k
 by_cases hk:k<64
 ·rw [List.getElem?_map,List.getElem?_range hk,gE (by omega)]
  unfold nthD
  simp [List.getD_eq_getElem?_getD,gE (show k<o.length by omega)]
 ·rw [List.getElem?_eq_none (by simp;omega),List.getElem?_eq_none (by omega)]
theorem nth8 {h:List Nat} (hh:h.length=8):[nthD (iL h) (nat_lit 0) 0,nthD (iL h) (nat_lit 1) 0,nthD (iL h) (nat_lit 2) 0,nthD (iL h) (nat_lit 3) 0,nthD (iL h) (nat_lit 4) 0,nthD (iL h) (nat_lit 5) 0,nthD (iL h) (nat_lit 6) 0,nthD (iL h) (nat_lit 7) 0]=iL h:=by
 obtain ⟨a,b,c,d,e,f,g,i,rfl⟩:=eight hh
 rfl
theorem wk (i:Int) {j:Int} (h1:0≤j) (h2:j≤1000) (e:j=i):IntKind.wrap .i64 i=j:=by rw [wrap_in (by omega) (by omega),e]
theorem digest_ok {h:List Nat} (hh:h.length=8):m130 (nthD (iL h) (nat_lit 0) 0,nthD (iL h) (nat_lit 1) 0,nthD (iL h) (nat_lit 2) 0,nthD (iL h) (nat_lit 3) 0,nthD (iL h) (nat_lit 4) 0,nthD (iL h) (nat_lit 5) 0,nthD (iL h) (nat_lit 6) 0,nthD (iL h) (nat_lit 7) 0)=some (wBytes h):=by
 unfold m130
 dsimp only
 rw [nth8 hh]
 let B:Nat→List Nat:=fun x=>[shr x 24 % 256,shr x 16 % 256,shr x 8 % 256,x % 256]
 have hB:∀ l:List Nat,(l.flatMap B).length=4*l.length:=fun l=>by
  induction l with
  | nil=>rfl
  | cons a l ih=>rw [List.flatMap_cons,lA,ih];simp [B];omega
 refine bind_of (loopM_fn (fun k=>((k:Int),iL ((h.take k).flatMap B++List.replicate (32-4*k) 0))) 8 (r:=iL (h.flatMap B)) (fun k hk=>?_) ?_) ?_
 ·dsimp only
  have hP:((h.take k).flatMap B).length=4*k:=by rw [hB,lT];omega
  generalize hp:(h.take k).flatMap B=P at hP
  rw [ltI (by omega),cT,iL_idx (by omega),oB]
  generalize hx:h.getD k 0=x
  refine bind_of (loopM_at (fun j=>((j:Int),iL (P++(B x).take j++List.replicate (32-4*k-j) 0))) 4 (by simp) (r:=iL (P++B x++List.replicate (32-4*k-4) 0)) (fun j hj=>?_) ?_) ?_
  ·dsimp only
   rw [ltI (by omega),cT,wk (8*(j:Int)) (j:=8*(j:Int)) (by omega) (by omega) rfl,wk (24-8*(j:Int)) (j:=((24-8*j:Nat):Int)) (by omega) (by omega) (by omega),shrI x (24-8*j) rfl (by show _≤32;omega),oB,wk (4*(k:Int)) (j:=4*(k:Int)) (by omega) (by omega) rfl,wk (4*(k:Int)+(j:Int)) (j:=((4*k+j:Nat):Int)) (by omega) (by omega) (by omega),chkM_of (by omega) (by show ((4*k+j:Nat):Int)<32;omega),oB,z01]
   have hT:(P++(B x).take j).length=4*k+j:=by rw [lA,hP,lT];simp [B];omega
   rw [iL_set (4*k+j) rfl (by rw [lA,hT,List.length_replicate];omega) (y:=shr x (24-8*j) % 256) (fun _=>by rw [wu8];rfl),oB,wk ((j:Int)+1) (j:=((j+1:Nat):Int)) (by omega) (by omega) (by omega)]
   obtain ⟨m,hm⟩:∃ m,32-4*k-j=m+1:=⟨32-4*k-j-1,by omega⟩
   rw [hm,set_next hT,show 32-4*k-(j+1)=m by omega]
   have e:(B x).take j++[shr x (24-8*j) % 256]=(B x).take (j+1):=by
    match j,hj with
    | 0,_=>rfl
    | 1,_=>rfl
    | 2,_=>rfl
    | 3,_=>show _=B x;simp [B,shr]
   rw [aA P,e]
  ·dsimp only
   rw [geI (by omega),cF]
   rfl
  ·rw [wk ((k:Int)+1) (j:=((k+1:Nat):Int)) (by omega) (by omega) (by omega),List.take_add_one,gE (show k<h.length by omega),Option.toList_some,List.flatMap_append,hp]
   have:h[k]'(by omega)=x:=by rw [← hx,List.getD_eq_getElem?_getD,gE (by omega)];rfl
   rw [this,show 32-4*k-4=32-4*(k+1) by omega]
   simp only [List.flatMap_cons,List.flatMap_nil,List.append_nil]
 ·dsimp only
  rw [geI (by omega),cF,tkL (by omega)]
  simp
 ·have e:partV (iL (h.flatMap B)) (nat_lit 0) (nat_lit 32)=iL (h.flatMap B):=by
   show ((iL (h.flatMap B)).drop 0).take 32=_
   rw [List.drop_zero,tkL (by rw [iL_len,hB];omega)]
  rw [e]
  unfold strB wBytes iL
  rw [List.map_map]
  congr 1
  rw [List.map_flatMap]
  congr 1
  funext x
  simp [B,ofNat_mod]
variable [EA]
set_option maxRecDepth 100000
theorem blks_succ:∀ (k:Nat) (h b:List Nat),blks (k+1) h b=blk (blks k h b) ((b.drop (64*k)).take 64)
 | 0,h,b=>by simp [blks]
 | k+1,h,b=>by
  rw [blks,blks_succ k,← blks,List.drop_drop]
  congr 3
  omega
theorem nZ_lt {L k:Nat} (h:k<nZ L):(L+1+k) % 64≠56:=by unfold nZ at h;omega
theorem nZ_eq (L:Nat):(L+1+nZ L) % 64=56:=by unfold nZ;omega
theorem nZ_le (L:Nat):nZ L≤63:=by unfold nZ;omega
theorem pad_len (b:List Nat):(pad b).length=b.length+1+nZ b.length+8:=by unfold pad;simp;omega
theorem bytes_of (s:Bs):(s.map fun b=>(b.toNat:Int))=iL (s.map UInt8.toNat):=by rw [iL,List.map_map];rfl
theorem app_iL {l:List Nat} {c:Nat} {y:Nat} {d:Int} (e:d=y) (hc:c≤8) (h:l.length≤1000000):appM c (iL l) [d]=some (iL (l++[y])):=by
 subst e
 rw [appM_of]
 ·simp [iL]
 ·rw [iL_len]
  have:(l.length+[(y:Int)].length)*c≤(l.length+[(y:Int)].length)*8:=Nat.mul_le_mul_left _ hc
  simp only [List.length_singleton] at *
  omega
theorem w4_ok {b:List Nat} (hb:b.length=64) {k:Nat} (hk:k<16) {β:Type} {f:Int→Option β} {r:β} (h:f ((w4 b k:Nat):Int)=some r) :
  ((idxM (iL b) (IntKind.wrap .i64 (4*(k:Int)))).bind fun r_4=>(shlM .u32 (IntKind.wrap .u32 r_4) 24).bind fun r_5=>(idxM (iL b) (IntKind.wrap .i64 (IntKind.wrap .i64 (4*(k:Int))+1))).bind fun r_6=>(shlM .u32 (IntKind.wrap .u32 r_6) 16).bind fun r_7=>(idxM (iL b) (IntKind.wrap .i64 (IntKind.wrap .i64 (4*(k:Int))+2))).bind fun r_8=>(shlM .u32 (IntKind.wrap .u32 r_8) 8).bind fun r_9=>(idxM (iL b) (IntKind.wrap .i64 (IntKind.wrap .i64 (4*(k:Int))+3))).bind fun r_10=>f (bitM BinOp.or .u32 (bitM BinOp.or .u32 (bitM BinOp.or .u32 r_5 r_7) r_9) (IntKind.wrap .u32 r_10)))=some r:=by
 rw [wk (4*(k:Int)) (j:=((4*k:Nat):Int)) (by omega) (by omega) (by omega),iL_idx (by omega),oB,wrapI,shlI (n:=24) _ 24 rfl (by omega),oB,
  wk (((4*k:Nat):Int)+1) (j:=((4*k+1:Nat):Int)) (by omega) (by omega) (by omega),iL_idx (by omega),oB,wrapI,shlI (n:=16) _ 16 rfl (by omega),oB,
  wk (((4*k:Nat):Int)+2) (j:=((4*k+2:Nat):Int)) (by omega) (by omega) (by omega),iL_idx (by omega),oB,wrapI,shlI (n:=8) _ 8 rfl (by omega),oB,
  wk (((4*k:Nat):Int)+3) (j:=((4*k+3:Nat):Int)) (by omega) (by omega) (by omega),iL_idx (by omega),oB,wrapI,orI,orI,orI]
 exact h
theorem wSum_ok {s:Bs} (hs:s.length≤900000):m110 s=some (sha s):=by
 unfold m110
 generalize hb0:s.map UInt8.toNat=b0
 have hL:b0.length=s.length:=by rw [← hb0];simp
 refine bind_of (x:=iL b0) (by unfold bytesM;rw [Nat.ble_eq_true_of_le (by omega),bytes_of,hb0]) ?_
 refine bind_of (x:=iL (b0++[128])) (app_iL rfl (by decide) (by omega)) ?_
 refine bind_of (x:=iL (b0++[128]++List.replicate (nZ b0.length) 0)) (loopM_at (fun k=>iL (b0++[128]++List.replicate k 0)) (nZ b0.length) (by simp) (fun k hk=>?_) ?_) ?_
 ·have hz:=nZ_le b0.length
  have hl:lenM (iL (b0++[128]++List.replicate k 0))=((b0.length+1+k:Nat):Int):=by rw [lenI];simp;omega
  have:=nZ_lt hk
  dsimp only
  rw [hl,show (64:Int)=((64:Nat):Int) from rfl,remM_nat' _ _ (by decide),oB,neI (by omega),notF,cT,app_iL (d:=0) (c:=nat_lit 1) (y:=0) rfl (by decide) (by simp;omega),oB,aA _ _ [0],List.replicate_succ']
 ·have hl:lenM (iL (b0++[128]++List.replicate (nZ b0.length) 0))=((b0.length+1+nZ b0.length:Nat):Int):=by rw [lenI];simp;omega
  have:=nZ_eq b0.length
  dsimp only
  rw [hl,show (64:Int)=((64:Nat):Int) from rfl,remM_nat' _ _ (by decide),oB,eqI (by omega),notT,cF]
 generalize hP:b0++[128]++List.replicate (nZ b0.length) 0=P
 have hPl:P.length=b0.length+1+nZ b0.length:=by rw [← hP];simp;omega
 have hz:=nZ_le b0.length
 refine bind_of (x:=iL (P++(List.range 8).map fun i=>shr (8*b0.length) (8*(7-i)) % 256)) (loopM_at (fun k=>((7:Int)-(k:Int),iL (P++(List.range k).map fun i=>shr (8*b0.length) (8*(7-i)) % 256))) 8 (by simp) (fun k hk=>?_) ?_) ?_
 ·dsimp only
  rw [leI (by omega),cT,lenI,← hL,wrap_in (n:=8*(b0.length:Int)) (by omega) (by omega),show 8*(b0.length:Int)=((8*b0.length:Nat):Int) by omega,wk (8*(7-(k:Int))) (j:=((8*(7-k):Nat):Int)) (by omega) (by omega) (by omega),shrI _ (8*(7-k)) rfl (by show _≤64;omega),oB,app_iL (y:=shr (8*b0.length) (8*(7-k)) % 256) (by rw [wu8];rfl) (by decide) (by simp;omega),oB,wrap_in (by omega) (by omega),List.range_succ,List.map_append,aA]
  rw [show (7:Int)-(k:Int)-1=7-((k+1:Nat):Int) by omega];rfl
 ·dsimp only
  rw [gtI (by omega),cF]
 have hQ:P++(List.range 8).map (fun i=>shr (8*b0.length) (8*(7-i)) % 256)=pad b0:=by rw [← hP];unfold pad;simp
 rw [hQ]
 have hQl:=pad_len b0
 obtain ⟨n,hn⟩:∃ n,(pad b0).length=64*n:=⟨(pad b0).length / 64,by have:=nZ_eq b0.length;omega⟩
 refine bind_of (x:=(iL (blks n hSha (pad b0)),iL (pad b0))) (loopM_at (fun k=>(((64*k:Nat):Int),iL (blks k hSha (pad b0)),iL (pad b0))) n rfl (fun k hk=>?_) ?_) ?_
 ·dsimp only
  have hkl:64*k+64≤(pad b0).length:=by omega
  have hb2:(pad b0).length≤1000000:=by omega
  have hdl:(iL ((pad b0).drop (64*k))).length=(pad b0).length-64*k:=by simp
  generalize hB:((pad b0).drop (64*k)).take 64=B
  have hBl:B.length=64:=by rw [← hB,lT,List.length_drop];omega
  have hvl:(blks k hSha (pad b0)).length=8:=blks_len k rfl
  rw [blks_succ,hB,lenI,iL_len,ltI (by omega),cT]
  generalize blks k hSha (pad b0)=h at hvl
  refine bind_of (iL_slice (64*k) (pad b0).length rfl rfl (by omega) (nR _)) ?_
  rw [tkL (by simp)]
  refine bind_of (x:=iL B) ?_ ?_
  ·have e:IntKind.wrap .i64 (((64*k:Nat):Int)+min 64 (lenM (iL ((pad b0).drop (64*k)))))=((64*k+64:Nat):Int):=by
    rw [lenI,hdl,show min (64:Int) (((pad b0).length-64*k:Nat):Int)=64 by omega,wrap_in (by omega) (by omega)];rfl
   rw [e,sameM_self,oB,iL_slice (64*k) (64*k+64) rfl rfl (by omega) hkl,show 64*k+64-64*k=64 by omega,hB]
  refine bind_of (x:=iL ((List.range 16).map (w4 B)++List.replicate 48 0)) (loopM_at (fun j=>((j:Int),iL ((List.range j).map (w4 B)++List.replicate (64-j) 0))) 16 rfl (fun j hj=>?_) ?_) ?_
  ·dsimp only
   rw [ltI (by omega),cT]
   refine w4_ok hBl hj (f:=fun w=>(chkM (j:Int) ((nat_lit 64:Nat):Int)).bind fun _=>(setM (iL ((List.range j).map (w4 B)++List.replicate (64-j) 0)) (((nat_lit 0:Nat):Int)+(j:Int)*((nat_lit 1:Nat):Int)) fun _=>some w).bind fun r=>some (Sum.inl (IntKind.wrap .i64 ((j:Int)+1),r))) ?_
   dsimp only
   obtain ⟨m,hm⟩:∃ m,64-j=m+1:=⟨63-j,by omega⟩
   rw [chkM_of (by omega) (by show (j:Int)<64;omega),oB,z01,hm,iL_set j rfl (by simp) (y:=w4 B j) (fun _=>rfl),oB,set_next (by simp),wk ((j:Int)+1) (j:=((j+1:Nat):Int)) (by omega) (by omega) (by omega),w16_succ,show 64-(j+1)=m by omega]
  ·dsimp only
   rw [geI (by omega),cF]
  generalize hW:(List.range 16).map (w4 B)=W
  have hWl:W.length=16:=by rw [← hW];simp
  refine bind_of (x:=iL (wAll B)) (loopM_at (fun j=>(((16+j:Nat):Int),iL (wMore j W++List.replicate (48-j) 0))) 48 rfl (fun j hj=>?_) ?_) ?_
  ·have hl:(wMore j W).length=16+j:=by rw [wMore_len,hWl]
   obtain ⟨m,hm⟩:∃ m,48-j=m+1:=⟨47-j,by omega⟩
   have hwn:wNext (wMore j W)=nextW ((wMore j W).getD j 0) ((wMore j W).getD (j+1) 0) ((wMore j W).getD (j+9) 0) ((wMore j W).getD (j+14) 0):=by
    unfold wNext
    rw [hl,show 16+j-16=j by omega,show 16+j-15=j+1 by omega,show 16+j-7=j+9 by omega,show 16+j-2=j+14 by omega]
   dsimp only
   rw [wMore_succ,hwn]
   generalize wMore j W=l at hl
   have A:∀ n:Nat,n<16+j→idxM (iL (l++List.replicate (48-j) 0)) (n:Int)=some ((l.getD n 0:Nat):Int):=fun n hn=>by
    rw [iL_idx (by rw [lA];omega),getD_app (by omega)]
   have C:∀ n:Nat,n<64→chkM (n:Int) ((nat_lit 64:Nat):Int)=some ():=fun n hn=>chkM_of (by omega) (by show (n:Int)<64;omega)
   rw [ltI (by omega),cT,wk (((16+j:Nat):Int)-15) (j:=((j+1:Nat):Int)) (by omega) (by omega) (by omega),C _ (by omega),oB,z01,A _ (by omega),oB,
    wk (((16+j:Nat):Int)-2) (j:=((j+14:Nat):Int)) (by omega) (by omega) (by omega),C _ (by omega),oB,z01,A _ (by omega),oB,
    wk (((16+j:Nat):Int)-16) (j:=((j:Nat):Int)) (by omega) (by omega) (by omega),C _ (by omega),oB,z01,A _ (by omega),oB]
   refine bind_of (mixed2 _ 7 18 (by omega) (by omega)) ?_
   refine bind_of (shrI _ 3 rfl (by decide)) ?_
   refine bind_of (x:=()) (by rw [wk (((16+j:Nat):Int)-7) (j:=((j+9:Nat):Int)) (by omega) (by omega) (by omega)];exact C _ (by omega)) ?_
   refine bind_of (x:=((l.getD (j+9) 0:Nat):Int)) (by rw [wk (((16+j:Nat):Int)-7) (j:=((j+9:Nat):Int)) (by omega) (by omega) (by omega),z01];exact A _ (by omega)) ?_
   refine bind_of (mixed2 _ 17 19 (by omega) (by omega)) ?_
   refine bind_of (shrI _ 10 rfl (by decide)) ?_
   refine bind_of (x:=()) (C _ (by omega)) ?_
   rw [xorI,addI,addI,xorI,addI,z01]
   refine bind_of (iL_set (16+j) rfl (by rw [lA,List.length_replicate];omega) (y:=nextW (l.getD j 0) (l.getD (j+1) 0) (l.getD (j+9) 0) (l.getD (j+14) 0)) (fun _=>rfl)) ?_
   rw [hm,set_next hl,wk (((16+j:Nat):Int)+1) (j:=((16+(j+1):Nat):Int)) (by omega) (by omega) (by omega),show 48-(j+1)=m by omega]
  ·dsimp only
   rw [geI (by omega),cF]
   show some (Sum.inr (iL (wMore 48 W++[])))=_
   rw [List.append_nil,← hW];rfl
  refine bind_of (x:=iL (rndsN B h 64)) (loopM_at (fun j=>((j:Int),iL (rndsN B h j))) 64 (by rw [nth8 hvl];rfl) (fun j hj=>?_) ?_) ?_
  ·have hk1:idxM (iL kSha) (j:Int)=some ((kSha.getD j 0:Nat):Int):=iL_idx hj
   have hk2:idxM (iL (wAll B)) (((nat_lit 0:Nat):Int)+(j:Int)*((nat_lit 1:Nat):Int))=some (((wAll B).getD j 0:Nat):Int):=by rw [z01];exact iL_idx (by rw [wAll_len];exact hj)
   dsimp only
   rw [rndsN_succ B h hj]
   obtain ⟨a,b,c,d,e,f,g,i,hv⟩:=eight (rndsN_len B hvl j)
   rw [hv,ltI (by omega),cT]
   generalize kSha.getD j 0=kk at hk1
   generalize (wAll B).getD j 0=ww at hk2
   refine bind_of hk1 ?_
   refine bind_of (x:=(a:Int)) rfl ?_
   refine bind_of (x:=(e:Int)) rfl ?_
   refine bind_of (x:=(i:Int)) rfl ?_
   refine bind_of (mixed3 e 6 11 25 (by omega) (by omega) (by omega)) ?_
   refine bind_of (x:=(f:Int)) rfl ?_
   refine bind_of (x:=(g:Int)) rfl ?_
   refine bind_of (x:=()) (chkM_of (by omega) (by show (j:Int)<64;omega)) ?_
   refine bind_of ((idx64 (by rw [iL_len,wAll_len])).trans hk2) ?_
   refine bind_of (mixed3 a 2 13 22 (by omega) (by omega) (by omega)) ?_
   refine bind_of (x:=(b:Int)) rfl ?_
   refine bind_of (x:=(c:Int)) rfl ?_
   refine bind_of (x:=(b:Int)) rfl ?_
   refine bind_of (x:=(c:Int)) rfl ?_
   refine bind_of (x:=(d:Int)) rfl ?_
   refine bind_of (x:=[((mW (tW e f g i kk ww+uW a b c):Nat):Int),(a:Int),b,c,d,e,f,g]) ?_ ?_
   ·rw [addI,andI,cplI,andI,xorI,addI,addI,addI,andI,andI,andI,xorI,xorI,addI,addI];rfl
   refine bind_of (x:=[((mW (tW e f g i kk ww+uW a b c):Nat):Int),(a:Int),b,c,((mW (d+tW e f g i kk ww):Nat):Int),e,f,g]) ?_ ?_
   ·rw [addI,andI,cplI,andI,xorI,addI,addI,addI,addI];rfl
   rw [wk ((j:Int)+1) (j:=((j+1:Nat):Int)) (by omega) (by omega) (by omega)]
   rfl
  ·dsimp only
   rw [geI (by omega),cF]
  refine bind_of (x:=iL (blk h B)) (loopM_at (fun j=>((j:Int),iL ((blk h B).take j++h.drop j))) 8 (by simp) (fun j hj=>?_) ?_) ?_
  ·have hr:=rndsN_len B hvl 64
   have e1:(blk h B).length=8:=blk_len hvl
   have e2:(blk h B)[j]'(by omega)=mW (h.getD j 0+(rndsN B h 64).getD j 0):=by
    simp only [blk_eq,List.getElem_zipWith]
    rw [List.getD_eq_getElem?_getD,List.getD_eq_getElem?_getD,gE (by omega),gE (by omega)];rfl
   have e3:h.drop j=h.getD j 0::h.drop (j+1):=by
    rw [List.drop_eq_getElem_cons (by omega),List.getD_eq_getElem?_getD,gE (by omega)];rfl
   have e4:((blk h B).take j).length=j:=by rw [lT];omega
   have C:chkM (j:Int) ((nat_lit 8:Nat):Int)=some ():=chkM_of (by omega) (by show (j:Int)<8;omega)
   dsimp only
   rw [ltI (by omega),cT]
   refine bind_of C ?_
   refine bind_of (x:=((h.getD j 0:Nat):Int)) (by
    rw [z01,iL_idx (by rw [lA,e4,e3];simp),List.getD_eq_getElem?_getD,xR (by omega),e4,Nat.sub_self,e3];rfl) ?_
   refine bind_of C ?_
   refine bind_of (x:=(((rndsN B h 64).getD j 0:Nat):Int)) (by rw [z01];exact iL_idx (by omega)) ?_
   refine bind_of C ?_
   refine bind_of (x:=iL (((blk h B).take j++h.drop j).set j (mW (h.getD j 0+(rndsN B h 64).getD j 0)))) (by
    rw [z01,addI];exact iL_set j rfl (by rw [lA,e4,e3];simp) (fun _=>rfl)) ?_
   rw [wk ((j:Int)+1) (j:=((j+1:Nat):Int)) (by omega) (by omega) (by omega),List.set_append_right _ _ (by omega),e4,Nat.sub_self,e3,List.set_cons_zero,List.take_add_one,gE (by omega),Option.toList_some,e2,aA]
   rfl
  ·dsimp only
   rw [geI (by omega),cF,tkL (by rw [blk_len hvl];omega),List.drop_of_length_le (by omega),List.append_nil]
  rw [wrap_in (by omega) (by omega),show ((64*k:Nat):Int)+64=((64*(k+1):Nat):Int) by omega]
 ·dsimp only
  rw [lenI,geI (by rw [iL_len];omega),cF]
 ·refine bind_of (digest_ok (blks_len n rfl)) ?_
  unfold sha
  rw [hb0,hn,show 64*n / 64=n by omega]
variable [EA]
set_option maxRecDepth 100000
variable [EA]
theorem pow128 (i:Nat):128 ^ i=2 ^ (7*i):=by rw [Nat.pow_mul]
theorem take_snoc {s:Bs} {p i:Nat} {b:UInt8} (h:s[p+i]? = some b):(s.drop p).take (i+1)=(s.drop p).take i++[b]:=by
 rw [List.take_add_one,List.getElem?_drop,h];rfl
theorem sub_len {s:Bs} {p i:Nat} (h:p+i≤s.length):((s.drop p).take i).length=i:=by rw [lT,List.length_drop];omega
theorem pre_take (t:Bs) (i:Nat):t.take i <+: t:=List.take_prefix _ _
theorem grp_add {i:Nat} (hi:i<9) {z:Nat} (hz:z<128 ^ i) {d:Nat} (hd:d<128):z+d*128 ^ i<9223372036854775808:=by
 have h1:(d+1)*128 ^ i≤128*128 ^ i:=Nat.mul_le_mul_right _ (by omega)
 have h2:128*128 ^ i=128 ^ (i+1):=by rw [Nat.pow_succ,Nat.mul_comm]
 have h3:128 ^ (i+1)≤128 ^ 9:=Nat.pow_le_pow_right (by omega) (by omega)
 have h4:(128:Nat) ^ 9=9223372036854775808:=by decide
 rw [Nat.add_mul] at h1
 omega
theorem xorNeg (m:Nat) (hm:m<4611686018427387904) (o:Nat) (ho:o<2):bitM .xor .i64 (m:Int) (IntKind.wrap .i64 (negM (o:Int)))=if o=0 then (m:Int) else -(m:Int)-1:=by
 unfold negM
 rw [wrap_in (by omega) (by omega)]
 unfold bitM
 dsimp only
 have b1:(BitVec.ofInt IntKind.i64.bits (m:Int)).toNat=m % 18446744073709551616:=by rw [BitVec.ofInt_natCast];rfl
 rw [BitVec.toNat_xor,b1,Nat.mod_eq_of_lt (by omega)]
 by_cases h:o=0
 ·subst h
  rw [if_pos rfl,show (BitVec.ofInt IntKind.i64.bits (-((0:Nat):Int))).toNat=0 from rfl,Nat.xor_zero,wrap_in (by omega) (by omega)]
 ·have:o=1:=by omega
  subst this
  rw [if_neg (by omega),show (BitVec.ofInt IntKind.i64.bits (-((1:Nat):Int))).toNat=18446744073709551615 from rfl,xorAll64 (by omega),IntKind.wrap_i64]
  omega
theorem uz_eq (z:Nat):(if z % 2=0 then ((z / 2:Nat):Int) else -((z / 2:Nat):Int)-1)=uz z:=rfl
theorem wInt_ok {s:Bs} {p:Nat} (hp:p≤s.length) (hs:s.length≤1000000):Ans (m113 (s,(p:Int))) (IntR s p):=by
 unfold m113
 dsimp only
 rw [lenI,geI (by omega),geI (by omega),orF,cF]
 refine Ans.bind (P:=fun (o:Unit⊕Int×Int×Int)=>(o=.inl ()∧∀ n k,¬ IsI (s.drop p) n k)∨∃ r,o=.inr r∧IntR s p r) ?_ fun o ho=>?_
 ·refine Ans.loop (fun i z=>z=((gv ((s.drop p).take i):Int),(i:Int))∧i≤9∧p+i≤s.length∧∀ x∈(s.drop p).take i,128≤x.toNat) 9 ⟨by simp [gv],by omega,by omega,fun x hx=>by simp at hx⟩ ?_
  rintro i z hi ⟨rfl,h1,h2,h3⟩
  dsimp only
  by_cases h9:i=9
  ·rw [geI (by omega),cF]
   exact Ans.some (.inl ⟨rfl,isI_none h3 (.inl h9)⟩)
  rw [ltI (by omega),cT,wrap_in (n:=(p:Int)+(i:Int)) (by omega) (by omega),show (p:Int)+(i:Int)=((p+i:Nat):Int) by omega]
  by_cases hl:p+i<s.length
  ·obtain ⟨b,hb⟩:∃ b,s[p+i]? = some b:=⟨_,gE hl⟩
   have hbl:=u8lt b
   have hz:=gv_lt ((s.drop p).take i)
   rw [sub_len (by omega)] at hz
   have hlen:=sub_len (s:=s) (p:=p) (i:=i) (by omega)
   have hsn:=take_snoc hb
   have hadd:=grp_add (i:=i) (by omega) hz (show b.toNat % 128<128 by omega)
   have hgv:gv ((s.drop p).take (i+1))=gv ((s.drop p).take i)+b.toNat % 128*128 ^ i:=by rw [hsn,gv_snoc,hlen]
   have hlt2:b.toNat % 128*128 ^ i<9223372036854775808:=by omega
   rw [gtI (by omega),cF,byteM_of hb,oB,show (127:Int)=((127:Nat):Int) from rfl,and8 (by omega) (by omega),and127,wu64_in (n:=((b.toNat % 128:Nat):Int)) (by omega) (by omega),wrap_in (n:=7*(i:Int)) (by omega) (by omega),show 7*(i:Int)=((7*i:Nat):Int) by omega,shlM_of (k:=.u64) (by show 7*i≤64;omega),oB]
   have e1:IntKind.wrap .u64 (((b.toNat % 128:Nat):Int)*2 ^ (7*i))=((b.toNat % 128*128 ^ i:Nat):Int):=by
    rw [pow128,show (((b.toNat % 128:Nat):Int)*2 ^ (7*i))=((b.toNat % 128*2 ^ (7*i):Nat):Int) by rw [Int.natCast_mul,Int.natCast_pow];rfl]
    rw [pow128] at hlt2
    exact wu64_in (by omega) (by omega)
   have e2:bitM .or .u64 (gv ((s.drop p).take i):Int) ((b.toNat % 128*128 ^ i:Nat):Int)=(gv ((s.drop p).take (i+1)):Int):=by
    rw [or64 (by omega) (by omega),hgv,Nat.or_comm,pow128]
    rw [pow128] at hz
    have:=Nat.two_pow_add_eq_or_of_lt hz (b.toNat % 128)
    rw [Nat.mul_comm,← this,Nat.add_comm]
   rw [e1,e2]
   by_cases hc:128≤b.toNat
   ·rw [leI (by omega),cT,wrap_in (n:=(i:Int)+1) (by omega) (by omega)]
    refine Ans.some ⟨by omega,rfl,by omega,by omega,fun x hx=>?_⟩
    rw [hsn] at hx
    rcases List.mem_append.1 hx with q | q
    ·exact h3 x q
    ·rw [List.mem_singleton.1 q];exact hc
   ·have hsh:Sh ((s.drop p).take (i+1)) ((s.drop p).take i) b:=⟨hsn,h3,by omega⟩
    have hcan:=fun n k=>isI_canon (n:=n) (k:=k) hsh (pre_take _ _)
    have hZ:gv ((s.drop p).take (i+1))<9223372036854775808:=by rw [hgv];exact hadd
    have hlen1:((s.drop p).take (i+1)).length=i+1:=sub_len (by omega)
    have hc0:(s.drop p).take i=[]↔i=0:=by rw [← List.length_eq_zero_iff,hlen]
    generalize gv ((s.drop p).take (i+1))=Z at hcan hZ
    rw [gtI (by omega),cF,shrI (n:=1) (k:=.u64) Z 1 rfl (by decide),oB,show (1:Int)=((1:Nat):Int) from rfl,and64 (by omega) (by omega),and1,wrap_in (n:=((shr Z 1:Nat):Int)) (by show _≤((Z / 2:Nat):Int);omega) (by show ((Z / 2:Nat):Int)≤_;omega),wrap_in (n:=((Z % 2:Nat):Int)) (by omega) (by omega),show shr Z 1=Z / 2 from rfl,xorNeg (Z / 2) (by omega) (Z % 2) (by omega),uz_eq]
    have hub:uz Z≤4611686018427387903:=by unfold uz;split<;>omega
    by_cases hbad:(b.toNat=0∧0<i)∨uz Z < -4611686018427387903
    ·have:PE.orM (PE.andM (eqM (b.toNat:Int) 0) (ltM 0 (i:Int))) (ltM (uz Z) (-4611686018427387903))=true:=by
      unfold PE.orM PE.andM eqM ltM
      rw [← Bool.decide_and,← Bool.decide_or]
      exact dT (by omega)
     rw [this,cT]
     refine Ans.some (.inl ⟨rfl,fun n k h=>?_⟩)
     obtain ⟨g1,g2,g3,g4⟩:=(hcan n k).1 h
     rw [hc0] at g3
     unfold inR at g1
     omega
    ·have:PE.orM (PE.andM (eqM (b.toNat:Int) 0) (ltM 0 (i:Int))) (ltM (uz Z) (-4611686018427387903))=false:=by
      unfold PE.orM PE.andM eqM ltM
      rw [← Bool.decide_and,← Bool.decide_or]
      exact dF (by omega)
     rw [this,cF]
     have hin:IsI (s.drop p) (uz Z) (i+1):=(hcan _ _).2 ⟨by unfold inR;omega,rfl,by rw [hc0];omega,hlen1.symm⟩
     refine Ans.some (.inr ⟨_,rfl,fun n k h=>?_,fun h=>absurd hin (h _ _)⟩)
     obtain ⟨q1,q2⟩:=h.uniq hin
     rw [q1,q2,wrap_in (by omega) (by omega)]
     congr 1
  ·rw [leI (by omega),cT]
   exact Ans.some (.inl ⟨rfl,isI_none h3 (.inr (by rw [List.length_drop];omega))⟩)
 ·rcases ho with ⟨rfl,h⟩ | ⟨r,rfl,h⟩
  ·exact Ans.some ⟨fun n k q=>absurd q (h n k),fun _=>rfl⟩
  ·exact Ans.some h
theorem isS_of {t:Bs} {n:Int} {k:Nat} (h:IsI t n k) (h0:0≤n) (h1:n≤65536) (h2:k+n.toNat≤t.length):IsS t ((t.drop k).take n.toNat) (k+n.toNat):=by
 obtain ⟨hk,e⟩:=h.le
 obtain ⟨_,rfl,_⟩:=h
 have hl:((t.drop (pI n).length).take n.toNat).length=n.toNat:=by rw [lT,List.length_drop];omega
 have hl2:((((t.drop (pI n).length).take n.toNat).length:Nat):Int)=n:=by rw [hl];omega
 refine ⟨by omega,?_,?_⟩
 ·unfold pS
  rw [lA,hl2,hl]
 ·unfold pS
  rw [hl2]
  conv=>rhs;rw [e]
  exact List.prefix_append_right_inj _ |>.2 (List.take_prefix _ _)
theorem isI_of {t u:Bs} {k:Nat} (h:IsS t u k):IsI t u.length (k-u.length)∧u.length≤k∧(t.drop (k-u.length)).take u.length=u∧k≤t.length:=by
 obtain ⟨hk,e⟩:=h.le
 obtain ⟨h1,rfl,h3⟩:=h
 have hl:(pS u).length-u.length=(pI u.length).length:=by unfold pS;rw [lA];omega
 rw [hl]
 refine ⟨⟨inR_len h1,rfl,?_⟩,by unfold pS;rw [lA];omega,?_,hk⟩
 ·obtain ⟨x,hx⟩:=h3
  exact ⟨u++x,by rw [← hx];unfold pS;rw [aA]⟩
 ·rw [e]
  unfold pS
  rw [aA,List.drop_left,List.take_left]
theorem str_ok {s:Bs} {p:Nat} (hp:p≤s.length) (hs:s.length≤1000000) {r:Int×Int×Int} (hr:IntR s p r) :
  Ans (bif PE.notM (eqM r.2.2 0) then some ([],0,r.2.2) else bif PE.orM (PE.orM (ltM r.1 0) (ltM 65536 r.1)) (ltM (IntKind.wrap .i64 (lenM s-r.2.1)) r.1) then some ([],0,10) else (sliceM s r.2.1 (IntKind.wrap .i64 (r.2.1+r.1))).bind fun r_1=>some (r_1,IntKind.wrap .i64 (r.2.1+r.1),0)) (StrR s p):=by
 rcases hr.cases with ⟨n,k,h,rfl⟩ | ⟨h,rfl⟩
 ·dsimp only
  have hk:=h.le.1
  have hn:=h.1
  unfold inR at hn
  rw [List.length_drop] at hk
  rw [eqI rfl,notT,cF,lenI,wrap_in (n:=(s.length:Int)-((p+k:Nat):Int)) (by omega) (by omega)]
  by_cases hb:(n<0∨65536<n)∨(s.length:Int)-((p+k:Nat):Int)<n
  ·have:PE.orM (PE.orM (ltM n 0) (ltM 65536 n)) (ltM ((s.length:Int)-((p+k:Nat):Int)) n)=true:=by
    unfold PE.orM ltM
    rw [← Bool.decide_or,← Bool.decide_or];exact dT hb
   rw [this,cT]
   refine Ans.some ⟨fun u j g=>?_,fun _=>rfl⟩
   obtain ⟨g1,g2,g3,g4⟩:=isI_of g
   obtain ⟨q1,q2⟩:=g1.uniq h
   have:=g.1
   rw [List.length_drop] at g4
   omega
  ·have:PE.orM (PE.orM (ltM n 0) (ltM 65536 n)) (ltM ((s.length:Int)-((p+k:Nat):Int)) n)=false:=by
    unfold PE.orM ltM
    rw [← Bool.decide_or,← Bool.decide_or];exact dF hb
   have hS:=isS_of h (by omega) (by omega) (by rw [List.length_drop];omega)
   rw [this,cF,wrap_in (by omega) (by omega),sliceM_of (by omega) (by omega) (by omega),oB]
   have e:((s.take (((p+k:Nat):Int)+n).toNat).drop ((p+k:Nat):Int).toNat)=((s.drop p).drop k).take n.toNat:=by
    rw [List.drop_take,List.drop_drop,show (((p+k:Nat):Int)+n).toNat-((p+k:Nat):Int).toNat=n.toNat by omega,Int.toNat_natCast]
   rw [e]
   refine Ans.some ⟨fun u j g=>?_,fun g=>absurd hS (g _ _)⟩
   obtain ⟨q1,q2⟩:=g.uniq hS
   rw [q1,q2]
   congr 2
   omega
 ·dsimp only
  rw [neI (by decide),notF,cT]
  refine Ans.some ⟨fun u j g=>absurd (isI_of g).1 (h _ _),fun _=>rfl⟩
theorem wStr_ok {s:Bs} {p:Nat} (hp:p≤s.length) (hs:s.length≤1000000):Ans (m101 (s,(p:Int))) (StrR s p):=by
 unfold m101
 dsimp only
 exact Ans.bind (wInt_ok hp hs) fun r hr=>str_ok hp hs hr
variable [EA]
end Go.Proofs.YtobfnefajpiakaaGreatDoor
namespace Go.Ar
def h0:Bs:=List.replicate 32 0
def sto (h r:Bs):Bs:=1::(pS r++chain h r)
def hd (h:Bs) (l:List Bs):Bs:=l.foldl chain h
def enc:Bs→List Bs→Bs
 | _,[]=>[]
 | h,r::l=>sto h r++enc (chain h r) l
def OkL (l:List Bs):Prop:=∀ r∈l,r.length≤65536
theorem chain_len (h r:Bs):(chain h r).length=32:=sha_len _
theorem h0_len:h0.length=32:=by decide
theorem hd_len {h:Bs} (hh:h.length=32):∀ l:List Bs,(hd h l).length=32
 | []=>hh
 | r::l=>hd_len (chain_len h r) l
theorem hd_app (h:Bs) (l m:List Bs):hd h (l++m)=hd (hd h l) m:=List.foldl_append
theorem hd_snoc (h:Bs) (l:List Bs) (r:Bs):hd h (l++[r])=chain (hd h l) r:=hd_app h l [r]
theorem enc_app:∀ (h:Bs) (l m:List Bs),enc h (l++m)=enc h l++enc (hd h l) m
 | _,[],_=>rfl
 | h,r::l,m=>by
  show sto h r++enc (chain h r) (l++m)=(sto h r++enc (chain h r) l)++enc (hd (chain h r) l) m
  rw [enc_app,aA]
theorem enc_snoc (h:Bs) (l:List Bs) (r:Bs):enc h (l++[r])=enc h l++sto (hd h l) r:=by
 rw [enc_app]
 show _++(sto (hd h l) r++[])=_
 rw [List.append_nil]
theorem sto_len (h r:Bs):(sto h r).length=(pS r).length+33:=by
 unfold sto
 rw [List.length_cons,lA,chain_len]
theorem enc_nil {h:Bs} {l:List Bs}:enc h l=[]↔l=[]:=by
 cases l with
 | nil=>exact ⟨fun _=>rfl,fun _=>rfl⟩
 | cons r l=>exact ⟨fun e=>by have:=congrArg List.length e;simp [enc,sto_len] at this,fun e=>by cases e⟩
theorem enc_head {h:Bs}:∀ {l:List Bs},l≠[]→∃ t,enc h l=1::t
 | [],e=>absurd rfl e
 | r::l,_=>⟨_,rfl⟩
def Stop (z:Bs):Prop:=∀ b,z.head? = some b→b=0
def Bad (h z:Bs):Prop:=(∃ b,z.head? = some b∧b≠0)∧∀ r:Bs,r.length≤65536→¬ sto h r <+: z
theorem Stop.bad {h z:Bs} (s:Stop z) (b:Bad h z):False:=by
 obtain ⟨⟨c,h1,h2⟩,_⟩:=b
 exact h2 (s c h1)
theorem stop_sto {h r z:Bs} (s:Stop (sto h r++z)):False:=by
 have:=s 1 rfl
 cases this
theorem sto_pre {h a b x y:Bs} (e:sto h a++x=sto h b++y):a=b∧x=y:=by
 unfold sto at e
 simp only [List.cons_append,aA,List.cons.injEq,true_and] at e
 obtain ⟨h1,h2⟩:=pS_pre e
 subst h1
 exact ⟨rfl,List.append_cancel_left h2⟩
theorem enc_uniq:∀ {h:Bs} {l l':List Bs} {z z':Bs},OkL l→OkL l'→enc h l++z=enc h l'++z'→Stop z∨Bad (hd h l) z→Stop z'∨Bad (hd h l') z'→l=l'∧z=z'
 | h,[],[],z,z',_,_,e,_,_=>⟨rfl,e⟩
 | h,[],r::l',z,z',_,o,e,s,_=>by
  exfalso
  have e:z=sto h r++(enc (chain h r) l'++z'):=by rw [← aA];exact e
  rcases s with s | s
  ·exact stop_sto (e▸s)
  ·exact s.2 r (o r (by simp)) ⟨_,e.symm⟩
 | h,r::l,[],z,z',o,_,e,_,s=>by
  exfalso
  have e:z'=sto h r++(enc (chain h r) l++z):=by rw [← aA];exact e.symm
  rcases s with s | s
  ·exact stop_sto (e▸s)
  ·exact s.2 r (o r (by simp)) ⟨_,e.symm⟩
 | h,r::l,r'::l',z,z',o,o',e,s,s'=>by
  have e:sto h r++(enc (chain h r) l++z)=sto h r'++(enc (chain h r') l'++z'):=by rw [← aA,← aA];exact e
  obtain ⟨rfl,e2⟩:=sto_pre e
  obtain ⟨rfl,rfl⟩:=enc_uniq (fun x hx=>o x (by simp [hx])) (fun x hx=>o' x (by simp [hx])) e2 s s'
  exact ⟨rfl,rfl⟩
def Rd (h t:Bs) (l:List Bs) (z:Bs):Prop:=OkL l∧t=enc h l++z∧(Stop z∨Bad (hd h l) z)
theorem Rd.uniq {h t:Bs} {l l':List Bs} {z z':Bs} (a:Rd h t l z) (b:Rd h t l' z'):l=l'∧z=z':=enc_uniq a.1 b.1 (a.2.1.symm.trans b.2.1) a.2.2 b.2.2
theorem stop_zeros (n:Nat):Stop (List.replicate n 0):=fun b h=>by
 cases n with
 | zero=>cases h
 | succ n=>exact (Option.some.inj h).symm
theorem stop_cons (z:Bs):Stop (0::z):=fun b h=>(Option.some.inj h).symm
theorem OkL.app {l m:List Bs} (h:OkL l) (h':OkL m):OkL (l++m):=fun x hx=>by
 rcases List.mem_append.1 hx with hx | hx
 ·exact h x hx
 ·exact h' x hx
theorem enc_le {h:Bs}:∀ (l:List Bs),l.length≤(enc h l).length
 | []=>nR 0
 | r::l=>by
  show l.length+1≤(sto h r++enc (chain h r) l).length
  have:=enc_le (h:=chain h r) l
  rw [lA,sto_len]
  omega
end Go.Ar
namespace Go.Proofs.YtobfnefajpiakaaGreatDoor
open Go Go.Lib Go.Abs Go.PE Go.Ar
variable [EA]
theorem join_two (a b:Bs):Lib.join [a,b] []=a++b:=by rw [join_cons];simp [joinTail]
theorem wChain_ok {a b:Bs} (h:a.length+b.length≤800000):m70 (a,b)=some (chain a b):=by
 unfold m70 joinM
 dsimp only
 rw [join_two,dT (by rw [lA];omega),dT (by simp)]
 dsimp only
 rw [oB,catM_of (by simp;omega),oB,wSum_ok (by simp;omega)]
 rfl
theorem strB_zero (n:Nat):strB (List.replicate n 0)=List.replicate n 0:=by unfold strB;rw [List.map_replicate];rfl
theorem nB_zero (n:Nat):List.replicate n (0:Int)=nB (List.replicate n 0):=by unfold nB;rw [List.map_replicate];rfl
abbrev Dk:Type:=Bool×Int×List Int×List Int×List (Int×Bs)
def dk (o:Bool) (L:Int) (du vi:Bs) (pd:List (Int×Bs)):Dk:=(o,L,nB du,nB vi,pd)
def usd (L:Int):Bool×Int:=if L=0 then (false,0) else (decide (L-1=0),L-1)
def spl (b:Bs) (p:Nat) (s:Bs):Bs:=b.take p++(s++b.drop (p+s.length))
theorem spl_len {b:Bs} {p:Nat} {s:Bs} (h:p+s.length≤b.length):(spl b p s).length=b.length:=by
 unfold spl
 simp only [lA,lT,List.length_drop]
 omega
variable {o:Bool} {L:Int} {du vi:Bs} {pd:List (Int×Bs)}
theorem lenN (s:Bs):lenM (nB s)=(s.length:Int):=by rw [lenI,nB_len]
theorem size_ok:m51 (false,dk o L du vi pd)=some (du.length:Int):=by
 unfold m51 dk
 dsimp only [nonM,oB]
 rw [lenN]
theorem new_ok {n:Int} (h1:1≤n) (h2:n≤10000):m24 n=some (0,false,dk false 0 (List.replicate n.toNat 0) (List.replicate n.toNat 0) []):=by
 unfold m24 dk
 rw [geI (by omega),geI (by omega),orF,cF,mkM_of (by omega) (by omega) (by show n*1≤_;omega),oB,oB,nB_zero]
theorem ins_ok {p k n:Nat} (h:p+k≤n) (hn:n≤10000000):PE.notM (PE.andM (PE.andM (PE.andM (leM 0 (p:Int)) (leM 0 (k:Int))) (leM (p:Int) (n:Int))) (leM (k:Int) (IntKind.wrap .i64 ((n:Int)-(p:Int)))))=false:=by
 rw [wrap_in (by omega) (by omega),leI (by omega),leI (by omega),leI (by omega),leI (by omega)]
 rfl
theorem read_ok (h0:0<du.length) (hv:vi.length=du.length) (hn:du.length≤1000000):m52 (0,(du.length:Int),false,dk false L du vi pd)=some (vi,0):=by
 unfold m52 dk
 dsimp only [nonM,oB,cF]
 have hi:=ins_ok (p:=0) (k:=du.length) (n:=du.length) (by omega) (by omega)
 rw [show ((0:Nat):Int)=0 from rfl] at hi
 rw [eqI rfl,notT,cF,lenN,lenN,hi,cF,chkM_of (by omega) (by omega),oB,chkM_of (by omega) (by omega),oB]
 have:partV (nB vi) (0:Int).toNat (du.length:Int).toNat=nB vi:=by
  unfold partV
  rw [Int.toNat_natCast,show (0:Int).toNat=0 from rfl,List.drop_zero,← hv,← nB_len,List.take_length]
 rw [this,strB_nB]
theorem put_ok {b s:Bs} {p:Nat} (h:p+s.length≤b.length):putM (nB b) (p:Int) (byteI s)=some (nB (spl b p s)):=by
 unfold putM
 have h2:byteI s=nB s:=rfl
 rw [h2,dT (by omega),dT (by rw [nB_len,nB_len];omega)]
 dsimp only
 unfold spl
 rw [nB_app,nB_app,Int.toNat_natCast,nB_len]
 unfold nB
 rw [← List.map_take,← List.map_drop]
theorem write_ok {s:Bs} {p:Nat} (h1:p<du.length) (h:p+s.length≤du.length) (hv:vi.length=du.length) (hn:du.length≤1000000) (hp:pd.length≤1000) (hL:0≤L∧L≤1000) :
  m13 ((p:Int),s,false,dk false L du vi pd)=some (0,(usd L).1,(usd L).2,nB (spl vi p s),pd++[((p:Int),s)]):=by
 unfold m13 dk
 dsimp only [nonM,oB,cF]
 rw [eqI rfl,notT,cF,lenN,lenN,lenI,ins_ok (by omega) (by omega),cF,appM_of (by show (pd.length+1)*24≤_;omega),oB,chkM_of (by omega) (by omega)]
 by_cases h0:p+s.length≤vi.length
 ·rw [oB,put_ok h0,oB]
  unfold usd
  by_cases hz:L=0
  ·rw [eqI hz,cT,if_pos hz,oB,hz]
  ·rw [neI hz,cF,if_neg hz,oB,wrap_in (by omega) (by omega)]
   try rfl
 ·omega
theorem write_off {p:Int} {s:Bs}:m13 (p,s,false,dk true L du vi pd)=some (361,true,L,nB vi,pd):=by
 unfold m13 dk
 dsimp only [nonM,oB,cT]
 rw [neI (by decide),notF,cT]
theorem copy_eq {a b:Bs} (h:a.length=b.length):copyM (nB a) (nB b)=nB b:=by
 unfold copyM
 rw [nB_len,h,← nB_len b,List.take_length,List.drop_eq_nil_of_le (by rw [nB_len,nB_len];omega),List.append_nil]
theorem clear_ok {α:Type} (xs:List α) (d:α):sliceM (zerosL xs d) 0 0=some []:=by
 rw [sliceM_of (by omega) (by omega) (by omega)];rfl
theorem sync_ok (hv:vi.length=du.length):m42 (false,dk false L du vi pd)=some (0,false,L,nB vi,[]):=by
 unfold m42 dk
 dsimp only [nonM,oB,cF]
 rw [eqI rfl,cT,clear_ok,oB,oB,copy_eq hv.symm]
theorem sync_off:m42 (false,dk true L du vi pd)=some (361,true,L,nB du,pd):=by
 unfold m42 dk
 dsimp only [nonM,oB,cT]
 rw [neI (by decide),cF,oB]
theorem cut_ok {c:Int} (h:0≤c):m29 (c,false,dk false L du vi pd)=some (0,decide (c=0),c):=by
 unfold m29 dk
 dsimp only [nonM,oB,cF]
 rw [eqI rfl,notT,cF,geI h,cF]
 try rfl
theorem cut_off {c:Int}:m29 (c,false,dk true L du vi pd)=some (361,true,L):=by
 unfold m29 dk
 dsimp only [nonM,oB,cT]
 rw [neI (by decide),notF,cT]
variable [EA]
theorem sto_isS {h r t:Bs} (hr:r.length≤65536) (hp:sto h r <+: 1::t):IsS t r (pS r).length∧(1::t:Bs).take ((pS r).length+33)=sto h r∧(pS r).length+33≤(1::t:Bs).length:=by
 obtain ⟨z,hz⟩:=hp
 have hl:=sto_len h r
 refine ⟨⟨hr,rfl,chain h r++z,?_⟩,?_,?_⟩
 ·have:(1:UInt8)::(pS r++(chain h r++z))=1::t:=by rw [← hz];simp [sto]
  exact (List.cons.inj this).2
 ·rw [← hz,← hl,List.take_left'];rfl
 ·rw [← hz,lA];omega
theorem bad_none {h t:Bs} (hn:∀ u k,¬ IsS t u k):Bad h (1::t):=⟨⟨1,rfl,by decide⟩,fun r hr hp=>hn _ _ (sto_isS hr hp).1⟩
theorem bad_one {h t u:Bs} {k:Nat} (hu:IsS t u k) (hn:¬ sto h u <+: 1::t):Bad h (1::t):=⟨⟨1,rfl,by decide⟩,fun r hr hp=>by
 obtain ⟨rfl,_⟩:=hu.uniq (sto_isS hr hp).1
 exact hn hp⟩
theorem bad_byte {h t:Bs} {b:UInt8} (h0:b≠0) (h1:b≠1):Bad h (b::t):=⟨⟨b,rfl,h0⟩,fun r _ hp=>by
 obtain ⟨z,hz⟩:=hp
 exact h1 (List.cons.inj hz).1.symm⟩
def LdQ (s:Bs) (o:(Bs×Int×Bool×List Bs)⊕(Bs×Int×Bool×List Bs)):Prop:=∃ l z,Rd h0 s l z∧((Stop z∧o=.inl (hd h0 l,((enc h0 l).length:Int),false,l))∨(Bad (hd h0 l) z∧∃ y,o=.inr y))
theorem via_loop {β γ:Type} {o:Option β} {f:β→Option γ} {Q:β→Prop} (h:Ans o Q):∃ x,Q x∧Option.bind o f=f x:=by
 obtain ⟨x,h1,h2⟩:=h
 exact ⟨x,h2,by rw [h1];rfl⟩
theorem load_ok {s:Bs} (hs:s.length≤100000) (d:Dk):∃ l z,Rd h0 s l z∧((Stop z∧m54 (s,false,d)=some (0,false,hd h0 l,((enc h0 l).length:Int),false,l))∨(Bad (hd h0 l) z∧m54 (s,false,d)=some (372,true,[],0,false,[]))):=by
 suffices h:∃ o,LdQ s o∧m54 (s,false,d)=Sum.elim (fun (t:List UInt8×Int×Bool×List (List UInt8))=>some (0,false,t.1,t.2.1,t.2.2.1,t.2.2.2)) (fun (t:List UInt8×Int×Bool×List (List UInt8))=>some (372,true,[],0,false,[])) o by
  obtain ⟨o,⟨l,z,h1,h2⟩,h3⟩:=h
  refine ⟨l,z,h1,?_⟩
  rcases h2 with ⟨h2,rfl⟩ | ⟨h2,y,rfl⟩
  ·exact .inl ⟨h2,h3⟩
  ·exact .inr ⟨h2,h3⟩
 unfold m54
 dsimp only [nonM,oB]
 rw [mkM_of (by omega) (by omega) (by decide),oB,show (32:Int).toNat=32 from rfl,strB_zero]
 refine via_loop ?_
 refine Ans.loop (fun k st=>∃ l t,OkL l∧s=enc h0 l++t∧st=(hd h0 l,((enc h0 l).length:Int),false,l)∧l.length=k) s.length ⟨[],s,(fun r hr=>by simp at hr),rfl,rfl,rfl⟩ ?_
 rintro k st hk ⟨l,t,hl,hst,rfl,hlk⟩
 have hsl:s.length=(enc h0 l).length+t.length:=by rw [hst,lA]
 have hle:=enc_le (h:=h0) l
 have hdr:s.drop (enc h0 l).length=t:=by rw [hst,List.drop_left'];rfl
 dsimp only
 rw [lenI]
 cases t with
 | nil =>
  rw [geI (by simp at hsl;omega),cF,oB,andF,cF]
  exact Ans.some ⟨l,[],⟨hl,hst,.inl fun b hb=>by cases hb⟩,.inl ⟨fun b hb=>(by cases hb),rfl⟩⟩
 | cons b t =>
  simp only [List.length_cons] at hsl
  have hb:s[(enc h0 l).length]? = some b:=by
   have:=congrArg (fun x:Bs=>x[0]?) hdr
   simpa using this
  rw [ltI (by omega),cT,byteM_of hb,oB,andT]
  by_cases hb0:b=0
  ·subst hb0
   rw [show eqM ((0:UInt8).toNat:Int) 0=true from rfl,notT,cF]
   exact Ans.some ⟨l,_,⟨hl,hst,.inl (stop_cons t)⟩,.inl ⟨stop_cons t,rfl⟩⟩
  have hb0':(b.toNat:Int)≠0:=fun e=>hb0 (u8eq (show b.toNat=(0:UInt8).toNat by rw [show (0:UInt8).toNat=0 from rfl];omega))
  rw [neI hb0',notF,cT,oB]
  by_cases hb1:b=1
  ·subst hb1
   have hdr1:s.drop ((enc h0 l).length+1)=t:=by rw [← List.drop_drop,hdr];rfl
   rw [show eqM ((1:UInt8).toNat:Int) 1=true from rfl,notT,cF,wrap_in (by omega) (by omega)]
   obtain ⟨r3,e3,q3⟩:=wStr_ok (s:=s) (p:=(enc h0 l).length+1) (by omega) (by omega)
   rw [show (((enc h0 l).length:Int)+1)=(((enc h0 l).length+1:Nat):Int) by omega,e3,oB]
   rcases q3.cases with ⟨u,k2,hu,rfl⟩ | ⟨hu,rfl⟩
   ·rw [hdr1] at hu
    have hkt:=hu.le.1
    dsimp only
    have bad:(¬ sto (hd h0 l) u <+: 1::t)→LdQ s (.inr (hd h0 l,((enc h0 l).length:Int),false,l)):=fun hn=>⟨l,_,⟨hl,hst,.inr (bad_one hu hn)⟩,.inr ⟨bad_one hu hn,_,rfl⟩⟩
    by_cases hfit:(enc h0 l).length+1+k2+32≤s.length
    ·rw [eqI rfl,andT,wrap_in (by omega) (by omega),leI (by omega),notT,cF]
     have hk2:=hu.2.1
     have hu1:=hu.1
     have hps:=pS_len hu1
     have hhd:=hd_len h0_len l
     rw [wChain_ok (by omega),oB,appM_of (by show (l.length+1)*16≤_;omega),oB,wPutS_ok hu1,oB]
     dsimp only
     rw [catM_of (by rw [show strB [1]=([1]:Bs) from rfl];simp;omega),oB,catM_of (by rw [show strB [1]=([1]:Bs) from rfl];simp [chain_len];omega),oB]
     have hout:(strB [1]++pS u)++chain (hd h0 l) u=sto (hd h0 l) u:=rfl
     rw [hout,oB]
     dsimp only
     rw [sliceM_of (by omega) (by omega) (by omega),oB]
     have hsl2:(s.take (((((enc h0 l).length+1+k2:Nat):Int)+32).toNat)).drop (((enc h0 l).length:Int).toNat)=(1::t:Bs).take (k2+33):=by
      rw [List.drop_take,show ((enc h0 l).length:Int).toNat=(enc h0 l).length by omega,hdr]
      congr 1
      omega
     rw [hsl2]
     by_cases heq:sto (hd h0 l) u=(1::t:Bs).take (k2+33)
     ·rw [eqsT heq,notT,cF]
      have hlen:=congrArg List.length heq
      rw [sto_len,lT,List.length_cons] at hlen
      refine Ans.some ⟨by omega,l++[u],(1::t:Bs).drop (k2+33),hl.app fun x hx=>?_,?_,?_,?_⟩
      ·simp at hx;subst hx;exact hu1
      ·rw [enc_snoc,aA,heq,List.take_append_drop];exact hst
      ·rw [hd_snoc,enc_snoc,lA,lenI,wrap_in (by rw [sto_len];omega) (by rw [sto_len];omega)]
       refine Prod.ext rfl (Prod.ext ?_ rfl)
       exact (Int.natCast_add _ _).symm
      ·rw [lA];simp;omega
     ·rw [eqsF heq,notF,cT]
      refine Ans.some ⟨l,_,⟨hl,hst,.inr (bad_one hu fun hp=>?_)⟩,.inr ⟨bad_one hu fun hp=>?_,_,rfl⟩⟩
      all_goals
       obtain ⟨_,h2,_⟩:=sto_isS hu1 hp
       exact heq (by rw [hk2];exact h2.symm)
    ·rw [eqI rfl,andT,wrap_in (by omega) (by omega),gtI (by omega),notF,cT]
     refine Ans.some (bad fun hp=>?_)
     obtain ⟨h1,_,h2⟩:=sto_isS hu.1 hp
     have:=hu.2.1
     simp only [List.length_cons] at h2
     omega
   ·rw [hdr1] at hu
    rw [neI (by decide),andF,notF,cT]
    exact Ans.some ⟨l,_,⟨hl,hst,.inr (bad_none hu)⟩,.inr ⟨bad_none hu,_,rfl⟩⟩
  ·have hb1':(b.toNat:Int)≠1:=fun e=>hb1 (u8eq (show b.toNat=(1:UInt8).toNat by rw [show (1:UInt8).toNat=1 from rfl];omega))
   rw [neI hb1',notF,cT]
   exact Ans.some ⟨l,_,⟨hl,hst,.inr (bad_byte hb0 hb1)⟩,.inr ⟨bad_byte hb0 hb1,_,rfl⟩⟩
variable [EA]
def Zs (z:Bs):Prop:=z=List.replicate z.length 0
theorem zs_all {z:Bs} (h:∀ b∈z,b=0):Zs z:=List.eq_replicate_iff.2 ⟨rfl,h⟩
theorem Zs.mem {z:Bs} (h:Zs z):∀ b∈z,b=0:=(List.eq_replicate_iff.1 h).2
theorem mem_drop {p:UInt8→Bool} {b:UInt8} (hb:p b=false):∀ {l:Bs},b∈l→b∈l.dropWhile p
 | a::l,h=>by
  rw [List.dropWhile_cons]
  split
  ·rename_i ha
   rcases List.mem_cons.1 h with rfl | h
   ·rw [hb] at ha;cases ha
   ·exact mem_drop hb h
  ·exact h
theorem drop_all {p:UInt8→Bool}:∀ {l:Bs},(∀ b∈l,p b=true)→l.dropWhile p=[]
 | [],_=>rfl
 | a::l,h=>by
  rw [List.dropWhile_cons,if_pos (h a (by simp))]
  exact drop_all fun b hb=>h b (by simp [hb])
theorem trim_ok (z:Bs):∃ r,trimM z [(0:UInt8)]=some r∧(r=[]↔Zs z):=by
 refine ⟨Lib.trimS z [0],rfl,fun h=>zs_all fun b hb=>?_,fun h=>?_⟩
 ·apply Classical.byContradiction
  intro h0
  have hp:(([0]:List UInt8).contains b)=false:=by simp [h0]
  have h1:b∈Lib.trimS z [0]:=by
   unfold Lib.trimS Lib.trimLeftS Lib.trimRightS
   exact mem_drop hp (List.mem_reverse.2 (mem_drop hp (List.mem_reverse.2 hb)))
  rw [h] at h1
  cases h1
 ·unfold Lib.trimS Lib.trimLeftS Lib.trimRightS
  have h1:z.reverse.dropWhile (([0]:List UInt8).contains ·)=[]:=drop_all fun b hb=>by simp [h.mem b (List.mem_reverse.1 hb)]
  rw [h1]
  rfl
variable {L:Int} {du vi:Bs} {pd:List (Int×Bs)}
theorem spl_end {a z s:Bs} (h:s.length=z.length):spl (a++z) a.length s=a++s:=by
 unfold spl
 rw [List.take_left' rfl,h,List.drop_eq_nil_of_le (by simp),List.append_nil]
theorem open_ok (h0:0<du.length) (hv:vi.length=du.length) (hn:du.length≤100000) (hp:pd.length≤1000) (hL:0≤L∧L≤1000):∃ l z,Rd Ar.h0 vi l z ∧
  ((Bad (hd Ar.h0 l) z∧m25 (false,dk false L du vi pd)=some (372,false,L,nB du,nB vi,true,[],0,false,[],pd)) ∨
  (Stop z∧Zs z∧m25 (false,dk false L du vi pd)=some (0,false,L,nB du,nB vi,false,hd Ar.h0 l,((enc Ar.h0 l).length:Int),false,l,pd)) ∨
  (Stop z∧¬ Zs z∧(usd L).1=true∧m25 (false,dk false L du vi pd)=some (361,true,(usd L).2,nB du,nB (enc Ar.h0 l++List.replicate z.length 0),true,[],0,false,[],pd++[(((enc Ar.h0 l).length:Int),List.replicate z.length 0)])) ∨
  (Stop z∧¬ Zs z∧(usd L).1=false∧m25 (false,dk false L du vi pd)=some (0,false,(usd L).2,nB (enc Ar.h0 l++List.replicate z.length 0),nB (enc Ar.h0 l++List.replicate z.length 0),false,hd Ar.h0 l,((enc Ar.h0 l).length:Int),false,l,[]))):=by
 obtain ⟨l,z,hr,hm⟩:=load_ok (s:=vi) (by omega) (dk false L du vi pd)
 refine ⟨l,z,hr,?_⟩
 unfold m25
 rw [show (false,dk false L du vi pd)=(false,false,L,nB du,nB vi,pd) from rfl]
 dsimp only [nonM,oB]
 rw [show (false,false,L,nB du,nB vi,pd)=(false,dk false L du vi pd) from rfl,size_ok,oB,read_ok h0 hv (by omega),oB]
 dsimp only
 rw [eqI rfl,notT,cF]
 rcases hm with ⟨hs,hm⟩ | ⟨hb,hm⟩
 ·rw [hm,oB]
  have hvl:vi.length=(enc Ar.h0 l).length+z.length:=by rw [hr.2.1,lA]
  dsimp only [nonM,oB]
  have hsl:sliceM vi ((enc Ar.h0 l).length:Int) (lenM vi)=some z:=by
   rw [lenI,sliceM_of (by omega) (by omega) (by omega),Int.toNat_natCast,Int.toNat_natCast,List.take_length,hr.2.1,List.drop_left' rfl]
  rw [eqI rfl,notT,cF,hsl,oB]
  obtain ⟨r6,h6,h6'⟩:=trim_ok z
  rw [h6,oB]
  by_cases hz:Zs z
  ·refine .inr (.inl ⟨hs,hz,?_⟩)
   rw [eqsT (h6'.2 hz),notT,cF,oB]
   dsimp only
   rw [eqI rfl,notT,cF]
  ·have hzl:0<z.length:=by
    cases z with
    | nil=>exact absurd rfl hz
    | cons _ _=>simp
   rw [eqsF (fun e=>hz (h6'.1 e)),notF,cT,lenI,wrap_in (by omega) (by omega),mkM_of (by omega) (by omega) (by show _*1≤_;omega),oB,show ((vi.length:Int)-((enc Ar.h0 l).length:Int)).toNat=z.length by omega,strB_zero]
   have hw:=write_ok (L:=L) (du:=du) (vi:=vi) (pd:=pd) (s:=List.replicate z.length 0) (p:=(enc Ar.h0 l).length) (by omega) (by rw [List.length_replicate];omega) hv (by omega) hp hL
   rw [hw,oB]
   dsimp only
   rw [eqI rfl,notT,cF]
   have hspl:spl vi (enc Ar.h0 l).length (List.replicate z.length 0)=enc Ar.h0 l++List.replicate z.length 0:=by
    rw [hr.2.1];exact spl_end (by simp)
   rw [hspl]
   cases hu:(usd L).1 with
   | true =>
    refine .inr (.inr (.inl ⟨hs,hz,rfl,?_⟩))
    rw [show (false,true,(usd L).2,nB du,nB (enc Ar.h0 l++List.replicate z.length 0),pd++[(((enc Ar.h0 l).length:Int),(List.replicate z.length 0:Bs))])=(false,dk true (usd L).2 du (enc Ar.h0 l++List.replicate z.length 0) (pd++[(((enc Ar.h0 l).length:Int),(List.replicate z.length 0:Bs))])) from rfl,sync_off,oB]
    dsimp only
    rw [neI (by decide),notF,cT,oB]
    dsimp only
    rw [oB]
    dsimp only
    rw [neI (by decide),notF,cT]
   | false =>
    refine .inr (.inr (.inr ⟨hs,hz,rfl,?_⟩))
    rw [show (false,false,(usd L).2,nB du,nB (enc Ar.h0 l++List.replicate z.length 0),pd++[(((enc Ar.h0 l).length:Int),(List.replicate z.length 0:Bs))])=(false,dk false (usd L).2 du (enc Ar.h0 l++List.replicate z.length 0) (pd++[(((enc Ar.h0 l).length:Int),(List.replicate z.length 0:Bs))])) from rfl,sync_ok (by rw [lA,List.length_replicate];omega),oB]
    dsimp only
    rw [eqI rfl,notT,cF,oB]
    dsimp only
    rw [oB]
    dsimp only
    rw [eqI rfl,notT,cF]
 ·refine .inl ⟨hb,?_⟩
  rw [hm,oB]
  dsimp only
  rw [neI (by decide),notF,cT]
variable [EA]
variable {o:Bool} {L:Int} {du vi:Bs} {pd:List (Int×Bs)} {hh:Bs} {p:Nat} {br:Bool} {recs l:List Bs}
theorem both_self {α:Type} (a:Option α):PE.bothM a a=a:=by
 unfold PE.bothM
 split
 ·rfl
 ·rename_i h _
  exact absurd rfl h
theorem clone_ok {l:List Bs} (h:l.length≤1000000):mo36 l=some l:=by
 unfold mo36 nilM
 cases l with
 | nil =>
  show PE.bothM _ (Option.bind (appM _ [] []) _)=_
  rw [appM_of (by show (0+0)*16≤_;omega)]
  exact both_self (some [])
 | cons a l =>
  show (Option.bind (appM _ [] (a::l)) _)=_
  rw [appM_of (by show (0+(a::l).length)*16≤_;omega)]
  rfl
theorem room_ok (hp:p≤du.length) (hn:du.length≤100000):m20 (false,hh,(p:Int),br,recs,false,dk o L du vi pd)=some (((du.length-p:Nat):Int),dk o L du vi pd):=by
 unfold m20 dk
 dsimp only [nonM,oB]
 rw [show (false,o,L,nB du,nB vi,pd)=(false,dk o L du vi pd) from rfl,size_ok,oB,wrap_in (by omega) (by omega),show (du.length:Int)-(p:Int)=((du.length-p:Nat):Int) by omega]
theorem recs_ok (h:recs.length≤1000000) {n:Int}:m19 (false,hh,n,br,recs,false,dk o L du vi pd)=some recs:=by
 unfold m19
 dsimp only [nonM,oB]
 rw [clone_ok h,oB]
theorem app_broken:m10 (l,false,hh,(p:Int),true,recs,false,dk o L du vi pd)=some (370,false,hh,(p:Int),true,o,L,nB du,nB vi,recs,pd):=by
 unfold m10 dk
 dsimp only [nonM,oB]
 rw [cF,notT,cF,oB,orT,cT]
def apd (o:Bool) (L:Int) (du vi:Bs) (pd:List (Int×Bs)) (p:Nat) (out:Bs):Int×Bool×Int×Bs×Bs×List (Int×Bs) :=
 if o then (361,true,L,du,vi,pd) else
 if (usd L).1 then (361,true,(usd L).2,du,spl vi (p+1) out.tail,pd++[(((p+1:Nat):Int),out.tail)]) else
 if (usd (usd L).2).1 then (361,true,(usd (usd L).2).2,spl vi (p+1) out.tail,spl (spl vi (p+1) out.tail) p [1],[((p:Int),[1])]) else
 (0,false,(usd (usd L).2).2,spl (spl vi (p+1) out.tail) p [1],spl (spl vi (p+1) out.tail) p [1],[])
theorem enc_step {h:Bs} {l:List Bs} {k:Nat} (hk:k<l.length):enc h (l.take (k+1))=enc h (l.take k)++sto (hd h (l.take k)) l[k]∧hd h (l.take (k+1))=chain (hd h (l.take k)) l[k]:=by
 rw [List.take_succ_eq_append_getElem hk,enc_snoc,hd_snoc]
 exact ⟨rfl,rfl⟩
theorem enc_bound {h:Bs}:∀ {l:List Bs},OkL l→(enc h l).length≤l.length*65578
 | [],_=>nR 0
 | r::l,hl=>by
  show (sto h r++enc (chain h r) l).length≤_
  have h1:=enc_bound (h:=chain h r) (l:=l) fun x hx=>hl x (by simp [hx])
  have h2:=pS_len (hl r (by simp))
  have h3:=hl r (by simp)
  rw [lA,sto_len,List.length_cons]
  omega
theorem usd_in (hL:0≤L∧L≤1000):0≤(usd L).2∧(usd L).2≤1000:=by
 unfold usd
 split
 ·exact ⟨by decide,by decide⟩
 ·dsimp only;omega
theorem app_ok (hhl:hh.length=32) (hl:OkL l) (hll:l.length≤1000) (hr:recs.length≤100000) (hp:p≤du.length) (hv:vi.length=du.length) (hn:du.length≤100000) (hpd:pd.length≤100) (hL:0≤L∧L≤1000) :
  m10 (l,false,hh,(p:Int),false,recs,false,dk o L du vi pd) =
  some (if du.length<p+(enc hh l).length then (371,false,hh,(p:Int),false,o,L,nB du,nB vi,recs,pd) else
   if l=[] then (0,false,hh,(p:Int),false,o,L,nB du,nB vi,recs,pd) else
   if (apd o L du vi pd p (enc hh l)).1=0 then (0,false,hd hh l,((p+(enc hh l).length:Nat):Int),false,(apd o L du vi pd p (enc hh l)).2.1,(apd o L du vi pd p (enc hh l)).2.2.1,nB (apd o L du vi pd p (enc hh l)).2.2.2.1,nB (apd o L du vi pd p (enc hh l)).2.2.2.2.1,recs++l,(apd o L du vi pd p (enc hh l)).2.2.2.2.2) else
   ((apd o L du vi pd p (enc hh l)).1,false,hh,(p:Int),true,(apd o L du vi pd p (enc hh l)).2.1,(apd o L du vi pd p (enc hh l)).2.2.1,nB (apd o L du vi pd p (enc hh l)).2.2.2.1,nB (apd o L du vi pd p (enc hh l)).2.2.2.2.1,recs,(apd o L du vi pd p (enc hh l)).2.2.2.2.2)):=by
 unfold m10
 rw [show (l,false,hh,(p:Int),false,recs,false,dk o L du vi pd)=(l,false,hh,(p:Int),false,recs,false,o,L,nB du,nB vi,pd) from rfl]
 dsimp only [nonM,oB]
 rw [cF,notF,cT]
 have hbd:=enc_bound (h:=hh) hl
 have hlong:∃ t:Unit⊕Int,t=.inl ()∧loopM (fun (s:Int)=>bif ltM s (lenM l) then (idxM l s).bind fun r=>(m34 r).bind fun r=>bif r then some (Sum.inr (Sum.inr s)) else some (Sum.inl (IntKind.wrap .i64 (s+1))) else some (Sum.inr (Sum.inl ()))) 0=some t:=by
  refine ⟨_,rfl,?_⟩
  refine loopM_fn (fun k=>(k:Int)) l.length (fun k hk=>?_) ?_
  ·rw [lenI,ltI (by omega),cT,idxM_lt hk,oB,show m34 l[k]=some (ltM 65536 (lenM l[k])) from rfl,oB,lenI,geI (by have:=hl _ (List.getElem_mem hk);omega),cF,wrap_in (by omega) (by omega)]
   rfl
  ·rw [lenI,geI (by omega),cF]
 obtain ⟨_,rfl,hlong⟩:=hlong
 rw [hlong,oB]
 dsimp only [Sum.elim_inl,oB]
 rw [gtI (by decide),orF,cF,clone_ok (by omega),oB]
 have hloop:loopM (fun (s:Int×List UInt8×Int×List UInt8×List (List UInt8))=>bif ltM s.1 (lenM l) then (idxM l s.1).bind fun r_5=>(m70 (s.2.1,r_5)).bind fun r_6=>(appM (nat_lit 16) s.2.2.2.2 [r_5]).bind fun r_7=>(m71 r_5).bind fun r_8=>(catM (strB [1]) r_8.1).bind fun r_9=>(catM r_9 r_6).bind fun r_10=>(catB s.2.2.2.1 r_10).bind fun r=>some (Sum.inl (IntKind.wrap .i64 (s.1+1),r_6,IntKind.wrap .i64 (s.2.2.1+lenM r_10),r,r_7)) else some (Sum.inr (s.2.1,s.2.2.1,s.2.2.2.1,s.2.2.2.2))) (0,hh,(p:Int),[],recs)=some (hd hh l,((p+(enc hh l).length:Nat):Int),enc hh l,recs++l):=by
  refine loopM_at (fun k=>((k:Int),hd hh (l.take k),((p+(enc hh (l.take k)).length:Nat):Int),enc hh (l.take k),recs++l.take k)) l.length ?_ (fun k hk=>?_) ?_
  ·simp [hd,enc]
  ·have hkl:=hl _ (List.getElem_mem hk)
   have hps:=pS_len hkl
   have hb2:=enc_bound (h:=hh) (l:=l.take k) fun x hx=>hl x (List.mem_of_mem_take hx)
   have hb3:(l.take k).length≤1000:=by rw [lT];omega
   have hhd:=hd_len hhl (l.take k)
   dsimp only
   rw [lenI,ltI (by omega),cT,idxM_lt hk,oB,wChain_ok (by omega),oB,appM_of (by rw [lA];show (_+1)*16≤_;omega),oB,wPutS_ok hkl,oB]
   dsimp only
   rw [catM_of (by rw [show strB [1]=([1]:Bs) from rfl];simp;omega),oB,catM_of (by rw [show strB [1]=([1]:Bs) from rfl];simp [chain_len];omega),oB]
   have hout:(strB [1]++pS l[k])++chain (hd hh (l.take k)) l[k]=sto (hd hh (l.take k)) l[k]:=rfl
   rw [hout,catB_of (by rw [sto_len];omega),oB,lenI,wrap_in (by omega) (by omega),wrap_in (by rw [sto_len];omega) (by rw [sto_len];omega),(enc_step hk).1,(enc_step hk).2,lA,aA,List.take_succ_eq_append_getElem hk]
   rw [show ((p+(enc hh (l.take k)).length:Nat):Int)+((sto (hd hh (l.take k)) l[k]).length:Int)=((p+((enc hh (l.take k)).length+(sto (hd hh (l.take k)) l[k]).length):Nat):Int) by omega]
   rfl
  ·dsimp only
   rw [lenI,geI (by omega),cF,List.take_length]
 rw [hloop,oB]
 dsimp only
 rw [show (false,hh,(p:Int),false,recs,false,o,L,nB du,nB vi,pd)=(false,hh,(p:Int),false,recs,false,dk o L du vi pd) from rfl,room_ok hp hn,oB,lenI]
 by_cases hfit:du.length<p+(enc hh l).length
 ·rw [if_pos hfit,ltI (by omega),cT]
  rfl
 rw [if_neg hfit,geI (by omega),cF]
 by_cases hnil:l=[]
 ·subst hnil
  rw [if_pos rfl,show enc hh []=[] from rfl,eqsT rfl,cT]
  rfl
 rw [if_neg hnil,eqsF (fun e=>hnil (enc_nil.1 e)),cF]
 obtain ⟨t,ht⟩:=enc_head (h:=hh) hnil
 have h33:33≤(enc hh l).length:=by
  cases l with
  | nil=>exact absurd rfl hnil
  | cons r l =>
   show 33≤(sto hh r++_).length
   rw [lA,sto_len];omega
 rw [ht,List.length_cons] at h33
 rw [ht] at hfit ⊢
 rw [List.length_cons] at hfit
 rw [sliceM_of (by omega) (by rw [List.length_cons];omega) (by rw [List.length_cons];omega),oB,sliceM_of (by omega) (by omega) (by rw [List.length_cons];omega),oB,Int.toNat_natCast,List.take_length,show (1:Int).toNat=1 from rfl,show (0:Int).toNat=0 from rfl,List.drop_one,List.tail_cons,show ((1::t:Bs).take 1).drop 0=[1] from rfl,wrap_in (by omega) (by omega),show ((p:Int)+1)=((p+1:Nat):Int) by omega]
 dsimp only [dk]
 rw [show ((o,L,nB du,nB vi,pd):Dk)=dk o L du vi pd from rfl]
 have htl:(1::t:Bs).tail=t:=rfl
 cases o with
 | true =>
  have ha:apd true L du vi pd p (1::t)=(361,true,L,du,vi,pd):=rfl
  rw [write_off,oB,ha]
  dsimp only
  rw [neI (by decide),notF,cT,oB,if_neg (by decide)]
  dsimp only
  rw [neI (by decide),notF,cT]
 | false =>
  rw [write_ok (by omega) (by omega) hv (by omega) (by omega) hL,oB]
  dsimp only
  rw [eqI rfl,notT,cF]
  have hv1:(spl vi (p+1) t).length=du.length:=by rw [spl_len (by omega),hv]
  cases hu:(usd L).1 with
  | true =>
   have ha:apd false L du vi pd p (1::t)=(361,true,(usd L).2,du,spl vi (p+1) t,pd++[(((p+1:Nat):Int),t)]):=by
    unfold apd
    rw [if_neg (by decide),if_pos hu];rfl
   rw [ha,show ((true,(usd L).2,nB du,nB (spl vi (p+1) t),pd++[(((p+1:Nat):Int),t)]):Dk)=dk true (usd L).2 du (spl vi (p+1) t) (pd++[(((p+1:Nat):Int),t)]) from rfl,sync_off,oB]
   dsimp only
   rw [neI (by decide),notF,cT,oB,if_neg (by decide)]
   dsimp only
   rw [neI (by decide),notF,cT]
  | false =>
   rw [show ((false,(usd L).2,nB du,nB (spl vi (p+1) t),pd++[(((p+1:Nat):Int),t)]):Dk)=dk false (usd L).2 du (spl vi (p+1) t) (pd++[(((p+1:Nat):Int),t)]) from rfl,sync_ok hv1,oB]
   dsimp only
   rw [eqI rfl,notT,cF,show ((false,(usd L).2,nB (spl vi (p+1) t),nB (spl vi (p+1) t),([]:List (Int×Bs))):Dk)=dk false (usd L).2 (spl vi (p+1) t) (spl vi (p+1) t) [] from rfl,
    write_ok (by rw [hv1];omega) (by rw [hv1];show p+1≤_;omega) rfl (by omega) (by simp) (usd_in hL),oB]
   dsimp only
   rw [eqI rfl,notT,cF,List.nil_append]
   have hv2:(spl (spl vi (p+1) t) p [1]).length=(spl vi (p+1) t).length:=spl_len (by rw [hv1];show p+1≤_;omega)
   cases hu2:(usd (usd L).2).1 with
   | true =>
    have ha:apd false L du vi pd p (1::t)=(361,true,(usd (usd L).2).2,spl vi (p+1) t,spl (spl vi (p+1) t) p [1],[((p:Int),[1])]):=by
     unfold apd
     rw [if_neg (by decide),hu,if_neg (by decide),if_pos hu2];rfl
    rw [ha,show ((true,(usd (usd L).2).2,nB (spl vi (p+1) t),nB (spl (spl vi (p+1) t) p [1]),[((p:Int),([1]:Bs))]):Dk)=dk true (usd (usd L).2).2 (spl vi (p+1) t) (spl (spl vi (p+1) t) p [1]) [((p:Int),[1])] from rfl,sync_off,oB]
    dsimp only
    rw [neI (by decide),notF,cT,oB,if_neg (by decide)]
    dsimp only
    rw [neI (by decide),notF,cT]
   | false =>
    have ha:apd false L du vi pd p (1::t)=(0,false,(usd (usd L).2).2,spl (spl vi (p+1) t) p [1],spl (spl vi (p+1) t) p [1],[]):=by
     unfold apd
     rw [if_neg (by decide),hu,if_neg (by decide),hu2,if_neg (by decide)];rfl
    rw [ha,show ((false,(usd (usd L).2).2,nB (spl vi (p+1) t),nB (spl (spl vi (p+1) t) p [1]),[((p:Int),([1]:Bs))]):Dk)=dk false (usd (usd L).2).2 (spl vi (p+1) t) (spl (spl vi (p+1) t) p [1]) [((p:Int),[1])] from rfl,sync_ok hv2,oB]
    dsimp only
    rw [eqI rfl,notT,cF,oB,if_pos rfl]
    dsimp only
    rw [eqI rfl,notT,cF]
variable [EA]
theorem comp_lt {zs:List Int} (h:List.Pairwise (·≤·) zs):List.Pairwise (·<·) (Lib.compact zs):=by
 unfold Lib.compact Lib.compactUpTo
 rw [List.pairwise_map]
 refine List.Pairwise.imp_of_mem (fun {a b} ha hb hab=>?_) ((List.pairwise_lt_range (n:=zs.length)).filter _)
 have hal:a<zs.length:=List.mem_range.1 (List.mem_filter.1 ha).1
 have hbl:b<zs.length:=List.mem_range.1 (List.mem_filter.1 hb).1
 have hk:=(List.mem_filter.1 hb).2
 unfold Lib.keeps at hk
 have hk:=oD hk
 rw [getB (by simpa using hbl),getB (by simp;omega)] at hk
 rw [getB (by simpa using hal),getB (by simpa using hbl)]
 simp only [List.getElem_toArray] at hk ⊢
 have hs:=List.pairwise_iff_getElem.1 h
 have h1:zs[b-1]≤zs[b]:=hs (b-1) b (by omega) hbl (by omega)
 have h2:zs[a]≤zs[b-1]:=by
  by_cases e:a=b-1
  ·subst e;exact Int.le_refl _
  ·exact hs a (b-1) hal (by omega) (by omega)
 rcases hk with h0 | hne
 ·omega
 ·omega
theorem mem_comp {zs:List Int}:∀ (j:Nat) (hj:j<zs.length),zs[j]∈Lib.compact zs
 | j,hj=>by
  by_cases hk:Lib.keeps zs.toArray j=true
  ·unfold Lib.compact Lib.compactUpTo
   refine List.mem_map.2 ⟨j,List.mem_filter.2 ⟨List.mem_range.2 hj,hk⟩,?_⟩
   rw [getB (by simpa using hj)]
   simp
  ·have hk:¬ (j=0∨zs.toArray[j]! ≠ zs.toArray[j-1]!):=fun h=>hk (dT h)
   have h0:j≠0:=fun h=>hk (.inl h)
   have he:zs.toArray[j]! = zs.toArray[j-1]! := Classical.byContradiction fun h=>hk (.inr h)
   rw [getB (by simpa using hj),getB (by simp;omega)] at he
   simp only [List.getElem_toArray] at he
   rw [he]
   exact mem_comp (j-1) (by omega)
 termination_by j=>j
def okeep (keep:List Int):List Int:=Lib.compact (isortI keep)
theorem okeep_lt (keep:List Int):List.Pairwise (·<·) (okeep keep):=comp_lt (isortI_sorted _)
theorem okeep_mem {keep:List Int} {i:Int}:i∈okeep keep↔i∈keep:=by
 refine ⟨fun h=>(isortI_perm _).mem_iff.1 (compact_mem h),fun h=>?_⟩
 obtain ⟨j,hj,e1⟩:=List.mem_iff_getElem.1 ((isortI_perm _).mem_iff.2 h)
 rw [← e1]
 exact mem_comp j hj
theorem okeep_len (keep:List Int):(okeep keep).length≤keep.length:=by
 refine Nat.le_trans (compact_len _) ?_
 rw [(isortI_perm _).length_eq]
 exact nR _
def inN (n:Nat) (i:Int):Bool:=!(decide (i<0)||decide ((n:Int)≤i))
theorem one_keep {keep:List Int} {n:Nat} (hn:n≤1):(okeep keep).filter (inN n)=if n=1∧(0:Int)∈keep then [0] else []:=by
 have hp:List.Pairwise (·<·) ((okeep keep).filter (inN n)):=(okeep_lt keep).filter _
 have hm:∀ i,i∈(okeep keep).filter (inN n)↔i∈keep∧0≤i∧i<n:=fun i=>by
  rw [List.mem_filter,okeep_mem]
  unfold inN
  simp only [Bool.not_eq_true',Bool.or_eq_false_iff,decide_eq_false_iff_not]
  constructor<;>rintro ⟨h1,h2,h3⟩<;>exact ⟨h1,by omega,by omega⟩
 generalize hl:(okeep keep).filter (inN n)=l at hp hm
 split
 ·rename_i h
  obtain ⟨rfl,h0⟩:=h
  match l,hp,hm with
  | [],_,hm=>exact absurd ((hm 0).2 ⟨h0,by omega,by omega⟩) (by simp)
  | [a],_,hm =>
   have:=(hm a).1 (by simp)
   rw [show a=0 by omega]
  | a::b::r,hp,hm =>
   have h1:=(hm a).1 (by simp)
   have h2:=(hm b).1 (by simp)
   have h3:a<b:=(List.pairwise_cons.1 hp).1 b (by simp)
   omega
 ·rename_i h
  match l,hm with
  | [],_=>rfl
  | a::r,hm =>
   have h1:=(hm a).1 (by simp)
   exact absurd ⟨by omega,by rw [show (0:Int)=a by omega];exact h1.1⟩ h
theorem bad_eq (n:Nat) (r:Int):PE.orM (ltM r 0) (leM (n:Int) r)=!inN n r:=by
 unfold inN PE.orM ltM leM
 rw [Bool.not_not]
theorem del_ok {l:List Int} {n:Nat} (hl:l.length≤100000) :
  Option.bind (Option.bind (loopM (fun (s:Int)=>bif ltM s (lenM l) then (chkM s (lenM l)).bind fun r_2=>(idxM l s).bind fun r=>bif PE.orM (ltM r 0) (leM (n:Int) r) then some (Sum.inr (Sum.inr s)) else some (Sum.inl (IntKind.wrap .i64 (s+1))) else some (Sum.inr (Sum.inl ()))) 0) fun (o:Unit⊕Int)=>Sum.elim (fun (t:Unit)=>some (-1:Int)) (fun (t:Int)=>some t) o) (fun (ov:Int)=>bif eqM ov (-1) then some l else (loopM (fun (s:Int×Int×List Int)=>bif ltM s.2.1 (lenM s.2.2) then ((chkM s.2.1 (lenM s.2.2)).bind fun r_2=>(idxM s.2.2 s.2.1).bind fun r_3=>bif PE.notM (PE.orM (ltM r_3 0) (leM (n:Int) r_3)) then (chkM s.1 (lenM s.2.2)).bind fun r_4=>(setM s.2.2 s.1 fun (x:Int)=>some r_3).bind fun r=>some (IntKind.wrap .i64 (s.1+1),r) else some (s.1,s.2.2)).bind fun o=>some (Sum.inl (o.1,IntKind.wrap .i64 (s.2.1+1),o.2)) else some (Sum.inr (s.1,s.2.2))) (ov,IntKind.wrap .i64 (ov+1),l)).bind fun o_1=>(chkM o_1.1 (lenM o_1.2)).bind fun r_2=>(sliceM (clrM o_1.2 o_1.1 0) 0 o_1.1).bind fun r=>some r)=some (l.filter (inN n)):=by
 obtain ⟨o,h1,h2⟩:=find_loop (xs:=l) (fun r=>!inN n r) (body:=(fun (s:Int)=>bif ltM s (lenM l) then (chkM s (lenM l)).bind fun r_2=>(idxM l s).bind fun r=>bif PE.orM (ltM r 0) (leM (n:Int) r) then some (Sum.inr (Sum.inr s)) else some (Sum.inl (IntKind.wrap .i64 (s+1))) else some (Sum.inr (Sum.inl ())))) (fun k hk=>by
  rw [lenI,ltI (by omega),cT,chkM_of (by omega) (by omega),oB,idxM_lt hk,oB,bad_eq,wrap_in (by omega) (by omega)]
  cases (!inN n l[k])<;>rfl) (by
  rw [lenI,geI (by omega),cF])
 rw [h1,oB]
 rcases h2 with ⟨rfl,h2⟩ | ⟨k,hk,rfl,h2,h3⟩
 ·dsimp only [Sum.elim_inl,oB]
  rw [eqI rfl,cT,List.filter_eq_self.2 fun x hx=>?_]
  obtain ⟨i,hi,rfl⟩:=List.mem_iff_getElem.1 hx
  simpa using h2 i hi
 ·dsimp only [Sum.elim_inr,oB]
  rw [neI (by omega),cF,wrap_in (by omega) (by omega)]
  have hpre:(l.take (k+1)).filter (inN n)=l.take k:=by
   rw [List.take_succ_eq_append_getElem hk,List.filter_append,List.filter_eq_self.2 fun x hx=>?_]
   ·have:inN n l[k]=false:=by simpa using h2
    simp [this]
   ·obtain ⟨i,hi,rfl⟩:=List.mem_iff_getElem.1 hx
    rw [lT] at hi
    rw [List.getElem_take]
    simpa using h3 i (by omega)
  have hlen:∀ m,k+1+m≤l.length→((l.take (k+1+m)).filter (inN n)).length≤k+m:=fun m hm=>by
   rw [List.take_add,List.filter_append,lA,hpre,lT]
   have:=List.length_filter_le (inN n) ((l.drop (k+1)).take m)
   rw [lT] at this
   omega
  obtain ⟨o,e1,xs,rfl,q1,q2,q3⟩:Ans (loopM (fun (s:Int×Int×List Int)=>bif ltM s.2.1 (lenM s.2.2) then ((chkM s.2.1 (lenM s.2.2)).bind fun r_2=>(idxM s.2.2 s.2.1).bind fun r_3=>bif PE.notM (PE.orM (ltM r_3 0) (leM (n:Int) r_3)) then (chkM s.1 (lenM s.2.2)).bind fun r_4=>(setM s.2.2 s.1 fun (x:Int)=>some r_3).bind fun r=>some (IntKind.wrap .i64 (s.1+1),r) else some (s.1,s.2.2)).bind fun o=>some (Sum.inl (o.1,IntKind.wrap .i64 (s.2.1+1),o.2)) else some (Sum.inr (s.1,s.2.2))) ((k:Int),(k:Int)+1,l)) (fun o=>∃ xs,o=(((l.filter (inN n)).length:Int),xs)∧xs.take (l.filter (inN n)).length=l.filter (inN n)∧(l.filter (inN n)).length<l.length∧xs.length=l.length):=by
   refine Ans.loop (fun m st=>∃ xs,st=((((l.take (k+1+m)).filter (inN n)).length:Int),((k+1+m:Nat):Int),xs)∧xs.length=l.length∧xs.take ((l.take (k+1+m)).filter (inN n)).length=(l.take (k+1+m)).filter (inN n)∧xs.drop (k+1+m)=l.drop (k+1+m)∧k+1+m≤l.length) (l.length-(k+1)) ⟨l,?_,rfl,?_,rfl,by omega⟩ ?_
   ·rw [Nat.add_zero,hpre,lT,Nat.min_eq_left (by omega)];rfl
   ·rw [Nat.add_zero,hpre,lT,Nat.min_eq_left (by omega)]
   rintro m st hm ⟨xs,rfl,x1,x2,x3,x4⟩
   have hl2:=hlen m x4
   dsimp only
   rw [lenI,x1]
   by_cases hj:k+1+m<l.length
   ·have hxj:xs[k+1+m]'(by omega)=l[k+1+m]:=by
     have:=congrArg (fun (y:List Int)=>y[0]?) x3
     simp only [List.getElem?_drop,Nat.add_zero] at this
     rw [gE (by omega),gE hj] at this
     exact Option.some.inj this
    rw [ltI (by omega),cT,chkM_of (by omega) (by omega),oB,idxM_lt (by omega),oB,hxj,bad_eq]
    have hft:(l.take (k+1+(m+1))).filter (inN n)=(l.take (k+1+m)).filter (inN n)++[l[k+1+m]].filter (inN n):=by
     rw [show k+1+(m+1)=(k+1+m)+1 by omega,List.take_succ_eq_append_getElem hj,List.filter_append]
    cases hg:inN n l[k+1+m] with
    | true =>
     rw [show PE.notM (!true)=true from rfl,cT,chkM_of (by omega) (by omega),oB,setM_of (y:=l[k+1+m]) (by omega) (by omega) rfl,oB,oB,wrap_in (by omega) (by omega),wrap_in (by omega) (by omega)]
     have hft:(l.take (k+1+(m+1))).filter (inN n)=(l.take (k+1+m)).filter (inN n)++[l[k+1+m]]:=by
      rw [hft];simp [hg]
     refine Ans.some ⟨by omega,xs.set ((l.take (k+1+m)).filter (inN n)).length l[k+1+m],?_,by rw [List.length_set];exact x1,?_,?_,by omega⟩
     ·rw [hft,lA,Int.toNat_natCast]
      refine Prod.ext rfl (Prod.ext ?_ rfl)
      exact show ((k+1+m:Nat):Int)+1=((k+1+(m+1):Nat):Int) by omega
     ·rw [hft,lA,List.length_singleton,List.take_succ_eq_append_getElem (by rw [List.length_set];omega),List.getElem_set_self,List.take_set_of_le (nR _),x2]
     ·rw [List.drop_set_of_lt (by omega),show k+1+(m+1)=(k+1+m)+1 by omega,← List.drop_drop,x3,List.drop_drop]
    | false =>
     rw [show PE.notM (!false)=false from rfl,cF,oB,wrap_in (by omega) (by omega)]
     rw [show [l[k+1+m]].filter (inN n)=[] by simp [hg],List.append_nil] at hft
     refine Ans.some ⟨by omega,xs,?_,x1,by rw [hft];exact x2,?_,by omega⟩
     ·rw [hft]
      refine Prod.ext rfl (Prod.ext ?_ rfl)
      exact show ((k+1+m:Nat):Int)+1=((k+1+(m+1):Nat):Int) by omega
     ·rw [show k+1+(m+1)=(k+1+m)+1 by omega,← List.drop_drop,x3,List.drop_drop]
   ·rw [geI (by omega),cF]
    have he:k+1+m=l.length:=by omega
    rw [he,List.take_length] at x2 hl2 ⊢
    exact Ans.some ⟨xs,rfl,x2,by omega,x1⟩
  rw [e1,oB]
  dsimp only
  have hcl:(clrM xs ((l.filter (inN n)).length:Int) 0).length=l.length:=by
   unfold clrM
   rw [lA,lT,List.length_replicate,Int.toNat_natCast]
   omega
  rw [lenI,chkM_of (by omega) (by omega),oB,sliceM_of (by omega) (by omega) (by omega),oB,Int.toNat_natCast,show (0:Int).toNat=0 from rfl,List.drop_zero]
  unfold clrM
  rw [Int.toNat_natCast,List.take_left' (by rw [lT];omega),q1]
variable [EA]
variable {o:Bool} {L:Int} {du vi:Bs} {pd:List (Int×Bs)}
def torn (t:Int) (s:Bs):Bs:=if 0≤t then s.take (min t s.length).toNat else s
def cr (keep:List Int) (t:Int) (du:Bs):List (Int×Bs)→Bs
 | [(q,s)]=>if (0:Int)∈keep then spl du q.toNat (torn t s) else du
 | _=>du
def PdOk (n:Nat) (pd:List (Int×Bs)):Prop:=pd.length≤1∧∀ q s,(q,s)∈pd→0≤q∧q<n∧q+s.length≤n
theorem torn_len (t:Int) (s:Bs):(torn t s).length≤s.length:=by
 unfold torn
 split
 ·rw [lT];omega
 ·exact nR _
theorem cr_len {keep:List Int} {t:Int} (h:PdOk du.length pd):(cr keep t du pd).length=du.length:=by
 unfold cr
 split
 ·rename_i q s
  obtain ⟨h1,h2,h3⟩:=h.2 q s (by simp)
  have:=torn_len t s
  split
  ·rw [spl_len (by omega)]
  ·rfl
 ·rfl
theorem crash_ok {keep:List Int} {t:Int} (hk:keep.length≤1000) (ht:-9223372036854775808≤t∧t≤9223372036854775807) (h:PdOk du.length pd) (hv:vi.length=du.length) (hn:du.length≤100000) :
  m30 (keep,t,false,dk o L du vi pd)=some (0,false,0,nB (cr keep t du pd),nB (cr keep t du pd),[]):=by
 unfold m30 dk
 dsimp only [nonM,oB]
 have hloop:loopM (fun (s:Int×List Int)=>bif ltM s.1 (lenM keep) then (idxM keep s.1).bind fun r=>(appM (nat_lit 8) s.2 [r]).bind fun r=>some (Sum.inl (IntKind.wrap .i64 (s.1+1),r)) else some (Sum.inr s.2)) (0,[])=some keep:=by
  refine loopM_at (fun k=>((k:Int),keep.take k)) keep.length rfl (fun k hk2=>?_) ?_
  ·dsimp only
   rw [lenI,ltI (by omega),cT,idxM_lt hk2,oB,appM_of (by rw [lT];show (_+1)*8≤_;omega),oB,wrap_in (by omega) (by omega),List.take_succ_eq_append_getElem hk2]
   rfl
  ·dsimp only
   rw [lenI,geI (by omega),cF,List.take_length]
 rw [hloop,oB]
 have e1:sortI keep=some (isortI keep):=by unfold sortI;rw [dT (by omega)]
 have hsl:=(isortI_perm keep).length_eq
 have e2:compI (isortI keep)=some (okeep keep):=by unfold compI;rw [dT (by omega)];rfl
 rw [e1,oB,e2,oB]
 have hol:=okeep_len keep
 have hdel:=del_ok (l:=okeep keep) (n:=pd.length) (by omega)
 rw [one_keep h.1] at hdel
 rw [lenI pd,hdel,oB]
 have hcl:sliceM (zerosL pd ((0:Int),([]:Bs))) 0 0=some []:=clear_ok _ _
 match pd,h with
 | [],h =>
  rw [if_neg (fun x=>absurd x.1 (by simp))]
  refine bind_of (x:=nB du) ?_ ?_
  ·refine loopM_at (fun k=>((k:Int),nB du)) 0 rfl (fun k hk2=>absurd hk2 (by omega)) ?_
   try dsimp only
   rw [lenI,geI (by simp),cF]
  ·try dsimp only
   rw [clear_ok,oB,copy_eq hv]
   rfl
 | [(q,s)],h =>
  obtain ⟨h1,h2,h3⟩:=h.2 q s (by simp)
  have htl:=torn_len t s
  by_cases h0:(0:Int)∈keep
  ·rw [if_pos ⟨rfl,h0⟩]
   have hcr:cr keep t du [(q,s)]=spl du q.toNat (torn t s):=by show (if _ then _ else _)=_;rw [if_pos h0]
   refine bind_of (x:=nB (cr keep t du [(q,s)])) ?_ ?_
   ·refine loopM_at (fun k=>((k:Int),nB (if k=0 then du else cr keep t du [(q,s)]))) 1 rfl (fun k hk2=>?_) ?_
    ·obtain rfl:k=0:=by omega
     try dsimp only
     have hidx:idxM [(0:Int)] ((0:Nat):Int)=some 0:=rfl
     have hidx2:idxM [((q,s):Int×Bs)] 0=some (q,s):=rfl
     rw [if_pos rfl,lenI,ltI (by simp),cT,chkM_of (by simp) (by simp),oB,hidx,oB,chkM_of (by simp) (by simp [lenI]),oB,hidx2,oB]
     have hcond:eqM (((0:Nat):Int)) (IntKind.wrap .i64 (([(0:Int)].length:Int)-1))=true:=eqI rfl
     rw [hcond,andT]
     have hs':(bif leM 0 t then (sliceM s 0 (min t (lenM s))).bind fun r=>some (q,r) else some (q,s))=some (q,torn t s):=by
      unfold torn
      by_cases ht0:0≤t
      ·rw [leI ht0,cT,lenI,sliceM_of (by omega) (by omega) (by omega),oB,if_pos ht0]
       rfl
      ·rw [gtI (by omega),cF,if_neg ht0]
     rw [hs',oB]
     try dsimp only
     have hput:=put_ok (b:=du) (s:=torn t s) (p:=q.toNat) (by omega)
     rw [show ((q.toNat:Nat):Int)=q by omega] at hput
     rw [chkM_of h1 (by rw [lenN];omega),oB,hput,oB,hcr,wrap_in (by decide) (by decide)]
     rfl
    ·try dsimp only
     rw [if_neg (by decide),lenI,geI (by simp),cF]
   ·try dsimp only
    rw [clear_ok,oB,copy_eq (by rw [cr_len h,hv])]
  ·rw [if_neg (fun x=>h0 x.2)]
   have hcr:cr keep t du [(q,s)]=du:=by show (if _ then _ else _)=_;rw [if_neg h0]
   refine bind_of (x:=nB du) ?_ ?_
   ·refine loopM_at (fun k=>((k:Int),nB du)) 0 rfl (fun k hk2=>absurd hk2 (by omega)) ?_
    try dsimp only
    rw [lenI,geI (by simp),cF]
   ·try dsimp only
    rw [clear_ok,oB,copy_eq hv,hcr]
 | _::_::_,h=>exact absurd h.1 (by simp)
theorem pick_ok {c:Int} {n:Nat} (hc:IntKind.i64.has c) (hn:0<n):∃ k:Nat,k<n∧m14 (c,(n:Int))=some (k:Int):=by
 have h1:=pk_lo (c:=c) (n:=(n:Int)) (by omega)
 have h2:=pk_hi (c:=c) (n:=(n:Int)) (by omega)
 exact ⟨(pk c n).toNat,by omega,(pk_text (n:=(n:Int)) hc (by omega)).trans (congrArg some (show pk c (n:Int)=_ by omega))⟩
theorem siz_ok {c:Int} (hc:IntKind.i64.has c):∃ n:Nat,1≤n∧n≤1500∧m15 c=some (n:Int):=by
 obtain ⟨k,h1,h2⟩:=pick_ok (n:=1500) hc (by omega)
 refine ⟨1+k,by omega,by omega,?_⟩
 unfold m15
 rw [show (1500:Int)=((1500:Nat):Int) from rfl,h2,oB,wrap_in (by omega) (by omega)]
 exact congrArg some (by omega)
def fw (l:List Bs):List Bs:=(l.take 6).map fun s=>s.take 100
theorem fw_ok (l:List Bs):OkL (fw l)∧(fw l).length≤6:=by
 unfold fw
 refine ⟨fun r hr=>?_,by rw [List.length_map,lT];omega⟩
 obtain ⟨s,_,rfl⟩:=List.mem_map.1 hr
 rw [lT]
 omega
theorem few_ok {l:List Bs} (hl:l.length≤9223372036854775807) (hs:∀ s∈l,s.length≤9223372036854775807):m11 l=some (fw l):=by
 unfold m11 fw
 refine bind_of (x:=(l.take 6).map fun s=>s.take 100) ?_ rfl
 refine loopM_at (fun k=>((k:Int),(l.take k).map fun s=>s.take 100)) (min l.length 6) rfl (fun k hk=>?_) ?_
 ·have hkl:k<l.length:=by omega
  have:=hs _ (List.getElem_mem hkl)
  dsimp only
  rw [lenI,ltI (by omega),andT,ltI (by omega),cT,idxM_lt hkl,oB,oB,lenI,sliceM_of (by omega) (by omega) (by omega),oB,appM_of (by rw [List.length_map,lT];show (_+1)*16≤_;omega),oB,wrap_in (by omega) (by omega),List.take_succ_eq_append_getElem hkl,List.map_append]
  have:(l[k].take (min (l[k].length:Int) 100).toNat).drop (0:Int).toNat=l[k].take 100:=by
   rw [show (0:Int).toNat=0 from rfl,List.drop_zero]
   by_cases h:l[k].length≤100
   ·rw [tkL (by omega),tkL h]
   ·congr 1;omega
  rw [this]
  rfl
 ·have hz:(l.take (min l.length 6))=l.take 6:=by
   by_cases h:l.length≤6
   ·rw [Nat.min_eq_left h,List.take_length,tkL h]
   ·rw [Nat.min_eq_right (by omega)]
  dsimp only
  rw [hz]
  by_cases h:l.length<6
  ·rw [lenI,geI (by omega),andF,cF]
  ·by_cases h2:ltM ((min l.length 6:Nat):Int) (lenM l)=true
   ·rw [h2,andT,geI (by omega),cF]
   ·rw [Bool.eq_false_iff.2 h2,andF,cF]
theorem same_ok {a b:List Bs} (ha:a.length≤1000000):m18 (a,b)=some (decide (a=b)):=by
 unfold m18
 dsimp only
 rw [lenI,lenI]
 by_cases hl:a.length=b.length
 ·rw [eqI (by omega),notT,cF]
  have key:Ans (loopM (fun (s:Int)=>bif ltM s (lenM a) then (idxM a s).bind fun r=>(idxM b s).bind fun r_1=>bif PE.notM (eqsM r r_1) then some (Sum.inr (Sum.inr false)) else some (Sum.inl (IntKind.wrap .i64 (s+1))) else some (Sum.inr (Sum.inl ()))) 0) (fun (o:Unit⊕Bool)=>(o=.inl ()∧a=b)∨(o=.inr false∧a≠b)):=by
   refine Ans.loop (fun k s=>s=(k:Int)∧k≤a.length∧∀ i,i<k→a[i]? = b[i]?) a.length ⟨rfl,by omega,fun i hi=>by omega⟩ ?_
   rintro k s hk ⟨rfl,h2,h3⟩
   rw [lenI]
   by_cases hkl:k<a.length
   ·rw [ltI (by omega),cT,idxM_lt hkl,oB,idxM_lt (by omega),oB]
    by_cases e:a[k]=b[k]'(by omega)
    ·rw [eqsT e,notT,cF,wrap_in (by omega) (by omega)]
     refine Ans.some ⟨by omega,rfl,by omega,fun i hi=>?_⟩
     by_cases f:i=k
     ·subst f;rw [gE hkl,gE (by omega),e]
     ·exact h3 i (by omega)
    ·rw [eqsF e,notF,cT]
     refine Ans.some (.inr ⟨rfl,fun h=>e ?_⟩)
     subst h;rfl
   ·rw [geI (by omega),cF]
    refine Ans.some (.inl ⟨rfl,List.ext_getElem? fun i=>?_⟩)
    by_cases f:i<a.length
    ·exact h3 i (by omega)
    ·rw [List.getElem?_eq_none (by omega),List.getElem?_eq_none (by omega)]
  obtain ⟨o,h1,h2⟩:=key
  rw [h1,oB]
  rcases h2 with ⟨rfl,h2⟩ | ⟨rfl,h2⟩
  ·rw [dT h2];rfl
  ·rw [dF h2];rfl
 ·rw [neI (by omega),notF,cT,dF (fun e=>hl (by rw [e]))]
variable [EA]
def ct (n:Nat) (l:List Bs):Bs:=enc h0 l++List.replicate (n-(enc h0 l).length) 0
theorem ct_len {n:Nat} {l:List Bs} (h:(enc h0 l).length≤n):(ct n l).length=n:=by
 unfold ct
 rw [lA,List.length_replicate];omega
def Semi (n:Nat) (l:List Bs) (c:Bs):Prop:=OkL l∧c.length=n∧∃ z,Stop z∧c=enc h0 l++z
theorem Semi.fits {n:Nat} {l:List Bs} {c:Bs} (h:Semi n l c):(enc h0 l).length≤n:=by
 obtain ⟨_,h1,z,_,rfl⟩:=h
 rw [lA] at h1;omega
theorem semi_ct {n:Nat} {l:List Bs} (hl:OkL l) (h:(enc h0 l).length≤n):Semi n l (ct n l):=⟨hl,ct_len h,_,stop_zeros _,rfl⟩
theorem open_semi {n:Nat} {l:List Bs} {c:Bs} (h:Semi n l c) (h0n:0<n) (hn:n≤100000):m25 (false,dk false 0 c c [])=some (0,false,0,nB (ct n l),nB (ct n l),false,hd h0 l,((enc h0 l).length:Int),false,l,[]):=by
 obtain ⟨hl,hc,z,hz,rfl⟩:=h
 have hzl:n-(enc h0 l).length=z.length:=by rw [lA] at hc;omega
 obtain ⟨l',z',hr,hm⟩:=open_ok (L:=0) (du:=enc h0 l++z) (vi:=enc h0 l++z) (pd:=[]) (by omega) rfl (by omega) (by simp) (by omega)
 obtain ⟨rfl,rfl⟩:=Rd.uniq (⟨hl,rfl,.inl hz⟩:Rd h0 (enc h0 l++z) l z) hr
 have hu:(usd 0)=(false,0):=rfl
 rcases hm with ⟨hb,_⟩ | ⟨_,hzs,hm⟩ | ⟨_,_,hu2,_⟩ | ⟨_,_,_,hm⟩
 ·exact (hz.bad hb).elim
 ·rw [hm]
  unfold ct
  rw [hzl,← hzs]
 ·rw [hu] at hu2;cases hu2
 ·rw [hm,hu]
  unfold ct
  rw [hzl]
theorem open_ct {n:Nat} {l:List Bs} {L:Int} (hl:OkL l) (hf:(enc h0 l).length≤n) (h0n:0<n) (hn:n≤100000) (hL:0≤L∧L≤1000):m25 (false,dk false L (ct n l) (ct n l) [])=some (0,false,L,nB (ct n l),nB (ct n l),false,hd h0 l,((enc h0 l).length:Int),false,l,[]):=by
 have hc:=ct_len hf
 obtain ⟨l',z',hr,hm⟩:=open_ok (L:=L) (du:=ct n l) (vi:=ct n l) (pd:=[]) (by omega) rfl (by omega) (by simp) hL
 have hst:=stop_zeros (n-(enc h0 l).length)
 obtain ⟨rfl,rfl⟩:=Rd.uniq (⟨hl,rfl,.inl hst⟩:Rd h0 (ct n l) l _) hr
 have hzs:Zs (List.replicate (n-(enc h0 l).length) (0:UInt8)):=by unfold Zs;rw [List.length_replicate]
 rcases hm with ⟨hb,_⟩ | ⟨_,_,hm⟩ | ⟨_,hz,_⟩ | ⟨_,hz,_⟩
 ·exact (hst.bad hb).elim
 ·exact hm
 ·exact absurd hzs hz
 ·exact absurd hzs hz
theorem spl_mid {a m z s:Bs} (h:s.length=m.length):spl (a++(m++z)) a.length s=a++(s++z):=by
 have e:(a++(m++z)).drop (a.length+m.length)=z:=by rw [← aA,← lA,List.drop_left' rfl]
 unfold spl
 rw [List.take_left' rfl,h,e]
theorem spl_nil (b:Bs) (p:Nat):spl b p []=b:=by
 unfold spl
 simp
theorem zeros_split {m k:Nat} (h:k≤m):(List.replicate m 0:Bs)=List.replicate k 0++List.replicate (m-k) 0:=by
 rw [List.replicate_append_replicate];congr 1;omega
section
variable {n:Nat} {r l:List Bs} {t:Bs}
theorem first_write (ht:enc (hd h0 r) l=1::t) (hf:(enc h0 r).length+(1::t:Bs).length≤n) {s:Bs} (hs:s.length≤t.length) :
  spl (ct n r) ((enc h0 r).length+1) s=enc h0 r++(0::(s++List.replicate (n-(enc h0 r).length-1-s.length) 0)):=by
 rw [List.length_cons] at hf
 unfold ct
 have e:(List.replicate (n-(enc h0 r).length) 0:Bs)=[0]++(List.replicate s.length 0++List.replicate (n-(enc h0 r).length-1-s.length) 0):=by
  rw [zeros_split (m:=n-(enc h0 r).length) (k:=1) (by omega),zeros_split (m:=n-(enc h0 r).length-1) (k:=s.length) (by omega)]
  rfl
 rw [e,← aA,show (enc h0 r).length+1=(enc h0 r++[0]).length by simp,spl_mid (by simp),aA]
 rfl
theorem second_write (ht:enc (hd h0 r) l=1::t) (hf:(enc h0 r).length+(1::t:Bs).length≤n) :
  spl (spl (ct n r) ((enc h0 r).length+1) t) (enc h0 r).length [1]=ct n (r++l):=by
 rw [first_write ht hf (nR _)]
 have:=spl_mid (a:=enc h0 r) (m:=[0]) (z:=t++List.replicate (n-(enc h0 r).length-1-t.length) 0) (s:=[1]) rfl
 rw [show (0::(t++List.replicate (n-(enc h0 r).length-1-t.length) 0):Bs)=[0]++(t++List.replicate (n-(enc h0 r).length-1-t.length) 0) from rfl,this]
 unfold ct
 rw [enc_app,ht,lA,List.length_cons,aA,show n-((enc h0 r).length+(t.length+1))=n-(enc h0 r).length-1-t.length by omega]
 rfl
theorem semi_first (hr:OkL r) (ht:enc (hd h0 r) l=1::t) (hf:(enc h0 r).length+(1::t:Bs).length≤n) {s:Bs} (hs:s.length≤t.length):Semi n r (spl (ct n r) ((enc h0 r).length+1) s):=by
 refine ⟨hr,?_,_,stop_cons _,first_write ht hf hs⟩
 rw [List.length_cons] at hf
 rw [spl_len (by rw [ct_len (by omega)];omega),ct_len (by omega)]
end
structure Aft (n:Nat) (was want:List Bs) (du vi:Bs) (pd:List (Int×Bs)):Prop where
 hpd:PdOk n pd
 hdu:du.length=n
 hvi:vi.length=n
 hcr:∀ keep t,Semi n was (cr keep t du pd)∨Semi n want (cr keep t du pd)
theorem aft_ct {n:Nat} {r:List Bs} (hr:OkL r) (hf:(enc h0 r).length≤n):Aft n r r (ct n r) (ct n r) [] :=
 ⟨⟨by simp,fun _ _ h=>by cases h⟩,ct_len hf,ct_len hf,fun keep t=>.inl (semi_ct hr hf)⟩
theorem app_clean {n:Nat} {r l:List Bs} {L:Int} (hr:OkL r) (hf:(enc h0 r).length≤n) (hn:n≤100000) (hl:OkL l) (hll:l.length≤1000) (hL:0≤L∧L≤1000) :
  (n<(enc h0 (r++l)).length∧m10 (l,false,hd h0 r,((enc h0 r).length:Int),false,r,false,dk false L (ct n r) (ct n r) [])=some (371,false,hd h0 r,((enc h0 r).length:Int),false,false,L,nB (ct n r),nB (ct n r),r,[])) ∨
  ((enc h0 (r++l)).length≤n∧∃ L',0≤L'∧L'≤1000∧(L=0→L'=0)∧m10 (l,false,hd h0 r,((enc h0 r).length:Int),false,r,false,dk false L (ct n r) (ct n r) [])=some (0,false,hd h0 (r++l),((enc h0 (r++l)).length:Int),false,false,L',nB (ct n (r++l)),nB (ct n (r++l)),r++l,[])) ∨
  (L≠0∧∃ L' du vi pd,0≤L'∧L'≤1000∧Aft n r (r++l) du vi pd∧m10 (l,false,hd h0 r,((enc h0 r).length:Int),false,r,false,dk false L (ct n r) (ct n r) [])=some (361,false,hd h0 r,((enc h0 r).length:Int),true,true,L',nB du,nB vi,r,pd)):=by
 have hle:=enc_le (h:=h0) r
 have hea:(enc h0 (r++l)).length=(enc h0 r).length+(enc (hd h0 r) l).length:=by rw [enc_app,lA]
 have hcl:=ct_len hf
 rw [app_ok (o:=false) (L:=L) (du:=ct n r) (vi:=ct n r) (pd:=[]) (hh:=hd h0 r) (p:=(enc h0 r).length) (recs:=r) (l:=l) (hd_len h0_len r) hl hll (by omega) (by omega) rfl (by omega) (by simp) hL,hcl]
 by_cases h1:n<(enc h0 r).length+(enc (hd h0 r) l).length
 ·exact .inl ⟨by omega,by rw [if_pos h1]⟩
 rw [if_neg h1]
 by_cases h2:l=[]
 ·subst h2
  refine .inr (.inl ⟨by omega,L,hL.1,hL.2,fun h=>h,?_⟩)
  rw [if_pos rfl,List.append_nil]
 rw [if_neg h2]
 obtain ⟨t,ht⟩:=enc_head (h:=hd h0 r) h2
 rw [ht] at h1 hea ⊢
 have hfit:(enc h0 r).length+(1::t:Bs).length≤n:=by omega
 have hrl:OkL (r++l):=hr.app hl
 have htl:(1::t:Bs).tail=t:=rfl
 have hlc:(1::t:Bs).length=t.length+1:=rfl
 have h21:=usd_in hL
 have hL0:(usd L).1=true→L≠0:=fun h e=>by subst e;cases h
 cases hu:(usd L).1 with
 | true =>
  have ha:apd false L (ct n r) (ct n r) [] (enc h0 r).length (1::t)=(361,true,(usd L).2,ct n r,spl (ct n r) ((enc h0 r).length+1) t,[((((enc h0 r).length+1:Nat):Int),t)]):=by
   unfold apd
   rw [if_neg (by decide),if_pos hu];rfl
  refine .inr (.inr ⟨hL0 hu,(usd L).2,ct n r,spl (ct n r) ((enc h0 r).length+1) t,[((((enc h0 r).length+1:Nat):Int),t)],h21.1,h21.2,⟨⟨by simp,fun q s h=>?_⟩,hcl,?_,fun keep x=>?_⟩,?_⟩)
  ·simp only [List.mem_singleton,Prod.mk.injEq] at h
   obtain ⟨rfl,rfl⟩:=h
   have h33:1≤s.length:=by
    cases l with
    | nil=>exact absurd rfl h2
    | cons a l =>
     have:=congrArg List.length ht
     rw [List.length_cons,show enc (hd h0 r) (a::l)=sto (hd h0 r) a++enc (chain (hd h0 r) a) l from rfl,lA,sto_len] at this
     omega
   omega
  ·rw [spl_len (by rw [hcl];omega),hcl]
  ·unfold cr
   dsimp only
   split
   ·rw [Int.toNat_natCast]
    exact .inl (semi_first hr ht hfit (torn_len _ _))
   ·exact .inl (semi_ct hr hf)
  ·rw [ha,if_neg (show ¬ ((361:Int)=0) by decide)]
 | false =>
  have hv1:(spl (ct n r) ((enc h0 r).length+1) t).length=n:=by rw [spl_len (by rw [hcl];omega),hcl]
  cases hu2:(usd (usd L).2).1 with
  | true =>
   have ha:apd false L (ct n r) (ct n r) [] (enc h0 r).length (1::t)=(361,true,(usd (usd L).2).2,spl (ct n r) ((enc h0 r).length+1) t,spl (spl (ct n r) ((enc h0 r).length+1) t) (enc h0 r).length [1],[(((enc h0 r).length:Int),[1])]):=by
    unfold apd
    rw [if_neg (by decide),hu,if_neg (by decide),if_pos hu2];rfl
   have h22:=usd_in h21
   refine .inr (.inr ⟨(fun e=>by subst e;cases hu2),(usd (usd L).2).2,spl (ct n r) ((enc h0 r).length+1) t,spl (spl (ct n r) ((enc h0 r).length+1) t) (enc h0 r).length [1],[(((enc h0 r).length:Int),[1])],h22.1,h22.2,⟨⟨by simp,fun q s h=>?_⟩,hv1,?_,fun keep x=>?_⟩,?_⟩)
   ·simp only [List.mem_singleton,Prod.mk.injEq] at h
    obtain ⟨rfl,rfl⟩:=h
    rw [show ([1]:Bs).length=1 from rfl]
    omega
   ·rw [second_write ht hfit,ct_len (by omega)]
   ·unfold cr
    dsimp only
    split
    ·rw [Int.toNat_natCast]
     have:torn x [1]=[]∨torn x [1]=[1]:=by
      have h3:=torn_len x [1]
      unfold torn at h3 ⊢
      split
      ·rcases Nat.eq_zero_or_pos (min x (([1]:Bs).length:Int)).toNat with e | e
       ·rw [e];exact .inl rfl
       ·rw [tkL (show ([1]:Bs).length≤_ from e)];exact .inr rfl
      ·exact .inr rfl
     rcases this with e | e
     ·rw [e,spl_nil]
      exact .inl (semi_first hr ht hfit (nR _))
     ·rw [e,second_write ht hfit]
      exact .inr (semi_ct hrl (by omega))
    ·exact .inl (semi_first hr ht hfit (nR _))
   ·rw [ha,if_neg (show ¬ ((361:Int)=0) by decide)]
  | false =>
   have ha:apd false L (ct n r) (ct n r) [] (enc h0 r).length (1::t)=(0,false,(usd (usd L).2).2,spl (spl (ct n r) ((enc h0 r).length+1) t) (enc h0 r).length [1],spl (spl (ct n r) ((enc h0 r).length+1) t) (enc h0 r).length [1],[]):=by
    unfold apd
    rw [if_neg (by decide),hu,if_neg (by decide),hu2,if_neg (by decide)];rfl
   have h22:=usd_in h21
   refine .inr (.inl ⟨by omega,(usd (usd L).2).2,h22.1,h22.2,(fun e=>by subst e;rfl),?_⟩)
   rw [ha,if_pos rfl,second_write ht hfit,hea,hd_app]
variable [EA]
section
variable {o:Bool} {L:Int} {du vi:Bs} {pd:List (Int×Bs)} {hh:Bs} {p n:Nat} {br:Bool} {recs r l:List Bs}
theorem new_u {n:Nat} (h1:1≤n) (h2:n≤10000):m24 (n:Int)=some (0,false,false,0,nB (ct n []),nB (ct n []),[]):=(new_ok (n:=(n:Int)) (by omega) (by omega)).trans (by rw [Int.toNat_natCast];rfl)
theorem open_u (hl:OkL l) (hf:(enc h0 l).length≤n) (h0n:0<n) (hn:n≤100000) (hL:0≤L∧L≤1000):m25 (false,false,L,nB (ct n l),nB (ct n l),[])=some (0,false,L,nB (ct n l),nB (ct n l),false,hd h0 l,((enc h0 l).length:Int),false,l,[]):=open_ct hl hf h0n hn hL
theorem opens_u {c:Bs} (h:Semi n l c) (h0n:0<n) (hn:n≤100000):m25 (false,false,0,nB c,nB c,[])=some (0,false,0,nB (ct n l),nB (ct n l),false,hd h0 l,((enc h0 l).length:Int),false,l,[]):=open_semi h h0n hn
theorem recs_u {x:Int} (h:recs.length≤1000000):m19 (false,hh,x,br,recs,false,o,L,nB du,nB vi,pd)=some recs:=recs_ok h
theorem room_u (hp:p≤du.length) (hn:du.length≤100000):m20 (false,hh,(p:Int),br,recs,false,o,L,nB du,nB vi,pd)=some (((du.length-p:Nat):Int),o,L,nB du,nB vi,pd):=room_ok hp hn
theorem cut_u {c:Int} (h:0≤c):m29 (c,false,false,L,nB du,nB vi,pd)=some (0,decide (c=0),c):=cut_ok h
theorem cutoff_u {c:Int}:m29 (c,false,true,L,nB du,nB vi,pd)=some (361,true,L):=cut_off
theorem broken_u:m10 (l,false,hh,(p:Int),true,recs,false,o,L,nB du,nB vi,pd)=some (370,false,hh,(p:Int),true,o,L,nB du,nB vi,recs,pd):=app_broken
theorem app_u (hr:OkL r) (hf:(enc h0 r).length≤n) (hn:n≤100000) (hl:OkL l) (hll:l.length≤1000) (hL:0≤L∧L≤1000) :
  (n<(enc h0 (r++l)).length∧m10 (l,false,hd h0 r,((enc h0 r).length:Int),false,r,false,false,L,nB (ct n r),nB (ct n r),[])=some (371,false,hd h0 r,((enc h0 r).length:Int),false,false,L,nB (ct n r),nB (ct n r),r,[])) ∨
  ((enc h0 (r++l)).length≤n∧∃ L',0≤L'∧L'≤1000∧(L=0→L'=0)∧m10 (l,false,hd h0 r,((enc h0 r).length:Int),false,r,false,false,L,nB (ct n r),nB (ct n r),[])=some (0,false,hd h0 (r++l),((enc h0 (r++l)).length:Int),false,false,L',nB (ct n (r++l)),nB (ct n (r++l)),r++l,[])) ∨
  (L≠0∧∃ L' du vi pd,0≤L'∧L'≤1000∧Aft n r (r++l) du vi pd∧m10 (l,false,hd h0 r,((enc h0 r).length:Int),false,r,false,false,L,nB (ct n r),nB (ct n r),[])=some (361,false,hd h0 r,((enc h0 r).length:Int),true,true,L',nB du,nB vi,r,pd)):=app_clean hr hf hn hl hll hL
theorem fit_u (hr:OkL r) (hf:(enc h0 (r++l)).length≤n) (hn:n≤100000) (hl:OkL l) (hll:l.length≤1000):m10 (l,false,hd h0 r,((enc h0 r).length:Int),false,r,false,false,0,nB (ct n r),nB (ct n r),[])=some (0,false,hd h0 (r++l),((enc h0 (r++l)).length:Int),false,false,0,nB (ct n (r++l)),nB (ct n (r++l)),r++l,[]):=by
 have hf0:(enc h0 r).length≤n:=by rw [enc_app,lA] at hf;omega
 rcases app_u (n:=n) (L:=0) hr hf0 hn hl hll (by omega) with ⟨h,_⟩ | ⟨_,L',_,_,h,e⟩ | ⟨h,_⟩
 ·omega
 ·rw [e,h rfl]
 ·exact absurd rfl h
theorem full_u (hr:OkL r) (hf:(enc h0 r).length≤n) (hf2:n<(enc h0 (r++l)).length) (hn:n≤100000) (hl:OkL l) (hll:l.length≤1000):m10 (l,false,hd h0 r,((enc h0 r).length:Int),false,r,false,false,0,nB (ct n r),nB (ct n r),[])=some (371,false,hd h0 r,((enc h0 r).length:Int),false,false,0,nB (ct n r),nB (ct n r),r,[]):=by
 rcases app_u (n:=n) (L:=0) hr hf hn hl hll (by omega) with ⟨_,e⟩ | ⟨h,_⟩ | ⟨h,_⟩
 ·exact e
 ·omega
 ·exact absurd rfl h
end
theorem enc_sum:∀ (h:Bs) (l:List Bs),(enc h l).length=(l.map fun r=>(pS r).length+33).sum
 | _,[]=>rfl
 | h,r::l=>by
  show (sto h r++enc (chain h r) l).length=((pS r).length+33)+(l.map fun r=>(pS r).length+33).sum
  rw [lA,sto_len,enc_sum]
theorem pS_short {r:Bs} (h:r.length<64):(pS r).length=r.length+1:=by
 unfold pS pI zz
 rw [if_neg (by omega),lA,grp_lt (by omega)]
 simp;omega
theorem pS_mid {r:Bs} (h:64≤r.length) (h2:r.length<8192):(pS r).length=r.length+2:=by
 unfold pS pI zz
 rw [if_neg (by omega),lA,grp_ge (by omega),grp_lt (by omega)]
 simp;omega
theorem bad_two {z:Bs}:Bad h0 (2::z):=bad_byte (by decide) (by decide)
theorem open_two {L:Int} {du z:Bs} {pd:List (Int×Bs)} (h0n:0<du.length) (hv:(2::z:Bs).length=du.length) (hn:du.length≤100000) (hp:pd.length≤1000) (hL:0≤L∧L≤1000):m25 (false,false,L,nB du,nB (2::z),pd)=some (372,false,L,nB du,nB (2::z),true,[],0,false,[],pd):=by
 obtain ⟨l',z',hr,hm⟩:=open_ok h0n hv hn hp hL
 obtain ⟨rfl,rfl⟩:=Rd.uniq (⟨fun r h=>by simp at h,rfl,.inr bad_two⟩:Rd h0 (2::z) [] (2::z)) hr
 rcases hm with ⟨_,hm⟩ | ⟨hs,_⟩ | ⟨hs,_⟩ | ⟨hs,_⟩
 ·exact hm
 ·exact (hs.bad bad_two).elim
 ·exact (hs.bad bad_two).elim
 ·exact (hs.bad bad_two).elim
def zr (n:Nat):Bs:=List.replicate n 0
theorem sane_ok:m8 ()=some true:=by
 have ok1:OkL [([97,98]:Bs),[]]:=fun r h=>by simp at h;rcases h with rfl | rfl<;>decide
 have ok2:OkL [zr 95]:=fun r h=>by simp at h;subst h;rw [zr,List.length_replicate];omega
 have ok3:OkL [zr 96]:=fun r h=>by simp at h;subst h;rw [zr,List.length_replicate];omega
 have ok0:OkL ([]:List Bs):=fun r h=>by simp at h
 have p1:(enc h0 ([]++[([97,98]:Bs),[]])).length=70:=by
  rw [enc_sum,List.nil_append]
  simp only [List.map_cons,List.map_nil,List.sum_cons,List.sum_nil]
  rw [pS_short (by decide),pS_short (by decide)];rfl
 have p2:(enc h0 (([]++[([97,98]:Bs),[]])++[zr 95])).length=200:=by
  rw [enc_sum,List.nil_append]
  simp only [List.cons_append,List.nil_append,List.map_cons,List.map_nil,List.sum_cons,List.sum_nil]
  rw [pS_short (by decide),pS_short (by decide),pS_mid (by rw [zr,List.length_replicate];omega) (by rw [zr,List.length_replicate];omega),zr,List.length_replicate];rfl
 have p3:(enc h0 (([]++[([97,98]:Bs),[]])++[zr 96])).length=201:=by
  rw [enc_sum,List.nil_append]
  simp only [List.cons_append,List.nil_append,List.map_cons,List.map_nil,List.sum_cons,List.sum_nil]
  rw [pS_short (by decide),pS_short (by decide),pS_mid (by rw [zr,List.length_replicate];omega) (by rw [zr,List.length_replicate];omega),zr,List.length_replicate];rfl
 have z96:strB (List.replicate (96:Int).toNat 0)=zr 96:=strB_zero 96
 have z95:strB (List.replicate (95:Int).toNat 0)=zr 95:=strB_zero 95
 have hc1:(ct 200 ([]:List Bs)).length=200:=ct_len (by simp [enc])
 have hc2:(ct 200 ([]++[([97,98]:Bs),[]])).length=200:=ct_len (by omega)
 have hc3:(ct 200 (([]++[([97,98]:Bs),[]])++[zr 95])).length=200:=ct_len (by omega)
 have e0:(enc h0 ([]:List Bs)).length=0:=rfl
 have ok12:OkL (([]++[([97,98]:Bs),[]])++[zr 95]):=(ok0.app ok1).app ok2
 unfold m8
 rw [show (200:Int)=((200:Nat):Int) from rfl,new_u (by decide) (by decide),oB]
 dsimp only
 rw [open_u ok0 (by rw [e0];omega) (by omega) (by omega) (by omega),oB]
 dsimp only
 rw [notF,cT,eqI rfl,notT,orF,notF,cT,recs_u (by simp),oB,show eqM (lenM ([]:List Bs)) 0=true from rfl,notT,orF,notF,cT,room_u (by rw [e0];omega) (by rw [hc1];omega),oB,hc1,e0]
 dsimp only
 rw [show PE.orM false (PE.notM (eqM ((200-0:Nat):Int) ((200:Nat):Int)))=false from rfl,cF]
 have a1:=fit_u (n:=200) (r:=[]) (l:=[([97,98]:Bs),[]]) ok0 (by omega) (by omega) ok1 (by decide)
 rw [e0] at a1
 rw [a1,oB,mkM_of (by omega) (by omega) (by decide),oB,z96]
 dsimp only
 rw [full_u (n:=200) (r:=[]++[([97,98]:Bs),[]]) (l:=[zr 96]) (ok0.app ok1) (by omega) (by omega) (by omega) ok3 (by decide),oB]
 dsimp only
 rw [room_u (by rw [hc2];omega) (by rw [hc2];omega),oB,mkM_of (by omega) (by omega) (by decide),oB,z95,hc2]
 dsimp only
 rw [fit_u (n:=200) (r:=[]++[([97,98]:Bs),[]]) (l:=[zr 95]) (ok0.app ok1) (by omega) (by omega) ok2 (by decide),oB]
 dsimp only
 rw [open_u ok12 (by omega) (by omega) (by omega) (by omega),oB]
 dsimp only
 rw [cF]
 have w:=write_ok (L:=0) (du:=ct 200 (([]++[([97,98]:Bs),[]])++[zr 95])) (vi:=ct 200 (([]++[([97,98]:Bs),[]])++[zr 95])) (pd:=[]) (s:=[2]) (p:=0) (by omega) (by rw [hc3];decide) rfl (by omega) (by simp) (by omega)
 have hsp:spl (ct 200 (([]++[([97,98]:Bs),[]])++[zr 95])) 0 [2]=2::(ct 200 (([]++[([97,98]:Bs),[]])++[zr 95])).drop 1:=rfl
 rw [show m13 (0,[(2:UInt8)],false,false,0,nB (ct 200 (([]++[([97,98]:Bs),[]])++[zr 95])),nB (ct 200 (([]++[([97,98]:Bs),[]])++[zr 95])),[])=_ from w,hsp,oB]
 dsimp only
 rw [show (usd 0)=(false,0) from rfl]
 dsimp only
 rw [open_two (by omega) (by rw [List.length_cons,List.length_drop];omega) (by omega) (by simp) (by omega),oB]
 dsimp only
 rw [eqI rfl,cT,eqI rfl,andT,cT,p1,show eqM ((200-70:Nat):Int) 130=true from rfl,andT,cT,cT,room_u (by omega) (by omega),oB,hc3,p2]
 dsimp only
 rw [show eqM ((200-200:Nat):Int) 0=true from rfl,andT,cT,eqI rfl,cT,recs_u (by simp),oB,show PE.andM true (eqM (lenM (([]++[([97,98]:Bs),[]])++[zr 95])) 3)=true from rfl,cT]
 rfl
variable [EA]
theorem crash_u {o:Bool} {L:Int} {du vi:Bs} {pd:List (Int×Bs)} {keep:List Int} {t:Int} (hk:keep.length≤1000) (ht:-9223372036854775808≤t∧t≤9223372036854775807) (h:PdOk du.length pd) (hv:vi.length=du.length) (hn:du.length≤100000) :
  m30 (keep,t,false,o,L,nB du,nB vi,pd)=some (0,false,0,nB (cr keep t du pd),nB (cr keep t du pd),[]):=crash_ok hk ht h hv hn
theorem keep_ok {keep:List Int} (h:keep.length≤9223372036854775807):sliceM keep 0 (min (lenM keep) 20)=some (keep.take 20)∧(keep.take 20).length≤1000:=by
 refine ⟨?_,by rw [lT];omega⟩
 rw [lenI,sliceM_of (by omega) (by omega) (by omega),show (0:Int).toNat=0 from rfl,List.drop_zero]
 by_cases h:keep.length≤20
 ·rw [tkL (by omega),tkL h]
 ·congr 2;omega
variable [EA]
abbrev S6:Type:=Bool×Int×List Int×List Int×Bool×Bs×Int×Bool×List Bs×List Bs×List (Int×Bs)
def A6 (n:Nat) (s:S6):Prop:=∃ r L sure,OkL r∧(enc h0 r).length≤n∧0≤L∧L≤1000∧sure <+: r∧s=(false,L,nB (ct n r),nB (ct n r),false,hd h0 r,((enc h0 r).length:Int),false,sure,r,[])
def B6 (n:Nat) (s:S6):Prop:=∃ r want L du vi pd hh sure,∃ p:Nat,Aft n r want du vi pd∧r <+: want∧r.length≤100000∧0≤L∧L≤1000∧sure <+: r∧s=(true,L,nB du,nB vi,false,hh,(p:Int),true,sure,r,pd)
def I6 (n:Nat) (s:S6):Prop:=A6 n s∨B6 n s
theorem I6.tail {n:Nat} {s:S6} (hn:n≤100000) (h:I6 n s):∃ o L du vi hh p br sure r pd,s=(o,L,nB du,nB vi,false,hh,p,br,sure,r,pd)∧sure <+: r∧r.length≤100000:=by
 rcases h with ⟨r,L,sure,h1,h2,h3,h4,h5,rfl⟩ | ⟨r,want,L,du,vi,pd,hh,sure,p,h1,h2,h3,h4,h5,h6,rfl⟩
 ·have:=enc_le (h:=h0) r
  exact ⟨_,_,_,_,_,_,_,_,_,_,rfl,h5,by omega⟩
 ·exact ⟨_,_,_,_,_,_,_,_,_,_,rfl,h6,h3⟩
theorem pfx_take {a b:List Bs} (h:a <+: b) (hb:b.length≤100000):ltM (lenM b) (lenM a)=false∧sliceM b 0 (lenM a)=some a:=by
 have hl:=h.length_le
 refine ⟨by rw [lenI,lenI,geI (by omega)],?_⟩
 rw [lenI,sliceM_of (by omega) (by omega) (by omega),Int.toNat_natCast,show (0:Int).toNat=0 from rfl,List.drop_zero,← List.prefix_iff_eq_take.1 h]
theorem law6_ok {c0:Int} {ops:List (Int×List Bs×Int×List Int)} (h1:InR (.int .i64) c0) (h2:InR (.list (.pair (.int .i64) (.pair (.list .str) (.pair (.int .i64) (.list (.int .i64)))))) ops):m6 (c0,ops)=some true:=by
 have hops:ops.length≤9223372036854775807:=Nat.le_trans h2.1 (by decide)
 have hel:∀ k (hk:k<ops.length),IntKind.i64.has ops[k].1∧(ops[k].2.1.length≤9223372036854775807∧∀ s∈ops[k].2.1,s.length≤9223372036854775807)∧IntKind.i64.has ops[k].2.2.1∧ops[k].2.2.2.length≤9223372036854775807:=fun k hk=>by
  obtain ⟨g1,g2,g3,g4⟩:=h2.2 k _ (gE hk)
  refine ⟨g1,⟨Nat.le_trans g2.1 (by decide),fun s hs=>?_⟩,g3,Nat.le_trans g4.1 (by decide)⟩
  obtain ⟨j,hj,rfl⟩:=List.mem_iff_getElem.1 hs
  exact Nat.le_trans (g2.2 j _ (gE hj)) (by decide)
 obtain ⟨n,hn1,hn2,hn⟩:=siz_ok h1
 have ok0:OkL ([]:List Bs):=fun r h=>by simp at h
 have e0:(enc h0 ([]:List Bs)).length=0:=rfl
 unfold m6
 dsimp only
 rw [sane_ok,oB,hn,oB,new_u hn1 (by omega),oB]
 dsimp only
 rw [open_u ok0 (by rw [e0];omega) (by omega) (by omega) (by omega),oB]
 dsimp only
 rw [eqI rfl,notT,cF]
 refine Ans.is ?_
 refine Ans.bind (P:=fun o=>∃ x,o=.inl x) ?_ ?_
 ·refine Ans.loop (fun k s=>k≤min ops.length 20∧∃ s',s=((k:Int),s')∧I6 n s') (min ops.length 20) ⟨by omega,_,rfl,.inl ⟨[],0,[],ok0,by rw [e0];omega,by omega,by omega,List.prefix_refl _,rfl⟩⟩ ?_
  rintro k _ hk ⟨_,s,rfl,hI⟩
  dsimp only
  rw [lenI]
  by_cases hkl:k<min ops.length 20
  ·have hko:k<ops.length:=by omega
   obtain ⟨g1,g2,g3,g4⟩:=hel k hko
   rw [ltI (by omega),andT,ltI (by omega),cT]
   refine Ans.bind (P:=fun o=>∃ t,o=.inl t∧I6 n t) ?_ ?_
   ·rw [idxM_lt hko,oB]
    obtain ⟨c,hc,hp⟩:=pick_ok (n:=8) g1 (by omega)
    rw [show (8:Int)=((8:Nat):Int) from rfl,hp,oB]
    by_cases c5:c=5
    ·subst c5
     rw [show eqM ((5:Nat):Int) 5=true from rfl,cT,oB]
     obtain ⟨j,hj,hp5⟩:=pick_ok (n:=5) g3 (by omega)
     rw [show (5:Int)=((5:Nat):Int) from rfl,hp5,oB,wrap_in (by omega) (by omega)]
     rcases hI with ⟨r,L,sure,i1,i2,i3,i4,i5,rfl⟩ | ⟨r,want,L,du,vi,pd,hh,sure,p,i1,i2,i3,i4,i5,i6,rfl⟩
     ·dsimp only
      rw [cut_u (by omega),oB,dF (by omega)]
      exact Ans.some ⟨_,rfl,.inl ⟨r,1+(j:Int),sure,i1,i2,by omega,by omega,i5,rfl⟩⟩
     ·dsimp only
      rw [cutoff_u,oB]
      exact Ans.some ⟨_,rfl,.inr ⟨r,want,L,du,vi,pd,hh,sure,p,i1,i2,i3,i4,i5,i6,rfl⟩⟩
    ·rw [neI (by omega),cF]
     by_cases c67:c=6∨c=7
     ·have hcr:(bif eqM ((c:Nat):Int) 6 then some (eqM ((c:Nat):Int) 6) else some (eqM ((c:Nat):Int) 7))=some true:=by
       rcases c67 with rfl | rfl<;>rfl
      rw [hcr,oB,cT,oB,oB]
      obtain ⟨hk1,hk2⟩:=keep_ok g4
      rw [hk1,oB,oB]
      have key:∀ (o:Bool) (L:Int) (du vi:Bs) (pd:List (Int×Bs)) (sure l:List Bs),PdOk n pd→du.length=n→vi.length=n→Semi n l (cr (ops[k].2.2.2.take 20) ops[k].2.2.1 du pd)→sure <+: l→m30 (ops[k].2.2.2.take 20,ops[k].2.2.1,false,o,L,nB du,nB vi,pd)=some (0,false,0,nB (cr (ops[k].2.2.2.take 20) ops[k].2.2.1 du pd),nB (cr (ops[k].2.2.2.take 20) ops[k].2.2.1 du pd),[]) ∧
        m25 (false,false,0,nB (cr (ops[k].2.2.2.take 20) ops[k].2.2.1 du pd),nB (cr (ops[k].2.2.2.take 20) ops[k].2.2.1 du pd),[])=some (0,false,0,nB (ct n l),nB (ct n l),false,hd h0 l,((enc h0 l).length:Int),false,l,[])∧l.length≤100000∧OkL l∧(enc h0 l).length≤n:=by
       intro o L du vi pd sure l k1 k2 k3 k4 k5
       have hle:=enc_le (h:=h0) l
       have hfl:=k4.fits
       exact ⟨crash_u hk2 g3 (by rw [k2];exact k1) (by omega) (by omega),opens_u k4 (by omega) (by omega),by omega,k4.1,hfl⟩
      obtain ⟨o,L,du,vi,pd,hh,p,br,sure,r,l,rfl,k1,k2,k3,k4,k5⟩:∃ o L du vi pd hh p br sure r l,s=(o,L,nB du,nB vi,false,hh,p,br,sure,r,pd)∧PdOk n pd∧du.length=n∧vi.length=n∧Semi n l (cr (ops[k].2.2.2.take 20) ops[k].2.2.1 du pd)∧sure <+: l:=by
       rcases hI with ⟨r,L,sure,i1,i2,i3,i4,i5,rfl⟩ | ⟨r,want,L,du,vi,pd,hh,sure,p,i1,i2,i3,i4,i5,i6,rfl⟩
       ·have ha:=aft_ct i1 i2
        exact ⟨_,_,_,_,_,_,_,_,sure,r,r,rfl,ha.hpd,ha.hdu,ha.hvi,semi_ct i1 i2,i5⟩
       ·rcases i1.hcr (ops[k].2.2.2.take 20) ops[k].2.2.1 with h | h
        ·exact ⟨_,_,_,_,_,_,_,_,sure,r,r,rfl,i1.hpd,i1.hdu,i1.hvi,h,i6⟩
        ·exact ⟨_,_,_,_,_,_,_,_,sure,r,want,rfl,i1.hpd,i1.hdu,i1.hvi,h,i6.trans i2⟩
      obtain ⟨e1,e2,e3,e4,e5⟩:=key o L du vi pd sure l k1 k2 k3 k4 k5
      obtain ⟨p1,p2⟩:=pfx_take k5 e3
      have q3:=k5.length_le
      dsimp only
      rw [e1,oB]
      dsimp only
      rw [e2,oB]
      dsimp only
      rw [eqI rfl,notT,notF,cT,orF,notF,cT,recs_u (by omega),oB,p1,orF,notF,cT,oB,p2,oB,same_ok (by omega),oB,dT rfl,notT,orF,cF,oB]
      exact Ans.some ⟨_,rfl,.inl ⟨l,0,l,e4,e5,by omega,by omega,List.prefix_refl _,rfl⟩⟩
     ·have hcr:(bif eqM ((c:Nat):Int) 6 then some (eqM ((c:Nat):Int) 6) else some (eqM ((c:Nat):Int) 7))=some false:=by
       rw [neI (by omega),cF,neI (by omega)]
      rw [hcr,oB,cF]
      obtain ⟨hfw,hfl⟩:=fw_ok ops[k].2.1
      rcases hI with ⟨r,L,sure,i1,i2,i3,i4,i5,rfl⟩ | ⟨r,want,L,du,vi,pd,hh,sure,p,i1,i2,i3,i4,i5,i6,rfl⟩
      ·have hle:=enc_le (h:=h0) r
       dsimp only
       rw [recs_u (by omega),oB,oB,few_ok g2.1 g2.2,oB]
       rcases app_u (n:=n) (L:=L) i1 i2 (by omega) hfw (by omega) ⟨i3,i4⟩ with ⟨_,e⟩ | ⟨hf2,L',l1,l2,_,e⟩ | ⟨_,L',du,vi,pd,l1,l2,ha,e⟩
       ·rw [e,oB]
        dsimp only
        rw [neI (by decide),cF]
        exact Ans.some ⟨_,rfl,.inl ⟨r,L,sure,i1,i2,i3,i4,i5,rfl⟩⟩
       ·rw [e,oB]
        dsimp only
        rw [eqI rfl,cT,appM_of (by show (0+r.length)*16≤_;omega),oB,List.nil_append,oB,few_ok g2.1 g2.2,oB,appM_of (by show (r.length+_)*16≤_;omega),oB]
        exact Ans.some ⟨_,rfl,.inl ⟨_,L',_,i1.app hfw,hf2,l1,l2,List.prefix_refl _,rfl⟩⟩
       ·rw [e,oB]
        dsimp only
        rw [neI (by decide),cF]
        exact Ans.some ⟨_,rfl,.inr ⟨r,_,L',du,vi,pd,_,sure,_,ha,List.prefix_append _ _,by omega,l1,l2,i5,rfl⟩⟩
      ·dsimp only
       rw [recs_u (by omega),oB,oB,few_ok g2.1 g2.2,oB,broken_u,oB]
       dsimp only
       rw [neI (by decide),cF]
       exact Ans.some ⟨_,rfl,.inr ⟨r,want,L,du,vi,pd,hh,sure,p,i1,i2,i3,i4,i5,i6,rfl⟩⟩
   ·rintro _ ⟨t,rfl,hI⟩
    obtain ⟨o,L,du,vi,hh,p,br,sure,r,pd,rfl,q1,q2⟩:=hI.tail (by omega)
    obtain ⟨p1,p2⟩:=pfx_take q1 q2
    have q3:=q1.length_le
    dsimp only [Sum.elim_inl]
    rw [recs_u (by omega),oB,p1,notF,cT,p2,oB,same_ok (by omega),oB,dT rfl,notT,orF,cF,wrap_in (by omega) (by omega)]
    exact Ans.some ⟨by omega,by omega,_,rfl,hI⟩
  ·have hend:PE.andM (ltM (k:Int) (ops.length:Int)) (ltM (k:Int) 20)=false:=by
    unfold PE.andM ltM
    simp
    omega
   rw [hend,cF]
   exact Ans.some ⟨_,rfl⟩
 ·rintro _ ⟨x,rfl⟩
  exact Ans.some rfl
end Go.Proofs.YtobfnefajpiakaaGreatDoor
namespace Go.Proofs.YtobfnefajpiakaaGreatDoor
open Go Go.Abs Go.PE
theorem law6 [EA]:∀ (S:Cells) (w:World) (η:Eta) (vs:List Value) x,All2 (RM S w η) (rvs as6 x) vs→m6 x=some true :=
 law_of_ok fun x h=>law6_ok h.1 h.2
end Go.Proofs.YtobfnefajpiakaaGreatDoor
