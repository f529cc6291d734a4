/-
 Texts of this proof, put together: Ad, Ae, Af, Ag, Ba, Cq, So68, So73, M1, M2, M3, M4, M5, Bc, Bd, Be, Bf, Bb.
 No conditions.
-/
import Derived.Test.YtdjfiampkhfooaaGreatDoorZ5
import Derived.Shelf.SlLaysF0
set_option linter.all false
namespace Go.Ar
def h0:Bs:=List.replicate 32 0
def hd (l:List Rp):Bs:=l.foldl (fun h r=>pB h (en r)) h0
theorem hd_snoc (l:List Rp) (r:Rp):hd (l++[r])=pB (hd l) (en r):=by unfold hd;rw [List.foldl_append];rfl
theorem hd_len (l:List Rp):(hd l).length=32:=by
 rcases List.eq_nil_or_concat l with h | ⟨m,r,h⟩
 ·subst h;rfl
 ·rw [h,List.concat_eq_append,hd_snoc];exact iG _
def atN (a:List Rp) (s:Int) (n:Nat):List Rp:=a.filter fun r=>decide (r.sv=s)&&decide (r.nu=n)
theorem atN_mem {a:List Rp} {s:Int} {n:Nat} {x:Rp}:x∈atN a s n↔x∈a∧x.sv=s∧x.nu=n:=by
 unfold atN;simp
def IsBel (a:List Rp) (s:Int) (l:List Rp):Prop:=(∀ i r,l[i]? = some r→atN a s i=[r]∧r.pv=hd (l.take i))∧∀ r,atN a s l.length=[r]→r.pv≠hd l
theorem IsBel.pre {a:List Rp} {s:Int} {l m:List Rp} (hl:∀ i r,l[i]? = some r→atN a s i=[r]∧r.pv=hd (l.take i)) (hm:∀ i r,m[i]? = some r→atN a s i=[r]∧r.pv=hd (m.take i)):∀ n,n≤l.length→n≤m.length→l.take n=m.take n
 | 0,_,_=>by simp
 | n+1,h1,h2=>by
  have e1:l[n]? = some l[n]:=gE (by omega)
  have e2:m[n]? = some m[n]:=gE (by omega)
  have e:=(hl n _ e1).1.symm.trans (hm n _ e2).1
  rw [List.take_succ,List.take_succ,e1,e2,IsBel.pre hl hm n (by omega) (by omega)]
  simp only [List.cons.injEq,and_true] at e
  rw [e]
theorem IsBel.le {a:List Rp} {s:Int} {l m:List Rp} (hl:IsBel a s l) (hm:∀ i r,m[i]? = some r→atN a s i=[r]∧r.pv=hd (m.take i)):m.length≤l.length:=by
 apply Nat.le_of_not_lt
 intro h
 have e2:m[l.length]? = some m[l.length]:=gE h
 have p:=IsBel.pre hl.1 hm l.length (nR _) (by omega)
 obtain ⟨q1,q2⟩:=hm _ _ e2
 rw [List.take_length] at p
 rw [← p] at q2
 exact hl.2 _ q1 q2
theorem IsBel.uniq {a:List Rp} {s:Int} {l m:List Rp} (hl:IsBel a s l) (hm:IsBel a s m):l=m:=by
 have e:=Nat.le_antisymm (hm.le hl.1) (hl.le hm.1)
 have:=IsBel.pre hl.1 hm.1 l.length (nR _) (by omega)
 rw [List.take_length,e,List.take_length] at this
 exact this
def belG (a:List Rp) (s:Int):Nat→List Rp→List Rp
 | 0,acc=>acc
 | f+1,acc=>match atN a s acc.length with
  | [r]=>if r.pv=hd acc then belG a s f (acc++[r]) else acc
  | _=>acc
def bel (a:List Rp) (s:Int):List Rp:=belG a s (a.length+1) []
def Pbel (a:List Rp) (s:Int) (l:List Rp):Prop:=∀ i r,l[i]? = some r→atN a s i=[r]∧r.pv=hd (l.take i)
theorem Pbel.snoc {a:List Rp} {s:Int} {l:List Rp} {r:Rp} (h:Pbel a s l) (h1:atN a s l.length=[r]) (h2:r.pv=hd l):Pbel a s (l++[r]):=by
 intro i x hx
 by_cases hi:i<l.length
 ·rw [xL hi] at hx
  rw [List.take_append_of_le_length (by omega)]
  exact h i x hx
 ·rw [xR (by omega)] at hx
  have e:i=l.length:=by
   apply Nat.le_antisymm _ (by omega)
   apply Nat.le_of_not_lt
   intro q
   rw [List.getElem?_eq_none (by simp;omega)] at hx
   cases hx
  subst e
  simp at hx
  subst hx
  rw [List.take_append_of_le_length (by omega),List.take_length]
  exact ⟨h1,h2⟩
theorem Pbel.mem {a:List Rp} {s:Int} {l:List Rp} (h:Pbel a s l) {i:Nat} {r:Rp} (hr:l[i]? = some r):r∈a∧r.sv=s∧r.nu=i:=atN_mem.1 (by rw [(h i r hr).1];simp)
theorem Pbel.nodup {a:List Rp} {s:Int} {l:List Rp} (h:Pbel a s l):l.Nodup:=by
 rw [List.nodup_iff_pairwise_ne,List.pairwise_iff_getElem]
 intro i j hi hj hij e
 have p:=(h.mem (gE hi)).2.2
 have q:=(h.mem (gE hj)).2.2
 rw [e] at p
 omega
theorem Pbel.len {a:List Rp} {s:Int} {l:List Rp} (h:Pbel a s l):l.length≤a.length:=qD h.nodup fun x hx=>by
 obtain ⟨i,hi,e⟩:=List.getElem_of_mem hx
 exact (h.mem (r:=x) (by rw [gE hi,e])).1
theorem belG_is {a:List Rp} {s:Int}:∀ (f:Nat) {acc:List Rp},Pbel a s acc→a.length<acc.length+f→IsBel a s (belG a s f acc)
 | 0,acc,h,hf=>by have:=h.len;omega
 | f+1,acc,h,hf=>by
  unfold belG
  split
  ·rename_i r hr
   split
   ·rename_i hp
    exact belG_is f (h.snoc hr hp) (by simp;omega)
   ·rename_i hp
    exact ⟨h,fun x hx=>by rw [hr] at hx;cases hx;exact hp⟩
  ·rename_i hn
   exact ⟨h,fun x hx=>absurd hx (hn x)⟩
theorem Pbel.nil (a:List Rp) (s:Int):Pbel a s []:=fun i r h=>by simp at h
theorem bel_is (a:List Rp) (s:Int):IsBel a s (bel a s):=belG_is _ (Pbel.nil a s) (by simp)
theorem IsBel.eq {a:List Rp} {s:Int} {l:List Rp} (h:IsBel a s l):bel a s=l:=(bel_is a s).uniq h
theorem Pbel.ok {a:List Rp} {s:Int} {l:List Rp} (h:Pbel a s l) (ha:∀ r∈a,OkR r):l.length≤40:=by
 apply Nat.le_of_not_lt
 intro q
 have e:l[40]? = some l[40]:=gE q
 obtain ⟨h1,_,h3⟩:=h.mem e
 have:=(ha _ h1).2.2.2.1
 rw [h3] at this
 omega
def tagR (key:Bs) (r:Rp):Bs:=node key (leaf (sg r))
def fix3 (r:Rp) (n:Int) (p t:Bs):Rp:=(r.1,n,r.2.2.1,r.2.2.2.1,r.2.2.2.2.1,r.2.2.2.2.2.1,r.2.2.2.2.2.2.1,p,t)
abbrev Gen (key:Bs) (r:Rp):Prop:=key.length=32∧OkR r∧tagR key r=r.tg
def zR:Rp:=(0,0,0,0,0,0,0,[],[])
def wrR (key:Bs) (a:List Rp) (r:Rp):Rp×Int :=
 if key.length=32∧OkA a then
  let l:=bel a r.sv
  let x:=fix3 r l.length (hd l) (hd l)
  if OkR x then (fix3 r l.length (hd l) (tagR key x),0) else (zR,390)
 else (zR,390)
theorem tag_len (key:Bs) (r:Rp):(tagR key r).length=32:=iG _
def bG (l:List Rp) (s:Int):List Rp:=l.filter fun r=>decide (r.sv=s)
theorem own_mem {l:List Rp} {s:Int} {x:Rp}:x∈bG l s↔x∈l∧x.sv=s:=by unfold bG;simp
theorem own_snoc (l:List Rp) (r:Rp) (s:Int):bG (l++[r]) s=if r.sv=s then bG l s++[r] else bG l s:=by
 unfold bG
 rw [List.filter_append]
 by_cases h:r.sv=s
 ·rw [if_pos h];simp [h]
 ·rw [if_neg h];simp [h]
theorem lC {α:Type} {l:List α} {i:Nat} {x:α} (h:l[i]? = some x):i<l.length:=by
 apply Nat.lt_of_not_le
 intro q;rw [List.getElem?_eq_none q] at h;cases h
structure Chn (l:List Rp):Prop where
 ok:∀ r∈l,OkR r
 nd:l.Nodup
 idx:∀ (s:Int) (i:Nat) (r:Rp),(bG l s)[i]? = some r→r.nu=i∧r.pv=hd ((bG l s).take i)
theorem Chn.nil:Chn []:=⟨fun r h=>(by simp at h),List.nodup_nil,fun s i r h=>(by simp [bG] at h)⟩
theorem Chn.snoc {l:List Rp} {r:Rp} (h:Chn l) (ho:OkR r) (hn:r.nu=(bG l r.sv).length) (hp:r.pv=hd (bG l r.sv)):Chn (l++[r]):=by
 refine ⟨fun x hx=>?_,?_,fun s i x hx=>?_⟩
 ·rcases List.mem_append.1 hx with q | q
  ·exact h.ok x q
  ·simp at q;subst q;exact ho
 ·rw [List.nodup_append]
  refine ⟨h.nd,by simp,fun x hx y hy e=>?_⟩
  simp at hy
  subst hy
  subst e
  obtain ⟨i,hi,e⟩:=List.getElem_of_mem (own_mem.2 ⟨hx,rfl⟩)
  have:=(h.idx x.sv i x (by rw [gE hi,e])).1
  omega
 ·rw [own_snoc] at hx ⊢
  split at hx
  ·rename_i hs
   rw [if_pos hs]
   subst hs
   by_cases hi:i<(bG l r.sv).length
   ·rw [xL hi] at hx
    rw [List.take_append_of_le_length (by omega)]
    exact h.idx _ i x hx
   ·have hl:=lC hx
    simp at hl
    have e:i=(bG l r.sv).length:=by omega
    subst e
    simp at hx
    subst hx
    rw [List.take_append_of_le_length (by omega),List.take_length]
    exact ⟨hn,hp⟩
  ·rename_i hs
   rw [if_neg hs]
   exact h.idx s i x hx
theorem Chn.get {l:List Rp} (h:Chn l) {r:Rp} (hr:r∈l):∃ i:Nat,r.nu=i∧(bG l r.sv)[i]? = some r:=by
 obtain ⟨i,hi,e⟩:=List.getElem_of_mem (own_mem.2 ⟨hr,rfl⟩)
 have e2:(bG l r.sv)[i]? = some r:=by rw [gE hi,e]
 exact ⟨i,(h.idx _ i r e2).1,e2⟩
theorem Chn.uniq {l:List Rp} (h:Chn l) {a b:Rp} (ha:a∈l) (hb:b∈l) (e1:a.sv=b.sv) (e2:a.nu=b.nu):a=b:=by
 obtain ⟨i,hi,p⟩:=h.get ha
 obtain ⟨j,hj,q⟩:=h.get hb
 rw [← e1] at q
 have:i=j:=by omega
 subst this
 rw [p] at q
 cases q;rfl
theorem sing {α:Type} {l:List α} {r:α} (hn:l.Nodup) (h:∀ x,x∈l↔x=r):l=[r]:=by
 match l,hn,h with
 | [],_,h=>have:=(h r).2 rfl;simp at this
 | [x],_,h=>rw [(h x).1 (by simp)]
 | x::y::t,hn,h =>
  have a:=(h x).1 (by simp)
  have b:=(h y).1 (by simp)
  rw [List.nodup_cons] at hn
  exact absurd (by rw [a,b];simp) hn.1
theorem Chn.isBel {l a:List Rp} (h:Chn l) (ha:a.Nodup) (hs:∀ x∈a,x∈l) {s:Int} {j:Nat} (hj:∀ i r,i<j→(bG l s)[i]? = some r→r∈a) (hz:∀ r,(bG l s)[j]? = some r→r∉a):IsBel a s ((bG l s).take j):=by
 have at1:∀ i r,(bG l s)[i]? = some r→r∈a→atN a s i=[r]:=fun i r hr hm=>by
  have hx:=h.idx s i r hr
  have hrs:=(own_mem.1 (List.mem_of_getElem? hr)).2
  refine sing (ha.filter _) fun x=>?_
  rw [atN_mem]
  constructor
  ·rintro ⟨p,q,t⟩
   exact h.uniq (hs x p) (hs r hm) (by omega) (by omega)
  ·intro e;subst e;exact ⟨hm,hrs,hx.1⟩
 refine ⟨fun i r hi=>?_,fun r hr=>?_⟩
 ·have hl:=lC hi
  rw [lT] at hl
  rw [List.getElem?_take_of_lt (by omega)] at hi
  rw [List.take_take,show min i j=i by omega]
  exact ⟨at1 i r hi (hj i r (by omega) hi),(h.idx s i r hi).2⟩
 ·exfalso
  have hm:r∈atN a s ((bG l s).take j).length:=by rw [hr];simp
  obtain ⟨p,q,t⟩:=atN_mem.1 hm
  obtain ⟨i,hi,e⟩:=h.get (hs r p)
  rw [q] at e
  have hl:=lC e
  rw [lT] at t
  have:i=j:=by omega
  subst this
  exact hz r e p
theorem Chn.belAll {l:List Rp} (h:Chn l) (s:Int):bel (mB l) s=bG l s:=by
 have:=h.isBel (hJ l).nodup (fun x hx=>(nC l x).1 hx) (s:=s) (j:=(bG l s).length) (fun i r _ hr=>(nC l r).2 (own_mem.1 (List.mem_of_getElem? hr)).1) (fun r hr=>by simp at hr)
 rw [List.take_length] at this
 exact this.eq
theorem Chn.okA {l:List Rp} (h:Chn l) (hl:l.length≤40):OkA (mB l):=⟨fun r hr=>h.ok r ((nC l r).1 hr),hJ l,Nat.le_trans (lI l) hl⟩
def xC (c n:Int):Int:=(if c<0 then -(c+1) else c) % n
theorem xD {c n:Int} (h:0<n):0≤xC c n∧xC c n<n:=⟨Int.emod_nonneg _ (by omega),Int.emod_lt_of_pos _ h⟩
abbrev X6:=Int×Int×Int×Int×Int×Int
def keyN (n:Int):Bs:=sha [UInt8.ofNat (xC n 256).toNat]
theorem key_len (n:Int):(keyN n).length=32:=iG _
def draft (x:X6) (n:Int):Rp :=
 if xC x.2.2.2.2.1 4=3∧0<n then (xC x.1 4,0,xC x.2.1 800001,2,0,0,xC x.2.2.2.2.2 n,[],[])
 else (xC x.1 4,0,xC x.2.1 800001,1,xC x.2.2.1 4,xC x.2.2.2.1 20001-10000,-1,[],[])
theorem draft_sv (x:X6) (n:Int):(draft x n).sv=xC x.1 4:=by unfold draft;split<;>rfl
theorem draft_ok (x:X6) {n:Nat} (hn:n≤39) {p t:Bs} (hp:p.length=32) (ht:t.length=32):OkR (fix3 (draft x n) n p t):=by
 have a1:=xD (c:=x.1) (show (0:Int)<4 by omega)
 have a2:=xD (c:=x.2.1) (show (0:Int)<800001 by omega)
 have a3:=xD (c:=x.2.2.1) (show (0:Int)<4 by omega)
 have a4:=xD (c:=x.2.2.2.1) (show (0:Int)<20001 by omega)
 unfold draft
 split
 ·rename_i h
  have a5:=xD (c:=x.2.2.2.2.2) h.2
  unfold OkR fix3
  dsimp only [Rp.sv,Rp.nu,Rp.da,Rp.ki,Rp.su,Rp.va,Rp.rf,Rp.pv,Rp.tg]
  omega
 ·unfold OkR fix3
  dsimp only [Rp.sv,Rp.nu,Rp.da,Rp.ki,Rp.su,Rp.va,Rp.rf,Rp.pv,Rp.tg]
  omega
def xE (l:List Rp) (x:X6):Rp :=
 let o:=bG l (xC x.1 4)
 let d:=draft x o.length
 fix3 d o.length (hd o) (tagR (keyN (xC x.1 4)) (fix3 d o.length (hd o) (hd o)))
def madeL (x:List X6):List Rp:=(x.take 16).foldl (fun l x=>l++[xE l x]) []
theorem fix3_sv (r:Rp) (n:Int) (p t:Bs):(fix3 r n p t).sv=r.sv:=rfl
theorem nextR_sv (l:List Rp) (x:X6):(xE l x).sv=xC x.1 4:=by unfold xE;dsimp only;rw [fix3_sv,draft_sv]
theorem own_le (l:List Rp) (s:Int):(bG l s).length≤l.length:=List.length_filter_le _ _
theorem nextR_ok {l:List Rp} (x:X6) (hl:l.length≤39):OkR (xE l x):=draft_ok x (Nat.le_trans (own_le _ _) hl) (hd_len _) (tag_len _ _)
theorem Chn.next {l:List Rp} (h:Chn l) (x:X6) (hl:l.length≤39):Chn (l++[xE l x]):=by
 refine h.snoc (nextR_ok x hl) ?_ ?_<;>rw [nextR_sv]<;>rfl
theorem nextR_wr {l:List Rp} (h:Chn l) (x:X6) (hl:l.length≤39):wrR (keyN (xC x.1 4)) (mB l) (draft x (bG l (xC x.1 4)).length)=(xE l x,0):=by
 unfold wrR
 rw [if_pos ⟨key_len _,h.okA (by omega)⟩,draft_sv,h.belAll]
 dsimp only
 rw [if_pos (draft_ok x (Nat.le_trans (own_le _ _) hl) (hd_len _) (hd_len _))]
 rfl
theorem nextR_gen {l:List Rp} (x:X6) (hl:l.length≤39):Gen (keyN (xE l x).sv) (xE l x):=by
 refine ⟨key_len _,nextR_ok x hl,?_⟩
 rw [nextR_sv];rfl
structure Mde (l:List Rp):Prop extends Chn l where
 gen:∀ r∈l,Gen (keyN r.sv) r
 four:∀ r∈l,0≤r.sv∧r.sv<4
theorem Mde.nil:Mde []:={ Chn.nil with gen:=fun r h=>by simp at h,four:=fun r h=>by simp at h }
theorem Mde.next {l:List Rp} (h:Mde l) (x:X6) (hl:l.length≤39):Mde (l++[xE l x]) :=
 { h.toChn.next x hl with
  gen:=fun r hr=>by
   rcases List.mem_append.1 hr with q | q
   ·exact h.gen r q
   ·simp at q;subst q;exact nextR_gen x hl
  four:=fun r hr=>by
   rcases List.mem_append.1 hr with q | q
   ·exact h.four r q
   ·simp at q;subst q;rw [nextR_sv];exact xD (by omega) }
theorem made_mde:∀ (x:List X6) {l:List Rp},Mde l→l.length+x.length≤40→Mde (x.foldl (fun l x=>l++[xE l x]) l)∧(x.foldl (fun l x=>l++[xE l x]) l).length=l.length+x.length
 | [],l,h,_=>⟨h,rfl⟩
 | x::r,l,h,hl=>by
  simp only [List.length_cons] at hl
  have:=made_mde r (h.next x (by omega)) (by simp;omega)
  refine ⟨this.1,?_⟩
  rw [List.foldl_cons,this.2]
  simp;omega
theorem madeL_mde (x:List X6):Mde (madeL x):=(made_mde _ Mde.nil (by simp;omega)).1
theorem madeL_len (x:List X6):(madeL x).length≤16:=by
 have:=(made_mde (x.take 16) Mde.nil (by simp;omega)).2
 unfold madeL
 rw [this];simp;omega
def mk40 (l:List Rp):List Rp×Int:=if l.length≤40 then (l,0) else ([],390)
def mrg (a b:List Rp):List Rp×Int:=if OkA a∧OkA b then mk40 (mB (a++b)) else ([],390)
def addR (a:List Rp) (r:Rp):List Rp×Int:=if OkA a∧OkR r then mk40 (mB (a++[r])) else ([],390)
def miss (a b:List Rp):List Rp×Int:=if OkA a∧OkA b then (a.filter fun r=>decide (r∉b),0) else ([],390)
theorem addR_ok {a:List Rp} {r:Rp} (ha:OkA a) (hr:OkR r) (hl:(mB (a++[r])).length≤40):addR a r=(mB (a++[r]),0):=by
 unfold addR mk40;rw [if_pos ⟨ha,hr⟩,if_pos hl]
theorem addR_arch {l:List Rp} {r:Rp} (hl:∀ x∈l,OkR x) (hr:OkR r) (hn:l.length≤39):addR (mB l) r=(mB (l++[r]),0):=by
 have e:mB (mB l++[r])=mB (l++[r]):=yG fun x=>by simp [nC]
 have hlen:=lI (l++[r])
 simp only [lA,List.length_singleton] at hlen
 have ho:OkA (mB l):=⟨fun x hx=>hl x ((nC l x).1 hx),hJ l,by have:=lI l;omega⟩
 rw [addR_ok ho hr (by rw [e];omega),e]
def ofL (l:List Rp):List Rp:=l.foldl (fun a r=>if (addR a r).2=0 then (addR a r).1 else a) []
theorem ext_of {α:Type} {R:α→α→Prop} (irr:∀ x,¬ R x x) (tr:∀ {x y z},R x y→R y z→R x z):∀ {l m:List α},l.Pairwise R→m.Pairwise R→(∀ x,x∈l↔x∈m)→l=m
 | [],[],_,_,_=>rfl
 | [],y::m,_,_,h=>by have:=(h y).2 (by simp);simp at this
 | x::l,[],_,_,h=>by have:=(h x).1 (by simp);simp at this
 | x::l,y::m,h1,h2,h=>by
  obtain ⟨a1,a2⟩:=List.pairwise_cons.1 h1
  obtain ⟨b1,b2⟩:=List.pairwise_cons.1 h2
  have e:x=y:=by
   rcases List.mem_cons.1 ((h x).1 (by simp)) with e | e
   ·exact e
   ·rcases List.mem_cons.1 ((h y).2 (by simp)) with f | f
    ·exact f.symm
    ·exact absurd (tr (a1 y f) (b1 x e)) (irr x)
  subst e
  refine congrArg _ (ext_of irr tr a2 b2 fun z=>?_)
  have hz:=h z
  simp only [List.mem_cons] at hz
  constructor
  ·intro p
   rcases hz.1 (.inr p) with q | q
   ·subst q;exact absurd (a1 z p) (irr z)
   ·exact q
  ·intro p
   rcases hz.2 (.inr p) with q | q
   ·subst q;exact absurd (b1 z p) (irr z)
   ·exact q
def dK:List Rp→List Int→List Int→List Rp→List Rp
 | [],_,_,out=>out
 | r::t,wd,sn,out=>if r.nu∈wd then dK t wd sn out else if r.ki=2 then dK t (r.rf::wd) sn out else if r.su∈sn then dK t wd sn out else dK t wd (r.su::sn) (out++[r])
def nJ (l:List Rp):List Rp:=dK l.reverse [] [] []
theorem cK:∀ (t:List Rp) (wd sn:List Int) (o out:List Rp),dK t wd sn (o++out)=o++dK t wd sn out
 | [],_,_,_,_=>rfl
 | r::t,wd,sn,o,out=>by
  unfold dK
  split
  ·exact cK t _ _ _ _
  ·split
   ·exact cK t _ _ _ _
   ·split
    ·exact cK t _ _ _ _
    ·rw [aA];exact cK t _ _ _ _
theorem curS_nil (t:List Rp) (wd sn:List Int) (out:List Rp):dK t wd sn out=out++dK t wd sn []:=by
 have:=cK t wd sn out []
 rw [List.append_nil] at this;exact this
theorem dI:∀ (t:List Rp) (wd sn:List Int),∀ x∈dK t wd sn [],x∈t∧x.nu∉wd∧x.ki≠2∧x.su∉sn
 | [],_,_,x,h=>by simp [dK] at h
 | r::t,wd,sn,x,h=>by
  unfold dK at h
  split at h
  ·obtain ⟨a,b⟩:=dI t _ _ x h;exact ⟨by simp [a],b⟩
  ·split at h
   ·obtain ⟨a,b,c⟩:=dI t _ _ x h;exact ⟨by simp [a],fun q=>b (by simp [q]),c⟩
   ·split at h
    ·obtain ⟨a,b⟩:=dI t _ _ x h;exact ⟨by simp [a],b⟩
    ·rw [curS_nil,List.nil_append,List.mem_append] at h
     rcases h with h | h
     ·simp at h;subst h;exact ⟨by simp,by assumption,by assumption,by assumption⟩
     ·obtain ⟨a,b,c,d⟩:=dI t _ _ x h;exact ⟨by simp [a],b,c,fun q=>d (by simp [q])⟩
theorem eI:∀ (t:List Rp) (wd sn:List Int),(dK t wd sn []).Pairwise fun a b=>a.su≠b.su
 | [],_,_=>List.Pairwise.nil
 | r::t,wd,sn=>by
  unfold dK
  split
  ·exact eI t _ _
  ·split
   ·exact eI t _ _
   ·split
    ·exact eI t _ _
    ·rw [curS_nil,List.nil_append,List.singleton_append]
     refine List.pairwise_cons.2 ⟨fun x hx e=>?_,eI t _ _⟩
     exact (dI t _ _ x hx).2.2.2 (by simp [e])
def cutG:Nat→Nat→Nat→Nat
 | 0,_,k=>k
 | f+1,n,k=>if k<n-k then cutG f n (2*k) else k
def cutN (n:Nat):Nat:=cutG n n 1
theorem cutG_pos:∀ (f n k:Nat),0<k→0<cutG f n k
 | 0,_,_,h=>h
 | f+1,n,k,h=>by unfold cutG;split;exact cutG_pos f n _ (by omega);exact h
theorem cutG_lt:∀ (f n k:Nat),k<n→0<k→cutG f n k<n
 | 0,_,_,h,_=>h
 | f+1,n,k,h,h0=>by
  unfold cutG;split
  ·exact cutG_lt f n _ (by omega) (by omega)
  ·exact h
theorem cutN_bd {n:Nat} (h:2≤n):0<cutN n∧cutN n<n:=⟨cutG_pos _ _ _ (by omega),cutG_lt _ _ _ (by omega) (by omega)⟩
theorem cutG_pow:∀ (f a b n:Nat),b≤a→a-b≤f→2 ^ a<n→n≤2 ^ (a+1)→cutG f n (2 ^ b)=2 ^ a
 | 0,a,b,n,h,hf,_,_=>by rw [show b=a by omega];rfl
 | f+1,a,b,n,h,hf,h1,h2=>by
  unfold cutG
  by_cases e:b=a
  ·subst e
   rw [if_neg (by rw [Nat.pow_succ] at h2;omega)]
  ·have:2 ^ (b+1)≤2 ^ a:=Nat.pow_le_pow_right (by omega) (by omega)
   rw [if_pos (by rw [Nat.pow_succ] at this;omega),show 2*2 ^ b=2 ^ (b+1) by rw [Nat.pow_succ];omega]
   exact cutG_pow f a (b+1) n (by omega) (by omega) h1 h2
theorem cutN_pow {a n:Nat} (h1:2 ^ a<n) (h2:n≤2 ^ (a+1)):cutN n=2 ^ a:=by
 have:a<2 ^ a:=Nat.lt_two_pow_self
 exact cutG_pow n a 0 n (by omega) (by omega) h1 h2
def rootL (l:List Bs):Bs :=
 if h0:l.length=0 then sha [] else if h1:l.length=1 then leaf (l.headD []) else
  node (rootL (l.take (cutN l.length))) (rootL (l.drop (cutN l.length)))
termination_by l.length
decreasing_by
 all_goals
  have:=cutN_bd (n:=l.length) (by omega)
  simp only [lT,List.length_drop];omega
theorem rootL_nil:rootL []=sha []:=by unfold rootL;rfl
theorem rootL_one (s:Bs):rootL [s]=leaf s:=by unfold rootL;rfl
theorem rootL_ge {l:List Bs} (h:2≤l.length):rootL l=node (rootL (l.take (cutN l.length))) (rootL (l.drop (cutN l.length))):=by
 rw [rootL,dif_neg (by omega),dif_neg (by omega)]
theorem tK (l:List Bs):(rootL l).length=32:=by
 unfold rootL;split
 ·exact iG _
 ·split
  ·exact iG _
  ·exact iG _
theorem rootL_split {p q:List Bs} {a:Nat} (hp:p.length=2 ^ a) (h0:0<q.length) (hq:q.length≤2 ^ a):rootL (p++q)=node (rootL p) (rootL q):=by
 have hpos:0<2 ^ a:=Nat.two_pow_pos a
 have e:cutN (p++q).length=p.length:=by rw [lA,hp];exact cutN_pow (by omega) (by rw [Nat.pow_succ];omega)
 rw [rootL_ge (by rw [lA];omega),e,List.take_left,List.drop_left]
end Go.Ar
namespace Go.Proofs.YtdjfiampkhfooaaGreatDoor
open Go Go.Lib Go.Abs Go.PE Go.Ar
variable [EA]
theorem wu64 (n:Int):IntKind.wrap .u64 n=n % 18446744073709551616:=by simp [IntKind.wrap,IntKind.bits,IntKind.signed]
theorem mD {n:Int} (h0:0≤n) (h:n<18446744073709551616):IntKind.wrap .u64 n=n:=by rw [wu64];omega
theorem wu32_in {n:Int} (h0:0≤n) (h:n<4294967296):IntKind.wrap .u32 n=n:=IntWalk.u32_in n ⟨h0,by omega⟩
theorem wu8_in {n:Int} (h0:0≤n) (h:n<256):IntKind.wrap .u8 n=n:=IntWalk.u8_in n ⟨h0,by omega⟩
theorem wu32 (n:Int):IntKind.wrap .u32 n=n % 4294967296:=by simp [IntKind.wrap,IntKind.bits,IntKind.signed]
theorem wu8 (n:Int):IntKind.wrap .u8 n=n % 256:=by simp [IntKind.wrap,IntKind.bits,IntKind.signed]
theorem bv64 (a:Nat):(BitVec.ofInt IntKind.u64.bits (a:Int)).toNat=a % 18446744073709551616:=by rw [BitVec.ofInt_natCast];rfl
theorem bv32 (a:Nat):(BitVec.ofInt IntKind.u32.bits (a:Int)).toNat=a % 4294967296:=by rw [BitVec.ofInt_natCast];rfl
theorem bv8 (a:Nat):(BitVec.ofInt IntKind.u8.bits (a:Int)).toNat=a % 256:=by rw [BitVec.ofInt_natCast];rfl
theorem xor64 {a b:Nat} (ha:a<18446744073709551616) (hb:b<18446744073709551616):uA .xor .u64 a b=((a ^^^ b:Nat):Int):=by
 unfold uA
 dsimp only
 rw [BitVec.toNat_xor,bv64,bv64,Nat.mod_eq_of_lt ha,Nat.mod_eq_of_lt hb]
 have:=Nat.xor_lt_two_pow (n:=64) ha hb
 exact mD (by omega) (by omega)
theorem and64 {a b:Nat} (ha:a<18446744073709551616) (hb:b<18446744073709551616):uA .and .u64 a b=((a &&& b:Nat):Int):=by
 unfold uA
 dsimp only
 rw [BitVec.toNat_and,bv64,bv64,Nat.mod_eq_of_lt ha,Nat.mod_eq_of_lt hb]
 have:=Nat.and_lt_two_pow (n:=64) a hb
 exact mD (by omega) (by omega)
theorem or64 {a b:Nat} (ha:a<18446744073709551616) (hb:b<18446744073709551616):uA .or .u64 a b=((a ||| b:Nat):Int):=by
 unfold uA
 dsimp only
 rw [BitVec.toNat_or,bv64,bv64,Nat.mod_eq_of_lt ha,Nat.mod_eq_of_lt hb]
 have:=Nat.or_lt_two_pow (n:=64) ha hb
 exact mD (by omega) (by omega)
theorem and8 {a b:Nat} (ha:a<256) (hb:b<256):uA .and .u8 a b=((a &&& b:Nat):Int):=by
 unfold uA
 dsimp only
 rw [BitVec.toNat_and,bv8,bv8,Nat.mod_eq_of_lt ha,Nat.mod_eq_of_lt hb]
 have:=Nat.and_lt_two_pow (n:=8) a hb
 exact wu8_in (by omega) (by omega)
theorem or8 {a b:Nat} (ha:a<256) (hb:b<256):uA .or .u8 a b=((a ||| b:Nat):Int):=by
 unfold uA
 dsimp only
 rw [BitVec.toNat_or,bv8,bv8,Nat.mod_eq_of_lt ha,Nat.mod_eq_of_lt hb]
 have:=Nat.or_lt_two_pow (n:=8) ha hb
 exact wu8_in (by omega) (by omega)
theorem and127 (a:Nat):a &&& 127=a % 128:=Nat.and_two_pow_sub_one_eq_mod a 7
theorem and1 (a:Nat):a &&& 1=a % 2:=Nat.and_two_pow_sub_one_eq_mod a 1
theorem or128 {a:Nat} (h:a<128):a ||| 128=a+128:=by
 have:=Nat.two_pow_add_eq_or_of_lt (i:=7) h 1
 rw [Nat.or_comm,Nat.add_comm];simpa using this.symm
theorem xorAll64 {a:Nat} (h:a<18446744073709551616):a ^^^ 18446744073709551615=18446744073709551615-a:=by
 have e:((BitVec.ofNat 64 a) ^^^ BitVec.allOnes 64).toNat=(~~~ (BitVec.ofNat 64 a)).toNat:=by rw [BitVec.xor_allOnes]
 rw [BitVec.toNat_xor,BitVec.toNat_not,BitVec.toNat_allOnes,BitVec.toNat_ofNat,Nat.mod_eq_of_lt h] at e
 simpa using e
theorem shrM_of {k:IntKind} {a:Int} {n:Nat} (h:n≤k.bits):rG k a (n:Int)=some (a.fdiv (2 ^ n)):=by
 unfold rG
 rw [dF (by omega)]
 show some (a.fdiv (2 ^ min ((n:Int).toNat) k.bits))=_
 rw [Int.toNat_natCast,Nat.min_eq_left h]
theorem shlM_of {k:IntKind} {a:Int} {n:Nat} (h:n≤k.bits):qI k a (n:Int)=some (k.wrap (a*2 ^ n)):=by
 unfold qI
 rw [dF (by omega)]
 show some (k.wrap (a*2 ^ min ((n:Int).toNat) k.bits))=_
 rw [Int.toNat_natCast,Nat.min_eq_left h]
theorem fdiv_nat (a b:Nat):Int.fdiv (a:Int) (b:Int)=((a / b:Nat):Int):=by
 rw [Int.fdiv_eq_ediv_of_nonneg _ (by omega)];rfl
theorem mA {α:Type} (l:List α):lenM l=(l.length:Int):=rfl
theorem fC {x y:List UInt8} (h:x.length+y.length≤9223372036854775807):lG x y=some (x++y):=by unfold lG;rw [Nat.ble_eq_true_of_le h]
theorem catB_of {x y:List UInt8} (h:x.length+y.length≤140737488355328):catB x y=some (x++y):=by unfold catB;rw [Nat.ble_eq_true_of_le h]
theorem eqsT {x y:List UInt8} (h:x=y):kB x y=true:=dT h
theorem eqsF {x y:List UInt8} (h:x≠y):kB x y=false:=dF h
theorem app1 {α:Type} {b:Nat} {l:List α} {d:α} (hb:b≤1000) (h:l.length≤1000000):eB b l [d]=some (l++[d]):=by
 refine aC ?_
 have:(l.length+[d].length)*b≤(l.length+[d].length)*1000:=Nat.mul_le_mul_left _ hb
 simp only [List.length_singleton] at *
 omega
theorem byteM_of {s:List UInt8} {i:Nat} {b:UInt8} (h:s[i]? = some b):byteM s (i:Int)=some (b.toNat:Int):=by
 unfold byteM
 rw [dT (by omega)]
 simp only [Int.toNat_natCast,h]
def nB (s:Bs):List Int:=s.map fun b=>(b.toNat:Int)
theorem strB_nB (s:Bs):oC (nB s)=s:=by
 unfold oC nB
 rw [List.map_map]
 have:((fun n:Int=>UInt8.ofNat n.toNat) ∘ fun b:UInt8=>(b.toNat:Int))=id:=by
  funext b;simp
 rw [this,List.map_id]
theorem xI (s:Bs):(nB s).length=s.length:=by simp [nB]
theorem nB_app (s t:Bs):nB (s++t)=nB s++nB t:=by simp [nB]
theorem nB_grp_lt {z:Nat} (h:z<128):nB (grp z)=[(z:Int)]:=by rw [nH h];simp [nB,u8 (show z<256 by omega)]
theorem nB_grp_ge {z:Nat} (h:128≤z):nB (grp z)=((z % 128+128:Nat):Int)::nB (grp (z / 128)):=by
 rw [cJ h];show ((UInt8.ofNat (z % 128+128)).toNat:Int)::_=_;rw [u8 (by omega)];rfl
theorem wPut_ok {n:Int} (h:inR n):m145 n=some (pI n,0):=by
 have h':-4611686018427387903≤n∧n≤4611686018427387903:=h
 have hz:=zz_lt h
 unfold m145
 dsimp only
 rw [geI h'.1,geI h'.2,orF,cF]
 have e0:uA .xor .u64 (IntKind.wrap .u64 (IntKind.wrap .u64 n*2 ^ 1)) (IntKind.wrap .u64 (n.fdiv (2 ^ 63)))=(zz n:Int):=by
  by_cases hn:n<0
  ·have e1:IntKind.wrap .u64 (IntKind.wrap .u64 n*2 ^ 1)=((18446744073709551616+2*n).toNat:Int):=by rw [wu64 n,wu64];omega
   have e2:n.fdiv (2 ^ 63)=-1:=by
    rw [Int.fdiv_eq_ediv_of_nonneg _ (by decide)]
    omega
   rw [e1,e2,wu64,show (-1:Int) % 18446744073709551616=((18446744073709551615:Nat):Int) by decide,xor64 (by omega) (by omega),xorAll64 (by omega)]
   unfold zz
   rw [if_pos hn];omega
  ·have e1:IntKind.wrap .u64 (IntKind.wrap .u64 n*2 ^ 1)=((2*n).toNat:Int):=by rw [wu64 n,wu64];omega
   have e2:n.fdiv (2 ^ 63)=0:=by
    rw [Int.fdiv_eq_ediv_of_nonneg _ (by decide)]
    omega
   rw [e1,e2,wu64,show (0:Int) % 18446744073709551616=((0:Nat):Int) by decide,xor64 (by omega) (by omega),Nat.xor_zero]
   unfold zz
   rw [if_neg hn]
 rw [show (1:Int)=((1:Nat):Int) from rfl,shlM_of (k:=.u64) (by decide),oB,show (63:Int)=((63:Nat):Int) from rfl,shrM_of (k:=.i64) (by decide),oB,e0]
 have key:Ans (iA (fun (s:Int×List Int)=>(bif PE.notM (ltM s.1 128) then some (uA BinOp.or .u8 (IntKind.wrap .u8 (uA BinOp.and .u64 s.1 127)) 128) else some (IntKind.wrap .u8 (uA BinOp.and .u64 s.1 127))).bind fun o=>(eB (nat_lit 1) s.2 [o]).bind fun r_2=>bif PE.orM false (ltM s.1 128) then some (Sum.inr (s.1,r_2)) else (rG .u64 s.1 7).bind fun r=>some (Sum.inl (r,r_2))) ((zz n:Int),([]:List Int))) (fun r=>r.2=nB (pI n)):=by
  refine Ans.loop (fun k s=>∃ z:Nat,s.1=z∧s.2.length=k∧z<128 ^ (10-k)∧z<9223372036854775807∧s.2++nB (grp z)=nB (pI n)) 10 ⟨zz n,rfl,rfl,Nat.lt_trans hz (by decide),hz,rfl⟩ ?_
  rintro k ⟨s1,s2⟩ hk ⟨z,h1,h2,h3,hz64,h4⟩
  dsimp only at h1 h2 h4 ⊢
  subst h1
  rw [show (127:Int)=((127:Nat):Int) from rfl,and64 (by omega) (by omega),and127,wu8_in (by omega) (by omega)]
  by_cases hs:z<128
  ·rw [ltI (by omega),sA,cF,oB,app1 (by decide) (by omega),oB,orF,cT]
   refine Ans.some ?_
   show s2++[((z % 128:Nat):Int)]=_
   rw [← h4,nB_grp_lt hs,Nat.mod_eq_of_lt hs]
  ·rw [geI (by omega),xA,cT,oB,show (128:Int)=((128:Nat):Int) from rfl,or8 (by omega) (by omega),or128 (by omega),app1 (by decide) (by omega),oB,orF,cF,show (7:Int)=((7:Nat):Int) from rfl,shrM_of (k:=.u64) (by decide),oB]
   obtain ⟨j,hj⟩:∃ j,10-k=j+1:=⟨10-k-1,by
    have:k≠10:=fun e=>by subst e;simp at h3;omega
    omega⟩
   refine Ans.some ⟨by omega,z / 128,?_,by simp [h2],?_,by omega,?_⟩
   ·show Int.fdiv (z:Int) ((128:Nat):Int)=_
    rw [fdiv_nat]
   ·rw [hj,Nat.pow_succ] at h3
    rw [show 10-(k+1)=j by omega];omega
   ·show (s2++[((z % 128+128:Nat):Int)])++nB (grp (z / 128))=_
    rw [← h4,nB_grp_ge (z:=z) (by omega),aA];rfl
 obtain ⟨r,h1,h2⟩:=key
 refine eA h1 ?_
 rw [h2,strB_nB]
def pI2 (n:Int):Bs:=if inR n then pI n else []
def pS2 (s:Bs):Bs:=if s.length≤65536 then pS s else []
theorem sI {n:Int} (h:inR n):pI2 n=pI n:=if_pos h
theorem pS2_in {s:Bs} (h:s.length≤65536):pS2 s=pS s:=if_pos h
theorem iB (n:Int):(pI2 n).length≤9:=by
 unfold pI2;split
 ·exact cE (by assumption)
 ·simp
theorem inR_len {s:Bs} (h:s.length≤65536):inR s.length:=by unfold inR;omega
theorem pS_len {s:Bs} (h:s.length≤65536):(pS s).length≤s.length+9:=by
 have:=cE (inR_len h)
 unfold pS;rw [lA];omega
theorem wK (s:Bs):(pS2 s).length≤65545:=by
 unfold pS2;split
 ·have:=pS_len (s:=s) (by assumption);omega
 ·simp
theorem not_inR {n:Int} (h:¬ inR n):PE.orM (ltM n (-4611686018427387903)) (ltM 4611686018427387903 n)=true:=by
 unfold inR at h
 by_cases h1:n < -4611686018427387903
 ·rw [ltI h1,orT]
 ·rw [ltI (a:=4611686018427387903) (by omega)];unfold PE.orM;simp
theorem wPut_all (n:Int):∃ e,m145 n=some (pI2 n,e):=by
 by_cases h:inR n
 ·exact ⟨0,by rw [wPut_ok h,sI h]⟩
 ·refine ⟨10,?_⟩
  unfold m145 pI2
  try dsimp only
  rw [not_inR h,cT,if_neg h]
theorem wPutS_ok {s:Bs} (h:s.length≤65536):m103 s=some (pS s,0):=by
 unfold m103
 try dsimp only
 rw [mA,geI (by omega),cF,wPut_ok (inR_len h),oB,fC (by have:=cE (inR_len h);dsimp only;omega),oB]
 rfl
theorem wPutS_all (s:Bs):∃ e,m103 s=some (pS2 s,e):=by
 by_cases h:s.length≤65536
 ·exact ⟨0,by rw [wPutS_ok h,pS2_in h]⟩
 ·refine ⟨10,?_⟩
  unfold m103 pS2
  try dsimp only
  rw [mA,ltI (by omega),cT,if_neg h]
def sg2 (r:Rp):Bs:=pI2 r.sv++(pI2 r.nu++(pI2 r.da++(pI2 r.ki++(pI2 r.su++(pI2 r.va++(pI2 r.rf++pS2 r.pv))))))
def en2 (r:Rp):Bs:=sg2 r++pS2 r.tg
theorem sg2_len (r:Rp):(sg2 r).length≤65608:=by
 unfold sg2
 simp only [lA]
 have:=iB r.sv
 have:=iB r.nu
 have:=iB r.da
 have:=iB r.ki
 have:=iB r.su
 have:=iB r.va
 have:=iB r.rf
 have:=wK r.pv
 omega
theorem en2_len (r:Rp):(en2 r).length≤131153:=by
 have:=sg2_len r
 have:=wK r.tg
 unfold en2;rw [lA];omega
theorem seven {f:Int→Bs} (hf:∀ n,(f n).length≤9) {put:Int→Option (List UInt8×Int)} (hp:∀ n,∃ e,put n=some (f n,e)) {cat:List UInt8→List UInt8→Option (List UInt8)} (hc:∀ x y:List UInt8,x.length+y.length≤1000→cat x y=some (x++y)) {l:List Int} (hl:l.length≤7) :
  iA (fun (s:Int×List UInt8)=>bif ltM s.1 (lenM l) then (gA l s.1).bind fun r=>(put r).bind fun r_1=>(cat s.2 r_1.1).bind fun r=>some (Sum.inl (IntKind.wrap .i64 (s.1+1),r)) else some (Sum.inr s.2)) ((0:Int),([]:List UInt8))=some (l.flatMap f):=by
 have hs:∀ k,k≤7→((l.take k).flatMap f).length≤9*k:=fun k=>by
  induction k with
  | zero=>intro _;simp
  | succ k ih =>
   intro hk
   have:=ih (by omega)
   by_cases h:k<l.length
   ·rw [List.take_add_one,gE h,List.flatMap_append,lA]
    have:=hf l[k]
    simp only [Option.toList_some,List.flatMap_cons,List.flatMap_nil,List.append_nil]
    omega
   ·rw [tkL (by omega)]
    rw [tkL (by omega)] at this
    omega
 have:=count_loop (body:=fun (s:Int×List UInt8)=>bif ltM s.1 (lenM l) then (gA l s.1).bind fun r=>(put r).bind fun r_1=>(cat s.2 r_1.1).bind fun r=>some (Sum.inl (IntKind.wrap .i64 (s.1+1),r)) else some (Sum.inr s.2)) (fun k=>(l.take k).flatMap f) l.length (r:=l.flatMap f) (fun k hk=>by
  obtain ⟨e,he⟩:=hp l[k]
  have h1:=hs k (by omega)
  have h2:=hf l[k]
  dsimp only
  rw [mA,ltI (by omega),cT,aB hk,oB,he,oB,hc _ _ (by show _+(f l[k]).length≤1000;omega),oB,fA (by omega) (by omega),List.take_add_one,gE hk,List.flatMap_append]
  simp) (by
  dsimp only
  rw [mA,geI (by omega),cF,List.take_length])
 simpa using this
theorem seven' {f:Int→Bs} (hf:∀ n,(f n).length≤9) {put:Int→Option (List UInt8×Int)} (hp:∀ n,∃ e,put n=some (f n,e)) {cat:List UInt8→List UInt8→Option (List UInt8)} (hc:∀ x y:List UInt8,x.length+y.length≤1000→cat x y=some (x++y)) {l:List Int} (hl:l.length≤7) :
  iA (fun (s:List UInt8×Int)=>bif ltM s.2 (lenM l) then (gA l s.2).bind fun r=>(put r).bind fun r_1=>(cat s.1 r_1.1).bind fun r=>some (Sum.inl (r,IntKind.wrap .i64 (s.2+1))) else some (Sum.inr s.1)) (([]:List UInt8),(0:Int))=some (l.flatMap f):=by
 have hs:∀ k,k≤7→((l.take k).flatMap f).length≤9*k:=fun k=>by
  induction k with
  | zero=>intro _;simp
  | succ k ih =>
   intro hk
   have:=ih (by omega)
   by_cases h:k<l.length
   ·rw [List.take_add_one,gE h,List.flatMap_append,lA]
    have:=hf l[k]
    simp only [Option.toList_some,List.flatMap_cons,List.flatMap_nil,List.append_nil]
    omega
   ·rw [tkL (by omega)]
    rw [tkL (by omega)] at this
    omega
 have:=zH (body:=fun (s:List UInt8×Int)=>bif ltM s.2 (lenM l) then (gA l s.2).bind fun r=>(put r).bind fun r_1=>(cat s.1 r_1.1).bind fun r=>some (Sum.inl (r,IntKind.wrap .i64 (s.2+1))) else some (Sum.inr s.1)) (fun k=>((l.take k).flatMap f,(k:Int))) l.length (r:=l.flatMap f) (fun k hk=>by
  obtain ⟨e,he⟩:=hp l[k]
  have h1:=hs k (by omega)
  have h2:=hf l[k]
  dsimp only
  rw [mA,ltI (by omega),cT,aB hk,oB,he,oB,hc _ _ (by show _+(f l[k]).length≤1000;omega),oB,fA (by omega) (by omega),List.take_add_one,gE hk,List.flatMap_append]
  simp) (by
  dsimp only
  rw [mA,geI (by omega),cF,List.take_length])
 simpa using this
theorem wSg_all (r:Rp):m98 r=some (sg2 r):=by
 unfold m98
 try dsimp only
 rw [seven iB wPut_all (fun x y h=>catB_of (by omega)) (by simp),oB]
 obtain ⟨e,he⟩:=wPutS_all r.pv
 rw [he,oB,catB_of (by have:=wK r.pv;have:=iB r.1;have:=iB r.2.1;have:=iB r.2.2.1;have:=iB r.2.2.2.1;have:=iB r.2.2.2.2.1;have:=iB r.2.2.2.2.2.1;have:=iB r.2.2.2.2.2.2.1;simp only [List.flatMap_cons,List.flatMap_nil,lA,List.length_nil];omega),oB]
 unfold sg2
 simp only [List.flatMap_cons,List.flatMap_nil,aA,List.nil_append]
theorem oK (r:Rp):m44 r=some (en2 r):=by
 unfold m44
 try dsimp only
 obtain ⟨e,he⟩:=wPutS_all r.tg
 have:=sg2_len r
 have:=wK r.tg
 rw [show (r.1,r.2.1,r.2.2.1,r.2.2.2.1,r.2.2.2.2.1,r.2.2.2.2.2.1,r.2.2.2.2.2.2.1,r.2.2.2.2.2.2.2.1,r.2.2.2.2.2.2.2.2)=r from rfl,wSg_all,oB,catB_of (by simp;omega),oB,he,oB,List.nil_append,catB_of (by dsimp only;omega),oB]
 rfl
theorem sg2_ok {r:Rp} (h:OkR r):sg2 r=sg r:=by
 obtain ⟨a1,a2,a3,a4,a5,a6,a7,a8,a9⟩:=h
 unfold sg2 sg
 rw [sI (n:=r.sv) (by unfold inR;omega),sI (n:=r.nu) (by unfold inR;omega),sI (n:=r.da) (by unfold inR;omega),sI (n:=r.ki) (by unfold inR;omega),sI (n:=r.su) (by unfold inR;omega),sI (n:=r.va) (by unfold inR;omega),sI (n:=r.rf) (by unfold inR;omega),pS2_in (by omega)]
theorem pH {r:Rp} (h:OkR r):en2 r=en r:=by
 unfold en2 en
 rw [sg2_ok h,pS2_in (by have:=h.2.2.2.2.2.2.2.1;omega)]
end Go.Proofs.YtdjfiampkhfooaaGreatDoor
namespace Go.Proofs.YtdjfiampkhfooaaGreatDoor
open Go Go.Abs Go.PE Go.Sort Go.Ar
open Go.Proofs (ltOf)
variable [EA]
def gI (a b:Int):Int:=if a<b then -1 else if b<a then 1 else 0
theorem ccmp_eq (a b:Int):m75 (a,b)=some (gI a b):=by
 unfold m75 m124 gI
 dsimp only
 rw [eqI (rfl:a=a),eqI (rfl:b=b),oB,oB,sA,cF,cF]
 by_cases h:a<b
 ·rw [ltI h,cT,if_pos h]
 ·rw [geI (by omega),cF,if_neg h]
  by_cases g:b<a
  ·rw [ltI g,cT,if_pos g]
  ·rw [geI (by omega),cF,if_neg g]
theorem cor_eq (a b:Int):m74 [a,b]=some (if a=0 then b else a):=by
 unfold m74
 rw [xF]
 show Option.bind (Option.bind (bif PE.notM (eqM a 0) then some (Sum.inr (Sum.inr a)) else some (Sum.inl (1:Int))) (Sum.elim (iA _) some)) _=_
 by_cases h1:a=0
 ·have n1:eqM a 0=true:=dT h1
  rw [n1,if_pos h1]
  show Option.bind (iA _ (1:Int)) _=_
  rw [xF]
  show Option.bind (Option.bind (bif PE.notM (eqM b 0) then some (Sum.inr (Sum.inr b)) else some (Sum.inl (2:Int))) (Sum.elim (iA _) some)) _=_
  by_cases h2:b=0
  ·have n2:eqM b 0=true:=dT h2
   rw [n2,h2]
   show Option.bind (iA _ (2:Int)) _=_
   rw [xF]
   rfl
  ·have n2:eqM b 0=false:=dF h2
   rw [n2]
   rfl
 ·have n1:eqM a 0=false:=dF h1
  rw [n1,if_neg h1]
  rfl
theorem slt_eq:∀ (a b:List UInt8),sltM a b=blt a b
 | [],[]=>rfl
 | [],_::_=>rfl
 | _::_,[]=>rfl
 | x::r,y::s=>by
  have ih:=slt_eq r s
  unfold sltM at *
  unfold Op.bytesLess blt
  rw [ih]
  by_cases h1:x<y
  ·rw [if_pos h1,dT h1];rfl
  ·rw [if_neg h1,dF h1]
   by_cases h2:y<x
   ·rw [if_pos h2]
    have:x≠y:=fun e=>by subst e;exact h1 h2
    simp [this]
   ·rw [if_neg h2]
    have:x=y:=u8eq (by rw [UInt8.lt_iff_toNat_lt] at h1 h2;omega)
    simp [this]
theorem blt_asym {a b:Bs} (h:blt a b=true):blt b a=false:=by
 cases e:blt b a
 ·rfl
 ·have:=iI h e;rw [blt_irr] at this;cases this
def cmpS (a b:Bs):Int:=if blt a b then -1 else if blt b a then 1 else 0
theorem ccmps_eq (a b:Bs):m116 (a,b)=some (cmpS a b):=by
 unfold m116 m154 cmpS
 dsimp only
 rw [eqsT (rfl:a=a),eqsT (rfl:b=b),oB,oB,sA,cF,cF,slt_eq]
 cases h:blt a b
 ·rw [cF,if_neg (by simp),orF]
  by_cases g:a=b
  ·rw [eqsT g,sA,cF,if_neg (by rw [g,blt_irr];simp)]
  ·rw [eqsF g,xA,cT,if_pos]
   rcases blt_tri a b with q | q | q
   ·rw [q] at h;cases h
   ·exact absurd q g
   ·exact q
 ·rw [cT,if_pos rfl]
def sH (x y:Rp):Int:=if gI x.sv y.sv=0 then if gI x.nu y.nu=0 then cmpS (en2 x) (en2 y) else gI x.nu y.nu else gI x.sv y.sv
theorem oE {a b:Int}:gI a b=0↔a=b:=by unfold gI;split<;>(try split)<;>omega
theorem cmpI_neg {a b:Int}:gI a b<0↔a<b:=by unfold gI;split<;>(try split)<;>omega
theorem cmpS_neg {a b:Bs}:cmpS a b<0↔blt a b=true:=by
 unfold cmpS;split
 ·simp;assumption
 ·split<;>simp<;>(rename_i h _;simpa using h)
theorem cmpS_self (a:Bs):cmpS a a=0:=by unfold cmpS;rw [blt_irr];rfl
theorem hm68 (x y:Rp):m68 (x,y)=some (sH x y):=by
 obtain ⟨x1,x2,x3,x4,x5,x6,x7,x8,x9⟩:=x
 obtain ⟨y1,y2,y3,y4,y5,y6,y7,y8,y9⟩:=y
 unfold m68 sH
 dsimp only [Rp.sv,Rp.nu]
 rw [ccmp_eq,oB,ccmp_eq,oB,cor_eq,oB]
 by_cases h1:gI x1 y1=0
 ·rw [if_pos h1,if_pos h1]
  by_cases h2:gI x2 y2=0
  ·rw [if_pos h2,h2,eqI rfl,sA,orF]
   by_cases e:(x1,x2,x3,x4,x5,x6,x7,x8,x9)=(y1,y2,y3,y4,y5,y6,y7,y8,y9)
   ·rw [e,cmpS_self]
    simp only [Prod.mk.injEq] at e
    obtain ⟨e1,e2,e3,e4,e5,e6,e7,e8,e9⟩:=e
    rw [eqI e1,eqI e2,eqI e3,eqI e4,eqI e5,eqI e6,eqI e7,eqsT e8,eqsT e9]
    rfl
   ·have:PE.andM (eqM x1 y1) (PE.andM (eqM x2 y2) (PE.andM (eqM x3 y3) (PE.andM (eqM x4 y4) (PE.andM (eqM x5 y5) (PE.andM (eqM x6 y6) (PE.andM (eqM x7 y7) (PE.andM (kB x8 y8) (kB x9 y9))))))))=false:=by
     refine Bool.eq_false_iff.2 fun h=>e ?_
     unfold PE.andM kB at h
     simp only [bA,decide_eq_true_eq] at h
     obtain ⟨e1,e2,e3,e4,e5,e6,e7,e8,e9⟩:=h
     rw [e1,e2,e3,e4,e5,e6,e7,e8,e9]
    rw [this,cF,oK,oB,oK,oB,ccmps_eq,oB]
  ·rw [if_neg h2,neI h2,xA,orT,cT]
 ·rw [if_neg h1,if_neg h1,neI h1,xA,orT,cT]
abbrev lt2 (x y:Rp):Prop:=x.sv<y.sv∨(x.sv=y.sv∧(x.nu<y.nu∨(x.nu=y.nu∧blt (en2 x) (en2 y)=true)))
theorem cf76_neg {x y:Rp}:sH x y<0↔lt2 x y:=by
 unfold sH lt2
 by_cases h1:gI x.sv y.sv=0
 ·rw [if_pos h1]
  have h1':=oE.1 h1
  by_cases h2:gI x.nu y.nu=0
  ·rw [if_pos h2,cmpS_neg]
   have h2':=oE.1 h2
   constructor
   ·intro h;exact .inr ⟨h1',.inr ⟨h2',h⟩⟩
   ·rintro (h | ⟨_,h | ⟨_,h⟩⟩)
    ·omega
    ·omega
    ·exact h
  ·rw [if_neg h2,cmpI_neg]
   have h2':x.nu≠y.nu:=fun e=>h2 (oE.2 e)
   constructor
   ·intro h;exact .inr ⟨h1',.inl h⟩
   ·rintro (h | ⟨_,h | ⟨h,_⟩⟩)
    ·omega
    ·exact h
    ·exact absurd h h2'
 ·rw [if_neg h1,cmpI_neg]
  have h1':x.sv≠y.sv:=fun e=>h1 (oE.2 e)
  constructor
  ·exact .inl
  ·rintro (h | ⟨h,_⟩)
   ·exact h
   ·exact absurd h h1'
theorem lt68 (x y:Rp):ltOf sH x y=true↔lt2 x y:=by
 unfold ltOf
 rw [decide_eq_true_iff];exact cf76_neg
theorem swo68:SWO (ltOf sH) where
 irrefl x:=by
  cases e:ltOf sH x x
  ·rfl
  ·rw [lt68] at e
   unfold lt2 at e
   rw [blt_irr] at e
   simp at e
 trans x y z h1 h2:=by
  rw [lt68] at *
  have:=@iI (en2 x) (en2 y) (en2 z)
  unfold lt2 at *
  rcases h1 with h1 | ⟨e1,h1 | ⟨f1,h1⟩⟩<;>rcases h2 with h2 | ⟨e2,h2 | ⟨f2,h2⟩⟩
  ·omega
  ·omega
  ·omega
  ·omega
  ·omega
  ·omega
  ·omega
  ·omega
  ·exact .inr ⟨by omega,.inr ⟨by omega,this h1 h2⟩⟩
 ntrans x y z h1 h2:=by
  rw [Bool.eq_false_iff] at *
  rw [Ne,lt68] at *
  intro h
  have a1:¬ x.sv<y.sv:=fun q=>h1 (.inl q)
  have a2:¬ y.sv<z.sv:=fun q=>h2 (.inl q)
  rcases h with h | ⟨e,h⟩
  ·omega
  ·have b1:¬ x.nu<y.nu:=fun q=>h1 (.inr ⟨by omega,.inl q⟩)
   have b2:¬ y.nu<z.nu:=fun q=>h2 (.inr ⟨by omega,.inl q⟩)
   rcases h with h | ⟨f,h⟩
   ·omega
   ·have c1:¬ blt (en2 x) (en2 y)=true:=fun q=>h1 (.inr ⟨by omega,.inr ⟨by omega,q⟩⟩)
    have c2:¬ blt (en2 y) (en2 z)=true:=fun q=>h2 (.inr ⟨by omega,.inr ⟨by omega,q⟩⟩)
    rcases blt_tri (en2 x) (en2 y) with q | q | q
    ·exact c1 q
    ·rw [q] at h;exact c2 h
    ·exact c2 (iI q h)
def cf73 (x y:Rp):Int:=if gI x.su y.su=0 then gI x.sv y.sv else gI x.su y.su
theorem lt73 (x y:Rp):ltOf cf73 x y=true↔x.su<y.su∨(x.su=y.su∧x.sv<y.sv):=by
 unfold ltOf cf73
 rw [decide_eq_true_iff]
 by_cases h1:gI x.su y.su=0
 ·rw [if_pos h1,cmpI_neg]
  have:=oE.1 h1
  omega
 ·rw [if_neg h1,cmpI_neg]
  have:x.su≠y.su:=fun e=>h1 (oE.2 e)
  omega
theorem swo73:SWO (ltOf cf73) where
 irrefl x:=by
  cases e:ltOf cf73 x x
  ·rfl
  ·rw [lt73] at e;omega
 trans x y z h1 h2:=by rw [lt73] at *;omega
 ntrans x y z h1 h2:=by
  rw [Bool.eq_false_iff] at *
  rw [Ne,lt73] at *
  omega
end Go.Proofs.YtdjfiampkhfooaaGreatDoor
namespace Go.Proofs
open Go.Shelf
def Tryz.lays72_ren:Go.Shelf.Ren:=⟨fun | 6=>72 | 15=>123 | 14=>122 | 28=>167 | 29=>168 | 20=>159 | 21=>160 | 22=>161 | 23=>162 | 24=>163 | 25=>164 | 26=>165 | 27=>166 | 46=>193 | 47=>194 | 48=>195 | 49=>196 | 50=>197 | 57=>209 | n=>n,fun | 22=>25 | 24=>42 | 25=>121 | 3=>3 | 39=>167 | 0=>0 | 53=>177 | 55=>222 | 4=>4 | 46=>215 | 45=>214 | 50=>119 | 5=>5 | 9=>9 | 66=>257 | 70=>162 | 76=>274 | 77=>275 | n=>n,fun | n=>n⟩
theorem Tryz.lays72:Go.Proofs.SlLaysF0.n6 Tryz.prog Tryz.lays72_ren:={
 mixed:=by kernel_rfl
 f6:=⟨Tryz.f72.name,by decide,Tryz.func72.trans (congrArg some (by kernel_rfl))⟩
 f14:=⟨Tryz.f122.name,by decide,Tryz.func122.trans (congrArg some (by kernel_rfl))⟩
 f15:=Tryz.func123.trans (congrArg some (by kernel_rfl))
 f20:=⟨Tryz.f159.name,by decide,Tryz.func159.trans (congrArg some (by kernel_rfl))⟩
 f21:=⟨Tryz.f160.name,by decide,Tryz.func160.trans (congrArg some (by kernel_rfl))⟩
 f22:=⟨Tryz.f161.name,by decide,Tryz.func161.trans (congrArg some (by kernel_rfl))⟩
 f23:=⟨Tryz.f162.name,by decide,Tryz.func162.trans (congrArg some (by kernel_rfl))⟩
 f24:=⟨Tryz.f163.name,by decide,Tryz.func163.trans (congrArg some (by kernel_rfl))⟩
 f25:=⟨Tryz.f164.name,by decide,Tryz.func164.trans (congrArg some (by kernel_rfl))⟩
 f26:=⟨Tryz.f165.name,by decide,Tryz.func165.trans (congrArg some (by kernel_rfl))⟩
 f27:=⟨Tryz.f166.name,by decide,Tryz.func166.trans (congrArg some (by kernel_rfl))⟩
 f28:=Tryz.func167.trans (congrArg some (by kernel_rfl))
 f29:=Tryz.func168.trans (congrArg some (by kernel_rfl))
 f46:=⟨Tryz.f193.name,by decide,Tryz.func193.trans (congrArg some (by kernel_rfl))⟩
 f47:=Tryz.func194.trans (congrArg some (by kernel_rfl))
 f48:=Tryz.func195.trans (congrArg some (by kernel_rfl))
 f49:=⟨Tryz.f196.name,by decide,Tryz.func196.trans (congrArg some (by kernel_rfl))⟩
 f50:=⟨Tryz.f197.name,by decide,Tryz.func197.trans (congrArg some (by kernel_rfl))⟩
 f57:=⟨Tryz.f209.name,by decide,Tryz.func209.trans (congrArg some (by kernel_rfl))⟩
 t0:=Tryz.underlying0
 a0:=Tryz.isAgg0
 z0:=Tryz.sizeOf0
 v0:=Tryz.zeroValue0
 t3:=Tryz.underlying3
 a3:=Tryz.isAgg3
 z3:=Tryz.sizeOf3
 v3:=Tryz.zeroValue3
 t4:=Tryz.underlying4
 a4:=Tryz.isAgg4
 z4:=Tryz.sizeOf4
 v4:=Tryz.zeroValue4
 t5:=Tryz.underlying5
 a5:=Tryz.isAgg5
 z5:=Tryz.sizeOf5
 v5:=Tryz.zeroValue5
 t9:=Tryz.underlying9
 a9:=Tryz.isAgg9
 z9:=Tryz.sizeOf9
 v9:=Tryz.zeroValue9
 t22:=Tryz.underlying25
 a22:=Tryz.isAgg25
 z22:=Tryz.sizeOf25
 v22:=Tryz.zeroValue25
 t25:=Tryz.underlying121
 a25:=Tryz.isAgg121
 z25:=Tryz.sizeOf121
 v25:=Tryz.zeroValue121
 t39:=Tryz.underlying167
 a39:=Tryz.isAgg167
 z39:=Tryz.sizeOf167
 v39:=Tryz.zeroValue167
 t45:=Tryz.underlying214
 a45:=Tryz.isAgg214
 z45:=Tryz.sizeOf214
 v45:=Tryz.zeroValue214
 t46:=Tryz.underlying215
 a46:=Tryz.isAgg215
 z46:=Tryz.sizeOf215
 v46:=Tryz.zeroValue215
 t50:=Tryz.underlying119
 a50:=Tryz.isAgg119
 z50:=Tryz.sizeOf119
 v50:=Tryz.zeroValue119
 t53:=Tryz.underlying177
 a53:=Tryz.isAgg177
 z53:=Tryz.sizeOf177
 v53:=Tryz.zeroValue177
 t55:=Tryz.underlying222
 a55:=Tryz.isAgg222
 z55:=Tryz.sizeOf222
 v55:=Tryz.zeroValue222
 t66:=Tryz.underlying257
 a66:=Tryz.isAgg257
 z66:=Tryz.sizeOf257
 v66:=Tryz.zeroValue257
 t70:=Tryz.underlying162
 a70:=Tryz.isAgg162
 z70:=Tryz.sizeOf162
 v70:=Tryz.zeroValue162
 t76:=Tryz.underlying274
 a76:=Tryz.isAgg274
 z76:=Tryz.sizeOf274
 v76:=Tryz.zeroValue274
 t77:=Tryz.underlying275
 a77:=Tryz.isAgg275
 z77:=Tryz.sizeOf275
 v77:=Tryz.zeroValue275 }
end Go.Proofs
namespace Go.Proofs.YtdjfiampkhfooaaGreatDoor
open Go Go.Abs Go.PE Go.Sort Go.Ar
open Go.Proofs (ltOf)
end Go.Proofs.YtdjfiampkhfooaaGreatDoor
namespace Go.Proofs.YtdjfiampkhfooaaGreatDoor
open Go Go.Abs Go.PE Go.Proofs
variable [EA]
theorem sort68:SortOK (db:=dbG) Tryz.prog ⟨72,68,(.pair tI (.pair tI (.pair tI (.pair tI (.pair tI (.pair tI (.pair tI (.pair .str .str)))))))),qG (.pair tI (.pair tI (.pair tI (.pair tI (.pair tI (.pair tI (.pair tI (.pair .str .str)))))))) sH⟩:=SortOK_weak (sortOK_of (db:=dbT) rfl (t:=(.pair tI (.pair tI (.pair tI (.pair tI (.pair tI (.pair tI (.pair tI (.pair .str .str))))))))) (cf:=sH) Tryz.lays72 rfl rfl rfl Tryz.isAgg42 Tryz.sizeOf42 Tryz.call72 Tryz.call68 c68 hm68 swo68)
end Go.Proofs.YtdjfiampkhfooaaGreatDoor
namespace Go.Proofs.YtdjfiampkhfooaaGreatDoor
open Go Go.Abs Go.PE Go.Sort Go.Ar
open Go.Proofs (ltOf)
variable [EA]
theorem hm73 (x y:Rp):m73 (x,y)=some (cf73 x y):=by
 unfold m73 cf73
 dsimp only
 rw [ccmp_eq,oB,ccmp_eq,oB,cor_eq,oB]
end Go.Proofs.YtdjfiampkhfooaaGreatDoor
namespace Go.Proofs.YtdjfiampkhfooaaGreatDoor
open Go Go.Abs Go.PE Go.Proofs
variable [EA]
theorem sort73:SortOK (db:=dbG) Tryz.prog ⟨72,73,(.pair tI (.pair tI (.pair tI (.pair tI (.pair tI (.pair tI (.pair tI (.pair .str .str)))))))),qG (.pair tI (.pair tI (.pair tI (.pair tI (.pair tI (.pair tI (.pair tI (.pair .str .str)))))))) cf73⟩:=SortOK_weak (sortOK_of (db:=dbT) rfl (t:=(.pair tI (.pair tI (.pair tI (.pair tI (.pair tI (.pair tI (.pair tI (.pair .str .str))))))))) (cf:=cf73) Tryz.lays72 rfl rfl rfl Tryz.isAgg42 Tryz.sizeOf42 Tryz.call72 Tryz.call73 c73 hm73 swo73)
end Go.Proofs.YtdjfiampkhfooaaGreatDoor
namespace Go.Proofs.YtdjfiampkhfooaaGreatDoor
open Go Go.Abs Go.PE Go.Proofs
open Go.IntKind (wrap)
set_option maxRecDepth 100000
variable [EA]
noncomputable section
def tabsB124:Tabs:=Tabs.add tabsX 124 ⟨as124,rs124,m124⟩
theorem tabsB124OK:TabOK Tryz.prog tabsB124:=TabOK.add tabsXOK (SpecOK_weak c124) Tryz.call124
def tabsB75:Tabs:=Tabs.add tabsB124 75 ⟨as75,rs75,m75⟩
theorem tabsB75OK:TabOK Tryz.prog tabsB75:=TabOK.add tabsB124OK (SpecOK_weak c75) Tryz.call75
def tabsB74:Tabs:=Tabs.add tabsB75 74 ⟨as74,rs74,m74⟩
theorem tabsB74OK:TabOK Tryz.prog tabsB74:=TabOK.add tabsB75OK (SpecOK_weak c74) Tryz.call74
def tabsB145:Tabs:=Tabs.add tabsB74 145 ⟨as145,rs145,m145⟩
theorem tabsB145OK:TabOK Tryz.prog tabsB145:=TabOK.add tabsB74OK (SpecOK_weak c145) Tryz.call145
def tabsB103:Tabs:=Tabs.add tabsB145 103 ⟨as103,rs103,m103⟩
theorem tabsB103OK:TabOK Tryz.prog tabsB103:=TabOK.add tabsB145OK (SpecOK_weak c103) Tryz.call103
def tabsB98:Tabs:=Tabs.add tabsB103 98 ⟨as98,rs98,m98⟩
theorem tabsB98OK:TabOK Tryz.prog tabsB98:=TabOK.add tabsB103OK (SpecOK_weak c98) Tryz.call98
def tabsB44:Tabs:=Tabs.add tabsB98 44 ⟨as44,rs44,m44⟩
theorem tabsB44OK:TabOK Tryz.prog tabsB44:=TabOK.add tabsB98OK (SpecOK_weak c44) Tryz.call44
def tabsB154:Tabs:=Tabs.add tabsB44 154 ⟨as154,rs154,m154⟩
theorem tabsB154OK:TabOK Tryz.prog tabsB154:=TabOK.add tabsB44OK (SpecOK_weak c154) Tryz.call154
def tabsB116:Tabs:=Tabs.add tabsB154 116 ⟨as116,rs116,m116⟩
theorem tabsB116OK:TabOK Tryz.prog tabsB116:=TabOK.add tabsB154OK (SpecOK_weak c116) Tryz.call116
def tabsB68:Tabs:=Tabs.add tabsB116 68 ⟨as68,rs68,m68⟩
theorem tabsB68OK:TabOK Tryz.prog tabsB68:=TabOK.add tabsB116OK (SpecOK_weak c68) Tryz.call68
def tabsS68:Tabs:=Tabs.addSo tabsB68 ⟨72,68,(.pair tI (.pair tI (.pair tI (.pair tI (.pair tI (.pair tI (.pair tI (.pair .str .str)))))))),qG (.pair tI (.pair tI (.pair tI (.pair tI (.pair tI (.pair tI (.pair tI (.pair .str .str)))))))) sH⟩
theorem tabsS68OK:TabOK Tryz.prog tabsS68:=TabOK.addSo tabsB68OK sort68
def tabsB73:Tabs:=Tabs.add tabsS68 73 ⟨as73,rs73,m73⟩
theorem tabsB73OK:TabOK Tryz.prog tabsB73:=TabOK.add tabsS68OK (SpecOK_weak c73) Tryz.call73
def tabsS73:Tabs:=Tabs.addSo tabsB73 ⟨72,73,(.pair tI (.pair tI (.pair tI (.pair tI (.pair tI (.pair tI (.pair tI (.pair .str .str)))))))),qG (.pair tI (.pair tI (.pair tI (.pair tI (.pair tI (.pair tI (.pair tI (.pair .str .str)))))))) cf73⟩
theorem tabsS73OK:TabOK Tryz.prog tabsS73:=TabOK.addSo tabsB73OK sort73
def tabsY:Tabs:=tabsS73
theorem tabsYOK:TabOK Tryz.prog tabsY:=tabsS73OK

/-! putlog/archive.within -/
def as97:List Ty:=[tI,tI,tI]
def rs97:List Ty:=[.bool]
def an97:Ann:=.a
def m97:(Int×Int×Int)→Option (Bool) :=
 fun x=>some (PE.andM (leM x.2.1 x.1) (leM x.1 x.2.2))
theorem c97:SpecOK Tryz.prog 97 ⟨as97,rs97,m97⟩ :=
 fc tabsYOK [] an97 Tryz.f97 fun x=>by kernel_rfl
def tabs97:Tabs:=Tabs.add tabsY 97 ⟨as97,rs97,m97⟩
theorem tabs97OK:TabOK Tryz.prog tabs97:=TabOK.add tabsYOK c97 Tryz.call97

/-! putlog/archive.isValid -/
def as43:List Ty:=[tR]
def rs43:List Ty:=[.bool]
def an43:Ann:=.a
def m43:(Int×Int×Int×Int×Int×Int×Int×List UInt8×List UInt8)→Option (Bool) :=
 fun x=>(m97 (x.1,0,7)).bind fun r=>(bif PE.notM (PE.notM r) then m97 (x.2.1,0,39) else some false).bind fun r_1=>(bif PE.notM (PE.orM (PE.notM r)
 (PE.notM r_1)) then m97 (x.2.2.1,0,800000) else some false).bind fun r_2=>bif PE.orM (PE.orM (PE.orM (PE.orM (PE.notM r) (PE.notM r_1)) (PE.notM r_2))
 (PE.notM (eqM (lenM x.2.2.2.2.2.2.2.1) 32))) (PE.notM (eqM (lenM x.2.2.2.2.2.2.2.2) 32)) then some false else bif eqM x.2.2.2.1 1 then (m97 (x.2.2.2.2.1,0,
 99)).bind fun r_3=>(bif r_3 then m97 (x.2.2.2.2.2.1,(-10000),10000) else some false).bind fun r=>some (PE.andM (PE.andM r_3 r) (eqM x.2.2.2.2.2.2.1
 (-1))) else bif eqM x.2.2.2.1 2 then (bif PE.andM (eqM x.2.2.2.2.1 0) (eqM x.2.2.2.2.2.1 0) then m97 (x.2.2.2.2.2.2.1,0,wrap .i64 (x.2.1-1)) else
 some false).bind fun r=>some (PE.andM (PE.andM (eqM x.2.2.2.2.1 0) (eqM x.2.2.2.2.2.1 0)) r) else some false
theorem c43:SpecOK Tryz.prog 43 ⟨as43,rs43,m43⟩ :=
 fc tabs97OK [] an43 Tryz.f43 fun x=>by kernel_rfl
def tabs43:Tabs:=Tabs.add tabs97 43 ⟨as43,rs43,m43⟩
theorem tabs43OK:TabOK Tryz.prog tabs43:=TabOK.add tabs97OK c43 Tryz.call43

/-! putlog/archive.Valid -/
def as28:List Ty:=[(.one (.list tR))]
def rs28:List Ty:=[.bool]
def an28:Ann:=.seq (.a) (.seq (.seq (.a) (.block (.loop ⟨[(8,.r (.c (.d (.d tI))))],(3::4::ra 9 23 ([])),[],[]⟩ [(.exit 0,⟨[],(3::4::ra 8 24 ([])),[],[]⟩),(.ret,⟨[(2,.r (.c (.d (.d .bool))))],(3::4::ra 8 24 ([])),[],[]⟩)] (.seq (.a) (.seq (.a) (.seq (.block (.seq (.a) (.seq (.reg [0,1,3,7,15,31,63,127,255,127,639,2047,4095,127,16383,32767,65535,131071] (ra 0 18 ([])) (.s [1] []::za 7 (.s [0] []::za 4 (.s [1] []::za 4 ([])))) (.a)) (.a)))) (.a))))))) (.a))
def m28:(List (Int×Int×Int×Int×Int×Int×Int×List UInt8×List UInt8))→Option (Bool) :=
 fun x=>(iA (fun (s:Int)=>bif ltM s (lenM x) then (gA x s).bind fun r=>(m43 (r.1,r.2.1,r.2.2.1,r.2.2.2.1,r.2.2.2.2.1,r.2.2.2.2.2.1,
 r.2.2.2.2.2.2.1,r.2.2.2.2.2.2.2.1,r.2.2.2.2.2.2.2.2)).bind fun r_1=>(bif PE.andM (PE.notM (PE.notM r_1)) (ltM 0 s) then gA x (wrap .i64 (s-1))
 else some (0,0,0,0,0,0,0,[],[])).bind fun r_2=>(bif PE.andM (PE.notM (PE.notM r_1)) (ltM 0 s) then m68 ((r_2.1,r_2.2.1,r_2.2.2.1,r_2.2.2.2.1,
 r_2.2.2.2.2.1,r_2.2.2.2.2.2.1,r_2.2.2.2.2.2.2.1,r_2.2.2.2.2.2.2.2.1,r_2.2.2.2.2.2.2.2.2),r.1,r.2.1,r.2.2.1,r.2.2.2.1,r.2.2.2.2.1,r.2.2.2.2.2.1,
 r.2.2.2.2.2.2.1,r.2.2.2.2.2.2.2.1,r.2.2.2.2.2.2.2.2) else some 0).bind fun r=>bif PE.orM (PE.notM r_1) (PE.andM (ltM 0 s) (leM 0 r)) then some (Sum.inr
 (Sum.inr false)) else some (Sum.inl (wrap .i64 (s+1))) else some (Sum.inr (Sum.inl ()))) 0).bind fun o=>Sum.elim (fun (t:Unit)=>some (leM (lenM
 x) 40)) (fun (t:Bool)=>some t) o
theorem c28:SpecOK Tryz.prog 28 ⟨as28,rs28,m28⟩ :=
 fc tabs43OK [] an28 Tryz.f28 fun x=>by kernel_rfl
def tabs28:Tabs:=Tabs.add tabs43 28 ⟨as28,rs28,m28⟩
theorem tabs28OK:TabOK Tryz.prog tabs28:=TabOK.add tabs43OK c28 Tryz.call28

/-! putlog/digest.mixed -/
def as192:List Ty:=[(.int .u32),tL]
def rs192:List Ty:=[(.int .u32)]
def an192:Ann:=.seq (.a) (.seq (.a) (.seq (.seq (.a) (.block (.loop ⟨[(5,.r (.c (.d (.d (.int .u32))))),(10,.r (.c (.d (.d tI))))],(7::ra 11 10 ([])),[],[]⟩ [(.exit 0,⟨[(5,.r (.c (.d (.d (.int .u32)))))],(7::ra 10 11 ([])),[],[]⟩)] (.seq (.a) (.seq (.a) (.seq (.block (.seq (.a) (.reg [] [] [z0,z0,z0,z0,.r,z0,z0] (.call [] [] (.seq (.a) (.a)) (.a))))) (.a))))))) (.a)))
def m192:(Int×List Int)→Option (Int) :=
 fun x=>(iA (fun (s:Int×Int)=>bif ltM s.2 (lenM x.2) then (gA x.2 s.2).bind fun r=>(qI .u32 x.1 (uA BinOp.and .u64 (wrap
 IntKind.u64 (wrap .i64 (negM r))) 31)).bind fun r_1=>(rG .u32 x.1 (wrap .u64 (32-uA BinOp.and .u64 (wrap .u64 (wrap
 IntKind.i64 (negM r))) 31))).bind fun r=>some (Sum.inl (uA BinOp.xor .u32 s.1 (uA BinOp.or .u32 r_1 r),wrap .i64 (s.2+1))) else
 some (Sum.inr s.1)) (0,0)).bind fun o=>some o
theorem c192:SpecOK Tryz.prog 192 ⟨as192,rs192,m192⟩ :=
 fc tabs28OK [] an192 Tryz.f192 fun x=>by kernel_rfl
def tabs192:Tabs:=Tabs.add tabs28 192 ⟨as192,rs192,m192⟩
theorem tabs192OK:TabOK Tryz.prog tabs192:=TabOK.add tabs28OK c192 Tryz.call192

/-! (putlog/digest.words).digest -/
def as157:List Ty:=[(.pair (.int .u32) (.pair (.int .u32) (.pair (.int .u32) (.pair (.int .u32) (.pair (.int .u32) (.pair (.int .u32) (.pair (.int .u32) (.int .u32))))))))]
def rs157:List Ty:=[.str]
def an157:Ann:=.seq (.a) (.seq (.a) (.seq (.seq (.a) (.block (.loop ⟨[(8,.r (.c (.d (.d tI))))],(4::5::6::ra 9 19 ([])),[(1,.flat 32 (.int .u8))],[]⟩ [(.exit 0,⟨[],(4::5::6::ra 8 20 ([])),[(1,.flat 32 (.int .u8))],[]⟩)] (.seq (.a) (.seq (.a) (.seq (.block (.seq (.a) (.seq (.a) (.block (.loop ⟨[(12,.r (.c (.d (.d tI))))],(6::ra 13 14 ([])),[(1,.flat 32 (.int .u8))],[]⟩ [(.exit 2,⟨[],(6::ra 12 15 ([])),[(1,.flat 32 (.int .u8))],[]⟩)] (.a)))))) (.a))))))) (.a)))
def m157:(Int×Int×Int×Int×Int×Int×Int×Int)→Option (List UInt8) :=
 fun x=>(iA (fun (s:Int×List Int)=>bif ltM s.1 8 then (gA [x.1,x.2.1,x.2.2.1,x.2.2.2.1,x.2.2.2.2.1,x.2.2.2.2.2.1,x.2.2.2.2.2.2.1,
 x.2.2.2.2.2.2.2] s.1).bind fun r=>(iA (fun (s_1:Int×List Int)=>bif ltM s_1.1 4 then (rG .u32 r (wrap .i64 (24-wrap .i64 (8
 * s_1.1)))).bind fun r_1=>(oA (wrap .i64 (wrap .i64 (4*s.1)+s_1.1)) ↑(nat_lit 32)).bind fun r_2=>(wE s_1.2 (↑(nat_lit 0)+wrap
 IntKind.i64 (wrap .i64 (4*s.1)+s_1.1)*↑(nat_lit 1)) fun (x:Int)=>some (wrap .u8 r_1)).bind fun r=>some (Sum.inl (wrap IntKind.i64
 (s_1.1+1),r)) else some (Sum.inr s_1.2)) (0,s.2)).bind fun o=>some (Sum.inl (wrap .i64 (s.1+1),o)) else some (Sum.inr s.2)) (0,[0,0,0,0,
 0,0,0,0,0,0,0,0,0,0,0,0,0,0,0,0,0,0,0,0,0,0,0,0,0,0,0,0])).bind fun o=>some (oC (rC o (nat_lit 0) (nat_lit 32)))
theorem c157:SpecOK Tryz.prog 157 ⟨as157,rs157,m157⟩ :=
 fc tabs192OK [1,3] an157 Tryz.f157 fun x=>by kernel_rfl
def tabs157:Tabs:=Tabs.add tabs192 157 ⟨as157,rs157,m157⟩
theorem tabs157OK:TabOK Tryz.prog tabs157:=TabOK.add tabs192OK c157 Tryz.call157

/-! putlog/digest.Sum -/
def as117:List Ty:=[.str]
def rs117:List Ty:=[.str]
def an117:Ann:=.seq (.a) (.seq (.a) (.seq (.a) (.seq (.block (.loop ⟨[(4,.r (.c (.h 3)))],(ra 12 7 ([])),[(2,.gone)],[.arr (.int .u8)]⟩ [(.exit 0,⟨[(4,.r (.c (.h 3)))],(ra 12 7 ([])),[(2,.gone)],[.arr (.int .u8)]⟩)] (.a))) (.seq (.seq (.a) (.block (.loop ⟨[(4,.r (.c (.h 4))),(5,.r (.c (.d (.d tI))))],(ra 19 14 ([])),[(3,.gone)],[.arr (.int .u8)]⟩ [(.exit 2,⟨[(4,.r (.c (.h 4)))],(5::ra 19 14 ([])),[(3,.gone)],[.arr (.int .u8)]⟩)] (.a)))) (.seq (.seq (.reg [] [] [z0,.r] (.call [] [] (.seq (.a) (.a)) (.a))) (.block (.call [] [] (.seq (.a) (.block (.loop ⟨[(4,.r (.c (.d (.d tI))))],(ra 5 26 ([])),[(0,.flat 8 (.int .u32)),(4,.frz (.int .u8)),(7,.lp .ready)],[]⟩ [(.exit 0,⟨[],(ra 4 27 ([])),[(0,.flat 8 (.int .u32)),(4,.frz (.int .u8)),(7,.lp .ready)],[]⟩)] (.seq (.a) (.seq (.block (.seq (.reg [0,0,0,6,14,31,63] (ra 0 7 ([])) (.s [6] []::.s [5] []::z0::.s [4] []::za 3 ([])) (.a)) (.seq (.reg [] [] [z0,.s [5] [],z0,z0,z0,z0,z0,z0,z0,.s [4] [],.r,z0] (.call [3] [] (.seq (.a) (.block (.reg [] [] [z0,.r] (.call [4,5] [] (.seq (.reg [] [] [z0,.r,.s [] [9],.s [9] [9]] (.call [2] [] (.seq (.a) (.seq (.seq (.a) (.block (.loop ⟨[(7,.r (.c (.d (.d tI))))],(3::ra 8 38 ([])),[(8,.flat 64 (.int .u32))],[]⟩ [(.exit 0,⟨[],(3::ra 7 39 ([])),[(8,.flat 64 (.int .u32))],[]⟩)] (.seq (.a) (.seq (.a) (.seq (.block (.seq (.a) (.reg [0,0,0,4,14,30,62,126,0,0,512,1536,3840,7936,16128,32512,65534,0,0,262144,786432,1966080,4063232,8257536,16646144,33554430,0,0,134217728,402653184,1006632960,2080374784,4227858432,8589934590,17179869183,34359738367] (ra 0 36 ([])) (za 34 (.s [8] []::.s [8] [8]::[])) (.a)))) (.a))))))) (.seq (.seq (.a) (.block (.loop ⟨[(4,.r (.c (.d (.d tI))))],(5::6::ra 46 37 ([])),[(8,.flat 64 (.int .u32))],[]⟩ [(.exit 2,⟨[],(4::5::6::ra 46 37 ([])),[(8,.flat 64 (.int .u32))],[]⟩)] (.seq (.a) (.seq (.block (.seq (.reg [0,1,3,7,0,16,48,112,15,511] (ra 0 10 ([])) [z0,z0,.s [8] [],.s [8] [],z0,z0,.s [8] [],.s [8] [],z0,z0] (.a)) (.reg [0,0,2,6,14,0,0,96,0,256,992,2046,0,4096,12288,28672,65534,0,0,393440,0,1048576,4063456,8388606,16777215,33554431] (ra 0 26 ([])) (za 3 (.s [8] []::.s [8] []::za 9 (.s [8] []::.s [8] []::za 8 (.s [8] []::.s [8] [8]::[])))) (.a)))) (.a)))))) (.a)))) (.a))) (.seq (.a) (.seq (.seq (.a) (.block (.loop ⟨[(19,.r (.c (.d (.d tI))))],(ra 6 6 (ra 20 62 ([]))),[(10,.flat 8 (.int .u32))],[]⟩ [(.exit 0,⟨[],(ra 6 6 (ra 19 63 ([]))),[(10,.flat 8 (.int .u32))],[]⟩)] (.seq (.a) (.seq (.a) (.seq (.block (.seq (.a) (.seq (.reg [0,1,0,4,3,31] (ra 0 6 ([])) [z0,.s [10] [],z0,.s [10] [],z0,z0] (.a)) (.seq (.reg [0,1,0,0,12,31,0,0,128,448,0,1024,0,4096,15360,32704,65535,0,262143,0,524288,1572864,4194303,8388607] (ra 0 24 ([])) (z0::.s [10] []::za 6 (.s [10] []::za 4 (.s [10] []::za 6 (.s [9] []::.s [9] []::z0::z0::[])))) (.a)) (.seq (.reg [0,0,3,0,0,16,56,0,0,256,896,2040,0,4096,0,16384,61440,131064,262143,524287] (ra 0 20 ([])) (za 5 (.s [10] []::za 3 (.s [10] []::za 3 (.s [10] []::z0::.s [10] []::za 4 ([]))))) (.a)) (.seq (.reg [0,0,3] [0,1,2] [.s [10] [],.s [10] [],.s [10,10] [10]] (.a)) (.a))))))) (.a))))))) (.seq (.a) (.block (.loop ⟨[(82,.r (.c (.d (.d tI))))],(12::ra 83 14 ([])),[(0,.flat 8 (.int .u32))],[]⟩ [(.exit 2,⟨[],(12::ra 82 15 ([])),[(0,.flat 8 (.int .u32))],[]⟩)] (.seq (.a) (.seq (.a) (.seq (.block (.seq (.a) (.reg [0,0,1,7,15,0,32,96,255,1,1023,2047] (ra 0 12 ([])) (za 3 (.s [0] []::.s [0] []::z0::.s [10] []::.s [10] []::z0::z0::.s [0] []::.s [0] [0]::[])) (.a)))) (.a)))))))))) (.a))))) (.a))) (.a)))) (.a)))))) (.a)))) (.a))))))
def m117:List UInt8→Option (List UInt8) :=
 fun x=>(bytesM x).bind fun r=>(eB (nat_lit 1) r [128]).bind fun r_1=>(iA (fun (s:List Int)=>(remM (lenM s) 64).bind fun r_2=>bif PE.notM (eqM
 r_2 56) then (eB (nat_lit 1) s [0]).bind fun r=>some (Sum.inl r) else some (Sum.inr s)) r_1).bind fun o=>(iA (fun (s:Int×List Int)=>bif leM 0
 s.1 then (rG .i64 (wrap .i64 (8*lenM x)) (wrap .i64 (8*s.1))).bind fun r_2=>(eB (nat_lit 1) s.2 [wrap .u8 r_2]).bind fun
 r=>some (Sum.inl (wrap .i64 (s.1-1),r)) else some (Sum.inr s.2)) (7,o)).bind fun o_1=>(iA (fun (s:Int×List Int×List Int)=>bif ltM
 s.1 (lenM s.2.2) then (pA s.2.2 s.1 (lenM s.2.2)).bind fun r_2=>((jJ (wrap .i64 (s.1+min 64 (lenM r_2))) (wrap .i64 (s.1+min 64
 (lenM r_2)))).bind fun (x:Unit)=>pA s.2.2 s.1 (wrap .i64 (s.1+min 64 (lenM r_2)))).bind fun r_3=>(iA (fun (s_1:Int×List Int)=>bif
 ltM s_1.1 16 then (gA r_3 (wrap .i64 (4*s_1.1))).bind fun r_4=>(qI .u32 (wrap .u32 r_4) 24).bind fun r_5=>(gA r_3 (wrap
 IntKind.i64 (wrap .i64 (4*s_1.1)+1))).bind fun r_6=>(qI .u32 (wrap .u32 r_6) 16).bind fun r_7=>(gA r_3 (wrap IntKind.i64
 (wrap .i64 (4*s_1.1)+2))).bind fun r_8=>(qI .u32 (wrap .u32 r_8) 8).bind fun r_9=>(gA r_3 (wrap .i64 (wrap IntKind.i64
 (4*s_1.1)+3))).bind fun r_10=>(oA s_1.1 ↑(nat_lit 64)).bind fun r_11=>(wE s_1.2 (↑(nat_lit 0)+s_1.1*↑(nat_lit 1)) fun (x:Int)=>some (uA
 BinOp.or IntKind.u32 (uA BinOp.or .u32 (uA BinOp.or .u32 r_5 r_7) r_9) (wrap .u32 r_10))).bind fun r=>some (Sum.inl (wrap
 IntKind.i64 (s_1.1+1),r)) else some (Sum.inr s_1.2)) (0,[0,0,0,0,0,0,0,0,0,0,0,0,0,0,0,0,0,0,0,0,0,0,0,0,0,0,0,0,0,0,0,0,
 0,0,0,0,0,0,0,0,0,0,0,0,0,0,0,0,0,0,0,0,0,0,0,0,0,0,0,0,0,0,0,0])).bind fun o_2=>(iA (fun (s_1:Int×List Int)=>bif
 ltM s_1.1 64 then (oA (wrap .i64 (s_1.1-15)) ↑(nat_lit 64)).bind fun r_4=>(gA s_1.2 (↑(nat_lit 0)+wrap .i64 (s_1.1-15)*↑(nat_lit
 1))).bind fun r_5=>(oA (wrap .i64 (s_1.1-2)) ↑(nat_lit 64)).bind fun r_6=>(gA s_1.2 (↑(nat_lit 0)+wrap .i64 (s_1.1-2)*↑(nat_lit
 1))).bind fun r_7=>(oA (wrap .i64 (s_1.1-16)) ↑(nat_lit 64)).bind fun r_8=>(gA s_1.2 (↑(nat_lit 0)+wrap .i64 (s_1.1-16) *
 ↑(nat_lit 1))).bind fun r_9=>(m192 (r_5,[7,18])).bind fun r_10=>(rG .u32 r_5 3).bind fun r_11=>(oA (wrap .i64 (s_1.1-7)) ↑(nat_lit
 64)).bind fun r_12=>(gA s_1.2 (↑(nat_lit 0)+wrap .i64 (s_1.1-7)*↑(nat_lit 1))).bind fun r_13=>(m192 (r_7,[17,19])).bind fun r_14=>(rG
 IntKind.u32 r_7 10).bind fun r_15=>(oA s_1.1 ↑(nat_lit 64)).bind fun r_16=>(wE s_1.2 (↑(nat_lit 0)+s_1.1*↑(nat_lit 1)) fun (x:Int)=>some (wrap
 IntKind.u32 (wrap .u32 (wrap .u32 (r_9+uA BinOp.xor .u32 r_10 r_11)+r_13)+uA BinOp.xor .u32 r_14 r_15))).bind fun r =>
 some (Sum.inl (wrap .i64 (s_1.1+1),r)) else some (Sum.inr s_1.2)) (16,o_2)).bind fun o_3=>(iA (fun (s_1:Int×List Int)=>bif ltM s_1.1 64
 then (gA [1116352408,1899447441,3049323471,3921009573,961987163,1508970993,2453635748,2870763221,3624381080,310598401,607225278,1426881987,
 1925078388,2162078206,2614888103,3248222580,3835390401,4022224774,264347078,604807628,770255983,1249150122,1555081692,1996064986,2554220882,
 2821834349,2952996808,3210313671,3336571891,3584528711,113926993,338241895,666307205,773529912,1294757372,1396182291,1695183700,1986661051,
 2177026350,2456956037,2730485921,2820302411,3259730800,3345764771,3516065817,3600352804,4094571909,275423344,430227734,506948616,659060556,
 883997877,958139571,1322822218,1537002063,1747873779,1955562222,2024104815,2227730452,2361852424,2428436474,2756734187,3204031479,3329325298]
 s_1.1).bind fun r_4=>(gA s_1.2 ↑(nat_lit 0)).bind fun r_5=>(gA s_1.2 ↑(nat_lit 4)).bind fun r_6=>(gA s_1.2 ↑(nat_lit 7)).bind fun r_7=>(m192
 (r_6,[6,11,25])).bind fun r_8=>(gA s_1.2 ↑(nat_lit 5)).bind fun r_9=>(gA s_1.2 ↑(nat_lit 6)).bind fun r_10=>(oA s_1.1 ↑(nat_lit 64)).bind fun
 r_11=>(gA [qA o_3 (nat_lit 0) 0,qA o_3 (nat_lit 1) 0,qA o_3 (nat_lit 2) 0,qA o_3 (nat_lit 3) 0,qA o_3 (nat_lit 4) 0,qA o_3 (nat_lit 5) 0,
 qA o_3 (nat_lit 6) 0,qA o_3 (nat_lit 7) 0,qA o_3 (nat_lit 8) 0,qA o_3 (nat_lit 9) 0,qA o_3 (nat_lit 10) 0,qA o_3 (nat_lit 11) 0,qA o_3
 (nat_lit 12) 0,qA o_3 (nat_lit 13) 0,qA o_3 (nat_lit 14) 0,qA o_3 (nat_lit 15) 0,qA o_3 (nat_lit 16) 0,qA o_3 (nat_lit 17) 0,qA o_3 (nat_lit
 18) 0,qA o_3 (nat_lit 19) 0,qA o_3 (nat_lit 20) 0,qA o_3 (nat_lit 21) 0,qA o_3 (nat_lit 22) 0,qA o_3 (nat_lit 23) 0,qA o_3 (nat_lit 24) 0,
 qA o_3 (nat_lit 25) 0,qA o_3 (nat_lit 26) 0,qA o_3 (nat_lit 27) 0,qA o_3 (nat_lit 28) 0,qA o_3 (nat_lit 29) 0,qA o_3 (nat_lit 30) 0,qA o_3
 (nat_lit 31) 0,qA o_3 (nat_lit 32) 0,qA o_3 (nat_lit 33) 0,qA o_3 (nat_lit 34) 0,qA o_3 (nat_lit 35) 0,qA o_3 (nat_lit 36) 0,qA o_3 (nat_lit
 37) 0,qA o_3 (nat_lit 38) 0,qA o_3 (nat_lit 39) 0,qA o_3 (nat_lit 40) 0,qA o_3 (nat_lit 41) 0,qA o_3 (nat_lit 42) 0,qA o_3 (nat_lit 43) 0,
 qA o_3 (nat_lit 44) 0,qA o_3 (nat_lit 45) 0,qA o_3 (nat_lit 46) 0,qA o_3 (nat_lit 47) 0,qA o_3 (nat_lit 48) 0,qA o_3 (nat_lit 49) 0,qA o_3
 (nat_lit 50) 0,qA o_3 (nat_lit 51) 0,qA o_3 (nat_lit 52) 0,qA o_3 (nat_lit 53) 0,qA o_3 (nat_lit 54) 0,qA o_3 (nat_lit 55) 0,qA o_3 (nat_lit
 56) 0,qA o_3 (nat_lit 57) 0,qA o_3 (nat_lit 58) 0,qA o_3 (nat_lit 59) 0,qA o_3 (nat_lit 60) 0,qA o_3 (nat_lit 61) 0,qA o_3 (nat_lit 62) 0,
 qA o_3 (nat_lit 63) 0] (↑(nat_lit 0)+s_1.1*↑(nat_lit 1))).bind fun r_12=>(m192 (r_5,[2,13,22])).bind fun r_13=>(gA s_1.2 ↑(nat_lit 1)).bind fun
 r_14=>(gA s_1.2 ↑(nat_lit 2)).bind fun r_15=>(gA s_1.2 ↑(nat_lit 1)).bind fun r_16=>(gA s_1.2 ↑(nat_lit 2)).bind fun r_17=>(gA (moveV s_1.2
 (nat_lit 1) (nat_lit 0) (nat_lit 7)) ↑(nat_lit 4)).bind fun r_18=>(wE (moveV s_1.2 (nat_lit 1) (nat_lit 0) (nat_lit 7)) ↑(nat_lit 0) fun (x:Int)=>some
 (wrap .u32 (wrap .u32 (wrap .u32 (wrap .u32 (wrap .u32 (r_7+r_8)+uA BinOp.xor .u32 (uA BinOp.and IntKind.u32
 r_6 r_9) (uA BinOp.and .u32 (cplM .u32 r_6) r_10))+r_4)+r_12)+wrap .u32 (r_13+uA BinOp.xor .u32 (uA BinOp.xor
 IntKind.u32 (uA BinOp.and .u32 r_5 r_14) (uA BinOp.and .u32 r_5 r_15)) (uA BinOp.and .u32 r_16 r_17))))).bind fun r_19=>(wE
 r_19 ↑(nat_lit 4) fun (x:Int)=>some (wrap .u32 (r_18+wrap .u32 (wrap .u32 (wrap .u32 (wrap .u32 (r_7+r_8)+uA
 BinOp.xor IntKind.u32 (uA BinOp.and .u32 r_6 r_9) (uA BinOp.and .u32 (cplM .u32 r_6) r_10))+r_4)+r_12)))).bind fun r=>some
 (Sum.inl (wrap .i64 (s_1.1+1),r)) else some (Sum.inr s_1.2)) (0,[qA s.2.1 (nat_lit 0) 0,qA s.2.1 (nat_lit 1) 0,qA s.2.1 (nat_lit 2) 0,qA
 s.2.1 (nat_lit 3) 0,qA s.2.1 (nat_lit 4) 0,qA s.2.1 (nat_lit 5) 0,qA s.2.1 (nat_lit 6) 0,qA s.2.1 (nat_lit 7) 0])).bind fun o_4=>(iA (fun
 (s_1:Int×List Int)=>bif ltM s_1.1 8 then (oA s_1.1 ↑(nat_lit 8)).bind fun r_4=>(gA s_1.2 (↑(nat_lit 0)+s_1.1*↑(nat_lit 1))).bind fun r_5 =>
 (oA s_1.1 ↑(nat_lit 8)).bind fun r_6=>(gA o_4 (↑(nat_lit 0)+s_1.1*↑(nat_lit 1))).bind fun r_7=>(oA s_1.1 ↑(nat_lit 8)).bind fun r_8=>(wE
 s_1.2 (↑(nat_lit 0)+s_1.1*↑(nat_lit 1)) fun (x:Int)=>some (wrap .u32 (r_5+r_7))).bind fun r=>some (Sum.inl (wrap .i64 (s_1.1+1),
 r)) else some (Sum.inr s_1.2)) (0,s.2.1)).bind fun o=>some (Sum.inl (wrap .i64 (s.1+64),o,s.2.2)) else some (Sum.inr (s.2.1,s.2.2))) (0,
 [1779033703,3144134277,1013904242,2773480762,1359893119,2600822924,528734635,1541459225],o_1)).bind fun o_2=>(m157 (qA o_2.1 (nat_lit 0) 0,qA
 o_2.1 (nat_lit 1) 0,qA o_2.1 (nat_lit 2) 0,qA o_2.1 (nat_lit 3) 0,qA o_2.1 (nat_lit 4) 0,qA o_2.1 (nat_lit 5) 0,qA o_2.1 (nat_lit 6) 0,qA
 o_2.1 (nat_lit 7) 0)).bind fun r=>some r
theorem c117:SpecOK Tryz.prog 117 ⟨as117,rs117,m117⟩ :=
 fc tabs157OK [3] an117 Tryz.f117 fun x=>by kernel_rfl
def tabs117:Tabs:=Tabs.add tabs157 117 ⟨as117,rs117,m117⟩
theorem tabs117OK:TabOK Tryz.prog tabs117:=TabOK.add tabs157OK c117 Tryz.call117

/-! putlog/digest.Chain -/
def as102:List Ty:=[.str,.str]
def rs102:List Ty:=[.str]
def an102:Ann:=.seq (.a) (.seq (.reg [] [] [.r,z0,z0,z0,.r,z0] (.call [] [] (.seq (.a) (.a)) (.call [] [] (.seq (.a) (.seq (.reg [0,0,2,7,15,31] (ra 0 6 ([])) (.s [0] []::za 5 ([])) (.a)) (.a))) (.a)))) (.a))
def m102:(List UInt8×List UInt8)→Option (List UInt8) :=
 fun x=>(fH [x.1,x.2] []).bind fun r=>(lG [(2:UInt8)] r).bind fun r_1=>(m117 r_1).bind fun r=>some r
theorem c102:SpecOK Tryz.prog 102 ⟨as102,rs102,m102⟩ :=
 fc tabs117OK [] an102 Tryz.f102 fun x=>by kernel_rfl
def tabs102:Tabs:=Tabs.add tabs117 102 ⟨as102,rs102,m102⟩
theorem tabs102OK:TabOK Tryz.prog tabs102:=TabOK.add tabs117OK c102 Tryz.call102

/-! putlog/archive.believed -/
def as63:List Ty:=[(.one (.list tR)),tI]
def rs63:List Ty:=[(.list tR),.str]
def an63:Ann:=.seq (.a) (.seq (.reg [] [] [z0,.s [0] [],z0,.r,z0] (.call [] [] (.seq (.a) (.seq (.a) (.seq (.seq (.a) (.block (.loop ⟨[(5,.r (.c (.h 2))),(10,.r (.c (.d (.d tI))))],(7::ra 11 11 ([])),[],[.arr tR]⟩ [(.exit 0,⟨[(5,.r (.c (.h 2)))],(7::ra 10 12 ([])),[],[.arr tR]⟩)] (.seq (.a) (.seq (.a) (.seq (.join [(.norm,⟨[(5,.r (.c (.h 3)))],(7::ra 12 9 ([])),[(2,.gone)],[.arr tR]⟩)] (.block (.seq (.a) (.seq (.reg [] [] [z0,.s [3] [],.r] (.call [] [] (.seq (.a) (.a)) (.a))) (.a))))) (.a))))))) (.a)))) (.a))) (.seq (.a) (.seq (.a) (.seq (.block (.loop ⟨[(7,.r (.c (.d (.d .str)))),(8,.r (.c (.d (.d tI))))],(ra 14 46 ([])),[],[]⟩ [(.exit 0,⟨[(7,.r (.c (.d (.d .str)))),(8,.r (.c (.d (.d tI))))],(ra 14 46 ([])),[],[]⟩)] (.a))) (.a)))))
def m63:((List (Int×Int×Int×Int×Int×Int×Int×List UInt8×List UInt8))×Int)→Option ((List (Int×Int×Int×Int×Int×Int×Int×List UInt8×List UInt8))×List UInt8) :=
 fun x=>(iA (fun (s:Int×List (Int×Int×Int×Int×Int×Int×Int×List UInt8×List UInt8))=>bif ltM s.1 (lenM x.1) then ((gA x.1 s.1).bind
 fun r=>bif eqM r.1 x.2 then (eB (nat_lit 88) s.2 [(r.1,r.2.1,r.2.2.1,r.2.2.2.1,r.2.2.2.2.1,r.2.2.2.2.2.1,r.2.2.2.2.2.2.1,r.2.2.2.2.2.2.2.1,
 r.2.2.2.2.2.2.2.2)]).bind fun r=>some r else some s.2).bind fun o=>some (Sum.inl (wrap .i64 (s.1+1),o)) else some (Sum.inr s.2)) (0,[])).bind
 fun o=>(rptM [(0:UInt8)] 32).bind fun r=>(iA (fun (s:List UInt8×Int)=>(bif ltM s.2 (lenM o) then oA s.2 (lenM o) else some ()).bind fun r_1
 => (bif ltM s.2 (lenM o) then (gA o s.2).bind fun (x:Int×Int×Int×Int×Int×Int×Int×List UInt8×List UInt8)=>some x.2.1 else some 0).bind
 fun r_2=>(bif PE.andM (ltM s.2 (lenM o)) (eqM r_2 s.2) then oA s.2 (lenM o) else some ()).bind fun r_3=>(bif PE.andM (ltM s.2 (lenM o)) (eqM r_2 s.2)
 then (gA o s.2).bind fun (x:Int×Int×Int×Int×Int×Int×Int×List UInt8×List UInt8)=>some x.2.2.2.2.2.2.2.1 else some []).bind fun r_4=>bif
 PE.andM (PE.andM (ltM s.2 (lenM o)) (eqM r_2 s.2)) (kB r_4 s.1) then (bif ltM (wrap .i64 (s.2+1)) (lenM o) then oA (wrap .i64 (s.2+1))
 (lenM o) else some ()).bind fun r_5=>(bif ltM (wrap .i64 (s.2+1)) (lenM o) then (gA o (wrap .i64 (s.2+1))).bind fun (x:Int×Int×Int
 × Int×Int×Int×Int×List UInt8×List UInt8)=>some x.2.1 else some 0).bind fun r_6=>bif PE.andM (ltM (wrap .i64 (s.2+1)) (lenM o)) (eqM r_6
 s.2) then some (Sum.inr (s.1,s.2)) else (oA s.2 (lenM o)).bind fun r_7=>(gA o s.2).bind fun r_8=>(m44 (r_8.1,r_8.2.1,r_8.2.2.1,r_8.2.2.2.1,
 r_8.2.2.2.2.1,r_8.2.2.2.2.2.1,r_8.2.2.2.2.2.2.1,r_8.2.2.2.2.2.2.2.1,r_8.2.2.2.2.2.2.2.2)).bind fun r_9=>(m102 (s.1,r_9)).bind fun r=>some (Sum.inl
 (r,wrap .i64 (s.2+1))) else some (Sum.inr (s.1,s.2))) (r,0)).bind fun o_1=>(pA o 0 o_1.2).bind fun r=>some (r,o_1.1)
theorem c63:SpecOK Tryz.prog 63 ⟨as63,rs63,m63⟩ :=
 fc tabs102OK [] an63 Tryz.f63 fun x=>by kernel_rfl
def tabs63:Tabs:=Tabs.add tabs102 63 ⟨as63,rs63,m63⟩
theorem tabs63OK:TabOK Tryz.prog tabs63:=TabOK.add tabs102OK c63 Tryz.call63

/-! putlog/digest.Leaf -/
def as22:List Ty:=[.str]
def rs22:List Ty:=[.str]
def an22:Ann:=.seq (.a) (.seq (.reg [] [] [.r,z0,z0,.r,z0] (.call [] [] (.seq (.a) (.a)) (.call [] [] (.seq (.a) (.seq (.reg [0,0,2,7,15,31] (ra 0 6 ([])) (.s [0] []::za 5 ([])) (.a)) (.a))) (.a)))) (.a))
def m22:List UInt8→Option (List UInt8) :=
 fun x=>(fH [x] []).bind fun r=>(lG [(0:UInt8)] r).bind fun r_1=>(m117 r_1).bind fun r=>some r
theorem c22:SpecOK Tryz.prog 22 ⟨as22,rs22,m22⟩ :=
 fc tabs63OK [] an22 Tryz.f22 fun x=>by kernel_rfl
def tabs22:Tabs:=Tabs.add tabs63 22 ⟨as22,rs22,m22⟩
theorem tabs22OK:TabOK Tryz.prog tabs22:=TabOK.add tabs63OK c22 Tryz.call22

/-! putlog/digest.Node -/
def as115:List Ty:=[.str,.str]
def rs115:List Ty:=[.str]
def an115:Ann:=.seq (.a) (.seq (.reg [] [] [.r,z0,z0,z0,.r,z0] (.call [] [] (.seq (.a) (.a)) (.call [] [] (.seq (.a) (.seq (.reg [0,0,2,7,15,31] (ra 0 6 ([])) (.s [0] []::za 5 ([])) (.a)) (.a))) (.a)))) (.a))
def m115:(List UInt8×List UInt8)→Option (List UInt8) :=
 fun x=>(fH [x.1,x.2] []).bind fun r=>(lG [(1:UInt8)] r).bind fun r_1=>(m117 r_1).bind fun r=>some r
theorem c115:SpecOK Tryz.prog 115 ⟨as115,rs115,m115⟩ :=
 fc tabs22OK [] an115 Tryz.f115 fun x=>by kernel_rfl
def tabs115:Tabs:=Tabs.add tabs22 115 ⟨as115,rs115,m115⟩
theorem tabs115OK:TabOK Tryz.prog tabs115:=TabOK.add tabs22OK c115 Tryz.call115

/-! putlog/archive.tag -/
def as64:List Ty:=[.str,tR]
def rs64:List Ty:=[.str]
def an64:Ann:=.a
def m64:(List UInt8×Int×Int×Int×Int×Int×Int×Int×List UInt8×List UInt8)→Option (List UInt8) :=
 fun x=>(m98 (x.2.1,x.2.2.1,x.2.2.2.1,x.2.2.2.2.1,x.2.2.2.2.2.1,x.2.2.2.2.2.2.1,x.2.2.2.2.2.2.2.1,x.2.2.2.2.2.2.2.2.1,x.2.2.2.2.2.2.2.2.2)).bind fun r
 => (m22 r).bind fun r_1=>(m115 (x.1,r_1)).bind fun r=>some r
theorem c64:SpecOK Tryz.prog 64 ⟨as64,rs64,m64⟩ :=
 fc tabs115OK [] an64 Tryz.f64 fun x=>by kernel_rfl
def tabs64:Tabs:=Tabs.add tabs115 64 ⟨as64,rs64,m64⟩
theorem tabs64OK:TabOK Tryz.prog tabs64:=TabOK.add tabs115OK c64 Tryz.call64

/-! putlog/archive.Write -/
def as19:List Ty:=[.str,(.one (.list tR)),tR]
def rs19:List Ty:=[tR,tI]
def an19:Ann:=.a
def m19:(List UInt8×(List (Int×Int×Int×Int×Int×Int×Int×List UInt8×List UInt8))×Int×Int×Int×Int×Int×Int×Int×List UInt8×List UInt8)→Option ((Int×Int×Int×Int×Int×Int×Int×List UInt8×List UInt8)×Int) :=
 fun x=>(bif PE.notM (PE.notM (eqM (lenM x.1) 32)) then m28 x.2.1 else some false).bind fun r=>bif PE.orM (PE.notM (eqM (lenM x.1) 32)) (PE.notM r) then some
 ((0,0,0,0,0,0,0,[],[]),390) else (m63 (x.2.1,x.2.2.1)).bind fun r_1=>(m43 (x.2.2.1,lenM r_1.1,x.2.2.2.2.1,x.2.2.2.2.2.1,x.2.2.2.2.2.2.1,
 x.2.2.2.2.2.2.2.1,x.2.2.2.2.2.2.2.2.1,r_1.2,r_1.2)).bind fun r_2=>bif PE.notM r_2 then some ((0,0,0,0,0,0,0,[],[]),390) else (m64 (x.1,x.2.2.1,
 lenM r_1.1,x.2.2.2.2.1,x.2.2.2.2.2.1,x.2.2.2.2.2.2.1,x.2.2.2.2.2.2.2.1,x.2.2.2.2.2.2.2.2.1,r_1.2,r_1.2)).bind fun r=>some ((x.2.2.1,lenM r_1.1,
 x.2.2.2.2.1,x.2.2.2.2.2.1,x.2.2.2.2.2.2.1,x.2.2.2.2.2.2.2.1,x.2.2.2.2.2.2.2.2.1,r_1.2,r),0)
theorem c19:SpecOK Tryz.prog 19 ⟨as19,rs19,m19⟩ :=
 fc tabs64OK [] an19 Tryz.f19 fun x=>by kernel_rfl
def tabs19:Tabs:=Tabs.add tabs64 19 ⟨as19,rs19,m19⟩
theorem tabs19OK:TabOK Tryz.prog tabs19:=TabOK.add tabs64OK c19 Tryz.call19

/-! putlog/archive.Add -/
def as16:List Ty:=[(.one (.list tR)),tR]
def rs16:List Ty:=[(.one (.list tR)),tI]
def an16:Ann:=.seq (.a) (.seq (.a) (.seq (.reg [0,1,3,0,8,31,63,127,127,511,1023] (ra 0 11 ([])) [z0,.s [0] [],.s [] [3],.s [1] [],z0,.s [3] [4,3],.r,z0,z0,.s [2,5] [2],z0] (.call [] [(.norm,⟨[(21,.t [.s [.h 5],.c (.d (.d tI))])],[],[(4,.gone)],[.arr tR]⟩)] (.seq (.a) (.seq (.a) (.seq (.reg [] [] [z0,.r,z0] (.call [2000028,2000056,2000059] [(.norm,⟨[(7,.r (.c (.h 6)))],[],[(4,.gone)],[.arr tR]⟩)] (.seq (.a) (.seq (.a) (.seq (.seq (.a) (.block (.loop ⟨[(3,.r (.c (.d (.d tI))))],(ra 10 16 ([])),[],[]⟩ [(.exit 0,⟨[],(3::ra 10 16 ([])),[],[]⟩),(.ret,⟨[(2,.r (.c (.h 6)))],(3::4::5::ra 10 50 ([])),[(4,.gone)],[.arr tR]⟩)] (.seq (.a) (.seq (.block (.seq (.reg [0,0,3,7,0,0,32,112,240,511] (ra 0 10 ([])) (z0::z0::.s [4] []::.s [4] []::za 3 (.s [4] []::.s [4] []::z0::[])) (.a)) (.cond (.seq (.a) (.seq (.seq (.a) (.block (.loop ⟨[(3,.r (.c (.d (.d tI)))),(5,.r (.c (.d (.d tI))))],(ra 29 25 ([])),[(4,.arr tR)],[]⟩ [(.exit 2,⟨[(3,.r (.c (.d (.d tI))))],(5::ra 29 25 ([])),[(4,.arr tR)],[]⟩)] (.seq (.a) (.seq (.join [(.norm,⟨[(3,.r (.c (.d (.d tI))))],(ra 35 19 ([])),[(4,.arr tR)],[]⟩)] (.block (.seq (.reg [0,0,3,7,0,0,32,112,240,511] (ra 0 10 ([])) (z0::z0::.s [4] []::.s [4] []::za 3 (.s [4] []::.s [4] []::z0::[])) (.a)) (.a)))) (.a)))))) (.a))) (.a)))) (.a)))))) (.a)))) (.a))) (.a)))) (.a))) (.a)))
def m16:((List (Int×Int×Int×Int×Int×Int×Int×List UInt8×List UInt8))×Int×Int×Int×Int×Int×Int×Int×List UInt8×List UInt8)→Option ((List (Int×Int×Int×Int×Int×Int×Int×List UInt8×List UInt8))×Int) :=
 fun x=>(m28 x.1).bind fun r=>(bif PE.notM (PE.notM r) then m43 (x.2.1,x.2.2.1,x.2.2.2.1,x.2.2.2.2.1,x.2.2.2.2.2.1,x.2.2.2.2.2.2.1,x.2.2.2.2.2.2.2.1,
 x.2.2.2.2.2.2.2.2.1,x.2.2.2.2.2.2.2.2.2) else some false).bind fun r_1=>bif PE.orM (PE.notM r) (PE.notM r_1) then some ([],390) else (mo61 x.1).bind fun
 r_2=>(eB (nat_lit 88) r_2 [(x.2.1,x.2.2.1,x.2.2.2.1,x.2.2.2.2.1,x.2.2.2.2.2.1,x.2.2.2.2.2.2.1,x.2.2.2.2.2.2.2.1,x.2.2.2.2.2.2.2.2.1,
 x.2.2.2.2.2.2.2.2.2)]).bind fun r_3=>((qG (Ty.pair (Ty.int IntKind.i64) (Ty.pair (Ty.int IntKind.i64) (Ty.pair (Ty.int IntKind.i64) (Ty.pair (Ty.int
 IntKind.i64) (Ty.pair (Ty.int IntKind.i64) (Ty.pair (Ty.int IntKind.i64) (Ty.pair (Ty.int IntKind.i64) (Ty.pair Ty.str Ty.str)))))))) sH r_3).bind fun r_4
 => (bif ltM (lenM r_4) 2 then some r_4 else (iA (fun (s:Int)=>bif ltM s (lenM r_4) then (oA s (lenM r_4)).bind fun r_5=>(gA r_4 s).bind fun r_6
 => (oA (wrap .i64 (s-1)) (lenM r_4)).bind fun r_7=>(gA r_4 (wrap .i64 (s-1))).bind fun r_8=>bif PE.andM (eqM r_6.1 r_8.1) (PE.andM
 (eqM r_6.2.1 r_8.2.1) (PE.andM (eqM r_6.2.2.1 r_8.2.2.1) (PE.andM (eqM r_6.2.2.2.1 r_8.2.2.2.1) (PE.andM (eqM r_6.2.2.2.2.1 r_8.2.2.2.2.1) (PE.andM (eqM
 r_6.2.2.2.2.2.1 r_8.2.2.2.2.2.1) (PE.andM (eqM r_6.2.2.2.2.2.2.1 r_8.2.2.2.2.2.2.1) (PE.andM (kB r_6.2.2.2.2.2.2.2.1 r_8.2.2.2.2.2.2.2.1) (kB
 r_6.2.2.2.2.2.2.2.2 r_8.2.2.2.2.2.2.2.2)))))))) then (oA s (lenM r_4)).bind fun r_9=>(iA (fun (s_1:Int×Int×List (Int×Int×Int×Int×Int ×
 Int×Int×List UInt8×List UInt8))=>bif ltM s_1.2.1 (lenM s_1.2.2-s) then ((oA s_1.2.1 (lenM s_1.2.2-s)).bind fun r_10=>(gA s_1.2.2 (s +
 s_1.2.1)).bind fun r_11=>(oA (wrap .i64 (s_1.2.1-1)) (lenM s_1.2.2-s)).bind fun r_12=>(gA s_1.2.2 (s+wrap .i64 (s_1.2.1 -
 1))).bind fun r_13=>bif PE.notM (PE.andM (eqM r_11.1 r_13.1) (PE.andM (eqM r_11.2.1 r_13.2.1) (PE.andM (eqM r_11.2.2.1 r_13.2.2.1) (PE.andM (eqM
 r_11.2.2.2.1 r_13.2.2.2.1) (PE.andM (eqM r_11.2.2.2.2.1 r_13.2.2.2.2.1) (PE.andM (eqM r_11.2.2.2.2.2.1 r_13.2.2.2.2.2.1) (PE.andM (eqM r_11.2.2.2.2.2.2.1
 r_13.2.2.2.2.2.2.1) (PE.andM (kB r_11.2.2.2.2.2.2.2.1 r_13.2.2.2.2.2.2.2.1) (kB r_11.2.2.2.2.2.2.2.2 r_13.2.2.2.2.2.2.2.2))))))))) then (oA s_1.2.1
 (lenM s_1.2.2-s)).bind fun r_14=>(gA s_1.2.2 (s+s_1.2.1)).bind fun r_15=>(oA s_1.1 (lenM s_1.2.2)).bind fun r_16=>(wE s_1.2.2 s_1.1 fun (x :
 Int×Int×Int×Int×Int×Int×Int×List UInt8×List UInt8)=>some (r_15.1,r_15.2.1,r_15.2.2.1,r_15.2.2.2.1,r_15.2.2.2.2.1,r_15.2.2.2.2.2.1,
 r_15.2.2.2.2.2.2.1,r_15.2.2.2.2.2.2.2.1,r_15.2.2.2.2.2.2.2.2)).bind fun r=>some (wrap .i64 (s_1.1+1),r) else some (s_1.1,s_1.2.2)).bind fun o
 => some (Sum.inl (o.1,wrap .i64 (s_1.2.1+1),o.2)) else some (Sum.inr (s_1.1,s_1.2.2))) (s,1,r_4)).bind fun o=>(oA o.1 (lenM o.2)).bind fun
 r_10=>(pA (clrM o.2 o.1 (0,0,0,0,0,0,0,[],[])) 0 o.1).bind fun r=>some (Sum.inr (Sum.inr r)) else some (Sum.inl (wrap .i64 (s+1)))
 else some (Sum.inr (Sum.inl ()))) 1).bind fun o=>Sum.elim (fun (t:Unit)=>some r_4) (fun (t:List (Int×Int×Int×Int×Int×Int×Int×List UInt8
 × List UInt8))=>some t) o).bind fun (ov:List (Int×Int×Int×Int×Int×Int×Int×List UInt8×List UInt8))=>bif ltM 40 (lenM ov) then some (390,
 []) else some (0,ov)).bind fun (ov:Int×List (Int×Int×Int×Int×Int×Int×Int×List UInt8×List UInt8))=>some (ov.2,ov.1)
theorem c16:SpecOK Tryz.prog 16 ⟨as16,rs16,m16⟩ :=
 fc (TabOK.drop tabs19OK [61]) [] an16 Tryz.f16 fun x=>by kernel_rfl
def tabs16:Tabs:=Tabs.add tabs19 16 ⟨as16,rs16,m16⟩
theorem tabs16OK:TabOK Tryz.prog tabs16:=TabOK.add tabs19OK c16 Tryz.call16

/-! putlog/archive.Encode -/
def as11:List Ty:=[tR]
def rs11:List Ty:=[.str,tI]
def an11:Ann:=.a
def m11:(Int×Int×Int×Int×Int×Int×Int×List UInt8×List UInt8)→Option (List UInt8×Int) :=
 fun x=>(m43 (x.1,x.2.1,x.2.2.1,x.2.2.2.1,x.2.2.2.2.1,x.2.2.2.2.2.1,x.2.2.2.2.2.2.1,x.2.2.2.2.2.2.2.1,x.2.2.2.2.2.2.2.2)).bind fun r=>bif PE.notM r
 then some ([],390) else (m44 (x.1,x.2.1,x.2.2.1,x.2.2.2.1,x.2.2.2.2.1,x.2.2.2.2.2.1,x.2.2.2.2.2.2.1,x.2.2.2.2.2.2.2.1,x.2.2.2.2.2.2.2.2)).bind fun r
 => some (r,0)
theorem c11:SpecOK Tryz.prog 11 ⟨as11,rs11,m11⟩ :=
 fc tabs16OK [] an11 Tryz.f11 fun x=>by kernel_rfl
def tabs11:Tabs:=Tabs.add tabs16 11 ⟨as11,rs11,m11⟩
theorem tabs11OK:TabOK Tryz.prog tabs11:=TabOK.add tabs16OK c11 Tryz.call11

/-! putlog/archive.Merge -/
def as17:List Ty:=[(.one (.list tR)),(.one (.list tR))]
def rs17:List Ty:=[(.one (.list tR)),tI]
def an17:Ann:=.seq (.a) (.seq (.a) (.seq (.reg [] [] [z0,.s [0] [],z0,.s [1] [],z0,.r,.r,z0,z0,.s [2,5] [2],z0] (.call [] [] (.seq (.a) (.seq (.a) (.seq (.seq (.a) (.block (.loop ⟨[(3,.r (.c (.d (.d tI)))),(11,.r (.c (.d (.d tI))))],(5::ra 12 9 (22::[])),[],[]⟩ [(.exit 0,⟨[(3,.r (.c (.d (.d tI))))],(5::ra 11 10 (22::[])),[],[]⟩)] (.a)))) (.seq (.a) (.seq (.seq (.a) (.block (.loop ⟨[(6,.r (.c (.h 4))),(27,.r (.c (.d (.d tI))))],(8::ra 28 7 ([])),[(3,.gone)],[.arr tR]⟩ [(.exit 2,⟨[(6,.r (.c (.h 4)))],(8::ra 27 8 ([])),[(3,.gone)],[.arr tR]⟩)] (.a)))) (.a)))))) (.call [] [(.norm,⟨[(21,.t [.s [.h 5],.c (.d (.d tI))])],[],[(4,.gone)],[.arr tR]⟩)] (.seq (.a) (.seq (.a) (.seq (.reg [] [] [z0,.r,z0] (.call [2000028,2000056,2000059] [(.norm,⟨[(7,.r (.c (.h 6)))],[],[(4,.gone)],[.arr tR]⟩)] (.seq (.a) (.seq (.a) (.seq (.seq (.a) (.block (.loop ⟨[(3,.r (.c (.d (.d tI))))],(ra 10 16 ([])),[],[]⟩ [(.exit 0,⟨[],(3::ra 10 16 ([])),[],[]⟩),(.ret,⟨[(2,.r (.c (.h 6)))],(3::4::5::ra 10 50 ([])),[(4,.gone)],[.arr tR]⟩)] (.seq (.a) (.seq (.block (.seq (.reg [0,0,3,7,0,0,32,112,240,511] (ra 0 10 ([])) (z0::z0::.s [4] []::.s [4] []::za 3 (.s [4] []::.s [4] []::z0::[])) (.a)) (.cond (.seq (.a) (.seq (.seq (.a) (.block (.loop ⟨[(3,.r (.c (.d (.d tI)))),(5,.r (.c (.d (.d tI))))],(ra 29 25 ([])),[(4,.arr tR)],[]⟩ [(.exit 2,⟨[(3,.r (.c (.d (.d tI))))],(5::ra 29 25 ([])),[(4,.arr tR)],[]⟩)] (.seq (.a) (.seq (.join [(.norm,⟨[(3,.r (.c (.d (.d tI))))],(ra 35 19 ([])),[(4,.arr tR)],[]⟩)] (.block (.seq (.reg [0,0,3,7,0,0,32,112,240,511] (ra 0 10 ([])) (z0::z0::.s [4] []::.s [4] []::za 3 (.s [4] []::.s [4] []::z0::[])) (.a)) (.a)))) (.a)))))) (.a))) (.a)))) (.a)))))) (.a)))) (.a))) (.a)))) (.a)))) (.a)))
def m17:((List (Int×Int×Int×Int×Int×Int×Int×List UInt8×List UInt8))×List (Int×Int×Int×Int×Int×Int×Int×List UInt8×List UInt8))→Option ((List (Int×Int×Int×Int×Int×Int×Int×List UInt8×List UInt8))×Int) :=
 fun x=>(m28 x.1).bind fun r=>(bif PE.notM (PE.notM r) then m28 x.2 else some false).bind fun r_1=>bif PE.orM (PE.notM r) (PE.notM r_1) then some ([],390)
 else (iA (fun (s:Int×Int)=>bif ltM s.2 (lenM [x.1,x.2]) then (gA [x.1,x.2] s.2).bind fun r=>bif ltM (wrap .i64 (s.1+lenM r)) 0 then
 none else some (Sum.inl (wrap .i64 (s.1+lenM r),wrap .i64 (s.2+1))) else some (Sum.inr s.1)) (0,0)).bind fun o=>(growM o (0,0,0,0,0,
 0,0,[],[])).bind fun r_2=>(iA (fun (s:Int×List (Int×Int×Int×Int×Int×Int×Int×List UInt8×List UInt8))=>bif ltM s.1 (lenM [x.1,
 x.2]) then (gA [x.1,x.2] s.1).bind fun r_3=>(eB (nat_lit 88) s.2 r_3).bind fun r=>some (Sum.inl (wrap .i64 (s.1+1),r)) else some (Sum.inr
 s.2)) (0,r_2)).bind fun o_1=>((qG (Ty.pair (Ty.int IntKind.i64) (Ty.pair (Ty.int IntKind.i64) (Ty.pair (Ty.int IntKind.i64) (Ty.pair (Ty.int
 IntKind.i64) (Ty.pair (Ty.int IntKind.i64) (Ty.pair (Ty.int IntKind.i64) (Ty.pair (Ty.int IntKind.i64) (Ty.pair Ty.str Ty.str)))))))) sH o_1).bind fun r_3
 => (bif ltM (lenM r_3) 2 then some r_3 else (iA (fun (s:Int)=>bif ltM s (lenM r_3) then (oA s (lenM r_3)).bind fun r_4=>(gA r_3 s).bind fun r_5
 => (oA (wrap .i64 (s-1)) (lenM r_3)).bind fun r_6=>(gA r_3 (wrap .i64 (s-1))).bind fun r_7=>bif PE.andM (eqM r_5.1 r_7.1) (PE.andM
 (eqM r_5.2.1 r_7.2.1) (PE.andM (eqM r_5.2.2.1 r_7.2.2.1) (PE.andM (eqM r_5.2.2.2.1 r_7.2.2.2.1) (PE.andM (eqM r_5.2.2.2.2.1 r_7.2.2.2.2.1) (PE.andM (eqM
 r_5.2.2.2.2.2.1 r_7.2.2.2.2.2.1) (PE.andM (eqM r_5.2.2.2.2.2.2.1 r_7.2.2.2.2.2.2.1) (PE.andM (kB r_5.2.2.2.2.2.2.2.1 r_7.2.2.2.2.2.2.2.1) (kB
 r_5.2.2.2.2.2.2.2.2 r_7.2.2.2.2.2.2.2.2)))))))) then (oA s (lenM r_3)).bind fun r_8=>(iA (fun (s_1:Int×Int×List (Int×Int×Int×Int×Int ×
 Int×Int×List UInt8×List UInt8))=>bif ltM s_1.2.1 (lenM s_1.2.2-s) then ((oA s_1.2.1 (lenM s_1.2.2-s)).bind fun r_9=>(gA s_1.2.2 (s +
 s_1.2.1)).bind fun r_10=>(oA (wrap .i64 (s_1.2.1-1)) (lenM s_1.2.2-s)).bind fun r_11=>(gA s_1.2.2 (s+wrap .i64 (s_1.2.1 -
 1))).bind fun r_12=>bif PE.notM (PE.andM (eqM r_10.1 r_12.1) (PE.andM (eqM r_10.2.1 r_12.2.1) (PE.andM (eqM r_10.2.2.1 r_12.2.2.1) (PE.andM (eqM
 r_10.2.2.2.1 r_12.2.2.2.1) (PE.andM (eqM r_10.2.2.2.2.1 r_12.2.2.2.2.1) (PE.andM (eqM r_10.2.2.2.2.2.1 r_12.2.2.2.2.2.1) (PE.andM (eqM r_10.2.2.2.2.2.2.1
 r_12.2.2.2.2.2.2.1) (PE.andM (kB r_10.2.2.2.2.2.2.2.1 r_12.2.2.2.2.2.2.2.1) (kB r_10.2.2.2.2.2.2.2.2 r_12.2.2.2.2.2.2.2.2))))))))) then (oA s_1.2.1
 (lenM s_1.2.2-s)).bind fun r_13=>(gA s_1.2.2 (s+s_1.2.1)).bind fun r_14=>(oA s_1.1 (lenM s_1.2.2)).bind fun r_15=>(wE s_1.2.2 s_1.1 fun (x :
 Int×Int×Int×Int×Int×Int×Int×List UInt8×List UInt8)=>some (r_14.1,r_14.2.1,r_14.2.2.1,r_14.2.2.2.1,r_14.2.2.2.2.1,r_14.2.2.2.2.2.1,
 r_14.2.2.2.2.2.2.1,r_14.2.2.2.2.2.2.2.1,r_14.2.2.2.2.2.2.2.2)).bind fun r=>some (wrap .i64 (s_1.1+1),r) else some (s_1.1,s_1.2.2)).bind fun o
 => some (Sum.inl (o.1,wrap .i64 (s_1.2.1+1),o.2)) else some (Sum.inr (s_1.1,s_1.2.2))) (s,1,r_3)).bind fun o_2=>(oA o_2.1 (lenM o_2.2)).bind
 fun r_9=>(pA (clrM o_2.2 o_2.1 (0,0,0,0,0,0,0,[],[])) 0 o_2.1).bind fun r=>some (Sum.inr (Sum.inr r)) else some (Sum.inl (wrap .i64 (s
 + 1))) else some (Sum.inr (Sum.inl ()))) 1).bind fun o=>Sum.elim (fun (t:Unit)=>some r_3) (fun (t:List (Int×Int×Int×Int×Int×Int×Int×List
 UInt8×List UInt8))=>some t) o).bind fun (ov:List (Int×Int×Int×Int×Int×Int×Int×List UInt8×List UInt8))=>bif ltM 40 (lenM ov) then some
 (390,[]) else some (0,ov)).bind fun (ov:Int×List (Int×Int×Int×Int×Int×Int×Int×List UInt8×List UInt8))=>some (ov.2,ov.1)
theorem c17:SpecOK Tryz.prog 17 ⟨as17,rs17,m17⟩ :=
 fc (TabOK.drop tabs11OK [62]) [] an17 Tryz.f17 fun x=>by kernel_rfl
def tabs17:Tabs:=Tabs.add tabs11 17 ⟨as17,rs17,m17⟩
theorem tabs17OK:TabOK Tryz.prog tabs17:=TabOK.add tabs11OK c17 Tryz.call17

/-! putlog/archive.Missing -/
def as20:List Ty:=[(.one (.list tR)),(.one (.list tR))]
def rs20:List Ty:=[(.list tR),tI]
def an20:Ann:=.seq (.a) (.seq (.a) (.seq (.reg [] [] [z0,.s [0] [],z0,.r,z0,z0] (.call [] [] (.seq (.a) (.seq (.a) (.seq (.seq (.a) (.block (.loop ⟨[(5,.r (.c (.h 2))),(10,.r (.c (.d (.d tI))))],(7::ra 11 11 ([])),[],[.arr tR]⟩ [(.exit 0,⟨[(5,.r (.c (.h 2)))],(7::ra 10 12 ([])),[],[.arr tR]⟩)] (.seq (.a) (.seq (.a) (.seq (.join [(.norm,⟨[(5,.r (.c (.h 3)))],(7::ra 12 9 ([])),[(2,.gone)],[.arr tR]⟩)] (.block (.seq (.a) (.seq (.reg [] [] [z0,.s [3] [],.r] (.call [] [] (.seq (.a) (.seq (.reg [] [] [z0,.s [1] [],.s [4] [],.r,z0,z0,z0,z0,z0] (.call [] [] (.seq (.a) (.seq (.a) (.seq (.a) (.seq (.block (.loop ⟨[(9,.r (.c (.d (.d tI)))),(10,.r (.c (.d (.d tI))))],(11::ra 15 20 ([])),[],[]⟩ [(.exit 0,⟨[(9,.r (.c (.d (.d tI))))],(10::11::ra 15 20 ([])),[],[]⟩)] (.seq (.a) (.block (.seq (.a) (.seq (.reg [0,0,0,6,14,0,63,127] (ra 0 8 ([])) (za 5 (.s [5] []::z0::z0::[])) (.a)) (.a))))))) (.seq (.reg [0,0,0,6,14,30,30,30,222,478,30,2046,4094,8190,4095,32767] (ra 0 16 ([])) (za 10 (.s [5] []::za 5 ([]))) (.a)) (.a)))))) (.a))) (.a))) (.a))) (.a))))) (.a))))))) (.a)))) (.a))) (.a)))
def m20:((List (Int×Int×Int×Int×Int×Int×Int×List UInt8×List UInt8))×List (Int×Int×Int×Int×Int×Int×Int×List UInt8×List UInt8))→Option ((List (Int×Int×Int×Int×Int×Int×Int×List UInt8×List UInt8))×Int) :=
 fun x=>(m28 x.1).bind fun r=>(bif PE.notM (PE.notM r) then m28 x.2 else some false).bind fun r_1=>bif PE.orM (PE.notM r) (PE.notM r_1) then some ([],390)
 else (iA (fun (s:Int×List (Int×Int×Int×Int×Int×Int×Int×List UInt8×List UInt8))=>bif ltM s.1 (lenM x.1) then ((gA x.1 s.1).bind fun
 r_2=>(iA (fun (s_1:Int×Int)=>bif ltM s_1.1 s_1.2 then (rG .u64 (wrap .u64 (wrap .i64 (s_1.1+s_1.2))) 1).bind fun r_3 =>
 (gA x.2 (wrap .i64 r_3)).bind fun r_4=>(m68 ((r_4.1,r_4.2.1,r_4.2.2.1,r_4.2.2.2.1,r_4.2.2.2.2.1,r_4.2.2.2.2.2.1,r_4.2.2.2.2.2.2.1,
 r_4.2.2.2.2.2.2.2.1,r_4.2.2.2.2.2.2.2.2),r_2.1,r_2.2.1,r_2.2.2.1,r_2.2.2.2.1,r_2.2.2.2.2.1,r_2.2.2.2.2.2.1,r_2.2.2.2.2.2.2.1,r_2.2.2.2.2.2.2.2.1,
 r_2.2.2.2.2.2.2.2.2)).bind fun r=>bif ltM r 0 then some (Sum.inl (wrap .i64 (wrap .i64 r_3+1),s_1.2)) else some (Sum.inl (s_1.1,wrap
 IntKind.i64 r_3)) else some (Sum.inr s_1.1)) (0,lenM x.2)).bind fun o=>(bif ltM o (lenM x.2) then gA x.2 o else some (0,0,0,0,0,0,0,[],[])).bind
 fun r_3=>(bif ltM o (lenM x.2) then m68 ((r_3.1,r_3.2.1,r_3.2.2.1,r_3.2.2.2.1,r_3.2.2.2.2.1,r_3.2.2.2.2.2.1,r_3.2.2.2.2.2.2.1,r_3.2.2.2.2.2.2.2.1,
 r_3.2.2.2.2.2.2.2.2),r_2.1,r_2.2.1,r_2.2.2.1,r_2.2.2.2.1,r_2.2.2.2.2.1,r_2.2.2.2.2.2.1,r_2.2.2.2.2.2.2.1,r_2.2.2.2.2.2.2.2.1,r_2.2.2.2.2.2.2.2.2)
 else some 0).bind fun r_4=>bif PE.notM (PE.andM (ltM o (lenM x.2)) (eqM r_4 0)) then (eB (nat_lit 88) s.2 [(r_2.1,r_2.2.1,r_2.2.2.1,r_2.2.2.2.1,
 r_2.2.2.2.2.1,r_2.2.2.2.2.2.1,r_2.2.2.2.2.2.2.1,r_2.2.2.2.2.2.2.2.1,r_2.2.2.2.2.2.2.2.2)]).bind fun r=>some r else some s.2).bind fun o=>some (Sum.inl
 (wrap .i64 (s.1+1),o)) else some (Sum.inr s.2)) (0,[])).bind fun o=>some (o,0)
theorem c20:SpecOK Tryz.prog 20 ⟨as20,rs20,m20⟩ :=
 fc tabs17OK [] an20 Tryz.f20 fun x=>by kernel_rfl
def tabs20:Tabs:=Tabs.add tabs17 20 ⟨as20,rs20,m20⟩
theorem tabs20OK:TabOK Tryz.prog tabs20:=TabOK.add tabs17OK c20 Tryz.call20
end
variable [EA]
noncomputable section

/-! putlog/wire.Int -/
def as148:List Ty:=[.str,tI]
def rs148:List Ty:=[tI,tI,tI]
def an148:Ann:=.seq (.a) (.seq (.a) (.seq (.a) (.seq (.seq (.a) (.block (.loop ⟨[(7,.r (.c (.d (.d (.int .u64))))),(19,.r (.c (.d (.d tI))))],(8::9::ra 20 23 (66::[])),[],[]⟩ [(.exit 0,⟨[],(7::8::9::10::ra 19 42 (66::[])),[],[]⟩),(.ret,⟨[(4,.r (.c (.d (.d tI)))),(5,.r (.c (.d (.d tI)))),(6,.r (.c (.d (.d tI))))],(7::8::9::10::ra 19 48 ([])),[],[]⟩)] (.a)))) (.a))))
def m148:(List UInt8×Int)→Option (Int×Int×Int) :=
 fun x=>bif PE.orM (ltM x.2 0) (ltM (lenM x.1) x.2) then some (0,0,2) else (iA (fun (s:Int×Int)=>bif ltM s.2 9 then bif leM (lenM x.1) (wrap
 IntKind.i64 (x.2+s.2)) then some (Sum.inr (Sum.inl ())) else (byteM x.1 (wrap .i64 (x.2+s.2))).bind fun r=>(qI .u64 (wrap IntKind.u64
 (uA BinOp.and .u8 r 127)) (wrap .i64 (7*s.2))).bind fun r_1=>bif leM 128 r then some (Sum.inl (uA BinOp.or .u64 s.1 r_1,wrap
 IntKind.i64 (s.2+1))) else (rG .u64 (uA BinOp.or .u64 s.1 r_1) 1).bind fun r_2=>bif PE.orM (PE.andM (eqM r 0) (ltM 0 s.2)) (ltM (uA
 BinOp.xor IntKind.i64 (wrap .i64 r_2) (wrap .i64 (negM (wrap .i64 (uA BinOp.and .u64 (uA BinOp.or .u64 s.1 r_1) 1)))))
 (-4611686018427387903)) then some (Sum.inr (Sum.inl ())) else some (Sum.inr (Sum.inr (uA BinOp.xor .i64 (wrap .i64 r_2) (wrap IntKind.i64
 (negM (wrap .i64 (uA BinOp.and .u64 (uA BinOp.or .u64 s.1 r_1) 1)))),wrap .i64 (wrap .i64 (x.2+s.2)+1),0))) else
 some (Sum.inr (Sum.inl ()))) (0,0)).bind fun o=>Sum.elim (fun (t:Unit)=>some (0,0,10)) (fun (t:Int×Int×Int)=>some (t.1,t.2.1,t.2.2)) o
theorem c148:SpecOK Tryz.prog 148 ⟨as148,rs148,m148⟩ :=
 fc tabs20OK [] an148 Tryz.f148 fun x=>by kernel_rfl
def tabs148:Tabs:=Tabs.add tabs20 148 ⟨as148,rs148,m148⟩
theorem tabs148OK:TabOK Tryz.prog tabs148:=TabOK.add tabs20OK c148 Tryz.call148

/-! putlog/wire.String -/
def as137:List Ty:=[.str,tI]
def rs137:List Ty:=[.str,tI,tI]
def an137:Ann:=.a
def m137:(List UInt8×Int)→Option (List UInt8×Int×Int) :=
 fun x=>(m148 (x.1,x.2)).bind fun r=>bif PE.notM (eqM r.2.2 0) then some ([],0,r.2.2) else bif PE.orM (PE.orM (ltM r.1 0) (ltM 65536 r.1)) (ltM (wrap
 IntKind.i64 (lenM x.1-r.2.1)) r.1) then some ([],0,10) else (pA x.1 r.2.1 (wrap .i64 (r.2.1+r.1))).bind fun r_1=>some (r_1,wrap
 IntKind.i64 (r.2.1+r.1),0)
theorem c137:SpecOK Tryz.prog 137 ⟨as137,rs137,m137⟩ :=
 fc tabs148OK [] an137 Tryz.f137 fun x=>by kernel_rfl
def tabs137:Tabs:=Tabs.add tabs148 137 ⟨as137,rs137,m137⟩
theorem tabs137OK:TabOK Tryz.prog tabs137:=TabOK.add tabs148OK c137 Tryz.call137

/-! putlog/archive.Decode -/
def as59:List Ty:=[.str]
def rs59:List Ty:=[tR,tI]
def an59_1:Ann:=.call [] [] (.seq (.a) (.seq (.reg [0,1,3,7,0,16,48,112,255,511,1023,1023,1023,2047,12287,32767] (ra 0 16 ([])) (za 3 (.s [2] []::za 3 (.s [2] []::za 8 ([])))) (.a)) (.seq (.reg [] [] [z0,z0,z0,.r] (.call [] [] (.seq (.a) (.a)) (.a))) (.a)))) (.a)
def an59_0:Ann:=.seq (.a) (.seq (.a) (.seq (.block (.seq (.a) (.reg [] [] [z0,z0,.r,z0,.s [0] [0]] an59_1))) (.a)))
def an59:Ann:=.seq (.a) (.seq (.seq (.a) (.block (.seq an59_0 (.seq an59_0 (.seq an59_0 (.seq an59_0 (.seq an59_0 (.seq an59_0 (.seq an59_0 (.seq (.a) (.join [] (.a)))))))))))) (.seq (.reg [] [] [z0,.r,z0,.s [0] [0]] an59_1) (.seq (.reg [] [] [z0,.r,z0,.s [0] [0]] an59_1) (.a))))
def m59:List UInt8→Option ((Int×Int×Int×Int×Int×Int×Int×List UInt8×List UInt8)×Int) :=
 fun x=>(m148 (x,0)).bind fun r=>bif PE.notM (eqM r.2.2 0) then some ((0,0,0,0,0,0,0,[],[]),390) else (m148 (x,r.2.1)).bind fun r_1=>bif PE.notM
 (eqM r_1.2.2 0) then some ((0,0,0,0,0,0,0,[],[]),390) else (m148 (x,r_1.2.1)).bind fun r_2=>bif PE.notM (eqM r_2.2.2 0) then some ((0,0,0,0,0,
 0,0,[],[]),390) else (m148 (x,r_2.2.1)).bind fun r_3=>bif PE.notM (eqM r_3.2.2 0) then some ((0,0,0,0,0,0,0,[],[]),390) else (m148 (x,
 r_3.2.1)).bind fun r_4=>bif PE.notM (eqM r_4.2.2 0) then some ((0,0,0,0,0,0,0,[],[]),390) else (m148 (x,r_4.2.1)).bind fun r_5=>bif PE.notM (eqM
 r_5.2.2 0) then some ((0,0,0,0,0,0,0,[],[]),390) else (m148 (x,r_5.2.1)).bind fun r_6=>bif PE.notM (eqM r_6.2.2 0) then some ((0,0,0,0,0,0,
 0,[],[]),390) else (m137 (x,r_6.2.1)).bind fun r_7=>bif PE.notM (eqM r_7.2.2 0) then some ((0,0,0,0,0,0,0,[],[]),390) else (m137 (x,
 r_7.2.1)).bind fun r_8=>bif PE.notM (eqM r_8.2.2 0) then some ((0,0,0,0,0,0,0,[],[]),390) else (bif PE.notM (PE.notM (eqM r_8.2.1 (lenM x))) then
 m43 (r.1,r_1.1,r_2.1,r_3.1,r_4.1,r_5.1,r_6.1,r_7.1,r_8.1) else some false).bind fun r_9=>bif PE.orM (PE.notM (eqM r_8.2.1 (lenM x))) (PE.notM r_9)
 then some ((0,0,0,0,0,0,0,[],[]),390) else some ((r.1,r_1.1,r_2.1,r_3.1,r_4.1,r_5.1,r_6.1,r_7.1,r_8.1),0)
theorem c59:SpecOK Tryz.prog 59 ⟨as59,rs59,m59⟩ :=
 fnD_ok (own:=[]) (a0:=.a) (a1:=an59) (aN:=.a) (aP:=.a) (n:=400) tabs137OK (F:=OPS) OPS_sound OPS_nice (fn:=Tryz.f59) (fg:=Tryz.f108) (s2:=2) (s3:=3) (sf:=7) (sa:=2) (by kernel_rfl) rfl (by kernel_rfl) rfl rfl rfl rfl rfl rfl (by kernel_rfl) (by kernel_rfl) rfl rfl rfl rfl rfl rfl rfl rfl (by kernel_rfl) fun x=>by kernel_rfl
def tabs59:Tabs:=Tabs.add tabs137 59 ⟨as59,rs59,m59⟩
theorem tabs59OK:TabOK Tryz.prog tabs59:=TabOK.add tabs137OK c59 Tryz.call59

/-! putlog/archive.Load -/
def as14:List Ty:=[(.list .str)]
def rs14:List Ty:=[(.one (.list tR)),tI]
def an14:Ann:=.seq (.a) (.seq (.a) (.seq (.seq (.a) (.block (.loop ⟨[(4,.r (.c (.h 1))),(11,.r (.c (.d (.d tI))))],(6::7::8::ra 12 15 ([])),[],[.arr tR]⟩ [(.exit 0,⟨[(4,.r (.c (.h 1)))],(6::7::8::ra 11 16 ([])),[],[.arr tR]⟩)] (.seq (.a) (.seq (.a) (.seq (.join [(.norm,⟨[(4,.r (.c (.h 2)))],(6::7::8::ra 13 13 ([])),[(1,.gone)],[.arr tR]⟩)] (.a)) (.a))))))) (.seq (.reg [] [] [z0,.r,z0,z0,.s [0,2] [0],z0] (.call [] [(.norm,⟨[(28,.t [.s [.h 2],.c (.d (.d tI))])],[],[(1,.gone)],[.arr tR]⟩)] (.seq (.a) (.seq (.a) (.seq (.reg [] [] [z0,.r,z0] (.call [2000028,2000056,2000059] [(.norm,⟨[(7,.r (.c (.h 3)))],[],[(1,.gone)],[.arr tR]⟩)] (.seq (.a) (.seq (.a) (.seq (.seq (.a) (.block (.loop ⟨[(3,.r (.c (.d (.d tI))))],(ra 10 16 ([])),[],[]⟩ [(.exit 0,⟨[],(3::ra 10 16 ([])),[],[]⟩),(.ret,⟨[(2,.r (.c (.h 3)))],(3::4::5::ra 10 50 ([])),[(1,.gone)],[.arr tR]⟩)] (.seq (.a) (.seq (.block (.seq (.reg [0,0,3,7,0,0,32,112,240,511] (ra 0 10 ([])) (z0::z0::.s [1] []::.s [1] []::za 3 (.s [1] []::.s [1] []::z0::[])) (.a)) (.cond (.seq (.a) (.seq (.seq (.a) (.block (.loop ⟨[(3,.r (.c (.d (.d tI)))),(5,.r (.c (.d (.d tI))))],(ra 29 25 ([])),[(1,.arr tR)],[]⟩ [(.exit 2,⟨[(3,.r (.c (.d (.d tI))))],(5::ra 29 25 ([])),[(1,.arr tR)],[]⟩)] (.seq (.a) (.seq (.join [(.norm,⟨[(3,.r (.c (.d (.d tI))))],(ra 35 19 ([])),[(1,.arr tR)],[]⟩)] (.block (.seq (.reg [0,0,3,7,0,0,32,112,240,511] (ra 0 10 ([])) (z0::z0::.s [1] []::.s [1] []::za 3 (.s [1] []::.s [1] []::z0::[])) (.a)) (.a)))) (.a)))))) (.a))) (.a)))) (.a)))))) (.a)))) (.a))) (.a)))) (.a))) (.a))))
def m14:List (List UInt8)→Option ((List (Int×Int×Int×Int×Int×Int×Int×List UInt8×List UInt8))×Int) :=
 fun x=>(iA (fun (s:Int×List (Int×Int×Int×Int×Int×Int×Int×List UInt8×List UInt8))=>bif ltM s.1 (lenM x) then ((gA x s.1).bind fun r
 => (m59 r).bind fun r_1=>bif eqM r_1.2 0 then (eB (nat_lit 88) s.2 [(r_1.1.1,r_1.1.2.1,r_1.1.2.2.1,r_1.1.2.2.2.1,r_1.1.2.2.2.2.1,r_1.1.2.2.2.2.2.1,
 r_1.1.2.2.2.2.2.2.1,r_1.1.2.2.2.2.2.2.2.1,r_1.1.2.2.2.2.2.2.2.2)]).bind fun r=>some r else some s.2).bind fun o=>some (Sum.inl (wrap .i64 (s.1 +
 1),o)) else some (Sum.inr s.2)) (0,[])).bind fun o=>((qG (Ty.pair (Ty.int IntKind.i64) (Ty.pair (Ty.int IntKind.i64) (Ty.pair (Ty.int IntKind.i64)
 (Ty.pair (Ty.int IntKind.i64) (Ty.pair (Ty.int IntKind.i64) (Ty.pair (Ty.int IntKind.i64) (Ty.pair (Ty.int IntKind.i64) (Ty.pair Ty.str Ty.str)))))))) sH
 o).bind fun r=>(bif ltM (lenM r) 2 then some r else (iA (fun (s:Int)=>bif ltM s (lenM r) then (oA s (lenM r)).bind fun r_1=>(gA r s).bind fun
 r_2=>(oA (wrap .i64 (s-1)) (lenM r)).bind fun r_3=>(gA r (wrap .i64 (s-1))).bind fun r_4=>bif PE.andM (eqM r_2.1 r_4.1) (PE.andM
 (eqM r_2.2.1 r_4.2.1) (PE.andM (eqM r_2.2.2.1 r_4.2.2.1) (PE.andM (eqM r_2.2.2.2.1 r_4.2.2.2.1) (PE.andM (eqM r_2.2.2.2.2.1 r_4.2.2.2.2.1) (PE.andM (eqM
 r_2.2.2.2.2.2.1 r_4.2.2.2.2.2.1) (PE.andM (eqM r_2.2.2.2.2.2.2.1 r_4.2.2.2.2.2.2.1) (PE.andM (kB r_2.2.2.2.2.2.2.2.1 r_4.2.2.2.2.2.2.2.1) (kB
 r_2.2.2.2.2.2.2.2.2 r_4.2.2.2.2.2.2.2.2)))))))) then (oA s (lenM r)).bind fun r_5=>(iA (fun (s_1:Int×Int×List (Int×Int×Int×Int×Int×Int
 × Int×List UInt8×List UInt8))=>bif ltM s_1.2.1 (lenM s_1.2.2-s) then ((oA s_1.2.1 (lenM s_1.2.2-s)).bind fun r_6=>(gA s_1.2.2 (s +
 s_1.2.1)).bind fun r_7=>(oA (wrap .i64 (s_1.2.1-1)) (lenM s_1.2.2-s)).bind fun r_8=>(gA s_1.2.2 (s+wrap .i64 (s_1.2.1-1))).bind
 fun r_9=>bif PE.notM (PE.andM (eqM r_7.1 r_9.1) (PE.andM (eqM r_7.2.1 r_9.2.1) (PE.andM (eqM r_7.2.2.1 r_9.2.2.1) (PE.andM (eqM r_7.2.2.2.1 r_9.2.2.2.1)
 (PE.andM (eqM r_7.2.2.2.2.1 r_9.2.2.2.2.1) (PE.andM (eqM r_7.2.2.2.2.2.1 r_9.2.2.2.2.2.1) (PE.andM (eqM r_7.2.2.2.2.2.2.1 r_9.2.2.2.2.2.2.1) (PE.andM (kB
 r_7.2.2.2.2.2.2.2.1 r_9.2.2.2.2.2.2.2.1) (kB r_7.2.2.2.2.2.2.2.2 r_9.2.2.2.2.2.2.2.2))))))))) then (oA s_1.2.1 (lenM s_1.2.2-s)).bind fun r_10=>(gA
 s_1.2.2 (s+s_1.2.1)).bind fun r_11=>(oA s_1.1 (lenM s_1.2.2)).bind fun r_12=>(wE s_1.2.2 s_1.1 fun (x:Int×Int×Int×Int×Int×Int×Int ×
 List UInt8×List UInt8)=>some (r_11.1,r_11.2.1,r_11.2.2.1,r_11.2.2.2.1,r_11.2.2.2.2.1,r_11.2.2.2.2.2.1,r_11.2.2.2.2.2.2.1,r_11.2.2.2.2.2.2.2.1,
 r_11.2.2.2.2.2.2.2.2)).bind fun r=>some (wrap .i64 (s_1.1+1),r) else some (s_1.1,s_1.2.2)).bind fun o=>some (Sum.inl (o.1,wrap IntKind.i64
 (s_1.2.1+1),o.2)) else some (Sum.inr (s_1.1,s_1.2.2))) (s,1,r)).bind fun o_1=>(oA o_1.1 (lenM o_1.2)).bind fun r_6=>(pA (clrM o_1.2 o_1.1 (0,
 0,0,0,0,0,0,[],[])) 0 o_1.1).bind fun r=>some (Sum.inr (Sum.inr r)) else some (Sum.inl (wrap .i64 (s+1))) else some (Sum.inr (Sum.inl ())))
 1).bind fun o=>Sum.elim (fun (t:Unit)=>some r) (fun (t:List (Int×Int×Int×Int×Int×Int×Int×List UInt8×List UInt8))=>some t) o).bind
 fun (ov:List (Int×Int×Int×Int×Int×Int×Int×List UInt8×List UInt8))=>bif ltM 40 (lenM ov) then some (390,[]) else some (0,ov)).bind fun
 (ov:Int×List (Int×Int×Int×Int×Int×Int×Int×List UInt8×List UInt8))=>some (ov.2,ov.1)
theorem c14:SpecOK Tryz.prog 14 ⟨as14,rs14,m14⟩ :=
 fc tabs59OK [] an14 Tryz.f14 fun x=>by kernel_rfl
def tabs14:Tabs:=Tabs.add tabs59 14 ⟨as14,rs14,m14⟩
theorem tabs14OK:TabOK Tryz.prog tabs14:=TabOK.add tabs59OK c14 Tryz.call14

/-! putlog/digest.Root -/
def as69:List Ty:=[(.list .str)]
def rs69:List Ty:=[.str]
def an69:Ann:=.seq (.a) (.seq (.a) (.seq (.a) (.seq (.seq (.a) (.block (.loop ⟨[(3,.r (.c (.h 0))),(4,.r (.c (.h 1))),(13,.r (.c (.d (.d tI))))],(6::7::ra 14 60 ([])),[],[.arr .str,.arr tI]⟩ [(.exit 0,⟨[(3,.r (.c (.h 0)))],(4::6::7::ra 13 61 ([])),[],[.arr .str]⟩)] (.seq (.a) (.seq (.a) (.seq (.block (.seq (.a) (.seq (.a) (.seq (.a) (.block (.loop ⟨[(3,.r (.c (.h 4))),(4,.r (.c (.h 5))),(7,.r (.c (.d (.d tI))))],(ra 27 46 ([])),[(2,.gone),(3,.gone)],[.arr .str,.arr tI]⟩ [(.exit 2,⟨[(3,.r (.c (.h 4))),(4,.r (.c (.h 5)))],(7::ra 27 46 ([])),[(2,.gone),(3,.gone)],[.arr .str,.arr tI]⟩)] (.seq (.seq (.reg [0,1,3,7,7,23,63,127,7,7,519,1799,3847,8191,16383] (ra 0 15 ([])) (za 6 (.s [5] []::.s [5] []::za 3 (.s [5] []::.s [5] []::z0::z0::[]))) (.a)) (.a)) (.seq (.block (.seq (.reg [0,0,2,7,0,0,32,112,240,0,0,1024,3584,7680,16368,32752,65535,131071] (ra 0 18 ([])) (za 3 (.s [4] []::za 3 (.s [4] []::.s [4] []::za 3 (.s [4] []::.s [4] []::z0::z0::.s [4] [6,4]::z0::[])))) (.a)) (.reg [0,0,2,7,0,0,32,112,240,496,1008,2047,4095] (ra 0 13 ([])) (za 3 (.s [5] []::za 3 (.s [5] []::.s [5] []::z0::z0::.s [5] [7,5]::z0::[]))) (.a)))) (.a))))))))) (.a))))))) (.seq (.a) (.seq (.a) (.seq (.seq (.reg [] [] [z0,z0,.s [0] [],z0,.s [0] [0],.r] (.call [] [] (.seq (.a) (.a)) (.a))) (.block (.call [] [] (.seq (.a) (.block (.loop ⟨[(3,.r (.c (.d (.d tI))))],(ra 7 12 ([])),[(1,.box [.d (.d .str)]),(3,.lp .ready)],[]⟩ [(.exit 0,⟨[],(3::ra 7 12 ([])),[(1,.box [.d (.d .str)]),(3,.lp .ready)],[]⟩)] (.seq (.a) (.seq (.block (.seq (.reg [] [] [z0,z0,.s [2] [],z0,z0,z0,.r,z0] (.call [] [] (.seq (.a) (.a)) (.a))) (.a))) (.a)))))) (.a)))) (.a)))))))
def m69:List (List UInt8)→Option (List UInt8) :=
 fun x=>(iA (fun (s:Int×List (List UInt8)×List Int)=>bif ltM s.1 (lenM x) then (gA x s.1).bind fun r=>(m22 r).bind fun r_1=>(eB (nat_lit 16)
 s.2.1 [r_1]).bind fun r_2=>(eB (nat_lit 8) s.2.2 [1]).bind fun r_3=>(iA (fun (s_1:Int×List (List UInt8)×List Int)=>(bif ltM 1 s_1.1 then oA
 (wrap .i64 (s_1.1-2)) (lenM s_1.2.2) else some ()).bind fun r_4=>(bif ltM 1 s_1.1 then gA s_1.2.2 (wrap .i64 (s_1.1-2)) else some
 0).bind fun r_5=>(bif ltM 1 s_1.1 then oA (wrap .i64 (s_1.1-1)) (lenM s_1.2.2) else some ()).bind fun r_6=>(bif ltM 1 s_1.1 then gA s_1.2.2
 (wrap .i64 (s_1.1-1)) else some 0).bind fun r_7=>bif PE.andM (ltM 1 s_1.1) (eqM r_5 r_7) then (oA (wrap .i64 (s_1.1-2)) (lenM s_1.2.1 +
 1)).bind fun r_8=>(oA (wrap .i64 (s_1.1-2)) (lenM s_1.2.1)).bind fun r_9=>(gA s_1.2.1 (wrap .i64 (s_1.1-2))).bind fun r_10=>(oA
 (wrap .i64 (s_1.1-1)) (lenM s_1.2.1)).bind fun r_11=>(gA s_1.2.1 (wrap .i64 (s_1.1-1))).bind fun r_12=>(m115 (r_10,r_12)).bind fun
 r_13=>((pA s_1.2.1 0 (wrap .i64 (s_1.1-2))).bind fun (zs:List (List UInt8))=>eB (nat_lit 16) zs [r_13]).bind fun r_14=>(oA (wrap
 IntKind.i64 (s_1.1-2)) (lenM s_1.2.2+1)).bind fun r_15=>(oA (wrap .i64 (s_1.1-1)) (lenM s_1.2.2)).bind fun r_16=>(gA s_1.2.2 (wrap
 IntKind.i64 (s_1.1-1))).bind fun r_17=>((pA s_1.2.2 0 (wrap .i64 (s_1.1-2))).bind fun (zs:List Int)=>eB (nat_lit 8) zs [wrap
 IntKind.i64 (2*r_17)]).bind fun r=>some (Sum.inl (wrap .i64 (s_1.1-1),r_14,r)) else some (Sum.inr (s_1.2.1,s_1.2.2))) (lenM r_3,r_2,
 r_3)).bind fun o=>some (Sum.inl (wrap .i64 (s.1+1),o.1,o.2)) else some (Sum.inr s.2.1)) (0,[],[])).bind fun o=>bif eqM (lenM o) 0 then (m117
 []).bind fun r=>some r else (oA (wrap .i64 (lenM o-1)) (lenM o)).bind fun r=>(gA o (wrap .i64 (lenM o-1))).bind fun r_1=>(pA o
 0 (wrap .i64 (lenM o-1))).bind fun r_2=>(iA (fun (s:Int×List UInt8)=>bif leM 0 s.1 then (gA r_2 s.1).bind fun r_3=>(m115 (r_3,
 s.2)).bind fun r=>some (Sum.inl (wrap .i64 (s.1-1),r)) else some (Sum.inr s.2)) (wrap .i64 (lenM r_2-1),r_1)).bind fun o=>some o
theorem c69:SpecOK Tryz.prog 69 ⟨as69,rs69,m69⟩ :=
 fc tabs14OK [4000047,4000064] an69 Tryz.f69 fun x=>by kernel_rfl
def tabs69:Tabs:=Tabs.add tabs14 69 ⟨as69,rs69,m69⟩
theorem tabs69OK:TabOK Tryz.prog tabs69:=TabOK.add tabs14OK c69 Tryz.call69

/-! putlog/archive.Head -/
def as21:List Ty:=[(.one (.list tR))]
def rs21:List Ty:=[.str,tI]
def an21:Ann:=.seq (.a) (.seq (.a) (.seq (.a) (.seq (.seq (.a) (.block (.loop ⟨[(4,.r (.c (.h 1))),(13,.r (.c (.d (.d tI))))],(6::ra 14 9 ([])),[],[.arr .str]⟩ [(.exit 0,⟨[(4,.r (.c (.h 1)))],(6::ra 13 10 ([])),[],[.arr .str]⟩)] (.a)))) (.a))))
def m21:(List (Int×Int×Int×Int×Int×Int×Int×List UInt8×List UInt8))→Option (List UInt8×Int) :=
 fun x=>(m28 x).bind fun r=>bif PE.notM r then some ([],390) else (iA (fun (s:Int×List (List UInt8))=>bif ltM s.1 (lenM x) then (gA x s.1).bind
 fun r_1=>(m44 (r_1.1,r_1.2.1,r_1.2.2.1,r_1.2.2.2.1,r_1.2.2.2.2.1,r_1.2.2.2.2.2.1,r_1.2.2.2.2.2.2.1,r_1.2.2.2.2.2.2.2.1,r_1.2.2.2.2.2.2.2.2)).bind
 fun r_2=>(eB (nat_lit 16) s.2 [r_2]).bind fun r=>some (Sum.inl (wrap .i64 (s.1+1),r)) else some (Sum.inr s.2)) (0,[])).bind fun o=>(m69
 o).bind fun r=>some (r,0)
theorem c21:SpecOK Tryz.prog 21 ⟨as21,rs21,m21⟩ :=
 fc tabs69OK [] an21 Tryz.f21 fun x=>by kernel_rfl
def tabs21:Tabs:=Tabs.add tabs69 21 ⟨as21,rs21,m21⟩
theorem tabs21OK:TabOK Tryz.prog tabs21:=TabOK.add tabs69OK c21 Tryz.call21

/-! putlog/archive.Current -/
def as23:List Ty:=[(.one (.list tR))]
def rs23:List Ty:=[(.list tR)]
def an23:Ann:=.seq (.a) (.seq (.a) (.seq (.a) (.seq (.seq (.a) (.block (.loop ⟨[(14,.r (.c (.d (.d tI))))],(4::5::6::7::8::ra 15 13 (56::[])),[(1,.box [.h 2])],[.arr tR]⟩ [(.exit 0,⟨[],(4::5::6::7::8::ra 14 14 (56::[])),[(1,.box [.h 2])],[.arr tR]⟩)] (.seq (.a) (.seq (.a) (.seq (.block (.seq (.a) (.seq (.a) (.seq (.a) (.seq (.a) (.seq (.reg [] [] [z0,.r] (.call [] [] (.seq (.a) (.a)) (.a))) (.block (.call [] [] (.seq (.a) (.block (.loop ⟨[(3,.r (.c (.d (.d tI))))],(ra 7 12 ([])),[(1,.box [.h 8]),(2,.gone),(3,.arr .bool),(5,.flat 100 .bool),(7,.lp .ready)],[.arr tR]⟩ [(.exit 0,⟨[],(3::ra 7 12 ([])),[(1,.box [.h 8]),(2,.gone),(3,.arr .bool),(5,.flat 100 .bool),(7,.lp .ready)],[.arr tR]⟩)] (.seq (.a) (.seq (.block (.seq (.reg [] [] [z0,z0,.s [6] [],z0,z0,z0,.r,z0] (.call [] [] (.seq (.a) (.join [(.norm,⟨[],(ra 30 26 ([])),[(1,.box [.h 10]),(3,.arr .bool),(5,.flat 100 .bool),(8,.gone)],[.arr tR]⟩)] (.a))) (.a))) (.a))) (.a)))))) (.a))))))))) (.a))))))) (.a))))
def m23:(List (Int×Int×Int×Int×Int×Int×Int×List UInt8×List UInt8))→Option (List (Int×Int×Int×Int×Int×Int×Int×List UInt8×List UInt8)) :=
 fun x=>(m28 x).bind fun r=>bif PE.notM r then some [] else (iA (fun (s:Int×List (Int×Int×Int×Int×Int×Int×Int×List UInt8×List UInt8))
 => bif ltM s.1 8 then (m63 (x,s.1)).bind fun r_1=>(mkM (lenM r_1.1) (lenM r_1.1) (nat_lit 1) false).bind fun r_2=>(iA (fun (s_1:Int×List Bool ×
 List Bool×List (Int×Int×Int×Int×Int×Int×Int×List UInt8×List UInt8))=>bif leM 0 s_1.1 then (gA r_1.1 s_1.1).bind fun r_3=>((oA s_1.1
 (lenM s_1.2.1)).bind fun r_4=>(gA s_1.2.1 s_1.1).bind fun r_5=>bif r_5 then some (s_1.2.1,s_1.2.2.1,s_1.2.2.2) else bif eqM r_3.2.2.2.1 2 then (oA
 r_3.2.2.2.2.2.2.1 (lenM s_1.2.1)).bind fun r_6=>(wE s_1.2.1 r_3.2.2.2.2.2.2.1 fun (x:Bool)=>some true).bind fun r=>some (r,s_1.2.2.1,s_1.2.2.2)
 else (oA r_3.2.2.2.2.1 ↑(nat_lit 100)).bind fun r_6=>(gA s_1.2.2.1 (↑(nat_lit 0)+r_3.2.2.2.2.1*↑(nat_lit 1))).bind fun r_7=>bif PE.notM r_7 then
 (oA r_3.2.2.2.2.1 ↑(nat_lit 100)).bind fun r_8=>(wE s_1.2.2.1 (↑(nat_lit 0)+r_3.2.2.2.2.1*↑(nat_lit 1)) fun (x:Bool)=>some true).bind fun r_9 =>
 (eB (nat_lit 88) s_1.2.2.2 [(r_3.1,r_3.2.1,r_3.2.2.1,r_3.2.2.2.1,r_3.2.2.2.2.1,r_3.2.2.2.2.2.1,r_3.2.2.2.2.2.2.1,r_3.2.2.2.2.2.2.2.1,
 r_3.2.2.2.2.2.2.2.2)]).bind fun r=>some (s_1.2.1,r_9,r) else some (s_1.2.1,s_1.2.2.1,s_1.2.2.2)).bind fun o=>some (Sum.inl (wrap .i64 (s_1.1 -
 1),o.1,o.2.1,o.2.2)) else some (Sum.inr (s_1.2.1,s_1.2.2.1,s_1.2.2.2))) (wrap .i64 (lenM r_1.1-1),r_2,[false,false,false,false,false,
 false,false,false,false,false,false,false,false,false,false,false,false,false,false,false,false,false,false,false,false,false,false,
 false,false,false,false,false,false,false,false,false,false,false,false,false,false,false,false,false,false,false,false,false,false,
 false,false,false,false,false,false,false,false,false,false,false,false,false,false,false,false,false,false,false,false,false,false,
 false,false,false,false,false,false,false,false,false,false,false,false,false,false,false,false,false,false,false,false,false,false,
 false,false,false,false,false,false,false],s.2)).bind fun o=>some (Sum.inl (wrap .i64 (s.1+1),o.2.2)) else some (Sum.inr s.2)) (0,
 [])).bind fun o=>(qG (Ty.pair (Ty.int IntKind.i64) (Ty.pair (Ty.int IntKind.i64) (Ty.pair (Ty.int IntKind.i64) (Ty.pair (Ty.int IntKind.i64) (Ty.pair
 (Ty.int IntKind.i64) (Ty.pair (Ty.int IntKind.i64) (Ty.pair (Ty.int IntKind.i64) (Ty.pair Ty.str Ty.str)))))))) cf73 o).bind fun r=>some r
theorem c23:SpecOK Tryz.prog 23 ⟨as23,rs23,m23⟩ :=
 fc tabs21OK [] an23 Tryz.f23 fun x=>by kernel_rfl
def tabs23:Tabs:=Tabs.add tabs21 23 ⟨as23,rs23,m23⟩
theorem tabs23OK:TabOK Tryz.prog tabs23:=TabOK.add tabs21OK c23 Tryz.call23

/-! putlog/archive.Believed -/
def as24:List Ty:=[(.one (.list tR)),tI]
def rs24:List Ty:=[(.list tR)]
def an24:Ann:=.a
def m24:((List (Int×Int×Int×Int×Int×Int×Int×List UInt8×List UInt8))×Int)→Option (List (Int×Int×Int×Int×Int×Int×Int×List UInt8×List UInt8)) :=
 fun x=>(m28 x.1).bind fun r=>bif PE.notM r then some [] else (m63 (x.1,x.2)).bind fun r=>some r.1
theorem c24:SpecOK Tryz.prog 24 ⟨as24,rs24,m24⟩ :=
 fc tabs23OK [] an24 Tryz.f24 fun x=>by kernel_rfl
def tabs24:Tabs:=Tabs.add tabs23 24 ⟨as24,rs24,m24⟩
theorem tabs24OK:TabOK Tryz.prog tabs24:=TabOK.add tabs23OK c24 Tryz.call24

/-! putlog/archive.Forks -/
def as26:List Ty:=[(.one (.list tR))]
def rs26:List Ty:=[tQ]
def an26:Ann:=.seq (.a) (.seq (.a) (.seq (.a) (.seq (.seq (.a) (.block (.loop ⟨[(3,.r (.c (.h 1))),(19,.r (.c (.d (.d tI))))],(4::5::6::7::ra 20 48 ([])),[],[.arr tP]⟩ [(.exit 0,⟨[(3,.r (.c (.h 1)))],(4::5::6::7::ra 19 49 ([])),[],[.arr tP]⟩)] (.seq (.a) (.seq (.a) (.seq (.join [(.norm,⟨[(3,.r (.c (.h 2)))],(4::5::6::7::ra 21 46 ([])),[(1,.gone)],[.arr tP]⟩)] (.block (.seq (.a) (.seq (.a) (.seq (.reg [0,1,3,7,15,15,47,111,255,511,1023,15,2063,8191,16383,32767] (ra 0 16 ([])) (z0::.s [1] []::za 4 (.s [1] []::z0::.s [1] []::z0::.s [1] []::z0::.s [2] []::za 3 ([]))) (.a)) (.a)))))) (.a))))))) (.a))))
def m26:(List (Int×Int×Int×Int×Int×Int×Int×List UInt8×List UInt8))→Option (List (Int×Int)) :=
 fun x=>(m28 x).bind fun r=>bif PE.notM r then some [] else (pA x (min 1 (lenM x)) (lenM x)).bind fun r_1=>(iA (fun (s:Int×List (Int×Int)) =>
 bif ltM s.1 (lenM r_1) then ((gA r_1 s.1).bind fun r_2=>(gA x s.1).bind fun r_3=>(bif PE.notM (eqM (lenM s.2) 0) then oA (wrap .i64 (lenM s.2
 - 1)) (lenM s.2) else some ()).bind fun r_4=>(bif PE.notM (eqM (lenM s.2) 0) then (gA s.2 (wrap .i64 (lenM s.2-1))).bind fun (x:Int×Int) =>
 some x.1 else some 0).bind fun r_5=>bif PE.andM (PE.andM (eqM r_3.1 r_2.1) (eqM r_3.2.1 r_2.2.1)) (PE.orM (eqM (lenM s.2) 0) (PE.notM (eqM r_5 r_2.1))) then
 (eB (nat_lit 16) s.2 [(r_2.1,r_2.2.1)]).bind fun r=>some r else some s.2).bind fun o=>some (Sum.inl (wrap .i64 (s.1+1),o)) else some (Sum.inr
 s.2)) (0,[])).bind fun o=>some o
theorem c26:SpecOK Tryz.prog 26 ⟨as26,rs26,m26⟩ :=
 fc tabs24OK [] an26 Tryz.f26 fun x=>by kernel_rfl
def tabs26:Tabs:=Tabs.add tabs24 26 ⟨as26,rs26,m26⟩
theorem tabs26OK:TabOK Tryz.prog tabs26:=TabOK.add tabs24OK c26 Tryz.call26

/-! putlog/putlogref39.SamePairs -/
def as25:List Ty:=[tQ,tQ]
def rs25:List Ty:=[.bool]
def an25:Ann:=.seq (.a) (.seq (.a) (.seq (.seq (.a) (.block (.loop ⟨[(5,.r (.c (.d (.d tI))))],(ra 11 15 ([])),[],[]⟩ [(.exit 0,⟨[],(5::ra 11 15 ([])),[],[]⟩),(.ret,⟨[(4,.r (.c (.d (.d .bool))))],(5::ra 11 15 ([])),[],[]⟩)] (.seq (.a) (.seq (.block (.seq (.reg [0,0,3,7,0,0,48,112,255] (ra 0 9 ([])) (za 9 ([])) (.a)) (.a))) (.a)))))) (.a)))
def m25:((List (Int×Int))×List (Int×Int))→Option (Bool) :=
 fun x=>bif PE.notM (eqM (lenM x.1) (lenM x.2)) then some false else (iA (fun (s:Int)=>bif ltM s (lenM x.1) then (gA x.1 s).bind fun r=>(gA x.2
 s).bind fun r_1=>bif PE.notM (PE.andM (eqM r.1 r_1.1) (eqM r.2 r_1.2)) then some (Sum.inr (Sum.inr false)) else some (Sum.inl (wrap .i64 (s+1)))
 else some (Sum.inr (Sum.inl ()))) 0).bind fun o=>Sum.elim (fun (t:Unit)=>some true) (fun (t:Bool)=>some t) o
theorem c25:SpecOK Tryz.prog 25 ⟨as25,rs25,m25⟩ :=
 fc tabs26OK [] an25 Tryz.f25 fun x=>by kernel_rfl
def tabs25:Tabs:=Tabs.add tabs26 25 ⟨as25,rs25,m25⟩
theorem tabs25OK:TabOK Tryz.prog tabs25:=TabOK.add tabs26OK c25 Tryz.call25

/-! putlog/putlogref39.Same -/
def as18:List Ty:=[(.list tR),(.list tR)]
def rs18:List Ty:=[.bool]
def an18:Ann:=.seq (.a) (.seq (.a) (.seq (.seq (.a) (.block (.loop ⟨[(5,.r (.c (.d (.d tI))))],(ra 11 15 ([])),[],[]⟩ [(.exit 0,⟨[],(5::ra 11 15 ([])),[],[]⟩),(.ret,⟨[(4,.r (.c (.d (.d .bool))))],(5::ra 11 15 ([])),[],[]⟩)] (.seq (.a) (.seq (.block (.seq (.reg [0,0,3,7,0,0,48,112,255] (ra 0 9 ([])) (za 9 ([])) (.a)) (.a))) (.a)))))) (.a)))
def m18:((List (Int×Int×Int×Int×Int×Int×Int×List UInt8×List UInt8))×List (Int×Int×Int×Int×Int×Int×Int×List UInt8×List UInt8))→Option (Bool) :=
 fun x=>bif PE.notM (eqM (lenM x.1) (lenM x.2)) then some false else (iA (fun (s:Int)=>bif ltM s (lenM x.1) then (gA x.1 s).bind fun r=>(gA x.2
 s).bind fun r_1=>bif PE.notM (PE.andM (eqM r.1 r_1.1) (PE.andM (eqM r.2.1 r_1.2.1) (PE.andM (eqM r.2.2.1 r_1.2.2.1) (PE.andM (eqM r.2.2.2.1 r_1.2.2.2.1)
 (PE.andM (eqM r.2.2.2.2.1 r_1.2.2.2.2.1) (PE.andM (eqM r.2.2.2.2.2.1 r_1.2.2.2.2.2.1) (PE.andM (eqM r.2.2.2.2.2.2.1 r_1.2.2.2.2.2.2.1) (PE.andM (kB
 r.2.2.2.2.2.2.2.1 r_1.2.2.2.2.2.2.2.1) (kB r.2.2.2.2.2.2.2.2 r_1.2.2.2.2.2.2.2.2))))))))) then some (Sum.inr (Sum.inr false)) else some (Sum.inl (wrap
 IntKind.i64 (s+1))) else some (Sum.inr (Sum.inl ()))) 0).bind fun o=>Sum.elim (fun (t:Unit)=>some true) (fun (t:Bool)=>some t) o
theorem c18:SpecOK Tryz.prog 18 ⟨as18,rs18,m18⟩ :=
 fc tabs25OK [] an18 Tryz.f18 fun x=>by kernel_rfl
def tabs18:Tabs:=Tabs.add tabs25 18 ⟨as18,rs18,m18⟩
theorem tabs18OK:TabOK Tryz.prog tabs18:=TabOK.add tabs25OK c18 Tryz.call18

/-! putlog/archive.Genuine -/
def as27:List Ty:=[.str,tR]
def rs27:List Ty:=[.bool]
def an27:Ann:=.seq (.a) (.seq (.reg [0,1,3,7,15,31,63,127,255,255,1023,255,2303,8191,16383,32767] (ra 0 16 ([])) (za 4 (.s [0] []::za 4 (.s [0] []::z0::z0::.s [0] []::za 3 ([])))) (.a)) (.a))
def m27:(List UInt8×Int×Int×Int×Int×Int×Int×Int×List UInt8×List UInt8)→Option (Bool) :=
 fun x=>(bif eqM (lenM x.1) 32 then m43 (x.2.1,x.2.2.1,x.2.2.2.1,x.2.2.2.2.1,x.2.2.2.2.2.1,x.2.2.2.2.2.2.1,x.2.2.2.2.2.2.2.1,x.2.2.2.2.2.2.2.2.1,
 x.2.2.2.2.2.2.2.2.2) else some false).bind fun r=>(bif PE.andM (eqM (lenM x.1) 32) r then m64 (x.1,x.2.1,x.2.2.1,x.2.2.2.1,x.2.2.2.2.1,x.2.2.2.2.2.1,
 x.2.2.2.2.2.2.1,x.2.2.2.2.2.2.2.1,x.2.2.2.2.2.2.2.2.1,x.2.2.2.2.2.2.2.2.2) else some []).bind fun r_1=>some (PE.andM (PE.andM (eqM (lenM x.1) 32) r)
 (kB r_1 x.2.2.2.2.2.2.2.2.2))
theorem c27:SpecOK Tryz.prog 27 ⟨as27,rs27,m27⟩ :=
 fc tabs18OK [] an27 Tryz.f27 fun x=>by kernel_rfl
def tabs27:Tabs:=Tabs.add tabs18 27 ⟨as27,rs27,m27⟩
theorem tabs27OK:TabOK Tryz.prog tabs27:=TabOK.add tabs18OK c27 Tryz.call27

/-! putlog/putloglaw39.sane -/
def as4:List Ty:=[]
def rs4:List Ty:=[.bool]
def an4:Ann:=.a
def m4:Unit→Option (Bool) :=
 fun x=>(m19 ([(107:UInt8),(107:UInt8),(107:UInt8),(107:UInt8),(107:UInt8),(107:UInt8),(107:UInt8),(107:UInt8),(107:UInt8),(107 :
 UInt8),(107:UInt8),(107:UInt8),(107:UInt8),(107:UInt8),(107:UInt8),(107:UInt8),(107:UInt8),(107:UInt8),(107:UInt8),(107:UInt8),
 (107:UInt8),(107:UInt8),(107:UInt8),(107:UInt8),(107:UInt8),(107:UInt8),(107:UInt8),(107:UInt8),(107:UInt8),(107:UInt8),(107 :
 UInt8),(107:UInt8)],[],3,0,100,1,5,10,(-1),[],[])).bind fun r=>(m16 ([],r.1.1,r.1.2.1,r.1.2.2.1,r.1.2.2.2.1,r.1.2.2.2.2.1,
 r.1.2.2.2.2.2.1,r.1.2.2.2.2.2.2.1,r.1.2.2.2.2.2.2.2.1,r.1.2.2.2.2.2.2.2.2)).bind fun r_1=>(m19 ([(107:UInt8),(107:UInt8),(107:UInt8),(107 :
 UInt8),(107:UInt8),(107:UInt8),(107:UInt8),(107:UInt8),(107:UInt8),(107:UInt8),(107:UInt8),(107:UInt8),(107:UInt8),(107:UInt8),
 (107:UInt8),(107:UInt8),(107:UInt8),(107:UInt8),(107:UInt8),(107:UInt8),(107:UInt8),(107:UInt8),(107:UInt8),(107:UInt8),(107 :
 UInt8),(107:UInt8),(107:UInt8),(107:UInt8),(107:UInt8),(107:UInt8),(107:UInt8),(107:UInt8)],r_1.1,3,0,200,1,5,12,(-1),[],
 [])).bind fun r_2=>(m16 (r_1.1,r_2.1.1,r_2.1.2.1,r_2.1.2.2.1,r_2.1.2.2.2.1,r_2.1.2.2.2.2.1,r_2.1.2.2.2.2.2.1,r_2.1.2.2.2.2.2.2.1,
 r_2.1.2.2.2.2.2.2.2.1,r_2.1.2.2.2.2.2.2.2.2)).bind fun r_3=>(m19 ([(107:UInt8),(107:UInt8),(107:UInt8),(107:UInt8),(107:UInt8),(107 :
 UInt8),(107:UInt8),(107:UInt8),(107:UInt8),(107:UInt8),(107:UInt8),(107:UInt8),(107:UInt8),(107:UInt8),(107:UInt8),(107:UInt8),
 (107:UInt8),(107:UInt8),(107:UInt8),(107:UInt8),(107:UInt8),(107:UInt8),(107:UInt8),(107:UInt8),(107:UInt8),(107:UInt8),(107 :
 UInt8),(107:UInt8),(107:UInt8),(107:UInt8),(107:UInt8),(107:UInt8)],r_3.1,3,0,300,2,0,0,1,[],[])).bind fun r_4=>(m16 (r_3.1,
 r_4.1.1,r_4.1.2.1,r_4.1.2.2.1,r_4.1.2.2.2.1,r_4.1.2.2.2.2.1,r_4.1.2.2.2.2.2.1,r_4.1.2.2.2.2.2.2.1,r_4.1.2.2.2.2.2.2.2.1,r_4.1.2.2.2.2.2.2.2.2)).bind
 fun r_5=>(m11 (r.1.1,r.1.2.1,r.1.2.2.1,r.1.2.2.2.1,r.1.2.2.2.2.1,r.1.2.2.2.2.2.1,r.1.2.2.2.2.2.2.1,r.1.2.2.2.2.2.2.2.1,r.1.2.2.2.2.2.2.2.2)).bind
 fun r_6=>(m19 ([(107:UInt8)],r_1.1,r.1.1,r.1.2.1,r.1.2.2.1,r.1.2.2.2.1,r.1.2.2.2.2.1,r.1.2.2.2.2.2.1,r.1.2.2.2.2.2.2.1,r.1.2.2.2.2.2.2.2.1,
 r.1.2.2.2.2.2.2.2.2)).bind fun r_7=>bif PE.orM (PE.orM (PE.orM (PE.orM (PE.orM (PE.orM (PE.orM (PE.orM (PE.orM (PE.notM (eqM r.2 0)) (PE.notM (eqM r_1.2
 0))) (PE.notM (eqM r_2.2 0))) (PE.notM (eqM r_3.2 0))) (PE.notM (eqM r_4.2 0))) (PE.notM (eqM r_5.2 0))) (PE.notM (eqM r_6.2 0))) (PE.notM (eqM r_7.2 390)))
 (PE.notM (eqM (lenM r_5.1) 3))) (ltM (lenM r_6.1) 9) then some false else (m17 (r_1.1,[(r_4.1.1,r_4.1.2.1,r_4.1.2.2.1,r_4.1.2.2.2.1,r_4.1.2.2.2.2.1,
 r_4.1.2.2.2.2.2.1,r_4.1.2.2.2.2.2.2.1,r_4.1.2.2.2.2.2.2.2.1,r_4.1.2.2.2.2.2.2.2.2)])).bind fun r_8=>(m16 (r_5.1,r_2.1.1,r_2.1.2.1,201,r_2.1.2.2.2.1,
 r_2.1.2.2.2.2.1,r_2.1.2.2.2.2.2.1,r_2.1.2.2.2.2.2.2.1,r_2.1.2.2.2.2.2.2.2.1,r_2.1.2.2.2.2.2.2.2.2)).bind fun r_9=>(m20 (r_5.1,r_1.1)).bind fun r_10 =>
 (m14 [r_6.1,[(120:UInt8)]]).bind fun r_11=>(m21 r_1.1).bind fun r_12=>(bif PE.notM (PE.orM (PE.orM (PE.orM (PE.notM (eqM r_9.2 0)) (PE.notM (eqM r_10.2
 0))) (PE.notM (eqM r_11.2 0))) (PE.notM (eqM r_12.2 0))) then m22 r_6.1 else some []).bind fun r_13=>bif PE.orM (PE.orM (PE.orM (PE.orM (PE.notM (eqM r_9.2
 0)) (PE.notM (eqM r_10.2 0))) (PE.notM (eqM r_11.2 0))) (PE.notM (eqM r_12.2 0))) (PE.notM (kB r_12.1 r_13)) then some false else (m23 r_1.1).bind fun r_14
 => (m23 r_3.1).bind fun r_15=>(m23 r_5.1).bind fun r_16=>(bif eqM (lenM r_14) 1 then gA r_14 0 else some (0,0,0,0,0,0,0,[],[])).bind fun r_17 =>
 (bif PE.andM (PE.andM (eqM (lenM r_14) 1) (eqM r_17.2.2.2.2.2.1 10)) (eqM (lenM r_15) 1) then gA r_15 0 else some (0,0,0,0,0,0,0,[],[])).bind fun
 r_18=>(bif PE.andM (PE.andM (PE.andM (PE.andM (eqM (lenM r_14) 1) (eqM r_17.2.2.2.2.2.1 10)) (eqM (lenM r_15) 1)) (eqM r_18.2.2.2.2.2.1 12)) (eqM (lenM
 r_16) 1) then gA r_16 0 else some (0,0,0,0,0,0,0,[],[])).bind fun r_19=>(m24 (r_5.1,3)).bind fun r_20=>(bif eqM (lenM r_20) 3 then m24 (r_8.1,
 3) else some []).bind fun r_21=>(bif PE.andM (eqM (lenM r_20) 3) (eqM (lenM r_21) 1) then m24 ([(r_2.1.1,r_2.1.2.1,r_2.1.2.2.1,r_2.1.2.2.2.1,
 r_2.1.2.2.2.2.1,r_2.1.2.2.2.2.2.1,r_2.1.2.2.2.2.2.2.1,r_2.1.2.2.2.2.2.2.2.1,r_2.1.2.2.2.2.2.2.2.2),(r_4.1.1,r_4.1.2.1,r_4.1.2.2.1,r_4.1.2.2.2.1,
 r_4.1.2.2.2.2.1,r_4.1.2.2.2.2.2.1,r_4.1.2.2.2.2.2.2.1,r_4.1.2.2.2.2.2.2.2.1,r_4.1.2.2.2.2.2.2.2.2)],3) else some []).bind fun r_22=>(bif PE.andM
 (PE.andM (eqM (lenM r_20) 3) (eqM (lenM r_21) 1)) (eqM (lenM r_22) 0) then m24 (r_9.1,3) else some []).bind fun r_23=>(m26 r_9.1).bind fun r_24=>(m25
 (r_24,[(3,1)])).bind fun r_25=>(bif r_25 then m26 r_5.1 else some []).bind fun r_26=>(bif PE.andM (PE.andM (PE.andM (PE.andM (PE.andM (PE.andM (PE.andM
 (eqM (lenM r_14) 1) (eqM r_17.2.2.2.2.2.1 10)) (eqM (lenM r_15) 1)) (eqM r_18.2.2.2.2.2.1 12)) (eqM (lenM r_16) 1)) (eqM r_19.2.2.2.2.2.1 10)) (PE.andM
 (PE.andM (PE.andM (eqM (lenM r_20) 3) (eqM (lenM r_21) 1)) (eqM (lenM r_22) 0)) (eqM (lenM r_23) 1))) (PE.andM r_25 (eqM (lenM r_26) 0)) then pA r_6.1 0 9
 else some []).bind fun r_27=>(bif PE.andM (PE.andM (PE.andM (PE.andM (PE.andM (PE.andM (PE.andM (PE.andM (eqM (lenM r_14) 1) (eqM r_17.2.2.2.2.2.1 10)) (eqM
 (lenM r_15) 1)) (eqM r_18.2.2.2.2.2.1 12)) (eqM (lenM r_16) 1)) (eqM r_19.2.2.2.2.2.1 10)) (PE.andM (PE.andM (PE.andM (eqM (lenM r_20) 3) (eqM (lenM r_21) 1))
 (eqM (lenM r_22) 0)) (eqM (lenM r_23) 1))) (PE.andM r_25 (eqM (lenM r_26) 0))) (kB r_27 [(6:UInt8),(0:UInt8),(200:UInt8),(1:UInt8),(2:UInt8),
 (10:UInt8),(20:UInt8),(1:UInt8),(64:UInt8)]) then m18 (r_10.1,[(r_2.1.1,r_2.1.2.1,r_2.1.2.2.1,r_2.1.2.2.2.1,r_2.1.2.2.2.2.1,
 r_2.1.2.2.2.2.2.1,r_2.1.2.2.2.2.2.2.1,r_2.1.2.2.2.2.2.2.2.1,r_2.1.2.2.2.2.2.2.2.2),(r_4.1.1,r_4.1.2.1,r_4.1.2.2.1,r_4.1.2.2.2.1,r_4.1.2.2.2.2.1,
 r_4.1.2.2.2.2.2.1,r_4.1.2.2.2.2.2.2.1,r_4.1.2.2.2.2.2.2.2.1,r_4.1.2.2.2.2.2.2.2.2)]) else some false).bind fun r_28=>(bif PE.andM (PE.andM (PE.andM
 (PE.andM (PE.andM (PE.andM (PE.andM (PE.andM (PE.andM (eqM (lenM r_14) 1) (eqM r_17.2.2.2.2.2.1 10)) (eqM (lenM r_15) 1)) (eqM r_18.2.2.2.2.2.1 12)) (eqM
 (lenM r_16) 1)) (eqM r_19.2.2.2.2.2.1 10)) (PE.andM (PE.andM (PE.andM (eqM (lenM r_20) 3) (eqM (lenM r_21) 1)) (eqM (lenM r_22) 0)) (eqM (lenM r_23) 1)))
 (PE.andM r_25 (eqM (lenM r_26) 0))) (kB r_27 [(6:UInt8),(0:UInt8),(200:UInt8),(1:UInt8),(2:UInt8),(10:UInt8),(20:UInt8),(1:UInt8),
 (64:UInt8)])) r_28 then m18 (r_11.1,r_1.1) else some false).bind fun r_29=>(bif PE.andM (PE.andM (PE.andM (PE.andM (PE.andM (PE.andM (PE.andM (PE.andM
 (PE.andM (PE.andM (eqM (lenM r_14) 1) (eqM r_17.2.2.2.2.2.1 10)) (eqM (lenM r_15) 1)) (eqM r_18.2.2.2.2.2.1 12)) (eqM (lenM r_16) 1)) (eqM r_19.2.2.2.2.2.1
 10)) (PE.andM (PE.andM (PE.andM (eqM (lenM r_20) 3) (eqM (lenM r_21) 1)) (eqM (lenM r_22) 0)) (eqM (lenM r_23) 1))) (PE.andM r_25 (eqM (lenM r_26) 0))) (kB
 r_27 [(6:UInt8),(0:UInt8),(200:UInt8),(1:UInt8),(2:UInt8),(10:UInt8),(20:UInt8),(1:UInt8),(64:UInt8)])) r_28) r_29 then m27 ([(107 :
 UInt8),(107:UInt8),(107:UInt8),(107:UInt8),(107:UInt8),(107:UInt8),(107:UInt8),(107:UInt8),(107:UInt8),(107:UInt8),(107:UInt8),
 (107:UInt8),(107:UInt8),(107:UInt8),(107:UInt8),(107:UInt8),(107:UInt8),(107:UInt8),(107:UInt8),(107:UInt8),(107:UInt8),(107 :
 UInt8),(107:UInt8),(107:UInt8),(107:UInt8),(107:UInt8),(107:UInt8),(107:UInt8),(107:UInt8),(107:UInt8),(107:UInt8),(107:UInt8)],
 r_2.1.1,r_2.1.2.1,r_2.1.2.2.1,r_2.1.2.2.2.1,r_2.1.2.2.2.2.1,r_2.1.2.2.2.2.2.1,r_2.1.2.2.2.2.2.2.1,r_2.1.2.2.2.2.2.2.2.1,r_2.1.2.2.2.2.2.2.2.2) else
 some false).bind fun r_30=>(bif PE.andM (PE.andM (PE.andM (PE.andM (PE.andM (PE.andM (PE.andM (PE.andM (PE.andM (PE.andM (PE.andM (eqM (lenM r_14) 1) (eqM
 r_17.2.2.2.2.2.1 10)) (eqM (lenM r_15) 1)) (eqM r_18.2.2.2.2.2.1 12)) (eqM (lenM r_16) 1)) (eqM r_19.2.2.2.2.2.1 10)) (PE.andM (PE.andM (PE.andM (eqM (lenM
 r_20) 3) (eqM (lenM r_21) 1)) (eqM (lenM r_22) 0)) (eqM (lenM r_23) 1))) (PE.andM r_25 (eqM (lenM r_26) 0))) (kB r_27 [(6:UInt8),(0:UInt8),(200 :
 UInt8),(1:UInt8),(2:UInt8),(10:UInt8),(20:UInt8),(1:UInt8),(64:UInt8)])) r_28) r_29) r_30 then m27 ([(107:UInt8),(107:UInt8),(107 :
 UInt8),(107:UInt8),(107:UInt8),(107:UInt8),(107:UInt8),(107:UInt8),(107:UInt8),(107:UInt8),(107:UInt8),(107:UInt8),(107:UInt8),
 (107:UInt8),(107:UInt8),(107:UInt8),(107:UInt8),(107:UInt8),(107:UInt8),(107:UInt8),(107:UInt8),(107:UInt8),(107:UInt8),(107 :
 UInt8),(107:UInt8),(107:UInt8),(107:UInt8),(107:UInt8),(107:UInt8),(107:UInt8),(107:UInt8),(107:UInt8)],r_2.1.1,r_2.1.2.1,201,
 r_2.1.2.2.2.1,r_2.1.2.2.2.2.1,r_2.1.2.2.2.2.2.1,r_2.1.2.2.2.2.2.2.1,r_2.1.2.2.2.2.2.2.2.1,r_2.1.2.2.2.2.2.2.2.2) else some false).bind fun r_31=>(bif
 PE.andM (PE.andM (PE.andM (PE.andM (PE.andM (PE.andM (PE.andM (PE.andM (PE.andM (PE.andM (PE.andM (PE.andM (eqM (lenM r_14) 1) (eqM r_17.2.2.2.2.2.1 10)) (eqM
 (lenM r_15) 1)) (eqM r_18.2.2.2.2.2.1 12)) (eqM (lenM r_16) 1)) (eqM r_19.2.2.2.2.2.1 10)) (PE.andM (PE.andM (PE.andM (eqM (lenM r_20) 3) (eqM (lenM r_21) 1))
 (eqM (lenM r_22) 0)) (eqM (lenM r_23) 1))) (PE.andM r_25 (eqM (lenM r_26) 0))) (kB r_27 [(6:UInt8),(0:UInt8),(200:UInt8),(1:UInt8),(2:UInt8),
 (10:UInt8),(20:UInt8),(1:UInt8),(64:UInt8)])) r_28) r_29) r_30) (PE.notM r_31) then m28 r_5.1 else some false).bind fun r_32=>(bif PE.andM
 (PE.andM (PE.andM (PE.andM (PE.andM (PE.andM (PE.andM (PE.andM (PE.andM (PE.andM (PE.andM (PE.andM (PE.andM (eqM (lenM r_14) 1) (eqM r_17.2.2.2.2.2.1 10))
 (eqM (lenM r_15) 1)) (eqM r_18.2.2.2.2.2.1 12)) (eqM (lenM r_16) 1)) (eqM r_19.2.2.2.2.2.1 10)) (PE.andM (PE.andM (PE.andM (eqM (lenM r_20) 3) (eqM (lenM
 r_21) 1)) (eqM (lenM r_22) 0)) (eqM (lenM r_23) 1))) (PE.andM r_25 (eqM (lenM r_26) 0))) (kB r_27 [(6:UInt8),(0:UInt8),(200:UInt8),(1:UInt8),(2
 : UInt8),(10:UInt8),(20:UInt8),(1:UInt8),(64:UInt8)])) r_28) r_29) r_30) (PE.notM r_31)) r_32 then m28 [(r_2.1.1,r_2.1.2.1,r_2.1.2.2.1,
 r_2.1.2.2.2.1,r_2.1.2.2.2.2.1,r_2.1.2.2.2.2.2.1,r_2.1.2.2.2.2.2.2.1,r_2.1.2.2.2.2.2.2.2.1,r_2.1.2.2.2.2.2.2.2.2),(r.1.1,r.1.2.1,r.1.2.2.1,
 r.1.2.2.2.1,r.1.2.2.2.2.1,r.1.2.2.2.2.2.1,r.1.2.2.2.2.2.2.1,r.1.2.2.2.2.2.2.2.1,r.1.2.2.2.2.2.2.2.2)] else some false).bind fun r=>some (PE.andM
 (PE.andM (PE.andM (PE.andM (PE.andM (PE.andM (PE.andM (PE.andM (PE.andM (PE.andM (PE.andM (PE.andM (PE.andM (PE.andM (eqM (lenM r_14) 1) (eqM r_17.2.2.2.2.2.1
 10)) (eqM (lenM r_15) 1)) (eqM r_18.2.2.2.2.2.1 12)) (eqM (lenM r_16) 1)) (eqM r_19.2.2.2.2.2.1 10)) (PE.andM (PE.andM (PE.andM (eqM (lenM r_20) 3) (eqM (lenM
 r_21) 1)) (eqM (lenM r_22) 0)) (eqM (lenM r_23) 1))) (PE.andM r_25 (eqM (lenM r_26) 0))) (kB r_27 [(6:UInt8),(0:UInt8),(200:UInt8),(1:UInt8),(2
 : UInt8),(10:UInt8),(20:UInt8),(1:UInt8),(64:UInt8)])) r_28) r_29) r_30) (PE.notM r_31)) r_32) (PE.notM r))
theorem c4:SpecOK Tryz.prog 4 ⟨as4,rs4,m4⟩ :=
 fc tabs27OK [] an4 Tryz.f4 fun x=>by kernel_rfl
def tabs4:Tabs:=Tabs.add tabs27 4 ⟨as4,rs4,m4⟩
theorem tabs4OK:TabOK Tryz.prog tabs4:=TabOK.add tabs27OK c4 Tryz.call4

/-! putlog/putlogref39.pick -/
def as30:List Ty:=[tI,tI]
def rs30:List Ty:=[tI]
def an30:Ann:=.seq (.a) (.seq (.join [(.norm,⟨[(0,.r (.c (.d (.d tI))))],[5,6,7,8,9],[],[]⟩)] (.a)) (.a))
def m30:(Int×Int)→Option (Int) :=
 fun x=>(bif ltM x.1 0 then some (wrap .i64 (negM (wrap .i64 (x.1+1)))) else some x.1).bind fun o=>(remM o x.2).bind fun r=>some r
theorem c30:SpecOK Tryz.prog 30 ⟨as30,rs30,m30⟩ :=
 fc tabs4OK [] an30 Tryz.f30 fun x=>by kernel_rfl
def tabs30:Tabs:=Tabs.add tabs4 30 ⟨as30,rs30,m30⟩
theorem tabs30OK:TabOK Tryz.prog tabs30:=TabOK.add tabs4OK c30 Tryz.call30

/-! putlog/putlogref02.extended -/
def as131:List Ty:=[.str]
def rs131:List Ty:=[(.list (.int .u8))]
def an131:Ann:=.seq (.a) (.seq (.a) (.seq (.seq (.a) (.block (.loop ⟨[(3,.r (.c (.h 0))),(4,.r (.c (.d (.d tI))))],(ra 6 12 ([])),[],[.arr (.int .u8)]⟩ [(.exit 0,⟨[(3,.r (.c (.h 0)))],(4::ra 6 12 ([])),[],[.arr (.int .u8)]⟩)] (.a)))) (.seq (.a) (.seq (.block (.loop ⟨[(3,.r (.c (.h 2)))],(ra 21 7 ([])),[(1,.gone)],[.arr (.int .u8)]⟩ [(.exit 2,⟨[(3,.r (.c (.h 2)))],(ra 21 7 ([])),[(1,.gone)],[.arr (.int .u8)]⟩)] (.a))) (.seq (.seq (.a) (.block (.loop ⟨[(3,.r (.c (.h 3))),(5,.r (.c (.d (.d tI))))],(ra 28 14 ([])),[(2,.gone)],[.arr (.int .u8)]⟩ [(.exit 4,⟨[(3,.r (.c (.h 3)))],(5::ra 28 14 ([])),[(2,.gone)],[.arr (.int .u8)]⟩)] (.a)))) (.a))))))
def m131:List UInt8→Option (List Int) :=
 fun x=>(iA (fun (s:Int×List Int)=>bif ltM s.1 (lenM x) then (byteM x s.1).bind fun r=>(eB (nat_lit 1) s.2 [r]).bind fun r=>some (Sum.inl (wrap
 IntKind.i64 (s.1+1),r)) else some (Sum.inr s.2)) (0,[])).bind fun o=>(eB (nat_lit 1) o [128]).bind fun r=>(iA (fun (s:List Int)=>(remM (lenM
 s) 64).bind fun r_1=>bif PE.notM (eqM r_1 56) then (eB (nat_lit 1) s [0]).bind fun r=>some (Sum.inl r) else some (Sum.inr s)) r).bind fun o_1=>(iA
 (fun (s:Int×List Int)=>bif leM 0 s.1 then (rG .i64 (wrap .i64 (8*lenM x)) (wrap .i64 (8*s.1))).bind fun r_1=>(eB (nat_lit
 1) s.2 [wrap .u8 r_1]).bind fun r=>some (Sum.inl (wrap .i64 (s.1-1),r)) else some (Sum.inr s.2)) (7,o_1)).bind fun o=>some o
theorem c131:SpecOK Tryz.prog 131 ⟨as131,rs131,m131⟩ :=
 fc tabs30OK [] an131 Tryz.f131 fun x=>by kernel_rfl
def tabs131:Tabs:=Tabs.add tabs30 131 ⟨as131,rs131,m131⟩
theorem tabs131OK:TabOK Tryz.prog tabs131:=TabOK.add tabs30OK c131 Tryz.call131
end
variable [EA]
noncomputable section

/-! putlog/putlogref02.rotated -/
def as170:List Ty:=[(.int .u32),tI]
def rs170:List Ty:=[(.int .u32)]
def an170:Ann:=.seq (.a) (.seq (.reg [0,0,3,0,0,16,56,127,255] (ra 0 9 ([])) (za 9 ([])) (.a)) (.a))
def m170:(Int×Int)→Option (Int) :=
 fun x=>(rG .u32 x.1 x.2).bind fun r=>(qI .u32 x.1 (wrap .i64 (32-x.2))).bind fun r_1=>some (uA BinOp.or .u32 r r_1)
theorem c170:SpecOK Tryz.prog 170 ⟨as170,rs170,m170⟩ :=
 fc tabs131OK [] an170 Tryz.f170 fun x=>by kernel_rfl
def tabs170:Tabs:=Tabs.add tabs131 170 ⟨as170,rs170,m170⟩
theorem tabs170OK:TabOK Tryz.prog tabs170:=TabOK.add tabs131OK c170 Tryz.call170

/-! putlog/putlogref02.constants -/
def as171:List Ty:=[]
def rs171:List Ty:=[(.list (.int .u32))]
def an171:Ann:=.a
def m171:Unit→Option (List Int) :=
 fun x=>some [1116352408,1899447441,3049323471,3921009573,961987163,1508970993,2453635748,2870763221,3624381080,310598401,607225278,1426881987,
 1925078388,2162078206,2614888103,3248222580,3835390401,4022224774,264347078,604807628,770255983,1249150122,1555081692,1996064986,2554220882,
 2821834349,2952996808,3210313671,3336571891,3584528711,113926993,338241895,666307205,773529912,1294757372,1396182291,1695183700,1986661051,
 2177026350,2456956037,2730485921,2820302411,3259730800,3345764771,3516065817,3600352804,4094571909,275423344,430227734,506948616,659060556,
 883997877,958139571,1322822218,1537002063,1747873779,1955562222,2024104815,2227730452,2361852424,2428436474,2756734187,3204031479,3329325298]
theorem c171:SpecOK Tryz.prog 171 ⟨as171,rs171,m171⟩ :=
 fc tabs170OK [] an171 Tryz.f171 fun x=>by kernel_rfl
def tabs171:Tabs:=Tabs.add tabs170 171 ⟨as171,rs171,m171⟩
theorem tabs171OK:TabOK Tryz.prog tabs171:=TabOK.add tabs170OK c171 Tryz.call171

/-! putlog/putlogref02.block -/
def as132:List Ty:=[(.list (.int .u32)),(.list (.int .u8))]
def rs132:List Ty:=[(.list (.int .u32))]
def an132_0:Ann:=.reg [0,0,2,7,15,31,0,0,128,448,960,2047,4095,0,0,16384,57344,122880,253952,524287,1048575] (ra 0 21 ([])) (za 3 (.s [1] []::.s [1] []::za 4 (.s [1] []::.s [1] []::za 5 (.s [1] []::.s [1] []::za 3 ([]))))) (.a)
def an132:Ann:=.seq (.a) (.seq (.a) (.seq (.seq (.a) (.block (.loop ⟨[(5,.r (.c (.h 0))),(6,.r (.c (.d (.d tI))))],(ra 19 40 ([])),[],[.arr (.int .u32)]⟩ [(.exit 0,⟨[(5,.r (.c (.h 0)))],(6::ra 19 40 ([])),[],[.arr (.int .u32)]⟩)] (.seq (.a) (.seq (.block (.reg [0,0,0,4,14,30,62,126,0,0,512,1536,3840,7936,16128,32512,65534,0,0,262144,786432,1966080,4063232,8257536,16646144,33554430,0,0,134217728,402653184,1006632960,2080374784,4227858432,8589934590,17179869182,34359738367,68719476735] (ra 0 37 ([])) (za 35 (.s [0] [1,0]::z0::[])) (.a))) (.a)))))) (.seq (.seq (.a) (.block (.loop ⟨[(5,.r (.c (.h 1))),(7,.r (.c (.d (.d tI))))],(8::9::ra 59 62 ([])),[(0,.gone)],[.arr (.int .u32)]⟩ [(.exit 2,⟨[(5,.r (.c (.h 1)))],(7::8::9::ra 59 62 ([])),[(0,.gone)],[.arr (.int .u32)]⟩)] (.seq (.a) (.seq (.block (.seq an132_0 (.seq an132_0 (.reg [0,0,0,4,14,30,0,126,0,0,512,1792,3840,8190,0,32766,65534,131071,262143] (ra 0 19 ([])) (za 4 (.s [1] []::.s [1] []::za 5 (.s [1] []::.s [1] []::za 4 (.s [1] [2,1]::z0::[])))) (.a))))) (.a)))))) (.seq (.a) (.seq (.a) (.seq (.a) (.seq (.seq (.a) (.block (.loop ⟨[(11,.r (.c (.d (.d (.list (.int .u32)))))),(12,.r (.c (.d (.d tI))))],(13::14::15::16::ra 125 96 ([])),[(2,.gone)],[]⟩ [(.exit 4,⟨[(11,.r (.c (.d (.d (.list (.int .u32))))))],(12::13::14::15::16::ra 125 96 ([])),[(2,.gone)],[]⟩)] (.seq (.a) (.seq (.block (.seq (.a) (.seq (.a) (.seq (.reg [0,1,3,0,8,0,56,120,0,376,1016,2047,0,0,8192,24576,61440,0,131072,0,524288,1572864,4063232,8384512,16777215,0,0,100663296,234881024,536870911,0,0,3221225472,7516192768,17179869183,34359738367] (ra 0 36 ([])) (za 32 (.s [1] []::.s [1] []::z0::z0::[])) (.a)) (.seq (.reg [0,1,0,7,15,0,47,127,0,0,512,1536,3840,0,0,16384,49152,122880,261888,0,524288,1572864,0,4194304,12582912,33030144,67108608,134217727,268435455] (ra 0 29 ([])) (za 29 ([])) (.a)) (.reg [0,0,3,0,0,16,48,0,128,384,0,1024,3072,0,15360,0,0,65536,196608,0,524288,1572864,4194303,8388607] (ra 0 24 ([])) (za 24 ([])) (.a))))))) (.a)))))) (.seq (.a) (.seq (.seq (.a) (.block (.loop ⟨[(17,.r (.c (.h 3))),(18,.r (.c (.d (.d tI))))],(ra 221 16 ([])),[],[.arr (.int .u32)]⟩ [(.exit 6,⟨[(17,.r (.c (.h 3)))],(18::ra 221 16 ([])),[],[.arr (.int .u32)]⟩)] (.seq (.a) (.seq (.block (.reg [0,0,0,6,14,0,0,96,224,510,1022,2047,4095] (ra 0 13 ([])) (za 11 (.s [3] [4,3]::z0::[])) (.a))) (.a)))))) (.a))))))))))
def m132:(List Int×List Int)→Option (List Int) :=
 fun x=>(iA (fun (s:Int×List Int)=>bif ltM s.1 16 then (gA x.2 (wrap .i64 (4*s.1))).bind fun r=>(qI .u32 (wrap .u32 r)
 24).bind fun r_1=>(gA x.2 (wrap .i64 (wrap .i64 (4*s.1)+1))).bind fun r_2=>(qI .u32 (wrap .u32 r_2) 16).bind fun r_3
 => (gA x.2 (wrap .i64 (wrap .i64 (4*s.1)+2))).bind fun r_4=>(qI .u32 (wrap .u32 r_4) 8).bind fun r_5=>(gA x.2 (wrap
 IntKind.i64 (wrap .i64 (4*s.1)+3))).bind fun r_6=>(eB (nat_lit 4) s.2 [uA BinOp.or .u32 (uA BinOp.or .u32 (uA BinOp.or
 IntKind.u32 r_1 r_3) r_5) (wrap .u32 r_6)]).bind fun r=>some (Sum.inl (wrap .i64 (s.1+1),r)) else some (Sum.inr s.2)) (0,[])).bind fun o
 => (iA (fun (s:Int×List Int)=>bif ltM s.1 64 then (oA (wrap .i64 (s.1-15)) (lenM s.2)).bind fun r=>(gA s.2 (wrap .i64 (s.1 -
 15))).bind fun r_1=>(m170 (r_1,7)).bind fun r_2=>(oA (wrap .i64 (s.1-15)) (lenM s.2)).bind fun r_3=>(gA s.2 (wrap .i64 (s.1 -
 15))).bind fun r_4=>(m170 (r_4,18)).bind fun r_5=>(oA (wrap .i64 (s.1-15)) (lenM s.2)).bind fun r_6=>(gA s.2 (wrap .i64 (s.1 -
 15))).bind fun r_7=>(rG .u32 r_7 3).bind fun r_8=>(oA (wrap .i64 (s.1-2)) (lenM s.2)).bind fun r_9=>(gA s.2 (wrap .i64 (s.1
 - 2))).bind fun r_10=>(m170 (r_10,17)).bind fun r_11=>(oA (wrap .i64 (s.1-2)) (lenM s.2)).bind fun r_12=>(gA s.2 (wrap .i64 (s.1 -
 2))).bind fun r_13=>(m170 (r_13,19)).bind fun r_14=>(oA (wrap .i64 (s.1-2)) (lenM s.2)).bind fun r_15=>(gA s.2 (wrap .i64 (s.1 -
 2))).bind fun r_16=>(rG .u32 r_16 10).bind fun r_17=>(oA (wrap .i64 (s.1-16)) (lenM s.2)).bind fun r_18=>(gA s.2 (wrap IntKind.i64
 (s.1-16))).bind fun r_19=>(oA (wrap .i64 (s.1-7)) (lenM s.2)).bind fun r_20=>(gA s.2 (wrap .i64 (s.1-7))).bind fun r_21=>(eB
 (nat_lit 4) s.2 [wrap .u32 (wrap .u32 (wrap .u32 (r_19+uA BinOp.xor .u32 (uA BinOp.xor .u32 r_2 r_5) r_8)+r_21) +
 uA BinOp.xor .u32 (uA BinOp.xor .u32 r_11 r_14) r_17)]).bind fun r=>some (Sum.inl (wrap .i64 (s.1+1),r)) else some (Sum.inr
 s.2)) (16,o)).bind fun o_1=>(m171 ()).bind fun r=>(eB (nat_lit 4) [] x.1).bind fun r_1=>(iA (fun (s:List Int×Int)=>bif ltM s.2 64 then (gA
 s.1 0).bind fun r_2=>(gA s.1 4).bind fun r_3=>(gA s.1 7).bind fun r_4=>(m170 (r_3,6)).bind fun r_5=>(m170 (r_3,11)).bind fun r_6=>(m170 (r_3,
 25)).bind fun r_7=>(gA s.1 5).bind fun r_8=>(gA s.1 6).bind fun r_9=>(gA r s.2).bind fun r_10=>(oA s.2 (lenM o_1)).bind fun r_11=>(gA o_1
 s.2).bind fun r_12=>(m170 (r_2,2)).bind fun r_13=>(m170 (r_2,13)).bind fun r_14=>(m170 (r_2,22)).bind fun r_15=>(gA s.1 1).bind fun r_16=>(gA
 s.1 2).bind fun r_17=>(gA s.1 1).bind fun r_18=>(gA s.1 2).bind fun r_19=>(gA s.1 1).bind fun r_20=>(gA s.1 2).bind fun r_21=>(gA s.1
 3).bind fun r_22=>(gA s.1 5).bind fun r_23=>(gA s.1 6).bind fun r=>some (Sum.inl ([wrap .u32 (wrap .u32 (wrap .u32 (wrap
 IntKind.u32 (wrap .u32 (r_4+uA BinOp.xor .u32 (uA BinOp.xor .u32 r_5 r_6) r_7)+uA BinOp.xor .u32 (uA BinOp.and
 IntKind.u32 r_3 r_8) (uA BinOp.and .u32 (cplM .u32 r_3) r_9))+r_10)+r_12)+wrap .u32 (uA BinOp.xor .u32 (uA BinOp.xor
 IntKind.u32 r_13 r_14) r_15+uA BinOp.xor .u32 (uA BinOp.xor .u32 (uA BinOp.and .u32 r_2 r_16) (uA BinOp.and .u32 r_2
 r_17)) (uA BinOp.and .u32 r_18 r_19))),r_2,r_20,r_21,wrap .u32 (r_22+wrap .u32 (wrap .u32 (wrap .u32 (wrap
 IntKind.u32 (r_4+uA BinOp.xor .u32 (uA BinOp.xor .u32 r_5 r_6) r_7)+uA BinOp.xor .u32 (uA BinOp.and .u32 r_3 r_8)
 (uA BinOp.and .u32 (cplM .u32 r_3) r_9))+r_10)+r_12)),r_3,r_23,r],wrap .i64 (s.2+1))) else some (Sum.inr s.1)) (r_1,0)).bind
 fun o_2=>(iA (fun (s:Int×List Int)=>bif ltM s.1 8 then (gA x.1 s.1).bind fun r_2=>(gA o_2 s.1).bind fun r_3=>(eB (nat_lit 4) s.2 [wrap
 IntKind.u32 (r_2+r_3)]).bind fun r=>some (Sum.inl (wrap .i64 (s.1+1),r)) else some (Sum.inr s.2)) (0,[])).bind fun o=>some o
theorem c132:SpecOK Tryz.prog 132 ⟨as132,rs132,m132⟩ :=
 fc tabs171OK [] an132 Tryz.f132 fun x=>by kernel_rfl
def tabs132:Tabs:=Tabs.add tabs171 132 ⟨as132,rs132,m132⟩
theorem tabs132OK:TabOK Tryz.prog tabs132:=TabOK.add tabs171OK c132 Tryz.call132

/-! putlog/putlogref02.Sum -/
def as82:List Ty:=[.str]
def rs82:List Ty:=[.str]
def an82:Ann:=.seq (.a) (.seq (.a) (.seq (.a) (.seq (.seq (.a) (.block (.loop ⟨[(3,.r (.c (.d (.d (.list (.int .u32)))))),(5,.r (.c (.d (.d tI))))],(ra 11 13 ([])),[],[]⟩ [(.exit 0,⟨[(3,.r (.c (.d (.d (.list (.int .u32))))))],(5::ra 11 13 ([])),[],[]⟩)] (.a)))) (.seq (.a) (.seq (.seq (.a) (.block (.loop ⟨[(6,.r (.c (.h 0))),(7,.r (.c (.d (.d tI))))],(ra 24 30 ([])),[],[.arr (.int .u8)]⟩ [(.exit 2,⟨[(6,.r (.c (.h 0)))],(7::ra 24 30 ([])),[],[.arr (.int .u8)]⟩)] (.seq (.a) (.seq (.block (.reg [0,0,0,6,14,30,62,0,0,384,896,1920,3968,0,0,24576,57344,122880,253952,0,0,1572864,3670016,7864320,16777214,33554431,67108863] (ra 0 27 ([])) (za 25 (.s [0] [1,0]::z0::[])) (.a))) (.a)))))) (.a))))))
def m82:List UInt8→Option (List UInt8) :=
 fun x=>(m131 x).bind fun r=>(iA (fun (s:List Int×Int)=>bif ltM s.2 (lenM r) then (pA r s.2 (wrap .i64 (s.2+64))).bind fun r_1=>(m132
 (s.1,r_1)).bind fun r=>some (Sum.inl (r,wrap .i64 (s.2+64))) else some (Sum.inr s.1)) ([1779033703,3144134277,1013904242,2773480762,
 1359893119,2600822924,528734635,1541459225],0)).bind fun o=>(iA (fun (s:Int×List Int)=>bif ltM s.1 8 then (gA o s.1).bind fun r_1=>(rG
 IntKind.u32 r_1 24).bind fun r_2=>(gA o s.1).bind fun r_3=>(rG .u32 r_3 16).bind fun r_4=>(gA o s.1).bind fun r_5=>(rG .u32 r_5
 8).bind fun r_6=>(gA o s.1).bind fun r_7=>(eB (nat_lit 1) s.2 [wrap .u8 r_2,wrap .u8 r_4,wrap .u8 r_6,wrap IntKind.u8
 r_7]).bind fun r=>some (Sum.inl (wrap .i64 (s.1+1),r)) else some (Sum.inr s.2)) (0,[])).bind fun o=>some (oC o)
theorem c82:SpecOK Tryz.prog 82 ⟨as82,rs82,m82⟩ :=
 fc tabs132OK [] an82 Tryz.f82 fun x=>by kernel_rfl
def tabs82:Tabs:=Tabs.add tabs132 82 ⟨as82,rs82,m82⟩
theorem tabs82OK:TabOK Tryz.prog tabs82:=TabOK.add tabs132OK c82 Tryz.call82

/-! putlog/putlogref02.Chain -/
def as77:List Ty:=[.str,.str]
def rs77:List Ty:=[.str]
def an77:Ann:=.a
def m77:(List UInt8×List UInt8)→Option (List UInt8) :=
 fun x=>(lG [(2:UInt8)] x.1).bind fun r=>(lG r x.2).bind fun r_1=>(m82 r_1).bind fun r=>some r
theorem c77:SpecOK Tryz.prog 77 ⟨as77,rs77,m77⟩ :=
 fc tabs82OK [] an77 Tryz.f77 fun x=>by kernel_rfl
def tabs77:Tabs:=Tabs.add tabs82 77 ⟨as77,rs77,m77⟩
theorem tabs77OK:TabOK Tryz.prog tabs77:=TabOK.add tabs82OK c77 Tryz.call77

/-! putlog/putlogref02.Head -/
def as76:List Ty:=[(.list .str)]
def rs76:List Ty:=[.str]
def an76:Ann:=.seq (.a) (.seq (.a) (.seq (.seq (.a) (.block (.loop ⟨[(3,.r (.c (.d (.d .str)))),(4,.r (.c (.d (.d tI))))],(ra 7 12 ([])),[],[]⟩ [(.exit 0,⟨[(3,.r (.c (.d (.d .str))))],(4::ra 7 12 ([])),[],[]⟩)] (.a)))) (.a)))
def m76:List (List UInt8)→Option (List UInt8) :=
 fun x=>(mkM 32 32 (nat_lit 1) 0).bind fun r=>(iA (fun (s:List UInt8×Int)=>bif ltM s.2 (lenM x) then (gA x s.2).bind fun r_1=>(m77 (s.1,
 r_1)).bind fun r=>some (Sum.inl (r,wrap .i64 (s.2+1))) else some (Sum.inr s.1)) (oC r,0)).bind fun o=>some o
theorem c76:SpecOK Tryz.prog 76 ⟨as76,rs76,m76⟩ :=
 fc tabs77OK [] an76 Tryz.f76 fun x=>by kernel_rfl
def tabs76:Tabs:=Tabs.add tabs77 76 ⟨as76,rs76,m76⟩
theorem tabs76OK:TabOK Tryz.prog tabs76:=TabOK.add tabs77OK c76 Tryz.call76

/-! putlog/putlogref01.zigzag -/
def as198:List Ty:=[tI]
def rs198:List Ty:=[(.int .u64)]
def an198:Ann:=.a
def m198:Int→Option (Int) :=
 fun x=>bif ltM x 0 then some (wrap .u64 (wrap .u64 (wrap .u64 (wrap .i64 (negM x))*2)-1)) else some (wrap .u64 (wrap
 IntKind.u64 x*2))
theorem c198:SpecOK Tryz.prog 198 ⟨as198,rs198,m198⟩ :=
 fc tabs76OK [] an198 Tryz.f198 fun x=>by kernel_rfl
def tabs198:Tabs:=Tabs.add tabs76 198 ⟨as198,rs198,m198⟩
theorem tabs198OK:TabOK Tryz.prog tabs198:=TabOK.add tabs76OK c198 Tryz.call198

/-! putlog/putlogref01.PutInt -/
def as169:List Ty:=[tI]
def rs169:List Ty:=[.str,tI]
def an169:Ann:=.seq (.a) (.seq (.a) (.seq (.a) (.seq (.a) (.seq (.block (.loop ⟨[(4,.r (.c (.d (.d (.int .u64))))),(5,.r (.c (.h 0)))],(ra 14 11 ([])),[],[.arr (.int .u8)]⟩ [(.exit 0,⟨[(4,.r (.c (.d (.d (.int .u64))))),(5,.r (.c (.h 0)))],(ra 14 11 ([])),[],[.arr (.int .u8)]⟩)] (.a))) (.a)))))
def m169:Int→Option (List UInt8×Int) :=
 fun x=>bif PE.orM (ltM x (-4611686018427387903)) (ltM 4611686018427387903 x) then some ([],10) else (m198 x).bind fun r=>(iA (fun (s:Int×List Int)
 => bif leM 128 s.1 then (remM s.1 128).bind fun r_1=>(eB (nat_lit 1) s.2 [wrap .u8 (wrap .u64 (r_1+128))]).bind fun r_2=>(divM
 IntKind.u64 s.1 128).bind fun r=>some (Sum.inl (r,r_2)) else some (Sum.inr (s.1,s.2))) (r,[])).bind fun o=>(eB (nat_lit 1) o.2 [wrap IntKind.u8
 o.1]).bind fun r=>some (oC r,0)
theorem c169:SpecOK Tryz.prog 169 ⟨as169,rs169,m169⟩ :=
 fc tabs198OK [] an169 Tryz.f169 fun x=>by kernel_rfl
def tabs169:Tabs:=Tabs.add tabs198 169 ⟨as169,rs169,m169⟩
theorem tabs169OK:TabOK Tryz.prog tabs169:=TabOK.add tabs198OK c169 Tryz.call169

/-! putlog/putlogref01.PutString -/
def as125:List Ty:=[.str]
def rs125:List Ty:=[.str,tI]
def an125:Ann:=.a
def m125:List UInt8→Option (List UInt8×Int) :=
 fun x=>bif ltM 65536 (lenM x) then some ([],10) else (m169 (lenM x)).bind fun r=>(lG r.1 x).bind fun r=>some (r,0)
theorem c125:SpecOK Tryz.prog 125 ⟨as125,rs125,m125⟩ :=
 fc tabs169OK [] an125 Tryz.f125 fun x=>by kernel_rfl
def tabs125:Tabs:=Tabs.add tabs169 125 ⟨as125,rs125,m125⟩
theorem tabs125OK:TabOK Tryz.prog tabs125:=TabOK.add tabs169OK c125 Tryz.call125

/-! putlog/putlogref39.Text -/
def as126:List Ty:=[tR]
def rs126:List Ty:=[.str]
def an126:Ann:=.seq (.a) (.seq (.a) (.seq (.seq (.a) (.block (.loop ⟨[(3,.r (.c (.d (.d .str)))),(26,.r (.c (.d (.d tI))))],(5::6::7::ra 27 12 ([])),[],[]⟩ [(.exit 0,⟨[(3,.r (.c (.d (.d .str))))],(5::6::7::ra 26 13 ([])),[],[]⟩)] (.a)))) (.a)))
def m126:(Int×Int×Int×Int×Int×Int×Int×List UInt8×List UInt8)→Option (List UInt8) :=
 fun x=>(iA (fun (s:List UInt8×Int)=>bif ltM s.2 (lenM [x.1,x.2.1,x.2.2.1,x.2.2.2.1,x.2.2.2.2.1,x.2.2.2.2.2.1,x.2.2.2.2.2.2.1]) then (gA [x.1,
 x.2.1,x.2.2.1,x.2.2.2.1,x.2.2.2.2.1,x.2.2.2.2.2.1,x.2.2.2.2.2.2.1] s.2).bind fun r=>(m169 r).bind fun r_1=>(lG s.1 r_1.1).bind fun r=>some
 (Sum.inl (r,wrap .i64 (s.2+1))) else some (Sum.inr s.1)) ([],0)).bind fun o=>(m125 x.2.2.2.2.2.2.2.1).bind fun r=>(lG o r.1).bind fun r =>
 some r
theorem c126:SpecOK Tryz.prog 126 ⟨as126,rs126,m126⟩ :=
 fc tabs125OK [] an126 Tryz.f126 fun x=>by kernel_rfl
def tabs126:Tabs:=Tabs.add tabs125 126 ⟨as126,rs126,m126⟩
theorem tabs126OK:TabOK Tryz.prog tabs126:=TabOK.add tabs125OK c126 Tryz.call126

/-! putlog/putlogref39.encoding -/
def as78:List Ty:=[tR]
def rs78:List Ty:=[.str]
def an78:Ann:=.a
def m78:(Int×Int×Int×Int×Int×Int×Int×List UInt8×List UInt8)→Option (List UInt8) :=
 fun x=>(m125 x.2.2.2.2.2.2.2.2).bind fun r=>(m126 (x.1,x.2.1,x.2.2.1,x.2.2.2.1,x.2.2.2.2.1,x.2.2.2.2.2.1,x.2.2.2.2.2.2.1,x.2.2.2.2.2.2.2.1,
 x.2.2.2.2.2.2.2.2)).bind fun r_1=>(lG r_1 r.1).bind fun r=>some r
theorem c78:SpecOK Tryz.prog 78 ⟨as78,rs78,m78⟩ :=
 fc tabs126OK [] an78 Tryz.f78 fun x=>by kernel_rfl
def tabs78:Tabs:=Tabs.add tabs126 78 ⟨as78,rs78,m78⟩
theorem tabs78OK:TabOK Tryz.prog tabs78:=TabOK.add tabs126OK c78 Tryz.call78

/-! putlog/putlogref39.believed -/
def as29:List Ty:=[(.one (.list tR)),tI]
def rs29:List Ty:=[(.list tR),.str]
def an29:Ann:=.seq (.a) (.seq (.a) (.seq (.a) (.block (.loop ⟨[(6,.r (.c (.d (.d .str)))),(7,.r (.c (.h 1)))],(8::9::ra 11 45 (ra 58 12 ([]))),[],[.arr tR]⟩ [(.ret,⟨[(4,.r (.c (.h 1))),(5,.r (.c (.d (.d .str))))],(6::7::8::9::ra 11 59 ([])),[],[.arr tR]⟩)] (.block (.seq (.a) (.seq (.seq (.a) (.block (.loop ⟨[(8,.r (.c (.h 2))),(9,.r (.c (.d (.d tI))))],(ra 11 34 ([])),[],[.arr tR]⟩ [(.exit 2,⟨[(8,.r (.c (.h 2)))],(9::ra 11 34 ([])),[],[.arr tR]⟩)] (.seq (.a) (.seq (.join [(.norm,⟨[(8,.r (.c (.h 3)))],(ra 18 27 ([])),[(2,.gone)],[.arr tR]⟩)] (.a)) (.a)))))) (.a))))))))
def m29:((List (Int×Int×Int×Int×Int×Int×Int×List UInt8×List UInt8))×Int)→Option ((List (Int×Int×Int×Int×Int×Int×Int×List UInt8×List UInt8))×List UInt8) :=
 fun x=>(m76 []).bind fun r=>(iA (fun (s:List UInt8×List (Int×Int×Int×Int×Int×Int×Int×List UInt8×List UInt8))=>(iA (fun (s_1 :
 Int×List (Int×Int×Int×Int×Int×Int×Int×List UInt8×List UInt8))=>bif ltM s_1.1 (lenM x.1) then ((gA x.1 s_1.1).bind fun r_1=>(bif eqM
 r_1.1 x.2 then gA x.1 s_1.1 else some (0,0,0,0,0,0,0,[],[])).bind fun r_2=>bif PE.andM (eqM r_1.1 x.2) (eqM r_2.2.1 (lenM s.2)) then (gA x.1
 s_1.1).bind fun r_3=>(eB (nat_lit 88) s_1.2 [(r_3.1,r_3.2.1,r_3.2.2.1,r_3.2.2.2.1,r_3.2.2.2.2.1,r_3.2.2.2.2.2.1,r_3.2.2.2.2.2.2.1,
 r_3.2.2.2.2.2.2.2.1,r_3.2.2.2.2.2.2.2.2)]).bind fun r=>some r else some s_1.2).bind fun o=>some (Sum.inl (wrap .i64 (s_1.1+1),o)) else some
 (Sum.inr s_1.2)) (0,[])).bind fun o=>(bif PE.notM (PE.notM (eqM (lenM o) 1)) then oA 0 (lenM o) else some ()).bind fun r_1=>(bif PE.notM (PE.notM (eqM
 (lenM o) 1)) then (gA o 0).bind fun (x:Int×Int×Int×Int×Int×Int×Int×List UInt8×List UInt8)=>some x.2.2.2.2.2.2.2.1 else some []).bind fun
 r_2=>bif PE.orM (PE.notM (eqM (lenM o) 1)) (PE.notM (kB r_2 s.1)) then some (Sum.inr (s.1,s.2)) else (oA 0 (lenM o)).bind fun r_3=>(gA o 0).bind
 fun r_4=>(eB (nat_lit 88) s.2 [(r_4.1,r_4.2.1,r_4.2.2.1,r_4.2.2.2.1,r_4.2.2.2.2.1,r_4.2.2.2.2.2.1,r_4.2.2.2.2.2.2.1,r_4.2.2.2.2.2.2.2.1,
 r_4.2.2.2.2.2.2.2.2)]).bind fun r_5=>(oA 0 (lenM o)).bind fun r_6=>(gA o 0).bind fun r_7=>(m78 (r_7.1,r_7.2.1,r_7.2.2.1,r_7.2.2.2.1,
 r_7.2.2.2.2.1,r_7.2.2.2.2.2.1,r_7.2.2.2.2.2.2.1,r_7.2.2.2.2.2.2.2.1,r_7.2.2.2.2.2.2.2.2)).bind fun r_8=>(m77 (s.1,r_8)).bind fun r=>some (Sum.inl (r,
 r_5))) (r,[])).bind fun o=>some (o.2,o.1)
theorem c29:SpecOK Tryz.prog 29 ⟨as29,rs29,m29⟩ :=
 fc tabs78OK [] an29 Tryz.f29 fun x=>by kernel_rfl
def tabs29:Tabs:=Tabs.add tabs78 29 ⟨as29,rs29,m29⟩
theorem tabs29OK:TabOK Tryz.prog tabs29:=TabOK.add tabs78OK c29 Tryz.call29

/-! putlog/putlogref39.Key -/
def as32:List Ty:=[tI]
def rs32:List Ty:=[.str]
def an32:Ann:=.a
def m32:Int→Option (List UInt8) :=
 fun x=>(m30 (x,256)).bind fun r=>(m82 (oC [wrap .u8 r])).bind fun r=>some r
theorem c32:SpecOK Tryz.prog 32 ⟨as32,rs32,m32⟩ :=
 fc tabs29OK [] an32 Tryz.f32 fun x=>by kernel_rfl
def tabs32:Tabs:=Tabs.add tabs29 32 ⟨as32,rs32,m32⟩
theorem tabs32OK:TabOK Tryz.prog tabs32:=TabOK.add tabs29OK c32 Tryz.call32

/-! putlog/putlogref39.Draft -/
def as33:List Ty:=[(.pair tI tC),tI]
def rs33:List Ty:=[tR]
def an33:Ann:=.seq (.a) (.seq (.reg [0,1,3,0,8,31,0,64,255,0,512,2047,4095,8191,0,32767] (ra 0 16 ([])) (z0::.s [0] []::z0::z0::.s [0] []::z0::z0::.s [0] []::z0::z0::.s [0] []::za 3 (.s [] [2]::.s [2] [2]::[])) (.a)) (.seq (.seq (.a) (.cond (.seq (.reg [0,1,0,4,0,16,0,112,255,511] (ra 0 10 ([])) (z0::.s [2] []::z0::.s [2] []::z0::.s [0] []::za 3 (.s [1] [1]::[])) (.a)) (.a)) (.a))) (.a)))
def m33:((Int×Int×Int×Int×Int×Int)×Int)→Option (Int×Int×Int×Int×Int×Int×Int×List UInt8×List UInt8) :=
 fun x=>(m30 (x.1.1,4)).bind fun r=>(m30 (x.1.2.1,800001)).bind fun r_1=>(m30 (x.1.2.2.1,4)).bind fun r_2=>(m30 (x.1.2.2.2.1,20001)).bind fun r_3 =>
 (m30 (x.1.2.2.2.2.1,4)).bind fun r_4=>bif PE.andM (eqM r_4 3) (ltM 0 x.2) then (m30 (x.1.2.2.2.2.2,x.2)).bind fun r_5=>some (r,0,r_1,2,0,0,r_5,
 [],[]) else some (r,0,r_1,1,r_2,wrap .i64 (r_3-10000),(-1),[],[])
theorem c33:SpecOK Tryz.prog 33 ⟨as33,rs33,m33⟩ :=
 fc tabs32OK [] an33 Tryz.f33 fun x=>by kernel_rfl
def tabs33:Tabs:=Tabs.add tabs32 33 ⟨as33,rs33,m33⟩
theorem tabs33OK:TabOK Tryz.prog tabs33:=TabOK.add tabs32OK c33 Tryz.call33

/-! putlog/putlogref39.in -/
def as128:List Ty:=[tI,tI,tI]
def rs128:List Ty:=[.bool]
def an128:Ann:=.a
def m128:(Int×Int×Int)→Option (Bool) :=
 fun x=>some (PE.andM (leM x.2.1 x.1) (leM x.1 x.2.2))
theorem c128:SpecOK Tryz.prog 128 ⟨as128,rs128,m128⟩ :=
 fc tabs33OK [] an128 Tryz.f128 fun x=>by kernel_rfl
def tabs128:Tabs:=Tabs.add tabs33 128 ⟨as128,rs128,m128⟩
theorem tabs128OK:TabOK Tryz.prog tabs128:=TabOK.add tabs33OK c128 Tryz.call128

/-! putlog/putlogref39.right -/
def as80:List Ty:=[tR]
def rs80:List Ty:=[.bool]
def an80:Ann:=.a
def m80:(Int×Int×Int×Int×Int×Int×Int×List UInt8×List UInt8)→Option (Bool) :=
 fun x=>(m128 (x.1,0,7)).bind fun r=>(bif PE.notM (PE.notM r) then m128 (x.2.1,0,39) else some false).bind fun r_1=>(bif PE.notM (PE.orM (PE.notM r)
 (PE.notM r_1)) then m128 (x.2.2.1,0,800000) else some false).bind fun r_2=>bif PE.orM (PE.orM (PE.orM (PE.orM (PE.notM r) (PE.notM r_1)) (PE.notM r_2))
 (PE.notM (eqM (lenM x.2.2.2.2.2.2.2.1) 32))) (PE.notM (eqM (lenM x.2.2.2.2.2.2.2.2) 32)) then some false else bif eqM x.2.2.2.1 1 then (m128 (x.2.2.2.2.1,0,
 99)).bind fun r_3=>(bif r_3 then m128 (x.2.2.2.2.2.1,(-10000),10000) else some false).bind fun r=>some (PE.andM (PE.andM r_3 r) (eqM x.2.2.2.2.2.2.1
 (-1))) else (bif PE.andM (PE.andM (eqM x.2.2.2.1 2) (eqM x.2.2.2.2.1 0)) (eqM x.2.2.2.2.2.1 0) then m128 (x.2.2.2.2.2.2.1,0,wrap .i64 (x.2.1-1))
 else some false).bind fun r=>some (PE.andM (PE.andM (PE.andM (eqM x.2.2.2.1 2) (eqM x.2.2.2.2.1 0)) (eqM x.2.2.2.2.2.1 0)) r)
theorem c80:SpecOK Tryz.prog 80 ⟨as80,rs80,m80⟩ :=
 fc tabs128OK [] an80 Tryz.f80 fun x=>by kernel_rfl
def tabs80:Tabs:=Tabs.add tabs128 80 ⟨as80,rs80,m80⟩
theorem tabs80OK:TabOK Tryz.prog tabs80:=TabOK.add tabs128OK c80 Tryz.call80

/-! putlog/putlogref39.before -/
def as127:List Ty:=[tR,tR]
def rs127:List Ty:=[.bool]
def an127:Ann:=.seq (.a) (.seq (.a) (.seq (.a) (.seq (.reg [0,1,0,7,15,31] (ra 0 6 ([])) (.s [0] []::z0::.s [1] []::za 3 ([])) (.a)) (.a))))
def m127:((Int×Int×Int×Int×Int×Int×Int×List UInt8×List UInt8)×Int×Int×Int×Int×Int×Int×Int×List UInt8×List UInt8)→Option (Bool) :=
 fun x=>bif PE.notM (eqM x.1.1 x.2.1) then some (ltM x.1.1 x.2.1) else bif PE.notM (eqM x.1.2.1 x.2.2.1) then some (ltM x.1.2.1 x.2.2.1) else (m78 (x.1.1,
 x.1.2.1,x.1.2.2.1,x.1.2.2.2.1,x.1.2.2.2.2.1,x.1.2.2.2.2.2.1,x.1.2.2.2.2.2.2.1,x.1.2.2.2.2.2.2.2.1,x.1.2.2.2.2.2.2.2.2)).bind fun r=>(m78 (x.2.1,
 x.2.2.1,x.2.2.2.1,x.2.2.2.2.1,x.2.2.2.2.2.1,x.2.2.2.2.2.2.1,x.2.2.2.2.2.2.2.1,x.2.2.2.2.2.2.2.2.1,x.2.2.2.2.2.2.2.2.2)).bind fun r_1=>some (sltM r
 r_1)
theorem c127:SpecOK Tryz.prog 127 ⟨as127,rs127,m127⟩ :=
 fc tabs80OK [] an127 Tryz.f127 fun x=>by kernel_rfl
def tabs127:Tabs:=Tabs.add tabs80 127 ⟨as127,rs127,m127⟩
theorem tabs127OK:TabOK Tryz.prog tabs127:=TabOK.add tabs80OK c127 Tryz.call127

/-! putlog/putlogref39.Valid -/
def as79:List Ty:=[(.one (.list tR))]
def rs79:List Ty:=[.bool]
def an79:Ann:=.seq (.a) (.seq (.a) (.seq (.seq (.a) (.block (.loop ⟨[(3,.r (.c (.d (.d tI))))],(ra 8 31 ([])),[],[]⟩ [(.exit 0,⟨[],(3::ra 8 31 ([])),[],[]⟩),(.ret,⟨[(2,.r (.c (.d (.d .bool))))],(3::ra 8 31 ([])),[],[]⟩)] (.seq (.a) (.seq (.block (.seq (.a) (.seq (.reg [0,1,3,7,15,7,39,127,255,7,519,7,3591,7687,16383,32767,65535] (ra 0 17 ([])) (za 4 (.s [0] []::za 5 (.s [0] []::za 6 ([])))) (.a)) (.a)))) (.a)))))) (.a)))
def m79:(List (Int×Int×Int×Int×Int×Int×Int×List UInt8×List UInt8))→Option (Bool) :=
 fun x=>bif ltM 40 (lenM x) then some false else (iA (fun (s:Int)=>bif ltM s (lenM x) then (gA x s).bind fun r=>(m80 (r.1,r.2.1,r.2.2.1,
 r.2.2.2.1,r.2.2.2.2.1,r.2.2.2.2.2.1,r.2.2.2.2.2.2.1,r.2.2.2.2.2.2.2.1,r.2.2.2.2.2.2.2.2)).bind fun r_1=>bif PE.notM r_1 then some (Sum.inr (Sum.inr
 false)) else (bif ltM 0 s then gA x (wrap .i64 (s-1)) else some (0,0,0,0,0,0,0,[],[])).bind fun r_2=>(bif ltM 0 s then gA x s else some
 (0,0,0,0,0,0,0,[],[])).bind fun r_3=>(bif ltM 0 s then m127 ((r_2.1,r_2.2.1,r_2.2.2.1,r_2.2.2.2.1,r_2.2.2.2.2.1,r_2.2.2.2.2.2.1,
 r_2.2.2.2.2.2.2.1,r_2.2.2.2.2.2.2.2.1,r_2.2.2.2.2.2.2.2.2),r_3.1,r_3.2.1,r_3.2.2.1,r_3.2.2.2.1,r_3.2.2.2.2.1,r_3.2.2.2.2.2.1,r_3.2.2.2.2.2.2.1,
 r_3.2.2.2.2.2.2.2.1,r_3.2.2.2.2.2.2.2.2) else some false).bind fun r=>bif PE.andM (ltM 0 s) (PE.notM r) then some (Sum.inr (Sum.inr false)) else some
 (Sum.inl (wrap .i64 (s+1))) else some (Sum.inr (Sum.inl ()))) 0).bind fun o=>Sum.elim (fun (t:Unit)=>some true) (fun (t:Bool)=>some t) o
theorem c79:SpecOK Tryz.prog 79 ⟨as79,rs79,m79⟩ :=
 fc tabs127OK [] an79 Tryz.f79 fun x=>by kernel_rfl
def tabs79:Tabs:=Tabs.add tabs127 79 ⟨as79,rs79,m79⟩
theorem tabs79OK:TabOK Tryz.prog tabs79:=TabOK.add tabs127OK c79 Tryz.call79

/-! putlog/putlogref02.Leaf -/
def as130:List Ty:=[.str]
def rs130:List Ty:=[.str]
def an130:Ann:=.a
def m130:List UInt8→Option (List UInt8) :=
 fun x=>(lG [(0:UInt8)] x).bind fun r=>(m82 r).bind fun r=>some r
theorem c130:SpecOK Tryz.prog 130 ⟨as130,rs130,m130⟩ :=
 fc tabs79OK [] an130 Tryz.f130 fun x=>by kernel_rfl
def tabs130:Tabs:=Tabs.add tabs79 130 ⟨as130,rs130,m130⟩
theorem tabs130OK:TabOK Tryz.prog tabs130:=TabOK.add tabs79OK c130 Tryz.call130

/-! putlog/putlogref02.Node -/
def as129:List Ty:=[.str,.str]
def rs129:List Ty:=[.str]
def an129:Ann:=.a
def m129:(List UInt8×List UInt8)→Option (List UInt8) :=
 fun x=>(lG [(1:UInt8)] x.1).bind fun r=>(lG r x.2).bind fun r_1=>(m82 r_1).bind fun r=>some r
theorem c129:SpecOK Tryz.prog 129 ⟨as129,rs129,m129⟩ :=
 fc tabs130OK [] an129 Tryz.f129 fun x=>by kernel_rfl
def tabs129:Tabs:=Tabs.add tabs130 129 ⟨as129,rs129,m129⟩
theorem tabs129OK:TabOK Tryz.prog tabs129:=TabOK.add tabs130OK c129 Tryz.call129

/-! putlog/putlogref39.tag -/
def as81:List Ty:=[.str,tR]
def rs81:List Ty:=[.str]
def an81:Ann:=.a
def m81:(List UInt8×Int×Int×Int×Int×Int×Int×Int×List UInt8×List UInt8)→Option (List UInt8) :=
 fun x=>(m126 (x.2.1,x.2.2.1,x.2.2.2.1,x.2.2.2.2.1,x.2.2.2.2.2.1,x.2.2.2.2.2.2.1,x.2.2.2.2.2.2.2.1,x.2.2.2.2.2.2.2.2.1,x.2.2.2.2.2.2.2.2.2)).bind fun r
 => (m130 r).bind fun r_1=>(m129 (x.1,r_1)).bind fun r=>some r
theorem c81:SpecOK Tryz.prog 81 ⟨as81,rs81,m81⟩ :=
 fc tabs129OK [] an81 Tryz.f81 fun x=>by kernel_rfl
def tabs81:Tabs:=Tabs.add tabs129 81 ⟨as81,rs81,m81⟩
theorem tabs81OK:TabOK Tryz.prog tabs81:=TabOK.add tabs129OK c81 Tryz.call81

/-! putlog/putlogref39.Write -/
def as31:List Ty:=[.str,(.one (.list tR)),tR]
def rs31:List Ty:=[tR,tI]
def an31:Ann:=.a
def m31:(List UInt8×(List (Int×Int×Int×Int×Int×Int×Int×List UInt8×List UInt8))×Int×Int×Int×Int×Int×Int×Int×List UInt8×List UInt8)→Option ((Int×Int×Int×Int×Int×Int×Int×List UInt8×List UInt8)×Int) :=
 fun x=>(bif PE.notM (PE.notM (eqM (lenM x.1) 32)) then m79 x.2.1 else some false).bind fun r=>bif PE.orM (PE.notM (eqM (lenM x.1) 32)) (PE.notM r) then some
 ((0,0,0,0,0,0,0,[],[]),390) else (m29 (x.2.1,x.2.2.1)).bind fun r_1=>(m80 (x.2.2.1,lenM r_1.1,x.2.2.2.2.1,x.2.2.2.2.2.1,x.2.2.2.2.2.2.1,
 x.2.2.2.2.2.2.2.1,x.2.2.2.2.2.2.2.2.1,r_1.2,r_1.2)).bind fun r_2=>bif PE.notM r_2 then some ((0,0,0,0,0,0,0,[],[]),390) else (m81 (x.1,x.2.2.1,
 lenM r_1.1,x.2.2.2.2.1,x.2.2.2.2.2.1,x.2.2.2.2.2.2.1,x.2.2.2.2.2.2.2.1,x.2.2.2.2.2.2.2.2.1,r_1.2,r_1.2)).bind fun r=>some ((x.2.2.1,lenM r_1.1,
 x.2.2.2.2.1,x.2.2.2.2.2.1,x.2.2.2.2.2.2.1,x.2.2.2.2.2.2.2.1,x.2.2.2.2.2.2.2.2.1,r_1.2,r),0)
theorem c31:SpecOK Tryz.prog 31 ⟨as31,rs31,m31⟩ :=
 fc tabs81OK [] an31 Tryz.f31 fun x=>by kernel_rfl
def tabs31:Tabs:=Tabs.add tabs81 31 ⟨as31,rs31,m31⟩
theorem tabs31OK:TabOK Tryz.prog tabs31:=TabOK.add tabs81OK c31 Tryz.call31

/-! putlog/putlogref39.has -/
def as172:List Ty:=[(.list tR),tR]
def rs172:List Ty:=[.bool]
def an172:Ann:=.seq (.a) (.seq (.seq (.a) (.block (.loop ⟨[(5,.r (.c (.d (.d tI))))],(ra 6 12 ([])),[],[]⟩ [(.exit 0,⟨[],(ra 5 13 ([])),[],[]⟩),(.ret,⟨[(4,.r (.c (.d (.d .bool))))],(ra 5 13 ([])),[],[]⟩)] (.seq (.a) (.seq (.block (.seq (.reg [0,0,3,7,0,31] (ra 0 6 ([])) (za 4 (.s [0] []::z0::[])) (.a)) (.a))) (.a)))))) (.a))
def m172:((List (Int×Int×Int×Int×Int×Int×Int×List UInt8×List UInt8))×Int×Int×Int×Int×Int×Int×Int×List UInt8×List UInt8)→Option (Bool) :=
 fun x=>(iA (fun (s:Int)=>bif ltM s (lenM x.1) then (gA x.1 s).bind fun r=>bif PE.andM (eqM r.1 x.2.1) (PE.andM (eqM r.2.1 x.2.2.1) (PE.andM (eqM
 r.2.2.1 x.2.2.2.1) (PE.andM (eqM r.2.2.2.1 x.2.2.2.2.1) (PE.andM (eqM r.2.2.2.2.1 x.2.2.2.2.2.1) (PE.andM (eqM r.2.2.2.2.2.1 x.2.2.2.2.2.2.1) (PE.andM (eqM
 r.2.2.2.2.2.2.1 x.2.2.2.2.2.2.2.1) (PE.andM (kB r.2.2.2.2.2.2.2.1 x.2.2.2.2.2.2.2.2.1) (kB r.2.2.2.2.2.2.2.2 x.2.2.2.2.2.2.2.2.2)))))))) then some
 (Sum.inr (Sum.inr true)) else some (Sum.inl (wrap .i64 (s+1))) else some (Sum.inr (Sum.inl ()))) 0).bind fun o=>Sum.elim (fun (t:Unit)=>some
 false) (fun (t:Bool)=>some t) o
theorem c172:SpecOK Tryz.prog 172 ⟨as172,rs172,m172⟩ :=
 fc tabs31OK [] an172 Tryz.f172 fun x=>by kernel_rfl
def tabs172:Tabs:=Tabs.add tabs31 172 ⟨as172,rs172,m172⟩
theorem tabs172OK:TabOK Tryz.prog tabs172:=TabOK.add tabs31OK c172 Tryz.call172

/-! putlog/putlogref39.put -/
def as133:List Ty:=[(.list tR),tR]
def rs133:List Ty:=[(.list tR)]
def an133:Ann:=.seq (.a) (.seq (.a) (.seq (.a) (.seq (.block (.loop ⟨[(5,.r (.c (.d (.d tI))))],(ra 10 14 ([])),[],[]⟩ [(.exit 0,⟨[(5,.r (.c (.d (.d tI))))],(ra 10 14 ([])),[],[]⟩)] (.seq (.seq (.reg [0,0,2,7,15,31,31,127,255,31,1023,2047] (ra 0 12 ([])) (za 9 (.s [0] []::z0::z0::[])) (.a)) (.a)) (.a)))) (.seq (.reg [0,0,0,7,0,16,0,0,192,496,1023,2047] (ra 0 12 ([])) (za 4 (.s [0] []::za 7 ([]))) (.a)) (.a)))))
def m133:((List (Int×Int×Int×Int×Int×Int×Int×List UInt8×List UInt8))×Int×Int×Int×Int×Int×Int×Int×List UInt8×List UInt8)→Option (List (Int×Int×Int×Int×Int×Int×Int×List UInt8×List UInt8)) :=
 fun x=>(m172 (x.1,x.2.1,x.2.2.1,x.2.2.2.1,x.2.2.2.2.1,x.2.2.2.2.2.1,x.2.2.2.2.2.2.1,x.2.2.2.2.2.2.2.1,x.2.2.2.2.2.2.2.2.1,x.2.2.2.2.2.2.2.2.2)).bind
 fun r=>bif r then some x.1 else (iA (fun (s:Int)=>(bif ltM s (lenM x.1) then gA x.1 s else some (0,0,0,0,0,0,0,[],[])).bind fun r_1=>(bif
 ltM s (lenM x.1) then m127 ((r_1.1,r_1.2.1,r_1.2.2.1,r_1.2.2.2.1,r_1.2.2.2.2.1,r_1.2.2.2.2.2.1,r_1.2.2.2.2.2.2.1,r_1.2.2.2.2.2.2.2.1,
 r_1.2.2.2.2.2.2.2.2),x.2.1,x.2.2.1,x.2.2.2.1,x.2.2.2.2.1,x.2.2.2.2.2.1,x.2.2.2.2.2.2.1,x.2.2.2.2.2.2.2.1,x.2.2.2.2.2.2.2.2.1,x.2.2.2.2.2.2.2.2.2)
 else some false).bind fun r=>bif PE.andM (ltM s (lenM x.1)) r then some (Sum.inl (wrap .i64 (s+1))) else some (Sum.inr s)) 0).bind fun o=>((jJ
 o o).bind fun (x_1:Unit)=>pA x.1 0 o).bind fun r_1=>(pA x.1 o (lenM x.1)).bind fun r_2=>(eB (nat_lit 88) [(x.2.1,x.2.2.1,x.2.2.2.1,
 x.2.2.2.2.1,x.2.2.2.2.2.1,x.2.2.2.2.2.2.1,x.2.2.2.2.2.2.2.1,x.2.2.2.2.2.2.2.2.1,x.2.2.2.2.2.2.2.2.2)] r_2).bind fun r_3=>(eB (nat_lit 88) r_1
 r_3).bind fun r=>some r
theorem c133:SpecOK Tryz.prog 133 ⟨as133,rs133,m133⟩ :=
 fc tabs172OK [] an133 Tryz.f133 fun x=>by kernel_rfl
def tabs133:Tabs:=Tabs.add tabs172 133 ⟨as133,rs133,m133⟩
theorem tabs133OK:TabOK Tryz.prog tabs133:=TabOK.add tabs172OK c133 Tryz.call133

/-! putlog/putlogref39.Merge -/
def as83:List Ty:=[(.one (.list tR)),(.one (.list tR))]
def rs83:List Ty:=[(.one (.list tR)),tI]
def an83:Ann:=.seq (.a) (.seq (.a) (.seq (.a) (.seq (.seq (.a) (.block (.loop ⟨[(6,.r (.c (.d (.d (.list tR))))),(7,.r (.c (.d (.d tI))))],(ra 21 14 ([])),[(3,.gone)],[]⟩ [(.exit 0,⟨[(6,.r (.c (.d (.d (.list tR)))))],(7::ra 21 14 ([])),[(3,.gone)],[]⟩)] (.a)))) (.a))))
def m83:((List (Int×Int×Int×Int×Int×Int×Int×List UInt8×List UInt8))×List (Int×Int×Int×Int×Int×Int×Int×List UInt8×List UInt8))→Option ((List (Int×Int×Int×Int×Int×Int×Int×List UInt8×List UInt8))×Int) :=
 fun x=>(m79 x.1).bind fun r=>(bif PE.notM (PE.notM r) then m79 x.2 else some false).bind fun r_1=>bif PE.orM (PE.notM r) (PE.notM r_1) then some ([],390)
 else (eB (nat_lit 88) [] x.1).bind fun r_2=>(iA (fun (s:List (Int×Int×Int×Int×Int×Int×Int×List UInt8×List UInt8)×Int)=>bif ltM
 s.2 (lenM x.2) then (gA x.2 s.2).bind fun r_3=>(m133 (s.1,r_3.1,r_3.2.1,r_3.2.2.1,r_3.2.2.2.1,r_3.2.2.2.2.1,r_3.2.2.2.2.2.1,r_3.2.2.2.2.2.2.1,
 r_3.2.2.2.2.2.2.2.1,r_3.2.2.2.2.2.2.2.2)).bind fun r=>some (Sum.inl (r,wrap .i64 (s.2+1))) else some (Sum.inr s.1)) (r_2,0)).bind fun o=>bif
 ltM 40 (lenM o) then some ([],390) else some (o,0)
theorem c83:SpecOK Tryz.prog 83 ⟨as83,rs83,m83⟩ :=
 fc tabs133OK [] an83 Tryz.f83 fun x=>by kernel_rfl
def tabs83:Tabs:=Tabs.add tabs133 83 ⟨as83,rs83,m83⟩
theorem tabs83OK:TabOK Tryz.prog tabs83:=TabOK.add tabs133OK c83 Tryz.call83

/-! putlog/putlogref39.Add -/
def as34:List Ty:=[(.one (.list tR)),tR]
def rs34:List Ty:=[(.one (.list tR)),tI]
def an34:Ann:=.a
def m34:((List (Int×Int×Int×Int×Int×Int×Int×List UInt8×List UInt8))×Int×Int×Int×Int×Int×Int×Int×List UInt8×List UInt8)→Option ((List (Int×Int×Int×Int×Int×Int×Int×List UInt8×List UInt8))×Int) :=
 fun x=>(m83 (x.1,[(x.2.1,x.2.2.1,x.2.2.2.1,x.2.2.2.2.1,x.2.2.2.2.2.1,x.2.2.2.2.2.2.1,x.2.2.2.2.2.2.2.1,x.2.2.2.2.2.2.2.2.1,
 x.2.2.2.2.2.2.2.2.2)])).bind fun r=>some (r.1,r.2)
theorem c34:SpecOK Tryz.prog 34 ⟨as34,rs34,m34⟩ :=
 fc tabs83OK [] an34 Tryz.f34 fun x=>by kernel_rfl
def tabs34:Tabs:=Tabs.add tabs83 34 ⟨as34,rs34,m34⟩
theorem tabs34OK:TabOK Tryz.prog tabs34:=TabOK.add tabs83OK c34 Tryz.call34

/-! putlog/putlogref39.Made -/
def as5:List Ty:=[(.list (.pair tI tC))]
def rs5:List Ty:=[(.list tR)]
def an5:Ann:=.seq (.a) (.seq (.a) (.seq (.a) (.seq (.seq (.a) (.block (.loop ⟨[(3,.r (.c (.h 1))),(5,.r (.c (.d (.d tI))))],(ra 6 56 ([])),[(0,.box [.d (.d (.list tR))])],[.arr tR]⟩ [(.exit 0,⟨[(3,.r (.c (.h 1)))],(ra 5 57 ([])),[(0,.box [.d (.d (.list tR))])],[.arr tR]⟩)] (.seq (.a) (.seq (.join [(.norm,⟨[(3,.r (.c (.h 2)))],(6::7::8::9::ra 20 42 ([])),[(0,.box [.d (.d (.list tR))]),(1,.gone)],[.arr tR]⟩)] (.block (.seq (.reg [0,0,0,6,14,30,62,127,255,511,511,1023,4095] (ra 0 13 ([])) (.s [0] []::za 12 ([])) (.a)) (.seq (.reg [0,0,3,7,15,31,63,0,0,0,768,1792,0,4096,16255,32767,65535,131071,131071,0,786431,2097151] (ra 0 22 ([])) (za 7 (.s [0] []::za 11 (.s [] [2]::.s [2] [2]::z0::[]))) (.a)) (.a))))) (.a)))))) (.a))))
def m5:(List (Int×Int×Int×Int×Int×Int))→Option (List (Int×Int×Int×Int×Int×Int×Int×List UInt8×List UInt8)) :=
 fun x=>(iA (fun (s:Int×List (Int×Int×Int×Int×Int×Int×Int×List UInt8×List UInt8)×List (Int×Int×Int×Int×Int×Int×Int×List
 UInt8×List UInt8))=>bif PE.andM (ltM s.1 (lenM x)) (ltM s.1 16) then ((gA x s.1).bind fun r=>(m30 (r.1,4)).bind fun r_1=>(m29 (s.2.1,r_1)).bind
 fun r_2=>(gA x s.1).bind fun r_3=>(m30 (r_3.1,4)).bind fun r_4=>(m32 r_4).bind fun r_5=>(gA x s.1).bind fun r_6=>(m33 ((r_6.1,r_6.2.1,
 r_6.2.2.1,r_6.2.2.2.1,r_6.2.2.2.2.1,r_6.2.2.2.2.2),lenM r_2.1)).bind fun r_7=>(m31 (r_5,s.2.1,r_7.1,r_7.2.1,r_7.2.2.1,r_7.2.2.2.1,r_7.2.2.2.2.1,
 r_7.2.2.2.2.2.1,r_7.2.2.2.2.2.2.1,r_7.2.2.2.2.2.2.2.1,r_7.2.2.2.2.2.2.2.2)).bind fun r_8=>bif eqM r_8.2 0 then (eB (nat_lit 88) s.2.2 [(r_8.1.1,
 r_8.1.2.1,r_8.1.2.2.1,r_8.1.2.2.2.1,r_8.1.2.2.2.2.1,r_8.1.2.2.2.2.2.1,r_8.1.2.2.2.2.2.2.1,r_8.1.2.2.2.2.2.2.2.1,r_8.1.2.2.2.2.2.2.2.2)]).bind fun r_9
 => (m34 (s.2.1,r_8.1.1,r_8.1.2.1,r_8.1.2.2.1,r_8.1.2.2.2.1,r_8.1.2.2.2.2.1,r_8.1.2.2.2.2.2.1,r_8.1.2.2.2.2.2.2.1,r_8.1.2.2.2.2.2.2.2.1,
 r_8.1.2.2.2.2.2.2.2.2)).bind fun r=>some (r.1,r_9) else some (s.2.1,s.2.2)).bind fun o=>some (Sum.inl (wrap .i64 (s.1+1),o.1,o.2)) else some
 (Sum.inr (s.2.1,s.2.2))) (0,[],[])).bind fun o=>some o.2
theorem c5:SpecOK Tryz.prog 5 ⟨as5,rs5,m5⟩ :=
 fc tabs34OK [] an5 Tryz.f5 fun x=>by kernel_rfl
def tabs5:Tabs:=Tabs.add tabs34 5 ⟨as5,rs5,m5⟩
theorem tabs5OK:TabOK Tryz.prog tabs5:=TabOK.add tabs34OK c5 Tryz.call5

/-! putlog/putlogref39.Made -/
abbrev rso5:Ty:=tR
def ano5:Ann:=.seq (.a) (.seq (.a) (.seq (.a) (.seq (.seq (.a) (.block (.loop ⟨[(3,.r (.c (.h 1))),(5,.r (.c (.d (.d tI))))],(ra 6 56 ([])),[(0,.box [.d (.d (.list tR))])],[.arr tR]⟩ [(.exit 0,⟨[(3,.r (.c (.h 1)))],(ra 5 57 ([])),[(0,.box [.d (.d (.list tR))])],[.arr tR]⟩)] (.seq (.a) (.seq (.join [(.norm,⟨[(3,.r (.c (.h 2)))],(6::7::8::9::ra 20 42 ([])),[(0,.box [.d (.d (.list tR))]),(1,.gone)],[.arr tR]⟩)] (.block (.seq (.reg [0,0,0,6,14,30,62,127,255,511,511,1023,4095] (ra 0 13 ([])) (.s [0] []::za 12 ([])) (.a)) (.seq (.reg [0,0,3,7,15,31,63,0,0,0,768,1792,0,4096,16255,32767,65535,131071,131071,0,786431,2097151] (ra 0 22 ([])) (za 7 (.s [0] []::za 11 (.s [] [2]::.s [2] [2]::z0::[]))) (.a)) (.a))))) (.a)))))) (.a))))
def mo5:(List (Int×Int×Int×Int×Int×Int))→Option (List (Int×Int×Int×Int×Int×Int×Int×List UInt8×List UInt8)) :=
 fun x=>(iA (fun (s:Int×List (Int×Int×Int×Int×Int×Int×Int×List UInt8×List UInt8)×List (Int×Int×Int×Int×Int×Int×Int×List
 UInt8×List UInt8))=>bif PE.andM (ltM s.1 (lenM x)) (ltM s.1 16) then ((gA x s.1).bind fun r=>(m30 (r.1,4)).bind fun r_1=>(m29 (s.2.1,r_1)).bind
 fun r_2=>(gA x s.1).bind fun r_3=>(m30 (r_3.1,4)).bind fun r_4=>(m32 r_4).bind fun r_5=>(gA x s.1).bind fun r_6=>(m33 ((r_6.1,r_6.2.1,
 r_6.2.2.1,r_6.2.2.2.1,r_6.2.2.2.2.1,r_6.2.2.2.2.2),lenM r_2.1)).bind fun r_7=>(m31 (r_5,s.2.1,r_7.1,r_7.2.1,r_7.2.2.1,r_7.2.2.2.1,r_7.2.2.2.2.1,
 r_7.2.2.2.2.2.1,r_7.2.2.2.2.2.2.1,r_7.2.2.2.2.2.2.2.1,r_7.2.2.2.2.2.2.2.2)).bind fun r_8=>bif eqM r_8.2 0 then (eB (nat_lit 88) s.2.2 [(r_8.1.1,
 r_8.1.2.1,r_8.1.2.2.1,r_8.1.2.2.2.1,r_8.1.2.2.2.2.1,r_8.1.2.2.2.2.2.1,r_8.1.2.2.2.2.2.2.1,r_8.1.2.2.2.2.2.2.2.1,r_8.1.2.2.2.2.2.2.2.2)]).bind fun r_9
 => (m34 (s.2.1,r_8.1.1,r_8.1.2.1,r_8.1.2.2.1,r_8.1.2.2.2.1,r_8.1.2.2.2.2.1,r_8.1.2.2.2.2.2.1,r_8.1.2.2.2.2.2.2.1,r_8.1.2.2.2.2.2.2.2.1,
 r_8.1.2.2.2.2.2.2.2.2)).bind fun r=>some (r.1,r_9) else some (s.2.1,s.2.2)).bind fun o=>some (Sum.inl (wrap .i64 (s.1+1),o.1,o.2)) else some
 (Sum.inr (s.2.1,s.2.2))) (0,[],[])).bind fun o=>some o.2
theorem co5:OwnOK Tryz.prog 5 ⟨as5,rso5,mo5⟩ :=
 fnOw_ok (own:=[]) (an:=ano5) (n:=400) tabs5OK (F:=OPS) OPS_sound OPS_nice (f:=5) (fn:=Tryz.f5) (code:=Tryz.f5.body.getD .skip) (by kernel_rfl) (by kernel_rfl) (by kernel_rfl) Tryz.call5 fun x=>by kernel_rfl
def tabsO5:Tabs:=Tabs.addOw tabs5 5 ⟨as5,rso5,mo5⟩
theorem tabsO5OK:TabOK Tryz.prog tabsO5:=TabOK.addOw tabs5OK co5

/-! putlog/putlogref39.Of -/
def as6:List Ty:=[(.list tR)]
def rs6:List Ty:=[(.one (.list tR))]
def an6:Ann:=.seq (.a) (.seq (.a) (.seq (.seq (.a) (.block (.loop ⟨[(4,.r (.c (.d (.d tI))))],(ra 5 20 ([])),[(1,.box [.d (.d (.list tR))])],[]⟩ [(.exit 0,⟨[],(ra 4 21 ([])),[(1,.box [.d (.d (.list tR))])],[]⟩)] (.seq (.a) (.seq (.join [(.norm,⟨[],(5::6::ra 13 12 ([])),[(1,.box [.d (.d (.list tR))])],[]⟩)] (.block (.seq (.reg [0,0,0,6,14,31,63,127,127,0,767,2047] (ra 0 12 ([])) (.s [1] []::za 8 (.s [] [2]::.s [2] [2]::z0::[])) (.a)) (.a)))) (.a)))))) (.a)))
def m6:(List (Int×Int×Int×Int×Int×Int×Int×List UInt8×List UInt8))→Option (List (Int×Int×Int×Int×Int×Int×Int×List UInt8×List UInt8)) :=
 fun x=>(iA (fun (s:Int×List (Int×Int×Int×Int×Int×Int×Int×List UInt8×List UInt8))=>bif ltM s.1 (lenM x) then ((gA x s.1).bind fun r
 => (m34 (s.2,r.1,r.2.1,r.2.2.1,r.2.2.2.1,r.2.2.2.2.1,r.2.2.2.2.2.1,r.2.2.2.2.2.2.1,r.2.2.2.2.2.2.2.1,r.2.2.2.2.2.2.2.2)).bind fun r=>bif eqM r.2 0
 then some r.1 else some s.2).bind fun o=>some (Sum.inl (wrap .i64 (s.1+1),o)) else some (Sum.inr s.2)) (0,[])).bind fun o=>some o
theorem c6:SpecOK Tryz.prog 6 ⟨as6,rs6,m6⟩ :=
 fc tabsO5OK [] an6 Tryz.f6 fun x=>by kernel_rfl
def tabs6:Tabs:=Tabs.add tabsO5 6 ⟨as6,rs6,m6⟩
theorem tabs6OK:TabOK Tryz.prog tabs6:=TabOK.add tabsO5OK c6 Tryz.call6

/-! putlog/disk.New -/
def pa7:List SR:=[.c (.d (.d tI))]
def po7:List SO:=[]
def pk7:Skel:=⟨[(1000000,.t [.c (.h 1),.c (.d (.d tI))])],[],[],[.opt [.d (.d .bool),.d (.d tI),.h 2,.h 3,.h 4],.arr (.int .u8),.arr (.int .u8),.arr (.pair tI .str)]⟩
def an7:Ann:=.seq (.a) (.seq (.a) (.seq (.reg [0,1,0,4,15,31,63,127] (ra 0 8 ([])) [z0,.s [] [1],z0,.s [] [2],z0,.s [1,2] [3],z0,z0] (.a)) (.a)))
def m7:Int→Option (Int×Bool×Bool×Int×List Int×List Int×List (Int×List UInt8)) :=
 fun x=>bif PE.orM (ltM x 1) (ltM 4194304 x) then some (2,true,false,0,[],[],[]) else (mkM x x (nat_lit 1) 0).bind fun r=>(mkM x x (nat_lit 1) 0).bind
 fun r_1=>some (0,false,false,0,r,r_1,[])
theorem cp7:PSpecOK Tryz.prog 7 ⟨pa7,po7,pk7,[],m7⟩ :=
 eG (own:=[5000000]) (an:=an7) (n:=400) tabs6OK (F:=OPS) OPS_sound OPS_nice (f:=7) (fn:=Tryz.f7) (code:=Tryz.f7.body.getD .skip) (by kernel_rfl) (by kernel_rfl) (by kernel_rfl) (by kernel_rfl) fun G w0 x=>by kernel_rfl
def tabs7:Tabs:=Tabs.addP tabs6 7 ⟨pa7,po7,pk7,[],m7⟩
theorem tabs7OK:TabOK Tryz.prog tabs7:=TabOK.addP tabs6OK cp7
end
variable [EA]
noncomputable section

/-! (*putlog/disk.Disk).Size -/
def pa36:List SR:=[.c (.h 1)]
def po36:List SO:=[.opt [.d (.d .bool),.d (.d tI),.h 2,.h 3,.h 4],.arr (.int .u8),.arr (.int .u8),.arr (.pair tI .str)]
def pk36:Skel:=⟨[(1000000,.r (.c (.d (.d tI))))],[],[],[]⟩
def an36:Ann:=.a
def m36:(Bool×Bool×Int×List Int×List Int×List (Int×List UInt8))→Option (Int) :=
 fun x=>((cC x.1).bind fun (x:Unit)=>some ()).bind fun (x_1:Unit)=>some (lenM x.2.2.2.1)
theorem cp36:PSpecOK Tryz.prog 36 ⟨pa36,po36,pk36,[1],m36⟩ :=
 eG (own:=[5000000]) (an:=an36) (n:=400) tabs7OK (F:=OPS) OPS_sound OPS_nice (f:=36) (fn:=Tryz.f36) (code:=Tryz.f36.body.getD .skip) (by kernel_rfl) (by kernel_rfl) (by kernel_rfl) (by kernel_rfl) fun G w0 x=>by kernel_rfl
def tabs36:Tabs:=Tabs.addP tabs7 36 ⟨pa36,po36,pk36,[1],m36⟩
theorem tabs36OK:TabOK Tryz.prog tabs36:=TabOK.addP tabs7OK cp36

/-! (*putlog/disk.Disk).Read -/
def pa35:List SR:=[.c (.h 1),.c (.d (.d tI)),.c (.d (.d tI))]
def po35:List SO:=[.opt [.d (.d .bool),.d (.d tI),.h 2,.h 3,.h 4],.arr (.int .u8),.arr (.int .u8),.arr (.pair tI .str)]
def pk35:Skel:=⟨[(1000000,.t [.c (.d (.d .str)),.c (.d (.d tI))])],[],[],[]⟩
def an35:Ann:=.seq (.a) (.seq (.seq (.reg [] [] [z0,.r,z0] (.call [5000000] [(.norm,⟨[(10,.r (.c (.d (.d tI))))],[],[],[]⟩)] (.seq (.a) (.a)) (.a))) (.a)) (.seq (.seq (.reg [] [] [z0,z0,z0,.r,z0] (.call [5000000] [] (.seq (.a) (.a)) (.a))) (.a)) (.a)))
def m35:(Int×Int×Bool×Bool×Int×List Int×List Int×List (Int×List UInt8))→Option (List UInt8×Int) :=
 fun x=>((cC x.2.2.1).bind fun (x:Unit)=>some ()).bind fun (x_1:Unit)=>(bif x.2.2.2.1 then some 361 else some 0).bind fun (ov:Int)=>bif PE.notM
 (eqM ov 0) then some ([],ov) else bif PE.notM (PE.andM (PE.andM (PE.andM (leM 0 x.1) (leM 0 x.2.1)) (leM x.1 (lenM x.2.2.2.2.2.1))) (leM x.2.1 (wrap
 IntKind.i64 (lenM x.2.2.2.2.2.1-x.1)))) then some ([],360) else (oA x.1 (lenM x.2.2.2.2.2.2.1)).bind fun r=>(oA x.2.1 (lenM x.2.2.2.2.2.2.1-x.1 +
 1)).bind fun r=>some (oC (rC x.2.2.2.2.2.2.1 (Int.toNat x.1) (Int.toNat x.2.1)),0)
theorem cp35:PSpecOK Tryz.prog 35 ⟨pa35,po35,pk35,[1],m35⟩ :=
 eG (own:=[2000024,2000026,5000000]) (an:=an35) (n:=400) tabs36OK (F:=OPS) OPS_sound OPS_nice (f:=35) (fn:=Tryz.f35) (code:=Tryz.f35.body.getD .skip) (by kernel_rfl) (by kernel_rfl) (by kernel_rfl) (by kernel_rfl) fun G w0 x=>by kernel_rfl
def tabs35:Tabs:=Tabs.addP tabs36 35 ⟨pa35,po35,pk35,[1],m35⟩
theorem tabs35OK:TabOK Tryz.prog tabs35:=TabOK.addP tabs36OK cp35

/-! putlog/journal.open -/
def pa37:List SR:=[.c (.h 1),.c (.d (.d .str))]
def po37:List SO:=[.opt [.d (.d .bool),.d (.d tI),.h 2,.h 3,.h 4],.arr (.int .u8),.arr (.int .u8),.arr (.pair tI .str)]
def pk37:Skel:=⟨[(1000000,.t [.c (.h 5),.c (.d (.d tI))])],[],[],[.opt [.h 6,.d (.d .str),.d (.d tI),.h 1,.d (.d .bool)],.arr .str]⟩
def an037:Ann:=.a
def anb37:Ann:=.seq (.a) (.seq (.reg [] [] [.s [5] [],z0,z0,z0,.r] (.call [5000000] [] (.block (.loop ⟨[],(ra 4 57 ([])),[(8,.box [.h 9,.d (.d .str),.d (.d tI),.h 1,.d (.d .bool)])],[.arr .str]⟩ [(.exit 0,⟨[],(ra 4 57 ([])),[(8,.box [.h 9,.d (.d .str),.d (.d tI),.h 1,.d (.d .bool)])],[.arr .str]⟩),(.pan 1000278,⟨[],(ra 4 57 ([])),[(8,.box [.h 9,.d (.d .str),.d (.d tI),.h 1,.d (.d .bool)])],[.arr .str]⟩)] (.seq (.a) (.block (.seq (.a) (.seq (.reg [] [] [z0,z0,z0,z0,.r] (.call [5000000] [] (.seq (.a) (.a)) (.a))) (.seq (.a) (.seq (.reg [] [] [z0,z0,z0,z0,z0,z0,z0,z0,z0,.r] (.call [5000000] [] (.seq (.a) (.a)) (.a))) (.reg [0,0,3,0,0,0,32,120,255,511] (ra 0 10 ([])) [z0,z0,.k [10,8,9],z0,z0,z0,z0,z0,z0,.r] (.kp [5000000] ⟨[(53,.r (.c (.d (.d .str))))],[],[(8,.box [.h 10,.d (.d .str),.d (.d tI),.h 1,.d (.d .bool)]),(9,.gone)],[.arr .str]⟩ (.seq (.a) (.seq (.a) (.seq (.a) (.seq (.a) (.seq (.reg [0,1,0,7,0,16,48,112,255,511] (ra 0 10 ([])) (za 7 (.s [8] []::z0::z0::[])) (.a)) (.a)))))) (.call [5000000] [] (.seq (.a) (.a)) (.a)))))))))))) (.a))) (.a))
def anN37:Ann:=.seq (.reg [] [] (za 6 ([])) (.gq z0 (.a) (.gq z0 (.a) (.gq z0 (.a) (.a))))) (.a)
def anP37:Ann:=.seq (.reg [] [] (za 6 ([])) (.gq z0 (.gq z0 (.gq z0 (.a) (.a)) (.a)) (.a))) (.a)
def m37:(List UInt8×Bool×Bool×Int×List Int×List Int×List (Int×List UInt8))→Option (Int×Bool×List UInt8×Int×Bool×List (List UInt8)) :=
 fun x=>((cC x.2.1).bind fun (x:Unit)=>some ()).bind fun (x_1:Unit)=>(mkM 32 32 (nat_lit 1) 0).bind fun r=>(iA (fun (s:List UInt8×Int×Bool
 × List (List UInt8))=>(bif ltM s.2.1 (lenM x.1) then byteM x.1 s.2.1 else some 0).bind fun r_1=>bif PE.andM (ltM s.2.1 (lenM x.1)) (PE.notM (eqM r_1 0))
 then (byteM x.1 s.2.1).bind fun r_2=>bif PE.notM (eqM r_2 1) then some (Sum.inr (Sum.inr (s.1,s.2.1,s.2.2.1,s.2.2.2))) else (m137 (x.1,wrap IntKind.i64
 (s.2.1+1))).bind fun r_3=>bif PE.notM (PE.andM (eqM r_3.2.2 0) (leM (wrap .i64 (r_3.2.1+32)) (lenM x.1))) then some (Sum.inr (Sum.inr (s.1,
 s.2.1,s.2.2.1,s.2.2.2))) else ((m102 (s.1,r_3.1)).bind fun r_4=>(eB (nat_lit 16) s.2.2.2 [r_3.1]).bind fun r_5=>(m103 r_3.1).bind fun r_6=>(lG
 (oC [1]) r_6.1).bind fun r_7=>(lG r_7 r_4).bind fun r=>some (r,r_4,wrap .i64 (s.2.1+lenM r),s.2.2.1,r_5)).bind fun (ov:List UInt8 ×
 List UInt8×Int×Bool×List (List UInt8))=>(pA x.1 s.2.1 (wrap .i64 (r_3.2.1+32))).bind fun r=>bif PE.notM (kB ov.1 r) then some
 (Sum.inr (Sum.inr (ov.2.1,ov.2.2.1,ov.2.2.2.1,ov.2.2.2.2))) else some (Sum.inl (ov.2.1,ov.2.2.1,ov.2.2.2.1,ov.2.2.2.2)) else some (Sum.inr (Sum.inl
 (s.1,s.2.1,s.2.2.1,s.2.2.2)))) (oC r,0,false,[])).bind fun o=>Sum.elim (fun (t:List UInt8×Int×Bool×List (List UInt8))=>some (0,false,
 t.1,t.2.1,t.2.2.1,t.2.2.2)) (fun (t:List UInt8×Int×Bool×List (List UInt8))=>some (372,true,[],0,false,[])) o
theorem cp37:PSpecOK Tryz.prog 37 ⟨pa37,po37,pk37,[1],m37⟩ :=
 fnT_ok (own:=[5000000]) (a0:=an037) (a1:=anb37) (aN:=anN37) (aP:=anP37) (n:=400) tabs35OK (F:=OPS) OPS_sound OPS_nice (f:=37) (g:=85) (fn:=Tryz.f37) (fg:=Tryz.f85) (s2:=4) (s3:=5) (sf:=6) (It:=98) (Te:=278) (fe:=86)
 (by kernel_rfl) rfl (by kernel_rfl) (by kernel_rfl) rfl rfl rfl rfl rfl rfl (by kernel_rfl) (by kernel_rfl) rfl rfl rfl rfl rfl rfl rfl rfl rfl rfl rfl rfl rfl rfl rfl rfl rfl rfl rfl rfl rfl rfl rfl (by kernel_rfl) (by kernel_rfl) fun G w0 x=>by kernel_rfl
def tabs37:Tabs:=Tabs.addP tabs35 37 ⟨pa37,po37,pk37,[1],m37⟩
theorem tabs37OK:TabOK Tryz.prog tabs37:=TabOK.addP tabs35OK cp37

/-! (*putlog/disk.Disk).Write -/
def pa96:List SR:=[.c (.h 1),.c (.d (.d tI)),.c (.d (.d .str))]
def po96:List SO:=[.opt [.d (.d .bool),.d (.d tI),.h 2,.h 3,.h 4],.arr (.int .u8),.arr (.int .u8),.arr (.pair tI .str)]
def pk96:Skel:=⟨[(1000000,.r (.c (.d (.d tI))))],[],[(1,.box [.d (.d .bool),.d (.d tI),.h 2,.h 3,.h 5]),(3,.arr (.int .u8)),(4,.gone)],[.arr (.pair tI .str)]⟩
def an96:Ann:=.seq (.a) (.seq (.seq (.reg [] [] [z0,.r,z0] (.call [5000000] [(.norm,⟨[(10,.r (.c (.d (.d tI))))],[],[],[]⟩)] (.seq (.a) (.a)) (.a))) (.a)) (.seq (.seq (.reg [] [] [z0,z0,z0,z0,.r,z0] (.call [5000000] [] (.seq (.a) (.a)) (.a))) (.a)) (.seq (.a) (.seq (.reg [0,0,2,6,14,0,32,126,255,511,1023] (ra 0 11 ([])) [z0,z0,.s [1] [],z0,.s [1] [],.s [5] [],z0,.s [4] [6,4],.s [1] [],z0,.s [1,6] [1]] (.a)) (.seq (.reg [0,0,2,6,14,31] (ra 0 6 ([])) [.s [5] [],z0,.s [1] [],z0,.s [1] [],.r] (.call [2000007,5000000] [] (.seq (.a) (.reg [0,0,2,7,0,16,63] (ra 0 7 ([])) [z0,z0,.s [7] [],.s [3] [],z0,.s [7] [],.s [3] [3]] (.a))) (.a))) (.seq (.reg [] [] [z0,.s [1] [],z0,.r] (.call [5000000] [(.norm,⟨[(42,.t [])],[],[(1,.box [.d (.d .bool),.d (.d tI),.h 2,.h 3,.h 6])],[]⟩)] (.seq (.a) (.a)) (.a))) (.a)))))))
def m96:(Int×List UInt8×Bool×Bool×Int×List Int×List Int×List (Int×List UInt8))→Option (Int×Bool×Int×List Int×List (Int×List UInt8)) :=
 fun x=>((cC x.2.2.1).bind fun (x:Unit)=>some ()).bind fun (x_1:Unit)=>(bif x.2.2.2.1 then some 361 else some 0).bind fun (ov:Int)=>bif PE.notM
 (eqM ov 0) then some (ov,x.2.2.2.1,x.2.2.2.2.1,x.2.2.2.2.2.2.1,x.2.2.2.2.2.2.2) else bif PE.notM (PE.andM (PE.andM (PE.andM (leM 0 x.1) (leM 0 (lenM
 x.2.1))) (leM x.1 (lenM x.2.2.2.2.2.1))) (leM (lenM x.2.1) (wrap .i64 (lenM x.2.2.2.2.2.1-x.1)))) then some (360,x.2.2.2.1,x.2.2.2.2.1,
 x.2.2.2.2.2.2.1,x.2.2.2.2.2.2.2) else (eB (nat_lit 24) x.2.2.2.2.2.2.2 [(x.1,x.2.1)]).bind fun r=>(oA x.1 (lenM x.2.2.2.2.2.2.1)).bind fun r_1 =>
 (putM x.2.2.2.2.2.2.1 x.1 (byteI x.2.1)).bind fun r_2=>(bif eqM x.2.2.2.2.1 0 then some (x.2.2.2.1,x.2.2.2.2.1) else some (eqM (wrap IntKind.i64
 (x.2.2.2.2.1-1)) 0,wrap .i64 (x.2.2.2.2.1-1))).bind fun (ov:Bool×Int)=>some (0,ov.1,ov.2,r_2,r)
theorem cp96:PSpecOK Tryz.prog 96 ⟨pa96,po96,pk96,[1],m96⟩ :=
 eG (own:=[5000000]) (an:=an96) (n:=400) tabs37OK (F:=OPS) OPS_sound OPS_nice (f:=96) (fn:=Tryz.f96) (code:=Tryz.f96.body.getD .skip) (by kernel_rfl) (by kernel_rfl) (by kernel_rfl) (by kernel_rfl) fun G w0 x=>by kernel_rfl
def tabs96:Tabs:=Tabs.addP tabs37 96 ⟨pa96,po96,pk96,[1],m96⟩
theorem tabs96OK:TabOK Tryz.prog tabs96:=TabOK.addP tabs37OK cp96

/-! (*putlog/disk.Disk).Sync -/
def pa41:List SR:=[.c (.h 1)]
def po41:List SO:=[.opt [.d (.d .bool),.d (.d tI),.h 2,.h 3,.h 4],.arr (.int .u8),.arr (.int .u8),.arr (.pair tI .str)]
def pk41:Skel:=⟨[(1000000,.r (.c (.d (.d tI))))],[],[(1,.box [.d (.d .bool),.d (.d tI),.h 2,.h 3,.h 5]),(2,.arr (.int .u8)),(4,.gone)],[.arr (.pair tI .str)]⟩
def an41:Ann:=.seq (.a) (.seq (.reg [] [] [z0,.r,z0] (.call [5000000] [(.norm,⟨[(5,.r (.c (.d (.d tI))))],[],[],[]⟩)] (.seq (.a) (.a)) (.a))) (.seq (.join [(.norm,⟨[],(ra 6 12 ([])),[(1,.box [.d (.d .bool),.d (.d tI),.h 2,.h 3,.h 5]),(2,.arr (.int .u8)),(4,.gone)],[.arr (.pair tI .str)]⟩)] (.seq (.a) (.cond (.reg [0,0,2,6,14,0,32,96,224,511] (ra 0 10 ([])) [z0,z0,.s [1] [],z0,.s [1] [],z0,.s [1] [],z0,.s [1] [],.r] (.call [2000018,5000000] [] (.seq (.a) (.a)) (.a))) (.a)))) (.a)))
def m41:(Bool×Bool×Int×List Int×List Int×List (Int×List UInt8))→Option (Int×Bool×Int×List Int×List (Int×List UInt8)) :=
 fun x=>((cC x.1).bind fun (x:Unit)=>some ()).bind fun (x_1:Unit)=>(bif x.2.1 then some 361 else some 0).bind fun (ov:Int)=>(bif eqM ov 0 then
 (pA (zerosL x.2.2.2.2.2 (0,[])) 0 0).bind fun r=>some (x.2.1,x.2.2.1,gK x.2.2.2.1 x.2.2.2.2.1,r) else some (x.2.1,x.2.2.1,x.2.2.2.1,
 x.2.2.2.2.2)).bind fun o=>some (ov,o.1,o.2.1,o.2.2.1,o.2.2.2)
theorem cp41:PSpecOK Tryz.prog 41 ⟨pa41,po41,pk41,[1],m41⟩ :=
 eG (own:=[5000000]) (an:=an41) (n:=400) tabs96OK (F:=OPS) OPS_sound OPS_nice (f:=41) (fn:=Tryz.f41) (code:=Tryz.f41.body.getD .skip) (by kernel_rfl) (by kernel_rfl) (by kernel_rfl) (by kernel_rfl) fun G w0 x=>by kernel_rfl
def tabs41:Tabs:=Tabs.addP tabs96 41 ⟨pa41,po41,pk41,[1],m41⟩
theorem tabs41OK:TabOK Tryz.prog tabs41:=TabOK.addP tabs96OK cp41

/-! putlog/journal.Open -/
def pa8:List SR:=[.c (.h 1)]
def po8:List SO:=[.opt [.d (.d .bool),.d (.d tI),.h 2,.h 3,.h 4],.arr (.int .u8),.arr (.int .u8),.arr (.pair tI .str)]
def pk8:Skel:=⟨[(1000000,.t [.c (.h 5),.c (.d (.d tI))])],[],[(1,.box [.d (.d .bool),.d (.d tI),.h 2,.h 3,.h 7]),(2,.arr (.int .u8)),(3,.arr (.int .u8)),(4,.gone)],[.opt [.h 6,.d (.d .str),.d (.d tI),.h 1,.d (.d .bool)],.arr .str,.arr (.pair tI .str)]⟩
def an8:Ann:=.seq (.a) (.seq (.a) (.seq (.reg [] [] [z0,z0,.k [1,2,3,4],.k [1,2,3,4],z0,z0,z0,z0,z0] (.ct (.ct (.a)))) (.seq (.a) (.seq (.reg [] [] [z0,z0,.k [1,2,3,4,8,9],z0,z0,z0,z0,z0] (.ct (.a))) (.seq (.a) (.seq (.join [(.norm,⟨[(5,.r (.c (.d (.d tI))))],(ra 28 30 ([])),[(1,.box [.d (.d .bool),.d (.d tI),.h 2,.h 3,.h 10]),(2,.arr (.int .u8)),(3,.arr (.int .u8)),(4,.gone)],[.arr (.pair tI .str)]⟩)] (.seq (.a) (.cond (.reg [0,0,2,6,14,30,0,64,0,256,768,1792,3840,8128,16320,32704,65535,0,131072,524287,1048575,2097151] (ra 0 22 ([])) [z0,z0,.s [8] [],z0,z0,.s [8] [],z0,z0,z0,.s [8] [],z0,z0,.s [8] [],z0,.s [] [10],.s [10] [],.k [11,12,13],z0,z0,.s [11,12,13,1] [14],.k [15,1,2,3,4],z0] (.kp [5000000] ⟨[(53,.r (.c (.f 95 [] [.p 11 0,.p 12 0,.p 13 0])))],[],[],[.box [.h 8],.box [.d (.d tI)],.box [.d (.d .str)]]⟩ (.seq (.a) (.a)) (.kp [5000000] ⟨[(57,.r (.c (.d (.d tI))))],[],[(1,.box [.d (.d .bool),.d (.d tI),.h 2,.h 3,.h 15]),(2,.arr (.int .u8)),(3,.arr (.int .u8)),(4,.gone)],[.arr (.pair tI .str)]⟩ (.seq (.a) (.seq (.seq (.a) (.block (.seq (.seq (.a) (.seq (.a) (.seq (.block (.seq (.a) (.seq (.reg [] [] [z0,.r,z0] (.call [5000000] [] (.seq (.a) (.seq (.reg [0,1,3,7,0,0,63,127] (ra 0 8 ([])) [.s [11] [],.s [8] [],z0,.s [8] [],.s [12] [],.s [13] [],.k [1,2,3,4,16],z0] (.ct (.a))) (.a))) (.a))) (.a)))) (.a)))) (.seq (.seq (.a) (.seq (.a) (.seq (.block (.seq (.a) (.seq (.reg [] [] [z0,.k [1,2,3,16,18],z0] (.ct (.a))) (.a)))) (.a)))) (.seq (.a) (.join [] (.a))))))) (.a))) (.a)))) (.a)))) (.a)))))))
def m8:(Bool×Bool×Int×List Int×List Int×List (Int×List UInt8))→Option (Int×Bool×Int×List Int×List Int×Bool×List UInt8×Int×Bool×List (List UInt8)×List (Int×List UInt8)) :=
 fun x=>((cC x.1).bind fun (x:Unit)=>some ()).bind fun (x_1:Unit)=>(m36 (false,x.2.1,x.2.2.1,x.2.2.2.1,x.2.2.2.2.1,x.2.2.2.2.2)).bind fun r =>
 (m35 (0,r,false,x.2.1,x.2.2.1,x.2.2.2.1,x.2.2.2.2.1,x.2.2.2.2.2)).bind fun r_1=>bif PE.notM (eqM r_1.2 0) then some (r_1.2,x.2.1,x.2.2.1,
 x.2.2.2.1,x.2.2.2.2.1,true,[],0,false,[],x.2.2.2.2.2) else (m37 (r_1.1,false,x.2.1,x.2.2.1,x.2.2.2.1,x.2.2.2.2.1,x.2.2.2.2.2)).bind fun r_2 =>
 bif PE.notM (eqM r_2.1 0) then some (r_2.1,x.2.1,x.2.2.1,x.2.2.2.1,x.2.2.2.2.1,true,[],0,false,[],x.2.2.2.2.2) else ((cC r_2.2.1).bind fun r_3 =>
 ((cC r_2.2.1).bind fun (x:Unit)=>some ()).bind fun r_4=>(pA r_1.1 r_2.2.2.2.1 (lenM r_1.1)).bind fun r_5=>(trimM r_5 [(0:UInt8)]).bind fun r_6
 => bif PE.notM (kB r_6 []) then (cC r_2.2.1).bind fun r_7=>((cC r_2.2.1).bind fun (x:Unit)=>some ()).bind fun r_8=>(cC r_2.2.1).bind fun r_9
 => ((cC r_2.2.1).bind fun (x:Unit)=>some ()).bind fun r_10=>(mkM (wrap .i64 (lenM r_1.1-r_2.2.2.2.1)) (wrap .i64 (lenM r_1.1 -
 r_2.2.2.2.1)) (nat_lit 1) 0).bind fun r_11=>((cC r_2.2.1).bind fun r_12=>((cC r_2.2.1).bind fun (x:Unit)=>some ()).bind fun r=>(m96
 (r_2.2.2.2.1,oC r_11,false,x.2.1,x.2.2.1,x.2.2.2.1,x.2.2.2.2.1,x.2.2.2.2.2)).bind fun r=>bif PE.notM (eqM r.1 0) then some (r.1,r.2.1,r.2.2.1,
 x.2.2.2.1,r.2.2.2.1,r.2.2.2.2) else (m41 (false,r.2.1,r.2.2.1,x.2.2.2.1,r.2.2.2.1,r.2.2.2.2)).bind fun r_13=>bif PE.notM (eqM r_13.1 0) then some
 (r_13.1,r_13.2.1,r_13.2.2.1,r_13.2.2.2.1,r.2.2.2.1,r_13.2.2.2.2) else some (0,r_13.2.1,r_13.2.2.1,r_13.2.2.2.1,r.2.2.2.1,r_13.2.2.2.2)).bind fun (ov
 : Int×Bool×Int×List Int×List Int×List (Int×List UInt8))=>some (ov.1,ov.2.1,ov.2.2.1,ov.2.2.2.1,ov.2.2.2.2.1,ov.2.2.2.2.2) else some (r_2.1,
 x.2.1,x.2.2.1,x.2.2.2.1,x.2.2.2.2.1,x.2.2.2.2.2)).bind fun o=>bif PE.notM (eqM o.1 0) then some (o.1,o.2.1,o.2.2.1,o.2.2.2.1,o.2.2.2.2.1,true,[],
 0,false,[],o.2.2.2.2.2) else some (0,o.2.1,o.2.2.1,o.2.2.2.1,o.2.2.2.2.1,r_2.2.1,r_2.2.2.1,r_2.2.2.2.1,r_2.2.2.2.2.1,r_2.2.2.2.2.2,o.2.2.2.2.2)
theorem cp8:PSpecOK Tryz.prog 8 ⟨pa8,po8,pk8,[1],m8⟩ :=
 eG (own:=[5000000]) (an:=an8) (n:=400) tabs41OK (F:=OPS) OPS_sound OPS_nice (f:=8) (fn:=Tryz.f8) (code:=Tryz.f8.body.getD .skip) (by kernel_rfl) (by kernel_rfl) (by kernel_rfl) (by kernel_rfl) fun G w0 x=>by kernel_rfl
def tabs8:Tabs:=Tabs.addP tabs41 8 ⟨pa8,po8,pk8,[1],m8⟩
theorem tabs8OK:TabOK Tryz.prog tabs8:=TabOK.addP tabs41OK cp8

/-! putlog/putloglaw39.pick -/
def as10:List Ty:=[tI,tI]
def rs10:List Ty:=[tI]
def an10:Ann:=.seq (.a) (.seq (.join [(.norm,⟨[(0,.r (.c (.d (.d tI))))],[5,6,7,8,9],[],[]⟩)] (.a)) (.a))
def m10:(Int×Int)→Option (Int) :=
 fun x=>(bif ltM x.1 0 then some (wrap .i64 (negM (wrap .i64 (x.1+1)))) else some x.1).bind fun o=>(remM o x.2).bind fun r=>some r
theorem c10:SpecOK Tryz.prog 10 ⟨as10,rs10,m10⟩ :=
 fc tabs8OK [] an10 Tryz.f10 fun x=>by kernel_rfl
def tabs10:Tabs:=Tabs.add tabs8 10 ⟨as10,rs10,m10⟩
theorem tabs10OK:TabOK Tryz.prog tabs10:=TabOK.add tabs8OK c10 Tryz.call10

/-! (*putlog/disk.Disk).Cut -/
def pa9:List SR:=[.c (.h 1),.c (.d (.d tI))]
def po9:List SO:=[.opt [.d (.d .bool),.d (.d tI),.h 2,.h 3,.h 4],.arr (.int .u8),.arr (.int .u8),.arr (.pair tI .str)]
def pk9:Skel:=⟨[(1000000,.r (.c (.d (.d tI))))],[],[(1,.box [.d (.d .bool),.d (.d tI),.h 2,.h 3,.h 4])],[]⟩
def an9:Ann:=.seq (.a) (.seq (.seq (.reg [] [] [z0,.r,z0] (.call [5000000] [(.norm,⟨[(7,.r (.c (.d (.d tI))))],[],[],[]⟩)] (.seq (.a) (.a)) (.a))) (.a)) (.a))
def m9:(Int×Bool×Bool×Int×List Int×List Int×List (Int×List UInt8))→Option (Int×Bool×Int) :=
 fun x=>((cC x.2.1).bind fun (x:Unit)=>some ()).bind fun (x_1:Unit)=>(bif x.2.2.1 then some 361 else some 0).bind fun (ov:Int)=>bif PE.notM (eqM
 ov 0) then some (ov,x.2.2.1,x.2.2.2.1) else bif ltM x.1 0 then some (2,x.2.2.1,x.2.2.2.1) else some (0,eqM x.1 0,x.1)
theorem cp9:PSpecOK Tryz.prog 9 ⟨pa9,po9,pk9,[1],m9⟩ :=
 eG (own:=[5000000]) (an:=an9) (n:=400) tabs10OK (F:=OPS) OPS_sound OPS_nice (f:=9) (fn:=Tryz.f9) (code:=Tryz.f9.body.getD .skip) (by kernel_rfl) (by kernel_rfl) (by kernel_rfl) (by kernel_rfl) fun G w0 x=>by kernel_rfl
def tabs9:Tabs:=Tabs.addP tabs10 9 ⟨pa9,po9,pk9,[1],m9⟩
theorem tabs9OK:TabOK Tryz.prog tabs9:=TabOK.addP tabs10OK cp9

/-! (*putlog/journal.Journal).Append$1 -/
def pa45:List SR:=[.c (.d (.d .str))]
def po45:List SO:=[]
def pk45:Skel:=⟨[(1000000,.r (.c (.d (.d .bool))))],[],[],[]⟩
def an45:Ann:=.a
def m45:List UInt8→Option (Bool) :=
 fun x=>some (ltM 65536 (lenM x))
theorem cp45:PSpecOK Tryz.prog 45 ⟨pa45,po45,pk45,[],m45⟩ :=
 eG (own:=[5000000]) (an:=an45) (n:=400) tabs9OK (F:=OPS) OPS_sound OPS_nice (f:=45) (fn:=Tryz.f45) (code:=Tryz.f45.body.getD .skip) (by kernel_rfl) (by kernel_rfl) (by kernel_rfl) (by kernel_rfl) fun G w0 x=>by kernel_rfl
def tabs45:Tabs:=Tabs.addP tabs9 45 ⟨pa45,po45,pk45,[],m45⟩
theorem tabs45OK:TabOK Tryz.prog tabs45:=TabOK.addP tabs9OK cp45

/-! (*putlog/journal.Journal).Room -/
def pa51:List SR:=[.c (.h 1)]
def po51:List SO:=[.opt [.h 2,.d (.d .str),.d (.d tI),.h 3,.d (.d .bool)],.arr .str,.opt [.d (.d .bool),.d (.d tI),.h 4,.h 5,.h 6],.arr (.int .u8),.arr (.int .u8),.arr (.pair tI .str)]
def pk51:Skel:=⟨[(1000000,.r (.c (.d (.d tI))))],[],[(3,.box [.d (.d .bool),.d (.d tI),.h 4,.h 5,.h 6]),(4,.arr (.int .u8)),(5,.arr (.int .u8)),(6,.arr (.pair tI .str))],[]⟩
def an51:Ann:=.seq (.a) (.seq (.a) (.seq (.reg [0,1,3,7,15,0,32,96,224,480,1023,2047] (ra 0 12 ([])) [z0,.s [1] [],z0,.s [1] [],.k [3,4,5,6],z0,.s [1] [],z0,z0,.s [1] [],z0,z0] (.ct (.a))) (.a)))
def m51:(Bool×List UInt8×Int×Bool×List (List UInt8)×Bool×Bool×Int×List Int×List Int×List (Int×List UInt8))→Option (Int×Bool×Int×List Int×List Int×List (Int×List UInt8)) :=
 fun x=>((cC x.1).bind fun (x_1:Unit)=>(cC x.2.2.2.2.2.1).bind fun (x:Unit)=>some ()).bind fun (x_1:Unit)=>(m36 (false,x.2.2.2.2.2.2.1,
 x.2.2.2.2.2.2.2.1,x.2.2.2.2.2.2.2.2.1,x.2.2.2.2.2.2.2.2.2.1,x.2.2.2.2.2.2.2.2.2.2)).bind fun r=>some (wrap .i64 (r-x.2.2.1),x.2.2.2.2.2.2.1,
 x.2.2.2.2.2.2.2.1,x.2.2.2.2.2.2.2.2.1,x.2.2.2.2.2.2.2.2.2.1,x.2.2.2.2.2.2.2.2.2.2)
theorem cp51:PSpecOK Tryz.prog 51 ⟨pa51,po51,pk51,[1,3],m51⟩ :=
 eG (own:=[5000000]) (an:=an51) (n:=400) tabs45OK (F:=OPS) OPS_sound OPS_nice (f:=51) (fn:=Tryz.f51) (code:=Tryz.f51.body.getD .skip) (by kernel_rfl) (by kernel_rfl) (by kernel_rfl) (by kernel_rfl) fun G w0 x=>by kernel_rfl
def tabs51:Tabs:=Tabs.addP tabs45 51 ⟨pa51,po51,pk51,[1,3],m51⟩
theorem tabs51OK:TabOK Tryz.prog tabs51:=TabOK.addP tabs45OK cp51

/-! (*putlog/journal.Journal).Append -/
def pa12:List SR:=[.c (.h 1),.c (.d (.d (.list .str)))]
def po12:List SO:=[.opt [.h 2,.d (.d .str),.d (.d tI),.h 3,.d (.d .bool)],.arr .str,.opt [.d (.d .bool),.d (.d tI),.h 4,.h 5,.h 6],.arr (.int .u8),.arr (.int .u8),.arr (.pair tI .str)]
def pk12:Skel:=⟨[(1000000,.r (.c (.d (.d tI))))],[],[(1,.opt [.h 7,.d (.d .str),.d (.d tI),.h 3,.d (.d .bool)]),(2,.gone),(3,.box [.d (.d .bool),.d (.d tI),.h 4,.h 5,.h 8]),(4,.arr (.int .u8)),(5,.arr (.int .u8)),(6,.gone)],[.arr .str,.arr (.pair tI .str)]⟩
def an12:Ann:=.seq (.a) (.seq (.a) (.seq (.a) (.seq (.seq (.reg [] [] [z0,.s [1] [],z0,.s [1] [],z0,z0,z0,.k [],z0] (.call [5000000] [(.norm,⟨[(21,.r (.c (.d (.d .bool))))],[],[],[]⟩)] (.seq (.a) (.seq (.reg [] [] [z0,z0,.r,z0,z0] (.call [5000000] [(.norm,⟨[(7,.r (.c (.d (.d tI))))],[],[],[]⟩)] (.seq (.a) (.seq (.seq (.a) (.block (.loop ⟨[(8,.r (.c (.d (.d tI))))],(5::ra 9 8 (18::[])),[],[]⟩ [(.exit 0,⟨[],(5::ra 8 9 (18::[])),[],[]⟩),(.ret,⟨[(4,.r (.c (.d (.d tI))))],(5::ra 8 11 ([])),[],[]⟩)] (.seq (.a) (.seq (.a) (.seq (.block (.seq (.a) (.seq (.reg [] [] [z0,z0,z0,z0,z0,.k []] (.ct (.a))) (.a)))) (.a))))))) (.a))) (.a))) (.a))) (.a))) (.a)) (.seq (.a) (.seq (.a) (.seq (.a) (.seq (.seq (.a) (.block (.loop ⟨[(33,.r (.c (.d (.d tI))))],(9::ra 34 7 ([])),[(7,.box [.h 10,.d (.d .str),.d (.d tI)]),(8,.gone),(9,.bld 96 5)],[.arr .str]⟩ [(.exit 0,⟨[],(9::ra 33 8 ([])),[(7,.box [.h 10,.d (.d .str),.d (.d tI)]),(8,.gone),(9,.bld 96 5)],[.arr .str]⟩)] (.seq (.a) (.seq (.a) (.seq (.block (.seq (.a) (.reg [] [] [z0,.r,.s [9] [9]] (.call [5000000] [] (.seq (.a) (.seq (.a) (.seq (.a) (.seq (.a) (.seq (.reg [0,1,0,7,0,16,48,112,255,511] (ra 0 10 ([])) (za 7 (.s [7] []::z0::z0::[])) (.a)) (.a)))))) (.a))))) (.a))))))) (.seq (.a) (.seq (.block (.seq (.reg [] [] [z0,z0,z0,.k (ra 1 6 ([])),z0,z0] (.ct (.a))) (.a))) (.seq (.seq (.reg [0,0,2,6,14,30,62,0,128,511,0,1024,3072,7168,15360,0,0,65536,196608,458752,983040,0,2097152,8356863,0,16777216,50331648,117440512,251658240,536870911,1073741823,2147483647] (ra 0 32 ([])) [z0,z0,.s [1] [],z0,z0,.s [1] [],z0,z0,z0,.k [12,13,14],z0,.s [1] [],z0,.s [1] [],z0,z0,z0,.s [1] [],z0,z0,.s [1] [],z0,z0,.k [15,16,17],z0,.s [1] [],z0,.s [1] [],z0,.s [12,13,14,3,15,16,17,3] [18],.k [19,3,4,5,6],z0] (.kp [5000000] ⟨[(60,.r (.c (.f 95 [] [.p 12 0,.p 13 0,.p 14 0])))],[],[],[.box [.h 1],.box [.d (.d tI)],.box [.d (.d .str)]]⟩ (.seq (.a) (.a)) (.kp [5000000] ⟨[(74,.r (.c (.f 95 [] [.p 15 0,.p 16 0,.p 17 0])))],[],[],[.box [.h 1],.box [.d (.d tI)],.box [.d (.d .str)]]⟩ (.seq (.a) (.a)) (.kp [5000000] ⟨[(81,.r (.c (.d (.d tI))))],[],[(3,.box [.d (.d .bool),.d (.d tI),.h 4,.h 5,.h 19]),(4,.arr (.int .u8)),(5,.arr (.int .u8)),(6,.gone)],[.arr (.pair tI .str)]⟩ (.seq (.a) (.seq (.seq (.a) (.block (.seq (.seq (.a) (.seq (.a) (.seq (.block (.seq (.a) (.seq (.reg [] [] [z0,.r,z0] (.call [5000000] [] (.seq (.a) (.seq (.reg [0,1,3,7,0,0,63,127] (ra 0 8 ([])) [.s [12] [],.s [1] [],z0,.s [1] [],.s [13] [],.s [14] [],.k [3,4,5,6,20],z0] (.ct (.a))) (.a))) (.a))) (.a)))) (.a)))) (.seq (.seq (.a) (.seq (.a) (.seq (.block (.seq (.a) (.seq (.reg [] [] [z0,.k [3,4,5,20,22],z0] (.ct (.a))) (.a)))) (.a)))) (.seq (.seq (.a) (.seq (.a) (.seq (.block (.seq (.a) (.seq (.reg [] [] [z0,.r,z0] (.call [5000000] [] (.seq (.a) (.seq (.reg [0,1,3,7,0,0,63,127] (ra 0 8 ([])) [.s [15] [],.s [1] [],z0,.s [1] [],.s [16] [],.s [17] [],.k [3,4,5,22,24],z0] (.ct (.a))) (.a))) (.a))) (.a)))) (.a)))) (.seq (.seq (.a) (.seq (.a) (.seq (.block (.seq (.a) (.seq (.reg [] [] [z0,.k [3,4,5,24,26],z0] (.ct (.a))) (.a)))) (.a)))) (.seq (.a) (.join [] (.a))))))))) (.a))) (.a))))) (.a)) (.a)))))))))))
def m12:(List (List UInt8)×Bool×List UInt8×Int×Bool×List (List UInt8)×Bool×Bool×Int×List Int×List Int×List (Int×List UInt8))→Option (Int×Bool×List UInt8×Int×Bool×Bool×Int×List Int×List Int×List (List UInt8)×List (Int×List UInt8)) :=
 fun x=>((cC x.2.2.2.2.2.2.1).bind fun (x:Unit)=>some ()).bind fun (x_1:Unit)=>bif x.2.1 then some (1,x.2.1,x.2.2.1,x.2.2.2.1,x.2.2.2.2.1,
 x.2.2.2.2.2.2.2.1,x.2.2.2.2.2.2.2.2.1,x.2.2.2.2.2.2.2.2.2.1,x.2.2.2.2.2.2.2.2.2.2.1,x.2.2.2.2.2.1,x.2.2.2.2.2.2.2.2.2.2.2) else (cC x.2.1).bind fun r
 => ((cC x.2.1).bind fun (x:Unit)=>some ()).bind fun r_1=>(bif PE.notM x.2.2.2.2.1 then ((iA (fun (s:Int)=>bif ltM s (lenM x.1) then (gA x.1
 s).bind fun r=>(m45 r).bind fun r=>bif r then some (Sum.inr (Sum.inr s)) else some (Sum.inl (wrap .i64 (s+1))) else some (Sum.inr (Sum.inl ())))
 0).bind fun o=>Sum.elim (fun (t:Unit)=>some (-1)) (fun (t:Int)=>some t) o).bind fun (ov:Int)=>some (leM 0 ov) else some false).bind fun (ov :
 Bool)=>bif PE.orM x.2.2.2.2.1 ov then some (370,x.2.1,x.2.2.1,x.2.2.2.1,x.2.2.2.2.1,x.2.2.2.2.2.2.2.1,x.2.2.2.2.2.2.2.2.1,x.2.2.2.2.2.2.2.2.2.1,
 x.2.2.2.2.2.2.2.2.2.2.1,x.2.2.2.2.2.1,x.2.2.2.2.2.2.2.2.2.2.2) else (cC x.2.1).bind fun r_2=>((cC x.2.1).bind fun (x:Unit)=>some ()).bind fun r_3
 => (mo47 x.2.2.2.2.2.1).bind fun r_4=>(iA (fun (s:Int×List UInt8×Int×List UInt8×List (List UInt8))=>bif ltM s.1 (lenM x.1) then (gA x.1
 s.1).bind fun r_5=>(m102 (s.2.1,r_5)).bind fun r_6=>(eB (nat_lit 16) s.2.2.2.2 [r_5]).bind fun r_7=>(m103 r_5).bind fun r_8=>(lG (oC [1])
 r_8.1).bind fun r_9=>(lG r_9 r_6).bind fun r_10=>(catB s.2.2.2.1 r_10).bind fun r=>some (Sum.inl (wrap .i64 (s.1+1),r_6,wrap IntKind.i64
 (s.2.2.1+lenM r_10),r,r_7)) else some (Sum.inr (s.2.1,s.2.2.1,s.2.2.2.1,s.2.2.2.2))) (0,x.2.2.1,x.2.2.2.1,[],r_4)).bind fun o=>(m51 (x.2.1,
 x.2.2.1,x.2.2.2.1,x.2.2.2.2.1,x.2.2.2.2.2.1,false,x.2.2.2.2.2.2.2.1,x.2.2.2.2.2.2.2.2.1,x.2.2.2.2.2.2.2.2.2.1,x.2.2.2.2.2.2.2.2.2.2.1,
 x.2.2.2.2.2.2.2.2.2.2.2)).bind fun r_5=>bif ltM r_5.1 (lenM o.2.2.1) then some (371,false,x.2.2.1,x.2.2.2.1,x.2.2.2.2.1,r_5.2.1,r_5.2.2.1,
 r_5.2.2.2.1,r_5.2.2.2.2.1,x.2.2.2.2.2.1,r_5.2.2.2.2.2) else bif kB o.2.2.1 [] then some (0,false,x.2.2.1,x.2.2.2.1,x.2.2.2.2.1,r_5.2.1,r_5.2.2.1,
 r_5.2.2.2.1,r_5.2.2.2.2.1,x.2.2.2.2.2.1,r_5.2.2.2.2.2) else (pA o.2.2.1 1 (lenM o.2.2.1)).bind fun r_6=>(pA o.2.2.1 0 1).bind fun r=>((m96
 (wrap .i64 (x.2.2.2.1+1),r_6,false,r_5.2.1,r_5.2.2.1,r_5.2.2.2.1,r_5.2.2.2.2.1,r_5.2.2.2.2.2)).bind fun r_7=>bif PE.notM (eqM r_7.1 0) then
 some (r_7.1,r_7.2.1,r_7.2.2.1,r_5.2.2.2.1,r_7.2.2.2.1,r_7.2.2.2.2) else (m41 (false,r_7.2.1,r_7.2.2.1,r_5.2.2.2.1,r_7.2.2.2.1,r_7.2.2.2.2)).bind fun
 r_8=>bif PE.notM (eqM r_8.1 0) then some (r_8.1,r_8.2.1,r_8.2.2.1,r_8.2.2.2.1,r_7.2.2.2.1,r_8.2.2.2.2) else (m96 (x.2.2.2.1,r,false,r_8.2.1,
 r_8.2.2.1,r_8.2.2.2.1,r_7.2.2.2.1,r_8.2.2.2.2)).bind fun r=>bif PE.notM (eqM r.1 0) then some (r.1,r.2.1,r.2.2.1,r_8.2.2.2.1,r.2.2.2.1,r.2.2.2.2)
 else (m41 (false,r.2.1,r.2.2.1,r_8.2.2.2.1,r.2.2.2.1,r.2.2.2.2)).bind fun r_9=>bif PE.notM (eqM r_9.1 0) then some (r_9.1,r_9.2.1,r_9.2.2.1,
 r_9.2.2.2.1,r.2.2.2.1,r_9.2.2.2.2) else some (0,r_9.2.1,r_9.2.2.1,r_9.2.2.2.1,r.2.2.2.1,r_9.2.2.2.2)).bind fun (ov:Int×Bool×Int×List Int×List
 Int×List (Int×List UInt8))=>bif PE.notM (eqM ov.1 0) then some (ov.1,false,x.2.2.1,x.2.2.2.1,true,ov.2.1,ov.2.2.1,ov.2.2.2.1,ov.2.2.2.2.1,
 x.2.2.2.2.2.1,ov.2.2.2.2.2) else some (0,false,o.1,o.2.1,x.2.2.2.2.1,ov.2.1,ov.2.2.1,ov.2.2.2.1,ov.2.2.2.2.1,o.2.2.2,ov.2.2.2.2.2)
theorem cp12:PSpecOK Tryz.prog 12 ⟨pa12,po12,pk12,[3],m12⟩ :=
 eG (own:=[5000000]) (an:=an12) (n:=400) tabs51OK (F:=OPS) OPS_sound OPS_nice (f:=12) (fn:=Tryz.f12) (code:=Tryz.f12.body.getD .skip) (by kernel_rfl) (by kernel_rfl) (by kernel_rfl) (by kernel_rfl) fun G w0 x=>by kernel_rfl
def tabs12:Tabs:=Tabs.addP tabs51 12 ⟨pa12,po12,pk12,[3],m12⟩
theorem tabs12OK:TabOK Tryz.prog tabs12:=TabOK.addP tabs51OK cp12

/-! (*putlog/disk.Disk).Crash -/
def pa13:List SR:=[.c (.h 1),.c (.d (.d tL)),.c (.d (.d tI))]
def po13:List SO:=[.opt [.d (.d .bool),.d (.d tI),.h 2,.h 3,.h 4],.arr (.int .u8),.arr (.int .u8),.arr (.pair tI .str)]
def pk13:Skel:=⟨[(1000000,.r (.c (.d (.d tI))))],[],[(1,.box [.d (.d .bool),.d (.d tI),.h 2,.h 3,.h 5]),(2,.arr (.int .u8)),(3,.arr (.int .u8)),(4,.gone)],[.arr (.pair tI .str)]⟩
def an13:Ann:=.seq (.a) (.seq (.a) (.seq (.reg [] [] [z0,.r,.r,.s [9] [10,9],z0] (.call [5000000] [] (.seq (.a) (.a)) (.call [5000000] [] (.seq (.a) (.seq (.reg [] [] [z0,.r,z0] (.call [5000000] [] (.seq (.a) (.seq (.reg [] [] [z0,.r,z0] (.call [5000000] [] (.seq (.a) (.seq (.seq (.a) (.block (.call [5000000] [] (.seq (.a) (.block (.loop ⟨[(7,.r (.c (.d (.d tI))))],(4::ra 8 8 ([])),[(7,.box [.h 9]),(8,.lp .ready)],[.arr tI]⟩ [(.exit 0,⟨[],(4::ra 7 9 ([])),[(7,.box [.h 9]),(8,.lp .ready)],[.arr tI]⟩)] (.seq (.a) (.seq (.a) (.seq (.block (.seq (.a) (.seq (.reg [] [] [z0,z0,.r,z0] (.call [5000000] [] (.seq (.a) (.a)) (.a))) (.a)))) (.a))))))) (.a)))) (.a))) (.a))) (.a))) (.a))) (.a))) (.a)))) (.seq (.reg [] [] [z0,z0,.r,z0] (.call [2000038,2000041,5000000] [(.norm,⟨[(19,.r (.c (.h 11)))],[],[(10,.gone)],[.arr tI]⟩)] (.seq (.a) (.seq (.reg [] [] [z0,z0,.r,z0] (.call [5000000] [(.norm,⟨[(10,.r (.c (.d (.d tI))))],[],[],[]⟩)] (.seq (.a) (.seq (.seq (.a) (.block (.loop ⟨[(8,.r (.c (.d (.d tI))))],(5::ra 9 8 (18::[])),[],[]⟩ [(.exit 0,⟨[],(5::ra 8 9 (18::[])),[],[]⟩),(.ret,⟨[(4,.r (.c (.d (.d tI))))],(5::ra 8 11 ([])),[],[]⟩)] (.seq (.a) (.seq (.a) (.seq (.block (.seq (.a) (.seq (.reg [] [] [z0,z0,z0,.s [10] [],.s [10] [],.r] (.call [5000000] [] (.seq (.a) (.a)) (.a))) (.a)))) (.a))))))) (.a))) (.a))) (.seq (.a) (.seq (.seq (.a) (.block (.loop ⟨[(5,.r (.c (.d (.d tI)))),(6,.r (.c (.d (.d tI))))],(7::ra 16 20 ([])),[(10,.arr tI)],[]⟩ [(.exit 0,⟨[(5,.r (.c (.d (.d tI))))],(6::7::ra 16 20 ([])),[(10,.arr tI)],[]⟩)] (.seq (.a) (.seq (.join [(.norm,⟨[(5,.r (.c (.d (.d tI))))],(7::ra 22 14 ([])),[(10,.arr tI)],[]⟩)] (.block (.seq (.a) (.seq (.reg [] [] [z0,z0,.r,z0] (.call [5000000] [] (.seq (.a) (.a)) (.a))) (.a))))) (.a)))))) (.a))))) (.a))) (.seq (.seq (.a) (.block (.loop ⟨[(22,.r (.c (.d (.d tI))))],(8::9::10::ra 23 36 ([])),[(2,.arr (.int .u8))],[]⟩ [(.exit 0,⟨[],(8::9::10::ra 22 37 ([])),[(2,.arr (.int .u8))],[]⟩)] (.seq (.a) (.seq (.a) (.seq (.block (.seq (.a) (.seq (.a) (.seq (.join [(.norm,⟨[],(ra 34 18 ([])),[(12,.box [.d (.d tI),.d (.d .str)])],[]⟩)] (.a)) (.reg [0,0,2,6,14,31] (ra 0 6 ([])) [.s [12] [],.s [5] [],.s [1] [],z0,.s [1] [],.r] (.call [2000007,5000000] [] (.seq (.a) (.reg [0,0,2,7,0,16,63] (ra 0 7 ([])) [z0,z0,.s [13] [],.s [2] [],z0,.s [13] [],.s [2] [2]] (.a))) (.a))))))) (.a))))))) (.seq (.reg [0,0,2,6,14,0,32,96,224,511] (ra 0 10 ([])) [.s [5] [],.s [5] [],.s [1] [],z0,.s [1] [],.s [5] [],.s [1] [],z0,.s [1] [],.r] (.call [2000018,5000000] [] (.seq (.a) (.a)) (.a))) (.a))))))
def m13:(List Int×Int×Bool×Bool×Int×List Int×List Int×List (Int×List UInt8))→Option (Int×Bool×Int×List Int×List Int×List (Int×List UInt8)) :=
 fun x=>((cC x.2.2.1).bind fun (x:Unit)=>some ()).bind fun (x_1:Unit)=>(iA (fun (s:Int×List Int)=>bif ltM s.1 (lenM x.1) then (gA x.1
 s.1).bind fun r=>(eB (nat_lit 8) s.2 [r]).bind fun r=>some (Sum.inl (wrap .i64 (s.1+1),r)) else some (Sum.inr s.2)) (0,[])).bind fun o =>
 (sortI o).bind fun r=>(compI r).bind fun r_1=>(((iA (fun (s:Int)=>bif ltM s (lenM r_1) then (oA s (lenM r_1)).bind fun r_2=>(gA r_1 s).bind
 fun r=>bif PE.orM (ltM r 0) (leM (lenM x.2.2.2.2.2.2.2) r) then some (Sum.inr (Sum.inr s)) else some (Sum.inl (wrap .i64 (s+1))) else some (Sum.inr
 (Sum.inl ()))) 0).bind fun o=>Sum.elim (fun (t:Unit)=>some (-1)) (fun (t:Int)=>some t) o).bind fun (ov:Int)=>bif eqM ov (-1) then some r_1 else
 (iA (fun (s:Int×Int×List Int)=>bif ltM s.2.1 (lenM s.2.2) then ((oA s.2.1 (lenM s.2.2)).bind fun r_2=>(gA s.2.2 s.2.1).bind fun r_3=>bif
 PE.notM (PE.orM (ltM r_3 0) (leM (lenM x.2.2.2.2.2.2.2) r_3)) then (oA s.1 (lenM s.2.2)).bind fun r_4=>(wE s.2.2 s.1 fun (x:Int)=>some r_3).bind fun
 r=>some (wrap .i64 (s.1+1),r) else some (s.1,s.2.2)).bind fun o=>some (Sum.inl (o.1,wrap .i64 (s.2.1+1),o.2)) else some (Sum.inr
 (s.1,s.2.2))) (ov,wrap .i64 (ov+1),r_1)).bind fun o_1=>(oA o_1.1 (lenM o_1.2)).bind fun r_2=>(pA (clrM o_1.2 o_1.1 0) 0 o_1.1).bind fun
 r=>some r).bind fun (ov:List Int)=>(iA (fun (s:Int×List Int)=>bif ltM s.1 (lenM ov) then (oA s.1 (lenM ov)).bind fun r_2=>(gA ov
 s.1).bind fun r_3=>(oA r_3 (lenM x.2.2.2.2.2.2.2)).bind fun r_4=>(gA x.2.2.2.2.2.2.2 r_3).bind fun r_5=>(bif PE.andM (eqM s.1 (wrap IntKind.i64
 (lenM ov-1))) (leM 0 x.2.1) then (pA r_5.2 0 (min x.2.1 (lenM r_5.2))).bind fun r=>some (r_5.1,r) else some (r_5.1,r_5.2)).bind fun o_1=>(oA
 o_1.1 (lenM s.2)).bind fun r_6=>(putM s.2 o_1.1 (byteI o_1.2)).bind fun r=>some (Sum.inl (wrap .i64 (s.1+1),r)) else some (Sum.inr s.2)) (0,
 x.2.2.2.2.2.1)).bind fun o_1=>(pA (zerosL x.2.2.2.2.2.2.2 (0,[])) 0 0).bind fun r=>some (0,false,0,o_1,gK x.2.2.2.2.2.2.1 o_1,r)
theorem cp13:PSpecOK Tryz.prog 13 ⟨pa13,po13,pk13,[1],m13⟩ :=
 eG (own:=[5000000]) (an:=an13) (n:=400) tabs12OK (F:=OPS) OPS_sound OPS_nice (f:=13) (fn:=Tryz.f13) (code:=Tryz.f13.body.getD .skip) (by kernel_rfl) (by kernel_rfl) (by kernel_rfl) (by kernel_rfl) fun G w0 x=>by kernel_rfl
def tabs13:Tabs:=Tabs.addP tabs12 13 ⟨pa13,po13,pk13,[1],m13⟩
theorem tabs13OK:TabOK Tryz.prog tabs13:=TabOK.addP tabs12OK cp13

/-! (*putlog/journal.Journal).Records -/
def pa15:List SR:=[.c (.h 1)]
def po15:List SO:=[.opt [.h 2,.d (.d .str),.d (.d tI),.h 3,.d (.d .bool)],.arr .str,.opt [.d (.d .bool),.d (.d tI),.h 4,.h 5,.h 6],.arr (.int .u8),.arr (.int .u8),.arr (.pair tI .str)]
def pk15:Skel:=⟨[(1000000,.r (.c (.h 7)))],[],[],[.arr .str]⟩
def an15:Ann:=.a
def m15:(Bool×List UInt8×Int×Bool×List (List UInt8)×Bool×Bool×Int×List Int×List Int×List (Int×List UInt8))→Option (List (List UInt8)) :=
 fun x=>((cC x.1).bind fun (x_1:Unit)=>(cC x.2.2.2.2.2.1).bind fun (x:Unit)=>some ()).bind fun (x_1:Unit)=>(mo47 x.2.2.2.2.1).bind fun r =>
 some r
theorem cp15:PSpecOK Tryz.prog 15 ⟨pa15,po15,pk15,[1,3],m15⟩ :=
 eG (own:=[5000000]) (an:=an15) (n:=400) tabs13OK (F:=OPS) OPS_sound OPS_nice (f:=15) (fn:=Tryz.f15) (code:=Tryz.f15.body.getD .skip) (by kernel_rfl) (by kernel_rfl) (by kernel_rfl) (by kernel_rfl) fun G w0 x=>by kernel_rfl
def tabs15:Tabs:=Tabs.addP tabs13 15 ⟨pa15,po15,pk15,[1,3],m15⟩
theorem tabs15OK:TabOK Tryz.prog tabs15:=TabOK.addP tabs13OK cp15

/-! putlog/putloglaw39.ArchiveCrashes -/
def as3:List Ty:=[(.list (.pair tI tC)),tI,tL,tI]
def rs3:List Ty:=[.bool]
def an3:Ann:=.seq (.a) (.seq (.a) (.seq (.a) (.seq (.a) (.seq (.a) (.seq (.reg [] [] [.k [2,3,4,5],z0,z0,z0,z0,z0] (.ct (.a))) (.seq (.reg [] [] [z0,.k [2,3,4,5,7,8,9],z0,z0,z0,z0,z0] (.ct (.a))) (.seq (.a) (.seq (.seq (.reg [] [] [z0,z0,z0,z0,z0,z0,z0,z0,.k [2,3,4,9],z0] (.ct (.a))) (.a)) (.seq (.a) (.seq (.seq (.a) (.block (.loop ⟨[(16,.r (.c (.d (.d tI)))),(17,.r (.c (.d (.d tI))))],(18::19::ra 69 23 ([])),[(2,.box [.d (.d .bool),.d (.d tI),.h 3,.h 4,.h 11]),(3,.arr (.int .u8)),(4,.arr (.int .u8)),(7,.opt [.h 12,.d (.d .str),.d (.d tI),.h 2,.d (.d .bool)]),(8,.gone),(9,.gone)],[.arr (.pair tI .str),.arr .str]⟩ [(.exit 0,⟨[(16,.r (.c (.d (.d tI))))],(17::18::19::ra 69 23 ([])),[(2,.box [.d (.d .bool),.d (.d tI),.h 3,.h 4,.h 11]),(3,.arr (.int .u8)),(4,.arr (.int .u8)),(7,.opt [.h 12,.d (.d .str),.d (.d tI),.h 2,.d (.d .bool)]),(8,.gone),(9,.gone)],[.arr (.pair tI .str),.arr .str]⟩),(.ret,⟨[(8,.r (.c (.d (.d .bool))))],(16::17::18::19::ra 69 23 ([])),[(2,.box [.d (.d .bool),.d (.d tI),.h 3,.h 4,.h 11]),(3,.arr (.int .u8)),(4,.arr (.int .u8)),(7,.opt [.h 12,.d (.d .str),.d (.d tI),.h 2,.d (.d .bool)]),(8,.gone),(9,.gone)],[.arr (.pair tI .str),.arr .str]⟩)] (.seq (.a) (.seq (.block (.seq (.a) (.seq (.a) (.seq (.seq (.reg [] [] [z0,z0,z0,.k [7,12,2,3,4,11,14,15],z0] (.ct (.a))) (.a)) (.a))))) (.a)))))) (.seq (.seq (.reg [] [] [z0,z0,z0,.k [2,3,4,11,14],z0] (.ct (.a))) (.a)) (.seq (.reg [] [] [z0,.k [2,3,4,14,16,17,18],z0,z0,z0,z0,z0] (.ct (.a))) (.seq (.a) (.seq (.reg [] [] [z0,.k [16,17,2,3,4,18,20],.s [20] [20],z0,z0,z0,.s [] [21],.s [21] [21],z0] (.ct (.a))) (.seq (.a) (.seq (.seq (.a) (.block (.loop ⟨[(24,.r (.c (.d (.d tI))))],(25::26::ra 131 25 ([])),[],[]⟩ [(.exit 2,⟨[],(24::25::26::ra 131 25 ([])),[],[]⟩),(.ret,⟨[(8,.r (.c (.d (.d .bool))))],(24::25::26::ra 131 25 ([])),[],[]⟩)] (.seq (.a) (.seq (.block (.seq (.reg [0,0,0,6,14,31,63,127,127,0,767,2047] (ra 0 12 ([])) (.s [21] []::za 8 (.s [] [22]::.s [22] [22]::z0::[])) (.a)) (.a))) (.a)))))) (.a)))))))))))))))))
def m3:((List (Int×Int×Int×Int×Int×Int))×Int×List Int×Int)→Option (Bool) :=
 fun x=>(m4 ()).bind fun r=>bif PE.notM r then some false else (m5 x.1).bind fun r_1=>(m6 r_1).bind fun r_2=>(m7 8192).bind fun r_3=>(m8 (r_3.2.1,
 r_3.2.2.1,r_3.2.2.2.1,r_3.2.2.2.2.1,r_3.2.2.2.2.2.1,r_3.2.2.2.2.2.2)).bind fun r_4=>bif PE.orM (PE.orM (PE.orM (PE.notM (eqM r_3.1 0)) (PE.notM (eqM
 r_4.1 0))) false) r_4.2.2.2.2.2.1 then some false else (m10 (x.2.1,wrap .i64 (wrap .i64 (2*lenM r_1)+2))).bind fun r_5=>(m9 (wrap
 IntKind.i64 (1+r_5),false,r_4.2.1,r_4.2.2.1,r_4.2.2.2.1,r_4.2.2.2.2.1,r_4.2.2.2.2.2.2.2.2.2.2)).bind fun r_6=>bif PE.notM (eqM r_6.1 0) then some
 false else (iA (fun (s:Int×Int×Bool×Int×List Int×List Int×Bool×List UInt8×Int×Bool×List (Int×List UInt8)×List (List UInt8)) =>
 bif ltM s.2.1 (lenM r_1) then (gA r_1 s.2.1).bind fun r_7=>(m11 (r_7.1,r_7.2.1,r_7.2.2.1,r_7.2.2.2.1,r_7.2.2.2.2.1,r_7.2.2.2.2.2.1,
 r_7.2.2.2.2.2.2.1,r_7.2.2.2.2.2.2.2.1,r_7.2.2.2.2.2.2.2.2)).bind fun r=>bif PE.notM (eqM r.2 0) then some (Sum.inr (Sum.inr (false,s.2.2.1,s.2.2.2.1,
 s.2.2.2.2.1,s.2.2.2.2.2.1,s.2.2.2.2.2.2.1,s.2.2.2.2.2.2.2.1,s.2.2.2.2.2.2.2.2.1,s.2.2.2.2.2.2.2.2.2.1,s.2.2.2.2.2.2.2.2.2.2.1,
 s.2.2.2.2.2.2.2.2.2.2.2))) else (m12 ([r.1],s.2.2.2.2.2.2.1,s.2.2.2.2.2.2.2.1,s.2.2.2.2.2.2.2.2.1,s.2.2.2.2.2.2.2.2.2.1,s.2.2.2.2.2.2.2.2.2.2.2,false,
 s.2.2.1,s.2.2.2.1,s.2.2.2.2.1,s.2.2.2.2.2.1,s.2.2.2.2.2.2.2.2.2.2.1)).bind fun r=>bif PE.notM (eqM r.1 0) then some (Sum.inr (Sum.inl (s.1,
 r.2.2.2.2.2.1,r.2.2.2.2.2.2.1,r.2.2.2.2.2.2.2.1,r.2.2.2.2.2.2.2.2.1,r.2.1,r.2.2.1,r.2.2.2.1,r.2.2.2.2.1,r.2.2.2.2.2.2.2.2.2.2,
 r.2.2.2.2.2.2.2.2.2.1))) else some (Sum.inl (wrap .i64 (s.1+1),wrap .i64 (s.2.1+1),r.2.2.2.2.2.1,r.2.2.2.2.2.2.1,r.2.2.2.2.2.2.2.1,
 r.2.2.2.2.2.2.2.2.1,r.2.1,r.2.2.1,r.2.2.2.1,r.2.2.2.2.1,r.2.2.2.2.2.2.2.2.2.2,r.2.2.2.2.2.2.2.2.2.1)) else some (Sum.inr (Sum.inl (s.1,s.2.2.1,
 s.2.2.2.1,s.2.2.2.2.1,s.2.2.2.2.2.1,s.2.2.2.2.2.2.1,s.2.2.2.2.2.2.2.1,s.2.2.2.2.2.2.2.2.1,s.2.2.2.2.2.2.2.2.2.1,s.2.2.2.2.2.2.2.2.2.2.1,
 s.2.2.2.2.2.2.2.2.2.2.2)))) (0,0,r_6.2.1,r_6.2.2,r_4.2.2.2.1,r_4.2.2.2.2.1,r_4.2.2.2.2.2.1,r_4.2.2.2.2.2.2.1,r_4.2.2.2.2.2.2.2.1,
 r_4.2.2.2.2.2.2.2.2.1,r_4.2.2.2.2.2.2.2.2.2.2,r_4.2.2.2.2.2.2.2.2.2.1)).bind fun o=>Sum.elim (fun (t:Int×Bool×Int×List Int×List Int×Bool ×
 List UInt8×Int×Bool×List (Int×List UInt8)×List (List UInt8))=>(m13 (x.2.2.1,x.2.2.2,false,t.2.1,t.2.2.1,t.2.2.2.1,t.2.2.2.2.1,
 t.2.2.2.2.2.2.2.2.2.1)).bind fun r_7=>bif PE.notM (eqM r_7.1 0) then some false else (m8 (false,r_7.2.1,r_7.2.2.1,r_7.2.2.2.1,r_7.2.2.2.2.1,
 r_7.2.2.2.2.2)).bind fun r_8=>bif PE.orM (PE.notM (eqM r_8.1 0)) r_8.2.2.2.2.2.1 then some false else (m15 (r_8.2.2.2.2.2.1,r_8.2.2.2.2.2.2.1,
 r_8.2.2.2.2.2.2.2.1,r_8.2.2.2.2.2.2.2.2.1,r_8.2.2.2.2.2.2.2.2.2.1,false,r_8.2.1,r_8.2.2.1,r_8.2.2.2.1,r_8.2.2.2.2.1,r_8.2.2.2.2.2.2.2.2.2.2)).bind fun
 r_9=>(m14 r_9).bind fun r_10=>bif PE.orM (PE.orM (PE.notM (eqM r_10.2 0)) (ltM (lenM r_10.1) t.1)) (ltM (wrap .i64 (t.1+1)) (lenM r_10.1)) then
 some false else (iA (fun (s:Int)=>bif ltM s t.1 then (gA r_1 s).bind fun r_11=>(m16 (r_10.1,r_11.1,r_11.2.1,r_11.2.2.1,r_11.2.2.2.1,
 r_11.2.2.2.2.1,r_11.2.2.2.2.2.1,r_11.2.2.2.2.2.2.1,r_11.2.2.2.2.2.2.2.1,r_11.2.2.2.2.2.2.2.2)).bind fun r=>bif PE.orM (PE.notM (eqM r.2 0)) (PE.notM
 (eqM (lenM r.1) (lenM r_10.1))) then some (Sum.inr (Sum.inr false)) else some (Sum.inl (wrap .i64 (s+1))) else some (Sum.inr (Sum.inl ()))) 0).bind
 fun o=>Sum.elim (fun (t_1:Unit)=>(m17 (r_10.1,r_2)).bind fun r_11=>(bif eqM r_11.2 0 then m18 (r_11.1,r_2) else some false).bind fun r=>some
 (PE.andM (eqM r_11.2 0) r)) (fun (t:Bool)=>some t) o) (fun (t:Bool×Bool×Int×List Int×List Int×Bool×List UInt8×Int×Bool×List (Int ×
 List UInt8)×List (List UInt8))=>some t.1) o
theorem c3:SpecOK Tryz.prog 3 ⟨as3,rs3,m3⟩ :=
 fc tabs15OK [] an3 Tryz.f3 fun x=>by kernel_rfl
def tabs3:Tabs:=Tabs.add tabs15 3 ⟨as3,rs3,m3⟩
theorem tabs3OK:TabOK Tryz.prog tabs3:=TabOK.add tabs15OK c3 Tryz.call3
end
end Go.Proofs.YtdjfiampkhfooaaGreatDoor

namespace Go.Proofs.YtdjfiampkhfooaaGreatDoor
open Go Go.Lib Go.Abs Go.PE Go.Ar
variable [EA]
theorem mI (a b:Nat):uA .xor .u32 (a:Int) (b:Int)=((xW a b:Nat):Int):=by
 unfold uA xW mW
 dsimp only
 rw [BitVec.toNat_xor,bv32,bv32]
 have:=Nat.xor_lt_two_pow (n:=32) (x:=a % 4294967296) (y:=b % 4294967296) (Nat.mod_lt _ (by decide)) (Nat.mod_lt _ (by decide))
 exact wu32_in (by omega) (by omega)
theorem andI (a b:Nat):uA .and .u32 (a:Int) (b:Int)=((aW a b:Nat):Int):=by
 unfold uA aW mW
 dsimp only
 rw [BitVec.toNat_and,bv32,bv32]
 have:=Nat.and_lt_two_pow (n:=32) (a % 4294967296) (y:=b % 4294967296) (Nat.mod_lt _ (by decide))
 exact wu32_in (by omega) (by omega)
theorem orI (a b:Nat):uA .or .u32 (a:Int) (b:Int)=((oW a b:Nat):Int):=by
 unfold uA oW mW
 dsimp only
 rw [BitVec.toNat_or,bv32,bv32]
 have:=Nat.or_lt_two_pow (n:=32) (x:=a % 4294967296) (y:=b % 4294967296) (Nat.mod_lt _ (by decide)) (Nat.mod_lt _ (by decide))
 exact wu32_in (by omega) (by omega)
theorem cplI (a:Nat):cplM .u32 (a:Int)=((xW 4294967295 a:Nat):Int):=by
 unfold cplM
 rw [show (if IntKind.u32.signed then (-1:Int) else IntKind.u32.max)=((4294967295:Nat):Int) by decide,mI]
theorem wrapI (a:Nat):IntKind.wrap .u32 (a:Int)=((mW a:Nat):Int):=by rw [wu32];rfl
theorem zF (a b:Nat):IntKind.wrap .u32 ((a:Int)+(b:Int))=((mW (a+b):Nat):Int):=by rw [wu32];rfl
theorem shlI (a:Nat) {n:Int} (k:Nat) (e:n=k) (h:k≤32):qI .u32 (a:Int) n=some ((shl a k:Nat):Int):=by
 subst e
 rw [shlM_of (k:=.u32) h,wu32]
 unfold shl mW
 congr 1
theorem shrI {k:IntKind} (a:Nat) {n:Int} (j:Nat) (e:n=j) (h:j≤k.bits):rG k (a:Int) n=some ((shr a j:Nat):Int):=by
 subst e
 rw [shrM_of h]
 unfold shr
 have:((2:Int) ^ j)=((2 ^ j:Nat):Int):=by rw [Int.natCast_pow];rfl
 rw [this,fdiv_nat]
theorem oW_comm (a b:Nat):oW a b=oW b a:=Nat.or_comm _ _
theorem xW_zero (a b:Nat):xW (xW 0 a) b=xW a b:=by
 unfold xW mW
 rw [Nat.zero_mod,Nat.zero_xor,Nat.mod_mod]
theorem vA {σ β:Type} {body:σ→Option (σ⊕β)} {s:σ} (g:Nat→σ) (n:Nat) {r:β} (hs:s=g 0) (h:∀ k,k<n→body (g k)=some (.inl (g (k+1)))) (he:body (g n)=some (.inr r)):iA body s=some r:=by
 subst hs;exact zH g n h he
theorem vK (a b:Nat) (hb:0<b):remM (a:Int) (b:Int)=some ((a % b:Nat):Int):=by rw [remM_of (by omega) (by omega)];rfl
theorem ofNat_mod (n:Nat):UInt8.ofNat ((n:Int) % 256).toNat=UInt8.ofNat n:=by
 rw [show ((n:Int) % 256).toNat=n % 256 by omega]
 apply u8eq;simp
theorem neg31:∀ k:Fin 32,0<k.val→uA .and .u64 (IntKind.wrap .u64 (IntKind.wrap .i64 (negM (k.val:Int)))) 31=((32-k.val:Nat):Int)∧IntKind.wrap .u64 (32-((32-k.val:Nat):Int))=(k.val:Int):=by decide +kernel
theorem mixed_ok (x:Nat) {l:List Nat} (hl:∀ n∈l,0<n∧n<32) (hn:l.length≤10):m192 ((x:Int),l.map fun n:Nat=>(n:Int))=some ((l.foldl (fun o n=>xW o (rot x n)) 0:Nat):Int):=by
 unfold m192
 dsimp only
 refine eA (zH (fun k=>((((l.take k).foldl (fun o n=>xW o (rot x n)) 0:Nat):Int),(k:Int))) l.length (r:=((l.foldl (fun o n=>xW o (rot x n)) 0:Nat):Int)) (fun k hk=>?_) ?_) rfl
 ·dsimp only
  obtain ⟨h0,h1⟩:=hl l[k] (by simp)
  obtain ⟨e1,e2⟩:=neg31 ⟨l[k],h1⟩ h0
  dsimp only at e1 e2
  rw [mA,ltI (by simp;omega),cT,eC,List.getElem?_map,gE hk,Option.map_some,oB,e1,shlI x (32-l[k]) rfl (by omega),oB,e2,shrI x l[k] rfl (by show l[k]≤32;omega),oB,orI,mI,fA (by omega) (by omega),List.take_add_one,gE hk,Option.toList_some,List.foldl_append,oW_comm]
  rfl
 ·dsimp only
  rw [mA,geI (by simp),cF,List.take_length]
theorem mixed2 (x n m:Nat) (h1:0<n∧n<32) (h2:0<m∧m<32):m192 ((x:Int),[(n:Int),(m:Int)])=some ((xW (rot x n) (rot x m):Nat):Int):=by
 have:=mixed_ok x (l:=[n,m]) (by simp [h1,h2]) (by simp)
 simp only [List.map_cons,List.map_nil,List.foldl_cons,List.foldl_nil,xW_zero] at this
 exact this
theorem mixed3 (x n m k:Nat) (h1:0<n∧n<32) (h2:0<m∧m<32) (h3:0<k∧k<32):m192 ((x:Int),[(n:Int),(m:Int),(k:Int)])=some ((xW (xW (rot x n) (rot x m)) (rot x k):Nat):Int):=by
 have:=mixed_ok x (l:=[n,m,k]) (by simp [h1,h2,h3]) (by simp)
 simp only [List.map_cons,List.map_nil,List.foldl_cons,List.foldl_nil,xW_zero] at this
 exact this
theorem rot_ok (x n:Nat) (h:n<32):m170 ((x:Int),(n:Int))=some ((rot x n:Nat):Int):=by
 unfold m170
 dsimp only
 rw [shrI x n rfl (by show n≤32;omega),oB,fA (by omega) (by omega),shlI x (32-n) (by omega) (by omega),oB,orI]
 rfl
abbrev iL (l:List Nat):List Int:=l.map fun n:Nat=>(n:Int)
theorem dG (l:List Nat):(iL l).length=l.length:=by simp
theorem uD {l:List Nat} {i:Nat} (h:i<l.length):gA (iL l) (i:Int)=some ((l.getD i 0:Nat):Int):=by
 rw [eC,List.getElem?_map,gE h];simp [h]
theorem z01 (i:Int):((nat_lit 0:Nat):Int)+i*((nat_lit 1:Nat):Int)=i:=by show 0+i*1=i;omega
theorem set_next {l:List Nat} {k n y:Nat} (h:l.length=k):(l++List.replicate (n+1) 0).set k y=(l++[y])++List.replicate n 0:=by
 subst h
 rw [List.set_append_right _ _ (nR _),Nat.sub_self,List.replicate_succ,List.set_cons_zero,aA];rfl
theorem iL_set {l:List Nat} {j:Int} (i:Nat) (e:j=i) (h:i<l.length) {f:Int→Option Int} {y:Nat} (hf:∀ x,f x=some (y:Int)):wE (iL l) j f=some (iL (l.set i y)):=by
 subst e
 rw [setM_of (by omega) (by rw [dG];omega) (hf _)]
 simp [iL]
theorem iL_slice {l:List Nat} {i j:Int} (a b:Nat) (ei:i=a) (ej:j=b) (h:a≤b) (hb:b≤l.length):pA (iL l) i j=some (iL ((l.drop a).take (b-a))):=by
 subst ei;subst ej
 rw [fB (by omega) (by omega) (by rw [dG];omega),Int.toNat_natCast,Int.toNat_natCast,List.drop_take,iL,← List.map_drop,← List.map_take]
theorem getD_app {l m:List Nat} {i:Nat} (h:i<l.length):(l++m).getD i 0=l.getD i 0:=by
 rw [List.getD_eq_getElem?_getD,xL h,← List.getD_eq_getElem?_getD]
theorem wMore_succ:∀ (j:Nat) (w:List Nat),pC (j+1) w=pC j w++[wNext (pC j w)]
 | 0,w=>rfl
 | j+1,w=>by
  rw [pC,wMore_succ j,← pC]
theorem nK:∀ (j:Nat) (w:List Nat),(pC j w).length=w.length+j
 | 0,w=>rfl
 | j+1,w=>by rw [pC,nK j];simp;omega
theorem w16_succ (b:List Nat) (k:Nat):(List.range (k+1)).map (w4 b)=(List.range k).map (w4 b)++[w4 b k]:=by rw [List.range_succ,List.map_append];rfl
theorem rnds_take {l:List (Nat×Nat)} {k:Nat} (hk:k<l.length) (v:List Nat):(l.take (k+1)).foldl rnd v=rnd ((l.take k).foldl rnd v) l[k]:=by
 rw [List.take_add_one,gE hk,Option.toList_some,List.foldl_append];rfl
theorem eight {v:List Nat} (h:v.length=8):∃ a b c d e f g i,v=[a,b,c,d,e,f,g,i]:=by
 match v,h with
 | [a,b,c,d,e,f,g,i],_=>exact ⟨a,b,c,d,e,f,g,i,rfl⟩
variable [EA]
set_option maxRecDepth 100000
def bH (b h:List Nat) (k:Nat):List Nat:=((kSha.zip (oJ b)).take k).foldl rnd h
theorem uH (b:List Nat):(oJ b).length=64:=by unfold oJ;rw [nK];simp
theorem kz_len (b:List Nat):(kSha.zip (oJ b)).length=64:=by rw [List.length_zip,uH];rfl
theorem kz_get (b:List Nat) {k:Nat} (h:k<64):(kSha.zip (oJ b))[k]'(by rw [kz_len];exact h)=(kSha.getD k 0,(oJ b).getD k 0):=by
 rw [List.getElem_zip]
 simp [List.getD_eq_getElem?_getD,gE (show k<kSha.length from h),gE (show k<(oJ b).length by rw [uH];exact h)]
theorem uK (b:List Nat) {h:List Nat} (hh:h.length=8) (k:Nat):(bH b h k).length=8:=rnds_len _ _ hh
theorem rndsN_succ (b h:List Nat) {k:Nat} (hk:k<64):bH b h (k+1)=rnd (bH b h k) (kSha.getD k 0,(oJ b).getD k 0):=by
 unfold bH
 rw [rnds_take (by rw [kz_len];exact hk),kz_get b hk]
theorem blk_eq (h b:List Nat):blk h b=List.zipWith (fun x y=>mW (x+y)) h (bH b h 64):=by
 unfold blk bH
 rw [tkL (by rw [kz_len];exact nR _)]
theorem idx64 {o:List Int} {i:Int} (h:o.length=64):gA ((List.range 64).map fun k=>qA o k 0) i=gA o i:=by
 congr 1
 apply List.ext_getElem?
 intro k
 by_cases hk:k<64
 ·rw [List.getElem?_map,List.getElem?_range hk,gE (by omega)]
  unfold qA
  simp [List.getD_eq_getElem?_getD,gE (show k<o.length by omega)]
 ·rw [List.getElem?_eq_none (by simp;omega),List.getElem?_eq_none (by omega)]
theorem nth8 {h:List Nat} (hh:h.length=8):[qA (iL h) (nat_lit 0) 0,qA (iL h) (nat_lit 1) 0,qA (iL h) (nat_lit 2) 0,qA (iL h) (nat_lit 3) 0,qA (iL h) (nat_lit 4) 0,qA (iL h) (nat_lit 5) 0,qA (iL h) (nat_lit 6) 0,qA (iL h) (nat_lit 7) 0]=iL h:=by
 obtain ⟨a,b,c,d,e,f,g,i,rfl⟩:=eight hh
 rfl
theorem wk (i:Int) {j:Int} (h1:0≤j) (h2:j≤1000) (e:j=i):IntKind.wrap .i64 i=j:=by rw [fA (by omega) (by omega),e]
theorem digest_ok {h:List Nat} (hh:h.length=8):m157 (qA (iL h) (nat_lit 0) 0,qA (iL h) (nat_lit 1) 0,qA (iL h) (nat_lit 2) 0,qA (iL h) (nat_lit 3) 0,qA (iL h) (nat_lit 4) 0,qA (iL h) (nat_lit 5) 0,qA (iL h) (nat_lit 6) 0,qA (iL h) (nat_lit 7) 0)=some (wBytes h):=by
 unfold m157
 dsimp only
 rw [nth8 hh]
 let B:Nat→List Nat:=fun x=>[shr x 24 % 256,shr x 16 % 256,shr x 8 % 256,x % 256]
 have hB:∀ l:List Nat,(l.flatMap B).length=4*l.length:=fun l=>by
  induction l with
  | nil=>rfl
  | cons a l ih=>rw [List.flatMap_cons,lA,ih];simp [B];omega
 refine eA (zH (fun k=>((k:Int),iL ((h.take k).flatMap B++List.replicate (32-4*k) 0))) 8 (r:=iL (h.flatMap B)) (fun k hk=>?_) ?_) ?_
 ·dsimp only
  have hP:((h.take k).flatMap B).length=4*k:=by rw [hB,lT];omega
  generalize hp:(h.take k).flatMap B=P at hP
  rw [ltI (by omega),cT,uD (by omega),oB]
  generalize hx:h.getD k 0=x
  refine eA (vA (fun j=>((j:Int),iL (P++(B x).take j++List.replicate (32-4*k-j) 0))) 4 (by simp) (r:=iL (P++B x++List.replicate (32-4*k-4) 0)) (fun j hj=>?_) ?_) ?_
  ·dsimp only
   rw [ltI (by omega),cT,wk (8*(j:Int)) (j:=8*(j:Int)) (by omega) (by omega) rfl,wk (24-8*(j:Int)) (j:=((24-8*j:Nat):Int)) (by omega) (by omega) (by omega),shrI x (24-8*j) rfl (by show _≤32;omega),oB,wk (4*(k:Int)) (j:=4*(k:Int)) (by omega) (by omega) rfl,wk (4*(k:Int)+(j:Int)) (j:=((4*k+j:Nat):Int)) (by omega) (by omega) (by omega),bB (by omega) (by show ((4*k+j:Nat):Int)<32;omega),oB,z01]
   have hT:(P++(B x).take j).length=4*k+j:=by rw [lA,hP,lT];simp [B];omega
   rw [iL_set (4*k+j) rfl (by rw [lA,hT,List.length_replicate];omega) (y:=shr x (24-8*j) % 256) (fun _=>by rw [wu8];rfl),oB,wk ((j:Int)+1) (j:=((j+1:Nat):Int)) (by omega) (by omega) (by omega)]
   obtain ⟨m,hm⟩:∃ m,32-4*k-j=m+1:=⟨32-4*k-j-1,by omega⟩
   rw [hm,set_next hT,show 32-4*k-(j+1)=m by omega]
   have e:(B x).take j++[shr x (24-8*j) % 256]=(B x).take (j+1):=by
    match j,hj with
    | 0,_=>rfl
    | 1,_=>rfl
    | 2,_=>rfl
    | 3,_=>show _=B x;simp [B,shr]
   rw [aA P,e]
  ·dsimp only
   rw [geI (by omega),cF]
   rfl
  ·rw [wk ((k:Int)+1) (j:=((k+1:Nat):Int)) (by omega) (by omega) (by omega),List.take_add_one,gE (show k<h.length by omega),Option.toList_some,List.flatMap_append,hp]
   have:h[k]'(by omega)=x:=by rw [← hx,List.getD_eq_getElem?_getD,gE (by omega)];rfl
   rw [this,show 32-4*k-4=32-4*(k+1) by omega]
   simp only [List.flatMap_cons,List.flatMap_nil,List.append_nil]
 ·dsimp only
  rw [geI (by omega),cF,tkL (by omega)]
  simp
 ·have e:rC (iL (h.flatMap B)) (nat_lit 0) (nat_lit 32)=iL (h.flatMap B):=by
   show ((iL (h.flatMap B)).drop 0).take 32=_
   rw [List.drop_zero,tkL (by rw [dG,hB];omega)]
  rw [e]
  unfold oC wBytes iL
  rw [List.map_map]
  congr 1
  rw [List.map_flatMap]
  congr 1
  funext x
  simp [B,ofNat_mod]
variable [EA]
set_option maxRecDepth 100000
theorem blks_succ:∀ (k:Nat) (h b:List Nat),kK (k+1) h b=blk (kK k h b) ((b.drop (64*k)).take 64)
 | 0,h,b=>by simp [kK]
 | k+1,h,b=>by
  rw [kK,blks_succ k,← kK,List.drop_drop]
  congr 3
  omega
theorem nZ_lt {L k:Nat} (h:k<nZ L):(L+1+k) % 64≠56:=by unfold nZ at h;omega
theorem nZ_eq (L:Nat):(L+1+nZ L) % 64=56:=by unfold nZ;omega
theorem nZ_le (L:Nat):nZ L≤63:=by unfold nZ;omega
theorem pad_len (b:List Nat):(pad b).length=b.length+1+nZ b.length+8:=by unfold pad;simp;omega
theorem bytes_of (s:Bs):(s.map fun b=>(b.toNat:Int))=iL (s.map UInt8.toNat):=by rw [iL,List.map_map];rfl
theorem tH {l:List Nat} {c:Nat} {y:Nat} {d:Int} (e:d=y) (hc:c≤8) (h:l.length≤1000000):eB c (iL l) [d]=some (iL (l++[y])):=by
 subst e
 rw [aC]
 ·simp [iL]
 ·rw [dG]
  have:(l.length+[(y:Int)].length)*c≤(l.length+[(y:Int)].length)*8:=Nat.mul_le_mul_left _ hc
  simp only [List.length_singleton] at *
  omega
theorem w4_ok {b:List Nat} (hb:b.length=64) {k:Nat} (hk:k<16) {β:Type} {f:Int→Option β} {r:β} (h:f ((w4 b k:Nat):Int)=some r) :
  ((gA (iL b) (IntKind.wrap .i64 (4*(k:Int)))).bind fun r_4=>(qI .u32 (IntKind.wrap .u32 r_4) 24).bind fun r_5=>(gA (iL b) (IntKind.wrap .i64 (IntKind.wrap .i64 (4*(k:Int))+1))).bind fun r_6=>(qI .u32 (IntKind.wrap .u32 r_6) 16).bind fun r_7=>(gA (iL b) (IntKind.wrap .i64 (IntKind.wrap .i64 (4*(k:Int))+2))).bind fun r_8=>(qI .u32 (IntKind.wrap .u32 r_8) 8).bind fun r_9=>(gA (iL b) (IntKind.wrap .i64 (IntKind.wrap .i64 (4*(k:Int))+3))).bind fun r_10=>f (uA BinOp.or .u32 (uA BinOp.or .u32 (uA BinOp.or .u32 r_5 r_7) r_9) (IntKind.wrap .u32 r_10)))=some r:=by
 rw [wk (4*(k:Int)) (j:=((4*k:Nat):Int)) (by omega) (by omega) (by omega),uD (by omega),oB,wrapI,shlI (n:=24) _ 24 rfl (by omega),oB,
  wk (((4*k:Nat):Int)+1) (j:=((4*k+1:Nat):Int)) (by omega) (by omega) (by omega),uD (by omega),oB,wrapI,shlI (n:=16) _ 16 rfl (by omega),oB,
  wk (((4*k:Nat):Int)+2) (j:=((4*k+2:Nat):Int)) (by omega) (by omega) (by omega),uD (by omega),oB,wrapI,shlI (n:=8) _ 8 rfl (by omega),oB,
  wk (((4*k:Nat):Int)+3) (j:=((4*k+3:Nat):Int)) (by omega) (by omega) (by omega),uD (by omega),oB,wrapI,orI,orI,orI]
 exact h
theorem wSum_ok {s:Bs} (hs:s.length≤900000):m117 s=some (sha s):=by
 unfold m117
 generalize hb0:s.map UInt8.toNat=b0
 have hL:b0.length=s.length:=by rw [← hb0];simp
 refine eA (x:=iL b0) (by unfold bytesM;rw [Nat.ble_eq_true_of_le (by omega),bytes_of,hb0]) ?_
 refine eA (x:=iL (b0++[128])) (tH rfl (by decide) (by omega)) ?_
 refine eA (x:=iL (b0++[128]++List.replicate (nZ b0.length) 0)) (vA (fun k=>iL (b0++[128]++List.replicate k 0)) (nZ b0.length) (by simp) (fun k hk=>?_) ?_) ?_
 ·have hz:=nZ_le b0.length
  have hl:lenM (iL (b0++[128]++List.replicate k 0))=((b0.length+1+k:Nat):Int):=by rw [mA];simp;omega
  have:=nZ_lt hk
  dsimp only
  rw [hl,show (64:Int)=((64:Nat):Int) from rfl,vK _ _ (by decide),oB,neI (by omega),xA,cT,tH (d:=0) (c:=nat_lit 1) (y:=0) rfl (by decide) (by simp;omega),oB,aA _ _ [0],List.replicate_succ']
 ·have hl:lenM (iL (b0++[128]++List.replicate (nZ b0.length) 0))=((b0.length+1+nZ b0.length:Nat):Int):=by rw [mA];simp;omega
  have:=nZ_eq b0.length
  dsimp only
  rw [hl,show (64:Int)=((64:Nat):Int) from rfl,vK _ _ (by decide),oB,eqI (by omega),sA,cF]
 generalize hP:b0++[128]++List.replicate (nZ b0.length) 0=P
 have hPl:P.length=b0.length+1+nZ b0.length:=by rw [← hP];simp;omega
 have hz:=nZ_le b0.length
 refine eA (x:=iL (P++(List.range 8).map fun i=>shr (8*b0.length) (8*(7-i)) % 256)) (vA (fun k=>((7:Int)-(k:Int),iL (P++(List.range k).map fun i=>shr (8*b0.length) (8*(7-i)) % 256))) 8 (by simp) (fun k hk=>?_) ?_) ?_
 ·dsimp only
  rw [leI (by omega),cT,mA,← hL,fA (n:=8*(b0.length:Int)) (by omega) (by omega),show 8*(b0.length:Int)=((8*b0.length:Nat):Int) by omega,wk (8*(7-(k:Int))) (j:=((8*(7-k):Nat):Int)) (by omega) (by omega) (by omega),shrI _ (8*(7-k)) rfl (by show _≤64;omega),oB,tH (y:=shr (8*b0.length) (8*(7-k)) % 256) (by rw [wu8];rfl) (by decide) (by simp;omega),oB,fA (by omega) (by omega),List.range_succ,List.map_append,aA]
  rw [show (7:Int)-(k:Int)-1=7-((k+1:Nat):Int) by omega];rfl
 ·dsimp only
  rw [gtI (by omega),cF]
 have hQ:P++(List.range 8).map (fun i=>shr (8*b0.length) (8*(7-i)) % 256)=pad b0:=by rw [← hP];unfold pad;simp
 rw [hQ]
 have hQl:=pad_len b0
 obtain ⟨n,hn⟩:∃ n,(pad b0).length=64*n:=⟨(pad b0).length / 64,by have:=nZ_eq b0.length;omega⟩
 refine eA (x:=(iL (kK n hSha (pad b0)),iL (pad b0))) (vA (fun k=>(((64*k:Nat):Int),iL (kK k hSha (pad b0)),iL (pad b0))) n rfl (fun k hk=>?_) ?_) ?_
 ·dsimp only
  have hkl:64*k+64≤(pad b0).length:=by omega
  have hb2:(pad b0).length≤1000000:=by omega
  have hdl:(iL ((pad b0).drop (64*k))).length=(pad b0).length-64*k:=by simp
  generalize hB:((pad b0).drop (64*k)).take 64=B
  have hBl:B.length=64:=by rw [← hB,lT,List.length_drop];omega
  have hvl:(kK k hSha (pad b0)).length=8:=jI k rfl
  rw [blks_succ,hB,mA,dG,ltI (by omega),cT]
  generalize kK k hSha (pad b0)=h at hvl
  refine eA (iL_slice (64*k) (pad b0).length rfl rfl (by omega) (nR _)) ?_
  rw [tkL (by simp)]
  refine eA (x:=iL B) ?_ ?_
  ·have e:IntKind.wrap .i64 (((64*k:Nat):Int)+min 64 (lenM (iL ((pad b0).drop (64*k)))))=((64*k+64:Nat):Int):=by
    rw [mA,hdl,show min (64:Int) (((pad b0).length-64*k:Nat):Int)=64 by omega,fA (by omega) (by omega)];rfl
   rw [e,sameM_self,oB,iL_slice (64*k) (64*k+64) rfl rfl (by omega) hkl,show 64*k+64-64*k=64 by omega,hB]
  refine eA (x:=iL ((List.range 16).map (w4 B)++List.replicate 48 0)) (vA (fun j=>((j:Int),iL ((List.range j).map (w4 B)++List.replicate (64-j) 0))) 16 rfl (fun j hj=>?_) ?_) ?_
  ·dsimp only
   rw [ltI (by omega),cT]
   refine w4_ok hBl hj (f:=fun w=>(oA (j:Int) ((nat_lit 64:Nat):Int)).bind fun _=>(wE (iL ((List.range j).map (w4 B)++List.replicate (64-j) 0)) (((nat_lit 0:Nat):Int)+(j:Int)*((nat_lit 1:Nat):Int)) fun _=>some w).bind fun r=>some (Sum.inl (IntKind.wrap .i64 ((j:Int)+1),r))) ?_
   dsimp only
   obtain ⟨m,hm⟩:∃ m,64-j=m+1:=⟨63-j,by omega⟩
   rw [bB (by omega) (by show (j:Int)<64;omega),oB,z01,hm,iL_set j rfl (by simp) (y:=w4 B j) (fun _=>rfl),oB,set_next (by simp),wk ((j:Int)+1) (j:=((j+1:Nat):Int)) (by omega) (by omega) (by omega),w16_succ,show 64-(j+1)=m by omega]
  ·dsimp only
   rw [geI (by omega),cF]
  generalize hW:(List.range 16).map (w4 B)=W
  have hWl:W.length=16:=by rw [← hW];simp
  refine eA (x:=iL (oJ B)) (vA (fun j=>(((16+j:Nat):Int),iL (pC j W++List.replicate (48-j) 0))) 48 rfl (fun j hj=>?_) ?_) ?_
  ·have hl:(pC j W).length=16+j:=by rw [nK,hWl]
   obtain ⟨m,hm⟩:∃ m,48-j=m+1:=⟨47-j,by omega⟩
   have hwn:wNext (pC j W)=nextW ((pC j W).getD j 0) ((pC j W).getD (j+1) 0) ((pC j W).getD (j+9) 0) ((pC j W).getD (j+14) 0):=by
    unfold wNext
    rw [hl,show 16+j-16=j by omega,show 16+j-15=j+1 by omega,show 16+j-7=j+9 by omega,show 16+j-2=j+14 by omega]
   dsimp only
   rw [wMore_succ,hwn]
   generalize pC j W=l at hl
   have A:∀ n:Nat,n<16+j→gA (iL (l++List.replicate (48-j) 0)) (n:Int)=some ((l.getD n 0:Nat):Int):=fun n hn=>by
    rw [uD (by rw [lA];omega),getD_app (by omega)]
   have C:∀ n:Nat,n<64→oA (n:Int) ((nat_lit 64:Nat):Int)=some ():=fun n hn=>bB (by omega) (by show (n:Int)<64;omega)
   rw [ltI (by omega),cT,wk (((16+j:Nat):Int)-15) (j:=((j+1:Nat):Int)) (by omega) (by omega) (by omega),C _ (by omega),oB,z01,A _ (by omega),oB,
    wk (((16+j:Nat):Int)-2) (j:=((j+14:Nat):Int)) (by omega) (by omega) (by omega),C _ (by omega),oB,z01,A _ (by omega),oB,
    wk (((16+j:Nat):Int)-16) (j:=((j:Nat):Int)) (by omega) (by omega) (by omega),C _ (by omega),oB,z01,A _ (by omega),oB]
   refine eA (mixed2 _ 7 18 (by omega) (by omega)) ?_
   refine eA (shrI _ 3 rfl (by decide)) ?_
   refine eA (x:=()) (by rw [wk (((16+j:Nat):Int)-7) (j:=((j+9:Nat):Int)) (by omega) (by omega) (by omega)];exact C _ (by omega)) ?_
   refine eA (x:=((l.getD (j+9) 0:Nat):Int)) (by rw [wk (((16+j:Nat):Int)-7) (j:=((j+9:Nat):Int)) (by omega) (by omega) (by omega),z01];exact A _ (by omega)) ?_
   refine eA (mixed2 _ 17 19 (by omega) (by omega)) ?_
   refine eA (shrI _ 10 rfl (by decide)) ?_
   refine eA (x:=()) (C _ (by omega)) ?_
   rw [mI,zF,zF,mI,zF,z01]
   refine eA (iL_set (16+j) rfl (by rw [lA,List.length_replicate];omega) (y:=nextW (l.getD j 0) (l.getD (j+1) 0) (l.getD (j+9) 0) (l.getD (j+14) 0)) (fun _=>rfl)) ?_
   rw [hm,set_next hl,wk (((16+j:Nat):Int)+1) (j:=((16+(j+1):Nat):Int)) (by omega) (by omega) (by omega),show 48-(j+1)=m by omega]
  ·dsimp only
   rw [geI (by omega),cF]
   show some (Sum.inr (iL (pC 48 W++[])))=_
   rw [List.append_nil,← hW];rfl
  refine eA (x:=iL (bH B h 64)) (vA (fun j=>((j:Int),iL (bH B h j))) 64 (by rw [nth8 hvl];rfl) (fun j hj=>?_) ?_) ?_
  ·have hk1:gA (iL kSha) (j:Int)=some ((kSha.getD j 0:Nat):Int):=uD hj
   have hk2:gA (iL (oJ B)) (((nat_lit 0:Nat):Int)+(j:Int)*((nat_lit 1:Nat):Int))=some (((oJ B).getD j 0:Nat):Int):=by rw [z01];exact uD (by rw [uH];exact hj)
   dsimp only
   rw [rndsN_succ B h hj]
   obtain ⟨a,b,c,d,e,f,g,i,hv⟩:=eight (uK B hvl j)
   rw [hv,ltI (by omega),cT]
   generalize kSha.getD j 0=kk at hk1
   generalize (oJ B).getD j 0=ww at hk2
   refine eA hk1 ?_
   refine eA (x:=(a:Int)) rfl ?_
   refine eA (x:=(e:Int)) rfl ?_
   refine eA (x:=(i:Int)) rfl ?_
   refine eA (mixed3 e 6 11 25 (by omega) (by omega) (by omega)) ?_
   refine eA (x:=(f:Int)) rfl ?_
   refine eA (x:=(g:Int)) rfl ?_
   refine eA (x:=()) (bB (by omega) (by show (j:Int)<64;omega)) ?_
   refine eA ((idx64 (by rw [dG,uH])).trans hk2) ?_
   refine eA (mixed3 a 2 13 22 (by omega) (by omega) (by omega)) ?_
   refine eA (x:=(b:Int)) rfl ?_
   refine eA (x:=(c:Int)) rfl ?_
   refine eA (x:=(b:Int)) rfl ?_
   refine eA (x:=(c:Int)) rfl ?_
   refine eA (x:=(d:Int)) rfl ?_
   refine eA (x:=[((mW (tW e f g i kk ww+uW a b c):Nat):Int),(a:Int),b,c,d,e,f,g]) ?_ ?_
   ·rw [zF,andI,cplI,andI,mI,zF,zF,zF,andI,andI,andI,mI,mI,zF,zF];rfl
   refine eA (x:=[((mW (tW e f g i kk ww+uW a b c):Nat):Int),(a:Int),b,c,((mW (d+tW e f g i kk ww):Nat):Int),e,f,g]) ?_ ?_
   ·rw [zF,andI,cplI,andI,mI,zF,zF,zF,zF];rfl
   rw [wk ((j:Int)+1) (j:=((j+1:Nat):Int)) (by omega) (by omega) (by omega)]
   rfl
  ·dsimp only
   rw [geI (by omega),cF]
  refine eA (x:=iL (blk h B)) (vA (fun j=>((j:Int),iL ((blk h B).take j++h.drop j))) 8 (by simp) (fun j hj=>?_) ?_) ?_
  ·have hr:=uK B hvl 64
   have e1:(blk h B).length=8:=blk_len hvl
   have e2:(blk h B)[j]'(by omega)=mW (h.getD j 0+(bH B h 64).getD j 0):=by
    simp only [blk_eq,List.getElem_zipWith]
    rw [List.getD_eq_getElem?_getD,List.getD_eq_getElem?_getD,gE (by omega),gE (by omega)];rfl
   have e3:h.drop j=h.getD j 0::h.drop (j+1):=by
    rw [List.drop_eq_getElem_cons (by omega),List.getD_eq_getElem?_getD,gE (by omega)];rfl
   have e4:((blk h B).take j).length=j:=by rw [lT];omega
   have C:oA (j:Int) ((nat_lit 8:Nat):Int)=some ():=bB (by omega) (by show (j:Int)<8;omega)
   dsimp only
   rw [ltI (by omega),cT]
   refine eA C ?_
   refine eA (x:=((h.getD j 0:Nat):Int)) (by
    rw [z01,uD (by rw [lA,e4,e3];simp),List.getD_eq_getElem?_getD,xR (by omega),e4,Nat.sub_self,e3];rfl) ?_
   refine eA C ?_
   refine eA (x:=(((bH B h 64).getD j 0:Nat):Int)) (by rw [z01];exact uD (by omega)) ?_
   refine eA C ?_
   refine eA (x:=iL (((blk h B).take j++h.drop j).set j (mW (h.getD j 0+(bH B h 64).getD j 0)))) (by
    rw [z01,zF];exact iL_set j rfl (by rw [lA,e4,e3];simp) (fun _=>rfl)) ?_
   rw [wk ((j:Int)+1) (j:=((j+1:Nat):Int)) (by omega) (by omega) (by omega),List.set_append_right _ _ (by omega),e4,Nat.sub_self,e3,List.set_cons_zero,List.take_add_one,gE (by omega),Option.toList_some,e2,aA]
   rfl
  ·dsimp only
   rw [geI (by omega),cF,tkL (by rw [blk_len hvl];omega),List.drop_of_length_le (by omega),List.append_nil]
  rw [fA (by omega) (by omega),show ((64*k:Nat):Int)+64=((64*(k+1):Nat):Int) by omega]
 ·dsimp only
  rw [mA,geI (by rw [dG];omega),cF]
 ·refine eA (digest_ok (jI n rfl)) ?_
  unfold sha
  rw [hb0,hn,show 64*n / 64=n by omega]
variable [EA]
set_option maxRecDepth 100000
theorem ext_ok {s:Bs} (hs:s.length≤900000):m131 s=some (iL (pad (s.map UInt8.toNat))):=by
 unfold m131
 generalize hb0:s.map UInt8.toNat=b0
 have hL:b0.length=s.length:=by rw [← hb0];simp
 refine eA (x:=iL b0) (vA (fun k=>((k:Int),iL (b0.take k))) s.length (by simp) (fun k hk=>?_) ?_) ?_
 ·dsimp only
  have hk2:b0[k]? = some s[k].toNat:=by rw [← hb0,List.getElem?_map,gE hk];rfl
  rw [mA,ltI (by omega),cT,byteM_of (gE hk),oB,tH rfl (by decide) (by rw [lT];omega),oB,fA (by omega) (by omega),List.take_add_one,hk2]
  rfl
 ·dsimp only
  rw [mA,geI (by omega),cF,tkL (by omega)]
 refine eA (x:=iL (b0++[128])) (tH rfl (by decide) (by omega)) ?_
 refine eA (x:=iL (b0++[128]++List.replicate (nZ b0.length) 0)) (vA (fun k=>iL (b0++[128]++List.replicate k 0)) (nZ b0.length) (by simp) (fun k hk=>?_) ?_) ?_
 ·have hz:=nZ_le b0.length
  have hl:lenM (iL (b0++[128]++List.replicate k 0))=((b0.length+1+k:Nat):Int):=by rw [mA];simp;omega
  have:=nZ_lt hk
  dsimp only
  rw [hl,show (64:Int)=((64:Nat):Int) from rfl,vK _ _ (by decide),oB,neI (by omega),xA,cT,tH (d:=0) (c:=nat_lit 1) (y:=0) rfl (by decide) (by simp;omega),oB,aA _ _ [0],List.replicate_succ']
 ·have hl:lenM (iL (b0++[128]++List.replicate (nZ b0.length) 0))=((b0.length+1+nZ b0.length:Nat):Int):=by rw [mA];simp;omega
  have:=nZ_eq b0.length
  dsimp only
  rw [hl,show (64:Int)=((64:Nat):Int) from rfl,vK _ _ (by decide),oB,eqI (by omega),sA,cF]
 generalize hP:b0++[128]++List.replicate (nZ b0.length) 0=P
 have hPl:P.length=b0.length+1+nZ b0.length:=by rw [← hP];simp;omega
 have hz:=nZ_le b0.length
 refine eA (x:=iL (P++(List.range 8).map fun i=>shr (8*b0.length) (8*(7-i)) % 256)) (vA (fun k=>((7:Int)-(k:Int),iL (P++(List.range k).map fun i=>shr (8*b0.length) (8*(7-i)) % 256))) 8 (by simp) (fun k hk=>?_) ?_) ?_
 ·dsimp only
  rw [leI (by omega),cT,mA,← hL,fA (n:=8*(b0.length:Int)) (by omega) (by omega),show 8*(b0.length:Int)=((8*b0.length:Nat):Int) by omega,wk (8*(7-(k:Int))) (j:=((8*(7-k):Nat):Int)) (by omega) (by omega) (by omega),shrI _ (8*(7-k)) rfl (by show _≤64;omega),oB,tH (y:=shr (8*b0.length) (8*(7-k)) % 256) (by rw [wu8];rfl) (by decide) (by simp;omega),oB,fA (by omega) (by omega),List.range_succ,List.map_append,aA]
  rw [show (7:Int)-(k:Int)-1=7-((k+1:Nat):Int) by omega];rfl
 ·dsimp only
  rw [gtI (by omega),cF]
 have hQ:P++(List.range 8).map (fun i=>shr (8*b0.length) (8*(7-i)) % 256)=pad b0:=by rw [← hP];unfold pad;simp
 rw [hQ]
theorem iL_chk {l:List Nat} {j:Nat} (h:j<l.length):oA (j:Int) (lenM (iL l))=some ():=bB (by omega) (by rw [mA,dG];omega)
theorem rblock_ok {h B:List Nat} (hvl:h.length=8) (hBl:B.length=64):m132 (iL h,iL B)=some (iL (blk h B)):=by
 unfold m132
 dsimp only
 refine eA (x:=iL ((List.range 16).map (w4 B))) (vA (fun j=>((j:Int),iL ((List.range j).map (w4 B)))) 16 rfl (fun j hj=>?_) ?_) ?_
 ·dsimp only
  rw [ltI (by omega),cT]
  refine w4_ok hBl hj (f:=fun w=>(eB (nat_lit 4) (iL ((List.range j).map (w4 B))) [w]).bind fun r=>some (Sum.inl (IntKind.wrap .i64 ((j:Int)+1),r))) ?_
  dsimp only
  rw [tH rfl (by decide) (by simp;omega),oB,wk ((j:Int)+1) (j:=((j+1:Nat):Int)) (by omega) (by omega) (by omega),w16_succ]
 ·dsimp only
  rw [geI (by omega),cF]
 generalize hW:(List.range 16).map (w4 B)=W
 have hWl:W.length=16:=by rw [← hW];simp
 refine eA (x:=iL (oJ B)) (vA (fun j=>(((16+j:Nat):Int),iL (pC j W))) 48 rfl (fun j hj=>?_) ?_) ?_
 ·have hl:(pC j W).length=16+j:=by rw [nK,hWl]
  have hwn:wNext (pC j W)=nextW ((pC j W).getD j 0) ((pC j W).getD (j+1) 0) ((pC j W).getD (j+9) 0) ((pC j W).getD (j+14) 0):=by
   unfold wNext
   rw [hl,show 16+j-16=j by omega,show 16+j-15=j+1 by omega,show 16+j-7=j+9 by omega,show 16+j-2=j+14 by omega]
  dsimp only
  rw [wMore_succ,hwn]
  generalize pC j W=l at hl
  have A:∀ n:Nat,n<16+j→gA (iL l) (n:Int)=some ((l.getD n 0:Nat):Int):=fun n hn=>uD (by omega)
  have C:∀ n:Nat,n<16+j→oA (n:Int) (lenM (iL l))=some ():=fun n hn=>iL_chk (by omega)
  have R:∀ x n:Nat,n<32→m170 ((x:Int),(n:Int))=some ((rot x n:Nat):Int):=rot_ok
  rw [ltI (by omega),cT,wk (((16+j:Nat):Int)-15) (j:=((j+1:Nat):Int)) (by omega) (by omega) (by omega),wk (((16+j:Nat):Int)-2) (j:=((j+14:Nat):Int)) (by omega) (by omega) (by omega),wk (((16+j:Nat):Int)-16) (j:=((j:Nat):Int)) (by omega) (by omega) (by omega),wk (((16+j:Nat):Int)-7) (j:=((j+9:Nat):Int)) (by omega) (by omega) (by omega)]
  refine eA (C _ (by omega)) ?_
  refine eA (A _ (by omega)) ?_
  refine eA (R _ 7 (by omega)) ?_
  refine eA (C _ (by omega)) ?_
  refine eA (A _ (by omega)) ?_
  refine eA (R _ 18 (by omega)) ?_
  refine eA (C _ (by omega)) ?_
  refine eA (A _ (by omega)) ?_
  refine eA (shrI _ 3 rfl (by decide)) ?_
  refine eA (C _ (by omega)) ?_
  refine eA (A _ (by omega)) ?_
  refine eA (R _ 17 (by omega)) ?_
  refine eA (C _ (by omega)) ?_
  refine eA (A _ (by omega)) ?_
  refine eA (R _ 19 (by omega)) ?_
  refine eA (C _ (by omega)) ?_
  refine eA (A _ (by omega)) ?_
  refine eA (shrI _ 10 rfl (by decide)) ?_
  refine eA (C _ (by omega)) ?_
  refine eA (A _ (by omega)) ?_
  refine eA (C _ (by omega)) ?_
  refine eA (A _ (by omega)) ?_
  rw [mI,mI,zF,zF,mI,mI,zF]
  refine eA (tH (y:=nextW (l.getD j 0) (l.getD (j+1) 0) (l.getD (j+9) 0) (l.getD (j+14) 0)) rfl (by decide) (by omega)) ?_
  rw [wk (((16+j:Nat):Int)+1) (j:=((16+(j+1):Nat):Int)) (by omega) (by omega) (by omega)]
 ·dsimp only
  rw [geI (by omega),cF,← hW];rfl
 refine eA (x:=iL kSha) rfl ?_
 refine eA (x:=iL h) (by rw [aC (by rw [dG];simp;omega)];rfl) ?_
 refine eA (x:=iL (bH B h 64)) (vA (fun j=>(iL (bH B h j),(j:Int))) 64 rfl (fun j hj=>?_) ?_) ?_
 ·have hk1:gA (iL kSha) (j:Int)=some ((kSha.getD j 0:Nat):Int):=uD hj
  have hk2:gA (iL (oJ B)) (j:Int)=some (((oJ B).getD j 0:Nat):Int):=uD (by rw [uH];exact hj)
  have hk3:oA (j:Int) (lenM (iL (oJ B)))=some ():=iL_chk (by rw [uH];exact hj)
  dsimp only
  rw [rndsN_succ B h hj]
  obtain ⟨a,b,c,d,e,f,g,i,hv⟩:=eight (uK B hvl j)
  rw [hv,ltI (by omega),cT]
  generalize kSha.getD j 0=kk at hk1
  generalize (oJ B).getD j 0=ww at hk2
  refine eA (x:=(a:Int)) rfl ?_
  refine eA (x:=(e:Int)) rfl ?_
  refine eA (x:=(i:Int)) rfl ?_
  refine eA (rot_ok e 6 (by omega)) ?_
  refine eA (rot_ok e 11 (by omega)) ?_
  refine eA (rot_ok e 25 (by omega)) ?_
  refine eA (x:=(f:Int)) rfl ?_
  refine eA (x:=(g:Int)) rfl ?_
  refine eA hk1 ?_
  refine eA hk3 ?_
  refine eA hk2 ?_
  refine eA (rot_ok a 2 (by omega)) ?_
  refine eA (rot_ok a 13 (by omega)) ?_
  refine eA (rot_ok a 22 (by omega)) ?_
  refine eA (x:=(b:Int)) rfl ?_
  refine eA (x:=(c:Int)) rfl ?_
  refine eA (x:=(b:Int)) rfl ?_
  refine eA (x:=(c:Int)) rfl ?_
  refine eA (x:=(b:Int)) rfl ?_
  refine eA (x:=(c:Int)) rfl ?_
  refine eA (x:=(d:Int)) rfl ?_
  refine eA (x:=(f:Int)) rfl ?_
  refine eA (x:=(g:Int)) rfl ?_
  rw [mI,mI,zF,andI,cplI,andI,mI,zF,zF,zF,mI,mI,andI,andI,andI,mI,mI,zF,zF,zF,wk ((j:Int)+1) (j:=((j+1:Nat):Int)) (by omega) (by omega) (by omega)]
  rfl
 ·dsimp only
  rw [geI (by omega),cF]
 have hr:=uK B hvl 64
 have e1:(blk h B).length=8:=blk_len hvl
 refine eA (x:=iL (blk h B)) (vA (fun j=>((j:Int),iL ((blk h B).take j))) 8 (by simp) (fun j hj=>?_) ?_) rfl
 ·have e2:(blk h B)[j]'(by omega)=mW (h.getD j 0+(bH B h 64).getD j 0):=by
   simp only [blk_eq,List.getElem_zipWith]
   rw [List.getD_eq_getElem?_getD,List.getD_eq_getElem?_getD,gE (by omega),gE (by omega)];rfl
  dsimp only
  rw [ltI (by omega),cT,uD (by omega),oB,uD (by omega),oB,zF,tH rfl (by decide) (by rw [lT];omega),oB,wk ((j:Int)+1) (j:=((j+1:Nat):Int)) (by omega) (by omega) (by omega),List.take_add_one,gE (by omega),Option.toList_some,e2]
 ·dsimp only
  rw [geI (by omega),cF,tkL (by omega)]
theorem rSum_ok {s:Bs} (hs:s.length≤900000):m82 s=some (sha s):=by
 unfold m82
 refine eA (ext_ok hs) ?_
 have hL:(s.map UInt8.toNat).length=s.length:=by simp
 unfold sha
 generalize s.map UInt8.toNat=b0 at hL
 have hz:=nZ_le b0.length
 have hQl:=pad_len b0
 obtain ⟨n,hn⟩:∃ n,(pad b0).length=64*n:=⟨(pad b0).length / 64,by have:=nZ_eq b0.length;omega⟩
 refine eA (x:=iL (kK n hSha (pad b0))) (vA (fun k=>(iL (kK k hSha (pad b0)),((64*k:Nat):Int))) n rfl (fun k hk=>?_) ?_) ?_
 ·have hkl:64*k+64≤(pad b0).length:=by omega
  have hBl:(((pad b0).drop (64*k)).take 64).length=64:=by rw [lT,List.length_drop];omega
  dsimp only
  rw [mA,dG,ltI (by omega),cT,blks_succ,fA (n:=((64*k:Nat):Int)+64) (by omega) (by omega),iL_slice (64*k) (64*k+64) rfl (by omega) (by omega) hkl,oB,show 64*k+64-64*k=64 by omega,rblock_ok (jI k rfl) hBl,oB,show ((64*k:Nat):Int)+64=((64*(k+1):Nat):Int) by omega]
 ·dsimp only
  rw [mA,dG,geI (by omega),cF]
 have h8:(kK n hSha (pad b0)).length=8:=jI n rfl
 rw [hn,show 64*n / 64=n by omega]
 generalize kK n hSha (pad b0)=h at h8
 let B:Nat→List Nat:=fun x=>[shr x 24 % 256,shr x 16 % 256,shr x 8 % 256,x % 256]
 have hB:∀ l:List Nat,(l.flatMap B).length=4*l.length:=fun l=>by
  induction l with
  | nil=>rfl
  | cons a l ih=>rw [List.flatMap_cons,lA,ih];simp [B];omega
 refine eA (x:=iL (h.flatMap B)) (vA (fun j=>((j:Int),iL ((h.take j).flatMap B))) 8 (by simp) (fun j hj=>?_) ?_) ?_
 ·have hl:((h.take j).flatMap B).length=4*j:=by rw [hB,lT];omega
  have A:gA (iL h) (j:Int)=some ((h.getD j 0:Nat):Int):=uD (by omega)
  dsimp only
  rw [ltI (by omega),cT]
  refine eA A ?_
  refine eA (shrI _ 24 rfl (by decide)) ?_
  refine eA A ?_
  refine eA (shrI _ 16 rfl (by decide)) ?_
  refine eA A ?_
  refine eA (shrI _ 8 rfl (by decide)) ?_
  refine eA A ?_
  refine eA (x:=iL ((h.take (j+1)).flatMap B)) ?_ (by rw [wk ((j:Int)+1) (j:=((j+1:Nat):Int)) (by omega) (by omega) (by omega)])
  rw [aC (by rw [dG,hl];show (4*j+4)*1≤_;omega),List.take_add_one,gE (show j<h.length by omega),Option.toList_some,List.flatMap_append,wu8,wu8,wu8,wu8,show h[j]'(by omega)=h.getD j 0 by rw [List.getD_eq_getElem?_getD,gE (by omega)];rfl]
  unfold iL
  rw [List.map_append]
  rfl
 ·dsimp only
  rw [geI (by omega),cF,tkL (by omega)]
 ·show some (oC (iL (h.flatMap B)))=_
  unfold oC wBytes iL
  rw [List.map_map]
  congr 1
  rw [List.map_flatMap]
  congr 1
  funext x
  simp [B,ofNat_mod]
variable [EA]
theorem remM_nat (a b:Nat) (hb:0<b):remM (a:Int) (b:Int)=some ((a % b:Nat):Int):=by rw [remM_of (by omega) (by omega)];rfl
theorem divM_nat {k:IntKind} (a b:Nat) (hb:0<b):divM k (a:Int) (b:Int)=some (k.wrap ((a / b:Nat):Int)):=by
 rw [divM_pos (by omega),Int.tdiv_eq_ediv_of_nonneg (by omega)];rfl
theorem zig_ok {n:Int} (h:inR n):m198 n=some (zz n:Int):=by
 have h':-4611686018427387903≤n∧n≤4611686018427387903:=h
 unfold m198 negM
 try dsimp only
 by_cases hn:n<0
 ·rw [ltI hn,cT,fA (by omega) (by omega),mD (n:=-n) (by omega) (by omega),mD (n:=-n*2) (by omega) (by omega),mD (by omega) (by omega)]
  unfold zz
  rw [if_pos hn];congr 1;omega
 ·rw [geI (by omega),cF,mD (n:=n) (by omega) (by omega),mD (by omega) (by omega)]
  unfold zz
  rw [if_neg hn];congr 1;omega
theorem rPut_ok {n:Int} (h:inR n):m169 n=some (pI n,0):=by
 have h':-4611686018427387903≤n∧n≤4611686018427387903:=h
 have hz:=zz_lt h
 unfold m169
 try dsimp only
 rw [geI h'.1,geI h'.2,orF,cF,zig_ok h,oB]
 have key:Ans (iA (fun (s:Int×List Int)=>bif leM 128 s.1 then (remM s.1 128).bind fun r_1=>(eB (nat_lit 1) s.2 [IntKind.wrap .u8 (IntKind.wrap .u64 (r_1+128))]).bind fun r_2=>(divM .u64 s.1 128).bind fun r=>some (Sum.inl (r,r_2)) else some (Sum.inr (s.1,s.2))) ((zz n:Int),([]:List Int))) (fun r=>r.2.length≤10∧∃ z:Nat,r.1=z∧z<128∧r.2++[(z:Int)]=nB (pI n)):=by
  refine Ans.loop (fun k s=>∃ z:Nat,s.1=z∧s.2.length=k∧z<128 ^ (10-k)∧z<9223372036854775807∧s.2++nB (grp z)=nB (pI n)) 10 ⟨zz n,rfl,rfl,Nat.lt_trans hz (by decide),hz,rfl⟩ ?_
  rintro k ⟨s1,s2⟩ hk ⟨z,h1,h2,h3,hz64,h4⟩
  dsimp only at h1 h2 h4 ⊢
  subst h1
  by_cases hs:z<128
  ·rw [gtI (by omega),cF]
   exact Ans.some ⟨by rw [h2];exact hk,z,rfl,hs,by rw [← h4,nB_grp_lt hs]⟩
  ·obtain ⟨j,hj⟩:∃ j,10-k=j+1:=⟨10-k-1,by
    have:k≠10:=fun e=>by subst e;simp at h3;omega
    omega⟩
   rw [leI (by omega),cT,show (128:Int)=((128:Nat):Int) from rfl,remM_nat _ _ (by decide),oB,mD (by omega) (by omega),wu8_in (by omega) (by omega),app1 (by decide) (by omega),oB,divM_nat _ _ (by decide),oB,mD (by omega) (by omega)]
   refine Ans.some ⟨by omega,z / 128,rfl,by simp [h2],?_,by omega,?_⟩
   ·rw [hj,Nat.pow_succ] at h3
    rw [show 10-(k+1)=j by omega];omega
   ·show (s2++[((z % 128:Nat):Int)+((128:Nat):Int)])++nB (grp (z / 128))=_
    rw [← h4,nB_grp_ge (z:=z) (by omega),aA];rfl
 obtain ⟨r,h1,hl,z,h2,h3,h4⟩:=key
 refine eA h1 ?_
 rw [h2,wu8_in (by omega) (by omega),app1 (by decide) (by omega),oB,h4,strB_nB]
theorem rPut_all (n:Int):∃ e,m169 n=some (pI2 n,e):=by
 by_cases h:inR n
 ·exact ⟨0,by rw [rPut_ok h,sI h]⟩
 ·refine ⟨10,?_⟩
  unfold m169 pI2
  try dsimp only
  rw [not_inR h,cT,if_neg h]
theorem rPutS_ok {s:Bs} (h:s.length≤65536):m125 s=some (pS s,0):=by
 unfold m125
 try dsimp only
 rw [mA,geI (by omega),cF,rPut_ok (inR_len h),oB,fC (by have:=cE (inR_len h);dsimp only;omega),oB]
 rfl
theorem rPutS_all (s:Bs):∃ e,m125 s=some (pS2 s,e):=by
 by_cases h:s.length≤65536
 ·exact ⟨0,by rw [rPutS_ok h,pS2_in h]⟩
 ·refine ⟨10,?_⟩
  unfold m125 pS2
  try dsimp only
  rw [mA,ltI (by omega),cT,if_neg h]
theorem rSg_all (r:Rp):m126 r=some (sg2 r):=by
 unfold m126
 try dsimp only
 rw [seven' iB rPut_all (fun x y h=>fC (by omega)) (by simp),oB]
 obtain ⟨e,he⟩:=rPutS_all r.pv
 rw [he,oB,fC (by have:=wK r.pv;have:=iB r.1;have:=iB r.2.1;have:=iB r.2.2.1;have:=iB r.2.2.2.1;have:=iB r.2.2.2.2.1;have:=iB r.2.2.2.2.2.1;have:=iB r.2.2.2.2.2.2.1;simp only [List.flatMap_cons,List.flatMap_nil,lA,List.length_nil];omega),oB]
 unfold sg2
 simp only [List.flatMap_cons,List.flatMap_nil,aA,List.nil_append]
theorem rEn_all (r:Rp):m78 r=some (en2 r):=by
 unfold m78
 try dsimp only
 obtain ⟨e,he⟩:=rPutS_all r.tg
 have:=sg2_len r
 have:=wK r.tg
 rw [show (r.1,r.2.1,r.2.2.1,r.2.2.2.1,r.2.2.2.2.1,r.2.2.2.2.2.1,r.2.2.2.2.2.2.1,r.2.2.2.2.2.2.2.1,r.2.2.2.2.2.2.2.2)=r from rfl,he,oB,rSg_all,oB,fC (by dsimp only;omega),oB]
 rfl
end Go.Proofs.YtdjfiampkhfooaaGreatDoor
