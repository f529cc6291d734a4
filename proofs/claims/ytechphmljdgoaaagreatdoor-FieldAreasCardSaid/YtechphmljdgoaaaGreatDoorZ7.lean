/-
 Texts of this proof, put together: PB, PC, PD, Fa, Fd, Fe, Fp, Fk, Fl, Fm, Fn, Fo, Fq, Fr, Ft, Fu, Fv, Fw, Ia, Ib, Ic, Id, Ie, If, Ig, Ih, Ii, Fx, Fy, LawFieldAreas.
 No conditions.
-/
import Derived.Test.YtechphmljdgoaaaGreatDoorZ6
import Derived.IntWalk
import Derived.Lib.ItoaNum
import Derived.Lib.AtoiAll
import Derived.Lib.Repeat
import Derived.Lib.SlTrimSet
import Derived.Lib.Strings
set_option linter.all false
namespace Go.PE
open Go Go.Abs
def InR:(t:Ty)→t.den→Prop
 | .int k,x=>k.has x
 | .bool,_=>True
 | .str,x=>List.length x≤maxLen
 | .list t,xs=>List.length xs≤maxLen∧∀ (i:Nat) (x:t.den),xs[i]? = some x→InR t x
 | .one t,x=>InR t x
 | .pair a b,x=>InR a x.1∧InR b x.2
def OkT:(l:List Ty)→Tup (l.map .d)→Prop
 | [],_=>True
 | [t],x=>InR t x
 | t::u::r,x=>InR t x.1∧OkT (u::r) x.2
section
variable {S:Cells} {w:World} {η:Eta}
theorem Rep.ok:∀ {t:Ty} {x:t.den} {cs:List Value},Rep S w t x cs→InR t x
 | .int _,_,_,h=>h.2
 | .bool,_,_,_=>trivial
 | .str,_,_,h=>h.2
 | .list t,xs,_,h=>by
  obtain ⟨base,cap,rfl,h1,h2,h3⟩:=h
  refine ⟨Nat.le_trans h1 h2,fun i x hx=>?_⟩
  rcases h3 with h3 | ⟨b,off,_,h3⟩
  ·have:xs=[]:=List.length_eq_zero_iff.1 h3
   rw [this] at hx
   cases hx
  ·obtain ⟨es,h4,_⟩:=h3 i x hx
   exact Rep.ok h4
 | .one t,x,cs,h=>by
  have h':Rep S w t x cs:=h
  exact Rep.ok (t:=t) h'
 | .pair a b,x,cs,h=>by
  obtain ⟨c1,c2,rfl,h1,h2⟩:=h
  exact ⟨Rep.ok h1,Rep.ok h2⟩
theorem cv_ok:∀ {t:Ty} {x:t.den} {vs:List Value},All2 (CM S w η) (t.cv x) vs→InR t x
 | .int _,_,_,.cons h .nil=>let ⟨_,a,_⟩:=h.2;Rep.ok a
 | .bool,_,_,_=>trivial
 | .str,_,_,.cons h .nil=>let ⟨_,a,_⟩:=h.2;Rep.ok a
 | .list _,_,_,.cons h .nil=>let ⟨_,a,_⟩:=h.2;Rep.ok a
 | .one t,x,vs,h=>by
  have h':All2 (CM S w η) (t.cv x) vs:=h
  exact cv_ok (t:=t) h'
 | .pair a b,x,vs,h=>by
  have h':All2 (CM S w η) (a.cv x.1++b.cv x.2) vs:=h
  obtain ⟨b1,b2,rfl,h1,h2⟩:=All2.split h'
  exact ⟨cv_ok h1,cv_ok h2⟩
theorem rv_ok {t:Ty} {x:t.den} {v:Value} (h:RM S w η (t.rv x) v):InR t x:=by
 unfold Ty.rv at h
 split at h
 ·obtain ⟨vs,_,h2⟩:=h
  exact cv_ok h2
 ·obtain ⟨_,cs,h2,_⟩:=h
  exact Rep.ok h2
theorem rvs_ok:∀ {l:List Ty} {x:Tup (l.map .d)} {vs:List Value},All2 (RM S w η) (rvs l x) vs→OkT l x
 | [],_,_,_=>trivial
 | [t],x,_,.cons h .nil=>rv_ok h
 | t::u::r,x,_,h=>by
  have h':All2 (RM S w η) (t.rv x.1::rvs (u::r) x.2) _:=h
  cases h' with
  | cons h1 h2=>exact ⟨rv_ok h1,rvs_ok (l:=u::r) h2⟩
end
theorem law_of_ok {args:List Ty} {m:Tup (args.map .d)→Option Bool} (h:∀ x,OkT args x→m x=some true) :
  ∀ (S:Cells) (w:World) (η:Eta) (vs:List Value) x,All2 (RM S w η) (rvs args x) vs→m x=some true:=fun _ _ _ _ x hx=>h x (rvs_ok hx)

theorem wrap_in {n:Int} (h1:-9223372036854775808≤n) (h2:n≤9223372036854775807):IntKind.wrap IntKind.i64 n=n:=Go.IntWalk.i64_in n ⟨h1,h2⟩
theorem idxM_nat {α:Type} (xs:List α) (i:Nat):idxM xs (i:Int)=xs[i]? := by
 unfold idxM
 rw [decide_eq_true (by omega:(0:Int)≤i)]
 simp
theorem idxM_lt {α:Type} {xs:List α} {i:Nat} (h:i<xs.length):idxM xs (i:Int)=some xs[i]:=by
 rw [idxM_nat,List.getElem?_eq_getElem h]
theorem idxM_of {α:Type} {xs:List α} {i:Int} (h0:0≤i) (h:i<xs.length):idxM xs i=some (xs[i.toNat]'(by omega)):=by
 unfold idxM
 rw [decide_eq_true h0]
 exact List.getElem?_eq_getElem _
theorem chkM_of {i n:Int} (h0:0≤i) (h:i<n):chkM i n=some ():=by
 unfold chkM
 rw [decide_eq_true h0,decide_eq_true h]
theorem appM_of {α:Type} {b:Nat} {xs ys:List α} (h:(xs.length+ys.length)*b≤140737488355328):appM b xs ys=some (xs++ys):=by
 unfold appM
 rw [decide_eq_true h]
theorem mkM_of {α:Type} {n c:Int} {b:Nat} {d:α} (h0:0≤n) (h:n≤c) (hb:c*b≤140737488355328):mkM n c b d=some (List.replicate n.toNat d):=by
 unfold mkM
 rw [decide_eq_true h0,decide_eq_true h,decide_eq_true hb]
theorem setM_of {α:Type} {xs:List α} {i:Int} {f:α→Option α} {y:α} (h0:0≤i) (h:i<xs.length) (hy:f (xs[i.toNat]'(by omega))=some y):setM xs i f=some (xs.set i.toNat y):=by
 unfold setM
 rw [idxM_of h0 h]
 simp only [hy]
theorem sliceM_of {α:Type} {xs:List α} {lo hi:Int} (h0:0≤lo) (h:lo≤hi) (h2:hi≤xs.length):sliceM xs lo hi=some ((xs.take hi.toNat).drop lo.toNat):=by
 unfold sliceM
 rw [decide_eq_true h0,decide_eq_true h,decide_eq_true h2]
theorem loopM_inv {σ β:Type} {body:σ→Option (σ⊕β)} (P:Nat→σ→Prop) (Q:β→Prop) (n:Nat)
  (h:∀ k s,k≤n→P k s→(∃ s',k<n∧body s=some (.inl s')∧P (k+1) s')∨∃ r,body s=some (.inr r)∧Q r) :
  ∀ (m k:Nat) (s:σ),n-k=m→k≤n→P k s→∃ r,loopM body s=some r∧Q r:=by
 intro m
 induction m with
 | zero =>
  intro k s hm hk hP
  rcases h k s hk hP with ⟨s',hlt,_⟩ | ⟨r,h1,h2⟩
  ·omega
  ·exact ⟨r,by rw [loopM_eq,h1];rfl,h2⟩
 | succ m ih =>
  intro k s hm hk hP
  rcases h k s hk hP with ⟨s',hlt,h1,h2⟩ | ⟨r,h1,h2⟩
  ·obtain ⟨r,h3,h4⟩:=ih (k+1) s' (by omega) (by omega) h2
   exact ⟨r,by rw [loopM_eq,h1];exact h3,h4⟩
  ·exact ⟨r,by rw [loopM_eq,h1];rfl,h2⟩
theorem loopM_from {σ β:Type} {body:σ→Option (σ⊕β)} (P:Nat→σ→Prop) (Q:β→Prop) (n:Nat) {s:σ} (h0:P 0 s)
  (h:∀ k s,k≤n→P k s→(∃ s',k<n∧body s=some (.inl s')∧P (k+1) s')∨∃ r,body s=some (.inr r)∧Q r):∃ r,loopM body s=some r∧Q r :=
 loopM_inv P Q n h n 0 s (by omega) (by omega) h0
theorem loopM_fn {σ β:Type} {body:σ→Option (σ⊕β)} (g:Nat→σ) (n:Nat) {r:β} (h:∀ k,k<n→body (g k)=some (.inl (g (k+1)))) (he:body (g n)=some (.inr r)):loopM body (g 0)=some r:=by
 obtain ⟨r',h1,h2⟩:=loopM_from (body:=body) (fun k s=>s=g k) (fun x=>x=r) n (s:=g 0) rfl fun k s hk hs=>by
  subst hs
  by_cases hlt:k<n
  ·exact .inl ⟨_,hlt,h k hlt,rfl⟩
  ·have:k=n:=by omega
   subst this
   exact .inr ⟨r,he,rfl⟩
 rw [h1,h2]
end Go.PE
namespace Go.PE
open Go Go.Abs
def row {α:Type} (m:Nat) (g:Nat→α):List α:=(List.range m).map g
def rt {α:Type} (n:Nat) (len:Nat→Nat) (d:Nat→Nat→α):List (List α):=row n fun i=>row (len i) (d i)
def upd {α:Type} (d:Nat→Nat→α) (i j:Nat) (y:α):Nat→Nat→α:=fun a b=>if a=i∧b=j then y else d a b
section
variable {α:Type}
theorem row_length (m:Nat) (g:Nat→α):(row m g).length=m:=by simp [row]
theorem row_get {m:Nat} {g:Nat→α} {i:Nat} (h:i<m):(row m g)[i]? = some (g i):=by simp [row,h]
theorem row_idx {m:Nat} {g:Nat→α} {i:Nat} (h:i<m):idxM (row m g) (i:Int)=some (g i):=by rw [idxM_nat,row_get h]
theorem row_succ (m:Nat) (g:Nat→α):row (m+1) g=row m g++[g m]:=by simp [row,List.range_succ]
end
theorem bind_of {α β:Type} {o:Option α} {x:α} {f:α→Option β} {r:Option β} (h:o=some x) (h2:f x=r):Option.bind o f=r:=by
 rw [h];exact h2
theorem loopM_is {σ β:Type} {body:σ→Option (σ⊕β)} {s:σ} {r:β} (P:Nat→σ→Prop) (n:Nat) (h0:P 0 s)
  (h:∀ k s,k≤n→P k s→(∃ s',k<n∧body s=some (.inl s')∧P (k+1) s')∨body s=some (.inr r)):loopM body s=some r:=by
 obtain ⟨r',h1,h2⟩:=loopM_from P (fun x=>x=r) n h0 fun k s hk hP=>by
  rcases h k s hk hP with h | h
  ·exact .inl h
  ·exact .inr ⟨r,h,rfl⟩
 rw [h1,h2]
theorem count_loop {σ β:Type} {body:Int×σ→Option ((Int×σ)⊕β)} (g:Nat→σ) (n:Nat) {r:β} (h:∀ k,k<n→body ((k:Int),g k)=some (.inl ((k:Int)+1,g (k+1)))) (he:body ((n:Int),g n)=some (.inr r)) :
  loopM body ((0:Int),g 0)=some r :=
 loopM_fn (fun k=>((k:Int),g k)) n (fun k hk=>h k hk) he
end Go.PE
namespace Go.PE
open Go Go.Abs
def Ans {α:Type} (o:Option α) (Q:α→Prop):Prop:=∃ r,o=some r∧Q r
theorem Ans.is {α:Type} {o:Option α} {r:α} (h:Ans o (fun x=>x=r)):o=some r:=by
 obtain ⟨x,h1,h2⟩:=h
 rw [h1,h2]
theorem Ans.of {α:Type} {o:Option α} {r:α} {Q:α→Prop} (h:o=some r) (hQ:Q r):Ans o Q:=⟨r,h,hQ⟩
theorem Ans.some {α:Type} {r:α} {Q:α→Prop} (hQ:Q r):Ans (some r) Q:=⟨r,rfl,hQ⟩
theorem Ans.mono {α:Type} {o:Option α} {P Q:α→Prop} (h:Ans o P) (hQ:∀ x,P x→Q x):Ans o Q:=by
 obtain ⟨x,h1,h2⟩:=h
 exact ⟨x,h1,hQ x h2⟩
theorem Ans.bind {α β:Type} {o:Option α} {f:α→Option β} {P:α→Prop} {Q:β→Prop} (h:Ans o P) (hf:∀ x,P x→Ans (f x) Q):Ans (Option.bind o f) Q:=by
 obtain ⟨x,h1,h2⟩:=h
 rw [h1]
 exact hf x h2
theorem Ans.seq {α β:Type} {o:Option α} {f:α→Option β} {x:α} {Q:β→Prop} (h:o=Option.some x) (hf:Ans (f x) Q):Ans (Option.bind o f) Q:=by
 rw [h]
 exact hf
theorem Ans.cond {α:Type} {c:Bool} {a b:Option α} {Q:α→Prop} (ht:c=true→Ans a Q) (hf:c=false→Ans b Q):Ans (bif c then a else b) Q:=by
 cases c
 ·exact hf rfl
 ·exact ht rfl
def Nxt {σ β:Type} (P:σ→Prop) (Q:β→Prop):σ⊕β→Prop
 | .inl s=>P s
 | .inr r=>Q r
theorem Ans.loop {σ β:Type} {body:σ→Option (σ⊕β)} {s:σ} {Q:β→Prop} (P:Nat→σ→Prop) (n:Nat) (h0:P 0 s)
  (h:∀ k s,k≤n→P k s→Ans (body s) (Nxt (fun s'=>k<n∧P (k+1) s') Q)):Ans (loopM body s) Q:=by
 refine loopM_from P Q n h0 fun k s hk hP=>?_
 obtain ⟨o,h1,h2⟩:=h k s hk hP
 cases o with
 | inl s'=>exact .inl ⟨s',h2.1,h1,h2.2⟩
 | inr r=>exact .inr ⟨r,h1,h2⟩
theorem ltI {a b:Int} (h:a<b):ltM a b=true:=decide_eq_true h
theorem geI {a b:Int} (h:b≤a):ltM a b=false:=decide_eq_false (by omega)
theorem leI {a b:Int} (h:a≤b):leM a b=true:=decide_eq_true h
theorem gtI {a b:Int} (h:b<a):leM a b=false:=decide_eq_false (by omega)
theorem eqI {a b:Int} (h:a=b):eqM a b=true:=decide_eq_true h
theorem neI {a b:Int} (h:a≠b):eqM a b=false:=decide_eq_false h
theorem notT:notM true=false:=rfl
theorem notF:notM false=true:=rfl
theorem orT (b:Bool):orM true b=true:=rfl
theorem orF (b:Bool):orM false b=b:=rfl
theorem andT (b:Bool):andM true b=b:=rfl
theorem andF (b:Bool):andM false b=false:=rfl
def pk (c n:Int):Int:=(if c<0 then -(c+1) else c) % n
theorem pk_lo {c n:Int} (h:0<n):0≤pk c n:=Int.emod_nonneg _ (by omega)
theorem pk_hi {c n:Int} (h:0<n):pk c n<n:=Int.emod_lt_of_pos _ h
theorem remM_of {a b:Int} (ha:0≤a) (hb:0<b):remM a b=some (a % b):=by
 unfold remM
 rw [decide_eq_false (by omega)]
 show some (a.tmod b)=some (a % b)
 rw [Int.tmod_eq_emod_of_nonneg ha]
theorem divM_pos {k:IntKind} {a b:Int} (hb:b≠0):divM k a b=some (k.wrap (a.tdiv b)):=by
 unfold divM
 rw [decide_eq_false hb]
theorem pk_text {c n:Int} (hc:IntKind.i64.has c) (hn:0<n) :
  Option.bind (bif ltM c (0:Int) then some (IntKind.wrap IntKind.i64 (negM (IntKind.wrap IntKind.i64 (c+(1:Int))))) else some c) (fun (o:Int)=>Option.bind (remM o n) fun (r:Int)=>some r)=some (pk c n):=by
 have hc':-9223372036854775808≤c∧c≤9223372036854775807:=hc
 unfold pk
 by_cases h:c<0
 ·rw [ltI h,cond_true,Option.bind_some,if_pos h,wrap_in (n:=c+1) (by omega) (by omega)]
  unfold negM
  rw [wrap_in (by omega) (by omega),remM_of (by omega) hn]
  rfl
 ·rw [geI (by omega),cond_false,Option.bind_some,if_neg h,remM_of (by omega) hn]
  rfl
theorem row_idxI {α:Type} {m:Nat} {g:Nat→α} {i:Int} (h0:0≤i) (h:i<m):idxM (row m g) i=some (g i.toNat):=by
 obtain ⟨k,rfl⟩:=Int.eq_ofNat_of_zero_le h0
 exact row_idx (by omega)
theorem app_row {α:Type} {b m:Nat} {g:Nat→α} (hb:(m+1)*b≤140737488355328):appM b (row m g) [g m]=some (row (m+1) g):=by
 rw [appM_of (by rw [row_length];simpa using hb),row_succ]
theorem app_rowOf {α:Type} {b m:Nat} {g:Nat→α} {y:α} (hy:y=g m) (hb:(m+1)*b≤140737488355328):appM b (row m g) [y]=some (row (m+1) g):=by
 rw [hy,app_row hb]
end Go.PE
namespace Go.Proofs.YtechphmljdgoaaaGreatDoor
open Go Go.Abs Go.PE
abbrev i64 (n:Int):Prop:=-9223372036854775808≤n∧n≤9223372036854775807
def nn (W H:Nat):Nat:=(W+1)*(H+1)
def fd (W H:Nat) (lo hi:Nat→Int):Int×Int×List Int×List Int:=((W:Int),(H:Int),row (nn W H) lo,row (nn W H) hi)
structure OkF (W H:Nat) (lo hi:Nat→Int):Prop where
 w1:1≤W
 w6:W≤6
 h1:1≤H
 h6:H≤6
 l0:∀ i,i<nn W H→0≤lo i
 lh:∀ i,i<nn W H→lo i≤hi i
 h9:∀ i,i<nn W H→hi i≤100
theorem nn_bd {W H:Nat} (h1:W≤6) (h2:H≤6):nn W H≤49:=Nat.mul_le_mul (show W+1≤7 by omega) (show H+1≤7 by omega)
theorem lenR {α:Type} (m:Nat) (g:Nat→α):lenM (row m g)=(m:Int):=by show ((row m g).length:Int)=_;rw [row_length]
theorem lenL {α:Type} (l:List α):lenM l=(l.length:Int):=rfl
theorem nn_wrap {W H:Nat} (h1:W≤6) (h2:H≤6):IntKind.wrap IntKind.i64 (IntKind.wrap IntKind.i64 ((W:Int)+1)*IntKind.wrap IntKind.i64 ((H:Int)+1))=(nn W H:Int):=by
 have:=nn_bd h1 h2
 have e:((W:Int)+1)*((H:Int)+1)=(nn W H:Int):=by unfold nn;rw [Int.natCast_mul];rfl
 rw [wrap_in (n:=(W:Int)+1) (by omega) (by omega),wrap_in (n:=(H:Int)+1) (by omega) (by omega),e,wrap_in (by omega) (by omega)]
theorem pick_ok {c n:Int} (hc:i64 c) (hn:0<n):m32 (c,n)=some (pk c n):=pk_text hc hn
theorem pickL_ok {c n:Int} (hc:i64 c) (hn:0<n):m12 (c,n)=some (pk c n):=pk_text hc hn
theorem within_ok (n lo hi:Int):m36 (n,lo,hi)=some (decide (lo≤n∧n≤hi)):=by
 unfold m36
 dsimp only
 by_cases h1:lo≤n
 ·rw [leI h1,andT]
  by_cases h2:n≤hi
  ·rw [leI h2,decide_eq_true ⟨h1,h2⟩]
  ·rw [gtI (by omega),decide_eq_false (by omega)]
 ·rw [gtI (by omega),andF,decide_eq_false (by omega)]
theorem pass_loop {α:Type} {n:Nat} {body:Int→Option (Int⊕(Unit⊕α))} (hb:∀ k,k<n→body (k:Int)=some (.inl ((k:Int)+1))) (he:body (n:Int)=some (.inr (.inl ()))):loopM body 0=some (.inl ()) :=
 loopM_fn (fun k=>(k:Int)) n hb he
theorem valid_ok {W H:Nat} {lo hi:Nat→Int} (h:OkF W H lo hi):m31 (fd W H lo hi)=some true:=by
 have h49:=nn_bd h.w6 h.h6
 have w1:=h.w1
 have w6:=h.w6
 have h1:=h.h1
 have h6:=h.h6
 unfold m31 fd
 dsimp only
 rw [within_ok,Option.bind_some,decide_eq_true (by omega),notT,notF,cond_true,within_ok,Option.bind_some,decide_eq_true (by omega),notT,orF,orF,lenR,lenR,nn_wrap w6 h6,eqI rfl,notT,orF,cond_false]
 refine bind_of (pass_loop (n:=nn W H) (fun k hk=>?_) ?_) rfl
 ·have a:=h.l0 k hk
  have b:=h.lh k hk
  have c:=h.h9 k hk
  rw [ltI (by omega),cond_true,row_idx hk,Option.bind_some,row_idx hk,Option.bind_some,within_ok,Option.bind_some,decide_eq_true (by omega),notT,notF,cond_true,Option.bind_some,orF,geI (by omega),cond_false,wrap_in (by omega) (by omega)]
 ·rw [geI (by omega),cond_false]
def src (x:List (Int×Int)) (i:Nat):Int×Int:=if x.length=0 then (7*(i:Int)+(i:Int)*(i:Int),0) else x.getD (i % x.length) (0,0)
def loF (most:Int) (x:List (Int×Int)) (i:Nat):Int:=pk (src x i).1 (most+1)
def hiF (most:Int) (x:List (Int×Int)) (i:Nat):Int:=min (loF most x i+pk (src x i).2 30) most
def szF (w size:Int):Nat:=(1+pk w size).toNat
theorem szF_bd {w size:Int} (h:1≤size) (h6:size≤6):1≤szF w size∧szF w size≤6∧(szF w size:Int)=1+pk w size∧szF w size≤size:=by
 have h1:=pk_lo (c:=w) (n:=size) (by omega)
 have h2:=pk_hi (c:=w) (n:=size) (by omega)
 unfold szF
 omega
theorem made_F {w h size most:Int} {x:List (Int×Int)} (hs:1≤size) (hs6:size≤6) (hm0:0≤most) (hm:most≤100):OkF (szF w size) (szF h size) (loF most x) (hiF most x):=by
 have a:=szF_bd (w:=w) hs hs6
 have b:=szF_bd (w:=h) hs hs6
 refine ⟨a.1,a.2.1,b.1,b.2.1,fun i _=>pk_lo (by omega),fun i _=>?_,fun i _=>?_⟩
 ·have h1:=pk_hi (c:=(src x i).1) (n:=most+1) (by omega)
  have h2:=pk_lo (c:=(src x i).2) (n:=30) (by omega)
  unfold hiF loF
  omega
 ·unfold hiF;omega
theorem src_ok {x:List (Int×Int)} (hx:∀ p∈x,i64 p.1∧i64 p.2) {i:Nat} (hi:i≤100):i64 (src x i).1∧i64 (src x i).2:=by
 unfold src
 by_cases h0:x.length=0
 ·rw [if_pos h0]
  have:=Int.mul_le_mul (show (i:Int)≤100 by omega) (show (i:Int)≤100 by omega) (by omega) (by omega)
  have h2:=Int.mul_nonneg (show (0:Int)≤i by omega) (show (0:Int)≤i by omega)
  unfold i64
  dsimp only
  omega
 ·rw [if_neg h0]
  have hlt:i % x.length<x.length:=Nat.mod_lt _ (by omega)
  have:x.getD (i % x.length) (0,0)∈x:=by simp [List.getD,hlt]
  exact hx _ this
theorem made_ok {w h size most:Int} {x:List (Int×Int)} (hw:i64 w) (hh:i64 h) (hs:1≤size) (hs6:size≤6) (hm0:0≤most) (hm:most≤100) (hx:∀ p∈x,i64 p.1∧i64 p.2) (hxl:x.length≤maxLen):m10 (w,h,size,most,x)=some (fd (szF w size) (szF h size) (loF most x) (hiF most x)):=by
 have hxl:x.length≤9223372036854775807:=hxl
 obtain ⟨a1,a2,a3,_⟩:=szF_bd (w:=w) hs hs6
 obtain ⟨b1,b2,b3,_⟩:=szF_bd (w:=h) hs hs6
 have h49:=nn_bd a2 b2
 unfold m10
 dsimp only
 rw [pick_ok hw (by omega),Option.bind_some,pick_ok hh (by omega),Option.bind_some,← a3,← b3,wrap_in (n:=((szF w size:Nat):Int)) (by omega) (by omega),wrap_in (n:=((szF h size:Nat):Int)) (by omega) (by omega)]
 refine bind_of (count_loop (fun k=>((szF w size:Int),(szF h size:Int),row k (loF most x),row k (hiF most x))) (nn (szF w size) (szF h size)) (r:=((szF w size:Int),(szF h size:Int),row (nn (szF w size) (szF h size)) (loF most x),row (nn (szF w size) (szF h size)) (hiF most x))) (fun k hk=>?_) ?_) rfl
 ·have hsrc:=src_ok hx (show k≤100 by omega)
  dsimp only
  rw [nn_wrap a2 b2,ltI (by omega),cond_true]
  refine bind_of (x:=src x k) ?_ ?_
  ·unfold src
   by_cases h0:x.length=0
   ·rw [geI (by rw [lenL];omega),cond_false,if_pos h0]
    have:=Int.mul_le_mul (show (k:Int)≤100 by omega) (show (k:Int)≤100 by omega) (by omega) (by omega)
    have h2:=Int.mul_nonneg (show (0:Int)≤k by omega) (show (0:Int)≤k by omega)
    rw [wrap_in (n:=7*(k:Int)) (by omega) (by omega),wrap_in (n:=(k:Int)*k) (by omega) (by omega),wrap_in (by omega) (by omega)]
   ·have hlt:k % x.length<x.length:=Nat.mod_lt _ (by omega)
    rw [ltI (by rw [lenL];omega),cond_true,if_neg h0,lenL,remM_of (by omega) (by omega),Option.bind_some,← Int.natCast_emod,idxM_lt hlt,Option.bind_some]
    simp [List.getD,hlt]
  ·have l1:=pk_lo (c:=(src x k).1) (n:=most+1) (by omega)
   have l2:=pk_hi (c:=(src x k).1) (n:=most+1) (by omega)
   have g1:=pk_lo (c:=(src x k).2) (n:=30) (by omega)
   have g2:=pk_hi (c:=(src x k).2) (n:=30) (by omega)
   rw [wrap_in (n:=most+1) (by omega) (by omega),pick_ok hsrc.1 (by omega),Option.bind_some,app_rowOf (y:=pk (src x k).1 (most+1)) (g:=loF most x) rfl (by show (k+1)*8≤_;omega),Option.bind_some,pick_ok hsrc.2 (by omega),Option.bind_some,wrap_in (n:=_+pk (src x k).2 30) (by omega) (by omega),app_rowOf (y:=min (pk (src x k).1 (most+1)+pk (src x k).2 30) most) (g:=hiF most x) rfl (by show (k+1)*8≤_;omega),Option.bind_some,wrap_in (by omega) (by omega)]
 ·dsimp only
  rw [nn_wrap a2 b2,geI (by omega),cond_false]
end Go.Proofs.YtechphmljdgoaaaGreatDoor
namespace Go.Proofs.YtechphmljdgoaaaGreatDoor
open Go Go.Abs Go.PE
def nv (W:Nat) (v:Nat→Int) (x y:Int):Int:=v (y*((W:Int)+1)+x).toNat
def lowT (W:Nat) (v:Nat→Int) (cx cy x y d:Int):Int:=(d-(x-cx*d))*nv W v cx cy+((x-cx*d)-(y-cy*d))*nv W v (cx+1) cy+(y-cy*d)*nv W v (cx+1) (cy+1)
def uppT (W:Nat) (v:Nat→Int) (cx cy x y d:Int):Int:=(d-(y-cy*d))*nv W v cx cy+((y-cy*d)-(x-cx*d))*nv W v cx (cy+1)+(x-cx*d)*nv W v (cx+1) (cy+1)
def atv (W H:Nat) (v:Nat→Int) (x y d:Int):Int :=
 if y-min (y / d) ((H:Int)-1)*d≤x-min (x / d) ((W:Int)-1)*d then lowT W v (min (x / d) ((W:Int)-1)) (min (y / d) ((H:Int)-1)) x y d
 else uppT W v (min (x / d) ((W:Int)-1)) (min (y / d) ((H:Int)-1)) x y d
end Go.Proofs.YtechphmljdgoaaaGreatDoor
namespace Go.Proofs.YtechphmljdgoaaaGreatDoor
open Go Go.Abs Go.PE
open Go.IntKind (wrap)
structure OkV (W H:Nat) (v:Nat→Int):Prop where
 w1:1≤W
 w6:W≤6
 h1:1≤H
 h6:H≤6
 v:∀ i,i<nn W H→0≤v i∧v i≤100
theorem OkF.okLo {W H:Nat} {lo hi:Nat→Int} (h:OkF W H lo hi):OkV W H lo:=⟨h.w1,h.w6,h.h1,h.h6,fun i hi=>by have:=h.l0 i hi;have:=h.lh i hi;have:=h.h9 i hi;omega⟩
theorem OkF.okHi {W H:Nat} {lo hi:Nat→Int} (h:OkF W H lo hi):OkV W H hi:=⟨h.w1,h.w6,h.h1,h.h6,fun i hi=>by have:=h.l0 i hi;have:=h.lh i hi;have:=h.h9 i hi;omega⟩
theorem node_bd {W H:Nat} {cx cy:Int} (x0:0≤cx) (x1:cx≤W) (y0:0≤cy) (y1:cy≤H):0≤cy*((W:Int)+1)∧0≤cy*((W:Int)+1)+cx∧cy*((W:Int)+1)+cx<nn W H:=by
 have h1:=Int.mul_nonneg y0 (show (0:Int)≤(W:Int)+1 by omega)
 have h2:=Int.mul_le_mul_of_nonneg_right y1 (show (0:Int)≤(W:Int)+1 by omega)
 have e:(nn W H:Int)=(H:Int)*((W:Int)+1)+((W:Int)+1):=by
  unfold nn
  rw [Int.natCast_mul,Int.mul_comm]
  show ((H:Int)+1)*((W:Int)+1)=_
  rw [Int.add_mul,Int.one_mul]
 omega
theorem nv_bd {W H:Nat} {v:Nat→Int} (h:OkV W H v) {cx cy:Int} (x0:0≤cx) (x1:cx≤W) (y0:0≤cy) (y1:cy≤H):0≤nv W v cx cy∧nv W v cx cy≤100:=by
 obtain ⟨_,b,c⟩:=node_bd x0 x1 y0 y1
 exact h.v _ (by omega)
theorem node_ok {W H:Nat} {v:Nat→Int} (w6:W≤6) (h6:H≤6) {cx cy:Int} (x0:0≤cx) (x1:cx≤W) (y0:0≤cy) (y1:cy≤H):idxM (row (nn W H) v) (wrap IntKind.i64 (wrap IntKind.i64 (cy*wrap IntKind.i64 ((W:Int)+1))+cx))=some (nv W v cx cy):=by
 obtain ⟨a,b,c⟩:=node_bd x0 x1 y0 y1
 have h49:=nn_bd w6 h6
 rw [wrap_in (n:=(W:Int)+1) (by omega) (by omega),wrap_in (n:=cy*_) (by omega) (by omega),wrap_in (by omega) (by omega),row_idxI b c];rfl
theorem prod_bd {a b A B:Int} (a0:0≤a) (a1:a≤A) (b0:0≤b) (b1:b≤B):0≤a*b∧a*b≤A*B :=
 ⟨Int.mul_nonneg a0 b0,Int.mul_le_mul a1 b1 b0 (by omega)⟩
def atR (W H:Nat) (lo hi:Nat→Int) (x y d:Int):Int×Int×Int:=if 1≤d∧d≤60∧0≤x∧x≤W*d∧0≤y∧y≤H*d then (atv W H lo x y d,atv W H hi x y d,0) else (0,0,250)
end Go.Proofs.YtechphmljdgoaaaGreatDoor
namespace Go.Proofs.YtechphmljdgoaaaGreatDoor
open Go Go.Abs Go.PE
open Go.IntKind (wrap)
abbrev Cor:=Int×Int×Int
abbrev Tri:=Cor×Cor×Cor
def nd (W:Nat) (v:Nat→Int) (x y:Int):Cor:=(x,y,nv W v x y)
def triF (W:Nat) (v:Nat→Int) (k:Nat):Tri :=
 let cx:Int:=((k / 2 % W:Nat):Int)
 let cy:Int:=((k / 2 / W:Nat):Int)
 if k % 2=0 then (nd W v cx cy,nd W v (cx+1) cy,nd W v (cx+1) (cy+1)) else (nd W v cx cy,nd W v (cx+1) (cy+1),nd W v cx (cy+1))
theorem triF_low {W:Nat} (v:Nat→Int) {cx cy:Nat} (h:cx<W):triF W v (2*(cy*W+cx))=(nd W v cx cy,nd W v (cx+1) cy,nd W v (cx+1) (cy+1)):=by
 unfold triF
 rw [show 2*(cy*W+cx) / 2=cy*W+cx by omega,if_pos (by omega),Nat.mul_comm cy W,Nat.mul_add_mod,Nat.mod_eq_of_lt h,Nat.mul_add_div (by omega),Nat.div_eq_of_lt h,Nat.add_zero]
theorem triF_upp {W:Nat} (v:Nat→Int) {cx cy:Nat} (h:cx<W):triF W v (2*(cy*W+cx)+1)=(nd W v cx cy,nd W v (cx+1) (cy+1),nd W v cx (cy+1)):=by
 unfold triF
 rw [show (2*(cy*W+cx)+1) / 2=cy*W+cx by omega,if_neg (by omega),Nat.mul_comm cy W,Nat.mul_add_mod,Nat.mod_eq_of_lt h,Nat.mul_add_div (by omega),Nat.div_eq_of_lt h,Nat.add_zero]
def tSum (W:Nat) (v:Nat→Int) (k:Nat):Int:=(triF W v k).1.2.2+(triF W v k).2.1.2.2+(triF W v k).2.2.2.2
def sT (W:Nat) (v:Nat→Int):Nat→Int
 | 0=>0
 | k+1=>sT W v k+tSum W v k
theorem tSum_bd {W H:Nat} {v:Nat→Int} (h:OkV W H v) {k:Nat} (hk:k<2*(H*W)):0≤(triF W v k).1.2.2∧(triF W v k).1.2.2≤100∧0≤(triF W v k).2.1.2.2∧(triF W v k).2.1.2.2≤100∧0≤(triF W v k).2.2.2.2∧(triF W v k).2.2.2.2≤100:=by
 have w1:=h.w1
 have hc:k / 2<H*W:=by omega
 have hx:k / 2 % W<W:=Nat.mod_lt _ (by omega)
 have hy:k / 2 / W<H:=(Nat.div_lt_iff_lt_mul (by omega)).2 hc
 unfold triF
 dsimp only
 generalize k / 2 % W=p at *
 generalize k / 2 / W=q at *
 have n00:=nv_bd h (cx:=(p:Int)) (cy:=(q:Int)) (by omega) (by omega) (by omega) (by omega)
 have n10:=nv_bd h (cx:=(p:Int)+1) (cy:=(q:Int)) (by omega) (by omega) (by omega) (by omega)
 have n11:=nv_bd h (cx:=(p:Int)+1) (cy:=(q:Int)+1) (by omega) (by omega) (by omega) (by omega)
 have n01:=nv_bd h (cx:=(p:Int)) (cy:=(q:Int)+1) (by omega) (by omega) (by omega) (by omega)
 split
 ·exact ⟨n00.1,n00.2,n10.1,n10.2,n11.1,n11.2⟩
 ·exact ⟨n00.1,n00.2,n11.1,n11.2,n01.1,n01.2⟩
theorem sT_bd {W H:Nat} {v:Nat→Int} (h:OkV W H v):∀ k,k≤2*(H*W)→0≤sT W v k∧sT W v k≤300*k
 | 0,_=>by show (0:Int)≤0∧(0:Int)≤300*((0:Nat):Int);omega
 | k+1,hk=>by
  have h1:=sT_bd h k (by omega)
  have h2:=tSum_bd h (k:=k) (by omega)
  show 0≤sT W v k+tSum W v k∧sT W v k+tSum W v k≤300*((k+1:Nat):Int)
  unfold tSum
  omega
noncomputable def itE (W H:Int) (L:List Int):Option Int :=
 (loopM (fun (s:Int×Int)=>bif ltM s.1 H then (loopM
 (fun (s_1:Int×Int)=>bif ltM s_1.1 W then ((idxM L (wrap IntKind.i64 (wrap IntKind.i64 (s.1*wrap IntKind.i64 (W+1))+s_1.1))).bind fun r
 => some r).bind fun (ov:Int)=>((idxM L (wrap IntKind.i64 (wrap IntKind.i64 (s.1*wrap IntKind.i64 (W+1))+wrap IntKind.i64 (s_1.1+1)))).bind
 fun r=>some r).bind fun (ov_1:Int)=>((idxM L (wrap IntKind.i64 (wrap IntKind.i64 (wrap IntKind.i64 (s.1+1)*wrap IntKind.i64 (W+1))+wrap
 IntKind.i64 (s_1.1+1)))).bind fun r=>some r).bind fun (ov_2:Int)=>((idxM L (wrap IntKind.i64 (wrap IntKind.i64 (s.1*wrap IntKind.i64 (W+1)) +
 s_1.1))).bind fun r=>some r).bind fun (ov_3:Int)=>((idxM L (wrap IntKind.i64 (wrap IntKind.i64 (wrap IntKind.i64 (s.1+1)*wrap IntKind.i64 (W +
 1))+wrap IntKind.i64 (s_1.1+1)))).bind fun r=>some r).bind fun (ov_4:Int)=>((idxM L (wrap IntKind.i64 (wrap IntKind.i64 (wrap IntKind.i64 (s.1 +
 1)*wrap IntKind.i64 (W+1))+s_1.1))).bind fun r=>some r).bind fun (ov_5:Int)=>some (Sum.inl (wrap IntKind.i64 (s_1.1 +
 1),wrap IntKind.i64 (wrap IntKind.i64 (s_1.2+wrap IntKind.i64 (wrap IntKind.i64 (ov+ov_1)+ov_2))+wrap IntKind.i64 (wrap IntKind.i64 (ov_3+ov_4) +
 ov_5)))) else some (Sum.inr s_1.2)) (0,s.2)).bind fun o=>some (Sum.inl (wrap IntKind.i64 (s.1+1),o)) else some (Sum.inr s.2)) (0,0)).bind fun o=>some o
theorem itE_ok {W H:Nat} {v:Nat→Int} (h:OkV W H v):itE W H (row (nn W H) v)=some (sT W v (2*(H*W))):=by
 have w6:=h.w6
 have h6:=h.h6
 have hWH:H*W≤36:=Nat.mul_le_mul h6 w6
 unfold itE
 refine bind_of (x:=sT W v (2*(H*W))) ?_ rfl
 have e0:(0:Int)=sT W v (2*(0*W)):=by rw [Nat.zero_mul];rfl
 refine Eq.trans (congrArg (fun l=>loopM _ ((0:Int),l)) e0) (count_loop (fun cy=>sT W v (2*(cy*W))) H (fun cy hy=>?_) ?_)
 ·dsimp only
  rw [ltI (by omega),cond_true,wrap_in (n:=(cy:Int)+1) (by omega) (by omega)]
  refine bind_of (x:=sT W v (2*((cy+1)*W))) ?_ rfl
  refine count_loop (fun cx=>sT W v (2*(cy*W+cx))) W (fun cx hx=>?_) ?_
  ·have hb:cy*W+cx+1≤H*W:=by
    have:(cy+1)*W≤H*W:=Nat.mul_le_mul_right _ hy
    rw [Nat.add_mul,Nat.one_mul] at this
    omega
   have h1:=sT_bd h (2*(cy*W+cx)) (by omega)
   have n00:=nv_bd h (cx:=(cx:Int)) (cy:=(cy:Int)) (by omega) (by omega) (by omega) (by omega)
   have n10:=nv_bd h (cx:=(cx:Int)+1) (cy:=(cy:Int)) (by omega) (by omega) (by omega) (by omega)
   have n11:=nv_bd h (cx:=(cx:Int)+1) (cy:=(cy:Int)+1) (by omega) (by omega) (by omega) (by omega)
   have n01:=nv_bd h (cx:=(cx:Int)) (cy:=(cy:Int)+1) (by omega) (by omega) (by omega) (by omega)
   dsimp only
   rw [ltI (by omega),cond_true,wrap_in (n:=(cx:Int)+1) (by omega) (by omega),node_ok w6 h6 (cx:=(cx:Int)) (cy:=(cy:Int)) (by omega) (by omega) (by omega) (by omega),node_ok w6 h6 (cx:=(cx:Int)+1) (cy:=(cy:Int)) (by omega) (by omega) (by omega) (by omega),node_ok w6 h6 (cx:=(cx:Int)+1) (cy:=(cy:Int)+1) (by omega) (by omega) (by omega) (by omega),node_ok w6 h6 (cx:=(cx:Int)) (cy:=(cy:Int)+1) (by omega) (by omega) (by omega) (by omega)]
   simp only [Option.bind_some]
   have e:sT W v (2*(cy*W+(cx+1)))=sT W v (2*(cy*W+cx))+(nv W v cx cy+nv W v (cx+1) cy+nv W v (cx+1) (cy+1))+(nv W v cx cy+nv W v (cx+1) (cy+1)+nv W v cx (cy+1)):=by
    rw [show 2*(cy*W+(cx+1))=2*(cy*W+cx)+1+1 by omega]
    show sT W v (2*(cy*W+cx))+tSum W v (2*(cy*W+cx))+tSum W v (2*(cy*W+cx)+1)=_
    unfold tSum
    rw [triF_low v hx,triF_upp v hx];rfl
   rw [e,wrap_in (n:=nv W v cx cy+nv W v (cx+1) cy) (by omega) (by omega),wrap_in (n:=nv W v cx cy+nv W v (cx+1) cy+_) (by omega) (by omega),wrap_in (n:=nv W v cx cy+nv W v (cx+1) (cy+1)) (by omega) (by omega),wrap_in (n:=nv W v cx cy+nv W v (cx+1) (cy+1)+_) (by omega) (by omega),wrap_in (n:=sT W v _+_) (by omega) (by omega),wrap_in (by omega) (by omega)]
  ·dsimp only
   rw [geI (by omega),cond_false,Nat.add_mul,Nat.one_mul]
 ·dsimp only
  rw [geI (by omega),cond_false]
theorem integral_ok {W H:Nat} {lo hi:Nat→Int} (h:OkF W H lo hi):m14 (fd W H lo hi)=some (sT W lo (2*(H*W)),sT W hi (2*(H*W))):=by
 unfold m14
 have v1:=valid_ok h
 unfold fd at v1 ⊢
 dsimp only
 rw [v1,Option.bind_some,notT,cond_false]
 refine bind_of (itE_ok h.okLo) ?_
 refine bind_of (itE_ok h.okHi) rfl
end Go.Proofs.YtechphmljdgoaaaGreatDoor
namespace Go.Proofs.YtechphmljdgoaaaGreatDoor
theorem qmul_nonneg {a b:Rat} (ha:0≤a) (hb:0≤b):0≤a*b:=Rat.mul_nonneg ha hb
theorem qdiv_mul {n d:Rat} (hd:0<d):n / d*d=n:=Rat.div_mul_cancel (by grind)
theorem qdiv_le {n d m:Rat} (hd:0<d) (h:n≤m*d):n / d≤m:=by
 have e:=qdiv_mul (n:=n) hd
 refine Rat.not_lt.1 fun hl=>?_
 have:=Rat.mul_lt_mul_of_pos_right hl hd
 grind
theorem qle_div {n d m:Rat} (hd:0<d) (h:m*d≤n):m≤n / d:=by
 have e:=qdiv_mul (n:=n) hd
 refine Rat.not_lt.1 fun hl=>?_
 have:=Rat.mul_lt_mul_of_pos_right hl hd
 grind
theorem qdiv_div_le {n d n' d':Rat} (hd:0<d) (hd':0<d') (h:n*d'≤n'*d):n / d≤n' / d':=by
 refine qdiv_le hd ?_
 have e:=qdiv_mul (n:=n') hd'
 generalize n' / d'=u at *
 subst e
 refine Rat.not_lt.1 fun hl=>?_
 have:=Rat.mul_lt_mul_of_pos_right hl hd'
 grind
def ar (a b c:Rat):Rat:=if 0<a then 1 / 2 else if 0<b then 1 / 2-a*a / (2*((b-a)*(c-a))) else if 0<c then c*c / (2*((c-a)*(c-b))) else 0
theorem ar_1 {a b c:Rat} (h:0<a):ar a b c=1 / 2:=if_pos h
theorem ar_2 {a b c:Rat} (h:a≤0) (hb:0<b):ar a b c=1 / 2-a*a / (2*((b-a)*(c-a))):=by unfold ar;rw [if_neg (by grind),if_pos hb]
theorem ar_3 {a b c:Rat} (h:a≤0) (hb:b≤0) (hc:0<c):ar a b c=c*c / (2*((c-a)*(c-b))):=by unfold ar;rw [if_neg (by grind),if_neg (by grind),if_pos hc]
theorem ar_4 {a b c:Rat} (h:a≤0) (hb:b≤0) (hc:c≤0):ar a b c=0:=by unfold ar;rw [if_neg (by grind),if_neg (by grind),if_neg (by grind)]
theorem pos2 {x y:Rat} (hx:0<x) (hy:0<y):0<2*(x*y):=by have:=Rat.mul_pos hx hy;grind
theorem sub2_le {a b c:Rat} (h:a≤0) (hb:0<b) (hc:b≤c):a*a / (2*((b-a)*(c-a)))≤(-a) / (2*(c-a)):=by
 have h1:0<b-a:=by grind
 have h2:0<c-a:=by grind
 refine qdiv_div_le (pos2 h1 h2) (by grind) ?_
 have:=qmul_nonneg (qmul_nonneg (show 0≤-a by grind) (show 0≤b by grind)) (show 0≤c-a by grind)
 grind
theorem ar3_le {a b c:Rat} (h:a≤b) (hb:b≤0) (hc:0<c):c*c / (2*((c-a)*(c-b)))≤c / (2*(c-a)):=by
 have h1:0<c-b:=by grind
 have h2:0<c-a:=by grind
 refine qdiv_div_le (pos2 h2 h1) (by grind) ?_
 have:=qmul_nonneg (qmul_nonneg (show 0≤c by grind) (show 0≤-b by grind)) (show 0≤c-a by grind)
 grind
theorem mid_eq {a c:Rat} (h:0<c-a):(1:Rat) / 2-(-a) / (2*(c-a))=c / (2*(c-a)):=by
 have h1:(0:Rat)<2*(c-a):=by grind
 have e1:=qdiv_mul (n:=-a) h1
 have e2:=qdiv_mul (n:=c) h1
 have e3:(c / (2*(c-a))+-a / (2*(c-a))-1 / 2)*(2*(c-a))=0:=by grind
 have:=Rat.mul_eq_zero.1 e3
 grind
theorem mid_bd {a c:Rat} (ha:a≤0) (hc:0≤c) (h:0<c-a):0≤c / (2*(c-a))∧c / (2*(c-a))≤1 / 2 :=
 ⟨qle_div (by grind) (by grind),qdiv_le (by grind) (by grind)⟩
theorem sq_nn (a:Rat):0≤a*a:=by
 by_cases h:0≤a
 ·exact qmul_nonneg h h
 ·have:=qmul_nonneg (show 0≤-a by grind) (show 0≤-a by grind)
  grind
theorem ar_bd {a b c:Rat} (h1:a≤b) (h2:b≤c):0≤ar a b c∧ar a b c≤1 / 2:=by
 by_cases ha:0<a
 ·rw [ar_1 ha];grind
 by_cases hb:0<b
 ·rw [ar_2 (by grind) hb]
  have:=sub2_le (a:=a) (b:=b) (c:=c) (by grind) hb h2
  have e:=mid_eq (a:=a) (c:=c) (by grind)
  have m:=mid_bd (a:=a) (c:=c) (by grind) (by grind) (by grind)
  have:0≤a*a / (2*((b-a)*(c-a))):=qle_div (pos2 (by grind) (by grind)) (by have:=sq_nn a;grind)
  grind
 by_cases hc:0<c
 ·rw [ar_3 (by grind) (by grind) hc]
  have:=ar3_le (a:=a) (b:=b) (c:=c) h1 (by grind) hc
  have m:=mid_bd (a:=a) (c:=c) (by grind) (by grind) (by grind)
  have:0≤c*c / (2*((c-a)*(c-b))):=qle_div (pos2 (by grind) (by grind)) (by have:=sq_nn c;grind)
  grind
 ·rw [ar_4 (by grind) (by grind) (by grind)];grind
theorem qmul_le {a b c d:Rat} (h1:a≤b) (h2:c≤d) (ha:0≤b) (hc:0≤c):a*c≤b*d:=by
 have e1:=Rat.mul_le_mul_of_nonneg_right h1 hc
 have e2:=Rat.mul_le_mul_of_nonneg_left h2 ha
 grind
theorem ar_c {a b c d:Rat} (h1:a≤b) (h2:b≤c) (h3:c≤d):ar a b c≤ar a b d:=by
 by_cases ha:0<a
 ·rw [ar_1 ha,ar_1 ha];grind
 by_cases hb:0<b
 ·rw [ar_2 (by grind) hb,ar_2 (by grind) hb]
  have:a*a / (2*((b-a)*(d-a)))≤a*a / (2*((b-a)*(c-a))):=by
   refine qdiv_div_le (pos2 (by grind) (by grind)) (pos2 (by grind) (by grind)) ?_
   have:=qmul_nonneg (qmul_nonneg (sq_nn a) (show 0≤b-a by grind)) (show 0≤d-c by grind)
   grind
  grind
 by_cases hc:0<c
 ·rw [ar_3 (by grind) (by grind) hc,ar_3 (by grind) (by grind) (by grind)]
  refine qdiv_div_le (pos2 (by grind) (by grind)) (pos2 (by grind) (by grind)) ?_
  have x1:c*(d-a)≤d*(c-a):=by have:=qmul_nonneg (show 0≤-a by grind) (show 0≤d-c by grind);grind
  have x2:c*(d-b)≤d*(c-b):=by have:=qmul_nonneg (show 0≤-b by grind) (show 0≤d-c by grind);grind
  have:=qmul_le x1 x2 (qmul_nonneg (by grind) (by grind)) (qmul_nonneg (by grind) (by grind))
  grind
 ·rw [ar_4 (by grind) (by grind) (by grind)];exact (ar_bd h1 (by grind)).1
theorem ar_b {a b c d:Rat} (h1:a≤b) (h2:b≤d) (h3:d≤c):ar a b c≤ar a d c:=by
 by_cases ha:0<a
 ·rw [ar_1 ha,ar_1 ha];grind
 by_cases hb:0<b
 ·rw [ar_2 (by grind) hb,ar_2 (by grind) (by grind)]
  have:a*a / (2*((d-a)*(c-a)))≤a*a / (2*((b-a)*(c-a))):=by
   refine qdiv_div_le (pos2 (by grind) (by grind)) (pos2 (by grind) (by grind)) ?_
   have:=qmul_nonneg (qmul_nonneg (sq_nn a) (show 0≤c-a by grind)) (show 0≤d-b by grind)
   grind
  grind
 by_cases hc:0<c
 ·by_cases hd:0<d
  ·rw [ar_3 (by grind) (by grind) hc,ar_2 (by grind) hd]
   have x1:=ar3_le (a:=a) (b:=b) (c:=c) h1 (by grind) hc
   have x2:=sub2_le (a:=a) (b:=d) (c:=c) (by grind) hd h3
   have e:=mid_eq (a:=a) (c:=c) (by grind)
   grind
  ·rw [ar_3 (by grind) (by grind) hc,ar_3 (by grind) (by grind) hc]
   refine qdiv_div_le (pos2 (by grind) (by grind)) (pos2 (by grind) (by grind)) ?_
   have:=qmul_nonneg (qmul_nonneg (sq_nn c) (show 0≤c-a by grind)) (show 0≤d-b by grind)
   grind
 ·rw [ar_4 (by grind) (by grind) (by grind)];exact (ar_bd (by grind) h3).1
theorem ar_a {a b c d:Rat} (h1:a≤d) (h2:d≤b) (h3:b≤c):ar a b c≤ar d b c:=by
 by_cases hd:0<d
 ·rw [ar_1 hd];exact (ar_bd (by grind) h3).2
 by_cases hb:0<b
 ·rw [ar_2 (by grind) hb,ar_2 (by grind) hb]
  have:d*d / (2*((b-d)*(c-d)))≤a*a / (2*((b-a)*(c-a))):=by
   refine qdiv_div_le (pos2 (by grind) (by grind)) (pos2 (by grind) (by grind)) ?_
   have x1:(-d)*(b-a)≤(-a)*(b-d):=by have:=qmul_nonneg (show 0≤b by grind) (show 0≤d-a by grind);grind
   have x2:(-d)*(c-a)≤(-a)*(c-d):=by have:=qmul_nonneg (show 0≤c by grind) (show 0≤d-a by grind);grind
   have:=qmul_le x1 x2 (qmul_nonneg (by grind) (by grind)) (qmul_nonneg (by grind) (by grind))
   grind
  grind
 by_cases hc:0<c
 ·rw [ar_3 (by grind) (by grind) hc,ar_3 (by grind) (by grind) hc]
  refine qdiv_div_le (pos2 (by grind) (by grind)) (pos2 (by grind) (by grind)) ?_
  have:=qmul_nonneg (qmul_nonneg (sq_nn c) (show 0≤c-b by grind)) (show 0≤d-a by grind)
  grind
 ·rw [ar_4 (by grind) (by grind) (by grind)];exact (ar_bd h2 h3).1
theorem ar_mono {a b c a' b' c':Rat} (h1:a≤b) (h2:b≤c) (h3:a'≤b') (h4:b'≤c') (x:a≤a') (y:b≤b') (z:c≤c'):ar a b c≤ar a' b' c':=by
 have e1:=ar_c h1 h2 z
 have e2:=ar_b h1 y h4
 have e3:=ar_a x h3 h4
 grind
theorem ar_int {a b c n:Rat} (h0:0≤a) (h1:a≤b) (h2:b≤c) (hn:0≤n):6*(ar (a-n) (b-n) (c-n)*n)≤a+b+c:=by
 by_cases ha:0<a-n
 ·rw [ar_1 ha];grind
 by_cases hb:0<b-n
 ·rw [ar_2 (by grind) hb]
  have hD:0<2*((b-n-(a-n))*(c-n-(a-n))):=pos2 (by grind) (by grind)
  have e:=qdiv_mul (n:=(a-n)*(a-n)) hD
  generalize (a-n)*(a-n) / (2*((b-n-(a-n))*(c-n-(a-n))))=u at *
  refine Rat.not_lt.1 fun hl=>?_
  have hl2:=Rat.mul_lt_mul_of_pos_right hl hD
  have hu:6*((1 / 2-u)*n)*(2*((b-n-(a-n))*(c-n-(a-n))))=6*(n*((b-a)*(c-a)))-6*(n*((a-n)*(a-n))):=by grind
  rw [hu] at hl2
  have k1:=qmul_nonneg (qmul_nonneg (show 0≤b-n by grind) (show 0≤c-n by grind)) (show 0≤n-a by grind)
  have k2:=qmul_nonneg (qmul_nonneg (show 0≤n-a by grind) (show 0≤n-a by grind)) (show 0≤n-a by grind)
  have k3:=qmul_nonneg (qmul_nonneg (show 0≤n-a by grind) (show 0≤n-a by grind)) (show 0≤a by grind)
  have k4:=qmul_nonneg (qmul_nonneg (show 0≤b-n by grind) (show 0≤c-n by grind)) (show 0≤b-n by grind)
  have k5:=qmul_nonneg (qmul_nonneg (show 0≤b-n by grind) (show 0≤c-n by grind)) (show 0≤c-n by grind)
  have k6:=qmul_nonneg (qmul_nonneg (show 0≤b-n by grind) (show 0≤b-n by grind)) (show 0≤n-a by grind)
  have k7:=qmul_nonneg (qmul_nonneg (show 0≤c-n by grind) (show 0≤c-n by grind)) (show 0≤n-a by grind)
  grind
 by_cases hc:0<c-n
 ·rw [ar_3 (by grind) (by grind) hc]
  have hD:0<2*((c-n-(a-n))*(c-n-(b-n))):=pos2 (by grind) (by grind)
  have e:=qdiv_mul (n:=(c-n)*(c-n)) hD
  generalize (c-n)*(c-n) / (2*((c-n-(a-n))*(c-n-(b-n))))=u at *
  refine Rat.not_lt.1 fun hl=>?_
  have hl2:=Rat.mul_lt_mul_of_pos_right hl hD
  have hu:6*(u*n)*(2*((c-n-(a-n))*(c-n-(b-n))))=6*(n*((c-n)*(c-n))):=by grind
  rw [hu] at hl2
  obtain ⟨s,hs⟩:∃ s,s=c-n:=⟨_,rfl⟩
  obtain ⟨p,hp⟩:∃ p,p=n-b:=⟨_,rfl⟩
  obtain ⟨q,hq⟩:∃ q,q=b-a:=⟨_,rfl⟩
  have s0:0<s:=by grind
  have t0:0≤s:=by grind
  have p0:0≤p:=by grind
  have q0:0≤q:=by grind
  have eb:b=a+q:=by grind
  have en:n=a+q+p:=by grind
  have ec:c=a+q+p+s:=by grind
  subst eb en ec
  have a1:=qmul_nonneg (qmul_nonneg h0 p0) q0
  have a2:=qmul_nonneg (qmul_nonneg h0 p0) p0
  have a3:=qmul_nonneg (qmul_nonneg h0 p0) (show 0≤s by grind)
  have a4:=qmul_nonneg (qmul_nonneg h0 q0) (show 0≤s by grind)
  have b1:=qmul_nonneg (qmul_nonneg t0 t0) t0
  have b2:=qmul_nonneg (qmul_nonneg t0 t0) p0
  have b3:=qmul_nonneg (qmul_nonneg t0 t0) q0
  have b4:=qmul_nonneg (qmul_nonneg t0 p0) p0
  have b5:=qmul_nonneg (qmul_nonneg t0 p0) q0
  have b6:=qmul_nonneg (qmul_nonneg t0 q0) q0
  have b7:=qmul_nonneg (qmul_nonneg p0 p0) p0
  have b8:=qmul_nonneg (qmul_nonneg p0 p0) q0
  have b9:=qmul_nonneg (qmul_nonneg p0 q0) q0
  have c1:=qmul_nonneg (sq_nn (q-s)) t0
  have c2:=qmul_nonneg (sq_nn (p-s)) t0
  have c3:=qmul_nonneg (sq_nn (q-s)) p0
  have c4:=qmul_nonneg (sq_nn (p+q-s)) t0
  grind
 ·rw [ar_4 (by grind) (by grind) (by grind)];grind
end Go.Proofs.YtechphmljdgoaaaGreatDoor
namespace Go.Proofs.YtechphmljdgoaaaGreatDoor
def Dn (D B:Nat) (q:Rat):Prop:=∃ z:Int,q*(D:Rat)=(z:Rat)∧z.natAbs≤B*D
theorem mul_den (q:Rat):q*(q.den:Rat)=(q.num:Rat):=by
 have h:((q.den:Int):Rat)≠0:=fun e=>q.den_nz (by have:=Rat.intCast_inj.1 (show ((q.den:Int):Rat)=((0:Int):Rat) from e);omega)
 have e:q=(q.num:Rat) / ((q.den:Int):Rat):=by rw [← Rat.divInt_eq_div];exact (Rat.num_divInt_den q).symm
 have:=Rat.div_mul_cancel (a:=(q.num:Rat)) h
 rw [← e,Rat.intCast_natCast] at this
 exact this
theorem Dn.num_den {D B:Nat} {q:Rat} (hD:0<D) (h:Dn D B q):q.den≤D∧q.num.natAbs≤B*D:=by
 obtain ⟨z,e,hz⟩:=h
 have hd:=q.den_pos
 have e1:q*(q.den:Rat)=(q.num:Rat):=mul_den q
 have e2:q.num*(D:Int)=z*(q.den:Int):=by
  have:((q.num*(D:Int):Int):Rat)=((z*(q.den:Int):Int):Rat):=by
   rw [Rat.intCast_mul,Rat.intCast_mul,← e,← e1,Rat.intCast_natCast,Rat.intCast_natCast]
   grind
  exact Rat.intCast_inj.1 this
 have e3:q.num.natAbs*D=z.natAbs*q.den:=by
  have:=congrArg Int.natAbs e2
  rwa [Int.natAbs_mul,Int.natAbs_mul,Int.natAbs_natCast,Int.natAbs_natCast] at this
 have hdv:q.den ∣ D:=by
  have h1:q.den ∣ q.num.natAbs*D:=⟨z.natAbs,by rw [e3,Nat.mul_comm]⟩
  exact (Nat.Coprime.symm q.reduced).dvd_of_dvd_mul_left h1
 have hle:=Nat.le_of_dvd hD hdv
 refine ⟨hle,?_⟩
 have h1:q.num.natAbs*D≤B*q.den*D:=by
  rw [e3]
  have:=Nat.mul_le_mul_right q.den hz
  rw [Nat.mul_right_comm] at this
  exact this
 have h2:=Nat.le_of_mul_le_mul_right h1 hD
 exact Nat.le_trans h2 (Nat.mul_le_mul_left B hle)
theorem Dn.add {D B C:Nat} {p q:Rat} (hp:Dn D B p) (hq:Dn D C q):Dn D (B+C) (p+q):=by
 obtain ⟨z,e,hz⟩:=hp
 obtain ⟨w,f,hw⟩:=hq
 refine ⟨z+w,?_,?_⟩
 ·rw [Rat.intCast_add,← e,← f];grind
 ·rw [Nat.add_mul];omega
theorem Dn.mono {D B C:Nat} {q:Rat} (h:Dn D B q) (hB:B≤C):Dn D C q:=by
 obtain ⟨z,e,hz⟩:=h
 exact ⟨z,e,Nat.le_trans hz (Nat.mul_le_mul_right D hB)⟩
theorem Dn.zero {D:Nat}:Dn D 0 0:=⟨0,by rw [Rat.zero_mul];rfl,by omega⟩
theorem divInt_eq (n d:Int):Rat.divInt n d=(n:Rat) / (d:Rat):=by exact Rat.divInt_eq_div n d
theorem Dn.of {D B:Nat} {n d:Int} (h0:d≠0) (hd:d ∣ (D:Int)) (hn:n.natAbs≤B*d.natAbs):Dn D B (Rat.divInt n d):=by
 obtain ⟨k,hk⟩:=hd
 have hd0:(d:Rat)≠0:=fun e=>h0 (Rat.intCast_inj.1 (by simpa using e))
 refine ⟨n*k,?_,?_⟩
 ·rw [divInt_eq,← Rat.intCast_natCast,hk,Rat.intCast_mul,Rat.intCast_mul,← Rat.mul_assoc,Rat.div_mul_cancel hd0]
 ·have e:D=d.natAbs*k.natAbs:=by have:=congrArg Int.natAbs hk;rwa [Int.natAbs_mul,Int.natAbs_natCast] at this
  rw [e,Int.natAbs_mul,← Nat.mul_assoc]
  exact Nat.mul_le_mul_right _ hn
theorem Dn.mul_int {D B C:Nat} {q:Rat} {k:Int} (h:Dn D B q) (hk:k.natAbs≤C):Dn D (B*C) (q*(k:Rat)):=by
 obtain ⟨z,e,hz⟩:=h
 refine ⟨z*k,?_,?_⟩
 ·rw [Rat.intCast_mul,← e];grind
 ·rw [Int.natAbs_mul]
  have:=Nat.mul_le_mul hz hk
  rwa [Nat.mul_right_comm] at this
end Go.Proofs.YtechphmljdgoaaaGreatDoor
namespace Go.Proofs.YtechphmljdgoaaaGreatDoor
def trn (a b c:Int×Int):Int:=(b.1-a.1)*(c.2-a.2)-(b.2-a.2)*(c.1-a.1)
def farD (a b:Int×Int):Int:=(a.1-b.1)*(a.1-b.1)+(a.2-b.2)*(a.2-b.2)
def evP (G:Int×Int×Int) (p:Int×Int):Int:=G.1*p.1+G.2.1*p.2+G.2.2
def ExtP (S:List (Int×Int)) (a:Int×Int):Prop:=∃ G,evP G a=0∧∀ p∈S,p≠a→0<evP G p
def Suc (S:List (Int×Int)) (a c:Int×Int):Prop:=c∈S∧c≠a∧∀ p∈S,p≠a→0<trn a c p∨(trn a c p=0∧farD a p≤farD a c)
theorem ev_prop {G:Int×Int×Int} {a c p:Int×Int} (h0:evP G a=0) (h:trn a c p=0):evP G c*(p.1-a.1)=evP G p*(c.1-a.1)∧evP G c*(p.2-a.2)=evP G p*(c.2-a.2):=by
 unfold evP trn at *
 constructor<;>grind
theorem sq0 (x:Int):0≤x*x:=by
 rcases Int.le_total 0 x with h | h
 ·exact Int.mul_nonneg h h
 ·have:=Int.mul_nonneg (show 0≤-x by omega) (show 0≤-x by omega);rwa [Int.neg_mul_neg] at this
theorem farD_pos {a c:Int×Int} (h:c≠a):0<farD a c:=by
 unfold farD
 have h1:∀ x:Int,0≤x*x:=fun x=>sq0 x
 have h2:∀ x:Int,x≠0→0<x*x:=fun x hx=>by
  have:=h1 x
  have:x*x≠0:=Int.mul_ne_zero hx hx
  omega
 by_cases e:a.1-c.1=0
 ·have e2:a.2-c.2≠0:=fun e2=>h (Prod.ext (by omega) (by omega))
  have:=h2 _ e2
  have:=h1 (a.1-c.1)
  omega
 ·have:=h2 _ e
  have:=h1 (a.2-c.2)
  omega
theorem seg {G:Int×Int×Int} {a c p:Int×Int} (h0:evP G a=0) (hc:0<evP G c) (hp:0<evP G p) (hca:c≠a) (h:trn a c p=0) (hf:farD a p≤farD a c):evP G p≤evP G c∧(evP G p=evP G c→p=c):=by
 obtain ⟨e1,e2⟩:=ev_prop h0 h
 have hpos:=farD_pos hca
 have key:evP G c*evP G c*farD a p=evP G p*evP G p*farD a c:=by unfold farD;grind
 generalize hgc:evP G c=x at *
 generalize hgp:evP G p=y at *
 constructor
 ·refine Int.not_lt.1 fun hl=>?_
  have k1:x*x<y*y:=by
   have:=Int.mul_lt_mul_of_pos_left hl hc
   have:=Int.mul_lt_mul_of_pos_right hl hp
   omega
  have k2:=Int.mul_lt_mul_of_pos_right k1 hpos
  have k3:=Int.mul_le_mul_of_nonneg_left hf (sq0 x)
  omega
 ·intro e
  subst e
  have f1:=Int.eq_of_mul_eq_mul_left (by omega) e1
  have f2:=Int.eq_of_mul_eq_mul_left (by omega) e2
  exact Prod.ext (by omega) (by omega)
theorem no_mid {S:List (Int×Int)} {a c b:Int×Int} (ha:ExtP S a) (haS:a∈S) (hs:Suc S a c) (hb:ExtP S b) (hbS:b∈S) (h:trn a c b=0) (h1:b≠a) (h2:b≠c):False:=by
 obtain ⟨G,g0,g1⟩:=ha
 obtain ⟨K,k0,k1⟩:=hb
 obtain ⟨cS,ca,hall⟩:=hs
 have hf:farD a b≤farD a c:=by
  rcases hall b hbS h1 with x | x
  ·omega
  ·exact x.2
 obtain ⟨m1,m2⟩:=seg g0 (g1 c cS ca) (g1 b hbS h1) ca h hf
 have m3:evP G b<evP G c:=by
  have:evP G b≠evP G c:=fun e=>h2 (m2 e)
  omega
 obtain ⟨e1,e2⟩:=ev_prop (G:=G) g0 h
 have p1:=k1 a haS (fun e=>h1 e.symm)
 have p2:=k1 c cS (fun e=>h2 e.symm)
 have q:=g1 b hbS h1
 have key:(evP G c-evP G b)*evP K a+evP G b*evP K c=evP G c*evP K b:=by
  generalize evP G c=x at *
  generalize evP G b=y at *
  have t:x*(evP K b-evP K a)=y*(evP K c-evP K a):=by unfold evP;grind
  grind
 rw [k0,Int.mul_zero] at key
 have:=Int.mul_pos (show 0<evP G c-evP G b by omega) p1
 have:=Int.mul_pos q p2
 omega
theorem big {α:Type} (S:List α) (f:α→Int):∃ M:Int,0≤M∧∀ p∈S,f p<M:=by
 induction S with
 | nil=>exact ⟨0,by omega,fun p hp=>by cases hp⟩
 | cons x l ih =>
  obtain ⟨M,h0,h⟩:=ih
  refine ⟨max M (f x+1),by omega,fun p hp=>?_⟩
  rcases List.mem_cons.1 hp with rfl | hp
  ·omega
  ·have:=h p hp;omega
theorem ext_suc {S:List (Int×Int)} {a c:Int×Int} (ha:ExtP S a) (haS:a∈S) (hs:Suc S a c):ExtP S c:=by
 obtain ⟨G,g0,g1⟩:=ha
 obtain ⟨cS,ca,hall⟩:=hs
 obtain ⟨M,hM0,hM⟩:=big S (fun p=>evP G p-evP G c)
 refine ⟨(M*(-(c.2-a.2))-G.1,M*(c.1-a.1)-G.2.1,M*((c.2-a.2)*a.1-(c.1-a.1)*a.2)+evP G c-G.2.2),?_,fun p hp hpc=>?_⟩
 ·unfold evP;grind
 ·have e:evP (M*(-(c.2-a.2))-G.1,M*(c.1-a.1)-G.2.1,M*((c.2-a.2)*a.1-(c.1-a.1)*a.2)+evP G c-G.2.2) p=M*trn a c p+evP G c-evP G p:=by unfold evP trn;grind
  rw [e]
  have hMp:=hM p hp
  have hgc:=g1 c cS ca
  by_cases hpa:p=a
  ·subst hpa
   have:trn p c p=0:=by unfold trn;grind
   rw [this,g0];omega
  ·rcases hall p hp hpa with x | ⟨x,y⟩
   ·have:=Int.mul_le_mul_of_nonneg_left (show 1≤trn a c p by omega) hM0
    omega
   ·obtain ⟨m1,m2⟩:=seg g0 hgc (g1 p hp hpa) ca x y
    have:evP G p≠evP G c:=fun e=>hpc (m2 e)
    rw [x,Int.mul_zero];omega
theorem suc_inj {S:List (Int×Int)} {a b c:Int×Int} (ha:ExtP S a) (haS:a∈S) (hb:ExtP S b) (hbS:b∈S) (h1:Suc S a c) (h2:Suc S b c):a=b:=by
 refine Decidable.byContradiction fun hab=>?_
 have t1:0≤trn a c b:=by rcases h1.2.2 b hbS (fun e=>hab e.symm) with x | x<;>omega
 have t2:0≤trn b c a:=by rcases h2.2.2 a haS hab with x | x<;>omega
 have e:trn b c a=- trn a c b:=by unfold trn;grind
 exact no_mid ha haS h1 hb hbS (by omega) (fun e=>hab e.symm) (fun e=>h2.2.1 e.symm)
structure Chn (S l:List (Int×Int)):Prop where
 pos:0<l.length
 nd:l.Nodup
 mem:∀ i,i<l.length→l.getD i (0,0)∈S∧ExtP S (l.getD i (0,0))
 suc:∀ i,i+1<l.length→Suc S (l.getD i (0,0)) (l.getD (i+1) (0,0))
theorem getD_eq {l:List (Int×Int)} {i:Nat} (h:i<l.length):l.getD i (0,0)=l[i]:=by simp [List.getD,h]
theorem nd_getD {l:List (Int×Int)} (h:l.Nodup) {i j:Nat} (hi:i<l.length) (hj:j<l.length) (e:l.getD i (0,0)=l.getD j (0,0)):i=j:=by
 rw [getD_eq hi,getD_eq hj] at e
 exact (List.getElem_inj h).1 e
theorem mem_getD {l:List (Int×Int)} {x:Int×Int} (h:x∈l):∃ j,j<l.length∧x=l.getD j (0,0):=by
 obtain ⟨j,hj,e⟩:=List.getElem_of_mem h
 exact ⟨j,hj,by rw [getD_eq hj,e]⟩
theorem Chn.one {S:List (Int×Int)} {f:Int×Int} (hf:f∈S) (h:ExtP S f):Chn S [f]:=by
 refine ⟨Nat.zero_lt_one,by simp,fun i hi=>?_,fun i hi=>by simp at hi⟩
 rw [show i=0 by simpa using hi]
 exact ⟨hf,h⟩
theorem getD_app {l:List (Int×Int)} {c:Int×Int} (i:Nat) (h:i<l.length):(l++[c]).getD i (0,0)=l.getD i (0,0):=by
 rw [getD_eq (by simp;omega),getD_eq h,List.getElem_append_left h]
theorem getD_last {l:List (Int×Int)} {c:Int×Int}:(l++[c]).getD l.length (0,0)=c:=by
 rw [getD_eq (by simp)];simp
theorem Chn.app {S l:List (Int×Int)} {c:Int×Int} (h:Chn S l) (hs:Suc S (l.getD (l.length-1) (0,0)) c) (hc:c≠l.getD 0 (0,0)):Chn S (l++[c]):=by
 have hp:=h.pos
 have hm:=h.mem (l.length-1) (by omega)
 have hnot:c∉l:=fun hcl=>by
  obtain ⟨j,hj,e⟩:=mem_getD hcl
  match j with
  | 0=>exact hc e
  | j+1 =>
   have h1:=h.suc j hj
   rw [← e] at h1
   have hmj:=h.mem j (by omega)
   have:=nd_getD h.nd (by omega) (by omega) (suc_inj hmj.2 hmj.1 hm.2 hm.1 h1 hs)
   omega
 refine ⟨by simp,?_,fun i hi=>?_,fun i hi=>?_⟩
 ·rw [List.nodup_append]
  refine ⟨h.nd,by simp,fun a ha b hb e=>?_⟩
  rw [List.mem_singleton.1 hb] at e
  exact hnot (e▸ha)
 ·rw [List.length_append,List.length_singleton] at hi
  by_cases e:i<l.length
  ·rw [getD_app i e];exact h.mem i e
  ·rw [show i=l.length by omega,getD_last];exact ⟨hs.1,ext_suc hm.2 hm.1 hs⟩
 ·rw [List.length_append,List.length_singleton] at hi
  rw [getD_app i (by omega)]
  by_cases e:i+1<l.length
  ·rw [getD_app _ e];exact h.suc i e
  ·rw [show i+1=l.length by omega,getD_last,show i=l.length-1 by omega];exact hs
theorem Chn.len {S l:List (Int×Int)} (h:Chn S l):l.length≤S.length :=
 List.Nodup.length_le_of_subset h.nd (fun x hx=>by obtain ⟨j,hj,e⟩:=mem_getD hx;rw [e];exact (h.mem j hj).1)
end Go.Proofs.YtechphmljdgoaaaGreatDoor
namespace Go.Proofs.YtechphmljdgoaaaGreatDoor
abbrev Spt:=Int×Int×Int
def lev (L:Spt) (s:Spt):Int:=L.1*s.1+L.2.1*s.2.1+L.2.2*s.2.2
structure Mix (s t c:Spt):Prop where
 ex:∃ k p q:Int,0<k∧0<p∧0<q∧k*c.1=p*s.1+q*t.1∧k*c.2.1=p*s.2.1+q*t.2.1∧k*c.2.2=p*s.2.2+q*t.2.2
 red:Int.gcd (Int.gcd c.1 c.2.1) c.2.2=1
theorem Mix.at {s t c:Spt} (h:Mix s t c) (F:Spt):∃ k p q:Int,0<k∧0<p∧0<q∧k*lev F c=p*lev F s+q*lev F t:=by
 obtain ⟨k,p,q,hk,hp,hq,e1,e2,e3⟩:=h.ex
 refine ⟨k,p,q,hk,hp,hq,?_⟩
 unfold lev
 grind
theorem Mix.nn {s t c:Spt} (h:Mix s t c) (F:Spt) (h1:0≤lev F s) (h2:0≤lev F t):0≤lev F c:=by
 obtain ⟨k,p,q,hk,hp,hq,e⟩:=h.at F
 have a:=Int.mul_nonneg (show 0≤p by omega) h1
 have b:=Int.mul_nonneg (show 0≤q by omega) h2
 exact Int.nonneg_of_mul_nonneg_right (a:=k) (by rw [e];omega) hk
theorem Mix.zero {s t c:Spt} (h:Mix s t c) (F:Spt) (h1:lev F s=0) (h2:lev F t=0):lev F c=0:=by
 obtain ⟨k,p,q,hk,hp,hq,e⟩:=h.at F
 rw [h1,h2,Int.mul_zero,Int.mul_zero] at e
 rcases Int.mul_eq_zero.1 (e.trans rfl) with x | x
 ·omega
 ·exact x
def Eg (s t:Spt):Prop:=∃ e:Spt,e.1.natAbs≤6∧e.2.1.natAbs≤6∧¬ (e.1=0∧e.2.1=0)∧lev e s=0∧lev e t=0
def adS (l:List Spt) (s:Spt):List Spt:=if l.getLast? = some s then l else l++[s]
def redS (s:Spt):Spt:=let k:Int:=if s.2.2<0 then -(Int.gcd (Int.gcd s.1 s.2.1) s.2.2:Int) else Int.gcd (Int.gcd s.1 s.2.1) s.2.2;(s.1 / k,s.2.1 / k,s.2.2 / k)
def crS (h t:Int) (s n:Spt):Spt:=redS (s.1*t-n.1*h,s.2.1*t-n.2.1*h,s.2.2*t-n.2.2*h)
theorem redS_ok {s:Spt} (h:s.2.2≠0):∃ k:Int,(0<k↔0<s.2.2)∧k≠0∧k*(redS s).1=s.1∧k*(redS s).2.1=s.2.1∧k*(redS s).2.2=s.2.2∧Int.gcd (Int.gcd (redS s).1 (redS s).2.1) (redS s).2.2=1:=by
 have hg:Int.gcd (Int.gcd s.1 s.2.1) s.2.2≠0:=fun e=>h (Int.gcd_eq_zero_iff.1 e).2
 obtain ⟨k,hk⟩:∃ k:Int,k=if s.2.2<0 then -(Int.gcd (Int.gcd s.1 s.2.1) s.2.2:Int) else Int.gcd (Int.gcd s.1 s.2.1) s.2.2:=⟨_,rfl⟩
 have hka:k.natAbs=Int.gcd (Int.gcd s.1 s.2.1) s.2.2:=by rw [hk];split<;>omega
 have hk0:k≠0:=by omega
 have d3:k ∣ s.2.2:=by rw [← Int.natAbs_dvd,hka];exact Int.gcd_dvd_right _ _
 have d12:k ∣ (Int.gcd s.1 s.2.1:Int):=by rw [← Int.natAbs_dvd,hka];exact Int.gcd_dvd_left _ _
 have d1:k ∣ s.1:=Int.dvd_trans d12 (Int.gcd_dvd_left _ _)
 have d2:k ∣ s.2.1:=Int.dvd_trans d12 (Int.gcd_dvd_right _ _)
 have e1:=Int.mul_ediv_cancel' d1
 have e2:=Int.mul_ediv_cancel' d2
 have e3:=Int.mul_ediv_cancel' d3
 have er:redS s=(s.1 / k,s.2.1 / k,s.2.2 / k):=by unfold redS;dsimp only;rw [← hk]
 rw [er]
 refine ⟨k,?_,hk0,e1,e2,e3,?_⟩
 ·rw [hk];split<;>omega
 ·dsimp only
  have:=hka
  conv at this=>rhs;rw [← e1,← e2,← e3]
  rw [Int.gcd_mul_left] at this
  have h2:Int.gcd ((k.natAbs*Int.gcd (s.1 / k) (s.2.1 / k):Nat):Int) (k*(s.2.2 / k))=k.natAbs*Int.gcd (Int.gcd (s.1 / k) (s.2.1 / k)) (s.2.2 / k):=by
   have:((k.natAbs*Int.gcd (s.1 / k) (s.2.1 / k):Nat):Int).gcd (k*(s.2.2 / k))=Int.gcd (k*(Int.gcd (s.1 / k) (s.2.1 / k):Int)) (k*(s.2.2 / k)):=by
    have e:Int.natAbs ((k.natAbs*Int.gcd (s.1 / k) (s.2.1 / k):Nat):Int)=Int.natAbs (k*(Int.gcd (s.1 / k) (s.2.1 / k):Int)):=by rw [Int.natAbs_natCast,Int.natAbs_mul,Int.natAbs_natCast]
    show Nat.gcd _ _=Nat.gcd _ _
    rw [e]
   rw [this,Int.gcd_mul_left]
  rw [h2] at this
  have hp:0<k.natAbs:=by omega
  exact (Nat.eq_of_mul_eq_mul_left hp (by rw [← this,Nat.mul_one])).symm
theorem crS_mix {h t:Int} {s n:Spt} (hd:0<s.2.2) (hd2:0<n.2.2) (hh:(0<h∧t<0)∨(h<0∧0<t)):Mix s n (crS h t s n):=by
 rcases hh with ⟨h1,h2⟩ | ⟨h1,h2⟩
 ·have hn:s.2.2*t-n.2.2*h<0:=by
   have:=Int.mul_neg_of_pos_of_neg hd h2
   have:=Int.mul_pos hd2 h1
   omega
  obtain ⟨k,k1,k2,e1,e2,e3,er⟩:=redS_ok (s:=(s.1*t-n.1*h,s.2.1*t-n.2.1*h,s.2.2*t-n.2.2*h)) (by dsimp only;omega)
  refine ⟨⟨-k,-t,h,?_,by omega,by omega,?_,?_,?_⟩,er⟩
  ·dsimp only at k1;omega
  all_goals
   unfold crS
   dsimp only at e1 e2 e3
   grind
 ·have hn:0<s.2.2*t-n.2.2*h:=by
   have:=Int.mul_pos hd h2
   have:=Int.mul_neg_of_pos_of_neg hd2 h1
   omega
  obtain ⟨k,k1,k2,e1,e2,e3,er⟩:=redS_ok (s:=(s.1*t-n.1*h,s.2.1*t-n.2.1*h,s.2.2*t-n.2.2*h)) (by dsimp only;omega)
  refine ⟨⟨k,t,-h,?_,by omega,by omega,?_,?_,?_⟩,er⟩
  ·dsimp only at k1;omega
  all_goals
   unfold crS
   dsimp only at e1 e2 e3
   grind
abbrev z3:Spt:=(0,0,0)
def clS (L:Spt) (o:List Spt) (s n:Spt):List Spt :=
 let o2:=if 0≤lev L s then adS o s else o
 if (0<lev L s∧lev L n<0)∨(lev L s<0∧0<lev L n) then adS o2 (crS (lev L s) (lev L n) s n) else o2
theorem adS_cases (l:List Spt) (s:Spt):(l.getLast? = some s∧adS l s=l)∨(l.getLast? ≠ some s∧adS l s=l++[s]):=by
 unfold adS
 by_cases h:l.getLast? = some s
 ·exact .inl ⟨h,if_pos h⟩
 ·exact .inr ⟨h,if_neg h⟩
inductive Ach:List Spt→Prop
 | nil:Ach []
 | app {l:List Spt} {s:Spt} (h:Ach l) (e:∀ z,l.getLast? = some z→Eg z s):Ach (l++[s])
theorem Ach.adS {l:List Spt} {s:Spt} (h:Ach l) (e:∀ z,l.getLast? = some z→Eg z s):Ach (adS l s):=by
 rcases adS_cases l s with ⟨_,q⟩ | ⟨_,q⟩
 ·rw [q];exact h
 ·rw [q];exact .app h e
theorem getD_app3 {l:List Spt} {c:Spt} {i:Nat} (h:i<l.length):(l++[c]).getD i z3=l.getD i z3:=by
 simp [List.getD,List.getElem?_append_left h]
theorem getD_last3 {l:List Spt} (h:0<l.length):l.getLast? = some (l.getD (l.length-1) z3):=by
 rw [List.getLast?_eq_getElem?]
 have:l.length-1<l.length:=by omega
 simp [List.getD,this]
theorem Ach.get {l:List Spt} (h:Ach l):∀ i,i+1<l.length→Eg (l.getD i z3) (l.getD (i+1) z3):=by
 induction h with
 | nil=>intro i hi;simp at hi
 | @app l s h e ih =>
  intro i hi
  rw [List.length_append,List.length_singleton] at hi
  rw [getD_app3 (by omega)]
  by_cases hx:i+1<l.length
  ·rw [getD_app3 hx];exact ih i hx
  ·have e1:(l++[s]).getD (i+1) z3=s:=by
    rw [show i+1=l.length by omega];simp [List.getD]
   rw [e1]
   refine e _ ?_
   rw [getD_last3 (by omega),show l.length-1=i by omega]
end Go.Proofs.YtechphmljdgoaaaGreatDoor
namespace Go.Proofs.YtechphmljdgoaaaGreatDoor
def dt3 (p q r:Spt):Int:=p.1*(q.2.1*r.2.2-q.2.2*r.2.1)-p.2.1*(q.1*r.2.2-q.2.2*r.1)+p.2.2*(q.1*r.2.1-q.2.1*r.1)
theorem dt3_rot (p q r:Spt):dt3 p q r=dt3 r p q:=by unfold dt3;grind
theorem dt3_mix3 {s t c:Spt} (h:Mix s t c) (x y:Spt) (h1:0≤dt3 x y s) (h2:0≤dt3 x y t):0≤dt3 x y c:=by
 have e:∀ z,dt3 x y z=lev (x.2.1*y.2.2-x.2.2*y.2.1,x.2.2*y.1-x.1*y.2.2,x.1*y.2.1-x.2.1*y.1) z:=fun z=>by unfold dt3 lev;grind
 rw [e] at h1 h2 ⊢
 exact h.nn _ h1 h2
theorem dt3_mix1 {s t c:Spt} (h:Mix s t c) (x y:Spt) (h1:0≤dt3 s x y) (h2:0≤dt3 t x y):0≤dt3 c x y:=by
 rw [← dt3_rot] at *
 exact dt3_mix3 h x y h1 h2
theorem dt3_mix2 {s t c:Spt} (h:Mix s t c) (x y:Spt) (h1:0≤dt3 x s y) (h2:0≤dt3 x t y):0≤dt3 x c y:=by
 rw [dt3_rot] at *
 exact dt3_mix3 h y x h1 h2
inductive Tr:List Spt→Prop
 | nil:Tr []
 | app {o:List Spt} {s:Spt} (h:Tr o) (e:o.Pairwise fun x y=>0≤dt3 x y s):Tr (o++[s])
theorem Tr.get {o:List Spt} (h:Tr o):∀ i j k,i<j→j<k→k<o.length→0≤dt3 (o.getD i z3) (o.getD j z3) (o.getD k z3):=by
 induction h with
 | nil=>intro i j k _ _ h;simp at h
 | @app o s h e ih =>
  intro i j k hij hjk hk
  rw [List.length_append,List.length_singleton] at hk
  rw [getD_app3 (show i<o.length by omega),getD_app3 (show j<o.length by omega)]
  by_cases hx:k<o.length
  ·rw [getD_app3 hx];exact ih i j k hij hjk hx
  ·have e1:(o++[s]).getD k z3=s:=by
    rw [show k=o.length by omega];simp [List.getD]
   rw [e1]
   have:=List.pairwise_iff_getElem.1 e i j (by omega) (by omega) hij
   have hi:o.getD i z3=o[i]'(by omega):=by simp [List.getD,show i<o.length by omega]
   have hj:o.getD j z3=o[j]'(by omega):=by simp [List.getD,show j<o.length by omega]
   rw [hi,hj];exact this
structure Cv (v:Nat→Spt) (n k:Nat) (o:List Spt):Prop where
 t1:Tr o
 t2:∀ m,k≤m→m≤n→o.Pairwise fun x y=>0≤dt3 x y (v m)
 t3:∀ x∈o,∀ a b,k≤a→a≤b→b≤n→0≤dt3 x (v a) (v b)
 t4:∀ a b c,k≤a→a≤b→b≤c→c≤n→0≤dt3 (v a) (v b) (v c)
theorem pw_app {o:List Spt} {s:Spt} {R:Spt→Spt→Prop} (h:o.Pairwise R) (hs:∀ x∈o,R x s):(o++[s]).Pairwise R:=by
 rw [List.pairwise_append]
 refine ⟨h,by simp,fun a ha b hb=>?_⟩
 rw [List.mem_singleton.1 hb];exact hs a ha
theorem Cv.next {v:Nat→Spt} {n k:Nat} {o:List Spt} (h:Cv v n k o):Cv v n (k+1) o :=
 ⟨h.t1,fun m a b=>h.t2 m (by omega) b,fun x hx a b p q r=>h.t3 x hx a b (by omega) q r,fun a b c p q r s=>h.t4 a b c (by omega) q r s⟩
theorem Cv.add {v:Nat→Spt} {n k:Nat} {o:List Spt} (h:Cv v n k o) (hk:k≤n):Cv v n k (adS o (v k)):=by
 rcases adS_cases o (v k) with ⟨_,e⟩ | ⟨_,e⟩
 ·rw [e];exact h
 ·rw [e]
  refine ⟨.app h.t1 (h.t2 k (Nat.le_refl _) hk),fun m a b=>pw_app (h.t2 m a b) fun x hx=>h.t3 x hx k m (Nat.le_refl _) a b,fun x hx a b p q r=>?_,h.t4⟩
  rcases List.mem_append.1 hx with hx | hx
  ·exact h.t3 x hx a b p q r
  ·rw [List.mem_singleton.1 hx];exact h.t4 k a b (Nat.le_refl _) p q r
theorem Cv.cross {v:Nat→Spt} {n k:Nat} {o:List Spt} {c:Spt} (h:Cv v n k o) (hk:k+1≤n) (hm:Mix (v k) (v (k+1)) c):Cv v n (k+1) (adS o c):=by
 rcases adS_cases o c with ⟨_,e⟩ | ⟨_,e⟩
 ·rw [e];exact h.next
 ·rw [e]
  refine ⟨.app h.t1 ?_,fun m a b=>pw_app (h.t2 m (by omega) b) fun x hx=>?_,fun x hx a b p q r=>?_,h.next.t4⟩
  ·have p1:=h.t2 k (Nat.le_refl _) (by omega)
   have p2:=h.t2 (k+1) (by omega) hk
   exact (p1.and p2).imp fun {x y} hxy=>dt3_mix3 hm x y hxy.1 hxy.2
  ·exact dt3_mix2 hm x (v m) (h.t3 x hx k m (by omega) (by omega) b) (h.t3 x hx (k+1) m (by omega) a b)
  ·rcases List.mem_append.1 hx with hx | hx
   ·exact h.t3 x hx a b (by omega) q r
   ·rw [List.mem_singleton.1 hx]
    exact dt3_mix1 hm _ _ (h.t4 k a b (by omega) (by omega) q r) (h.t4 (k+1) a b (by omega) p q r)
theorem Cv.step {v:Nat→Spt} {n k:Nat} {o:List Spt} {L:Spt} (h:Cv v n k o) (hk:k+1≤n) (d1:0<(v k).2.2) (d2:0<(v (k+1)).2.2):Cv v n (k+1) (clS L o (v k) (v (k+1))):=by
 have h2:Cv v n k (if 0≤lev L (v k) then adS o (v k) else o):=by
  split
  ·exact h.add (by omega)
  ·exact h
 unfold clS
 dsimp only
 split
 ·rename_i hc
  exact h2.cross hk (crS_mix d1 d2 hc)
 ·exact h2.next
end Go.Proofs.YtechphmljdgoaaaGreatDoor
namespace Go.Proofs.YtechphmljdgoaaaGreatDoor
abbrev RP:=Rat×Rat
def dtr (p q r:RP):Rat:=(q.1-p.1)*(r.2-p.2)-(q.2-p.2)*(r.1-p.1)
def lv (L:Spt) (p:RP):Rat:=(L.1:Rat)*p.1+(L.2.1:Rat)*p.2+(L.2.2:Rat)
structure Fn (F:RP→RP→Rat):Prop where
 anti:∀ p q,F q p=- F p q
 coll:∀ p m q,dtr p m q=0→F p q=F p m+F m q
theorem Fn.self {F:RP→RP→Rat} (h:Fn F) (p:RP):F p p=0:=by have:=h.anti p p;grind
def qsum:Nat→(Nat→Rat)→Rat
 | 0,_=>0
 | n+1,f=>qsum n f+f n
theorem qsum_congr {n:Nat} {f g:Nat→Rat} (h:∀ i,i<n→f i=g i):qsum n f=qsum n g:=by
 induction n with
 | zero=>rfl
 | succ n ih =>
  show qsum n f+f n=qsum n g+g n
  rw [ih (fun i hi=>h i (by omega)),h n (by omega)]
end Go.Proofs.YtechphmljdgoaaaGreatDoor
namespace Go.Proofs.YtechphmljdgoaaaGreatDoor
end Go.Proofs.YtechphmljdgoaaaGreatDoor
namespace Go.Proofs.YtechphmljdgoaaaGreatDoor
structure GrL (L:Spt) (o:RP):Prop where
 l1:L.1.natAbs≤1
 l2:L.2.1.natAbs≤1
 l0:¬ (L.1=0∧L.2.1=0)
 on:lv L o=0
def neg3 (L:Spt):Spt:=(-L.1,-L.2.1,-L.2.2)
theorem lv_neg (L:Spt) (p:RP):lv (neg3 L) p=- lv L p:=by unfold lv neg3;simp only [Rat.intCast_neg];grind
theorem GrL.neg {L:Spt} {o:RP} (h:GrL L o):GrL (neg3 L) o:=⟨by have:=h.l1;unfold neg3;dsimp only;omega,by have:=h.l2;unfold neg3;dsimp only;omega,fun e=>h.l0 (by unfold neg3 at e;dsimp only at e;omega),by rw [lv_neg,h.on];grind⟩
end Go.Proofs.YtechphmljdgoaaaGreatDoor
namespace Go.Proofs.YtechphmljdgoaaaGreatDoor
def OkL (Ls:List Spt):Prop:=∀ L∈Ls,∃ o,GrL L o
theorem OkL.cons {L:Spt} {o:RP} {Ls:List Spt} (hL:GrL L o) (h:OkL Ls):OkL (L::Ls):=fun M hM=>by
 rcases List.mem_cons.1 hM with e | e
 ·subst e;exact ⟨o,hL⟩
 ·exact h M e
end Go.Proofs.YtechphmljdgoaaaGreatDoor
namespace Go.Proofs.YtechphmljdgoaaaGreatDoor
theorem frac_mul (n d:Rat):n / d=n*(1 / d):=by rw [Rat.div_def,Rat.div_def];grind
end Go.Proofs.YtechphmljdgoaaaGreatDoor
namespace Go.Proofs.YtechphmljdgoaaaGreatDoor
end Go.Proofs.YtechphmljdgoaaaGreatDoor
namespace Go.Num
open Go.Lib
def vl:List Int→Int
 | []=>0
 | d::l=>d+10000*vl l
def okd (l:List Int):Prop:=∀ d∈l,0≤d∧d≤9999
def grp (n:Nat):List Int:=if h:n=0 then [] else ((n % 10000:Nat):Int)::grp (n / 10000)
termination_by n
decreasing_by omega
theorem grp_zero:grp 0=[]:=by rw [grp];simp
theorem grp_pos {n:Nat} (h:n≠0):grp n=((n % 10000:Nat):Int)::grp (n / 10000):=by rw [grp];simp [h]
theorem okd_nil:okd []:=fun _ h=>absurd h (by simp)
theorem okd_cons {d:Int} {l:List Int}:okd (d::l)↔(0≤d∧d≤9999)∧okd l:=by unfold okd;simp
theorem okd_app {l m:List Int}:okd (l++m)↔okd l∧okd m:=by
 unfold okd;constructor
 ·exact fun h=>⟨fun d hd=>h d (by simp [hd]),fun d hd=>h d (by simp [hd])⟩
 ·rintro ⟨h1,h2⟩ d hd;rcases List.mem_append.1 hd with h | h
  ·exact h1 d h
  ·exact h2 d h
theorem vl_nn:∀ {l:List Int},okd l→0≤vl l
 | [],_=>by simp [vl]
 | d::l,h=>by have:=vl_nn (okd_cons.1 h).2;have:=(okd_cons.1 h).1;simp only [vl];omega
theorem grp_okd (n:Nat):okd (grp n):=by
 induction n using Nat.strongRecOn with
 | _ n ih =>
  by_cases h:n=0
  ·subst h;rw [grp_zero];exact okd_nil
  ·rw [grp_pos h,okd_cons];exact ⟨by omega,ih _ (by omega)⟩
theorem vl_grp (n:Nat):vl (grp n)=n:=by
 induction n using Nat.strongRecOn with
 | _ n ih =>
  by_cases h:n=0
  ·subst h;rw [grp_zero];rfl
  ·rw [grp_pos h,vl,ih _ (by omega)];omega
theorem vl_app:∀ (l m:List Int),vl (l++m)=vl l+10000 ^ l.length*vl m
 | [],m=>by simp [vl]
 | d::l,m=>by
  simp only [List.cons_append,vl,vl_app l m,List.length_cons,Int.pow_succ]
  rw [Int.mul_add,← Int.add_assoc,← Int.mul_assoc,Int.mul_comm 10000 (10000 ^ l.length)]
theorem grp_of:∀ {l:List Int},okd l→(∀ h:l≠[],l.getLast h≠0)→grp (vl l).toNat=l
 | [],_,_=>by simp [vl,grp_zero]
 | d::l,h,hl=>by
  obtain ⟨h1,h2⟩:=okd_cons.1 h
  have hn:=vl_nn h2
  have hl':∀ h:l≠[],l.getLast h≠0:=fun h=>by have:=hl (by simp);rwa [List.getLast_cons h] at this
  have hz:(vl (d::l)).toNat≠0:=by
   intro h0
   have h3:vl l=0∧d=0:=by simp only [vl] at h0;omega
   cases l with
   | nil=>have:=hl (by simp);simp at this;exact this h3.2
   | cons e l=>have:=grp_of h2 hl';rw [h3.1] at this;simp [grp_zero] at this
  rw [grp_pos hz]
  have e1:(((vl (d::l)).toNat % 10000:Nat):Int)=d:=by simp only [vl];omega
  have e2:(vl (d::l)).toNat / 10000=(vl l).toNat:=by simp only [vl];omega
  rw [e1,e2,grp_of h2 hl']
theorem grp_drop:∀ (i n:Nat),(grp n).drop i=grp (n / 10000 ^ i)
 | 0,n=>by simp
 | i+1,n=>by
  by_cases h:n=0
  ·subst h;simp [grp_zero]
  ·rw [grp_pos h,List.drop_succ_cons,grp_drop i,Nat.pow_succ,Nat.div_div_eq_div_mul,Nat.mul_comm]
theorem grp_nil {n:Nat}:grp n=[]↔n=0:=by
 constructor
 ·intro h;by_cases h0:n=0
  ·exact h0
  ·rw [grp_pos h0] at h;simp at h
 ·rintro rfl;exact grp_zero
theorem grp_get (n i:Nat):(grp n).getD i 0=((n / 10000 ^ i % 10000:Nat):Int):=by
 have h:(grp n).getD i 0=((grp n).drop i).getD 0 0:=by simp
 rw [h,grp_drop]
 by_cases h0:n / 10000 ^ i=0
 ·rw [h0];simp [grp_zero]
 ·rw [grp_pos h0];rfl
theorem grp_len_le {n k:Nat} (h:n<10000 ^ k):(grp n).length≤k:=by
 have h1:(grp n).drop k=[]:=by rw [grp_drop,Nat.div_eq_of_lt h,grp_zero]
 exact List.drop_eq_nil_iff.1 h1
theorem grp_lt (n:Nat):n<10000 ^ (grp n).length:=by
 have h1:(grp n).drop (grp n).length=[]:=List.drop_length
 rw [grp_drop,grp_nil] at h1
 rcases Nat.div_eq_zero_iff.1 h1 with h | h
 ·have:=Nat.pow_pos (n:=(grp n).length) (show 0<10000 by decide);omega
 ·exact h
theorem grp_len_pow {n:Nat} (h:n≠0):10000 ^ ((grp n).length-1)≤n:=by
 by_cases h2:10000 ^ ((grp n).length-1)≤n
 ·exact h2
 ·have h3:=grp_len_le (Nat.lt_of_not_le h2)
  have:(grp n).length≠0:=fun e=>h (grp_nil.1 (List.length_eq_zero_iff.1 e))
  omega

def dgt (c:UInt8):Nat:=c.toNat-48
def isD (c:UInt8):Prop:=48≤c.toNat∧c.toNat≤57
def dv (l:List UInt8):Nat:=l.foldl (fun a c=>a*10+dgt c) 0
theorem dig_toNat {u:Nat} (h:u<10):(UInt8.ofNat (48+u)).toNat=48+u:=by
 rw [UInt8.toNat_ofNat'];omega
theorem isD_dig {u:Nat} (h:u<10):isD (UInt8.ofNat (48+u)):=by unfold isD;rw [dig_toNat h];omega
theorem dgt_dig {u:Nat} (h:u<10):dgt (UInt8.ofNat (48+u))=u:=by unfold dgt;rw [dig_toNat h];omega
theorem dv_app1 (l:List UInt8) (c:UInt8):dv (l++[c])=dv l*10+dgt c:=by unfold dv;rw [List.foldl_append];rfl
theorem dv_from:∀ (l:List UInt8) (a:Nat),l.foldl (fun a c=>a*10+dgt c) a=a*10 ^ l.length+dv l
 | [],a=>by simp [dv]
 | c::l,a=>by
  have e:dv (c::l)=dgt c*10 ^ l.length+dv l:=by
   show l.foldl (fun a c=>a*10+dgt c) (0*10+dgt c)=_
   rw [dv_from l,Nat.zero_mul,Nat.zero_add]
  rw [List.foldl_cons,dv_from l,e,List.length_cons,Nat.pow_succ,Nat.add_mul,Nat.mul_assoc,Nat.mul_comm 10,Nat.add_assoc]
theorem dv_app (l m:List UInt8):dv (l++m)=dv l*10 ^ m.length+dv m:=by unfold dv;rw [List.foldl_append,dv_from];rfl
theorem dec_step {n:Nat} (h:10≤n):decDigits n=decDigits (n / 10)++[UInt8.ofNat (48+n % 10)]:=by rw [decDigits,dif_neg (by omega)]
theorem dv_dec (n:Nat):dv (decDigits n)=n:=by
 induction n using Nat.strongRecOn with
 | _ n ih =>
  by_cases h:n<10
  ·rw [decDigits_one h];simp only [dv,List.foldl_cons,List.foldl_nil,dgt_dig h];omega
  ·rw [dec_step (by omega),dv_app1,ih _ (by omega),dgt_dig (by omega)];omega
theorem dec_isD (n:Nat):∀ c∈decDigits n,isD c:=by
 induction n using Nat.strongRecOn with
 | _ n ih =>
  by_cases h:n<10
  ·rw [decDigits_one h];intro c hc;rw [List.mem_singleton.1 hc];exact isD_dig h
  ·rw [dec_step (by omega)];intro c hc
   rcases List.mem_append.1 hc with h1 | h1
   ·exact ih _ (by omega) c h1
   ·rw [List.mem_singleton.1 h1];exact isD_dig (by omega)
theorem dec_ne (n:Nat):decDigits n≠[]:=by
 intro h;have:=decDigits_length n;rw [h] at this;have:=nDigits_pos n;simp at *;omega
theorem nDig_le:∀ (k n:Nat),n<10 ^ (k+1)→nDigits n≤k+1
 | 0,n,h=>by rw [nDigits_small (by simpa using h)];omega
 | k+1,n,h=>by
  by_cases h1:n<10
  ·rw [nDigits_small h1];omega
  ·rw [nDigits_big h1];have:=nDig_le k (n / 10) (by rw [Nat.pow_succ] at h;omega);omega
theorem dec_len_le {k n:Nat} (h:n<10 ^ (k+1)):(decDigits n).length≤k+1:=by rw [decDigits_length];exact nDig_le k n h
theorem dec_len_lt (n:Nat):n<10 ^ (decDigits n).length:=by rw [decDigits_length];exact lt_pow_nDigits n
theorem dec_head {n:Nat} (h:n≠0):∃ c l,decDigits n=c::l∧c≠48:=by
 induction n using Nat.strongRecOn with
 | _ n ih =>
  by_cases h1:n<10
  ·refine ⟨_,[],decDigits_one h1,fun e=>?_⟩
   have:=congrArg UInt8.toNat e;rw [dig_toNat h1] at this;simp at this;omega
  ·obtain ⟨c,l,e,hc⟩:=ih (n / 10) (by omega) (by omega)
   exact ⟨c,l++[UInt8.ofNat (48+n % 10)],by rw [dec_step (by omega),e];rfl,hc⟩
theorem dec_zero:decDigits 0=[48]:=by rw [decDigits_one (by omega)];rfl
def pad (m:Nat):List UInt8:=[UInt8.ofNat (48+m / 1000 % 10),UInt8.ofNat (48+m / 100 % 10),UInt8.ofNat (48+m / 10 % 10),UInt8.ofNat (48+m % 10)]
theorem dec_pad {n:Nat} (h:10000≤n):decDigits n=decDigits (n / 10000)++pad (n % 10000):=by
 rw [dec_step (by omega),dec_step (by omega),dec_step (by omega),dec_step (by omega)]
 simp only [List.append_assoc,List.cons_append,List.nil_append,pad]
 rw [show n / 10 / 10 / 10 / 10=n / 10000 by omega,show n / 10 / 10 / 10 % 10=n % 10000 / 1000 % 10 by omega,show n / 10 / 10 % 10=n % 10000 / 100 % 10 by omega,show n / 10 % 10=n % 10000 / 10 % 10 by omega,show n % 10000 % 10=n % 10 by omega]
theorem pad_dec {m:Nat} (h:m<10000):repeatL [48] (4-(decDigits m).length)++decDigits m=pad m:=by
 by_cases h1:m<10
 ·rw [decDigits_one h1];unfold pad
  rw [show m / 1000 % 10=0 by omega,show m / 100 % 10=0 by omega,show m / 10 % 10=0 by omega,show m % 10=m by omega];rfl
 ·by_cases h2:m<100
  ·rw [dec_step (by omega),decDigits_one (by omega)];unfold pad
   rw [show m / 1000 % 10=0 by omega,show m / 100 % 10=0 by omega,show m / 10 % 10=m / 10 by omega];rfl
  ·by_cases h3:m<1000
   ·rw [dec_step (by omega),dec_step (by omega),decDigits_one (by omega)];unfold pad
    rw [show m / 1000 % 10=0 by omega,show m / 100 % 10=m / 10 / 10 by omega];rfl
   ·rw [dec_step (by omega),dec_step (by omega),dec_step (by omega),decDigits_one (by omega)];unfold pad
    rw [show m / 1000 % 10=m / 10 / 10 / 10 by omega,show m / 100 % 10=m / 10 / 10 % 10 by omega];rfl
theorem dec_len4 {m:Nat} (h:m<10000):(decDigits m).length≤4:=dec_len_le (k:=3) (by omega)

theorem pu_dv:∀ (l:List UInt8) (a:Nat),(∀ c∈l,isD c)→a*10 ^ l.length+dv l<1844674407370955162→parseUint10 a l=.ok (a*10 ^ l.length+dv l)
 | [],a,_,_=>by simp [parseUint10,dv]
 | c::l,a,h,hb=>by
  have hc:isD c:=h c (by simp)
  have e:a*10 ^ (c::l).length+dv (c::l)=(a*10+(c.toNat-48))*10 ^ l.length+dv l:=by
   rw [show dv (c::l)=dgt c*10 ^ l.length+dv l from by have:=dv_app [c] l;simp only [List.singleton_append] at this;rw [this];simp [dv]]
   rw [List.length_cons,Nat.pow_succ,Nat.add_mul,← Nat.add_assoc,Nat.mul_assoc,Nat.mul_comm 10 (10 ^ l.length)];rfl
  have hp:1≤10 ^ l.length:=Nat.one_le_pow _ _ (by decide)
  rw [e] at hb ⊢
  have hs:a*10+(c.toNat-48)≤(a*10+(c.toNat-48))*10 ^ l.length:=Nat.le_mul_of_pos_right _ hp
  unfold parseUint10
  unfold isD at hc
  rw [if_pos hc,if_neg (by omega),if_neg (by omega)]
  exact pu_dv l _ (fun c hc=>h c (by simp [hc])) hb
theorem atoi_dv {l:List UInt8} (h0:l≠[]) (h:∀ c∈l,isD c) (hb:dv l<1844674407370955162):atoiAll l=.ok (dv l:Int):=by
 cases l with
 | nil=>exact absurd rfl h0
 | cons c l =>
  have hc:isD c:=h c (by simp)
  unfold isD at hc
  have e:parseMag (c::l)=.ok (dv (c::l)):=by
   unfold parseMag;rw [if_neg (by simp),pu_dv _ 0 h (by simpa using hb)];simp
  unfold atoiAll
  simp only
  rw [if_neg (by omega),e]
  simp only
  rw [if_neg (by omega),if_neg (by omega),if_neg (by omega)]
theorem dropW {α:Type} {p:α→Bool}:∀ {l:List α},(∀ c∈l,p c=true)→l.dropWhile p=[]
 | [],_=>rfl
 | c::l,h=>by rw [List.dropWhile_cons,if_pos (h c (by simp))];exact dropW fun c hc=>h c (by simp [hc])
theorem trim_dig {l cs:List UInt8} (h:∀ c∈l,cs.contains c=true):trimS l cs=[]:=by
 have e:trimRightS l cs=[]:=by
  unfold trimRightS
  rw [dropW fun c hc=>h c (List.mem_reverse.1 hc)];rfl
 unfold trimS;rw [e];rfl
def cyph:List UInt8:=[48,49,50,51,52,53,54,55,56,57]
theorem cyph_in {c:UInt8} (h:isD c):cyph.contains c=true:=by
 have h1:c=UInt8.ofNat c.toNat:=(UInt8.ofNat_toNat (x:=c)).symm
 unfold isD at h
 rw [h1]
 generalize c.toNat=k at h
 obtain ⟨h1,h2⟩:=h
 have:k=48∨k=49∨k=50∨k=51∨k=52∨k=53∨k=54∨k=55∨k=56∨k=57:=by omega
 rcases this with rfl | rfl | rfl | rfl | rfl | rfl | rfl | rfl | rfl | rfl<;>decide
theorem itoa_nn {n:Nat}:itoa (n:Int)=decDigits n:=by unfold itoa;rw [if_neg (by omega)];simp
theorem itoa_ng {n:Nat} (h:n≠0):itoa (-(n:Int))=45::decDigits n:=by unfold itoa;rw [if_pos (by omega)];simp
theorem pref_dec (n:Nat):trimPrefix (decDigits n) [45]=decDigits n:=by
 unfold trimPrefix hasPrefix
 have h:=dec_isD n
 cases e:decDigits n with
 | nil=>rfl
 | cons c l =>
  have hc:isD c:=h c (by rw [e];simp)
  have:(45==c)=false:=by
   rw [beq_eq_false_iff_ne];rintro rfl;revert hc;unfold isD;decide
  simp [List.isPrefixOf,this]
theorem pref_neg (l:List UInt8):trimPrefix (45::l) [45]=l:=by
 unfold trimPrefix hasPrefix;simp [List.isPrefixOf]
theorem pref_itoa (z:Int):trimPrefix (itoa z) [45]=decDigits z.natAbs:=by
 by_cases h:z<0
 ·obtain ⟨n,rfl⟩:∃ n:Nat,z=-(n:Int):=⟨z.natAbs,by omega⟩
  rw [itoa_ng (by omega),pref_neg];congr 1;omega
 ·obtain ⟨n,rfl⟩:∃ n:Nat,z=(n:Int):=⟨z.toNat,by omega⟩
  rw [itoa_nn,pref_dec];congr 1
theorem itoa_len (z:Int):(itoa z).length=(decDigits z.natAbs).length+if z<0 then 1 else 0:=by
 by_cases h:z<0
 ·obtain ⟨n,rfl⟩:∃ n:Nat,z=-(n:Int):=⟨z.natAbs,by omega⟩
  rw [itoa_ng (by omega),if_pos h,List.length_cons];congr 3;omega
 ·obtain ⟨n,rfl⟩:∃ n:Nat,z=(n:Int):=⟨z.toNat,by omega⟩
  rw [itoa_nn,if_neg h];rfl
theorem itoa_inj {x y:Int} (h:itoa x=itoa y):x=y:=by
 have e:decDigits x.natAbs=decDigits y.natAbs:=by rw [← pref_itoa,h,pref_itoa]
 have e2:x.natAbs=y.natAbs:=by rw [← dv_dec x.natAbs,e,dv_dec]
 have e3:=itoa_len x
 rw [h,itoa_len y,e] at e3
 split at e3<;>split at e3<;>omega
end Go.Num
namespace Go.Num
open Go Go.Lib Go.PE
def seqL:Nat→(Nat→Int)→List Int
 | 0,_=>[]
 | n+1,g=>g 0::seqL n fun i=>g (i+1)
theorem seqL_len:∀ n g,(seqL n g).length=n
 | 0,_=>rfl
 | n+1,g=>by show (seqL n _).length+1=n+1;rw [seqL_len]
theorem seqL_get:∀ (n:Nat) (g:Nat→Int) (i:Nat),i<n→(seqL n g).getD i 0=g i
 | n+1,g,0,_=>rfl
 | n+1,g,i+1,h=>by
  show (seqL n fun i=>g (i+1)).getD i 0=_
  exact seqL_get n _ i (by omega)
theorem vl_add:∀ (n:Nat) (f g:Nat→Int),vl (seqL n fun i=>f i+g i)=vl (seqL n f)+vl (seqL n g)
 | 0,_,_=>rfl
 | n+1,f,g=>by
  show f 0+g 0+10000*vl (seqL n fun i=>f (i+1)+g (i+1))=f 0+10000*vl (seqL n fun i=>f (i+1))+(g 0+10000*vl (seqL n fun i=>g (i+1)))
  rw [vl_add n (fun i=>f (i+1)) fun i=>g (i+1)];omega
theorem vl_sub:∀ (n:Nat) (f g:Nat→Int),vl (seqL n fun i=>f i-g i)=vl (seqL n f)-vl (seqL n g)
 | 0,_,_=>rfl
 | n+1,f,g=>by
  show f 0-g 0+10000*vl (seqL n fun i=>f (i+1)-g (i+1))=f 0+10000*vl (seqL n fun i=>f (i+1))-(g 0+10000*vl (seqL n fun i=>g (i+1)))
  rw [vl_sub n (fun i=>f (i+1)) fun i=>g (i+1)];omega
theorem vl_mul (c:Int):∀ (n:Nat) (f:Nat→Int),vl (seqL n fun i=>f i*c)=vl (seqL n f)*c
 | 0,_=>by show (0:Int)=0*c;rw [Int.zero_mul]
 | n+1,f=>by
  show f 0*c+10000*vl (seqL n fun i=>f (i+1)*c)=(f 0+10000*vl (seqL n fun i=>f (i+1)))*c
  rw [vl_mul c n fun i=>f (i+1),Int.add_mul,Int.mul_assoc]
theorem vl_zero:∀ n,vl (seqL n fun _=>0)=0
 | 0=>rfl
 | n+1=>by show 0+10000*vl (seqL n fun _=>0)=0;rw [vl_zero n];rfl
theorem vl_of:∀ (n:Nat) (l:List Int),l.length≤n→vl (seqL n fun i=>l.getD i 0)=vl l
 | 0,[],_=>rfl
 | n+1,[],_=>by
  have:(fun i=>([]:List Int).getD i 0)=fun _=>0:=by funext i;simp
  rw [this,vl_zero];rfl
 | n+1,d::l,h=>by
  show d+10000*vl (seqL n fun i=>l.getD i 0)=d+10000*vl l
  rw [vl_of n l (by simpa using h)]
theorem getD_in {α:Type} (l:List α) (d:α) {i:Nat} (h:i<l.length):l.getD i d=l[i]:=by rw [List.getD_eq_getElem?_getD,List.getElem?_eq_getElem h];rfl
theorem getD_out {α:Type} (l:List α) (d:α) {i:Nat} (h:l.length≤i):l.getD i d=d:=by rw [List.getD_eq_getElem?_getD,List.getElem?_eq_none h];rfl
theorem vl_drop (l:List Int) (i:Nat):vl (l.drop i)=l.getD i 0+10000*vl (l.drop (i+1)):=by
 by_cases h:i<l.length
 ·rw [List.drop_eq_getElem_cons h,vl,getD_in _ _ h]
 ·rw [List.drop_eq_nil_of_le (by omega),List.drop_eq_nil_of_le (by omega),getD_out _ _ (by omega)];rfl
theorem pow_pos10 (k:Nat):(0:Int)<10000 ^ k:=Int.pow_pos (by omega)
theorem vl_lt:∀ {l:List Int},okd l→vl l<10000 ^ l.length
 | [],_=>by show (0:Int)<1;omega
 | d::l,h=>by
  have:=vl_lt (okd_cons.1 h).2
  have:=(okd_cons.1 h).1
  rw [List.length_cons,Int.pow_succ]
  simp only [vl]
  omega
theorem vl_snoc (l:List Int) (d:Int):vl (l++[d])=vl l+10000 ^ l.length*d:=by
 rw [vl_app];simp [vl]
theorem okd_get {l:List Int} (h:okd l) (i:Nat):0≤l.getD i 0∧l.getD i 0≤9999:=by
 by_cases hi:i<l.length
 ·rw [getD_in _ _ hi];exact h _ (List.getElem_mem hi)
 ·rw [getD_out _ _ (by omega)];omega
theorem carry_loop {body:Int×Int×List Int→Option ((Int×Int×List Int)⊕List Int)} {dl:List Int} (hd:∀ i,-9999≤dl.getD i 0∧dl.getD i 0≤99980001) (h0:0≤vl dl)
  (hb:∀ (i:Nat) (c:Int) (out:List Int),out.length=i→i≤dl.length→-1≤c→c≤9999→(i<dl.length∨c≠0)→body (c,(i:Int),out)=some (.inl ((dl.getD i 0+c) / 10000,(i:Int)+1,out++[(dl.getD i 0+c) % 10000])))
  (he:∀ (i:Nat) (out:List Int),dl.length≤i→body (0,(i:Int),out)=some (.inr out)):Ans (loopM body (0,0,[])) fun out=>okd out∧vl out=vl dl∧out.length≤dl.length+1:=by
 refine Ans.loop (fun k s=>s.2.1=(k:Int)∧s.2.2.length=k∧okd s.2.2∧(-1≤s.1∧s.1≤9999)∧(dl.length<k→s.1=0)∧vl s.2.2+10000 ^ k*(s.1+vl (dl.drop k))=vl dl) (dl.length+1)
  ⟨rfl,rfl,okd_nil,⟨by decide,by decide⟩,fun _=>rfl,by simp [vl]⟩ ?_
 rintro k ⟨c,i,out⟩ hk ⟨h1,h2,h3,h4,h5,h6⟩
 dsimp only at h1 h2 h3 h4 h5 h6
 subst h1
 have hout:=vl_lt h3
 rw [h2] at hout
 have hpk:=pow_pos10 k
 by_cases hend:dl.length≤k∧c=0
 ·obtain ⟨e1,e2⟩:=hend
  subst e2
  refine .of (he k out e1) ⟨h3,?_,by omega⟩
  rw [List.drop_eq_nil_of_le e1] at h6
  simp [vl] at h6
  exact h6
 ·have hkl:k≤dl.length:=by
   by_cases h:dl.length<k
   ·exact absurd ⟨by omega,h5 h⟩ hend
   ·omega
  have hD:=hd k
  refine .of (hb k c out h2 hkl h4.1 h4.2 (by omega)) ⟨by omega,rfl,by simp [h2],okd_app.2 ⟨h3,okd_cons.2 ⟨by omega,okd_nil⟩⟩,by dsimp only;omega,fun hl=>?_,?_⟩
  ·have hk2:k=dl.length:=by omega
   have e0:dl.getD k 0=0:=getD_out _ _ (by omega)
   dsimp only
   rw [e0,Int.zero_add]
   by_cases hc:0≤c
   ·omega
   ·exfalso
    rw [List.drop_eq_nil_of_le (by omega)] at h6
    have hc1:c=-1:=by omega
    rw [hc1] at h6
    simp only [vl] at h6
    omega
  ·dsimp only
   rw [vl_snoc,h2,← h6,vl_drop dl k,Int.pow_succ,Int.mul_assoc,Int.add_assoc,← Int.mul_add]
   congr 2
   have:=Int.emod_add_mul_ediv (dl.getD k 0+c) 10000
   omega
theorem step_digit {v:Int} (h:-10000≤v) (h2:v≤100000000):(bif ltM v 0 then some ((-1:Int),IntKind.wrap IntKind.i64 (v+10000)) else bif leM 10000 v then (divM IntKind.i64 v 10000).bind fun r_3=>(remM v 10000).bind fun r=>some (r_3,r) else some (0,v))=some (v / 10000,v % 10000):=by
 by_cases h1:v<0
 ·rw [ltI h1,cond_true,wrap_in (by omega) (by omega),show v / 10000=-1 by omega,show v % 10000=v+10000 by omega]
 ·rw [geI (by omega),cond_false]
  by_cases h3:10000≤v
  ·rw [leI h3,cond_true,divM_pos (by omega),remM_of (by omega) (by omega),Int.tdiv_eq_ediv_of_nonneg (by omega),wrap_in (by omega) (by omega)];rfl
  ·rw [gtI (by omega),cond_false,show v / 10000=0 by omega,show v % 10000=v by omega]
theorem dv_lt:∀ {l:List UInt8},(∀ c∈l,isD c)→dv l<10 ^ l.length
 | [],_=>by decide
 | c::l,h=>by
  have:=dv_lt fun c hc=>h c (List.mem_cons_of_mem _ hc)
  have hc:isD c:=h c (by simp)
  unfold isD at hc
  have e:dv (c::l)=dgt c*10 ^ l.length+dv l:=by have:=dv_app [c] l;simp only [List.singleton_append] at this;rw [this];simp [dv]
  have h9:dgt c*10 ^ l.length≤9*10 ^ l.length:=Nat.mul_le_mul_right _ (by unfold dgt;omega)
  rw [e,List.length_cons,Nat.pow_succ]
  omega
end Go.Num
namespace Go.Proofs.YtechphmljdgoaaaGreatDoor
open Go Go.Lib Go.Abs Go.PE Go.Num
theorem itoa_zero:itoa 0=[48]:=by rw [show (0:Int)=((0:Nat):Int) from rfl,itoa_nn,dec_zero]
theorem itoa_eq0 {z:Int}:itoa z=[48]↔z=0:=⟨fun h=>itoa_inj (h.trans itoa_zero.symm),fun h=>h▸itoa_zero⟩
theorem eqsT {x y:List UInt8} (h:x=y):eqsM x y=true:=decide_eq_true h
theorem eqsF {x y:List UInt8} (h:x≠y):eqsM x y=false:=decide_eq_false h
theorem lenI {α:Type} (l:List α):lenM l=(l.length:Int):=rfl
theorem snoc_of {α:Type} {l:List α} (h:l≠[]):∃ t d,l=t++[d]:=⟨l.dropLast,l.getLast h,(List.dropLast_concat_getLast h).symm⟩
theorem strip_ok {l:List Int} (h:okd l) (hl:l.length≤100000):m113 l=some (grp (vl l).toNat):=by
 unfold m113
 refine bind_of (loopM_is (r:=grp (vl l).toNat) (fun k s=>okd s∧vl s=vl l∧s.length+k=l.length) l.length ⟨h,rfl,by omega⟩ ?_) rfl
 rintro k s hk ⟨h1,h2,h3⟩
 by_cases h0:s=[]
 ·subst h0
  right
  have e:vl l=0:=h2.symm
  rw [e,show (0:Int).toNat=0 from rfl,grp_zero];rfl
 ·obtain ⟨t,d,rfl⟩:=snoc_of h0
  have hlen:lenM (t++[d])=(t.length:Int)+1:=by rw [lenI];simp
  have hlen2:(t++[d]).length=t.length+1:=by simp
  have e:IntKind.wrap IntKind.i64 (lenM (t++[d])-1)=(t.length:Int):=by rw [hlen,wrap_in (by omega) (by omega)];omega
  have e1:idxM (t++[d]) (t.length:Int)=some d:=by rw [idxM_nat];simp
  have e2:sliceM (t++[d]) 0 (t.length:Int)=some t:=by rw [sliceM_of (by omega) (by omega) (by rw [hlen2];omega)];simp
  rw [e,ltI (show (0:Int)<lenM (t++[d]) by rw [hlen];omega),cond_true,e1,Option.bind_some,andT]
  by_cases hd:d=0
  ·left
   refine ⟨t,by omega,by rw [eqI hd,cond_true,e2];rfl,(okd_app.1 h1).1,?_,by omega⟩
   rw [← h2,vl_snoc,hd];omega
  ·right
   rw [neI hd,cond_false,← h2,grp_of h1 fun _=>by simpa using hd]
theorem ivalid_ok {z:Int} (h:z.natAbs<10 ^ 200):m110 (itoa z)=some true:=by
 unfold m110
 have e0:prefM (itoa z) [(45:UInt8)]=decDigits z.natAbs:=pref_itoa z
 have hl:(decDigits z.natAbs).length≤200:=dec_len_le (k:=199) h
 have e3:trimM (decDigits z.natAbs) [(48:UInt8),(49:UInt8),(50:UInt8),(51:UInt8),(52:UInt8),(53:UInt8),(54:UInt8),(55:UInt8),(56:UInt8),(57:UInt8)]=some []:=by
  have e:trimM (decDigits z.natAbs) cyph=some (trimS (decDigits z.natAbs) cyph):=rfl
  rw [trim_dig fun c hc=>cyph_in (dec_isD _ c hc)] at e
  exact e
 rw [e0,eqsF (dec_ne _),geI (show lenM (decDigits z.natAbs)≤200 by rw [lenI];omega),orF,notF,cond_true,e3,Option.bind_some,orF,eqsT rfl,notT,cond_false]
 by_cases hz:z=0
 ·subst hz;rw [itoa_zero];rfl
 ·obtain ⟨c,l,e,hc⟩:=dec_head (n:=z.natAbs) (by omega)
  rw [eqsF fun e=>hz (itoa_eq0.1 e),notF,cond_true,e]
  have e4:byteM (c::l) 0=some (c.toNat:Int):=rfl
  rw [e4,Option.bind_some,orF,neI fun h=>hc (UInt8.toNat_inj.1 (by rw [show (48:UInt8).toNat=48 from rfl];omega))];rfl
theorem atoi_ok {l:List UInt8} (h0:l≠[]) (h:∀ c∈l,isD c) (hl:l.length≤4):atoiM l=some (dv l:Int):=by
 have hd:=dv_lt h
 have hp:10 ^ l.length≤10 ^ 4:=Nat.pow_le_pow_right (by omega) hl
 unfold atoiM
 rw [atoi_dv h0 h (by omega),decide_eq_true (show l.length≤9223372036854775806 by omega)]
 dsimp only
 rw [decide_eq_true (show (-9223372036854775808:Int)≤dv l by omega),decide_eq_true (show (dv l:Int)≤9223372036854775807 by omega)]
theorem parse_ok {z:Int} (h:z.natAbs<10 ^ 200):m111 (itoa z)=some (decide (z<0),grp z.natAbs):=by
 unfold m111
 have e0:prefM (itoa z) [(45:UInt8)]=decDigits z.natAbs:=pref_itoa z
 have hl:(decDigits z.natAbs).length≤200:=dec_len_le (k:=199) h
 have hn:ltM (lenM (decDigits z.natAbs)) (lenM (itoa z))=decide (z<0):=by
  have:=itoa_len z
  by_cases hz:z<0
  ·rw [if_pos hz] at this;rw [decide_eq_true hz];exact ltI (by rw [lenI,lenI];omega)
  ·rw [if_neg hz] at this;rw [decide_eq_false hz];exact geI (by rw [lenI,lenI];omega)
 dsimp only
 rw [e0,hn]
 refine Ans.is (Ans.bind (P:=fun o=>o.1=decide (z<0)∧okd o.2∧vl o.2=z.natAbs∧o.2.length≤50) (Ans.loop (fun k s=>(∀ c∈s.1,isD c)∧s.1.length≤4*(50-k)∧s.2.1=decide (z<0)∧okd s.2.2∧s.2.2.length=k∧vl s.2.2+10000 ^ k*(dv s.1:Int)=z.natAbs) 50 ⟨dec_isD _,by omega,rfl,okd_nil,rfl,by rw [dv_dec];simp [vl]⟩ ?_) ?_)
 ·rintro k ⟨ds,ng,sz⟩ hk ⟨h1,h2,h3,h4,h5,h6⟩
  dsimp only at h1 h2 h3 h4 h5 h6
  dsimp only
  by_cases hd:ds=[]
  ·subst hd
   refine Ans.of (r:=.inr (ng,sz)) (by rfl) ?_
   refine show ng=decide (z<0)∧okd sz∧vl sz=z.natAbs∧sz.length≤50 from ⟨h3,h4,?_,by omega⟩
   rw [← h6];simp [dv]
  ·have hlp:0<ds.length:=List.length_pos_iff.2 hd
   have hf:max (0:Int) (IntKind.wrap IntKind.i64 (lenM ds-4))=((ds.length-4:Nat):Int):=by
    rw [wrap_in (by rw [lenI];omega) (by rw [lenI];omega),lenI];omega
   have e1:sliceM ds ((ds.length-4:Nat):Int) (lenM ds)=some (ds.drop (ds.length-4)):=by
    rw [sliceM_of (by omega) (by show ((ds.length-4:Nat):Int)≤(ds.length:Int);omega) (Int.le_refl _)]
    congr 1
    rw [List.take_of_length_le (by show ds.length≤(ds.length:Int).toNat;omega)];rfl
   have e2:sliceM ds 0 ((ds.length-4:Nat):Int)=some (ds.take (ds.length-4)):=by
    rw [sliceM_of (by omega) (by omega) (by omega)];rfl
   have hdl:(ds.drop (ds.length-4)).length=min 4 ds.length:=by rw [List.length_drop];omega
   have e3:atoiM (ds.drop (ds.length-4))=some (dv (ds.drop (ds.length-4)):Int):=atoi_ok (fun e=>by rw [e] at hdl;simp at hdl;omega) (fun c hc=>h1 c (List.mem_of_mem_drop hc)) (by omega)
   have e4:appM (nat_lit 8) sz [(dv (ds.drop (ds.length-4)):Int)]=some (sz++[(dv (ds.drop (ds.length-4)):Int)]):=appM_of (by simp;omega)
   have hlt:=dv_lt (l:=ds.drop (ds.length-4)) fun c hc=>h1 c (List.mem_of_mem_drop hc)
   have hpw:10 ^ (ds.drop (ds.length-4)).length≤10 ^ 4:=Nat.pow_le_pow_right (by omega) (by omega)
   have hv:(dv ds:Int)=dv (ds.drop (ds.length-4))+10000*dv (ds.take (ds.length-4)):=by
    have:=dv_app (ds.take (ds.length-4)) (ds.drop (ds.length-4))
    rw [List.take_append_drop] at this
    by_cases h4:4≤ds.length
    ·rw [hdl,show min 4 ds.length=4 by omega] at this;omega
    ·rw [show ds.length-4=0 by omega,List.take_zero,List.drop_zero] at this ⊢;simp [dv] at this ⊢
   refine Ans.of (r:=.inl (ds.take (ds.length-4),ng,sz++[(dv (ds.drop (ds.length-4)):Int)])) ?_ ?_
   ·rw [hf,e1,e2,Option.bind_some,e3,Option.bind_some,e4,Option.bind_some,Option.bind_some,ltI (by rw [lenI];omega),cond_true]
   ·refine show k<50∧(∀ c∈ds.take (ds.length-4),isD c)∧(ds.take (ds.length-4)).length≤4*(50-(k+1))∧ng=decide (z<0)∧okd (sz++[(dv (ds.drop (ds.length-4)):Int)])∧(sz++[(dv (ds.drop (ds.length-4)):Int)]).length=k+1∧vl (sz++[(dv (ds.drop (ds.length-4)):Int)])+10000 ^ (k+1)*(dv (ds.take (ds.length-4)):Int)=z.natAbs from ⟨by omega,fun c hc=>h1 c (List.mem_of_mem_take hc),by rw [List.length_take];omega,h3,okd_app.2 ⟨h4,okd_cons.2 ⟨by omega,okd_nil⟩⟩,by simp [h5],?_⟩
    rw [vl_snoc,h5,← h6,hv,Int.pow_succ,Int.mul_add,Int.mul_assoc];omega
 ·rintro ⟨ng,sz⟩ ⟨h1,h2,h3,h4⟩
  dsimp only at h1 h2 h3 h4
  have e:=strip_ok h2 (by omega)
  rw [h3] at e
  exact .of (r:=(ng,grp z.natAbs)) (by dsimp only;rw [e];rfl) (by rw [h1])
theorem both_ok {x y:Int} (hx:x.natAbs<10 ^ 200) (hy:y.natAbs<10 ^ 200):m82 (itoa x,itoa y)=some ((decide (x<0),grp x.natAbs),(decide (y<0),grp y.natAbs),true):=by
 unfold m82
 dsimp only
 rw [ivalid_ok hx,Option.bind_some,notT,notF,cond_true,ivalid_ok hy,Option.bind_some,notT,orF,cond_false,parse_ok hx,Option.bind_some,parse_ok hy];rfl
end Go.Proofs.YtechphmljdgoaaaGreatDoor
namespace Go.Proofs.YtechphmljdgoaaaGreatDoor
open Go Go.Lib Go.Abs Go.PE Go.Num
theorem catB_of {x y:List UInt8} (h:x.length+y.length≤140737488355328):catB x y=some (x++y):=by unfold catB;rw [Nat.ble_eq_true_of_le h]
theorem catM_of {x y:List UInt8} (h:x.length+y.length≤9223372036854775807):catM x y=some (x++y):=by unfold catM;rw [Nat.ble_eq_true_of_le h]
theorem rpt_of {n:Nat} (h:n≤1000):rptM [(48:UInt8)] (n:Int)=some (repeatL [48] n):=by
 unfold rptM
 rw [decide_eq_true (show (0:Int)≤n by omega),decide_eq_true (show ([(48:UInt8)]:List UInt8).length*(n:Int).toNat≤140737488355328 by simp;omega),decide_eq_true (show (n:Int)≤9223372036854775807 by omega)];rfl
theorem grp_idx {n i:Nat} (h:i<(grp n).length):idxM (grp n) (i:Int)=some ((n / 10000 ^ i % 10000:Nat):Int):=by
 rw [idxM_lt h,← getD_in _ 0 h,grp_get]
theorem pow10k (L:Nat):10000 ^ L=10 ^ (4*L):=by rw [Nat.pow_mul]
theorem dec_len_grp {m n:Nat} (h:n<10000 ^ (m+1)):(decDigits n).length≤4*(m+1):=by
 rw [pow10k] at h
 exact dec_len_le (k:=4*m+3) (by rw [show 4*m+3+1=4*(m+1) by omega];exact h)
theorem div_pow_succ (n j:Nat):n / 10000 ^ (j+1)=n / 10000 ^ j / 10000:=by rw [Nat.pow_succ,Nat.div_div_eq_div_mul]
theorem grp_top {n:Nat} (h:n≠0):n / 10000 ^ ((grp n).length-1)<10000:=by
 have h1:=grp_lt n
 have h2:(grp n).length≠0:=fun e=>h (grp_nil.1 (List.length_eq_zero_iff.1 e))
 rw [Nat.div_lt_iff_lt_mul (Nat.pow_pos (by omega)),Nat.mul_comm,← Nat.pow_succ,show ((grp n).length-1).succ=(grp n).length by omega]
 exact h1
theorem text_ok {ng:Bool} {n:Nat} (hn:(grp n).length≤400):m87 (ng,grp n)=some (if n<10 ^ 200 then (itoa (if ng then -(n:Int) else n),0) else ([],30)):=by
 unfold m87
 by_cases h0:n=0
 ·subst h0
  rw [grp_zero,if_pos (by decide)]
  cases ng
  ·show some (([48]:List UInt8),(0:Int))=some (itoa 0,0);rw [itoa_zero]
  ·show some (([48]:List UInt8),(0:Int))=some (itoa 0,0);rw [itoa_zero]
 ·have hL:(grp n).length≠0:=fun e=>h0 (grp_nil.1 (List.length_eq_zero_iff.1 e))
  obtain ⟨L,hLL⟩:∃ L,(grp n).length=L+1:=⟨(grp n).length-1,by omega⟩
  have hlen:lenM (grp n)=(L:Int)+1:=by rw [lenI,hLL];omega
  have htop:=grp_top h0
  rw [hLL,Nat.add_sub_cancel] at htop
  have hnl:n<10000 ^ (L+1):=by have:=grp_lt n;rwa [hLL] at this
  have hge:10000 ^ L≤n:=by have:=grp_len_pow h0;rwa [hLL,Nat.add_sub_cancel] at this
  have hw:IntKind.wrap IntKind.i64 (lenM (grp n)-1)=(L:Int):=by rw [hlen,wrap_in (by omega) (by omega)];omega
  dsimp only
  rw [neI (by rw [hlen];omega),cond_false,hw]
  refine bind_of (x:=decDigits n) ?_ ?_
  ·refine (loopM_fn (fun k=>((L:Int)-k,if k=0 then [] else decDigits (n / 10000 ^ (L+1-k)))) (L+1) (r:=decDigits n) (fun k hk=>?_) ?_)
   ·have hi:(L:Int)-k=((L-k:Nat):Int):=by omega
    have hq:n / 10000 ^ (L-k)≤n:=Nat.div_le_self _ _
    have hdl:(decDigits (n / 10000 ^ (L-k) % 10000)).length≤4:=dec_len4 (by omega)
    have e1:idxM (grp n) ((L-k:Nat):Int)=some ((n / 10000 ^ (L-k) % 10000:Nat):Int):=grp_idx (by omega)
    have e2:itoaM ((n / 10000 ^ (L-k) % 10000:Nat):Int)=decDigits (n / 10000 ^ (L-k) % 10000):=itoa_nn
    have e3:IntKind.wrap IntKind.i64 (4-lenM (decDigits (n / 10000 ^ (L-k) % 10000)))=((4-(decDigits (n / 10000 ^ (L-k) % 10000)).length:Nat):Int):=by
     rw [lenI,wrap_in (by omega) (by omega)];omega
    have e4:IntKind.wrap IntKind.i64 (((L-k:Nat):Int)-1)=(L:Int)-((k+1:Nat):Int):=by rw [wrap_in (by omega) (by omega)];omega
    dsimp only
    rw [hi,leI (by omega),cond_true,e1,Option.bind_some,e2,e4,if_neg (show ¬ k+1=0 by omega),show L+1-(k+1)=L-k by omega]
    by_cases hk0:k=0
    ·subst hk0
     rw [geI (by omega),cond_false,Option.bind_some,if_pos rfl,Nat.sub_zero]
     rw [Nat.mod_eq_of_lt htop,catB_of (by have:=dec_len4 htop;simp;omega)];rfl
    ·have hb:n / 10000 ^ (L+1-k)=n / 10000 ^ (L-k) / 10000:=by rw [show L+1-k=L-k+1 by omega,div_pow_succ]
     have hbig:10000≤n / 10000 ^ (L-k):=by
      rw [Nat.le_div_iff_mul_le (Nat.pow_pos (by omega)),Nat.mul_comm,← Nat.pow_succ]
      exact Nat.le_trans (Nat.pow_le_pow_right (by omega) (by omega)) hge
     have hlen2:(decDigits (n / 10000 ^ (L-k) / 10000)).length≤4*(L+1):=dec_len_grp (Nat.lt_of_le_of_lt (Nat.le_trans (Nat.div_le_self _ _) hq) hnl)
     have e5:(repeatL [(48:UInt8)] (4-(decDigits (n / 10000 ^ (L-k) % 10000)).length)++decDigits (n / 10000 ^ (L-k) % 10000)).length=4:=by rw [pad_dec (by omega)];rfl
     rw [List.length_append] at e5
     rw [ltI (by omega),cond_true,e3,rpt_of (by omega),Option.bind_some,catM_of (by omega),Option.bind_some,pad_dec (by omega),Option.bind_some,if_neg hk0,hb,
      catB_of (by show _+4≤_;omega),← dec_pad hbig];rfl
   ·have e:(L:Int)-((L+1:Nat):Int)=-1:=by omega
    dsimp only
    rw [e,if_neg (by omega),show L+1-(L+1)=0 by omega,Nat.pow_zero,Nat.div_one];rfl
  ·have hl2:=dec_len_grp hnl
   by_cases hs:n<10 ^ 200
   ·have h200:(decDigits n).length≤200:=dec_len_le (k:=199) hs
    rw [if_pos hs,geI (by rw [lenI];omega),cond_false]
    cases ng
    ·rw [cond_false,if_neg (by decide),itoa_nn]
    ·rw [cond_true,catM_of (by simp;omega),Option.bind_some,if_pos rfl,itoa_ng h0];rfl
   ·have h200:¬ (decDigits n).length≤200:=fun h=>hs (Nat.lt_of_lt_of_le (dec_len_lt n) (Nat.pow_le_pow_right (by omega) h))
    rw [if_neg hs,ltI (by rw [lenI];omega),cond_true]
def Sg (o:Bool×List Int) (z:Int):Prop:=o.2=grp z.natAbs∧(z≠0→o.1=decide (z<0))
theorem textZ {o:Bool×List Int} {z:Int} (h:Sg o z) (hn:(grp z.natAbs).length≤400):m87 o=some (if z.natAbs<10 ^ 200 then (itoa z,0) else ([],30)):=by
 obtain ⟨ng,l⟩:=o
 obtain ⟨h1,h2⟩:=h
 dsimp only at h1 h2
 subst h1
 rw [text_ok hn]
 have e:(if ng then -(z.natAbs:Int) else z.natAbs)=z:=by
  by_cases hz:z=0
  ·subst hz;cases ng<;>rfl
  ·rw [h2 hz]
   by_cases hneg:z<0
   ·rw [if_pos (by simpa using hneg)];omega
   ·rw [if_neg (by simpa using hneg)];omega
 rw [e]
theorem iat_ok (l:List Int) (i:Nat):m119 (l,(i:Int))=some (l.getD i 0):=by
 unfold m119
 by_cases h:i<l.length
 ·dsimp only;rw [ltI (by rw [lenI];omega),cond_true,idxM_lt h,getD_in _ _ h];rfl
 ·dsimp only;rw [geI (by rw [lenI];omega),cond_false,getD_out _ _ (by omega)]
theorem mk0 {n:Int} (h0:0≤n) (h:n≤1000000):mkM 0 n (nat_lit 8) (0:Int)=some []:=by rw [mkM_of (by omega) (by omega) (by show n*8≤_;omega)];rfl
theorem app1 {l:List Int} {d:Int} (h:l.length≤1000000):appM (nat_lit 8) l [d]=some (l++[d]):=appM_of (by simp;omega)
theorem fold_end {o:Option (List Int)} {n k:Nat} (h:Ans o fun out=>okd out∧vl out=(n:Int)∧out.length≤k+1) (hk:k≤10000):(o.bind fun o=>(m113 o).bind fun r=>some r)=some (grp n):=by
 refine Ans.is (Ans.bind h ?_)
 rintro out ⟨h1,h2,h3⟩
 have e:=strip_ok h1 (by omega)
 rw [h2] at e
 exact .of (by rw [e];rfl) rfl
theorem seq_at (n:Nat) (g:Nat→Int) {i:Nat} (hz:∀ i,n≤i→g i=0):(seqL n g).getD i 0=g i:=by
 by_cases h:i<n
 ·exact seqL_get n g i h
 ·rw [getD_out _ _ (by rw [seqL_len];omega),hz i (by omega)]
theorem plus_ok {a b:Nat} (ha:(grp a).length≤1000) (hb:(grp b).length≤1000):m84 (grp a,grp b)=some (grp (a+b)):=by
 unfold m84
 dsimp only
 have hm:max (lenM (grp a)) (lenM (grp b))=((max (grp a).length (grp b).length:Nat):Int):=by rw [lenI,lenI];omega
 rw [hm,wrap_in (by omega) (by omega),mk0 (by omega) (by omega),Option.bind_some]
 have hs:∀ i,(seqL (max (grp a).length (grp b).length) fun i=>(grp a).getD i 0+(grp b).getD i 0).getD i 0=(grp a).getD i 0+(grp b).getD i 0:=fun i=>seq_at _ _ fun i hi=>by rw [getD_out _ _ (by omega),getD_out _ _ (by omega)];rfl
 have hA:=okd_get (grp_okd a)
 have hB:=okd_get (grp_okd b)
 have hv:vl (seqL (max (grp a).length (grp b).length) fun i=>(grp a).getD i 0+(grp b).getD i 0)=((a+b:Nat):Int):=by
  rw [vl_add,vl_of _ _ (by omega),vl_of _ _ (by omega),vl_grp,vl_grp];omega
 refine fold_end (k:=max (grp a).length (grp b).length) ?_ (by omega)
 have key:=carry_loop (dl:=seqL (max (grp a).length (grp b).length) fun i=>(grp a).getD i 0+(grp b).getD i 0) (fun i=>by rw [hs];have:=hA i;have:=hB i;omega) (by rw [hv];omega)
  (body:=fun (s:Int×Int×List Int)=>bif PE.orM (ltM s.2.1 ((max (grp a).length (grp b).length:Nat):Int))
 (PE.notM (eqM s.1 0)) then (m119 (grp a,s.2.1)).bind fun r_1=>(m119 (grp b,s.2.1)).bind fun r_2=>(bif ltM (IntKind.wrap IntKind.i64 (IntKind.wrap
 IntKind.i64 (r_1+r_2)+s.1)) 0 then some ((-1),IntKind.wrap IntKind.i64 (IntKind.wrap IntKind.i64 (IntKind.wrap IntKind.i64 (r_1+r_2)+s.1)+10000)) else bif leM 10000 (IntKind.wrap
 IntKind.i64 (IntKind.wrap IntKind.i64 (r_1+r_2)+s.1)) then (divM IntKind.i64 (IntKind.wrap IntKind.i64 (IntKind.wrap IntKind.i64 (r_1+r_2)+s.1)) 10000).bind fun r_3=>(remM
 (IntKind.wrap IntKind.i64 (IntKind.wrap IntKind.i64 (r_1+r_2)+s.1)) 10000).bind fun r=>some (r_3,r) else some (0,IntKind.wrap IntKind.i64 (IntKind.wrap IntKind.i64 (r_1+r_2) +
 s.1))).bind fun o=>(appM (nat_lit 8) s.2.2 [o.2]).bind fun r=>some (Sum.inl (o.1,IntKind.wrap IntKind.i64 (s.2.1+1),r)) else some (Sum.inr s.2.2))
  (fun i c out ho hi h1 h2 h3=>?_) (fun i out hi=>?_)
 ·rw [hv,seqL_len] at key
  exact key
 ·rw [seqL_len] at hi h3
  have hA:=hA i
  have hB:=hB i
  have hc:PE.orM (ltM (i:Int) ((max (grp a).length (grp b).length:Nat):Int)) (PE.notM (eqM c 0))=true:=by
   rcases h3 with h | h
   ·rw [ltI (by omega),orT]
   ·rw [neI h,notF];cases ltM (i:Int) _<;>rfl
  have e:IntKind.wrap IntKind.i64 (IntKind.wrap IntKind.i64 ((grp a).getD i 0+(grp b).getD i 0)+c)=(grp a).getD i 0+(grp b).getD i 0+c:=by rw [wrap_in (n:=_+_) (by rw [wrap_in (by omega) (by omega)];omega) (by rw [wrap_in (by omega) (by omega)];omega),wrap_in (by omega) (by omega)]
  dsimp only
  rw [hc,cond_true,iat_ok,Option.bind_some,iat_ok,Option.bind_some,e,step_digit (by omega) (by omega),Option.bind_some,app1 (by omega),Option.bind_some,wrap_in (by omega) (by omega),hs]
 ·rw [seqL_len] at hi
  dsimp only
  rw [geI (by omega)];rfl
end Go.Proofs.YtechphmljdgoaaaGreatDoor
namespace Go.Proofs.YtechphmljdgoaaaGreatDoor
open Go Go.Lib Go.Abs Go.PE Go.Num
theorem by_ok {a d:Nat} (ha:(grp a).length≤1000) (hd:d≤9999):m114 (grp a,(d:Int))=some (grp (a*d)):=by
 unfold m114
 dsimp only
 have hm:lenM (grp a)=((grp a).length:Int):=lenI _
 rw [hm,wrap_in (by omega) (by omega),mk0 (by omega) (by omega),Option.bind_some]
 have hs:∀ i,(seqL (grp a).length fun i=>(grp a).getD i 0*(d:Int)).getD i 0=(grp a).getD i 0*(d:Int):=fun i=>seq_at _ _ fun i hi=>by rw [getD_out _ _ (by omega),Int.zero_mul]
 have hA:=okd_get (grp_okd a)
 have hb:∀ i,0≤(grp a).getD i 0*(d:Int)∧(grp a).getD i 0*(d:Int)≤99980001:=fun i=>by
  have h1:=hA i
  refine ⟨Int.mul_nonneg h1.1 (by omega),?_⟩
  have:=Int.mul_le_mul h1.2 (show (d:Int)≤9999 by omega) (by omega) (by omega)
  omega
 have hv:vl (seqL (grp a).length fun i=>(grp a).getD i 0*(d:Int))=((a*d:Nat):Int):=by
  rw [vl_mul,vl_of _ _ (by omega),vl_grp];exact (Int.natCast_mul a d).symm
 refine fold_end (k:=(grp a).length) ?_ (by omega)
 have key:=carry_loop (dl:=seqL (grp a).length fun i=>(grp a).getD i 0*(d:Int)) (fun i=>by rw [hs];have:=hb i;omega) (by rw [hv];omega)
  (body:=fun (s:Int×Int×List Int)=>bif PE.orM (ltM s.2.1 ((grp a).length:Int))
 (PE.notM (eqM s.1 0)) then (m119 (grp a,s.2.1)).bind fun r_1=>(bif ltM (IntKind.wrap IntKind.i64 (IntKind.wrap
 IntKind.i64 (r_1*(d:Int))+s.1)) 0 then some ((-1),IntKind.wrap IntKind.i64 (IntKind.wrap IntKind.i64 (IntKind.wrap IntKind.i64 (r_1*(d:Int))+s.1)+10000)) else bif leM 10000 (IntKind.wrap
 IntKind.i64 (IntKind.wrap IntKind.i64 (r_1*(d:Int))+s.1)) then (divM IntKind.i64 (IntKind.wrap IntKind.i64 (IntKind.wrap IntKind.i64 (r_1*(d:Int))+s.1)) 10000).bind fun r_2=>(remM
 (IntKind.wrap IntKind.i64 (IntKind.wrap IntKind.i64 (r_1*(d:Int))+s.1)) 10000).bind fun r=>some (r_2,r) else some (0,IntKind.wrap IntKind.i64 (IntKind.wrap IntKind.i64 (r_1*(d:Int)) +
 s.1))).bind fun o=>(appM (nat_lit 8) s.2.2 [o.2]).bind fun r=>some (Sum.inl (o.1,IntKind.wrap IntKind.i64 (s.2.1+1),r)) else some (Sum.inr s.2.2))
  (fun i c out ho hi h1 h2 h3=>?_) (fun i out hi=>?_)
 ·rw [hv,seqL_len] at key
  exact key
 ·rw [seqL_len] at hi h3
  have hb:=hb i
  have hc:PE.orM (ltM (i:Int) ((grp a).length:Int)) (PE.notM (eqM c 0))=true:=by
   rcases h3 with h | h
   ·rw [ltI (by omega),orT]
   ·rw [neI h,notF];cases ltM (i:Int) _<;>rfl
  have e:IntKind.wrap IntKind.i64 (IntKind.wrap IntKind.i64 ((grp a).getD i 0*(d:Int))+c)=(grp a).getD i 0*(d:Int)+c:=by rw [wrap_in (n:=(grp a).getD i 0*(d:Int)) (by omega) (by omega),wrap_in (by omega) (by omega)]
  dsimp only
  rw [hc,cond_true,iat_ok,Option.bind_some,e,step_digit (by omega) (by omega),Option.bind_some,app1 (by omega),Option.bind_some,wrap_in (by omega) (by omega),hs]
 ·rw [seqL_len] at hi
  dsimp only
  rw [geI (by omega)];rfl
theorem grp_len_mono {a b:Nat} (h:a≤b):(grp a).length≤(grp b).length:=grp_len_le (Nat.lt_of_le_of_lt h (grp_lt b))
theorem minus_ok {a b:Nat} (ha:(grp a).length≤1000) (hb:b≤a):m86 (grp a,grp b)=some (grp (a-b)):=by
 unfold m86
 dsimp only
 have hl:=grp_len_mono hb
 have hm:lenM (grp a)=((grp a).length:Int):=lenI _
 rw [hm,wrap_in (by omega) (by omega),mk0 (by omega) (by omega),Option.bind_some]
 have hs:∀ i,(seqL (grp a).length fun i=>(grp a).getD i 0-(grp b).getD i 0).getD i 0=(grp a).getD i 0-(grp b).getD i 0:=fun i=>seq_at _ _ fun i hi=>by rw [getD_out _ _ (by omega),getD_out _ _ (by omega)];rfl
 have hA:=okd_get (grp_okd a)
 have hB:=okd_get (grp_okd b)
 have hv:vl (seqL (grp a).length fun i=>(grp a).getD i 0-(grp b).getD i 0)=((a-b:Nat):Int):=by
  rw [vl_sub,vl_of _ _ (by omega),vl_of _ _ (by omega),vl_grp,vl_grp];omega
 refine fold_end (k:=(grp a).length) ?_ (by omega)
 have key:=carry_loop (dl:=seqL (grp a).length fun i=>(grp a).getD i 0-(grp b).getD i 0) (fun i=>by rw [hs];have:=hA i;have:=hB i;omega) (by rw [hv];omega)
  (body:=fun (s:Int×Int×List Int)=>bif PE.orM (ltM s.2.1 ((grp a).length:Int))
 (PE.notM (eqM s.1 0)) then (m119 (grp a,s.2.1)).bind fun r_1=>(m119 (grp b,s.2.1)).bind fun r_2=>(bif ltM (IntKind.wrap IntKind.i64 (IntKind.wrap
 IntKind.i64 (r_1-r_2)+s.1)) 0 then some ((-1),IntKind.wrap IntKind.i64 (IntKind.wrap IntKind.i64 (IntKind.wrap IntKind.i64 (r_1-r_2)+s.1)+10000)) else bif leM 10000 (IntKind.wrap
 IntKind.i64 (IntKind.wrap IntKind.i64 (r_1-r_2)+s.1)) then (divM IntKind.i64 (IntKind.wrap IntKind.i64 (IntKind.wrap IntKind.i64 (r_1-r_2)+s.1)) 10000).bind fun r_3=>(remM
 (IntKind.wrap IntKind.i64 (IntKind.wrap IntKind.i64 (r_1-r_2)+s.1)) 10000).bind fun r=>some (r_3,r) else some (0,IntKind.wrap IntKind.i64 (IntKind.wrap IntKind.i64 (r_1-r_2) +
 s.1))).bind fun o=>(appM (nat_lit 8) s.2.2 [o.2]).bind fun r=>some (Sum.inl (o.1,IntKind.wrap IntKind.i64 (s.2.1+1),r)) else some (Sum.inr s.2.2))
  (fun i c out ho hi h1 h2 h3=>?_) (fun i out hi=>?_)
 ·rw [hv,seqL_len] at key
  exact key
 ·rw [seqL_len] at hi h3
  have hA:=hA i
  have hB:=hB i
  have hc:PE.orM (ltM (i:Int) ((grp a).length:Int)) (PE.notM (eqM c 0))=true:=by
   rcases h3 with h | h
   ·rw [ltI (by omega),orT]
   ·rw [neI h,notF];cases ltM (i:Int) _<;>rfl
  have e:IntKind.wrap IntKind.i64 (IntKind.wrap IntKind.i64 ((grp a).getD i 0-(grp b).getD i 0)+c)=(grp a).getD i 0-(grp b).getD i 0+c:=by rw [wrap_in (n:=(grp a).getD i 0-(grp b).getD i 0) (by omega) (by omega),wrap_in (by omega) (by omega)]
  dsimp only
  rw [hc,cond_true,iat_ok,Option.bind_some,iat_ok,Option.bind_some,e,step_digit (by omega) (by omega),Option.bind_some,app1 (by omega),Option.bind_some,wrap_in (by omega) (by omega),hs]
 ·rw [seqL_len] at hi
  dsimp only
  rw [geI (by omega)];rfl
theorem grp_mul {a b:Nat}:(grp (a*b)).length≤(grp a).length+(grp b).length:=grp_len_le (by rw [Nat.pow_add];exact Nat.mul_lt_mul'' (grp_lt a) (grp_lt b))
theorem grp_add {a b:Nat}:(grp (a+b)).length≤max (grp a).length (grp b).length+1:=grp_len_le (by
 have h1:=grp_lt a
 have h2:=grp_lt b
 have h3:=Nat.pow_le_pow_right (show 0<10000 by omega) (Nat.le_max_left (grp a).length (grp b).length)
 have h4:=Nat.pow_le_pow_right (show 0<10000 by omega) (Nat.le_max_right (grp a).length (grp b).length)
 rw [Nat.pow_succ];omega)
theorem shift_ok {m:Nat} (h:(grp m).length≤10000):((bif ltM 0 (lenM (grp m)) then (appM (nat_lit 8) [0] (grp m)).bind fun r=>some r else some (grp m)):Option (List Int))=some (grp (10000*m)):=by
 by_cases h0:m=0
 ·subst h0;rw [Nat.mul_zero,grp_zero];rfl
 ·have hl:(grp m).length≠0:=fun e=>h0 (grp_nil.1 (List.length_eq_zero_iff.1 e))
  rw [ltI (by rw [lenI];omega),cond_true,appM_of (by simp;omega),Option.bind_some,grp_pos (show 10000*m≠0 by omega),show 10000*m / 10000=m by omega,show 10000*m % 10000=0 by omega];rfl
theorem grp_shift_len (m:Nat):(grp (10000*m)).length≤(grp m).length+1:=by
 by_cases h0:m=0
 ·subst h0;rw [Nat.mul_zero,grp_zero];simp
 ·rw [grp_pos (show 10000*m≠0 by omega),show 10000*m / 10000=m by omega,List.length_cons];omega
theorem times_ok {a b:Nat} (ha:(grp a).length≤400) (hb:(grp b).length≤400):m132 (grp a,grp b)=some (grp (a*b)):=by
 unfold m132
 have hw:IntKind.wrap IntKind.i64 (lenM (grp b)-1)=((grp b).length:Int)-((0:Nat):Int)-1:=by rw [lenI,wrap_in (by omega) (by omega)];omega
 have h0:([]:List Int)=grp (a*(b / 10000 ^ ((grp b).length-0))):=by rw [Nat.sub_zero,Nat.div_eq_of_lt (grp_lt b),Nat.mul_zero,grp_zero]
 refine bind_of (Eq.trans (congrArg (loopM _) (Prod.ext hw h0)) (loopM_fn (fun k=>(((grp b).length:Int)-(k:Int)-1,grp (a*(b / 10000 ^ ((grp b).length-k))))) (grp b).length (r:=grp (a*b)) (fun k hk=>?_) ?_)) rfl
 ·have hi:((grp b).length:Int)-(k:Int)-1=(((grp b).length-k-1:Nat):Int):=by omega
  have hq2:b / 10000 ^ ((grp b).length-k)≤b:=Nat.div_le_self _ _
  have hd:b / 10000 ^ ((grp b).length-k)=b / 10000 ^ ((grp b).length-k-1) / 10000:=by
   rw [← div_pow_succ,show (grp b).length-k-1+1=(grp b).length-k by omega]
  have l1:(grp (a*(b / 10000 ^ ((grp b).length-k)))).length≤800:=Nat.le_trans grp_mul (by have:=grp_len_mono hq2;omega)
  have hrec:a*(b / 10000 ^ ((grp b).length-k-1))=10000*(a*(b / 10000 ^ ((grp b).length-k)))+a*(b / 10000 ^ ((grp b).length-k-1) % 10000):=by
   rw [hd,Nat.mul_left_comm,← Nat.mul_add];congr 1;omega
  have l2:=grp_shift_len (a*(b / 10000 ^ ((grp b).length-k)))
  have l4:(grp (a*(b / 10000 ^ ((grp b).length-k-1) % 10000))).length≤1000:=Nat.le_trans grp_mul (by have:(grp (b / 10000 ^ ((grp b).length-k-1) % 10000)).length≤1:=grp_len_le (by omega);omega)
  dsimp only
  rw [hi,leI (by omega),cond_true,grp_idx (by omega),Option.bind_some,shift_ok (by omega),Option.bind_some,by_ok (by omega) (by omega),Option.bind_some,plus_ok (by omega) l4,Option.bind_some,← hrec,wrap_in (by omega) (by omega),show (grp b).length-(k+1)=(grp b).length-k-1 by omega]
  congr 3;omega
 ·have e:((grp b).length:Int)-((grp b).length:Int)-1=-1:=by omega
  dsimp only
  rw [e,gtI (by omega),cond_false,Nat.sub_self,Nat.pow_zero,Nat.div_one]
def cmp3 (x y:Int):Int:=if x<y then -1 else if y<x then 1 else 0
theorem cmp_ok1 (x y:Int):m124 (x,y)=some (cmp3 x y):=by
 unfold m124
 have e:∀ z:Int,m131 z=some false:=fun z=>by unfold m131;rw [eqI rfl];rfl
 dsimp only
 rw [e,Option.bind_some,e,Option.bind_some,cond_false,cond_false]
 unfold cmp3
 by_cases h1:x<y
 ·rw [ltI h1,cond_true,if_pos h1]
 ·rw [geI (by omega),cond_false,if_neg h1]
  by_cases h2:y<x
  ·rw [ltI h2,cond_true,if_pos h2]
  ·rw [geI (by omega),cond_false,if_neg h2]
theorem cmp3_div {a b j:Nat} (h:a / j<b / j):cmp3 (a:Int) b=-1:=by
 have:a<b:=by
  rcases Nat.lt_or_ge a b with h1 | h1
  ·exact h1
  ·exact absurd (Nat.div_le_div_right (c:=j) h1) (by omega)
 unfold cmp3;rw [if_pos (by omega)]
theorem cmp3_div' {a b j:Nat} (h:b / j<a / j):cmp3 (a:Int) b=1:=by
 have:b<a:=by
  rcases Nat.lt_or_ge b a with h1 | h1
  ·exact h1
  ·exact absurd (Nat.div_le_div_right (c:=j) h1) (by omega)
 unfold cmp3;rw [if_neg (by omega),if_pos (by omega)]
theorem compare_ok {a b:Nat} (ha:(grp a).length≤10000) (hb:(grp b).length≤10000):m88 (grp a,grp b)=some (cmp3 a b):=by
 unfold m88
 dsimp only
 by_cases hl:(grp a).length=(grp b).length
 ·rw [eqI (show lenM (grp a)=lenM (grp b) by rw [lenI,lenI,hl]),notT,cond_false]
  have hw:IntKind.wrap IntKind.i64 (lenM (grp a)-1)=((grp a).length:Int)-((0:Nat):Int)-1:=by rw [lenI,wrap_in (by omega) (by omega)];omega
  rw [hw]
  refine Ans.is (Ans.bind (P:=fun o=>Sum.elim (fun (_:Unit)=>some 0) (fun (t:Int)=>some t) o=some (cmp3 a b)) (Ans.loop (fun k s=>s=((grp a).length:Int)-(k:Int)-1∧a / 10000 ^ ((grp a).length-k)=b / 10000 ^ ((grp a).length-k)) (grp a).length ⟨rfl,?_⟩ ?_) ?_)
  ·rw [Nat.sub_zero,Nat.div_eq_of_lt (grp_lt a),hl,Nat.div_eq_of_lt (grp_lt b)]
  ·rintro k s hk ⟨rfl,he⟩
   by_cases hkl:k<(grp a).length
   ·have hi:((grp a).length:Int)-(k:Int)-1=(((grp a).length-k-1:Nat):Int):=by omega
    have hd:∀ n,n / 10000 ^ ((grp a).length-k)=n / 10000 ^ ((grp a).length-k-1) / 10000:=fun n=>by
     rw [← div_pow_succ,show (grp a).length-k-1+1=(grp a).length-k by omega]
    rw [hd a,hd b] at he
    rw [hi,leI (by omega),cond_true,grp_idx (by omega),Option.bind_some,grp_idx (by omega),Option.bind_some]
    by_cases hx:a / 10000 ^ ((grp a).length-k-1) % 10000=b / 10000 ^ ((grp a).length-k-1) % 10000
    ·rw [eqI (by omega),notT,cond_false]
     refine Ans.of (r:=.inl (((grp a).length:Int)-((k+1:Nat):Int)-1)) (by rw [wrap_in (by omega) (by omega)];congr 2;omega) ?_
     exact show k<(grp a).length∧_ from ⟨hkl,rfl,by rw [show (grp a).length-(k+1)=(grp a).length-k-1 by omega];omega⟩
    ·rw [neI (by omega),notF,cond_true,Option.bind_some,cmp_ok1]
     refine Ans.of (r:=.inr (.inr (cmp3 ((a / 10000 ^ ((grp a).length-k-1) % 10000:Nat):Int) ((b / 10000 ^ ((grp a).length-k-1) % 10000:Nat):Int)))) rfl ?_
     show some (cmp3 ((a / 10000 ^ ((grp a).length-k-1) % 10000:Nat):Int) ((b / 10000 ^ ((grp a).length-k-1) % 10000:Nat):Int))=some (cmp3 a b)
     congr 1
     rcases Nat.lt_or_gt_of_ne hx with h | h
     ·rw [cmp3_div (a:=a) (b:=b) (j:=10000 ^ ((grp a).length-k-1)) (by omega)];unfold cmp3;rw [if_pos (by omega)]
     ·rw [cmp3_div' (a:=a) (b:=b) (j:=10000 ^ ((grp a).length-k-1)) (by omega)];unfold cmp3;rw [if_neg (by omega),if_pos (by omega)]
   ·have:k=(grp a).length:=by omega
    subst this
    rw [Nat.sub_self,Nat.pow_zero,Nat.div_one,Nat.div_one] at he
    have e:((grp a).length:Int)-((grp a).length:Int)-1=-1:=by omega
    rw [e,gtI (by omega),cond_false]
    refine Ans.of (r:=.inr (.inl ())) rfl ?_
    show some (0:Int)=some (cmp3 a b)
    unfold cmp3;rw [if_neg (by omega),if_neg (by omega)]
  ·intro o ho
   exact .of ho rfl
 ·rw [neI (by rw [lenI,lenI];omega),notF,cond_true,cmp_ok1,Option.bind_some]
  have ka:=grp_lt a
  have kb:=grp_lt b
  congr 1
  rcases Nat.lt_or_gt_of_ne hl with h | h
  ·have hb0:b≠0:=fun e=>by subst e;rw [grp_zero] at h;simp at h
   have h1:=grp_len_pow hb0
   have h2:=Nat.pow_le_pow_right (show 0<10000 by omega) (show (grp a).length≤(grp b).length-1 by omega)
   unfold cmp3;rw [if_pos (by rw [lenI,lenI];omega),if_pos (by omega)]
  ·have ha0:a≠0:=fun e=>by subst e;rw [grp_zero] at h;simp at h
   have h1:=grp_len_pow ha0
   have h2:=Nat.pow_le_pow_right (show 0<10000 by omega) (show (grp b).length≤(grp a).length-1 by omega)
   unfold cmp3;rw [if_neg (by rw [lenI,lenI];omega),if_pos (by rw [lenI,lenI];omega),if_neg (by omega),if_pos (by omega)]
theorem cmp3_pos (x y:Int):leM 0 (cmp3 x y)=decide (y≤x):=by
 unfold cmp3
 by_cases h1:x<y
 ·rw [if_pos h1,gtI (by omega),decide_eq_false (by omega)]
 ·rw [if_neg h1,decide_eq_true (by omega)]
  by_cases h2:y<x
  ·rw [if_pos h2,leI (by omega)]
  ·rw [if_neg h2,leI (by omega)]
theorem splus_ok {x y:Int} (hx:(grp x.natAbs).length≤400) (hy:(grp y.natAbs).length≤400):Ans (m95 ((decide (x<0),grp x.natAbs),decide (y<0),grp y.natAbs)) fun o=>Sg o (x+y):=by
 unfold m95
 dsimp only
 by_cases hs:decide (x<0)=decide (y<0)
 ·have hs':=decide_eq_decide.1 hs
  rw [show eqbM (decide (x<0)) (decide (y<0))=true from decide_eq_true hs,cond_true,plus_ok (by omega) (by omega),Option.bind_some]
  refine .of rfl ⟨by show grp _=grp _;congr 1;omega,fun h=>?_⟩
  show decide (x<0)=decide (x+y<0)
  exact decide_eq_decide.2 (by omega)
 ·have hs':¬ (x<0↔y<0):=fun h=>hs (decide_eq_decide.2 h)
  rw [show eqbM (decide (x<0)) (decide (y<0))=false from decide_eq_false hs,cond_false,compare_ok (by omega) (by omega),Option.bind_some,cmp3_pos]
  by_cases hc:y.natAbs≤x.natAbs
  ·rw [decide_eq_true (by omega),cond_true,minus_ok (by omega) hc,Option.bind_some]
   refine .of rfl ⟨by show grp _=grp _;congr 1;omega,fun h=>?_⟩
   show decide (x<0)=decide (x+y<0)
   exact decide_eq_decide.2 (by omega)
  ·rw [decide_eq_false (by omega),cond_false,minus_ok (by omega) (by omega),Option.bind_some]
   refine .of rfl ⟨by show grp _=grp _;congr 1;omega,fun h=>?_⟩
   show decide (y<0)=decide (x+y<0)
   exact decide_eq_decide.2 (by omega)
def Fits (z:Int):Prop:=z.natAbs<10 ^ 200
instance (z:Int):Decidable (Fits z):=inferInstanceAs (Decidable (z.natAbs<10 ^ 200))
def sn (z:Int):List UInt8×Int:=if Fits z then (itoa z,0) else ([],30)
theorem fits_len {z:Int} (h:Fits z):(grp z.natAbs).length≤50:=grp_len_le (Nat.lt_of_lt_of_le h (by decide))
theorem sn_text {o:Bool×List Int} {z:Int} (h:Sg o z) (hn:(grp z.natAbs).length≤400):m87 o=some (sn z):=by
 rw [textZ h hn];rfl
theorem iadd_ok {x y:Int} (hx:Fits x) (hy:Fits y):m74 (itoa x,itoa y)=some (sn (x+y)):=by
 have h1:=fits_len hx
 have h2:=fits_len hy
 unfold m74
 dsimp only
 rw [both_ok hx hy,Option.bind_some,notT,cond_false]
 refine Ans.is (Ans.bind (splus_ok (by omega) (by omega)) fun o ho=>?_)
 rw [sn_text ho (Nat.le_trans (grp_len_mono (show (x+y).natAbs≤x.natAbs+y.natAbs by omega)) (Nat.le_trans grp_add (by omega)))]
 exact .of rfl rfl
theorem imul_ok {x y:Int} (hx:Fits x) (hy:Fits y):m107 (itoa x,itoa y)=some (sn (x*y)):=by
 have h1:=fits_len hx
 have h2:=fits_len hy
 unfold m107
 dsimp only
 rw [both_ok hx hy,Option.bind_some,notT,cond_false,times_ok (by omega) (by omega),Option.bind_some]
 rw [sn_text (z:=x*y) ⟨by show grp _=grp _;rw [Int.natAbs_mul],fun h=>?_⟩ (by rw [Int.natAbs_mul];exact Nat.le_trans grp_mul (by omega))]
 ·rfl
 ·show PE.notM (eqbM (decide (x<0)) (decide (y<0)))=decide (x*y<0)
  have hx0:x≠0:=fun e=>h (by rw [e,Int.zero_mul])
  have hy0:y≠0:=fun e=>h (by rw [e,Int.mul_zero])
  by_cases hx:x<0<;>by_cases hy:y<0
  ·rw [decide_eq_true hx,decide_eq_true hy,decide_eq_false (by have:=Int.mul_pos_of_neg_of_neg hx hy;omega)];rfl
  ·rw [decide_eq_true hx,decide_eq_false hy,decide_eq_true (Int.mul_neg_of_neg_of_pos hx (by omega))];rfl
  ·rw [decide_eq_false hx,decide_eq_true hy,decide_eq_true (Int.mul_neg_of_pos_of_neg (by omega) hy)];rfl
  ·rw [decide_eq_false hx,decide_eq_false hy,decide_eq_false (by have:=Int.mul_pos (show 0<x by omega) (show 0<y by omega);omega)];rfl
theorem icmp_ok {x y:Int} (hx:Fits x) (hy:Fits y):m57 (itoa x,itoa y)=some (cmp3 x y):=by
 have h1:=fits_len hx
 have h2:=fits_len hy
 unfold m57
 dsimp only
 rw [both_ok hx hy,Option.bind_some,notT,cond_false]
 by_cases hx:x<0
 ·rw [decide_eq_true hx]
  by_cases hy:y<0
  ·rw [decide_eq_true hy,andT,cond_true,compare_ok (by omega) (by omega),Option.bind_some]
   congr 1;unfold cmp3;grind
  ·rw [decide_eq_false hy,andT,cond_false,cond_true]
   congr 1;unfold cmp3;grind
 ·rw [decide_eq_false hx,andF,cond_false,cond_false]
  by_cases hy:y<0
  ·rw [decide_eq_true hy,cond_true]
   congr 1;unfold cmp3;grind
  ·rw [decide_eq_false hy,cond_false,compare_ok (by omega) (by omega),Option.bind_some]
   congr 1;unfold cmp3;grind
end Go.Proofs.YtechphmljdgoaaaGreatDoor
namespace Go.Proofs.YtechphmljdgoaaaGreatDoor
open Go Go.Lib Go.Abs Go.PE Go.Num
theorem vl_set:∀ (l:List Int) (i:Nat) (d:Int),i<l.length→vl (l.set i d)=vl l+10000 ^ i*(d-l.getD i 0)
 | [],i,d,h=>by simp at h
 | c::l,0,d,_=>by show d+10000*vl l=c+10000*vl l+1*(d-c);omega
 | c::l,i+1,d,h=>by
  have ih:=vl_set l i d (by simpa using h)
  show c+10000*vl (l.set i d)=c+10000*vl l+10000 ^ (i+1)*(d-l.getD i 0)
  rw [ih,Int.pow_succ,Int.mul_add,Int.mul_comm (10000 ^ i) 10000,Int.mul_assoc];omega
theorem okd_set {l:List Int} (h:okd l) {i:Nat} {d:Int} (hd:0≤d∧d≤9999):okd (l.set i d):=fun c hc=>by
 rcases List.mem_or_eq_of_mem_set hc with hc | rfl
 ·exact h c hc
 ·exact hd
theorem okd_rep (n:Nat):okd (List.replicate n 0):=fun c hc=>by rw [(List.mem_replicate.1 hc).2];omega
theorem vl_rep:∀ n,vl (List.replicate n 0)=0
 | 0=>rfl
 | n+1=>by show 0+10000*vl (List.replicate n 0)=0;rw [vl_rep n];rfl
theorem half_ok {i j:Nat} (h:i<j) (hj:j≤9999):shrM IntKind.u64 (IntKind.wrap IntKind.u64 (IntKind.wrap IntKind.i64 ((i:Int)+(j:Int)))) 1=some (((i+j) / 2:Nat):Int):=by
 rw [wrap_in (by omega) (by omega)]
 have e:IntKind.wrap IntKind.u64 ((i:Int)+j)=(i:Int)+j:=by
  unfold IntKind.wrap
  show ((i:Int)+j) % 18446744073709551616=_
  omega
 rw [e]
 unfold shrM
 rw [decide_eq_false (by omega)]
 show some (((i:Int)+j).fdiv 2)=_
 rw [Int.fdiv_eq_ediv_of_nonneg _ (by omega)]
 congr 1
theorem nat_int {t:Nat} (h:t≤9999):(0:Int)≤(t:Int)∧(t:Int)≤9999:=by omega
theorem search_ok {b R:Nat} (hb:0<b) (hR:R<10000*b) (lb:(grp b).length≤400) (lR:(grp R).length≤500) :
  loopM (fun (s_1:Int×Int)=>bif ltM s_1.1 s_1.2 then (shrM IntKind.u64
 (IntKind.wrap IntKind.u64 (IntKind.wrap IntKind.i64 (s_1.1+s_1.2))) 1).bind fun r_4=>(m114 (grp b,IntKind.wrap IntKind.i64 (IntKind.wrap IntKind.i64 r_4+1))).bind fun r_5=>(m88 (r_5,
 grp R)).bind fun r=>bif PE.notM (ltM 0 r) then some (Sum.inl (IntKind.wrap IntKind.i64 (IntKind.wrap IntKind.i64 r_4+1),s_1.2)) else some (Sum.inl (s_1.1,IntKind.wrap IntKind.i64
 r_4)) else some (Sum.inr s_1.1)) (0,9999)=some ((R / b:Nat):Int):=by
 have hq:R / b≤9999:=by
  have:R / b<10000:=(Nat.div_lt_iff_lt_mul hb).2 hR
  omega
 refine Ans.is (Ans.loop (fun k s=>∃ i j:Nat,s=((i:Int),(j:Int))∧i≤R / b∧R / b≤j∧j≤9999∧j-i+k≤9999) 9999 ⟨0,9999,rfl,Nat.zero_le _,hq,Nat.le_refl _,by omega⟩ ?_)
 rintro k s hk ⟨i,j,rfl,h1,h2,h3,h4⟩
 dsimp only
 by_cases hij:i<j
 ·rw [ltI (by omega),cond_true,half_ok hij h3,Option.bind_some,wrap_in (n:=(((i+j) / 2:Nat):Int)) (by omega) (by omega),wrap_in (n:=(((i+j) / 2:Nat):Int)+1) (by omega) (by omega)]
  have e1:(((i+j) / 2:Nat):Int)+1=(((i+j) / 2+1:Nat):Int):=by omega
  rw [e1,by_ok (by omega) (by omega),Option.bind_some]
  have l1:(grp (b*((i+j) / 2+1))).length≤10000:=Nat.le_trans grp_mul (by have:(grp ((i+j) / 2+1)).length≤1:=grp_len_le (by omega);omega)
  rw [compare_ok l1 (by omega),Option.bind_some]
  have key:(i+j) / 2+1≤R / b↔b*((i+j) / 2+1)≤R:=by rw [Nat.le_div_iff_mul_le hb,Nat.mul_comm]
  by_cases hc:b*((i+j) / 2+1)≤R
  ·have e2:ltM 0 (cmp3 ((b*((i+j) / 2+1):Nat):Int) (R:Int))=false:=by
    unfold cmp3
    by_cases h5:((b*((i+j) / 2+1):Nat):Int)<R
    ·rw [if_pos h5];rfl
    ·rw [if_neg h5,if_neg (by omega)];rfl
   rw [e2,notF,cond_true]
   refine Ans.of (r:=.inl ((((i+j) / 2+1:Nat):Int),(j:Int))) rfl ?_
   exact show k<9999∧∃ i' j':Nat,((((i+j) / 2+1:Nat):Int),(j:Int))=((i':Int),(j':Int))∧i'≤R / b∧R / b≤j'∧j'≤9999∧j'-i'+(k+1)≤9999 from ⟨by omega,_,_,rfl,key.2 hc,h2,h3,by omega⟩
  ·have e2:ltM 0 (cmp3 ((b*((i+j) / 2+1):Nat):Int) (R:Int))=true:=by
    unfold cmp3
    rw [if_neg (by omega),if_pos (by omega)];rfl
   rw [e2,notT,cond_false]
   refine Ans.of (r:=.inl ((i:Int),(((i+j) / 2:Nat):Int))) rfl ?_
   have h6:¬ (i+j) / 2+1≤R / b:=fun h=>hc (key.1 h)
   exact show k<9999∧∃ i' j':Nat,((i:Int),(((i+j) / 2:Nat):Int))=((i':Int),(j':Int))∧i'≤R / b∧R / b≤j'∧j'≤9999∧j'-i'+(k+1)≤9999 from ⟨by omega,_,_,rfl,h1,by omega,by omega,by omega⟩
 ·rw [geI (by omega),cond_false]
  refine Ans.of (r:=.inr (i:Int)) rfl ?_
  show (i:Int)=((R / b:Nat):Int)
  omega
theorem over_ok {a b:Nat} (hb:0<b) (la:(grp a).length≤400) (lb:(grp b).length≤400):m83 (grp a,grp b)=some (grp (a / b),grp (a % b)):=by
 unfold m83
 obtain ⟨L,hL⟩:∃ L,L=(grp a).length:=⟨_,rfl⟩
 have hlen:lenM (grp a)=(L:Int):=by rw [lenI,hL]
 dsimp only
 rw [hlen,mkM_of (by omega) (by omega) (by show (L:Int)*8≤_;omega),Option.bind_some,show ((L:Nat):Int).toNat=L by omega]
 have hw:IntKind.wrap IntKind.i64 ((L:Int)-1)=(L:Int)-((0:Nat):Int)-1:=by rw [wrap_in (by omega) (by omega)];omega
 rw [hw]
 refine Ans.is (Ans.bind (P:=fun o=>o.1=grp (a % b)∧okd o.2∧o.2.length=L∧vl o.2=((a / b:Nat):Int)) (Ans.loop (fun k s=>s.1=(L:Int)-(k:Int)-1∧s.2.1=grp (a / 10000 ^ (L-k) % b)∧okd s.2.2∧s.2.2.length=L∧vl s.2.2=10000 ^ (L-k)*((a / 10000 ^ (L-k) / b:Nat):Int)∧∀ j,j<L-k→s.2.2.getD j 0=0) L ⟨rfl,?_,okd_rep _,List.length_replicate,?_,?_⟩ ?_) ?_)
 ·show ([]:List Int)=_
  rw [Nat.sub_zero,hL,Nat.div_eq_of_lt (grp_lt a),Nat.zero_mod,grp_zero]
 ·show vl (List.replicate L 0)=_
  rw [Nat.sub_zero,hL,Nat.div_eq_of_lt (grp_lt a),Nat.zero_div,vl_rep];simp
 ·intro j hj
  show (List.replicate L 0).getD j 0=0
  rw [getD_in _ _ (by simp;omega)];simp
 ·rintro k ⟨i,rm,q⟩ hk ⟨h1,h2,h3,h4,h5,h6⟩
  dsimp only at h1 h2 h3 h4 h5 h6
  subst h1 h2
  by_cases hkL:k<L
  ·have hi:(L:Int)-(k:Int)-1=((L-k-1:Nat):Int):=by omega
   have hd:a / 10000 ^ (L-k)=a / 10000 ^ (L-k-1) / 10000:=by rw [← div_pow_succ,show L-k-1+1=L-k by omega]
   obtain ⟨A,hA⟩:∃ A,A=a / 10000 ^ (L-k-1):=⟨_,rfl⟩
   have hAl:(grp A).length≤400:=by rw [hA];exact Nat.le_trans (grp_len_mono (Nat.div_le_self _ _)) la
   rw [hd,← hA] at h5 ⊢
   have hrm:(grp (A / 10000 % b)).length≤400:=Nat.le_trans (grp_len_mono (Nat.le_of_lt (Nat.mod_lt _ hb))) lb
   have hRv:vl (((A % 10000:Nat):Int)::grp (A / 10000 % b))=((10000*(A / 10000 % b)+A % 10000:Nat):Int):=by rw [vl,vl_grp];omega
   obtain ⟨R,hR⟩:∃ R,R=10000*(A / 10000 % b)+A % 10000:=⟨_,rfl⟩
   have hRb:R<10000*b:=by
    have:=Nat.mod_lt (A / 10000) hb
    omega
   have hAR:A=10000*(A / 10000 / b)*b+R:=by
    have h7:=Nat.div_add_mod (A / 10000) b
    have h8:10000*(A / 10000 / b)*b=10000*(b*(A / 10000 / b)):=by rw [Nat.mul_assoc,Nat.mul_comm b]
    omega
   have hq:A / b=10000*(A / 10000 / b)+R / b:=by
    conv=>lhs;rw [hAR]
    rw [Nat.mul_comm (10000*_) b,Nat.mul_add_div hb]
   have hm:A % b=R % b:=by
    conv=>lhs;rw [hAR]
    rw [Nat.mul_comm (10000*_) b,Nat.mul_add_mod]
   have lR:(grp R).length≤500:=Nat.le_trans (grp_len_mono (show R≤10000*b by omega)) (Nat.le_trans (grp_shift_len b) (by omega))
   have hgi:idxM (grp a) ((L-k-1:Nat):Int)=some ((A % 10000:Nat):Int):=by rw [hA];exact grp_idx (by omega)
   have hst:m113 (((A % 10000:Nat):Int)::grp (A / 10000 % b))=some (grp R):=by
    rw [strip_ok (okd_cons.2 ⟨by omega,grp_okd _⟩) (by simp;omega),hRv,← hR];rfl
   have hd9:R / b≤9999:=by
    have:R / b<10000:=(Nat.div_lt_iff_lt_mul hb).2 hRb
    omega
   dsimp only
   rw [hi,leI (by omega),cond_true,hgi,Option.bind_some,appM_of (by simp;omega),Option.bind_some,List.singleton_append,hst,Option.bind_some]
   refine Ans.bind (P:=fun o=>o=((R / b:Nat):Int)) (.of (bind_of (search_ok hb hRb lb lR) rfl) rfl) ?_
   rintro ov rfl
   rw [lenI,h4,chkM_of (by omega) (by omega),Option.bind_some,setM_of (y:=((R / b:Nat):Int)) (by omega) (by rw [h4];omega) rfl,Option.bind_some,show (((L-k-1:Nat):Int)).toNat=L-k-1 by omega]
   have hsl:(q.set (L-k-1) ((R / b:Nat):Int)).length=L:=by rw [List.length_set,h4]
   rw [lenI,hsl,chkM_of (by omega) (by omega),Option.bind_some,idxM_lt (by rw [hsl];omega),Option.bind_some,List.getElem_set_self,by_ok (by omega) hd9,Option.bind_some,minus_ok (by omega) (Nat.mul_div_le R b),Option.bind_some,wrap_in (by omega) (by omega)]
   have e9:R-b*(R / b)=A % b:=by rw [hm];have:=Nat.div_add_mod R b;omega
   rw [e9]
   refine Ans.of (r:=.inl ((((L-k-1:Nat):Int)-1,grp (A % b),q.set (L-k-1) ((R / b:Nat):Int)))) rfl ?_
   refine show k<L∧((L-k-1:Nat):Int)-1=(L:Int)-((k+1:Nat):Int)-1∧grp (A % b)=grp (a / 10000 ^ (L-(k+1)) % b)∧okd (q.set (L-k-1) ((R / b:Nat):Int))∧(q.set (L-k-1) ((R / b:Nat):Int)).length=L ∧
     vl (q.set (L-k-1) ((R / b:Nat):Int))=10000 ^ (L-(k+1))*((a / 10000 ^ (L-(k+1)) / b:Nat):Int)∧∀ j,j<L-(k+1)→(q.set (L-k-1) ((R / b:Nat):Int)).getD j 0=0 from ⟨hkL,by omega,?_,okd_set h3 (nat_int hd9),hsl,?_,fun j hj=>?_⟩
   ·rw [show L-(k+1)=L-k-1 by omega,← hA]
   ·obtain ⟨m,hm'⟩:∃ m,m=L-k-1:=⟨_,rfl⟩
    rw [show L-(k+1)=L-k-1 by omega,← hA,hq,vl_set _ _ _ (by rw [h4];omega),h6 _ (by omega),h5,← hm',show L-k=m+1 by omega,Int.pow_succ,Int.mul_assoc,Int.sub_zero,← Int.mul_add,Int.natCast_add,Int.natCast_mul]
    rfl
   ·rw [List.getD_eq_getElem?_getD,List.getElem?_set_ne (by omega),← List.getD_eq_getElem?_getD]
    exact h6 j (by omega)
  ·have hk':k=L:=by omega
   subst hk'
   rw [Nat.sub_self,Nat.pow_zero,Nat.div_one] at h5 ⊢
   dsimp only
   rw [gtI (by omega),cond_false]
   refine Ans.of (r:=.inr (grp (a % b),q)) rfl ?_
   exact show grp (a % b)=grp (a % b)∧okd q∧q.length=k∧vl q=((a / b:Nat):Int) from ⟨rfl,h3,h4,by rw [h5];omega⟩
 ·rintro ⟨rm,q⟩ ⟨h1,h2,h3,h4⟩
  dsimp only at h1 h2 h3 h4
  have e:=strip_ok h2 (by omega)
  rw [h4] at e
  subst h1
  exact .of (by dsimp only;rw [e];rfl) rfl
theorem sg_sign {nx:Bool} {l:List Int} {x:Int} (h:Sg (nx,l) x):l=grp x.natAbs∧(nx=false→0≤x)∧(nx=true→x≤0):=by
 obtain ⟨h1,h2⟩:=h
 refine ⟨h1,fun e=>?_,fun e=>?_⟩
 ·by_cases h0:x=0
  ·omega
  ·have:=h2 h0
   have e':decide (x<0)=false:=by rw [← this];exact e
   have:=of_decide_eq_false e'
   omega
 ·by_cases h0:x=0
  ·omega
  ·have:=h2 h0
   have e':decide (x<0)=true:=by rw [← this];exact e
   have:=of_decide_eq_true e'
   omega
theorem sg_mk {nx:Bool} {x:Int} (h1:nx=false→0≤x) (h2:nx=true→x≤0):Sg (nx,grp x.natAbs) x:=by
 refine ⟨rfl,fun h0=>?_⟩
 cases nx
 ·exact (decide_eq_false (by have:=h1 rfl;omega)).symm
 ·exact (decide_eq_true (by have:=h2 rfl;omega)).symm
theorem splus_gen {o1 o2:Bool×List Int} {x y:Int} (h1:Sg o1 x) (h2:Sg o2 y) (hx:(grp x.natAbs).length≤400) (hy:(grp y.natAbs).length≤400):Ans (m95 ((o1.1,o1.2),o2.1,o2.2)) fun o=>Sg o (x+y):=by
 obtain ⟨nx,l⟩:=o1
 obtain ⟨ny,m⟩:=o2
 obtain ⟨rfl,a1,a2⟩:=sg_sign h1
 obtain ⟨rfl,b1,b2⟩:=sg_sign h2
 unfold m95
 dsimp only
 by_cases hs:nx=ny
 ·rw [show eqbM nx ny=true from decide_eq_true hs,cond_true,plus_ok (by omega) (by omega),Option.bind_some]
  refine .of rfl ?_
  have e:x.natAbs+y.natAbs=(x+y).natAbs:=by
   subst hs
   cases nx
   ·have:=a1 rfl;have:=b1 rfl;omega
   ·have:=a2 rfl;have:=b2 rfl;omega
  rw [e]
  subst hs
  exact sg_mk (fun e=>by have:=a1 e;have:=b1 e;omega) (fun e=>by have:=a2 e;have:=b2 e;omega)
 ·rw [show eqbM nx ny=false from decide_eq_false hs,cond_false,compare_ok (by omega) (by omega),Option.bind_some,cmp3_pos]
  have hop:(nx=false∧ny=true)∨(nx=true∧ny=false):=by cases nx<;>cases ny<;>simp at hs ⊢
  by_cases hc:y.natAbs≤x.natAbs
  ·rw [decide_eq_true (by omega),cond_true,minus_ok (by omega) hc,Option.bind_some]
   refine .of rfl ?_
   rcases hop with ⟨rfl,rfl⟩ | ⟨rfl,rfl⟩
   ·have:=a1 rfl
    have:=b2 rfl
    rw [show x.natAbs-y.natAbs=(x+y).natAbs by omega]
    exact sg_mk (fun _=>by omega) (fun e=>by cases e)
   ·have:=a2 rfl
    have:=b1 rfl
    rw [show x.natAbs-y.natAbs=(x+y).natAbs by omega]
    exact sg_mk (fun e=>by cases e) (fun _=>by omega)
  ·rw [decide_eq_false (by omega),cond_false,minus_ok (by omega) (by omega),Option.bind_some]
   refine .of rfl ?_
   rcases hop with ⟨rfl,rfl⟩ | ⟨rfl,rfl⟩
   ·have:=a1 rfl
    have:=b2 rfl
    rw [show y.natAbs-x.natAbs=(x+y).natAbs by omega]
    exact sg_mk (fun e=>by cases e) (fun _=>by omega)
   ·have:=a2 rfl
    have:=b1 rfl
    rw [show y.natAbs-x.natAbs=(x+y).natAbs by omega]
    exact sg_mk (fun _=>by omega) (fun e=>by cases e)
theorem sg_of (x:Int):Sg (decide (x<0),grp x.natAbs) x:=⟨rfl,fun _=>rfl⟩
theorem sg_neg (x:Int):Sg (PE.notM (decide (x<0)),grp x.natAbs) (-x):=by
 rw [← Int.natAbs_neg x]
 refine sg_mk (fun e=>?_) (fun e=>?_)
 ·by_cases h:x<0
  ·omega
  ·rw [decide_eq_false h] at e;cases e
 ·by_cases h:x<0
  ·rw [decide_eq_true h] at e;cases e
  ·omega
theorem isub_ok {x y:Int} (hx:Fits x) (hy:Fits y):m108 (itoa x,itoa y)=some (sn (x-y)):=by
 have h1:=fits_len hx
 have h2:=fits_len hy
 have hn:(-y).natAbs=y.natAbs:=Int.natAbs_neg y
 unfold m108
 dsimp only
 rw [both_ok hx hy,Option.bind_some,notT,cond_false]
 refine Ans.is (Ans.bind (splus_gen (sg_of x) (sg_neg y) (by omega) (by rw [hn];omega)) fun o ho=>?_)
 rw [← Int.sub_eq_add_neg] at ho
 rw [show m87 (o.1,o.2)=some (sn (x-y)) from sn_text ho (Nat.le_trans (grp_len_mono (show (x-y).natAbs≤x.natAbs+y.natAbs by omega)) (Nat.le_trans grp_add (by omega)))]
 exact .of rfl rfl
theorem igcd_loop:∀ (N a b:Nat),b≤N→(grp a).length≤400→(grp b).length≤400→loopM (fun (s:List Int×List Int)=>bif ltM 0 (lenM s.2) then (m83
 (s.1,s.2)).bind fun r=>some (Sum.inl (s.2,r.2)) else some (Sum.inr s.1)) (grp a,grp b)=some (grp (Nat.gcd a b))
 | N,a,0,_,la,lb=>by rw [loopM_eq,Nat.gcd_zero_right,grp_zero];rfl
 | 0,a,b+1,h,_,_=>absurd h (by omega)
 | N+1,a,b+1,h,la,lb=>by
  have hlt:=Nat.mod_lt a (show 0<b+1 by omega)
  have ih:=igcd_loop N (b+1) (a % (b+1)) (by omega) lb (Nat.le_trans (grp_len_mono (Nat.le_of_lt hlt)) lb)
  have hl:(grp (b+1)).length≠0:=fun e=>by have:=grp_nil.1 (List.length_eq_zero_iff.1 e);omega
  rw [loopM_eq]
  dsimp only
  rw [ltI (by rw [lenI];omega),cond_true,over_ok (by omega) la lb,Option.bind_some]
  refine Eq.trans ih ?_
  rw [Nat.gcd_comm (b+1),← Nat.gcd_rec,Nat.gcd_comm]
theorem igcd_ok {x y:Int} (hx:Fits x) (hy:Fits y):m81 (itoa x,itoa y)=some (sn ((Nat.gcd x.natAbs y.natAbs:Nat):Int)):=by
 have h1:=fits_len hx
 have h2:=fits_len hy
 have hl:(grp (Nat.gcd x.natAbs y.natAbs)).length≤400:=by
  by_cases h0:x.natAbs=0
  ·rw [h0,Nat.gcd_zero_left];omega
  ·exact Nat.le_trans (grp_len_mono (Nat.le_of_dvd (by omega) (Nat.gcd_dvd_left _ _))) (by omega)
 unfold m81
 dsimp only
 rw [both_ok hx hy,Option.bind_some,notT,cond_false]
 refine bind_of (igcd_loop _ _ _ (Nat.le_refl _) (by omega) (by omega)) ?_
 have hs:Sg (false,grp (Nat.gcd x.natAbs y.natAbs)) ((Nat.gcd x.natAbs y.natAbs:Nat):Int):=by
  have:=sg_mk (nx:=false) (x:=((Nat.gcd x.natAbs y.natAbs:Nat):Int)) (fun _=>by omega) (fun e=>by cases e)
  rwa [Int.natAbs_natCast] at this
 rw [sn_text hs (by rw [Int.natAbs_natCast];exact hl)]
 rfl
end Go.Proofs.YtechphmljdgoaaaGreatDoor
namespace Go.Proofs.YtechphmljdgoaaaGreatDoor
open Go Go.Lib Go.Abs Go.PE Go.Num
theorem ione_ok:m85 ()=some (grp 1):=by
 have e:grp 1=[1]:=by rw [grp_pos (by omega)];simp [grp_zero]
 rw [e];rfl
theorem idiv_ok {x y:Int} (hx:Fits x) (hy:Fits y) (hy0:0<y):m56 (itoa x,itoa y)=some (itoa (x / y),itoa (x % y),0):=by
 have h1:=fits_len hx
 have h2:=fits_len hy
 have hyn:0<y.natAbs:=by omega
 have hyl:(grp y.natAbs).length≠0:=fun e=>by have:=grp_nil.1 (List.length_eq_zero_iff.1 e);omega
 have hm:=Nat.mod_lt x.natAbs hyn
 have hdm:=Nat.div_add_mod x.natAbs y.natAbs
 have hql:(grp (x.natAbs / y.natAbs)).length≤50:=Nat.le_trans (grp_len_mono (Nat.div_le_self _ _)) h1
 have hQle:x.natAbs / y.natAbs≤x.natAbs:=Nat.div_le_self _ _
 have hyd:decide (y<0)=false:=decide_eq_false (by omega)
 unfold m56
 dsimp only
 rw [both_ok hx hy,Option.bind_some,notT,orF,neI (show lenM (grp y.natAbs)≠0 by rw [lenI];omega),cond_false,over_ok hyn (by omega) (by omega),Option.bind_some,hyd]
 generalize x.natAbs / y.natAbs=Q at *
 generalize x.natAbs % y.natAbs=R at *
 have hmul:((y.natAbs*(Q):Nat):Int)=y*((Q:Nat):Int):=by rw [Int.natCast_mul];congr 1;omega
 by_cases hxn:x<0
 ·rw [decide_eq_true hxn,andT]
  by_cases hr:R=0
  ·have e:x / y=-((Q:Nat):Int)∧x % y=0:=(Int.ediv_emod_unique hy0).2 ⟨by rw [Int.mul_neg,← hmul];omega,Int.le_refl _,hy0⟩
   rw [hr,grp_zero,geI (by rw [lenI];simp),cond_false,Option.bind_some]
   have t1:=sn_text (o:=(true,grp (Q))) (z:=x / y) (by rw [e.1];have:=sg_mk (nx:=true) (x:=-((Q:Nat):Int)) (fun e=>by cases e) (fun _=>by omega);rwa [Int.natAbs_neg,Int.natAbs_natCast] at this) (by rw [e.1,Int.natAbs_neg,Int.natAbs_natCast];omega)
   have f1:Fits (x / y):=by rw [e.1];unfold Fits;rw [Int.natAbs_neg,Int.natAbs_natCast];exact Nat.lt_of_le_of_lt hQle hx
   have t2:=sn_text (o:=(false,grp 0)) (z:=(0:Int)) ⟨rfl,fun h=>absurd rfl h⟩ (by rw [show (0:Int).natAbs=0 from rfl,grp_zero];simp)
   rw [grp_zero] at t2
   have g1:sn (x / y)=(itoa (x / y),0):=if_pos f1
   have g2:sn 0=(itoa 0,0):=if_pos (by decide)
   dsimp only
   rw [show PE.notM (eqbM true false)=true from rfl,t1,g1,Option.bind_some,eqI rfl,notT,cond_false,t2,g2,Option.bind_some,e.2]
  ·have hrl:(grp (R)).length≠0:=fun e=>hr (grp_nil.1 (List.length_eq_zero_iff.1 e))
   have e:x / y=-((Q+1:Nat):Int)∧x % y=((y.natAbs-R:Nat):Int):=(Int.ediv_emod_unique hy0).2 ⟨by
    rw [Int.mul_neg,Int.natCast_add,Int.mul_add,← hmul];omega,by omega,by omega⟩
   have hq1:Q+1≤x.natAbs:=by
    have h3:Q*y.natAbs+R=x.natAbs:=by rw [Nat.mul_comm];exact hdm
    have h4:Q≤Q*y.natAbs:=Nat.le_mul_of_pos_right _ hyn
    omega
   rw [ltI (show 0<lenM (grp R) by rw [lenI];omega),cond_true,ione_ok,Option.bind_some,plus_ok (by omega) (by rw [show grp 1=[1] from by rw [grp_pos (by omega)];simp [grp_zero]];simp),Option.bind_some,minus_ok (by omega) (Nat.le_of_lt hm),Option.bind_some,Option.bind_some]
   have t1:=sn_text (o:=(true,grp (Q+1))) (z:=x / y) (by rw [e.1];have:=sg_mk (nx:=true) (x:=-((Q+1:Nat):Int)) (fun e=>by cases e) (fun _=>by omega);rwa [Int.natAbs_neg,Int.natAbs_natCast] at this) (by rw [e.1,Int.natAbs_neg,Int.natAbs_natCast];exact Nat.le_trans (grp_len_mono hq1) (by omega))
   have f1:Fits (x / y):=by rw [e.1];unfold Fits;rw [Int.natAbs_neg,Int.natAbs_natCast];exact Nat.lt_of_le_of_lt hq1 hx
   have t2:=sn_text (o:=(false,grp (y.natAbs-R))) (z:=x % y) (by rw [e.2];have:=sg_mk (nx:=false) (x:=((y.natAbs-R:Nat):Int)) (fun _=>by omega) (fun e=>by cases e);rwa [Int.natAbs_natCast] at this) (by rw [e.2,Int.natAbs_natCast];exact Nat.le_trans (grp_len_mono (Nat.sub_le _ _)) (by omega))
   have f2:Fits (x % y):=by rw [e.2];unfold Fits;rw [Int.natAbs_natCast];exact Nat.lt_of_le_of_lt (Nat.sub_le _ _) hy
   have g1:sn (x / y)=(itoa (x / y),0):=if_pos f1
   have g2:sn (x % y)=(itoa (x % y),0):=if_pos f2
   dsimp only
   rw [show PE.notM (eqbM true false)=true from rfl,t1,g1,Option.bind_some,eqI rfl,notT,cond_false,t2,g2,Option.bind_some]
 ·have e:x / y=((Q:Nat):Int)∧x % y=((R:Nat):Int):=(Int.ediv_emod_unique hy0).2 ⟨by rw [← hmul];omega,by omega,by omega⟩
  rw [decide_eq_false hxn,andF,cond_false,Option.bind_some]
  have t1:=sn_text (o:=(false,grp (Q))) (z:=x / y) (by rw [e.1];have:=sg_mk (nx:=false) (x:=((Q:Nat):Int)) (fun _=>by omega) (fun e=>by cases e);rwa [Int.natAbs_natCast] at this) (by rw [e.1,Int.natAbs_natCast];omega)
  have f1:Fits (x / y):=by rw [e.1];unfold Fits;rw [Int.natAbs_natCast];exact Nat.lt_of_le_of_lt hQle hx
  have t2:=sn_text (o:=(false,grp (R))) (z:=x % y) (by rw [e.2];have:=sg_mk (nx:=false) (x:=((R:Nat):Int)) (fun _=>by omega) (fun e=>by cases e);rwa [Int.natAbs_natCast] at this) (by rw [e.2,Int.natAbs_natCast];exact Nat.le_trans (grp_len_mono (Nat.le_of_lt hm)) (by omega))
  have f2:Fits (x % y):=by rw [e.2];unfold Fits;rw [Int.natAbs_natCast];exact Nat.lt_trans hm hy
  have g1:sn (x / y)=(itoa (x / y),0):=if_pos f1
  have g2:sn (x % y)=(itoa (x % y),0):=if_pos f2
  dsimp only
  rw [show PE.notM (eqbM false false)=false from rfl,t1,g1,Option.bind_some,eqI rfl,notT,cond_false,t2,g2,Option.bind_some]
end Go.Proofs.YtechphmljdgoaaaGreatDoor
namespace Go.Proofs.YtechphmljdgoaaaGreatDoor
open Go Go.Lib Go.Abs Go.PE Go.Num
def rt (q:Rat):List UInt8×List UInt8:=(itoa q.num,itoa (q.den:Int))
def FitsR (q:Rat):Prop:=Fits q.num∧Fits (q.den:Int)
noncomputable def redE (n d:List UInt8) (bad:Bool):Option ((List UInt8×List UInt8)×Int) :=
 (bif PE.orM bad (eqsM d [(48:UInt8)]) then some ([],[],40,bad) else ((m57 (d,[(48:UInt8)])).bind fun r=>bif ltM r 0 then (bif bad then some ([],bad) else (m108 ([(48:UInt8)],
 n)).bind fun r=>some (r.1,PE.notM (eqM r.2 0))).bind fun (ov_4:List UInt8×Bool)=>(bif ov_4.2 then some ([],ov_4.2) else (m108 ([(48:UInt8)],
 d)).bind fun r=>some (r.1,PE.notM (eqM r.2 0))).bind fun (ov:List UInt8×Bool)=>some (ov_4.1,ov.1,ov.2) else some (n,d,
 bad)).bind fun o_1=>(bif o_1.2.2 then some ([],o_1.2.2) else (m81 (o_1.1,o_1.2.1)).bind fun r=>some (r.1,PE.notM (eqM r.2 0))).bind fun (ov_4 :
 List UInt8×Bool)=>(bif ov_4.2 then some ([],ov_4.2) else (m133 (o_1.1,ov_4.1)).bind fun r=>some (r.1,PE.notM (eqM r.2 0))).bind fun (ov_5:List
 UInt8×Bool)=>(bif ov_5.2 then some ([],ov_5.2) else (m133 (o_1.2.1,ov_4.1)).bind fun r=>some (r.1,PE.notM (eqM r.2 0))).bind fun (ov:List UInt8 ×
 Bool)=>bif ov.2 then some ([],[],40,ov.2) else some (ov_5.1,ov.1,0,ov.2)).bind fun (ov:List UInt8×List UInt8×Int×Bool)=>some ((ov.1,
 ov.2.1),ov.2.2.1)
theorem sn_fit {z:Int} (h:Fits z):sn z=(itoa z,0):=if_pos h
theorem fits_neg {z:Int} (h:Fits z):Fits (-z):=by unfold Fits at *;rwa [Int.natAbs_neg]
theorem fits_zero:Fits 0:=by decide
theorem quot_ok {x y:Int} (hx:Fits x) (hy:Fits y) (hy0:0<y):m133 (itoa x,itoa y)=some (itoa (x / y),0):=by
 unfold m133
 dsimp only
 rw [idiv_ok hx hy hy0];rfl
theorem redE_pos {n d:Int} (hn:Fits n) (hd:Fits d) (h0:0<d):(bif false then some (([]:List UInt8),false) else (m81 (itoa n,itoa d)).bind fun r=>some (r.1,PE.notM (eqM r.2 0)))=some (itoa ((Int.gcd d n:Nat):Int),false):=by
 have hg:Fits ((Nat.gcd n.natAbs d.natAbs:Nat):Int):=by
  unfold Fits
  rw [Int.natAbs_natCast]
  exact Nat.lt_of_le_of_lt (Nat.le_of_dvd (by omega) (Nat.gcd_dvd_right _ _)) hd
 rw [cond_false,igcd_ok hn hd,Option.bind_some,sn_fit hg,eqI rfl,notT,Nat.gcd_comm];rfl
theorem redE_ok {n d:Int} (hn:Fits n) (hd:Fits d) (h0:d≠0):redE (itoa n) (itoa d) false=some (rt (Rat.divInt n d),0):=by
 have hq:(Rat.divInt n d).num=d.sign*n / ((Int.gcd d n:Nat):Int)∧(((Rat.divInt n d).den:Nat):Int)=d.sign*d / ((Int.gcd d n:Nat):Int):=by
  refine ⟨Rat.num_divInt n d,?_⟩
  have hsn:d.sign*d=(d.natAbs:Int):=by
   by_cases h:d<0
   ·rw [Int.sign_eq_neg_one_of_neg h];omega
   ·rw [Int.sign_eq_one_of_pos (by omega)];omega
  rw [Rat.den_divInt,if_neg h0,hsn,Int.natCast_ediv]
 have hgp:(0:Int)<((Int.gcd d n:Nat):Int):=by
  have:=Int.gcd_pos_of_ne_zero_left n h0
  omega
 have hgf:Fits ((Int.gcd d n:Nat):Int):=by
  unfold Fits
  rw [Int.natAbs_natCast]
  exact Nat.lt_of_le_of_lt (Nat.le_of_dvd (by omega) (Nat.gcd_dvd_left _ _)) hd
 unfold redE rt
 rw [eqsF (fun e=>h0 (itoa_eq0.1 e)),orF,cond_false,← itoa_zero,icmp_ok hd fits_zero,Option.bind_some]
 by_cases hneg:d<0
 ·have hs:d.sign=-1:=Int.sign_eq_neg_one_of_neg hneg
  have e1:ltM (cmp3 d 0) 0=true:=by unfold cmp3;rw [if_pos hneg];rfl
  rw [e1,cond_true,cond_false,isub_ok fits_zero hn,Option.bind_some,Int.zero_sub,sn_fit (fits_neg hn),eqI rfl,notT,Option.bind_some,cond_false,isub_ok fits_zero hd,Option.bind_some,Int.zero_sub,sn_fit (fits_neg hd),eqI rfl,notT,Option.bind_some,Option.bind_some]
  dsimp only
  rw [redE_pos (fits_neg hn) (fits_neg hd) (by omega),Option.bind_some]
  have eg:Int.gcd (-d) (-n)=Int.gcd d n:=by unfold Int.gcd;rw [Int.natAbs_neg,Int.natAbs_neg]
  rw [eg,cond_false,quot_ok (fits_neg hn) hgf hgp,Option.bind_some,eqI rfl,notT,Option.bind_some,cond_false,quot_ok (fits_neg hd) hgf hgp,Option.bind_some,eqI rfl,notT,Option.bind_some,cond_false,Option.bind_some,hq.1,hq.2,hs]
  simp only [Int.neg_mul,Int.one_mul]
 ·have hs:d.sign=1:=Int.sign_eq_one_of_pos (by omega)
  have e1:ltM (cmp3 d 0) 0=false:=by unfold cmp3;rw [if_neg hneg,if_pos (by omega)];rfl
  rw [e1,cond_false,Option.bind_some]
  dsimp only
  rw [redE_pos hn hd (by omega),Option.bind_some,cond_false,quot_ok hn hgf hgp,Option.bind_some,eqI rfl,notT,Option.bind_some,cond_false,quot_ok hd hgf hgp,Option.bind_some,eqI rfl,notT,Option.bind_some,cond_false,Option.bind_some,hq.1,hq.2,hs]
  simp only [Int.one_mul]
theorem ivalid2_ok {z:Int} (h:Fits z):m80 (itoa z)=some true:=by
 unfold m80
 rw [ivalid_ok h];rfl
theorem of_ok {n d:Int} (hn:Fits n) (hd:Fits d) (h0:d≠0):m25 (n,d)=some (rt (Rat.divInt n d),0):=by
 unfold m25
 dsimp only
 rw [show m59 n=some (itoa n) from rfl,show m59 d=some (itoa d) from rfl,Option.bind_some,Option.bind_some]
 unfold m58
 dsimp only
 rw [ivalid2_ok hn,Option.bind_some,notT,notF,cond_true,ivalid2_ok hd,Option.bind_some,notT,show PE.orM false false=false from rfl]
 have:=redE_ok hn hd h0
 unfold redE at this
 rw [this];rfl
theorem rvalid_ok {q:Rat} (h:FitsR q):m55 (rt q)=some true:=by
 have hd:(0:Int)<(q.den:Int):=by have:=q.den_nz;omega
 unfold m55 rt
 dsimp only
 rw [ivalid2_ok h.1,Option.bind_some,notT,notF,cond_true,ivalid2_ok h.2,Option.bind_some,notT,orF,notF,cond_true,← itoa_zero,icmp_ok h.2 fits_zero,Option.bind_some,orF]
 have e1:leM (cmp3 (q.den:Int) 0) 0=false:=by unfold cmp3;rw [if_neg (by omega),if_pos hd];rfl
 have hg:Nat.gcd q.num.natAbs (q.den:Int).natAbs=1:=by rw [Int.natAbs_natCast];exact q.reduced
 rw [e1,cond_false,igcd_ok h.1 h.2,Option.bind_some,hg,sn_fit (by decide),eqI rfl,andT,eqsT (by show itoa ((1:Nat):Int)=_;rw [itoa_nn,decDigits_one (by omega)];rfl)]
theorem check_ok {p q:Rat} (hp:FitsR p) (hq:FitsR q):loopM (fun (s:Int×Bool)=>bif ltM s.1 (lenM [((rt p).1,(rt p).2),((rt q).1,(rt q).2)]) then (idxM [((rt p).1,(rt p).2),((rt q).1,(rt q).2)] s.1).bind fun r=>(bif
 PE.notM s.2 then m55 (r.1,r.2) else some false).bind fun r=>some (Sum.inl (IntKind.wrap IntKind.i64 (s.1+1),PE.orM s.2 (PE.notM r))) else some (Sum.inr s.2))
 (0,false)=some false:=by
 refine loopM_fn (fun k=>((k:Int),false)) 2 (fun k hk=>?_) rfl
 rcases (show k=0∨k=1 by omega) with rfl | rfl
 ·have:=rvalid_ok hp
  show ((some ((rt p).1,(rt p).2)).bind fun r=>(bif PE.notM false then m55 (r.1,r.2) else some false).bind fun r=>some (Sum.inl (IntKind.wrap IntKind.i64 (((0:Nat):Int)+1),PE.orM false (PE.notM r))))=_
  rw [Option.bind_some,notF,cond_true,show m55 ((rt p).1,(rt p).2)=some true from this,Option.bind_some,wrap_in (by omega) (by omega)];rfl
 ·have:=rvalid_ok hq
  show ((some ((rt q).1,(rt q).2)).bind fun r=>(bif PE.notM false then m55 (r.1,r.2) else some false).bind fun r=>some (Sum.inl (IntKind.wrap IntKind.i64 (((1:Nat):Int)+1),PE.orM false (PE.notM r))))=_
  rw [Option.bind_some,notF,cond_true,show m55 ((rt q).1,(rt q).2)=some true from this,Option.bind_some,wrap_in (by omega) (by omega)];rfl
theorem radd_ok {p q:Rat} (hp:FitsR p) (hq:FitsR q) (h1:Fits (p.num*q.den)) (h2:Fits (q.num*p.den)) (h3:Fits (p.num*q.den+q.num*p.den)) (h4:Fits ((p.den:Int)*q.den)):m49 (rt p,rt q)=some (rt (p+q),0):=by
 have hd:(p.den:Int)*q.den≠0:=Int.mul_ne_zero (by have:=p.den_nz;omega) (by have:=q.den_nz;omega)
 have e:p+q=Rat.divInt (p.num*q.den+q.num*p.den) ((p.den:Int)*q.den):=by rw [Rat.add_def',← Rat.divInt_ofNat,Int.natCast_mul]
 have key:=redE_ok h3 h4 hd
 unfold m49
 dsimp only
 rw [check_ok hp hq,Option.bind_some,cond_false]
 unfold rt
 dsimp only
 rw [imul_ok hp.1 hq.2,Option.bind_some,sn_fit h1,eqI rfl,notT,Option.bind_some,Option.bind_some,cond_false,imul_ok hq.1 hp.2,Option.bind_some,sn_fit h2,eqI rfl,notT,Option.bind_some,Option.bind_some,cond_false,iadd_ok h1 h2,Option.bind_some,sn_fit h3,eqI rfl,notT,Option.bind_some,cond_false,imul_ok hp.2 hq.2,Option.bind_some,sn_fit h4,eqI rfl,notT,Option.bind_some]
 unfold redE at key
 rw [e]
 exact key
theorem rmul_ok {p q:Rat} (hp:FitsR p) (hq:FitsR q) (h1:Fits (p.num*q.num)) (h4:Fits ((p.den:Int)*q.den)):m53 (rt p,rt q)=some (rt (p*q),0):=by
 have hd:(p.den:Int)*q.den≠0:=Int.mul_ne_zero (by have:=p.den_nz;omega) (by have:=q.den_nz;omega)
 have e:p*q=Rat.divInt (p.num*q.num) ((p.den:Int)*q.den):=by rw [Rat.mul_def',← Rat.divInt_ofNat,Int.natCast_mul]
 have key:=redE_ok h1 h4 hd
 unfold m53
 dsimp only
 rw [check_ok hp hq,Option.bind_some,cond_false]
 unfold rt
 dsimp only
 rw [imul_ok hp.1 hq.1,Option.bind_some,sn_fit h1,eqI rfl,notT,Option.bind_some,cond_false,imul_ok hp.2 hq.2,Option.bind_some,sn_fit h4,eqI rfl,notT,Option.bind_some]
 unfold redE at key
 rw [e]
 exact key
end Go.Proofs.YtechphmljdgoaaaGreatDoor
namespace Go.Proofs.YtechphmljdgoaaaGreatDoor
open Go Go.Lib Go.Abs Go.PE Go.Num
open Go.IntKind (wrap)
abbrev CSt:=Int×List UInt8×List UInt8×List UInt8×List UInt8
noncomputable def cmpB (s:CSt):Option (CSt⊕CSt):=(m56 (s.2.1,s.2.2.1)).bind fun r =>
 (m56 (s.2.2.2.1,s.2.2.2.2)).bind fun r_1=>(m57 (r.1,r_1.1)).bind fun r_2=>bif PE.notM (eqM r_2 0) then some (Sum.inr (wrap IntKind.i64 (s.1*r_2),
 s.2.1,s.2.2.1,s.2.2.2.1,s.2.2.2.2)) else bif PE.andM (eqsM r.2.1 [(48:UInt8)]) (eqsM r_1.2.1 [(48:UInt8)]) then some (Sum.inr (0,s.2.1,s.2.2.1,
 s.2.2.2.1,s.2.2.2.2)) else bif eqsM r.2.1 [(48:UInt8)] then some (Sum.inr (wrap IntKind.i64 (negM s.1),s.2.1,s.2.2.1,s.2.2.2.1,s.2.2.2.2)) else bif
 eqsM r_1.2.1 [(48:UInt8)] then some (Sum.inr (s.1,s.2.1,s.2.2.1,s.2.2.2.1,s.2.2.2.2)) else some (Sum.inl (wrap IntKind.i64 (negM s.1),s.2.2.1,r.2.1,
 s.2.2.2.2,r_1.2.1))
def cst (g a b c d:Int):CSt:=(g,itoa a,itoa b,itoa c,itoa d)
theorem cmp3_lt {x y:Int} (h:x<y):cmp3 x y=-1:=if_pos h
theorem cmp3_gt {x y:Int} (h:y<x):cmp3 x y=1:=by unfold cmp3;rw [if_neg (by omega),if_pos h]
theorem cmp3_eq {x y:Int} (h:x=y):cmp3 x y=0:=by unfold cmp3;rw [if_neg (by omega),if_neg (by omega)]
theorem cmp3_bd (x y:Int):cmp3 x y=-1∨cmp3 x y=0∨cmp3 x y=1:=by
 rcases Int.lt_trichotomy x y with h | h | h
 ·exact .inl (cmp3_lt h)
 ·exact .inr (.inl (cmp3_eq h))
 ·exact .inr (.inr (cmp3_gt h))
theorem cmp3_neg (x y:Int):cmp3 y x=- cmp3 x y:=by
 rcases Int.lt_trichotomy x y with h | h | h
 ·rw [cmp3_lt h,cmp3_gt h];rfl
 ·rw [cmp3_eq h,cmp3_eq h.symm];rfl
 ·rw [cmp3_lt h,cmp3_gt h]
theorem cmp3_sub {x y z w:Int} (h:x-y=z-w):cmp3 x y=cmp3 z w:=by
 rcases Int.lt_trichotomy x y with q | q | q
 ·rw [cmp3_lt q,cmp3_lt (by omega)]
 ·rw [cmp3_eq q,cmp3_eq (by omega)]
 ·rw [cmp3_gt q,cmp3_gt (by omega)]
theorem cmp3_whole {a b c d:Int} (hb:0<b) (hd:0<d) (h:a / b≠c / d):cmp3 (a*d) (c*b)=cmp3 (a / b) (c / d):=by
 have ea:=Int.mul_ediv_add_emod a b
 have ec:=Int.mul_ediv_add_emod c d
 have a0:=Int.emod_nonneg a (show b≠0 by omega)
 have a1:=Int.emod_lt_of_pos a hb
 have c0:=Int.emod_nonneg c (show d≠0 by omega)
 have c1:=Int.emod_lt_of_pos c hd
 generalize a / b=p at *
 generalize a % b=r at *
 generalize c / d=q at *
 generalize c % d=s at *
 subst ea ec
 have key:(b*p+r)*d-(d*q+s)*b=(b*d)*(p-q)+(r*d-s*b):=by grind
 have hbd:=Int.mul_pos hb hd
 have k1:=Int.mul_nonneg a0 (show 0≤d by omega)
 have k2:=Int.mul_lt_mul_of_pos_right a1 hd
 have k3:=Int.mul_nonneg c0 (show 0≤b by omega)
 have k4:=Int.mul_lt_mul_of_pos_right c1 hb
 have k5:d*b=b*d:=Int.mul_comm _ _
 rcases Int.lt_trichotomy p q with h1 | h1 | h1
 ·have:=Int.mul_le_mul_of_nonneg_left (show p-q≤-1 by omega) (show 0≤b*d by omega)
  rw [cmp3_lt h1,cmp3_lt (by omega)]
 ·exact absurd h1 h
 ·have:=Int.mul_le_mul_of_nonneg_left (show 1≤p-q by omega) (show 0≤b*d by omega)
  rw [cmp3_gt h1,cmp3_gt (by omega)]
theorem cmp3_rest {a b c d:Int} (h:a / b=c / d):cmp3 (a*d) (c*b)=cmp3 (a % b*d) (c % d*b):=by
 have ea:=Int.mul_ediv_add_emod a b
 have ec:=Int.mul_ediv_add_emod c d
 rw [← h] at ec
 clear h
 generalize a / b=p at *
 generalize a % b=r at *
 generalize c % d=s at *
 subst ea ec
 refine cmp3_sub ?_
 grind
theorem fits_mod {a b:Int} (hb:0<b) (h:Fits b):Fits (a % b):=by
 have a0:=Int.emod_nonneg a (show b≠0 by omega)
 have a1:=Int.emod_lt_of_pos a hb
 unfold Fits at *
 omega
theorem fits_div {a b:Int} (h:Fits a):Fits (a / b):=by
 unfold Fits at *
 exact Nat.lt_of_le_of_lt (Int.natAbs_ediv_le_natAbs a b) h
theorem cmpB_ok {g a b c d:Int} (hg:g=1∨g=-1) (ha:Fits a) (hb:Fits b) (hc:Fits c) (hd:Fits d) (b0:0<b) (d0:0<d) :
  (∃ s:CSt,cmpB (cst g a b c d)=some (.inr s)∧s.1=g*cmp3 (a*d) (c*b))∨(0<a % b∧0<c % d∧cmpB (cst g a b c d)=some (.inl (cst (-g) b (a % b) d (c % d)))∧g*cmp3 (a*d) (c*b)=-g*cmp3 (b*(c % d)) (d*(a % b))):=by
 have fr:=fits_mod (a:=a) b0 hb
 have fs:=fits_mod (a:=c) d0 hd
 have r0:=Int.emod_nonneg a (show b≠0 by omega)
 have s0:=Int.emod_nonneg c (show d≠0 by omega)
 have hw:=fun z=>cmp3_bd z
 unfold cmpB cst
 dsimp only
 rw [idiv_ok ha hb b0,Option.bind_some,idiv_ok hc hd d0,Option.bind_some]
 dsimp only
 rw [icmp_ok (fits_div ha) (fits_div hc),Option.bind_some]
 by_cases hpq:a / b=c / d
 ·have hx:=cmp3_rest hpq
  rw [cmp3_eq hpq,eqI rfl,notT,cond_false]
  by_cases hr:a % b=0
  ·rw [hr,Int.zero_mul] at hx
   rw [hr,eqsT itoa_zero]
   by_cases hs:c % d=0
   ·rw [hs,Int.zero_mul] at hx
    rw [hs,eqsT itoa_zero,andT,cond_true]
    exact .inl ⟨_,rfl,by rw [hx,cmp3_eq rfl,Int.mul_zero]⟩
   ·have hsp:0<c % d:=by omega
    rw [eqsF (fun e=>hs (itoa_eq0.1 e)),andT,cond_false,cond_true]
    refine .inl ⟨_,rfl,?_⟩
    rw [hx,cmp3_lt (Int.mul_pos hsp b0)]
    rcases hg with rfl | rfl<;>rfl
  ·have hrp:0<a % b:=by omega
   rw [eqsF (fun e=>hr (itoa_eq0.1 e)),andF,cond_false,cond_false]
   by_cases hs:c % d=0
   ·rw [hs,Int.zero_mul] at hx
    rw [hs,eqsT itoa_zero,cond_true]
    refine .inl ⟨_,rfl,?_⟩
    rw [hx,cmp3_gt (Int.mul_pos hrp d0),Int.mul_one]
   ·have hsp:0<c % d:=by omega
    rw [eqsF (fun e=>hs (itoa_eq0.1 e)),cond_false]
    refine .inr ⟨hrp,hsp,?_,?_⟩
    ·have:wrap IntKind.i64 (negM g)=-g:=by rcases hg with rfl | rfl<;>rfl
     rw [this]
    ·have e:=cmp3_neg (b*(c % d)) (d*(a % b))
     rw [hx,Int.mul_comm (a % b) d,Int.mul_comm (c % d) b,e]
     grind
 ·rw [cmp3_whole b0 d0 hpq]
  have h3:=cmp3_bd (a / b) (c / d)
  have hn:cmp3 (a / b) (c / d)≠0:=by
   rcases Int.lt_trichotomy (a / b) (c / d) with h | h | h
   ·rw [cmp3_lt h];decide
   ·exact absurd h hpq
   ·rw [cmp3_gt h];decide
  rw [neI hn,notF,cond_true]
  refine .inl ⟨_,rfl,?_⟩
  show wrap IntKind.i64 (g*_)=_
  rw [wrap_in]
  ·rcases hg with rfl | rfl<;>rcases h3 with h | h | h<;>rw [h]<;>decide
  ·rcases hg with rfl | rfl<;>rcases h3 with h | h | h<;>rw [h]<;>decide
theorem cmp_loop:∀ (n:Nat) {g a b c d:Int},(g=1∨g=-1)→Fits a→Fits b→Fits c→Fits d→0<b→0<d→b.toNat≤n→∃ s:CSt,loopM cmpB (cst g a b c d)=some s∧s.1=g*cmp3 (a*d) (c*b)
 | 0,g,a,b,c,d,_,_,_,_,_,hb,_,hn=>by omega
 | n+1,g,a,b,c,d,hg,fa,fb,fc,fd,hb,hd,hn=>by
  rcases cmpB_ok hg fa fb fc fd hb hd with ⟨s,h1,h2⟩ | ⟨hr,hs,h1,h2⟩
  ·exact ⟨s,by rw [loopM_eq,h1];rfl,h2⟩
  ·have hl:=Int.emod_lt_of_pos a hb
   obtain ⟨s,e1,e2⟩:=cmp_loop n (g:=-g) (a:=b) (b:=a % b) (c:=d) (d:=c % d) (by omega) fb (fits_mod hb fb) fd (fits_mod hd fd) hr hs (by omega)
   exact ⟨s,by rw [loopM_eq,h1];exact e1,by rw [e2,h2]⟩
theorem rcmp_ok {p q:Rat} (hp:FitsR p) (hq:FitsR q):m24 (rt p,rt q)=some (cmp3 (p.num*q.den) (q.num*p.den)):=by
 have h1:(0:Int)<(p.den:Int):=by have:=p.den_nz;omega
 have h2:(0:Int)<(q.den:Int):=by have:=q.den_nz;omega
 obtain ⟨s,e1,e2⟩:=cmp_loop _ (g:=1) (.inl rfl) hp.1 hp.2 hq.1 hq.2 h1 h2 (Nat.le_refl _)
 rw [loopM_eq] at e1
 have v1:m55 ((rt p).1,(rt p).2)=some true:=rvalid_ok hp
 have v2:m55 ((rt q).1,(rt q).2)=some true:=rvalid_ok hq
 unfold m24
 dsimp only
 rw [v1,Option.bind_some,notT,notF,cond_true,v2,Option.bind_some,notT,orF,cond_false]
 refine bind_of (x:=s) ?_ (by rw [e2,Int.one_mul])
 exact e1
end Go.Proofs.YtechphmljdgoaaaGreatDoor
namespace Go.Proofs.YtechphmljdgoaaaGreatDoor
open Go Go.Abs Go.PE Go.Num
open Go.IntKind (wrap)
theorem Dn.fits {D B:Nat} {q:Rat} (h:Dn D B q) (hD:0<D) (h1:D<10 ^ 200) (h2:B*D<10 ^ 200):FitsR q:=by
 obtain ⟨a,b⟩:=h.num_den hD
 refine ⟨Nat.lt_of_le_of_lt b h2,?_⟩
 unfold Fits
 rw [Int.natAbs_natCast]
 exact Nat.lt_of_le_of_lt a h1
theorem Dn.fits2 {D B C:Nat} {q:Rat} (h:Dn D B q) (hD:0<D) (hBC:B≤C) (h2:(C+1)*(D*D)<10 ^ 200):FitsR q:=by
 have h1:D≤(C+1)*(D*D):=Nat.le_trans (Nat.le_mul_of_pos_right D hD) (Nat.le_mul_of_pos_left _ (by omega))
 have h3:B*D≤(C+1)*(D*D):=Nat.mul_le_mul (by omega) (Nat.le_mul_of_pos_right D hD)
 exact h.fits hD (Nat.lt_of_le_of_lt h1 h2) (Nat.lt_of_le_of_lt h3 h2)
theorem radd_dn {D B C E:Nat} {p q:Rat} (hp:Dn D B p) (hq:Dn D C q) (hD:0<D) (hE:B+C≤E) (h2:(E+1)*(D*D)<10 ^ 200):m49 (rt p,rt q)=some (rt (p+q),0):=by
 obtain ⟨a1,a2⟩:=hp.num_den hD
 obtain ⟨b1,b2⟩:=hq.num_den hD
 have m1:p.num.natAbs*q.den≤B*(D*D):=by rw [← Nat.mul_assoc];exact Nat.mul_le_mul a2 b1
 have m2:q.num.natAbs*p.den≤C*(D*D):=by rw [← Nat.mul_assoc];exact Nat.mul_le_mul b2 a1
 have m3:p.den*q.den≤D*D:=Nat.mul_le_mul a1 b1
 have mm:B*(D*D)+C*(D*D)≤E*(D*D):=by rw [← Nat.add_mul];exact Nat.mul_le_mul_right _ hE
 have e:(E+1)*(D*D)=E*(D*D)+D*D:=by rw [Nat.add_mul,Nat.one_mul]
 have e1:(p.num*(q.den:Int)).natAbs=p.num.natAbs*q.den:=by rw [Int.natAbs_mul,Int.natAbs_natCast]
 have e2:(q.num*(p.den:Int)).natAbs=q.num.natAbs*p.den:=by rw [Int.natAbs_mul,Int.natAbs_natCast]
 refine radd_ok (hp.fits2 hD (C:=E) (by omega) h2) (hq.fits2 hD (C:=E) (by omega) h2) ?_ ?_ ?_ ?_
 ·unfold Fits;rw [e1];omega
 ·unfold Fits;rw [e2];omega
 ·unfold Fits
  have:=Int.natAbs_add_le (p.num*(q.den:Int)) (q.num*(p.den:Int))
  omega
 ·unfold Fits;rw [Int.natAbs_mul,Int.natAbs_natCast,Int.natAbs_natCast];omega
def LL:Nat:=69720375229712477164533808935312303556800
def DA:Nat:=2*(LL*LL)
theorem LL_dvd:∀ x:Nat,x<101→0<x→LL % x=0:=by decide
theorem DA_dvd {x y:Int} (hx:0<x) (hx2:x≤100) (hy:0<y) (hy2:y≤100):2*x*y ∣ (DA:Int):=by
 have d:∀ z:Int,0<z→z≤100→z ∣ (LL:Int):=fun z h1 h2=>by
  have:=LL_dvd z.toNat (by omega) (by omega)
  have h3:((z.toNat:Nat):Int) ∣ (LL:Int):=Int.natCast_dvd_natCast.2 (Nat.dvd_of_mod_eq_zero this)
  rwa [show ((z.toNat:Nat):Int)=z by omega] at h3
 have e:(DA:Int)=2*(LL:Int)*(LL:Int):=by unfold DA;rw [Int.natCast_mul,Int.natCast_mul,Int.mul_assoc];rfl
 rw [e]
 exact Int.mul_dvd_mul (Int.mul_dvd_mul (Int.dvd_refl _) (d x hx hx2)) (d y hy hy2)
theorem DA_pos:0<DA:=by decide
theorem DA_fit:(1000+1)*(DA*DA)<10 ^ 200:=by decide
noncomputable def abvT (n:Int) (l:List Int) (s:List UInt8×List UInt8):Option (List UInt8×List UInt8):=(sortI l).bind fun r_3=>(chkM 0 (lenM r_3)).bind fun r_4=>(idxM r_3 0).bind fun r_5=>bif ltM n r_5 then (m25 (1,2)).bind fun r_6=>(m49
 ((s.1,s.2),r_6.1.1,r_6.1.2)).bind fun r=>some (r.1.1,r.1.2) else (chkM 1 (lenM r_3)).bind fun r_6=>(idxM r_3 1).bind fun r_7=>bif ltM n r_7 then
 (m25 (1,2)).bind fun r_8=>(m49 ((s.1,s.2),r_8.1.1,r_8.1.2)).bind fun r_9=>(chkM 0 (lenM r_3)).bind fun r_10=>(idxM r_3 0).bind fun
 r_11=>(chkM 0 (lenM r_3)).bind fun r_12=>(idxM r_3 0).bind fun r_13=>(chkM 1 (lenM r_3)).bind fun r_14=>(idxM r_3 1).bind fun r_15=>(chkM 0 (lenM r_3)).bind
 fun r_16=>(idxM r_3 0).bind fun r_17=>(chkM 2 (lenM r_3)).bind fun r_18=>(idxM r_3 2).bind fun r_19=>(chkM 0 (lenM r_3)).bind fun r_20=>(idxM r_3 0).bind fun
 r_21=>(m25 (wrap IntKind.i64 (wrap IntKind.i64 (negM (wrap IntKind.i64 (n-r_11)))*wrap IntKind.i64 (n-r_13)),wrap IntKind.i64 (wrap IntKind.i64 (2
 * wrap IntKind.i64 (r_15-r_17))*wrap IntKind.i64 (r_19-r_21)))).bind fun r_22=>(m49 ((r_9.1.1,r_9.1.2),r_22.1.1,r_22.1.2)).bind fun r=>some
 (r.1.1,r.1.2) else (chkM 2 (lenM r_3)).bind fun r_8=>(idxM r_3 2).bind fun r_9=>bif ltM n r_9 then (chkM 2 (lenM r_3)).bind fun r_10=>(idxM r_3 2).bind fun r_11
 => (chkM 2 (lenM r_3)).bind fun r_12=>(idxM r_3 2).bind fun r_13=>(chkM 2 (lenM r_3)).bind fun r_14=>(idxM r_3 2).bind fun r_15=>(chkM 0 (lenM r_3)).bind fun
 r_16=>(idxM r_3 0).bind fun r_17=>(chkM 2 (lenM r_3)).bind fun r_18=>(idxM r_3 2).bind fun r_19=>(chkM 1 (lenM r_3)).bind fun r_20=>(idxM r_3 1).bind fun r_21
 => (m25 (wrap IntKind.i64 (wrap IntKind.i64 (r_11-n)*wrap IntKind.i64 (r_13-n)),wrap IntKind.i64 (wrap IntKind.i64 (2*wrap IntKind.i64 (r_15 -
 r_17))*wrap IntKind.i64 (r_19-r_21)))).bind fun r_22=>(m49 ((s.1,s.2),r_22.1.1,r_22.1.2)).bind fun r=>some (r.1.1,r.1.2) else some (s.1,s.2)
noncomputable def abvE (W H:Int) (L:List Int) (n:Int):Option (List UInt8×List UInt8):=(m25 (0,1)).bind fun r_2=>(loopM (fun (s:Int×List UInt8×List UInt8)=>bif ltM s.1 H then (loopM (fun (s_1:Int×List UInt8×List UInt8)=>bif
 ltM s_1.1 W then (((idxM L (wrap IntKind.i64 (wrap IntKind.i64 (s.1*wrap IntKind.i64 (W+1))+s_1.1))).bind fun r=>some r).bind fun (ov:Int)=>((idxM L (wrap
 IntKind.i64 (wrap IntKind.i64 (s.1*wrap IntKind.i64 (W+1))+wrap IntKind.i64 (s_1.1+1)))).bind fun r=>some r).bind fun (ov_1:Int)=>((idxM L (wrap
 IntKind.i64 (wrap IntKind.i64 (wrap IntKind.i64 (s.1+1)*wrap IntKind.i64 (W+1))+wrap IntKind.i64 (s_1.1+1)))).bind fun r=>some r).bind fun (ov_2:Int) =>
 abvT n [ov,ov_1,ov_2] (s_1.2.1,s_1.2.2)).bind fun o=>(((idxM L (wrap IntKind.i64 (wrap IntKind.i64 (s.1*wrap IntKind.i64 (W+1))+s_1.1))).bind fun r=>some
 r).bind fun (ov:Int)=>((idxM L (wrap IntKind.i64 (wrap IntKind.i64 (wrap IntKind.i64 (s.1+1)*wrap IntKind.i64 (W+1))+wrap IntKind.i64 (s_1.1+1)))).bind
 fun r=>some r).bind fun (ov_1:Int)=>((idxM L (wrap IntKind.i64 (wrap IntKind.i64 (wrap IntKind.i64 (s.1+1)*wrap IntKind.i64 (W+1))+s_1.1))).bind fun r =>
 some r).bind fun (ov_2:Int)=>abvT n [ov,ov_1,ov_2] (o.1,o.2)).bind fun o=>some (Sum.inl (wrap IntKind.i64 (s_1.1+1),o.1,o.2)) else some (Sum.inr (s_1.2.1,
 s_1.2.2))) (0,s.2.1,s.2.2)).bind fun o=>some (Sum.inl (wrap IntKind.i64 (s.1+1),o.1,o.2)) else some (Sum.inr (s.2.1,s.2.2))) (0,r_2.1.1,r_2.1.2)).bind fun o
 => some (o.1,o.2)
def arT (p q r n:Int):Rat:=ar ((min p (min q r)-n:Int):Rat) ((max (min p q) (min (max p q) r)-n:Int):Rat) ((max p (max q r)-n:Int):Rat)
theorem sort3 (p q r:Int):sortI [p,q,r]=some [min p (min q r),max (min p q) (min (max p q) r),max p (max q r)]:=by
 have:isortI [p,q,r]=[min p (min q r),max (min p q) (min (max p q) r),max p (max q r)]:=by
  show insI p (insI q [r])=_
  by_cases h1:q≤r
  ·have e1:insI q [r]=[q,r]:=by show (bif leM q r then [q,r] else _)=_;rw [leI h1];rfl
   rw [e1]
   by_cases h2:p≤q
   ·show (bif leM p q then [p,q,r] else _)=_
    rw [leI h2,cond_true];congr 1;omega;congr 1;omega;congr 1;omega
   ·show (bif leM p q then _ else q::insI p [r])=_
    rw [gtI (by omega),cond_false]
    by_cases h3:p≤r
    ·show q::(bif leM p r then [p,r] else _)=_
     rw [leI h3,cond_true];congr 1;omega;congr 1;omega;congr 1;omega
    ·show q::(bif leM p r then _ else [r,p])=_
     rw [gtI (by omega),cond_false];congr 1;omega;congr 1;omega;congr 1;omega
  ·have e1:insI q [r]=[r,q]:=by show (bif leM q r then _ else [r,q])=_;rw [gtI (by omega)];rfl
   rw [e1]
   by_cases h2:p≤r
   ·show (bif leM p r then [p,r,q] else _)=_
    rw [leI h2,cond_true];congr 1;omega;congr 1;omega;congr 1;omega
   ·show (bif leM p r then _ else r::insI p [q])=_
    rw [gtI (by omega),cond_false]
    by_cases h3:p≤q
    ·show r::(bif leM p q then [p,q] else _)=_
     rw [leI h3,cond_true];congr 1;omega;congr 1;omega;congr 1;omega
    ·show r::(bif leM p q then _ else [q,p])=_
     rw [gtI (by omega),cond_false];congr 1;omega;congr 1;omega;congr 1;omega
 unfold sortI
 rw [decide_eq_true (show [p,q,r].length<4611686018427387904 by show 3<_;omega),this]
theorem idx3 (a b c:Int):idxM [a,b,c] 0=some a∧idxM [a,b,c] 1=some b∧idxM [a,b,c] 2=some c∧chkM 0 (lenM [a,b,c])=some ()∧chkM 1 (lenM [a,b,c])=some ()∧chkM 2 (lenM [a,b,c])=some ():=⟨rfl,rfl,rfl,rfl,rfl,rfl⟩
theorem fits_small {z:Int} (h:z.natAbs≤1000000000000000000):Fits z:=Nat.lt_of_le_of_lt h (by decide)
theorem half_dn:Dn DA 1 (Rat.divInt 1 2):=Dn.of (by decide) (by decide) (by decide)
theorem abv_core {a b c n:Int} {B:Nat} {acc:Rat} (h0:0≤a) (h1:a≤b) (h2:b≤c) (h3:c≤100) (n0:0≤n) (n1:n≤100) (hB:B≤900) (hacc:Dn DA B acc) {p q r:Int} (hs:sortI [p,q,r]=some [a,b,c]) :
  abvT n [p,q,r] (rt acc)=some (rt (acc+ar ((a-n:Int):Rat) ((b-n:Int):Rat) ((c-n:Int):Rat)))∧Dn DA (B+2) (acc+ar ((a-n:Int):Rat) ((b-n:Int):Rat) ((c-n:Int):Rat)):=by
 obtain ⟨i0,i1,i2,c0,c1,c2⟩:=idx3 a b c
 have qle:∀ {x y:Int},x≤y↔((x:Int):Rat)≤((y:Int):Rat):=fun {x y}=>Rat.intCast_le_intCast.symm
 have qlt:∀ {x y:Int},x<y↔((x:Int):Rat)<((y:Int):Rat):=fun {x y}=>Rat.intCast_lt_intCast.symm
 have z0:((0:Int):Rat)=0:=rfl
 have hof:m25 (1,2)=some (rt (Rat.divInt 1 2),0):=of_ok (by decide) (by decide) (by decide)
 have hhalf:Rat.divInt 1 2=(1:Rat) / 2:=Rat.divInt_eq_div 1 2
 have sqb:∀ {x y:Int},0≤x→x≤y→y≤100→0≤x*x∧x*x≤10000:=fun {x y} hx hy hz=>prod_bd (A:=100) (B:=100) hx (by omega) hx (by omega)
 unfold abvT
 rw [hs,Option.bind_some,c0,Option.bind_some,i0,Option.bind_some]
 by_cases ha:n<a
 ·have hadd:=radd_dn hacc half_dn DA_pos (E:=1000) (by omega) DA_fit
  rw [ltI ha,cond_true,hof,Option.bind_some,ar_1 (by rw [← z0,← qlt];omega),← hhalf]
  refine ⟨bind_of (x:=(rt (acc+Rat.divInt 1 2),0)) hadd rfl,(hacc.add half_dn).mono (by omega)⟩
 rw [geI (by omega),cond_false,c1,Option.bind_some,i1,Option.bind_some]
 by_cases hb:n<b
 ·have hadd:=radd_dn hacc half_dn DA_pos (E:=1000) (by omega) DA_fit
  have p1:=sqb (x:=n-a) (y:=n) (by omega) (by omega) n1
  have p2:=prod_bd (a:=b-a) (b:=c-a) (A:=100) (B:=100) (by omega) (by omega) (by omega) (by omega)
  have p3:=Int.mul_pos (show 0<b-a by omega) (show 0<c-a by omega)
  have p4:(n-a)*(n-a)≤(b-a)*(c-a):=Int.mul_le_mul (by omega) (by omega) (by omega) (by omega)
  have e1:-(n-a)*(n-a)=-((n-a)*(n-a)):=Int.neg_mul _ _
  have e2:2*(b-a)*(c-a)=2*((b-a)*(c-a)):=Int.mul_assoc _ _ _
  have dn2:Dn DA 1 (Rat.divInt (-(n-a)*(n-a)) (2*(b-a)*(c-a))):=Dn.of (by omega) (DA_dvd (by omega) (by omega) (by omega) (by omega)) (by rw [e1,e2];omega)
  have hof2:m25 (-(n-a)*(n-a),2*(b-a)*(c-a))=some (rt (Rat.divInt (-(n-a)*(n-a)) (2*(b-a)*(c-a))),0):=of_ok (fits_small (by omega)) (fits_small (by omega)) (by omega)
  have hadd2:=radd_dn (hacc.add half_dn) dn2 DA_pos (E:=1000) (by omega) DA_fit
  have ear:ar ((a-n:Int):Rat) ((b-n:Int):Rat) ((c-n:Int):Rat)=Rat.divInt 1 2+Rat.divInt (-(n-a)*(n-a)) (2*(b-a)*(c-a)):=by
   rw [ar_2 (by rw [← z0,← qle];omega) (by rw [← z0,← qlt];omega),hhalf,Rat.divInt_eq_div]
   simp only [Rat.intCast_mul,Rat.intCast_neg,Rat.intCast_sub]
   have e3:((2:Int):Rat)=2:=rfl
   rw [e3,frac_mul,frac_mul (-((n:Rat)-(a:Rat))*((n:Rat)-(a:Rat))),show (b:Rat)-(n:Rat)-((a:Rat)-(n:Rat))=(b:Rat)-(a:Rat) by grind,show (c:Rat)-(n:Rat)-((a:Rat)-(n:Rat))=(c:Rat)-(a:Rat) by grind,show 2*((b:Rat)-(a:Rat))*((c:Rat)-(a:Rat))=2*(((b:Rat)-(a:Rat))*((c:Rat)-(a:Rat))) by grind]
   grind
  rw [ltI hb,cond_true,hof,Option.bind_some,ear,← Rat.add_assoc]
  refine ⟨bind_of (x:=(rt (acc+Rat.divInt 1 2),0)) hadd ?_,((hacc.add half_dn).add dn2).mono (by omega)⟩
  simp only [c0,c2,i0,i2,Option.bind_some]
  rw [show negM (wrap IntKind.i64 (n-a))=-(wrap IntKind.i64 (n-a)) from rfl,wrap_in (n:=n-a) (by omega) (by omega),wrap_in (n:=-(n-a)) (by omega) (by omega),wrap_in (n:=-(n-a)*(n-a)) (by omega) (by omega),wrap_in (n:=b-a) (by omega) (by omega),wrap_in (n:=2*(b-a)) (by omega) (by omega),wrap_in (n:=c-a) (by omega) (by omega),wrap_in (n:=2*(b-a)*(c-a)) (by omega) (by omega),hof2,Option.bind_some]
  exact bind_of (x:=(rt (acc+Rat.divInt 1 2+Rat.divInt (-(n-a)*(n-a)) (2*(b-a)*(c-a))),0)) hadd2 rfl
 rw [geI (by omega),cond_false,c2,Option.bind_some,i2,Option.bind_some]
 by_cases hc:n<c
 ·have p1:=sqb (x:=c-n) (y:=c) (by omega) (by omega) h3
  have p2:=prod_bd (a:=c-a) (b:=c-b) (A:=100) (B:=100) (by omega) (by omega) (by omega) (by omega)
  have p3:=Int.mul_pos (show 0<c-a by omega) (show 0<c-b by omega)
  have p4:(c-n)*(c-n)≤(c-a)*(c-b):=Int.mul_le_mul (by omega) (by omega) (by omega) (by omega)
  have e2:2*(c-a)*(c-b)=2*((c-a)*(c-b)):=Int.mul_assoc _ _ _
  have dn2:Dn DA 1 (Rat.divInt ((c-n)*(c-n)) (2*(c-a)*(c-b))):=Dn.of (by omega) (DA_dvd (by omega) (by omega) (by omega) (by omega)) (by rw [e2];omega)
  have hof2:m25 ((c-n)*(c-n),2*(c-a)*(c-b))=some (rt (Rat.divInt ((c-n)*(c-n)) (2*(c-a)*(c-b))),0):=of_ok (fits_small (by omega)) (fits_small (by omega)) (by omega)
  have hadd2:=radd_dn hacc dn2 DA_pos (E:=1000) (by omega) DA_fit
  have ear:ar ((a-n:Int):Rat) ((b-n:Int):Rat) ((c-n:Int):Rat)=Rat.divInt ((c-n)*(c-n)) (2*(c-a)*(c-b)):=by
   rw [ar_3 (by rw [← z0,← qle];omega) (by rw [← z0,← qle];omega) (by rw [← z0,← qlt];omega),Rat.divInt_eq_div]
   simp only [Rat.intCast_mul,Rat.intCast_neg,Rat.intCast_sub]
   have e3:((2:Int):Rat)=2:=rfl
   rw [e3,show (c:Rat)-(n:Rat)-((a:Rat)-(n:Rat))=(c:Rat)-(a:Rat) by grind,show (c:Rat)-(n:Rat)-((b:Rat)-(n:Rat))=(c:Rat)-(b:Rat) by grind,show 2*((c:Rat)-(a:Rat))*((c:Rat)-(b:Rat))=2*(((c:Rat)-(a:Rat))*((c:Rat)-(b:Rat))) by grind]
  rw [ltI hc,cond_true,ear]
  refine ⟨?_,(hacc.add dn2).mono (by omega)⟩
  simp only [Option.bind_some]
  rw [wrap_in (n:=c-n) (by omega) (by omega),wrap_in (n:=(c-n)*(c-n)) (by omega) (by omega),wrap_in (n:=c-a) (by omega) (by omega),wrap_in (n:=2*(c-a)) (by omega) (by omega),wrap_in (n:=c-b) (by omega) (by omega),wrap_in (n:=2*(c-a)*(c-b)) (by omega) (by omega),hof2,Option.bind_some]
  exact bind_of (x:=(rt (acc+Rat.divInt ((c-n)*(c-n)) (2*(c-a)*(c-b))),0)) hadd2 rfl
 ·rw [geI (by omega),cond_false,ar_4 (by rw [← z0,← qle];omega) (by rw [← z0,← qle];omega) (by rw [← z0,← qle];omega),Rat.add_zero]
  exact ⟨rfl,hacc.mono (by omega)⟩
theorem abvT_ok {p q r n:Int} {B:Nat} {acc:Rat} (hp:0≤p∧p≤100) (hq:0≤q∧q≤100) (hr:0≤r∧r≤100) (n0:0≤n) (n1:n≤100) (hB:B≤900) (hacc:Dn DA B acc) :
  abvT n [p,q,r] (rt acc)=some (rt (acc+arT p q r n))∧Dn DA (B+2) (acc+arT p q r n) :=
 abv_core (by omega) (by omega) (by omega) (by omega) n0 n1 hB hacc (sort3 p q r)
def aT (W:Nat) (v:Nat→Int) (n:Int) (k:Nat):Rat:=arT (triF W v k).1.2.2 (triF W v k).2.1.2.2 (triF W v k).2.2.2.2 n
def abQ (W H:Nat) (v:Nat→Int) (n:Int):Rat:=qsum (2*(H*W)) (aT W v n)
theorem abQ_dn {W H:Nat} {v:Nat→Int} (h:OkV W H v) {n:Int} (n0:0≤n) (n1:n≤100):∀ k,k≤2*(H*W)→Dn DA (2*k) (qsum k (aT W v n))
 | 0,_=>Dn.zero
 | k+1,hk=>by
  have hWH:H*W≤36:=Nat.mul_le_mul h.h6 h.w6
  have t:=tSum_bd h (show k<2*(H*W) by omega)
  exact ((abvT_ok (p:=(triF W v k).1.2.2) (q:=(triF W v k).2.1.2.2) (r:=(triF W v k).2.2.2.2) ⟨t.1,t.2.1⟩ ⟨t.2.2.1,t.2.2.2.1⟩ t.2.2.2.2 n0 n1 (by omega) (abQ_dn h n0 n1 k (by omega))).2).mono (by omega)
theorem abv_tri {W H:Nat} {v:Nat→Int} (h:OkV W H v) {n:Int} (n0:0≤n) (n1:n≤100) {k:Nat} (hk:k<2*(H*W)):abvT n [(triF W v k).1.2.2,(triF W v k).2.1.2.2,(triF W v k).2.2.2.2] (rt (qsum k (aT W v n)))=some (rt (qsum (k+1) (aT W v n))):=by
 have hWH:H*W≤36:=Nat.mul_le_mul h.h6 h.w6
 have t:=tSum_bd h hk
 exact (abvT_ok ⟨t.1,t.2.1⟩ ⟨t.2.2.1,t.2.2.2.1⟩ t.2.2.2.2 n0 n1 (by omega) (abQ_dn h n0 n1 k (by omega))).1
theorem abvE_ok {W H:Nat} {v:Nat→Int} (h:OkV W H v) {n:Int} (n0:0≤n) (n1:n≤100):abvE W H (row (nn W H) v) n=some (rt (abQ W H v n)):=by
 have w6:=h.w6
 have h6:=h.h6
 have hWH:H*W≤36:=Nat.mul_le_mul h6 w6
 have hof:m25 (0,1)=some (rt (qsum (2*(0*W)) (aT W v n)),0):=by
  rw [Nat.zero_mul]
  have:=of_ok (n:=0) (d:=1) (by decide) (by decide) (by decide)
  rw [this];rfl
 unfold abvE
 rw [hof,Option.bind_some]
 refine bind_of (x:=rt (abQ W H v n)) ?_ rfl
 refine count_loop (fun cy=>rt (qsum (2*(cy*W)) (aT W v n))) H (fun cy hy=>?_) ?_
 ·dsimp only
  rw [ltI (by omega),cond_true,wrap_in (n:=(cy:Int)+1) (by omega) (by omega)]
  refine bind_of (x:=rt (qsum (2*((cy+1)*W)) (aT W v n))) ?_ rfl
  refine count_loop (fun cx=>rt (qsum (2*(cy*W+cx)) (aT W v n))) W (fun cx hx=>?_) ?_
  ·have hb:cy*W+cx+1≤H*W:=by
    have:(cy+1)*W≤H*W:=Nat.mul_le_mul_right _ hy
    rw [Nat.add_mul,Nat.one_mul] at this
    omega
   have t1:=abv_tri h n0 n1 (k:=2*(cy*W+cx)) (by omega)
   have t2:=abv_tri h n0 n1 (k:=2*(cy*W+cx)+1) (by omega)
   rw [triF_low v hx] at t1
   rw [triF_upp v hx] at t2
   unfold nd at t1 t2
   dsimp only at t1 t2
   dsimp only
   rw [ltI (by omega),cond_true,wrap_in (n:=(cx:Int)+1) (by omega) (by omega),node_ok w6 h6 (cx:=(cx:Int)) (cy:=(cy:Int)) (by omega) (by omega) (by omega) (by omega),node_ok w6 h6 (cx:=(cx:Int)+1) (cy:=(cy:Int)) (by omega) (by omega) (by omega) (by omega),node_ok w6 h6 (cx:=(cx:Int)+1) (cy:=(cy:Int)+1) (by omega) (by omega) (by omega) (by omega),node_ok w6 h6 (cx:=(cx:Int)) (cy:=(cy:Int)+1) (by omega) (by omega) (by omega) (by omega)]
   simp only [Option.bind_some]
   refine bind_of t1 ?_
   refine bind_of t2 ?_
   rw [show 2*(cy*W+cx)+1+1=2*(cy*W+(cx+1)) by omega]
  ·dsimp only
   rw [geI (by omega),cond_false,Nat.add_mul,Nat.one_mul]
 ·dsimp only
  rw [geI (by omega),cond_false];rfl
theorem above_ok {W H:Nat} {lo hi:Nat→Int} (h:OkF W H lo hi) {n:Int} (n0:0≤n) (n1:n≤100):m18 (fd W H lo hi,n)=some (rt (abQ W H lo n),rt (abQ W H hi n),0):=by
 unfold m18
 have v1:=valid_ok h
 unfold fd at v1 ⊢
 dsimp only
 rw [v1,Option.bind_some,notT,notF,cond_true,within_ok,Option.bind_some,decide_eq_true (by omega),notT,orF,cond_false]
 refine bind_of (abvE_ok h.okLo n0 n1) ?_
 refine bind_of (abvE_ok h.okHi n0 n1) rfl
end Go.Proofs.YtechphmljdgoaaaGreatDoor
namespace Go.Proofs.YtechphmljdgoaaaGreatDoor
open Go Go.Abs Go.PE Go.Num
open Go.IntKind (wrap)
theorem icast_le {x y:Int} (h:x≤y):((x:Int):Rat)≤((y:Int):Rat):=Rat.intCast_le_intCast.2 h
theorem icast_lt {x y:Int} (h:x<y):((x:Int):Rat)<((y:Int):Rat):=Rat.intCast_lt_intCast.2 h
theorem arT_bd (p q r n:Int):0≤arT p q r n∧arT p q r n≤1 / 2:=ar_bd (icast_le (by omega)) (icast_le (by omega))
theorem arT_mono {p q r n p' q' r' n':Int} (hp:p-n≤p'-n') (hq:q-n≤q'-n') (hr:r-n≤r'-n'):arT p q r n≤arT p' q' r' n' :=
 ar_mono (icast_le (by omega)) (icast_le (by omega)) (icast_le (by omega)) (icast_le (by omega)) (icast_le (by omega)) (icast_le (by omega)) (icast_le (by omega))
theorem arT_full {p q r n:Int} (hp:n<p) (hq:n<q) (hr:n<r):arT p q r n=1 / 2:=ar_1 (icast_lt (x:=0) (by omega))
theorem arT_zero {p q r n:Int} (hp:p≤n) (hq:q≤n) (hr:r≤n):arT p q r n=0:=ar_4 (icast_le (y:=0) (by omega)) (icast_le (y:=0) (by omega)) (icast_le (y:=0) (by omega))
theorem arT_int {p q r n:Int} (hp:0≤p) (hq:0≤q) (hr:0≤r) (hn:0≤n):6*(arT p q r n*(n:Rat))≤((p+q+r:Int):Rat):=by
 have h:=ar_int (a:=((min p (min q r):Int):Rat)) (b:=((max (min p q) (min (max p q) r):Int):Rat)) (c:=((max p (max q r):Int):Rat)) (n:=(n:Rat)) (icast_le (x:=0) (by omega)) (icast_le (by omega)) (icast_le (by omega)) (icast_le (x:=0) hn)
 unfold arT
 rw [Rat.intCast_sub,Rat.intCast_sub,Rat.intCast_sub,show p+q+r=min p (min q r)+max (min p q) (min (max p q) r)+max p (max q r) by omega,Rat.intCast_add,Rat.intCast_add]
 exact h
theorem qsum_le {f g:Nat→Rat}:∀ {n:Nat},(∀ i,i<n→f i≤g i)→qsum n f≤qsum n g
 | 0,_=>Rat.le_refl
 | n+1,h=>by
  have a:=qsum_le (n:=n) (f:=f) (g:=g) (fun i hi=>h i (by omega))
  have b:=h n (by omega)
  show qsum n f+f n≤qsum n g+g n
  grind
theorem qsum_const (c:Rat):∀ n:Nat,qsum n (fun _=>c)=((n:Int):Rat)*c
 | 0=>by show (0:Rat)=((0:Int):Rat)*c;rw [show ((0:Int):Rat)=0 from rfl,Rat.zero_mul]
 | n+1=>by
  show qsum n (fun _=>c)+c=(((n+1:Nat):Int):Rat)*c
  rw [qsum_const c n,Int.natCast_add,Rat.intCast_add,show (((1:Nat):Int):Rat)=1 from rfl]
  grind
theorem qsum_mul (c:Rat) (f:Nat→Rat):∀ n:Nat,qsum n (fun i=>f i*c)=qsum n f*c
 | 0=>by show (0:Rat)=0*c;rw [Rat.zero_mul]
 | n+1=>by
  show qsum n (fun i=>f i*c)+f n*c=(qsum n f+f n)*c
  rw [qsum_mul c f n];grind
theorem face_cast (W H:Nat):(((2*(H*W):Nat):Int):Rat)*(1 / 2)=(((W:Int)*(H:Int):Int):Rat):=by
 rw [Int.natCast_mul,Int.natCast_mul,Rat.intCast_mul,Rat.intCast_mul,Rat.intCast_mul,show (((2:Nat):Int):Rat)=2 from rfl]
 grind
theorem abQ_bd {W H:Nat} {v:Nat→Int} {n:Int}:0≤abQ W H v n∧abQ W H v n≤(((W:Int)*(H:Int):Int):Rat):=by
 constructor
 ·have:=qsum_le (f:=fun _=>0) (g:=aT W v n) (n:=2*(H*W)) (fun i _=>(arT_bd _ _ _ _).1)
  rw [qsum_const,Rat.mul_zero] at this
  exact this
 ·have:=qsum_le (f:=aT W v n) (g:=fun _=>1 / 2) (n:=2*(H*W)) (fun i _=>(arT_bd _ _ _ _).2)
  rw [qsum_const,face_cast] at this
  exact this
theorem tri_le {W H:Nat} {v v':Nat→Int} (hW:1≤W) (hv:∀ i,i<nn W H→v i≤v' i) {k:Nat} (hk:k<2*(H*W)):(triF W v k).1.2.2≤(triF W v' k).1.2.2∧(triF W v k).2.1.2.2≤(triF W v' k).2.1.2.2∧(triF W v k).2.2.2.2≤(triF W v' k).2.2.2.2:=by
 have hc:k / 2<H*W:=by omega
 have hx:k / 2 % W<W:=Nat.mod_lt _ (by omega)
 have hy:k / 2 / W<H:=(Nat.div_lt_iff_lt_mul (by omega)).2 hc
 have key:∀ cx cy:Int,0≤cx→cx≤W→0≤cy→cy≤H→nv W v cx cy≤nv W v' cx cy:=fun cx cy a b c d=>by
  obtain ⟨_,e,f⟩:=node_bd a b c d
  exact hv _ (by omega)
 unfold triF
 dsimp only
 generalize k / 2 % W=p at *
 generalize k / 2 / W=q at *
 have n00:=key (p:Int) (q:Int) (by omega) (by omega) (by omega) (by omega)
 have n10:=key ((p:Int)+1) (q:Int) (by omega) (by omega) (by omega) (by omega)
 have n11:=key ((p:Int)+1) ((q:Int)+1) (by omega) (by omega) (by omega) (by omega)
 have n01:=key (p:Int) ((q:Int)+1) (by omega) (by omega) (by omega) (by omega)
 split
 ·exact ⟨n00,n10,n11⟩
 ·exact ⟨n00,n11,n01⟩
theorem abQ_mono {W H:Nat} {v v':Nat→Int} {n n':Int} (hW:1≤W) (hv:∀ i,i<nn W H→v i≤v' i) (hn:n'≤n):abQ W H v n≤abQ W H v' n':=by
 refine qsum_le fun k hk=>?_
 obtain ⟨a,b,c⟩:=tri_le hW hv hk
 exact arT_mono (by omega) (by omega) (by omega)
theorem tri_gt {W H:Nat} {v:Nat→Int} {n:Int} (hW:1≤W) (hv:∀ i,i<nn W H→n<v i) {k:Nat} (hk:k<2*(H*W)):n<(triF W v k).1.2.2∧n<(triF W v k).2.1.2.2∧n<(triF W v k).2.2.2.2:=by
 have h:=tri_le (v:=fun _=>n+1) (v':=v) hW (fun i hi=>by have:=hv i hi;show n+1≤v i;omega) hk
 have e:(triF W (fun _=>n+1) k).1.2.2=n+1∧(triF W (fun _=>n+1) k).2.1.2.2=n+1∧(triF W (fun _=>n+1) k).2.2.2.2=n+1:=by
  unfold triF
  dsimp only
  split<;>exact ⟨rfl,rfl,rfl⟩
 omega
theorem abQ_full {W H:Nat} {v:Nat→Int} {n:Int} (hW:1≤W) (hv:∀ i,i<nn W H→n<v i):abQ W H v n=(((W:Int)*(H:Int):Int):Rat):=by
 rw [← face_cast,← qsum_const]
 refine qsum_congr fun k hk=>?_
 obtain ⟨a,b,c⟩:=tri_gt hW hv hk
 exact arT_full a b c
theorem abQ_zero {W H:Nat} {v:Nat→Int} (h:OkV W H v):abQ W H v 100=0:=by
 have e:abQ W H v 100=qsum (2*(H*W)) (fun _=>0):=qsum_congr fun k hk=>by
  have t:=tSum_bd h hk
  exact arT_zero t.2.1 t.2.2.2.1 t.2.2.2.2.2
 rw [e,qsum_const,Rat.mul_zero]
theorem sT_q (W:Nat) (v:Nat→Int):∀ n:Nat,((sT W v n:Int):Rat)=qsum n (fun k=>((tSum W v k:Int):Rat))
 | 0=>rfl
 | n+1=>by
  show ((sT W v n+tSum W v n:Int):Rat)=qsum n (fun k=>((tSum W v k:Int):Rat))+((tSum W v n:Int):Rat)
  rw [Rat.intCast_add,sT_q W v n]
theorem abQ_int {W H:Nat} {v:Nat→Int} (h:OkV W H v) {n:Int} (hn:0≤n):abQ W H v n*(n:Rat)≤Rat.divInt (sT W v (2*(H*W))) 6:=by
 rw [Rat.divInt_eq_div,show ((6:Int):Rat)=6 from rfl,sT_q]
 refine qle_div (by grind) ?_
 rw [show abQ W H v n*(n:Rat)*6=abQ W H v n*((n:Rat)*6) by grind]
 unfold abQ
 rw [← qsum_mul]
 refine qsum_le fun k hk=>?_
 have t:=tSum_bd h hk
 have:=arT_int (n:=n) t.1 t.2.2.1 t.2.2.2.2.1 hn
 show arT _ _ _ n*((n:Rat)*6)≤_
 unfold tSum
 grind
def cmpQ (p q:Rat):Int:=cmp3 (p.num*q.den) (q.num*p.den)
theorem cmpQ_le {p q:Rat} (h:p≤q):cmpQ p q≤0:=by
 have:=(Rat.le_iff p q).1 h
 unfold cmpQ
 rcases Int.lt_or_eq_of_le this with x | x
 ·rw [cmp3_lt x];decide
 ·rw [cmp3_eq x];decide
theorem cmpQ_ge {p q:Rat} (h:q≤p):0≤cmpQ p q:=by
 have:=(Rat.le_iff q p).1 h
 unfold cmpQ
 rcases Int.lt_or_eq_of_le this with x | x
 ·rw [cmp3_gt x];decide
 ·rw [cmp3_eq x.symm];decide
theorem rcmp_q {p q:Rat} (hp:FitsR p) (hq:FitsR q):m24 (((rt p).1,(rt p).2),(rt q).1,(rt q).2)=some (cmpQ p q):=rcmp_ok hp hq
theorem divInt_one (z:Int):Rat.divInt z 1=(z:Rat):=by rw [Rat.divInt_eq_div,show ((1:Int):Rat)=1 from rfl,Rat.div_def];grind
theorem timesQ_ok {D B:Nat} {q:Rat} {n:Int} (hq:Dn D B q) (hD:0<D) (n0:0≤n) (n1:n≤1000) (h2:(1000*B+1)*(D*D)<10 ^ 200):m19 (((rt q).1,(rt q).2),n)=some ((rt (q*(n:Rat))).1,(rt (q*(n:Rat))).2)∧Dn D (B*1000) (q*(n:Rat)):=by
 obtain ⟨a1,a2⟩:=hq.num_den hD
 have hof:m25 (n,1)=some (rt ((n:Int):Rat),0):=by
  have:=of_ok (n:=n) (d:=1) (fits_small (by omega)) (by decide) (by decide)
  rw [this,divInt_one]
 have hB:B*D≤1000*B*(D*D):=by
  have h1:B*D≤B*D*D:=Nat.le_mul_of_pos_right _ hD
  have h3:B*D*D=B*(D*D):=Nat.mul_assoc _ _ _
  have h4:1000*B*(D*D)=1000*(B*(D*D)):=Nat.mul_assoc _ _ _
  omega
 have hDD:D≤D*D:=Nat.le_mul_of_pos_right _ hD
 have e1:(1000*B+1)*(D*D)=1000*B*(D*D)+D*D:=by rw [Nat.add_mul,Nat.one_mul]
 have hf:FitsR q:=hq.fits hD (by omega) (by omega)
 have hmul:m53 (rt q,rt ((n:Int):Rat))=some (rt (q*(n:Rat)),0):=by
  refine rmul_ok hf ⟨fits_small (by show n.natAbs≤_;omega),by show Fits 1;decide⟩ ?_ ?_
  ·show Fits (q.num*n)
   unfold Fits
   rw [Int.natAbs_mul]
   have:q.num.natAbs*n.natAbs≤B*D*1000:=Nat.mul_le_mul a2 (by omega)
   have h3:B*D*1000=1000*(B*D):=Nat.mul_comm _ _
   have h5:1000*(B*D)≤1000*(B*D*D):=Nat.mul_le_mul_left _ (Nat.le_mul_of_pos_right _ hD)
   have h4:1000*B*(D*D)=1000*(B*D*D):=by rw [Nat.mul_assoc,Nat.mul_assoc]
   omega
  ·show Fits ((q.den:Int)*((1:Nat):Int))
   unfold Fits
   rw [Int.natAbs_mul,Int.natAbs_natCast,Int.natAbs_natCast]
   omega
 refine ⟨?_,hq.mul_int (by omega)⟩
 unfold m19
 dsimp only
 rw [hof,Option.bind_some]
 exact bind_of (x:=(rt (q*(n:Rat)),0)) hmul rfl
theorem least_loop {l:List Int} (hl:l.length≤100) (h:∀ x∈l,0≤x∧x≤100):∃ m,loopM (fun (s:Int×Int)=>bif ltM s.2 (lenM l) then (idxM l s.2).bind fun r=>some (Sum.inl (min s.1 r,wrap IntKind.i64 (s.2+1))) else some (Sum.inr s.1)) (100,0)=some m∧∀ x∈l,m≤x:=by
 refine ⟨l.foldl min 100,?_,?_⟩
 ·refine loopM_fn (fun k=>((l.take k).foldl min 100,(k:Int))) l.length (fun k hk=>?_) ?_
  ·dsimp only
   rw [lenL,ltI (by omega),cond_true,idxM_lt hk,Option.bind_some,wrap_in (by omega) (by omega)]
   congr 3
   rw [List.take_add_one,List.getElem?_eq_getElem hk,Option.toList_some,List.foldl_append]
   rfl
  ·dsimp only
   rw [lenL,geI (by omega),cond_false,List.take_length]
 ·have key:∀ (l:List Int) (a:Int),l.foldl min a≤a∧∀ x∈l,l.foldl min a≤x:=by
   intro l
   induction l with
   | nil=>intro a;exact ⟨Int.le_refl _,fun x hx=>by cases hx⟩
   | cons y l ih =>
    intro a
    obtain ⟨h1,h2⟩:=ih (min a y)
    rw [List.foldl_cons]
    refine ⟨by omega,fun x hx=>?_⟩
    rcases List.mem_cons.1 hx with e | e
    ·subst e;omega
    ·exact h2 x e
  exact (key l 100).2
theorem andM_false (b:Bool):PE.andM b false=false:=by cases b<;>rfl
theorem eqs_self (x:List UInt8):eqsM x x=true:=eqsT rfl
theorem mem_row {m:Nat} {v:Nat→Int} {i:Nat} (h:i<m):v i∈row m v:=List.mem_of_getElem? (row_get h)
theorem row_mem {m:Nat} {v:Nat→Int} {x:Int} (h:x∈row m v):∃ i,i<m∧x=v i:=by
 unfold row at h
 obtain ⟨i,hi,e⟩:=List.mem_map.1 h
 exact ⟨i,List.mem_range.1 hi,e.symm⟩
theorem DA_fit2:(1000*144+1)*(DA*DA)<10 ^ 200:=by decide
theorem DA_fit3:(144*1000)*DA<10 ^ 200:=by decide
theorem DA_fit4:DA<10 ^ 200:=by decide
theorem abQ_dn2 {W H:Nat} {v:Nat→Int} (h:OkV W H v) {n:Int} (n0:0≤n) (n1:n≤100):Dn DA 144 (abQ W H v n):=by
 have hWH:H*W≤36:=Nat.mul_le_mul h.h6 h.w6
 exact (abQ_dn h n0 n1 (2*(H*W)) (Nat.le_refl _)).mono (by omega)
theorem dnA_fits {q:Rat} (h:Dn DA 144 q):FitsR q:=h.fits2 (C:=1000) DA_pos (by omega) DA_fit
theorem law6_ok (x:(Int×Int×Int×Int)×(List (Int×Int))×Int×Int) (hw:i64 x.1.1) (hh:i64 x.1.2.1) (h1:∀ p∈x.2.1,i64 p.1∧i64 p.2) (l1:x.2.1.length≤maxLen) (h2:i64 x.2.2.1) (h3:i64 x.2.2.2):m6 x=some true:=by
 obtain ⟨⟨w,h,s2,s3⟩,xs,li,mo⟩:=x
 dsimp only at hw hh h1 l1 h2 h3
 have F:=made_F (w:=w) (h:=h) (size:=6) (most:=100) (x:=xs) (by omega) (by omega) (by omega) (by omega)
 have e1:=made_ok (size:=6) (most:=100) hw hh (by omega) (by omega) (by omega) (by omega) h1 l1
 generalize szF w 6=W at *
 generalize szF h 6=H at *
 generalize loF 100 xs=lo at *
 generalize hiF 100 xs=hi at *
 have h49:=nn_bd F.w6 F.h6
 have w1:=F.w1
 have w6:=F.w6
 have h1':=F.h1
 have h6:=F.h6
 have hWH:H*W≤36:=Nat.mul_le_mul h6 w6
 have hWHi:(W:Int)*H=((H*W:Nat):Int):=by rw [Int.natCast_mul,Int.mul_comm]
 have n0:=pk_lo (c:=li) (n:=101) (by omega)
 have n1:=pk_hi (c:=li) (n:=101) (by omega)
 have p1:=pickL_ok (n:=101) h2 (by omega)
 generalize pk li 101=n at *
 have k0:=pk_lo (c:=mo) (n:=100-n+1) (by omega)
 have k1:=pk_hi (c:=mo) (n:=100-n+1) (by omega)
 have p2:=pickL_ok (n:=100-n+1) h3 (by omega)
 generalize pk mo (100-n+1)=k at *
 obtain ⟨least,hle,hlb⟩:=least_loop (l:=row (nn W H) lo) (by rw [row_length];omega) (fun y hy=>by
  obtain ⟨i,hi1,rfl⟩:=row_mem hy
  have a:=F.l0 i hi1
  have b:=F.lh i hi1
  have c:=F.h9 i hi1
  omega)
 have hleast:∀ i,i<nn W H→least≤lo i:=fun i hi=>hlb _ (mem_row hi)
 have aN:=above_ok F n0 (show n≤100 by omega)
 have aM:=above_ok F (n:=n+k) (by omega) (by omega)
 have aC:=above_ok F (n:=100) (by omega) (by omega)
 rw [abQ_zero F.okLo,abQ_zero F.okHi] at aC
 have iN:=integral_ok F
 have sl:=sT_bd F.okLo (2*(H*W)) (Nat.le_refl _)
 have sh:=sT_bd F.okHi (2*(H*W)) (Nat.le_refl _)
 have dnL:=abQ_dn2 F.okLo n0 (show n≤100 by omega)
 have dnH:=abQ_dn2 F.okHi n0 (show n≤100 by omega)
 have dmL:=dnA_fits (abQ_dn2 F.okLo (n:=n+k) (by omega) (by omega))
 have dmH:=dnA_fits (abQ_dn2 F.okHi (n:=n+k) (by omega) (by omega))
 have mL:=abQ_mono (W:=W) (H:=H) (v:=lo) (v':=lo) (n:=n+k) (n':=n) w1 (fun _ _=>Int.le_refl _) (by omega)
 have mH:=abQ_mono (W:=W) (H:=H) (v:=hi) (v':=hi) (n:=n+k) (n':=n) w1 (fun _ _=>Int.le_refl _) (by omega)
 have bL:=(abQ_bd (W:=W) (H:=H) (v:=lo) (n:=n)).1
 have bH:=(abQ_bd (W:=W) (H:=H) (v:=hi) (n:=n)).2
 have iL:=abQ_int F.okLo n0
 have iH:=abQ_int F.okHi n0
 have fL:n<least→abQ W H lo n=(((W:Int)*(H:Int):Int):Rat):=fun hlt=>abQ_full w1 fun i hi=>by have:=hleast i hi;omega
 have ofz:m25 (0,1)=some (rt 0,0):=by
  have:=of_ok (n:=0) (d:=1) (by decide) (by decide) (by decide)
  rw [this,divInt_one];rfl
 have off:m25 ((W:Int)*H,1)=some (rt (((W:Int)*(H:Int):Int):Rat),0):=by
  have:=of_ok (n:=(W:Int)*H) (d:=1) (fits_small (by omega)) (by decide) (by decide)
  rw [this,divInt_one]
 have ofl:m25 (sT W lo (2*(H*W)),6)=some (rt (Rat.divInt (sT W lo (2*(H*W))) 6),0):=of_ok (fits_small (by omega)) (by decide) (by decide)
 have ofh:m25 (sT W hi (2*(H*W)),6)=some (rt (Rat.divInt (sT W hi (2*(H*W))) 6),0):=of_ok (fits_small (by omega)) (by decide) (by decide)
 have fit6:∀ z:Int,z.natAbs≤21600→FitsR (Rat.divInt z 6):=fun z hz=>Dn.fits (D:=6) (B:=3600) (Dn.of (by decide) (by decide) (by show z.natAbs≤3600*6;omega)) (by decide) (by decide) (by decide)
 have gL:=fit6 _ (show (sT W lo (2*(H*W))).natAbs≤21600 by omega)
 have gH:=fit6 _ (show (sT W hi (2*(H*W))).natAbs≤21600 by omega)
 have fz:FitsR 0:=⟨by decide,by decide⟩
 have ff:FitsR (((W:Int)*(H:Int):Int):Rat):=⟨fits_small (by show ((W:Int)*H).natAbs≤_;omega),by show Fits 1;decide⟩
 obtain ⟨tL,uL⟩:=timesQ_ok (n:=n) dnL DA_pos n0 (by omega) DA_fit2
 obtain ⟨tH,uH⟩:=timesQ_ok (n:=n) dnH DA_pos n0 (by omega) DA_fit2
 have uL:=uL.fits DA_pos DA_fit4 DA_fit3
 have uH:=uH.fits DA_pos DA_fit4 DA_fit3
 have dnL:=dnA_fits dnL
 have dnH:=dnA_fits dnH
 generalize abQ W H lo n=A at *
 generalize abQ W H hi n=B at *
 generalize abQ W H lo (n+k)=C at *
 generalize abQ W H hi (n+k)=E at *
 unfold fd at e1 aN aM aC iN
 unfold m6
 dsimp only
 rw [sane_ok,Option.bind_some,notT,cond_false,e1,Option.bind_some]
 refine bind_of hle ?_
 rw [ofz,Option.bind_some,wrap_in (n:=(W:Int)*H) (by omega) (by omega),off,Option.bind_some,p1,Option.bind_some,wrap_in (n:=100-n) (by omega) (by omega),wrap_in (n:=100-n+1) (by omega) (by omega),p2,Option.bind_some,aN,Option.bind_some,wrap_in (n:=n+k) (by omega) (by omega),aM,Option.bind_some,aC,Option.bind_some,iN,Option.bind_some,ofl,Option.bind_some,ofh,Option.bind_some]
 dsimp only
 rw [eqI rfl,notT,eqs_self,eqs_self,andT,notT,show PE.orM false false=false from rfl,show PE.orM false false=false from rfl,show PE.orM false false=false from rfl,show PE.orM false false=false from rfl,notF,cond_true,rcmp_q dmL dnL,Option.bind_some,geI (cmpQ_le mL),show PE.orM false false=false from rfl,notF,cond_true,rcmp_q dmH dnH,Option.bind_some,geI (cmpQ_le mH),show PE.orM false false=false from rfl,notF,cond_true,rcmp_q dnL fz,Option.bind_some,geI (cmpQ_ge bL),show PE.orM false false=false from rfl,notF,cond_true,rcmp_q dnH ff,Option.bind_some,geI (cmpQ_le bH),show PE.orM false false=false from rfl,cond_false]
 have e5:PE.andM (ltM n least) (PE.notM (PE.andM (eqsM (rt A).1 (rt (((W:Int)*(H:Int):Int):Rat)).1) (eqsM (rt A).2 (rt (((W:Int)*(H:Int):Int):Rat)).2)))=false:=by
  by_cases hlt:n<least
  ·rw [fL hlt,eqs_self,eqs_self,andT,notT,andM_false]
  ·rw [geI (by omega),andF]
 rw [e5,cond_false,tL,Option.bind_some]
 dsimp only
 rw [rcmp_q uL gL,Option.bind_some,leI (cmpQ_le iL),cond_true,tH,Option.bind_some,cond_true,rcmp_q uH gH,Option.bind_some,leI (cmpQ_le iH)]
 rfl
end Go.Proofs.YtechphmljdgoaaaGreatDoor
namespace Go.Proofs.YtechphmljdgoaaaGreatDoor
open Go Go.Abs Go.PE
theorem mem_in {t:Ty} {l:List t.den} (h:InR (.list t) l):∀ x∈l,InR t x:=fun x hx=>by
 obtain ⟨i,hi,rfl⟩:=List.mem_iff_getElem.1 hx
 exact h.2 i _ (List.getElem?_eq_getElem hi)
theorem law6:∀ (S:Cells) (w:World) (η:Eta) (vs:List Value) x,All2 (RM S w η) (rvs as6 x) vs→m6 x=some true :=
 law_of_ok fun x h=>law6_ok x h.1.1 h.1.2.1 (mem_in h.2.1) h.2.1.1 h.2.2.1 h.2.2.2
end Go.Proofs.YtechphmljdgoaaaGreatDoor
