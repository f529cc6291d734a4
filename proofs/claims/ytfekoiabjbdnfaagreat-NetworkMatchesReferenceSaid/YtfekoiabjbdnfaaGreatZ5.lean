/-
 Texts of this proof, put together: PA, PB, PC, PD, Ba, Bb, Bc, Bd, Be, Bf, Bg, Bh, Bi, Bj, Bk, Bl, Bm, Bn, Bo, Bp, Bq, Br, Bt, Bu, Bv, Bw, Bx, By, Bz, BA, BB, BC, BD, BE, Ca, Cb, Cc, Cd, Ce, Cg, Da, Db, Dc, Dd, De, Ea, Eb, Ec, Ed, Ee, Ia, Ib.
 No conditions.
-/
import Derived.Test.YtfekoiabjbdnfaaGreatZ4
import Derived.IntWalk
import Derived.Lib.ItoaNum
import Derived.Lib.AtoiAll
import Derived.Lib.Repeat
import Derived.Lib.SlTrimSet
import Derived.Lib.Strings
set_option linter.all false
namespace Go.PE
def Le {α:Type} (a b:Option α):Prop:=∀ r,a=some r→b=some r
theorem Le.refl {α:Type} (a:Option α):Le a a:=fun _ h=>h
theorem Le.bind {α β:Type} {a a':Option α} {f f':α→Option β} (h:Le a a') (hf:∀ x,Le (f x) (f' x)):Le (Option.bind a f) (Option.bind a' f'):=by
 intro r hr
 cases a with
 | none=>cases hr
 | some x =>
  rw [h x rfl]
  exact hf x r hr
theorem Le.cond {α:Type} {c:Bool} {a a' b b':Option α} (h:Le a a') (h':Le b b'):Le (cond c a b) (cond c a' b'):=by
 cases c
 ·exact h'
 ·exact h
theorem Le.elim {α β γ:Type} {f f':α→Option γ} {g g':β→Option γ} (hf:∀ x,Le (f x) (f' x)) (hg:∀ x,Le (g x) (g' x)) (x:α⊕β):Le (Sum.elim f g x) (Sum.elim f' g' x):=by
 cases x with
 | inl a=>exact hf a
 | inr b=>exact hg b
theorem Le.iter {σ β:Type} {body body':σ→Option (σ⊕β)} (h:∀ s,Le (body s) (body' s)):∀ (n:Nat) (s:σ),Le (iterM body n s) (iterM body' n s)
 | 0,_=>Le.refl _
 | n+1,s=>by
  unfold iterM
  exact Le.bind (h s) fun x=>Le.elim (Le.iter h n) (fun _=>Le.refl _) x
def loopF {σ β:Type} (body:σ→Option (σ⊕β)) (s:σ):Option β:=iterM body 4096 s
theorem Le.loop {σ β:Type} {body body':σ→Option (σ⊕β)} (h:∀ s,Le (body s) (body' s)) (s:σ):Le (loopF body s) (loopM body' s) :=
 fun r hr=>loopM_iff.2 ⟨4096,Le.iter h 4096 s r hr⟩
def nilF {α β:Type} (xs:List α) (a b:Option β):Option β:=match xs with
 | []=>none
 | _::_=>b
theorem Le.nil {α β:Type} {xs:List α} {a a' b b':Option β} (h:Le b b'):Le (nilF xs a b) (nilM xs a' b'):=by
 cases xs with
 | nil=>intro r hr;cases hr
 | cons x xs=>exact h
theorem Le.out {α:Type} {a b:Option α} (h:Le a b) {r:α} (e:a=some r):b=some r:=h r e
attribute [irreducible] Le
end Go.PE
namespace Go.PE
open Go Go.Abs
def InR:(t:Ty)→t.den→Prop
 | .int k,x=>k.has x
 | .bool,_=>True
 | .str,x=>List.length x≤maxLen
 | .list t,xs=>List.length xs≤maxLen∧∀ (i:Nat) (x:t.den),xs[i]? = some x→InR t x
 | .one t,x=>InR t x
 | .pair a b,x=>InR a x.1∧InR b x.2
def OkT:(l:List Ty)→Tup (l.map .d)→Prop
 | [],_=>True
 | [t],x=>InR t x
 | t::u::r,x=>InR t x.1∧OkT (u::r) x.2
section
variable {S:Cells} {w:World} {η:Eta}
theorem Rep.ok:∀ {t:Ty} {x:t.den} {cs:List Value},Rep S w t x cs→InR t x
 | .int _,_,_,h=>h.2
 | .bool,_,_,_=>trivial
 | .str,_,_,h=>h.2
 | .list t,xs,_,h=>by
  obtain ⟨base,cap,rfl,h1,h2,h3⟩:=h
  refine ⟨Nat.le_trans h1 h2,fun i x hx=>?_⟩
  rcases h3 with h3 | ⟨b,off,_,h3⟩
  ·have:xs=[]:=List.length_eq_zero_iff.1 h3
   rw [this] at hx
   cases hx
  ·obtain ⟨es,h4,_⟩:=h3 i x hx
   exact Rep.ok h4
 | .one t,x,cs,h=>by
  have h':Rep S w t x cs:=h
  exact Rep.ok (t:=t) h'
 | .pair a b,x,cs,h=>by
  obtain ⟨c1,c2,rfl,h1,h2⟩:=h
  exact ⟨Rep.ok h1,Rep.ok h2⟩
theorem cv_ok:∀ {t:Ty} {x:t.den} {vs:List Value},All2 (CM S w η) (t.cv x) vs→InR t x
 | .int _,_,_,.cons h .nil=>let ⟨_,a,_⟩:=h.2;Rep.ok a
 | .bool,_,_,_=>trivial
 | .str,_,_,.cons h .nil=>let ⟨_,a,_⟩:=h.2;Rep.ok a
 | .list _,_,_,.cons h .nil=>let ⟨_,a,_⟩:=h.2;Rep.ok a
 | .one t,x,vs,h=>by
  have h':All2 (CM S w η) (t.cv x) vs:=h
  exact cv_ok (t:=t) h'
 | .pair a b,x,vs,h=>by
  have h':All2 (CM S w η) (a.cv x.1++b.cv x.2) vs:=h
  obtain ⟨b1,b2,rfl,h1,h2⟩:=All2.split h'
  exact ⟨cv_ok h1,cv_ok h2⟩
theorem rv_ok {t:Ty} {x:t.den} {v:Value} (h:RM S w η (t.rv x) v):InR t x:=by
 unfold Ty.rv at h
 split at h
 ·obtain ⟨vs,_,h2⟩:=h
  exact cv_ok h2
 ·obtain ⟨_,cs,h2,_⟩:=h
  exact Rep.ok h2
theorem rvs_ok:∀ {l:List Ty} {x:Tup (l.map .d)} {vs:List Value},All2 (RM S w η) (rvs l x) vs→OkT l x
 | [],_,_,_=>trivial
 | [t],x,_,.cons h .nil=>rv_ok h
 | t::u::r,x,_,h=>by
  have h':All2 (RM S w η) (t.rv x.1::rvs (u::r) x.2) _:=h
  cases h' with
  | cons h1 h2=>exact ⟨rv_ok h1,rvs_ok (l:=u::r) h2⟩
end
theorem law_of_ok {args:List Ty} {m:Tup (args.map .d)→Option Bool} (h:∀ x,OkT args x→m x=some true) :
  ∀ (S:Cells) (w:World) (η:Eta) (vs:List Value) x,All2 (RM S w η) (rvs args x) vs→m x=some true:=fun _ _ _ _ x hx=>h x (rvs_ok hx)

theorem wrap_in {n:Int} (h1:-9223372036854775808≤n) (h2:n≤9223372036854775807):IntKind.wrap .i64 n=n:=Go.IntWalk.i64_in n ⟨h1,h2⟩
theorem idxM_nat {α:Type} (xs:List α) (i:Nat):idxM xs (i:Int)=xs[i]? := by
 unfold idxM
 rw [dT (by omega:(0:Int)≤i)]
 simp
theorem idxM_lt {α:Type} {xs:List α} {i:Nat} (h:i<xs.length):idxM xs (i:Int)=some xs[i]:=by
 rw [idxM_nat,List.getElem?_eq_getElem h]
theorem idxM_of {α:Type} {xs:List α} {i:Int} (h0:0≤i) (h:i<xs.length):idxM xs i=some (xs[i.toNat]'(by omega)):=by
 unfold idxM
 rw [dT h0]
 exact List.getElem?_eq_getElem _
theorem chkM_of {i n:Int} (h0:0≤i) (h:i<n):chkM i n=some ():=by
 unfold chkM
 rw [dT h0,dT h]
theorem appM_of {α:Type} {b:Nat} {xs ys:List α} (h:(xs.length+ys.length)*b≤140737488355328):appM b xs ys=some (xs++ys):=by
 unfold appM
 rw [dT h]
theorem mkM_of {α:Type} {n c:Int} {b:Nat} {d:α} (h0:0≤n) (h:n≤c) (hb:c*b≤140737488355328):mkM n c b d=some (List.replicate n.toNat d):=by
 unfold mkM
 rw [dT h0,dT h,dT hb]
theorem setM_of {α:Type} {xs:List α} {i:Int} {f:α→Option α} {y:α} (h0:0≤i) (h:i<xs.length) (hy:f (xs[i.toNat]'(by omega))=some y):setM xs i f=some (xs.set i.toNat y):=by
 unfold setM
 rw [idxM_of h0 h]
 simp only [hy]
theorem sliceM_of {α:Type} {xs:List α} {lo hi:Int} (h0:0≤lo) (h:lo≤hi) (h2:hi≤xs.length):sliceM xs lo hi=some ((xs.take hi.toNat).drop lo.toNat):=by
 unfold sliceM
 rw [dT h0,dT h,dT h2]
theorem sameM_self (i:Int):sameM i i=some ():=by
 unfold sameM
 rw [dT rfl]
theorem loopM_inv {σ β:Type} {body:σ→Option (σ⊕β)} (P:Nat→σ→Prop) (Q:β→Prop) (n:Nat)
  (h:∀ k s,k≤n→P k s→(∃ s',k<n∧body s=some (.inl s')∧P (k+1) s')∨∃ r,body s=some (.inr r)∧Q r) :
  ∀ (m k:Nat) (s:σ),n-k=m→k≤n→P k s→∃ r,loopM body s=some r∧Q r:=by
 intro m
 induction m with
 | zero =>
  intro k s hm hk hP
  rcases h k s hk hP with ⟨s',hlt,_⟩ | ⟨r,h1,h2⟩
  ·omega
  ·exact ⟨r,by rw [loopM_eq,h1];rfl,h2⟩
 | succ m ih =>
  intro k s hm hk hP
  rcases h k s hk hP with ⟨s',hlt,h1,h2⟩ | ⟨r,h1,h2⟩
  ·obtain ⟨r,h3,h4⟩:=ih (k+1) s' (by omega) (by omega) h2
   exact ⟨r,by rw [loopM_eq,h1];exact h3,h4⟩
  ·exact ⟨r,by rw [loopM_eq,h1];rfl,h2⟩
theorem loopM_from {σ β:Type} {body:σ→Option (σ⊕β)} (P:Nat→σ→Prop) (Q:β→Prop) (n:Nat) {s:σ} (h0:P 0 s)
  (h:∀ k s,k≤n→P k s→(∃ s',k<n∧body s=some (.inl s')∧P (k+1) s')∨∃ r,body s=some (.inr r)∧Q r):∃ r,loopM body s=some r∧Q r :=
 loopM_inv P Q n h n 0 s (by omega) (by omega) h0
theorem loopM_fn {σ β:Type} {body:σ→Option (σ⊕β)} (g:Nat→σ) (n:Nat) {r:β} (h:∀ k,k<n→body (g k)=some (.inl (g (k+1)))) (he:body (g n)=some (.inr r)):loopM body (g 0)=some r:=by
 obtain ⟨r',h1,h2⟩:=loopM_from (body:=body) (fun k s=>s=g k) (fun x=>x=r) n (s:=g 0) rfl fun k s hk hs=>by
  subst hs
  by_cases hlt:k<n
  ·exact .inl ⟨_,hlt,h k hlt,rfl⟩
  ·have:k=n:=by omega
   subst this
   exact .inr ⟨r,he,rfl⟩
 rw [h1,h2]
theorem find_loop {α:Type} {xs:List α} (p:α→Bool) {body:Int→Option (Int⊕(Unit⊕Int))}
  (hb:∀ k (hk:k<xs.length),body (k:Int)=some (bif p xs[k] then .inr (.inr (k:Int)) else .inl ((k:Int)+1))) (he:body (xs.length:Int)=some (.inr (.inl ()))) :
  ∃ o,loopM body 0=some o∧((o=.inl ()∧∀ k (hk:k<xs.length),p xs[k]=false)∨∃ k,∃ hk:k<xs.length,o=.inr (k:Int)∧p xs[k]=true∧∀ j (hj:j<k),p (xs[j]'(by omega))=false):=by
 refine loopM_from (fun k s=>s=(k:Int)∧∀ j (hj:j<xs.length),j<k→p xs[j]=false) _ xs.length (s:=0) ⟨rfl,fun j _ hj=>by omega⟩ fun k s hk ⟨hs,hP⟩=>?_
 subst hs
 by_cases hlt:k<xs.length
 ·cases hp:p xs[k] with
  | true=>exact .inr ⟨.inr (k:Int),by rw [hb k hlt,hp];rfl,.inr ⟨k,hlt,rfl,hp,fun j hj=>hP j (by omega) hj⟩⟩
  | false =>
   refine .inl ⟨((k+1:Nat):Int),hlt,by rw [hb k hlt,hp];rfl,rfl,fun j hj hjk=>?_⟩
   by_cases e:j=k
   ·subst e;exact hp
   ·exact hP j hj (by omega)
 ·have:k=xs.length:=by omega
  subst this
  exact .inr ⟨_,he,.inl ⟨rfl,fun j hj=>hP j hj hj⟩⟩
theorem any_loop {α:Type} {xs:List α} (p:α→Bool) {body:Int→Option (Int⊕(Unit⊕Int))}
  (hb:∀ k (hk:k<xs.length),body (k:Int)=some (bif p xs[k] then .inr (.inr (k:Int)) else .inl ((k:Int)+1))) (he:body (xs.length:Int)=some (.inr (.inl ()))) :
  Option.bind (Option.bind (loopM body 0) (fun o=>Sum.elim (fun _=>some (-1:Int)) (fun t=>some t) o)) (fun ov=>some (leM 0 ov))=some (xs.any p):=by
 obtain ⟨o,h1,h2⟩:=find_loop p hb he
 rw [h1]
 rcases h2 with ⟨rfl,h2⟩ | ⟨k,hk,rfl,h2,_⟩
 ·have:xs.any p=false:=by
   rw [List.any_eq_false]
   intro x hx
   obtain ⟨i,hi,rfl⟩:=List.mem_iff_getElem.1 hx
   simp [h2 i hi]
  rw [this]
  rfl
 ·have:xs.any p=true:=List.any_eq_true.2 ⟨_,List.getElem_mem hk,h2⟩
  rw [this]
  show some (decide ((0:Int)≤(k:Int)))=some true
  rw [dT (by omega)]
def row {α:Type} (m:Nat) (g:Nat→α):List α:=(List.range m).map g
def rt {α:Type} (n:Nat) (len:Nat→Nat) (d:Nat→Nat→α):List (List α):=row n fun i=>row (len i) (d i)
def upd {α:Type} (d:Nat→Nat→α) (i j:Nat) (y:α):Nat→Nat→α:=fun a b=>if a=i∧b=j then y else d a b
def upl (len:Nat→Nat) (i m:Nat):Nat→Nat:=fun a=>if a=i then m else len a
section
variable {α:Type}
theorem row_length (m:Nat) (g:Nat→α):(row m g).length=m:=by simp [row]
theorem rt_length (n:Nat) (len:Nat→Nat) (d:Nat→Nat→α):(rt n len d).length=n:=row_length _ _
theorem row_get {m:Nat} {g:Nat→α} {i:Nat} (h:i<m):(row m g)[i]? = some (g i):=by simp [row,h]
theorem row_idx {m:Nat} {g:Nat→α} {i:Nat} (h:i<m):idxM (row m g) (i:Int)=some (g i):=by rw [idxM_nat,row_get h]
theorem rt_idx {n:Nat} {len:Nat→Nat} {d:Nat→Nat→α} {i:Nat} (h:i<n):idxM (rt n len d) (i:Int)=some (row (len i) (d i)):=row_idx h
theorem row_congr {m:Nat} {g g':Nat→α} (h:∀ i,i<m→g i=g' i):row m g=row m g':=by
 unfold row
 exact List.map_congr_left fun i hi=>h i (List.mem_range.1 hi)
theorem rt_congr {n:Nat} {len len':Nat→Nat} {d d':Nat→Nat→α} (hl:∀ i,i<n→len i=len' i) (h:∀ i j,i<n→j<len i→d i j=d' i j):rt n len d=rt n len' d':=by
 refine row_congr fun i hi=>?_
 rw [← hl i hi]
 exact row_congr fun j hj=>h i j hi hj
theorem row_set {m:Nat} {g:Nat→α} {i:Nat} (h:i<m) (y:α):(row m g).set i y=row m fun a=>if a=i then y else g a:=by
 apply List.ext_getElem?
 intro k
 rw [List.getElem?_set]
 by_cases hk:k<m
 ·by_cases e:i=k
  ·subst e
   rw [if_pos rfl,if_pos (by rw [row_length];exact h),row_get h,if_pos rfl]
  ·have e':¬ k=i:=fun x=>e x.symm
   simp [e,e',row_get hk]
 ·have h1:i≠k:=by omega
  rw [if_neg h1,List.getElem?_eq_none (by rw [row_length];omega),List.getElem?_eq_none (by rw [row_length];omega)]
theorem row_succ (m:Nat) (g:Nat→α):row (m+1) g=row m g++[g m]:=by simp [row,List.range_succ]
theorem row_zero (g:Nat→α):row 0 g=[]:=rfl
theorem replicate_row (n:Nat) (y:α):List.replicate n y=row n fun _=>y:=by
 apply List.ext_getElem?
 intro k
 by_cases hk:k<n
 ·rw [row_get hk];simp [hk]
 ·rw [List.getElem?_eq_none (by simp;omega),List.getElem?_eq_none (by rw [row_length];omega)]
theorem rt_app {n:Nat} {len:Nat→Nat} {d:Nat→Nat→α} {i b:Nat} (h:i<n) (hb:(len i+1)*b≤140737488355328) :
  app2M b (rt n len d) (i:Int) [d i (len i)]=some (rt n (upl len i (len i+1)) d):=by
 unfold app2M
 rw [rt_idx h]
 have e:appM b (row (len i) (d i)) [d i (len i)]=some (row (len i+1) (d i)):=by
  rw [appM_of (by rw [row_length];simpa using hb),row_succ]
 simp only [e]
 have ht:((i:Int)).toNat=i:=by omega
 rw [ht]
 unfold rt
 rw [row_set h]
 congr 1
 refine row_congr fun a _=>?_
 unfold upl
 by_cases e:a=i
 ·subst e;simp
 ·simp [e]
theorem rt_set {n:Nat} {len:Nat→Nat} {d:Nat→Nat→α} {i j:Nat} {f:α→Option α} {y:α} (h:i<n) (hj:j<len i) (hy:f (d i j)=some y) :
  set2M (rt n len d) (i:Int) (j:Int) f=some (rt n len (upd d i j y)):=by
 unfold set2M
 rw [rt_idx h]
 have e:setM (row (len i) (d i)) (j:Int) f=some (row (len i) (upd d i j y i)):=by
  unfold setM
  rw [row_idx hj]
  simp only [hy]
  have ht:((j:Int)).toNat=j:=by omega
  rw [ht,row_set hj]
  congr 1
  refine row_congr fun b _=>?_
  unfold upd
  by_cases e:b=j<;>simp [e]
 simp only [e]
 have ht:((i:Int)).toNat=i:=by omega
 rw [ht]
 unfold rt
 rw [row_set h]
 congr 1
 refine row_congr fun a _=>?_
 by_cases e:a=i
 ·subst e;simp
 ·rw [if_neg e]
  refine row_congr fun b _=>?_
  unfold upd
  simp [e]
end
theorem bind_of {α β:Type} {o:Option α} {x:α} {f:α→Option β} {r:Option β} (h:o=some x) (h2:f x=r):Option.bind o f=r:=by
 rw [h];exact h2
theorem loopM_is {σ β:Type} {body:σ→Option (σ⊕β)} {s:σ} {r:β} (P:Nat→σ→Prop) (n:Nat) (h0:P 0 s)
  (h:∀ k s,k≤n→P k s→(∃ s',k<n∧body s=some (.inl s')∧P (k+1) s')∨body s=some (.inr r)):loopM body s=some r:=by
 obtain ⟨r',h1,h2⟩:=loopM_from P (fun x=>x=r) n h0 fun k s hk hP=>by
  rcases h k s hk hP with h | h
  ·exact .inl h
  ·exact .inr ⟨r,h,rfl⟩
 rw [h1,h2]
theorem count_loop {σ β:Type} {body:Int×σ→Option ((Int×σ)⊕β)} (g:Nat→σ) (n:Nat) {r:β} (h:∀ k,k<n→body ((k:Int),g k)=some (.inl ((k:Int)+1,g (k+1)))) (he:body ((n:Int),g n)=some (.inr r)) :
  loopM body ((0:Int),g 0)=some r :=
 loopM_fn (fun k=>((k:Int),g k)) n (fun k hk=>h k hk) he
def Ans {α:Type} (o:Option α) (Q:α→Prop):Prop:=∃ r,o=some r∧Q r
theorem Ans.is {α:Type} {o:Option α} {r:α} (h:Ans o (fun x=>x=r)):o=some r:=by
 obtain ⟨x,h1,h2⟩:=h
 rw [h1,h2]
theorem Ans.of {α:Type} {o:Option α} {r:α} {Q:α→Prop} (h:o=some r) (hQ:Q r):Ans o Q:=⟨r,h,hQ⟩
theorem Ans.some {α:Type} {r:α} {Q:α→Prop} (hQ:Q r):Ans (some r) Q:=⟨r,rfl,hQ⟩
theorem Ans.mono {α:Type} {o:Option α} {P Q:α→Prop} (h:Ans o P) (hQ:∀ x,P x→Q x):Ans o Q:=by
 obtain ⟨x,h1,h2⟩:=h
 exact ⟨x,h1,hQ x h2⟩
theorem Ans.bind {α β:Type} {o:Option α} {f:α→Option β} {P:α→Prop} {Q:β→Prop} (h:Ans o P) (hf:∀ x,P x→Ans (f x) Q):Ans (Option.bind o f) Q:=by
 obtain ⟨x,h1,h2⟩:=h
 rw [h1]
 exact hf x h2
theorem Ans.seq {α β:Type} {o:Option α} {f:α→Option β} {x:α} {Q:β→Prop} (h:o=Option.some x) (hf:Ans (f x) Q):Ans (Option.bind o f) Q:=by
 rw [h]
 exact hf
theorem Ans.cond {α:Type} {c:Bool} {a b:Option α} {Q:α→Prop} (ht:c=true→Ans a Q) (hf:c=false→Ans b Q):Ans (bif c then a else b) Q:=by
 cases c
 ·exact hf rfl
 ·exact ht rfl
def Nxt {σ β:Type} (P:σ→Prop) (Q:β→Prop):σ⊕β→Prop
 | .inl s=>P s
 | .inr r=>Q r
theorem Ans.loop {σ β:Type} {body:σ→Option (σ⊕β)} {s:σ} {Q:β→Prop} (P:Nat→σ→Prop) (n:Nat) (h0:P 0 s)
  (h:∀ k s,k≤n→P k s→Ans (body s) (Nxt (fun s'=>k<n∧P (k+1) s') Q)):Ans (loopM body s) Q:=by
 refine loopM_from P Q n h0 fun k s hk hP=>?_
 obtain ⟨o,h1,h2⟩:=h k s hk hP
 cases o with
 | inl s'=>exact .inl ⟨s',h2.1,h1,h2.2⟩
 | inr r=>exact .inr ⟨r,h1,h2⟩
theorem ltI {a b:Int} (h:a<b):ltM a b=true:=dT h
theorem geI {a b:Int} (h:b≤a):ltM a b=false:=decide_eq_false (by omega)
theorem leI {a b:Int} (h:a≤b):leM a b=true:=dT h
theorem gtI {a b:Int} (h:b<a):leM a b=false:=decide_eq_false (by omega)
theorem eqI {a b:Int} (h:a=b):eqM a b=true:=dT h
theorem neI {a b:Int} (h:a≠b):eqM a b=false:=decide_eq_false h
theorem notT:notM true=false:=rfl
theorem notF:notM false=true:=rfl
theorem orT (b:Bool):orM true b=true:=rfl
theorem orF (b:Bool):orM false b=b:=rfl
theorem andT (b:Bool):andM true b=b:=rfl
theorem andF (b:Bool):andM false b=false:=rfl
def pk (c n:Int):Int:=(if c<0 then -(c+1) else c) % n
theorem pk_lo {c n:Int} (h:0<n):0≤pk c n:=Int.emod_nonneg _ (by omega)
theorem pk_hi {c n:Int} (h:0<n):pk c n<n:=Int.emod_lt_of_pos _ h
theorem remM_of {a b:Int} (ha:0≤a) (hb:0<b):remM a b=some (a % b):=by
 unfold remM
 rw [decide_eq_false (by omega)]
 show some (a.tmod b)=some (a % b)
 rw [Int.tmod_eq_emod_of_nonneg ha]
theorem divM_pos {k:IntKind} {a b:Int} (hb:b≠0):divM k a b=some (k.wrap (a.tdiv b)):=by
 unfold divM
 rw [decide_eq_false hb]
theorem pk_text {c n:Int} (hc:IntKind.i64.has c) (hn:0<n) :
  Option.bind (bif ltM c (0:Int) then some (IntKind.wrap .i64 (negM (IntKind.wrap .i64 (c+(1:Int))))) else some c) (fun (o:Int)=>Option.bind (remM o n) fun (r:Int)=>some r)=some (pk c n):=by
 have hc':-9223372036854775808≤c∧c≤9223372036854775807:=hc
 unfold pk
 by_cases h:c<0
 ·rw [ltI h,cT,oB,if_pos h,wrap_in (n:=c+1) (by omega) (by omega)]
  unfold negM
  rw [wrap_in (by omega) (by omega),remM_of (by omega) hn]
  rfl
 ·rw [geI (by omega),cF,oB,if_neg h,remM_of (by omega) hn]
  rfl
theorem app_row {α:Type} {b m:Nat} {g:Nat→α} (hb:(m+1)*b≤140737488355328):appM b (row m g) [g m]=some (row (m+1) g):=by
 rw [appM_of (by rw [row_length];simpa using hb),row_succ]
theorem app_rowOf {α:Type} {b m:Nat} {g:Nat→α} {y:α} (hy:y=g m) (hb:(m+1)*b≤140737488355328):appM b (row m g) [y]=some (row (m+1) g):=by
 rw [hy,app_row hb]
end Go.PE
namespace Go.Proofs.YtfekoiabjbdnfaaGreat
open Go Go.Abs Go.PE
def bnd (n:Int) (c:Int×Int×Int):Bool:=decide (0≤c.1∧c.1<n∧0≤c.2.1∧c.2.1<n∧-1000000000≤c.2.2∧c.2.2≤1000000000)
def sys (x:Int×List (Int×Int×Int)):Bool:=decide (0≤x.1∧x.1≤16∧x.2.length≤60)&&x.2.all (bnd x.1)
theorem m82_eq {n:Int} (c:Int×Int×Int) (h0:0≤n) (h1:n≤16):m82 (n,c.1,c.2.1,c.2.2)=some (bnd n c):=by
 unfold m82 m79 bnd
 have e:∀ a:Int,decide (a≤n-1)=decide (a<n):=fun a=>by
  by_cases h:a<n
  ·rw [dT h,dT (by omega)]
  ·rw [decide_eq_false h,decide_eq_false (by omega)]
 simp only [oB,wrap_in (n:=n-1) (by omega) (by omega),Bool.decide_and,leM,e]
 generalize decide ((0:Int)≤c.1)=p1
 generalize decide (c.1<n)=p2
 generalize decide ((0:Int)≤c.2.1)=p3
 generalize decide (c.2.1<n)=p4
 generalize decide ((-1000000000:Int)≤c.2.2)=p5
 generalize decide (c.2.2≤(1000000000:Int))=p6
 cases p1<;>cases p2<;>cases p3<;>cases p4<;>cases p5<;>cases p6<;>rfl
theorem m58_eq (x:Int×List (Int×Int×Int)):m58 x=some (sys x):=by
 unfold m58 m79
 simp only [oB]
 by_cases h:0≤x.1∧x.1≤16∧x.2.length≤60
 ·obtain ⟨h0,h1,h2⟩:=h
  have e1:PE.andM (leM (0:Int) x.1) (leM x.1 (16:Int))=true:=by simp [PE.andM,h0,h1]
  have e2:leM (lenM x.2) (60:Int)=true:=dT (by show (x.2.length:Int)≤60;omega)
  rw [e1,e2]
  simp only [PE.andM,Bool.and_self,cT,Bool.true_and]
  rw [any_loop (xs:=x.2) (fun c=>!bnd x.1 c)]
  ·simp [PE.notM,sys,h0,h1,h2,List.all_eq_not_any_not]
  ·intro k hk
   have:ltM (k:Int) (lenM x.2)=true:=dT (by show (k:Int)<(x.2.length:Int);omega)
   rw [this,cT,idxM_lt hk,oB,m82_eq _ h0 h1,oB,wrap_in (by omega) (by omega)]
   unfold PE.notM
   cases bnd x.1 x.2[k]<;>rfl
  ·have:ltM (x.2.length:Int) (lenM x.2)=false:=by simp
   rw [this];rfl
 ·have e1:PE.andM (PE.andM (leM (0:Int) x.1) (leM x.1 (16:Int))) (leM (lenM x.2) (60:Int))=false:=by
   simp only [PE.andM,Bool.and_eq_false_iff]
   by_cases a:0≤x.1<;>by_cases b:x.1≤16<;>simp [a,b,leM,lenM] at h ⊢;omega
  rw [e1]
  simp [PE.andM,sys,h]
theorem m61_eq {a b:Int}:m61 (a,b)=some (if a=1152921504606846976∨b=1152921504606846976 then 1152921504606846976 else IntKind.wrap .i64 (a+b)):=by
 unfold m61
 by_cases h:a=1152921504606846976<;>by_cases h':b=1152921504606846976<;>simp [h,h',PE.orM,eqM]
def d0 (i j:Nat):Int:=if i=j then 0 else 1152921504606846976
theorem m113_eq (i j:Nat):m113 ((i:Int),(j:Int))=some (d0 i j):=by
 unfold m113 d0
 by_cases h:i=j
 ·subst h;simp [eqM]
 ·have:¬ ((i:Int)=(j:Int)):=by omega
  simp [eqM,h,this]
theorem lt_true {a b:Int} (h:a<b):ltM a b=true:=dT h
theorem lt_false {a b:Int} (h:¬ a<b):ltM a b=false:=decide_eq_false h
theorem none_rows {n:Nat} (hn:n≤16) {i:Nat} (hi:i<n) :
  loopM (fun (s_1:Int×List (List Int)) =>
   bif ltM s_1.1 (n:Int) then
    Option.bind (chkM (i:Int) (lenM s_1.2)) fun (r_1:Unit) =>
     Option.bind (chkM (i:Int) (lenM s_1.2)) fun (r_2:Unit) =>
      Option.bind (m113 ((i:Int),s_1.1)) fun (r_3:Int) =>
       Option.bind (app2M (nat_lit 8) s_1.2 (i:Int) [r_3]) fun (r_4:List (List Int)) =>
        Option.bind (chkM (i:Int) (lenM r_4)) fun (r_5:Unit) =>
         Option.bind
          (Option.bind (sameM (i:Int) (i:Int)) fun (x:Unit) =>
           Option.bind (sameM (i:Int) (i:Int)) fun (x:Unit)=>chkM (i:Int) (lenM r_4))
          fun (r:Unit)=>some (Sum.inl (IntKind.wrap .i64 (s_1.1+(1:Int)),r_4))
   else some (Sum.inr s_1.2)) ((0:Int),rt n (fun a=>if a<i then n else 0) d0)=some (rt n (fun a=>if a<i+1 then n else 0) d0):=by
 have e0:rt n (fun a=>if a<i then n else 0) d0=rt n (fun a=>if a<i then n else if a=i then 0 else 0) d0:=rt_congr (fun a _=>by simp) fun _ _ _ _=>rfl
 rw [e0]
 refine count_loop (fun j=>rt n (fun a=>if a<i then n else if a=i then j else 0) d0) n (fun j hj=>?_) ?_
 ·have hl:∀ (len:Nat→Nat),chkM (i:Int) (lenM (rt n len d0))=some ():=fun len=>chkM_of (by omega) (by show (i:Int)<((rt n len d0).length:Int);rw [rt_length];omega)
  simp only [lt_true (a:=(j:Int)) (b:=(n:Int)) (by omega),cT,hl,oB,m113_eq,sameM_self]
  have hj':(if i<i then n else if i=i then j else 0)=j:=by simp
  have hap:=rt_app (n:=n) (len:=fun a=>if a<i then n else if a=i then j else 0) (d:=d0) (i:=i) (b:=8) hi (by simp;omega)
  rw [hj'] at hap
  rw [hap,oB,hl,oB,oB,wrap_in (by omega) (by omega)]
  congr 3
  refine rt_congr (fun a _=>?_) fun _ _ _ _=>rfl
  unfold upl
  by_cases e:a=i<;>simp [e]
 ·simp only [lt_false (a:=(n:Int)) (b:=(n:Int)) (by omega),cF]
  congr 2
  refine rt_congr (fun a _=>?_) fun _ _ _ _=>rfl
  by_cases e:a<i
  ·rw [if_pos e,if_pos (by omega)]
  ·by_cases e':a=i
   ·rw [if_neg e,if_pos e',if_pos (by omega)]
   ·rw [if_neg e,if_neg e',if_neg (by omega)]
theorem none_loop {n:Nat} (hn:n≤16):loopM
    (fun (s:Int×List (List Int)) =>
     bif ltM s.1 (n:Int) then
      Option.bind
       (loopM
        (fun (s_1:Int×List (List Int)) =>
         bif ltM s_1.1 (n:Int) then
          Option.bind (chkM s.1 (lenM s_1.2)) fun (r_1:Unit) =>
           Option.bind (chkM s.1 (lenM s_1.2)) fun (r_2:Unit) =>
            Option.bind (m113 (s.1,s_1.1)) fun (r_3:Int) =>
             Option.bind (app2M (nat_lit 8) s_1.2 s.1 [r_3]) fun (r_4:List (List Int)) =>
              Option.bind (chkM s.1 (lenM r_4)) fun (r_5:Unit) =>
               Option.bind
                (Option.bind (sameM s.1 s.1) fun (x:Unit) =>
                 Option.bind (sameM s.1 s.1) fun (x:Unit)=>chkM s.1 (lenM r_4))
                fun (r:Unit)=>some (Sum.inl (IntKind.wrap .i64 (s_1.1+(1:Int)),r_4))
         else some (Sum.inr s_1.2))
        ((0:Int),s.2))
       fun (o:List (List Int))=>some (Sum.inl (IntKind.wrap .i64 (s.1+(1:Int)),o))
     else some (Sum.inr s.2))
    ((0:Int),List.replicate ((n:Int)).toNat ([]:List Int))=some (rt n (fun _=>n) d0):=by
 have e0:List.replicate ((n:Int)).toNat ([]:List Int)=rt n (fun a=>if a<0 then n else 0) d0:=by
  have ht:((n:Int)).toNat=n:=by omega
  rw [ht,replicate_row]
  exact row_congr fun i _=>rfl
 rw [e0]
 refine count_loop (fun i=>rt n (fun a=>if a<i then n else 0) d0) n (r:=rt n (fun _=>n) d0) (fun i hi=>?_) ?_
 ·simp only [lt_true (a:=(i:Int)) (b:=(n:Int)) (by omega),cT]
  rw [none_rows hn hi,oB,wrap_in (by omega) (by omega)]
 ·simp only [lt_false (a:=(n:Int)) (b:=(n:Int)) (by omega),cF]
  congr 2
  exact rt_congr (fun a ha=>if_pos ha) fun _ _ _ _=>rfl
theorem none_make {n:Nat} (hn:n≤16):mkM (n:Int) (n:Int) (nat_lit 24) ([]:List Int)=some (List.replicate ((n:Int)).toNat []) :=
 mkM_of (by omega) (by omega) (by show (n:Int)*24≤140737488355328;omega)
theorem none_table {n:Nat} (hn:n≤16):m83 (n:Int)=some (rt n (fun _=>n) d0):=by
 unfold m83
 exact bind_of (none_make hn) (bind_of (none_loop hn) rfl)
abbrev Tab:=Nat→Nat→Int
def addB (d:Tab) (c:Int×Int×Int):Tab:=upd d c.1.toNat c.2.1.toNat (min (d c.1.toNat c.2.1.toNat) c.2.2)
def pl (a b:Int):Int:=if a=1152921504606846976∨b=1152921504606846976 then 1152921504606846976 else IntKind.wrap .i64 (a+b)
def cell (k:Nat) (rk:Nat→Int) (i j:Nat) (d:Tab):Tab:=upd d i j (min (d i j) (pl (d i k) (rk j)))
def cells (k:Nat) (rk:Nat→Int) (i:Nat) (d:Tab):Nat→Tab
 | 0=>d
 | j+1=>cell k rk i j (cells k rk i d j)
def rows (n k:Nat) (rk:Nat→Int) (d:Tab):Nat→Tab
 | 0=>d
 | i+1=>cells k rk i (rows n k rk d i) n
def rounds (n:Nat) (d:Tab):Nat→Tab
 | 0=>d
 | k+1=>rows n k (rounds n d k k) (rounds n d k) n
def fw (n:Nat) (bs:List (Int×Int×Int)):Tab:=rounds n (bs.foldl addB d0) n
theorem chk_rt {n:Nat} {len:Nat→Nat} {d:Tab} {i:Nat} (hi:i<n):chkM (i:Int) (lenM (rt n len d))=some () :=
 chkM_of (by omega) (by show (i:Int)<((rt n len d).length:Int);rw [rt_length];omega)
theorem chk_row {m:Nat} {g:Nat→Int} {i:Nat} (hi:i<m):chkM (i:Int) (lenM (row m g))=some () :=
 chkM_of (by omega) (by show (i:Int)<((row m g).length:Int);rw [row_length];omega)
theorem bnd_of {n:Nat} {c:Int×Int×Int} (h:bnd (n:Int) c=true):∃ a b:Nat,a<n∧b<n∧c.1=a∧c.2.1=b∧-1000000000≤c.2.2∧c.2.2≤1000000000:=by
 have h:=of_decide_eq_true h
 exact ⟨c.1.toNat,c.2.1.toNat,by omega,by omega,by omega,by omega,by omega,by omega⟩
theorem foldl_take {α β:Type} (f:β→α→β) (z:β) (xs:List α) (k:Nat) (h:k<xs.length):(xs.take (k+1)).foldl f z=f ((xs.take k).foldl f z) xs[k]:=by
 rw [List.take_succ_eq_append_getElem h,List.foldl_append]
 rfl
theorem bounds_loop {n:Nat} (hn:n≤16) {bs:List (Int×Int×Int)} (hl:bs.length≤60) (hb:bs.all (bnd (n:Int))=true) :
  loopM
      (fun (s:Int×List (List Int)) =>
       bif ltM s.1 (lenM bs) then
        Option.bind (idxM bs s.1) fun (r_1:Int×Int×Int) =>
         Option.bind (chkM r_1.1 (lenM s.2)) fun (r_2:Unit) =>
          Option.bind (chkM r_1.1 (lenM s.2)) fun (r_3:Unit) =>
           Option.bind (chkM r_1.1 (lenM s.2)) fun (r_4:Unit) =>
            Option.bind (chkM r_1.1 (lenM s.2)) fun (r_5:Unit) =>
             Option.bind (Option.bind (idxM s.2 r_1.1) fun (xs:List Int)=>chkM r_1.2.1 (lenM xs))
              fun (r_6:Unit) =>
              Option.bind
               (Option.bind (idxM s.2 r_1.1) fun (xs:List Int) =>
                Option.bind (idxM xs r_1.2.1) fun (x:Int)=>some x)
               fun (r_7:Int) =>
               Option.bind (Option.bind (idxM s.2 r_1.1) fun (xs:List Int)=>chkM r_1.2.1 (lenM xs))
                fun (r_8:Unit) =>
                Option.bind (set2M s.2 r_1.1 r_1.2.1 fun (x:Int)=>some (min r_7 r_1.2.2))
                 fun (r:List (List Int)) =>
                 some (Sum.inl (IntKind.wrap .i64 (s.1+(1:Int)),r))
       else some (Sum.inr s.2))
      ((0:Int),rt n (fun _=>n) d0)=some (rt n (fun _=>n) (bs.foldl addB d0)):=by
 refine count_loop (fun k=>rt n (fun _=>n) ((bs.take k).foldl addB d0)) bs.length (fun k hk=>?_) ?_
 ·obtain ⟨a,b,ha,hb',e1,e2,_,_⟩:=bnd_of (List.all_eq_true.1 hb _ (List.getElem_mem hk))
  simp only [lt_true (a:=(k:Int)) (b:=lenM bs) (by show (k:Int)<(bs.length:Int);omega),cT,idxM_lt hk,oB,e1,e2,chk_rt ha,rt_idx ha,chk_row hb',row_idx hb']
  rw [rt_set (y:=min ((bs.take k).foldl addB d0 a b) bs[k].2.2) ha hb' rfl,oB,wrap_in (by omega) (by omega),foldl_take addB d0 bs k hk]
  have e:addB ((bs.take k).foldl addB d0) bs[k]=upd ((bs.take k).foldl addB d0) a b (min ((bs.take k).foldl addB d0 a b) bs[k].2.2):=by
   unfold addB
   rw [e1,e2]
   rfl
  rw [e]
 ·simp only [lt_false (a:=(bs.length:Int)) (b:=lenM bs) (by show ¬ (bs.length:Int)<(bs.length:Int);omega),cF,List.take_length]
theorem m61_pl (a b:Int):m61 (a,b)=some (pl a b):=m61_eq
theorem copy_row {n:Nat} {g:Nat→Int}:copyM (List.replicate ((n:Int)).toNat (0:Int)) (row n g)=row n g:=by
 unfold copyM
 have ht:((n:Int)).toNat=n:=by omega
 rw [ht,List.take_of_length_le (by simp [row_length]),List.drop_eq_nil_of_le (by simp [row_length]),List.append_nil]
theorem cells_loop {n:Nat} (hn:n≤16) {k i:Nat} (hk:k<n) (hi:i<n) (rk:Nat→Int) (d:Tab) :
  loopM
                   (fun (s_2:Int×List (List Int)) =>
                    bif ltM s_2.1 (n:Int) then
                     Option.bind (chkM (i:Int) (lenM s_2.2)) fun (r_5:Unit) =>
                      Option.bind (chkM (i:Int) (lenM s_2.2)) fun (r_6:Unit) =>
                       Option.bind (chkM (i:Int) (lenM s_2.2)) fun (r_7:Unit) =>
                        Option.bind (chkM (i:Int) (lenM s_2.2)) fun (r_8:Unit) =>
                         Option.bind
                          (Option.bind (idxM s_2.2 (i:Int)) fun (xs:List Int) =>
                           chkM s_2.1 (lenM xs))
                          fun (r_9:Unit) =>
                          Option.bind
                           (Option.bind (idxM s_2.2 (i:Int)) fun (xs:List Int) =>
                            Option.bind (idxM xs s_2.1) fun (x:Int)=>some x)
                           fun (r_10:Int) =>
                           Option.bind (chkM (i:Int) (lenM s_2.2)) fun (r_11:Unit) =>
                            Option.bind (chkM (i:Int) (lenM s_2.2)) fun (r_12:Unit) =>
                             Option.bind
                              (Option.bind (idxM s_2.2 (i:Int)) fun (xs:List Int) =>
                               chkM (k:Int) (lenM xs))
                              fun (r_13:Unit) =>
                              Option.bind
                               (Option.bind (idxM s_2.2 (i:Int)) fun (xs:List Int) =>
                                Option.bind (idxM xs (k:Int)) fun (x:Int)=>some x)
                               fun (r_14:Int) =>
                               Option.bind (chkM s_2.1 (lenM (copyM (List.replicate ((n:Int)).toNat (0:Int)) (row n rk))))
                                fun (r_15:Unit) =>
                                Option.bind (idxM (copyM (List.replicate ((n:Int)).toNat (0:Int)) (row n rk)) s_2.1)
                                 fun (r_16:Int) =>
                                 Option.bind (m61 (r_14,r_16)) fun (r_17:Int) =>
                                  Option.bind
                                   (Option.bind (idxM s_2.2 (i:Int))
                                    fun (xs:List Int)=>chkM s_2.1 (lenM xs))
                                   fun (r_18:Unit) =>
                                   Option.bind
                                    (set2M s_2.2 (i:Int) s_2.1 fun (x:Int) =>
                                     some (min r_10 r_17))
                                    fun (r:List (List Int)) =>
                                    some
                                     (Sum.inl
                                      (IntKind.wrap .i64 (s_2.1+(1:Int)),
                                       r))
                    else some (Sum.inr s_2.2))
                   ((0:Int),rt n (fun _=>n) d)=some (rt n (fun _=>n) (cells k rk i d n)):=by
 refine count_loop (fun j=>rt n (fun _=>n) (cells k rk i d j)) n (fun j hj=>?_) ?_
 ·simp only [lt_true (a:=(j:Int)) (b:=(n:Int)) (by omega),cT,oB,copy_row,chk_rt hi,rt_idx hi,chk_row hj,row_idx hj,chk_row hk,row_idx hk,m61_pl]
  rw [rt_set (y:=min (cells k rk i d j i j) (pl (cells k rk i d j i k) (rk j))) hi hj rfl,oB,wrap_in (by omega) (by omega)]
  rfl
 ·simp only [lt_false (a:=(n:Int)) (b:=(n:Int)) (by omega),cF]
def ovl (d:Tab):Nat→Bool
 | 0=>false
 | i+1=>ovl d i||decide (d i i<0)
theorem ovl_iff (d:Tab):∀ n,ovl d n=true↔∃ i,i<n∧d i i<0
 | 0=>by simp [ovl]
 | n+1=>by
  simp only [ovl,Bool.or_eq_true,decide_eq_true_eq,ovl_iff d n]
  constructor
  ·rintro (⟨i,h1,h2⟩ | h)
   ·exact ⟨i,by omega,h2⟩
   ·exact ⟨n,by omega,h⟩
  ·rintro ⟨i,h1,h2⟩
   by_cases e:i=n
   ·subst e;exact .inr h2
   ·exact .inl ⟨i,by omega,h2⟩
theorem diag_loop {n:Nat} (hn:n≤16) (d:Tab) :
  loopM
        (fun (s:Int) =>
         bif ltM s (n:Int) then
          Option.bind (chkM s (lenM (rt n (fun _=>n) d))) fun (r_1:Unit) =>
           Option.bind (chkM s (lenM (rt n (fun _=>n) d))) fun (r_2:Unit) =>
            Option.bind (Option.bind (idxM (rt n (fun _=>n) d) s) fun (xs:List Int)=>chkM s (lenM xs))
             fun (r_3:Unit) =>
             Option.bind
              (Option.bind (idxM (rt n (fun _=>n) d) s) fun (xs:List Int) =>
               Option.bind (idxM xs s) fun (x:Int)=>some x)
              fun (r:Int) =>
              bif ltM r (0:Int) then some (Sum.inr (Sum.inr false))
              else some (Sum.inl (IntKind.wrap .i64 (s+(1:Int))))
         else some (Sum.inr (Sum.inl ())))
        (0:Int)=some (bif ovl d n then Sum.inr false else Sum.inl ()):=by
 refine loopM_is (fun k (s:Int)=>s=(k:Int)∧ovl d k=false) n ⟨rfl,rfl⟩ fun k s hk ⟨hs,hP⟩=>?_
 subst hs
 by_cases hlt:k<n
 ·simp only [lt_true (a:=(k:Int)) (b:=(n:Int)) (by omega),cT,oB,chk_rt hlt,rt_idx hlt,chk_row hlt,row_idx hlt]
  by_cases hd:d k k<0
  ·refine .inr ?_
   rw [lt_true hd,cT,(ovl_iff d n).2 ⟨k,hlt,hd⟩]
   rfl
  ·refine .inl ⟨((k+1:Nat):Int),hlt,by rw [lt_false hd,cF,wrap_in (by omega) (by omega)];rfl,rfl,?_⟩
   simp [ovl,hP,hd]
 ·have e:k=n:=by omega
  subst e
  refine .inr ?_
  rw [lt_false (by omega),cF,hP]
  rfl
theorem m59_eq {n:Nat} (hn:n≤16) {bs:List (Int×Int×Int)} (hl:bs.length≤60) (hb:bs.all (bnd (n:Int))=true) :
  m59 ((n:Int),bs)=some (bif ovl (fw n bs) n then ([],false) else (rt n (fun _=>n) (fw n bs),true)):=by
 unfold m59
 dsimp only
 refine bind_of (none_make hn) (bind_of (none_loop hn) (bind_of (bounds_loop hn hl hb) ?_))
 refine bind_of (x:=rt n (fun _=>n) (fw n bs)) (count_loop (fun k=>rt n (fun _=>n) (rounds n (bs.foldl addB d0) k)) n (fun k hk=>?_) ?_) ?_
 ·simp only [lt_true (a:=(k:Int)) (b:=(n:Int)) (by omega),cT]
  refine bind_of (mkM_of (by omega) (by omega) (by show (n:Int)*8≤140737488355328;omega)) ?_
  simp only [chk_rt hk,oB,rt_idx hk]
  refine bind_of (count_loop (fun i=>rt n (fun _=>n) (rows n k (rounds n (bs.foldl addB d0) k k) (rounds n (bs.foldl addB d0) k) i)) n (r:=rt n (fun _=>n) (rounds n (bs.foldl addB d0) (k+1))) (fun i hi=>?_) ?_) ?_
  ·simp only [lt_true (a:=(i:Int)) (b:=(n:Int)) (by omega),cT]
   refine bind_of (cells_loop hn hk hi _ _) ?_
   rw [wrap_in (by omega) (by omega)]
   rfl
  ·simp only [lt_false (a:=(n:Int)) (b:=(n:Int)) (by omega),cF]
   rfl
  ·rw [wrap_in (by omega) (by omega)]
 ·simp only [lt_false (a:=(n:Int)) (b:=(n:Int)) (by omega),cF]
  rfl
 ·refine bind_of (diag_loop hn _) ?_
  cases ovl (fw n bs) n<;>rfl
theorem m54_eq (x:Int×List (Int×Int×Int)):m54 x=some (bif sys x&&!ovl (fw x.1.toNat x.2) x.1.toNat then (rt x.1.toNat (fun _=>x.1.toNat) (fw x.1.toNat x.2),0) else ([],90)):=by
 unfold m54
 rw [show (x.1,x.2)=x from rfl,m58_eq,oB]
 cases h:sys x with
 | false=>rfl
 | true =>
  have h':=h
  unfold sys at h'
  rw [Bool.and_eq_true] at h'
  obtain ⟨h1,h2⟩:=h'
  have h1:=of_decide_eq_true h1
  have e:x=(((x.1.toNat:Nat):Int),x.2):=by
   have:x.1=((x.1.toNat:Nat):Int):=by omega
   rw [← this]
  have e2:=m59_eq (n:=x.1.toNat) (bs:=x.2) (by omega) (by omega) (by
   have:((x.1.toNat:Nat):Int)=x.1:=by omega
   rw [this];exact h2)
  rw [← e] at e2
  simp only [PE.notM,Bool.not_true,cF]
  rw [e2,oB]
  cases ovl (fw x.1.toNat x.2) x.1.toNat<;>rfl
inductive Wk (bs:List (Int×Int×Int)):Nat→Nat→Int→Prop
 | nil (i:Nat):Wk bs i i 0
 | snoc {i a b:Nat} {w m:Int}:Wk bs i a w→((a:Int),(b:Int),m)∈bs→Wk bs i b (w+m)
theorem Wk.trans {bs:List (Int×Int×Int)} {i j k:Nat} {v w:Int} (h:Wk bs i j v) (h2:Wk bs j k w):Wk bs i k (v+w):=by
 induction h2 with
 | nil=>simpa using h
 | snoc _ hm ih=>rw [← Int.add_assoc];exact ih.snoc hm
def Ent (bs:List (Int×Int×Int)) (B:Int) (i j:Nat) (x:Int):Prop:=x=1152921504606846976∨(-B≤x∧x≤B∧Wk bs i j x)
theorem Ent.mono {bs:List (Int×Int×Int)} {B B':Int} {i j:Nat} {x:Int} (hB:B≤B') (h:Ent bs B i j x):Ent bs B' i j x:=by
 rcases h with h | ⟨h1,h2,h3⟩
 ·exact .inl h
 ·exact .inr ⟨by omega,by omega,h3⟩
theorem Ent.pl {bs:List (Int×Int×Int)} {A B:Int} {i k j:Nat} {x y:Int} (hA:A+B≤1000000000000000000) (h:Ent bs A i k x) (h2:Ent bs B k j y):Ent bs (A+B) i j (pl x y):=by
 unfold Go.Proofs.YtfekoiabjbdnfaaGreat.pl
 by_cases e:x=1152921504606846976∨y=1152921504606846976
 ·rw [if_pos e];exact .inl rfl
 ·rw [if_neg e]
  rcases h with h | ⟨h1,h3,h4⟩
  ·exact absurd (.inl h) e
  ·rcases h2 with h2 | ⟨h5,h6,h7⟩
   ·exact absurd (.inr h2) e
   ·rw [wrap_in (by omega) (by omega)]
    exact .inr ⟨by omega,by omega,h4.trans h7⟩
theorem Ent.min {bs:List (Int×Int×Int)} {B:Int} {i j:Nat} {x y:Int} (h:Ent bs B i j x) (h2:Ent bs B i j y):Ent bs B i j (min x y):=by
 by_cases e:x≤y
 ·rw [Int.min_eq_left e];exact h
 ·rw [Int.min_eq_right (by omega)];exact h2
theorem cells_ent {bs:List (Int×Int×Int)} {B:Int} {n k i:Nat} {rk:Nat→Int} {d:Tab} (hB0:0≤B) (hB:3*B≤1000000000000000000) (hr:∀ j,j<n→Ent bs B k j (rk j)) (hk:k<n) (hd:∀ j,j<n→Ent bs B i j (d i j)) :
  ∀ m,m≤n→(∀ j,j<n→Ent bs (3*B) i j (cells k rk i d m i j))∧Ent bs (2*B) i k (cells k rk i d m i k)∧(m≤k→Ent bs B i k (cells k rk i d m i k))
 | 0,_=>⟨fun j hj=>(hd j hj).mono (by omega),(hd k hk).mono (by omega),fun _=>hd k hk⟩
 | m+1,hm=>by
  obtain ⟨h1,h2,h3⟩:=cells_ent hB0 hB hr hk hd m (by omega)
  have hv:Ent bs (3*B) i m (min (cells k rk i d m i m) (pl (cells k rk i d m i k) (rk m))) :=
   (h1 m (by omega)).min ((Ent.pl (A:=2*B) (by omega) h2 (hr m (by omega))).mono (by omega))
  refine ⟨fun j hj=>?_,?_,fun hmk=>?_⟩
  ·show Ent bs (3*B) i j (upd _ i m _ i j)
   unfold upd
   by_cases e:j=m
   ·subst e;rw [if_pos ⟨rfl,rfl⟩];exact hv
   ·rw [if_neg fun h=>e h.2];exact h1 j hj
  ·show Ent bs (2*B) i k (upd _ i m _ i k)
   unfold upd
   by_cases e:k=m
   ·subst e
    rw [if_pos ⟨rfl,rfl⟩]
    exact ((h3 (by omega)).mono (by omega)).min ((Ent.pl (A:=B) (by omega) (h3 (by omega)) (hr k hk)).mono (by omega))
   ·rw [if_neg fun h=>e h.2];exact h2
  ·show Ent bs B i k (upd _ i m _ i k)
   unfold upd
   rw [if_neg fun h=>by omega]
   exact h3 (by omega)
theorem cells_other {k:Nat} {rk:Nat→Int} {i:Nat} {d:Tab} {a b:Nat} (ha:a≠i):∀ m,cells k rk i d m a b=d a b
 | 0=>rfl
 | m+1=>by
  show upd _ i m _ a b=_
  unfold upd
  rw [if_neg fun h=>ha h.1]
  exact cells_other ha m
def EntT (bs:List (Int×Int×Int)) (B:Int) (n:Nat) (d:Tab):Prop:=∀ i j,i<n→j<n→Ent bs B i j (d i j)
theorem rows_ent {bs:List (Int×Int×Int)} {B:Int} {n k:Nat} {rk:Nat→Int} {d:Tab} (hB0:0≤B) (hB:3*B≤1000000000000000000) (hr:∀ j,j<n→Ent bs B k j (rk j)) (hk:k<n) (hd:EntT bs B n d) :
  ∀ m,m≤n→EntT bs (3*B) n (rows n k rk d m)∧∀ i j,m≤i→rows n k rk d m i j=d i j
 | 0,_=>⟨fun i j hi hj=>(hd i j hi hj).mono (by omega),fun _ _ _=>rfl⟩
 | m+1,hm=>by
  obtain ⟨h1,h2⟩:=rows_ent hB0 hB hr hk hd m (by omega)
  refine ⟨fun i j hi hj=>?_,fun i j hi=>?_⟩
  ·show Ent bs (3*B) i j (cells k rk m (rows n k rk d m) n i j)
   by_cases e:i=m
   ·subst e
    exact (cells_ent hB0 hB hr hk (fun j hj=>by rw [h2 i j (Nat.le_refl _)];exact hd i j hi hj) n (Nat.le_refl _)).1 j hj
   ·rw [cells_other e];exact h1 i j hi hj
  ·show cells k rk m (rows n k rk d m) n i j=_
   rw [cells_other (by omega),h2 i j (by omega)]
theorem d0_ent {bs:List (Int×Int×Int)} {n:Nat}:EntT bs 1000000000 n d0:=by
 intro i j _ _
 unfold d0
 by_cases e:i=j
 ·subst e;rw [if_pos rfl];exact .inr ⟨by omega,by omega,.nil i⟩
 ·rw [if_neg e];exact .inl rfl
theorem bounds_ent {n:Nat} {bs:List (Int×Int×Int)}:∀ (cs:List (Int×Int×Int)) (d:Tab),(∀ c∈cs,c∈bs∧bnd (n:Int) c=true)→EntT bs 1000000000 n d→EntT bs 1000000000 n (cs.foldl addB d)
 | [],d,_,h=>h
 | c::cs,d,hc,h=>by
  refine bounds_ent cs (addB d c) (fun c' h'=>hc c' (List.mem_cons_of_mem _ h')) ?_
  obtain ⟨hm,hb⟩:=hc c (List.mem_cons_self ..)
  obtain ⟨a,b,ha,hb',e1,e2,e3,e4⟩:=bnd_of hb
  intro i j hi hj
  unfold addB upd
  have ha':c.1.toNat=a:=by omega
  have hb'':c.2.1.toNat=b:=by omega
  rw [ha',hb'']
  by_cases e:i=a∧j=b
  ·rw [if_pos e]
   obtain ⟨rfl,rfl⟩:=e
   refine (h i j hi hj).min (.inr ⟨e3,e4,?_⟩)
   have hw:Wk bs i j (0+c.2.2):=(Wk.nil i).snoc (by rw [← e1,← e2];exact hm)
   simpa using hw
  ·rw [if_neg e];exact h i j hi hj
def size:Nat→Int
 | 0=>1000000000
 | k+1=>3*size k
theorem size_pos:∀ k,0≤size k
 | 0=>by decide
 | k+1=>by have:=size_pos k;show 0≤3*size k;omega
theorem size_le {k:Nat} (h:k≤16):size k≤100000000000000000:=by
 have:∀ k:Fin 17,size k.1≤100000000000000000:=by decide
 exact this ⟨k,by omega⟩
theorem rounds_ent {n:Nat} (hn:n≤16) {bs:List (Int×Int×Int)} {d:Tab} (hd:EntT bs 1000000000 n d):∀ k,k≤n→EntT bs (size k) n (rounds n d k)
 | 0,_=>hd
 | k+1,hk=>by
  have h:=rounds_ent hn hd k (by omega)
  have hs:=size_le (k:=k) (by omega)
  exact (rows_ent (size_pos k) (by omega) (fun j hj=>h k j (by omega) hj) (by omega) h n (Nat.le_refl _)).1
theorem fw_ent {n:Nat} (hn:n≤16) {bs:List (Int×Int×Int)} (hb:bs.all (bnd (n:Int))=true):EntT bs 100000000000000000 n (fw n bs):=by
 intro i j hi hj
 have h0:=bounds_ent (n:=n) (bs:=bs) bs d0 (fun c hc=>⟨hc,List.all_eq_true.1 hb c hc⟩) d0_ent
 exact (rounds_ent hn h0 n (Nat.le_refl _) i j hi hj).mono (size_le hn)
theorem cell_le (k:Nat) (rk:Nat→Int) (i j:Nat) (d:Tab) (a b:Nat):cell k rk i j d a b≤d a b:=by
 unfold cell upd
 by_cases e:a=i∧b=j
 ·rw [if_pos e];obtain ⟨rfl,rfl⟩:=e;exact Int.min_le_left _ _
 ·rw [if_neg e];exact Int.le_refl _
theorem cells_le (k:Nat) (rk:Nat→Int) (i:Nat) (d:Tab) (a b:Nat):∀ m,cells k rk i d m a b≤d a b
 | 0=>Int.le_refl _
 | m+1=>Int.le_trans (cell_le ..) (cells_le k rk i d a b m)
theorem rows_le (n k:Nat) (rk:Nat→Int) (d:Tab) (a b:Nat):∀ m,rows n k rk d m a b≤d a b
 | 0=>Int.le_refl _
 | m+1=>Int.le_trans (cells_le ..) (rows_le n k rk d a b m)
theorem rounds_le (n:Nat) (d:Tab) (a b:Nat) (k:Nat):∀ m,rounds n d (k+m) a b≤rounds n d k a b
 | 0=>Int.le_refl _
 | m+1=>Int.le_trans (rows_le ..) (rounds_le n d a b k m)
theorem pl_zero {bs:List (Int×Int×Int)} {B:Int} {i j:Nat} {x:Int} (hB:B≤1000000000000000000) (h:Ent bs B i j x):pl x 0=x:=by
 unfold pl
 rcases h with h | ⟨h1,h2,_⟩
 ·rw [if_pos (.inl h),h]
 ·rw [if_neg (by omega),wrap_in (by omega) (by omega)];omega
theorem cells_zero {bs:List (Int×Int×Int)} {B:Int} {k i:Nat} {rk:Nat→Int} {d:Tab} (hB:B≤1000000000000000000) (hz:rk k=0) (hd:Ent bs B i k (d i k)) :
  ∀ m,cells k rk i d m i k=d i k∧∀ j,cells k rk i d m i j=if j<m then min (d i j) (pl (d i k) (rk j)) else d i j
 | 0=>⟨rfl,fun j=>by rw [if_neg (by omega)];rfl⟩
 | m+1=>by
  obtain ⟨h1,h2⟩:=cells_zero hB hz hd m
  have hall:∀ j,cells k rk i d (m+1) i j=if j<m+1 then min (d i j) (pl (d i k) (rk j)) else d i j:=fun j=>by
   show upd _ i m _ i j=_
   unfold upd
   rw [h1]
   by_cases e:j=m
   ·subst e
    rw [if_pos ⟨rfl,rfl⟩,if_pos (by omega),h2 j,if_neg (by omega)]
   ·rw [if_neg fun h=>e h.2,h2 j]
    by_cases e2:j<m
    ·rw [if_pos e2,if_pos (by omega)]
    ·rw [if_neg e2,if_neg (by omega)]
  refine ⟨?_,hall⟩
  rw [hall k,hz,pl_zero hB hd,Int.min_self]
  split<;>rfl
theorem rows_zero {bs:List (Int×Int×Int)} {B:Int} {n k:Nat} {d:Tab} (hB:B≤1000000000000000000) (hz:d k k=0) (hk:k<n) (hd:EntT bs B n d) :
  ∀ m,m≤n→∀ i j,i<n→j<n→rows n k (d k) d m i j=if i<m then min (d i j) (pl (d i k) (d k j)) else d i j
 | 0,_,i,j,_,_=>by rw [if_neg (by omega)];rfl
 | m+1,hm,i,j,hi,hj=>by
  have ih:=rows_zero hB hz hk hd m (by omega)
  show cells k (d k) m (rows n k (d k) d m) n i j=_
  by_cases e:i=m
  ·subst e
   have e1:∀ b,b<n→rows n k (d k) d i i b=d i b:=fun b hb=>by rw [ih i b hi hb,if_neg (by omega)]
   have hc:=(cells_zero (bs:=bs) (i:=i) (d:=rows n k (d k) d i) hB hz (by rw [e1 k hk];exact hd i k hi hk) n).2 j
   rw [hc,if_pos hj,if_pos (by omega),e1 j hj,e1 k hk]
  ·rw [cells_other e,ih i j hi hj]
   by_cases e2:i<m
   ·rw [if_pos e2,if_pos (by omega)]
   ·rw [if_neg e2,if_neg (by omega)]
theorem round_zero {bs:List (Int×Int×Int)} {B:Int} {n k:Nat} {d:Tab} (hB:B≤1000000000000000000) (hz:d k k=0) (hk:k<n) (hd:EntT bs B n d) {i j:Nat} (hi:i<n) (hj:j<n) :
  rows n k (d k) d n i j=min (d i j) (pl (d i k) (d k j)):=by
 rw [rows_zero hB hz hk hd n (Nat.le_refl _) i j hi hj,if_pos hi]
def Sz (x:Int):Prop:=x=1152921504606846976∨(-200000000000000000≤x∧x≤200000000000000000)
theorem pl_cases {x y:Int} (hx:Sz x) (hy:Sz y):((x=1152921504606846976∨y=1152921504606846976)∧pl x y=1152921504606846976)∨(x<1000000000000000000∧y<1000000000000000000∧pl x y=x+y):=by
 unfold pl
 by_cases e:x=1152921504606846976∨y=1152921504606846976
 ·exact .inl ⟨e,by rw [if_pos e]⟩
 ·unfold Sz at hx hy
  refine .inr ⟨by omega,by omega,?_⟩
  rw [if_neg e,wrap_in (by omega) (by omega)]
theorem pl_le_add {x y z:Int} (hx:Sz x) (hy:Sz y) (h:x<1000000000000000000→y<1000000000000000000→z≤x+y) (hz:z≤1152921504606846976):z≤pl x y:=by
 rcases pl_cases hx hy with ⟨_,e⟩ | ⟨h1,h2,e⟩
 ·rw [e];exact hz
 ·rw [e];exact h h1 h2
theorem le_of_pl {x y z:Int} (hx:Sz x) (hy:Sz y) (h:z≤pl x y) (h1:x<1000000000000000000) (h2:y<1000000000000000000):z≤x+y:=by
 rcases pl_cases hx hy with ⟨h3,e⟩ | ⟨_,_,e⟩
 ·omega
 ·rw [e] at h;exact h
def Tri (n k:Nat) (d:Tab):Prop:=∀ l i j,l<k→l<n→i<n→j<n→d i j≤pl (d i l) (d l j)
set_option maxHeartbeats 4000000 in
theorem tri_step {n k:Nat} {d D:Tab} (hs:∀ i j,i<n→j<n→d i j=1152921504606846976∨(-100000000000000000≤d i j∧d i j≤100000000000000000)) (hD:∀ i j,i<n→j<n→D i j=min (d i j) (pl (d i k) (d k j)))
  (hz:d k k=0) (hk:k<n) (h:Tri n k d):Tri n (k+1) D:=by
 intro l i j hlk hl hi hj
 have S:∀ i j,i<n→j<n→Sz (d i j):=fun i j hi hj=>by have:=hs i j hi hj;unfold Sz;omega
 have C:∀ i l j,i<n→l<n→j<n→_:=fun i l j hi hl hj=>pl_cases (S i l hi hl) (S l j hl hj)
 have c1:=C i k j hi hk hj
 have c2:=C i k l hi hk hl
 have c3:=C l k j hl hk hj
 have sij:=hs i j hi hj
 have sil:=hs i l hi hl
 have slj:=hs l j hl hj
 have sik:=hs i k hi hk
 have skj:=hs k j hk hj
 have skl:=hs k l hk hl
 have slk:=hs l k hl hk
 have e1:=hD i j hi hj
 have e2:=hD i l hi hl
 have e3:=hD l j hl hj
 refine pl_le_add (by unfold Sz;omega) (by unfold Sz;omega) ?_ (by omega)
 intro f1 f2
 by_cases e:l=k
 ·subst e
  rw [hz] at c2 c3 e2 e3
  omega
 ·have hlk':l<k:=by omega
  have t1:=fun a b=>le_of_pl (S i l hi hl) (S l j hl hj) (h l i j hlk' hl hi hj) a b
  have t2:=fun a b=>le_of_pl (S k l hk hl) (S l j hl hj) (h l k j hlk' hl hk hj) a b
  have t3:=fun a b=>le_of_pl (S i l hi hl) (S l k hl hk) (h l i k hlk' hl hi hk) a b
  have t4:=fun a b=>le_of_pl (S k l hk hl) (S l k hl hk) (h l k k hlk' hl hk hk) a b
  rw [hz] at t4
  rcases c1 with ⟨a1,a2⟩ | ⟨a1,a2,a3⟩<;>rcases c2 with ⟨b1,b2⟩ | ⟨b1,b2,b3⟩<;>rcases c3 with ⟨g1,g2⟩ | ⟨g1,g2,g3⟩<;>omega
theorem addB_le (d:Tab) (c:Int×Int×Int) (a b:Nat):addB d c a b≤d a b:=by
 unfold addB upd
 split
 ·rename_i e;rw [e.1,e.2];exact Int.min_le_left _ _
 ·exact Int.le_refl _
theorem bounds_le:∀ (cs:List (Int×Int×Int)) (d:Tab) (a b:Nat),cs.foldl addB d a b≤d a b
 | [],_,_,_=>Int.le_refl _
 | c::cs,d,a,b=>Int.le_trans (bounds_le cs (addB d c) a b) (addB_le d c a b)
theorem fw_diag {n:Nat} {bs:List (Int×Int×Int)} (h:ovl (fw n bs) n=false) {k i:Nat} (hk:k≤n) (hi:i<n):rounds n (bs.foldl addB d0) k i i=0:=by
 have h1:¬ fw n bs i i<0:=fun hlt=>by
  rw [(ovl_iff _ _).2 ⟨i,hi,hlt⟩] at h;cases h
 have h2:=rounds_le n (bs.foldl addB d0) i i k (n-k)
 have e:k+(n-k)=n:=by omega
 rw [e] at h2
 have h3:=rounds_le n (bs.foldl addB d0) i i 0 k
 rw [Nat.zero_add] at h3
 have h4:bs.foldl addB d0 i i≤d0 i i:=bounds_le bs d0 i i
 have h5:d0 i i=0:=by simp [d0]
 unfold fw at h1
 have h6:rounds n (bs.foldl addB d0) 0 i i=bs.foldl addB d0 i i:=rfl
 omega
theorem rounds_tri {n:Nat} (hn:n≤16) {bs:List (Int×Int×Int)} (hb:bs.all (bnd (n:Int))=true) (h:ovl (fw n bs) n=false):∀ k,k≤n→Tri n k (rounds n (bs.foldl addB d0) k)
 | 0,_=>fun l i j hl=>by omega
 | k+1,hk=>by
  have h0:=bounds_ent (n:=n) (bs:=bs) bs d0 (fun c hc=>⟨hc,List.all_eq_true.1 hb c hc⟩) d0_ent
  have hE:EntT bs 100000000000000000 n (rounds n (bs.foldl addB d0) k):=fun i j hi hj=>(rounds_ent hn h0 k (by omega) i j hi hj).mono (size_le (by omega))
  have hz:=fw_diag h (k:=k) (by omega) (show k<n by omega)
  refine tri_step (k:=k) (d:=rounds n (bs.foldl addB d0) k) (fun i j hi hj=>?_) (fun i j hi hj=>round_zero (bs:=bs) (by omega) hz (by omega) hE hi hj) hz (by omega) (rounds_tri hn hb h k (by omega))
  rcases hE i j hi hj with e | ⟨e1,e2,_⟩
  ·exact .inl e
  ·exact .inr ⟨e1,e2⟩
theorem fw_tri {n:Nat} (hn:n≤16) {bs:List (Int×Int×Int)} (hb:bs.all (bnd (n:Int))=true) (h:ovl (fw n bs) n=false):Tri n n (fw n bs):=rounds_tri hn hb h n (Nat.le_refl _)
theorem bounds_bound {n:Nat}:∀ (cs:List (Int×Int×Int)) (d:Tab) (a b:Nat) (m:Int),((a:Int),(b:Int),m)∈cs→cs.foldl addB d a b≤m
 | c::cs,d,a,b,m,h=>by
  rcases List.mem_cons.1 h with h | h
  ·subst h
   refine Int.le_trans (bounds_le cs _ a b) ?_
   unfold addB upd
   have ha:((a:Int)).toNat=a:=by omega
   have hb:((b:Int)).toNat=b:=by omega
   simp only [ha,hb,and_self,if_true]
   exact Int.min_le_right _ _
  ·exact bounds_bound (n:=n) cs (addB d c) a b m h
theorem fw_bound {n:Nat} {bs:List (Int×Int×Int)} {a b:Nat} {m:Int} (h:((a:Int),(b:Int),m)∈bs):fw n bs a b≤m:=by
 have h2:=rounds_le n (bs.foldl addB d0) a b 0 n
 rw [Nat.zero_add] at h2
 exact Int.le_trans h2 (bounds_bound (n:=n) bs d0 a b m h)
theorem fw_least {n:Nat} (hn:n≤16) {bs:List (Int×Int×Int)} (hb:bs.all (bnd (n:Int))=true) (h:ovl (fw n bs) n=false) {i j:Nat} {w:Int} (hi:i<n) (hw:Wk bs i j w):j<n∧fw n bs i j<1000000000000000000∧fw n bs i j≤w:=by
 have hE:=fw_ent hn hb
 have S:∀ i j,i<n→j<n→Sz (fw n bs i j):=fun i j hi hj=>by
  rcases hE i j hi hj with e | ⟨e1,e2,_⟩
  ·exact .inl e
  ·exact .inr ⟨by omega,by omega⟩
 induction hw with
 | nil =>
  have e:fw n bs i i=0:=fw_diag h (Nat.le_refl n) hi
  exact ⟨hi,by omega,by omega⟩
 | @snoc a b w m hw hm ih =>
  obtain ⟨ha,hf,hle⟩:=ih
  have hbd:=List.all_eq_true.1 hb _ hm
  have hbd:=of_decide_eq_true hbd
  have hbn:b<n:=by have:=hbd.2.2.2.1;simp only at this;omega
  refine ⟨hbn,?_⟩
  have h1:=fw_bound (n:=n) hm
  have h2:=fw_tri hn hb h a i b ha ha hi hbn
  have h3:=hbd.2.2.2.2.2
  simp only at h3
  rcases pl_cases (S i a hi ha) (S a b ha hbn) with ⟨h4 | h4,_⟩ | ⟨_,_,e⟩
  ·omega
  ·omega
  ·rw [e] at h2
   have s1:=S i a hi ha
   have s2:=S i b hi hbn
   unfold Sz at s1 s2
   omega
theorem Wk.cons {bs:List (Int×Int×Int)} {i a b:Nat} {w m:Int} (hm:((i:Int),(a:Int),m)∈bs) (h:Wk bs a b w):Wk bs i b (m+w):=by
 have h1:Wk bs i a (0+m):=(Wk.nil i).snoc hm
 rw [Int.zero_add] at h1
 exact h1.trans h
abbrev Num:=Int×List Int×List (Int×Int×Int)×Int
def i64 (n:Int):Prop:=-9223372036854775808≤n∧n≤9223372036854775807
def nH (x:Num):Nat:=1+(pk x.1 8).toNat
def hidf (x:Num) (i:Nat):Int:=match x.2.1[i]? with
 | some v=>pk v 200-100
 | none=>0
def hid (x:Num):List Int:=row (nH x) (hidf x)
def keeps (y:List Int) (c:Int×Int×Int):Bool:=decide (y.getD c.2.1.toNat 0-y.getD c.1.toNat 0≤c.2.2)
theorem sys_bnd {x:Int×List (Int×Int×Int)} (h:sys x=true):(0≤x.1∧x.1≤16∧x.2.length≤60)∧∀ c∈x.2,0≤c.1∧c.1<x.1∧0≤c.2.1∧c.2.1<x.1∧-1000000000≤c.2.2∧c.2.2≤1000000000:=by
 unfold sys at h
 rw [Bool.and_eq_true] at h
 refine ⟨of_decide_eq_true h.1,fun c hc=>?_⟩
 exact of_decide_eq_true (List.all_eq_true.1 h.2 c hc)
theorem tdiv_ok {a b:Int} (ha:i64 a) (hb:2≤b):i64 (a.tdiv b):=by
 unfold i64 at *
 have h1:a.natAbs / b.natAbs≤a.natAbs / 2:=Nat.div_le_div_left (by omega) (by omega)
 have h2:(a.tdiv b).natAbs=a.natAbs / b.natAbs:=Int.natAbs_tdiv a b
 omega
theorem wrap_tdiv {a b:Int} (ha:i64 a) (hb:2≤b):IntKind.wrap .i64 (a.tdiv b)=a.tdiv b:=by
 have h:=tdiv_ok ha hb
 exact wrap_in h.1 h.2
def less (x:Num) (c:Int×Int×Int):Int×Int×Int:=(c.1,c.2.1,c.2.2-10-pk (x.2.2.2.tdiv 60) 60)
theorem row_mem {α:Type} {m:Nat} {g:Nat→α} {a:α} (h:a∈row m g):∃ i,i<m∧g i=a:=by
 obtain ⟨i,hi⟩:=List.mem_iff_getElem?.1 h
 by_cases h':i<m
 ·rw [row_get h'] at hi;exact ⟨i,h',by simpa using hi⟩
 ·rw [List.getElem?_eq_none (by rw [row_length];omega)] at hi;cases hi
abbrev Sys:=Int×List (Int×Int×Int)
def ovS (x:Sys):Bool:=ovl (fw x.1.toNat x.2) x.1.toNat
def fwS (x:Sys):Tab:=fw x.1.toNat x.2
theorem sys_all {x:Sys} (h:sys x=true):x.1.toNat≤16∧x.2.all (bnd (x.1.toNat:Int))=true∧((x.1.toNat:Nat):Int)=x.1:=by
 have hs:=sys_bnd h
 have e:((x.1.toNat:Nat):Int)=x.1:=by omega
 refine ⟨by omega,?_,e⟩
 rw [e]
 unfold sys at h
 rw [Bool.and_eq_true] at h
 exact h.2
theorem walk_stays {n:Nat} {bs:List (Int×Int×Int)} (hb:bs.all (bnd (n:Int))=true) {i j:Nat} {w:Int} (hi:i<n) (h:Wk bs i j w):j<n:=by
 induction h with
 | nil=>exact hi
 | snoc _ hm _ =>
  have:=of_decide_eq_true (List.all_eq_true.1 hb _ hm)
  simp only at this
  omega
theorem ov_walk {x:Sys} (hs:sys x=true) (h:ovS x=true):∃ i w,i<x.1.toNat∧w<0∧Wk x.2 i i w:=by
 obtain ⟨hn,hb,_⟩:=sys_all hs
 obtain ⟨i,hi,hlt⟩:=(ovl_iff _ _).1 h
 rcases fw_ent hn hb i i hi hi with e | ⟨_,_,e⟩
 ·omega
 ·exact ⟨i,_,hi,hlt,e⟩
theorem ov_of_walk {x:Sys} (hs:sys x=true) {i:Nat} {w:Int} (hi:i<x.1.toNat) (hw:w<0) (h:Wk x.2 i i w):ovS x=true:=by
 obtain ⟨hn,hb,_⟩:=sys_all hs
 cases hov:ovS x with
 | true=>rfl
 | false =>
  obtain ⟨_,_,h3⟩:=fw_least hn hb hov hi h
  have:=fw_diag (bs:=x.2) hov (Nat.le_refl _) hi
  have e:fw x.1.toNat x.2 i i=rounds x.1.toNat (x.2.foldl addB d0) x.1.toNat i i:=rfl
  omega
theorem fw_cases {x:Sys} (hs:sys x=true) (ho:ovS x=false) {i j:Nat} (hi:i<x.1.toNat) (hj:j<x.1.toNat) :
  (fwS x i j=1152921504606846976∧∀ w,¬ Wk x.2 i j w)∨(-100000000000000000≤fwS x i j∧fwS x i j≤100000000000000000∧Wk x.2 i j (fwS x i j)∧∀ w,Wk x.2 i j w→fwS x i j≤w):=by
 obtain ⟨hn,hb,_⟩:=sys_all hs
 rcases fw_ent hn hb i j hi hj with e | ⟨e1,e2,e3⟩
 ·refine .inl ⟨e,fun w hw=>?_⟩
  have:=(fw_least hn hb ho hi hw).2.1
  omega
 ·exact .inr ⟨e1,e2,e3,fun w hw=>(fw_least hn hb ho hi hw).2.2⟩
theorem fw_self {x:Sys} (ho:ovS x=false) {i:Nat} (hi:i<x.1.toNat):fwS x i i=0:=fw_diag (bs:=x.2) ho (Nat.le_refl _) hi
theorem m54_good {x:Sys} (hs:sys x=true) (h:ovS x=false):m54 x=some (rt x.1.toNat (fun _=>x.1.toNat) (fwS x),0):=by
 rw [m54_eq,hs]
 unfold ovS at h
 rw [h]
 rfl
theorem m54_bad {x:Sys} (hs:sys x=true) (h:ovS x=true):m54 x=some ([],90):=by
 rw [m54_eq,hs]
 unfold ovS at h
 rw [h]
 rfl
def solf (d:Tab):Nat→Nat→Int
 | 0,_=>0
 | i+1,k=>min (solf d i k) (d i k)
def sol (x:Sys) (k:Nat):Int:=solf (fwS x) x.1.toNat k
theorem lenRow {α:Type} (m:Nat) (g:Nat→α):lenM (row m g)=(m:Int):=by show ((row m g).length:Int)=_;rw [row_length]
def there (x:Sys) (k i:Nat):Int:=if fwS x k i=1152921504606846976 then 1000000000+sol x i else fwS x k i
inductive WN (bs:List (Int×Int×Int)):Nat→Nat→Nat→Int→Prop
 | nil (i:Nat):WN bs i i 0 0
 | cons {i a j m:Nat} {c w:Int}:((i:Int),(a:Int),c)∈bs→WN bs a j m w→WN bs i j (m+1) (c+w)
section
variable {bs:List (Int×Int×Int)}
theorem WN.one {i a:Nat} {c:Int} (h:((i:Int),(a:Int),c)∈bs):WN bs i a 1 c:=by
 have:=WN.cons h (WN.nil a)
 rw [Int.add_zero] at this
 exact this
theorem WN.trans {i j k m m':Nat} {w w':Int} (h:WN bs i j m w) (h2:WN bs j k m' w'):WN bs i k (m+m') (w+w'):=by
 induction h with
 | nil=>rw [Nat.zero_add,Int.zero_add];exact h2
 | @cons i a j m c w hm _ ih =>
  rw [Nat.add_right_comm,Int.add_assoc]
  exact .cons hm (ih h2)
theorem WN.snoc {i a b m:Nat} {w c:Int} (h:WN bs i a m w) (hm:((a:Int),(b:Int),c)∈bs):WN bs i b (m+1) (w+c):=h.trans (.one hm)
theorem WN.wk {i j m:Nat} {w:Int} (h:WN bs i j m w):Wk bs i j w:=by
 induction h with
 | nil=>exact .nil _
 | cons hm _ ih=>exact Wk.cons hm ih
theorem Wk.wn {i j:Nat} {w:Int} (h:Wk bs i j w):∃ m,WN bs i j m w:=by
 induction h with
 | nil=>exact ⟨0,.nil _⟩
 | snoc _ hm ih =>
  obtain ⟨m,h⟩:=ih
  exact ⟨m+1,h.snoc hm⟩
theorem WN.zero {i j:Nat} {w:Int} (h:WN bs i j 0 w):i=j∧w=0:=by
 cases h
 exact ⟨rfl,rfl⟩
theorem WN.last {i j m:Nat} {w:Int} (h:WN bs i j (m+1) w):∃ a c w',WN bs i a m w'∧((a:Int),(j:Int),c)∈bs∧w=w'+c:=by
 generalize hk:m+1=k at h
 induction h generalizing m with
 | nil=>omega
 | @cons i a j m' c w hm h1 ih =>
  cases m with
  | zero =>
   have:m'=0:=by omega
   subst this
   obtain ⟨rfl,rfl⟩:=h1.zero
   exact ⟨i,c,0,.nil _,hm,by omega⟩
  | succ m =>
   obtain ⟨b,c',w',h2,h3,h4⟩:=ih (m:=m) (by omega)
   exact ⟨b,c',c+w',.cons hm h2,h3,by omega⟩
theorem WN.stations {i j m:Nat} {w:Int} (h:WN bs i j m w):∃ (v:Nat→Nat) (s:Nat→Int),v 0=i∧v m=j∧s 0=0∧s m=w∧∀ k,k<m→((v k:Int),(v (k+1):Int),s (k+1)-s k)∈bs:=by
 induction h with
 | nil i=>exact ⟨fun _=>i,fun _=>0,rfl,rfl,rfl,rfl,fun k hk=>by omega⟩
 | @cons i a j m c w hm _ ih =>
  obtain ⟨v,s,h0,h1,h2,h3,h4⟩:=ih
  refine ⟨fun k=>match k with | 0=>i | k+1=>v k,fun k=>match k with | 0=>0 | k+1=>c+s k,rfl,h1,rfl,by show c+s m=_;rw [h3],fun k hk=>?_⟩
  cases k with
  | zero =>
   show ((i:Int),(v 0:Int),c+s 0-0)∈bs
   rw [h0,h2,Int.add_zero,Int.sub_zero]
   exact hm
  | succ k =>
   have:=h4 k (by omega)
   show ((v k:Int),(v (k+1):Int),c+s (k+1)-(c+s k))∈bs
   have e:c+s (k+1)-(c+s k)=s (k+1)-s k:=by omega
   rw [e]
   exact this
theorem seg {m:Nat} {v:Nat→Nat} {s:Nat→Int} (h:∀ k,k<m→((v k:Int),(v (k+1):Int),s (k+1)-s k)∈bs) (a:Nat):∀ d,a+d≤m→WN bs (v a) (v (a+d)) d (s (a+d)-s a)
 | 0,_=>by
  have e:s (a+0)-s a=0:=by rw [Nat.add_zero];omega
  rw [e]
  exact .nil _
 | d+1,hd=>by
  have h1:=(seg h a d (by omega)).snoc (h (a+d) (by omega))
  have e:s (a+d)-s a+(s (a+d+1)-s (a+d))=s (a+(d+1))-s a:=by rw [Nat.add_assoc];omega
  rw [e] at h1
  exact h1
end
theorem pigeon:∀ (n:Nat) (v:Nat→Nat),(∀ k,k≤n→v k<n)→∃ a b,a<b∧b≤n∧v a=v b
 | 0,v,h=>absurd (h 0 (Nat.le_refl _)) (Nat.not_lt_zero _)
 | n+1,v,h=>by
  by_cases hx:∃ k,k≤n∧v k=v (n+1)
  ·obtain ⟨k,hk,e⟩:=hx
   exact ⟨k,n+1,by omega,Nat.le_refl _,e⟩
  ·have hne:∀ k,k≤n→v k≠v (n+1):=fun k hk e=>hx ⟨k,hk,e⟩
   obtain ⟨a,b,hab,hb,e⟩:=pigeon n (fun k=>if v k=n then v (n+1) else v k) (fun k hk=>by
    have h1:=h k (by omega)
    have h2:=h (n+1) (Nat.le_refl _)
    have h3:=hne k hk
    split<;>omega)
   refine ⟨a,b,hab,by omega,?_⟩
   have h1:=hne a (by omega)
   have h2:=hne b hb
   split at e<;>split at e<;>omega
theorem WN.stays {n:Nat} {bs:List (Int×Int×Int)} (hb:bs.all (bnd (n:Int))=true) {i j m:Nat} {w:Int} (hi:i<n) (h:WN bs i j m w):j<n:=walk_stays hb hi h.wk
theorem WN.cut {n:Nat} {bs:List (Int×Int×Int)} (hb:bs.all (bnd (n:Int))=true) {i j m:Nat} {w:Int} (hi:i<n) (hm:n≤m) (h:WN bs i j m w) :
  ∃ u m1 m2 m3 w1 w2 w3,u<n∧1≤m2∧m2≤n∧m1+m2+m3=m∧w=w1+w2+w3∧WN bs i u m1 w1∧WN bs u u m2 w2∧WN bs u j m3 w3:=by
 obtain ⟨v,s,h0,h1,h2,h3,h4⟩:=h.stations
 have hv:∀ k,k≤m→v k<n:=fun k hk=>by
  have:=seg h4 0 k (by omega)
  rw [Nat.zero_add,h0] at this
  exact this.stays hb hi
 obtain ⟨a,b,hab,hbn,e⟩:=pigeon n v fun k hk=>hv k (by omega)
 have s1:=seg h4 0 a (by omega)
 have s2:=seg h4 a (b-a) (by omega)
 have s3:=seg h4 b (m-b) (by omega)
 rw [Nat.zero_add,h0,h2] at s1
 rw [show a+(b-a)=b by omega,← e] at s2
 rw [show b+(m-b)=m by omega,h1,h3,← e] at s3
 exact ⟨v a,a,b-a,m-b,_,_,_,hv a (by omega),by omega,by omega,by omega,by omega,s1,s2,s3⟩
theorem WN.short {n:Nat} {bs:List (Int×Int×Int)} (hb:bs.all (bnd (n:Int))=true) (hno:∀ u m w,u<n→WN bs u u m w→0≤w) {i j:Nat} (hi:i<n):∀ {m:Nat} {w:Int},WN bs i j m w→∃ m' w',m'<n∧w'≤w∧WN bs i j m' w':=by
 intro m
 induction m using Nat.strongRecOn with
 | ind m ih =>
  intro w h
  by_cases hm:m<n
  ·exact ⟨m,w,hm,Int.le_refl _,h⟩
  ·obtain ⟨u,m1,m2,m3,w1,w2,w3,hu,g1,_,g2,g3,g4,g5,g6⟩:=h.cut hb hi (by omega)
   have:=hno u m2 w2 hu g5
   obtain ⟨m',w',k1,k2,k3⟩:=ih (m1+m3) (by omega) (g4.trans g6)
   exact ⟨m',w',k1,by omega,k3⟩
theorem WN.cycle {n:Nat} {bs:List (Int×Int×Int)} (hb:bs.all (bnd (n:Int))=true):∀ (m:Nat) {i:Nat} {w:Int},i<n→w<0→WN bs i i m w→∃ i' m' w',i'<n∧1≤m'∧m'≤n∧w'<0∧WN bs i' i' m' w':=by
 intro m
 induction m using Nat.strongRecOn with
 | ind m ih =>
  intro i w hi hw h
  by_cases hm:m≤n
  ·refine ⟨i,m,w,hi,?_,hm,hw,h⟩
   cases m with
   | zero=>have:=h.zero.2;omega
   | succ m=>omega
  ·obtain ⟨u,m1,m2,m3,w1,w2,w3,hu,g1,g0,g2,g3,g4,g5,g6⟩:=h.cut hb hi (by omega)
   by_cases h2:w2<0
   ·exact ⟨u,m2,w2,hu,g1,g0,h2,g5⟩
   ·exact ih (m1+m3) (by omega) hi (by omega) (g4.trans g6)
theorem no_neg {x:Sys} (hs:sys x=true) (ho:ovS x=false) (u m:Nat) (w:Int) (hu:u<x.1.toNat) (h:WN x.2 u u m w):0≤w:=by
 refine Classical.byContradiction fun hn=>?_
 have:=ov_of_walk hs hu (by omega) h.wk
 rw [ho] at this
 cases this
def farT:Tab:=fun _ _=>1152921504606846976
def addW (d t:Tab) (c:Int×Int×Int):Tab:=fun i j=>if j=c.2.1.toNat then min (t i j) (pl (d i c.1.toNat) c.2.2) else t i j
def nxt (bs:List (Int×Int×Int)) (d:Tab):Tab:=bs.foldl (addW d) farT
def wkT (bs:List (Int×Int×Int)):Nat→Tab
 | 0=>d0
 | m+1=>nxt bs (wkT bs m)
theorem addW_le (d t:Tab) (c:Int×Int×Int) (i j:Nat):addW d t c i j≤t i j:=by
 unfold addW
 split
 ·exact Int.min_le_left _ _
 ·exact Int.le_refl _
theorem foldW_le (d:Tab):∀ (cs:List (Int×Int×Int)) (t:Tab) (i j:Nat),cs.foldl (addW d) t i j≤t i j
 | [],_,_,_=>Int.le_refl _
 | c::cs,t,i,j=>Int.le_trans (foldW_le d cs _ i j) (addW_le d t c i j)
theorem foldW_bound (d:Tab):∀ (cs:List (Int×Int×Int)) (t:Tab) (i:Nat) (c:Int×Int×Int),c∈cs→cs.foldl (addW d) t i c.2.1.toNat≤pl (d i c.1.toNat) c.2.2
 | c'::cs,t,i,c,h=>by
  rcases List.mem_cons.1 h with rfl | h
  ·refine Int.le_trans (foldW_le d cs _ i _) ?_
   unfold addW
   rw [if_pos rfl]
   exact Int.min_le_right _ _
  ·exact foldW_bound d cs _ i c h
theorem foldW_is (d:Tab):∀ (cs:List (Int×Int×Int)) (t:Tab) (i j:Nat),cs.foldl (addW d) t i j=t i j∨∃ c,c∈cs∧c.2.1.toNat=j∧cs.foldl (addW d) t i j=pl (d i c.1.toNat) c.2.2
 | [],t,i,j=>.inl rfl
 | c::cs,t,i,j=>by
  rcases foldW_is d cs (addW d t c) i j with h | ⟨c',h1,h2,h3⟩
  ·rw [List.foldl_cons,h]
   unfold addW
   by_cases e:j=c.2.1.toNat
   ·rw [if_pos e]
    by_cases e2:t i j≤pl (d i c.1.toNat) c.2.2
    ·rw [Int.min_eq_left e2];exact .inl rfl
    ·rw [Int.min_eq_right (by omega)];exact .inr ⟨c,List.mem_cons_self ..,e.symm,rfl⟩
   ·rw [if_neg e];exact .inl rfl
  ·exact .inr ⟨c',List.mem_cons_of_mem _ h1,h2,h3⟩
def EntW (bs:List (Int×Int×Int)) (m i j:Nat) (x:Int):Prop :=
 (x=1152921504606846976∧∀ w,¬ WN bs i j m w)∨(-(m*1000000000)≤x∧x≤m*1000000000∧WN bs i j m x∧∀ w,WN bs i j m w→x≤w)
theorem pl_fin {a b:Int} (ha:-1000000000000000≤a∧a≤1000000000000000) (hb:-1000000000≤b∧b≤1000000000):pl a b=a+b:=by
 unfold pl
 rw [if_neg (by omega),wrap_in (by omega) (by omega)]
theorem pl_far (b:Int):pl 1152921504606846976 b=1152921504606846976:=by
 unfold pl
 rw [if_pos (.inl rfl)]
theorem wk_ent {n:Nat} {bs:List (Int×Int×Int)} (hb:bs.all (bnd (n:Int))=true):∀ m,m≤1000→∀ i j,i<n→j<n→EntW bs m i j (wkT bs m i j)
 | 0,_,i,j,hi,hj=>by
  show EntW bs 0 i j (d0 i j)
  unfold d0
  by_cases e:i=j
  ·subst e
   rw [if_pos rfl]
   exact .inr ⟨by omega,by omega,.nil i,fun w h=>by have:=h.zero.2;omega⟩
  ·rw [if_neg e]
   exact .inl ⟨rfl,fun w h=>e h.zero.1⟩
 | m+1,hm,i,j,hi,hj=>by
  have ih:=fun i j hi hj=>wk_ent hb m (by omega) i j hi hj
  have hsz:∀ a:Nat,a<n→wkT bs m i a=1152921504606846976∨(-(m*1000000000)≤wkT bs m i a∧wkT bs m i a≤m*1000000000):=fun a ha=>by
   rcases ih i a hi ha with ⟨e,_⟩ | ⟨e1,e2,_⟩
   ·exact .inl e
   ·exact .inr ⟨e1,e2⟩
  have hupper:∀ w,WN bs i j (m+1) w→wkT bs (m+1) i j≤w∧wkT bs (m+1) i j≤(m+1)*1000000000:=fun w hw=>by
   obtain ⟨a,c,w',h1,h2,h3⟩:=hw.last
   have ha:=h1.stays hb hi
   have hc:=of_decide_eq_true (List.all_eq_true.1 hb _ h2)
   simp only at hc
   have hf:=foldW_bound (wkT bs m) bs farT i _ h2
   have t1:((a:Int)).toNat=a:=by omega
   have t2:((j:Int)).toNat=j:=by omega
   simp only [t1,t2] at hf
   rcases ih i a hi ha with ⟨_,e⟩ | ⟨e1,e2,_,e4⟩
   ·exact absurd h1 (e _)
   ·rw [pl_fin (by omega) (by omega)] at hf
    have:=e4 _ h1
    have hh:wkT bs (m+1) i j≤wkT bs m i a+c:=hf
    omega
  rcases foldW_is (wkT bs m) bs farT i j with h | ⟨c,h1,h2,h3⟩
  ·have h':wkT bs (m+1) i j=1152921504606846976:=h
   refine .inl ⟨h',fun w hw=>?_⟩
   have:=(hupper w hw).2
   omega
  ·obtain ⟨a,b,ha,hb',e1,e2,e3,e4⟩:=bnd_of (List.all_eq_true.1 hb _ h1)
   have t1:c.1.toNat=a:=by omega
   have t2:b=j:=by omega
   subst t2
   have h3':wkT bs (m+1) i b=pl (wkT bs m i a) c.2.2:=by rw [← t1];exact h3
   rcases ih i a hi ha with ⟨e,_⟩ | ⟨g1,g2,g3,g4⟩
   ·rw [e,pl_far] at h3'
    refine .inl ⟨h3',fun w hw=>?_⟩
    have:=(hupper w hw).2
    omega
   ·rw [pl_fin (by omega) (by omega)] at h3'
    have hm':((a:Int),(b:Int),c.2.2)∈bs:=by rw [← e1,← e2];exact h1
    refine .inr ⟨?_,?_,?_,fun w hw=>(hupper w hw).1⟩
    ·rw [h3'];omega
    ·rw [h3'];omega
    ·rw [h3'];exact g3.snoc hm'
theorem wk_le {n:Nat} {bs:List (Int×Int×Int)} (hb:bs.all (bnd (n:Int))=true) {m i j:Nat} {w:Int} (hm:m≤1000) (hi:i<n) (h:WN bs i j m w):wkT bs m i j≤w∧wkT bs m i j<1000000000000000:=by
 rcases wk_ent hb m hm i j hi (h.stays hb hi) with ⟨_,e⟩ | ⟨_,_,_,e⟩
 ·exact absurd h (e _)
 ·exact ⟨e _ h,by omega⟩
theorem wk_walk {n:Nat} {bs:List (Int×Int×Int)} (hb:bs.all (bnd (n:Int))=true) {m i j:Nat} (hm:m≤1000) (hi:i<n) (hj:j<n) (h:wkT bs m i j≠1152921504606846976):WN bs i j m (wkT bs m i j):=by
 rcases wk_ent hb m hm i j hi hj with ⟨e,_⟩ | ⟨_,_,e,_⟩
 ·exact absurd e h
 ·exact e
theorem wk_sz {n:Nat} {bs:List (Int×Int×Int)} (hb:bs.all (bnd (n:Int))=true) {m i j:Nat} (hm:m≤1000) (hi:i<n) (hj:j<n):wkT bs m i j=1152921504606846976∨(-1000000000000≤wkT bs m i j∧wkT bs m i j≤1000000000000):=by
 rcases wk_ent hb m hm i j hi hj with ⟨e,_⟩ | ⟨e1,e2,_⟩
 ·exact .inl e
 ·exact .inr ⟨by omega,by omega⟩
theorem m86_eq (i j:Int):m86 (i,j)=some 1152921504606846976:=rfl
theorem far_rows {n:Nat} (hn:n≤16) {i:Nat} (hi:i<n) :
  loopM (fun (s_1:Int×List (List Int)) =>
   bif ltM s_1.1 (n:Int) then
    Option.bind (chkM (i:Int) (lenM s_1.2)) fun (r_1:Unit) =>
     Option.bind (chkM (i:Int) (lenM s_1.2)) fun (r_2:Unit) =>
      Option.bind (m86 ((i:Int),s_1.1)) fun (r_3:Int) =>
       Option.bind (app2M (nat_lit 8) s_1.2 (i:Int) [r_3]) fun (r_4:List (List Int)) =>
        Option.bind (chkM (i:Int) (lenM r_4)) fun (r_5:Unit) =>
         Option.bind
          (Option.bind (sameM (i:Int) (i:Int)) fun (x:Unit) =>
           Option.bind (sameM (i:Int) (i:Int)) fun (x:Unit)=>chkM (i:Int) (lenM r_4))
          fun (r:Unit)=>some (Sum.inl (IntKind.wrap .i64 (s_1.1+(1:Int)),r_4))
   else some (Sum.inr s_1.2)) ((0:Int),rt n (fun a=>if a<i then n else 0) farT)=some (rt n (fun a=>if a<i+1 then n else 0) farT):=by
 have e0:rt n (fun a=>if a<i then n else 0) farT=rt n (fun a=>if a<i then n else if a=i then 0 else 0) farT:=rt_congr (fun a _=>by simp) fun _ _ _ _=>rfl
 rw [e0]
 refine count_loop (fun j=>rt n (fun a=>if a<i then n else if a=i then j else 0) farT) n (fun j hj=>?_) ?_
 ·have hl:∀ (len:Nat→Nat),chkM (i:Int) (lenM (rt n len farT))=some ():=fun len=>chkM_of (by omega) (by show (i:Int)<((rt n len farT).length:Int);rw [rt_length];omega)
  simp only [lt_true (a:=(j:Int)) (b:=(n:Int)) (by omega),cT,hl,oB,m86_eq,sameM_self]
  have hj':(if i<i then n else if i=i then j else 0)=j:=by simp
  have hap:=rt_app (n:=n) (len:=fun a=>if a<i then n else if a=i then j else 0) (d:=farT) (i:=i) (b:=8) hi (by simp;omega)
  rw [hj'] at hap
  have hap':app2M (nat_lit 8) (rt n (fun a=>if a<i then n else if a=i then j else 0) farT) (i:Int) [1152921504606846976]=_:=hap
  rw [hap',oB,hl,oB,oB,wrap_in (by omega) (by omega)]
  congr 3
  refine rt_congr (fun a _=>?_) fun _ _ _ _=>rfl
  unfold upl
  by_cases e:a=i<;>simp [e]
 ·simp only [lt_false (a:=(n:Int)) (b:=(n:Int)) (by omega),cF]
  congr 2
  refine rt_congr (fun a _=>?_) fun _ _ _ _=>rfl
  by_cases e:a<i
  ·rw [if_pos e,if_pos (by omega)]
  ·by_cases e':a=i
   ·rw [if_neg e,if_pos e',if_pos (by omega)]
   ·rw [if_neg e,if_neg e',if_neg (by omega)]
theorem far_loop {n:Nat} (hn:n≤16):loopM
    (fun (s:Int×List (List Int)) =>
     bif ltM s.1 (n:Int) then
      Option.bind
       (loopM
        (fun (s_1:Int×List (List Int)) =>
         bif ltM s_1.1 (n:Int) then
          Option.bind (chkM s.1 (lenM s_1.2)) fun (r_1:Unit) =>
           Option.bind (chkM s.1 (lenM s_1.2)) fun (r_2:Unit) =>
            Option.bind (m86 (s.1,s_1.1)) fun (r_3:Int) =>
             Option.bind (app2M (nat_lit 8) s_1.2 s.1 [r_3]) fun (r_4:List (List Int)) =>
              Option.bind (chkM s.1 (lenM r_4)) fun (r_5:Unit) =>
               Option.bind
                (Option.bind (sameM s.1 s.1) fun (x:Unit) =>
                 Option.bind (sameM s.1 s.1) fun (x:Unit)=>chkM s.1 (lenM r_4))
                fun (r:Unit)=>some (Sum.inl (IntKind.wrap .i64 (s_1.1+(1:Int)),r_4))
         else some (Sum.inr s_1.2))
        ((0:Int),s.2))
       fun (o:List (List Int))=>some (Sum.inl (IntKind.wrap .i64 (s.1+(1:Int)),o))
     else some (Sum.inr s.2))
    ((0:Int),List.replicate ((n:Int)).toNat ([]:List Int))=some (rt n (fun _=>n) farT):=by
 have e0:List.replicate ((n:Int)).toNat ([]:List Int)=rt n (fun a=>if a<0 then n else 0) farT:=by
  have ht:((n:Int)).toNat=n:=by omega
  rw [ht,replicate_row]
  exact row_congr fun i _=>rfl
 rw [e0]
 refine count_loop (fun i=>rt n (fun a=>if a<i then n else 0) farT) n (r:=rt n (fun _=>n) farT) (fun i hi=>?_) ?_
 ·simp only [lt_true (a:=(i:Int)) (b:=(n:Int)) (by omega),cT]
  rw [far_rows hn hi,oB,wrap_in (by omega) (by omega)]
 ·simp only [lt_false (a:=(n:Int)) (b:=(n:Int)) (by omega),cF]
  congr 2
  exact rt_congr (fun a ha=>if_pos ha) fun _ _ _ _=>rfl
theorem bound_rows {n:Nat} (hn:n≤16) {c:Int×Int×Int} (hc:bnd (n:Int) c=true) (d t:Tab):loopM
                          (fun (s_2:Int×List (List Int)) =>
                           bif ltM s_2.1 (n:Int) then
                            Option.bind (chkM s_2.1 (lenM s_2.2)) fun (r_11:Unit) =>
                             Option.bind (chkM s_2.1 (lenM s_2.2)) fun (r_12:Unit) =>
                              Option.bind (chkM s_2.1 (lenM s_2.2)) fun (r_13:Unit) =>
                               Option.bind (chkM s_2.1 (lenM s_2.2)) fun (r_14:Unit) =>
                                Option.bind
                                 (Option.bind (idxM s_2.2 s_2.1) fun (xs:List Int) =>
                                  chkM c.2.1 (lenM xs))
                                 fun (r_15:Unit) =>
                                 Option.bind
                                  (Option.bind (idxM s_2.2 s_2.1) fun (xs:List Int) =>
                                   Option.bind (idxM xs c.2.1) fun (x:Int) =>
                                    some x)
                                  fun (r_16:Int) =>
                                  Option.bind (idxM (rt n (fun _=>n) d) s_2.1) fun (r_17:List Int) =>
                                   Option.bind (idxM r_17 c.1) fun (r_18:Int) =>
                                    Option.bind (m61 (r_18,c.2.2))
                                     fun (r_19:Int) =>
                                     Option.bind
                                      (Option.bind (idxM s_2.2 s_2.1)
                                       fun (xs:List Int) =>
                                       chkM c.2.1 (lenM xs))
                                      fun (r_20:Unit) =>
                                      Option.bind
                                       (set2M s_2.2 s_2.1 c.2.1 fun (x:Int) =>
                                        some (min r_16 r_19))
                                       fun (r:List (List Int)) =>
                                       some
                                        (Sum.inl
                                         (IntKind.wrap IntKind.i64
                                           (s_2.1+(1:Int)),
                                          r))
                           else some (Sum.inr s_2.2))
                          ((0:Int),rt n (fun _=>n) t)=some (rt n (fun _=>n) (addW d t c)):=by
 obtain ⟨a,b,ha,hb,e1,e2,e3,e4⟩:=bnd_of hc
 have e0:rt n (fun _=>n) t=rt n (fun _=>n) (fun i j=>if i<0 then addW d t c i j else t i j):=rt_congr (fun _ _=>rfl) fun i j _ _=>by rw [if_neg (by omega)]
 rw [e0]
 refine count_loop (fun k=>rt n (fun _=>n) (fun i j=>if i<k then addW d t c i j else t i j)) n (fun k hk=>?_) ?_
 ·simp only [lt_true (a:=(k:Int)) (b:=(n:Int)) (by omega),cT,oB,e1,e2,chk_rt hk,rt_idx hk,chk_row hb,row_idx hb,row_idx ha,m61_pl]
  refine bind_of (rt_set (y:=addW d t c k b) hk hb ?_) ?_
  ·rw [if_neg (by omega)]
   unfold addW
   have t1:c.1.toNat=a:=by omega
   have t2:c.2.1.toNat=b:=by omega
   rw [t1,t2,if_pos rfl]
  ·rw [wrap_in (by omega) (by omega)]
   congr 3
   refine rt_congr (fun _ _=>rfl) fun i j hi hj=>?_
   unfold upd
   dsimp only
   by_cases e:i=k
   ·subst e
    rw [if_pos (show i<i+1 by omega)]
    by_cases e':j=b
    ·subst e';rw [if_pos ⟨rfl,rfl⟩]
    ·rw [if_neg fun h=>e' h.2,if_neg (by omega)]
     unfold addW
     rw [if_neg (by omega)]
   ·rw [if_neg fun h=>e h.1]
    by_cases e':i<k
    ·rw [if_pos e',if_pos (by omega)]
    ·rw [if_neg e',if_neg (by omega)]
 ·simp only [lt_false (a:=(n:Int)) (b:=(n:Int)) (by omega),cF]
  congr 2
  exact rt_congr (fun _ _=>rfl) fun i j hi _=>if_pos hi
theorem next_loop {n:Nat} (hn:n≤16) {bs:List (Int×Int×Int)} (hl:bs.length≤60) (hb:bs.all (bnd (n:Int))=true) (d:Tab):loopM
                     (fun (s_1:Int×List (List Int)) =>
                      bif ltM s_1.1 (lenM bs) then
                       Option.bind (idxM bs s_1.1) fun (r_10:Int×Int×Int) =>
                        Option.bind
                         (loopM
                          (fun (s_2:Int×List (List Int)) =>
                           bif ltM s_2.1 (n:Int) then
                            Option.bind (chkM s_2.1 (lenM s_2.2)) fun (r_11:Unit) =>
                             Option.bind (chkM s_2.1 (lenM s_2.2)) fun (r_12:Unit) =>
                              Option.bind (chkM s_2.1 (lenM s_2.2)) fun (r_13:Unit) =>
                               Option.bind (chkM s_2.1 (lenM s_2.2)) fun (r_14:Unit) =>
                                Option.bind
                                 (Option.bind (idxM s_2.2 s_2.1) fun (xs:List Int) =>
                                  chkM r_10.2.1 (lenM xs))
                                 fun (r_15:Unit) =>
                                 Option.bind
                                  (Option.bind (idxM s_2.2 s_2.1) fun (xs:List Int) =>
                                   Option.bind (idxM xs r_10.2.1) fun (x:Int) =>
                                    some x)
                                  fun (r_16:Int) =>
                                  Option.bind (idxM (rt n (fun _=>n) d) s_2.1) fun (r_17:List Int) =>
                                   Option.bind (idxM r_17 r_10.1) fun (r_18:Int) =>
                                    Option.bind (m61 (r_18,r_10.2.2))
                                     fun (r_19:Int) =>
                                     Option.bind
                                      (Option.bind (idxM s_2.2 s_2.1)
                                       fun (xs:List Int) =>
                                       chkM r_10.2.1 (lenM xs))
                                      fun (r_20:Unit) =>
                                      Option.bind
                                       (set2M s_2.2 s_2.1 r_10.2.1 fun (x:Int) =>
                                        some (min r_16 r_19))
                                       fun (r:List (List Int)) =>
                                       some
                                        (Sum.inl
                                         (IntKind.wrap IntKind.i64
                                           (s_2.1+(1:Int)),
                                          r))
                           else some (Sum.inr s_2.2))
                          ((0:Int),s_1.2))
                         fun (o:List (List Int)) =>
                         some (Sum.inl (IntKind.wrap .i64 (s_1.1+(1:Int)),o))
                      else some (Sum.inr s_1.2))
                     ((0:Int),rt n (fun _=>n) farT)=some (rt n (fun _=>n) (nxt bs d)):=by
 refine count_loop (fun k=>rt n (fun _=>n) ((bs.take k).foldl (addW d) farT)) bs.length (fun k hk=>?_) ?_
 ·simp only [lt_true (a:=(k:Int)) (b:=lenM bs) (by show (k:Int)<(bs.length:Int);omega),cT,idxM_lt hk,oB]
  refine bind_of (bound_rows hn (List.all_eq_true.1 hb _ (List.getElem_mem hk)) d _) ?_
  rw [wrap_in (by omega) (by omega),foldl_take (addW d) farT bs k hk]
 ·simp only [lt_false (a:=(bs.length:Int)) (b:=lenM bs) (by show ¬ (bs.length:Int)<(bs.length:Int);omega),cF,List.take_length]
  rfl
def stp (bs:List (Int×Int×Int)) (to m f:Nat) (q:Int) (c:Int×Int×Int):Bool:=decide (c.1=(f:Int))&&decide (pl c.2.2 (wkT bs m c.2.1.toNat to)≤q)
def chP (bs:List (Int×Int×Int)) (to:Nat):Nat→Nat→Int→List Int
 | 0,_,_=>[]
 | m+1,f,q=>match bs.findIdx? (stp bs to m f q) with
  | some k=>(k:Int)::chP bs to m (bs.getD k (0,0,0)).2.1.toNat (q-(bs.getD k (0,0,0)).2.2)
  | none=>[]
theorem pl_sz {a b:Int} (ha:-1000000000000000≤a∧a≤1000000000000000) (hb:-1000000000000000≤b∧b≤1000000000000000):pl a b=a+b:=by
 unfold pl
 rw [if_neg (by omega),wrap_in (by omega) (by omega)]
theorem far_pl (a:Int):pl a 1152921504606846976=1152921504606846976:=by
 unfold pl
 rw [if_pos (.inr rfl)]
theorem getD_of {α:Type} {xs:List α} {k:Nat} {z:α} (h:k<xs.length):xs.getD k z=xs[k]:=by
 rw [List.getD_eq_getElem?_getD,List.getElem?_eq_getElem h]
 rfl
theorem first_loop {α:Type} {xs:List α} (p:α→Bool) {body:Int→Option (Int⊕(Unit⊕Int))}
  (hb:∀ k (hk:k<xs.length),body (k:Int)=some (bif p xs[k] then .inr (.inr (k:Int)) else .inl ((k:Int)+1))) (he:body (xs.length:Int)=some (.inr (.inl ())))
  (hx:∃ c,c∈xs∧p c=true):∃ k,∃ hk:k<xs.length,xs.findIdx? p=some k∧p xs[k]=true∧loopM body 0=some (.inr (k:Int)):=by
 obtain ⟨o,h1,h2⟩:=find_loop p hb he
 rcases h2 with ⟨rfl,h2⟩ | ⟨k,hk,rfl,h2,h3⟩
 ·obtain ⟨c,hc,hp⟩:=hx
  obtain ⟨i,hi,rfl⟩:=List.mem_iff_getElem.1 hc
  rw [h2 i hi] at hp
  cases hp
 ·exact ⟨k,hk,List.findIdx?_eq_some_iff_getElem.2 ⟨hk,h2,fun j hj=>by rw [h3 j hj];decide⟩,h2,h1⟩
section
variable {n:Nat} {bs:List (Int×Int×Int)} (hb:bs.all (bnd (n:Int))=true)
include hb
theorem stp_ex {to m f:Nat} {q:Int} (hm:m+1≤1000) (hf:f<n) (ht:to<n) (hq:q≤100000000000000000) (h:wkT bs (m+1) f to≤q):∃ c,c∈bs∧stp bs to m f q c=true:=by
 have hw:=wk_walk hb hm hf ht (by omega)
 generalize wkT bs (m+1) f to=w at hw h
 cases hw with
 | @cons i a j m' c w' hmem h2 =>
  have hc:=of_decide_eq_true (List.all_eq_true.1 hb _ hmem)
  simp only at hc
  have ha:a<n:=by omega
  have h3:=wk_le hb (by omega) ha h2
  refine ⟨_,hmem,?_⟩
  unfold stp
  have t1:((a:Int)).toNat=a:=by omega
  rw [dT rfl,Bool.true_and]
  simp only [t1]
  rcases wk_sz hb (m:=m) (by omega) ha ht with e | e
  ·omega
  ·rw [pl_sz (by omega) (by omega)]
   exact dT (by omega)
theorem stp_rest {to m f:Nat} {q:Int} {c:Int×Int×Int} (hm:m≤1000) (ht:to<n) (hq:q≤100000000000000000) (hc:c∈bs) (h:stp bs to m f q c=true):c.1=(f:Int)∧c.2.1.toNat<n∧wkT bs m c.2.1.toNat to≤q-c.2.2:=by
 unfold stp at h
 rw [Bool.and_eq_true] at h
 have h1:=of_decide_eq_true h.1
 have h2:=of_decide_eq_true h.2
 have hc:=of_decide_eq_true (List.all_eq_true.1 hb _ hc)
 have ha:c.2.1.toNat<n:=by omega
 refine ⟨h1,ha,?_⟩
 rcases wk_sz hb (m:=m) hm ha ht with e | e
 ·rw [e,far_pl] at h2;omega
 ·rw [pl_sz (by omega) (by omega)] at h2
  omega
end
theorem chain_loop {n:Nat} {bs:List (Int×Int×Int)} (hl:bs.length≤60) (hb:bs.all (bnd (n:Int))=true) {M to:Nat} (ht:to<n) {body:Int×Int×Int×List Int→Option ((Int×Int×Int×List Int)⊕(Int×Int×Int×List Int))}
  (hbody:body=fun (s:Int×Int×Int×List Int)=>bif ltM (0:Int) s.2.1 then
      Option.bind
       (Option.bind
        (loopM
         (fun (s_1:Int) =>
          bif ltM s_1 (lenM bs) then
           Option.bind (idxM bs s_1) fun (r:Int×Int×Int) =>
            Option.bind
             (bif eqM r.1 s.1 then idxM (row M fun m=>rt n (fun _=>n) (wkT bs m)) (IntKind.wrap .i64 (s.2.1-(1:Int))) else some [])
             fun (r_1:List (List Int)) =>
             Option.bind (bif eqM r.1 s.1 then idxM r_1 r.2.1 else some []) fun (r_2:List Int) =>
              Option.bind (bif eqM r.1 s.1 then idxM r_2 (to:Int) else some (0:Int)) fun (r_3:Int) =>
               Option.bind (bif eqM r.1 s.1 then m61 (r.2.2,r_3) else some (0:Int)) fun (r_4:Int) =>
                bif PE.andM (eqM r.1 s.1) (leM r_4 s.2.2.1) then some (Sum.inr (Sum.inr s_1))
                else some (Sum.inl (IntKind.wrap .i64 (s_1+(1:Int))))
          else some (Sum.inr (Sum.inl ())))
         (0:Int))
        fun (o:Unit⊕Int)=>Sum.elim (fun (t:Unit)=>some (-1:Int)) (fun (t:Int)=>some t) o)
       fun (ov:Int) =>
       Option.bind (idxM bs ov) fun (r:Int×Int×Int) =>
        Option.bind (idxM bs ov) fun (r_1:Int×Int×Int) =>
         Option.bind (appM (nat_lit 8) s.2.2.2 [ov]) fun (r_2:List Int) =>
          some
           (Sum.inl
            (r.2.1,IntKind.wrap .i64 (s.2.1-(1:Int)),
             IntKind.wrap .i64 (s.2.2.1-r_1.2.2),r_2))
     else some (Sum.inr (s.1,s.2.1,s.2.2.1,s.2.2.2))) :
  ∀ (m f:Nat) (q:Int) (out:List Int),m≤M→m≤100→f<n→-10000000000000+m*1000000000≤q→q≤10000000000000-m*1000000000→out.length+m≤1000→wkT bs m f to≤q →
   ∃ f' q',loopM body ((f:Int),(m:Int),q,out)=some (f',0,q',out++chP bs to m f q):=by
 intro m
 induction m with
 | zero =>
  intro f q out _ _ _ _ _ _ _
  refine ⟨f,q,?_⟩
  have hstep:body ((f:Int),((0:Nat):Int),q,out)=some (.inr ((f:Int),((0:Nat):Int),q,out)):=by
   rw [hbody]
   dsimp only
   rw [geI (by omega),cF]
  rw [loopM_eq,hstep]
  show some ((f:Int),((0:Nat):Int),q,out)=some ((f:Int),0,q,out++[])
  rw [List.append_nil]
  rfl
 | succ m ih =>
  intro f q out hM hm hf hq1 hq2 ho h
  obtain ⟨k,hk,e1,e2,e3⟩:=first_loop (xs:=bs) (stp bs to m f q) (body:=fun (s_1:Int) =>
          bif ltM s_1 (lenM bs) then
           Option.bind (idxM bs s_1) fun (r:Int×Int×Int) =>
            Option.bind
             (bif eqM r.1 (f:Int) then idxM (row M fun m=>rt n (fun _=>n) (wkT bs m)) (IntKind.wrap .i64 (((m+1:Nat):Int)-(1:Int))) else some [])
             fun (r_1:List (List Int)) =>
             Option.bind (bif eqM r.1 (f:Int) then idxM r_1 r.2.1 else some []) fun (r_2:List Int) =>
              Option.bind (bif eqM r.1 (f:Int) then idxM r_2 (to:Int) else some (0:Int)) fun (r_3:Int) =>
               Option.bind (bif eqM r.1 (f:Int) then m61 (r.2.2,r_3) else some (0:Int)) fun (r_4:Int) =>
                bif PE.andM (eqM r.1 (f:Int)) (leM r_4 q) then some (Sum.inr (Sum.inr s_1))
                else some (Sum.inl (IntKind.wrap .i64 (s_1+(1:Int))))
          else some (Sum.inr (Sum.inl ()))) (fun k hk=>by
   obtain ⟨a,b,ha,hb',g1,g2,_,_⟩:=bnd_of (List.all_eq_true.1 hb _ (List.getElem_mem hk))
   rw [ltI (by show (k:Int)<(bs.length:Int);omega),cT,idxM_lt hk,oB,wrap_in (n:=(k:Int)+1) (by omega) (by omega)]
   unfold stp
   by_cases e:bs[k].1=(f:Int)
   ·have t1:((m+1:Nat):Int)-1=(m:Int):=by omega
    have t2:bs[k].2.1.toNat=b:=by omega
    rw [eqI e,cT,t1,wrap_in (by omega) (by omega),row_idx (by omega),oB,cT,g2,rt_idx hb',oB,cT,row_idx ht,oB,cT,m61_pl,oB,andT,dT e,Bool.true_and]
    have t3:((b:Int)).toNat=b:=by omega
    rw [t3]
    by_cases e':pl bs[k].2.2 (wkT bs m b to)≤q
    ·rw [leI e',dT e'];rfl
    ·rw [gtI (by omega),decide_eq_false e'];rfl
   ·rw [neI e,cF,oB,cF,oB,cF,oB,cF,oB,andF,decide_eq_false e]
    rfl) (by rw [geI (Int.le_refl _)];rfl) (stp_ex hb (by omega) hf ht (by omega) h)
  obtain ⟨h1,h2,h3⟩:=stp_rest hb (by omega) ht (by omega) (List.getElem_mem hk) e2
  have hc:=of_decide_eq_true (List.all_eq_true.1 hb _ (List.getElem_mem hk))
  obtain ⟨f',q',ih⟩:=ih bs[k].2.1.toNat (q-bs[k].2.2) (out++[(k:Int)]) (by omega) (by omega) h2 (by omega) (by omega) (by rw [List.length_append];show out.length+1+m≤1000;omega) h3
  refine ⟨f',q',?_⟩
  rw [loopM_eq]
  have hstep:body ((f:Int),((m+1:Nat):Int),q,out)=some (.inl ((bs[k].2.1.toNat:Int),(m:Int),q-bs[k].2.2,out++[(k:Int)])):=by
   rw [hbody]
   dsimp only
   rw [ltI (by omega),cT]
   have t4:((bs[k].2.1.toNat:Nat):Int)=bs[k].2.1:=by omega
   refine bind_of (bind_of e3 rfl) ?_
   rw [idxM_lt hk,oB,oB,appM_of (by show (out.length+1)*8≤140737488355328;omega),oB,wrap_in (by omega) (by omega),wrap_in (by omega) (by omega),t4]
   congr 4
   omega
  rw [hstep]
  show loopM body _=_
  rw [ih]
  have e4:chP bs to (m+1) f q=(k:Int)::chP bs to m bs[k].2.1.toNat (q-bs[k].2.2):=by
   show (match bs.findIdx? (stp bs to m f q) with | some k=>_ | none=>_)=_
   rw [e1]
   show (k:Int)::chP bs to m (bs.getD k (0,0,0)).2.1.toNat (q-(bs.getD k (0,0,0)).2.2)=_
   rw [getD_of hk]
  rw [e4,List.append_assoc]
  rfl
theorem m62_eq {n:Nat} {bs:List (Int×Int×Int)} (hl:bs.length≤60) (hb:bs.all (bnd (n:Int))=true) {M to m f:Nat} {q:Int} (ht:to<n) (hM:m≤M) (hm:m≤100) (hf:f<n) (hq1:-1000000000000≤q) (hq2:q≤1000000000000) (h:wkT bs m f to≤q) :
  m62 (((n:Int),bs),row M (fun m=>rt n (fun _=>n) (wkT bs m)),(f:Int),(to:Int),(m:Int),q)=some (chP bs to m f q):=by
 obtain ⟨f',q',e⟩:=chain_loop hl hb (M:=M) ht rfl m f q [] hM hm hf (by omega) (by omega) (by show 0+m≤1000;omega) h
 unfold m62
 exact bind_of e rfl
def folP (bs:List (Int×Int×Int)):List Int→Int→Int→Option (Int×Int)
 | [],f,s=>some (f,s)
 | k::l,f,s=>if 0≤k∧k<bs.length∧(bs.getD k.toNat (0,0,0)).1=f then folP bs l (bs.getD k.toNat (0,0,0)).2.1 (IntKind.wrap .i64 (s+(bs.getD k.toNat (0,0,0)).2.2)) else none
def folR (bs:List (Int×Int×Int)) (l:List Int) (f:Int):Int×Int×Bool:=match folP bs l f 0 with
 | some (e,s)=>(e,s,decide ((l.length:Int)≤60))
 | none=>(0,0,false)
theorem chP_fol {n:Nat} {bs:List (Int×Int×Int)} (hb:bs.all (bnd (n:Int))=true) {to:Nat} (ht:to<n):∀ (m f:Nat) (q s:Int),m≤100→f<n→-10000000000000+m*1000000000≤q→q≤10000000000000-m*1000000000→-10000000000000+m*1000000000≤s→s≤10000000000000-m*1000000000→wkT bs m f to≤q →
  (chP bs to m f q).length=m∧∃ s',folP bs (chP bs to m f q) f s=some ((to:Int),s')∧s'-s≤q:=by
 intro m
 induction m with
 | zero =>
  intro f q s _ hf _ _ _ _ h
  refine ⟨rfl,s,?_,?_⟩
  ·have h':d0 f to≤q:=h
   unfold d0 at h'
   by_cases e:f=to
   ·subst e;rfl
   ·rw [if_neg e] at h';omega
  ·have h':d0 f to≤q:=h
   unfold d0 at h'
   split at h'<;>omega
 | succ m ih =>
  intro f q s hm hf hq1 hq2 hs1 hs2 h
  obtain ⟨c,hc,hp⟩:=stp_ex hb (by omega) hf ht (by omega) h
  cases hi:bs.findIdx? (stp bs to m f q) with
  | none =>
   rw [List.findIdx?_eq_none_iff] at hi
   rw [hi c hc] at hp
   cases hp
  | some k =>
   obtain ⟨hk,hp2,_⟩:=List.findIdx?_eq_some_iff_getElem.1 hi
   obtain ⟨h1,h2,h3⟩:=stp_rest hb (by omega) ht (by omega) (List.getElem_mem hk) hp2
   have hcb:=of_decide_eq_true (List.all_eq_true.1 hb _ (List.getElem_mem hk))
   have e4:chP bs to (m+1) f q=(k:Int)::chP bs to m bs[k].2.1.toNat (q-bs[k].2.2):=by
    show (match bs.findIdx? (stp bs to m f q) with | some k=>_ | none=>_)=_
    rw [hi]
    show (k:Int)::chP bs to m (bs.getD k (0,0,0)).2.1.toNat (q-(bs.getD k (0,0,0)).2.2)=_
    rw [getD_of hk]
   obtain ⟨g1,s',g2,g3⟩:=ih bs[k].2.1.toNat (q-bs[k].2.2) (s+bs[k].2.2) (by omega) h2 (by omega) (by omega) (by omega) (by omega) h3
   rw [e4]
   refine ⟨by rw [List.length_cons,g1],s',?_,by omega⟩
   unfold folP
   have t1:((k:Int)).toNat=k:=by omega
   rw [t1,getD_of hk,if_pos ⟨by omega,by omega,h1⟩,wrap_in (by omega) (by omega)]
   have t2:((bs[k].2.1.toNat:Nat):Int)=bs[k].2.1:=by omega
   rw [t2] at g2
   exact g2
def chkCycle (x:Sys) (l:List Int):Bool:=match l with
 | []=>false
 | k::_=>sys x&&(decide (0≤k)&&decide (k<x.2.length))&&((folR x.2 l (x.2.getD k.toNat (0,0,0)).1).2.2&&decide ((folR x.2 l (x.2.getD k.toNat (0,0,0)).1).1=(x.2.getD k.toNat (0,0,0)).1)&&decide ((folR x.2 l (x.2.getD k.toNat (0,0,0)).1).2.1<0))
theorem fw_short {x:Sys} (hs:sys x=true) (ho:ovS x=false) {f t:Nat} {q:Int} (hf:f<x.1.toNat) (ht:t<x.1.toNat) (hq:q≤100000000000000000) (h:fwS x f t≤q):∃ m,m<x.1.toNat∧wkT x.2 m f t≤q:=by
 obtain ⟨hn,hb,he⟩:=sys_all hs
 rcases fw_cases hs ho hf ht with ⟨e,_⟩ | ⟨_,_,e,_⟩
 ·omega
 ·obtain ⟨m0,hm0⟩:=e.wn
  obtain ⟨m,w',h1,h2,h3⟩:=hm0.short hb (no_neg hs ho) hf
  exact ⟨m,h1,by have:=(wk_le hb (by omega) hf h3).1;omega⟩
theorem wk_ge_fw {x:Sys} (hs:sys x=true) (ho:ovS x=false) {m f t:Nat} (hm:m≤1000) (hf:f<x.1.toNat) (ht:t<x.1.toNat):fwS x f t≤wkT x.2 m f t:=by
 obtain ⟨hn,hb,he⟩:=sys_all hs
 rcases wk_ent hb m hm f t hf ht with ⟨e,_⟩ | ⟨_,_,e,_⟩
 ·rcases fw_cases hs ho hf ht with ⟨e2,_⟩ | ⟨_,e2,_⟩<;>omega
 ·exact (fw_least hn hb ho hf e.wk).2.2
theorem all_loop {n:Nat} (p:Nat→Bool) {body:Int→Option (Int⊕(Unit⊕Bool))} (hb:∀ k,k<n→body (k:Int)=some (bif p k then .inl ((k:Int)+1) else .inr (.inr false))) (he:body (n:Int)=some (.inr (.inl ()))) :
  ∃ b:Bool,loopM body 0=some (bif b then .inl () else .inr false)∧(b=true↔∀ k,k<n→p k=true):=by
 obtain ⟨o,h1,h2⟩:=loopM_from (body:=body) (fun k s=>s=(k:Int)∧∀ j,j<k→p j=true) (fun o=>(o=.inl ()∧∀ k,k<n→p k=true)∨(o=.inr false∧∃ k,k<n∧p k=false)) n (s:=0) ⟨rfl,fun j hj=>by omega⟩ fun k s hk ⟨hs,hP⟩=>by
  subst hs
  by_cases hlt:k<n
  ·cases hp:p k with
   | true =>
    refine .inl ⟨((k+1:Nat):Int),hlt,by rw [hb k hlt,hp];rfl,rfl,fun j hj=>?_⟩
    by_cases e:j=k
    ·subst e;exact hp
    ·exact hP j (by omega)
   | false=>exact .inr ⟨_,by rw [hb k hlt,hp];rfl,.inr ⟨rfl,k,hlt,hp⟩⟩
  ·have e:k=n:=by omega
   subst e
   exact .inr ⟨_,he,.inl ⟨rfl,hP⟩⟩
 rcases h2 with ⟨rfl,h2⟩ | ⟨rfl,k,hk,h2⟩
 ·exact ⟨true,h1,by simpa using h2⟩
 ·refine ⟨false,h1,?_⟩
  constructor
  ·intro h;cases h
  ·intro h;rw [h k hk] at h2;cases h2
theorem m41_eq {a b:List Int} (hl:a.length≤4611686018427387904):m41 (a,b)=some (decide (a=b)):=by
 unfold m41
 dsimp only
 by_cases e:a.length=b.length
 ·rw [eqI (by show (a.length:Int)=(b.length:Int);omega),notT,cF]
  obtain ⟨r,h1,h2⟩:=all_loop (n:=a.length) (fun k=>decide (a[k]? = b[k]?)) (body:=fun (s:Int) =>
      bif ltM s (lenM a) then
       Option.bind (idxM a s) fun (r:Int) =>
        Option.bind (idxM b s) fun (r_1:Int) =>
         bif PE.notM (eqM r r_1) then some (Sum.inr (Sum.inr false))
         else some (Sum.inl (IntKind.wrap .i64 (s+(1:Int))))
      else some (Sum.inr (Sum.inl ()))) (fun k hk=>by
   have hk':k<b.length:=by omega
   rw [ltI (by show (k:Int)<(a.length:Int);omega),cT,idxM_lt hk,oB,idxM_lt hk',oB,wrap_in (by omega) (by omega),List.getElem?_eq_getElem hk,List.getElem?_eq_getElem hk']
   by_cases e2:a[k]=b[k]
   ·rw [eqI e2,dT (by rw [e2])];rfl
   ·rw [neI e2,decide_eq_false (fun h=>e2 (Option.some.inj h))];rfl) (by rw [geI (Int.le_refl _)];rfl)
  refine bind_of h1 ?_
  by_cases e2:a=b
  ·rw [dT e2,h2.2 fun k _=>by rw [e2];exact dT rfl];rfl
  ·have:r=false:=by
    cases hr:r with
    | false=>rfl
    | true =>
     refine absurd (List.ext_getElem? fun k=>?_) e2
     by_cases hk:k<a.length
     ·exact of_decide_eq_true (h2.1 hr k hk)
     ·rw [List.getElem?_eq_none (by omega),List.getElem?_eq_none (by omega)]
   rw [this,decide_eq_false e2];rfl
 ·rw [neI (by show (a.length:Int)≠(b.length:Int);omega),notF,cT,decide_eq_false fun h=>e (by rw [h])]
theorem Wk.mono {bs bs':List (Int×Int×Int)} (hs:∀ c,c∈bs→c∈bs') {i j:Nat} {w:Int} (h:Wk bs i j w):Wk bs' i j w:=by
 induction h with
 | nil=>exact .nil _
 | snoc _ hm ih=>exact ih.snoc (hs _ hm)
theorem fw_far {x:Sys} (hs:sys x=true) (ho:ovS x=false) {i j:Nat} (hi:i<x.1.toNat) (hj:j<x.1.toNat):fwS x i j≤1152921504606846976:=by
 rcases fw_cases hs ho hi hj with ⟨e,_⟩ | ⟨_,e,_⟩<;>omega
theorem fw_tri' {x:Sys} (hs:sys x=true) (ho:ovS x=false) {i k j:Nat} (hi:i<x.1.toNat) (hk:k<x.1.toNat) (hj:j<x.1.toNat) (h1:fwS x i k<1000000000000000000) (h2:fwS x k j<1000000000000000000):fwS x i j≤fwS x i k+fwS x k j:=by
 obtain ⟨hn,hb,_⟩:=sys_all hs
 rcases fw_cases hs ho hi hk with ⟨e,_⟩ | ⟨_,_,e,_⟩
 ·omega
 ·rcases fw_cases hs ho hk hj with ⟨e',_⟩ | ⟨_,_,e',_⟩
  ·omega
  ·exact (fw_least hn hb ho hi (e.trans e')).2.2
def short (l:List Int):List Int:=l.take (min l.length 20)
theorem findg_loop {α γ:Type} {xs:List α} (p:α→Bool) (g:Nat→γ) {body:Int→Option (Int⊕(Unit⊕γ))}
  (h1:∀ j,xs.findIdx? p=some j→body (j:Int)=some (.inr (.inr (g j)))) (h2:∀ j (hj:j<xs.length),p xs[j]=false→body (j:Int)=some (.inl ((j:Int)+1))) (he:body (xs.length:Int)=some (.inr (.inl ()))) :
  loopM body 0=some (match xs.findIdx? p with | some j=>.inr (g j) | none=>.inl ()):=by
 cases hf:xs.findIdx? p with
 | none =>
  rw [List.findIdx?_eq_none_iff] at hf
  refine loopM_fn (fun k=>(k:Int)) xs.length (fun k hk=>h2 k hk (hf _ (List.getElem_mem hk))) he
 | some j =>
  obtain ⟨hj,hp,hall⟩:=List.findIdx?_eq_some_iff_getElem.1 hf
  refine loopM_fn (fun k=>(k:Int)) j (fun k hk=>h2 k (by omega) ?_) (h1 j hf)
  have:=hall k hk
  simpa using this
def cst (bs:List (Int×Int×Int)) (m:Nat) (c:Int×Int×Int):Bool:=decide (pl c.2.2 (wkT bs m c.2.1.toNat c.1.toNat)<0)
def cycM (bs:List (Int×Int×Int)):Nat:=((List.range 17).find? fun m=>(bs.findIdx? (cst bs m)).isSome).getD 0
def cycL (bs:List (Int×Int×Int)):List Int:=match bs.findIdx? (cst bs (cycM bs)) with
 | some k=>(k:Int)::chP bs (bs.getD k (0,0,0)).1.toNat (cycM bs) (bs.getD k (0,0,0)).2.1.toNat (-1-(bs.getD k (0,0,0)).2.2)
 | none=>[]
theorem cst_walk {n:Nat} {bs:List (Int×Int×Int)} (hb:bs.all (bnd (n:Int))=true) {m:Nat} (hm:m≤999) {c:Int×Int×Int} (hc:c∈bs):cst bs m c=true↔wkT bs m c.2.1.toNat c.1.toNat≤-1-c.2.2:=by
 have hcb:=of_decide_eq_true (List.all_eq_true.1 hb _ hc)
 unfold cst
 rcases wk_sz hb (m:=m) (i:=c.2.1.toNat) (j:=c.1.toNat) (by omega) (by omega) (by omega) with e | e
 ·rw [e,far_pl]
  constructor
  ·intro h;exact absurd (of_decide_eq_true h) (by omega)
  ·intro h;omega
 ·rw [pl_sz (by omega) (by omega)]
  constructor
  ·intro h;have:=of_decide_eq_true h;omega
  ·intro h;exact dT (by omega)
theorem cst_of {n:Nat} {bs:List (Int×Int×Int)} (hb:bs.all (bnd (n:Int))=true) {m u:Nat} {w:Int} (hm:m≤999) (hu:u<n) (hw:w<0) (h:WN bs u u (m+1) w):(bs.findIdx? (cst bs m)).isSome=true:=by
 cases h with
 | @cons _ a _ _ c w' hmem h2 =>
  have hc:=of_decide_eq_true (List.all_eq_true.1 hb _ hmem)
  simp only at hc
  have ha:a<n:=by omega
  have h3:=(wk_le hb (by omega) ha h2).1
  have hp:cst bs m ((u:Int),(a:Int),c)=true:=(cst_walk hb hm hmem).2 (by
   have t1:((a:Int)).toNat=a:=by omega
   have t2:((u:Int)).toNat=u:=by omega
   simp only [t1,t2]
   omega)
  cases hf:bs.findIdx? (cst bs m) with
  | none =>
   rw [List.findIdx?_eq_none_iff] at hf
   rw [hf _ hmem] at hp
   cases hp
  | some k=>rfl
theorem of_cst {n:Nat} {bs:List (Int×Int×Int)} (hb:bs.all (bnd (n:Int))=true) {m k:Nat} (hm:m≤999) (h:bs.findIdx? (cst bs m)=some k):∃ hk:k<bs.length,wkT bs m bs[k].2.1.toNat bs[k].1.toNat≤-1-bs[k].2.2:=by
 obtain ⟨hk,hp,_⟩:=List.findIdx?_eq_some_iff_getElem.1 h
 exact ⟨hk,(cst_walk hb hm (List.getElem_mem hk)).1 hp⟩
theorem cycM_of {x:Sys} (hs:sys x=true) (ho:ovS x=true):cycM x.2<x.1.toNat∧(x.2.findIdx? (cst x.2 (cycM x.2))).isSome=true∧∀ k,k<cycM x.2→(x.2.findIdx? (cst x.2 k)).isSome=false:=by
 obtain ⟨hn,hb,he⟩:=sys_all hs
 obtain ⟨i,w,hi,hw,hwk⟩:=ov_walk hs ho
 obtain ⟨m0,hm0⟩:=hwk.wn
 obtain ⟨u,m1,w1,hu,g1,g2,g3,g4⟩:=WN.cycle hb m0 hi hw hm0
 obtain ⟨m,rfl⟩:∃ m,m1=m+1:=⟨m1-1,by omega⟩
 have hex:=cst_of hb (by omega) hu g3 g4
 unfold cycM
 cases e:(List.range 17).find? fun m=>(x.2.findIdx? (cst x.2 m)).isSome with
 | none =>
  rw [List.find?_eq_none] at e
  exact absurd hex (e m (List.mem_range.2 (by omega)))
 | some k =>
  rw [List.find?_eq_some_iff_getElem] at e
  obtain ⟨h1,i,hi,h2,h3⟩:=e
  rw [List.getElem_range] at h2
  subst h2
  rw [List.length_range] at hi
  have h3':∀ j,j<i→(x.2.findIdx? (cst x.2 j)).isSome=false:=fun j hj=>by
   have:=h3 j hj
   rw [List.getElem_range] at this
   simpa using this
  refine ⟨?_,h1,h3'⟩
  show i<x.1.toNat
  refine Classical.byContradiction fun hn=>?_
  have:=h3' m (by omega)
  rw [hex] at this
  cases this
def cycR (x:Sys):List Int×Bool:=bif sys x&&ovS x then (cycL x.2,true) else ([],false)
theorem m33_eq (x:Sys):m33 x=some (cycR x):=by
 unfold m33 cycR
 dsimp only
 rw [show (x.1,x.2)=x from rfl,m58_eq,oB]
 cases hs:sys x with
 | false=>rfl
 | true =>
  obtain ⟨hn,hb,he⟩:=sys_all hs
  have hl:=(sys_bnd hs).1.2.2
  have h39:=m59_eq hn hl hb
  rw [he] at h39
  rw [notT,cF]
  refine bind_of (x:=bif ovS x then ([],false) else (rt x.1.toNat (fun _=>x.1.toNat) (fwS x),true)) h39 ?_
  cases ho:ovS x with
  | false=>rfl
  | true =>
   obtain ⟨c1,c2,c3⟩:=cycM_of hs ho
   obtain ⟨k0,hk0⟩:=Option.isSome_iff_exists.1 c2
   obtain ⟨hkl,hkw⟩:=of_cst hb (by omega) hk0
   have h58:=none_table hn
   rw [he] at h58
   rw [cT,cF]
   refine bind_of h58 ?_
   have hcy:cycL x.2=(k0:Int)::chP x.2 x.2[k0].1.toNat (cycM x.2) x.2[k0].2.1.toNat (-1-x.2[k0].2.2):=by
    unfold cycL
    rw [hk0]
    dsimp only
    rw [getD_of hkl]
   rw [hcy]
   generalize cycM x.2=m0 at *
   refine bind_of (x:=((k0:Int)::chP x.2 x.2[k0].1.toNat m0 x.2[k0].2.1.toNat (-1-x.2[k0].2.2),true,row (m0+2) fun m=>rt x.1.toNat (fun _=>x.1.toNat) (wkT x.2 m)))
    (loopM_fn (fun m=>(rt x.1.toNat (fun _=>x.1.toNat) (wkT x.2 m),row m fun m=>rt x.1.toNat (fun _=>x.1.toNat) (wkT x.2 m))) (m0+1) (fun k hk=>?_) ?_) rfl
   ·dsimp only
    refine bind_of (app_rowOf rfl (by show (k+1)*24≤140737488355328;omega)) ?_
    have elen:IntKind.wrap .i64 (lenM (row (k+1) fun m=>rt x.1.toNat (fun _=>x.1.toNat) (wkT x.2 m))-1)=(k:Int):=by rw [lenRow,wrap_in (by omega) (by omega)];omega
    rw [elen]
    refine bind_of (x:=Sum.inl ()) (loopM_is (fun j s=>s=(j:Int)) x.2.length rfl fun j s hj hs=>?_) ?_
    ·subst hs
     by_cases hlt:j<x.2.length
     ·refine .inl ⟨((j+1:Nat):Int),hlt,?_,rfl⟩
      obtain ⟨a,b,ha,hb',e1,e2,_,_⟩:=bnd_of (List.all_eq_true.1 hb _ (List.getElem_mem hlt))
      have ej:IntKind.wrap .i64 ((j:Int)+1)=((j+1:Nat):Int):=by rw [wrap_in (by omega) (by omega)];rfl
      rw [ltI (a:=(j:Int)) (b:=lenM x.2) (by show (j:Int)<(x.2.length:Int);omega),cT,idxM_lt hlt,oB]
      cases k with
      | zero =>
       rw [geI (by omega),cF,oB,cF,oB,cF,oB,cF,oB,cF,oB,andF,cF,ej]
      | succ k =>
       have e3:((k+1:Nat):Int)-1=(k:Int):=by omega
       have hno:=c3 k (by omega)
       have hpf:cst x.2 k x.2[j]=false:=by
        have:x.2.findIdx? (cst x.2 k)=none:=by
         cases hq:x.2.findIdx? (cst x.2 k) with
         | none=>rfl
         | some z=>rw [hq] at hno;cases hno
        rw [List.findIdx?_eq_none_iff] at this
        exact this _ (List.getElem_mem hlt)
       unfold cst at hpf
       have hpf:=of_decide_eq_false hpf
       have t1:x.2[j].1.toNat=a:=by omega
       have t2:x.2[j].2.1.toNat=b:=by omega
       rw [t1,t2] at hpf
       rw [ltI (by omega),cT,e3,wrap_in (n:=(k:Int)) (by omega) (by omega),chkM_of (by omega) (by rw [lenRow];omega),oB,cT,row_idx (by omega),oB,cT,e2,rt_idx hb',oB,cT,e1,row_idx ha,oB,cT,m61_pl,oB,geI (by omega),andT,cF,ej]
     ·refine .inr ?_
      have e:j=x.2.length:=by omega
      rw [e,geI (Int.le_refl _),cF]
    ·have hmk:=none_make hn
     have hfl:=far_loop hn
     rw [he] at hmk hfl
     have hnl:=next_loop hn hl hb (wkT x.2 k)
     rw [he] at hnl
     show Option.bind _ _=_
     refine bind_of hmk (bind_of hfl (bind_of hnl ?_))
     rfl
   ·dsimp only
    refine bind_of (app_rowOf rfl (by show (m0+1+1)*24≤140737488355328;omega)) ?_
    have elen:IntKind.wrap .i64 (lenM (row (m0+1+1) fun m=>rt x.1.toNat (fun _=>x.1.toNat) (wkT x.2 m))-1)=((m0+1:Nat):Int):=by rw [lenRow,wrap_in (by omega) (by omega)];omega
    rw [elen]
    have e3:((m0+1:Nat):Int)-1=(m0:Int):=by omega
    refine bind_of (x:=Sum.inr ((k0:Int)::chP x.2 x.2[k0].1.toNat m0 x.2[k0].2.1.toNat (-1-x.2[k0].2.2),true,row (m0+1+1) fun m=>rt x.1.toNat (fun _=>x.1.toNat) (wkT x.2 m))) ?_ rfl
    have hfg:=fun body h1 h2 he=>findg_loop (xs:=x.2) (cst x.2 m0) (fun j=>((j:Int)::chP x.2 (x.2.getD j (0,0,0)).1.toNat m0 (x.2.getD j (0,0,0)).2.1.toNat (-1-(x.2.getD j (0,0,0)).2.2),true,row (m0+1+1) fun m=>rt x.1.toNat (fun _=>x.1.toNat) (wkT x.2 m))) (body:=body) h1 h2 he
    rw [hk0] at hfg
    dsimp only at hfg
    rw [getD_of hkl] at hfg
    refine hfg _ (fun j hj=>?_) (fun j hj hp=>?_) ?_
    ·have ej:j=k0:=(Option.some.inj hj).symm
     subst ej
     obtain ⟨a,b,ha,hb',e1,e2,g1,g2⟩:=bnd_of (List.all_eq_true.1 hb _ (List.getElem_mem hkl))
     have t1:x.2[j].1.toNat=a:=by omega
     have t2:x.2[j].2.1.toNat=b:=by omega
     have hpt:=(cst_walk hb (by omega) (List.getElem_mem hkl)).2 hkw
     unfold cst at hpt
     have hpt:=of_decide_eq_true hpt
     rw [t1,t2] at hpt hkw
     rw [ltI (a:=(j:Int)) (b:=lenM x.2) (by show (j:Int)<(x.2.length:Int);omega),cT,idxM_lt hkl,oB]
     rw [ltI (by omega),cT,e3,wrap_in (n:=(m0:Int)) (by omega) (by omega),chkM_of (by omega) (by rw [lenRow];omega),oB,cT,row_idx (by omega),oB,cT,e2,rt_idx hb',oB,cT,e1,row_idx ha,oB,cT,m61_pl,oB,ltI hpt,andT,cT]
     rw [wrap_in (n:=-1-x.2[j].2.2) (by omega) (by omega)]
     have h44:=m62_eq (n:=x.1.toNat) hl hb (M:=m0+1+1) (to:=a) (m:=m0) (f:=b) (q:=-1-x.2[j].2.2) ha (by omega) (by omega) hb' (by omega) (by omega) hkw
     rw [he] at h44
     refine bind_of h44 ?_
     obtain ⟨k1,_⟩:=chP_fol hb ha m0 b (-1-x.2[j].2.2) 0 (by omega) hb' (by omega) (by omega) (by omega) (by omega) hkw
     refine bind_of (appM_of (by show (1+(chP x.2 a m0 b (-1-x.2[j].2.2)).length)*8≤140737488355328;omega)) ?_
     rw [getD_of hkl,t1,t2]
     rfl
    ·obtain ⟨a,b,ha,hb',e1,e2,g1,g2⟩:=bnd_of (List.all_eq_true.1 hb _ (List.getElem_mem hj))
     have t1:x.2[j].1.toNat=a:=by omega
     have t2:x.2[j].2.1.toNat=b:=by omega
     unfold cst at hp
     have hp:=of_decide_eq_false hp
     rw [t1,t2] at hp
     rw [ltI (a:=(j:Int)) (b:=lenM x.2) (by show (j:Int)<(x.2.length:Int);omega),cT,idxM_lt hj,oB]
     rw [ltI (by omega),cT,e3,wrap_in (n:=(m0:Int)) (by omega) (by omega),chkM_of (by omega) (by rw [lenRow];omega),oB,cT,row_idx (by omega),oB,cT,e2,rt_idx hb',oB,cT,e1,row_idx ha,oB,cT,m61_pl,oB,geI (by omega),andT,cF,wrap_in (by omega) (by omega)]
    ·rw [geI (Int.le_refl _),cF]
theorem folP_st {n:Nat} {bs:List (Int×Int×Int)} (hb:bs.all (bnd (n:Int))=true):∀ (l:List Int) (f:Nat) (s:Int) {e s':Int},l.length≤100→-1000000000000000+l.length*1000000000≤s→s≤1000000000000000-l.length*1000000000→folP bs l f s=some (e,s') →
  ∃ (v:Nat→Nat) (S:Nat→Int),v 0=f∧(v l.length:Int)=e∧S 0=s∧S l.length=s'∧∀ k (hk:k<l.length),0≤l[k]∧l[k]<bs.length∧bs.getD l[k].toNat (0,0,0)=((v k:Int),(v (k+1):Int),S (k+1)-S k):=by
 intro l
 induction l with
 | nil =>
  intro f s e s' _ _ _ h
  have h':some ((f:Int),s)=some (e,s'):=h
  have h1:=congrArg Prod.fst (Option.some.inj h')
  have h2:=congrArg Prod.snd (Option.some.inj h')
  simp only at h1 h2
  exact ⟨fun _=>f,fun _=>s,rfl,h1,rfl,h2,fun k hk=>absurd hk (Nat.not_lt_zero _)⟩
 | cons k l ih =>
  intro f s e s' hl h1 h2 h
  unfold folP at h
  have hl':(k::l).length=l.length+1:=rfl
  rw [hl'] at hl h1 h2
  split at h
  ·rename_i hk
   obtain ⟨k0,k1,k2⟩:=hk
   have hkl:k.toNat<bs.length:=by omega
   obtain ⟨a,b,ha,hb',e1,e2,e3,e4⟩:=bnd_of (List.all_eq_true.1 hb _ (List.getElem_mem hkl))
   have hgd:=getD_of (z:=(0,0,0)) hkl
   rw [hgd] at h k2
   rw [wrap_in (by omega) (by omega),e2] at h
   obtain ⟨v,S,g1,g2,g3,g4,g5⟩:=ih b _ (by omega) (by omega) (by omega) h
   refine ⟨fun j=>match j with | 0=>f | j+1=>v j,fun j=>match j with | 0=>s | j+1=>S j,rfl,g2,rfl,g4,fun j hj=>?_⟩
   cases j with
   | zero =>
    refine ⟨k0,k1,?_⟩
    show bs.getD k.toNat (0,0,0)=((f:Int),(v 0:Int),S 0-s)
    rw [hgd,g1,g3,← k2,← e2]
    have:s+bs[k.toNat].2.2-s=bs[k.toNat].2.2:=by omega
    rw [this]
   | succ j=>exact g5 j (by rw [hl'] at hj;omega)
  ·cases h
theorem cyc_st {x:Sys} (hs:sys x=true) (ho:ovS x=true):chkCycle x (cycL x.2)=true∧∃ (v:Nat→Nat) (S:Nat→Int),1≤(cycL x.2).length∧(cycL x.2).length≤x.1.toNat∧v 0<x.1.toNat∧v (cycL x.2).length=v 0∧S 0=0∧S (cycL x.2).length<0 ∧
  (∀ k (hk:k<(cycL x.2).length),0≤(cycL x.2)[k]∧(cycL x.2)[k]<x.2.length∧x.2.getD (cycL x.2)[k].toNat (0,0,0)=((v k:Int),(v (k+1):Int),S (k+1)-S k)) ∧
  (∀ u m w,u<x.1.toNat→m<(cycL x.2).length→WN x.2 u u m w→0≤w):=by
 obtain ⟨hn,hb,he⟩:=sys_all hs
 have hl:=(sys_bnd hs).1.2.2
 obtain ⟨c1,c2,c3⟩:=cycM_of hs ho
 obtain ⟨k0,hk0⟩:=Option.isSome_iff_exists.1 c2
 obtain ⟨hkl,hkw⟩:=of_cst hb (by omega) hk0
 obtain ⟨a,b,ha,hb',e1,e2,g1,g2⟩:=bnd_of (List.all_eq_true.1 hb _ (List.getElem_mem hkl))
 have t1:x.2[k0].1.toNat=a:=by omega
 have t2:x.2[k0].2.1.toNat=b:=by omega
 rw [t1,t2] at hkw
 have hcy:cycL x.2=(k0:Int)::chP x.2 a (cycM x.2) b (-1-x.2[k0].2.2):=by
  unfold cycL
  rw [hk0]
  dsimp only
  rw [getD_of hkl,t1,t2]
 have hmin:∀ u m w,u<x.1.toNat→m<cycM x.2+1→WN x.2 u u m w→0≤w:=fun u m w hu hm hw=>by
  refine Classical.byContradiction fun hneg=>?_
  cases m with
  | zero=>have:=hw.zero.2;omega
  | succ m =>
   have h1:=cst_of hb (by omega) hu (by omega) hw
   rw [c3 m (by omega)] at h1
   cases h1
 generalize cycM x.2=m0 at *
 obtain ⟨k1,s',k2,k3⟩:=chP_fol hb ha m0 b (-1-x.2[k0].2.2) x.2[k0].2.2 (by omega) hb' (by omega) (by omega) (by omega) (by omega) hkw
 have hlen:(cycL x.2).length=m0+1:=by rw [hcy,List.length_cons,k1]
 have hfol:folP x.2 (cycL x.2) a 0=some ((a:Int),s'):=by
  rw [hcy]
  unfold folP
  have t3:((k0:Int)).toNat=k0:=by omega
  rw [t3,getD_of hkl,if_pos ⟨by omega,by omega,e1⟩,wrap_in (by omega) (by omega),Int.zero_add,e2]
  exact k2
 refine ⟨?_,?_⟩
 ·have hR:folR x.2 (cycL x.2) a=((a:Int),s',true):=by
   unfold folR
   rw [hfol,hlen]
   dsimp only
   rw [dT (by omega)]
  rw [hcy] at hR ⊢
  unfold chkCycle
  have t3:((k0:Int)).toNat=k0:=by omega
  dsimp only
  rw [hs,t3,getD_of hkl,e1,hR,dT (by omega),dT (by omega)]
  show (true&&(true&&true)&&(true&&decide ((a:Int)=a)&&decide (s'<0)))=true
  rw [dT (show (a:Int)=a from rfl),dT (show s'<0 by omega)]
  rfl
 ·obtain ⟨v,S,h1,h2,h3,h4,h5⟩:=folP_st hb (cycL x.2) a 0 (by omega) (by omega) (by omega) hfol
  refine ⟨v,S,by omega,by omega,by omega,by omega,h3,by omega,h5,?_⟩
  rw [hlen]
  exact hmin
abbrev Fix:=Int×Int×Int×Int
abbrev Sgt:=Int×Int×Int×Int×Int
abbrev Net:=Int×List Fix×List Sgt
def inB (a b c:Int):Bool:=decide (b≤a)&&decide (a≤c)
theorem inB_iff {a b c:Int}:inB a b c=true↔b≤a∧a≤c:=by simp [inB]
def nearB (x y l:Int):Bool:=inB x (-l) l&&inB y (-l) l
def fixB (n:Int) (f:Fix):Bool:=inB f.1 0 (n-1)&&nearB f.2.1 f.2.2.1 10000&&inB f.2.2.2 0 1000
def sgtB (n:Int) (s:Sgt):Bool:=inB s.1 0 (n-1)&&inB s.2.1 0 (n-1)&&!decide (s.1=s.2.1)&&nearB s.2.2.1 s.2.2.2.1 10000&&inB s.2.2.2.2 0 1000
def nval (c:Net):Bool:=(inB c.1 0 8&&decide (c.2.1.length≤8)&&decide (c.2.2.length≤20))&&(c.2.1.all (fixB c.1)&&c.2.2.all (sgtB c.1))
theorem m27_eq (a b c:Int):m27 (a,b,c)=some (inB a b c):=rfl
theorem m38_eq {x y l:Int} (h1:-9223372036854775808<l) (h2:l≤9223372036854775807):m38 (x,y,l)=some (nearB x y l):=by
 have e:IntKind.wrap .i64 (negM l)=-l:=wrap_in (n:=-l) (by omega) (by omega)
 unfold m38 nearB
 dsimp only
 rw [e,m27_eq,m27_eq,oB]
 cases inB x (-l) l<;>rfl
theorem not_any {α:Type} (xs:List α) (p:α→Bool):(!xs.any fun x=>!p x)=xs.all p:=by
 rw [List.not_any_eq_all_not]
 simp
theorem m17_eq (c:Net):m17 c=some (nval c):=by
 obtain ⟨n,fs,ss⟩:=c
 unfold m17 nval
 dsimp only
 rw [m27_eq,oB]
 by_cases h:inB n 0 8=true∧fs.length≤8∧ss.length≤20
 ·obtain ⟨h1,h2,h3⟩:=h
  have hn:=inB_iff.1 h1
  have e0:IntKind.wrap .i64 (n-1)=n-1:=wrap_in (by omega) (by omega)
  rw [h1,geI (a:=8) (by show (fs.length:Int)≤8;omega),geI (a:=20) (by show (ss.length:Int)≤20;omega),dT h2,dT h3]
  show Option.bind _ _=_
  have L1:=any_loop (xs:=fs) (fun f=>!fixB n f) (body:=fun (s:Int) =>
        bif ltM s (lenM fs) then
         Option.bind (idxM fs s) fun (r_1:Int×Int×Int×Int) =>
          Option.bind (m27 (r_1.1,(0:Int),IntKind.wrap .i64 (n-(1:Int)))) fun (r_2:Bool) =>
           Option.bind (bif PE.notM (PE.notM r_2) then m38 (r_1.2.1,r_1.2.2.1,(10000:Int)) else some false)
            fun (r_3:Bool) =>
            Option.bind
             (bif PE.notM (PE.orM (PE.notM r_2) (PE.notM r_3)) then m27 (r_1.2.2.2,(0:Int),(1000:Int))
             else some false)
             fun (r:Bool) =>
             bif PE.orM (PE.orM (PE.notM r_2) (PE.notM r_3)) (PE.notM r) then some (Sum.inr (Sum.inr s))
             else some (Sum.inl (IntKind.wrap .i64 (s+(1:Int))))
        else some (Sum.inr (Sum.inl ()))) (fun k hk=>by
    rw [ltI (by show (k:Int)<(fs.length:Int);omega),cT,idxM_lt hk,oB,m27_eq,oB,m38_eq (by omega) (by omega),m27_eq,e0,wrap_in (n:=(k:Int)+1) (by omega) (by omega)]
    unfold fixB
    generalize fs[k]=f
    cases inB f.1 0 (n-1)<;>cases nearB f.2.1 f.2.2.1 10000<;>cases inB f.2.2.2 0 1000<;>rfl) (by rw [geI (by show (fs.length:Int)≤(fs.length:Int);omega),cF])
  have L2:=any_loop (xs:=ss) (fun f=>!sgtB n f) (body:=fun (s:Int) =>
           bif ltM s (lenM ss) then
            Option.bind (idxM ss s) fun (r_1:Int×Int×Int×Int×Int) =>
             Option.bind (m27 (r_1.1,(0:Int),IntKind.wrap .i64 (n-(1:Int))))
              fun (r_2:Bool) =>
              Option.bind
               (bif PE.notM (PE.notM r_2) then
                m27 (r_1.2.1,(0:Int),IntKind.wrap .i64 (n-(1:Int)))
               else some false)
               fun (r_3:Bool) =>
               Option.bind
                (bif PE.notM (PE.orM (PE.orM (PE.notM r_2) (PE.notM r_3)) (eqM r_1.1 r_1.2.1)) then
                 m38 (r_1.2.2.1,r_1.2.2.2.1,(10000:Int))
                else some false)
                fun (r_4:Bool) =>
                Option.bind
                 (bif
                   PE.notM
                    (PE.orM (PE.orM (PE.orM (PE.notM r_2) (PE.notM r_3)) (eqM r_1.1 r_1.2.1))
                     (PE.notM r_4)) then
                  m27 (r_1.2.2.2.2,(0:Int),(1000:Int))
                 else some false)
                 fun (r:Bool) =>
                 bif
                   PE.orM
                    (PE.orM (PE.orM (PE.orM (PE.notM r_2) (PE.notM r_3)) (eqM r_1.1 r_1.2.1))
                     (PE.notM r_4))
                    (PE.notM r) then
                  some (Sum.inr (Sum.inr s))
                 else some (Sum.inl (IntKind.wrap .i64 (s+(1:Int))))
           else some (Sum.inr (Sum.inl ()))) (fun k hk=>by
    rw [ltI (by show (k:Int)<(ss.length:Int);omega),cT,idxM_lt hk,oB,m27_eq,oB,m27_eq,m38_eq (by omega) (by omega),m27_eq,e0,wrap_in (n:=(k:Int)+1) (by omega) (by omega)]
    unfold sgtB
    generalize ss[k]=f
    have ee:eqM f.1 f.2.1=decide (f.1=f.2.1):=rfl
    rw [ee]
    cases inB f.1 0 (n-1)<;>cases inB f.2.1 0 (n-1)<;>cases decide (f.1=f.2.1)<;>cases nearB f.2.2.1 f.2.2.2.1 10000<;>cases inB f.2.2.2.2 0 1000<;>rfl) (by rw [geI (by show (ss.length:Int)≤(ss.length:Int);omega),cF])
  obtain ⟨ov,hov,hb⟩:=Option.bind_eq_some_iff.1 L1
  have hb:=Option.some.inj hb
  refine bind_of hov ?_
  rw [hb]
  have e9:∀ b:Bool,(Option.bind (bif PE.notM b then (some (ss.any fun f=>!sgtB n f)) else some false) fun (ov_1:Bool)=>some (PE.andM (PE.notM b) (PE.notM ov_1)))=some (!b&&!ss.any fun f=>!sgtB n f):=fun b=>by cases b<;>rfl
  rw [L2,e9]
  rw [← not_any fs (fixB n),← not_any ss (sgtB n)]
  rfl
 ·have e1:PE.orM (PE.orM (PE.notM (inB n 0 8)) (ltM 8 (lenM fs))) (ltM 20 (lenM ss))=!(inB n 0 8&&decide (fs.length≤8)&&decide (ss.length≤20)):=by
   have a1:ltM 8 (lenM fs)=!decide (fs.length≤8):=by
    by_cases h8:fs.length≤8
    ·rw [geI (by show (fs.length:Int)≤8;omega),dT h8];rfl
    ·rw [ltI (by show (8:Int)<(fs.length:Int);omega),decide_eq_false h8];rfl
   have a2:ltM 20 (lenM ss)=!decide (ss.length≤20):=by
    by_cases h8:ss.length≤20
    ·rw [geI (by show (ss.length:Int)≤20;omega),dT h8];rfl
    ·rw [ltI (by show (20:Int)<(ss.length:Int);omega),decide_eq_false h8];rfl
   rw [a1,a2]
   cases inB n 0 8<;>cases decide (fs.length≤8)<;>cases decide (ss.length≤20)<;>rfl
  have e2:(inB n 0 8&&decide (fs.length≤8)&&decide (ss.length≤20))=false:=by
   rw [Bool.eq_false_iff]
   intro hh
   simp only [Bool.and_eq_true,decide_eq_true_eq] at hh
   exact h ⟨hh.1.1,hh.1.2,hh.2⟩
  rw [e1,e2]
  rfl
abbrev Obs:=Int×Int×Int×Int
def two (o:Obs):List (Int×Int×Int):=[(o.1,o.2.1,o.2.2.1+o.2.2.2),(o.2.1,o.1,o.2.2.2-o.2.2.1)]
def bds (os:List Obs):List (Int×Int×Int):=os.flatMap two
def fOb (d:Fix→Int) (n:Int) (f:Fix):Obs:=(n,f.1,d f,f.2.2.2)
def sOb (d:Sgt→Int) (s:Sgt):Obs:=(s.1,s.2.1,d s,s.2.2.2.2)
def obs (d1:Fix→Int) (d2:Sgt→Int) (c:Net):List Obs:=c.2.1.map (fOb d1 c.1)++c.2.2.map (sOb d2)
def fX (f:Fix):Int:=f.2.1
def fY (f:Fix):Int:=f.2.2.1
def sX (s:Sgt):Int:=s.2.2.1
def sY (s:Sgt):Int:=s.2.2.2.1
def obX (c:Net):List Obs:=obs fX sX c
def obY (c:Net):List Obs:=obs fY sY c
def axX (c:Net):Sys:=(c.1+1,bds (obX c))
def axY (c:Net):Sys:=(c.1+1,bds (obY c))
theorem bds_len (os:List Obs):(bds os).length=2*os.length:=by
 induction os with
 | nil=>rfl
 | cons o r ih =>
  show (two o++bds r).length=_
  rw [List.length_append,ih]
  simp [two];omega
theorem bds_app (a b:List Obs):bds (a++b)=bds a++bds b:=by
 unfold bds
 rw [List.flatMap_append]
theorem bds_step {α:Type} {f:α→Obs} {xs:List α} {k:Nat} (hk:k<xs.length):bds ((xs.take (k+1)).map f)=bds ((xs.take k).map f)++two (f xs[k]):=by
 rw [List.take_succ_eq_append_getElem hk,List.map_append,bds_app]
 simp [bds]
theorem mem_bds {os:List Obs} {a b m:Int}:(a,b,m)∈bds os↔∃ o∈os,(a=o.1∧b=o.2.1∧m=o.2.2.1+o.2.2.2)∨(a=o.2.1∧b=o.1∧m=o.2.2.2-o.2.2.1):=by
 unfold bds
 rw [List.mem_flatMap]
 constructor
 ·rintro ⟨o,ho,h⟩
  refine ⟨o,ho,?_⟩
  unfold two at h
  rcases List.mem_cons.1 h with h | h
  ·injection h with h1 h2
   injection h2 with h2 h3
   exact .inl ⟨h1,h2,h3⟩
  ·rcases List.mem_cons.1 h with h | h
   ·injection h with h1 h2
    injection h2 with h2 h3
    exact .inr ⟨h1,h2,h3⟩
   ·cases h
 ·rintro ⟨o,ho,⟨rfl,rfl,rfl⟩ | ⟨rfl,rfl,rfl⟩⟩
  ·exact ⟨o,ho,List.mem_cons_self ..⟩
  ·exact ⟨o,ho,List.mem_cons_of_mem _ (List.mem_cons_self ..)⟩
structure NOK (c:Net):Prop where
 n0:0≤c.1
 n8:c.1≤8
 fl:c.2.1.length≤8
 sl:c.2.2.length≤20
 fx:∀ f∈c.2.1,0≤f.1∧f.1<c.1∧-10000≤f.2.1∧f.2.1≤10000∧-10000≤f.2.2.1∧f.2.2.1≤10000∧0≤f.2.2.2∧f.2.2.2≤1000
 sg:∀ s∈c.2.2,0≤s.1∧s.1<c.1∧0≤s.2.1∧s.2.1<c.1∧s.1≠s.2.1∧-10000≤s.2.2.1∧s.2.2.1≤10000∧-10000≤s.2.2.2.1∧s.2.2.2.1≤10000∧0≤s.2.2.2.2∧s.2.2.2.2≤1000
theorem fixB_iff {n:Int} {f:Fix}:fixB n f=true↔0≤f.1∧f.1<n∧-10000≤f.2.1∧f.2.1≤10000∧-10000≤f.2.2.1∧f.2.2.1≤10000∧0≤f.2.2.2∧f.2.2.2≤1000:=by
 unfold fixB nearB
 simp only [Bool.and_eq_true,inB_iff]
 constructor
 ·rintro ⟨⟨⟨h1,h2⟩,⟨h3,h4⟩,h5,h6⟩,h7,h8⟩
  exact ⟨h1,by omega,h3,h4,h5,h6,h7,h8⟩
 ·rintro ⟨h1,h2,h3,h4,h5,h6,h7,h8⟩
  exact ⟨⟨⟨h1,by omega⟩,⟨h3,h4⟩,h5,h6⟩,h7,h8⟩
theorem sgtB_iff {n:Int} {s:Sgt}:sgtB n s=true↔0≤s.1∧s.1<n∧0≤s.2.1∧s.2.1<n∧s.1≠s.2.1∧-10000≤s.2.2.1∧s.2.2.1≤10000∧-10000≤s.2.2.2.1∧s.2.2.2.1≤10000∧0≤s.2.2.2.2∧s.2.2.2.2≤1000:=by
 unfold sgtB nearB
 simp only [Bool.and_eq_true,inB_iff,Bool.not_eq_true',decide_eq_false_iff_not]
 constructor
 ·rintro ⟨⟨⟨⟨⟨h1,h2⟩,h3,h4⟩,h5⟩,⟨h6,h7⟩,h8,h9⟩,h10,h11⟩
  exact ⟨h1,by omega,h3,by omega,h5,h6,h7,h8,h9,h10,h11⟩
 ·rintro ⟨h1,h2,h3,h4,h5,h6,h7,h8,h9,h10,h11⟩
  exact ⟨⟨⟨⟨⟨h1,by omega⟩,h3,by omega⟩,h5⟩,⟨h6,h7⟩,h8,h9⟩,h10,h11⟩
theorem nval_iff {c:Net}:nval c=true↔NOK c:=by
 unfold nval
 simp only [Bool.and_eq_true,inB_iff,decide_eq_true_eq,List.all_eq_true,fixB_iff,sgtB_iff]
 constructor
 ·rintro ⟨⟨⟨⟨h1,h2⟩,h3⟩,h4⟩,h5,h6⟩
  exact ⟨h1,h2,h3,h4,h5,h6⟩
 ·rintro ⟨h1,h2,h3,h4,h5,h6⟩
  exact ⟨⟨⟨⟨h1,h2⟩,h3⟩,h4⟩,h5,h6⟩
def dOk (d1:Fix→Int) (d2:Sgt→Int) (c:Net):Prop:=(∀ f∈c.2.1,-10000≤d1 f∧d1 f≤10000)∧∀ s∈c.2.2,-10000≤d2 s∧d2 s≤10000
theorem NOK.dx {c:Net} (h:NOK c):dOk fX sX c:=⟨fun f hf=>by have:=h.fx f hf;unfold fX;omega,fun s hs=>by have:=h.sg s hs;unfold sX;omega⟩
theorem NOK.dy {c:Net} (h:NOK c):dOk fY sY c:=⟨fun f hf=>by have:=h.fx f hf;unfold fY;omega,fun s hs=>by have:=h.sg s hs;unfold sY;omega⟩
theorem obs_len (d1:Fix→Int) (d2:Sgt→Int) (c:Net):(obs d1 d2 c).length=c.2.1.length+c.2.2.length:=by simp [obs]
theorem obs_mem {c:Net} (h:NOK c) {d1:Fix→Int} {d2:Sgt→Int} (hd:dOk d1 d2 c) {o:Obs} (ho:o∈obs d1 d2 c):0≤o.1∧o.1≤c.1∧0≤o.2.1∧o.2.1<c.1∧o.1≠o.2.1∧-10000≤o.2.2.1∧o.2.2.1≤10000∧0≤o.2.2.2∧o.2.2.2≤1000:=by
 rcases List.mem_append.1 ho with ho | ho
 ·obtain ⟨f,hf,rfl⟩:=List.mem_map.1 ho
  have h1:=h.fx f hf
  have h2:=hd.1 f hf
  have h0:=h.n0
  unfold fOb
  dsimp only
  omega
 ·obtain ⟨s,hs,rfl⟩:=List.mem_map.1 ho
  have h1:=h.sg s hs
  have h2:=hd.2 s hs
  unfold sOb
  dsimp only
  omega
theorem ax_sys {c:Net} (h:NOK c) {d1:Fix→Int} {d2:Sgt→Int} (hd:dOk d1 d2 c):sys (c.1+1,bds (obs d1 d2 c))=true:=by
 unfold sys
 rw [Bool.and_eq_true]
 have h0:=h.n0
 have h8:=h.n8
 have hf:=h.fl
 have hs:=h.sl
 refine ⟨dT ⟨by show 0≤c.1+1;omega,by show c.1+1≤16;omega,by show (bds _).length≤60;rw [bds_len,obs_len];omega⟩,List.all_eq_true.2 fun b hb=>?_⟩
 obtain ⟨a,b',m⟩:=b
 obtain ⟨o,ho,hh⟩:=mem_bds.1 hb
 have hm:=obs_mem h hd ho
 unfold bnd
 apply dT
 dsimp only
 rcases hh with ⟨rfl,rfl,rfl⟩ | ⟨rfl,rfl,rfl⟩<;>omega
theorem sysX {c:Net} (h:NOK c):sys (axX c)=true:=ax_sys h h.dx
theorem sysY {c:Net} (h:NOK c):sys (axY c)=true:=ax_sys h h.dy
theorem axX_n {c:Net} (h:NOK c):(axX c).1.toNat=c.1.toNat+1:=by
 have h0:=h.n0
 show (c.1+1).toNat=_
 omega
theorem axY_n {c:Net} (h:NOK c):(axY c).1.toNat=c.1.toNat+1:=by
 have h0:=h.n0
 show (c.1+1).toNat=_
 omega
theorem app_two {bs:List (Int×Int×Int)} {a b d t:Int} (hl:bs.length≤1000) (h1:-10000≤d) (h2:d≤10000) (h3:0≤t) (h4:t≤1000) :
  appM (nat_lit 24) bs [(a,b,IntKind.wrap .i64 (d+t)),(b,a,IntKind.wrap .i64 (t-d))]=some (bs++two (a,b,d,t)):=by
 rw [wrap_in (n:=d+t) (by omega) (by omega),wrap_in (n:=t-d) (by omega) (by omega)]
 exact appM_of (by simp;omega)
theorem m32_eq {c:Net} (h:NOK c):m32 c=some (axX c,axY c):=by
 obtain ⟨n,fs,ss⟩:=c
 have h0:=h.n0
 have h8:=h.n8
 have hfl:=h.fl
 have hsl:=h.sl
 have hfx:=h.fx
 have hsg:=h.sg
 dsimp only at h0 h8 hfl hsl hfx hsg
 have e1:IntKind.wrap .i64 (n+1)=n+1:=wrap_in (by omega) (by omega)
 unfold m32
 dsimp only
 rw [e1]
 refine bind_of (x:=(n+1,n+1,bds (fs.map (fOb fX n)),bds (fs.map (fOb fY n)))) ?_ ?_
 ·refine count_loop (fun k=>(n+1,n+1,bds ((fs.take k).map (fOb fX n)),bds ((fs.take k).map (fOb fY n)))) fs.length (fun k hk=>?_) ?_
  ·have hb:=hfx _ (List.getElem_mem hk)
   dsimp only
   rw [ltI (by show (k:Int)<(fs.length:Int);omega),cT,idxM_lt hk,oB]
   show Option.bind (some fs[k].2.1) _=_
   rw [oB,app_two (by rw [bds_len];simp;omega) (by omega) (by omega) (by omega) (by omega),oB]
   show Option.bind (some fs[k].2.2.1) _=_
   rw [oB,app_two (by rw [bds_len];simp;omega) (by omega) (by omega) (by omega) (by omega),oB,bds_step hk,bds_step hk,wrap_in (by omega) (by omega)]
   rfl
  ·dsimp only
   rw [geI (by show (fs.length:Int)≤(fs.length:Int);omega),cF,List.take_length]
 dsimp only
 refine bind_of (x:=(n+1,n+1,bds (obX (n,fs,ss)),bds (obY (n,fs,ss)))) ?_ rfl
 have ex:bds (obX (n,fs,ss))=bds (fs.map (fOb fX n))++bds ((ss.take ss.length).map (sOb sX)):=by rw [List.take_length];exact bds_app _ _
 have ey:bds (obY (n,fs,ss))=bds (fs.map (fOb fY n))++bds ((ss.take ss.length).map (sOb sY)):=by rw [List.take_length];exact bds_app _ _
 rw [ex,ey]
 have e00:∀ g:Fix→Obs,bds (fs.map g)=bds (fs.map g)++bds ((ss.take 0).map (sOb sX)):=fun g=>by simp [bds]
 have e01:∀ g:Fix→Obs,bds (fs.map g)=bds (fs.map g)++bds ((ss.take 0).map (sOb sY)):=fun g=>by simp [bds]
 have hlen:∀ (g:Fix→Obs) (d:Sgt→Int) k,k<ss.length→(bds (fs.map g)++bds ((ss.take k).map (sOb d))).length≤1000:=fun g d k hk=>by
  rw [List.length_append,bds_len,bds_len];simp;omega
 have L:=count_loop (body:=fun (s:Int×Int×Int×List (Int×Int×Int)×List (Int×Int×Int)) =>
      bif ltM s.1 (lenM ss) then
       Option.bind (idxM ss s.1) fun (r:Int×Int×Int×Int×Int) =>
        Option.bind (m56 (r.2.2.1,r.2.2.2.1)) fun (r_1:Int) =>
         Option.bind
          (appM (nat_lit 24) s.2.2.2.1
           [(r.1,r.2.1,IntKind.wrap .i64 (r_1+r.2.2.2.2)),
            (r.2.1,r.1,IntKind.wrap .i64 (r.2.2.2.2-r_1))])
          fun (r_2:List (Int×Int×Int)) =>
          Option.bind (m57 (r.2.2.1,r.2.2.2.1)) fun (r_3:Int) =>
           Option.bind
            (appM (nat_lit 24) s.2.2.2.2
             [(r.1,r.2.1,IntKind.wrap .i64 (r_3+r.2.2.2.2)),
              (r.2.1,r.1,IntKind.wrap .i64 (r.2.2.2.2-r_3))])
            fun (r:List (Int×Int×Int)) =>
            some (Sum.inl (IntKind.wrap .i64 (s.1+(1:Int)),s.2.1,s.2.2.1,r_2,r))
      else some (Sum.inr (s.2.1,s.2.2.1,s.2.2.2.1,s.2.2.2.2))) (fun k=>(n+1,n+1,bds (fs.map (fOb fX n))++bds ((ss.take k).map (sOb sX)),bds (fs.map (fOb fY n))++bds ((ss.take k).map (sOb sY)))) ss.length
   (r:=(n+1,n+1,bds (fs.map (fOb fX n))++bds ((ss.take ss.length).map (sOb sX)),bds (fs.map (fOb fY n))++bds ((ss.take ss.length).map (sOb sY)))) (fun k hk=>by
  have hb:=hsg _ (List.getElem_mem hk)
  dsimp only
  rw [ltI (by show (k:Int)<(ss.length:Int);omega),cT,idxM_lt hk,oB]
  show Option.bind (some ss[k].2.2.1) _=_
  rw [oB,app_two (hlen _ _ _ hk) (by omega) (by omega) (by omega) (by omega),oB]
  show Option.bind (some ss[k].2.2.2.1) _=_
  rw [oB,app_two (hlen _ _ _ hk) (by omega) (by omega) (by omega) (by omega),oB,bds_step hk,bds_step hk,wrap_in (by omega) (by omega),List.append_assoc,List.append_assoc]
  rfl) (by
  dsimp only
  rw [geI (by show (ss.length:Int)≤(ss.length:Int);omega),cF])
 rw [← e00,← e01] at L
 exact L
theorem m53_any {c:Net} (h:NOK c) {d1:Fix→Int} {d2:Sgt→Int} (hd:dOk d1 d2 c) {ax:Int} (hax:(∀ f:Fix,idxM [f.2.1,f.2.2.1] ax=some (d1 f))∧∀ s:Sgt,idxM [s.2.2.1,s.2.2.2.1] ax=some (d2 s)):m53 (c,ax)=some (c.1+1,bds (obs d1 d2 c)):=by
 obtain ⟨n,fs,ss⟩:=c
 have h0:=h.n0
 have h8:=h.n8
 have hfl:=h.fl
 have hsl:=h.sl
 have hfx:=h.fx
 have hsg:=h.sg
 obtain ⟨hd1,hd2⟩:=hd
 dsimp only at h0 h8 hfl hsl hfx hsg hd1 hd2
 have e1:IntKind.wrap .i64 (n+1)=n+1:=wrap_in (by omega) (by omega)
 unfold m53
 dsimp only
 rw [e1]
 refine bind_of (x:=(n+1,bds (fs.map (fOb d1 n)))) ?_ ?_
 ·refine count_loop (fun k=>(n+1,bds ((fs.take k).map (fOb d1 n)))) fs.length (fun k hk=>?_) ?_
  ·have hb:=hfx _ (List.getElem_mem hk)
   have hb2:=hd1 _ (List.getElem_mem hk)
   dsimp only
   rw [ltI (by show (k:Int)<(fs.length:Int);omega),cT,idxM_lt hk,oB,hax.1,oB,app_two (by rw [bds_len];simp;omega) (by omega) (by omega) (by omega) (by omega),oB,bds_step hk,wrap_in (by omega) (by omega)]
   rfl
  ·dsimp only
   rw [geI (by show (fs.length:Int)≤(fs.length:Int);omega),cF,List.take_length]
 dsimp only
 refine bind_of (x:=(n+1,bds (obs d1 d2 (n,fs,ss)))) ?_ rfl
 have ex:bds (obs d1 d2 (n,fs,ss))=bds (fs.map (fOb d1 n))++bds ((ss.take ss.length).map (sOb d2)):=by rw [List.take_length];exact bds_app _ _
 rw [ex]
 have e00:bds (fs.map (fOb d1 n))=bds (fs.map (fOb d1 n))++bds ((ss.take 0).map (sOb d2)):=by simp [bds]
 have L:=count_loop (body:=fun (s:Int×Int×List (Int×Int×Int)) =>
      bif ltM s.1 (lenM ss) then
       Option.bind (idxM ss s.1) fun (r:Int×Int×Int×Int×Int) =>
        Option.bind (idxM [r.2.2.1,r.2.2.2.1] ax) fun (r_1:Int) =>
         Option.bind
          (appM (nat_lit 24) s.2.2
           [(r.1,r.2.1,IntKind.wrap .i64 (r_1+r.2.2.2.2)),
            (r.2.1,r.1,IntKind.wrap .i64 (r.2.2.2.2-r_1))])
          fun (r:List (Int×Int×Int)) =>
          some (Sum.inl (IntKind.wrap .i64 (s.1+(1:Int)),s.2.1,r))
      else some (Sum.inr (s.2.1,s.2.2))) (fun k=>(n+1,bds (fs.map (fOb d1 n))++bds ((ss.take k).map (sOb d2)))) ss.length
   (r:=(n+1,bds (fs.map (fOb d1 n))++bds ((ss.take ss.length).map (sOb d2)))) (fun k hk=>by
  have hb:=hsg _ (List.getElem_mem hk)
  have hb2:=hd2 _ (List.getElem_mem hk)
  dsimp only
  rw [ltI (by show (k:Int)<(ss.length:Int);omega),cT,idxM_lt hk,oB,hax.2,oB,app_two (by rw [List.length_append,bds_len,bds_len];simp;omega) (by omega) (by omega) (by omega) (by omega),oB,bds_step hk,wrap_in (by omega) (by omega),List.append_assoc]
  rfl) (by
  dsimp only
  rw [geI (by show (ss.length:Int)≤(ss.length:Int);omega),cF])
 rw [← e00] at L
 exact L
theorem m53_X {c:Net} (h:NOK c):m53 (c,0)=some (axX c):=m53_any h h.dx ⟨fun _=>rfl,fun _=>rfl⟩
theorem m53_Y {c:Net} (h:NOK c):m53 (c,1)=some (axY c):=m53_any h h.dy ⟨fun _=>rfl,fun _=>rfl⟩
abbrev Bx:=Int×Int×Int×Int
theorem wk_map {bs bs':List (Int×Int×Int)} (h:∀ a b:Nat,∀ m:Int,((a:Int),(b:Int),m)∈bs→∃ m',((a:Int),(b:Int),m')∈bs') {i j:Nat} {w:Int} (hw:Wk bs i j w):∃ w',Wk bs' i j w':=by
 induction hw with
 | nil=>exact ⟨0,.nil _⟩
 | snoc _ hm ih =>
  obtain ⟨w',h1⟩:=ih
  obtain ⟨m',h2⟩:=h _ _ _ hm
  exact ⟨_,h1.snoc h2⟩
theorem wk_rev {bs bs':List (Int×Int×Int)} (h:∀ a b:Nat,∀ m:Int,((a:Int),(b:Int),m)∈bs→∃ m',((b:Int),(a:Int),m')∈bs') {i j:Nat} {w:Int} (hw:Wk bs i j w):∃ w',Wk bs' j i w':=by
 induction hw with
 | nil=>exact ⟨0,.nil _⟩
 | snoc _ hm ih =>
  obtain ⟨w',h1⟩:=ih
  obtain ⟨m',h2⟩:=h _ _ _ hm
  exact ⟨_,.cons h2 h1⟩
theorem obs_other {d1 d1':Fix→Int} {d2 d2':Sgt→Int} {c:Net} {o:Obs} (h:o∈obs d1 d2 c):∃ o'∈obs d1' d2' c,o'.1=o.1∧o'.2.1=o.2.1∧o'.2.2.2=o.2.2.2:=by
 rcases List.mem_append.1 h with h | h
 ·obtain ⟨f,hf,rfl⟩:=List.mem_map.1 h
  exact ⟨fOb d1' c.1 f,List.mem_append.2 (.inl (List.mem_map.2 ⟨f,hf,rfl⟩)),rfl,rfl,rfl⟩
 ·obtain ⟨f,hf,rfl⟩:=List.mem_map.1 h
  exact ⟨sOb d2' f,List.mem_append.2 (.inr (List.mem_map.2 ⟨f,hf,rfl⟩)),rfl,rfl,rfl⟩
theorem bds_other {d1 d1':Fix→Int} {d2 d2':Sgt→Int} {c:Net} {a b m:Int} (h:(a,b,m)∈bds (obs d1 d2 c)):(∃ m',(a,b,m')∈bds (obs d1' d2' c))∧∃ m',(b,a,m')∈bds (obs d1' d2' c):=by
 obtain ⟨o,ho,hh⟩:=mem_bds.1 h
 obtain ⟨o',ho',e1,e2,_⟩:=obs_other (d1':=d1') (d2':=d2') ho
 rcases hh with ⟨rfl,rfl,rfl⟩ | ⟨rfl,rfl,rfl⟩
 ·exact ⟨⟨_,mem_bds.2 ⟨o',ho',.inl ⟨e1.symm,e2.symm,rfl⟩⟩⟩,⟨_,mem_bds.2 ⟨o',ho',.inr ⟨e2.symm,e1.symm,rfl⟩⟩⟩⟩
 ·exact ⟨⟨_,mem_bds.2 ⟨o',ho',.inr ⟨e2.symm,e1.symm,rfl⟩⟩⟩,⟨_,mem_bds.2 ⟨o',ho',.inl ⟨e1.symm,e2.symm,rfl⟩⟩⟩⟩
def Cn (c:Net) (i j:Nat):Prop:=∃ w,Wk (axX c).2 i j w
theorem Cn.refl (c:Net) (i:Nat):Cn c i i:=⟨0,.nil i⟩
theorem Cn.trans {c:Net} {i j k:Nat} (h:Cn c i j) (h2:Cn c j k):Cn c i k:=by
 obtain ⟨w,h⟩:=h
 obtain ⟨w2,h2⟩:=h2
 exact ⟨_,h.trans h2⟩
theorem Cn.symm {c:Net} {i j:Nat} (h:Cn c i j):Cn c j i:=by
 obtain ⟨w,h⟩:=h
 exact wk_rev (fun a b m hm=>(bds_other hm).2) h
theorem cn_Y {c:Net} {i j:Nat}:Cn c i j↔∃ w,Wk (axY c).2 i j w :=
 ⟨fun ⟨w,h⟩=>wk_map (fun a b m hm=>(bds_other hm).1) h,fun ⟨w,h⟩=>wk_map (fun a b m hm=>(bds_other hm).1) h⟩
def okN (c:Net):Bool:=!ovS (axX c)&&!ovS (axY c)
theorem okN_iff {c:Net}:okN c=true↔ovS (axX c)=false∧ovS (axY c)=false:=by
 unfold okN
 simp
abbrev fX' (c:Net):Tab:=fwS (axX c)
abbrev fY' (c:Net):Tab:=fwS (axY c)
structure Axis (c:Net) (f:Tab) (bs:List (Int×Int×Int)):Prop where
 cn:∀ i j,i≤c.1.toNat→j≤c.1.toNat→(f i j≠1152921504606846976↔Cn c i j)
 bd:∀ i j,i≤c.1.toNat→j≤c.1.toNat→f i j≠1152921504606846976→-100000000000000000≤f i j∧f i j≤100000000000000000
 self:∀ i,i≤c.1.toNat→f i i=0
 tri:∀ i k j,i≤c.1.toNat→k≤c.1.toNat→j≤c.1.toNat→Cn c i k→Cn c k j→f i j≤f i k+f k j
 wk:∀ i j,i≤c.1.toNat→j≤c.1.toNat→Cn c i j→Wk bs i j (f i j)
 le:∀ i j w,i≤c.1.toNat→j≤c.1.toNat→Wk bs i j w→f i j≤w
theorem axis_of {c:Net} {x:Sys} (hs:sys x=true) (ho:ovS x=false) (hn:x.1.toNat=c.1.toNat+1) (hcn:∀ i j,Cn c i j↔∃ w,Wk x.2 i j w):Axis c (fwS x) x.2 where
 cn i j hi hj:=by
  rcases fw_cases hs ho (i:=i) (j:=j) (by omega) (by omega) with ⟨e,h⟩ | ⟨e1,e2,e3,_⟩
  ·rw [hcn]
   exact ⟨fun h'=>absurd e h',fun ⟨w,hw⟩=>absurd hw (h w)⟩
  ·rw [hcn]
   exact ⟨fun _=>⟨_,e3⟩,fun _=>by omega⟩
 bd i j hi hj h:=by
  rcases fw_cases hs ho (i:=i) (j:=j) (by omega) (by omega) with ⟨e,_⟩ | ⟨e1,e2,_,_⟩
  ·exact absurd e h
  ·exact ⟨e1,e2⟩
 self i hi:=fw_self ho (by omega)
 tri i k j hi hk hj h1 h2:=by
  have a:∀ i j,i≤c.1.toNat→j≤c.1.toNat→Cn c i j→fwS x i j<1000000000000000000:=fun i j hi hj h=>by
   obtain ⟨w,hw⟩:=(hcn i j).1 h
   rcases fw_cases hs ho (i:=i) (j:=j) (by omega) (by omega) with ⟨_,e⟩ | ⟨_,e,_⟩
   ·exact absurd hw (e w)
   ·omega
  exact fw_tri' hs ho (by omega) (by omega) (by omega) (a _ _ hi hk h1) (a _ _ hk hj h2)
 wk i j hi hj h:=by
  obtain ⟨w,hw⟩:=(hcn i j).1 h
  rcases fw_cases hs ho (i:=i) (j:=j) (by omega) (by omega) with ⟨_,e⟩ | ⟨_,_,e,_⟩
  ·exact absurd hw (e w)
  ·exact e
 le i j w hi hj hw:=by
  rcases fw_cases hs ho (i:=i) (j:=j) (by omega) (by omega) with ⟨_,e⟩ | ⟨_,_,_,e⟩
  ·exact absurd hw (e w)
  ·exact e w hw
theorem axisX {c:Net} (h:NOK c) (ho:okN c=true):Axis c (fX' c) (axX c).2:=axis_of (sysX h) (okN_iff.1 ho).1 (axX_n h) fun _ _=>Iff.rfl
theorem axisY {c:Net} (h:NOK c) (ho:okN c=true):Axis c (fY' c) (axY c).2:=axis_of (sysY h) (okN_iff.1 ho).2 (axY_n h) fun _ _=>cn_Y
def cnB (c:Net) (i j:Nat):Bool:=decide (fX' c i j≠1152921504606846976)
def boxR (c:Net) (i j:Nat):Bx:=(-fX' c j i,fX' c i j,-fY' c j i,fY' c i j)
def apM (c:Net) (i j:Nat):Bx×Int:=if okN c=true∧cnB c i j=true then (boxR c i j,0) else ((0,0,0,0),100)
theorem m28_eq {c:Net} (h:NOK c) {i j:Nat} (hi:i≤c.1.toNat) (hj:j≤c.1.toNat):m28 (c,(i:Int),(j:Int))=some (apM c i j):=by
 unfold m28
 dsimp only
 refine bind_of (m32_eq h) ?_
 dsimp only
 have hX:=m54_bad (sysX h)
 have hY:=m54_bad (sysY h)
 have gX:=m54_good (sysX h)
 have gY:=m54_good (sysY h)
 unfold apM okN
 cases ox:ovS (axX c) with
 | true =>
  refine bind_of (hX ox) ?_
  cases oy:ovS (axY c) with
  | true =>
   refine bind_of (hY oy) ?_
   rfl
  | false =>
   refine bind_of (gY oy) ?_
   rfl
 | false =>
  refine bind_of (gX ox) ?_
  cases oy:ovS (axY c) with
  | true =>
   refine bind_of (hY oy) ?_
   rfl
  | false =>
   refine bind_of (gY oy) ?_
   have nX:=axX_n h
   have nY:=axY_n h
   have ho:okN c=true:=by unfold okN;rw [ox,oy];rfl
   have aX:=axisX h ho
   have aY:=axisY h ho
   dsimp only
   rw [eqI rfl,notT,orF,notF,cT,rt_idx (by omega),oB,cT,row_idx (by omega),oB,orF]
   by_cases hc:fX' c i j=1152921504606846976
   ·rw [eqI hc,cT,if_neg]
    rintro ⟨_,h2⟩
    unfold cnB at h2
    exact of_decide_eq_true h2 hc
   ·have hcn:=(aX.cn i j hi hj).1 hc
    have b1:-100000000000000000≤fwS (axX c) j i∧fwS (axX c) j i≤100000000000000000:=aX.bd j i hj hi ((aX.cn j i hj hi).2 hcn.symm)
    have b2:-100000000000000000≤fwS (axY c) j i∧fwS (axY c) j i≤100000000000000000:=aY.bd j i hj hi ((aY.cn j i hj hi).2 hcn.symm)
    have p1:j<(axX c).1.toNat:=by omega
    have p2:i<(axX c).1.toNat:=by omega
    have p3:j<(axY c).1.toNat:=by omega
    have p4:i<(axY c).1.toNat:=by omega
    rw [neI hc,cF]
    simp only [rt_idx p1,rt_idx p2,rt_idx p3,rt_idx p4,row_idx p1,row_idx p2,row_idx p3,row_idx p4,oB]
    rw [if_pos ⟨rfl,by unfold cnB;exact dT hc⟩]
    unfold PE.negM boxR
    rw [wrap_in (n:=-fwS (axX c) j i) (by omega) (by omega),wrap_in (n:=-fwS (axY c) j i) (by omega) (by omega)]
def err:Bx×Int:=((0,0,0,0),100)
def aptR (c:Net) (p q:Int):Bx×Int:=if nval c=true∧inB p 0 (c.1-1)=true∧inB q 0 (c.1-1)=true then apM c p.toNat q.toNat else err
def boxQ (c:Net) (p:Int):Bx×Int:=if nval c=true∧inB p 0 (c.1-1)=true then apM c c.1.toNat p.toNat else err
theorem m11_eq (c:Net) (p q:Int):m11 (c,p,q)=some (aptR c p q):=by
 unfold m11 aptR
 dsimp only
 rw [m17_eq,oB]
 cases hv:nval c with
 | false =>
  rw [if_neg (by rintro ⟨h,_⟩;cases h)]
  rfl
 | true =>
  have h:=nval_iff.1 hv
  have h0:=h.n0
  have h8:=h.n8
  have e0:IntKind.wrap .i64 (c.1-1)=c.1-1:=wrap_in (by omega) (by omega)
  rw [e0,notT,notF,cT,m27_eq,oB]
  cases hp:inB p 0 (c.1-1) with
  | false =>
   rw [if_neg (by rintro ⟨_,h,_⟩;cases h)]
   rfl
  | true =>
   rw [notT,orF,notF,cT,m27_eq,oB]
   cases hq:inB q 0 (c.1-1) with
   | false =>
    rw [if_neg (by rintro ⟨_,_,h⟩;cases h)]
    rfl
   | true =>
    rw [notT,orF,cF,if_pos ⟨rfl,rfl,rfl⟩]
    have h1:=inB_iff.1 hp
    have h2:=inB_iff.1 hq
    obtain ⟨i,rfl⟩:=Int.eq_ofNat_of_zero_le h1.1
    obtain ⟨j,rfl⟩:=Int.eq_ofNat_of_zero_le h2.1
    exact bind_of (m28_eq h (by omega) (by omega)) rfl
theorem m10_eq (c:Net) (p:Int):m10 (c,p)=some (boxQ c p):=by
 unfold m10 boxQ
 dsimp only
 rw [m17_eq,oB]
 cases hv:nval c with
 | false =>
  rw [if_neg (by rintro ⟨h,_⟩;cases h)]
  rfl
 | true =>
  have h:=nval_iff.1 hv
  have h0:=h.n0
  have h8:=h.n8
  have e0:IntKind.wrap .i64 (c.1-1)=c.1-1:=wrap_in (by omega) (by omega)
  rw [e0,notT,notF,cT,m27_eq,oB]
  cases hp:inB p 0 (c.1-1) with
  | false =>
   rw [if_neg (by rintro ⟨_,h⟩;cases h)]
   rfl
  | true =>
   rw [notT,orF,cF,if_pos ⟨rfl,rfl⟩]
   have h1:=inB_iff.1 hp
   obtain ⟨i,rfl⟩:=Int.eq_ofNat_of_zero_le h1.1
   have e1:c.1=((c.1.toNat:Nat):Int):=by omega
   have hm:=m28_eq h (i:=c.1.toNat) (j:=i) (by omega) (by omega)
   rw [← e1] at hm
   exact bind_of hm rfl
abbrev NNum:=List (Int×Int)×List Int×List Fix×List Sgt×Int×Int×Int
structure NN (x:NNum):Prop where
 pl:∀ p∈x.1,i64 p.1∧i64 p.2
 ti:∀ v∈x.2.1,i64 v
 fx:∀ f∈x.2.2.1,i64 f.1∧i64 f.2.1∧i64 f.2.2.1∧i64 f.2.2.2
 sg:∀ s∈x.2.2.2.1,i64 s.1∧i64 s.2.1∧i64 s.2.2.1∧i64 s.2.2.2.1∧i64 s.2.2.2.2
 a:i64 x.2.2.2.2.1
 b:i64 x.2.2.2.2.2.1
 c:i64 x.2.2.2.2.2.2
theorem m18_eq {c n:Int} (hc:i64 c) (hn:0<n):m18 (c,n)=some (pk c n):=pk_text hc hn
theorem m7_eq {c n:Int} (hc:i64 c) (hn:0<n):m7 (c,n)=some (pk c n):=pk_text hc hn
theorem idxD {α:Type} {xs:List α} {i:Nat} (h:i<xs.length) (d:α):idxM xs (i:Int)=some (xs.getD i d):=by
 rw [idxM_lt h];simp [List.getD,h]
theorem memD {α:Type} {xs:List α} {i:Nat} (h:i<xs.length) (d:α):xs.getD i d∈xs:=by
 simp [List.getD,h]
def nP (x:NNum):Nat:=min x.1.length 8
def hp (x:NNum) (i:Nat):Int×Int:=(pk (x.1.getD i (0,0)).1 1001-500,pk (x.1.getD i (0,0)).2 1001-500)
def hidL (x:NNum):List (Int×Int):=row (nP x) (hp x)
def HB (h:Nat→Int×Int):Prop:=∀ i,-500≤(h i).1∧(h i).1≤500∧-500≤(h i).2∧(h i).2≤500
theorem hp_bd (x:NNum):HB (hp x):=fun i=>by
 have h1:=pk_lo (c:=(x.1.getD i (0,0)).1) (n:=1001) (by omega)
 have h2:=pk_hi (c:=(x.1.getD i (0,0)).1) (n:=1001) (by omega)
 have h3:=pk_lo (c:=(x.1.getD i (0,0)).2) (n:=1001) (by omega)
 have h4:=pk_hi (c:=(x.1.getD i (0,0)).2) (n:=1001) (by omega)
 unfold hp
 dsimp only
 omega
theorem nP_bd (x:NNum):nP x≤8∧nP x≤x.1.length:=⟨Nat.min_le_right _ _,Nat.min_le_left _ _⟩
theorem m6_eq {x:NNum} (h:NN x):m6 x=some (hidL x):=by
 have hn:=nP_bd x
 unfold m6
 dsimp only
 refine bind_of (x:=hidL x) ?_ rfl
 refine count_loop (fun k=>row k (hp x)) (nP x) (fun k hk=>?_) ?_
 ·have hm:=h.pl _ (memD (show k<x.1.length by omega) (0,0))
  have hb:=hp_bd x k
  unfold hp at hb
  dsimp only at hb
  dsimp only
  rw [ltI (by show (k:Int)<(x.1.length:Int);omega),andT,ltI (by omega),cT,idxD (by omega) (0,0),oB,m18_eq hm.1 (by omega),oB,oB,m18_eq hm.2 (by omega),oB,wrap_in (n:=_-500) (by omega) (by omega),wrap_in (n:=_-500) (by omega) (by omega)]
  refine bind_of (app_rowOf rfl (by show (k+1)*16≤140737488355328;omega)) ?_
  rw [wrap_in (by omega) (by omega)]
 ·dsimp only
  have e:PE.andM (ltM ((nP x:Nat):Int) (lenM x.1)) (ltM ((nP x:Nat):Int) 8)=false:=by
   by_cases h8:x.1.length≤8
   ·rw [geI (a:=((nP x:Nat):Int)) (b:=lenM x.1) (by show (x.1.length:Int)≤_;unfold nP;omega)];rfl
   ·rw [geI (a:=((nP x:Nat):Int)) (b:=8) (by unfold nP;omega)]
    cases ltM ((nP x:Nat):Int) (lenM x.1)<;>rfl
  rw [e,cF]
  rfl
def pN (c:Int) (n:Nat):Nat:=(pk c n).toNat
theorem pN_lt {c:Int} {n:Nat} (hn:0<n):pN c n<n:=by
 have h1:=pk_lo (c:=c) (n:=n) (by omega)
 have h2:=pk_hi (c:=c) (n:=n) (by omega)
 unfold pN
 omega
theorem pN_eq {c:Int} {n:Nat} (hn:0<n):((pN c n:Nat):Int)=pk c n:=by
 have h1:=pk_lo (c:=c) (n:=n) (by omega)
 unfold pN
 omega
def sTo (n:Nat) (s:Sgt):Nat:=(pN s.1 n+1+pN s.2.1 (n-1)) % n
def jit (c:Int) (t:Nat):Int:=pk c (2*t+1)-t
theorem jit_bd {c:Int} {t:Nat}:-(t:Int)≤jit c t∧jit c t≤t:=by
 have h1:=pk_lo (c:=c) (n:=2*t+1) (by omega)
 have h2:=pk_hi (c:=c) (n:=2*t+1) (by omega)
 unfold jit
 omega
def sightOf (n:Nat) (h:Nat→Int×Int) (s:Sgt):Sgt :=
 ((pN s.1 n:Nat),(sTo n s:Nat),(h (sTo n s)).1-(h (pN s.1 n)).1+jit s.2.2.2.1 (pN s.2.2.1 12),(h (sTo n s)).2-(h (pN s.1 n)).2+jit s.2.2.2.2 (pN s.2.2.1 12),(pN s.2.2.1 12:Nat))
theorem m19_eq {n:Nat} {h:Nat→Int×Int} (hn:2≤n) (hn8:n≤8) (hb:HB h) {s:Sgt} (h1:i64 s.1) (h2:i64 s.2.1) (h3:i64 s.2.2.1) (h4:i64 s.2.2.2.1) (h5:i64 s.2.2.2.2):m19 (row n h,s)=some (sightOf n h s):=by
 have hl:lenM (row n h)=(n:Int):=by show ((row n h).length:Int)=_;rw [row_length]
 have p1:=pN_lt (c:=s.1) (n:=n) (by omega)
 have p2:=pN_lt (c:=s.2.1) (n:=n-1) (by omega)
 have p3:=pN_lt (c:=s.2.2.1) (n:=12) (by omega)
 have q1:=pN_eq (c:=s.1) (n:=n) (by omega)
 have q2:=pN_eq (c:=s.2.1) (n:=n-1) (by omega)
 have q3:=pN_eq (c:=s.2.2.1) (n:=12) (by omega)
 have hto:sTo n s<n:=Nat.mod_lt _ (by omega)
 have b1:=hb (sTo n s)
 have b2:=hb (pN s.1 n)
 have j1:=jit_bd (c:=s.2.2.2.1) (t:=pN s.2.2.1 12)
 have j2:=jit_bd (c:=s.2.2.2.2) (t:=pN s.2.2.1 12)
 have e12:((12:Nat):Int)=12:=rfl
 rw [e12] at q3
 unfold m19
 dsimp only
 rw [hl,m18_eq h1 (by omega),oB,m18_eq h3 (by omega),oB,wrap_in (n:=(n:Int)-1) (by omega) (by omega)]
 have en:((n:Int)-1)=((n-1:Nat):Int):=by omega
 rw [en,m18_eq h2 (by omega),oB,← q1,← q2,← q3,wrap_in (n:=((pN s.1 n:Nat):Int)+1) (by omega) (by omega),wrap_in (n:=((pN s.1 n:Nat):Int)+1+((pN s.2.1 (n-1):Nat):Int)) (by omega) (by omega),remM_of (by omega) (by omega),oB]
 have et:(((pN s.1 n:Nat):Int)+1+((pN s.2.1 (n-1):Nat):Int)) % (n:Int)=((sTo n s:Nat):Int):=by
  unfold sTo
  rw [Int.natCast_emod]
  rfl
 rw [et,row_idx hto,oB,row_idx p1,oB]
 have e2:IntKind.wrap .i64 (IntKind.wrap .i64 ((2:Int)*((pN s.2.2.1 12:Nat):Int))+1)=2*((pN s.2.2.1 12:Nat):Int)+1:=by
  rw [wrap_in (n:=2*((pN s.2.2.1 12:Nat):Int)) (by omega) (by omega),wrap_in (by omega) (by omega)]
 rw [e2,m18_eq h4 (by omega),oB,oB,oB,m18_eq h5 (by omega),oB]
 unfold jit at j1 j2
 generalize hv1:pk s.2.2.2.1 (2*((pN s.2.2.1 12:Nat):Int)+1)=v1 at *
 generalize hv2:pk s.2.2.2.2 (2*((pN s.2.2.1 12:Nat):Int)+1)=v2 at *
 rw [wrap_in (n:=(h (sTo n s)).1-(h (pN s.1 n)).1) (by omega) (by omega),wrap_in (n:=(h (sTo n s)).1-(h (pN s.1 n)).1+v1) (by omega) (by omega),wrap_in (n:=(h (sTo n s)).1-(h (pN s.1 n)).1+v1-((pN s.2.2.1 12:Nat):Int)) (by omega) (by omega)]
 rw [wrap_in (n:=(h (sTo n s)).2-(h (pN s.1 n)).2) (by omega) (by omega),wrap_in (n:=(h (sTo n s)).2-(h (pN s.1 n)).2+v2) (by omega) (by omega),wrap_in (n:=(h (sTo n s)).2-(h (pN s.1 n)).2+v2-((pN s.2.2.1 12:Nat):Int)) (by omega) (by omega)]
 unfold sightOf jit
 rw [hv1,hv2]
 have z1:(h (sTo n s)).1-(h (pN s.1 n)).1+v1-((pN s.2.2.1 12:Nat):Int)=(h (sTo n s)).1-(h (pN s.1 n)).1+(v1-((pN s.2.2.1 12:Nat):Int)):=by omega
 have z2:(h (sTo n s)).2-(h (pN s.1 n)).2+v2-((pN s.2.2.1 12:Nat):Int)=(h (sTo n s)).2-(h (pN s.1 n)).2+(v2-((pN s.2.2.1 12:Nat):Int)):=by omega
 rw [z1,z2]
theorem sight_ne {n:Nat} (hn:2≤n) (s:Sgt):sTo n s≠pN s.1 n:=by
 have p1:=pN_lt (c:=s.1) (n:=n) (by omega)
 have p2:=pN_lt (c:=s.2.1) (n:=n-1) (by omega)
 unfold sTo
 intro h
 by_cases hlt:pN s.1 n+1+pN s.2.1 (n-1)<n
 ·rw [Nat.mod_eq_of_lt hlt] at h;omega
 ·rw [Nat.mod_eq_sub_mod (by omega),Nat.mod_eq_of_lt (by omega)] at h;omega
def fixOf (n:Nat) (h:Nat→Int×Int) (f:Fix):Fix:=((pN f.1 n:Nat),(h (pN f.1 n)).1+jit f.2.2.1 (pN f.2.1 12),(h (pN f.1 n)).2+jit f.2.2.2 (pN f.2.1 12),(pN f.2.1 12:Nat))
def nF (x:NNum):Nat:=if nP x=0 then 0 else min x.2.2.1.length 6
def fxf (x:NNum) (i:Nat):Fix:=fixOf (nP x) (hp x) (x.2.2.1.getD i (0,0,0,0))
def tN (x:NNum):Nat:=min x.2.1.length (nP x-1)
def tieF (x:NNum) (k:Nat):Sgt :=
 ((pN (x.2.1.getD k 0) (k+1):Nat),((k+1:Nat):Int),(hp x (k+1)).1-(hp x (pN (x.2.1.getD k 0) (k+1))).1,(hp x (k+1)).2-(hp x (pN (x.2.1.getD k 0) (k+1))).2,(pN ((x.2.1.getD k 0).tdiv 8) 10:Nat))
def nS (x:NNum):Nat:=if nP x≤1 then 0 else min x.2.2.2.1.length 10
def sgF (x:NNum) (k:Nat):Sgt:=sightOf (nP x) (hp x) (x.2.2.2.1.getD k (0,0,0,0,0))
def base (x:NNum):List Sgt:=row (tN x) (tieF x)++row (nS x) (sgF x)
def mis (x:NNum):Bool:=decide (pk x.2.2.2.2.1 3=2)
def bent (x:NNum) (s:Sgt):Sgt:=if pk x.2.2.2.2.2.2 2=0 then (s.1,s.2.1,s.2.2.1+(pk (x.2.2.2.2.2.2.tdiv 2) 60+1),s.2.2.2) else (s.1,s.2.1,s.2.2.1,s.2.2.2.1-(pk (x.2.2.2.2.2.2.tdiv 2) 60+1),s.2.2.2.2)
def msg (x:NNum):List Sgt:=if mis x=true∧0<(base x).length then (base x).set (pN x.2.2.2.2.2.1 (base x).length) (bent x ((base x).getD (pN x.2.2.2.2.2.1 (base x).length) (0,0,0,0,0))) else base x
def madeN (x:NNum):Net:=((nP x:Int),row (nF x) (fxf x),msg x)
def KF (n:Nat) (h:Nat→Int×Int) (f:Fix):Prop:=0≤f.1∧f.1<n∧-511≤f.2.1∧f.2.1≤511∧-511≤f.2.2.1∧f.2.2.1≤511∧0≤f.2.2.2∧f.2.2.2≤11 ∧
 -f.2.2.2≤(h f.1.toNat).1-f.2.1∧(h f.1.toNat).1-f.2.1≤f.2.2.2∧-f.2.2.2≤(h f.1.toNat).2-f.2.2.1∧(h f.1.toNat).2-f.2.2.1≤f.2.2.2
def KS (n:Nat) (h:Nat→Int×Int) (s:Sgt):Prop:=0≤s.1∧s.1<n∧0≤s.2.1∧s.2.1<n∧s.1≠s.2.1∧-1011≤s.2.2.1∧s.2.2.1≤1011∧-1011≤s.2.2.2.1∧s.2.2.2.1≤1011∧0≤s.2.2.2.2∧s.2.2.2.2≤11 ∧
 -s.2.2.2.2≤(h s.2.1.toNat).1-(h s.1.toNat).1-s.2.2.1∧(h s.2.1.toNat).1-(h s.1.toNat).1-s.2.2.1≤s.2.2.2.2∧-s.2.2.2.2≤(h s.2.1.toNat).2-(h s.1.toNat).2-s.2.2.2.1∧(h s.2.1.toNat).2-(h s.1.toNat).2-s.2.2.2.1≤s.2.2.2.2
theorem fixOf_keeps {n:Nat} {h:Nat→Int×Int} (hn:0<n) (hb:HB h) (f:Fix):KF n h (fixOf n h f):=by
 have p1:=pN_lt (c:=f.1) hn
 have p2:=pN_lt (c:=f.2.1) (n:=12) (by omega)
 have b:=hb (pN f.1 n)
 have j1:=jit_bd (c:=f.2.2.1) (t:=pN f.2.1 12)
 have j2:=jit_bd (c:=f.2.2.2) (t:=pN f.2.1 12)
 unfold KF fixOf
 dsimp only
 rw [Int.toNat_natCast]
 omega
theorem sightOf_keeps {n:Nat} {h:Nat→Int×Int} (hn:2≤n) (hb:HB h) (s:Sgt):KS n h (sightOf n h s):=by
 have p1:=pN_lt (c:=s.1) (n:=n) (by omega)
 have p3:=pN_lt (c:=s.2.2.1) (n:=12) (by omega)
 have hto:sTo n s<n:=Nat.mod_lt _ (by omega)
 have hne:=sight_ne hn s
 have b1:=hb (pN s.1 n)
 have b2:=hb (sTo n s)
 have j1:=jit_bd (c:=s.2.2.2.1) (t:=pN s.2.2.1 12)
 have j2:=jit_bd (c:=s.2.2.2.2) (t:=pN s.2.2.1 12)
 unfold KS sightOf
 dsimp only
 rw [Int.toNat_natCast,Int.toNat_natCast]
 omega
theorem tie_keeps {x:NNum} {k:Nat} (hk:k<tN x):KS (nP x) (hp x) (tieF x k):=by
 have hk2:k+1<nP x:=by unfold tN at hk;omega
 have p1:=pN_lt (c:=x.2.1.getD k 0) (n:=k+1) (by omega)
 have p2:=pN_lt (c:=(x.2.1.getD k 0).tdiv 8) (n:=10) (by omega)
 have b1:=hp_bd x (k+1)
 have b2:=hp_bd x (pN (x.2.1.getD k 0) (k+1))
 unfold KS tieF
 dsimp only
 rw [Int.toNat_natCast,Int.toNat_natCast]
 omega
theorem fix_keeps {x:NNum} {f:Fix} (hf:f∈row (nF x) (fxf x)):KF (nP x) (hp x) f:=by
 obtain ⟨i,hi,rfl⟩:=row_mem hf
 refine fixOf_keeps ?_ (hp_bd x) _
 unfold nF at hi
 split at hi<;>omega
theorem base_keeps {x:NNum} {s:Sgt} (hs:s∈base x):KS (nP x) (hp x) s:=by
 rcases List.mem_append.1 hs with hs | hs
 ·obtain ⟨i,hi,rfl⟩:=row_mem hs
  exact tie_keeps hi
 ·obtain ⟨i,hi,rfl⟩:=row_mem hs
  refine sightOf_keeps ?_ (hp_bd x) _
  unfold nS at hi
  split at hi<;>omega
theorem base_len (x:NNum):(base x).length≤17:=by
 unfold base
 rw [List.length_append,row_length,row_length]
 have:=(nP_bd x).1
 unfold tN nS
 split<;>omega
theorem msg_len (x:NNum):(msg x).length=(base x).length:=by
 unfold msg
 split
 ·rw [List.length_set]
 ·rfl
theorem msg_mem {x:NNum} {s:Sgt} (hs:s∈msg x):s∈base x∨∃ s'∈base x,s=bent x s':=by
 unfold msg at hs
 split at hs
 ·rename_i h
  rcases List.mem_or_eq_of_mem_set hs with h1 | h1
  ·exact .inl h1
  ·exact .inr ⟨_,memD (pN_lt h.2) _,h1⟩
 ·exact .inl hs
theorem made_ok (x:NNum):NOK (madeN x) where
 n0:=by show (0:Int)≤(nP x:Int);omega
 n8:=by have:=(nP_bd x).1;show (nP x:Int)≤8;omega
 fl:=by
  show (row (nF x) (fxf x)).length≤8
  rw [row_length]
  unfold nF
  split<;>omega
 sl:=by
  show (msg x).length≤20
  have:=base_len x
  rw [msg_len];omega
 fx f hf:=by
  have:=fix_keeps hf
  unfold KF at this
  show 0≤f.1∧f.1<(nP x:Int)∧_
  omega
 sg s hs:=by
  show 0≤s.1∧s.1<(nP x:Int)∧0≤s.2.1∧s.2.1<(nP x:Int)∧_
  have hd1:=pk_lo (c:=x.2.2.2.2.2.2.tdiv 2) (n:=60) (by omega)
  have hd2:=pk_hi (c:=x.2.2.2.2.2.2.tdiv 2) (n:=60) (by omega)
  rcases msg_mem hs with h | ⟨s',h,rfl⟩
  ·have:=base_keeps h
   unfold KS at this
   omega
  ·have:=base_keeps h
   unfold KS at this
   unfold bent
   split
   ·dsimp only;omega
   ·dsimp only;omega
theorem m20_eq {x:NNum} (h:NN x):m20 x=some (mis x):=by
 unfold m20
 rw [m18_eq h.a (by omega)]
 rfl
theorem lenR {α:Type} (m:Nat) (g:Nat→α):lenM (row m g)=(m:Int):=by show ((row m g).length:Int)=_;rw [row_length]
theorem wrap_2t {t:Nat} (ht:t<12):IntKind.wrap .i64 (IntKind.wrap .i64 ((2:Int)*((t:Nat):Int))+1)=2*((t:Nat):Int)+1:=by
 rw [wrap_in (n:=2*((t:Nat):Int)) (by omega) (by omega),wrap_in (by omega) (by omega)]
theorem min_end (a b:Nat) (bs:Int) (h:bs=(b:Int)) {xs:Int} (hx:xs=(a:Int)):PE.andM (ltM ((min a b:Nat):Int) xs) (ltM ((min a b:Nat):Int) bs)=false:=by
 subst h;subst hx
 by_cases h1:a≤b
 ·rw [geI (a:=((min a b:Nat):Int)) (b:=(a:Int)) (by omega)];rfl
 ·rw [geI (a:=((min a b:Nat):Int)) (b:=(b:Int)) (by omega)]
  cases ltM ((min a b:Nat):Int) (a:Int)<;>rfl
theorem andF2 (b:Bool):PE.andM b false=false:=by cases b<;>rfl
theorem setM_D {α:Type} {xs:List α} {i:Nat} (h:i<xs.length) (d:α) {f:α→Option α} {y:α} (hy:f (xs.getD i d)=some y):setM xs (i:Int) f=some (xs.set i y):=by
 have e:xs.getD i d=xs[i]:=by simp [List.getD,h]
 rw [e] at hy
 exact setM_of (by omega) (by omega) hy
theorem m5_eq {x:NNum} (h:NN x):m5 x=some (madeN x):=by
 have hn:=nP_bd x
 unfold m5
 dsimp only
 refine bind_of (m6_eq h) ?_
 have hl:lenM (hidL x)=(nP x:Int):=lenR _ _
 rw [hl]
 refine bind_of (x:=((nP x:Int),row (nF x) (fxf x))) ?_ ?_
 ·refine count_loop (fun k=>((nP x:Int),row k (fxf x))) (nF x) (fun k hk=>?_) ?_
  ·have hk1:k<x.2.2.1.length∧k<6∧0<nP x:=by unfold nF at hk;split at hk<;>omega
   obtain ⟨k1,k2,k3⟩:=hk1
   have hm:=h.fx _ (memD k1 (0,0,0,0))
   have ef:fxf x k=fixOf (nP x) (hp x) (x.2.2.1.getD k (0,0,0,0)):=rfl
   dsimp only
   rw [ltI (by show (k:Int)<(x.2.2.1.length:Int);omega),andT,ltI (by omega),andT,ltI (by omega),cT,idxD k1 (0,0,0,0),oB]
   generalize x.2.2.1.getD k (0,0,0,0)=f at *
   obtain ⟨m1,m2,m3,m4⟩:=hm
   have p1:=pN_lt (c:=f.1) k3
   have q1:=pN_eq (c:=f.1) k3
   have p2:=pN_lt (c:=f.2.1) (n:=12) (by omega)
   have q2:((pN f.2.1 12:Nat):Int)=pk f.2.1 12:=pN_eq (c:=f.2.1) (n:=12) (by omega)
   have b:=hp_bd x (pN f.1 (nP x))
   have j1:=jit_bd (c:=f.2.2.1) (t:=pN f.2.1 12)
   have j2:=jit_bd (c:=f.2.2.2) (t:=pN f.2.1 12)
   rw [m18_eq m1 (by omega),oB,oB,m18_eq m2 (by omega),oB,← q1,← q2]
   have er:idxM (hidL x) ((pN f.1 (nP x):Nat):Int)=some (hp x (pN f.1 (nP x))):=row_idx p1
   rw [er,oB,oB,wrap_2t p2,m18_eq m3 (by omega),oB,oB,oB,m18_eq m4 (by omega),oB]
   refine bind_of (app_rowOf (g:=fxf x) ?_ (by show (k+1)*32≤140737488355328;omega)) ?_
   ·rw [ef]
    unfold fixOf
    unfold jit at *
    generalize pk f.2.2.1 (2*((pN f.2.1 12:Nat):Int)+1)=v1 at *
    generalize pk f.2.2.2 (2*((pN f.2.1 12:Nat):Int)+1)=v2 at *
    rw [wrap_in (n:=(hp x (pN f.1 (nP x))).1+v1) (by omega) (by omega),wrap_in (n:=(hp x (pN f.1 (nP x))).1+v1-((pN f.2.1 12:Nat):Int)) (by omega) (by omega),wrap_in (n:=(hp x (pN f.1 (nP x))).2+v2) (by omega) (by omega),wrap_in (n:=(hp x (pN f.1 (nP x))).2+v2-((pN f.2.1 12:Nat):Int)) (by omega) (by omega)]
    have z1:(hp x (pN f.1 (nP x))).1+v1-((pN f.2.1 12:Nat):Int)=(hp x (pN f.1 (nP x))).1+(v1-((pN f.2.1 12:Nat):Int)):=by omega
    have z2:(hp x (pN f.1 (nP x))).2+v2-((pN f.2.1 12:Nat):Int)=(hp x (pN f.1 (nP x))).2+(v2-((pN f.2.1 12:Nat):Int)):=by omega
    rw [z1,z2]
   ·rw [wrap_in (by omega) (by omega)]
  ·dsimp only
   have e:PE.andM (PE.andM (ltM ((nF x:Nat):Int) (lenM x.2.2.1)) (ltM ((nF x:Nat):Int) 6)) (ltM 0 ((nP x:Nat):Int))=false:=by
    unfold nF
    by_cases h0:nP x=0
    ·rw [if_pos h0,h0,geI (a:=0) (b:=((0:Nat):Int)) (by omega)]
     exact andF2 _
    ·rw [if_neg h0,min_end x.2.2.1.length 6 6 rfl (xs:=lenM x.2.2.1) rfl];rfl
   rw [e,cF]
 refine bind_of (x:=((nP x:Int),row (tN x) (tieF x))) ?_ ?_
 ·refine count_loop (fun k=>((nP x:Int),row k (tieF x))) (tN x) (fun k hk=>?_) ?_
  ·have k1:k<x.2.1.length:=by unfold tN at hk;omega
   have k2:k+1<nP x:=by unfold tN at hk;omega
   have hm:=h.ti _ (memD k1 0)
   have ef:tieF x k=(((pN (x.2.1.getD k 0) (k+1):Nat):Int),((k+1:Nat):Int),(hp x (k+1)).1-(hp x (pN (x.2.1.getD k 0) (k+1))).1,(hp x (k+1)).2-(hp x (pN (x.2.1.getD k 0) (k+1))).2,((pN ((x.2.1.getD k 0).tdiv 8) 10:Nat):Int)):=rfl
   have ek:IntKind.wrap .i64 ((k:Int)+1)=((k+1:Nat):Int):=by rw [wrap_in (by omega) (by omega)];rfl
   dsimp only
   rw [ltI (by show (k:Int)<(x.2.1.length:Int);omega),andT,ek,ltI (by omega),cT,idxD k1 0,oB]
   generalize x.2.1.getD k 0=v at *
   have p1:=pN_lt (c:=v) (n:=k+1) (by omega)
   have q1:((pN v (k+1):Nat):Int)=pk v ((k+1:Nat):Int):=pN_eq (c:=v) (n:=k+1) (by omega)
   have q2:((pN (v.tdiv 8) 10:Nat):Int)=pk (v.tdiv 8) 10:=pN_eq (c:=v.tdiv 8) (n:=10) (by omega)
   have b1:=hp_bd x (k+1)
   have b2:=hp_bd x (pN v (k+1))
   have er1:idxM (hidL x) ((k+1:Nat):Int)=some (hp x (k+1)):=row_idx k2
   have er2:idxM (hidL x) ((pN v (k+1):Nat):Int)=some (hp x (pN v (k+1))):=row_idx (by omega)
   rw [m18_eq hm (by omega),oB,← q1,er1,oB,er2,oB,oB,oB,oB,divM_pos (by omega),wrap_tdiv hm (by omega),oB,m18_eq (tdiv_ok hm (by omega)) (by omega),oB,← q2,wrap_in (n:=(hp x (k+1)).1-(hp x (pN v (k+1))).1) (by omega) (by omega),wrap_in (n:=(hp x (k+1)).2-(hp x (pN v (k+1))).2) (by omega) (by omega)]
   refine bind_of (app_rowOf (g:=tieF x) ef.symm (by show (k+1)*40≤140737488355328;omega)) rfl
  ·dsimp only
   have e:PE.andM (ltM ((tN x:Nat):Int) (lenM x.2.1)) (ltM (IntKind.wrap .i64 (((tN x:Nat):Int)+1)) ((nP x:Nat):Int))=false:=by
    have h9:tN x≤7:=by unfold tN;omega
    rw [wrap_in (n:=((tN x:Nat):Int)+1) (by omega) (by omega)]
    by_cases h1:x.2.1.length≤tN x
    ·rw [geI (a:=((tN x:Nat):Int)) (b:=lenM x.2.1) (by show (x.2.1.length:Int)≤_;omega)];rfl
    ·rw [geI (a:=((tN x:Nat):Int)+1) (b:=((nP x:Nat):Int)) (by unfold tN at h1 ⊢;omega)]
     cases ltM ((tN x:Nat):Int) (lenM x.2.1)<;>rfl
   rw [e,cF]
 refine bind_of (x:=((nP x:Int),base x)) ?_ ?_
 ·have eb:base x=row (tN x) (tieF x)++row (nS x) (sgF x):=rfl
  have e0:row (tN x) (tieF x)=row (tN x) (tieF x)++row 0 (sgF x):=by rw [row_zero,List.append_nil]
  have hb17:=base_len x
  have L:=count_loop (body:=fun (s:Int×Int×List (Int×Int×Int×Int×Int)) =>
        bif PE.andM (PE.andM (ltM s.1 (lenM x.2.2.2.1)) (ltM s.1 (10:Int))) (ltM (1:Int) ((nP x:Nat):Int)) then
         Option.bind (idxM x.2.2.2.1 s.1) fun (r_1:Int×Int×Int×Int×Int) =>
          Option.bind (m19 (hidL x,r_1.1,r_1.2.1,r_1.2.2.1,r_1.2.2.2.1,r_1.2.2.2.2))
           fun (r_2:Int×Int×Int×Int×Int) =>
           Option.bind (appM (nat_lit 40) s.2.2 [(r_2.1,r_2.2.1,r_2.2.2.1,r_2.2.2.2.1,r_2.2.2.2.2)])
            fun (r:List (Int×Int×Int×Int×Int)) =>
            some (Sum.inl (IntKind.wrap .i64 (s.1+(1:Int)),s.2.1,r))
        else some (Sum.inr (s.2.1,s.2.2))) (fun k=>((nP x:Int),row (tN x) (tieF x)++row k (sgF x))) (nS x) (r:=((nP x:Int),row (tN x) (tieF x)++row (nS x) (sgF x))) (fun k hk=>by
   have hk1:k<x.2.2.2.1.length∧k<10∧1<nP x:=by unfold nS at hk;split at hk<;>omega
   obtain ⟨k1,k2,k3⟩:=hk1
   obtain ⟨m1,m2,m3,m4,m5⟩:=h.sg _ (memD k1 (0,0,0,0,0))
   have hs:=m19_eq (n:=nP x) (h:=hp x) (by omega) hn.1 (hp_bd x) m1 m2 m3 m4 m5
   dsimp only
   rw [ltI (by show (k:Int)<(x.2.2.2.1.length:Int);omega),andT,ltI (by omega),andT,ltI (by omega),cT,idxD k1 (0,0,0,0,0),oB]
   refine bind_of hs ?_
   refine bind_of (appM_of (by rw [List.length_append,row_length,row_length];unfold tN;simp;omega)) ?_
   rw [wrap_in (by omega) (by omega),row_succ,List.append_assoc]
   rfl) (by
   dsimp only
   have e:PE.andM (PE.andM (ltM ((nS x:Nat):Int) (lenM x.2.2.2.1)) (ltM ((nS x:Nat):Int) 10)) (ltM 1 ((nP x:Nat):Int))=false:=by
    unfold nS
    by_cases h0:nP x≤1
    ·rw [if_pos h0,geI (a:=1) (b:=((nP x:Nat):Int)) (by omega)]
     exact andF2 _
    ·rw [if_neg h0,min_end x.2.2.2.1.length 10 10 rfl (xs:=lenM x.2.2.2.1) rfl];rfl
   rw [e,cF])
  rw [← e0] at L
  exact L
 dsimp only
 refine bind_of (x:=msg x) ?_ rfl
 refine bind_of (m20_eq h) ?_
 have hlb:lenM (base x)=((base x).length:Int):=rfl
 have hb17:=base_len x
 rw [hlb]
 unfold msg
 by_cases h0:mis x=true∧0<(base x).length
 ·obtain ⟨hm,hl0⟩:=h0
  have p1:=pN_lt (c:=x.2.2.2.2.2.1) hl0
  have q1:=pN_eq (c:=x.2.2.2.2.2.1) hl0
  have hd1:=pk_lo (c:=x.2.2.2.2.2.2.tdiv 2) (n:=60) (by omega)
  have hd2:=pk_hi (c:=x.2.2.2.2.2.2.tdiv 2) (n:=60) (by omega)
  have hk:=base_keeps (memD p1 (0,0,0,0,0))
  unfold KS at hk
  rw [if_pos ⟨hm,hl0⟩,hm,andT,ltI (by omega),cT,m18_eq h.b (by omega),oB,divM_pos (by omega),wrap_tdiv h.c (by omega),oB,m18_eq (tdiv_ok h.c (by omega)) (by omega),oB,m18_eq h.c (by omega),oB,← q1]
  rw [wrap_in (n:=pk (x.2.2.2.2.2.2.tdiv 2) 60+1) (by omega) (by omega)]
  unfold bent
  by_cases h2:pk x.2.2.2.2.2.2 2=0
  ·rw [eqI h2,cT,if_pos h2,chkM_of (by omega) (by omega),oB,idxD p1 (0,0,0,0,0),oB,oB,oB]
   refine bind_of (setM_D p1 (0,0,0,0,0) rfl) ?_
   rw [wrap_in (n:=_+(_+1)) (by omega) (by omega)]
  ·rw [neI h2,cF,if_neg h2,chkM_of (by omega) (by omega),oB,idxD p1 (0,0,0,0,0),oB,oB,oB]
   refine bind_of (setM_D p1 (0,0,0,0,0) rfl) ?_
   rw [wrap_in (n:=_-(_+1)) (by omega) (by omega)]
 ·rw [if_neg h0]
  have e:PE.andM (mis x) (ltM 0 ((base x).length:Int))=false:=by
   cases hm:mis x with
   | false=>rfl
   | true =>
    rw [geI (by have:¬ 0<(base x).length:=fun h=>h0 ⟨hm,h⟩;omega)]
    rfl
  rw [e,cF]
theorem nn_ok {x:NNum} (h:InR (.pair (.list (.pair tI tI)) (.pair (.list tI) (.pair (.list (.pair tI (.pair tI (.pair tI tI)))) (.pair (.list (.pair tI (.pair tI (.pair tI (.pair tI tI))))) (.pair tI (.pair tI tI)))))) x):NN x:=by
 obtain ⟨⟨_,h1⟩,⟨_,h2⟩,⟨_,h3⟩,⟨_,h4⟩,h5,h6,h7⟩:=h
 refine ⟨fun p hp=>?_,fun v hv=>?_,fun f hf=>?_,fun s hs=>?_,h5,h6,h7⟩
 ·obtain ⟨i,hi,rfl⟩:=List.mem_iff_getElem.1 hp
  exact h1 i _ (List.getElem?_eq_getElem hi)
 ·obtain ⟨i,hi,rfl⟩:=List.mem_iff_getElem.1 hv
  exact h2 i _ (List.getElem?_eq_getElem hi)
 ·obtain ⟨i,hi,rfl⟩:=List.mem_iff_getElem.1 hf
  exact h3 i _ (List.getElem?_eq_getElem hi)
 ·obtain ⟨i,hi,rfl⟩:=List.mem_iff_getElem.1 hs
  exact h4 i _ (List.getElem?_eq_getElem hi)
end Go.Proofs.YtfekoiabjbdnfaaGreat
namespace Go.Det
def sm:Nat→(Nat→Int)→Int
 | 0,_=>0
 | n+1,f=>sm n f+f n
theorem sm_congr {f g:Nat→Int}:∀ {n:Nat},(∀ i,i<n→f i=g i)→sm n f=sm n g
 | 0,_=>rfl
 | n+1,h=>by
  show sm n f+f n=sm n g+g n
  rw [sm_congr (n:=n) fun i hi=>h i (by omega),h n (by omega)]
theorem sm_add (f g:Nat→Int):∀ n,sm n (fun i=>f i+g i)=sm n f+sm n g
 | 0=>rfl
 | n+1=>by
  show sm n (fun i=>f i+g i)+(f n+g n)=sm n f+f n+(sm n g+g n)
  rw [sm_add f g n]
  omega
theorem sm_mul (c:Int) (f:Nat→Int):∀ n,sm n (fun i=>c*f i)=c*sm n f
 | 0=>(Int.mul_zero c).symm
 | n+1=>by
  show sm n (fun i=>c*f i)+c*f n=c*(sm n f+f n)
  rw [sm_mul c f n,Int.mul_add]
theorem sm_neg (f:Nat→Int) (n:Nat):sm n (fun i=>-f i)=-sm n f:=by
 have h:=sm_mul (-1) f n
 rw [Int.neg_one_mul] at h
 rw [← h]
 exact sm_congr fun i _=>(Int.neg_one_mul (f i)).symm
theorem sm_zero {f:Nat→Int}:∀ {n:Nat},(∀ i,i<n→f i=0)→sm n f=0
 | 0,_=>rfl
 | n+1,h=>by
  show sm n f+f n=0
  rw [sm_zero (n:=n) fun i hi=>h i (by omega),h n (by omega)]
  rfl
theorem sm_swap (f:Nat→Nat→Int) (m:Nat):∀ n,sm n (fun a=>sm m (fun b=>f a b))=sm m (fun b=>sm n (fun a=>f a b))
 | 0=>(sm_zero fun _ _=>rfl).symm
 | n+1=>by
  show sm n (fun a=>sm m (fun b=>f a b))+sm m (fun b=>f n b)=sm m (fun b=>sm n (fun a=>f a b)+f n b)
  rw [sm_swap f m n,sm_add]
def sg (n:Nat):Int:=if n % 2=0 then 1 else -1
theorem sg_succ (n:Nat):sg (n+1)=-sg n:=by
 unfold sg
 by_cases h:n % 2=0
 ·rw [if_pos h,if_neg (by omega)]
 ·rw [if_neg h,if_pos (by omega)];rfl
def skp (j c:Nat):Nat:=if c<j then c else c+1
def unk (a b:Nat):Nat:=if b<a then b else b-1
theorem skp_ne (j c:Nat):skp j c≠j:=by unfold skp;split<;>omega
theorem unk_skp (a l:Nat):unk a (skp a l)=l:=by
 unfold unk skp
 by_cases h:l<a
 ·rw [if_pos h,if_pos h]
 ·rw [if_neg h,if_neg (by omega)];omega
theorem skp_lt {j c n:Nat} (h:c<n):skp j c<n+1:=by unfold skp;split<;>omega
theorem skp_two {a b:Nat} (h:a≠b) (c:Nat):skp a (skp (unk a b) c)=skp b (skp (unk b a) c):=by
 unfold skp unk
 (repeat' split)<;>omega
theorem sm_skp (G:Nat→Int) (a:Nat):∀ n,a≤n→sm n (fun l=>G (skp a l))+G a=sm (n+1) G
 | 0,h=>by
  have:a=0:=by omega
  subst this
  rfl
 | n+1,h=>by
  by_cases e:a=n+1
  ·subst e
   show _=sm (n+1) G+G (n+1)
   rw [sm_congr (g:=G) fun i hi=>by unfold skp;rw [if_pos hi]]
  ·have ih:=sm_skp G a n (by omega)
   show sm n (fun l=>G (skp a l))+G (skp a n)+G a=sm (n+1) G+G (n+1)
   have hs:skp a n=n+1:=by unfold skp;rw [if_neg (by omega)]
   rw [hs,← ih]
   omega
abbrev Mx:=Nat→Nat→Int
def dl (j:Nat) (A:Mx):Mx:=fun i c=>A i (skp j c)
def det:Nat→Mx→Int
 | 0,_=>1
 | n+1,A=>sm (n+1) fun j=>sg (n+j)*(A n j*det n (dl j A))
theorem det_congr:∀ {n:Nat} {A B:Mx},(∀ i,i<n→∀ j,j<n→A i j=B i j)→det n A=det n B
 | 0,_,_,_=>rfl
 | n+1,A,B,h=>by
  refine sm_congr fun j hj=>?_
  rw [h n (by omega) j hj,det_congr (n:=n) (A:=dl j A) (B:=dl j B) fun i hi c hc=>h i (by omega) _ (skp_lt hc)]
def swr (p:Nat) (A:Mx):Mx:=fun i=>A (if i=p then p+1 else if i=p+1 then p else i)
theorem det_two (k:Nat) (A:Mx):det (k+2) A=sm (k+2) fun a=>sm (k+2) fun b=>if b=a then 0 else sg (k+1+a)*sg (k+unk a b)*(A (k+1) a*A k b*det k (dl (unk a b) (dl a A))):=by
 refine sm_congr fun a ha=>?_
 have hd:det (k+1) (dl a A)=sm (k+1) fun l=>sg (k+l)*(A k (skp a l)*det k (dl l (dl a A))):=rfl
 rw [hd,← Int.mul_assoc,← sm_mul]
 have h:=sm_skp (fun b=>if b=a then 0 else sg (k+1+a)*sg (k+unk a b)*(A (k+1) a*A k b*det k (dl (unk a b) (dl a A)))) a (k+1) (by omega)
 rw [← h,if_pos rfl,Int.add_zero]
 refine sm_congr fun l hl=>?_
 rw [if_neg (skp_ne a l),unk_skp]
 generalize det k (dl l (dl a A))=D
 generalize A (k+1) a=u
 generalize A k (skp a l)=v
 generalize sg (k+1+a)=s
 generalize sg (k+l)=t
 grind
theorem det_swap:∀ (n p:Nat) (A:Mx),p+1<n→det n (swr p A)=-det n A
 | 0,p,A,h=>by omega
 | n+1,p,A,h=>by
  by_cases hp:p+1<n
  ·show (sm (n+1) fun j=>sg (n+j)*(swr p A n j*det n (dl j (swr p A))))=-(sm (n+1) fun j=>sg (n+j)*(A n j*det n (dl j A)))
   rw [← sm_neg]
   refine sm_congr fun j hj=>?_
   have h1:swr p A n j=A n j:=by unfold swr;rw [if_neg (by omega),if_neg (by omega)]
   have h2:det n (dl j (swr p A))=-det n (dl j A):=det_swap n p (dl j A) hp
   rw [h1,h2]
   grind
  ·obtain ⟨k,rfl⟩:∃ k,n=k+1:=⟨n-1,by omega⟩
   have e:p=k:=by omega
   subst e
   rw [det_two,det_two,sm_swap,← sm_neg]
   refine sm_congr fun b hb=>?_
   rw [← sm_neg]
   refine sm_congr fun a ha=>?_
   by_cases hab:a=b
   ·rw [if_pos hab.symm,if_pos hab];rfl
   ·rw [if_neg (fun h=>hab h.symm),if_neg hab]
    have h1:swr p A (p+1) a=A p a:=by unfold swr;rw [if_neg (by omega),if_pos rfl]
    have h2:swr p A p b=A (p+1) b:=by unfold swr;rw [if_pos rfl]
    have h3:det p (dl (unk a b) (dl a (swr p A)))=det p (dl (unk b a) (dl b A)):=det_congr fun i hi c hc=>by
     show swr p A i (skp a (skp (unk a b) c))=A i (skp b (skp (unk b a) c))
     rw [skp_two hab]
     unfold swr
     rw [if_neg (by omega),if_neg (by omega)]
    have hs:sg (p+1+a)*sg (p+unk a b)=-(sg (p+1+b)*sg (p+unk b a)):=by
     unfold unk
     by_cases hlt:b<a
     ·rw [if_pos hlt,if_neg (by omega)]
      have e1:p+1+a=(p+(a-1))+1+1:=by omega
      have e2:p+1+b=(p+b)+1:=by omega
      rw [e1,e2,sg_succ,sg_succ,sg_succ]
      grind
     ·rw [if_neg hlt,if_pos (by omega)]
      have e1:p+1+b=(p+(b-1))+1+1:=by omega
      have e2:p+1+a=(p+a)+1:=by omega
      rw [e1,e2,sg_succ,sg_succ,sg_succ]
      grind
    rw [h1,h2,h3,hs]
    grind
theorem det_eqrow {n:Nat}:∀ (d p:Nat) (A:Mx),p+d+1<n→(∀ j,A p j=A (p+d+1) j)→det n A=0
 | 0,p,A,h,e=>by
  have h1:=det_swap n p A h
  have h2:det n (swr p A)=det n A:=det_congr fun i _ j _=>by
   show A (if i=p then p+1 else if i=p+1 then p else i) j=A i j
   by_cases e1:i=p
   ·rw [if_pos e1,e1];exact (e j).symm
   ·rw [if_neg e1]
    by_cases e2:i=p+1
    ·rw [if_pos e2,e2];exact e j
    ·rw [if_neg e2]
  omega
 | d+1,p,A,h,e=>by
  have h1:=det_swap n (p+d+1) A (by omega)
  have h2:=det_eqrow (n:=n) d p (swr (p+d+1) A) (by omega) fun j=>by
   show A (if p=p+d+1 then _ else if p=p+d+1+1 then _ else p) j=A (if p+d+1=p+d+1 then p+d+1+1 else _) j
   rw [if_neg (by omega),if_neg (by omega),if_pos rfl]
   exact e j
  omega
def del (A:Mx) (k:Nat):Int:=det k A
def mn (A:Mx) (k x j:Nat):Int:=det (k+1) fun i c=>A (if i=k then x else i) (if c=k then j else c)
def kap (A:Mx) (k j c:Nat):Int:=sg (k+c)*det k (dl c fun i c=>A i (if c=k then j else c))
theorem sg_dbl (k:Nat):sg (k+k)=1:=by unfold sg;rw [if_pos (by omega)]
theorem mn_row (A:Mx) (k x j:Nat):mn A k x j=sm k (fun c=>A x c*kap A k j c)+A x j*del A k:=by
 have h:mn A k x j=sm k (fun c=>sg (k+c)*(A (if k=k then x else k) (if c=k then j else c)*det k (dl c fun i c=>A (if i=k then x else i) (if c=k then j else c))))+sg (k+k)*(A (if k=k then x else k) (if k=k then j else k)*det k (dl k fun i c=>A (if i=k then x else i) (if c=k then j else c))):=rfl
 rw [h]
 congr 1
 ·refine sm_congr fun c hc=>?_
  rw [if_pos rfl,if_neg (by omega)]
  unfold kap
  have:det k (dl c fun i c=>A (if i=k then x else i) (if c=k then j else c))=det k (dl c fun i c=>A i (if c=k then j else c)):=det_congr fun i hi c' _=>by
   show A (if i=k then x else i) _=A i _
   rw [if_neg (by omega)]
  rw [this]
  grind
 ·rw [if_pos rfl,if_pos rfl,sg_dbl,Int.one_mul]
  unfold del
  congr 1
  refine det_congr fun i hi c hc=>?_
  show A (if i=k then x else i) (if skp k c=k then j else skp k c)=A i c
  rw [if_neg (by omega),if_neg (skp_ne k c)]
  unfold skp
  rw [if_pos hc]
theorem mn_zero {A:Mx} {k r j:Nat} (h:r<k):mn A k r j=0:=by
 unfold mn
 refine det_eqrow (k-r-1) r _ (by omega) fun c=>?_
 have e:r+(k-r-1)+1=k:=by omega
 rw [e]
 show A (if r=k then r else r) _=A (if k=k then r else k) _
 rw [if_neg (by omega),if_pos rfl]
theorem del_succ (A:Mx) (k:Nat):del A (k+1)=mn A k k k:=by
 unfold del mn
 refine det_congr fun i _ j _=>?_
 have e1:(if i=k then k else i)=i:=by split<;>omega
 have e2:(if j=k then k else j)=j:=by split<;>omega
 rw [e1,e2]
def dot (W:Nat) (u z:Nat→Int):Int:=sm W fun c=>u c*z c
theorem sm_ext {f:Nat→Int} {k:Nat}:∀ (n:Nat),k≤n→(∀ c,k≤c→c<n→f c=0)→sm n f=sm k f
 | 0,h,_=>by
  have:k=0:=by omega
  subst this
  rfl
 | n+1,h,hz=>by
  by_cases e:k=n+1
  ·rw [e]
  ·show sm n f+f n=sm k f
   rw [hz n (by omega) (by omega),Int.add_zero]
   exact sm_ext n (by omega) fun c h1 h2=>hz c h1 (by omega)
theorem sm_part {f:Nat→Int} {k j W:Nat} (hk:k≤j) (hj:j<W) (hz:∀ c,k≤c→c≠j→c<W→f c=0):sm W f=sm k f+f j:=by
 rw [sm_ext (k:=j+1) W (by omega) fun c h1 h2=>hz c (by omega) (by omega) h2]
 show sm j f+f j=_
 rw [sm_ext (k:=k) j hk fun c h1 h2=>hz c h1 (by omega) (by omega)]
theorem sm_one {d:Int} {g:Nat→Int} {i k:Nat} (hi:i<k):sm k (fun c=>(if i=c then d else 0)*g c)=d*g i:=by
 rw [sm_part (k:=0) (j:=i) (Nat.zero_le _) hi fun c _ h _=>by rw [if_neg (fun h'=>h h'.symm),Int.zero_mul],if_pos rfl]
 show 0+_=_
 omega
def zv (A:Mx) (k j c:Nat):Int:=if c<k then -kap A k j c else if c=j then -del A k else 0
theorem dot_zv {A:Mx} {k j W:Nat} (u:Nat→Int) (hk:k≤j) (hj:j<W):dot W u (zv A k j)=sm k (fun c=>u c*-kap A k j c)+u j*-del A k:=by
 unfold dot
 rw [sm_part hk hj fun c h1 h2 _=>by unfold zv;rw [if_neg (by omega),if_neg h2,Int.mul_zero]]
 congr 1
 ·refine sm_congr fun c hc=>?_
  unfold zv
  rw [if_pos hc]
 ·unfold zv
  rw [if_neg (by omega),if_pos rfl]
theorem dot_zv_A {A:Mx} {k j W:Nat} (x:Nat) (hk:k≤j) (hj:j<W):dot W (A x) (zv A k j)=-mn A k x j:=by
 rw [dot_zv (A x) hk hj,mn_row,sm_congr (g:=fun c=>-(A x c*kap A k j c)) fun c _=>Int.mul_neg _ _,sm_neg,Int.mul_neg]
 omega
theorem dot_lin (W:Nat) (u v z:Nat→Int) (p q:Int):dot W (fun c=>u c*p-q*v c) z=p*dot W u z-q*dot W v z:=by
 unfold dot
 rw [← sm_mul,← sm_mul,Int.sub_eq_add_neg,← sm_neg,← sm_add]
 refine sm_congr fun c _=>?_
 grind
theorem dot_congr {W:Nat} {u v z:Nat→Int} (h:∀ c,c<W→u c=v c):dot W u z=dot W v z:=sm_congr fun c hc=>by rw [h c hc]
theorem dot_mul (W:Nat) (u z:Nat→Int) (d:Int):dot W (fun c=>d*u c) z=d*dot W u z:=by
 unfold dot
 rw [← sm_mul]
 exact sm_congr fun c _=>Int.mul_assoc _ _ _
structure BS (A:Mx) (W n k:Nat) (m:Mx):Prop where
 up:∀ z,(∀ r,r<k→dot W (A r) z=0)→∀ i,i<k→dot W (m i) z=0
 low:∀ z,(∀ r,r<k→dot W (A r) z=0)→∀ x,k≤x→x<n→dot W (m x) z=del A k*dot W (A x) z
 su:∀ i j,i<k→j<k→m i j=if i=j then del A k else 0
 sl:∀ x j,k≤x→x<n→j<k→m x j=0
theorem BS.start {A:Mx} {W n:Nat} {m:Mx} (h:∀ i,i<n→∀ j,j<W→m i j=A i j):BS A W n 0 m where
 up:=fun z _ i hi=>absurd hi (Nat.not_lt_zero _)
 low:=fun z _ x _ hx=>by
  rw [dot_congr (h x hx)]
  exact (Int.one_mul _).symm
 su:=fun i j hi=>absurd hi (Nat.not_lt_zero _)
 sl:=fun x j _ _ hj=>absurd hj (Nat.not_lt_zero _)
theorem zv_ok {A:Mx} {k j W:Nat} (hk:k≤j) (hj:j<W):∀ r,r<k→dot W (A r) (zv A k j)=0:=fun r hr=>by
 rw [dot_zv_A r hk hj,mn_zero hr];rfl
theorem BS.val_up {A:Mx} {W n k:Nat} {m:Mx} (h:BS A W n k m) (h0:del A k≠0) {i j:Nat} (hi:i<k) (hk:k≤j) (hj:j<W):m i j=-kap A k j i:=by
 have h1:=h.up _ (zv_ok hk hj) i hi
 rw [dot_zv (m i) hk hj,sm_congr (g:=fun c=>(if i=c then del A k else 0)*-kap A k j c) fun c hc=>by rw [h.su i c hi hc],sm_one hi] at h1
 have h2:del A k*(-kap A k j i)=del A k*m i j:=by grind
 exact (Int.eq_of_mul_eq_mul_left h0 h2).symm
theorem BS.val_low {A:Mx} {W n k:Nat} {m:Mx} (h:BS A W n k m) (h0:del A k≠0) {x j:Nat} (hx:k≤x) (hn:x<n) (hk:k≤j) (hj:j<W):m x j=mn A k x j:=by
 have h1:=h.low _ (zv_ok hk hj) x hx hn
 rw [dot_zv (m x) hk hj,dot_zv_A x hk hj,sm_zero fun c hc=>by rw [h.sl x c hx hn hc,Int.zero_mul]] at h1
 have h2:del A k*m x j=del A k*mn A k x j:=by grind
 exact Int.eq_of_mul_eq_mul_left h0 h2
theorem BS.pivot {A:Mx} {W n k:Nat} {m:Mx} (h:BS A W n k m) (h0:del A k≠0) (hk:k<n) (hW:n≤W):m k k=del A (k+1):=by
 rw [h.val_low h0 (Nat.le_refl k) hk (Nat.le_refl k) (by omega),del_succ]
def tt (m:Mx) (k i j:Nat):Int:=m i j*m k k-m i k*m k j
theorem BS.quot {A:Mx} {W n k:Nat} {m:Mx} (h:BS A W n k m) (h0:del A k≠0) (hk:k<n) (hW:n≤W) (hp:m k k≠0) {i j:Nat} (hi:i<n) (hik:i≠k) (hj:j<W):∃ q,tt m k i j=del A k*q:=by
 have hpiv:=h.pivot h0 hk hW
 have h1:del A (k+1)≠0:=by rw [← hpiv];exact hp
 have hk0:∀ c,c<k→m k c=0:=fun c hc=>h.sl k c (Nat.le_refl k) hk hc
 have hz:∀ z,(∀ r,r<k+1→dot W (A r) z=0)→dot W (m k) z=0:=fun z hz=>by
  rw [h.low z (fun r hr=>hz r (by omega)) k (Nat.le_refl k) hk,hz k (by omega),Int.mul_zero]
 have hd:∀ z,dot W (tt m k i) z=m k k*dot W (m i) z-m i k*dot W (m k) z:=fun z=>dot_lin W (m i) (m k) z (m k k) (m i k)
 have htk:tt m k i k=0:=by unfold tt;omega
 by_cases hjk:j≤k
 ·by_cases e:j=k
  ·subst e
   exact ⟨0,by rw [htk,Int.mul_zero]⟩
  ·unfold tt
   rw [hk0 j (by omega),Int.mul_zero,Int.sub_zero]
   by_cases hik':i<k
   ·rw [h.su i j hik' (by omega)]
    by_cases hij:i=j
    ·rw [if_pos hij];exact ⟨_,rfl⟩
    ·rw [if_neg hij,Int.zero_mul];exact ⟨0,(Int.mul_zero _).symm⟩
   ·rw [h.sl i j (by omega) hi (by omega),Int.zero_mul]
    exact ⟨0,(Int.mul_zero _).symm⟩
 ·have hk1:k+1≤j:=by omega
  have ht:=hd (zv A (k+1) j)
  rw [hz _ (zv_ok hk1 hj),Int.mul_zero,Int.sub_zero,dot_zv _ hk1 hj] at ht
  by_cases hik':i<k
  ·rw [h.up _ (fun r hr=>zv_ok hk1 hj r (by omega)) i hik',Int.mul_zero] at ht
   have hs:sm (k+1) (fun c=>tt m k i c*-kap A (k+1) j c)=del A k*del A (k+1)*-kap A (k+1) j i:=by
    rw [← sm_one (k:=k+1) (d:=del A k*del A (k+1)) (g:=fun c=>-kap A (k+1) j c) (by omega:i<k+1)]
    refine sm_congr fun c hc=>?_
    by_cases hck:c=k
    ·rw [hck,htk,if_neg hik]
    ·have e1:tt m k i c=if i=c then del A k*del A (k+1) else 0:=by
      unfold tt
      rw [hk0 c (by omega),h.su i c hik' (by omega),hpiv]
      by_cases hic:i=c
      ·rw [if_pos hic,if_pos hic];omega
      ·rw [if_neg hic,if_neg hic];omega
     rw [e1]
   rw [hs] at ht
   refine ⟨-kap A (k+1) j i,Int.eq_of_mul_eq_mul_left h1 ?_⟩
   grind
  ·have hxk:k+1≤i:=by omega
   rw [h.low _ (fun r hr=>zv_ok hk1 hj r (by omega)) i (by omega) hi,dot_zv_A i hk1 hj,hpiv] at ht
   have hs:sm (k+1) (fun c=>tt m k i c*-kap A (k+1) j c)=0:=sm_zero fun c hc=>by
    by_cases hck:c=k
    ·rw [hck,htk,Int.zero_mul]
    ·have e1:tt m k i c=0:=by
      unfold tt
      rw [hk0 c (by omega),h.sl i c (by omega) hi (by omega)]
      omega
     rw [e1,Int.zero_mul]
   rw [hs] at ht
   refine ⟨mn A (k+1) i j,Int.eq_of_mul_eq_mul_left h1 ?_⟩
   grind
theorem BS.next {A:Mx} {W n k:Nat} {m m':Mx} (h:BS A W n k m) (h0:del A k≠0) (hk:k<n) (hW:n≤W) (e1:∀ j,j<W→m' k j=m k j) (e2:∀ i,i<n→i≠k→∀ j,j<W→del A k*m' i j=tt m k i j):BS A W n (k+1) m':=by
 have hpiv:=h.pivot h0 hk hW
 have hk0:∀ c,c<k→m k c=0:=fun c hc=>h.sl k c (Nat.le_refl k) hk hc
 have hz:∀ z,(∀ r,r<k+1→dot W (A r) z=0)→dot W (m k) z=0:=fun z hz=>by
  rw [h.low z (fun r hr=>hz r (by omega)) k (Nat.le_refl k) hk,hz k (by omega),Int.mul_zero]
 have hd:∀ i z,dot W (tt m k i) z=m k k*dot W (m i) z-m i k*dot W (m k) z:=fun i z=>dot_lin W (m i) (m k) z (m k k) (m i k)
 have hdm:∀ i,i<n→i≠k→∀ z,del A k*dot W (m' i) z=dot W (tt m k i) z:=fun i hi hik z=>by
  rw [← dot_mul]
  exact dot_congr (e2 i hi hik)
 refine ⟨fun z hr i hi=>?_,fun z hr x hx hn=>?_,fun i j hi hj=>?_,fun x j hx hn hj=>?_⟩
 ·by_cases hik:i=k
  ·subst hik
   rw [dot_congr e1]
   exact hz z hr
  ·have:=hdm i (by omega) hik z
   rw [hd,hz z hr,h.up z (fun r hr'=>hr r (by omega)) i (by omega),Int.mul_zero,Int.mul_zero] at this
   exact (Int.mul_eq_zero.1 this).resolve_left h0
 ·have:=hdm x hn (by omega) z
  rw [hd,hz z hr,h.low z (fun r hr'=>hr r (by omega)) x (by omega) hn,Int.mul_zero,hpiv] at this
  refine Int.eq_of_mul_eq_mul_left h0 ?_
  grind
 ·by_cases hik:i=k
  ·subst hik
   rw [e1 j (by omega)]
   by_cases hij:i=j
   ·subst hij;rw [if_pos rfl,hpiv]
   ·rw [if_neg hij,hk0 j (by omega)]
  ·have:=e2 i (by omega) hik j (by omega)
   refine Int.eq_of_mul_eq_mul_left h0 (this.trans ?_)
   by_cases hjk:j=k
   ·subst hjk
    rw [if_neg hik]
    unfold tt
    omega
   ·unfold tt
    rw [hk0 j (by omega),h.su i j (by omega) (by omega),hpiv]
    by_cases hij:i=j
    ·rw [if_pos hij,if_pos hij];omega
    ·rw [if_neg hij,if_neg hij];omega
 ·have:=e2 x hn (by omega) j (by omega)
  refine Int.eq_of_mul_eq_mul_left h0 (this.trans ?_)
  by_cases hjk:j=k
  ·subst hjk
   unfold tt
   omega
  ·unfold tt
   rw [hk0 j (by omega),h.sl x j (by omega) hn (by omega)]
   omega
theorem sm_head (g:Nat→Int):∀ m,sm (m+1) g=g 0+sm m fun d=>g (d+1)
 | 0=>by show 0+g 0=g 0+0;omega
 | m+1=>by
  show sm (m+1) g+g (m+1)=g 0+(sm m (fun d=>g (d+1))+g (m+1))
  rw [sm_head g m]
  omega
def sr (k n:Nat) (f:Nat→Int):Int:=sm (n-k) fun d=>f (k+d)
theorem sr_step {k n:Nat} {f:Nat→Int} (h:k<n):sr k n f=f k+sr (k+1) n f:=by
 unfold sr
 obtain ⟨m,rfl⟩:∃ m,n=k+1+m:=⟨n-(k+1),by omega⟩
 rw [show k+1+m-k=m+1 by omega,show k+1+m-(k+1)=m by omega,sm_head,Nat.add_zero]
 congr 1
 exact sm_congr fun d _=>by rw [show k+(d+1)=k+1+d by omega]
theorem sr_congr {k n:Nat} {f g:Nat→Int} (h:∀ x,k≤x→x<n→f x=g x):sr k n f=sr k n g:=sm_congr fun d hd=>h _ (by omega) (by omega)
theorem sr_mul (c:Int) (k n:Nat) (f:Nat→Int):sr k n (fun x=>c*f x)=c*sr k n f:=sm_mul c _ _
theorem sr_add (k n:Nat) (f g:Nat→Int):sr k n (fun x=>f x+g x)=sr k n f+sr k n g:=sm_add _ _ _
theorem sr_neg (k n:Nat) (f:Nat→Int):sr k n (fun x=>-f x)=-sr k n f:=sm_neg _ _
theorem sm_le {f g:Nat→Int}:∀ {n:Nat},(∀ i,i<n→f i≤g i)→sm n f≤sm n g
 | 0,_=>Int.le_refl _
 | n+1,h=>by
  have h1:=sm_le (n:=n) fun i hi=>h i (by omega)
  have h2:=h n (by omega)
  show sm n f+f n≤sm n g+g n
  omega
theorem sr_le {k n:Nat} {f g:Nat→Int} (h:∀ x,k≤x→x<n→f x≤g x):sr k n f≤sr k n g:=sm_le fun d hd=>h _ (by omega) (by omega)
theorem sr_pos {k n:Nat} {f:Nat→Int} (h:∀ x,k≤x→x<n→0≤f x):0≤sr k n f:=by
 have:=sr_le (k:=k) (n:=n) (f:=fun _=>0) (g:=f) h
 have h0:sr k n (fun _=>0)=0:=sm_zero fun _ _=>rfl
 omega
theorem sr_mem {n:Nat} {f:Nat→Int}:∀ (d k:Nat),n-k=d→(∀ x,k≤x→x<n→0≤f x)→∀ x,k≤x→x<n→f x≤sr k n f
 | 0,k,hd,_,x,h1,h2=>by omega
 | d+1,k,hd,h,x,h1,h2=>by
  rw [sr_step (by omega)]
  have hp:0≤sr (k+1) n f:=sr_pos fun y h3 h4=>h y (by omega) h4
  have h0:=h k (Nat.le_refl k) (by omega)
  by_cases e:x=k
  ·subst e;omega
  ·have:=sr_mem d (k+1) (by omega) (fun y h3 h4=>h y (by omega) h4) x (by omega) h2
   omega
def ab (x:Int):Int:=max x (-x)
theorem ab_pos (x:Int):0≤ab x:=by unfold ab;omega
theorem ab_le (x:Int):x≤ab x∧-x≤ab x:=by unfold ab;omega
theorem ab_mul (x y:Int):ab (x*y)=ab x*ab y:=by
 unfold ab
 rcases Int.le_total 0 x with h | h<;>rcases Int.le_total 0 y with h' | h'
 ·have:=Int.mul_nonneg h h'
  rw [Int.max_eq_left (by omega),Int.max_eq_left (by omega),Int.max_eq_left (by omega)]
 ·have:=Int.mul_nonneg h (Int.neg_nonneg.2 h')
  rw [Int.mul_neg] at this
  rw [Int.max_eq_right (by omega),Int.max_eq_left (by omega),Int.max_eq_right (by omega),Int.mul_neg]
 ·have:=Int.mul_nonneg (Int.neg_nonneg.2 h) h'
  rw [Int.neg_mul] at this
  rw [Int.max_eq_right (by omega),Int.max_eq_right (by omega),Int.max_eq_left (by omega),Int.neg_mul]
 ·have:=Int.mul_nonneg (Int.neg_nonneg.2 h) (Int.neg_nonneg.2 h')
  rw [Int.neg_mul_neg] at this
  rw [Int.max_eq_left (by omega),Int.max_eq_right (by omega),Int.max_eq_right (by omega),Int.neg_mul_neg]
theorem ab_sub (x y:Int):ab (x-y)≤ab x+ab y:=by unfold ab;omega
structure LB (A:Mx) (n W k:Nat) (B:Int) (m:Mx):Prop where
 s1:∀ x j,k≤x→x<n→k≤j→j<n→m x j=m j x
 s2:∀ x j,k≤x→x<n→k≤j→j<n→x≠j→m x j≤0
 s3:∀ x,k≤x→x<n→0≤sr k n (m x)
 s4:∀ x,k≤x→x<n→m x x≤del A k*A x x
 u1:∀ i j,i<k→k≤j→j<n→m i j≤0
 u2:∀ i,i<k→0≤del A k+sr k n (m i)
 r1:∀ c,n≤c→c<W→sr k n (fun x=>ab (m x c))≤del A k*B
theorem LB.diag {A:Mx} {n W k:Nat} {B:Int} {m:Mx} (h:LB A n W k B m) (hk:k<n):sr (k+1) n (m k)≤0∧0≤m k k:=by
 have h3:=h.s3 k (Nat.le_refl k) hk
 rw [sr_step hk] at h3
 have hp:0≤sr (k+1) n (fun j=>-m k j):=sr_pos fun j h1 h2=>by
  have:=h.s2 k j (Nat.le_refl k) hk (by omega) h2 (by omega)
  omega
 rw [sr_neg] at hp
 omega
theorem LB.zero {A:Mx} {n W k:Nat} {B:Int} {m:Mx} (h:LB A n W k B m) (hk:k<n) (h0:m k k=0):∀ x,k≤x→x<n→m x k=0:=fun x hx hn=>by
 rw [h.s1 x k hx hn (Nat.le_refl k) hk]
 by_cases e:x=k
 ·rw [e];exact h0
 ·have h3:=h.s3 k (Nat.le_refl k) hk
  rw [sr_step hk,h0] at h3
  have hall:∀ j,k+1≤j→j<n→0≤-m k j:=fun j h1 h2=>by
   have:=h.s2 k j (Nat.le_refl k) hk (by omega) h2 (by omega)
   omega
  have:=sr_mem (f:=fun j=>-m k j) _ (k+1) rfl hall x (by omega) hn
  rw [sr_neg] at this
  have:=hall x (by omega) hn
  omega
theorem LB.next {A:Mx} {n W k:Nat} {B:Int} {m m':Mx} (h:LB A n W k B m) (hk:k<n) (hd:0<del A k) (hpd:m k k=del A (k+1)) (hp:0<m k k) (e1:∀ j,j<W→m' k j=m k j) (e2:∀ i,i<n→i≠k→∀ j,j<W→del A k*m' i j=tt m k i j) (hW:n≤W):LB A n W (k+1) B m':=by
 have hk3:=h.s3 k (Nat.le_refl k) hk
 rw [sr_step hk] at hk3
 have hoff:∀ x,k+1≤x→x<n→m x k≤0:=fun x h1 h2=>h.s2 x k (by omega) h2 (Nat.le_refl k) hk (by omega)
 have hoff2:∀ j,k+1≤j→j<n→m k j≤0:=fun j h1 h2=>h.s2 k j (Nat.le_refl k) hk (by omega) h2 (by omega)
 have hsum:∀ i,i<n→i≠k→del A k*sr (k+1) n (m' i)=m k k*sr (k+1) n (m i)-m i k*sr (k+1) n (m k):=fun i hi hik=>by
  rw [← sr_mul,← sr_mul,← sr_mul,Int.sub_eq_add_neg,← sr_neg,← sr_add]
  refine sr_congr fun j h1 h2=>?_
  rw [e2 i hi hik j (by omega)]
  unfold tt
  grind
 rw [hpd] at hp hk3 hsum
 have cancel:∀ {a b:Int},del A k*a≤del A k*b→a≤b:=fun h=>Int.le_of_mul_le_mul_left h hd
 refine ⟨fun x j hx hn hj hjn=>?_,fun x j hx hn hj hjn hne=>?_,fun x hx hn=>?_,fun x hx hn=>?_,fun i j hi hj hjn=>?_,fun i hi=>?_,fun c hc hcW=>?_⟩
 ·have a1:=e2 x hn (by omega) j (by omega)
  have a2:=e2 j hjn (by omega) x (by omega)
  refine Int.eq_of_mul_eq_mul_left (by omega:del A k≠0) (a1.trans (Eq.trans ?_ a2.symm))
  unfold tt
  rw [h.s1 x j (by omega) hn (by omega) hjn,h.s1 x k (by omega) hn (Nat.le_refl k) hk,h.s1 k j (Nat.le_refl k) hk (by omega) hjn,Int.mul_comm (m k x)]
 ·have a1:=e2 x hn (by omega) j (by omega)
  refine cancel ?_
  rw [a1,Int.mul_zero]
  unfold tt
  rw [hpd]
  have q1:=Int.mul_nonneg (Int.neg_nonneg.2 (h.s2 x j (by omega) hn (by omega) hjn hne)) (Int.le_of_lt hp)
  have q2:=Int.mul_nonneg (Int.neg_nonneg.2 (hoff x hx hn)) (Int.neg_nonneg.2 (hoff2 j hj hjn))
  rw [Int.neg_mul] at q1
  rw [Int.neg_mul_neg] at q2
  omega
 ·refine cancel ?_
  rw [hsum x hn (by omega),Int.mul_zero]
  have h3:=h.s3 x (by omega) hn
  rw [sr_step hk] at h3
  have q1:=Int.mul_nonneg (Int.le_of_lt hp) h3
  have q2:=Int.mul_nonneg (Int.neg_nonneg.2 (hoff x hx hn)) hk3
  grind
 ·refine cancel ?_
  rw [e2 x hn (by omega) x (by omega)]
  unfold tt
  rw [hpd,h.s1 k x (Nat.le_refl k) hk (by omega) hn]
  have q1:=Int.mul_le_mul_of_nonneg_right (h.s4 x (by omega) hn) (Int.le_of_lt hp)
  have q2:0≤m x k*m x k:=by
   have:=Int.mul_nonneg (Int.neg_nonneg.2 (hoff x hx hn)) (Int.neg_nonneg.2 (hoff x hx hn))
   rwa [Int.neg_mul_neg] at this
  grind
 ·by_cases hik:i=k
  ·subst hik
   rw [e1 j (by omega)]
   exact hoff2 j hj hjn
  ·refine cancel ?_
   rw [e2 i (by omega) hik j (by omega),Int.mul_zero]
   unfold tt
   rw [hpd]
   have q1:=Int.mul_nonneg (Int.neg_nonneg.2 (h.u1 i j (by omega) (by omega) hjn)) (Int.le_of_lt hp)
   have q2:=Int.mul_nonneg (Int.neg_nonneg.2 (h.u1 i k (by omega) (Nat.le_refl k) hk)) (Int.neg_nonneg.2 (hoff2 j hj hjn))
   rw [Int.neg_mul] at q1
   rw [Int.neg_mul_neg] at q2
   omega
 ·by_cases hik:i=k
  ·subst hik
   rw [sr_congr (g:=m i) fun j h1 h2=>e1 j (by omega)]
   omega
  ·refine cancel ?_
   rw [Int.mul_zero,Int.mul_add,hsum i (by omega) hik]
   have h3:=h.u2 i (by omega)
   rw [sr_step hk] at h3
   have q1:=Int.mul_nonneg (Int.le_of_lt hp) h3
   have q2:=Int.mul_nonneg (Int.neg_nonneg.2 (h.u1 i k (by omega) (Nat.le_refl k) hk)) hk3
   grind
 ·refine cancel ?_
  have h1:=h.r1 c hc hcW
  rw [sr_step hk] at h1
  have hb:del A k*sr (k+1) n (fun x=>ab (m' x c))≤del A (k+1)*sr (k+1) n (fun x=>ab (m x c))+ab (m k c)*-sr (k+1) n (m k):=by
   rw [← sr_mul,← sr_mul,← sr_neg,← sr_mul,← sr_add]
   refine sr_le fun x hx hn=>?_
   have a1:=e2 x hn (by omega) c hcW
   have a2:del A k*ab (m' x c)=ab (tt m k x c):=by
    rw [← a1,ab_mul]
    congr 1
    unfold ab
    omega
   rw [a2]
   unfold tt
   refine Int.le_trans (ab_sub _ _) ?_
   rw [ab_mul,ab_mul,hpd]
   have b1:ab (del A (k+1))=del A (k+1):=by unfold ab;omega
   have b2:ab (m x k)=-m k x:=by
    rw [h.s1 k x (Nat.le_refl k) hk (by omega) hn]
    have:=hoff x hx hn
    unfold ab;omega
   rw [b1,b2,Int.mul_comm (ab (m x c)),Int.mul_comm (-m k x)]
   exact Int.le_refl _
  have q1:=Int.mul_nonneg (ab_pos (m k c)) hk3
  have q2:=Int.mul_le_mul_of_nonneg_left h1 (Int.le_of_lt hp)
  refine Int.le_trans hb ?_
  grind
def pd (a:Nat→Nat):Nat→Nat
 | 0=>1
 | k+1=>pd a k*a k
def sd (a:Nat→Nat):Nat→Nat
 | 0=>0
 | k+1=>sd a k+a k
structure LZ (A:Mx) (n W k:Nat) (B:Int) (a:Nat→Nat) (m:Mx):Prop where
 le:del A k≤pd a k
 rh:∀ i c,i<k→n≤c→c<W→ab (m i c)≤k*pd a k*B
theorem LZ.next {A:Mx} {n W k:Nat} {B:Int} {a:Nat→Nat} {m m':Mx} (ha:∀ x,x<n→A x x=a x) (hB:0≤B) (hz:LZ A n W k B a m) (h:LB A n W k B m) (hk:k<n) (hd:0<del A k) (hpd:m k k=del A (k+1)) (hp:0<m k k) (e1:∀ j,j<W→m' k j=m k j) (e2:∀ i,i<n→i≠k→∀ j,j<W→del A k*m' i j=tt m k i j) (hW:n≤W):LZ A n W (k+1) B a m':=by
 have h4:=h.s4 k (Nat.le_refl k) hk
 rw [ha k hk] at h4
 have hak:(1:Int)≤a k:=by
  refine Int.not_lt.1 fun hlt=>?_
  have e:(a k:Int)=0:=by omega
  rw [e,Int.mul_zero] at h4
  omega
 have hpk:del A k*(a k:Int)≤(pd a k:Int)*(a k:Int):=Int.mul_le_mul_of_nonneg_right hz.le (by omega)
 have hpe:((pd a (k+1):Nat):Int)=(pd a k:Int)*(a k:Int):=by
  show ((pd a k*a k:Nat):Int)=_
  exact Int.natCast_mul _ _
 have hPP:(pd a k:Int)≤(pd a k:Int)*(a k:Int):=by
  have:=Int.mul_le_mul_of_nonneg_left hak (Int.natCast_nonneg (pd a k))
  rwa [Int.mul_one] at this
 have hPB:0≤(pd a k:Int)*(a k:Int)*B:=Int.mul_nonneg (Int.mul_nonneg (Int.natCast_nonneg _) (by omega)) hB
 refine ⟨by rw [hpe,← hpd];omega,fun i c hi hc hcW=>?_⟩
 have hmk:ab (m k c)≤(pd a k:Int)*B:=by
  have h1:=h.r1 c hc hcW
  have h2:=sr_mem (f:=fun x=>ab (m x c)) _ k rfl (fun x _ _=>ab_pos _) k (Nat.le_refl k) hk
  have h3:=Int.mul_le_mul_of_nonneg_right hz.le hB
  omega
 have hle:(pd a k:Int)*B≤(pd a k:Int)*(a k:Int)*B:=Int.mul_le_mul_of_nonneg_right hPP hB
 rw [hpe]
 have hcast:((k+1:Nat):Int)=(k:Int)+1:=by omega
 rw [hcast]
 by_cases hik:i=k
 ·subst hik
  rw [e1 c hcW]
  have:0≤(i:Int)*((pd a i:Int)*(a i:Int)*B):=Int.mul_nonneg (by omega) hPB
  grind
 ·have hi':i<k:=by omega
  have a1:=e2 i (by omega) hik c hcW
  have a2:del A k*ab (m' i c)=ab (tt m k i c):=by
   rw [← a1,ab_mul]
   congr 1
   unfold ab
   omega
  have hmik:ab (m i k)≤del A k:=by
   have u1:=h.u1 i k hi' (Nat.le_refl k) hk
   have u2:=h.u2 i hi'
   have:=sr_mem (f:=fun j=>-m i j) _ k rfl (fun j h1 h2=>by have:=h.u1 i j hi' h1 h2;omega) k (Nat.le_refl k) hk
   rw [sr_neg] at this
   unfold ab;omega
  have hb:ab (tt m k i c)≤ab (m i c)*m k k+ab (m i k)*ab (m k c):=by
   unfold tt
   refine Int.le_trans (ab_sub _ _) ?_
   rw [ab_mul,ab_mul]
   have b1:ab (m k k)=m k k:=by unfold ab;omega
   rw [b1]
   exact Int.le_refl _
  have g1:ab (m i c)*m k k≤ab (m i c)*(del A k*(a k:Int)):=Int.mul_le_mul_of_nonneg_left h4 (ab_pos _)
  have g2:ab (m i k)*ab (m k c)≤del A k*ab (m k c):=Int.mul_le_mul_of_nonneg_right hmik (ab_pos _)
  have g3:del A k*ab (m' i c)≤del A k*(ab (m i c)*(a k:Int)+ab (m k c)):=by grind
  have g4:=Int.le_of_mul_le_mul_left g3 hd
  have g5:=Int.mul_le_mul_of_nonneg_right (hz.rh i c hi' hc hcW) (by omega:(0:Int)≤a k)
  grind
structure Lap (A:Mx) (n W:Nat) (B:Int) (a:Nat→Nat):Prop where
 hW:n≤W
 hn:n≤8
 hB:40≤B
 hB2:B≤50000
 sy:∀ x j,x<n→j<n→A x j=A j x
 of:∀ x j,x<n→j<n→x≠j→A x j≤0
 rs:∀ x,x<n→0≤sm n (A x)
 dg:∀ x,x<n→A x x=a x
 sd:sd a n≤40
 rh:∀ c,n≤c→c<W→sm n (fun x=>ab (A x c))≤B
theorem sr_zero (n:Nat) (f:Nat→Int):sr 0 n f=sm n f:=by
 unfold sr
 exact sm_congr fun d _=>by rw [Nat.zero_add]
theorem Lap.lb {A:Mx} {n W:Nat} {B:Int} {a:Nat→Nat} (h:Lap A n W B a):LB A n W 0 B A where
 s1:=fun x j _ hx _ hj=>h.sy x j hx hj
 s2:=fun x j _ hx _ hj hne=>h.of x j hx hj hne
 s3:=fun x _ hx=>by rw [sr_zero];exact h.rs x hx
 s4:=fun x _ _=>by show A x x≤1*A x x;omega
 u1:=fun i j hi=>absurd hi (Nat.not_lt_zero _)
 u2:=fun i hi=>absurd hi (Nat.not_lt_zero _)
 r1:=fun c hc hcW=>by
  rw [sr_zero]
  have:=h.rh c hc hcW
  show _≤1*B
  omega
def stt (A:Mx) (n:Nat):Nat→Mx
 | 0=>A
 | k+1=>fun i j=>if i=k∨n≤i then stt A n k i j else (tt (stt A n k) k i j).tdiv (del A k)
theorem sd_mono (a:Nat→Nat) {k:Nat}:∀ n,k≤n→sd a k≤sd a n
 | 0,h=>by
  have:k=0:=by omega
  subst this;exact Nat.le_refl _
 | n+1,h=>by
  by_cases e:k=n+1
  ·rw [e];exact Nat.le_refl _
  ·have:=sd_mono a (k:=k) n (by omega)
   show _≤sd a n+a n
   omega
theorem sd_mem (a:Nat→Nat) {x:Nat}:∀ n,x<n→a x≤sd a n
 | n+1,h=>by
  show _≤sd a n+a n
  by_cases e:x=n
  ·rw [e];omega
  ·have:=sd_mem a (x:=x) n (by omega)
   omega
theorem sr_but {f:Nat→Int} {k n x:Nat} (hx:k≤x) (hn:x<n):sr k n (fun y=>if y=x then 0 else -f y)+sr k n f=f x:=by
 rw [← sr_add]
 unfold sr
 rw [sm_part (k:=0) (j:=x-k) (Nat.zero_le _) (by omega) fun c _ hne' hc=>by
  show (if k+c=x then 0 else -f (k+c))+f (k+c)=0
  rw [if_neg (by omega)];omega]
 show 0+((if k+(x-k)=x then 0 else -f (k+(x-k)))+f (k+(x-k)))=f x
 rw [show k+(x-k)=x by omega,if_pos rfl]
 omega
def rw_ (i:Nat) (A:Mx):Mx:=fun r c=>A (skp i r) c
theorem det_col:∀ (n:Nat) (A:Mx),det (n+1) A=sm (n+1) fun i=>sg (n+i)*(A i n*det n (rw_ i A))
 | 0,A=>rfl
 | n+1,A=>by
  have hdef:det (n+2) A=sm (n+1) (fun j=>sg (n+1+j)*(A (n+1) j*det (n+1) (dl j A)))+sg (n+1+(n+1))*(A (n+1) (n+1)*det (n+1) (dl (n+1) A)):=rfl
  have hrhs:(sm (n+2) fun i=>sg (n+1+i)*(A i (n+1)*det (n+1) (rw_ i A)))=sm (n+1) (fun i=>sg (n+1+i)*(A i (n+1)*det (n+1) (rw_ i A)))+sg (n+1+(n+1))*(A (n+1) (n+1)*det (n+1) (rw_ (n+1) A)):=rfl
  rw [hdef,hrhs]
  have hlast:det (n+1) (dl (n+1) A)=det (n+1) (rw_ (n+1) A):=det_congr fun i hi j hj=>by
   show A i (skp (n+1) j)=A (skp (n+1) i) j
   unfold skp
   rw [if_pos hi,if_pos hj]
  rw [hlast]
  congr 1
  have e1:sm (n+1) (fun j=>sg (n+1+j)*(A (n+1) j*det (n+1) (dl j A)))=sm (n+1) fun j=>sm (n+1) fun i=>sg (n+1+j)*(A (n+1) j*(sg (n+i)*(A i (n+1)*det n (rw_ i (dl j A))))):=by
   refine sm_congr fun j hj=>?_
   rw [det_col n (dl j A),← sm_mul,← sm_mul]
   refine sm_congr fun i hi=>?_
   have:dl j A i n=A i (n+1):=by
    show A i (skp j n)=_
    unfold skp;rw [if_neg (by omega)]
   rw [this]
  have e2:sm (n+1) (fun i=>sg (n+1+i)*(A i (n+1)*det (n+1) (rw_ i A)))=sm (n+1) fun i=>sm (n+1) fun j=>sg (n+1+i)*(A i (n+1)*(sg (n+j)*(A (n+1) j*det n (dl j (rw_ i A))))):=by
   refine sm_congr fun i hi=>?_
   have hd:det (n+1) (rw_ i A)=sm (n+1) fun j=>sg (n+j)*(rw_ i A n j*det n (dl j (rw_ i A))):=rfl
   rw [hd,← sm_mul,← sm_mul]
   refine sm_congr fun j hj=>?_
   have:rw_ i A n j=A (n+1) j:=by
    show A (skp i n) j=_
    unfold skp;rw [if_neg (by omega)]
   rw [this]
  rw [e1,e2,sm_swap]
  refine sm_congr fun i hi=>sm_congr fun j hj=>?_
  have hc:rw_ i (dl j A)=dl j (rw_ i A):=rfl
  rw [hc,show n+1+j=(n+j)+1 by omega,show n+1+i=(n+i)+1 by omega,sg_succ,sg_succ]
  generalize det n (dl j (rw_ i A))=D
  generalize A (n+1) j=u
  generalize A i (n+1)=v
  generalize sg (n+j)=s
  generalize sg (n+i)=t
  grind
def tr (A:Mx):Mx:=fun i j=>A j i
theorem det_tr:∀ (n:Nat) (A:Mx),det n (tr A)=det n A
 | 0,_=>rfl
 | n+1,A=>by
  rw [det_col n A]
  show (sm (n+1) fun j=>sg (n+j)*(tr A n j*det n (dl j (tr A))))=_
  refine sm_congr fun j hj=>?_
  have:det n (dl j (tr A))=det n (rw_ j A):=by rw [← det_tr n (rw_ j A)];rfl
  rw [this];rfl
def swi (p q i:Nat):Nat:=if i=p then q else if i=q then p else i
def sww (p q:Nat) (A:Mx):Mx:=fun i=>A (swi p q i)
theorem det_sww {n:Nat}:∀ (d p:Nat) (A:Mx),p+d+1<n→det n (sww p (p+d+1) A)=-det n A
 | 0,p,A,h=>det_swap n p A h
 | d+1,p,A,h=>by
  have h1:=det_swap n (p+d+1) A (by omega)
  have h2:=det_sww (n:=n) d p (swr (p+d+1) A) (by omega)
  have h3:=det_swap n (p+d+1) (sww p (p+d+1) (swr (p+d+1) A)) (by omega)
  have e:swr (p+d+1) (sww p (p+d+1) (swr (p+d+1) A))=sww p (p+(d+1)+1) A:=by
   funext i
   have f:∀ x:Nat,(if x=p+d+1 then p+d+1+1 else if x=p+d+1+1 then p+d+1 else x)=swi (p+d+1) (p+d+1+1) x:=fun x=>rfl
   have g:swi (p+d+1) (p+d+1+1) (swi p (p+d+1) (swi (p+d+1) (p+d+1+1) i))=swi p (p+(d+1)+1) i:=by
    rcases (show i=p∨i=p+d+1∨i=p+d+1+1∨(i≠p∧i≠p+d+1∧i≠p+d+1+1) by omega) with h | h | h | ⟨h,h',h''⟩
    ·subst h
     have a1:swi (i+d+1) (i+d+1+1) i=i:=by unfold swi;rw [if_neg (by omega),if_neg (by omega)]
     have a2:swi i (i+d+1) i=i+d+1:=by unfold swi;rw [if_pos rfl]
     have a3:swi (i+d+1) (i+d+1+1) (i+d+1)=i+d+1+1:=by unfold swi;rw [if_pos rfl]
     have a4:swi i (i+(d+1)+1) i=i+(d+1)+1:=by unfold swi;rw [if_pos rfl]
     rw [a1,a2,a3,a4];omega
    ·subst h
     have a1:swi (p+d+1) (p+d+1+1) (p+d+1)=p+d+1+1:=by unfold swi;rw [if_pos rfl]
     have a2:swi p (p+d+1) (p+d+1+1)=p+d+1+1:=by unfold swi;rw [if_neg (by omega),if_neg (by omega)]
     have a3:swi (p+d+1) (p+d+1+1) (p+d+1+1)=p+d+1:=by unfold swi;rw [if_neg (by omega),if_pos rfl]
     have a4:swi p (p+(d+1)+1) (p+d+1)=p+d+1:=by unfold swi;rw [if_neg (by omega),if_neg (by omega)]
     rw [a1,a2,a3,a4]
    ·subst h
     have a1:swi (p+d+1) (p+d+1+1) (p+d+1+1)=p+d+1:=by unfold swi;rw [if_neg (by omega),if_pos rfl]
     have a2:swi p (p+d+1) (p+d+1)=p:=by unfold swi;rw [if_neg (by omega),if_pos rfl]
     have a3:swi (p+d+1) (p+d+1+1) p=p:=by unfold swi;rw [if_neg (by omega),if_neg (by omega)]
     have a4:swi p (p+(d+1)+1) (p+d+1+1)=p:=by unfold swi;rw [if_neg (by omega),if_pos (by omega)]
     rw [a1,a2,a3,a4]
    ·have a1:swi (p+d+1) (p+d+1+1) i=i:=by unfold swi;rw [if_neg (by omega),if_neg (by omega)]
     have a2:swi p (p+d+1) i=i:=by unfold swi;rw [if_neg (by omega),if_neg (by omega)]
     have a4:swi p (p+(d+1)+1) i=i:=by unfold swi;rw [if_neg (by omega),if_neg (by omega)]
     rw [a1,a2,a1,a4]
   exact congrArg A g
  rw [e] at h3
  omega
theorem det_sww' {n p q:Nat} (A:Mx) (h:p<q) (hq:q<n):det n (sww p q A)=-det n A:=by
 have:=det_sww (n:=n) (q-p-1) p A (by omega)
 rwa [show p+(q-p-1)+1=q by omega] at this
theorem swi_lt {p q n i:Nat} (hp:p<n) (hq:q<n) (hi:i<n):swi p q i<n:=by unfold swi;split<;>(try split)<;>omega
theorem det_dep_last {m:Nat} {B:Mx} {z:Nat→Int} (h:∀ c,c<m+1→sm (m+1) (fun x=>z x*B x c)=0) (hz:z m≠0):det (m+1) B=0:=by
 have h1:sm (m+1) (fun x=>z x*mn B m x m)=0:=by
  have e:sm (m+1) (fun x=>z x*mn B m x m)=sm (m+1) fun x=>sm m (fun c=>kap B m m c*(z x*B x c))+del B m*(z x*B x m):=by
   refine sm_congr fun x hx=>?_
   rw [mn_row,Int.mul_add,← sm_mul]
   congr 1
   ·refine sm_congr fun c hc=>?_;grind
   ·grind
  rw [e,sm_add,sm_swap,sm_mul,h m (by omega),Int.mul_zero,Int.add_zero]
  refine sm_zero fun c hc=>?_
  rw [sm_mul,h c (by omega),Int.mul_zero]
 have h2:sm (m+1) (fun x=>z x*mn B m x m)=z m*mn B m m m:=by
  show sm m (fun x=>z x*mn B m x m)+z m*mn B m m m=_
  rw [sm_zero fun x hx=>by rw [mn_zero hx,Int.mul_zero],Int.zero_add]
 rw [h2,← del_succ] at h1
 exact (Int.mul_eq_zero.1 h1).resolve_left hz
theorem sm_sww {n p q:Nat} (f:Nat→Int) (hp:p<q) (hq:q<n):sm n (fun i=>f (swi p q i))=sm n f:=by
 -- both are sums over all places but two
 have key:∀ g:Nat→Int,sm n g=sm n (fun i=>if i=p∨i=q then 0 else g i)+g p+g q:=fun g=>by
  have e:sm n g=sm n fun i=>(if i=p∨i=q then 0 else g i)+((if p=i then 1 else 0)*g p+(if q=i then 1 else 0)*g q):=sm_congr fun i hi=>by
   by_cases h1:i=p
   ·subst h1;rw [if_pos (.inl rfl),if_pos rfl,if_neg (by omega)];omega
   ·by_cases h2:i=q
    ·subst h2;rw [if_pos (.inr rfl),if_neg (by omega),if_pos rfl];omega
    ·rw [if_neg (fun h=>h.elim h1 h2),if_neg (fun h=>h1 h.symm),if_neg (fun h=>h2 h.symm)];omega
  have one:∀ k,k<n→∀ c:Int,sm n (fun i=>(if k=i then 1 else 0)*c)=c:=fun k hk c=>by
   have:=sm_one (d:=1) (g:=fun _=>c) hk
   simpa using this
  rw [e,sm_add,sm_add,one p (by omega),one q hq]
  omega
 rw [key f,key fun i=>f (swi p q i)]
 have e1:swi p q p=q:=by unfold swi;rw [if_pos rfl]
 have e2:swi p q q=p:=by unfold swi;rw [if_neg (by omega),if_pos rfl]
 have e3:sm n (fun i=>if i=p∨i=q then 0 else f (swi p q i))=sm n fun i=>if i=p∨i=q then 0 else f i:=sm_congr fun i hi=>by
  by_cases h:i=p∨i=q
  ·rw [if_pos h,if_pos h]
  ·rw [if_neg h,if_neg h]
   unfold swi
   rw [if_neg (fun e=>h (.inl e)),if_neg (fun e=>h (.inr e))]
 rw [e3,e1,e2]
 omega
theorem det_dep {n k:Nat} {B:Mx} {z:Nat→Int} (h:∀ c,c<n→sm n (fun x=>z x*B x c)=0) (hk:k<n) (hz:z k≠0):det n B=0:=by
 obtain ⟨m,rfl⟩:∃ m,n=m+1:=⟨n-1,by omega⟩
 by_cases e:k=m
 ·subst e;exact det_dep_last h hz
 ·have h1:=det_dep_last (m:=m) (B:=sww k m B) (z:=fun x=>z (swi k m x)) (fun c hc=>by
   have:=sm_sww (n:=m+1) (fun x=>z x*B x c) (show k<m by omega) (by omega)
   rw [h c hc] at this
   exact this) (by show z (swi k m m)≠0;unfold swi;rw [if_neg (by omega),if_pos rfl];exact hz)
  rw [det_sww' B (show k<m by omega) (by omega)] at h1
  omega
theorem det_ker {n k:Nat} {A:Mx} {z:Nat→Int} (h:∀ r,r<n→dot n (A r) z=0) (hk:k<n) (hz:z k≠0):det n A=0:=by
 rw [← det_tr]
 refine det_dep (B:=tr A) (z:=z) (fun c hc=>?_) hk hz
 have:=h c hc
 unfold dot at this
 rw [← this]
 exact sm_congr fun x _=>Int.mul_comm _ _
theorem det_nopiv {n k:Nat} {A:Mx} (hk:k<n) (h0:del A k≠0) (h:∀ x,k≤x→x<n→mn A k x k=0):det n A=0:=by
 refine det_ker (z:=zv A k k) (k:=k) (fun r hr=>?_) hk (by unfold zv;rw [if_neg (by omega),if_pos rfl];omega)
 rw [dot_zv_A r (Nat.le_refl k) hk]
 by_cases hrk:r<k
 ·rw [mn_zero hrk];rfl
 ·rw [h r (by omega) hr];rfl
theorem bs_ex {A:Mx} {n:Nat}:∀ k,k≤n→(∀ l,l<k→del A (l+1)≠0)→∃ m,BS A n n k m
 | 0,_,_=>⟨A,BS.start fun _ _ _ _=>rfl⟩
 | k+1,hk,h=>by
  obtain ⟨m,hm⟩:=bs_ex (A:=A) (n:=n) k (by omega) fun l hl=>h l (by omega)
  have h0:del A k≠0:=by
   cases k with
   | zero=>show (1:Int)≠0;omega
   | succ k=>exact h k (by omega)
  have hp:m k k≠0:=by rw [hm.pivot h0 (by omega) (Nat.le_refl n)];exact h k (by omega)
  refine ⟨fun i j=>if i=k then m k j else tt m k i j / del A k,hm.next (m':=fun i j=>if i=k then m k j else tt m k i j / del A k) h0 (by omega) (Nat.le_refl n) (fun j hj=>by rw [if_pos rfl]) fun i hi hik j hj=>?_⟩
  obtain ⟨q,hq⟩:=hm.quot h0 (by omega) (Nat.le_refl n) hp hi hik hj
  rw [if_neg hik,hq,Int.mul_ediv_cancel_left _ h0]
theorem mn_step {A:Mx} {n k:Nat} (hk:k<n) (h:∀ l,l<k+1→del A (l+1)≠0) {i j:Nat} (hi:k<i) (hin:i<n) (hj:k<j) (hjn:j<n):mn A k i j*mn A k k k-mn A k i k*mn A k k j=del A k*mn A (k+1) i j:=by
 obtain ⟨m,hm⟩:=bs_ex (A:=A) (n:=n) k (by omega) fun l hl=>h l (by omega)
 have h0:del A k≠0:=by
  cases k with
  | zero=>show (1:Int)≠0;omega
  | succ k=>exact h k (by omega)
 have hp:m k k≠0:=by rw [hm.pivot h0 hk (Nat.le_refl n)];exact h k (by omega)
 have hnx:=hm.next (m':=fun i j=>if i=k then m k j else tt m k i j / del A k) h0 hk (Nat.le_refl n) (fun j hj=>by rw [if_pos rfl]) fun i hi hik j hj=>by
  obtain ⟨q,hq⟩:=hm.quot h0 hk (Nat.le_refl n) hp hi hik hj
  rw [if_neg hik,hq,Int.mul_ediv_cancel_left _ h0]
 have hv:=hnx.val_low (h k (by omega)) (x:=i) (j:=j) (by omega) hin (by omega) hjn
 obtain ⟨q,hq⟩:=hm.quot h0 hk (Nat.le_refl n) hp hin (show i≠k by omega) hjn
 rw [if_neg (by omega),hq,Int.mul_ediv_cancel_left _ h0] at hv
 rw [← hm.val_low h0 (show k≤i by omega) hin (show k≤j by omega) hjn,← hm.val_low h0 (Nat.le_refl k) hk (Nat.le_refl k) hk,← hm.val_low h0 (show k≤i by omega) hin (Nat.le_refl k) hk,← hm.val_low h0 (Nat.le_refl k) hk (show k≤j by omega) hjn,← hv,← hq]
 rfl
def ins (A:Mx) (c j:Nat):Mx:=fun i x=>A i (if x=c then j else x)
def put (c n:Nat) (B:Mx):Mx:=fun x=>B (if x<c then x else if x=c then n else x-1)
theorem det_put {n:Nat}:∀ (d c:Nat) (B:Mx),c+d=n→det (n+1) (put c n B)=sg d*det (n+1) B
 | 0,c,B,h=>by
  have e:det (n+1) (put c n B)=det (n+1) B:=det_congr fun i hi j _=>by
   show B (if i<c then i else if i=c then n else i-1) j=B i j
   by_cases h1:i<c
   ·rw [if_pos h1]
   ·rw [if_neg h1,if_pos (by omega),show n=i by omega]
  rw [e]
  show _=1*_
  omega
 | d+1,c,B,h=>by
  have ih:=det_put (n:=n) d (c+1) B (by omega)
  have h1:=det_swap (n+1) c (put (c+1) n B) (by omega)
  have e:det (n+1) (swr c (put (c+1) n B))=det (n+1) (put c n B):=det_congr fun i hi j _=>by
   show B (if (if i=c then c+1 else if i=c+1 then c else i)<c+1 then _ else if (if i=c then c+1 else if i=c+1 then c else i)=c+1 then n else (if i=c then c+1 else if i=c+1 then c else i)-1) j=B (if i<c then i else if i=c then n else i-1) j
   by_cases e1:i=c
   ·rw [if_pos e1,if_neg (by omega),if_pos rfl,if_neg (by omega),if_pos e1]
   ·rw [if_neg e1]
    by_cases e2:i=c+1
    ·rw [if_pos e2,if_pos (by omega),if_neg (by omega),if_neg e1,show i-1=c by omega]
    ·rw [if_neg e2]
     by_cases e3:i<c
     ·rw [if_pos (by omega),if_pos e3]
     ·rw [if_neg (by omega),if_neg e2,if_neg e3,if_neg e1]
  rw [← e,h1,ih,sg_succ,Int.neg_mul]
theorem kap_ins (A:Mx) {n c j:Nat} (hc:c<n) (hj:n≤j):-kap A n j c=det n (ins A c j):=by
 obtain ⟨m,rfl⟩:∃ m,n=m+1:=⟨n-1,by omega⟩
 unfold kap
 have h1:=det_put (n:=m) (m-c) c (tr (dl c fun i x=>A i (if x=m+1 then j else x))) (by omega)
 have h2:det (m+1) (put c m (tr (dl c fun i x=>A i (if x=m+1 then j else x))))=det (m+1) (tr (ins A c j)):=det_congr fun i hi x hx=>by
  show A x (if skp c (if i<c then i else if i=c then m else i-1)=m+1 then j else skp c (if i<c then i else if i=c then m else i-1))=A x (if i=c then j else i)
  by_cases e1:i<c
  ·rw [if_pos e1]
   have:skp c i=i:=by unfold skp;rw [if_pos e1]
   rw [this,if_neg (by omega),if_neg (by omega)]
  ·rw [if_neg e1]
   by_cases e2:i=c
   ·rw [if_pos e2]
    have:skp c m=m+1:=by unfold skp;rw [if_neg (by omega)]
    rw [this,if_pos rfl,if_pos e2]
   ·rw [if_neg e2]
    have:skp c (i-1)=i:=by unfold skp;rw [if_neg (by omega)];omega
    rw [this,if_neg (by omega),if_neg e2]
 rw [h2,det_tr,det_tr] at h1
 rw [h1]
 have hs:sg (m+1+c)*sg (m-c)=-1:=by
  unfold sg
  by_cases e:(m+c) % 2=0
  ·rw [if_neg (by omega),if_pos (by omega)];rfl
  ·rw [if_pos (by omega),if_neg (by omega)];rfl
 have hq:sg (m-c)*sg (m-c)=1:=by unfold sg;split<;>rfl
 generalize det (m+1) (dl c fun i x=>A i (if x=m+1 then j else x))=D at *
 have:sg (m+1+c)=-sg (m-c):=by
  unfold sg
  by_cases e:(m+c) % 2=0
  ·rw [if_neg (by omega),if_pos (by omega)]
  ·rw [if_pos (by omega),if_neg (by omega)];rfl
 rw [this]
 grind
theorem BS.cramer {A:Mx} {W n:Nat} {m:Mx} (h:BS A W n n m) (h0:del A n≠0) {i j:Nat} (hi:i<n) (hn:n≤j) (hj:j<W):m i j=det n (ins A i j):=by
 rw [h.val_up h0 hi hn hj,kap_ins A hi hn]
def bdE (E:Int):Nat→Int
 | 0=>1
 | n+1=>(n+1)*(E*bdE E n)
theorem bdE_nn {E:Int} (hE:0≤E):∀ n,0≤bdE E n
 | 0=>by show (0:Int)≤1;omega
 | n+1=>Int.mul_nonneg (by omega) (Int.mul_nonneg hE (bdE_nn hE n))
theorem sm_bd {f:Nat→Int} {b:Int}:∀ {n:Nat},(∀ i,i<n→-b≤f i∧f i≤b)→-(n*b)≤sm n f∧sm n f≤n*b
 | 0,_=>by show -((0:Nat)*b)≤(0:Int)∧(0:Int)≤(0:Nat)*b;simp
 | n+1,h=>by
  have ih:=sm_bd (n:=n) fun i hi=>h i (by omega)
  have:=h n (by omega)
  have e:((n+1:Nat):Int)*b=n*b+b:=by rw [Int.natCast_add,Int.add_mul];simp
  show -(((n+1:Nat):Int)*b)≤sm n f+f n∧sm n f+f n≤((n+1:Nat):Int)*b
  rw [e];omega
theorem mul_bd {x y a b:Int} (hx:-a≤x∧x≤a) (hy:-b≤y∧y≤b):-(a*b)≤x*y∧x*y≤a*b:=by
 have h1:=Int.mul_nonneg (show 0≤a-x by omega) (show 0≤b+y by omega)
 have h2:=Int.mul_nonneg (show 0≤a+x by omega) (show 0≤b-y by omega)
 have h3:=Int.mul_nonneg (show 0≤a-x by omega) (show 0≤b-y by omega)
 have h4:=Int.mul_nonneg (show 0≤a+x by omega) (show 0≤b+y by omega)
 constructor<;>grind
theorem det_bd {E:Int} (hE:0≤E):∀ {n:Nat} {A:Mx},(∀ i j,-E≤A i j∧A i j≤E)→-bdE E n≤det n A∧det n A≤bdE E n
 | 0,A,_=>by show -(1:Int)≤1∧(1:Int)≤1;omega
 | n+1,A,h=>by
  have:=sm_bd (n:=n+1) (f:=fun j=>sg (n+j)*(A n j*det n (dl j A))) (b:=E*bdE E n) fun j hj=>by
   have ih:=det_bd hE (n:=n) (A:=dl j A) fun i c=>h i (skp j c)
   have m:=mul_bd (h n j) ih
   generalize A n j*det n (dl j A)=x at *
   unfold sg
   split
   ·rw [Int.one_mul];exact m
   ·rw [Int.neg_mul,Int.one_mul];omega
  exact this
theorem sq_pow:∀ a:Nat,a*a*3 ^ a*16384≤107163*4 ^ a
 | 0=>by decide
 | 1=>by decide
 | 2=>by decide
 | 3=>by decide
 | 4=>by decide
 | 5=>by decide
 | 6=>by decide
 | 7=>by decide
 | a+8=>by
  have ih:=sq_pow (a+7)
  have h3:3 ^ (a+8)=3*3 ^ (a+7):=by rw [show a+8=a+7+1 from rfl,Nat.pow_succ];omega
  have h4:4 ^ (a+8)=4*4 ^ (a+7):=by rw [show a+8=a+7+1 from rfl,Nat.pow_succ];omega
  rw [h3,h4]
  generalize 3 ^ (a+7)=P at *
  generalize 4 ^ (a+7)=Q at *
  have e:(a+8)*(a+8)*3≤4*((a+7)*(a+7)):=by
   have e1:(a+8)*(a+8)=a*a+16*a+64:=by grind
   have e2:(a+7)*(a+7)=a*a+14*a+49:=by grind
   rw [e1,e2]
   omega
  have e3:=Nat.mul_le_mul_right (P*16384) e
  calc (a+8)*(a+8)*(3*P)*16384=(a+8)*(a+8)*3*(P*16384):=by grind
   _≤4*((a+7)*(a+7))*(P*16384):=e3
   _=4*((a+7)*(a+7)*P*16384):=by grind
   _≤4*(107163*Q):=Nat.mul_le_mul_left 4 ih
   _=107163*(4*Q):=by grind
theorem li_pow:∀ a:Nat,a*3 ^ a*64≤81*4 ^ a
 | 0=>by decide
 | 1=>by decide
 | 2=>by decide
 | 3=>by decide
 | a+4=>by
  have ih:=li_pow (a+3)
  have h3:3 ^ (a+4)=3*3 ^ (a+3):=by rw [show a+4=a+3+1 from rfl,Nat.pow_succ];omega
  have h4:4 ^ (a+4)=4*4 ^ (a+3):=by rw [show a+4=a+3+1 from rfl,Nat.pow_succ];omega
  rw [h3,h4]
  generalize 3 ^ (a+3)=P at *
  generalize 4 ^ (a+3)=Q at *
  have e:(a+4)*3≤4*(a+3):=by omega
  have e3:=Nat.mul_le_mul_right (P*64) e
  calc (a+4)*(3*P)*64=(a+4)*3*(P*64):=by grind
   _≤4*(a+3)*(P*64):=e3
   _=4*((a+3)*P*64):=by grind
   _≤4*(81*Q):=Nat.mul_le_mul_left 4 ih
   _=81*(4*Q):=by grind
theorem pd_sq (a:Nat→Nat):∀ k,pd a k*pd a k*3 ^ sd a k*16384 ^ k≤107163 ^ k*4 ^ sd a k
 | 0=>by show 1*1*1*1≤1*1;decide
 | k+1=>by
  have ih:=pd_sq a k
  have h:=sq_pow (a k)
  have:=Nat.mul_le_mul ih h
  show pd a k*a k*(pd a k*a k)*3 ^ (sd a k+a k)*16384 ^ (k+1)≤107163 ^ (k+1)*4 ^ (sd a k+a k)
  rw [Nat.pow_succ,Nat.pow_succ,Nat.pow_add,Nat.pow_add]
  calc pd a k*a k*(pd a k*a k)*(3 ^ sd a k*3 ^ a k)*(16384 ^ k*16384)=pd a k*pd a k*3 ^ sd a k*16384 ^ k*(a k*a k*3 ^ a k*16384):=by grind
   _≤107163 ^ k*4 ^ sd a k*(107163*4 ^ a k):=this
   _=107163 ^ k*107163*(4 ^ sd a k*4 ^ a k):=by grind
theorem fill_up {y k S K T:Nat} (hk:k≤K) (hS:S≤T) {c d:Nat} (h:y*3 ^ S*16384 ^ k*c≤107163 ^ k*4 ^ S*d):y*3 ^ T*16384 ^ K*c≤107163 ^ K*4 ^ T*d:=by
 have e1:3 ^ T=3 ^ S*3 ^ (T-S):=by rw [← Nat.pow_add];congr 1;omega
 have e2:4 ^ T=4 ^ S*4 ^ (T-S):=by rw [← Nat.pow_add];congr 1;omega
 have e3:16384 ^ K=16384 ^ k*16384 ^ (K-k):=by rw [← Nat.pow_add];congr 1;omega
 have e4:107163 ^ K=107163 ^ k*107163 ^ (K-k):=by rw [← Nat.pow_add];congr 1;omega
 have g1:3 ^ (T-S)≤4 ^ (T-S):=Nat.pow_le_pow_left (by decide) _
 have g2:16384 ^ (K-k)≤107163 ^ (K-k):=Nat.pow_le_pow_left (by decide) _
 have g3:=Nat.mul_le_mul g1 g2
 have g4:=Nat.mul_le_mul h g3
 rw [e1,e2,e3,e4]
 generalize 3 ^ S=A at *
 generalize 4 ^ S=B at *
 generalize 16384 ^ k=C at *
 generalize 107163 ^ k=D at *
 generalize 3 ^ (T-S)=A' at *
 generalize 4 ^ (T-S)=B' at *
 generalize 16384 ^ (K-k)=C' at *
 generalize 107163 ^ (K-k)=D' at *
 calc y*(A*A')*(C*C')*c=y*A*C*c*(A'*C'):=by grind
  _≤D*B*d*(B'*D'):=g4
  _=D*D'*(B*B')*d:=by grind
theorem pd_sq48 {a:Nat→Nat} {k:Nat} (hk:k≤8) (hs:sd a k≤48):pd a k*pd a k≤3360000000000:=by
 have h:=fill_up (y:=pd a k*pd a k) (K:=8) (T:=48) (c:=1) (d:=1) hk hs (by rw [Nat.mul_one,Nat.mul_one];exact pd_sq a k)
 have n1:(3:Nat) ^ 48=79766443076872509863361:=by decide
 have n2:(4:Nat) ^ 48=79228162514264337593543950336:=by decide
 have n3:(16384:Nat) ^ 8=5192296858534827628530496329220096:=by decide
 have n4:(107163:Nat) ^ 8=107163*107163*107163*107163*107163*107163*107163*107163:=by decide
 rw [n1,n2,n3,n4] at h
 omega
theorem pd_one48 {a:Nat→Nat} {k x:Nat} (hk:k≤7) (hs:sd a k+x≤48):pd a k*pd a k*x≤646000000000:=by
 have h0:=Nat.mul_le_mul (pd_sq a k) (li_pow x)
 have h:=fill_up (y:=pd a k*pd a k*x) (S:=sd a k+x) (K:=7) (T:=48) (c:=64) (d:=81) hk hs (by
  rw [Nat.pow_add,Nat.pow_add]
  calc pd a k*pd a k*x*(3 ^ sd a k*3 ^ x)*16384 ^ k*64=pd a k*pd a k*3 ^ sd a k*16384 ^ k*(x*3 ^ x*64):=by grind
   _≤107163 ^ k*4 ^ sd a k*(81*4 ^ x):=h0
   _=107163 ^ k*(4 ^ sd a k*4 ^ x)*81:=by grind)
 have n1:(3:Nat) ^ 48=79766443076872509863361:=by decide
 have n2:(4:Nat) ^ 48=79228162514264337593543950336:=by decide
 have n3:(16384:Nat) ^ 7=316912650057057350374175801344:=by decide
 have n4:(107163:Nat) ^ 7=107163*107163*107163*107163*107163*107163*107163:=by decide
 rw [n1,n2,n3,n4] at h
 omega
theorem pd_two48 {a:Nat→Nat} {k x y:Nat} (hk:k≤6) (hs:sd a k+x+y≤48):pd a k*pd a k*x*y≤646000000000:=by
 have h0:=Nat.mul_le_mul (Nat.mul_le_mul (pd_sq a k) (li_pow x)) (li_pow y)
 have h:=fill_up (y:=pd a k*pd a k*x*y) (S:=sd a k+x+y) (K:=6) (T:=48) (c:=4096) (d:=6561) hk hs (by
  rw [Nat.pow_add,Nat.pow_add,Nat.pow_add,Nat.pow_add]
  calc pd a k*pd a k*x*y*(3 ^ sd a k*3 ^ x*3 ^ y)*16384 ^ k*4096=pd a k*pd a k*3 ^ sd a k*16384 ^ k*(x*3 ^ x*64)*(y*3 ^ y*64):=by grind
   _≤107163 ^ k*4 ^ sd a k*(81*4 ^ x)*(81*4 ^ y):=h0
   _=107163 ^ k*(4 ^ sd a k*4 ^ x*4 ^ y)*6561:=by grind)
 have n1:(3:Nat) ^ 48=79766443076872509863361:=by decide
 have n2:(4:Nat) ^ 48=79228162514264337593543950336:=by decide
 have n3:(16384:Nat) ^ 6=19342813113834066795298816:=by decide
 have n4:(107163:Nat) ^ 6=107163*107163*107163*107163*107163*107163:=by decide
 rw [n1,n2,n3,n4] at h
 omega
structure Lap8 (A:Mx) (n W:Nat) (B:Int) (a:Nat→Nat):Prop where
 hW:n≤W
 hn:n≤8
 hB:40≤B
 hB2:B≤480000
 sy:∀ x j,x<n→j<n→A x j=A j x
 of:∀ x j,x<n→j<n→x≠j→A x j≤0
 rs:∀ x,x<n→0≤sm n (A x)
 dg:∀ x,x<n→A x x=a x
 sd:sd a n≤48
 rh:∀ c,n≤c→c<W→sm n (fun x=>ab (A x c))≤B
theorem Lap8.lb {A:Mx} {n W:Nat} {B:Int} {a:Nat→Nat} (h:Lap8 A n W B a):LB A n W 0 B A where
 s1:=fun x j _ hx _ hj=>h.sy x j hx hj
 s2:=fun x j _ hx _ hj hne=>h.of x j hx hj hne
 s3:=fun x _ hx=>by rw [sr_zero];exact h.rs x hx
 s4:=fun x _ _=>by show A x x≤1*A x x;omega
 u1:=fun i j hi=>absurd hi (Nat.not_lt_zero _)
 u2:=fun i hi=>absurd hi (Nat.not_lt_zero _)
 r1:=fun c hc hcW=>by
  rw [sr_zero]
  have:=h.rh c hc hcW
  show _≤1*B
  omega
theorem run_ok8 {A:Mx} {n W:Nat} {B:Int} {a:Nat→Nat} (h:Lap8 A n W B a):∀ k,k≤n→(∀ l,l<k→del A (l+1)≠0)→BS A W n k (stt A n k)∧LB A n W k B (stt A n k)∧LZ A n W k B a (stt A n k)∧0<del A k
 | 0,_,_=>⟨BS.start fun _ _ _ _=>rfl,h.lb,⟨by show (1:Int)≤1;decide,fun i c hi=>absurd hi (Nat.not_lt_zero _)⟩,by show (0:Int)<1;decide⟩
 | k+1,hk,hne=>by
  obtain ⟨b,l,z,d⟩:=run_ok8 h k (by omega) fun l hl=>hne l (by omega)
  have d0:del A k≠0:=by omega
  have hpd:=b.pivot d0 (by omega) h.hW
  have hp0:stt A n k k k≠0:=by rw [hpd];exact hne k (by omega)
  have hp:0<stt A n k k k:=by have:=(l.diag (by omega)).2;omega
  have e1:∀ j,j<W→stt A n (k+1) k j=stt A n k k j:=fun j _=>if_pos (.inl rfl)
  have e2:∀ i,i<n→i≠k→∀ j,j<W→del A k*stt A n (k+1) i j=tt (stt A n k) k i j:=fun i hi hik j hj=>by
   obtain ⟨q,hq⟩:=b.quot d0 (by omega) h.hW hp0 hi hik hj
   have:stt A n (k+1) i j=(tt (stt A n k) k i j).tdiv (del A k):=if_neg (by omega)
   rw [this,hq,Int.mul_tdiv_cancel_left _ d0]
  exact ⟨b.next d0 (by omega) h.hW e1 e2,l.next (by omega) d hpd hp e1 e2 h.hW,z.next h.dg (by have:=h.hB;omega) l (by omega) d hpd hp e1 e2 h.hW,by rw [← hpd];exact hp⟩

theorem sd_two (a:Nat→Nat) {k x n:Nat} (hk:k<x) (hx:x<n):sd a k+a k+a x≤sd a n:=by
 have h1:sd a (k+1)≤sd a x:=sd_mono a x hk
 have h2:sd a (x+1)≤sd a n:=sd_mono a n hx
 have e1:sd a (k+1)=sd a k+a k:=rfl
 have e2:sd a (x+1)=sd a x+a x:=rfl
 omega
theorem sd_one (a:Nat→Nat) {k x n:Nat} (hk:k≤x) (hx:x<n):sd a k+a x≤sd a n:=by
 have h1:sd a k≤sd a x:=sd_mono a x hk
 have h2:sd a (x+1)≤sd a n:=sd_mono a n hx
 have e2:sd a (x+1)=sd a x+a x:=rfl
 omega
theorem prod_le {x y a b:Int} (hx:x≤a) (hy:y≤b) (hy0:0≤y) (ha:0≤a):x*y≤a*b:=Int.mul_le_mul hx hy hy0 ha
theorem sizes8 {A:Mx} {n W k:Nat} {B:Int} {a:Nat→Nat} {m:Mx} (h:Lap8 A n W B a) (b:BS A W n k m) (l:LB A n W k B m) (z:LZ A n W k B a m) (d:0<del A k) (hk:k<n) :
  ∀ i j,i<n→j<W→i≠k→ab (m i j)*ab (m k k)≤3000000000000000000∧ab (m i k)*ab (m k j)≤3000000000000000000:=by
 have hn:=h.hn
 have hB:=h.hB
 have hB2:=h.hB2
 have hs:=h.sd
 have hP:=z.le
 have hak:=sd_one a (Nat.le_refl k) hk
 obtain ⟨P,hPdef⟩:∃ P:Int,P=(pd a k:Int):=⟨_,rfl⟩
 have hP0:0<P:=by omega
 have cst:∀ {x:Nat},((pd a k*pd a k*x:Nat):Int)=P*P*x:=fun {x}=>by rw [hPdef];simp
 have s1:P*P*(a k:Int)≤646000000000:=by
  have:=pd_one48 (a:=a) (k:=k) (x:=a k) (by omega) (by omega)
  rw [← cst];omega
 have s0:P*P≤3360000000000:=by
  have:=pd_sq48 (a:=a) (k:=k) (by omega) (Nat.le_trans (sd_mono a n (by omega)) hs)
  have e:((pd a k*pd a k:Nat):Int)=P*P:=by rw [hPdef];simp
  rw [← e];omega
 have s2:(P*(a k:Int))*(P*(a k:Int))≤3360000000000:=by
  have:=pd_sq48 (a:=a) (k:=k+1) (by omega) (Nat.le_trans (sd_mono a n (by omega)) hs)
  have e:((pd a (k+1)*pd a (k+1):Nat):Int)=(P*(a k:Int))*(P*(a k:Int)):=by
   show ((pd a k*a k*(pd a k*a k):Nat):Int)=_
   rw [hPdef];simp
  rw [← e];omega
 have ak0:(0:Int)≤(a k:Int):=Int.natCast_nonneg _
 have dg:∀ x,k≤x→x<n→m x x≤P*(a x:Int):=fun x hx hxn=>by
  have h4:=l.s4 x hx hxn
  rw [h.dg x hxn] at h4
  have:=Int.mul_le_mul_of_nonneg_right (show del A k≤P by omega) (Int.natCast_nonneg (a x))
  omega
 have off:∀ x j,k≤x→x<n→k≤j→j<n→ab (m x j)≤m x x:=fun x j hx hxn hj hjn=>by
  have h3:=l.s3 x hx hxn
  have hz:∀ y,k≤y→y<n→0≤(fun y=>if y=x then 0 else -m x y) y:=fun y h1 h2=>by
   dsimp only
   by_cases e:y=x
   ·rw [if_pos e];exact Int.le_refl _
   ·rw [if_neg e]
    have:=l.s2 x y hx hxn h1 h2 fun h=>e h.symm
    omega
  have h6:=sr_but (f:=m x) hx hxn
  have h7:=sr_pos hz
  have hp:0≤m x x:=by
   have h7':0≤sr k n (fun y=>if y=x then 0 else -m x y):=h7
   omega
  by_cases e:x=j
  ·subst e;unfold ab;omega
  ·have h2:=l.s2 x j hx hxn hj hjn e
   have h5:=sr_mem (f:=fun y=>if y=x then 0 else -m x y) _ k rfl hz j hj hjn
   rw [if_neg (fun h=>e h.symm)] at h5
   unfold ab;omega
 have rhs:∀ x c,k≤x→x<n→n≤c→c<W→ab (m x c)≤P*B:=fun x c hx hxn hc hcW=>by
  have h1:=l.r1 c hc hcW
  have h2:=sr_mem (f:=fun x=>ab (m x c)) _ k rfl (fun x _ _=>ab_pos _) x hx hxn
  have h3:=Int.mul_le_mul_of_nonneg_right (show del A k≤P by omega) (show 0≤B by omega)
  omega
 have mkk:=dg k (Nat.le_refl k) hk
 have mkk0:=(l.diag hk).2
 have abk:ab (m k k)=m k k:=by unfold ab;omega
 have PB0:0≤P*B:=Int.mul_nonneg (by omega) (by omega)
 have Pa0:0≤P*(a k:Int):=Int.mul_nonneg (by omega) ak0
 -- the column of the pivot
 have col:∀ i,i<n→i≠k→ab (m i k)≤P∨ab (m i k)≤P*(a k:Int):=fun i hi hik=>by
  by_cases hlt:i<k
  ·left
   have u1:=l.u1 i k hlt (Nat.le_refl k) hk
   have u2:=l.u2 i hlt
   have:=sr_mem (f:=fun j=>-m i j) _ k rfl (fun j h1 h2=>by have:=l.u1 i j hlt h1 h2;omega) k (Nat.le_refl k) hk
   rw [sr_neg] at this
   unfold ab;omega
  ·right
   rw [l.s1 i k (by omega) hi (Nat.le_refl k) hk]
   exact Int.le_trans (off k i (Nat.le_refl k) hk (by omega) hi) mkk
 -- the row of the pivot
 have row_:∀ j,j<W→ab (m k j)≤P*(a k:Int)∨ab (m k j)≤P*B:=fun j hj=>by
  by_cases hjk:j<k
  ·left;rw [b.sl k j (Nat.le_refl k) hk hjk];exact Pa0
  ·by_cases hjn:j<n
   ·left;exact Int.le_trans (off k j (Nat.le_refl k) hk (by omega) hjn) mkk
   ·right;exact rhs k j (Nat.le_refl k) hk (by omega) hj
 have f1:P*B*(P*(a k:Int))≤3000000000000000000:=by
  have:P*B*(P*(a k:Int))=P*P*(a k:Int)*B:=by grind
  rw [this]
  have:=prod_le s1 hB2 (by omega) (by omega)
  omega
 have f2:P*(P*B)≤3000000000000000000:=by
  have:P*(P*B)=P*P*B:=by grind
  rw [this]
  have:=prod_le s0 hB2 (by omega) (by omega)
  omega
 have f3:P*(P*(a k:Int))≤3000000000000000000:=by
  have:P*(P*(a k:Int))=P*P*(a k:Int):=by grind
  rw [this];omega
 intro i j hi hj hik
 refine ⟨?_,?_⟩
 ·rw [abk]
  have fin:∀ {x:Int},ab (m i j)≤x→0≤x→x*(P*(a k:Int))≤3000000000000000000→ab (m i j)*m k k≤3000000000000000000:=fun hx h0 hf=>Int.le_trans (prod_le hx mkk mkk0 h0) hf
  by_cases hlt:i<k
  ·by_cases hjk:j<k
   ·refine fin (x:=P) ?_ (by omega) f3
    rw [b.su i j hlt hjk]
    unfold ab;split<;>omega
   ·by_cases hjn:j<n
    ·refine fin (x:=P) ?_ (by omega) f3
     have u1:=l.u1 i j hlt (by omega) hjn
     have u2:=l.u2 i hlt
     have:=sr_mem (f:=fun j=>-m i j) _ k rfl (fun j h1 h2=>by have:=l.u1 i j hlt h1 h2;omega) j (by omega) hjn
     rw [sr_neg] at this
     unfold ab;omega
    ·have h1:=z.rh i j hlt (by omega) hj
     rw [← hPdef] at h1
     refine fin (x:=7*(P*B)) ?_ (by omega) ?_
     ·have:(k:Int)*P*B=(k:Int)*(P*B):=by grind
      rw [this] at h1
      have:=Int.mul_le_mul_of_nonneg_right (show (k:Int)≤7 by omega) PB0
      omega
     ·have:7*(P*B)*(P*(a k:Int))=7*(P*P*(a k:Int)*B):=by grind
      rw [this]
      have:=prod_le s1 hB2 (by omega) (by omega)
      omega
  ·by_cases hjk:j<k
   ·refine fin (x:=P) ?_ (by omega) f3
    rw [b.sl i j (by omega) hi hjk]
    show max 0 (-0)≤P
    omega
   ·by_cases hjn:j<n
    ·have hki:k<i:=by omega
     refine fin (x:=P*(a i:Int)) (Int.le_trans (off i j (by omega) hi (by omega) hjn) (dg i (by omega) hi)) (Int.mul_nonneg (by omega) (Int.natCast_nonneg _)) ?_
     have:=pd_two48 (a:=a) (k:=k) (x:=a k) (y:=a i) (by omega) (by have:=sd_two a hki hi;omega)
     have e:((pd a k*pd a k*a k*a i:Nat):Int)=P*(a i:Int)*(P*(a k:Int)):=by
      rw [hPdef];simp only [Int.natCast_mul];grind
     rw [← e];omega
    ·exact fin (rhs i j (by omega) hi (by omega) hj) PB0 f1
 ·rcases col i hi hik with c1 | c1
  ·rcases row_ j hj with r1 | r1
   ·exact Int.le_trans (prod_le c1 r1 (ab_pos _) (by omega)) f3
   ·exact Int.le_trans (prod_le c1 r1 (ab_pos _) (by omega)) f2
  ·rcases row_ j hj with r1 | r1
   ·exact Int.le_trans (prod_le c1 r1 (ab_pos _) Pa0) (by omega)
   ·have:=prod_le c1 r1 (ab_pos _) Pa0
    have e:P*(a k:Int)*(P*B)=P*B*(P*(a k:Int)):=Int.mul_comm _ _
    rw [e] at this
    omega
theorem sizes_end {A:Mx} {n W:Nat} {B:Int} {a:Nat→Nat} {m:Mx} (h:Lap8 A n W B a) (z:LZ A n W n B a m):del A n≤2000000∧∀ i c,i<n→n≤c→c<W→ab (m i c)≤8000000000000:=by
 have hn:=h.hn
 have hB:=h.hB
 have hB2:=h.hB2
 have hq:=pd_sq48 (a:=a) (k:=n) hn h.sd
 have hP:(pd a n:Int)≤2000000:=by
  refine Int.not_lt.1 fun hlt=>?_
  have h1:2000001≤pd a n:=by omega
  have:=Nat.mul_le_mul h1 h1
  omega
 refine ⟨Int.le_trans z.le hP,fun i c hi hc hcW=>?_⟩
 have h1:=z.rh i c hi hc hcW
 have h2:(n:Int)*(pd a n:Int)≤8*2000000:=Int.mul_le_mul (by omega) hP (Int.natCast_nonneg _) (by omega)
 have h3:=Int.mul_le_mul h2 hB2 (by omega) (by omega)
 omega
theorem det_one_ (A:Mx):det 1 A=A 0 0:=by
 show 0+sg 0*(A 0 0*1)=_
 unfold sg
 rw [if_pos rfl];omega
theorem mn_zero0 (A:Mx) (x j:Nat):mn A 0 x j=A x j:=by
 unfold mn
 rw [det_one_,if_pos rfl,if_pos rfl]
theorem del_zero (A:Mx):del A 0=1:=rfl
structure DI (A:Mx) (n k:Nat) (E:Int) (B:Mx) (s:Int):Prop where
 pw:∀ l,l<k→del B (l+1)≠0
 dt:det n A=s*det n B
 sg:s=1∨s=-1
 bd:∀ i j,-E≤B i j∧B i j≤E
theorem DI.start {A:Mx} {n:Nat} {E:Int} (h:∀ i j,-E≤A i j∧A i j≤E):DI A n 0 E A 1:=⟨fun l hl=>absurd hl (Nat.not_lt_zero _),by rw [Int.one_mul],.inl rfl,h⟩
theorem DI.nz {A B:Mx} {n k:Nat} {E s:Int} (h:DI A n k E B s):del B k≠0:=by
 cases k with
 | zero=>show (1:Int)≠0;omega
 | succ k=>exact h.pw k (by omega)
theorem mn_bd {B:Mx} {E:Int} (hE:0≤E) (h:∀ i j,-E≤B i j∧B i j≤E) (k x j:Nat):-bdE E (k+1)≤mn B k x j∧mn B k x j≤bdE E (k+1):=det_bd hE fun _ _=>h _ _
theorem del_bd {B:Mx} {E:Int} (hE:0≤E) (h:∀ i j,-E≤B i j∧B i j≤E) (k:Nat):-bdE E k≤del B k∧del B k≤bdE E k:=det_bd hE h
theorem bdE_mono {E:Int} (hE:1≤E) {a:Nat}:∀ {b:Nat},a≤b→bdE E a≤bdE E b
 | 0,h=>by rw [show a=0 by omega];exact Int.le_refl _
 | b+1,h=>by
  by_cases e:a=b+1
  ·rw [e];exact Int.le_refl _
  ·have ih:=bdE_mono hE (a:=a) (b:=b) (by omega)
   have h0:=bdE_nn (show 0≤E by omega) b
   have h1:1*bdE E b≤E*bdE E b:=Int.mul_le_mul_of_nonneg_right hE h0
   have h2:1*(E*bdE E b)≤((b:Int)+1)*(E*bdE E b):=Int.mul_le_mul_of_nonneg_right (by omega) (by omega)
   show _≤((b:Int)+1)*(E*bdE E b)
   omega
theorem swi_small {k p i:Nat} (hp:k<p) (hi:i<k):swi k p i=i:=by unfold swi;rw [if_neg (by omega),if_neg (by omega)]
theorem del_sww {B:Mx} {k p l:Nat} (hp:k<p) (hl:l≤k):del (sww k p B) l=del B l:=det_congr fun i hi j _=>by
 show B (swi k p i) j=B i j
 rw [swi_small hp (by omega)]
theorem mn_sww {B:Mx} {k p x j:Nat} (hp:k<p):mn (sww k p B) k x j=mn B k (swi k p x) j:=det_congr fun i hi c _=>by
 show B (swi k p (if i=k then x else i)) _=B (if i=k then swi k p x else i) _
 by_cases e:i=k
 ·rw [if_pos e,if_pos e]
 ·rw [if_neg e,if_neg e,swi_small hp (by omega)]
theorem DI.swap {A B:Mx} {n k p:Nat} {E s:Int} (h:DI A n k E B s) (hp:k<p) (hn:p<n):DI A n k E (sww k p B) (-s):=by
 refine ⟨fun l hl=>?_,?_,?_,fun i j=>h.bd _ _⟩
 ·rw [del_sww hp (by omega)];exact h.pw l hl
 ·rw [det_sww' B hp hn,h.dt,Int.neg_mul_neg]
 ·rcases h.sg with e | e
  ·right;omega
  ·left;omega
theorem DI.next {A B:Mx} {n k:Nat} {E s:Int} (h:DI A n k E B s) (hp:mn B k k k≠0):DI A n (k+1) E B s:=by
 refine ⟨fun l hl=>?_,h.dt,h.sg,h.bd⟩
 by_cases e:l=k
 ·rw [e,del_succ];exact hp
 ·exact h.pw l (by omega)
theorem DI.none {A B:Mx} {n k:Nat} {E s:Int} (h:DI A n k E B s) (hk:k<n) (h0:∀ x,k≤x→x<n→mn B k x k=0):det n A=0:=by
 rw [h.dt,det_nopiv hk h.nz h0,Int.mul_zero]
theorem DI.step {A B:Mx} {n k:Nat} {E s:Int} (h:DI A n (k+1) E B s) (hk:k<n) {i j:Nat} (hi:k<i) (hin:i<n) (hj:k<j) (hjn:j<n):mn B k i j*mn B k k k-mn B k i k*mn B k k j=mn B (k+1) i j*del B k:=by
 rw [mn_step hk h.pw hi hin hj hjn,Int.mul_comm]
end Go.Det
namespace Go.Num
open Go.Lib
def dgt (c:UInt8):Nat:=c.toNat-48
def isD (c:UInt8):Prop:=48≤c.toNat∧c.toNat≤57
def dv (l:List UInt8):Nat:=l.foldl (fun a c=>a*10+dgt c) 0
theorem dig_toNat {u:Nat} (h:u<10):(UInt8.ofNat (48+u)).toNat=48+u:=by
 rw [UInt8.toNat_ofNat'];omega
theorem isD_dig {u:Nat} (h:u<10):isD (UInt8.ofNat (48+u)):=by unfold isD;rw [dig_toNat h];omega
theorem dgt_dig {u:Nat} (h:u<10):dgt (UInt8.ofNat (48+u))=u:=by unfold dgt;rw [dig_toNat h];omega
theorem dv_app1 (l:List UInt8) (c:UInt8):dv (l++[c])=dv l*10+dgt c:=by unfold dv;rw [List.foldl_append];rfl
theorem dv_from:∀ (l:List UInt8) (a:Nat),l.foldl (fun a c=>a*10+dgt c) a=a*10 ^ l.length+dv l
 | [],a=>by simp [dv]
 | c::l,a=>by
  have e:dv (c::l)=dgt c*10 ^ l.length+dv l:=by
   show l.foldl (fun a c=>a*10+dgt c) (0*10+dgt c)=_
   rw [dv_from l,Nat.zero_mul,Nat.zero_add]
  rw [List.foldl_cons,dv_from l,e,List.length_cons,Nat.pow_succ,Nat.add_mul,Nat.mul_assoc,Nat.mul_comm 10,Nat.add_assoc]
theorem dv_app (l m:List UInt8):dv (l++m)=dv l*10 ^ m.length+dv m:=by unfold dv;rw [List.foldl_append,dv_from];rfl
theorem dec_step {n:Nat} (h:10≤n):decDigits n=decDigits (n / 10)++[UInt8.ofNat (48+n % 10)]:=by rw [decDigits,dif_neg (by omega)]
theorem dv_dec (n:Nat):dv (decDigits n)=n:=by
 induction n using Nat.strongRecOn with
 | _ n ih =>
  by_cases h:n<10
  ·rw [decDigits_one h];simp only [dv,List.foldl_cons,List.foldl_nil,dgt_dig h];omega
  ·rw [dec_step (by omega),dv_app1,ih _ (by omega),dgt_dig (by omega)];omega
theorem dec_isD (n:Nat):∀ c∈decDigits n,isD c:=by
 induction n using Nat.strongRecOn with
 | _ n ih =>
  by_cases h:n<10
  ·rw [decDigits_one h];intro c hc;rw [List.mem_singleton.1 hc];exact isD_dig h
  ·rw [dec_step (by omega)];intro c hc
   rcases List.mem_append.1 hc with h1 | h1
   ·exact ih _ (by omega) c h1
   ·rw [List.mem_singleton.1 h1];exact isD_dig (by omega)
theorem dec_ne (n:Nat):decDigits n≠[]:=by
 intro h;have:=decDigits_length n;rw [h] at this;have:=nDigits_pos n;simp at *;omega
theorem nDig_le:∀ (k n:Nat),n<10 ^ (k+1)→nDigits n≤k+1
 | 0,n,h=>by rw [nDigits_small (by simpa using h)];omega
 | k+1,n,h=>by
  by_cases h1:n<10
  ·rw [nDigits_small h1];omega
  ·rw [nDigits_big h1];have:=nDig_le k (n / 10) (by rw [Nat.pow_succ] at h;omega);omega
theorem dec_len_le {k n:Nat} (h:n<10 ^ (k+1)):(decDigits n).length≤k+1:=by rw [decDigits_length];exact nDig_le k n h
theorem dec_head {n:Nat} (h:n≠0):∃ c l,decDigits n=c::l∧c≠48:=by
 induction n using Nat.strongRecOn with
 | _ n ih =>
  by_cases h1:n<10
  ·refine ⟨_,[],decDigits_one h1,fun e=>?_⟩
   have:=congrArg UInt8.toNat e;rw [dig_toNat h1] at this;simp at this;omega
  ·obtain ⟨c,l,e,hc⟩:=ih (n / 10) (by omega) (by omega)
   exact ⟨c,l++[UInt8.ofNat (48+n % 10)],by rw [dec_step (by omega),e];rfl,hc⟩
theorem dec_zero:decDigits 0=[48]:=by rw [decDigits_one (by omega)];rfl
theorem itoa_nn {n:Nat}:itoa (n:Int)=decDigits n:=by unfold itoa;rw [if_neg (by omega)];simp
theorem itoa_ng {n:Nat} (h:n≠0):itoa (-(n:Int))=45::decDigits n:=by unfold itoa;rw [if_pos (by omega)];simp
theorem pref_dec (n:Nat):trimPrefix (decDigits n) [45]=decDigits n:=by
 unfold trimPrefix hasPrefix
 have h:=dec_isD n
 cases e:decDigits n with
 | nil=>rfl
 | cons c l =>
  have hc:isD c:=h c (by rw [e];simp)
  have:(45==c)=false:=by
   rw [beq_eq_false_iff_ne];rintro rfl;revert hc;unfold isD;decide
  simp [List.isPrefixOf,this]
theorem pref_neg (l:List UInt8):trimPrefix (45::l) [45]=l:=by
 unfold trimPrefix hasPrefix;simp [List.isPrefixOf]
theorem pref_itoa (z:Int):trimPrefix (itoa z) [45]=decDigits z.natAbs:=by
 by_cases h:z<0
 ·obtain ⟨n,rfl⟩:∃ n:Nat,z=-(n:Int):=⟨z.natAbs,by omega⟩
  rw [itoa_ng (by omega),pref_neg];congr 1;omega
 ·obtain ⟨n,rfl⟩:∃ n:Nat,z=(n:Int):=⟨z.toNat,by omega⟩
  rw [itoa_nn,pref_dec];congr 1
theorem itoa_len (z:Int):(itoa z).length=(decDigits z.natAbs).length+if z<0 then 1 else 0:=by
 by_cases h:z<0
 ·obtain ⟨n,rfl⟩:∃ n:Nat,z=-(n:Int):=⟨z.natAbs,by omega⟩
  rw [itoa_ng (by omega),if_pos h,List.length_cons];congr 3;omega
 ·obtain ⟨n,rfl⟩:∃ n:Nat,z=(n:Int):=⟨z.toNat,by omega⟩
  rw [itoa_nn,if_neg h];rfl
theorem itoa_ne (z:Int):itoa z≠[]:=by
 intro h
 have h2:=itoa_len z
 have h1:(decDigits z.natAbs).length≠0:=fun e=>dec_ne z.natAbs (List.length_eq_zero_iff.1 e)
 rw [h,List.length_nil] at h2
 omega
theorem itoa_inj {x y:Int} (h:itoa x=itoa y):x=y:=by
 have e:decDigits x.natAbs=decDigits y.natAbs:=by rw [← pref_itoa,h,pref_itoa]
 have e2:x.natAbs=y.natAbs:=by rw [← dv_dec x.natAbs,e,dv_dec]
 have e3:=itoa_len x
 rw [h,itoa_len y,e] at e3
 split at e3<;>split at e3<;>omega
end Go.Num
namespace Go.Num
open Go Go.Lib Go.PE
theorem getD_in {α:Type} (l:List α) (d:α) {i:Nat} (h:i<l.length):l.getD i d=l[i]:=by rw [List.getD_eq_getElem?_getD,List.getElem?_eq_getElem h];rfl
theorem getD_out {α:Type} (l:List α) (d:α) {i:Nat} (h:l.length≤i):l.getD i d=d:=by rw [List.getD_eq_getElem?_getD,List.getElem?_eq_none h];rfl
end Go.Num
