/-
 Texts of this proof, put together: PC, PD, Fa, Fb, LawFieldChanges.
 No conditions.
-/
import Derived.Test.YtdaaoecjdhipjaaGreatDoorZ5
set_option linter.all false
namespace Go.PE
open Go Go.Abs
def row {α:Type} (m:Nat) (g:Nat→α):List α:=(List.range m).map g
def upd {α:Type} (d:Nat→Nat→α) (i j:Nat) (y:α):Nat→Nat→α:=fun a b=>if a=i∧b=j then y else d a b
section
variable {α:Type}
theorem row_length (m:Nat) (g:Nat→α):(row m g).length=m:=by simp [row]
theorem row_get {m:Nat} {g:Nat→α} {i:Nat} (h:i<m):(row m g)[i]? = some (g i):=by simp [row,h]
theorem row_idx {m:Nat} {g:Nat→α} {i:Nat} (h:i<m):idxM (row m g) (i:Int)=some (g i):=by rw [idxM_nat,row_get h]
theorem row_congr {m:Nat} {g g':Nat→α} (h:∀ i,i<m→g i=g' i):row m g=row m g':=by
 unfold row
 exact List.map_congr_left fun i hi=>h i (List.mem_range.1 hi)
theorem row_set {m:Nat} {g:Nat→α} {i:Nat} (h:i<m) (y:α):(row m g).set i y=row m fun a=>if a=i then y else g a:=by
 apply List.ext_getElem?
 intro k
 rw [List.getElem?_set]
 by_cases hk:k<m
 ·by_cases e:i=k
  ·subst e
   rw [if_pos rfl,if_pos (by rw [row_length];exact h),row_get h,if_pos rfl]
  ·have e':¬ k=i:=fun x=>e x.symm
   simp [e,e',row_get hk]
 ·have h1:i≠k:=by omega
  rw [if_neg h1,List.getElem?_eq_none (by rw [row_length];omega),List.getElem?_eq_none (by rw [row_length];omega)]
theorem row_succ (m:Nat) (g:Nat→α):row (m+1) g=row m g++[g m]:=by simp [row,List.range_succ]
theorem replicate_row (n:Nat) (y:α):List.replicate n y=row n fun _=>y:=by
 apply List.ext_getElem?
 intro k
 by_cases hk:k<n
 ·rw [row_get hk];simp [hk]
 ·rw [List.getElem?_eq_none (by simp;omega),List.getElem?_eq_none (by rw [row_length];omega)]
end
theorem bind_of {α β:Type} {o:Option α} {x:α} {f:α→Option β} {r:Option β} (h:o=some x) (h2:f x=r):Option.bind o f=r:=by
 rw [h];exact h2
theorem count_loop {σ β:Type} {body:Int×σ→Option ((Int×σ)⊕β)} (g:Nat→σ) (n:Nat) {r:β} (h:∀ k,k<n→body ((k:Int),g k)=some (.inl ((k:Int)+1,g (k+1)))) (he:body ((n:Int),g n)=some (.inr r)) :
  loopM body ((0:Int),g 0)=some r :=
 loopM_fn (fun k=>((k:Int),g k)) n (fun k hk=>h k hk) he
end Go.PE
namespace Go.PE
open Go Go.Abs
def Ans {α:Type} (o:Option α) (Q:α→Prop):Prop:=∃ r,o=some r∧Q r
theorem Ans.is {α:Type} {o:Option α} {r:α} (h:Ans o (fun x=>x=r)):o=some r:=by
 obtain ⟨x,h1,h2⟩:=h
 rw [h1,h2]
theorem Ans.of {α:Type} {o:Option α} {r:α} {Q:α→Prop} (h:o=some r) (hQ:Q r):Ans o Q:=⟨r,h,hQ⟩
theorem Ans.some {α:Type} {r:α} {Q:α→Prop} (hQ:Q r):Ans (some r) Q:=⟨r,rfl,hQ⟩
theorem Ans.mono {α:Type} {o:Option α} {P Q:α→Prop} (h:Ans o P) (hQ:∀ x,P x→Q x):Ans o Q:=by
 obtain ⟨x,h1,h2⟩:=h
 exact ⟨x,h1,hQ x h2⟩
theorem Ans.bind {α β:Type} {o:Option α} {f:α→Option β} {P:α→Prop} {Q:β→Prop} (h:Ans o P) (hf:∀ x,P x→Ans (f x) Q):Ans (Option.bind o f) Q:=by
 obtain ⟨x,h1,h2⟩:=h
 rw [h1]
 exact hf x h2
theorem Ans.seq {α β:Type} {o:Option α} {f:α→Option β} {x:α} {Q:β→Prop} (h:o=Option.some x) (hf:Ans (f x) Q):Ans (Option.bind o f) Q:=by
 rw [h]
 exact hf
theorem Ans.cond {α:Type} {c:Bool} {a b:Option α} {Q:α→Prop} (ht:c=true→Ans a Q) (hf:c=false→Ans b Q):Ans (bif c then a else b) Q:=by
 cases c
 ·exact hf rfl
 ·exact ht rfl
def Nxt {σ β:Type} (P:σ→Prop) (Q:β→Prop):σ⊕β→Prop
 | .inl s=>P s
 | .inr r=>Q r
theorem Ans.loop {σ β:Type} {body:σ→Option (σ⊕β)} {s:σ} {Q:β→Prop} (P:Nat→σ→Prop) (n:Nat) (h0:P 0 s)
  (h:∀ k s,k≤n→P k s→Ans (body s) (Nxt (fun s'=>k<n∧P (k+1) s') Q)):Ans (loopM body s) Q:=by
 refine loopM_from P Q n h0 fun k s hk hP=>?_
 obtain ⟨o,h1,h2⟩:=h k s hk hP
 cases o with
 | inl s'=>exact .inl ⟨s',h2.1,h1,h2.2⟩
 | inr r=>exact .inr ⟨r,h1,h2⟩
theorem ltI {a b:Int} (h:a<b):ltM a b=true:=decide_eq_true h
theorem geI {a b:Int} (h:b≤a):ltM a b=false:=decide_eq_false (by omega)
theorem leI {a b:Int} (h:a≤b):leM a b=true:=decide_eq_true h
theorem gtI {a b:Int} (h:b<a):leM a b=false:=decide_eq_false (by omega)
theorem eqI {a b:Int} (h:a=b):eqM a b=true:=decide_eq_true h
theorem neI {a b:Int} (h:a≠b):eqM a b=false:=decide_eq_false h
theorem notT:notM true=false:=rfl
theorem notF:notM false=true:=rfl
theorem orT (b:Bool):orM true b=true:=rfl
theorem orF (b:Bool):orM false b=b:=rfl
theorem andT (b:Bool):andM true b=b:=rfl
theorem andF (b:Bool):andM false b=false:=rfl
def pk (c n:Int):Int:=(if c<0 then -(c+1) else c) % n
theorem pk_lo {c n:Int} (h:0<n):0≤pk c n:=Int.emod_nonneg _ (by omega)
theorem pk_hi {c n:Int} (h:0<n):pk c n<n:=Int.emod_lt_of_pos _ h
theorem remM_of {a b:Int} (ha:0≤a) (hb:0<b):remM a b=some (a % b):=by
 unfold remM
 rw [decide_eq_false (by omega)]
 show some (a.tmod b)=some (a % b)
 rw [Int.tmod_eq_emod_of_nonneg ha]
theorem pk_text {c n:Int} (hc:IntKind.i64.has c) (hn:0<n) :
  Option.bind (bif ltM c (0:Int) then some (IntKind.wrap IntKind.i64 (negM (IntKind.wrap IntKind.i64 (c+(1:Int))))) else some c) (fun (o:Int)=>Option.bind (remM o n) fun (r:Int)=>some r)=some (pk c n):=by
 have hc':-9223372036854775808≤c∧c≤9223372036854775807:=hc
 unfold pk
 by_cases h:c<0
 ·rw [ltI h,cond_true,Option.bind_some,if_pos h,wrap_in (n:=c+1) (by omega) (by omega)]
  unfold negM
  rw [wrap_in (by omega) (by omega),remM_of (by omega) hn]
  rfl
 ·rw [geI (by omega),cond_false,Option.bind_some,if_neg h,remM_of (by omega) hn]
  rfl
theorem app_row {α:Type} {b m:Nat} {g:Nat→α} (hb:(m+1)*b≤140737488355328):appM b (row m g) [g m]=some (row (m+1) g):=by
 rw [appM_of (by rw [row_length];simpa using hb),row_succ]
theorem app_rowOf {α:Type} {b m:Nat} {g:Nat→α} {y:α} (hy:y=g m) (hb:(m+1)*b≤140737488355328):appM b (row m g) [y]=some (row (m+1) g):=by
 rw [hy,app_row hb]
end Go.PE
namespace Go.Proofs.YtdaaoecjdhipjaaGreatDoor
open Go Go.Abs Go.PE
abbrev i64 (n:Int):Prop:=-9223372036854775808≤n∧n≤9223372036854775807
def nn (W H:Nat):Nat:=(W+1)*(H+1)
def fd (W H:Nat) (lo hi:Nat→Int):Int×Int×List Int×List Int:=((W:Int),(H:Int),row (nn W H) lo,row (nn W H) hi)
structure OkF (W H:Nat) (lo hi:Nat→Int):Prop where
 w1:1≤W
 w6:W≤6
 h1:1≤H
 h6:H≤6
 l0:∀ i,i<nn W H→0≤lo i
 lh:∀ i,i<nn W H→lo i≤hi i
 h9:∀ i,i<nn W H→hi i≤100
theorem nn_bd {W H:Nat} (h1:W≤6) (h2:H≤6):nn W H≤49:=Nat.mul_le_mul (show W+1≤7 by omega) (show H+1≤7 by omega)
theorem nn_pos (W H:Nat):0<nn W H:=Nat.mul_pos (by omega) (by omega)
theorem lenR {α:Type} (m:Nat) (g:Nat→α):lenM (row m g)=(m:Int):=by show ((row m g).length:Int)=_;rw [row_length]
theorem lenL {α:Type} (l:List α):lenM l=(l.length:Int):=rfl
theorem set_rowA {α:Type} {m j:Nat} {g:Nat→α} {y:α} (hj:j<m):setM (row m g) (j:Int) (fun _=>some y)=some (row m fun a=>if a=j then y else g a):=by
 unfold setM
 rw [row_idx hj]
 simp only
 rw [show ((j:Int)).toNat=j by omega,row_set hj]
theorem nn_wrap {W H:Nat} (h1:W≤6) (h2:H≤6):IntKind.wrap IntKind.i64 (IntKind.wrap IntKind.i64 ((W:Int)+1)*IntKind.wrap IntKind.i64 ((H:Int)+1))=(nn W H:Int):=by
 have:=nn_bd h1 h2
 have e:((W:Int)+1)*((H:Int)+1)=(nn W H:Int):=by unfold nn;rw [Int.natCast_mul];rfl
 rw [wrap_in (n:=(W:Int)+1) (by omega) (by omega),wrap_in (n:=(H:Int)+1) (by omega) (by omega),e,wrap_in (by omega) (by omega)]
theorem pick_ok {c n:Int} (hc:i64 c) (hn:0<n):m46 (c,n)=some (pk c n):=pk_text hc hn
theorem pickL_ok {c n:Int} (hc:i64 c) (hn:0<n):m19 (c,n)=some (pk c n):=pk_text hc hn
theorem within_ok (n lo hi:Int):m51 (n,lo,hi)=some (decide (lo≤n∧n≤hi)):=by
 unfold m51
 dsimp only
 by_cases h1:lo≤n
 ·rw [leI h1,andT]
  by_cases h2:n≤hi
  ·rw [leI h2,decide_eq_true ⟨h1,h2⟩]
  ·rw [gtI (by omega),decide_eq_false (by omega)]
 ·rw [gtI (by omega),andF,decide_eq_false (by omega)]
theorem pass_loop {α:Type} {n:Nat} {body:Int→Option (Int⊕(Unit⊕α))} (hb:∀ k,k<n→body (k:Int)=some (.inl ((k:Int)+1))) (he:body (n:Int)=some (.inr (.inl ()))):loopM body 0=some (.inl ()) :=
 loopM_fn (fun k=>(k:Int)) n hb he
theorem valid_ok {W H:Nat} {lo hi:Nat→Int} (h:OkF W H lo hi):m17 (fd W H lo hi)=some true:=by
 have h49:=nn_bd h.w6 h.h6
 have w1:=h.w1
 have w6:=h.w6
 have h1:=h.h1
 have h6:=h.h6
 unfold m17 fd
 dsimp only
 rw [within_ok,Option.bind_some,decide_eq_true (by omega),notT,notF,cond_true,within_ok,Option.bind_some,decide_eq_true (by omega),notT,orF,orF,lenR,lenR,nn_wrap w6 h6,eqI rfl,notT,orF,cond_false]
 refine bind_of (pass_loop (n:=nn W H) (fun k hk=>?_) ?_) rfl
 ·have a:=h.l0 k hk
  have b:=h.lh k hk
  have c:=h.h9 k hk
  rw [ltI (by omega),cond_true,row_idx hk,Option.bind_some,row_idx hk,Option.bind_some,within_ok,Option.bind_some,decide_eq_true (by omega),notT,notF,cond_true,Option.bind_some,orF,geI (by omega),cond_false,wrap_in (by omega) (by omega)]
 ·rw [geI (by omega),cond_false]
theorem ints_ok (l:List Int) (hl:l.length≤maxLen):m31 (l,l)=some true:=by
 have hl:l.length≤9223372036854775807:=hl
 unfold m31
 dsimp only
 rw [eqI rfl,notT,cond_false]
 refine bind_of (pass_loop (n:=l.length) (fun k hk=>?_) ?_) rfl
 ·rw [ltI (by rw [lenL];omega),cond_true,idxM_lt hk,Option.bind_some,Option.bind_some,eqI rfl,notT,cond_false,wrap_in (by omega) (by omega)]
 ·rw [geI (by rw [lenL];omega),cond_false]
def src (x:List (Int×Int)) (i:Nat):Int×Int:=if x.length=0 then (7*(i:Int)+(i:Int)*(i:Int),0) else x.getD (i % x.length) (0,0)
def loF (most:Int) (x:List (Int×Int)) (i:Nat):Int:=pk (src x i).1 (most+1)
def hiF (most:Int) (x:List (Int×Int)) (i:Nat):Int:=min (loF most x i+pk (src x i).2 30) most
def szF (w size:Int):Nat:=(1+pk w size).toNat
theorem szF_bd {w size:Int} (h:1≤size) (h6:size≤6):1≤szF w size∧szF w size≤6∧(szF w size:Int)=1+pk w size∧szF w size≤size:=by
 have h1:=pk_lo (c:=w) (n:=size) (by omega)
 have h2:=pk_hi (c:=w) (n:=size) (by omega)
 unfold szF
 omega
theorem made_F {w h size most:Int} {x:List (Int×Int)} (hs:1≤size) (hs6:size≤6) (hm0:0≤most) (hm:most≤100):OkF (szF w size) (szF h size) (loF most x) (hiF most x):=by
 have a:=szF_bd (w:=w) hs hs6
 have b:=szF_bd (w:=h) hs hs6
 refine ⟨a.1,a.2.1,b.1,b.2.1,fun i _=>pk_lo (by omega),fun i _=>?_,fun i _=>?_⟩
 ·have h1:=pk_hi (c:=(src x i).1) (n:=most+1) (by omega)
  have h2:=pk_lo (c:=(src x i).2) (n:=30) (by omega)
  unfold hiF loF
  omega
 ·unfold hiF;omega
theorem src_ok {x:List (Int×Int)} (hx:∀ p∈x,i64 p.1∧i64 p.2) {i:Nat} (hi:i≤100):i64 (src x i).1∧i64 (src x i).2:=by
 unfold src
 by_cases h0:x.length=0
 ·rw [if_pos h0]
  have:=Int.mul_le_mul (show (i:Int)≤100 by omega) (show (i:Int)≤100 by omega) (by omega) (by omega)
  have h2:=Int.mul_nonneg (show (0:Int)≤i by omega) (show (0:Int)≤i by omega)
  unfold i64
  dsimp only
  omega
 ·rw [if_neg h0]
  have hlt:i % x.length<x.length:=Nat.mod_lt _ (by omega)
  have:x.getD (i % x.length) (0,0)∈x:=by simp [List.getD,hlt]
  exact hx _ this
theorem made_ok {w h size most:Int} {x:List (Int×Int)} (hw:i64 w) (hh:i64 h) (hs:1≤size) (hs6:size≤6) (hm0:0≤most) (hm:most≤100) (hx:∀ p∈x,i64 p.1∧i64 p.2) (hxl:x.length≤maxLen):m13 (w,h,size,most,x)=some (fd (szF w size) (szF h size) (loF most x) (hiF most x)):=by
 have hxl:x.length≤9223372036854775807:=hxl
 obtain ⟨a1,a2,a3,_⟩:=szF_bd (w:=w) hs hs6
 obtain ⟨b1,b2,b3,_⟩:=szF_bd (w:=h) hs hs6
 have h49:=nn_bd a2 b2
 unfold m13
 dsimp only
 rw [pick_ok hw (by omega),Option.bind_some,pick_ok hh (by omega),Option.bind_some,← a3,← b3,wrap_in (n:=((szF w size:Nat):Int)) (by omega) (by omega),wrap_in (n:=((szF h size:Nat):Int)) (by omega) (by omega)]
 refine bind_of (count_loop (fun k=>((szF w size:Int),(szF h size:Int),row k (loF most x),row k (hiF most x))) (nn (szF w size) (szF h size)) (r:=((szF w size:Int),(szF h size:Int),row (nn (szF w size) (szF h size)) (loF most x),row (nn (szF w size) (szF h size)) (hiF most x))) (fun k hk=>?_) ?_) rfl
 ·have hsrc:=src_ok hx (show k≤100 by omega)
  dsimp only
  rw [nn_wrap a2 b2,ltI (by omega),cond_true]
  refine bind_of (x:=src x k) ?_ ?_
  ·unfold src
   by_cases h0:x.length=0
   ·rw [geI (by rw [lenL];omega),cond_false,if_pos h0]
    have:=Int.mul_le_mul (show (k:Int)≤100 by omega) (show (k:Int)≤100 by omega) (by omega) (by omega)
    have h2:=Int.mul_nonneg (show (0:Int)≤k by omega) (show (0:Int)≤k by omega)
    rw [wrap_in (n:=7*(k:Int)) (by omega) (by omega),wrap_in (n:=(k:Int)*k) (by omega) (by omega),wrap_in (by omega) (by omega)]
   ·have hlt:k % x.length<x.length:=Nat.mod_lt _ (by omega)
    rw [ltI (by rw [lenL];omega),cond_true,if_neg h0,lenL,remM_of (by omega) (by omega),Option.bind_some,← Int.natCast_emod,idxM_lt hlt,Option.bind_some]
    simp [List.getD,hlt]
  ·have l1:=pk_lo (c:=(src x k).1) (n:=most+1) (by omega)
   have l2:=pk_hi (c:=(src x k).1) (n:=most+1) (by omega)
   have g1:=pk_lo (c:=(src x k).2) (n:=30) (by omega)
   have g2:=pk_hi (c:=(src x k).2) (n:=30) (by omega)
   rw [wrap_in (n:=most+1) (by omega) (by omega),pick_ok hsrc.1 (by omega),Option.bind_some,app_rowOf (y:=pk (src x k).1 (most+1)) (g:=loF most x) rfl (by show (k+1)*8≤_;omega),Option.bind_some,pick_ok hsrc.2 (by omega),Option.bind_some,wrap_in (n:=_+pk (src x k).2 30) (by omega) (by omega),app_rowOf (y:=min (pk (src x k).1 (most+1)+pk (src x k).2 30) most) (g:=hiF most x) rfl (by show (k+1)*8≤_;omega),Option.bind_some,wrap_in (by omega) (by omega)]
 ·dsimp only
  rw [nn_wrap a2 b2,geI (by omega),cond_false]
def bwF (lo hi:Nat→Int) (v:List Int) (i:Nat):Int:=lo i+pk (if v.length=0 then (i:Int) else v.getD (i % v.length) 0) (hi i-lo i+1)
theorem bw_bd {lo hi:Nat→Int} {v:List Int} {i:Nat} (h:lo i≤hi i):lo i≤bwF lo hi v i∧bwF lo hi v i≤hi i:=by
 have h1:=pk_lo (c:=if v.length=0 then (i:Int) else v.getD (i % v.length) 0) (n:=hi i-lo i+1) (by omega)
 have h2:=pk_hi (c:=if v.length=0 then (i:Int) else v.getD (i % v.length) 0) (n:=hi i-lo i+1) (by omega)
 unfold bwF
 omega
theorem between_ok {W H:Nat} {lo hi:Nat→Int} (h:OkF W H lo hi) {v:List Int} (hv:∀ x∈v,i64 x) (hvl:v.length≤maxLen):m37 (fd W H lo hi,v)=some (fd W H (bwF lo hi v) (bwF lo hi v)):=by
 have hvl:v.length≤9223372036854775807:=hvl
 have h49:=nn_bd h.w6 h.h6
 unfold m37 fd
 dsimp only
 refine bind_of (count_loop (fun k=>((W:Int),(H:Int),row k (bwF lo hi v),row k (bwF lo hi v))) (nn W H) (r:=((W:Int),(H:Int),row (nn W H) (bwF lo hi v),row (nn W H) (bwF lo hi v))) (fun k hk=>?_) ?_) rfl
 ·have a:=h.l0 k hk
  have b:=h.lh k hk
  have c:=h.h9 k hk
  have d:=bw_bd (v:=v) b
  dsimp only
  rw [lenR,ltI (by omega),cond_true]
  have hlt:v.length≠0→k % v.length<v.length:=fun h0=>Nat.mod_lt _ (by omega)
  have hi64:i64 (if v.length=0 then (k:Int) else v.getD (k % v.length) 0):=by
   by_cases h0:v.length=0
   ·rw [if_pos h0];unfold i64;omega
   ·rw [if_neg h0]
    have:=hlt h0
    have hm:v.getD (k % v.length) 0∈v:=by simp [List.getD,this]
    exact hv _ hm
  refine bind_of (x:=if v.length=0 then (k:Int) else v.getD (k % v.length) 0) ?_ ?_
  ·by_cases h0:v.length=0
   ·rw [geI (by rw [lenL];omega),cond_false,if_pos h0]
   ·have hlt:=hlt h0
    rw [ltI (by rw [lenL];omega),cond_true,if_neg h0,lenL,remM_of (by omega) (by omega),Option.bind_some,← Int.natCast_emod,idxM_lt hlt,Option.bind_some]
    simp [List.getD,hlt]
  ·have e:lo k+pk (if v.length=0 then (k:Int) else v.getD (k % v.length) 0) (hi k-lo k+1)=bwF lo hi v k:=rfl
   rw [row_idx hk,Option.bind_some,row_idx hk,Option.bind_some,Option.bind_some,wrap_in (n:=hi k-lo k) (by omega) (by omega),wrap_in (n:=hi k-lo k+1) (by omega) (by omega),pick_ok hi64 (by omega),Option.bind_some,e,wrap_in (n:=bwF lo hi v k) (by omega) (by omega),app_rowOf (y:=bwF lo hi v k) (g:=bwF lo hi v) rfl (by show (k+1)*8≤_;omega),Option.bind_some,Option.bind_some,wrap_in (by omega) (by omega)]
 ·dsimp only
  rw [lenR,geI (by omega),cond_false]
def chF (lo hi lo' hi':Nat→Int) (i:Nat):Int:=if min (hi i) (hi' i)<max (lo i) (lo' i) then 2 else if ¬ (lo i=lo' i∧hi i=hi' i)∨lo i≠hi i then 1 else 0
theorem changed_ok {W H:Nat} {lo hi lo' hi':Nat→Int} (h:OkF W H lo hi) (h':OkF W H lo' hi'):m29 (fd W H lo hi,fd W H lo' hi')=some (row (nn W H) (chF lo hi lo' hi'),0):=by
 have h49:=nn_bd h.w6 h.h6
 unfold m29
 have v1:=valid_ok h
 have v2:=valid_ok h'
 unfold fd at v1 v2 ⊢
 dsimp only
 rw [v1,Option.bind_some,notT,notF,cond_true,v2,Option.bind_some,notT,orF,orF,eqI rfl,notT,orF,eqI rfl,notT,cond_false,lenR,mkM_of (by omega) (by omega) (by show (nn W H:Int)*8≤_;omega),Option.bind_some,replicate_row,show ((nn W H:Nat):Int).toNat=nn W H by omega,lenR]
 refine bind_of (x:=row (nn W H) (chF lo hi lo' hi')) ?_ rfl
 have e0:(fun _=>0:Nat→Int)=fun a=>if a<0 then chF lo hi lo' hi' a else 0:=by funext a;rfl
 rw [e0]
 refine count_loop (fun k=>row (nn W H) fun a=>if a<k then chF lo hi lo' hi' a else 0) (nn W H) (fun k hk=>?_) ?_
 ·have step:∀ y,chF lo hi lo' hi' k=y→(row (nn W H) fun a=>if a=k then y else if a<k then chF lo hi lo' hi' a else 0)=row (nn W H) fun a=>if a<k+1 then chF lo hi lo' hi' a else 0:=fun y hy=>row_congr fun a ha=>by
   by_cases h1:a=k
   ·subst h1;rw [if_pos rfl,if_pos (by omega),hy]
   ·rw [if_neg h1]
    by_cases h2:a<k
    ·rw [if_pos h2,if_pos (by omega)]
    ·rw [if_neg h2,if_neg (by omega)]
  dsimp only
  rw [ltI (by omega),cond_true,row_idx hk,Option.bind_some,row_idx hk,Option.bind_some,row_idx hk,Option.bind_some,row_idx hk,Option.bind_some,wrap_in (n:=(k:Int)+1) (by omega) (by omega)]
  by_cases hc:min (hi k) (hi' k)<max (lo k) (lo' k)
  ·rw [ltI hc,cond_true,lenR,chkM_of (by omega) (by omega),Option.bind_some,set_rowA hk,Option.bind_some,Option.bind_some,step 2 (by unfold chF;rw [if_pos hc])]
  ·rw [geI (by omega),cond_false]
   by_cases hd:¬ (lo k=lo' k∧hi k=hi' k)∨lo k≠hi k
   ·have e:PE.orM (PE.notM (PE.andM (eqM (lo k) (lo' k)) (eqM (hi k) (hi' k)))) (PE.notM (eqM (lo k) (hi k)))=true:=by
     unfold PE.orM PE.notM PE.andM eqM
     simp only [Bool.or_eq_true,Bool.not_eq_true',Bool.and_eq_false_iff,decide_eq_false_iff_not]
     grind
    rw [e,cond_true,lenR,chkM_of (by omega) (by omega),Option.bind_some,set_rowA hk,Option.bind_some,Option.bind_some,step 1 (by unfold chF;rw [if_neg hc,if_pos hd])]
   ·have hd2:(lo k=lo' k∧hi k=hi' k)∧lo k=hi k:=by grind
    rw [eqI hd2.1.1,eqI hd2.1.2,eqI hd2.2,andT,notT,orF,cond_false,Option.bind_some]
    refine congrArg (fun l=>some (Sum.inl ((k:Int)+1,l))) (row_congr fun a ha=>?_)
    by_cases h1:a<k
    ·rw [if_pos h1,if_pos (by omega)]
    ·rw [if_neg h1]
     by_cases h2:a=k
     ·subst h2;rw [if_pos (by omega)];unfold chF;rw [if_neg hc,if_neg hd]
     ·rw [if_neg (by omega)]
 ·dsimp only
  rw [geI (by omega),cond_false]
  congr 2
  exact row_congr fun a ha=>if_pos ha
end Go.Proofs.YtdaaoecjdhipjaaGreatDoor
namespace Go.Proofs.YtdaaoecjdhipjaaGreatDoor
open Go Go.Abs Go.PE
theorem bif_some {α:Type} (c:Bool) (a b:α):(bif c then some a else some b)=some (bif c then a else b):=by cases c<;>rfl
theorem chF_sym (lo hi lo' hi':Nat→Int):chF lo' hi' lo hi=chF lo hi lo' hi':=by
 funext i
 unfold chF
 grind
theorem chF_vals {W H:Nat} {lo hi lo' hi':Nat→Int} (h:OkF W H lo hi) (h':OkF W H lo' hi') {i:Nat} (hi9:i<nn W H) {a b:Int} (ha:lo i≤a∧a≤hi i) (hb:lo' i≤b∧b≤hi' i) :
  (chF lo hi lo' hi' i=2→a≠b)∧(chF lo hi lo' hi' i=0→a=b)∧0≤chF lo hi lo' hi' i∧chF lo hi lo' hi' i≤2∧(chF lo hi lo' hi' i=1→max (lo i) (lo' i)≤hi i∧max (lo i) (lo' i)≤hi' i∧¬ (lo i=hi' i∧hi i=lo' i)):=by
 have h1:=h.lh i hi9
 have h2:=h'.lh i hi9
 unfold chF
 split
 ·refine ⟨fun _=>by omega,fun e=>absurd e (by omega),by omega,by omega,fun e=>absurd e (by omega)⟩
 ·split
  ·rename_i hx hy
   refine ⟨fun e=>absurd e (by omega),fun e=>absurd e (by omega),by omega,by omega,fun _=>⟨by omega,by omega,?_⟩⟩
   omega
  ·rename_i hx hy
   refine ⟨fun e=>absurd e (by omega),fun _=>?_,by omega,by omega,fun e=>absurd e (by omega)⟩
   have hd:(lo i=lo' i∧hi i=hi' i)∧lo i=hi i:=by omega
   omega
theorem law5_ok (x:(Int×Int×Int×Int)×(List (Int×Int))×(List (Int×Int))×List Int×List Int×Int) (hw:i64 x.1.1) (hh:i64 x.1.2.1) (h1:∀ p∈x.2.1,i64 p.1∧i64 p.2) (l1:x.2.1.length≤maxLen) (h2:∀ p∈x.2.2.1,i64 p.1∧i64 p.2) (l2:x.2.2.1.length≤maxLen)
  (h3:∀ v∈x.2.2.2.1,i64 v) (l3:x.2.2.2.1.length≤maxLen) (h4:∀ v∈x.2.2.2.2.1,i64 v) (l4:x.2.2.2.2.1.length≤maxLen) (h5:i64 x.2.2.2.2.2):m5 x=some true:=by
 obtain ⟨⟨w,h,s2,s3⟩,xs,ys,v,u,nd⟩:=x
 dsimp only at hw hh h1 l1 h2 l2 h3 l3 h4 l4 h5
 have F1:=made_F (w:=w) (h:=h) (size:=6) (most:=100) (x:=xs) (by omega) (by omega) (by omega) (by omega)
 have F2:=made_F (w:=w) (h:=h) (size:=6) (most:=100) (x:=ys) (by omega) (by omega) (by omega) (by omega)
 have e1:=made_ok (size:=6) (most:=100) hw hh (by omega) (by omega) (by omega) (by omega) h1 l1
 have e2:=made_ok (size:=6) (most:=100) hw hh (by omega) (by omega) (by omega) (by omega) h2 l2
 generalize szF w 6=W at *
 generalize szF h 6=H at *
 generalize loF 100 xs=lo at *
 generalize hiF 100 xs=hi at *
 generalize loF 100 ys=lo' at *
 generalize hiF 100 ys=hi' at *
 have h49:=nn_bd F1.w6 F1.h6
 have hpos:=nn_pos W H
 have c1:=changed_ok F1 F2
 have c2:=changed_ok F2 F1
 rw [chF_sym] at c2
 have b1:=between_ok F1 h3 l3
 have b2:=between_ok F2 h4 l4
 have hi1:=ints_ok (row (nn W H) (chF lo hi lo' hi')) (by rw [row_length];show nn W H≤9223372036854775807;omega)
 have hv:=fun i hi9=>chF_vals F1 F2 (i:=i) hi9 (bw_bd (v:=v) (F1.lh i hi9)) (bw_bd (v:=u) (F2.lh i hi9))
 unfold fd at e1 e2 c1 c2 b1 b2
 unfold m5
 dsimp only
 rw [sane_ok,Option.bind_some,notT,cond_false,e1,Option.bind_some,e2,Option.bind_some,c1,Option.bind_some,c2,Option.bind_some,eqI rfl,notT,orF,orF,lenR,lenR,eqI rfl,notT,notF,cond_true,hi1,Option.bind_some,orF,notT,cond_false,b1,Option.bind_some,b2,Option.bind_some]
 generalize hA:bwF lo hi v=A at *
 generalize hB:bwF lo' hi' u=B at *
 generalize hC:chF lo hi lo' hi'=C at *
 refine bind_of (pass_loop (n:=nn W H) (fun k hk=>?_) ?_) ?_
 ·obtain ⟨p1,p2,p3,p4,p5⟩:=hv k hk
  dsimp only
  rw [ltI (by omega),cond_true]
  have f1:PE.andM (eqM (C k) 2) (eqM (bif eqM (C k) 2 then A k else 0) (bif eqM (C k) 2 then B k else 0))=false:=by
   by_cases e:C k=2
   ·rw [eqI e,andT,cond_true,cond_true,neI (p1 e)]
   ·rw [neI e,andF]
  have f2:PE.andM (eqM (C k) 0) (PE.notM (eqM (bif eqM (C k) 0 then A k else 0) (bif eqM (C k) 0 then B k else 0)))=false:=by
   by_cases e:C k=0
   ·rw [eqI e,andT,cond_true,cond_true,eqI (p2 e)];rfl
   ·rw [neI e,andF]
  simp only [row_idx hk,Option.bind_some,bif_some,f1,f2,notF,cond_true,orF,geI p3,geI p4,cond_false,andT]
  rw [wrap_in (by omega) (by omega)]
 ·rw [geI (by omega),cond_false]
 ·have hk1:=pk_lo (c:=nd) (n:=(nn W H:Int)) (by omega)
  have hk2:=pk_hi (c:=nd) (n:=(nn W H:Int)) (by omega)
  rw [Sum.elim_inl,pickL_ok h5 (by omega),Option.bind_some]
  obtain ⟨j,hj⟩:∃ j:Nat,pk nd (nn W H:Int)=(j:Int):=⟨(pk nd (nn W H:Int)).toNat,by omega⟩
  rw [hj]
  have hjn:j<nn W H:=by omega
  rw [row_idx hjn,Option.bind_some]
  obtain ⟨p1,p2,p3,p4,p5⟩:=hv j hjn
  by_cases hc:C j=1
  ·obtain ⟨q1,q2,q3⟩:=p5 hc
   rw [eqI hc,notT,cond_false,row_idx hjn,Option.bind_some,row_idx hjn,Option.bind_some,row_idx hjn,Option.bind_some,leI q1,cond_true,row_idx hjn,Option.bind_some,andT,leI q2,cond_true,Option.bind_some,cond_true,Option.bind_some,andT]
   by_cases e:lo j=hi' j
   ·rw [eqI e,notT,notF,cond_true,Option.bind_some,cond_true,Option.bind_some,orF,neI (fun h=>q3 ⟨e,h⟩)];rfl
   ·rw [neI e,notF,notT,cond_false,Option.bind_some,cond_false,Option.bind_some,orT];rfl
  ·rw [neI hc,notF,cond_true]
end Go.Proofs.YtdaaoecjdhipjaaGreatDoor
namespace Go.Proofs.YtdaaoecjdhipjaaGreatDoor
open Go Go.Abs Go.PE
theorem mem_in {t:Ty} {l:List t.den} (h:InR (.list t) l):∀ x∈l,InR t x:=fun x hx=>by
 obtain ⟨i,hi,rfl⟩:=List.mem_iff_getElem.1 hx
 exact h.2 i _ (List.getElem?_eq_getElem hi)
theorem law5:∀ (S:Cells) (w:World) (η:Eta) (vs:List Value) x,All2 (RM S w η) (rvs as5 x) vs→m5 x=some true :=
 law_of_ok fun x h=>law5_ok x h.1.1 h.1.2.1 (mem_in h.2.1) h.2.1.1 (mem_in h.2.2.1) h.2.2.1.1 (mem_in h.2.2.2.1) h.2.2.2.1.1 (mem_in h.2.2.2.2.1) h.2.2.2.2.1.1 h.2.2.2.2.2
end Go.Proofs.YtdaaoecjdhipjaaGreatDoor
