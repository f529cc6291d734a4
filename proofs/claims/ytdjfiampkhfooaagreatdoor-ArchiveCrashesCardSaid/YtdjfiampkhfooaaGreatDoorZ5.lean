/-
 Texts of this proof, put together: Px, Ty, Gl, P3, Tb, P5, P9, PJ, PE, PI, T1, PR, PS, PT, M0, PA, PB, PC, PD, Aa, Ab, Ac.
 No conditions.
-/
import Derived.Test.YtdjfiampkhfooaaGreatDoorZ4
import Derived.ProofKit
import Derived.OpenShut
import Derived.Carry
import Derived.Test.YtdjfiampkhfooaaGreatDoorProg
import Derived.KernelRfl
import Derived.Test.YtdjfiampkhfooaaGreatDoorRows
import Derived.LaidMore
import Derived.Stop.Joined
import Derived.Lay
import Derived.Test.YtdjfiampkhfooaaGreatDoorZ3
import Derived.Shelf.SlSortCmp.NoneTotal
import Derived.Shelf.Sort.Plain
import Derived.Shelf.Slices.In.SortNone
import Derived.Shelf.Slices.CompactI
import Derived.Shelf.Strings.Builder1
import Derived.Shelf.Strings.Prefix
import Derived.Shelf.Strings.SlTrimAscii
import Derived.Shelf.Strings.Repeat
import Derived.Shelf.Strconv.AtoiAll
import Derived.Shelf.Strconv.Itoa3
import Derived.Shelf.Strings.OnBuilder
import Derived.Test.YtdjfiampkhfooaaGreatDoorZ1
import Derived.Shelf.Spec.SlicesGrow
import Derived.WalkKit
import Derived.LaidEql
import Derived.Stop.Asserts
import Derived.RowKitTokens
import Derived.Shelf.Lays
import Derived.Shelf.Lays2
import Derived.Shelf.Lays8
import Derived.Shelf.LaysC
import Derived.RecoverIn
import Derived.IntWalk
set_option linter.all false
namespace Go.PE
open Go Go.RowKit Go.Abs Go.ChangeShapes Go.WideShapes Go.ChangeAt
instance dbI:DB:=dbG
variable [ea:EA]

mutual
inductive TyP (P:Program):TypeId→Ty→Prop where
 | int {t k}:P.underlying t=some (.int k)→TyP P t (.int k)
 | bool {t}:P.underlying t=some .bool→TyP P t .bool
 | str {t}:P.underlying t=some .string→TyP P t .str
 | list {t e T}:P.underlying t=some (.slice e)→P.cellsOf e=T.size→TyP P e T→TyP P t (.list T)
 | struct1 {t fs T}:P.underlying t=some (.struct fs)→P.cellsOf t=T.size→FsP P (fs.toList.map fun f=>(f.offset,f.type)) 0 T→fs.size=1→TyP P t (.one T)
 | struct {t fs A B}:P.underlying t=some (.struct fs)→P.cellsOf t=A.size+B.size→FsP P (fs.toList.map fun f=>(f.offset,f.type)) 0 (.pair A B)→TyP P t (.pair A B)
 | array1 {t e T}:P.underlying t=some (.array 1 e)→P.cellsOf t=T.size→FsP P [(0,e)] 0 T→TyP P t (.one T)
 | array {t n e A B}:P.underlying t=some (.array n e)→P.cellsOf t=A.size+B.size→FsP P ((List.range n).map fun i=>(i*P.cellsOf e,e)) 0 (.pair A B)→TyP P t (.pair A B)
inductive FsP (P:Program):List (Nat×TypeId)→Nat→Ty→Prop where
 | last {off t T}:P.cellsOf t=T.size→TyP P t T→FsP P [(off,t)] off T
 | cons {off t A B l}:P.cellsOf t=A.size→TyP P t A→FsP P l (off+A.size) B→FsP P ((off,t)::l) off (.pair A B)
end
def InWd (w:World):Cells:=fun b _=>b<w.heap.size
theorem exists_list {α:Type} {p:Nat→α→Prop}:∀ (n:Nat),(∀ i,i<n→∃ y,p i y)→∃ ys:List α,ys.length=n∧∀ i y,ys[i]? = some y→p i y
 | 0,_=>⟨[],rfl,fun i y h=>by simp at h⟩
 | n+1,h=>by
  obtain ⟨ys,h1,h2⟩:=exists_list n fun i hi=>h i (by omega)
  obtain ⟨y,hy⟩:=h n (by omega)
  refine ⟨ys++[y],by simp [h1],fun i z hz=>?_⟩
  by_cases hi:i<ys.length
  ·rw [xL hi] at hz;exact h2 i z hz
  ·rw [xR (by omega)] at hz
   have:i-ys.length=0:=by
    have:=(gS.1 hz).1
    simp at this;omega
   rw [this] at hz
   simp at hz
   subst hz
   rw [show i=n by omega];exact hy
section
variable {H:Type} {enc:TypeId×Value→H} {P:Program} {w:World} {base:Nat} {spare:Nat→Bool} {held:Bool}
theorem cells?_get {a:Addr} {n:Nat} {cs:List Value} (h:w.cells? base a n=some cs):cs.length=n∧∀ j u,cs[j]? = some u→w.cell? (a.add j)=some u:=by
 obtain ⟨_,h1,h2⟩:=World.cells?_some h
 refine ⟨h1,fun j u hj=>?_⟩
 have hl:=(gS.1 hj).1
 rw [h2 j (by omega)];exact hj
theorem trod_rep:∀ (fuel:Nat) {t:TypeId} {T:Ty} {cs:List Value} {x:DataW H×List MemPlace},TyP P t T→DataW.trod enc P w base spare held fuel t cs=some x→∃ y:T.den,Rep (InWd w) w T y cs:=by
 intro fuel
 induction fuel with
 | zero=>intro t T cs x _ h;simp [DataW.trod] at h
 | succ n ih =>
  -- fields
  have fields:∀ {l:List (Nat×TypeId)} {off:Nat} {T:Ty} {cs:List Value},FsP P l off T→off+T.size≤cs.length→(∀ (i:Nat) p,l[i]? = some p→∃ x,DataW.trod enc P w base spare held n p.2 ((cs.drop p.1).take (P.cellsOf p.2))=some x) →
    ∃ y:T.den,Rep (InWd w) w T y ((cs.drop off).take T.size):=by
   intro l
   induction l with
   | nil=>intro off T cs h;cases h
   | cons p l ihl =>
    intro off T cs h hlen ht
    cases h with
    | last hc hty =>
     obtain ⟨x,hx⟩:=ht 0 _ rfl
     rw [← hc]
     exact ih hty hx
    | @cons _ t A B _ hc hty hr =>
     obtain ⟨x,hx⟩:=ht 0 _ rfl
     rw [hc] at hx
     obtain ⟨y1,h1⟩:=ih hty hx
     have hsz:(Ty.pair A B).size=A.size+B.size:=rfl
     rw [hsz] at hlen
     obtain ⟨y2,h2⟩:=ihl hr (by omega) fun i p hp=>ht (i+1) p (by simpa using hp)
     refine ⟨(y1,y2),_,_,?_,h1,h2⟩
     rw [hsz]
     rw [List.take_add,List.drop_drop]
  intro t T cs x hT h
  cases hT with
  | int hu =>
   obtain ⟨m,rfl,_,hw⟩:=DataW.trod_int hu h
   refine ⟨m,rfl,?_⟩
   simp [Lit.wf] at hw
   exact hw
  | bool hu=>obtain ⟨b,rfl,_⟩:=DataW.trod_bool hu h;exact ⟨b,rfl⟩
  | str hu =>
   obtain ⟨s,rfl,_,hs⟩:=DataW.trod_string hu h
   exact ⟨s.data.toList,by simp,by simpa using hs⟩
  | @list _ e T hu hc hty =>
   rcases DataW.trod_slice hu h with ⟨rfl,_⟩ | ⟨a,len,cap,elems,rest,m,hm,rfl,_,_,h1,h2,h3,h4,_⟩
   ·exact ⟨[],none,0,rfl,nR _,Nat.zero_le _,.inl rfl⟩
   ·cases hm
    rw [hc] at h4
    have hex:∀ i,i<len→∃ y:T.den,∃ es,Rep (InWd w) w T y es∧∀ j u,es[j]? = some u→w.cell? ((a.add (i*T.size)).add j)=some u:=by
     intro i hi
     have h5:=h4 i hi
     rw [gE (by omega)] at h5
     obtain ⟨es,h6,h7⟩:=Option.bind_eq_some_iff.1 h5
     obtain ⟨y,hy⟩:=ih hty h7
     exact ⟨y,es,hy,(cells?_get h6).2⟩
    obtain ⟨ys,hl,hys⟩:=exists_list len hex
    refine ⟨ys,some a,cap,by rw [hl],by rw [hl];exact h1,h2,?_⟩
    by_cases h0:len=0
    ·left;show List.length ys=0;omega
    ·right
     have hsp:a.spot=none:=by
      obtain ⟨y,es,hr,hg⟩:=hex 0 (by omega)
      have hel:=hr.length
      have hpos:=T.size_pos
      have:=hg 0 _ (gE (by omega))
      unfold World.cell? at this
      split at this
      ·split at this
       ·cases this
       ·rename_i hs
        simpa [Addr.add] using hs
      ·cases this
     obtain ⟨b,off,sp⟩:=a
     simp only at hsp
     subst hsp
     refine ⟨b,off,rfl,fun i y hy=>?_⟩
     obtain ⟨es,hr,hg⟩:=hys i y hy
     refine ⟨es,hr,fun j u hj=>?_⟩
     have h5:=hg j u hj
     rw [Addr.add_lit,Addr.add_lit] at h5
     exact ⟨World.block_lt_of_cell? _ _ h5,h5⟩
  | @struct1 _ fs T hu hc hf h1 =>
   obtain ⟨xs,m,hm,_,hl,hxl,hx⟩:=DataW.trod_struct hu h
   cases hm
   obtain ⟨y,hy⟩:=fields hf (by rw [hl,hc];omega) fun i p hp=>by
    simp only [List.getElem?_map,Option.map_eq_some_iff] at hp
    obtain ⟨f,hf1,rfl⟩:=hp
    have hil:i<xs.length:=by rw [hxl];simpa using (gS.1 hf1).1
    exact ⟨xs[i],by rw [← gE hil];exact hx i f (by simpa using hf1)⟩
   rw [List.drop_zero,tkL (by omega)] at hy
   exact ⟨y,hy⟩
  | @struct _ fs A B hu hc hf =>
   obtain ⟨xs,m,hm,_,hl,hxl,hx⟩:=DataW.trod_struct hu h
   cases hm
   have hsz:(Ty.pair A B).size=A.size+B.size:=rfl
   obtain ⟨y,hy⟩:=fields hf (by rw [hl,hc,hsz];omega) fun i p hp=>by
    simp only [List.getElem?_map,Option.map_eq_some_iff] at hp
    obtain ⟨f,hf1,rfl⟩:=hp
    have hil:i<xs.length:=by rw [hxl];simpa using (gS.1 hf1).1
    exact ⟨xs[i],by rw [← gE hil];exact hx i f (by simpa using hf1)⟩
   rw [List.drop_zero,tkL (by rw [hl,hc,hsz];omega)] at hy
   exact ⟨y,hy⟩
  | @array1 _ e T hu hc hf =>
   obtain ⟨xs,m,hm,_,hl,hxl,hx⟩:=DataW.trod_array hu h
   cases hm
   obtain ⟨y,hy⟩:=fields hf (by rw [hl,hc];omega) fun i p hp=>by
    have hi0:i=0:=by have:=(gS.1 hp).1;simp at this;exact this
    subst hi0
    simp at hp
    subst hp
    have:=hx 0 (by omega)
    rw [Nat.zero_mul] at this
    exact ⟨xs[0],by rw [← gE (by omega)];exact this⟩
   rw [List.drop_zero,tkL (by omega)] at hy
   exact ⟨y,hy⟩
  | @array _ k e A B hu hc hf =>
   obtain ⟨xs,m,hm,_,hl,hxl,hx⟩:=DataW.trod_array hu h
   cases hm
   have hsz:(Ty.pair A B).size=A.size+B.size:=rfl
   obtain ⟨y,hy⟩:=fields hf (by rw [hl,hc,hsz];omega) fun i p hp=>by
    simp only [List.getElem?_map,Option.map_eq_some_iff] at hp
    obtain ⟨j,hj,rfl⟩:=hp
    have hjl:i<k:=by have:=(gS.1 hj).1;simpa using this
    have hji:j=i:=by rw [List.getElem?_range hjl] at hj;cases hj;rfl
    subst hji
    exact ⟨xs[j],by rw [← gE (by omega)];exact hx j hjl⟩
   rw [List.drop_zero,tkL (by rw [hl,hc,hsz];omega)] at hy
   exact ⟨y,hy⟩

theorem TyP.agg:∀ {t:TypeId} {T:Ty} {v:Value} {r:Reach} {b0:Nat} {x:T.den},TyP P t T→Value.okWide P w r b0 t v→Rep (InWd w) w T x v.cells.toList→VRep (InWd w) w T x v:=by
 intro t T v r b0 x hT hok hr
 refine ⟨_,hr,?_⟩
 cases hT with
 | int hu=>obtain ⟨n,rfl⟩:=okWide_int hu hok;rfl
 | bool hu=>obtain ⟨n,rfl⟩:=okWide_bool hu hok;rfl
 | str hu=>obtain ⟨n,rfl⟩:=okWide_string hu hok;rfl
 | list hu _ _=>obtain ⟨a,l,c,rfl⟩:=okWide_slice hu hok;rfl
 | struct1 hu _ _ _=>simp only [Value.okWide,hu] at hok;obtain ⟨cs,rfl,_⟩:=hok;simp [Ty.wrap,Ty.agg,Value.cells]
 | struct hu _ _=>simp only [Value.okWide,hu] at hok;obtain ⟨cs,rfl,_⟩:=hok;simp [Ty.wrap,Ty.agg,Value.cells]
 | array1 hu _ _=>simp only [Value.okWide,hu] at hok;obtain ⟨cs,rfl,_⟩:=hok;simp [Ty.wrap,Ty.agg,Value.cells]
 | array hu _ _=>simp only [Value.okWide,hu] at hok;obtain ⟨cs,rfl,_⟩:=hok;simp [Ty.wrap,Ty.agg,Value.cells]

inductive TysP (P:Program):List TypeId→List Ty→Prop where
 | nil:TysP P [] []
 | cons {t T ts Ts}:P.readableRec t=true→t<P.types.size→TyP P t T→TysP P ts Ts→TysP P (t::ts) (T::Ts)
theorem args_data {η:Eta} {r:Reach} {b0:Nat}:∀ {ts:List TypeId} {Ts:List Ty} {vs:List Value} {ds:List (DataW H)} {ps:List MemPlace},TysP P ts Ts→DataW.TrodAll enc P w base spare held ts vs ds ps→(∀ (j:Nat) t v,ts[j]? = some t→vs[j]? = some v→Value.okWide P w r b0 t v) →
  ∃ x:Tup (Ts.map .d),All2 (RM (InWd w) w η) (rvs Ts x) vs
 | _,_,vs,ds,ps,.nil,h,_=>by
  obtain ⟨rfl,_,_⟩:=trodAll_nil h
  exact ⟨(),.nil⟩
 | _,_,vs,ds,ps,.cons (t:=t) (T:=T) (ts:=ts) (Ts:=Ts) h1 h2 h3 h4,h,hok=>by
  obtain ⟨v,vs',d,ds',p,q,rfl,rfl,rfl,⟨n,hn⟩,hr⟩:=trodAll_cons h
  obtain ⟨y,hy⟩:=trod_rep n h3 hn
  have hv:RM (InWd w) w η (T.rv y) v:=VRep.rm (h3.agg (hok 0 t v rfl rfl) hy)
  obtain ⟨x,hx⟩:=args_data (η:=η) h4 hr fun j t v h1 h2=>hok (j+1) t v (by simpa using h1) (by simpa using h2)
  cases Ts with
  | nil=>exact ⟨y,by cases hx;exact .cons hv .nil⟩
  | cons U Us=>exact ⟨(y,x),.cons hv hx⟩
theorem args_back (hl:laidOutB P=true) {w':World} (hb:Below w.heap.size w w') {sp:Nat→Bool}:∀ {ts:List TypeId} {Ts:List Ty} {vs:List Value} {ds:List (DataW H)} {ps:List MemPlace},TysP P ts Ts→DataW.TrodAll enc P w 0 (fun _=>true) true ts vs ds ps→(∀ x∈ps,x.block<w.heap.size)→(∀ x∈ps,sp x.block=true) →
  DataW.TrodAll enc P w' 0 sp true ts vs ds ps
 | _,_,vs,ds,ps,.nil,h,_,_=>by
  obtain ⟨rfl,rfl,rfl⟩:=trodAll_nil h
  exact rfl
 | _,_,vs,ds,ps,.cons h1 h2 h3 h4,h,hlt,hsp=>by
  obtain ⟨v,vs',d,ds',p,q,rfl,rfl,rfl,hd,hr⟩:=trodAll_cons h
  have hd':=WideElems.Trod_stays hl h1 h2 (sp':=sp) hd (fun x hx=>hb.same (hlt x (by simp [hx]))) fun x hx=>hsp x (by simp [hx])
  exact ⟨p,q,hd',args_back hl hb h4 hr (fun x hx=>hlt x (by simp [hx])) fun x hx=>hsp x (by simp [hx]),rfl⟩
end

theorem ints_of_trod {P:Program} {H:Type} {enc:TypeId×Value→H} {W:World} {base:Nat} {spare:Nat→Bool} {held:Bool} {fuel:Nat} {t e:TypeId} {n:Nat} {cs:List Value} {k0:IntKind} {xs:List Int} {p:List MemPlace} (ht:P.underlying t=some (.array n e)) (he:P.underlying e=some (.int k0)) (hc:P.cellsOf e=1)
  (h:DataW.trod enc P W base spare held fuel t cs=some (.agg (xs.map fun n=>.lit (.int k0 n)),p)) (i:Nat) (x:Int) (hx:xs[i]? = some x):cs[i]? = some (.int k0 x)∧k0.has x:=by
 cases fuel with
 | zero=>simp [DataW.trod] at h
 | succ fuel =>
  obtain ⟨ys,m,hm,h1,h2,h3,h4⟩:=DataW.trod_array ht h
  cases hm
  simp only [Prod.mk.injEq,DataW.agg.injEq] at h1
  have hl:ys.length=xs.length:=by
   have:=congrArg List.length h1.1
   simpa using this.symm
  have hi:i<xs.length:=(gS.1 hx).1
  have h5:=h4 i (by omega)
  obtain ⟨z,hz⟩:∃ z,ys[i]? = some z:=⟨_,gE (by omega)⟩
  have h6:(ys.map (·.1))[i]? = some (.lit (.int k0 x)):=by
   rw [← h1.1,List.getElem?_map,hx];rfl
  rw [List.getElem?_map,hz] at h6
  have h6:z.1=.lit (.int k0 x):=Option.some.inj h6
  rw [hc] at h5
  rw [hz,Nat.mul_one] at h5
  cases fuel with
  | zero=>simp [DataW.trod] at h5
  | succ fuel =>
   obtain ⟨k,e1,e2,e3⟩:=DataW.trod_int he h5
   rw [e2] at h6
   have hk:k=x:=by simpa using h6
   subst hk
   refine ⟨?_,(by simp [Lit.wf] at e3;exact e3)⟩
   have:((cs.drop i).take 1)[0]? = some (.int k0 k):=by rw [e1];rfl
   simpa using this
theorem ints_len {P:Program} {H:Type} {enc:TypeId×Value→H} {W:World} {base:Nat} {spare:Nat→Bool} {held:Bool} {fuel:Nat} {t e:TypeId} {n:Nat} {cs:List Value} {x:DataW H×List MemPlace} (ht:P.underlying t=some (.array n e)) (hc:P.cellsOf t=n)
  (h:DataW.trod enc P W base spare held fuel t cs=some x):cs.length=n:=by
 cases fuel with
 | zero=>simp [DataW.trod] at h
 | succ fuel =>
  obtain ⟨ys,m,hm,h1,h2,h3,h4⟩:=DataW.trod_array ht h
  rw [h2,hc]
theorem err_of_trod {P:Program} {H:Type} {enc:TypeId×Value→H} {W:World} {base:Nat} {spare:Nat→Bool} {fuel:Nat} {t T e:TypeId} {ms:Array (String×TypeId)} {cs:List Value} {n:String} {d:DataW H} {ps:List MemPlace} (ht:P.underlying t=some (.interface ms)) (hT:∀ u,P.typeName? 3 u=some n→u=T) (hp:P.underlying T=some (.pointer e))
  (hok:∀ u v,cs=[.iface u v]→∃ a,(P.underlying u=some (.pointer e)→v=.pointer a)) (h:DataW.trod enc P W base spare false fuel t cs=some (.iface n (.ptr d),ps)):∃ a,cs=[.iface T (.pointer (some a))]:=by
 cases fuel with
 | zero=>simp [DataW.trod] at h
 | succ fuel =>
  match cs,h with
  | [],h=>simp [DataW.trod,ht] at h
  | a::b::r,h=>simp [DataW.trod,ht] at h
  | [x],h =>
   cases x with
   | iface u v =>
    simp only [DataW.trod,ht] at h
    cases hn:P.typeName? 3 u with
    | none=>simp [hn] at h
    | some name =>
     simp only [hn,Option.map_eq_some_iff] at h
     obtain ⟨x,hx,hxe⟩:=h
     simp only [Prod.mk.injEq,DataW.iface.injEq] at hxe
     obtain ⟨⟨rfl,hxe⟩,_⟩:=hxe
     obtain rfl:=hT u hn
     obtain ⟨a,ha⟩:=hok u v rfl
     obtain rfl:=ha hp
     cases a with
     | some a=>exact ⟨a,rfl⟩
     | none =>
      cases fuel with
      | zero=>simp [DataW.trod] at hx
      | succ fuel =>
       simp only [Value.cells,DataW.trod,hp] at hx
       cases hx
       cases hxe
   | _=>simp [DataW.trod,ht] at h
end Go.PE
namespace Go.Proofs.YtdjfiampkhfooaaGreatDoor
open Go Go.Abs Go.PE Go.RowKit Go.ChangeShapes Go.WideShapes Go.ChangeAt Go.Proofs
set_option maxRecDepth 100000
theorem tyP3:TyP Tryz.prog 3 (.int .i64):=.int Tryz.underlying3
theorem tyP69:TyP Tryz.prog 69 (.pair (.int .i64) (.pair (.int .i64) (.pair (.int .i64) (.pair (.int .i64) (.pair (.int .i64) (.int .i64)))))):=.array Tryz.underlying69 (by kernel_rfl) (show FsP Tryz.prog [(0,3),(1,3),(2,3),(3,3),(4,3),(5,3)] 0 (.pair (.int .i64) (.pair (.int .i64) (.pair (.int .i64) (.pair (.int .i64) (.pair (.int .i64) (.int .i64)))))) from .cons (by kernel_rfl) tyP3 (.cons (by kernel_rfl) tyP3 (.cons (by kernel_rfl) tyP3 (.cons (by kernel_rfl) tyP3 (.cons (by kernel_rfl) tyP3 (.last (by kernel_rfl) tyP3))))))
theorem tyP22:TyP Tryz.prog 22 (.list (.pair (.int .i64) (.pair (.int .i64) (.pair (.int .i64) (.pair (.int .i64) (.pair (.int .i64) (.int .i64))))))):=.list Tryz.underlying22 (by kernel_rfl) tyP69
theorem tyP23:TyP Tryz.prog 23 (.list (.int .i64)):=.list Tryz.underlying23 (by kernel_rfl) tyP3
theorem tys3:TysP Tryz.prog [22,3,23,3] [(.list (.pair (.int .i64) (.pair (.int .i64) (.pair (.int .i64) (.pair (.int .i64) (.pair (.int .i64) (.int .i64))))))),(.int .i64),(.list (.int .i64)),(.int .i64)]:=.cons (by kernel_rfl) (oD (by kernel_rfl)) tyP22 (.cons (by kernel_rfl) (oD (by kernel_rfl)) tyP3 (.cons (by kernel_rfl) (oD (by kernel_rfl)) tyP23 (.cons (by kernel_rfl) (oD (by kernel_rfl)) tyP3 (.nil))))
theorem laidOut:laidOutB Tryz.prog=true:=by kernel_rfl
theorem own:ownKnob Tryz.prog.godebug=none:=by kernel_rfl
end Go.Proofs.YtdjfiampkhfooaaGreatDoor
namespace Go.Proofs.YtdjfiampkhfooaaGreatDoor
open Go Go.Abs Go.PE Go.RowKit Go.ChangeShapes Go.WideShapes Go.ChangeAt Go.WideMaps Go.WideElems Go.Proofs
set_option maxRecDepth 100000
theorem gName:Tryz.prog.globalNamed "putlog/digest.round"=some 1:=by kernel_rfl
theorem gTy:(Tryz.prog.globals[1]?).map (·.type)=some 253:=by kernel_rfl
theorem globs_ok [EA] {W:World} (h:laidMetH Tryz.prog Rows.archiveCrashesRow.laid W):GlobOK (InWd W) W:=by
 rw [MakeChecks.laidMetH_plain _ _ _ (by kernel_rfl)] at h
 obtain ⟨ps,h,_,_⟩:=h
 obtain ⟨_,_,_,_,_,_,_,_,_,_,h,_⟩:=h
 obtain ⟨g0,t0,cs0,f0,p0,q0,hg0,ht0,hv0,hd0,_,_⟩:=h
 obtain rfl:=Option.some.inj (gName.symm.trans hg0)
 obtain rfl:=Option.some.inj (gTy.symm.trans ht0)
 have hsz:=ints_len Tryz.underlying253 (by kernel_rfl) hd0
 have key:=ints_of_trod (k0:=.u32) (xs:=([1116352408,1899447441,3049323471,3921009573,961987163,1508970993,2453635748,2870763221,3624381080,310598401,607225278,1426881987,1925078388,2162078206,2614888103,3248222580,3835390401,4022224774,264347078,604807628,770255983,1249150122,1555081692,1996064986,2554220882,2821834349,2952996808,3210313671,3336571891,3584528711,113926993,338241895,666307205,773529912,1294757372,1396182291,1695183700,1986661051,2177026350,2456956037,2730485921,2820302411,3259730800,3345764771,3516065817,3600352804,4094571909,275423344,430227734,506948616,659060556,883997877,958139571,1322822218,1537002063,1747873779,1955562222,2024104815,2227730452,2361852424,2428436474,2756734187,3204031479,3329325298]:List Int)) Tryz.underlying253 Tryz.underlying177 (by kernel_rfl) hd0
 have hcell:∀ i,W.cell? ⟨1,i,none⟩=cs0[i]? := fun i=>World.var?_cell hg0 hv0 i
 intro g G hl
 unfold globTab at hl
 by_cases hg:1=g
 ·subst hg
  rw [jA] at hl
  cases hl
  refine ⟨⟨World.block_lt_of_cell? (w:=W) (a:=⟨1,0,none⟩) (u:=.int .u32 1116352408) (by rw [hcell];simpa using (key 0 1116352408 rfl).1),?_⟩,fun i x hx=>?_⟩
  ·rw [hcell]
   exact Array.getElem?_eq_none (by rw [← Array.length_toList,hsz];exact nR _)
  ·have key:=key i x hx
   refine ⟨[.int .u32 x],⟨rfl,key.2⟩,fun j v hj=>?_⟩
   cases j with
   | zero =>
    have hv:Value.int .u32 x=v:=Option.some.inj hj
    subst hv
    have h2:W.cell? ⟨1,i*1+0,none⟩=some (.int .u32 x):=by
     rw [Nat.mul_one,Nat.add_zero,hcell]
     simpa using key.1
    exact ⟨World.block_lt_of_cell? (w:=W) (a:=⟨1,i*1+0,none⟩) h2,h2⟩
   | succ j=>simp at hj
 ·rw [wA _ _ hg] at hl
  cases hl
theorem door_met (os:Os) (args:Array Value):laidMetH Tryz.prog Rows.archiveCrashesRow.laid ((World.laidAll Tryz.prog os Rows.archiveCrashesRow.laid).forCall (fun _ _=>0) ⟨#[],args,[]⟩).memory:=by
 rw [MakeChecks.laidMetH_plain _ _ _ (by kernel_rfl)]
 exact laidMet_laidAll _ (by kernel_rfl) (by kernel_rfl)
theorem eName:Tryz.prog.globalNamed "putlog/journal.errDamaged"=some 0:=by kernel_rfl
theorem eTy:(Tryz.prog.globals[0]?).map (·.type)=some 98:=by kernel_rfl
theorem eStar:"*"++"errors.errorString"="*errors.errorString":=by decide
theorem eRow (u:TypeId) (h:Tryz.prog.typeName? 3 u=some "*errors.errorString"):u=278:=typeName_ptr_named (nm:="errors.errorString") (by rw [eStar];kernel_rfl) (by kernel_rfl) (by decide) u (by rw [eStar];exact h)
theorem errs_ok {W:World} (h:laidMetH Tryz.prog Rows.archiveCrashesRow.laid W):∃ e:EA,ErrOK (ea:=e) (InWd W) W:=by
 rw [MakeChecks.laidMetH_plain _ _ _ (by kernel_rfl)] at h
 obtain ⟨ps,h,_,hok⟩:=h
 obtain ⟨_,_,_,_,_,q0,_,_,_,_,h,e1⟩:=h
 subst e1
 replace hok:=fun b off (hm:MemPlace.cell b off∈q0)=>hok b off (List.mem_append_right _ hm)
 obtain ⟨_,_,_,_,_,q1,_,_,_,_,h,e1⟩:=h
 subst e1
 replace hok:=fun b off (hm:MemPlace.cell b off∈q1)=>hok b off (List.mem_append_right _ hm)
 obtain ⟨g0,t0,cs0,f0,p0,q0,hg0,ht0,hv0,hd0,_,e0⟩:=h
 subst e0
 obtain rfl:=Option.some.inj (eName.symm.trans hg0)
 obtain rfl:=Option.some.inj (eTy.symm.trans ht0)
 have hcell:∀ i,W.cell? ⟨0,i,none⟩=cs0[i]? := fun i=>World.var?_cell hg0 hv0 i
 obtain ⟨a,ha⟩:=err_of_trod (ea:=⟨default⟩) Tryz.underlying98 eRow Tryz.underlying278 (fun u v hcs=>by
  have hc:W.cell? ⟨0,0,none⟩=some (.iface u v):=by rw [hcell,← Array.getElem?_toList,hcs];rfl
  have hm:MemPlace.cell 0 0∈MemPlace.row ⟨0,0,none⟩ cs0.size:=by
   rw [← Array.length_toList,hcs]
   simp [MemPlace.row]
  have hw:=(hok 0 0 (List.mem_append_left _ (List.mem_append_left _ hm))).2 u v hc
  by_cases hu:Tryz.prog.underlying u=some (.pointer 300)
  ·obtain ⟨a,rfl⟩:=okWide_pointer hu hw
   exact ⟨a,fun _=>rfl⟩
  ·exact ⟨none,fun h=>absurd h hu⟩) hd0
 refine (fun (ea:EA) (hea:ea.a=a)=>(⟨ea,fun g T hl=>?_⟩:∃ e:EA,ErrOK (ea:=e) (InWd W) W)) ⟨a⟩ rfl
 unfold errTab at hl
 by_cases hg:0=g
 ·subst hg
  rw [jA] at hl
  cases hl
  have hc:W.cell? ⟨0,0,none⟩=some (.iface 278 (.pointer (some a))):=by rw [hcell,← Array.getElem?_toList,ha];rfl
  exact ⟨World.block_lt_of_cell? (w:=W) (a:=⟨0,0,none⟩) hc,by rw [hc,← hea];rfl⟩
 ·rw [wA _ _ hg] at hl
  cases hl
end Go.Proofs.YtdjfiampkhfooaaGreatDoor
namespace Go.PE
open Go Go.RowKit Go.Abs Go.Sort
open Go.Proofs (ltOf)
variable [db:DB] [ea:EA]

def uC:(t:Ty)→t.den→t.den
 | .int k,x=>k.wrap x
 | .bool,x=>x
 | .str,x=>List.take maxLen x
 | .list _,x=>x
 | .one t,x=>uC t x
 | .pair a b,x=>(uC a x.1,uC b x.2)
def encF:(t:Ty)→t.den→List Value
 | .int k,x=>[.int k x]
 | .bool,x=>[.bool x]
 | .str,x=>[.string ⟨List.toArray x⟩]
 | .list _,_=>[.slice none 0 0]
 | .one t,x=>encF t x
 | .pair a b,x=>encF a x.1++encF b x.2
def encT (t:Ty) (x:t.den):List Value:=encF t (uC t x)
theorem gH:∀ (t:Ty) (x:t.den),(encF t x).length=t.size
 | .int _,_=>rfl
 | .bool,_=>rfl
 | .str,_=>rfl
 | .list _,_=>rfl
 | .one t,x=>gH t x
 | .pair a b,x=>by
  show (encF a x.1++encF b x.2).length=a.size+b.size
  rw [lA,gH,gH]
theorem encF_one:∀ (t:Ty) (x:t.den),∀ v∈encF t x,v.oneCell'=true
 | .int _,_,v,h=>by simp [encF] at h;subst h;rfl
 | .bool,_,v,h=>by simp [encF] at h;subst h;rfl
 | .str,_,v,h=>by simp [encF] at h;subst h;rfl
 | .list _,_,v,h=>by simp [encF] at h;subst h;rfl
 | .one t,x,v,h=>encF_one t x v h
 | .pair a b,x,v,h=>by
  rcases List.mem_append.1 h with h | h
  ·exact encF_one a x.1 v h
  ·exact encF_one b x.2 v h
section
variable {S:Cells} {w:World} {η:Eta}
theorem rep_encF:∀ {t:Ty} (x:t.den),t.flat=true→Rep S w t (uC t x) (encF t (uC t x))
 | .int k,x,_=>⟨rfl,jC k x⟩
 | .bool,_,_=>rfl
 | .str,x,_=>⟨rfl,by show (List.take maxLen x).length≤maxLen;rw [lT];exact Nat.min_le_left _ _⟩
 | .list _,_,h=>by cases h
 | .one t,x,h=>rep_encF (t:=t) x h
 | .pair a b,x,h=>by
  simp only [Ty.flat,bA] at h
  exact ⟨_,_,rfl,rep_encF x.1 h.1,rep_encF x.2 h.2⟩
theorem sG:∀ {t:Ty} {x:t.den} {cs:List Value},t.flat=true→Rep S w t x cs→uC t x=x∧cs=encF t x
 | .int k,x,cs,_,h=>⟨has_wrap h.2,h.1⟩
 | .bool,_,_,_,h=>⟨rfl,h⟩
 | .str,x,cs,_,h=>⟨tkL h.2,h.1⟩
 | .list _,_,_,h,_=>by cases h
 | .one t,x,cs,hf,h=>by
  have h':Rep S w t x cs:=h
  exact sG (t:=t) hf h'
 | .pair a b,x,cs,hf,h=>by
  simp only [Ty.flat,bA] at hf
  obtain ⟨c1,c2,rfl,h1,h2⟩:=h
  obtain ⟨g1,g2⟩:=sG hf.1 h1
  obtain ⟨g3,g4⟩:=sG hf.2 h2
  refine ⟨?_,by rw [g2,g4];rfl⟩
  show (uC a x.1,uC b x.2)=x
  rw [g1,g3]
end
def cmpC (t:Ty) (cf:t.den→t.den→Int) (x y:t.den):Int:=cf (uC t x) (uC t y)
def qG (t:Ty) (cf:t.den→t.den→Int) (xs:List t.den):Option (List t.den):=match decide (xs.length<4611686018427387904) with
 | true=>some (pdq (ltOf (cmpC t cf)) xs.toArray 0 xs.length (Lib.bitLen xs.length) true true).toList
 | false=>none
theorem swo_cmpC {t:Ty} {cf:t.den→t.den→Int} (h:SWO (ltOf cf)):SWO (ltOf (cmpC t cf)) :=
 ⟨fun x=>h.irrefl _,fun x y z=>h.trans _ _ _,fun x y z=>h.ntrans _ _ _⟩
theorem grow_of {w w':World} (h:Below w.heap.size w w') (hd:w.drawn≤w'.drawn):∃ q os,w'=grow (w.drewN q) os:=by
 refine ⟨w'.drawn-w.drawn,w'.heap.extract w.heap.size w'.heap.size,?_⟩
 have hh:w'.heap=w.heap++w'.heap.extract w.heap.size w'.heap.size:=by
  apply Array.ext_getElem?
  intro k
  by_cases hk:k<w.heap.size
  ·rw [Array.getElem?_append_left hk,h.block k hk]
  ·rw [Array.getElem?_append_right (by omega)]
   have hs:=h.size
   by_cases hk2:k<w'.heap.size
   ·simp [Array.getElem?_extract,show w.heap.size+(k-w.heap.size)=k by omega]
    omega
   ·rw [Array.getElem?_eq_none (by omega),Array.getElem?_eq_none (by simp;omega)]
 obtain ⟨h1,h2,h3,_,_⟩:=h
 cases w
 cases w'
 simp only [grow,World.drewN] at *
 subst h1 h2 h3
 rw [← hh]
 congr 1
 omega
theorem cmpLays_of (hdr:drawsB=true) {P:Program} {g:FuncId} {t:Ty} (hf:t.flat=true) (ha:t.agg=true) {mg:Tup ([t,t].map .d)→Option (Tup ([Ty.int .i64].map .d))} (hg:SpecOK P g ⟨[t,t],[.int .i64],mg⟩) {cf:t.den→t.den→Int} (hm:∀ x y,mg (x,y)=some (cf x y)) (blk off size:Nat) (w:World) {S:Cells} (hW:∀ m os (dk:Array t.den),dk.size=size→InW S (Go.Proofs.sortWorldK (encT t) t.size w blk off m dk os)) :
  Go.Proofs.CmpLays P g #[] (encT t) t.size (cmpC t cf) blk off size w:=by
 intro m os dk hs x y
 have hv:∀ z:t.den,RM S (Go.Proofs.sortWorldK (encT t) t.size w blk off m dk os) (fun _=>none) (t.rv (uC t z)) (.agg (encT t z).toArray):=fun z=>by
  refine VRep.rm ⟨encT t z,rep_encF z hf,?_⟩
  unfold Ty.wrap
  rw [ha];rfl
 have h:=hg (uC t x,uC t y) (cmpC t cf x y) (hm _ _) S (Go.Proofs.sortWorldK (encT t) t.size w blk off m dk os) (fun _=>none) [.agg (encT t x).toArray,.agg (encT t y).toArray] (hW m os dk hs) (.cons (hv x) (.cons (hv y) .nil))
 refine h.mono fun en w' ⟨v,S',he,hgr,hp⟩=>?_
 have hp':PM S' w' (fun _=>none) (.c (.d (.int .i64) (cmpC t cf x y))) v:=hp
 obtain ⟨hv,_⟩:=PM.int.1 hp'
 exact ⟨by rw [he,hv],grow_of hgr.below (hgr.lk.drawn hdr)⟩
theorem rep_world {t:Ty} {S S':Cells} {w w':World} {x:t.den} {cs:List Value} (hf:t.flat=true) (h:Rep S w t x cs):Rep S' w' t x cs:=Rep.flat hf h
theorem div_mul_mod (j k:Nat):j / k*k+j % k=j:=by
 have:=Nat.div_add_mod j k
 rw [Nat.mul_comm] at this
 exact this
theorem getB {α:Type} [Inhabited α] {a:Array α} {i:Nat} (h:i<a.size):a[i]! = a[i]:=getElem!_pos a i h
theorem getLB {α:Type} [Inhabited α] {a:List α} {i:Nat} {v:α} (h:a[i]? = some v):a[i]! = v:=by
 obtain ⟨h1,h2⟩:=gS.1 h
 rw [getElem!_pos a i h1,h2]
theorem sortOK_of (hdr:drawsB=true) {P:Program} {ρ:Go.Shelf.Ren} (L:Go.Proofs.SlLaysF0.n6 P ρ) {f g:FuncId} (hfid:ρ.f 6=f) {t:Ty} (hf:t.flat=true) (ha:t.agg=true)
  (aE:∀ w,(isAgg (ρ.t 24)).run P w=.ok true w) (zE:∀ w,(Go.sizeOf (ρ.t 24)).run P w=.ok t.size w)
  (ef:∀ (args:Array Value) (w:World),(callFunc f args).run P w=.ok (.enter f args) w) (eg:∀ (args:Array Value) (w:World),(callFunc g args).run P w=.ok (.enter g args) w)
  {mg:Tup ([t,t].map .d)→Option (Tup ([Ty.int .i64].map .d))} (hg:SpecOK P g ⟨[t,t],[.int .i64],mg⟩) {cf:t.den→t.den→Int} (hm:∀ x y,mg (x,y)=some (cf x y)) (hO:SWO (ltOf cf)):SortOK P ⟨f,g,t,qG t cf⟩:=by
 refine ⟨ef,fun xs ys h B S F w u hB hin hF hA=>?_⟩
 have h:qG t cf xs=some ys:=h
 have hA:ArrH F S w u t xs:=hA
 show Calls P f #[u,.func (.func g) #[] #[]] w fun en w'=>en=.returned (.tuple #[])∧Grow B S w S w'∧ArrH F S w' u t ys∧_∧_
 unfold qG at h
 split at h
 ·rename_i hlt
  have hlt:=oD hlt
  have hy:=Option.some.inj h
  have hsort:=Go.Sort.pdq_sorts (ltOf (cmpC t cf)) (swo_cmpC hO) xs.toArray 0 xs.length (Lib.bitLen xs.length) true true (Nat.zero_le _) (by simp) (Or.inl rfl)
  have hperm:=hsort.1
  generalize hd':pdq (ltOf (cmpC t cf)) xs.toArray 0 xs.length (Lib.bitLen xs.length) true true=d' at hy hperm
  have hsz:d'.size=xs.length:=by have:=hperm.1;simpa using this
  have hyl:ys.length=xs.length:=by rw [← hy];simpa using hsz
  obtain ⟨base,cap,rfl,c1,c2,c3⟩:=hA
  by_cases hn:xs.length=0
  ·have hxs:xs=[]:=lN hn
   have hys:ys=[]:=lN (by omega)
   subst hxs hys
   have hc:=Go.Proofs.AnyF.slices_SortFunc_none L base cap (.func (.func g) #[] #[]) w
   rw [hfid] at hc
   exact hc.mono fun en w' ⟨he,hw⟩=>by
    subst hw
    exact ⟨he,Grow.refl hin,⟨base,cap,rfl,c1,c2,c3⟩,fun _ _ _ _=>⟨rfl,rfl⟩,fun _ _ _=>rfl⟩
  ·rcases c3 with c3 | ⟨b,off,rfl,hFe,ht,hx⟩
   ·omega
   have hpos:=t.size_pos
   have hmul:xs.length*t.size≤cap*t.size:=Nat.mul_le_mul_right _ c1
   have hmul1:1*1≤xs.length*t.size:=Nat.mul_le_mul (by omega) hpos
   have hin1:∀ j,j<xs.length*t.size→F b (off+j):=fun j hj=>(hFe _ _).2 ⟨rfl,by omega,by omega⟩
   obtain ⟨hBb,hblk,_⟩:=hF b (off+0) (hin1 0 (by omega))
   have hflat:∀ (d:Array t.den),(∀ i (hi:i<d.size),uC t d[i]=d[i])→∀ j,j<d.size*t.size→(flatK (encT t) t.size d)[j]! = (encF t d[j / t.size]!)[j % t.size]! := fun d hd j hj=>by
    have hi:j / t.size<d.size:=Nat.div_lt_of_lt_mul (by rw [Nat.mul_comm];exact hj)
    rw [get_flatK _ _ _ _ hj,getB hi]
    unfold encT
    rw [hd _ hi]
   have hxin:∀ i (hi:i<xs.length),∃ es,Rep S w t xs[i] es∧(∀ j v,es[j]? = some v→w.cell? ⟨b,off+i*t.size+j,none⟩=some v):=fun i hi=>hx i xs[i] (gE hi)
   have hH:HoldsK (encT t) t.size w b off xs.toArray:=by
    intro j hj
    rw [size_flatK] at hj
    have hj':j<xs.length*t.size:=by simpa using hj
    have hi:j / t.size<xs.length:=Nat.div_lt_of_lt_mul (by rw [Nat.mul_comm];exact hj')
    have hm':j % t.size<t.size:=Nat.mod_lt _ hpos
    obtain ⟨es,he,hc⟩:=hxin _ hi
    obtain ⟨k1,k2⟩:=sG hf he
    refine ⟨?_,(ht (off+j) (by omega) (by omega)).2⟩
    rw [hflat xs.toArray (fun i hi=>by
     have hi':i<xs.length:=by simpa using hi
     obtain ⟨es,he,_⟩:=hxin _ hi'
     simpa using (sG hf he).1) j hj,getB (by simpa using hi)]
    have hcell:=hc (j % t.size) (es[j % t.size]'(by rw [he.length];exact hm')) (gE _)
    rw [Nat.add_assoc,div_mul_mod] at hcell
    rw [hcell]
    congr 1
    have:(encF t xs[j / t.size])[j % t.size]? = some (es[j % t.size]'(by rw [he.length];exact hm')):=by rw [← k2];exact gE _
    simpa using (getLB this).symm
   have hcut0:∀ b' o,¬ F b' o→(b'≠b∨o<off∨off+xs.length*t.size≤o):=fun b' o hno=>by
    by_cases e:b'=b
    ·subst e
     refine .inr ?_
     rcases Nat.lt_or_ge o off with h1 | h1
     ·exact .inl h1
     ·rcases Nat.lt_or_ge o (off+xs.length*t.size) with h2 | h2
      ·have:=hin1 (o-off) (by omega)
       rw [show off+(o-off)=o by omega] at this
       exact absurd this hno
      ·exact .inr h2
    ·exact .inl e
   have hworlds:∀ m os (dk:Array t.den),dk.size=xs.toArray.size→InW S (Go.Proofs.sortWorldK (encT t) t.size w b off m dk os):=fun m os dk hs=>by
    have hs:dk.size=xs.length:=by simpa using hs
    have hfn:(flatK (encT t) t.size dk).size=xs.length*t.size:=by rw [size_flatK,hs]
    have hw:Go.Proofs.sortWorldK (encT t) t.size w b off m dk os=grow (putRow id (Go.Sort.ahead w m) b off (flatK (encT t) t.size dk)) os:=rfl
    have hps:(putRow id (Go.Sort.ahead w m) b off (flatK (encT t) t.size dk)).heap.size=w.heap.size:=by rw [size_putRow];rfl
    have cout:∀ b' o,b'<w.heap.size→(b'≠b∨o<off∨off+xs.length*t.size≤o)→(Go.Proofs.sortWorldK (encT t) t.size w b off m dk os).cell? ⟨b',o,none⟩=w.cell? ⟨b',o,none⟩:=fun b' o hb' ho=>by
     rw [hw,cell?_grow _ _ _ (by rw [hps];exact hb'),cell?_putRow_other id _ b off _ _ (by rw [hfn];exact ho)]
     rfl
    refine hin.on ⟨fun _ _ h=>h,fun b' o hs=>cout b' o (hin b' o hs) (hcut0 b' o fun hf'=>(hF b' o hf').2.2 hs)⟩ fun b' o hs=>?_
    have:=hin b' o hs
    rw [hw,size_grow,hps];omega
   have hcon:=Go.Proofs.AnyQ.slices_SortFunc_eq L t.size aE zE (encT t) (fun x=>gH t _) (fun x=>encF_one t _) (cmpC t cf) (swo_cmpC hO) g #[] b off cap xs.toArray w (fun args w=>eg args w) (cmpLays_of hdr hf ha hg hm b off xs.toArray.size w (S:=S) hworlds) hH hblk (by simpa using hlt)
   rw [hfid] at hcon
   have hse:xs.toArray.size=xs.length:=by simp
   rw [hse,hd'] at hcon
   refine hcon.mono fun en w' ⟨he,n,os,hw⟩=>⟨he,?_⟩
   -- the world behind
   have hH1:Holds id (Go.Sort.ahead w n) b off (flatK (encT t) t.size xs.toArray):=hH
   have hfs:(flatK (encT t) t.size d').size=(flatK (encT t) t.size xs.toArray).size:=by rw [size_flatK,size_flatK,hsz,hse]
   have hfn:(flatK (encT t) t.size d').size=xs.length*t.size:=by rw [size_flatK,hsz]
   have hw:w'=grow (putRow id (Go.Sort.ahead w n) b off (flatK (encT t) t.size d')) os:=hw
   have hps:(putRow id (Go.Sort.ahead w n) b off (flatK (encT t) t.size d')).heap.size=w.heap.size:=by rw [size_putRow];rfl
   have cin:∀ j,j<xs.length*t.size→w'.cell? ⟨b,off+j,none⟩=some (flatK (encT t) t.size d')[j]! := fun j hj=>by
    rw [hw,cell?_grow _ _ _ (by rw [hps];exact hblk)]
    exact cell?_putRow id _ b off _ _ hH1 hfs j (by rw [hfn];exact hj)
   have cout:∀ b' o,b'<w.heap.size→(b'≠b∨o<off∨off+xs.length*t.size≤o)→w'.cell? ⟨b',o,none⟩=w.cell? ⟨b',o,none⟩:=fun b' o hb' ho=>by
    rw [hw,cell?_grow _ _ _ (by rw [hps];exact hb'),cell?_putRow_other id _ b off _ _ (by rw [hfn];exact ho)]
    rfl
   have fout:∀ b' o,b'<w.heap.size→w'.frozen? ⟨b',o,none⟩=w.frozen? ⟨b',o,none⟩:=fun b' o hb'=>by
    rw [hw,frozen?_grow _ _ _ (by rw [hps];exact hb'),frozen?_putRow]
    rfl
   have hout:∀ b',b'<w.heap.size→b'≠b→w'.heap[b']? = w.heap[b']? := fun b' hb' hne=>by
    rw [hw,heap_grow_old _ _ (by rw [hps];exact hb')]
    show (w.heap.modify b _)[b']? = _
    rw [Array.getElem?_modify,if_neg (Ne.symm hne)]
   have hcut:∀ b' o,¬ F b' o→(b'≠b∨o<off∨off+xs.length*t.size≤o):=fun b' o hno=>by
    by_cases e:b'=b
    ·subst e
     refine .inr ?_
     rcases Nat.lt_or_ge o off with h1 | h1
     ·exact .inl h1
     ·rcases Nat.lt_or_ge o (off+xs.length*t.size) with h2 | h2
      ·have:=hin1 (o-off) (by omega)
       rw [show off+(o-off)=o by omega] at this
       exact absurd this hno
      ·exact .inr h2
    ·exact .inl e
   have hkeep:Keep S w S w':=⟨fun _ _ h=>h,fun b' o hs=>cout b' o (hin b' o hs) (hcut b' o fun hf'=>(hF b' o hf').2.2 hs)⟩
   have hcells:∃ c e fr,w.heap[b]? = some (.cells c e fr):=by
    obtain ⟨⟨v,hv⟩,_⟩:=ht (off+0) (by omega) (by omega)
    obtain ⟨c,e,fr,h1,_⟩:=cells_of_cell? hv
    exact ⟨c,e,fr,h1⟩
   have hgr:Grow B S w S w':=by
    refine ⟨⟨by rw [hw];rfl,by rw [hw];rfl,by rw [hw];rfl,by rw [hw,size_grow,hps];omega,fun k hk=>hout k (by omega) (by omega)⟩,hkeep,fun b' o hs=>?_,fun _ _ h=>.inl h,.of ?_ fun b' o ho hne=>?_⟩
    ·have:=hin b' o hs
     rw [hw,size_grow,hps];omega
    ·rw [hw]
     show w.drawn≤w.drawn+n
     omega
    ·by_cases e:b'=b
     ·subst e
      obtain ⟨c,el,fr,hc⟩:=hcells
      rw [hc] at ho
      exact absurd (Option.some.inj ho).symm (hne _ _ _)
     ·rw [hout b' (aS.1 ho).1 e];exact ho
   -- what the array holds
   have hmem:∀ i (hi:i<d'.size),∃ j,∃ hj:j<xs.length,d'[i]=xs[j]:=fun i hi=>by
    have hp:=hperm.2.2
    have h1:d'.extract 0 xs.length=d':=by rw [← hsz];simp
    have h2:xs.toArray.extract 0 xs.length=xs.toArray:=by rw [← hse];simp
    rw [h1,h2] at hp
    have:d'[i]∈d'.toList:=by simp
    have:=hp.mem_iff.1 this
    obtain ⟨j,hj,e⟩:=List.mem_iff_getElem.1 this
    exact ⟨j,by simpa using hj,by simpa using e.symm⟩
   have hcl:∀ i (hi:i<d'.size),uC t d'[i]=d'[i]:=fun i hi=>by
    obtain ⟨j,hj,e⟩:=hmem i hi
    obtain ⟨es,he,_⟩:=hxin j hj
    rw [e];exact (sG hf he).1
   have hyi:∀ (i:Nat) (y:t.den),ys[i]? = some y→∃ hi:i<d'.size,d'[i]=y:=fun i y hi=>by
    rw [← hy] at hi
    obtain ⟨h1,h2⟩:=gS.1 hi
    exact ⟨by simpa using h1,by simpa using h2⟩
   refine ⟨hgr,⟨some ⟨b,off,none⟩,cap,by rw [hyl],by omega,c2,.inr ⟨b,off,rfl,hFe,fun o h1 h2=>?_,fun i y hi=>?_⟩⟩,fun b' o hb' hno=>⟨cout b' o hb' (hcut b' o hno),fout b' o hb'⟩,fun b' hb' hno=>hout b' hb' fun e=>?_⟩
   ·refine ⟨?_,by rw [fout b o hblk];exact (ht o h1 h2).2⟩
    by_cases ho:o<off+xs.length*t.size
    ·have:=cin (o-off) (by omega)
     rw [show off+(o-off)=o by omega] at this
     exact ⟨_,this⟩
    ·rw [cout b o hblk (.inr (.inr (by omega)))]
     exact (ht o h1 h2).1
   ·obtain ⟨hi',e⟩:=hyi i y hi
    obtain ⟨j,hj,e2⟩:=hmem i hi'
    obtain ⟨es,he,_⟩:=hxin j hj
    have hes:=(sG hf he).2
    refine ⟨es,?_,fun m v hm'=>?_⟩
    ·rw [← e,e2];exact rep_world hf he
    ·have hml:m<t.size:=by rw [← he.length];exact (gS.1 hm').1
     have hlt2:i*t.size+m<xs.length*t.size:=by
      have:=Nat.mul_le_mul_right t.size (show i+1≤xs.length by omega)
      rw [Nat.add_mul] at this
      omega
     have e3:(i*t.size+m) / t.size=i:=by
      rw [Nat.mul_comm,Nat.mul_add_div hpos,Nat.div_eq_of_lt hml,Nat.add_zero]
     have e4:(i*t.size+m) % t.size=m:=by
      rw [Nat.mul_comm,Nat.mul_add_mod,Nat.mod_eq_of_lt hml]
     have:=cin (i*t.size+m) hlt2
     rw [← Nat.add_assoc] at this
     rw [this,hflat d' hcl _ (by rw [hsz];exact hlt2),e3,e4,getB hi',e2,← hes]
     congr 1
     exact getLB hm'
   ·subst e
    exact hno _ (hin1 0 (by omega))
 ·cases h
theorem LK_weak {w w':World} (h:LK (db:=dbT) w w'):LK w w':=by
 obtain ⟨a,b,c⟩:=h
 exact ⟨a,b,fun _=>c rfl⟩
theorem Grow_weak {B:Nat} {S S':Cells} {w w':World} (h:Grow (db:=dbT) B S w S' w'):Grow B S w S' w':=by
 obtain ⟨a,b,c,d,e⟩:=h
 exact ⟨a,b,c,d,LK_weak e⟩
theorem SpecOK_weak {P:Program} {f:FuncId} {s:Spec} (h:SpecOK (db:=dbT) P f s):SpecOK P f s:=fun x r hr S w η vs hi ha=>(h x r hr S w η vs hi ha).mono fun en w' ⟨v,S',e,g,p⟩=>⟨v,S',e,Grow_weak g,p⟩
theorem SortOK_weak {P:Program} {s:SoSpec} (h:SortOK (db:=dbT) P s):SortOK P s:=⟨h.1,fun xs ys h1 B S F w u hB hi hF hA=>(h.2 xs ys h1 B S F w u hB hi hF hA).mono fun en w' ⟨a,g,b⟩=>⟨a,Grow_weak g,b⟩⟩
end Go.PE
namespace Go.Proofs.YtdjfiampkhfooaaGreatDoor
open Go Go.Abs Go.PE
set_option maxRecDepth 100000
variable [db:DB] [EA]
section
variable {S:Cells} {w:World} {η:Eta}
theorem zi (k:IntKind):CM S w η (.d (.int k) (0:Int)) (.int k 0):=⟨rfl,VRep.int.2 ⟨rfl,by unfold IntKind.has;cases k<;>decide⟩⟩
theorem zb:CM S w η (.d .bool false) (.bool false):=⟨rfl,VRep.bool.2 rfl⟩
theorem zs:CM S w η (.d .str ([]:List UInt8)) (.string ⟨#[]⟩):=⟨rfl,VRep.str.2 ⟨rfl,Nat.zero_le _⟩⟩
end
abbrev tI:Ty:=.int .i64
abbrev tF:TI:=⟨false,1,[.l .nilF],none,.fn⟩
theorem oF {P:Program} {k:TypeId} {a b c} (h1:∀ w,(isAgg k).run P w=.ok false w) (h2:∀ w,(Go.sizeOf k).run P w=.ok 1 w) (h3:∀ w,(zeroValue k).run P w=.ok .nilFunc w) (h4:∀ w,(underlying k).run P w=.ok (.func a b c) w):TIok P k tF :=
 ⟨h1,h2,⟨_,h3,⟨[Value.nilFunc],rfl,fun S w η=>.cons (rfl) (.nil)⟩,(fun T h=>by cases h)⟩,(fun T h=>by cases h),⟨_,_,_,h4⟩⟩
abbrev vD:Ty:=.pair (.int .i64) (.pair (.int .i64) (.pair (.int .i64) (.pair (.int .i64) (.pair (.int .i64) (.pair (.int .i64) (.pair (.int .i64) (.pair (.str) (.str))))))))
abbrev ty_api_Archive:Ty:=.one (.list (vD))
abbrev jH:Ty:=.pair (.bool) (.int .i64)
abbrev lF:Ty:=.pair (.int .i64) (.str)
abbrev ty_disk_Disk:Ty:=.pair (jH) (.pair (.list (.int .u8)) (.pair (.list (.int .u8)) (.list (lF))))
abbrev ty_journal_tape:Ty:=.pair (.list (.str)) (.pair (.str) (.int .i64))
abbrev ty_archive_reader:Ty:=.pair (.str) (.int .i64)
abbrev ty_unicode_utf8_acceptRange:Ty:=.pair (.int .u8) (.int .u8)
abbrev ty_errors_errorString:Ty:=.one (.str)
abbrev ty_internal_abi_Method:Ty:=.pair (.int .i32) (.pair (.int .i32) (.pair (.int .i32) (.int .i32)))
abbrev t2:TI:=⟨false,1,[.d (.int .i64) (0:Int)],some (.int .i64),.int .i64⟩
abbrev t3:TI:=⟨false,1,[.d (.int .i64) (0:Int)],some (.int .i64),.int .i64⟩
abbrev t4:TI:=⟨false,1,[.d .bool false],some (.bool),.bool⟩
abbrev t5:TI:=⟨false,1,[.d (.int .u8) (0:Int)],some (.int .u8),.int .u8⟩
abbrev t7:TI:=⟨true,4,[.d (.int .i64) (0:Int),.d (.int .i64) (0:Int),.d .bool false,.d (.int .u8) (0:Int)],some (.pair (.int .i64) (.pair (.int .i64) (.pair (.bool) (.int .u8)))),.other⟩
abbrev t9:TI:=⟨false,1,[.d .str ([]:List UInt8)],some (.str),.str⟩
abbrev t12:TI:=⟨false,1,[.d (.int .u64) (0:Int)],some (.int .u64),.int .u64⟩
abbrev t13:TI:=⟨true,2,[.d .str ([]:List UInt8),.d (.int .u64) (0:Int)],some (.pair (.str) (.int .u64)),.struct [(0,9,1),(1,12,1)]⟩
abbrev t15:TI:=⟨false,1,[.l .nilP],none,.ptr 280⟩
abbrev t16:TI:=⟨false,1,[.l .nilP],none,.ptr 283⟩
abbrev t17:TI:=⟨false,1,[.l .nilP],none,.ptr 290⟩
abbrev t18:TI:=⟨true,1,[.l .nilP],none,.struct [(0,17,1)]⟩
abbrev t20:TI:=⟨false,1,[.l .nilI],none,.ifc⟩
abbrev t21:TI:=⟨false,1,[.d (.int .i32) (0:Int)],some (.int .i32),.int .i32⟩
abbrev t22:TI:=⟨false,1,[.l .nilS],some (.list (.pair (.int .i64) (.pair (.int .i64) (.pair (.int .i64) (.pair (.int .i64) (.pair (.int .i64) (.int .i64))))))),.slice 69 48⟩
abbrev t23:TI:=⟨false,1,[.l .nilS],some (.list (.int .i64)),.slice 3 8⟩
abbrev t25:TI:=⟨false,1,[.l .nilS],some (.list (vD)),.slice 42 88⟩
abbrev t27:TI:=⟨true,1,[.l .nilS],some (.one (.list (vD))),.struct [(0,25,1)]⟩
abbrev t28:TI:=⟨true,1,[.l .nilS],some (ty_api_Archive),.struct [(0,25,1)]⟩
abbrev t30:TI:=⟨false,1,[.l .nilP],none,.ptr 77⟩
abbrev t31:TI:=⟨false,1,[.d (.int .i64) (0:Int)],some (.int .i64),.int .i64⟩
abbrev t34:TI:=⟨false,1,[.l .nilP],none,.ptr 85⟩
abbrev t41:TI:=⟨true,9,[.d (.int .i64) (0:Int),.d (.int .i64) (0:Int),.d (.int .i64) (0:Int),.d (.int .i64) (0:Int),.d (.int .i64) (0:Int),.d (.int .i64) (0:Int),.d (.int .i64) (0:Int),.d .str ([]:List UInt8),.d .str ([]:List UInt8)],some (.pair (.int .i64) (.pair (.int .i64) (.pair (.int .i64) (.pair (.int .i64) (.pair (.int .i64) (.pair (.int .i64) (.pair (.int .i64) (.pair (.str) (.str))))))))),.struct [(0,3,1),(1,3,1),(2,3,1),(3,3,1),(4,3,1),(5,3,1),(6,3,1),(7,9,1),(8,9,1)]⟩
abbrev t42:TI:=⟨true,9,[.d (.int .i64) (0:Int),.d (.int .i64) (0:Int),.d (.int .i64) (0:Int),.d (.int .i64) (0:Int),.d (.int .i64) (0:Int),.d (.int .i64) (0:Int),.d (.int .i64) (0:Int),.d .str ([]:List UInt8),.d .str ([]:List UInt8)],some (vD),.struct [(0,3,1),(1,3,1),(2,3,1),(3,3,1),(4,3,1),(5,3,1),(6,3,1),(7,9,1),(8,9,1)]⟩
abbrev t44:TI:=⟨false,1,[.l .nilS],some (.list (.str)),.slice 9 16⟩
abbrev t62:TI:=⟨false,1,[.l .nilS],some (.list (.pair (.int .i64) (.int .i64))),.slice 64 16⟩
abbrev t64:TI:=⟨true,2,[.d (.int .i64) (0:Int),.d (.int .i64) (0:Int)],some (.pair (.int .i64) (.int .i64)),.array 2 3⟩
abbrev t69:TI:=⟨true,6,[.d (.int .i64) (0:Int),.d (.int .i64) (0:Int),.d (.int .i64) (0:Int),.d (.int .i64) (0:Int),.d (.int .i64) (0:Int),.d (.int .i64) (0:Int)],some (.pair (.int .i64) (.pair (.int .i64) (.pair (.int .i64) (.pair (.int .i64) (.pair (.int .i64) (.int .i64)))))),.array 6 3⟩
abbrev t72:TI:=⟨false,1,[.l .nilS],some (.list (.int .u8)),.slice 5 1⟩
abbrev t73:TI:=⟨true,2,[.d .bool false,.d (.int .i64) (0:Int)],some (.pair (.bool) (.int .i64)),.struct [(0,4,1),(1,3,1)]⟩
abbrev t74:TI:=⟨true,2,[.d .bool false,.d (.int .i64) (0:Int)],some (jH),.struct [(0,4,1),(1,3,1)]⟩
abbrev t75:TI:=⟨false,1,[.l .nilS],some (.list (lF)),.slice 110 24⟩
abbrev t76:TI:=⟨true,5,[.d .bool false,.d (.int .i64) (0:Int),.l .nilS,.l .nilS,.l .nilS],some (.pair (jH) (.pair (.list (.int .u8)) (.pair (.list (.int .u8)) (.list (lF))))),.struct [(0,74,2),(2,72,1),(3,72,1),(4,75,1)]⟩
abbrev t77:TI:=⟨true,5,[.d .bool false,.d (.int .i64) (0:Int),.l .nilS,.l .nilS,.l .nilS],some (ty_disk_Disk),.struct [(0,74,2),(2,72,1),(3,72,1),(4,75,1)]⟩
abbrev t82:TI:=⟨true,3,[.l .nilS,.d .str ([]:List UInt8),.d (.int .i64) (0:Int)],some (.pair (.list (.str)) (.pair (.str) (.int .i64))),.struct [(0,44,1),(1,9,1),(2,3,1)]⟩
abbrev t83:TI:=⟨true,3,[.l .nilS,.d .str ([]:List UInt8),.d (.int .i64) (0:Int)],some (ty_journal_tape),.struct [(0,44,1),(1,9,1),(2,3,1)]⟩
abbrev t84:TI:=⟨true,5,[.l .nilS,.d .str ([]:List UInt8),.d (.int .i64) (0:Int),.l .nilP,.d .bool false],none,.struct [(0,83,3),(3,30,1),(4,4,1)]⟩
abbrev t85:TI:=⟨true,5,[.l .nilS,.d .str ([]:List UInt8),.d (.int .i64) (0:Int),.l .nilP,.d .bool false],none,.struct [(0,83,3),(3,30,1),(4,4,1)]⟩
abbrev t94:TI:=⟨false,1,[.l .nilP],none,.ptr 96⟩
abbrev t95:TI:=⟨true,2,[.l .nilP,.l .nilS],none,.struct [(0,94,1),(1,72,1)]⟩
abbrev t97:TI:=⟨false,1,[.l .nilI],none,.ifc⟩
abbrev t98:TI:=⟨false,1,[.l .nilI],none,.ifc⟩
abbrev t109:TI:=⟨true,2,[.d (.int .i64) (0:Int),.d .str ([]:List UInt8)],some (.pair (.int .i64) (.str)),.struct [(0,3,1),(1,9,1)]⟩
abbrev t110:TI:=⟨true,2,[.d (.int .i64) (0:Int),.d .str ([]:List UInt8)],some (lF),.struct [(0,3,1),(1,9,1)]⟩
abbrev t125:TI:=⟨false,1,[.l .nilS],some (.list (.bool)),.slice 4 1⟩
abbrev t126:TI:=⟨true,100,[.d .bool false,.d .bool false,.d .bool false,.d .bool false,.d .bool false,.d .bool false,.d .bool false,.d .bool false,.d .bool false,.d .bool false,.d .bool false,.d .bool false,.d .bool false,.d .bool false,.d .bool false,.d .bool false,.d .bool false,.d .bool false,.d .bool false,.d .bool false,.d .bool false,.d .bool false,.d .bool false,.d .bool false,.d .bool false,.d .bool false,.d .bool false,.d .bool false,.d .bool false,.d .bool false,.d .bool false,.d .bool false,.d .bool false,.d .bool false,.d .bool false,.d .bool false,.d .bool false,.d .bool false,.d .bool false,.d .bool false,.d .bool false,.d .bool false,.d .bool false,.d .bool false,.d .bool false,.d .bool false,.d .bool false,.d .bool false,.d .bool false,.d .bool false,.d .bool false,.d .bool false,.d .bool false,.d .bool false,.d .bool false,.d .bool false,.d .bool false,.d .bool false,.d .bool false,.d .bool false,.d .bool false,.d .bool false,.d .bool false,.d .bool false,.d .bool false,.d .bool false,.d .bool false,.d .bool false,.d .bool false,.d .bool false,.d .bool false,.d .bool false,.d .bool false,.d .bool false,.d .bool false,.d .bool false,.d .bool false,.d .bool false,.d .bool false,.d .bool false,.d .bool false,.d .bool false,.d .bool false,.d .bool false,.d .bool false,.d .bool false,.d .bool false,.d .bool false,.d .bool false,.d .bool false,.d .bool false,.d .bool false,.d .bool false,.d .bool false,.d .bool false,.d .bool false,.d .bool false,.d .bool false,.d .bool false,.d .bool false],none,.array 100 4⟩
abbrev t143:TI:=⟨false,1,[.l .nilS],none,.slice 87 8⟩
abbrev t151:TI:=⟨false,1,[.l .nilP],none,.ptr 83⟩
abbrev t157:TI:=⟨true,0,[],none,.struct []⟩
abbrev t159:TI:=⟨false,1,[.l .nilP],none,.ptr 161⟩
abbrev t160:TI:=⟨true,2,[.d .str ([]:List UInt8),.d (.int .i64) (0:Int)],some (.pair (.str) (.int .i64)),.struct [(0,9,1),(1,3,1)]⟩
abbrev t161:TI:=⟨true,2,[.d .str ([]:List UInt8),.d (.int .i64) (0:Int)],some (ty_archive_reader),.struct [(0,9,1),(1,3,1)]⟩
abbrev t162:TI:=⟨false,1,[.l .nilP],none,.ptr 3⟩
abbrev t163:TI:=⟨false,1,[.l .nilS],none,.slice 162 8⟩
abbrev t164:TI:=⟨false,1,[.l .nilS],some (.list (.list (vD))),.slice 25 24⟩
abbrev t167:TI:=⟨false,1,[.d (.int .u64) (0:Int)],some (.int .u64),.int .u64⟩
abbrev t177:TI:=⟨false,1,[.d (.int .u32) (0:Int)],some (.int .u32),.int .u32⟩
abbrev t178:TI:=⟨false,1,[.l .nilS],some (.list (.int .u32)),.slice 177 4⟩
abbrev t194:TI:=⟨false,1,[.l .nilP],none,.ptr 147⟩
abbrev t207:TI:=⟨true,8,[.d (.int .u32) (0:Int),.d (.int .u32) (0:Int),.d (.int .u32) (0:Int),.d (.int .u32) (0:Int),.d (.int .u32) (0:Int),.d (.int .u32) (0:Int),.d (.int .u32) (0:Int),.d (.int .u32) (0:Int)],some (.pair (.int .u32) (.pair (.int .u32) (.pair (.int .u32) (.pair (.int .u32) (.pair (.int .u32) (.pair (.int .u32) (.pair (.int .u32) (.int .u32)))))))),.array 8 177⟩
abbrev t208:TI:=⟨true,8,[.d (.int .u32) (0:Int),.d (.int .u32) (0:Int),.d (.int .u32) (0:Int),.d (.int .u32) (0:Int),.d (.int .u32) (0:Int),.d (.int .u32) (0:Int),.d (.int .u32) (0:Int),.d (.int .u32) (0:Int)],some (.pair (.int .u32) (.pair (.int .u32) (.pair (.int .u32) (.pair (.int .u32) (.pair (.int .u32) (.pair (.int .u32) (.pair (.int .u32) (.int .u32)))))))),.array 8 177⟩
abbrev t214:TI:=⟨false,1,[.d (.int .i64) (0:Int)],some (.int .i64),.int .i64⟩
abbrev t222:TI:=⟨false,1,[.d (.int .u64) (0:Int)],some (.int .u64),.int .u64⟩
abbrev t238:TI:=⟨false,1,[.l .nilP],none,.ptr 74⟩
abbrev t252:TI:=⟨false,1,[.l .nilP],none,.ptr 208⟩
abbrev t253:TI:=⟨true,64,[.d (.int .u32) (0:Int),.d (.int .u32) (0:Int),.d (.int .u32) (0:Int),.d (.int .u32) (0:Int),.d (.int .u32) (0:Int),.d (.int .u32) (0:Int),.d (.int .u32) (0:Int),.d (.int .u32) (0:Int),.d (.int .u32) (0:Int),.d (.int .u32) (0:Int),.d (.int .u32) (0:Int),.d (.int .u32) (0:Int),.d (.int .u32) (0:Int),.d (.int .u32) (0:Int),.d (.int .u32) (0:Int),.d (.int .u32) (0:Int),.d (.int .u32) (0:Int),.d (.int .u32) (0:Int),.d (.int .u32) (0:Int),.d (.int .u32) (0:Int),.d (.int .u32) (0:Int),.d (.int .u32) (0:Int),.d (.int .u32) (0:Int),.d (.int .u32) (0:Int),.d (.int .u32) (0:Int),.d (.int .u32) (0:Int),.d (.int .u32) (0:Int),.d (.int .u32) (0:Int),.d (.int .u32) (0:Int),.d (.int .u32) (0:Int),.d (.int .u32) (0:Int),.d (.int .u32) (0:Int),.d (.int .u32) (0:Int),.d (.int .u32) (0:Int),.d (.int .u32) (0:Int),.d (.int .u32) (0:Int),.d (.int .u32) (0:Int),.d (.int .u32) (0:Int),.d (.int .u32) (0:Int),.d (.int .u32) (0:Int),.d (.int .u32) (0:Int),.d (.int .u32) (0:Int),.d (.int .u32) (0:Int),.d (.int .u32) (0:Int),.d (.int .u32) (0:Int),.d (.int .u32) (0:Int),.d (.int .u32) (0:Int),.d (.int .u32) (0:Int),.d (.int .u32) (0:Int),.d (.int .u32) (0:Int),.d (.int .u32) (0:Int),.d (.int .u32) (0:Int),.d (.int .u32) (0:Int),.d (.int .u32) (0:Int),.d (.int .u32) (0:Int),.d (.int .u32) (0:Int),.d (.int .u32) (0:Int),.d (.int .u32) (0:Int),.d (.int .u32) (0:Int),.d (.int .u32) (0:Int),.d (.int .u32) (0:Int),.d (.int .u32) (0:Int),.d (.int .u32) (0:Int),.d (.int .u32) (0:Int)],none,.array 64 177⟩
abbrev t256:TI:=⟨true,32,[.d (.int .u8) (0:Int),.d (.int .u8) (0:Int),.d (.int .u8) (0:Int),.d (.int .u8) (0:Int),.d (.int .u8) (0:Int),.d (.int .u8) (0:Int),.d (.int .u8) (0:Int),.d (.int .u8) (0:Int),.d (.int .u8) (0:Int),.d (.int .u8) (0:Int),.d (.int .u8) (0:Int),.d (.int .u8) (0:Int),.d (.int .u8) (0:Int),.d (.int .u8) (0:Int),.d (.int .u8) (0:Int),.d (.int .u8) (0:Int),.d (.int .u8) (0:Int),.d (.int .u8) (0:Int),.d (.int .u8) (0:Int),.d (.int .u8) (0:Int),.d (.int .u8) (0:Int),.d (.int .u8) (0:Int),.d (.int .u8) (0:Int),.d (.int .u8) (0:Int),.d (.int .u8) (0:Int),.d (.int .u8) (0:Int),.d (.int .u8) (0:Int),.d (.int .u8) (0:Int),.d (.int .u8) (0:Int),.d (.int .u8) (0:Int),.d (.int .u8) (0:Int),.d (.int .u8) (0:Int)],none,.array 32 5⟩
abbrev t257:TI:=⟨false,1,[.d (.int .u64) (0:Int)],some (.int .u64),.int .u64⟩
abbrev t274:TI:=⟨false,1,[.l .nilP],none,.ptr 257⟩
def tyTab:List (TypeId×TI):=[(1,tF),(2,t2),(3,t3),(4,t4),(5,t5),(7,t7),(9,t9),(12,t12),(13,t13),(15,t15),(16,t16),(17,t17),(18,t18),(20,t20),(21,t21),(22,t22),(23,t23),(25,t25),(27,t27),(28,t28),(30,t30),(31,t31),(34,t34),(41,t41),(42,t42),(44,t44),(62,t62),(64,t64),(69,t69),(72,t72),(73,t73),(74,t74),(75,t75),(76,t76),(77,t77),(82,t82),(83,t83),(84,t84),(85,t85),(87,tF),(89,tF),(91,tF),(94,t94),(95,t95),(97,t97),(98,t98),(105,tF),(108,tF),(109,t109),(110,t110),(121,tF),(123,tF),(125,t125),(126,t126),(128,tF),(143,t143),(151,t151),(157,t157),(159,t159),(160,t160),(161,t161),(162,t162),(163,t163),(164,t164),(167,t167),(170,tF),(173,tF),(177,t177),(178,t178),(194,t194),(207,t207),(208,t208),(210,tF),(212,tF),(214,t214),(222,t222),(238,t238),(240,tF),(251,tF),(252,t252),(253,t253),(256,t256),(257,t257),(270,tF),(274,t274),]
theorem ti2:TIok Tryz.prog 2 t2 :=
 ⟨Tryz.isAgg2,Tryz.sizeOf2,⟨_,Tryz.zeroValue2,⟨[Value.int IntKind.i64 0],rfl,fun S w η=>.cons (zi _) (.nil)⟩,(fun T h=>by cases h;rfl)⟩,(fun T h=>by cases h;exact ⟨rfl,rfl⟩),Tryz.runUnderlying2⟩
theorem ti3:TIok Tryz.prog 3 t3 :=
 ⟨Tryz.isAgg3,Tryz.sizeOf3,⟨_,Tryz.zeroValue3,⟨[Value.int IntKind.i64 0],rfl,fun S w η=>.cons (zi _) (.nil)⟩,(fun T h=>by cases h;rfl)⟩,(fun T h=>by cases h;exact ⟨rfl,rfl⟩),Tryz.runUnderlying3⟩
theorem ti4:TIok Tryz.prog 4 t4 :=
 ⟨Tryz.isAgg4,Tryz.sizeOf4,⟨_,Tryz.zeroValue4,⟨[Value.bool false],rfl,fun S w η=>.cons (zb) (.nil)⟩,(fun T h=>by cases h;rfl)⟩,(fun T h=>by cases h;exact ⟨rfl,rfl⟩),Tryz.runUnderlying4⟩
theorem ti5:TIok Tryz.prog 5 t5 :=
 ⟨Tryz.isAgg5,Tryz.sizeOf5,⟨_,Tryz.zeroValue5,⟨[Value.int IntKind.u8 0],rfl,fun S w η=>.cons (zi _) (.nil)⟩,(fun T h=>by cases h;rfl)⟩,(fun T h=>by cases h;exact ⟨rfl,rfl⟩),Tryz.runUnderlying5⟩
theorem ti7:TIok Tryz.prog 7 t7 :=
 ⟨Tryz.isAgg7,Tryz.sizeOf7,⟨_,Tryz.zeroValue7,⟨[Value.int IntKind.i64 0,Value.int IntKind.i64 0,Value.bool false,Value.int IntKind.u8 0],rfl,fun S w η=>.cons (zi _) (.cons (zi _) (.cons (zb) (.cons (zi _) (.nil))))⟩,(fun T h=>by cases h;rfl)⟩,(fun T h=>by cases h;exact ⟨rfl,rfl⟩),trivial⟩
theorem ti9:TIok Tryz.prog 9 t9 :=
 ⟨Tryz.isAgg9,Tryz.sizeOf9,⟨_,Tryz.zeroValue9,⟨[Value.string ⟨#[]⟩],rfl,fun S w η=>.cons (zs) (.nil)⟩,(fun T h=>by cases h;rfl)⟩,(fun T h=>by cases h;exact ⟨rfl,rfl⟩),Tryz.runUnderlying9⟩
theorem ti12:TIok Tryz.prog 12 t12 :=
 ⟨Tryz.isAgg12,Tryz.sizeOf12,⟨_,Tryz.zeroValue12,⟨[Value.int IntKind.u64 0],rfl,fun S w η=>.cons (zi _) (.nil)⟩,(fun T h=>by cases h;rfl)⟩,(fun T h=>by cases h;exact ⟨rfl,rfl⟩),Tryz.runUnderlying12⟩
theorem ti13:TIok Tryz.prog 13 t13 :=
 ⟨Tryz.isAgg13,Tryz.sizeOf13,⟨_,Tryz.zeroValue13,⟨[Value.string ⟨#[]⟩,Value.int IntKind.u64 0],rfl,fun S w η=>.cons (zs) (.cons (zi _) (.nil))⟩,(fun T h=>by cases h;rfl)⟩,(fun T h=>by cases h;exact ⟨rfl,rfl⟩),⟨_,Tryz.runUnderlying13,rfl,fun w=>by simp [Tryz.sizeOf12,Tryz.sizeOf9]⟩⟩
theorem ti15:TIok Tryz.prog 15 t15 :=
 ⟨Tryz.isAgg15,Tryz.sizeOf15,⟨_,Tryz.zeroValue15,⟨[Value.pointer none],rfl,fun S w η=>.cons (rfl) (.nil)⟩,(fun T h=>by cases h)⟩,(fun T h=>by cases h),Tryz.runUnderlying15⟩
theorem ti16:TIok Tryz.prog 16 t16 :=
 ⟨Tryz.isAgg16,Tryz.sizeOf16,⟨_,Tryz.zeroValue16,⟨[Value.pointer none],rfl,fun S w η=>.cons (rfl) (.nil)⟩,(fun T h=>by cases h)⟩,(fun T h=>by cases h),Tryz.runUnderlying16⟩
theorem ti17:TIok Tryz.prog 17 t17 :=
 ⟨Tryz.isAgg17,Tryz.sizeOf17,⟨_,Tryz.zeroValue17,⟨[Value.pointer none],rfl,fun S w η=>.cons (rfl) (.nil)⟩,(fun T h=>by cases h)⟩,(fun T h=>by cases h),Tryz.runUnderlying17⟩
theorem ti18:TIok Tryz.prog 18 t18 :=
 ⟨Tryz.isAgg18,Tryz.sizeOf18,⟨_,Tryz.zeroValue18,⟨[Value.pointer none],rfl,fun S w η=>.cons (rfl) (.nil)⟩,(fun T h=>by cases h)⟩,(fun T h=>by cases h),⟨_,Tryz.runUnderlying18,rfl,fun w=>by simp [Tryz.sizeOf17]⟩⟩
theorem ti20:TIok Tryz.prog 20 t20 :=
 ⟨Tryz.isAgg20,Tryz.sizeOf20,⟨_,Tryz.zeroValue20,⟨[Value.nilIface],rfl,fun S w η=>.cons (rfl) (.nil)⟩,(fun T h=>by cases h)⟩,(fun T h=>by cases h),⟨_,Tryz.runUnderlying20⟩⟩
theorem ti21:TIok Tryz.prog 21 t21 :=
 ⟨Tryz.isAgg21,Tryz.sizeOf21,⟨_,Tryz.zeroValue21,⟨[Value.int IntKind.i32 0],rfl,fun S w η=>.cons (zi _) (.nil)⟩,(fun T h=>by cases h;rfl)⟩,(fun T h=>by cases h;exact ⟨rfl,rfl⟩),Tryz.runUnderlying21⟩
theorem ti22:TIok Tryz.prog 22 t22 :=
 ⟨Tryz.isAgg22,Tryz.sizeOf22,⟨_,Tryz.zeroValue22,⟨[Value.slice none 0 0],rfl,fun S w η=>.cons (rfl) (.nil)⟩,(fun T h=>by cases h;rfl)⟩,(fun T h=>by cases h;exact ⟨rfl,rfl⟩),⟨Tryz.underlying22,by decide,Tryz.t69,_,rfl,rfl,rfl,Tryz.zeroValue69,Tryz.sizeOf69⟩⟩
theorem ti23:TIok Tryz.prog 23 t23 :=
 ⟨Tryz.isAgg23,Tryz.sizeOf23,⟨_,Tryz.zeroValue23,⟨[Value.slice none 0 0],rfl,fun S w η=>.cons (rfl) (.nil)⟩,(fun T h=>by cases h;rfl)⟩,(fun T h=>by cases h;exact ⟨rfl,rfl⟩),⟨Tryz.underlying23,by decide,Tryz.t3,_,rfl,rfl,rfl,Tryz.zeroValue3,Tryz.sizeOf3⟩⟩
theorem ti25:TIok Tryz.prog 25 t25 :=
 ⟨Tryz.isAgg25,Tryz.sizeOf25,⟨_,Tryz.zeroValue25,⟨[Value.slice none 0 0],rfl,fun S w η=>.cons (rfl) (.nil)⟩,(fun T h=>by cases h;rfl)⟩,(fun T h=>by cases h;exact ⟨rfl,rfl⟩),⟨Tryz.underlying25,by decide,Tryz.t42,_,rfl,rfl,rfl,Tryz.zeroValue42,Tryz.sizeOf42⟩⟩
theorem ti27:TIok Tryz.prog 27 t27 :=
 ⟨Tryz.isAgg27,Tryz.sizeOf27,⟨_,Tryz.zeroValue27,⟨[Value.slice none 0 0],rfl,fun S w η=>.cons (rfl) (.nil)⟩,(fun T h=>by cases h;rfl)⟩,(fun T h=>by cases h;exact ⟨rfl,rfl⟩),⟨_,Tryz.runUnderlying27,rfl,fun w=>by simp [Tryz.sizeOf25]⟩⟩
theorem ti28:TIok Tryz.prog 28 t28 :=
 ⟨Tryz.isAgg28,Tryz.sizeOf28,⟨_,Tryz.zeroValue28,⟨[Value.slice none 0 0],rfl,fun S w η=>.cons (rfl) (.nil)⟩,(fun T h=>by cases h;rfl)⟩,(fun T h=>by cases h;exact ⟨rfl,rfl⟩),⟨_,Tryz.runUnderlying28,rfl,fun w=>by simp [Tryz.sizeOf25]⟩⟩
theorem ti30:TIok Tryz.prog 30 t30 :=
 ⟨Tryz.isAgg30,Tryz.sizeOf30,⟨_,Tryz.zeroValue30,⟨[Value.pointer none],rfl,fun S w η=>.cons (rfl) (.nil)⟩,(fun T h=>by cases h)⟩,(fun T h=>by cases h),Tryz.runUnderlying30⟩
theorem ti31:TIok Tryz.prog 31 t31 :=
 ⟨Tryz.isAgg31,Tryz.sizeOf31,⟨_,Tryz.zeroValue31,⟨[Value.int IntKind.i64 0],rfl,fun S w η=>.cons (zi _) (.nil)⟩,(fun T h=>by cases h;rfl)⟩,(fun T h=>by cases h;exact ⟨rfl,rfl⟩),Tryz.runUnderlying31⟩
theorem ti34:TIok Tryz.prog 34 t34 :=
 ⟨Tryz.isAgg34,Tryz.sizeOf34,⟨_,Tryz.zeroValue34,⟨[Value.pointer none],rfl,fun S w η=>.cons (rfl) (.nil)⟩,(fun T h=>by cases h)⟩,(fun T h=>by cases h),Tryz.runUnderlying34⟩
theorem ti41:TIok Tryz.prog 41 t41 :=
 ⟨Tryz.isAgg41,Tryz.sizeOf41,⟨_,Tryz.zeroValue41,⟨[Value.int IntKind.i64 0,Value.int IntKind.i64 0,Value.int IntKind.i64 0,Value.int IntKind.i64 0,Value.int IntKind.i64 0,Value.int IntKind.i64 0,Value.int IntKind.i64 0,Value.string ⟨#[]⟩,Value.string ⟨#[]⟩],rfl,fun S w η=>.cons (zi _) (.cons (zi _) (.cons (zi _) (.cons (zi _) (.cons (zi _) (.cons (zi _) (.cons (zi _) (.cons (zs) (.cons (zs) (.nil)))))))))⟩,(fun T h=>by cases h;rfl)⟩,(fun T h=>by cases h;exact ⟨rfl,rfl⟩),⟨_,Tryz.runUnderlying41,rfl,fun w=>by simp [Tryz.sizeOf3,Tryz.sizeOf9]⟩⟩
theorem ti42:TIok Tryz.prog 42 t42 :=
 ⟨Tryz.isAgg42,Tryz.sizeOf42,⟨_,Tryz.zeroValue42,⟨[Value.int IntKind.i64 0,Value.int IntKind.i64 0,Value.int IntKind.i64 0,Value.int IntKind.i64 0,Value.int IntKind.i64 0,Value.int IntKind.i64 0,Value.int IntKind.i64 0,Value.string ⟨#[]⟩,Value.string ⟨#[]⟩],rfl,fun S w η=>.cons (zi _) (.cons (zi _) (.cons (zi _) (.cons (zi _) (.cons (zi _) (.cons (zi _) (.cons (zi _) (.cons (zs) (.cons (zs) (.nil)))))))))⟩,(fun T h=>by cases h;rfl)⟩,(fun T h=>by cases h;exact ⟨rfl,rfl⟩),⟨_,Tryz.runUnderlying42,rfl,fun w=>by simp [Tryz.sizeOf3,Tryz.sizeOf9]⟩⟩
theorem ti44:TIok Tryz.prog 44 t44 :=
 ⟨Tryz.isAgg44,Tryz.sizeOf44,⟨_,Tryz.zeroValue44,⟨[Value.slice none 0 0],rfl,fun S w η=>.cons (rfl) (.nil)⟩,(fun T h=>by cases h;rfl)⟩,(fun T h=>by cases h;exact ⟨rfl,rfl⟩),⟨Tryz.underlying44,by decide,Tryz.t9,_,rfl,rfl,rfl,Tryz.zeroValue9,Tryz.sizeOf9⟩⟩
theorem ti62:TIok Tryz.prog 62 t62 :=
 ⟨Tryz.isAgg62,Tryz.sizeOf62,⟨_,Tryz.zeroValue62,⟨[Value.slice none 0 0],rfl,fun S w η=>.cons (rfl) (.nil)⟩,(fun T h=>by cases h;rfl)⟩,(fun T h=>by cases h;exact ⟨rfl,rfl⟩),⟨Tryz.underlying62,by decide,Tryz.t64,_,rfl,rfl,rfl,Tryz.zeroValue64,Tryz.sizeOf64⟩⟩
theorem ti64:TIok Tryz.prog 64 t64 :=
 ⟨Tryz.isAgg64,Tryz.sizeOf64,⟨_,Tryz.zeroValue64,⟨[Value.int IntKind.i64 0,Value.int IntKind.i64 0],rfl,fun S w η=>.cons (zi _) (.cons (zi _) (.nil))⟩,(fun T h=>by cases h;rfl)⟩,(fun T h=>by cases h;exact ⟨rfl,rfl⟩),Tryz.runUnderlying64⟩
theorem ti69:TIok Tryz.prog 69 t69 :=
 ⟨Tryz.isAgg69,Tryz.sizeOf69,⟨_,Tryz.zeroValue69,⟨[Value.int IntKind.i64 0,Value.int IntKind.i64 0,Value.int IntKind.i64 0,Value.int IntKind.i64 0,Value.int IntKind.i64 0,Value.int IntKind.i64 0],rfl,fun S w η=>.cons (zi _) (.cons (zi _) (.cons (zi _) (.cons (zi _) (.cons (zi _) (.cons (zi _) (.nil))))))⟩,(fun T h=>by cases h;rfl)⟩,(fun T h=>by cases h;exact ⟨rfl,rfl⟩),Tryz.runUnderlying69⟩
theorem ti72:TIok Tryz.prog 72 t72 :=
 ⟨Tryz.isAgg72,Tryz.sizeOf72,⟨_,Tryz.zeroValue72,⟨[Value.slice none 0 0],rfl,fun S w η=>.cons (rfl) (.nil)⟩,(fun T h=>by cases h;rfl)⟩,(fun T h=>by cases h;exact ⟨rfl,rfl⟩),⟨Tryz.underlying72,by decide,Tryz.t5,_,rfl,rfl,rfl,Tryz.zeroValue5,Tryz.sizeOf5⟩⟩
theorem ti73:TIok Tryz.prog 73 t73 :=
 ⟨Tryz.isAgg73,Tryz.sizeOf73,⟨_,Tryz.zeroValue73,⟨[Value.bool false,Value.int IntKind.i64 0],rfl,fun S w η=>.cons (zb) (.cons (zi _) (.nil))⟩,(fun T h=>by cases h;rfl)⟩,(fun T h=>by cases h;exact ⟨rfl,rfl⟩),⟨_,Tryz.runUnderlying73,rfl,fun w=>by simp [Tryz.sizeOf3,Tryz.sizeOf4]⟩⟩
theorem ti74:TIok Tryz.prog 74 t74 :=
 ⟨Tryz.isAgg74,Tryz.sizeOf74,⟨_,Tryz.zeroValue74,⟨[Value.bool false,Value.int IntKind.i64 0],rfl,fun S w η=>.cons (zb) (.cons (zi _) (.nil))⟩,(fun T h=>by cases h;rfl)⟩,(fun T h=>by cases h;exact ⟨rfl,rfl⟩),⟨_,Tryz.runUnderlying74,rfl,fun w=>by simp [Tryz.sizeOf3,Tryz.sizeOf4]⟩⟩
theorem ti75:TIok Tryz.prog 75 t75 :=
 ⟨Tryz.isAgg75,Tryz.sizeOf75,⟨_,Tryz.zeroValue75,⟨[Value.slice none 0 0],rfl,fun S w η=>.cons (rfl) (.nil)⟩,(fun T h=>by cases h;rfl)⟩,(fun T h=>by cases h;exact ⟨rfl,rfl⟩),⟨Tryz.underlying75,by decide,Tryz.t110,_,rfl,rfl,rfl,Tryz.zeroValue110,Tryz.sizeOf110⟩⟩
theorem ti76:TIok Tryz.prog 76 t76 :=
 ⟨Tryz.isAgg76,Tryz.sizeOf76,⟨_,Tryz.zeroValue76,⟨[Value.bool false,Value.int IntKind.i64 0,Value.slice none 0 0,Value.slice none 0 0,Value.slice none 0 0],rfl,fun S w η=>.cons (zb) (.cons (zi _) (.cons (rfl) (.cons (rfl) (.cons (rfl) (.nil)))))⟩,(fun T h=>by cases h;rfl)⟩,(fun T h=>by cases h;exact ⟨rfl,rfl⟩),⟨_,Tryz.runUnderlying76,rfl,fun w=>by simp [Tryz.sizeOf72,Tryz.sizeOf74,Tryz.sizeOf75]⟩⟩
theorem ti77:TIok Tryz.prog 77 t77 :=
 ⟨Tryz.isAgg77,Tryz.sizeOf77,⟨_,Tryz.zeroValue77,⟨[Value.bool false,Value.int IntKind.i64 0,Value.slice none 0 0,Value.slice none 0 0,Value.slice none 0 0],rfl,fun S w η=>.cons (zb) (.cons (zi _) (.cons (rfl) (.cons (rfl) (.cons (rfl) (.nil)))))⟩,(fun T h=>by cases h;rfl)⟩,(fun T h=>by cases h;exact ⟨rfl,rfl⟩),⟨_,Tryz.runUnderlying77,rfl,fun w=>by simp [Tryz.sizeOf72,Tryz.sizeOf74,Tryz.sizeOf75]⟩⟩
theorem ti82:TIok Tryz.prog 82 t82 :=
 ⟨Tryz.isAgg82,Tryz.sizeOf82,⟨_,Tryz.zeroValue82,⟨[Value.slice none 0 0,Value.string ⟨#[]⟩,Value.int IntKind.i64 0],rfl,fun S w η=>.cons (rfl) (.cons (zs) (.cons (zi _) (.nil)))⟩,(fun T h=>by cases h;rfl)⟩,(fun T h=>by cases h;exact ⟨rfl,rfl⟩),⟨_,Tryz.runUnderlying82,rfl,fun w=>by simp [Tryz.sizeOf3,Tryz.sizeOf44,Tryz.sizeOf9]⟩⟩
theorem ti83:TIok Tryz.prog 83 t83 :=
 ⟨Tryz.isAgg83,Tryz.sizeOf83,⟨_,Tryz.zeroValue83,⟨[Value.slice none 0 0,Value.string ⟨#[]⟩,Value.int IntKind.i64 0],rfl,fun S w η=>.cons (rfl) (.cons (zs) (.cons (zi _) (.nil)))⟩,(fun T h=>by cases h;rfl)⟩,(fun T h=>by cases h;exact ⟨rfl,rfl⟩),⟨_,Tryz.runUnderlying83,rfl,fun w=>by simp [Tryz.sizeOf3,Tryz.sizeOf44,Tryz.sizeOf9]⟩⟩
theorem ti84:TIok Tryz.prog 84 t84 :=
 ⟨Tryz.isAgg84,Tryz.sizeOf84,⟨_,Tryz.zeroValue84,⟨[Value.slice none 0 0,Value.string ⟨#[]⟩,Value.int IntKind.i64 0,Value.pointer none,Value.bool false],rfl,fun S w η=>.cons (rfl) (.cons (zs) (.cons (zi _) (.cons (rfl) (.cons (zb) (.nil)))))⟩,(fun T h=>by cases h)⟩,(fun T h=>by cases h),⟨_,Tryz.runUnderlying84,rfl,fun w=>by simp [Tryz.sizeOf30,Tryz.sizeOf4,Tryz.sizeOf83]⟩⟩
theorem ti85:TIok Tryz.prog 85 t85 :=
 ⟨Tryz.isAgg85,Tryz.sizeOf85,⟨_,Tryz.zeroValue85,⟨[Value.slice none 0 0,Value.string ⟨#[]⟩,Value.int IntKind.i64 0,Value.pointer none,Value.bool false],rfl,fun S w η=>.cons (rfl) (.cons (zs) (.cons (zi _) (.cons (rfl) (.cons (zb) (.nil)))))⟩,(fun T h=>by cases h)⟩,(fun T h=>by cases h),⟨_,Tryz.runUnderlying85,rfl,fun w=>by simp [Tryz.sizeOf30,Tryz.sizeOf4,Tryz.sizeOf83]⟩⟩
theorem ti94:TIok Tryz.prog 94 t94 :=
 ⟨Tryz.isAgg94,Tryz.sizeOf94,⟨_,Tryz.zeroValue94,⟨[Value.pointer none],rfl,fun S w η=>.cons (rfl) (.nil)⟩,(fun T h=>by cases h)⟩,(fun T h=>by cases h),Tryz.runUnderlying94⟩
theorem ti95:TIok Tryz.prog 95 t95 :=
 ⟨Tryz.isAgg95,Tryz.sizeOf95,⟨_,Tryz.zeroValue95,⟨[Value.pointer none,Value.slice none 0 0],rfl,fun S w η=>.cons (rfl) (.cons (rfl) (.nil))⟩,(fun T h=>by cases h)⟩,(fun T h=>by cases h),⟨_,Tryz.runUnderlying95,rfl,fun w=>by simp [Tryz.sizeOf72,Tryz.sizeOf94]⟩⟩
theorem ti97:TIok Tryz.prog 97 t97 :=
 ⟨Tryz.isAgg97,Tryz.sizeOf97,⟨_,Tryz.zeroValue97,⟨[Value.nilIface],rfl,fun S w η=>.cons (rfl) (.nil)⟩,(fun T h=>by cases h)⟩,(fun T h=>by cases h),⟨_,Tryz.runUnderlying97⟩⟩
theorem ti98:TIok Tryz.prog 98 t98 :=
 ⟨Tryz.isAgg98,Tryz.sizeOf98,⟨_,Tryz.zeroValue98,⟨[Value.nilIface],rfl,fun S w η=>.cons (rfl) (.nil)⟩,(fun T h=>by cases h)⟩,(fun T h=>by cases h),⟨_,Tryz.runUnderlying98⟩⟩
theorem ti109:TIok Tryz.prog 109 t109 :=
 ⟨Tryz.isAgg109,Tryz.sizeOf109,⟨_,Tryz.zeroValue109,⟨[Value.int IntKind.i64 0,Value.string ⟨#[]⟩],rfl,fun S w η=>.cons (zi _) (.cons (zs) (.nil))⟩,(fun T h=>by cases h;rfl)⟩,(fun T h=>by cases h;exact ⟨rfl,rfl⟩),⟨_,Tryz.runUnderlying109,rfl,fun w=>by simp [Tryz.sizeOf3,Tryz.sizeOf9]⟩⟩
theorem ti110:TIok Tryz.prog 110 t110 :=
 ⟨Tryz.isAgg110,Tryz.sizeOf110,⟨_,Tryz.zeroValue110,⟨[Value.int IntKind.i64 0,Value.string ⟨#[]⟩],rfl,fun S w η=>.cons (zi _) (.cons (zs) (.nil))⟩,(fun T h=>by cases h;rfl)⟩,(fun T h=>by cases h;exact ⟨rfl,rfl⟩),⟨_,Tryz.runUnderlying110,rfl,fun w=>by simp [Tryz.sizeOf3,Tryz.sizeOf9]⟩⟩
theorem ti125:TIok Tryz.prog 125 t125 :=
 ⟨Tryz.isAgg125,Tryz.sizeOf125,⟨_,Tryz.zeroValue125,⟨[Value.slice none 0 0],rfl,fun S w η=>.cons (rfl) (.nil)⟩,(fun T h=>by cases h;rfl)⟩,(fun T h=>by cases h;exact ⟨rfl,rfl⟩),⟨Tryz.underlying125,by decide,Tryz.t4,_,rfl,rfl,rfl,Tryz.zeroValue4,Tryz.sizeOf4⟩⟩
theorem ti126:TIok Tryz.prog 126 t126 :=
 ⟨Tryz.isAgg126,Tryz.sizeOf126,⟨_,Tryz.zeroValue126,⟨[Value.bool false,Value.bool false,Value.bool false,Value.bool false,Value.bool false,Value.bool false,Value.bool false,Value.bool false,Value.bool false,Value.bool false,Value.bool false,Value.bool false,Value.bool false,Value.bool false,Value.bool false,Value.bool false,Value.bool false,Value.bool false,Value.bool false,Value.bool false,Value.bool false,Value.bool false,Value.bool false,Value.bool false,Value.bool false,Value.bool false,Value.bool false,Value.bool false,Value.bool false,Value.bool false,Value.bool false,Value.bool false,Value.bool false,Value.bool false,Value.bool false,Value.bool false,Value.bool false,Value.bool false,Value.bool false,Value.bool false,Value.bool false,Value.bool false,Value.bool false,Value.bool false,Value.bool false,Value.bool false,Value.bool false,Value.bool false,Value.bool false,Value.bool false,Value.bool false,Value.bool false,Value.bool false,Value.bool false,Value.bool false,Value.bool false,Value.bool false,Value.bool false,Value.bool false,Value.bool false,Value.bool false,Value.bool false,Value.bool false,Value.bool false,Value.bool false,Value.bool false,Value.bool false,Value.bool false,Value.bool false,Value.bool false,Value.bool false,Value.bool false,Value.bool false,Value.bool false,Value.bool false,Value.bool false,Value.bool false,Value.bool false,Value.bool false,Value.bool false,Value.bool false,Value.bool false,Value.bool false,Value.bool false,Value.bool false,Value.bool false,Value.bool false,Value.bool false,Value.bool false,Value.bool false,Value.bool false,Value.bool false,Value.bool false,Value.bool false,Value.bool false,Value.bool false,Value.bool false,Value.bool false,Value.bool false,Value.bool false],rfl,fun S w η=>.cons (zb) (.cons (zb) (.cons (zb) (.cons (zb) (.cons (zb) (.cons (zb) (.cons (zb) (.cons (zb) (.cons (zb) (.cons (zb) (.cons (zb) (.cons (zb) (.cons (zb) (.cons (zb) (.cons (zb) (.cons (zb) (.cons (zb) (.cons (zb) (.cons (zb) (.cons (zb) (.cons (zb) (.cons (zb) (.cons (zb) (.cons (zb) (.cons (zb) (.cons (zb) (.cons (zb) (.cons (zb) (.cons (zb) (.cons (zb) (.cons (zb) (.cons (zb) (.cons (zb) (.cons (zb) (.cons (zb) (.cons (zb) (.cons (zb) (.cons (zb) (.cons (zb) (.cons (zb) (.cons (zb) (.cons (zb) (.cons (zb) (.cons (zb) (.cons (zb) (.cons (zb) (.cons (zb) (.cons (zb) (.cons (zb) (.cons (zb) (.cons (zb) (.cons (zb) (.cons (zb) (.cons (zb) (.cons (zb) (.cons (zb) (.cons (zb) (.cons (zb) (.cons (zb) (.cons (zb) (.cons (zb) (.cons (zb) (.cons (zb) (.cons (zb) (.cons (zb) (.cons (zb) (.cons (zb) (.cons (zb) (.cons (zb) (.cons (zb) (.cons (zb) (.cons (zb) (.cons (zb) (.cons (zb) (.cons (zb) (.cons (zb) (.cons (zb) (.cons (zb) (.cons (zb) (.cons (zb) (.cons (zb) (.cons (zb) (.cons (zb) (.cons (zb) (.cons (zb) (.cons (zb) (.cons (zb) (.cons (zb) (.cons (zb) (.cons (zb) (.cons (zb) (.cons (zb) (.cons (zb) (.cons (zb) (.cons (zb) (.cons (zb) (.cons (zb) (.cons (zb) (.cons (zb) (.cons (zb) (.nil))))))))))))))))))))))))))))))))))))))))))))))))))))))))))))))))))))))))))))))))))))))))))))))))))))⟩,(fun T h=>by cases h)⟩,(fun T h=>by cases h),Tryz.runUnderlying126⟩
theorem ti143:TIok Tryz.prog 143 t143 :=
 ⟨Tryz.isAgg143,Tryz.sizeOf143,⟨_,Tryz.zeroValue143,⟨[Value.slice none 0 0],rfl,fun S w η=>.cons (rfl) (.nil)⟩,(fun T h=>by cases h)⟩,(fun T h=>by cases h),⟨Tryz.underlying143,by decide,Tryz.t87,_,rfl,rfl,rfl,Tryz.zeroValue87,Tryz.sizeOf87⟩⟩
theorem ti151:TIok Tryz.prog 151 t151 :=
 ⟨Tryz.isAgg151,Tryz.sizeOf151,⟨_,Tryz.zeroValue151,⟨[Value.pointer none],rfl,fun S w η=>.cons (rfl) (.nil)⟩,(fun T h=>by cases h)⟩,(fun T h=>by cases h),Tryz.runUnderlying151⟩
theorem ti157:TIok Tryz.prog 157 t157 :=
 ⟨Tryz.isAgg157,Tryz.sizeOf157,⟨_,Tryz.zeroValue157,⟨[],rfl,fun S w η=>.nil⟩,(fun T h=>by cases h)⟩,(fun T h=>by cases h),⟨_,Tryz.runUnderlying157,rfl,fun w=>by simp []⟩⟩
theorem ti159:TIok Tryz.prog 159 t159 :=
 ⟨Tryz.isAgg159,Tryz.sizeOf159,⟨_,Tryz.zeroValue159,⟨[Value.pointer none],rfl,fun S w η=>.cons (rfl) (.nil)⟩,(fun T h=>by cases h)⟩,(fun T h=>by cases h),Tryz.runUnderlying159⟩
theorem ti160:TIok Tryz.prog 160 t160 :=
 ⟨Tryz.isAgg160,Tryz.sizeOf160,⟨_,Tryz.zeroValue160,⟨[Value.string ⟨#[]⟩,Value.int IntKind.i64 0],rfl,fun S w η=>.cons (zs) (.cons (zi _) (.nil))⟩,(fun T h=>by cases h;rfl)⟩,(fun T h=>by cases h;exact ⟨rfl,rfl⟩),⟨_,Tryz.runUnderlying160,rfl,fun w=>by simp [Tryz.sizeOf3,Tryz.sizeOf9]⟩⟩
theorem ti161:TIok Tryz.prog 161 t161 :=
 ⟨Tryz.isAgg161,Tryz.sizeOf161,⟨_,Tryz.zeroValue161,⟨[Value.string ⟨#[]⟩,Value.int IntKind.i64 0],rfl,fun S w η=>.cons (zs) (.cons (zi _) (.nil))⟩,(fun T h=>by cases h;rfl)⟩,(fun T h=>by cases h;exact ⟨rfl,rfl⟩),⟨_,Tryz.runUnderlying161,rfl,fun w=>by simp [Tryz.sizeOf3,Tryz.sizeOf9]⟩⟩
theorem ti162:TIok Tryz.prog 162 t162 :=
 ⟨Tryz.isAgg162,Tryz.sizeOf162,⟨_,Tryz.zeroValue162,⟨[Value.pointer none],rfl,fun S w η=>.cons (rfl) (.nil)⟩,(fun T h=>by cases h)⟩,(fun T h=>by cases h),Tryz.runUnderlying162⟩
theorem ti163:TIok Tryz.prog 163 t163 :=
 ⟨Tryz.isAgg163,Tryz.sizeOf163,⟨_,Tryz.zeroValue163,⟨[Value.slice none 0 0],rfl,fun S w η=>.cons (rfl) (.nil)⟩,(fun T h=>by cases h)⟩,(fun T h=>by cases h),⟨Tryz.underlying163,by decide,Tryz.t162,_,rfl,rfl,rfl,Tryz.zeroValue162,Tryz.sizeOf162⟩⟩
theorem ti164:TIok Tryz.prog 164 t164 :=
 ⟨Tryz.isAgg164,Tryz.sizeOf164,⟨_,Tryz.zeroValue164,⟨[Value.slice none 0 0],rfl,fun S w η=>.cons (rfl) (.nil)⟩,(fun T h=>by cases h;rfl)⟩,(fun T h=>by cases h;exact ⟨rfl,rfl⟩),⟨Tryz.underlying164,by decide,Tryz.t25,_,rfl,rfl,rfl,Tryz.zeroValue25,Tryz.sizeOf25⟩⟩
theorem ti167:TIok Tryz.prog 167 t167 :=
 ⟨Tryz.isAgg167,Tryz.sizeOf167,⟨_,Tryz.zeroValue167,⟨[Value.int IntKind.u64 0],rfl,fun S w η=>.cons (zi _) (.nil)⟩,(fun T h=>by cases h;rfl)⟩,(fun T h=>by cases h;exact ⟨rfl,rfl⟩),Tryz.runUnderlying167⟩
theorem ti177:TIok Tryz.prog 177 t177 :=
 ⟨Tryz.isAgg177,Tryz.sizeOf177,⟨_,Tryz.zeroValue177,⟨[Value.int IntKind.u32 0],rfl,fun S w η=>.cons (zi _) (.nil)⟩,(fun T h=>by cases h;rfl)⟩,(fun T h=>by cases h;exact ⟨rfl,rfl⟩),Tryz.runUnderlying177⟩
theorem ti178:TIok Tryz.prog 178 t178 :=
 ⟨Tryz.isAgg178,Tryz.sizeOf178,⟨_,Tryz.zeroValue178,⟨[Value.slice none 0 0],rfl,fun S w η=>.cons (rfl) (.nil)⟩,(fun T h=>by cases h;rfl)⟩,(fun T h=>by cases h;exact ⟨rfl,rfl⟩),⟨Tryz.underlying178,by decide,Tryz.t177,_,rfl,rfl,rfl,Tryz.zeroValue177,Tryz.sizeOf177⟩⟩
theorem ti194:TIok Tryz.prog 194 t194 :=
 ⟨Tryz.isAgg194,Tryz.sizeOf194,⟨_,Tryz.zeroValue194,⟨[Value.pointer none],rfl,fun S w η=>.cons (rfl) (.nil)⟩,(fun T h=>by cases h)⟩,(fun T h=>by cases h),Tryz.runUnderlying194⟩
theorem ti207:TIok Tryz.prog 207 t207 :=
 ⟨Tryz.isAgg207,Tryz.sizeOf207,⟨_,Tryz.zeroValue207,⟨[Value.int IntKind.u32 0,Value.int IntKind.u32 0,Value.int IntKind.u32 0,Value.int IntKind.u32 0,Value.int IntKind.u32 0,Value.int IntKind.u32 0,Value.int IntKind.u32 0,Value.int IntKind.u32 0],rfl,fun S w η=>.cons (zi _) (.cons (zi _) (.cons (zi _) (.cons (zi _) (.cons (zi _) (.cons (zi _) (.cons (zi _) (.cons (zi _) (.nil))))))))⟩,(fun T h=>by cases h;rfl)⟩,(fun T h=>by cases h;exact ⟨rfl,rfl⟩),Tryz.runUnderlying207⟩
theorem ti208:TIok Tryz.prog 208 t208 :=
 ⟨Tryz.isAgg208,Tryz.sizeOf208,⟨_,Tryz.zeroValue208,⟨[Value.int IntKind.u32 0,Value.int IntKind.u32 0,Value.int IntKind.u32 0,Value.int IntKind.u32 0,Value.int IntKind.u32 0,Value.int IntKind.u32 0,Value.int IntKind.u32 0,Value.int IntKind.u32 0],rfl,fun S w η=>.cons (zi _) (.cons (zi _) (.cons (zi _) (.cons (zi _) (.cons (zi _) (.cons (zi _) (.cons (zi _) (.cons (zi _) (.nil))))))))⟩,(fun T h=>by cases h;rfl)⟩,(fun T h=>by cases h;exact ⟨rfl,rfl⟩),Tryz.runUnderlying208⟩
theorem ti214:TIok Tryz.prog 214 t214 :=
 ⟨Tryz.isAgg214,Tryz.sizeOf214,⟨_,Tryz.zeroValue214,⟨[Value.int IntKind.i64 0],rfl,fun S w η=>.cons (zi _) (.nil)⟩,(fun T h=>by cases h;rfl)⟩,(fun T h=>by cases h;exact ⟨rfl,rfl⟩),Tryz.runUnderlying214⟩
theorem ti222:TIok Tryz.prog 222 t222 :=
 ⟨Tryz.isAgg222,Tryz.sizeOf222,⟨_,Tryz.zeroValue222,⟨[Value.int IntKind.u64 0],rfl,fun S w η=>.cons (zi _) (.nil)⟩,(fun T h=>by cases h;rfl)⟩,(fun T h=>by cases h;exact ⟨rfl,rfl⟩),Tryz.runUnderlying222⟩
theorem ti238:TIok Tryz.prog 238 t238 :=
 ⟨Tryz.isAgg238,Tryz.sizeOf238,⟨_,Tryz.zeroValue238,⟨[Value.pointer none],rfl,fun S w η=>.cons (rfl) (.nil)⟩,(fun T h=>by cases h)⟩,(fun T h=>by cases h),Tryz.runUnderlying238⟩
theorem ti252:TIok Tryz.prog 252 t252 :=
 ⟨Tryz.isAgg252,Tryz.sizeOf252,⟨_,Tryz.zeroValue252,⟨[Value.pointer none],rfl,fun S w η=>.cons (rfl) (.nil)⟩,(fun T h=>by cases h)⟩,(fun T h=>by cases h),Tryz.runUnderlying252⟩
theorem ti253:TIok Tryz.prog 253 t253 :=
 ⟨Tryz.isAgg253,Tryz.sizeOf253,⟨_,Tryz.zeroValue253,⟨[Value.int IntKind.u32 0,Value.int IntKind.u32 0,Value.int IntKind.u32 0,Value.int IntKind.u32 0,Value.int IntKind.u32 0,Value.int IntKind.u32 0,Value.int IntKind.u32 0,Value.int IntKind.u32 0,Value.int IntKind.u32 0,Value.int IntKind.u32 0,Value.int IntKind.u32 0,Value.int IntKind.u32 0,Value.int IntKind.u32 0,Value.int IntKind.u32 0,Value.int IntKind.u32 0,Value.int IntKind.u32 0,Value.int IntKind.u32 0,Value.int IntKind.u32 0,Value.int IntKind.u32 0,Value.int IntKind.u32 0,Value.int IntKind.u32 0,Value.int IntKind.u32 0,Value.int IntKind.u32 0,Value.int IntKind.u32 0,Value.int IntKind.u32 0,Value.int IntKind.u32 0,Value.int IntKind.u32 0,Value.int IntKind.u32 0,Value.int IntKind.u32 0,Value.int IntKind.u32 0,Value.int IntKind.u32 0,Value.int IntKind.u32 0,Value.int IntKind.u32 0,Value.int IntKind.u32 0,Value.int IntKind.u32 0,Value.int IntKind.u32 0,Value.int IntKind.u32 0,Value.int IntKind.u32 0,Value.int IntKind.u32 0,Value.int IntKind.u32 0,Value.int IntKind.u32 0,Value.int IntKind.u32 0,Value.int IntKind.u32 0,Value.int IntKind.u32 0,Value.int IntKind.u32 0,Value.int IntKind.u32 0,Value.int IntKind.u32 0,Value.int IntKind.u32 0,Value.int IntKind.u32 0,Value.int IntKind.u32 0,Value.int IntKind.u32 0,Value.int IntKind.u32 0,Value.int IntKind.u32 0,Value.int IntKind.u32 0,Value.int IntKind.u32 0,Value.int IntKind.u32 0,Value.int IntKind.u32 0,Value.int IntKind.u32 0,Value.int IntKind.u32 0,Value.int IntKind.u32 0,Value.int IntKind.u32 0,Value.int IntKind.u32 0,Value.int IntKind.u32 0,Value.int IntKind.u32 0],rfl,fun S w η=>.cons (zi _) (.cons (zi _) (.cons (zi _) (.cons (zi _) (.cons (zi _) (.cons (zi _) (.cons (zi _) (.cons (zi _) (.cons (zi _) (.cons (zi _) (.cons (zi _) (.cons (zi _) (.cons (zi _) (.cons (zi _) (.cons (zi _) (.cons (zi _) (.cons (zi _) (.cons (zi _) (.cons (zi _) (.cons (zi _) (.cons (zi _) (.cons (zi _) (.cons (zi _) (.cons (zi _) (.cons (zi _) (.cons (zi _) (.cons (zi _) (.cons (zi _) (.cons (zi _) (.cons (zi _) (.cons (zi _) (.cons (zi _) (.cons (zi _) (.cons (zi _) (.cons (zi _) (.cons (zi _) (.cons (zi _) (.cons (zi _) (.cons (zi _) (.cons (zi _) (.cons (zi _) (.cons (zi _) (.cons (zi _) (.cons (zi _) (.cons (zi _) (.cons (zi _) (.cons (zi _) (.cons (zi _) (.cons (zi _) (.cons (zi _) (.cons (zi _) (.cons (zi _) (.cons (zi _) (.cons (zi _) (.cons (zi _) (.cons (zi _) (.cons (zi _) (.cons (zi _) (.cons (zi _) (.cons (zi _) (.cons (zi _) (.cons (zi _) (.cons (zi _) (.cons (zi _) (.nil))))))))))))))))))))))))))))))))))))))))))))))))))))))))))))))))⟩,(fun T h=>by cases h)⟩,(fun T h=>by cases h),Tryz.runUnderlying253⟩
theorem ti256:TIok Tryz.prog 256 t256 :=
 ⟨Tryz.isAgg256,Tryz.sizeOf256,⟨_,Tryz.zeroValue256,⟨[Value.int IntKind.u8 0,Value.int IntKind.u8 0,Value.int IntKind.u8 0,Value.int IntKind.u8 0,Value.int IntKind.u8 0,Value.int IntKind.u8 0,Value.int IntKind.u8 0,Value.int IntKind.u8 0,Value.int IntKind.u8 0,Value.int IntKind.u8 0,Value.int IntKind.u8 0,Value.int IntKind.u8 0,Value.int IntKind.u8 0,Value.int IntKind.u8 0,Value.int IntKind.u8 0,Value.int IntKind.u8 0,Value.int IntKind.u8 0,Value.int IntKind.u8 0,Value.int IntKind.u8 0,Value.int IntKind.u8 0,Value.int IntKind.u8 0,Value.int IntKind.u8 0,Value.int IntKind.u8 0,Value.int IntKind.u8 0,Value.int IntKind.u8 0,Value.int IntKind.u8 0,Value.int IntKind.u8 0,Value.int IntKind.u8 0,Value.int IntKind.u8 0,Value.int IntKind.u8 0,Value.int IntKind.u8 0,Value.int IntKind.u8 0],rfl,fun S w η=>.cons (zi _) (.cons (zi _) (.cons (zi _) (.cons (zi _) (.cons (zi _) (.cons (zi _) (.cons (zi _) (.cons (zi _) (.cons (zi _) (.cons (zi _) (.cons (zi _) (.cons (zi _) (.cons (zi _) (.cons (zi _) (.cons (zi _) (.cons (zi _) (.cons (zi _) (.cons (zi _) (.cons (zi _) (.cons (zi _) (.cons (zi _) (.cons (zi _) (.cons (zi _) (.cons (zi _) (.cons (zi _) (.cons (zi _) (.cons (zi _) (.cons (zi _) (.cons (zi _) (.cons (zi _) (.cons (zi _) (.cons (zi _) (.nil))))))))))))))))))))))))))))))))⟩,(fun T h=>by cases h)⟩,(fun T h=>by cases h),Tryz.runUnderlying256⟩
theorem ti257:TIok Tryz.prog 257 t257 :=
 ⟨Tryz.isAgg257,Tryz.sizeOf257,⟨_,Tryz.zeroValue257,⟨[Value.int IntKind.u64 0],rfl,fun S w η=>.cons (zi _) (.nil)⟩,(fun T h=>by cases h;rfl)⟩,(fun T h=>by cases h;exact ⟨rfl,rfl⟩),Tryz.runUnderlying257⟩
theorem ti274:TIok Tryz.prog 274 t274 :=
 ⟨Tryz.isAgg274,Tryz.sizeOf274,⟨_,Tryz.zeroValue274,⟨[Value.pointer none],rfl,fun S w η=>.cons (rfl) (.nil)⟩,(fun T h=>by cases h)⟩,(fun T h=>by cases h),Tryz.runUnderlying274⟩
theorem tyOK:∀ id ti,lk tyTab id=some ti→TIok Tryz.prog id ti:=by
 unfold tyTab
 exact dA (oF Tryz.isAgg1 Tryz.sizeOf1 Tryz.zeroValue1 Tryz.runUnderlying1) <| dA ti2 <| dA ti3 <| dA ti4 <| dA ti5 <| dA ti7 <| dA ti9 <| dA ti12 <| dA ti13 <| dA ti15 <| dA ti16 <| dA ti17 <| dA ti18 <| dA ti20 <| dA ti21 <| dA ti22 <| dA ti23 <| dA ti25 <| dA ti27 <| dA ti28 <| dA ti30 <| dA ti31 <| dA ti34 <| dA ti41 <| dA ti42 <| dA ti44 <| dA ti62 <| dA ti64 <| dA ti69 <| dA ti72 <| dA ti73 <| dA ti74 <| dA ti75 <| dA ti76 <| dA ti77 <| dA ti82 <| dA ti83 <| dA ti84 <| dA ti85 <| dA (oF Tryz.isAgg87 Tryz.sizeOf87 Tryz.zeroValue87 Tryz.runUnderlying87) <| dA (oF Tryz.isAgg89 Tryz.sizeOf89 Tryz.zeroValue89 Tryz.runUnderlying89) <| dA (oF Tryz.isAgg91 Tryz.sizeOf91 Tryz.zeroValue91 Tryz.runUnderlying91) <| dA ti94 <| dA ti95 <| dA ti97 <| dA ti98 <| dA (oF Tryz.isAgg105 Tryz.sizeOf105 Tryz.zeroValue105 Tryz.runUnderlying105) <| dA (oF Tryz.isAgg108 Tryz.sizeOf108 Tryz.zeroValue108 Tryz.runUnderlying108) <| dA ti109 <| dA ti110 <| dA (oF Tryz.isAgg121 Tryz.sizeOf121 Tryz.zeroValue121 Tryz.runUnderlying121) <| dA (oF Tryz.isAgg123 Tryz.sizeOf123 Tryz.zeroValue123 Tryz.runUnderlying123) <| dA ti125 <| dA ti126 <| dA (oF Tryz.isAgg128 Tryz.sizeOf128 Tryz.zeroValue128 Tryz.runUnderlying128) <| dA ti143 <| dA ti151 <| dA ti157 <| dA ti159 <| dA ti160 <| dA ti161 <| dA ti162 <| dA ti163 <| dA ti164 <| dA ti167 <| dA (oF Tryz.isAgg170 Tryz.sizeOf170 Tryz.zeroValue170 Tryz.runUnderlying170) <| dA (oF Tryz.isAgg173 Tryz.sizeOf173 Tryz.zeroValue173 Tryz.runUnderlying173) <| dA ti177 <| dA ti178 <| dA ti194 <| dA ti207 <| dA ti208 <| dA (oF Tryz.isAgg210 Tryz.sizeOf210 Tryz.zeroValue210 Tryz.runUnderlying210) <| dA (oF Tryz.isAgg212 Tryz.sizeOf212 Tryz.zeroValue212 Tryz.runUnderlying212) <| dA ti214 <| dA ti222 <| dA ti238 <| dA (oF Tryz.isAgg240 Tryz.sizeOf240 Tryz.zeroValue240 Tryz.runUnderlying240) <| dA (oF Tryz.isAgg251 Tryz.sizeOf251 Tryz.zeroValue251 Tryz.runUnderlying251) <| dA ti252 <| dA ti253 <| dA ti256 <| dA ti257 <| dA (oF Tryz.isAgg270 Tryz.sizeOf270 Tryz.zeroValue270 Tryz.runUnderlying270) <| dA ti274 <| jG
noncomputable def fnTab:List (FuncId×Func):=[(3,Tryz.f3),(4,Tryz.f4),(5,Tryz.f5),(6,Tryz.f6),(7,Tryz.f7),(8,Tryz.f8),(9,Tryz.f9),(10,Tryz.f10),(11,Tryz.f11),(12,Tryz.f12),(13,Tryz.f13),(14,Tryz.f14),(15,Tryz.f15),(16,Tryz.f16),(17,Tryz.f17),(18,Tryz.f18),(19,Tryz.f19),(20,Tryz.f20),(21,Tryz.f21),(22,Tryz.f22),(23,Tryz.f23),(24,Tryz.f24),(25,Tryz.f25),(26,Tryz.f26),(27,Tryz.f27),(28,Tryz.f28),(29,Tryz.f29),(30,Tryz.f30),(31,Tryz.f31),(32,Tryz.f32),(33,Tryz.f33),(34,Tryz.f34),(35,Tryz.f35),(36,Tryz.f36),(37,Tryz.f37),(39,Tryz.f39),(40,Tryz.f40),(41,Tryz.f41),(42,Tryz.f42),(43,Tryz.f43),(44,Tryz.f44),(45,Tryz.f45),(46,Tryz.f46),(47,Tryz.f47),(49,Tryz.f49),(51,Tryz.f51),(53,Tryz.f53),(54,Tryz.f54),(55,Tryz.f55),(56,Tryz.f56),(57,Tryz.f57),(58,Tryz.f58),(59,Tryz.f59),(60,Tryz.f60),(61,Tryz.f61),(62,Tryz.f62),(63,Tryz.f63),(64,Tryz.f64),(65,Tryz.f65),(66,Tryz.f66),(67,Tryz.f67),(68,Tryz.f68),(69,Tryz.f69),(70,Tryz.f70),(71,Tryz.f71),(73,Tryz.f73),(74,Tryz.f74),(75,Tryz.f75),(76,Tryz.f76),(77,Tryz.f77),(78,Tryz.f78),(79,Tryz.f79),(80,Tryz.f80),(81,Tryz.f81),(82,Tryz.f82),(83,Tryz.f83),(84,Tryz.f84),(85,Tryz.f85),(87,Tryz.f87),(95,Tryz.f95),(96,Tryz.f96),(97,Tryz.f97),(98,Tryz.f98),(99,Tryz.f99),(100,Tryz.f100),(102,Tryz.f102),(103,Tryz.f103),(104,Tryz.f104),(106,Tryz.f106),(107,Tryz.f107),(108,Tryz.f108),(109,Tryz.f109),(110,Tryz.f110),(111,Tryz.f111),(113,Tryz.f113),(115,Tryz.f115),(116,Tryz.f116),(117,Tryz.f117),(118,Tryz.f118),(119,Tryz.f119),(121,Tryz.f121),(123,Tryz.f123),(124,Tryz.f124),(125,Tryz.f125),(126,Tryz.f126),(127,Tryz.f127),(128,Tryz.f128),(129,Tryz.f129),(130,Tryz.f130),(131,Tryz.f131),(132,Tryz.f132),(133,Tryz.f133),(136,Tryz.f136),(137,Tryz.f137),(142,Tryz.f142),(143,Tryz.f143),(145,Tryz.f145),(146,Tryz.f146),(148,Tryz.f148),(149,Tryz.f149),(154,Tryz.f154),(155,Tryz.f155),(156,Tryz.f156),(157,Tryz.f157),(158,Tryz.f158),(167,Tryz.f167),(168,Tryz.f168),(169,Tryz.f169),(170,Tryz.f170),(171,Tryz.f171),(172,Tryz.f172),(176,Tryz.f176),(190,Tryz.f190),(191,Tryz.f191),(192,Tryz.f192),(198,Tryz.f198),(203,Tryz.f203),(208,Tryz.f208)]
abbrev pF (f:FuncId) (fn:Func):Prop:=Tryz.prog.funcs[f]? = some fn∧∀ (args:Array Value) (w:World),(callFunc f args).run Tryz.prog w=.ok (.enter f args) w
theorem pf {f:FuncId} {fn:Func} (h:Tryz.prog.funcs[f]? = some fn) (h2:∀ (args:Array Value) (w:World),(callFunc f args).run Tryz.prog w=.ok (.enter f args) w):pF f fn:=⟨h,h2⟩
theorem fnOK:∀ f fn,lk fnTab f=some fn→Tryz.prog.funcs[f]? = some fn∧∀ (args:Array Value) (w:World),(callFunc f args).run Tryz.prog w=.ok (.enter f args) w:=by
 unfold fnTab
 change ∀ f fn,_→pF f fn
 exact dA (pf Tryz.func3 Tryz.call3) <| dA (pf Tryz.func4 Tryz.call4) <| dA (pf Tryz.func5 Tryz.call5) <| dA (pf Tryz.func6 Tryz.call6) <| dA (pf Tryz.func7 Tryz.call7) <| dA (pf Tryz.func8 Tryz.call8) <| dA (pf Tryz.func9 Tryz.call9) <| dA (pf Tryz.func10 Tryz.call10) <| dA (pf Tryz.func11 Tryz.call11) <| dA (pf Tryz.func12 Tryz.call12) <| dA (pf Tryz.func13 Tryz.call13) <| dA (pf Tryz.func14 Tryz.call14) <| dA (pf Tryz.func15 Tryz.call15) <| dA (pf Tryz.func16 Tryz.call16) <| dA (pf Tryz.func17 Tryz.call17) <| dA (pf Tryz.func18 Tryz.call18) <| dA (pf Tryz.func19 Tryz.call19) <| dA (pf Tryz.func20 Tryz.call20) <| dA (pf Tryz.func21 Tryz.call21) <| dA (pf Tryz.func22 Tryz.call22) <| dA (pf Tryz.func23 Tryz.call23) <| dA (pf Tryz.func24 Tryz.call24) <| dA (pf Tryz.func25 Tryz.call25) <| dA (pf Tryz.func26 Tryz.call26) <| dA (pf Tryz.func27 Tryz.call27) <| dA (pf Tryz.func28 Tryz.call28) <| dA (pf Tryz.func29 Tryz.call29) <| dA (pf Tryz.func30 Tryz.call30) <| dA (pf Tryz.func31 Tryz.call31) <| dA (pf Tryz.func32 Tryz.call32) <| dA (pf Tryz.func33 Tryz.call33) <| dA (pf Tryz.func34 Tryz.call34) <| dA (pf Tryz.func35 Tryz.call35) <| dA (pf Tryz.func36 Tryz.call36) <| dA (pf Tryz.func37 Tryz.call37) <| dA (pf Tryz.func39 Tryz.call39) <| dA (pf Tryz.func40 Tryz.call40) <| dA (pf Tryz.func41 Tryz.call41) <| dA (pf Tryz.func42 Tryz.call42) <| dA (pf Tryz.func43 Tryz.call43) <| dA (pf Tryz.func44 Tryz.call44) <| dA (pf Tryz.func45 Tryz.call45) <| dA (pf Tryz.func46 Tryz.call46) <| dA (pf Tryz.func47 Tryz.call47) <| dA (pf Tryz.func49 Tryz.call49) <| dA (pf Tryz.func51 Tryz.call51) <| dA (pf Tryz.func53 Tryz.call53) <| dA (pf Tryz.func54 Tryz.call54) <| dA (pf Tryz.func55 Tryz.call55) <| dA (pf Tryz.func56 Tryz.call56) <| dA (pf Tryz.func57 Tryz.call57) <| dA (pf Tryz.func58 Tryz.call58) <| dA (pf Tryz.func59 Tryz.call59) <| dA (pf Tryz.func60 Tryz.call60) <| dA (pf Tryz.func61 Tryz.call61) <| dA (pf Tryz.func62 Tryz.call62) <| dA (pf Tryz.func63 Tryz.call63) <| dA (pf Tryz.func64 Tryz.call64) <| dA (pf Tryz.func65 Tryz.call65) <| dA (pf Tryz.func66 Tryz.call66) <| dA (pf Tryz.func67 Tryz.call67) <| dA (pf Tryz.func68 Tryz.call68) <| dA (pf Tryz.func69 Tryz.call69) <| dA (pf Tryz.func70 Tryz.call70) <| dA (pf Tryz.func71 Tryz.call71) <| dA (pf Tryz.func73 Tryz.call73) <| dA (pf Tryz.func74 Tryz.call74) <| dA (pf Tryz.func75 Tryz.call75) <| dA (pf Tryz.func76 Tryz.call76) <| dA (pf Tryz.func77 Tryz.call77) <| dA (pf Tryz.func78 Tryz.call78) <| dA (pf Tryz.func79 Tryz.call79) <| dA (pf Tryz.func80 Tryz.call80) <| dA (pf Tryz.func81 Tryz.call81) <| dA (pf Tryz.func82 Tryz.call82) <| dA (pf Tryz.func83 Tryz.call83) <| dA (pf Tryz.func84 Tryz.call84) <| dA (pf Tryz.func85 Tryz.call85) <| dA (pf Tryz.func87 Tryz.call87) <| dA (pf Tryz.func95 Tryz.call95) <| dA (pf Tryz.func96 Tryz.call96) <| dA (pf Tryz.func97 Tryz.call97) <| dA (pf Tryz.func98 Tryz.call98) <| dA (pf Tryz.func99 Tryz.call99) <| dA (pf Tryz.func100 Tryz.call100) <| dA (pf Tryz.func102 Tryz.call102) <| dA (pf Tryz.func103 Tryz.call103) <| dA (pf Tryz.func104 Tryz.call104) <| dA (pf Tryz.func106 Tryz.call106) <| dA (pf Tryz.func107 Tryz.call107) <| dA (pf Tryz.func108 Tryz.call108) <| dA (pf Tryz.func109 Tryz.call109) <| dA (pf Tryz.func110 Tryz.call110) <| dA (pf Tryz.func111 Tryz.call111) <| dA (pf Tryz.func113 Tryz.call113) <| dA (pf Tryz.func115 Tryz.call115) <| dA (pf Tryz.func116 Tryz.call116) <| dA (pf Tryz.func117 Tryz.call117) <| dA (pf Tryz.func118 Tryz.call118) <| dA (pf Tryz.func119 Tryz.call119) <| dA (pf Tryz.func121 Tryz.call121) <| dA (pf Tryz.func123 Tryz.call123) <| dA (pf Tryz.func124 Tryz.call124) <| dA (pf Tryz.func125 Tryz.call125) <| dA (pf Tryz.func126 Tryz.call126) <| dA (pf Tryz.func127 Tryz.call127) <| dA (pf Tryz.func128 Tryz.call128) <| dA (pf Tryz.func129 Tryz.call129) <| dA (pf Tryz.func130 Tryz.call130) <| dA (pf Tryz.func131 Tryz.call131) <| dA (pf Tryz.func132 Tryz.call132) <| dA (pf Tryz.func133 Tryz.call133) <| dA (pf Tryz.func136 Tryz.call136) <| dA (pf Tryz.func137 Tryz.call137) <| dA (pf Tryz.func142 Tryz.call142) <| dA (pf Tryz.func143 Tryz.call143) <| dA (pf Tryz.func145 Tryz.call145) <| dA (pf Tryz.func146 Tryz.call146) <| dA (pf Tryz.func148 Tryz.call148) <| dA (pf Tryz.func149 Tryz.call149) <| dA (pf Tryz.func154 Tryz.call154) <| dA (pf Tryz.func155 Tryz.call155) <| dA (pf Tryz.func156 Tryz.call156) <| dA (pf Tryz.func157 Tryz.call157) <| dA (pf Tryz.func158 Tryz.call158) <| dA (pf Tryz.func167 Tryz.call167) <| dA (pf Tryz.func168 Tryz.call168) <| dA (pf Tryz.func169 Tryz.call169) <| dA (pf Tryz.func170 Tryz.call170) <| dA (pf Tryz.func171 Tryz.call171) <| dA (pf Tryz.func172 Tryz.call172) <| dA (pf Tryz.func176 Tryz.call176) <| dA (pf Tryz.func190 Tryz.call190) <| dA (pf Tryz.func191 Tryz.call191) <| dA (pf Tryz.func192 Tryz.call192) <| dA (pf Tryz.func198 Tryz.call198) <| dA (pf Tryz.func203 Tryz.call203) <| dA (pf Tryz.func208 Tryz.call208) <| jG
set_option maxRecDepth 100000 in
theorem eqOK42:EqOK Tryz.prog 42 [.int .i64,.int .i64,.int .i64,.int .i64,.int .i64,.int .i64,.int .i64,.str,.str]:=by
 refine ⟨by kernel_rfl,fun vs us h1 h2 w=>?_⟩
 rcases h1 with _ | ⟨⟨a0,rfl⟩,_ | ⟨⟨a1,rfl⟩,_ | ⟨⟨a2,rfl⟩,_ | ⟨⟨a3,rfl⟩,_ | ⟨⟨a4,rfl⟩,_ | ⟨⟨a5,rfl⟩,_ | ⟨⟨a6,rfl⟩,_ | ⟨⟨a7,rfl⟩,_ | ⟨⟨a8,rfl⟩,_ | _⟩⟩⟩⟩⟩⟩⟩⟩⟩
 rcases h2 with _ | ⟨⟨b0,rfl⟩,_ | ⟨⟨b1,rfl⟩,_ | ⟨⟨b2,rfl⟩,_ | ⟨⟨b3,rfl⟩,_ | ⟨⟨b4,rfl⟩,_ | ⟨⟨b5,rfl⟩,_ | ⟨⟨b6,rfl⟩,_ | ⟨⟨b7,rfl⟩,_ | ⟨⟨b8,rfl⟩,_ | _⟩⟩⟩⟩⟩⟩⟩⟩⟩
 have u3:=Tryz.underlying3
 have x3:=Tryz.isAgg3
 have z3:=Tryz.sizeOf3
 have u9:=Tryz.underlying9
 have x9:=Tryz.isAgg9
 have z9:=Tryz.sizeOf9
 have hS:Tryz.prog.underlying 42=some (.struct (Tryz.prog.fieldsOf 42)):=by kernel_rfl
 have hp:Tryz.prog.stoodInHeld 42=false:=by kernel_rfl
 rw [show (10000:Nat)=9999+1 from rfl,run_equalIn_agg w 9999 42 _ _ hS hp]
 simp only [Program.fieldsOf,Tryz.underlying42]
 go_simp
 refine if e0:a0=b0 then ?_ else by simp [kG,eqV,ByteArray.toList_eq,e0]
 refine if e1:a1=b1 then ?_ else by simp [kG,eqV,ByteArray.toList_eq,e0,e1]
 refine if e2:a2=b2 then ?_ else by simp [kG,eqV,ByteArray.toList_eq,e0,e1,e2]
 refine if e3:a3=b3 then ?_ else by simp [kG,eqV,ByteArray.toList_eq,e0,e1,e2,e3]
 refine if e4:a4=b4 then ?_ else by simp [kG,eqV,ByteArray.toList_eq,e0,e1,e2,e3,e4]
 refine if e5:a5=b5 then ?_ else by simp [kG,eqV,ByteArray.toList_eq,e0,e1,e2,e3,e4,e5]
 refine if e6:a6=b6 then ?_ else by simp [kG,eqV,ByteArray.toList_eq,e0,e1,e2,e3,e4,e5,e6]
 refine if e7:a7.data.toList=b7.data.toList then ?_ else by simp [kG,eqV,ByteArray.toList_eq,e0,e1,e2,e3,e4,e5,e6,e7]
 refine if e8:a8.data.toList=b8.data.toList then ?_ else by simp [kG,eqV,ByteArray.toList_eq,e0,e1,e2,e3,e4,e5,e6,e7,e8]
 simp [kG,eqV,ByteArray.toList_eq,e0,e1,e2,e3,e4,e5,e6,e7,e8]
set_option maxRecDepth 100000 in
theorem eqOK74:EqOK Tryz.prog 74 [.bool,.int .i64]:=by
 refine ⟨by kernel_rfl,fun vs us h1 h2 w=>?_⟩
 rcases h1 with _ | ⟨⟨a0,rfl⟩,_ | ⟨⟨a1,rfl⟩,_ | _⟩⟩
 rcases h2 with _ | ⟨⟨b0,rfl⟩,_ | ⟨⟨b1,rfl⟩,_ | _⟩⟩
 have u3:=Tryz.underlying3
 have x3:=Tryz.isAgg3
 have z3:=Tryz.sizeOf3
 have u4:=Tryz.underlying4
 have x4:=Tryz.isAgg4
 have z4:=Tryz.sizeOf4
 have hS:Tryz.prog.underlying 74=some (.struct (Tryz.prog.fieldsOf 74)):=by kernel_rfl
 have hp:Tryz.prog.stoodInHeld 74=false:=by kernel_rfl
 rw [show (10000:Nat)=9999+1 from rfl,run_equalIn_agg w 9999 74 _ _ hS hp]
 simp only [Program.fieldsOf,Tryz.underlying74]
 go_simp
 refine if e0:a0=b0 then ?_ else by simp [kG,eqV,ByteArray.toList_eq,e0]
 refine if e1:a1=b1 then ?_ else by simp [kG,eqV,ByteArray.toList_eq,e0,e1]
 simp [kG,eqV,ByteArray.toList_eq,e0,e1]
set_option maxRecDepth 100000 in
theorem eqOK110:EqOK Tryz.prog 110 [.int .i64,.str]:=by
 refine ⟨by kernel_rfl,fun vs us h1 h2 w=>?_⟩
 rcases h1 with _ | ⟨⟨a0,rfl⟩,_ | ⟨⟨a1,rfl⟩,_ | _⟩⟩
 rcases h2 with _ | ⟨⟨b0,rfl⟩,_ | ⟨⟨b1,rfl⟩,_ | _⟩⟩
 have u3:=Tryz.underlying3
 have x3:=Tryz.isAgg3
 have z3:=Tryz.sizeOf3
 have u9:=Tryz.underlying9
 have x9:=Tryz.isAgg9
 have z9:=Tryz.sizeOf9
 have hS:Tryz.prog.underlying 110=some (.struct (Tryz.prog.fieldsOf 110)):=by kernel_rfl
 have hp:Tryz.prog.stoodInHeld 110=false:=by kernel_rfl
 rw [show (10000:Nat)=9999+1 from rfl,run_equalIn_agg w 9999 110 _ _ hS hp]
 simp only [Program.fieldsOf,Tryz.underlying110]
 go_simp
 refine if e0:a0=b0 then ?_ else by simp [kG,eqV,ByteArray.toList_eq,e0]
 refine if e1:a1.data.toList=b1.data.toList then ?_ else by simp [kG,eqV,ByteArray.toList_eq,e0,e1]
 simp [kG,eqV,ByteArray.toList_eq,e0,e1]
set_option maxRecDepth 100000 in
theorem eqOK161:EqOK Tryz.prog 161 [.str,.int .i64]:=by
 refine ⟨by kernel_rfl,fun vs us h1 h2 w=>?_⟩
 rcases h1 with _ | ⟨⟨a0,rfl⟩,_ | ⟨⟨a1,rfl⟩,_ | _⟩⟩
 rcases h2 with _ | ⟨⟨b0,rfl⟩,_ | ⟨⟨b1,rfl⟩,_ | _⟩⟩
 have u3:=Tryz.underlying3
 have x3:=Tryz.isAgg3
 have z3:=Tryz.sizeOf3
 have u9:=Tryz.underlying9
 have x9:=Tryz.isAgg9
 have z9:=Tryz.sizeOf9
 have hS:Tryz.prog.underlying 161=some (.struct (Tryz.prog.fieldsOf 161)):=by kernel_rfl
 have hp:Tryz.prog.stoodInHeld 161=false:=by kernel_rfl
 rw [show (10000:Nat)=9999+1 from rfl,run_equalIn_agg w 9999 161 _ _ hS hp]
 simp only [Program.fieldsOf,Tryz.underlying161]
 go_simp
 refine if e0:a0.data.toList=b0.data.toList then ?_ else by simp [kG,eqV,ByteArray.toList_eq,e0]
 refine if e1:a1=b1 then ?_ else by simp [kG,eqV,ByteArray.toList_eq,e0,e1]
 simp [kG,eqV,ByteArray.toList_eq,e0,e1]
set_option maxRecDepth 100000 in
theorem eqOK64:EqOK Tryz.prog 64 [.int .i64,.int .i64]:=by
 refine ⟨by kernel_rfl,fun vs us h1 h2 w=>?_⟩
 rcases h1 with _ | ⟨⟨a0,rfl⟩,_ | ⟨⟨a1,rfl⟩,_ | _⟩⟩
 rcases h2 with _ | ⟨⟨b0,rfl⟩,_ | ⟨⟨b1,rfl⟩,_ | _⟩⟩
 have u3:=Tryz.underlying3
 have x3:=Tryz.isAgg3
 have z3:=Tryz.sizeOf3
 have hc:Tryz.prog.cellsOf 3=1:=by kernel_rfl
 rw [show (10000:Nat)=9999+1 from rfl,run_equalIn_array w 9999 (t:=64) (e:=3) (n:=2) _ _ (by kernel_rfl) (show Tryz.prog.info? 3=some _ from rfl),hc]
 simp only [show List.range 2=[0,1] from rfl,Op.eqItems]
 go_simp
 by_cases e0:a0=b0
 all_goals by_cases e1:a1=b1
 all_goals simp [kG,eqV,e0,e1]
def eqTab:List (TypeId×List Ty):=[(42,[.int .i64,.int .i64,.int .i64,.int .i64,.int .i64,.int .i64,.int .i64,.str,.str]),(74,[.bool,.int .i64]),(110,[.int .i64,.str]),(161,[.str,.int .i64]),(64,[.int .i64,.int .i64])]
theorem eqsOK:∀ t ks,lk eqTab t=some ks→EqOK Tryz.prog t ks:=by
 unfold eqTab
 refine dA (p:=fun t ks=>EqOK Tryz.prog t ks) eqOK42 ?_
 refine dA (p:=fun t ks=>EqOK Tryz.prog t ks) eqOK74 ?_
 refine dA (p:=fun t ks=>EqOK Tryz.prog t ks) eqOK110 ?_
 refine dA (p:=fun t ks=>EqOK Tryz.prog t ks) eqOK161 ?_
 refine dA (p:=fun t ks=>EqOK Tryz.prog t ks) eqOK64 ?_
 exact jG
def btTab:List (TypeId×TypeId×TypeId):=[(96,96,5),(146,96,5),(147,96,5),(148,96,5),(149,96,5)]
theorem bt96:BltOK Tryz.prog 96 96 5:=⟨by decide,by kernel_rfl,by kernel_rfl,⟨_,Tryz.zeroValue96,rfl⟩,fun b w=>by kernel_rfl⟩
theorem bt146:BltOK Tryz.prog 146 96 5:=⟨by decide,by kernel_rfl,by kernel_rfl,⟨_,Tryz.zeroValue146,rfl⟩,fun b w=>by kernel_rfl⟩
theorem bt147:BltOK Tryz.prog 147 96 5:=⟨by decide,by kernel_rfl,by kernel_rfl,⟨_,Tryz.zeroValue147,rfl⟩,fun b w=>by kernel_rfl⟩
theorem bt148:BltOK Tryz.prog 148 96 5:=⟨by decide,by kernel_rfl,by kernel_rfl,⟨_,Tryz.zeroValue148,rfl⟩,fun b w=>by kernel_rfl⟩
theorem bt149:BltOK Tryz.prog 149 96 5:=⟨by decide,by kernel_rfl,by kernel_rfl,⟨_,Tryz.zeroValue149,rfl⟩,fun b w=>by kernel_rfl⟩
theorem btOK:∀ T x,lk btTab T=some x→BltOK Tryz.prog T x.1 x.2:=by
 unfold btTab
 refine dA (p:=fun T (x:TypeId×TypeId)=>BltOK Tryz.prog T x.1 x.2) bt96 ?_
 refine dA (p:=fun T (x:TypeId×TypeId)=>BltOK Tryz.prog T x.1 x.2) bt146 ?_
 refine dA (p:=fun T (x:TypeId×TypeId)=>BltOK Tryz.prog T x.1 x.2) bt147 ?_
 refine dA (p:=fun T (x:TypeId×TypeId)=>BltOK Tryz.prog T x.1 x.2) bt148 ?_
 refine dA (p:=fun T (x:TypeId×TypeId)=>BltOK Tryz.prog T x.1 x.2) bt149 ?_
 exact jG
noncomputable def tabs0:Tabs:=⟨tyTab,fnTab,[],[],[],eqTab,[],[],[],btTab,[],[]⟩
theorem qB:TabOK Tryz.prog tabs0:=⟨tyOK,fnOK,(fun _ _ h=>by cases h),(fun _ _ h=>by cases h),by kernel_rfl,(fun _ h=>by cases h),eqsOK,(fun _ h=>by cases h),(fun _ _ h=>by cases h),(fun _ _ h=>by cases h),btOK,(fun _ _ h=>by cases h),(fun _ _ h=>by cases h)⟩
end Go.Proofs.YtdjfiampkhfooaaGreatDoor
namespace Go.PE
open Go Go.RowKit Go.Abs Go.Sort
variable [db:DB] [ea:EA]

def insI (x:Int):List Int→List Int
 | []=>[x]
 | y::r=>bif leM x y then x::y::r else y::insI x r
def zI:List Int→List Int
 | []=>[]
 | x::r=>insI x (zI r)
theorem insI_perm (x:Int):∀ l,(insI x l).Perm (x::l)
 | []=>.refl _
 | y::r=>by
  unfold insI
  cases leM x y
  ·exact ((insI_perm x r).cons y).trans (.swap x y r)
  ·exact .refl _
theorem gD:∀ l,(zI l).Perm l
 | []=>.refl _
 | x::r=>(insI_perm x (zI r)).trans ((gD r).cons x)
theorem insI_sorted (x:Int):∀ {l:List Int},List.Pairwise (·≤·) l→List.Pairwise (·≤·) (insI x l)
 | [],_=>by unfold insI;simp
 | y::r,h=>by
  unfold insI
  have h2:=List.pairwise_cons.1 h
  cases hb:leM x y with
  | true =>
   have hb':x≤y:=oD hb
   refine List.pairwise_cons.2 ⟨fun z hz=>?_,h⟩
   rcases List.mem_cons.1 hz with rfl | hz
   ·exact hb'
   ·exact Int.le_trans hb' (h2.1 z hz)
  | false =>
   have hb':¬ x≤y:=of_decide_eq_false hb
   refine List.pairwise_cons.2 ⟨fun z hz=>?_,insI_sorted x h2.2⟩
   rcases List.mem_cons.1 ((insI_perm x r).mem_iff.1 hz) with rfl | hz
   ·omega
   ·exact h2.1 z hz
theorem lH:∀ l,List.Pairwise (·≤·) (zI l)
 | []=>.nil
 | x::r=>insI_sorted x (lH r)
theorem merge_isortI (l:List Int):(l.mergeSort fun x y=>decide (x≤y))=zI l:=by
 refine List.Perm.eq_of_pairwise (le:=fun x y=>x≤y) (fun a b _ _ h1 h2=>by omega) ?_ (lH l) ((List.mergeSort_perm l _).trans (gD l).symm)
 have:=List.pairwise_mergeSort (le:=fun (x y:Int)=>decide (x≤y)) (fun a b c h1 h2=>by simp at *;omega) (fun a b=>by simp;omega) l
 exact this.imp fun h=>by simpa using h
def sortI (xs:List Int):Option (List Int):=match decide (xs.length<4611686018427387904) with
 | true=>some (zI xs)
 | false=>none
def compI (xs:List Int):Option (List Int):=match decide (xs.length≤4611686018427387904) with
 | true=>some (Lib.compact xs)
 | false=>none
section
variable {B:Nat} {S F:Cells} {w w':World}
theorem world_put {b off cap n:Nat} {xs d:List Int} {os:Array Obj} (hin:InLt S w) (hF:∀ b o,F b o→B≤b∧b<w.heap.size∧¬ S b o) (hFe:∀ b' o,F b' o↔b'=b∧off≤o∧o<off+cap*1) (c1:xs.length≤cap) (hn:0<xs.length)
  (ht:∀ o,off≤o→o<off+cap*1→World.there w b o) (hH:Holds (Value.int .i64) w b off xs.toArray) (hd:d.length=xs.length) (hw:w'=grow (putRow (Value.int .i64) (Go.Sort.ahead w n) b off d.toArray) os) :
  Grow B S w S w'∧(∀ j,j<xs.length→w'.cell? ⟨b,off+j,none⟩=some (.int .i64 (d.toArray)[j]!))∧(∀ b' o,b'<w.heap.size→¬ F b' o→w'.cell? ⟨b',o,none⟩=w.cell? ⟨b',o,none⟩∧w'.frozen? ⟨b',o,none⟩=w.frozen? ⟨b',o,none⟩) ∧
   (∀ b',b'<w.heap.size→(∀ o,¬ F b' o)→w'.heap[b']? = w.heap[b']?)∧∀ o,off≤o→o<off+cap*1→World.there w' b o:=by
 have hin1:∀ j,j<xs.length→F b (off+j):=fun j hj=>(hFe _ _).2 ⟨rfl,by omega,by omega⟩
 obtain ⟨hBb,hblk,_⟩:=hF b (off+0) (hin1 0 hn)
 have hH1:Holds (Value.int .i64) (Go.Sort.ahead w n) b off xs.toArray:=hH
 have hfs:d.toArray.size=xs.toArray.size:=by simpa using hd
 have hfn:d.toArray.size=xs.length:=by simpa using hd
 have hps:(putRow (Value.int .i64) (Go.Sort.ahead w n) b off d.toArray).heap.size=w.heap.size:=by rw [size_putRow];rfl
 have cin:∀ j,j<xs.length→w'.cell? ⟨b,off+j,none⟩=some (.int .i64 (d.toArray)[j]!):=fun j hj=>by
  rw [hw,cell?_grow _ _ _ (by rw [hps];exact hblk)]
  exact cell?_putRow (Value.int .i64) _ b off _ _ hH1 hfs j (by rw [hfn];exact hj)
 have cout:∀ b' o,b'<w.heap.size→(b'≠b∨o<off∨off+xs.length≤o)→w'.cell? ⟨b',o,none⟩=w.cell? ⟨b',o,none⟩:=fun b' o hb' ho=>by
  rw [hw,cell?_grow _ _ _ (by rw [hps];exact hb'),cell?_putRow_other (Value.int .i64) _ b off _ _ (by rw [hfn];exact ho)]
  rfl
 have fout:∀ b' o,b'<w.heap.size→w'.frozen? ⟨b',o,none⟩=w.frozen? ⟨b',o,none⟩:=fun b' o hb'=>by
  rw [hw,frozen?_grow _ _ _ (by rw [hps];exact hb'),frozen?_putRow]
  rfl
 have hout:∀ b',b'<w.heap.size→b'≠b→w'.heap[b']? = w.heap[b']? := fun b' hb' hne=>by
  rw [hw,heap_grow_old _ _ (by rw [hps];exact hb')]
  show (w.heap.modify b _)[b']? = _
  rw [Array.getElem?_modify,if_neg (Ne.symm hne)]
 have hcut:∀ b' o,¬ F b' o→(b'≠b∨o<off∨off+xs.length≤o):=fun b' o hno=>by
  by_cases e:b'=b
  ·subst e
   refine .inr ?_
   rcases Nat.lt_or_ge o off with h1 | h1
   ·exact .inl h1
   ·rcases Nat.lt_or_ge o (off+xs.length) with h2 | h2
    ·have:=hin1 (o-off) (by omega)
     rw [show off+(o-off)=o by omega] at this
     exact absurd this hno
    ·exact .inr h2
  ·exact .inl e
 have hkeep:Keep S w S w':=⟨fun _ _ h=>h,fun b' o hs=>cout b' o (hin b' o hs) (hcut b' o fun hf'=>(hF b' o hf').2.2 hs)⟩
 have hcells:∃ c e fr,w.heap[b]? = some (.cells c e fr):=by
  obtain ⟨⟨v,hv⟩,_⟩:=ht (off+0) (by omega) (by omega)
  obtain ⟨c,e,fr,h1,_⟩:=cells_of_cell? hv
  exact ⟨c,e,fr,h1⟩
 refine ⟨⟨⟨by rw [hw];rfl,by rw [hw];rfl,by rw [hw];rfl,by rw [hw,size_grow,hps];omega,fun k hk=>hout k (by omega) (by omega)⟩,hkeep,fun b' o hs=>?_,fun _ _ h=>.inl h,.of ?_ fun b' o ho hne=>?_⟩,cin,fun b' o hb' hno=>⟨cout b' o hb' (hcut b' o hno),fout b' o hb'⟩,fun b' hb' hno=>hout b' hb' fun e=>?_,fun o h1 h2=>⟨?_,by rw [fout b o hblk];exact (ht o h1 h2).2⟩⟩
 ·have:=hin b' o hs
  rw [hw,size_grow,hps];omega
 ·rw [hw]
  show w.drawn≤w.drawn+n
  omega
 ·by_cases e:b'=b
  ·subst e
   obtain ⟨c,el,fr,hc⟩:=hcells
   rw [hc] at ho
   exact absurd (Option.some.inj ho).symm (hne _ _ _)
  ·rw [hout b' (aS.1 ho).1 e];exact ho
 ·subst e
  exact hno _ (hin1 0 hn)
 ·by_cases ho:o<off+xs.length
  ·have:=cin (o-off) (by omega)
   rw [show off+(o-off)=o by omega] at this
   exact ⟨_,this⟩
  ·rw [cout b o hblk (.inr (.inr (by omega)))]
   exact (ht o h1 h2).1
theorem rep_int {x:Int} {es:List Value} (h:Rep S w (.int .i64) x es):es=[.int .i64 x]∧IntKind.i64.has x:=⟨h.1,h.2⟩
theorem holds_of {b off:Nat} {xs:List Int} {cap:Nat} (c1:xs.length≤cap) (ht:∀ o,off≤o→o<off+cap*1→World.there w b o) (hx:∀ (i:Nat) (x:Int),xs[i]? = some x→∃ es,Rep S w (.int .i64) x es∧∀ j v,es[j]? = some v→w.cell? ⟨b,off+i*1+j,none⟩=some v) :
  Holds (Value.int .i64) w b off xs.toArray∧∀ x∈xs,IntKind.i64.has x:=by
 refine ⟨fun j hj=>?_,fun x hx'=>?_⟩
 ·have hj':j<xs.length:=by simpa using hj
  obtain ⟨es,he,hc⟩:=hx j xs[j] (gE hj')
  obtain ⟨rfl,_⟩:=rep_int he
  have:=hc 0 _ rfl
  refine ⟨?_,(ht (off+j) (by omega) (by omega)).2⟩
  rw [getB hj]
  simpa using this
 ·obtain ⟨i,hi,rfl⟩:=List.getElem_of_mem hx'
  obtain ⟨es,he,_⟩:=hx i _ (gE hi)
  exact (rep_int he).2
end
theorem so1_sort {P:Program} {ρ:Go.Shelf.Ren} (L:Go.Proofs.Lays.n189 P ρ) {f:FuncId} (hfid:ρ.f 189=f) (ef:∀ (args:Array Value) (w:World),(callFunc f args).run P w=.ok (.enter f args) w):So1OK P ⟨f,.int .i64,false,sortI⟩:=by
 refine ⟨ef,fun xs ys h B S F w u hB hin hF hA=>?_⟩
 have h:sortI xs=some ys:=h
 have hA:ArrH F S w u (.int .i64) xs:=hA
 show Calls P f #[u] w _
 unfold sortI at h
 split at h
 ·rename_i hlt
  have hlt:=oD hlt
  have hy:=Option.some.inj h
  have hperm:=gD xs
  rw [hy] at hperm
  have hyl:ys.length=xs.length:=hperm.length_eq
  obtain ⟨base,cap,rfl,c1,c2,c3⟩:=hA
  by_cases hn:xs.length=0
  ·have hxs:xs=[]:=lN hn
   have hys:ys=[]:=lN (by omega)
   subst hxs hys
   have hc:=Go.Proofs.Any.slices_Sort_int_none L base cap w
   rw [hfid] at hc
   exact hc.mono fun en w' ⟨he,hw⟩=>by
    subst hw
    exact ⟨_,.slice base 0 cap,he,fun h=>(by cases h),fun _=>⟨rfl,rfl⟩,rfl,Grow.refl hin,⟨base,cap,rfl,c1,c2,c3⟩,fun _ _ _ _=>⟨rfl,rfl⟩,fun _ _ _=>rfl⟩
  ·rcases c3 with c3 | ⟨b,off,rfl,hFe,ht,hx⟩
   ·omega
   obtain ⟨hH,hhas⟩:=holds_of c1 ht hx
   have hblk:b<w.heap.size:=(hF b (off+0) ((hFe _ _).2 ⟨rfl,by omega,by show off+0<off+cap*1;omega⟩)).2.1
   have hc:=Go.Proofs.Any.slices_Sort_int L b off cap xs w hH hblk hlt
   rw [hfid,merge_isortI,hy] at hc
   refine hc.mono fun en w' ⟨he,n,os,hw⟩=>?_
   obtain ⟨g1,g2,g3,g4,g5⟩:=world_put hin hF hFe c1 (by omega) ht hH hyl hw
   refine ⟨_,.slice (some ⟨b,off,none⟩) xs.length cap,he,fun h=>(by cases h),fun _=>⟨rfl,rfl⟩,rfl,g1,⟨_,cap,by rw [hyl],by rw [hyl];exact c1,c2,.inr ⟨b,off,rfl,hFe,g5,fun i y hi=>?_⟩⟩,g3,g4⟩
   have hil:=(gS.1 hi).1
   have hmem:y∈xs:=hperm.mem_iff.1 (List.mem_of_getElem? hi)
   refine ⟨[.int .i64 y],⟨rfl,hhas y hmem⟩,fun j v hj=>?_⟩
   cases j with
   | zero =>
    cases hj
    have e:ys.toArray[i]! = y:=by rw [getB (by simpa using hil)];simpa using (gS.1 hi).2
    show w'.cell? ⟨b,off+i*1+0,none⟩=_
    rw [Nat.mul_one,Nat.add_zero,g2 i (by omega),e]
   | succ j=>simp at hj
 ·cases h
theorem grow_none (w:World):grow w #[]=w:=by
 cases w
 simp [grow]
theorem compact_mem {zs:List Int} {y:Int} (h:y∈Lib.compact zs):y∈zs:=by
 unfold Lib.compact Lib.compactUpTo at h
 obtain ⟨j,hj,rfl⟩:=List.mem_map.1 h
 have hjl:j<zs.length:=List.mem_range.1 (List.mem_filter.1 hj).1
 rw [getB (by simpa using hjl)]
 simp
theorem compact_len (zs:List Int):(Lib.compact zs).length≤zs.length:=by
 unfold Lib.compact Lib.compactUpTo
 rw [List.length_map]
 exact Nat.le_trans (List.length_filter_le _ _) (by simp)
theorem so1_comp {P:Program} {ρ:Go.Shelf.Ren} (L:Go.Proofs.Lays2.n20 P ρ) {f:FuncId} (hfid:ρ.f 20=f) (ef:∀ (args:Array Value) (w:World),(callFunc f args).run P w=.ok (.enter f args) w):So1OK P ⟨f,.int .i64,true,compI⟩:=by
 refine ⟨ef,fun xs ys h B S F w u hB hin hF hA=>?_⟩
 have h:compI xs=some ys:=h
 have hA:ArrH F S w u (.int .i64) xs:=hA
 show Calls P f #[u] w _
 unfold compI at h
 split at h
 ·rename_i hlt
  have hlt:=oD hlt
  have hy:=Option.some.inj h
  have hyl:ys.length≤xs.length:=by rw [← hy];exact compact_len xs
  obtain ⟨base,cap,rfl,c1,c2,c3⟩:=hA
  by_cases hn:xs.length=0
  ·have hxs:xs=[]:=lN hn
   have hys:ys=[]:=lN (by omega)
   subst hxs hys
   have hc:=Go.Proofs.Any.slices_Compact_int_empty L base cap w
   rw [hfid] at hc
   exact hc.mono fun en w' ⟨he,hw⟩=>by
    subst hw
    exact ⟨_,.slice base 0 cap,he,fun _=>rfl,fun h=>(by cases h),rfl,Grow.refl hin,⟨base,cap,rfl,c1,c2,c3⟩,fun _ _ _ _=>⟨rfl,rfl⟩,fun _ _ _=>rfl⟩
  ·rcases c3 with c3 | ⟨b,off,rfl,hFe,ht,hx⟩
   ·omega
   obtain ⟨hH,hhas⟩:=holds_of c1 ht hx
   have hc:=Go.Proofs.Any.slices_Compact_int L b off cap xs w hH (by omega) c1
   rw [hfid,hy] at hc
   refine hc.mono fun en w' ⟨he,q,hw⟩=>?_
   have hdl:(ys++List.replicate (xs.length-ys.length) (0:Int)).length=xs.length:=by rw [lA,List.length_replicate];omega
   obtain ⟨g1,g2,g3,g4,g5⟩:=world_put (os:=#[]) hin hF hFe c1 (by omega) ht hH hdl (hw.trans (grow_none _).symm)
   refine ⟨_,.slice (some ⟨b,off,none⟩) ys.length cap,he,fun _=>rfl,fun h=>(by cases h),rfl,g1,⟨_,cap,rfl,by omega,c2,.inr ⟨b,off,rfl,hFe,g5,fun i y hi=>?_⟩⟩,g3,g4⟩
   have hil:=(gS.1 hi).1
   have hmem:y∈xs:=compact_mem (by rw [hy];exact List.mem_of_getElem? hi)
   refine ⟨[.int .i64 y],⟨rfl,hhas y hmem⟩,fun j v hj=>?_⟩
   cases j with
   | zero =>
    cases hj
    have e:(ys++List.replicate (xs.length-ys.length) (0:Int)).toArray[i]! = y:=by
     rw [getB (by simp;omega)]
     simp only [List.getElem_toArray]
     rw [List.getElem_append_left hil]
     exact (gS.1 hi).2
    show w'.cell? ⟨b,off+i*1+0,none⟩=_
    rw [Nat.mul_one,Nat.add_zero,g2 i (by omega),e]
   | succ j=>simp at hj
 ·cases h
end Go.PE
namespace Go.PE
open Go Go.RowKit Go.Abs Go.Shelf Go.Proofs Go.Sort
variable [db:DB] [ea:EA]

section
variable {P:Program} {w:World}
theorem run_append_str (base:Nat) (t u ty e:TypeId) (i:TypeInfo) (ht:P.underlying t=some (.slice e)) (hu:P.underlying u=some .string) (hi:P.info? e=some i) (hz:i.zero=some (.int .u8 0))
  (hsize:i.size=1) (hby:i.bytes=1) (v:Value) (n:Nat) (xs:List Value) (hown:w.ownsRow base e 1 v n xs) (s:ByteArray)
  (h63:n+s.size≤maxLen) (hbytes:n+s.size≤140737488355328) (hbase:base≤w.heap.size) :
  ∃ v' w',(Builtin.append_ #[t,u] ty #[v,.string s]).run P w=.ok v' w'∧w'.ownsRow base e 1 v' (n+s.size) (xs++Lib.strCells s)∧w.grownBy w' v.ownBlock ∧
   (v'=.slice none 0 0↔v=.slice none 0 0∧s.size=0)∧LK w w'∧∀ k,v'.ownBlock=some k→v.ownBlock=some k∨w.heap.size≤k:=by
 obtain ⟨v',w',hr,h2,h3,h4⟩:=Lib.run_append_own_string (P:=P) w base t u ty e i ht hu hi hz hsize hby v n xs hown s h63 hbytes hbase
 refine ⟨v',w',hr,h2,h3,h4,?_⟩
 have hxl:xs.length=n:=by simpa using hown.1
 rcases hown.2 with ⟨rfl,rfl⟩ | ⟨g,cap,cur,rfl,hbg,hg,hnc,hcm,hcs,htake⟩
 ·by_cases hm:s.size=0
  ·have hv:v'=.slice none 0 0:=h4.2 ⟨rfl,hm⟩
   refine ⟨⟨fun b r hb=>⟨r,by rw [h3.block b (aS.1 hb).1 (by simp [Value.ownBlock])];exact hb,rfl,rfl,rfl,rfl,rfl⟩,fun b hb=>by rw [h3.block b (aS.1 hb).1 (by simp [Value.ownBlock])];exact hb,fun _=>?_⟩,fun k hk=>by rw [hv] at hk;cases hk⟩
   have hf:=Lib.run_firstCells_string (P:=P) w 1 s
   rw [hm] at hf
   have:(Builtin.append_ #[t,u] ty #[.slice none 0 0,.string s]).run P w=.ok (.slice none 0 0) w:=by
    simp [Builtin.append_,run_underlying ht,run_underlying hu,Go.sizeOf,typeInfo,hi,hsize,Builtin.lenOf,hm,hf]
   rw [this] at hr
   cases hr
   exact nR _
  ·have hr2:=run_append_nil_string (P:=P) w t u ty e i (.int .u8 0) ht hu hi hz s (by omega) (by omega) (by rw [hby];omega)
   rw [hr2] at hr
   cases hr
   exact ⟨(LK.drew _).trans (LK.alloc _ _),fun k hk=>by cases hk;exact .inr (nR _)⟩
 ·by_cases hroom:n+s.size≤cap
  ·have hcs':cur.size=cap:=by simpa using hcs
   have hr2:=Lib.run_append_room_string (P:=P) (w:=w) t u ty e i ht hu hi hsize g n cap cur hg s hroom (by omega)
   rw [hr2] at hr
   cases hr
   refine ⟨.of (nR _) fun b o hb hne=>?_,fun k hk=>.inl hk⟩
   by_cases hbg:b=g
   ·subst hbg
    rw [hg] at hb
    cases hb
    exact absurd rfl (hne _ _ _)
   ·rw [setRow_other w g b _ hbg];exact hb
  ·have holds:∀ j u,xs[j]? = some u→w.cell? ((⟨g,0,none⟩:Addr).add j)=some u:=hown.cells (g:=g) rfl
   have hr2:=Lib.run_append_grow_string (P:=P) (w:=w) t u ty e i (.int .u8 0) ht hu hi hz ⟨g,0,none⟩ n cap xs (by rw [hsize];simpa using hxl) holds s (by omega) (by omega) (by rw [hby];exact growslice_fits (by omega) (by omega))
   rw [hr2] at hr
   cases hr
   exact ⟨(LK.drew _).trans (LK.alloc _ _),fun k hk=>by cases hk;exact .inr (nR _)⟩
theorem wpList_append_str {ops:Array Oper} {rest:List Oper} {o:Oper} {a:Act} {Q:Exit→Act→World→Prop} (hgd:o.guard=none) (sl x:Operand) (t u:TypeId)
  (ho:o.op=.call { callee:=.builtin .append,args:=#[sl,x],argTypes:=#[t,u] })
  (base:Nat) (e:TypeId) (i:TypeInfo) (ht:P.underlying t=some (.slice e)) (hu:P.underlying u=some .string) (hi:P.info? e=some i) (hz:i.zero=some (.int .u8 0))
  (hsize:i.size=1) (hby:i.bytes=1)
  (v:Value) (n:Nat) (xs:List Value) (hs:a.eval sl=v) (hown:w.ownsRow base e 1 v n xs) (s:ByteArray) (hx:a.eval x=.string s)
  (h63:n+s.size≤maxLen) (hbytes:n+s.size≤140737488355328) (hbase:base≤w.heap.size)
  (h:∀ v' w',w'.ownsRow base e 1 v' (n+s.size) (xs++Lib.strCells s)→w.grownBy w' v.ownBlock→(v'=.slice none 0 0↔v=.slice none 0 0∧s.size=0)→LK w w'→(∀ k,v'.ownBlock=some k→v.ownBlock=some k∨w.heap.size≤k)→wpList P ops Q rest (a.put o.dst v') w'):wpList P ops Q (o::rest) a w:=by
 refine wpList_plain hgd fun K hK=>?_
 obtain ⟨v',w',hr,h2,h3,h4,h5,h6⟩:=run_append_str (P:=P) base t u o.type e i ht hu hi hz hsize hby v n xs hown s h63 hbytes hbase
 unfold Oper.wp execOp
 simp only [ho,resolve,invoke,builtin,Sem.run_bind,Sem.run_pure,Result.andThen_ok,List.map_toArray,List.map_cons,List.map_nil,hs,hx,hr]
 exact hK _ _ (h v' w' h2 h3 h4 h5 h6)
end

section
variable {P:Program} {ρ:Ren}
theorem BldChg.refl (w:World) (b:Nat) (u:Value):BldChg w w b u u:=⟨rfl,rfl,rfl,nR _,LK.refl _,fun _ _ _ _=>rfl,fun _ h=>.inl h⟩
theorem bldChg_set {w:World} {b:Nat} {u u':Value} (o:Nat) (v:Value) (h:∀ k,u'.ownBlock=some k→u.ownBlock=some k∨w.heap.size≤k):BldChg w (w.setCell ⟨b,o,none⟩ v) b u u' :=
 ⟨rfl,rfl,rfl,by simp,LK.setCell _ _ _,fun k hk hne _=>by
  show (w.heap.modify b _)[k]? = _
  rw [Array.getElem?_modify,if_neg (Ne.symm hne)],h⟩
theorem BldChg.trans {w1 w2 w3:World} {b:Nat} {u1 u2 u3:Value} (h:BldChg w1 w2 b u1 u2) (k:BldChg w2 w3 b u2 u3):BldChg w1 w3 b u1 u3 :=
 ⟨k.os.trans h.os,k.tape.trans h.tape,k.output.trans h.output,Nat.le_trans h.size k.size,h.lk.trans k.lk,fun j hj h1 h2=>by
  rw [k.block j (Nat.lt_of_lt_of_le hj h.size) h1 (fun e=>?_),h.block j hj h1 h2]
  rcases h.own j e with h3 | h3
  ·exact h2 h3
  ·omega,fun j hj=>by
  rcases k.own j hj with h1 | h1
  ·exact h.own j h1
  ·exact .inr (Nat.le_trans h.size h1)⟩
theorem freeze_same (w:World) (a:Addr) (n:Nat):(w.freeze a n).os=w.os∧(w.freeze a n).tape=w.tape∧(w.freeze a n).output=w.output∧(w.freeze a n).heap.size=w.heap.size∧(w.freeze a n).drawn=w.drawn:=by
 unfold World.freeze
 split<;>simp
def BldUsed (w:World) (b:Nat) (T e:TypeId) (u:Value) (s:List UInt8):Prop:=w.heap[b]? = some (.cells #[.pointer (some ⟨b,0,none⟩),u] T (0,0))∧w.ownsRow 0 e 1 u s.length (bytV s)∧u.ownBlock≠some b∧(s=[]→u=.slice none 0 0)
set_option maxHeartbeats 1000000 in
set_option maxRecDepth 100000 in
theorem bld_fresh (L:Lays.n240 P ρ) {T e:TypeId} (hT:BltOK P T (ρ.t 72) e) (b:Nat) (w:World) (h0:w.cell? ⟨b,0,none⟩=some (.pointer none)) (hsh:w.shape? b=some (T,2)) (hfz:w.frozen? ⟨b,0,none⟩=false) :
  Calls P (ρ.f 240) #[.pointer (some ⟨b,0,none⟩)] w fun e w'=>e=.returned (.tuple #[])∧w'=w.setCell ⟨b,0,none⟩ (.pointer (some ⟨b,0,none⟩)):=by
 obtain ⟨j,hj,hjs⟩:=Option.map_eq_some_iff.1 hT.size
 have mixed:=L.mixed
 have t72:=L.t72;have a72:=L.a72;have z72:=L.z72;have v72:=L.v72;have u72:=run_underlying L.t72
 have t70:=L.t70;have a70:=L.a70;have z70:=L.z70;have v70:=L.v70;have u70:=run_underlying L.t70
 have t9:=L.t9;have a9:=L.a9;have z9:=L.z9;have v9:=L.v9;have u9:=run_underlying L.t9
 have t4:=L.t4;have a4:=L.a4;have z4:=L.z4;have v4:=L.v4;have u4:=run_underlying L.t4
 have t164:=L.t164;have a164:=L.a164;have z164:=L.z164;have v164:=L.v164;have u164:=run_underlying L.t164
 go_enter L.f240,Body.n240_ntmps ρ
 go_wp2
 rw [Lib.run_to_unsafe w ⟨b,0,none⟩ L.t70 L.t164 hj (by rw [hjs];decide) hsh (Nat.zero_lt_succ 1)]
 simp only [Result.andThen]
 rw [Oper.upon_value]
 go_wp2
 rw [run_callFunc_extern L.f276 (by kernel_rfl) (by kernel_rfl) (by kernel_rfl) (e:=Extern.AbiNoEscape.same) (by kernel_rfl)]
 rw [Lib.run_noEscape]
 simp only [Result.andThen]
 rw [Oper.upon_value]
 go_wp2
 rw [Lib.run_from_unsafe w ⟨b,0,none⟩ L.t164 L.t70 hj hsh hT.lies]
 simp only [Result.andThen]
 rw [Oper.upon_value]
 go_wp2
 go_end0
 exact ⟨rfl,rfl⟩
theorem bld_check (L:Lays.n240 P ρ) {T e:TypeId} (hT:BltOK P T (ρ.t 72) e) (X:Builder.X72 P ρ) (b:Nat) {u:Value} {s:List UInt8} (w:World) (h:BldAt w b T e u s) :
  Calls P (ρ.f 240) #[.pointer (some ⟨b,0,none⟩)] w fun en w'=>en=.returned (.tuple #[])∧BldUsed w' b T e u s∧BldChg w w' b u u:=by
 obtain ⟨p,h1,h2,h3,h4,h5⟩:=h
 rcases h2 with rfl | rfl
 ·refine (bld_fresh L hT b w (by rw [Lib.cell_of_heap h1];rfl) (by simp [World.shape?,h1]) (Lib.frozen_of_heap h1 0)).mono ?_
  rintro en w' ⟨rfl,rfl⟩
  refine ⟨rfl,⟨?_,?_,h4,h5⟩,bldChg_set 0 _ fun _ h=>.inl h⟩
  ·show (w.heap.modify b _)[b]? = _
   rw [Array.getElem?_modify,if_pos rfl,h1]
   rfl
  ·refine ⟨h3.1,?_⟩
   rcases h3.2 with h | ⟨g,cap,cur,hv,hb,hg,hr⟩
   ·exact .inl h
   ·refine .inr ⟨g,cap,cur,hv,hb,?_,hr⟩
    have hne:b≠g:=fun e=>h4 (by rw [hv,e];rfl)
    show (w.heap.modify b _)[g]? = _
    rw [Array.getElem?_modify,if_neg hne,hg]
 ·refine (Any.Builder_copyCheck_used L X b w (by rw [Lib.cell_of_heap h1];rfl)).mono ?_
  rintro en w' ⟨rfl,rfl⟩
  exact ⟨rfl,⟨h1,h3,h4,h5⟩,BldChg.refl _ _ _⟩
set_option maxHeartbeats 2000000 in
set_option maxRecDepth 100000 in
theorem bld_write (L:Lays.n166 P ρ) (X:Builder.Extra P ρ) {T:TypeId} (hT:BltOK P T (ρ.t 72) (ρ.t 5)) (b:Nat) (u:Value) (s t:List UInt8) (w:World) (h:BldAt w b T (ρ.t 5) u s) (hlen:s.length+t.length≤140737488355328) :
  Calls P (ρ.f 166) #[.pointer (some ⟨b,0,none⟩),.string ⟨t.toArray⟩] w fun en w'=>∃ u',en=.returned (.tuple #[.int .i64 t.length,.nilIface])∧BldAt w' b T (ρ.t 5) u' (s++t)∧BldChg w w' b u u':=by
 obtain ⟨i0,hi,hz0,hz1,hz2⟩:=info_parts X.infoByte
 have hts:(ByteArray.mk t.toArray).size=t.length:=by simp [ByteArray.size]
 have mixed:=L.mixed
 have t72:=L.t72;have a72:=L.a72;have z72:=L.z72;have v72:=L.v72;have u72:=run_underlying L.t72
 have t70:=L.t70;have a70:=L.a70;have z70:=L.z70;have v70:=L.v70;have u70:=run_underlying L.t70
 have t37:=L.t37;have a37:=L.a37;have z37:=L.z37;have v37:=L.v37;have u37:=run_underlying L.t37
 have t3:=L.t3;have a3:=L.a3;have z3:=L.z3;have v3:=L.v3;have u3:=run_underlying L.t3
 have t9:=L.t9;have a9:=L.a9;have z9:=L.z9;have v9:=L.v9;have u9:=run_underlying L.t9
 have t4:=L.t4;have a4:=L.a4;have z4:=L.z4;have v4:=L.v4;have u4:=run_underlying L.t4
 have t164:=L.t164;have a164:=L.a164;have z164:=L.z164;have v164:=L.v164;have u164:=run_underlying L.t164
 have t5:=X.t5;have a5:=X.a5;have z5:=X.z5;have v5:=X.v5;have u5:=run_underlying X.t5
 have e240:∀ args w,(callFunc (ρ.f 240) args).run P w=.ok (.enter (ρ.f 240) args) w:=enters_of L.f240 (by kernel_rfl) rfl
 go_enter L.f166,Body.n166_ntmps ρ
 go_wp2_with (go_at_fn (ρ.f 240);refine (bld_check { L with } hT X.toX72 b _ h).mono ?_)
 rintro en w1 ⟨rfl,⟨hbk,hown,hne,hnil⟩,hch1⟩
 have c0:w1.cell? ⟨b,0,none⟩=some (.pointer (some ⟨b,0,none⟩)):=by rw [Lib.cell_of_heap hbk];rfl
 have c1:w1.cell? ⟨b,1,none⟩=some u:=by rw [Lib.cell_of_heap hbk];rfl
 go_wp2_with (at_builtin;refine wpList_append_str rfl _ _ (ρ.t 37) (ρ.t 9) rfl 0 (ρ.t 5) i0 L.t37 L.t9 hi hz0 hz1 hz2 _ _ _ rfl hown ⟨t.toArray⟩ rfl ?c3 ?c4 (Nat.zero_le _) ?_)
 case c3=>rw [hts];unfold maxLen;omega
 case c4=>rw [hts];omega
 intro v' w2 hown' hgrow hiff hlk how
 have hlt:b<w1.heap.size:=(aS.1 hbk).1
 have hb2:w2.heap[b]? = some (.cells #[.pointer (some ⟨b,0,none⟩),u] T (0,0)):=by
  rw [hgrow.block b hlt (fun e=>hne e.symm)]
  exact hbk
 have d0:w2.cell? ⟨b,0,none⟩=some (.pointer (some ⟨b,0,none⟩)):=by rw [Lib.cell_of_heap hb2];rfl
 have d1:w2.cell? ⟨b,1,none⟩=some u:=by rw [Lib.cell_of_heap hb2];rfl
 have f1:w2.frozen? ⟨b,1,none⟩=false:=Lib.frozen_of_heap hb2 1
 obtain ⟨ao,n',cap,rfl⟩:∃ ao n' cap,v'=.slice ao n' cap:=by
  rcases hown'.2 with ⟨hv,_⟩ | ⟨g,cap,cur,hv,_⟩
  ·exact ⟨_,_,_,hv⟩
  ·exact ⟨_,_,_,hv⟩
 go_wp2
 go_ret2
 have hneb:(Value.slice ao n' cap).ownBlock≠some b:=fun e=>by
  rcases how b e with h1 | h1
  ·exact hne h1
  ·omega
 have hcells:bytV s++Lib.strCells ⟨t.toArray⟩=bytV (s++t):=by simp [bytV,Lib.strCells]
 simp only [hts,hcells] at hown'
 refine ⟨.slice ao n' cap,by simp [ByteArray.size],⟨_,?_,.inr rfl,⟨by rw [lA];exact hown'.1,?_⟩,hneb,fun hst=>?_⟩,hch1.trans ?_⟩
 ·show (w2.heap.modify b _)[b]? = _
  rw [Array.getElem?_modify,if_pos rfl,hb2]
  rfl
 ·rw [lA]
  rcases hown'.2 with h | ⟨g,cap',cur,hv,hb,hg,hr⟩
  ·exact .inl h
  ·refine .inr ⟨g,cap',cur,hv,hb,?_,hr⟩
   have hbg:b≠g:=fun e=>hneb (by rw [hv,e];rfl)
   show (w2.heap.modify b _)[g]? = _
   rw [Array.getElem?_modify,if_neg hbg,hg]
 ·obtain ⟨rfl,rfl⟩:=List.append_eq_nil_iff.1 hst
  exact hiff.2 ⟨hnil rfl,by simp [ByteArray.size]⟩
 ·have q:BldChg w1 w2 b u (.slice ao n' cap):=⟨hgrow.os,hgrow.tape,hgrow.output,hgrow.size,hlk,fun k hk _ h2=>hgrow.block k hk (fun e=>h2 e.symm),how⟩
  exact q.trans (bldChg_set 1 _ fun _ h=>.inl h)
theorem BldChg.drew {w w':World} {b:Nat} {u:Value} (h:BldChg w w' b u (.slice none 0 0)):BldChg w w'.drew b u (.slice none 0 0) :=
 ⟨h.os,h.tape,h.output,h.size,h.lk.trans (LK.drew _),h.block,h.own⟩
set_option maxHeartbeats 1000000 in
set_option maxRecDepth 100000 in
theorem bld_str (L:Lays.n169 P ρ) (X:Builder.Extra P ρ) {T:TypeId} (b:Nat) (u:Value) (l:List UInt8) (w:World) (h:BldAt w b T (ρ.t 5) u l) :
  Calls P (ρ.f 169) #[.pointer (some ⟨b,0,none⟩)] w fun e w'=>e=.returned (.string ⟨l.toArray⟩)∧BldChg w w' b u (.slice none 0 0):=by
 obtain ⟨p,hbk,_,hown,hne,hnil⟩:=h
 have mixed:=L.mixed
 have t72:=L.t72;have a72:=L.a72;have z72:=L.z72;have v72:=L.v72;have u72:=run_underlying L.t72
 have t70:=L.t70;have a70:=L.a70;have z70:=L.z70;have v70:=L.v70;have u70:=run_underlying L.t70
 have t37:=L.t37;have a37:=L.a37;have z37:=L.z37;have v37:=L.v37;have u37:=run_underlying L.t37
 have t127:=L.t127;have a127:=L.a127;have z127:=L.z127;have v127:=L.v127;have u127:=run_underlying L.t127
 have t3:=L.t3;have a3:=L.a3;have z3:=L.z3;have v3:=L.v3;have u3:=run_underlying L.t3
 have t9:=L.t9;have a9:=L.a9;have z9:=L.z9;have v9:=L.v9;have u9:=run_underlying L.t9
 have t5:=X.t5;have a5:=X.a5;have z5:=X.z5;have v5:=X.v5;have u5:=run_underlying X.t5
 have q0:BldChg w w b u (.slice none 0 0):=⟨rfl,rfl,rfl,nR _,LK.refl _,fun _ _ _ _=>rfl,fun _ h=>by cases h⟩
 by_cases h0:l=[]
 ·have hu:=hnil h0
  subst hu
  subst h0
  have c1:w.drew.cell? ⟨b,1,none⟩=some (.slice none 0 0):=by
   have:w.drew.heap[b]? = some (.cells #[p,.slice none 0 0] T (0,0)):=hbk
   rw [Lib.cell_of_heap this];rfl
  have hSD:(Builtin.unsafeSliceData_ #[(ρ.t 37)] (ρ.t 127) #[.slice none 0 0]).run P w.drew=.ok (.pointer none) w.drew:=rfl
  have hUS:=Any.unsafeString_none L X
  go_enter L.f169,Body.n169_ntmps ρ
  go_wp2
  go_region_o
  all_goals (go_wp2;go_ret;exact ⟨rfl,q0.drew⟩)
 ·have hl0:l.length≠0:=by simpa using h0
  obtain ⟨g,cap,cur,rfl,hbg,hg,hnc,hcm,hcs,htake⟩:∃ g cap cur,u=.slice (some ⟨g,0,none⟩) l.length cap∧0≤g∧w.heap[g]? = some (.cells cur (ρ.t 5) (0,0))∧l.length≤cap∧cap≤maxLen∧cur.size=cap*1∧cur.toList.take (l.length*1)=bytV l:=by
   rcases hown.2 with ⟨_,hz⟩ | ⟨g,cap,cur,hv,r⟩
   ·exact absurd hz hl0
   ·exact ⟨g,cap,cur,hv,r⟩
  have c1:w.drew.cell? ⟨b,1,none⟩=some (.slice (some ⟨g,0,none⟩) l.length cap):=by
   have:w.drew.heap[b]? = some (.cells #[p,.slice (some ⟨g,0,none⟩) l.length cap] T (0,0)):=hbk
   rw [Lib.cell_of_heap this];rfl
  have hSD:(Builtin.unsafeSliceData_ #[(ρ.t 37)] (ρ.t 127) #[.slice (some ⟨g,0,none⟩) l.length cap]).run P w.drew=.ok (.pointer (some ⟨g,0,none⟩)) w.drew :=
   Lib.run_unsafeSliceData_row _ _ _ _ _ _ (by omega)
  have hUS:(Builtin.unsafeString_ #[(ρ.t 127),(ρ.t 3)] (ρ.t 9) #[.pointer (some ⟨g,0,none⟩),.int .i64 l.length]).run P w.drew=.ok (.string ⟨l.toArray⟩) (w.drew.freeze ⟨g,0,none⟩ l.length):=by
   refine Lib.run_unsafeString_row w.drew (ρ.t 127) (ρ.t 3) (ρ.t 9) (ρ.t 5) L.t127 X.cellsByte g cur.size (by have hg':w.drew.heap[g]? = some (.cells cur (ρ.t 5) (0,0)):=hg;simp [World.shape?,hg']) l h0 (by omega) (by unfold maxLen at hcm;omega) ?_
   intro j x hx
   have:=hown.cells (g:=g) rfl j (.int .u8 x.toNat) (by simp [bytV,hx])
   exact this
  have q1:BldChg w (w.drew.freeze ⟨g,0,none⟩ l.length) b (.slice (some ⟨g,0,none⟩) l.length cap) (.slice none 0 0):=by
   have hfr:∀ k,k≠g→(w.drew.freeze ⟨g,0,none⟩ l.length).heap[k]? = w.heap[k]? := fun k hk=>by
    unfold World.freeze
    rw [if_neg hl0]
    show (w.drew.heap.modify g _)[k]? = _
    rw [Array.getElem?_modify,if_neg (Ne.symm hk)]
    rfl
   obtain ⟨e1,e2,e3,e4,e5⟩:=freeze_same w.drew ⟨g,0,none⟩ l.length
   refine ⟨e1,e2,e3,Nat.le_of_eq e4.symm,.of (by rw [e5];exact Nat.le_succ _) fun k o hk hne=>?_,fun k hk _ h2=>hfr k fun e=>h2 (by rw [e];rfl),fun _ h=>by cases h⟩
   by_cases hkg:k=g
   ·subst hkg
    rw [hg] at hk
    cases hk
    exact absurd rfl (hne _ _ _)
   ·rw [hfr k hkg];exact hk
  go_enter L.f169,Body.n169_ntmps ρ
  go_wp2
  go_region_o
  all_goals (go_wp2;go_ret;exact ⟨rfl,q1⟩)
theorem ext_wstr (L:Lays.n166 P ρ) (X:Builder.Extra P ρ) {f TB e:Nat} (hf:ρ.f 166=f) (hT:ρ.t 72=TB) (he:ρ.t 5=e) (en:∀ (args:Array Value) (w:World),(callFunc f args).run P w=.ok (.enter f args) w):ExtOK P f (.wstr TB e):=by
 subst hf hT he
 exact ⟨en,fun T hT b u s t w h hl=>bld_write L X hT b u s t w h hl⟩
theorem ext_stri (L:Lays.n169 P ρ) (X:Builder.Extra P ρ) {f TB e:Nat} (hf:ρ.f 169=f) (hT:ρ.t 72=TB) (he:ρ.t 5=e) (en:∀ (args:Array Value) (w:World),(callFunc f args).run P w=.ok (.enter f args) w):ExtOK P f (.stri TB e):=by
 subst hf hT he
 exact ⟨en,fun T hT b u s w h=>bld_str L X b u s w h⟩
end
section
variable {P:Program} {ρ:Ren} {S:Cells} {w w':World} {η:Eta}
theorem keep_below (hin:InW S w) (h:Below w.heap.size w w'):Keep S w S w':=⟨fun _ _ h=>h,fun b o hb=>h.cell (p:=⟨b,o,none⟩) (hin.lt b o hb)⟩
theorem grow_below (hin:InW S w) (h:Below w.heap.size w w') (hl:LK w w'):Grow w.heap.size S w S w':=⟨h,keep_below hin h,fun b o hb=>Nat.lt_of_lt_of_le (hin.lt b o hb) h.size,fun _ _ h=>.inl h,hl⟩
theorem rv_str {x:List UInt8} {v:Value} (h:RM S w η (Ty.str.rv x) v):v=.string ⟨x.toArray⟩∧x.length≤maxLen:=(PM.str (S:=S) (w:=w) (η:=η)).1 h
theorem rv_int {x:Int} {v:Value} (h:RM S w η ((Ty.int .i64).rv x) v):v=.int .i64 x∧IntKind.i64.has x:=(PM.int (S:=S) (w:=w) (η:=η)).1 h
theorem pm_str {x:List UInt8} (h:x.length≤maxLen):PM S w η (dB (rvs [.str] x)) (.string ⟨x.toArray⟩):=(PM.str (S:=S) (w:=w) (η:=η)).2 ⟨rfl,h⟩
theorem gF {α:Type} (p:α→Bool):∀ l:List α,(l.dropWhile p).length≤l.length
 | []=>nR _
 | x::l=>by
  unfold List.dropWhile
  split
  ·exact Nat.le_trans (gF p l) (Nat.le_succ _)
  ·exact nR _
theorem trimS_length (s c:List UInt8):(Lib.trimS s c).length≤s.length:=by
 unfold Lib.trimS Lib.trimLeftS Lib.trimRightS
 refine Nat.le_trans (gF _ _) ?_
 rw [List.length_reverse]
 refine Nat.le_trans (gF _ _) ?_
 rw [List.length_reverse]
 exact nR _
theorem spec_trim (hd:drawsB=false) (L:Lays.n160 P ρ) (h116:(P.info? (ρ.t 116)).map (fun i=>(i.zero,i.size))=some (some (.agg (Array.replicate 256 (.bool false))),256)) {f:Nat} (hf:ρ.f 160=f):SpecOK P f ⟨[.str,.str],[.str],fun x=>trimM x.1 x.2⟩:=by
 subst hf
 intro x r hr S w η vs hi hv
 have hr:trimM x.1 x.2=some r:=hr
 unfold trimM at hr
 split at hr
 ·rename_i c1 c2
  have c2:=oD c2
  have hr:=Option.some.inj hr
  cases hv with
  | cons h1 h2 =>
   cases h2 with
   | cons h2 h3 =>
    cases h3
    obtain ⟨rfl,l1⟩:=rv_str h1
    obtain ⟨rfl,l2⟩:=rv_str h2
    refine (Any.strings_Trim_laid L h116 ⟨x.1.toArray⟩ ⟨x.2.toArray⟩ w (by simpa [ByteArray.size,maxLen] using l1) (by simpa [ByteArray.size] using c2) (ascii_of_all (by simpa using c1))).mono fun en w' ⟨he,hw⟩=>?_
    refine ⟨_,S,he,grow_below hi hw (.below hd hw.block),?_⟩
    rw [← hr]
    exact pm_str (Nat.le_trans (trimS_length _ _) l1)
 ·cases hr
theorem spec_rept (hd:drawsB=false) (L:Lays.n105 P ρ) (X:Builder.Extra P ρ) {f:Nat} (hf:ρ.f 105=f):SpecOK P f ⟨[.str,.int .i64],[.str],fun x=>rptM x.1 x.2⟩:=by
 subst hf
 intro x r hr S w η vs hi hv
 have hr:rptM x.1 x.2=some r:=hr
 unfold rptM at hr
 split at hr
 ·rename_i c1 c2 c3
  have c1:=oD c1
  have c2:=oD c2
  have c3:=oD c3
  have hr:=Option.some.inj hr
  cases hv with
  | cons h1 h2 =>
   cases h2 with
   | cons h2 h3 =>
    cases h3
    obtain ⟨rfl,l1⟩:=rv_str h1
    obtain ⟨rfl,l2⟩:=rv_int h2
    have hc:=Any.strings_Repeat L X ⟨x.1.toArray⟩ x.2.toNat w (by omega) (by simpa [ByteArray.size] using c2)
    rw [Int.toNat_of_nonneg c1] at hc
    refine hc.mono fun en w' ⟨he,hw⟩=>?_
    refine ⟨_,S,he,grow_below hi hw (.below hd hw.block),?_⟩
    rw [← hr]
    refine pm_str ?_
    rw [Lib.repeatL_length,Nat.mul_comm]
    unfold maxLen
    omega
 ·cases hr
end
def fH (xs:List (List UInt8)) (sep:List UInt8):Option (List UInt8):=match decide ((Lib.join xs sep).length≤140737488355328),decide (xs.length≤140737488355328) with
 | true,true=>some (Lib.join xs sep)
 | _,_=>none
section
variable {P:Program} {ρ:Ren}
theorem spec_join (hd:drawsB=false) (L:Lays.n156 P ρ) (X:Builder.Extra P ρ) {f:Nat} (hf:ρ.f 156=f):SpecOK P f ⟨[.list .str,.str],[.str],fun x=>fH x.1 x.2⟩:=by
 subst hf
 intro x r hr S w η vs hi hv
 have hr:fH x.1 x.2=some r:=hr
 obtain ⟨xs,sep⟩:=x
 have hr:fH xs sep=some r:=hr
 unfold fH at hr
 split at hr
 ·rename_i c1 c2
  have c1:=oD c1
  have c2:=oD c2
  have hr:=Option.some.inj hr
  cases hv with
  | cons h1 h2 =>
   cases h2 with
   | cons h2 h3 =>
    cases h3
    obtain ⟨rfl,l2⟩:=rv_str h2
    have h1':CM S w η (.d (.list .str) xs) _:=h1
    obtain ⟨base,cap,rfl,b1,b2,b3⟩:=VRep.slice h1'.2
    have hmap:(xs.map fun x=>(⟨x.toArray⟩:ByteArray)).map (·.data.toList)=xs:=by rw [List.map_map];exact (List.map_congr_left fun x _=>rfl).trans (List.map_id _)
    have fin:Calls P (ρ.f 156) #[.slice base xs.length cap,.string ⟨sep.toArray⟩] w fun e w'=>e=.returned (.string ⟨(Lib.join xs sep).toArray⟩)∧Below w.heap.size w w':=by
     rcases b3 with b3 | ⟨b,off,rfl,b3⟩
     ·have:xs=[]:=lN b3
      subst this
      exact (Any.strings_Join_none L X base cap ⟨sep.toArray⟩ w).mono fun e w' ⟨he,hw⟩=>⟨he,hw▸Below.refl _ _⟩
     ·by_cases h0:xs.length=0
      ·have:xs=[]:=lN h0
       subst this
       exact (Any.strings_Join_none L X _ cap ⟨sep.toArray⟩ w).mono fun e w' ⟨he,hw⟩=>⟨he,hw▸Below.refl _ _⟩
      have hcell:∀ i (x:List UInt8),xs[i]? = some x→S b (off+i)∧w.cell? ⟨b,off+i,none⟩=some (.string ⟨x.toArray⟩):=fun i x hx=>by
       obtain ⟨es,⟨rfl,_⟩,h5⟩:=b3 i x hx
       have:=h5 0 _ rfl
       rwa [show off+i*Ty.str.size+0=off+i by show off+i*1+0=_;omega] at this
      have hb:b<w.heap.size:=hi.lt b (off+0) (hcell 0 _ (gE (by omega))).1
      have:=Any.strings_Join L X b off cap (xs.map fun x=>(⟨x.toArray⟩:ByteArray)) ⟨sep.toArray⟩ w (fun j x hx=>by
       rw [List.getElem?_map] at hx
       cases hy:xs[j]? with
       | none=>rw [hy] at hx;cases hx
       | some y=>rw [hy] at hx;cases hx;exact (hcell j y hy).2) hb (by simpa using c2) (by simpa using b1) (by rw [hmap];simpa using c1)
      rw [hmap,List.length_map] at this
      simpa using this
    refine fin.mono fun en w' ⟨he,hw⟩=>?_
    refine ⟨_,S,he,grow_below hi hw (.below hd hw.block),?_⟩
    rw [← hr]
    refine pm_str ?_
    unfold maxLen
    omega
 ·cases hr
end
end Go.PE
namespace Go.PE
open Go Go.RowKit Go.Abs Go.Shelf Go.Proofs
variable [db:DB] [ea:EA]
variable {P:Program} {ρ:Ren}
theorem ext_grow (L:Lays8.n4 P ρ) {f:Nat} (hf:ρ.f 4=f) {T:Ty} (h25:(P.info? (ρ.t 25)).map (fun i=>(i.zero.map Value.cells,i.size,Nat.ble i.bytes 128))=some (some T.zero.toArray,T.size,true))
  (en:∀ (args:Array Value) (w:World),(callFunc f args).run P w=.ok (.enter f args) w):ExtOK P f (.grow T):=by
 subst hf
 refine ⟨en,fun n n0 n1 S w hi=>?_⟩
 obtain ⟨i,hi0,z,hz,hc,hs,hb⟩:∃ i,P.info? (ρ.t 25)=some i∧∃ z,i.zero=some z∧z.cells=T.zero.toArray∧i.size=T.size∧i.bytes≤128:=by
  cases hq:P.info? (ρ.t 25) with
  | none=>rw [hq] at h25;cases h25
  | some i =>
   rw [hq] at h25
   simp only [Option.map_some,Option.some.injEq,Prod.mk.injEq] at h25
   obtain ⟨a,b,c⟩:=h25
   cases hz:i.zero with
   | none=>rw [hz] at a;cases a
   | some z=>rw [hz] at a;exact ⟨i,rfl,z,hz,Option.some.inj a,b,nL c⟩
 obtain ⟨m,rfl⟩:∃ m:Nat,n=(m:Int):=⟨n.toNat,by omega⟩
 have hpos:=T.size_pos
 by_cases hm0:m=0
 ·subst hm0
  refine (Any8.slices_Grow_room L none 0 0 0 w (by omega) (by omega) (by omega) (by omega)).mono fun en w' ⟨he,hw⟩=>?_
  subst hw
  exact ⟨_,S,fun _ _=>False,he,rfl,Grow.refl hi,⟨none,0,rfl,nR _,Nat.zero_le _,.inl ⟨rfl,fun _ _ h=>h⟩⟩,fun _ _ h=>h.elim⟩
 have hG:=yJ w (0+m) 0 (ρ.t 25) (by omega)
 have hbig:(0+m)*i.bytes≤1000000*128:=Nat.mul_le_mul (by omega) hb
 have hcall:=Any8.slices_Grow_grow L i z hi0 hz (by omega) none 0 0 m [] w (nR _) (by omega) (by omega) (by omega) (by simp) (fun _=>rfl) (fun a ha=>by cases ha)
 refine hcall.mono fun en w' ⟨he,hw⟩=>?_
 subst hw
 generalize grownCap w (0+m) 0 (ρ.t 25)=G at *
 have hsz:(([]:List Value).toArray++Builtin.zeroCells z.cells (0+m-0)++Builtin.zeroCells z.cells (G-(0+m))).size=G*T.size:=by
  rw [Array.size_append,Array.size_append,hc,qE,qE]
  simp only [List.size_toArray,List.length_nil,T.zero_length]
  rw [Nat.zero_add,← Nat.add_mul]
  congr 1;omega
 generalize ([]:List Value).toArray++Builtin.zeroCells z.cells (0+m-0)++Builtin.zeroCells z.cells (G-(0+m))=cs at *
 have hsize:∀ v:World,(v.alloc (.cells cs (ρ.t 25))).heap.size=v.heap.size+1:=fun v=>by simp
 refine ⟨_,S,fun b o=>b=w.heap.size∧o<G*T.size,he,rfl,⟨((Below.refl _ _).drew).alloc (nR _) _,⟨fun _ _ h=>h,fun b o h=>World.cell?_alloc_lt _ _ _ (hi.lt b o h)⟩,fun b o h=>by have:=hi.lt b o h;rw [hsize w.drew];show b<w.heap.size+1;omega,fun _ _ h=>.inl h,(LK.drew _).trans (LK.alloc _ _)⟩,?_,fun b o h=>?_⟩
 ·refine ⟨_,G,rfl,Nat.zero_le _,by simp only [maxLen];omega,.inr ⟨w.heap.size,0,rfl,fun b' o=>by simp,fun o h1 h2=>?_,fun i x hx=>by simp at hx⟩⟩
  have ho:o<cs.size:=by omega
  refine ⟨⟨cs[o],?_⟩,World.frozen?_alloc_new _ _ _ _⟩
  have:=World.cell?_alloc_new w.drew cs (ρ.t 25) o
  rw [show w.drew.heap.size=w.heap.size from rfl] at this
  rw [this];simp [ho]
 ·obtain ⟨rfl,h⟩:=h
  exact ⟨nR _,by rw [hsize w.drew];exact Nat.lt_succ_self _,fun hs'=>absurd (hi.lt _ _ hs') (by omega)⟩
end Go.PE
namespace Go.Proofs.YtdjfiampkhfooaaGreatDoor
open Go Go.Abs Go.PE Go.Proofs
open Go.RowKit Go.Extern.Stop Go.Stop Go.Extern
set_option maxRecDepth 100000
theorem isTypeOf (v:Value) (w:World):(Extern.ReflectliteType.typeOf #[.iface 278 v]).run Tryz.prog w=.ok (.iface 227 (.agg #[.pointer (some ⟨5,278,none⟩)])) w:=by kernel_rfl
theorem isComparable (w:World):((Extern.ReflectliteType.method fun t=>do Extern.Rtype.noPackHeld "Comparable" t;(fun a=>Value.bool a.comparable) <$> typeInfo t) #[.agg #[.pointer (some ⟨5,278,none⟩)]]).run Tryz.prog w=.ok (.bool true) w:=by kernel_rfl
theorem isMethodComparable (v:Value) (w:World):(Go.method 411 227 v "Comparable").run Tryz.prog w=.ok (232,v) w:=by kernel_rfl
theorem isComp:(Tryz.prog.info? 278).map (·.comparable)=some true:=by kernel_rfl
theorem isSize:(Tryz.prog.info? 300).map (·.size)=some 1:=by kernel_rfl
theorem isE_same (a:Addr) (w:World) :
  Calls Tryz.prog 86 #[.iface 278 (.pointer (some a)),.iface 278 (.pointer (some a))] w fun e w'=>e=.returned (.bool true)∧w'=w:=by
 obtain ⟨i,hi,hcmp⟩:=Option.map_eq_some_iff.1 isComp
 obtain ⟨j,hj,hjs⟩:=Option.map_eq_some_iff.1 isSize
 have h8:=@run_callFunc_extern Tryz.prog 134 _ Extern.ReflectliteType.typeOf Tryz.func134 (by kernel_rfl) (by kernel_rfl) (by kernel_rfl) (by kernel_rfl)
 have h32:=@run_callFunc_extern Tryz.prog 232 _ (Extern.ReflectliteType.method fun t=>do Extern.Rtype.noPackHeld "Comparable" t;pure (.bool (← typeInfo t).comparable)) Tryz.func232 (by kernel_rfl) (by kernel_rfl) (by kernel_rfl) (by kernel_rfl)
 have tT:=isTypeOf
 have cT:=isComparable
 have mR:=isMethodComparable
 have heq:=run_eql_iface_ptr_same (P:=Tryz.prog) w a Tryz.underlying98 Tryz.underlying278 hi hcmp hj
 go_enter Tryz.func86,Tryz.ntmps86
 go_wp2
 refine wp_loop_rounds 1 ?_
 rw [rounds_succ]
 go_wp2
 go_ret
 exact ⟨rfl,rfl⟩
theorem isE_as (v:Value) (xT:TypeId) (w:World):(Instr.typeAssert (.iface 278 v) xT 98 true).run Tryz.prog w=.ok (.tuple #[.iface 278 v,.bool true]) w:=run_typeAssert_hasB Tryz.underlying98 (by kernel_rfl) v xT w
theorem isE_nil (xT:TypeId) (w:World):(Instr.typeAssert .nilIface xT 98 true).run Tryz.prog w=.ok (.tuple #[.nilIface,.bool false]) w:=by kernel_rfl
theorem isE_ok [DB] [EA]:ExtOK Tryz.prog 86 (.isE 278 98):=⟨Tryz.call86,isE_same,fun v xT w=>isE_as v xT w,fun xT w=>isE_nil xT w⟩
end Go.Proofs.YtdjfiampkhfooaaGreatDoor
namespace Go.Proofs
open Go.Shelf
def Tryz.lays1105_ren:Go.Shelf.Ren:=⟨fun | 189=>105 | 125=>123 | 257=>147 | 128=>167 | 129=>168 | 294=>177 | 295=>178 | 296=>179 | 297=>180 | 298=>181 | 299=>182 | 216=>183 | 300=>184 | 301=>185 | 328=>204 | 329=>194 | 330=>195 | 331=>205 | 332=>206 | 215=>124 | 343=>211 | n=>n,fun | 28=>23 | 3=>3 | 46=>167 | 0=>0 | 51=>177 | 53=>222 | 4=>4 | 183=>215 | 182=>214 | 131=>119 | 5=>5 | 9=>9 | 218=>257 | 222=>162 | 228=>274 | 229=>275 | n=>n,fun | n=>n⟩
theorem Tryz.lays1105:Go.Proofs.Lays.n189 Tryz.prog Tryz.lays1105_ren:={
 mixed:=by kernel_rfl
 f125:=Tryz.func123.trans (congrArg some (by kernel_rfl))
 f128:=Tryz.func167.trans (congrArg some (by kernel_rfl))
 f129:=Tryz.func168.trans (congrArg some (by kernel_rfl))
 f189:=Tryz.func105.trans (congrArg some (by kernel_rfl))
 f215:=Tryz.func124.trans (congrArg some (by kernel_rfl))
 f216:=Tryz.func183.trans (congrArg some (by kernel_rfl))
 f257:=Tryz.func147.trans (congrArg some (by kernel_rfl))
 f294:=Tryz.func177.trans (congrArg some (by kernel_rfl))
 f295:=Tryz.func178.trans (congrArg some (by kernel_rfl))
 f296:=Tryz.func179.trans (congrArg some (by kernel_rfl))
 f297:=Tryz.func180.trans (congrArg some (by kernel_rfl))
 f298:=Tryz.func181.trans (congrArg some (by kernel_rfl))
 f299:=Tryz.func182.trans (congrArg some (by kernel_rfl))
 f300:=Tryz.func184.trans (congrArg some (by kernel_rfl))
 f301:=Tryz.func185.trans (congrArg some (by kernel_rfl))
 f328:=Tryz.func204.trans (congrArg some (by kernel_rfl))
 f329:=Tryz.func194.trans (congrArg some (by kernel_rfl))
 f330:=Tryz.func195.trans (congrArg some (by kernel_rfl))
 f331:=Tryz.func205.trans (congrArg some (by kernel_rfl))
 f332:=Tryz.func206.trans (congrArg some (by kernel_rfl))
 f343:=Tryz.func211.trans (congrArg some (by kernel_rfl))
 t0:=Tryz.underlying0
 a0:=Tryz.isAgg0
 z0:=Tryz.sizeOf0
 v0:=Tryz.zeroValue0
 t3:=Tryz.underlying3
 a3:=Tryz.isAgg3
 z3:=Tryz.sizeOf3
 v3:=Tryz.zeroValue3
 t4:=Tryz.underlying4
 a4:=Tryz.isAgg4
 z4:=Tryz.sizeOf4
 v4:=Tryz.zeroValue4
 t5:=Tryz.underlying5
 a5:=Tryz.isAgg5
 z5:=Tryz.sizeOf5
 v5:=Tryz.zeroValue5
 t9:=Tryz.underlying9
 a9:=Tryz.isAgg9
 z9:=Tryz.sizeOf9
 v9:=Tryz.zeroValue9
 t28:=Tryz.underlying23
 a28:=Tryz.isAgg23
 z28:=Tryz.sizeOf23
 v28:=Tryz.zeroValue23
 t46:=Tryz.underlying167
 a46:=Tryz.isAgg167
 z46:=Tryz.sizeOf167
 v46:=Tryz.zeroValue167
 t51:=Tryz.underlying177
 a51:=Tryz.isAgg177
 z51:=Tryz.sizeOf177
 v51:=Tryz.zeroValue177
 t53:=Tryz.underlying222
 a53:=Tryz.isAgg222
 z53:=Tryz.sizeOf222
 v53:=Tryz.zeroValue222
 t131:=Tryz.underlying119
 a131:=Tryz.isAgg119
 z131:=Tryz.sizeOf119
 v131:=Tryz.zeroValue119
 t182:=Tryz.underlying214
 a182:=Tryz.isAgg214
 z182:=Tryz.sizeOf214
 v182:=Tryz.zeroValue214
 t183:=Tryz.underlying215
 a183:=Tryz.isAgg215
 z183:=Tryz.sizeOf215
 v183:=Tryz.zeroValue215
 t218:=Tryz.underlying257
 a218:=Tryz.isAgg257
 z218:=Tryz.sizeOf257
 v218:=Tryz.zeroValue257
 t222:=Tryz.underlying162
 a222:=Tryz.isAgg162
 z222:=Tryz.sizeOf162
 v222:=Tryz.zeroValue162
 t228:=Tryz.underlying274
 a228:=Tryz.isAgg274
 z228:=Tryz.sizeOf274
 v228:=Tryz.zeroValue274
 t229:=Tryz.underlying275
 a229:=Tryz.isAgg275
 z229:=Tryz.sizeOf275
 v229:=Tryz.zeroValue275 }
def Tryz.lays152_ren:Go.Shelf.Ren:=⟨fun | 20=>52 | n=>n,fun | 22=>23 | 3=>3 | 4=>4 | 0=>0 | n=>n,fun | n=>n⟩
theorem Tryz.lays152:Go.Proofs.Lays2.n20 Tryz.prog Tryz.lays152_ren:={
 mixed:=by kernel_rfl
 f20:=Tryz.func52.trans (congrArg some (by kernel_rfl))
 t0:=Tryz.underlying0
 a0:=Tryz.isAgg0
 z0:=Tryz.sizeOf0
 v0:=Tryz.zeroValue0
 t3:=Tryz.underlying3
 a3:=Tryz.isAgg3
 z3:=Tryz.sizeOf3
 v3:=Tryz.zeroValue3
 t4:=Tryz.underlying4
 a4:=Tryz.isAgg4
 z4:=Tryz.sizeOf4
 v4:=Tryz.zeroValue4
 t22:=Tryz.underlying23
 a22:=Tryz.isAgg23
 z22:=Tryz.sizeOf23
 v22:=Tryz.zeroValue23
 i3:=by kernel_rfl }
def Tryz.lays138_ren:Go.Shelf.Ren:=⟨fun | 160=>38 | 232=>89 | 231=>88 | 227=>90 | 234=>92 | 233=>91 | 236=>94 | 235=>93 | 228=>138 | 271=>141 | 151=>140 | 197=>139 | 120=>175 | 152=>174 | 260=>173 | 137=>199 | 119=>200 | 224=>201 | 225=>202 | 217=>210 | 266=>212 | n=>n,fun | 9=>9 | 4=>4 | 3=>3 | 5=>5 | 117=>139 | 116=>138 | 0=>0 | 124=>142 | 21=>21 | 105=>190 | 46=>167 | 119=>263 | 139=>266 | 138=>265 | n=>n,fun | 3=>2 | 4=>3 | n=>n⟩
theorem Tryz.lays138:Go.Proofs.Lays.n160 Tryz.prog Tryz.lays138_ren:={
 mixed:=by kernel_rfl
 f119:=Tryz.func200.trans (congrArg some (by kernel_rfl))
 f120:=Tryz.func175.trans (congrArg some (by kernel_rfl))
 f137:=Tryz.func199.trans (congrArg some (by kernel_rfl))
 f151:=Tryz.func140.trans (congrArg some (by kernel_rfl))
 f152:=Tryz.func174.trans (congrArg some (by kernel_rfl))
 f160:=Tryz.func38.trans (congrArg some (by kernel_rfl))
 f197:=Tryz.func139.trans (congrArg some (by kernel_rfl))
 f217:=Tryz.func210.trans (congrArg some (by kernel_rfl))
 f224:=Tryz.func201.trans (congrArg some (by kernel_rfl))
 f225:=Tryz.func202.trans (congrArg some (by kernel_rfl))
 f227:=Tryz.func90.trans (congrArg some (by kernel_rfl))
 f228:=Tryz.func138.trans (congrArg some (by kernel_rfl))
 f231:=Tryz.func88.trans (congrArg some (by kernel_rfl))
 f232:=Tryz.func89.trans (congrArg some (by kernel_rfl))
 f233:=Tryz.func91.trans (congrArg some (by kernel_rfl))
 f234:=Tryz.func92.trans (congrArg some (by kernel_rfl))
 f235:=Tryz.func93.trans (congrArg some (by kernel_rfl))
 f236:=Tryz.func94.trans (congrArg some (by kernel_rfl))
 f260:=Tryz.func173.trans (congrArg some (by kernel_rfl))
 f266:=Tryz.func212.trans (congrArg some (by kernel_rfl))
 f271:=Tryz.func141.trans (congrArg some (by kernel_rfl))
 t0:=Tryz.underlying0
 a0:=Tryz.isAgg0
 z0:=Tryz.sizeOf0
 v0:=Tryz.zeroValue0
 t3:=Tryz.underlying3
 a3:=Tryz.isAgg3
 z3:=Tryz.sizeOf3
 v3:=Tryz.zeroValue3
 t4:=Tryz.underlying4
 a4:=Tryz.isAgg4
 z4:=Tryz.sizeOf4
 v4:=Tryz.zeroValue4
 t5:=Tryz.underlying5
 a5:=Tryz.isAgg5
 z5:=Tryz.sizeOf5
 v5:=Tryz.zeroValue5
 t9:=Tryz.underlying9
 a9:=Tryz.isAgg9
 z9:=Tryz.sizeOf9
 v9:=Tryz.zeroValue9
 t21:=Tryz.underlying21
 a21:=Tryz.isAgg21
 z21:=Tryz.sizeOf21
 v21:=Tryz.zeroValue21
 t46:=Tryz.underlying167
 a46:=Tryz.isAgg167
 z46:=Tryz.sizeOf167
 v46:=Tryz.zeroValue167
 t105:=Tryz.underlying190
 a105:=Tryz.isAgg190
 z105:=Tryz.sizeOf190
 v105:=Tryz.zeroValue190
 t116:=Tryz.underlying138
 a116:=Tryz.isAgg138
 z116:=Tryz.sizeOf138
 t117:=Tryz.underlying139
 a117:=Tryz.isAgg139
 z117:=Tryz.sizeOf139
 v117:=Tryz.zeroValue139
 t119:=Tryz.underlying263
 a119:=Tryz.isAgg263
 z119:=Tryz.sizeOf263
 t124:=Tryz.underlying142
 a124:=Tryz.isAgg142
 z124:=Tryz.sizeOf142
 v124:=Tryz.zeroValue142
 t138:=Tryz.underlying265
 a138:=Tryz.isAgg265
 z138:=Tryz.sizeOf265
 v138:=Tryz.zeroValue265
 t139:=Tryz.underlying266
 a139:=Tryz.isAgg266
 z139:=Tryz.sizeOf266
 v139:=Tryz.zeroValue266
 g3:=by kernel_rfl
 g4:=by kernel_rfl }
def Tryz.lays1114_ren:Go.Shelf.Ren:=⟨fun | 105=>114 | 212=>150 | 99=>151 | 165=>152 | 166=>48 | 170=>153 | 169=>50 | 263=>186 | 264=>187 | 206=>188 | 240=>101 | 241=>189 | 276=>144 | 277=>207 | n=>n,fun | 9=>9 | 3=>3 | 4=>4 | 20=>20 | 0=>0 | 46=>167 | 109=>203 | 5=>5 | 72=>96 | 76=>99 | 51=>177 | 146=>247 | 53=>222 | 148=>249 | 70=>94 | 37=>72 | 75=>98 | 127=>153 | 164=>195 | 80=>101 | n=>n,fun | n=>n⟩
theorem Tryz.lays1114:Go.Proofs.Lays.n105 Tryz.prog Tryz.lays1114_ren:={
 mixed:=by kernel_rfl
 f99:=Tryz.func151.trans (congrArg some (by kernel_rfl))
 f105:=Tryz.func114.trans (congrArg some (by kernel_rfl))
 f165:=Tryz.func152.trans (congrArg some (by kernel_rfl))
 f166:=Tryz.func48.trans (congrArg some (by kernel_rfl))
 f169:=Tryz.func50.trans (congrArg some (by kernel_rfl))
 f170:=Tryz.func153.trans (congrArg some (by kernel_rfl))
 f206:=Tryz.func188.trans (congrArg some (by kernel_rfl))
 f212:=Tryz.func150.trans (congrArg some (by kernel_rfl))
 f240:=Tryz.func101.trans (congrArg some (by kernel_rfl))
 f241:=Tryz.func189.trans (congrArg some (by kernel_rfl))
 f263:=Tryz.func186.trans (congrArg some (by kernel_rfl))
 f264:=Tryz.func187.trans (congrArg some (by kernel_rfl))
 f276:=Tryz.func144.trans (congrArg some (by kernel_rfl))
 f277:=Tryz.func207.trans (congrArg some (by kernel_rfl))
 t0:=Tryz.underlying0
 a0:=Tryz.isAgg0
 z0:=Tryz.sizeOf0
 v0:=Tryz.zeroValue0
 t3:=Tryz.underlying3
 a3:=Tryz.isAgg3
 z3:=Tryz.sizeOf3
 v3:=Tryz.zeroValue3
 t4:=Tryz.underlying4
 a4:=Tryz.isAgg4
 z4:=Tryz.sizeOf4
 v4:=Tryz.zeroValue4
 t5:=Tryz.underlying5
 a5:=Tryz.isAgg5
 z5:=Tryz.sizeOf5
 v5:=Tryz.zeroValue5
 t9:=Tryz.underlying9
 a9:=Tryz.isAgg9
 z9:=Tryz.sizeOf9
 v9:=Tryz.zeroValue9
 t20:=Tryz.underlying20
 a20:=Tryz.isAgg20
 z20:=Tryz.sizeOf20
 v20:=Tryz.zeroValue20
 t37:=Tryz.underlying72
 a37:=Tryz.isAgg72
 z37:=Tryz.sizeOf72
 v37:=Tryz.zeroValue72
 t46:=Tryz.underlying167
 a46:=Tryz.isAgg167
 z46:=Tryz.sizeOf167
 v46:=Tryz.zeroValue167
 t51:=Tryz.underlying177
 a51:=Tryz.isAgg177
 z51:=Tryz.sizeOf177
 v51:=Tryz.zeroValue177
 t53:=Tryz.underlying222
 a53:=Tryz.isAgg222
 z53:=Tryz.sizeOf222
 v53:=Tryz.zeroValue222
 t70:=Tryz.underlying94
 a70:=Tryz.isAgg94
 z70:=Tryz.sizeOf94
 v70:=Tryz.zeroValue94
 t72:=Tryz.underlying96
 a72:=Tryz.isAgg96
 z72:=Tryz.sizeOf96
 v72:=Tryz.zeroValue96
 t75:=Tryz.underlying98
 a75:=Tryz.isAgg98
 z75:=Tryz.sizeOf98
 v75:=Tryz.zeroValue98
 t76:=Tryz.underlying99
 a76:=Tryz.isAgg99
 z76:=Tryz.sizeOf99
 v76:=Tryz.zeroValue99
 t109:=Tryz.underlying203
 a109:=Tryz.isAgg203
 z109:=Tryz.sizeOf203
 v109:=Tryz.zeroValue203
 t127:=Tryz.underlying153
 a127:=Tryz.isAgg153
 z127:=Tryz.sizeOf153
 v127:=Tryz.zeroValue153
 t146:=Tryz.underlying247
 a146:=Tryz.isAgg247
 z146:=Tryz.sizeOf247
 v146:=Tryz.zeroValue247
 t148:=Tryz.underlying249
 a148:=Tryz.isAgg249
 z148:=Tryz.sizeOf249
 v148:=Tryz.zeroValue249
 t164:=Tryz.underlying195
 a164:=Tryz.isAgg195
 z164:=Tryz.sizeOf195
 v164:=Tryz.zeroValue195 }
def Tryz.lays150_ren:Go.Shelf.Ren:=⟨fun | 169=>50 | n=>n,fun | 70=>94 | 9=>9 | 0=>0 | 72=>96 | 37=>72 | 127=>153 | 3=>3 | 5=>5 | n=>n,fun | n=>n⟩
theorem Tryz.lays150:Go.Proofs.Lays.n169 Tryz.prog Tryz.lays150_ren:={
 mixed:=by kernel_rfl
 f169:=Tryz.func50.trans (congrArg some (by kernel_rfl))
 t0:=Tryz.underlying0
 a0:=Tryz.isAgg0
 z0:=Tryz.sizeOf0
 v0:=Tryz.zeroValue0
 t3:=Tryz.underlying3
 a3:=Tryz.isAgg3
 z3:=Tryz.sizeOf3
 v3:=Tryz.zeroValue3
 t9:=Tryz.underlying9
 a9:=Tryz.isAgg9
 z9:=Tryz.sizeOf9
 v9:=Tryz.zeroValue9
 t37:=Tryz.underlying72
 a37:=Tryz.isAgg72
 z37:=Tryz.sizeOf72
 v37:=Tryz.zeroValue72
 t70:=Tryz.underlying94
 a70:=Tryz.isAgg94
 z70:=Tryz.sizeOf94
 v70:=Tryz.zeroValue94
 t72:=Tryz.underlying96
 a72:=Tryz.isAgg96
 z72:=Tryz.sizeOf96
 v72:=Tryz.zeroValue96
 t127:=Tryz.underlying153
 a127:=Tryz.isAgg153
 z127:=Tryz.sizeOf153
 v127:=Tryz.zeroValue153 }
def Tryz.lays1120_ren:Go.Shelf.Ren:=⟨fun | 156=>120 | 165=>152 | 166=>48 | 169=>50 | 240=>101 | 241=>189 | 276=>144 | 277=>207 | n=>n,fun | 31=>44 | 9=>9 | 3=>3 | 4=>4 | 0=>0 | 20=>20 | 72=>96 | 76=>99 | 70=>94 | 37=>72 | 75=>98 | 127=>153 | 164=>195 | 5=>5 | 80=>101 | n=>n,fun | n=>n⟩
theorem Tryz.lays1120:Go.Proofs.Lays.n156 Tryz.prog Tryz.lays1120_ren:={
 mixed:=by kernel_rfl
 f156:=Tryz.func120.trans (congrArg some (by kernel_rfl))
 f165:=Tryz.func152.trans (congrArg some (by kernel_rfl))
 f166:=Tryz.func48.trans (congrArg some (by kernel_rfl))
 f169:=Tryz.func50.trans (congrArg some (by kernel_rfl))
 f240:=Tryz.func101.trans (congrArg some (by kernel_rfl))
 f241:=Tryz.func189.trans (congrArg some (by kernel_rfl))
 f276:=Tryz.func144.trans (congrArg some (by kernel_rfl))
 f277:=Tryz.func207.trans (congrArg some (by kernel_rfl))
 t0:=Tryz.underlying0
 a0:=Tryz.isAgg0
 z0:=Tryz.sizeOf0
 v0:=Tryz.zeroValue0
 t3:=Tryz.underlying3
 a3:=Tryz.isAgg3
 z3:=Tryz.sizeOf3
 v3:=Tryz.zeroValue3
 t4:=Tryz.underlying4
 a4:=Tryz.isAgg4
 z4:=Tryz.sizeOf4
 v4:=Tryz.zeroValue4
 t9:=Tryz.underlying9
 a9:=Tryz.isAgg9
 z9:=Tryz.sizeOf9
 v9:=Tryz.zeroValue9
 t20:=Tryz.underlying20
 a20:=Tryz.isAgg20
 z20:=Tryz.sizeOf20
 v20:=Tryz.zeroValue20
 t31:=Tryz.underlying44
 a31:=Tryz.isAgg44
 z31:=Tryz.sizeOf44
 v31:=Tryz.zeroValue44
 t37:=Tryz.underlying72
 a37:=Tryz.isAgg72
 z37:=Tryz.sizeOf72
 v37:=Tryz.zeroValue72
 t70:=Tryz.underlying94
 a70:=Tryz.isAgg94
 z70:=Tryz.sizeOf94
 v70:=Tryz.zeroValue94
 t72:=Tryz.underlying96
 a72:=Tryz.isAgg96
 z72:=Tryz.sizeOf96
 v72:=Tryz.zeroValue96
 t75:=Tryz.underlying98
 a75:=Tryz.isAgg98
 z75:=Tryz.sizeOf98
 v75:=Tryz.zeroValue98
 t76:=Tryz.underlying99
 a76:=Tryz.isAgg99
 z76:=Tryz.sizeOf99
 v76:=Tryz.zeroValue99
 t127:=Tryz.underlying153
 a127:=Tryz.isAgg153
 z127:=Tryz.sizeOf153
 v127:=Tryz.zeroValue153
 t164:=Tryz.underlying195
 a164:=Tryz.isAgg195
 z164:=Tryz.sizeOf195
 v164:=Tryz.zeroValue195 }
def Tryz.lays1112_ren:Go.Shelf.Ren:=⟨fun | 4=>112 | n=>n,fun | 22=>25 | 25=>42 | 3=>3 | 4=>4 | 9=>9 | 20=>20 | 0=>0 | n=>n,fun | n=>n⟩
theorem Tryz.lays1112:Go.Proofs.Lays8.n4 Tryz.prog Tryz.lays1112_ren:={
 mixed:=by kernel_rfl
 f4:=⟨Tryz.f112.name,by decide,Tryz.func112.trans (congrArg some (by kernel_rfl))⟩
 t0:=Tryz.underlying0
 a0:=Tryz.isAgg0
 z0:=Tryz.sizeOf0
 v0:=Tryz.zeroValue0
 t3:=Tryz.underlying3
 a3:=Tryz.isAgg3
 z3:=Tryz.sizeOf3
 v3:=Tryz.zeroValue3
 t4:=Tryz.underlying4
 a4:=Tryz.isAgg4
 z4:=Tryz.sizeOf4
 v4:=Tryz.zeroValue4
 t9:=Tryz.underlying9
 a9:=Tryz.isAgg9
 z9:=Tryz.sizeOf9
 v9:=Tryz.zeroValue9
 t20:=Tryz.underlying20
 a20:=Tryz.isAgg20
 z20:=Tryz.sizeOf20
 v20:=Tryz.zeroValue20
 t22:=Tryz.underlying25
 a22:=Tryz.isAgg25
 z22:=Tryz.sizeOf25
 v22:=Tryz.zeroValue25 }
end Go.Proofs
namespace Go.Proofs.YtdjfiampkhfooaaGreatDoor
open Go Go.Abs Go.PE Go.Proofs
variable [EA]
section
variable [db:DB]
theorem so1_105:So1OK Tryz.prog ⟨105,.int .i64,false,sortI⟩:=so1_sort Tryz.lays1105 rfl Tryz.call105
theorem so1_52:So1OK Tryz.prog ⟨52,.int .i64,true,compI⟩:=so1_comp Tryz.lays152 rfl Tryz.call52
theorem ex_112:ExtOK Tryz.prog 112 (.grow (.pair (.int .i64) (.pair (.int .i64) (.pair (.int .i64) (.pair (.int .i64) (.pair (.int .i64) (.pair (.int .i64) (.pair (.int .i64) (.pair .str .str))))))))):=ext_grow Tryz.lays1112 rfl (by kernel_rfl) Tryz.call112
theorem ex_86:ExtOK Tryz.prog 86 (.isE 278 98):=isE_ok
theorem sp_38:SpecOK (db:=dbG) Tryz.prog 38 ⟨[.str,.str],[.str],fun x=>trimM x.1 x.2⟩:=spec_trim (db:=dbG) rfl Tryz.lays138 (by kernel_rfl) rfl
theorem sp_114:SpecOK (db:=dbG) Tryz.prog 114 ⟨[.str,.int .i64],[.str],fun x=>rptM x.1 x.2⟩:=spec_rept (db:=dbG) rfl Tryz.lays1114 ⟨⟨by kernel_rfl,by kernel_rfl⟩,by kernel_rfl,Tryz.isAgg5,Tryz.sizeOf5,Tryz.zeroValue5,by kernel_rfl,by kernel_rfl,by kernel_rfl,by decide⟩ rfl
theorem ex_48:ExtOK Tryz.prog 48 (.wstr 96 5):=ext_wstr { Tryz.lays1114 with } ⟨⟨by kernel_rfl,by kernel_rfl⟩,by kernel_rfl,Tryz.isAgg5,Tryz.sizeOf5,Tryz.zeroValue5,by kernel_rfl,by kernel_rfl,by kernel_rfl,by decide⟩ rfl rfl rfl Tryz.call48
theorem ex_50:ExtOK Tryz.prog 50 (.stri 96 5):=ext_stri Tryz.lays150 ⟨⟨by kernel_rfl,by kernel_rfl⟩,by kernel_rfl,Tryz.isAgg5,Tryz.sizeOf5,Tryz.zeroValue5,by kernel_rfl,by kernel_rfl,by kernel_rfl,by decide⟩ rfl rfl rfl Tryz.call50
theorem sp_120:SpecOK (db:=dbG) Tryz.prog 120 ⟨[.list .str,.str],[.str],fun x=>fH x.1 x.2⟩:=spec_join (db:=dbG) rfl Tryz.lays1120 ⟨⟨by kernel_rfl,by kernel_rfl⟩,by kernel_rfl,Tryz.isAgg5,Tryz.sizeOf5,Tryz.zeroValue5,by kernel_rfl,by kernel_rfl,by kernel_rfl,by decide⟩ rfl
noncomputable def tabsT:Tabs:={ tabs0 with ex:=[(112,.grow (.pair (.int .i64) (.pair (.int .i64) (.pair (.int .i64) (.pair (.int .i64) (.pair (.int .i64) (.pair (.int .i64) (.pair (.int .i64) (.pair .str .str))))))))),(86,.isE 278 98),(48,.wstr 96 5),(50,.stri 96 5)] }
theorem tabsTOK:TabOK Tryz.prog tabsT:=⟨qB.ty,qB.fn,qB.sp,qB.en,qB.mixed,qB.so,qB.eqs,qB.so1,qB.mps,qB.ow,qB.bt,(by
 show ∀ f s,lk ([(112,.grow (.pair (.int .i64) (.pair (.int .i64) (.pair (.int .i64) (.pair (.int .i64) (.pair (.int .i64) (.pair (.int .i64) (.pair (.int .i64) (.pair .str .str))))))))),(86,.isE 278 98),(48,.wstr 96 5),(50,.stri 96 5)]:List (FuncId×Go.PE.Ext)) f=some s→ExtOK Tryz.prog f s
 refine dA (p:=fun f s=>ExtOK Tryz.prog f s) ex_112 ?_
 refine dA (p:=fun f s=>ExtOK Tryz.prog f s) ex_86 ?_
 refine dA (p:=fun f s=>ExtOK Tryz.prog f s) ex_48 ?_
 refine dA (p:=fun f s=>ExtOK Tryz.prog f s) ex_50 ?_
 exact jG),qB.pp⟩
end
instance dbJ:DB:=dbG
noncomputable def tabs:Tabs:={ tabs0 with so1:=[⟨105,.int .i64,false,sortI⟩,⟨52,.int .i64,true,compI⟩],sp:=[(38,⟨[.str,.str],[.str],fun x=>trimM x.1 x.2⟩),(114,⟨[.str,.int .i64],[.str],fun x=>rptM x.1 x.2⟩),(120,⟨[.list .str,.str],[.str],fun x=>fH x.1 x.2⟩)],ex:=[(112,.grow (.pair (.int .i64) (.pair (.int .i64) (.pair (.int .i64) (.pair (.int .i64) (.pair (.int .i64) (.pair (.int .i64) (.pair (.int .i64) (.pair .str .str))))))))),(86,.isE 278 98),(48,.wstr 96 5),(50,.stri 96 5)] }
theorem aG:TabOK Tryz.prog tabs:=⟨qB.ty,qB.fn,(by
 show ∀ f s,lk ([(38,⟨[.str,.str],[.str],fun x=>trimM x.1 x.2⟩),(114,⟨[.str,.int .i64],[.str],fun x=>rptM x.1 x.2⟩),(120,⟨[.list .str,.str],[.str],fun x=>fH x.1 x.2⟩)]:List (FuncId×Go.PE.Spec)) f=some s→SpecOK Tryz.prog f s
 refine dA (p:=fun f s=>SpecOK Tryz.prog f s) sp_38 ?_
 refine dA (p:=fun f s=>SpecOK Tryz.prog f s) sp_114 ?_
 refine dA (p:=fun f s=>SpecOK Tryz.prog f s) sp_120 ?_
 exact jG),(by
 show ∀ f s,lk ([(38,⟨[.str,.str],[.str],fun x=>trimM x.1 x.2⟩),(114,⟨[.str,.int .i64],[.str],fun x=>rptM x.1 x.2⟩),(120,⟨[.list .str,.str],[.str],fun x=>fH x.1 x.2⟩)]:List (FuncId×Go.PE.Spec)) f=some s→∀ (args:Array Value) (w:World),(callFunc f args).run Tryz.prog w=.ok (.enter f args) w
 refine dA (p:=fun f s=>∀ (args:Array Value) (w:World),(callFunc f args).run Tryz.prog w=.ok (.enter f args) w) Tryz.call38 ?_
 refine dA (p:=fun f s=>∀ (args:Array Value) (w:World),(callFunc f args).run Tryz.prog w=.ok (.enter f args) w) Tryz.call114 ?_
 refine dA (p:=fun f s=>∀ (args:Array Value) (w:World),(callFunc f args).run Tryz.prog w=.ok (.enter f args) w) Tryz.call120 ?_
 exact jG),qB.mixed,qB.so,qB.eqs,(fun s hs=>by
 have hs:s∈[(⟨105,.int .i64,false,sortI⟩:So1),(⟨52,.int .i64,true,compI⟩:So1)]:=hs
 simp only [List.mem_cons,List.not_mem_nil,or_false] at hs
 rcases hs with rfl | rfl
 ·exact so1_105
 ·exact so1_52),qB.mps,qB.ow,qB.bt,(by
 show ∀ f s,lk ([(112,.grow (.pair (.int .i64) (.pair (.int .i64) (.pair (.int .i64) (.pair (.int .i64) (.pair (.int .i64) (.pair (.int .i64) (.pair (.int .i64) (.pair .str .str))))))))),(86,.isE 278 98),(48,.wstr 96 5),(50,.stri 96 5)]:List (FuncId×Go.PE.Ext)) f=some s→ExtOK Tryz.prog f s
 refine dA (p:=fun f s=>ExtOK Tryz.prog f s) ex_112 ?_
 refine dA (p:=fun f s=>ExtOK Tryz.prog f s) ex_86 ?_
 refine dA (p:=fun f s=>ExtOK Tryz.prog f s) ex_48 ?_
 refine dA (p:=fun f s=>ExtOK Tryz.prog f s) ex_50 ?_
 exact jG),qB.pp⟩
end Go.Proofs.YtdjfiampkhfooaaGreatDoor
namespace Go.PE
open Go Go.RowKit Go.Abs
variable [db:DB] [ea:EA]

noncomputable def clD (F:OpF) (n:Nat) (Γ:Tabs) (an:Ann) (fn:Func) (cl:Code) (ncl i2 i3 sa:Nat) (res:List Ty) (v:CV) (st1:PS):Option (Tup (res.map .d)) :=
 pc F n { Γ with own:=[3000000] } ncl an cl (Tup (res.map .d)) ⟨[(sa,.c v),(1,.c (.p i3 0)),(0,.c (.p i2 0))],st1.hp,st1.nx⟩ fun ex st=>match ex with
  | .exit _=>none
  | .go _=>none
  | .pan _=>none
  | _=>match rE Γ ⟨st1.env,st.hp,st.nx⟩ fn.results.toList with
   | some rs=>uB (yF st.hp rs) res rs
   | none=>none
noncomputable def fnD (F:OpF) (n:Nat) (Γ:Tabs) (own:List Nat) (a0 a1 aN aP:Ann) (fn:Func) (c0 rest cl:Code) (ncl s2 s3 sf sa:Nat) (args res:List Ty) (x:Tup (args.map .d)):Option (Tup (res.map .d)) :=
 pc F n { Γ with own:=[3000000] } fn.ntmps a0 c0 (Tup (res.map .d)) ⟨(vI 0 (rvs args x)).map fun x=>(x.1,.r x.2),[],0⟩ fun ex st=>match ex with
  | .norm=>match lk st.env s2,lk st.env s3,lk st.env sf with
   | some (.r (.c (.p i2 0))),some (.r (.c (.p i3 0))),none =>
    pc F n { Γ with own:=own } fn.ntmps a1 rest (Tup (res.map .d)) st fun ex1 st1=>match ex1 with
     | .exit _=>none
     | .go _=>none
     | .pan T=>clD F n Γ aP fn cl ncl i2 i3 sa res (.i T) st1
     | _=>clD F n Γ aN fn cl ncl i2 i3 sa res (.l .nilI) st1
   | _,_,_=>none
  | _=>none

theorem leaves_tl {P:Program} {rd:Option Nat} {fn:Func} {tmps:Array Value} {R:Ending→World→Prop} {base:Nat} {u:FrameMode} {tl:List Deferred} (hu:u≠.run):∀ (bs:List Nat) (w:World),bs.Nodup→(∀ b∈bs,base≤b∧w.heap[b]? = some (.deferred (some []))) →
  (∀ w2,Took base w w2→LeavesInM (FR rd) 0 P fn tmps R tl u w2)→LeavesInM (FR rd) 0 P fn tmps R (bs.map mark++tl) u w
 | [],w,_,_,h=>h w (.refl _ _)
 | b::bs,w,hn,hb,h=>by
  obtain ⟨h1,h2⟩:=hb b (by simp)
  have hn':=List.nodup_cons.1 hn
  refine ⟨hu,.inl ⟨b,_,rfl,run_takeDeferred h2,leaves_tl hu bs _ hn'.2 (fun c hc=>?_) fun w2 t=>h w2 (t.put h1 h2)⟩⟩
  obtain ⟨h3,h4⟩:=hb c (by simp [hc])
  exact ⟨h3,by rw [World.putObj_heap_other (k:=c) (r:=b) (fun h=>hn'.1 (by rw [← h];exact hc))];exact h4⟩

theorem opsIn_value {P:Program} {ops:Array Oper} {Q:Exit→Act→World→Prop} {i:Nat} {l:List Nat} {a:Act} {w w':World} {o:Oper} {v:Value} (ho:ops[i]? = some o) (hg:o.guard=none) (hr:(execOp a.eval o).run P w=.ok (.value v) w') (h:wpOpsIn (FR none) 0 P ops Q l (a.put o.dst v) w'):wpOpsIn (FR none) 0 P ops Q (i::l) a w:=by
 unfold wpOpsIn
 simp only [ho]
 have:Region.wanted o (yielded ops a.tmps)=true:=by unfold Region.wanted;rw [hg]
 rw [if_pos this]
 refine ⟨fun f _=>FR.fn none f,?_⟩
 show o.uponIn (FR none) 0 P a _ Q ((execOp a.eval o).run P w)
 rw [hr];exact h
theorem opsIn_defer {P:Program} {ops:Array Oper} {Q:Exit→Act→World→Prop} {i:Nat} {l:List Nat} {a:Act} {w w':World} {o:Oper} {d:Deferred} (ho:ops[i]? = some o) (hg:o.guard=none) (hr:(execOp a.eval o).run P w=.ok (.defer d) w') (h:wpOpsIn (FR none) 0 P ops Q l ({ a with defers:=d::a.defers }.put o.dst undef) w'):wpOpsIn (FR none) 0 P ops Q (i::l) a w:=by
 unfold wpOpsIn
 simp only [ho]
 have:Region.wanted o (yielded ops a.tmps)=true:=by unfold Region.wanted;rw [hg]
 rw [if_pos this]
 refine ⟨fun f _=>FR.fn none f,?_⟩
 show o.uponIn (FR none) 0 P a _ Q ((execOp a.eval o).run P w)
 rw [hr];exact h
theorem eE {P:Program} {ops:Array Oper} {Q:Exit→Act→List Frame→World→Prop} {i:Nat} {l:List Nat} {a:Act} {cs:List Frame} {w w':World} {o:Oper} {v:Value} (ho:ops[i]? = some o) (hg:o.guard=none) (hr:(execOp a.eval o).run P w=.ok (.value v) w') (h:wpOpsSIn (FR none) 0 P ops Q l (a.put o.dst v) cs w'):wpOpsSIn (FR none) 0 P ops Q (i::l) a cs w:=by
 unfold wpOpsSIn
 simp only [ho]
 have:Region.wanted o (yielded ops a.tmps)=true:=by unfold Region.wanted;rw [hg]
 refine ⟨fun f _=>FR.fn none f,?_⟩
 rw [if_pos this,hr];exact h
theorem opsS_recover {P:Program} {ops:Array Oper} {Q:Exit→Act→List Frame→World→Prop} {i:Nat} {l:List Nat} {a:Act} {cs cs':List Frame} {w w':World} {o:Oper} {v:Value} (ho:ops[i]? = some o) (hg:o.guard=none) (hr:(execOp a.eval o).run P w=.ok .recover w')
  (hrec:match recoverD cs with | some (x,cs2)=>x=v∧cs2=cs' | none=>.nilIface=v∧cs'=cs) (h:wpOpsSIn (FR none) 0 P ops Q l (a.put o.dst v) cs' w'):wpOpsSIn (FR none) 0 P ops Q (i::l) a cs w:=by
 unfold wpOpsSIn
 simp only [ho]
 have:Region.wanted o (yielded ops a.tmps)=true:=by unfold Region.wanted;rw [hg]
 refine ⟨fun f _=>FR.fn none f,?_⟩
 rw [if_pos this,hr]
 show match recoverD cs with
     | some (v,cs')=>wpOpsSIn (FR none) 0 P ops Q l (a.put o.dst v) cs' w'
     | none=>wpOpsSIn (FR none) 0 P ops Q l (a.put o.dst .nilIface) cs w'
 split at hrec
 ·obtain ⟨rfl,rfl⟩:=hrec;exact h
 ·obtain ⟨rfl,rfl⟩:=hrec;exact h
theorem clD_ok {P:Program} {Γ:Tabs} (hΓ:TabOK P Γ) {F:OpF} (hS:F.Sound) (hN:F.Nice) {fn:Func} {g:FuncId} {fg:Func} {cl:Code} {n:Nat} {an:Ann} {i0 i2 i3 sv sa:Nat} {o1 o2:Oper} {res:List Ty} {v:CV} {u u':FrameMode} {st1:PS}
  (hg:lk Γ.fn g=some fg) (hbg:fg.body=some (.seq (.region i0 #[o1,o2] false) cl)) (hrg:fg.results=#[]) (hq1:o1.op=.call { callee:=.builtin .recover,args:=#[],argTypes:=#[] }) (hd1:o1.dst=some sv) (hu1:o1.guard=none) (hq2:o2.op=.assign (.tmp sv)) (hd2:o2.dst=some sa) (hu2:o2.guard=none)
  (hk:(Nat.blt 1 sv&&Nat.blt 1 sa&&Nat.blt sv fg.ntmps&&Nat.blt sa fg.ntmps)=true)
  (hv:(v=.l .nilI∧u=.returning∧u'=.returning)∨∃ T,v=.i T∧u=.panicking [{ v:=yC T,recovered:=false }]∧u'=.panicking [{ v:=yC T,recovered:=true }])
  {r:Tup (res.map .d)} (h:clD F n Γ an fn cl fg.ntmps i2 i3 sa res v st1=some r)
  {B:Nat} {S0:Cells} {w0:World} {S:Cells} {w:World} {η:Eta} {tmps:Array Value} {b2 b3:Nat} (hi:HInv B η st1.hp S w) (hl:∀ i,st1.nx≤i→η i=none) (he:EnvM S w η st1.env tmps) (hp2:η i2=some (.pointer (some ⟨b2,0,none⟩))) (hp3:η i3=some (.pointer (some ⟨b3,0,none⟩))) (hgr:Grow B S0 w0 S w) {η0:Eta} :
  CallsDIn (FR none) 0 P g #[.pointer (some ⟨b2,0,none⟩),.pointer (some ⟨b3,0,none⟩)] u w fun
   | .returned _,u',w'=>LeavesInM (FR none) 0 P fn tmps (fun en w'=>∃ v S',en=.returned v∧Grow B S0 w0 S' w'∧PM S' w' η0 (dB (rvs res r)) v) [] (settle u') w'
   | .panicked pB,u',w'=>LeavesInM (FR none) 0 P fn tmps (fun en w'=>∃ v S',en=.returned v∧Grow B S0 w0 S' w'∧PM S' w' η0 (dB (rvs res r)) v) [] (raised u' pB) w'
   | .outgrown,_,w'=>∃ v S',Ending.outgrown=.returned v∧Grow B S0 w0 S' w'∧PM S' w' η0 (dB (rvs res r)) v:=by
 simp only [bA] at hk
 obtain ⟨⟨⟨k1,k2⟩,k3⟩,k4⟩:=hk
 have k1:1<sv:=nL k1
 have k2:1<sa:=nL k2
 have k3:sv<fg.ntmps:=nL k3
 have k4:sa<fg.ntmps:=nL k4
 refine callsDIn_of_wpSIn (hΓ.fn g fg hg).1 hbg (FR.fn none g) fun c₀ cs hu=>?_
 obtain ⟨val,hval,hone,hrec⟩:∃ val:Value,(∀ S w η,CM S w η v val)∧True∧(match recoverD (c₀::cs) with | some (x,cs')=>x=val∧cs'={ c₀ with mode:=u' }::cs | none=>.nilIface=val∧{ c₀ with mode:=u' }::cs=c₀::cs):=by
  rcases hv with ⟨rfl,rfl,rfl⟩ | ⟨T,rfl,rfl,rfl⟩
  ·refine ⟨.nilIface,fun S w η=>rfl,trivial,?_⟩
   have:recoverD (c₀::cs)=none:=by simp [recoverD,hu]
   rw [this]
   exact ⟨rfl,by rw [← hu]⟩
  ·refine ⟨yC T,fun S w η=>rfl,trivial,?_⟩
   have:recoverD (c₀::cs)=some (yC T,{ c₀ with mode:=.panicking [{ v:=yC T,recovered:=true }] }::cs):=by simp [recoverD,hu]
   rw [this]
   exact ⟨rfl,rfl⟩
 have hset:settle u'=.returning:=by
  rcases hv with ⟨_,_,rfl⟩ | ⟨T,_,_,rfl⟩
  ·rfl
  ·rfl
 refine wpSIn_seq (wpSIn_region ?_)
 have hA:∀ a:Act,a.defers=[]→a.tmps.size=fg.ntmps→a.tmps.getD 0 undef=.pointer (some ⟨b2,0,none⟩)→a.tmps.getD 1 undef=.pointer (some ⟨b3,0,none⟩)→a.tmps.getD sa undef=val →
   cl.wpSIn (FR none) 0 P (bodyPostS P fg c₀ cs fun
   | .returned _,u',w'=>LeavesInM (FR none) 0 P fn tmps (fun en w'=>∃ v S',en=.returned v∧Grow B S0 w0 S' w'∧PM S' w' η0 (dB (rvs res r)) v) [] (settle u') w'
   | .panicked pB,u',w'=>LeavesInM (FR none) 0 P fn tmps (fun en w'=>∃ v S',en=.returned v∧Grow B S0 w0 S' w'∧PM S' w' η0 (dB (rvs res r)) v) [] (raised u' pB) w'
   | .outgrown,_,w'=>∃ v S',Ending.outgrown=.returned v∧Grow B S0 w0 S' w'∧PM S' w' η0 (dB (rvs res r)) v) a ({ c₀ with mode:=u' }::cs) w:=by
  intro a had hsz h0 h1 h2
  refine wpSIn_of_wpIn rfl ?_
  unfold clD at h
  have hΓ':TabOK P { Γ with own:=[3000000] }:=⟨hΓ.ty,hΓ.fn,hΓ.sp,hΓ.en,hΓ.mixed,hΓ.so,hΓ.eqs,hΓ.so1,hΓ.mps,hΓ.ow,hΓ.bt,hΓ.ex,hΓ.pp⟩
  refine (sound hS hN n).1 _ _ _ _ _ _ _ _ h P hΓ' none B ⟨w.heap.size,none,[],true⟩ a w S η ⟨⟨[],fun _=>rfl,had,List.nodup_nil,fun b hb=>by cases hb⟩,hsz,fun t pv ht=>?_,hi,hl,noGE_wf rfl,(fun l hl=>by cases hl),hi.base,nR _⟩ rfl (fun _=>rfl) _ fun ex st' a' w' S' η' g' stp hk=>?_
  ·unfold lk at ht
   split at ht
   ·rename_i hb
    cases ht
    rw [← nB hb,h2]
    exact hval S w η
   ·unfold lk at ht
    split at ht
    ·rename_i hb
     cases ht
     rw [← nB hb,h1]
     exact ⟨b3,hp3,rfl⟩
    ·unfold lk at ht
     split at ht
     ·rename_i hb
      cases ht
      rw [← nB hb,h0]
      exact ⟨b2,hp2,rfl⟩
     ·cases ht
  ·obtain ⟨bs,hnb,hd,_,_⟩:=g'.defers
   rw [hnb rfl] at hd
   have key:(match rE Γ ⟨st1.env,st'.hp,st'.nx⟩ fn.results.toList with
     | some rs=>uB (yF st'.hp rs) res rs
     | none=>none)=some r→a'.defers=[]∧∃ u'',({ c₀ with mode:=u' }::cs:List Frame)={ c₀ with mode:=u'' }::cs∧∃ v,(results fg a'.tmps).run P w'=.ok v w'∧LeavesInM (FR none) 0 P fn tmps (fun en w'=>∃ v S',en=.returned v∧Grow B S0 w0 S' w'∧PM S' w' η0 (dB (rvs res r)) v) [] (settle u'') w':=by
    intro hk
    refine ⟨hd,u',rfl,.tuple #[],?_,?_⟩
    ·unfold results
     rw [hrg]
     simp
    ·rw [hset]
     split at hk
     ·rename_i rs hrs
      have he':EnvM S' w' η' st1.env tmps:=he.mono stp.grow.keep stp.pre
      obtain ⟨us,hv1,hv2⟩:=bF (st:=⟨st1.env,st'.hp,st'.nx⟩) (a:={ tmps:=tmps,defers:=[] }) hΓ he' g'.inv hrs
      obtain ⟨v,hr1,hr2⟩:=results_ok hv1 hv2
      obtain ⟨S2,h2,g2⟩:=jD (l:=rs) g'.inv
      exact ⟨v,hr1,v,S2,rfl,(hgr.trans stp.grow).trans g2,conP_res h2 hk (PM.mono g2.keep (.refl _) hr2)⟩
     ·cases hk
   cases ex with
   | norm=>exact key hk
   | ret=>exact key hk
   | exit i=>cases hk
   | go l=>cases hk
   | pan T=>cases hk
 have hx1:∀ (ρ:Operand→Value) w,(execOp ρ o1).run P w=.ok .recover w:=fun ρ w=>by simp [execOp,hq1,resolve,invoke,builtin]
 have hx2:∀ (a:Act) w,(execOp a.eval o2).run P w=.ok (.value (a.tmps.getD sv undef)) w:=fun a w=>by simp [execOp,hq2,Act.eval]
 have hsize:((#[Value.pointer (some ⟨b2,0,none⟩),.pointer (some ⟨b3,0,none⟩)]:Array Value)++Array.replicate (fg.ntmps-2) undef).size=fg.ntmps:=by simp;omega
 show wpOpsSIn (FR none) 0 P #[o1,o2] _ [0,1] { tmps:=#[Value.pointer (some ⟨b2,0,none⟩),.pointer (some ⟨b3,0,none⟩)]++Array.replicate (fg.ntmps-2) undef,defers:=[] } (c₀::cs) w
 generalize htm:(#[Value.pointer (some ⟨b2,0,none⟩),.pointer (some ⟨b3,0,none⟩)]:Array Value)++Array.replicate (fg.ntmps-2) undef=tm at *
 have t0:tm.getD 0 undef=.pointer (some ⟨b2,0,none⟩):=by rw [← htm];simp [aD,Array.getElem?_append]
 have t1:tm.getD 1 undef=.pointer (some ⟨b3,0,none⟩):=by rw [← htm];simp [aD,Array.getElem?_append]
 refine opsS_recover (o:=o1) (w':=w) (v:=val) rfl hu1 (hx1 _ _) hrec (eE (o:=o2) (w':=w) (v:=val) rfl hu2 ?_ ?_)
 ·rw [hx2,hd1]
  show _=Result.ok (Next.value val) w
  congr 2
  show (tm.setIfInBounds sv val).getD sv undef=val
  simp [aD,Array.getElem?_setIfInBounds,hsize,k3]
 ·rw [hd1,hd2]
  show cl.wpSIn (FR none) 0 P _ _ _ w
  refine hA _ rfl ?_ ?_ ?_ ?_
  ·show ((tm.setIfInBounds sv val).setIfInBounds sa val).size=_
   simp [hsize]
  ·show ((tm.setIfInBounds sv val).setIfInBounds sa val).getD 0 undef=_
   rw [← t0]
   simp [aD,Array.getElem?_setIfInBounds,show sv≠0 by omega,show sa≠0 by omega]
  ·show ((tm.setIfInBounds sv val).setIfInBounds sa val).getD 1 undef=_
   rw [← t1]
   simp [aD,Array.getElem?_setIfInBounds,show sv≠1 by omega,show sa≠1 by omega]
  ·show ((tm.setIfInBounds sv val).setIfInBounds sa val).getD sa undef=_
   simp [aD,Array.getElem?_setIfInBounds,hsize,k4]
theorem fnD_ok {P:Program} {Γ:Tabs} (hΓ:TabOK P Γ) {F:OpF} (hS:F.Sound) (hN:F.Nice) {f g:FuncId} {fn fg:Func} {c0 rest cl:Code} {own:List Nat} {a0 a1 aN aP:Ann} {n i0 i1 s2 s3 sf sv sa:Nat} {o1 o2 p1 p2:Oper} {args res:List Ty} {m:Tup (args.map .d)→Option (Tup (res.map .d))}
  (hf:lk Γ.fn f=some fn) (hb:fn.body=some (.seq c0 (.seq (.region i1 #[p1,p2] false) rest))) (hn:Nat.ble args.length fn.ntmps=true)
  (hp1:p1.op=.makeFunc (.func g) #[] #[.tmp s2,.tmp s3]) (hpd1:p1.dst=some sf) (hpu1:p1.guard=none) (hp2:p2.op=.defer { callee:=.value (.tmp sf),args:=#[],argTypes:=#[] }) (hpd2:p2.dst=none) (hpu2:p2.guard=none) (hsf:Nat.blt sf fn.ntmps=true)
  (hg:lk Γ.fn g=some fg) (hbg:fg.body=some (.seq (.region i0 #[o1,o2] false) cl)) (hrg:fg.results=#[]) (hq1:o1.op=.call { callee:=.builtin .recover,args:=#[],argTypes:=#[] }) (hd1:o1.dst=some sv) (hu1:o1.guard=none) (hq2:o2.op=.assign (.tmp sv)) (hd2:o2.dst=some sa) (hu2:o2.guard=none)
  (hk:(Nat.blt 1 sv&&Nat.blt 1 sa&&Nat.blt sv fg.ntmps&&Nat.blt sa fg.ntmps)=true)
  (hm:∀ x,fnD F n Γ own a0 a1 aN aP fn c0 rest cl fg.ntmps s2 s3 sf sa args res x=m x):SpecOK P f ⟨args,res,m⟩:=by
 intro x r hr S w η vs hi hv
 have hr:fnD F n Γ own a0 a1 aN aP fn c0 rest cl fg.ntmps s2 s3 sf sa args res x=some r:=(hm x).trans hr
 unfold fnD at hr
 have hΓ':∀ own,TabOK P { Γ with own:=own }:=fun own=>⟨hΓ.ty,hΓ.fn,hΓ.sp,hΓ.en,hΓ.mixed,hΓ.so,hΓ.eqs,hΓ.so1,hΓ.mps,hΓ.ow,hΓ.bt,hΓ.ex,hΓ.pp⟩
 have hv0:All2 (RM S w (fun _=>none)) (rvs args x) vs:=rvs_eta hv
 refine callsIn_wide.1 (?_:CallsIn (FR none) 0 P f vs.toArray w fun en w'=>∃ v S',en=.returned v∧Grow w.heap.size S w S' w'∧PM S' w' η (dB (rvs res r)) v)
 refine callsIn_of_wp_marks (hΓ.fn f fn hf).1 hb (FR.fn none f) ?_
 have hlen:(rvs args x).length≤fn.ntmps:=by rw [aF];exact nL hn
 have hvl:vs.length≤fn.ntmps:=by rw [← hv0.length];exact hlen
 refine wpIn_seq ((sound hS hN n).1 _ _ _ _ _ _ _ _ hr P (hΓ' _) none w.heap.size ⟨w.heap.size,none,[],true⟩ _ w S (fun _=>none) ⟨DefsOK.nil _ _ _ _,?_,?_,.empty hi,fun _ _=>rfl,numL_noG,(fun l hl=>by cases hl),nR _,nR _⟩ rfl (fun _=>rfl) _ fun ex st1 a1' w1 S1 η1 g1 stp1 hk1=>?_)
 ·simp only [Array.size_append,Array.size_replicate,List.size_toArray];omega
 ·have:=numL_env (k:=0) (pre:=[]) (post:=List.replicate (fn.ntmps-vs.toArray.size) undef) hv0 rfl
  have e:vs.toArray++Array.replicate (fn.ntmps-vs.toArray.size) undef=([]++vs++List.replicate (fn.ntmps-vs.toArray.size) undef).toArray:=by simp
  show EnvM S w _ _ (vs.toArray++Array.replicate (fn.ntmps-vs.toArray.size) undef)
  rw [e];exact this
 cases ex with
 | ret=>cases hk1
 | exit i=>cases hk1
 | go l=>cases hk1
 | pan T=>cases hk1
 | norm =>
  simp only at hk1
  split at hk1
  ·rename_i i2 i3 hs2 hs3 hsn
   obtain ⟨b2,q2,v2⟩:=g1.env s2 _ hs2
   obtain ⟨b3,q3,v3⟩:=g1.env s3 _ hs3
   obtain ⟨bs,hnb,hd,_,_⟩:=g1.defers
   rw [hnb rfl] at hd
   have hd:a1'.defers=[]:=hd
   let cv:Value:=.func (.func g) #[] #[.pointer (some ⟨b2,0,none⟩),.pointer (some ⟨b3,0,none⟩)]
   let d:Deferred:={ target:=.fn (.func g) #[.pointer (some ⟨b2,0,none⟩),.pointer (some ⟨b3,0,none⟩)],args:=#[] }
   have hx1:(execOp a1'.eval p1).run P w1=.ok (.value cv) w1:=by
    have e2:a1'.eval (.tmp s2)=.pointer (some ⟨b2,0,none⟩):=v2
    have e3:a1'.eval (.tmp s3)=.pointer (some ⟨b3,0,none⟩):=v3
    simp [execOp,hp1,Instr.makeFunc,e2,e3,cv]
   show (Code.seq (.region i1 #[p1,p2] false) rest).wpIn (FR none) 0 P _ a1' w1
   have sfl:sf<fn.ntmps:=nL hsf
   have hev:(a1'.put (some sf) cv).eval (.tmp sf)=cv:=by
    show (a1'.tmps.setIfInBounds sf cv).getD sf undef=cv
    have:sf<a1'.tmps.size:=by rw [g1.size];exact sfl
    simp [Array.getD,this]
   have hx2:(execOp (a1'.put (some sf) cv).eval p2).run P w1=.ok (.defer d) w1:=by
    simp [execOp,hp2,resolve,hev,Deferred.ofValue,cv,d]
   let a2:Act:={ tmps:=a1'.tmps.setIfInBounds sf cv,defers:=[d] }
   have hrest:rest.wpIn (FR none) 0 P (bodyPostM (FR none) 0 P fn fun en w'=>∃ v S',en=.returned v∧Grow w.heap.size S w S' w'∧PM S' w' η (dB (rvs res r)) v) a2 w1:=by
    refine (sound hS hN n).1 _ _ _ _ _ _ _ _ hk1 P (hΓ' _) none w.heap.size ⟨w.heap.size,none,[d],false⟩ a2 w1 S1 η1 ⟨DefsOK.nil _ _ _ _,by simp [a2,g1.size],fun t pv ht=>?_,g1.inv,g1.len,g1.wf,(fun l hl=>by cases hl),nR _,g1.ba⟩ rfl (fun h=>by cases h) _ fun ex st3 a3 w3 S3 η3 g3 stp3 hk3=>?_
    ·have hts:t≠sf:=fun h=>by subst h;rw [hsn] at ht;cases ht
     have:=g1.env t pv ht
     show PM S1 w1 η1 pv ((a1'.tmps.setIfInBounds sf cv).getD t undef)
     rw [show (a1'.tmps.setIfInBounds sf cv).getD t undef=a1'.tmps.getD t undef by simp [aD,Array.getElem?_setIfInBounds,Ne.symm hts]]
     exact this
    ·obtain ⟨bs,_,hd3,hnd,hbs⟩:=g3.defers
     have fin:∀ (u u':FrameMode) (v:CV) (an:Ann),u≠.run→((v=.l .nilI∧u=.returning∧u'=.returning)∨∃ T,v=.i T∧u=.panicking [{ v:=yC T,recovered:=false }]∧u'=.panicking [{ v:=yC T,recovered:=true }]) →
       clD F n Γ an fn cl fg.ntmps i2 i3 sa res v st3=some r→LeavesInM (FR none) 0 P fn a3.tmps (fun en w'=>∃ v S',en=.returned v∧Grow w.heap.size S w S' w'∧PM S' w' η (dB (rvs res r)) v) a3.defers u w3:=by
      intro u u' v an hur hv hcl
      rw [hd3]
      refine leaves_tl hur bs w3 hnd hbs fun w2 t=>?_
      obtain ⟨i2',e2,gr2⟩:=g3.took t
      refine ⟨hur,.inr ⟨fun h=>(FR.nodepth none h).elim,.func g,_,g,#[.pointer (some ⟨b2,0,none⟩),.pointer (some ⟨b3,0,none⟩)],rfl,?_,fun f _=>FR.fn none f,?_⟩⟩
      ·show (invoke d.target d.args).run P w2=_
       have:=(hΓ.fn g fg hg).2 #[.pointer (some ⟨b2,0,none⟩),.pointer (some ⟨b3,0,none⟩)] w2
       simpa [invoke,d] using this
      ·exact clD_ok hΓ hS hN hg hbg hrg hq1 hd1 hu1 hq2 hd2 hu2 hk hv hcl i2' g3.len e2 (stp3.pre.get q2) (stp3.pre.get q3) (gr2 S w (nR _) (stp1.grow.trans stp3.grow))
     cases ex with
     | norm=>exact fin .returning .returning (.l .nilI) aN (by simp) (.inl ⟨rfl,rfl,rfl⟩) hk3
     | ret=>exact fin .returning .returning (.l .nilI) aN (by simp) (.inl ⟨rfl,rfl,rfl⟩) hk3
     | exit i=>cases hk3
     | go l=>cases hk3
     | pan T=>exact fin _ _ (.i T) aP (by simp) (.inr ⟨T,rfl,rfl,rfl⟩) hk3
   refine wpIn_seq (wpIn_region ?_)
   show wpOpsIn (FR none) 0 P #[p1,p2] _ [0,1] a1' w1
   refine opsIn_value (o:=p1) (w':=w1) (v:=cv) rfl hpu1 hx1 (opsIn_defer (o:=p2) (w':=w1) (d:=d) rfl hpu2 (by rw [hpd1];exact hx2) ?_)
   rw [hpd1,hpd2]
   show rest.wpIn (FR none) 0 P _ { tmps:=a1'.tmps.setIfInBounds sf cv,defers:=d::a1'.defers } w1
   rw [hd]
   exact hrest
  ·cases hk1

def noLp:List (Nat×SO)→Bool
 | []=>true
 | (_,.lp _)::_=>false
 | _::r=>noLp r
theorem noLp_dec {H H':PH}:∀ {l:List (Nat×SO)} {L:List TV},noLp l=true→wJ H l L=wJ H' l L
 | [],_,_=>rfl
 | (i,.lp _)::r,L,h=>by cases h
 | (i,.box _)::r,L,h | (i,.arr _)::r,L,h | (i,.frz _)::r,L,h | (i,.tab _ _)::r,L,h | (i,.flat _ _)::r,L,h | (i,.cel _ _)::r,L,h | (i,.bld _ _)::r,L,h | (i,.opt _)::r,L,h | (i,.us)::r,L,h | (i,.gone)::r,L,h=>by
  have ih:=fun L=>noLp_dec (H:=H) (H':=H') (l:=r) (L:=L) h
  simp only [wJ,SO.dec,ih]
def ent (rs:List RV) (h:PH) (n0:Nat) (G:Cells) (w0:World):PS:=⟨(vI 0 rs).map fun x=>(x.1,.r x.2),h++[(0,.frm G w0)],n0⟩
noncomputable def outP (Γ:Tabs) (rv:List ResultVar) (k:Skel) (st0 st:PS):Option (Tup k.tys):=match rE Γ st rv with
 | some rs=>k.encT st0 ⟨(1000000,dB rs)::st0.env,st.hp,st.nx⟩
 | none=>none
def frc:List Nat→PH→Option Unit
 | [],_=>some ()
 | i::r,h=>match lk h i with
  | some (.opt b l)=>(cC b).bind fun _=>frc r ((i,.box l)::h)
  | _=>none
theorem frc_ok:∀ {fo:List Nat} {h:PH} {u:Unit},frc fo h=some u→∀ q,lk (bxs fo h) q=lk h q∨∃ l,lk h q=some (.opt false l)∧lk (bxs fo h) q=some (.box l)
 | [],_,_,hf,q=>.inl rfl
 | i::r,h,u,hf,q=>by
  unfold frc at hf
  unfold bxs
  split at hf
  ·rename_i b l hl
   obtain ⟨_,hb,hf⟩:=Option.bind_eq_some_iff.1 hf
   have hb:=nonM_some hb
   subst hb
   rw [hl]
   simp only
   rcases frc_ok hf q with h1 | ⟨l1,h1,h2⟩
   ·by_cases e:i=q
    ·subst e
     rw [jA] at h1
     exact .inr ⟨l,hl,h1⟩
    ·rw [wA _ _ e] at h1;exact .inl h1
   ·by_cases e:i=q
    ·subst e
     rw [jA] at h1
     cases h1
    ·rw [wA _ _ e] at h1
     exact .inr ⟨l1,h1,h2⟩
  ·cases hf
noncomputable def fnP (F:OpF) (n:Nat) (Γ:Tabs) (own:List Nat) (an:Ann) (fn:Func) (code:Code) (a:List SR) (o:List SO) (k:Skel) (fo:List Nat) (G:Cells) (w0:World) (x:Tup (SRs.tys a++tG o)):Option (Tup k.tys):=match stOf a o x with
 | some (rs,h)=>(frc fo h).bind fun _=>pc F n { Γ with own:=own } fn.ntmps an code (Tup k.tys) (ent rs (bxs fo h) (o.length+1) G w0) fun ex st=>match ex with
  | .exit _=>none
  | .go _=>none
  | .pan _=>none
  | _=>outP Γ fn.results.toList k (ent rs (bxs fo h) (o.length+1) G w0) st
 | none=>none
def skP (k:Skel):Bool:=gJ (some 1000000) k&&noLp k.objs
theorem aft_dec {s:PSpec} (hk:skP s.k=true) {r:Tup s.k.tys} {pv:PV} {δ:PH} (h:s.aft r=some (pv,δ)) (st0:PS) (hn:st0.nx=s.o.length+1) :
  s.k.dec st0 (Tup.toL _ r)=some ⟨(1000000,pv)::st0.env,δ++st0.hp,s.o.length+1+s.k.news.length⟩:=by
 unfold skP at hk
 simp only [bA] at hk
 obtain ⟨hk1,hk2⟩:=jF hk.1
 unfold PSpec.aft at h
 unfold Skel.dec
 split at h
 ·rename_i i pv' L he
  split at h
  ·rename_i h1 L1 hd1
   split at h
   ·rename_i h2 hd2
    cases h
    rcases hk2 with ⟨hd,_⟩ | ⟨j,sp,hd,hs⟩
    ·cases hd
    ·cases hd
     have hi:i=1000000:=by
      rw [hs] at he
      simp only [zD] at he
      split at he
      ·cases he;rfl
      ·cases he
     subst hi
     rw [he]
     simp only [noLp_dec (H:=st0.hp) (H':=[]) hk.2,hd1,hn,hd2,hk1,List.map_nil,List.append_nil]
     rfl
   ·cases h
  ·cases h
 ·cases h
theorem outP_ok {P:Program} {Γ:Tabs} (hΓ:TabOK P Γ) {rv:List ResultVar} {s:PSpec} (hk:skP s.k=true) {rs:List RV} {h:PH} {G:Cells} {w0:World} {r:Tup s.k.tys} {pv:PV} {δ:PH} (ha:s.aft r=some (pv,δ)) {st:PS} (ho:outP Γ rv s.k (ent rs h (s.o.length+1) G w0) st=some r)
  {B:Nat} {S:Cells} {w:World} {η:Eta} (hi:HInv B η (ent rs h (s.o.length+1) G w0).hp S w) (hl:∀ i,s.o.length+1≤i→η i=none) :
  ∃ res,rE Γ st rv=some res∧∀ S' w' η' v,HInv B η' st.hp S' w'→(∀ i,st.nx≤i→η' i=none)→Pre η η'→(∃ d,st.hp=d++(ent rs h (s.o.length+1) G w0).hp)→Grow B S w S' w'→PM S' w' η' (dB res) v →
   ∃ S2 η2,Grow B S w S2 w'∧Pre η η2∧(∀ i,s.o.length+1+s.k.news.length≤i→η2 i=none)∧HInv B η2 (δ++(h++[(0,.frm G w0)])) S2 w'∧PM S2 w' η2 pv v:=by
 unfold outP at ho
 split at ho
 ·rename_i res hres
  refine ⟨res,hres,fun S' w' η' v i1 l1 hp hh gr hm=>?_⟩
  have hd:=aft_dec hk ha (ent rs h (s.o.length+1) G w0) rfl
  obtain ⟨S2,η2,y,q1,q2,q3,q4,q5,q6,⟨L',q7⟩,q8,q9,q10,_,_⟩:=Skel.ok (fF ho) hd hi hl i1 l1 hp ⟨[(1000000,dB res)],rfl⟩ hh gr
  refine ⟨S2,η2,gr.trans q4,q3,q2,q1,?_⟩
  unfold skP at hk
  simp only [bA] at hk
  obtain ⟨hk1,hk2⟩:=jF hk.1
  rw [hk1] at q6
  simp only [List.map_nil,List.append_nil] at q6
  rcases hk2 with ⟨hd,_⟩ | ⟨j,sp,hd,hs⟩
  ·cases hd
  ·cases hd
   rw [hs] at q7
   simp only [zD] at q7
   split at q7
   ·rename_i pv2 L2 hsp
    cases q7
    simp only [List.cons_append,List.nil_append] at q6
    cases q6
    obtain ⟨pv0,g1,g2⟩:=q10 1000000 _ (jA _ _ _)
    simp only at g1
    rw [jA] at g1
    cases g1
    exact g2 v hm
   ·cases q7
 ·cases ho
theorem eG {P:Program} {Γ:Tabs} (hΓ:TabOK P Γ) {F:OpF} (hS:F.Sound) (hN:F.Nice) {f:FuncId} {fn:Func} {code:Code} {own:List Nat} {an:Ann} {n:Nat} {s:PSpec}
  (hf:lk Γ.fn f=some fn) (hb:fn.body=some code) (hn:Nat.ble s.a.length fn.ntmps=true) (hk:skP s.k=true) (hm:∀ G w0 x,fnP F n Γ own an fn code s.a s.o s.k s.fo G w0 x=s.m x):PSpecOK P f s:=by
 refine ⟨(hΓ.fn f fn hf).2,fun x r hr rs h pv δ hst haft G w0 B S w η vs hi hl hv=>?_⟩
 have hr:fnP F n Γ own an fn code s.a s.o s.k s.fo G w0 x=some r:=(hm G w0 x).trans hr
 unfold fnP at hr
 have hst':stOf s.a s.o x=some (rs,h):=hst
 rw [hst'] at hr
 simp only at hr
 obtain ⟨_,hfr,hr⟩:=Option.bind_eq_some_iff.1 hr
 have hfo:=frc_ok hfr
 have hi:HInv B η (bxs s.fo h++[(0,.frm G w0)]) S w:=hi.as fun i po hlk=>by
  rw [xB] at hlk
  rcases hfo i with e | ⟨l,e1,e2⟩
  ·rw [e,← xB] at hlk
   exact ⟨po,hlk,fun _ h=>h⟩
  ·rw [e2] at hlk
   cases hlk
   exact ⟨.opt false l,by rw [xB,e1],fun _ h=>h⟩
 have hΓ':TabOK P { Γ with own:=own }:=⟨hΓ.ty,hΓ.fn,hΓ.sp,hΓ.en,hΓ.mixed,hΓ.so,hΓ.eqs,hΓ.so1,hΓ.mps,hΓ.ow,hΓ.bt,hΓ.ex,hΓ.pp⟩
 have hlen:rs.length=s.a.length:=by
  unfold stOf at hst'
  split at hst'
  ·rename_i hd
   split at hst'
   ·cases hst';exact cI hd
   ·cases hst'
  ·cases hst'
 refine callsIn_wide.1 (body_ok (sound hS hN n).1 hΓ hΓ' hf hb hv (by rw [hlen];exact nL hn) hi hl hr fun ex st' hk'=>?_)
 have key:outP Γ fn.results.toList s.k (ent rs (bxs s.fo h) (s.o.length+1) G w0) st'=some r→∃ res,rE Γ st' fn.results.toList=some res∧∀ S' w' η' v,HInv B η' st'.hp S' w'→(∀ i,st'.nx≤i→η' i=none)→Pre η η'→(∃ d,st'.hp=d++(bxs s.fo h++[(0,.frm G w0)]))→Grow B S w S' w'→PM S' w' η' (dB res) v →
   ∃ v_1 S2 η2,Ending.returned v=.returned v_1∧Grow B S w S2 w'∧Pre η η2∧(∀ i,s.o.length+1+s.k.news.length≤i→η2 i=none)∧HInv B η2 (δ++(bxs s.fo h++[(0,.frm G w0)])) S2 w'∧PM S2 w' η2 pv v_1:=fun ho=>by
  obtain ⟨res,h1,h2⟩:=outP_ok hΓ hk haft ho hi hl
  refine ⟨res,h1,fun S' w' η' v i1 l1 hp hh gr hm=>?_⟩
  obtain ⟨S2,η2,g1,g2,g3,g4,g5⟩:=h2 S' w' η' v i1 l1 hp hh gr hm
  exact ⟨v,S2,η2,rfl,g1,g2,g3,g4,g5⟩
 cases ex with
 | norm=>exact ⟨⟨fun i hi=>(by cases hi),fun l hl=>(by cases hl),fun T hT=>(by cases hT)⟩,key hk'⟩
 | ret=>exact ⟨⟨fun i hi=>(by cases hi),fun l hl=>(by cases hl),fun T hT=>(by cases hT)⟩,key hk'⟩
 | exit i=>cases hk'
 | go l=>cases hk'
 | pan T=>cases hk'
def Tabs.addP (Γ:Tabs) (f:FuncId) (s:PSpec):Tabs:={ Γ with pp:=(f,s)::Γ.pp }
theorem TabOK.addP {P:Program} {Γ:Tabs} (h:TabOK P Γ) {f:FuncId} {s:PSpec} (hs:PSpecOK P f s):TabOK P (Γ.addP f s) :=
 ⟨h.ty,h.fn,h.sp,h.en,h.mixed,h.so,h.eqs,h.so1,h.mps,h.ow,h.bt,h.ex,fun g s' hl=>by
  unfold Tabs.addP at hl
  by_cases hg:f=g
  ·subst hg;rw [jA] at hl;cases hl;exact hs
  ·rw [wA _ _ hg] at hl;exact h.pp g s' hl⟩

noncomputable def clP (F:OpF) (n:Nat) (Γ:Tabs) (an:Ann) (fn:Func) (cl:Code) (ncl i2 i3:Nat) (k:Skel) (st0:PS) (v:CV) (b:Bool) (st1:PS):Option (Tup k.tys) :=
 pc F n { Γ with own:=[3000000] } ncl an cl (Tup k.tys) ⟨[(3,.c (.d .bool b)),(2,.c v),(1,.c (.p i3 0)),(0,.c (.p i2 0))],st1.hp,st1.nx⟩ fun ex st=>match ex with
  | .exit _=>none
  | .go _=>none
  | .pan _=>none
  | _=>outP Γ fn.results.toList k st0 ⟨st1.env,st.hp,st.nx⟩
noncomputable def fnT (F:OpF) (n:Nat) (Γ:Tabs) (own:List Nat) (a0 a1 aN aP:Ann) (fn:Func) (c0 rest cl:Code) (ncl s2 s3 sf Te:Nat) (a:List SR) (o:List SO) (k:Skel) (fo:List Nat) (G:Cells) (w0:World) (x:Tup (SRs.tys a++tG o)):Option (Tup k.tys):=match stOf a o x with
 | some (rs,h)=>(frc fo h).bind fun _=>pc F n { Γ with own:=[3000000] } fn.ntmps a0 c0 (Tup k.tys) (ent rs (bxs fo h) (o.length+1) G w0) fun ex st=>match ex with
  | .norm=>match lk st.env s2,lk st.env s3,lk st.env sf with
   | some (.r (.c (.p i2 0))),some (.r (.c (.p i3 0))),none =>
    pc F n { Γ with own:=own } fn.ntmps a1 rest (Tup k.tys) st fun ex1 st1=>match ex1 with
     | .exit _=>none
     | .go _=>none
     | .pan T=>match Nat.beq T (1000000+Te) with
      | true=>clP F n Γ aP fn cl ncl i2 i3 k (ent rs (bxs fo h) (o.length+1) G w0) (.i (1000000+Te)) true st1
      | false=>none
     | _=>clP F n Γ aN fn cl ncl i2 i3 k (ent rs (bxs fo h) (o.length+1) G w0) (.l .nilI) false st1
   | _,_,_=>none
  | _=>none
 | none=>none
theorem payV_err (T:TypeId):yC (1000000+T)=.iface T (.pointer (some ea.a)):=by
 unfold yC
 have:Nat.blt (1000000+T) 1000000=false:=by
  cases h:Nat.blt (1000000+T) 1000000 with
  | false=>rfl
  | true=>have:=nL h;omega
 rw [this]
 simp
def PostP (s:PSpec) (B:Nat) (S0:Cells) (w0:World) (η0:Eta) (H1:PH) (pv:PV) (en:Ending) (w':World):Prop:=∃ v S' η',en=.returned v∧Grow B S0 w0 S' w'∧Pre η0 η'∧(∀ i,s.o.length+1+s.k.news.length≤i→η' i=none)∧HInv B η' H1 S' w'∧PM S' w' η' pv v
theorem clP_ok {P:Program} {Γ:Tabs} (hΓ:TabOK P Γ) {F:OpF} (hS:F.Sound) (hN:F.Nice) {fn:Func} {g:FuncId} {fg:Func} {cl:Code} {n:Nat} {an:Ann} {i0 i2 i3 xt It Te fe:Nat} {o1 o2 o3 o4 o5 o6 o7:Oper} {s:PSpec} {v:CV} {bb:Bool} {u u':FrameMode} {st1:PS} {rs:List RV} {h:PH} {G:Cells} {wf:World} {pv:PV} {δ:PH}
  (hg:lk Γ.fn g=some fg) (hbg:fg.body=some (.seq (.region i0 #[o1,o2,o3,o4,o5,o6,o7] false) cl)) (hrg:fg.results=#[]) (hq1:o1.op=.call { callee:=.builtin .recover,args:=#[],argTypes:=#[] }) (hq2:o2.op=.typeAssert (.tmp 5) xt It true) (hq3:o3.op=.move (.tmp 6)) (hq4:o4.op=.extract (.tmp 4) 0) (hq5:o5.op=.extract (.tmp 4) 1) (hq6:o6.op=.assign (.tmp 7)) (hq7:o7.op=.assign (.tmp 8))
  (hd1:o1.dst=some 5) (hd2:o2.dst=some 6) (hd3:o3.dst=some 4) (hd4:o4.dst=some 7) (hd5:o5.dst=some 8) (hd6:o6.dst=some 2) (hd7:o7.dst=some 3) (hu1:o1.guard=none) (hu2:o2.guard=none) (hu3:o3.guard=none) (hu4:o4.guard=none) (hu5:o5.guard=none) (hu6:o6.guard=none) (hu7:o7.guard=none)
  (hnt:Nat.ble 9 fg.ntmps=true) (hex:lk Γ.ex fe=some (.isE Te It))
  (hv:(v=.l .nilI∧bb=false∧u=.returning∧u'=.returning)∨(v=.i (1000000+Te)∧bb=true∧u=.panicking [{ v:=yC (1000000+Te),recovered:=false }]∧u'=.panicking [{ v:=yC (1000000+Te),recovered:=true }]))
  (hsk:skP s.k=true) {r:Tup s.k.tys} (ha:s.aft r=some (pv,δ)) (hcl:clP F n Γ an fn cl fg.ntmps i2 i3 s.k (ent rs h (s.o.length+1) G wf) v bb st1=some r)
  {B:Nat} {S0:Cells} {w0:World} {η0:Eta} (hi0:HInv B η0 (ent rs h (s.o.length+1) G wf).hp S0 w0) (hl0:∀ i,s.o.length+1≤i→η0 i=none)
  {S:Cells} {w:World} {η:Eta} {tmps:Array Value} {b2 b3:Nat} (hi:HInv B η st1.hp S w) (hl:∀ i,st1.nx≤i→η i=none) (he:EnvM S w η st1.env tmps) (hp2:η i2=some (.pointer (some ⟨b2,0,none⟩))) (hp3:η i3=some (.pointer (some ⟨b3,0,none⟩))) (hgr:Grow B S0 w0 S w) (hpre:Pre η0 η) (hsuf:∃ d,st1.hp=d++(ent rs h (s.o.length+1) G wf).hp) :
  CallsDIn (FR none) 0 P g #[.pointer (some ⟨b2,0,none⟩),.pointer (some ⟨b3,0,none⟩)] u w fun
   | .returned _,u',w'=>LeavesInM (FR none) 0 P fn tmps (PostP s B S0 w0 η0 (δ++(h++[(0,.frm G wf)])) pv) [] (settle u') w'
   | .panicked pB,u',w'=>LeavesInM (FR none) 0 P fn tmps (PostP s B S0 w0 η0 (δ++(h++[(0,.frm G wf)])) pv) [] (raised u' pB) w'
   | .outgrown,_,w'=>PostP s B S0 w0 η0 (δ++(h++[(0,.frm G wf)])) pv .outgrown w':=by
 have hnt:9≤fg.ntmps:=nL hnt
 refine callsDIn_of_wpSIn (hΓ.fn g fg hg).1 hbg (FR.fn none g) fun c₀ cs hu=>?_
 obtain ⟨val,hval,hta,hrec⟩:∃ val:Value,(∀ S w η,CM S w η v val)∧(∀ w,(Instr.typeAssert val xt It true).run P w=.ok (.tuple #[val,.bool bb]) w)∧(match recoverD (c₀::cs) with | some (x,cs')=>x=val∧cs'={ c₀ with mode:=u' }::cs | none=>.nilIface=val∧{ c₀ with mode:=u' }::cs=c₀::cs):=by
  rcases hv with ⟨rfl,rfl,rfl,rfl⟩ | ⟨rfl,rfl,rfl,rfl⟩
  ·refine ⟨.nilIface,fun S w η=>rfl,(hΓ.ex _ _ hex).2.2.2 xt,?_⟩
   have:recoverD (c₀::cs)=none:=by simp [recoverD,hu]
   rw [this]
   exact ⟨rfl,by rw [← hu]⟩
  ·refine ⟨yC (1000000+Te),fun S w η=>rfl,fun w=>by rw [payV_err];exact (hΓ.ex _ _ hex).2.2.1 _ xt w,?_⟩
   have:recoverD (c₀::cs)=some (yC (1000000+Te),{ c₀ with mode:=.panicking [{ v:=yC (1000000+Te),recovered:=true }] }::cs):=by simp [recoverD,hu]
   rw [this]
   exact ⟨rfl,rfl⟩
 have hset:settle u'=.returning:=by
  rcases hv with ⟨_,_,_,rfl⟩ | ⟨_,_,_,rfl⟩
  ·rfl
  ·rfl
 refine wpSIn_seq (wpSIn_region ?_)
 have hA:∀ a:Act,a.defers=[]→a.tmps.size=fg.ntmps→a.tmps.getD 0 undef=.pointer (some ⟨b2,0,none⟩)→a.tmps.getD 1 undef=.pointer (some ⟨b3,0,none⟩)→a.tmps.getD 2 undef=val→a.tmps.getD 3 undef=.bool bb →
   cl.wpSIn (FR none) 0 P (bodyPostS P fg c₀ cs fun
   | .returned _,u',w'=>LeavesInM (FR none) 0 P fn tmps (PostP s B S0 w0 η0 (δ++(h++[(0,.frm G wf)])) pv) [] (settle u') w'
   | .panicked pB,u',w'=>LeavesInM (FR none) 0 P fn tmps (PostP s B S0 w0 η0 (δ++(h++[(0,.frm G wf)])) pv) [] (raised u' pB) w'
   | .outgrown,_,w'=>PostP s B S0 w0 η0 (δ++(h++[(0,.frm G wf)])) pv .outgrown w') a ({ c₀ with mode:=u' }::cs) w:=by
  intro a had hsz h0 h1 h2 h3
  refine wpSIn_of_wpIn rfl ?_
  unfold clP at hcl
  have hΓ':TabOK P { Γ with own:=[3000000] }:=⟨hΓ.ty,hΓ.fn,hΓ.sp,hΓ.en,hΓ.mixed,hΓ.so,hΓ.eqs,hΓ.so1,hΓ.mps,hΓ.ow,hΓ.bt,hΓ.ex,hΓ.pp⟩
  refine (sound hS hN n).1 _ _ _ _ _ _ _ _ hcl P hΓ' none B ⟨w.heap.size,none,[],true⟩ a w S η ⟨⟨[],fun _=>rfl,had,List.nodup_nil,fun b hb=>by cases hb⟩,hsz,fun t pv ht=>?_,hi,hl,noGE_wf rfl,(fun l hl=>by cases hl),hi.base,nR _⟩ rfl (fun _=>rfl) _ fun ex st' a' w' S' η' g' stp hk=>?_
  ·unfold lk at ht
   split at ht
   ·rename_i hb
    cases ht
    rw [← nB hb,h3]
    exact PM.bool.2 rfl
   ·unfold lk at ht
    split at ht
    ·rename_i hb
     cases ht
     rw [← nB hb,h2]
     exact hval S w η
    ·unfold lk at ht
     split at ht
     ·rename_i hb
      cases ht
      rw [← nB hb,h1]
      exact ⟨b3,hp3,rfl⟩
     ·unfold lk at ht
      split at ht
      ·rename_i hb
       cases ht
       rw [← nB hb,h0]
       exact ⟨b2,hp2,rfl⟩
      ·cases ht
  ·obtain ⟨bs,hnb,hd,_,_⟩:=g'.defers
   rw [hnb rfl] at hd
   have key:outP Γ fn.results.toList s.k (ent rs h (s.o.length+1) G wf) ⟨st1.env,st'.hp,st'.nx⟩=some r→a'.defers=[]∧∃ u'',({ c₀ with mode:=u' }::cs:List Frame)={ c₀ with mode:=u'' }::cs∧∃ v,(results fg a'.tmps).run P w'=.ok v w'∧LeavesInM (FR none) 0 P fn tmps (PostP s B S0 w0 η0 (δ++(h++[(0,.frm G wf)])) pv) [] (settle u'') w':=by
    intro hk
    refine ⟨hd,u',rfl,.tuple #[],?_,?_⟩
    ·unfold results
     rw [hrg]
     simp
    ·rw [hset]
     obtain ⟨res,hres,hend⟩:=outP_ok hΓ hsk ha hk hi0 hl0
     have he':EnvM S' w' η' st1.env tmps:=he.mono stp.grow.keep stp.pre
     obtain ⟨us,hv1,hv2⟩:=bF (st:=⟨st1.env,st'.hp,st'.nx⟩) (a:={ tmps:=tmps,defers:=[] }) hΓ he' g'.inv hres
     obtain ⟨v,hr1,hr2⟩:=results_ok hv1 hv2
     obtain ⟨S2,η2,q1,q2,q3,q4,q5⟩:=hend S' w' η' v g'.inv g'.len (hpre.trans stp.pre) (kC hsuf stp.hp) (hgr.trans stp.grow) hr2
     exact ⟨v,hr1,v,S2,η2,rfl,q1,q2,q3,q4,q5⟩
   cases ex with
   | norm=>exact key hk
   | ret=>exact key hk
   | exit i=>cases hk
   | go l=>cases hk
   | pan T=>cases hk
 have hx1:∀ (ρ:Operand→Value) w,(execOp ρ o1).run P w=.ok .recover w:=fun ρ w=>by simp [execOp,hq1,resolve,invoke,builtin]
 have hsize:((#[Value.pointer (some ⟨b2,0,none⟩),.pointer (some ⟨b3,0,none⟩)]:Array Value)++Array.replicate (fg.ntmps-2) undef).size=fg.ntmps:=by simp;omega
 show wpOpsSIn (FR none) 0 P #[o1,o2,o3,o4,o5,o6,o7] _ [0,1,2,3,4,5,6] { tmps:=#[Value.pointer (some ⟨b2,0,none⟩),.pointer (some ⟨b3,0,none⟩)]++Array.replicate (fg.ntmps-2) undef,defers:=[] } (c₀::cs) w
 generalize htm:(#[Value.pointer (some ⟨b2,0,none⟩),.pointer (some ⟨b3,0,none⟩)]:Array Value)++Array.replicate (fg.ntmps-2) undef=tm at *
 have t0:tm.getD 0 undef=.pointer (some ⟨b2,0,none⟩):=by rw [← htm];simp [aD,Array.getElem?_append]
 have t1:tm.getD 1 undef=.pointer (some ⟨b3,0,none⟩):=by rw [← htm];simp [aD,Array.getElem?_append]
 have stp:∀ (A:Array Value) (d:Nat) (v:Value),A.size=fg.ntmps→d<9→∃ A',A'=A.setIfInBounds d v∧A'.size=fg.ntmps∧A'.getD d undef=v∧∀ k,d≠k→A'.getD k undef=A.getD k undef:=fun A d v hA hd =>
  ⟨_,rfl,by rw [Array.size_setIfInBounds];exact hA,by simp [aD,Array.getElem?_setIfInBounds,show d<A.size by omega],fun k hk=>by simp [aD,Array.getElem?_setIfInBounds,hk]⟩
 have pt:∀ (A A':Array Value) (o:Oper) (d:Nat) (v:Value),o.dst=some d→A'=A.setIfInBounds d v→(({ tmps:=A,defers:=[] }:Act).put o.dst v)={ tmps:=A',defers:=[] }:=fun A A' o d v h1 h2=>by rw [h1,h2];rfl
 have evt:∀ (A:Array Value) (k:Nat),({ tmps:=A,defers:=[] }:Act).eval (.tmp k)=A.getD k undef:=fun _ _=>rfl
 obtain ⟨A1,e1,z1,g1,n1⟩:=stp tm 5 val hsize (by decide)
 obtain ⟨A2,e2,z2,g2,n2⟩:=stp A1 6 (.tuple #[val,.bool bb]) z1 (by decide)
 obtain ⟨A3,e3,z3,g3,n3⟩:=stp A2 4 (.tuple #[val,.bool bb]) z2 (by decide)
 obtain ⟨A4,e4,z4,g4,n4⟩:=stp A3 7 val z3 (by decide)
 obtain ⟨A5,e5,z5,g5,n5⟩:=stp A4 8 (.bool bb) z4 (by decide)
 obtain ⟨A6,e6,z6,g6,n6⟩:=stp A5 2 val z5 (by decide)
 obtain ⟨A7,e7,z7,g7,n7⟩:=stp A6 3 (.bool bb) z6 (by decide)
 refine opsS_recover (o:=o1) (w':=w) (v:=val) rfl hu1 (hx1 _ _) hrec ?_
 rw [pt tm A1 o1 5 val hd1 e1]
 refine eE (o:=o2) (w':=w) (v:=.tuple #[val,.bool bb]) rfl hu2 (by simp [execOp,hq2,evt,g1,hta]) ?_
 rw [pt A1 A2 o2 6 _ hd2 e2]
 refine eE (o:=o3) (w':=w) (v:=.tuple #[val,.bool bb]) rfl hu3 (by simp [execOp,hq3,evt,g2]) ?_
 rw [pt A2 A3 o3 4 _ hd3 e3]
 refine eE (o:=o4) (w':=w) (v:=val) rfl hu4 (by simp [execOp,hq4,evt,g3,Instr.extract]) ?_
 rw [pt A3 A4 o4 7 _ hd4 e4]
 have k4:A4.getD 4 undef=.tuple #[val,.bool bb]:=(n4 4 (by decide)).trans g3
 refine eE (o:=o5) (w':=w) (v:=.bool bb) rfl hu5 (by simp [execOp,hq5,evt,k4,Instr.extract]) ?_
 rw [pt A4 A5 o5 8 _ hd5 e5]
 have k5:A5.getD 7 undef=val:=(n5 7 (by decide)).trans g4
 refine eE (o:=o6) (w':=w) (v:=val) rfl hu6 (by simp [execOp,hq6,evt,k5]) ?_
 rw [pt A5 A6 o6 2 _ hd6 e6]
 have k6:A6.getD 8 undef=.bool bb:=(n6 8 (by decide)).trans g5
 refine eE (o:=o7) (w':=w) (v:=.bool bb) rfl hu7 (by simp [execOp,hq7,evt,k6]) ?_
 rw [pt A6 A7 o7 3 _ hd7 e7]
 have low:∀ k,k≠5→k≠6→k≠4→k≠7→k≠8→k≠2→k≠3→A7.getD k undef=tm.getD k undef:=fun k c1 c2 c3 c4 c5 c6 c7=>by
  rw [n7 k (Ne.symm c7),n6 k (Ne.symm c6),n5 k (Ne.symm c5),n4 k (Ne.symm c4),n3 k (Ne.symm c3),n2 k (Ne.symm c2),n1 k (Ne.symm c1)]
 show cl.wpSIn (FR none) 0 P _ _ _ w
 exact hA _ rfl z7 ((low 0 (by decide) (by decide) (by decide) (by decide) (by decide) (by decide) (by decide)).trans t0) ((low 1 (by decide) (by decide) (by decide) (by decide) (by decide) (by decide) (by decide)).trans t1) ((n7 2 (by decide)).trans g6) g7
theorem fnT_ok {P:Program} {Γ:Tabs} (hΓ:TabOK P Γ) {F:OpF} (hS:F.Sound) (hN:F.Nice) {f g:FuncId} {fn fg:Func} {c0 rest cl:Code} {own:List Nat} {a0 a1 aN aP:Ann} {n i0 i1 s2 s3 sf xt It Te fe:Nat} {o1 o2 o3 o4 o5 o6 o7 p1 p2:Oper} {s:PSpec}
  (hf:lk Γ.fn f=some fn) (hb:fn.body=some (.seq c0 (.seq (.region i1 #[p1,p2] false) rest))) (hn:Nat.ble s.a.length fn.ntmps=true) (hsk:skP s.k=true)
  (hp1:p1.op=.makeFunc (.func g) #[] #[.tmp s2,.tmp s3]) (hpd1:p1.dst=some sf) (hpu1:p1.guard=none) (hp2:p2.op=.defer { callee:=.value (.tmp sf),args:=#[],argTypes:=#[] }) (hpd2:p2.dst=none) (hpu2:p2.guard=none) (hsf:Nat.blt sf fn.ntmps=true)
  (hg:lk Γ.fn g=some fg) (hbg:fg.body=some (.seq (.region i0 #[o1,o2,o3,o4,o5,o6,o7] false) cl)) (hrg:fg.results=#[]) (hq1:o1.op=.call { callee:=.builtin .recover,args:=#[],argTypes:=#[] }) (hq2:o2.op=.typeAssert (.tmp 5) xt It true) (hq3:o3.op=.move (.tmp 6)) (hq4:o4.op=.extract (.tmp 4) 0) (hq5:o5.op=.extract (.tmp 4) 1) (hq6:o6.op=.assign (.tmp 7)) (hq7:o7.op=.assign (.tmp 8))
  (hd1:o1.dst=some 5) (hd2:o2.dst=some 6) (hdd3:o3.dst=some 4) (hd4:o4.dst=some 7) (hd5:o5.dst=some 8) (hd6:o6.dst=some 2) (hd7:o7.dst=some 3) (hu1:o1.guard=none) (hu2:o2.guard=none) (hu3:o3.guard=none) (hu4:o4.guard=none) (hu5:o5.guard=none) (hu6:o6.guard=none) (hu7:o7.guard=none)
  (hnt:Nat.ble 9 fg.ntmps=true) (hex:lk Γ.ex fe=some (.isE Te It))
  (hm:∀ G w0 x,fnT F n Γ own a0 a1 aN aP fn c0 rest cl fg.ntmps s2 s3 sf Te s.a s.o s.k s.fo G w0 x=s.m x):PSpecOK P f s:=by
 refine ⟨(hΓ.fn f fn hf).2,fun x r hr rs h pv δ hst haft G w0 B S w η vs hi hl hv=>?_⟩
 have hr:fnT F n Γ own a0 a1 aN aP fn c0 rest cl fg.ntmps s2 s3 sf Te s.a s.o s.k s.fo G w0 x=some r:=(hm G w0 x).trans hr
 unfold fnT at hr
 have hst':stOf s.a s.o x=some (rs,h):=hst
 rw [hst'] at hr
 simp only at hr
 obtain ⟨_,hfr,hr⟩:=Option.bind_eq_some_iff.1 hr
 have hfo:=frc_ok hfr
 have hi:HInv B η (bxs s.fo h++[(0,.frm G w0)]) S w:=hi.as fun i po hlk=>by
  rw [xB] at hlk
  rcases hfo i with e | ⟨l,e1,e2⟩
  ·rw [e,← xB] at hlk
   exact ⟨po,hlk,fun _ h=>h⟩
  ·rw [e2] at hlk
   cases hlk
   exact ⟨.opt false l,by rw [xB,e1],fun _ h=>h⟩
 have hΓ':∀ own,TabOK P { Γ with own:=own }:=fun own=>⟨hΓ.ty,hΓ.fn,hΓ.sp,hΓ.en,hΓ.mixed,hΓ.so,hΓ.eqs,hΓ.so1,hΓ.mps,hΓ.ow,hΓ.bt,hΓ.ex,hΓ.pp⟩
 have hlen:rs.length=s.a.length:=by
  unfold stOf at hst'
  split at hst'
  ·rename_i hd
   split at hst'
   ·cases hst';exact cI hd
   ·cases hst'
  ·cases hst'
 have hvl:vs.length≤fn.ntmps:=by rw [← hv.length,hlen];exact nL hn
 refine callsIn_wide.1 (?_:CallsIn (FR none) 0 P f vs.toArray w (PostP s B S w η (δ++(bxs s.fo h++[(0,.frm G w0)])) pv))
 refine callsIn_of_wp_marks (hΓ.fn f fn hf).1 hb (FR.fn none f) ?_
 refine wpIn_seq ((sound hS hN n).1 _ _ _ _ _ _ _ _ hr P (hΓ' _) none B ⟨w.heap.size,none,[],true⟩ _ w S η ⟨DefsOK.nil _ _ _ _,?_,?_,hi,hl,numL_noG,(fun l hl=>by cases hl),hi.base,nR _⟩ rfl (fun _=>rfl) _ fun ex st1 a1' w1 S1 η1 g1 stp1 hk1=>?_)
 ·simp only [Array.size_append,Array.size_replicate,List.size_toArray];omega
 ·have:=numL_env (k:=0) (pre:=[]) (post:=List.replicate (fn.ntmps-vs.toArray.size) undef) hv rfl
  have e:vs.toArray++Array.replicate (fn.ntmps-vs.toArray.size) undef=([]++vs++List.replicate (fn.ntmps-vs.toArray.size) undef).toArray:=by simp
  show EnvM S w _ _ (vs.toArray++Array.replicate (fn.ntmps-vs.toArray.size) undef)
  rw [e];exact this
 cases ex with
 | ret=>cases hk1
 | exit i=>cases hk1
 | go l=>cases hk1
 | pan T=>cases hk1
 | norm =>
  simp only at hk1
  split at hk1
  ·rename_i i2 i3 hs2 hs3 hsn
   obtain ⟨b2,q2,v2⟩:=g1.env s2 _ hs2
   obtain ⟨b3,q3,v3⟩:=g1.env s3 _ hs3
   obtain ⟨bs,hnb,hd,_,_⟩:=g1.defers
   rw [hnb rfl] at hd
   have hd:a1'.defers=[]:=hd
   let cv:Value:=.func (.func g) #[] #[.pointer (some ⟨b2,0,none⟩),.pointer (some ⟨b3,0,none⟩)]
   let d:Deferred:={ target:=.fn (.func g) #[.pointer (some ⟨b2,0,none⟩),.pointer (some ⟨b3,0,none⟩)],args:=#[] }
   have hx1:(execOp a1'.eval p1).run P w1=.ok (.value cv) w1:=by
    have e2:a1'.eval (.tmp s2)=.pointer (some ⟨b2,0,none⟩):=v2
    have e3:a1'.eval (.tmp s3)=.pointer (some ⟨b3,0,none⟩):=v3
    simp [execOp,hp1,Instr.makeFunc,e2,e3,cv]
   show (Code.seq (.region i1 #[p1,p2] false) rest).wpIn (FR none) 0 P _ a1' w1
   have sfl:sf<fn.ntmps:=nL hsf
   have hev:(a1'.put (some sf) cv).eval (.tmp sf)=cv:=by
    show (a1'.tmps.setIfInBounds sf cv).getD sf undef=cv
    have:sf<a1'.tmps.size:=by rw [g1.size];exact sfl
    simp [Array.getD,this]
   have hx2:(execOp (a1'.put (some sf) cv).eval p2).run P w1=.ok (.defer d) w1:=by
    simp [execOp,hp2,resolve,hev,Deferred.ofValue,cv,d]
   let a2:Act:={ tmps:=a1'.tmps.setIfInBounds sf cv,defers:=[d] }
   have hrest:rest.wpIn (FR none) 0 P (bodyPostM (FR none) 0 P fn (PostP s B S w η (δ++(bxs s.fo h++[(0,.frm G w0)])) pv)) a2 w1:=by
    refine (sound hS hN n).1 _ _ _ _ _ _ _ _ hk1 P (hΓ' _) none B ⟨w.heap.size,none,[d],false⟩ a2 w1 S1 η1 ⟨DefsOK.nil _ _ _ _,by simp [a2,g1.size],fun t pv ht=>?_,g1.inv,g1.len,g1.wf,(fun l hl=>by cases hl),g1.bb,g1.ba⟩ rfl (fun h=>by cases h) _ fun ex st3 a3 w3 S3 η3 g3 stp3 hk3=>?_
    ·have hts:t≠sf:=fun h=>by subst h;rw [hsn] at ht;cases ht
     have:=g1.env t pv ht
     show PM S1 w1 η1 pv ((a1'.tmps.setIfInBounds sf cv).getD t undef)
     rw [show (a1'.tmps.setIfInBounds sf cv).getD t undef=a1'.tmps.getD t undef by simp [aD,Array.getElem?_setIfInBounds,Ne.symm hts]]
     exact this
    ·obtain ⟨bs,_,hd3,hnd,hbs⟩:=g3.defers
     have fin:∀ (u u':FrameMode) (v:CV) (bb:Bool) (an:Ann),u≠.run→((v=.l .nilI∧bb=false∧u=.returning∧u'=.returning)∨(v=.i (1000000+Te)∧bb=true∧u=.panicking [{ v:=yC (1000000+Te),recovered:=false }]∧u'=.panicking [{ v:=yC (1000000+Te),recovered:=true }])) →
       clP F n Γ an fn cl fg.ntmps i2 i3 s.k (ent rs (bxs s.fo h) (s.o.length+1) G w0) v bb st3=some r→LeavesInM (FR none) 0 P fn a3.tmps (PostP s B S w η (δ++(bxs s.fo h++[(0,.frm G w0)])) pv) a3.defers u w3:=by
      intro u u' v bb an hur hv hcl
      rw [hd3]
      refine leaves_tl hur bs w3 hnd hbs fun w2 t=>?_
      obtain ⟨i2',e2,gr2⟩:=g3.took t
      refine ⟨hur,.inr ⟨fun h=>(FR.nodepth none h).elim,.func g,_,g,#[.pointer (some ⟨b2,0,none⟩),.pointer (some ⟨b3,0,none⟩)],rfl,?_,fun f _=>FR.fn none f,?_⟩⟩
      ·show (invoke d.target d.args).run P w2=_
       have:=(hΓ.fn g fg hg).2 #[.pointer (some ⟨b2,0,none⟩),.pointer (some ⟨b3,0,none⟩)] w2
       simpa [invoke,d] using this
      ·exact clP_ok hΓ hS hN hg hbg hrg hq1 hq2 hq3 hq4 hq5 hq6 hq7 hd1 hd2 hdd3 hd4 hd5 hd6 hd7 hu1 hu2 hu3 hu4 hu5 hu6 hu7 hnt hex hv hsk haft hcl hi hl i2' g3.len e2 (stp3.pre.get q2) (stp3.pre.get q3) (gr2 S w (nR _) (stp1.grow.trans stp3.grow)) (stp1.pre.trans stp3.pre) (kC stp1.hp stp3.hp)
     cases ex with
     | norm=>exact fin .returning .returning (.l .nilI) false aN (by simp) (.inl ⟨rfl,rfl,rfl,rfl⟩) hk3
     | ret=>exact fin .returning .returning (.l .nilI) false aN (by simp) (.inl ⟨rfl,rfl,rfl,rfl⟩) hk3
     | exit i=>cases hk3
     | go l=>cases hk3
     | pan T =>
      simp only at hk3
      split at hk3
      ·rename_i hT
       have hT:=nB hT
       subst hT
       exact fin _ _ (.i (1000000+Te)) true aP (by simp) (.inr ⟨rfl,rfl,rfl,rfl⟩) hk3
      ·cases hk3
   refine wpIn_seq (wpIn_region ?_)
   show wpOpsIn (FR none) 0 P #[p1,p2] _ [0,1] a1' w1
   refine opsIn_value (o:=p1) (w':=w1) (v:=cv) rfl hpu1 hx1 (opsIn_defer (o:=p2) (w':=w1) (d:=d) rfl hpu2 (by rw [hpd1];exact hx2) ?_)
   rw [hpd1,hpd2]
   show rest.wpIn (FR none) 0 P _ { tmps:=a1'.tmps.setIfInBounds sf cv,defers:=d::a1'.defers } w1
   rw [hd]
   exact hrest
  ·cases hk1
end Go.PE
namespace Go.Proofs.YtdjfiampkhfooaaGreatDoor
open Go Go.Abs Go.PE Go.Proofs
open Go.IntKind (wrap)
set_option maxRecDepth 100000
variable [EA]
noncomputable section
abbrev tR:Ty:=(.pair tI (.pair tI (.pair tI (.pair tI (.pair tI (.pair tI (.pair tI (.pair .str .str))))))))
abbrev tP:Ty:=(.pair tI tI)
abbrev tB:Ty:=(.pair tI tP)
abbrev tC:Ty:=(.pair tI (.pair tI tB))
abbrev tQ:Ty:=(.list tP)
abbrev tL:Ty:=(.list tI)
abbrev tO:Ty:=(.pair tI tQ)
abbrev tD:Ty:=(.pair tO (.list tC))
abbrev z0:Fl:=.s [] []
def ra:Nat→Nat→List Nat→List Nat
 | _,0,l=>l
 | a,n+1,l=>a::ra (a+1) n l
def za:Nat→List Fl→List Fl
 | 0,l=>l
 | n+1,l=>z0::za n l
theorem fc [db:DB] {f:FuncId} {ta tr:List Ty} {m:Tup (ta.map .d)→Option (Tup (tr.map .d))} {Γ:Tabs} (h:TabOK Tryz.prog Γ) (own:List Nat) (an:Ann) (fn:Func) (hm:∀ x,fnM OPS 400 Γ own an fn (fn.body.getD .skip) ta tr x=m x) (hf:lk Γ.fn f=some fn:=by kernel_rfl) (hb:fn.body=some (fn.body.getD .skip):=by kernel_rfl) (hn:Nat.ble ta.length fn.ntmps=true:=by kernel_rfl):SpecOK Tryz.prog f ⟨ta,tr,m⟩:=fnM_ok h OPS_sound OPS_nice hf hb hn hm
def tabsA:Tabs:={ tabs with mps:=[] }
theorem mpsOK:∀ f es,lk tabsA.mps f=some es→MapOK Tryz.prog f es:=by
 show ∀ f es,lk [] f=some es→MapOK Tryz.prog f es
 exact jG
theorem tabsAOK:TabOK Tryz.prog tabsA:=⟨aG.ty,aG.fn,aG.sp,aG.en,aG.mixed,aG.so,aG.eqs,aG.so1,mpsOK,aG.ow,aG.bt,aG.ex,aG.pp⟩
def ano47:Ann:=.a
def mo47:List (List UInt8)→Option (List (List UInt8)) :=
 fun x=>nilM x (some []) ((eB (nat_lit 16) [] x).bind fun r=>some r)
theorem co47:OwnOK Tryz.prog 47 ⟨[(.list .str)],.str,mo47⟩ :=
 fnOw_ok (own:=[]) (an:=ano47) (n:=400) tabsAOK (F:=OPS) OPS_sound OPS_nice (f:=47) (fn:=Tryz.f47) (code:=Tryz.f47.body.getD .skip) (by kernel_rfl) (by kernel_rfl) (by kernel_rfl) Tryz.call47 fun x=>by kernel_rfl
def tabsO47:Tabs:=Tabs.addOw tabsA 47 ⟨[(.list .str)],.str,mo47⟩
theorem tabsO47OK:TabOK Tryz.prog tabsO47:=TabOK.addOw tabsAOK co47
def ano61:Ann:=.a
def mo61:List (Int×Int×Int×Int×Int×Int×Int×List UInt8×List UInt8)→Option (List (Int×Int×Int×Int×Int×Int×Int×List UInt8×List UInt8)) :=
 fun x=>nilM x (some []) ((eB (nat_lit 88) [] x).bind fun r=>some r)
theorem co61:OwnOK Tryz.prog 61 ⟨[(.list (.pair tI (.pair tI (.pair tI (.pair tI (.pair tI (.pair tI (.pair tI (.pair .str .str)))))))))],(.pair tI (.pair tI (.pair tI (.pair tI (.pair tI (.pair tI (.pair tI (.pair .str .str)))))))),mo61⟩ :=
 fnOw_ok (own:=[]) (an:=ano61) (n:=400) tabsO47OK (F:=OPS) OPS_sound OPS_nice (f:=61) (fn:=Tryz.f61) (code:=Tryz.f61.body.getD .skip) (by kernel_rfl) (by kernel_rfl) (by kernel_rfl) Tryz.call61 fun x=>by kernel_rfl
def tabsO61:Tabs:=Tabs.addOw tabsO47 61 ⟨[(.list (.pair tI (.pair tI (.pair tI (.pair tI (.pair tI (.pair tI (.pair tI (.pair .str .str)))))))))],(.pair tI (.pair tI (.pair tI (.pair tI (.pair tI (.pair tI (.pair tI (.pair .str .str)))))))),mo61⟩
theorem tabsO61OK:TabOK Tryz.prog tabsO61:=TabOK.addOw tabsO47OK co61
def tabsX:Tabs:=tabsO61
theorem tabsXOK:TabOK Tryz.prog tabsX:=tabsO61OK

/-! cmp.isNaN[int] -/
def as124:List Ty:=[tI]
def rs124:List Ty:=[.bool]
def an124:Ann:=.a
def m124:Int→Option (Bool) :=
 fun x=>some (PE.notM (eqM x x))
theorem c124:SpecOK (db:=dbT) Tryz.prog 124 ⟨as124,rs124,m124⟩ :=
 fc (db:=dbT) (tabsTOK (db:=dbT)) [] an124 Tryz.f124 fun x=>by kernel_rfl
def tabs124:Tabs:=Tabs.add tabsT 124 ⟨as124,rs124,m124⟩
theorem tabs124OK:TabOK (db:=dbT) Tryz.prog tabs124:=TabOK.add (db:=dbT) (tabsTOK (db:=dbT)) c124 Tryz.call124

/-! cmp.Compare[int] -/
def as75:List Ty:=[tI,tI]
def rs75:List Ty:=[tI]
def an75:Ann:=.a
def m75:(Int×Int)→Option (Int) :=
 fun x=>(m124 x.1).bind fun r=>(m124 x.2).bind fun r_1=>bif r then bif r_1 then some 0 else some (-1) else bif r_1 then some 1 else bif ltM x.1 x.2 then
 some (-1) else bif ltM x.2 x.1 then some 1 else some 0
theorem c75:SpecOK (db:=dbT) Tryz.prog 75 ⟨as75,rs75,m75⟩ :=
 fc (db:=dbT) tabs124OK [] an75 Tryz.f75 fun x=>by kernel_rfl
def tabs75:Tabs:=Tabs.add tabs124 75 ⟨as75,rs75,m75⟩
theorem tabs75OK:TabOK (db:=dbT) Tryz.prog tabs75:=TabOK.add (db:=dbT) tabs124OK c75 Tryz.call75

/-! cmp.Or[int] -/
def as74:List Ty:=[tL]
def rs74:List Ty:=[tI]
def an74:Ann:=.seq (.a) (.seq (.a) (.seq (.seq (.a) (.block (.loop ⟨[(8,.r (.c (.d (.d tI))))],(5::ra 9 6 (16::[])),[],[]⟩ [(.exit 0,⟨[],(5::ra 8 7 (16::[])),[],[]⟩),(.ret,⟨[(2,.r (.c (.d (.d tI))))],(5::ra 8 9 ([])),[],[]⟩)] (.a)))) (.a)))
def m74:List Int→Option (Int) :=
 fun x=>(iA (fun (s:Int)=>bif ltM s (lenM x) then (gA x s).bind fun r=>bif PE.notM (eqM r 0) then some (Sum.inr (Sum.inr r)) else some (Sum.inl
 (wrap .i64 (s+1))) else some (Sum.inr (Sum.inl ()))) 0).bind fun o=>Sum.elim (fun (t:Unit)=>some 0) (fun (t:Int)=>some t) o
theorem c74:SpecOK (db:=dbT) Tryz.prog 74 ⟨as74,rs74,m74⟩ :=
 fc (db:=dbT) tabs75OK [] an74 Tryz.f74 fun x=>by kernel_rfl
def tabs74:Tabs:=Tabs.add tabs75 74 ⟨as74,rs74,m74⟩
theorem tabs74OK:TabOK (db:=dbT) Tryz.prog tabs74:=TabOK.add (db:=dbT) tabs75OK c74 Tryz.call74

/-! putlog/wire.PutInt -/
def as145:List Ty:=[tI]
def rs145:List Ty:=[.str,tI]
def an145:Ann:=.seq (.a) (.seq (.a) (.seq (.a) (.seq (.seq (.reg [] [] [z0,z0,z0,z0,z0,z0,z0,.r] (.call [] [] (.seq (.a) (.a)) (.a))) (.block (.call [] [] (.block (.loop ⟨[],(ra 3 15 ([])),[(0,.box [.h 3]),(1,.box [.d (.d (.int .u64))]),(2,.lp .ready)],[.arr (.int .u8)]⟩ [(.ret,⟨[],(ra 3 15 ([])),[(0,.box [.h 3]),(1,.box [.d (.d (.int .u64))]),(2,.lp .ready)],[.arr (.int .u8)]⟩)] (.block (.seq (.a) (.seq (.seq (.reg [] [] [z0,.s [1] [],z0,z0,z0,.r,z0,z0,z0,z0] (.call [] [] (.seq (.a) (.block (.seq (.join [(.norm,⟨[(5,.r (.c (.d (.d (.int .u8)))))],[23,24,25,26],[],[]⟩)] (.a)) (.a)))) (.gq z0 (.a) (.a)))) (.a)) (.a)))))) (.a)))) (.a))))
def m145:Int→Option (List UInt8×Int) :=
 fun x=>bif PE.orM (ltM x (-4611686018427387903)) (ltM 4611686018427387903 x) then some ([],10) else (qI .u64 (wrap .u64 x) 1).bind fun r =>
 (rG .i64 x 63).bind fun r_1=>(iA (fun (s:Int×List Int)=>(bif PE.notM (ltM s.1 128) then some (uA BinOp.or .u8 (wrap IntKind.u8
 (uA BinOp.and .u64 s.1 127)) 128) else some (wrap .u8 (uA BinOp.and .u64 s.1 127))).bind fun o=>(eB (nat_lit 1) s.2 [o]).bind fun
 r_2=>bif PE.orM false (ltM s.1 128) then some (Sum.inr (s.1,r_2)) else (rG .u64 s.1 7).bind fun r=>some (Sum.inl (r,r_2))) (uA BinOp.xor
 IntKind.u64 r (wrap .u64 r_1),[])).bind fun o=>some (oC o.2,0)
theorem c145:SpecOK (db:=dbT) Tryz.prog 145 ⟨as145,rs145,m145⟩ :=
 fc (db:=dbT) tabs74OK [] an145 Tryz.f145 fun x=>by kernel_rfl
def tabs145:Tabs:=Tabs.add tabs74 145 ⟨as145,rs145,m145⟩
theorem tabs145OK:TabOK (db:=dbT) Tryz.prog tabs145:=TabOK.add (db:=dbT) tabs74OK c145 Tryz.call145

/-! putlog/wire.PutString -/
def as103:List Ty:=[.str]
def rs103:List Ty:=[.str,tI]
def an103:Ann:=.a
def m103:List UInt8→Option (List UInt8×Int) :=
 fun x=>bif ltM 65536 (lenM x) then some ([],10) else (m145 (lenM x)).bind fun r=>(lG r.1 x).bind fun r=>some (r,0)
theorem c103:SpecOK (db:=dbT) Tryz.prog 103 ⟨as103,rs103,m103⟩ :=
 fc (db:=dbT) tabs145OK [] an103 Tryz.f103 fun x=>by kernel_rfl
def tabs103:Tabs:=Tabs.add tabs145 103 ⟨as103,rs103,m103⟩
theorem tabs103OK:TabOK (db:=dbT) Tryz.prog tabs103:=TabOK.add (db:=dbT) tabs145OK c103 Tryz.call103

/-! putlog/archive.signed -/
def as98:List Ty:=[tR]
def rs98:List Ty:=[.str]
def an98:Ann:=.seq (.a) (.seq (.a) (.seq (.reg [] [] [.s [1] [],z0,.s [0] [],z0,.s [0] [],z0,.s [0] [],z0,.s [0] [],z0,.s [0] [],z0,.s [0] [],z0,.s [0] [],z0,.r] (.call [] [] (.seq (.a) (.block (.loop ⟨[(10,.r (.c (.d (.d tI))))],(5::6::7::ra 11 14 ([])),[(1,.bld 149 5)],[]⟩ [(.exit 0,⟨[],(5::6::7::ra 10 15 ([])),[(1,.bld 149 5)],[]⟩)] (.a)))) (.a))) (.seq (.reg [] [] [.s [1] [],z0,.s [0] [],.r] (.call [] [] (.seq (.a) (.a)) (.a))) (.a))))
def m98:(Int×Int×Int×Int×Int×Int×Int×List UInt8×List UInt8)→Option (List UInt8) :=
 fun x=>(iA (fun (s:Int×List UInt8)=>bif ltM s.1 (lenM [x.1,x.2.1,x.2.2.1,x.2.2.2.1,x.2.2.2.2.1,x.2.2.2.2.2.1,x.2.2.2.2.2.2.1]) then (gA [x.1,
 x.2.1,x.2.2.1,x.2.2.2.1,x.2.2.2.2.1,x.2.2.2.2.2.1,x.2.2.2.2.2.2.1] s.1).bind fun r=>(m145 r).bind fun r_1=>(catB s.2 r_1.1).bind fun r=>some
 (Sum.inl (wrap .i64 (s.1+1),r)) else some (Sum.inr s.2)) (0,[])).bind fun o=>(m103 x.2.2.2.2.2.2.2.1).bind fun r=>(catB o r.1).bind fun r =>
 some r
theorem c98:SpecOK (db:=dbT) Tryz.prog 98 ⟨as98,rs98,m98⟩ :=
 fc (db:=dbT) tabs103OK [] an98 Tryz.f98 fun x=>by kernel_rfl
def tabs98:Tabs:=Tabs.add tabs103 98 ⟨as98,rs98,m98⟩
theorem tabs98OK:TabOK (db:=dbT) Tryz.prog tabs98:=TabOK.add (db:=dbT) tabs103OK c98 Tryz.call98

/-! putlog/archive.encode -/
def as44:List Ty:=[tR]
def rs44:List Ty:=[.str]
def an44:Ann:=.seq (.a) (.seq (.a) (.seq (.a) (.seq (.reg [] [] [.s [1] [],z0,.s [0] [],.r] (.call [] [] (.seq (.a) (.a)) (.a))) (.a))))
def m44:(Int×Int×Int×Int×Int×Int×Int×List UInt8×List UInt8)→Option (List UInt8) :=
 fun x=>(m98 (x.1,x.2.1,x.2.2.1,x.2.2.2.1,x.2.2.2.2.1,x.2.2.2.2.2.1,x.2.2.2.2.2.2.1,x.2.2.2.2.2.2.2.1,x.2.2.2.2.2.2.2.2)).bind fun r=>(catB []
 r).bind fun r_1=>(m103 x.2.2.2.2.2.2.2.2).bind fun r_2=>(catB r_1 r_2.1).bind fun r=>some r
theorem c44:SpecOK (db:=dbT) Tryz.prog 44 ⟨as44,rs44,m44⟩ :=
 fc (db:=dbT) tabs98OK [] an44 Tryz.f44 fun x=>by kernel_rfl
def tabs44:Tabs:=Tabs.add tabs98 44 ⟨as44,rs44,m44⟩
theorem tabs44OK:TabOK (db:=dbT) Tryz.prog tabs44:=TabOK.add (db:=dbT) tabs98OK c44 Tryz.call44

/-! cmp.isNaN[string] -/
def as154:List Ty:=[.str]
def rs154:List Ty:=[.bool]
def an154:Ann:=.a
def m154:List UInt8→Option (Bool) :=
 fun x=>some (PE.notM (kB x x))
theorem c154:SpecOK (db:=dbT) Tryz.prog 154 ⟨as154,rs154,m154⟩ :=
 fc (db:=dbT) tabs44OK [] an154 Tryz.f154 fun x=>by kernel_rfl
def tabs154:Tabs:=Tabs.add tabs44 154 ⟨as154,rs154,m154⟩
theorem tabs154OK:TabOK (db:=dbT) Tryz.prog tabs154:=TabOK.add (db:=dbT) tabs44OK c154 Tryz.call154

/-! cmp.Compare[string] -/
def as116:List Ty:=[.str,.str]
def rs116:List Ty:=[tI]
def an116:Ann:=.a
def m116:(List UInt8×List UInt8)→Option (Int) :=
 fun x=>(m154 x.1).bind fun r=>(m154 x.2).bind fun r_1=>bif r then bif r_1 then some 0 else some (-1) else bif r_1 then some 1 else bif sltM x.1 x.2 then
 some (-1) else bif PE.notM (PE.orM (sltM x.1 x.2) (kB x.1 x.2)) then some 1 else some 0
theorem c116:SpecOK (db:=dbT) Tryz.prog 116 ⟨as116,rs116,m116⟩ :=
 fc (db:=dbT) tabs154OK [] an116 Tryz.f116 fun x=>by kernel_rfl
def tabs116:Tabs:=Tabs.add tabs154 116 ⟨as116,rs116,m116⟩
theorem tabs116OK:TabOK (db:=dbT) Tryz.prog tabs116:=TabOK.add (db:=dbT) tabs154OK c116 Tryz.call116

/-! putlog/archive.compare -/
def as68:List Ty:=[tR,tR]
def rs68:List Ty:=[tI]
def an68:Ann:=.seq (.a) (.seq (.seq (.reg [0,1,0,4,15,0,32,0,128,511,1023,2047,4095] (ra 0 13 ([])) (z0::.s [0] []::z0::.s [1] []::z0::z0::.s [0] []::z0::.s [1] []::za 4 ([])) (.a)) (.a)) (.seq (.reg [0,1,0,7,15,31] (ra 0 6 ([])) (.s [0] []::z0::.s [1] []::za 3 ([])) (.a)) (.a)))
def m68:((Int×Int×Int×Int×Int×Int×Int×List UInt8×List UInt8)×Int×Int×Int×Int×Int×Int×Int×List UInt8×List UInt8)→Option (Int) :=
 fun x=>(m75 (x.1.1,x.2.1)).bind fun r=>(m75 (x.1.2.1,x.2.2.1)).bind fun r_1=>(m74 [r,r_1]).bind fun r_2=>bif PE.orM (PE.notM (eqM r_2 0)) (PE.andM
 (eqM x.1.1 x.2.1) (PE.andM (eqM x.1.2.1 x.2.2.1) (PE.andM (eqM x.1.2.2.1 x.2.2.2.1) (PE.andM (eqM x.1.2.2.2.1 x.2.2.2.2.1) (PE.andM (eqM x.1.2.2.2.2.1
 x.2.2.2.2.2.1) (PE.andM (eqM x.1.2.2.2.2.2.1 x.2.2.2.2.2.2.1) (PE.andM (eqM x.1.2.2.2.2.2.2.1 x.2.2.2.2.2.2.2.1) (PE.andM (kB x.1.2.2.2.2.2.2.2.1
 x.2.2.2.2.2.2.2.2.1) (kB x.1.2.2.2.2.2.2.2.2 x.2.2.2.2.2.2.2.2.2))))))))) then some r_2 else (m44 (x.1.1,x.1.2.1,x.1.2.2.1,x.1.2.2.2.1,x.1.2.2.2.2.1,
 x.1.2.2.2.2.2.1,x.1.2.2.2.2.2.2.1,x.1.2.2.2.2.2.2.2.1,x.1.2.2.2.2.2.2.2.2)).bind fun r_3=>(m44 (x.2.1,x.2.2.1,x.2.2.2.1,x.2.2.2.2.1,x.2.2.2.2.2.1,
 x.2.2.2.2.2.2.1,x.2.2.2.2.2.2.2.1,x.2.2.2.2.2.2.2.2.1,x.2.2.2.2.2.2.2.2.2)).bind fun r_4=>(m116 (r_3,r_4)).bind fun r=>some r
theorem c68:SpecOK (db:=dbT) Tryz.prog 68 ⟨as68,rs68,m68⟩ :=
 fc (db:=dbT) tabs116OK [] an68 Tryz.f68 fun x=>by kernel_rfl
def tabs68:Tabs:=Tabs.add tabs116 68 ⟨as68,rs68,m68⟩
theorem tabs68OK:TabOK (db:=dbT) Tryz.prog tabs68:=TabOK.add (db:=dbT) tabs116OK c68 Tryz.call68

/-! putlog/archive.Current$1 -/
def as73:List Ty:=[tR,tR]
def rs73:List Ty:=[tI]
def an73:Ann:=.seq (.a) (.seq (.reg [0,1,0,4,15,0,32,0,128,511,1023,2047,4095] (ra 0 13 ([])) (z0::.s [0] []::z0::.s [1] []::z0::z0::.s [0] []::z0::.s [1] []::za 4 ([])) (.a)) (.a))
def m73:((Int×Int×Int×Int×Int×Int×Int×List UInt8×List UInt8)×Int×Int×Int×Int×Int×Int×Int×List UInt8×List UInt8)→Option (Int) :=
 fun x=>(m75 (x.1.2.2.2.2.1,x.2.2.2.2.2.1)).bind fun r=>(m75 (x.1.1,x.2.1)).bind fun r_1=>(m74 [r,r_1]).bind fun r=>some r
theorem c73:SpecOK (db:=dbT) Tryz.prog 73 ⟨as73,rs73,m73⟩ :=
 fc (db:=dbT) tabs68OK [] an73 Tryz.f73 fun x=>by kernel_rfl
def tabs73:Tabs:=Tabs.add tabs68 73 ⟨as73,rs73,m73⟩
theorem tabs73OK:TabOK (db:=dbT) Tryz.prog tabs73:=TabOK.add (db:=dbT) tabs68OK c73 Tryz.call73
end
end Go.Proofs.YtdjfiampkhfooaaGreatDoor
namespace Go.PE
variable [ea:Go.Abs.EA]
def Le {α:Type} (a b:Option α):Prop:=∀ r,a=some r→b=some r
def nilF {α β:Type} (xs:List α) (a b:Option β):Option β:=match xs with
 | []=>none
 | _::_=>b
attribute [irreducible] Le
variable [ea:Go.Abs.EA]
open Go Go.Abs
def InR:(t:Ty)→t.den→Prop
 | .int k,x=>k.has x
 | .bool,_=>True
 | .str,x=>List.length x≤maxLen
 | .list t,xs=>List.length xs≤maxLen∧∀ (i:Nat) (x:t.den),xs[i]? = some x→InR t x
 | .one t,x=>InR t x
 | .pair a b,x=>InR a x.1∧InR b x.2
def OkT:(l:List Ty)→Tup (l.map .d)→Prop
 | [],_=>True
 | [t],x=>InR t x
 | t::u::r,x=>InR t x.1∧OkT (u::r) x.2
section
variable {S:Cells} {w:World} {η:Eta}
theorem Rep.ok:∀ {t:Ty} {x:t.den} {cs:List Value},Rep S w t x cs→InR t x
 | .int _,_,_,h=>h.2
 | .bool,_,_,_=>trivial
 | .str,_,_,h=>h.2
 | .list t,xs,_,h=>by
  obtain ⟨base,cap,rfl,h1,h2,h3⟩:=h
  refine ⟨Nat.le_trans h1 h2,fun i x hx=>?_⟩
  rcases h3 with h3 | ⟨b,off,_,h3⟩
  ·have:xs=[]:=List.length_eq_zero_iff.1 h3
   rw [this] at hx
   cases hx
  ·obtain ⟨es,h4,_⟩:=h3 i x hx
   exact Rep.ok h4
 | .one t,x,cs,h=>by
  have h':Rep S w t x cs:=h
  exact Rep.ok (t:=t) h'
 | .pair a b,x,cs,h=>by
  obtain ⟨c1,c2,rfl,h1,h2⟩:=h
  exact ⟨Rep.ok h1,Rep.ok h2⟩
theorem cv_ok:∀ {t:Ty} {x:t.den} {vs:List Value},All2 (CM S w η) (t.cv x) vs→InR t x
 | .int _,_,_,.cons h .nil=>let ⟨_,a,_⟩:=h.2;Rep.ok a
 | .bool,_,_,_=>trivial
 | .str,_,_,.cons h .nil=>let ⟨_,a,_⟩:=h.2;Rep.ok a
 | .list _,_,_,.cons h .nil=>let ⟨_,a,_⟩:=h.2;Rep.ok a
 | .one t,x,vs,h=>by
  have h':All2 (CM S w η) (t.cv x) vs:=h
  exact cv_ok (t:=t) h'
 | .pair a b,x,vs,h=>by
  have h':All2 (CM S w η) (a.cv x.1++b.cv x.2) vs:=h
  obtain ⟨b1,b2,rfl,h1,h2⟩:=All2.split h'
  exact ⟨cv_ok h1,cv_ok h2⟩
theorem rv_ok {t:Ty} {x:t.den} {v:Value} (h:RM S w η (t.rv x) v):InR t x:=by
 unfold Ty.rv at h
 split at h
 ·obtain ⟨vs,_,h2⟩:=h
  exact cv_ok h2
 ·obtain ⟨_,cs,h2,_⟩:=h
  exact Rep.ok h2
theorem rvs_ok:∀ {l:List Ty} {x:Tup (l.map .d)} {vs:List Value},All2 (RM S w η) (rvs l x) vs→OkT l x
 | [],_,_,_=>trivial
 | [t],x,_,.cons h .nil=>rv_ok h
 | t::u::r,x,_,h=>by
  have h':All2 (RM S w η) (t.rv x.1::rvs (u::r) x.2) _:=h
  cases h' with
  | cons h1 h2=>exact ⟨rv_ok h1,rvs_ok (l:=u::r) h2⟩
end
theorem fA {n:Int} (h1:-9223372036854775808≤n) (h2:n≤9223372036854775807):IntKind.wrap .i64 n=n:=Go.IntWalk.i64_in n ⟨h1,h2⟩
theorem eC {α:Type} (xs:List α) (i:Nat):gA xs (i:Int)=xs[i]? := by
 unfold gA
 rw [dT (by omega:(0:Int)≤i)]
 simp
theorem aB {α:Type} {xs:List α} {i:Nat} (h:i<xs.length):gA xs (i:Int)=some xs[i]:=by
 rw [eC,gE h]
theorem idxM_of {α:Type} {xs:List α} {i:Int} (h0:0≤i) (h:i<xs.length):gA xs i=some (xs[i.toNat]'(by omega)):=by
 unfold gA
 rw [dT h0]
 exact gE _
theorem bB {i n:Int} (h0:0≤i) (h:i<n):oA i n=some ():=by
 unfold oA
 rw [dT h0,dT h]
theorem aC {α:Type} {b:Nat} {xs ys:List α} (h:(xs.length+ys.length)*b≤140737488355328):eB b xs ys=some (xs++ys):=by
 unfold eB
 rw [dT h]
theorem mkM_of {α:Type} {n c:Int} {b:Nat} {d:α} (h0:0≤n) (h:n≤c) (hb:c*b≤140737488355328):mkM n c b d=some (List.replicate n.toNat d):=by
 unfold mkM
 rw [dT h0,dT h,dT hb]
theorem setM_of {α:Type} {xs:List α} {i:Int} {f:α→Option α} {y:α} (h0:0≤i) (h:i<xs.length) (hy:f (xs[i.toNat]'(by omega))=some y):wE xs i f=some (xs.set i.toNat y):=by
 unfold wE
 rw [idxM_of h0 h]
 simp only [hy]
theorem fB {α:Type} {xs:List α} {lo hi:Int} (h0:0≤lo) (h:lo≤hi) (h2:hi≤xs.length):pA xs lo hi=some ((xs.take hi.toNat).drop lo.toNat):=by
 unfold pA
 rw [dT h0,dT h,dT h2]
theorem sameM_self (i:Int):jJ i i=some ():=by
 unfold jJ
 rw [dT rfl]
theorem loopM_inv {σ β:Type} {body:σ→Option (σ⊕β)} (P:Nat→σ→Prop) (Q:β→Prop) (n:Nat)
  (h:∀ k s,k≤n→P k s→(∃ s',k<n∧body s=some (.inl s')∧P (k+1) s')∨∃ r,body s=some (.inr r)∧Q r) :
  ∀ (m k:Nat) (s:σ),n-k=m→k≤n→P k s→∃ r,iA body s=some r∧Q r:=by
 intro m
 induction m with
 | zero =>
  intro k s hm hk hP
  rcases h k s hk hP with ⟨s',hlt,_⟩ | ⟨r,h1,h2⟩
  ·omega
  ·exact ⟨r,by rw [xF,h1];rfl,h2⟩
 | succ m ih =>
  intro k s hm hk hP
  rcases h k s hk hP with ⟨s',hlt,h1,h2⟩ | ⟨r,h1,h2⟩
  ·obtain ⟨r,h3,h4⟩:=ih (k+1) s' (by omega) (by omega) h2
   exact ⟨r,by rw [xF,h1];exact h3,h4⟩
  ·exact ⟨r,by rw [xF,h1];rfl,h2⟩
theorem loopM_from {σ β:Type} {body:σ→Option (σ⊕β)} (P:Nat→σ→Prop) (Q:β→Prop) (n:Nat) {s:σ} (h0:P 0 s)
  (h:∀ k s,k≤n→P k s→(∃ s',k<n∧body s=some (.inl s')∧P (k+1) s')∨∃ r,body s=some (.inr r)∧Q r):∃ r,iA body s=some r∧Q r :=
 loopM_inv P Q n h n 0 s (by omega) (by omega) h0
theorem zH {σ β:Type} {body:σ→Option (σ⊕β)} (g:Nat→σ) (n:Nat) {r:β} (h:∀ k,k<n→body (g k)=some (.inl (g (k+1)))) (he:body (g n)=some (.inr r)):iA body (g 0)=some r:=by
 obtain ⟨r',h1,h2⟩:=loopM_from (body:=body) (fun k s=>s=g k) (fun x=>x=r) n (s:=g 0) rfl fun k s hk hs=>by
  subst hs
  by_cases hlt:k<n
  ·exact .inl ⟨_,hlt,h k hlt,rfl⟩
  ·have:k=n:=by omega
   subst this
   exact .inr ⟨r,he,rfl⟩
 rw [h1,h2]
theorem find_loop {α:Type} {xs:List α} (p:α→Bool) {body:Int→Option (Int⊕(Unit⊕Int))}
  (hb:∀ k (hk:k<xs.length),body (k:Int)=some (bif p xs[k] then .inr (.inr (k:Int)) else .inl ((k:Int)+1))) (he:body (xs.length:Int)=some (.inr (.inl ()))) :
  ∃ o,iA body 0=some o∧((o=.inl ()∧∀ k (hk:k<xs.length),p xs[k]=false)∨∃ k,∃ hk:k<xs.length,o=.inr (k:Int)∧p xs[k]=true∧∀ j (hj:j<k),p (xs[j]'(by omega))=false):=by
 refine loopM_from (fun k s=>s=(k:Int)∧∀ j (hj:j<xs.length),j<k→p xs[j]=false) _ xs.length (s:=0) ⟨rfl,fun j _ hj=>by omega⟩ fun k s hk ⟨hs,hP⟩=>?_
 subst hs
 by_cases hlt:k<xs.length
 ·cases hp:p xs[k] with
  | true=>exact .inr ⟨.inr (k:Int),by rw [hb k hlt,hp];rfl,.inr ⟨k,hlt,rfl,hp,fun j hj=>hP j (by omega) hj⟩⟩
  | false =>
   refine .inl ⟨((k+1:Nat):Int),hlt,by rw [hb k hlt,hp];rfl,rfl,fun j hj hjk=>?_⟩
   by_cases e:j=k
   ·subst e;exact hp
   ·exact hP j hj (by omega)
 ·have:k=xs.length:=by omega
  subst this
  exact .inr ⟨_,he,.inl ⟨rfl,fun j hj=>hP j hj hj⟩⟩
variable [ea:Go.Abs.EA]
open Go Go.Abs
def row {α:Type} (m:Nat) (g:Nat→α):List α:=(List.range m).map g
def upd {α:Type} (d:Nat→Nat→α) (i j:Nat) (y:α):Nat→Nat→α:=fun a b=>if a=i∧b=j then y else d a b
section
variable {α:Type}
end
theorem eA {α β:Type} {o:Option α} {x:α} {f:α→Option β} {r:Option β} (h:o=some x) (h2:f x=r):Option.bind o f=r:=by
 rw [h];exact h2
theorem count_loop {σ β:Type} {body:Int×σ→Option ((Int×σ)⊕β)} (g:Nat→σ) (n:Nat) {r:β} (h:∀ k,k<n→body ((k:Int),g k)=some (.inl ((k:Int)+1,g (k+1)))) (he:body ((n:Int),g n)=some (.inr r)) :
  iA body ((0:Int),g 0)=some r :=
 zH (fun k=>((k:Int),g k)) n (fun k hk=>h k hk) he
variable [ea:Go.Abs.EA]
open Go Go.Abs
def Ans {α:Type} (o:Option α) (Q:α→Prop):Prop:=∃ r,o=some r∧Q r
theorem Ans.is {α:Type} {o:Option α} {r:α} (h:Ans o (fun x=>x=r)):o=some r:=by
 obtain ⟨x,h1,h2⟩:=h
 rw [h1,h2]
theorem Ans.of {α:Type} {o:Option α} {r:α} {Q:α→Prop} (h:o=some r) (hQ:Q r):Ans o Q:=⟨r,h,hQ⟩
theorem Ans.some {α:Type} {r:α} {Q:α→Prop} (hQ:Q r):Ans (some r) Q:=⟨r,rfl,hQ⟩
theorem Ans.bind {α β:Type} {o:Option α} {f:α→Option β} {P:α→Prop} {Q:β→Prop} (h:Ans o P) (hf:∀ x,P x→Ans (f x) Q):Ans (Option.bind o f) Q:=by
 obtain ⟨x,h1,h2⟩:=h
 rw [h1]
 exact hf x h2
theorem Ans.seq {α β:Type} {o:Option α} {f:α→Option β} {x:α} {Q:β→Prop} (h:o=Option.some x) (hf:Ans (f x) Q):Ans (Option.bind o f) Q:=by
 rw [h]
 exact hf
def Nxt {σ β:Type} (P:σ→Prop) (Q:β→Prop):σ⊕β→Prop
 | .inl s=>P s
 | .inr r=>Q r
theorem Ans.loop {σ β:Type} {body:σ→Option (σ⊕β)} {s:σ} {Q:β→Prop} (P:Nat→σ→Prop) (n:Nat) (h0:P 0 s)
  (h:∀ k s,k≤n→P k s→Ans (body s) (Nxt (fun s'=>k<n∧P (k+1) s') Q)):Ans (iA body s) Q:=by
 refine loopM_from P Q n h0 fun k s hk hP=>?_
 obtain ⟨o,h1,h2⟩:=h k s hk hP
 cases o with
 | inl s'=>exact .inl ⟨s',h2.1,h1,h2.2⟩
 | inr r=>exact .inr ⟨r,h1,h2⟩
theorem ltI {a b:Int} (h:a<b):ltM a b=true:=dT h
theorem geI {a b:Int} (h:b≤a):ltM a b=false:=dF (by omega)
theorem leI {a b:Int} (h:a≤b):leM a b=true:=dT h
theorem gtI {a b:Int} (h:b<a):leM a b=false:=dF (by omega)
theorem eqI {a b:Int} (h:a=b):eqM a b=true:=dT h
theorem neI {a b:Int} (h:a≠b):eqM a b=false:=dF h
theorem sA:notM true=false:=rfl
theorem xA:notM false=true:=rfl
theorem orT (b:Bool):orM true b=true:=rfl
theorem orF (b:Bool):orM false b=b:=rfl
theorem mG (b:Bool):andM true b=b:=rfl
theorem mK (b:Bool):andM false b=false:=rfl
def pk (c n:Int):Int:=(if c<0 then -(c+1) else c) % n
theorem remM_of {a b:Int} (ha:0≤a) (hb:0<b):remM a b=some (a % b):=by
 unfold remM
 rw [dF (by omega)]
 show some (a.tmod b)=some (a % b)
 rw [Int.tmod_eq_emod_of_nonneg ha]
theorem divM_pos {k:IntKind} {a b:Int} (hb:b≠0):divM k a b=some (k.wrap (a.tdiv b)):=by
 unfold divM
 rw [dF hb]
theorem pk_text {c n:Int} (hc:IntKind.i64.has c) (hn:0<n) :
  Option.bind (bif ltM c (0:Int) then some (IntKind.wrap .i64 (negM (IntKind.wrap .i64 (c+(1:Int))))) else some c) (fun (o:Int)=>Option.bind (remM o n) fun (r:Int)=>some r)=some (pk c n):=by
 have hc':-9223372036854775808≤c∧c≤9223372036854775807:=hc
 unfold pk
 by_cases h:c<0
 ·rw [ltI h,cT,oB,if_pos h,fA (n:=c+1) (by omega) (by omega)]
  unfold negM
  rw [fA (by omega) (by omega),remM_of (by omega) hn]
  rfl
 ·rw [geI (by omega),cF,oB,if_neg h,remM_of (by omega) hn]
  rfl
end Go.PE
namespace Go.Ar
abbrev Bs:=List UInt8
theorem u8 {n:Nat} (h:n<256):(UInt8.ofNat n).toNat=n:=by rw [UInt8.toNat_ofNat'];omega
theorem u8eq {a b:UInt8} (h:a.toNat=b.toNat):a=b:=UInt8.toNat_inj.1 h
theorem u8lt (b:UInt8):b.toNat<256:=b.toNat_lt
def grp (z:Nat):Bs:=if z<128 then [UInt8.ofNat z] else UInt8.ofNat (z % 128+128)::grp (z / 128)
termination_by z
theorem nH {z:Nat} (h:z<128):grp z=[UInt8.ofNat z]:=by unfold grp;rw [if_pos h]
theorem cJ {z:Nat} (h:128≤z):grp z=UInt8.ofNat (z % 128+128)::grp (z / 128):=by rw [grp,if_neg (by omega)]
theorem grp_ne (z:Nat):grp z≠[]:=by unfold grp;split<;>simp
theorem grp_pre:∀ (a:Nat) {b:Nat} {x y:Bs},grp a++x=grp b++y→a=b∧x=y:=by
 intro a
 induction a using Nat.strongRecOn with
 | _ a ih =>
  intro b x y h
  by_cases ha:a<128<;>by_cases hb:b<128
  ·rw [nH ha,nH hb] at h
   simp only [List.cons_append,List.nil_append,List.cons.injEq] at h
   have e:=congrArg UInt8.toNat h.1
   rw [u8 (by omega),u8 (by omega)] at e
   exact ⟨e,h.2⟩
  ·rw [nH ha,cJ (by omega)] at h
   simp only [List.cons_append,List.nil_append,List.cons.injEq] at h
   have e:=congrArg UInt8.toNat h.1
   rw [u8 (by omega),u8 (by omega)] at e
   omega
  ·rw [cJ (by omega),nH hb] at h
   simp only [List.cons_append,List.nil_append,List.cons.injEq] at h
   have e:=congrArg UInt8.toNat h.1
   rw [u8 (by omega),u8 (by omega)] at e
   omega
  ·rw [cJ (z:=a) (by omega),cJ (z:=b) (by omega)] at h
   simp only [List.cons_append,List.cons.injEq] at h
   have e:=congrArg UInt8.toNat h.1
   rw [u8 (by omega),u8 (by omega)] at e
   obtain ⟨e2,e3⟩:=ih (a / 128) (by omega) h.2
   exact ⟨by omega,e3⟩
theorem grp_len:∀ (k:Nat) {z:Nat},z<128 ^ (k+1)→(grp z).length≤k+1
 | 0,z,h=>by rw [nH (by simpa using h)];simp
 | k+1,z,h=>by
  by_cases hz:z<128
  ·rw [nH hz];simp
  ·rw [cJ (by omega)]
   have:=grp_len k (z:=z / 128) (by rw [Nat.div_lt_iff_lt_mul (by omega),← Nat.pow_succ];exact h)
   simp only [List.length_cons];omega
def zz (n:Int):Nat:=if n<0 then (-2*n-1).toNat else (2*n).toNat
def uz (z:Nat):Int:=if z % 2=0 then (z / 2:Nat) else -((z / 2:Nat):Int)-1
theorem uz_zz (n:Int):uz (zz n)=n:=by unfold uz zz;split<;>split<;>omega
theorem zz_uz (z:Nat):zz (uz z)=z:=by unfold uz zz;split<;>split<;>omega
theorem zz_inj {a b:Int} (h:zz a=zz b):a=b:=by rw [← uz_zz a,h,uz_zz]
abbrev inR (n:Int):Prop:=-4611686018427387903≤n∧n≤4611686018427387903
theorem zz_lt {n:Int} (h:inR n):zz n<9223372036854775807:=by unfold inR at h;unfold zz;split<;>omega
def pI (n:Int):Bs:=grp (zz n)
theorem pI_ne (n:Int):pI n≠[]:=grp_ne _
theorem sD {a b:Int} {x y:Bs} (h:pI a++x=pI b++y):a=b∧x=y:=by
 obtain ⟨e,f⟩:=grp_pre _ h
 exact ⟨zz_inj e,f⟩
theorem cE {n:Int} (h:inR n):(pI n).length≤9:=grp_len 8 (Nat.lt_trans (zz_lt h) (by decide))
theorem pI_pos (n:Int):0<(pI n).length:=List.length_pos_iff.2 (pI_ne n)
def pS (s:Bs):Bs:=pI s.length++s
theorem pS_pre {a b x y:Bs} (h:pS a++x=pS b++y):a=b∧x=y:=by
 unfold pS at h
 rw [aA,aA] at h
 obtain ⟨e,f⟩:=sD h
 exact List.append_inj f (by omega)
def IsI (s:Bs) (n:Int) (k:Nat):Prop:=inR n∧k=(pI n).length∧pI n <+: s
theorem IsI.uniq {s:Bs} {n m:Int} {j k:Nat} (h:IsI s n j) (h':IsI s m k):n=m∧j=k:=by
 obtain ⟨_,rfl,x,hx⟩:=h
 obtain ⟨_,rfl,y,hy⟩:=h'
 obtain ⟨e,_⟩:=sD (hx.trans hy.symm)
 subst e
 exact ⟨rfl,rfl⟩
def IsS (s t:Bs) (k:Nat):Prop:=t.length≤65536∧k=(pS t).length∧pS t <+: s
theorem IsS.uniq {s t u:Bs} {j k:Nat} (h:IsS s t j) (h':IsS s u k):t=u∧j=k:=by
 obtain ⟨_,rfl,x,hx⟩:=h
 obtain ⟨_,rfl,y,hy⟩:=h'
 obtain ⟨e,_⟩:=pS_pre (hx.trans hy.symm)
 subst e
 exact ⟨rfl,rfl⟩
abbrev Rp:=Int×Int×Int×Int×Int×Int×Int×Bs×Bs
abbrev Rp3:=Int×Int×Int×Bs×Bs
instance:DecidableEq Rp3:=inferInstance
instance:DecidableEq Rp:=inferInstanceAs (DecidableEq (Int×Int×Int×Int×Rp3))
abbrev Rp.sv (r:Rp):Int:=r.1
abbrev Rp.nu (r:Rp):Int:=r.2.1
abbrev Rp.da (r:Rp):Int:=r.2.2.1
abbrev Rp.ki (r:Rp):Int:=r.2.2.2.1
abbrev Rp.su (r:Rp):Int:=r.2.2.2.2.1
abbrev Rp.va (r:Rp):Int:=r.2.2.2.2.2.1
abbrev Rp.rf (r:Rp):Int:=r.2.2.2.2.2.2.1
abbrev Rp.pv (r:Rp):Bs:=r.2.2.2.2.2.2.2.1
abbrev Rp.tg (r:Rp):Bs:=r.2.2.2.2.2.2.2.2
abbrev OkR (r:Rp):Prop:=0≤r.sv∧r.sv≤7∧0≤r.nu∧r.nu≤39∧0≤r.da∧r.da≤800000∧r.pv.length=32∧r.tg.length=32∧((r.ki=1∧0≤r.su∧r.su≤99∧-10000≤r.va∧r.va≤10000∧r.rf=-1)∨(r.ki=2∧r.su=0∧r.va=0∧0≤r.rf∧r.rf≤r.nu-1))
def sg (r:Rp):Bs:=pI r.sv++(pI r.nu++(pI r.da++(pI r.ki++(pI r.su++(pI r.va++(pI r.rf++pS r.pv))))))
def en (r:Rp):Bs:=sg r++pS r.tg
theorem sg_pre {a b:Rp} {x y:Bs} (h:sg a++x=sg b++y):a.sv=b.sv∧a.nu=b.nu∧a.da=b.da∧a.ki=b.ki∧a.su=b.su∧a.va=b.va∧a.rf=b.rf∧a.pv=b.pv∧x=y:=by
 unfold sg at h
 simp only [aA] at h
 obtain ⟨h1,h⟩:=sD h
 obtain ⟨h2,h⟩:=sD h
 obtain ⟨h3,h⟩:=sD h
 obtain ⟨h4,h⟩:=sD h
 obtain ⟨h5,h⟩:=sD h
 obtain ⟨h6,h⟩:=sD h
 obtain ⟨h7,h⟩:=sD h
 obtain ⟨h8,h⟩:=pS_pre h
 exact ⟨h1,h2,h3,h4,h5,h6,h7,h8,h⟩
theorem en_pre {a b:Rp} {x y:Bs} (h:en a++x=en b++y):a=b∧x=y:=by
 unfold en at h
 rw [aA,aA] at h
 obtain ⟨h1,h2,h3,h4,h5,h6,h7,h8,h⟩:=sg_pre h
 obtain ⟨h9,hh⟩:=pS_pre h
 obtain ⟨a1,a2,a3,a4,a5,a6,a7,a8,a9⟩:=a
 obtain ⟨b1,b2,b3,b4,b5,b6,b7,b8,b9⟩:=b
 dsimp only [Rp.sv,Rp.nu,Rp.da,Rp.ki,Rp.su,Rp.va,Rp.rf,Rp.pv,Rp.tg] at *
 subst h1;subst h2;subst h3;subst h4;subst h5;subst h6;subst h7;subst h8;subst h9
 exact ⟨rfl,hh⟩
theorem en_inj {a b:Rp} (h:en a=en b):a=b:=(en_pre (x:=[]) (y:=[]) (by rw [h])).1
def blt:Bs→Bs→Bool
 | _,[]=>false
 | [],_::_=>true
 | a::r,b::s=>if a<b then true else if b<a then false else blt r s
theorem blt_irr:∀ (a:Bs),blt a a=false
 | []=>rfl
 | x::r=>by unfold blt;rw [if_neg (by rw [UInt8.lt_iff_toNat_lt];omega),if_neg (by rw [UInt8.lt_iff_toNat_lt];omega)];exact blt_irr r
theorem blt_tri:∀ (a b:Bs),blt a b=true∨a=b∨blt b a=true
 | [],[]=>.inr (.inl rfl)
 | [],_::_=>.inl rfl
 | _::_,[]=>.inr (.inr rfl)
 | x::r,y::s=>by
  unfold blt
  by_cases h1:x<y
  ·rw [if_pos h1];exact .inl rfl
  ·by_cases h2:y<x
   ·exact .inr (.inr (by rw [if_pos h2]))
   ·have e:x=y:=u8eq (by rw [UInt8.lt_iff_toNat_lt] at h1 h2;omega)
    subst e
    rw [if_neg h1,if_neg h1]
    simp only [if_neg h1]
    rcases blt_tri r s with h | h | h
    ·exact .inl h
    ·exact .inr (.inl (by rw [h]))
    ·exact .inr (.inr h)
theorem iI:∀ {a b c:Bs},blt a b=true→blt b c=true→blt a c=true
 | _,_,[],_,h=>by unfold blt at h;cases h
 | [],_,_::_,_,_=>rfl
 | _::_,[],_::_,h,_=>by cases h
 | x::r,y::s,z::t,h1,h2=>by
  unfold blt at *
  simp only [UInt8.lt_iff_toNat_lt] at *
  by_cases a1:x.toNat<y.toNat
  ·by_cases a2:y.toNat<z.toNat
   ·rw [if_pos (by omega)]
   ·rw [if_neg a2] at h2
    by_cases a3:z.toNat<y.toNat
    ·rw [if_pos a3] at h2;cases h2
    ·rw [if_pos (by omega)]
  ·rw [if_neg a1] at h1
   by_cases b1:y.toNat<x.toNat
   ·rw [if_pos b1] at h1;cases h1
   ·rw [if_neg b1] at h1
    by_cases a2:y.toNat<z.toNat
    ·rw [if_pos (by omega)]
    ·rw [if_neg a2] at h2
     by_cases a3:z.toNat<y.toNat
     ·rw [if_pos a3] at h2;cases h2
     ·rw [if_neg a3] at h2
      rw [if_neg (by omega),if_neg (by omega)]
      exact iI h1 h2
def ltR (a b:Rp):Bool:=decide (a.sv<b.sv)||(decide (a.sv=b.sv)&&(decide (a.nu<b.nu)||(decide (a.nu=b.nu)&&blt (en a) (en b))))
theorem ltR_iff {a b:Rp}:ltR a b=true↔a.sv<b.sv∨(a.sv=b.sv∧(a.nu<b.nu∨(a.nu=b.nu∧blt (en a) (en b)=true))):=by
 unfold ltR;simp
theorem ltR_irr (a:Rp):ltR a a=false:=by
 cases h:ltR a a
 ·rfl
 ·rw [ltR_iff,blt_irr] at h
  simp at h
theorem ltR_tri (a b:Rp):ltR a b=true∨a=b∨ltR b a=true:=by
 rw [ltR_iff,ltR_iff]
 rcases blt_tri (en a) (en b) with h | h | h
 ·rw [h];simp;omega
 ·exact .inr (.inl (en_inj h))
 ·rw [h];simp;omega
theorem eF {a b c:Rp} (h1:ltR a b=true) (h2:ltR b c=true):ltR a c=true:=by
 rw [ltR_iff] at *
 have:=@iI (en a) (en b) (en c)
 rcases h1 with h1 | ⟨e1,h1 | ⟨f1,h1⟩⟩<;>rcases h2 with h2 | ⟨e2,h2 | ⟨f2,h2⟩⟩
 ·omega
 ·omega
 ·omega
 ·omega
 ·omega
 ·omega
 ·omega
 ·omega
 ·exact .inr ⟨by omega,.inr ⟨by omega,this h1 h2⟩⟩
abbrev Up (l:List Rp):Prop:=l.Pairwise fun a b=>ltR a b=true
theorem Up.ext:∀ {l m:List Rp},Up l→Up m→(∀ x,x∈l↔x∈m)→l=m
 | [],[],_,_,_=>rfl
 | [],y::m,_,_,h=>by have:=(h y).2 (by simp);simp at this
 | x::l,[],_,_,h=>by have:=(h x).1 (by simp);simp at this
 | x::l,y::m,h1,h2,h=>by
  obtain ⟨a1,a2⟩:=List.pairwise_cons.1 h1
  obtain ⟨b1,b2⟩:=List.pairwise_cons.1 h2
  have e:x=y:=by
   rcases List.mem_cons.1 ((h x).1 (by simp)) with e | e
   ·exact e
   ·rcases List.mem_cons.1 ((h y).2 (by simp)) with f | f
    ·exact f.symm
    ·have:=eF (a1 y f) (b1 x e);rw [ltR_irr] at this;cases this
  subst e
  refine congrArg _ (Up.ext a2 b2 fun z=>?_)
  have hz:=h z
  simp only [List.mem_cons] at hz
  constructor
  ·intro p
   rcases hz.1 (.inr p) with q | q
   ·subst q;have:=a1 z p;rw [ltR_irr] at this;cases this
   ·exact q
  ·intro p
   rcases hz.2 (.inr p) with q | q
   ·subst q;have:=b1 z p;rw [ltR_irr] at this;cases this
   ·exact q
theorem Up.nodup {l:List Rp} (h:Up l):l.Nodup:=List.Pairwise.imp (fun {a b} h e=>by subst e;rw [ltR_irr] at h;cases h) h
def uJ (r:Rp):List Rp→List Rp
 | []=>[r]
 | x::l=>if ltR r x then r::x::l else if ltR x r then x::uJ r l else x::l
theorem tJ (r:Rp):∀ (l:List Rp) (x:Rp),x∈uJ r l↔x=r∨x∈l
 | [],x=>by simp [uJ]
 | y::l,x=>by
  unfold uJ
  split
  ·simp
  ·split
   ·rw [List.mem_cons,tJ r l x,List.mem_cons]
    constructor
    ·rintro (h | h | h)
     ·exact .inr (.inl h)
     ·exact .inl h
     ·exact .inr (.inr h)
    ·rintro (h | h | h)
     ·exact .inr (.inl h)
     ·exact .inl h
     ·exact .inr (.inr h)
   ·rename_i h1 h2
    have e:r=y:=by
     rcases ltR_tri r y with h | h | h
     ·exact absurd h h1
     ·exact h
     ·exact absurd h h2
    subst e;simp
theorem putR_up (r:Rp):∀ {l:List Rp},Up l→Up (uJ r l)
 | [],_=>List.pairwise_singleton _ _
 | y::l,h=>by
  obtain ⟨a1,a2⟩:=List.pairwise_cons.1 h
  unfold uJ
  split
  ·rename_i h1
   refine List.pairwise_cons.2 ⟨fun z hz=>?_,h⟩
   rcases List.mem_cons.1 hz with q | q
   ·subst q;exact h1
   ·exact eF h1 (a1 z q)
  ·split
   ·rename_i h1 h2
    refine List.pairwise_cons.2 ⟨fun z hz=>?_,putR_up r a2⟩
    rcases (tJ r l z).1 hz with q | q
    ·subst q;exact h2
    ·exact a1 z q
   ·exact h
theorem putR_len (r:Rp):∀ (l:List Rp),(uJ r l).length≤l.length+1
 | []=>by simp [uJ]
 | y::l=>by
  have:=putR_len r l
  unfold uJ;split
  ·simp
  ·split<;>simp<;>omega
def putA (l m:List Rp):List Rp:=m.foldl (fun l r=>uJ r l) l
theorem putA_mem:∀ (m l:List Rp) (x:Rp),x∈putA l m↔x∈l∨x∈m
 | [],l,x=>by simp [putA]
 | r::m,l,x=>by
  show x∈putA (uJ r l) m↔_
  rw [putA_mem m,tJ,List.mem_cons]
  constructor
  ·rintro ((h | h) | h)
   ·exact .inr (.inl h)
   ·exact .inl h
   ·exact .inr (.inr h)
  ·rintro (h | h | h)
   ·exact .inl (.inr h)
   ·exact .inl (.inl h)
   ·exact .inr h
theorem putA_up:∀ (m:List Rp) {l:List Rp},Up l→Up (putA l m)
 | [],_,h=>h
 | r::m,_,h=>putA_up m (putR_up r h)
def mB (l:List Rp):List Rp:=putA [] l
theorem nC (l:List Rp) (x:Rp):x∈mB l↔x∈l:=by unfold mB;rw [putA_mem];simp
theorem hJ (l:List Rp):Up (mB l):=putA_up l List.Pairwise.nil
theorem qK {l m:List Rp} (h:Up l) (hm:∀ x,x∈l↔x∈m):l=mB m:=Up.ext h (hJ m) fun x=>by rw [hm,nC]
theorem arch_self {l:List Rp} (h:Up l):mB l=l:=(qK h fun _=>Iff.rfl).symm
theorem yG {l m:List Rp} (h:∀ x,x∈l↔x∈m):mB l=mB m:=qK (hJ l) fun x=>by rw [nC,h]
abbrev OkA (l:List Rp):Prop:=(∀ r∈l,OkR r)∧Up l∧l.length≤40
theorem qD {α:Type} [DecidableEq α]:∀ {l m:List α},l.Nodup→(∀ x∈l,x∈m)→l.length≤m.length
 | [],_,_,_=>Nat.zero_le _
 | x::l,m,h,hm=>by
  obtain ⟨h1,h2⟩:=List.nodup_cons.1 h
  have hx:=hm x (by simp)
  have:=qD (l:=l) (m:=m.erase x) h2 fun y hy=>(List.mem_erase_of_ne (fun e=>h1 (by rw [← e];exact hy))).2 (hm y (by simp [hy]))
  rw [List.length_erase_of_mem hx] at this
  have:=List.length_pos_of_mem hx
  simp only [List.length_cons];omega
theorem lI (l:List Rp):(mB l).length≤l.length:=qD (hJ l).nodup fun x hx=>(nC l x).1 hx
theorem arch_len_nodup {l:List Rp} (h:l.Nodup):(mB l).length=l.length:=Nat.le_antisymm (lI l) (qD h fun x hx=>(nC l x).2 hx)
def mW (n:Nat):Nat:=n % 4294967296
def xW (a b:Nat):Nat:=mW a ^^^ mW b
def aW (a b:Nat):Nat:=mW a &&& mW b
def oW (a b:Nat):Nat:=mW a ||| mW b
def shl (x n:Nat):Nat:=mW (x*2 ^ n)
def shr (x n:Nat):Nat:=x / 2 ^ n
def rot (x n:Nat):Nat:=oW (shr x n) (shl x (32-n))
def kSha:List Nat:=[
 0x428a2f98,0x71374491,0xb5c0fbcf,0xe9b5dba5,0x3956c25b,0x59f111f1,0x923f82a4,0xab1c5ed5,
 0xd807aa98,0x12835b01,0x243185be,0x550c7dc3,0x72be5d74,0x80deb1fe,0x9bdc06a7,0xc19bf174,
 0xe49b69c1,0xefbe4786,0x0fc19dc6,0x240ca1cc,0x2de92c6f,0x4a7484aa,0x5cb0a9dc,0x76f988da,
 0x983e5152,0xa831c66d,0xb00327c8,0xbf597fc7,0xc6e00bf3,0xd5a79147,0x06ca6351,0x14292967,
 0x27b70a85,0x2e1b2138,0x4d2c6dfc,0x53380d13,0x650a7354,0x766a0abb,0x81c2c92e,0x92722c85,
 0xa2bfe8a1,0xa81a664b,0xc24b8b70,0xc76c51a3,0xd192e819,0xd6990624,0xf40e3585,0x106aa070,
 0x19a4c116,0x1e376c08,0x2748774c,0x34b0bcb5,0x391c0cb3,0x4ed8aa4a,0x5b9cca4f,0x682e6ff3,
 0x748f82ee,0x78a5636f,0x84c87814,0x8cc70208,0x90befffa,0xa4506ceb,0xbef9a3f7,0xc67178f2]
def hSha:List Nat:=[0x6a09e667,0xbb67ae85,0x3c6ef372,0xa54ff53a,0x510e527f,0x9b05688c,0x1f83d9ab,0x5be0cd19]
def w4 (b:List Nat) (i:Nat):Nat:=oW (oW (oW (shl (mW (b.getD (4*i) 0)) 24) (shl (mW (b.getD (4*i+1) 0)) 16)) (shl (mW (b.getD (4*i+2) 0)) 8)) (mW (b.getD (4*i+3) 0))
def nextW (a b c d:Nat):Nat:=mW (mW (mW (a+xW (xW (rot b 7) (rot b 18)) (shr b 3))+c)+xW (xW (rot d 17) (rot d 19)) (shr d 10))
def wNext (w:List Nat):Nat:=nextW (w.getD (w.length-16) 0) (w.getD (w.length-15) 0) (w.getD (w.length-7) 0) (w.getD (w.length-2) 0)
def pC:Nat→List Nat→List Nat
 | 0,w=>w
 | k+1,w=>pC k (w++[wNext w])
def oJ (b:List Nat):List Nat:=pC 48 ((List.range 16).map (w4 b))
def tW (e f g h k w:Nat):Nat:=mW (mW (mW (mW (h+xW (xW (rot e 6) (rot e 11)) (rot e 25))+xW (aW e f) (aW (xW 4294967295 e) g))+k)+w)
def uW (a b c:Nat):Nat:=mW (xW (xW (rot a 2) (rot a 13)) (rot a 22)+xW (xW (aW a b) (aW a c)) (aW b c))
def rnd (v:List Nat) (kw:Nat×Nat):List Nat:=match v with
 | [a,b,c,d,e,f,g,h]=>[mW (tW e f g h kw.1 kw.2+uW a b c),a,b,c,mW (d+tW e f g h kw.1 kw.2),e,f,g]
 | _=>v
def blk (h:List Nat) (b:List Nat):List Nat:=List.zipWith (fun x y=>mW (x+y)) h ((kSha.zip (oJ b)).foldl rnd h)
def kK:Nat→List Nat→List Nat→List Nat
 | 0,h,_=>h
 | k+1,h,b=>kK k (blk h (b.take 64)) (b.drop 64)
def nZ (n:Nat):Nat:=(119-n % 64) % 64
def pad (b:List Nat):List Nat:=b++128::(List.replicate (nZ b.length) 0++(List.range 8).map fun i=>shr (8*b.length) (8*(7-i)) % 256)
def wBytes (h:List Nat):Bs:=h.flatMap fun x=>[UInt8.ofNat (shr x 24),UInt8.ofNat (shr x 16),UInt8.ofNat (shr x 8),UInt8.ofNat x]
def sha (s:Bs):Bs:=wBytes (kK ((pad (s.map UInt8.toNat)).length / 64) hSha (pad (s.map UInt8.toNat)))
theorem rnd_len {v:List Nat} (kw:Nat×Nat) (h:v.length=8):(rnd v kw).length=8:=by
 unfold rnd;split
 ·rfl
 ·exact h
theorem rnds_len:∀ (l:List (Nat×Nat)) (v:List Nat),v.length=8→(l.foldl rnd v).length=8
 | [],_,h=>h
 | x::l,v,h=>rnds_len l (rnd v x) (rnd_len x h)
theorem blk_len {h b:List Nat} (hh:h.length=8):(blk h b).length=8:=by
 unfold blk;rw [List.length_zipWith,rnds_len _ _ hh,hh];rfl
theorem jI:∀ (k:Nat) {h b:List Nat},h.length=8→(kK k h b).length=8
 | 0,_,_,h=>h
 | k+1,_,_,h=>jI k (blk_len h)
theorem iG (s:Bs):(sha s).length=32:=by
 have:=jI ((pad (s.map UInt8.toNat)).length / 64) (h:=hSha) (b:=pad (s.map UInt8.toNat)) rfl
 unfold sha wBytes
 generalize kK _ _ _=l at this
 match l,this with
 | [a,b,c,d,e,f,g,h],_=>rfl
def leaf (s:Bs):Bs:=sha (0::s)
def node (a b:Bs):Bs:=sha (1::(a++b))
def pB (h s:Bs):Bs:=sha (2::(h++s))
end Go.Ar
