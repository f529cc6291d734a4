/-
 Texts of this proof, put together: Px, Ty, Gl, Oa, PA, PB, PC, PD, Ob, Tb, P3, P5, T1, M0, M1, So156.
 No conditions.
-/
import Derived.Test.YthfgccfaildmfaaGreatDoorZ3
import Derived.ProofKit
import Derived.OpenShut
import Derived.Carry
import Derived.Test.YthfgccfaildmfaaGreatDoorProg
import Derived.KernelRfl
import Derived.Test.YthfgccfaildmfaaGreatDoorRows
import Derived.LaidMore
import Derived.Stop.Joined
import Derived.IntWalk
import Derived.Shelf.SlSortCmp.NoneTotal
import Derived.Shelf.Sort.Plain
import Derived.Shelf.Slices.In.SortNone
import Derived.Shelf.Slices.CompactI
import Derived.Shelf.Lays
import Derived.Shelf.Lays2
import Derived.Shelf.SlLaysF0
set_option linter.all false
namespace Go.PE
open Go Go.RowKit Go.Abs Go.ChangeShapes Go.WideShapes Go.ChangeAt

mutual
inductive TyP (P:Program):TypeId→Ty→Prop where
 | int {t k}:P.underlying t=some (.int k)→TyP P t (.int k)
 | bool {t}:P.underlying t=some .bool→TyP P t .bool
 | str {t}:P.underlying t=some .string→TyP P t .str
 | list {t e T}:P.underlying t=some (.slice e)→P.cellsOf e=T.size→TyP P e T→TyP P t (.list T)
 | struct1 {t fs T}:P.underlying t=some (.struct fs)→P.cellsOf t=T.size→FsP P (fs.toList.map fun f=>(f.offset,f.type)) 0 T→fs.size=1→TyP P t (.one T)
 | struct {t fs A B}:P.underlying t=some (.struct fs)→P.cellsOf t=A.size+B.size→FsP P (fs.toList.map fun f=>(f.offset,f.type)) 0 (.pair A B)→TyP P t (.pair A B)
 | array1 {t e T}:P.underlying t=some (.array 1 e)→P.cellsOf t=T.size→FsP P [(0,e)] 0 T→TyP P t (.one T)
 | array {t n e A B}:P.underlying t=some (.array n e)→P.cellsOf t=A.size+B.size→FsP P ((List.range n).map fun i=>(i*P.cellsOf e,e)) 0 (.pair A B)→TyP P t (.pair A B)
inductive FsP (P:Program):List (Nat×TypeId)→Nat→Ty→Prop where
 | last {off t T}:P.cellsOf t=T.size→TyP P t T→FsP P [(off,t)] off T
 | cons {off t A B l}:P.cellsOf t=A.size→TyP P t A→FsP P l (off+A.size) B→FsP P ((off,t)::l) off (.pair A B)
end
def InWd (w:World):Cells:=fun b _=>b<w.heap.size
theorem exists_list {α:Type} {p:Nat→α→Prop}:∀ (n:Nat),(∀ i,i<n→∃ y,p i y)→∃ ys:List α,ys.length=n∧∀ i y,ys[i]? = some y→p i y
 | 0,_=>⟨[],rfl,fun i y h=>by simp at h⟩
 | n+1,h=>by
  obtain ⟨ys,h1,h2⟩:=exists_list n fun i hi=>h i (by omega)
  obtain ⟨y,hy⟩:=h n (by omega)
  refine ⟨ys++[y],by simp [h1],fun i z hz=>?_⟩
  by_cases hi:i<ys.length
  ·rw [List.getElem?_append_left hi] at hz;exact h2 i z hz
  ·rw [List.getElem?_append_right (by omega)] at hz
   have:i-ys.length=0:=by
    have:=(List.getElem?_eq_some_iff.1 hz).1
    simp at this;omega
   rw [this] at hz
   simp at hz
   subst hz
   rw [show i=n by omega];exact hy
section
variable {H:Type} {enc:TypeId×Value→H} {P:Program} {w:World} {base:Nat} {spare:Nat→Bool} {held:Bool}
theorem cells?_get {a:Addr} {n:Nat} {cs:List Value} (h:w.cells? base a n=some cs):cs.length=n∧∀ j u,cs[j]? = some u→w.cell? (a.add j)=some u:=by
 obtain ⟨_,h1,h2⟩:=World.cells?_some h
 refine ⟨h1,fun j u hj=>?_⟩
 have hl:=(List.getElem?_eq_some_iff.1 hj).1
 rw [h2 j (by omega)];exact hj
theorem trod_rep:∀ (fuel:Nat) {t:TypeId} {T:Ty} {cs:List Value} {x:DataW H×List MemPlace},TyP P t T→DataW.trod enc P w base spare held fuel t cs=some x→∃ y:T.den,Rep (InWd w) w T y cs:=by
 intro fuel
 induction fuel with
 | zero=>intro t T cs x _ h;simp [DataW.trod] at h
 | succ n ih =>
  -- fields
  have fields:∀ {l:List (Nat×TypeId)} {off:Nat} {T:Ty} {cs:List Value},FsP P l off T→off+T.size≤cs.length→(∀ (i:Nat) p,l[i]? = some p→∃ x,DataW.trod enc P w base spare held n p.2 ((cs.drop p.1).take (P.cellsOf p.2))=some x) →
    ∃ y:T.den,Rep (InWd w) w T y ((cs.drop off).take T.size):=by
   intro l
   induction l with
   | nil=>intro off T cs h;cases h
   | cons p l ihl =>
    intro off T cs h hlen ht
    cases h with
    | last hc hty =>
     obtain ⟨x,hx⟩:=ht 0 _ rfl
     rw [← hc]
     exact ih hty hx
    | @cons _ t A B _ hc hty hr =>
     obtain ⟨x,hx⟩:=ht 0 _ rfl
     rw [hc] at hx
     obtain ⟨y1,h1⟩:=ih hty hx
     have hsz:(Ty.pair A B).size=A.size+B.size:=rfl
     rw [hsz] at hlen
     obtain ⟨y2,h2⟩:=ihl hr (by omega) fun i p hp=>ht (i+1) p (by simpa using hp)
     refine ⟨(y1,y2),_,_,?_,h1,h2⟩
     rw [hsz]
     rw [List.take_add,List.drop_drop]
  intro t T cs x hT h
  cases hT with
  | int hu =>
   obtain ⟨m,rfl,_,hw⟩:=DataW.trod_int hu h
   refine ⟨m,rfl,?_⟩
   simp [Lit.wf] at hw
   exact hw
  | bool hu=>obtain ⟨b,rfl,_⟩:=DataW.trod_bool hu h;exact ⟨b,rfl⟩
  | str hu =>
   obtain ⟨s,rfl,_,hs⟩:=DataW.trod_string hu h
   exact ⟨s.data.toList,by simp,by simpa using hs⟩
  | @list _ e T hu hc hty =>
   rcases DataW.trod_slice hu h with ⟨rfl,_⟩ | ⟨a,len,cap,elems,rest,m,hm,rfl,_,_,h1,h2,h3,h4,_⟩
   ·exact ⟨[],none,0,rfl,Nat.le_refl _,Nat.zero_le _,.inl rfl⟩
   ·cases hm
    rw [hc] at h4
    have hex:∀ i,i<len→∃ y:T.den,∃ es,Rep (InWd w) w T y es∧∀ j u,es[j]? = some u→w.cell? ((a.add (i*T.size)).add j)=some u:=by
     intro i hi
     have h5:=h4 i hi
     rw [List.getElem?_eq_getElem (by omega)] at h5
     obtain ⟨es,h6,h7⟩:=Option.bind_eq_some_iff.1 h5
     obtain ⟨y,hy⟩:=ih hty h7
     exact ⟨y,es,hy,(cells?_get h6).2⟩
    obtain ⟨ys,hl,hys⟩:=exists_list len hex
    refine ⟨ys,some a,cap,by rw [hl],by rw [hl];exact h1,h2,?_⟩
    by_cases h0:len=0
    ·left;show List.length ys=0;omega
    ·right
     have hsp:a.spot=none:=by
      obtain ⟨y,es,hr,hg⟩:=hex 0 (by omega)
      have hel:=hr.length
      have hpos:=T.size_pos
      have:=hg 0 _ (List.getElem?_eq_getElem (by omega))
      unfold World.cell? at this
      split at this
      ·split at this
       ·cases this
       ·rename_i hs
        simpa [Addr.add] using hs
      ·cases this
     obtain ⟨b,off,sp⟩:=a
     simp only at hsp
     subst hsp
     refine ⟨b,off,rfl,fun i y hy=>?_⟩
     obtain ⟨es,hr,hg⟩:=hys i y hy
     refine ⟨es,hr,fun j u hj=>?_⟩
     have h5:=hg j u hj
     rw [Addr.add_lit,Addr.add_lit] at h5
     exact ⟨World.block_lt_of_cell? _ _ h5,h5⟩
  | @struct1 _ fs T hu hc hf h1 =>
   obtain ⟨xs,m,hm,_,hl,hxl,hx⟩:=DataW.trod_struct hu h
   cases hm
   obtain ⟨y,hy⟩:=fields hf (by rw [hl,hc];omega) fun i p hp=>by
    simp only [List.getElem?_map,Option.map_eq_some_iff] at hp
    obtain ⟨f,hf1,rfl⟩:=hp
    have hil:i<xs.length:=by rw [hxl];simpa using (List.getElem?_eq_some_iff.1 hf1).1
    exact ⟨xs[i],by rw [← List.getElem?_eq_getElem hil];exact hx i f (by simpa using hf1)⟩
   rw [List.drop_zero,List.take_of_length_le (by omega)] at hy
   exact ⟨y,hy⟩
  | @struct _ fs A B hu hc hf =>
   obtain ⟨xs,m,hm,_,hl,hxl,hx⟩:=DataW.trod_struct hu h
   cases hm
   have hsz:(Ty.pair A B).size=A.size+B.size:=rfl
   obtain ⟨y,hy⟩:=fields hf (by rw [hl,hc,hsz];omega) fun i p hp=>by
    simp only [List.getElem?_map,Option.map_eq_some_iff] at hp
    obtain ⟨f,hf1,rfl⟩:=hp
    have hil:i<xs.length:=by rw [hxl];simpa using (List.getElem?_eq_some_iff.1 hf1).1
    exact ⟨xs[i],by rw [← List.getElem?_eq_getElem hil];exact hx i f (by simpa using hf1)⟩
   rw [List.drop_zero,List.take_of_length_le (by rw [hl,hc,hsz];omega)] at hy
   exact ⟨y,hy⟩
  | @array1 _ e T hu hc hf =>
   obtain ⟨xs,m,hm,_,hl,hxl,hx⟩:=DataW.trod_array hu h
   cases hm
   obtain ⟨y,hy⟩:=fields hf (by rw [hl,hc];omega) fun i p hp=>by
    have hi0:i=0:=by have:=(List.getElem?_eq_some_iff.1 hp).1;simp at this;exact this
    subst hi0
    simp at hp
    subst hp
    have:=hx 0 (by omega)
    rw [Nat.zero_mul] at this
    exact ⟨xs[0],by rw [← List.getElem?_eq_getElem (by omega)];exact this⟩
   rw [List.drop_zero,List.take_of_length_le (by omega)] at hy
   exact ⟨y,hy⟩
  | @array _ k e A B hu hc hf =>
   obtain ⟨xs,m,hm,_,hl,hxl,hx⟩:=DataW.trod_array hu h
   cases hm
   have hsz:(Ty.pair A B).size=A.size+B.size:=rfl
   obtain ⟨y,hy⟩:=fields hf (by rw [hl,hc,hsz];omega) fun i p hp=>by
    simp only [List.getElem?_map,Option.map_eq_some_iff] at hp
    obtain ⟨j,hj,rfl⟩:=hp
    have hjl:i<k:=by have:=(List.getElem?_eq_some_iff.1 hj).1;simpa using this
    have hji:j=i:=by rw [List.getElem?_range hjl] at hj;cases hj;rfl
    subst hji
    exact ⟨xs[j],by rw [← List.getElem?_eq_getElem (by omega)];exact hx j hjl⟩
   rw [List.drop_zero,List.take_of_length_le (by rw [hl,hc,hsz];omega)] at hy
   exact ⟨y,hy⟩

theorem TyP.agg:∀ {t:TypeId} {T:Ty} {v:Value} {r:Reach} {b0:Nat} {x:T.den},TyP P t T→Value.okWide P w r b0 t v→Rep (InWd w) w T x v.cells.toList→VRep (InWd w) w T x v:=by
 intro t T v r b0 x hT hok hr
 refine ⟨_,hr,?_⟩
 cases hT with
 | int hu=>obtain ⟨n,rfl⟩:=okWide_int hu hok;rfl
 | bool hu=>obtain ⟨n,rfl⟩:=okWide_bool hu hok;rfl
 | str hu=>obtain ⟨n,rfl⟩:=okWide_string hu hok;rfl
 | list hu _ _=>obtain ⟨a,l,c,rfl⟩:=okWide_slice hu hok;rfl
 | struct1 hu _ _ _=>simp only [Value.okWide,hu] at hok;obtain ⟨cs,rfl,_⟩:=hok;simp [Ty.wrap,Ty.agg,Value.cells]
 | struct hu _ _=>simp only [Value.okWide,hu] at hok;obtain ⟨cs,rfl,_⟩:=hok;simp [Ty.wrap,Ty.agg,Value.cells]
 | array1 hu _ _=>simp only [Value.okWide,hu] at hok;obtain ⟨cs,rfl,_⟩:=hok;simp [Ty.wrap,Ty.agg,Value.cells]
 | array hu _ _=>simp only [Value.okWide,hu] at hok;obtain ⟨cs,rfl,_⟩:=hok;simp [Ty.wrap,Ty.agg,Value.cells]

inductive TysP (P:Program):List TypeId→List Ty→Prop where
 | nil:TysP P [] []
 | cons {t T ts Ts}:P.readableRec t=true→t<P.types.size→TyP P t T→TysP P ts Ts→TysP P (t::ts) (T::Ts)
theorem args_data {η:Eta} {r:Reach} {b0:Nat}:∀ {ts:List TypeId} {Ts:List Ty} {vs:List Value} {ds:List (DataW H)} {ps:List MemPlace},TysP P ts Ts→DataW.TrodAll enc P w base spare held ts vs ds ps→(∀ (j:Nat) t v,ts[j]? = some t→vs[j]? = some v→Value.okWide P w r b0 t v) →
  ∃ x:Tup (Ts.map .d),All2 (RM (InWd w) w η) (rvs Ts x) vs
 | _,_,vs,ds,ps,.nil,h,_=>by
  obtain ⟨rfl,_,_⟩:=trodAll_nil h
  exact ⟨(),.nil⟩
 | _,_,vs,ds,ps,.cons (t:=t) (T:=T) (ts:=ts) (Ts:=Ts) h1 h2 h3 h4,h,hok=>by
  obtain ⟨v,vs',d,ds',p,q,rfl,rfl,rfl,⟨n,hn⟩,hr⟩:=trodAll_cons h
  obtain ⟨y,hy⟩:=trod_rep n h3 hn
  have hv:RM (InWd w) w η (T.rv y) v:=VRep.rm (h3.agg (hok 0 t v rfl rfl) hy)
  obtain ⟨x,hx⟩:=args_data (η:=η) h4 hr fun j t v h1 h2=>hok (j+1) t v (by simpa using h1) (by simpa using h2)
  cases Ts with
  | nil=>exact ⟨y,by cases hx;exact .cons hv .nil⟩
  | cons U Us=>exact ⟨(y,x),.cons hv hx⟩
theorem args_back (hl:laidOutB P=true) {w':World} (hb:Below w.heap.size w w') {sp:Nat→Bool}:∀ {ts:List TypeId} {Ts:List Ty} {vs:List Value} {ds:List (DataW H)} {ps:List MemPlace},TysP P ts Ts→DataW.TrodAll enc P w 0 (fun _=>true) true ts vs ds ps→(∀ x∈ps,x.block<w.heap.size)→(∀ x∈ps,sp x.block=true) →
  DataW.TrodAll enc P w' 0 sp true ts vs ds ps
 | _,_,vs,ds,ps,.nil,h,_,_=>by
  obtain ⟨rfl,rfl,rfl⟩:=trodAll_nil h
  exact rfl
 | _,_,vs,ds,ps,.cons h1 h2 h3 h4,h,hlt,hsp=>by
  obtain ⟨v,vs',d,ds',p,q,rfl,rfl,rfl,hd,hr⟩:=trodAll_cons h
  have hd':=WideElems.Trod_stays hl h1 h2 (sp':=sp) hd (fun x hx=>hb.same (hlt x (by simp [hx]))) fun x hx=>hsp x (by simp [hx])
  exact ⟨p,q,hd',args_back hl hb h4 hr (fun x hx=>hlt x (by simp [hx])) fun x hx=>hsp x (by simp [hx]),rfl⟩
end

theorem law_contract' {P:Program} (hl:laidOutB P=true) {f:FuncId} {fn:Func} {s:ChangeSpec} {args:List Ty} {m:Tup (args.map .d)→Option Bool} (hspec:SpecOK P f ⟨args,[.bool],m⟩) {ts:List TypeId} (hts:fn.params.toList=ts) (hT:TysP P ts args) {tb:TypeId} (hrt:fn.resultTypes=#[tb]) (htb:P.underlying tb=some .bool)
  (hvars:s.vars=[]) (hfn:∀ (H:Type) (ds:List (DataW H)),ds.length=args.length→(s.fn H ds).results=[.lit (.bool true)]∧(s.fn H ds).args=ds∧(s.fn H ds).vars=[])
  (hm:∀ (S:Cells) (w:World) (η:Eta) (vs:List Value) x,All2 (RM S w η) (rvs args x) vs→m x=some true)
  {H:Type} {enc:TypeId×Value→H} {W:World} {base:Nat} {av:Array Value} {ds gs:List (DataW H)} {before:List MemPlace} (hglob:GlobOK (InWd W) W)
  (hval:∀ (j:Nat) t v,fn.params[j]? = some t→av[j]? = some v→Value.okWide P W .any base t v) (hW:DataW.Whole enc P fn.params.toList s.vars false W av.toList ds gs before) :
  Calls P f av W fun e W'=>∃ v,e=.returned v∧s.post enc P fn false true false false W av v W'∧W'.os=W.os:=by
 have hW0:=hW
 obtain ⟨p,q,hA,hV,rfl,hfz,_⟩:=hW
 rw [hvars] at hV
 obtain ⟨rfl,rfl⟩:=trodVars_none hV
 rw [List.append_nil] at *
 rw [hts] at hA
 have hlt:∀ x∈p,x.block<W.heap.size:=fun x hx=>by simpa using hW0.lt x hx
 obtain ⟨x,hx⟩:=args_data (η:=fun _=>none) (r:=.any) (b0:=base) hT hA fun j t v h1 h2=>hval j t v (by rw [← hts] at h1;simpa using h1) (by simpa using h2)
 have hc:=hspec x true (hm _ _ _ _ x hx) (InWd W) W (fun _=>none) av.toList ⟨fun b o h=>h,hglob⟩ hx
 have hav:av.toList.toArray=av:=by simp
 rw [hav] at hc
 refine hc.mono fun e W' ⟨v,S',he,hg,hp⟩=>⟨v,he,?_,hg.below.os⟩
 have hvb:v=.bool true:=VRep.bool.1 hp.2
 subst hvb
 have hb:=hg.below
 have hlen:ds.length=args.length:=by
  have h1:∀ {ts:List TypeId} {Ts:List Ty} {vs:List Value} {ds:List (DataW H)} {ps:List MemPlace},TysP P ts Ts→DataW.TrodAll enc P W 0 (fun _=>true) true ts vs ds ps→ds.length=Ts.length:=by
   intro ts Ts vs ds ps hT
   induction hT generalizing vs ds ps with
   | nil=>intro h;obtain ⟨_,rfl,_⟩:=trodAll_nil h;rfl
   | cons _ _ _ _ ih=>intro h;obtain ⟨_,_,_,_,_,_,rfl,rfl,rfl,_,hr⟩:=trodAll_cons h;simp [ih hr]
  exact h1 hT hA
 obtain ⟨f1,f2,f3⟩:=hfn H (ds++[]) (by simpa using hlen)
 have hargs:∀ sp:Nat→Bool,(∀ y∈p,sp y.block=true)→DataW.TrodAll enc P W' 0 sp true fn.params.toList av.toList (s.fn H (ds++[])).args p:=fun sp hsp=>by
  rw [f2,List.append_nil,hts]
  exact args_back hl hb hT hA hlt hsp
 have hres:∀ (b:Nat) (sp:Nat→Bool) (hd:Bool),DataW.TrodAll enc P W' b sp hd fn.resultTypes.toList ((Value.bool true).resultList fn.resultTypes.size) (s.fn H (ds++[])).results []:=fun b sp hd=>by
  rw [f1,hrt]
  exact trodAll_cons_mk (shut_bool htb _) trodAll_mk0
 have hvv:∀ sp:Nat→Bool,DataW.TrodVars enc P W' sp s.vars (s.fn H (ds++[])).vars []:=fun sp=>by rw [f3,hvars];rfl
 have hold:∀ y∈p,(fun b=>decide (b<W.heap.size)) y.block=true:=fun y hy=>by simpa using hlt y hy
 refine ⟨ds,[],p,[],p,[],hW0,hres _ _ _,hargs _ hold,hvv _,World.keptBut_mono (fun y hy=>⟨hy,?_⟩) (hb.frame (·∈p)),fun _=>?_⟩
 ·simpa using hy
 ·refine ⟨ok_one hrt rfl (okWide_bool_mk htb _),_,_,([]++p)++[],⟨[]++p,[],trodAll_append (hargs _ (fun _ _=>rfl)) (hres _ _ _),hvv _,rfl,?_,?_⟩,?_⟩
  ·intro b off hpm
   have hpm:MemPlace.cell b off∈p:=by simpa using hpm
   have hlt':=hlt _ hpm
   rw [hb.frozen (p:=⟨b,off,none⟩) hlt']
   exact hfz b off hpm
  ·intro h;cases h
  ·intro y hy _
   simpa using hy
theorem ints_of_trod {P:Program} {H:Type} {enc:TypeId×Value→H} {W:World} {base:Nat} {spare:Nat→Bool} {held:Bool} {fuel:Nat} {t e:TypeId} {n:Nat} {cs:List Value} {xs:List Int} {p:List MemPlace} (ht:P.underlying t=some (.array n e)) (he:P.underlying e=some (.int .i64)) (hc:P.cellsOf e=1)
  (h:DataW.trod enc P W base spare held fuel t cs=some (.agg (xs.map fun n=>.lit (.int .i64 n)),p)) (i:Nat) (x:Int) (hx:xs[i]? = some x):cs[i]? = some (.int .i64 x)∧IntKind.i64.has x:=by
 cases fuel with
 | zero=>simp [DataW.trod] at h
 | succ fuel =>
  obtain ⟨ys,m,hm,h1,h2,h3,h4⟩:=DataW.trod_array ht h
  cases hm
  simp only [Prod.mk.injEq,DataW.agg.injEq] at h1
  have hl:ys.length=xs.length:=by
   have:=congrArg List.length h1.1
   simpa using this.symm
  have hi:i<xs.length:=(List.getElem?_eq_some_iff.1 hx).1
  have h5:=h4 i (by omega)
  obtain ⟨z,hz⟩:∃ z,ys[i]? = some z:=⟨_,List.getElem?_eq_getElem (by omega)⟩
  have h6:(ys.map (·.1))[i]? = some (.lit (.int .i64 x)):=by
   rw [← h1.1,List.getElem?_map,hx];rfl
  rw [List.getElem?_map,hz] at h6
  have h6:z.1=.lit (.int .i64 x):=Option.some.inj h6
  rw [hc] at h5
  rw [hz,Nat.mul_one] at h5
  cases fuel with
  | zero=>simp [DataW.trod] at h5
  | succ fuel =>
   obtain ⟨k,e1,e2,e3⟩:=DataW.trod_int he h5
   rw [e2] at h6
   have hk:k=x:=by simpa using h6
   subst hk
   refine ⟨?_,(by simp [Lit.wf] at e3;exact e3)⟩
   have:((cs.drop i).take 1)[0]? = some (.int .i64 k):=by rw [e1];rfl
   simpa using this
end Go.PE
namespace Go.Proofs.YthfgccfaildmfaaGreatDoor
open Go Go.Abs Go.PE Go.RowKit Go.ChangeShapes Go.WideShapes Go.ChangeAt Go.Proofs
set_option maxRecDepth 100000
theorem tyP3:TyP Tryz.prog 3 (.int .i64):=.int Tryz.underlying3
theorem tyP70:TyP Tryz.prog 70 (.pair (.int .i64) (.int .i64)):=.array Tryz.underlying70 (by kernel_rfl) (show FsP Tryz.prog [(0,3),(1,3)] 0 (.pair (.int .i64) (.int .i64)) from .cons (by kernel_rfl) tyP3 (.last (by kernel_rfl) tyP3))
theorem tyP22:TyP Tryz.prog 22 (.list (.pair (.int .i64) (.int .i64))):=.list Tryz.underlying22 (by kernel_rfl) tyP70
theorem tyP23:TyP Tryz.prog 23 (.list (.int .i64)):=.list Tryz.underlying23 (by kernel_rfl) tyP3
theorem tyP55:TyP Tryz.prog 55 (.pair (.int .i64) (.pair (.int .i64) (.pair (.int .i64) (.pair (.int .i64) (.int .i64))))):=.array Tryz.underlying55 (by kernel_rfl) (show FsP Tryz.prog [(0,3),(1,3),(2,3),(3,3),(4,3)] 0 (.pair (.int .i64) (.pair (.int .i64) (.pair (.int .i64) (.pair (.int .i64) (.int .i64))))) from .cons (by kernel_rfl) tyP3 (.cons (by kernel_rfl) tyP3 (.cons (by kernel_rfl) tyP3 (.cons (by kernel_rfl) tyP3 (.last (by kernel_rfl) tyP3)))))
theorem tyP24:TyP Tryz.prog 24 (.list (.pair (.int .i64) (.pair (.int .i64) (.pair (.int .i64) (.pair (.int .i64) (.int .i64)))))):=.list Tryz.underlying24 (by kernel_rfl) tyP55
theorem tyP25:TyP Tryz.prog 25 (.pair (.int .i64) (.pair (.int .i64) (.int .i64))):=.array Tryz.underlying25 (by kernel_rfl) (show FsP Tryz.prog [(0,3),(1,3),(2,3)] 0 (.pair (.int .i64) (.pair (.int .i64) (.int .i64))) from .cons (by kernel_rfl) tyP3 (.cons (by kernel_rfl) tyP3 (.last (by kernel_rfl) tyP3)))
theorem tyP27:TyP Tryz.prog 27 (.pair (.int .i64) (.pair (.list (.pair (.int .i64) (.int .i64))) (.pair (.int .i64) (.pair (.int .i64) (.pair (.list (.int .i64)) (.pair (.list (.pair (.int .i64) (.pair (.int .i64) (.pair (.int .i64) (.pair (.int .i64) (.int .i64)))))) (.pair (.int .i64) (.pair (.int .i64) (.int .i64))))))))):=.struct Tryz.underlying27 (by kernel_rfl) (show FsP Tryz.prog [(0,3),(1,22),(2,3),(3,3),(4,23),(5,24),(6,25)] 0 (.pair (.int .i64) (.pair (.list (.pair (.int .i64) (.int .i64))) (.pair (.int .i64) (.pair (.int .i64) (.pair (.list (.int .i64)) (.pair (.list (.pair (.int .i64) (.pair (.int .i64) (.pair (.int .i64) (.pair (.int .i64) (.int .i64)))))) (.pair (.int .i64) (.pair (.int .i64) (.int .i64))))))))) from .cons (by kernel_rfl) tyP3 (.cons (by kernel_rfl) tyP22 (.cons (by kernel_rfl) tyP3 (.cons (by kernel_rfl) tyP3 (.cons (by kernel_rfl) tyP23 (.cons (by kernel_rfl) tyP24 (.last (by kernel_rfl) tyP25)))))))
theorem tyP29:TyP Tryz.prog 29 (.pair (.int .i64) (.list (.pair (.int .i64) (.int .i64)))):=.struct Tryz.underlying29 (by kernel_rfl) (show FsP Tryz.prog [(0,3),(1,22)] 0 (.pair (.int .i64) (.list (.pair (.int .i64) (.int .i64)))) from .cons (by kernel_rfl) tyP3 (.last (by kernel_rfl) tyP22))
theorem tyP51:TyP Tryz.prog 51 (.pair (.int .i64) (.pair (.int .i64) (.pair (.int .i64) (.pair (.int .i64) (.int .i64))))):=.struct Tryz.underlying51 (by kernel_rfl) (show FsP Tryz.prog [(0,3),(1,3),(2,3),(3,3),(4,3)] 0 (.pair (.int .i64) (.pair (.int .i64) (.pair (.int .i64) (.pair (.int .i64) (.int .i64))))) from .cons (by kernel_rfl) tyP3 (.cons (by kernel_rfl) tyP3 (.cons (by kernel_rfl) tyP3 (.cons (by kernel_rfl) tyP3 (.last (by kernel_rfl) tyP3)))))
theorem tyP30:TyP Tryz.prog 30 (.list (.pair (.int .i64) (.pair (.int .i64) (.pair (.int .i64) (.pair (.int .i64) (.int .i64)))))):=.list Tryz.underlying30 (by kernel_rfl) tyP51
theorem tyP32:TyP Tryz.prog 32 (.pair (.pair (.int .i64) (.list (.pair (.int .i64) (.int .i64)))) (.list (.pair (.int .i64) (.pair (.int .i64) (.pair (.int .i64) (.pair (.int .i64) (.int .i64))))))):=.struct Tryz.underlying32 (by kernel_rfl) (show FsP Tryz.prog [(0,29),(2,30)] 0 (.pair (.pair (.int .i64) (.list (.pair (.int .i64) (.int .i64)))) (.list (.pair (.int .i64) (.pair (.int .i64) (.pair (.int .i64) (.pair (.int .i64) (.int .i64))))))) from .cons (by kernel_rfl) tyP29 (.last (by kernel_rfl) tyP30))
theorem tyP4:TyP Tryz.prog 4 (.bool):=.bool Tryz.underlying4
theorem tys3:TysP Tryz.prog [27,25,32,23,3,3,3,23] [(.pair (.int .i64) (.pair (.list (.pair (.int .i64) (.int .i64))) (.pair (.int .i64) (.pair (.int .i64) (.pair (.list (.int .i64)) (.pair (.list (.pair (.int .i64) (.pair (.int .i64) (.pair (.int .i64) (.pair (.int .i64) (.int .i64)))))) (.pair (.int .i64) (.pair (.int .i64) (.int .i64))))))))),(.pair (.int .i64) (.pair (.int .i64) (.int .i64))),(.pair (.pair (.int .i64) (.list (.pair (.int .i64) (.int .i64)))) (.list (.pair (.int .i64) (.pair (.int .i64) (.pair (.int .i64) (.pair (.int .i64) (.int .i64))))))),(.list (.int .i64)),(.int .i64),(.int .i64),(.int .i64),(.list (.int .i64))]:=.cons (by kernel_rfl) (of_decide_eq_true (by kernel_rfl)) tyP27 (.cons (by kernel_rfl) (of_decide_eq_true (by kernel_rfl)) tyP25 (.cons (by kernel_rfl) (of_decide_eq_true (by kernel_rfl)) tyP32 (.cons (by kernel_rfl) (of_decide_eq_true (by kernel_rfl)) tyP23 (.cons (by kernel_rfl) (of_decide_eq_true (by kernel_rfl)) tyP3 (.cons (by kernel_rfl) (of_decide_eq_true (by kernel_rfl)) tyP3 (.cons (by kernel_rfl) (of_decide_eq_true (by kernel_rfl)) tyP3 (.cons (by kernel_rfl) (of_decide_eq_true (by kernel_rfl)) tyP23 (.nil))))))))
theorem tys4:TysP Tryz.prog [27,3,3,4] [(.pair (.int .i64) (.pair (.list (.pair (.int .i64) (.int .i64))) (.pair (.int .i64) (.pair (.int .i64) (.pair (.list (.int .i64)) (.pair (.list (.pair (.int .i64) (.pair (.int .i64) (.pair (.int .i64) (.pair (.int .i64) (.int .i64)))))) (.pair (.int .i64) (.pair (.int .i64) (.int .i64))))))))),(.int .i64),(.int .i64),(.bool)]:=.cons (by kernel_rfl) (of_decide_eq_true (by kernel_rfl)) tyP27 (.cons (by kernel_rfl) (of_decide_eq_true (by kernel_rfl)) tyP3 (.cons (by kernel_rfl) (of_decide_eq_true (by kernel_rfl)) tyP3 (.cons (by kernel_rfl) (of_decide_eq_true (by kernel_rfl)) tyP4 (.nil))))
theorem tys5:TysP Tryz.prog [27,55] [(.pair (.int .i64) (.pair (.list (.pair (.int .i64) (.int .i64))) (.pair (.int .i64) (.pair (.int .i64) (.pair (.list (.int .i64)) (.pair (.list (.pair (.int .i64) (.pair (.int .i64) (.pair (.int .i64) (.pair (.int .i64) (.int .i64)))))) (.pair (.int .i64) (.pair (.int .i64) (.int .i64))))))))),(.pair (.int .i64) (.pair (.int .i64) (.pair (.int .i64) (.pair (.int .i64) (.int .i64)))))]:=.cons (by kernel_rfl) (of_decide_eq_true (by kernel_rfl)) tyP27 (.cons (by kernel_rfl) (of_decide_eq_true (by kernel_rfl)) tyP55 (.nil))
theorem tys6:TysP Tryz.prog [27,3,3,3,4,23] [(.pair (.int .i64) (.pair (.list (.pair (.int .i64) (.int .i64))) (.pair (.int .i64) (.pair (.int .i64) (.pair (.list (.int .i64)) (.pair (.list (.pair (.int .i64) (.pair (.int .i64) (.pair (.int .i64) (.pair (.int .i64) (.int .i64)))))) (.pair (.int .i64) (.pair (.int .i64) (.int .i64))))))))),(.int .i64),(.int .i64),(.int .i64),(.bool),(.list (.int .i64))]:=.cons (by kernel_rfl) (of_decide_eq_true (by kernel_rfl)) tyP27 (.cons (by kernel_rfl) (of_decide_eq_true (by kernel_rfl)) tyP3 (.cons (by kernel_rfl) (of_decide_eq_true (by kernel_rfl)) tyP3 (.cons (by kernel_rfl) (of_decide_eq_true (by kernel_rfl)) tyP3 (.cons (by kernel_rfl) (of_decide_eq_true (by kernel_rfl)) tyP4 (.cons (by kernel_rfl) (of_decide_eq_true (by kernel_rfl)) tyP23 (.nil))))))
theorem tys7:TysP Tryz.prog [27,3] [(.pair (.int .i64) (.pair (.list (.pair (.int .i64) (.int .i64))) (.pair (.int .i64) (.pair (.int .i64) (.pair (.list (.int .i64)) (.pair (.list (.pair (.int .i64) (.pair (.int .i64) (.pair (.int .i64) (.pair (.int .i64) (.int .i64)))))) (.pair (.int .i64) (.pair (.int .i64) (.int .i64))))))))),(.int .i64)]:=.cons (by kernel_rfl) (of_decide_eq_true (by kernel_rfl)) tyP27 (.cons (by kernel_rfl) (of_decide_eq_true (by kernel_rfl)) tyP3 (.nil))
theorem tys8:TysP Tryz.prog [27,3,3] [(.pair (.int .i64) (.pair (.list (.pair (.int .i64) (.int .i64))) (.pair (.int .i64) (.pair (.int .i64) (.pair (.list (.int .i64)) (.pair (.list (.pair (.int .i64) (.pair (.int .i64) (.pair (.int .i64) (.pair (.int .i64) (.int .i64)))))) (.pair (.int .i64) (.pair (.int .i64) (.int .i64))))))))),(.int .i64),(.int .i64)]:=.cons (by kernel_rfl) (of_decide_eq_true (by kernel_rfl)) tyP27 (.cons (by kernel_rfl) (of_decide_eq_true (by kernel_rfl)) tyP3 (.cons (by kernel_rfl) (of_decide_eq_true (by kernel_rfl)) tyP3 (.nil)))
theorem tys9:TysP Tryz.prog [27,23] [(.pair (.int .i64) (.pair (.list (.pair (.int .i64) (.int .i64))) (.pair (.int .i64) (.pair (.int .i64) (.pair (.list (.int .i64)) (.pair (.list (.pair (.int .i64) (.pair (.int .i64) (.pair (.int .i64) (.pair (.int .i64) (.int .i64)))))) (.pair (.int .i64) (.pair (.int .i64) (.int .i64))))))))),(.list (.int .i64))]:=.cons (by kernel_rfl) (of_decide_eq_true (by kernel_rfl)) tyP27 (.cons (by kernel_rfl) (of_decide_eq_true (by kernel_rfl)) tyP23 (.nil))
theorem laidOut:laidOutB Tryz.prog=true:=by kernel_rfl
theorem own:ownKnob Tryz.prog.godebug=none:=by kernel_rfl
end Go.Proofs.YthfgccfaildmfaaGreatDoor
namespace Go.Proofs.YthfgccfaildmfaaGreatDoor
open Go Go.Abs Go.PE Go.RowKit Go.ChangeShapes Go.WideShapes Go.ChangeAt Go.WideMaps Go.WideElems Go.Proofs
set_option maxRecDepth 100000
theorem gName:Tryz.prog.globalNamed "putlog/calendar.lengths"=some 0:=by kernel_rfl
theorem gTy:(Tryz.prog.globals[0]?).map (·.type)=some 194:=by kernel_rfl
theorem globs_ok {W:World} (h:laidMetH Tryz.prog Rows.datingMatchesReferenceRow.laid W):GlobOK (InWd W) W:=by
 rw [MakeChecks.laidMetH_plain _ _ _ (by kernel_rfl)] at h
 obtain ⟨ps,⟨g0,t0,cs0,f0,p0,q0,hg0,ht0,hv0,hd0,_,_⟩,_,_⟩:=h
 obtain rfl:=Option.some.inj (gName.symm.trans hg0)
 obtain rfl:=Option.some.inj (gTy.symm.trans ht0)
 intro g G hl i x hx
 unfold globTab at hl
 by_cases hg:0=g
 ·subst hg
  rw [lk_same] at hl
  cases hl
  have key:=ints_of_trod (xs:=([0,31,28,31,30,31,30,31,31,30,31,30,31]:List Int)) Tryz.underlying194 Tryz.underlying3 (by kernel_rfl) hd0 i x hx
  refine ⟨[.int .i64 x],⟨rfl,key.2⟩,fun j v hj=>?_⟩
  cases j with
  | zero =>
   have hv:Value.int .i64 x=v:=Option.some.inj hj
   subst hv
   have hc:=World.var?_cell hg0 hv0 i
   have h2:W.cell? ⟨0,i*1+0,none⟩=some (.int .i64 x):=by
    rw [Nat.mul_one,Nat.add_zero,hc]
    simpa using key.1
   exact ⟨World.block_lt_of_cell? _ _ h2,h2⟩
  | succ j=>simp at hj
 ·rw [lk_ne _ _ hg] at hl
  cases hl
theorem door_met (os:Os) (args:Array Value):laidMetH Tryz.prog Rows.datingMatchesReferenceRow.laid ((World.doorLaid Tryz.prog 400 os).forCall (fun _ _=>0) ⟨#[],args,[]⟩).memory :=
 laidMetH_of_parts3 (fuel:=8) (laidMet_of_run' 8 (by kernel_rfl) (by kernel_rfl)) (by kernel_rfl) (by kernel_rfl)
end Go.Proofs.YthfgccfaildmfaaGreatDoor
namespace Go.Proofs.YthfgccfaildmfaaGreatDoor.Ord
abbrev Rel:=Nat→Nat→Bool
def stp (k:Nat) (d:Rel):Rel:=fun a b=>d a b||(d a k&&d k b)
def clos (d:Rel):Nat→Rel
 | 0=>d
 | k+1=>stp k (clos d k)
theorem clos_sub {d:Rel} {a b:Nat} (h:d a b=true):∀ k,clos d k a b=true
 | 0=>h
 | k+1=>by unfold clos stp;rw [clos_sub h k];rfl
theorem clos_tri {d:Rel}:∀ (k l a b:Nat),l<k→clos d k a l=true→clos d k l b=true→clos d k a b=true
 | 0,l,a,b,hl,_,_=>by omega
 | k+1,l,a,b,hl,h1,h2=>by
  have ih:=clos_tri (d:=d) k
  unfold clos stp at h1 h2 ⊢
  simp only [Bool.or_eq_true,Bool.and_eq_true] at h1 h2 ⊢
  by_cases hk:l<k
  ·rcases h1 with h1 | ⟨h1,h1'⟩<;>rcases h2 with h2 | ⟨h2,h2'⟩
   ·exact .inl (ih l a b hk h1 h2)
   ·exact .inr ⟨ih l a k hk h1 h2,h2'⟩
   ·exact .inr ⟨h1,ih l k b hk h1' h2⟩
   ·exact .inr ⟨h1,h2'⟩
  ·have:l=k:=by omega
   subst this
   have h3:clos d l a l=true:=by rcases h1 with h | ⟨h,_⟩<;>exact h
   have h4:clos d l l b=true:=by rcases h2 with h | ⟨_,h⟩<;>exact h
   exact .inr ⟨h3,h4⟩
theorem clos_ind {d:Rel} {P:Nat→Nat→Prop} (h0:∀ a b,d a b=true→P a b) (ht:∀ a b c,P a b→P b c→P a c):∀ (k a b:Nat),clos d k a b=true→P a b
 | 0,a,b,h=>h0 a b h
 | k+1,a,b,h=>by
  unfold clos stp at h
  simp only [Bool.or_eq_true,Bool.and_eq_true] at h
  rcases h with h | ⟨h1,h2⟩
  ·exact clos_ind h0 ht k a b h
  ·exact ht _ _ _ (clos_ind h0 ht k a k h1) (clos_ind h0 ht k k b h2)
def red (n:Nat) (r:Rel):Rel:=fun a b=>r a b&&(List.range n).all fun k=>!(r a k&&r k b)
theorem red_iff {n:Nat} {r:Rel} {a b:Nat}:red n r a b=true↔r a b=true∧∀ k,k<n→¬ (r a k=true∧r k b=true):=by
 unfold red
 simp only [Bool.and_eq_true,List.all_eq_true,List.mem_range,Bool.not_eq_true',Bool.and_eq_false_iff]
 constructor
 ·rintro ⟨h1,h2⟩
  refine ⟨h1,fun k hk ⟨h3,h4⟩=>?_⟩
  rcases h2 k hk with h | h
  ·rw [h3] at h;cases h
  ·rw [h4] at h;cases h
 ·rintro ⟨h1,h2⟩
  refine ⟨h1,fun k hk=>?_⟩
  by_cases h3:r a k=true
  ·right
   cases h4:r k b
   ·rfl
   ·exact absurd ⟨h3,h4⟩ (h2 k hk)
  ·left;simpa using h3
theorem red_ind {n:Nat} {r:Rel} {f:Nat→Nat} (hf:∀ a b,r a b=true→f a<f b) {P:Nat→Nat→Prop} (h0:∀ a b,red n r a b=true→P a b) (ht:∀ a b c,P a b→P b c→P a c):∀ (m a b:Nat),f b-f a≤m→r a b=true→P a b
 | 0,a,b,hm,h=>by have:=hf a b h;omega
 | m+1,a,b,hm,h=>by
  by_cases hr:red n r a b=true
  ·exact h0 a b hr
  ·have:∃ k,k<n∧r a k=true∧r k b=true:=by
    rcases Classical.em (∃ k,k<n∧r a k=true∧r k b=true) with h' | h'
    ·exact h'
    ·exact absurd (red_iff.2 ⟨h,fun k hk hh=>h' ⟨k,hk,hh⟩⟩) hr
   obtain ⟨k,_,h1,h2⟩:=this
   have g1:=hf a k h1
   have g2:=hf k b h2
   exact ht _ _ _ (red_ind hf h0 ht m a k (by omega) h1) (red_ind hf h0 ht m k b (by omega) h2)
end Go.Proofs.YthfgccfaildmfaaGreatDoor.Ord
namespace Go.PE
def Le {α:Type} (a b:Option α):Prop:=∀ r,a=some r→b=some r
theorem Le.refl {α:Type} (a:Option α):Le a a:=fun _ h=>h
theorem Le.bind {α β:Type} {a a':Option α} {f f':α→Option β} (h:Le a a') (hf:∀ x,Le (f x) (f' x)):Le (Option.bind a f) (Option.bind a' f'):=by
 intro r hr
 cases a with
 | none=>cases hr
 | some x =>
  rw [h x rfl]
  exact hf x r hr
theorem Le.cond {α:Type} {c:Bool} {a a' b b':Option α} (h:Le a a') (h':Le b b'):Le (cond c a b) (cond c a' b'):=by
 cases c
 ·exact h'
 ·exact h
theorem Le.elim {α β γ:Type} {f f':α→Option γ} {g g':β→Option γ} (hf:∀ x,Le (f x) (f' x)) (hg:∀ x,Le (g x) (g' x)) (x:α⊕β):Le (Sum.elim f g x) (Sum.elim f' g' x):=by
 cases x with
 | inl a=>exact hf a
 | inr b=>exact hg b
theorem Le.iter {σ β:Type} {body body':σ→Option (σ⊕β)} (h:∀ s,Le (body s) (body' s)):∀ (n:Nat) (s:σ),Le (iterM body n s) (iterM body' n s)
 | 0,_=>Le.refl _
 | n+1,s=>by
  unfold iterM
  exact Le.bind (h s) fun x=>Le.elim (Le.iter h n) (fun _=>Le.refl _) x
def loopF {σ β:Type} (body:σ→Option (σ⊕β)) (s:σ):Option β:=iterM body 4096 s
theorem Le.loop {σ β:Type} {body body':σ→Option (σ⊕β)} (h:∀ s,Le (body s) (body' s)) (s:σ):Le (loopF body s) (loopM body' s) :=
 fun r hr=>loopM_iff.2 ⟨4096,Le.iter h 4096 s r hr⟩
def nilF {α β:Type} (xs:List α) (a b:Option β):Option β:=match xs with
 | []=>none
 | _::_=>b
theorem Le.nil {α β:Type} {xs:List α} {a a' b b':Option β} (h:Le b b'):Le (nilF xs a b) (nilM xs a' b'):=by
 cases xs with
 | nil=>intro r hr;cases hr
 | cons x xs=>exact h
theorem Le.out {α:Type} {a b:Option α} (h:Le a b) {r:α} (e:a=some r):b=some r:=h r e
attribute [irreducible] Le
end Go.PE
namespace Go.PE
open Go Go.Abs
def InR:(t:Ty)→t.den→Prop
 | .int k,x=>k.has x
 | .bool,_=>True
 | .str,x=>List.length x≤maxLen
 | .list t,xs=>List.length xs≤maxLen∧∀ (i:Nat) (x:t.den),xs[i]? = some x→InR t x
 | .one t,x=>InR t x
 | .pair a b,x=>InR a x.1∧InR b x.2
def OkT:(l:List Ty)→Tup (l.map .d)→Prop
 | [],_=>True
 | [t],x=>InR t x
 | t::u::r,x=>InR t x.1∧OkT (u::r) x.2
section
variable {S:Cells} {w:World} {η:Eta}
theorem Rep.ok:∀ {t:Ty} {x:t.den} {cs:List Value},Rep S w t x cs→InR t x
 | .int _,_,_,h=>h.2
 | .bool,_,_,_=>trivial
 | .str,_,_,h=>h.2
 | .list t,xs,_,h=>by
  obtain ⟨base,cap,rfl,h1,h2,h3⟩:=h
  refine ⟨Nat.le_trans h1 h2,fun i x hx=>?_⟩
  rcases h3 with h3 | ⟨b,off,_,h3⟩
  ·have:xs=[]:=List.length_eq_zero_iff.1 h3
   rw [this] at hx
   cases hx
  ·obtain ⟨es,h4,_⟩:=h3 i x hx
   exact Rep.ok h4
 | .one t,x,cs,h=>by
  have h':Rep S w t x cs:=h
  exact Rep.ok (t:=t) h'
 | .pair a b,x,cs,h=>by
  obtain ⟨c1,c2,rfl,h1,h2⟩:=h
  exact ⟨Rep.ok h1,Rep.ok h2⟩
theorem cv_ok:∀ {t:Ty} {x:t.den} {vs:List Value},All2 (CM S w η) (t.cv x) vs→InR t x
 | .int _,_,_,.cons h .nil=>let ⟨_,a,_⟩:=h.2;Rep.ok a
 | .bool,_,_,_=>trivial
 | .str,_,_,.cons h .nil=>let ⟨_,a,_⟩:=h.2;Rep.ok a
 | .list _,_,_,.cons h .nil=>let ⟨_,a,_⟩:=h.2;Rep.ok a
 | .one t,x,vs,h=>by
  have h':All2 (CM S w η) (t.cv x) vs:=h
  exact cv_ok (t:=t) h'
 | .pair a b,x,vs,h=>by
  have h':All2 (CM S w η) (a.cv x.1++b.cv x.2) vs:=h
  obtain ⟨b1,b2,rfl,h1,h2⟩:=All2.split h'
  exact ⟨cv_ok h1,cv_ok h2⟩
theorem rv_ok {t:Ty} {x:t.den} {v:Value} (h:RM S w η (t.rv x) v):InR t x:=by
 unfold Ty.rv at h
 split at h
 ·obtain ⟨vs,_,h2⟩:=h
  exact cv_ok h2
 ·obtain ⟨_,cs,h2,_⟩:=h
  exact Rep.ok h2
theorem rvs_ok:∀ {l:List Ty} {x:Tup (l.map .d)} {vs:List Value},All2 (RM S w η) (rvs l x) vs→OkT l x
 | [],_,_,_=>trivial
 | [t],x,_,.cons h .nil=>rv_ok h
 | t::u::r,x,_,h=>by
  have h':All2 (RM S w η) (t.rv x.1::rvs (u::r) x.2) _:=h
  cases h' with
  | cons h1 h2=>exact ⟨rv_ok h1,rvs_ok (l:=u::r) h2⟩
end
theorem law_of_ok {args:List Ty} {m:Tup (args.map .d)→Option Bool} (h:∀ x,OkT args x→m x=some true) :
  ∀ (S:Cells) (w:World) (η:Eta) (vs:List Value) x,All2 (RM S w η) (rvs args x) vs→m x=some true:=fun _ _ _ _ x hx=>h x (rvs_ok hx)

theorem wrap_in {n:Int} (h1:-9223372036854775808≤n) (h2:n≤9223372036854775807):IntKind.wrap IntKind.i64 n=n:=Go.IntWalk.i64_in n ⟨h1,h2⟩
theorem idxM_nat {α:Type} (xs:List α) (i:Nat):idxM xs (i:Int)=xs[i]? := by
 unfold idxM
 rw [decide_eq_true (by omega:(0:Int)≤i)]
 simp
theorem idxM_lt {α:Type} {xs:List α} {i:Nat} (h:i<xs.length):idxM xs (i:Int)=some xs[i]:=by
 rw [idxM_nat,List.getElem?_eq_getElem h]
theorem idxM_of {α:Type} {xs:List α} {i:Int} (h0:0≤i) (h:i<xs.length):idxM xs i=some (xs[i.toNat]'(by omega)):=by
 unfold idxM
 rw [decide_eq_true h0]
 exact List.getElem?_eq_getElem _
theorem chkM_of {i n:Int} (h0:0≤i) (h:i<n):chkM i n=some ():=by
 unfold chkM
 rw [decide_eq_true h0,decide_eq_true h]
theorem appM_of {α:Type} {b:Nat} {xs ys:List α} (h:(xs.length+ys.length)*b≤140737488355328):appM b xs ys=some (xs++ys):=by
 unfold appM
 rw [decide_eq_true h]
theorem mkM_of {α:Type} {n c:Int} {b:Nat} {d:α} (h0:0≤n) (h:n≤c) (hb:c*b≤140737488355328):mkM n c b d=some (List.replicate n.toNat d):=by
 unfold mkM
 rw [decide_eq_true h0,decide_eq_true h,decide_eq_true hb]
theorem setM_of {α:Type} {xs:List α} {i:Int} {f:α→Option α} {y:α} (h0:0≤i) (h:i<xs.length) (hy:f (xs[i.toNat]'(by omega))=some y):setM xs i f=some (xs.set i.toNat y):=by
 unfold setM
 rw [idxM_of h0 h]
 simp only [hy]
theorem sliceM_of {α:Type} {xs:List α} {lo hi:Int} (h0:0≤lo) (h:lo≤hi) (h2:hi≤xs.length):sliceM xs lo hi=some ((xs.take hi.toNat).drop lo.toNat):=by
 unfold sliceM
 rw [decide_eq_true h0,decide_eq_true h,decide_eq_true h2]
theorem sameM_self (i:Int):sameM i i=some ():=by
 unfold sameM
 rw [decide_eq_true rfl]
theorem loopM_inv {σ β:Type} {body:σ→Option (σ⊕β)} (P:Nat→σ→Prop) (Q:β→Prop) (n:Nat)
  (h:∀ k s,k≤n→P k s→(∃ s',k<n∧body s=some (.inl s')∧P (k+1) s')∨∃ r,body s=some (.inr r)∧Q r) :
  ∀ (m k:Nat) (s:σ),n-k=m→k≤n→P k s→∃ r,loopM body s=some r∧Q r:=by
 intro m
 induction m with
 | zero =>
  intro k s hm hk hP
  rcases h k s hk hP with ⟨s',hlt,_⟩ | ⟨r,h1,h2⟩
  ·omega
  ·exact ⟨r,by rw [loopM_eq,h1];rfl,h2⟩
 | succ m ih =>
  intro k s hm hk hP
  rcases h k s hk hP with ⟨s',hlt,h1,h2⟩ | ⟨r,h1,h2⟩
  ·obtain ⟨r,h3,h4⟩:=ih (k+1) s' (by omega) (by omega) h2
   exact ⟨r,by rw [loopM_eq,h1];exact h3,h4⟩
  ·exact ⟨r,by rw [loopM_eq,h1];rfl,h2⟩
theorem loopM_from {σ β:Type} {body:σ→Option (σ⊕β)} (P:Nat→σ→Prop) (Q:β→Prop) (n:Nat) {s:σ} (h0:P 0 s)
  (h:∀ k s,k≤n→P k s→(∃ s',k<n∧body s=some (.inl s')∧P (k+1) s')∨∃ r,body s=some (.inr r)∧Q r):∃ r,loopM body s=some r∧Q r :=
 loopM_inv P Q n h n 0 s (by omega) (by omega) h0
theorem loopM_fn {σ β:Type} {body:σ→Option (σ⊕β)} (g:Nat→σ) (n:Nat) {r:β} (h:∀ k,k<n→body (g k)=some (.inl (g (k+1)))) (he:body (g n)=some (.inr r)):loopM body (g 0)=some r:=by
 obtain ⟨r',h1,h2⟩:=loopM_from (body:=body) (fun k s=>s=g k) (fun x=>x=r) n (s:=g 0) rfl fun k s hk hs=>by
  subst hs
  by_cases hlt:k<n
  ·exact .inl ⟨_,hlt,h k hlt,rfl⟩
  ·have:k=n:=by omega
   subst this
   exact .inr ⟨r,he,rfl⟩
 rw [h1,h2]
theorem find_loop {α:Type} {xs:List α} (p:α→Bool) {body:Int→Option (Int⊕(Unit⊕Int))}
  (hb:∀ k (hk:k<xs.length),body (k:Int)=some (bif p xs[k] then .inr (.inr (k:Int)) else .inl ((k:Int)+1))) (he:body (xs.length:Int)=some (.inr (.inl ()))) :
  ∃ o,loopM body 0=some o∧((o=.inl ()∧∀ k (hk:k<xs.length),p xs[k]=false)∨∃ k,∃ hk:k<xs.length,o=.inr (k:Int)∧p xs[k]=true∧∀ j (hj:j<k),p (xs[j]'(by omega))=false):=by
 refine loopM_from (fun k s=>s=(k:Int)∧∀ j (hj:j<xs.length),j<k→p xs[j]=false) _ xs.length (s:=0) ⟨rfl,fun j _ hj=>by omega⟩ fun k s hk ⟨hs,hP⟩=>?_
 subst hs
 by_cases hlt:k<xs.length
 ·cases hp:p xs[k] with
  | true=>exact .inr ⟨.inr (k:Int),by rw [hb k hlt,hp];rfl,.inr ⟨k,hlt,rfl,hp,fun j hj=>hP j (by omega) hj⟩⟩
  | false =>
   refine .inl ⟨((k+1:Nat):Int),hlt,by rw [hb k hlt,hp];rfl,rfl,fun j hj hjk=>?_⟩
   by_cases e:j=k
   ·subst e;exact hp
   ·exact hP j hj (by omega)
 ·have:k=xs.length:=by omega
  subst this
  exact .inr ⟨_,he,.inl ⟨rfl,fun j hj=>hP j hj hj⟩⟩
theorem any_loop {α:Type} {xs:List α} (p:α→Bool) {body:Int→Option (Int⊕(Unit⊕Int))}
  (hb:∀ k (hk:k<xs.length),body (k:Int)=some (bif p xs[k] then .inr (.inr (k:Int)) else .inl ((k:Int)+1))) (he:body (xs.length:Int)=some (.inr (.inl ()))) :
  Option.bind (Option.bind (loopM body 0) (fun o=>Sum.elim (fun _=>some (-1:Int)) (fun t=>some t) o)) (fun ov=>some (leM 0 ov))=some (xs.any p):=by
 obtain ⟨o,h1,h2⟩:=find_loop p hb he
 rw [h1]
 rcases h2 with ⟨rfl,h2⟩ | ⟨k,hk,rfl,h2,_⟩
 ·have:xs.any p=false:=by
   rw [List.any_eq_false]
   intro x hx
   obtain ⟨i,hi,rfl⟩:=List.mem_iff_getElem.1 hx
   simp [h2 i hi]
  rw [this]
  rfl
 ·have:xs.any p=true:=List.any_eq_true.2 ⟨_,List.getElem_mem hk,h2⟩
  rw [this]
  show some (decide ((0:Int)≤(k:Int)))=some true
  rw [decide_eq_true (by omega)]
end Go.PE
namespace Go.PE
open Go Go.Abs
def row {α:Type} (m:Nat) (g:Nat→α):List α:=(List.range m).map g
def rt {α:Type} (n:Nat) (len:Nat→Nat) (d:Nat→Nat→α):List (List α):=row n fun i=>row (len i) (d i)
def upd {α:Type} (d:Nat→Nat→α) (i j:Nat) (y:α):Nat→Nat→α:=fun a b=>if a=i∧b=j then y else d a b
def upl (len:Nat→Nat) (i m:Nat):Nat→Nat:=fun a=>if a=i then m else len a
section
variable {α:Type}
theorem row_length (m:Nat) (g:Nat→α):(row m g).length=m:=by simp [row]
theorem rt_length (n:Nat) (len:Nat→Nat) (d:Nat→Nat→α):(rt n len d).length=n:=row_length _ _
theorem row_get {m:Nat} {g:Nat→α} {i:Nat} (h:i<m):(row m g)[i]? = some (g i):=by simp [row,h]
theorem row_idx {m:Nat} {g:Nat→α} {i:Nat} (h:i<m):idxM (row m g) (i:Int)=some (g i):=by rw [idxM_nat,row_get h]
theorem rt_idx {n:Nat} {len:Nat→Nat} {d:Nat→Nat→α} {i:Nat} (h:i<n):idxM (rt n len d) (i:Int)=some (row (len i) (d i)):=row_idx h
theorem row_congr {m:Nat} {g g':Nat→α} (h:∀ i,i<m→g i=g' i):row m g=row m g':=by
 unfold row
 exact List.map_congr_left fun i hi=>h i (List.mem_range.1 hi)
theorem rt_congr {n:Nat} {len len':Nat→Nat} {d d':Nat→Nat→α} (hl:∀ i,i<n→len i=len' i) (h:∀ i j,i<n→j<len i→d i j=d' i j):rt n len d=rt n len' d':=by
 refine row_congr fun i hi=>?_
 rw [← hl i hi]
 exact row_congr fun j hj=>h i j hi hj
theorem row_set {m:Nat} {g:Nat→α} {i:Nat} (h:i<m) (y:α):(row m g).set i y=row m fun a=>if a=i then y else g a:=by
 apply List.ext_getElem?
 intro k
 rw [List.getElem?_set]
 by_cases hk:k<m
 ·by_cases e:i=k
  ·subst e
   rw [if_pos rfl,if_pos (by rw [row_length];exact h),row_get h,if_pos rfl]
  ·have e':¬ k=i:=fun x=>e x.symm
   simp [e,e',row_get hk]
 ·have h1:i≠k:=by omega
  rw [if_neg h1,List.getElem?_eq_none (by rw [row_length];omega),List.getElem?_eq_none (by rw [row_length];omega)]
theorem row_succ (m:Nat) (g:Nat→α):row (m+1) g=row m g++[g m]:=by simp [row,List.range_succ]
theorem replicate_row (n:Nat) (y:α):List.replicate n y=row n fun _=>y:=by
 apply List.ext_getElem?
 intro k
 by_cases hk:k<n
 ·rw [row_get hk];simp [hk]
 ·rw [List.getElem?_eq_none (by simp;omega),List.getElem?_eq_none (by rw [row_length];omega)]
theorem rt_app {n:Nat} {len:Nat→Nat} {d:Nat→Nat→α} {i b:Nat} (h:i<n) (hb:(len i+1)*b≤140737488355328) :
  app2M b (rt n len d) (i:Int) [d i (len i)]=some (rt n (upl len i (len i+1)) d):=by
 unfold app2M
 rw [rt_idx h]
 have e:appM b (row (len i) (d i)) [d i (len i)]=some (row (len i+1) (d i)):=by
  rw [appM_of (by rw [row_length];simpa using hb),row_succ]
 simp only [e]
 have ht:((i:Int)).toNat=i:=by omega
 rw [ht]
 unfold rt
 rw [row_set h]
 congr 1
 refine row_congr fun a _=>?_
 unfold upl
 by_cases e:a=i
 ·subst e;simp
 ·simp [e]
theorem rt_set {n:Nat} {len:Nat→Nat} {d:Nat→Nat→α} {i j:Nat} {f:α→Option α} {y:α} (h:i<n) (hj:j<len i) (hy:f (d i j)=some y) :
  set2M (rt n len d) (i:Int) (j:Int) f=some (rt n len (upd d i j y)):=by
 unfold set2M
 rw [rt_idx h]
 have e:setM (row (len i) (d i)) (j:Int) f=some (row (len i) (upd d i j y i)):=by
  unfold setM
  rw [row_idx hj]
  simp only [hy]
  have ht:((j:Int)).toNat=j:=by omega
  rw [ht,row_set hj]
  congr 1
  refine row_congr fun b _=>?_
  unfold upd
  by_cases e:b=j<;>simp [e]
 simp only [e]
 have ht:((i:Int)).toNat=i:=by omega
 rw [ht]
 unfold rt
 rw [row_set h]
 congr 1
 refine row_congr fun a _=>?_
 by_cases e:a=i
 ·subst e;simp
 ·rw [if_neg e]
  refine row_congr fun b _=>?_
  unfold upd
  simp [e]
end
theorem bind_of {α β:Type} {o:Option α} {x:α} {f:α→Option β} {r:Option β} (h:o=some x) (h2:f x=r):Option.bind o f=r:=by
 rw [h];exact h2
theorem loopM_is {σ β:Type} {body:σ→Option (σ⊕β)} {s:σ} {r:β} (P:Nat→σ→Prop) (n:Nat) (h0:P 0 s)
  (h:∀ k s,k≤n→P k s→(∃ s',k<n∧body s=some (.inl s')∧P (k+1) s')∨body s=some (.inr r)):loopM body s=some r:=by
 obtain ⟨r',h1,h2⟩:=loopM_from P (fun x=>x=r) n h0 fun k s hk hP=>by
  rcases h k s hk hP with h | h
  ·exact .inl h
  ·exact .inr ⟨r,h,rfl⟩
 rw [h1,h2]
theorem count_loop {σ β:Type} {body:Int×σ→Option ((Int×σ)⊕β)} (g:Nat→σ) (n:Nat) {r:β} (h:∀ k,k<n→body ((k:Int),g k)=some (.inl ((k:Int)+1,g (k+1)))) (he:body ((n:Int),g n)=some (.inr r)) :
  loopM body ((0:Int),g 0)=some r :=
 loopM_fn (fun k=>((k:Int),g k)) n (fun k hk=>h k hk) he
end Go.PE
namespace Go.PE
open Go Go.Abs
def Ans {α:Type} (o:Option α) (Q:α→Prop):Prop:=∃ r,o=some r∧Q r
theorem Ans.is {α:Type} {o:Option α} {r:α} (h:Ans o (fun x=>x=r)):o=some r:=by
 obtain ⟨x,h1,h2⟩:=h
 rw [h1,h2]
theorem Ans.of {α:Type} {o:Option α} {r:α} {Q:α→Prop} (h:o=some r) (hQ:Q r):Ans o Q:=⟨r,h,hQ⟩
theorem Ans.some {α:Type} {r:α} {Q:α→Prop} (hQ:Q r):Ans (some r) Q:=⟨r,rfl,hQ⟩
theorem Ans.mono {α:Type} {o:Option α} {P Q:α→Prop} (h:Ans o P) (hQ:∀ x,P x→Q x):Ans o Q:=by
 obtain ⟨x,h1,h2⟩:=h
 exact ⟨x,h1,hQ x h2⟩
theorem Ans.bind {α β:Type} {o:Option α} {f:α→Option β} {P:α→Prop} {Q:β→Prop} (h:Ans o P) (hf:∀ x,P x→Ans (f x) Q):Ans (Option.bind o f) Q:=by
 obtain ⟨x,h1,h2⟩:=h
 rw [h1]
 exact hf x h2
theorem Ans.seq {α β:Type} {o:Option α} {f:α→Option β} {x:α} {Q:β→Prop} (h:o=Option.some x) (hf:Ans (f x) Q):Ans (Option.bind o f) Q:=by
 rw [h]
 exact hf
theorem Ans.cond {α:Type} {c:Bool} {a b:Option α} {Q:α→Prop} (ht:c=true→Ans a Q) (hf:c=false→Ans b Q):Ans (bif c then a else b) Q:=by
 cases c
 ·exact hf rfl
 ·exact ht rfl
def Nxt {σ β:Type} (P:σ→Prop) (Q:β→Prop):σ⊕β→Prop
 | .inl s=>P s
 | .inr r=>Q r
theorem Ans.loop {σ β:Type} {body:σ→Option (σ⊕β)} {s:σ} {Q:β→Prop} (P:Nat→σ→Prop) (n:Nat) (h0:P 0 s)
  (h:∀ k s,k≤n→P k s→Ans (body s) (Nxt (fun s'=>k<n∧P (k+1) s') Q)):Ans (loopM body s) Q:=by
 refine loopM_from P Q n h0 fun k s hk hP=>?_
 obtain ⟨o,h1,h2⟩:=h k s hk hP
 cases o with
 | inl s'=>exact .inl ⟨s',h2.1,h1,h2.2⟩
 | inr r=>exact .inr ⟨r,h1,h2⟩
theorem ltI {a b:Int} (h:a<b):ltM a b=true:=decide_eq_true h
theorem geI {a b:Int} (h:b≤a):ltM a b=false:=decide_eq_false (by omega)
theorem leI {a b:Int} (h:a≤b):leM a b=true:=decide_eq_true h
theorem gtI {a b:Int} (h:b<a):leM a b=false:=decide_eq_false (by omega)
theorem eqI {a b:Int} (h:a=b):eqM a b=true:=decide_eq_true h
theorem neI {a b:Int} (h:a≠b):eqM a b=false:=decide_eq_false h
theorem notT:notM true=false:=rfl
theorem notF:notM false=true:=rfl
theorem orT (b:Bool):orM true b=true:=rfl
theorem orF (b:Bool):orM false b=b:=rfl
theorem andT (b:Bool):andM true b=b:=rfl
theorem andF (b:Bool):andM false b=false:=rfl
def pk (c n:Int):Int:=(if c<0 then -(c+1) else c) % n
theorem pk_lo {c n:Int} (h:0<n):0≤pk c n:=Int.emod_nonneg _ (by omega)
theorem pk_hi {c n:Int} (h:0<n):pk c n<n:=Int.emod_lt_of_pos _ h
theorem remM_of {a b:Int} (ha:0≤a) (hb:0<b):remM a b=some (a % b):=by
 unfold remM
 rw [decide_eq_false (by omega)]
 show some (a.tmod b)=some (a % b)
 rw [Int.tmod_eq_emod_of_nonneg ha]
theorem divM_pos {k:IntKind} {a b:Int} (hb:b≠0):divM k a b=some (k.wrap (a.tdiv b)):=by
 unfold divM
 rw [decide_eq_false hb]
theorem pk_text {c n:Int} (hc:IntKind.i64.has c) (hn:0<n) :
  Option.bind (bif ltM c (0:Int) then some (IntKind.wrap IntKind.i64 (negM (IntKind.wrap IntKind.i64 (c+(1:Int))))) else some c) (fun (o:Int)=>Option.bind (remM o n) fun (r:Int)=>some r)=some (pk c n):=by
 have hc':-9223372036854775808≤c∧c≤9223372036854775807:=hc
 unfold pk
 by_cases h:c<0
 ·rw [ltI h,cond_true,Option.bind_some,if_pos h,wrap_in (n:=c+1) (by omega) (by omega)]
  unfold negM
  rw [wrap_in (by omega) (by omega),remM_of (by omega) hn]
  rfl
 ·rw [geI (by omega),cond_false,Option.bind_some,if_neg h,remM_of (by omega) hn]
  rfl
theorem row_idxI {α:Type} {m:Nat} {g:Nat→α} {i:Int} (h0:0≤i) (h:i<m):idxM (row m g) i=some (g i.toNat):=by
 obtain ⟨k,rfl⟩:=Int.eq_ofNat_of_zero_le h0
 exact row_idx (by omega)
theorem app_row {α:Type} {b m:Nat} {g:Nat→α} (hb:(m+1)*b≤140737488355328):appM b (row m g) [g m]=some (row (m+1) g):=by
 rw [appM_of (by rw [row_length];simpa using hb),row_succ]
theorem app_rowOf {α:Type} {b m:Nat} {g:Nat→α} {y:α} (hy:y=g m) (hb:(m+1)*b≤140737488355328):appM b (row m g) [y]=some (row (m+1) g):=by
 rw [hy,app_row hb]
end Go.PE
namespace Go.Proofs.YthfgccfaildmfaaGreatDoor
open Go Go.Abs Go.PE
open Ord (Rel)
theorem count_from {σ β:Type} {body:Int×σ→Option ((Int×σ)⊕β)} (g:Nat→σ) (n:Nat) {r:β} {s:σ} (h0:s=g 0) (h:∀ k,k<n→body ((k:Int),g k)=some (.inl ((k:Int)+1,g (k+1)))) (he:body ((n:Int),g n)=some (.inr r)) :
  loopM body ((0:Int),s)=some r:=by subst h0;exact count_loop g n h he
def bo:Nat→(Nat→Bool)→Nat
 | 0,_=>0
 | n+1,f=>bo n f ||| (if f n then 2 ^ n else 0)
theorem bo_bit (f:Nat→Bool) (i:Nat):∀ n,(bo n f).testBit i=(decide (i<n)&&f i)
 | 0=>by simp [bo]
 | n+1=>by
  unfold bo
  rw [Nat.testBit_or,bo_bit f i n]
  by_cases h:i=n
  ·subst h
   cases hf:f i
   ·simp
   ·rw [if_pos rfl,Nat.testBit_two_pow];simp
  ·have e:(if f n=true then 2 ^ n else 0:Nat).testBit i=false:=by
    split
    ·rw [Nat.testBit_two_pow];simp;omega
    ·simp
   rw [e,Bool.or_false]
   by_cases h2:i<n
   ·have:i<n+1:=by omega
    simp [h2,this]
   ·have:¬ i<n+1:=by omega
    simp [h2,this]
theorem bo_lt (n:Nat) (f:Nat→Bool):bo n f<2 ^ n:=by
 refine Nat.lt_pow_two_of_testBit _ fun i hi=>?_
 rw [bo_bit]
 have:¬ i<n:=by omega
 simp [this]
theorem bo_eq {n x:Nat} {f:Nat→Bool} (h:∀ i,x.testBit i=(decide (i<n)&&f i)):x=bo n f:=by
 refine Nat.eq_of_testBit_eq fun i=>?_
 rw [h,bo_bit]
def b8 (f:Nat→Bool):Int:=(bo 8 f:Nat)
theorem b8_congr {f g:Nat→Bool} (h:∀ i,i<8→f i=g i):b8 f=b8 g:=by
 unfold b8
 congr 1
 refine bo_eq fun i=>?_
 rw [bo_bit]
 by_cases hi:i<8
 ·rw [h i hi]
 ·simp [hi]
theorem wrap_b8 {x:Nat} (h:x<256):IntKind.wrap .i64 (x:Int)=(x:Int):=wrap_in (by omega) (by omega)
theorem ofInt_small {x:Nat}:BitVec.ofInt (IntKind.bits .i64) (x:Int)=BitVec.ofNat 64 x:=by
 show BitVec.ofInt 64 (x:Int)=_
 exact BitVec.ofInt_natCast 64 x
theorem or_b8 (f g:Nat→Bool):bitM BinOp.or .i64 (b8 f) (b8 g)=b8 fun i=>f i||g i:=by
 unfold bitM b8
 rw [ofInt_small,ofInt_small]
 have e:(BitVec.ofNat 64 (bo 8 f) ||| BitVec.ofNat 64 (bo 8 g)).toNat=bo 8 fun i=>f i||g i:=by
  refine bo_eq fun i=>?_
  rw [BitVec.testBit_toNat,BitVec.getLsbD_or,BitVec.getLsbD_ofNat,BitVec.getLsbD_ofNat,bo_bit,bo_bit]
  by_cases h:i<8
  ·have:i<64:=by omega
   simp [h,this]
  ·simp [h]
 show IntKind.wrap .i64 ((BitVec.ofNat 64 (bo 8 f) ||| BitVec.ofNat 64 (bo 8 g)).toNat:Int)=_
 rw [e]
 exact wrap_b8 (bo_lt 8 _)
theorem andNot_b8 (f g:Nat→Bool):bitM BinOp.andNot .i64 (b8 f) (b8 g)=b8 fun i=>f i&&!g i:=by
 unfold bitM b8
 rw [ofInt_small,ofInt_small]
 have e:(BitVec.ofNat 64 (bo 8 f) &&& ~~~BitVec.ofNat 64 (bo 8 g)).toNat=bo 8 fun i=>f i&&!g i:=by
  refine bo_eq fun i=>?_
  rw [BitVec.testBit_toNat,BitVec.getLsbD_and,BitVec.getLsbD_not,BitVec.getLsbD_ofNat,BitVec.getLsbD_ofNat,bo_bit,bo_bit]
  by_cases h:i<8
  ·have:i<64:=by omega
   simp [h,this]
  ·simp [h]
 show IntKind.wrap .i64 ((BitVec.ofNat 64 (bo 8 f) &&& ~~~BitVec.ofNat 64 (bo 8 g)).toNat:Int)=_
 rw [e]
 exact wrap_b8 (bo_lt 8 _)
theorem shr_b8 (f:Nat→Bool) {k:Nat} (hk:k<8):shrM .i64 (b8 f) (k:Int)=some ((bo 8 f >>> k:Nat):Int):=by
 unfold shrM b8
 rw [decide_eq_false (by omega)]
 dsimp only
 have e:min (k:Int).toNat (IntKind.bits .i64)=k:=by
  show min (k:Int).toNat 64=k
  omega
 rw [e,Nat.shiftRight_eq_div_pow]
 congr 1
 rw [Int.fdiv_eq_ediv_of_nonneg _ (Int.pow_nonneg (by omega))]
 norm_cast
theorem has_b8 (f:Nat→Bool) (k:Nat):eqM (bitM BinOp.and .i64 ((bo 8 f >>> k:Nat):Int) 1) 1=(decide (k<8)&&f k):=by
 have e:bitM BinOp.and .i64 ((bo 8 f >>> k:Nat):Int) 1=(((bo 8 f >>> k) &&& 1:Nat):Int):=by
  unfold bitM
  rw [ofInt_small,show (1:Int)=((1:Nat):Int) from rfl,ofInt_small]
  have hl:bo 8 f >>> k<2 ^ 64:=by
   have:=bo_lt 8 f
   have h2:=Nat.shiftRight_le (bo 8 f) k
   have:(2:Nat) ^ 8≤2 ^ 64:=by decide
   omega
  have e2:(BitVec.ofNat 64 (bo 8 f >>> k) &&& BitVec.ofNat 64 1).toNat=(bo 8 f >>> k) &&& 1:=by
   rw [BitVec.toNat_and,BitVec.toNat_ofNat,BitVec.toNat_ofNat,Nat.mod_eq_of_lt hl]
  show IntKind.wrap .i64 ((BitVec.ofNat 64 (bo 8 f >>> k) &&& BitVec.ofNat 64 1).toNat:Int)=_
  rw [e2]
  have:(bo 8 f >>> k) &&& 1≤1:=Nat.and_le_right
  exact wrap_b8 (by omega)
 rw [e]
 have hb:=bo_bit f k 8
 rw [← hb,Nat.and_one_is_mod]
 unfold Nat.testBit
 rw [Nat.and_comm,Nat.and_one_is_mod]
 have h2:=Nat.mod_two_eq_zero_or_one (bo 8 f >>> k)
 rcases h2 with h | h<;>rw [h]<;>rfl
theorem shl_one {k:Nat} (hk:k<8):shlM .i64 1 (k:Int)=some (b8 fun i=>decide (i=k)):=by
 unfold shlM
 rw [decide_eq_false (by omega)]
 dsimp only
 have e:min (k:Int).toNat (IntKind.bits .i64)=k:=by
  show min (k:Int).toNat 64=k
  omega
 have e2:(2 ^ k:Nat)=bo 8 fun i=>decide (i=k):=by
  refine bo_eq fun i=>?_
  rw [Nat.testBit_two_pow]
  by_cases h:i=k
  ·subst h;simp [hk]
  ·have:¬ k=i:=fun h'=>h h'.symm
   simp [h,this]
 rw [e,Int.one_mul]
 have e3:(2:Int) ^ k=((2 ^ k:Nat):Int):=by norm_cast
 rw [e3,e2]
 unfold b8
 rw [wrap_b8 (bo_lt 8 _)]
def tb (d:Rel):List Int:=row 8 fun b=>b8 fun a=>d a b
theorem tb_len (d:Rel):(tb d).length=8:=row_length _ _
theorem tb_idx (d:Rel) {b:Nat} (h:b<8):idxM (tb d) (b:Int)=some (b8 fun a=>d a b):=row_idx h
theorem tb_nth (d:Rel) {b:Nat} (h:b<8):nthD (tb d) b 0=b8 fun a=>d a b:=by
 unfold nthD
 rw [List.getD_eq_getElem?_getD,show (tb d)[b]? = some _ from row_get h]
 rfl
theorem tb_congr {d d':Rel} (h:∀ a b,a<8→b<8→d a b=d' a b):tb d=tb d':=row_congr fun b hb=>b8_congr fun a ha=>h a b ha hb
theorem tb_set (d:Rel) {b:Nat} (h:b<8) {f:Int→Option Int} (g:Nat→Bool) (hf:f (b8 fun a=>d a b)=some (b8 g)):setM (tb d) (b:Int) f=some (tb fun a b'=>if b'=b then g a else d a b'):=by
 have hg:(tb d)[b]'(by rw [tb_len];exact h)=b8 fun a=>d a b:=by
  have:=row_get (g:=fun b=>b8 fun a=>d a b) h
  rw [List.getElem?_eq_some_iff] at this
  obtain ⟨_,e⟩:=this
  exact e
 rw [setM_of (i:=(b:Int)) (y:=b8 g) (by omega) (by rw [tb_len];omega) (by show f ((tb d)[b]'_)=_;rw [hg,hf])]
 congr 1
 show (row 8 _).set b _=_
 rw [row_set h]
 refine row_congr fun b' hb'=>?_
 by_cases h':b'=b
 ·subst h';simp
 ·rw [if_neg h'];exact b8_congr fun a ha=>by show _=(if b'=b then g a else d a b');rw [if_neg h']
theorem tb_setc (d:Rel) {b:Nat} (h:b<8) (g:Nat→Bool):setM (tb d) (b:Int) (fun _=>some (b8 g))=some (tb fun a b'=>if b'=b then g a else d a b'):=tb_set d h g rfl
theorem tb_list (d:Rel):[b8 fun a=>d a 0,b8 fun a=>d a 1,b8 fun a=>d a 2,b8 fun a=>d a 3,b8 fun a=>d a 4,b8 fun a=>d a 5,b8 fun a=>d a 6,b8 fun a=>d a 7]=tb d:=rfl
theorem tb_nil:([0,0,0,0,0,0,0,0]:List Int)=tb fun _ _=>false:=by
 rw [← tb_list];rfl
theorem tb_nths (d:Rel):[nthD (tb d) (nat_lit 0) (0:Int),nthD (tb d) (nat_lit 1) (0:Int),nthD (tb d) (nat_lit 2) (0:Int),nthD (tb d) (nat_lit 3) (0:Int),nthD (tb d) (nat_lit 4) (0:Int),nthD (tb d) (nat_lit 5) (0:Int),nthD (tb d) (nat_lit 6) (0:Int),nthD (tb d) (nat_lit 7) (0:Int)]=tb d:=rfl
end Go.Proofs.YthfgccfaildmfaaGreatDoor
namespace Go.Proofs.YthfgccfaildmfaaGreatDoor
open Go Go.Abs Go.PE
set_option maxRecDepth 100000
section
variable {S:Cells} {w:World} {η:Eta}
theorem zi (k:IntKind):CM S w η (.d (.int k) (0:Int)) (.int k 0):=⟨rfl,VRep.int.2 ⟨rfl,by unfold IntKind.has;cases k<;>decide⟩⟩
theorem zb:CM S w η (.d .bool false) (.bool false):=⟨rfl,VRep.bool.2 rfl⟩
theorem zs:CM S w η (.d .str ([]:List UInt8)) (.string ⟨#[]⟩):=⟨rfl,VRep.str.2 ⟨rfl,Nat.zero_le _⟩⟩
end
abbrev tI:Ty:=.int .i64
abbrev tF:TI:=⟨false,1,[.l .nilF],none,.fn⟩
theorem oF {P:Program} {k:TypeId} {a b c} (h1:∀ w,(isAgg k).run P w=.ok false w) (h2:∀ w,(Go.sizeOf k).run P w=.ok 1 w) (h3:∀ w,(zeroValue k).run P w=.ok .nilFunc w) (h4:∀ w,(underlying k).run P w=.ok (.func a b c) w):TIok P k tF :=
 ⟨h1,h2,⟨_,h3,⟨[Value.nilFunc],rfl,fun S w η=>.cons (rfl) (.nil)⟩,(fun T h=>by cases h)⟩,(fun T h=>by cases h),⟨_,_,_,h4⟩⟩
abbrev ty_putlogref22_Numbers:Ty:=.pair (.int .i64) (.pair (.list (.pair (.int .i64) (.int .i64))) (.pair (.int .i64) (.pair (.int .i64) (.pair (.list (.int .i64)) (.pair (.list (.pair (.int .i64) (.pair (.int .i64) (.pair (.int .i64) (.pair (.int .i64) (.int .i64)))))) (.pair (.int .i64) (.pair (.int .i64) (.int .i64))))))))
abbrev ty_api_Order:Ty:=.pair (.int .i64) (.list (.pair (.int .i64) (.int .i64)))
abbrev ty_api_Clue:Ty:=.pair (.int .i64) (.pair (.int .i64) (.pair (.int .i64) (.pair (.int .i64) (.int .i64))))
abbrev ty_api_Dating:Ty:=.pair (ty_api_Order) (.list (ty_api_Clue))
abbrev ty_api_Spell:Ty:=.pair (.int .i64) (.int .i64)
abbrev ty_api_Bound:Ty:=.pair (.int .i64) (.pair (.int .i64) (.int .i64))
abbrev ty_api_Between:Ty:=.pair (.int .i64) (.list (ty_api_Bound))
abbrev ty_api_Territory:Ty:=.pair (.int .i64) (.int .i64)
abbrev ty_api_Phrase:Ty:=.pair (.int .i64) (.pair (.int .i64) (.pair (.int .i64) (.pair (.int .i64) (.pair (.int .i64) (.pair (.int .i64) (.int .i64))))))
abbrev ty_api_Rings:Ty:=.pair (.int .i64) (.list (.int .i64))
abbrev ty_dating_clue:Ty:=.pair (.int .i64) (.pair (.int .i64) (.pair (.int .i64) (.pair (.int .i64) (.int .i64))))
abbrev ty_api_Reign:Ty:=.pair (.int .i64) (ty_api_Spell)
abbrev ty_api_Date:Ty:=.pair (.int .i64) (.pair (.int .i64) (.int .i64))
abbrev ty_api_Spot:Ty:=.pair (.int .i64) (.int .i64)
abbrev ty_calendar_feast:Ty:=.pair (.str) (.pair (.int .i64) (.pair (.int .i64) (.int .i64)))
abbrev t2:TI:=⟨false,1,[.d (.int .i64) (0:Int)],some (.int .i64),.int .i64⟩
abbrev t3:TI:=⟨false,1,[.d (.int .i64) (0:Int)],some (.int .i64),.int .i64⟩
abbrev t4:TI:=⟨false,1,[.d .bool false],some (.bool),.bool⟩
abbrev t5:TI:=⟨false,1,[.d (.int .u8) (0:Int)],some (.int .u8),.int .u8⟩
abbrev t7:TI:=⟨true,4,[.d (.int .i64) (0:Int),.d (.int .i64) (0:Int),.d .bool false,.d (.int .u8) (0:Int)],some (.pair (.int .i64) (.pair (.int .i64) (.pair (.bool) (.int .u8)))),.other⟩
abbrev t9:TI:=⟨false,1,[.d .str ([]:List UInt8)],some (.str),.str⟩
abbrev t12:TI:=⟨false,1,[.d (.int .u64) (0:Int)],some (.int .u64),.int .u64⟩
abbrev t13:TI:=⟨true,2,[.d .str ([]:List UInt8),.d (.int .u64) (0:Int)],some (.pair (.str) (.int .u64)),.struct [(0,9,1),(1,12,1)]⟩
abbrev t15:TI:=⟨false,1,[.l .nilP],none,.ptr 270⟩
abbrev t16:TI:=⟨false,1,[.l .nilP],none,.ptr 273⟩
abbrev t17:TI:=⟨false,1,[.l .nilP],none,.ptr 282⟩
abbrev t18:TI:=⟨true,1,[.l .nilP],none,.struct [(0,17,1)]⟩
abbrev t20:TI:=⟨false,1,[.l .nilI],none,.other⟩
abbrev t21:TI:=⟨false,1,[.d (.int .i32) (0:Int)],some (.int .i32),.int .i32⟩
abbrev t22:TI:=⟨false,1,[.l .nilS],some (.list (.pair (.int .i64) (.int .i64))),.slice 70 16⟩
abbrev t23:TI:=⟨false,1,[.l .nilS],some (.list (.int .i64)),.slice 3 8⟩
abbrev t24:TI:=⟨false,1,[.l .nilS],some (.list (.pair (.int .i64) (.pair (.int .i64) (.pair (.int .i64) (.pair (.int .i64) (.int .i64)))))),.slice 55 40⟩
abbrev t25:TI:=⟨true,3,[.d (.int .i64) (0:Int),.d (.int .i64) (0:Int),.d (.int .i64) (0:Int)],some (.pair (.int .i64) (.pair (.int .i64) (.int .i64))),.array 3 3⟩
abbrev t26:TI:=⟨true,9,[.d (.int .i64) (0:Int),.l .nilS,.d (.int .i64) (0:Int),.d (.int .i64) (0:Int),.l .nilS,.l .nilS,.d (.int .i64) (0:Int),.d (.int .i64) (0:Int),.d (.int .i64) (0:Int)],some (.pair (.int .i64) (.pair (.list (.pair (.int .i64) (.int .i64))) (.pair (.int .i64) (.pair (.int .i64) (.pair (.list (.int .i64)) (.pair (.list (.pair (.int .i64) (.pair (.int .i64) (.pair (.int .i64) (.pair (.int .i64) (.int .i64)))))) (.pair (.int .i64) (.pair (.int .i64) (.int .i64))))))))),.struct [(0,3,1),(1,22,1),(2,3,1),(3,3,1),(4,23,1),(5,24,1),(6,25,3)]⟩
abbrev t27:TI:=⟨true,9,[.d (.int .i64) (0:Int),.l .nilS,.d (.int .i64) (0:Int),.d (.int .i64) (0:Int),.l .nilS,.l .nilS,.d (.int .i64) (0:Int),.d (.int .i64) (0:Int),.d (.int .i64) (0:Int)],some (ty_putlogref22_Numbers),.struct [(0,3,1),(1,22,1),(2,3,1),(3,3,1),(4,23,1),(5,24,1),(6,25,3)]⟩
abbrev t28:TI:=⟨true,2,[.d (.int .i64) (0:Int),.l .nilS],some (.pair (.int .i64) (.list (.pair (.int .i64) (.int .i64)))),.struct [(0,3,1),(1,22,1)]⟩
abbrev t29:TI:=⟨true,2,[.d (.int .i64) (0:Int),.l .nilS],some (ty_api_Order),.struct [(0,3,1),(1,22,1)]⟩
abbrev t30:TI:=⟨false,1,[.l .nilS],some (.list (ty_api_Clue)),.slice 51 40⟩
abbrev t31:TI:=⟨true,3,[.d (.int .i64) (0:Int),.l .nilS,.l .nilS],some (.pair (ty_api_Order) (.list (ty_api_Clue))),.struct [(0,29,2),(2,30,1)]⟩
abbrev t32:TI:=⟨true,3,[.d (.int .i64) (0:Int),.l .nilS,.l .nilS],some (ty_api_Dating),.struct [(0,29,2),(2,30,1)]⟩
abbrev t42:TI:=⟨false,1,[.l .nilS],some (.list (ty_api_Spell)),.slice 47 16⟩
abbrev t43:TI:=⟨false,1,[.d (.int .i64) (0:Int)],some (.int .i64),.int .i64⟩
abbrev t46:TI:=⟨true,2,[.d (.int .i64) (0:Int),.d (.int .i64) (0:Int)],some (.pair (.int .i64) (.int .i64)),.struct [(0,3,1),(1,3,1)]⟩
abbrev t47:TI:=⟨true,2,[.d (.int .i64) (0:Int),.d (.int .i64) (0:Int)],some (ty_api_Spell),.struct [(0,3,1),(1,3,1)]⟩
abbrev t50:TI:=⟨true,5,[.d (.int .i64) (0:Int),.d (.int .i64) (0:Int),.d (.int .i64) (0:Int),.d (.int .i64) (0:Int),.d (.int .i64) (0:Int)],some (.pair (.int .i64) (.pair (.int .i64) (.pair (.int .i64) (.pair (.int .i64) (.int .i64))))),.struct [(0,3,1),(1,3,1),(2,3,1),(3,3,1),(4,3,1)]⟩
abbrev t51:TI:=⟨true,5,[.d (.int .i64) (0:Int),.d (.int .i64) (0:Int),.d (.int .i64) (0:Int),.d (.int .i64) (0:Int),.d (.int .i64) (0:Int)],some (ty_api_Clue),.struct [(0,3,1),(1,3,1),(2,3,1),(3,3,1),(4,3,1)]⟩
abbrev t55:TI:=⟨true,5,[.d (.int .i64) (0:Int),.d (.int .i64) (0:Int),.d (.int .i64) (0:Int),.d (.int .i64) (0:Int),.d (.int .i64) (0:Int)],some (.pair (.int .i64) (.pair (.int .i64) (.pair (.int .i64) (.pair (.int .i64) (.int .i64))))),.array 5 3⟩
abbrev t59:TI:=⟨false,1,[.l .nilS],some (.list (ty_api_Bound)),.slice 111 24⟩
abbrev t60:TI:=⟨true,2,[.d (.int .i64) (0:Int),.l .nilS],some (.pair (.int .i64) (.list (ty_api_Bound))),.struct [(0,3,1),(1,59,1)]⟩
abbrev t61:TI:=⟨true,2,[.d (.int .i64) (0:Int),.l .nilS],some (ty_api_Between),.struct [(0,3,1),(1,59,1)]⟩
abbrev t64:TI:=⟨false,1,[.l .nilS],some (.list (.list (.int .i64))),.slice 23 24⟩
abbrev t69:TI:=⟨false,1,[.l .nilS],some (.list (.bool)),.slice 4 1⟩
abbrev t70:TI:=⟨true,2,[.d (.int .i64) (0:Int),.d (.int .i64) (0:Int)],some (.pair (.int .i64) (.int .i64)),.array 2 3⟩
abbrev t82:TI:=⟨true,2,[.d (.int .i64) (0:Int),.d (.int .i64) (0:Int)],some (.pair (.int .i64) (.int .i64)),.struct [(0,3,1),(1,3,1)]⟩
abbrev t83:TI:=⟨true,2,[.d (.int .i64) (0:Int),.d (.int .i64) (0:Int)],some (ty_api_Territory),.struct [(0,3,1),(1,3,1)]⟩
abbrev t84:TI:=⟨true,7,[.d (.int .i64) (0:Int),.d (.int .i64) (0:Int),.d (.int .i64) (0:Int),.d (.int .i64) (0:Int),.d (.int .i64) (0:Int),.d (.int .i64) (0:Int),.d (.int .i64) (0:Int)],some (.pair (.int .i64) (.pair (.int .i64) (.pair (.int .i64) (.pair (.int .i64) (.pair (.int .i64) (.pair (.int .i64) (.int .i64))))))),.struct [(0,3,1),(1,3,1),(2,3,1),(3,3,1),(4,3,1),(5,3,1),(6,3,1)]⟩
abbrev t85:TI:=⟨true,7,[.d (.int .i64) (0:Int),.d (.int .i64) (0:Int),.d (.int .i64) (0:Int),.d (.int .i64) (0:Int),.d (.int .i64) (0:Int),.d (.int .i64) (0:Int),.d (.int .i64) (0:Int)],some (ty_api_Phrase),.struct [(0,3,1),(1,3,1),(2,3,1),(3,3,1),(4,3,1),(5,3,1),(6,3,1)]⟩
abbrev t86:TI:=⟨true,2,[.d (.int .i64) (0:Int),.l .nilS],some (.pair (.int .i64) (.list (.int .i64))),.struct [(0,3,1),(1,23,1)]⟩
abbrev t87:TI:=⟨true,2,[.d (.int .i64) (0:Int),.l .nilS],some (ty_api_Rings),.struct [(0,3,1),(1,23,1)]⟩
abbrev t93:TI:=⟨false,1,[.l .nilP],none,.ptr 51⟩
abbrev t106:TI:=⟨true,5,[.d (.int .i64) (0:Int),.d (.int .i64) (0:Int),.d (.int .i64) (0:Int),.d (.int .i64) (0:Int),.d (.int .i64) (0:Int)],some (ty_dating_clue),.struct [(0,3,1),(1,3,1),(2,3,1),(3,3,1),(4,3,1)]⟩
abbrev t110:TI:=⟨true,3,[.d (.int .i64) (0:Int),.d (.int .i64) (0:Int),.d (.int .i64) (0:Int)],some (.pair (.int .i64) (.pair (.int .i64) (.int .i64))),.struct [(0,3,1),(1,3,1),(2,3,1)]⟩
abbrev t111:TI:=⟨true,3,[.d (.int .i64) (0:Int),.d (.int .i64) (0:Int),.d (.int .i64) (0:Int)],some (ty_api_Bound),.struct [(0,3,1),(1,3,1),(2,3,1)]⟩
abbrev t119:TI:=⟨true,8,[.d (.int .i64) (0:Int),.d (.int .i64) (0:Int),.d (.int .i64) (0:Int),.d (.int .i64) (0:Int),.d (.int .i64) (0:Int),.d (.int .i64) (0:Int),.d (.int .i64) (0:Int),.d (.int .i64) (0:Int)],some (.pair (.int .i64) (.pair (.int .i64) (.pair (.int .i64) (.pair (.int .i64) (.pair (.int .i64) (.pair (.int .i64) (.pair (.int .i64) (.int .i64)))))))),.array 8 3⟩
abbrev t120:TI:=⟨true,8,[.d (.int .i64) (0:Int),.d (.int .i64) (0:Int),.d (.int .i64) (0:Int),.d (.int .i64) (0:Int),.d (.int .i64) (0:Int),.d (.int .i64) (0:Int),.d (.int .i64) (0:Int),.d (.int .i64) (0:Int)],some (.pair (.int .i64) (.pair (.int .i64) (.pair (.int .i64) (.pair (.int .i64) (.pair (.int .i64) (.pair (.int .i64) (.pair (.int .i64) (.int .i64)))))))),.array 8 3⟩
abbrev t124:TI:=⟨false,1,[.l .nilS],some (.list (ty_api_Reign)),.slice 163 24⟩
abbrev t126:TI:=⟨true,3,[.d (.int .i64) (0:Int),.d (.int .i64) (0:Int),.d (.int .i64) (0:Int)],some (.pair (.int .i64) (.pair (.int .i64) (.int .i64))),.struct [(0,3,1),(1,3,1),(2,3,1)]⟩
abbrev t127:TI:=⟨true,3,[.d (.int .i64) (0:Int),.d (.int .i64) (0:Int),.d (.int .i64) (0:Int)],some (ty_api_Date),.struct [(0,3,1),(1,3,1),(2,3,1)]⟩
abbrev t135:TI:=⟨true,8,[.d .bool false,.d .bool false,.d .bool false,.d .bool false,.d .bool false,.d .bool false,.d .bool false,.d .bool false],some (.pair (.bool) (.pair (.bool) (.pair (.bool) (.pair (.bool) (.pair (.bool) (.pair (.bool) (.pair (.bool) (.bool)))))))),.array 8 4⟩
abbrev t136:TI:=⟨true,64,[.d .bool false,.d .bool false,.d .bool false,.d .bool false,.d .bool false,.d .bool false,.d .bool false,.d .bool false,.d .bool false,.d .bool false,.d .bool false,.d .bool false,.d .bool false,.d .bool false,.d .bool false,.d .bool false,.d .bool false,.d .bool false,.d .bool false,.d .bool false,.d .bool false,.d .bool false,.d .bool false,.d .bool false,.d .bool false,.d .bool false,.d .bool false,.d .bool false,.d .bool false,.d .bool false,.d .bool false,.d .bool false,.d .bool false,.d .bool false,.d .bool false,.d .bool false,.d .bool false,.d .bool false,.d .bool false,.d .bool false,.d .bool false,.d .bool false,.d .bool false,.d .bool false,.d .bool false,.d .bool false,.d .bool false,.d .bool false,.d .bool false,.d .bool false,.d .bool false,.d .bool false,.d .bool false,.d .bool false,.d .bool false,.d .bool false,.d .bool false,.d .bool false,.d .bool false,.d .bool false,.d .bool false,.d .bool false,.d .bool false,.d .bool false],some (.pair (.pair (.bool) (.pair (.bool) (.pair (.bool) (.pair (.bool) (.pair (.bool) (.pair (.bool) (.pair (.bool) (.bool)))))))) (.pair (.pair (.bool) (.pair (.bool) (.pair (.bool) (.pair (.bool) (.pair (.bool) (.pair (.bool) (.pair (.bool) (.bool)))))))) (.pair (.pair (.bool) (.pair (.bool) (.pair (.bool) (.pair (.bool) (.pair (.bool) (.pair (.bool) (.pair (.bool) (.bool)))))))) (.pair (.pair (.bool) (.pair (.bool) (.pair (.bool) (.pair (.bool) (.pair (.bool) (.pair (.bool) (.pair (.bool) (.bool)))))))) (.pair (.pair (.bool) (.pair (.bool) (.pair (.bool) (.pair (.bool) (.pair (.bool) (.pair (.bool) (.pair (.bool) (.bool)))))))) (.pair (.pair (.bool) (.pair (.bool) (.pair (.bool) (.pair (.bool) (.pair (.bool) (.pair (.bool) (.pair (.bool) (.bool)))))))) (.pair (.pair (.bool) (.pair (.bool) (.pair (.bool) (.pair (.bool) (.pair (.bool) (.pair (.bool) (.pair (.bool) (.bool)))))))) (.pair (.bool) (.pair (.bool) (.pair (.bool) (.pair (.bool) (.pair (.bool) (.pair (.bool) (.pair (.bool) (.bool))))))))))))))),.array 8 135⟩
abbrev t137:TI:=⟨true,64,[.d .bool false,.d .bool false,.d .bool false,.d .bool false,.d .bool false,.d .bool false,.d .bool false,.d .bool false,.d .bool false,.d .bool false,.d .bool false,.d .bool false,.d .bool false,.d .bool false,.d .bool false,.d .bool false,.d .bool false,.d .bool false,.d .bool false,.d .bool false,.d .bool false,.d .bool false,.d .bool false,.d .bool false,.d .bool false,.d .bool false,.d .bool false,.d .bool false,.d .bool false,.d .bool false,.d .bool false,.d .bool false,.d .bool false,.d .bool false,.d .bool false,.d .bool false,.d .bool false,.d .bool false,.d .bool false,.d .bool false,.d .bool false,.d .bool false,.d .bool false,.d .bool false,.d .bool false,.d .bool false,.d .bool false,.d .bool false,.d .bool false,.d .bool false,.d .bool false,.d .bool false,.d .bool false,.d .bool false,.d .bool false,.d .bool false,.d .bool false,.d .bool false,.d .bool false,.d .bool false,.d .bool false,.d .bool false,.d .bool false,.d .bool false],some (.pair (.pair (.bool) (.pair (.bool) (.pair (.bool) (.pair (.bool) (.pair (.bool) (.pair (.bool) (.pair (.bool) (.bool)))))))) (.pair (.pair (.bool) (.pair (.bool) (.pair (.bool) (.pair (.bool) (.pair (.bool) (.pair (.bool) (.pair (.bool) (.bool)))))))) (.pair (.pair (.bool) (.pair (.bool) (.pair (.bool) (.pair (.bool) (.pair (.bool) (.pair (.bool) (.pair (.bool) (.bool)))))))) (.pair (.pair (.bool) (.pair (.bool) (.pair (.bool) (.pair (.bool) (.pair (.bool) (.pair (.bool) (.pair (.bool) (.bool)))))))) (.pair (.pair (.bool) (.pair (.bool) (.pair (.bool) (.pair (.bool) (.pair (.bool) (.pair (.bool) (.pair (.bool) (.bool)))))))) (.pair (.pair (.bool) (.pair (.bool) (.pair (.bool) (.pair (.bool) (.pair (.bool) (.pair (.bool) (.pair (.bool) (.bool)))))))) (.pair (.pair (.bool) (.pair (.bool) (.pair (.bool) (.pair (.bool) (.pair (.bool) (.pair (.bool) (.pair (.bool) (.bool)))))))) (.pair (.bool) (.pair (.bool) (.pair (.bool) (.pair (.bool) (.pair (.bool) (.pair (.bool) (.pair (.bool) (.bool))))))))))))))),.array 8 135⟩
abbrev t142:TI:=⟨false,1,[.l .nilS],some (.list (.list (.list (.int .i64)))),.slice 64 24⟩
abbrev t151:TI:=⟨false,1,[.l .nilK],none,.mapf⟩
abbrev t162:TI:=⟨true,3,[.d (.int .i64) (0:Int),.d (.int .i64) (0:Int),.d (.int .i64) (0:Int)],some (.pair (.int .i64) (ty_api_Spell)),.struct [(0,3,1),(1,47,2)]⟩
abbrev t163:TI:=⟨true,3,[.d (.int .i64) (0:Int),.d (.int .i64) (0:Int),.d (.int .i64) (0:Int)],some (ty_api_Reign),.struct [(0,3,1),(1,47,2)]⟩
abbrev t176:TI:=⟨false,1,[.l .nilS],some (.list (ty_api_Spot)),.slice 180 16⟩
abbrev t179:TI:=⟨true,2,[.d (.int .i64) (0:Int),.d (.int .i64) (0:Int)],some (.pair (.int .i64) (.int .i64)),.struct [(0,3,1),(1,3,1)]⟩
abbrev t180:TI:=⟨true,2,[.d (.int .i64) (0:Int),.d (.int .i64) (0:Int)],some (ty_api_Spot),.struct [(0,3,1),(1,3,1)]⟩
abbrev t191:TI:=⟨false,1,[.d (.int .u64) (0:Int)],some (.int .u64),.int .u64⟩
abbrev t194:TI:=⟨true,13,[.d (.int .i64) (0:Int),.d (.int .i64) (0:Int),.d (.int .i64) (0:Int),.d (.int .i64) (0:Int),.d (.int .i64) (0:Int),.d (.int .i64) (0:Int),.d (.int .i64) (0:Int),.d (.int .i64) (0:Int),.d (.int .i64) (0:Int),.d (.int .i64) (0:Int),.d (.int .i64) (0:Int),.d (.int .i64) (0:Int),.d (.int .i64) (0:Int)],none,.array 13 3⟩
abbrev t205:TI:=⟨false,1,[.d .bool false],some (.bool),.bool⟩
abbrev t214:TI:=⟨false,1,[.d (.int .i64) (0:Int)],some (.int .i64),.int .i64⟩
abbrev t223:TI:=⟨false,1,[.d (.int .u32) (0:Int)],some (.int .u32),.int .u32⟩
abbrev t225:TI:=⟨false,1,[.d (.int .u64) (0:Int)],some (.int .u64),.int .u64⟩
abbrev t229:TI:=⟨true,4,[.d .str ([]:List UInt8),.d (.int .i64) (0:Int),.d (.int .i64) (0:Int),.d (.int .i64) (0:Int)],some (.pair (.str) (.pair (.int .i64) (.pair (.int .i64) (.int .i64)))),.struct [(0,9,1),(1,3,1),(2,3,1),(3,3,1)]⟩
abbrev t230:TI:=⟨true,4,[.d .str ([]:List UInt8),.d (.int .i64) (0:Int),.d (.int .i64) (0:Int),.d (.int .i64) (0:Int)],some (ty_calendar_feast),.struct [(0,9,1),(1,3,1),(2,3,1),(3,3,1)]⟩
abbrev t231:TI:=⟨false,1,[.l .nilS],some (.list (ty_calendar_feast)),.slice 230 40⟩
abbrev t232:TI:=⟨false,1,[.l .nilS],some (.list (.bool)),.slice 205 1⟩
abbrev t240:TI:=⟨false,1,[.d (.int .u64) (0:Int)],some (.int .u64),.int .u64⟩
abbrev t244:TI:=⟨false,1,[.l .nilP],none,.ptr 3⟩
abbrev t260:TI:=⟨false,1,[.l .nilP],none,.ptr 240⟩
abbrev t269:TI:=⟨true,4,[.l .nilP,.l .nilP,.l .nilP,.d .str ([]:List UInt8)],none,.struct [(0,17,1),(1,17,1),(2,17,1),(3,9,1)]⟩
abbrev t272:TI:=⟨true,0,[],none,.other⟩
abbrev t278:TI:=⟨false,1,[.l .nilP],none,.ptr 5⟩
abbrev t281:TI:=⟨true,11,[.d (.int .u64) (0:Int),.d (.int .u64) (0:Int),.d (.int .u32) (0:Int),.d (.int .u8) (0:Int),.d (.int .u8) (0:Int),.d (.int .u8) (0:Int),.d (.int .u8) (0:Int),.l .nilF,.l .nilP,.d (.int .i32) (0:Int),.d (.int .i32) (0:Int)],none,.other⟩
def tyTab:List (TypeId×TI):=[(1,tF),(2,t2),(3,t3),(4,t4),(5,t5),(7,t7),(9,t9),(12,t12),(13,t13),(15,t15),(16,t16),(17,t17),(18,t18),(20,t20),(21,t21),(22,t22),(23,t23),(24,t24),(25,t25),(26,t26),(27,t27),(28,t28),(29,t29),(30,t30),(31,t31),(32,t32),(36,tF),(42,t42),(43,t43),(46,t46),(47,t47),(50,t50),(51,t51),(55,t55),(59,t59),(60,t60),(61,t61),(64,t64),(69,t69),(70,t70),(82,t82),(83,t83),(84,t84),(85,t85),(86,t86),(87,t87),(93,t93),(100,tF),(103,tF),(106,t106),(107,tF),(110,t110),(111,t111),(119,t119),(120,t120),(124,t124),(126,t126),(127,t127),(135,t135),(136,t136),(137,t137),(142,t142),(144,tF),(147,tF),(148,tF),(149,tF),(151,t151),(157,tF),(162,t162),(163,t163),(164,tF),(170,tF),(172,tF),(176,t176),(179,t179),(180,t180),(185,tF),(191,t191),(193,tF),(194,t194),(201,tF),(204,tF),(205,t205),(212,tF),(214,t214),(218,tF),(223,t223),(225,t225),(229,t229),(230,t230),(231,t231),(232,t232),(237,tF),(240,t240),(244,t244),(253,tF),(260,t260),(269,t269),(272,t272),(278,t278),(281,t281)]
theorem ti2:TIok Tryz.prog 2 t2 :=
 ⟨Tryz.isAgg2,Tryz.sizeOf2,⟨_,Tryz.zeroValue2,⟨[Value.int IntKind.i64 0],rfl,fun S w η=>.cons (zi _) (.nil)⟩,(fun T h=>by cases h;rfl)⟩,(fun T h=>by cases h;exact ⟨rfl,rfl⟩),Tryz.runUnderlying2⟩
theorem ti3:TIok Tryz.prog 3 t3 :=
 ⟨Tryz.isAgg3,Tryz.sizeOf3,⟨_,Tryz.zeroValue3,⟨[Value.int IntKind.i64 0],rfl,fun S w η=>.cons (zi _) (.nil)⟩,(fun T h=>by cases h;rfl)⟩,(fun T h=>by cases h;exact ⟨rfl,rfl⟩),Tryz.runUnderlying3⟩
theorem ti4:TIok Tryz.prog 4 t4 :=
 ⟨Tryz.isAgg4,Tryz.sizeOf4,⟨_,Tryz.zeroValue4,⟨[Value.bool false],rfl,fun S w η=>.cons (zb) (.nil)⟩,(fun T h=>by cases h;rfl)⟩,(fun T h=>by cases h;exact ⟨rfl,rfl⟩),Tryz.runUnderlying4⟩
theorem ti5:TIok Tryz.prog 5 t5 :=
 ⟨Tryz.isAgg5,Tryz.sizeOf5,⟨_,Tryz.zeroValue5,⟨[Value.int IntKind.u8 0],rfl,fun S w η=>.cons (zi _) (.nil)⟩,(fun T h=>by cases h;rfl)⟩,(fun T h=>by cases h;exact ⟨rfl,rfl⟩),Tryz.runUnderlying5⟩
theorem ti7:TIok Tryz.prog 7 t7 :=
 ⟨Tryz.isAgg7,Tryz.sizeOf7,⟨_,Tryz.zeroValue7,⟨[Value.int IntKind.i64 0,Value.int IntKind.i64 0,Value.bool false,Value.int IntKind.u8 0],rfl,fun S w η=>.cons (zi _) (.cons (zi _) (.cons (zb) (.cons (zi _) (.nil))))⟩,(fun T h=>by cases h;rfl)⟩,(fun T h=>by cases h;exact ⟨rfl,rfl⟩),trivial⟩
theorem ti9:TIok Tryz.prog 9 t9 :=
 ⟨Tryz.isAgg9,Tryz.sizeOf9,⟨_,Tryz.zeroValue9,⟨[Value.string ⟨#[]⟩],rfl,fun S w η=>.cons (zs) (.nil)⟩,(fun T h=>by cases h;rfl)⟩,(fun T h=>by cases h;exact ⟨rfl,rfl⟩),Tryz.runUnderlying9⟩
theorem ti12:TIok Tryz.prog 12 t12 :=
 ⟨Tryz.isAgg12,Tryz.sizeOf12,⟨_,Tryz.zeroValue12,⟨[Value.int IntKind.u64 0],rfl,fun S w η=>.cons (zi _) (.nil)⟩,(fun T h=>by cases h;rfl)⟩,(fun T h=>by cases h;exact ⟨rfl,rfl⟩),Tryz.runUnderlying12⟩
theorem ti13:TIok Tryz.prog 13 t13 :=
 ⟨Tryz.isAgg13,Tryz.sizeOf13,⟨_,Tryz.zeroValue13,⟨[Value.string ⟨#[]⟩,Value.int IntKind.u64 0],rfl,fun S w η=>.cons (zs) (.cons (zi _) (.nil))⟩,(fun T h=>by cases h;rfl)⟩,(fun T h=>by cases h;exact ⟨rfl,rfl⟩),⟨_,Tryz.runUnderlying13,rfl,fun w=>by simp [Tryz.sizeOf12,Tryz.sizeOf9]⟩⟩
theorem ti15:TIok Tryz.prog 15 t15 :=
 ⟨Tryz.isAgg15,Tryz.sizeOf15,⟨_,Tryz.zeroValue15,⟨[Value.pointer none],rfl,fun S w η=>.cons (rfl) (.nil)⟩,(fun T h=>by cases h)⟩,(fun T h=>by cases h),Tryz.runUnderlying15⟩
theorem ti16:TIok Tryz.prog 16 t16 :=
 ⟨Tryz.isAgg16,Tryz.sizeOf16,⟨_,Tryz.zeroValue16,⟨[Value.pointer none],rfl,fun S w η=>.cons (rfl) (.nil)⟩,(fun T h=>by cases h)⟩,(fun T h=>by cases h),Tryz.runUnderlying16⟩
theorem ti17:TIok Tryz.prog 17 t17 :=
 ⟨Tryz.isAgg17,Tryz.sizeOf17,⟨_,Tryz.zeroValue17,⟨[Value.pointer none],rfl,fun S w η=>.cons (rfl) (.nil)⟩,(fun T h=>by cases h)⟩,(fun T h=>by cases h),Tryz.runUnderlying17⟩
theorem ti18:TIok Tryz.prog 18 t18 :=
 ⟨Tryz.isAgg18,Tryz.sizeOf18,⟨_,Tryz.zeroValue18,⟨[Value.pointer none],rfl,fun S w η=>.cons (rfl) (.nil)⟩,(fun T h=>by cases h)⟩,(fun T h=>by cases h),⟨_,Tryz.runUnderlying18,rfl,fun w=>by simp [Tryz.sizeOf17]⟩⟩
theorem ti20:TIok Tryz.prog 20 t20 :=
 ⟨Tryz.isAgg20,Tryz.sizeOf20,⟨_,Tryz.zeroValue20,⟨[Value.nilIface],rfl,fun S w η=>.cons (rfl) (.nil)⟩,(fun T h=>by cases h)⟩,(fun T h=>by cases h),trivial⟩
theorem ti21:TIok Tryz.prog 21 t21 :=
 ⟨Tryz.isAgg21,Tryz.sizeOf21,⟨_,Tryz.zeroValue21,⟨[Value.int IntKind.i32 0],rfl,fun S w η=>.cons (zi _) (.nil)⟩,(fun T h=>by cases h;rfl)⟩,(fun T h=>by cases h;exact ⟨rfl,rfl⟩),Tryz.runUnderlying21⟩
theorem ti22:TIok Tryz.prog 22 t22 :=
 ⟨Tryz.isAgg22,Tryz.sizeOf22,⟨_,Tryz.zeroValue22,⟨[Value.slice none 0 0],rfl,fun S w η=>.cons (rfl) (.nil)⟩,(fun T h=>by cases h;rfl)⟩,(fun T h=>by cases h;exact ⟨rfl,rfl⟩),⟨Tryz.underlying22,by decide,Tryz.t70,_,rfl,rfl,rfl,Tryz.zeroValue70,Tryz.sizeOf70⟩⟩
theorem ti23:TIok Tryz.prog 23 t23 :=
 ⟨Tryz.isAgg23,Tryz.sizeOf23,⟨_,Tryz.zeroValue23,⟨[Value.slice none 0 0],rfl,fun S w η=>.cons (rfl) (.nil)⟩,(fun T h=>by cases h;rfl)⟩,(fun T h=>by cases h;exact ⟨rfl,rfl⟩),⟨Tryz.underlying23,by decide,Tryz.t3,_,rfl,rfl,rfl,Tryz.zeroValue3,Tryz.sizeOf3⟩⟩
theorem ti24:TIok Tryz.prog 24 t24 :=
 ⟨Tryz.isAgg24,Tryz.sizeOf24,⟨_,Tryz.zeroValue24,⟨[Value.slice none 0 0],rfl,fun S w η=>.cons (rfl) (.nil)⟩,(fun T h=>by cases h;rfl)⟩,(fun T h=>by cases h;exact ⟨rfl,rfl⟩),⟨Tryz.underlying24,by decide,Tryz.t55,_,rfl,rfl,rfl,Tryz.zeroValue55,Tryz.sizeOf55⟩⟩
theorem ti25:TIok Tryz.prog 25 t25 :=
 ⟨Tryz.isAgg25,Tryz.sizeOf25,⟨_,Tryz.zeroValue25,⟨[Value.int IntKind.i64 0,Value.int IntKind.i64 0,Value.int IntKind.i64 0],rfl,fun S w η=>.cons (zi _) (.cons (zi _) (.cons (zi _) (.nil)))⟩,(fun T h=>by cases h;rfl)⟩,(fun T h=>by cases h;exact ⟨rfl,rfl⟩),Tryz.runUnderlying25⟩
theorem ti26:TIok Tryz.prog 26 t26 :=
 ⟨Tryz.isAgg26,Tryz.sizeOf26,⟨_,Tryz.zeroValue26,⟨[Value.int IntKind.i64 0,Value.slice none 0 0,Value.int IntKind.i64 0,Value.int IntKind.i64 0,Value.slice none 0 0,Value.slice none 0 0,Value.int IntKind.i64 0,Value.int IntKind.i64 0,Value.int IntKind.i64 0],rfl,fun S w η=>.cons (zi _) (.cons (rfl) (.cons (zi _) (.cons (zi _) (.cons (rfl) (.cons (rfl) (.cons (zi _) (.cons (zi _) (.cons (zi _) (.nil)))))))))⟩,(fun T h=>by cases h;rfl)⟩,(fun T h=>by cases h;exact ⟨rfl,rfl⟩),⟨_,Tryz.runUnderlying26,rfl,fun w=>by simp [Tryz.sizeOf22,Tryz.sizeOf23,Tryz.sizeOf24,Tryz.sizeOf25,Tryz.sizeOf3]⟩⟩
theorem ti27:TIok Tryz.prog 27 t27 :=
 ⟨Tryz.isAgg27,Tryz.sizeOf27,⟨_,Tryz.zeroValue27,⟨[Value.int IntKind.i64 0,Value.slice none 0 0,Value.int IntKind.i64 0,Value.int IntKind.i64 0,Value.slice none 0 0,Value.slice none 0 0,Value.int IntKind.i64 0,Value.int IntKind.i64 0,Value.int IntKind.i64 0],rfl,fun S w η=>.cons (zi _) (.cons (rfl) (.cons (zi _) (.cons (zi _) (.cons (rfl) (.cons (rfl) (.cons (zi _) (.cons (zi _) (.cons (zi _) (.nil)))))))))⟩,(fun T h=>by cases h;rfl)⟩,(fun T h=>by cases h;exact ⟨rfl,rfl⟩),⟨_,Tryz.runUnderlying27,rfl,fun w=>by simp [Tryz.sizeOf22,Tryz.sizeOf23,Tryz.sizeOf24,Tryz.sizeOf25,Tryz.sizeOf3]⟩⟩
theorem ti28:TIok Tryz.prog 28 t28 :=
 ⟨Tryz.isAgg28,Tryz.sizeOf28,⟨_,Tryz.zeroValue28,⟨[Value.int IntKind.i64 0,Value.slice none 0 0],rfl,fun S w η=>.cons (zi _) (.cons (rfl) (.nil))⟩,(fun T h=>by cases h;rfl)⟩,(fun T h=>by cases h;exact ⟨rfl,rfl⟩),⟨_,Tryz.runUnderlying28,rfl,fun w=>by simp [Tryz.sizeOf22,Tryz.sizeOf3]⟩⟩
theorem ti29:TIok Tryz.prog 29 t29 :=
 ⟨Tryz.isAgg29,Tryz.sizeOf29,⟨_,Tryz.zeroValue29,⟨[Value.int IntKind.i64 0,Value.slice none 0 0],rfl,fun S w η=>.cons (zi _) (.cons (rfl) (.nil))⟩,(fun T h=>by cases h;rfl)⟩,(fun T h=>by cases h;exact ⟨rfl,rfl⟩),⟨_,Tryz.runUnderlying29,rfl,fun w=>by simp [Tryz.sizeOf22,Tryz.sizeOf3]⟩⟩
theorem ti30:TIok Tryz.prog 30 t30 :=
 ⟨Tryz.isAgg30,Tryz.sizeOf30,⟨_,Tryz.zeroValue30,⟨[Value.slice none 0 0],rfl,fun S w η=>.cons (rfl) (.nil)⟩,(fun T h=>by cases h;rfl)⟩,(fun T h=>by cases h;exact ⟨rfl,rfl⟩),⟨Tryz.underlying30,by decide,Tryz.t51,_,rfl,rfl,rfl,Tryz.zeroValue51,Tryz.sizeOf51⟩⟩
theorem ti31:TIok Tryz.prog 31 t31 :=
 ⟨Tryz.isAgg31,Tryz.sizeOf31,⟨_,Tryz.zeroValue31,⟨[Value.int IntKind.i64 0,Value.slice none 0 0,Value.slice none 0 0],rfl,fun S w η=>.cons (zi _) (.cons (rfl) (.cons (rfl) (.nil)))⟩,(fun T h=>by cases h;rfl)⟩,(fun T h=>by cases h;exact ⟨rfl,rfl⟩),⟨_,Tryz.runUnderlying31,rfl,fun w=>by simp [Tryz.sizeOf29,Tryz.sizeOf30]⟩⟩
theorem ti32:TIok Tryz.prog 32 t32 :=
 ⟨Tryz.isAgg32,Tryz.sizeOf32,⟨_,Tryz.zeroValue32,⟨[Value.int IntKind.i64 0,Value.slice none 0 0,Value.slice none 0 0],rfl,fun S w η=>.cons (zi _) (.cons (rfl) (.cons (rfl) (.nil)))⟩,(fun T h=>by cases h;rfl)⟩,(fun T h=>by cases h;exact ⟨rfl,rfl⟩),⟨_,Tryz.runUnderlying32,rfl,fun w=>by simp [Tryz.sizeOf29,Tryz.sizeOf30]⟩⟩
theorem ti42:TIok Tryz.prog 42 t42 :=
 ⟨Tryz.isAgg42,Tryz.sizeOf42,⟨_,Tryz.zeroValue42,⟨[Value.slice none 0 0],rfl,fun S w η=>.cons (rfl) (.nil)⟩,(fun T h=>by cases h;rfl)⟩,(fun T h=>by cases h;exact ⟨rfl,rfl⟩),⟨Tryz.underlying42,by decide,Tryz.t47,_,rfl,rfl,rfl,Tryz.zeroValue47,Tryz.sizeOf47⟩⟩
theorem ti43:TIok Tryz.prog 43 t43 :=
 ⟨Tryz.isAgg43,Tryz.sizeOf43,⟨_,Tryz.zeroValue43,⟨[Value.int IntKind.i64 0],rfl,fun S w η=>.cons (zi _) (.nil)⟩,(fun T h=>by cases h;rfl)⟩,(fun T h=>by cases h;exact ⟨rfl,rfl⟩),Tryz.runUnderlying43⟩
theorem ti46:TIok Tryz.prog 46 t46 :=
 ⟨Tryz.isAgg46,Tryz.sizeOf46,⟨_,Tryz.zeroValue46,⟨[Value.int IntKind.i64 0,Value.int IntKind.i64 0],rfl,fun S w η=>.cons (zi _) (.cons (zi _) (.nil))⟩,(fun T h=>by cases h;rfl)⟩,(fun T h=>by cases h;exact ⟨rfl,rfl⟩),⟨_,Tryz.runUnderlying46,rfl,fun w=>by simp [Tryz.sizeOf3]⟩⟩
theorem ti47:TIok Tryz.prog 47 t47 :=
 ⟨Tryz.isAgg47,Tryz.sizeOf47,⟨_,Tryz.zeroValue47,⟨[Value.int IntKind.i64 0,Value.int IntKind.i64 0],rfl,fun S w η=>.cons (zi _) (.cons (zi _) (.nil))⟩,(fun T h=>by cases h;rfl)⟩,(fun T h=>by cases h;exact ⟨rfl,rfl⟩),⟨_,Tryz.runUnderlying47,rfl,fun w=>by simp [Tryz.sizeOf3]⟩⟩
theorem ti50:TIok Tryz.prog 50 t50 :=
 ⟨Tryz.isAgg50,Tryz.sizeOf50,⟨_,Tryz.zeroValue50,⟨[Value.int IntKind.i64 0,Value.int IntKind.i64 0,Value.int IntKind.i64 0,Value.int IntKind.i64 0,Value.int IntKind.i64 0],rfl,fun S w η=>.cons (zi _) (.cons (zi _) (.cons (zi _) (.cons (zi _) (.cons (zi _) (.nil)))))⟩,(fun T h=>by cases h;rfl)⟩,(fun T h=>by cases h;exact ⟨rfl,rfl⟩),⟨_,Tryz.runUnderlying50,rfl,fun w=>by simp [Tryz.sizeOf3]⟩⟩
theorem ti51:TIok Tryz.prog 51 t51 :=
 ⟨Tryz.isAgg51,Tryz.sizeOf51,⟨_,Tryz.zeroValue51,⟨[Value.int IntKind.i64 0,Value.int IntKind.i64 0,Value.int IntKind.i64 0,Value.int IntKind.i64 0,Value.int IntKind.i64 0],rfl,fun S w η=>.cons (zi _) (.cons (zi _) (.cons (zi _) (.cons (zi _) (.cons (zi _) (.nil)))))⟩,(fun T h=>by cases h;rfl)⟩,(fun T h=>by cases h;exact ⟨rfl,rfl⟩),⟨_,Tryz.runUnderlying51,rfl,fun w=>by simp [Tryz.sizeOf3]⟩⟩
theorem ti55:TIok Tryz.prog 55 t55 :=
 ⟨Tryz.isAgg55,Tryz.sizeOf55,⟨_,Tryz.zeroValue55,⟨[Value.int IntKind.i64 0,Value.int IntKind.i64 0,Value.int IntKind.i64 0,Value.int IntKind.i64 0,Value.int IntKind.i64 0],rfl,fun S w η=>.cons (zi _) (.cons (zi _) (.cons (zi _) (.cons (zi _) (.cons (zi _) (.nil)))))⟩,(fun T h=>by cases h;rfl)⟩,(fun T h=>by cases h;exact ⟨rfl,rfl⟩),Tryz.runUnderlying55⟩
theorem ti59:TIok Tryz.prog 59 t59 :=
 ⟨Tryz.isAgg59,Tryz.sizeOf59,⟨_,Tryz.zeroValue59,⟨[Value.slice none 0 0],rfl,fun S w η=>.cons (rfl) (.nil)⟩,(fun T h=>by cases h;rfl)⟩,(fun T h=>by cases h;exact ⟨rfl,rfl⟩),⟨Tryz.underlying59,by decide,Tryz.t111,_,rfl,rfl,rfl,Tryz.zeroValue111,Tryz.sizeOf111⟩⟩
theorem ti60:TIok Tryz.prog 60 t60 :=
 ⟨Tryz.isAgg60,Tryz.sizeOf60,⟨_,Tryz.zeroValue60,⟨[Value.int IntKind.i64 0,Value.slice none 0 0],rfl,fun S w η=>.cons (zi _) (.cons (rfl) (.nil))⟩,(fun T h=>by cases h;rfl)⟩,(fun T h=>by cases h;exact ⟨rfl,rfl⟩),⟨_,Tryz.runUnderlying60,rfl,fun w=>by simp [Tryz.sizeOf3,Tryz.sizeOf59]⟩⟩
theorem ti61:TIok Tryz.prog 61 t61 :=
 ⟨Tryz.isAgg61,Tryz.sizeOf61,⟨_,Tryz.zeroValue61,⟨[Value.int IntKind.i64 0,Value.slice none 0 0],rfl,fun S w η=>.cons (zi _) (.cons (rfl) (.nil))⟩,(fun T h=>by cases h;rfl)⟩,(fun T h=>by cases h;exact ⟨rfl,rfl⟩),⟨_,Tryz.runUnderlying61,rfl,fun w=>by simp [Tryz.sizeOf3,Tryz.sizeOf59]⟩⟩
theorem ti64:TIok Tryz.prog 64 t64 :=
 ⟨Tryz.isAgg64,Tryz.sizeOf64,⟨_,Tryz.zeroValue64,⟨[Value.slice none 0 0],rfl,fun S w η=>.cons (rfl) (.nil)⟩,(fun T h=>by cases h;rfl)⟩,(fun T h=>by cases h;exact ⟨rfl,rfl⟩),⟨Tryz.underlying64,by decide,Tryz.t23,_,rfl,rfl,rfl,Tryz.zeroValue23,Tryz.sizeOf23⟩⟩
theorem ti69:TIok Tryz.prog 69 t69 :=
 ⟨Tryz.isAgg69,Tryz.sizeOf69,⟨_,Tryz.zeroValue69,⟨[Value.slice none 0 0],rfl,fun S w η=>.cons (rfl) (.nil)⟩,(fun T h=>by cases h;rfl)⟩,(fun T h=>by cases h;exact ⟨rfl,rfl⟩),⟨Tryz.underlying69,by decide,Tryz.t4,_,rfl,rfl,rfl,Tryz.zeroValue4,Tryz.sizeOf4⟩⟩
theorem ti70:TIok Tryz.prog 70 t70 :=
 ⟨Tryz.isAgg70,Tryz.sizeOf70,⟨_,Tryz.zeroValue70,⟨[Value.int IntKind.i64 0,Value.int IntKind.i64 0],rfl,fun S w η=>.cons (zi _) (.cons (zi _) (.nil))⟩,(fun T h=>by cases h;rfl)⟩,(fun T h=>by cases h;exact ⟨rfl,rfl⟩),Tryz.runUnderlying70⟩
theorem ti82:TIok Tryz.prog 82 t82 :=
 ⟨Tryz.isAgg82,Tryz.sizeOf82,⟨_,Tryz.zeroValue82,⟨[Value.int IntKind.i64 0,Value.int IntKind.i64 0],rfl,fun S w η=>.cons (zi _) (.cons (zi _) (.nil))⟩,(fun T h=>by cases h;rfl)⟩,(fun T h=>by cases h;exact ⟨rfl,rfl⟩),⟨_,Tryz.runUnderlying82,rfl,fun w=>by simp [Tryz.sizeOf3]⟩⟩
theorem ti83:TIok Tryz.prog 83 t83 :=
 ⟨Tryz.isAgg83,Tryz.sizeOf83,⟨_,Tryz.zeroValue83,⟨[Value.int IntKind.i64 0,Value.int IntKind.i64 0],rfl,fun S w η=>.cons (zi _) (.cons (zi _) (.nil))⟩,(fun T h=>by cases h;rfl)⟩,(fun T h=>by cases h;exact ⟨rfl,rfl⟩),⟨_,Tryz.runUnderlying83,rfl,fun w=>by simp [Tryz.sizeOf3]⟩⟩
theorem ti84:TIok Tryz.prog 84 t84 :=
 ⟨Tryz.isAgg84,Tryz.sizeOf84,⟨_,Tryz.zeroValue84,⟨[Value.int IntKind.i64 0,Value.int IntKind.i64 0,Value.int IntKind.i64 0,Value.int IntKind.i64 0,Value.int IntKind.i64 0,Value.int IntKind.i64 0,Value.int IntKind.i64 0],rfl,fun S w η=>.cons (zi _) (.cons (zi _) (.cons (zi _) (.cons (zi _) (.cons (zi _) (.cons (zi _) (.cons (zi _) (.nil)))))))⟩,(fun T h=>by cases h;rfl)⟩,(fun T h=>by cases h;exact ⟨rfl,rfl⟩),⟨_,Tryz.runUnderlying84,rfl,fun w=>by simp [Tryz.sizeOf3]⟩⟩
theorem ti85:TIok Tryz.prog 85 t85 :=
 ⟨Tryz.isAgg85,Tryz.sizeOf85,⟨_,Tryz.zeroValue85,⟨[Value.int IntKind.i64 0,Value.int IntKind.i64 0,Value.int IntKind.i64 0,Value.int IntKind.i64 0,Value.int IntKind.i64 0,Value.int IntKind.i64 0,Value.int IntKind.i64 0],rfl,fun S w η=>.cons (zi _) (.cons (zi _) (.cons (zi _) (.cons (zi _) (.cons (zi _) (.cons (zi _) (.cons (zi _) (.nil)))))))⟩,(fun T h=>by cases h;rfl)⟩,(fun T h=>by cases h;exact ⟨rfl,rfl⟩),⟨_,Tryz.runUnderlying85,rfl,fun w=>by simp [Tryz.sizeOf3]⟩⟩
theorem ti86:TIok Tryz.prog 86 t86 :=
 ⟨Tryz.isAgg86,Tryz.sizeOf86,⟨_,Tryz.zeroValue86,⟨[Value.int IntKind.i64 0,Value.slice none 0 0],rfl,fun S w η=>.cons (zi _) (.cons (rfl) (.nil))⟩,(fun T h=>by cases h;rfl)⟩,(fun T h=>by cases h;exact ⟨rfl,rfl⟩),⟨_,Tryz.runUnderlying86,rfl,fun w=>by simp [Tryz.sizeOf23,Tryz.sizeOf3]⟩⟩
theorem ti87:TIok Tryz.prog 87 t87 :=
 ⟨Tryz.isAgg87,Tryz.sizeOf87,⟨_,Tryz.zeroValue87,⟨[Value.int IntKind.i64 0,Value.slice none 0 0],rfl,fun S w η=>.cons (zi _) (.cons (rfl) (.nil))⟩,(fun T h=>by cases h;rfl)⟩,(fun T h=>by cases h;exact ⟨rfl,rfl⟩),⟨_,Tryz.runUnderlying87,rfl,fun w=>by simp [Tryz.sizeOf23,Tryz.sizeOf3]⟩⟩
theorem ti93:TIok Tryz.prog 93 t93 :=
 ⟨Tryz.isAgg93,Tryz.sizeOf93,⟨_,Tryz.zeroValue93,⟨[Value.pointer none],rfl,fun S w η=>.cons (rfl) (.nil)⟩,(fun T h=>by cases h)⟩,(fun T h=>by cases h),Tryz.runUnderlying93⟩
theorem ti106:TIok Tryz.prog 106 t106 :=
 ⟨Tryz.isAgg106,Tryz.sizeOf106,⟨_,Tryz.zeroValue106,⟨[Value.int IntKind.i64 0,Value.int IntKind.i64 0,Value.int IntKind.i64 0,Value.int IntKind.i64 0,Value.int IntKind.i64 0],rfl,fun S w η=>.cons (zi _) (.cons (zi _) (.cons (zi _) (.cons (zi _) (.cons (zi _) (.nil)))))⟩,(fun T h=>by cases h;rfl)⟩,(fun T h=>by cases h;exact ⟨rfl,rfl⟩),⟨_,Tryz.runUnderlying106,rfl,fun w=>by simp [Tryz.sizeOf3]⟩⟩
theorem ti110:TIok Tryz.prog 110 t110 :=
 ⟨Tryz.isAgg110,Tryz.sizeOf110,⟨_,Tryz.zeroValue110,⟨[Value.int IntKind.i64 0,Value.int IntKind.i64 0,Value.int IntKind.i64 0],rfl,fun S w η=>.cons (zi _) (.cons (zi _) (.cons (zi _) (.nil)))⟩,(fun T h=>by cases h;rfl)⟩,(fun T h=>by cases h;exact ⟨rfl,rfl⟩),⟨_,Tryz.runUnderlying110,rfl,fun w=>by simp [Tryz.sizeOf3]⟩⟩
theorem ti111:TIok Tryz.prog 111 t111 :=
 ⟨Tryz.isAgg111,Tryz.sizeOf111,⟨_,Tryz.zeroValue111,⟨[Value.int IntKind.i64 0,Value.int IntKind.i64 0,Value.int IntKind.i64 0],rfl,fun S w η=>.cons (zi _) (.cons (zi _) (.cons (zi _) (.nil)))⟩,(fun T h=>by cases h;rfl)⟩,(fun T h=>by cases h;exact ⟨rfl,rfl⟩),⟨_,Tryz.runUnderlying111,rfl,fun w=>by simp [Tryz.sizeOf3]⟩⟩
theorem ti119:TIok Tryz.prog 119 t119 :=
 ⟨Tryz.isAgg119,Tryz.sizeOf119,⟨_,Tryz.zeroValue119,⟨[Value.int IntKind.i64 0,Value.int IntKind.i64 0,Value.int IntKind.i64 0,Value.int IntKind.i64 0,Value.int IntKind.i64 0,Value.int IntKind.i64 0,Value.int IntKind.i64 0,Value.int IntKind.i64 0],rfl,fun S w η=>.cons (zi _) (.cons (zi _) (.cons (zi _) (.cons (zi _) (.cons (zi _) (.cons (zi _) (.cons (zi _) (.cons (zi _) (.nil))))))))⟩,(fun T h=>by cases h;rfl)⟩,(fun T h=>by cases h;exact ⟨rfl,rfl⟩),Tryz.runUnderlying119⟩
theorem ti120:TIok Tryz.prog 120 t120 :=
 ⟨Tryz.isAgg120,Tryz.sizeOf120,⟨_,Tryz.zeroValue120,⟨[Value.int IntKind.i64 0,Value.int IntKind.i64 0,Value.int IntKind.i64 0,Value.int IntKind.i64 0,Value.int IntKind.i64 0,Value.int IntKind.i64 0,Value.int IntKind.i64 0,Value.int IntKind.i64 0],rfl,fun S w η=>.cons (zi _) (.cons (zi _) (.cons (zi _) (.cons (zi _) (.cons (zi _) (.cons (zi _) (.cons (zi _) (.cons (zi _) (.nil))))))))⟩,(fun T h=>by cases h;rfl)⟩,(fun T h=>by cases h;exact ⟨rfl,rfl⟩),Tryz.runUnderlying120⟩
theorem ti124:TIok Tryz.prog 124 t124 :=
 ⟨Tryz.isAgg124,Tryz.sizeOf124,⟨_,Tryz.zeroValue124,⟨[Value.slice none 0 0],rfl,fun S w η=>.cons (rfl) (.nil)⟩,(fun T h=>by cases h;rfl)⟩,(fun T h=>by cases h;exact ⟨rfl,rfl⟩),⟨Tryz.underlying124,by decide,Tryz.t163,_,rfl,rfl,rfl,Tryz.zeroValue163,Tryz.sizeOf163⟩⟩
theorem ti126:TIok Tryz.prog 126 t126 :=
 ⟨Tryz.isAgg126,Tryz.sizeOf126,⟨_,Tryz.zeroValue126,⟨[Value.int IntKind.i64 0,Value.int IntKind.i64 0,Value.int IntKind.i64 0],rfl,fun S w η=>.cons (zi _) (.cons (zi _) (.cons (zi _) (.nil)))⟩,(fun T h=>by cases h;rfl)⟩,(fun T h=>by cases h;exact ⟨rfl,rfl⟩),⟨_,Tryz.runUnderlying126,rfl,fun w=>by simp [Tryz.sizeOf3]⟩⟩
theorem ti127:TIok Tryz.prog 127 t127 :=
 ⟨Tryz.isAgg127,Tryz.sizeOf127,⟨_,Tryz.zeroValue127,⟨[Value.int IntKind.i64 0,Value.int IntKind.i64 0,Value.int IntKind.i64 0],rfl,fun S w η=>.cons (zi _) (.cons (zi _) (.cons (zi _) (.nil)))⟩,(fun T h=>by cases h;rfl)⟩,(fun T h=>by cases h;exact ⟨rfl,rfl⟩),⟨_,Tryz.runUnderlying127,rfl,fun w=>by simp [Tryz.sizeOf3]⟩⟩
theorem ti135:TIok Tryz.prog 135 t135 :=
 ⟨Tryz.isAgg135,Tryz.sizeOf135,⟨_,Tryz.zeroValue135,⟨[Value.bool false,Value.bool false,Value.bool false,Value.bool false,Value.bool false,Value.bool false,Value.bool false,Value.bool false],rfl,fun S w η=>.cons (zb) (.cons (zb) (.cons (zb) (.cons (zb) (.cons (zb) (.cons (zb) (.cons (zb) (.cons (zb) (.nil))))))))⟩,(fun T h=>by cases h;rfl)⟩,(fun T h=>by cases h;exact ⟨rfl,rfl⟩),Tryz.runUnderlying135⟩
theorem ti136:TIok Tryz.prog 136 t136 :=
 ⟨Tryz.isAgg136,Tryz.sizeOf136,⟨_,Tryz.zeroValue136,⟨[Value.bool false,Value.bool false,Value.bool false,Value.bool false,Value.bool false,Value.bool false,Value.bool false,Value.bool false,Value.bool false,Value.bool false,Value.bool false,Value.bool false,Value.bool false,Value.bool false,Value.bool false,Value.bool false,Value.bool false,Value.bool false,Value.bool false,Value.bool false,Value.bool false,Value.bool false,Value.bool false,Value.bool false,Value.bool false,Value.bool false,Value.bool false,Value.bool false,Value.bool false,Value.bool false,Value.bool false,Value.bool false,Value.bool false,Value.bool false,Value.bool false,Value.bool false,Value.bool false,Value.bool false,Value.bool false,Value.bool false,Value.bool false,Value.bool false,Value.bool false,Value.bool false,Value.bool false,Value.bool false,Value.bool false,Value.bool false,Value.bool false,Value.bool false,Value.bool false,Value.bool false,Value.bool false,Value.bool false,Value.bool false,Value.bool false,Value.bool false,Value.bool false,Value.bool false,Value.bool false,Value.bool false,Value.bool false,Value.bool false,Value.bool false],rfl,fun S w η=>.cons (zb) (.cons (zb) (.cons (zb) (.cons (zb) (.cons (zb) (.cons (zb) (.cons (zb) (.cons (zb) (.cons (zb) (.cons (zb) (.cons (zb) (.cons (zb) (.cons (zb) (.cons (zb) (.cons (zb) (.cons (zb) (.cons (zb) (.cons (zb) (.cons (zb) (.cons (zb) (.cons (zb) (.cons (zb) (.cons (zb) (.cons (zb) (.cons (zb) (.cons (zb) (.cons (zb) (.cons (zb) (.cons (zb) (.cons (zb) (.cons (zb) (.cons (zb) (.cons (zb) (.cons (zb) (.cons (zb) (.cons (zb) (.cons (zb) (.cons (zb) (.cons (zb) (.cons (zb) (.cons (zb) (.cons (zb) (.cons (zb) (.cons (zb) (.cons (zb) (.cons (zb) (.cons (zb) (.cons (zb) (.cons (zb) (.cons (zb) (.cons (zb) (.cons (zb) (.cons (zb) (.cons (zb) (.cons (zb) (.cons (zb) (.cons (zb) (.cons (zb) (.cons (zb) (.cons (zb) (.cons (zb) (.cons (zb) (.cons (zb) (.cons (zb) (.nil))))))))))))))))))))))))))))))))))))))))))))))))))))))))))))))))⟩,(fun T h=>by cases h;rfl)⟩,(fun T h=>by cases h;exact ⟨rfl,rfl⟩),Tryz.runUnderlying136⟩
theorem ti137:TIok Tryz.prog 137 t137 :=
 ⟨Tryz.isAgg137,Tryz.sizeOf137,⟨_,Tryz.zeroValue137,⟨[Value.bool false,Value.bool false,Value.bool false,Value.bool false,Value.bool false,Value.bool false,Value.bool false,Value.bool false,Value.bool false,Value.bool false,Value.bool false,Value.bool false,Value.bool false,Value.bool false,Value.bool false,Value.bool false,Value.bool false,Value.bool false,Value.bool false,Value.bool false,Value.bool false,Value.bool false,Value.bool false,Value.bool false,Value.bool false,Value.bool false,Value.bool false,Value.bool false,Value.bool false,Value.bool false,Value.bool false,Value.bool false,Value.bool false,Value.bool false,Value.bool false,Value.bool false,Value.bool false,Value.bool false,Value.bool false,Value.bool false,Value.bool false,Value.bool false,Value.bool false,Value.bool false,Value.bool false,Value.bool false,Value.bool false,Value.bool false,Value.bool false,Value.bool false,Value.bool false,Value.bool false,Value.bool false,Value.bool false,Value.bool false,Value.bool false,Value.bool false,Value.bool false,Value.bool false,Value.bool false,Value.bool false,Value.bool false,Value.bool false,Value.bool false],rfl,fun S w η=>.cons (zb) (.cons (zb) (.cons (zb) (.cons (zb) (.cons (zb) (.cons (zb) (.cons (zb) (.cons (zb) (.cons (zb) (.cons (zb) (.cons (zb) (.cons (zb) (.cons (zb) (.cons (zb) (.cons (zb) (.cons (zb) (.cons (zb) (.cons (zb) (.cons (zb) (.cons (zb) (.cons (zb) (.cons (zb) (.cons (zb) (.cons (zb) (.cons (zb) (.cons (zb) (.cons (zb) (.cons (zb) (.cons (zb) (.cons (zb) (.cons (zb) (.cons (zb) (.cons (zb) (.cons (zb) (.cons (zb) (.cons (zb) (.cons (zb) (.cons (zb) (.cons (zb) (.cons (zb) (.cons (zb) (.cons (zb) (.cons (zb) (.cons (zb) (.cons (zb) (.cons (zb) (.cons (zb) (.cons (zb) (.cons (zb) (.cons (zb) (.cons (zb) (.cons (zb) (.cons (zb) (.cons (zb) (.cons (zb) (.cons (zb) (.cons (zb) (.cons (zb) (.cons (zb) (.cons (zb) (.cons (zb) (.cons (zb) (.cons (zb) (.cons (zb) (.nil))))))))))))))))))))))))))))))))))))))))))))))))))))))))))))))))⟩,(fun T h=>by cases h;rfl)⟩,(fun T h=>by cases h;exact ⟨rfl,rfl⟩),Tryz.runUnderlying137⟩
theorem ti142:TIok Tryz.prog 142 t142 :=
 ⟨Tryz.isAgg142,Tryz.sizeOf142,⟨_,Tryz.zeroValue142,⟨[Value.slice none 0 0],rfl,fun S w η=>.cons (rfl) (.nil)⟩,(fun T h=>by cases h;rfl)⟩,(fun T h=>by cases h;exact ⟨rfl,rfl⟩),⟨Tryz.underlying142,by decide,Tryz.t64,_,rfl,rfl,rfl,Tryz.zeroValue64,Tryz.sizeOf64⟩⟩
theorem ti151:TIok Tryz.prog 151 t151 :=
 ⟨Tryz.isAgg151,Tryz.sizeOf151,⟨_,Tryz.zeroValue151,⟨[Value.map none],rfl,fun S w η=>.cons (rfl) (.nil)⟩,(fun T h=>by cases h)⟩,(fun T h=>by cases h),⟨_,_,Tryz.runUnderlying151,Tryz.runUnderlying3,Tryz.zeroValue149⟩⟩
theorem ti162:TIok Tryz.prog 162 t162 :=
 ⟨Tryz.isAgg162,Tryz.sizeOf162,⟨_,Tryz.zeroValue162,⟨[Value.int IntKind.i64 0,Value.int IntKind.i64 0,Value.int IntKind.i64 0],rfl,fun S w η=>.cons (zi _) (.cons (zi _) (.cons (zi _) (.nil)))⟩,(fun T h=>by cases h;rfl)⟩,(fun T h=>by cases h;exact ⟨rfl,rfl⟩),⟨_,Tryz.runUnderlying162,rfl,fun w=>by simp [Tryz.sizeOf3,Tryz.sizeOf47]⟩⟩
theorem ti163:TIok Tryz.prog 163 t163 :=
 ⟨Tryz.isAgg163,Tryz.sizeOf163,⟨_,Tryz.zeroValue163,⟨[Value.int IntKind.i64 0,Value.int IntKind.i64 0,Value.int IntKind.i64 0],rfl,fun S w η=>.cons (zi _) (.cons (zi _) (.cons (zi _) (.nil)))⟩,(fun T h=>by cases h;rfl)⟩,(fun T h=>by cases h;exact ⟨rfl,rfl⟩),⟨_,Tryz.runUnderlying163,rfl,fun w=>by simp [Tryz.sizeOf3,Tryz.sizeOf47]⟩⟩
theorem ti176:TIok Tryz.prog 176 t176 :=
 ⟨Tryz.isAgg176,Tryz.sizeOf176,⟨_,Tryz.zeroValue176,⟨[Value.slice none 0 0],rfl,fun S w η=>.cons (rfl) (.nil)⟩,(fun T h=>by cases h;rfl)⟩,(fun T h=>by cases h;exact ⟨rfl,rfl⟩),⟨Tryz.underlying176,by decide,Tryz.t180,_,rfl,rfl,rfl,Tryz.zeroValue180,Tryz.sizeOf180⟩⟩
theorem ti179:TIok Tryz.prog 179 t179 :=
 ⟨Tryz.isAgg179,Tryz.sizeOf179,⟨_,Tryz.zeroValue179,⟨[Value.int IntKind.i64 0,Value.int IntKind.i64 0],rfl,fun S w η=>.cons (zi _) (.cons (zi _) (.nil))⟩,(fun T h=>by cases h;rfl)⟩,(fun T h=>by cases h;exact ⟨rfl,rfl⟩),⟨_,Tryz.runUnderlying179,rfl,fun w=>by simp [Tryz.sizeOf3]⟩⟩
theorem ti180:TIok Tryz.prog 180 t180 :=
 ⟨Tryz.isAgg180,Tryz.sizeOf180,⟨_,Tryz.zeroValue180,⟨[Value.int IntKind.i64 0,Value.int IntKind.i64 0],rfl,fun S w η=>.cons (zi _) (.cons (zi _) (.nil))⟩,(fun T h=>by cases h;rfl)⟩,(fun T h=>by cases h;exact ⟨rfl,rfl⟩),⟨_,Tryz.runUnderlying180,rfl,fun w=>by simp [Tryz.sizeOf3]⟩⟩
theorem ti191:TIok Tryz.prog 191 t191 :=
 ⟨Tryz.isAgg191,Tryz.sizeOf191,⟨_,Tryz.zeroValue191,⟨[Value.int IntKind.u64 0],rfl,fun S w η=>.cons (zi _) (.nil)⟩,(fun T h=>by cases h;rfl)⟩,(fun T h=>by cases h;exact ⟨rfl,rfl⟩),Tryz.runUnderlying191⟩
theorem ti194:TIok Tryz.prog 194 t194 :=
 ⟨Tryz.isAgg194,Tryz.sizeOf194,⟨_,Tryz.zeroValue194,⟨[Value.int IntKind.i64 0,Value.int IntKind.i64 0,Value.int IntKind.i64 0,Value.int IntKind.i64 0,Value.int IntKind.i64 0,Value.int IntKind.i64 0,Value.int IntKind.i64 0,Value.int IntKind.i64 0,Value.int IntKind.i64 0,Value.int IntKind.i64 0,Value.int IntKind.i64 0,Value.int IntKind.i64 0,Value.int IntKind.i64 0],rfl,fun S w η=>.cons (zi _) (.cons (zi _) (.cons (zi _) (.cons (zi _) (.cons (zi _) (.cons (zi _) (.cons (zi _) (.cons (zi _) (.cons (zi _) (.cons (zi _) (.cons (zi _) (.cons (zi _) (.cons (zi _) (.nil)))))))))))))⟩,(fun T h=>by cases h)⟩,(fun T h=>by cases h),Tryz.runUnderlying194⟩
theorem ti205:TIok Tryz.prog 205 t205 :=
 ⟨Tryz.isAgg205,Tryz.sizeOf205,⟨_,Tryz.zeroValue205,⟨[Value.bool false],rfl,fun S w η=>.cons (zb) (.nil)⟩,(fun T h=>by cases h;rfl)⟩,(fun T h=>by cases h;exact ⟨rfl,rfl⟩),Tryz.runUnderlying205⟩
theorem ti214:TIok Tryz.prog 214 t214 :=
 ⟨Tryz.isAgg214,Tryz.sizeOf214,⟨_,Tryz.zeroValue214,⟨[Value.int IntKind.i64 0],rfl,fun S w η=>.cons (zi _) (.nil)⟩,(fun T h=>by cases h;rfl)⟩,(fun T h=>by cases h;exact ⟨rfl,rfl⟩),Tryz.runUnderlying214⟩
theorem ti223:TIok Tryz.prog 223 t223 :=
 ⟨Tryz.isAgg223,Tryz.sizeOf223,⟨_,Tryz.zeroValue223,⟨[Value.int IntKind.u32 0],rfl,fun S w η=>.cons (zi _) (.nil)⟩,(fun T h=>by cases h;rfl)⟩,(fun T h=>by cases h;exact ⟨rfl,rfl⟩),Tryz.runUnderlying223⟩
theorem ti225:TIok Tryz.prog 225 t225 :=
 ⟨Tryz.isAgg225,Tryz.sizeOf225,⟨_,Tryz.zeroValue225,⟨[Value.int IntKind.u64 0],rfl,fun S w η=>.cons (zi _) (.nil)⟩,(fun T h=>by cases h;rfl)⟩,(fun T h=>by cases h;exact ⟨rfl,rfl⟩),Tryz.runUnderlying225⟩
theorem ti229:TIok Tryz.prog 229 t229 :=
 ⟨Tryz.isAgg229,Tryz.sizeOf229,⟨_,Tryz.zeroValue229,⟨[Value.string ⟨#[]⟩,Value.int IntKind.i64 0,Value.int IntKind.i64 0,Value.int IntKind.i64 0],rfl,fun S w η=>.cons (zs) (.cons (zi _) (.cons (zi _) (.cons (zi _) (.nil))))⟩,(fun T h=>by cases h;rfl)⟩,(fun T h=>by cases h;exact ⟨rfl,rfl⟩),⟨_,Tryz.runUnderlying229,rfl,fun w=>by simp [Tryz.sizeOf3,Tryz.sizeOf9]⟩⟩
theorem ti230:TIok Tryz.prog 230 t230 :=
 ⟨Tryz.isAgg230,Tryz.sizeOf230,⟨_,Tryz.zeroValue230,⟨[Value.string ⟨#[]⟩,Value.int IntKind.i64 0,Value.int IntKind.i64 0,Value.int IntKind.i64 0],rfl,fun S w η=>.cons (zs) (.cons (zi _) (.cons (zi _) (.cons (zi _) (.nil))))⟩,(fun T h=>by cases h;rfl)⟩,(fun T h=>by cases h;exact ⟨rfl,rfl⟩),⟨_,Tryz.runUnderlying230,rfl,fun w=>by simp [Tryz.sizeOf3,Tryz.sizeOf9]⟩⟩
theorem ti231:TIok Tryz.prog 231 t231 :=
 ⟨Tryz.isAgg231,Tryz.sizeOf231,⟨_,Tryz.zeroValue231,⟨[Value.slice none 0 0],rfl,fun S w η=>.cons (rfl) (.nil)⟩,(fun T h=>by cases h;rfl)⟩,(fun T h=>by cases h;exact ⟨rfl,rfl⟩),⟨Tryz.underlying231,by decide,Tryz.t230,_,rfl,rfl,rfl,Tryz.zeroValue230,Tryz.sizeOf230⟩⟩
theorem ti232:TIok Tryz.prog 232 t232 :=
 ⟨Tryz.isAgg232,Tryz.sizeOf232,⟨_,Tryz.zeroValue232,⟨[Value.slice none 0 0],rfl,fun S w η=>.cons (rfl) (.nil)⟩,(fun T h=>by cases h;rfl)⟩,(fun T h=>by cases h;exact ⟨rfl,rfl⟩),⟨Tryz.underlying232,by decide,Tryz.t205,_,rfl,rfl,rfl,Tryz.zeroValue205,Tryz.sizeOf205⟩⟩
theorem ti240:TIok Tryz.prog 240 t240 :=
 ⟨Tryz.isAgg240,Tryz.sizeOf240,⟨_,Tryz.zeroValue240,⟨[Value.int IntKind.u64 0],rfl,fun S w η=>.cons (zi _) (.nil)⟩,(fun T h=>by cases h;rfl)⟩,(fun T h=>by cases h;exact ⟨rfl,rfl⟩),Tryz.runUnderlying240⟩
theorem ti244:TIok Tryz.prog 244 t244 :=
 ⟨Tryz.isAgg244,Tryz.sizeOf244,⟨_,Tryz.zeroValue244,⟨[Value.pointer none],rfl,fun S w η=>.cons (rfl) (.nil)⟩,(fun T h=>by cases h)⟩,(fun T h=>by cases h),Tryz.runUnderlying244⟩
theorem ti260:TIok Tryz.prog 260 t260 :=
 ⟨Tryz.isAgg260,Tryz.sizeOf260,⟨_,Tryz.zeroValue260,⟨[Value.pointer none],rfl,fun S w η=>.cons (rfl) (.nil)⟩,(fun T h=>by cases h)⟩,(fun T h=>by cases h),Tryz.runUnderlying260⟩
theorem ti269:TIok Tryz.prog 269 t269 :=
 ⟨Tryz.isAgg269,Tryz.sizeOf269,⟨_,Tryz.zeroValue269,⟨[Value.pointer none,Value.pointer none,Value.pointer none,Value.string ⟨#[]⟩],rfl,fun S w η=>.cons (rfl) (.cons (rfl) (.cons (rfl) (.cons (zs) (.nil))))⟩,(fun T h=>by cases h)⟩,(fun T h=>by cases h),⟨_,Tryz.runUnderlying269,rfl,fun w=>by simp [Tryz.sizeOf17,Tryz.sizeOf9]⟩⟩
theorem ti272:TIok Tryz.prog 272 t272 :=
 ⟨Tryz.isAgg272,Tryz.sizeOf272,⟨_,Tryz.zeroValue272,⟨[],rfl,fun S w η=>.nil⟩,(fun T h=>by cases h)⟩,(fun T h=>by cases h),trivial⟩
theorem ti278:TIok Tryz.prog 278 t278 :=
 ⟨Tryz.isAgg278,Tryz.sizeOf278,⟨_,Tryz.zeroValue278,⟨[Value.pointer none],rfl,fun S w η=>.cons (rfl) (.nil)⟩,(fun T h=>by cases h)⟩,(fun T h=>by cases h),Tryz.runUnderlying278⟩
theorem ti281:TIok Tryz.prog 281 t281 :=
 ⟨Tryz.isAgg281,Tryz.sizeOf281,⟨_,Tryz.zeroValue281,⟨[Value.int IntKind.u64 0,Value.int IntKind.u64 0,Value.int IntKind.u32 0,Value.int IntKind.u8 0,Value.int IntKind.u8 0,Value.int IntKind.u8 0,Value.int IntKind.u8 0,Value.nilFunc,Value.pointer none,Value.int IntKind.i32 0,Value.int IntKind.i32 0],rfl,fun S w η=>.cons (zi _) (.cons (zi _) (.cons (zi _) (.cons (zi _) (.cons (zi _) (.cons (zi _) (.cons (zi _) (.cons (rfl) (.cons (rfl) (.cons (zi _) (.cons (zi _) (.nil)))))))))))⟩,(fun T h=>by cases h)⟩,(fun T h=>by cases h),trivial⟩
theorem tyOK:∀ id ti,lk tyTab id=some ti→TIok Tryz.prog id ti:=by
 unfold tyTab
 exact lk_all (oF Tryz.isAgg1 Tryz.sizeOf1 Tryz.zeroValue1 Tryz.runUnderlying1) <| lk_all ti2 <| lk_all ti3 <| lk_all ti4 <| lk_all ti5 <| lk_all ti7 <| lk_all ti9 <| lk_all ti12 <| lk_all ti13 <| lk_all ti15 <| lk_all ti16 <| lk_all ti17 <| lk_all ti18 <| lk_all ti20 <| lk_all ti21 <| lk_all ti22 <| lk_all ti23 <| lk_all ti24 <| lk_all ti25 <| lk_all ti26 <| lk_all ti27 <| lk_all ti28 <| lk_all ti29 <| lk_all ti30 <| lk_all ti31 <| lk_all ti32 <| lk_all (oF Tryz.isAgg36 Tryz.sizeOf36 Tryz.zeroValue36 Tryz.runUnderlying36) <| lk_all ti42 <| lk_all ti43 <| lk_all ti46 <| lk_all ti47 <| lk_all ti50 <| lk_all ti51 <| lk_all ti55 <| lk_all ti59 <| lk_all ti60 <| lk_all ti61 <| lk_all ti64 <| lk_all ti69 <| lk_all ti70 <| lk_all ti82 <| lk_all ti83 <| lk_all ti84 <| lk_all ti85 <| lk_all ti86 <| lk_all ti87 <| lk_all ti93 <| lk_all (oF Tryz.isAgg100 Tryz.sizeOf100 Tryz.zeroValue100 Tryz.runUnderlying100) <| lk_all (oF Tryz.isAgg103 Tryz.sizeOf103 Tryz.zeroValue103 Tryz.runUnderlying103) <| lk_all ti106 <| lk_all (oF Tryz.isAgg107 Tryz.sizeOf107 Tryz.zeroValue107 Tryz.runUnderlying107) <| lk_all ti110 <| lk_all ti111 <| lk_all ti119 <| lk_all ti120 <| lk_all ti124 <| lk_all ti126 <| lk_all ti127 <| lk_all ti135 <| lk_all ti136 <| lk_all ti137 <| lk_all ti142 <| lk_all (oF Tryz.isAgg144 Tryz.sizeOf144 Tryz.zeroValue144 Tryz.runUnderlying144) <| lk_all (oF Tryz.isAgg147 Tryz.sizeOf147 Tryz.zeroValue147 Tryz.runUnderlying147) <| lk_all (oF Tryz.isAgg148 Tryz.sizeOf148 Tryz.zeroValue148 Tryz.runUnderlying148) <| lk_all (oF Tryz.isAgg149 Tryz.sizeOf149 Tryz.zeroValue149 Tryz.runUnderlying149) <| lk_all ti151 <| lk_all (oF Tryz.isAgg157 Tryz.sizeOf157 Tryz.zeroValue157 Tryz.runUnderlying157) <| lk_all ti162 <| lk_all ti163 <| lk_all (oF Tryz.isAgg164 Tryz.sizeOf164 Tryz.zeroValue164 Tryz.runUnderlying164) <| lk_all (oF Tryz.isAgg170 Tryz.sizeOf170 Tryz.zeroValue170 Tryz.runUnderlying170) <| lk_all (oF Tryz.isAgg172 Tryz.sizeOf172 Tryz.zeroValue172 Tryz.runUnderlying172) <| lk_all ti176 <| lk_all ti179 <| lk_all ti180 <| lk_all (oF Tryz.isAgg185 Tryz.sizeOf185 Tryz.zeroValue185 Tryz.runUnderlying185) <| lk_all ti191 <| lk_all (oF Tryz.isAgg193 Tryz.sizeOf193 Tryz.zeroValue193 Tryz.runUnderlying193) <| lk_all ti194 <| lk_all (oF Tryz.isAgg201 Tryz.sizeOf201 Tryz.zeroValue201 Tryz.runUnderlying201) <| lk_all (oF Tryz.isAgg204 Tryz.sizeOf204 Tryz.zeroValue204 Tryz.runUnderlying204) <| lk_all ti205 <| lk_all (oF Tryz.isAgg212 Tryz.sizeOf212 Tryz.zeroValue212 Tryz.runUnderlying212) <| lk_all ti214 <| lk_all (oF Tryz.isAgg218 Tryz.sizeOf218 Tryz.zeroValue218 Tryz.runUnderlying218) <| lk_all ti223 <| lk_all ti225 <| lk_all ti229 <| lk_all ti230 <| lk_all ti231 <| lk_all ti232 <| lk_all (oF Tryz.isAgg237 Tryz.sizeOf237 Tryz.zeroValue237 Tryz.runUnderlying237) <| lk_all ti240 <| lk_all ti244 <| lk_all (oF Tryz.isAgg253 Tryz.sizeOf253 Tryz.zeroValue253 Tryz.runUnderlying253) <| lk_all ti260 <| lk_all ti269 <| lk_all ti272 <| lk_all ti278 <| lk_all ti281 <| lk_none
noncomputable def fnTab:List (FuncId×Func):=[(3,Tryz.f3),(4,Tryz.f4),(5,Tryz.f5),(6,Tryz.f6),(7,Tryz.f7),(8,Tryz.f8),(9,Tryz.f9),(10,Tryz.f10),(11,Tryz.f11),(12,Tryz.f12),(13,Tryz.f13),(14,Tryz.f14),(15,Tryz.f15),(16,Tryz.f16),(17,Tryz.f17),(18,Tryz.f18),(19,Tryz.f19),(20,Tryz.f20),(21,Tryz.f21),(22,Tryz.f22),(23,Tryz.f23),(24,Tryz.f24),(25,Tryz.f25),(26,Tryz.f26),(27,Tryz.f27),(28,Tryz.f28),(29,Tryz.f29),(30,Tryz.f30),(31,Tryz.f31),(32,Tryz.f32),(33,Tryz.f33),(34,Tryz.f34),(35,Tryz.f35),(36,Tryz.f36),(37,Tryz.f37),(38,Tryz.f38),(39,Tryz.f39),(40,Tryz.f40),(41,Tryz.f41),(42,Tryz.f42),(43,Tryz.f43),(44,Tryz.f44),(45,Tryz.f45),(46,Tryz.f46),(47,Tryz.f47),(48,Tryz.f48),(49,Tryz.f49),(50,Tryz.f50),(51,Tryz.f51),(52,Tryz.f52),(53,Tryz.f53),(54,Tryz.f54),(55,Tryz.f55),(56,Tryz.f56),(57,Tryz.f57),(58,Tryz.f58),(59,Tryz.f59),(60,Tryz.f60),(61,Tryz.f61),(62,Tryz.f62),(63,Tryz.f63),(64,Tryz.f64),(65,Tryz.f65),(66,Tryz.f66),(67,Tryz.f67),(68,Tryz.f68),(69,Tryz.f69),(70,Tryz.f70),(71,Tryz.f71),(72,Tryz.f72),(73,Tryz.f73),(74,Tryz.f74),(75,Tryz.f75),(76,Tryz.f76),(77,Tryz.f77),(78,Tryz.f78),(79,Tryz.f79),(80,Tryz.f80),(81,Tryz.f81),(82,Tryz.f82),(83,Tryz.f83),(84,Tryz.f84),(85,Tryz.f85),(86,Tryz.f86),(87,Tryz.f87),(88,Tryz.f88),(89,Tryz.f89),(90,Tryz.f90),(91,Tryz.f91),(92,Tryz.f92),(93,Tryz.f93),(96,Tryz.f96),(97,Tryz.f97),(98,Tryz.f98),(99,Tryz.f99),(100,Tryz.f100),(101,Tryz.f101),(102,Tryz.f102),(103,Tryz.f103),(104,Tryz.f104),(105,Tryz.f105),(106,Tryz.f106),(107,Tryz.f107),(108,Tryz.f108),(109,Tryz.f109),(110,Tryz.f110),(111,Tryz.f111),(112,Tryz.f112),(113,Tryz.f113),(114,Tryz.f114),(115,Tryz.f115),(116,Tryz.f116),(117,Tryz.f117),(118,Tryz.f118),(119,Tryz.f119),(120,Tryz.f120),(121,Tryz.f121),(122,Tryz.f122),(123,Tryz.f123),(124,Tryz.f124),(125,Tryz.f125),(126,Tryz.f126),(127,Tryz.f127),(128,Tryz.f128),(129,Tryz.f129),(130,Tryz.f130),(131,Tryz.f131),(132,Tryz.f132),(133,Tryz.f133),(134,Tryz.f134),(135,Tryz.f135),(136,Tryz.f136),(137,Tryz.f137),(138,Tryz.f138),(139,Tryz.f139),(140,Tryz.f140),(141,Tryz.f141),(143,Tryz.f143),(144,Tryz.f144),(145,Tryz.f145),(146,Tryz.f146),(147,Tryz.f147),(148,Tryz.f148),(149,Tryz.f149),(150,Tryz.f150),(151,Tryz.f151),(152,Tryz.f152),(153,Tryz.f153),(154,Tryz.f154),(156,Tryz.f156),(157,Tryz.f157),(158,Tryz.f158),(159,Tryz.f159),(160,Tryz.f160),(161,Tryz.f161),(163,Tryz.f163),(164,Tryz.f164),(165,Tryz.f165),(172,Tryz.f172),(175,Tryz.f175),(176,Tryz.f176),(177,Tryz.f177),(178,Tryz.f178),(179,Tryz.f179),(180,Tryz.f180),(181,Tryz.f181),(182,Tryz.f182),(184,Tryz.f184),(185,Tryz.f185),(186,Tryz.f186),(187,Tryz.f187),(188,Tryz.f188),(189,Tryz.f189),(190,Tryz.f190),(191,Tryz.f191),(195,Tryz.f195),(198,Tryz.f198),(199,Tryz.f199),(200,Tryz.f200),(201,Tryz.f201),(210,Tryz.f210),(211,Tryz.f211),(212,Tryz.f212),(225,Tryz.f225)]
abbrev pF (f:FuncId) (fn:Func):Prop:=Tryz.prog.funcs[f]? = some fn∧∀ (args:Array Value) (w:World),(callFunc f args).run Tryz.prog w=.ok (.enter f args) w
theorem pf {f:FuncId} {fn:Func} (h:Tryz.prog.funcs[f]? = some fn) (h2:∀ (args:Array Value) (w:World),(callFunc f args).run Tryz.prog w=.ok (.enter f args) w):pF f fn:=⟨h,h2⟩
theorem fnOK:∀ f fn,lk fnTab f=some fn→Tryz.prog.funcs[f]? = some fn∧∀ (args:Array Value) (w:World),(callFunc f args).run Tryz.prog w=.ok (.enter f args) w:=by
 unfold fnTab
 change ∀ f fn,_→pF f fn
 exact lk_all (pf Tryz.func3 Tryz.call3) <| lk_all (pf Tryz.func4 Tryz.call4) <| lk_all (pf Tryz.func5 Tryz.call5) <| lk_all (pf Tryz.func6 Tryz.call6) <| lk_all (pf Tryz.func7 Tryz.call7) <| lk_all (pf Tryz.func8 Tryz.call8) <| lk_all (pf Tryz.func9 Tryz.call9) <| lk_all (pf Tryz.func10 Tryz.call10) <| lk_all (pf Tryz.func11 Tryz.call11) <| lk_all (pf Tryz.func12 Tryz.call12) <| lk_all (pf Tryz.func13 Tryz.call13) <| lk_all (pf Tryz.func14 Tryz.call14) <| lk_all (pf Tryz.func15 Tryz.call15) <| lk_all (pf Tryz.func16 Tryz.call16) <| lk_all (pf Tryz.func17 Tryz.call17) <| lk_all (pf Tryz.func18 Tryz.call18) <| lk_all (pf Tryz.func19 Tryz.call19) <| lk_all (pf Tryz.func20 Tryz.call20) <| lk_all (pf Tryz.func21 Tryz.call21) <| lk_all (pf Tryz.func22 Tryz.call22) <| lk_all (pf Tryz.func23 Tryz.call23) <| lk_all (pf Tryz.func24 Tryz.call24) <| lk_all (pf Tryz.func25 Tryz.call25) <| lk_all (pf Tryz.func26 Tryz.call26) <| lk_all (pf Tryz.func27 Tryz.call27) <| lk_all (pf Tryz.func28 Tryz.call28) <| lk_all (pf Tryz.func29 Tryz.call29) <| lk_all (pf Tryz.func30 Tryz.call30) <| lk_all (pf Tryz.func31 Tryz.call31) <| lk_all (pf Tryz.func32 Tryz.call32) <| lk_all (pf Tryz.func33 Tryz.call33) <| lk_all (pf Tryz.func34 Tryz.call34) <| lk_all (pf Tryz.func35 Tryz.call35) <| lk_all (pf Tryz.func36 Tryz.call36) <| lk_all (pf Tryz.func37 Tryz.call37) <| lk_all (pf Tryz.func38 Tryz.call38) <| lk_all (pf Tryz.func39 Tryz.call39) <| lk_all (pf Tryz.func40 Tryz.call40) <| lk_all (pf Tryz.func41 Tryz.call41) <| lk_all (pf Tryz.func42 Tryz.call42) <| lk_all (pf Tryz.func43 Tryz.call43) <| lk_all (pf Tryz.func44 Tryz.call44) <| lk_all (pf Tryz.func45 Tryz.call45) <| lk_all (pf Tryz.func46 Tryz.call46) <| lk_all (pf Tryz.func47 Tryz.call47) <| lk_all (pf Tryz.func48 Tryz.call48) <| lk_all (pf Tryz.func49 Tryz.call49) <| lk_all (pf Tryz.func50 Tryz.call50) <| lk_all (pf Tryz.func51 Tryz.call51) <| lk_all (pf Tryz.func52 Tryz.call52) <| lk_all (pf Tryz.func53 Tryz.call53) <| lk_all (pf Tryz.func54 Tryz.call54) <| lk_all (pf Tryz.func55 Tryz.call55) <| lk_all (pf Tryz.func56 Tryz.call56) <| lk_all (pf Tryz.func57 Tryz.call57) <| lk_all (pf Tryz.func58 Tryz.call58) <| lk_all (pf Tryz.func59 Tryz.call59) <| lk_all (pf Tryz.func60 Tryz.call60) <| lk_all (pf Tryz.func61 Tryz.call61) <| lk_all (pf Tryz.func62 Tryz.call62) <| lk_all (pf Tryz.func63 Tryz.call63) <| lk_all (pf Tryz.func64 Tryz.call64) <| lk_all (pf Tryz.func65 Tryz.call65) <| lk_all (pf Tryz.func66 Tryz.call66) <| lk_all (pf Tryz.func67 Tryz.call67) <| lk_all (pf Tryz.func68 Tryz.call68) <| lk_all (pf Tryz.func69 Tryz.call69) <| lk_all (pf Tryz.func70 Tryz.call70) <| lk_all (pf Tryz.func71 Tryz.call71) <| lk_all (pf Tryz.func72 Tryz.call72) <| lk_all (pf Tryz.func73 Tryz.call73) <| lk_all (pf Tryz.func74 Tryz.call74) <| lk_all (pf Tryz.func75 Tryz.call75) <| lk_all (pf Tryz.func76 Tryz.call76) <| lk_all (pf Tryz.func77 Tryz.call77) <| lk_all (pf Tryz.func78 Tryz.call78) <| lk_all (pf Tryz.func79 Tryz.call79) <| lk_all (pf Tryz.func80 Tryz.call80) <| lk_all (pf Tryz.func81 Tryz.call81) <| lk_all (pf Tryz.func82 Tryz.call82) <| lk_all (pf Tryz.func83 Tryz.call83) <| lk_all (pf Tryz.func84 Tryz.call84) <| lk_all (pf Tryz.func85 Tryz.call85) <| lk_all (pf Tryz.func86 Tryz.call86) <| lk_all (pf Tryz.func87 Tryz.call87) <| lk_all (pf Tryz.func88 Tryz.call88) <| lk_all (pf Tryz.func89 Tryz.call89) <| lk_all (pf Tryz.func90 Tryz.call90) <| lk_all (pf Tryz.func91 Tryz.call91) <| lk_all (pf Tryz.func92 Tryz.call92) <| lk_all (pf Tryz.func93 Tryz.call93) <| lk_all (pf Tryz.func96 Tryz.call96) <| lk_all (pf Tryz.func97 Tryz.call97) <| lk_all (pf Tryz.func98 Tryz.call98) <| lk_all (pf Tryz.func99 Tryz.call99) <| lk_all (pf Tryz.func100 Tryz.call100) <| lk_all (pf Tryz.func101 Tryz.call101) <| lk_all (pf Tryz.func102 Tryz.call102) <| lk_all (pf Tryz.func103 Tryz.call103) <| lk_all (pf Tryz.func104 Tryz.call104) <| lk_all (pf Tryz.func105 Tryz.call105) <| lk_all (pf Tryz.func106 Tryz.call106) <| lk_all (pf Tryz.func107 Tryz.call107) <| lk_all (pf Tryz.func108 Tryz.call108) <| lk_all (pf Tryz.func109 Tryz.call109) <| lk_all (pf Tryz.func110 Tryz.call110) <| lk_all (pf Tryz.func111 Tryz.call111) <| lk_all (pf Tryz.func112 Tryz.call112) <| lk_all (pf Tryz.func113 Tryz.call113) <| lk_all (pf Tryz.func114 Tryz.call114) <| lk_all (pf Tryz.func115 Tryz.call115) <| lk_all (pf Tryz.func116 Tryz.call116) <| lk_all (pf Tryz.func117 Tryz.call117) <| lk_all (pf Tryz.func118 Tryz.call118) <| lk_all (pf Tryz.func119 Tryz.call119) <| lk_all (pf Tryz.func120 Tryz.call120) <| lk_all (pf Tryz.func121 Tryz.call121) <| lk_all (pf Tryz.func122 Tryz.call122) <| lk_all (pf Tryz.func123 Tryz.call123) <| lk_all (pf Tryz.func124 Tryz.call124) <| lk_all (pf Tryz.func125 Tryz.call125) <| lk_all (pf Tryz.func126 Tryz.call126) <| lk_all (pf Tryz.func127 Tryz.call127) <| lk_all (pf Tryz.func128 Tryz.call128) <| lk_all (pf Tryz.func129 Tryz.call129) <| lk_all (pf Tryz.func130 Tryz.call130) <| lk_all (pf Tryz.func131 Tryz.call131) <| lk_all (pf Tryz.func132 Tryz.call132) <| lk_all (pf Tryz.func133 Tryz.call133) <| lk_all (pf Tryz.func134 Tryz.call134) <| lk_all (pf Tryz.func135 Tryz.call135) <| lk_all (pf Tryz.func136 Tryz.call136) <| lk_all (pf Tryz.func137 Tryz.call137) <| lk_all (pf Tryz.func138 Tryz.call138) <| lk_all (pf Tryz.func139 Tryz.call139) <| lk_all (pf Tryz.func140 Tryz.call140) <| lk_all (pf Tryz.func141 Tryz.call141) <| lk_all (pf Tryz.func143 Tryz.call143) <| lk_all (pf Tryz.func144 Tryz.call144) <| lk_all (pf Tryz.func145 Tryz.call145) <| lk_all (pf Tryz.func146 Tryz.call146) <| lk_all (pf Tryz.func147 Tryz.call147) <| lk_all (pf Tryz.func148 Tryz.call148) <| lk_all (pf Tryz.func149 Tryz.call149) <| lk_all (pf Tryz.func150 Tryz.call150) <| lk_all (pf Tryz.func151 Tryz.call151) <| lk_all (pf Tryz.func152 Tryz.call152) <| lk_all (pf Tryz.func153 Tryz.call153) <| lk_all (pf Tryz.func154 Tryz.call154) <| lk_all (pf Tryz.func156 Tryz.call156) <| lk_all (pf Tryz.func157 Tryz.call157) <| lk_all (pf Tryz.func158 Tryz.call158) <| lk_all (pf Tryz.func159 Tryz.call159) <| lk_all (pf Tryz.func160 Tryz.call160) <| lk_all (pf Tryz.func161 Tryz.call161) <| lk_all (pf Tryz.func163 Tryz.call163) <| lk_all (pf Tryz.func164 Tryz.call164) <| lk_all (pf Tryz.func165 Tryz.call165) <| lk_all (pf Tryz.func172 Tryz.call172) <| lk_all (pf Tryz.func175 Tryz.call175) <| lk_all (pf Tryz.func176 Tryz.call176) <| lk_all (pf Tryz.func177 Tryz.call177) <| lk_all (pf Tryz.func178 Tryz.call178) <| lk_all (pf Tryz.func179 Tryz.call179) <| lk_all (pf Tryz.func180 Tryz.call180) <| lk_all (pf Tryz.func181 Tryz.call181) <| lk_all (pf Tryz.func182 Tryz.call182) <| lk_all (pf Tryz.func184 Tryz.call184) <| lk_all (pf Tryz.func185 Tryz.call185) <| lk_all (pf Tryz.func186 Tryz.call186) <| lk_all (pf Tryz.func187 Tryz.call187) <| lk_all (pf Tryz.func188 Tryz.call188) <| lk_all (pf Tryz.func189 Tryz.call189) <| lk_all (pf Tryz.func190 Tryz.call190) <| lk_all (pf Tryz.func191 Tryz.call191) <| lk_all (pf Tryz.func195 Tryz.call195) <| lk_all (pf Tryz.func198 Tryz.call198) <| lk_all (pf Tryz.func199 Tryz.call199) <| lk_all (pf Tryz.func200 Tryz.call200) <| lk_all (pf Tryz.func201 Tryz.call201) <| lk_all (pf Tryz.func210 Tryz.call210) <| lk_all (pf Tryz.func211 Tryz.call211) <| lk_all (pf Tryz.func212 Tryz.call212) <| lk_all (pf Tryz.func225 Tryz.call225) <| lk_none
set_option maxRecDepth 100000 in
theorem eqOK47:EqOK Tryz.prog 47 [.int .i64,.int .i64]:=by
 refine ⟨by kernel_rfl,fun vs us h1 h2 w=>?_⟩
 rcases h1 with _ | ⟨⟨a0,rfl⟩,_ | ⟨⟨a1,rfl⟩,_ | _⟩⟩
 rcases h2 with _ | ⟨⟨b0,rfl⟩,_ | ⟨⟨b1,rfl⟩,_ | _⟩⟩
 have u3:=Tryz.underlying3
 have x3:=Tryz.isAgg3
 have z3:=Tryz.sizeOf3
 have hS:Tryz.prog.underlying 47=some (.struct (Tryz.prog.fieldsOf 47)):=by kernel_rfl
 have hp:Tryz.prog.stoodInHeld 47=false:=by kernel_rfl
 rw [show (10000:Nat)=9999+1 from rfl,run_equalIn_agg w 9999 47 _ _ hS hp]
 simp only [Program.fieldsOf,Tryz.underlying47]
 go_simp
 by_cases e0:a0=b0
 all_goals by_cases e1:a1=b1
 all_goals simp [eqVs,eqV,ByteArray.toList_eq,e0,e1]
set_option maxRecDepth 100000 in
theorem eqOK51:EqOK Tryz.prog 51 [.int .i64,.int .i64,.int .i64,.int .i64,.int .i64]:=by
 refine ⟨by kernel_rfl,fun vs us h1 h2 w=>?_⟩
 rcases h1 with _ | ⟨⟨a0,rfl⟩,_ | ⟨⟨a1,rfl⟩,_ | ⟨⟨a2,rfl⟩,_ | ⟨⟨a3,rfl⟩,_ | ⟨⟨a4,rfl⟩,_ | _⟩⟩⟩⟩⟩
 rcases h2 with _ | ⟨⟨b0,rfl⟩,_ | ⟨⟨b1,rfl⟩,_ | ⟨⟨b2,rfl⟩,_ | ⟨⟨b3,rfl⟩,_ | ⟨⟨b4,rfl⟩,_ | _⟩⟩⟩⟩⟩
 have u3:=Tryz.underlying3
 have x3:=Tryz.isAgg3
 have z3:=Tryz.sizeOf3
 have hS:Tryz.prog.underlying 51=some (.struct (Tryz.prog.fieldsOf 51)):=by kernel_rfl
 have hp:Tryz.prog.stoodInHeld 51=false:=by kernel_rfl
 rw [show (10000:Nat)=9999+1 from rfl,run_equalIn_agg w 9999 51 _ _ hS hp]
 simp only [Program.fieldsOf,Tryz.underlying51]
 go_simp
 by_cases e0:a0=b0
 all_goals by_cases e1:a1=b1
 all_goals by_cases e2:a2=b2
 all_goals by_cases e3:a3=b3
 all_goals by_cases e4:a4=b4
 all_goals simp [eqVs,eqV,ByteArray.toList_eq,e0,e1,e2,e3,e4]
set_option maxRecDepth 100000 in
theorem eqOK83:EqOK Tryz.prog 83 [.int .i64,.int .i64]:=by
 refine ⟨by kernel_rfl,fun vs us h1 h2 w=>?_⟩
 rcases h1 with _ | ⟨⟨a0,rfl⟩,_ | ⟨⟨a1,rfl⟩,_ | _⟩⟩
 rcases h2 with _ | ⟨⟨b0,rfl⟩,_ | ⟨⟨b1,rfl⟩,_ | _⟩⟩
 have u3:=Tryz.underlying3
 have x3:=Tryz.isAgg3
 have z3:=Tryz.sizeOf3
 have hS:Tryz.prog.underlying 83=some (.struct (Tryz.prog.fieldsOf 83)):=by kernel_rfl
 have hp:Tryz.prog.stoodInHeld 83=false:=by kernel_rfl
 rw [show (10000:Nat)=9999+1 from rfl,run_equalIn_agg w 9999 83 _ _ hS hp]
 simp only [Program.fieldsOf,Tryz.underlying83]
 go_simp
 by_cases e0:a0=b0
 all_goals by_cases e1:a1=b1
 all_goals simp [eqVs,eqV,ByteArray.toList_eq,e0,e1]
set_option maxRecDepth 100000 in
theorem eqOK85:EqOK Tryz.prog 85 [.int .i64,.int .i64,.int .i64,.int .i64,.int .i64,.int .i64,.int .i64]:=by
 refine ⟨by kernel_rfl,fun vs us h1 h2 w=>?_⟩
 rcases h1 with _ | ⟨⟨a0,rfl⟩,_ | ⟨⟨a1,rfl⟩,_ | ⟨⟨a2,rfl⟩,_ | ⟨⟨a3,rfl⟩,_ | ⟨⟨a4,rfl⟩,_ | ⟨⟨a5,rfl⟩,_ | ⟨⟨a6,rfl⟩,_ | _⟩⟩⟩⟩⟩⟩⟩
 rcases h2 with _ | ⟨⟨b0,rfl⟩,_ | ⟨⟨b1,rfl⟩,_ | ⟨⟨b2,rfl⟩,_ | ⟨⟨b3,rfl⟩,_ | ⟨⟨b4,rfl⟩,_ | ⟨⟨b5,rfl⟩,_ | ⟨⟨b6,rfl⟩,_ | _⟩⟩⟩⟩⟩⟩⟩
 have u3:=Tryz.underlying3
 have x3:=Tryz.isAgg3
 have z3:=Tryz.sizeOf3
 have hS:Tryz.prog.underlying 85=some (.struct (Tryz.prog.fieldsOf 85)):=by kernel_rfl
 have hp:Tryz.prog.stoodInHeld 85=false:=by kernel_rfl
 rw [show (10000:Nat)=9999+1 from rfl,run_equalIn_agg w 9999 85 _ _ hS hp]
 simp only [Program.fieldsOf,Tryz.underlying85]
 go_simp
 by_cases e0:a0=b0
 all_goals by_cases e1:a1=b1
 all_goals by_cases e2:a2=b2
 all_goals by_cases e3:a3=b3
 all_goals by_cases e4:a4=b4
 all_goals by_cases e5:a5=b5
 all_goals by_cases e6:a6=b6
 all_goals simp [eqVs,eqV,ByteArray.toList_eq,e0,e1,e2,e3,e4,e5,e6]
set_option maxRecDepth 100000 in
theorem eqOK106:EqOK Tryz.prog 106 [.int .i64,.int .i64,.int .i64,.int .i64,.int .i64]:=by
 refine ⟨by kernel_rfl,fun vs us h1 h2 w=>?_⟩
 rcases h1 with _ | ⟨⟨a0,rfl⟩,_ | ⟨⟨a1,rfl⟩,_ | ⟨⟨a2,rfl⟩,_ | ⟨⟨a3,rfl⟩,_ | ⟨⟨a4,rfl⟩,_ | _⟩⟩⟩⟩⟩
 rcases h2 with _ | ⟨⟨b0,rfl⟩,_ | ⟨⟨b1,rfl⟩,_ | ⟨⟨b2,rfl⟩,_ | ⟨⟨b3,rfl⟩,_ | ⟨⟨b4,rfl⟩,_ | _⟩⟩⟩⟩⟩
 have u3:=Tryz.underlying3
 have x3:=Tryz.isAgg3
 have z3:=Tryz.sizeOf3
 have hS:Tryz.prog.underlying 106=some (.struct (Tryz.prog.fieldsOf 106)):=by kernel_rfl
 have hp:Tryz.prog.stoodInHeld 106=false:=by kernel_rfl
 rw [show (10000:Nat)=9999+1 from rfl,run_equalIn_agg w 9999 106 _ _ hS hp]
 simp only [Program.fieldsOf,Tryz.underlying106]
 go_simp
 by_cases e0:a0=b0
 all_goals by_cases e1:a1=b1
 all_goals by_cases e2:a2=b2
 all_goals by_cases e3:a3=b3
 all_goals by_cases e4:a4=b4
 all_goals simp [eqVs,eqV,ByteArray.toList_eq,e0,e1,e2,e3,e4]
set_option maxRecDepth 100000 in
theorem eqOK111:EqOK Tryz.prog 111 [.int .i64,.int .i64,.int .i64]:=by
 refine ⟨by kernel_rfl,fun vs us h1 h2 w=>?_⟩
 rcases h1 with _ | ⟨⟨a0,rfl⟩,_ | ⟨⟨a1,rfl⟩,_ | ⟨⟨a2,rfl⟩,_ | _⟩⟩⟩
 rcases h2 with _ | ⟨⟨b0,rfl⟩,_ | ⟨⟨b1,rfl⟩,_ | ⟨⟨b2,rfl⟩,_ | _⟩⟩⟩
 have u3:=Tryz.underlying3
 have x3:=Tryz.isAgg3
 have z3:=Tryz.sizeOf3
 have hS:Tryz.prog.underlying 111=some (.struct (Tryz.prog.fieldsOf 111)):=by kernel_rfl
 have hp:Tryz.prog.stoodInHeld 111=false:=by kernel_rfl
 rw [show (10000:Nat)=9999+1 from rfl,run_equalIn_agg w 9999 111 _ _ hS hp]
 simp only [Program.fieldsOf,Tryz.underlying111]
 go_simp
 by_cases e0:a0=b0
 all_goals by_cases e1:a1=b1
 all_goals by_cases e2:a2=b2
 all_goals simp [eqVs,eqV,ByteArray.toList_eq,e0,e1,e2]
set_option maxRecDepth 100000 in
theorem eqOK127:EqOK Tryz.prog 127 [.int .i64,.int .i64,.int .i64]:=by
 refine ⟨by kernel_rfl,fun vs us h1 h2 w=>?_⟩
 rcases h1 with _ | ⟨⟨a0,rfl⟩,_ | ⟨⟨a1,rfl⟩,_ | ⟨⟨a2,rfl⟩,_ | _⟩⟩⟩
 rcases h2 with _ | ⟨⟨b0,rfl⟩,_ | ⟨⟨b1,rfl⟩,_ | ⟨⟨b2,rfl⟩,_ | _⟩⟩⟩
 have u3:=Tryz.underlying3
 have x3:=Tryz.isAgg3
 have z3:=Tryz.sizeOf3
 have hS:Tryz.prog.underlying 127=some (.struct (Tryz.prog.fieldsOf 127)):=by kernel_rfl
 have hp:Tryz.prog.stoodInHeld 127=false:=by kernel_rfl
 rw [show (10000:Nat)=9999+1 from rfl,run_equalIn_agg w 9999 127 _ _ hS hp]
 simp only [Program.fieldsOf,Tryz.underlying127]
 go_simp
 by_cases e0:a0=b0
 all_goals by_cases e1:a1=b1
 all_goals by_cases e2:a2=b2
 all_goals simp [eqVs,eqV,ByteArray.toList_eq,e0,e1,e2]
set_option maxRecDepth 100000 in
theorem eqOK180:EqOK Tryz.prog 180 [.int .i64,.int .i64]:=by
 refine ⟨by kernel_rfl,fun vs us h1 h2 w=>?_⟩
 rcases h1 with _ | ⟨⟨a0,rfl⟩,_ | ⟨⟨a1,rfl⟩,_ | _⟩⟩
 rcases h2 with _ | ⟨⟨b0,rfl⟩,_ | ⟨⟨b1,rfl⟩,_ | _⟩⟩
 have u3:=Tryz.underlying3
 have x3:=Tryz.isAgg3
 have z3:=Tryz.sizeOf3
 have hS:Tryz.prog.underlying 180=some (.struct (Tryz.prog.fieldsOf 180)):=by kernel_rfl
 have hp:Tryz.prog.stoodInHeld 180=false:=by kernel_rfl
 rw [show (10000:Nat)=9999+1 from rfl,run_equalIn_agg w 9999 180 _ _ hS hp]
 simp only [Program.fieldsOf,Tryz.underlying180]
 go_simp
 by_cases e0:a0=b0
 all_goals by_cases e1:a1=b1
 all_goals simp [eqVs,eqV,ByteArray.toList_eq,e0,e1]
set_option maxRecDepth 100000 in
theorem eqOK230:EqOK Tryz.prog 230 [.str,.int .i64,.int .i64,.int .i64]:=by
 refine ⟨by kernel_rfl,fun vs us h1 h2 w=>?_⟩
 rcases h1 with _ | ⟨⟨a0,rfl⟩,_ | ⟨⟨a1,rfl⟩,_ | ⟨⟨a2,rfl⟩,_ | ⟨⟨a3,rfl⟩,_ | _⟩⟩⟩⟩
 rcases h2 with _ | ⟨⟨b0,rfl⟩,_ | ⟨⟨b1,rfl⟩,_ | ⟨⟨b2,rfl⟩,_ | ⟨⟨b3,rfl⟩,_ | _⟩⟩⟩⟩
 have u3:=Tryz.underlying3
 have x3:=Tryz.isAgg3
 have z3:=Tryz.sizeOf3
 have u9:=Tryz.underlying9
 have x9:=Tryz.isAgg9
 have z9:=Tryz.sizeOf9
 have hS:Tryz.prog.underlying 230=some (.struct (Tryz.prog.fieldsOf 230)):=by kernel_rfl
 have hp:Tryz.prog.stoodInHeld 230=false:=by kernel_rfl
 rw [show (10000:Nat)=9999+1 from rfl,run_equalIn_agg w 9999 230 _ _ hS hp]
 simp only [Program.fieldsOf,Tryz.underlying230]
 go_simp
 by_cases e0:a0.data.toList=b0.data.toList
 all_goals by_cases e1:a1=b1
 all_goals by_cases e2:a2=b2
 all_goals by_cases e3:a3=b3
 all_goals simp [eqVs,eqV,ByteArray.toList_eq,e0,e1,e2,e3]
def eqTab:List (TypeId×List Ty):=[(47,[.int .i64,.int .i64]),(51,[.int .i64,.int .i64,.int .i64,.int .i64,.int .i64]),(83,[.int .i64,.int .i64]),(85,[.int .i64,.int .i64,.int .i64,.int .i64,.int .i64,.int .i64,.int .i64]),(106,[.int .i64,.int .i64,.int .i64,.int .i64,.int .i64]),(111,[.int .i64,.int .i64,.int .i64]),(127,[.int .i64,.int .i64,.int .i64]),(180,[.int .i64,.int .i64]),(230,[.str,.int .i64,.int .i64,.int .i64])]
theorem eqsOK:∀ t ks,lk eqTab t=some ks→EqOK Tryz.prog t ks:=by
 unfold eqTab
 refine lk_all (p:=fun t ks=>EqOK Tryz.prog t ks) eqOK47 ?_
 refine lk_all (p:=fun t ks=>EqOK Tryz.prog t ks) eqOK51 ?_
 refine lk_all (p:=fun t ks=>EqOK Tryz.prog t ks) eqOK83 ?_
 refine lk_all (p:=fun t ks=>EqOK Tryz.prog t ks) eqOK85 ?_
 refine lk_all (p:=fun t ks=>EqOK Tryz.prog t ks) eqOK106 ?_
 refine lk_all (p:=fun t ks=>EqOK Tryz.prog t ks) eqOK111 ?_
 refine lk_all (p:=fun t ks=>EqOK Tryz.prog t ks) eqOK127 ?_
 refine lk_all (p:=fun t ks=>EqOK Tryz.prog t ks) eqOK180 ?_
 refine lk_all (p:=fun t ks=>EqOK Tryz.prog t ks) eqOK230 ?_
 exact lk_none
noncomputable def tabs0:Tabs:=⟨tyTab,fnTab,[],[],[],eqTab,[],[],[]⟩
theorem tabs0OK:TabOK Tryz.prog tabs0:=⟨tyOK,fnOK,(fun _ _ h=>by cases h),(fun _ _ h=>by cases h),by kernel_rfl,(fun _ h=>by cases h),eqsOK,(fun _ h=>by cases h),(fun _ _ h=>by cases h),(fun _ _ h=>by cases h)⟩
end Go.Proofs.YthfgccfaildmfaaGreatDoor
namespace Go.PE
open Go Go.RowKit Go.Abs Go.Sort
open Go.Proofs (ltOf)

def clampT:(t:Ty)→t.den→t.den
 | .int k,x=>k.wrap x
 | .bool,x=>x
 | .str,x=>List.take maxLen x
 | .list _,x=>x
 | .one t,x=>clampT t x
 | .pair a b,x=>(clampT a x.1,clampT b x.2)
def encF:(t:Ty)→t.den→List Value
 | .int k,x=>[.int k x]
 | .bool,x=>[.bool x]
 | .str,x=>[.string ⟨List.toArray x⟩]
 | .list _,_=>[.slice none 0 0]
 | .one t,x=>encF t x
 | .pair a b,x=>encF a x.1++encF b x.2
def encT (t:Ty) (x:t.den):List Value:=encF t (clampT t x)
theorem encF_length:∀ (t:Ty) (x:t.den),(encF t x).length=t.size
 | .int _,_=>rfl
 | .bool,_=>rfl
 | .str,_=>rfl
 | .list _,_=>rfl
 | .one t,x=>encF_length t x
 | .pair a b,x=>by
  show (encF a x.1++encF b x.2).length=a.size+b.size
  rw [List.length_append,encF_length,encF_length]
theorem encF_one:∀ (t:Ty) (x:t.den),∀ v∈encF t x,v.oneCell'=true
 | .int _,_,v,h=>by simp [encF] at h;subst h;rfl
 | .bool,_,v,h=>by simp [encF] at h;subst h;rfl
 | .str,_,v,h=>by simp [encF] at h;subst h;rfl
 | .list _,_,v,h=>by simp [encF] at h;subst h;rfl
 | .one t,x,v,h=>encF_one t x v h
 | .pair a b,x,v,h=>by
  rcases List.mem_append.1 h with h | h
  ·exact encF_one a x.1 v h
  ·exact encF_one b x.2 v h
section
variable {S:Cells} {w:World} {η:Eta}
theorem rep_encF:∀ {t:Ty} (x:t.den),t.flat=true→Rep S w t (clampT t x) (encF t (clampT t x))
 | .int k,x,_=>⟨rfl,wrap_has k x⟩
 | .bool,_,_=>rfl
 | .str,x,_=>⟨rfl,by show (List.take maxLen x).length≤maxLen;rw [List.length_take];exact Nat.min_le_left _ _⟩
 | .list _,_,h=>by cases h
 | .one t,x,h=>rep_encF (t:=t) x h
 | .pair a b,x,h=>by
  simp only [Ty.flat,Bool.and_eq_true] at h
  exact ⟨_,_,rfl,rep_encF x.1 h.1,rep_encF x.2 h.2⟩
theorem rep_flat:∀ {t:Ty} {x:t.den} {cs:List Value},t.flat=true→Rep S w t x cs→clampT t x=x∧cs=encF t x
 | .int k,x,cs,_,h=>⟨has_wrap h.2,h.1⟩
 | .bool,_,_,_,h=>⟨rfl,h⟩
 | .str,x,cs,_,h=>⟨List.take_of_length_le h.2,h.1⟩
 | .list _,_,_,h,_=>by cases h
 | .one t,x,cs,hf,h=>by
  have h':Rep S w t x cs:=h
  exact rep_flat (t:=t) hf h'
 | .pair a b,x,cs,hf,h=>by
  simp only [Ty.flat,Bool.and_eq_true] at hf
  obtain ⟨c1,c2,rfl,h1,h2⟩:=h
  obtain ⟨g1,g2⟩:=rep_flat hf.1 h1
  obtain ⟨g3,g4⟩:=rep_flat hf.2 h2
  refine ⟨?_,by rw [g2,g4];rfl⟩
  show (clampT a x.1,clampT b x.2)=x
  rw [g1,g3]
end
def cmpC (t:Ty) (cf:t.den→t.den→Int) (x y:t.den):Int:=cf (clampT t x) (clampT t y)
def sortM (t:Ty) (cf:t.den→t.den→Int) (xs:List t.den):Option (List t.den):=match decide (xs.length<4611686018427387904) with
 | true=>some (pdq (ltOf (cmpC t cf)) xs.toArray 0 xs.length (Lib.bitLen xs.length) true true).toList
 | false=>none
theorem swo_cmpC {t:Ty} {cf:t.den→t.den→Int} (h:SWO (ltOf cf)):SWO (ltOf (cmpC t cf)) :=
 ⟨fun x=>h.irrefl _,fun x y z=>h.trans _ _ _,fun x y z=>h.ntrans _ _ _⟩
theorem grow_of {w w':World} (h:Below w.heap.size w w') (hd:w.drawn≤w'.drawn):∃ q os,w'=grow (w.drewN q) os:=by
 refine ⟨w'.drawn-w.drawn,w'.heap.extract w.heap.size w'.heap.size,?_⟩
 have hh:w'.heap=w.heap++w'.heap.extract w.heap.size w'.heap.size:=by
  apply Array.ext_getElem?
  intro k
  by_cases hk:k<w.heap.size
  ·rw [Array.getElem?_append_left hk,h.block k hk]
  ·rw [Array.getElem?_append_right (by omega)]
   have hs:=h.size
   by_cases hk2:k<w'.heap.size
   ·simp [Array.getElem?_extract,show w.heap.size+(k-w.heap.size)=k by omega]
    omega
   ·rw [Array.getElem?_eq_none (by omega),Array.getElem?_eq_none (by simp;omega)]
 obtain ⟨h1,h2,h3,_,_⟩:=h
 cases w
 cases w'
 simp only [grow,World.drewN] at *
 subst h1 h2 h3
 rw [← hh]
 congr 1
 omega
theorem cmpLays_of {P:Program} {g:FuncId} {t:Ty} (hf:t.flat=true) (ha:t.agg=true) {mg:Tup ([t,t].map .d)→Option (Tup ([Ty.int .i64].map .d))} (hg:SpecOK P g ⟨[t,t],[.int .i64],mg⟩) {cf:t.den→t.den→Int} (hm:∀ x y,mg (x,y)=some (cf x y)) (blk off size:Nat) (w:World) {S:Cells} (hW:∀ m os (dk:Array t.den),dk.size=size→InW S (Go.Proofs.sortWorldK (encT t) t.size w blk off m dk os)) :
  Go.Proofs.CmpLays P g #[] (encT t) t.size (cmpC t cf) blk off size w:=by
 intro m os dk hs x y
 have hv:∀ z:t.den,RM S (Go.Proofs.sortWorldK (encT t) t.size w blk off m dk os) (fun _=>none) (t.rv (clampT t z)) (.agg (encT t z).toArray):=fun z=>by
  refine VRep.rm ⟨encT t z,rep_encF z hf,?_⟩
  unfold Ty.wrap
  rw [ha];rfl
 have h:=hg (clampT t x,clampT t y) (cmpC t cf x y) (hm _ _) S (Go.Proofs.sortWorldK (encT t) t.size w blk off m dk os) (fun _=>none) [.agg (encT t x).toArray,.agg (encT t y).toArray] (hW m os dk hs) (.cons (hv x) (.cons (hv y) .nil))
 refine h.mono fun en w' ⟨v,S',he,hgr,hp⟩=>?_
 have hp':PM S' w' (fun _=>none) (.c (.d (.int .i64) (cmpC t cf x y))) v:=hp
 obtain ⟨hv,_⟩:=PM.int.1 hp'
 exact ⟨by rw [he,hv],grow_of hgr.below hgr.lk.drawn⟩
theorem rep_world {t:Ty} {S S':Cells} {w w':World} {x:t.den} {cs:List Value} (hf:t.flat=true) (h:Rep S w t x cs):Rep S' w' t x cs:=Rep.flat hf h
theorem div_mul_mod (j k:Nat):j / k*k+j % k=j:=by
 have:=Nat.div_add_mod j k
 rw [Nat.mul_comm] at this
 exact this
theorem getB {α:Type} [Inhabited α] {a:Array α} {i:Nat} (h:i<a.size):a[i]! = a[i]:=getElem!_pos a i h
theorem getLB {α:Type} [Inhabited α] {a:List α} {i:Nat} {v:α} (h:a[i]? = some v):a[i]! = v:=by
 obtain ⟨h1,h2⟩:=List.getElem?_eq_some_iff.1 h
 rw [getElem!_pos a i h1,h2]
theorem sortOK_of {P:Program} {ρ:Go.Shelf.Ren} (L:Go.Proofs.SlLaysF0.n6 P ρ) {f g:FuncId} (hfid:ρ.f 6=f) {t:Ty} (hf:t.flat=true) (ha:t.agg=true)
  (aE:∀ w,(isAgg (ρ.t 24)).run P w=.ok true w) (zE:∀ w,(Go.sizeOf (ρ.t 24)).run P w=.ok t.size w)
  (ef:∀ (args:Array Value) (w:World),(callFunc f args).run P w=.ok (.enter f args) w) (eg:∀ (args:Array Value) (w:World),(callFunc g args).run P w=.ok (.enter g args) w)
  {mg:Tup ([t,t].map .d)→Option (Tup ([Ty.int .i64].map .d))} (hg:SpecOK P g ⟨[t,t],[.int .i64],mg⟩) {cf:t.den→t.den→Int} (hm:∀ x y,mg (x,y)=some (cf x y)) (hO:SWO (ltOf cf)):SortOK P ⟨f,g,t,sortM t cf⟩:=by
 refine ⟨ef,fun xs ys h B S F w u hB hin hF hA=>?_⟩
 have h:sortM t cf xs=some ys:=h
 have hA:ArrH F S w u t xs:=hA
 show Calls P f #[u,.func (.func g) #[] #[]] w fun en w'=>en=.returned (.tuple #[])∧Grow B S w S w'∧ArrH F S w' u t ys∧_∧_
 unfold sortM at h
 split at h
 ·rename_i hlt
  have hlt:=of_decide_eq_true hlt
  have hy:=Option.some.inj h
  have hsort:=Go.Sort.pdq_sorts (ltOf (cmpC t cf)) (swo_cmpC hO) xs.toArray 0 xs.length (Lib.bitLen xs.length) true true (Nat.zero_le _) (by simp) (Or.inl rfl)
  have hperm:=hsort.1
  generalize hd':pdq (ltOf (cmpC t cf)) xs.toArray 0 xs.length (Lib.bitLen xs.length) true true=d' at hy hperm
  have hsz:d'.size=xs.length:=by have:=hperm.1;simpa using this
  have hyl:ys.length=xs.length:=by rw [← hy];simpa using hsz
  obtain ⟨base,cap,rfl,c1,c2,c3⟩:=hA
  by_cases hn:xs.length=0
  ·have hxs:xs=[]:=List.eq_nil_of_length_eq_zero hn
   have hys:ys=[]:=List.eq_nil_of_length_eq_zero (by omega)
   subst hxs hys
   have hc:=Go.Proofs.AnyF.slices_SortFunc_none L base cap (.func (.func g) #[] #[]) w
   rw [hfid] at hc
   exact hc.mono fun en w' ⟨he,hw⟩=>by
    subst hw
    exact ⟨he,Grow.refl hin,⟨base,cap,rfl,c1,c2,c3⟩,fun _ _ _ _=>⟨rfl,rfl⟩,fun _ _ _=>rfl⟩
  ·rcases c3 with c3 | ⟨b,off,rfl,hFe,ht,hx⟩
   ·omega
   have hpos:=t.size_pos
   have hmul:xs.length*t.size≤cap*t.size:=Nat.mul_le_mul_right _ c1
   have hmul1:1*1≤xs.length*t.size:=Nat.mul_le_mul (by omega) hpos
   have hin1:∀ j,j<xs.length*t.size→F b (off+j):=fun j hj=>(hFe _ _).2 ⟨rfl,by omega,by omega⟩
   obtain ⟨hBb,hblk,_⟩:=hF b (off+0) (hin1 0 (by omega))
   have hflat:∀ (d:Array t.den),(∀ i (hi:i<d.size),clampT t d[i]=d[i])→∀ j,j<d.size*t.size→(flatK (encT t) t.size d)[j]! = (encF t d[j / t.size]!)[j % t.size]! := fun d hd j hj=>by
    have hi:j / t.size<d.size:=Nat.div_lt_of_lt_mul (by rw [Nat.mul_comm];exact hj)
    rw [get_flatK _ _ _ _ hj,getB hi]
    unfold encT
    rw [hd _ hi]
   have hxin:∀ i (hi:i<xs.length),∃ es,Rep S w t xs[i] es∧(∀ j v,es[j]? = some v→w.cell? ⟨b,off+i*t.size+j,none⟩=some v):=fun i hi=>hx i xs[i] (List.getElem?_eq_getElem hi)
   have hH:HoldsK (encT t) t.size w b off xs.toArray:=by
    intro j hj
    rw [size_flatK] at hj
    have hj':j<xs.length*t.size:=by simpa using hj
    have hi:j / t.size<xs.length:=Nat.div_lt_of_lt_mul (by rw [Nat.mul_comm];exact hj')
    have hm':j % t.size<t.size:=Nat.mod_lt _ hpos
    obtain ⟨es,he,hc⟩:=hxin _ hi
    obtain ⟨k1,k2⟩:=rep_flat hf he
    refine ⟨?_,(ht (off+j) (by omega) (by omega)).2⟩
    rw [hflat xs.toArray (fun i hi=>by
     have hi':i<xs.length:=by simpa using hi
     obtain ⟨es,he,_⟩:=hxin _ hi'
     simpa using (rep_flat hf he).1) j hj,getB (by simpa using hi)]
    have hcell:=hc (j % t.size) (es[j % t.size]'(by rw [he.length];exact hm')) (List.getElem?_eq_getElem _)
    rw [Nat.add_assoc,div_mul_mod] at hcell
    rw [hcell]
    congr 1
    have:(encF t xs[j / t.size])[j % t.size]? = some (es[j % t.size]'(by rw [he.length];exact hm')):=by rw [← k2];exact List.getElem?_eq_getElem _
    simpa using (getLB this).symm
   have hcut0:∀ b' o,¬ F b' o→(b'≠b∨o<off∨off+xs.length*t.size≤o):=fun b' o hno=>by
    by_cases e:b'=b
    ·subst e
     refine .inr ?_
     rcases Nat.lt_or_ge o off with h1 | h1
     ·exact .inl h1
     ·rcases Nat.lt_or_ge o (off+xs.length*t.size) with h2 | h2
      ·have:=hin1 (o-off) (by omega)
       rw [show off+(o-off)=o by omega] at this
       exact absurd this hno
      ·exact .inr h2
    ·exact .inl e
   have hworlds:∀ m os (dk:Array t.den),dk.size=xs.toArray.size→InW S (Go.Proofs.sortWorldK (encT t) t.size w b off m dk os):=fun m os dk hs=>by
    have hs:dk.size=xs.length:=by simpa using hs
    have hfn:(flatK (encT t) t.size dk).size=xs.length*t.size:=by rw [size_flatK,hs]
    have hw:Go.Proofs.sortWorldK (encT t) t.size w b off m dk os=grow (putRow id (Go.Sort.ahead w m) b off (flatK (encT t) t.size dk)) os:=rfl
    have hps:(putRow id (Go.Sort.ahead w m) b off (flatK (encT t) t.size dk)).heap.size=w.heap.size:=by rw [size_putRow];rfl
    have cout:∀ b' o,b'<w.heap.size→(b'≠b∨o<off∨off+xs.length*t.size≤o)→(Go.Proofs.sortWorldK (encT t) t.size w b off m dk os).cell? ⟨b',o,none⟩=w.cell? ⟨b',o,none⟩:=fun b' o hb' ho=>by
     rw [hw,cell?_grow _ _ _ (by rw [hps];exact hb'),cell?_putRow_other id _ b off _ _ (by rw [hfn];exact ho)]
     rfl
    refine hin.on ⟨fun _ _ h=>h,fun b' o hs=>cout b' o (hin b' o hs) (hcut0 b' o fun hf'=>(hF b' o hf').2.2 hs)⟩ fun b' o hs=>?_
    have:=hin b' o hs
    rw [hw,size_grow,hps];omega
   have hcon:=Go.Proofs.AnyQ.slices_SortFunc_eq L t.size aE zE (encT t) (fun x=>encF_length t _) (fun x=>encF_one t _) (cmpC t cf) (swo_cmpC hO) g #[] b off cap xs.toArray w (fun args w=>eg args w) (cmpLays_of hf ha hg hm b off xs.toArray.size w (S:=S) hworlds) hH hblk (by simpa using hlt)
   rw [hfid] at hcon
   have hse:xs.toArray.size=xs.length:=by simp
   rw [hse,hd'] at hcon
   refine hcon.mono fun en w' ⟨he,n,os,hw⟩=>⟨he,?_⟩
   -- the world behind
   have hH1:Holds id (Go.Sort.ahead w n) b off (flatK (encT t) t.size xs.toArray):=hH
   have hfs:(flatK (encT t) t.size d').size=(flatK (encT t) t.size xs.toArray).size:=by rw [size_flatK,size_flatK,hsz,hse]
   have hfn:(flatK (encT t) t.size d').size=xs.length*t.size:=by rw [size_flatK,hsz]
   have hw:w'=grow (putRow id (Go.Sort.ahead w n) b off (flatK (encT t) t.size d')) os:=hw
   have hps:(putRow id (Go.Sort.ahead w n) b off (flatK (encT t) t.size d')).heap.size=w.heap.size:=by rw [size_putRow];rfl
   have cin:∀ j,j<xs.length*t.size→w'.cell? ⟨b,off+j,none⟩=some (flatK (encT t) t.size d')[j]! := fun j hj=>by
    rw [hw,cell?_grow _ _ _ (by rw [hps];exact hblk)]
    exact cell?_putRow id _ b off _ _ hH1 hfs j (by rw [hfn];exact hj)
   have cout:∀ b' o,b'<w.heap.size→(b'≠b∨o<off∨off+xs.length*t.size≤o)→w'.cell? ⟨b',o,none⟩=w.cell? ⟨b',o,none⟩:=fun b' o hb' ho=>by
    rw [hw,cell?_grow _ _ _ (by rw [hps];exact hb'),cell?_putRow_other id _ b off _ _ (by rw [hfn];exact ho)]
    rfl
   have fout:∀ b' o,b'<w.heap.size→w'.frozen? ⟨b',o,none⟩=w.frozen? ⟨b',o,none⟩:=fun b' o hb'=>by
    rw [hw,frozen?_grow _ _ _ (by rw [hps];exact hb'),frozen?_putRow]
    rfl
   have hout:∀ b',b'<w.heap.size→b'≠b→w'.heap[b']? = w.heap[b']? := fun b' hb' hne=>by
    rw [hw,heap_grow_old _ _ (by rw [hps];exact hb')]
    show (w.heap.modify b _)[b']? = _
    rw [Array.getElem?_modify,if_neg (Ne.symm hne)]
   have hcut:∀ b' o,¬ F b' o→(b'≠b∨o<off∨off+xs.length*t.size≤o):=fun b' o hno=>by
    by_cases e:b'=b
    ·subst e
     refine .inr ?_
     rcases Nat.lt_or_ge o off with h1 | h1
     ·exact .inl h1
     ·rcases Nat.lt_or_ge o (off+xs.length*t.size) with h2 | h2
      ·have:=hin1 (o-off) (by omega)
       rw [show off+(o-off)=o by omega] at this
       exact absurd this hno
      ·exact .inr h2
    ·exact .inl e
   have hkeep:Keep S w S w':=⟨fun _ _ h=>h,fun b' o hs=>cout b' o (hin b' o hs) (hcut b' o fun hf'=>(hF b' o hf').2.2 hs)⟩
   have hcells:∃ c e fr,w.heap[b]? = some (.cells c e fr):=by
    obtain ⟨⟨v,hv⟩,_⟩:=ht (off+0) (by omega) (by omega)
    obtain ⟨c,e,fr,h1,_⟩:=cells_of_cell? hv
    exact ⟨c,e,fr,h1⟩
   have hgr:Grow B S w S w':=by
    refine ⟨⟨by rw [hw];rfl,by rw [hw];rfl,by rw [hw];rfl,by rw [hw,size_grow,hps];omega,fun k hk=>hout k (by omega) (by omega)⟩,hkeep,fun b' o hs=>?_,fun _ _ h=>.inl h,.of ?_ fun b' o ho hne=>?_⟩
    ·have:=hin b' o hs
     rw [hw,size_grow,hps];omega
    ·rw [hw]
     show w.drawn≤w.drawn+n
     omega
    ·by_cases e:b'=b
     ·subst e
      obtain ⟨c,el,fr,hc⟩:=hcells
      rw [hc] at ho
      exact absurd (Option.some.inj ho).symm (hne _ _ _)
     ·rw [hout b' (Array.getElem?_eq_some_iff.1 ho).1 e];exact ho
   -- what the array holds
   have hmem:∀ i (hi:i<d'.size),∃ j,∃ hj:j<xs.length,d'[i]=xs[j]:=fun i hi=>by
    have hp:=hperm.2.2
    have h1:d'.extract 0 xs.length=d':=by rw [← hsz];simp
    have h2:xs.toArray.extract 0 xs.length=xs.toArray:=by rw [← hse];simp
    rw [h1,h2] at hp
    have:d'[i]∈d'.toList:=by simp
    have:=hp.mem_iff.1 this
    obtain ⟨j,hj,e⟩:=List.mem_iff_getElem.1 this
    exact ⟨j,by simpa using hj,by simpa using e.symm⟩
   have hcl:∀ i (hi:i<d'.size),clampT t d'[i]=d'[i]:=fun i hi=>by
    obtain ⟨j,hj,e⟩:=hmem i hi
    obtain ⟨es,he,_⟩:=hxin j hj
    rw [e];exact (rep_flat hf he).1
   have hyi:∀ (i:Nat) (y:t.den),ys[i]? = some y→∃ hi:i<d'.size,d'[i]=y:=fun i y hi=>by
    rw [← hy] at hi
    obtain ⟨h1,h2⟩:=List.getElem?_eq_some_iff.1 hi
    exact ⟨by simpa using h1,by simpa using h2⟩
   refine ⟨hgr,⟨some ⟨b,off,none⟩,cap,by rw [hyl],by omega,c2,.inr ⟨b,off,rfl,hFe,fun o h1 h2=>?_,fun i y hi=>?_⟩⟩,fun b' o hb' hno=>⟨cout b' o hb' (hcut b' o hno),fout b' o hb'⟩,fun b' hb' hno=>hout b' hb' fun e=>?_⟩
   ·refine ⟨?_,by rw [fout b o hblk];exact (ht o h1 h2).2⟩
    by_cases ho:o<off+xs.length*t.size
    ·have:=cin (o-off) (by omega)
     rw [show off+(o-off)=o by omega] at this
     exact ⟨_,this⟩
    ·rw [cout b o hblk (.inr (.inr (by omega)))]
     exact (ht o h1 h2).1
   ·obtain ⟨hi',e⟩:=hyi i y hi
    obtain ⟨j,hj,e2⟩:=hmem i hi'
    obtain ⟨es,he,_⟩:=hxin j hj
    have hes:=(rep_flat hf he).2
    refine ⟨es,?_,fun m v hm'=>?_⟩
    ·rw [← e,e2];exact rep_world hf he
    ·have hml:m<t.size:=by rw [← he.length];exact (List.getElem?_eq_some_iff.1 hm').1
     have hlt2:i*t.size+m<xs.length*t.size:=by
      have:=Nat.mul_le_mul_right t.size (show i+1≤xs.length by omega)
      rw [Nat.add_mul] at this
      omega
     have e3:(i*t.size+m) / t.size=i:=by
      rw [Nat.mul_comm,Nat.mul_add_div hpos,Nat.div_eq_of_lt hml,Nat.add_zero]
     have e4:(i*t.size+m) % t.size=m:=by
      rw [Nat.mul_comm,Nat.mul_add_mod,Nat.mod_eq_of_lt hml]
     have:=cin (i*t.size+m) hlt2
     rw [← Nat.add_assoc] at this
     rw [this,hflat d' hcl _ (by rw [hsz];exact hlt2),e3,e4,getB hi',e2,← hes]
     congr 1
     exact getLB hm'
   ·subst e
    exact hno _ (hin1 0 (by omega))
 ·cases h
end Go.PE
namespace Go.PE
open Go Go.RowKit Go.Abs Go.Sort

def insI (x:Int):List Int→List Int
 | []=>[x]
 | y::r=>bif leM x y then x::y::r else y::insI x r
def isortI:List Int→List Int
 | []=>[]
 | x::r=>insI x (isortI r)
theorem insI_perm (x:Int):∀ l,(insI x l).Perm (x::l)
 | []=>.refl _
 | y::r=>by
  unfold insI
  cases leM x y
  ·exact ((insI_perm x r).cons y).trans (.swap x y r)
  ·exact .refl _
theorem isortI_perm:∀ l,(isortI l).Perm l
 | []=>.refl _
 | x::r=>(insI_perm x (isortI r)).trans ((isortI_perm r).cons x)
theorem insI_sorted (x:Int):∀ {l:List Int},List.Pairwise (·≤·) l→List.Pairwise (·≤·) (insI x l)
 | [],_=>by unfold insI;simp
 | y::r,h=>by
  unfold insI
  have h2:=List.pairwise_cons.1 h
  cases hb:leM x y with
  | true =>
   have hb':x≤y:=of_decide_eq_true hb
   refine List.pairwise_cons.2 ⟨fun z hz=>?_,h⟩
   rcases List.mem_cons.1 hz with rfl | hz
   ·exact hb'
   ·exact Int.le_trans hb' (h2.1 z hz)
  | false =>
   have hb':¬ x≤y:=of_decide_eq_false hb
   refine List.pairwise_cons.2 ⟨fun z hz=>?_,insI_sorted x h2.2⟩
   rcases List.mem_cons.1 ((insI_perm x r).mem_iff.1 hz) with rfl | hz
   ·omega
   ·exact h2.1 z hz
theorem isortI_sorted:∀ l,List.Pairwise (·≤·) (isortI l)
 | []=>.nil
 | x::r=>insI_sorted x (isortI_sorted r)
theorem merge_isortI (l:List Int):(l.mergeSort fun x y=>decide (x≤y))=isortI l:=by
 refine List.Perm.eq_of_pairwise (le:=fun x y=>x≤y) (fun a b _ _ h1 h2=>by omega) ?_ (isortI_sorted l) ((List.mergeSort_perm l _).trans (isortI_perm l).symm)
 have:=List.pairwise_mergeSort (le:=fun (x y:Int)=>decide (x≤y)) (fun a b c h1 h2=>by simp at *;omega) (fun a b=>by simp;omega) l
 exact this.imp fun h=>by simpa using h
def sortI (xs:List Int):Option (List Int):=match decide (xs.length<4611686018427387904) with
 | true=>some (isortI xs)
 | false=>none
def compI (xs:List Int):Option (List Int):=match decide (xs.length≤4611686018427387904) with
 | true=>some (Lib.compact xs)
 | false=>none
section
variable {B:Nat} {S F:Cells} {w w':World}
theorem world_put {b off cap n:Nat} {xs d:List Int} {os:Array Obj} (hin:InLt S w) (hF:∀ b o,F b o→B≤b∧b<w.heap.size∧¬ S b o) (hFe:∀ b' o,F b' o↔b'=b∧off≤o∧o<off+cap*1) (c1:xs.length≤cap) (hn:0<xs.length)
  (ht:∀ o,off≤o→o<off+cap*1→World.there w b o) (hH:Holds (Value.int .i64) w b off xs.toArray) (hd:d.length=xs.length) (hw:w'=grow (putRow (Value.int .i64) (Go.Sort.ahead w n) b off d.toArray) os) :
  Grow B S w S w'∧(∀ j,j<xs.length→w'.cell? ⟨b,off+j,none⟩=some (.int .i64 (d.toArray)[j]!))∧(∀ b' o,b'<w.heap.size→¬ F b' o→w'.cell? ⟨b',o,none⟩=w.cell? ⟨b',o,none⟩∧w'.frozen? ⟨b',o,none⟩=w.frozen? ⟨b',o,none⟩) ∧
   (∀ b',b'<w.heap.size→(∀ o,¬ F b' o)→w'.heap[b']? = w.heap[b']?)∧∀ o,off≤o→o<off+cap*1→World.there w' b o:=by
 have hin1:∀ j,j<xs.length→F b (off+j):=fun j hj=>(hFe _ _).2 ⟨rfl,by omega,by omega⟩
 obtain ⟨hBb,hblk,_⟩:=hF b (off+0) (hin1 0 hn)
 have hH1:Holds (Value.int .i64) (Go.Sort.ahead w n) b off xs.toArray:=hH
 have hfs:d.toArray.size=xs.toArray.size:=by simpa using hd
 have hfn:d.toArray.size=xs.length:=by simpa using hd
 have hps:(putRow (Value.int .i64) (Go.Sort.ahead w n) b off d.toArray).heap.size=w.heap.size:=by rw [size_putRow];rfl
 have cin:∀ j,j<xs.length→w'.cell? ⟨b,off+j,none⟩=some (.int .i64 (d.toArray)[j]!):=fun j hj=>by
  rw [hw,cell?_grow _ _ _ (by rw [hps];exact hblk)]
  exact cell?_putRow (Value.int .i64) _ b off _ _ hH1 hfs j (by rw [hfn];exact hj)
 have cout:∀ b' o,b'<w.heap.size→(b'≠b∨o<off∨off+xs.length≤o)→w'.cell? ⟨b',o,none⟩=w.cell? ⟨b',o,none⟩:=fun b' o hb' ho=>by
  rw [hw,cell?_grow _ _ _ (by rw [hps];exact hb'),cell?_putRow_other (Value.int .i64) _ b off _ _ (by rw [hfn];exact ho)]
  rfl
 have fout:∀ b' o,b'<w.heap.size→w'.frozen? ⟨b',o,none⟩=w.frozen? ⟨b',o,none⟩:=fun b' o hb'=>by
  rw [hw,frozen?_grow _ _ _ (by rw [hps];exact hb'),frozen?_putRow]
  rfl
 have hout:∀ b',b'<w.heap.size→b'≠b→w'.heap[b']? = w.heap[b']? := fun b' hb' hne=>by
  rw [hw,heap_grow_old _ _ (by rw [hps];exact hb')]
  show (w.heap.modify b _)[b']? = _
  rw [Array.getElem?_modify,if_neg (Ne.symm hne)]
 have hcut:∀ b' o,¬ F b' o→(b'≠b∨o<off∨off+xs.length≤o):=fun b' o hno=>by
  by_cases e:b'=b
  ·subst e
   refine .inr ?_
   rcases Nat.lt_or_ge o off with h1 | h1
   ·exact .inl h1
   ·rcases Nat.lt_or_ge o (off+xs.length) with h2 | h2
    ·have:=hin1 (o-off) (by omega)
     rw [show off+(o-off)=o by omega] at this
     exact absurd this hno
    ·exact .inr h2
  ·exact .inl e
 have hkeep:Keep S w S w':=⟨fun _ _ h=>h,fun b' o hs=>cout b' o (hin b' o hs) (hcut b' o fun hf'=>(hF b' o hf').2.2 hs)⟩
 have hcells:∃ c e fr,w.heap[b]? = some (.cells c e fr):=by
  obtain ⟨⟨v,hv⟩,_⟩:=ht (off+0) (by omega) (by omega)
  obtain ⟨c,e,fr,h1,_⟩:=cells_of_cell? hv
  exact ⟨c,e,fr,h1⟩
 refine ⟨⟨⟨by rw [hw];rfl,by rw [hw];rfl,by rw [hw];rfl,by rw [hw,size_grow,hps];omega,fun k hk=>hout k (by omega) (by omega)⟩,hkeep,fun b' o hs=>?_,fun _ _ h=>.inl h,.of ?_ fun b' o ho hne=>?_⟩,cin,fun b' o hb' hno=>⟨cout b' o hb' (hcut b' o hno),fout b' o hb'⟩,fun b' hb' hno=>hout b' hb' fun e=>?_,fun o h1 h2=>⟨?_,by rw [fout b o hblk];exact (ht o h1 h2).2⟩⟩
 ·have:=hin b' o hs
  rw [hw,size_grow,hps];omega
 ·rw [hw]
  show w.drawn≤w.drawn+n
  omega
 ·by_cases e:b'=b
  ·subst e
   obtain ⟨c,el,fr,hc⟩:=hcells
   rw [hc] at ho
   exact absurd (Option.some.inj ho).symm (hne _ _ _)
  ·rw [hout b' (Array.getElem?_eq_some_iff.1 ho).1 e];exact ho
 ·subst e
  exact hno _ (hin1 0 hn)
 ·by_cases ho:o<off+xs.length
  ·have:=cin (o-off) (by omega)
   rw [show off+(o-off)=o by omega] at this
   exact ⟨_,this⟩
  ·rw [cout b o hblk (.inr (.inr (by omega)))]
   exact (ht o h1 h2).1
theorem rep_int {x:Int} {es:List Value} (h:Rep S w (.int .i64) x es):es=[.int .i64 x]∧IntKind.i64.has x:=⟨h.1,h.2⟩
theorem holds_of {b off:Nat} {xs:List Int} {cap:Nat} (c1:xs.length≤cap) (ht:∀ o,off≤o→o<off+cap*1→World.there w b o) (hx:∀ (i:Nat) (x:Int),xs[i]? = some x→∃ es,Rep S w (.int .i64) x es∧∀ j v,es[j]? = some v→w.cell? ⟨b,off+i*1+j,none⟩=some v) :
  Holds (Value.int .i64) w b off xs.toArray∧∀ x∈xs,IntKind.i64.has x:=by
 refine ⟨fun j hj=>?_,fun x hx'=>?_⟩
 ·have hj':j<xs.length:=by simpa using hj
  obtain ⟨es,he,hc⟩:=hx j xs[j] (List.getElem?_eq_getElem hj')
  obtain ⟨rfl,_⟩:=rep_int he
  have:=hc 0 _ rfl
  refine ⟨?_,(ht (off+j) (by omega) (by omega)).2⟩
  rw [getB hj]
  simpa using this
 ·obtain ⟨i,hi,rfl⟩:=List.getElem_of_mem hx'
  obtain ⟨es,he,_⟩:=hx i _ (List.getElem?_eq_getElem hi)
  exact (rep_int he).2
end
theorem so1_sort {P:Program} {ρ:Go.Shelf.Ren} (L:Go.Proofs.Lays.n189 P ρ) {f:FuncId} (hfid:ρ.f 189=f) (ef:∀ (args:Array Value) (w:World),(callFunc f args).run P w=.ok (.enter f args) w):So1OK P ⟨f,.int .i64,false,sortI⟩:=by
 refine ⟨ef,fun xs ys h B S F w u hB hin hF hA=>?_⟩
 have h:sortI xs=some ys:=h
 have hA:ArrH F S w u (.int .i64) xs:=hA
 show Calls P f #[u] w _
 unfold sortI at h
 split at h
 ·rename_i hlt
  have hlt:=of_decide_eq_true hlt
  have hy:=Option.some.inj h
  have hperm:=isortI_perm xs
  rw [hy] at hperm
  have hyl:ys.length=xs.length:=hperm.length_eq
  obtain ⟨base,cap,rfl,c1,c2,c3⟩:=hA
  by_cases hn:xs.length=0
  ·have hxs:xs=[]:=List.eq_nil_of_length_eq_zero hn
   have hys:ys=[]:=List.eq_nil_of_length_eq_zero (by omega)
   subst hxs hys
   have hc:=Go.Proofs.Any.slices_Sort_int_none L base cap w
   rw [hfid] at hc
   exact hc.mono fun en w' ⟨he,hw⟩=>by
    subst hw
    exact ⟨_,.slice base 0 cap,he,fun h=>(by cases h),fun _=>⟨rfl,rfl⟩,rfl,Grow.refl hin,⟨base,cap,rfl,c1,c2,c3⟩,fun _ _ _ _=>⟨rfl,rfl⟩,fun _ _ _=>rfl⟩
  ·rcases c3 with c3 | ⟨b,off,rfl,hFe,ht,hx⟩
   ·omega
   obtain ⟨hH,hhas⟩:=holds_of c1 ht hx
   have hblk:b<w.heap.size:=(hF b (off+0) ((hFe _ _).2 ⟨rfl,by omega,by show off+0<off+cap*1;omega⟩)).2.1
   have hc:=Go.Proofs.Any.slices_Sort_int L b off cap xs w hH hblk hlt
   rw [hfid,merge_isortI,hy] at hc
   refine hc.mono fun en w' ⟨he,n,os,hw⟩=>?_
   obtain ⟨g1,g2,g3,g4,g5⟩:=world_put hin hF hFe c1 (by omega) ht hH hyl hw
   refine ⟨_,.slice (some ⟨b,off,none⟩) xs.length cap,he,fun h=>(by cases h),fun _=>⟨rfl,rfl⟩,rfl,g1,⟨_,cap,by rw [hyl],by rw [hyl];exact c1,c2,.inr ⟨b,off,rfl,hFe,g5,fun i y hi=>?_⟩⟩,g3,g4⟩
   have hil:=(List.getElem?_eq_some_iff.1 hi).1
   have hmem:y∈xs:=hperm.mem_iff.1 (List.mem_of_getElem? hi)
   refine ⟨[.int .i64 y],⟨rfl,hhas y hmem⟩,fun j v hj=>?_⟩
   cases j with
   | zero =>
    cases hj
    have e:ys.toArray[i]! = y:=by rw [getB (by simpa using hil)];simpa using (List.getElem?_eq_some_iff.1 hi).2
    show w'.cell? ⟨b,off+i*1+0,none⟩=_
    rw [Nat.mul_one,Nat.add_zero,g2 i (by omega),e]
   | succ j=>simp at hj
 ·cases h
theorem grow_none (w:World):grow w #[]=w:=by
 cases w
 simp [grow]
theorem compact_mem {zs:List Int} {y:Int} (h:y∈Lib.compact zs):y∈zs:=by
 unfold Lib.compact Lib.compactUpTo at h
 obtain ⟨j,hj,rfl⟩:=List.mem_map.1 h
 have hjl:j<zs.length:=List.mem_range.1 (List.mem_filter.1 hj).1
 rw [getB (by simpa using hjl)]
 simp
theorem compact_len (zs:List Int):(Lib.compact zs).length≤zs.length:=by
 unfold Lib.compact Lib.compactUpTo
 rw [List.length_map]
 exact Nat.le_trans (List.length_filter_le _ _) (by simp)
theorem so1_comp {P:Program} {ρ:Go.Shelf.Ren} (L:Go.Proofs.Lays2.n20 P ρ) {f:FuncId} (hfid:ρ.f 20=f) (ef:∀ (args:Array Value) (w:World),(callFunc f args).run P w=.ok (.enter f args) w):So1OK P ⟨f,.int .i64,true,compI⟩:=by
 refine ⟨ef,fun xs ys h B S F w u hB hin hF hA=>?_⟩
 have h:compI xs=some ys:=h
 have hA:ArrH F S w u (.int .i64) xs:=hA
 show Calls P f #[u] w _
 unfold compI at h
 split at h
 ·rename_i hlt
  have hlt:=of_decide_eq_true hlt
  have hy:=Option.some.inj h
  have hyl:ys.length≤xs.length:=by rw [← hy];exact compact_len xs
  obtain ⟨base,cap,rfl,c1,c2,c3⟩:=hA
  by_cases hn:xs.length=0
  ·have hxs:xs=[]:=List.eq_nil_of_length_eq_zero hn
   have hys:ys=[]:=List.eq_nil_of_length_eq_zero (by omega)
   subst hxs hys
   have hc:=Go.Proofs.Any.slices_Compact_int_empty L base cap w
   rw [hfid] at hc
   exact hc.mono fun en w' ⟨he,hw⟩=>by
    subst hw
    exact ⟨_,.slice base 0 cap,he,fun _=>rfl,fun h=>(by cases h),rfl,Grow.refl hin,⟨base,cap,rfl,c1,c2,c3⟩,fun _ _ _ _=>⟨rfl,rfl⟩,fun _ _ _=>rfl⟩
  ·rcases c3 with c3 | ⟨b,off,rfl,hFe,ht,hx⟩
   ·omega
   obtain ⟨hH,hhas⟩:=holds_of c1 ht hx
   have hc:=Go.Proofs.Any.slices_Compact_int L b off cap xs w hH (by omega) c1
   rw [hfid,hy] at hc
   refine hc.mono fun en w' ⟨he,q,hw⟩=>?_
   have hdl:(ys++List.replicate (xs.length-ys.length) (0:Int)).length=xs.length:=by rw [List.length_append,List.length_replicate];omega
   obtain ⟨g1,g2,g3,g4,g5⟩:=world_put (os:=#[]) hin hF hFe c1 (by omega) ht hH hdl (hw.trans (grow_none _).symm)
   refine ⟨_,.slice (some ⟨b,off,none⟩) ys.length cap,he,fun _=>rfl,fun h=>(by cases h),rfl,g1,⟨_,cap,rfl,by omega,c2,.inr ⟨b,off,rfl,hFe,g5,fun i y hi=>?_⟩⟩,g3,g4⟩
   have hil:=(List.getElem?_eq_some_iff.1 hi).1
   have hmem:y∈xs:=compact_mem (by rw [hy];exact List.mem_of_getElem? hi)
   refine ⟨[.int .i64 y],⟨rfl,hhas y hmem⟩,fun j v hj=>?_⟩
   cases j with
   | zero =>
    cases hj
    have e:(ys++List.replicate (xs.length-ys.length) (0:Int)).toArray[i]! = y:=by
     rw [getB (by simp;omega)]
     simp only [List.getElem_toArray]
     rw [List.getElem_append_left hil]
     exact (List.getElem?_eq_some_iff.1 hi).2
    show w'.cell? ⟨b,off+i*1+0,none⟩=_
    rw [Nat.mul_one,Nat.add_zero,g2 i (by omega),e]
   | succ j=>simp at hj
 ·cases h
end Go.PE
namespace Go.Proofs
open Go.Shelf
def Tryz.lays194_ren:Go.Shelf.Ren:=⟨fun | 189=>94 | 125=>143 | 257=>142 | 128=>175 | 129=>176 | 294=>166 | 295=>167 | 296=>168 | 297=>169 | 298=>170 | 299=>171 | 216=>172 | 300=>173 | 301=>174 | 328=>193 | 329=>194 | 330=>195 | 331=>196 | 332=>197 | 215=>184 | 343=>221 | n=>n,fun | 28=>23 | 3=>3 | 46=>191 | 0=>0 | 51=>223 | 53=>225 | 4=>4 | 183=>215 | 182=>214 | 131=>220 | 5=>5 | 9=>9 | 218=>240 | 222=>244 | 228=>260 | 229=>153 | n=>n,fun | n=>n⟩
theorem Tryz.lays194:Go.Proofs.Lays.n189 Tryz.prog Tryz.lays194_ren:={
 mixed:=by kernel_rfl
 f125:=Tryz.func143.trans (congrArg some (by kernel_rfl))
 f128:=Tryz.func175.trans (congrArg some (by kernel_rfl))
 f129:=Tryz.func176.trans (congrArg some (by kernel_rfl))
 f189:=Tryz.func94.trans (congrArg some (by kernel_rfl))
 f215:=Tryz.func184.trans (congrArg some (by kernel_rfl))
 f216:=Tryz.func172.trans (congrArg some (by kernel_rfl))
 f257:=Tryz.func142.trans (congrArg some (by kernel_rfl))
 f294:=Tryz.func166.trans (congrArg some (by kernel_rfl))
 f295:=Tryz.func167.trans (congrArg some (by kernel_rfl))
 f296:=Tryz.func168.trans (congrArg some (by kernel_rfl))
 f297:=Tryz.func169.trans (congrArg some (by kernel_rfl))
 f298:=Tryz.func170.trans (congrArg some (by kernel_rfl))
 f299:=Tryz.func171.trans (congrArg some (by kernel_rfl))
 f300:=Tryz.func173.trans (congrArg some (by kernel_rfl))
 f301:=Tryz.func174.trans (congrArg some (by kernel_rfl))
 f328:=Tryz.func193.trans (congrArg some (by kernel_rfl))
 f329:=Tryz.func194.trans (congrArg some (by kernel_rfl))
 f330:=Tryz.func195.trans (congrArg some (by kernel_rfl))
 f331:=Tryz.func196.trans (congrArg some (by kernel_rfl))
 f332:=Tryz.func197.trans (congrArg some (by kernel_rfl))
 f343:=Tryz.func221.trans (congrArg some (by kernel_rfl))
 t0:=Tryz.underlying0
 a0:=Tryz.isAgg0
 z0:=Tryz.sizeOf0
 v0:=Tryz.zeroValue0
 t3:=Tryz.underlying3
 a3:=Tryz.isAgg3
 z3:=Tryz.sizeOf3
 v3:=Tryz.zeroValue3
 t4:=Tryz.underlying4
 a4:=Tryz.isAgg4
 z4:=Tryz.sizeOf4
 v4:=Tryz.zeroValue4
 t5:=Tryz.underlying5
 a5:=Tryz.isAgg5
 z5:=Tryz.sizeOf5
 v5:=Tryz.zeroValue5
 t9:=Tryz.underlying9
 a9:=Tryz.isAgg9
 z9:=Tryz.sizeOf9
 v9:=Tryz.zeroValue9
 t28:=Tryz.underlying23
 a28:=Tryz.isAgg23
 z28:=Tryz.sizeOf23
 v28:=Tryz.zeroValue23
 t46:=Tryz.underlying191
 a46:=Tryz.isAgg191
 z46:=Tryz.sizeOf191
 v46:=Tryz.zeroValue191
 t51:=Tryz.underlying223
 a51:=Tryz.isAgg223
 z51:=Tryz.sizeOf223
 v51:=Tryz.zeroValue223
 t53:=Tryz.underlying225
 a53:=Tryz.isAgg225
 z53:=Tryz.sizeOf225
 v53:=Tryz.zeroValue225
 t131:=Tryz.underlying220
 a131:=Tryz.isAgg220
 z131:=Tryz.sizeOf220
 v131:=Tryz.zeroValue220
 t182:=Tryz.underlying214
 a182:=Tryz.isAgg214
 z182:=Tryz.sizeOf214
 v182:=Tryz.zeroValue214
 t183:=Tryz.underlying215
 a183:=Tryz.isAgg215
 z183:=Tryz.sizeOf215
 v183:=Tryz.zeroValue215
 t218:=Tryz.underlying240
 a218:=Tryz.isAgg240
 z218:=Tryz.sizeOf240
 v218:=Tryz.zeroValue240
 t222:=Tryz.underlying244
 a222:=Tryz.isAgg244
 z222:=Tryz.sizeOf244
 v222:=Tryz.zeroValue244
 t228:=Tryz.underlying260
 a228:=Tryz.isAgg260
 z228:=Tryz.sizeOf260
 v228:=Tryz.zeroValue260
 t229:=Tryz.underlying153
 a229:=Tryz.isAgg153
 z229:=Tryz.sizeOf153
 v229:=Tryz.zeroValue153 }
def Tryz.lays195_ren:Go.Shelf.Ren:=⟨fun | 20=>95 | n=>n,fun | 22=>23 | 3=>3 | 4=>4 | 0=>0 | n=>n,fun | n=>n⟩
theorem Tryz.lays195:Go.Proofs.Lays2.n20 Tryz.prog Tryz.lays195_ren:={
 mixed:=by kernel_rfl
 f20:=Tryz.func95.trans (congrArg some (by kernel_rfl))
 t0:=Tryz.underlying0
 a0:=Tryz.isAgg0
 z0:=Tryz.sizeOf0
 v0:=Tryz.zeroValue0
 t3:=Tryz.underlying3
 a3:=Tryz.isAgg3
 z3:=Tryz.sizeOf3
 v3:=Tryz.zeroValue3
 t4:=Tryz.underlying4
 a4:=Tryz.isAgg4
 z4:=Tryz.sizeOf4
 v4:=Tryz.zeroValue4
 t22:=Tryz.underlying23
 a22:=Tryz.isAgg23
 z22:=Tryz.sizeOf23
 v22:=Tryz.zeroValue23
 i3:=by kernel_rfl }
end Go.Proofs
namespace Go.Proofs.YthfgccfaildmfaaGreatDoor
open Go Go.Abs Go.PE Go.Proofs
theorem so1_94:So1OK Tryz.prog ⟨94,.int .i64,false,sortI⟩:=so1_sort Tryz.lays194 rfl Tryz.call94
theorem so1_95:So1OK Tryz.prog ⟨95,.int .i64,true,compI⟩:=so1_comp Tryz.lays195 rfl Tryz.call95
noncomputable def tabs:Tabs:={ tabs0 with so1:=[⟨94,.int .i64,false,sortI⟩,⟨95,.int .i64,true,compI⟩] }
theorem tabsOK:TabOK Tryz.prog tabs:=⟨tabs0OK.ty,tabs0OK.fn,tabs0OK.sp,tabs0OK.en,tabs0OK.mixed,tabs0OK.so,tabs0OK.eqs,fun s hs=>by
 have hs:s∈[(⟨94,.int .i64,false,sortI⟩:So1),(⟨95,.int .i64,true,compI⟩:So1)]:=hs
 simp only [List.mem_cons,List.not_mem_nil,or_false] at hs
 rcases hs with rfl | rfl
 ·exact so1_94
 ·exact so1_95,tabs0OK.mps,tabs0OK.ow⟩
end Go.Proofs.YthfgccfaildmfaaGreatDoor
namespace Go.Proofs.YthfgccfaildmfaaGreatDoor
open Go Go.Abs Go.PE Go.Proofs
open Go.IntKind (wrap)
set_option maxRecDepth 100000
noncomputable section
abbrev tP:Ty:=(.pair tI tI)
abbrev tB:Ty:=(.pair tI tP)
abbrev tC:Ty:=(.pair tI (.pair tI tB))
abbrev tQ:Ty:=(.list tP)
abbrev tL:Ty:=(.list tI)
abbrev tO:Ty:=(.pair tI tQ)
abbrev tD:Ty:=(.pair tO (.list tC))
abbrev z0:Fl:=.s [] []
def ra:Nat→Nat→List Nat→List Nat
 | _,0,l=>l
 | a,n+1,l=>a::ra (a+1) n l
def za:Nat→List Fl→List Fl
 | 0,l=>l
 | n+1,l=>z0::za n l
theorem fc {f:FuncId} {ta tr:List Ty} {m:Tup (ta.map .d)→Option (Tup (tr.map .d))} {Γ:Tabs} (h:TabOK Tryz.prog Γ) (own:List Nat) (an:Ann) (fn:Func) (hm:∀ x,fnM OPS 400 Γ own an fn (fn.body.getD .skip) ta tr x=m x) (hf:lk Γ.fn f=some fn:=by kernel_rfl) (hb:fn.body=some (fn.body.getD .skip):=by kernel_rfl) (hn:Nat.ble ta.length fn.ntmps=true:=by kernel_rfl):SpecOK Tryz.prog f ⟨ta,tr,m⟩:=fnM_ok h OPS_sound OPS_nice hf hb hn hm
def anMp92:Ann:=.a
theorem mp92:MapOK Tryz.prog 92 [(1,138),(2,139),(3,140)]:=fnMap_ok tabsOK (F:=OPS) OPS_sound OPS_nice (an:=anMp92) (n:=400) (fn:=Tryz.f92) (code:=Tryz.f92.body.getD .skip) (by kernel_rfl) (by kernel_rfl) Tryz.call92 (by kernel_rfl)
def anMp93:Ann:=.a
theorem mp93:MapOK Tryz.prog 93 [(4,141),(5,141)]:=fnMap_ok tabsOK (F:=OPS) OPS_sound OPS_nice (an:=anMp93) (n:=400) (fn:=Tryz.f93) (code:=Tryz.f93.body.getD .skip) (by kernel_rfl) (by kernel_rfl) Tryz.call93 (by kernel_rfl)
def tabsA:Tabs:={ tabs with mps:=[(92,[(1,138),(2,139),(3,140)]),(93,[(4,141),(5,141)])] }
theorem mpsOK:∀ f es,lk tabsA.mps f=some es→MapOK Tryz.prog f es:=by
 show ∀ f es,lk [(92,[(1,138),(2,139),(3,140)]),(93,[(4,141),(5,141)])] f=some es→MapOK Tryz.prog f es
 refine lk_all (p:=fun f es=>MapOK Tryz.prog f es) mp92 ?_
 refine lk_all (p:=fun f es=>MapOK Tryz.prog f es) mp93 ?_
 exact lk_none
theorem tabsAOK:TabOK Tryz.prog tabsA:=⟨tabsOK.ty,tabsOK.fn,tabsOK.sp,tabsOK.en,tabsOK.mixed,tabsOK.so,tabsOK.eqs,tabsOK.so1,mpsOK,tabsOK.ow⟩
def ano57:Ann:=.a
def mo57:List Int→Option (List Int) :=
 fun x=>nilM x (some []) ((appM (nat_lit 8) [] x).bind fun r=>some r)
theorem co57:OwnOK Tryz.prog 57 ⟨[(.list tI)],tI,mo57⟩ :=
 fnOw_ok (own:=[]) (an:=ano57) (n:=400) tabsAOK (F:=OPS) OPS_sound OPS_nice (f:=57) (fn:=Tryz.f57) (code:=Tryz.f57.body.getD .skip) (by kernel_rfl) (by kernel_rfl) (by kernel_rfl) Tryz.call57 fun x=>by kernel_rfl
def tabsO57:Tabs:=Tabs.addOw tabsA 57 ⟨[(.list tI)],tI,mo57⟩
theorem tabsO57OK:TabOK Tryz.prog tabsO57:=TabOK.addOw tabsAOK co57
def tabsX:Tabs:=tabsO57
theorem tabsXOK:TabOK Tryz.prog tabsX:=tabsO57OK

/-! putlog/dating.within -/
def as54:List Ty:=[tI,tI,tI]
def rs54:List Ty:=[.bool]
def an54:Ann:=.a
def m54:(Int×Int×Int)→Option (Bool) :=
 fun x=>some (PE.andM (leM x.2.1 x.1) (leM x.1 x.2.2))
theorem c54:SpecOK Tryz.prog 54 ⟨as54,rs54,m54⟩ :=
 fc tabsXOK [] an54 Tryz.f54 fun x=>by kernel_rfl
def tabs54:Tabs:=Tabs.add tabsX 54 ⟨as54,rs54,m54⟩
theorem tabs54OK:TabOK Tryz.prog tabs54:=TabOK.add tabsXOK c54 Tryz.call54

/-! (putlog/dating.clue).isValid -/
def as59:List Ty:=[tC,tI]
def rs59:List Ty:=[.bool]
def an59:Ann:=.seq (.a) (.seq (.a) (.seq (.seq (.a) (.block (.seq (.a) (.cond (.a) (.seq (.join [(.norm,⟨[(38,.r (.c (.d (.d .bool))))],[39,40],[],[]⟩)] (.a)) (.a)))))) (.a)))
def m59:((Int×Int×Int×Int×Int)×Int)→Option (Bool) :=
 fun x=>(m54 (x.1.2.1,0,wrap IntKind.i64 (x.2-1))).bind fun r=>bif eqM x.1.1 1 then some (PE.andM (PE.andM (PE.andM (PE.andM r (eqM x.1.2.2.1 0)) (leM 0
 x.1.2.2.2.1)) (ltM x.1.2.2.2.1 x.1.2.2.2.2)) (leM x.1.2.2.2.2 2101)) else (bif eqM x.1.1 2 then some (eqM x.1.1 2) else some (eqM x.1.1 3)).bind fun o=>bif
 o then (bif PE.andM r (eqM x.1.2.2.1 0) then m54 (x.1.2.2.2.1,0,2100) else some false).bind fun r_1=>some (PE.andM (PE.andM (PE.andM r (eqM x.1.2.2.1 0))
 r_1) (eqM x.1.2.2.2.2 0)) else bif eqM x.1.1 4 then (bif r then m54 (x.1.2.2.1,0,wrap IntKind.i64 (x.2-1)) else some false).bind fun r_1=>some (PE.andM
 (PE.andM (PE.andM r r_1) (eqM x.1.2.2.2.1 0)) (eqM x.1.2.2.2.2 0)) else bif eqM x.1.1 5 then (bif r then m54 (x.1.2.2.1,0,wrap IntKind.i64 (x.2-1)) else
 some false).bind fun r_1=>some (PE.andM (PE.andM (PE.andM (PE.andM r r_1) (leM (-200) x.1.2.2.2.1)) (leM x.1.2.2.2.1 x.1.2.2.2.2)) (leM x.1.2.2.2.2 200))
 else some false
theorem c59:SpecOK Tryz.prog 59 ⟨as59,rs59,m59⟩ :=
 fc tabs54OK [] an59 Tryz.f59 fun x=>by kernel_rfl
def tabs59:Tabs:=Tabs.add tabs54 59 ⟨as59,rs59,m59⟩
theorem tabs59OK:TabOK Tryz.prog tabs59:=TabOK.add tabs54OK c59 Tryz.call59

/-! putlog/order.Formed -/
def as106:List Ty:=[tO]
def rs106:List Ty:=[.bool]
def an106:Ann:=.seq (.a) (.seq (.a) (.seq (.reg [] [] [z0,.s [0] [],z0,.r,z0,z0] (.call [] [] (.seq (.a) (.seq (.reg [] [] [z0,z0,.r,z0,z0] (.call [] [(.norm,⟨[(7,.r (.c (.d (.d tI))))],[],[],[]⟩)] (.seq (.a) (.seq (.seq (.a) (.block (.loop ⟨[(8,.r (.c (.d (.d tI))))],(5::ra 9 8 (18::[])),[],[]⟩ [(.exit 0,⟨[],(5::ra 8 9 (18::[])),[],[]⟩),(.ret,⟨[(4,.r (.c (.d (.d tI))))],(5::ra 8 11 ([])),[],[]⟩)] (.seq (.a) (.seq (.a) (.seq (.block (.seq (.a) (.seq (.reg [] [] [z0,z0,z0,z0,z0,.r] (.call [] [] (.seq (.a) (.a)) (.a))) (.a)))) (.a))))))) (.a))) (.a))) (.a))) (.a))) (.a)))
def m106:(Int×List (Int×Int))→Option (Bool) :=
 fun x=>bif PE.orM (PE.orM (ltM x.1 0) (ltM 8 x.1)) (ltM 28 (lenM x.2)) then some false else ((loopM (fun (s:Int)=>bif ltM s (lenM x.2) then (idxM x.2
 s).bind fun r=>bif PE.orM (PE.orM (ltM (min r.1 r.2) 0) (leM x.1 (max r.1 r.2))) (eqM r.1 r.2) then some (Sum.inr (Sum.inr s)) else some (Sum.inl (wrap
 IntKind.i64 (s+1))) else some (Sum.inr (Sum.inl ()))) 0).bind fun o=>Sum.elim (fun (t:Unit)=>some (-1)) (fun (t:Int)=>some t) o).bind fun (ov :
 Int)=>some (PE.notM (leM 0 ov))
theorem c106:SpecOK Tryz.prog 106 ⟨as106,rs106,m106⟩ :=
 fc tabs59OK [] an106 Tryz.f106 fun x=>by kernel_rfl
def tabs106:Tabs:=Tabs.add tabs59 106 ⟨as106,rs106,m106⟩
theorem tabs106OK:TabOK Tryz.prog tabs106:=TabOK.add tabs59OK c106 Tryz.call106

/-! putlog/order.closed -/
def as107:List Ty:=[tO]
def rs107:List Ty:=[(.pair tI (.pair tI (.pair tI tC))),.bool]
def an107:Ann:=.seq (.a) (.seq (.a) (.seq (.seq (.a) (.block (.loop ⟨[(13,.r (.c (.d (.d tI))))],(6::ra 14 13 ([])),[(2,.flat 8 tI)],[]⟩ [(.exit 0,⟨[],(6::ra 13 14 ([])),[(2,.flat 8 tI)],[]⟩)] (.seq (.a) (.seq (.a) (.seq (.block (.seq (.a) (.reg [0,1,3,7,0,16,48,127,255,511] (ra 0 10 ([])) [z0,.s [3] [],.s [2] [],.s [2] [],z0,.s [3] [],z0,z0,.s [2] [],.s [2] [2]] (.a)))) (.a))))))) (.seq (.seq (.a) (.block (.loop ⟨[(29,.r (.c (.d (.d tI))))],(7::8::ra 30 24 ([])),[(2,.flat 8 tI)],[]⟩ [(.exit 2,⟨[],(7::8::ra 29 25 ([])),[(2,.flat 8 tI)],[]⟩)] (.seq (.a) (.seq (.a) (.seq (.block (.seq (.a) (.seq (.a) (.block (.loop ⟨[(34,.r (.c (.d (.d tI))))],(8::ra 35 18 ([])),[(2,.flat 8 tI)],[]⟩ [(.exit 4,⟨[],(8::ra 34 19 ([])),[(2,.flat 8 tI)],[]⟩)] (.seq (.a) (.seq (.a) (.seq (.join [(.norm,⟨[],(8::ra 36 16 ([])),[(2,.flat 8 tI)],[]⟩)] (.block (.seq (.a) (.seq (.a) (.cond (.reg [0,1,3,0,8,24,63,127,255] (ra 0 9 ([])) [z0,.s [2] [],.s [2] [],z0,.s [2] [],.s [2] [],z0,.s [2] [],.s [2] [2]] (.a)) (.a)))))) (.a))))))))) (.a))))))) (.seq (.seq (.a) (.block (.loop ⟨[(56,.r (.c (.d (.d tI))))],(9::ra 57 9 (67::[])),[],[]⟩ [(.exit 6,⟨[],(9::ra 56 10 (67::[])),[],[]⟩),(.ret,⟨[(3,.r (.c (.d (.d .bool))))],(9::ra 56 12 ([])),[(1,.flat 8 tI)],[]⟩)] (.a)))) (.a)))))
def m107:(Int×List (Int×Int))→Option ((Int×Int×Int×Int×Int×Int×Int×Int)×Bool) :=
 fun x=>(loopM (fun (s:Int×List Int)=>bif ltM s.1 (lenM x.2) then (idxM x.2 s.1).bind fun r=>(chkM r.2 ↑(nat_lit 8)).bind fun r_1=>(idxM s.2
 (↑(nat_lit 0)+r.2*↑(nat_lit 1))).bind fun r_2=>(shlM IntKind.i64 1 r.1).bind fun r_3=>(chkM r.2 ↑(nat_lit 8)).bind fun r_4=>(setM s.2 (↑(nat_lit 0)
 + r.2*↑(nat_lit 1)) fun (x:Int)=>some (bitM BinOp.or IntKind.i64 r_2 r_3)).bind fun r=>some (Sum.inl (wrap IntKind.i64 (s.1+1),r)) else some
 (Sum.inr s.2)) (0,[0,0,0,0,0,0,0,0])).bind fun o=>(loopM (fun (s:Int×List Int)=>bif ltM s.1 x.1 then (loopM (fun (s_1:Int×List Int)=>bif
 ltM s_1.1 x.1 then ((chkM s_1.1 ↑(nat_lit 8)).bind fun r=>(idxM s_1.2 (↑(nat_lit 0)+s_1.1*↑(nat_lit 1))).bind fun r_1=>(shrM IntKind.i64 r_1 s.1).bind
 fun r_2=>bif eqM (bitM BinOp.and IntKind.i64 r_2 1) 1 then (chkM s_1.1 ↑(nat_lit 8)).bind fun r_3=>(idxM s_1.2 (↑(nat_lit 0)+s_1.1*↑(nat_lit 1))).bind
 fun r_4=>(chkM s.1 ↑(nat_lit 8)).bind fun r_5=>(idxM s_1.2 (↑(nat_lit 0)+s.1*↑(nat_lit 1))).bind fun r_6=>(chkM s_1.1 ↑(nat_lit 8)).bind fun r_7 =>
 (setM s_1.2 (↑(nat_lit 0)+s_1.1*↑(nat_lit 1)) fun (x:Int)=>some (bitM BinOp.or IntKind.i64 r_4 r_6)).bind fun r=>some r else some s_1.2).bind fun o
 => some (Sum.inl (wrap IntKind.i64 (s_1.1+1),o)) else some (Sum.inr s_1.2)) (0,s.2)).bind fun o=>some (Sum.inl (wrap IntKind.i64 (s.1+1),o)) else
 some (Sum.inr s.2)) (0,o)).bind fun o_1=>(loopM (fun (s:Int)=>bif ltM s x.1 then (chkM s ↑(nat_lit 8)).bind fun r=>(idxM o_1 (↑(nat_lit 0)+s *
 ↑(nat_lit 1))).bind fun r_1=>(shrM IntKind.i64 r_1 s).bind fun r=>bif eqM (bitM BinOp.and IntKind.i64 r 1) 1 then some (Sum.inr (Sum.inr (false,[nthD o_1
 (nat_lit 0) 0,nthD o_1 (nat_lit 1) 0,nthD o_1 (nat_lit 2) 0,nthD o_1 (nat_lit 3) 0,nthD o_1 (nat_lit 4) 0,nthD o_1 (nat_lit 5) 0,nthD o_1 (nat_lit 6) 0,
 nthD o_1 (nat_lit 7) 0]))) else some (Sum.inl (wrap IntKind.i64 (s+1))) else some (Sum.inr (Sum.inl ()))) 0).bind fun o=>Sum.elim (fun (t:Unit)=>some
 ((nthD o_1 (nat_lit 0) 0,nthD o_1 (nat_lit 1) 0,nthD o_1 (nat_lit 2) 0,nthD o_1 (nat_lit 3) 0,nthD o_1 (nat_lit 4) 0,nthD o_1 (nat_lit 5) 0,nthD o_1
 (nat_lit 6) 0,nthD o_1 (nat_lit 7) 0),true)) (fun (t:Bool×List Int)=>some ((nthD t.2 (nat_lit 0) 0,nthD t.2 (nat_lit 1) 0,nthD t.2 (nat_lit 2) 0,
 nthD t.2 (nat_lit 3) 0,nthD t.2 (nat_lit 4) 0,nthD t.2 (nat_lit 5) 0,nthD t.2 (nat_lit 6) 0,nthD t.2 (nat_lit 7) 0),t.1)) o
theorem c107:SpecOK Tryz.prog 107 ⟨as107,rs107,m107⟩ :=
 fc tabs106OK [2,4] an107 Tryz.f107 fun x=>by kernel_rfl
def tabs107:Tabs:=Tabs.add tabs106 107 ⟨as107,rs107,m107⟩
theorem tabs107OK:TabOK Tryz.prog tabs107:=TabOK.add tabs106OK c107 Tryz.call107

/-! putlog/order.read -/
def as67:List Ty:=[tO]
def rs67:List Ty:=[(.pair tI (.pair tI (.pair tI tC))),.bool]
def an67:Ann:=.a
def m67:(Int×List (Int×Int))→Option ((Int×Int×Int×Int×Int×Int×Int×Int)×Bool) :=
 fun x=>(m106 (x.1,x.2)).bind fun r=>bif PE.notM r then some ((0,0,0,0,0,0,0,0),false) else (m107 (x.1,x.2)).bind fun r=>some ((r.1.1,r.1.2.1,
 r.1.2.2.1,r.1.2.2.2.1,r.1.2.2.2.2.1,r.1.2.2.2.2.2.1,r.1.2.2.2.2.2.2.1,r.1.2.2.2.2.2.2.2),r.2)
theorem c67:SpecOK Tryz.prog 67 ⟨as67,rs67,m67⟩ :=
 fc tabs107OK [] an67 Tryz.f67 fun x=>by kernel_rfl
def tabs67:Tabs:=Tabs.add tabs107 67 ⟨as67,rs67,m67⟩
theorem tabs67OK:TabOK Tryz.prog tabs67:=TabOK.add tabs107OK c67 Tryz.call67

/-! putlog/order.Valid -/
def as60:List Ty:=[tO]
def rs60:List Ty:=[.bool]
def an60:Ann:=.a
def m60:(Int×List (Int×Int))→Option (Bool) :=
 fun x=>(m67 (x.1,x.2)).bind fun r=>some r.2
theorem c60:SpecOK Tryz.prog 60 ⟨as60,rs60,m60⟩ :=
 fc tabs67OK [] an60 Tryz.f60 fun x=>by kernel_rfl
def tabs60:Tabs:=Tabs.add tabs67 60 ⟨as60,rs60,m60⟩
theorem tabs60OK:TabOK Tryz.prog tabs60:=TabOK.add tabs67OK c60 Tryz.call60

/-! putlog/dating.Valid -/
def as20:List Ty:=[tD]
def rs20:List Ty:=[.bool]
def an20:Ann:=.seq (.a) (.seq (.a) (.seq (.reg [] [] [z0,.s [0] [],z0,z0,z0,.s [0] [],z0,z0,z0,z0,z0,.s [0] [],z0,.r,z0,z0,z0] (.call [] [(.norm,⟨[(18,.r (.c (.d (.d .bool))))],[],[],[]⟩)] (.seq (.a) (.seq (.reg [] [] [z0,z0,.r,z0,z0] (.call [] [(.norm,⟨[(7,.r (.c (.d (.d tI))))],[],[],[]⟩)] (.seq (.a) (.seq (.seq (.a) (.block (.loop ⟨[(8,.r (.c (.d (.d tI))))],(5::ra 9 8 (18::[])),[],[]⟩ [(.exit 0,⟨[],(5::ra 8 9 (18::[])),[],[]⟩),(.ret,⟨[(4,.r (.c (.d (.d tI))))],(5::ra 8 11 ([])),[],[]⟩)] (.seq (.a) (.seq (.a) (.seq (.block (.seq (.a) (.seq (.reg [] [] [z0,z0,z0,z0,z0,.r] (.call [] [] (.seq (.a) (.a)) (.a))) (.a)))) (.a))))))) (.a))) (.a))) (.a))) (.a))) (.a)))
def m20:((Int×List (Int×Int))×List (Int×Int×Int×Int×Int))→Option (Bool) :=
 fun x=>(m60 (x.1.1,x.1.2)).bind fun r=>(bif PE.andM r (leM (lenM x.2) 14) then ((loopM (fun (s:Int)=>bif ltM s (lenM x.2) then (idxM x.2 s).bind fun
 r_1=>(m59 ((r_1.1,r_1.2.1,r_1.2.2.1,r_1.2.2.2.1,r_1.2.2.2.2),x.1.1)).bind fun r=>bif PE.notM r then some (Sum.inr (Sum.inr s)) else some (Sum.inl
 (wrap IntKind.i64 (s+1))) else some (Sum.inr (Sum.inl ()))) 0).bind fun o=>Sum.elim (fun (t:Unit)=>some (-1)) (fun (t:Int)=>some t) o).bind fun
 (ov:Int)=>some (leM 0 ov) else some false).bind fun (ov:Bool)=>some (PE.andM (PE.andM r (leM (lenM x.2) 14)) (PE.notM ov))
theorem c20:SpecOK Tryz.prog 20 ⟨as20,rs20,m20⟩ :=
 fc tabs60OK [] an20 Tryz.f20 fun x=>by kernel_rfl
def tabs20:Tabs:=Tabs.add tabs60 20 ⟨as20,rs20,m20⟩
theorem tabs20OK:TabOK Tryz.prog tabs20:=TabOK.add tabs60OK c20 Tryz.call20

/-! (putlog/dating.clue).span -/
def as138:List Ty:=[tC]
def rs138:List Ty:=[tI,tI]
def an138:Ann:=.seq (.a) (.seq (.reg [0,1,0,4,12,3,63] (ra 0 7 ([])) (z0::.s [0] []::z0::.s [0] []::za 3 ([])) (.a)) (.a))
def m138:(Int×Int×Int×Int×Int)→Option (Int×Int) :=
 fun x=>some (x.2.2.2.1,wrap IntKind.i64 (x.2.2.2.2-1))
theorem c138:SpecOK Tryz.prog 138 ⟨as138,rs138,m138⟩ :=
 fc tabs20OK [] an138 Tryz.f138 fun x=>by kernel_rfl
def tabs138:Tabs:=Tabs.add tabs20 138 ⟨as138,rs138,m138⟩
theorem tabs138OK:TabOK Tryz.prog tabs138:=TabOK.add tabs20OK c138 Tryz.call138

/-! (putlog/dating.clue).after -/
def as139:List Ty:=[tC]
def rs139:List Ty:=[tI,tI]
def an139:Ann:=.a
def m139:(Int×Int×Int×Int×Int)→Option (Int×Int) :=
 fun x=>some (x.2.2.2.1,2100)
theorem c139:SpecOK Tryz.prog 139 ⟨as139,rs139,m139⟩ :=
 fc tabs138OK [] an139 Tryz.f139 fun x=>by kernel_rfl
def tabs139:Tabs:=Tabs.add tabs138 139 ⟨as139,rs139,m139⟩
theorem tabs139OK:TabOK Tryz.prog tabs139:=TabOK.add tabs138OK c139 Tryz.call139

/-! (putlog/dating.clue).before -/
def as140:List Ty:=[tC]
def rs140:List Ty:=[tI,tI]
def an140:Ann:=.seq (.a) (.seq (.reg [0,1,0,7] [0,1,2,3] [z0,.s [0] [],z0,z0] (.a)) (.a))
def m140:(Int×Int×Int×Int×Int)→Option (Int×Int) :=
 fun x=>some (0,x.2.2.2.1)
theorem c140:SpecOK Tryz.prog 140 ⟨as140,rs140,m140⟩ :=
 fc tabs139OK [] an140 Tryz.f140 fun x=>by kernel_rfl
def tabs140:Tabs:=Tabs.add tabs139 140 ⟨as140,rs140,m140⟩
theorem tabs140OK:TabOK Tryz.prog tabs140:=TabOK.add tabs139OK c140 Tryz.call140

/-! (putlog/dating.clue).gap -/
def as141:List Ty:=[tC]
def rs141:List Ty:=[tI,tI]
def an141:Ann:=.seq (.a) (.seq (.reg [0,1,0,4,3,31] (ra 0 6 ([])) [z0,.s [0] [],z0,.s [0] [],z0,z0] (.a)) (.a))
def m141:(Int×Int×Int×Int×Int)→Option (Int×Int) :=
 fun x=>some (x.2.2.2.1,x.2.2.2.2)
theorem c141:SpecOK Tryz.prog 141 ⟨as141,rs141,m141⟩ :=
 fc tabs140OK [] an141 Tryz.f141 fun x=>by kernel_rfl
def tabs141:Tabs:=Tabs.add tabs140 141 ⟨as141,rs141,m141⟩
theorem tabs141OK:TabOK Tryz.prog tabs141:=TabOK.add tabs140OK c141 Tryz.call141

/-! putlog/order.listed -/
def as68:List Ty:=[tI,(.pair tI (.pair tI (.pair tI tC)))]
def rs68:List Ty:=[tO]
def an68:Ann:=.seq (.a) (.seq (.a) (.seq (.seq (.a) (.block (.loop ⟨[(11,.r (.c (.d (.d tI))))],(6::7::ra 12 23 ([])),[(2,.box [.d (.d tI),.h 3])],[.arr tP]⟩ [(.exit 0,⟨[],(6::7::ra 11 24 ([])),[(2,.box [.d (.d tI),.h 3])],[.arr tP]⟩)] (.seq (.a) (.seq (.a) (.seq (.block (.seq (.a) (.seq (.a) (.block (.loop ⟨[(15,.r (.c (.d (.d tI))))],(7::ra 16 18 ([])),[(2,.box [.d (.d tI),.h 4]),(3,.gone)],[.arr tP]⟩ [(.exit 2,⟨[],(7::ra 15 19 ([])),[(2,.box [.d (.d tI),.h 4]),(3,.gone)],[.arr tP]⟩)] (.seq (.a) (.seq (.a) (.seq (.join [(.norm,⟨[],(7::ra 17 16 ([])),[(2,.box [.d (.d tI),.h 5]),(4,.gone)],[.arr tP]⟩)] (.a)) (.a))))))))) (.a))))))) (.a)))
def m68:(Int×Int×Int×Int×Int×Int×Int×Int×Int)→Option (Int×List (Int×Int)) :=
 fun x=>(loopM (fun (s:Int×Int×List (Int×Int))=>bif ltM s.1 x.1 then (loopM (fun (s_1:Int×Int×List (Int×Int))=>bif ltM s_1.1 x.1 then
 ((chkM s_1.1 ↑(nat_lit 8)).bind fun r=>(idxM [x.2.1,x.2.2.1,x.2.2.2.1,x.2.2.2.2.1,x.2.2.2.2.2.1,x.2.2.2.2.2.2.1,x.2.2.2.2.2.2.2.1,x.2.2.2.2.2.2.2.2]
 (↑(nat_lit 0)+s_1.1*↑(nat_lit 1))).bind fun r_1=>(shrM IntKind.i64 r_1 s.1).bind fun r_2=>bif eqM (bitM BinOp.and IntKind.i64 r_2 1) 1 then (appM
 (nat_lit 16) s_1.2.2 [(s.1,s_1.1)]).bind fun r=>some (s_1.2.1,r) else some (s_1.2.1,s_1.2.2)).bind fun o=>some (Sum.inl (wrap IntKind.i64 (s_1.1+1),
 o.1,o.2)) else some (Sum.inr (s_1.2.1,s_1.2.2))) (0,s.2.1,s.2.2)).bind fun o=>some (Sum.inl (wrap IntKind.i64 (s.1+1),o.1,o.2)) else some (Sum.inr
 (s.2.1,s.2.2))) (0,x.1,[])).bind fun o=>some (o.1,o.2)
theorem c68:SpecOK Tryz.prog 68 ⟨as68,rs68,m68⟩ :=
 fc tabs141OK [3] an68 Tryz.f68 fun x=>by kernel_rfl
def tabs68:Tabs:=Tabs.add tabs141 68 ⟨as68,rs68,m68⟩
theorem tabs68OK:TabOK Tryz.prog tabs68:=TabOK.add tabs141OK c68 Tryz.call68

/-! putlog/order.Reduce -/
def as28:List Ty:=[tO]
def rs28:List Ty:=[tO,tI]
def an28:Ann:=.seq (.a) (.seq (.a) (.seq (.a) (.seq (.a) (.seq (.seq (.a) (.block (.loop ⟨[(20,.r (.c (.d (.d tI))))],(7::8::ra 21 24 ([])),[(3,.flat 8 tI)],[]⟩ [(.exit 0,⟨[],(7::8::ra 20 25 ([])),[(3,.flat 8 tI)],[]⟩)] (.seq (.a) (.seq (.a) (.seq (.block (.seq (.a) (.seq (.a) (.block (.loop ⟨[(25,.r (.c (.d (.d tI))))],(8::ra 26 18 ([])),[(3,.flat 8 tI)],[]⟩ [(.exit 2,⟨[],(8::ra 25 19 ([])),[(3,.flat 8 tI)],[]⟩)] (.seq (.a) (.seq (.a) (.seq (.join [(.norm,⟨[],(8::ra 27 16 ([])),[(3,.flat 8 tI)],[]⟩)] (.block (.seq (.a) (.seq (.a) (.cond (.reg [0,1,3,0,8,24,63,127,255] (ra 0 9 ([])) [z0,.s [3] [],.s [3] [],z0,.s [2] [],.s [2] [],z0,.s [3] [],.s [3] [3]] (.a)) (.a)))))) (.a))))))))) (.a))))))) (.a)))))
def m28:(Int×List (Int×Int))→Option ((Int×List (Int×Int))×Int) :=
 fun x=>(m67 (x.1,x.2)).bind fun r=>bif PE.notM r.2 then some ((0,[]),150) else (loopM (fun (s:Int×List Int)=>bif ltM s.1 x.1 then (loopM (fun (s_1
 : Int×List Int)=>bif ltM s_1.1 x.1 then ((chkM s.1 ↑(nat_lit 8)).bind fun r_1=>(idxM [r.1.1,r.1.2.1,r.1.2.2.1,r.1.2.2.2.1,r.1.2.2.2.2.1,
 r.1.2.2.2.2.2.1,r.1.2.2.2.2.2.2.1,r.1.2.2.2.2.2.2.2] (↑(nat_lit 0)+s.1*↑(nat_lit 1))).bind fun r_2=>(shrM IntKind.i64 r_2 s_1.1).bind fun r_3=>bif
 eqM (bitM BinOp.and IntKind.i64 r_3 1) 1 then (chkM s.1 ↑(nat_lit 8)).bind fun r_4=>(idxM s_1.2 (↑(nat_lit 0)+s.1*↑(nat_lit 1))).bind fun r_5=>(chkM
 s_1.1 ↑(nat_lit 8)).bind fun r_6=>(idxM [r.1.1,r.1.2.1,r.1.2.2.1,r.1.2.2.2.1,r.1.2.2.2.2.1,r.1.2.2.2.2.2.1,r.1.2.2.2.2.2.2.1,r.1.2.2.2.2.2.2.2]
 (↑(nat_lit 0)+s_1.1*↑(nat_lit 1))).bind fun r_7=>(chkM s.1 ↑(nat_lit 8)).bind fun r_8=>(setM s_1.2 (↑(nat_lit 0)+s.1*↑(nat_lit 1)) fun (x:Int)
 => some (bitM BinOp.andNot IntKind.i64 r_5 r_7)).bind fun r=>some r else some s_1.2).bind fun o=>some (Sum.inl (wrap IntKind.i64 (s_1.1+1),o)) else
 some (Sum.inr s_1.2)) (0,s.2)).bind fun o=>some (Sum.inl (wrap IntKind.i64 (s.1+1),o)) else some (Sum.inr s.2)) (0,[r.1.1,r.1.2.1,r.1.2.2.1,
 r.1.2.2.2.1,r.1.2.2.2.2.1,r.1.2.2.2.2.2.1,r.1.2.2.2.2.2.2.1,r.1.2.2.2.2.2.2.2])).bind fun o=>(m68 (x.1,nthD o (nat_lit 0) 0,nthD o (nat_lit 1) 0,nthD
 o (nat_lit 2) 0,nthD o (nat_lit 3) 0,nthD o (nat_lit 4) 0,nthD o (nat_lit 5) 0,nthD o (nat_lit 6) 0,nthD o (nat_lit 7) 0)).bind fun r=>some ((r.1,
 r.2),0)
theorem c28:SpecOK Tryz.prog 28 ⟨as28,rs28,m28⟩ :=
 fc tabs68OK [4,6] an28 Tryz.f28 fun x=>by kernel_rfl
def tabs28:Tabs:=Tabs.add tabs68 28 ⟨as28,rs28,m28⟩
theorem tabs28OK:TabOK Tryz.prog tabs28:=TabOK.add tabs68OK c28 Tryz.call28

/-! putlog/dating.Bounds -/
def as24:List Ty:=[tD]
def rs24:List Ty:=[(.pair tI (.list tB)),tI]
def an24:Ann:=.seq (.a) (.seq (.a) (.seq (.a) (.seq (.join [(.norm,⟨[],[16,17],[(2,.box [.d (.d tI),.h 3])],[.arr tB]⟩)] (.seq (.reg [] [] [.s [0] [],.r] (.call [] [] (.seq (.a) (.a)) (.a))) (.block (.call [] [] (.seq (.a) (.seq (.a) (.seq (.a) (.seq (.seq (.a) (.block (.loop ⟨[(23,.r (.c (.d (.d tI))))],(5::ra 24 8 ([])),[(2,.box [.d (.d tI),.h 6]),(4,.lp .ready)],[.arr tB]⟩ [(.exit 0,⟨[],(5::ra 23 9 ([])),[(2,.box [.d (.d tI),.h 6]),(4,.lp .ready)],[.arr tB]⟩),(.ret,⟨[],(5::ra 23 9 ([])),[(2,.box [.d (.d tI),.h 6]),(4,.lp .ready)],[.arr tB]⟩)] (.seq (.a) (.seq (.a) (.seq (.block (.seq (.a) (.seq (.reg [] [] [z0,z0,z0,.r,z0] (.call [] [] (.seq (.a) (.seq (.reg [] [] [.s [5] [],z0,z0,z0,z0,z0,z0,.r,z0,.s [5] [],z0,z0,z0,z0,z0,.r,z0,z0] (.call [] [] (.seq (.a) (.a)) (.gq (.s [5] []) (.gq z0 (.gq z0 (.gq z0 (.gq z0 (.gq z0 (.gq (.r) (.call [] [] (.seq (.a) (.a)) (.a)) (.a)) (.a)) (.a)) (.a)) (.a)) (.a)) (.a)))) (.a))) (.a))) (.a)))) (.a))))))) (.seq (.seq (.a) (.block (.loop ⟨[(35,.r (.c (.d (.d tI))))],(ra 6 8 (ra 36 60 ([]))),[(2,.box [.d (.d tI),.h 7]),(4,.lp .ready),(6,.gone)],[.arr tB]⟩ [(.exit 2,⟨[],(ra 6 8 (ra 35 61 ([]))),[(2,.box [.d (.d tI),.h 7]),(4,.lp .ready),(6,.gone)],[.arr tB]⟩),(.ret,⟨[],(ra 6 8 (ra 35 61 ([]))),[(2,.box [.d (.d tI),.h 7]),(4,.lp .ready),(6,.gone)],[.arr tB]⟩)] (.seq (.a) (.seq (.a) (.seq (.join [(.ret,⟨[],(ra 6 6 (ra 37 26 ([]))),[(2,.box [.d (.d tI),.h 8]),(4,.lp .ready),(7,.gone)],[.arr tB]⟩),(.norm,⟨[],(ra 6 8 (ra 37 58 ([]))),[(2,.box [.d (.d tI),.h 8]),(4,.lp .ready),(7,.gone)],[.arr tB]⟩)] (.block (.seq (.a) (.seq (.seq (.reg [0,0,2,7,15,31,31,63,255] (ra 0 9 ([])) (.s [] [9]::z0::.s [8] []::.s [9] []::za 5 ([])) (.a)) (.seq (.a) (.cond (.seq (.a) (.seq (.seq (.reg [] [] [z0,z0,z0,z0,.s [8] [],z0,z0,.r,z0] (.call [] [] (.seq (.a) (.seq (.reg [] [] [.s [5] [],z0,z0,z0,z0,z0,z0,.r,z0,.s [5] [],z0,z0,z0,z0,z0,.r,z0,z0] (.call [] [] (.seq (.a) (.a)) (.gq (.s [5] []) (.gq z0 (.gq z0 (.gq z0 (.gq z0 (.gq z0 (.gq (.r) (.call [] [] (.seq (.a) (.a)) (.a)) (.a)) (.a)) (.a)) (.a)) (.a)) (.a)) (.a)))) (.a))) (.a))) (.a)) (.a))) (.a)))) (.seq (.reg [0,0,2,7,0,31,63,127,127,255,1023] (ra 0 11 ([])) (.s [] [10]::z0::.s [8] []::.s [10] []::.s [8] []::za 6 ([])) (.a)) (.seq (.reg [] [] [.s [5] [],z0,z0,.s [8] [],z0,.s [8] [],z0,z0,.r,z0,z0,.s [5] [],z0,z0,.s [8] [],z0,.s [8] [],z0,z0,z0,.r,z0,z0] (.call [] [] (.seq (.a) (.a)) (.gq (.s [5] []) (.gq z0 (.gq z0 (.gq (.s [8] []) (.gq z0 (.gq (.s [8] []) (.gq z0 (.gq z0 (.gq z0 (.gq (.r) (.call [] [] (.seq (.a) (.a)) (.gq z0 (.a) (.a))) (.a)) (.a)) (.a)) (.a)) (.a)) (.a)) (.a)) (.a)) (.a)) (.a)))) (.a))))))) (.a))))))) (.seq (.a) (.seq (.a) (.block (.loop ⟨[(105,.r (.c (.d (.d tI))))],(16::17::ra 106 18 ([])),[(2,.box [.d (.d tI),.h 9]),(4,.lp .ready),(7,.gone)],[.arr tB]⟩ [(.exit 4,⟨[],(16::17::ra 105 19 ([])),[(2,.box [.d (.d tI),.h 9]),(4,.lp .ready),(7,.gone)],[.arr tB]⟩)] (.seq (.a) (.seq (.a) (.seq (.block (.seq (.a) (.seq (.reg [] [] [.s [5] [],z0,.s [3] [],z0,z0,z0,z0,.s [10] [],z0,.s [10] [],z0,.r,z0] (.call [] [] (.seq (.a) (.a)) (.a))) (.a)))) (.a))))))))))))) (.a))))) (.a))))
def m24:((Int×List (Int×Int))×List (Int×Int×Int×Int×Int))→Option ((Int×List (Int×Int×Int))×Int) :=
 fun x=>(m20 ((x.1.1,x.1.2),x.2)).bind fun r=>bif PE.notM r then some ((0,[]),220) else ((loopM (fun (s:Int×Int×List (Int×Int×Int))=>bif ltM
 s.1 x.1.1 then (appM (nat_lit 24) s.2.2 [(s.1,x.1.1,0)]).bind fun r_1=>(appM (nat_lit 24) r_1 [(x.1.1,s.1,2100)]).bind fun r=>some (Sum.inl (wrap
 IntKind.i64 (s.1+1),s.2.1,r)) else some (Sum.inr (Sum.inl (s.2.1,s.2.2)))) (0,wrap IntKind.i64 (x.1.1+1),[])).bind fun o=>Sum.elim (fun (t:Int ×
 List (Int×Int×Int))=>(loopM (fun (s:Int×Int×List (Int×Int×Int))=>bif ltM s.1 (lenM x.2) then ((idxM x.2 s.1).bind fun r_1=>bif PE.orM (eqM
 r_1.1 1) (PE.orM (eqM r_1.1 2) (eqM r_1.1 3)) then (bif eqM r_1.1 1 then m138 (r_1.1,r_1.2.1,r_1.2.2.1,r_1.2.2.2.1,r_1.2.2.2.2) else bif eqM r_1.1 2 then
 m139 (r_1.1,r_1.2.1,r_1.2.2.1,r_1.2.2.2.1,r_1.2.2.2.2) else bif eqM r_1.1 3 then m140 (r_1.1,r_1.2.1,r_1.2.2.1,r_1.2.2.2.1,r_1.2.2.2.2) else
 none).bind fun r_2=>(appM (nat_lit 24) s.2.2 [(r_1.2.1,x.1.1,wrap IntKind.i64 (negM r_2.1))]).bind fun r_3=>(appM (nat_lit 24) r_3 [(x.1.1,r_1.2.1,
 r_2.2)]).bind fun r=>some (Sum.inr (s.2.1,r)) else (bif eqM r_1.1 4 then m141 (r_1.1,r_1.2.1,r_1.2.2.1,r_1.2.2.2.1,r_1.2.2.2.2) else bif eqM r_1.1 5
 then m141 (r_1.1,r_1.2.1,r_1.2.2.1,r_1.2.2.2.1,r_1.2.2.2.2) else none).bind fun r_2=>(appM (nat_lit 24) s.2.2 [(r_1.2.1,r_1.2.2.1,r_2.2)]).bind fun
 r_3=>(appM (nat_lit 24) r_3 [(r_1.2.2.1,r_1.2.1,wrap IntKind.i64 (negM r_2.1))]).bind fun r=>some (Sum.inr (s.2.1,r))).bind fun o=>Sum.elim (fun (t :
 Int×List (Int×Int×Int))=>some (Sum.inr (Sum.inr (t.1,t.2)))) (fun (t:Int×List (Int×Int×Int))=>some (Sum.inl (wrap IntKind.i64 (s.1+1),
 t.1,t.2))) o else some (Sum.inr (Sum.inl (s.2.1,s.2.2)))) (0,t.1,t.2)).bind fun o=>Sum.elim (fun (t_1:Int×List (Int×Int×Int))=>(m28 (x.1.1,
 x.1.2)).bind fun r_1=>(loopM (fun (s:Int×Int×List (Int×Int×Int))=>bif ltM s.1 (lenM r_1.1.2) then (idxM r_1.1.2 s.1).bind fun r_2=>(appM
 (nat_lit 24) s.2.2 [(r_2.2,r_2.1,0)]).bind fun r=>some (Sum.inl (wrap IntKind.i64 (s.1+1),s.2.1,r)) else some (Sum.inr (s.2.1,s.2.2))) (0,t_1.1,
 t_1.2)).bind fun o=>some (o.1,o.2)) (fun (t:Int×List (Int×Int×Int))=>some (t.1,t.2)) o) (fun (t:Int×List (Int×Int×Int))=>some (t.1,
 t.2)) o).bind fun o=>some ((o.1,o.2),0)
theorem c24:SpecOK Tryz.prog 24 ⟨as24,rs24,m24⟩ :=
 fc tabs28OK [] an24 Tryz.f24 fun x=>by kernel_rfl
def tabs24:Tabs:=Tabs.add tabs28 24 ⟨as24,rs24,m24⟩
theorem tabs24OK:TabOK Tryz.prog tabs24:=TabOK.add tabs28OK c24 Tryz.call24

/-! putlog/between.isIn -/
def as98:List Ty:=[tI,tI,tI]
def rs98:List Ty:=[.bool]
def an98:Ann:=.a
def m98:(Int×Int×Int)→Option (Bool) :=
 fun x=>some (PE.andM (leM x.2.1 x.1) (leM x.1 x.2.2))
theorem c98:SpecOK Tryz.prog 98 ⟨as98,rs98,m98⟩ :=
 fc tabs24OK [] an98 Tryz.f98 fun x=>by kernel_rfl
def tabs98:Tabs:=Tabs.add tabs24 98 ⟨as98,rs98,m98⟩
theorem tabs98OK:TabOK Tryz.prog tabs98:=TabOK.add tabs24OK c98 Tryz.call98

/-! putlog/between.isBound -/
def as102:List Ty:=[tI,tB]
def rs102:List Ty:=[.bool]
def an102:Ann:=.a
def m102:(Int×Int×Int×Int)→Option (Bool) :=
 fun x=>(m98 (x.2.1,0,wrap IntKind.i64 (x.1-1))).bind fun r=>(bif r then m98 (x.2.2.1,0,wrap IntKind.i64 (x.1-1)) else some false).bind fun r_1 =>
 (bif PE.andM r r_1 then m98 (x.2.2.2,(-1000000000),1000000000) else some false).bind fun r_2=>some (PE.andM (PE.andM r r_1) r_2)
theorem c102:SpecOK Tryz.prog 102 ⟨as102,rs102,m102⟩ :=
 fc tabs98OK [] an102 Tryz.f102 fun x=>by kernel_rfl
def tabs102:Tabs:=Tabs.add tabs98 102 ⟨as102,rs102,m102⟩
theorem tabs102OK:TabOK Tryz.prog tabs102:=TabOK.add tabs98OK c102 Tryz.call102

/-! putlog/between.Valid -/
def as64:List Ty:=[(.pair tI (.list tB))]
def rs64:List Ty:=[.bool]
def an64:Ann:=.seq (.a) (.seq (.reg [] [] [z0,.s [0] [],z0,z0,z0,.s [0] [],z0,z0,z0,z0,z0,.s [0] [],z0,.r,z0,z0,z0] (.call [] [(.norm,⟨[(16,.r (.c (.d (.d .bool))))],[],[],[]⟩)] (.seq (.a) (.seq (.reg [] [] [z0,z0,.r,z0,z0] (.call [] [(.norm,⟨[(7,.r (.c (.d (.d tI))))],[],[],[]⟩)] (.seq (.a) (.seq (.seq (.a) (.block (.loop ⟨[(8,.r (.c (.d (.d tI))))],(5::ra 9 8 (18::[])),[],[]⟩ [(.exit 0,⟨[],(5::ra 8 9 (18::[])),[],[]⟩),(.ret,⟨[(4,.r (.c (.d (.d tI))))],(5::ra 8 11 ([])),[],[]⟩)] (.seq (.a) (.seq (.a) (.seq (.block (.seq (.a) (.seq (.reg [] [] [z0,z0,z0,z0,z0,.r] (.call [] [] (.seq (.a) (.a)) (.a))) (.a)))) (.a))))))) (.a))) (.a))) (.a))) (.a))) (.a))
def m64:(Int×List (Int×Int×Int))→Option (Bool) :=
 fun x=>(m98 (x.1,0,16)).bind fun r=>(bif PE.andM r (leM (lenM x.2) 60) then ((loopM (fun (s:Int)=>bif ltM s (lenM x.2) then (idxM x.2 s).bind fun r_1
 => (m102 (x.1,r_1.1,r_1.2.1,r_1.2.2)).bind fun r=>bif PE.notM r then some (Sum.inr (Sum.inr s)) else some (Sum.inl (wrap IntKind.i64 (s+1))) else some
 (Sum.inr (Sum.inl ()))) 0).bind fun o=>Sum.elim (fun (t:Unit)=>some (-1)) (fun (t:Int)=>some t) o).bind fun (ov:Int)=>some (leM 0 ov) else some
 false).bind fun (ov:Bool)=>some (PE.andM (PE.andM r (leM (lenM x.2) 60)) (PE.notM ov))
theorem c64:SpecOK Tryz.prog 64 ⟨as64,rs64,m64⟩ :=
 fc tabs102OK [] an64 Tryz.f64 fun x=>by kernel_rfl
def tabs64:Tabs:=Tabs.add tabs102 64 ⟨as64,rs64,m64⟩
theorem tabs64OK:TabOK Tryz.prog tabs64:=TabOK.add tabs102OK c64 Tryz.call64

/-! putlog/between.none$1 -/
def as144:List Ty:=[tI,tI]
def rs144:List Ty:=[tI]
def an144:Ann:=.a
def m144:(Int×Int)→Option (Int) :=
 fun x=>bif eqM x.1 x.2 then some 0 else some 1152921504606846976
theorem c144:SpecOK Tryz.prog 144 ⟨as144,rs144,m144⟩ :=
 fc tabs64OK [] an144 Tryz.f144 fun x=>by kernel_rfl
def tabs144:Tabs:=Tabs.add tabs64 144 ⟨as144,rs144,m144⟩
theorem tabs144OK:TabOK Tryz.prog tabs144:=TabOK.add tabs64OK c144 Tryz.call144

/-! putlog/between.none -/
def as104:List Ty:=[tI]
def rs104:List Ty:=[(.list tL)]
def an104:Ann:=.seq (.a) (.seq (.reg [] [] [z0,.r,z0] (.call [9] [] (.seq (.a) (.seq (.a) (.seq (.seq (.a) (.block (.loop ⟨[(11,.r (.c (.d (.d tI))))],(6::7::ra 12 21 ([])),[(0,.tab tI 2),(1,.gone)],[.us]⟩ [(.exit 0,⟨[],(6::7::ra 11 22 ([])),[(0,.tab tI 2),(1,.gone)],[.us]⟩)] (.seq (.a) (.seq (.a) (.seq (.block (.seq (.a) (.seq (.a) (.block (.loop ⟨[(15,.r (.c (.d (.d tI))))],(7::ra 16 16 ([])),[(0,.tab tI 3),(2,.gone)],[.us]⟩ [(.exit 2,⟨[],(7::ra 15 17 ([])),[(0,.tab tI 3),(2,.gone)],[.us]⟩)] (.seq (.a) (.seq (.a) (.seq (.block (.seq (.a) (.reg [0,0,0,0,12,28,0,0,0,448,960,2044,4095,8191] (ra 0 14 ([])) (za 4 (.s [0] []::.s [0] []::za 5 (.s [0] [0]::.s [0] []::.s [0,0] [0]::[]))) (.a)))) (.a))))))))) (.a))))))) (.a)))) (.a))) (.a))
def m104:Int→Option (List (List Int)) :=
 fun x=>(mkM x x (nat_lit 24) []).bind fun r=>(loopM (fun (s:Int×List (List Int))=>bif ltM s.1 x then (loopM (fun (s_1:Int×List (List Int))=>bif
 ltM s_1.1 x then (chkM s.1 (lenM s_1.2)).bind fun r_1=>(chkM s.1 (lenM s_1.2)).bind fun r_2=>(m144 (s.1,s_1.1)).bind fun r_3=>(app2M (nat_lit 8) s_1.2
 s.1 [r_3]).bind fun r_4=>(chkM s.1 (lenM r_4)).bind fun r_5=>((sameM s.1 s.1).bind fun (x:Unit)=>(sameM s.1 s.1).bind fun (x:Unit)=>chkM s.1 (lenM
 r_4)).bind fun r=>some (Sum.inl (wrap IntKind.i64 (s_1.1+1),r_4)) else some (Sum.inr s_1.2)) (0,s.2)).bind fun o=>some (Sum.inl (wrap IntKind.i64 (s.1
 + 1),o)) else some (Sum.inr s.2)) (0,r)).bind fun o=>some o
theorem c104:SpecOK Tryz.prog 104 ⟨as104,rs104,m104⟩ :=
 fc tabs144OK [] an104 Tryz.f104 fun x=>by kernel_rfl
def tabs104:Tabs:=Tabs.add tabs144 104 ⟨as104,rs104,m104⟩
theorem tabs104OK:TabOK Tryz.prog tabs104:=TabOK.add tabs144OK c104 Tryz.call104

/-! putlog/between.plus -/
def as88:List Ty:=[tI,tI]
def rs88:List Ty:=[tI]
def an88:Ann:=.a
def m88:(Int×Int)→Option (Int) :=
 fun x=>bif PE.orM (eqM x.1 1152921504606846976) (eqM x.2 1152921504606846976) then some 1152921504606846976 else some (wrap IntKind.i64 (x.1+x.2))
theorem c88:SpecOK Tryz.prog 88 ⟨as88,rs88,m88⟩ :=
 fc tabs104OK [] an88 Tryz.f88 fun x=>by kernel_rfl
def tabs88:Tabs:=Tabs.add tabs104 88 ⟨as88,rs88,m88⟩
theorem tabs88OK:TabOK Tryz.prog tabs88:=TabOK.add tabs104OK c88 Tryz.call88

/-! putlog/between.distances -/
def as65:List Ty:=[(.pair tI (.list tB))]
def rs65:List Ty:=[(.list tL),.bool]
def an65:Ann:=.seq (.a) (.seq (.reg [] [] [z0,.s [0] [],.r,z0] (.call [] [] (.seq (.a) (.seq (.reg [] [] [z0,.r,z0] (.call [9] [] (.seq (.a) (.seq (.a) (.seq (.seq (.a) (.block (.loop ⟨[(11,.r (.c (.d (.d tI))))],(6::7::ra 12 21 ([])),[(1,.tab tI 3),(2,.gone)],[.us]⟩ [(.exit 0,⟨[],(6::7::ra 11 22 ([])),[(1,.tab tI 3),(2,.gone)],[.us]⟩)] (.seq (.a) (.seq (.a) (.seq (.block (.seq (.a) (.seq (.a) (.block (.loop ⟨[(15,.r (.c (.d (.d tI))))],(7::ra 16 16 ([])),[(1,.tab tI 4),(3,.gone)],[.us]⟩ [(.exit 2,⟨[],(7::ra 15 17 ([])),[(1,.tab tI 4),(3,.gone)],[.us]⟩)] (.seq (.a) (.seq (.a) (.seq (.block (.seq (.a) (.reg [0,0,0,0,12,28,0,0,0,448,960,2044,4095,8191] (ra 0 14 ([])) (za 4 (.s [1] []::.s [1] []::za 5 (.s [1] [1]::.s [1] []::.s [1,1] [1]::[]))) (.a)))) (.a))))))))) (.a))))))) (.a)))) (.a))) (.a))) (.a))) (.seq (.seq (.a) (.block (.loop ⟨[(18,.r (.c (.d (.d tI))))],(6::ra 19 24 ([])),[(1,.tab tI 3)],[]⟩ [(.exit 0,⟨[],(6::ra 18 25 ([])),[(1,.tab tI 3)],[]⟩)] (.seq (.a) (.seq (.a) (.seq (.block (.seq (.a) (.reg [0,0,2,7,15,0,32,0,0,256,896,1920,0,4096,16256,32640,0,65536,262016,524287,1048575] (ra 0 21 ([])) [z0,z0,.s [4] [],.s [1] [],.s [1] [],z0,.s [4] [],z0,z0,.s [4] [],.s [1] [],.s [1] [],z0,.s [4] [],.s [1] [],.s [1] [],z0,.s [4] [],z0,.s [1] [],.s [1] [1]] (.a)))) (.a))))))) (.seq (.seq (.a) (.block (.loop ⟨[(45,.r (.c (.d (.d tI))))],(7::8::9::10::ra 46 50 ([])),[(1,.tab tI 3)],[]⟩ [(.exit 2,⟨[],(7::8::9::10::ra 45 51 ([])),[(1,.tab tI 3)],[]⟩)] (.seq (.a) (.seq (.a) (.seq (.block (.seq (.a) (.seq (.a) (.seq (.a) (.seq (.a) (.block (.loop ⟨[(59,.r (.c (.d (.d tI))))],(9::10::ra 60 35 ([])),[(1,.tab tI 3)],[]⟩ [(.exit 4,⟨[],(9::10::ra 59 36 ([])),[(1,.tab tI 3)],[]⟩)] (.seq (.a) (.seq (.a) (.seq (.block (.seq (.a) (.seq (.a) (.block (.loop ⟨[(64,.r (.c (.d (.d tI))))],(10::ra 65 29 ([])),[(1,.tab tI 3)],[]⟩ [(.exit 6,⟨[],(10::ra 64 30 ([])),[(1,.tab tI 3)],[]⟩)] (.seq (.a) (.seq (.a) (.seq (.block (.seq (.a) (.reg [0,0,3,7,0,0,0,96,224,0,992,2016,0,0,12288,28672,0,126976,258048,0,0,1572864,3670016,8384512,16777184,33554431,67108863] (ra 0 27 ([])) (z0::z0::.s [1] []::.s [1] []::za 3 (.s [1] []::.s [1] []::z0::.s [1] []::.s [1] []::z0::z0::.s [1] []::.s [1] []::z0::.s [1] []::.s [1] []::z0::z0::.s [4] []::.s [4] []::z0::z0::.s [1] []::.s [1] [1]::[])) (.a)))) (.a))))))))) (.a))))))))))) (.a))))))) (.seq (.seq (.a) (.block (.loop ⟨[(98,.r (.c (.d (.d tI))))],(11::ra 99 11 ([])),[],[]⟩ [(.exit 8,⟨[],(11::ra 98 12 ([])),[],[]⟩),(.ret,⟨[(2,.r (.c (.l .nilS))),(3,.r (.c (.d (.d .bool))))],(11::ra 98 12 ([])),[],[]⟩)] (.a)))) (.a)))))
def m65:(Int×List (Int×Int×Int))→Option (List (List Int)×Bool) :=
 fun x=>(mkM x.1 x.1 (nat_lit 24) []).bind fun r=>(loopM (fun (s:Int×List (List Int))=>bif ltM s.1 x.1 then (loopM (fun (s_1:Int×List (List Int))
 => bif ltM s_1.1 x.1 then (chkM s.1 (lenM s_1.2)).bind fun r_1=>(chkM s.1 (lenM s_1.2)).bind fun r_2=>(m144 (s.1,s_1.1)).bind fun r_3=>(app2M (nat_lit
 8) s_1.2 s.1 [r_3]).bind fun r_4=>(chkM s.1 (lenM r_4)).bind fun r_5=>((sameM s.1 s.1).bind fun (x:Unit)=>(sameM s.1 s.1).bind fun (x:Unit)=>chkM
 s.1 (lenM r_4)).bind fun r=>some (Sum.inl (wrap IntKind.i64 (s_1.1+1),r_4)) else some (Sum.inr s_1.2)) (0,s.2)).bind fun o=>some (Sum.inl (wrap
 IntKind.i64 (s.1+1),o)) else some (Sum.inr s.2)) (0,r)).bind fun o=>(loopM (fun (s:Int×List (List Int))=>bif ltM s.1 (lenM x.2) then (idxM x.2
 s.1).bind fun r_1=>(chkM r_1.1 (lenM s.2)).bind fun r_2=>(chkM r_1.1 (lenM s.2)).bind fun r_3=>(chkM r_1.1 (lenM s.2)).bind fun r_4=>(chkM r_1.1 (lenM
 s.2)).bind fun r_5=>((idxM s.2 r_1.1).bind fun (xs:List Int)=>chkM r_1.2.1 (lenM xs)).bind fun r_6=>((idxM s.2 r_1.1).bind fun (xs:List Int) =>
 (idxM xs r_1.2.1).bind fun (x:Int)=>some x).bind fun r_7=>((idxM s.2 r_1.1).bind fun (xs:List Int)=>chkM r_1.2.1 (lenM xs)).bind fun r_8=>(set2M
 s.2 r_1.1 r_1.2.1 fun (x:Int)=>some (min r_7 r_1.2.2)).bind fun r=>some (Sum.inl (wrap IntKind.i64 (s.1+1),r)) else some (Sum.inr s.2)) (0,o)).bind
 fun o_1=>(loopM (fun (s:Int×List (List Int))=>bif ltM s.1 x.1 then (mkM x.1 x.1 (nat_lit 8) 0).bind fun r_1=>(chkM s.1 (lenM s.2)).bind fun r_2 =>
 (chkM s.1 (lenM s.2)).bind fun r_3=>(idxM s.2 s.1).bind fun r_4=>(loopM (fun (s_1:Int×List (List Int))=>bif ltM s_1.1 x.1 then (loopM (fun (s_2 :
 Int×List (List Int))=>bif ltM s_2.1 x.1 then (chkM s_1.1 (lenM s_2.2)).bind fun r_5=>(chkM s_1.1 (lenM s_2.2)).bind fun r_6=>(chkM s_1.1 (lenM
 s_2.2)).bind fun r_7=>(chkM s_1.1 (lenM s_2.2)).bind fun r_8=>((idxM s_2.2 s_1.1).bind fun (xs:List Int)=>chkM s_2.1 (lenM xs)).bind fun r_9=>((idxM
 s_2.2 s_1.1).bind fun (xs:List Int)=>(idxM xs s_2.1).bind fun (x:Int)=>some x).bind fun r_10=>(chkM s_1.1 (lenM s_2.2)).bind fun r_11=>(chkM s_1.1
 (lenM s_2.2)).bind fun r_12=>((idxM s_2.2 s_1.1).bind fun (xs:List Int)=>chkM s.1 (lenM xs)).bind fun r_13=>((idxM s_2.2 s_1.1).bind fun (xs:List
 Int)=>(idxM xs s.1).bind fun (x:Int)=>some x).bind fun r_14=>(chkM s_2.1 (lenM (copyM r_1 r_4))).bind fun r_15=>(idxM (copyM r_1 r_4) s_2.1).bind
 fun r_16=>(m88 (r_14,r_16)).bind fun r_17=>((idxM s_2.2 s_1.1).bind fun (xs:List Int)=>chkM s_2.1 (lenM xs)).bind fun r_18=>(set2M s_2.2 s_1.1
 s_2.1 fun (x:Int)=>some (min r_10 r_17)).bind fun r=>some (Sum.inl (wrap IntKind.i64 (s_2.1+1),r)) else some (Sum.inr s_2.2)) (0,s_1.2)).bind fun o
 => some (Sum.inl (wrap IntKind.i64 (s_1.1+1),o)) else some (Sum.inr s_1.2)) (0,s.2)).bind fun o=>some (Sum.inl (wrap IntKind.i64 (s.1+1),o)) else
 some (Sum.inr s.2)) (0,o_1)).bind fun o_2=>(loopM (fun (s:Int)=>bif ltM s x.1 then (chkM s (lenM o_2)).bind fun r_1=>(chkM s (lenM o_2)).bind fun r_2
 => ((idxM o_2 s).bind fun (xs:List Int)=>chkM s (lenM xs)).bind fun r_3=>((idxM o_2 s).bind fun (xs:List Int)=>(idxM xs s).bind fun (x:Int) =>
 some x).bind fun r=>bif ltM r 0 then some (Sum.inr (Sum.inr false)) else some (Sum.inl (wrap IntKind.i64 (s+1))) else some (Sum.inr (Sum.inl ()))) 0).bind
 fun o=>Sum.elim (fun (t:Unit)=>some (o_2,true)) (fun (t:Bool)=>some ([],t)) o
theorem c65:SpecOK Tryz.prog 65 ⟨as65,rs65,m65⟩ :=
 fc (TabOK.drop tabs88OK [104]) [] an65 Tryz.f65 fun x=>by kernel_rfl
def tabs65:Tabs:=Tabs.add tabs88 65 ⟨as65,rs65,m65⟩
theorem tabs65OK:TabOK Tryz.prog tabs65:=TabOK.add tabs88OK c65 Tryz.call65

/-! putlog/between.Close -/
def as25:List Ty:=[(.pair tI (.list tB))]
def rs25:List Ty:=[(.list tL),tI]
def an25:Ann:=.a
def m25:(Int×List (Int×Int×Int))→Option (List (List Int)×Int) :=
 fun x=>(m64 (x.1,x.2)).bind fun r=>bif PE.notM r then some ([],90) else (m65 (x.1,x.2)).bind fun r=>bif PE.notM r.2 then some ([],90) else some (r.1,
 0)
theorem c25:SpecOK Tryz.prog 25 ⟨as25,rs25,m25⟩ :=
 fc tabs65OK [] an25 Tryz.f25 fun x=>by kernel_rfl
def tabs25:Tabs:=Tabs.add tabs65 25 ⟨as25,rs25,m25⟩
theorem tabs25OK:TabOK Tryz.prog tabs25:=TabOK.add tabs65OK c25 Tryz.call25

/-! putlog/dating.Ranges -/
def as17:List Ty:=[tD]
def rs17:List Ty:=[tQ,tI]
def an17:Ann:=.seq (.a) (.seq (.a) (.seq (.a) (.seq (.a) (.seq (.a) (.seq (.a) (.seq (.seq (.a) (.block (.loop ⟨[(8,.r (.c (.h 2))),(31,.r (.c (.d (.d tI))))],(10::ra 32 23 ([])),[],[.arr tP]⟩ [(.exit 0,⟨[(8,.r (.c (.h 2)))],(10::ra 31 24 ([])),[],[.arr tP]⟩)] (.seq (.a) (.seq (.a) (.seq (.block (.seq (.a) (.reg [0,0,0,6,14,0,62,126,254,0,0,1536,3584,0,15872,32256,65024,131070,262142,524287,1048575] (ra 0 21 ([])) (za 19 (.s [2] [3,2]::z0::[])) (.a)))) (.a))))))) (.a)))))))
def m17:((Int×List (Int×Int))×List (Int×Int×Int×Int×Int))→Option ((List (Int×Int))×Int) :=
 fun x=>(m24 ((x.1.1,x.1.2),x.2)).bind fun r=>(m25 (r.1.1,r.1.2)).bind fun r_1=>bif PE.orM (PE.notM (eqM r.2 0)) (PE.notM (eqM r_1.2 0)) then some ([],
 220) else (loopM (fun (s:Int×List (Int×Int))=>bif ltM s.1 x.1.1 then (idxM r_1.1 s.1).bind fun r_2=>(idxM r_2 x.1.1).bind fun r_3=>(idxM r_1.1
 x.1.1).bind fun r_4=>(idxM r_4 s.1).bind fun r_5=>(appM (nat_lit 16) s.2 [(wrap IntKind.i64 (negM r_3),wrap IntKind.i64 (r_5+1))]).bind fun r=>some
 (Sum.inl (wrap IntKind.i64 (s.1+1),r)) else some (Sum.inr s.2)) (0,[])).bind fun o=>some (o,0)
theorem c17:SpecOK Tryz.prog 17 ⟨as17,rs17,m17⟩ :=
 fc tabs25OK [] an17 Tryz.f17 fun x=>by kernel_rfl
def tabs17:Tabs:=Tabs.add tabs25 17 ⟨as17,rs17,m17⟩
theorem tabs17OK:TabOK Tryz.prog tabs17:=TabOK.add tabs25OK c17 Tryz.call17

/-! putlog/dating.asked -/
def as62:List Ty:=[tD,tI,tI,tI]
def rs62:List Ty:=[(.pair tI (.list tB)),tB,.bool]
def an62:Ann:=.a
def m62:(((Int×List (Int×Int))×List (Int×Int×Int×Int×Int))×Int×Int×Int)→Option ((Int×List (Int×Int×Int))×(Int×Int×Int)×Bool) :=
 fun x=>(m24 ((x.1.1.1,x.1.1.2),x.1.2)).bind fun r=>(bif eqM r.2 0 then m54 (x.2.1,0,wrap IntKind.i64 (x.1.1.1-1)) else some false).bind fun r_1 =>
 (bif PE.andM (eqM r.2 0) r_1 then m54 (x.2.2.1,0,wrap IntKind.i64 (x.1.1.1-1)) else some false).bind fun r_2=>(bif PE.andM (PE.andM (eqM r.2 0) r_1) r_2
 then m54 (x.2.2.2,(-2100),2100) else some false).bind fun r_3=>some ((r.1.1,r.1.2),(x.2.2.1,x.2.1,wrap IntKind.i64 (negM x.2.2.2)),PE.andM (PE.andM
 (PE.andM (eqM r.2 0) r_1) r_2) r_3)
theorem c62:SpecOK Tryz.prog 62 ⟨as62,rs62,m62⟩ :=
 fc tabs17OK [] an62 Tryz.f62 fun x=>by kernel_rfl
def tabs62:Tabs:=Tabs.add tabs17 62 ⟨as62,rs62,m62⟩
theorem tabs62OK:TabOK Tryz.prog tabs62:=TabOK.add tabs17OK c62 Tryz.call62

/-! putlog/between.walks$1$1 -/
def as135:List Ty:=[tI,tI]
def rs135:List Ty:=[tI]
def an135:Ann:=.a
def m135:(Int×Int)→Option (Int) :=
 fun x=>some 1152921504606846976
theorem c135:SpecOK Tryz.prog 135 ⟨as135,rs135,m135⟩ :=
 fc tabs62OK [] an135 Tryz.f135 fun x=>by kernel_rfl
def tabs135:Tabs:=Tabs.add tabs62 135 ⟨as135,rs135,m135⟩
theorem tabs135OK:TabOK Tryz.prog tabs135:=TabOK.add tabs62OK c135 Tryz.call135

/-! putlog/between.chain -/
def as89:List Ty:=[(.pair tI (.list tB)),(.list (.list tL)),tI,tI,tI,tI]
def rs89:List Ty:=[tL]
def an89:Ann:=.seq (.a) (.seq (.a) (.seq (.block (.loop ⟨[(13,.r (.c (.h 6)))],(ra 14 27 ([])),[(2,.box [.d (.d tI)]),(4,.box [.d (.d tI)]),(5,.box [.d (.d tI)])],[.arr tI]⟩ [(.exit 0,⟨[(13,.r (.c (.h 6)))],(ra 14 27 ([])),[(2,.box [.d (.d tI)]),(4,.box [.d (.d tI)]),(5,.box [.d (.d tI)])],[.arr tI]⟩)] (.seq (.a) (.seq (.block (.seq (.reg [] [] [z0,.s [0] [],z0,.r,z0] (.call [] [(.norm,⟨[(22,.r (.c (.d (.d tI))))],[],[],[]⟩)] (.seq (.a) (.seq (.seq (.a) (.block (.loop ⟨[(8,.r (.c (.d (.d tI))))],(5::ra 9 8 (18::[])),[],[]⟩ [(.exit 0,⟨[],(5::ra 8 9 (18::[])),[],[]⟩),(.ret,⟨[(4,.r (.c (.d (.d tI))))],(5::ra 8 11 ([])),[],[]⟩)] (.seq (.a) (.seq (.a) (.seq (.block (.seq (.a) (.seq (.reg [] [] [z0,z0,z0,z0,z0,.r] (.call [] [] (.seq (.a) (.seq (.reg [0,1,0,7,15,31,63,31,31,287,927,1951,31,4127,16287,32671,31,130975,262047,524287,31,2097151,4194303,8388607] (ra 0 24 ([])) (z0::.s [7] []::.s [2] []::za 3 (.s [7] []::.s [1] []::.s [4] []::za 4 (.s [7] []::z0::z0::.s [3] []::za 3 (.s [5] []::za 3 ([]))))) (.a)) (.a))) (.a))) (.a)))) (.a))))))) (.a))) (.a))) (.seq (.reg [0,1,0,7,15,31,0,0,128,0,896,1920,3968,8128,63,32767] (ra 0 16 ([])) (z0::.s [0] []::za 4 (.s [5] []::z0::.s [0] []::za 5 (.s [2] [2]::.s [5] [5]::[]))) (.a)) (.a)))) (.a))))) (.a)))
def m89:((Int×List (Int×Int×Int))×List (List (List Int))×Int×Int×Int×Int)→Option (List Int) :=
 fun x=>(loopM (fun (s:Int×Int×Int×List Int)=>bif ltM 0 s.2.1 then ((loopM (fun (s_1:Int)=>bif ltM s_1 (lenM x.1.2) then (idxM x.1.2 s_1).bind
 fun r=>(bif eqM r.1 s.1 then idxM x.2.1 (wrap IntKind.i64 (s.2.1-1)) else some []).bind fun r_1=>(bif eqM r.1 s.1 then idxM r_1 r.2.1 else some []).bind
 fun r_2=>(bif eqM r.1 s.1 then idxM r_2 x.2.2.2.1 else some 0).bind fun r_3=>(bif eqM r.1 s.1 then m88 (r.2.2,r_3) else some 0).bind fun r_4=>bif
 PE.andM (eqM r.1 s.1) (leM r_4 s.2.2.1) then some (Sum.inr (Sum.inr s_1)) else some (Sum.inl (wrap IntKind.i64 (s_1+1))) else some (Sum.inr (Sum.inl ())))
 0).bind fun o=>Sum.elim (fun (t:Unit)=>some (-1)) (fun (t:Int)=>some t) o).bind fun (ov:Int)=>(idxM x.1.2 ov).bind fun r=>(idxM x.1.2 ov).bind
 fun r_1=>(appM (nat_lit 8) s.2.2.2 [ov]).bind fun r_2=>some (Sum.inl (r.2.1,wrap IntKind.i64 (s.2.1-1),wrap IntKind.i64 (s.2.2.1-r_1.2.2),r_2))
 else some (Sum.inr (s.1,s.2.1,s.2.2.1,s.2.2.2))) (x.2.2.1,x.2.2.2.2.1,x.2.2.2.2.2,[])).bind fun o=>some o.2.2.2
theorem c89:SpecOK Tryz.prog 89 ⟨as89,rs89,m89⟩ :=
 fc tabs135OK [] an89 Tryz.f89 fun x=>by kernel_rfl
def tabs89:Tabs:=Tabs.add tabs135 89 ⟨as89,rs89,m89⟩
theorem tabs89OK:TabOK Tryz.prog tabs89:=TabOK.add tabs135OK c89 Tryz.call89
end
end Go.Proofs.YthfgccfaildmfaaGreatDoor
namespace Go.Proofs.YthfgccfaildmfaaGreatDoor
open Go Go.Abs Go.PE Go.Proofs
open Go.IntKind (wrap)
set_option maxRecDepth 100000
noncomputable section

/-! putlog/between.Implied -/
def as63:List Ty:=[(.pair tI (.list tB)),tB]
def rs63:List Ty:=[tL,.bool]
def an63:Ann:=.seq (.a) (.seq (.a) (.seq (.a) (.seq (.seq (.reg [0,1,3,7,7,23,63,127,7,263,1023,2047,7,4103,16383,32767] (ra 0 16 ([])) (za 5 (.s [1] []::za 3 (.s [1] []::za 3 (.s [1] []::z0::z0::[])))) (.a)) (.a)) (.seq (.a) (.seq (.seq (.reg [] [] [.s [0] [],.r] (.call [] [] (.seq (.a) (.a)) (.a))) (.block (.call [] [] (.seq (.a) (.block (.loop ⟨[(3,.r (.c (.d (.d (.list tL)))))],(4::6::7::ra 11 48 ([])),[(2,.box [.h 5]),(4,.lp .ready)],[.arr (.list tL)]⟩ [(.exit 0,⟨[],(3::4::6::7::ra 11 48 ([])),[(2,.box [.h 5]),(4,.lp (.done (.exit 0)))],[.arr (.list tL)]⟩)] (.seq (.seq (.reg [] [] [z0,z0,.r] (.call [] [] (.seq (.a) (.block (.seq (.a) (.seq (.reg [0,0,2,7,15,0,32,127,255,0,512,2047] (ra 0 12 ([])) (z0::z0::.s [1] []::za 3 (.s [1] []::za 3 (.s [1] []::z0::[]))) (.a)) (.a))))) (.a))) (.a)) (.block (.seq (.reg [] [] [z0,.s [3] [],.r,z0] (.call [9] [] (.seq (.a) (.seq (.a) (.seq (.seq (.a) (.block (.loop ⟨[(11,.r (.c (.d (.d tI))))],(6::7::ra 12 21 ([])),[(7,.tab tI 9),(8,.gone)],[.us]⟩ [(.exit 0,⟨[],(6::7::ra 11 22 ([])),[(7,.tab tI 9),(8,.gone)],[.us]⟩)] (.seq (.a) (.seq (.a) (.seq (.block (.seq (.a) (.seq (.a) (.block (.loop ⟨[(15,.r (.c (.d (.d tI))))],(7::ra 16 16 ([])),[(7,.tab tI 10),(9,.gone)],[.us]⟩ [(.exit 2,⟨[],(7::ra 15 17 ([])),[(7,.tab tI 10),(9,.gone)],[.us]⟩)] (.seq (.a) (.seq (.a) (.seq (.block (.seq (.a) (.reg [0,0,0,0,12,28,0,0,0,448,960,2044,4095,8191] (ra 0 14 ([])) (za 4 (.s [7] []::.s [7] []::za 5 (.s [7] [7]::.s [7] []::.s [7,7] [7]::[]))) (.a)))) (.a))))))))) (.a))))))) (.a)))) (.a))) (.seq (.seq (.a) (.block (.loop ⟨[(20,.r (.c (.d (.d tI))))],(6::7::ra 21 37 ([])),[(7,.tab tI 9)],[]⟩ [(.exit 2,⟨[],(6::7::ra 20 38 ([])),[(7,.tab tI 9)],[]⟩)] (.seq (.a) (.seq (.a) (.seq (.block (.seq (.a) (.seq (.a) (.block (.loop ⟨[(26,.r (.c (.d (.d tI))))],(7::ra 27 30 ([])),[(7,.tab tI 9)],[]⟩ [(.exit 4,⟨[],(7::ra 26 31 ([])),[(7,.tab tI 9)],[]⟩)] (.seq (.a) (.seq (.a) (.seq (.block (.seq (.a) (.reg [0,0,3,7,0,16,0,0,192,448,0,1024,4032,8128,0,0,49152,114688,0,262144,1032192,2080768,0,4194304,16760832,33554368,67108863,134217727] (ra 0 28 ([])) (z0::z0::.s [7] []::.s [7] []::z0::.s [10] []::z0::z0::.s [7] []::.s [7] []::z0::.s [10] []::.s [7] []::.s [7] []::za 5 (.s [10] []::za 3 (.s [10] []::z0::z0::.s [7] []::.s [7] [7]::[]))) (.a)))) (.a))))))))) (.a))))))) (.a)))))))) (.a)))) (.a))))))
def m63:((Int×List (Int×Int×Int))×Int×Int×Int)→Option (List Int×Bool) :=
 fun x=>(m64 (x.1.1,x.1.2)).bind fun r=>(bif PE.notM (PE.notM r) then m102 (x.1.1,x.2.1,x.2.2.1,x.2.2.2) else some false).bind fun r_1=>bif PE.orM
 (PE.notM r) (PE.notM r_1) then some ([],false) else (m65 (x.1.1,x.1.2)).bind fun r_2=>(bif PE.notM (PE.notM r_2.2) then idxM r_2.1 x.2.1 else some
 []).bind fun r_3=>(bif PE.notM (PE.notM r_2.2) then idxM r_3 x.2.2.1 else some 0).bind fun r_4=>bif PE.orM (PE.notM r_2.2) (ltM x.2.2.2 r_4) then some
 ([],false) else (m104 x.1.1).bind fun r_5=>(loopM (fun (s:List (List Int)×List (List (List Int)))=>(appM (nat_lit 24) s.2 [s.1]).bind fun r_6 =>
 (idxM s.1 x.2.1).bind fun r_7=>(idxM r_7 x.2.2.1).bind fun r_8=>bif leM r_8 x.2.2.2 then some (Sum.inr r_6) else (mkM x.1.1 x.1.1 (nat_lit 24) []).bind
 fun r_9=>(loopM (fun (s_1:Int×List (List Int))=>bif ltM s_1.1 x.1.1 then (loopM (fun (s_2:Int×List (List Int))=>bif ltM s_2.1 x.1.1 then (chkM
 s_1.1 (lenM s_2.2)).bind fun r_10=>(chkM s_1.1 (lenM s_2.2)).bind fun r_11=>(m135 (s_1.1,s_2.1)).bind fun r_12=>(app2M (nat_lit 8) s_2.2 s_1.1
 [r_12]).bind fun r_13=>(chkM s_1.1 (lenM r_13)).bind fun r_14=>((sameM s_1.1 s_1.1).bind fun (x:Unit)=>(sameM s_1.1 s_1.1).bind fun (x:Unit)=>chkM
 s_1.1 (lenM r_13)).bind fun r=>some (Sum.inl (wrap IntKind.i64 (s_2.1+1),r_13)) else some (Sum.inr s_2.2)) (0,s_1.2)).bind fun o=>some (Sum.inl (wrap
 IntKind.i64 (s_1.1+1),o)) else some (Sum.inr s_1.2)) (0,r_9)).bind fun o=>(loopM (fun (s_1:Int×List (List Int))=>bif ltM s_1.1 (lenM x.1.2) then
 (idxM x.1.2 s_1.1).bind fun r_10=>(loopM (fun (s_2:Int×List (List Int))=>bif ltM s_2.1 x.1.1 then (chkM s_2.1 (lenM s_2.2)).bind fun r_11=>(chkM
 s_2.1 (lenM s_2.2)).bind fun r_12=>(chkM s_2.1 (lenM s_2.2)).bind fun r_13=>(chkM s_2.1 (lenM s_2.2)).bind fun r_14=>((idxM s_2.2 s_2.1).bind fun (xs :
 List Int)=>chkM r_10.2.1 (lenM xs)).bind fun r_15=>((idxM s_2.2 s_2.1).bind fun (xs:List Int)=>(idxM xs r_10.2.1).bind fun (x:Int)=>some x).bind
 fun r_16=>(idxM s.1 s_2.1).bind fun r_17=>(idxM r_17 r_10.1).bind fun r_18=>(m88 (r_18,r_10.2.2)).bind fun r_19=>((idxM s_2.2 s_2.1).bind fun (xs :
 List Int)=>chkM r_10.2.1 (lenM xs)).bind fun r_20=>(set2M s_2.2 s_2.1 r_10.2.1 fun (x:Int)=>some (min r_16 r_19)).bind fun r=>some (Sum.inl (wrap
 IntKind.i64 (s_2.1+1),r)) else some (Sum.inr s_2.2)) (0,s_1.2)).bind fun o=>some (Sum.inl (wrap IntKind.i64 (s_1.1+1),o)) else some (Sum.inr s_1.2))
 (0,o)).bind fun o=>some (Sum.inl (o,r_6))) (r_5,[])).bind fun o=>(m89 ((x.1.1,x.1.2),o,x.2.1,x.2.2.1,wrap IntKind.i64 (lenM o-1),x.2.2.2)).bind
 fun r=>some (r,true)
theorem c63:SpecOK Tryz.prog 63 ⟨as63,rs63,m63⟩ :=
 fc tabs89OK [] an63 Tryz.f63 fun x=>by kernel_rfl
def tabs63:Tabs:=Tabs.add tabs89 63 ⟨as63,rs63,m63⟩
theorem tabs63OK:TabOK Tryz.prog tabs63:=TabOK.add tabs89OK c63 Tryz.call63

/-! putlog/dating.Certain -/
def as23:List Ty:=[tD,tI,tI,tI]
def rs23:List Ty:=[tL,.bool]
def an23:Ann:=.a
def m23:(((Int×List (Int×Int))×List (Int×Int×Int×Int×Int))×Int×Int×Int)→Option (List Int×Bool) :=
 fun x=>(m62 (((x.1.1.1,x.1.1.2),x.1.2),x.2.1,x.2.2.1,x.2.2.2)).bind fun r=>bif PE.notM r.2.2 then some ([],false) else (m63 ((r.1.1,r.1.2),r.2.1.1,
 r.2.1.2.1,r.2.1.2.2)).bind fun r=>some (r.1,r.2)
theorem c23:SpecOK Tryz.prog 23 ⟨as23,rs23,m23⟩ :=
 fc tabs63OK [] an23 Tryz.f23 fun x=>by kernel_rfl
def tabs23:Tabs:=Tabs.add tabs63 23 ⟨as23,rs23,m23⟩
theorem tabs23OK:TabOK Tryz.prog tabs23:=TabOK.add tabs63OK c23 Tryz.call23

/-! putlog/between.Cycle -/
def as50:List Ty:=[(.pair tI (.list tB))]
def rs50:List Ty:=[tL,.bool]
def an50:Ann:=.seq (.a) (.seq (.a) (.seq (.a) (.seq (.a) (.seq (.seq (.reg [] [] [.s [0] [],.r] (.call [] [] (.seq (.a) (.a)) (.a))) (.block (.call [] [] (.seq (.a) (.block (.loop ⟨[(3,.r (.c (.d (.d (.list tL)))))],(4::6::7::ra 11 48 ([])),[(3,.box [.h 6]),(5,.lp .ready)],[.arr (.list tL)]⟩ [(.exit 0,⟨[],(3::4::6::7::ra 11 48 ([])),[(1,.box [.d (.d tL)]),(2,.box [.d (.d .bool)]),(3,.box [.d (.d (.list (.list tL)))]),(5,.lp (.done .ret))],[]⟩)] (.seq (.seq (.reg [] [] [z0,z0,.r] (.call [] [] (.seq (.a) (.block (.seq (.a) (.seq (.a) (.seq (.a) (.block (.loop ⟨[(33,.r (.c (.d (.d tI))))],(9::10::ra 34 25 (74::[])),[],[]⟩ [(.exit 2,⟨[],(9::10::ra 33 26 (74::[])),[],[]⟩),(.ret,⟨[],(9::10::ra 33 42 ([])),[(1,.box [.d (.d tL)]),(2,.box [.d (.d .bool)]),(7,.frz (.list tL))],[]⟩)] (.seq (.a) (.seq (.a) (.seq (.block (.seq (.a) (.seq (.reg [0,1,3,7,15,7,7,71,231,487,7,1031,4071,8167,7,16391,65511,131047,262143,524287,1048575] (ra 0 21 ([])) (za 4 (.s [8] []::.s [3] []::z0::z0::.s [7] []::.s [7] []::z0::.s [8] []::za 3 (.s [8] []::za 5 ([])))) (.a)) (.a)))) (.a))))))))))) (.a))) (.a)) (.block (.seq (.reg [] [] [z0,.s [4] [],.r,z0] (.call [9] [] (.seq (.a) (.seq (.a) (.seq (.seq (.a) (.block (.loop ⟨[(11,.r (.c (.d (.d tI))))],(6::7::ra 12 21 ([])),[(8,.tab tI 10),(9,.gone)],[.us]⟩ [(.exit 0,⟨[],(6::7::ra 11 22 ([])),[(8,.tab tI 10),(9,.gone)],[.us]⟩)] (.seq (.a) (.seq (.a) (.seq (.block (.seq (.a) (.seq (.a) (.block (.loop ⟨[(15,.r (.c (.d (.d tI))))],(7::ra 16 16 ([])),[(8,.tab tI 11),(10,.gone)],[.us]⟩ [(.exit 2,⟨[],(7::ra 15 17 ([])),[(8,.tab tI 11),(10,.gone)],[.us]⟩)] (.seq (.a) (.seq (.a) (.seq (.block (.seq (.a) (.reg [0,0,0,0,12,28,0,0,0,448,960,2044,4095,8191] (ra 0 14 ([])) (za 4 (.s [8] []::.s [8] []::za 5 (.s [8] [8]::.s [8] []::.s [8,8] [8]::[]))) (.a)))) (.a))))))))) (.a))))))) (.a)))) (.a))) (.seq (.seq (.a) (.block (.loop ⟨[(20,.r (.c (.d (.d tI))))],(6::7::ra 21 37 ([])),[(8,.tab tI 10)],[]⟩ [(.exit 2,⟨[],(6::7::ra 20 38 ([])),[(8,.tab tI 10)],[]⟩)] (.seq (.a) (.seq (.a) (.seq (.block (.seq (.a) (.seq (.a) (.block (.loop ⟨[(26,.r (.c (.d (.d tI))))],(7::ra 27 30 ([])),[(8,.tab tI 10)],[]⟩ [(.exit 4,⟨[],(7::ra 26 31 ([])),[(8,.tab tI 10)],[]⟩)] (.seq (.a) (.seq (.a) (.seq (.block (.seq (.a) (.reg [0,0,3,7,0,16,0,0,192,448,0,1024,4032,8128,0,0,49152,114688,0,262144,1032192,2080768,0,4194304,16760832,33554368,67108863,134217727] (ra 0 28 ([])) (z0::z0::.s [8] []::.s [8] []::z0::.s [11] []::z0::z0::.s [8] []::.s [8] []::z0::.s [11] []::.s [8] []::.s [8] []::za 5 (.s [11] []::za 3 (.s [11] []::z0::z0::.s [8] []::.s [8] [8]::[]))) (.a)))) (.a))))))))) (.a))))))) (.a)))))))) (.a)))) (.a)))))
def m50:(Int×List (Int×Int×Int))→Option (List Int×Bool) :=
 fun x=>(m64 (x.1,x.2)).bind fun r=>bif PE.notM r then some ([],false) else (m65 (x.1,x.2)).bind fun r_1=>bif r_1.2 then some ([],false) else (m104
 x.1).bind fun r_2=>(loopM (fun (s:List (List Int)×List (List (List Int)))=>(appM (nat_lit 24) s.2 [s.1]).bind fun r_3=>(loopM (fun (s_1:Int) =>
 bif ltM s_1 (lenM x.2) then (idxM x.2 s_1).bind fun r_4=>(bif ltM 0 (wrap IntKind.i64 (lenM r_3-1)) then chkM (wrap IntKind.i64 (wrap IntKind.i64 (lenM
 r_3-1)-1)) (lenM r_3) else some ()).bind fun r_5=>(bif ltM 0 (wrap IntKind.i64 (lenM r_3-1)) then idxM r_3 (wrap IntKind.i64 (wrap IntKind.i64 (lenM
 r_3-1)-1)) else some []).bind fun r_6=>(bif ltM 0 (wrap IntKind.i64 (lenM r_3-1)) then idxM r_6 r_4.2.1 else some []).bind fun r_7=>(bif ltM 0 (wrap
 IntKind.i64 (lenM r_3-1)) then idxM r_7 r_4.1 else some 0).bind fun r_8=>(bif ltM 0 (wrap IntKind.i64 (lenM r_3-1)) then m88 (r_4.2.2,r_8) else some
 0).bind fun r_9=>bif PE.andM (ltM 0 (wrap IntKind.i64 (lenM r_3-1))) (ltM r_9 0) then (m89 ((x.1,x.2),r_3,r_4.2.1,r_4.1,wrap IntKind.i64 (wrap
 IntKind.i64 (lenM r_3-1)-1),wrap IntKind.i64 ((-1)-r_4.2.2))).bind fun r_10=>(appM (nat_lit 8) [s_1] r_10).bind fun r=>some (Sum.inr (Sum.inr (r,
 true,r_3))) else some (Sum.inl (wrap IntKind.i64 (s_1+1))) else some (Sum.inr (Sum.inl ()))) 0).bind fun o=>Sum.elim (fun (t:Unit)=>(mkM x.1 x.1
 (nat_lit 24) []).bind fun r_4=>(loopM (fun (s_1:Int×List (List Int))=>bif ltM s_1.1 x.1 then (loopM (fun (s_2:Int×List (List Int))=>bif ltM
 s_2.1 x.1 then (chkM s_1.1 (lenM s_2.2)).bind fun r_5=>(chkM s_1.1 (lenM s_2.2)).bind fun r_6=>(m135 (s_1.1,s_2.1)).bind fun r_7=>(app2M (nat_lit 8)
 s_2.2 s_1.1 [r_7]).bind fun r_8=>(chkM s_1.1 (lenM r_8)).bind fun r_9=>((sameM s_1.1 s_1.1).bind fun (x:Unit)=>(sameM s_1.1 s_1.1).bind fun (x:Unit)
 => chkM s_1.1 (lenM r_8)).bind fun r=>some (Sum.inl (wrap IntKind.i64 (s_2.1+1),r_8)) else some (Sum.inr s_2.2)) (0,s_1.2)).bind fun o=>some (Sum.inl
 (wrap IntKind.i64 (s_1.1+1),o)) else some (Sum.inr s_1.2)) (0,r_4)).bind fun o=>(loopM (fun (s_1:Int×List (List Int))=>bif ltM s_1.1 (lenM x.2)
 then (idxM x.2 s_1.1).bind fun r_5=>(loopM (fun (s_2:Int×List (List Int))=>bif ltM s_2.1 x.1 then (chkM s_2.1 (lenM s_2.2)).bind fun r_6=>(chkM
 s_2.1 (lenM s_2.2)).bind fun r_7=>(chkM s_2.1 (lenM s_2.2)).bind fun r_8=>(chkM s_2.1 (lenM s_2.2)).bind fun r_9=>((idxM s_2.2 s_2.1).bind fun (xs :
 List Int)=>chkM r_5.2.1 (lenM xs)).bind fun r_10=>((idxM s_2.2 s_2.1).bind fun (xs:List Int)=>(idxM xs r_5.2.1).bind fun (x:Int)=>some x).bind fun
 r_11=>(idxM s.1 s_2.1).bind fun r_12=>(idxM r_12 r_5.1).bind fun r_13=>(m88 (r_13,r_5.2.2)).bind fun r_14=>((idxM s_2.2 s_2.1).bind fun (xs:List
 Int)=>chkM r_5.2.1 (lenM xs)).bind fun r_15=>(set2M s_2.2 s_2.1 r_5.2.1 fun (x:Int)=>some (min r_11 r_14)).bind fun r=>some (Sum.inl (wrap
 IntKind.i64 (s_2.1+1),r)) else some (Sum.inr s_2.2)) (0,s_1.2)).bind fun o=>some (Sum.inl (wrap IntKind.i64 (s_1.1+1),o)) else some (Sum.inr s_1.2))
 (0,o)).bind fun o=>some (Sum.inl (o,r_3))) (fun (t:List Int×Bool×List (List (List Int)))=>some (Sum.inr (t.1,t.2.1,t.2.2))) o) (r_2,[])).bind
 fun o=>some (o.1,o.2.1)
theorem c50:SpecOK Tryz.prog 50 ⟨as50,rs50,m50⟩ :=
 fc tabs23OK [] an50 Tryz.f50 fun x=>by kernel_rfl
def tabs50:Tabs:=Tabs.add tabs23 50 ⟨as50,rs50,m50⟩
theorem tabs50OK:TabOK Tryz.prog tabs50:=TabOK.add tabs23OK c50 Tryz.call50

/-! cmp.isNaN[int] -/
def as184:List Ty:=[tI]
def rs184:List Ty:=[.bool]
def an184:Ann:=.a
def m184:Int→Option (Bool) :=
 fun x=>some (PE.notM (eqM x x))
theorem c184:SpecOK Tryz.prog 184 ⟨as184,rs184,m184⟩ :=
 fc tabs50OK [] an184 Tryz.f184 fun x=>by kernel_rfl
def tabs184:Tabs:=Tabs.add tabs50 184 ⟨as184,rs184,m184⟩
theorem tabs184OK:TabOK Tryz.prog tabs184:=TabOK.add tabs50OK c184 Tryz.call184

/-! putlog/dating.Blame -/
def as16:List Ty:=[tD]
def rs16:List Ty:=[tL,.bool]
def an16:Ann:=.seq (.a) (.seq (.a) (.seq (.a) (.seq (.a) (.seq (.a) (.seq (.join [(.norm,⟨[],[29,30],[(2,.box [.h 3])],[.arr tI]⟩)] (.seq (.reg [] [] [.s [0] [],.r] (.call [] [] (.seq (.a) (.a)) (.a))) (.block (.call [] [] (.seq (.a) (.seq (.a) (.seq (.a) (.seq (.seq (.a) (.block (.loop ⟨[(23,.r (.c (.d (.d tI))))],(5::ra 24 8 ([])),[(2,.box [.h 6]),(4,.lp .ready)],[.arr tI]⟩ [(.exit 0,⟨[],(5::ra 23 9 ([])),[(2,.box [.h 6]),(4,.lp .ready)],[.arr tI]⟩),(.ret,⟨[],(5::ra 23 9 ([])),[(2,.box [.h 6]),(4,.lp .ready)],[.arr tI]⟩)] (.seq (.a) (.seq (.a) (.seq (.block (.seq (.a) (.seq (.reg [] [] [z0,z0,z0,.r,z0] (.call [] [] (.seq (.a) (.seq (.reg [] [] [.s [5] [],z0,z0,z0,z0,z0,z0,.r,z0,.s [5] [],z0,z0,z0,z0,z0,.r,z0,z0] (.call [] [] (.seq (.a) (.a)) (.gq (.s [5] []) (.gq z0 (.gq z0 (.gq z0 (.gq z0 (.gq z0 (.gq (.r) (.call [] [] (.seq (.a) (.a)) (.a)) (.a)) (.a)) (.a)) (.a)) (.a)) (.a)) (.a)))) (.a))) (.a))) (.a)))) (.a))))))) (.seq (.seq (.a) (.block (.loop ⟨[(35,.r (.c (.d (.d tI))))],(ra 6 8 (ra 36 60 ([]))),[(2,.box [.h 7]),(4,.lp .ready),(6,.gone)],[.arr tI]⟩ [(.exit 2,⟨[],(ra 6 8 (ra 35 61 ([]))),[(2,.box [.h 7]),(4,.lp .ready),(6,.gone)],[.arr tI]⟩),(.ret,⟨[],(ra 6 8 (ra 35 61 ([]))),[(2,.box [.h 7]),(4,.lp .ready),(6,.gone)],[.arr tI]⟩)] (.seq (.a) (.seq (.a) (.seq (.join [(.ret,⟨[],(ra 6 6 (ra 37 26 ([]))),[(2,.box [.h 8]),(4,.lp .ready),(7,.gone)],[.arr tI]⟩),(.norm,⟨[],(ra 6 8 (ra 37 58 ([]))),[(2,.box [.h 8]),(4,.lp .ready),(7,.gone)],[.arr tI]⟩)] (.block (.seq (.a) (.seq (.seq (.reg [0,0,2,7,15,31,31,63,255] (ra 0 9 ([])) (.s [] [9]::z0::.s [8] []::.s [9] []::za 5 ([])) (.a)) (.seq (.a) (.cond (.seq (.a) (.seq (.seq (.reg [] [] [z0,z0,z0,z0,.s [8] [],z0,z0,.r,z0] (.call [] [] (.seq (.a) (.seq (.reg [] [] [.s [5] [],z0,z0,z0,z0,z0,z0,.r,z0,.s [5] [],z0,z0,z0,z0,z0,.r,z0,z0] (.call [] [] (.seq (.a) (.a)) (.gq (.s [5] []) (.gq z0 (.gq z0 (.gq z0 (.gq z0 (.gq z0 (.gq (.r) (.call [] [] (.seq (.a) (.a)) (.a)) (.a)) (.a)) (.a)) (.a)) (.a)) (.a)) (.a)))) (.a))) (.a))) (.a)) (.a))) (.a)))) (.seq (.reg [0,0,2,7,0,31,63,127,127,255,1023] (ra 0 11 ([])) (.s [] [10]::z0::.s [8] []::.s [10] []::.s [8] []::za 6 ([])) (.a)) (.seq (.reg [] [] [.s [5] [],z0,z0,.s [8] [],z0,.s [8] [],z0,z0,.r,z0,z0,.s [5] [],z0,z0,.s [8] [],z0,.s [8] [],z0,z0,z0,.r,z0,z0] (.call [] [] (.seq (.a) (.a)) (.gq (.s [5] []) (.gq z0 (.gq z0 (.gq (.s [8] []) (.gq z0 (.gq (.s [8] []) (.gq z0 (.gq z0 (.gq z0 (.gq (.r) (.call [] [] (.seq (.a) (.a)) (.gq z0 (.a) (.a))) (.a)) (.a)) (.a)) (.a)) (.a)) (.a)) (.a)) (.a)) (.a)) (.a)))) (.a))))))) (.a))))))) (.seq (.a) (.seq (.a) (.block (.loop ⟨[(105,.r (.c (.d (.d tI))))],(16::17::ra 106 18 ([])),[(2,.box [.h 9]),(4,.lp .ready),(7,.gone)],[.arr tI]⟩ [(.exit 4,⟨[],(16::17::ra 105 19 ([])),[(2,.box [.h 9]),(4,.lp .ready),(7,.gone)],[.arr tI]⟩)] (.seq (.a) (.seq (.a) (.seq (.block (.seq (.a) (.seq (.reg [] [] [.s [5] [],z0,.s [3] [],z0,z0,z0,z0,.s [10] [],z0,.s [10] [],z0,.r,z0] (.call [] [] (.seq (.a) (.a)) (.a))) (.a)))) (.a))))))))))))) (.a))))) (.seq (.seq (.a) (.block (.loop ⟨[(9,.r (.c (.h 4))),(39,.r (.c (.d (.d tI))))],(12::ra 40 16 ([])),[],[.arr tI]⟩ [(.exit 2,⟨[(9,.r (.c (.h 4)))],(12::ra 39 17 ([])),[],[.arr tI]⟩)] (.seq (.a) (.seq (.a) (.seq (.join [(.norm,⟨[(9,.r (.c (.h 5)))],(12::ra 41 14 ([])),[(4,.gone)],[.arr tI]⟩)] (.a)) (.a))))))) (.seq (.reg [] [] [z0,.r,z0,z0] (.call [] [] (.seq (.a) (.a)) (.a))) (.a))))))))
def m16:((Int×List (Int×Int))×List (Int×Int×Int×Int×Int))→Option (List Int×Bool) :=
 fun x=>(m24 ((x.1.1,x.1.2),x.2)).bind fun r=>(m50 (r.1.1,r.1.2)).bind fun r_1=>bif PE.orM (PE.notM (eqM r.2 0)) (PE.notM r_1.2) then some ([],false)
 else ((loopM (fun (s:Int×List Int)=>bif ltM s.1 x.1.1 then (appM (nat_lit 8) s.2 [(-1)]).bind fun r_2=>(appM (nat_lit 8) r_2 [(-1)]).bind fun r =>
 some (Sum.inl (wrap IntKind.i64 (s.1+1),r)) else some (Sum.inr (Sum.inl s.2))) (0,[])).bind fun o=>Sum.elim (fun (t:List Int)=>(loopM (fun (s:Int
 × List Int)=>bif ltM s.1 (lenM x.2) then ((idxM x.2 s.1).bind fun r_2=>bif PE.orM (eqM r_2.1 1) (PE.orM (eqM r_2.1 2) (eqM r_2.1 3)) then (bif eqM r_2.1 1
 then m138 (r_2.1,r_2.2.1,r_2.2.2.1,r_2.2.2.2.1,r_2.2.2.2.2) else bif eqM r_2.1 2 then m139 (r_2.1,r_2.2.1,r_2.2.2.1,r_2.2.2.2.1,r_2.2.2.2.2) else bif
 eqM r_2.1 3 then m140 (r_2.1,r_2.2.1,r_2.2.2.1,r_2.2.2.2.1,r_2.2.2.2.2) else none).bind fun r_3=>(appM (nat_lit 8) s.2 [s.1]).bind fun r_4=>(appM
 (nat_lit 8) r_4 [s.1]).bind fun r=>some (Sum.inr r) else (bif eqM r_2.1 4 then m141 (r_2.1,r_2.2.1,r_2.2.2.1,r_2.2.2.2.1,r_2.2.2.2.2) else bif eqM r_2.1
 5 then m141 (r_2.1,r_2.2.1,r_2.2.2.1,r_2.2.2.2.1,r_2.2.2.2.2) else none).bind fun r_3=>(appM (nat_lit 8) s.2 [s.1]).bind fun r_4=>(appM (nat_lit 8)
 r_4 [s.1]).bind fun r=>some (Sum.inr r)).bind fun o=>Sum.elim (fun (t:List Int)=>some (Sum.inr (Sum.inr t))) (fun (t:List Int)=>some (Sum.inl
 (wrap IntKind.i64 (s.1+1),t))) o else some (Sum.inr (Sum.inl s.2))) (0,t)).bind fun o=>Sum.elim (fun (t_1:List Int)=>(m28 (x.1.1,x.1.2)).bind fun
 r_2=>(loopM (fun (s:Int×List Int)=>bif ltM s.1 (lenM r_2.1.2) then (idxM r_2.1.2 s.1).bind fun r_3=>(appM (nat_lit 8) s.2 [wrap IntKind.i64 (lenM
 x.2+s.1)]).bind fun r=>some (Sum.inl (wrap IntKind.i64 (s.1+1),r)) else some (Sum.inr s.2)) (0,t_1)).bind fun o=>some o) (fun (t:List Int)=>some
 t) o) (fun (t:List Int)=>some t) o).bind fun o=>(loopM (fun (s:Int×List Int)=>bif ltM s.1 (lenM r_1.1) then ((idxM r_1.1 s.1).bind fun r_2 =>
 (chkM r_2 (lenM o)).bind fun r_3=>(idxM o r_2).bind fun r_4=>bif leM 0 r_4 then (chkM r_2 (lenM o)).bind fun r_5=>(idxM o r_2).bind fun r_6=>(appM
 (nat_lit 8) s.2 [r_6]).bind fun r=>some r else some s.2).bind fun o=>some (Sum.inl (wrap IntKind.i64 (s.1+1),o)) else some (Sum.inr s.2)) (0,[])).bind
 fun o_1=>(sortI o_1).bind fun r_2=>(compI r_2).bind fun r=>some (r,true)
theorem c16:SpecOK Tryz.prog 16 ⟨as16,rs16,m16⟩ :=
 fc tabs184OK [] an16 Tryz.f16 fun x=>by kernel_rfl
def tabs16:Tabs:=Tabs.add tabs184 16 ⟨as16,rs16,m16⟩
theorem tabs16OK:TabOK Tryz.prog tabs16:=TabOK.add tabs184OK c16 Tryz.call16

/-! putlog/calendar.within -/
def as118:List Ty:=[tI,tI,tI]
def rs118:List Ty:=[.bool]
def an118:Ann:=.a
def m118:(Int×Int×Int)→Option (Bool) :=
 fun x=>some (PE.andM (leM x.2.1 x.1) (leM x.1 x.2.2))
theorem c118:SpecOK Tryz.prog 118 ⟨as118,rs118,m118⟩ :=
 fc tabs16OK [] an118 Tryz.f118 fun x=>by kernel_rfl
def tabs118:Tabs:=Tabs.add tabs16 118 ⟨as118,rs118,m118⟩
theorem tabs118OK:TabOK Tryz.prog tabs118:=TabOK.add tabs16OK c118 Tryz.call118

/-! putlog/calendar.isReign -/
def as109:List Ty:=[tB]
def rs109:List Ty:=[.bool]
def an109:Ann:=.a
def m109:(Int×Int×Int)→Option (Bool) :=
 fun x=>(m118 (x.1,0,99)).bind fun r=>some (PE.andM (PE.andM (PE.andM r (leM 0 x.2.1)) (ltM x.2.1 x.2.2)) (leM x.2.2 800000))
theorem c109:SpecOK Tryz.prog 109 ⟨as109,rs109,m109⟩ :=
 fc tabs118OK [] an109 Tryz.f109 fun x=>by kernel_rfl
def tabs109:Tabs:=Tabs.add tabs118 109 ⟨as109,rs109,m109⟩
theorem tabs109OK:TabOK Tryz.prog tabs109:=TabOK.add tabs118OK c109 Tryz.call109

/-! putlog/calendar.Days$1 -/
def as108:List Ty:=[tB]
def rs108:List Ty:=[.bool]
def an108:Ann:=.a
def m108:(Int×Int×Int)→Option (Bool) :=
 fun x=>(m109 (x.1,x.2.1,x.2.2)).bind fun r=>some (PE.notM r)
theorem c108:SpecOK Tryz.prog 108 ⟨as108,rs108,m108⟩ :=
 fc tabs109OK [] an108 Tryz.f108 fun x=>by kernel_rfl
def tabs108:Tabs:=Tabs.add tabs109 108 ⟨as108,rs108,m108⟩
theorem tabs108OK:TabOK Tryz.prog tabs108:=TabOK.add tabs109OK c108 Tryz.call108

/-! putlog/calendar.Valid -/
def as110:List Ty:=[tP]
def rs110:List Ty:=[.bool]
def an110:Ann:=.a
def m110:(Int×Int)→Option (Bool) :=
 fun x=>(m118 (x.1,500000,800001)).bind fun r=>(bif r then m118 (x.2,1,5) else some false).bind fun r_1=>some (PE.andM r r_1)
theorem c110:SpecOK Tryz.prog 110 ⟨as110,rs110,m110⟩ :=
 fc tabs108OK [] an110 Tryz.f110 fun x=>by kernel_rfl
def tabs110:Tabs:=Tabs.add tabs108 110 ⟨as110,rs110,m110⟩
theorem tabs110OK:TabOK Tryz.prog tabs110:=TabOK.add tabs108OK c110 Tryz.call110

/-! putlog/calendar.ValidPhrase -/
def as111:List Ty:=[(.pair tI (.pair tI tC))]
def rs111:List Ty:=[.bool]
def an111:Ann:=.seq (.a) (.seq (.a) (.seq (.reg [0,1,3,7,15,31,63,127,255,511,1023,2047,4095,8191,16383,32767,16383,81919,212991,475135,1048575,2097151,4194303,8388607,16777215,33554431,67108863,134217727,268435455,536870911,1073741823,2147483647,4294967295] (ra 0 33 ([])) (z0::.s [0] []::za 3 (.s [0] []::za 4 (.s [0] []::za 4 (.s [0] []::z0::.s [0] []::za 5 (.s [0] []::za 3 (.s [0] []::za 5 ([]))))))) (.a)) (.seq (.a) (.seq (.a) (.seq (.a) (.seq (.block (.seq (.a) (.cond (.a) (.seq (.join [(.norm,⟨[(101,.r (.c (.d (.d .bool))))],(ra 102 17 ([])),[],[]⟩)] (.a)) (.a))))) (.a)))))))
def m111:(Int×Int×Int×Int×Int×Int×Int)→Option (Bool) :=
 fun x=>(m118 (x.2.2.1,1,14)).bind fun r=>(bif eqM x.2.2.1 0 then m118 (x.2.2.2.1,1,12) else some false).bind fun r_1=>(bif PE.andM (PE.andM (eqM
 x.2.2.1 0) r_1) (leM 1 x.2.2.2.2.1) then idxM [0,31,28,31,30,31,30,31,31,30,31,30,31] x.2.2.2.1 else some 0).bind fun r_2=>(m118 (x.1,1,
 7)).bind fun r_3=>(bif r_3 then m118 (x.2.1,1,3) else some false).bind fun r_4=>(m118 (x.2.2.2.2.2.1,0,2100)).bind fun r_5=>(bif PE.notM (PE.andM
 r_5 (eqM x.2.2.2.2.2.2 (-1))) then m118 (x.2.2.2.2.2.1,1,100) else some false).bind fun r_6=>(bif PE.andM (PE.notM (PE.andM r_5 (eqM x.2.2.2.2.2.2 (-1))))
 r_6 then m118 (x.2.2.2.2.2.2,0,99) else some false).bind fun r_7=>bif PE.andM (PE.notM (PE.orM (PE.andM (PE.andM r (eqM x.2.2.2.1 0)) (eqM x.2.2.2.2.1 0))
 (PE.andM (PE.andM (PE.andM (eqM x.2.2.1 0) r_1) (leM 1 x.2.2.2.2.1)) (PE.orM (leM x.2.2.2.2.1 r_2) (PE.andM (eqM x.2.2.2.1 2) (eqM x.2.2.2.2.1 29))))))
 (PE.orM (PE.orM (PE.notM (eqM x.2.2.1 0)) (PE.notM (eqM x.2.2.2.1 0))) (PE.notM (eqM x.2.2.2.2.1 0))) then some false else (bif PE.andM (PE.notM (PE.andM r_3
 r_4)) (PE.orM (PE.notM (eqM x.1 0)) (PE.notM (eqM x.2.1 0))) then some (PE.andM (PE.notM (PE.andM r_3 r_4)) (PE.orM (PE.notM (eqM x.1 0)) (PE.notM (eqM x.2.1
 0)))) else some (PE.andM (PE.andM r_3 r_4) (PE.notM (PE.orM (PE.andM (PE.andM r (eqM x.2.2.2.1 0)) (eqM x.2.2.2.2.1 0)) (PE.andM (PE.andM (PE.andM (eqM
 x.2.2.1 0) r_1) (leM 1 x.2.2.2.2.1)) (PE.orM (leM x.2.2.2.2.1 r_2) (PE.andM (eqM x.2.2.2.1 2) (eqM x.2.2.2.2.1 29)))))))).bind fun o=>bif o then some false
 else some (PE.orM (PE.orM (PE.andM r_5 (eqM x.2.2.2.2.2.2 (-1))) (PE.andM r_6 r_7)) (PE.andM (PE.andM (PE.orM (PE.andM (PE.andM r (eqM x.2.2.2.1 0)) (eqM
 x.2.2.2.2.1 0)) (PE.andM (PE.andM (PE.andM (eqM x.2.2.1 0) r_1) (leM 1 x.2.2.2.2.1)) (PE.orM (leM x.2.2.2.2.1 r_2) (PE.andM (eqM x.2.2.2.1 2) (eqM x.2.2.2.2.1
 29))))) (eqM x.2.2.2.2.2.1 (-1))) (eqM x.2.2.2.2.2.2 (-1))))
theorem c111:SpecOK Tryz.prog 111 ⟨as111,rs111,m111⟩ :=
 fc tabs110OK [] an111 Tryz.f111 fun x=>by kernel_rfl
def tabs111:Tabs:=Tabs.add tabs110 111 ⟨as111,rs111,m111⟩
theorem tabs111OK:TabOK Tryz.prog tabs111:=TabOK.add tabs110OK c111 Tryz.call111

/-! (putlog/calendar.style).days -/
def as182:List Ty:=[.bool,tI,tI]
def rs182:List Ty:=[tI]
def an182:Ann:=.seq (.a) (.seq (.a) (.seq (.a) (.seq (.reg [] [] [z0,z0,.r,z0,z0] (.call [] [] (.seq (.a) (.a)) (.a))) (.seq (.a) (.seq (.join [(.norm,⟨[(7,.r (.c (.d (.d tI)))),(9,.r (.c (.d (.d .bool))))],(ra 21 20 ([])),[],[]⟩)] (.seq (.a) (.cond (.seq (.reg [] [] [z0,z0,.r,z0,z0,.r,z0,z0,z0] (.call [] [] (.seq (.a) (.a)) (.call [] [] (.seq (.a) (.a)) (.a)))) (.a)) (.a)))) (.seq (.seq (.a) (.block (.loop ⟨[(7,.r (.c (.d (.d tI)))),(10,.r (.c (.d (.d tI))))],(ra 41 17 ([])),[],[]⟩ [(.exit 0,⟨[(7,.r (.c (.d (.d tI))))],(10::ra 41 17 ([])),[],[]⟩)] (.seq (.a) (.seq (.join [(.norm,⟨[(7,.r (.c (.d (.d tI))))],(ra 46 12 ([])),[],[]⟩)] (.a)) (.a)))))) (.a)))))))
def m182:(Bool×Int×Int)→Option (Int) :=
 fun x=>(divM IntKind.i64 (wrap IntKind.i64 (wrap IntKind.i64 (x.2.1+4)-1)) 4).bind fun r=>(remM x.2.1 4).bind fun r_1=>(bif x.1 then (divM IntKind.i64
 (wrap IntKind.i64 (wrap IntKind.i64 (x.2.1+100)-1)) 100).bind fun r_2=>(divM IntKind.i64 (wrap IntKind.i64 (wrap IntKind.i64 (x.2.1+400)-1))
 400).bind fun r_3=>(bif eqM r_1 0 then remM x.2.1 100 else some 0).bind fun r_4=>(bif PE.notM (PE.andM (eqM r_1 0) (PE.notM (eqM r_4 0))) then remM x.2.1
 400 else some 0).bind fun r_5=>some (wrap IntKind.i64 (wrap IntKind.i64 (wrap IntKind.i64 (365*x.2.1)+r)+wrap IntKind.i64 (wrap IntKind.i64 (2-r_2)
 + r_3)),PE.orM (PE.andM (eqM r_1 0) (PE.notM (eqM r_4 0))) (eqM r_5 0)) else some (wrap IntKind.i64 (wrap IntKind.i64 (365*x.2.1)+r),eqM r_1 0)).bind
 fun o=>(loopM (fun (s:Int×Int)=>bif ltM s.2 x.2.2 then ((idxM [0,31,28,31,30,31,30,31,31,30,31,30,31] s.2).bind fun r=>bif PE.andM (eqM
 s.2 2) o.2 then some (wrap IntKind.i64 (wrap IntKind.i64 (s.1+r)+1)) else some (wrap IntKind.i64 (s.1+r))).bind fun o=>some (Sum.inl (o,wrap
 IntKind.i64 (s.2+1))) else some (Sum.inr s.1)) (o.1,1)).bind fun o=>some o
theorem c182:SpecOK Tryz.prog 182 ⟨as182,rs182,m182⟩ :=
 fc tabs111OK [] an182 Tryz.f182 fun x=>by kernel_rfl
def tabs182:Tabs:=Tabs.add tabs111 182 ⟨as182,rs182,m182⟩
theorem tabs182OK:TabOK Tryz.prog tabs182:=TabOK.add tabs111OK c182 Tryz.call182

/-! (putlog/calendar.style).easter -/
def as200:List Ty:=[.bool,tI]
def rs200:List Ty:=[tI]
def an200:Ann:=.seq (.a) (.seq (.a) (.seq (.a) (.seq (.join [(.norm,⟨[(7,.r (.c (.d (.d tI))))],(ra 13 12 ([])),[],[]⟩)] (.a)) (.seq (.a) (.seq (.join [(.norm,⟨[(7,.r (.c (.d (.d tI))))],(ra 30 15 ([])),[],[]⟩)] (.a)) (.a))))))
def m200:(Bool×Int)→Option (Int) :=
 fun x=>(remM x.2 19).bind fun r=>(divM IntKind.i64 x.2 100).bind fun r_1=>(bif x.1 then (divM IntKind.i64 (wrap IntKind.i64 (13+wrap IntKind.i64 (8 *
 r_1))) 25).bind fun r_2=>(divM IntKind.i64 r_1 4).bind fun r=>some (wrap IntKind.i64 (15+wrap IntKind.i64 (wrap IntKind.i64 (r_1-r_2)-r))) else some
 15).bind fun o=>(remM (wrap IntKind.i64 (wrap IntKind.i64 (19*r)+o)) 30).bind fun r_2=>(bif PE.andM x.1 (PE.orM (eqM r_2 29) (PE.andM (eqM r_2 28)
 (ltM 10 r))) then some (wrap IntKind.i64 (r_2-1)) else some r_2).bind fun o_1=>(m182 (x.1,x.2,3)).bind fun r_3=>(remM (wrap IntKind.i64 (wrap
 IntKind.i64 (wrap IntKind.i64 (r_3+20)+o_1)+4)) 7).bind fun r=>some (wrap IntKind.i64 (wrap IntKind.i64 (wrap IntKind.i64 (wrap IntKind.i64 (r_3+20)
 + o_1)+7)-r))
theorem c200:SpecOK Tryz.prog 200 ⟨as200,rs200,m200⟩ :=
 fc tabs182OK [] an200 Tryz.f200 fun x=>by kernel_rfl
def tabs200:Tabs:=Tabs.add tabs182 200 ⟨as200,rs200,m200⟩
theorem tabs200OK:TabOK Tryz.prog tabs200:=TabOK.add tabs182OK c200 Tryz.call200

/-! putlog/calendar.easter -/
def as181:List Ty:=[tP,tI]
def rs181:List Ty:=[tI]
def an181:Ann:=.a
def m181:((Int×Int)×Int)→Option (Int) :=
 fun x=>(m200 (false,x.2)).bind fun r=>bif ltM r x.1.1 then some r else (m200 (true,x.2)).bind fun r=>some r
theorem c181:SpecOK Tryz.prog 181 ⟨as181,rs181,m181⟩ :=
 fc tabs200OK [] an181 Tryz.f181 fun x=>by kernel_rfl
def tabs181:Tabs:=Tabs.add tabs200 181 ⟨as181,rs181,m181⟩
theorem tabs181OK:TabOK Tryz.prog tabs181:=TabOK.add tabs200OK c181 Tryz.call181

/-! (putlog/calendar.style).date -/
def as158:List Ty:=[.bool,tI]
def rs158:List Ty:=[tB]
def an158:Ann:=.seq (.a) (.seq (.reg [] [] [z0,.r,.s [] [3],.s [3] [3]] (.call [] [] (.seq (.a) (.seq (.a) (.seq (.block (.loop ⟨[(5,.r (.c (.d (.d tI)))),(6,.r (.c (.d (.d tI))))],(7::ra 9 16 ([])),[],[]⟩ [(.exit 0,⟨[(5,.r (.c (.d (.d tI))))],(6::7::ra 9 16 ([])),[],[]⟩)] (.seq (.a) (.block (.seq (.a) (.seq (.reg [] [] [z0,z0,.r,z0] (.call [] [] (.seq (.a) (.seq (.reg [0,0,2,7,0,31,63] (ra 0 7 ([])) (.s [0] []::za 3 (.s [1] []::z0::z0::[])) (.a)) (.a))) (.a))) (.a))))))) (.a)))) (.a))) (.seq (.reg [] [] [z0,.r,z0,z0] (.call [] [] (.seq (.a) (.seq (.a) (.seq (.block (.loop ⟨[(5,.r (.c (.d (.d tI)))),(6,.r (.c (.d (.d tI))))],(7::ra 9 16 ([])),[],[]⟩ [(.exit 0,⟨[(5,.r (.c (.d (.d tI))))],(6::7::ra 9 16 ([])),[],[]⟩)] (.seq (.a) (.block (.seq (.a) (.seq (.reg [] [] [z0,z0,.r,z0] (.call [] [] (.seq (.a) (.seq (.reg [0,0,0,4,15,0,63,127] (ra 0 8 ([])) (.s [0] []::.s [3] []::za 3 (.s [1] []::z0::z0::[])) (.a)) (.a))) (.a))) (.a))))))) (.a)))) (.a))) (.seq (.reg [0,0,0,0,0,0,56,124,252,511,1023] (ra 0 11 ([])) (.s [3] []::z0::.s [1] []::.s [0] []::.s [3] []::za 5 (.s [2] [2]::[])) (.a)) (.a))))
def m158:(Bool×Int)→Option (Int×Int×Int) :=
 fun x=>(loopM (fun (s:Int×Int)=>bif ltM s.1 s.2 then (shrM IntKind.u64 (wrap IntKind.u64 (wrap IntKind.i64 (s.1+s.2))) 1).bind fun r=>(m182 (x.1,
 wrap IntKind.i64 (wrap IntKind.i64 r+1),1)).bind fun r_1=>bif PE.notM (ltM x.2 r_1) then some (Sum.inl (wrap IntKind.i64 (wrap IntKind.i64 r+1),s.2))
 else some (Sum.inl (s.1,wrap IntKind.i64 r)) else some (Sum.inr s.1)) (0,2200)).bind fun o=>(loopM (fun (s:Int×Int)=>bif ltM s.1 s.2 then (shrM
 IntKind.u64 (wrap IntKind.u64 (wrap IntKind.i64 (s.1+s.2))) 1).bind fun r=>(m182 (x.1,o,wrap IntKind.i64 (wrap IntKind.i64 r+2))).bind fun r_1=>bif
 PE.notM (ltM x.2 r_1) then some (Sum.inl (wrap IntKind.i64 (wrap IntKind.i64 r+1),s.2)) else some (Sum.inl (s.1,wrap IntKind.i64 r)) else some (Sum.inr
 s.1)) (0,11)).bind fun o_1=>(m182 (x.1,o,wrap IntKind.i64 (1+o_1))).bind fun r=>some (o,wrap IntKind.i64 (1+o_1),wrap IntKind.i64 (wrap
 IntKind.i64 (x.2-r)+1))
theorem c158:SpecOK Tryz.prog 158 ⟨as158,rs158,m158⟩ :=
 fc tabs181OK [] an158 Tryz.f158 fun x=>by kernel_rfl
def tabs158:Tabs:=Tabs.add tabs181 158 ⟨as158,rs158,m158⟩
theorem tabs158OK:TabOK Tryz.prog tabs158:=TabOK.add tabs181OK c158 Tryz.call158

/-! putlog/calendar.date -/
def as119:List Ty:=[tP,tI]
def rs119:List Ty:=[tB]
def an119:Ann:=.a
def m119:((Int×Int)×Int)→Option (Int×Int×Int) :=
 fun x=>(m158 (leM x.1.1 x.2,x.2)).bind fun r=>some (r.1,r.2.1,r.2.2)
theorem c119:SpecOK Tryz.prog 119 ⟨as119,rs119,m119⟩ :=
 fc tabs158OK [] an119 Tryz.f119 fun x=>by kernel_rfl
def tabs119:Tabs:=Tabs.add tabs158 119 ⟨as119,rs119,m119⟩
theorem tabs119OK:TabOK Tryz.prog tabs119:=TabOK.add tabs158OK c119 Tryz.call119

/-! cmp.Compare[int] -/
def as157:List Ty:=[tI,tI]
def rs157:List Ty:=[tI]
def an157:Ann:=.a
def m157:(Int×Int)→Option (Int) :=
 fun x=>(m184 x.1).bind fun r=>(m184 x.2).bind fun r_1=>bif r then bif r_1 then some 0 else some (-1) else bif r_1 then some 1 else bif ltM x.1 x.2 then
 some (-1) else bif ltM x.2 x.1 then some 1 else some 0
theorem c157:SpecOK Tryz.prog 157 ⟨as157,rs157,m157⟩ :=
 fc tabs119OK [] an157 Tryz.f157 fun x=>by kernel_rfl
def tabs157:Tabs:=Tabs.add tabs119 157 ⟨as157,rs157,m157⟩
theorem tabs157OK:TabOK Tryz.prog tabs157:=TabOK.add tabs119OK c157 Tryz.call157

/-! cmp.Or[int] -/
def as164:List Ty:=[tL]
def rs164:List Ty:=[tI]
def an164:Ann:=.seq (.a) (.seq (.a) (.seq (.seq (.a) (.block (.loop ⟨[(8,.r (.c (.d (.d tI))))],(5::ra 9 6 (16::[])),[],[]⟩ [(.exit 0,⟨[],(5::ra 8 7 (16::[])),[],[]⟩),(.ret,⟨[(2,.r (.c (.d (.d tI))))],(5::ra 8 9 ([])),[],[]⟩)] (.a)))) (.a)))
def m164:List Int→Option (Int) :=
 fun x=>(loopM (fun (s:Int)=>bif ltM s (lenM x) then (idxM x s).bind fun r=>bif PE.notM (eqM r 0) then some (Sum.inr (Sum.inr r)) else some (Sum.inl
 (wrap IntKind.i64 (s+1))) else some (Sum.inr (Sum.inl ()))) 0).bind fun o=>Sum.elim (fun (t:Unit)=>some 0) (fun (t:Int)=>some t) o
theorem c164:SpecOK Tryz.prog 164 ⟨as164,rs164,m164⟩ :=
 fc tabs157OK [] an164 Tryz.f164 fun x=>by kernel_rfl
def tabs164:Tabs:=Tabs.add tabs157 164 ⟨as164,rs164,m164⟩
theorem tabs164OK:TabOK Tryz.prog tabs164:=TabOK.add tabs157OK c164 Tryz.call164

/-! putlog/calendar.compare -/
def as199:List Ty:=[tB,tB]
def rs199:List Ty:=[tI]
def an199:Ann:=.seq (.a) (.seq (.reg [0,1,0,4,15,0,32,0,128,511,0,1024,0,4096,16383,32767,65535,131071] (ra 0 18 ([])) (z0::.s [0] []::z0::.s [1] []::z0::z0::.s [0] []::z0::.s [1] []::z0::z0::.s [0] []::z0::.s [1] []::za 4 ([])) (.a)) (.a))
def m199:((Int×Int×Int)×Int×Int×Int)→Option (Int) :=
 fun x=>(m157 (x.1.1,x.2.1)).bind fun r=>(m157 (x.1.2.1,x.2.2.1)).bind fun r_1=>(m157 (x.1.2.2,x.2.2.2)).bind fun r_2=>(m164 [r,r_1,r_2]).bind fun r
 => some r
theorem c199:SpecOK Tryz.prog 199 ⟨as199,rs199,m199⟩ :=
 fc tabs164OK [] an199 Tryz.f199 fun x=>by kernel_rfl
def tabs199:Tabs:=Tabs.add tabs164 199 ⟨as199,rs199,m199⟩
theorem tabs199OK:TabOK Tryz.prog tabs199:=TabOK.add tabs164OK c199 Tryz.call199

/-! putlog/calendar.first -/
def as180:List Ty:=[tP,tB]
def rs180:List Ty:=[tI]
def an180:Ann:=.seq (.a) (.seq (.reg [] [] [z0,.r,z0] (.call [] [] (.seq (.a) (.seq (.a) (.seq (.block (.loop ⟨[(5,.r (.c (.d (.d tI)))),(6,.r (.c (.d (.d tI))))],(7::ra 9 16 ([])),[],[]⟩ [(.exit 0,⟨[(5,.r (.c (.d (.d tI))))],(6::7::ra 9 16 ([])),[],[]⟩)] (.seq (.a) (.block (.seq (.a) (.seq (.reg [] [] [z0,z0,.r,z0] (.call [] [] (.seq (.a) (.seq (.reg [0,0,3,0,15,31,63] (ra 0 7 ([])) (.s [0] []::z0::z0::.s [1] []::za 3 ([])) (.a)) (.a))) (.a))) (.a))))))) (.a)))) (.a))) (.a))
def m180:((Int×Int)×Int×Int×Int)→Option (Int) :=
 fun x=>(loopM (fun (s:Int×Int)=>bif ltM s.1 s.2 then (shrM IntKind.u64 (wrap IntKind.u64 (wrap IntKind.i64 (s.1+s.2))) 1).bind fun r=>(m119 ((x.1.1,
 x.1.2),wrap IntKind.i64 r)).bind fun r_1=>(m199 ((r_1.1,r_1.2.1,r_1.2.2),x.2.1,x.2.2.1,x.2.2.2)).bind fun r_2=>bif PE.notM (leM 0 r_2) then some
 (Sum.inl (wrap IntKind.i64 (wrap IntKind.i64 r+1),s.2)) else some (Sum.inl (s.1,wrap IntKind.i64 r)) else some (Sum.inr s.1)) (0,800001)).bind fun o =>
 some o
theorem c180:SpecOK Tryz.prog 180 ⟨as180,rs180,m180⟩ :=
 fc tabs199OK [] an180 Tryz.f180 fun x=>by kernel_rfl
def tabs180:Tabs:=Tabs.add tabs199 180 ⟨as180,rs180,m180⟩
theorem tabs180OK:TabOK Tryz.prog tabs180:=TabOK.add tabs199OK c180 Tryz.call180

/-! putlog/calendar.start -/
def as178:List Ty:=[tP,tI]
def rs178:List Ty:=[tI]
def an178:Ann:=.a
def m178:((Int×Int)×Int)→Option (Int) :=
 fun x=>bif eqM x.1.2 4 then (m181 ((x.1.1,x.1.2),x.2)).bind fun r=>some r else bif eqM x.1.2 2 then (m180 ((x.1.1,x.1.2),x.2,3,25)).bind fun r=>some
 r else bif eqM x.1.2 3 then (m180 ((x.1.1,x.1.2),wrap IntKind.i64 (x.2-1),3,25)).bind fun r=>some r else bif eqM x.1.2 5 then (m180 ((x.1.1,x.1.2),
 wrap IntKind.i64 (x.2-1),9,1)).bind fun r=>some r else (m180 ((x.1.1,x.1.2),x.2,1,1)).bind fun r=>some r
theorem c178:SpecOK Tryz.prog 178 ⟨as178,rs178,m178⟩ :=
 fc tabs180OK [] an178 Tryz.f178 fun x=>by kernel_rfl
def tabs178:Tabs:=Tabs.add tabs180 178 ⟨as178,rs178,m178⟩
theorem tabs178OK:TabOK Tryz.prog tabs178:=TabOK.add tabs180OK c178 Tryz.call178

/-! putlog/calendar.Year -/
def as148:List Ty:=[tP,tI]
def rs148:List Ty:=[tP,tI]
def an148:Ann:=.seq (.a) (.seq (.a) (.seq (.reg [0,0,3,0,0,16,63,127,255,511] (ra 0 10 ([])) (.s [0] []::z0::z0::.s [0] []::za 4 (.s [1] [1]::z0::[])) (.a)) (.a)))
def m148:((Int×Int)×Int)→Option ((Int×Int)×Int) :=
 fun x=>(m110 (x.1.1,x.1.2)).bind fun r=>(bif PE.notM (PE.notM r) then m118 (x.2,0,2100) else some false).bind fun r_1=>bif PE.orM (PE.notM r) (PE.notM
 r_1) then some ((0,0),200) else (m178 ((x.1.1,x.1.2),x.2)).bind fun r_2=>(m178 ((x.1.1,x.1.2),wrap IntKind.i64 (x.2+1))).bind fun r=>some ((r_2,
 r),0)
theorem c148:SpecOK Tryz.prog 148 ⟨as148,rs148,m148⟩ :=
 fc tabs178OK [] an148 Tryz.f148 fun x=>by kernel_rfl
def tabs148:Tabs:=Tabs.add tabs178 148 ⟨as148,rs148,m148⟩
theorem tabs148OK:TabOK Tryz.prog tabs148:=TabOK.add tabs178OK c148 Tryz.call148

/-! putlog/calendar.join$1 -/
def as156:List Ty:=[tP,tP]
def rs156:List Ty:=[tI]
def an156:Ann:=.a
def m156:((Int×Int)×Int×Int)→Option (Int) :=
 fun x=>(m157 (x.1.1,x.2.1)).bind fun r=>some r
theorem c156:SpecOK Tryz.prog 156 ⟨as156,rs156,m156⟩ :=
 fc tabs148OK [] an156 Tryz.f156 fun x=>by kernel_rfl
def tabs156:Tabs:=Tabs.add tabs148 156 ⟨as156,rs156,m156⟩
theorem tabs156OK:TabOK Tryz.prog tabs156:=TabOK.add tabs148OK c156 Tryz.call156
end
end Go.Proofs.YthfgccfaildmfaaGreatDoor
namespace Go.Proofs
open Go.Shelf
def Tryz.lays155_ren:Go.Shelf.Ren:=⟨fun | 6=>155 | 15=>143 | 14=>183 | 28=>175 | 29=>176 | 20=>202 | 21=>203 | 22=>204 | 23=>205 | 24=>206 | 25=>207 | 26=>208 | 27=>209 | 46=>222 | 47=>194 | 48=>195 | 49=>223 | 50=>224 | 57=>229 | n=>n,fun | 22=>42 | 24=>47 | 25=>204 | 3=>3 | 39=>191 | 0=>0 | 53=>223 | 55=>225 | 4=>4 | 46=>215 | 45=>214 | 50=>220 | 5=>5 | 9=>9 | 66=>240 | 70=>244 | 76=>260 | 77=>153 | n=>n,fun | n=>n⟩
theorem Tryz.lays155:Go.Proofs.SlLaysF0.n6 Tryz.prog Tryz.lays155_ren:={
 mixed:=by kernel_rfl
 f6:=⟨Tryz.f155.name,by decide,Tryz.func155.trans (congrArg some (by kernel_rfl))⟩
 f14:=⟨Tryz.f183.name,by decide,Tryz.func183.trans (congrArg some (by kernel_rfl))⟩
 f15:=Tryz.func143.trans (congrArg some (by kernel_rfl))
 f20:=⟨Tryz.f202.name,by decide,Tryz.func202.trans (congrArg some (by kernel_rfl))⟩
 f21:=⟨Tryz.f203.name,by decide,Tryz.func203.trans (congrArg some (by kernel_rfl))⟩
 f22:=⟨Tryz.f204.name,by decide,Tryz.func204.trans (congrArg some (by kernel_rfl))⟩
 f23:=⟨Tryz.f205.name,by decide,Tryz.func205.trans (congrArg some (by kernel_rfl))⟩
 f24:=⟨Tryz.f206.name,by decide,Tryz.func206.trans (congrArg some (by kernel_rfl))⟩
 f25:=⟨Tryz.f207.name,by decide,Tryz.func207.trans (congrArg some (by kernel_rfl))⟩
 f26:=⟨Tryz.f208.name,by decide,Tryz.func208.trans (congrArg some (by kernel_rfl))⟩
 f27:=⟨Tryz.f209.name,by decide,Tryz.func209.trans (congrArg some (by kernel_rfl))⟩
 f28:=Tryz.func175.trans (congrArg some (by kernel_rfl))
 f29:=Tryz.func176.trans (congrArg some (by kernel_rfl))
 f46:=⟨Tryz.f222.name,by decide,Tryz.func222.trans (congrArg some (by kernel_rfl))⟩
 f47:=Tryz.func194.trans (congrArg some (by kernel_rfl))
 f48:=Tryz.func195.trans (congrArg some (by kernel_rfl))
 f49:=⟨Tryz.f223.name,by decide,Tryz.func223.trans (congrArg some (by kernel_rfl))⟩
 f50:=⟨Tryz.f224.name,by decide,Tryz.func224.trans (congrArg some (by kernel_rfl))⟩
 f57:=⟨Tryz.f229.name,by decide,Tryz.func229.trans (congrArg some (by kernel_rfl))⟩
 t0:=Tryz.underlying0
 a0:=Tryz.isAgg0
 z0:=Tryz.sizeOf0
 v0:=Tryz.zeroValue0
 t3:=Tryz.underlying3
 a3:=Tryz.isAgg3
 z3:=Tryz.sizeOf3
 v3:=Tryz.zeroValue3
 t4:=Tryz.underlying4
 a4:=Tryz.isAgg4
 z4:=Tryz.sizeOf4
 v4:=Tryz.zeroValue4
 t5:=Tryz.underlying5
 a5:=Tryz.isAgg5
 z5:=Tryz.sizeOf5
 v5:=Tryz.zeroValue5
 t9:=Tryz.underlying9
 a9:=Tryz.isAgg9
 z9:=Tryz.sizeOf9
 v9:=Tryz.zeroValue9
 t22:=Tryz.underlying42
 a22:=Tryz.isAgg42
 z22:=Tryz.sizeOf42
 v22:=Tryz.zeroValue42
 t25:=Tryz.underlying204
 a25:=Tryz.isAgg204
 z25:=Tryz.sizeOf204
 v25:=Tryz.zeroValue204
 t39:=Tryz.underlying191
 a39:=Tryz.isAgg191
 z39:=Tryz.sizeOf191
 v39:=Tryz.zeroValue191
 t45:=Tryz.underlying214
 a45:=Tryz.isAgg214
 z45:=Tryz.sizeOf214
 v45:=Tryz.zeroValue214
 t46:=Tryz.underlying215
 a46:=Tryz.isAgg215
 z46:=Tryz.sizeOf215
 v46:=Tryz.zeroValue215
 t50:=Tryz.underlying220
 a50:=Tryz.isAgg220
 z50:=Tryz.sizeOf220
 v50:=Tryz.zeroValue220
 t53:=Tryz.underlying223
 a53:=Tryz.isAgg223
 z53:=Tryz.sizeOf223
 v53:=Tryz.zeroValue223
 t55:=Tryz.underlying225
 a55:=Tryz.isAgg225
 z55:=Tryz.sizeOf225
 v55:=Tryz.zeroValue225
 t66:=Tryz.underlying240
 a66:=Tryz.isAgg240
 z66:=Tryz.sizeOf240
 v66:=Tryz.zeroValue240
 t70:=Tryz.underlying244
 a70:=Tryz.isAgg244
 z70:=Tryz.sizeOf244
 v70:=Tryz.zeroValue244
 t76:=Tryz.underlying260
 a76:=Tryz.isAgg260
 z76:=Tryz.sizeOf260
 v76:=Tryz.zeroValue260
 t77:=Tryz.underlying153
 a77:=Tryz.isAgg153
 z77:=Tryz.sizeOf153
 v77:=Tryz.zeroValue153 }
end Go.Proofs
namespace Go.Proofs.YthfgccfaildmfaaGreatDoor
open Go Go.Abs Go.PE Go.Sort
open Go.Proofs (ltOf)
def cmpI (a b:Int):Int:=if a<b then -1 else if b<a then 1 else 0
theorem m184_eq (a:Int):m184 a=some false:=by
 show some (PE.notM (eqM a a))=some false
 have:eqM a a=true:=decide_eq_true rfl
 rw [this];rfl
theorem m157_eq (a b:Int):m157 (a,b)=some (cmpI a b):=by
 unfold m157 cmpI
 dsimp only
 rw [m184_eq,m184_eq]
 show (bif ltM a b then some (-1:Int) else bif ltM b a then some (1:Int) else some (0:Int))=_
 by_cases h1:a<b
 ·have e1:ltM a b=true:=decide_eq_true h1
  rw [e1,if_pos h1];rfl
 ·have e1:ltM a b=false:=decide_eq_false h1
  rw [e1,if_neg h1]
  by_cases h2:b<a
  ·have e2:ltM b a=true:=decide_eq_true h2
   rw [e2,if_pos h2];rfl
  ·have e2:ltM b a=false:=decide_eq_false h2
   rw [e2,if_neg h2];rfl
def cf156 (x y:Int×Int):Int:=cmpI x.1 y.1
theorem hm156 (x y:Int×Int):m156 (x,y)=some (cf156 x y):=by
 unfold m156 cf156
 dsimp only
 rw [m157_eq]
 rfl
theorem lt156 (x y:Int×Int):ltOf cf156 x y=decide (x.1<y.1):=by
 unfold ltOf cf156 cmpI
 by_cases h1:x.1<y.1
 ·simp [h1]
 ·by_cases h2:y.1<x.1<;>simp [h1,h2]
theorem swo156:SWO (ltOf cf156) where
 irrefl x:=by rw [lt156];simp
 trans x y z h1 h2:=by rw [lt156] at *;simp at *;omega
 ntrans x y z h1 h2:=by rw [lt156] at *;simp at *;omega
end Go.Proofs.YthfgccfaildmfaaGreatDoor
namespace Go.Proofs.YthfgccfaildmfaaGreatDoor
open Go Go.Abs Go.PE Go.Proofs
theorem sort156:SortOK Tryz.prog ⟨155,156,(.pair tI tI),sortM (.pair tI tI) cf156⟩:=sortOK_of (t:=(.pair tI tI)) (cf:=cf156) Tryz.lays155 rfl rfl rfl Tryz.isAgg47 Tryz.sizeOf47 Tryz.call155 Tryz.call156 c156 hm156 swo156
noncomputable def tabsS156:Tabs:=Tabs.addSo tabs156 ⟨155,156,(.pair tI tI),sortM (.pair tI tI) cf156⟩
theorem tabsS156OK:TabOK Tryz.prog tabsS156:=TabOK.addSo tabs156OK sort156
end Go.Proofs.YthfgccfaildmfaaGreatDoor
