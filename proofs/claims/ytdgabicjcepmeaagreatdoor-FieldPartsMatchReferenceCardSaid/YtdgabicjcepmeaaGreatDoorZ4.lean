/-
 Texts of this proof, put together: Px, Ty, Gl, Tb, P3, P5, P9, T1, M0, M1, M2.
 No conditions.
-/
import Derived.Test.YtdgabicjcepmeaaGreatDoorZ3
import Derived.ProofKit
import Derived.OpenShut
import Derived.Carry
import Derived.Test.YtdgabicjcepmeaaGreatDoorProg
import Derived.KernelRfl
import Derived.Test.YtdgabicjcepmeaaGreatDoorRows
import Derived.LaidMore
import Derived.Stop.Joined
import Derived.Lay
import Derived.Shelf.SlSortCmp.NoneTotal
import Derived.Shelf.Sort.Plain
import Derived.Shelf.Slices.In.SortNone
import Derived.Shelf.Slices.CompactI
import Derived.Shelf.Strings.Builder1
import Derived.Shelf.Strings.Prefix
import Derived.Shelf.Strings.SlTrimAscii
import Derived.Shelf.Strings.Repeat
import Derived.Shelf.Strconv.AtoiAll
import Derived.Shelf.Strconv.Itoa3
import Derived.Shelf.Lays
import Derived.Shelf.Lays2
import Derived.Shelf.LaysC
set_option linter.all false
namespace Go.PE
open Go Go.RowKit Go.Abs Go.ChangeShapes Go.WideShapes Go.ChangeAt

mutual
inductive TyP (P:Program):TypeId→Ty→Prop where
 | int {t k}:P.underlying t=some (.int k)→TyP P t (.int k)
 | bool {t}:P.underlying t=some .bool→TyP P t .bool
 | str {t}:P.underlying t=some .string→TyP P t .str
 | list {t e T}:P.underlying t=some (.slice e)→P.cellsOf e=T.size→TyP P e T→TyP P t (.list T)
 | struct1 {t fs T}:P.underlying t=some (.struct fs)→P.cellsOf t=T.size→FsP P (fs.toList.map fun f=>(f.offset,f.type)) 0 T→fs.size=1→TyP P t (.one T)
 | struct {t fs A B}:P.underlying t=some (.struct fs)→P.cellsOf t=A.size+B.size→FsP P (fs.toList.map fun f=>(f.offset,f.type)) 0 (.pair A B)→TyP P t (.pair A B)
 | array1 {t e T}:P.underlying t=some (.array 1 e)→P.cellsOf t=T.size→FsP P [(0,e)] 0 T→TyP P t (.one T)
 | array {t n e A B}:P.underlying t=some (.array n e)→P.cellsOf t=A.size+B.size→FsP P ((List.range n).map fun i=>(i*P.cellsOf e,e)) 0 (.pair A B)→TyP P t (.pair A B)
inductive FsP (P:Program):List (Nat×TypeId)→Nat→Ty→Prop where
 | last {off t T}:P.cellsOf t=T.size→TyP P t T→FsP P [(off,t)] off T
 | cons {off t A B l}:P.cellsOf t=A.size→TyP P t A→FsP P l (off+A.size) B→FsP P ((off,t)::l) off (.pair A B)
end
def InWd (w:World):Cells:=fun b _=>b<w.heap.size
theorem exists_list {α:Type} {p:Nat→α→Prop}:∀ (n:Nat),(∀ i,i<n→∃ y,p i y)→∃ ys:List α,ys.length=n∧∀ i y,ys[i]? = some y→p i y
 | 0,_=>⟨[],rfl,fun i y h=>by simp at h⟩
 | n+1,h=>by
  obtain ⟨ys,h1,h2⟩:=exists_list n fun i hi=>h i (by omega)
  obtain ⟨y,hy⟩:=h n (by omega)
  refine ⟨ys++[y],by simp [h1],fun i z hz=>?_⟩
  by_cases hi:i<ys.length
  ·rw [List.getElem?_append_left hi] at hz;exact h2 i z hz
  ·rw [List.getElem?_append_right (by omega)] at hz
   have:i-ys.length=0:=by
    have:=(List.getElem?_eq_some_iff.1 hz).1
    simp at this;omega
   rw [this] at hz
   simp at hz
   subst hz
   rw [show i=n by omega];exact hy
section
variable {H:Type} {enc:TypeId×Value→H} {P:Program} {w:World} {base:Nat} {spare:Nat→Bool} {held:Bool}
theorem cells?_get {a:Addr} {n:Nat} {cs:List Value} (h:w.cells? base a n=some cs):cs.length=n∧∀ j u,cs[j]? = some u→w.cell? (a.add j)=some u:=by
 obtain ⟨_,h1,h2⟩:=World.cells?_some h
 refine ⟨h1,fun j u hj=>?_⟩
 have hl:=(List.getElem?_eq_some_iff.1 hj).1
 rw [h2 j (by omega)];exact hj
theorem trod_rep:∀ (fuel:Nat) {t:TypeId} {T:Ty} {cs:List Value} {x:DataW H×List MemPlace},TyP P t T→DataW.trod enc P w base spare held fuel t cs=some x→∃ y:T.den,Rep (InWd w) w T y cs:=by
 intro fuel
 induction fuel with
 | zero=>intro t T cs x _ h;simp [DataW.trod] at h
 | succ n ih =>
  -- fields
  have fields:∀ {l:List (Nat×TypeId)} {off:Nat} {T:Ty} {cs:List Value},FsP P l off T→off+T.size≤cs.length→(∀ (i:Nat) p,l[i]? = some p→∃ x,DataW.trod enc P w base spare held n p.2 ((cs.drop p.1).take (P.cellsOf p.2))=some x) →
    ∃ y:T.den,Rep (InWd w) w T y ((cs.drop off).take T.size):=by
   intro l
   induction l with
   | nil=>intro off T cs h;cases h
   | cons p l ihl =>
    intro off T cs h hlen ht
    cases h with
    | last hc hty =>
     obtain ⟨x,hx⟩:=ht 0 _ rfl
     rw [← hc]
     exact ih hty hx
    | @cons _ t A B _ hc hty hr =>
     obtain ⟨x,hx⟩:=ht 0 _ rfl
     rw [hc] at hx
     obtain ⟨y1,h1⟩:=ih hty hx
     have hsz:(Ty.pair A B).size=A.size+B.size:=rfl
     rw [hsz] at hlen
     obtain ⟨y2,h2⟩:=ihl hr (by omega) fun i p hp=>ht (i+1) p (by simpa using hp)
     refine ⟨(y1,y2),_,_,?_,h1,h2⟩
     rw [hsz]
     rw [List.take_add,List.drop_drop]
  intro t T cs x hT h
  cases hT with
  | int hu =>
   obtain ⟨m,rfl,_,hw⟩:=DataW.trod_int hu h
   refine ⟨m,rfl,?_⟩
   simp [Lit.wf] at hw
   exact hw
  | bool hu=>obtain ⟨b,rfl,_⟩:=DataW.trod_bool hu h;exact ⟨b,rfl⟩
  | str hu =>
   obtain ⟨s,rfl,_,hs⟩:=DataW.trod_string hu h
   exact ⟨s.data.toList,by simp,by simpa using hs⟩
  | @list _ e T hu hc hty =>
   rcases DataW.trod_slice hu h with ⟨rfl,_⟩ | ⟨a,len,cap,elems,rest,m,hm,rfl,_,_,h1,h2,h3,h4,_⟩
   ·exact ⟨[],none,0,rfl,Nat.le_refl _,Nat.zero_le _,.inl rfl⟩
   ·cases hm
    rw [hc] at h4
    have hex:∀ i,i<len→∃ y:T.den,∃ es,Rep (InWd w) w T y es∧∀ j u,es[j]? = some u→w.cell? ((a.add (i*T.size)).add j)=some u:=by
     intro i hi
     have h5:=h4 i hi
     rw [List.getElem?_eq_getElem (by omega)] at h5
     obtain ⟨es,h6,h7⟩:=Option.bind_eq_some_iff.1 h5
     obtain ⟨y,hy⟩:=ih hty h7
     exact ⟨y,es,hy,(cells?_get h6).2⟩
    obtain ⟨ys,hl,hys⟩:=exists_list len hex
    refine ⟨ys,some a,cap,by rw [hl],by rw [hl];exact h1,h2,?_⟩
    by_cases h0:len=0
    ·left;show List.length ys=0;omega
    ·right
     have hsp:a.spot=none:=by
      obtain ⟨y,es,hr,hg⟩:=hex 0 (by omega)
      have hel:=hr.length
      have hpos:=T.size_pos
      have:=hg 0 _ (List.getElem?_eq_getElem (by omega))
      unfold World.cell? at this
      split at this
      ·split at this
       ·cases this
       ·rename_i hs
        simpa [Addr.add] using hs
      ·cases this
     obtain ⟨b,off,sp⟩:=a
     simp only at hsp
     subst hsp
     refine ⟨b,off,rfl,fun i y hy=>?_⟩
     obtain ⟨es,hr,hg⟩:=hys i y hy
     refine ⟨es,hr,fun j u hj=>?_⟩
     have h5:=hg j u hj
     rw [Addr.add_lit,Addr.add_lit] at h5
     exact ⟨World.block_lt_of_cell? _ _ h5,h5⟩
  | @struct1 _ fs T hu hc hf h1 =>
   obtain ⟨xs,m,hm,_,hl,hxl,hx⟩:=DataW.trod_struct hu h
   cases hm
   obtain ⟨y,hy⟩:=fields hf (by rw [hl,hc];omega) fun i p hp=>by
    simp only [List.getElem?_map,Option.map_eq_some_iff] at hp
    obtain ⟨f,hf1,rfl⟩:=hp
    have hil:i<xs.length:=by rw [hxl];simpa using (List.getElem?_eq_some_iff.1 hf1).1
    exact ⟨xs[i],by rw [← List.getElem?_eq_getElem hil];exact hx i f (by simpa using hf1)⟩
   rw [List.drop_zero,List.take_of_length_le (by omega)] at hy
   exact ⟨y,hy⟩
  | @struct _ fs A B hu hc hf =>
   obtain ⟨xs,m,hm,_,hl,hxl,hx⟩:=DataW.trod_struct hu h
   cases hm
   have hsz:(Ty.pair A B).size=A.size+B.size:=rfl
   obtain ⟨y,hy⟩:=fields hf (by rw [hl,hc,hsz];omega) fun i p hp=>by
    simp only [List.getElem?_map,Option.map_eq_some_iff] at hp
    obtain ⟨f,hf1,rfl⟩:=hp
    have hil:i<xs.length:=by rw [hxl];simpa using (List.getElem?_eq_some_iff.1 hf1).1
    exact ⟨xs[i],by rw [← List.getElem?_eq_getElem hil];exact hx i f (by simpa using hf1)⟩
   rw [List.drop_zero,List.take_of_length_le (by rw [hl,hc,hsz];omega)] at hy
   exact ⟨y,hy⟩
  | @array1 _ e T hu hc hf =>
   obtain ⟨xs,m,hm,_,hl,hxl,hx⟩:=DataW.trod_array hu h
   cases hm
   obtain ⟨y,hy⟩:=fields hf (by rw [hl,hc];omega) fun i p hp=>by
    have hi0:i=0:=by have:=(List.getElem?_eq_some_iff.1 hp).1;simp at this;exact this
    subst hi0
    simp at hp
    subst hp
    have:=hx 0 (by omega)
    rw [Nat.zero_mul] at this
    exact ⟨xs[0],by rw [← List.getElem?_eq_getElem (by omega)];exact this⟩
   rw [List.drop_zero,List.take_of_length_le (by omega)] at hy
   exact ⟨y,hy⟩
  | @array _ k e A B hu hc hf =>
   obtain ⟨xs,m,hm,_,hl,hxl,hx⟩:=DataW.trod_array hu h
   cases hm
   have hsz:(Ty.pair A B).size=A.size+B.size:=rfl
   obtain ⟨y,hy⟩:=fields hf (by rw [hl,hc,hsz];omega) fun i p hp=>by
    simp only [List.getElem?_map,Option.map_eq_some_iff] at hp
    obtain ⟨j,hj,rfl⟩:=hp
    have hjl:i<k:=by have:=(List.getElem?_eq_some_iff.1 hj).1;simpa using this
    have hji:j=i:=by rw [List.getElem?_range hjl] at hj;cases hj;rfl
    subst hji
    exact ⟨xs[j],by rw [← List.getElem?_eq_getElem (by omega)];exact hx j hjl⟩
   rw [List.drop_zero,List.take_of_length_le (by rw [hl,hc,hsz];omega)] at hy
   exact ⟨y,hy⟩

theorem TyP.agg:∀ {t:TypeId} {T:Ty} {v:Value} {r:Reach} {b0:Nat} {x:T.den},TyP P t T→Value.okWide P w r b0 t v→Rep (InWd w) w T x v.cells.toList→VRep (InWd w) w T x v:=by
 intro t T v r b0 x hT hok hr
 refine ⟨_,hr,?_⟩
 cases hT with
 | int hu=>obtain ⟨n,rfl⟩:=okWide_int hu hok;rfl
 | bool hu=>obtain ⟨n,rfl⟩:=okWide_bool hu hok;rfl
 | str hu=>obtain ⟨n,rfl⟩:=okWide_string hu hok;rfl
 | list hu _ _=>obtain ⟨a,l,c,rfl⟩:=okWide_slice hu hok;rfl
 | struct1 hu _ _ _=>simp only [Value.okWide,hu] at hok;obtain ⟨cs,rfl,_⟩:=hok;simp [Ty.wrap,Ty.agg,Value.cells]
 | struct hu _ _=>simp only [Value.okWide,hu] at hok;obtain ⟨cs,rfl,_⟩:=hok;simp [Ty.wrap,Ty.agg,Value.cells]
 | array1 hu _ _=>simp only [Value.okWide,hu] at hok;obtain ⟨cs,rfl,_⟩:=hok;simp [Ty.wrap,Ty.agg,Value.cells]
 | array hu _ _=>simp only [Value.okWide,hu] at hok;obtain ⟨cs,rfl,_⟩:=hok;simp [Ty.wrap,Ty.agg,Value.cells]

inductive TysP (P:Program):List TypeId→List Ty→Prop where
 | nil:TysP P [] []
 | cons {t T ts Ts}:P.readableRec t=true→t<P.types.size→TyP P t T→TysP P ts Ts→TysP P (t::ts) (T::Ts)
theorem args_data {η:Eta} {r:Reach} {b0:Nat}:∀ {ts:List TypeId} {Ts:List Ty} {vs:List Value} {ds:List (DataW H)} {ps:List MemPlace},TysP P ts Ts→DataW.TrodAll enc P w base spare held ts vs ds ps→(∀ (j:Nat) t v,ts[j]? = some t→vs[j]? = some v→Value.okWide P w r b0 t v) →
  ∃ x:Tup (Ts.map .d),All2 (RM (InWd w) w η) (rvs Ts x) vs
 | _,_,vs,ds,ps,.nil,h,_=>by
  obtain ⟨rfl,_,_⟩:=trodAll_nil h
  exact ⟨(),.nil⟩
 | _,_,vs,ds,ps,.cons (t:=t) (T:=T) (ts:=ts) (Ts:=Ts) h1 h2 h3 h4,h,hok=>by
  obtain ⟨v,vs',d,ds',p,q,rfl,rfl,rfl,⟨n,hn⟩,hr⟩:=trodAll_cons h
  obtain ⟨y,hy⟩:=trod_rep n h3 hn
  have hv:RM (InWd w) w η (T.rv y) v:=VRep.rm (h3.agg (hok 0 t v rfl rfl) hy)
  obtain ⟨x,hx⟩:=args_data (η:=η) h4 hr fun j t v h1 h2=>hok (j+1) t v (by simpa using h1) (by simpa using h2)
  cases Ts with
  | nil=>exact ⟨y,by cases hx;exact .cons hv .nil⟩
  | cons U Us=>exact ⟨(y,x),.cons hv hx⟩
theorem args_back (hl:laidOutB P=true) {w':World} (hb:Below w.heap.size w w') {sp:Nat→Bool}:∀ {ts:List TypeId} {Ts:List Ty} {vs:List Value} {ds:List (DataW H)} {ps:List MemPlace},TysP P ts Ts→DataW.TrodAll enc P w 0 (fun _=>true) true ts vs ds ps→(∀ x∈ps,x.block<w.heap.size)→(∀ x∈ps,sp x.block=true) →
  DataW.TrodAll enc P w' 0 sp true ts vs ds ps
 | _,_,vs,ds,ps,.nil,h,_,_=>by
  obtain ⟨rfl,rfl,rfl⟩:=trodAll_nil h
  exact rfl
 | _,_,vs,ds,ps,.cons h1 h2 h3 h4,h,hlt,hsp=>by
  obtain ⟨v,vs',d,ds',p,q,rfl,rfl,rfl,hd,hr⟩:=trodAll_cons h
  have hd':=WideElems.Trod_stays hl h1 h2 (sp':=sp) hd (fun x hx=>hb.same (hlt x (by simp [hx]))) fun x hx=>hsp x (by simp [hx])
  exact ⟨p,q,hd',args_back hl hb h4 hr (fun x hx=>hlt x (by simp [hx])) fun x hx=>hsp x (by simp [hx]),rfl⟩
end

theorem law_contract' {P:Program} (hl:laidOutB P=true) {f:FuncId} {fn:Func} {s:ChangeSpec} {args:List Ty} {m:Tup (args.map .d)→Option Bool} (hspec:SpecOK P f ⟨args,[.bool],m⟩) {ts:List TypeId} (hts:fn.params.toList=ts) (hT:TysP P ts args) {tb:TypeId} (hrt:fn.resultTypes=#[tb]) (htb:P.underlying tb=some .bool)
  (hvars:s.vars=[]) (hfn:∀ (H:Type) (ds:List (DataW H)),ds.length=args.length→(s.fn H ds).results=[.lit (.bool true)]∧(s.fn H ds).args=ds∧(s.fn H ds).vars=[])
  (hm:∀ (S:Cells) (w:World) (η:Eta) (vs:List Value) x,All2 (RM S w η) (rvs args x) vs→m x=some true)
  {H:Type} {enc:TypeId×Value→H} {W:World} {base:Nat} {av:Array Value} {ds gs:List (DataW H)} {before:List MemPlace} (hglob:GlobOK (InWd W) W)
  (hval:∀ (j:Nat) t v,fn.params[j]? = some t→av[j]? = some v→Value.okWide P W .any base t v) (hW:DataW.Whole enc P fn.params.toList s.vars false W av.toList ds gs before) :
  Calls P f av W fun e W'=>∃ v,e=.returned v∧s.post enc P fn false true false false W av v W'∧W'.os=W.os:=by
 have hW0:=hW
 obtain ⟨p,q,hA,hV,rfl,hfz,_⟩:=hW
 rw [hvars] at hV
 obtain ⟨rfl,rfl⟩:=trodVars_none hV
 rw [List.append_nil] at *
 rw [hts] at hA
 have hlt:∀ x∈p,x.block<W.heap.size:=fun x hx=>by simpa using hW0.lt x hx
 obtain ⟨x,hx⟩:=args_data (η:=fun _=>none) (r:=.any) (b0:=base) hT hA fun j t v h1 h2=>hval j t v (by rw [← hts] at h1;simpa using h1) (by simpa using h2)
 have hc:=hspec x true (hm _ _ _ _ x hx) (InWd W) W (fun _=>none) av.toList ⟨fun b o h=>h,hglob⟩ hx
 have hav:av.toList.toArray=av:=by simp
 rw [hav] at hc
 refine hc.mono fun e W' ⟨v,S',he,hg,hp⟩=>⟨v,he,?_,hg.below.os⟩
 have hvb:v=.bool true:=VRep.bool.1 hp.2
 subst hvb
 have hb:=hg.below
 have hlen:ds.length=args.length:=by
  have h1:∀ {ts:List TypeId} {Ts:List Ty} {vs:List Value} {ds:List (DataW H)} {ps:List MemPlace},TysP P ts Ts→DataW.TrodAll enc P W 0 (fun _=>true) true ts vs ds ps→ds.length=Ts.length:=by
   intro ts Ts vs ds ps hT
   induction hT generalizing vs ds ps with
   | nil=>intro h;obtain ⟨_,rfl,_⟩:=trodAll_nil h;rfl
   | cons _ _ _ _ ih=>intro h;obtain ⟨_,_,_,_,_,_,rfl,rfl,rfl,_,hr⟩:=trodAll_cons h;simp [ih hr]
  exact h1 hT hA
 obtain ⟨f1,f2,f3⟩:=hfn H (ds++[]) (by simpa using hlen)
 have hargs:∀ sp:Nat→Bool,(∀ y∈p,sp y.block=true)→DataW.TrodAll enc P W' 0 sp true fn.params.toList av.toList (s.fn H (ds++[])).args p:=fun sp hsp=>by
  rw [f2,List.append_nil,hts]
  exact args_back hl hb hT hA hlt hsp
 have hres:∀ (b:Nat) (sp:Nat→Bool) (hd:Bool),DataW.TrodAll enc P W' b sp hd fn.resultTypes.toList ((Value.bool true).resultList fn.resultTypes.size) (s.fn H (ds++[])).results []:=fun b sp hd=>by
  rw [f1,hrt]
  exact trodAll_cons_mk (shut_bool htb _) trodAll_mk0
 have hvv:∀ sp:Nat→Bool,DataW.TrodVars enc P W' sp s.vars (s.fn H (ds++[])).vars []:=fun sp=>by rw [f3,hvars];rfl
 have hold:∀ y∈p,(fun b=>decide (b<W.heap.size)) y.block=true:=fun y hy=>by simpa using hlt y hy
 refine ⟨ds,[],p,[],p,[],hW0,hres _ _ _,hargs _ hold,hvv _,World.keptBut_mono (fun y hy=>⟨hy,?_⟩) (hb.frame (·∈p)),fun _=>?_⟩
 ·simpa using hy
 ·refine ⟨ok_one hrt rfl (okWide_bool_mk htb _),_,_,([]++p)++[],⟨[]++p,[],trodAll_append (hargs _ (fun _ _=>rfl)) (hres _ _ _),hvv _,rfl,?_,?_⟩,?_⟩
  ·intro b off hpm
   have hpm:MemPlace.cell b off∈p:=by simpa using hpm
   have hlt':=hlt _ hpm
   rw [hb.frozen (p:=⟨b,off,none⟩) hlt']
   exact hfz b off hpm
  ·intro h;cases h
  ·intro y hy _
   simpa using hy
theorem law_contract {P:Program} (hl:laidOutB P=true) {f:FuncId} {fn:Func} {s:ChangeSpec} {args:List Ty} {m:Tup (args.map .d)→Option Bool} (hspec:SpecOK P f ⟨args,[.bool],m⟩) {ts:List TypeId} (hts:fn.params.toList=ts) (hT:TysP P ts args) {tb:TypeId} (hrt:fn.resultTypes=#[tb]) (htb:P.underlying tb=some .bool)
  (hvars:s.vars=[]) (hfn:∀ (H:Type) (ds:List (DataW H)),ds.length=args.length→(s.fn H ds).results=[.lit (.bool true)]∧(s.fn H ds).args=ds∧(s.fn H ds).vars=[])
  (hm:∀ (S:Cells) (w:World) (η:Eta) (vs:List Value) x,All2 (RM S w η) (rvs args x) vs→m x=some true)
  {H:Type} {enc:TypeId×Value→H} {W:World} {base:Nat} {av:Array Value} {ds gs:List (DataW H)} {before:List MemPlace} (hglob:GlobOK (InWd W) W)
  (hval:∀ (j:Nat) t v,fn.params[j]? = some t→av[j]? = some v→Value.okWide P W .any base t v) (hW:DataW.Whole enc P fn.params.toList s.vars false W av.toList ds gs before) :
  Calls P f av W fun e W'=>∃ v,e=.returned v∧s.post enc P fn false true false false W av v W' :=
 (law_contract' hl hspec hts hT hrt htb hvars hfn hm hglob hval hW).mono fun e W' ⟨v,h1,h2,_⟩=>⟨v,h1,h2⟩
theorem ints_of_trod {P:Program} {H:Type} {enc:TypeId×Value→H} {W:World} {base:Nat} {spare:Nat→Bool} {held:Bool} {fuel:Nat} {t e:TypeId} {n:Nat} {cs:List Value} {k0:IntKind} {xs:List Int} {p:List MemPlace} (ht:P.underlying t=some (.array n e)) (he:P.underlying e=some (.int k0)) (hc:P.cellsOf e=1)
  (h:DataW.trod enc P W base spare held fuel t cs=some (.agg (xs.map fun n=>.lit (.int k0 n)),p)) (i:Nat) (x:Int) (hx:xs[i]? = some x):cs[i]? = some (.int k0 x)∧k0.has x:=by
 cases fuel with
 | zero=>simp [DataW.trod] at h
 | succ fuel =>
  obtain ⟨ys,m,hm,h1,h2,h3,h4⟩:=DataW.trod_array ht h
  cases hm
  simp only [Prod.mk.injEq,DataW.agg.injEq] at h1
  have hl:ys.length=xs.length:=by
   have:=congrArg List.length h1.1
   simpa using this.symm
  have hi:i<xs.length:=(List.getElem?_eq_some_iff.1 hx).1
  have h5:=h4 i (by omega)
  obtain ⟨z,hz⟩:∃ z,ys[i]? = some z:=⟨_,List.getElem?_eq_getElem (by omega)⟩
  have h6:(ys.map (·.1))[i]? = some (.lit (.int k0 x)):=by
   rw [← h1.1,List.getElem?_map,hx];rfl
  rw [List.getElem?_map,hz] at h6
  have h6:z.1=.lit (.int k0 x):=Option.some.inj h6
  rw [hc] at h5
  rw [hz,Nat.mul_one] at h5
  cases fuel with
  | zero=>simp [DataW.trod] at h5
  | succ fuel =>
   obtain ⟨k,e1,e2,e3⟩:=DataW.trod_int he h5
   rw [e2] at h6
   have hk:k=x:=by simpa using h6
   subst hk
   refine ⟨?_,(by simp [Lit.wf] at e3;exact e3)⟩
   have:((cs.drop i).take 1)[0]? = some (.int k0 k):=by rw [e1];rfl
   simpa using this
theorem ints_len {P:Program} {H:Type} {enc:TypeId×Value→H} {W:World} {base:Nat} {spare:Nat→Bool} {held:Bool} {fuel:Nat} {t e:TypeId} {n:Nat} {cs:List Value} {x:DataW H×List MemPlace} (ht:P.underlying t=some (.array n e)) (hc:P.cellsOf t=n)
  (h:DataW.trod enc P W base spare held fuel t cs=some x):cs.length=n:=by
 cases fuel with
 | zero=>simp [DataW.trod] at h
 | succ fuel =>
  obtain ⟨ys,m,hm,h1,h2,h3,h4⟩:=DataW.trod_array ht h
  rw [h2,hc]
end Go.PE
namespace Go.Proofs.YtdgabicjcepmeaaGreatDoor
open Go Go.Abs Go.PE Go.RowKit Go.ChangeShapes Go.WideShapes Go.ChangeAt Go.Proofs
set_option maxRecDepth 100000
theorem tyP3:TyP Tryz.prog 3 (.int .i64):=.int Tryz.underlying3
theorem tyP22:TyP Tryz.prog 22 (.pair (.int .i64) (.pair (.int .i64) (.pair (.int .i64) (.int .i64)))):=.array Tryz.underlying22 (by kernel_rfl) (show FsP Tryz.prog [(0,3),(1,3),(2,3),(3,3)] 0 (.pair (.int .i64) (.pair (.int .i64) (.pair (.int .i64) (.int .i64)))) from .cons (by kernel_rfl) tyP3 (.cons (by kernel_rfl) tyP3 (.cons (by kernel_rfl) tyP3 (.last (by kernel_rfl) tyP3))))
theorem tyP58:TyP Tryz.prog 58 (.pair (.int .i64) (.int .i64)):=.array Tryz.underlying58 (by kernel_rfl) (show FsP Tryz.prog [(0,3),(1,3)] 0 (.pair (.int .i64) (.int .i64)) from .cons (by kernel_rfl) tyP3 (.last (by kernel_rfl) tyP3))
theorem tyP23:TyP Tryz.prog 23 (.list (.pair (.int .i64) (.int .i64))):=.list Tryz.underlying23 (by kernel_rfl) tyP58
theorem tyP24:TyP Tryz.prog 24 (.pair (.int .i64) (.pair (.int .i64) (.int .i64))):=.array Tryz.underlying24 (by kernel_rfl) (show FsP Tryz.prog [(0,3),(1,3),(2,3)] 0 (.pair (.int .i64) (.pair (.int .i64) (.int .i64))) from .cons (by kernel_rfl) tyP3 (.cons (by kernel_rfl) tyP3 (.last (by kernel_rfl) tyP3)))
theorem tyP25:TyP Tryz.prog 25 (.list (.int .i64)):=.list Tryz.underlying25 (by kernel_rfl) tyP3
theorem tyP27:TyP Tryz.prog 27 (.pair (.int .i64) (.pair (.int .i64) (.pair (.list (.int .i64)) (.list (.int .i64))))):=.struct Tryz.underlying27 (by kernel_rfl) (show FsP Tryz.prog [(0,3),(1,3),(2,25),(3,25)] 0 (.pair (.int .i64) (.pair (.int .i64) (.pair (.list (.int .i64)) (.list (.int .i64))))) from .cons (by kernel_rfl) tyP3 (.cons (by kernel_rfl) tyP3 (.cons (by kernel_rfl) tyP25 (.last (by kernel_rfl) tyP25))))
theorem tyP48:TyP Tryz.prog 48 (.pair (.int .i64) (.int .i64)):=.struct Tryz.underlying48 (by kernel_rfl) (show FsP Tryz.prog [(0,3),(1,3)] 0 (.pair (.int .i64) (.int .i64)) from .cons (by kernel_rfl) tyP3 (.last (by kernel_rfl) tyP3))
theorem tyP28:TyP Tryz.prog 28 (.list (.pair (.int .i64) (.int .i64))):=.list Tryz.underlying28 (by kernel_rfl) tyP48
theorem tys3:TysP Tryz.prog [22,23,24,27,23,28,3] [(.pair (.int .i64) (.pair (.int .i64) (.pair (.int .i64) (.int .i64)))),(.list (.pair (.int .i64) (.int .i64))),(.pair (.int .i64) (.pair (.int .i64) (.int .i64))),(.pair (.int .i64) (.pair (.int .i64) (.pair (.list (.int .i64)) (.list (.int .i64))))),(.list (.pair (.int .i64) (.int .i64))),(.list (.pair (.int .i64) (.int .i64))),(.int .i64)]:=.cons (by kernel_rfl) (of_decide_eq_true (by kernel_rfl)) tyP22 (.cons (by kernel_rfl) (of_decide_eq_true (by kernel_rfl)) tyP23 (.cons (by kernel_rfl) (of_decide_eq_true (by kernel_rfl)) tyP24 (.cons (by kernel_rfl) (of_decide_eq_true (by kernel_rfl)) tyP27 (.cons (by kernel_rfl) (of_decide_eq_true (by kernel_rfl)) tyP23 (.cons (by kernel_rfl) (of_decide_eq_true (by kernel_rfl)) tyP28 (.cons (by kernel_rfl) (of_decide_eq_true (by kernel_rfl)) tyP3 (.nil)))))))
theorem laidOut:laidOutB Tryz.prog=true:=by kernel_rfl
theorem own:ownKnob Tryz.prog.godebug=none:=by kernel_rfl
end Go.Proofs.YtdgabicjcepmeaaGreatDoor
namespace Go.Proofs.YtdgabicjcepmeaaGreatDoor
open Go Go.Abs Go.PE Go.RowKit Go.ChangeShapes Go.WideShapes Go.ChangeAt Go.WideMaps Go.WideElems Go.Proofs
set_option maxRecDepth 100000
theorem gName:Tryz.prog.globalNamed "internal/strconv.uint64pow10"=some 0:=by kernel_rfl
theorem gTy:(Tryz.prog.globals[0]?).map (·.type)=some 230:=by kernel_rfl
theorem globs_ok {W:World} (h:laidMetH Tryz.prog Rows.fieldPartsMatchReferenceRow.laid W):GlobOK (InWd W) W:=by
 rw [MakeChecks.laidMetH_plain _ _ _ (by kernel_rfl)] at h
 obtain ⟨ps,h,_,_⟩:=h
 obtain ⟨_,_,_,_,_,_,_,_,_,_,h,_⟩:=h
 obtain ⟨_,_,_,_,_,_,_,_,_,_,h,_⟩:=h
 obtain ⟨g0,t0,cs0,f0,p0,q0,hg0,ht0,hv0,hd0,_,_⟩:=h
 obtain rfl:=Option.some.inj (gName.symm.trans hg0)
 obtain rfl:=Option.some.inj (gTy.symm.trans ht0)
 have hsz:=ints_len Tryz.underlying230 (by kernel_rfl) hd0
 have key:=ints_of_trod (k0:=.u64) (xs:=([1,10,100,1000,10000,100000,1000000,10000000,100000000,1000000000,10000000000,100000000000,1000000000000,10000000000000,100000000000000,1000000000000000,10000000000000000,100000000000000000,1000000000000000000,10000000000000000000]:List Int)) Tryz.underlying230 Tryz.underlying154 (by kernel_rfl) hd0
 have hcell:∀ i,W.cell? ⟨0,i,none⟩=cs0[i]? := fun i=>World.var?_cell hg0 hv0 i
 intro g G hl
 unfold globTab at hl
 by_cases hg:0=g
 ·subst hg
  rw [lk_same] at hl
  cases hl
  refine ⟨⟨World.block_lt_of_cell? (w:=W) (a:=⟨0,0,none⟩) (u:=.int .u64 1) (by rw [hcell];simpa using (key 0 1 rfl).1),?_⟩,fun i x hx=>?_⟩
  ·rw [hcell]
   exact Array.getElem?_eq_none (by rw [← Array.length_toList,hsz];exact Nat.le_refl _)
  ·have key:=key i x hx
   refine ⟨[.int .u64 x],⟨rfl,key.2⟩,fun j v hj=>?_⟩
   cases j with
   | zero =>
    have hv:Value.int .u64 x=v:=Option.some.inj hj
    subst hv
    have h2:W.cell? ⟨0,i*1+0,none⟩=some (.int .u64 x):=by
     rw [Nat.mul_one,Nat.add_zero,hcell]
     simpa using key.1
    exact ⟨World.block_lt_of_cell? (w:=W) (a:=⟨0,i*1+0,none⟩) h2,h2⟩
   | succ j=>simp at hj
 ·rw [lk_ne _ _ hg] at hl
  cases hl
theorem door_met (os:Os) (args:Array Value):laidMetH Tryz.prog Rows.fieldPartsMatchReferenceRow.laid ((World.laidAll Tryz.prog os Rows.fieldPartsMatchReferenceRow.laid).forCall (fun _ _=>0) ⟨#[],args,[]⟩).memory:=by
 rw [MakeChecks.laidMetH_plain _ _ _ (by kernel_rfl)]
 exact laidMet_laidAll _ (by kernel_rfl) (by kernel_rfl)
end Go.Proofs.YtdgabicjcepmeaaGreatDoor
namespace Go.Proofs.YtdgabicjcepmeaaGreatDoor
open Go Go.Abs Go.PE
set_option maxRecDepth 100000
section
variable {S:Cells} {w:World} {η:Eta}
theorem zi (k:IntKind):CM S w η (.d (.int k) (0:Int)) (.int k 0):=⟨rfl,VRep.int.2 ⟨rfl,by unfold IntKind.has;cases k<;>decide⟩⟩
theorem zb:CM S w η (.d .bool false) (.bool false):=⟨rfl,VRep.bool.2 rfl⟩
theorem zs:CM S w η (.d .str ([]:List UInt8)) (.string ⟨#[]⟩):=⟨rfl,VRep.str.2 ⟨rfl,Nat.zero_le _⟩⟩
end
abbrev tI:Ty:=.int .i64
abbrev tF:TI:=⟨false,1,[.l .nilF],none,.fn⟩
theorem oF {P:Program} {k:TypeId} {a b c} (h1:∀ w,(isAgg k).run P w=.ok false w) (h2:∀ w,(Go.sizeOf k).run P w=.ok 1 w) (h3:∀ w,(zeroValue k).run P w=.ok .nilFunc w) (h4:∀ w,(underlying k).run P w=.ok (.func a b c) w):TIok P k tF :=
 ⟨h1,h2,⟨_,h3,⟨[Value.nilFunc],rfl,fun S w η=>.cons (rfl) (.nil)⟩,(fun T h=>by cases h)⟩,(fun T h=>by cases h),⟨_,_,_,h4⟩⟩
abbrev ty_api_Field:Ty:=.pair (.int .i64) (.pair (.int .i64) (.pair (.list (.int .i64)) (.list (.int .i64))))
abbrev ty_api_Place:Ty:=.pair (.int .i64) (.int .i64)
abbrev ty_api_Ratio:Ty:=.pair (.str) (.str)
abbrev ty_field_spot:Ty:=.pair (.int .i64) (.pair (.int .i64) (.int .i64))
abbrev ty_field_node:Ty:=.pair (.int .i64) (.int .i64)
abbrev ty_putlogref25_corner:Ty:=.pair (.int .i64) (.pair (.int .i64) (.int .i64))
abbrev ty_putlogref25_point:Ty:=.pair (.int .i64) (.pair (.int .i64) (.int .i64))
abbrev ty_rational_work:Ty:=.one (.bool)
abbrev ty_integer_signed:Ty:=.pair (.bool) (.list (.int .i64))
abbrev ty_putlogref25_line:Ty:=.pair (.int .i64) (.pair (.int .i64) (.int .i64))
abbrev ty_unicode_utf8_acceptRange:Ty:=.pair (.int .u8) (.int .u8)
abbrev ty_errors_errorString:Ty:=.one (.str)
abbrev t2:TI:=⟨false,1,[.d (.int .i64) (0:Int)],some (.int .i64),.int .i64⟩
abbrev t3:TI:=⟨false,1,[.d (.int .i64) (0:Int)],some (.int .i64),.int .i64⟩
abbrev t4:TI:=⟨false,1,[.d .bool false],some (.bool),.bool⟩
abbrev t5:TI:=⟨false,1,[.d (.int .u8) (0:Int)],some (.int .u8),.int .u8⟩
abbrev t7:TI:=⟨true,4,[.d (.int .i64) (0:Int),.d (.int .i64) (0:Int),.d .bool false,.d (.int .u8) (0:Int)],some (.pair (.int .i64) (.pair (.int .i64) (.pair (.bool) (.int .u8)))),.other⟩
abbrev t9:TI:=⟨false,1,[.d .str ([]:List UInt8)],some (.str),.str⟩
abbrev t12:TI:=⟨false,1,[.d (.int .u64) (0:Int)],some (.int .u64),.int .u64⟩
abbrev t13:TI:=⟨true,2,[.d .str ([]:List UInt8),.d (.int .u64) (0:Int)],some (.pair (.str) (.int .u64)),.struct [(0,9,1),(1,12,1)]⟩
abbrev t15:TI:=⟨false,1,[.l .nilP],none,.ptr 259⟩
abbrev t16:TI:=⟨false,1,[.l .nilP],none,.ptr 262⟩
abbrev t17:TI:=⟨false,1,[.l .nilP],none,.ptr 269⟩
abbrev t18:TI:=⟨true,1,[.l .nilP],none,.struct [(0,17,1)]⟩
abbrev t20:TI:=⟨false,1,[.l .nilI],none,.other⟩
abbrev t21:TI:=⟨false,1,[.d (.int .i32) (0:Int)],some (.int .i32),.int .i32⟩
abbrev t22:TI:=⟨true,4,[.d (.int .i64) (0:Int),.d (.int .i64) (0:Int),.d (.int .i64) (0:Int),.d (.int .i64) (0:Int)],some (.pair (.int .i64) (.pair (.int .i64) (.pair (.int .i64) (.int .i64)))),.array 4 3⟩
abbrev t23:TI:=⟨false,1,[.l .nilS],some (.list (.pair (.int .i64) (.int .i64))),.slice 58 16⟩
abbrev t24:TI:=⟨true,3,[.d (.int .i64) (0:Int),.d (.int .i64) (0:Int),.d (.int .i64) (0:Int)],some (.pair (.int .i64) (.pair (.int .i64) (.int .i64))),.array 3 3⟩
abbrev t25:TI:=⟨false,1,[.l .nilS],some (.list (.int .i64)),.slice 3 8⟩
abbrev t26:TI:=⟨true,4,[.d (.int .i64) (0:Int),.d (.int .i64) (0:Int),.l .nilS,.l .nilS],some (.pair (.int .i64) (.pair (.int .i64) (.pair (.list (.int .i64)) (.list (.int .i64))))),.struct [(0,3,1),(1,3,1),(2,25,1),(3,25,1)]⟩
abbrev t27:TI:=⟨true,4,[.d (.int .i64) (0:Int),.d (.int .i64) (0:Int),.l .nilS,.l .nilS],some (ty_api_Field),.struct [(0,3,1),(1,3,1),(2,25,1),(3,25,1)]⟩
abbrev t28:TI:=⟨false,1,[.l .nilS],some (.list (ty_api_Place)),.slice 48 16⟩
abbrev t32:TI:=⟨false,1,[.l .nilS],some (.list (ty_api_Field)),.slice 27 64⟩
abbrev t34:TI:=⟨false,1,[.l .nilS],some (.list (.list (ty_api_Place))),.slice 28 24⟩
abbrev t35:TI:=⟨true,2,[.d .str ([]:List UInt8),.d .str ([]:List UInt8)],some (.pair (.str) (.str)),.struct [(0,9,1),(1,9,1)]⟩
abbrev t36:TI:=⟨true,2,[.d .str ([]:List UInt8),.d .str ([]:List UInt8)],some (ty_api_Ratio),.struct [(0,9,1),(1,9,1)]⟩
abbrev t37:TI:=⟨false,1,[.d (.int .i64) (0:Int)],some (.int .i64),.int .i64⟩
abbrev t47:TI:=⟨true,2,[.d (.int .i64) (0:Int),.d (.int .i64) (0:Int)],some (.pair (.int .i64) (.int .i64)),.struct [(0,3,1),(1,3,1)]⟩
abbrev t48:TI:=⟨true,2,[.d (.int .i64) (0:Int),.d (.int .i64) (0:Int)],some (ty_api_Place),.struct [(0,3,1),(1,3,1)]⟩
abbrev t58:TI:=⟨true,2,[.d (.int .i64) (0:Int),.d (.int .i64) (0:Int)],some (.pair (.int .i64) (.int .i64)),.array 2 3⟩
abbrev t63:TI:=⟨false,1,[.l .nilS],some (.list (ty_field_spot)),.slice 65 24⟩
abbrev t64:TI:=⟨true,3,[.d (.int .i64) (0:Int),.d (.int .i64) (0:Int),.d (.int .i64) (0:Int)],some (.pair (.int .i64) (.pair (.int .i64) (.int .i64))),.struct [(0,3,1),(1,3,1),(2,3,1)]⟩
abbrev t65:TI:=⟨true,3,[.d (.int .i64) (0:Int),.d (.int .i64) (0:Int),.d (.int .i64) (0:Int)],some (ty_field_spot),.struct [(0,3,1),(1,3,1),(2,3,1)]⟩
abbrev t74:TI:=⟨true,2,[.d (.int .i64) (0:Int),.d (.int .i64) (0:Int)],some (.pair (.int .i64) (.int .i64)),.struct [(0,3,1),(1,3,1)]⟩
abbrev t75:TI:=⟨true,2,[.d (.int .i64) (0:Int),.d (.int .i64) (0:Int)],some (ty_field_node),.struct [(0,3,1),(1,3,1)]⟩
abbrev t76:TI:=⟨true,6,[.d (.int .i64) (0:Int),.d (.int .i64) (0:Int),.d (.int .i64) (0:Int),.d (.int .i64) (0:Int),.d (.int .i64) (0:Int),.d (.int .i64) (0:Int)],some (.pair (ty_field_node) (.pair (ty_field_node) (ty_field_node))),.array 3 75⟩
abbrev t105:TI:=⟨false,1,[.l .nilS],some (.list (.pair (ty_putlogref25_corner) (.pair (ty_putlogref25_corner) (ty_putlogref25_corner)))),.slice 109 72⟩
abbrev t107:TI:=⟨true,3,[.d (.int .i64) (0:Int),.d (.int .i64) (0:Int),.d (.int .i64) (0:Int)],some (.pair (.int .i64) (.pair (.int .i64) (.int .i64))),.struct [(0,3,1),(1,3,1),(2,3,1)]⟩
abbrev t108:TI:=⟨true,3,[.d (.int .i64) (0:Int),.d (.int .i64) (0:Int),.d (.int .i64) (0:Int)],some (ty_putlogref25_corner),.struct [(0,3,1),(1,3,1),(2,3,1)]⟩
abbrev t109:TI:=⟨true,9,[.d (.int .i64) (0:Int),.d (.int .i64) (0:Int),.d (.int .i64) (0:Int),.d (.int .i64) (0:Int),.d (.int .i64) (0:Int),.d (.int .i64) (0:Int),.d (.int .i64) (0:Int),.d (.int .i64) (0:Int),.d (.int .i64) (0:Int)],some (.pair (ty_putlogref25_corner) (.pair (ty_putlogref25_corner) (ty_putlogref25_corner))),.array 3 108⟩
abbrev t110:TI:=⟨false,1,[.l .nilS],some (.list (ty_putlogref25_point)),.slice 113 24⟩
abbrev t112:TI:=⟨true,3,[.d (.int .i64) (0:Int),.d (.int .i64) (0:Int),.d (.int .i64) (0:Int)],some (.pair (.int .i64) (.pair (.int .i64) (.int .i64))),.struct [(0,3,1),(1,3,1),(2,3,1)]⟩
abbrev t113:TI:=⟨true,3,[.d (.int .i64) (0:Int),.d (.int .i64) (0:Int),.d (.int .i64) (0:Int)],some (ty_putlogref25_point),.struct [(0,3,1),(1,3,1),(2,3,1)]⟩
abbrev t118:TI:=⟨false,1,[.d (.int .u64) (0:Int)],some (.int .u64),.int .u64⟩
abbrev t119:TI:=⟨false,1,[.l .nilP],none,.ptr 122⟩
abbrev t121:TI:=⟨true,1,[.d .bool false],some (.one (.bool)),.struct [(0,4,1)]⟩
abbrev t122:TI:=⟨true,1,[.d .bool false],some (ty_rational_work),.struct [(0,4,1)]⟩
abbrev t126:TI:=⟨false,1,[.l .nilS],some (.list (.int .i64)),.slice 3 8⟩
abbrev t127:TI:=⟨true,2,[.d .bool false,.l .nilS],some (.pair (.bool) (.list (.int .i64))),.struct [(0,4,1),(1,126,1)]⟩
abbrev t128:TI:=⟨true,2,[.d .bool false,.l .nilS],some (ty_integer_signed),.struct [(0,4,1),(1,126,1)]⟩
abbrev t135:TI:=⟨false,1,[.l .nilS],some (.list (ty_putlogref25_line)),.slice 137 24⟩
abbrev t136:TI:=⟨true,3,[.d (.int .i64) (0:Int),.d (.int .i64) (0:Int),.d (.int .i64) (0:Int)],some (.pair (.int .i64) (.pair (.int .i64) (.int .i64))),.struct [(0,3,1),(1,3,1),(2,3,1)]⟩
abbrev t137:TI:=⟨true,3,[.d (.int .i64) (0:Int),.d (.int .i64) (0:Int),.d (.int .i64) (0:Int)],some (ty_putlogref25_line),.struct [(0,3,1),(1,3,1),(2,3,1)]⟩
abbrev t156:TI:=⟨false,1,[.l .nilS],some (.list (ty_api_Ratio)),.slice 36 32⟩
abbrev t160:TI:=⟨false,1,[.l .nilP],none,.ptr 163⟩
abbrev t161:TI:=⟨false,1,[.l .nilS],some (.list (.int .u8)),.slice 5 1⟩
abbrev t162:TI:=⟨true,2,[.l .nilP,.l .nilS],none,.struct [(0,160,1),(1,161,1)]⟩
abbrev t168:TI:=⟨false,1,[.l .nilI],none,.other⟩
abbrev t169:TI:=⟨false,1,[.l .nilI],none,.other⟩
def tyTab:List (TypeId×TI):=[(1,tF),(2,t2),(3,t3),(4,t4),(5,t5),(7,t7),(9,t9),(12,t12),(13,t13),(15,t15),(16,t16),(17,t17),(18,t18),(20,t20),(21,t21),(22,t22),(23,t23),(24,t24),(25,t25),(26,t26),(27,t27),(28,t28),(32,t32),(34,t34),(35,t35),(36,t36),(37,t37),(47,t47),(48,t48),(58,t58),(60,tF),(63,t63),(64,t64),(65,t65),(68,tF),(72,tF),(74,t74),(75,t75),(76,t76),(79,tF),(81,tF),(84,tF),(88,tF),(91,tF),(99,tF),(100,tF),(103,tF),(105,t105),(107,t107),(108,t108),(109,t109),(110,t110),(112,t112),(113,t113),(118,t118),(119,t119),(121,t121),(122,t122),(126,t126),(127,t127),(128,t128),(135,t135),(136,t136),(137,t137),(147,tF),(156,t156),(160,t160),(161,t161),(162,t162),(165,tF),(168,t168),(169,t169),(188,tF),(194,tF),(212,tF)]
theorem ti2:TIok Tryz.prog 2 t2 :=
 ⟨Tryz.isAgg2,Tryz.sizeOf2,⟨_,Tryz.zeroValue2,⟨[Value.int IntKind.i64 0],rfl,fun S w η=>.cons (zi _) (.nil)⟩,(fun T h=>by cases h;rfl)⟩,(fun T h=>by cases h;exact ⟨rfl,rfl⟩),Tryz.runUnderlying2⟩
theorem ti3:TIok Tryz.prog 3 t3 :=
 ⟨Tryz.isAgg3,Tryz.sizeOf3,⟨_,Tryz.zeroValue3,⟨[Value.int IntKind.i64 0],rfl,fun S w η=>.cons (zi _) (.nil)⟩,(fun T h=>by cases h;rfl)⟩,(fun T h=>by cases h;exact ⟨rfl,rfl⟩),Tryz.runUnderlying3⟩
theorem ti4:TIok Tryz.prog 4 t4 :=
 ⟨Tryz.isAgg4,Tryz.sizeOf4,⟨_,Tryz.zeroValue4,⟨[Value.bool false],rfl,fun S w η=>.cons (zb) (.nil)⟩,(fun T h=>by cases h;rfl)⟩,(fun T h=>by cases h;exact ⟨rfl,rfl⟩),Tryz.runUnderlying4⟩
theorem ti5:TIok Tryz.prog 5 t5 :=
 ⟨Tryz.isAgg5,Tryz.sizeOf5,⟨_,Tryz.zeroValue5,⟨[Value.int IntKind.u8 0],rfl,fun S w η=>.cons (zi _) (.nil)⟩,(fun T h=>by cases h;rfl)⟩,(fun T h=>by cases h;exact ⟨rfl,rfl⟩),Tryz.runUnderlying5⟩
theorem ti7:TIok Tryz.prog 7 t7 :=
 ⟨Tryz.isAgg7,Tryz.sizeOf7,⟨_,Tryz.zeroValue7,⟨[Value.int IntKind.i64 0,Value.int IntKind.i64 0,Value.bool false,Value.int IntKind.u8 0],rfl,fun S w η=>.cons (zi _) (.cons (zi _) (.cons (zb) (.cons (zi _) (.nil))))⟩,(fun T h=>by cases h;rfl)⟩,(fun T h=>by cases h;exact ⟨rfl,rfl⟩),trivial⟩
theorem ti9:TIok Tryz.prog 9 t9 :=
 ⟨Tryz.isAgg9,Tryz.sizeOf9,⟨_,Tryz.zeroValue9,⟨[Value.string ⟨#[]⟩],rfl,fun S w η=>.cons (zs) (.nil)⟩,(fun T h=>by cases h;rfl)⟩,(fun T h=>by cases h;exact ⟨rfl,rfl⟩),Tryz.runUnderlying9⟩
theorem ti12:TIok Tryz.prog 12 t12 :=
 ⟨Tryz.isAgg12,Tryz.sizeOf12,⟨_,Tryz.zeroValue12,⟨[Value.int IntKind.u64 0],rfl,fun S w η=>.cons (zi _) (.nil)⟩,(fun T h=>by cases h;rfl)⟩,(fun T h=>by cases h;exact ⟨rfl,rfl⟩),Tryz.runUnderlying12⟩
theorem ti13:TIok Tryz.prog 13 t13 :=
 ⟨Tryz.isAgg13,Tryz.sizeOf13,⟨_,Tryz.zeroValue13,⟨[Value.string ⟨#[]⟩,Value.int IntKind.u64 0],rfl,fun S w η=>.cons (zs) (.cons (zi _) (.nil))⟩,(fun T h=>by cases h;rfl)⟩,(fun T h=>by cases h;exact ⟨rfl,rfl⟩),⟨_,Tryz.runUnderlying13,rfl,fun w=>by simp [Tryz.sizeOf12,Tryz.sizeOf9]⟩⟩
theorem ti15:TIok Tryz.prog 15 t15 :=
 ⟨Tryz.isAgg15,Tryz.sizeOf15,⟨_,Tryz.zeroValue15,⟨[Value.pointer none],rfl,fun S w η=>.cons (rfl) (.nil)⟩,(fun T h=>by cases h)⟩,(fun T h=>by cases h),Tryz.runUnderlying15⟩
theorem ti16:TIok Tryz.prog 16 t16 :=
 ⟨Tryz.isAgg16,Tryz.sizeOf16,⟨_,Tryz.zeroValue16,⟨[Value.pointer none],rfl,fun S w η=>.cons (rfl) (.nil)⟩,(fun T h=>by cases h)⟩,(fun T h=>by cases h),Tryz.runUnderlying16⟩
theorem ti17:TIok Tryz.prog 17 t17 :=
 ⟨Tryz.isAgg17,Tryz.sizeOf17,⟨_,Tryz.zeroValue17,⟨[Value.pointer none],rfl,fun S w η=>.cons (rfl) (.nil)⟩,(fun T h=>by cases h)⟩,(fun T h=>by cases h),Tryz.runUnderlying17⟩
theorem ti18:TIok Tryz.prog 18 t18 :=
 ⟨Tryz.isAgg18,Tryz.sizeOf18,⟨_,Tryz.zeroValue18,⟨[Value.pointer none],rfl,fun S w η=>.cons (rfl) (.nil)⟩,(fun T h=>by cases h)⟩,(fun T h=>by cases h),⟨_,Tryz.runUnderlying18,rfl,fun w=>by simp [Tryz.sizeOf17]⟩⟩
theorem ti20:TIok Tryz.prog 20 t20 :=
 ⟨Tryz.isAgg20,Tryz.sizeOf20,⟨_,Tryz.zeroValue20,⟨[Value.nilIface],rfl,fun S w η=>.cons (rfl) (.nil)⟩,(fun T h=>by cases h)⟩,(fun T h=>by cases h),trivial⟩
theorem ti21:TIok Tryz.prog 21 t21 :=
 ⟨Tryz.isAgg21,Tryz.sizeOf21,⟨_,Tryz.zeroValue21,⟨[Value.int IntKind.i32 0],rfl,fun S w η=>.cons (zi _) (.nil)⟩,(fun T h=>by cases h;rfl)⟩,(fun T h=>by cases h;exact ⟨rfl,rfl⟩),Tryz.runUnderlying21⟩
theorem ti22:TIok Tryz.prog 22 t22 :=
 ⟨Tryz.isAgg22,Tryz.sizeOf22,⟨_,Tryz.zeroValue22,⟨[Value.int IntKind.i64 0,Value.int IntKind.i64 0,Value.int IntKind.i64 0,Value.int IntKind.i64 0],rfl,fun S w η=>.cons (zi _) (.cons (zi _) (.cons (zi _) (.cons (zi _) (.nil))))⟩,(fun T h=>by cases h;rfl)⟩,(fun T h=>by cases h;exact ⟨rfl,rfl⟩),Tryz.runUnderlying22⟩
theorem ti23:TIok Tryz.prog 23 t23 :=
 ⟨Tryz.isAgg23,Tryz.sizeOf23,⟨_,Tryz.zeroValue23,⟨[Value.slice none 0 0],rfl,fun S w η=>.cons (rfl) (.nil)⟩,(fun T h=>by cases h;rfl)⟩,(fun T h=>by cases h;exact ⟨rfl,rfl⟩),⟨Tryz.underlying23,by decide,Tryz.t58,_,rfl,rfl,rfl,Tryz.zeroValue58,Tryz.sizeOf58⟩⟩
theorem ti24:TIok Tryz.prog 24 t24 :=
 ⟨Tryz.isAgg24,Tryz.sizeOf24,⟨_,Tryz.zeroValue24,⟨[Value.int IntKind.i64 0,Value.int IntKind.i64 0,Value.int IntKind.i64 0],rfl,fun S w η=>.cons (zi _) (.cons (zi _) (.cons (zi _) (.nil)))⟩,(fun T h=>by cases h;rfl)⟩,(fun T h=>by cases h;exact ⟨rfl,rfl⟩),Tryz.runUnderlying24⟩
theorem ti25:TIok Tryz.prog 25 t25 :=
 ⟨Tryz.isAgg25,Tryz.sizeOf25,⟨_,Tryz.zeroValue25,⟨[Value.slice none 0 0],rfl,fun S w η=>.cons (rfl) (.nil)⟩,(fun T h=>by cases h;rfl)⟩,(fun T h=>by cases h;exact ⟨rfl,rfl⟩),⟨Tryz.underlying25,by decide,Tryz.t3,_,rfl,rfl,rfl,Tryz.zeroValue3,Tryz.sizeOf3⟩⟩
theorem ti26:TIok Tryz.prog 26 t26 :=
 ⟨Tryz.isAgg26,Tryz.sizeOf26,⟨_,Tryz.zeroValue26,⟨[Value.int IntKind.i64 0,Value.int IntKind.i64 0,Value.slice none 0 0,Value.slice none 0 0],rfl,fun S w η=>.cons (zi _) (.cons (zi _) (.cons (rfl) (.cons (rfl) (.nil))))⟩,(fun T h=>by cases h;rfl)⟩,(fun T h=>by cases h;exact ⟨rfl,rfl⟩),⟨_,Tryz.runUnderlying26,rfl,fun w=>by simp [Tryz.sizeOf25,Tryz.sizeOf3]⟩⟩
theorem ti27:TIok Tryz.prog 27 t27 :=
 ⟨Tryz.isAgg27,Tryz.sizeOf27,⟨_,Tryz.zeroValue27,⟨[Value.int IntKind.i64 0,Value.int IntKind.i64 0,Value.slice none 0 0,Value.slice none 0 0],rfl,fun S w η=>.cons (zi _) (.cons (zi _) (.cons (rfl) (.cons (rfl) (.nil))))⟩,(fun T h=>by cases h;rfl)⟩,(fun T h=>by cases h;exact ⟨rfl,rfl⟩),⟨_,Tryz.runUnderlying27,rfl,fun w=>by simp [Tryz.sizeOf25,Tryz.sizeOf3]⟩⟩
theorem ti28:TIok Tryz.prog 28 t28 :=
 ⟨Tryz.isAgg28,Tryz.sizeOf28,⟨_,Tryz.zeroValue28,⟨[Value.slice none 0 0],rfl,fun S w η=>.cons (rfl) (.nil)⟩,(fun T h=>by cases h;rfl)⟩,(fun T h=>by cases h;exact ⟨rfl,rfl⟩),⟨Tryz.underlying28,by decide,Tryz.t48,_,rfl,rfl,rfl,Tryz.zeroValue48,Tryz.sizeOf48⟩⟩
theorem ti32:TIok Tryz.prog 32 t32 :=
 ⟨Tryz.isAgg32,Tryz.sizeOf32,⟨_,Tryz.zeroValue32,⟨[Value.slice none 0 0],rfl,fun S w η=>.cons (rfl) (.nil)⟩,(fun T h=>by cases h;rfl)⟩,(fun T h=>by cases h;exact ⟨rfl,rfl⟩),⟨Tryz.underlying32,by decide,Tryz.t27,_,rfl,rfl,rfl,Tryz.zeroValue27,Tryz.sizeOf27⟩⟩
theorem ti34:TIok Tryz.prog 34 t34 :=
 ⟨Tryz.isAgg34,Tryz.sizeOf34,⟨_,Tryz.zeroValue34,⟨[Value.slice none 0 0],rfl,fun S w η=>.cons (rfl) (.nil)⟩,(fun T h=>by cases h;rfl)⟩,(fun T h=>by cases h;exact ⟨rfl,rfl⟩),⟨Tryz.underlying34,by decide,Tryz.t28,_,rfl,rfl,rfl,Tryz.zeroValue28,Tryz.sizeOf28⟩⟩
theorem ti35:TIok Tryz.prog 35 t35 :=
 ⟨Tryz.isAgg35,Tryz.sizeOf35,⟨_,Tryz.zeroValue35,⟨[Value.string ⟨#[]⟩,Value.string ⟨#[]⟩],rfl,fun S w η=>.cons (zs) (.cons (zs) (.nil))⟩,(fun T h=>by cases h;rfl)⟩,(fun T h=>by cases h;exact ⟨rfl,rfl⟩),⟨_,Tryz.runUnderlying35,rfl,fun w=>by simp [Tryz.sizeOf9]⟩⟩
theorem ti36:TIok Tryz.prog 36 t36 :=
 ⟨Tryz.isAgg36,Tryz.sizeOf36,⟨_,Tryz.zeroValue36,⟨[Value.string ⟨#[]⟩,Value.string ⟨#[]⟩],rfl,fun S w η=>.cons (zs) (.cons (zs) (.nil))⟩,(fun T h=>by cases h;rfl)⟩,(fun T h=>by cases h;exact ⟨rfl,rfl⟩),⟨_,Tryz.runUnderlying36,rfl,fun w=>by simp [Tryz.sizeOf9]⟩⟩
theorem ti37:TIok Tryz.prog 37 t37 :=
 ⟨Tryz.isAgg37,Tryz.sizeOf37,⟨_,Tryz.zeroValue37,⟨[Value.int IntKind.i64 0],rfl,fun S w η=>.cons (zi _) (.nil)⟩,(fun T h=>by cases h;rfl)⟩,(fun T h=>by cases h;exact ⟨rfl,rfl⟩),Tryz.runUnderlying37⟩
theorem ti47:TIok Tryz.prog 47 t47 :=
 ⟨Tryz.isAgg47,Tryz.sizeOf47,⟨_,Tryz.zeroValue47,⟨[Value.int IntKind.i64 0,Value.int IntKind.i64 0],rfl,fun S w η=>.cons (zi _) (.cons (zi _) (.nil))⟩,(fun T h=>by cases h;rfl)⟩,(fun T h=>by cases h;exact ⟨rfl,rfl⟩),⟨_,Tryz.runUnderlying47,rfl,fun w=>by simp [Tryz.sizeOf3]⟩⟩
theorem ti48:TIok Tryz.prog 48 t48 :=
 ⟨Tryz.isAgg48,Tryz.sizeOf48,⟨_,Tryz.zeroValue48,⟨[Value.int IntKind.i64 0,Value.int IntKind.i64 0],rfl,fun S w η=>.cons (zi _) (.cons (zi _) (.nil))⟩,(fun T h=>by cases h;rfl)⟩,(fun T h=>by cases h;exact ⟨rfl,rfl⟩),⟨_,Tryz.runUnderlying48,rfl,fun w=>by simp [Tryz.sizeOf3]⟩⟩
theorem ti58:TIok Tryz.prog 58 t58 :=
 ⟨Tryz.isAgg58,Tryz.sizeOf58,⟨_,Tryz.zeroValue58,⟨[Value.int IntKind.i64 0,Value.int IntKind.i64 0],rfl,fun S w η=>.cons (zi _) (.cons (zi _) (.nil))⟩,(fun T h=>by cases h;rfl)⟩,(fun T h=>by cases h;exact ⟨rfl,rfl⟩),Tryz.runUnderlying58⟩
theorem ti63:TIok Tryz.prog 63 t63 :=
 ⟨Tryz.isAgg63,Tryz.sizeOf63,⟨_,Tryz.zeroValue63,⟨[Value.slice none 0 0],rfl,fun S w η=>.cons (rfl) (.nil)⟩,(fun T h=>by cases h;rfl)⟩,(fun T h=>by cases h;exact ⟨rfl,rfl⟩),⟨Tryz.underlying63,by decide,Tryz.t65,_,rfl,rfl,rfl,Tryz.zeroValue65,Tryz.sizeOf65⟩⟩
theorem ti64:TIok Tryz.prog 64 t64 :=
 ⟨Tryz.isAgg64,Tryz.sizeOf64,⟨_,Tryz.zeroValue64,⟨[Value.int IntKind.i64 0,Value.int IntKind.i64 0,Value.int IntKind.i64 0],rfl,fun S w η=>.cons (zi _) (.cons (zi _) (.cons (zi _) (.nil)))⟩,(fun T h=>by cases h;rfl)⟩,(fun T h=>by cases h;exact ⟨rfl,rfl⟩),⟨_,Tryz.runUnderlying64,rfl,fun w=>by simp [Tryz.sizeOf3]⟩⟩
theorem ti65:TIok Tryz.prog 65 t65 :=
 ⟨Tryz.isAgg65,Tryz.sizeOf65,⟨_,Tryz.zeroValue65,⟨[Value.int IntKind.i64 0,Value.int IntKind.i64 0,Value.int IntKind.i64 0],rfl,fun S w η=>.cons (zi _) (.cons (zi _) (.cons (zi _) (.nil)))⟩,(fun T h=>by cases h;rfl)⟩,(fun T h=>by cases h;exact ⟨rfl,rfl⟩),⟨_,Tryz.runUnderlying65,rfl,fun w=>by simp [Tryz.sizeOf3]⟩⟩
theorem ti74:TIok Tryz.prog 74 t74 :=
 ⟨Tryz.isAgg74,Tryz.sizeOf74,⟨_,Tryz.zeroValue74,⟨[Value.int IntKind.i64 0,Value.int IntKind.i64 0],rfl,fun S w η=>.cons (zi _) (.cons (zi _) (.nil))⟩,(fun T h=>by cases h;rfl)⟩,(fun T h=>by cases h;exact ⟨rfl,rfl⟩),⟨_,Tryz.runUnderlying74,rfl,fun w=>by simp [Tryz.sizeOf3]⟩⟩
theorem ti75:TIok Tryz.prog 75 t75 :=
 ⟨Tryz.isAgg75,Tryz.sizeOf75,⟨_,Tryz.zeroValue75,⟨[Value.int IntKind.i64 0,Value.int IntKind.i64 0],rfl,fun S w η=>.cons (zi _) (.cons (zi _) (.nil))⟩,(fun T h=>by cases h;rfl)⟩,(fun T h=>by cases h;exact ⟨rfl,rfl⟩),⟨_,Tryz.runUnderlying75,rfl,fun w=>by simp [Tryz.sizeOf3]⟩⟩
theorem ti76:TIok Tryz.prog 76 t76 :=
 ⟨Tryz.isAgg76,Tryz.sizeOf76,⟨_,Tryz.zeroValue76,⟨[Value.int IntKind.i64 0,Value.int IntKind.i64 0,Value.int IntKind.i64 0,Value.int IntKind.i64 0,Value.int IntKind.i64 0,Value.int IntKind.i64 0],rfl,fun S w η=>.cons (zi _) (.cons (zi _) (.cons (zi _) (.cons (zi _) (.cons (zi _) (.cons (zi _) (.nil))))))⟩,(fun T h=>by cases h;rfl)⟩,(fun T h=>by cases h;exact ⟨rfl,rfl⟩),Tryz.runUnderlying76⟩
theorem ti105:TIok Tryz.prog 105 t105 :=
 ⟨Tryz.isAgg105,Tryz.sizeOf105,⟨_,Tryz.zeroValue105,⟨[Value.slice none 0 0],rfl,fun S w η=>.cons (rfl) (.nil)⟩,(fun T h=>by cases h;rfl)⟩,(fun T h=>by cases h;exact ⟨rfl,rfl⟩),⟨Tryz.underlying105,by decide,Tryz.t109,_,rfl,rfl,rfl,Tryz.zeroValue109,Tryz.sizeOf109⟩⟩
theorem ti107:TIok Tryz.prog 107 t107 :=
 ⟨Tryz.isAgg107,Tryz.sizeOf107,⟨_,Tryz.zeroValue107,⟨[Value.int IntKind.i64 0,Value.int IntKind.i64 0,Value.int IntKind.i64 0],rfl,fun S w η=>.cons (zi _) (.cons (zi _) (.cons (zi _) (.nil)))⟩,(fun T h=>by cases h;rfl)⟩,(fun T h=>by cases h;exact ⟨rfl,rfl⟩),⟨_,Tryz.runUnderlying107,rfl,fun w=>by simp [Tryz.sizeOf3]⟩⟩
theorem ti108:TIok Tryz.prog 108 t108 :=
 ⟨Tryz.isAgg108,Tryz.sizeOf108,⟨_,Tryz.zeroValue108,⟨[Value.int IntKind.i64 0,Value.int IntKind.i64 0,Value.int IntKind.i64 0],rfl,fun S w η=>.cons (zi _) (.cons (zi _) (.cons (zi _) (.nil)))⟩,(fun T h=>by cases h;rfl)⟩,(fun T h=>by cases h;exact ⟨rfl,rfl⟩),⟨_,Tryz.runUnderlying108,rfl,fun w=>by simp [Tryz.sizeOf3]⟩⟩
theorem ti109:TIok Tryz.prog 109 t109 :=
 ⟨Tryz.isAgg109,Tryz.sizeOf109,⟨_,Tryz.zeroValue109,⟨[Value.int IntKind.i64 0,Value.int IntKind.i64 0,Value.int IntKind.i64 0,Value.int IntKind.i64 0,Value.int IntKind.i64 0,Value.int IntKind.i64 0,Value.int IntKind.i64 0,Value.int IntKind.i64 0,Value.int IntKind.i64 0],rfl,fun S w η=>.cons (zi _) (.cons (zi _) (.cons (zi _) (.cons (zi _) (.cons (zi _) (.cons (zi _) (.cons (zi _) (.cons (zi _) (.cons (zi _) (.nil)))))))))⟩,(fun T h=>by cases h;rfl)⟩,(fun T h=>by cases h;exact ⟨rfl,rfl⟩),Tryz.runUnderlying109⟩
theorem ti110:TIok Tryz.prog 110 t110 :=
 ⟨Tryz.isAgg110,Tryz.sizeOf110,⟨_,Tryz.zeroValue110,⟨[Value.slice none 0 0],rfl,fun S w η=>.cons (rfl) (.nil)⟩,(fun T h=>by cases h;rfl)⟩,(fun T h=>by cases h;exact ⟨rfl,rfl⟩),⟨Tryz.underlying110,by decide,Tryz.t113,_,rfl,rfl,rfl,Tryz.zeroValue113,Tryz.sizeOf113⟩⟩
theorem ti112:TIok Tryz.prog 112 t112 :=
 ⟨Tryz.isAgg112,Tryz.sizeOf112,⟨_,Tryz.zeroValue112,⟨[Value.int IntKind.i64 0,Value.int IntKind.i64 0,Value.int IntKind.i64 0],rfl,fun S w η=>.cons (zi _) (.cons (zi _) (.cons (zi _) (.nil)))⟩,(fun T h=>by cases h;rfl)⟩,(fun T h=>by cases h;exact ⟨rfl,rfl⟩),⟨_,Tryz.runUnderlying112,rfl,fun w=>by simp [Tryz.sizeOf3]⟩⟩
theorem ti113:TIok Tryz.prog 113 t113 :=
 ⟨Tryz.isAgg113,Tryz.sizeOf113,⟨_,Tryz.zeroValue113,⟨[Value.int IntKind.i64 0,Value.int IntKind.i64 0,Value.int IntKind.i64 0],rfl,fun S w η=>.cons (zi _) (.cons (zi _) (.cons (zi _) (.nil)))⟩,(fun T h=>by cases h;rfl)⟩,(fun T h=>by cases h;exact ⟨rfl,rfl⟩),⟨_,Tryz.runUnderlying113,rfl,fun w=>by simp [Tryz.sizeOf3]⟩⟩
theorem ti118:TIok Tryz.prog 118 t118 :=
 ⟨Tryz.isAgg118,Tryz.sizeOf118,⟨_,Tryz.zeroValue118,⟨[Value.int IntKind.u64 0],rfl,fun S w η=>.cons (zi _) (.nil)⟩,(fun T h=>by cases h;rfl)⟩,(fun T h=>by cases h;exact ⟨rfl,rfl⟩),Tryz.runUnderlying118⟩
theorem ti119:TIok Tryz.prog 119 t119 :=
 ⟨Tryz.isAgg119,Tryz.sizeOf119,⟨_,Tryz.zeroValue119,⟨[Value.pointer none],rfl,fun S w η=>.cons (rfl) (.nil)⟩,(fun T h=>by cases h)⟩,(fun T h=>by cases h),Tryz.runUnderlying119⟩
theorem ti121:TIok Tryz.prog 121 t121 :=
 ⟨Tryz.isAgg121,Tryz.sizeOf121,⟨_,Tryz.zeroValue121,⟨[Value.bool false],rfl,fun S w η=>.cons (zb) (.nil)⟩,(fun T h=>by cases h;rfl)⟩,(fun T h=>by cases h;exact ⟨rfl,rfl⟩),⟨_,Tryz.runUnderlying121,rfl,fun w=>by simp [Tryz.sizeOf4]⟩⟩
theorem ti122:TIok Tryz.prog 122 t122 :=
 ⟨Tryz.isAgg122,Tryz.sizeOf122,⟨_,Tryz.zeroValue122,⟨[Value.bool false],rfl,fun S w η=>.cons (zb) (.nil)⟩,(fun T h=>by cases h;rfl)⟩,(fun T h=>by cases h;exact ⟨rfl,rfl⟩),⟨_,Tryz.runUnderlying122,rfl,fun w=>by simp [Tryz.sizeOf4]⟩⟩
theorem ti126:TIok Tryz.prog 126 t126 :=
 ⟨Tryz.isAgg126,Tryz.sizeOf126,⟨_,Tryz.zeroValue126,⟨[Value.slice none 0 0],rfl,fun S w η=>.cons (rfl) (.nil)⟩,(fun T h=>by cases h;rfl)⟩,(fun T h=>by cases h;exact ⟨rfl,rfl⟩),⟨Tryz.underlying126,by decide,Tryz.t3,_,rfl,rfl,rfl,Tryz.zeroValue3,Tryz.sizeOf3⟩⟩
theorem ti127:TIok Tryz.prog 127 t127 :=
 ⟨Tryz.isAgg127,Tryz.sizeOf127,⟨_,Tryz.zeroValue127,⟨[Value.bool false,Value.slice none 0 0],rfl,fun S w η=>.cons (zb) (.cons (rfl) (.nil))⟩,(fun T h=>by cases h;rfl)⟩,(fun T h=>by cases h;exact ⟨rfl,rfl⟩),⟨_,Tryz.runUnderlying127,rfl,fun w=>by simp [Tryz.sizeOf126,Tryz.sizeOf4]⟩⟩
theorem ti128:TIok Tryz.prog 128 t128 :=
 ⟨Tryz.isAgg128,Tryz.sizeOf128,⟨_,Tryz.zeroValue128,⟨[Value.bool false,Value.slice none 0 0],rfl,fun S w η=>.cons (zb) (.cons (rfl) (.nil))⟩,(fun T h=>by cases h;rfl)⟩,(fun T h=>by cases h;exact ⟨rfl,rfl⟩),⟨_,Tryz.runUnderlying128,rfl,fun w=>by simp [Tryz.sizeOf126,Tryz.sizeOf4]⟩⟩
theorem ti135:TIok Tryz.prog 135 t135 :=
 ⟨Tryz.isAgg135,Tryz.sizeOf135,⟨_,Tryz.zeroValue135,⟨[Value.slice none 0 0],rfl,fun S w η=>.cons (rfl) (.nil)⟩,(fun T h=>by cases h;rfl)⟩,(fun T h=>by cases h;exact ⟨rfl,rfl⟩),⟨Tryz.underlying135,by decide,Tryz.t137,_,rfl,rfl,rfl,Tryz.zeroValue137,Tryz.sizeOf137⟩⟩
theorem ti136:TIok Tryz.prog 136 t136 :=
 ⟨Tryz.isAgg136,Tryz.sizeOf136,⟨_,Tryz.zeroValue136,⟨[Value.int IntKind.i64 0,Value.int IntKind.i64 0,Value.int IntKind.i64 0],rfl,fun S w η=>.cons (zi _) (.cons (zi _) (.cons (zi _) (.nil)))⟩,(fun T h=>by cases h;rfl)⟩,(fun T h=>by cases h;exact ⟨rfl,rfl⟩),⟨_,Tryz.runUnderlying136,rfl,fun w=>by simp [Tryz.sizeOf3]⟩⟩
theorem ti137:TIok Tryz.prog 137 t137 :=
 ⟨Tryz.isAgg137,Tryz.sizeOf137,⟨_,Tryz.zeroValue137,⟨[Value.int IntKind.i64 0,Value.int IntKind.i64 0,Value.int IntKind.i64 0],rfl,fun S w η=>.cons (zi _) (.cons (zi _) (.cons (zi _) (.nil)))⟩,(fun T h=>by cases h;rfl)⟩,(fun T h=>by cases h;exact ⟨rfl,rfl⟩),⟨_,Tryz.runUnderlying137,rfl,fun w=>by simp [Tryz.sizeOf3]⟩⟩
theorem ti156:TIok Tryz.prog 156 t156 :=
 ⟨Tryz.isAgg156,Tryz.sizeOf156,⟨_,Tryz.zeroValue156,⟨[Value.slice none 0 0],rfl,fun S w η=>.cons (rfl) (.nil)⟩,(fun T h=>by cases h;rfl)⟩,(fun T h=>by cases h;exact ⟨rfl,rfl⟩),⟨Tryz.underlying156,by decide,Tryz.t36,_,rfl,rfl,rfl,Tryz.zeroValue36,Tryz.sizeOf36⟩⟩
theorem ti160:TIok Tryz.prog 160 t160 :=
 ⟨Tryz.isAgg160,Tryz.sizeOf160,⟨_,Tryz.zeroValue160,⟨[Value.pointer none],rfl,fun S w η=>.cons (rfl) (.nil)⟩,(fun T h=>by cases h)⟩,(fun T h=>by cases h),Tryz.runUnderlying160⟩
theorem ti161:TIok Tryz.prog 161 t161 :=
 ⟨Tryz.isAgg161,Tryz.sizeOf161,⟨_,Tryz.zeroValue161,⟨[Value.slice none 0 0],rfl,fun S w η=>.cons (rfl) (.nil)⟩,(fun T h=>by cases h;rfl)⟩,(fun T h=>by cases h;exact ⟨rfl,rfl⟩),⟨Tryz.underlying161,by decide,Tryz.t5,_,rfl,rfl,rfl,Tryz.zeroValue5,Tryz.sizeOf5⟩⟩
theorem ti162:TIok Tryz.prog 162 t162 :=
 ⟨Tryz.isAgg162,Tryz.sizeOf162,⟨_,Tryz.zeroValue162,⟨[Value.pointer none,Value.slice none 0 0],rfl,fun S w η=>.cons (rfl) (.cons (rfl) (.nil))⟩,(fun T h=>by cases h)⟩,(fun T h=>by cases h),⟨_,Tryz.runUnderlying162,rfl,fun w=>by simp [Tryz.sizeOf160,Tryz.sizeOf161]⟩⟩
theorem ti168:TIok Tryz.prog 168 t168 :=
 ⟨Tryz.isAgg168,Tryz.sizeOf168,⟨_,Tryz.zeroValue168,⟨[Value.nilIface],rfl,fun S w η=>.cons (rfl) (.nil)⟩,(fun T h=>by cases h)⟩,(fun T h=>by cases h),trivial⟩
theorem ti169:TIok Tryz.prog 169 t169 :=
 ⟨Tryz.isAgg169,Tryz.sizeOf169,⟨_,Tryz.zeroValue169,⟨[Value.nilIface],rfl,fun S w η=>.cons (rfl) (.nil)⟩,(fun T h=>by cases h)⟩,(fun T h=>by cases h),trivial⟩
theorem tyOK:∀ id ti,lk tyTab id=some ti→TIok Tryz.prog id ti:=by
 unfold tyTab
 exact lk_all (oF Tryz.isAgg1 Tryz.sizeOf1 Tryz.zeroValue1 Tryz.runUnderlying1) <| lk_all ti2 <| lk_all ti3 <| lk_all ti4 <| lk_all ti5 <| lk_all ti7 <| lk_all ti9 <| lk_all ti12 <| lk_all ti13 <| lk_all ti15 <| lk_all ti16 <| lk_all ti17 <| lk_all ti18 <| lk_all ti20 <| lk_all ti21 <| lk_all ti22 <| lk_all ti23 <| lk_all ti24 <| lk_all ti25 <| lk_all ti26 <| lk_all ti27 <| lk_all ti28 <| lk_all ti32 <| lk_all ti34 <| lk_all ti35 <| lk_all ti36 <| lk_all ti37 <| lk_all ti47 <| lk_all ti48 <| lk_all ti58 <| lk_all (oF Tryz.isAgg60 Tryz.sizeOf60 Tryz.zeroValue60 Tryz.runUnderlying60) <| lk_all ti63 <| lk_all ti64 <| lk_all ti65 <| lk_all (oF Tryz.isAgg68 Tryz.sizeOf68 Tryz.zeroValue68 Tryz.runUnderlying68) <| lk_all (oF Tryz.isAgg72 Tryz.sizeOf72 Tryz.zeroValue72 Tryz.runUnderlying72) <| lk_all ti74 <| lk_all ti75 <| lk_all ti76 <| lk_all (oF Tryz.isAgg79 Tryz.sizeOf79 Tryz.zeroValue79 Tryz.runUnderlying79) <| lk_all (oF Tryz.isAgg81 Tryz.sizeOf81 Tryz.zeroValue81 Tryz.runUnderlying81) <| lk_all (oF Tryz.isAgg84 Tryz.sizeOf84 Tryz.zeroValue84 Tryz.runUnderlying84) <| lk_all (oF Tryz.isAgg88 Tryz.sizeOf88 Tryz.zeroValue88 Tryz.runUnderlying88) <| lk_all (oF Tryz.isAgg91 Tryz.sizeOf91 Tryz.zeroValue91 Tryz.runUnderlying91) <| lk_all (oF Tryz.isAgg99 Tryz.sizeOf99 Tryz.zeroValue99 Tryz.runUnderlying99) <| lk_all (oF Tryz.isAgg100 Tryz.sizeOf100 Tryz.zeroValue100 Tryz.runUnderlying100) <| lk_all (oF Tryz.isAgg103 Tryz.sizeOf103 Tryz.zeroValue103 Tryz.runUnderlying103) <| lk_all ti105 <| lk_all ti107 <| lk_all ti108 <| lk_all ti109 <| lk_all ti110 <| lk_all ti112 <| lk_all ti113 <| lk_all ti118 <| lk_all ti119 <| lk_all ti121 <| lk_all ti122 <| lk_all ti126 <| lk_all ti127 <| lk_all ti128 <| lk_all ti135 <| lk_all ti136 <| lk_all ti137 <| lk_all (oF Tryz.isAgg147 Tryz.sizeOf147 Tryz.zeroValue147 Tryz.runUnderlying147) <| lk_all ti156 <| lk_all ti160 <| lk_all ti161 <| lk_all ti162 <| lk_all (oF Tryz.isAgg165 Tryz.sizeOf165 Tryz.zeroValue165 Tryz.runUnderlying165) <| lk_all ti168 <| lk_all ti169 <| lk_all (oF Tryz.isAgg188 Tryz.sizeOf188 Tryz.zeroValue188 Tryz.runUnderlying188) <| lk_all (oF Tryz.isAgg194 Tryz.sizeOf194 Tryz.zeroValue194 Tryz.runUnderlying194) <| lk_all (oF Tryz.isAgg212 Tryz.sizeOf212 Tryz.zeroValue212 Tryz.runUnderlying212) <| lk_none
noncomputable def fnTab:List (FuncId×Func):=[(3,Tryz.f3),(4,Tryz.f4),(5,Tryz.f5),(6,Tryz.f6),(7,Tryz.f7),(8,Tryz.f8),(9,Tryz.f9),(10,Tryz.f10),(11,Tryz.f11),(12,Tryz.f12),(13,Tryz.f13),(14,Tryz.f14),(15,Tryz.f15),(16,Tryz.f16),(17,Tryz.f17),(18,Tryz.f18),(19,Tryz.f19),(20,Tryz.f20),(21,Tryz.f21),(22,Tryz.f22),(23,Tryz.f23),(24,Tryz.f24),(25,Tryz.f25),(26,Tryz.f26),(27,Tryz.f27),(28,Tryz.f28),(29,Tryz.f29),(30,Tryz.f30),(31,Tryz.f31),(32,Tryz.f32),(33,Tryz.f33),(34,Tryz.f34),(35,Tryz.f35),(36,Tryz.f36),(37,Tryz.f37),(38,Tryz.f38),(39,Tryz.f39),(40,Tryz.f40),(42,Tryz.f42),(43,Tryz.f43),(44,Tryz.f44),(45,Tryz.f45),(46,Tryz.f46),(47,Tryz.f47),(48,Tryz.f48),(49,Tryz.f49),(50,Tryz.f50),(51,Tryz.f51),(52,Tryz.f52),(53,Tryz.f53),(54,Tryz.f54),(55,Tryz.f55),(56,Tryz.f56),(57,Tryz.f57),(58,Tryz.f58),(59,Tryz.f59),(60,Tryz.f60),(61,Tryz.f61),(62,Tryz.f62),(63,Tryz.f63),(64,Tryz.f64),(65,Tryz.f65),(66,Tryz.f66),(67,Tryz.f67),(68,Tryz.f68),(69,Tryz.f69),(70,Tryz.f70),(71,Tryz.f71),(74,Tryz.f74),(75,Tryz.f75),(76,Tryz.f76),(77,Tryz.f77),(79,Tryz.f79),(80,Tryz.f80),(81,Tryz.f81),(82,Tryz.f82),(83,Tryz.f83),(84,Tryz.f84),(85,Tryz.f85),(86,Tryz.f86),(87,Tryz.f87),(88,Tryz.f88),(89,Tryz.f89),(90,Tryz.f90),(91,Tryz.f91),(92,Tryz.f92),(93,Tryz.f93),(105,Tryz.f105),(106,Tryz.f106),(107,Tryz.f107),(108,Tryz.f108),(109,Tryz.f109),(110,Tryz.f110),(112,Tryz.f112),(113,Tryz.f113),(114,Tryz.f114),(115,Tryz.f115),(116,Tryz.f116),(117,Tryz.f117),(118,Tryz.f118),(122,Tryz.f122),(123,Tryz.f123),(124,Tryz.f124),(125,Tryz.f125),(126,Tryz.f126),(127,Tryz.f127),(128,Tryz.f128),(129,Tryz.f129),(130,Tryz.f130),(136,Tryz.f136),(139,Tryz.f139),(140,Tryz.f140),(141,Tryz.f141),(143,Tryz.f143),(145,Tryz.f145),(146,Tryz.f146),(147,Tryz.f147),(148,Tryz.f148),(149,Tryz.f149),(150,Tryz.f150),(151,Tryz.f151),(157,Tryz.f157),(158,Tryz.f158),(159,Tryz.f159),(160,Tryz.f160),(161,Tryz.f161),(171,Tryz.f171),(172,Tryz.f172),(173,Tryz.f173),(174,Tryz.f174),(190,Tryz.f190)]
abbrev pF (f:FuncId) (fn:Func):Prop:=Tryz.prog.funcs[f]? = some fn∧∀ (args:Array Value) (w:World),(callFunc f args).run Tryz.prog w=.ok (.enter f args) w
theorem pf {f:FuncId} {fn:Func} (h:Tryz.prog.funcs[f]? = some fn) (h2:∀ (args:Array Value) (w:World),(callFunc f args).run Tryz.prog w=.ok (.enter f args) w):pF f fn:=⟨h,h2⟩
theorem fnOK:∀ f fn,lk fnTab f=some fn→Tryz.prog.funcs[f]? = some fn∧∀ (args:Array Value) (w:World),(callFunc f args).run Tryz.prog w=.ok (.enter f args) w:=by
 unfold fnTab
 change ∀ f fn,_→pF f fn
 exact lk_all (pf Tryz.func3 Tryz.call3) <| lk_all (pf Tryz.func4 Tryz.call4) <| lk_all (pf Tryz.func5 Tryz.call5) <| lk_all (pf Tryz.func6 Tryz.call6) <| lk_all (pf Tryz.func7 Tryz.call7) <| lk_all (pf Tryz.func8 Tryz.call8) <| lk_all (pf Tryz.func9 Tryz.call9) <| lk_all (pf Tryz.func10 Tryz.call10) <| lk_all (pf Tryz.func11 Tryz.call11) <| lk_all (pf Tryz.func12 Tryz.call12) <| lk_all (pf Tryz.func13 Tryz.call13) <| lk_all (pf Tryz.func14 Tryz.call14) <| lk_all (pf Tryz.func15 Tryz.call15) <| lk_all (pf Tryz.func16 Tryz.call16) <| lk_all (pf Tryz.func17 Tryz.call17) <| lk_all (pf Tryz.func18 Tryz.call18) <| lk_all (pf Tryz.func19 Tryz.call19) <| lk_all (pf Tryz.func20 Tryz.call20) <| lk_all (pf Tryz.func21 Tryz.call21) <| lk_all (pf Tryz.func22 Tryz.call22) <| lk_all (pf Tryz.func23 Tryz.call23) <| lk_all (pf Tryz.func24 Tryz.call24) <| lk_all (pf Tryz.func25 Tryz.call25) <| lk_all (pf Tryz.func26 Tryz.call26) <| lk_all (pf Tryz.func27 Tryz.call27) <| lk_all (pf Tryz.func28 Tryz.call28) <| lk_all (pf Tryz.func29 Tryz.call29) <| lk_all (pf Tryz.func30 Tryz.call30) <| lk_all (pf Tryz.func31 Tryz.call31) <| lk_all (pf Tryz.func32 Tryz.call32) <| lk_all (pf Tryz.func33 Tryz.call33) <| lk_all (pf Tryz.func34 Tryz.call34) <| lk_all (pf Tryz.func35 Tryz.call35) <| lk_all (pf Tryz.func36 Tryz.call36) <| lk_all (pf Tryz.func37 Tryz.call37) <| lk_all (pf Tryz.func38 Tryz.call38) <| lk_all (pf Tryz.func39 Tryz.call39) <| lk_all (pf Tryz.func40 Tryz.call40) <| lk_all (pf Tryz.func42 Tryz.call42) <| lk_all (pf Tryz.func43 Tryz.call43) <| lk_all (pf Tryz.func44 Tryz.call44) <| lk_all (pf Tryz.func45 Tryz.call45) <| lk_all (pf Tryz.func46 Tryz.call46) <| lk_all (pf Tryz.func47 Tryz.call47) <| lk_all (pf Tryz.func48 Tryz.call48) <| lk_all (pf Tryz.func49 Tryz.call49) <| lk_all (pf Tryz.func50 Tryz.call50) <| lk_all (pf Tryz.func51 Tryz.call51) <| lk_all (pf Tryz.func52 Tryz.call52) <| lk_all (pf Tryz.func53 Tryz.call53) <| lk_all (pf Tryz.func54 Tryz.call54) <| lk_all (pf Tryz.func55 Tryz.call55) <| lk_all (pf Tryz.func56 Tryz.call56) <| lk_all (pf Tryz.func57 Tryz.call57) <| lk_all (pf Tryz.func58 Tryz.call58) <| lk_all (pf Tryz.func59 Tryz.call59) <| lk_all (pf Tryz.func60 Tryz.call60) <| lk_all (pf Tryz.func61 Tryz.call61) <| lk_all (pf Tryz.func62 Tryz.call62) <| lk_all (pf Tryz.func63 Tryz.call63) <| lk_all (pf Tryz.func64 Tryz.call64) <| lk_all (pf Tryz.func65 Tryz.call65) <| lk_all (pf Tryz.func66 Tryz.call66) <| lk_all (pf Tryz.func67 Tryz.call67) <| lk_all (pf Tryz.func68 Tryz.call68) <| lk_all (pf Tryz.func69 Tryz.call69) <| lk_all (pf Tryz.func70 Tryz.call70) <| lk_all (pf Tryz.func71 Tryz.call71) <| lk_all (pf Tryz.func74 Tryz.call74) <| lk_all (pf Tryz.func75 Tryz.call75) <| lk_all (pf Tryz.func76 Tryz.call76) <| lk_all (pf Tryz.func77 Tryz.call77) <| lk_all (pf Tryz.func79 Tryz.call79) <| lk_all (pf Tryz.func80 Tryz.call80) <| lk_all (pf Tryz.func81 Tryz.call81) <| lk_all (pf Tryz.func82 Tryz.call82) <| lk_all (pf Tryz.func83 Tryz.call83) <| lk_all (pf Tryz.func84 Tryz.call84) <| lk_all (pf Tryz.func85 Tryz.call85) <| lk_all (pf Tryz.func86 Tryz.call86) <| lk_all (pf Tryz.func87 Tryz.call87) <| lk_all (pf Tryz.func88 Tryz.call88) <| lk_all (pf Tryz.func89 Tryz.call89) <| lk_all (pf Tryz.func90 Tryz.call90) <| lk_all (pf Tryz.func91 Tryz.call91) <| lk_all (pf Tryz.func92 Tryz.call92) <| lk_all (pf Tryz.func93 Tryz.call93) <| lk_all (pf Tryz.func105 Tryz.call105) <| lk_all (pf Tryz.func106 Tryz.call106) <| lk_all (pf Tryz.func107 Tryz.call107) <| lk_all (pf Tryz.func108 Tryz.call108) <| lk_all (pf Tryz.func109 Tryz.call109) <| lk_all (pf Tryz.func110 Tryz.call110) <| lk_all (pf Tryz.func112 Tryz.call112) <| lk_all (pf Tryz.func113 Tryz.call113) <| lk_all (pf Tryz.func114 Tryz.call114) <| lk_all (pf Tryz.func115 Tryz.call115) <| lk_all (pf Tryz.func116 Tryz.call116) <| lk_all (pf Tryz.func117 Tryz.call117) <| lk_all (pf Tryz.func118 Tryz.call118) <| lk_all (pf Tryz.func122 Tryz.call122) <| lk_all (pf Tryz.func123 Tryz.call123) <| lk_all (pf Tryz.func124 Tryz.call124) <| lk_all (pf Tryz.func125 Tryz.call125) <| lk_all (pf Tryz.func126 Tryz.call126) <| lk_all (pf Tryz.func127 Tryz.call127) <| lk_all (pf Tryz.func128 Tryz.call128) <| lk_all (pf Tryz.func129 Tryz.call129) <| lk_all (pf Tryz.func130 Tryz.call130) <| lk_all (pf Tryz.func136 Tryz.call136) <| lk_all (pf Tryz.func139 Tryz.call139) <| lk_all (pf Tryz.func140 Tryz.call140) <| lk_all (pf Tryz.func141 Tryz.call141) <| lk_all (pf Tryz.func143 Tryz.call143) <| lk_all (pf Tryz.func145 Tryz.call145) <| lk_all (pf Tryz.func146 Tryz.call146) <| lk_all (pf Tryz.func147 Tryz.call147) <| lk_all (pf Tryz.func148 Tryz.call148) <| lk_all (pf Tryz.func149 Tryz.call149) <| lk_all (pf Tryz.func150 Tryz.call150) <| lk_all (pf Tryz.func151 Tryz.call151) <| lk_all (pf Tryz.func157 Tryz.call157) <| lk_all (pf Tryz.func158 Tryz.call158) <| lk_all (pf Tryz.func159 Tryz.call159) <| lk_all (pf Tryz.func160 Tryz.call160) <| lk_all (pf Tryz.func161 Tryz.call161) <| lk_all (pf Tryz.func171 Tryz.call171) <| lk_all (pf Tryz.func172 Tryz.call172) <| lk_all (pf Tryz.func173 Tryz.call173) <| lk_all (pf Tryz.func174 Tryz.call174) <| lk_all (pf Tryz.func190 Tryz.call190) <| lk_none
set_option maxRecDepth 100000 in
theorem eqOK36:EqOK Tryz.prog 36 [.str,.str]:=by
 refine ⟨by kernel_rfl,fun vs us h1 h2 w=>?_⟩
 rcases h1 with _ | ⟨⟨a0,rfl⟩,_ | ⟨⟨a1,rfl⟩,_ | _⟩⟩
 rcases h2 with _ | ⟨⟨b0,rfl⟩,_ | ⟨⟨b1,rfl⟩,_ | _⟩⟩
 have u9:=Tryz.underlying9
 have x9:=Tryz.isAgg9
 have z9:=Tryz.sizeOf9
 have hS:Tryz.prog.underlying 36=some (.struct (Tryz.prog.fieldsOf 36)):=by kernel_rfl
 have hp:Tryz.prog.stoodInHeld 36=false:=by kernel_rfl
 rw [show (10000:Nat)=9999+1 from rfl,run_equalIn_agg w 9999 36 _ _ hS hp]
 simp only [Program.fieldsOf,Tryz.underlying36]
 go_simp
 by_cases e0:a0.data.toList=b0.data.toList
 all_goals by_cases e1:a1.data.toList=b1.data.toList
 all_goals simp [eqVs,eqV,ByteArray.toList_eq,e0,e1]
set_option maxRecDepth 100000 in
theorem eqOK48:EqOK Tryz.prog 48 [.int .i64,.int .i64]:=by
 refine ⟨by kernel_rfl,fun vs us h1 h2 w=>?_⟩
 rcases h1 with _ | ⟨⟨a0,rfl⟩,_ | ⟨⟨a1,rfl⟩,_ | _⟩⟩
 rcases h2 with _ | ⟨⟨b0,rfl⟩,_ | ⟨⟨b1,rfl⟩,_ | _⟩⟩
 have u3:=Tryz.underlying3
 have x3:=Tryz.isAgg3
 have z3:=Tryz.sizeOf3
 have hS:Tryz.prog.underlying 48=some (.struct (Tryz.prog.fieldsOf 48)):=by kernel_rfl
 have hp:Tryz.prog.stoodInHeld 48=false:=by kernel_rfl
 rw [show (10000:Nat)=9999+1 from rfl,run_equalIn_agg w 9999 48 _ _ hS hp]
 simp only [Program.fieldsOf,Tryz.underlying48]
 go_simp
 by_cases e0:a0=b0
 all_goals by_cases e1:a1=b1
 all_goals simp [eqVs,eqV,ByteArray.toList_eq,e0,e1]
set_option maxRecDepth 100000 in
theorem eqOK65:EqOK Tryz.prog 65 [.int .i64,.int .i64,.int .i64]:=by
 refine ⟨by kernel_rfl,fun vs us h1 h2 w=>?_⟩
 rcases h1 with _ | ⟨⟨a0,rfl⟩,_ | ⟨⟨a1,rfl⟩,_ | ⟨⟨a2,rfl⟩,_ | _⟩⟩⟩
 rcases h2 with _ | ⟨⟨b0,rfl⟩,_ | ⟨⟨b1,rfl⟩,_ | ⟨⟨b2,rfl⟩,_ | _⟩⟩⟩
 have u3:=Tryz.underlying3
 have x3:=Tryz.isAgg3
 have z3:=Tryz.sizeOf3
 have hS:Tryz.prog.underlying 65=some (.struct (Tryz.prog.fieldsOf 65)):=by kernel_rfl
 have hp:Tryz.prog.stoodInHeld 65=false:=by kernel_rfl
 rw [show (10000:Nat)=9999+1 from rfl,run_equalIn_agg w 9999 65 _ _ hS hp]
 simp only [Program.fieldsOf,Tryz.underlying65]
 go_simp
 by_cases e0:a0=b0
 all_goals by_cases e1:a1=b1
 all_goals by_cases e2:a2=b2
 all_goals simp [eqVs,eqV,ByteArray.toList_eq,e0,e1,e2]
set_option maxRecDepth 100000 in
theorem eqOK75:EqOK Tryz.prog 75 [.int .i64,.int .i64]:=by
 refine ⟨by kernel_rfl,fun vs us h1 h2 w=>?_⟩
 rcases h1 with _ | ⟨⟨a0,rfl⟩,_ | ⟨⟨a1,rfl⟩,_ | _⟩⟩
 rcases h2 with _ | ⟨⟨b0,rfl⟩,_ | ⟨⟨b1,rfl⟩,_ | _⟩⟩
 have u3:=Tryz.underlying3
 have x3:=Tryz.isAgg3
 have z3:=Tryz.sizeOf3
 have hS:Tryz.prog.underlying 75=some (.struct (Tryz.prog.fieldsOf 75)):=by kernel_rfl
 have hp:Tryz.prog.stoodInHeld 75=false:=by kernel_rfl
 rw [show (10000:Nat)=9999+1 from rfl,run_equalIn_agg w 9999 75 _ _ hS hp]
 simp only [Program.fieldsOf,Tryz.underlying75]
 go_simp
 by_cases e0:a0=b0
 all_goals by_cases e1:a1=b1
 all_goals simp [eqVs,eqV,ByteArray.toList_eq,e0,e1]
set_option maxRecDepth 100000 in
theorem eqOK108:EqOK Tryz.prog 108 [.int .i64,.int .i64,.int .i64]:=by
 refine ⟨by kernel_rfl,fun vs us h1 h2 w=>?_⟩
 rcases h1 with _ | ⟨⟨a0,rfl⟩,_ | ⟨⟨a1,rfl⟩,_ | ⟨⟨a2,rfl⟩,_ | _⟩⟩⟩
 rcases h2 with _ | ⟨⟨b0,rfl⟩,_ | ⟨⟨b1,rfl⟩,_ | ⟨⟨b2,rfl⟩,_ | _⟩⟩⟩
 have u3:=Tryz.underlying3
 have x3:=Tryz.isAgg3
 have z3:=Tryz.sizeOf3
 have hS:Tryz.prog.underlying 108=some (.struct (Tryz.prog.fieldsOf 108)):=by kernel_rfl
 have hp:Tryz.prog.stoodInHeld 108=false:=by kernel_rfl
 rw [show (10000:Nat)=9999+1 from rfl,run_equalIn_agg w 9999 108 _ _ hS hp]
 simp only [Program.fieldsOf,Tryz.underlying108]
 go_simp
 by_cases e0:a0=b0
 all_goals by_cases e1:a1=b1
 all_goals by_cases e2:a2=b2
 all_goals simp [eqVs,eqV,ByteArray.toList_eq,e0,e1,e2]
set_option maxRecDepth 100000 in
theorem eqOK113:EqOK Tryz.prog 113 [.int .i64,.int .i64,.int .i64]:=by
 refine ⟨by kernel_rfl,fun vs us h1 h2 w=>?_⟩
 rcases h1 with _ | ⟨⟨a0,rfl⟩,_ | ⟨⟨a1,rfl⟩,_ | ⟨⟨a2,rfl⟩,_ | _⟩⟩⟩
 rcases h2 with _ | ⟨⟨b0,rfl⟩,_ | ⟨⟨b1,rfl⟩,_ | ⟨⟨b2,rfl⟩,_ | _⟩⟩⟩
 have u3:=Tryz.underlying3
 have x3:=Tryz.isAgg3
 have z3:=Tryz.sizeOf3
 have hS:Tryz.prog.underlying 113=some (.struct (Tryz.prog.fieldsOf 113)):=by kernel_rfl
 have hp:Tryz.prog.stoodInHeld 113=false:=by kernel_rfl
 rw [show (10000:Nat)=9999+1 from rfl,run_equalIn_agg w 9999 113 _ _ hS hp]
 simp only [Program.fieldsOf,Tryz.underlying113]
 go_simp
 by_cases e0:a0=b0
 all_goals by_cases e1:a1=b1
 all_goals by_cases e2:a2=b2
 all_goals simp [eqVs,eqV,ByteArray.toList_eq,e0,e1,e2]
set_option maxRecDepth 100000 in
theorem eqOK122:EqOK Tryz.prog 122 [.bool]:=by
 refine ⟨by kernel_rfl,fun vs us h1 h2 w=>?_⟩
 rcases h1 with _ | ⟨⟨a0,rfl⟩,_ | _⟩
 rcases h2 with _ | ⟨⟨b0,rfl⟩,_ | _⟩
 have u4:=Tryz.underlying4
 have x4:=Tryz.isAgg4
 have z4:=Tryz.sizeOf4
 have hS:Tryz.prog.underlying 122=some (.struct (Tryz.prog.fieldsOf 122)):=by kernel_rfl
 have hp:Tryz.prog.stoodInHeld 122=false:=by kernel_rfl
 rw [show (10000:Nat)=9999+1 from rfl,run_equalIn_agg w 9999 122 _ _ hS hp]
 simp only [Program.fieldsOf,Tryz.underlying122]
 go_simp
 by_cases e0:a0=b0
 all_goals simp [eqVs,eqV,ByteArray.toList_eq,e0]
set_option maxRecDepth 100000 in
theorem eqOK137:EqOK Tryz.prog 137 [.int .i64,.int .i64,.int .i64]:=by
 refine ⟨by kernel_rfl,fun vs us h1 h2 w=>?_⟩
 rcases h1 with _ | ⟨⟨a0,rfl⟩,_ | ⟨⟨a1,rfl⟩,_ | ⟨⟨a2,rfl⟩,_ | _⟩⟩⟩
 rcases h2 with _ | ⟨⟨b0,rfl⟩,_ | ⟨⟨b1,rfl⟩,_ | ⟨⟨b2,rfl⟩,_ | _⟩⟩⟩
 have u3:=Tryz.underlying3
 have x3:=Tryz.isAgg3
 have z3:=Tryz.sizeOf3
 have hS:Tryz.prog.underlying 137=some (.struct (Tryz.prog.fieldsOf 137)):=by kernel_rfl
 have hp:Tryz.prog.stoodInHeld 137=false:=by kernel_rfl
 rw [show (10000:Nat)=9999+1 from rfl,run_equalIn_agg w 9999 137 _ _ hS hp]
 simp only [Program.fieldsOf,Tryz.underlying137]
 go_simp
 by_cases e0:a0=b0
 all_goals by_cases e1:a1=b1
 all_goals by_cases e2:a2=b2
 all_goals simp [eqVs,eqV,ByteArray.toList_eq,e0,e1,e2]
set_option maxRecDepth 100000 in
theorem eqOK22:EqOK Tryz.prog 22 [.int .i64,.int .i64,.int .i64,.int .i64]:=by
 refine ⟨by kernel_rfl,fun vs us h1 h2 w=>?_⟩
 rcases h1 with _ | ⟨⟨a0,rfl⟩,_ | ⟨⟨a1,rfl⟩,_ | ⟨⟨a2,rfl⟩,_ | ⟨⟨a3,rfl⟩,_ | _⟩⟩⟩⟩
 rcases h2 with _ | ⟨⟨b0,rfl⟩,_ | ⟨⟨b1,rfl⟩,_ | ⟨⟨b2,rfl⟩,_ | ⟨⟨b3,rfl⟩,_ | _⟩⟩⟩⟩
 have u3:=Tryz.underlying3
 have x3:=Tryz.isAgg3
 have z3:=Tryz.sizeOf3
 have hc:Tryz.prog.cellsOf 3=1:=by kernel_rfl
 rw [show (10000:Nat)=9999+1 from rfl,run_equalIn_array w 9999 (t:=22) (e:=3) (n:=4) _ _ (by kernel_rfl) (show Tryz.prog.info? 3=some _ from rfl),hc]
 simp only [show List.range 4=[0,1,2,3] from rfl,Op.eqItems]
 go_simp
 by_cases e0:a0=b0
 all_goals by_cases e1:a1=b1
 all_goals by_cases e2:a2=b2
 all_goals by_cases e3:a3=b3
 all_goals simp [eqVs,eqV,e0,e1,e2,e3]
set_option maxRecDepth 100000 in
theorem eqOK24:EqOK Tryz.prog 24 [.int .i64,.int .i64,.int .i64]:=by
 refine ⟨by kernel_rfl,fun vs us h1 h2 w=>?_⟩
 rcases h1 with _ | ⟨⟨a0,rfl⟩,_ | ⟨⟨a1,rfl⟩,_ | ⟨⟨a2,rfl⟩,_ | _⟩⟩⟩
 rcases h2 with _ | ⟨⟨b0,rfl⟩,_ | ⟨⟨b1,rfl⟩,_ | ⟨⟨b2,rfl⟩,_ | _⟩⟩⟩
 have u3:=Tryz.underlying3
 have x3:=Tryz.isAgg3
 have z3:=Tryz.sizeOf3
 have hc:Tryz.prog.cellsOf 3=1:=by kernel_rfl
 rw [show (10000:Nat)=9999+1 from rfl,run_equalIn_array w 9999 (t:=24) (e:=3) (n:=3) _ _ (by kernel_rfl) (show Tryz.prog.info? 3=some _ from rfl),hc]
 simp only [show List.range 3=[0,1,2] from rfl,Op.eqItems]
 go_simp
 by_cases e0:a0=b0
 all_goals by_cases e1:a1=b1
 all_goals by_cases e2:a2=b2
 all_goals simp [eqVs,eqV,e0,e1,e2]
set_option maxRecDepth 100000 in
theorem eqOK58:EqOK Tryz.prog 58 [.int .i64,.int .i64]:=by
 refine ⟨by kernel_rfl,fun vs us h1 h2 w=>?_⟩
 rcases h1 with _ | ⟨⟨a0,rfl⟩,_ | ⟨⟨a1,rfl⟩,_ | _⟩⟩
 rcases h2 with _ | ⟨⟨b0,rfl⟩,_ | ⟨⟨b1,rfl⟩,_ | _⟩⟩
 have u3:=Tryz.underlying3
 have x3:=Tryz.isAgg3
 have z3:=Tryz.sizeOf3
 have hc:Tryz.prog.cellsOf 3=1:=by kernel_rfl
 rw [show (10000:Nat)=9999+1 from rfl,run_equalIn_array w 9999 (t:=58) (e:=3) (n:=2) _ _ (by kernel_rfl) (show Tryz.prog.info? 3=some _ from rfl),hc]
 simp only [show List.range 2=[0,1] from rfl,Op.eqItems]
 go_simp
 by_cases e0:a0=b0
 all_goals by_cases e1:a1=b1
 all_goals simp [eqVs,eqV,e0,e1]
def eqTab:List (TypeId×List Ty):=[(36,[.str,.str]),(48,[.int .i64,.int .i64]),(65,[.int .i64,.int .i64,.int .i64]),(75,[.int .i64,.int .i64]),(108,[.int .i64,.int .i64,.int .i64]),(113,[.int .i64,.int .i64,.int .i64]),(122,[.bool]),(137,[.int .i64,.int .i64,.int .i64]),(22,[.int .i64,.int .i64,.int .i64,.int .i64]),(24,[.int .i64,.int .i64,.int .i64]),(58,[.int .i64,.int .i64])]
theorem eqsOK:∀ t ks,lk eqTab t=some ks→EqOK Tryz.prog t ks:=by
 unfold eqTab
 refine lk_all (p:=fun t ks=>EqOK Tryz.prog t ks) eqOK36 ?_
 refine lk_all (p:=fun t ks=>EqOK Tryz.prog t ks) eqOK48 ?_
 refine lk_all (p:=fun t ks=>EqOK Tryz.prog t ks) eqOK65 ?_
 refine lk_all (p:=fun t ks=>EqOK Tryz.prog t ks) eqOK75 ?_
 refine lk_all (p:=fun t ks=>EqOK Tryz.prog t ks) eqOK108 ?_
 refine lk_all (p:=fun t ks=>EqOK Tryz.prog t ks) eqOK113 ?_
 refine lk_all (p:=fun t ks=>EqOK Tryz.prog t ks) eqOK122 ?_
 refine lk_all (p:=fun t ks=>EqOK Tryz.prog t ks) eqOK137 ?_
 refine lk_all (p:=fun t ks=>EqOK Tryz.prog t ks) eqOK22 ?_
 refine lk_all (p:=fun t ks=>EqOK Tryz.prog t ks) eqOK24 ?_
 refine lk_all (p:=fun t ks=>EqOK Tryz.prog t ks) eqOK58 ?_
 exact lk_none
def btTab:List (TypeId×TypeId×TypeId):=[(163,163,5)]
theorem bt163:BltOK Tryz.prog 163 163 5:=⟨by decide,by kernel_rfl,by kernel_rfl,_,Tryz.zeroValue163,rfl⟩
theorem btOK:∀ T x,lk btTab T=some x→BltOK Tryz.prog T x.1 x.2:=by
 unfold btTab
 refine lk_all (p:=fun T (x:TypeId×TypeId)=>BltOK Tryz.prog T x.1 x.2) bt163 ?_
 exact lk_none
noncomputable def tabs0:Tabs:=⟨tyTab,fnTab,[],[],[],eqTab,[],[],[],btTab,[]⟩
theorem tabs0OK:TabOK Tryz.prog tabs0:=⟨tyOK,fnOK,(fun _ _ h=>by cases h),(fun _ _ h=>by cases h),by kernel_rfl,(fun _ h=>by cases h),eqsOK,(fun _ h=>by cases h),(fun _ _ h=>by cases h),(fun _ _ h=>by cases h),btOK,(fun _ _ h=>by cases h)⟩
end Go.Proofs.YtdgabicjcepmeaaGreatDoor
namespace Go.PE
open Go Go.RowKit Go.Abs Go.Sort
open Go.Proofs (ltOf)

def clampT:(t:Ty)→t.den→t.den
 | .int k,x=>k.wrap x
 | .bool,x=>x
 | .str,x=>List.take maxLen x
 | .list _,x=>x
 | .one t,x=>clampT t x
 | .pair a b,x=>(clampT a x.1,clampT b x.2)
def encF:(t:Ty)→t.den→List Value
 | .int k,x=>[.int k x]
 | .bool,x=>[.bool x]
 | .str,x=>[.string ⟨List.toArray x⟩]
 | .list _,_=>[.slice none 0 0]
 | .one t,x=>encF t x
 | .pair a b,x=>encF a x.1++encF b x.2
def encT (t:Ty) (x:t.den):List Value:=encF t (clampT t x)
section
variable {S:Cells} {w:World} {η:Eta}
end
theorem getB {α:Type} [Inhabited α] {a:Array α} {i:Nat} (h:i<a.size):a[i]! = a[i]:=getElem!_pos a i h
end Go.PE
namespace Go.PE
open Go Go.RowKit Go.Abs Go.Sort

def insI (x:Int):List Int→List Int
 | []=>[x]
 | y::r=>bif leM x y then x::y::r else y::insI x r
def isortI:List Int→List Int
 | []=>[]
 | x::r=>insI x (isortI r)
theorem insI_perm (x:Int):∀ l,(insI x l).Perm (x::l)
 | []=>.refl _
 | y::r=>by
  unfold insI
  cases leM x y
  ·exact ((insI_perm x r).cons y).trans (.swap x y r)
  ·exact .refl _
theorem isortI_perm:∀ l,(isortI l).Perm l
 | []=>.refl _
 | x::r=>(insI_perm x (isortI r)).trans ((isortI_perm r).cons x)
theorem insI_sorted (x:Int):∀ {l:List Int},List.Pairwise (·≤·) l→List.Pairwise (·≤·) (insI x l)
 | [],_=>by unfold insI;simp
 | y::r,h=>by
  unfold insI
  have h2:=List.pairwise_cons.1 h
  cases hb:leM x y with
  | true =>
   have hb':x≤y:=of_decide_eq_true hb
   refine List.pairwise_cons.2 ⟨fun z hz=>?_,h⟩
   rcases List.mem_cons.1 hz with rfl | hz
   ·exact hb'
   ·exact Int.le_trans hb' (h2.1 z hz)
  | false =>
   have hb':¬ x≤y:=of_decide_eq_false hb
   refine List.pairwise_cons.2 ⟨fun z hz=>?_,insI_sorted x h2.2⟩
   rcases List.mem_cons.1 ((insI_perm x r).mem_iff.1 hz) with rfl | hz
   ·omega
   ·exact h2.1 z hz
theorem isortI_sorted:∀ l,List.Pairwise (·≤·) (isortI l)
 | []=>.nil
 | x::r=>insI_sorted x (isortI_sorted r)
theorem merge_isortI (l:List Int):(l.mergeSort fun x y=>decide (x≤y))=isortI l:=by
 refine List.Perm.eq_of_pairwise (le:=fun x y=>x≤y) (fun a b _ _ h1 h2=>by omega) ?_ (isortI_sorted l) ((List.mergeSort_perm l _).trans (isortI_perm l).symm)
 have:=List.pairwise_mergeSort (le:=fun (x y:Int)=>decide (x≤y)) (fun a b c h1 h2=>by simp at *;omega) (fun a b=>by simp;omega) l
 exact this.imp fun h=>by simpa using h
def sortI (xs:List Int):Option (List Int):=match decide (xs.length<4611686018427387904) with
 | true=>some (isortI xs)
 | false=>none
section
variable {B:Nat} {S F:Cells} {w w':World}
theorem world_put {b off cap n:Nat} {xs d:List Int} {os:Array Obj} (hin:InLt S w) (hF:∀ b o,F b o→B≤b∧b<w.heap.size∧¬ S b o) (hFe:∀ b' o,F b' o↔b'=b∧off≤o∧o<off+cap*1) (c1:xs.length≤cap) (hn:0<xs.length)
  (ht:∀ o,off≤o→o<off+cap*1→World.there w b o) (hH:Holds (Value.int .i64) w b off xs.toArray) (hd:d.length=xs.length) (hw:w'=grow (putRow (Value.int .i64) (Go.Sort.ahead w n) b off d.toArray) os) :
  Grow B S w S w'∧(∀ j,j<xs.length→w'.cell? ⟨b,off+j,none⟩=some (.int .i64 (d.toArray)[j]!))∧(∀ b' o,b'<w.heap.size→¬ F b' o→w'.cell? ⟨b',o,none⟩=w.cell? ⟨b',o,none⟩∧w'.frozen? ⟨b',o,none⟩=w.frozen? ⟨b',o,none⟩) ∧
   (∀ b',b'<w.heap.size→(∀ o,¬ F b' o)→w'.heap[b']? = w.heap[b']?)∧∀ o,off≤o→o<off+cap*1→World.there w' b o:=by
 have hin1:∀ j,j<xs.length→F b (off+j):=fun j hj=>(hFe _ _).2 ⟨rfl,by omega,by omega⟩
 obtain ⟨hBb,hblk,_⟩:=hF b (off+0) (hin1 0 hn)
 have hH1:Holds (Value.int .i64) (Go.Sort.ahead w n) b off xs.toArray:=hH
 have hfs:d.toArray.size=xs.toArray.size:=by simpa using hd
 have hfn:d.toArray.size=xs.length:=by simpa using hd
 have hps:(putRow (Value.int .i64) (Go.Sort.ahead w n) b off d.toArray).heap.size=w.heap.size:=by rw [size_putRow];rfl
 have cin:∀ j,j<xs.length→w'.cell? ⟨b,off+j,none⟩=some (.int .i64 (d.toArray)[j]!):=fun j hj=>by
  rw [hw,cell?_grow _ _ _ (by rw [hps];exact hblk)]
  exact cell?_putRow (Value.int .i64) _ b off _ _ hH1 hfs j (by rw [hfn];exact hj)
 have cout:∀ b' o,b'<w.heap.size→(b'≠b∨o<off∨off+xs.length≤o)→w'.cell? ⟨b',o,none⟩=w.cell? ⟨b',o,none⟩:=fun b' o hb' ho=>by
  rw [hw,cell?_grow _ _ _ (by rw [hps];exact hb'),cell?_putRow_other (Value.int .i64) _ b off _ _ (by rw [hfn];exact ho)]
  rfl
 have fout:∀ b' o,b'<w.heap.size→w'.frozen? ⟨b',o,none⟩=w.frozen? ⟨b',o,none⟩:=fun b' o hb'=>by
  rw [hw,frozen?_grow _ _ _ (by rw [hps];exact hb'),frozen?_putRow]
  rfl
 have hout:∀ b',b'<w.heap.size→b'≠b→w'.heap[b']? = w.heap[b']? := fun b' hb' hne=>by
  rw [hw,heap_grow_old _ _ (by rw [hps];exact hb')]
  show (w.heap.modify b _)[b']? = _
  rw [Array.getElem?_modify,if_neg (Ne.symm hne)]
 have hcut:∀ b' o,¬ F b' o→(b'≠b∨o<off∨off+xs.length≤o):=fun b' o hno=>by
  by_cases e:b'=b
  ·subst e
   refine .inr ?_
   rcases Nat.lt_or_ge o off with h1 | h1
   ·exact .inl h1
   ·rcases Nat.lt_or_ge o (off+xs.length) with h2 | h2
    ·have:=hin1 (o-off) (by omega)
     rw [show off+(o-off)=o by omega] at this
     exact absurd this hno
    ·exact .inr h2
  ·exact .inl e
 have hkeep:Keep S w S w':=⟨fun _ _ h=>h,fun b' o hs=>cout b' o (hin b' o hs) (hcut b' o fun hf'=>(hF b' o hf').2.2 hs)⟩
 have hcells:∃ c e fr,w.heap[b]? = some (.cells c e fr):=by
  obtain ⟨⟨v,hv⟩,_⟩:=ht (off+0) (by omega) (by omega)
  obtain ⟨c,e,fr,h1,_⟩:=cells_of_cell? hv
  exact ⟨c,e,fr,h1⟩
 refine ⟨⟨⟨by rw [hw];rfl,by rw [hw];rfl,by rw [hw];rfl,by rw [hw,size_grow,hps];omega,fun k hk=>hout k (by omega) (by omega)⟩,hkeep,fun b' o hs=>?_,fun _ _ h=>.inl h,.of ?_ fun b' o ho hne=>?_⟩,cin,fun b' o hb' hno=>⟨cout b' o hb' (hcut b' o hno),fout b' o hb'⟩,fun b' hb' hno=>hout b' hb' fun e=>?_,fun o h1 h2=>⟨?_,by rw [fout b o hblk];exact (ht o h1 h2).2⟩⟩
 ·have:=hin b' o hs
  rw [hw,size_grow,hps];omega
 ·rw [hw]
  show w.drawn≤w.drawn+n
  omega
 ·by_cases e:b'=b
  ·subst e
   obtain ⟨c,el,fr,hc⟩:=hcells
   rw [hc] at ho
   exact absurd (Option.some.inj ho).symm (hne _ _ _)
  ·rw [hout b' (Array.getElem?_eq_some_iff.1 ho).1 e];exact ho
 ·subst e
  exact hno _ (hin1 0 hn)
 ·by_cases ho:o<off+xs.length
  ·have:=cin (o-off) (by omega)
   rw [show off+(o-off)=o by omega] at this
   exact ⟨_,this⟩
  ·rw [cout b o hblk (.inr (.inr (by omega)))]
   exact (ht o h1 h2).1
theorem rep_int {x:Int} {es:List Value} (h:Rep S w (.int .i64) x es):es=[.int .i64 x]∧IntKind.i64.has x:=⟨h.1,h.2⟩
theorem holds_of {b off:Nat} {xs:List Int} {cap:Nat} (c1:xs.length≤cap) (ht:∀ o,off≤o→o<off+cap*1→World.there w b o) (hx:∀ (i:Nat) (x:Int),xs[i]? = some x→∃ es,Rep S w (.int .i64) x es∧∀ j v,es[j]? = some v→w.cell? ⟨b,off+i*1+j,none⟩=some v) :
  Holds (Value.int .i64) w b off xs.toArray∧∀ x∈xs,IntKind.i64.has x:=by
 refine ⟨fun j hj=>?_,fun x hx'=>?_⟩
 ·have hj':j<xs.length:=by simpa using hj
  obtain ⟨es,he,hc⟩:=hx j xs[j] (List.getElem?_eq_getElem hj')
  obtain ⟨rfl,_⟩:=rep_int he
  have:=hc 0 _ rfl
  refine ⟨?_,(ht (off+j) (by omega) (by omega)).2⟩
  rw [getB hj]
  simpa using this
 ·obtain ⟨i,hi,rfl⟩:=List.getElem_of_mem hx'
  obtain ⟨es,he,_⟩:=hx i _ (List.getElem?_eq_getElem hi)
  exact (rep_int he).2
end
theorem so1_sort {P:Program} {ρ:Go.Shelf.Ren} (L:Go.Proofs.Lays.n189 P ρ) {f:FuncId} (hfid:ρ.f 189=f) (ef:∀ (args:Array Value) (w:World),(callFunc f args).run P w=.ok (.enter f args) w):So1OK P ⟨f,.int .i64,false,sortI⟩:=by
 refine ⟨ef,fun xs ys h B S F w u hB hin hF hA=>?_⟩
 have h:sortI xs=some ys:=h
 have hA:ArrH F S w u (.int .i64) xs:=hA
 show Calls P f #[u] w _
 unfold sortI at h
 split at h
 ·rename_i hlt
  have hlt:=of_decide_eq_true hlt
  have hy:=Option.some.inj h
  have hperm:=isortI_perm xs
  rw [hy] at hperm
  have hyl:ys.length=xs.length:=hperm.length_eq
  obtain ⟨base,cap,rfl,c1,c2,c3⟩:=hA
  by_cases hn:xs.length=0
  ·have hxs:xs=[]:=List.eq_nil_of_length_eq_zero hn
   have hys:ys=[]:=List.eq_nil_of_length_eq_zero (by omega)
   subst hxs hys
   have hc:=Go.Proofs.Any.slices_Sort_int_none L base cap w
   rw [hfid] at hc
   exact hc.mono fun en w' ⟨he,hw⟩=>by
    subst hw
    exact ⟨_,.slice base 0 cap,he,fun h=>(by cases h),fun _=>⟨rfl,rfl⟩,rfl,Grow.refl hin,⟨base,cap,rfl,c1,c2,c3⟩,fun _ _ _ _=>⟨rfl,rfl⟩,fun _ _ _=>rfl⟩
  ·rcases c3 with c3 | ⟨b,off,rfl,hFe,ht,hx⟩
   ·omega
   obtain ⟨hH,hhas⟩:=holds_of c1 ht hx
   have hblk:b<w.heap.size:=(hF b (off+0) ((hFe _ _).2 ⟨rfl,by omega,by show off+0<off+cap*1;omega⟩)).2.1
   have hc:=Go.Proofs.Any.slices_Sort_int L b off cap xs w hH hblk hlt
   rw [hfid,merge_isortI,hy] at hc
   refine hc.mono fun en w' ⟨he,n,os,hw⟩=>?_
   obtain ⟨g1,g2,g3,g4,g5⟩:=world_put hin hF hFe c1 (by omega) ht hH hyl hw
   refine ⟨_,.slice (some ⟨b,off,none⟩) xs.length cap,he,fun h=>(by cases h),fun _=>⟨rfl,rfl⟩,rfl,g1,⟨_,cap,by rw [hyl],by rw [hyl];exact c1,c2,.inr ⟨b,off,rfl,hFe,g5,fun i y hi=>?_⟩⟩,g3,g4⟩
   have hil:=(List.getElem?_eq_some_iff.1 hi).1
   have hmem:y∈xs:=hperm.mem_iff.1 (List.mem_of_getElem? hi)
   refine ⟨[.int .i64 y],⟨rfl,hhas y hmem⟩,fun j v hj=>?_⟩
   cases j with
   | zero =>
    cases hj
    have e:ys.toArray[i]! = y:=by rw [getB (by simpa using hil)];simpa using (List.getElem?_eq_some_iff.1 hi).2
    show w'.cell? ⟨b,off+i*1+0,none⟩=_
    rw [Nat.mul_one,Nat.add_zero,g2 i (by omega),e]
   | succ j=>simp at hj
 ·cases h
end Go.PE
namespace Go.PE
open Go Go.RowKit Go.Abs Go.Shelf Go.Proofs Go.Sort

section
variable {P:Program} {w:World}
theorem run_append_str (base:Nat) (t u ty e:TypeId) (i:TypeInfo) (ht:P.underlying t=some (.slice e)) (hu:P.underlying u=some .string) (hi:P.info? e=some i) (hz:i.zero=some (.int .u8 0))
  (hsize:i.size=1) (hby:i.bytes=1) (v:Value) (n:Nat) (xs:List Value) (hown:w.ownsRow base e 1 v n xs) (s:ByteArray)
  (h63:n+s.size≤maxLen) (hbytes:n+s.size≤140737488355328) (hbase:base≤w.heap.size) :
  ∃ v' w',(Builtin.append_ #[t,u] ty #[v,.string s]).run P w=.ok v' w'∧w'.ownsRow base e 1 v' (n+s.size) (xs++Lib.strCells s)∧w.grownBy w' v.ownBlock ∧
   (v'=.slice none 0 0↔v=.slice none 0 0∧s.size=0)∧LK w w'∧∀ k,v'.ownBlock=some k→v.ownBlock=some k∨w.heap.size≤k:=by
 obtain ⟨v',w',hr,h2,h3,h4⟩:=Lib.run_append_own_string (P:=P) w base t u ty e i ht hu hi hz hsize hby v n xs hown s h63 hbytes hbase
 refine ⟨v',w',hr,h2,h3,h4,?_⟩
 have hxl:xs.length=n:=by simpa using hown.1
 rcases hown.2 with ⟨rfl,rfl⟩ | ⟨g,cap,cur,rfl,hbg,hg,hnc,hcm,hcs,htake⟩
 ·by_cases hm:s.size=0
  ·have hv:v'=.slice none 0 0:=h4.2 ⟨rfl,hm⟩
   refine ⟨⟨fun b r hb=>⟨r,by rw [h3.block b (Array.getElem?_eq_some_iff.1 hb).1 (by simp [Value.ownBlock])];exact hb,rfl,rfl,rfl,rfl,rfl⟩,fun b hb=>by rw [h3.block b (Array.getElem?_eq_some_iff.1 hb).1 (by simp [Value.ownBlock])];exact hb,fun _=>?_⟩,fun k hk=>by rw [hv] at hk;cases hk⟩
   have hf:=Lib.run_firstCells_string (P:=P) w 1 s
   rw [hm] at hf
   have:(Builtin.append_ #[t,u] ty #[.slice none 0 0,.string s]).run P w=.ok (.slice none 0 0) w:=by
    simp [Builtin.append_,run_underlying ht,run_underlying hu,Go.sizeOf,typeInfo,hi,hsize,Builtin.lenOf,hm,hf]
   rw [this] at hr
   cases hr
   exact Nat.le_refl _
  ·have hr2:=run_append_nil_string (P:=P) w t u ty e i (.int .u8 0) ht hu hi hz s (by omega) (by omega) (by rw [hby];omega)
   rw [hr2] at hr
   cases hr
   exact ⟨(LK.drew _).trans (LK.alloc _ _),fun k hk=>by cases hk;exact .inr (Nat.le_refl _)⟩
 ·by_cases hroom:n+s.size≤cap
  ·have hcs':cur.size=cap:=by simpa using hcs
   have hr2:=Lib.run_append_room_string (P:=P) (w:=w) t u ty e i ht hu hi hsize g n cap cur hg s hroom (by omega)
   rw [hr2] at hr
   cases hr
   refine ⟨.of (Nat.le_refl _) fun b o hb hne=>?_,fun k hk=>.inl hk⟩
   by_cases hbg:b=g
   ·subst hbg
    rw [hg] at hb
    cases hb
    exact absurd rfl (hne _ _ _)
   ·rw [setRow_other w g b _ hbg];exact hb
  ·have holds:∀ j u,xs[j]? = some u→w.cell? ((⟨g,0,none⟩:Addr).add j)=some u:=hown.cells (g:=g) rfl
   have hr2:=Lib.run_append_grow_string (P:=P) (w:=w) t u ty e i (.int .u8 0) ht hu hi hz ⟨g,0,none⟩ n cap xs (by rw [hsize];simpa using hxl) holds s (by omega) (by omega) (by rw [hby];exact growslice_fits (by omega) (by omega))
   rw [hr2] at hr
   cases hr
   exact ⟨(LK.drew _).trans (LK.alloc _ _),fun k hk=>by cases hk;exact .inr (Nat.le_refl _)⟩
theorem wpList_append_str {ops:Array Oper} {rest:List Oper} {o:Oper} {a:Act} {Q:Exit→Act→World→Prop} (hgd:o.guard=none) (sl x:Operand) (t u:TypeId)
  (ho:o.op=.call { callee:=.builtin .append,args:=#[sl,x],argTypes:=#[t,u] })
  (base:Nat) (e:TypeId) (i:TypeInfo) (ht:P.underlying t=some (.slice e)) (hu:P.underlying u=some .string) (hi:P.info? e=some i) (hz:i.zero=some (.int .u8 0))
  (hsize:i.size=1) (hby:i.bytes=1)
  (v:Value) (n:Nat) (xs:List Value) (hs:a.eval sl=v) (hown:w.ownsRow base e 1 v n xs) (s:ByteArray) (hx:a.eval x=.string s)
  (h63:n+s.size≤maxLen) (hbytes:n+s.size≤140737488355328) (hbase:base≤w.heap.size)
  (h:∀ v' w',w'.ownsRow base e 1 v' (n+s.size) (xs++Lib.strCells s)→w.grownBy w' v.ownBlock→(v'=.slice none 0 0↔v=.slice none 0 0∧s.size=0)→LK w w'→(∀ k,v'.ownBlock=some k→v.ownBlock=some k∨w.heap.size≤k)→wpList P ops Q rest (a.put o.dst v') w'):wpList P ops Q (o::rest) a w:=by
 refine wpList_plain hgd fun K hK=>?_
 obtain ⟨v',w',hr,h2,h3,h4,h5,h6⟩:=run_append_str (P:=P) base t u o.type e i ht hu hi hz hsize hby v n xs hown s h63 hbytes hbase
 unfold Oper.wp execOp
 simp only [ho,resolve,invoke,builtin,Sem.run_bind,Sem.run_pure,Result.andThen_ok,List.map_toArray,List.map_cons,List.map_nil,hs,hx,hr]
 exact hK _ _ (h v' w' h2 h3 h4 h5 h6)
end

section
variable {P:Program} {ρ:Ren}
theorem BldChg.refl (w:World) (b:Nat) (u:Value):BldChg w w b u u:=⟨rfl,rfl,rfl,Nat.le_refl _,LK.refl _,fun _ _ _ _=>rfl,fun _ h=>.inl h⟩
theorem bldChg_set {w:World} {b:Nat} {u u':Value} (o:Nat) (v:Value) (h:∀ k,u'.ownBlock=some k→u.ownBlock=some k∨w.heap.size≤k):BldChg w (w.setCell ⟨b,o,none⟩ v) b u u' :=
 ⟨rfl,rfl,rfl,by simp,LK.setCell _ _ _,fun k hk hne _=>by
  show (w.heap.modify b _)[k]? = _
  rw [Array.getElem?_modify,if_neg (Ne.symm hne)],h⟩
theorem BldChg.trans {w1 w2 w3:World} {b:Nat} {u1 u2 u3:Value} (h:BldChg w1 w2 b u1 u2) (k:BldChg w2 w3 b u2 u3):BldChg w1 w3 b u1 u3 :=
 ⟨k.os.trans h.os,k.tape.trans h.tape,k.output.trans h.output,Nat.le_trans h.size k.size,h.lk.trans k.lk,fun j hj h1 h2=>by
  rw [k.block j (Nat.lt_of_lt_of_le hj h.size) h1 (fun e=>?_),h.block j hj h1 h2]
  rcases h.own j e with h3 | h3
  ·exact h2 h3
  ·omega,fun j hj=>by
  rcases k.own j hj with h1 | h1
  ·exact h.own j h1
  ·exact .inr (Nat.le_trans h.size h1)⟩
theorem freeze_same (w:World) (a:Addr) (n:Nat):(w.freeze a n).os=w.os∧(w.freeze a n).tape=w.tape∧(w.freeze a n).output=w.output∧(w.freeze a n).heap.size=w.heap.size∧(w.freeze a n).drawn=w.drawn:=by
 unfold World.freeze
 split<;>simp
def BldUsed (w:World) (b:Nat) (T e:TypeId) (u:Value) (s:List UInt8):Prop:=w.heap[b]? = some (.cells #[.pointer (some ⟨b,0,none⟩),u] T (0,0))∧w.ownsRow 0 e 1 u s.length (bytV s)∧u.ownBlock≠some b∧(s=[]→u=.slice none 0 0)
theorem BldUsed.at {w:World} {b:Nat} {T e:TypeId} {u:Value} {s:List UInt8} (h:BldUsed w b T e u s):BldAt w b T e u s:=⟨_,h.1,.inr rfl,h.2.1,h.2.2.1,h.2.2.2⟩
set_option maxHeartbeats 1000000 in
set_option maxRecDepth 100000 in
theorem bld_fresh (L:Lays.n240 P ρ) {T e:TypeId} (hT:BltOK P T (ρ.t 72) e) (b:Nat) (w:World) (h0:w.cell? ⟨b,0,none⟩=some (.pointer none)) (hsh:w.shape? b=some (T,2)) (hfz:w.frozen? ⟨b,0,none⟩=false) :
  Calls P (ρ.f 240) #[.pointer (some ⟨b,0,none⟩)] w fun e w'=>e=.returned (.tuple #[])∧w'=w.setCell ⟨b,0,none⟩ (.pointer (some ⟨b,0,none⟩)):=by
 obtain ⟨j,hj,hjs⟩:=Option.map_eq_some_iff.1 hT.size
 have mixed:=L.mixed
 have t72:=L.t72;have a72:=L.a72;have z72:=L.z72;have v72:=L.v72;have u72:=run_underlying L.t72
 have t70:=L.t70;have a70:=L.a70;have z70:=L.z70;have v70:=L.v70;have u70:=run_underlying L.t70
 have t9:=L.t9;have a9:=L.a9;have z9:=L.z9;have v9:=L.v9;have u9:=run_underlying L.t9
 have t4:=L.t4;have a4:=L.a4;have z4:=L.z4;have v4:=L.v4;have u4:=run_underlying L.t4
 have t164:=L.t164;have a164:=L.a164;have z164:=L.z164;have v164:=L.v164;have u164:=run_underlying L.t164
 go_enter L.f240,Body.n240_ntmps ρ
 go_wp2
 rw [Lib.run_to_unsafe w ⟨b,0,none⟩ L.t70 L.t164 hj (by rw [hjs];decide) hsh (Nat.zero_lt_succ 1)]
 simp only [Result.andThen]
 rw [Oper.upon_value]
 go_wp2
 rw [run_callFunc_extern L.f276 (by kernel_rfl) (by kernel_rfl) (by kernel_rfl) (e:=Extern.AbiNoEscape.same) (by kernel_rfl)]
 rw [Lib.run_noEscape]
 simp only [Result.andThen]
 rw [Oper.upon_value]
 go_wp2
 rw [Lib.run_from_unsafe w ⟨b,0,none⟩ L.t164 L.t70 hj hsh hT.lies]
 simp only [Result.andThen]
 rw [Oper.upon_value]
 go_wp2
 go_end0
 exact ⟨rfl,rfl⟩
theorem bld_check (L:Lays.n240 P ρ) {T e:TypeId} (hT:BltOK P T (ρ.t 72) e) (X:Builder.X72 P ρ) (b:Nat) {u:Value} {s:List UInt8} (w:World) (h:BldAt w b T e u s) :
  Calls P (ρ.f 240) #[.pointer (some ⟨b,0,none⟩)] w fun en w'=>en=.returned (.tuple #[])∧BldUsed w' b T e u s∧BldChg w w' b u u:=by
 obtain ⟨p,h1,h2,h3,h4,h5⟩:=h
 rcases h2 with rfl | rfl
 ·refine (bld_fresh L hT b w (by rw [Lib.cell_of_heap h1];rfl) (by simp [World.shape?,h1]) (Lib.frozen_of_heap h1 0)).mono ?_
  rintro en w' ⟨rfl,rfl⟩
  refine ⟨rfl,⟨?_,?_,h4,h5⟩,bldChg_set 0 _ fun _ h=>.inl h⟩
  ·show (w.heap.modify b _)[b]? = _
   rw [Array.getElem?_modify,if_pos rfl,h1]
   rfl
  ·refine ⟨h3.1,?_⟩
   rcases h3.2 with h | ⟨g,cap,cur,hv,hb,hg,hr⟩
   ·exact .inl h
   ·refine .inr ⟨g,cap,cur,hv,hb,?_,hr⟩
    have hne:b≠g:=fun e=>h4 (by rw [hv,e];rfl)
    show (w.heap.modify b _)[g]? = _
    rw [Array.getElem?_modify,if_neg hne,hg]
 ·refine (Any.Builder_copyCheck_used L X b w (by rw [Lib.cell_of_heap h1];rfl)).mono ?_
  rintro en w' ⟨rfl,rfl⟩
  exact ⟨rfl,⟨h1,h3,h4,h5⟩,BldChg.refl _ _ _⟩
set_option maxHeartbeats 2000000 in
set_option maxRecDepth 100000 in
theorem bld_write (L:Lays.n166 P ρ) (X:Builder.Extra P ρ) {T:TypeId} (hT:BltOK P T (ρ.t 72) (ρ.t 5)) (b:Nat) (u:Value) (s t:List UInt8) (w:World) (h:BldAt w b T (ρ.t 5) u s) (hlen:s.length+t.length≤140737488355328) :
  Calls P (ρ.f 166) #[.pointer (some ⟨b,0,none⟩),.string ⟨t.toArray⟩] w fun en w'=>∃ u',en=.returned (.tuple #[.int .i64 t.length,.nilIface])∧BldAt w' b T (ρ.t 5) u' (s++t)∧BldChg w w' b u u':=by
 obtain ⟨i0,hi,hz0,hz1,hz2⟩:=info_parts X.infoByte
 have hts:(ByteArray.mk t.toArray).size=t.length:=by simp [ByteArray.size]
 have mixed:=L.mixed
 have t72:=L.t72;have a72:=L.a72;have z72:=L.z72;have v72:=L.v72;have u72:=run_underlying L.t72
 have t70:=L.t70;have a70:=L.a70;have z70:=L.z70;have v70:=L.v70;have u70:=run_underlying L.t70
 have t37:=L.t37;have a37:=L.a37;have z37:=L.z37;have v37:=L.v37;have u37:=run_underlying L.t37
 have t3:=L.t3;have a3:=L.a3;have z3:=L.z3;have v3:=L.v3;have u3:=run_underlying L.t3
 have t9:=L.t9;have a9:=L.a9;have z9:=L.z9;have v9:=L.v9;have u9:=run_underlying L.t9
 have t4:=L.t4;have a4:=L.a4;have z4:=L.z4;have v4:=L.v4;have u4:=run_underlying L.t4
 have t164:=L.t164;have a164:=L.a164;have z164:=L.z164;have v164:=L.v164;have u164:=run_underlying L.t164
 have t5:=X.t5;have a5:=X.a5;have z5:=X.z5;have v5:=X.v5;have u5:=run_underlying X.t5
 have e240:∀ args w,(callFunc (ρ.f 240) args).run P w=.ok (.enter (ρ.f 240) args) w:=enters_of L.f240 (by kernel_rfl) rfl
 go_enter L.f166,Body.n166_ntmps ρ
 go_wp2_with (go_at_fn (ρ.f 240);refine (bld_check { L with } hT X.toX72 b _ h).mono ?_)
 rintro en w1 ⟨rfl,⟨hbk,hown,hne,hnil⟩,hch1⟩
 have c0:w1.cell? ⟨b,0,none⟩=some (.pointer (some ⟨b,0,none⟩)):=by rw [Lib.cell_of_heap hbk];rfl
 have c1:w1.cell? ⟨b,1,none⟩=some u:=by rw [Lib.cell_of_heap hbk];rfl
 go_wp2_with (at_builtin;refine wpList_append_str rfl _ _ (ρ.t 37) (ρ.t 9) rfl 0 (ρ.t 5) i0 L.t37 L.t9 hi hz0 hz1 hz2 _ _ _ rfl hown ⟨t.toArray⟩ rfl ?c3 ?c4 (Nat.zero_le _) ?_)
 case c3=>rw [hts];unfold maxLen;omega
 case c4=>rw [hts];omega
 intro v' w2 hown' hgrow hiff hlk how
 have hlt:b<w1.heap.size:=(Array.getElem?_eq_some_iff.1 hbk).1
 have hb2:w2.heap[b]? = some (.cells #[.pointer (some ⟨b,0,none⟩),u] T (0,0)):=by
  rw [hgrow.block b hlt (fun e=>hne e.symm)]
  exact hbk
 have d0:w2.cell? ⟨b,0,none⟩=some (.pointer (some ⟨b,0,none⟩)):=by rw [Lib.cell_of_heap hb2];rfl
 have d1:w2.cell? ⟨b,1,none⟩=some u:=by rw [Lib.cell_of_heap hb2];rfl
 have f1:w2.frozen? ⟨b,1,none⟩=false:=Lib.frozen_of_heap hb2 1
 obtain ⟨ao,n',cap,rfl⟩:∃ ao n' cap,v'=.slice ao n' cap:=by
  rcases hown'.2 with ⟨hv,_⟩ | ⟨g,cap,cur,hv,_⟩
  ·exact ⟨_,_,_,hv⟩
  ·exact ⟨_,_,_,hv⟩
 go_wp2
 go_ret2
 have hneb:(Value.slice ao n' cap).ownBlock≠some b:=fun e=>by
  rcases how b e with h1 | h1
  ·exact hne h1
  ·omega
 have hcells:bytV s++Lib.strCells ⟨t.toArray⟩=bytV (s++t):=by simp [bytV,Lib.strCells]
 simp only [hts,hcells] at hown'
 refine ⟨.slice ao n' cap,by simp [ByteArray.size],⟨_,?_,.inr rfl,⟨by rw [List.length_append];exact hown'.1,?_⟩,hneb,fun hst=>?_⟩,hch1.trans ?_⟩
 ·show (w2.heap.modify b _)[b]? = _
  rw [Array.getElem?_modify,if_pos rfl,hb2]
  rfl
 ·rw [List.length_append]
  rcases hown'.2 with h | ⟨g,cap',cur,hv,hb,hg,hr⟩
  ·exact .inl h
  ·refine .inr ⟨g,cap',cur,hv,hb,?_,hr⟩
   have hbg:b≠g:=fun e=>hneb (by rw [hv,e];rfl)
   show (w2.heap.modify b _)[g]? = _
   rw [Array.getElem?_modify,if_neg hbg,hg]
 ·obtain ⟨rfl,rfl⟩:=List.append_eq_nil_iff.1 hst
  exact hiff.2 ⟨hnil rfl,by simp [ByteArray.size]⟩
 ·have q:BldChg w1 w2 b u (.slice ao n' cap):=⟨hgrow.os,hgrow.tape,hgrow.output,hgrow.size,hlk,fun k hk _ h2=>hgrow.block k hk (fun e=>h2 e.symm),how⟩
  exact q.trans (bldChg_set 1 _ fun _ h=>.inl h)
theorem BldChg.drew {w w':World} {b:Nat} {u:Value} (h:BldChg w w' b u (.slice none 0 0)):BldChg w w'.drew b u (.slice none 0 0) :=
 ⟨h.os,h.tape,h.output,h.size,h.lk.trans (LK.drew _),h.block,h.own⟩
set_option maxHeartbeats 1000000 in
set_option maxRecDepth 100000 in
theorem bld_str (L:Lays.n169 P ρ) (X:Builder.Extra P ρ) {T:TypeId} (b:Nat) (u:Value) (l:List UInt8) (w:World) (h:BldAt w b T (ρ.t 5) u l) :
  Calls P (ρ.f 169) #[.pointer (some ⟨b,0,none⟩)] w fun e w'=>e=.returned (.string ⟨l.toArray⟩)∧BldChg w w' b u (.slice none 0 0):=by
 obtain ⟨p,hbk,_,hown,hne,hnil⟩:=h
 have mixed:=L.mixed
 have t72:=L.t72;have a72:=L.a72;have z72:=L.z72;have v72:=L.v72;have u72:=run_underlying L.t72
 have t70:=L.t70;have a70:=L.a70;have z70:=L.z70;have v70:=L.v70;have u70:=run_underlying L.t70
 have t37:=L.t37;have a37:=L.a37;have z37:=L.z37;have v37:=L.v37;have u37:=run_underlying L.t37
 have t127:=L.t127;have a127:=L.a127;have z127:=L.z127;have v127:=L.v127;have u127:=run_underlying L.t127
 have t3:=L.t3;have a3:=L.a3;have z3:=L.z3;have v3:=L.v3;have u3:=run_underlying L.t3
 have t9:=L.t9;have a9:=L.a9;have z9:=L.z9;have v9:=L.v9;have u9:=run_underlying L.t9
 have t5:=X.t5;have a5:=X.a5;have z5:=X.z5;have v5:=X.v5;have u5:=run_underlying X.t5
 have q0:BldChg w w b u (.slice none 0 0):=⟨rfl,rfl,rfl,Nat.le_refl _,LK.refl _,fun _ _ _ _=>rfl,fun _ h=>by cases h⟩
 by_cases h0:l=[]
 ·have hu:=hnil h0
  subst hu
  subst h0
  have c1:w.drew.cell? ⟨b,1,none⟩=some (.slice none 0 0):=by
   have:w.drew.heap[b]? = some (.cells #[p,.slice none 0 0] T (0,0)):=hbk
   rw [Lib.cell_of_heap this];rfl
  have hSD:(Builtin.unsafeSliceData_ #[(ρ.t 37)] (ρ.t 127) #[.slice none 0 0]).run P w.drew=.ok (.pointer none) w.drew:=rfl
  have hUS:=Any.unsafeString_none L X
  go_enter L.f169,Body.n169_ntmps ρ
  go_wp2
  go_region_o
  all_goals (go_wp2;go_ret;exact ⟨rfl,q0.drew⟩)
 ·have hl0:l.length≠0:=by simpa using h0
  obtain ⟨g,cap,cur,rfl,hbg,hg,hnc,hcm,hcs,htake⟩:∃ g cap cur,u=.slice (some ⟨g,0,none⟩) l.length cap∧0≤g∧w.heap[g]? = some (.cells cur (ρ.t 5) (0,0))∧l.length≤cap∧cap≤maxLen∧cur.size=cap*1∧cur.toList.take (l.length*1)=bytV l:=by
   rcases hown.2 with ⟨_,hz⟩ | ⟨g,cap,cur,hv,r⟩
   ·exact absurd hz hl0
   ·exact ⟨g,cap,cur,hv,r⟩
  have c1:w.drew.cell? ⟨b,1,none⟩=some (.slice (some ⟨g,0,none⟩) l.length cap):=by
   have:w.drew.heap[b]? = some (.cells #[p,.slice (some ⟨g,0,none⟩) l.length cap] T (0,0)):=hbk
   rw [Lib.cell_of_heap this];rfl
  have hSD:(Builtin.unsafeSliceData_ #[(ρ.t 37)] (ρ.t 127) #[.slice (some ⟨g,0,none⟩) l.length cap]).run P w.drew=.ok (.pointer (some ⟨g,0,none⟩)) w.drew :=
   Lib.run_unsafeSliceData_row _ _ _ _ _ _ (by omega)
  have hUS:(Builtin.unsafeString_ #[(ρ.t 127),(ρ.t 3)] (ρ.t 9) #[.pointer (some ⟨g,0,none⟩),.int .i64 l.length]).run P w.drew=.ok (.string ⟨l.toArray⟩) (w.drew.freeze ⟨g,0,none⟩ l.length):=by
   refine Lib.run_unsafeString_row w.drew (ρ.t 127) (ρ.t 3) (ρ.t 9) (ρ.t 5) L.t127 X.cellsByte g cur.size (by have hg':w.drew.heap[g]? = some (.cells cur (ρ.t 5) (0,0)):=hg;simp [World.shape?,hg']) l h0 (by omega) (by unfold maxLen at hcm;omega) ?_
   intro j x hx
   have:=hown.cells (g:=g) rfl j (.int .u8 x.toNat) (by simp [bytV,hx])
   exact this
  have q1:BldChg w (w.drew.freeze ⟨g,0,none⟩ l.length) b (.slice (some ⟨g,0,none⟩) l.length cap) (.slice none 0 0):=by
   have hfr:∀ k,k≠g→(w.drew.freeze ⟨g,0,none⟩ l.length).heap[k]? = w.heap[k]? := fun k hk=>by
    unfold World.freeze
    rw [if_neg hl0]
    show (w.drew.heap.modify g _)[k]? = _
    rw [Array.getElem?_modify,if_neg (Ne.symm hk)]
    rfl
   obtain ⟨e1,e2,e3,e4,e5⟩:=freeze_same w.drew ⟨g,0,none⟩ l.length
   refine ⟨e1,e2,e3,Nat.le_of_eq e4.symm,.of (by rw [e5];exact Nat.le_succ _) fun k o hk hne=>?_,fun k hk _ h2=>hfr k fun e=>h2 (by rw [e];rfl),fun _ h=>by cases h⟩
   by_cases hkg:k=g
   ·subst hkg
    rw [hg] at hk
    cases hk
    exact absurd rfl (hne _ _ _)
   ·rw [hfr k hkg];exact hk
  go_enter L.f169,Body.n169_ntmps ρ
  go_wp2
  go_region_o
  all_goals (go_wp2;go_ret;exact ⟨rfl,q1⟩)
theorem ext_wstr (L:Lays.n166 P ρ) (X:Builder.Extra P ρ) {f TB e:Nat} (hf:ρ.f 166=f) (hT:ρ.t 72=TB) (he:ρ.t 5=e) (en:∀ (args:Array Value) (w:World),(callFunc f args).run P w=.ok (.enter f args) w):ExtOK P f (.wstr TB e):=by
 subst hf hT he
 exact ⟨en,fun T hT b u s t w h hl=>bld_write L X hT b u s t w h hl⟩
theorem ext_stri (L:Lays.n169 P ρ) (X:Builder.Extra P ρ) {f TB e:Nat} (hf:ρ.f 169=f) (hT:ρ.t 72=TB) (he:ρ.t 5=e) (en:∀ (args:Array Value) (w:World),(callFunc f args).run P w=.ok (.enter f args) w):ExtOK P f (.stri TB e):=by
 subst hf hT he
 exact ⟨en,fun T hT b u s w h=>bld_str L X b u s w h⟩
end
section
variable {P:Program} {ρ:Ren} {S:Cells} {w w':World} {η:Eta}
theorem keep_below (hin:InW S w) (h:Below w.heap.size w w'):Keep S w S w':=⟨fun _ _ h=>h,fun b o hb=>h.cell (p:=⟨b,o,none⟩) (hin.lt b o hb)⟩
theorem grow_below (hin:InW S w) (h:Below w.heap.size w w') (hl:LK w w'):Grow w.heap.size S w S w':=⟨h,keep_below hin h,fun b o hb=>Nat.lt_of_lt_of_le (hin.lt b o hb) h.size,fun _ _ h=>.inl h,hl⟩
theorem rv_str {x:List UInt8} {v:Value} (h:RM S w η (Ty.str.rv x) v):v=.string ⟨x.toArray⟩∧x.length≤maxLen:=(PM.str (S:=S) (w:=w) (η:=η)).1 h
theorem rv_int {x:Int} {v:Value} (h:RM S w η ((Ty.int .i64).rv x) v):v=.int .i64 x∧IntKind.i64.has x:=(PM.int (S:=S) (w:=w) (η:=η)).1 h
theorem pm_str {x:List UInt8} (h:x.length≤maxLen):PM S w η (resPV (rvs [.str] x)) (.string ⟨x.toArray⟩):=(PM.str (S:=S) (w:=w) (η:=η)).2 ⟨rfl,h⟩
theorem trimPrefix_length (s p:List UInt8):(Lib.trimPrefix s p).length≤s.length:=by
 unfold Lib.trimPrefix
 split
 ·rw [List.length_drop];omega
 ·exact Nat.le_refl _
theorem spec_pref (L:Lays.n101 P ρ) {f:Nat} (hf:ρ.f 101=f):SpecOK P f ⟨[.str,.str],[.str],fun x=>some (prefM x.1 x.2)⟩:=by
 subst hf
 intro x r hr S w η vs hi hv
 have hr:some (prefM x.1 x.2)=some r:=hr
 have hr:=Option.some.inj hr
 cases hv with
 | cons h1 h2 =>
  cases h2 with
  | cons h2 h3 =>
   cases h3
   obtain ⟨rfl,l1⟩:=rv_str h1
   obtain ⟨rfl,l2⟩:=rv_str h2
   refine (Any.strings_TrimPrefix L ⟨x.1.toArray⟩ ⟨x.2.toArray⟩ w).mono fun en w' ⟨he,hw⟩=>?_
   subst hw
   refine ⟨_,S,he,Grow.refl hi.lt,?_⟩
   rw [← hr]
   exact pm_str (Nat.le_trans (trimPrefix_length _ _) l1)
theorem dropWhile_length {α:Type} (p:α→Bool):∀ l:List α,(l.dropWhile p).length≤l.length
 | []=>Nat.le_refl _
 | x::l=>by
  unfold List.dropWhile
  split
  ·exact Nat.le_trans (dropWhile_length p l) (Nat.le_succ _)
  ·exact Nat.le_refl _
theorem trimS_length (s c:List UInt8):(Lib.trimS s c).length≤s.length:=by
 unfold Lib.trimS Lib.trimLeftS Lib.trimRightS
 refine Nat.le_trans (dropWhile_length _ _) ?_
 rw [List.length_reverse]
 refine Nat.le_trans (dropWhile_length _ _) ?_
 rw [List.length_reverse]
 exact Nat.le_refl _
theorem spec_trim (hd:drawsB=false) (L:Lays.n160 P ρ) (h116:(P.info? (ρ.t 116)).map (fun i=>(i.zero,i.size))=some (some (.agg (Array.replicate 256 (.bool false))),256)) {f:Nat} (hf:ρ.f 160=f):SpecOK P f ⟨[.str,.str],[.str],fun x=>trimM x.1 x.2⟩:=by
 subst hf
 intro x r hr S w η vs hi hv
 have hr:trimM x.1 x.2=some r:=hr
 unfold trimM at hr
 split at hr
 ·rename_i c1 c2
  have c2:=of_decide_eq_true c2
  have hr:=Option.some.inj hr
  cases hv with
  | cons h1 h2 =>
   cases h2 with
   | cons h2 h3 =>
    cases h3
    obtain ⟨rfl,l1⟩:=rv_str h1
    obtain ⟨rfl,l2⟩:=rv_str h2
    refine (Any.strings_Trim_laid L h116 ⟨x.1.toArray⟩ ⟨x.2.toArray⟩ w (by simpa [ByteArray.size,maxLen] using l1) (by simpa [ByteArray.size] using c2) (ascii_of_all (by simpa using c1))).mono fun en w' ⟨he,hw⟩=>?_
    refine ⟨_,S,he,grow_below hi hw (.below hd hw.block),?_⟩
    rw [← hr]
    exact pm_str (Nat.le_trans (trimS_length _ _) l1)
 ·cases hr
theorem spec_rept (hd:drawsB=false) (L:Lays.n105 P ρ) (X:Builder.Extra P ρ) {f:Nat} (hf:ρ.f 105=f):SpecOK P f ⟨[.str,.int .i64],[.str],fun x=>rptM x.1 x.2⟩:=by
 subst hf
 intro x r hr S w η vs hi hv
 have hr:rptM x.1 x.2=some r:=hr
 unfold rptM at hr
 split at hr
 ·rename_i c1 c2 c3
  have c1:=of_decide_eq_true c1
  have c2:=of_decide_eq_true c2
  have c3:=of_decide_eq_true c3
  have hr:=Option.some.inj hr
  cases hv with
  | cons h1 h2 =>
   cases h2 with
   | cons h2 h3 =>
    cases h3
    obtain ⟨rfl,l1⟩:=rv_str h1
    obtain ⟨rfl,l2⟩:=rv_int h2
    have hc:=Any.strings_Repeat L X ⟨x.1.toArray⟩ x.2.toNat w (by omega) (by simpa [ByteArray.size] using c2)
    rw [Int.toNat_of_nonneg c1] at hc
    refine hc.mono fun en w' ⟨he,hw⟩=>?_
    refine ⟨_,S,he,grow_below hi hw (.below hd hw.block),?_⟩
    rw [← hr]
    refine pm_str ?_
    rw [Lib.repeatL_length,Nat.mul_comm]
    unfold maxLen
    omega
 ·cases hr
theorem tab_of_glob {P:Program} {name:String} {g:Nat} {xs:List Int} (hg:P.globalNamed name=some g) (ht:lk globTab g=some ⟨.int .u64,xs⟩) (h0:xs≠[]) (hi:InW S w):Lib.TabIs P w name .u64 xs:=by
 obtain ⟨⟨_,h1⟩,h2⟩:=hi.gl g _ ht
 have h2':∀ i (x:Int),xs[i]? = some x→w.cell? ⟨g,i,none⟩=some (.int .u64 x):=fun i x hx=>by
  obtain ⟨es,h3,h4⟩:=h2 i x hx
  obtain ⟨rfl,_⟩:=h3
  have:=(h4 0 _ rfl).2
  simpa [Ty.size] using this
 have h1':w.cell? ⟨g,xs.length,none⟩=none:=by simpa [Ty.size] using h1
 obtain ⟨x0,r,rfl⟩:=List.exists_cons_of_ne_nil h0
 obtain ⟨cs,el,fr,hc,_⟩:=cells_of_cell? (h2' 0 x0 rfl)
 have hcell:∀ i,w.cell? ⟨g,i,none⟩=cs[i]? := fun i=>by simp [World.cell?,hc]
 unfold Lib.TabIs World.var?
 rw [hg]
 show (match w.heap[g]? with | some (.cells cs _ _)=>some cs | _=>none)=_
 rw [hc]
 refine congrArg some (Array.ext_getElem? fun i=>?_)
 rw [← hcell]
 by_cases hi:i<(x0::r).length
 ·rw [h2' i _ (List.getElem?_eq_getElem hi),List.getElem?_toArray,List.getElem?_map,List.getElem?_eq_getElem hi]
  rfl
 ·have hsz:cs.size≤(x0::r).length:=by
   have:=h1'
   rw [hcell] at this
   exact Array.getElem?_eq_none_iff.1 this
  rw [hcell,Array.getElem?_eq_none (by omega),Array.getElem?_eq_none (by simpa using hi)]
theorem itoa_length (n:Int) (h:IntKind.i64.has n):(Lib.itoa n).length≤maxLen:=by
 have key:∀ (k u:Nat),u<10 ^ k→(Lib.decDigits u).length≤k+1:=by
  intro k
  induction k with
  | zero =>
   intro u hu
   rw [Lib.decDigits,dif_pos (by omega)]
   simp
  | succ k ih =>
   intro u hu
   rw [Lib.decDigits]
   split
   ·simp
   ·rw [List.length_append]
    have:=ih (u / 10) (by rw [Nat.pow_succ] at hu;omega)
    simp only [List.length_cons,List.length_nil]
    omega
 have:=has_i64.1 h
 unfold Lib.itoa
 split
 ·have:=key 20 n.natAbs (by omega)
  simp only [List.length_cons,maxLen]
  omega
 ·have:=key 20 n.toNat (by omega)
  simp only [maxLen]
  omega
theorem below_grow (w:World) (k:Nat) (os:Array Obj):Below w.heap.size w (grow (w.drewN k) os):=by
 refine ⟨rfl,rfl,rfl,by rw [size_grow];show w.heap.size≤w.heap.size+_;omega,fun b hb=>?_⟩
 rw [heap_grow_old _ _ (show b<(w.drewN k).heap.size from hb)]
 rfl
theorem lk_grow (w:World) (k:Nat) (os:Array Obj):LK w (grow (w.drewN k) os):=.of (show w.drawn≤w.drawn+k by omega) fun b o hb _=>by
 rw [(below_grow w k os).block b (Array.getElem?_eq_some_iff.1 hb).1];exact hb
theorem spec_itoa (L:LaysM.n171 P ρ) {f g:Nat} (hf:ρ.f 171=f) (hg:P.globalNamed "internal/strconv.uint64pow10"=some g) (ht:lk globTab g=some ⟨.int .u64,Lib.pow10Tab⟩):SpecOK P f ⟨[.int .i64],[.str],fun x=>some (itoaM x)⟩:=by
 subst hf
 intro x r hr S w η vs hi hv
 have hr:some (itoaM x)=some r:=hr
 have hr:=Option.some.inj hr
 cases hv with
 | cons h1 h2 =>
  cases h2
  obtain ⟨rfl,l1⟩:=rv_int h1
  have l2:=has_i64.1 l1
  refine (Any.strconv_Itoa L x l2.1 l2.2 w (tab_of_glob hg ht (by simp [Lib.pow10Tab]) hi)).mono fun en w' ⟨he,k,os,hw⟩=>?_
  subst hw
  refine ⟨_,S,he,grow_below hi (below_grow _ _ _) (lk_grow _ _ _),?_⟩
  rw [← hr]
  exact pm_str (itoa_length x l1)
theorem ext_atoi (L:LaysC.n172 P ρ) {f:Nat} (hf:ρ.f 172=f) (en:∀ (args:Array Value) (w:World),(callFunc f args).run P w=.ok (.enter f args) w):ExtOK P f (.atoi atoiM):=by
 subst hf
 refine ⟨en,fun s n hn=>?_⟩
 unfold atoiM at hn
 split at hn
 ·rename_i v hv hl
  have hl:=of_decide_eq_true hl
  split at hn
  ·rename_i c1 c2
   have c1:=of_decide_eq_true c1
   have c2:=of_decide_eq_true c2
   have hn:=Option.some.inj hn
   subst hn
   refine ⟨has_i64.2 ⟨c1,c2⟩,fun S w hi=>?_⟩
   refine (Any.strconv_Atoi_ok L ⟨s.toArray⟩ (by simpa [ByteArray.size] using hl) v (by simpa using hv) w).mono fun en w' ⟨he,hw⟩=>?_
   rcases hw with rfl | ⟨t,rfl⟩
   ·exact ⟨S,he,Grow.refl hi.lt⟩
   ·have hb:Below w.heap.size w (Lib.bytesWorld w (ρ.t 5) t)∧LK w (Lib.bytesWorld w (ρ.t 5) t):=by
     unfold Lib.bytesWorld
     obtain ⟨e1,e2,e3,e4,e5⟩:=freeze_same (w.drew.alloc (.cells (Lib.bytesCells w (ρ.t 5) t) (ρ.t 5))) ⟨w.heap.size,(Lib.bytesCells w (ρ.t 5) t).size,none⟩ 1
     have hbl:∀ k,k<w.heap.size→((w.drew.alloc (.cells (Lib.bytesCells w (ρ.t 5) t) (ρ.t 5))).freeze ⟨w.heap.size,(Lib.bytesCells w (ρ.t 5) t).size,none⟩ 1).heap[k]? = w.heap[k]? := fun k hk=>by
      unfold World.freeze
      rw [if_neg (by decide)]
      show ((w.drew.alloc _).heap.modify w.heap.size _)[k]? = _
      rw [Array.getElem?_modify,if_neg (by omega)]
      exact Below.heap_alloc _ _ _ hk
     refine ⟨⟨e1,e2,e3,by rw [e4,World.size_alloc];exact Nat.le_succ _,hbl⟩,.of (by rw [e5];exact Nat.le_succ _) fun b o hb _=>?_⟩
     rw [hbl b (Array.getElem?_eq_some_iff.1 hb).1];exact hb
    exact ⟨S,he,grow_below hi hb.1 hb.2⟩
  ·cases hn
 ·cases hn
end
end Go.PE
namespace Go.Proofs
open Go.Shelf
def Tryz.lays141_ren:Go.Shelf.Ren:=⟨fun | 189=>41 | 125=>73 | 257=>72 | 128=>103 | 129=>104 | 294=>94 | 295=>95 | 296=>96 | 297=>97 | 298=>98 | 299=>99 | 216=>100 | 300=>101 | 301=>102 | 328=>131 | 329=>132 | 330=>133 | 331=>134 | 332=>135 | 215=>136 | 343=>162 | n=>n,fun | 28=>25 | 3=>3 | 46=>118 | 0=>0 | 51=>152 | 53=>154 | 4=>4 | 183=>144 | 182=>143 | 131=>149 | 5=>5 | 9=>9 | 218=>182 | 222=>186 | 228=>203 | 229=>45 | n=>n,fun | n=>n⟩
theorem Tryz.lays141:Go.Proofs.Lays.n189 Tryz.prog Tryz.lays141_ren:={
 mixed:=by kernel_rfl
 f125:=Tryz.func73.trans (congrArg some (by kernel_rfl))
 f128:=Tryz.func103.trans (congrArg some (by kernel_rfl))
 f129:=Tryz.func104.trans (congrArg some (by kernel_rfl))
 f189:=Tryz.func41.trans (congrArg some (by kernel_rfl))
 f215:=Tryz.func136.trans (congrArg some (by kernel_rfl))
 f216:=Tryz.func100.trans (congrArg some (by kernel_rfl))
 f257:=Tryz.func72.trans (congrArg some (by kernel_rfl))
 f294:=Tryz.func94.trans (congrArg some (by kernel_rfl))
 f295:=Tryz.func95.trans (congrArg some (by kernel_rfl))
 f296:=Tryz.func96.trans (congrArg some (by kernel_rfl))
 f297:=Tryz.func97.trans (congrArg some (by kernel_rfl))
 f298:=Tryz.func98.trans (congrArg some (by kernel_rfl))
 f299:=Tryz.func99.trans (congrArg some (by kernel_rfl))
 f300:=Tryz.func101.trans (congrArg some (by kernel_rfl))
 f301:=Tryz.func102.trans (congrArg some (by kernel_rfl))
 f328:=Tryz.func131.trans (congrArg some (by kernel_rfl))
 f329:=Tryz.func132.trans (congrArg some (by kernel_rfl))
 f330:=Tryz.func133.trans (congrArg some (by kernel_rfl))
 f331:=Tryz.func134.trans (congrArg some (by kernel_rfl))
 f332:=Tryz.func135.trans (congrArg some (by kernel_rfl))
 f343:=Tryz.func162.trans (congrArg some (by kernel_rfl))
 t0:=Tryz.underlying0
 a0:=Tryz.isAgg0
 z0:=Tryz.sizeOf0
 v0:=Tryz.zeroValue0
 t3:=Tryz.underlying3
 a3:=Tryz.isAgg3
 z3:=Tryz.sizeOf3
 v3:=Tryz.zeroValue3
 t4:=Tryz.underlying4
 a4:=Tryz.isAgg4
 z4:=Tryz.sizeOf4
 v4:=Tryz.zeroValue4
 t5:=Tryz.underlying5
 a5:=Tryz.isAgg5
 z5:=Tryz.sizeOf5
 v5:=Tryz.zeroValue5
 t9:=Tryz.underlying9
 a9:=Tryz.isAgg9
 z9:=Tryz.sizeOf9
 v9:=Tryz.zeroValue9
 t28:=Tryz.underlying25
 a28:=Tryz.isAgg25
 z28:=Tryz.sizeOf25
 v28:=Tryz.zeroValue25
 t46:=Tryz.underlying118
 a46:=Tryz.isAgg118
 z46:=Tryz.sizeOf118
 v46:=Tryz.zeroValue118
 t51:=Tryz.underlying152
 a51:=Tryz.isAgg152
 z51:=Tryz.sizeOf152
 v51:=Tryz.zeroValue152
 t53:=Tryz.underlying154
 a53:=Tryz.isAgg154
 z53:=Tryz.sizeOf154
 v53:=Tryz.zeroValue154
 t131:=Tryz.underlying149
 a131:=Tryz.isAgg149
 z131:=Tryz.sizeOf149
 v131:=Tryz.zeroValue149
 t182:=Tryz.underlying143
 a182:=Tryz.isAgg143
 z182:=Tryz.sizeOf143
 v182:=Tryz.zeroValue143
 t183:=Tryz.underlying144
 a183:=Tryz.isAgg144
 z183:=Tryz.sizeOf144
 v183:=Tryz.zeroValue144
 t218:=Tryz.underlying182
 a218:=Tryz.isAgg182
 z218:=Tryz.sizeOf182
 v218:=Tryz.zeroValue182
 t222:=Tryz.underlying186
 a222:=Tryz.isAgg186
 z222:=Tryz.sizeOf186
 v222:=Tryz.zeroValue186
 t228:=Tryz.underlying203
 a228:=Tryz.isAgg203
 z228:=Tryz.sizeOf203
 v228:=Tryz.zeroValue203
 t229:=Tryz.underlying45
 a229:=Tryz.isAgg45
 z229:=Tryz.sizeOf45
 v229:=Tryz.zeroValue45 }
def Tryz.lays1137_ren:Go.Shelf.Ren:=⟨fun | 101=>137 | 208=>163 | 206=>183 | n=>n,fun | 9=>9 | 4=>4 | 3=>3 | n=>n,fun | n=>n⟩
theorem Tryz.lays1137:Go.Proofs.Lays.n101 Tryz.prog Tryz.lays1137_ren:={
 mixed:=by kernel_rfl
 f101:=Tryz.func137.trans (congrArg some (by kernel_rfl))
 f206:=Tryz.func183.trans (congrArg some (by kernel_rfl))
 f208:=Tryz.func163.trans (congrArg some (by kernel_rfl))
 t3:=Tryz.underlying3
 a3:=Tryz.isAgg3
 z3:=Tryz.sizeOf3
 v3:=Tryz.zeroValue3
 t4:=Tryz.underlying4
 a4:=Tryz.isAgg4
 z4:=Tryz.sizeOf4
 v4:=Tryz.zeroValue4
 t9:=Tryz.underlying9
 a9:=Tryz.isAgg9
 z9:=Tryz.sizeOf9
 v9:=Tryz.zeroValue9 }
def Tryz.lays1138_ren:Go.Shelf.Ren:=⟨fun | 160=>138 | 232=>165 | 231=>164 | 227=>166 | 234=>168 | 233=>167 | 236=>170 | 235=>169 | 228=>186 | 271=>189 | 151=>188 | 197=>187 | 120=>203 | 152=>202 | 260=>201 | 137=>209 | 119=>210 | 224=>211 | 225=>212 | 217=>215 | 266=>216 | n=>n,fun | 9=>9 | 4=>4 | 3=>3 | 5=>5 | 117=>208 | 116=>207 | 0=>0 | 124=>211 | 21=>21 | 105=>226 | 46=>118 | 119=>246 | 139=>249 | 138=>248 | n=>n,fun | 3=>4 | 4=>5 | n=>n⟩
theorem Tryz.lays1138:Go.Proofs.Lays.n160 Tryz.prog Tryz.lays1138_ren:={
 mixed:=by kernel_rfl
 f119:=Tryz.func210.trans (congrArg some (by kernel_rfl))
 f120:=Tryz.func203.trans (congrArg some (by kernel_rfl))
 f137:=Tryz.func209.trans (congrArg some (by kernel_rfl))
 f151:=Tryz.func188.trans (congrArg some (by kernel_rfl))
 f152:=Tryz.func202.trans (congrArg some (by kernel_rfl))
 f160:=Tryz.func138.trans (congrArg some (by kernel_rfl))
 f197:=Tryz.func187.trans (congrArg some (by kernel_rfl))
 f217:=Tryz.func215.trans (congrArg some (by kernel_rfl))
 f224:=Tryz.func211.trans (congrArg some (by kernel_rfl))
 f225:=Tryz.func212.trans (congrArg some (by kernel_rfl))
 f227:=Tryz.func166.trans (congrArg some (by kernel_rfl))
 f228:=Tryz.func186.trans (congrArg some (by kernel_rfl))
 f231:=Tryz.func164.trans (congrArg some (by kernel_rfl))
 f232:=Tryz.func165.trans (congrArg some (by kernel_rfl))
 f233:=Tryz.func167.trans (congrArg some (by kernel_rfl))
 f234:=Tryz.func168.trans (congrArg some (by kernel_rfl))
 f235:=Tryz.func169.trans (congrArg some (by kernel_rfl))
 f236:=Tryz.func170.trans (congrArg some (by kernel_rfl))
 f260:=Tryz.func201.trans (congrArg some (by kernel_rfl))
 f266:=Tryz.func216.trans (congrArg some (by kernel_rfl))
 f271:=Tryz.func189.trans (congrArg some (by kernel_rfl))
 t0:=Tryz.underlying0
 a0:=Tryz.isAgg0
 z0:=Tryz.sizeOf0
 v0:=Tryz.zeroValue0
 t3:=Tryz.underlying3
 a3:=Tryz.isAgg3
 z3:=Tryz.sizeOf3
 v3:=Tryz.zeroValue3
 t4:=Tryz.underlying4
 a4:=Tryz.isAgg4
 z4:=Tryz.sizeOf4
 v4:=Tryz.zeroValue4
 t5:=Tryz.underlying5
 a5:=Tryz.isAgg5
 z5:=Tryz.sizeOf5
 v5:=Tryz.zeroValue5
 t9:=Tryz.underlying9
 a9:=Tryz.isAgg9
 z9:=Tryz.sizeOf9
 v9:=Tryz.zeroValue9
 t21:=Tryz.underlying21
 a21:=Tryz.isAgg21
 z21:=Tryz.sizeOf21
 v21:=Tryz.zeroValue21
 t46:=Tryz.underlying118
 a46:=Tryz.isAgg118
 z46:=Tryz.sizeOf118
 v46:=Tryz.zeroValue118
 t105:=Tryz.underlying226
 a105:=Tryz.isAgg226
 z105:=Tryz.sizeOf226
 v105:=Tryz.zeroValue226
 t116:=Tryz.underlying207
 a116:=Tryz.isAgg207
 z116:=Tryz.sizeOf207
 t117:=Tryz.underlying208
 a117:=Tryz.isAgg208
 z117:=Tryz.sizeOf208
 v117:=Tryz.zeroValue208
 t119:=Tryz.underlying246
 a119:=Tryz.isAgg246
 z119:=Tryz.sizeOf246
 t124:=Tryz.underlying211
 a124:=Tryz.isAgg211
 z124:=Tryz.sizeOf211
 v124:=Tryz.zeroValue211
 t138:=Tryz.underlying248
 a138:=Tryz.isAgg248
 z138:=Tryz.sizeOf248
 v138:=Tryz.zeroValue248
 t139:=Tryz.underlying249
 a139:=Tryz.isAgg249
 z139:=Tryz.sizeOf249
 v139:=Tryz.zeroValue249
 g3:=by kernel_rfl
 g4:=by kernel_rfl }
def Tryz.lays1119_ren:Go.Shelf.Ren:=⟨fun | 105=>119 | 212=>152 | 99=>153 | 165=>154 | 166=>120 | 170=>155 | 169=>121 | 263=>181 | 264=>182 | 206=>183 | 240=>156 | 241=>184 | 276=>185 | 277=>200 | n=>n,fun | 9=>9 | 3=>3 | 4=>4 | 20=>20 | 0=>0 | 46=>118 | 109=>195 | 5=>5 | 72=>163 | 76=>170 | 51=>152 | 146=>219 | 53=>154 | 148=>221 | 70=>160 | 37=>161 | 75=>169 | 127=>200 | 164=>223 | 80=>172 | n=>n,fun | n=>n⟩
theorem Tryz.lays1119:Go.Proofs.Lays.n105 Tryz.prog Tryz.lays1119_ren:={
 mixed:=by kernel_rfl
 f99:=Tryz.func153.trans (congrArg some (by kernel_rfl))
 f105:=Tryz.func119.trans (congrArg some (by kernel_rfl))
 f165:=Tryz.func154.trans (congrArg some (by kernel_rfl))
 f166:=Tryz.func120.trans (congrArg some (by kernel_rfl))
 f169:=Tryz.func121.trans (congrArg some (by kernel_rfl))
 f170:=Tryz.func155.trans (congrArg some (by kernel_rfl))
 f206:=Tryz.func183.trans (congrArg some (by kernel_rfl))
 f212:=Tryz.func152.trans (congrArg some (by kernel_rfl))
 f240:=Tryz.func156.trans (congrArg some (by kernel_rfl))
 f241:=Tryz.func184.trans (congrArg some (by kernel_rfl))
 f263:=Tryz.func181.trans (congrArg some (by kernel_rfl))
 f264:=Tryz.func182.trans (congrArg some (by kernel_rfl))
 f276:=Tryz.func185.trans (congrArg some (by kernel_rfl))
 f277:=Tryz.func200.trans (congrArg some (by kernel_rfl))
 t0:=Tryz.underlying0
 a0:=Tryz.isAgg0
 z0:=Tryz.sizeOf0
 v0:=Tryz.zeroValue0
 t3:=Tryz.underlying3
 a3:=Tryz.isAgg3
 z3:=Tryz.sizeOf3
 v3:=Tryz.zeroValue3
 t4:=Tryz.underlying4
 a4:=Tryz.isAgg4
 z4:=Tryz.sizeOf4
 v4:=Tryz.zeroValue4
 t5:=Tryz.underlying5
 a5:=Tryz.isAgg5
 z5:=Tryz.sizeOf5
 v5:=Tryz.zeroValue5
 t9:=Tryz.underlying9
 a9:=Tryz.isAgg9
 z9:=Tryz.sizeOf9
 v9:=Tryz.zeroValue9
 t20:=Tryz.underlying20
 a20:=Tryz.isAgg20
 z20:=Tryz.sizeOf20
 v20:=Tryz.zeroValue20
 t37:=Tryz.underlying161
 a37:=Tryz.isAgg161
 z37:=Tryz.sizeOf161
 v37:=Tryz.zeroValue161
 t46:=Tryz.underlying118
 a46:=Tryz.isAgg118
 z46:=Tryz.sizeOf118
 v46:=Tryz.zeroValue118
 t51:=Tryz.underlying152
 a51:=Tryz.isAgg152
 z51:=Tryz.sizeOf152
 v51:=Tryz.zeroValue152
 t53:=Tryz.underlying154
 a53:=Tryz.isAgg154
 z53:=Tryz.sizeOf154
 v53:=Tryz.zeroValue154
 t70:=Tryz.underlying160
 a70:=Tryz.isAgg160
 z70:=Tryz.sizeOf160
 v70:=Tryz.zeroValue160
 t72:=Tryz.underlying163
 a72:=Tryz.isAgg163
 z72:=Tryz.sizeOf163
 v72:=Tryz.zeroValue163
 t75:=Tryz.underlying169
 a75:=Tryz.isAgg169
 z75:=Tryz.sizeOf169
 v75:=Tryz.zeroValue169
 t76:=Tryz.underlying170
 a76:=Tryz.isAgg170
 z76:=Tryz.sizeOf170
 v76:=Tryz.zeroValue170
 t109:=Tryz.underlying195
 a109:=Tryz.isAgg195
 z109:=Tryz.sizeOf195
 v109:=Tryz.zeroValue195
 t127:=Tryz.underlying200
 a127:=Tryz.isAgg200
 z127:=Tryz.sizeOf200
 v127:=Tryz.zeroValue200
 t146:=Tryz.underlying219
 a146:=Tryz.isAgg219
 z146:=Tryz.sizeOf219
 v146:=Tryz.zeroValue219
 t148:=Tryz.underlying221
 a148:=Tryz.isAgg221
 z148:=Tryz.sizeOf221
 v148:=Tryz.zeroValue221
 t164:=Tryz.underlying223
 a164:=Tryz.isAgg223
 z164:=Tryz.sizeOf223
 v164:=Tryz.zeroValue223 }
def Tryz.lays178_ren:Go.Shelf.Ren:=⟨fun | 171=>78 | 243=>111 | 246=>142 | 283=>175 | 284=>176 | 285=>177 | 286=>178 | 129=>104 | 317=>191 | 318=>192 | 319=>193 | 320=>194 | 337=>204 | 338=>205 | n=>n,fun | 3=>3 | 9=>9 | 2=>2 | 4=>4 | 171=>214 | 0=>0 | 53=>154 | 37=>161 | 5=>5 | 173=>216 | 212=>230 | 51=>152 | 20=>20 | 213=>231 | 46=>118 | 232=>252 | 233=>253 | n=>n,fun | 17=>0 | 18=>6 | 19=>7 | n=>n⟩
theorem Tryz.lays178:Go.Proofs.LaysM.n171 Tryz.prog Tryz.lays178_ren:={
 mixed:=by kernel_rfl
 f129:=Tryz.func104.trans (congrArg some (by kernel_rfl))
 f171:=Tryz.func78.trans (congrArg some (by kernel_rfl))
 f243:=Tryz.func111.trans (congrArg some (by kernel_rfl))
 f246:=Tryz.func142.trans (congrArg some (by kernel_rfl))
 f283:=Tryz.func175.trans (congrArg some (by kernel_rfl))
 f284:=Tryz.func176.trans (congrArg some (by kernel_rfl))
 f285:=Tryz.func177.trans (congrArg some (by kernel_rfl))
 f286:=Tryz.func178.trans (congrArg some (by kernel_rfl))
 f317:=Tryz.func191.trans (congrArg some (by kernel_rfl))
 f318:=Tryz.func192.trans (congrArg some (by kernel_rfl))
 f319:=Tryz.func193.trans (congrArg some (by kernel_rfl))
 f320:=Tryz.func194.trans (congrArg some (by kernel_rfl))
 f337:=Tryz.func204.trans (congrArg some (by kernel_rfl))
 f338:=Tryz.func205.trans (congrArg some (by kernel_rfl))
 t0:=Tryz.underlying0
 a0:=Tryz.isAgg0
 z0:=Tryz.sizeOf0
 v0:=Tryz.zeroValue0
 t2:=Tryz.underlying2
 a2:=Tryz.isAgg2
 z2:=Tryz.sizeOf2
 v2:=Tryz.zeroValue2
 t3:=Tryz.underlying3
 a3:=Tryz.isAgg3
 z3:=Tryz.sizeOf3
 v3:=Tryz.zeroValue3
 t4:=Tryz.underlying4
 a4:=Tryz.isAgg4
 z4:=Tryz.sizeOf4
 v4:=Tryz.zeroValue4
 t5:=Tryz.underlying5
 a5:=Tryz.isAgg5
 z5:=Tryz.sizeOf5
 v5:=Tryz.zeroValue5
 t9:=Tryz.underlying9
 a9:=Tryz.isAgg9
 z9:=Tryz.sizeOf9
 v9:=Tryz.zeroValue9
 t20:=Tryz.underlying20
 a20:=Tryz.isAgg20
 z20:=Tryz.sizeOf20
 v20:=Tryz.zeroValue20
 t37:=Tryz.underlying161
 a37:=Tryz.isAgg161
 z37:=Tryz.sizeOf161
 v37:=Tryz.zeroValue161
 t46:=Tryz.underlying118
 a46:=Tryz.isAgg118
 z46:=Tryz.sizeOf118
 v46:=Tryz.zeroValue118
 t51:=Tryz.underlying152
 a51:=Tryz.isAgg152
 z51:=Tryz.sizeOf152
 v51:=Tryz.zeroValue152
 t53:=Tryz.underlying154
 a53:=Tryz.isAgg154
 z53:=Tryz.sizeOf154
 v53:=Tryz.zeroValue154
 t171:=Tryz.underlying214
 a171:=Tryz.isAgg214
 z171:=Tryz.sizeOf214
 v171:=Tryz.zeroValue214
 t173:=Tryz.underlying216
 a173:=Tryz.isAgg216
 z173:=Tryz.sizeOf216
 v173:=Tryz.zeroValue216
 t212:=Tryz.underlying230
 a212:=Tryz.isAgg230
 z212:=Tryz.sizeOf230
 v212:=Tryz.zeroValue230
 t213:=Tryz.underlying231
 a213:=Tryz.isAgg231
 z213:=Tryz.sizeOf231
 t232:=Tryz.underlying252
 a232:=Tryz.isAgg252
 z232:=Tryz.sizeOf252
 v232:=Tryz.zeroValue252
 t233:=Tryz.underlying253
 a233:=Tryz.isAgg253
 z233:=Tryz.sizeOf253
 v233:=Tryz.zeroValue253
 g17:=by kernel_rfl
 g18:=by kernel_rfl
 g19:=by kernel_rfl
 i0:=by kernel_rfl
 i2:=by kernel_rfl
 i3:=by kernel_rfl
 i4:=by kernel_rfl
 i5:=by kernel_rfl
 i9:=by kernel_rfl
 i20:=by kernel_rfl
 i37:=by kernel_rfl
 i46:=by kernel_rfl
 i51:=by kernel_rfl
 i53:=by kernel_rfl
 i171:=by kernel_rfl
 i173:=by kernel_rfl
 i212:=by kernel_rfl
 i232:=by kernel_rfl
 i233:=by kernel_rfl
 m17:=by kernel_rfl
 m18:=by kernel_rfl
 m19:=by kernel_rfl }
def Tryz.lays1144_ren:Go.Shelf.Ren:=⟨fun | 172=>144 | 244=>179 | 245=>180 | 247=>195 | 279=>196 | 280=>197 | 281=>198 | 282=>199 | 287=>206 | 316=>207 | 171=>78 | 205=>208 | 321=>213 | 322=>214 | 243=>111 | 246=>142 | 283=>175 | 284=>176 | 285=>177 | 286=>178 | 129=>104 | 317=>191 | 318=>192 | 319=>193 | 320=>194 | 337=>204 | 338=>205 | n=>n,fun | 9=>9 | 3=>3 | 75=>169 | 76=>170 | 4=>4 | 5=>5 | 167=>232 | 37=>161 | 0=>0 | 85=>233 | 2=>2 | 168=>235 | 53=>154 | 175=>240 | 46=>118 | 210=>244 | 127=>200 | 145=>257 | 143=>255 | 21=>21 | 171=>214 | 173=>216 | 212=>230 | 51=>152 | 20=>20 | 213=>231 | 232=>252 | 233=>253 | 80=>172 | n=>n,fun | 15=>1 | 16=>2 | 17=>0 | 18=>6 | 19=>7 | n=>n⟩
theorem Tryz.lays1144:Go.Proofs.LaysC.n172 Tryz.prog Tryz.lays1144_ren:={
 mixed:=by kernel_rfl
 f129:=Tryz.func104.trans (congrArg some (by kernel_rfl))
 f171:=Tryz.func78.trans (congrArg some (by kernel_rfl))
 f172:=Tryz.func144.trans (congrArg some (by kernel_rfl))
 f205:=Tryz.func208.trans (congrArg some (by kernel_rfl))
 f243:=Tryz.func111.trans (congrArg some (by kernel_rfl))
 f244:=Tryz.func179.trans (congrArg some (by kernel_rfl))
 f245:=Tryz.func180.trans (congrArg some (by kernel_rfl))
 f246:=Tryz.func142.trans (congrArg some (by kernel_rfl))
 f247:=Tryz.func195.trans (congrArg some (by kernel_rfl))
 f279:=Tryz.func196.trans (congrArg some (by kernel_rfl))
 f280:=Tryz.func197.trans (congrArg some (by kernel_rfl))
 f281:=Tryz.func198.trans (congrArg some (by kernel_rfl))
 f282:=Tryz.func199.trans (congrArg some (by kernel_rfl))
 f283:=Tryz.func175.trans (congrArg some (by kernel_rfl))
 f284:=Tryz.func176.trans (congrArg some (by kernel_rfl))
 f285:=Tryz.func177.trans (congrArg some (by kernel_rfl))
 f286:=Tryz.func178.trans (congrArg some (by kernel_rfl))
 f287:=Tryz.func206.trans (congrArg some (by kernel_rfl))
 f316:=Tryz.func207.trans (congrArg some (by kernel_rfl))
 f317:=Tryz.func191.trans (congrArg some (by kernel_rfl))
 f318:=Tryz.func192.trans (congrArg some (by kernel_rfl))
 f319:=Tryz.func193.trans (congrArg some (by kernel_rfl))
 f320:=Tryz.func194.trans (congrArg some (by kernel_rfl))
 f321:=Tryz.func213.trans (congrArg some (by kernel_rfl))
 f322:=Tryz.func214.trans (congrArg some (by kernel_rfl))
 f337:=Tryz.func204.trans (congrArg some (by kernel_rfl))
 f338:=Tryz.func205.trans (congrArg some (by kernel_rfl))
 t0:=Tryz.underlying0
 a0:=Tryz.isAgg0
 z0:=Tryz.sizeOf0
 v0:=Tryz.zeroValue0
 t2:=Tryz.underlying2
 a2:=Tryz.isAgg2
 z2:=Tryz.sizeOf2
 v2:=Tryz.zeroValue2
 t3:=Tryz.underlying3
 a3:=Tryz.isAgg3
 z3:=Tryz.sizeOf3
 v3:=Tryz.zeroValue3
 t4:=Tryz.underlying4
 a4:=Tryz.isAgg4
 z4:=Tryz.sizeOf4
 v4:=Tryz.zeroValue4
 t5:=Tryz.underlying5
 a5:=Tryz.isAgg5
 z5:=Tryz.sizeOf5
 v5:=Tryz.zeroValue5
 t9:=Tryz.underlying9
 a9:=Tryz.isAgg9
 z9:=Tryz.sizeOf9
 v9:=Tryz.zeroValue9
 t20:=Tryz.underlying20
 a20:=Tryz.isAgg20
 z20:=Tryz.sizeOf20
 v20:=Tryz.zeroValue20
 t21:=Tryz.underlying21
 a21:=Tryz.isAgg21
 z21:=Tryz.sizeOf21
 v21:=Tryz.zeroValue21
 t37:=Tryz.underlying161
 a37:=Tryz.isAgg161
 z37:=Tryz.sizeOf161
 v37:=Tryz.zeroValue161
 t46:=Tryz.underlying118
 a46:=Tryz.isAgg118
 z46:=Tryz.sizeOf118
 v46:=Tryz.zeroValue118
 t51:=Tryz.underlying152
 a51:=Tryz.isAgg152
 z51:=Tryz.sizeOf152
 v51:=Tryz.zeroValue152
 t53:=Tryz.underlying154
 a53:=Tryz.isAgg154
 z53:=Tryz.sizeOf154
 v53:=Tryz.zeroValue154
 t75:=Tryz.underlying169
 a75:=Tryz.isAgg169
 z75:=Tryz.sizeOf169
 v75:=Tryz.zeroValue169
 t76:=Tryz.underlying170
 a76:=Tryz.isAgg170
 z76:=Tryz.sizeOf170
 v76:=Tryz.zeroValue170
 t85:=Tryz.underlying233
 a85:=Tryz.isAgg233
 z85:=Tryz.sizeOf233
 v85:=Tryz.zeroValue233
 t127:=Tryz.underlying200
 a127:=Tryz.isAgg200
 z127:=Tryz.sizeOf200
 v127:=Tryz.zeroValue200
 t143:=Tryz.underlying255
 a143:=Tryz.isAgg255
 z143:=Tryz.sizeOf255
 v143:=Tryz.zeroValue255
 t145:=Tryz.underlying257
 a145:=Tryz.isAgg257
 z145:=Tryz.sizeOf257
 v145:=Tryz.zeroValue257
 t167:=Tryz.underlying232
 a167:=Tryz.isAgg232
 z167:=Tryz.sizeOf232
 v167:=Tryz.zeroValue232
 t168:=Tryz.underlying235
 a168:=Tryz.isAgg235
 z168:=Tryz.sizeOf235
 v168:=Tryz.zeroValue235
 t171:=Tryz.underlying214
 a171:=Tryz.isAgg214
 z171:=Tryz.sizeOf214
 v171:=Tryz.zeroValue214
 t173:=Tryz.underlying216
 a173:=Tryz.isAgg216
 z173:=Tryz.sizeOf216
 v173:=Tryz.zeroValue216
 t175:=Tryz.underlying240
 a175:=Tryz.isAgg240
 z175:=Tryz.sizeOf240
 v175:=Tryz.zeroValue240
 t210:=Tryz.underlying244
 a210:=Tryz.isAgg244
 z210:=Tryz.sizeOf244
 v210:=Tryz.zeroValue244
 t212:=Tryz.underlying230
 a212:=Tryz.isAgg230
 z212:=Tryz.sizeOf230
 v212:=Tryz.zeroValue230
 t213:=Tryz.underlying231
 a213:=Tryz.isAgg231
 z213:=Tryz.sizeOf231
 t232:=Tryz.underlying252
 a232:=Tryz.isAgg252
 z232:=Tryz.sizeOf252
 v232:=Tryz.zeroValue252
 t233:=Tryz.underlying253
 a233:=Tryz.isAgg253
 z233:=Tryz.sizeOf253
 v233:=Tryz.zeroValue253
 g15:=by kernel_rfl
 g16:=by kernel_rfl
 g17:=by kernel_rfl
 g18:=by kernel_rfl
 g19:=by kernel_rfl
 t80:=Tryz.underlying172
 a80:=Tryz.isAgg172
 z80:=Tryz.sizeOf172
 v80:=Tryz.zeroValue172
 i0:=by kernel_rfl
 i2:=by kernel_rfl
 i3:=by kernel_rfl
 i4:=by kernel_rfl
 i5:=by kernel_rfl
 i9:=by kernel_rfl
 i20:=by kernel_rfl
 i21:=by kernel_rfl
 i37:=by kernel_rfl
 i46:=by kernel_rfl
 i51:=by kernel_rfl
 i53:=by kernel_rfl
 i75:=by kernel_rfl
 i76:=by kernel_rfl
 i80:=by kernel_rfl
 i85:=by kernel_rfl
 i127:=by kernel_rfl
 i143:=by kernel_rfl
 i145:=by kernel_rfl
 i167:=by kernel_rfl
 i168:=by kernel_rfl
 i171:=by kernel_rfl
 i173:=by kernel_rfl
 i175:=by kernel_rfl
 i210:=by kernel_rfl
 i212:=by kernel_rfl
 i232:=by kernel_rfl
 i233:=by kernel_rfl
 m15:=by kernel_rfl
 m16:=by kernel_rfl
 m17:=by kernel_rfl
 m18:=by kernel_rfl
 m19:=by kernel_rfl
 c0:=by kernel_rfl
 c2:=by kernel_rfl
 c3:=by kernel_rfl
 c4:=by kernel_rfl
 c5:=by kernel_rfl
 c9:=by kernel_rfl
 c20:=by kernel_rfl
 c21:=by kernel_rfl
 c37:=by kernel_rfl
 c46:=by kernel_rfl
 c51:=by kernel_rfl
 c53:=by kernel_rfl
 c75:=by kernel_rfl
 c76:=by kernel_rfl
 c80:=by kernel_rfl
 c85:=by kernel_rfl
 c127:=by kernel_rfl
 c143:=by kernel_rfl
 c145:=by kernel_rfl
 c167:=by kernel_rfl
 c168:=by kernel_rfl
 c171:=by kernel_rfl
 c173:=by kernel_rfl
 c175:=by kernel_rfl
 c210:=by kernel_rfl
 c212:=by kernel_rfl
 c213:=by kernel_rfl
 c232:=by kernel_rfl
 c233:=by kernel_rfl }
def Tryz.lays1121_ren:Go.Shelf.Ren:=⟨fun | 169=>121 | n=>n,fun | 70=>160 | 9=>9 | 0=>0 | 72=>163 | 37=>161 | 127=>200 | 3=>3 | 5=>5 | n=>n,fun | n=>n⟩
theorem Tryz.lays1121:Go.Proofs.Lays.n169 Tryz.prog Tryz.lays1121_ren:={
 mixed:=by kernel_rfl
 f169:=Tryz.func121.trans (congrArg some (by kernel_rfl))
 t0:=Tryz.underlying0
 a0:=Tryz.isAgg0
 z0:=Tryz.sizeOf0
 v0:=Tryz.zeroValue0
 t3:=Tryz.underlying3
 a3:=Tryz.isAgg3
 z3:=Tryz.sizeOf3
 v3:=Tryz.zeroValue3
 t9:=Tryz.underlying9
 a9:=Tryz.isAgg9
 z9:=Tryz.sizeOf9
 v9:=Tryz.zeroValue9
 t37:=Tryz.underlying161
 a37:=Tryz.isAgg161
 z37:=Tryz.sizeOf161
 v37:=Tryz.zeroValue161
 t70:=Tryz.underlying160
 a70:=Tryz.isAgg160
 z70:=Tryz.sizeOf160
 v70:=Tryz.zeroValue160
 t72:=Tryz.underlying163
 a72:=Tryz.isAgg163
 z72:=Tryz.sizeOf163
 v72:=Tryz.zeroValue163
 t127:=Tryz.underlying200
 a127:=Tryz.isAgg200
 z127:=Tryz.sizeOf200
 v127:=Tryz.zeroValue200 }
end Go.Proofs
namespace Go.Proofs.YtdgabicjcepmeaaGreatDoor
open Go Go.Abs Go.PE Go.Proofs
theorem so1_41:So1OK Tryz.prog ⟨41,.int .i64,false,sortI⟩:=so1_sort Tryz.lays141 rfl Tryz.call41
theorem sp_137:SpecOK Tryz.prog 137 ⟨[.str,.str],[.str],fun x=>some (prefM x.1 x.2)⟩:=spec_pref Tryz.lays1137 rfl
theorem sp_138:SpecOK Tryz.prog 138 ⟨[.str,.str],[.str],fun x=>trimM x.1 x.2⟩:=spec_trim rfl Tryz.lays1138 (by kernel_rfl) rfl
theorem sp_119:SpecOK Tryz.prog 119 ⟨[.str,.int .i64],[.str],fun x=>rptM x.1 x.2⟩:=spec_rept rfl Tryz.lays1119 ⟨⟨by kernel_rfl,by kernel_rfl⟩,by kernel_rfl,Tryz.isAgg5,Tryz.sizeOf5,Tryz.zeroValue5,by kernel_rfl,by kernel_rfl,by kernel_rfl,by decide⟩ rfl
theorem sp_78:SpecOK Tryz.prog 78 ⟨[.int .i64],[.str],fun x=>some (itoaM x)⟩:=spec_itoa Tryz.lays178 rfl (by kernel_rfl) (g:=0) (by kernel_rfl)
theorem ex_144:ExtOK Tryz.prog 144 (.atoi atoiM):=ext_atoi Tryz.lays1144 rfl Tryz.call144
theorem ex_120:ExtOK Tryz.prog 120 (.wstr 163 5):=ext_wstr { Tryz.lays1119 with } ⟨⟨by kernel_rfl,by kernel_rfl⟩,by kernel_rfl,Tryz.isAgg5,Tryz.sizeOf5,Tryz.zeroValue5,by kernel_rfl,by kernel_rfl,by kernel_rfl,by decide⟩ rfl rfl rfl Tryz.call120
theorem ex_121:ExtOK Tryz.prog 121 (.stri 163 5):=ext_stri Tryz.lays1121 ⟨⟨by kernel_rfl,by kernel_rfl⟩,by kernel_rfl,Tryz.isAgg5,Tryz.sizeOf5,Tryz.zeroValue5,by kernel_rfl,by kernel_rfl,by kernel_rfl,by decide⟩ rfl rfl rfl Tryz.call121
noncomputable def tabs:Tabs:={ tabs0 with so1:=[⟨41,.int .i64,false,sortI⟩],sp:=[(137,⟨[.str,.str],[.str],fun x=>some (prefM x.1 x.2)⟩),(138,⟨[.str,.str],[.str],fun x=>trimM x.1 x.2⟩),(119,⟨[.str,.int .i64],[.str],fun x=>rptM x.1 x.2⟩),(78,⟨[.int .i64],[.str],fun x=>some (itoaM x)⟩)],ex:=[(144,.atoi atoiM),(120,.wstr 163 5),(121,.stri 163 5)] }
theorem tabsOK:TabOK Tryz.prog tabs:=⟨tabs0OK.ty,tabs0OK.fn,(by
 show ∀ f s,lk ([(137,⟨[.str,.str],[.str],fun x=>some (prefM x.1 x.2)⟩),(138,⟨[.str,.str],[.str],fun x=>trimM x.1 x.2⟩),(119,⟨[.str,.int .i64],[.str],fun x=>rptM x.1 x.2⟩),(78,⟨[.int .i64],[.str],fun x=>some (itoaM x)⟩)]:List (FuncId×Go.PE.Spec)) f=some s→SpecOK Tryz.prog f s
 refine lk_all (p:=fun f s=>SpecOK Tryz.prog f s) sp_137 ?_
 refine lk_all (p:=fun f s=>SpecOK Tryz.prog f s) sp_138 ?_
 refine lk_all (p:=fun f s=>SpecOK Tryz.prog f s) sp_119 ?_
 refine lk_all (p:=fun f s=>SpecOK Tryz.prog f s) sp_78 ?_
 exact lk_none),(by
 show ∀ f s,lk ([(137,⟨[.str,.str],[.str],fun x=>some (prefM x.1 x.2)⟩),(138,⟨[.str,.str],[.str],fun x=>trimM x.1 x.2⟩),(119,⟨[.str,.int .i64],[.str],fun x=>rptM x.1 x.2⟩),(78,⟨[.int .i64],[.str],fun x=>some (itoaM x)⟩)]:List (FuncId×Go.PE.Spec)) f=some s→∀ (args:Array Value) (w:World),(callFunc f args).run Tryz.prog w=.ok (.enter f args) w
 refine lk_all (p:=fun f s=>∀ (args:Array Value) (w:World),(callFunc f args).run Tryz.prog w=.ok (.enter f args) w) Tryz.call137 ?_
 refine lk_all (p:=fun f s=>∀ (args:Array Value) (w:World),(callFunc f args).run Tryz.prog w=.ok (.enter f args) w) Tryz.call138 ?_
 refine lk_all (p:=fun f s=>∀ (args:Array Value) (w:World),(callFunc f args).run Tryz.prog w=.ok (.enter f args) w) Tryz.call119 ?_
 refine lk_all (p:=fun f s=>∀ (args:Array Value) (w:World),(callFunc f args).run Tryz.prog w=.ok (.enter f args) w) Tryz.call78 ?_
 exact lk_none),tabs0OK.mixed,tabs0OK.so,tabs0OK.eqs,fun s hs=>by
 have hs:s∈[(⟨41,.int .i64,false,sortI⟩:So1)]:=hs
 simp only [List.mem_cons,List.not_mem_nil,or_false] at hs
 rcases hs with rfl
 ·exact so1_41,tabs0OK.mps,tabs0OK.ow,tabs0OK.bt,(by
 show ∀ f s,lk ([(144,.atoi atoiM),(120,.wstr 163 5),(121,.stri 163 5)]:List (FuncId×Go.PE.Ext)) f=some s→ExtOK Tryz.prog f s
 refine lk_all (p:=fun f s=>ExtOK Tryz.prog f s) ex_144 ?_
 refine lk_all (p:=fun f s=>ExtOK Tryz.prog f s) ex_120 ?_
 refine lk_all (p:=fun f s=>ExtOK Tryz.prog f s) ex_121 ?_
 exact lk_none)⟩
end Go.Proofs.YtdgabicjcepmeaaGreatDoor
namespace Go.Proofs.YtdgabicjcepmeaaGreatDoor
open Go Go.Abs Go.PE Go.Proofs
open Go.IntKind (wrap)
set_option maxRecDepth 100000
noncomputable section
abbrev tP:Ty:=(.pair tI tI)
abbrev tB:Ty:=(.pair tI tP)
abbrev tC:Ty:=(.pair tI (.pair tI tB))
abbrev tQ:Ty:=(.list tP)
abbrev tL:Ty:=(.list tI)
abbrev tO:Ty:=(.pair tI tQ)
abbrev tD:Ty:=(.pair tO (.list tC))
abbrev z0:Fl:=.s [] []
def ra:Nat→Nat→List Nat→List Nat
 | _,0,l=>l
 | a,n+1,l=>a::ra (a+1) n l
def za:Nat→List Fl→List Fl
 | 0,l=>l
 | n+1,l=>z0::za n l
theorem fc {f:FuncId} {ta tr:List Ty} {m:Tup (ta.map .d)→Option (Tup (tr.map .d))} {Γ:Tabs} (h:TabOK Tryz.prog Γ) (own:List Nat) (an:Ann) (fn:Func) (hm:∀ x,fnM OPS 400 Γ own an fn (fn.body.getD .skip) ta tr x=m x) (hf:lk Γ.fn f=some fn:=by kernel_rfl) (hb:fn.body=some (fn.body.getD .skip):=by kernel_rfl) (hn:Nat.ble ta.length fn.ntmps=true:=by kernel_rfl):SpecOK Tryz.prog f ⟨ta,tr,m⟩:=fnM_ok h OPS_sound OPS_nice hf hb hn hm
def tabsA:Tabs:={ tabs with mps:=[] }
theorem mpsOK:∀ f es,lk tabsA.mps f=some es→MapOK Tryz.prog f es:=by
 show ∀ f es,lk [] f=some es→MapOK Tryz.prog f es
 exact lk_none
theorem tabsAOK:TabOK Tryz.prog tabsA:=⟨tabsOK.ty,tabsOK.fn,tabsOK.sp,tabsOK.en,tabsOK.mixed,tabsOK.so,tabsOK.eqs,tabsOK.so1,mpsOK,tabsOK.ow,tabsOK.bt,tabsOK.ex⟩
def ano49:Ann:=.a
def mo49:List Int→Option (List Int) :=
 fun x=>nilM x (some []) ((appM (nat_lit 8) [] x).bind fun r=>some r)
theorem co49:OwnOK Tryz.prog 49 ⟨[(.list tI)],tI,mo49⟩ :=
 fnOw_ok (own:=[]) (an:=ano49) (n:=400) tabsAOK (F:=OPS) OPS_sound OPS_nice (f:=49) (fn:=Tryz.f49) (code:=Tryz.f49.body.getD .skip) (by kernel_rfl) (by kernel_rfl) (by kernel_rfl) Tryz.call49 fun x=>by kernel_rfl
def tabsO49:Tabs:=Tabs.addOw tabsA 49 ⟨[(.list tI)],tI,mo49⟩
theorem tabsO49OK:TabOK Tryz.prog tabsO49:=TabOK.addOw tabsAOK co49
def tabsX:Tabs:=tabsO49
theorem tabsXOK:TabOK Tryz.prog tabsX:=tabsO49OK

/-! putlog/field.within -/
def as38:List Ty:=[tI,tI,tI]
def rs38:List Ty:=[.bool]
def an38:Ann:=.a
def m38:(Int×Int×Int)→Option (Bool) :=
 fun x=>some (PE.andM (leM x.2.1 x.1) (leM x.1 x.2.2))
theorem c38:SpecOK Tryz.prog 38 ⟨as38,rs38,m38⟩ :=
 fc tabsXOK [] an38 Tryz.f38 fun x=>by kernel_rfl
def tabs38:Tabs:=Tabs.add tabsX 38 ⟨as38,rs38,m38⟩
theorem tabs38OK:TabOK Tryz.prog tabs38:=TabOK.add tabsXOK c38 Tryz.call38

/-! putlog/field.Valid -/
def as21:List Ty:=[(.pair tI (.pair tI (.pair tL tL)))]
def rs21:List Ty:=[.bool]
def an21:Ann:=.seq (.a) (.seq (.a) (.seq (.seq (.a) (.block (.loop ⟨[(40,.r (.c (.d (.d tI))))],(3::4::ra 41 21 ([])),[],[]⟩ [(.exit 0,⟨[],(3::4::ra 40 22 ([])),[],[]⟩),(.ret,⟨[(2,.r (.c (.d (.d .bool))))],(3::4::ra 40 22 ([])),[],[]⟩)] (.a)))) (.a)))
def m21:(Int×Int×List Int×List Int)→Option (Bool) :=
 fun x=>(m38 (x.1,1,6)).bind fun r=>(bif PE.notM (PE.notM r) then m38 (x.2.1,1,6) else some false).bind fun r_1=>bif PE.orM (PE.orM (PE.orM (PE.notM r)
 (PE.notM r_1)) (PE.notM (eqM (lenM x.2.2.1) (wrap .i64 (wrap .i64 (x.1+1)*wrap .i64 (x.2.1+1)))))) (PE.notM (eqM (lenM x.2.2.2)
 (lenM x.2.2.1))) then some false else (loopM (fun (s:Int)=>bif ltM s (lenM x.2.2.1) then (idxM x.2.2.1 s).bind fun r_2=>(idxM x.2.2.2 s).bind fun r_3 =>
 (m38 (r_2,0,r_3)).bind fun r_4=>(bif PE.notM (PE.notM r_4) then idxM x.2.2.2 s else some 0).bind fun r=>bif PE.orM (PE.notM r_4) (ltM 100 r) then some
 (Sum.inr (Sum.inr false)) else some (Sum.inl (wrap .i64 (s+1))) else some (Sum.inr (Sum.inl ()))) 0).bind fun o=>Sum.elim (fun (t:Unit)=>some
 true) (fun (t:Bool)=>some t) o
theorem c21:SpecOK Tryz.prog 21 ⟨as21,rs21,m21⟩ :=
 fc tabs38OK [] an21 Tryz.f21 fun x=>by kernel_rfl
def tabs21:Tabs:=Tabs.add tabs38 21 ⟨as21,rs21,m21⟩
theorem tabs21OK:TabOK Tryz.prog tabs21:=TabOK.add tabs38OK c21 Tryz.call21

/-! putlog/field.At -/
def as13:List Ty:=[(.pair tI (.pair tI (.pair tL tL))),tI,tI,tI]
def rs13:List Ty:=[tI,tI,tI]
def an13_0:Ann:=.seq (.a) (.seq (.reg [] [] [z0,z0,.s [2] [],z0,z0,.s [2] [],z0,z0,.r,z0] (.call [] [] (.seq (.a) (.a)) (.a))) (.seq (.seq (.a) (.cond (.seq (.reg [0,0,3,0,0,24,63,0,0,384,0,0,2048,6144,0,16384,63488,130104,262072,524287,0,0,3145728,8388607,16777215] (ra 0 25 ([])) [.s [1] [],.s [3] [],z0,z0,.s [2] [],.k [],z0,.s [3] [],.s [4] [],z0,z0,z0,.s [2] [],z0,z0,.s [2] [],z0,.k [],z0,z0,.s [4] [],z0,z0,z0,z0] (.kp [] ⟨[(25,.r (.c (.d (.d tI))))],[],[],[]⟩ (.seq (.a) (.a)) (.kp [] ⟨[(37,.r (.c (.d (.d tI))))],[],[],[]⟩ (.seq (.a) (.a)) (.a)))) (.a)) (.a))) (.seq (.reg [0,0,3,0,0,24,63,0,0,384,0,0,2048,0,8192,24576,63488,130104,262072,524287,0,0,3145728,8388607,16777215] (ra 0 25 ([])) [.s [1] [],.s [4] [],z0,z0,.s [2] [],.k [],z0,.s [4] [],.s [3] [],z0,z0,z0,.s [2] [],z0,.s [2] [],z0,z0,.k [],z0,z0,.s [3] [],z0,z0,z0,z0] (.kp [] ⟨[(49,.r (.c (.d (.d tI))))],[],[],[]⟩ (.seq (.a) (.a)) (.kp [] ⟨[(61,.r (.c (.d (.d tI))))],[],[],[]⟩ (.seq (.a) (.a)) (.a)))) (.a))))
def an13:Ann:=.seq (.a) (.seq (.a) (.seq (.reg [0,0,3,0,8,24,63,0,0,384,0,1024,3072,8064,16383,0,65535] (ra 0 17 ([])) (z0::.s [1] []::z0::z0::.s [0] []::za 3 (.s [1] []::z0::z0::.s [0] []::za 3 (.s [] [2]::.s [2] [2]::[]))) (.a)) (.seq (.reg [0,0,2,0,14,31,0,0,128,0,896,1984,0,0,12351,32767] (ra 0 16 ([])) (z0::z0::.s [2] []::.s [1] []::za 4 (.s [2] []::.s [1] []::z0::z0::.s [] [3]::.s [] [4]::.s [3] [3]::.s [4] [4]::[])) (.a)) (.seq (.reg [] [] [.s [0] [],z0,.r,z0,z0,z0,z0,z0] (.call [] [] (.seq (.a) (.seq (.reg [0,0,0,4,14,31,0,0,0,256,959,2047,4095,8191] (ra 0 14 ([])) [z0,.s [5] [],z0,.s [5] [],.k [6,7],.k [],z0,.s [5] [],z0,.s [5] [],.k [8,9],.k [],z0,z0] (.kp [] ⟨[(10,.r (.c (.f 75 [] [.p 6 0,.p 7 0])))],[],[],[.box [.d (.d tL)],.box [.d (.d tI),.d (.d tI),.d (.d tL),.d (.d tL)]]⟩ (.seq (.a) (.a)) (.kp [] ⟨[(11,.r (.c (.d (.d tI))))],[],[],[]⟩ an13_0 (.kp [] ⟨[(16,.r (.c (.f 75 [] [.p 8 0,.p 9 0])))],[],[],[.box [.d (.d tL)],.box [.d (.d tI),.d (.d tI),.d (.d tL),.d (.d tL)]]⟩ (.seq (.a) (.a)) (.kp [] ⟨[(17,.r (.c (.d (.d tI))))],[],[],[]⟩ an13_0 (.a)))))) (.a))) (.a))) (.a)))))
def m13:((Int×Int×List Int×List Int)×Int×Int×Int)→Option (Int×Int×Int) :=
 fun x=>(m21 (x.1.1,x.1.2.1,x.1.2.2.1,x.1.2.2.2)).bind fun r=>(bif PE.notM (PE.notM r) then m38 (x.2.2.2,1,60) else some false).bind fun r_1=>(bif
 PE.notM (PE.orM (PE.notM r) (PE.notM r_1)) then m38 (x.2.1,0,wrap .i64 (x.1.1*x.2.2.2)) else some false).bind fun r_2=>(bif PE.notM (PE.orM
 (PE.orM (PE.notM r) (PE.notM r_1)) (PE.notM r_2)) then m38 (x.2.2.1,0,wrap .i64 (x.1.2.1*x.2.2.2)) else some false).bind fun r_3=>bif PE.orM
 (PE.orM (PE.orM (PE.notM r) (PE.notM r_1)) (PE.notM r_2)) (PE.notM r_3) then some (0,0,250) else (divM .i64 x.2.1 x.2.2.2).bind fun r_4=>(divM
 IntKind.i64 x.2.2.1 x.2.2.2).bind fun r_5=>((idxM x.1.2.2.1 (wrap .i64 (wrap .i64 (wrap .i64 (min r_5 (wrap .i64 (x.1.2.1-1))
 + 1)*wrap .i64 (x.1.1+1))+wrap .i64 (min r_4 (wrap .i64 (x.1.1-1))+1)))).bind fun r_6=>bif leM (wrap .i64 (x.2.2.1 -
 wrap .i64 (min r_5 (wrap .i64 (x.1.2.1-1))*x.2.2.2))) (wrap .i64 (x.2.1-wrap .i64 (min r_4 (wrap .i64 (x.1.1-1)) *
 x.2.2.2))) then ((idxM x.1.2.2.1 (wrap .i64 (wrap .i64 (min r_5 (wrap .i64 (x.1.2.1-1))*wrap .i64 (x.1.1+1))+min r_4 (wrap
 IntKind.i64 (x.1.1-1))))).bind fun r=>some r).bind fun (ov:Int)=>((idxM x.1.2.2.1 (wrap .i64 (wrap .i64 (min r_5 (wrap IntKind.i64
 (x.1.2.1-1))*wrap .i64 (x.1.1+1))+wrap .i64 (min r_4 (wrap .i64 (x.1.1-1))+1)))).bind fun r=>some r).bind fun (ov_1:Int)
 => some (wrap .i64 (wrap .i64 (wrap .i64 (wrap .i64 (x.2.2.2-wrap .i64 (x.2.1-wrap .i64 (min r_4 (wrap
 IntKind.i64 (x.1.1-1))*x.2.2.2)))*ov)+wrap .i64 (wrap .i64 (wrap .i64 (x.2.1-wrap .i64 (min r_4 (wrap .i64 (x.1.1
 - 1))*x.2.2.2))-wrap .i64 (x.2.2.1-wrap .i64 (min r_5 (wrap .i64 (x.1.2.1-1))*x.2.2.2)))*ov_1))+wrap .i64 (wrap
 IntKind.i64 (x.2.2.1-wrap .i64 (min r_5 (wrap .i64 (x.1.2.1-1))*x.2.2.2))*r_6))) else ((idxM x.1.2.2.1 (wrap .i64 (wrap
 IntKind.i64 (min r_5 (wrap .i64 (x.1.2.1-1))*wrap .i64 (x.1.1+1))+min r_4 (wrap .i64 (x.1.1-1))))).bind fun r=>some r).bind
 fun (ov:Int)=>((idxM x.1.2.2.1 (wrap .i64 (wrap .i64 (wrap .i64 (min r_5 (wrap .i64 (x.1.2.1-1))+1)*wrap IntKind.i64
 (x.1.1+1))+min r_4 (wrap .i64 (x.1.1-1))))).bind fun r=>some r).bind fun (ov_1:Int)=>some (wrap .i64 (wrap .i64 (wrap
 IntKind.i64 (wrap .i64 (x.2.2.2-wrap .i64 (x.2.2.1-wrap .i64 (min r_5 (wrap .i64 (x.1.2.1-1))*x.2.2.2)))*ov)+wrap
 IntKind.i64 (wrap .i64 (wrap .i64 (x.2.2.1-wrap .i64 (min r_5 (wrap .i64 (x.1.2.1-1))*x.2.2.2))-wrap .i64 (x.2.1 -
 wrap .i64 (min r_4 (wrap .i64 (x.1.1-1))*x.2.2.2)))*ov_1))+wrap .i64 (wrap .i64 (x.2.1-wrap .i64 (min r_4 (wrap
 IntKind.i64 (x.1.1-1))*x.2.2.2))*r_6)))).bind fun (ov:Int)=>((idxM x.1.2.2.2 (wrap .i64 (wrap .i64 (wrap .i64 (min r_5 (wrap
 IntKind.i64 (x.1.2.1-1))+1)*wrap .i64 (x.1.1+1))+wrap .i64 (min r_4 (wrap .i64 (x.1.1-1))+1)))).bind fun r_6=>bif leM
 (wrap .i64 (x.2.2.1-wrap .i64 (min r_5 (wrap .i64 (x.1.2.1-1))*x.2.2.2))) (wrap .i64 (x.2.1-wrap .i64 (min r_4
 (wrap .i64 (x.1.1-1))*x.2.2.2))) then ((idxM x.1.2.2.2 (wrap .i64 (wrap .i64 (min r_5 (wrap .i64 (x.1.2.1-1))*wrap
 IntKind.i64 (x.1.1+1))+min r_4 (wrap .i64 (x.1.1-1))))).bind fun r=>some r).bind fun (ov_1:Int)=>((idxM x.1.2.2.2 (wrap .i64 (wrap
 IntKind.i64 (min r_5 (wrap .i64 (x.1.2.1-1))*wrap .i64 (x.1.1+1))+wrap .i64 (min r_4 (wrap .i64 (x.1.1-1))+1)))).bind
 fun r=>some r).bind fun (ov:Int)=>some (wrap .i64 (wrap .i64 (wrap .i64 (wrap .i64 (x.2.2.2-wrap .i64 (x.2.1-wrap
 IntKind.i64 (min r_4 (wrap .i64 (x.1.1-1))*x.2.2.2)))*ov_1)+wrap .i64 (wrap .i64 (wrap .i64 (x.2.1-wrap .i64 (min
 r_4 (wrap .i64 (x.1.1-1))*x.2.2.2))-wrap .i64 (x.2.2.1-wrap .i64 (min r_5 (wrap .i64 (x.1.2.1-1))*x.2.2.2)))*ov)) +
 wrap .i64 (wrap .i64 (x.2.2.1-wrap .i64 (min r_5 (wrap .i64 (x.1.2.1-1))*x.2.2.2))*r_6))) else ((idxM x.1.2.2.2 (wrap
 IntKind.i64 (wrap .i64 (min r_5 (wrap .i64 (x.1.2.1-1))*wrap .i64 (x.1.1+1))+min r_4 (wrap .i64 (x.1.1-1))))).bind fun r
 => some r).bind fun (ov_1:Int)=>((idxM x.1.2.2.2 (wrap .i64 (wrap .i64 (wrap .i64 (min r_5 (wrap .i64 (x.1.2.1-1))+1) *
 wrap .i64 (x.1.1+1))+min r_4 (wrap .i64 (x.1.1-1))))).bind fun r=>some r).bind fun (ov:Int)=>some (wrap .i64 (wrap
 IntKind.i64 (wrap .i64 (wrap .i64 (x.2.2.2-wrap .i64 (x.2.2.1-wrap .i64 (min r_5 (wrap .i64 (x.1.2.1-1))*x.2.2.2)))
 * ov_1)+wrap .i64 (wrap .i64 (wrap .i64 (x.2.2.1-wrap .i64 (min r_5 (wrap .i64 (x.1.2.1-1))*x.2.2.2))-wrap
 IntKind.i64 (x.2.1-wrap .i64 (min r_4 (wrap .i64 (x.1.1-1))*x.2.2.2)))*ov))+wrap .i64 (wrap .i64 (x.2.1-wrap
 IntKind.i64 (min r_4 (wrap .i64 (x.1.1-1))*x.2.2.2))*r_6)))).bind fun (ov_1:Int)=>some (ov,ov_1,0)
theorem c13:SpecOK Tryz.prog 13 ⟨as13,rs13,m13⟩ :=
 fc tabs21OK [] an13 Tryz.f13 fun x=>by kernel_rfl
def tabs13:Tabs:=Tabs.add tabs21 13 ⟨as13,rs13,m13⟩
theorem tabs13OK:TabOK Tryz.prog tabs13:=TabOK.add tabs21OK c13 Tryz.call13

/-! putlog/field.Integral6 -/
def as14:List Ty:=[(.pair tI (.pair tI (.pair tL tL)))]
def rs14:List Ty:=[tI,tI]
def an14_0:Ann:=.kp [] ⟨[(13,.r (.c (.d (.d tI))))],[],[],[]⟩ (.seq (.a) (.a)) (.kp [] ⟨[(17,.r (.c (.d (.d tI))))],[],[],[]⟩ (.seq (.a) (.a)) (.kp [] ⟨[(22,.r (.c (.d (.d tI))))],[],[],[]⟩ (.seq (.a) (.a)) (.a)))
def an14:Ann:=.seq (.a) (.seq (.a) (.seq (.reg [] [] [.s [0] [],z0,.r,z0,z0,z0,z0] (.call [] [] (.seq (.a) (.seq (.reg [0,0,0,4,14,31,0,0,0,256,959,2047,4095,8191] (ra 0 14 ([])) [z0,.s [1] [],z0,.s [1] [],.k [2,3],.k [],z0,.s [1] [],z0,.s [1] [],.k [4,5],.k [],z0,z0] (.kp [] ⟨[(10,.r (.c (.f 75 [] [.p 2 0,.p 3 0])))],[],[],[.box [.d (.d tL)],.box [.d (.d tI),.d (.d tI),.d (.d tL),.d (.d tL)]]⟩ (.seq (.a) (.a)) (.kp [] ⟨[(11,.r (.c (.d (.d tI))))],[],[],[]⟩ (.seq (.a) (.seq (.a) (.seq (.seq (.reg [] [] [.s [0] [],.r] (.call [] [] (.seq (.a) (.a)) (.a))) (.block (.call [] [] (.seq (.a) (.block (.loop ⟨[(9,.r (.c (.d (.d tI))))],(3::4::5::6::ra 10 39 ([])),[(5,.box [.d (.d tI)]),(7,.lp .ready)],[]⟩ [(.exit 0,⟨[],(3::4::5::6::ra 9 40 ([])),[(5,.box [.d (.d tI)]),(7,.lp .ready)],[]⟩)] (.seq (.a) (.seq (.a) (.seq (.block (.seq (.a) (.seq (.a) (.block (.loop ⟨[(14,.r (.c (.d (.d tI))))],(4::5::6::ra 15 33 ([])),[(5,.box [.d (.d tI)]),(7,.lp .ready)],[]⟩ [(.exit 2,⟨[],(4::5::6::ra 14 34 ([])),[(5,.box [.d (.d tI)]),(7,.lp .ready)],[]⟩)] (.seq (.a) (.seq (.a) (.seq (.block (.seq (.a) (.seq (.a) (.seq (.reg [] [] [z0,.s [8] [],z0,z0,z0,z0,.s [9] [],z0,.r,z0,z0,z0,.s [8] [],.s [9] [],z0,z0,z0,z0,z0,.r,z0,z0] (.call [] [] (.seq (.a) (.block (.reg [0,0,0,4,14,0,0,64,254,510,0,0,2048,7678,16382,32767,65535] (ra 0 17 ([])) [.s [5] [],.s [4] [],z0,.s [10] [],.k [],.s [4] [],z0,.s [10] [],.k [],z0,.s [4] [],z0,.s [10] [],.k [],z0,z0,.s [5] [5]] an14_0))) (.gq z0 (.gq (.s [8] []) (.gq (.s [9] []) (.gq z0 (.gq z0 (.gq z0 (.gq z0 (.gq z0 (.gq (.r) (.call [] [] (.seq (.a) (.block (.reg [0,0,0,4,14,0,0,64,254,510,0,0,2048,7678,16382,32767,65535] (ra 0 17 ([])) [.s [5] [],.s [4] [],z0,.s [11] [],.k [],.s [4] [],z0,.s [11] [],.k [],z0,.s [4] [],z0,.s [11] [],.k [],z0,z0,.s [5] [5]] an14_0))) (.gq z0 (.a) (.a))) (.a)) (.a)) (.a)) (.a)) (.a)) (.a)) (.a)) (.a)) (.a)))) (.a))))) (.a))))))))) (.a))))))) (.a)))) (.a)))) (.kp [] ⟨[(16,.r (.c (.f 75 [] [.p 4 0,.p 5 0])))],[],[],[.box [.d (.d tL)],.box [.d (.d tI),.d (.d tI),.d (.d tL),.d (.d tL)]]⟩ (.seq (.a) (.a)) (.kp [] ⟨[(17,.r (.c (.d (.d tI))))],[],[],[]⟩ (.seq (.a) (.seq (.a) (.seq (.seq (.reg [] [] [.s [0] [],.r] (.call [] [] (.seq (.a) (.a)) (.a))) (.block (.call [] [] (.seq (.a) (.block (.loop ⟨[(9,.r (.c (.d (.d tI))))],(3::4::5::6::ra 10 39 ([])),[(7,.box [.d (.d tI)]),(9,.lp .ready)],[]⟩ [(.exit 0,⟨[],(3::4::5::6::ra 9 40 ([])),[(7,.box [.d (.d tI)]),(9,.lp .ready)],[]⟩)] (.seq (.a) (.seq (.a) (.seq (.block (.seq (.a) (.seq (.a) (.block (.loop ⟨[(14,.r (.c (.d (.d tI))))],(4::5::6::ra 15 33 ([])),[(7,.box [.d (.d tI)]),(9,.lp .ready)],[]⟩ [(.exit 2,⟨[],(4::5::6::ra 14 34 ([])),[(7,.box [.d (.d tI)]),(9,.lp .ready)],[]⟩)] (.seq (.a) (.seq (.a) (.seq (.block (.seq (.a) (.seq (.a) (.seq (.reg [] [] [z0,.s [10] [],z0,z0,z0,z0,.s [11] [],z0,.r,z0,z0,z0,.s [10] [],.s [11] [],z0,z0,z0,z0,z0,.r,z0,z0] (.call [] [] (.seq (.a) (.block (.reg [0,0,0,4,14,0,0,64,254,510,0,0,2048,7678,16382,32767,65535] (ra 0 17 ([])) [.s [7] [],.s [6] [],z0,.s [12] [],.k [],.s [6] [],z0,.s [12] [],.k [],z0,.s [6] [],z0,.s [12] [],.k [],z0,z0,.s [7] [7]] an14_0))) (.gq z0 (.gq (.s [10] []) (.gq (.s [11] []) (.gq z0 (.gq z0 (.gq z0 (.gq z0 (.gq z0 (.gq (.r) (.call [] [] (.seq (.a) (.block (.reg [0,0,0,4,14,0,0,64,254,510,0,0,2048,7678,16382,32767,65535] (ra 0 17 ([])) [.s [7] [],.s [6] [],z0,.s [13] [],.k [],.s [6] [],z0,.s [13] [],.k [],z0,.s [6] [],z0,.s [13] [],.k [],z0,z0,.s [7] [7]] an14_0))) (.gq z0 (.a) (.a))) (.a)) (.a)) (.a)) (.a)) (.a)) (.a)) (.a)) (.a)) (.a)))) (.a))))) (.a))))))))) (.a))))))) (.a)))) (.a)))) (.a)))))) (.a))) (.a))) (.a)))
def m14:(Int×Int×List Int×List Int)→Option (Int×Int) :=
 fun x=>(m21 (x.1,x.2.1,x.2.2.1,x.2.2.2)).bind fun r=>bif PE.notM r then some (0,0) else ((loopM (fun (s:Int×Int)=>bif ltM s.1 x.2.1 then (loopM
 (fun (s_1:Int×Int)=>bif ltM s_1.1 x.1 then ((idxM x.2.2.1 (wrap .i64 (wrap .i64 (s.1*wrap .i64 (x.1+1))+s_1.1))).bind fun r
 => some r).bind fun (ov:Int)=>((idxM x.2.2.1 (wrap .i64 (wrap .i64 (s.1*wrap .i64 (x.1+1))+wrap .i64 (s_1.1+1)))).bind
 fun r=>some r).bind fun (ov_1:Int)=>((idxM x.2.2.1 (wrap .i64 (wrap .i64 (wrap .i64 (s.1+1)*wrap .i64 (x.1+1))+wrap
 IntKind.i64 (s_1.1+1)))).bind fun r=>some r).bind fun (ov_2:Int)=>((idxM x.2.2.1 (wrap .i64 (wrap .i64 (s.1*wrap .i64 (x.1 +
 1))+s_1.1))).bind fun r=>some r).bind fun (ov_3:Int)=>((idxM x.2.2.1 (wrap .i64 (wrap .i64 (wrap .i64 (s.1+1)*wrap
 IntKind.i64 (x.1+1))+wrap .i64 (s_1.1+1)))).bind fun r=>some r).bind fun (ov_4:Int)=>((idxM x.2.2.1 (wrap .i64 (wrap IntKind.i64
 (wrap .i64 (s.1+1)*wrap .i64 (x.1+1))+s_1.1))).bind fun r=>some r).bind fun (ov_5:Int)=>some (Sum.inl (wrap .i64 (s_1.1 +
 1),wrap .i64 (wrap .i64 (s_1.2+wrap .i64 (wrap .i64 (ov+ov_1)+ov_2))+wrap .i64 (wrap .i64 (ov_3+ov_4) +
 ov_5)))) else some (Sum.inr s_1.2)) (0,s.2)).bind fun o=>some (Sum.inl (wrap .i64 (s.1+1),o)) else some (Sum.inr s.2)) (0,0)).bind fun o=>some
 o).bind fun (ov:Int)=>((loopM (fun (s:Int×Int)=>bif ltM s.1 x.2.1 then (loopM (fun (s_1:Int×Int)=>bif ltM s_1.1 x.1 then ((idxM x.2.2.2 (wrap
 IntKind.i64 (wrap .i64 (s.1*wrap .i64 (x.1+1))+s_1.1))).bind fun r=>some r).bind fun (ov_1:Int)=>((idxM x.2.2.2 (wrap IntKind.i64
 (wrap .i64 (s.1*wrap .i64 (x.1+1))+wrap .i64 (s_1.1+1)))).bind fun r=>some r).bind fun (ov_2:Int)=>((idxM x.2.2.2 (wrap
 IntKind.i64 (wrap .i64 (wrap .i64 (s.1+1)*wrap .i64 (x.1+1))+wrap .i64 (s_1.1+1)))).bind fun r=>some r).bind fun (ov_3
 : Int)=>((idxM x.2.2.2 (wrap .i64 (wrap .i64 (s.1*wrap .i64 (x.1+1))+s_1.1))).bind fun r=>some r).bind fun (ov_4:Int) =>
 ((idxM x.2.2.2 (wrap .i64 (wrap .i64 (wrap .i64 (s.1+1)*wrap .i64 (x.1+1))+wrap .i64 (s_1.1+1)))).bind fun r =>
 some r).bind fun (ov_5:Int)=>((idxM x.2.2.2 (wrap .i64 (wrap .i64 (wrap .i64 (s.1+1)*wrap .i64 (x.1+1))+s_1.1))).bind
 fun r=>some r).bind fun (ov:Int)=>some (Sum.inl (wrap .i64 (s_1.1+1),wrap .i64 (wrap .i64 (s_1.2+wrap .i64 (wrap
 IntKind.i64 (ov_1+ov_2)+ov_3))+wrap .i64 (wrap .i64 (ov_4+ov_5)+ov)))) else some (Sum.inr s_1.2)) (0,s.2)).bind fun o=>some
 (Sum.inl (wrap .i64 (s.1+1),o)) else some (Sum.inr s.2)) (0,0)).bind fun o=>some o).bind fun (ov_1:Int)=>some (ov,ov_1)
theorem c14:SpecOK Tryz.prog 14 ⟨as14,rs14,m14⟩ :=
 fc tabs13OK [] an14 Tryz.f14 fun x=>by kernel_rfl
def tabs14:Tabs:=Tabs.add tabs13 14 ⟨as14,rs14,m14⟩
theorem tabs14OK:TabOK Tryz.prog tabs14:=TabOK.add tabs13OK c14 Tryz.call14

/-! putlog/putloglaw25.at -/
def as15:List Ty:=[tI,tI]
def rs15:List Ty:=[tP]
def an15:Ann:=.a
def m15:(Int×Int)→Option (Int×Int) :=
 fun x=>some (x.1,x.2)
theorem c15:SpecOK Tryz.prog 15 ⟨as15,rs15,m15⟩ :=
 fc tabs14OK [] an15 Tryz.f15 fun x=>by kernel_rfl
def tabs15:Tabs:=Tabs.add tabs14 15 ⟨as15,rs15,m15⟩
theorem tabs15OK:TabOK Tryz.prog tabs15:=TabOK.add tabs14OK c15 Tryz.call15

/-! putlog/plane.isOff -/
def as52:List Ty:=[tP]
def rs52:List Ty:=[.bool]
def an52:Ann:=.a
def m52:(Int×Int)→Option (Bool) :=
 fun x=>some (PE.orM (ltM (min x.1 x.2) 0) (ltM 40 (max x.1 x.2)))
theorem c52:SpecOK Tryz.prog 52 ⟨as52,rs52,m52⟩ :=
 fc tabs15OK [] an52 Tryz.f52 fun x=>by kernel_rfl
def tabs52:Tabs:=Tabs.add tabs15 52 ⟨as52,rs52,m52⟩
theorem tabs52OK:TabOK Tryz.prog tabs52:=TabOK.add tabs15OK c52 Tryz.call52

/-! putlog/plane.turn -/
def as53:List Ty:=[tP,tP,tP]
def rs53:List Ty:=[tI]
def an53:Ann:=.a
def m53:((Int×Int)×(Int×Int)×Int×Int)→Option (Int) :=
 fun x=>some (wrap .i64 (wrap .i64 (wrap .i64 (x.2.1.1-x.1.1)*wrap .i64 (x.2.2.2-x.1.2))-wrap .i64 (wrap IntKind.i64
 (x.2.1.2-x.1.2)*wrap .i64 (x.2.2.1-x.1.1))))
theorem c53:SpecOK Tryz.prog 53 ⟨as53,rs53,m53⟩ :=
 fc tabs52OK [] an53 Tryz.f53 fun x=>by kernel_rfl
def tabs53:Tabs:=Tabs.add tabs52 53 ⟨as53,rs53,m53⟩
theorem tabs53OK:TabOK Tryz.prog tabs53:=TabOK.add tabs52OK c53 Tryz.call53

/-! putlog/plane.Valid -/
def as25:List Ty:=[tQ]
def rs25:List Ty:=[.bool]
def an25:Ann:=.seq (.a) (.seq (.seq (.reg [] [] [z0,z0,z0,z0,z0,z0,z0,z0,z0,z0,.k [],z0] (.call [] [(.norm,⟨[(18,.r (.c (.d (.d .bool))))],[],[],[]⟩)] (.seq (.a) (.seq (.reg [] [] [z0,z0,.r,z0,z0] (.call [] [(.norm,⟨[(7,.r (.c (.d (.d tI))))],[],[],[]⟩)] (.seq (.a) (.seq (.seq (.a) (.block (.loop ⟨[(8,.r (.c (.d (.d tI))))],(5::ra 9 8 (18::[])),[],[]⟩ [(.exit 0,⟨[],(5::ra 8 9 (18::[])),[],[]⟩),(.ret,⟨[(4,.r (.c (.d (.d tI))))],(5::ra 8 11 ([])),[],[]⟩)] (.a)))) (.a))) (.a))) (.a))) (.a))) (.a)) (.seq (.seq (.a) (.block (.loop ⟨[(22,.r (.c (.d (.d tI))))],(3::4::5::6::7::ra 23 36 ([])),[],[]⟩ [(.exit 0,⟨[],(3::4::5::6::7::ra 22 37 ([])),[],[]⟩),(.ret,⟨[(2,.r (.c (.d (.d .bool))))],(3::4::5::6::7::ra 22 37 ([])),[],[]⟩)] (.seq (.a) (.seq (.a) (.seq (.block (.seq (.a) (.seq (.a) (.seq (.a) (.block (.loop ⟨[(34,.r (.c (.d (.d tI))))],(6::7::ra 35 23 ([])),[],[]⟩ [(.exit 2,⟨[],(6::7::ra 34 24 ([])),[],[]⟩),(.ret,⟨[(2,.r (.c (.d (.d .bool))))],(6::7::ra 34 24 ([])),[],[]⟩)] (.seq (.a) (.seq (.a) (.seq (.block (.seq (.a) (.seq (.reg [0,0,3,7,15,15,63,127,255,511,511,511,3583,7679,511,32767,65535,131071] (ra 0 18 ([])) (za 9 (.s [0] []::za 4 (.s [1] []::za 3 ([])))) (.a)) (.a)))) (.a)))))))))) (.a))))))) (.a)))
def m25:(List (Int×Int))→Option (Bool) :=
 fun x=>(bif PE.notM (PE.orM (ltM (lenM x) 3) (ltM 8 (lenM x))) then ((loopM (fun (s:Int)=>bif ltM s (lenM x) then (idxM x s).bind fun r=>(m52 (r.1,
 r.2)).bind fun r=>bif r then some (Sum.inr (Sum.inr s)) else some (Sum.inl (wrap .i64 (s+1))) else some (Sum.inr (Sum.inl ()))) 0).bind fun o =>
 Sum.elim (fun (t:Unit)=>some (-1)) (fun (t:Int)=>some t) o).bind fun (ov:Int)=>some (leM 0 ov) else some false).bind fun (ov:Bool)=>bif PE.orM
 (PE.orM (ltM (lenM x) 3) (ltM 8 (lenM x))) ov then some false else (loopM (fun (s:Int)=>bif ltM s (lenM x) then (idxM x s).bind fun r=>(remM (wrap
 IntKind.i64 (s+1)) (lenM x)).bind fun r_1=>(loopM (fun (s_1:Int)=>bif ltM s_1 (lenM x) then (idxM x s_1).bind fun r_2=>(bif PE.andM (PE.notM (eqM
 s_1 s)) (PE.notM (eqM s_1 r_1)) then idxM x r_1 else some (0,0)).bind fun r_3=>(bif PE.andM (PE.notM (eqM s_1 s)) (PE.notM (eqM s_1 r_1)) then m53 ((r.1,
 r.2),(r_3.1,r_3.2),r_2.1,r_2.2) else some 0).bind fun r=>bif PE.andM (PE.andM (PE.notM (eqM s_1 s)) (PE.notM (eqM s_1 r_1))) (leM r 0) then some
 (Sum.inr (Sum.inr false)) else some (Sum.inl (wrap .i64 (s_1+1))) else some (Sum.inr (Sum.inl ()))) 0).bind fun o=>Sum.elim (fun (t:Unit)=>some
 (Sum.inl (wrap .i64 (s+1)))) (fun (t:Bool)=>some (Sum.inr (Sum.inr t))) o else some (Sum.inr (Sum.inl ()))) 0).bind fun o=>Sum.elim (fun (t :
 Unit)=>some true) (fun (t:Bool)=>some t) o
theorem c25:SpecOK Tryz.prog 25 ⟨as25,rs25,m25⟩ :=
 fc tabs53OK [] an25 Tryz.f25 fun x=>by kernel_rfl
def tabs25:Tabs:=Tabs.add tabs53 25 ⟨as25,rs25,m25⟩
theorem tabs25OK:TabOK Tryz.prog tabs25:=TabOK.add tabs53OK c25 Tryz.call25

/-! putlog/integer.FromInt -/
def as57:List Ty:=[tI]
def rs57:List Ty:=[.str]
def an57:Ann:=.a
def m57:Int→Option (List UInt8) :=
 fun x=>some (itoaM x)
theorem c57:SpecOK Tryz.prog 57 ⟨as57,rs57,m57⟩ :=
 fc tabs25OK [] an57 Tryz.f57 fun x=>by kernel_rfl
def tabs57:Tabs:=Tabs.add tabs25 57 ⟨as57,rs57,m57⟩
theorem tabs57OK:TabOK Tryz.prog tabs57:=TabOK.add tabs25OK c57 Tryz.call57

/-! putlog/integer.isValid -/
def as106:List Ty:=[.str]
def rs106:List Ty:=[.bool]
def an106:Ann:=.a
def m106:List UInt8→Option (Bool) :=
 fun x=>(bif PE.notM (PE.orM (eqsM (prefM x [(45:UInt8)]) []) (ltM 200 (lenM (prefM x [(45:UInt8)])))) then trimM (prefM x [(45:UInt8)]) [(48:UInt8),
 (49:UInt8),(50:UInt8),(51:UInt8),(52:UInt8),(53:UInt8),(54:UInt8),(55:UInt8),(56:UInt8),(57:UInt8)] else some []).bind fun r=>bif
 PE.orM (PE.orM (eqsM (prefM x [(45:UInt8)]) []) (ltM 200 (lenM (prefM x [(45:UInt8)])))) (PE.notM (eqsM r [])) then some false else (bif PE.notM (eqsM x
 [(48:UInt8)]) then byteM (prefM x [(45:UInt8)]) 0 else some 0).bind fun r=>some (PE.orM (eqsM x [(48:UInt8)]) (PE.notM (eqM r 48)))
theorem c106:SpecOK Tryz.prog 106 ⟨as106,rs106,m106⟩ :=
 fc tabs57OK [] an106 Tryz.f106 fun x=>by kernel_rfl
def tabs106:Tabs:=Tabs.add tabs57 106 ⟨as106,rs106,m106⟩
theorem tabs106OK:TabOK Tryz.prog tabs106:=TabOK.add tabs57OK c106 Tryz.call106

/-! putlog/integer.Valid -/
def as76:List Ty:=[.str]
def rs76:List Ty:=[.bool]
def an76:Ann:=.a
def m76:List UInt8→Option (Bool) :=
 fun x=>(m106 x).bind fun r=>some r
theorem c76:SpecOK Tryz.prog 76 ⟨as76,rs76,m76⟩ :=
 fc tabs106OK [] an76 Tryz.f76 fun x=>by kernel_rfl
def tabs76:Tabs:=Tabs.add tabs106 76 ⟨as76,rs76,m76⟩
theorem tabs76OK:TabOK Tryz.prog tabs76:=TabOK.add tabs106OK c76 Tryz.call76

/-! (putlog/integer.number).trimmed -/
def as145:List Ty:=[tL]
def rs145:List Ty:=[tL]
def an145:Ann:=.seq (.a) (.seq (.block (.loop ⟨[(0,.r (.c (.d (.d tL))))],(ra 3 17 ([])),[],[]⟩ [(.exit 0,⟨[(0,.r (.c (.d (.d tL))))],(ra 3 17 ([])),[],[]⟩)] (.a))) (.a))
def m145:List Int→Option (List Int) :=
 fun x=>(loopM (fun (s:List Int)=>(bif ltM 0 (lenM s) then idxM s (wrap .i64 (lenM s-1)) else some 0).bind fun r=>bif PE.andM (ltM 0 (lenM s))
 (eqM r 0) then (sliceM s 0 (wrap .i64 (lenM s-1))).bind fun r=>some (Sum.inl r) else some (Sum.inr s)) x).bind fun o=>some o
theorem c145:SpecOK Tryz.prog 145 ⟨as145,rs145,m145⟩ :=
 fc tabs76OK [] an145 Tryz.f145 fun x=>by kernel_rfl
def tabs145:Tabs:=Tabs.add tabs76 145 ⟨as145,rs145,m145⟩
theorem tabs145OK:TabOK Tryz.prog tabs145:=TabOK.add tabs76OK c145 Tryz.call145

/-! putlog/integer.parse -/
def as114:List Ty:=[.str]
def rs114:List Ty:=[(.pair .bool tL)]
def an114:Ann:=.seq (.a) (.seq (.a) (.seq (.a) (.seq (.block (.loop ⟨[(3,.r (.c (.d (.d .str))))],(5::6::7::ra 16 23 ([])),[(1,.box [.d (.d .bool),.h 2])],[.arr tI]⟩ [(.exit 0,⟨[],(3::5::6::7::ra 16 23 ([])),[(1,.box [.d (.d .bool),.h 2])],[.arr tI]⟩)] (.a))) (.a))))
def m114:List UInt8→Option (Bool×List Int) :=
 fun x=>(loopM (fun (s:List UInt8×Bool×List Int)=>bif ltM 0 (lenM s.1) then (sliceM s.1 (max 0 (wrap .i64 (lenM s.1-4))) (lenM s.1)).bind fun
 r=>(atoiM r).bind fun r_1=>(appM (nat_lit 8) s.2.2 [r_1]).bind fun r_2=>(sliceM s.1 0 (max 0 (wrap .i64 (lenM s.1-4)))).bind fun r=>some
 (Sum.inl (r,s.2.1,r_2)) else some (Sum.inr (s.2.1,s.2.2))) (prefM x [(45:UInt8)],ltM (lenM (prefM x [(45:UInt8)])) (lenM x),[])).bind fun o=>(m145
 o.2).bind fun r=>some (o.1,r)
theorem c114:SpecOK Tryz.prog 114 ⟨as114,rs114,m114⟩ :=
 fc tabs145OK [] an114 Tryz.f114 fun x=>by kernel_rfl
def tabs114:Tabs:=Tabs.add tabs145 114 ⟨as114,rs114,m114⟩
theorem tabs114OK:TabOK Tryz.prog tabs114:=TabOK.add tabs145OK c114 Tryz.call114

/-! putlog/integer.both -/
def as83:List Ty:=[.str,.str]
def rs83:List Ty:=[(.pair .bool tL),(.pair .bool tL),.bool]
def an83:Ann:=.a
def m83:(List UInt8×List UInt8)→Option ((Bool×List Int)×(Bool×List Int)×Bool) :=
 fun x=>(m106 x.1).bind fun r=>(bif PE.notM (PE.notM r) then m106 x.2 else some false).bind fun r_1=>bif PE.orM (PE.notM r) (PE.notM r_1) then some
 ((false,[]),(false,[]),false) else (m114 x.1).bind fun r_2=>(m114 x.2).bind fun r=>some ((r_2.1,r_2.2),(r.1,r.2),true)
theorem c83:SpecOK Tryz.prog 83 ⟨as83,rs83,m83⟩ :=
 fc tabs114OK [] an83 Tryz.f83 fun x=>by kernel_rfl
def tabs83:Tabs:=Tabs.add tabs114 83 ⟨as83,rs83,m83⟩
theorem tabs83OK:TabOK Tryz.prog tabs83:=TabOK.add tabs114OK c83 Tryz.call83

/-! cmp.isNaN[int] -/
def as136:List Ty:=[tI]
def rs136:List Ty:=[.bool]
def an136:Ann:=.a
def m136:Int→Option (Bool) :=
 fun x=>some (PE.notM (eqM x x))
theorem c136:SpecOK Tryz.prog 136 ⟨as136,rs136,m136⟩ :=
 fc tabs83OK [] an136 Tryz.f136 fun x=>by kernel_rfl
def tabs136:Tabs:=Tabs.add tabs83 136 ⟨as136,rs136,m136⟩
theorem tabs136OK:TabOK Tryz.prog tabs136:=TabOK.add tabs83OK c136 Tryz.call136

/-! cmp.Compare[int] -/
def as149:List Ty:=[tI,tI]
def rs149:List Ty:=[tI]
def an149:Ann:=.a
def m149:(Int×Int)→Option (Int) :=
 fun x=>(m136 x.1).bind fun r=>(m136 x.2).bind fun r_1=>bif r then bif r_1 then some 0 else some (-1) else bif r_1 then some 1 else bif ltM x.1 x.2 then
 some (-1) else bif ltM x.2 x.1 then some 1 else some 0
theorem c149:SpecOK Tryz.prog 149 ⟨as149,rs149,m149⟩ :=
 fc tabs136OK [] an149 Tryz.f149 fun x=>by kernel_rfl
def tabs149:Tabs:=Tabs.add tabs136 149 ⟨as149,rs149,m149⟩
theorem tabs149OK:TabOK Tryz.prog tabs149:=TabOK.add tabs136OK c149 Tryz.call149

/-! (putlog/integer.number).compare -/
def as116:List Ty:=[tL,tL]
def rs116:List Ty:=[tI]
def an116:Ann:=.seq (.a) (.seq (.a) (.seq (.seq (.reg [] [] [z0,.r] (.call [] [] (.seq (.a) (.a)) (.a))) (.block (.call [] [] (.seq (.a) (.block (.loop ⟨[(3,.r (.c (.d (.d tI))))],(ra 7 12 ([])),[(3,.lp .ready)],[]⟩ [(.exit 0,⟨[],(3::ra 7 12 ([])),[(3,.lp .ready)],[]⟩),(.ret,⟨[],(3::ra 7 12 ([])),[(1,.box [.d (.d tI)]),(3,.lp (.done .ret))],[]⟩)] (.seq (.a) (.seq (.block (.seq (.reg [] [] [z0,z0,.s [2] [],z0,z0,z0,.r,z0] (.call [] [] (.seq (.a) (.a)) (.a))) (.a))) (.a)))))) (.a)))) (.a)))
def m116:(List Int×List Int)→Option (Int) :=
 fun x=>bif PE.notM (eqM (lenM x.1) (lenM x.2)) then (m149 (lenM x.1,lenM x.2)).bind fun r=>some r else (loopM (fun (s:Int)=>bif leM 0 s then (idxM x.1
 s).bind fun r=>(idxM x.2 s).bind fun r_1=>bif PE.notM (eqM r r_1) then (idxM x.2 s).bind fun r_2=>(m149 (r,r_2)).bind fun r=>some (Sum.inr (Sum.inr
 r)) else some (Sum.inl (wrap .i64 (s-1))) else some (Sum.inr (Sum.inl ()))) (wrap .i64 (lenM x.1-1))).bind fun o=>Sum.elim (fun (t:Unit)
 => some 0) (fun (t:Int)=>some t) o
theorem c116:SpecOK Tryz.prog 116 ⟨as116,rs116,m116⟩ :=
 fc tabs149OK [] an116 Tryz.f116 fun x=>by kernel_rfl
def tabs116:Tabs:=Tabs.add tabs149 116 ⟨as116,rs116,m116⟩
theorem tabs116OK:TabOK Tryz.prog tabs116:=TabOK.add tabs149OK c116 Tryz.call116

/-! putlog/integer.Compare -/
def as107:List Ty:=[.str,.str]
def rs107:List Ty:=[tI]
def an107:Ann:=.a
def m107:(List UInt8×List UInt8)→Option (Int) :=
 fun x=>(m83 (x.1,x.2)).bind fun r=>bif PE.notM r.2.2 then some 0 else bif PE.andM r.1.1 r.2.1.1 then (m116 (r.2.1.2,r.1.2)).bind fun r=>some r else bif
 r.1.1 then some (-1) else bif r.2.1.1 then some 1 else (m116 (r.1.2,r.2.1.2)).bind fun r=>some r
theorem c107:SpecOK Tryz.prog 107 ⟨as107,rs107,m107⟩ :=
 fc tabs116OK [] an107 Tryz.f107 fun x=>by kernel_rfl
def tabs107:Tabs:=Tabs.add tabs116 107 ⟨as107,rs107,m107⟩
theorem tabs107OK:TabOK Tryz.prog tabs107:=TabOK.add tabs116OK c107 Tryz.call107

/-! (putlog/integer.number).at -/
def as148:List Ty:=[tL,tI]
def rs148:List Ty:=[tI]
def an148:Ann:=.a
def m148:(List Int×Int)→Option (Int) :=
 fun x=>bif ltM x.2 (lenM x.1) then (idxM x.1 x.2).bind fun r=>some r else some 0
theorem c148:SpecOK Tryz.prog 148 ⟨as148,rs148,m148⟩ :=
 fc tabs107OK [] an148 Tryz.f148 fun x=>by kernel_rfl
def tabs148:Tabs:=Tabs.add tabs107 148 ⟨as148,rs148,m148⟩
theorem tabs148OK:TabOK Tryz.prog tabs148:=TabOK.add tabs107OK c148 Tryz.call148

/-! (putlog/integer.number).plus -/
def as115:List Ty:=[tL,tL]
def rs115:List Ty:=[tL]
def an115:Ann:=.seq (.a) (.seq (.reg [] [] [.s [0] [],z0,.s [1] [],z0,z0,z0,.r,.s [3] [3],z0] (.call [] [] (.seq (.a) (.seq (.a) (.seq (.seq (.a) (.block (.loop ⟨[(1,.r (.c (.d (.d tI)))),(7,.r (.c (.h 3))),(8,.r (.c (.d (.d tI))))],(9::ra 13 28 ([])),[(2,.gone)],[.arr tI]⟩ [(.exit 0,⟨[(7,.r (.c (.h 3)))],(1::8::9::ra 13 28 ([])),[(2,.gone)],[.arr tI]⟩)] (.seq (.a) (.seq (.block (.seq (.reg [] [] [z0,z0,.r,z0,z0,z0] (.call [] [] (.seq (.a) (.seq (.reg [0,0,3,0,0,31,63,127] (ra 0 8 ([])) (.s [0] []::z0::z0::.s [1] []::za 4 ([])) (.a)) (.a))) (.a))) (.seq (.a) (.seq (.join [(.norm,⟨[(1,.r (.c (.d (.d tI)))),(9,.r (.c (.d (.d tI))))],(ra 27 10 ([])),[],[]⟩)] (.a)) (.a))))) (.a)))))) (.a)))) (.a))) (.a))
def m115:(List Int×List Int)→Option (List Int) :=
 fun x=>(mkM 0 (wrap .i64 (max (lenM x.1) (lenM x.2)+1)) (nat_lit 8) 0).bind fun r=>(loopM (fun (s:Int×Int×List Int)=>bif PE.orM (ltM s.2.1
 (max (lenM x.1) (lenM x.2))) (PE.notM (eqM s.1 0)) then (m148 (x.1,s.2.1)).bind fun r_1=>(m148 (x.2,s.2.1)).bind fun r_2=>(bif ltM (wrap IntKind.i64
 (wrap .i64 (r_1+r_2)+s.1)) 0 then some ((-1),wrap .i64 (wrap .i64 (wrap .i64 (r_1+r_2)+s.1)+10000)) else bif leM 10000
 (wrap .i64 (wrap .i64 (r_1+r_2)+s.1)) then (divM .i64 (wrap .i64 (wrap .i64 (r_1+r_2)+s.1)) 10000).bind fun r_3 =>
 (remM (wrap .i64 (wrap .i64 (r_1+r_2)+s.1)) 10000).bind fun r=>some (r_3,r) else some (0,wrap .i64 (wrap .i64 (r_1+r_2)
 + s.1))).bind fun o=>(appM (nat_lit 8) s.2.2 [o.2]).bind fun r=>some (Sum.inl (o.1,wrap .i64 (s.2.1+1),r)) else some (Sum.inr s.2.2)) (0,0,
 r)).bind fun o=>(m145 o).bind fun r=>some r
theorem c115:SpecOK Tryz.prog 115 ⟨as115,rs115,m115⟩ :=
 fc tabs148OK [] an115 Tryz.f115 fun x=>by kernel_rfl
def tabs115:Tabs:=Tabs.add tabs148 115 ⟨as115,rs115,m115⟩
theorem tabs115OK:TabOK Tryz.prog tabs115:=TabOK.add tabs148OK c115 Tryz.call115

/-! (putlog/integer.number).minus -/
def as117:List Ty:=[tL,tL]
def rs117:List Ty:=[tL]
def an117:Ann:=.seq (.a) (.seq (.reg [] [] [.s [0] [],z0,z0,.r,.s [3] [3],z0] (.call [] [] (.seq (.a) (.seq (.a) (.seq (.seq (.a) (.block (.loop ⟨[(1,.r (.c (.d (.d tI)))),(7,.r (.c (.h 3))),(8,.r (.c (.d (.d tI))))],(9::ra 13 28 ([])),[(2,.gone)],[.arr tI]⟩ [(.exit 0,⟨[(7,.r (.c (.h 3)))],(1::8::9::ra 13 28 ([])),[(2,.gone)],[.arr tI]⟩)] (.seq (.a) (.seq (.block (.seq (.reg [] [] [z0,z0,.r,z0,z0,z0] (.call [] [] (.seq (.a) (.seq (.reg [0,0,3,0,0,31,63,127] (ra 0 8 ([])) (.s [0] []::z0::z0::.s [1] []::za 4 ([])) (.a)) (.a))) (.a))) (.seq (.a) (.seq (.join [(.norm,⟨[(1,.r (.c (.d (.d tI)))),(9,.r (.c (.d (.d tI))))],(ra 27 10 ([])),[],[]⟩)] (.a)) (.a))))) (.a)))))) (.a)))) (.a))) (.a))
def m117:(List Int×List Int)→Option (List Int) :=
 fun x=>(mkM 0 (wrap .i64 (lenM x.1+1)) (nat_lit 8) 0).bind fun r=>(loopM (fun (s:Int×Int×List Int)=>bif PE.orM (ltM s.2.1 (lenM x.1))
 (PE.notM (eqM s.1 0)) then (m148 (x.1,s.2.1)).bind fun r_1=>(m148 (x.2,s.2.1)).bind fun r_2=>(bif ltM (wrap .i64 (wrap .i64 (r_1-r_2) +
 s.1)) 0 then some ((-1),wrap .i64 (wrap .i64 (wrap .i64 (r_1-r_2)+s.1)+10000)) else bif leM 10000 (wrap .i64 (wrap
 IntKind.i64 (r_1-r_2)+s.1)) then (divM .i64 (wrap .i64 (wrap .i64 (r_1-r_2)+s.1)) 10000).bind fun r_3=>(remM (wrap IntKind.i64
 (wrap .i64 (r_1-r_2)+s.1)) 10000).bind fun r=>some (r_3,r) else some (0,wrap .i64 (wrap .i64 (r_1-r_2)+s.1))).bind fun o =>
 (appM (nat_lit 8) s.2.2 [o.2]).bind fun r=>some (Sum.inl (o.1,wrap .i64 (s.2.1+1),r)) else some (Sum.inr s.2.2)) (0,0,r)).bind fun o=>(m145
 o).bind fun r=>some r
theorem c117:SpecOK Tryz.prog 117 ⟨as117,rs117,m117⟩ :=
 fc tabs115OK [] an117 Tryz.f117 fun x=>by kernel_rfl
def tabs117:Tabs:=Tabs.add tabs115 117 ⟨as117,rs117,m117⟩
theorem tabs117OK:TabOK Tryz.prog tabs117:=TabOK.add tabs115OK c117 Tryz.call117

/-! (putlog/integer.signed).plus -/
def as84:List Ty:=[(.pair .bool tL),(.pair .bool tL)]
def rs84:List Ty:=[(.pair .bool tL)]
def an84:Ann:=.seq (.a) (.seq (.block (.seq (.a) (.cond (.seq (.reg [0,1,0,4,0,16,60,127,255] (ra 0 9 ([])) [z0,.s [0] [],z0,.s [0] [],z0,.s [1] [],z0,z0,.s [2] [2]] (.a)) (.a)) (.seq (.a) (.cond (.seq (.reg [0,1,0,4,0,16,60,127,255] (ra 0 9 ([])) [z0,.s [0] [],z0,.s [0] [],z0,.s [1] [],z0,z0,.s [2] [2]] (.a)) (.a)) (.a)))))) (.seq (.reg [0,1,0,4,0,16,60,127,255] (ra 0 9 ([])) [z0,.s [1] [],z0,.s [1] [],z0,.s [0] [],z0,z0,.s [2] [2]] (.a)) (.a)))
def m84:((Bool×List Int)×Bool×List Int)→Option (Bool×List Int) :=
 fun x=>bif eqbM x.1.1 x.2.1 then (m115 (x.1.2,x.2.2)).bind fun r=>some (x.1.1,r) else (m116 (x.1.2,x.2.2)).bind fun r=>bif leM 0 r then (m117 (x.1.2,
 x.2.2)).bind fun r=>some (x.1.1,r) else (m117 (x.2.2,x.1.2)).bind fun r=>some (x.2.1,r)
theorem c84:SpecOK Tryz.prog 84 ⟨as84,rs84,m84⟩ :=
 fc tabs117OK [] an84 Tryz.f84 fun x=>by kernel_rfl
def tabs84:Tabs:=Tabs.add tabs117 84 ⟨as84,rs84,m84⟩
theorem tabs84OK:TabOK Tryz.prog tabs84:=TabOK.add tabs117OK c84 Tryz.call84

/-! (putlog/integer.signed).text -/
def as85:List Ty:=[(.pair .bool tL)]
def rs85:List Ty:=[.str,tI]
def an85:Ann:=.seq (.a) (.seq (.a) (.seq (.a) (.seq (.seq (.reg [] [] [z0,.s [0] [],.r] (.call [] [] (.seq (.a) (.a)) (.a))) (.block (.call [] [] (.seq (.a) (.block (.loop ⟨[(3,.r (.c (.d (.d tI))))],(ra 7 12 ([])),[(1,.bld 163 5),(3,.lp .ready)],[]⟩ [(.exit 0,⟨[],(3::ra 7 12 ([])),[(1,.bld 163 5),(3,.lp .ready)],[]⟩)] (.seq (.a) (.seq (.block (.seq (.reg [] [] [z0,z0,.s [2] [],z0,z0,z0,.r,z0] (.call [] [] (.seq (.a) (.block (.seq (.a) (.seq (.join [(.norm,⟨[(7,.r (.c (.d (.d .str))))],(ra 20 12 ([])),[],[]⟩)] (.a)) (.a))))) (.a))) (.a))) (.a)))))) (.a)))) (.a))))
def m85:(Bool×List Int)→Option (List UInt8×Int) :=
 fun x=>bif eqM (lenM x.2) 0 then some ([(48:UInt8)],0) else (loopM (fun (s:Int×List UInt8)=>bif leM 0 s.1 then (idxM x.2 s.1).bind fun r=>(bif ltM
 s.1 (wrap .i64 (lenM x.2-1)) then (rptM [(48:UInt8)] (wrap .i64 (4-lenM (itoaM r)))).bind fun r_1=>(catM r_1 (itoaM r)).bind fun r =>
 some r else some (itoaM r)).bind fun o=>(catB s.2 o).bind fun r=>some (Sum.inl (wrap .i64 (s.1-1),r)) else some (Sum.inr s.2)) (wrap IntKind.i64
 (lenM x.2-1),[])).bind fun o=>bif ltM 200 (lenM o) then some ([],30) else bif x.1 then (catM [(45:UInt8)] o).bind fun r=>some (r,0) else some (o,
 0)
theorem c85:SpecOK Tryz.prog 85 ⟨as85,rs85,m85⟩ :=
 fc tabs84OK [] an85 Tryz.f85 fun x=>by kernel_rfl
def tabs85:Tabs:=Tabs.add tabs84 85 ⟨as85,rs85,m85⟩
theorem tabs85OK:TabOK Tryz.prog tabs85:=TabOK.add tabs84OK c85 Tryz.call85

/-! putlog/integer.Sub -/
def as108:List Ty:=[.str,.str]
def rs108:List Ty:=[.str,tI]
def an108:Ann:=.a
def m108:(List UInt8×List UInt8)→Option (List UInt8×Int) :=
 fun x=>(m83 (x.1,x.2)).bind fun r=>bif PE.notM r.2.2 then some ([],30) else (m84 ((r.1.1,r.1.2),PE.notM r.2.1.1,r.2.1.2)).bind fun r_1=>(m85 (r_1.1,
 r_1.2)).bind fun r=>some (r.1,r.2)
theorem c108:SpecOK Tryz.prog 108 ⟨as108,rs108,m108⟩ :=
 fc tabs85OK [] an108 Tryz.f108 fun x=>by kernel_rfl
def tabs108:Tabs:=Tabs.add tabs85 108 ⟨as108,rs108,m108⟩
theorem tabs108OK:TabOK Tryz.prog tabs108:=TabOK.add tabs85OK c108 Tryz.call108

/-! (putlog/integer.number).by -/
def as171:List Ty:=[tL,tI]
def rs171:List Ty:=[tL]
def an171:Ann:=.seq (.a) (.seq (.reg [] [] [.s [0] [],z0,z0,.r,.s [3] [3],z0] (.call [] [] (.seq (.a) (.seq (.a) (.seq (.seq (.a) (.block (.loop ⟨[(1,.r (.c (.d (.d tI)))),(7,.r (.c (.h 3))),(8,.r (.c (.d (.d tI))))],(9::ra 13 28 ([])),[(2,.gone)],[.arr tI]⟩ [(.exit 0,⟨[(7,.r (.c (.h 3)))],(1::8::9::ra 13 28 ([])),[(2,.gone)],[.arr tI]⟩)] (.seq (.a) (.seq (.block (.seq (.reg [] [] [z0,z0,.r,z0,z0,z0] (.call [] [] (.seq (.a) (.seq (.reg [0,0,3,0,15,31] (ra 0 6 ([])) [.s [0] [],z0,z0,.s [1] [],z0,z0] (.a)) (.a))) (.a))) (.seq (.a) (.seq (.join [(.norm,⟨[(1,.r (.c (.d (.d tI)))),(9,.r (.c (.d (.d tI))))],(ra 27 10 ([])),[],[]⟩)] (.a)) (.a))))) (.a)))))) (.a)))) (.a))) (.a))
def m171:(List Int×Int)→Option (List Int) :=
 fun x=>(mkM 0 (wrap .i64 (lenM x.1+1)) (nat_lit 8) 0).bind fun r=>(loopM (fun (s:Int×Int×List Int)=>bif PE.orM (ltM s.2.1 (lenM x.1))
 (PE.notM (eqM s.1 0)) then (m148 (x.1,s.2.1)).bind fun r_1=>(bif ltM (wrap .i64 (wrap .i64 (r_1*x.2)+s.1)) 0 then some ((-1),wrap
 IntKind.i64 (wrap .i64 (wrap .i64 (r_1*x.2)+s.1)+10000)) else bif leM 10000 (wrap .i64 (wrap .i64 (r_1*x.2)+s.1)) then
 (divM .i64 (wrap .i64 (wrap .i64 (r_1*x.2)+s.1)) 10000).bind fun r_2=>(remM (wrap .i64 (wrap .i64 (r_1*x.2)+s.1))
 10000).bind fun r=>some (r_2,r) else some (0,wrap .i64 (wrap .i64 (r_1*x.2)+s.1))).bind fun o=>(appM (nat_lit 8) s.2.2 [o.2]).bind fun
 r=>some (Sum.inl (o.1,wrap .i64 (s.2.1+1),r)) else some (Sum.inr s.2.2)) (0,0,r)).bind fun o=>(m145 o).bind fun r=>some r
theorem c171:SpecOK Tryz.prog 171 ⟨as171,rs171,m171⟩ :=
 fc tabs108OK [] an171 Tryz.f171 fun x=>by kernel_rfl
def tabs171:Tabs:=Tabs.add tabs108 171 ⟨as171,rs171,m171⟩
theorem tabs171OK:TabOK Tryz.prog tabs171:=TabOK.add tabs108OK c171 Tryz.call171
end
end Go.Proofs.YtdgabicjcepmeaaGreatDoor
namespace Go.Proofs.YtdgabicjcepmeaaGreatDoor
open Go Go.Abs Go.PE Go.Proofs
open Go.IntKind (wrap)
set_option maxRecDepth 100000
noncomputable section

/-! (putlog/integer.number).over -/
def as139:List Ty:=[tL,tL]
def rs139:List Ty:=[tL,tL]
def an139:Ann:=.seq (.a) (.seq (.a) (.seq (.seq (.reg [] [] [z0,.r] (.call [] [] (.seq (.a) (.a)) (.a))) (.block (.call [] [] (.seq (.a) (.block (.loop ⟨[(3,.r (.c (.d (.d tI))))],(ra 7 12 ([])),[(2,.box [.d (.d tL)]),(3,.arr tI),(5,.lp .ready)],[]⟩ [(.exit 0,⟨[],(3::ra 7 12 ([])),[(2,.box [.d (.d tL)]),(3,.arr tI),(5,.lp .ready)],[]⟩)] (.seq (.a) (.seq (.block (.seq (.reg [] [] [z0,z0,.s [4] [],z0,z0,z0,.r,z0] (.call [] [] (.seq (.a) (.block (.seq (.a) (.seq (.a) (.seq (.a) (.seq (.reg [0,0,0,4,15,31] (ra 0 6 ([])) [.s [1] [],z0,z0,.k [],.s [3] [],.s [3] [3]] (.kp [] ⟨[(28,.r (.c (.d (.d tI))))],[],[],[]⟩ (.seq (.a) (.seq (.a) (.seq (.block (.loop ⟨[(5,.r (.c (.d (.d tI)))),(6,.r (.c (.d (.d tI))))],(7::ra 9 16 ([])),[],[]⟩ [(.exit 0,⟨[(5,.r (.c (.d (.d tI))))],(6::7::ra 9 16 ([])),[],[]⟩)] (.seq (.a) (.block (.seq (.a) (.seq (.reg [] [] [z0,z0,.r,z0] (.call [] [] (.seq (.a) (.seq (.reg [0,0,2,7,0,31,63,127] (ra 0 8 ([])) (.s [6] []::za 3 (.s [2] []::za 3 ([]))) (.a)) (.a))) (.a))) (.a))))))) (.a)))) (.a))) (.reg [0,0,0,0,12,28,62,127,255] (ra 0 9 ([])) [.s [2] [],.s [6] [],.s [1] [],z0,.s [3] [],.s [3] [],z0,z0,.s [2] [2]] (.a)))))))) (.a))) (.a))) (.a)))))) (.a)))) (.seq (.reg [0,1,0,3,15] [0,1,2,3,4] [.s [1] [],.s [3] [3],.s [2] [],.s [1] [1],.s [2] [2]] (.a)) (.a))))
def m139:(List Int×List Int)→Option (List Int×List Int) :=
 fun x=>(mkM (lenM x.1) (lenM x.1) (nat_lit 8) 0).bind fun r=>(loopM (fun (s:Int×List Int×List Int)=>bif leM 0 s.1 then (idxM x.1 s.1).bind fun r_1
 => (appM (nat_lit 8) [r_1] s.2.1).bind fun r_2=>(m145 r_2).bind fun r_3=>((loopM (fun (s_1:Int×Int)=>bif ltM s_1.1 s_1.2 then (shrM IntKind.u64
 (wrap IntKind.u64 (wrap .i64 (s_1.1+s_1.2))) 1).bind fun r_4=>(m171 (x.2,wrap .i64 (wrap .i64 r_4+1))).bind fun r_5=>(m116 (r_5,
 r_3)).bind fun r=>bif PE.notM (ltM 0 r) then some (Sum.inl (wrap .i64 (wrap .i64 r_4+1),s_1.2)) else some (Sum.inl (s_1.1,wrap IntKind.i64
 r_4)) else some (Sum.inr s_1.1)) (0,9999)).bind fun o=>some o).bind fun (ov:Int)=>(chkM s.1 (lenM s.2.2)).bind fun r_4=>(setM s.2.2 s.1 fun (x:Int)
 => some ov).bind fun r_5=>(chkM s.1 (lenM r_5)).bind fun r_6=>(idxM r_5 s.1).bind fun r_7=>(m171 (x.2,r_7)).bind fun r_8=>(m117 (r_3,r_8)).bind fun
 r=>some (Sum.inl (wrap .i64 (s.1-1),r,r_5)) else some (Sum.inr (s.2.1,s.2.2))) (wrap .i64 (lenM x.1-1),[],r)).bind fun o=>(m145
 o.2).bind fun r=>some (r,o.1)
theorem c139:SpecOK Tryz.prog 139 ⟨as139,rs139,m139⟩ :=
 fc tabs171OK [] an139 Tryz.f139 fun x=>by kernel_rfl
def tabs139:Tabs:=Tabs.add tabs171 139 ⟨as139,rs139,m139⟩
theorem tabs139OK:TabOK Tryz.prog tabs139:=TabOK.add tabs171OK c139 Tryz.call139

/-! putlog/integer.Gcd -/
def as109:List Ty:=[.str,.str]
def rs109:List Ty:=[.str,tI]
def an109:Ann:=.seq (.a) (.seq (.a) (.seq (.a) (.seq (.reg [0,1,0,4,3,31] (ra 0 6 ([])) [z0,.s [0] [],z0,.s [1] [],z0,z0] (.a)) (.seq (.block (.loop ⟨[(9,.r (.c (.d (.d tL)))),(10,.r (.c (.d (.d tL))))],(11::12::ra 26 11 ([])),[],[]⟩ [(.exit 0,⟨[(9,.r (.c (.d (.d tL))))],(10::11::12::ra 26 11 ([])),[],[]⟩)] (.a))) (.a)))))
def m109:(List UInt8×List UInt8)→Option (List UInt8×Int) :=
 fun x=>(m83 (x.1,x.2)).bind fun r=>bif PE.notM r.2.2 then some ([],30) else (loopM (fun (s:List Int×List Int)=>bif ltM 0 (lenM s.2) then (m139 (s.1,
 s.2)).bind fun r=>some (Sum.inl (s.2,r.2)) else some (Sum.inr s.1)) (r.1.2,r.2.1.2)).bind fun o=>(m85 (false,o)).bind fun r=>some (r.1,r.2)
theorem c109:SpecOK Tryz.prog 109 ⟨as109,rs109,m109⟩ :=
 fc tabs139OK [] an109 Tryz.f109 fun x=>by kernel_rfl
def tabs109:Tabs:=Tabs.add tabs139 109 ⟨as109,rs109,m109⟩
theorem tabs109OK:TabOK Tryz.prog tabs109:=TabOK.add tabs139OK c109 Tryz.call109

/-! putlog/integer.one -/
def as174:List Ty:=[]
def rs174:List Ty:=[tL]
def an174:Ann:=.a
def m174:Unit→Option (List Int) :=
 fun x=>some [1]
theorem c174:SpecOK Tryz.prog 174 ⟨as174,rs174,m174⟩ :=
 fc tabs109OK [] an174 Tryz.f174 fun x=>by kernel_rfl
def tabs174:Tabs:=Tabs.add tabs109 174 ⟨as174,rs174,m174⟩
theorem tabs174OK:TabOK Tryz.prog tabs174:=TabOK.add tabs109OK c174 Tryz.call174

/-! putlog/integer.Div -/
def as141:List Ty:=[.str,.str]
def rs141:List Ty:=[.str,.str,tI]
def an141:Ann:=.seq (.a) (.seq (.a) (.seq (.a) (.seq (.a) (.seq (.join [(.norm,⟨[(10,.r (.c (.d (.d tL)))),(11,.r (.c (.d (.d tL))))],(ra 39 14 ([])),[],[]⟩)] (.seq (.a) (.cond (.reg [0,0,3,0,8,0,63,127,255] (ra 0 9 ([])) (za 4 (.s [1] []::za 4 ([]))) (.a)) (.a)))) (.a)))))
def m141:(List UInt8×List UInt8)→Option (List UInt8×List UInt8×Int) :=
 fun x=>(m83 (x.1,x.2)).bind fun r=>bif PE.orM (PE.notM r.2.2) (eqM (lenM r.2.1.2) 0) then some ([],[],30) else (m139 (r.1.2,r.2.1.2)).bind fun r_1 =>
 (bif PE.andM r.1.1 (ltM 0 (lenM r_1.2)) then (m174 ()).bind fun r_2=>(m115 (r_1.1,r_2)).bind fun r_3=>(m117 (r.2.1.2,r_1.2)).bind fun r=>some (r_3,r)
 else some (r_1.1,r_1.2)).bind fun o=>(m85 (PE.notM (eqbM r.1.1 r.2.1.1),o.1)).bind fun r_2=>bif PE.notM (eqM r_2.2 0) then some ([],[],r_2.2) else
 (m85 (false,o.2)).bind fun r=>some (r_2.1,r.1,0)
theorem c141:SpecOK Tryz.prog 141 ⟨as141,rs141,m141⟩ :=
 fc tabs174OK [] an141 Tryz.f141 fun x=>by kernel_rfl
def tabs141:Tabs:=Tabs.add tabs174 141 ⟨as141,rs141,m141⟩
theorem tabs141OK:TabOK Tryz.prog tabs141:=TabOK.add tabs174OK c141 Tryz.call141

/-! (*putlog/rational.work).quotient$1 -/
def as140:List Ty:=[.str,.str]
def rs140:List Ty:=[.str,tI]
def an140:Ann:=.a
def m140:(List UInt8×List UInt8)→Option (List UInt8×Int) :=
 fun x=>(m141 (x.1,x.2)).bind fun r=>some (r.1,r.2.2)
theorem c140:SpecOK Tryz.prog 140 ⟨as140,rs140,m140⟩ :=
 fc tabs141OK [] an140 Tryz.f140 fun x=>by kernel_rfl
def tabs140:Tabs:=Tabs.add tabs141 140 ⟨as140,rs140,m140⟩
theorem tabs140OK:TabOK Tryz.prog tabs140:=TabOK.add tabs141OK c140 Tryz.call140

/-! putlog/rational.Make -/
def as56:List Ty:=[.str,.str]
def rs56:List Ty:=[(.pair .str .str),tI]
def an56:Ann:=.seq (.a) (.seq (.a) (.seq (.reg [] [] [z0,z0,z0,.r,z0,z0,.s [0] [0],z0] (.call [] [(.norm,⟨[(20,.t [.s [.d (.d .str),.d (.d .str)],.c (.d (.d tI))])],[],[(1,.box [.d (.d .bool)])],[]⟩)] (.seq (.a) (.seq (.a) (.seq (.join [(.norm,⟨[(1,.r (.c (.d (.d .str)))),(2,.r (.c (.d (.d .str))))],(ra 19 9 ([])),[(1,.box [.d (.d .bool)])],[]⟩)] (.seq (.a) (.cond (.reg [] [] [z0,z0,.r,z0,z0,.r,z0,z0] (.call [] [(.norm,⟨[(24,.r (.c (.d (.d .str))))],[],[(1,.box [.d (.d .bool)])],[]⟩)] (.seq (.a) (.a)) (.call [] [(.norm,⟨[(27,.r (.c (.d (.d .str))))],[],[(1,.box [.d (.d .bool)])],[]⟩)] (.seq (.a) (.a)) (.a)))) (.a)))) (.seq (.reg [] [] [z0,z0,z0,.r,z0] (.call [] [(.norm,⟨[(31,.r (.c (.d (.d .str))))],[],[(1,.box [.d (.d .bool)])],[]⟩)] (.seq (.a) (.a)) (.a))) (.seq (.reg [] [] [z0,z0,z0,.r,z0,z0,z0,.r,z0,.s [] [3],.s [3] [3]] (.call [] [] (.seq (.a) (.seq (.reg [] [] [z0,z0,z0,.r,z0] (.call [] [(.norm,⟨[(10,.r (.c (.d (.d .str))))],[],[(1,.box [.d (.d .bool)])],[]⟩)] (.seq (.a) (.a)) (.a))) (.a))) (.call [] [] (.seq (.a) (.seq (.reg [] [] [z0,z0,z0,.r,z0] (.call [] [(.norm,⟨[(10,.r (.c (.d (.d .str))))],[],[(1,.box [.d (.d .bool)])],[]⟩)] (.seq (.a) (.a)) (.a))) (.a))) (.a)))) (.a)))))) (.a))) (.a)))
def m56:(List UInt8×List UInt8)→Option ((List UInt8×List UInt8)×Int) :=
 fun x=>(m76 x.1).bind fun r=>(bif PE.notM (PE.notM r) then m76 x.2 else some false).bind fun r_1=>(bif PE.orM (PE.orM (PE.notM r) (PE.notM r_1)) (eqsM x.2
 [(48:UInt8)]) then some ([],[],40,PE.orM (PE.notM r) (PE.notM r_1)) else ((m107 (x.2,[(48:UInt8)])).bind fun r_2=>bif ltM r_2 0 then (bif PE.orM
 (PE.notM r) (PE.notM r_1) then some ([],PE.orM (PE.notM r) (PE.notM r_1)) else (m108 ([(48:UInt8)],x.1)).bind fun r=>some (r.1,PE.notM (eqM r.2
 0))).bind fun (ov:List UInt8×Bool)=>(bif ov.2 then some ([],ov.2) else (m108 ([(48:UInt8)],x.2)).bind fun r=>some (r.1,PE.notM (eqM r.2 0))).bind
 fun (ov_1:List UInt8×Bool)=>some (ov.1,ov_1.1,ov_1.2) else some (x.1,x.2,PE.orM (PE.notM r) (PE.notM r_1))).bind fun o=>(bif o.2.2 then some ([],
 o.2.2) else (m109 (o.1,o.2.1)).bind fun r=>some (r.1,PE.notM (eqM r.2 0))).bind fun (ov:List UInt8×Bool)=>(bif ov.2 then some ([],ov.2) else (m140
 (o.1,ov.1)).bind fun r=>some (r.1,PE.notM (eqM r.2 0))).bind fun (ov_1:List UInt8×Bool)=>(bif ov_1.2 then some ([],ov_1.2) else (m140 (o.2.1,
 ov.1)).bind fun r=>some (r.1,PE.notM (eqM r.2 0))).bind fun (ov:List UInt8×Bool)=>bif ov.2 then some ([],[],40,ov.2) else some (ov_1.1,ov.1,0,
 ov.2)).bind fun (ov:List UInt8×List UInt8×Int×Bool)=>some ((ov.1,ov.2.1),ov.2.2.1)
theorem c56:SpecOK Tryz.prog 56 ⟨as56,rs56,m56⟩ :=
 fc tabs140OK [] an56 Tryz.f56 fun x=>by kernel_rfl
def tabs56:Tabs:=Tabs.add tabs140 56 ⟨as56,rs56,m56⟩
theorem tabs56OK:TabOK Tryz.prog tabs56:=TabOK.add tabs140OK c56 Tryz.call56

/-! putlog/rational.Of -/
def as29:List Ty:=[tI,tI]
def rs29:List Ty:=[(.pair .str .str),tI]
def an29:Ann:=.a
def m29:(Int×Int)→Option ((List UInt8×List UInt8)×Int) :=
 fun x=>(m57 x.1).bind fun r=>(m57 x.2).bind fun r_1=>(m56 (r,r_1)).bind fun r=>some ((r.1.1,r.1.2),r.2)
theorem c29:SpecOK Tryz.prog 29 ⟨as29,rs29,m29⟩ :=
 fc tabs56OK [] an29 Tryz.f29 fun x=>by kernel_rfl
def tabs29:Tabs:=Tabs.add tabs56 29 ⟨as29,rs29,m29⟩
theorem tabs29OK:TabOK Tryz.prog tabs29:=TabOK.add tabs56OK c29 Tryz.call29

/-! putlog/field.left -/
def as33:List Ty:=[tP,tP,tB]
def rs33:List Ty:=[tI]
def an33:Ann:=.a
def m33:((Int×Int)×(Int×Int)×Int×Int×Int)→Option (Int) :=
 fun x=>some (wrap .i64 (wrap .i64 (wrap .i64 (x.2.1.1-x.1.1)*wrap .i64 (x.2.2.2.1-wrap .i64 (x.1.2*x.2.2.2.2))) -
 wrap .i64 (wrap .i64 (x.2.1.2-x.1.2)*wrap .i64 (x.2.2.1-wrap .i64 (x.1.1*x.2.2.2.2)))))
theorem c33:SpecOK Tryz.prog 33 ⟨as33,rs33,m33⟩ :=
 fc tabs29OK [] an33 Tryz.f33 fun x=>by kernel_rfl
def tabs33:Tabs:=Tabs.add tabs29 33 ⟨as33,rs33,m33⟩
theorem tabs33OK:TabOK Tryz.prog tabs33:=TabOK.add tabs29OK c33 Tryz.call33

/-! putlog/field.gcd -/
def as79:List Ty:=[tI,tI]
def rs79:List Ty:=[tI]
def an79:Ann:=.seq (.a) (.seq (.block (.loop ⟨[(0,.r (.c (.d (.d tI)))),(1,.r (.c (.d (.d tI))))],(ra 5 6 ([])),[],[]⟩ [(.exit 0,⟨[(0,.r (.c (.d (.d tI))))],(1::ra 5 6 ([])),[],[]⟩)] (.seq (.a) (.block (.reg [0,0,0,6,3,31] (ra 0 6 ([])) (za 6 ([])) (.a)))))) (.a))
def m79:(Int×Int)→Option (Int) :=
 fun x=>(loopM (fun (s:Int×Int)=>bif PE.notM (eqM s.2 0) then (remM s.1 s.2).bind fun r=>some (Sum.inl (s.2,r)) else some (Sum.inr s.1)) (x.1,
 x.2)).bind fun o=>some (max o (wrap .i64 (negM o)))
theorem c79:SpecOK Tryz.prog 79 ⟨as79,rs79,m79⟩ :=
 fc tabs33OK [] an79 Tryz.f79 fun x=>by kernel_rfl
def tabs79:Tabs:=Tabs.add tabs33 79 ⟨as79,rs79,m79⟩
theorem tabs79OK:TabOK Tryz.prog tabs79:=TabOK.add tabs33OK c79 Tryz.call79

/-! putlog/field.reduced -/
def as60:List Ty:=[tB]
def rs60:List Ty:=[tB]
def an60:Ann:=.seq (.a) (.seq (.reg [0,1,0,4,15,0,32,127,255] (ra 0 9 ([])) [z0,.s [0] [],z0,.s [0] [],z0,z0,.s [0] [],z0,z0] (.a)) (.seq (.join [(.norm,⟨[(3,.r (.c (.d (.d tI))))],[12,13,14,15,16],[],[]⟩)] (.a)) (.seq (.reg [0,1,0,7,0,16,0,112,0,256,0,1792,4095,8191] (ra 0 14 ([])) (z0::.s [0] []::za 3 (.s [0] []::za 3 (.s [0] []::za 3 (.s [1] [1]::[])))) (.a)) (.a))))
def m60:(Int×Int×Int)→Option (Int×Int×Int) :=
 fun x=>(m79 (x.1,x.2.1)).bind fun r=>(m79 (r,x.2.2)).bind fun r_1=>(bif ltM x.2.2 0 then some (wrap .i64 (negM r_1)) else some r_1).bind fun o =>
 (divM .i64 x.1 o).bind fun r_2=>(divM .i64 x.2.1 o).bind fun r_3=>(divM .i64 x.2.2 o).bind fun r=>some (r_2,r_3,r)
theorem c60:SpecOK Tryz.prog 60 ⟨as60,rs60,m60⟩ :=
 fc tabs79OK [] an60 Tryz.f60 fun x=>by kernel_rfl
def tabs60:Tabs:=Tabs.add tabs79 60 ⟨as60,rs60,m60⟩
theorem tabs60OK:TabOK Tryz.prog tabs60:=TabOK.add tabs79OK c60 Tryz.call60

/-! putlog/rational.Valid -/
def as112:List Ty:=[(.pair .str .str)]
def rs112:List Ty:=[.bool]
def an112:Ann:=.a
def m112:(List UInt8×List UInt8)→Option (Bool) :=
 fun x=>(m76 x.1).bind fun r=>(bif PE.notM (PE.notM r) then m76 x.2 else some false).bind fun r_1=>(bif PE.notM (PE.orM (PE.notM r) (PE.notM r_1)) then
 m107 (x.2,[(48:UInt8)]) else some 0).bind fun r_2=>bif PE.orM (PE.orM (PE.notM r) (PE.notM r_1)) (leM r_2 0) then some false else (m109 (x.1,x.2)).bind
 fun r=>some (PE.andM (eqM r.2 0) (eqsM r.1 [(49:UInt8)]))
theorem c112:SpecOK Tryz.prog 112 ⟨as112,rs112,m112⟩ :=
 fc tabs60OK [] an112 Tryz.f112 fun x=>by kernel_rfl
def tabs112:Tabs:=Tabs.add tabs60 112 ⟨as112,rs112,m112⟩
theorem tabs112OK:TabOK Tryz.prog tabs112:=TabOK.add tabs60OK c112 Tryz.call112

/-! (putlog/integer.number).times -/
def as143:List Ty:=[tL,tL]
def rs143:List Ty:=[tL]
def an143:Ann:=.seq (.a) (.seq (.a) (.seq (.seq (.reg [] [] [z0,.r] (.call [] [] (.seq (.a) (.a)) (.a))) (.block (.call [] [] (.seq (.a) (.block (.loop ⟨[(3,.r (.c (.d (.d tI))))],(ra 7 12 ([])),[(1,.box [.d (.d tL)]),(3,.lp .ready)],[]⟩ [(.exit 0,⟨[],(3::ra 7 12 ([])),[(1,.box [.d (.d tL)]),(3,.lp .ready)],[]⟩)] (.seq (.a) (.seq (.block (.seq (.reg [] [] [z0,z0,.s [2] [],z0,z0,z0,.r,z0] (.call [] [] (.seq (.a) (.block (.seq (.join [(.norm,⟨[],(ra 12 6 ([])),[(1,.box [.d (.d tL)])],[]⟩)] (.a)) (.reg [0,0,0,6,15,31] (ra 0 6 ([])) (.s [1] []::.s [0] []::za 3 (.s [1] [1]::[])) (.a))))) (.a))) (.a))) (.a)))))) (.a)))) (.a)))
def m143:(List Int×List Int)→Option (List Int) :=
 fun x=>(loopM (fun (s:Int×List Int)=>bif leM 0 s.1 then (idxM x.2 s.1).bind fun r=>(bif ltM 0 (lenM s.2) then (appM (nat_lit 8) [0] s.2).bind fun r =>
 some r else some s.2).bind fun o=>(m171 (x.1,r)).bind fun r_1=>(m115 (o,r_1)).bind fun r=>some (Sum.inl (wrap .i64 (s.1-1),r)) else some
 (Sum.inr s.2)) (wrap .i64 (lenM x.2-1),[])).bind fun o=>some o
theorem c143:SpecOK Tryz.prog 143 ⟨as143,rs143,m143⟩ :=
 fc tabs112OK [] an143 Tryz.f143 fun x=>by kernel_rfl
def tabs143:Tabs:=Tabs.add tabs112 143 ⟨as143,rs143,m143⟩
theorem tabs143OK:TabOK Tryz.prog tabs143:=TabOK.add tabs112OK c143 Tryz.call143

/-! putlog/integer.Mul -/
def as113:List Ty:=[.str,.str]
def rs113:List Ty:=[.str,tI]
def an113:Ann:=.seq (.a) (.seq (.a) (.seq (.a) (.seq (.reg [0,1,0,4,15,0,32,0,128,480,1023,2047,4095,4095,16383,32767] (ra 0 16 ([])) (z0::.s [0] []::z0::.s [1] []::z0::z0::.s [0] []::z0::.s [1] []::za 7 ([])) (.a)) (.a))))
def m113:(List UInt8×List UInt8)→Option (List UInt8×Int) :=
 fun x=>(m83 (x.1,x.2)).bind fun r=>bif PE.notM r.2.2 then some ([],30) else (m143 (r.1.2,r.2.1.2)).bind fun r_1=>(m85 (PE.notM (eqbM r.1.1 r.2.1.1),
 r_1)).bind fun r=>some (r.1,r.2)
theorem c113:SpecOK Tryz.prog 113 ⟨as113,rs113,m113⟩ :=
 fc tabs143OK [] an113 Tryz.f113 fun x=>by kernel_rfl
def tabs113:Tabs:=Tabs.add tabs143 113 ⟨as113,rs113,m113⟩
theorem tabs113OK:TabOK Tryz.prog tabs113:=TabOK.add tabs143OK c113 Tryz.call113

/-! putlog/integer.Add -/
def as62:List Ty:=[.str,.str]
def rs62:List Ty:=[.str,tI]
def an62:Ann:=.a
def m62:(List UInt8×List UInt8)→Option (List UInt8×Int) :=
 fun x=>(m83 (x.1,x.2)).bind fun r=>bif PE.notM r.2.2 then some ([],30) else (m84 ((r.1.1,r.1.2),r.2.1.1,r.2.1.2)).bind fun r_1=>(m85 (r_1.1,
 r_1.2)).bind fun r=>some (r.1,r.2)
theorem c62:SpecOK Tryz.prog 62 ⟨as62,rs62,m62⟩ :=
 fc tabs113OK [] an62 Tryz.f62 fun x=>by kernel_rfl
def tabs62:Tabs:=Tabs.add tabs113 62 ⟨as62,rs62,m62⟩
theorem tabs62OK:TabOK Tryz.prog tabs62:=TabOK.add tabs113OK c62 Tryz.call62

/-! putlog/rational.Add -/
def as34:List Ty:=[(.pair .str .str),(.pair .str .str)]
def rs34:List Ty:=[(.pair .str .str),tI]
def an34_0:Ann:=.seq (.a) (.seq (.reg [] [] [z0,z0,z0,.r,z0] (.call [] [(.norm,⟨[(10,.r (.c (.d (.d .str))))],[],[(6,.box [.d (.d .bool)])],[]⟩)] (.seq (.a) (.a)) (.a))) (.a))
def an34:Ann:=.seq (.a) (.seq (.reg [] [] [.s [0] [],.s [1] [],.r,z0,z0,.s [2] [2],z0] (.call [] [] (.seq (.a) (.seq (.a) (.seq (.reg [] [] [z0,.s [3] [],.s [4] [],z0,.r] (.call [] [] (.seq (.a) (.block (.loop ⟨[(8,.r (.c (.d (.d tI))))],(5::ra 9 16 ([])),[(6,.box [.d (.d .bool)])],[]⟩ [(.exit 0,⟨[],(5::ra 8 17 ([])),[(6,.box [.d (.d .bool)])],[]⟩)] (.a)))) (.a))) (.seq (.reg [0,0,0,0,8,0,32,124,0,0,512,0,2048,8188,16383,32767] (ra 0 16 ([])) [z0,z0,z0,z0,.s [3] [],z0,.s [4] [],.k [6],z0,z0,.s [4] [],z0,.s [3] [],.k [6],.k [6],z0] (.kp [] ⟨[(24,.r (.c (.d (.d .str))))],[],[(6,.box [.d (.d .bool)])],[]⟩ an34_0 (.kp [] ⟨[(30,.r (.c (.d (.d .str))))],[],[(6,.box [.d (.d .bool)])],[]⟩ an34_0 (.kp [] ⟨[(31,.r (.c (.d (.d .str))))],[],[(6,.box [.d (.d .bool)])],[]⟩ (.seq (.a) (.a)) (.a))))) (.seq (.reg [] [] [z0,z0,z0,z0,.s [3] [],z0,.s [4] [],.r,.r,z0,z0,.s [5] [5],z0] (.call [] [] an34_0 (.call [] [(.norm,⟨[(40,.t [.s [.d (.d .str),.d (.d .str)],.c (.d (.d tI))])],[],[(6,.box [.d (.d .bool)])],[]⟩)] (.seq (.a) (.seq (.a) (.seq (.join [(.norm,⟨[(1,.r (.c (.d (.d .str)))),(2,.r (.c (.d (.d .str))))],(ra 19 9 ([])),[(6,.box [.d (.d .bool)])],[]⟩)] (.seq (.a) (.cond (.reg [] [] [z0,z0,.r,z0,z0,.r,z0,z0] (.call [] [(.norm,⟨[(24,.r (.c (.d (.d .str))))],[],[(6,.box [.d (.d .bool)])],[]⟩)] (.seq (.a) (.a)) (.call [] [(.norm,⟨[(27,.r (.c (.d (.d .str))))],[],[(6,.box [.d (.d .bool)])],[]⟩)] (.seq (.a) (.a)) (.a)))) (.a)))) (.seq (.reg [] [] [z0,z0,z0,.r,z0] (.call [] [(.norm,⟨[(31,.r (.c (.d (.d .str))))],[],[(6,.box [.d (.d .bool)])],[]⟩)] (.seq (.a) (.a)) (.a))) (.seq (.reg [] [] [z0,z0,z0,.r,z0,z0,z0,.r,z0,.s [] [8],.s [8] [8]] (.call [] [] an34_0 (.call [] [] an34_0 (.a)))) (.a)))))) (.a)))) (.a)))))) (.a))) (.a))
def m34:((List UInt8×List UInt8)×List UInt8×List UInt8)→Option ((List UInt8×List UInt8)×Int) :=
 fun x=>(loopM (fun (s:Int×Bool)=>bif ltM s.1 (lenM [(x.1.1,x.1.2),(x.2.1,x.2.2)]) then (idxM [(x.1.1,x.1.2),(x.2.1,x.2.2)] s.1).bind fun r=>(bif
 PE.notM s.2 then m112 (r.1,r.2) else some false).bind fun r=>some (Sum.inl (wrap .i64 (s.1+1),PE.orM s.2 (PE.notM r))) else some (Sum.inr s.2))
 (0,false)).bind fun o=>((bif o then some ([],o) else (m113 (x.1.1,x.2.2)).bind fun r=>some (r.1,PE.notM (eqM r.2 0))).bind fun (ov:List UInt8 ×
 Bool)=>some (ov.1,ov.2)).bind fun (ov:List UInt8×Bool)=>((bif ov.2 then some ([],ov.2) else (m113 (x.2.1,x.1.2)).bind fun r=>some (r.1,PE.notM
 (eqM r.2 0))).bind fun (ov:List UInt8×Bool)=>some (ov.1,ov.2)).bind fun (ov_1:List UInt8×Bool)=>(bif ov_1.2 then some ([],ov_1.2) else (m62
 (ov.1,ov_1.1)).bind fun r=>some (r.1,PE.notM (eqM r.2 0))).bind fun (ov_2:List UInt8×Bool)=>(bif ov_2.2 then some ([],ov_2.2) else (m113 (x.1.2,
 x.2.2)).bind fun r=>some (r.1,PE.notM (eqM r.2 0))).bind fun (ov_3:List UInt8×Bool)=>(bif PE.orM ov_3.2 (eqsM ov_3.1 [(48:UInt8)]) then some ([],
 [],40,ov_3.2) else ((m107 (ov_3.1,[(48:UInt8)])).bind fun r=>bif ltM r 0 then (bif ov_3.2 then some ([],ov_3.2) else (m108 ([(48:UInt8)],
 ov_2.1)).bind fun r=>some (r.1,PE.notM (eqM r.2 0))).bind fun (ov_4:List UInt8×Bool)=>(bif ov_4.2 then some ([],ov_4.2) else (m108 ([(48:UInt8)],
 ov_3.1)).bind fun r=>some (r.1,PE.notM (eqM r.2 0))).bind fun (ov:List UInt8×Bool)=>some (ov_4.1,ov.1,ov.2) else some (ov_2.1,ov_3.1,
 ov_3.2)).bind fun o_1=>(bif o_1.2.2 then some ([],o_1.2.2) else (m109 (o_1.1,o_1.2.1)).bind fun r=>some (r.1,PE.notM (eqM r.2 0))).bind fun (ov_4 :
 List UInt8×Bool)=>(bif ov_4.2 then some ([],ov_4.2) else (m140 (o_1.1,ov_4.1)).bind fun r=>some (r.1,PE.notM (eqM r.2 0))).bind fun (ov_5:List
 UInt8×Bool)=>(bif ov_5.2 then some ([],ov_5.2) else (m140 (o_1.2.1,ov_4.1)).bind fun r=>some (r.1,PE.notM (eqM r.2 0))).bind fun (ov:List UInt8 ×
 Bool)=>bif ov.2 then some ([],[],40,ov.2) else some (ov_5.1,ov.1,0,ov.2)).bind fun (ov:List UInt8×List UInt8×Int×Bool)=>some ((ov.1,
 ov.2.1),ov.2.2.1)
theorem c34:SpecOK Tryz.prog 34 ⟨as34,rs34,m34⟩ :=
 fc tabs62OK [] an34 Tryz.f34 fun x=>by kernel_rfl
def tabs34:Tabs:=Tabs.add tabs62 34 ⟨as34,rs34,m34⟩
theorem tabs34OK:TabOK Tryz.prog tabs34:=TabOK.add tabs62OK c34 Tryz.call34

/-! putlog/field.Over -/
def as8:List Ty:=[(.pair tI (.pair tI (.pair tL tL))),tQ]
def rs8:List Ty:=[(.pair .str .str),(.pair .str .str),tI]
def an8_6:Ann:=.call [] [] (.seq (.a) (.seq (.a) (.seq (.a) (.seq (.seq (.a) (.block (.loop ⟨[(17,.r (.c (.d (.d tI))))],(9::10::11::12::13::ra 18 71 ([])),[(24,.box [.h 25])],[.arr tB]⟩ [(.exit 0,⟨[],(9::10::11::12::13::ra 17 72 ([])),[(24,.box [.h 25])],[.arr tB]⟩)] (.seq (.a) (.seq (.a) (.seq (.join [(.norm,⟨[],(9::10::11::12::13::ra 19 69 ([])),[(24,.box [.h 26]),(25,.gone)],[.arr tB]⟩)] (.block (.seq (.a) (.seq (.a) (.seq (.reg [0,0,0,7,0,0,0,127,255,511] (ra 0 10 ([])) (.s [22] []::.s [23] []::.s [26] []::z0::.s [22] []::.s [23] []::.s [27] []::za 3 ([])) (.a)) (.seq (.join [(.norm,⟨[],[38,39,40,41,42],[(24,.box [.h 28]),(25,.gone)],[.arr tB]⟩)] (.seq (.a) (.cond (.reg [] [] [z0,.s [26] [],.r] (.call [] [(.norm,⟨[(42,.t [])],[],[(24,.box [.h 28]),(25,.gone)],[.arr tB]⟩)] (.seq (.a) (.seq (.reg [0,1,3,7,15,15,47,111,255,511,15,2047,4095] (ra 0 13 ([])) [.s [24] [],.s [25] [],z0,z0,.s [24] [],.s [24] [],.s [25] [],z0,.s [25] [],.s [25] [],.s [28] [],z0,z0] (.a)) (.a))) (.a))) (.a)))) (.seq (.a) (.cond (.reg [] [] [z0,z0,.s [26] [],z0,z0,z0,.s [27] [],z0,z0,z0,z0,.s [26] [],z0,z0,z0,.s [27] [],z0,z0,z0,z0,.s [26] [],z0,z0,z0,.s [27] [],z0,z0,z0,z0,z0,.r] (.call [] [(.norm,⟨[(87,.t [])],[],[(24,.box [.h 29]),(28,.gone)],[.arr tB]⟩)] (.seq (.a) (.seq (.reg [0,1,3,7,15,15,47,111,255,511,15,2047,4095] (ra 0 13 ([])) [.s [24] [],.s [28] [],z0,z0,.s [24] [],.s [24] [],.s [28] [],z0,.s [28] [],.s [28] [],.s [29] [],z0,z0] (.a)) (.a))) (.a))) (.a))))))))) (.a))))))) (.a))))) (.a)
def an8_5:Ann:=.call [] [] (.seq (.a) (.seq (.a) (.seq (.a) (.seq (.seq (.a) (.block (.loop ⟨[(17,.r (.c (.d (.d tI))))],(9::10::11::12::13::ra 18 71 ([])),[(28,.box [.h 29])],[.arr tB]⟩ [(.exit 0,⟨[],(9::10::11::12::13::ra 17 72 ([])),[(28,.box [.h 29])],[.arr tB]⟩)] (.seq (.a) (.seq (.a) (.seq (.join [(.norm,⟨[],(9::10::11::12::13::ra 19 69 ([])),[(28,.box [.h 30]),(29,.gone)],[.arr tB]⟩)] (.block (.seq (.a) (.seq (.a) (.seq (.reg [0,0,0,7,0,0,0,127,255,511] (ra 0 10 ([])) (.s [26] []::.s [27] []::.s [30] []::z0::.s [26] []::.s [27] []::.s [31] []::za 3 ([])) (.a)) (.seq (.join [(.norm,⟨[],[38,39,40,41,42],[(28,.box [.h 32]),(29,.gone)],[.arr tB]⟩)] (.seq (.a) (.cond (.reg [] [] [z0,.s [30] [],.r] (.call [] [(.norm,⟨[(42,.t [])],[],[(28,.box [.h 32]),(29,.gone)],[.arr tB]⟩)] (.seq (.a) (.seq (.reg [0,1,3,7,15,15,47,111,255,511,15,2047,4095] (ra 0 13 ([])) [.s [28] [],.s [29] [],z0,z0,.s [28] [],.s [28] [],.s [29] [],z0,.s [29] [],.s [29] [],.s [32] [],z0,z0] (.a)) (.a))) (.a))) (.a)))) (.seq (.a) (.cond (.reg [] [] [z0,z0,.s [30] [],z0,z0,z0,.s [31] [],z0,z0,z0,z0,.s [30] [],z0,z0,z0,.s [31] [],z0,z0,z0,z0,.s [30] [],z0,z0,z0,.s [31] [],z0,z0,z0,z0,z0,.r] (.call [] [(.norm,⟨[(87,.t [])],[],[(28,.box [.h 33]),(32,.gone)],[.arr tB]⟩)] (.seq (.a) (.seq (.reg [0,1,3,7,15,15,47,111,255,511,15,2047,4095] (ra 0 13 ([])) [.s [28] [],.s [32] [],z0,z0,.s [28] [],.s [28] [],.s [32] [],z0,.s [32] [],.s [32] [],.s [33] [],z0,z0] (.a)) (.a))) (.a))) (.a))))))))) (.a))))))) (.a))))) (.a)
def an8_4:Ann:=.seq (.a) (.seq (.a) (.seq (.block (.seq (.a) (.reg [0,0,0,4,12,30,0,64,192,448,960,0,2048,6144,14336,30720,0,131070,262142,524287,1048575] (ra 0 21 ([])) [z0,.s [10] [],z0,.s [17] [],.s [17] [],.k [],z0,z0,z0,.s [17] [],.s [17] [],z0,z0,z0,.s [17] [],.s [17] [],.s [22] [],z0,z0,z0,z0] (.kp [] ⟨[(15,.r (.c (.d (.d tI))))],[],[],[]⟩ (.seq (.a) (.a)) (.a))))) (.a)))
def an8_8:Ann:=.seq (.a) (.seq (.a) (.seq (.seq (.a) (.block (.seq an8_4 (.seq an8_4 (.seq an8_4 (.seq (.a) (.join [] (.a)))))))) (.a)))
def an8_0:Ann:=.join [(.norm,⟨[(8,.r (.c (.h 20)))],(9::ra 28 17 ([])),[],[.arr tB]⟩)] (.seq (.a) (.block (.seq (.seq (.a) (.seq (.a) (.seq (.block (.seq (.a) (.seq (.reg [0,0,2,6,0,16,48,112,240,511,1023] (ra 0 11 ([])) [z0,z0,.s [19] [],.s [19] [],z0,z0,z0,.s [19] [],.s [19] [],.r,z0] (.call [] [] (.seq (.a) (.seq (.a) (.seq (.a) (.seq (.seq (.a) (.block (.loop ⟨[(17,.r (.c (.d (.d tI))))],(9::10::11::12::13::ra 18 71 ([])),[(22,.box [.h 23])],[.arr tB]⟩ [(.exit 0,⟨[],(9::10::11::12::13::ra 17 72 ([])),[(22,.box [.h 23])],[.arr tB]⟩)] (.seq (.a) (.seq (.a) (.seq (.join [(.norm,⟨[],(9::10::11::12::13::ra 19 69 ([])),[(22,.box [.h 24]),(23,.gone)],[.arr tB]⟩)] (.block (.seq (.a) (.seq (.a) (.seq (.reg [0,0,0,7,0,0,0,127,255,511] (ra 0 10 ([])) (.s [20] []::.s [21] []::.s [24] []::z0::.s [20] []::.s [21] []::.s [25] []::za 3 ([])) (.a)) (.seq (.join [(.norm,⟨[],[38,39,40,41,42],[(22,.box [.h 26]),(23,.gone)],[.arr tB]⟩)] (.seq (.a) (.cond (.reg [] [] [z0,.s [24] [],.r] (.call [] [(.norm,⟨[(42,.t [])],[],[(22,.box [.h 26]),(23,.gone)],[.arr tB]⟩)] (.seq (.a) (.seq (.reg [0,1,3,7,15,15,47,111,255,511,15,2047,4095] (ra 0 13 ([])) [.s [22] [],.s [23] [],z0,z0,.s [22] [],.s [22] [],.s [23] [],z0,.s [23] [],.s [23] [],.s [26] [],z0,z0] (.a)) (.a))) (.a))) (.a)))) (.seq (.a) (.cond (.reg [] [] [z0,z0,.s [24] [],z0,z0,z0,.s [25] [],z0,z0,z0,z0,.s [24] [],z0,z0,z0,.s [25] [],z0,z0,z0,z0,.s [24] [],z0,z0,z0,.s [25] [],z0,z0,z0,z0,z0,.r] (.call [] [(.norm,⟨[(87,.t [])],[],[(22,.box [.h 27]),(26,.gone)],[.arr tB]⟩)] (.seq (.a) (.seq (.reg [0,1,3,7,15,15,47,111,255,511,15,2047,4095] (ra 0 13 ([])) [.s [22] [],.s [26] [],z0,z0,.s [22] [],.s [22] [],.s [26] [],z0,.s [26] [],.s [26] [],.s [27] [],z0,z0] (.a)) (.a))) (.a))) (.a))))))))) (.a))))))) (.a))))) (.a))) (.a)))) (.a)))) (.seq (.seq (.a) (.seq (.a) (.seq (.block (.seq (.a) (.seq (.reg [0,0,2,6,0,16,48,112,240,511,1023] (ra 0 11 ([])) [z0,z0,.s [19] [],.s [19] [],z0,z0,z0,.s [19] [],.s [19] [],.r,z0] (.call [] [] (.seq (.a) (.seq (.a) (.seq (.a) (.seq (.seq (.a) (.block (.loop ⟨[(17,.r (.c (.d (.d tI))))],(9::10::11::12::13::ra 18 71 ([])),[(26,.box [.h 27])],[.arr tB]⟩ [(.exit 0,⟨[],(9::10::11::12::13::ra 17 72 ([])),[(26,.box [.h 27])],[.arr tB]⟩)] (.seq (.a) (.seq (.a) (.seq (.join [(.norm,⟨[],(9::10::11::12::13::ra 19 69 ([])),[(26,.box [.h 28]),(27,.gone)],[.arr tB]⟩)] (.block (.seq (.a) (.seq (.a) (.seq (.reg [0,0,0,7,0,0,0,127,255,511] (ra 0 10 ([])) (.s [24] []::.s [25] []::.s [28] []::z0::.s [24] []::.s [25] []::.s [29] []::za 3 ([])) (.a)) (.seq (.join [(.norm,⟨[],[38,39,40,41,42],[(26,.box [.h 30]),(27,.gone)],[.arr tB]⟩)] (.seq (.a) (.cond (.reg [] [] [z0,.s [28] [],.r] (.call [] [(.norm,⟨[(42,.t [])],[],[(26,.box [.h 30]),(27,.gone)],[.arr tB]⟩)] (.seq (.a) (.seq (.reg [0,1,3,7,15,15,47,111,255,511,15,2047,4095] (ra 0 13 ([])) [.s [26] [],.s [27] [],z0,z0,.s [26] [],.s [26] [],.s [27] [],z0,.s [27] [],.s [27] [],.s [30] [],z0,z0] (.a)) (.a))) (.a))) (.a)))) (.seq (.a) (.cond (.reg [] [] [z0,z0,.s [28] [],z0,z0,z0,.s [29] [],z0,z0,z0,z0,.s [28] [],z0,z0,z0,.s [29] [],z0,z0,z0,z0,.s [28] [],z0,z0,z0,.s [29] [],z0,z0,z0,z0,z0,.r] (.call [] [(.norm,⟨[(87,.t [])],[],[(26,.box [.h 31]),(30,.gone)],[.arr tB]⟩)] (.seq (.a) (.seq (.reg [0,1,3,7,15,15,47,111,255,511,15,2047,4095] (ra 0 13 ([])) [.s [26] [],.s [30] [],z0,z0,.s [26] [],.s [26] [],.s [30] [],z0,.s [30] [],.s [30] [],.s [31] [],z0,z0] (.a)) (.a))) (.a))) (.a))))))))) (.a))))))) (.a))))) (.a))) (.a)))) (.a)))) (.seq (.seq (.a) (.seq (.a) (.seq (.block (.seq (.a) (.seq (.reg [0,0,2,6,0,16,48,112,240,511,1023] (ra 0 11 ([])) [z0,z0,.s [19] [],.s [19] [],z0,z0,z0,.s [19] [],.s [19] [],.r,z0] (.call [] [] (.seq (.a) (.seq (.a) (.seq (.a) (.seq (.seq (.a) (.block (.loop ⟨[(17,.r (.c (.d (.d tI))))],(9::10::11::12::13::ra 18 71 ([])),[(30,.box [.h 31])],[.arr tB]⟩ [(.exit 0,⟨[],(9::10::11::12::13::ra 17 72 ([])),[(30,.box [.h 31])],[.arr tB]⟩)] (.seq (.a) (.seq (.a) (.seq (.join [(.norm,⟨[],(9::10::11::12::13::ra 19 69 ([])),[(30,.box [.h 32]),(31,.gone)],[.arr tB]⟩)] (.block (.seq (.a) (.seq (.a) (.seq (.reg [0,0,0,7,0,0,0,127,255,511] (ra 0 10 ([])) (.s [28] []::.s [29] []::.s [32] []::z0::.s [28] []::.s [29] []::.s [33] []::za 3 ([])) (.a)) (.seq (.join [(.norm,⟨[],[38,39,40,41,42],[(30,.box [.h 34]),(31,.gone)],[.arr tB]⟩)] (.seq (.a) (.cond (.reg [] [] [z0,.s [32] [],.r] (.call [] [(.norm,⟨[(42,.t [])],[],[(30,.box [.h 34]),(31,.gone)],[.arr tB]⟩)] (.seq (.a) (.seq (.reg [0,1,3,7,15,15,47,111,255,511,15,2047,4095] (ra 0 13 ([])) [.s [30] [],.s [31] [],z0,z0,.s [30] [],.s [30] [],.s [31] [],z0,.s [31] [],.s [31] [],.s [34] [],z0,z0] (.a)) (.a))) (.a))) (.a)))) (.seq (.a) (.cond (.reg [] [] [z0,z0,.s [32] [],z0,z0,z0,.s [33] [],z0,z0,z0,z0,.s [32] [],z0,z0,z0,.s [33] [],z0,z0,z0,z0,.s [32] [],z0,z0,z0,.s [33] [],z0,z0,z0,z0,z0,.r] (.call [] [(.norm,⟨[(87,.t [])],[],[(30,.box [.h 35]),(34,.gone)],[.arr tB]⟩)] (.seq (.a) (.seq (.reg [0,1,3,7,15,15,47,111,255,511,15,2047,4095] (ra 0 13 ([])) [.s [30] [],.s [34] [],z0,z0,.s [30] [],.s [30] [],.s [34] [],z0,.s [34] [],.s [34] [],.s [35] [],z0,z0] (.a)) (.a))) (.a))) (.a))))))))) (.a))))))) (.a))))) (.a))) (.a)))) (.a)))) (.seq (.a) (.join [] (.a))))))))
def an8_7:Ann:=.reg [0,1,3,0,0,16,56,120,0,0,768,1792,0,0,0,28679,61695,131071] (ra 0 18 ([])) (z0::.s [20] []::.s [20] []::za 3 (.s [20] []::.s [20] []::z0::z0::.s [20] []::.s [20] []::.s [] [21]::.s [] [22]::.s [] [23]::.s [21] [21]::.s [22] [22]::.s [23] [23]::[])) (.a)
def an8_3:Ann:=.seq (.a) (.seq (.a) (.seq (.block (.seq (.a) (.reg [0,0,0,4,12,30,0,64,192,448,960,0,2048,6144,14336,30720,0,131070,262142,524287,1048575] (ra 0 21 ([])) [z0,.s [10] [],z0,.s [19] [],.s [19] [],.k [],z0,z0,z0,.s [19] [],.s [19] [],z0,z0,z0,.s [19] [],.s [19] [],.s [24] [],z0,z0,z0,z0] (.kp [] ⟨[(15,.r (.c (.d (.d tI))))],[],[],[]⟩ (.seq (.a) (.a)) (.a))))) (.a)))
def an8_9:Ann:=.seq (.a) (.seq (.a) (.seq (.seq (.a) (.block (.seq an8_3 (.seq an8_3 (.seq an8_3 (.seq (.a) (.join [] (.a)))))))) (.a)))
def an8_2:Ann:=.seq (.a) (.seq (.a) (.seq (.block (.seq (.a) (.reg [0,0,0,4,12,30,0,64,192,448,960,0,2048,6144,14336,30720,0,131070,262142,524287,1048575] (ra 0 21 ([])) [z0,.s [12] [],z0,.s [19] [],.s [19] [],.k [],z0,z0,z0,.s [19] [],.s [19] [],z0,z0,z0,.s [19] [],.s [19] [],.s [24] [],z0,z0,z0,z0] (.kp [] ⟨[(15,.r (.c (.d (.d tI))))],[],[],[]⟩ (.seq (.a) (.a)) (.a))))) (.a)))
def an8_10:Ann:=.seq (.a) (.seq (.a) (.seq (.seq (.a) (.block (.seq an8_2 (.seq an8_2 (.seq an8_2 (.seq (.a) (.join [] (.a)))))))) (.a)))
def an8_1:Ann:=.seq (.a) (.seq (.a) (.seq (.block (.seq (.a) (.reg [0,0,0,4,12,30,0,64,192,448,960,0,2048,6144,14336,30720,0,131070,262142,524287,1048575] (ra 0 21 ([])) [z0,.s [12] [],z0,.s [21] [],.s [21] [],.k [],z0,z0,z0,.s [21] [],.s [21] [],z0,z0,z0,.s [21] [],.s [21] [],.s [26] [],z0,z0,z0,z0] (.kp [] ⟨[(15,.r (.c (.d (.d tI))))],[],[],[]⟩ (.seq (.a) (.a)) (.a))))) (.a)))
def an8_11:Ann:=.seq (.a) (.seq (.a) (.seq (.seq (.a) (.block (.seq an8_1 (.seq an8_1 (.seq an8_1 (.seq (.a) (.join [] (.a)))))))) (.a)))
def an8:Ann:=.seq (.a) (.seq (.a) (.seq (.seq (.reg [] [] [.s [0] [],z0,z0,z0,z0,z0,z0,z0,z0,z0,z0,.k [],z0] (.call [] [(.norm,⟨[(25,.r (.c (.d (.d .bool))))],[],[],[]⟩)] (.seq (.a) (.seq (.reg [] [] [z0,z0,.r,z0,z0] (.call [] [(.norm,⟨[(7,.r (.c (.d (.d tI))))],[],[],[]⟩)] (.seq (.a) (.seq (.seq (.a) (.block (.loop ⟨[(8,.r (.c (.d (.d tI))))],(5::ra 9 8 (18::[])),[],[]⟩ [(.exit 0,⟨[],(5::ra 8 9 (18::[])),[],[]⟩),(.ret,⟨[(4,.r (.c (.d (.d tI))))],(5::ra 8 11 ([])),[],[]⟩)] (.seq (.a) (.seq (.a) (.seq (.block (.seq (.a) (.seq (.reg [] [] [z0,z0,z0,z0,z0,.r] (.call [] [] (.seq (.a) (.a)) (.a))) (.a)))) (.a))))))) (.a))) (.a))) (.a))) (.a))) (.a)) (.seq (.a) (.seq (.seq (.a) (.block (.loop ⟨[(31,.r (.c (.d (.d tI))))],(10::ra 32 12 ([])),[(3,.box [.h 4])],[.arr tB]⟩ [(.exit 0,⟨[],(10::ra 31 13 ([])),[(3,.box [.h 4])],[.arr tB]⟩)] (.a)))) (.seq (.reg [] [] [.s [0] [],z0,.r,z0,z0,z0,.s [] [12],.s [] [13],.s [12] [12],.s [13] [13]] (.call [] [] (.seq (.a) (.seq (.reg [0,0,0,4,14,31,0,0,0,256,959,2047,4095,8191] (ra 0 14 ([])) [z0,.s [5] [],z0,.s [5] [],.k [8,9],.k [],z0,.s [5] [],z0,.s [5] [],.k [10,11],.k [],.s [6] [6],.s [7] [7]] (.kp [] ⟨[(10,.r (.c (.f 75 [] [.p 8 0,.p 9 0])))],[],[],[.box [.d (.d tL)],.box [.d (.d tI),.d (.d tI),.d (.d tL),.d (.d tL)]]⟩ (.seq (.a) (.a)) (.kp [] ⟨[(11,.r (.s [.d (.d .str),.d (.d .str)]))],[],[],[]⟩ (.seq (.a) (.seq (.a) (.seq (.seq (.reg [] [] [.s [0] [],.r] (.call [] [] (.seq (.a) (.a)) (.a))) (.block (.call [] [] (.seq (.a) (.block (.loop ⟨[(9,.r (.c (.d (.d tI))))],(3::4::5::6::ra 10 39 ([])),[(12,.box [.d (.d .str),.d (.d .str)]),(14,.lp .ready)],[]⟩ [(.exit 0,⟨[],(3::4::5::6::ra 9 40 ([])),[(12,.box [.d (.d .str),.d (.d .str)]),(14,.lp .ready)],[]⟩)] (.seq (.a) (.seq (.a) (.seq (.block (.seq (.a) (.seq (.a) (.block (.loop ⟨[(14,.r (.c (.d (.d tI))))],(4::5::6::ra 15 33 ([])),[(12,.box [.d (.d .str),.d (.d .str)]),(14,.lp .ready)],[]⟩ [(.exit 2,⟨[],(4::5::6::ra 14 34 ([])),[(12,.box [.d (.d .str),.d (.d .str)]),(14,.lp .ready)],[]⟩)] (.seq (.a) (.seq (.a) (.seq (.block (.seq (.a) (.seq (.a) (.seq (.reg [] [] [z0,.s [15] [],z0,z0,z0,z0,.s [16] [],z0,.r,z0,z0,z0,.s [15] [],.s [16] [],z0,z0,z0,z0,z0,.r,z0,z0] (.call [] [] (.seq (.a) (.block (.seq (.a) (.seq (.join [(.norm,⟨[(8,.r (.c (.h 18)))],(9::ra 28 17 ([])),[],[.arr tB]⟩)] (.seq (.a) (.block (.seq (.seq (.a) (.seq (.a) (.seq (.block (.seq (.a) (.seq (.reg [0,0,2,6,0,16,48,112,240,511,1023] (ra 0 11 ([])) [z0,z0,.s [17] [],.s [17] [],z0,z0,z0,.s [17] [],.s [17] [],.r,z0] (.call [] [] (.seq (.a) (.seq (.a) (.seq (.a) (.seq (.seq (.a) (.block (.loop ⟨[(17,.r (.c (.d (.d tI))))],(9::10::11::12::13::ra 18 71 ([])),[(20,.box [.h 21])],[.arr tB]⟩ [(.exit 0,⟨[],(9::10::11::12::13::ra 17 72 ([])),[(20,.box [.h 21])],[.arr tB]⟩)] (.seq (.a) (.seq (.a) (.seq (.join [(.norm,⟨[],(9::10::11::12::13::ra 19 69 ([])),[(20,.box [.h 22]),(21,.gone)],[.arr tB]⟩)] (.block (.seq (.a) (.seq (.a) (.seq (.reg [0,0,0,7,0,0,0,127,255,511] (ra 0 10 ([])) (.s [18] []::.s [19] []::.s [22] []::z0::.s [18] []::.s [19] []::.s [23] []::za 3 ([])) (.a)) (.seq (.join [(.norm,⟨[],[38,39,40,41,42],[(20,.box [.h 24]),(21,.gone)],[.arr tB]⟩)] (.seq (.a) (.cond (.reg [] [] [z0,.s [22] [],.r] (.call [] [(.norm,⟨[(42,.t [])],[],[(20,.box [.h 24]),(21,.gone)],[.arr tB]⟩)] (.seq (.a) (.seq (.reg [0,1,3,7,15,15,47,111,255,511,15,2047,4095] (ra 0 13 ([])) [.s [20] [],.s [21] [],z0,z0,.s [20] [],.s [20] [],.s [21] [],z0,.s [21] [],.s [21] [],.s [24] [],z0,z0] (.a)) (.a))) (.a))) (.a)))) (.seq (.a) (.cond (.reg [] [] [z0,z0,.s [22] [],z0,z0,z0,.s [23] [],z0,z0,z0,z0,.s [22] [],z0,z0,z0,.s [23] [],z0,z0,z0,z0,.s [22] [],z0,z0,z0,.s [23] [],z0,z0,z0,z0,z0,.r] (.call [] [(.norm,⟨[(87,.t [])],[],[(20,.box [.h 25]),(24,.gone)],[.arr tB]⟩)] (.seq (.a) (.seq (.reg [0,1,3,7,15,15,47,111,255,511,15,2047,4095] (ra 0 13 ([])) [.s [20] [],.s [24] [],z0,z0,.s [20] [],.s [20] [],.s [24] [],z0,.s [24] [],.s [24] [],.s [25] [],z0,z0] (.a)) (.a))) (.a))) (.a))))))))) (.a))))))) (.a))))) (.a))) (.a)))) (.a)))) (.seq (.seq (.a) (.seq (.a) (.seq (.block (.seq (.a) (.seq (.reg [0,0,2,6,0,16,48,112,240,511,1023] (ra 0 11 ([])) [z0,z0,.s [17] [],.s [17] [],z0,z0,z0,.s [17] [],.s [17] [],.r,z0] an8_6) (.a)))) (.a)))) (.seq (.seq (.a) (.seq (.a) (.seq (.block (.seq (.a) (.seq (.reg [0,0,2,6,0,16,48,112,240,511,1023] (ra 0 11 ([])) [z0,z0,.s [17] [],.s [17] [],z0,z0,z0,.s [17] [],.s [17] [],.r,z0] an8_5) (.a)))) (.a)))) (.seq (.a) (.join [] (.a))))))))) (.seq (.a) (.seq (.a) (.block (.loop ⟨[(11,.r (.c (.d (.d tI))))],(ra 12 8 (ra 46 116 ([]))),[(12,.box [.d (.d .str),.d (.d .str)])],[]⟩ [(.exit 4,⟨[],(ra 11 9 (ra 46 116 ([]))),[(12,.box [.d (.d .str),.d (.d .str)])],[]⟩)] (.seq (.a) (.seq (.block (.seq (.reg [0,1,3,0,0,16,56,120,0,0,768,1792,0,0,0,28679,61695,131071] (ra 0 18 ([])) (z0::.s [18] []::.s [18] []::za 3 (.s [18] []::.s [18] []::z0::z0::.s [18] []::.s [18] []::.s [] [19]::.s [] [20]::.s [] [21]::.s [19] [19]::.s [20] [20]::.s [21] [21]::[])) (.a)) (.seq (.a) (.seq (.a) (.seq (.reg [0,0,3,0,8,31,0,64,255,0,0,1543,0,4096,15879,0,32768,130567,262143,0,0,1576455,0,4194304,16256519,0,33554432,133697031,268435455,536870911] (ra 0 30 ([])) [z0,.s [19] [],.k [],z0,.s [20] [],z0,z0,.s [21] [],z0,z0,.s [20] [],.k [],z0,.s [19] [],z0,z0,.s [21] [],z0,z0,z0,.s [21] [],.k [],z0,.s [19] [],z0,z0,.s [20] [],z0,z0,z0] (.kp [] ⟨[(118,.r (.c (.d (.d tI))))],[],[],[]⟩ an8_8 (.kp [] ⟨[(127,.r (.c (.d (.d tI))))],[],[],[]⟩ an8_8 (.kp [] ⟨[(137,.r (.c (.d (.d tI))))],[],[],[]⟩ an8_8 (.a))))) (.a)))))) (.a))))))))))) (.gq z0 (.gq (.s [15] []) (.gq (.s [16] []) (.gq z0 (.gq z0 (.gq z0 (.gq z0 (.gq z0 (.gq (.r) (.call [] [] (.seq (.a) (.block (.seq (.a) (.seq an8_0 (.seq (.a) (.seq (.a) (.block (.loop ⟨[(11,.r (.c (.d (.d tI))))],(ra 12 8 (ra 46 116 ([]))),[(12,.box [.d (.d .str),.d (.d .str)])],[]⟩ [(.exit 4,⟨[],(ra 11 9 (ra 46 116 ([]))),[(12,.box [.d (.d .str),.d (.d .str)])],[]⟩)] (.seq (.a) (.seq (.block (.seq an8_7 (.seq (.a) (.seq (.a) (.seq (.reg [0,0,3,0,8,31,0,64,255,0,0,1543,0,4096,15879,0,32768,130567,262143,0,0,1576455,0,4194304,16256519,0,33554432,133697031,268435455,536870911] (ra 0 30 ([])) [z0,.s [21] [],.k [],z0,.s [22] [],z0,z0,.s [23] [],z0,z0,.s [22] [],.k [],z0,.s [21] [],z0,z0,.s [23] [],z0,z0,z0,.s [23] [],.k [],z0,.s [21] [],z0,z0,.s [22] [],z0,z0,z0] (.kp [] ⟨[(118,.r (.c (.d (.d tI))))],[],[],[]⟩ an8_9 (.kp [] ⟨[(127,.r (.c (.d (.d tI))))],[],[],[]⟩ an8_9 (.kp [] ⟨[(137,.r (.c (.d (.d tI))))],[],[],[]⟩ an8_9 (.a))))) (.a)))))) (.a))))))))))) (.gq z0 (.a) (.a))) (.a)) (.a)) (.a)) (.a)) (.a)) (.a)) (.a)) (.a)) (.a)))) (.a))))) (.a))))))))) (.a))))))) (.a)))) (.a)))) (.kp [] ⟨[(16,.r (.c (.f 75 [] [.p 10 0,.p 11 0])))],[],[],[.box [.d (.d tL)],.box [.d (.d tI),.d (.d tI),.d (.d tL),.d (.d tL)]]⟩ (.seq (.a) (.a)) (.kp [] ⟨[(17,.r (.s [.d (.d .str),.d (.d .str)]))],[],[],[]⟩ (.seq (.a) (.seq (.a) (.seq (.seq (.reg [] [] [.s [0] [],.r] (.call [] [] (.seq (.a) (.a)) (.a))) (.block (.call [] [] (.seq (.a) (.block (.loop ⟨[(9,.r (.c (.d (.d tI))))],(3::4::5::6::ra 10 39 ([])),[(14,.box [.d (.d .str),.d (.d .str)]),(16,.lp .ready)],[]⟩ [(.exit 0,⟨[],(3::4::5::6::ra 9 40 ([])),[(14,.box [.d (.d .str),.d (.d .str)]),(16,.lp .ready)],[]⟩)] (.seq (.a) (.seq (.a) (.seq (.block (.seq (.a) (.seq (.a) (.block (.loop ⟨[(14,.r (.c (.d (.d tI))))],(4::5::6::ra 15 33 ([])),[(14,.box [.d (.d .str),.d (.d .str)]),(16,.lp .ready)],[]⟩ [(.exit 2,⟨[],(4::5::6::ra 14 34 ([])),[(14,.box [.d (.d .str),.d (.d .str)]),(16,.lp .ready)],[]⟩)] (.seq (.a) (.seq (.a) (.seq (.block (.seq (.a) (.seq (.a) (.seq (.reg [] [] [z0,.s [17] [],z0,z0,z0,z0,.s [18] [],z0,.r,z0,z0,z0,.s [17] [],.s [18] [],z0,z0,z0,z0,z0,.r,z0,z0] (.call [] [] (.seq (.a) (.block (.seq (.a) (.seq an8_0 (.seq (.a) (.seq (.a) (.block (.loop ⟨[(11,.r (.c (.d (.d tI))))],(ra 12 8 (ra 46 116 ([]))),[(14,.box [.d (.d .str),.d (.d .str)])],[]⟩ [(.exit 4,⟨[],(ra 11 9 (ra 46 116 ([]))),[(14,.box [.d (.d .str),.d (.d .str)])],[]⟩)] (.seq (.a) (.seq (.block (.seq an8_7 (.seq (.a) (.seq (.a) (.seq (.reg [0,0,3,0,8,31,0,64,255,0,0,1543,0,4096,15879,0,32768,130567,262143,0,0,1576455,0,4194304,16256519,0,33554432,133697031,268435455,536870911] (ra 0 30 ([])) [z0,.s [21] [],.k [],z0,.s [22] [],z0,z0,.s [23] [],z0,z0,.s [22] [],.k [],z0,.s [21] [],z0,z0,.s [23] [],z0,z0,z0,.s [23] [],.k [],z0,.s [21] [],z0,z0,.s [22] [],z0,z0,z0] (.kp [] ⟨[(118,.r (.c (.d (.d tI))))],[],[],[]⟩ an8_10 (.kp [] ⟨[(127,.r (.c (.d (.d tI))))],[],[],[]⟩ an8_10 (.kp [] ⟨[(137,.r (.c (.d (.d tI))))],[],[],[]⟩ an8_10 (.a))))) (.a)))))) (.a))))))))))) (.gq z0 (.gq (.s [17] []) (.gq (.s [18] []) (.gq z0 (.gq z0 (.gq z0 (.gq z0 (.gq z0 (.gq (.r) (.call [] [] (.seq (.a) (.block (.seq (.a) (.seq (.join [(.norm,⟨[(8,.r (.c (.h 22)))],(9::ra 28 17 ([])),[],[.arr tB]⟩)] (.seq (.a) (.block (.seq (.seq (.a) (.seq (.a) (.seq (.block (.seq (.a) (.seq (.reg [0,0,2,6,0,16,48,112,240,511,1023] (ra 0 11 ([])) [z0,z0,.s [21] [],.s [21] [],z0,z0,z0,.s [21] [],.s [21] [],.r,z0] an8_6) (.a)))) (.a)))) (.seq (.seq (.a) (.seq (.a) (.seq (.block (.seq (.a) (.seq (.reg [0,0,2,6,0,16,48,112,240,511,1023] (ra 0 11 ([])) [z0,z0,.s [21] [],.s [21] [],z0,z0,z0,.s [21] [],.s [21] [],.r,z0] an8_5) (.a)))) (.a)))) (.seq (.seq (.a) (.seq (.a) (.seq (.block (.seq (.a) (.seq (.reg [0,0,2,6,0,16,48,112,240,511,1023] (ra 0 11 ([])) [z0,z0,.s [21] [],.s [21] [],z0,z0,z0,.s [21] [],.s [21] [],.r,z0] (.call [] [] (.seq (.a) (.seq (.a) (.seq (.a) (.seq (.seq (.a) (.block (.loop ⟨[(17,.r (.c (.d (.d tI))))],(9::10::11::12::13::ra 18 71 ([])),[(32,.box [.h 33])],[.arr tB]⟩ [(.exit 0,⟨[],(9::10::11::12::13::ra 17 72 ([])),[(32,.box [.h 33])],[.arr tB]⟩)] (.seq (.a) (.seq (.a) (.seq (.join [(.norm,⟨[],(9::10::11::12::13::ra 19 69 ([])),[(32,.box [.h 34]),(33,.gone)],[.arr tB]⟩)] (.block (.seq (.a) (.seq (.a) (.seq (.reg [0,0,0,7,0,0,0,127,255,511] (ra 0 10 ([])) (.s [30] []::.s [31] []::.s [34] []::z0::.s [30] []::.s [31] []::.s [35] []::za 3 ([])) (.a)) (.seq (.join [(.norm,⟨[],[38,39,40,41,42],[(32,.box [.h 36]),(33,.gone)],[.arr tB]⟩)] (.seq (.a) (.cond (.reg [] [] [z0,.s [34] [],.r] (.call [] [(.norm,⟨[(42,.t [])],[],[(32,.box [.h 36]),(33,.gone)],[.arr tB]⟩)] (.seq (.a) (.seq (.reg [0,1,3,7,15,15,47,111,255,511,15,2047,4095] (ra 0 13 ([])) [.s [32] [],.s [33] [],z0,z0,.s [32] [],.s [32] [],.s [33] [],z0,.s [33] [],.s [33] [],.s [36] [],z0,z0] (.a)) (.a))) (.a))) (.a)))) (.seq (.a) (.cond (.reg [] [] [z0,z0,.s [34] [],z0,z0,z0,.s [35] [],z0,z0,z0,z0,.s [34] [],z0,z0,z0,.s [35] [],z0,z0,z0,z0,.s [34] [],z0,z0,z0,.s [35] [],z0,z0,z0,z0,z0,.r] (.call [] [(.norm,⟨[(87,.t [])],[],[(32,.box [.h 37]),(36,.gone)],[.arr tB]⟩)] (.seq (.a) (.seq (.reg [0,1,3,7,15,15,47,111,255,511,15,2047,4095] (ra 0 13 ([])) [.s [32] [],.s [36] [],z0,z0,.s [32] [],.s [32] [],.s [36] [],z0,.s [36] [],.s [36] [],.s [37] [],z0,z0] (.a)) (.a))) (.a))) (.a))))))))) (.a))))))) (.a))))) (.a))) (.a)))) (.a)))) (.seq (.a) (.join [] (.a))))))))) (.seq (.a) (.seq (.a) (.block (.loop ⟨[(11,.r (.c (.d (.d tI))))],(ra 12 8 (ra 46 116 ([]))),[(14,.box [.d (.d .str),.d (.d .str)])],[]⟩ [(.exit 4,⟨[],(ra 11 9 (ra 46 116 ([]))),[(14,.box [.d (.d .str),.d (.d .str)])],[]⟩)] (.seq (.a) (.seq (.block (.seq (.reg [0,1,3,0,0,16,56,120,0,0,768,1792,0,0,0,28679,61695,131071] (ra 0 18 ([])) (z0::.s [22] []::.s [22] []::za 3 (.s [22] []::.s [22] []::z0::z0::.s [22] []::.s [22] []::.s [] [23]::.s [] [24]::.s [] [25]::.s [23] [23]::.s [24] [24]::.s [25] [25]::[])) (.a)) (.seq (.a) (.seq (.a) (.seq (.reg [0,0,3,0,8,31,0,64,255,0,0,1543,0,4096,15879,0,32768,130567,262143,0,0,1576455,0,4194304,16256519,0,33554432,133697031,268435455,536870911] (ra 0 30 ([])) [z0,.s [23] [],.k [],z0,.s [24] [],z0,z0,.s [25] [],z0,z0,.s [24] [],.k [],z0,.s [23] [],z0,z0,.s [25] [],z0,z0,z0,.s [25] [],.k [],z0,.s [23] [],z0,z0,.s [24] [],z0,z0,z0] (.kp [] ⟨[(118,.r (.c (.d (.d tI))))],[],[],[]⟩ an8_11 (.kp [] ⟨[(127,.r (.c (.d (.d tI))))],[],[],[]⟩ an8_11 (.kp [] ⟨[(137,.r (.c (.d (.d tI))))],[],[],[]⟩ an8_11 (.a))))) (.a)))))) (.a))))))))))) (.gq z0 (.a) (.a))) (.a)) (.a)) (.a)) (.a)) (.a)) (.a)) (.a)) (.a)) (.a)))) (.a))))) (.a))))))))) (.a))))))) (.a)))) (.a)))) (.a)))))) (.a))) (.a))) (.seq (.reg [0,0,1,7,15] [0,1,2,3,4] [.s [12] [],.s [13] [],.s [1] [1],.s [2] [2],z0] (.a)) (.a)))))))
noncomputable def adE (o:List (Int×Int×Int)) (r:(Int×Int×Int)):Option (List (Int×Int×Int)):=(bif PE.notM (eqM (lenM o) 0) then chkM (wrap .i64 (lenM o-1)) (lenM o) else some ()).bind fun r_10=>(bif PE.notM (eqM (lenM o) 0) then idxM o (wrap .i64 (lenM o-1)) else some (0,0,0)).bind fun r_11 =>
 bif PE.orM (eqM (lenM o) 0) (PE.notM (PE.andM (eqM r_11.1 r.1) (PE.andM (eqM r_11.2.1 r.2.1) (eqM r_11.2.2 r.2.2)))) then (appM (nat_lit 24) o [(r.1,r.2.1,r.2.2)]).bind fun r=>some r else some o
noncomputable def clipB (ax ay bx by_:Int) (l:List (Int×Int×Int)) (s_2:Int×List (Int×Int×Int)):Option ((Int×List (Int×Int×Int))⊕List (Int×Int×Int)):=bif ltM s_2.1 (lenM l) then ((chkM s_2.1 (lenM l)).bind fun r_3=>(idxM l s_2.1).bind fun r_4=>(remM (wrap .i64 (s_2.1+1)) (lenM l)).bind fun r_5=>(chkM r_5 (lenM l)).bind fun r_6=>(idxM l r_5).bind fun r_7 =>
 (m33 ((ax,ay),(bx,by_),r_4.1,r_4.2.1,r_4.2.2)).bind fun r_8=>(m33 ((ax,ay),(bx,by_),r_7.1,r_7.2.1,r_7.2.2)).bind fun r_9=>(bif leM 0 r_8 then (adE s_2.2 r_4).bind fun (ov:List (Int×Int×Int))=>some ov else some s_2.2).bind fun o_1 =>
 bif PE.orM (PE.andM (ltM 0 r_8) (ltM r_9 0)) (PE.andM (ltM r_8 0) (ltM 0 r_9)) then (m60 (wrap .i64 (wrap .i64 (r_4.1*r_9)-wrap .i64 (r_7.1*r_8)),wrap .i64 (wrap .i64 (r_4.2.1*r_9)-wrap .i64 (r_7.2.1*r_8)),wrap .i64 (wrap .i64 (r_4.2.2*r_9)-wrap .i64 (r_7.2.2*r_8)))).bind fun r_10 =>
 (adE o_1 r_10).bind fun (ov:List (Int×Int×Int))=>some ov else some o_1).bind fun o=>some (Sum.inl (wrap .i64 (s_2.1+1),o)) else some (Sum.inr s_2.2)
noncomputable def clipE (ax ay bx by_:Int) (l:List (Int×Int×Int)):Option (List (Int×Int×Int)):=loopM (clipB ax ay bx by_ l) (0,[])
noncomputable def valE (W:Int) (L:List Int) (ax ay bx by_ cx cy:Int) (q:(Int×Int×Int)):Option Int:=(((idxM L (wrap .i64 (wrap .i64 (ay*wrap .i64 (W+1))+ax))).bind fun r=>some r).bind fun (ov_1:Int)=>(m33 ((bx,by_),(cx,
 cy),q.1,q.2.1,q.2.2)).bind fun r_9=>((idxM L (wrap .i64 (wrap .i64 (by_*wrap .i64 (W+1))+bx))).bind fun r=>some r).bind fun (ov_2 :
 Int)=>(m33 ((cx,cy),(ax,ay),q.1,q.2.1,q.2.2)).bind fun r_10=>((idxM L (wrap .i64 (wrap .i64 (cy*wrap .i64 (W+1)) +
 cx))).bind fun r=>some r).bind fun (ov_3:Int)=>(m33 ((ax,ay),(bx,by_),q.1,q.2.1,q.2.2)).bind fun r=>some (wrap .i64 (wrap IntKind.i64
 (wrap .i64 (0+wrap .i64 (ov_1*r_9))+wrap .i64 (ov_2*r_10))+wrap .i64 (ov_3*r))))
noncomputable def fanE (W:Int) (L:List Int) (ax ay bx by_ cx cy:Int) (l:List (Int×Int×Int)) (s:List UInt8×List UInt8):Option (List UInt8×List UInt8):=loopM (fun (s_2:Int×List UInt8×List UInt8)=>bif ltM s_2.1 (lenM l) then (chkM 0 (lenM l)).bind fun r_3=>(idxM l 0).bind fun r_4=>(chkM (wrap IntKind.i64
 (s_2.1-1)) (lenM l)).bind fun r_5=>(idxM l (wrap .i64 (s_2.1-1))).bind fun r_6=>(chkM s_2.1 (lenM l)).bind fun r_7=>(idxM l s_2.1).bind fun r_8 =>
 (valE W L ax ay bx by_ cx cy r_4).bind fun (ov_1:Int)=>(valE W L ax ay bx by_ cx cy r_6).bind fun (ov_2:Int)=>(valE W L ax ay bx by_ cx cy r_8).bind fun (ov_3 :
 Int)=>(m29 (wrap .i64 (wrap .i64 (wrap .i64 (wrap .i64 (r_4.1*wrap .i64 (wrap .i64 (r_6.2.1*r_8.2.2)-wrap
 IntKind.i64 (r_6.2.2*r_8.2.1)))-wrap .i64 (r_4.2.1*wrap .i64 (wrap .i64 (r_6.1*r_8.2.2)-wrap .i64 (r_6.2.2*r_8.1))))+wrap
 IntKind.i64 (r_4.2.2*wrap .i64 (wrap .i64 (r_6.1*r_8.2.1)-wrap .i64 (r_6.2.1*r_8.1))))*wrap .i64 (wrap .i64 (wrap
 IntKind.i64 (wrap .i64 (ov_1*r_6.2.2)*r_8.2.2)+wrap .i64 (wrap .i64 (ov_2*r_4.2.2)*r_8.2.2))+wrap .i64 (wrap .i64 (ov_3 *
 r_4.2.2)*r_6.2.2))),wrap .i64 (wrap .i64 (6*wrap .i64 (wrap .i64 (r_4.2.2*r_6.2.2)*r_8.2.2))*wrap .i64 (wrap IntKind.i64
 (r_4.2.2*r_6.2.2)*r_8.2.2)))).bind fun r_9=>(m34 ((s_2.2.1,s_2.2.2),r_9.1.1,r_9.1.2)).bind fun r=>some (Sum.inl (wrap .i64 (s_2.1+1),
 r.1.1,r.1.2)) else some (Sum.inr (s_2.2.1,s_2.2.2))) (2,s.1,s.2)
noncomputable def polyE (ax ay bx by_ cx cy:Int) (o:List (Int×Int×Int)):Option (List (Int×Int×Int)):=(clipE ax ay bx by_ o).bind fun o_1=>bif eqM (lenM o_1) 0 then some o_1 else (clipE bx by_ cx cy o_1).bind fun o_2=>bif eqM (lenM o_2) 0 then some o_2 else (clipE cx cy ax ay o_2).bind fun o=>bif eqM (lenM o) 0 then some o else some o
noncomputable def overE (W H:Int) (L:List Int) (o:List (Int×Int×Int)):Option (List UInt8×List UInt8):=(m29 (0,1)).bind fun r_2=>(loopM (fun (s:Int×List UInt8×List UInt8)=>bif ltM s.1 H then (loopM (fun (s_1:Int×List UInt8×List UInt8)=>bif ltM s_1.1 W then
 (polyE s_1.1 s.1 (wrap .i64 (s_1.1+1)) s.1 (wrap .i64 (s_1.1+1)) (wrap .i64 (s.1+1)) o).bind fun o_1=>(fanE W L s_1.1 s.1 (wrap .i64 (s_1.1+1)) s.1 (wrap .i64 (s_1.1+1)) (wrap .i64 (s.1+1)) o_1 (s_1.2.1,s_1.2.2)).bind fun o_2 =>
 (polyE s_1.1 s.1 (wrap .i64 (s_1.1+1)) (wrap .i64 (s.1+1)) s_1.1 (wrap .i64 (s.1+1)) o).bind fun o_3=>(fanE W L s_1.1 s.1 (wrap .i64 (s_1.1+1)) (wrap .i64 (s.1+1)) s_1.1 (wrap .i64 (s.1+1)) o_3 (o_2.1,o_2.2)).bind fun o =>
 some (Sum.inl (wrap .i64 (s_1.1+1),o.1,o.2)) else some (Sum.inr (s_1.2.1,s_1.2.2))) (0,s.2.1,s.2.2)).bind fun o=>some (Sum.inl (wrap .i64 (s.1+1),o.1,o.2)) else some (Sum.inr (s.2.1,s.2.2))) (0,r_2.1.1,r_2.1.2)).bind fun o=>some (o.1,o.2)
def m8:((Int×Int×List Int×List Int)×List (Int×Int))→Option ((List UInt8×List UInt8)×(List UInt8×List UInt8)×Int):=fun x=>(m21 (x.1.1,
 x.1.2.1,x.1.2.2.1,x.1.2.2.2)).bind fun r=>(bif PE.notM (PE.notM r) then m25 x.2 else some false).bind fun r_1=>(bif PE.notM (PE.orM (PE.notM r) (PE.notM
 r_1)) then ((loopM (fun (s:Int)=>bif ltM s (lenM x.2) then (idxM x.2 s).bind fun r=>bif PE.orM (ltM x.1.1 r.1) (ltM x.1.2.1 r.2) then some (Sum.inr
 (Sum.inr s)) else some (Sum.inl (wrap .i64 (s+1))) else some (Sum.inr (Sum.inl ()))) 0).bind fun o=>Sum.elim (fun (t:Unit)=>some (-1)) (fun (t
 : Int)=>some t) o).bind fun (ov:Int)=>some (leM 0 ov) else some false).bind fun (ov:Bool)=>bif PE.orM (PE.orM (PE.notM r) (PE.notM r_1)) ov then
 some (([],[]),([],[]),250) else (loopM (fun (s:Int×List (Int×Int×Int))=>bif ltM s.1 (lenM x.2) then (idxM x.2 s.1).bind fun r_2=>(appM
 (nat_lit 24) s.2 [(r_2.1,r_2.2,1)]).bind fun r=>some (Sum.inl (wrap .i64 (s.1+1),r)) else some (Sum.inr s.2)) (0,[])).bind fun o=>(overE
 x.1.1 x.1.2.1 x.1.2.2.1 o).bind fun (ov_1:List UInt8×List UInt8)=>(overE x.1.1 x.1.2.1 x.1.2.2.2 o).bind fun (ov:List UInt8×List UInt8)=>some
 ((ov_1.1,ov_1.2),(ov.1,ov.2),0)
theorem c8:SpecOK Tryz.prog 8 ⟨as8,rs8,m8⟩ :=
 fc (TabOK.drop tabs34OK [31]) [] an8 Tryz.f8 fun x=>by kernel_rfl
def tabs8:Tabs:=Tabs.add tabs34 8 ⟨as8,rs8,m8⟩
theorem tabs8OK:TabOK Tryz.prog tabs8:=TabOK.add tabs34OK c8 Tryz.call8
end
end Go.Proofs.YtdgabicjcepmeaaGreatDoor
namespace Go.Proofs.YtdgabicjcepmeaaGreatDoor
open Go Go.Abs Go.PE Go.Proofs
open Go.IntKind (wrap)
set_option maxRecDepth 100000
noncomputable section

/-! putlog/field.Above -/
def as11:List Ty:=[(.pair tI (.pair tI (.pair tL tL))),tI]
def rs11:List Ty:=[(.pair .str .str),(.pair .str .str),tI]
def an11_0:Ann:=.kp [] ⟨[(21,.r (.c (.d (.d tI))))],[],[],[]⟩ (.seq (.a) (.a)) (.kp [] ⟨[(25,.r (.c (.d (.d tI))))],[],[],[]⟩ (.seq (.a) (.a)) (.kp [] ⟨[(29,.r (.c (.d (.d tI))))],[],[],[]⟩ (.seq (.a) (.a)) (.a)))
def an11:Ann:=.seq (.a) (.seq (.a) (.seq (.reg [] [] [.s [0] [],z0,.r,z0,z0,z0,.s [] [11],.s [] [12],.s [11] [11],.s [12] [12]] (.call [] [] (.seq (.a) (.seq (.reg [0,0,0,4,14,31,0,0,0,256,959,2047,4095,8191] (ra 0 14 ([])) [z0,.s [4] [],z0,.s [4] [],.k [7,8],.k [],z0,.s [4] [],z0,.s [4] [],.k [9,10],.k [],.s [5] [5],.s [6] [6]] (.kp [] ⟨[(10,.r (.c (.f 75 [] [.p 7 0,.p 8 0])))],[],[],[.box [.d (.d tL)],.box [.d (.d tI),.d (.d tI),.d (.d tL),.d (.d tL)]]⟩ (.seq (.a) (.a)) (.kp [30] ⟨[(11,.r (.s [.d (.d .str),.d (.d .str)]))],[],[],[]⟩ (.seq (.a) (.seq (.a) (.seq (.a) (.seq (.seq (.reg [] [] [.s [0] [],.r] (.call [] [] (.seq (.a) (.a)) (.a))) (.block (.call [] [] (.seq (.a) (.block (.loop ⟨[(9,.r (.c (.d (.d tI))))],(3::4::5::6::ra 10 39 ([])),[(11,.box [.d (.d .str),.d (.d .str)]),(14,.lp .ready)],[]⟩ [(.exit 0,⟨[],(3::4::5::6::ra 9 40 ([])),[(11,.box [.d (.d .str),.d (.d .str)]),(14,.lp .ready)],[]⟩)] (.seq (.a) (.seq (.a) (.seq (.block (.seq (.a) (.seq (.a) (.block (.loop ⟨[(14,.r (.c (.d (.d tI))))],(4::5::6::ra 15 33 ([])),[(11,.box [.d (.d .str),.d (.d .str)]),(14,.lp .ready)],[]⟩ [(.exit 2,⟨[],(4::5::6::ra 14 34 ([])),[(11,.box [.d (.d .str),.d (.d .str)]),(14,.lp .ready)],[]⟩)] (.seq (.a) (.seq (.a) (.seq (.block (.seq (.a) (.seq (.a) (.seq (.reg [] [] [z0,.s [15] [],z0,z0,z0,z0,.s [16] [],z0,.r,z0,z0,z0,.s [15] [],.s [16] [],z0,z0,z0,z0,z0,.r,z0,z0] (.call [30] [] (.seq (.a) (.join [(.norm,⟨[],(9::ra 18 96 ([])),[(11,.box [.d (.d .str),.d (.d .str)])],[]⟩)] (.block (.seq (.reg [0,0,2,7,0,0,32,127,0,0,512,2047,4095,8191] (ra 0 14 ([])) [.s [9] [],z0,.s [17] [],.k [],.s [9] [],z0,.s [17] [],.k [],.s [9] [],z0,.s [17] [],.k [],.s [] [18],z0] an11_0) (.seq (.a) (.block (.seq (.reg [0,1,3,0,15,31] (ra 0 6 ([])) [z0,.s [18] [],.s [18] [],.s [1] [],z0,z0] (.a)) (.cond (.reg [] [] [.s [12] [],.r] (.call [] [] (.seq (.a) (.a)) (.a))) (.seq (.reg [0,1,3,0,15,31] (ra 0 6 ([])) [z0,.s [18] [],.s [18] [],.s [1] [],z0,z0] (.a)) (.cond (.seq (.reg [] [] [.s [12] [],.r] (.call [] [] (.seq (.a) (.a)) (.a))) (.reg [0,0,0,4,12,30,62,0,0,256,768,1920,4094,0,8192,24576,0,65536,196608,516096,1040384,0,2097152,6291456,0,16777216,50331648,132120576,268427264,536870911] (ra 0 30 ([])) [.s [12] [],.s [1] [],z0,.s [18] [],.s [18] [],z0,z0,.s [1] [],z0,.s [18] [],.s [18] [],z0,z0,z0,.s [18] [],.s [18] [],z0,.s [18] [],.s [18] [],z0,z0,z0,.s [18] [],.s [18] [],z0,.s [18] [],.s [18] [],z0,z0,.r] (.call [] [] (.seq (.a) (.a)) (.a)))) (.seq (.reg [0,1,3,0,15,31] (ra 0 6 ([])) [z0,.s [18] [],.s [18] [],.s [1] [],z0,z0] (.a)) (.cond (.reg [0,0,2,6,0,30,0,64,192,0,960,2046,0,4096,12288,0,32768,98304,258048,520192,0,1048576,3145728,0,8388608,25165824,66060288,134213632,268435455] (ra 0 29 ([])) [.s [12] [],z0,.s [18] [],.s [18] [],.s [1] [],z0,z0,.s [18] [],.s [18] [],.s [1] [],z0,z0,z0,.s [18] [],.s [18] [],z0,.s [18] [],.s [18] [],z0,z0,z0,.s [18] [],.s [18] [],z0,.s [18] [],.s [18] [],z0,z0,.r] (.call [] [] (.seq (.a) (.a)) (.a))) (.a))))))))))))) (.gq z0 (.gq (.s [15] []) (.gq (.s [16] []) (.gq z0 (.gq z0 (.gq z0 (.gq z0 (.gq z0 (.gq (.r) (.call [30] [] (.seq (.a) (.join [(.norm,⟨[],(9::ra 18 96 ([])),[(11,.box [.d (.d .str),.d (.d .str)])],[]⟩)] (.block (.seq (.reg [0,0,2,7,0,0,32,127,0,0,512,2047,4095,8191] (ra 0 14 ([])) [.s [9] [],z0,.s [18] [],.k [],.s [9] [],z0,.s [18] [],.k [],.s [9] [],z0,.s [18] [],.k [],.s [] [19],z0] an11_0) (.seq (.a) (.block (.seq (.reg [0,1,3,0,15,31] (ra 0 6 ([])) [z0,.s [19] [],.s [19] [],.s [1] [],z0,z0] (.a)) (.cond (.reg [] [] [.s [12] [],.r] (.call [] [] (.seq (.a) (.a)) (.a))) (.seq (.reg [0,1,3,0,15,31] (ra 0 6 ([])) [z0,.s [19] [],.s [19] [],.s [1] [],z0,z0] (.a)) (.cond (.seq (.reg [] [] [.s [12] [],.r] (.call [] [] (.seq (.a) (.a)) (.a))) (.reg [0,0,0,4,12,30,62,0,0,256,768,1920,4094,0,8192,24576,0,65536,196608,516096,1040384,0,2097152,6291456,0,16777216,50331648,132120576,268427264,536870911] (ra 0 30 ([])) [.s [12] [],.s [1] [],z0,.s [19] [],.s [19] [],z0,z0,.s [1] [],z0,.s [19] [],.s [19] [],z0,z0,z0,.s [19] [],.s [19] [],z0,.s [19] [],.s [19] [],z0,z0,z0,.s [19] [],.s [19] [],z0,.s [19] [],.s [19] [],z0,z0,.r] (.call [] [] (.seq (.a) (.a)) (.a)))) (.seq (.reg [0,1,3,0,15,31] (ra 0 6 ([])) [z0,.s [19] [],.s [19] [],.s [1] [],z0,z0] (.a)) (.cond (.reg [0,0,2,6,0,30,0,64,192,0,960,2046,0,4096,12288,0,32768,98304,258048,520192,0,1048576,3145728,0,8388608,25165824,66060288,134213632,268435455] (ra 0 29 ([])) [.s [12] [],z0,.s [19] [],.s [19] [],.s [1] [],z0,z0,.s [19] [],.s [19] [],.s [1] [],z0,z0,z0,.s [19] [],.s [19] [],z0,.s [19] [],.s [19] [],z0,z0,z0,.s [19] [],.s [19] [],z0,.s [19] [],.s [19] [],z0,z0,.r] (.call [] [] (.seq (.a) (.a)) (.a))) (.a))))))))))))) (.gq z0 (.a) (.a))) (.a)) (.a)) (.a)) (.a)) (.a)) (.a)) (.a)) (.a)) (.a)))) (.a))))) (.a))))))))) (.a))))))) (.a)))) (.a))))) (.kp [] ⟨[(16,.r (.c (.f 75 [] [.p 9 0,.p 10 0])))],[],[],[.box [.d (.d tL)],.box [.d (.d tI),.d (.d tI),.d (.d tL),.d (.d tL)]]⟩ (.seq (.a) (.a)) (.kp [30] ⟨[(17,.r (.s [.d (.d .str),.d (.d .str)]))],[],[],[]⟩ (.seq (.a) (.seq (.a) (.seq (.a) (.seq (.seq (.reg [] [] [.s [0] [],.r] (.call [] [] (.seq (.a) (.a)) (.a))) (.block (.call [] [] (.seq (.a) (.block (.loop ⟨[(9,.r (.c (.d (.d tI))))],(3::4::5::6::ra 10 39 ([])),[(13,.box [.d (.d .str),.d (.d .str)]),(16,.lp .ready)],[]⟩ [(.exit 0,⟨[],(3::4::5::6::ra 9 40 ([])),[(13,.box [.d (.d .str),.d (.d .str)]),(16,.lp .ready)],[]⟩)] (.seq (.a) (.seq (.a) (.seq (.block (.seq (.a) (.seq (.a) (.block (.loop ⟨[(14,.r (.c (.d (.d tI))))],(4::5::6::ra 15 33 ([])),[(13,.box [.d (.d .str),.d (.d .str)]),(16,.lp .ready)],[]⟩ [(.exit 2,⟨[],(4::5::6::ra 14 34 ([])),[(13,.box [.d (.d .str),.d (.d .str)]),(16,.lp .ready)],[]⟩)] (.seq (.a) (.seq (.a) (.seq (.block (.seq (.a) (.seq (.a) (.seq (.reg [] [] [z0,.s [17] [],z0,z0,z0,z0,.s [18] [],z0,.r,z0,z0,z0,.s [17] [],.s [18] [],z0,z0,z0,z0,z0,.r,z0,z0] (.call [30] [] (.seq (.a) (.join [(.norm,⟨[],(9::ra 18 96 ([])),[(13,.box [.d (.d .str),.d (.d .str)])],[]⟩)] (.block (.seq (.reg [0,0,2,7,0,0,32,127,0,0,512,2047,4095,8191] (ra 0 14 ([])) [.s [11] [],z0,.s [19] [],.k [],.s [11] [],z0,.s [19] [],.k [],.s [11] [],z0,.s [19] [],.k [],.s [] [20],z0] an11_0) (.seq (.a) (.block (.seq (.reg [0,1,3,0,15,31] (ra 0 6 ([])) [z0,.s [20] [],.s [20] [],.s [1] [],z0,z0] (.a)) (.cond (.reg [] [] [.s [14] [],.r] (.call [] [] (.seq (.a) (.a)) (.a))) (.seq (.reg [0,1,3,0,15,31] (ra 0 6 ([])) [z0,.s [20] [],.s [20] [],.s [1] [],z0,z0] (.a)) (.cond (.seq (.reg [] [] [.s [14] [],.r] (.call [] [] (.seq (.a) (.a)) (.a))) (.reg [0,0,0,4,12,30,62,0,0,256,768,1920,4094,0,8192,24576,0,65536,196608,516096,1040384,0,2097152,6291456,0,16777216,50331648,132120576,268427264,536870911] (ra 0 30 ([])) [.s [14] [],.s [1] [],z0,.s [20] [],.s [20] [],z0,z0,.s [1] [],z0,.s [20] [],.s [20] [],z0,z0,z0,.s [20] [],.s [20] [],z0,.s [20] [],.s [20] [],z0,z0,z0,.s [20] [],.s [20] [],z0,.s [20] [],.s [20] [],z0,z0,.r] (.call [] [] (.seq (.a) (.a)) (.a)))) (.seq (.reg [0,1,3,0,15,31] (ra 0 6 ([])) [z0,.s [20] [],.s [20] [],.s [1] [],z0,z0] (.a)) (.cond (.reg [0,0,2,6,0,30,0,64,192,0,960,2046,0,4096,12288,0,32768,98304,258048,520192,0,1048576,3145728,0,8388608,25165824,66060288,134213632,268435455] (ra 0 29 ([])) [.s [14] [],z0,.s [20] [],.s [20] [],.s [1] [],z0,z0,.s [20] [],.s [20] [],.s [1] [],z0,z0,z0,.s [20] [],.s [20] [],z0,.s [20] [],.s [20] [],z0,z0,z0,.s [20] [],.s [20] [],z0,.s [20] [],.s [20] [],z0,z0,.r] (.call [] [] (.seq (.a) (.a)) (.a))) (.a))))))))))))) (.gq z0 (.gq (.s [17] []) (.gq (.s [18] []) (.gq z0 (.gq z0 (.gq z0 (.gq z0 (.gq z0 (.gq (.r) (.call [30] [] (.seq (.a) (.join [(.norm,⟨[],(9::ra 18 96 ([])),[(13,.box [.d (.d .str),.d (.d .str)])],[]⟩)] (.block (.seq (.reg [0,0,2,7,0,0,32,127,0,0,512,2047,4095,8191] (ra 0 14 ([])) [.s [11] [],z0,.s [20] [],.k [],.s [11] [],z0,.s [20] [],.k [],.s [11] [],z0,.s [20] [],.k [],.s [] [21],z0] an11_0) (.seq (.a) (.block (.seq (.reg [0,1,3,0,15,31] (ra 0 6 ([])) [z0,.s [21] [],.s [21] [],.s [1] [],z0,z0] (.a)) (.cond (.reg [] [] [.s [14] [],.r] (.call [] [] (.seq (.a) (.a)) (.a))) (.seq (.reg [0,1,3,0,15,31] (ra 0 6 ([])) [z0,.s [21] [],.s [21] [],.s [1] [],z0,z0] (.a)) (.cond (.seq (.reg [] [] [.s [14] [],.r] (.call [] [] (.seq (.a) (.a)) (.a))) (.reg [0,0,0,4,12,30,62,0,0,256,768,1920,4094,0,8192,24576,0,65536,196608,516096,1040384,0,2097152,6291456,0,16777216,50331648,132120576,268427264,536870911] (ra 0 30 ([])) [.s [14] [],.s [1] [],z0,.s [21] [],.s [21] [],z0,z0,.s [1] [],z0,.s [21] [],.s [21] [],z0,z0,z0,.s [21] [],.s [21] [],z0,.s [21] [],.s [21] [],z0,z0,z0,.s [21] [],.s [21] [],z0,.s [21] [],.s [21] [],z0,z0,.r] (.call [] [] (.seq (.a) (.a)) (.a)))) (.seq (.reg [0,1,3,0,15,31] (ra 0 6 ([])) [z0,.s [21] [],.s [21] [],.s [1] [],z0,z0] (.a)) (.cond (.reg [0,0,2,6,0,30,0,64,192,0,960,2046,0,4096,12288,0,32768,98304,258048,520192,0,1048576,3145728,0,8388608,25165824,66060288,134213632,268435455] (ra 0 29 ([])) [.s [14] [],z0,.s [21] [],.s [21] [],.s [1] [],z0,z0,.s [21] [],.s [21] [],.s [1] [],z0,z0,z0,.s [21] [],.s [21] [],z0,.s [21] [],.s [21] [],z0,z0,z0,.s [21] [],.s [21] [],z0,.s [21] [],.s [21] [],z0,z0,.r] (.call [] [] (.seq (.a) (.a)) (.a))) (.a))))))))))))) (.gq z0 (.a) (.a))) (.a)) (.a)) (.a)) (.a)) (.a)) (.a)) (.a)) (.a)) (.a)))) (.a))))) (.a))))))))) (.a))))))) (.a)))) (.a))))) (.a)))))) (.a))) (.a))) (.seq (.reg [0,0,1,7,15] [0,1,2,3,4] [.s [11] [],.s [12] [],.s [2] [2],.s [3] [3],z0] (.a)) (.a))))
noncomputable def abvT (n:Int) (l:List Int) (s:List UInt8×List UInt8):Option (List UInt8×List UInt8):=(sortI l).bind fun r_3=>(chkM 0 (lenM r_3)).bind fun r_4=>(idxM r_3 0).bind fun r_5=>bif ltM n r_5 then (m29 (1,2)).bind fun r_6=>(m34
 ((s.1,s.2),r_6.1.1,r_6.1.2)).bind fun r=>some (r.1.1,r.1.2) else (chkM 1 (lenM r_3)).bind fun r_6=>(idxM r_3 1).bind fun r_7=>bif ltM n r_7 then
 (m29 (1,2)).bind fun r_8=>(m34 ((s.1,s.2),r_8.1.1,r_8.1.2)).bind fun r_9=>(chkM 0 (lenM r_3)).bind fun r_10=>(idxM r_3 0).bind fun
 r_11=>(chkM 0 (lenM r_3)).bind fun r_12=>(idxM r_3 0).bind fun r_13=>(chkM 1 (lenM r_3)).bind fun r_14=>(idxM r_3 1).bind fun r_15=>(chkM 0 (lenM r_3)).bind
 fun r_16=>(idxM r_3 0).bind fun r_17=>(chkM 2 (lenM r_3)).bind fun r_18=>(idxM r_3 2).bind fun r_19=>(chkM 0 (lenM r_3)).bind fun r_20=>(idxM r_3 0).bind fun
 r_21=>(m29 (wrap .i64 (wrap .i64 (negM (wrap .i64 (n-r_11)))*wrap .i64 (n-r_13)),wrap .i64 (wrap .i64 (2
 * wrap .i64 (r_15-r_17))*wrap .i64 (r_19-r_21)))).bind fun r_22=>(m34 ((r_9.1.1,r_9.1.2),r_22.1.1,r_22.1.2)).bind fun r=>some
 (r.1.1,r.1.2) else (chkM 2 (lenM r_3)).bind fun r_8=>(idxM r_3 2).bind fun r_9=>bif ltM n r_9 then (chkM 2 (lenM r_3)).bind fun r_10=>(idxM r_3 2).bind fun r_11
 => (chkM 2 (lenM r_3)).bind fun r_12=>(idxM r_3 2).bind fun r_13=>(chkM 2 (lenM r_3)).bind fun r_14=>(idxM r_3 2).bind fun r_15=>(chkM 0 (lenM r_3)).bind fun
 r_16=>(idxM r_3 0).bind fun r_17=>(chkM 2 (lenM r_3)).bind fun r_18=>(idxM r_3 2).bind fun r_19=>(chkM 1 (lenM r_3)).bind fun r_20=>(idxM r_3 1).bind fun r_21
 => (m29 (wrap .i64 (wrap .i64 (r_11-n)*wrap .i64 (r_13-n)),wrap .i64 (wrap .i64 (2*wrap .i64 (r_15 -
 r_17))*wrap .i64 (r_19-r_21)))).bind fun r_22=>(m34 ((s.1,s.2),r_22.1.1,r_22.1.2)).bind fun r=>some (r.1.1,r.1.2) else some (s.1,s.2)
noncomputable def abvE (W H:Int) (L:List Int) (n:Int):Option (List UInt8×List UInt8):=(m29 (0,1)).bind fun r_2=>(loopM (fun (s:Int×List UInt8×List UInt8)=>bif ltM s.1 H then (loopM (fun (s_1:Int×List UInt8×List UInt8)=>bif
 ltM s_1.1 W then (((idxM L (wrap .i64 (wrap .i64 (s.1*wrap .i64 (W+1))+s_1.1))).bind fun r=>some r).bind fun (ov:Int)=>((idxM L (wrap
 IntKind.i64 (wrap .i64 (s.1*wrap .i64 (W+1))+wrap .i64 (s_1.1+1)))).bind fun r=>some r).bind fun (ov_1:Int)=>((idxM L (wrap
 IntKind.i64 (wrap .i64 (wrap .i64 (s.1+1)*wrap .i64 (W+1))+wrap .i64 (s_1.1+1)))).bind fun r=>some r).bind fun (ov_2:Int) =>
 abvT n [ov,ov_1,ov_2] (s_1.2.1,s_1.2.2)).bind fun o=>(((idxM L (wrap .i64 (wrap .i64 (s.1*wrap .i64 (W+1))+s_1.1))).bind fun r=>some
 r).bind fun (ov:Int)=>((idxM L (wrap .i64 (wrap .i64 (wrap .i64 (s.1+1)*wrap .i64 (W+1))+wrap .i64 (s_1.1+1)))).bind
 fun r=>some r).bind fun (ov_1:Int)=>((idxM L (wrap .i64 (wrap .i64 (wrap .i64 (s.1+1)*wrap .i64 (W+1))+s_1.1))).bind fun r =>
 some r).bind fun (ov_2:Int)=>abvT n [ov,ov_1,ov_2] (o.1,o.2)).bind fun o=>some (Sum.inl (wrap .i64 (s_1.1+1),o.1,o.2)) else some (Sum.inr (s_1.2.1,
 s_1.2.2))) (0,s.2.1,s.2.2)).bind fun o=>some (Sum.inl (wrap .i64 (s.1+1),o.1,o.2)) else some (Sum.inr (s.2.1,s.2.2))) (0,r_2.1.1,r_2.1.2)).bind fun o
 => some (o.1,o.2)
def m11:((Int×Int×List Int×List Int)×Int)→Option ((List UInt8×List UInt8)×(List UInt8×List UInt8)×Int):=fun x=>(m21 (x.1.1,x.1.2.1,
 x.1.2.2.1,x.1.2.2.2)).bind fun r=>(bif PE.notM (PE.notM r) then m38 (x.2,0,100) else some false).bind fun r_1=>bif PE.orM (PE.notM r) (PE.notM r_1)
 then some (([],[]),([],[]),250) else (abvE x.1.1 x.1.2.1 x.1.2.2.1 x.2).bind fun (ov:List UInt8×List UInt8)=>(abvE x.1.1 x.1.2.1 x.1.2.2.2 x.2).bind
 fun (ov_1:List UInt8×List UInt8)=>some ((ov.1,ov.2),(ov_1.1,ov_1.2),0)
theorem c11:SpecOK Tryz.prog 11 ⟨as11,rs11,m11⟩ :=
 fc tabs8OK [] an11 Tryz.f11 fun x=>by kernel_rfl
def tabs11:Tabs:=Tabs.add tabs8 11 ⟨as11,rs11,m11⟩
theorem tabs11OK:TabOK Tryz.prog tabs11:=TabOK.add tabs8OK c11 Tryz.call11

/-! putlog/field.made -/
def as48:List Ty:=[(.pair tI (.pair tI (.pair tL tL)))]
def rs48:List Ty:=[(.pair tI (.pair tI (.pair tL tL))),tI]
def an48:Ann:=.a
def m48:(Int×Int×List Int×List Int)→Option ((Int×Int×List Int×List Int)×Int) :=
 fun x=>(m21 (x.1,x.2.1,x.2.2.1,x.2.2.2)).bind fun r=>bif PE.notM r then some ((0,0,[],[]),250) else some ((x.1,x.2.1,x.2.2.1,x.2.2.2),0)
theorem c48:SpecOK Tryz.prog 48 ⟨as48,rs48,m48⟩ :=
 fc tabs11OK [] an48 Tryz.f48 fun x=>by kernel_rfl
def tabs48:Tabs:=Tabs.add tabs11 48 ⟨as48,rs48,m48⟩
theorem tabs48OK:TabOK Tryz.prog tabs48:=TabOK.add tabs11OK c48 Tryz.call48

/-! putlog/field.Refine -/
def as16:List Ty:=[(.pair tI (.pair tI (.pair tL tL)))]
def rs16:List Ty:=[(.pair tI (.pair tI (.pair tL tL))),tI]
def an16:Ann:=.seq (.a) (.seq (.a) (.seq (.a) (.seq (.reg [] [] [.s [0] [],z0,.r,z0,z0,z0,z0,.s [2,6] [2],z0,.s [2,9] [2]] (.call [] [] (.seq (.a) (.seq (.reg [0,0,0,4,14,31,0,0,0,256,959,2047,4095,8191] (ra 0 14 ([])) [z0,.s [3] [],z0,.s [3] [],.k [4,5],.k [6],z0,.s [3] [],z0,.s [3] [],.k [7,8],.k [9],z0,z0] (.kp [] ⟨[(10,.r (.c (.f 75 [] [.p 4 0,.p 5 0])))],[],[],[.box [.d (.d tL)],.box [.d (.d tI),.d (.d tI),.d (.d tL),.d (.d tL)]]⟩ (.seq (.a) (.a)) (.kp [] ⟨[(11,.r (.c (.h 6)))],[],[],[.arr tI]⟩ (.seq (.a) (.seq (.a) (.seq (.seq (.a) (.block (.loop ⟨[(4,.r (.c (.h 6))),(10,.r (.c (.d (.d tI))))],(5::6::ra 11 30 ([])),[],[.arr tI]⟩ [(.exit 0,⟨[(4,.r (.c (.h 6)))],(5::6::ra 10 31 ([])),[],[.arr tI]⟩)] (.seq (.a) (.seq (.a) (.seq (.block (.seq (.a) (.seq (.a) (.block (.loop ⟨[(4,.r (.c (.h 7))),(16,.r (.c (.d (.d tI))))],(6::ra 17 23 ([])),[(6,.gone)],[.arr tI]⟩ [(.exit 2,⟨[(4,.r (.c (.h 7)))],(6::ra 16 24 ([])),[(6,.gone)],[.arr tI]⟩)] (.seq (.a) (.seq (.a) (.seq (.block (.seq (.a) (.reg [] [] [z0,z0,z0,z0,z0,z0,z0,.r,z0,z0,z0,z0,z0,z0,z0,z0,.r,z0,z0,.s [7] [10,7],z0] (.call [] [] (.seq (.a) (.a)) (.call [] [] (.seq (.a) (.a)) (.a)))))) (.a))))))))) (.a))))))) (.a)))) (.kp [] ⟨[(16,.r (.c (.f 75 [] [.p 7 0,.p 8 0])))],[],[],[.box [.d (.d tL)],.box [.d (.d tI),.d (.d tI),.d (.d tL),.d (.d tL)]]⟩ (.seq (.a) (.a)) (.kp [] ⟨[(17,.r (.c (.h 9)))],[],[],[.arr tI]⟩ (.seq (.a) (.seq (.a) (.seq (.seq (.a) (.block (.loop ⟨[(4,.r (.c (.h 9))),(10,.r (.c (.d (.d tI))))],(5::6::ra 11 30 ([])),[],[.arr tI]⟩ [(.exit 0,⟨[(4,.r (.c (.h 9)))],(5::6::ra 10 31 ([])),[],[.arr tI]⟩)] (.seq (.a) (.seq (.a) (.seq (.block (.seq (.a) (.seq (.a) (.block (.loop ⟨[(4,.r (.c (.h 10))),(16,.r (.c (.d (.d tI))))],(6::ra 17 23 ([])),[(9,.gone)],[.arr tI]⟩ [(.exit 2,⟨[(4,.r (.c (.h 10)))],(6::ra 16 24 ([])),[(9,.gone)],[.arr tI]⟩)] (.seq (.a) (.seq (.a) (.seq (.block (.seq (.a) (.reg [] [] [z0,z0,z0,z0,z0,z0,z0,.r,z0,z0,z0,z0,z0,z0,z0,z0,.r,z0,z0,.s [10] [13,10],z0] (.call [] [] (.seq (.a) (.a)) (.call [] [] (.seq (.a) (.a)) (.a)))))) (.a))))))))) (.a))))))) (.a)))) (.a)))))) (.a))) (.a))) (.a))))
def m16:(Int×Int×List Int×List Int)→Option ((Int×Int×List Int×List Int)×Int) :=
 fun x=>(m21 (x.1,x.2.1,x.2.2.1,x.2.2.2)).bind fun r=>bif PE.notM r then some ((0,0,[],[]),250) else ((loopM (fun (s:Int×List Int)=>bif ltM s.1
 (wrap .i64 (wrap .i64 (2*x.2.1)+1)) then (loopM (fun (s_1:Int×List Int)=>bif ltM s_1.1 (wrap .i64 (wrap .i64 (2*x.1) +
 1)) then (divM .i64 s_1.1 2).bind fun r_1=>(divM .i64 s.1 2).bind fun r_2=>(idxM x.2.2.1 (wrap .i64 (wrap .i64 (r_2*wrap
 IntKind.i64 (x.1+1))+r_1))).bind fun r_3=>(divM .i64 (wrap .i64 (s_1.1+1)) 2).bind fun r_4=>(divM .i64 (wrap .i64 (s.1 +
 1)) 2).bind fun r_5=>(idxM x.2.2.1 (wrap .i64 (wrap .i64 (r_5*wrap .i64 (x.1+1))+r_4))).bind fun r_6=>(appM (nat_lit 8) s_1.2
 [wrap .i64 (r_3+r_6)]).bind fun r=>some (Sum.inl (wrap .i64 (s_1.1+1),r)) else some (Sum.inr s_1.2)) (0,s.2)).bind fun o=>some
 (Sum.inl (wrap .i64 (s.1+1),o)) else some (Sum.inr s.2)) (0,[])).bind fun o=>some o).bind fun (ov:List Int)=>((loopM (fun (s:Int×List
 Int)=>bif ltM s.1 (wrap .i64 (wrap .i64 (2*x.2.1)+1)) then (loopM (fun (s_1:Int×List Int)=>bif ltM s_1.1 (wrap .i64 (wrap
 IntKind.i64 (2*x.1)+1)) then (divM .i64 s_1.1 2).bind fun r_1=>(divM .i64 s.1 2).bind fun r_2=>(idxM x.2.2.2 (wrap .i64 (wrap
 IntKind.i64 (r_2*wrap .i64 (x.1+1))+r_1))).bind fun r_3=>(divM .i64 (wrap .i64 (s_1.1+1)) 2).bind fun r_4=>(divM IntKind.i64
 (wrap .i64 (s.1+1)) 2).bind fun r_5=>(idxM x.2.2.2 (wrap .i64 (wrap .i64 (r_5*wrap .i64 (x.1+1))+r_4))).bind fun r_6 =>
 (appM (nat_lit 8) s_1.2 [wrap .i64 (r_3+r_6)]).bind fun r=>some (Sum.inl (wrap .i64 (s_1.1+1),r)) else some (Sum.inr s_1.2)) (0,
 s.2)).bind fun o=>some (Sum.inl (wrap .i64 (s.1+1),o)) else some (Sum.inr s.2)) (0,[])).bind fun o=>some o).bind fun (ov_1:List Int)=>(m48
 (wrap .i64 (2*x.1),wrap .i64 (2*x.2.1),ov,ov_1)).bind fun r=>some ((r.1.1,r.1.2.1,r.1.2.2.1,r.1.2.2.2),r.2)
theorem c16:SpecOK Tryz.prog 16 ⟨as16,rs16,m16⟩ :=
 fc tabs48OK [] an16 Tryz.f16 fun x=>by kernel_rfl
def tabs16:Tabs:=Tabs.add tabs48 16 ⟨as16,rs16,m16⟩
theorem tabs16OK:TabOK Tryz.prog tabs16:=TabOK.add tabs48OK c16 Tryz.call16

/-! putlog/field.Add -/
def as17:List Ty:=[(.pair tI (.pair tI (.pair tL tL))),(.pair tI (.pair tI (.pair tL tL)))]
def rs17:List Ty:=[(.pair tI (.pair tI (.pair tL tL))),tI]
def an17:Ann:=.seq (.a) (.seq (.a) (.seq (.reg [0,1,0,4,0,16,48,0,128,496,1023,0,4095] (ra 0 13 ([])) [z0,.s [0] [],z0,.s [0] [],z0,.s [0] [],.s [] [3],z0,.s [0] [],.s [] [4],z0,.s [] [5],.s [5,3,4] [5]] (.a)) (.seq (.seq (.a) (.block (.loop ⟨[(45,.r (.c (.d (.d tI))))],(7::ra 46 27 ([])),[(3,.arr tI),(4,.arr tI)],[]⟩ [(.exit 0,⟨[],(7::ra 45 28 ([])),[(3,.arr tI),(4,.arr tI)],[]⟩)] (.seq (.a) (.seq (.a) (.seq (.block (.seq (.a) (.seq (.reg [0,1,0,7,15,0,32,0,224,480,1023,2047,4095] (ra 0 13 ([])) (z0::.s [5] []::z0::.s [3] []::.s [3] []::z0::.s [1] []::za 4 (.s [3] []::.s [3] [3]::[])) (.a)) (.reg [0,1,0,7,15,0,32,0,224,480,1023,2047,4095] (ra 0 13 ([])) (z0::.s [5] []::z0::.s [4] []::.s [4] []::z0::.s [1] []::za 4 (.s [4] []::.s [4] [4]::[])) (.a))))) (.a))))))) (.a))))
def m17:((Int×Int×List Int×List Int)×Int×Int×List Int×List Int)→Option ((Int×Int×List Int×List Int)×Int) :=
 fun x=>(m21 (x.1.1,x.1.2.1,x.1.2.2.1,x.1.2.2.2)).bind fun r=>(bif PE.notM (PE.notM r) then m21 (x.2.1,x.2.2.1,x.2.2.2.1,x.2.2.2.2) else some
 false).bind fun r_1=>bif PE.orM (PE.orM (PE.orM (PE.notM r) (PE.notM r_1)) (PE.notM (eqM x.1.1 x.2.1))) (PE.notM (eqM x.1.2.1 x.2.2.1)) then some ((0,0,
 [],[]),250) else (mo49 x.1.2.2.1).bind fun r_2=>(mo49 x.1.2.2.2).bind fun r_3=>(loopM (fun (s:Int×List Int×List Int)=>bif ltM s.1 (lenM r_2)
 then (chkM s.1 (lenM s.2.1)).bind fun r_4=>(idxM s.2.1 s.1).bind fun r_5=>(idxM x.2.2.2.1 s.1).bind fun r_6=>(chkM s.1 (lenM s.2.1)).bind fun r_7 =>
 (setM s.2.1 s.1 fun (x:Int)=>some (wrap .i64 (r_5+r_6))).bind fun r_8=>(chkM s.1 (lenM s.2.2)).bind fun r_9=>(idxM s.2.2 s.1).bind fun r_10
 => (idxM x.2.2.2.2 s.1).bind fun r_11=>(chkM s.1 (lenM s.2.2)).bind fun r_12=>(setM s.2.2 s.1 fun (x:Int)=>some (wrap .i64 (r_10+r_11))).bind
 fun r=>some (Sum.inl (wrap .i64 (s.1+1),r_8,r)) else some (Sum.inr (s.2.1,s.2.2))) (0,r_2,r_3)).bind fun o=>(m48 (x.1.1,x.1.2.1,o.1,
 o.2)).bind fun r=>some ((r.1.1,r.1.2.1,r.1.2.2.1,r.1.2.2.2),r.2)
theorem c17:SpecOK Tryz.prog 17 ⟨as17,rs17,m17⟩ :=
 fc (TabOK.drop tabs16OK [49]) [] an17 Tryz.f17 fun x=>by kernel_rfl
def tabs17:Tabs:=Tabs.add tabs16 17 ⟨as17,rs17,m17⟩
theorem tabs17OK:TabOK Tryz.prog tabs17:=TabOK.add tabs16OK c17 Tryz.call17

/-! putlog/field.Scale -/
def as18:List Ty:=[(.pair tI (.pair tI (.pair tL tL))),tI]
def rs18:List Ty:=[(.pair tI (.pair tI (.pair tL tL))),tI]
def an18:Ann:=.seq (.a) (.seq (.a) (.seq (.reg [0,1,0,4,0,16,48,0,128,496,1023,0,4095] (ra 0 13 ([])) [z0,.s [0] [],z0,.s [0] [],z0,.s [0] [],.s [] [2],z0,.s [0] [],.s [] [3],z0,.s [] [4],.s [4,2,3] [4]] (.a)) (.seq (.seq (.a) (.block (.loop ⟨[(31,.r (.c (.d (.d tI))))],(7::ra 32 19 ([])),[(2,.arr tI),(3,.arr tI)],[]⟩ [(.exit 0,⟨[],(7::ra 31 20 ([])),[(2,.arr tI),(3,.arr tI)],[]⟩)] (.a)))) (.a))))
def m18:((Int×Int×List Int×List Int)×Int)→Option ((Int×Int×List Int×List Int)×Int) :=
 fun x=>(m21 (x.1.1,x.1.2.1,x.1.2.2.1,x.1.2.2.2)).bind fun r=>(bif PE.notM (PE.notM r) then m38 (x.2,0,100) else some false).bind fun r_1=>bif PE.orM
 (PE.notM r) (PE.notM r_1) then some ((0,0,[],[]),250) else (mo49 x.1.2.2.1).bind fun r_2=>(mo49 x.1.2.2.2).bind fun r_3=>(loopM (fun (s:Int×List
 Int×List Int)=>bif ltM s.1 (lenM r_2) then (chkM s.1 (lenM s.2.1)).bind fun r_4=>(idxM s.2.1 s.1).bind fun r_5=>(chkM s.1 (lenM s.2.1)).bind fun r_6
 => (setM s.2.1 s.1 fun (x_1:Int)=>some (wrap .i64 (r_5*x.2))).bind fun r_7=>(chkM s.1 (lenM s.2.2)).bind fun r_8=>(idxM s.2.2 s.1).bind fun
 r_9=>(chkM s.1 (lenM s.2.2)).bind fun r_10=>(setM s.2.2 s.1 fun (x_1:Int)=>some (wrap .i64 (r_9*x.2))).bind fun r=>some (Sum.inl (wrap
 IntKind.i64 (s.1+1),r_7,r)) else some (Sum.inr (s.2.1,s.2.2))) (0,r_2,r_3)).bind fun o=>(m48 (x.1.1,x.1.2.1,o.1,o.2)).bind fun r=>some ((r.1.1,
 r.1.2.1,r.1.2.2.1,r.1.2.2.2),r.2)
theorem c18:SpecOK Tryz.prog 18 ⟨as18,rs18,m18⟩ :=
 fc (TabOK.drop tabs17OK [49]) [] an18 Tryz.f18 fun x=>by kernel_rfl
def tabs18:Tabs:=Tabs.add tabs17 18 ⟨as18,rs18,m18⟩
theorem tabs18OK:TabOK Tryz.prog tabs18:=TabOK.add tabs17OK c18 Tryz.call18

/-! putlog/field.Changed -/
def as19:List Ty:=[(.pair tI (.pair tI (.pair tL tL))),(.pair tI (.pair tI (.pair tL tL)))]
def rs19:List Ty:=[tL,tI]
def an19:Ann:=.seq (.a) (.seq (.a) (.seq (.a) (.seq (.seq (.a) (.block (.loop ⟨[(38,.r (.c (.d (.d tI))))],(7::8::9::ra 39 54 ([])),[(2,.arr tI)],[]⟩ [(.exit 0,⟨[],(7::8::9::ra 38 55 ([])),[(2,.arr tI)],[]⟩)] (.seq (.a) (.seq (.a) (.seq (.join [(.norm,⟨[],(7::8::9::ra 40 52 ([])),[(2,.arr tI)],[]⟩)] (.block (.seq (.a) (.seq (.reg [0,1,0,7,15,0,32,0,224,480,1023,0,2048,0,14336,30720,0,65536,0,458752,983040,2095104,0,0,12584959,33554431] (ra 0 26 ([])) (z0::.s [0] []::za 4 (.s [0] []::za 5 (.s [1] []::za 4 (.s [1] []::za 4 (.s [] [3]::.s [] [4]::.s [3] [3]::.s [4] [4]::[]))))) (.a)) (.a))))) (.a))))))) (.a))))
def m19:((Int×Int×List Int×List Int)×Int×Int×List Int×List Int)→Option (List Int×Int) :=
 fun x=>(m21 (x.1.1,x.1.2.1,x.1.2.2.1,x.1.2.2.2)).bind fun r=>(bif PE.notM (PE.notM r) then m21 (x.2.1,x.2.2.1,x.2.2.2.1,x.2.2.2.2) else some
 false).bind fun r_1=>bif PE.orM (PE.orM (PE.orM (PE.notM r) (PE.notM r_1)) (PE.notM (eqM x.1.1 x.2.1))) (PE.notM (eqM x.1.2.1 x.2.2.1)) then some ([],250)
 else (mkM (lenM x.1.2.2.1) (lenM x.1.2.2.1) (nat_lit 8) 0).bind fun r_2=>(loopM (fun (s:Int×List Int)=>bif ltM s.1 (lenM r_2) then ((idxM x.1.2.2.1
 s.1).bind fun r_3=>(idxM x.1.2.2.2 s.1).bind fun r_4=>(idxM x.2.2.2.1 s.1).bind fun r_5=>(idxM x.2.2.2.2 s.1).bind fun r_6=>bif ltM (min r_4 r_6) (max
 r_3 r_5) then (chkM s.1 (lenM s.2)).bind fun r_7=>(setM s.2 s.1 fun (x:Int)=>some 2).bind fun r=>some r else bif PE.orM (PE.notM (PE.andM (eqM r_3
 r_5) (eqM r_4 r_6))) (PE.notM (eqM r_3 r_4)) then (chkM s.1 (lenM s.2)).bind fun r_7=>(setM s.2 s.1 fun (x:Int)=>some 1).bind fun r=>some r else some
 s.2).bind fun o=>some (Sum.inl (wrap .i64 (s.1+1),o)) else some (Sum.inr s.2)) (0,r_2)).bind fun o=>some (o,0)
theorem c19:SpecOK Tryz.prog 19 ⟨as19,rs19,m19⟩ :=
 fc tabs18OK [] an19 Tryz.f19 fun x=>by kernel_rfl
def tabs19:Tabs:=Tabs.add tabs18 19 ⟨as19,rs19,m19⟩
theorem tabs19OK:TabOK Tryz.prog tabs19:=TabOK.add tabs18OK c19 Tryz.call19

/-! putlog/putlogref25.Ints -/
def as20:List Ty:=[tL,tL]
def rs20:List Ty:=[.bool]
def an20:Ann:=.seq (.a) (.seq (.a) (.seq (.seq (.a) (.block (.loop ⟨[(5,.r (.c (.d (.d tI))))],(ra 11 15 ([])),[],[]⟩ [(.exit 0,⟨[],(5::ra 11 15 ([])),[],[]⟩),(.ret,⟨[(4,.r (.c (.d (.d .bool))))],(5::ra 11 15 ([])),[],[]⟩)] (.seq (.a) (.seq (.block (.seq (.reg [0,0,3,7,0,0,48,112,255] (ra 0 9 ([])) (za 9 ([])) (.a)) (.a))) (.a)))))) (.a)))
def m20:(List Int×List Int)→Option (Bool) :=
 fun x=>bif PE.notM (eqM (lenM x.1) (lenM x.2)) then some false else (loopM (fun (s:Int)=>bif ltM s (lenM x.1) then (idxM x.1 s).bind fun r=>(idxM x.2
 s).bind fun r_1=>bif PE.notM (eqM r r_1) then some (Sum.inr (Sum.inr false)) else some (Sum.inl (wrap .i64 (s+1))) else some (Sum.inr (Sum.inl
 ()))) 0).bind fun o=>Sum.elim (fun (t:Unit)=>some true) (fun (t:Bool)=>some t) o
theorem c20:SpecOK Tryz.prog 20 ⟨as20,rs20,m20⟩ :=
 fc tabs19OK [] an20 Tryz.f20 fun x=>by kernel_rfl
def tabs20:Tabs:=Tabs.add tabs19 20 ⟨as20,rs20,m20⟩
theorem tabs20OK:TabOK Tryz.prog tabs20:=TabOK.add tabs19OK c20 Tryz.call20

/-! putlog/putloglaw25.sane -/
def as4:List Ty:=[]
def rs4:List Ty:=[.bool]
def an4:Ann:=.seq (.a) (.seq (.a) (.seq (.a) (.seq (.a) (.seq (.a) (.seq (.a) (.seq (.a) (.seq (.a) (.seq (.reg [0,0,2,6,14,31,63,127,127,127,0,0,3327,7679,16383] (ra 0 15 ([])) (.s [0] []::za 9 (.s [] [2]::.s [] [3]::.s [2] [2]::.s [3] [3]::z0::[])) (.a)) (.seq (.reg [0,0,2,6,14,31,63,127,127,127,0,0,3327,7679,16383] (ra 0 15 ([])) (.s [0] []::za 9 (.s [] [4]::.s [] [5]::.s [4] [4]::.s [5] [5]::z0::[])) (.a)) (.a))))))))))
def m4:Unit→Option (Bool) :=
 fun x=>(m13 ((1,1,[0,6,12,6],[0,6,12,6]),1,1,2)).bind fun r=>(m13 ((1,1,[0,6,12,6],[0,6,12,6]),1,3,4)).bind fun r_1=>(m13 ((1,1,
 [0,6,12,6],[0,6,12,6]),3,0,2)).bind fun r_2=>(m14 (1,1,[0,6,12,6],[0,6,12,6])).bind fun r_3=>(m15 (0,0)).bind fun r_4=>(m15 (1,
 0)).bind fun r_5=>(m15 (0,1)).bind fun r_6=>(m8 ((1,1,[0,6,12,6],[0,6,12,6]),[(r_4.1,r_4.2),(r_5.1,r_5.2),(r_6.1,r_6.2)])).bind fun r_7 =>
 (m15 (0,0)).bind fun r_8=>(m15 (2,0)).bind fun r_9=>(m15 (0,1)).bind fun r_10=>(m8 ((1,1,[0,6,12,6],[0,6,12,6]),[(r_8.1,r_8.2),(r_9.1,
 r_9.2),(r_10.1,r_10.2)])).bind fun r_11=>(m11 ((1,1,[0,6,12,6],[0,6,12,6]),3)).bind fun r_12=>(m11 ((1,1,[0,6,12,6],[0,6,12,6]),
 11)).bind fun r_13=>(m16 (1,1,[0,6,12,6],[0,6,12,6])).bind fun r_14=>(m17 ((1,1,[0,6,12,6],[0,6,12,6]),1,1,[0,6,12,6],[0,6,12,
 6])).bind fun r_15=>(m18 ((1,1,[0,6,12,6],[0,6,12,6]),3)).bind fun r_16=>(m18 ((1,1,[0,6,12,6],[0,6,12,6]),9)).bind fun r_17=>(m19
 ((1,1,[0,6,12,6],[0,6,12,6]),1,1,[0,6,12,6],[0,7,12,6])).bind fun r_18=>bif PE.orM (PE.orM (PE.orM (PE.orM (PE.orM (PE.orM (PE.orM
 (PE.orM (PE.orM (PE.orM (PE.orM (PE.notM (eqM r.2.2 0)) (PE.notM (eqM r_1.2.2 0))) (PE.notM (eqM r_2.2.2 250))) (PE.notM (eqM r_7.2.2 0))) (PE.notM (eqM
 r_11.2.2 250))) (PE.notM (eqM r_12.2.2 0))) (PE.notM (eqM r_13.2.2 0))) (PE.notM (eqM r_14.2 0))) (PE.notM (eqM r_15.2 0))) (PE.notM (eqM r_16.2 0))) (PE.notM
 (eqM r_17.2 250))) (PE.notM (eqM r_18.2 0)) then some false else (m20 (r_14.1.2.2.1,[0,6,12,12,6,12,24,18,12])).bind fun r_19=>(bif r_19 then m20
 (r_14.1.2.2.2,r_14.1.2.2.1) else some false).bind fun r_20=>(bif PE.andM (PE.andM (PE.andM r_19 r_20) (eqM r_14.1.1 2)) (eqM r_14.1.2.1 2) then m20
 (r_15.1.2.2.2,[0,12,24,12]) else some false).bind fun r_21=>(bif PE.andM (PE.andM (PE.andM (PE.andM r_19 r_20) (eqM r_14.1.1 2)) (eqM r_14.1.2.1 2))
 r_21 then m20 (r_16.1.2.2.1,[0,18,36,18]) else some false).bind fun r_22=>(bif PE.andM (PE.andM (PE.andM (PE.andM (PE.andM (PE.andM (PE.andM (eqM r.1 6)
 (eqM r.2.1 6)) (eqM r_1.1 30)) (eqM r_1.2.1 30)) (eqM r_3.1 30)) (eqM r_3.2 30)) (PE.andM (PE.andM (PE.andM (PE.andM (PE.andM (eqsM r_7.1.1 [(50:UInt8)])
 (eqsM r_7.1.2 [(49:UInt8)])) (PE.andM (eqsM r_7.2.1.1 r_7.1.1) (eqsM r_7.2.1.2 r_7.1.2))) (PE.andM (eqsM r_12.1.1 [(49:UInt8),(51:UInt8)]) (eqsM
 r_12.1.2 [(49:UInt8),(54:UInt8)]))) (PE.andM (eqsM r_13.1.1 [(49:UInt8)]) (eqsM r_13.1.2 [(49:UInt8),(52:UInt8),(52:UInt8)]))) (PE.andM (eqsM
 r_13.2.1.1 r_13.1.1) (eqsM r_13.2.1.2 r_13.1.2)))) (PE.andM (PE.andM (PE.andM (PE.andM (PE.andM r_19 r_20) (eqM r_14.1.1 2)) (eqM r_14.1.2.1 2)) r_21) r_22)
 then m20 (r_18.1,[0,1,0,0]) else some false).bind fun r_23=>(bif PE.andM (PE.andM (PE.andM (PE.andM (PE.andM (PE.andM (PE.andM (PE.andM (eqM r.1 6) (eqM
 r.2.1 6)) (eqM r_1.1 30)) (eqM r_1.2.1 30)) (eqM r_3.1 30)) (eqM r_3.2 30)) (PE.andM (PE.andM (PE.andM (PE.andM (PE.andM (eqsM r_7.1.1 [(50:UInt8)]) (eqsM
 r_7.1.2 [(49:UInt8)])) (PE.andM (eqsM r_7.2.1.1 r_7.1.1) (eqsM r_7.2.1.2 r_7.1.2))) (PE.andM (eqsM r_12.1.1 [(49:UInt8),(51:UInt8)]) (eqsM r_12.1.2
 [(49:UInt8),(54:UInt8)]))) (PE.andM (eqsM r_13.1.1 [(49:UInt8)]) (eqsM r_13.1.2 [(49:UInt8),(52:UInt8),(52:UInt8)]))) (PE.andM (eqsM r_13.2.1.1
 r_13.1.1) (eqsM r_13.2.1.2 r_13.1.2)))) (PE.andM (PE.andM (PE.andM (PE.andM (PE.andM r_19 r_20) (eqM r_14.1.1 2)) (eqM r_14.1.2.1 2)) r_21) r_22)) r_23 then
 m21 (1,1,[0,6,12,6],[0,6,12,6]) else some false).bind fun r_24=>(bif PE.andM (PE.andM (PE.andM (PE.andM (PE.andM (PE.andM (PE.andM (PE.andM
 (PE.andM (eqM r.1 6) (eqM r.2.1 6)) (eqM r_1.1 30)) (eqM r_1.2.1 30)) (eqM r_3.1 30)) (eqM r_3.2 30)) (PE.andM (PE.andM (PE.andM (PE.andM (PE.andM (eqsM
 r_7.1.1 [(50:UInt8)]) (eqsM r_7.1.2 [(49:UInt8)])) (PE.andM (eqsM r_7.2.1.1 r_7.1.1) (eqsM r_7.2.1.2 r_7.1.2))) (PE.andM (eqsM r_12.1.1 [(49:UInt8),(51
 : UInt8)]) (eqsM r_12.1.2 [(49:UInt8),(54:UInt8)]))) (PE.andM (eqsM r_13.1.1 [(49:UInt8)]) (eqsM r_13.1.2 [(49:UInt8),(52:UInt8),(52:UInt8)])))
 (PE.andM (eqsM r_13.2.1.1 r_13.1.1) (eqsM r_13.2.1.2 r_13.1.2)))) (PE.andM (PE.andM (PE.andM (PE.andM (PE.andM r_19 r_20) (eqM r_14.1.1 2)) (eqM r_14.1.2.1
 2)) r_21) r_22)) r_23) r_24 then m21 (0,0,[],[]) else some false).bind fun r_25=>some (PE.andM (PE.andM (PE.andM (PE.andM (PE.andM (PE.andM (PE.andM
 (PE.andM (PE.andM (PE.andM (eqM r.1 6) (eqM r.2.1 6)) (eqM r_1.1 30)) (eqM r_1.2.1 30)) (eqM r_3.1 30)) (eqM r_3.2 30)) (PE.andM (PE.andM (PE.andM (PE.andM
 (PE.andM (eqsM r_7.1.1 [(50:UInt8)]) (eqsM r_7.1.2 [(49:UInt8)])) (PE.andM (eqsM r_7.2.1.1 r_7.1.1) (eqsM r_7.2.1.2 r_7.1.2))) (PE.andM (eqsM r_12.1.1
 [(49:UInt8),(51:UInt8)]) (eqsM r_12.1.2 [(49:UInt8),(54:UInt8)]))) (PE.andM (eqsM r_13.1.1 [(49:UInt8)]) (eqsM r_13.1.2 [(49:UInt8),(52 :
 UInt8),(52:UInt8)]))) (PE.andM (eqsM r_13.2.1.1 r_13.1.1) (eqsM r_13.2.1.2 r_13.1.2)))) (PE.andM (PE.andM (PE.andM (PE.andM (PE.andM r_19 r_20) (eqM
 r_14.1.1 2)) (eqM r_14.1.2.1 2)) r_21) r_22)) r_23) r_24) (PE.notM r_25))
theorem c4:SpecOK Tryz.prog 4 ⟨as4,rs4,m4⟩ :=
 fc tabs20OK [] an4 Tryz.f4 fun x=>by kernel_rfl
def tabs4:Tabs:=Tabs.add tabs20 4 ⟨as4,rs4,m4⟩
theorem tabs4OK:TabOK Tryz.prog tabs4:=TabOK.add tabs20OK c4 Tryz.call4

/-! putlog/putlogref25.pick -/
def as22:List Ty:=[tI,tI]
def rs22:List Ty:=[tI]
def an22:Ann:=.seq (.a) (.seq (.join [(.norm,⟨[(0,.r (.c (.d (.d tI))))],[5,6,7,8,9],[],[]⟩)] (.a)) (.a))
def m22:(Int×Int)→Option (Int) :=
 fun x=>(bif ltM x.1 0 then some (wrap .i64 (negM (wrap .i64 (x.1+1)))) else some x.1).bind fun o=>(remM o x.2).bind fun r=>some r
theorem c22:SpecOK Tryz.prog 22 ⟨as22,rs22,m22⟩ :=
 fc tabs4OK [] an22 Tryz.f22 fun x=>by kernel_rfl
def tabs22:Tabs:=Tabs.add tabs4 22 ⟨as22,rs22,m22⟩
theorem tabs22OK:TabOK Tryz.prog tabs22:=TabOK.add tabs4OK c22 Tryz.call22

/-! putlog/putlogref25.Made -/
def as5:List Ty:=[tI,tI,tI,tI,tQ]
def rs5:List Ty:=[(.pair tI (.pair tI (.pair tL tL)))]
def an5:Ann:=.seq (.a) (.seq (.a) (.seq (.seq (.a) (.block (.loop ⟨[(12,.r (.c (.d (.d tI))))],(13::14::ra 24 51 ([])),[(1,.box [.d (.d tI),.d (.d tI),.h 2,.h 3])],[.arr tI,.arr tI]⟩ [(.exit 0,⟨[],(12::13::14::ra 24 51 ([])),[(1,.box [.d (.d tI),.d (.d tI),.h 2,.h 3])],[.arr tI,.arr tI]⟩)] (.seq (.a) (.seq (.block (.seq (.a) (.seq (.join [(.norm,⟨[],(ra 42 10 ([])),[(4,.box [.d (.d tI),.d (.d tI)])],[]⟩)] (.a)) (.seq (.a) (.seq (.a) (.reg [0,1,0,0,8,24,60,0,252,508,1023,2047,4095] (ra 0 13 ([])) (z0::.s [1] []::z0::z0::.s [4] []::za 5 (.s [3] [6,3]::z0::.s [1,6] [1]::[])) (.a))))))) (.a)))))) (.a)))
def m5:(Int×Int×Int×Int×List (Int×Int))→Option (Int×Int×List Int×List Int) :=
 fun x=>(m22 (x.1,x.2.2.1)).bind fun r=>(m22 (x.2.1,x.2.2.1)).bind fun r_1=>(loopM (fun (s:Int×Int×Int×List Int×List Int)=>bif ltM s.1 (wrap
 IntKind.i64 (wrap .i64 (s.2.1+1)*wrap .i64 (s.2.2.1+1))) then (bif ltM 0 (lenM x.2.2.2.2) then (remM s.1 (lenM x.2.2.2.2)).bind fun r_2 =>
 (idxM x.2.2.2.2 r_2).bind fun r=>some (r.1,r.2) else some (wrap .i64 (wrap .i64 (7*s.1)+wrap .i64 (s.1*s.1)),0)).bind fun o =>
 (m22 (o.1,wrap .i64 (x.2.2.2.1+1))).bind fun r_2=>(appM (nat_lit 8) s.2.2.2.1 [r_2]).bind fun r_3=>(m22 (o.2,30)).bind fun r_4=>(appM
 (nat_lit 8) s.2.2.2.2 [min (wrap .i64 (r_2+r_4)) x.2.2.2.1]).bind fun r=>some (Sum.inl (wrap .i64 (s.1+1),s.2.1,s.2.2.1,r_3,r)) else
 some (Sum.inr (s.2.1,s.2.2.1,s.2.2.2.1,s.2.2.2.2))) (0,wrap .i64 (1+r),wrap .i64 (1+r_1),[],[])).bind fun o=>some (o.1,o.2.1,
 o.2.2.1,o.2.2.2)
theorem c5:SpecOK Tryz.prog 5 ⟨as5,rs5,m5⟩ :=
 fc tabs22OK [] an5 Tryz.f5 fun x=>by kernel_rfl
def tabs5:Tabs:=Tabs.add tabs22 5 ⟨as5,rs5,m5⟩
theorem tabs5OK:TabOK Tryz.prog tabs5:=TabOK.add tabs22OK c5 Tryz.call5

/-! putlog/putlogref25.Bent -/
def as6:List Ty:=[(.pair tI (.pair tI (.pair tL tL))),tI,tI,tI]
def rs6:List Ty:=[(.pair tI (.pair tI (.pair tL tL)))]
def an6:Ann:=.seq (.a) (.seq (.reg [0,1,0,4,0,0,32,112,0,0,512,2032,4095,0,16383] (ra 0 15 ([])) [z0,.s [0] [],z0,.s [0] [],z0,z0,.s [0] [],.s [] [2],z0,z0,.s [0] [],.s [] [3],z0,.s [] [4],.s [4,2,3] [4]] (.a)) (.seq (.join [(.norm,⟨[],(ra 23 48 ([])),[(2,.gone),(3,.gone),(4,.box [.d (.d tI),.d (.d tI),.d (.d tL),.h 5])],[.arr tI]⟩)] (.seq (.a) (.block (.seq (.a) (.cond (.a) (.seq (.a) (.cond (.a) (.seq (.a) (.cond (.reg [0,1,0,0,8,24,60,0,255,511] (ra 0 10 ([])) [z0,.s [4] [],z0,z0,.s [4] [],.s [2] [],z0,z0,.s [2] [],.s [2] [2]] (.a)) (.seq (.a) (.cond (.reg [0,1,0,0,8,24,60,0,255,511] (ra 0 10 ([])) [z0,.s [4] [],z0,z0,.s [4] [],.s [3] [],z0,z0,.s [3] [],.s [3] [3]] (.a)) (.a)))))))))))) (.a)))
def m6:((Int×Int×List Int×List Int)×Int×Int×Int)→Option (Int×Int×List Int×List Int) :=
 fun x=>(appM (nat_lit 8) [] x.1.2.2.1).bind fun r=>(appM (nat_lit 8) [] x.1.2.2.2).bind fun r_1=>((m22 (x.2.1,6)).bind fun r_2=>bif eqM r_2 0 then some
 (x.2.2.1,x.1.2.1,r,r_1) else bif eqM r_2 1 then some (x.1.1,x.2.2.1,r,r_1) else bif eqM r_2 2 then (m22 (x.2.2.2,lenM r)).bind fun r_3=>(chkM r_3
 (lenM r)).bind fun r_4=>(setM r r_3 fun (x_1:Int)=>some x.2.2.1).bind fun r=>some (x.1.1,x.1.2.1,r,r_1) else bif eqM r_2 3 then (m22 (x.2.2.2,lenM
 r_1)).bind fun r_3=>(chkM r_3 (lenM r_1)).bind fun r_4=>(setM r_1 r_3 fun (x_1:Int)=>some x.2.2.1).bind fun r_5=>some (x.1.1,x.1.2.1,r,r_5) else
 bif eqM r_2 4 then (sliceM r 0 (wrap .i64 (lenM r-1))).bind fun r=>some (x.1.1,x.1.2.1,r,r_1) else (appM (nat_lit 8) r_1 [x.2.2.1]).bind fun r_3
 => some (x.1.1,x.1.2.1,r,r_3)).bind fun o=>some (o.1,o.2.1,o.2.2.1,o.2.2.2)
theorem c6:SpecOK Tryz.prog 6 ⟨as6,rs6,m6⟩ :=
 fc tabs5OK [] an6 Tryz.f6 fun x=>by kernel_rfl
def tabs6:Tabs:=Tabs.add tabs5 6 ⟨as6,rs6,m6⟩
theorem tabs6OK:TabOK Tryz.prog tabs6:=TabOK.add tabs5OK c6 Tryz.call6
end
end Go.Proofs.YtdgabicjcepmeaaGreatDoor
