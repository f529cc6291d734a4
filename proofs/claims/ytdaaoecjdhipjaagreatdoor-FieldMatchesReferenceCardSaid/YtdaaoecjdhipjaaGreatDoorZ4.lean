/-
 Texts of this proof, put together: Px, Ty, Gl, Tb, P3, P5, P9, T1, M0.
 No conditions.
-/
import Derived.Test.YtdaaoecjdhipjaaGreatDoorZ3
import Derived.ProofKit
import Derived.OpenShut
import Derived.Carry
import Derived.Test.YtdaaoecjdhipjaaGreatDoorProg
import Derived.KernelRfl
import Derived.Test.YtdaaoecjdhipjaaGreatDoorRows
import Derived.LaidMore
import Derived.Stop.Joined
import Derived.Lay
import Derived.Shelf.SlSortCmp.NoneTotal
import Derived.Shelf.Sort.Plain
import Derived.Shelf.Slices.In.SortNone
import Derived.Shelf.Slices.CompactI
import Derived.Shelf.Strings.Builder1
import Derived.Shelf.Strings.Prefix
import Derived.Shelf.Strings.SlTrimAscii
import Derived.Shelf.Strings.Repeat
import Derived.Shelf.Strconv.AtoiAll
import Derived.Shelf.Strconv.Itoa3
import Derived.Shelf.Lays
import Derived.Shelf.Lays2
import Derived.Shelf.LaysC
set_option linter.all false
namespace Go.PE
open Go Go.RowKit Go.Abs Go.ChangeShapes Go.WideShapes Go.ChangeAt

mutual
inductive TyP (P:Program):TypeId→Ty→Prop where
 | int {t k}:P.underlying t=some (.int k)→TyP P t (.int k)
 | bool {t}:P.underlying t=some .bool→TyP P t .bool
 | str {t}:P.underlying t=some .string→TyP P t .str
 | list {t e T}:P.underlying t=some (.slice e)→P.cellsOf e=T.size→TyP P e T→TyP P t (.list T)
 | struct1 {t fs T}:P.underlying t=some (.struct fs)→P.cellsOf t=T.size→FsP P (fs.toList.map fun f=>(f.offset,f.type)) 0 T→fs.size=1→TyP P t (.one T)
 | struct {t fs A B}:P.underlying t=some (.struct fs)→P.cellsOf t=A.size+B.size→FsP P (fs.toList.map fun f=>(f.offset,f.type)) 0 (.pair A B)→TyP P t (.pair A B)
 | array1 {t e T}:P.underlying t=some (.array 1 e)→P.cellsOf t=T.size→FsP P [(0,e)] 0 T→TyP P t (.one T)
 | array {t n e A B}:P.underlying t=some (.array n e)→P.cellsOf t=A.size+B.size→FsP P ((List.range n).map fun i=>(i*P.cellsOf e,e)) 0 (.pair A B)→TyP P t (.pair A B)
inductive FsP (P:Program):List (Nat×TypeId)→Nat→Ty→Prop where
 | last {off t T}:P.cellsOf t=T.size→TyP P t T→FsP P [(off,t)] off T
 | cons {off t A B l}:P.cellsOf t=A.size→TyP P t A→FsP P l (off+A.size) B→FsP P ((off,t)::l) off (.pair A B)
end
def InWd (w:World):Cells:=fun b _=>b<w.heap.size
theorem exists_list {α:Type} {p:Nat→α→Prop}:∀ (n:Nat),(∀ i,i<n→∃ y,p i y)→∃ ys:List α,ys.length=n∧∀ i y,ys[i]? = some y→p i y
 | 0,_=>⟨[],rfl,fun i y h=>by simp at h⟩
 | n+1,h=>by
  obtain ⟨ys,h1,h2⟩:=exists_list n fun i hi=>h i (by omega)
  obtain ⟨y,hy⟩:=h n (by omega)
  refine ⟨ys++[y],by simp [h1],fun i z hz=>?_⟩
  by_cases hi:i<ys.length
  ·rw [List.getElem?_append_left hi] at hz;exact h2 i z hz
  ·rw [List.getElem?_append_right (by omega)] at hz
   have:i-ys.length=0:=by
    have:=(List.getElem?_eq_some_iff.1 hz).1
    simp at this;omega
   rw [this] at hz
   simp at hz
   subst hz
   rw [show i=n by omega];exact hy
section
variable {H:Type} {enc:TypeId×Value→H} {P:Program} {w:World} {base:Nat} {spare:Nat→Bool} {held:Bool}
theorem cells?_get {a:Addr} {n:Nat} {cs:List Value} (h:w.cells? base a n=some cs):cs.length=n∧∀ j u,cs[j]? = some u→w.cell? (a.add j)=some u:=by
 obtain ⟨_,h1,h2⟩:=World.cells?_some h
 refine ⟨h1,fun j u hj=>?_⟩
 have hl:=(List.getElem?_eq_some_iff.1 hj).1
 rw [h2 j (by omega)];exact hj
theorem trod_rep:∀ (fuel:Nat) {t:TypeId} {T:Ty} {cs:List Value} {x:DataW H×List MemPlace},TyP P t T→DataW.trod enc P w base spare held fuel t cs=some x→∃ y:T.den,Rep (InWd w) w T y cs:=by
 intro fuel
 induction fuel with
 | zero=>intro t T cs x _ h;simp [DataW.trod] at h
 | succ n ih =>
  -- fields
  have fields:∀ {l:List (Nat×TypeId)} {off:Nat} {T:Ty} {cs:List Value},FsP P l off T→off+T.size≤cs.length→(∀ (i:Nat) p,l[i]? = some p→∃ x,DataW.trod enc P w base spare held n p.2 ((cs.drop p.1).take (P.cellsOf p.2))=some x) →
    ∃ y:T.den,Rep (InWd w) w T y ((cs.drop off).take T.size):=by
   intro l
   induction l with
   | nil=>intro off T cs h;cases h
   | cons p l ihl =>
    intro off T cs h hlen ht
    cases h with
    | last hc hty =>
     obtain ⟨x,hx⟩:=ht 0 _ rfl
     rw [← hc]
     exact ih hty hx
    | @cons _ t A B _ hc hty hr =>
     obtain ⟨x,hx⟩:=ht 0 _ rfl
     rw [hc] at hx
     obtain ⟨y1,h1⟩:=ih hty hx
     have hsz:(Ty.pair A B).size=A.size+B.size:=rfl
     rw [hsz] at hlen
     obtain ⟨y2,h2⟩:=ihl hr (by omega) fun i p hp=>ht (i+1) p (by simpa using hp)
     refine ⟨(y1,y2),_,_,?_,h1,h2⟩
     rw [hsz]
     rw [List.take_add,List.drop_drop]
  intro t T cs x hT h
  cases hT with
  | int hu =>
   obtain ⟨m,rfl,_,hw⟩:=DataW.trod_int hu h
   refine ⟨m,rfl,?_⟩
   simp [Lit.wf] at hw
   exact hw
  | bool hu=>obtain ⟨b,rfl,_⟩:=DataW.trod_bool hu h;exact ⟨b,rfl⟩
  | str hu =>
   obtain ⟨s,rfl,_,hs⟩:=DataW.trod_string hu h
   exact ⟨s.data.toList,by simp,by simpa using hs⟩
  | @list _ e T hu hc hty =>
   rcases DataW.trod_slice hu h with ⟨rfl,_⟩ | ⟨a,len,cap,elems,rest,m,hm,rfl,_,_,h1,h2,h3,h4,_⟩
   ·exact ⟨[],none,0,rfl,Nat.le_refl _,Nat.zero_le _,.inl rfl⟩
   ·cases hm
    rw [hc] at h4
    have hex:∀ i,i<len→∃ y:T.den,∃ es,Rep (InWd w) w T y es∧∀ j u,es[j]? = some u→w.cell? ((a.add (i*T.size)).add j)=some u:=by
     intro i hi
     have h5:=h4 i hi
     rw [List.getElem?_eq_getElem (by omega)] at h5
     obtain ⟨es,h6,h7⟩:=Option.bind_eq_some_iff.1 h5
     obtain ⟨y,hy⟩:=ih hty h7
     exact ⟨y,es,hy,(cells?_get h6).2⟩
    obtain ⟨ys,hl,hys⟩:=exists_list len hex
    refine ⟨ys,some a,cap,by rw [hl],by rw [hl];exact h1,h2,?_⟩
    by_cases h0:len=0
    ·left;show List.length ys=0;omega
    ·right
     have hsp:a.spot=none:=by
      obtain ⟨y,es,hr,hg⟩:=hex 0 (by omega)
      have hel:=hr.length
      have hpos:=T.size_pos
      have:=hg 0 _ (List.getElem?_eq_getElem (by omega))
      unfold World.cell? at this
      split at this
      ·split at this
       ·cases this
       ·rename_i hs
        simpa [Addr.add] using hs
      ·cases this
     obtain ⟨b,off,sp⟩:=a
     simp only at hsp
     subst hsp
     refine ⟨b,off,rfl,fun i y hy=>?_⟩
     obtain ⟨es,hr,hg⟩:=hys i y hy
     refine ⟨es,hr,fun j u hj=>?_⟩
     have h5:=hg j u hj
     rw [Addr.add_lit,Addr.add_lit] at h5
     exact ⟨World.block_lt_of_cell? _ _ h5,h5⟩
  | @struct1 _ fs T hu hc hf h1 =>
   obtain ⟨xs,m,hm,_,hl,hxl,hx⟩:=DataW.trod_struct hu h
   cases hm
   obtain ⟨y,hy⟩:=fields hf (by rw [hl,hc];omega) fun i p hp=>by
    simp only [List.getElem?_map,Option.map_eq_some_iff] at hp
    obtain ⟨f,hf1,rfl⟩:=hp
    have hil:i<xs.length:=by rw [hxl];simpa using (List.getElem?_eq_some_iff.1 hf1).1
    exact ⟨xs[i],by rw [← List.getElem?_eq_getElem hil];exact hx i f (by simpa using hf1)⟩
   rw [List.drop_zero,List.take_of_length_le (by omega)] at hy
   exact ⟨y,hy⟩
  | @struct _ fs A B hu hc hf =>
   obtain ⟨xs,m,hm,_,hl,hxl,hx⟩:=DataW.trod_struct hu h
   cases hm
   have hsz:(Ty.pair A B).size=A.size+B.size:=rfl
   obtain ⟨y,hy⟩:=fields hf (by rw [hl,hc,hsz];omega) fun i p hp=>by
    simp only [List.getElem?_map,Option.map_eq_some_iff] at hp
    obtain ⟨f,hf1,rfl⟩:=hp
    have hil:i<xs.length:=by rw [hxl];simpa using (List.getElem?_eq_some_iff.1 hf1).1
    exact ⟨xs[i],by rw [← List.getElem?_eq_getElem hil];exact hx i f (by simpa using hf1)⟩
   rw [List.drop_zero,List.take_of_length_le (by rw [hl,hc,hsz];omega)] at hy
   exact ⟨y,hy⟩
  | @array1 _ e T hu hc hf =>
   obtain ⟨xs,m,hm,_,hl,hxl,hx⟩:=DataW.trod_array hu h
   cases hm
   obtain ⟨y,hy⟩:=fields hf (by rw [hl,hc];omega) fun i p hp=>by
    have hi0:i=0:=by have:=(List.getElem?_eq_some_iff.1 hp).1;simp at this;exact this
    subst hi0
    simp at hp
    subst hp
    have:=hx 0 (by omega)
    rw [Nat.zero_mul] at this
    exact ⟨xs[0],by rw [← List.getElem?_eq_getElem (by omega)];exact this⟩
   rw [List.drop_zero,List.take_of_length_le (by omega)] at hy
   exact ⟨y,hy⟩
  | @array _ k e A B hu hc hf =>
   obtain ⟨xs,m,hm,_,hl,hxl,hx⟩:=DataW.trod_array hu h
   cases hm
   have hsz:(Ty.pair A B).size=A.size+B.size:=rfl
   obtain ⟨y,hy⟩:=fields hf (by rw [hl,hc,hsz];omega) fun i p hp=>by
    simp only [List.getElem?_map,Option.map_eq_some_iff] at hp
    obtain ⟨j,hj,rfl⟩:=hp
    have hjl:i<k:=by have:=(List.getElem?_eq_some_iff.1 hj).1;simpa using this
    have hji:j=i:=by rw [List.getElem?_range hjl] at hj;cases hj;rfl
    subst hji
    exact ⟨xs[j],by rw [← List.getElem?_eq_getElem (by omega)];exact hx j hjl⟩
   rw [List.drop_zero,List.take_of_length_le (by rw [hl,hc,hsz];omega)] at hy
   exact ⟨y,hy⟩

theorem TyP.agg:∀ {t:TypeId} {T:Ty} {v:Value} {r:Reach} {b0:Nat} {x:T.den},TyP P t T→Value.okWide P w r b0 t v→Rep (InWd w) w T x v.cells.toList→VRep (InWd w) w T x v:=by
 intro t T v r b0 x hT hok hr
 refine ⟨_,hr,?_⟩
 cases hT with
 | int hu=>obtain ⟨n,rfl⟩:=okWide_int hu hok;rfl
 | bool hu=>obtain ⟨n,rfl⟩:=okWide_bool hu hok;rfl
 | str hu=>obtain ⟨n,rfl⟩:=okWide_string hu hok;rfl
 | list hu _ _=>obtain ⟨a,l,c,rfl⟩:=okWide_slice hu hok;rfl
 | struct1 hu _ _ _=>simp only [Value.okWide,hu] at hok;obtain ⟨cs,rfl,_⟩:=hok;simp [Ty.wrap,Ty.agg,Value.cells]
 | struct hu _ _=>simp only [Value.okWide,hu] at hok;obtain ⟨cs,rfl,_⟩:=hok;simp [Ty.wrap,Ty.agg,Value.cells]
 | array1 hu _ _=>simp only [Value.okWide,hu] at hok;obtain ⟨cs,rfl,_⟩:=hok;simp [Ty.wrap,Ty.agg,Value.cells]
 | array hu _ _=>simp only [Value.okWide,hu] at hok;obtain ⟨cs,rfl,_⟩:=hok;simp [Ty.wrap,Ty.agg,Value.cells]

inductive TysP (P:Program):List TypeId→List Ty→Prop where
 | nil:TysP P [] []
 | cons {t T ts Ts}:P.readableRec t=true→t<P.types.size→TyP P t T→TysP P ts Ts→TysP P (t::ts) (T::Ts)
theorem args_data {η:Eta} {r:Reach} {b0:Nat}:∀ {ts:List TypeId} {Ts:List Ty} {vs:List Value} {ds:List (DataW H)} {ps:List MemPlace},TysP P ts Ts→DataW.TrodAll enc P w base spare held ts vs ds ps→(∀ (j:Nat) t v,ts[j]? = some t→vs[j]? = some v→Value.okWide P w r b0 t v) →
  ∃ x:Tup (Ts.map .d),All2 (RM (InWd w) w η) (rvs Ts x) vs
 | _,_,vs,ds,ps,.nil,h,_=>by
  obtain ⟨rfl,_,_⟩:=trodAll_nil h
  exact ⟨(),.nil⟩
 | _,_,vs,ds,ps,.cons (t:=t) (T:=T) (ts:=ts) (Ts:=Ts) h1 h2 h3 h4,h,hok=>by
  obtain ⟨v,vs',d,ds',p,q,rfl,rfl,rfl,⟨n,hn⟩,hr⟩:=trodAll_cons h
  obtain ⟨y,hy⟩:=trod_rep n h3 hn
  have hv:RM (InWd w) w η (T.rv y) v:=VRep.rm (h3.agg (hok 0 t v rfl rfl) hy)
  obtain ⟨x,hx⟩:=args_data (η:=η) h4 hr fun j t v h1 h2=>hok (j+1) t v (by simpa using h1) (by simpa using h2)
  cases Ts with
  | nil=>exact ⟨y,by cases hx;exact .cons hv .nil⟩
  | cons U Us=>exact ⟨(y,x),.cons hv hx⟩
theorem args_back (hl:laidOutB P=true) {w':World} (hb:Below w.heap.size w w') {sp:Nat→Bool}:∀ {ts:List TypeId} {Ts:List Ty} {vs:List Value} {ds:List (DataW H)} {ps:List MemPlace},TysP P ts Ts→DataW.TrodAll enc P w 0 (fun _=>true) true ts vs ds ps→(∀ x∈ps,x.block<w.heap.size)→(∀ x∈ps,sp x.block=true) →
  DataW.TrodAll enc P w' 0 sp true ts vs ds ps
 | _,_,vs,ds,ps,.nil,h,_,_=>by
  obtain ⟨rfl,rfl,rfl⟩:=trodAll_nil h
  exact rfl
 | _,_,vs,ds,ps,.cons h1 h2 h3 h4,h,hlt,hsp=>by
  obtain ⟨v,vs',d,ds',p,q,rfl,rfl,rfl,hd,hr⟩:=trodAll_cons h
  have hd':=WideElems.Trod_stays hl h1 h2 (sp':=sp) hd (fun x hx=>hb.same (hlt x (by simp [hx]))) fun x hx=>hsp x (by simp [hx])
  exact ⟨p,q,hd',args_back hl hb h4 hr (fun x hx=>hlt x (by simp [hx])) fun x hx=>hsp x (by simp [hx]),rfl⟩
end

theorem law_contract' {P:Program} (hl:laidOutB P=true) {f:FuncId} {fn:Func} {s:ChangeSpec} {args:List Ty} {m:Tup (args.map .d)→Option Bool} (hspec:SpecOK P f ⟨args,[.bool],m⟩) {ts:List TypeId} (hts:fn.params.toList=ts) (hT:TysP P ts args) {tb:TypeId} (hrt:fn.resultTypes=#[tb]) (htb:P.underlying tb=some .bool)
  (hvars:s.vars=[]) (hfn:∀ (H:Type) (ds:List (DataW H)),ds.length=args.length→(s.fn H ds).results=[.lit (.bool true)]∧(s.fn H ds).args=ds∧(s.fn H ds).vars=[])
  (hm:∀ (S:Cells) (w:World) (η:Eta) (vs:List Value) x,All2 (RM S w η) (rvs args x) vs→m x=some true)
  {H:Type} {enc:TypeId×Value→H} {W:World} {base:Nat} {av:Array Value} {ds gs:List (DataW H)} {before:List MemPlace} (hglob:GlobOK (InWd W) W)
  (hval:∀ (j:Nat) t v,fn.params[j]? = some t→av[j]? = some v→Value.okWide P W .any base t v) (hW:DataW.Whole enc P fn.params.toList s.vars false W av.toList ds gs before) :
  Calls P f av W fun e W'=>∃ v,e=.returned v∧s.post enc P fn false true false false W av v W'∧W'.os=W.os:=by
 have hW0:=hW
 obtain ⟨p,q,hA,hV,rfl,hfz,_⟩:=hW
 rw [hvars] at hV
 obtain ⟨rfl,rfl⟩:=trodVars_none hV
 rw [List.append_nil] at *
 rw [hts] at hA
 have hlt:∀ x∈p,x.block<W.heap.size:=fun x hx=>by simpa using hW0.lt x hx
 obtain ⟨x,hx⟩:=args_data (η:=fun _=>none) (r:=.any) (b0:=base) hT hA fun j t v h1 h2=>hval j t v (by rw [← hts] at h1;simpa using h1) (by simpa using h2)
 have hc:=hspec x true (hm _ _ _ _ x hx) (InWd W) W (fun _=>none) av.toList ⟨fun b o h=>h,hglob⟩ hx
 have hav:av.toList.toArray=av:=by simp
 rw [hav] at hc
 refine hc.mono fun e W' ⟨v,S',he,hg,hp⟩=>⟨v,he,?_,hg.below.os⟩
 have hvb:v=.bool true:=VRep.bool.1 hp.2
 subst hvb
 have hb:=hg.below
 have hlen:ds.length=args.length:=by
  have h1:∀ {ts:List TypeId} {Ts:List Ty} {vs:List Value} {ds:List (DataW H)} {ps:List MemPlace},TysP P ts Ts→DataW.TrodAll enc P W 0 (fun _=>true) true ts vs ds ps→ds.length=Ts.length:=by
   intro ts Ts vs ds ps hT
   induction hT generalizing vs ds ps with
   | nil=>intro h;obtain ⟨_,rfl,_⟩:=trodAll_nil h;rfl
   | cons _ _ _ _ ih=>intro h;obtain ⟨_,_,_,_,_,_,rfl,rfl,rfl,_,hr⟩:=trodAll_cons h;simp [ih hr]
  exact h1 hT hA
 obtain ⟨f1,f2,f3⟩:=hfn H (ds++[]) (by simpa using hlen)
 have hargs:∀ sp:Nat→Bool,(∀ y∈p,sp y.block=true)→DataW.TrodAll enc P W' 0 sp true fn.params.toList av.toList (s.fn H (ds++[])).args p:=fun sp hsp=>by
  rw [f2,List.append_nil,hts]
  exact args_back hl hb hT hA hlt hsp
 have hres:∀ (b:Nat) (sp:Nat→Bool) (hd:Bool),DataW.TrodAll enc P W' b sp hd fn.resultTypes.toList ((Value.bool true).resultList fn.resultTypes.size) (s.fn H (ds++[])).results []:=fun b sp hd=>by
  rw [f1,hrt]
  exact trodAll_cons_mk (shut_bool htb _) trodAll_mk0
 have hvv:∀ sp:Nat→Bool,DataW.TrodVars enc P W' sp s.vars (s.fn H (ds++[])).vars []:=fun sp=>by rw [f3,hvars];rfl
 have hold:∀ y∈p,(fun b=>decide (b<W.heap.size)) y.block=true:=fun y hy=>by simpa using hlt y hy
 refine ⟨ds,[],p,[],p,[],hW0,hres _ _ _,hargs _ hold,hvv _,World.keptBut_mono (fun y hy=>⟨hy,?_⟩) (hb.frame (·∈p)),fun _=>?_⟩
 ·simpa using hy
 ·refine ⟨ok_one hrt rfl (okWide_bool_mk htb _),_,_,([]++p)++[],⟨[]++p,[],trodAll_append (hargs _ (fun _ _=>rfl)) (hres _ _ _),hvv _,rfl,?_,?_⟩,?_⟩
  ·intro b off hpm
   have hpm:MemPlace.cell b off∈p:=by simpa using hpm
   have hlt':=hlt _ hpm
   rw [hb.frozen (p:=⟨b,off,none⟩) hlt']
   exact hfz b off hpm
  ·intro h;cases h
  ·intro y hy _
   simpa using hy
theorem law_contract {P:Program} (hl:laidOutB P=true) {f:FuncId} {fn:Func} {s:ChangeSpec} {args:List Ty} {m:Tup (args.map .d)→Option Bool} (hspec:SpecOK P f ⟨args,[.bool],m⟩) {ts:List TypeId} (hts:fn.params.toList=ts) (hT:TysP P ts args) {tb:TypeId} (hrt:fn.resultTypes=#[tb]) (htb:P.underlying tb=some .bool)
  (hvars:s.vars=[]) (hfn:∀ (H:Type) (ds:List (DataW H)),ds.length=args.length→(s.fn H ds).results=[.lit (.bool true)]∧(s.fn H ds).args=ds∧(s.fn H ds).vars=[])
  (hm:∀ (S:Cells) (w:World) (η:Eta) (vs:List Value) x,All2 (RM S w η) (rvs args x) vs→m x=some true)
  {H:Type} {enc:TypeId×Value→H} {W:World} {base:Nat} {av:Array Value} {ds gs:List (DataW H)} {before:List MemPlace} (hglob:GlobOK (InWd W) W)
  (hval:∀ (j:Nat) t v,fn.params[j]? = some t→av[j]? = some v→Value.okWide P W .any base t v) (hW:DataW.Whole enc P fn.params.toList s.vars false W av.toList ds gs before) :
  Calls P f av W fun e W'=>∃ v,e=.returned v∧s.post enc P fn false true false false W av v W' :=
 (law_contract' hl hspec hts hT hrt htb hvars hfn hm hglob hval hW).mono fun e W' ⟨v,h1,h2,_⟩=>⟨v,h1,h2⟩
theorem ints_of_trod {P:Program} {H:Type} {enc:TypeId×Value→H} {W:World} {base:Nat} {spare:Nat→Bool} {held:Bool} {fuel:Nat} {t e:TypeId} {n:Nat} {cs:List Value} {k0:IntKind} {xs:List Int} {p:List MemPlace} (ht:P.underlying t=some (.array n e)) (he:P.underlying e=some (.int k0)) (hc:P.cellsOf e=1)
  (h:DataW.trod enc P W base spare held fuel t cs=some (.agg (xs.map fun n=>.lit (.int k0 n)),p)) (i:Nat) (x:Int) (hx:xs[i]? = some x):cs[i]? = some (.int k0 x)∧k0.has x:=by
 cases fuel with
 | zero=>simp [DataW.trod] at h
 | succ fuel =>
  obtain ⟨ys,m,hm,h1,h2,h3,h4⟩:=DataW.trod_array ht h
  cases hm
  simp only [Prod.mk.injEq,DataW.agg.injEq] at h1
  have hl:ys.length=xs.length:=by
   have:=congrArg List.length h1.1
   simpa using this.symm
  have hi:i<xs.length:=(List.getElem?_eq_some_iff.1 hx).1
  have h5:=h4 i (by omega)
  obtain ⟨z,hz⟩:∃ z,ys[i]? = some z:=⟨_,List.getElem?_eq_getElem (by omega)⟩
  have h6:(ys.map (·.1))[i]? = some (.lit (.int k0 x)):=by
   rw [← h1.1,List.getElem?_map,hx];rfl
  rw [List.getElem?_map,hz] at h6
  have h6:z.1=.lit (.int k0 x):=Option.some.inj h6
  rw [hc] at h5
  rw [hz,Nat.mul_one] at h5
  cases fuel with
  | zero=>simp [DataW.trod] at h5
  | succ fuel =>
   obtain ⟨k,e1,e2,e3⟩:=DataW.trod_int he h5
   rw [e2] at h6
   have hk:k=x:=by simpa using h6
   subst hk
   refine ⟨?_,(by simp [Lit.wf] at e3;exact e3)⟩
   have:((cs.drop i).take 1)[0]? = some (.int k0 k):=by rw [e1];rfl
   simpa using this
theorem ints_len {P:Program} {H:Type} {enc:TypeId×Value→H} {W:World} {base:Nat} {spare:Nat→Bool} {held:Bool} {fuel:Nat} {t e:TypeId} {n:Nat} {cs:List Value} {x:DataW H×List MemPlace} (ht:P.underlying t=some (.array n e)) (hc:P.cellsOf t=n)
  (h:DataW.trod enc P W base spare held fuel t cs=some x):cs.length=n:=by
 cases fuel with
 | zero=>simp [DataW.trod] at h
 | succ fuel =>
  obtain ⟨ys,m,hm,h1,h2,h3,h4⟩:=DataW.trod_array ht h
  rw [h2,hc]
end Go.PE
namespace Go.Proofs.YtdaaoecjdhipjaaGreatDoor
open Go Go.Abs Go.PE Go.RowKit Go.ChangeShapes Go.WideShapes Go.ChangeAt Go.Proofs
set_option maxRecDepth 100000
theorem tyP3:TyP Tryz.prog 3 (.int .i64):=.int Tryz.underlying3
theorem tyP22:TyP Tryz.prog 22 (.pair (.int .i64) (.pair (.int .i64) (.pair (.int .i64) (.int .i64)))):=.array Tryz.underlying22 (by kernel_rfl) (show FsP Tryz.prog [(0,3),(1,3),(2,3),(3,3)] 0 (.pair (.int .i64) (.pair (.int .i64) (.pair (.int .i64) (.int .i64)))) from .cons (by kernel_rfl) tyP3 (.cons (by kernel_rfl) tyP3 (.cons (by kernel_rfl) tyP3 (.last (by kernel_rfl) tyP3))))
theorem tyP75:TyP Tryz.prog 75 (.pair (.int .i64) (.int .i64)):=.array Tryz.underlying75 (by kernel_rfl) (show FsP Tryz.prog [(0,3),(1,3)] 0 (.pair (.int .i64) (.int .i64)) from .cons (by kernel_rfl) tyP3 (.last (by kernel_rfl) tyP3))
theorem tyP23:TyP Tryz.prog 23 (.list (.pair (.int .i64) (.int .i64))):=.list Tryz.underlying23 (by kernel_rfl) tyP75
theorem tyP24:TyP Tryz.prog 24 (.pair (.int .i64) (.pair (.int .i64) (.int .i64))):=.array Tryz.underlying24 (by kernel_rfl) (show FsP Tryz.prog [(0,3),(1,3),(2,3)] 0 (.pair (.int .i64) (.pair (.int .i64) (.int .i64))) from .cons (by kernel_rfl) tyP3 (.cons (by kernel_rfl) tyP3 (.last (by kernel_rfl) tyP3)))
theorem tyP25:TyP Tryz.prog 25 (.list (.int .i64)):=.list Tryz.underlying25 (by kernel_rfl) tyP3
theorem tyP27:TyP Tryz.prog 27 (.pair (.int .i64) (.pair (.int .i64) (.pair (.list (.int .i64)) (.list (.int .i64))))):=.struct Tryz.underlying27 (by kernel_rfl) (show FsP Tryz.prog [(0,3),(1,3),(2,25),(3,25)] 0 (.pair (.int .i64) (.pair (.int .i64) (.pair (.list (.int .i64)) (.list (.int .i64))))) from .cons (by kernel_rfl) tyP3 (.cons (by kernel_rfl) tyP3 (.cons (by kernel_rfl) tyP25 (.last (by kernel_rfl) tyP25))))
theorem tyP61:TyP Tryz.prog 61 (.pair (.int .i64) (.int .i64)):=.struct Tryz.underlying61 (by kernel_rfl) (show FsP Tryz.prog [(0,3),(1,3)] 0 (.pair (.int .i64) (.int .i64)) from .cons (by kernel_rfl) tyP3 (.last (by kernel_rfl) tyP3))
theorem tyP49:TyP Tryz.prog 49 (.list (.pair (.int .i64) (.int .i64))):=.list Tryz.underlying49 (by kernel_rfl) tyP61
theorem tys3:TysP Tryz.prog [22,23,23,24,27,3,3,3,3] [(.pair (.int .i64) (.pair (.int .i64) (.pair (.int .i64) (.int .i64)))),(.list (.pair (.int .i64) (.int .i64))),(.list (.pair (.int .i64) (.int .i64))),(.pair (.int .i64) (.pair (.int .i64) (.int .i64))),(.pair (.int .i64) (.pair (.int .i64) (.pair (.list (.int .i64)) (.list (.int .i64))))),(.int .i64),(.int .i64),(.int .i64),(.int .i64)]:=.cons (by kernel_rfl) (of_decide_eq_true (by kernel_rfl)) tyP22 (.cons (by kernel_rfl) (of_decide_eq_true (by kernel_rfl)) tyP23 (.cons (by kernel_rfl) (of_decide_eq_true (by kernel_rfl)) tyP23 (.cons (by kernel_rfl) (of_decide_eq_true (by kernel_rfl)) tyP24 (.cons (by kernel_rfl) (of_decide_eq_true (by kernel_rfl)) tyP27 (.cons (by kernel_rfl) (of_decide_eq_true (by kernel_rfl)) tyP3 (.cons (by kernel_rfl) (of_decide_eq_true (by kernel_rfl)) tyP3 (.cons (by kernel_rfl) (of_decide_eq_true (by kernel_rfl)) tyP3 (.cons (by kernel_rfl) (of_decide_eq_true (by kernel_rfl)) tyP3 (.nil)))))))))
theorem tys4:TysP Tryz.prog [22,23,24,27,23,49,3] [(.pair (.int .i64) (.pair (.int .i64) (.pair (.int .i64) (.int .i64)))),(.list (.pair (.int .i64) (.int .i64))),(.pair (.int .i64) (.pair (.int .i64) (.int .i64))),(.pair (.int .i64) (.pair (.int .i64) (.pair (.list (.int .i64)) (.list (.int .i64))))),(.list (.pair (.int .i64) (.int .i64))),(.list (.pair (.int .i64) (.int .i64))),(.int .i64)]:=.cons (by kernel_rfl) (of_decide_eq_true (by kernel_rfl)) tyP22 (.cons (by kernel_rfl) (of_decide_eq_true (by kernel_rfl)) tyP23 (.cons (by kernel_rfl) (of_decide_eq_true (by kernel_rfl)) tyP24 (.cons (by kernel_rfl) (of_decide_eq_true (by kernel_rfl)) tyP27 (.cons (by kernel_rfl) (of_decide_eq_true (by kernel_rfl)) tyP23 (.cons (by kernel_rfl) (of_decide_eq_true (by kernel_rfl)) tyP49 (.cons (by kernel_rfl) (of_decide_eq_true (by kernel_rfl)) tyP3 (.nil)))))))
theorem tys5:TysP Tryz.prog [22,23,23,25,25,3] [(.pair (.int .i64) (.pair (.int .i64) (.pair (.int .i64) (.int .i64)))),(.list (.pair (.int .i64) (.int .i64))),(.list (.pair (.int .i64) (.int .i64))),(.list (.int .i64)),(.list (.int .i64)),(.int .i64)]:=.cons (by kernel_rfl) (of_decide_eq_true (by kernel_rfl)) tyP22 (.cons (by kernel_rfl) (of_decide_eq_true (by kernel_rfl)) tyP23 (.cons (by kernel_rfl) (of_decide_eq_true (by kernel_rfl)) tyP23 (.cons (by kernel_rfl) (of_decide_eq_true (by kernel_rfl)) tyP25 (.cons (by kernel_rfl) (of_decide_eq_true (by kernel_rfl)) tyP25 (.cons (by kernel_rfl) (of_decide_eq_true (by kernel_rfl)) tyP3 (.nil))))))
theorem tys6:TysP Tryz.prog [22,23,23,3,3,3,3] [(.pair (.int .i64) (.pair (.int .i64) (.pair (.int .i64) (.int .i64)))),(.list (.pair (.int .i64) (.int .i64))),(.list (.pair (.int .i64) (.int .i64))),(.int .i64),(.int .i64),(.int .i64),(.int .i64)]:=.cons (by kernel_rfl) (of_decide_eq_true (by kernel_rfl)) tyP22 (.cons (by kernel_rfl) (of_decide_eq_true (by kernel_rfl)) tyP23 (.cons (by kernel_rfl) (of_decide_eq_true (by kernel_rfl)) tyP23 (.cons (by kernel_rfl) (of_decide_eq_true (by kernel_rfl)) tyP3 (.cons (by kernel_rfl) (of_decide_eq_true (by kernel_rfl)) tyP3 (.cons (by kernel_rfl) (of_decide_eq_true (by kernel_rfl)) tyP3 (.cons (by kernel_rfl) (of_decide_eq_true (by kernel_rfl)) tyP3 (.nil)))))))
theorem tys7:TysP Tryz.prog [22,23,23,23,3,3,3,3] [(.pair (.int .i64) (.pair (.int .i64) (.pair (.int .i64) (.int .i64)))),(.list (.pair (.int .i64) (.int .i64))),(.list (.pair (.int .i64) (.int .i64))),(.list (.pair (.int .i64) (.int .i64))),(.int .i64),(.int .i64),(.int .i64),(.int .i64)]:=.cons (by kernel_rfl) (of_decide_eq_true (by kernel_rfl)) tyP22 (.cons (by kernel_rfl) (of_decide_eq_true (by kernel_rfl)) tyP23 (.cons (by kernel_rfl) (of_decide_eq_true (by kernel_rfl)) tyP23 (.cons (by kernel_rfl) (of_decide_eq_true (by kernel_rfl)) tyP23 (.cons (by kernel_rfl) (of_decide_eq_true (by kernel_rfl)) tyP3 (.cons (by kernel_rfl) (of_decide_eq_true (by kernel_rfl)) tyP3 (.cons (by kernel_rfl) (of_decide_eq_true (by kernel_rfl)) tyP3 (.cons (by kernel_rfl) (of_decide_eq_true (by kernel_rfl)) tyP3 (.nil))))))))
theorem tys8:TysP Tryz.prog [22,23,25,23,3,3,3,3] [(.pair (.int .i64) (.pair (.int .i64) (.pair (.int .i64) (.int .i64)))),(.list (.pair (.int .i64) (.int .i64))),(.list (.int .i64)),(.list (.pair (.int .i64) (.int .i64))),(.int .i64),(.int .i64),(.int .i64),(.int .i64)]:=.cons (by kernel_rfl) (of_decide_eq_true (by kernel_rfl)) tyP22 (.cons (by kernel_rfl) (of_decide_eq_true (by kernel_rfl)) tyP23 (.cons (by kernel_rfl) (of_decide_eq_true (by kernel_rfl)) tyP25 (.cons (by kernel_rfl) (of_decide_eq_true (by kernel_rfl)) tyP23 (.cons (by kernel_rfl) (of_decide_eq_true (by kernel_rfl)) tyP3 (.cons (by kernel_rfl) (of_decide_eq_true (by kernel_rfl)) tyP3 (.cons (by kernel_rfl) (of_decide_eq_true (by kernel_rfl)) tyP3 (.cons (by kernel_rfl) (of_decide_eq_true (by kernel_rfl)) tyP3 (.nil))))))))
theorem tys9:TysP Tryz.prog [22,23,3,3] [(.pair (.int .i64) (.pair (.int .i64) (.pair (.int .i64) (.int .i64)))),(.list (.pair (.int .i64) (.int .i64))),(.int .i64),(.int .i64)]:=.cons (by kernel_rfl) (of_decide_eq_true (by kernel_rfl)) tyP22 (.cons (by kernel_rfl) (of_decide_eq_true (by kernel_rfl)) tyP23 (.cons (by kernel_rfl) (of_decide_eq_true (by kernel_rfl)) tyP3 (.cons (by kernel_rfl) (of_decide_eq_true (by kernel_rfl)) tyP3 (.nil))))
theorem tys10:TysP Tryz.prog [22,23,23,3,3] [(.pair (.int .i64) (.pair (.int .i64) (.pair (.int .i64) (.int .i64)))),(.list (.pair (.int .i64) (.int .i64))),(.list (.pair (.int .i64) (.int .i64))),(.int .i64),(.int .i64)]:=.cons (by kernel_rfl) (of_decide_eq_true (by kernel_rfl)) tyP22 (.cons (by kernel_rfl) (of_decide_eq_true (by kernel_rfl)) tyP23 (.cons (by kernel_rfl) (of_decide_eq_true (by kernel_rfl)) tyP23 (.cons (by kernel_rfl) (of_decide_eq_true (by kernel_rfl)) tyP3 (.cons (by kernel_rfl) (of_decide_eq_true (by kernel_rfl)) tyP3 (.nil)))))
theorem tys11:TysP Tryz.prog [22,23,23,3,3,3] [(.pair (.int .i64) (.pair (.int .i64) (.pair (.int .i64) (.int .i64)))),(.list (.pair (.int .i64) (.int .i64))),(.list (.pair (.int .i64) (.int .i64))),(.int .i64),(.int .i64),(.int .i64)]:=.cons (by kernel_rfl) (of_decide_eq_true (by kernel_rfl)) tyP22 (.cons (by kernel_rfl) (of_decide_eq_true (by kernel_rfl)) tyP23 (.cons (by kernel_rfl) (of_decide_eq_true (by kernel_rfl)) tyP23 (.cons (by kernel_rfl) (of_decide_eq_true (by kernel_rfl)) tyP3 (.cons (by kernel_rfl) (of_decide_eq_true (by kernel_rfl)) tyP3 (.cons (by kernel_rfl) (of_decide_eq_true (by kernel_rfl)) tyP3 (.nil))))))
theorem laidOut:laidOutB Tryz.prog=true:=by kernel_rfl
theorem own:ownKnob Tryz.prog.godebug=none:=by kernel_rfl
end Go.Proofs.YtdaaoecjdhipjaaGreatDoor
namespace Go.Proofs.YtdaaoecjdhipjaaGreatDoor
open Go Go.Abs Go.PE Go.RowKit Go.ChangeShapes Go.WideShapes Go.ChangeAt Go.WideMaps Go.WideElems Go.Proofs
set_option maxRecDepth 100000
theorem gName:Tryz.prog.globalNamed "internal/strconv.uint64pow10"=some 0:=by kernel_rfl
theorem gTy:(Tryz.prog.globals[0]?).map (·.type)=some 264:=by kernel_rfl
theorem globs_ok {W:World} (h:laidMetH Tryz.prog Rows.fieldMatchesReferenceRow.laid W):GlobOK (InWd W) W:=by
 rw [MakeChecks.laidMetH_plain _ _ _ (by kernel_rfl)] at h
 obtain ⟨ps,h,_,_⟩:=h
 obtain ⟨_,_,_,_,_,_,_,_,_,_,h,_⟩:=h
 obtain ⟨_,_,_,_,_,_,_,_,_,_,h,_⟩:=h
 obtain ⟨g0,t0,cs0,f0,p0,q0,hg0,ht0,hv0,hd0,_,_⟩:=h
 obtain rfl:=Option.some.inj (gName.symm.trans hg0)
 obtain rfl:=Option.some.inj (gTy.symm.trans ht0)
 have hsz:=ints_len Tryz.underlying264 (by kernel_rfl) hd0
 have key:=ints_of_trod (k0:=.u64) (xs:=([1,10,100,1000,10000,100000,1000000,10000000,100000000,1000000000,10000000000,100000000000,1000000000000,10000000000000,100000000000000,1000000000000000,10000000000000000,100000000000000000,1000000000000000000,10000000000000000000]:List Int)) Tryz.underlying264 Tryz.underlying189 (by kernel_rfl) hd0
 have hcell:∀ i,W.cell? ⟨0,i,none⟩=cs0[i]? := fun i=>World.var?_cell hg0 hv0 i
 intro g G hl
 unfold globTab at hl
 by_cases hg:0=g
 ·subst hg
  rw [lk_same] at hl
  cases hl
  refine ⟨⟨World.block_lt_of_cell? (w:=W) (a:=⟨0,0,none⟩) (u:=.int .u64 1) (by rw [hcell];simpa using (key 0 1 rfl).1),?_⟩,fun i x hx=>?_⟩
  ·rw [hcell]
   exact Array.getElem?_eq_none (by rw [← Array.length_toList,hsz];exact Nat.le_refl _)
  ·have key:=key i x hx
   refine ⟨[.int .u64 x],⟨rfl,key.2⟩,fun j v hj=>?_⟩
   cases j with
   | zero =>
    have hv:Value.int .u64 x=v:=Option.some.inj hj
    subst hv
    have h2:W.cell? ⟨0,i*1+0,none⟩=some (.int .u64 x):=by
     rw [Nat.mul_one,Nat.add_zero,hcell]
     simpa using key.1
    exact ⟨World.block_lt_of_cell? (w:=W) (a:=⟨0,i*1+0,none⟩) h2,h2⟩
   | succ j=>simp at hj
 ·rw [lk_ne _ _ hg] at hl
  cases hl
theorem door_met (os:Os) (args:Array Value):laidMetH Tryz.prog Rows.fieldMatchesReferenceRow.laid ((World.laidAll Tryz.prog os Rows.fieldMatchesReferenceRow.laid).forCall (fun _ _=>0) ⟨#[],args,[]⟩).memory:=by
 rw [MakeChecks.laidMetH_plain _ _ _ (by kernel_rfl)]
 exact laidMet_laidAll _ (by kernel_rfl) (by kernel_rfl)
end Go.Proofs.YtdaaoecjdhipjaaGreatDoor
namespace Go.Proofs.YtdaaoecjdhipjaaGreatDoor
open Go Go.Abs Go.PE
set_option maxRecDepth 100000
section
variable {S:Cells} {w:World} {η:Eta}
theorem zi (k:IntKind):CM S w η (.d (.int k) (0:Int)) (.int k 0):=⟨rfl,VRep.int.2 ⟨rfl,by unfold IntKind.has;cases k<;>decide⟩⟩
theorem zb:CM S w η (.d .bool false) (.bool false):=⟨rfl,VRep.bool.2 rfl⟩
theorem zs:CM S w η (.d .str ([]:List UInt8)) (.string ⟨#[]⟩):=⟨rfl,VRep.str.2 ⟨rfl,Nat.zero_le _⟩⟩
end
abbrev tI:Ty:=.int .i64
abbrev tF:TI:=⟨false,1,[.l .nilF],none,.fn⟩
theorem oF {P:Program} {k:TypeId} {a b c} (h1:∀ w,(isAgg k).run P w=.ok false w) (h2:∀ w,(Go.sizeOf k).run P w=.ok 1 w) (h3:∀ w,(zeroValue k).run P w=.ok .nilFunc w) (h4:∀ w,(underlying k).run P w=.ok (.func a b c) w):TIok P k tF :=
 ⟨h1,h2,⟨_,h3,⟨[Value.nilFunc],rfl,fun S w η=>.cons (rfl) (.nil)⟩,(fun T h=>by cases h)⟩,(fun T h=>by cases h),⟨_,_,_,h4⟩⟩
abbrev ty_api_Field:Ty:=.pair (.int .i64) (.pair (.int .i64) (.pair (.list (.int .i64)) (.list (.int .i64))))
abbrev ty_api_Place:Ty:=.pair (.int .i64) (.int .i64)
abbrev ty_api_Ratio:Ty:=.pair (.str) (.str)
abbrev ty_field_node:Ty:=.pair (.int .i64) (.int .i64)
abbrev ty_field_spot:Ty:=.pair (.int .i64) (.pair (.int .i64) (.int .i64))
abbrev ty_putlogref25_corner:Ty:=.pair (.int .i64) (.pair (.int .i64) (.int .i64))
abbrev ty_putlogref25_point:Ty:=.pair (.int .i64) (.pair (.int .i64) (.int .i64))
abbrev ty_rational_work:Ty:=.one (.bool)
abbrev ty_integer_signed:Ty:=.pair (.bool) (.list (.int .i64))
abbrev ty_putlogref25_line:Ty:=.pair (.int .i64) (.pair (.int .i64) (.int .i64))
abbrev ty_unicode_utf8_acceptRange:Ty:=.pair (.int .u8) (.int .u8)
abbrev ty_errors_errorString:Ty:=.one (.str)
abbrev t2:TI:=⟨false,1,[.d (.int .i64) (0:Int)],some (.int .i64),.int .i64⟩
abbrev t3:TI:=⟨false,1,[.d (.int .i64) (0:Int)],some (.int .i64),.int .i64⟩
abbrev t4:TI:=⟨false,1,[.d .bool false],some (.bool),.bool⟩
abbrev t5:TI:=⟨false,1,[.d (.int .u8) (0:Int)],some (.int .u8),.int .u8⟩
abbrev t7:TI:=⟨true,4,[.d (.int .i64) (0:Int),.d (.int .i64) (0:Int),.d .bool false,.d (.int .u8) (0:Int)],some (.pair (.int .i64) (.pair (.int .i64) (.pair (.bool) (.int .u8)))),.other⟩
abbrev t9:TI:=⟨false,1,[.d .str ([]:List UInt8)],some (.str),.str⟩
abbrev t12:TI:=⟨false,1,[.d (.int .u64) (0:Int)],some (.int .u64),.int .u64⟩
abbrev t13:TI:=⟨true,2,[.d .str ([]:List UInt8),.d (.int .u64) (0:Int)],some (.pair (.str) (.int .u64)),.struct [(0,9,1),(1,12,1)]⟩
abbrev t15:TI:=⟨false,1,[.l .nilP],none,.ptr 286⟩
abbrev t16:TI:=⟨false,1,[.l .nilP],none,.ptr 289⟩
abbrev t17:TI:=⟨false,1,[.l .nilP],none,.ptr 296⟩
abbrev t18:TI:=⟨true,1,[.l .nilP],none,.struct [(0,17,1)]⟩
abbrev t20:TI:=⟨false,1,[.l .nilI],none,.other⟩
abbrev t21:TI:=⟨false,1,[.d (.int .i32) (0:Int)],some (.int .i32),.int .i32⟩
abbrev t22:TI:=⟨true,4,[.d (.int .i64) (0:Int),.d (.int .i64) (0:Int),.d (.int .i64) (0:Int),.d (.int .i64) (0:Int)],some (.pair (.int .i64) (.pair (.int .i64) (.pair (.int .i64) (.int .i64)))),.array 4 3⟩
abbrev t23:TI:=⟨false,1,[.l .nilS],some (.list (.pair (.int .i64) (.int .i64))),.slice 75 16⟩
abbrev t24:TI:=⟨true,3,[.d (.int .i64) (0:Int),.d (.int .i64) (0:Int),.d (.int .i64) (0:Int)],some (.pair (.int .i64) (.pair (.int .i64) (.int .i64))),.array 3 3⟩
abbrev t25:TI:=⟨false,1,[.l .nilS],some (.list (.int .i64)),.slice 3 8⟩
abbrev t26:TI:=⟨true,4,[.d (.int .i64) (0:Int),.d (.int .i64) (0:Int),.l .nilS,.l .nilS],some (.pair (.int .i64) (.pair (.int .i64) (.pair (.list (.int .i64)) (.list (.int .i64))))),.struct [(0,3,1),(1,3,1),(2,25,1),(3,25,1)]⟩
abbrev t27:TI:=⟨true,4,[.d (.int .i64) (0:Int),.d (.int .i64) (0:Int),.l .nilS,.l .nilS],some (ty_api_Field),.struct [(0,3,1),(1,3,1),(2,25,1),(3,25,1)]⟩
abbrev t31:TI:=⟨false,1,[.l .nilS],some (.list (ty_api_Field)),.slice 27 64⟩
abbrev t36:TI:=⟨false,1,[.l .nilS],some (.list (.pair (.int .i64) (.pair (.int .i64) (.int .i64)))),.slice 24 24⟩
abbrev t37:TI:=⟨false,1,[.d (.int .i64) (0:Int)],some (.int .i64),.int .i64⟩
abbrev t49:TI:=⟨false,1,[.l .nilS],some (.list (ty_api_Place)),.slice 61 16⟩
abbrev t51:TI:=⟨false,1,[.l .nilS],some (.list (.list (ty_api_Place))),.slice 49 24⟩
abbrev t52:TI:=⟨true,2,[.d .str ([]:List UInt8),.d .str ([]:List UInt8)],some (.pair (.str) (.str)),.struct [(0,9,1),(1,9,1)]⟩
abbrev t53:TI:=⟨true,2,[.d .str ([]:List UInt8),.d .str ([]:List UInt8)],some (ty_api_Ratio),.struct [(0,9,1),(1,9,1)]⟩
abbrev t60:TI:=⟨true,2,[.d (.int .i64) (0:Int),.d (.int .i64) (0:Int)],some (.pair (.int .i64) (.int .i64)),.struct [(0,3,1),(1,3,1)]⟩
abbrev t61:TI:=⟨true,2,[.d (.int .i64) (0:Int),.d (.int .i64) (0:Int)],some (ty_api_Place),.struct [(0,3,1),(1,3,1)]⟩
abbrev t75:TI:=⟨true,2,[.d (.int .i64) (0:Int),.d (.int .i64) (0:Int)],some (.pair (.int .i64) (.int .i64)),.array 2 3⟩
abbrev t84:TI:=⟨true,2,[.d (.int .i64) (0:Int),.d (.int .i64) (0:Int)],some (.pair (.int .i64) (.int .i64)),.struct [(0,3,1),(1,3,1)]⟩
abbrev t85:TI:=⟨true,2,[.d (.int .i64) (0:Int),.d (.int .i64) (0:Int)],some (ty_field_node),.struct [(0,3,1),(1,3,1)]⟩
abbrev t86:TI:=⟨true,6,[.d (.int .i64) (0:Int),.d (.int .i64) (0:Int),.d (.int .i64) (0:Int),.d (.int .i64) (0:Int),.d (.int .i64) (0:Int),.d (.int .i64) (0:Int)],some (.pair (ty_field_node) (.pair (ty_field_node) (ty_field_node))),.array 3 85⟩
abbrev t98:TI:=⟨false,1,[.l .nilS],some (.list (ty_field_spot)),.slice 100 24⟩
abbrev t99:TI:=⟨true,3,[.d (.int .i64) (0:Int),.d (.int .i64) (0:Int),.d (.int .i64) (0:Int)],some (.pair (.int .i64) (.pair (.int .i64) (.int .i64))),.struct [(0,3,1),(1,3,1),(2,3,1)]⟩
abbrev t100:TI:=⟨true,3,[.d (.int .i64) (0:Int),.d (.int .i64) (0:Int),.d (.int .i64) (0:Int)],some (ty_field_spot),.struct [(0,3,1),(1,3,1),(2,3,1)]⟩
abbrev t126:TI:=⟨false,1,[.l .nilS],some (.list (.pair (ty_putlogref25_corner) (.pair (ty_putlogref25_corner) (ty_putlogref25_corner)))),.slice 130 72⟩
abbrev t128:TI:=⟨true,3,[.d (.int .i64) (0:Int),.d (.int .i64) (0:Int),.d (.int .i64) (0:Int)],some (.pair (.int .i64) (.pair (.int .i64) (.int .i64))),.struct [(0,3,1),(1,3,1),(2,3,1)]⟩
abbrev t129:TI:=⟨true,3,[.d (.int .i64) (0:Int),.d (.int .i64) (0:Int),.d (.int .i64) (0:Int)],some (ty_putlogref25_corner),.struct [(0,3,1),(1,3,1),(2,3,1)]⟩
abbrev t130:TI:=⟨true,9,[.d (.int .i64) (0:Int),.d (.int .i64) (0:Int),.d (.int .i64) (0:Int),.d (.int .i64) (0:Int),.d (.int .i64) (0:Int),.d (.int .i64) (0:Int),.d (.int .i64) (0:Int),.d (.int .i64) (0:Int),.d (.int .i64) (0:Int)],some (.pair (ty_putlogref25_corner) (.pair (ty_putlogref25_corner) (ty_putlogref25_corner))),.array 3 129⟩
abbrev t139:TI:=⟨false,1,[.l .nilS],some (.list (ty_putlogref25_point)),.slice 142 24⟩
abbrev t141:TI:=⟨true,3,[.d (.int .i64) (0:Int),.d (.int .i64) (0:Int),.d (.int .i64) (0:Int)],some (.pair (.int .i64) (.pair (.int .i64) (.int .i64))),.struct [(0,3,1),(1,3,1),(2,3,1)]⟩
abbrev t142:TI:=⟨true,3,[.d (.int .i64) (0:Int),.d (.int .i64) (0:Int),.d (.int .i64) (0:Int)],some (ty_putlogref25_point),.struct [(0,3,1),(1,3,1),(2,3,1)]⟩
abbrev t147:TI:=⟨false,1,[.d (.int .u64) (0:Int)],some (.int .u64),.int .u64⟩
abbrev t148:TI:=⟨false,1,[.l .nilP],none,.ptr 150⟩
abbrev t149:TI:=⟨true,1,[.d .bool false],some (.one (.bool)),.struct [(0,4,1)]⟩
abbrev t150:TI:=⟨true,1,[.d .bool false],some (ty_rational_work),.struct [(0,4,1)]⟩
abbrev t155:TI:=⟨false,1,[.l .nilS],some (.list (.int .i64)),.slice 3 8⟩
abbrev t156:TI:=⟨true,2,[.d .bool false,.l .nilS],some (.pair (.bool) (.list (.int .i64))),.struct [(0,4,1),(1,155,1)]⟩
abbrev t157:TI:=⟨true,2,[.d .bool false,.l .nilS],some (ty_integer_signed),.struct [(0,4,1),(1,155,1)]⟩
abbrev t171:TI:=⟨false,1,[.l .nilS],some (.list (ty_putlogref25_line)),.slice 173 24⟩
abbrev t172:TI:=⟨true,3,[.d (.int .i64) (0:Int),.d (.int .i64) (0:Int),.d (.int .i64) (0:Int)],some (.pair (.int .i64) (.pair (.int .i64) (.int .i64))),.struct [(0,3,1),(1,3,1),(2,3,1)]⟩
abbrev t173:TI:=⟨true,3,[.d (.int .i64) (0:Int),.d (.int .i64) (0:Int),.d (.int .i64) (0:Int)],some (ty_putlogref25_line),.struct [(0,3,1),(1,3,1),(2,3,1)]⟩
abbrev t178:TI:=⟨false,1,[.d (.int .i64) (0:Int)],some (.int .i64),.int .i64⟩
abbrev t187:TI:=⟨false,1,[.d (.int .u32) (0:Int)],some (.int .u32),.int .u32⟩
abbrev t189:TI:=⟨false,1,[.d (.int .u64) (0:Int)],some (.int .u64),.int .u64⟩
abbrev t190:TI:=⟨false,1,[.l .nilS],some (.list (ty_api_Ratio)),.slice 53 32⟩
abbrev t200:TI:=⟨false,1,[.l .nilP],none,.ptr 203⟩
abbrev t201:TI:=⟨false,1,[.l .nilS],some (.list (.int .u8)),.slice 5 1⟩
abbrev t202:TI:=⟨true,2,[.l .nilP,.l .nilS],none,.struct [(0,200,1),(1,201,1)]⟩
abbrev t205:TI:=⟨false,1,[.l .nilI],none,.other⟩
abbrev t206:TI:=⟨false,1,[.l .nilI],none,.other⟩
abbrev t217:TI:=⟨false,1,[.d (.int .u64) (0:Int)],some (.int .u64),.int .u64⟩
abbrev t221:TI:=⟨false,1,[.l .nilP],none,.ptr 3⟩
abbrev t228:TI:=⟨false,1,[.l .nilP],none,.ptr 5⟩
abbrev t232:TI:=⟨false,1,[.l .nilP],none,.ptr 217⟩
abbrev t240:TI:=⟨false,1,[.l .nilP],none,.ptr 236⟩
abbrev t248:TI:=⟨true,24,[.d (.int .u8) (0:Int),.d (.int .u8) (0:Int),.d (.int .u8) (0:Int),.d (.int .u8) (0:Int),.d (.int .u8) (0:Int),.d (.int .u8) (0:Int),.d (.int .u8) (0:Int),.d (.int .u8) (0:Int),.d (.int .u8) (0:Int),.d (.int .u8) (0:Int),.d (.int .u8) (0:Int),.d (.int .u8) (0:Int),.d (.int .u8) (0:Int),.d (.int .u8) (0:Int),.d (.int .u8) (0:Int),.d (.int .u8) (0:Int),.d (.int .u8) (0:Int),.d (.int .u8) (0:Int),.d (.int .u8) (0:Int),.d (.int .u8) (0:Int),.d (.int .u8) (0:Int),.d (.int .u8) (0:Int),.d (.int .u8) (0:Int),.d (.int .u8) (0:Int)],none,.array 24 5⟩
abbrev t259:TI:=⟨false,1,[.l .nilP],none,.ptr 271⟩
abbrev t264:TI:=⟨true,20,[.d (.int .u64) (0:Int),.d (.int .u64) (0:Int),.d (.int .u64) (0:Int),.d (.int .u64) (0:Int),.d (.int .u64) (0:Int),.d (.int .u64) (0:Int),.d (.int .u64) (0:Int),.d (.int .u64) (0:Int),.d (.int .u64) (0:Int),.d (.int .u64) (0:Int),.d (.int .u64) (0:Int),.d (.int .u64) (0:Int),.d (.int .u64) (0:Int),.d (.int .u64) (0:Int),.d (.int .u64) (0:Int),.d (.int .u64) (0:Int),.d (.int .u64) (0:Int),.d (.int .u64) (0:Int),.d (.int .u64) (0:Int),.d (.int .u64) (0:Int)],none,.array 20 189⟩
abbrev t265:TI:=⟨true,65,[.d (.int .u8) (0:Int),.d (.int .u8) (0:Int),.d (.int .u8) (0:Int),.d (.int .u8) (0:Int),.d (.int .u8) (0:Int),.d (.int .u8) (0:Int),.d (.int .u8) (0:Int),.d (.int .u8) (0:Int),.d (.int .u8) (0:Int),.d (.int .u8) (0:Int),.d (.int .u8) (0:Int),.d (.int .u8) (0:Int),.d (.int .u8) (0:Int),.d (.int .u8) (0:Int),.d (.int .u8) (0:Int),.d (.int .u8) (0:Int),.d (.int .u8) (0:Int),.d (.int .u8) (0:Int),.d (.int .u8) (0:Int),.d (.int .u8) (0:Int),.d (.int .u8) (0:Int),.d (.int .u8) (0:Int),.d (.int .u8) (0:Int),.d (.int .u8) (0:Int),.d (.int .u8) (0:Int),.d (.int .u8) (0:Int),.d (.int .u8) (0:Int),.d (.int .u8) (0:Int),.d (.int .u8) (0:Int),.d (.int .u8) (0:Int),.d (.int .u8) (0:Int),.d (.int .u8) (0:Int),.d (.int .u8) (0:Int),.d (.int .u8) (0:Int),.d (.int .u8) (0:Int),.d (.int .u8) (0:Int),.d (.int .u8) (0:Int),.d (.int .u8) (0:Int),.d (.int .u8) (0:Int),.d (.int .u8) (0:Int),.d (.int .u8) (0:Int),.d (.int .u8) (0:Int),.d (.int .u8) (0:Int),.d (.int .u8) (0:Int),.d (.int .u8) (0:Int),.d (.int .u8) (0:Int),.d (.int .u8) (0:Int),.d (.int .u8) (0:Int),.d (.int .u8) (0:Int),.d (.int .u8) (0:Int),.d (.int .u8) (0:Int),.d (.int .u8) (0:Int),.d (.int .u8) (0:Int),.d (.int .u8) (0:Int),.d (.int .u8) (0:Int),.d (.int .u8) (0:Int),.d (.int .u8) (0:Int),.d (.int .u8) (0:Int),.d (.int .u8) (0:Int),.d (.int .u8) (0:Int),.d (.int .u8) (0:Int),.d (.int .u8) (0:Int),.d (.int .u8) (0:Int),.d (.int .u8) (0:Int),.d (.int .u8) (0:Int)],none,.array 65 5⟩
abbrev t270:TI:=⟨true,3,[.d .str ([]:List UInt8),.d .str ([]:List UInt8),.l .nilI],none,.struct [(0,9,1),(1,9,1),(2,206,1)]⟩
abbrev t271:TI:=⟨true,3,[.d .str ([]:List UInt8),.d .str ([]:List UInt8),.l .nilI],none,.struct [(0,9,1),(1,9,1),(2,206,1)]⟩
abbrev t274:TI:=⟨true,2,[.d (.int .u8) (0:Int),.d (.int .u8) (0:Int)],some (.pair (.int .u8) (.int .u8)),.struct [(0,5,1),(1,5,1)]⟩
abbrev t275:TI:=⟨true,2,[.d (.int .u8) (0:Int),.d (.int .u8) (0:Int)],some (ty_unicode_utf8_acceptRange),.struct [(0,5,1),(1,5,1)]⟩
abbrev t276:TI:=⟨true,32,[.d (.int .u8) (0:Int),.d (.int .u8) (0:Int),.d (.int .u8) (0:Int),.d (.int .u8) (0:Int),.d (.int .u8) (0:Int),.d (.int .u8) (0:Int),.d (.int .u8) (0:Int),.d (.int .u8) (0:Int),.d (.int .u8) (0:Int),.d (.int .u8) (0:Int),.d (.int .u8) (0:Int),.d (.int .u8) (0:Int),.d (.int .u8) (0:Int),.d (.int .u8) (0:Int),.d (.int .u8) (0:Int),.d (.int .u8) (0:Int),.d (.int .u8) (0:Int),.d (.int .u8) (0:Int),.d (.int .u8) (0:Int),.d (.int .u8) (0:Int),.d (.int .u8) (0:Int),.d (.int .u8) (0:Int),.d (.int .u8) (0:Int),.d (.int .u8) (0:Int),.d (.int .u8) (0:Int),.d (.int .u8) (0:Int),.d (.int .u8) (0:Int),.d (.int .u8) (0:Int),.d (.int .u8) (0:Int),.d (.int .u8) (0:Int),.d (.int .u8) (0:Int),.d (.int .u8) (0:Int)],none,.array 16 275⟩
abbrev t280:TI:=⟨false,1,[.l .nilP],none,.ptr 282⟩
abbrev t281:TI:=⟨true,1,[.d .str ([]:List UInt8)],some (.one (.str)),.struct [(0,9,1)]⟩
abbrev t282:TI:=⟨true,1,[.d .str ([]:List UInt8)],some (ty_errors_errorString),.struct [(0,9,1)]⟩
abbrev t283:TI:=⟨true,32,[.d (.int .u8) (0:Int),.d (.int .u8) (0:Int),.d (.int .u8) (0:Int),.d (.int .u8) (0:Int),.d (.int .u8) (0:Int),.d (.int .u8) (0:Int),.d (.int .u8) (0:Int),.d (.int .u8) (0:Int),.d (.int .u8) (0:Int),.d (.int .u8) (0:Int),.d (.int .u8) (0:Int),.d (.int .u8) (0:Int),.d (.int .u8) (0:Int),.d (.int .u8) (0:Int),.d (.int .u8) (0:Int),.d (.int .u8) (0:Int),.d (.int .u8) (0:Int),.d (.int .u8) (0:Int),.d (.int .u8) (0:Int),.d (.int .u8) (0:Int),.d (.int .u8) (0:Int),.d (.int .u8) (0:Int),.d (.int .u8) (0:Int),.d (.int .u8) (0:Int),.d (.int .u8) (0:Int),.d (.int .u8) (0:Int),.d (.int .u8) (0:Int),.d (.int .u8) (0:Int),.d (.int .u8) (0:Int),.d (.int .u8) (0:Int),.d (.int .u8) (0:Int),.d (.int .u8) (0:Int)],none,.array 32 5⟩
abbrev t284:TI:=⟨true,64,[.d (.int .u8) (0:Int),.d (.int .u8) (0:Int),.d (.int .u8) (0:Int),.d (.int .u8) (0:Int),.d (.int .u8) (0:Int),.d (.int .u8) (0:Int),.d (.int .u8) (0:Int),.d (.int .u8) (0:Int),.d (.int .u8) (0:Int),.d (.int .u8) (0:Int),.d (.int .u8) (0:Int),.d (.int .u8) (0:Int),.d (.int .u8) (0:Int),.d (.int .u8) (0:Int),.d (.int .u8) (0:Int),.d (.int .u8) (0:Int),.d (.int .u8) (0:Int),.d (.int .u8) (0:Int),.d (.int .u8) (0:Int),.d (.int .u8) (0:Int),.d (.int .u8) (0:Int),.d (.int .u8) (0:Int),.d (.int .u8) (0:Int),.d (.int .u8) (0:Int),.d (.int .u8) (0:Int),.d (.int .u8) (0:Int),.d (.int .u8) (0:Int),.d (.int .u8) (0:Int),.d (.int .u8) (0:Int),.d (.int .u8) (0:Int),.d (.int .u8) (0:Int),.d (.int .u8) (0:Int),.d (.int .u8) (0:Int),.d (.int .u8) (0:Int),.d (.int .u8) (0:Int),.d (.int .u8) (0:Int),.d (.int .u8) (0:Int),.d (.int .u8) (0:Int),.d (.int .u8) (0:Int),.d (.int .u8) (0:Int),.d (.int .u8) (0:Int),.d (.int .u8) (0:Int),.d (.int .u8) (0:Int),.d (.int .u8) (0:Int),.d (.int .u8) (0:Int),.d (.int .u8) (0:Int),.d (.int .u8) (0:Int),.d (.int .u8) (0:Int),.d (.int .u8) (0:Int),.d (.int .u8) (0:Int),.d (.int .u8) (0:Int),.d (.int .u8) (0:Int),.d (.int .u8) (0:Int),.d (.int .u8) (0:Int),.d (.int .u8) (0:Int),.d (.int .u8) (0:Int),.d (.int .u8) (0:Int),.d (.int .u8) (0:Int),.d (.int .u8) (0:Int),.d (.int .u8) (0:Int),.d (.int .u8) (0:Int),.d (.int .u8) (0:Int),.d (.int .u8) (0:Int),.d (.int .u8) (0:Int)],none,.array 64 5⟩
abbrev t285:TI:=⟨true,4,[.l .nilP,.l .nilP,.l .nilP,.d .str ([]:List UInt8)],none,.struct [(0,17,1),(1,17,1),(2,17,1),(3,9,1)]⟩
abbrev t288:TI:=⟨true,0,[],none,.other⟩
abbrev t295:TI:=⟨true,11,[.d (.int .u64) (0:Int),.d (.int .u64) (0:Int),.d (.int .u32) (0:Int),.d (.int .u8) (0:Int),.d (.int .u8) (0:Int),.d (.int .u8) (0:Int),.d (.int .u8) (0:Int),.l .nilF,.l .nilP,.d (.int .i32) (0:Int),.d (.int .i32) (0:Int)],none,.other⟩
def tyTab:List (TypeId×TI):=[(1,tF),(2,t2),(3,t3),(4,t4),(5,t5),(7,t7),(9,t9),(12,t12),(13,t13),(15,t15),(16,t16),(17,t17),(18,t18),(20,t20),(21,t21),(22,t22),(23,t23),(24,t24),(25,t25),(26,t26),(27,t27),(31,t31),(36,t36),(37,t37),(49,t49),(51,t51),(52,t52),(53,t53),(60,t60),(61,t61),(75,t75),(80,tF),(82,tF),(84,t84),(85,t85),(86,t86),(87,tF),(94,tF),(96,tF),(98,t98),(99,t99),(100,t100),(105,tF),(107,tF),(109,tF),(119,tF),(121,tF),(125,tF),(126,t126),(128,t128),(129,t129),(130,t130),(134,tF),(137,tF),(139,t139),(141,t141),(142,t142),(147,t147),(148,t148),(149,t149),(150,t150),(155,t155),(156,t156),(157,t157),(167,tF),(171,t171),(172,t172),(173,t173),(178,t178),(182,tF),(187,t187),(189,t189),(190,t190),(193,tF),(195,tF),(196,tF),(199,tF),(200,t200),(201,t201),(202,t202),(205,t205),(206,t206),(217,t217),(221,t221),(228,t228),(232,t232),(240,t240),(248,t248),(259,t259),(264,t264),(265,t265),(270,t270),(271,t271),(274,t274),(275,t275),(276,t276),(280,t280),(281,t281),(282,t282),(283,t283),(284,t284),(285,t285),(288,t288),(295,t295)]
theorem ti2:TIok Tryz.prog 2 t2 :=
 ⟨Tryz.isAgg2,Tryz.sizeOf2,⟨_,Tryz.zeroValue2,⟨[Value.int IntKind.i64 0],rfl,fun S w η=>.cons (zi _) (.nil)⟩,(fun T h=>by cases h;rfl)⟩,(fun T h=>by cases h;exact ⟨rfl,rfl⟩),Tryz.runUnderlying2⟩
theorem ti3:TIok Tryz.prog 3 t3 :=
 ⟨Tryz.isAgg3,Tryz.sizeOf3,⟨_,Tryz.zeroValue3,⟨[Value.int IntKind.i64 0],rfl,fun S w η=>.cons (zi _) (.nil)⟩,(fun T h=>by cases h;rfl)⟩,(fun T h=>by cases h;exact ⟨rfl,rfl⟩),Tryz.runUnderlying3⟩
theorem ti4:TIok Tryz.prog 4 t4 :=
 ⟨Tryz.isAgg4,Tryz.sizeOf4,⟨_,Tryz.zeroValue4,⟨[Value.bool false],rfl,fun S w η=>.cons (zb) (.nil)⟩,(fun T h=>by cases h;rfl)⟩,(fun T h=>by cases h;exact ⟨rfl,rfl⟩),Tryz.runUnderlying4⟩
theorem ti5:TIok Tryz.prog 5 t5 :=
 ⟨Tryz.isAgg5,Tryz.sizeOf5,⟨_,Tryz.zeroValue5,⟨[Value.int IntKind.u8 0],rfl,fun S w η=>.cons (zi _) (.nil)⟩,(fun T h=>by cases h;rfl)⟩,(fun T h=>by cases h;exact ⟨rfl,rfl⟩),Tryz.runUnderlying5⟩
theorem ti7:TIok Tryz.prog 7 t7 :=
 ⟨Tryz.isAgg7,Tryz.sizeOf7,⟨_,Tryz.zeroValue7,⟨[Value.int IntKind.i64 0,Value.int IntKind.i64 0,Value.bool false,Value.int IntKind.u8 0],rfl,fun S w η=>.cons (zi _) (.cons (zi _) (.cons (zb) (.cons (zi _) (.nil))))⟩,(fun T h=>by cases h;rfl)⟩,(fun T h=>by cases h;exact ⟨rfl,rfl⟩),trivial⟩
theorem ti9:TIok Tryz.prog 9 t9 :=
 ⟨Tryz.isAgg9,Tryz.sizeOf9,⟨_,Tryz.zeroValue9,⟨[Value.string ⟨#[]⟩],rfl,fun S w η=>.cons (zs) (.nil)⟩,(fun T h=>by cases h;rfl)⟩,(fun T h=>by cases h;exact ⟨rfl,rfl⟩),Tryz.runUnderlying9⟩
theorem ti12:TIok Tryz.prog 12 t12 :=
 ⟨Tryz.isAgg12,Tryz.sizeOf12,⟨_,Tryz.zeroValue12,⟨[Value.int IntKind.u64 0],rfl,fun S w η=>.cons (zi _) (.nil)⟩,(fun T h=>by cases h;rfl)⟩,(fun T h=>by cases h;exact ⟨rfl,rfl⟩),Tryz.runUnderlying12⟩
theorem ti13:TIok Tryz.prog 13 t13 :=
 ⟨Tryz.isAgg13,Tryz.sizeOf13,⟨_,Tryz.zeroValue13,⟨[Value.string ⟨#[]⟩,Value.int IntKind.u64 0],rfl,fun S w η=>.cons (zs) (.cons (zi _) (.nil))⟩,(fun T h=>by cases h;rfl)⟩,(fun T h=>by cases h;exact ⟨rfl,rfl⟩),⟨_,Tryz.runUnderlying13,rfl,fun w=>by simp [Tryz.sizeOf12,Tryz.sizeOf9]⟩⟩
theorem ti15:TIok Tryz.prog 15 t15 :=
 ⟨Tryz.isAgg15,Tryz.sizeOf15,⟨_,Tryz.zeroValue15,⟨[Value.pointer none],rfl,fun S w η=>.cons (rfl) (.nil)⟩,(fun T h=>by cases h)⟩,(fun T h=>by cases h),Tryz.runUnderlying15⟩
theorem ti16:TIok Tryz.prog 16 t16 :=
 ⟨Tryz.isAgg16,Tryz.sizeOf16,⟨_,Tryz.zeroValue16,⟨[Value.pointer none],rfl,fun S w η=>.cons (rfl) (.nil)⟩,(fun T h=>by cases h)⟩,(fun T h=>by cases h),Tryz.runUnderlying16⟩
theorem ti17:TIok Tryz.prog 17 t17 :=
 ⟨Tryz.isAgg17,Tryz.sizeOf17,⟨_,Tryz.zeroValue17,⟨[Value.pointer none],rfl,fun S w η=>.cons (rfl) (.nil)⟩,(fun T h=>by cases h)⟩,(fun T h=>by cases h),Tryz.runUnderlying17⟩
theorem ti18:TIok Tryz.prog 18 t18 :=
 ⟨Tryz.isAgg18,Tryz.sizeOf18,⟨_,Tryz.zeroValue18,⟨[Value.pointer none],rfl,fun S w η=>.cons (rfl) (.nil)⟩,(fun T h=>by cases h)⟩,(fun T h=>by cases h),⟨_,Tryz.runUnderlying18,rfl,fun w=>by simp [Tryz.sizeOf17]⟩⟩
theorem ti20:TIok Tryz.prog 20 t20 :=
 ⟨Tryz.isAgg20,Tryz.sizeOf20,⟨_,Tryz.zeroValue20,⟨[Value.nilIface],rfl,fun S w η=>.cons (rfl) (.nil)⟩,(fun T h=>by cases h)⟩,(fun T h=>by cases h),trivial⟩
theorem ti21:TIok Tryz.prog 21 t21 :=
 ⟨Tryz.isAgg21,Tryz.sizeOf21,⟨_,Tryz.zeroValue21,⟨[Value.int IntKind.i32 0],rfl,fun S w η=>.cons (zi _) (.nil)⟩,(fun T h=>by cases h;rfl)⟩,(fun T h=>by cases h;exact ⟨rfl,rfl⟩),Tryz.runUnderlying21⟩
theorem ti22:TIok Tryz.prog 22 t22 :=
 ⟨Tryz.isAgg22,Tryz.sizeOf22,⟨_,Tryz.zeroValue22,⟨[Value.int IntKind.i64 0,Value.int IntKind.i64 0,Value.int IntKind.i64 0,Value.int IntKind.i64 0],rfl,fun S w η=>.cons (zi _) (.cons (zi _) (.cons (zi _) (.cons (zi _) (.nil))))⟩,(fun T h=>by cases h;rfl)⟩,(fun T h=>by cases h;exact ⟨rfl,rfl⟩),Tryz.runUnderlying22⟩
theorem ti23:TIok Tryz.prog 23 t23 :=
 ⟨Tryz.isAgg23,Tryz.sizeOf23,⟨_,Tryz.zeroValue23,⟨[Value.slice none 0 0],rfl,fun S w η=>.cons (rfl) (.nil)⟩,(fun T h=>by cases h;rfl)⟩,(fun T h=>by cases h;exact ⟨rfl,rfl⟩),⟨Tryz.underlying23,by decide,Tryz.t75,_,rfl,rfl,rfl,Tryz.zeroValue75,Tryz.sizeOf75⟩⟩
theorem ti24:TIok Tryz.prog 24 t24 :=
 ⟨Tryz.isAgg24,Tryz.sizeOf24,⟨_,Tryz.zeroValue24,⟨[Value.int IntKind.i64 0,Value.int IntKind.i64 0,Value.int IntKind.i64 0],rfl,fun S w η=>.cons (zi _) (.cons (zi _) (.cons (zi _) (.nil)))⟩,(fun T h=>by cases h;rfl)⟩,(fun T h=>by cases h;exact ⟨rfl,rfl⟩),Tryz.runUnderlying24⟩
theorem ti25:TIok Tryz.prog 25 t25 :=
 ⟨Tryz.isAgg25,Tryz.sizeOf25,⟨_,Tryz.zeroValue25,⟨[Value.slice none 0 0],rfl,fun S w η=>.cons (rfl) (.nil)⟩,(fun T h=>by cases h;rfl)⟩,(fun T h=>by cases h;exact ⟨rfl,rfl⟩),⟨Tryz.underlying25,by decide,Tryz.t3,_,rfl,rfl,rfl,Tryz.zeroValue3,Tryz.sizeOf3⟩⟩
theorem ti26:TIok Tryz.prog 26 t26 :=
 ⟨Tryz.isAgg26,Tryz.sizeOf26,⟨_,Tryz.zeroValue26,⟨[Value.int IntKind.i64 0,Value.int IntKind.i64 0,Value.slice none 0 0,Value.slice none 0 0],rfl,fun S w η=>.cons (zi _) (.cons (zi _) (.cons (rfl) (.cons (rfl) (.nil))))⟩,(fun T h=>by cases h;rfl)⟩,(fun T h=>by cases h;exact ⟨rfl,rfl⟩),⟨_,Tryz.runUnderlying26,rfl,fun w=>by simp [Tryz.sizeOf25,Tryz.sizeOf3]⟩⟩
theorem ti27:TIok Tryz.prog 27 t27 :=
 ⟨Tryz.isAgg27,Tryz.sizeOf27,⟨_,Tryz.zeroValue27,⟨[Value.int IntKind.i64 0,Value.int IntKind.i64 0,Value.slice none 0 0,Value.slice none 0 0],rfl,fun S w η=>.cons (zi _) (.cons (zi _) (.cons (rfl) (.cons (rfl) (.nil))))⟩,(fun T h=>by cases h;rfl)⟩,(fun T h=>by cases h;exact ⟨rfl,rfl⟩),⟨_,Tryz.runUnderlying27,rfl,fun w=>by simp [Tryz.sizeOf25,Tryz.sizeOf3]⟩⟩
theorem ti31:TIok Tryz.prog 31 t31 :=
 ⟨Tryz.isAgg31,Tryz.sizeOf31,⟨_,Tryz.zeroValue31,⟨[Value.slice none 0 0],rfl,fun S w η=>.cons (rfl) (.nil)⟩,(fun T h=>by cases h;rfl)⟩,(fun T h=>by cases h;exact ⟨rfl,rfl⟩),⟨Tryz.underlying31,by decide,Tryz.t27,_,rfl,rfl,rfl,Tryz.zeroValue27,Tryz.sizeOf27⟩⟩
theorem ti36:TIok Tryz.prog 36 t36 :=
 ⟨Tryz.isAgg36,Tryz.sizeOf36,⟨_,Tryz.zeroValue36,⟨[Value.slice none 0 0],rfl,fun S w η=>.cons (rfl) (.nil)⟩,(fun T h=>by cases h;rfl)⟩,(fun T h=>by cases h;exact ⟨rfl,rfl⟩),⟨Tryz.underlying36,by decide,Tryz.t24,_,rfl,rfl,rfl,Tryz.zeroValue24,Tryz.sizeOf24⟩⟩
theorem ti37:TIok Tryz.prog 37 t37 :=
 ⟨Tryz.isAgg37,Tryz.sizeOf37,⟨_,Tryz.zeroValue37,⟨[Value.int IntKind.i64 0],rfl,fun S w η=>.cons (zi _) (.nil)⟩,(fun T h=>by cases h;rfl)⟩,(fun T h=>by cases h;exact ⟨rfl,rfl⟩),Tryz.runUnderlying37⟩
theorem ti49:TIok Tryz.prog 49 t49 :=
 ⟨Tryz.isAgg49,Tryz.sizeOf49,⟨_,Tryz.zeroValue49,⟨[Value.slice none 0 0],rfl,fun S w η=>.cons (rfl) (.nil)⟩,(fun T h=>by cases h;rfl)⟩,(fun T h=>by cases h;exact ⟨rfl,rfl⟩),⟨Tryz.underlying49,by decide,Tryz.t61,_,rfl,rfl,rfl,Tryz.zeroValue61,Tryz.sizeOf61⟩⟩
theorem ti51:TIok Tryz.prog 51 t51 :=
 ⟨Tryz.isAgg51,Tryz.sizeOf51,⟨_,Tryz.zeroValue51,⟨[Value.slice none 0 0],rfl,fun S w η=>.cons (rfl) (.nil)⟩,(fun T h=>by cases h;rfl)⟩,(fun T h=>by cases h;exact ⟨rfl,rfl⟩),⟨Tryz.underlying51,by decide,Tryz.t49,_,rfl,rfl,rfl,Tryz.zeroValue49,Tryz.sizeOf49⟩⟩
theorem ti52:TIok Tryz.prog 52 t52 :=
 ⟨Tryz.isAgg52,Tryz.sizeOf52,⟨_,Tryz.zeroValue52,⟨[Value.string ⟨#[]⟩,Value.string ⟨#[]⟩],rfl,fun S w η=>.cons (zs) (.cons (zs) (.nil))⟩,(fun T h=>by cases h;rfl)⟩,(fun T h=>by cases h;exact ⟨rfl,rfl⟩),⟨_,Tryz.runUnderlying52,rfl,fun w=>by simp [Tryz.sizeOf9]⟩⟩
theorem ti53:TIok Tryz.prog 53 t53 :=
 ⟨Tryz.isAgg53,Tryz.sizeOf53,⟨_,Tryz.zeroValue53,⟨[Value.string ⟨#[]⟩,Value.string ⟨#[]⟩],rfl,fun S w η=>.cons (zs) (.cons (zs) (.nil))⟩,(fun T h=>by cases h;rfl)⟩,(fun T h=>by cases h;exact ⟨rfl,rfl⟩),⟨_,Tryz.runUnderlying53,rfl,fun w=>by simp [Tryz.sizeOf9]⟩⟩
theorem ti60:TIok Tryz.prog 60 t60 :=
 ⟨Tryz.isAgg60,Tryz.sizeOf60,⟨_,Tryz.zeroValue60,⟨[Value.int IntKind.i64 0,Value.int IntKind.i64 0],rfl,fun S w η=>.cons (zi _) (.cons (zi _) (.nil))⟩,(fun T h=>by cases h;rfl)⟩,(fun T h=>by cases h;exact ⟨rfl,rfl⟩),⟨_,Tryz.runUnderlying60,rfl,fun w=>by simp [Tryz.sizeOf3]⟩⟩
theorem ti61:TIok Tryz.prog 61 t61 :=
 ⟨Tryz.isAgg61,Tryz.sizeOf61,⟨_,Tryz.zeroValue61,⟨[Value.int IntKind.i64 0,Value.int IntKind.i64 0],rfl,fun S w η=>.cons (zi _) (.cons (zi _) (.nil))⟩,(fun T h=>by cases h;rfl)⟩,(fun T h=>by cases h;exact ⟨rfl,rfl⟩),⟨_,Tryz.runUnderlying61,rfl,fun w=>by simp [Tryz.sizeOf3]⟩⟩
theorem ti75:TIok Tryz.prog 75 t75 :=
 ⟨Tryz.isAgg75,Tryz.sizeOf75,⟨_,Tryz.zeroValue75,⟨[Value.int IntKind.i64 0,Value.int IntKind.i64 0],rfl,fun S w η=>.cons (zi _) (.cons (zi _) (.nil))⟩,(fun T h=>by cases h;rfl)⟩,(fun T h=>by cases h;exact ⟨rfl,rfl⟩),Tryz.runUnderlying75⟩
theorem ti84:TIok Tryz.prog 84 t84 :=
 ⟨Tryz.isAgg84,Tryz.sizeOf84,⟨_,Tryz.zeroValue84,⟨[Value.int IntKind.i64 0,Value.int IntKind.i64 0],rfl,fun S w η=>.cons (zi _) (.cons (zi _) (.nil))⟩,(fun T h=>by cases h;rfl)⟩,(fun T h=>by cases h;exact ⟨rfl,rfl⟩),⟨_,Tryz.runUnderlying84,rfl,fun w=>by simp [Tryz.sizeOf3]⟩⟩
theorem ti85:TIok Tryz.prog 85 t85 :=
 ⟨Tryz.isAgg85,Tryz.sizeOf85,⟨_,Tryz.zeroValue85,⟨[Value.int IntKind.i64 0,Value.int IntKind.i64 0],rfl,fun S w η=>.cons (zi _) (.cons (zi _) (.nil))⟩,(fun T h=>by cases h;rfl)⟩,(fun T h=>by cases h;exact ⟨rfl,rfl⟩),⟨_,Tryz.runUnderlying85,rfl,fun w=>by simp [Tryz.sizeOf3]⟩⟩
theorem ti86:TIok Tryz.prog 86 t86 :=
 ⟨Tryz.isAgg86,Tryz.sizeOf86,⟨_,Tryz.zeroValue86,⟨[Value.int IntKind.i64 0,Value.int IntKind.i64 0,Value.int IntKind.i64 0,Value.int IntKind.i64 0,Value.int IntKind.i64 0,Value.int IntKind.i64 0],rfl,fun S w η=>.cons (zi _) (.cons (zi _) (.cons (zi _) (.cons (zi _) (.cons (zi _) (.cons (zi _) (.nil))))))⟩,(fun T h=>by cases h;rfl)⟩,(fun T h=>by cases h;exact ⟨rfl,rfl⟩),Tryz.runUnderlying86⟩
theorem ti98:TIok Tryz.prog 98 t98 :=
 ⟨Tryz.isAgg98,Tryz.sizeOf98,⟨_,Tryz.zeroValue98,⟨[Value.slice none 0 0],rfl,fun S w η=>.cons (rfl) (.nil)⟩,(fun T h=>by cases h;rfl)⟩,(fun T h=>by cases h;exact ⟨rfl,rfl⟩),⟨Tryz.underlying98,by decide,Tryz.t100,_,rfl,rfl,rfl,Tryz.zeroValue100,Tryz.sizeOf100⟩⟩
theorem ti99:TIok Tryz.prog 99 t99 :=
 ⟨Tryz.isAgg99,Tryz.sizeOf99,⟨_,Tryz.zeroValue99,⟨[Value.int IntKind.i64 0,Value.int IntKind.i64 0,Value.int IntKind.i64 0],rfl,fun S w η=>.cons (zi _) (.cons (zi _) (.cons (zi _) (.nil)))⟩,(fun T h=>by cases h;rfl)⟩,(fun T h=>by cases h;exact ⟨rfl,rfl⟩),⟨_,Tryz.runUnderlying99,rfl,fun w=>by simp [Tryz.sizeOf3]⟩⟩
theorem ti100:TIok Tryz.prog 100 t100 :=
 ⟨Tryz.isAgg100,Tryz.sizeOf100,⟨_,Tryz.zeroValue100,⟨[Value.int IntKind.i64 0,Value.int IntKind.i64 0,Value.int IntKind.i64 0],rfl,fun S w η=>.cons (zi _) (.cons (zi _) (.cons (zi _) (.nil)))⟩,(fun T h=>by cases h;rfl)⟩,(fun T h=>by cases h;exact ⟨rfl,rfl⟩),⟨_,Tryz.runUnderlying100,rfl,fun w=>by simp [Tryz.sizeOf3]⟩⟩
theorem ti126:TIok Tryz.prog 126 t126 :=
 ⟨Tryz.isAgg126,Tryz.sizeOf126,⟨_,Tryz.zeroValue126,⟨[Value.slice none 0 0],rfl,fun S w η=>.cons (rfl) (.nil)⟩,(fun T h=>by cases h;rfl)⟩,(fun T h=>by cases h;exact ⟨rfl,rfl⟩),⟨Tryz.underlying126,by decide,Tryz.t130,_,rfl,rfl,rfl,Tryz.zeroValue130,Tryz.sizeOf130⟩⟩
theorem ti128:TIok Tryz.prog 128 t128 :=
 ⟨Tryz.isAgg128,Tryz.sizeOf128,⟨_,Tryz.zeroValue128,⟨[Value.int IntKind.i64 0,Value.int IntKind.i64 0,Value.int IntKind.i64 0],rfl,fun S w η=>.cons (zi _) (.cons (zi _) (.cons (zi _) (.nil)))⟩,(fun T h=>by cases h;rfl)⟩,(fun T h=>by cases h;exact ⟨rfl,rfl⟩),⟨_,Tryz.runUnderlying128,rfl,fun w=>by simp [Tryz.sizeOf3]⟩⟩
theorem ti129:TIok Tryz.prog 129 t129 :=
 ⟨Tryz.isAgg129,Tryz.sizeOf129,⟨_,Tryz.zeroValue129,⟨[Value.int IntKind.i64 0,Value.int IntKind.i64 0,Value.int IntKind.i64 0],rfl,fun S w η=>.cons (zi _) (.cons (zi _) (.cons (zi _) (.nil)))⟩,(fun T h=>by cases h;rfl)⟩,(fun T h=>by cases h;exact ⟨rfl,rfl⟩),⟨_,Tryz.runUnderlying129,rfl,fun w=>by simp [Tryz.sizeOf3]⟩⟩
theorem ti130:TIok Tryz.prog 130 t130 :=
 ⟨Tryz.isAgg130,Tryz.sizeOf130,⟨_,Tryz.zeroValue130,⟨[Value.int IntKind.i64 0,Value.int IntKind.i64 0,Value.int IntKind.i64 0,Value.int IntKind.i64 0,Value.int IntKind.i64 0,Value.int IntKind.i64 0,Value.int IntKind.i64 0,Value.int IntKind.i64 0,Value.int IntKind.i64 0],rfl,fun S w η=>.cons (zi _) (.cons (zi _) (.cons (zi _) (.cons (zi _) (.cons (zi _) (.cons (zi _) (.cons (zi _) (.cons (zi _) (.cons (zi _) (.nil)))))))))⟩,(fun T h=>by cases h;rfl)⟩,(fun T h=>by cases h;exact ⟨rfl,rfl⟩),Tryz.runUnderlying130⟩
theorem ti139:TIok Tryz.prog 139 t139 :=
 ⟨Tryz.isAgg139,Tryz.sizeOf139,⟨_,Tryz.zeroValue139,⟨[Value.slice none 0 0],rfl,fun S w η=>.cons (rfl) (.nil)⟩,(fun T h=>by cases h;rfl)⟩,(fun T h=>by cases h;exact ⟨rfl,rfl⟩),⟨Tryz.underlying139,by decide,Tryz.t142,_,rfl,rfl,rfl,Tryz.zeroValue142,Tryz.sizeOf142⟩⟩
theorem ti141:TIok Tryz.prog 141 t141 :=
 ⟨Tryz.isAgg141,Tryz.sizeOf141,⟨_,Tryz.zeroValue141,⟨[Value.int IntKind.i64 0,Value.int IntKind.i64 0,Value.int IntKind.i64 0],rfl,fun S w η=>.cons (zi _) (.cons (zi _) (.cons (zi _) (.nil)))⟩,(fun T h=>by cases h;rfl)⟩,(fun T h=>by cases h;exact ⟨rfl,rfl⟩),⟨_,Tryz.runUnderlying141,rfl,fun w=>by simp [Tryz.sizeOf3]⟩⟩
theorem ti142:TIok Tryz.prog 142 t142 :=
 ⟨Tryz.isAgg142,Tryz.sizeOf142,⟨_,Tryz.zeroValue142,⟨[Value.int IntKind.i64 0,Value.int IntKind.i64 0,Value.int IntKind.i64 0],rfl,fun S w η=>.cons (zi _) (.cons (zi _) (.cons (zi _) (.nil)))⟩,(fun T h=>by cases h;rfl)⟩,(fun T h=>by cases h;exact ⟨rfl,rfl⟩),⟨_,Tryz.runUnderlying142,rfl,fun w=>by simp [Tryz.sizeOf3]⟩⟩
theorem ti147:TIok Tryz.prog 147 t147 :=
 ⟨Tryz.isAgg147,Tryz.sizeOf147,⟨_,Tryz.zeroValue147,⟨[Value.int IntKind.u64 0],rfl,fun S w η=>.cons (zi _) (.nil)⟩,(fun T h=>by cases h;rfl)⟩,(fun T h=>by cases h;exact ⟨rfl,rfl⟩),Tryz.runUnderlying147⟩
theorem ti148:TIok Tryz.prog 148 t148 :=
 ⟨Tryz.isAgg148,Tryz.sizeOf148,⟨_,Tryz.zeroValue148,⟨[Value.pointer none],rfl,fun S w η=>.cons (rfl) (.nil)⟩,(fun T h=>by cases h)⟩,(fun T h=>by cases h),Tryz.runUnderlying148⟩
theorem ti149:TIok Tryz.prog 149 t149 :=
 ⟨Tryz.isAgg149,Tryz.sizeOf149,⟨_,Tryz.zeroValue149,⟨[Value.bool false],rfl,fun S w η=>.cons (zb) (.nil)⟩,(fun T h=>by cases h;rfl)⟩,(fun T h=>by cases h;exact ⟨rfl,rfl⟩),⟨_,Tryz.runUnderlying149,rfl,fun w=>by simp [Tryz.sizeOf4]⟩⟩
theorem ti150:TIok Tryz.prog 150 t150 :=
 ⟨Tryz.isAgg150,Tryz.sizeOf150,⟨_,Tryz.zeroValue150,⟨[Value.bool false],rfl,fun S w η=>.cons (zb) (.nil)⟩,(fun T h=>by cases h;rfl)⟩,(fun T h=>by cases h;exact ⟨rfl,rfl⟩),⟨_,Tryz.runUnderlying150,rfl,fun w=>by simp [Tryz.sizeOf4]⟩⟩
theorem ti155:TIok Tryz.prog 155 t155 :=
 ⟨Tryz.isAgg155,Tryz.sizeOf155,⟨_,Tryz.zeroValue155,⟨[Value.slice none 0 0],rfl,fun S w η=>.cons (rfl) (.nil)⟩,(fun T h=>by cases h;rfl)⟩,(fun T h=>by cases h;exact ⟨rfl,rfl⟩),⟨Tryz.underlying155,by decide,Tryz.t3,_,rfl,rfl,rfl,Tryz.zeroValue3,Tryz.sizeOf3⟩⟩
theorem ti156:TIok Tryz.prog 156 t156 :=
 ⟨Tryz.isAgg156,Tryz.sizeOf156,⟨_,Tryz.zeroValue156,⟨[Value.bool false,Value.slice none 0 0],rfl,fun S w η=>.cons (zb) (.cons (rfl) (.nil))⟩,(fun T h=>by cases h;rfl)⟩,(fun T h=>by cases h;exact ⟨rfl,rfl⟩),⟨_,Tryz.runUnderlying156,rfl,fun w=>by simp [Tryz.sizeOf155,Tryz.sizeOf4]⟩⟩
theorem ti157:TIok Tryz.prog 157 t157 :=
 ⟨Tryz.isAgg157,Tryz.sizeOf157,⟨_,Tryz.zeroValue157,⟨[Value.bool false,Value.slice none 0 0],rfl,fun S w η=>.cons (zb) (.cons (rfl) (.nil))⟩,(fun T h=>by cases h;rfl)⟩,(fun T h=>by cases h;exact ⟨rfl,rfl⟩),⟨_,Tryz.runUnderlying157,rfl,fun w=>by simp [Tryz.sizeOf155,Tryz.sizeOf4]⟩⟩
theorem ti171:TIok Tryz.prog 171 t171 :=
 ⟨Tryz.isAgg171,Tryz.sizeOf171,⟨_,Tryz.zeroValue171,⟨[Value.slice none 0 0],rfl,fun S w η=>.cons (rfl) (.nil)⟩,(fun T h=>by cases h;rfl)⟩,(fun T h=>by cases h;exact ⟨rfl,rfl⟩),⟨Tryz.underlying171,by decide,Tryz.t173,_,rfl,rfl,rfl,Tryz.zeroValue173,Tryz.sizeOf173⟩⟩
theorem ti172:TIok Tryz.prog 172 t172 :=
 ⟨Tryz.isAgg172,Tryz.sizeOf172,⟨_,Tryz.zeroValue172,⟨[Value.int IntKind.i64 0,Value.int IntKind.i64 0,Value.int IntKind.i64 0],rfl,fun S w η=>.cons (zi _) (.cons (zi _) (.cons (zi _) (.nil)))⟩,(fun T h=>by cases h;rfl)⟩,(fun T h=>by cases h;exact ⟨rfl,rfl⟩),⟨_,Tryz.runUnderlying172,rfl,fun w=>by simp [Tryz.sizeOf3]⟩⟩
theorem ti173:TIok Tryz.prog 173 t173 :=
 ⟨Tryz.isAgg173,Tryz.sizeOf173,⟨_,Tryz.zeroValue173,⟨[Value.int IntKind.i64 0,Value.int IntKind.i64 0,Value.int IntKind.i64 0],rfl,fun S w η=>.cons (zi _) (.cons (zi _) (.cons (zi _) (.nil)))⟩,(fun T h=>by cases h;rfl)⟩,(fun T h=>by cases h;exact ⟨rfl,rfl⟩),⟨_,Tryz.runUnderlying173,rfl,fun w=>by simp [Tryz.sizeOf3]⟩⟩
theorem ti178:TIok Tryz.prog 178 t178 :=
 ⟨Tryz.isAgg178,Tryz.sizeOf178,⟨_,Tryz.zeroValue178,⟨[Value.int IntKind.i64 0],rfl,fun S w η=>.cons (zi _) (.nil)⟩,(fun T h=>by cases h;rfl)⟩,(fun T h=>by cases h;exact ⟨rfl,rfl⟩),Tryz.runUnderlying178⟩
theorem ti187:TIok Tryz.prog 187 t187 :=
 ⟨Tryz.isAgg187,Tryz.sizeOf187,⟨_,Tryz.zeroValue187,⟨[Value.int IntKind.u32 0],rfl,fun S w η=>.cons (zi _) (.nil)⟩,(fun T h=>by cases h;rfl)⟩,(fun T h=>by cases h;exact ⟨rfl,rfl⟩),Tryz.runUnderlying187⟩
theorem ti189:TIok Tryz.prog 189 t189 :=
 ⟨Tryz.isAgg189,Tryz.sizeOf189,⟨_,Tryz.zeroValue189,⟨[Value.int IntKind.u64 0],rfl,fun S w η=>.cons (zi _) (.nil)⟩,(fun T h=>by cases h;rfl)⟩,(fun T h=>by cases h;exact ⟨rfl,rfl⟩),Tryz.runUnderlying189⟩
theorem ti190:TIok Tryz.prog 190 t190 :=
 ⟨Tryz.isAgg190,Tryz.sizeOf190,⟨_,Tryz.zeroValue190,⟨[Value.slice none 0 0],rfl,fun S w η=>.cons (rfl) (.nil)⟩,(fun T h=>by cases h;rfl)⟩,(fun T h=>by cases h;exact ⟨rfl,rfl⟩),⟨Tryz.underlying190,by decide,Tryz.t53,_,rfl,rfl,rfl,Tryz.zeroValue53,Tryz.sizeOf53⟩⟩
theorem ti200:TIok Tryz.prog 200 t200 :=
 ⟨Tryz.isAgg200,Tryz.sizeOf200,⟨_,Tryz.zeroValue200,⟨[Value.pointer none],rfl,fun S w η=>.cons (rfl) (.nil)⟩,(fun T h=>by cases h)⟩,(fun T h=>by cases h),Tryz.runUnderlying200⟩
theorem ti201:TIok Tryz.prog 201 t201 :=
 ⟨Tryz.isAgg201,Tryz.sizeOf201,⟨_,Tryz.zeroValue201,⟨[Value.slice none 0 0],rfl,fun S w η=>.cons (rfl) (.nil)⟩,(fun T h=>by cases h;rfl)⟩,(fun T h=>by cases h;exact ⟨rfl,rfl⟩),⟨Tryz.underlying201,by decide,Tryz.t5,_,rfl,rfl,rfl,Tryz.zeroValue5,Tryz.sizeOf5⟩⟩
theorem ti202:TIok Tryz.prog 202 t202 :=
 ⟨Tryz.isAgg202,Tryz.sizeOf202,⟨_,Tryz.zeroValue202,⟨[Value.pointer none,Value.slice none 0 0],rfl,fun S w η=>.cons (rfl) (.cons (rfl) (.nil))⟩,(fun T h=>by cases h)⟩,(fun T h=>by cases h),⟨_,Tryz.runUnderlying202,rfl,fun w=>by simp [Tryz.sizeOf200,Tryz.sizeOf201]⟩⟩
theorem ti205:TIok Tryz.prog 205 t205 :=
 ⟨Tryz.isAgg205,Tryz.sizeOf205,⟨_,Tryz.zeroValue205,⟨[Value.nilIface],rfl,fun S w η=>.cons (rfl) (.nil)⟩,(fun T h=>by cases h)⟩,(fun T h=>by cases h),trivial⟩
theorem ti206:TIok Tryz.prog 206 t206 :=
 ⟨Tryz.isAgg206,Tryz.sizeOf206,⟨_,Tryz.zeroValue206,⟨[Value.nilIface],rfl,fun S w η=>.cons (rfl) (.nil)⟩,(fun T h=>by cases h)⟩,(fun T h=>by cases h),trivial⟩
theorem ti217:TIok Tryz.prog 217 t217 :=
 ⟨Tryz.isAgg217,Tryz.sizeOf217,⟨_,Tryz.zeroValue217,⟨[Value.int IntKind.u64 0],rfl,fun S w η=>.cons (zi _) (.nil)⟩,(fun T h=>by cases h;rfl)⟩,(fun T h=>by cases h;exact ⟨rfl,rfl⟩),Tryz.runUnderlying217⟩
theorem ti221:TIok Tryz.prog 221 t221 :=
 ⟨Tryz.isAgg221,Tryz.sizeOf221,⟨_,Tryz.zeroValue221,⟨[Value.pointer none],rfl,fun S w η=>.cons (rfl) (.nil)⟩,(fun T h=>by cases h)⟩,(fun T h=>by cases h),Tryz.runUnderlying221⟩
theorem ti228:TIok Tryz.prog 228 t228 :=
 ⟨Tryz.isAgg228,Tryz.sizeOf228,⟨_,Tryz.zeroValue228,⟨[Value.pointer none],rfl,fun S w η=>.cons (rfl) (.nil)⟩,(fun T h=>by cases h)⟩,(fun T h=>by cases h),Tryz.runUnderlying228⟩
theorem ti232:TIok Tryz.prog 232 t232 :=
 ⟨Tryz.isAgg232,Tryz.sizeOf232,⟨_,Tryz.zeroValue232,⟨[Value.pointer none],rfl,fun S w η=>.cons (rfl) (.nil)⟩,(fun T h=>by cases h)⟩,(fun T h=>by cases h),Tryz.runUnderlying232⟩
theorem ti240:TIok Tryz.prog 240 t240 :=
 ⟨Tryz.isAgg240,Tryz.sizeOf240,⟨_,Tryz.zeroValue240,⟨[Value.pointer none],rfl,fun S w η=>.cons (rfl) (.nil)⟩,(fun T h=>by cases h)⟩,(fun T h=>by cases h),Tryz.runUnderlying240⟩
theorem ti248:TIok Tryz.prog 248 t248 :=
 ⟨Tryz.isAgg248,Tryz.sizeOf248,⟨_,Tryz.zeroValue248,⟨[Value.int IntKind.u8 0,Value.int IntKind.u8 0,Value.int IntKind.u8 0,Value.int IntKind.u8 0,Value.int IntKind.u8 0,Value.int IntKind.u8 0,Value.int IntKind.u8 0,Value.int IntKind.u8 0,Value.int IntKind.u8 0,Value.int IntKind.u8 0,Value.int IntKind.u8 0,Value.int IntKind.u8 0,Value.int IntKind.u8 0,Value.int IntKind.u8 0,Value.int IntKind.u8 0,Value.int IntKind.u8 0,Value.int IntKind.u8 0,Value.int IntKind.u8 0,Value.int IntKind.u8 0,Value.int IntKind.u8 0,Value.int IntKind.u8 0,Value.int IntKind.u8 0,Value.int IntKind.u8 0,Value.int IntKind.u8 0],rfl,fun S w η=>.cons (zi _) (.cons (zi _) (.cons (zi _) (.cons (zi _) (.cons (zi _) (.cons (zi _) (.cons (zi _) (.cons (zi _) (.cons (zi _) (.cons (zi _) (.cons (zi _) (.cons (zi _) (.cons (zi _) (.cons (zi _) (.cons (zi _) (.cons (zi _) (.cons (zi _) (.cons (zi _) (.cons (zi _) (.cons (zi _) (.cons (zi _) (.cons (zi _) (.cons (zi _) (.cons (zi _) (.nil))))))))))))))))))))))))⟩,(fun T h=>by cases h)⟩,(fun T h=>by cases h),Tryz.runUnderlying248⟩
theorem ti259:TIok Tryz.prog 259 t259 :=
 ⟨Tryz.isAgg259,Tryz.sizeOf259,⟨_,Tryz.zeroValue259,⟨[Value.pointer none],rfl,fun S w η=>.cons (rfl) (.nil)⟩,(fun T h=>by cases h)⟩,(fun T h=>by cases h),Tryz.runUnderlying259⟩
theorem ti264:TIok Tryz.prog 264 t264 :=
 ⟨Tryz.isAgg264,Tryz.sizeOf264,⟨_,Tryz.zeroValue264,⟨[Value.int IntKind.u64 0,Value.int IntKind.u64 0,Value.int IntKind.u64 0,Value.int IntKind.u64 0,Value.int IntKind.u64 0,Value.int IntKind.u64 0,Value.int IntKind.u64 0,Value.int IntKind.u64 0,Value.int IntKind.u64 0,Value.int IntKind.u64 0,Value.int IntKind.u64 0,Value.int IntKind.u64 0,Value.int IntKind.u64 0,Value.int IntKind.u64 0,Value.int IntKind.u64 0,Value.int IntKind.u64 0,Value.int IntKind.u64 0,Value.int IntKind.u64 0,Value.int IntKind.u64 0,Value.int IntKind.u64 0],rfl,fun S w η=>.cons (zi _) (.cons (zi _) (.cons (zi _) (.cons (zi _) (.cons (zi _) (.cons (zi _) (.cons (zi _) (.cons (zi _) (.cons (zi _) (.cons (zi _) (.cons (zi _) (.cons (zi _) (.cons (zi _) (.cons (zi _) (.cons (zi _) (.cons (zi _) (.cons (zi _) (.cons (zi _) (.cons (zi _) (.cons (zi _) (.nil))))))))))))))))))))⟩,(fun T h=>by cases h)⟩,(fun T h=>by cases h),Tryz.runUnderlying264⟩
theorem ti265:TIok Tryz.prog 265 t265 :=
 ⟨Tryz.isAgg265,Tryz.sizeOf265,⟨_,Tryz.zeroValue265,⟨[Value.int IntKind.u8 0,Value.int IntKind.u8 0,Value.int IntKind.u8 0,Value.int IntKind.u8 0,Value.int IntKind.u8 0,Value.int IntKind.u8 0,Value.int IntKind.u8 0,Value.int IntKind.u8 0,Value.int IntKind.u8 0,Value.int IntKind.u8 0,Value.int IntKind.u8 0,Value.int IntKind.u8 0,Value.int IntKind.u8 0,Value.int IntKind.u8 0,Value.int IntKind.u8 0,Value.int IntKind.u8 0,Value.int IntKind.u8 0,Value.int IntKind.u8 0,Value.int IntKind.u8 0,Value.int IntKind.u8 0,Value.int IntKind.u8 0,Value.int IntKind.u8 0,Value.int IntKind.u8 0,Value.int IntKind.u8 0,Value.int IntKind.u8 0,Value.int IntKind.u8 0,Value.int IntKind.u8 0,Value.int IntKind.u8 0,Value.int IntKind.u8 0,Value.int IntKind.u8 0,Value.int IntKind.u8 0,Value.int IntKind.u8 0,Value.int IntKind.u8 0,Value.int IntKind.u8 0,Value.int IntKind.u8 0,Value.int IntKind.u8 0,Value.int IntKind.u8 0,Value.int IntKind.u8 0,Value.int IntKind.u8 0,Value.int IntKind.u8 0,Value.int IntKind.u8 0,Value.int IntKind.u8 0,Value.int IntKind.u8 0,Value.int IntKind.u8 0,Value.int IntKind.u8 0,Value.int IntKind.u8 0,Value.int IntKind.u8 0,Value.int IntKind.u8 0,Value.int IntKind.u8 0,Value.int IntKind.u8 0,Value.int IntKind.u8 0,Value.int IntKind.u8 0,Value.int IntKind.u8 0,Value.int IntKind.u8 0,Value.int IntKind.u8 0,Value.int IntKind.u8 0,Value.int IntKind.u8 0,Value.int IntKind.u8 0,Value.int IntKind.u8 0,Value.int IntKind.u8 0,Value.int IntKind.u8 0,Value.int IntKind.u8 0,Value.int IntKind.u8 0,Value.int IntKind.u8 0,Value.int IntKind.u8 0],rfl,fun S w η=>.cons (zi _) (.cons (zi _) (.cons (zi _) (.cons (zi _) (.cons (zi _) (.cons (zi _) (.cons (zi _) (.cons (zi _) (.cons (zi _) (.cons (zi _) (.cons (zi _) (.cons (zi _) (.cons (zi _) (.cons (zi _) (.cons (zi _) (.cons (zi _) (.cons (zi _) (.cons (zi _) (.cons (zi _) (.cons (zi _) (.cons (zi _) (.cons (zi _) (.cons (zi _) (.cons (zi _) (.cons (zi _) (.cons (zi _) (.cons (zi _) (.cons (zi _) (.cons (zi _) (.cons (zi _) (.cons (zi _) (.cons (zi _) (.cons (zi _) (.cons (zi _) (.cons (zi _) (.cons (zi _) (.cons (zi _) (.cons (zi _) (.cons (zi _) (.cons (zi _) (.cons (zi _) (.cons (zi _) (.cons (zi _) (.cons (zi _) (.cons (zi _) (.cons (zi _) (.cons (zi _) (.cons (zi _) (.cons (zi _) (.cons (zi _) (.cons (zi _) (.cons (zi _) (.cons (zi _) (.cons (zi _) (.cons (zi _) (.cons (zi _) (.cons (zi _) (.cons (zi _) (.cons (zi _) (.cons (zi _) (.cons (zi _) (.cons (zi _) (.cons (zi _) (.cons (zi _) (.cons (zi _) (.nil)))))))))))))))))))))))))))))))))))))))))))))))))))))))))))))))))⟩,(fun T h=>by cases h)⟩,(fun T h=>by cases h),Tryz.runUnderlying265⟩
theorem ti270:TIok Tryz.prog 270 t270 :=
 ⟨Tryz.isAgg270,Tryz.sizeOf270,⟨_,Tryz.zeroValue270,⟨[Value.string ⟨#[]⟩,Value.string ⟨#[]⟩,Value.nilIface],rfl,fun S w η=>.cons (zs) (.cons (zs) (.cons (rfl) (.nil)))⟩,(fun T h=>by cases h)⟩,(fun T h=>by cases h),⟨_,Tryz.runUnderlying270,rfl,fun w=>by simp [Tryz.sizeOf206,Tryz.sizeOf9]⟩⟩
theorem ti271:TIok Tryz.prog 271 t271 :=
 ⟨Tryz.isAgg271,Tryz.sizeOf271,⟨_,Tryz.zeroValue271,⟨[Value.string ⟨#[]⟩,Value.string ⟨#[]⟩,Value.nilIface],rfl,fun S w η=>.cons (zs) (.cons (zs) (.cons (rfl) (.nil)))⟩,(fun T h=>by cases h)⟩,(fun T h=>by cases h),⟨_,Tryz.runUnderlying271,rfl,fun w=>by simp [Tryz.sizeOf206,Tryz.sizeOf9]⟩⟩
theorem ti274:TIok Tryz.prog 274 t274 :=
 ⟨Tryz.isAgg274,Tryz.sizeOf274,⟨_,Tryz.zeroValue274,⟨[Value.int IntKind.u8 0,Value.int IntKind.u8 0],rfl,fun S w η=>.cons (zi _) (.cons (zi _) (.nil))⟩,(fun T h=>by cases h;rfl)⟩,(fun T h=>by cases h;exact ⟨rfl,rfl⟩),⟨_,Tryz.runUnderlying274,rfl,fun w=>by simp [Tryz.sizeOf5]⟩⟩
theorem ti275:TIok Tryz.prog 275 t275 :=
 ⟨Tryz.isAgg275,Tryz.sizeOf275,⟨_,Tryz.zeroValue275,⟨[Value.int IntKind.u8 0,Value.int IntKind.u8 0],rfl,fun S w η=>.cons (zi _) (.cons (zi _) (.nil))⟩,(fun T h=>by cases h;rfl)⟩,(fun T h=>by cases h;exact ⟨rfl,rfl⟩),⟨_,Tryz.runUnderlying275,rfl,fun w=>by simp [Tryz.sizeOf5]⟩⟩
theorem ti276:TIok Tryz.prog 276 t276 :=
 ⟨Tryz.isAgg276,Tryz.sizeOf276,⟨_,Tryz.zeroValue276,⟨[Value.int IntKind.u8 0,Value.int IntKind.u8 0,Value.int IntKind.u8 0,Value.int IntKind.u8 0,Value.int IntKind.u8 0,Value.int IntKind.u8 0,Value.int IntKind.u8 0,Value.int IntKind.u8 0,Value.int IntKind.u8 0,Value.int IntKind.u8 0,Value.int IntKind.u8 0,Value.int IntKind.u8 0,Value.int IntKind.u8 0,Value.int IntKind.u8 0,Value.int IntKind.u8 0,Value.int IntKind.u8 0,Value.int IntKind.u8 0,Value.int IntKind.u8 0,Value.int IntKind.u8 0,Value.int IntKind.u8 0,Value.int IntKind.u8 0,Value.int IntKind.u8 0,Value.int IntKind.u8 0,Value.int IntKind.u8 0,Value.int IntKind.u8 0,Value.int IntKind.u8 0,Value.int IntKind.u8 0,Value.int IntKind.u8 0,Value.int IntKind.u8 0,Value.int IntKind.u8 0,Value.int IntKind.u8 0,Value.int IntKind.u8 0],rfl,fun S w η=>.cons (zi _) (.cons (zi _) (.cons (zi _) (.cons (zi _) (.cons (zi _) (.cons (zi _) (.cons (zi _) (.cons (zi _) (.cons (zi _) (.cons (zi _) (.cons (zi _) (.cons (zi _) (.cons (zi _) (.cons (zi _) (.cons (zi _) (.cons (zi _) (.cons (zi _) (.cons (zi _) (.cons (zi _) (.cons (zi _) (.cons (zi _) (.cons (zi _) (.cons (zi _) (.cons (zi _) (.cons (zi _) (.cons (zi _) (.cons (zi _) (.cons (zi _) (.cons (zi _) (.cons (zi _) (.cons (zi _) (.cons (zi _) (.nil))))))))))))))))))))))))))))))))⟩,(fun T h=>by cases h)⟩,(fun T h=>by cases h),Tryz.runUnderlying276⟩
theorem ti280:TIok Tryz.prog 280 t280 :=
 ⟨Tryz.isAgg280,Tryz.sizeOf280,⟨_,Tryz.zeroValue280,⟨[Value.pointer none],rfl,fun S w η=>.cons (rfl) (.nil)⟩,(fun T h=>by cases h)⟩,(fun T h=>by cases h),Tryz.runUnderlying280⟩
theorem ti281:TIok Tryz.prog 281 t281 :=
 ⟨Tryz.isAgg281,Tryz.sizeOf281,⟨_,Tryz.zeroValue281,⟨[Value.string ⟨#[]⟩],rfl,fun S w η=>.cons (zs) (.nil)⟩,(fun T h=>by cases h;rfl)⟩,(fun T h=>by cases h;exact ⟨rfl,rfl⟩),⟨_,Tryz.runUnderlying281,rfl,fun w=>by simp [Tryz.sizeOf9]⟩⟩
theorem ti282:TIok Tryz.prog 282 t282 :=
 ⟨Tryz.isAgg282,Tryz.sizeOf282,⟨_,Tryz.zeroValue282,⟨[Value.string ⟨#[]⟩],rfl,fun S w η=>.cons (zs) (.nil)⟩,(fun T h=>by cases h;rfl)⟩,(fun T h=>by cases h;exact ⟨rfl,rfl⟩),⟨_,Tryz.runUnderlying282,rfl,fun w=>by simp [Tryz.sizeOf9]⟩⟩
theorem ti283:TIok Tryz.prog 283 t283 :=
 ⟨Tryz.isAgg283,Tryz.sizeOf283,⟨_,Tryz.zeroValue283,⟨[Value.int IntKind.u8 0,Value.int IntKind.u8 0,Value.int IntKind.u8 0,Value.int IntKind.u8 0,Value.int IntKind.u8 0,Value.int IntKind.u8 0,Value.int IntKind.u8 0,Value.int IntKind.u8 0,Value.int IntKind.u8 0,Value.int IntKind.u8 0,Value.int IntKind.u8 0,Value.int IntKind.u8 0,Value.int IntKind.u8 0,Value.int IntKind.u8 0,Value.int IntKind.u8 0,Value.int IntKind.u8 0,Value.int IntKind.u8 0,Value.int IntKind.u8 0,Value.int IntKind.u8 0,Value.int IntKind.u8 0,Value.int IntKind.u8 0,Value.int IntKind.u8 0,Value.int IntKind.u8 0,Value.int IntKind.u8 0,Value.int IntKind.u8 0,Value.int IntKind.u8 0,Value.int IntKind.u8 0,Value.int IntKind.u8 0,Value.int IntKind.u8 0,Value.int IntKind.u8 0,Value.int IntKind.u8 0,Value.int IntKind.u8 0],rfl,fun S w η=>.cons (zi _) (.cons (zi _) (.cons (zi _) (.cons (zi _) (.cons (zi _) (.cons (zi _) (.cons (zi _) (.cons (zi _) (.cons (zi _) (.cons (zi _) (.cons (zi _) (.cons (zi _) (.cons (zi _) (.cons (zi _) (.cons (zi _) (.cons (zi _) (.cons (zi _) (.cons (zi _) (.cons (zi _) (.cons (zi _) (.cons (zi _) (.cons (zi _) (.cons (zi _) (.cons (zi _) (.cons (zi _) (.cons (zi _) (.cons (zi _) (.cons (zi _) (.cons (zi _) (.cons (zi _) (.cons (zi _) (.cons (zi _) (.nil))))))))))))))))))))))))))))))))⟩,(fun T h=>by cases h)⟩,(fun T h=>by cases h),Tryz.runUnderlying283⟩
theorem ti284:TIok Tryz.prog 284 t284 :=
 ⟨Tryz.isAgg284,Tryz.sizeOf284,⟨_,Tryz.zeroValue284,⟨[Value.int IntKind.u8 0,Value.int IntKind.u8 0,Value.int IntKind.u8 0,Value.int IntKind.u8 0,Value.int IntKind.u8 0,Value.int IntKind.u8 0,Value.int IntKind.u8 0,Value.int IntKind.u8 0,Value.int IntKind.u8 0,Value.int IntKind.u8 0,Value.int IntKind.u8 0,Value.int IntKind.u8 0,Value.int IntKind.u8 0,Value.int IntKind.u8 0,Value.int IntKind.u8 0,Value.int IntKind.u8 0,Value.int IntKind.u8 0,Value.int IntKind.u8 0,Value.int IntKind.u8 0,Value.int IntKind.u8 0,Value.int IntKind.u8 0,Value.int IntKind.u8 0,Value.int IntKind.u8 0,Value.int IntKind.u8 0,Value.int IntKind.u8 0,Value.int IntKind.u8 0,Value.int IntKind.u8 0,Value.int IntKind.u8 0,Value.int IntKind.u8 0,Value.int IntKind.u8 0,Value.int IntKind.u8 0,Value.int IntKind.u8 0,Value.int IntKind.u8 0,Value.int IntKind.u8 0,Value.int IntKind.u8 0,Value.int IntKind.u8 0,Value.int IntKind.u8 0,Value.int IntKind.u8 0,Value.int IntKind.u8 0,Value.int IntKind.u8 0,Value.int IntKind.u8 0,Value.int IntKind.u8 0,Value.int IntKind.u8 0,Value.int IntKind.u8 0,Value.int IntKind.u8 0,Value.int IntKind.u8 0,Value.int IntKind.u8 0,Value.int IntKind.u8 0,Value.int IntKind.u8 0,Value.int IntKind.u8 0,Value.int IntKind.u8 0,Value.int IntKind.u8 0,Value.int IntKind.u8 0,Value.int IntKind.u8 0,Value.int IntKind.u8 0,Value.int IntKind.u8 0,Value.int IntKind.u8 0,Value.int IntKind.u8 0,Value.int IntKind.u8 0,Value.int IntKind.u8 0,Value.int IntKind.u8 0,Value.int IntKind.u8 0,Value.int IntKind.u8 0,Value.int IntKind.u8 0],rfl,fun S w η=>.cons (zi _) (.cons (zi _) (.cons (zi _) (.cons (zi _) (.cons (zi _) (.cons (zi _) (.cons (zi _) (.cons (zi _) (.cons (zi _) (.cons (zi _) (.cons (zi _) (.cons (zi _) (.cons (zi _) (.cons (zi _) (.cons (zi _) (.cons (zi _) (.cons (zi _) (.cons (zi _) (.cons (zi _) (.cons (zi _) (.cons (zi _) (.cons (zi _) (.cons (zi _) (.cons (zi _) (.cons (zi _) (.cons (zi _) (.cons (zi _) (.cons (zi _) (.cons (zi _) (.cons (zi _) (.cons (zi _) (.cons (zi _) (.cons (zi _) (.cons (zi _) (.cons (zi _) (.cons (zi _) (.cons (zi _) (.cons (zi _) (.cons (zi _) (.cons (zi _) (.cons (zi _) (.cons (zi _) (.cons (zi _) (.cons (zi _) (.cons (zi _) (.cons (zi _) (.cons (zi _) (.cons (zi _) (.cons (zi _) (.cons (zi _) (.cons (zi _) (.cons (zi _) (.cons (zi _) (.cons (zi _) (.cons (zi _) (.cons (zi _) (.cons (zi _) (.cons (zi _) (.cons (zi _) (.cons (zi _) (.cons (zi _) (.cons (zi _) (.cons (zi _) (.cons (zi _) (.nil))))))))))))))))))))))))))))))))))))))))))))))))))))))))))))))))⟩,(fun T h=>by cases h)⟩,(fun T h=>by cases h),Tryz.runUnderlying284⟩
theorem ti285:TIok Tryz.prog 285 t285 :=
 ⟨Tryz.isAgg285,Tryz.sizeOf285,⟨_,Tryz.zeroValue285,⟨[Value.pointer none,Value.pointer none,Value.pointer none,Value.string ⟨#[]⟩],rfl,fun S w η=>.cons (rfl) (.cons (rfl) (.cons (rfl) (.cons (zs) (.nil))))⟩,(fun T h=>by cases h)⟩,(fun T h=>by cases h),⟨_,Tryz.runUnderlying285,rfl,fun w=>by simp [Tryz.sizeOf17,Tryz.sizeOf9]⟩⟩
theorem ti288:TIok Tryz.prog 288 t288 :=
 ⟨Tryz.isAgg288,Tryz.sizeOf288,⟨_,Tryz.zeroValue288,⟨[],rfl,fun S w η=>.nil⟩,(fun T h=>by cases h)⟩,(fun T h=>by cases h),trivial⟩
theorem ti295:TIok Tryz.prog 295 t295 :=
 ⟨Tryz.isAgg295,Tryz.sizeOf295,⟨_,Tryz.zeroValue295,⟨[Value.int IntKind.u64 0,Value.int IntKind.u64 0,Value.int IntKind.u32 0,Value.int IntKind.u8 0,Value.int IntKind.u8 0,Value.int IntKind.u8 0,Value.int IntKind.u8 0,Value.nilFunc,Value.pointer none,Value.int IntKind.i32 0,Value.int IntKind.i32 0],rfl,fun S w η=>.cons (zi _) (.cons (zi _) (.cons (zi _) (.cons (zi _) (.cons (zi _) (.cons (zi _) (.cons (zi _) (.cons (rfl) (.cons (rfl) (.cons (zi _) (.cons (zi _) (.nil)))))))))))⟩,(fun T h=>by cases h)⟩,(fun T h=>by cases h),trivial⟩
theorem tyOK:∀ id ti,lk tyTab id=some ti→TIok Tryz.prog id ti:=by
 unfold tyTab
 exact lk_all (oF Tryz.isAgg1 Tryz.sizeOf1 Tryz.zeroValue1 Tryz.runUnderlying1) <| lk_all ti2 <| lk_all ti3 <| lk_all ti4 <| lk_all ti5 <| lk_all ti7 <| lk_all ti9 <| lk_all ti12 <| lk_all ti13 <| lk_all ti15 <| lk_all ti16 <| lk_all ti17 <| lk_all ti18 <| lk_all ti20 <| lk_all ti21 <| lk_all ti22 <| lk_all ti23 <| lk_all ti24 <| lk_all ti25 <| lk_all ti26 <| lk_all ti27 <| lk_all ti31 <| lk_all ti36 <| lk_all ti37 <| lk_all ti49 <| lk_all ti51 <| lk_all ti52 <| lk_all ti53 <| lk_all ti60 <| lk_all ti61 <| lk_all ti75 <| lk_all (oF Tryz.isAgg80 Tryz.sizeOf80 Tryz.zeroValue80 Tryz.runUnderlying80) <| lk_all (oF Tryz.isAgg82 Tryz.sizeOf82 Tryz.zeroValue82 Tryz.runUnderlying82) <| lk_all ti84 <| lk_all ti85 <| lk_all ti86 <| lk_all (oF Tryz.isAgg87 Tryz.sizeOf87 Tryz.zeroValue87 Tryz.runUnderlying87) <| lk_all (oF Tryz.isAgg94 Tryz.sizeOf94 Tryz.zeroValue94 Tryz.runUnderlying94) <| lk_all (oF Tryz.isAgg96 Tryz.sizeOf96 Tryz.zeroValue96 Tryz.runUnderlying96) <| lk_all ti98 <| lk_all ti99 <| lk_all ti100 <| lk_all (oF Tryz.isAgg105 Tryz.sizeOf105 Tryz.zeroValue105 Tryz.runUnderlying105) <| lk_all (oF Tryz.isAgg107 Tryz.sizeOf107 Tryz.zeroValue107 Tryz.runUnderlying107) <| lk_all (oF Tryz.isAgg109 Tryz.sizeOf109 Tryz.zeroValue109 Tryz.runUnderlying109) <| lk_all (oF Tryz.isAgg119 Tryz.sizeOf119 Tryz.zeroValue119 Tryz.runUnderlying119) <| lk_all (oF Tryz.isAgg121 Tryz.sizeOf121 Tryz.zeroValue121 Tryz.runUnderlying121) <| lk_all (oF Tryz.isAgg125 Tryz.sizeOf125 Tryz.zeroValue125 Tryz.runUnderlying125) <| lk_all ti126 <| lk_all ti128 <| lk_all ti129 <| lk_all ti130 <| lk_all (oF Tryz.isAgg134 Tryz.sizeOf134 Tryz.zeroValue134 Tryz.runUnderlying134) <| lk_all (oF Tryz.isAgg137 Tryz.sizeOf137 Tryz.zeroValue137 Tryz.runUnderlying137) <| lk_all ti139 <| lk_all ti141 <| lk_all ti142 <| lk_all ti147 <| lk_all ti148 <| lk_all ti149 <| lk_all ti150 <| lk_all ti155 <| lk_all ti156 <| lk_all ti157 <| lk_all (oF Tryz.isAgg167 Tryz.sizeOf167 Tryz.zeroValue167 Tryz.runUnderlying167) <| lk_all ti171 <| lk_all ti172 <| lk_all ti173 <| lk_all ti178 <| lk_all (oF Tryz.isAgg182 Tryz.sizeOf182 Tryz.zeroValue182 Tryz.runUnderlying182) <| lk_all ti187 <| lk_all ti189 <| lk_all ti190 <| lk_all (oF Tryz.isAgg193 Tryz.sizeOf193 Tryz.zeroValue193 Tryz.runUnderlying193) <| lk_all (oF Tryz.isAgg195 Tryz.sizeOf195 Tryz.zeroValue195 Tryz.runUnderlying195) <| lk_all (oF Tryz.isAgg196 Tryz.sizeOf196 Tryz.zeroValue196 Tryz.runUnderlying196) <| lk_all (oF Tryz.isAgg199 Tryz.sizeOf199 Tryz.zeroValue199 Tryz.runUnderlying199) <| lk_all ti200 <| lk_all ti201 <| lk_all ti202 <| lk_all ti205 <| lk_all ti206 <| lk_all ti217 <| lk_all ti221 <| lk_all ti228 <| lk_all ti232 <| lk_all ti240 <| lk_all ti248 <| lk_all ti259 <| lk_all ti264 <| lk_all ti265 <| lk_all ti270 <| lk_all ti271 <| lk_all ti274 <| lk_all ti275 <| lk_all ti276 <| lk_all ti280 <| lk_all ti281 <| lk_all ti282 <| lk_all ti283 <| lk_all ti284 <| lk_all ti285 <| lk_all ti288 <| lk_all ti295 <| lk_none
noncomputable def fnTab:List (FuncId×Func):=[(3,Tryz.f3),(4,Tryz.f4),(5,Tryz.f5),(6,Tryz.f6),(7,Tryz.f7),(8,Tryz.f8),(9,Tryz.f9),(10,Tryz.f10),(11,Tryz.f11),(12,Tryz.f12),(13,Tryz.f13),(14,Tryz.f14),(15,Tryz.f15),(16,Tryz.f16),(17,Tryz.f17),(18,Tryz.f18),(19,Tryz.f19),(20,Tryz.f20),(21,Tryz.f21),(22,Tryz.f22),(23,Tryz.f23),(24,Tryz.f24),(25,Tryz.f25),(26,Tryz.f26),(27,Tryz.f27),(28,Tryz.f28),(29,Tryz.f29),(30,Tryz.f30),(31,Tryz.f31),(32,Tryz.f32),(33,Tryz.f33),(34,Tryz.f34),(35,Tryz.f35),(36,Tryz.f36),(37,Tryz.f37),(38,Tryz.f38),(39,Tryz.f39),(40,Tryz.f40),(41,Tryz.f41),(42,Tryz.f42),(43,Tryz.f43),(44,Tryz.f44),(45,Tryz.f45),(46,Tryz.f46),(47,Tryz.f47),(48,Tryz.f48),(49,Tryz.f49),(50,Tryz.f50),(51,Tryz.f51),(52,Tryz.f52),(53,Tryz.f53),(54,Tryz.f54),(55,Tryz.f55),(56,Tryz.f56),(57,Tryz.f57),(58,Tryz.f58),(59,Tryz.f59),(60,Tryz.f60),(61,Tryz.f61),(62,Tryz.f62),(63,Tryz.f63),(64,Tryz.f64),(65,Tryz.f65),(66,Tryz.f66),(67,Tryz.f67),(68,Tryz.f68),(69,Tryz.f69),(70,Tryz.f70),(71,Tryz.f71),(73,Tryz.f73),(74,Tryz.f74),(75,Tryz.f75),(76,Tryz.f76),(77,Tryz.f77),(78,Tryz.f78),(79,Tryz.f79),(80,Tryz.f80),(81,Tryz.f81),(82,Tryz.f82),(83,Tryz.f83),(84,Tryz.f84),(85,Tryz.f85),(86,Tryz.f86),(87,Tryz.f87),(88,Tryz.f88),(89,Tryz.f89),(90,Tryz.f90),(91,Tryz.f91),(92,Tryz.f92),(93,Tryz.f93),(94,Tryz.f94),(95,Tryz.f95),(96,Tryz.f96),(97,Tryz.f97),(98,Tryz.f98),(99,Tryz.f99),(100,Tryz.f100),(101,Tryz.f101),(102,Tryz.f102),(103,Tryz.f103),(104,Tryz.f104),(106,Tryz.f106),(107,Tryz.f107),(108,Tryz.f108),(109,Tryz.f109),(110,Tryz.f110),(111,Tryz.f111),(112,Tryz.f112),(113,Tryz.f113),(114,Tryz.f114),(115,Tryz.f115),(116,Tryz.f116),(117,Tryz.f117),(118,Tryz.f118),(119,Tryz.f119),(120,Tryz.f120),(121,Tryz.f121),(122,Tryz.f122),(123,Tryz.f123),(124,Tryz.f124),(125,Tryz.f125),(126,Tryz.f126),(127,Tryz.f127),(128,Tryz.f128),(129,Tryz.f129),(130,Tryz.f130),(131,Tryz.f131),(132,Tryz.f132),(133,Tryz.f133),(134,Tryz.f134),(141,Tryz.f141),(144,Tryz.f144),(145,Tryz.f145),(146,Tryz.f146),(147,Tryz.f147),(148,Tryz.f148),(149,Tryz.f149),(150,Tryz.f150),(151,Tryz.f151),(152,Tryz.f152),(153,Tryz.f153),(154,Tryz.f154),(155,Tryz.f155),(156,Tryz.f156),(157,Tryz.f157),(158,Tryz.f158),(159,Tryz.f159),(160,Tryz.f160),(161,Tryz.f161),(164,Tryz.f164),(166,Tryz.f166),(167,Tryz.f167),(168,Tryz.f168),(169,Tryz.f169),(170,Tryz.f170),(171,Tryz.f171),(172,Tryz.f172),(173,Tryz.f173),(174,Tryz.f174),(180,Tryz.f180),(181,Tryz.f181),(182,Tryz.f182),(183,Tryz.f183),(184,Tryz.f184),(185,Tryz.f185),(186,Tryz.f186),(187,Tryz.f187),(188,Tryz.f188),(189,Tryz.f189),(194,Tryz.f194),(195,Tryz.f195),(196,Tryz.f196),(197,Tryz.f197),(198,Tryz.f198),(201,Tryz.f201),(202,Tryz.f202),(203,Tryz.f203),(204,Tryz.f204),(205,Tryz.f205),(206,Tryz.f206),(207,Tryz.f207),(209,Tryz.f209),(210,Tryz.f210),(211,Tryz.f211),(220,Tryz.f220),(221,Tryz.f221),(222,Tryz.f222),(224,Tryz.f224),(225,Tryz.f225),(226,Tryz.f226),(227,Tryz.f227),(232,Tryz.f232),(233,Tryz.f233),(234,Tryz.f234),(235,Tryz.f235),(238,Tryz.f238),(239,Tryz.f239),(240,Tryz.f240),(241,Tryz.f241),(242,Tryz.f242)]
abbrev pF (f:FuncId) (fn:Func):Prop:=Tryz.prog.funcs[f]? = some fn∧∀ (args:Array Value) (w:World),(callFunc f args).run Tryz.prog w=.ok (.enter f args) w
theorem pf {f:FuncId} {fn:Func} (h:Tryz.prog.funcs[f]? = some fn) (h2:∀ (args:Array Value) (w:World),(callFunc f args).run Tryz.prog w=.ok (.enter f args) w):pF f fn:=⟨h,h2⟩
theorem fnOK:∀ f fn,lk fnTab f=some fn→Tryz.prog.funcs[f]? = some fn∧∀ (args:Array Value) (w:World),(callFunc f args).run Tryz.prog w=.ok (.enter f args) w:=by
 unfold fnTab
 change ∀ f fn,_→pF f fn
 exact lk_all (pf Tryz.func3 Tryz.call3) <| lk_all (pf Tryz.func4 Tryz.call4) <| lk_all (pf Tryz.func5 Tryz.call5) <| lk_all (pf Tryz.func6 Tryz.call6) <| lk_all (pf Tryz.func7 Tryz.call7) <| lk_all (pf Tryz.func8 Tryz.call8) <| lk_all (pf Tryz.func9 Tryz.call9) <| lk_all (pf Tryz.func10 Tryz.call10) <| lk_all (pf Tryz.func11 Tryz.call11) <| lk_all (pf Tryz.func12 Tryz.call12) <| lk_all (pf Tryz.func13 Tryz.call13) <| lk_all (pf Tryz.func14 Tryz.call14) <| lk_all (pf Tryz.func15 Tryz.call15) <| lk_all (pf Tryz.func16 Tryz.call16) <| lk_all (pf Tryz.func17 Tryz.call17) <| lk_all (pf Tryz.func18 Tryz.call18) <| lk_all (pf Tryz.func19 Tryz.call19) <| lk_all (pf Tryz.func20 Tryz.call20) <| lk_all (pf Tryz.func21 Tryz.call21) <| lk_all (pf Tryz.func22 Tryz.call22) <| lk_all (pf Tryz.func23 Tryz.call23) <| lk_all (pf Tryz.func24 Tryz.call24) <| lk_all (pf Tryz.func25 Tryz.call25) <| lk_all (pf Tryz.func26 Tryz.call26) <| lk_all (pf Tryz.func27 Tryz.call27) <| lk_all (pf Tryz.func28 Tryz.call28) <| lk_all (pf Tryz.func29 Tryz.call29) <| lk_all (pf Tryz.func30 Tryz.call30) <| lk_all (pf Tryz.func31 Tryz.call31) <| lk_all (pf Tryz.func32 Tryz.call32) <| lk_all (pf Tryz.func33 Tryz.call33) <| lk_all (pf Tryz.func34 Tryz.call34) <| lk_all (pf Tryz.func35 Tryz.call35) <| lk_all (pf Tryz.func36 Tryz.call36) <| lk_all (pf Tryz.func37 Tryz.call37) <| lk_all (pf Tryz.func38 Tryz.call38) <| lk_all (pf Tryz.func39 Tryz.call39) <| lk_all (pf Tryz.func40 Tryz.call40) <| lk_all (pf Tryz.func41 Tryz.call41) <| lk_all (pf Tryz.func42 Tryz.call42) <| lk_all (pf Tryz.func43 Tryz.call43) <| lk_all (pf Tryz.func44 Tryz.call44) <| lk_all (pf Tryz.func45 Tryz.call45) <| lk_all (pf Tryz.func46 Tryz.call46) <| lk_all (pf Tryz.func47 Tryz.call47) <| lk_all (pf Tryz.func48 Tryz.call48) <| lk_all (pf Tryz.func49 Tryz.call49) <| lk_all (pf Tryz.func50 Tryz.call50) <| lk_all (pf Tryz.func51 Tryz.call51) <| lk_all (pf Tryz.func52 Tryz.call52) <| lk_all (pf Tryz.func53 Tryz.call53) <| lk_all (pf Tryz.func54 Tryz.call54) <| lk_all (pf Tryz.func55 Tryz.call55) <| lk_all (pf Tryz.func56 Tryz.call56) <| lk_all (pf Tryz.func57 Tryz.call57) <| lk_all (pf Tryz.func58 Tryz.call58) <| lk_all (pf Tryz.func59 Tryz.call59) <| lk_all (pf Tryz.func60 Tryz.call60) <| lk_all (pf Tryz.func61 Tryz.call61) <| lk_all (pf Tryz.func62 Tryz.call62) <| lk_all (pf Tryz.func63 Tryz.call63) <| lk_all (pf Tryz.func64 Tryz.call64) <| lk_all (pf Tryz.func65 Tryz.call65) <| lk_all (pf Tryz.func66 Tryz.call66) <| lk_all (pf Tryz.func67 Tryz.call67) <| lk_all (pf Tryz.func68 Tryz.call68) <| lk_all (pf Tryz.func69 Tryz.call69) <| lk_all (pf Tryz.func70 Tryz.call70) <| lk_all (pf Tryz.func71 Tryz.call71) <| lk_all (pf Tryz.func73 Tryz.call73) <| lk_all (pf Tryz.func74 Tryz.call74) <| lk_all (pf Tryz.func75 Tryz.call75) <| lk_all (pf Tryz.func76 Tryz.call76) <| lk_all (pf Tryz.func77 Tryz.call77) <| lk_all (pf Tryz.func78 Tryz.call78) <| lk_all (pf Tryz.func79 Tryz.call79) <| lk_all (pf Tryz.func80 Tryz.call80) <| lk_all (pf Tryz.func81 Tryz.call81) <| lk_all (pf Tryz.func82 Tryz.call82) <| lk_all (pf Tryz.func83 Tryz.call83) <| lk_all (pf Tryz.func84 Tryz.call84) <| lk_all (pf Tryz.func85 Tryz.call85) <| lk_all (pf Tryz.func86 Tryz.call86) <| lk_all (pf Tryz.func87 Tryz.call87) <| lk_all (pf Tryz.func88 Tryz.call88) <| lk_all (pf Tryz.func89 Tryz.call89) <| lk_all (pf Tryz.func90 Tryz.call90) <| lk_all (pf Tryz.func91 Tryz.call91) <| lk_all (pf Tryz.func92 Tryz.call92) <| lk_all (pf Tryz.func93 Tryz.call93) <| lk_all (pf Tryz.func94 Tryz.call94) <| lk_all (pf Tryz.func95 Tryz.call95) <| lk_all (pf Tryz.func96 Tryz.call96) <| lk_all (pf Tryz.func97 Tryz.call97) <| lk_all (pf Tryz.func98 Tryz.call98) <| lk_all (pf Tryz.func99 Tryz.call99) <| lk_all (pf Tryz.func100 Tryz.call100) <| lk_all (pf Tryz.func101 Tryz.call101) <| lk_all (pf Tryz.func102 Tryz.call102) <| lk_all (pf Tryz.func103 Tryz.call103) <| lk_all (pf Tryz.func104 Tryz.call104) <| lk_all (pf Tryz.func106 Tryz.call106) <| lk_all (pf Tryz.func107 Tryz.call107) <| lk_all (pf Tryz.func108 Tryz.call108) <| lk_all (pf Tryz.func109 Tryz.call109) <| lk_all (pf Tryz.func110 Tryz.call110) <| lk_all (pf Tryz.func111 Tryz.call111) <| lk_all (pf Tryz.func112 Tryz.call112) <| lk_all (pf Tryz.func113 Tryz.call113) <| lk_all (pf Tryz.func114 Tryz.call114) <| lk_all (pf Tryz.func115 Tryz.call115) <| lk_all (pf Tryz.func116 Tryz.call116) <| lk_all (pf Tryz.func117 Tryz.call117) <| lk_all (pf Tryz.func118 Tryz.call118) <| lk_all (pf Tryz.func119 Tryz.call119) <| lk_all (pf Tryz.func120 Tryz.call120) <| lk_all (pf Tryz.func121 Tryz.call121) <| lk_all (pf Tryz.func122 Tryz.call122) <| lk_all (pf Tryz.func123 Tryz.call123) <| lk_all (pf Tryz.func124 Tryz.call124) <| lk_all (pf Tryz.func125 Tryz.call125) <| lk_all (pf Tryz.func126 Tryz.call126) <| lk_all (pf Tryz.func127 Tryz.call127) <| lk_all (pf Tryz.func128 Tryz.call128) <| lk_all (pf Tryz.func129 Tryz.call129) <| lk_all (pf Tryz.func130 Tryz.call130) <| lk_all (pf Tryz.func131 Tryz.call131) <| lk_all (pf Tryz.func132 Tryz.call132) <| lk_all (pf Tryz.func133 Tryz.call133) <| lk_all (pf Tryz.func134 Tryz.call134) <| lk_all (pf Tryz.func141 Tryz.call141) <| lk_all (pf Tryz.func144 Tryz.call144) <| lk_all (pf Tryz.func145 Tryz.call145) <| lk_all (pf Tryz.func146 Tryz.call146) <| lk_all (pf Tryz.func147 Tryz.call147) <| lk_all (pf Tryz.func148 Tryz.call148) <| lk_all (pf Tryz.func149 Tryz.call149) <| lk_all (pf Tryz.func150 Tryz.call150) <| lk_all (pf Tryz.func151 Tryz.call151) <| lk_all (pf Tryz.func152 Tryz.call152) <| lk_all (pf Tryz.func153 Tryz.call153) <| lk_all (pf Tryz.func154 Tryz.call154) <| lk_all (pf Tryz.func155 Tryz.call155) <| lk_all (pf Tryz.func156 Tryz.call156) <| lk_all (pf Tryz.func157 Tryz.call157) <| lk_all (pf Tryz.func158 Tryz.call158) <| lk_all (pf Tryz.func159 Tryz.call159) <| lk_all (pf Tryz.func160 Tryz.call160) <| lk_all (pf Tryz.func161 Tryz.call161) <| lk_all (pf Tryz.func164 Tryz.call164) <| lk_all (pf Tryz.func166 Tryz.call166) <| lk_all (pf Tryz.func167 Tryz.call167) <| lk_all (pf Tryz.func168 Tryz.call168) <| lk_all (pf Tryz.func169 Tryz.call169) <| lk_all (pf Tryz.func170 Tryz.call170) <| lk_all (pf Tryz.func171 Tryz.call171) <| lk_all (pf Tryz.func172 Tryz.call172) <| lk_all (pf Tryz.func173 Tryz.call173) <| lk_all (pf Tryz.func174 Tryz.call174) <| lk_all (pf Tryz.func180 Tryz.call180) <| lk_all (pf Tryz.func181 Tryz.call181) <| lk_all (pf Tryz.func182 Tryz.call182) <| lk_all (pf Tryz.func183 Tryz.call183) <| lk_all (pf Tryz.func184 Tryz.call184) <| lk_all (pf Tryz.func185 Tryz.call185) <| lk_all (pf Tryz.func186 Tryz.call186) <| lk_all (pf Tryz.func187 Tryz.call187) <| lk_all (pf Tryz.func188 Tryz.call188) <| lk_all (pf Tryz.func189 Tryz.call189) <| lk_all (pf Tryz.func194 Tryz.call194) <| lk_all (pf Tryz.func195 Tryz.call195) <| lk_all (pf Tryz.func196 Tryz.call196) <| lk_all (pf Tryz.func197 Tryz.call197) <| lk_all (pf Tryz.func198 Tryz.call198) <| lk_all (pf Tryz.func201 Tryz.call201) <| lk_all (pf Tryz.func202 Tryz.call202) <| lk_all (pf Tryz.func203 Tryz.call203) <| lk_all (pf Tryz.func204 Tryz.call204) <| lk_all (pf Tryz.func205 Tryz.call205) <| lk_all (pf Tryz.func206 Tryz.call206) <| lk_all (pf Tryz.func207 Tryz.call207) <| lk_all (pf Tryz.func209 Tryz.call209) <| lk_all (pf Tryz.func210 Tryz.call210) <| lk_all (pf Tryz.func211 Tryz.call211) <| lk_all (pf Tryz.func220 Tryz.call220) <| lk_all (pf Tryz.func221 Tryz.call221) <| lk_all (pf Tryz.func222 Tryz.call222) <| lk_all (pf Tryz.func224 Tryz.call224) <| lk_all (pf Tryz.func225 Tryz.call225) <| lk_all (pf Tryz.func226 Tryz.call226) <| lk_all (pf Tryz.func227 Tryz.call227) <| lk_all (pf Tryz.func232 Tryz.call232) <| lk_all (pf Tryz.func233 Tryz.call233) <| lk_all (pf Tryz.func234 Tryz.call234) <| lk_all (pf Tryz.func235 Tryz.call235) <| lk_all (pf Tryz.func238 Tryz.call238) <| lk_all (pf Tryz.func239 Tryz.call239) <| lk_all (pf Tryz.func240 Tryz.call240) <| lk_all (pf Tryz.func241 Tryz.call241) <| lk_all (pf Tryz.func242 Tryz.call242) <| lk_none
set_option maxRecDepth 100000 in
theorem eqOK53:EqOK Tryz.prog 53 [.str,.str]:=by
 refine ⟨by kernel_rfl,fun vs us h1 h2 w=>?_⟩
 rcases h1 with _ | ⟨⟨a0,rfl⟩,_ | ⟨⟨a1,rfl⟩,_ | _⟩⟩
 rcases h2 with _ | ⟨⟨b0,rfl⟩,_ | ⟨⟨b1,rfl⟩,_ | _⟩⟩
 have u9:=Tryz.underlying9
 have x9:=Tryz.isAgg9
 have z9:=Tryz.sizeOf9
 have hS:Tryz.prog.underlying 53=some (.struct (Tryz.prog.fieldsOf 53)):=by kernel_rfl
 have hp:Tryz.prog.stoodInHeld 53=false:=by kernel_rfl
 rw [show (10000:Nat)=9999+1 from rfl,run_equalIn_agg w 9999 53 _ _ hS hp]
 simp only [Program.fieldsOf,Tryz.underlying53]
 go_simp
 by_cases e0:a0.data.toList=b0.data.toList
 all_goals by_cases e1:a1.data.toList=b1.data.toList
 all_goals simp [eqVs,eqV,ByteArray.toList_eq,e0,e1]
set_option maxRecDepth 100000 in
theorem eqOK61:EqOK Tryz.prog 61 [.int .i64,.int .i64]:=by
 refine ⟨by kernel_rfl,fun vs us h1 h2 w=>?_⟩
 rcases h1 with _ | ⟨⟨a0,rfl⟩,_ | ⟨⟨a1,rfl⟩,_ | _⟩⟩
 rcases h2 with _ | ⟨⟨b0,rfl⟩,_ | ⟨⟨b1,rfl⟩,_ | _⟩⟩
 have u3:=Tryz.underlying3
 have x3:=Tryz.isAgg3
 have z3:=Tryz.sizeOf3
 have hS:Tryz.prog.underlying 61=some (.struct (Tryz.prog.fieldsOf 61)):=by kernel_rfl
 have hp:Tryz.prog.stoodInHeld 61=false:=by kernel_rfl
 rw [show (10000:Nat)=9999+1 from rfl,run_equalIn_agg w 9999 61 _ _ hS hp]
 simp only [Program.fieldsOf,Tryz.underlying61]
 go_simp
 by_cases e0:a0=b0
 all_goals by_cases e1:a1=b1
 all_goals simp [eqVs,eqV,ByteArray.toList_eq,e0,e1]
set_option maxRecDepth 100000 in
theorem eqOK85:EqOK Tryz.prog 85 [.int .i64,.int .i64]:=by
 refine ⟨by kernel_rfl,fun vs us h1 h2 w=>?_⟩
 rcases h1 with _ | ⟨⟨a0,rfl⟩,_ | ⟨⟨a1,rfl⟩,_ | _⟩⟩
 rcases h2 with _ | ⟨⟨b0,rfl⟩,_ | ⟨⟨b1,rfl⟩,_ | _⟩⟩
 have u3:=Tryz.underlying3
 have x3:=Tryz.isAgg3
 have z3:=Tryz.sizeOf3
 have hS:Tryz.prog.underlying 85=some (.struct (Tryz.prog.fieldsOf 85)):=by kernel_rfl
 have hp:Tryz.prog.stoodInHeld 85=false:=by kernel_rfl
 rw [show (10000:Nat)=9999+1 from rfl,run_equalIn_agg w 9999 85 _ _ hS hp]
 simp only [Program.fieldsOf,Tryz.underlying85]
 go_simp
 by_cases e0:a0=b0
 all_goals by_cases e1:a1=b1
 all_goals simp [eqVs,eqV,ByteArray.toList_eq,e0,e1]
set_option maxRecDepth 100000 in
theorem eqOK100:EqOK Tryz.prog 100 [.int .i64,.int .i64,.int .i64]:=by
 refine ⟨by kernel_rfl,fun vs us h1 h2 w=>?_⟩
 rcases h1 with _ | ⟨⟨a0,rfl⟩,_ | ⟨⟨a1,rfl⟩,_ | ⟨⟨a2,rfl⟩,_ | _⟩⟩⟩
 rcases h2 with _ | ⟨⟨b0,rfl⟩,_ | ⟨⟨b1,rfl⟩,_ | ⟨⟨b2,rfl⟩,_ | _⟩⟩⟩
 have u3:=Tryz.underlying3
 have x3:=Tryz.isAgg3
 have z3:=Tryz.sizeOf3
 have hS:Tryz.prog.underlying 100=some (.struct (Tryz.prog.fieldsOf 100)):=by kernel_rfl
 have hp:Tryz.prog.stoodInHeld 100=false:=by kernel_rfl
 rw [show (10000:Nat)=9999+1 from rfl,run_equalIn_agg w 9999 100 _ _ hS hp]
 simp only [Program.fieldsOf,Tryz.underlying100]
 go_simp
 by_cases e0:a0=b0
 all_goals by_cases e1:a1=b1
 all_goals by_cases e2:a2=b2
 all_goals simp [eqVs,eqV,ByteArray.toList_eq,e0,e1,e2]
set_option maxRecDepth 100000 in
theorem eqOK129:EqOK Tryz.prog 129 [.int .i64,.int .i64,.int .i64]:=by
 refine ⟨by kernel_rfl,fun vs us h1 h2 w=>?_⟩
 rcases h1 with _ | ⟨⟨a0,rfl⟩,_ | ⟨⟨a1,rfl⟩,_ | ⟨⟨a2,rfl⟩,_ | _⟩⟩⟩
 rcases h2 with _ | ⟨⟨b0,rfl⟩,_ | ⟨⟨b1,rfl⟩,_ | ⟨⟨b2,rfl⟩,_ | _⟩⟩⟩
 have u3:=Tryz.underlying3
 have x3:=Tryz.isAgg3
 have z3:=Tryz.sizeOf3
 have hS:Tryz.prog.underlying 129=some (.struct (Tryz.prog.fieldsOf 129)):=by kernel_rfl
 have hp:Tryz.prog.stoodInHeld 129=false:=by kernel_rfl
 rw [show (10000:Nat)=9999+1 from rfl,run_equalIn_agg w 9999 129 _ _ hS hp]
 simp only [Program.fieldsOf,Tryz.underlying129]
 go_simp
 by_cases e0:a0=b0
 all_goals by_cases e1:a1=b1
 all_goals by_cases e2:a2=b2
 all_goals simp [eqVs,eqV,ByteArray.toList_eq,e0,e1,e2]
set_option maxRecDepth 100000 in
theorem eqOK142:EqOK Tryz.prog 142 [.int .i64,.int .i64,.int .i64]:=by
 refine ⟨by kernel_rfl,fun vs us h1 h2 w=>?_⟩
 rcases h1 with _ | ⟨⟨a0,rfl⟩,_ | ⟨⟨a1,rfl⟩,_ | ⟨⟨a2,rfl⟩,_ | _⟩⟩⟩
 rcases h2 with _ | ⟨⟨b0,rfl⟩,_ | ⟨⟨b1,rfl⟩,_ | ⟨⟨b2,rfl⟩,_ | _⟩⟩⟩
 have u3:=Tryz.underlying3
 have x3:=Tryz.isAgg3
 have z3:=Tryz.sizeOf3
 have hS:Tryz.prog.underlying 142=some (.struct (Tryz.prog.fieldsOf 142)):=by kernel_rfl
 have hp:Tryz.prog.stoodInHeld 142=false:=by kernel_rfl
 rw [show (10000:Nat)=9999+1 from rfl,run_equalIn_agg w 9999 142 _ _ hS hp]
 simp only [Program.fieldsOf,Tryz.underlying142]
 go_simp
 by_cases e0:a0=b0
 all_goals by_cases e1:a1=b1
 all_goals by_cases e2:a2=b2
 all_goals simp [eqVs,eqV,ByteArray.toList_eq,e0,e1,e2]
set_option maxRecDepth 100000 in
theorem eqOK150:EqOK Tryz.prog 150 [.bool]:=by
 refine ⟨by kernel_rfl,fun vs us h1 h2 w=>?_⟩
 rcases h1 with _ | ⟨⟨a0,rfl⟩,_ | _⟩
 rcases h2 with _ | ⟨⟨b0,rfl⟩,_ | _⟩
 have u4:=Tryz.underlying4
 have x4:=Tryz.isAgg4
 have z4:=Tryz.sizeOf4
 have hS:Tryz.prog.underlying 150=some (.struct (Tryz.prog.fieldsOf 150)):=by kernel_rfl
 have hp:Tryz.prog.stoodInHeld 150=false:=by kernel_rfl
 rw [show (10000:Nat)=9999+1 from rfl,run_equalIn_agg w 9999 150 _ _ hS hp]
 simp only [Program.fieldsOf,Tryz.underlying150]
 go_simp
 by_cases e0:a0=b0
 all_goals simp [eqVs,eqV,ByteArray.toList_eq,e0]
set_option maxRecDepth 100000 in
theorem eqOK173:EqOK Tryz.prog 173 [.int .i64,.int .i64,.int .i64]:=by
 refine ⟨by kernel_rfl,fun vs us h1 h2 w=>?_⟩
 rcases h1 with _ | ⟨⟨a0,rfl⟩,_ | ⟨⟨a1,rfl⟩,_ | ⟨⟨a2,rfl⟩,_ | _⟩⟩⟩
 rcases h2 with _ | ⟨⟨b0,rfl⟩,_ | ⟨⟨b1,rfl⟩,_ | ⟨⟨b2,rfl⟩,_ | _⟩⟩⟩
 have u3:=Tryz.underlying3
 have x3:=Tryz.isAgg3
 have z3:=Tryz.sizeOf3
 have hS:Tryz.prog.underlying 173=some (.struct (Tryz.prog.fieldsOf 173)):=by kernel_rfl
 have hp:Tryz.prog.stoodInHeld 173=false:=by kernel_rfl
 rw [show (10000:Nat)=9999+1 from rfl,run_equalIn_agg w 9999 173 _ _ hS hp]
 simp only [Program.fieldsOf,Tryz.underlying173]
 go_simp
 by_cases e0:a0=b0
 all_goals by_cases e1:a1=b1
 all_goals by_cases e2:a2=b2
 all_goals simp [eqVs,eqV,ByteArray.toList_eq,e0,e1,e2]
set_option maxRecDepth 100000 in
theorem eqOK22:EqOK Tryz.prog 22 [.int .i64,.int .i64,.int .i64,.int .i64]:=by
 refine ⟨by kernel_rfl,fun vs us h1 h2 w=>?_⟩
 rcases h1 with _ | ⟨⟨a0,rfl⟩,_ | ⟨⟨a1,rfl⟩,_ | ⟨⟨a2,rfl⟩,_ | ⟨⟨a3,rfl⟩,_ | _⟩⟩⟩⟩
 rcases h2 with _ | ⟨⟨b0,rfl⟩,_ | ⟨⟨b1,rfl⟩,_ | ⟨⟨b2,rfl⟩,_ | ⟨⟨b3,rfl⟩,_ | _⟩⟩⟩⟩
 have u3:=Tryz.underlying3
 have x3:=Tryz.isAgg3
 have z3:=Tryz.sizeOf3
 have hc:Tryz.prog.cellsOf 3=1:=by kernel_rfl
 rw [show (10000:Nat)=9999+1 from rfl,run_equalIn_array w 9999 (t:=22) (e:=3) (n:=4) _ _ (by kernel_rfl) (show Tryz.prog.info? 3=some _ from rfl),hc]
 simp only [show List.range 4=[0,1,2,3] from rfl,Op.eqItems]
 go_simp
 by_cases e0:a0=b0
 all_goals by_cases e1:a1=b1
 all_goals by_cases e2:a2=b2
 all_goals by_cases e3:a3=b3
 all_goals simp [eqVs,eqV,e0,e1,e2,e3]
set_option maxRecDepth 100000 in
theorem eqOK24:EqOK Tryz.prog 24 [.int .i64,.int .i64,.int .i64]:=by
 refine ⟨by kernel_rfl,fun vs us h1 h2 w=>?_⟩
 rcases h1 with _ | ⟨⟨a0,rfl⟩,_ | ⟨⟨a1,rfl⟩,_ | ⟨⟨a2,rfl⟩,_ | _⟩⟩⟩
 rcases h2 with _ | ⟨⟨b0,rfl⟩,_ | ⟨⟨b1,rfl⟩,_ | ⟨⟨b2,rfl⟩,_ | _⟩⟩⟩
 have u3:=Tryz.underlying3
 have x3:=Tryz.isAgg3
 have z3:=Tryz.sizeOf3
 have hc:Tryz.prog.cellsOf 3=1:=by kernel_rfl
 rw [show (10000:Nat)=9999+1 from rfl,run_equalIn_array w 9999 (t:=24) (e:=3) (n:=3) _ _ (by kernel_rfl) (show Tryz.prog.info? 3=some _ from rfl),hc]
 simp only [show List.range 3=[0,1,2] from rfl,Op.eqItems]
 go_simp
 by_cases e0:a0=b0
 all_goals by_cases e1:a1=b1
 all_goals by_cases e2:a2=b2
 all_goals simp [eqVs,eqV,e0,e1,e2]
set_option maxRecDepth 100000 in
theorem eqOK75:EqOK Tryz.prog 75 [.int .i64,.int .i64]:=by
 refine ⟨by kernel_rfl,fun vs us h1 h2 w=>?_⟩
 rcases h1 with _ | ⟨⟨a0,rfl⟩,_ | ⟨⟨a1,rfl⟩,_ | _⟩⟩
 rcases h2 with _ | ⟨⟨b0,rfl⟩,_ | ⟨⟨b1,rfl⟩,_ | _⟩⟩
 have u3:=Tryz.underlying3
 have x3:=Tryz.isAgg3
 have z3:=Tryz.sizeOf3
 have hc:Tryz.prog.cellsOf 3=1:=by kernel_rfl
 rw [show (10000:Nat)=9999+1 from rfl,run_equalIn_array w 9999 (t:=75) (e:=3) (n:=2) _ _ (by kernel_rfl) (show Tryz.prog.info? 3=some _ from rfl),hc]
 simp only [show List.range 2=[0,1] from rfl,Op.eqItems]
 go_simp
 by_cases e0:a0=b0
 all_goals by_cases e1:a1=b1
 all_goals simp [eqVs,eqV,e0,e1]
def eqTab:List (TypeId×List Ty):=[(53,[.str,.str]),(61,[.int .i64,.int .i64]),(85,[.int .i64,.int .i64]),(100,[.int .i64,.int .i64,.int .i64]),(129,[.int .i64,.int .i64,.int .i64]),(142,[.int .i64,.int .i64,.int .i64]),(150,[.bool]),(173,[.int .i64,.int .i64,.int .i64]),(22,[.int .i64,.int .i64,.int .i64,.int .i64]),(24,[.int .i64,.int .i64,.int .i64]),(75,[.int .i64,.int .i64])]
theorem eqsOK:∀ t ks,lk eqTab t=some ks→EqOK Tryz.prog t ks:=by
 unfold eqTab
 refine lk_all (p:=fun t ks=>EqOK Tryz.prog t ks) eqOK53 ?_
 refine lk_all (p:=fun t ks=>EqOK Tryz.prog t ks) eqOK61 ?_
 refine lk_all (p:=fun t ks=>EqOK Tryz.prog t ks) eqOK85 ?_
 refine lk_all (p:=fun t ks=>EqOK Tryz.prog t ks) eqOK100 ?_
 refine lk_all (p:=fun t ks=>EqOK Tryz.prog t ks) eqOK129 ?_
 refine lk_all (p:=fun t ks=>EqOK Tryz.prog t ks) eqOK142 ?_
 refine lk_all (p:=fun t ks=>EqOK Tryz.prog t ks) eqOK150 ?_
 refine lk_all (p:=fun t ks=>EqOK Tryz.prog t ks) eqOK173 ?_
 refine lk_all (p:=fun t ks=>EqOK Tryz.prog t ks) eqOK22 ?_
 refine lk_all (p:=fun t ks=>EqOK Tryz.prog t ks) eqOK24 ?_
 refine lk_all (p:=fun t ks=>EqOK Tryz.prog t ks) eqOK75 ?_
 exact lk_none
def btTab:List (TypeId×TypeId×TypeId):=[(203,203,5)]
theorem bt203:BltOK Tryz.prog 203 203 5:=⟨by decide,by kernel_rfl,by kernel_rfl,_,Tryz.zeroValue203,rfl⟩
theorem btOK:∀ T x,lk btTab T=some x→BltOK Tryz.prog T x.1 x.2:=by
 unfold btTab
 refine lk_all (p:=fun T (x:TypeId×TypeId)=>BltOK Tryz.prog T x.1 x.2) bt203 ?_
 exact lk_none
noncomputable def tabs0:Tabs:=⟨tyTab,fnTab,[],[],[],eqTab,[],[],[],btTab,[]⟩
theorem tabs0OK:TabOK Tryz.prog tabs0:=⟨tyOK,fnOK,(fun _ _ h=>by cases h),(fun _ _ h=>by cases h),by kernel_rfl,(fun _ h=>by cases h),eqsOK,(fun _ h=>by cases h),(fun _ _ h=>by cases h),(fun _ _ h=>by cases h),btOK,(fun _ _ h=>by cases h)⟩
end Go.Proofs.YtdaaoecjdhipjaaGreatDoor
namespace Go.PE
open Go Go.RowKit Go.Abs Go.Sort
open Go.Proofs (ltOf)

def clampT:(t:Ty)→t.den→t.den
 | .int k,x=>k.wrap x
 | .bool,x=>x
 | .str,x=>List.take maxLen x
 | .list _,x=>x
 | .one t,x=>clampT t x
 | .pair a b,x=>(clampT a x.1,clampT b x.2)
def encF:(t:Ty)→t.den→List Value
 | .int k,x=>[.int k x]
 | .bool,x=>[.bool x]
 | .str,x=>[.string ⟨List.toArray x⟩]
 | .list _,_=>[.slice none 0 0]
 | .one t,x=>encF t x
 | .pair a b,x=>encF a x.1++encF b x.2
def encT (t:Ty) (x:t.den):List Value:=encF t (clampT t x)
section
variable {S:Cells} {w:World} {η:Eta}
end
theorem getB {α:Type} [Inhabited α] {a:Array α} {i:Nat} (h:i<a.size):a[i]! = a[i]:=getElem!_pos a i h
end Go.PE
namespace Go.PE
open Go Go.RowKit Go.Abs Go.Sort

def insI (x:Int):List Int→List Int
 | []=>[x]
 | y::r=>bif leM x y then x::y::r else y::insI x r
def isortI:List Int→List Int
 | []=>[]
 | x::r=>insI x (isortI r)
theorem insI_perm (x:Int):∀ l,(insI x l).Perm (x::l)
 | []=>.refl _
 | y::r=>by
  unfold insI
  cases leM x y
  ·exact ((insI_perm x r).cons y).trans (.swap x y r)
  ·exact .refl _
theorem isortI_perm:∀ l,(isortI l).Perm l
 | []=>.refl _
 | x::r=>(insI_perm x (isortI r)).trans ((isortI_perm r).cons x)
theorem insI_sorted (x:Int):∀ {l:List Int},List.Pairwise (·≤·) l→List.Pairwise (·≤·) (insI x l)
 | [],_=>by unfold insI;simp
 | y::r,h=>by
  unfold insI
  have h2:=List.pairwise_cons.1 h
  cases hb:leM x y with
  | true =>
   have hb':x≤y:=of_decide_eq_true hb
   refine List.pairwise_cons.2 ⟨fun z hz=>?_,h⟩
   rcases List.mem_cons.1 hz with rfl | hz
   ·exact hb'
   ·exact Int.le_trans hb' (h2.1 z hz)
  | false =>
   have hb':¬ x≤y:=of_decide_eq_false hb
   refine List.pairwise_cons.2 ⟨fun z hz=>?_,insI_sorted x h2.2⟩
   rcases List.mem_cons.1 ((insI_perm x r).mem_iff.1 hz) with rfl | hz
   ·omega
   ·exact h2.1 z hz
theorem isortI_sorted:∀ l,List.Pairwise (·≤·) (isortI l)
 | []=>.nil
 | x::r=>insI_sorted x (isortI_sorted r)
theorem merge_isortI (l:List Int):(l.mergeSort fun x y=>decide (x≤y))=isortI l:=by
 refine List.Perm.eq_of_pairwise (le:=fun x y=>x≤y) (fun a b _ _ h1 h2=>by omega) ?_ (isortI_sorted l) ((List.mergeSort_perm l _).trans (isortI_perm l).symm)
 have:=List.pairwise_mergeSort (le:=fun (x y:Int)=>decide (x≤y)) (fun a b c h1 h2=>by simp at *;omega) (fun a b=>by simp;omega) l
 exact this.imp fun h=>by simpa using h
def sortI (xs:List Int):Option (List Int):=match decide (xs.length<4611686018427387904) with
 | true=>some (isortI xs)
 | false=>none
section
variable {B:Nat} {S F:Cells} {w w':World}
theorem world_put {b off cap n:Nat} {xs d:List Int} {os:Array Obj} (hin:InLt S w) (hF:∀ b o,F b o→B≤b∧b<w.heap.size∧¬ S b o) (hFe:∀ b' o,F b' o↔b'=b∧off≤o∧o<off+cap*1) (c1:xs.length≤cap) (hn:0<xs.length)
  (ht:∀ o,off≤o→o<off+cap*1→World.there w b o) (hH:Holds (Value.int .i64) w b off xs.toArray) (hd:d.length=xs.length) (hw:w'=grow (putRow (Value.int .i64) (Go.Sort.ahead w n) b off d.toArray) os) :
  Grow B S w S w'∧(∀ j,j<xs.length→w'.cell? ⟨b,off+j,none⟩=some (.int .i64 (d.toArray)[j]!))∧(∀ b' o,b'<w.heap.size→¬ F b' o→w'.cell? ⟨b',o,none⟩=w.cell? ⟨b',o,none⟩∧w'.frozen? ⟨b',o,none⟩=w.frozen? ⟨b',o,none⟩) ∧
   (∀ b',b'<w.heap.size→(∀ o,¬ F b' o)→w'.heap[b']? = w.heap[b']?)∧∀ o,off≤o→o<off+cap*1→World.there w' b o:=by
 have hin1:∀ j,j<xs.length→F b (off+j):=fun j hj=>(hFe _ _).2 ⟨rfl,by omega,by omega⟩
 obtain ⟨hBb,hblk,_⟩:=hF b (off+0) (hin1 0 hn)
 have hH1:Holds (Value.int .i64) (Go.Sort.ahead w n) b off xs.toArray:=hH
 have hfs:d.toArray.size=xs.toArray.size:=by simpa using hd
 have hfn:d.toArray.size=xs.length:=by simpa using hd
 have hps:(putRow (Value.int .i64) (Go.Sort.ahead w n) b off d.toArray).heap.size=w.heap.size:=by rw [size_putRow];rfl
 have cin:∀ j,j<xs.length→w'.cell? ⟨b,off+j,none⟩=some (.int .i64 (d.toArray)[j]!):=fun j hj=>by
  rw [hw,cell?_grow _ _ _ (by rw [hps];exact hblk)]
  exact cell?_putRow (Value.int .i64) _ b off _ _ hH1 hfs j (by rw [hfn];exact hj)
 have cout:∀ b' o,b'<w.heap.size→(b'≠b∨o<off∨off+xs.length≤o)→w'.cell? ⟨b',o,none⟩=w.cell? ⟨b',o,none⟩:=fun b' o hb' ho=>by
  rw [hw,cell?_grow _ _ _ (by rw [hps];exact hb'),cell?_putRow_other (Value.int .i64) _ b off _ _ (by rw [hfn];exact ho)]
  rfl
 have fout:∀ b' o,b'<w.heap.size→w'.frozen? ⟨b',o,none⟩=w.frozen? ⟨b',o,none⟩:=fun b' o hb'=>by
  rw [hw,frozen?_grow _ _ _ (by rw [hps];exact hb'),frozen?_putRow]
  rfl
 have hout:∀ b',b'<w.heap.size→b'≠b→w'.heap[b']? = w.heap[b']? := fun b' hb' hne=>by
  rw [hw,heap_grow_old _ _ (by rw [hps];exact hb')]
  show (w.heap.modify b _)[b']? = _
  rw [Array.getElem?_modify,if_neg (Ne.symm hne)]
 have hcut:∀ b' o,¬ F b' o→(b'≠b∨o<off∨off+xs.length≤o):=fun b' o hno=>by
  by_cases e:b'=b
  ·subst e
   refine .inr ?_
   rcases Nat.lt_or_ge o off with h1 | h1
   ·exact .inl h1
   ·rcases Nat.lt_or_ge o (off+xs.length) with h2 | h2
    ·have:=hin1 (o-off) (by omega)
     rw [show off+(o-off)=o by omega] at this
     exact absurd this hno
    ·exact .inr h2
  ·exact .inl e
 have hkeep:Keep S w S w':=⟨fun _ _ h=>h,fun b' o hs=>cout b' o (hin b' o hs) (hcut b' o fun hf'=>(hF b' o hf').2.2 hs)⟩
 have hcells:∃ c e fr,w.heap[b]? = some (.cells c e fr):=by
  obtain ⟨⟨v,hv⟩,_⟩:=ht (off+0) (by omega) (by omega)
  obtain ⟨c,e,fr,h1,_⟩:=cells_of_cell? hv
  exact ⟨c,e,fr,h1⟩
 refine ⟨⟨⟨by rw [hw];rfl,by rw [hw];rfl,by rw [hw];rfl,by rw [hw,size_grow,hps];omega,fun k hk=>hout k (by omega) (by omega)⟩,hkeep,fun b' o hs=>?_,fun _ _ h=>.inl h,.of ?_ fun b' o ho hne=>?_⟩,cin,fun b' o hb' hno=>⟨cout b' o hb' (hcut b' o hno),fout b' o hb'⟩,fun b' hb' hno=>hout b' hb' fun e=>?_,fun o h1 h2=>⟨?_,by rw [fout b o hblk];exact (ht o h1 h2).2⟩⟩
 ·have:=hin b' o hs
  rw [hw,size_grow,hps];omega
 ·rw [hw]
  show w.drawn≤w.drawn+n
  omega
 ·by_cases e:b'=b
  ·subst e
   obtain ⟨c,el,fr,hc⟩:=hcells
   rw [hc] at ho
   exact absurd (Option.some.inj ho).symm (hne _ _ _)
  ·rw [hout b' (Array.getElem?_eq_some_iff.1 ho).1 e];exact ho
 ·subst e
  exact hno _ (hin1 0 hn)
 ·by_cases ho:o<off+xs.length
  ·have:=cin (o-off) (by omega)
   rw [show off+(o-off)=o by omega] at this
   exact ⟨_,this⟩
  ·rw [cout b o hblk (.inr (.inr (by omega)))]
   exact (ht o h1 h2).1
theorem rep_int {x:Int} {es:List Value} (h:Rep S w (.int .i64) x es):es=[.int .i64 x]∧IntKind.i64.has x:=⟨h.1,h.2⟩
theorem holds_of {b off:Nat} {xs:List Int} {cap:Nat} (c1:xs.length≤cap) (ht:∀ o,off≤o→o<off+cap*1→World.there w b o) (hx:∀ (i:Nat) (x:Int),xs[i]? = some x→∃ es,Rep S w (.int .i64) x es∧∀ j v,es[j]? = some v→w.cell? ⟨b,off+i*1+j,none⟩=some v) :
  Holds (Value.int .i64) w b off xs.toArray∧∀ x∈xs,IntKind.i64.has x:=by
 refine ⟨fun j hj=>?_,fun x hx'=>?_⟩
 ·have hj':j<xs.length:=by simpa using hj
  obtain ⟨es,he,hc⟩:=hx j xs[j] (List.getElem?_eq_getElem hj')
  obtain ⟨rfl,_⟩:=rep_int he
  have:=hc 0 _ rfl
  refine ⟨?_,(ht (off+j) (by omega) (by omega)).2⟩
  rw [getB hj]
  simpa using this
 ·obtain ⟨i,hi,rfl⟩:=List.getElem_of_mem hx'
  obtain ⟨es,he,_⟩:=hx i _ (List.getElem?_eq_getElem hi)
  exact (rep_int he).2
end
theorem so1_sort {P:Program} {ρ:Go.Shelf.Ren} (L:Go.Proofs.Lays.n189 P ρ) {f:FuncId} (hfid:ρ.f 189=f) (ef:∀ (args:Array Value) (w:World),(callFunc f args).run P w=.ok (.enter f args) w):So1OK P ⟨f,.int .i64,false,sortI⟩:=by
 refine ⟨ef,fun xs ys h B S F w u hB hin hF hA=>?_⟩
 have h:sortI xs=some ys:=h
 have hA:ArrH F S w u (.int .i64) xs:=hA
 show Calls P f #[u] w _
 unfold sortI at h
 split at h
 ·rename_i hlt
  have hlt:=of_decide_eq_true hlt
  have hy:=Option.some.inj h
  have hperm:=isortI_perm xs
  rw [hy] at hperm
  have hyl:ys.length=xs.length:=hperm.length_eq
  obtain ⟨base,cap,rfl,c1,c2,c3⟩:=hA
  by_cases hn:xs.length=0
  ·have hxs:xs=[]:=List.eq_nil_of_length_eq_zero hn
   have hys:ys=[]:=List.eq_nil_of_length_eq_zero (by omega)
   subst hxs hys
   have hc:=Go.Proofs.Any.slices_Sort_int_none L base cap w
   rw [hfid] at hc
   exact hc.mono fun en w' ⟨he,hw⟩=>by
    subst hw
    exact ⟨_,.slice base 0 cap,he,fun h=>(by cases h),fun _=>⟨rfl,rfl⟩,rfl,Grow.refl hin,⟨base,cap,rfl,c1,c2,c3⟩,fun _ _ _ _=>⟨rfl,rfl⟩,fun _ _ _=>rfl⟩
  ·rcases c3 with c3 | ⟨b,off,rfl,hFe,ht,hx⟩
   ·omega
   obtain ⟨hH,hhas⟩:=holds_of c1 ht hx
   have hblk:b<w.heap.size:=(hF b (off+0) ((hFe _ _).2 ⟨rfl,by omega,by show off+0<off+cap*1;omega⟩)).2.1
   have hc:=Go.Proofs.Any.slices_Sort_int L b off cap xs w hH hblk hlt
   rw [hfid,merge_isortI,hy] at hc
   refine hc.mono fun en w' ⟨he,n,os,hw⟩=>?_
   obtain ⟨g1,g2,g3,g4,g5⟩:=world_put hin hF hFe c1 (by omega) ht hH hyl hw
   refine ⟨_,.slice (some ⟨b,off,none⟩) xs.length cap,he,fun h=>(by cases h),fun _=>⟨rfl,rfl⟩,rfl,g1,⟨_,cap,by rw [hyl],by rw [hyl];exact c1,c2,.inr ⟨b,off,rfl,hFe,g5,fun i y hi=>?_⟩⟩,g3,g4⟩
   have hil:=(List.getElem?_eq_some_iff.1 hi).1
   have hmem:y∈xs:=hperm.mem_iff.1 (List.mem_of_getElem? hi)
   refine ⟨[.int .i64 y],⟨rfl,hhas y hmem⟩,fun j v hj=>?_⟩
   cases j with
   | zero =>
    cases hj
    have e:ys.toArray[i]! = y:=by rw [getB (by simpa using hil)];simpa using (List.getElem?_eq_some_iff.1 hi).2
    show w'.cell? ⟨b,off+i*1+0,none⟩=_
    rw [Nat.mul_one,Nat.add_zero,g2 i (by omega),e]
   | succ j=>simp at hj
 ·cases h
end Go.PE
namespace Go.PE
open Go Go.RowKit Go.Abs Go.Shelf Go.Proofs Go.Sort

section
variable {P:Program} {w:World}
theorem run_append_str (base:Nat) (t u ty e:TypeId) (i:TypeInfo) (ht:P.underlying t=some (.slice e)) (hu:P.underlying u=some .string) (hi:P.info? e=some i) (hz:i.zero=some (.int .u8 0))
  (hsize:i.size=1) (hby:i.bytes=1) (v:Value) (n:Nat) (xs:List Value) (hown:w.ownsRow base e 1 v n xs) (s:ByteArray)
  (h63:n+s.size≤maxLen) (hbytes:n+s.size≤140737488355328) (hbase:base≤w.heap.size) :
  ∃ v' w',(Builtin.append_ #[t,u] ty #[v,.string s]).run P w=.ok v' w'∧w'.ownsRow base e 1 v' (n+s.size) (xs++Lib.strCells s)∧w.grownBy w' v.ownBlock ∧
   (v'=.slice none 0 0↔v=.slice none 0 0∧s.size=0)∧LK w w'∧∀ k,v'.ownBlock=some k→v.ownBlock=some k∨w.heap.size≤k:=by
 obtain ⟨v',w',hr,h2,h3,h4⟩:=Lib.run_append_own_string (P:=P) w base t u ty e i ht hu hi hz hsize hby v n xs hown s h63 hbytes hbase
 refine ⟨v',w',hr,h2,h3,h4,?_⟩
 have hxl:xs.length=n:=by simpa using hown.1
 rcases hown.2 with ⟨rfl,rfl⟩ | ⟨g,cap,cur,rfl,hbg,hg,hnc,hcm,hcs,htake⟩
 ·by_cases hm:s.size=0
  ·have hv:v'=.slice none 0 0:=h4.2 ⟨rfl,hm⟩
   refine ⟨⟨fun b r hb=>⟨r,by rw [h3.block b (Array.getElem?_eq_some_iff.1 hb).1 (by simp [Value.ownBlock])];exact hb,rfl,rfl,rfl,rfl,rfl⟩,fun b hb=>by rw [h3.block b (Array.getElem?_eq_some_iff.1 hb).1 (by simp [Value.ownBlock])];exact hb,fun _=>?_⟩,fun k hk=>by rw [hv] at hk;cases hk⟩
   have hf:=Lib.run_firstCells_string (P:=P) w 1 s
   rw [hm] at hf
   have:(Builtin.append_ #[t,u] ty #[.slice none 0 0,.string s]).run P w=.ok (.slice none 0 0) w:=by
    simp [Builtin.append_,run_underlying ht,run_underlying hu,Go.sizeOf,typeInfo,hi,hsize,Builtin.lenOf,hm,hf]
   rw [this] at hr
   cases hr
   exact Nat.le_refl _
  ·have hr2:=run_append_nil_string (P:=P) w t u ty e i (.int .u8 0) ht hu hi hz s (by omega) (by omega) (by rw [hby];omega)
   rw [hr2] at hr
   cases hr
   exact ⟨(LK.drew _).trans (LK.alloc _ _),fun k hk=>by cases hk;exact .inr (Nat.le_refl _)⟩
 ·by_cases hroom:n+s.size≤cap
  ·have hcs':cur.size=cap:=by simpa using hcs
   have hr2:=Lib.run_append_room_string (P:=P) (w:=w) t u ty e i ht hu hi hsize g n cap cur hg s hroom (by omega)
   rw [hr2] at hr
   cases hr
   refine ⟨.of (Nat.le_refl _) fun b o hb hne=>?_,fun k hk=>.inl hk⟩
   by_cases hbg:b=g
   ·subst hbg
    rw [hg] at hb
    cases hb
    exact absurd rfl (hne _ _ _)
   ·rw [setRow_other w g b _ hbg];exact hb
  ·have holds:∀ j u,xs[j]? = some u→w.cell? ((⟨g,0,none⟩:Addr).add j)=some u:=hown.cells (g:=g) rfl
   have hr2:=Lib.run_append_grow_string (P:=P) (w:=w) t u ty e i (.int .u8 0) ht hu hi hz ⟨g,0,none⟩ n cap xs (by rw [hsize];simpa using hxl) holds s (by omega) (by omega) (by rw [hby];exact growslice_fits (by omega) (by omega))
   rw [hr2] at hr
   cases hr
   exact ⟨(LK.drew _).trans (LK.alloc _ _),fun k hk=>by cases hk;exact .inr (Nat.le_refl _)⟩
theorem wpList_append_str {ops:Array Oper} {rest:List Oper} {o:Oper} {a:Act} {Q:Exit→Act→World→Prop} (hgd:o.guard=none) (sl x:Operand) (t u:TypeId)
  (ho:o.op=.call { callee:=.builtin .append,args:=#[sl,x],argTypes:=#[t,u] })
  (base:Nat) (e:TypeId) (i:TypeInfo) (ht:P.underlying t=some (.slice e)) (hu:P.underlying u=some .string) (hi:P.info? e=some i) (hz:i.zero=some (.int .u8 0))
  (hsize:i.size=1) (hby:i.bytes=1)
  (v:Value) (n:Nat) (xs:List Value) (hs:a.eval sl=v) (hown:w.ownsRow base e 1 v n xs) (s:ByteArray) (hx:a.eval x=.string s)
  (h63:n+s.size≤maxLen) (hbytes:n+s.size≤140737488355328) (hbase:base≤w.heap.size)
  (h:∀ v' w',w'.ownsRow base e 1 v' (n+s.size) (xs++Lib.strCells s)→w.grownBy w' v.ownBlock→(v'=.slice none 0 0↔v=.slice none 0 0∧s.size=0)→LK w w'→(∀ k,v'.ownBlock=some k→v.ownBlock=some k∨w.heap.size≤k)→wpList P ops Q rest (a.put o.dst v') w'):wpList P ops Q (o::rest) a w:=by
 refine wpList_plain hgd fun K hK=>?_
 obtain ⟨v',w',hr,h2,h3,h4,h5,h6⟩:=run_append_str (P:=P) base t u o.type e i ht hu hi hz hsize hby v n xs hown s h63 hbytes hbase
 unfold Oper.wp execOp
 simp only [ho,resolve,invoke,builtin,Sem.run_bind,Sem.run_pure,Result.andThen_ok,List.map_toArray,List.map_cons,List.map_nil,hs,hx,hr]
 exact hK _ _ (h v' w' h2 h3 h4 h5 h6)
end

section
variable {P:Program} {ρ:Ren}
theorem BldChg.refl (w:World) (b:Nat) (u:Value):BldChg w w b u u:=⟨rfl,rfl,rfl,Nat.le_refl _,LK.refl _,fun _ _ _ _=>rfl,fun _ h=>.inl h⟩
theorem bldChg_set {w:World} {b:Nat} {u u':Value} (o:Nat) (v:Value) (h:∀ k,u'.ownBlock=some k→u.ownBlock=some k∨w.heap.size≤k):BldChg w (w.setCell ⟨b,o,none⟩ v) b u u' :=
 ⟨rfl,rfl,rfl,by simp,LK.setCell _ _ _,fun k hk hne _=>by
  show (w.heap.modify b _)[k]? = _
  rw [Array.getElem?_modify,if_neg (Ne.symm hne)],h⟩
theorem BldChg.trans {w1 w2 w3:World} {b:Nat} {u1 u2 u3:Value} (h:BldChg w1 w2 b u1 u2) (k:BldChg w2 w3 b u2 u3):BldChg w1 w3 b u1 u3 :=
 ⟨k.os.trans h.os,k.tape.trans h.tape,k.output.trans h.output,Nat.le_trans h.size k.size,h.lk.trans k.lk,fun j hj h1 h2=>by
  rw [k.block j (Nat.lt_of_lt_of_le hj h.size) h1 (fun e=>?_),h.block j hj h1 h2]
  rcases h.own j e with h3 | h3
  ·exact h2 h3
  ·omega,fun j hj=>by
  rcases k.own j hj with h1 | h1
  ·exact h.own j h1
  ·exact .inr (Nat.le_trans h.size h1)⟩
theorem freeze_same (w:World) (a:Addr) (n:Nat):(w.freeze a n).os=w.os∧(w.freeze a n).tape=w.tape∧(w.freeze a n).output=w.output∧(w.freeze a n).heap.size=w.heap.size∧(w.freeze a n).drawn=w.drawn:=by
 unfold World.freeze
 split<;>simp
def BldUsed (w:World) (b:Nat) (T e:TypeId) (u:Value) (s:List UInt8):Prop:=w.heap[b]? = some (.cells #[.pointer (some ⟨b,0,none⟩),u] T (0,0))∧w.ownsRow 0 e 1 u s.length (bytV s)∧u.ownBlock≠some b∧(s=[]→u=.slice none 0 0)
theorem BldUsed.at {w:World} {b:Nat} {T e:TypeId} {u:Value} {s:List UInt8} (h:BldUsed w b T e u s):BldAt w b T e u s:=⟨_,h.1,.inr rfl,h.2.1,h.2.2.1,h.2.2.2⟩
set_option maxHeartbeats 1000000 in
set_option maxRecDepth 100000 in
theorem bld_fresh (L:Lays.n240 P ρ) {T e:TypeId} (hT:BltOK P T (ρ.t 72) e) (b:Nat) (w:World) (h0:w.cell? ⟨b,0,none⟩=some (.pointer none)) (hsh:w.shape? b=some (T,2)) (hfz:w.frozen? ⟨b,0,none⟩=false) :
  Calls P (ρ.f 240) #[.pointer (some ⟨b,0,none⟩)] w fun e w'=>e=.returned (.tuple #[])∧w'=w.setCell ⟨b,0,none⟩ (.pointer (some ⟨b,0,none⟩)):=by
 obtain ⟨j,hj,hjs⟩:=Option.map_eq_some_iff.1 hT.size
 have mixed:=L.mixed
 have t72:=L.t72;have a72:=L.a72;have z72:=L.z72;have v72:=L.v72;have u72:=run_underlying L.t72
 have t70:=L.t70;have a70:=L.a70;have z70:=L.z70;have v70:=L.v70;have u70:=run_underlying L.t70
 have t9:=L.t9;have a9:=L.a9;have z9:=L.z9;have v9:=L.v9;have u9:=run_underlying L.t9
 have t4:=L.t4;have a4:=L.a4;have z4:=L.z4;have v4:=L.v4;have u4:=run_underlying L.t4
 have t164:=L.t164;have a164:=L.a164;have z164:=L.z164;have v164:=L.v164;have u164:=run_underlying L.t164
 go_enter L.f240,Body.n240_ntmps ρ
 go_wp2
 rw [Lib.run_to_unsafe w ⟨b,0,none⟩ L.t70 L.t164 hj (by rw [hjs];decide) hsh (Nat.zero_lt_succ 1)]
 simp only [Result.andThen]
 rw [Oper.upon_value]
 go_wp2
 rw [run_callFunc_extern L.f276 (by kernel_rfl) (by kernel_rfl) (by kernel_rfl) (e:=Extern.AbiNoEscape.same) (by kernel_rfl)]
 rw [Lib.run_noEscape]
 simp only [Result.andThen]
 rw [Oper.upon_value]
 go_wp2
 rw [Lib.run_from_unsafe w ⟨b,0,none⟩ L.t164 L.t70 hj hsh hT.lies]
 simp only [Result.andThen]
 rw [Oper.upon_value]
 go_wp2
 go_end0
 exact ⟨rfl,rfl⟩
theorem bld_check (L:Lays.n240 P ρ) {T e:TypeId} (hT:BltOK P T (ρ.t 72) e) (X:Builder.X72 P ρ) (b:Nat) {u:Value} {s:List UInt8} (w:World) (h:BldAt w b T e u s) :
  Calls P (ρ.f 240) #[.pointer (some ⟨b,0,none⟩)] w fun en w'=>en=.returned (.tuple #[])∧BldUsed w' b T e u s∧BldChg w w' b u u:=by
 obtain ⟨p,h1,h2,h3,h4,h5⟩:=h
 rcases h2 with rfl | rfl
 ·refine (bld_fresh L hT b w (by rw [Lib.cell_of_heap h1];rfl) (by simp [World.shape?,h1]) (Lib.frozen_of_heap h1 0)).mono ?_
  rintro en w' ⟨rfl,rfl⟩
  refine ⟨rfl,⟨?_,?_,h4,h5⟩,bldChg_set 0 _ fun _ h=>.inl h⟩
  ·show (w.heap.modify b _)[b]? = _
   rw [Array.getElem?_modify,if_pos rfl,h1]
   rfl
  ·refine ⟨h3.1,?_⟩
   rcases h3.2 with h | ⟨g,cap,cur,hv,hb,hg,hr⟩
   ·exact .inl h
   ·refine .inr ⟨g,cap,cur,hv,hb,?_,hr⟩
    have hne:b≠g:=fun e=>h4 (by rw [hv,e];rfl)
    show (w.heap.modify b _)[g]? = _
    rw [Array.getElem?_modify,if_neg hne,hg]
 ·refine (Any.Builder_copyCheck_used L X b w (by rw [Lib.cell_of_heap h1];rfl)).mono ?_
  rintro en w' ⟨rfl,rfl⟩
  exact ⟨rfl,⟨h1,h3,h4,h5⟩,BldChg.refl _ _ _⟩
set_option maxHeartbeats 2000000 in
set_option maxRecDepth 100000 in
theorem bld_write (L:Lays.n166 P ρ) (X:Builder.Extra P ρ) {T:TypeId} (hT:BltOK P T (ρ.t 72) (ρ.t 5)) (b:Nat) (u:Value) (s t:List UInt8) (w:World) (h:BldAt w b T (ρ.t 5) u s) (hlen:s.length+t.length≤140737488355328) :
  Calls P (ρ.f 166) #[.pointer (some ⟨b,0,none⟩),.string ⟨t.toArray⟩] w fun en w'=>∃ u',en=.returned (.tuple #[.int .i64 t.length,.nilIface])∧BldAt w' b T (ρ.t 5) u' (s++t)∧BldChg w w' b u u':=by
 obtain ⟨i0,hi,hz0,hz1,hz2⟩:=info_parts X.infoByte
 have hts:(ByteArray.mk t.toArray).size=t.length:=by simp [ByteArray.size]
 have mixed:=L.mixed
 have t72:=L.t72;have a72:=L.a72;have z72:=L.z72;have v72:=L.v72;have u72:=run_underlying L.t72
 have t70:=L.t70;have a70:=L.a70;have z70:=L.z70;have v70:=L.v70;have u70:=run_underlying L.t70
 have t37:=L.t37;have a37:=L.a37;have z37:=L.z37;have v37:=L.v37;have u37:=run_underlying L.t37
 have t3:=L.t3;have a3:=L.a3;have z3:=L.z3;have v3:=L.v3;have u3:=run_underlying L.t3
 have t9:=L.t9;have a9:=L.a9;have z9:=L.z9;have v9:=L.v9;have u9:=run_underlying L.t9
 have t4:=L.t4;have a4:=L.a4;have z4:=L.z4;have v4:=L.v4;have u4:=run_underlying L.t4
 have t164:=L.t164;have a164:=L.a164;have z164:=L.z164;have v164:=L.v164;have u164:=run_underlying L.t164
 have t5:=X.t5;have a5:=X.a5;have z5:=X.z5;have v5:=X.v5;have u5:=run_underlying X.t5
 have e240:∀ args w,(callFunc (ρ.f 240) args).run P w=.ok (.enter (ρ.f 240) args) w:=enters_of L.f240 (by kernel_rfl) rfl
 go_enter L.f166,Body.n166_ntmps ρ
 go_wp2_with (go_at_fn (ρ.f 240);refine (bld_check { L with } hT X.toX72 b _ h).mono ?_)
 rintro en w1 ⟨rfl,⟨hbk,hown,hne,hnil⟩,hch1⟩
 have c0:w1.cell? ⟨b,0,none⟩=some (.pointer (some ⟨b,0,none⟩)):=by rw [Lib.cell_of_heap hbk];rfl
 have c1:w1.cell? ⟨b,1,none⟩=some u:=by rw [Lib.cell_of_heap hbk];rfl
 go_wp2_with (at_builtin;refine wpList_append_str rfl _ _ (ρ.t 37) (ρ.t 9) rfl 0 (ρ.t 5) i0 L.t37 L.t9 hi hz0 hz1 hz2 _ _ _ rfl hown ⟨t.toArray⟩ rfl ?c3 ?c4 (Nat.zero_le _) ?_)
 case c3=>rw [hts];unfold maxLen;omega
 case c4=>rw [hts];omega
 intro v' w2 hown' hgrow hiff hlk how
 have hlt:b<w1.heap.size:=(Array.getElem?_eq_some_iff.1 hbk).1
 have hb2:w2.heap[b]? = some (.cells #[.pointer (some ⟨b,0,none⟩),u] T (0,0)):=by
  rw [hgrow.block b hlt (fun e=>hne e.symm)]
  exact hbk
 have d0:w2.cell? ⟨b,0,none⟩=some (.pointer (some ⟨b,0,none⟩)):=by rw [Lib.cell_of_heap hb2];rfl
 have d1:w2.cell? ⟨b,1,none⟩=some u:=by rw [Lib.cell_of_heap hb2];rfl
 have f1:w2.frozen? ⟨b,1,none⟩=false:=Lib.frozen_of_heap hb2 1
 obtain ⟨ao,n',cap,rfl⟩:∃ ao n' cap,v'=.slice ao n' cap:=by
  rcases hown'.2 with ⟨hv,_⟩ | ⟨g,cap,cur,hv,_⟩
  ·exact ⟨_,_,_,hv⟩
  ·exact ⟨_,_,_,hv⟩
 go_wp2
 go_ret2
 have hneb:(Value.slice ao n' cap).ownBlock≠some b:=fun e=>by
  rcases how b e with h1 | h1
  ·exact hne h1
  ·omega
 have hcells:bytV s++Lib.strCells ⟨t.toArray⟩=bytV (s++t):=by simp [bytV,Lib.strCells]
 simp only [hts,hcells] at hown'
 refine ⟨.slice ao n' cap,by simp [ByteArray.size],⟨_,?_,.inr rfl,⟨by rw [List.length_append];exact hown'.1,?_⟩,hneb,fun hst=>?_⟩,hch1.trans ?_⟩
 ·show (w2.heap.modify b _)[b]? = _
  rw [Array.getElem?_modify,if_pos rfl,hb2]
  rfl
 ·rw [List.length_append]
  rcases hown'.2 with h | ⟨g,cap',cur,hv,hb,hg,hr⟩
  ·exact .inl h
  ·refine .inr ⟨g,cap',cur,hv,hb,?_,hr⟩
   have hbg:b≠g:=fun e=>hneb (by rw [hv,e];rfl)
   show (w2.heap.modify b _)[g]? = _
   rw [Array.getElem?_modify,if_neg hbg,hg]
 ·obtain ⟨rfl,rfl⟩:=List.append_eq_nil_iff.1 hst
  exact hiff.2 ⟨hnil rfl,by simp [ByteArray.size]⟩
 ·have q:BldChg w1 w2 b u (.slice ao n' cap):=⟨hgrow.os,hgrow.tape,hgrow.output,hgrow.size,hlk,fun k hk _ h2=>hgrow.block k hk (fun e=>h2 e.symm),how⟩
  exact q.trans (bldChg_set 1 _ fun _ h=>.inl h)
theorem BldChg.drew {w w':World} {b:Nat} {u:Value} (h:BldChg w w' b u (.slice none 0 0)):BldChg w w'.drew b u (.slice none 0 0) :=
 ⟨h.os,h.tape,h.output,h.size,h.lk.trans (LK.drew _),h.block,h.own⟩
set_option maxHeartbeats 1000000 in
set_option maxRecDepth 100000 in
theorem bld_str (L:Lays.n169 P ρ) (X:Builder.Extra P ρ) {T:TypeId} (b:Nat) (u:Value) (l:List UInt8) (w:World) (h:BldAt w b T (ρ.t 5) u l) :
  Calls P (ρ.f 169) #[.pointer (some ⟨b,0,none⟩)] w fun e w'=>e=.returned (.string ⟨l.toArray⟩)∧BldChg w w' b u (.slice none 0 0):=by
 obtain ⟨p,hbk,_,hown,hne,hnil⟩:=h
 have mixed:=L.mixed
 have t72:=L.t72;have a72:=L.a72;have z72:=L.z72;have v72:=L.v72;have u72:=run_underlying L.t72
 have t70:=L.t70;have a70:=L.a70;have z70:=L.z70;have v70:=L.v70;have u70:=run_underlying L.t70
 have t37:=L.t37;have a37:=L.a37;have z37:=L.z37;have v37:=L.v37;have u37:=run_underlying L.t37
 have t127:=L.t127;have a127:=L.a127;have z127:=L.z127;have v127:=L.v127;have u127:=run_underlying L.t127
 have t3:=L.t3;have a3:=L.a3;have z3:=L.z3;have v3:=L.v3;have u3:=run_underlying L.t3
 have t9:=L.t9;have a9:=L.a9;have z9:=L.z9;have v9:=L.v9;have u9:=run_underlying L.t9
 have t5:=X.t5;have a5:=X.a5;have z5:=X.z5;have v5:=X.v5;have u5:=run_underlying X.t5
 have q0:BldChg w w b u (.slice none 0 0):=⟨rfl,rfl,rfl,Nat.le_refl _,LK.refl _,fun _ _ _ _=>rfl,fun _ h=>by cases h⟩
 by_cases h0:l=[]
 ·have hu:=hnil h0
  subst hu
  subst h0
  have c1:w.drew.cell? ⟨b,1,none⟩=some (.slice none 0 0):=by
   have:w.drew.heap[b]? = some (.cells #[p,.slice none 0 0] T (0,0)):=hbk
   rw [Lib.cell_of_heap this];rfl
  have hSD:(Builtin.unsafeSliceData_ #[(ρ.t 37)] (ρ.t 127) #[.slice none 0 0]).run P w.drew=.ok (.pointer none) w.drew:=rfl
  have hUS:=Any.unsafeString_none L X
  go_enter L.f169,Body.n169_ntmps ρ
  go_wp2
  go_region_o
  all_goals (go_wp2;go_ret;exact ⟨rfl,q0.drew⟩)
 ·have hl0:l.length≠0:=by simpa using h0
  obtain ⟨g,cap,cur,rfl,hbg,hg,hnc,hcm,hcs,htake⟩:∃ g cap cur,u=.slice (some ⟨g,0,none⟩) l.length cap∧0≤g∧w.heap[g]? = some (.cells cur (ρ.t 5) (0,0))∧l.length≤cap∧cap≤maxLen∧cur.size=cap*1∧cur.toList.take (l.length*1)=bytV l:=by
   rcases hown.2 with ⟨_,hz⟩ | ⟨g,cap,cur,hv,r⟩
   ·exact absurd hz hl0
   ·exact ⟨g,cap,cur,hv,r⟩
  have c1:w.drew.cell? ⟨b,1,none⟩=some (.slice (some ⟨g,0,none⟩) l.length cap):=by
   have:w.drew.heap[b]? = some (.cells #[p,.slice (some ⟨g,0,none⟩) l.length cap] T (0,0)):=hbk
   rw [Lib.cell_of_heap this];rfl
  have hSD:(Builtin.unsafeSliceData_ #[(ρ.t 37)] (ρ.t 127) #[.slice (some ⟨g,0,none⟩) l.length cap]).run P w.drew=.ok (.pointer (some ⟨g,0,none⟩)) w.drew :=
   Lib.run_unsafeSliceData_row _ _ _ _ _ _ (by omega)
  have hUS:(Builtin.unsafeString_ #[(ρ.t 127),(ρ.t 3)] (ρ.t 9) #[.pointer (some ⟨g,0,none⟩),.int .i64 l.length]).run P w.drew=.ok (.string ⟨l.toArray⟩) (w.drew.freeze ⟨g,0,none⟩ l.length):=by
   refine Lib.run_unsafeString_row w.drew (ρ.t 127) (ρ.t 3) (ρ.t 9) (ρ.t 5) L.t127 X.cellsByte g cur.size (by have hg':w.drew.heap[g]? = some (.cells cur (ρ.t 5) (0,0)):=hg;simp [World.shape?,hg']) l h0 (by omega) (by unfold maxLen at hcm;omega) ?_
   intro j x hx
   have:=hown.cells (g:=g) rfl j (.int .u8 x.toNat) (by simp [bytV,hx])
   exact this
  have q1:BldChg w (w.drew.freeze ⟨g,0,none⟩ l.length) b (.slice (some ⟨g,0,none⟩) l.length cap) (.slice none 0 0):=by
   have hfr:∀ k,k≠g→(w.drew.freeze ⟨g,0,none⟩ l.length).heap[k]? = w.heap[k]? := fun k hk=>by
    unfold World.freeze
    rw [if_neg hl0]
    show (w.drew.heap.modify g _)[k]? = _
    rw [Array.getElem?_modify,if_neg (Ne.symm hk)]
    rfl
   obtain ⟨e1,e2,e3,e4,e5⟩:=freeze_same w.drew ⟨g,0,none⟩ l.length
   refine ⟨e1,e2,e3,Nat.le_of_eq e4.symm,.of (by rw [e5];exact Nat.le_succ _) fun k o hk hne=>?_,fun k hk _ h2=>hfr k fun e=>h2 (by rw [e];rfl),fun _ h=>by cases h⟩
   by_cases hkg:k=g
   ·subst hkg
    rw [hg] at hk
    cases hk
    exact absurd rfl (hne _ _ _)
   ·rw [hfr k hkg];exact hk
  go_enter L.f169,Body.n169_ntmps ρ
  go_wp2
  go_region_o
  all_goals (go_wp2;go_ret;exact ⟨rfl,q1⟩)
theorem ext_wstr (L:Lays.n166 P ρ) (X:Builder.Extra P ρ) {f TB e:Nat} (hf:ρ.f 166=f) (hT:ρ.t 72=TB) (he:ρ.t 5=e) (en:∀ (args:Array Value) (w:World),(callFunc f args).run P w=.ok (.enter f args) w):ExtOK P f (.wstr TB e):=by
 subst hf hT he
 exact ⟨en,fun T hT b u s t w h hl=>bld_write L X hT b u s t w h hl⟩
theorem ext_stri (L:Lays.n169 P ρ) (X:Builder.Extra P ρ) {f TB e:Nat} (hf:ρ.f 169=f) (hT:ρ.t 72=TB) (he:ρ.t 5=e) (en:∀ (args:Array Value) (w:World),(callFunc f args).run P w=.ok (.enter f args) w):ExtOK P f (.stri TB e):=by
 subst hf hT he
 exact ⟨en,fun T hT b u s w h=>bld_str L X b u s w h⟩
end
section
variable {P:Program} {ρ:Ren} {S:Cells} {w w':World} {η:Eta}
theorem keep_below (hin:InW S w) (h:Below w.heap.size w w'):Keep S w S w':=⟨fun _ _ h=>h,fun b o hb=>h.cell (p:=⟨b,o,none⟩) (hin.lt b o hb)⟩
theorem grow_below (hin:InW S w) (h:Below w.heap.size w w') (hl:LK w w'):Grow w.heap.size S w S w':=⟨h,keep_below hin h,fun b o hb=>Nat.lt_of_lt_of_le (hin.lt b o hb) h.size,fun _ _ h=>.inl h,hl⟩
theorem rv_str {x:List UInt8} {v:Value} (h:RM S w η (Ty.str.rv x) v):v=.string ⟨x.toArray⟩∧x.length≤maxLen:=(PM.str (S:=S) (w:=w) (η:=η)).1 h
theorem rv_int {x:Int} {v:Value} (h:RM S w η ((Ty.int .i64).rv x) v):v=.int .i64 x∧IntKind.i64.has x:=(PM.int (S:=S) (w:=w) (η:=η)).1 h
theorem pm_str {x:List UInt8} (h:x.length≤maxLen):PM S w η (resPV (rvs [.str] x)) (.string ⟨x.toArray⟩):=(PM.str (S:=S) (w:=w) (η:=η)).2 ⟨rfl,h⟩
theorem trimPrefix_length (s p:List UInt8):(Lib.trimPrefix s p).length≤s.length:=by
 unfold Lib.trimPrefix
 split
 ·rw [List.length_drop];omega
 ·exact Nat.le_refl _
theorem spec_pref (L:Lays.n101 P ρ) {f:Nat} (hf:ρ.f 101=f):SpecOK P f ⟨[.str,.str],[.str],fun x=>some (prefM x.1 x.2)⟩:=by
 subst hf
 intro x r hr S w η vs hi hv
 have hr:some (prefM x.1 x.2)=some r:=hr
 have hr:=Option.some.inj hr
 cases hv with
 | cons h1 h2 =>
  cases h2 with
  | cons h2 h3 =>
   cases h3
   obtain ⟨rfl,l1⟩:=rv_str h1
   obtain ⟨rfl,l2⟩:=rv_str h2
   refine (Any.strings_TrimPrefix L ⟨x.1.toArray⟩ ⟨x.2.toArray⟩ w).mono fun en w' ⟨he,hw⟩=>?_
   subst hw
   refine ⟨_,S,he,Grow.refl hi.lt,?_⟩
   rw [← hr]
   exact pm_str (Nat.le_trans (trimPrefix_length _ _) l1)
theorem dropWhile_length {α:Type} (p:α→Bool):∀ l:List α,(l.dropWhile p).length≤l.length
 | []=>Nat.le_refl _
 | x::l=>by
  unfold List.dropWhile
  split
  ·exact Nat.le_trans (dropWhile_length p l) (Nat.le_succ _)
  ·exact Nat.le_refl _
theorem trimS_length (s c:List UInt8):(Lib.trimS s c).length≤s.length:=by
 unfold Lib.trimS Lib.trimLeftS Lib.trimRightS
 refine Nat.le_trans (dropWhile_length _ _) ?_
 rw [List.length_reverse]
 refine Nat.le_trans (dropWhile_length _ _) ?_
 rw [List.length_reverse]
 exact Nat.le_refl _
theorem spec_trim (hd:drawsB=false) (L:Lays.n160 P ρ) (h116:(P.info? (ρ.t 116)).map (fun i=>(i.zero,i.size))=some (some (.agg (Array.replicate 256 (.bool false))),256)) {f:Nat} (hf:ρ.f 160=f):SpecOK P f ⟨[.str,.str],[.str],fun x=>trimM x.1 x.2⟩:=by
 subst hf
 intro x r hr S w η vs hi hv
 have hr:trimM x.1 x.2=some r:=hr
 unfold trimM at hr
 split at hr
 ·rename_i c1 c2
  have c2:=of_decide_eq_true c2
  have hr:=Option.some.inj hr
  cases hv with
  | cons h1 h2 =>
   cases h2 with
   | cons h2 h3 =>
    cases h3
    obtain ⟨rfl,l1⟩:=rv_str h1
    obtain ⟨rfl,l2⟩:=rv_str h2
    refine (Any.strings_Trim_laid L h116 ⟨x.1.toArray⟩ ⟨x.2.toArray⟩ w (by simpa [ByteArray.size,maxLen] using l1) (by simpa [ByteArray.size] using c2) (ascii_of_all (by simpa using c1))).mono fun en w' ⟨he,hw⟩=>?_
    refine ⟨_,S,he,grow_below hi hw (.below hd hw.block),?_⟩
    rw [← hr]
    exact pm_str (Nat.le_trans (trimS_length _ _) l1)
 ·cases hr
theorem spec_rept (hd:drawsB=false) (L:Lays.n105 P ρ) (X:Builder.Extra P ρ) {f:Nat} (hf:ρ.f 105=f):SpecOK P f ⟨[.str,.int .i64],[.str],fun x=>rptM x.1 x.2⟩:=by
 subst hf
 intro x r hr S w η vs hi hv
 have hr:rptM x.1 x.2=some r:=hr
 unfold rptM at hr
 split at hr
 ·rename_i c1 c2 c3
  have c1:=of_decide_eq_true c1
  have c2:=of_decide_eq_true c2
  have c3:=of_decide_eq_true c3
  have hr:=Option.some.inj hr
  cases hv with
  | cons h1 h2 =>
   cases h2 with
   | cons h2 h3 =>
    cases h3
    obtain ⟨rfl,l1⟩:=rv_str h1
    obtain ⟨rfl,l2⟩:=rv_int h2
    have hc:=Any.strings_Repeat L X ⟨x.1.toArray⟩ x.2.toNat w (by omega) (by simpa [ByteArray.size] using c2)
    rw [Int.toNat_of_nonneg c1] at hc
    refine hc.mono fun en w' ⟨he,hw⟩=>?_
    refine ⟨_,S,he,grow_below hi hw (.below hd hw.block),?_⟩
    rw [← hr]
    refine pm_str ?_
    rw [Lib.repeatL_length,Nat.mul_comm]
    unfold maxLen
    omega
 ·cases hr
theorem tab_of_glob {P:Program} {name:String} {g:Nat} {xs:List Int} (hg:P.globalNamed name=some g) (ht:lk globTab g=some ⟨.int .u64,xs⟩) (h0:xs≠[]) (hi:InW S w):Lib.TabIs P w name .u64 xs:=by
 obtain ⟨⟨_,h1⟩,h2⟩:=hi.gl g _ ht
 have h2':∀ i (x:Int),xs[i]? = some x→w.cell? ⟨g,i,none⟩=some (.int .u64 x):=fun i x hx=>by
  obtain ⟨es,h3,h4⟩:=h2 i x hx
  obtain ⟨rfl,_⟩:=h3
  have:=(h4 0 _ rfl).2
  simpa [Ty.size] using this
 have h1':w.cell? ⟨g,xs.length,none⟩=none:=by simpa [Ty.size] using h1
 obtain ⟨x0,r,rfl⟩:=List.exists_cons_of_ne_nil h0
 obtain ⟨cs,el,fr,hc,_⟩:=cells_of_cell? (h2' 0 x0 rfl)
 have hcell:∀ i,w.cell? ⟨g,i,none⟩=cs[i]? := fun i=>by simp [World.cell?,hc]
 unfold Lib.TabIs World.var?
 rw [hg]
 show (match w.heap[g]? with | some (.cells cs _ _)=>some cs | _=>none)=_
 rw [hc]
 refine congrArg some (Array.ext_getElem? fun i=>?_)
 rw [← hcell]
 by_cases hi:i<(x0::r).length
 ·rw [h2' i _ (List.getElem?_eq_getElem hi),List.getElem?_toArray,List.getElem?_map,List.getElem?_eq_getElem hi]
  rfl
 ·have hsz:cs.size≤(x0::r).length:=by
   have:=h1'
   rw [hcell] at this
   exact Array.getElem?_eq_none_iff.1 this
  rw [hcell,Array.getElem?_eq_none (by omega),Array.getElem?_eq_none (by simpa using hi)]
theorem itoa_length (n:Int) (h:IntKind.i64.has n):(Lib.itoa n).length≤maxLen:=by
 have key:∀ (k u:Nat),u<10 ^ k→(Lib.decDigits u).length≤k+1:=by
  intro k
  induction k with
  | zero =>
   intro u hu
   rw [Lib.decDigits,dif_pos (by omega)]
   simp
  | succ k ih =>
   intro u hu
   rw [Lib.decDigits]
   split
   ·simp
   ·rw [List.length_append]
    have:=ih (u / 10) (by rw [Nat.pow_succ] at hu;omega)
    simp only [List.length_cons,List.length_nil]
    omega
 have:=has_i64.1 h
 unfold Lib.itoa
 split
 ·have:=key 20 n.natAbs (by omega)
  simp only [List.length_cons,maxLen]
  omega
 ·have:=key 20 n.toNat (by omega)
  simp only [maxLen]
  omega
theorem below_grow (w:World) (k:Nat) (os:Array Obj):Below w.heap.size w (grow (w.drewN k) os):=by
 refine ⟨rfl,rfl,rfl,by rw [size_grow];show w.heap.size≤w.heap.size+_;omega,fun b hb=>?_⟩
 rw [heap_grow_old _ _ (show b<(w.drewN k).heap.size from hb)]
 rfl
theorem lk_grow (w:World) (k:Nat) (os:Array Obj):LK w (grow (w.drewN k) os):=.of (show w.drawn≤w.drawn+k by omega) fun b o hb _=>by
 rw [(below_grow w k os).block b (Array.getElem?_eq_some_iff.1 hb).1];exact hb
theorem spec_itoa (L:LaysM.n171 P ρ) {f g:Nat} (hf:ρ.f 171=f) (hg:P.globalNamed "internal/strconv.uint64pow10"=some g) (ht:lk globTab g=some ⟨.int .u64,Lib.pow10Tab⟩):SpecOK P f ⟨[.int .i64],[.str],fun x=>some (itoaM x)⟩:=by
 subst hf
 intro x r hr S w η vs hi hv
 have hr:some (itoaM x)=some r:=hr
 have hr:=Option.some.inj hr
 cases hv with
 | cons h1 h2 =>
  cases h2
  obtain ⟨rfl,l1⟩:=rv_int h1
  have l2:=has_i64.1 l1
  refine (Any.strconv_Itoa L x l2.1 l2.2 w (tab_of_glob hg ht (by simp [Lib.pow10Tab]) hi)).mono fun en w' ⟨he,k,os,hw⟩=>?_
  subst hw
  refine ⟨_,S,he,grow_below hi (below_grow _ _ _) (lk_grow _ _ _),?_⟩
  rw [← hr]
  exact pm_str (itoa_length x l1)
theorem ext_atoi (L:LaysC.n172 P ρ) {f:Nat} (hf:ρ.f 172=f) (en:∀ (args:Array Value) (w:World),(callFunc f args).run P w=.ok (.enter f args) w):ExtOK P f (.atoi atoiM):=by
 subst hf
 refine ⟨en,fun s n hn=>?_⟩
 unfold atoiM at hn
 split at hn
 ·rename_i v hv hl
  have hl:=of_decide_eq_true hl
  split at hn
  ·rename_i c1 c2
   have c1:=of_decide_eq_true c1
   have c2:=of_decide_eq_true c2
   have hn:=Option.some.inj hn
   subst hn
   refine ⟨has_i64.2 ⟨c1,c2⟩,fun S w hi=>?_⟩
   refine (Any.strconv_Atoi_ok L ⟨s.toArray⟩ (by simpa [ByteArray.size] using hl) v (by simpa using hv) w).mono fun en w' ⟨he,hw⟩=>?_
   rcases hw with rfl | ⟨t,rfl⟩
   ·exact ⟨S,he,Grow.refl hi.lt⟩
   ·have hb:Below w.heap.size w (Lib.bytesWorld w (ρ.t 5) t)∧LK w (Lib.bytesWorld w (ρ.t 5) t):=by
     unfold Lib.bytesWorld
     obtain ⟨e1,e2,e3,e4,e5⟩:=freeze_same (w.drew.alloc (.cells (Lib.bytesCells w (ρ.t 5) t) (ρ.t 5))) ⟨w.heap.size,(Lib.bytesCells w (ρ.t 5) t).size,none⟩ 1
     have hbl:∀ k,k<w.heap.size→((w.drew.alloc (.cells (Lib.bytesCells w (ρ.t 5) t) (ρ.t 5))).freeze ⟨w.heap.size,(Lib.bytesCells w (ρ.t 5) t).size,none⟩ 1).heap[k]? = w.heap[k]? := fun k hk=>by
      unfold World.freeze
      rw [if_neg (by decide)]
      show ((w.drew.alloc _).heap.modify w.heap.size _)[k]? = _
      rw [Array.getElem?_modify,if_neg (by omega)]
      exact Below.heap_alloc _ _ _ hk
     refine ⟨⟨e1,e2,e3,by rw [e4,World.size_alloc];exact Nat.le_succ _,hbl⟩,.of (by rw [e5];exact Nat.le_succ _) fun b o hb _=>?_⟩
     rw [hbl b (Array.getElem?_eq_some_iff.1 hb).1];exact hb
    exact ⟨S,he,grow_below hi hb.1 hb.2⟩
  ·cases hn
 ·cases hn
end
end Go.PE
namespace Go.Proofs
open Go.Shelf
def Tryz.lays172_ren:Go.Shelf.Ren:=⟨fun | 189=>72 | 125=>106 | 257=>105 | 128=>144 | 129=>145 | 294=>135 | 295=>136 | 296=>137 | 297=>138 | 298=>139 | 299=>140 | 216=>141 | 300=>142 | 301=>143 | 328=>175 | 329=>176 | 330=>177 | 331=>178 | 332=>179 | 215=>180 | 343=>199 | n=>n,fun | 28=>25 | 3=>3 | 46=>147 | 0=>0 | 51=>187 | 53=>189 | 4=>4 | 183=>179 | 182=>178 | 131=>184 | 5=>5 | 9=>9 | 218=>217 | 222=>221 | 228=>232 | 229=>32 | n=>n,fun | n=>n⟩
theorem Tryz.lays172:Go.Proofs.Lays.n189 Tryz.prog Tryz.lays172_ren:={
 mixed:=by kernel_rfl
 f125:=Tryz.func106.trans (congrArg some (by kernel_rfl))
 f128:=Tryz.func144.trans (congrArg some (by kernel_rfl))
 f129:=Tryz.func145.trans (congrArg some (by kernel_rfl))
 f189:=Tryz.func72.trans (congrArg some (by kernel_rfl))
 f215:=Tryz.func180.trans (congrArg some (by kernel_rfl))
 f216:=Tryz.func141.trans (congrArg some (by kernel_rfl))
 f257:=Tryz.func105.trans (congrArg some (by kernel_rfl))
 f294:=Tryz.func135.trans (congrArg some (by kernel_rfl))
 f295:=Tryz.func136.trans (congrArg some (by kernel_rfl))
 f296:=Tryz.func137.trans (congrArg some (by kernel_rfl))
 f297:=Tryz.func138.trans (congrArg some (by kernel_rfl))
 f298:=Tryz.func139.trans (congrArg some (by kernel_rfl))
 f299:=Tryz.func140.trans (congrArg some (by kernel_rfl))
 f300:=Tryz.func142.trans (congrArg some (by kernel_rfl))
 f301:=Tryz.func143.trans (congrArg some (by kernel_rfl))
 f328:=Tryz.func175.trans (congrArg some (by kernel_rfl))
 f329:=Tryz.func176.trans (congrArg some (by kernel_rfl))
 f330:=Tryz.func177.trans (congrArg some (by kernel_rfl))
 f331:=Tryz.func178.trans (congrArg some (by kernel_rfl))
 f332:=Tryz.func179.trans (congrArg some (by kernel_rfl))
 f343:=Tryz.func199.trans (congrArg some (by kernel_rfl))
 t0:=Tryz.underlying0
 a0:=Tryz.isAgg0
 z0:=Tryz.sizeOf0
 v0:=Tryz.zeroValue0
 t3:=Tryz.underlying3
 a3:=Tryz.isAgg3
 z3:=Tryz.sizeOf3
 v3:=Tryz.zeroValue3
 t4:=Tryz.underlying4
 a4:=Tryz.isAgg4
 z4:=Tryz.sizeOf4
 v4:=Tryz.zeroValue4
 t5:=Tryz.underlying5
 a5:=Tryz.isAgg5
 z5:=Tryz.sizeOf5
 v5:=Tryz.zeroValue5
 t9:=Tryz.underlying9
 a9:=Tryz.isAgg9
 z9:=Tryz.sizeOf9
 v9:=Tryz.zeroValue9
 t28:=Tryz.underlying25
 a28:=Tryz.isAgg25
 z28:=Tryz.sizeOf25
 v28:=Tryz.zeroValue25
 t46:=Tryz.underlying147
 a46:=Tryz.isAgg147
 z46:=Tryz.sizeOf147
 v46:=Tryz.zeroValue147
 t51:=Tryz.underlying187
 a51:=Tryz.isAgg187
 z51:=Tryz.sizeOf187
 v51:=Tryz.zeroValue187
 t53:=Tryz.underlying189
 a53:=Tryz.isAgg189
 z53:=Tryz.sizeOf189
 v53:=Tryz.zeroValue189
 t131:=Tryz.underlying184
 a131:=Tryz.isAgg184
 z131:=Tryz.sizeOf184
 v131:=Tryz.zeroValue184
 t182:=Tryz.underlying178
 a182:=Tryz.isAgg178
 z182:=Tryz.sizeOf178
 v182:=Tryz.zeroValue178
 t183:=Tryz.underlying179
 a183:=Tryz.isAgg179
 z183:=Tryz.sizeOf179
 v183:=Tryz.zeroValue179
 t218:=Tryz.underlying217
 a218:=Tryz.isAgg217
 z218:=Tryz.sizeOf217
 v218:=Tryz.zeroValue217
 t222:=Tryz.underlying221
 a222:=Tryz.isAgg221
 z222:=Tryz.sizeOf221
 v222:=Tryz.zeroValue221
 t228:=Tryz.underlying232
 a228:=Tryz.isAgg232
 z228:=Tryz.sizeOf232
 v228:=Tryz.zeroValue232
 t229:=Tryz.underlying32
 a229:=Tryz.isAgg32
 z229:=Tryz.sizeOf32
 v229:=Tryz.zeroValue32 }
def Tryz.lays1183_ren:Go.Shelf.Ren:=⟨fun | 101=>183 | 208=>200 | 206=>212 | n=>n,fun | 9=>9 | 4=>4 | 3=>3 | n=>n,fun | n=>n⟩
theorem Tryz.lays1183:Go.Proofs.Lays.n101 Tryz.prog Tryz.lays1183_ren:={
 mixed:=by kernel_rfl
 f101:=Tryz.func183.trans (congrArg some (by kernel_rfl))
 f206:=Tryz.func212.trans (congrArg some (by kernel_rfl))
 f208:=Tryz.func200.trans (congrArg some (by kernel_rfl))
 t3:=Tryz.underlying3
 a3:=Tryz.isAgg3
 z3:=Tryz.sizeOf3
 v3:=Tryz.zeroValue3
 t4:=Tryz.underlying4
 a4:=Tryz.isAgg4
 z4:=Tryz.sizeOf4
 v4:=Tryz.zeroValue4
 t9:=Tryz.underlying9
 a9:=Tryz.isAgg9
 z9:=Tryz.sizeOf9
 v9:=Tryz.zeroValue9 }
def Tryz.lays1184_ren:Go.Shelf.Ren:=⟨fun | 160=>184 | 232=>202 | 231=>201 | 227=>203 | 234=>205 | 233=>204 | 236=>207 | 235=>206 | 228=>219 | 271=>222 | 151=>221 | 197=>220 | 120=>235 | 152=>234 | 260=>233 | 137=>241 | 119=>242 | 224=>243 | 225=>244 | 217=>247 | 266=>248 | n=>n,fun | 9=>9 | 4=>4 | 3=>3 | 5=>5 | 117=>237 | 116=>236 | 0=>0 | 124=>240 | 21=>21 | 105=>253 | 46=>147 | 119=>273 | 139=>276 | 138=>275 | n=>n,fun | 3=>4 | 4=>5 | n=>n⟩
theorem Tryz.lays1184:Go.Proofs.Lays.n160 Tryz.prog Tryz.lays1184_ren:={
 mixed:=by kernel_rfl
 f119:=Tryz.func242.trans (congrArg some (by kernel_rfl))
 f120:=Tryz.func235.trans (congrArg some (by kernel_rfl))
 f137:=Tryz.func241.trans (congrArg some (by kernel_rfl))
 f151:=Tryz.func221.trans (congrArg some (by kernel_rfl))
 f152:=Tryz.func234.trans (congrArg some (by kernel_rfl))
 f160:=Tryz.func184.trans (congrArg some (by kernel_rfl))
 f197:=Tryz.func220.trans (congrArg some (by kernel_rfl))
 f217:=Tryz.func247.trans (congrArg some (by kernel_rfl))
 f224:=Tryz.func243.trans (congrArg some (by kernel_rfl))
 f225:=Tryz.func244.trans (congrArg some (by kernel_rfl))
 f227:=Tryz.func203.trans (congrArg some (by kernel_rfl))
 f228:=Tryz.func219.trans (congrArg some (by kernel_rfl))
 f231:=Tryz.func201.trans (congrArg some (by kernel_rfl))
 f232:=Tryz.func202.trans (congrArg some (by kernel_rfl))
 f233:=Tryz.func204.trans (congrArg some (by kernel_rfl))
 f234:=Tryz.func205.trans (congrArg some (by kernel_rfl))
 f235:=Tryz.func206.trans (congrArg some (by kernel_rfl))
 f236:=Tryz.func207.trans (congrArg some (by kernel_rfl))
 f260:=Tryz.func233.trans (congrArg some (by kernel_rfl))
 f266:=Tryz.func248.trans (congrArg some (by kernel_rfl))
 f271:=Tryz.func222.trans (congrArg some (by kernel_rfl))
 t0:=Tryz.underlying0
 a0:=Tryz.isAgg0
 z0:=Tryz.sizeOf0
 v0:=Tryz.zeroValue0
 t3:=Tryz.underlying3
 a3:=Tryz.isAgg3
 z3:=Tryz.sizeOf3
 v3:=Tryz.zeroValue3
 t4:=Tryz.underlying4
 a4:=Tryz.isAgg4
 z4:=Tryz.sizeOf4
 v4:=Tryz.zeroValue4
 t5:=Tryz.underlying5
 a5:=Tryz.isAgg5
 z5:=Tryz.sizeOf5
 v5:=Tryz.zeroValue5
 t9:=Tryz.underlying9
 a9:=Tryz.isAgg9
 z9:=Tryz.sizeOf9
 v9:=Tryz.zeroValue9
 t21:=Tryz.underlying21
 a21:=Tryz.isAgg21
 z21:=Tryz.sizeOf21
 v21:=Tryz.zeroValue21
 t46:=Tryz.underlying147
 a46:=Tryz.isAgg147
 z46:=Tryz.sizeOf147
 v46:=Tryz.zeroValue147
 t105:=Tryz.underlying253
 a105:=Tryz.isAgg253
 z105:=Tryz.sizeOf253
 v105:=Tryz.zeroValue253
 t116:=Tryz.underlying236
 a116:=Tryz.isAgg236
 z116:=Tryz.sizeOf236
 t117:=Tryz.underlying237
 a117:=Tryz.isAgg237
 z117:=Tryz.sizeOf237
 v117:=Tryz.zeroValue237
 t119:=Tryz.underlying273
 a119:=Tryz.isAgg273
 z119:=Tryz.sizeOf273
 t124:=Tryz.underlying240
 a124:=Tryz.isAgg240
 z124:=Tryz.sizeOf240
 v124:=Tryz.zeroValue240
 t138:=Tryz.underlying275
 a138:=Tryz.isAgg275
 z138:=Tryz.sizeOf275
 v138:=Tryz.zeroValue275
 t139:=Tryz.underlying276
 a139:=Tryz.isAgg276
 z139:=Tryz.sizeOf276
 v139:=Tryz.zeroValue276
 g3:=by kernel_rfl
 g4:=by kernel_rfl }
def Tryz.lays1161_ren:Go.Shelf.Ren:=⟨fun | 105=>161 | 212=>188 | 99=>189 | 165=>190 | 166=>162 | 170=>191 | 169=>163 | 263=>210 | 264=>211 | 206=>212 | 240=>192 | 241=>213 | 276=>214 | 277=>228 | n=>n,fun | 9=>9 | 3=>3 | 4=>4 | 20=>20 | 0=>0 | 46=>147 | 109=>223 | 5=>5 | 72=>203 | 76=>207 | 51=>187 | 146=>242 | 53=>189 | 148=>244 | 70=>200 | 37=>201 | 75=>206 | 127=>228 | 164=>246 | 80=>209 | n=>n,fun | n=>n⟩
theorem Tryz.lays1161:Go.Proofs.Lays.n105 Tryz.prog Tryz.lays1161_ren:={
 mixed:=by kernel_rfl
 f99:=Tryz.func189.trans (congrArg some (by kernel_rfl))
 f105:=Tryz.func161.trans (congrArg some (by kernel_rfl))
 f165:=Tryz.func190.trans (congrArg some (by kernel_rfl))
 f166:=Tryz.func162.trans (congrArg some (by kernel_rfl))
 f169:=Tryz.func163.trans (congrArg some (by kernel_rfl))
 f170:=Tryz.func191.trans (congrArg some (by kernel_rfl))
 f206:=Tryz.func212.trans (congrArg some (by kernel_rfl))
 f212:=Tryz.func188.trans (congrArg some (by kernel_rfl))
 f240:=Tryz.func192.trans (congrArg some (by kernel_rfl))
 f241:=Tryz.func213.trans (congrArg some (by kernel_rfl))
 f263:=Tryz.func210.trans (congrArg some (by kernel_rfl))
 f264:=Tryz.func211.trans (congrArg some (by kernel_rfl))
 f276:=Tryz.func214.trans (congrArg some (by kernel_rfl))
 f277:=Tryz.func228.trans (congrArg some (by kernel_rfl))
 t0:=Tryz.underlying0
 a0:=Tryz.isAgg0
 z0:=Tryz.sizeOf0
 v0:=Tryz.zeroValue0
 t3:=Tryz.underlying3
 a3:=Tryz.isAgg3
 z3:=Tryz.sizeOf3
 v3:=Tryz.zeroValue3
 t4:=Tryz.underlying4
 a4:=Tryz.isAgg4
 z4:=Tryz.sizeOf4
 v4:=Tryz.zeroValue4
 t5:=Tryz.underlying5
 a5:=Tryz.isAgg5
 z5:=Tryz.sizeOf5
 v5:=Tryz.zeroValue5
 t9:=Tryz.underlying9
 a9:=Tryz.isAgg9
 z9:=Tryz.sizeOf9
 v9:=Tryz.zeroValue9
 t20:=Tryz.underlying20
 a20:=Tryz.isAgg20
 z20:=Tryz.sizeOf20
 v20:=Tryz.zeroValue20
 t37:=Tryz.underlying201
 a37:=Tryz.isAgg201
 z37:=Tryz.sizeOf201
 v37:=Tryz.zeroValue201
 t46:=Tryz.underlying147
 a46:=Tryz.isAgg147
 z46:=Tryz.sizeOf147
 v46:=Tryz.zeroValue147
 t51:=Tryz.underlying187
 a51:=Tryz.isAgg187
 z51:=Tryz.sizeOf187
 v51:=Tryz.zeroValue187
 t53:=Tryz.underlying189
 a53:=Tryz.isAgg189
 z53:=Tryz.sizeOf189
 v53:=Tryz.zeroValue189
 t70:=Tryz.underlying200
 a70:=Tryz.isAgg200
 z70:=Tryz.sizeOf200
 v70:=Tryz.zeroValue200
 t72:=Tryz.underlying203
 a72:=Tryz.isAgg203
 z72:=Tryz.sizeOf203
 v72:=Tryz.zeroValue203
 t75:=Tryz.underlying206
 a75:=Tryz.isAgg206
 z75:=Tryz.sizeOf206
 v75:=Tryz.zeroValue206
 t76:=Tryz.underlying207
 a76:=Tryz.isAgg207
 z76:=Tryz.sizeOf207
 v76:=Tryz.zeroValue207
 t109:=Tryz.underlying223
 a109:=Tryz.isAgg223
 z109:=Tryz.sizeOf223
 v109:=Tryz.zeroValue223
 t127:=Tryz.underlying228
 a127:=Tryz.isAgg228
 z127:=Tryz.sizeOf228
 v127:=Tryz.zeroValue228
 t146:=Tryz.underlying242
 a146:=Tryz.isAgg242
 z146:=Tryz.sizeOf242
 v146:=Tryz.zeroValue242
 t148:=Tryz.underlying244
 a148:=Tryz.isAgg244
 z148:=Tryz.sizeOf244
 v148:=Tryz.zeroValue244
 t164:=Tryz.underlying246
 a164:=Tryz.isAgg246
 z164:=Tryz.sizeOf246
 v164:=Tryz.zeroValue246 }
def Tryz.lays1120_ren:Go.Shelf.Ren:=⟨fun | 171=>120 | 243=>165 | 246=>193 | 283=>215 | 284=>216 | 285=>217 | 286=>218 | 129=>145 | 317=>229 | 318=>230 | 319=>231 | 320=>232 | 337=>239 | 338=>240 | n=>n,fun | 3=>3 | 9=>9 | 2=>2 | 4=>4 | 171=>248 | 0=>0 | 53=>189 | 37=>201 | 5=>5 | 173=>250 | 212=>264 | 51=>187 | 20=>20 | 213=>265 | 46=>147 | 232=>283 | 233=>284 | n=>n,fun | 17=>0 | 18=>6 | 19=>7 | n=>n⟩
theorem Tryz.lays1120:Go.Proofs.LaysM.n171 Tryz.prog Tryz.lays1120_ren:={
 mixed:=by kernel_rfl
 f129:=Tryz.func145.trans (congrArg some (by kernel_rfl))
 f171:=Tryz.func120.trans (congrArg some (by kernel_rfl))
 f243:=Tryz.func165.trans (congrArg some (by kernel_rfl))
 f246:=Tryz.func193.trans (congrArg some (by kernel_rfl))
 f283:=Tryz.func215.trans (congrArg some (by kernel_rfl))
 f284:=Tryz.func216.trans (congrArg some (by kernel_rfl))
 f285:=Tryz.func217.trans (congrArg some (by kernel_rfl))
 f286:=Tryz.func218.trans (congrArg some (by kernel_rfl))
 f317:=Tryz.func229.trans (congrArg some (by kernel_rfl))
 f318:=Tryz.func230.trans (congrArg some (by kernel_rfl))
 f319:=Tryz.func231.trans (congrArg some (by kernel_rfl))
 f320:=Tryz.func232.trans (congrArg some (by kernel_rfl))
 f337:=Tryz.func239.trans (congrArg some (by kernel_rfl))
 f338:=Tryz.func240.trans (congrArg some (by kernel_rfl))
 t0:=Tryz.underlying0
 a0:=Tryz.isAgg0
 z0:=Tryz.sizeOf0
 v0:=Tryz.zeroValue0
 t2:=Tryz.underlying2
 a2:=Tryz.isAgg2
 z2:=Tryz.sizeOf2
 v2:=Tryz.zeroValue2
 t3:=Tryz.underlying3
 a3:=Tryz.isAgg3
 z3:=Tryz.sizeOf3
 v3:=Tryz.zeroValue3
 t4:=Tryz.underlying4
 a4:=Tryz.isAgg4
 z4:=Tryz.sizeOf4
 v4:=Tryz.zeroValue4
 t5:=Tryz.underlying5
 a5:=Tryz.isAgg5
 z5:=Tryz.sizeOf5
 v5:=Tryz.zeroValue5
 t9:=Tryz.underlying9
 a9:=Tryz.isAgg9
 z9:=Tryz.sizeOf9
 v9:=Tryz.zeroValue9
 t20:=Tryz.underlying20
 a20:=Tryz.isAgg20
 z20:=Tryz.sizeOf20
 v20:=Tryz.zeroValue20
 t37:=Tryz.underlying201
 a37:=Tryz.isAgg201
 z37:=Tryz.sizeOf201
 v37:=Tryz.zeroValue201
 t46:=Tryz.underlying147
 a46:=Tryz.isAgg147
 z46:=Tryz.sizeOf147
 v46:=Tryz.zeroValue147
 t51:=Tryz.underlying187
 a51:=Tryz.isAgg187
 z51:=Tryz.sizeOf187
 v51:=Tryz.zeroValue187
 t53:=Tryz.underlying189
 a53:=Tryz.isAgg189
 z53:=Tryz.sizeOf189
 v53:=Tryz.zeroValue189
 t171:=Tryz.underlying248
 a171:=Tryz.isAgg248
 z171:=Tryz.sizeOf248
 v171:=Tryz.zeroValue248
 t173:=Tryz.underlying250
 a173:=Tryz.isAgg250
 z173:=Tryz.sizeOf250
 v173:=Tryz.zeroValue250
 t212:=Tryz.underlying264
 a212:=Tryz.isAgg264
 z212:=Tryz.sizeOf264
 v212:=Tryz.zeroValue264
 t213:=Tryz.underlying265
 a213:=Tryz.isAgg265
 z213:=Tryz.sizeOf265
 t232:=Tryz.underlying283
 a232:=Tryz.isAgg283
 z232:=Tryz.sizeOf283
 v232:=Tryz.zeroValue283
 t233:=Tryz.underlying284
 a233:=Tryz.isAgg284
 z233:=Tryz.sizeOf284
 v233:=Tryz.zeroValue284
 g17:=by kernel_rfl
 g18:=by kernel_rfl
 g19:=by kernel_rfl
 i0:=by kernel_rfl
 i2:=by kernel_rfl
 i3:=by kernel_rfl
 i4:=by kernel_rfl
 i5:=by kernel_rfl
 i9:=by kernel_rfl
 i20:=by kernel_rfl
 i37:=by kernel_rfl
 i46:=by kernel_rfl
 i51:=by kernel_rfl
 i53:=by kernel_rfl
 i171:=by kernel_rfl
 i173:=by kernel_rfl
 i212:=by kernel_rfl
 i232:=by kernel_rfl
 i233:=by kernel_rfl
 m17:=by kernel_rfl
 m18:=by kernel_rfl
 m19:=by kernel_rfl }
def Tryz.lays1185_ren:Go.Shelf.Ren:=⟨fun | 172=>185 | 244=>208 | 245=>209 | 247=>223 | 279=>224 | 280=>225 | 281=>226 | 282=>227 | 287=>236 | 316=>237 | 171=>120 | 205=>238 | 321=>245 | 322=>246 | 243=>165 | 246=>193 | 283=>215 | 284=>216 | 285=>217 | 286=>218 | 129=>145 | 317=>229 | 318=>230 | 319=>231 | 320=>232 | 337=>239 | 338=>240 | n=>n,fun | 9=>9 | 3=>3 | 75=>206 | 76=>207 | 4=>4 | 5=>5 | 167=>256 | 37=>201 | 0=>0 | 85=>257 | 2=>2 | 168=>259 | 53=>189 | 175=>267 | 46=>147 | 210=>271 | 127=>228 | 145=>282 | 143=>280 | 21=>21 | 171=>248 | 173=>250 | 212=>264 | 51=>187 | 20=>20 | 213=>265 | 232=>283 | 233=>284 | 80=>209 | n=>n,fun | 15=>1 | 16=>2 | 17=>0 | 18=>6 | 19=>7 | n=>n⟩
theorem Tryz.lays1185:Go.Proofs.LaysC.n172 Tryz.prog Tryz.lays1185_ren:={
 mixed:=by kernel_rfl
 f129:=Tryz.func145.trans (congrArg some (by kernel_rfl))
 f171:=Tryz.func120.trans (congrArg some (by kernel_rfl))
 f172:=Tryz.func185.trans (congrArg some (by kernel_rfl))
 f205:=Tryz.func238.trans (congrArg some (by kernel_rfl))
 f243:=Tryz.func165.trans (congrArg some (by kernel_rfl))
 f244:=Tryz.func208.trans (congrArg some (by kernel_rfl))
 f245:=Tryz.func209.trans (congrArg some (by kernel_rfl))
 f246:=Tryz.func193.trans (congrArg some (by kernel_rfl))
 f247:=Tryz.func223.trans (congrArg some (by kernel_rfl))
 f279:=Tryz.func224.trans (congrArg some (by kernel_rfl))
 f280:=Tryz.func225.trans (congrArg some (by kernel_rfl))
 f281:=Tryz.func226.trans (congrArg some (by kernel_rfl))
 f282:=Tryz.func227.trans (congrArg some (by kernel_rfl))
 f283:=Tryz.func215.trans (congrArg some (by kernel_rfl))
 f284:=Tryz.func216.trans (congrArg some (by kernel_rfl))
 f285:=Tryz.func217.trans (congrArg some (by kernel_rfl))
 f286:=Tryz.func218.trans (congrArg some (by kernel_rfl))
 f287:=Tryz.func236.trans (congrArg some (by kernel_rfl))
 f316:=Tryz.func237.trans (congrArg some (by kernel_rfl))
 f317:=Tryz.func229.trans (congrArg some (by kernel_rfl))
 f318:=Tryz.func230.trans (congrArg some (by kernel_rfl))
 f319:=Tryz.func231.trans (congrArg some (by kernel_rfl))
 f320:=Tryz.func232.trans (congrArg some (by kernel_rfl))
 f321:=Tryz.func245.trans (congrArg some (by kernel_rfl))
 f322:=Tryz.func246.trans (congrArg some (by kernel_rfl))
 f337:=Tryz.func239.trans (congrArg some (by kernel_rfl))
 f338:=Tryz.func240.trans (congrArg some (by kernel_rfl))
 t0:=Tryz.underlying0
 a0:=Tryz.isAgg0
 z0:=Tryz.sizeOf0
 v0:=Tryz.zeroValue0
 t2:=Tryz.underlying2
 a2:=Tryz.isAgg2
 z2:=Tryz.sizeOf2
 v2:=Tryz.zeroValue2
 t3:=Tryz.underlying3
 a3:=Tryz.isAgg3
 z3:=Tryz.sizeOf3
 v3:=Tryz.zeroValue3
 t4:=Tryz.underlying4
 a4:=Tryz.isAgg4
 z4:=Tryz.sizeOf4
 v4:=Tryz.zeroValue4
 t5:=Tryz.underlying5
 a5:=Tryz.isAgg5
 z5:=Tryz.sizeOf5
 v5:=Tryz.zeroValue5
 t9:=Tryz.underlying9
 a9:=Tryz.isAgg9
 z9:=Tryz.sizeOf9
 v9:=Tryz.zeroValue9
 t20:=Tryz.underlying20
 a20:=Tryz.isAgg20
 z20:=Tryz.sizeOf20
 v20:=Tryz.zeroValue20
 t21:=Tryz.underlying21
 a21:=Tryz.isAgg21
 z21:=Tryz.sizeOf21
 v21:=Tryz.zeroValue21
 t37:=Tryz.underlying201
 a37:=Tryz.isAgg201
 z37:=Tryz.sizeOf201
 v37:=Tryz.zeroValue201
 t46:=Tryz.underlying147
 a46:=Tryz.isAgg147
 z46:=Tryz.sizeOf147
 v46:=Tryz.zeroValue147
 t51:=Tryz.underlying187
 a51:=Tryz.isAgg187
 z51:=Tryz.sizeOf187
 v51:=Tryz.zeroValue187
 t53:=Tryz.underlying189
 a53:=Tryz.isAgg189
 z53:=Tryz.sizeOf189
 v53:=Tryz.zeroValue189
 t75:=Tryz.underlying206
 a75:=Tryz.isAgg206
 z75:=Tryz.sizeOf206
 v75:=Tryz.zeroValue206
 t76:=Tryz.underlying207
 a76:=Tryz.isAgg207
 z76:=Tryz.sizeOf207
 v76:=Tryz.zeroValue207
 t85:=Tryz.underlying257
 a85:=Tryz.isAgg257
 z85:=Tryz.sizeOf257
 v85:=Tryz.zeroValue257
 t127:=Tryz.underlying228
 a127:=Tryz.isAgg228
 z127:=Tryz.sizeOf228
 v127:=Tryz.zeroValue228
 t143:=Tryz.underlying280
 a143:=Tryz.isAgg280
 z143:=Tryz.sizeOf280
 v143:=Tryz.zeroValue280
 t145:=Tryz.underlying282
 a145:=Tryz.isAgg282
 z145:=Tryz.sizeOf282
 v145:=Tryz.zeroValue282
 t167:=Tryz.underlying256
 a167:=Tryz.isAgg256
 z167:=Tryz.sizeOf256
 v167:=Tryz.zeroValue256
 t168:=Tryz.underlying259
 a168:=Tryz.isAgg259
 z168:=Tryz.sizeOf259
 v168:=Tryz.zeroValue259
 t171:=Tryz.underlying248
 a171:=Tryz.isAgg248
 z171:=Tryz.sizeOf248
 v171:=Tryz.zeroValue248
 t173:=Tryz.underlying250
 a173:=Tryz.isAgg250
 z173:=Tryz.sizeOf250
 v173:=Tryz.zeroValue250
 t175:=Tryz.underlying267
 a175:=Tryz.isAgg267
 z175:=Tryz.sizeOf267
 v175:=Tryz.zeroValue267
 t210:=Tryz.underlying271
 a210:=Tryz.isAgg271
 z210:=Tryz.sizeOf271
 v210:=Tryz.zeroValue271
 t212:=Tryz.underlying264
 a212:=Tryz.isAgg264
 z212:=Tryz.sizeOf264
 v212:=Tryz.zeroValue264
 t213:=Tryz.underlying265
 a213:=Tryz.isAgg265
 z213:=Tryz.sizeOf265
 t232:=Tryz.underlying283
 a232:=Tryz.isAgg283
 z232:=Tryz.sizeOf283
 v232:=Tryz.zeroValue283
 t233:=Tryz.underlying284
 a233:=Tryz.isAgg284
 z233:=Tryz.sizeOf284
 v233:=Tryz.zeroValue284
 g15:=by kernel_rfl
 g16:=by kernel_rfl
 g17:=by kernel_rfl
 g18:=by kernel_rfl
 g19:=by kernel_rfl
 t80:=Tryz.underlying209
 a80:=Tryz.isAgg209
 z80:=Tryz.sizeOf209
 v80:=Tryz.zeroValue209
 i0:=by kernel_rfl
 i2:=by kernel_rfl
 i3:=by kernel_rfl
 i4:=by kernel_rfl
 i5:=by kernel_rfl
 i9:=by kernel_rfl
 i20:=by kernel_rfl
 i21:=by kernel_rfl
 i37:=by kernel_rfl
 i46:=by kernel_rfl
 i51:=by kernel_rfl
 i53:=by kernel_rfl
 i75:=by kernel_rfl
 i76:=by kernel_rfl
 i80:=by kernel_rfl
 i85:=by kernel_rfl
 i127:=by kernel_rfl
 i143:=by kernel_rfl
 i145:=by kernel_rfl
 i167:=by kernel_rfl
 i168:=by kernel_rfl
 i171:=by kernel_rfl
 i173:=by kernel_rfl
 i175:=by kernel_rfl
 i210:=by kernel_rfl
 i212:=by kernel_rfl
 i232:=by kernel_rfl
 i233:=by kernel_rfl
 m15:=by kernel_rfl
 m16:=by kernel_rfl
 m17:=by kernel_rfl
 m18:=by kernel_rfl
 m19:=by kernel_rfl
 c0:=by kernel_rfl
 c2:=by kernel_rfl
 c3:=by kernel_rfl
 c4:=by kernel_rfl
 c5:=by kernel_rfl
 c9:=by kernel_rfl
 c20:=by kernel_rfl
 c21:=by kernel_rfl
 c37:=by kernel_rfl
 c46:=by kernel_rfl
 c51:=by kernel_rfl
 c53:=by kernel_rfl
 c75:=by kernel_rfl
 c76:=by kernel_rfl
 c80:=by kernel_rfl
 c85:=by kernel_rfl
 c127:=by kernel_rfl
 c143:=by kernel_rfl
 c145:=by kernel_rfl
 c167:=by kernel_rfl
 c168:=by kernel_rfl
 c171:=by kernel_rfl
 c173:=by kernel_rfl
 c175:=by kernel_rfl
 c210:=by kernel_rfl
 c212:=by kernel_rfl
 c213:=by kernel_rfl
 c232:=by kernel_rfl
 c233:=by kernel_rfl }
def Tryz.lays1163_ren:Go.Shelf.Ren:=⟨fun | 169=>163 | n=>n,fun | 70=>200 | 9=>9 | 0=>0 | 72=>203 | 37=>201 | 127=>228 | 3=>3 | 5=>5 | n=>n,fun | n=>n⟩
theorem Tryz.lays1163:Go.Proofs.Lays.n169 Tryz.prog Tryz.lays1163_ren:={
 mixed:=by kernel_rfl
 f169:=Tryz.func163.trans (congrArg some (by kernel_rfl))
 t0:=Tryz.underlying0
 a0:=Tryz.isAgg0
 z0:=Tryz.sizeOf0
 v0:=Tryz.zeroValue0
 t3:=Tryz.underlying3
 a3:=Tryz.isAgg3
 z3:=Tryz.sizeOf3
 v3:=Tryz.zeroValue3
 t9:=Tryz.underlying9
 a9:=Tryz.isAgg9
 z9:=Tryz.sizeOf9
 v9:=Tryz.zeroValue9
 t37:=Tryz.underlying201
 a37:=Tryz.isAgg201
 z37:=Tryz.sizeOf201
 v37:=Tryz.zeroValue201
 t70:=Tryz.underlying200
 a70:=Tryz.isAgg200
 z70:=Tryz.sizeOf200
 v70:=Tryz.zeroValue200
 t72:=Tryz.underlying203
 a72:=Tryz.isAgg203
 z72:=Tryz.sizeOf203
 v72:=Tryz.zeroValue203
 t127:=Tryz.underlying228
 a127:=Tryz.isAgg228
 z127:=Tryz.sizeOf228
 v127:=Tryz.zeroValue228 }
end Go.Proofs
namespace Go.Proofs.YtdaaoecjdhipjaaGreatDoor
open Go Go.Abs Go.PE Go.Proofs
theorem so1_72:So1OK Tryz.prog ⟨72,.int .i64,false,sortI⟩:=so1_sort Tryz.lays172 rfl Tryz.call72
theorem sp_183:SpecOK Tryz.prog 183 ⟨[.str,.str],[.str],fun x=>some (prefM x.1 x.2)⟩:=spec_pref Tryz.lays1183 rfl
theorem sp_184:SpecOK Tryz.prog 184 ⟨[.str,.str],[.str],fun x=>trimM x.1 x.2⟩:=spec_trim rfl Tryz.lays1184 (by kernel_rfl) rfl
theorem sp_161:SpecOK Tryz.prog 161 ⟨[.str,.int .i64],[.str],fun x=>rptM x.1 x.2⟩:=spec_rept rfl Tryz.lays1161 ⟨⟨by kernel_rfl,by kernel_rfl⟩,by kernel_rfl,Tryz.isAgg5,Tryz.sizeOf5,Tryz.zeroValue5,by kernel_rfl,by kernel_rfl,by kernel_rfl,by decide⟩ rfl
theorem sp_120:SpecOK Tryz.prog 120 ⟨[.int .i64],[.str],fun x=>some (itoaM x)⟩:=spec_itoa Tryz.lays1120 rfl (by kernel_rfl) (g:=0) (by kernel_rfl)
theorem ex_185:ExtOK Tryz.prog 185 (.atoi atoiM):=ext_atoi Tryz.lays1185 rfl Tryz.call185
theorem ex_162:ExtOK Tryz.prog 162 (.wstr 203 5):=ext_wstr { Tryz.lays1161 with } ⟨⟨by kernel_rfl,by kernel_rfl⟩,by kernel_rfl,Tryz.isAgg5,Tryz.sizeOf5,Tryz.zeroValue5,by kernel_rfl,by kernel_rfl,by kernel_rfl,by decide⟩ rfl rfl rfl Tryz.call162
theorem ex_163:ExtOK Tryz.prog 163 (.stri 203 5):=ext_stri Tryz.lays1163 ⟨⟨by kernel_rfl,by kernel_rfl⟩,by kernel_rfl,Tryz.isAgg5,Tryz.sizeOf5,Tryz.zeroValue5,by kernel_rfl,by kernel_rfl,by kernel_rfl,by decide⟩ rfl rfl rfl Tryz.call163
noncomputable def tabs:Tabs:={ tabs0 with so1:=[⟨72,.int .i64,false,sortI⟩],sp:=[(183,⟨[.str,.str],[.str],fun x=>some (prefM x.1 x.2)⟩),(184,⟨[.str,.str],[.str],fun x=>trimM x.1 x.2⟩),(161,⟨[.str,.int .i64],[.str],fun x=>rptM x.1 x.2⟩),(120,⟨[.int .i64],[.str],fun x=>some (itoaM x)⟩)],ex:=[(185,.atoi atoiM),(162,.wstr 203 5),(163,.stri 203 5)] }
theorem tabsOK:TabOK Tryz.prog tabs:=⟨tabs0OK.ty,tabs0OK.fn,(by
 show ∀ f s,lk ([(183,⟨[.str,.str],[.str],fun x=>some (prefM x.1 x.2)⟩),(184,⟨[.str,.str],[.str],fun x=>trimM x.1 x.2⟩),(161,⟨[.str,.int .i64],[.str],fun x=>rptM x.1 x.2⟩),(120,⟨[.int .i64],[.str],fun x=>some (itoaM x)⟩)]:List (FuncId×Go.PE.Spec)) f=some s→SpecOK Tryz.prog f s
 refine lk_all (p:=fun f s=>SpecOK Tryz.prog f s) sp_183 ?_
 refine lk_all (p:=fun f s=>SpecOK Tryz.prog f s) sp_184 ?_
 refine lk_all (p:=fun f s=>SpecOK Tryz.prog f s) sp_161 ?_
 refine lk_all (p:=fun f s=>SpecOK Tryz.prog f s) sp_120 ?_
 exact lk_none),(by
 show ∀ f s,lk ([(183,⟨[.str,.str],[.str],fun x=>some (prefM x.1 x.2)⟩),(184,⟨[.str,.str],[.str],fun x=>trimM x.1 x.2⟩),(161,⟨[.str,.int .i64],[.str],fun x=>rptM x.1 x.2⟩),(120,⟨[.int .i64],[.str],fun x=>some (itoaM x)⟩)]:List (FuncId×Go.PE.Spec)) f=some s→∀ (args:Array Value) (w:World),(callFunc f args).run Tryz.prog w=.ok (.enter f args) w
 refine lk_all (p:=fun f s=>∀ (args:Array Value) (w:World),(callFunc f args).run Tryz.prog w=.ok (.enter f args) w) Tryz.call183 ?_
 refine lk_all (p:=fun f s=>∀ (args:Array Value) (w:World),(callFunc f args).run Tryz.prog w=.ok (.enter f args) w) Tryz.call184 ?_
 refine lk_all (p:=fun f s=>∀ (args:Array Value) (w:World),(callFunc f args).run Tryz.prog w=.ok (.enter f args) w) Tryz.call161 ?_
 refine lk_all (p:=fun f s=>∀ (args:Array Value) (w:World),(callFunc f args).run Tryz.prog w=.ok (.enter f args) w) Tryz.call120 ?_
 exact lk_none),tabs0OK.mixed,tabs0OK.so,tabs0OK.eqs,fun s hs=>by
 have hs:s∈[(⟨72,.int .i64,false,sortI⟩:So1)]:=hs
 simp only [List.mem_cons,List.not_mem_nil,or_false] at hs
 rcases hs with rfl
 ·exact so1_72,tabs0OK.mps,tabs0OK.ow,tabs0OK.bt,(by
 show ∀ f s,lk ([(185,.atoi atoiM),(162,.wstr 203 5),(163,.stri 203 5)]:List (FuncId×Go.PE.Ext)) f=some s→ExtOK Tryz.prog f s
 refine lk_all (p:=fun f s=>ExtOK Tryz.prog f s) ex_185 ?_
 refine lk_all (p:=fun f s=>ExtOK Tryz.prog f s) ex_162 ?_
 refine lk_all (p:=fun f s=>ExtOK Tryz.prog f s) ex_163 ?_
 exact lk_none)⟩
end Go.Proofs.YtdaaoecjdhipjaaGreatDoor
namespace Go.Proofs.YtdaaoecjdhipjaaGreatDoor
open Go Go.Abs Go.PE Go.Proofs
open Go.IntKind (wrap)
set_option maxRecDepth 100000
noncomputable section
abbrev tP:Ty:=(.pair tI tI)
abbrev tB:Ty:=(.pair tI tP)
abbrev tC:Ty:=(.pair tI (.pair tI tB))
abbrev tQ:Ty:=(.list tP)
abbrev tL:Ty:=(.list tI)
abbrev tO:Ty:=(.pair tI tQ)
abbrev tD:Ty:=(.pair tO (.list tC))
abbrev z0:Fl:=.s [] []
def ra:Nat→Nat→List Nat→List Nat
 | _,0,l=>l
 | a,n+1,l=>a::ra (a+1) n l
def za:Nat→List Fl→List Fl
 | 0,l=>l
 | n+1,l=>z0::za n l
theorem fc {f:FuncId} {ta tr:List Ty} {m:Tup (ta.map .d)→Option (Tup (tr.map .d))} {Γ:Tabs} (h:TabOK Tryz.prog Γ) (own:List Nat) (an:Ann) (fn:Func) (hm:∀ x,fnM OPS 400 Γ own an fn (fn.body.getD .skip) ta tr x=m x) (hf:lk Γ.fn f=some fn:=by kernel_rfl) (hb:fn.body=some (fn.body.getD .skip):=by kernel_rfl) (hn:Nat.ble ta.length fn.ntmps=true:=by kernel_rfl):SpecOK Tryz.prog f ⟨ta,tr,m⟩:=fnM_ok h OPS_sound OPS_nice hf hb hn hm
def tabsA:Tabs:={ tabs with mps:=[] }
theorem mpsOK:∀ f es,lk tabsA.mps f=some es→MapOK Tryz.prog f es:=by
 show ∀ f es,lk [] f=some es→MapOK Tryz.prog f es
 exact lk_none
theorem tabsAOK:TabOK Tryz.prog tabsA:=⟨tabsOK.ty,tabsOK.fn,tabsOK.sp,tabsOK.en,tabsOK.mixed,tabsOK.so,tabsOK.eqs,tabsOK.so1,mpsOK,tabsOK.ow,tabsOK.bt,tabsOK.ex⟩
def ano54:Ann:=.a
def mo54:List Int→Option (List Int) :=
 fun x=>nilM x (some []) ((appM (nat_lit 8) [] x).bind fun r=>some r)
theorem co54:OwnOK Tryz.prog 54 ⟨[(.list tI)],tI,mo54⟩ :=
 fnOw_ok (own:=[]) (an:=ano54) (n:=400) tabsAOK (F:=OPS) OPS_sound OPS_nice (f:=54) (fn:=Tryz.f54) (code:=Tryz.f54.body.getD .skip) (by kernel_rfl) (by kernel_rfl) (by kernel_rfl) Tryz.call54 fun x=>by kernel_rfl
def tabsO54:Tabs:=Tabs.addOw tabsA 54 ⟨[(.list tI)],tI,mo54⟩
theorem tabsO54OK:TabOK Tryz.prog tabsO54:=TabOK.addOw tabsAOK co54
def ano81:Ann:=.a
def mo81:List (Int×Int)→Option (List (Int×Int)) :=
 fun x=>nilM x (some []) ((appM (nat_lit 16) [] x).bind fun r=>some r)
theorem co81:OwnOK Tryz.prog 81 ⟨[(.list (.pair tI tI))],(.pair tI tI),mo81⟩ :=
 fnOw_ok (own:=[]) (an:=ano81) (n:=400) tabsO54OK (F:=OPS) OPS_sound OPS_nice (f:=81) (fn:=Tryz.f81) (code:=Tryz.f81.body.getD .skip) (by kernel_rfl) (by kernel_rfl) (by kernel_rfl) Tryz.call81 fun x=>by kernel_rfl
def tabsO81:Tabs:=Tabs.addOw tabsO54 81 ⟨[(.list (.pair tI tI))],(.pair tI tI),mo81⟩
theorem tabsO81OK:TabOK Tryz.prog tabsO81:=TabOK.addOw tabsO54OK co81
def tabsX:Tabs:=tabsO81
theorem tabsXOK:TabOK Tryz.prog tabsX:=tabsO81OK

/-! putlog/field.within -/
def as51:List Ty:=[tI,tI,tI]
def rs51:List Ty:=[.bool]
def an51:Ann:=.a
def m51:(Int×Int×Int)→Option (Bool) :=
 fun x=>some (PE.andM (leM x.2.1 x.1) (leM x.1 x.2.2))
theorem c51:SpecOK Tryz.prog 51 ⟨as51,rs51,m51⟩ :=
 fc tabsXOK [] an51 Tryz.f51 fun x=>by kernel_rfl
def tabs51:Tabs:=Tabs.add tabsX 51 ⟨as51,rs51,m51⟩
theorem tabs51OK:TabOK Tryz.prog tabs51:=TabOK.add tabsXOK c51 Tryz.call51

/-! putlog/field.Valid -/
def as17:List Ty:=[(.pair tI (.pair tI (.pair tL tL)))]
def rs17:List Ty:=[.bool]
def an17:Ann:=.seq (.a) (.seq (.a) (.seq (.seq (.a) (.block (.loop ⟨[(40,.r (.c (.d (.d tI))))],(3::4::ra 41 21 ([])),[],[]⟩ [(.exit 0,⟨[],(3::4::ra 40 22 ([])),[],[]⟩),(.ret,⟨[(2,.r (.c (.d (.d .bool))))],(3::4::ra 40 22 ([])),[],[]⟩)] (.a)))) (.a)))
def m17:(Int×Int×List Int×List Int)→Option (Bool) :=
 fun x=>(m51 (x.1,1,6)).bind fun r=>(bif PE.notM (PE.notM r) then m51 (x.2.1,1,6) else some false).bind fun r_1=>bif PE.orM (PE.orM (PE.orM (PE.notM r)
 (PE.notM r_1)) (PE.notM (eqM (lenM x.2.2.1) (wrap IntKind.i64 (wrap IntKind.i64 (x.1+1)*wrap IntKind.i64 (x.2.1+1)))))) (PE.notM (eqM (lenM x.2.2.2)
 (lenM x.2.2.1))) then some false else (loopM (fun (s:Int)=>bif ltM s (lenM x.2.2.1) then (idxM x.2.2.1 s).bind fun r_2=>(idxM x.2.2.2 s).bind fun r_3 =>
 (m51 (r_2,0,r_3)).bind fun r_4=>(bif PE.notM (PE.notM r_4) then idxM x.2.2.2 s else some 0).bind fun r=>bif PE.orM (PE.notM r_4) (ltM 100 r) then some
 (Sum.inr (Sum.inr false)) else some (Sum.inl (wrap IntKind.i64 (s+1))) else some (Sum.inr (Sum.inl ()))) 0).bind fun o=>Sum.elim (fun (t:Unit)=>some
 true) (fun (t:Bool)=>some t) o
theorem c17:SpecOK Tryz.prog 17 ⟨as17,rs17,m17⟩ :=
 fc tabs51OK [] an17 Tryz.f17 fun x=>by kernel_rfl
def tabs17:Tabs:=Tabs.add tabs51 17 ⟨as17,rs17,m17⟩
theorem tabs17OK:TabOK Tryz.prog tabs17:=TabOK.add tabs51OK c17 Tryz.call17

/-! putlog/field.At -/
def as20:List Ty:=[(.pair tI (.pair tI (.pair tL tL))),tI,tI,tI]
def rs20:List Ty:=[tI,tI,tI]
def an20:Ann:=.seq (.a) (.seq (.a) (.seq (.reg [0,0,3,0,8,24,63,0,0,384,0,1024,3072,8064,16383,0,65535] (ra 0 17 ([])) (z0::.s [1] []::z0::z0::.s [0] []::za 3 (.s [1] []::z0::z0::.s [0] []::za 3 (.s [] [2]::.s [2] [2]::[]))) (.a)) (.seq (.reg [0,0,2,0,14,31,0,0,128,0,896,1984,0,0,12351,32767] (ra 0 16 ([])) (z0::z0::.s [2] []::.s [1] []::za 4 (.s [2] []::.s [1] []::z0::z0::.s [] [3]::.s [] [4]::.s [3] [3]::.s [4] [4]::[])) (.a)) (.seq (.reg [] [] [.s [0] [],z0,.r,z0,z0,z0,z0,z0] (.call [] [] (.seq (.a) (.seq (.reg [0,0,0,4,14,31,0,0,0,256,959,2047,4095,8191] (ra 0 14 ([])) [z0,.s [5] [],z0,.s [5] [],.k [6,7],.k [],z0,.s [5] [],z0,.s [5] [],.k [8,9],.k [],z0,z0] (.kp [] ⟨[(10,.r (.c (.f 123 [] [.p 6 0,.p 7 0])))],[],[],[.box [.d (.d tL)],.box [.d (.d tI),.d (.d tI),.d (.d tL),.d (.d tL)]]⟩ (.seq (.a) (.a)) (.kp [] ⟨[(11,.r (.c (.d (.d tI))))],[],[],[]⟩ (.seq (.a) (.seq (.reg [] [] [z0,z0,.s [2] [],z0,z0,.s [2] [],z0,z0,.r,z0] (.call [] [] (.seq (.a) (.a)) (.a))) (.seq (.seq (.a) (.cond (.seq (.reg [0,0,3,0,0,24,63,0,0,384,0,0,2048,6144,0,16384,63488,130104,262072,524287,0,0,3145728,8388607,16777215] (ra 0 25 ([])) [.s [1] [],.s [3] [],z0,z0,.s [2] [],.k [],z0,.s [3] [],.s [4] [],z0,z0,z0,.s [2] [],z0,z0,.s [2] [],z0,.k [],z0,z0,.s [4] [],z0,z0,z0,z0] (.kp [] ⟨[(25,.r (.c (.d (.d tI))))],[],[],[]⟩ (.seq (.a) (.a)) (.kp [] ⟨[(37,.r (.c (.d (.d tI))))],[],[],[]⟩ (.seq (.a) (.a)) (.a)))) (.a)) (.a))) (.seq (.reg [0,0,3,0,0,24,63,0,0,384,0,0,2048,0,8192,24576,63488,130104,262072,524287,0,0,3145728,8388607,16777215] (ra 0 25 ([])) [.s [1] [],.s [4] [],z0,z0,.s [2] [],.k [],z0,.s [4] [],.s [3] [],z0,z0,z0,.s [2] [],z0,.s [2] [],z0,z0,.k [],z0,z0,.s [3] [],z0,z0,z0,z0] (.kp [] ⟨[(49,.r (.c (.d (.d tI))))],[],[],[]⟩ (.seq (.a) (.a)) (.kp [] ⟨[(61,.r (.c (.d (.d tI))))],[],[],[]⟩ (.seq (.a) (.a)) (.a)))) (.a))))) (.kp [] ⟨[(16,.r (.c (.f 123 [] [.p 8 0,.p 9 0])))],[],[],[.box [.d (.d tL)],.box [.d (.d tI),.d (.d tI),.d (.d tL),.d (.d tL)]]⟩ (.seq (.a) (.a)) (.kp [] ⟨[(17,.r (.c (.d (.d tI))))],[],[],[]⟩ (.seq (.a) (.seq (.reg [] [] [z0,z0,.s [2] [],z0,z0,.s [2] [],z0,z0,.r,z0] (.call [] [] (.seq (.a) (.a)) (.a))) (.seq (.seq (.a) (.cond (.seq (.reg [0,0,3,0,0,24,63,0,0,384,0,0,2048,6144,0,16384,63488,130104,262072,524287,0,0,3145728,8388607,16777215] (ra 0 25 ([])) [.s [1] [],.s [3] [],z0,z0,.s [2] [],.k [],z0,.s [3] [],.s [4] [],z0,z0,z0,.s [2] [],z0,z0,.s [2] [],z0,.k [],z0,z0,.s [4] [],z0,z0,z0,z0] (.kp [] ⟨[(25,.r (.c (.d (.d tI))))],[],[],[]⟩ (.seq (.a) (.a)) (.kp [] ⟨[(37,.r (.c (.d (.d tI))))],[],[],[]⟩ (.seq (.a) (.a)) (.a)))) (.a)) (.a))) (.seq (.reg [0,0,3,0,0,24,63,0,0,384,0,0,2048,0,8192,24576,63488,130104,262072,524287,0,0,3145728,8388607,16777215] (ra 0 25 ([])) [.s [1] [],.s [4] [],z0,z0,.s [2] [],.k [],z0,.s [4] [],.s [3] [],z0,z0,z0,.s [2] [],z0,.s [2] [],z0,z0,.k [],z0,z0,.s [3] [],z0,z0,z0,z0] (.kp [] ⟨[(49,.r (.c (.d (.d tI))))],[],[],[]⟩ (.seq (.a) (.a)) (.kp [] ⟨[(61,.r (.c (.d (.d tI))))],[],[],[]⟩ (.seq (.a) (.a)) (.a)))) (.a))))) (.a)))))) (.a))) (.a))) (.a)))))
def m20:((Int×Int×List Int×List Int)×Int×Int×Int)→Option (Int×Int×Int) :=
 fun x=>(m17 (x.1.1,x.1.2.1,x.1.2.2.1,x.1.2.2.2)).bind fun r=>(bif PE.notM (PE.notM r) then m51 (x.2.2.2,1,60) else some false).bind fun r_1=>(bif
 PE.notM (PE.orM (PE.notM r) (PE.notM r_1)) then m51 (x.2.1,0,wrap IntKind.i64 (x.1.1*x.2.2.2)) else some false).bind fun r_2=>(bif PE.notM (PE.orM
 (PE.orM (PE.notM r) (PE.notM r_1)) (PE.notM r_2)) then m51 (x.2.2.1,0,wrap IntKind.i64 (x.1.2.1*x.2.2.2)) else some false).bind fun r_3=>bif PE.orM
 (PE.orM (PE.orM (PE.notM r) (PE.notM r_1)) (PE.notM r_2)) (PE.notM r_3) then some (0,0,250) else (divM IntKind.i64 x.2.1 x.2.2.2).bind fun r_4=>(divM
 IntKind.i64 x.2.2.1 x.2.2.2).bind fun r_5=>((idxM x.1.2.2.1 (wrap IntKind.i64 (wrap IntKind.i64 (wrap IntKind.i64 (min r_5 (wrap IntKind.i64 (x.1.2.1-1))
 + 1)*wrap IntKind.i64 (x.1.1+1))+wrap IntKind.i64 (min r_4 (wrap IntKind.i64 (x.1.1-1))+1)))).bind fun r_6=>bif leM (wrap IntKind.i64 (x.2.2.1 -
 wrap IntKind.i64 (min r_5 (wrap IntKind.i64 (x.1.2.1-1))*x.2.2.2))) (wrap IntKind.i64 (x.2.1-wrap IntKind.i64 (min r_4 (wrap IntKind.i64 (x.1.1-1)) *
 x.2.2.2))) then ((idxM x.1.2.2.1 (wrap IntKind.i64 (wrap IntKind.i64 (min r_5 (wrap IntKind.i64 (x.1.2.1-1))*wrap IntKind.i64 (x.1.1+1))+min r_4 (wrap
 IntKind.i64 (x.1.1-1))))).bind fun r=>some r).bind fun (ov:Int)=>((idxM x.1.2.2.1 (wrap IntKind.i64 (wrap IntKind.i64 (min r_5 (wrap IntKind.i64
 (x.1.2.1-1))*wrap IntKind.i64 (x.1.1+1))+wrap IntKind.i64 (min r_4 (wrap IntKind.i64 (x.1.1-1))+1)))).bind fun r=>some r).bind fun (ov_1:Int)
 => some (wrap IntKind.i64 (wrap IntKind.i64 (wrap IntKind.i64 (wrap IntKind.i64 (x.2.2.2-wrap IntKind.i64 (x.2.1-wrap IntKind.i64 (min r_4 (wrap
 IntKind.i64 (x.1.1-1))*x.2.2.2)))*ov)+wrap IntKind.i64 (wrap IntKind.i64 (wrap IntKind.i64 (x.2.1-wrap IntKind.i64 (min r_4 (wrap IntKind.i64 (x.1.1
 - 1))*x.2.2.2))-wrap IntKind.i64 (x.2.2.1-wrap IntKind.i64 (min r_5 (wrap IntKind.i64 (x.1.2.1-1))*x.2.2.2)))*ov_1))+wrap IntKind.i64 (wrap
 IntKind.i64 (x.2.2.1-wrap IntKind.i64 (min r_5 (wrap IntKind.i64 (x.1.2.1-1))*x.2.2.2))*r_6))) else ((idxM x.1.2.2.1 (wrap IntKind.i64 (wrap
 IntKind.i64 (min r_5 (wrap IntKind.i64 (x.1.2.1-1))*wrap IntKind.i64 (x.1.1+1))+min r_4 (wrap IntKind.i64 (x.1.1-1))))).bind fun r=>some r).bind
 fun (ov:Int)=>((idxM x.1.2.2.1 (wrap IntKind.i64 (wrap IntKind.i64 (wrap IntKind.i64 (min r_5 (wrap IntKind.i64 (x.1.2.1-1))+1)*wrap IntKind.i64
 (x.1.1+1))+min r_4 (wrap IntKind.i64 (x.1.1-1))))).bind fun r=>some r).bind fun (ov_1:Int)=>some (wrap IntKind.i64 (wrap IntKind.i64 (wrap
 IntKind.i64 (wrap IntKind.i64 (x.2.2.2-wrap IntKind.i64 (x.2.2.1-wrap IntKind.i64 (min r_5 (wrap IntKind.i64 (x.1.2.1-1))*x.2.2.2)))*ov)+wrap
 IntKind.i64 (wrap IntKind.i64 (wrap IntKind.i64 (x.2.2.1-wrap IntKind.i64 (min r_5 (wrap IntKind.i64 (x.1.2.1-1))*x.2.2.2))-wrap IntKind.i64 (x.2.1 -
 wrap IntKind.i64 (min r_4 (wrap IntKind.i64 (x.1.1-1))*x.2.2.2)))*ov_1))+wrap IntKind.i64 (wrap IntKind.i64 (x.2.1-wrap IntKind.i64 (min r_4 (wrap
 IntKind.i64 (x.1.1-1))*x.2.2.2))*r_6)))).bind fun (ov:Int)=>((idxM x.1.2.2.2 (wrap IntKind.i64 (wrap IntKind.i64 (wrap IntKind.i64 (min r_5 (wrap
 IntKind.i64 (x.1.2.1-1))+1)*wrap IntKind.i64 (x.1.1+1))+wrap IntKind.i64 (min r_4 (wrap IntKind.i64 (x.1.1-1))+1)))).bind fun r_6=>bif leM
 (wrap IntKind.i64 (x.2.2.1-wrap IntKind.i64 (min r_5 (wrap IntKind.i64 (x.1.2.1-1))*x.2.2.2))) (wrap IntKind.i64 (x.2.1-wrap IntKind.i64 (min r_4
 (wrap IntKind.i64 (x.1.1-1))*x.2.2.2))) then ((idxM x.1.2.2.2 (wrap IntKind.i64 (wrap IntKind.i64 (min r_5 (wrap IntKind.i64 (x.1.2.1-1))*wrap
 IntKind.i64 (x.1.1+1))+min r_4 (wrap IntKind.i64 (x.1.1-1))))).bind fun r=>some r).bind fun (ov_1:Int)=>((idxM x.1.2.2.2 (wrap IntKind.i64 (wrap
 IntKind.i64 (min r_5 (wrap IntKind.i64 (x.1.2.1-1))*wrap IntKind.i64 (x.1.1+1))+wrap IntKind.i64 (min r_4 (wrap IntKind.i64 (x.1.1-1))+1)))).bind
 fun r=>some r).bind fun (ov:Int)=>some (wrap IntKind.i64 (wrap IntKind.i64 (wrap IntKind.i64 (wrap IntKind.i64 (x.2.2.2-wrap IntKind.i64 (x.2.1-wrap
 IntKind.i64 (min r_4 (wrap IntKind.i64 (x.1.1-1))*x.2.2.2)))*ov_1)+wrap IntKind.i64 (wrap IntKind.i64 (wrap IntKind.i64 (x.2.1-wrap IntKind.i64 (min
 r_4 (wrap IntKind.i64 (x.1.1-1))*x.2.2.2))-wrap IntKind.i64 (x.2.2.1-wrap IntKind.i64 (min r_5 (wrap IntKind.i64 (x.1.2.1-1))*x.2.2.2)))*ov)) +
 wrap IntKind.i64 (wrap IntKind.i64 (x.2.2.1-wrap IntKind.i64 (min r_5 (wrap IntKind.i64 (x.1.2.1-1))*x.2.2.2))*r_6))) else ((idxM x.1.2.2.2 (wrap
 IntKind.i64 (wrap IntKind.i64 (min r_5 (wrap IntKind.i64 (x.1.2.1-1))*wrap IntKind.i64 (x.1.1+1))+min r_4 (wrap IntKind.i64 (x.1.1-1))))).bind fun r
 => some r).bind fun (ov_1:Int)=>((idxM x.1.2.2.2 (wrap IntKind.i64 (wrap IntKind.i64 (wrap IntKind.i64 (min r_5 (wrap IntKind.i64 (x.1.2.1-1))+1) *
 wrap IntKind.i64 (x.1.1+1))+min r_4 (wrap IntKind.i64 (x.1.1-1))))).bind fun r=>some r).bind fun (ov:Int)=>some (wrap IntKind.i64 (wrap
 IntKind.i64 (wrap IntKind.i64 (wrap IntKind.i64 (x.2.2.2-wrap IntKind.i64 (x.2.2.1-wrap IntKind.i64 (min r_5 (wrap IntKind.i64 (x.1.2.1-1))*x.2.2.2)))
 * ov_1)+wrap IntKind.i64 (wrap IntKind.i64 (wrap IntKind.i64 (x.2.2.1-wrap IntKind.i64 (min r_5 (wrap IntKind.i64 (x.1.2.1-1))*x.2.2.2))-wrap
 IntKind.i64 (x.2.1-wrap IntKind.i64 (min r_4 (wrap IntKind.i64 (x.1.1-1))*x.2.2.2)))*ov))+wrap IntKind.i64 (wrap IntKind.i64 (x.2.1-wrap
 IntKind.i64 (min r_4 (wrap IntKind.i64 (x.1.1-1))*x.2.2.2))*r_6)))).bind fun (ov_1:Int)=>some (ov,ov_1,0)
theorem c20:SpecOK Tryz.prog 20 ⟨as20,rs20,m20⟩ :=
 fc tabs17OK [] an20 Tryz.f20 fun x=>by kernel_rfl
def tabs20:Tabs:=Tabs.add tabs17 20 ⟨as20,rs20,m20⟩
theorem tabs20OK:TabOK Tryz.prog tabs20:=TabOK.add tabs17OK c20 Tryz.call20

/-! putlog/field.Integral6 -/
def as15:List Ty:=[(.pair tI (.pair tI (.pair tL tL)))]
def rs15:List Ty:=[tI,tI]
def an15:Ann:=.seq (.a) (.seq (.a) (.seq (.reg [] [] [.s [0] [],z0,.r,z0,z0,z0,z0] (.call [] [] (.seq (.a) (.seq (.reg [0,0,0,4,14,31,0,0,0,256,959,2047,4095,8191] (ra 0 14 ([])) [z0,.s [1] [],z0,.s [1] [],.k [2,3],.k [],z0,.s [1] [],z0,.s [1] [],.k [4,5],.k [],z0,z0] (.kp [] ⟨[(10,.r (.c (.f 123 [] [.p 2 0,.p 3 0])))],[],[],[.box [.d (.d tL)],.box [.d (.d tI),.d (.d tI),.d (.d tL),.d (.d tL)]]⟩ (.seq (.a) (.a)) (.kp [] ⟨[(11,.r (.c (.d (.d tI))))],[],[],[]⟩ (.seq (.a) (.seq (.a) (.seq (.seq (.reg [] [] [.s [0] [],.r] (.call [] [] (.seq (.a) (.a)) (.a))) (.block (.call [] [] (.seq (.a) (.block (.loop ⟨[(9,.r (.c (.d (.d tI))))],(3::4::5::6::ra 10 39 ([])),[(5,.box [.d (.d tI)]),(7,.lp .ready)],[]⟩ [(.exit 0,⟨[],(3::4::5::6::ra 9 40 ([])),[(5,.box [.d (.d tI)]),(7,.lp .ready)],[]⟩)] (.seq (.a) (.seq (.a) (.seq (.block (.seq (.a) (.seq (.a) (.block (.loop ⟨[(14,.r (.c (.d (.d tI))))],(4::5::6::ra 15 33 ([])),[(5,.box [.d (.d tI)]),(7,.lp .ready)],[]⟩ [(.exit 2,⟨[],(4::5::6::ra 14 34 ([])),[(5,.box [.d (.d tI)]),(7,.lp .ready)],[]⟩)] (.seq (.a) (.seq (.a) (.seq (.block (.seq (.a) (.seq (.a) (.seq (.reg [] [] [z0,.s [8] [],z0,z0,z0,z0,.s [9] [],z0,.r,z0,z0,z0,.s [8] [],.s [9] [],z0,z0,z0,z0,z0,.r,z0,z0] (.call [] [] (.seq (.a) (.block (.reg [0,0,0,4,14,0,0,64,254,510,0,0,2048,7678,16382,32767,65535] (ra 0 17 ([])) [.s [5] [],.s [4] [],z0,.s [10] [],.k [],.s [4] [],z0,.s [10] [],.k [],z0,.s [4] [],z0,.s [10] [],.k [],z0,z0,.s [5] [5]] (.kp [] ⟨[(13,.r (.c (.d (.d tI))))],[],[],[]⟩ (.seq (.a) (.a)) (.kp [] ⟨[(17,.r (.c (.d (.d tI))))],[],[],[]⟩ (.seq (.a) (.a)) (.kp [] ⟨[(22,.r (.c (.d (.d tI))))],[],[],[]⟩ (.seq (.a) (.a)) (.a))))))) (.gq z0 (.gq (.s [8] []) (.gq (.s [9] []) (.gq z0 (.gq z0 (.gq z0 (.gq z0 (.gq z0 (.gq (.r) (.call [] [] (.seq (.a) (.block (.reg [0,0,0,4,14,0,0,64,254,510,0,0,2048,7678,16382,32767,65535] (ra 0 17 ([])) [.s [5] [],.s [4] [],z0,.s [11] [],.k [],.s [4] [],z0,.s [11] [],.k [],z0,.s [4] [],z0,.s [11] [],.k [],z0,z0,.s [5] [5]] (.kp [] ⟨[(13,.r (.c (.d (.d tI))))],[],[],[]⟩ (.seq (.a) (.a)) (.kp [] ⟨[(17,.r (.c (.d (.d tI))))],[],[],[]⟩ (.seq (.a) (.a)) (.kp [] ⟨[(22,.r (.c (.d (.d tI))))],[],[],[]⟩ (.seq (.a) (.a)) (.a))))))) (.gq z0 (.a) (.a))) (.a)) (.a)) (.a)) (.a)) (.a)) (.a)) (.a)) (.a)) (.a)))) (.a))))) (.a))))))))) (.a))))))) (.a)))) (.a)))) (.kp [] ⟨[(16,.r (.c (.f 123 [] [.p 4 0,.p 5 0])))],[],[],[.box [.d (.d tL)],.box [.d (.d tI),.d (.d tI),.d (.d tL),.d (.d tL)]]⟩ (.seq (.a) (.a)) (.kp [] ⟨[(17,.r (.c (.d (.d tI))))],[],[],[]⟩ (.seq (.a) (.seq (.a) (.seq (.seq (.reg [] [] [.s [0] [],.r] (.call [] [] (.seq (.a) (.a)) (.a))) (.block (.call [] [] (.seq (.a) (.block (.loop ⟨[(9,.r (.c (.d (.d tI))))],(3::4::5::6::ra 10 39 ([])),[(7,.box [.d (.d tI)]),(9,.lp .ready)],[]⟩ [(.exit 0,⟨[],(3::4::5::6::ra 9 40 ([])),[(7,.box [.d (.d tI)]),(9,.lp .ready)],[]⟩)] (.seq (.a) (.seq (.a) (.seq (.block (.seq (.a) (.seq (.a) (.block (.loop ⟨[(14,.r (.c (.d (.d tI))))],(4::5::6::ra 15 33 ([])),[(7,.box [.d (.d tI)]),(9,.lp .ready)],[]⟩ [(.exit 2,⟨[],(4::5::6::ra 14 34 ([])),[(7,.box [.d (.d tI)]),(9,.lp .ready)],[]⟩)] (.seq (.a) (.seq (.a) (.seq (.block (.seq (.a) (.seq (.a) (.seq (.reg [] [] [z0,.s [10] [],z0,z0,z0,z0,.s [11] [],z0,.r,z0,z0,z0,.s [10] [],.s [11] [],z0,z0,z0,z0,z0,.r,z0,z0] (.call [] [] (.seq (.a) (.block (.reg [0,0,0,4,14,0,0,64,254,510,0,0,2048,7678,16382,32767,65535] (ra 0 17 ([])) [.s [7] [],.s [6] [],z0,.s [12] [],.k [],.s [6] [],z0,.s [12] [],.k [],z0,.s [6] [],z0,.s [12] [],.k [],z0,z0,.s [7] [7]] (.kp [] ⟨[(13,.r (.c (.d (.d tI))))],[],[],[]⟩ (.seq (.a) (.a)) (.kp [] ⟨[(17,.r (.c (.d (.d tI))))],[],[],[]⟩ (.seq (.a) (.a)) (.kp [] ⟨[(22,.r (.c (.d (.d tI))))],[],[],[]⟩ (.seq (.a) (.a)) (.a))))))) (.gq z0 (.gq (.s [10] []) (.gq (.s [11] []) (.gq z0 (.gq z0 (.gq z0 (.gq z0 (.gq z0 (.gq (.r) (.call [] [] (.seq (.a) (.block (.reg [0,0,0,4,14,0,0,64,254,510,0,0,2048,7678,16382,32767,65535] (ra 0 17 ([])) [.s [7] [],.s [6] [],z0,.s [13] [],.k [],.s [6] [],z0,.s [13] [],.k [],z0,.s [6] [],z0,.s [13] [],.k [],z0,z0,.s [7] [7]] (.kp [] ⟨[(13,.r (.c (.d (.d tI))))],[],[],[]⟩ (.seq (.a) (.a)) (.kp [] ⟨[(17,.r (.c (.d (.d tI))))],[],[],[]⟩ (.seq (.a) (.a)) (.kp [] ⟨[(22,.r (.c (.d (.d tI))))],[],[],[]⟩ (.seq (.a) (.a)) (.a))))))) (.gq z0 (.a) (.a))) (.a)) (.a)) (.a)) (.a)) (.a)) (.a)) (.a)) (.a)) (.a)))) (.a))))) (.a))))))))) (.a))))))) (.a)))) (.a)))) (.a)))))) (.a))) (.a))) (.a)))
def m15:(Int×Int×List Int×List Int)→Option (Int×Int) :=
 fun x=>(m17 (x.1,x.2.1,x.2.2.1,x.2.2.2)).bind fun r=>bif PE.notM r then some (0,0) else ((loopM (fun (s:Int×Int)=>bif ltM s.1 x.2.1 then (loopM
 (fun (s_1:Int×Int)=>bif ltM s_1.1 x.1 then ((idxM x.2.2.1 (wrap IntKind.i64 (wrap IntKind.i64 (s.1*wrap IntKind.i64 (x.1+1))+s_1.1))).bind fun r
 => some r).bind fun (ov:Int)=>((idxM x.2.2.1 (wrap IntKind.i64 (wrap IntKind.i64 (s.1*wrap IntKind.i64 (x.1+1))+wrap IntKind.i64 (s_1.1+1)))).bind
 fun r=>some r).bind fun (ov_1:Int)=>((idxM x.2.2.1 (wrap IntKind.i64 (wrap IntKind.i64 (wrap IntKind.i64 (s.1+1)*wrap IntKind.i64 (x.1+1))+wrap
 IntKind.i64 (s_1.1+1)))).bind fun r=>some r).bind fun (ov_2:Int)=>((idxM x.2.2.1 (wrap IntKind.i64 (wrap IntKind.i64 (s.1*wrap IntKind.i64 (x.1 +
 1))+s_1.1))).bind fun r=>some r).bind fun (ov_3:Int)=>((idxM x.2.2.1 (wrap IntKind.i64 (wrap IntKind.i64 (wrap IntKind.i64 (s.1+1)*wrap
 IntKind.i64 (x.1+1))+wrap IntKind.i64 (s_1.1+1)))).bind fun r=>some r).bind fun (ov_4:Int)=>((idxM x.2.2.1 (wrap IntKind.i64 (wrap IntKind.i64
 (wrap IntKind.i64 (s.1+1)*wrap IntKind.i64 (x.1+1))+s_1.1))).bind fun r=>some r).bind fun (ov_5:Int)=>some (Sum.inl (wrap IntKind.i64 (s_1.1 +
 1),wrap IntKind.i64 (wrap IntKind.i64 (s_1.2+wrap IntKind.i64 (wrap IntKind.i64 (ov+ov_1)+ov_2))+wrap IntKind.i64 (wrap IntKind.i64 (ov_3+ov_4) +
 ov_5)))) else some (Sum.inr s_1.2)) (0,s.2)).bind fun o=>some (Sum.inl (wrap IntKind.i64 (s.1+1),o)) else some (Sum.inr s.2)) (0,0)).bind fun o=>some
 o).bind fun (ov:Int)=>((loopM (fun (s:Int×Int)=>bif ltM s.1 x.2.1 then (loopM (fun (s_1:Int×Int)=>bif ltM s_1.1 x.1 then ((idxM x.2.2.2 (wrap
 IntKind.i64 (wrap IntKind.i64 (s.1*wrap IntKind.i64 (x.1+1))+s_1.1))).bind fun r=>some r).bind fun (ov_1:Int)=>((idxM x.2.2.2 (wrap IntKind.i64
 (wrap IntKind.i64 (s.1*wrap IntKind.i64 (x.1+1))+wrap IntKind.i64 (s_1.1+1)))).bind fun r=>some r).bind fun (ov_2:Int)=>((idxM x.2.2.2 (wrap
 IntKind.i64 (wrap IntKind.i64 (wrap IntKind.i64 (s.1+1)*wrap IntKind.i64 (x.1+1))+wrap IntKind.i64 (s_1.1+1)))).bind fun r=>some r).bind fun (ov_3
 : Int)=>((idxM x.2.2.2 (wrap IntKind.i64 (wrap IntKind.i64 (s.1*wrap IntKind.i64 (x.1+1))+s_1.1))).bind fun r=>some r).bind fun (ov_4:Int) =>
 ((idxM x.2.2.2 (wrap IntKind.i64 (wrap IntKind.i64 (wrap IntKind.i64 (s.1+1)*wrap IntKind.i64 (x.1+1))+wrap IntKind.i64 (s_1.1+1)))).bind fun r =>
 some r).bind fun (ov_5:Int)=>((idxM x.2.2.2 (wrap IntKind.i64 (wrap IntKind.i64 (wrap IntKind.i64 (s.1+1)*wrap IntKind.i64 (x.1+1))+s_1.1))).bind
 fun r=>some r).bind fun (ov:Int)=>some (Sum.inl (wrap IntKind.i64 (s_1.1+1),wrap IntKind.i64 (wrap IntKind.i64 (s_1.2+wrap IntKind.i64 (wrap
 IntKind.i64 (ov_1+ov_2)+ov_3))+wrap IntKind.i64 (wrap IntKind.i64 (ov_4+ov_5)+ov)))) else some (Sum.inr s_1.2)) (0,s.2)).bind fun o=>some
 (Sum.inl (wrap IntKind.i64 (s.1+1),o)) else some (Sum.inr s.2)) (0,0)).bind fun o=>some o).bind fun (ov_1:Int)=>some (ov,ov_1)
theorem c15:SpecOK Tryz.prog 15 ⟨as15,rs15,m15⟩ :=
 fc tabs20OK [] an15 Tryz.f15 fun x=>by kernel_rfl
def tabs15:Tabs:=Tabs.add tabs20 15 ⟨as15,rs15,m15⟩
theorem tabs15OK:TabOK Tryz.prog tabs15:=TabOK.add tabs20OK c15 Tryz.call15

/-! putlog/putloglaw25.at -/
def as38:List Ty:=[tI,tI]
def rs38:List Ty:=[tP]
def an38:Ann:=.a
def m38:(Int×Int)→Option (Int×Int) :=
 fun x=>some (x.1,x.2)
theorem c38:SpecOK Tryz.prog 38 ⟨as38,rs38,m38⟩ :=
 fc tabs15OK [] an38 Tryz.f38 fun x=>by kernel_rfl
def tabs38:Tabs:=Tabs.add tabs15 38 ⟨as38,rs38,m38⟩
theorem tabs38OK:TabOK Tryz.prog tabs38:=TabOK.add tabs15OK c38 Tryz.call38

/-! putlog/plane.isOff -/
def as85:List Ty:=[tP]
def rs85:List Ty:=[.bool]
def an85:Ann:=.a
def m85:(Int×Int)→Option (Bool) :=
 fun x=>some (PE.orM (ltM (min x.1 x.2) 0) (ltM 40 (max x.1 x.2)))
theorem c85:SpecOK Tryz.prog 85 ⟨as85,rs85,m85⟩ :=
 fc tabs38OK [] an85 Tryz.f85 fun x=>by kernel_rfl
def tabs85:Tabs:=Tabs.add tabs38 85 ⟨as85,rs85,m85⟩
theorem tabs85OK:TabOK Tryz.prog tabs85:=TabOK.add tabs38OK c85 Tryz.call85

/-! putlog/plane.turn -/
def as84:List Ty:=[tP,tP,tP]
def rs84:List Ty:=[tI]
def an84:Ann:=.a
def m84:((Int×Int)×(Int×Int)×Int×Int)→Option (Int) :=
 fun x=>some (wrap IntKind.i64 (wrap IntKind.i64 (wrap IntKind.i64 (x.2.1.1-x.1.1)*wrap IntKind.i64 (x.2.2.2-x.1.2))-wrap IntKind.i64 (wrap IntKind.i64
 (x.2.1.2-x.1.2)*wrap IntKind.i64 (x.2.2.1-x.1.1))))
theorem c84:SpecOK Tryz.prog 84 ⟨as84,rs84,m84⟩ :=
 fc tabs85OK [] an84 Tryz.f84 fun x=>by kernel_rfl
def tabs84:Tabs:=Tabs.add tabs85 84 ⟨as84,rs84,m84⟩
theorem tabs84OK:TabOK Tryz.prog tabs84:=TabOK.add tabs85OK c84 Tryz.call84

/-! putlog/plane.Valid -/
def as45:List Ty:=[tQ]
def rs45:List Ty:=[.bool]
def an45:Ann:=.seq (.a) (.seq (.seq (.reg [] [] [z0,z0,z0,z0,z0,z0,z0,z0,z0,z0,.k [],z0] (.call [] [(.norm,⟨[(18,.r (.c (.d (.d .bool))))],[],[],[]⟩)] (.seq (.a) (.seq (.reg [] [] [z0,z0,.r,z0,z0] (.call [] [(.norm,⟨[(7,.r (.c (.d (.d tI))))],[],[],[]⟩)] (.seq (.a) (.seq (.seq (.a) (.block (.loop ⟨[(8,.r (.c (.d (.d tI))))],(5::ra 9 8 (18::[])),[],[]⟩ [(.exit 0,⟨[],(5::ra 8 9 (18::[])),[],[]⟩),(.ret,⟨[(4,.r (.c (.d (.d tI))))],(5::ra 8 11 ([])),[],[]⟩)] (.a)))) (.a))) (.a))) (.a))) (.a))) (.a)) (.seq (.seq (.a) (.block (.loop ⟨[(22,.r (.c (.d (.d tI))))],(3::4::5::6::7::ra 23 36 ([])),[],[]⟩ [(.exit 0,⟨[],(3::4::5::6::7::ra 22 37 ([])),[],[]⟩),(.ret,⟨[(2,.r (.c (.d (.d .bool))))],(3::4::5::6::7::ra 22 37 ([])),[],[]⟩)] (.seq (.a) (.seq (.a) (.seq (.block (.seq (.a) (.seq (.a) (.seq (.a) (.block (.loop ⟨[(34,.r (.c (.d (.d tI))))],(6::7::ra 35 23 ([])),[],[]⟩ [(.exit 2,⟨[],(6::7::ra 34 24 ([])),[],[]⟩),(.ret,⟨[(2,.r (.c (.d (.d .bool))))],(6::7::ra 34 24 ([])),[],[]⟩)] (.seq (.a) (.seq (.a) (.seq (.block (.seq (.a) (.seq (.reg [0,0,3,7,15,15,63,127,255,511,511,511,3583,7679,511,32767,65535,131071] (ra 0 18 ([])) (za 9 (.s [0] []::za 4 (.s [1] []::za 3 ([])))) (.a)) (.a)))) (.a)))))))))) (.a))))))) (.a)))
def m45:(List (Int×Int))→Option (Bool) :=
 fun x=>(bif PE.notM (PE.orM (ltM (lenM x) 3) (ltM 8 (lenM x))) then ((loopM (fun (s:Int)=>bif ltM s (lenM x) then (idxM x s).bind fun r=>(m85 (r.1,
 r.2)).bind fun r=>bif r then some (Sum.inr (Sum.inr s)) else some (Sum.inl (wrap IntKind.i64 (s+1))) else some (Sum.inr (Sum.inl ()))) 0).bind fun o =>
 Sum.elim (fun (t:Unit)=>some (-1)) (fun (t:Int)=>some t) o).bind fun (ov:Int)=>some (leM 0 ov) else some false).bind fun (ov:Bool)=>bif PE.orM
 (PE.orM (ltM (lenM x) 3) (ltM 8 (lenM x))) ov then some false else (loopM (fun (s:Int)=>bif ltM s (lenM x) then (idxM x s).bind fun r=>(remM (wrap
 IntKind.i64 (s+1)) (lenM x)).bind fun r_1=>(loopM (fun (s_1:Int)=>bif ltM s_1 (lenM x) then (idxM x s_1).bind fun r_2=>(bif PE.andM (PE.notM (eqM
 s_1 s)) (PE.notM (eqM s_1 r_1)) then idxM x r_1 else some (0,0)).bind fun r_3=>(bif PE.andM (PE.notM (eqM s_1 s)) (PE.notM (eqM s_1 r_1)) then m84 ((r.1,
 r.2),(r_3.1,r_3.2),r_2.1,r_2.2) else some 0).bind fun r=>bif PE.andM (PE.andM (PE.notM (eqM s_1 s)) (PE.notM (eqM s_1 r_1))) (leM r 0) then some
 (Sum.inr (Sum.inr false)) else some (Sum.inl (wrap IntKind.i64 (s_1+1))) else some (Sum.inr (Sum.inl ()))) 0).bind fun o=>Sum.elim (fun (t:Unit)=>some
 (Sum.inl (wrap IntKind.i64 (s+1)))) (fun (t:Bool)=>some (Sum.inr (Sum.inr t))) o else some (Sum.inr (Sum.inl ()))) 0).bind fun o=>Sum.elim (fun (t :
 Unit)=>some true) (fun (t:Bool)=>some t) o
theorem c45:SpecOK Tryz.prog 45 ⟨as45,rs45,m45⟩ :=
 fc tabs84OK [] an45 Tryz.f45 fun x=>by kernel_rfl
def tabs45:Tabs:=Tabs.add tabs84 45 ⟨as45,rs45,m45⟩
theorem tabs45OK:TabOK Tryz.prog tabs45:=TabOK.add tabs84OK c45 Tryz.call45

/-! putlog/integer.FromInt -/
def as79:List Ty:=[tI]
def rs79:List Ty:=[.str]
def an79:Ann:=.a
def m79:Int→Option (List UInt8) :=
 fun x=>some (itoaM x)
theorem c79:SpecOK Tryz.prog 79 ⟨as79,rs79,m79⟩ :=
 fc tabs45OK [] an79 Tryz.f79 fun x=>by kernel_rfl
def tabs79:Tabs:=Tabs.add tabs45 79 ⟨as79,rs79,m79⟩
theorem tabs79OK:TabOK Tryz.prog tabs79:=TabOK.add tabs45OK c79 Tryz.call79

/-! putlog/integer.isValid -/
def as150:List Ty:=[.str]
def rs150:List Ty:=[.bool]
def an150:Ann:=.a
def m150:List UInt8→Option (Bool) :=
 fun x=>(bif PE.notM (PE.orM (eqsM (prefM x [(45:UInt8)]) []) (ltM 200 (lenM (prefM x [(45:UInt8)])))) then trimM (prefM x [(45:UInt8)]) [(48:UInt8),
 (49:UInt8),(50:UInt8),(51:UInt8),(52:UInt8),(53:UInt8),(54:UInt8),(55:UInt8),(56:UInt8),(57:UInt8)] else some []).bind fun r=>bif
 PE.orM (PE.orM (eqsM (prefM x [(45:UInt8)]) []) (ltM 200 (lenM (prefM x [(45:UInt8)])))) (PE.notM (eqsM r [])) then some false else (bif PE.notM (eqsM x
 [(48:UInt8)]) then byteM (prefM x [(45:UInt8)]) 0 else some 0).bind fun r=>some (PE.orM (eqsM x [(48:UInt8)]) (PE.notM (eqM r 48)))
theorem c150:SpecOK Tryz.prog 150 ⟨as150,rs150,m150⟩ :=
 fc tabs79OK [] an150 Tryz.f150 fun x=>by kernel_rfl
def tabs150:Tabs:=Tabs.add tabs79 150 ⟨as150,rs150,m150⟩
theorem tabs150OK:TabOK Tryz.prog tabs150:=TabOK.add tabs79OK c150 Tryz.call150

/-! putlog/integer.Valid -/
def as111:List Ty:=[.str]
def rs111:List Ty:=[.bool]
def an111:Ann:=.a
def m111:List UInt8→Option (Bool) :=
 fun x=>(m150 x).bind fun r=>some r
theorem c111:SpecOK Tryz.prog 111 ⟨as111,rs111,m111⟩ :=
 fc tabs150OK [] an111 Tryz.f111 fun x=>by kernel_rfl
def tabs111:Tabs:=Tabs.add tabs150 111 ⟨as111,rs111,m111⟩
theorem tabs111OK:TabOK Tryz.prog tabs111:=TabOK.add tabs150OK c111 Tryz.call111

/-! (putlog/integer.number).trimmed -/
def as153:List Ty:=[tL]
def rs153:List Ty:=[tL]
def an153:Ann:=.seq (.a) (.seq (.block (.loop ⟨[(0,.r (.c (.d (.d tL))))],(ra 3 17 ([])),[],[]⟩ [(.exit 0,⟨[(0,.r (.c (.d (.d tL))))],(ra 3 17 ([])),[],[]⟩)] (.a))) (.a))
def m153:List Int→Option (List Int) :=
 fun x=>(loopM (fun (s:List Int)=>(bif ltM 0 (lenM s) then idxM s (wrap IntKind.i64 (lenM s-1)) else some 0).bind fun r=>bif PE.andM (ltM 0 (lenM s))
 (eqM r 0) then (sliceM s 0 (wrap IntKind.i64 (lenM s-1))).bind fun r=>some (Sum.inl r) else some (Sum.inr s)) x).bind fun o=>some o
theorem c153:SpecOK Tryz.prog 153 ⟨as153,rs153,m153⟩ :=
 fc tabs111OK [] an153 Tryz.f153 fun x=>by kernel_rfl
def tabs153:Tabs:=Tabs.add tabs111 153 ⟨as153,rs153,m153⟩
theorem tabs153OK:TabOK Tryz.prog tabs153:=TabOK.add tabs111OK c153 Tryz.call153

/-! putlog/integer.parse -/
def as151:List Ty:=[.str]
def rs151:List Ty:=[(.pair .bool tL)]
def an151:Ann:=.seq (.a) (.seq (.a) (.seq (.a) (.seq (.block (.loop ⟨[(3,.r (.c (.d (.d .str))))],(5::6::7::ra 16 23 ([])),[(1,.box [.d (.d .bool),.h 2])],[.arr tI]⟩ [(.exit 0,⟨[],(3::5::6::7::ra 16 23 ([])),[(1,.box [.d (.d .bool),.h 2])],[.arr tI]⟩)] (.a))) (.a))))
def m151:List UInt8→Option (Bool×List Int) :=
 fun x=>(loopM (fun (s:List UInt8×Bool×List Int)=>bif ltM 0 (lenM s.1) then (sliceM s.1 (max 0 (wrap IntKind.i64 (lenM s.1-4))) (lenM s.1)).bind fun
 r=>(atoiM r).bind fun r_1=>(appM (nat_lit 8) s.2.2 [r_1]).bind fun r_2=>(sliceM s.1 0 (max 0 (wrap IntKind.i64 (lenM s.1-4)))).bind fun r=>some
 (Sum.inl (r,s.2.1,r_2)) else some (Sum.inr (s.2.1,s.2.2))) (prefM x [(45:UInt8)],ltM (lenM (prefM x [(45:UInt8)])) (lenM x),[])).bind fun o=>(m153
 o.2).bind fun r=>some (o.1,r)
theorem c151:SpecOK Tryz.prog 151 ⟨as151,rs151,m151⟩ :=
 fc tabs153OK [] an151 Tryz.f151 fun x=>by kernel_rfl
def tabs151:Tabs:=Tabs.add tabs153 151 ⟨as151,rs151,m151⟩
theorem tabs151OK:TabOK Tryz.prog tabs151:=TabOK.add tabs153OK c151 Tryz.call151

/-! putlog/integer.both -/
def as113:List Ty:=[.str,.str]
def rs113:List Ty:=[(.pair .bool tL),(.pair .bool tL),.bool]
def an113:Ann:=.a
def m113:(List UInt8×List UInt8)→Option ((Bool×List Int)×(Bool×List Int)×Bool) :=
 fun x=>(m150 x.1).bind fun r=>(bif PE.notM (PE.notM r) then m150 x.2 else some false).bind fun r_1=>bif PE.orM (PE.notM r) (PE.notM r_1) then some
 ((false,[]),(false,[]),false) else (m151 x.1).bind fun r_2=>(m151 x.2).bind fun r=>some ((r_2.1,r_2.2),(r.1,r.2),true)
theorem c113:SpecOK Tryz.prog 113 ⟨as113,rs113,m113⟩ :=
 fc tabs151OK [] an113 Tryz.f113 fun x=>by kernel_rfl
def tabs113:Tabs:=Tabs.add tabs151 113 ⟨as113,rs113,m113⟩
theorem tabs113OK:TabOK Tryz.prog tabs113:=TabOK.add tabs151OK c113 Tryz.call113

/-! cmp.isNaN[int] -/
def as180:List Ty:=[tI]
def rs180:List Ty:=[.bool]
def an180:Ann:=.a
def m180:Int→Option (Bool) :=
 fun x=>some (PE.notM (eqM x x))
theorem c180:SpecOK Tryz.prog 180 ⟨as180,rs180,m180⟩ :=
 fc tabs113OK [] an180 Tryz.f180 fun x=>by kernel_rfl
def tabs180:Tabs:=Tabs.add tabs113 180 ⟨as180,rs180,m180⟩
theorem tabs180OK:TabOK Tryz.prog tabs180:=TabOK.add tabs113OK c180 Tryz.call180

/-! cmp.Compare[int] -/
def as164:List Ty:=[tI,tI]
def rs164:List Ty:=[tI]
def an164:Ann:=.a
def m164:(Int×Int)→Option (Int) :=
 fun x=>(m180 x.1).bind fun r=>(m180 x.2).bind fun r_1=>bif r then bif r_1 then some 0 else some (-1) else bif r_1 then some 1 else bif ltM x.1 x.2 then
 some (-1) else bif ltM x.2 x.1 then some 1 else some 0
theorem c164:SpecOK Tryz.prog 164 ⟨as164,rs164,m164⟩ :=
 fc tabs180OK [] an164 Tryz.f164 fun x=>by kernel_rfl
def tabs164:Tabs:=Tabs.add tabs180 164 ⟨as164,rs164,m164⟩
theorem tabs164OK:TabOK Tryz.prog tabs164:=TabOK.add tabs180OK c164 Tryz.call164

/-! (putlog/integer.number).compare -/
def as119:List Ty:=[tL,tL]
def rs119:List Ty:=[tI]
def an119:Ann:=.seq (.a) (.seq (.a) (.seq (.seq (.reg [] [] [z0,.r] (.call [] [] (.seq (.a) (.a)) (.a))) (.block (.call [] [] (.seq (.a) (.block (.loop ⟨[(3,.r (.c (.d (.d tI))))],(ra 7 12 ([])),[(3,.lp .ready)],[]⟩ [(.exit 0,⟨[],(3::ra 7 12 ([])),[(3,.lp .ready)],[]⟩),(.ret,⟨[],(3::ra 7 12 ([])),[(1,.box [.d (.d tI)]),(3,.lp (.done .ret))],[]⟩)] (.seq (.a) (.seq (.block (.seq (.reg [] [] [z0,z0,.s [2] [],z0,z0,z0,.r,z0] (.call [] [] (.seq (.a) (.a)) (.a))) (.a))) (.a)))))) (.a)))) (.a)))
def m119:(List Int×List Int)→Option (Int) :=
 fun x=>bif PE.notM (eqM (lenM x.1) (lenM x.2)) then (m164 (lenM x.1,lenM x.2)).bind fun r=>some r else (loopM (fun (s:Int)=>bif leM 0 s then (idxM x.1
 s).bind fun r=>(idxM x.2 s).bind fun r_1=>bif PE.notM (eqM r r_1) then (idxM x.2 s).bind fun r_2=>(m164 (r,r_2)).bind fun r=>some (Sum.inr (Sum.inr
 r)) else some (Sum.inl (wrap IntKind.i64 (s-1))) else some (Sum.inr (Sum.inl ()))) (wrap IntKind.i64 (lenM x.1-1))).bind fun o=>Sum.elim (fun (t:Unit)
 => some 0) (fun (t:Int)=>some t) o
theorem c119:SpecOK Tryz.prog 119 ⟨as119,rs119,m119⟩ :=
 fc tabs164OK [] an119 Tryz.f119 fun x=>by kernel_rfl
def tabs119:Tabs:=Tabs.add tabs164 119 ⟨as119,rs119,m119⟩
theorem tabs119OK:TabOK Tryz.prog tabs119:=TabOK.add tabs164OK c119 Tryz.call119

/-! putlog/integer.Compare -/
def as77:List Ty:=[.str,.str]
def rs77:List Ty:=[tI]
def an77:Ann:=.a
def m77:(List UInt8×List UInt8)→Option (Int) :=
 fun x=>(m113 (x.1,x.2)).bind fun r=>bif PE.notM r.2.2 then some 0 else bif PE.andM r.1.1 r.2.1.1 then (m119 (r.2.1.2,r.1.2)).bind fun r=>some r else bif
 r.1.1 then some (-1) else bif r.2.1.1 then some 1 else (m119 (r.1.2,r.2.1.2)).bind fun r=>some r
theorem c77:SpecOK Tryz.prog 77 ⟨as77,rs77,m77⟩ :=
 fc tabs119OK [] an77 Tryz.f77 fun x=>by kernel_rfl
def tabs77:Tabs:=Tabs.add tabs119 77 ⟨as77,rs77,m77⟩
theorem tabs77OK:TabOK Tryz.prog tabs77:=TabOK.add tabs119OK c77 Tryz.call77

/-! (putlog/integer.number).at -/
def as159:List Ty:=[tL,tI]
def rs159:List Ty:=[tI]
def an159:Ann:=.a
def m159:(List Int×Int)→Option (Int) :=
 fun x=>bif ltM x.2 (lenM x.1) then (idxM x.1 x.2).bind fun r=>some r else some 0
theorem c159:SpecOK Tryz.prog 159 ⟨as159,rs159,m159⟩ :=
 fc tabs77OK [] an159 Tryz.f159 fun x=>by kernel_rfl
def tabs159:Tabs:=Tabs.add tabs77 159 ⟨as159,rs159,m159⟩
theorem tabs159OK:TabOK Tryz.prog tabs159:=TabOK.add tabs77OK c159 Tryz.call159

/-! (putlog/integer.number).plus -/
def as115:List Ty:=[tL,tL]
def rs115:List Ty:=[tL]
def an115:Ann:=.seq (.a) (.seq (.reg [] [] [.s [0] [],z0,.s [1] [],z0,z0,z0,.r,.s [3] [3],z0] (.call [] [] (.seq (.a) (.seq (.a) (.seq (.seq (.a) (.block (.loop ⟨[(1,.r (.c (.d (.d tI)))),(7,.r (.c (.h 3))),(8,.r (.c (.d (.d tI))))],(9::ra 13 28 ([])),[(2,.gone)],[.arr tI]⟩ [(.exit 0,⟨[(7,.r (.c (.h 3)))],(1::8::9::ra 13 28 ([])),[(2,.gone)],[.arr tI]⟩)] (.seq (.a) (.seq (.block (.seq (.reg [] [] [z0,z0,.r,z0,z0,z0] (.call [] [] (.seq (.a) (.seq (.reg [0,0,3,0,0,31,63,127] (ra 0 8 ([])) (.s [0] []::z0::z0::.s [1] []::za 4 ([])) (.a)) (.a))) (.a))) (.seq (.a) (.seq (.join [(.norm,⟨[(1,.r (.c (.d (.d tI)))),(9,.r (.c (.d (.d tI))))],(ra 27 10 ([])),[],[]⟩)] (.a)) (.a))))) (.a)))))) (.a)))) (.a))) (.a))
def m115:(List Int×List Int)→Option (List Int) :=
 fun x=>(mkM 0 (wrap IntKind.i64 (max (lenM x.1) (lenM x.2)+1)) (nat_lit 8) 0).bind fun r=>(loopM (fun (s:Int×Int×List Int)=>bif PE.orM (ltM s.2.1
 (max (lenM x.1) (lenM x.2))) (PE.notM (eqM s.1 0)) then (m159 (x.1,s.2.1)).bind fun r_1=>(m159 (x.2,s.2.1)).bind fun r_2=>(bif ltM (wrap IntKind.i64
 (wrap IntKind.i64 (r_1+r_2)+s.1)) 0 then some ((-1),wrap IntKind.i64 (wrap IntKind.i64 (wrap IntKind.i64 (r_1+r_2)+s.1)+10000)) else bif leM 10000
 (wrap IntKind.i64 (wrap IntKind.i64 (r_1+r_2)+s.1)) then (divM IntKind.i64 (wrap IntKind.i64 (wrap IntKind.i64 (r_1+r_2)+s.1)) 10000).bind fun r_3 =>
 (remM (wrap IntKind.i64 (wrap IntKind.i64 (r_1+r_2)+s.1)) 10000).bind fun r=>some (r_3,r) else some (0,wrap IntKind.i64 (wrap IntKind.i64 (r_1+r_2)
 + s.1))).bind fun o=>(appM (nat_lit 8) s.2.2 [o.2]).bind fun r=>some (Sum.inl (o.1,wrap IntKind.i64 (s.2.1+1),r)) else some (Sum.inr s.2.2)) (0,0,
 r)).bind fun o=>(m153 o).bind fun r=>some r
theorem c115:SpecOK Tryz.prog 115 ⟨as115,rs115,m115⟩ :=
 fc tabs159OK [] an115 Tryz.f115 fun x=>by kernel_rfl
def tabs115:Tabs:=Tabs.add tabs159 115 ⟨as115,rs115,m115⟩
theorem tabs115OK:TabOK Tryz.prog tabs115:=TabOK.add tabs159OK c115 Tryz.call115

/-! (putlog/integer.number).minus -/
def as117:List Ty:=[tL,tL]
def rs117:List Ty:=[tL]
def an117:Ann:=.seq (.a) (.seq (.reg [] [] [.s [0] [],z0,z0,.r,.s [3] [3],z0] (.call [] [] (.seq (.a) (.seq (.a) (.seq (.seq (.a) (.block (.loop ⟨[(1,.r (.c (.d (.d tI)))),(7,.r (.c (.h 3))),(8,.r (.c (.d (.d tI))))],(9::ra 13 28 ([])),[(2,.gone)],[.arr tI]⟩ [(.exit 0,⟨[(7,.r (.c (.h 3)))],(1::8::9::ra 13 28 ([])),[(2,.gone)],[.arr tI]⟩)] (.seq (.a) (.seq (.block (.seq (.reg [] [] [z0,z0,.r,z0,z0,z0] (.call [] [] (.seq (.a) (.seq (.reg [0,0,3,0,0,31,63,127] (ra 0 8 ([])) (.s [0] []::z0::z0::.s [1] []::za 4 ([])) (.a)) (.a))) (.a))) (.seq (.a) (.seq (.join [(.norm,⟨[(1,.r (.c (.d (.d tI)))),(9,.r (.c (.d (.d tI))))],(ra 27 10 ([])),[],[]⟩)] (.a)) (.a))))) (.a)))))) (.a)))) (.a))) (.a))
def m117:(List Int×List Int)→Option (List Int) :=
 fun x=>(mkM 0 (wrap IntKind.i64 (lenM x.1+1)) (nat_lit 8) 0).bind fun r=>(loopM (fun (s:Int×Int×List Int)=>bif PE.orM (ltM s.2.1 (lenM x.1))
 (PE.notM (eqM s.1 0)) then (m159 (x.1,s.2.1)).bind fun r_1=>(m159 (x.2,s.2.1)).bind fun r_2=>(bif ltM (wrap IntKind.i64 (wrap IntKind.i64 (r_1-r_2) +
 s.1)) 0 then some ((-1),wrap IntKind.i64 (wrap IntKind.i64 (wrap IntKind.i64 (r_1-r_2)+s.1)+10000)) else bif leM 10000 (wrap IntKind.i64 (wrap
 IntKind.i64 (r_1-r_2)+s.1)) then (divM IntKind.i64 (wrap IntKind.i64 (wrap IntKind.i64 (r_1-r_2)+s.1)) 10000).bind fun r_3=>(remM (wrap IntKind.i64
 (wrap IntKind.i64 (r_1-r_2)+s.1)) 10000).bind fun r=>some (r_3,r) else some (0,wrap IntKind.i64 (wrap IntKind.i64 (r_1-r_2)+s.1))).bind fun o =>
 (appM (nat_lit 8) s.2.2 [o.2]).bind fun r=>some (Sum.inl (o.1,wrap IntKind.i64 (s.2.1+1),r)) else some (Sum.inr s.2.2)) (0,0,r)).bind fun o=>(m153
 o).bind fun r=>some r
theorem c117:SpecOK Tryz.prog 117 ⟨as117,rs117,m117⟩ :=
 fc tabs115OK [] an117 Tryz.f117 fun x=>by kernel_rfl
def tabs117:Tabs:=Tabs.add tabs115 117 ⟨as117,rs117,m117⟩
theorem tabs117OK:TabOK Tryz.prog tabs117:=TabOK.add tabs115OK c117 Tryz.call117

/-! (putlog/integer.signed).plus -/
def as127:List Ty:=[(.pair .bool tL),(.pair .bool tL)]
def rs127:List Ty:=[(.pair .bool tL)]
def an127:Ann:=.seq (.a) (.seq (.block (.seq (.a) (.cond (.seq (.reg [0,1,0,4,0,16,60,127,255] (ra 0 9 ([])) [z0,.s [0] [],z0,.s [0] [],z0,.s [1] [],z0,z0,.s [2] [2]] (.a)) (.a)) (.seq (.a) (.cond (.seq (.reg [0,1,0,4,0,16,60,127,255] (ra 0 9 ([])) [z0,.s [0] [],z0,.s [0] [],z0,.s [1] [],z0,z0,.s [2] [2]] (.a)) (.a)) (.a)))))) (.seq (.reg [0,1,0,4,0,16,60,127,255] (ra 0 9 ([])) [z0,.s [1] [],z0,.s [1] [],z0,.s [0] [],z0,z0,.s [2] [2]] (.a)) (.a)))
def m127:((Bool×List Int)×Bool×List Int)→Option (Bool×List Int) :=
 fun x=>bif eqbM x.1.1 x.2.1 then (m115 (x.1.2,x.2.2)).bind fun r=>some (x.1.1,r) else (m119 (x.1.2,x.2.2)).bind fun r=>bif leM 0 r then (m117 (x.1.2,
 x.2.2)).bind fun r=>some (x.1.1,r) else (m117 (x.2.2,x.1.2)).bind fun r=>some (x.2.1,r)
theorem c127:SpecOK Tryz.prog 127 ⟨as127,rs127,m127⟩ :=
 fc tabs117OK [] an127 Tryz.f127 fun x=>by kernel_rfl
def tabs127:Tabs:=Tabs.add tabs117 127 ⟨as127,rs127,m127⟩
theorem tabs127OK:TabOK Tryz.prog tabs127:=TabOK.add tabs117OK c127 Tryz.call127

/-! (putlog/integer.signed).text -/
def as118:List Ty:=[(.pair .bool tL)]
def rs118:List Ty:=[.str,tI]
def an118:Ann:=.seq (.a) (.seq (.a) (.seq (.a) (.seq (.seq (.reg [] [] [z0,.s [0] [],.r] (.call [] [] (.seq (.a) (.a)) (.a))) (.block (.call [] [] (.seq (.a) (.block (.loop ⟨[(3,.r (.c (.d (.d tI))))],(ra 7 12 ([])),[(1,.bld 203 5),(3,.lp .ready)],[]⟩ [(.exit 0,⟨[],(3::ra 7 12 ([])),[(1,.bld 203 5),(3,.lp .ready)],[]⟩)] (.seq (.a) (.seq (.block (.seq (.reg [] [] [z0,z0,.s [2] [],z0,z0,z0,.r,z0] (.call [] [] (.seq (.a) (.block (.seq (.a) (.seq (.join [(.norm,⟨[(7,.r (.c (.d (.d .str))))],(ra 20 12 ([])),[],[]⟩)] (.a)) (.a))))) (.a))) (.a))) (.a)))))) (.a)))) (.a))))
def m118:(Bool×List Int)→Option (List UInt8×Int) :=
 fun x=>bif eqM (lenM x.2) 0 then some ([(48:UInt8)],0) else (loopM (fun (s:Int×List UInt8)=>bif leM 0 s.1 then (idxM x.2 s.1).bind fun r=>(bif ltM
 s.1 (wrap IntKind.i64 (lenM x.2-1)) then (rptM [(48:UInt8)] (wrap IntKind.i64 (4-lenM (itoaM r)))).bind fun r_1=>(catM r_1 (itoaM r)).bind fun r =>
 some r else some (itoaM r)).bind fun o=>(catB s.2 o).bind fun r=>some (Sum.inl (wrap IntKind.i64 (s.1-1),r)) else some (Sum.inr s.2)) (wrap IntKind.i64
 (lenM x.2-1),[])).bind fun o=>bif ltM 200 (lenM o) then some ([],30) else bif x.1 then (catM [(45:UInt8)] o).bind fun r=>some (r,0) else some (o,
 0)
theorem c118:SpecOK Tryz.prog 118 ⟨as118,rs118,m118⟩ :=
 fc tabs127OK [] an118 Tryz.f118 fun x=>by kernel_rfl
def tabs118:Tabs:=Tabs.add tabs127 118 ⟨as118,rs118,m118⟩
theorem tabs118OK:TabOK Tryz.prog tabs118:=TabOK.add tabs127OK c118 Tryz.call118

/-! putlog/integer.Sub -/
def as148:List Ty:=[.str,.str]
def rs148:List Ty:=[.str,tI]
def an148:Ann:=.a
def m148:(List UInt8×List UInt8)→Option (List UInt8×Int) :=
 fun x=>(m113 (x.1,x.2)).bind fun r=>bif PE.notM r.2.2 then some ([],30) else (m127 ((r.1.1,r.1.2),PE.notM r.2.1.1,r.2.1.2)).bind fun r_1=>(m118
 (r_1.1,r_1.2)).bind fun r=>some (r.1,r.2)
theorem c148:SpecOK Tryz.prog 148 ⟨as148,rs148,m148⟩ :=
 fc tabs118OK [] an148 Tryz.f148 fun x=>by kernel_rfl
def tabs148:Tabs:=Tabs.add tabs118 148 ⟨as148,rs148,m148⟩
theorem tabs148OK:TabOK Tryz.prog tabs148:=TabOK.add tabs118OK c148 Tryz.call148

/-! (putlog/integer.number).by -/
def as154:List Ty:=[tL,tI]
def rs154:List Ty:=[tL]
def an154:Ann:=.seq (.a) (.seq (.reg [] [] [.s [0] [],z0,z0,.r,.s [3] [3],z0] (.call [] [] (.seq (.a) (.seq (.a) (.seq (.seq (.a) (.block (.loop ⟨[(1,.r (.c (.d (.d tI)))),(7,.r (.c (.h 3))),(8,.r (.c (.d (.d tI))))],(9::ra 13 28 ([])),[(2,.gone)],[.arr tI]⟩ [(.exit 0,⟨[(7,.r (.c (.h 3)))],(1::8::9::ra 13 28 ([])),[(2,.gone)],[.arr tI]⟩)] (.seq (.a) (.seq (.block (.seq (.reg [] [] [z0,z0,.r,z0,z0,z0] (.call [] [] (.seq (.a) (.seq (.reg [0,0,3,0,15,31] (ra 0 6 ([])) [.s [0] [],z0,z0,.s [1] [],z0,z0] (.a)) (.a))) (.a))) (.seq (.a) (.seq (.join [(.norm,⟨[(1,.r (.c (.d (.d tI)))),(9,.r (.c (.d (.d tI))))],(ra 27 10 ([])),[],[]⟩)] (.a)) (.a))))) (.a)))))) (.a)))) (.a))) (.a))
def m154:(List Int×Int)→Option (List Int) :=
 fun x=>(mkM 0 (wrap IntKind.i64 (lenM x.1+1)) (nat_lit 8) 0).bind fun r=>(loopM (fun (s:Int×Int×List Int)=>bif PE.orM (ltM s.2.1 (lenM x.1))
 (PE.notM (eqM s.1 0)) then (m159 (x.1,s.2.1)).bind fun r_1=>(bif ltM (wrap IntKind.i64 (wrap IntKind.i64 (r_1*x.2)+s.1)) 0 then some ((-1),wrap
 IntKind.i64 (wrap IntKind.i64 (wrap IntKind.i64 (r_1*x.2)+s.1)+10000)) else bif leM 10000 (wrap IntKind.i64 (wrap IntKind.i64 (r_1*x.2)+s.1)) then
 (divM IntKind.i64 (wrap IntKind.i64 (wrap IntKind.i64 (r_1*x.2)+s.1)) 10000).bind fun r_2=>(remM (wrap IntKind.i64 (wrap IntKind.i64 (r_1*x.2)+s.1))
 10000).bind fun r=>some (r_2,r) else some (0,wrap IntKind.i64 (wrap IntKind.i64 (r_1*x.2)+s.1))).bind fun o=>(appM (nat_lit 8) s.2.2 [o.2]).bind fun
 r=>some (Sum.inl (o.1,wrap IntKind.i64 (s.2.1+1),r)) else some (Sum.inr s.2.2)) (0,0,r)).bind fun o=>(m153 o).bind fun r=>some r
theorem c154:SpecOK Tryz.prog 154 ⟨as154,rs154,m154⟩ :=
 fc tabs148OK [] an154 Tryz.f154 fun x=>by kernel_rfl
def tabs154:Tabs:=Tabs.add tabs148 154 ⟨as154,rs154,m154⟩
theorem tabs154OK:TabOK Tryz.prog tabs154:=TabOK.add tabs148OK c154 Tryz.call154
end
end Go.Proofs.YtdaaoecjdhipjaaGreatDoor
