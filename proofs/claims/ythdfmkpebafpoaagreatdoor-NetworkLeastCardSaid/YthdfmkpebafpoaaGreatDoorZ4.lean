/-
 Texts of this proof, put together: Px, Ty, Gl, Da, Db, Dc, Dd, De, Tb, P3, P5, P9, T1.
 No conditions.
-/
import Derived.Test.YthdfmkpebafpoaaGreatDoorZ3
import Derived.ProofKit
import Derived.OpenShut
import Derived.Carry
import Derived.Test.YthdfmkpebafpoaaGreatDoorProg
import Derived.KernelRfl
import Derived.Test.YthdfmkpebafpoaaGreatDoorRows
import Derived.LaidMore
import Derived.Stop.Joined
import Derived.Lay
import Derived.Shelf.SlSortCmp.NoneTotal
import Derived.Shelf.Sort.Plain
import Derived.Shelf.Slices.In.SortNone
import Derived.Shelf.Slices.CompactI
import Derived.Shelf.Strings.Builder1
import Derived.Shelf.Strings.Prefix
import Derived.Shelf.Strings.SlTrimAscii
import Derived.Shelf.Strings.Repeat
import Derived.Shelf.Strconv.AtoiAll
import Derived.Shelf.Strconv.Itoa3
import Derived.Shelf.Lays
import Derived.Shelf.Lays2
import Derived.Shelf.LaysC
set_option linter.all false
namespace Go.PE
open Go Go.RowKit Go.Abs Go.ChangeShapes Go.WideShapes Go.ChangeAt

mutual
inductive TyP (P:Program):TypeId→Ty→Prop where
 | int {t k}:P.underlying t=some (.int k)→TyP P t (.int k)
 | bool {t}:P.underlying t=some .bool→TyP P t .bool
 | str {t}:P.underlying t=some .string→TyP P t .str
 | list {t e T}:P.underlying t=some (.slice e)→P.cellsOf e=T.size→TyP P e T→TyP P t (.list T)
 | struct1 {t fs T}:P.underlying t=some (.struct fs)→P.cellsOf t=T.size→FsP P (fs.toList.map fun f=>(f.offset,f.type)) 0 T→fs.size=1→TyP P t (.one T)
 | struct {t fs A B}:P.underlying t=some (.struct fs)→P.cellsOf t=A.size+B.size→FsP P (fs.toList.map fun f=>(f.offset,f.type)) 0 (.pair A B)→TyP P t (.pair A B)
 | array1 {t e T}:P.underlying t=some (.array 1 e)→P.cellsOf t=T.size→FsP P [(0,e)] 0 T→TyP P t (.one T)
 | array {t n e A B}:P.underlying t=some (.array n e)→P.cellsOf t=A.size+B.size→FsP P ((List.range n).map fun i=>(i*P.cellsOf e,e)) 0 (.pair A B)→TyP P t (.pair A B)
inductive FsP (P:Program):List (Nat×TypeId)→Nat→Ty→Prop where
 | last {off t T}:P.cellsOf t=T.size→TyP P t T→FsP P [(off,t)] off T
 | cons {off t A B l}:P.cellsOf t=A.size→TyP P t A→FsP P l (off+A.size) B→FsP P ((off,t)::l) off (.pair A B)
end
def InWd (w:World):Cells:=fun b _=>b<w.heap.size
theorem exists_list {α:Type} {p:Nat→α→Prop}:∀ (n:Nat),(∀ i,i<n→∃ y,p i y)→∃ ys:List α,ys.length=n∧∀ i y,ys[i]? = some y→p i y
 | 0,_=>⟨[],rfl,fun i y h=>by simp at h⟩
 | n+1,h=>by
  obtain ⟨ys,h1,h2⟩:=exists_list n fun i hi=>h i (by omega)
  obtain ⟨y,hy⟩:=h n (by omega)
  refine ⟨ys++[y],by simp [h1],fun i z hz=>?_⟩
  by_cases hi:i<ys.length
  ·rw [List.getElem?_append_left hi] at hz;exact h2 i z hz
  ·rw [List.getElem?_append_right (by omega)] at hz
   have:i-ys.length=0:=by
    have:=(List.getElem?_eq_some_iff.1 hz).1
    simp at this;omega
   rw [this] at hz
   simp at hz
   subst hz
   rw [show i=n by omega];exact hy
section
variable {H:Type} {enc:TypeId×Value→H} {P:Program} {w:World} {base:Nat} {spare:Nat→Bool} {held:Bool}
theorem cells?_get {a:Addr} {n:Nat} {cs:List Value} (h:w.cells? base a n=some cs):cs.length=n∧∀ j u,cs[j]? = some u→w.cell? (a.add j)=some u:=by
 obtain ⟨_,h1,h2⟩:=World.cells?_some h
 refine ⟨h1,fun j u hj=>?_⟩
 have hl:=(List.getElem?_eq_some_iff.1 hj).1
 rw [h2 j (by omega)];exact hj
theorem trod_rep:∀ (fuel:Nat) {t:TypeId} {T:Ty} {cs:List Value} {x:DataW H×List MemPlace},TyP P t T→DataW.trod enc P w base spare held fuel t cs=some x→∃ y:T.den,Rep (InWd w) w T y cs:=by
 intro fuel
 induction fuel with
 | zero=>intro t T cs x _ h;simp [DataW.trod] at h
 | succ n ih =>
  -- fields
  have fields:∀ {l:List (Nat×TypeId)} {off:Nat} {T:Ty} {cs:List Value},FsP P l off T→off+T.size≤cs.length→(∀ (i:Nat) p,l[i]? = some p→∃ x,DataW.trod enc P w base spare held n p.2 ((cs.drop p.1).take (P.cellsOf p.2))=some x) →
    ∃ y:T.den,Rep (InWd w) w T y ((cs.drop off).take T.size):=by
   intro l
   induction l with
   | nil=>intro off T cs h;cases h
   | cons p l ihl =>
    intro off T cs h hlen ht
    cases h with
    | last hc hty =>
     obtain ⟨x,hx⟩:=ht 0 _ rfl
     rw [← hc]
     exact ih hty hx
    | @cons _ t A B _ hc hty hr =>
     obtain ⟨x,hx⟩:=ht 0 _ rfl
     rw [hc] at hx
     obtain ⟨y1,h1⟩:=ih hty hx
     have hsz:(Ty.pair A B).size=A.size+B.size:=rfl
     rw [hsz] at hlen
     obtain ⟨y2,h2⟩:=ihl hr (by omega) fun i p hp=>ht (i+1) p (by simpa using hp)
     refine ⟨(y1,y2),_,_,?_,h1,h2⟩
     rw [hsz]
     rw [List.take_add,List.drop_drop]
  intro t T cs x hT h
  cases hT with
  | int hu =>
   obtain ⟨m,rfl,_,hw⟩:=DataW.trod_int hu h
   refine ⟨m,rfl,?_⟩
   simp [Lit.wf] at hw
   exact hw
  | bool hu=>obtain ⟨b,rfl,_⟩:=DataW.trod_bool hu h;exact ⟨b,rfl⟩
  | str hu =>
   obtain ⟨s,rfl,_,hs⟩:=DataW.trod_string hu h
   exact ⟨s.data.toList,by simp,by simpa using hs⟩
  | @list _ e T hu hc hty =>
   rcases DataW.trod_slice hu h with ⟨rfl,_⟩ | ⟨a,len,cap,elems,rest,m,hm,rfl,_,_,h1,h2,h3,h4,_⟩
   ·exact ⟨[],none,0,rfl,Nat.le_refl _,Nat.zero_le _,.inl rfl⟩
   ·cases hm
    rw [hc] at h4
    have hex:∀ i,i<len→∃ y:T.den,∃ es,Rep (InWd w) w T y es∧∀ j u,es[j]? = some u→w.cell? ((a.add (i*T.size)).add j)=some u:=by
     intro i hi
     have h5:=h4 i hi
     rw [List.getElem?_eq_getElem (by omega)] at h5
     obtain ⟨es,h6,h7⟩:=Option.bind_eq_some_iff.1 h5
     obtain ⟨y,hy⟩:=ih hty h7
     exact ⟨y,es,hy,(cells?_get h6).2⟩
    obtain ⟨ys,hl,hys⟩:=exists_list len hex
    refine ⟨ys,some a,cap,by rw [hl],by rw [hl];exact h1,h2,?_⟩
    by_cases h0:len=0
    ·left;show List.length ys=0;omega
    ·right
     have hsp:a.spot=none:=by
      obtain ⟨y,es,hr,hg⟩:=hex 0 (by omega)
      have hel:=hr.length
      have hpos:=T.size_pos
      have:=hg 0 _ (List.getElem?_eq_getElem (by omega))
      unfold World.cell? at this
      split at this
      ·split at this
       ·cases this
       ·rename_i hs
        simpa [Addr.add] using hs
      ·cases this
     obtain ⟨b,off,sp⟩:=a
     simp only at hsp
     subst hsp
     refine ⟨b,off,rfl,fun i y hy=>?_⟩
     obtain ⟨es,hr,hg⟩:=hys i y hy
     refine ⟨es,hr,fun j u hj=>?_⟩
     have h5:=hg j u hj
     rw [Addr.add_lit,Addr.add_lit] at h5
     exact ⟨World.block_lt_of_cell? _ _ h5,h5⟩
  | @struct1 _ fs T hu hc hf h1 =>
   obtain ⟨xs,m,hm,_,hl,hxl,hx⟩:=DataW.trod_struct hu h
   cases hm
   obtain ⟨y,hy⟩:=fields hf (by rw [hl,hc];omega) fun i p hp=>by
    simp only [List.getElem?_map,Option.map_eq_some_iff] at hp
    obtain ⟨f,hf1,rfl⟩:=hp
    have hil:i<xs.length:=by rw [hxl];simpa using (List.getElem?_eq_some_iff.1 hf1).1
    exact ⟨xs[i],by rw [← List.getElem?_eq_getElem hil];exact hx i f (by simpa using hf1)⟩
   rw [List.drop_zero,List.take_of_length_le (by omega)] at hy
   exact ⟨y,hy⟩
  | @struct _ fs A B hu hc hf =>
   obtain ⟨xs,m,hm,_,hl,hxl,hx⟩:=DataW.trod_struct hu h
   cases hm
   have hsz:(Ty.pair A B).size=A.size+B.size:=rfl
   obtain ⟨y,hy⟩:=fields hf (by rw [hl,hc,hsz];omega) fun i p hp=>by
    simp only [List.getElem?_map,Option.map_eq_some_iff] at hp
    obtain ⟨f,hf1,rfl⟩:=hp
    have hil:i<xs.length:=by rw [hxl];simpa using (List.getElem?_eq_some_iff.1 hf1).1
    exact ⟨xs[i],by rw [← List.getElem?_eq_getElem hil];exact hx i f (by simpa using hf1)⟩
   rw [List.drop_zero,List.take_of_length_le (by rw [hl,hc,hsz];omega)] at hy
   exact ⟨y,hy⟩
  | @array1 _ e T hu hc hf =>
   obtain ⟨xs,m,hm,_,hl,hxl,hx⟩:=DataW.trod_array hu h
   cases hm
   obtain ⟨y,hy⟩:=fields hf (by rw [hl,hc];omega) fun i p hp=>by
    have hi0:i=0:=by have:=(List.getElem?_eq_some_iff.1 hp).1;simp at this;exact this
    subst hi0
    simp at hp
    subst hp
    have:=hx 0 (by omega)
    rw [Nat.zero_mul] at this
    exact ⟨xs[0],by rw [← List.getElem?_eq_getElem (by omega)];exact this⟩
   rw [List.drop_zero,List.take_of_length_le (by omega)] at hy
   exact ⟨y,hy⟩
  | @array _ k e A B hu hc hf =>
   obtain ⟨xs,m,hm,_,hl,hxl,hx⟩:=DataW.trod_array hu h
   cases hm
   have hsz:(Ty.pair A B).size=A.size+B.size:=rfl
   obtain ⟨y,hy⟩:=fields hf (by rw [hl,hc,hsz];omega) fun i p hp=>by
    simp only [List.getElem?_map,Option.map_eq_some_iff] at hp
    obtain ⟨j,hj,rfl⟩:=hp
    have hjl:i<k:=by have:=(List.getElem?_eq_some_iff.1 hj).1;simpa using this
    have hji:j=i:=by rw [List.getElem?_range hjl] at hj;cases hj;rfl
    subst hji
    exact ⟨xs[j],by rw [← List.getElem?_eq_getElem (by omega)];exact hx j hjl⟩
   rw [List.drop_zero,List.take_of_length_le (by rw [hl,hc,hsz];omega)] at hy
   exact ⟨y,hy⟩

theorem TyP.agg:∀ {t:TypeId} {T:Ty} {v:Value} {r:Reach} {b0:Nat} {x:T.den},TyP P t T→Value.okWide P w r b0 t v→Rep (InWd w) w T x v.cells.toList→VRep (InWd w) w T x v:=by
 intro t T v r b0 x hT hok hr
 refine ⟨_,hr,?_⟩
 cases hT with
 | int hu=>obtain ⟨n,rfl⟩:=okWide_int hu hok;rfl
 | bool hu=>obtain ⟨n,rfl⟩:=okWide_bool hu hok;rfl
 | str hu=>obtain ⟨n,rfl⟩:=okWide_string hu hok;rfl
 | list hu _ _=>obtain ⟨a,l,c,rfl⟩:=okWide_slice hu hok;rfl
 | struct1 hu _ _ _=>simp only [Value.okWide,hu] at hok;obtain ⟨cs,rfl,_⟩:=hok;simp [Ty.wrap,Ty.agg,Value.cells]
 | struct hu _ _=>simp only [Value.okWide,hu] at hok;obtain ⟨cs,rfl,_⟩:=hok;simp [Ty.wrap,Ty.agg,Value.cells]
 | array1 hu _ _=>simp only [Value.okWide,hu] at hok;obtain ⟨cs,rfl,_⟩:=hok;simp [Ty.wrap,Ty.agg,Value.cells]
 | array hu _ _=>simp only [Value.okWide,hu] at hok;obtain ⟨cs,rfl,_⟩:=hok;simp [Ty.wrap,Ty.agg,Value.cells]

inductive TysP (P:Program):List TypeId→List Ty→Prop where
 | nil:TysP P [] []
 | cons {t T ts Ts}:P.readableRec t=true→t<P.types.size→TyP P t T→TysP P ts Ts→TysP P (t::ts) (T::Ts)
theorem args_data {η:Eta} {r:Reach} {b0:Nat}:∀ {ts:List TypeId} {Ts:List Ty} {vs:List Value} {ds:List (DataW H)} {ps:List MemPlace},TysP P ts Ts→DataW.TrodAll enc P w base spare held ts vs ds ps→(∀ (j:Nat) t v,ts[j]? = some t→vs[j]? = some v→Value.okWide P w r b0 t v) →
  ∃ x:Tup (Ts.map .d),All2 (RM (InWd w) w η) (rvs Ts x) vs
 | _,_,vs,ds,ps,.nil,h,_=>by
  obtain ⟨rfl,_,_⟩:=trodAll_nil h
  exact ⟨(),.nil⟩
 | _,_,vs,ds,ps,.cons (t:=t) (T:=T) (ts:=ts) (Ts:=Ts) h1 h2 h3 h4,h,hok=>by
  obtain ⟨v,vs',d,ds',p,q,rfl,rfl,rfl,⟨n,hn⟩,hr⟩:=trodAll_cons h
  obtain ⟨y,hy⟩:=trod_rep n h3 hn
  have hv:RM (InWd w) w η (T.rv y) v:=VRep.rm (h3.agg (hok 0 t v rfl rfl) hy)
  obtain ⟨x,hx⟩:=args_data (η:=η) h4 hr fun j t v h1 h2=>hok (j+1) t v (by simpa using h1) (by simpa using h2)
  cases Ts with
  | nil=>exact ⟨y,by cases hx;exact .cons hv .nil⟩
  | cons U Us=>exact ⟨(y,x),.cons hv hx⟩
theorem args_back (hl:laidOutB P=true) {w':World} (hb:Below w.heap.size w w') {sp:Nat→Bool}:∀ {ts:List TypeId} {Ts:List Ty} {vs:List Value} {ds:List (DataW H)} {ps:List MemPlace},TysP P ts Ts→DataW.TrodAll enc P w 0 (fun _=>true) true ts vs ds ps→(∀ x∈ps,x.block<w.heap.size)→(∀ x∈ps,sp x.block=true) →
  DataW.TrodAll enc P w' 0 sp true ts vs ds ps
 | _,_,vs,ds,ps,.nil,h,_,_=>by
  obtain ⟨rfl,rfl,rfl⟩:=trodAll_nil h
  exact rfl
 | _,_,vs,ds,ps,.cons h1 h2 h3 h4,h,hlt,hsp=>by
  obtain ⟨v,vs',d,ds',p,q,rfl,rfl,rfl,hd,hr⟩:=trodAll_cons h
  have hd':=WideElems.Trod_stays hl h1 h2 (sp':=sp) hd (fun x hx=>hb.same (hlt x (by simp [hx]))) fun x hx=>hsp x (by simp [hx])
  exact ⟨p,q,hd',args_back hl hb h4 hr (fun x hx=>hlt x (by simp [hx])) fun x hx=>hsp x (by simp [hx]),rfl⟩
end

theorem law_contract' {P:Program} (hl:laidOutB P=true) {f:FuncId} {fn:Func} {s:ChangeSpec} {args:List Ty} {m:Tup (args.map .d)→Option Bool} (hspec:SpecOK P f ⟨args,[.bool],m⟩) {ts:List TypeId} (hts:fn.params.toList=ts) (hT:TysP P ts args) {tb:TypeId} (hrt:fn.resultTypes=#[tb]) (htb:P.underlying tb=some .bool)
  (hvars:s.vars=[]) (hfn:∀ (H:Type) (ds:List (DataW H)),ds.length=args.length→(s.fn H ds).results=[.lit (.bool true)]∧(s.fn H ds).args=ds∧(s.fn H ds).vars=[])
  (hm:∀ (S:Cells) (w:World) (η:Eta) (vs:List Value) x,All2 (RM S w η) (rvs args x) vs→m x=some true)
  {H:Type} {enc:TypeId×Value→H} {W:World} {base:Nat} {av:Array Value} {ds gs:List (DataW H)} {before:List MemPlace} (hglob:GlobOK (InWd W) W)
  (hval:∀ (j:Nat) t v,fn.params[j]? = some t→av[j]? = some v→Value.okWide P W .any base t v) (hW:DataW.Whole enc P fn.params.toList s.vars false W av.toList ds gs before) :
  Calls P f av W fun e W'=>∃ v,e=.returned v∧s.post enc P fn false true false false W av v W'∧W'.os=W.os:=by
 have hW0:=hW
 obtain ⟨p,q,hA,hV,rfl,hfz,_⟩:=hW
 rw [hvars] at hV
 obtain ⟨rfl,rfl⟩:=trodVars_none hV
 rw [List.append_nil] at *
 rw [hts] at hA
 have hlt:∀ x∈p,x.block<W.heap.size:=fun x hx=>by simpa using hW0.lt x hx
 obtain ⟨x,hx⟩:=args_data (η:=fun _=>none) (r:=.any) (b0:=base) hT hA fun j t v h1 h2=>hval j t v (by rw [← hts] at h1;simpa using h1) (by simpa using h2)
 have hc:=hspec x true (hm _ _ _ _ x hx) (InWd W) W (fun _=>none) av.toList ⟨fun b o h=>h,hglob⟩ hx
 have hav:av.toList.toArray=av:=by simp
 rw [hav] at hc
 refine hc.mono fun e W' ⟨v,S',he,hg,hp⟩=>⟨v,he,?_,hg.below.os⟩
 have hvb:v=.bool true:=VRep.bool.1 hp.2
 subst hvb
 have hb:=hg.below
 have hlen:ds.length=args.length:=by
  have h1:∀ {ts:List TypeId} {Ts:List Ty} {vs:List Value} {ds:List (DataW H)} {ps:List MemPlace},TysP P ts Ts→DataW.TrodAll enc P W 0 (fun _=>true) true ts vs ds ps→ds.length=Ts.length:=by
   intro ts Ts vs ds ps hT
   induction hT generalizing vs ds ps with
   | nil=>intro h;obtain ⟨_,rfl,_⟩:=trodAll_nil h;rfl
   | cons _ _ _ _ ih=>intro h;obtain ⟨_,_,_,_,_,_,rfl,rfl,rfl,_,hr⟩:=trodAll_cons h;simp [ih hr]
  exact h1 hT hA
 obtain ⟨f1,f2,f3⟩:=hfn H (ds++[]) (by simpa using hlen)
 have hargs:∀ sp:Nat→Bool,(∀ y∈p,sp y.block=true)→DataW.TrodAll enc P W' 0 sp true fn.params.toList av.toList (s.fn H (ds++[])).args p:=fun sp hsp=>by
  rw [f2,List.append_nil,hts]
  exact args_back hl hb hT hA hlt hsp
 have hres:∀ (b:Nat) (sp:Nat→Bool) (hd:Bool),DataW.TrodAll enc P W' b sp hd fn.resultTypes.toList ((Value.bool true).resultList fn.resultTypes.size) (s.fn H (ds++[])).results []:=fun b sp hd=>by
  rw [f1,hrt]
  exact trodAll_cons_mk (shut_bool htb _) trodAll_mk0
 have hvv:∀ sp:Nat→Bool,DataW.TrodVars enc P W' sp s.vars (s.fn H (ds++[])).vars []:=fun sp=>by rw [f3,hvars];rfl
 have hold:∀ y∈p,(fun b=>decide (b<W.heap.size)) y.block=true:=fun y hy=>by simpa using hlt y hy
 refine ⟨ds,[],p,[],p,[],hW0,hres _ _ _,hargs _ hold,hvv _,World.keptBut_mono (fun y hy=>⟨hy,?_⟩) (hb.frame (·∈p)),fun _=>?_⟩
 ·simpa using hy
 ·refine ⟨ok_one hrt rfl (okWide_bool_mk htb _),_,_,([]++p)++[],⟨[]++p,[],trodAll_append (hargs _ (fun _ _=>rfl)) (hres _ _ _),hvv _,rfl,?_,?_⟩,?_⟩
  ·intro b off hpm
   have hpm:MemPlace.cell b off∈p:=by simpa using hpm
   have hlt':=hlt _ hpm
   rw [hb.frozen (p:=⟨b,off,none⟩) hlt']
   exact hfz b off hpm
  ·intro h;cases h
  ·intro y hy _
   simpa using hy
theorem law_contract {P:Program} (hl:laidOutB P=true) {f:FuncId} {fn:Func} {s:ChangeSpec} {args:List Ty} {m:Tup (args.map .d)→Option Bool} (hspec:SpecOK P f ⟨args,[.bool],m⟩) {ts:List TypeId} (hts:fn.params.toList=ts) (hT:TysP P ts args) {tb:TypeId} (hrt:fn.resultTypes=#[tb]) (htb:P.underlying tb=some .bool)
  (hvars:s.vars=[]) (hfn:∀ (H:Type) (ds:List (DataW H)),ds.length=args.length→(s.fn H ds).results=[.lit (.bool true)]∧(s.fn H ds).args=ds∧(s.fn H ds).vars=[])
  (hm:∀ (S:Cells) (w:World) (η:Eta) (vs:List Value) x,All2 (RM S w η) (rvs args x) vs→m x=some true)
  {H:Type} {enc:TypeId×Value→H} {W:World} {base:Nat} {av:Array Value} {ds gs:List (DataW H)} {before:List MemPlace} (hglob:GlobOK (InWd W) W)
  (hval:∀ (j:Nat) t v,fn.params[j]? = some t→av[j]? = some v→Value.okWide P W .any base t v) (hW:DataW.Whole enc P fn.params.toList s.vars false W av.toList ds gs before) :
  Calls P f av W fun e W'=>∃ v,e=.returned v∧s.post enc P fn false true false false W av v W' :=
 (law_contract' hl hspec hts hT hrt htb hvars hfn hm hglob hval hW).mono fun e W' ⟨v,h1,h2,_⟩=>⟨v,h1,h2⟩
theorem ints_of_trod {P:Program} {H:Type} {enc:TypeId×Value→H} {W:World} {base:Nat} {spare:Nat→Bool} {held:Bool} {fuel:Nat} {t e:TypeId} {n:Nat} {cs:List Value} {k0:IntKind} {xs:List Int} {p:List MemPlace} (ht:P.underlying t=some (.array n e)) (he:P.underlying e=some (.int k0)) (hc:P.cellsOf e=1)
  (h:DataW.trod enc P W base spare held fuel t cs=some (.agg (xs.map fun n=>.lit (.int k0 n)),p)) (i:Nat) (x:Int) (hx:xs[i]? = some x):cs[i]? = some (.int k0 x)∧k0.has x:=by
 cases fuel with
 | zero=>simp [DataW.trod] at h
 | succ fuel =>
  obtain ⟨ys,m,hm,h1,h2,h3,h4⟩:=DataW.trod_array ht h
  cases hm
  simp only [Prod.mk.injEq,DataW.agg.injEq] at h1
  have hl:ys.length=xs.length:=by
   have:=congrArg List.length h1.1
   simpa using this.symm
  have hi:i<xs.length:=(List.getElem?_eq_some_iff.1 hx).1
  have h5:=h4 i (by omega)
  obtain ⟨z,hz⟩:∃ z,ys[i]? = some z:=⟨_,List.getElem?_eq_getElem (by omega)⟩
  have h6:(ys.map (·.1))[i]? = some (.lit (.int k0 x)):=by
   rw [← h1.1,List.getElem?_map,hx];rfl
  rw [List.getElem?_map,hz] at h6
  have h6:z.1=.lit (.int k0 x):=Option.some.inj h6
  rw [hc] at h5
  rw [hz,Nat.mul_one] at h5
  cases fuel with
  | zero=>simp [DataW.trod] at h5
  | succ fuel =>
   obtain ⟨k,e1,e2,e3⟩:=DataW.trod_int he h5
   rw [e2] at h6
   have hk:k=x:=by simpa using h6
   subst hk
   refine ⟨?_,(by simp [Lit.wf] at e3;exact e3)⟩
   have:((cs.drop i).take 1)[0]? = some (.int k0 k):=by rw [e1];rfl
   simpa using this
theorem ints_len {P:Program} {H:Type} {enc:TypeId×Value→H} {W:World} {base:Nat} {spare:Nat→Bool} {held:Bool} {fuel:Nat} {t e:TypeId} {n:Nat} {cs:List Value} {x:DataW H×List MemPlace} (ht:P.underlying t=some (.array n e)) (hc:P.cellsOf t=n)
  (h:DataW.trod enc P W base spare held fuel t cs=some x):cs.length=n:=by
 cases fuel with
 | zero=>simp [DataW.trod] at h
 | succ fuel =>
  obtain ⟨ys,m,hm,h1,h2,h3,h4⟩:=DataW.trod_array ht h
  rw [h2,hc]
end Go.PE
namespace Go.Proofs.YthdfmkpebafpoaaGreatDoor
open Go Go.Abs Go.PE Go.RowKit Go.ChangeShapes Go.WideShapes Go.ChangeAt Go.Proofs
set_option maxRecDepth 100000
theorem tyP3:TyP Tryz.prog 3 (.int .i64):=.int Tryz.underlying3
theorem tyP47:TyP Tryz.prog 47 (.pair (.int .i64) (.int .i64)):=.array Tryz.underlying47 (by kernel_rfl) (show FsP Tryz.prog [(0,3),(1,3)] 0 (.pair (.int .i64) (.int .i64)) from .cons (by kernel_rfl) tyP3 (.last (by kernel_rfl) tyP3))
theorem tyP22:TyP Tryz.prog 22 (.list (.pair (.int .i64) (.int .i64))):=.list Tryz.underlying22 (by kernel_rfl) tyP47
theorem tyP23:TyP Tryz.prog 23 (.list (.int .i64)):=.list Tryz.underlying23 (by kernel_rfl) tyP3
theorem tyP68:TyP Tryz.prog 68 (.pair (.int .i64) (.pair (.int .i64) (.pair (.int .i64) (.int .i64)))):=.array Tryz.underlying68 (by kernel_rfl) (show FsP Tryz.prog [(0,3),(1,3),(2,3),(3,3)] 0 (.pair (.int .i64) (.pair (.int .i64) (.pair (.int .i64) (.int .i64)))) from .cons (by kernel_rfl) tyP3 (.cons (by kernel_rfl) tyP3 (.cons (by kernel_rfl) tyP3 (.last (by kernel_rfl) tyP3))))
theorem tyP24:TyP Tryz.prog 24 (.list (.pair (.int .i64) (.pair (.int .i64) (.pair (.int .i64) (.int .i64))))):=.list Tryz.underlying24 (by kernel_rfl) tyP68
theorem tyP70:TyP Tryz.prog 70 (.pair (.int .i64) (.pair (.int .i64) (.pair (.int .i64) (.pair (.int .i64) (.int .i64))))):=.array Tryz.underlying70 (by kernel_rfl) (show FsP Tryz.prog [(0,3),(1,3),(2,3),(3,3),(4,3)] 0 (.pair (.int .i64) (.pair (.int .i64) (.pair (.int .i64) (.pair (.int .i64) (.int .i64))))) from .cons (by kernel_rfl) tyP3 (.cons (by kernel_rfl) tyP3 (.cons (by kernel_rfl) tyP3 (.cons (by kernel_rfl) tyP3 (.last (by kernel_rfl) tyP3)))))
theorem tyP25:TyP Tryz.prog 25 (.list (.pair (.int .i64) (.pair (.int .i64) (.pair (.int .i64) (.pair (.int .i64) (.int .i64)))))):=.list Tryz.underlying25 (by kernel_rfl) tyP70
theorem tyP26:TyP Tryz.prog 26 (.pair (.int .i64) (.pair (.int .i64) (.int .i64))):=.array Tryz.underlying26 (by kernel_rfl) (show FsP Tryz.prog [(0,3),(1,3),(2,3)] 0 (.pair (.int .i64) (.pair (.int .i64) (.int .i64))) from .cons (by kernel_rfl) tyP3 (.cons (by kernel_rfl) tyP3 (.last (by kernel_rfl) tyP3)))
theorem tyP28:TyP Tryz.prog 28 (.pair (.list (.pair (.int .i64) (.int .i64))) (.pair (.list (.int .i64)) (.pair (.list (.pair (.int .i64) (.pair (.int .i64) (.pair (.int .i64) (.int .i64))))) (.pair (.list (.pair (.int .i64) (.pair (.int .i64) (.pair (.int .i64) (.pair (.int .i64) (.int .i64)))))) (.pair (.int .i64) (.pair (.int .i64) (.int .i64))))))):=.struct Tryz.underlying28 (by kernel_rfl) (show FsP Tryz.prog [(0,22),(1,23),(2,24),(3,25),(4,26)] 0 (.pair (.list (.pair (.int .i64) (.int .i64))) (.pair (.list (.int .i64)) (.pair (.list (.pair (.int .i64) (.pair (.int .i64) (.pair (.int .i64) (.int .i64))))) (.pair (.list (.pair (.int .i64) (.pair (.int .i64) (.pair (.int .i64) (.pair (.int .i64) (.int .i64)))))) (.pair (.int .i64) (.pair (.int .i64) (.int .i64))))))) from .cons (by kernel_rfl) tyP22 (.cons (by kernel_rfl) tyP23 (.cons (by kernel_rfl) tyP24 (.cons (by kernel_rfl) tyP25 (.last (by kernel_rfl) tyP26)))))
theorem tyP4:TyP Tryz.prog 4 (.bool):=.bool Tryz.underlying4
theorem tys3:TysP Tryz.prog [28,22,4] [(.pair (.list (.pair (.int .i64) (.int .i64))) (.pair (.list (.int .i64)) (.pair (.list (.pair (.int .i64) (.pair (.int .i64) (.pair (.int .i64) (.int .i64))))) (.pair (.list (.pair (.int .i64) (.pair (.int .i64) (.pair (.int .i64) (.pair (.int .i64) (.int .i64)))))) (.pair (.int .i64) (.pair (.int .i64) (.int .i64))))))),(.list (.pair (.int .i64) (.int .i64))),(.bool)]:=.cons (by kernel_rfl) (of_decide_eq_true (by kernel_rfl)) tyP28 (.cons (by kernel_rfl) (of_decide_eq_true (by kernel_rfl)) tyP22 (.cons (by kernel_rfl) (of_decide_eq_true (by kernel_rfl)) tyP4 (.nil)))
theorem laidOut:laidOutB Tryz.prog=true:=by kernel_rfl
theorem own:ownKnob Tryz.prog.godebug=none:=by kernel_rfl
end Go.Proofs.YthdfmkpebafpoaaGreatDoor
namespace Go.Proofs.YthdfmkpebafpoaaGreatDoor
open Go Go.Abs Go.PE Go.RowKit Go.ChangeShapes Go.WideShapes Go.ChangeAt Go.WideMaps Go.WideElems Go.Proofs
set_option maxRecDepth 100000
theorem gName:Tryz.prog.globalNamed "internal/strconv.uint64pow10"=some 0:=by kernel_rfl
theorem gTy:(Tryz.prog.globals[0]?).map (·.type)=some 205:=by kernel_rfl
theorem globs_ok {W:World} (h:laidMetH Tryz.prog Rows.networkLeastRow.laid W):GlobOK (InWd W) W:=by
 rw [MakeChecks.laidMetH_plain _ _ _ (by kernel_rfl)] at h
 obtain ⟨ps,h,_,_⟩:=h
 obtain ⟨_,_,_,_,_,_,_,_,_,_,h,_⟩:=h
 obtain ⟨_,_,_,_,_,_,_,_,_,_,h,_⟩:=h
 obtain ⟨g0,t0,cs0,f0,p0,q0,hg0,ht0,hv0,hd0,_,_⟩:=h
 obtain rfl:=Option.some.inj (gName.symm.trans hg0)
 obtain rfl:=Option.some.inj (gTy.symm.trans ht0)
 have hsz:=ints_len Tryz.underlying205 (by kernel_rfl) hd0
 have key:=ints_of_trod (k0:=.u64) (xs:=([1,10,100,1000,10000,100000,1000000,10000000,100000000,1000000000,10000000000,100000000000,1000000000000,10000000000000,100000000000000,1000000000000000,10000000000000000,100000000000000000,1000000000000000000,10000000000000000000]:List Int)) Tryz.underlying205 Tryz.underlying179 (by kernel_rfl) hd0
 have hcell:∀ i,W.cell? ⟨0,i,none⟩=cs0[i]? := fun i=>World.var?_cell hg0 hv0 i
 intro g G hl
 unfold globTab at hl
 by_cases hg:0=g
 ·subst hg
  rw [lk_same] at hl
  cases hl
  refine ⟨⟨World.block_lt_of_cell? (w:=W) (a:=⟨0,0,none⟩) (u:=.int .u64 1) (by rw [hcell];simpa using (key 0 1 rfl).1),?_⟩,fun i x hx=>?_⟩
  ·rw [hcell]
   exact Array.getElem?_eq_none (by rw [← Array.length_toList,hsz];exact Nat.le_refl _)
  ·have key:=key i x hx
   refine ⟨[.int .u64 x],⟨rfl,key.2⟩,fun j v hj=>?_⟩
   cases j with
   | zero =>
    have hv:Value.int .u64 x=v:=Option.some.inj hj
    subst hv
    have h2:W.cell? ⟨0,i*1+0,none⟩=some (.int .u64 x):=by
     rw [Nat.mul_one,Nat.add_zero,hcell]
     simpa using key.1
    exact ⟨World.block_lt_of_cell? (w:=W) (a:=⟨0,i*1+0,none⟩) h2,h2⟩
   | succ j=>simp at hj
 ·rw [lk_ne _ _ hg] at hl
  cases hl
theorem door_met (os:Os) (args:Array Value):laidMetH Tryz.prog Rows.networkLeastRow.laid ((World.laidAll Tryz.prog os Rows.networkLeastRow.laid).forCall (fun _ _=>0) ⟨#[],args,[]⟩).memory:=by
 rw [MakeChecks.laidMetH_plain _ _ _ (by kernel_rfl)]
 exact laidMet_laidAll _ (by kernel_rfl) (by kernel_rfl)
end Go.Proofs.YthdfmkpebafpoaaGreatDoor
namespace Go.Det
def sm:Nat→(Nat→Int)→Int
 | 0,_=>0
 | n+1,f=>sm n f+f n
theorem sm_congr {f g:Nat→Int}:∀ {n:Nat},(∀ i,i<n→f i=g i)→sm n f=sm n g
 | 0,_=>rfl
 | n+1,h=>by
  show sm n f+f n=sm n g+g n
  rw [sm_congr (n:=n) fun i hi=>h i (by omega),h n (by omega)]
theorem sm_add (f g:Nat→Int):∀ n,sm n (fun i=>f i+g i)=sm n f+sm n g
 | 0=>rfl
 | n+1=>by
  show sm n (fun i=>f i+g i)+(f n+g n)=sm n f+f n+(sm n g+g n)
  rw [sm_add f g n]
  omega
theorem sm_mul (c:Int) (f:Nat→Int):∀ n,sm n (fun i=>c*f i)=c*sm n f
 | 0=>(Int.mul_zero c).symm
 | n+1=>by
  show sm n (fun i=>c*f i)+c*f n=c*(sm n f+f n)
  rw [sm_mul c f n,Int.mul_add]
theorem sm_neg (f:Nat→Int) (n:Nat):sm n (fun i=>-f i)=-sm n f:=by
 have h:=sm_mul (-1) f n
 rw [Int.neg_one_mul] at h
 rw [← h]
 exact sm_congr fun i _=>(Int.neg_one_mul (f i)).symm
theorem sm_zero {f:Nat→Int}:∀ {n:Nat},(∀ i,i<n→f i=0)→sm n f=0
 | 0,_=>rfl
 | n+1,h=>by
  show sm n f+f n=0
  rw [sm_zero (n:=n) fun i hi=>h i (by omega),h n (by omega)]
  rfl
theorem sm_swap (f:Nat→Nat→Int) (m:Nat):∀ n,sm n (fun a=>sm m (fun b=>f a b))=sm m (fun b=>sm n (fun a=>f a b))
 | 0=>(sm_zero fun _ _=>rfl).symm
 | n+1=>by
  show sm n (fun a=>sm m (fun b=>f a b))+sm m (fun b=>f n b)=sm m (fun b=>sm n (fun a=>f a b)+f n b)
  rw [sm_swap f m n,sm_add]
def sg (n:Nat):Int:=if n % 2=0 then 1 else -1
theorem sg_succ (n:Nat):sg (n+1)=-sg n:=by
 unfold sg
 by_cases h:n % 2=0
 ·rw [if_pos h,if_neg (by omega)]
 ·rw [if_neg h,if_pos (by omega)];rfl
def skp (j c:Nat):Nat:=if c<j then c else c+1
def unk (a b:Nat):Nat:=if b<a then b else b-1
theorem skp_ne (j c:Nat):skp j c≠j:=by unfold skp;split<;>omega
theorem unk_skp (a l:Nat):unk a (skp a l)=l:=by
 unfold unk skp
 by_cases h:l<a
 ·rw [if_pos h,if_pos h]
 ·rw [if_neg h,if_neg (by omega)];omega
theorem skp_lt {j c n:Nat} (h:c<n):skp j c<n+1:=by unfold skp;split<;>omega
theorem skp_two {a b:Nat} (h:a≠b) (c:Nat):skp a (skp (unk a b) c)=skp b (skp (unk b a) c):=by
 unfold skp unk
 (repeat' split)<;>omega
theorem sm_skp (G:Nat→Int) (a:Nat):∀ n,a≤n→sm n (fun l=>G (skp a l))+G a=sm (n+1) G
 | 0,h=>by
  have:a=0:=by omega
  subst this
  rfl
 | n+1,h=>by
  by_cases e:a=n+1
  ·subst e
   show _=sm (n+1) G+G (n+1)
   rw [sm_congr (g:=G) fun i hi=>by unfold skp;rw [if_pos hi]]
  ·have ih:=sm_skp G a n (by omega)
   show sm n (fun l=>G (skp a l))+G (skp a n)+G a=sm (n+1) G+G (n+1)
   have hs:skp a n=n+1:=by unfold skp;rw [if_neg (by omega)]
   rw [hs,← ih]
   omega
abbrev Mx:=Nat→Nat→Int
def dl (j:Nat) (A:Mx):Mx:=fun i c=>A i (skp j c)
def det:Nat→Mx→Int
 | 0,_=>1
 | n+1,A=>sm (n+1) fun j=>sg (n+j)*(A n j*det n (dl j A))
theorem det_congr:∀ {n:Nat} {A B:Mx},(∀ i,i<n→∀ j,j<n→A i j=B i j)→det n A=det n B
 | 0,_,_,_=>rfl
 | n+1,A,B,h=>by
  refine sm_congr fun j hj=>?_
  rw [h n (by omega) j hj,det_congr (n:=n) (A:=dl j A) (B:=dl j B) fun i hi c hc=>h i (by omega) _ (skp_lt hc)]
def swr (p:Nat) (A:Mx):Mx:=fun i=>A (if i=p then p+1 else if i=p+1 then p else i)
theorem det_two (k:Nat) (A:Mx):det (k+2) A=sm (k+2) fun a=>sm (k+2) fun b=>if b=a then 0 else sg (k+1+a)*sg (k+unk a b)*(A (k+1) a*A k b*det k (dl (unk a b) (dl a A))):=by
 refine sm_congr fun a ha=>?_
 have hd:det (k+1) (dl a A)=sm (k+1) fun l=>sg (k+l)*(A k (skp a l)*det k (dl l (dl a A))):=rfl
 rw [hd,← Int.mul_assoc,← sm_mul]
 have h:=sm_skp (fun b=>if b=a then 0 else sg (k+1+a)*sg (k+unk a b)*(A (k+1) a*A k b*det k (dl (unk a b) (dl a A)))) a (k+1) (by omega)
 rw [← h,if_pos rfl,Int.add_zero]
 refine sm_congr fun l hl=>?_
 rw [if_neg (skp_ne a l),unk_skp]
 generalize det k (dl l (dl a A))=D
 generalize A (k+1) a=u
 generalize A k (skp a l)=v
 generalize sg (k+1+a)=s
 generalize sg (k+l)=t
 grind
theorem det_swap:∀ (n p:Nat) (A:Mx),p+1<n→det n (swr p A)=-det n A
 | 0,p,A,h=>by omega
 | n+1,p,A,h=>by
  by_cases hp:p+1<n
  ·show (sm (n+1) fun j=>sg (n+j)*(swr p A n j*det n (dl j (swr p A))))=-(sm (n+1) fun j=>sg (n+j)*(A n j*det n (dl j A)))
   rw [← sm_neg]
   refine sm_congr fun j hj=>?_
   have h1:swr p A n j=A n j:=by unfold swr;rw [if_neg (by omega),if_neg (by omega)]
   have h2:det n (dl j (swr p A))=-det n (dl j A):=det_swap n p (dl j A) hp
   rw [h1,h2]
   grind
  ·obtain ⟨k,rfl⟩:∃ k,n=k+1:=⟨n-1,by omega⟩
   have e:p=k:=by omega
   subst e
   rw [det_two,det_two,sm_swap,← sm_neg]
   refine sm_congr fun b hb=>?_
   rw [← sm_neg]
   refine sm_congr fun a ha=>?_
   by_cases hab:a=b
   ·rw [if_pos hab.symm,if_pos hab];rfl
   ·rw [if_neg (fun h=>hab h.symm),if_neg hab]
    have h1:swr p A (p+1) a=A p a:=by unfold swr;rw [if_neg (by omega),if_pos rfl]
    have h2:swr p A p b=A (p+1) b:=by unfold swr;rw [if_pos rfl]
    have h3:det p (dl (unk a b) (dl a (swr p A)))=det p (dl (unk b a) (dl b A)):=det_congr fun i hi c hc=>by
     show swr p A i (skp a (skp (unk a b) c))=A i (skp b (skp (unk b a) c))
     rw [skp_two hab]
     unfold swr
     rw [if_neg (by omega),if_neg (by omega)]
    have hs:sg (p+1+a)*sg (p+unk a b)=-(sg (p+1+b)*sg (p+unk b a)):=by
     unfold unk
     by_cases hlt:b<a
     ·rw [if_pos hlt,if_neg (by omega)]
      have e1:p+1+a=(p+(a-1))+1+1:=by omega
      have e2:p+1+b=(p+b)+1:=by omega
      rw [e1,e2,sg_succ,sg_succ,sg_succ]
      grind
     ·rw [if_neg hlt,if_pos (by omega)]
      have e1:p+1+b=(p+(b-1))+1+1:=by omega
      have e2:p+1+a=(p+a)+1:=by omega
      rw [e1,e2,sg_succ,sg_succ,sg_succ]
      grind
    rw [h1,h2,h3,hs]
    grind
theorem det_eqrow {n:Nat}:∀ (d p:Nat) (A:Mx),p+d+1<n→(∀ j,A p j=A (p+d+1) j)→det n A=0
 | 0,p,A,h,e=>by
  have h1:=det_swap n p A h
  have h2:det n (swr p A)=det n A:=det_congr fun i _ j _=>by
   show A (if i=p then p+1 else if i=p+1 then p else i) j=A i j
   by_cases e1:i=p
   ·rw [if_pos e1,e1];exact (e j).symm
   ·rw [if_neg e1]
    by_cases e2:i=p+1
    ·rw [if_pos e2,e2];exact e j
    ·rw [if_neg e2]
  omega
 | d+1,p,A,h,e=>by
  have h1:=det_swap n (p+d+1) A (by omega)
  have h2:=det_eqrow (n:=n) d p (swr (p+d+1) A) (by omega) fun j=>by
   show A (if p=p+d+1 then _ else if p=p+d+1+1 then _ else p) j=A (if p+d+1=p+d+1 then p+d+1+1 else _) j
   rw [if_neg (by omega),if_neg (by omega),if_pos rfl]
   exact e j
  omega
def del (A:Mx) (k:Nat):Int:=det k A
def mn (A:Mx) (k x j:Nat):Int:=det (k+1) fun i c=>A (if i=k then x else i) (if c=k then j else c)
def kap (A:Mx) (k j c:Nat):Int:=sg (k+c)*det k (dl c fun i c=>A i (if c=k then j else c))
theorem sg_dbl (k:Nat):sg (k+k)=1:=by unfold sg;rw [if_pos (by omega)]
theorem mn_row (A:Mx) (k x j:Nat):mn A k x j=sm k (fun c=>A x c*kap A k j c)+A x j*del A k:=by
 have h:mn A k x j=sm k (fun c=>sg (k+c)*(A (if k=k then x else k) (if c=k then j else c)*det k (dl c fun i c=>A (if i=k then x else i) (if c=k then j else c))))+sg (k+k)*(A (if k=k then x else k) (if k=k then j else k)*det k (dl k fun i c=>A (if i=k then x else i) (if c=k then j else c))):=rfl
 rw [h]
 congr 1
 ·refine sm_congr fun c hc=>?_
  rw [if_pos rfl,if_neg (by omega)]
  unfold kap
  have:det k (dl c fun i c=>A (if i=k then x else i) (if c=k then j else c))=det k (dl c fun i c=>A i (if c=k then j else c)):=det_congr fun i hi c' _=>by
   show A (if i=k then x else i) _=A i _
   rw [if_neg (by omega)]
  rw [this]
  grind
 ·rw [if_pos rfl,if_pos rfl,sg_dbl,Int.one_mul]
  unfold del
  congr 1
  refine det_congr fun i hi c hc=>?_
  show A (if i=k then x else i) (if skp k c=k then j else skp k c)=A i c
  rw [if_neg (by omega),if_neg (skp_ne k c)]
  unfold skp
  rw [if_pos hc]
theorem mn_zero {A:Mx} {k r j:Nat} (h:r<k):mn A k r j=0:=by
 unfold mn
 refine det_eqrow (k-r-1) r _ (by omega) fun c=>?_
 have e:r+(k-r-1)+1=k:=by omega
 rw [e]
 show A (if r=k then r else r) _=A (if k=k then r else k) _
 rw [if_neg (by omega),if_pos rfl]
theorem del_succ (A:Mx) (k:Nat):del A (k+1)=mn A k k k:=by
 unfold del mn
 refine det_congr fun i _ j _=>?_
 have e1:(if i=k then k else i)=i:=by split<;>omega
 have e2:(if j=k then k else j)=j:=by split<;>omega
 rw [e1,e2]
end Go.Det
namespace Go.Det
def dot (W:Nat) (u z:Nat→Int):Int:=sm W fun c=>u c*z c
theorem sm_ext {f:Nat→Int} {k:Nat}:∀ (n:Nat),k≤n→(∀ c,k≤c→c<n→f c=0)→sm n f=sm k f
 | 0,h,_=>by
  have:k=0:=by omega
  subst this
  rfl
 | n+1,h,hz=>by
  by_cases e:k=n+1
  ·rw [e]
  ·show sm n f+f n=sm k f
   rw [hz n (by omega) (by omega),Int.add_zero]
   exact sm_ext n (by omega) fun c h1 h2=>hz c h1 (by omega)
theorem sm_part {f:Nat→Int} {k j W:Nat} (hk:k≤j) (hj:j<W) (hz:∀ c,k≤c→c≠j→c<W→f c=0):sm W f=sm k f+f j:=by
 rw [sm_ext (k:=j+1) W (by omega) fun c h1 h2=>hz c (by omega) (by omega) h2]
 show sm j f+f j=_
 rw [sm_ext (k:=k) j hk fun c h1 h2=>hz c h1 (by omega) (by omega)]
theorem sm_one {d:Int} {g:Nat→Int} {i k:Nat} (hi:i<k):sm k (fun c=>(if i=c then d else 0)*g c)=d*g i:=by
 rw [sm_part (k:=0) (j:=i) (Nat.zero_le _) hi fun c _ h _=>by rw [if_neg (fun h'=>h h'.symm),Int.zero_mul],if_pos rfl]
 show 0+_=_
 omega
def zv (A:Mx) (k j c:Nat):Int:=if c<k then -kap A k j c else if c=j then -del A k else 0
theorem dot_zv {A:Mx} {k j W:Nat} (u:Nat→Int) (hk:k≤j) (hj:j<W):dot W u (zv A k j)=sm k (fun c=>u c*-kap A k j c)+u j*-del A k:=by
 unfold dot
 rw [sm_part hk hj fun c h1 h2 _=>by unfold zv;rw [if_neg (by omega),if_neg h2,Int.mul_zero]]
 congr 1
 ·refine sm_congr fun c hc=>?_
  unfold zv
  rw [if_pos hc]
 ·unfold zv
  rw [if_neg (by omega),if_pos rfl]
theorem dot_zv_A {A:Mx} {k j W:Nat} (x:Nat) (hk:k≤j) (hj:j<W):dot W (A x) (zv A k j)=-mn A k x j:=by
 rw [dot_zv (A x) hk hj,mn_row,sm_congr (g:=fun c=>-(A x c*kap A k j c)) fun c _=>Int.mul_neg _ _,sm_neg,Int.mul_neg]
 omega
theorem dot_lin (W:Nat) (u v z:Nat→Int) (p q:Int):dot W (fun c=>u c*p-q*v c) z=p*dot W u z-q*dot W v z:=by
 unfold dot
 rw [← sm_mul,← sm_mul,Int.sub_eq_add_neg,← sm_neg,← sm_add]
 refine sm_congr fun c _=>?_
 grind
theorem dot_congr {W:Nat} {u v z:Nat→Int} (h:∀ c,c<W→u c=v c):dot W u z=dot W v z:=sm_congr fun c hc=>by rw [h c hc]
theorem dot_mul (W:Nat) (u z:Nat→Int) (d:Int):dot W (fun c=>d*u c) z=d*dot W u z:=by
 unfold dot
 rw [← sm_mul]
 exact sm_congr fun c _=>Int.mul_assoc _ _ _
structure BS (A:Mx) (W n k:Nat) (m:Mx):Prop where
 up:∀ z,(∀ r,r<k→dot W (A r) z=0)→∀ i,i<k→dot W (m i) z=0
 low:∀ z,(∀ r,r<k→dot W (A r) z=0)→∀ x,k≤x→x<n→dot W (m x) z=del A k*dot W (A x) z
 su:∀ i j,i<k→j<k→m i j=if i=j then del A k else 0
 sl:∀ x j,k≤x→x<n→j<k→m x j=0
theorem BS.start {A:Mx} {W n:Nat} {m:Mx} (h:∀ i,i<n→∀ j,j<W→m i j=A i j):BS A W n 0 m where
 up:=fun z _ i hi=>absurd hi (Nat.not_lt_zero _)
 low:=fun z _ x _ hx=>by
  rw [dot_congr (h x hx)]
  exact (Int.one_mul _).symm
 su:=fun i j hi=>absurd hi (Nat.not_lt_zero _)
 sl:=fun x j _ _ hj=>absurd hj (Nat.not_lt_zero _)
theorem zv_ok {A:Mx} {k j W:Nat} (hk:k≤j) (hj:j<W):∀ r,r<k→dot W (A r) (zv A k j)=0:=fun r hr=>by
 rw [dot_zv_A r hk hj,mn_zero hr];rfl
theorem BS.val_up {A:Mx} {W n k:Nat} {m:Mx} (h:BS A W n k m) (h0:del A k≠0) {i j:Nat} (hi:i<k) (hk:k≤j) (hj:j<W):m i j=-kap A k j i:=by
 have h1:=h.up _ (zv_ok hk hj) i hi
 rw [dot_zv (m i) hk hj,sm_congr (g:=fun c=>(if i=c then del A k else 0)*-kap A k j c) fun c hc=>by rw [h.su i c hi hc],sm_one hi] at h1
 have h2:del A k*(-kap A k j i)=del A k*m i j:=by grind
 exact (Int.eq_of_mul_eq_mul_left h0 h2).symm
theorem BS.val_low {A:Mx} {W n k:Nat} {m:Mx} (h:BS A W n k m) (h0:del A k≠0) {x j:Nat} (hx:k≤x) (hn:x<n) (hk:k≤j) (hj:j<W):m x j=mn A k x j:=by
 have h1:=h.low _ (zv_ok hk hj) x hx hn
 rw [dot_zv (m x) hk hj,dot_zv_A x hk hj,sm_zero fun c hc=>by rw [h.sl x c hx hn hc,Int.zero_mul]] at h1
 have h2:del A k*m x j=del A k*mn A k x j:=by grind
 exact Int.eq_of_mul_eq_mul_left h0 h2
theorem BS.pivot {A:Mx} {W n k:Nat} {m:Mx} (h:BS A W n k m) (h0:del A k≠0) (hk:k<n) (hW:n≤W):m k k=del A (k+1):=by
 rw [h.val_low h0 (Nat.le_refl k) hk (Nat.le_refl k) (by omega),del_succ]
def tt (m:Mx) (k i j:Nat):Int:=m i j*m k k-m i k*m k j
theorem BS.quot {A:Mx} {W n k:Nat} {m:Mx} (h:BS A W n k m) (h0:del A k≠0) (hk:k<n) (hW:n≤W) (hp:m k k≠0) {i j:Nat} (hi:i<n) (hik:i≠k) (hj:j<W):∃ q,tt m k i j=del A k*q:=by
 have hpiv:=h.pivot h0 hk hW
 have h1:del A (k+1)≠0:=by rw [← hpiv];exact hp
 have hk0:∀ c,c<k→m k c=0:=fun c hc=>h.sl k c (Nat.le_refl k) hk hc
 have hz:∀ z,(∀ r,r<k+1→dot W (A r) z=0)→dot W (m k) z=0:=fun z hz=>by
  rw [h.low z (fun r hr=>hz r (by omega)) k (Nat.le_refl k) hk,hz k (by omega),Int.mul_zero]
 have hd:∀ z,dot W (tt m k i) z=m k k*dot W (m i) z-m i k*dot W (m k) z:=fun z=>dot_lin W (m i) (m k) z (m k k) (m i k)
 have htk:tt m k i k=0:=by unfold tt;omega
 by_cases hjk:j≤k
 ·by_cases e:j=k
  ·subst e
   exact ⟨0,by rw [htk,Int.mul_zero]⟩
  ·unfold tt
   rw [hk0 j (by omega),Int.mul_zero,Int.sub_zero]
   by_cases hik':i<k
   ·rw [h.su i j hik' (by omega)]
    by_cases hij:i=j
    ·rw [if_pos hij];exact ⟨_,rfl⟩
    ·rw [if_neg hij,Int.zero_mul];exact ⟨0,(Int.mul_zero _).symm⟩
   ·rw [h.sl i j (by omega) hi (by omega),Int.zero_mul]
    exact ⟨0,(Int.mul_zero _).symm⟩
 ·have hk1:k+1≤j:=by omega
  have ht:=hd (zv A (k+1) j)
  rw [hz _ (zv_ok hk1 hj),Int.mul_zero,Int.sub_zero,dot_zv _ hk1 hj] at ht
  by_cases hik':i<k
  ·rw [h.up _ (fun r hr=>zv_ok hk1 hj r (by omega)) i hik',Int.mul_zero] at ht
   have hs:sm (k+1) (fun c=>tt m k i c*-kap A (k+1) j c)=del A k*del A (k+1)*-kap A (k+1) j i:=by
    rw [← sm_one (k:=k+1) (d:=del A k*del A (k+1)) (g:=fun c=>-kap A (k+1) j c) (by omega:i<k+1)]
    refine sm_congr fun c hc=>?_
    by_cases hck:c=k
    ·rw [hck,htk,if_neg hik]
    ·have e1:tt m k i c=if i=c then del A k*del A (k+1) else 0:=by
      unfold tt
      rw [hk0 c (by omega),h.su i c hik' (by omega),hpiv]
      by_cases hic:i=c
      ·rw [if_pos hic,if_pos hic];omega
      ·rw [if_neg hic,if_neg hic];omega
     rw [e1]
   rw [hs] at ht
   refine ⟨-kap A (k+1) j i,Int.eq_of_mul_eq_mul_left h1 ?_⟩
   grind
  ·have hxk:k+1≤i:=by omega
   rw [h.low _ (fun r hr=>zv_ok hk1 hj r (by omega)) i (by omega) hi,dot_zv_A i hk1 hj,hpiv] at ht
   have hs:sm (k+1) (fun c=>tt m k i c*-kap A (k+1) j c)=0:=sm_zero fun c hc=>by
    by_cases hck:c=k
    ·rw [hck,htk,Int.zero_mul]
    ·have e1:tt m k i c=0:=by
      unfold tt
      rw [hk0 c (by omega),h.sl i c (by omega) hi (by omega)]
      omega
     rw [e1,Int.zero_mul]
   rw [hs] at ht
   refine ⟨mn A (k+1) i j,Int.eq_of_mul_eq_mul_left h1 ?_⟩
   grind
theorem BS.next {A:Mx} {W n k:Nat} {m m':Mx} (h:BS A W n k m) (h0:del A k≠0) (hk:k<n) (hW:n≤W) (e1:∀ j,j<W→m' k j=m k j) (e2:∀ i,i<n→i≠k→∀ j,j<W→del A k*m' i j=tt m k i j):BS A W n (k+1) m':=by
 have hpiv:=h.pivot h0 hk hW
 have hk0:∀ c,c<k→m k c=0:=fun c hc=>h.sl k c (Nat.le_refl k) hk hc
 have hz:∀ z,(∀ r,r<k+1→dot W (A r) z=0)→dot W (m k) z=0:=fun z hz=>by
  rw [h.low z (fun r hr=>hz r (by omega)) k (Nat.le_refl k) hk,hz k (by omega),Int.mul_zero]
 have hd:∀ i z,dot W (tt m k i) z=m k k*dot W (m i) z-m i k*dot W (m k) z:=fun i z=>dot_lin W (m i) (m k) z (m k k) (m i k)
 have hdm:∀ i,i<n→i≠k→∀ z,del A k*dot W (m' i) z=dot W (tt m k i) z:=fun i hi hik z=>by
  rw [← dot_mul]
  exact dot_congr (e2 i hi hik)
 refine ⟨fun z hr i hi=>?_,fun z hr x hx hn=>?_,fun i j hi hj=>?_,fun x j hx hn hj=>?_⟩
 ·by_cases hik:i=k
  ·subst hik
   rw [dot_congr e1]
   exact hz z hr
  ·have:=hdm i (by omega) hik z
   rw [hd,hz z hr,h.up z (fun r hr'=>hr r (by omega)) i (by omega),Int.mul_zero,Int.mul_zero] at this
   exact (Int.mul_eq_zero.1 this).resolve_left h0
 ·have:=hdm x hn (by omega) z
  rw [hd,hz z hr,h.low z (fun r hr'=>hr r (by omega)) x (by omega) hn,Int.mul_zero,hpiv] at this
  refine Int.eq_of_mul_eq_mul_left h0 ?_
  grind
 ·by_cases hik:i=k
  ·subst hik
   rw [e1 j (by omega)]
   by_cases hij:i=j
   ·subst hij;rw [if_pos rfl,hpiv]
   ·rw [if_neg hij,hk0 j (by omega)]
  ·have:=e2 i (by omega) hik j (by omega)
   refine Int.eq_of_mul_eq_mul_left h0 (this.trans ?_)
   by_cases hjk:j=k
   ·subst hjk
    rw [if_neg hik]
    unfold tt
    omega
   ·unfold tt
    rw [hk0 j (by omega),h.su i j (by omega) (by omega),hpiv]
    by_cases hij:i=j
    ·rw [if_pos hij,if_pos hij];omega
    ·rw [if_neg hij,if_neg hij];omega
 ·have:=e2 x hn (by omega) j (by omega)
  refine Int.eq_of_mul_eq_mul_left h0 (this.trans ?_)
  by_cases hjk:j=k
  ·subst hjk
   unfold tt
   omega
  ·unfold tt
   rw [hk0 j (by omega),h.sl x j (by omega) hn (by omega)]
   omega
end Go.Det
namespace Go.Det
theorem sm_head (g:Nat→Int):∀ m,sm (m+1) g=g 0+sm m fun d=>g (d+1)
 | 0=>by show 0+g 0=g 0+0;omega
 | m+1=>by
  show sm (m+1) g+g (m+1)=g 0+(sm m (fun d=>g (d+1))+g (m+1))
  rw [sm_head g m]
  omega
def sr (k n:Nat) (f:Nat→Int):Int:=sm (n-k) fun d=>f (k+d)
theorem sr_step {k n:Nat} {f:Nat→Int} (h:k<n):sr k n f=f k+sr (k+1) n f:=by
 unfold sr
 obtain ⟨m,rfl⟩:∃ m,n=k+1+m:=⟨n-(k+1),by omega⟩
 rw [show k+1+m-k=m+1 by omega,show k+1+m-(k+1)=m by omega,sm_head,Nat.add_zero]
 congr 1
 exact sm_congr fun d _=>by rw [show k+(d+1)=k+1+d by omega]
theorem sr_congr {k n:Nat} {f g:Nat→Int} (h:∀ x,k≤x→x<n→f x=g x):sr k n f=sr k n g:=sm_congr fun d hd=>h _ (by omega) (by omega)
theorem sr_mul (c:Int) (k n:Nat) (f:Nat→Int):sr k n (fun x=>c*f x)=c*sr k n f:=sm_mul c _ _
theorem sr_add (k n:Nat) (f g:Nat→Int):sr k n (fun x=>f x+g x)=sr k n f+sr k n g:=sm_add _ _ _
theorem sr_neg (k n:Nat) (f:Nat→Int):sr k n (fun x=>-f x)=-sr k n f:=sm_neg _ _
theorem sm_le {f g:Nat→Int}:∀ {n:Nat},(∀ i,i<n→f i≤g i)→sm n f≤sm n g
 | 0,_=>Int.le_refl _
 | n+1,h=>by
  have h1:=sm_le (n:=n) fun i hi=>h i (by omega)
  have h2:=h n (by omega)
  show sm n f+f n≤sm n g+g n
  omega
theorem sr_le {k n:Nat} {f g:Nat→Int} (h:∀ x,k≤x→x<n→f x≤g x):sr k n f≤sr k n g:=sm_le fun d hd=>h _ (by omega) (by omega)
theorem sr_pos {k n:Nat} {f:Nat→Int} (h:∀ x,k≤x→x<n→0≤f x):0≤sr k n f:=by
 have:=sr_le (k:=k) (n:=n) (f:=fun _=>0) (g:=f) h
 have h0:sr k n (fun _=>0)=0:=sm_zero fun _ _=>rfl
 omega
theorem sr_mem {n:Nat} {f:Nat→Int}:∀ (d k:Nat),n-k=d→(∀ x,k≤x→x<n→0≤f x)→∀ x,k≤x→x<n→f x≤sr k n f
 | 0,k,hd,_,x,h1,h2=>by omega
 | d+1,k,hd,h,x,h1,h2=>by
  rw [sr_step (by omega)]
  have hp:0≤sr (k+1) n f:=sr_pos fun y h3 h4=>h y (by omega) h4
  have h0:=h k (Nat.le_refl k) (by omega)
  by_cases e:x=k
  ·subst e;omega
  ·have:=sr_mem d (k+1) (by omega) (fun y h3 h4=>h y (by omega) h4) x (by omega) h2
   omega
def ab (x:Int):Int:=max x (-x)
theorem ab_pos (x:Int):0≤ab x:=by unfold ab;omega
theorem ab_le (x:Int):x≤ab x∧-x≤ab x:=by unfold ab;omega
theorem ab_mul (x y:Int):ab (x*y)=ab x*ab y:=by
 unfold ab
 rcases Int.le_total 0 x with h | h<;>rcases Int.le_total 0 y with h' | h'
 ·have:=Int.mul_nonneg h h'
  rw [Int.max_eq_left (by omega),Int.max_eq_left (by omega),Int.max_eq_left (by omega)]
 ·have:=Int.mul_nonneg h (Int.neg_nonneg.2 h')
  rw [Int.mul_neg] at this
  rw [Int.max_eq_right (by omega),Int.max_eq_left (by omega),Int.max_eq_right (by omega),Int.mul_neg]
 ·have:=Int.mul_nonneg (Int.neg_nonneg.2 h) h'
  rw [Int.neg_mul] at this
  rw [Int.max_eq_right (by omega),Int.max_eq_right (by omega),Int.max_eq_left (by omega),Int.neg_mul]
 ·have:=Int.mul_nonneg (Int.neg_nonneg.2 h) (Int.neg_nonneg.2 h')
  rw [Int.neg_mul_neg] at this
  rw [Int.max_eq_left (by omega),Int.max_eq_right (by omega),Int.max_eq_right (by omega),Int.neg_mul_neg]
theorem ab_sub (x y:Int):ab (x-y)≤ab x+ab y:=by unfold ab;omega
structure LB (A:Mx) (n W k:Nat) (B:Int) (m:Mx):Prop where
 s1:∀ x j,k≤x→x<n→k≤j→j<n→m x j=m j x
 s2:∀ x j,k≤x→x<n→k≤j→j<n→x≠j→m x j≤0
 s3:∀ x,k≤x→x<n→0≤sr k n (m x)
 s4:∀ x,k≤x→x<n→m x x≤del A k*A x x
 u1:∀ i j,i<k→k≤j→j<n→m i j≤0
 u2:∀ i,i<k→0≤del A k+sr k n (m i)
 r1:∀ c,n≤c→c<W→sr k n (fun x=>ab (m x c))≤del A k*B
theorem LB.diag {A:Mx} {n W k:Nat} {B:Int} {m:Mx} (h:LB A n W k B m) (hk:k<n):sr (k+1) n (m k)≤0∧0≤m k k:=by
 have h3:=h.s3 k (Nat.le_refl k) hk
 rw [sr_step hk] at h3
 have hp:0≤sr (k+1) n (fun j=>-m k j):=sr_pos fun j h1 h2=>by
  have:=h.s2 k j (Nat.le_refl k) hk (by omega) h2 (by omega)
  omega
 rw [sr_neg] at hp
 omega
theorem LB.zero {A:Mx} {n W k:Nat} {B:Int} {m:Mx} (h:LB A n W k B m) (hk:k<n) (h0:m k k=0):∀ x,k≤x→x<n→m x k=0:=fun x hx hn=>by
 rw [h.s1 x k hx hn (Nat.le_refl k) hk]
 by_cases e:x=k
 ·rw [e];exact h0
 ·have h3:=h.s3 k (Nat.le_refl k) hk
  rw [sr_step hk,h0] at h3
  have hall:∀ j,k+1≤j→j<n→0≤-m k j:=fun j h1 h2=>by
   have:=h.s2 k j (Nat.le_refl k) hk (by omega) h2 (by omega)
   omega
  have:=sr_mem (f:=fun j=>-m k j) _ (k+1) rfl hall x (by omega) hn
  rw [sr_neg] at this
  have:=hall x (by omega) hn
  omega
theorem LB.next {A:Mx} {n W k:Nat} {B:Int} {m m':Mx} (h:LB A n W k B m) (hk:k<n) (hd:0<del A k) (hpd:m k k=del A (k+1)) (hp:0<m k k) (e1:∀ j,j<W→m' k j=m k j) (e2:∀ i,i<n→i≠k→∀ j,j<W→del A k*m' i j=tt m k i j) (hW:n≤W):LB A n W (k+1) B m':=by
 have hk3:=h.s3 k (Nat.le_refl k) hk
 rw [sr_step hk] at hk3
 have hoff:∀ x,k+1≤x→x<n→m x k≤0:=fun x h1 h2=>h.s2 x k (by omega) h2 (Nat.le_refl k) hk (by omega)
 have hoff2:∀ j,k+1≤j→j<n→m k j≤0:=fun j h1 h2=>h.s2 k j (Nat.le_refl k) hk (by omega) h2 (by omega)
 have hsum:∀ i,i<n→i≠k→del A k*sr (k+1) n (m' i)=m k k*sr (k+1) n (m i)-m i k*sr (k+1) n (m k):=fun i hi hik=>by
  rw [← sr_mul,← sr_mul,← sr_mul,Int.sub_eq_add_neg,← sr_neg,← sr_add]
  refine sr_congr fun j h1 h2=>?_
  rw [e2 i hi hik j (by omega)]
  unfold tt
  grind
 rw [hpd] at hp hk3 hsum
 have cancel:∀ {a b:Int},del A k*a≤del A k*b→a≤b:=fun h=>Int.le_of_mul_le_mul_left h hd
 refine ⟨fun x j hx hn hj hjn=>?_,fun x j hx hn hj hjn hne=>?_,fun x hx hn=>?_,fun x hx hn=>?_,fun i j hi hj hjn=>?_,fun i hi=>?_,fun c hc hcW=>?_⟩
 ·have a1:=e2 x hn (by omega) j (by omega)
  have a2:=e2 j hjn (by omega) x (by omega)
  refine Int.eq_of_mul_eq_mul_left (by omega:del A k≠0) (a1.trans (Eq.trans ?_ a2.symm))
  unfold tt
  rw [h.s1 x j (by omega) hn (by omega) hjn,h.s1 x k (by omega) hn (Nat.le_refl k) hk,h.s1 k j (Nat.le_refl k) hk (by omega) hjn,Int.mul_comm (m k x)]
 ·have a1:=e2 x hn (by omega) j (by omega)
  refine cancel ?_
  rw [a1,Int.mul_zero]
  unfold tt
  rw [hpd]
  have q1:=Int.mul_nonneg (Int.neg_nonneg.2 (h.s2 x j (by omega) hn (by omega) hjn hne)) (Int.le_of_lt hp)
  have q2:=Int.mul_nonneg (Int.neg_nonneg.2 (hoff x hx hn)) (Int.neg_nonneg.2 (hoff2 j hj hjn))
  rw [Int.neg_mul] at q1
  rw [Int.neg_mul_neg] at q2
  omega
 ·refine cancel ?_
  rw [hsum x hn (by omega),Int.mul_zero]
  have h3:=h.s3 x (by omega) hn
  rw [sr_step hk] at h3
  have q1:=Int.mul_nonneg (Int.le_of_lt hp) h3
  have q2:=Int.mul_nonneg (Int.neg_nonneg.2 (hoff x hx hn)) hk3
  grind
 ·refine cancel ?_
  rw [e2 x hn (by omega) x (by omega)]
  unfold tt
  rw [hpd,h.s1 k x (Nat.le_refl k) hk (by omega) hn]
  have q1:=Int.mul_le_mul_of_nonneg_right (h.s4 x (by omega) hn) (Int.le_of_lt hp)
  have q2:0≤m x k*m x k:=by
   have:=Int.mul_nonneg (Int.neg_nonneg.2 (hoff x hx hn)) (Int.neg_nonneg.2 (hoff x hx hn))
   rwa [Int.neg_mul_neg] at this
  grind
 ·by_cases hik:i=k
  ·subst hik
   rw [e1 j (by omega)]
   exact hoff2 j hj hjn
  ·refine cancel ?_
   rw [e2 i (by omega) hik j (by omega),Int.mul_zero]
   unfold tt
   rw [hpd]
   have q1:=Int.mul_nonneg (Int.neg_nonneg.2 (h.u1 i j (by omega) (by omega) hjn)) (Int.le_of_lt hp)
   have q2:=Int.mul_nonneg (Int.neg_nonneg.2 (h.u1 i k (by omega) (Nat.le_refl k) hk)) (Int.neg_nonneg.2 (hoff2 j hj hjn))
   rw [Int.neg_mul] at q1
   rw [Int.neg_mul_neg] at q2
   omega
 ·by_cases hik:i=k
  ·subst hik
   rw [sr_congr (g:=m i) fun j h1 h2=>e1 j (by omega)]
   omega
  ·refine cancel ?_
   rw [Int.mul_zero,Int.mul_add,hsum i (by omega) hik]
   have h3:=h.u2 i (by omega)
   rw [sr_step hk] at h3
   have q1:=Int.mul_nonneg (Int.le_of_lt hp) h3
   have q2:=Int.mul_nonneg (Int.neg_nonneg.2 (h.u1 i k (by omega) (Nat.le_refl k) hk)) hk3
   grind
 ·refine cancel ?_
  have h1:=h.r1 c hc hcW
  rw [sr_step hk] at h1
  have hb:del A k*sr (k+1) n (fun x=>ab (m' x c))≤del A (k+1)*sr (k+1) n (fun x=>ab (m x c))+ab (m k c)*-sr (k+1) n (m k):=by
   rw [← sr_mul,← sr_mul,← sr_neg,← sr_mul,← sr_add]
   refine sr_le fun x hx hn=>?_
   have a1:=e2 x hn (by omega) c hcW
   have a2:del A k*ab (m' x c)=ab (tt m k x c):=by
    rw [← a1,ab_mul]
    congr 1
    unfold ab
    omega
   rw [a2]
   unfold tt
   refine Int.le_trans (ab_sub _ _) ?_
   rw [ab_mul,ab_mul,hpd]
   have b1:ab (del A (k+1))=del A (k+1):=by unfold ab;omega
   have b2:ab (m x k)=-m k x:=by
    rw [h.s1 k x (Nat.le_refl k) hk (by omega) hn]
    have:=hoff x hx hn
    unfold ab;omega
   rw [b1,b2,Int.mul_comm (ab (m x c)),Int.mul_comm (-m k x)]
   exact Int.le_refl _
  have q1:=Int.mul_nonneg (ab_pos (m k c)) hk3
  have q2:=Int.mul_le_mul_of_nonneg_left h1 (Int.le_of_lt hp)
  refine Int.le_trans hb ?_
  grind
end Go.Det
namespace Go.Det
theorem two_pow:∀ a:Nat,8*(a*a)≤9*2 ^ a
 | 0=>by decide
 | 1=>by decide
 | 2=>by decide
 | 3=>by decide
 | a+4=>by
  have ih:=two_pow (a+3)
  have h2:2 ^ (a+4)=2*2 ^ (a+3):=by rw [show a+4=a+3+1 from rfl,Nat.pow_succ];omega
  rw [h2]
  generalize 2 ^ (a+3)=P at *
  have e1:(a+4)*(a+4)=a*a+8*a+16:=by grind
  have e2:(a+3)*(a+3)=a*a+6*a+9:=by grind
  rw [e1]
  rw [e2] at ih
  omega
def pd (a:Nat→Nat):Nat→Nat
 | 0=>1
 | k+1=>pd a k*a k
def sd (a:Nat→Nat):Nat→Nat
 | 0=>0
 | k+1=>sd a k+a k
theorem pd_pow (a:Nat→Nat):∀ k,8 ^ k*(pd a k*pd a k)≤9 ^ k*2 ^ sd a k
 | 0=>by show 1*(1*1)≤1*1;decide
 | k+1=>by
  have ih:=pd_pow a k
  have h:=two_pow (a k)
  have:=Nat.mul_le_mul ih h
  show 8 ^ (k+1)*(pd a k*a k*(pd a k*a k))≤9 ^ (k+1)*2 ^ (sd a k+a k)
  rw [Nat.pow_succ,Nat.pow_succ,Nat.pow_add]
  calc 8 ^ k*8*(pd a k*a k*(pd a k*a k))=8 ^ k*(pd a k*pd a k)*(8*(a k*a k)):=by grind
   _≤9 ^ k*2 ^ sd a k*(9*2 ^ a k):=this
   _=9 ^ k*9*(2 ^ sd a k*2 ^ a k):=by grind
theorem pd_le {a:Nat→Nat} {k:Nat} (hk:k≤8) (hs:sd a k≤40):pd a k≤1679616:=by
 have h:=pd_pow a k
 have h1:(2:Nat) ^ sd a k≤2 ^ 40:=Nat.pow_le_pow_right (by decide) hs
 have h2:8 ^ (8-k)*8 ^ k=8 ^ 8:=by rw [← Nat.pow_add];congr 1;omega
 have h3:8 ^ (8-k)*9 ^ k≤9 ^ 8:=by
  have e:9 ^ (8-k)*9 ^ k=9 ^ 8:=by rw [← Nat.pow_add];congr 1;omega
  rw [← e]
  exact Nat.mul_le_mul_right _ (Nat.pow_le_pow_left (by decide) _)
 have h4:8 ^ 8*(pd a k*pd a k)≤9 ^ 8*2 ^ 40:=by
  calc 8 ^ 8*(pd a k*pd a k)=8 ^ (8-k)*(8 ^ k*(pd a k*pd a k)):=by rw [← h2,Nat.mul_assoc]
   _≤8 ^ (8-k)*(9 ^ k*2 ^ sd a k):=Nat.mul_le_mul_left _ h
   _=8 ^ (8-k)*9 ^ k*2 ^ sd a k:=(Nat.mul_assoc _ _ _).symm
   _≤9 ^ 8*2 ^ 40:=Nat.mul_le_mul h3 h1
 refine Nat.not_lt.1 fun hlt=>?_
 have h5:1679617*1679617≤pd a k*pd a k:=Nat.mul_le_mul hlt hlt
 have h6:(8:Nat) ^ 8=16777216:=by decide
 have h7:(9:Nat) ^ 8=43046721:=by decide
 have h8:(2:Nat) ^ 40=1099511627776:=by decide
 rw [h6,h7,h8] at h4
 omega
structure LZ (A:Mx) (n W k:Nat) (B:Int) (a:Nat→Nat) (m:Mx):Prop where
 le:del A k≤pd a k
 rh:∀ i c,i<k→n≤c→c<W→ab (m i c)≤k*pd a k*B
theorem LZ.next {A:Mx} {n W k:Nat} {B:Int} {a:Nat→Nat} {m m':Mx} (ha:∀ x,x<n→A x x=a x) (hB:0≤B) (hz:LZ A n W k B a m) (h:LB A n W k B m) (hk:k<n) (hd:0<del A k) (hpd:m k k=del A (k+1)) (hp:0<m k k) (e1:∀ j,j<W→m' k j=m k j) (e2:∀ i,i<n→i≠k→∀ j,j<W→del A k*m' i j=tt m k i j) (hW:n≤W):LZ A n W (k+1) B a m':=by
 have h4:=h.s4 k (Nat.le_refl k) hk
 rw [ha k hk] at h4
 have hak:(1:Int)≤a k:=by
  refine Int.not_lt.1 fun hlt=>?_
  have e:(a k:Int)=0:=by omega
  rw [e,Int.mul_zero] at h4
  omega
 have hpk:del A k*(a k:Int)≤(pd a k:Int)*(a k:Int):=Int.mul_le_mul_of_nonneg_right hz.le (by omega)
 have hpe:((pd a (k+1):Nat):Int)=(pd a k:Int)*(a k:Int):=by
  show ((pd a k*a k:Nat):Int)=_
  exact Int.natCast_mul _ _
 have hPP:(pd a k:Int)≤(pd a k:Int)*(a k:Int):=by
  have:=Int.mul_le_mul_of_nonneg_left hak (Int.natCast_nonneg (pd a k))
  rwa [Int.mul_one] at this
 have hPB:0≤(pd a k:Int)*(a k:Int)*B:=Int.mul_nonneg (Int.mul_nonneg (Int.natCast_nonneg _) (by omega)) hB
 refine ⟨by rw [hpe,← hpd];omega,fun i c hi hc hcW=>?_⟩
 have hmk:ab (m k c)≤(pd a k:Int)*B:=by
  have h1:=h.r1 c hc hcW
  have h2:=sr_mem (f:=fun x=>ab (m x c)) _ k rfl (fun x _ _=>ab_pos _) k (Nat.le_refl k) hk
  have h3:=Int.mul_le_mul_of_nonneg_right hz.le hB
  omega
 have hle:(pd a k:Int)*B≤(pd a k:Int)*(a k:Int)*B:=Int.mul_le_mul_of_nonneg_right hPP hB
 rw [hpe]
 have hcast:((k+1:Nat):Int)=(k:Int)+1:=by omega
 rw [hcast]
 by_cases hik:i=k
 ·subst hik
  rw [e1 c hcW]
  have:0≤(i:Int)*((pd a i:Int)*(a i:Int)*B):=Int.mul_nonneg (by omega) hPB
  grind
 ·have hi':i<k:=by omega
  have a1:=e2 i (by omega) hik c hcW
  have a2:del A k*ab (m' i c)=ab (tt m k i c):=by
   rw [← a1,ab_mul]
   congr 1
   unfold ab
   omega
  have hmik:ab (m i k)≤del A k:=by
   have u1:=h.u1 i k hi' (Nat.le_refl k) hk
   have u2:=h.u2 i hi'
   have:=sr_mem (f:=fun j=>-m i j) _ k rfl (fun j h1 h2=>by have:=h.u1 i j hi' h1 h2;omega) k (Nat.le_refl k) hk
   rw [sr_neg] at this
   unfold ab;omega
  have hb:ab (tt m k i c)≤ab (m i c)*m k k+ab (m i k)*ab (m k c):=by
   unfold tt
   refine Int.le_trans (ab_sub _ _) ?_
   rw [ab_mul,ab_mul]
   have b1:ab (m k k)=m k k:=by unfold ab;omega
   rw [b1]
   exact Int.le_refl _
  have g1:ab (m i c)*m k k≤ab (m i c)*(del A k*(a k:Int)):=Int.mul_le_mul_of_nonneg_left h4 (ab_pos _)
  have g2:ab (m i k)*ab (m k c)≤del A k*ab (m k c):=Int.mul_le_mul_of_nonneg_right hmik (ab_pos _)
  have g3:del A k*ab (m' i c)≤del A k*(ab (m i c)*(a k:Int)+ab (m k c)):=by grind
  have g4:=Int.le_of_mul_le_mul_left g3 hd
  have g5:=Int.mul_le_mul_of_nonneg_right (hz.rh i c hi' hc hcW) (by omega:(0:Int)≤a k)
  grind
end Go.Det
namespace Go.Det
structure Lap (A:Mx) (n W:Nat) (B:Int) (a:Nat→Nat):Prop where
 hW:n≤W
 hn:n≤8
 hB:40≤B
 hB2:B≤50000
 sy:∀ x j,x<n→j<n→A x j=A j x
 of:∀ x j,x<n→j<n→x≠j→A x j≤0
 rs:∀ x,x<n→0≤sm n (A x)
 dg:∀ x,x<n→A x x=a x
 sd:sd a n≤40
 rh:∀ c,n≤c→c<W→sm n (fun x=>ab (A x c))≤B
theorem sr_zero (n:Nat) (f:Nat→Int):sr 0 n f=sm n f:=by
 unfold sr
 exact sm_congr fun d _=>by rw [Nat.zero_add]
theorem Lap.lb {A:Mx} {n W:Nat} {B:Int} {a:Nat→Nat} (h:Lap A n W B a):LB A n W 0 B A where
 s1:=fun x j _ hx _ hj=>h.sy x j hx hj
 s2:=fun x j _ hx _ hj hne=>h.of x j hx hj hne
 s3:=fun x _ hx=>by rw [sr_zero];exact h.rs x hx
 s4:=fun x _ _=>by show A x x≤1*A x x;omega
 u1:=fun i j hi=>absurd hi (Nat.not_lt_zero _)
 u2:=fun i hi=>absurd hi (Nat.not_lt_zero _)
 r1:=fun c hc hcW=>by
  rw [sr_zero]
  have:=h.rh c hc hcW
  show _≤1*B
  omega
def stt (A:Mx) (n:Nat):Nat→Mx
 | 0=>A
 | k+1=>fun i j=>if i=k∨n≤i then stt A n k i j else (tt (stt A n k) k i j).tdiv (del A k)
theorem run_ok {A:Mx} {n W:Nat} {B:Int} {a:Nat→Nat} (h:Lap A n W B a):∀ k,k≤n→(∀ l,l<k→del A (l+1)≠0)→BS A W n k (stt A n k)∧LB A n W k B (stt A n k)∧LZ A n W k B a (stt A n k)∧0<del A k
 | 0,_,_=>⟨BS.start fun _ _ _ _=>rfl,h.lb,⟨by show (1:Int)≤1;decide,fun i c hi=>absurd hi (Nat.not_lt_zero _)⟩,by show (0:Int)<1;decide⟩
 | k+1,hk,hne=>by
  obtain ⟨b,l,z,d⟩:=run_ok h k (by omega) fun l hl=>hne l (by omega)
  have d0:del A k≠0:=by omega
  have hpd:=b.pivot d0 (by omega) h.hW
  have hp0:stt A n k k k≠0:=by rw [hpd];exact hne k (by omega)
  have hp:0<stt A n k k k:=by have:=(l.diag (by omega)).2;omega
  have e1:∀ j,j<W→stt A n (k+1) k j=stt A n k k j:=fun j _=>if_pos (.inl rfl)
  have e2:∀ i,i<n→i≠k→∀ j,j<W→del A k*stt A n (k+1) i j=tt (stt A n k) k i j:=fun i hi hik j hj=>by
   obtain ⟨q,hq⟩:=b.quot d0 (by omega) h.hW hp0 hi hik hj
   have:stt A n (k+1) i j=(tt (stt A n k) k i j).tdiv (del A k):=if_neg (by omega)
   rw [this,hq,Int.mul_tdiv_cancel_left _ d0]
  exact ⟨b.next d0 (by omega) h.hW e1 e2,l.next (by omega) d hpd hp e1 e2 h.hW,z.next h.dg (by have:=h.hB;omega) l (by omega) d hpd hp e1 e2 h.hW,by rw [← hpd];exact hp⟩
theorem sd_mono (a:Nat→Nat) {k:Nat}:∀ n,k≤n→sd a k≤sd a n
 | 0,h=>by
  have:k=0:=by omega
  subst this;exact Nat.le_refl _
 | n+1,h=>by
  by_cases e:k=n+1
  ·rw [e];exact Nat.le_refl _
  ·have:=sd_mono a (k:=k) n (by omega)
   show _≤sd a n+a n
   omega
theorem sd_mem (a:Nat→Nat) {x:Nat}:∀ n,x<n→a x≤sd a n
 | n+1,h=>by
  show _≤sd a n+a n
  by_cases e:x=n
  ·rw [e];omega
  ·have:=sd_mem a (x:=x) n (by omega)
   omega
theorem sr_but {f:Nat→Int} {k n x:Nat} (hx:k≤x) (hn:x<n):sr k n (fun y=>if y=x then 0 else -f y)+sr k n f=f x:=by
 rw [← sr_add]
 unfold sr
 rw [sm_part (k:=0) (j:=x-k) (Nat.zero_le _) (by omega) fun c _ hne' hc=>by
  show (if k+c=x then 0 else -f (k+c))+f (k+c)=0
  rw [if_neg (by omega)];omega]
 show 0+((if k+(x-k)=x then 0 else -f (k+(x-k)))+f (k+(x-k)))=f x
 rw [show k+(x-k)=x by omega,if_pos rfl]
 omega
theorem sizes {A:Mx} {n W k:Nat} {B:Int} {a:Nat→Nat} {m:Mx} (h:Lap A n W B a) (b:BS A W n k m) (l:LB A n W k B m) (z:LZ A n W k B a m) (d:0<del A k) (hk:k≤n) :
  del A k≤1679616∧(∀ i j,i<n→j<W→ab (m i j)≤671846400000)∧(∀ x j,k≤x→x<n→j<W→ab (m x j)≤83980800000)∧(∀ i,i<n→k<n→ab (m i k)≤67184640):=by
 have hn:=h.hn
 have hW:=h.hW
 have hB:=h.hB
 have hB2:=h.hB2
 have hq:(pd a k:Int)≤1679616:=by
  have:=pd_le (a:=a) (k:=k) (by omega) (Nat.le_trans (sd_mono a n hk) h.sd)
  omega
 have hd:del A k≤1679616:=Int.le_trans z.le hq
 have diag:∀ x,k≤x→x<n→m x x≤67184640:=fun x hx hxn=>by
  have h4:=l.s4 x hx hxn
  rw [h.dg x hxn] at h4
  have ha:=sd_mem a n hxn
  have hs:=h.sd
  have:=Int.mul_le_mul hd (show (a x:Int)≤40 by omega) (by omega) (by omega)
  omega
 have off:∀ x j,k≤x→x<n→k≤j→j<n→x≠j→ab (m x j)≤m x x:=fun x j hx hxn hj hjn hne=>by
  have h2:=l.s2 x j hx hxn hj hjn hne
  have h3:=l.s3 x hx hxn
  have hz:∀ y,k≤y→y<n→0≤(fun y=>if y=x then 0 else -m x y) y:=fun y h1 h2=>by
   dsimp only
   by_cases e:y=x
   ·rw [if_pos e];exact Int.le_refl _
   ·rw [if_neg e]
    have:=l.s2 x y hx hxn h1 h2 fun h=>e h.symm
    omega
  have h5:=sr_mem (f:=fun y=>if y=x then 0 else -m x y) _ k rfl hz j hj hjn
  have h6:sr k n (fun y=>if y=x then 0 else -m x y)+sr k n (m x)≤m x x:=by
   exact Int.le_of_eq (sr_but hx hxn)
  rw [if_neg (fun h=>hne h.symm)] at h5
  unfold ab
  omega
 have low:∀ x j,k≤x→x<n→j<W→ab (m x j)≤83980800000:=fun x j hx hxn hj=>by
  by_cases hjk:j<k
  ·rw [b.sl x j hx hxn hjk];decide
  ·by_cases hjn:j<n
   ·have dx:=diag x hx hxn
    by_cases e:x=j
    ·subst e
     have:=(Int.le_total 0 (m x x))
     have hp:0≤m x x:=by
      have h3:=l.s3 x hx hxn
      have hz:∀ y,k≤y→y<n→0≤(fun y=>if y=x then 0 else -m x y) y:=fun y h1 h2=>by
       dsimp only
       by_cases e:y=x
       ·rw [if_pos e];exact Int.le_refl _
       ·rw [if_neg e]
        have:=l.s2 x y hx hxn h1 h2 fun h=>e h.symm
        omega
      have h7:=sr_pos hz
      have e:=sr_but (f:=m x) hx hxn
      omega
     unfold ab;omega
    ·have:=off x j hx hxn (by omega) hjn e
     omega
   ·have h1:=l.r1 j (by omega) hj
    have h2:=sr_mem (f:=fun x=>ab (m x j)) _ k rfl (fun x _ _=>ab_pos _) x hx hxn
    have h3:=Int.mul_le_mul hd hB2 (by omega) (by omega)
    omega
 refine ⟨hd,fun i j hi hj=>?_,low,fun i hi hkn=>?_⟩
 ·by_cases hik:i<k
  ·by_cases hjk:j<k
   ·rw [b.su i j hik hjk]
    unfold ab
    split<;>omega
   ·by_cases hjn:j<n
    ·have u1:=l.u1 i j hik (by omega) hjn
     have u2:=l.u2 i hik
     have:=sr_mem (f:=fun j=>-m i j) _ k rfl (fun j h1 h2=>by have:=l.u1 i j hik h1 h2;omega) j (by omega) hjn
     rw [sr_neg] at this
     unfold ab;omega
    ·have h1:=z.rh i j hik (by omega) hj
     have h2:(k:Int)*(pd a k:Int)≤8*1679616:=Int.mul_le_mul (by omega) hq (by omega) (by omega)
     have h3:=Int.mul_le_mul h2 hB2 (by omega) (by omega)
     omega
  ·have:=low i j (by omega) hi hj
   omega
 ·by_cases hik:i<k
  ·have u1:=l.u1 i k hik (Nat.le_refl k) hkn
   have u2:=l.u2 i hik
   have:=sr_mem (f:=fun j=>-m i j) _ k rfl (fun j h1 h2=>by have:=l.u1 i j hik h1 h2;omega) k (Nat.le_refl k) hkn
   rw [sr_neg] at this
   unfold ab;omega
  ·by_cases e:i=k
   ·have dk:=diag i (by omega) hi
    have:=(l.diag hkn).2
    subst e
    unfold ab;omega
   ·have:=off i k (by omega) hi (Nat.le_refl k) hkn e
    have:=diag i (by omega) hi
    omega
def zz (n c:Nat) (u:Nat→Int) (d:Int) (j:Nat):Int:=if j<n then u j else if j=c then -d else 0
theorem dot_zz {n c W:Nat} (f u:Nat→Int) (d:Int) (hc:n≤c) (hcW:c<W):dot W f (zz n c u d)=sm n (fun j=>f j*u j)+f c*-d:=by
 unfold dot
 rw [sm_part hc hcW fun j h1 h2 _=>by unfold zz;rw [if_neg (by omega),if_neg h2,Int.mul_zero]]
 congr 1
 ·refine sm_congr fun j hj=>?_
  unfold zz
  rw [if_pos hj]
 ·unfold zz
  rw [if_neg (by omega),if_pos rfl]
end Go.Det
namespace Go.Proofs.YthdfmkpebafpoaaGreatDoor
open Go Go.Abs Go.PE
set_option maxRecDepth 100000
section
variable {S:Cells} {w:World} {η:Eta}
theorem zi (k:IntKind):CM S w η (.d (.int k) (0:Int)) (.int k 0):=⟨rfl,VRep.int.2 ⟨rfl,by unfold IntKind.has;cases k<;>decide⟩⟩
theorem zb:CM S w η (.d .bool false) (.bool false):=⟨rfl,VRep.bool.2 rfl⟩
theorem zs:CM S w η (.d .str ([]:List UInt8)) (.string ⟨#[]⟩):=⟨rfl,VRep.str.2 ⟨rfl,Nat.zero_le _⟩⟩
end
abbrev tI:Ty:=.int .i64
abbrev tF:TI:=⟨false,1,[.l .nilF],none,.fn⟩
theorem oF {P:Program} {k:TypeId} {a b c} (h1:∀ w,(isAgg k).run P w=.ok false w) (h2:∀ w,(Go.sizeOf k).run P w=.ok 1 w) (h3:∀ w,(zeroValue k).run P w=.ok .nilFunc w) (h4:∀ w,(underlying k).run P w=.ok (.func a b c) w):TIok P k tF :=
 ⟨h1,h2,⟨_,h3,⟨[Value.nilFunc],rfl,fun S w η=>.cons (rfl) (.nil)⟩,(fun T h=>by cases h)⟩,(fun T h=>by cases h),⟨_,_,_,h4⟩⟩
abbrev ty_putlogref10_Numbers:Ty:=.pair (.list (.pair (.int .i64) (.int .i64))) (.pair (.list (.int .i64)) (.pair (.list (.pair (.int .i64) (.pair (.int .i64) (.pair (.int .i64) (.int .i64))))) (.pair (.list (.pair (.int .i64) (.pair (.int .i64) (.pair (.int .i64) (.pair (.int .i64) (.int .i64)))))) (.pair (.int .i64) (.pair (.int .i64) (.int .i64))))))
abbrev ty_api_Fix:Ty:=.pair (.int .i64) (.pair (.int .i64) (.pair (.int .i64) (.int .i64)))
abbrev ty_api_Sight:Ty:=.pair (.int .i64) (.pair (.int .i64) (.pair (.int .i64) (.pair (.int .i64) (.int .i64))))
abbrev ty_api_Control:Ty:=.pair (.int .i64) (.pair (.list (ty_api_Fix)) (.list (ty_api_Sight)))
abbrev ty_api_Least:Ty:=.pair (.list (.int .i64)) (.pair (.list (.int .i64)) (.int .i64))
abbrev ty_api_Box:Ty:=.pair (.int .i64) (.pair (.int .i64) (.pair (.int .i64) (.int .i64)))
abbrev ty_api_Place:Ty:=.pair (.int .i64) (.int .i64)
abbrev ty_integer_signed:Ty:=.pair (.bool) (.list (.int .i64))
abbrev ty_api_Bound:Ty:=.pair (.int .i64) (.pair (.int .i64) (.int .i64))
abbrev ty_api_Between:Ty:=.pair (.int .i64) (.list (ty_api_Bound))
abbrev ty_network_vector:Ty:=.pair (.int .i64) (.int .i64)
abbrev ty_network_observation:Ty:=.pair (ty_network_vector) (.pair (.int .i64) (.pair (.int .i64) (.int .i64)))
abbrev ty_unicode_utf8_acceptRange:Ty:=.pair (.int .u8) (.int .u8)
abbrev ty_errors_errorString:Ty:=.one (.str)
abbrev t2:TI:=⟨false,1,[.d (.int .i64) (0:Int)],some (.int .i64),.int .i64⟩
abbrev t3:TI:=⟨false,1,[.d (.int .i64) (0:Int)],some (.int .i64),.int .i64⟩
abbrev t4:TI:=⟨false,1,[.d .bool false],some (.bool),.bool⟩
abbrev t5:TI:=⟨false,1,[.d (.int .u8) (0:Int)],some (.int .u8),.int .u8⟩
abbrev t7:TI:=⟨true,4,[.d (.int .i64) (0:Int),.d (.int .i64) (0:Int),.d .bool false,.d (.int .u8) (0:Int)],some (.pair (.int .i64) (.pair (.int .i64) (.pair (.bool) (.int .u8)))),.other⟩
abbrev t9:TI:=⟨false,1,[.d .str ([]:List UInt8)],some (.str),.str⟩
abbrev t12:TI:=⟨false,1,[.d (.int .u64) (0:Int)],some (.int .u64),.int .u64⟩
abbrev t13:TI:=⟨true,2,[.d .str ([]:List UInt8),.d (.int .u64) (0:Int)],some (.pair (.str) (.int .u64)),.struct [(0,9,1),(1,12,1)]⟩
abbrev t15:TI:=⟨false,1,[.l .nilP],none,.ptr 241⟩
abbrev t16:TI:=⟨false,1,[.l .nilP],none,.ptr 244⟩
abbrev t17:TI:=⟨false,1,[.l .nilP],none,.ptr 251⟩
abbrev t18:TI:=⟨true,1,[.l .nilP],none,.struct [(0,17,1)]⟩
abbrev t20:TI:=⟨false,1,[.l .nilI],none,.other⟩
abbrev t21:TI:=⟨false,1,[.d (.int .i32) (0:Int)],some (.int .i32),.int .i32⟩
abbrev t22:TI:=⟨false,1,[.l .nilS],some (.list (.pair (.int .i64) (.int .i64))),.slice 47 16⟩
abbrev t23:TI:=⟨false,1,[.l .nilS],some (.list (.int .i64)),.slice 3 8⟩
abbrev t24:TI:=⟨false,1,[.l .nilS],some (.list (.pair (.int .i64) (.pair (.int .i64) (.pair (.int .i64) (.int .i64))))),.slice 68 32⟩
abbrev t25:TI:=⟨false,1,[.l .nilS],some (.list (.pair (.int .i64) (.pair (.int .i64) (.pair (.int .i64) (.pair (.int .i64) (.int .i64)))))),.slice 70 40⟩
abbrev t26:TI:=⟨true,3,[.d (.int .i64) (0:Int),.d (.int .i64) (0:Int),.d (.int .i64) (0:Int)],some (.pair (.int .i64) (.pair (.int .i64) (.int .i64))),.array 3 3⟩
abbrev t27:TI:=⟨true,7,[.l .nilS,.l .nilS,.l .nilS,.l .nilS,.d (.int .i64) (0:Int),.d (.int .i64) (0:Int),.d (.int .i64) (0:Int)],some (.pair (.list (.pair (.int .i64) (.int .i64))) (.pair (.list (.int .i64)) (.pair (.list (.pair (.int .i64) (.pair (.int .i64) (.pair (.int .i64) (.int .i64))))) (.pair (.list (.pair (.int .i64) (.pair (.int .i64) (.pair (.int .i64) (.pair (.int .i64) (.int .i64)))))) (.pair (.int .i64) (.pair (.int .i64) (.int .i64))))))),.struct [(0,22,1),(1,23,1),(2,24,1),(3,25,1),(4,26,3)]⟩
abbrev t28:TI:=⟨true,7,[.l .nilS,.l .nilS,.l .nilS,.l .nilS,.d (.int .i64) (0:Int),.d (.int .i64) (0:Int),.d (.int .i64) (0:Int)],some (ty_putlogref10_Numbers),.struct [(0,22,1),(1,23,1),(2,24,1),(3,25,1),(4,26,3)]⟩
abbrev t30:TI:=⟨false,1,[.l .nilS],some (.list (ty_api_Fix)),.slice 43 32⟩
abbrev t31:TI:=⟨false,1,[.l .nilS],some (.list (ty_api_Sight)),.slice 45 40⟩
abbrev t32:TI:=⟨true,3,[.d (.int .i64) (0:Int),.l .nilS,.l .nilS],some (.pair (.int .i64) (.pair (.list (ty_api_Fix)) (.list (ty_api_Sight)))),.struct [(0,3,1),(1,30,1),(2,31,1)]⟩
abbrev t33:TI:=⟨true,3,[.d (.int .i64) (0:Int),.l .nilS,.l .nilS],some (ty_api_Control),.struct [(0,3,1),(1,30,1),(2,31,1)]⟩
abbrev t35:TI:=⟨true,3,[.l .nilS,.l .nilS,.d (.int .i64) (0:Int)],some (.pair (.list (.int .i64)) (.pair (.list (.int .i64)) (.int .i64))),.struct [(0,23,1),(1,23,1),(2,3,1)]⟩
abbrev t36:TI:=⟨true,3,[.l .nilS,.l .nilS,.d (.int .i64) (0:Int)],some (ty_api_Least),.struct [(0,23,1),(1,23,1),(2,3,1)]⟩
abbrev t37:TI:=⟨false,1,[.d (.int .i64) (0:Int)],some (.int .i64),.int .i64⟩
abbrev t41:TI:=⟨false,1,[.l .nilS],some (.list (.list (.int .i64))),.slice 23 24⟩
abbrev t42:TI:=⟨true,4,[.d (.int .i64) (0:Int),.d (.int .i64) (0:Int),.d (.int .i64) (0:Int),.d (.int .i64) (0:Int)],some (.pair (.int .i64) (.pair (.int .i64) (.pair (.int .i64) (.int .i64)))),.struct [(0,3,1),(1,3,1),(2,3,1),(3,3,1)]⟩
abbrev t43:TI:=⟨true,4,[.d (.int .i64) (0:Int),.d (.int .i64) (0:Int),.d (.int .i64) (0:Int),.d (.int .i64) (0:Int)],some (ty_api_Fix),.struct [(0,3,1),(1,3,1),(2,3,1),(3,3,1)]⟩
abbrev t44:TI:=⟨true,5,[.d (.int .i64) (0:Int),.d (.int .i64) (0:Int),.d (.int .i64) (0:Int),.d (.int .i64) (0:Int),.d (.int .i64) (0:Int)],some (.pair (.int .i64) (.pair (.int .i64) (.pair (.int .i64) (.pair (.int .i64) (.int .i64))))),.struct [(0,3,1),(1,3,1),(2,3,1),(3,3,1),(4,3,1)]⟩
abbrev t45:TI:=⟨true,5,[.d (.int .i64) (0:Int),.d (.int .i64) (0:Int),.d (.int .i64) (0:Int),.d (.int .i64) (0:Int),.d (.int .i64) (0:Int)],some (ty_api_Sight),.struct [(0,3,1),(1,3,1),(2,3,1),(3,3,1),(4,3,1)]⟩
abbrev t47:TI:=⟨true,2,[.d (.int .i64) (0:Int),.d (.int .i64) (0:Int)],some (.pair (.int .i64) (.int .i64)),.array 2 3⟩
abbrev t54:TI:=⟨true,4,[.d (.int .i64) (0:Int),.d (.int .i64) (0:Int),.d (.int .i64) (0:Int),.d (.int .i64) (0:Int)],some (.pair (.int .i64) (.pair (.int .i64) (.pair (.int .i64) (.int .i64)))),.struct [(0,3,1),(1,3,1),(2,3,1),(3,3,1)]⟩
abbrev t55:TI:=⟨true,4,[.d (.int .i64) (0:Int),.d (.int .i64) (0:Int),.d (.int .i64) (0:Int),.d (.int .i64) (0:Int)],some (ty_api_Box),.struct [(0,3,1),(1,3,1),(2,3,1),(3,3,1)]⟩
abbrev t63:TI:=⟨true,2,[.d (.int .i64) (0:Int),.d (.int .i64) (0:Int)],some (.pair (.int .i64) (.int .i64)),.struct [(0,3,1),(1,3,1)]⟩
abbrev t64:TI:=⟨true,2,[.d (.int .i64) (0:Int),.d (.int .i64) (0:Int)],some (ty_api_Place),.struct [(0,3,1),(1,3,1)]⟩
abbrev t65:TI:=⟨false,1,[.l .nilS],some (.list (ty_api_Place)),.slice 64 16⟩
abbrev t68:TI:=⟨true,4,[.d (.int .i64) (0:Int),.d (.int .i64) (0:Int),.d (.int .i64) (0:Int),.d (.int .i64) (0:Int)],some (.pair (.int .i64) (.pair (.int .i64) (.pair (.int .i64) (.int .i64)))),.array 4 3⟩
abbrev t70:TI:=⟨true,5,[.d (.int .i64) (0:Int),.d (.int .i64) (0:Int),.d (.int .i64) (0:Int),.d (.int .i64) (0:Int),.d (.int .i64) (0:Int)],some (.pair (.int .i64) (.pair (.int .i64) (.pair (.int .i64) (.pair (.int .i64) (.int .i64))))),.array 5 3⟩
abbrev t72:TI:=⟨false,1,[.l .nilP],none,.ptr 110⟩
abbrev t75:TI:=⟨true,10,[.d (.int .i64) (0:Int),.d (.int .i64) (0:Int),.d (.int .i64) (0:Int),.d (.int .i64) (0:Int),.d (.int .i64) (0:Int),.d (.int .i64) (0:Int),.d (.int .i64) (0:Int),.d (.int .i64) (0:Int),.d (.int .i64) (0:Int),.d (.int .i64) (0:Int)],none,.array 10 3⟩
abbrev t76:TI:=⟨false,1,[.l .nilS],some (.list (.bool)),.slice 4 1⟩
abbrev t78:TI:=⟨false,1,[.l .nilS],some (.list (.int .i64)),.slice 3 8⟩
abbrev t79:TI:=⟨true,2,[.d .bool false,.l .nilS],some (.pair (.bool) (.list (.int .i64))),.struct [(0,4,1),(1,78,1)]⟩
abbrev t80:TI:=⟨true,2,[.d .bool false,.l .nilS],some (ty_integer_signed),.struct [(0,4,1),(1,78,1)]⟩
abbrev t87:TI:=⟨false,1,[.l .nilS],some (.list (ty_api_Bound)),.slice 134 24⟩
abbrev t88:TI:=⟨true,2,[.d (.int .i64) (0:Int),.l .nilS],some (.pair (.int .i64) (.list (ty_api_Bound))),.struct [(0,3,1),(1,87,1)]⟩
abbrev t89:TI:=⟨true,2,[.d (.int .i64) (0:Int),.l .nilS],some (ty_api_Between),.struct [(0,3,1),(1,87,1)]⟩
abbrev t90:TI:=⟨true,4,[.d (.int .i64) (0:Int),.l .nilS,.d (.int .i64) (0:Int),.l .nilS],some (.pair (ty_api_Between) (ty_api_Between)),.array 2 89⟩
abbrev t101:TI:=⟨true,2,[.d (.int .i64) (0:Int),.d (.int .i64) (0:Int)],some (.pair (.int .i64) (.int .i64)),.struct [(0,3,1),(1,3,1)]⟩
abbrev t102:TI:=⟨true,2,[.d (.int .i64) (0:Int),.d (.int .i64) (0:Int)],some (ty_network_vector),.struct [(0,3,1),(1,3,1)]⟩
abbrev t103:TI:=⟨true,5,[.d (.int .i64) (0:Int),.d (.int .i64) (0:Int),.d (.int .i64) (0:Int),.d (.int .i64) (0:Int),.d (.int .i64) (0:Int)],some (.pair (ty_network_vector) (.pair (.int .i64) (.pair (.int .i64) (.int .i64)))),.struct [(0,102,2),(2,3,1),(3,3,1),(4,3,1)]⟩
abbrev t104:TI:=⟨true,5,[.d (.int .i64) (0:Int),.d (.int .i64) (0:Int),.d (.int .i64) (0:Int),.d (.int .i64) (0:Int),.d (.int .i64) (0:Int)],some (ty_network_observation),.struct [(0,102,2),(2,3,1),(3,3,1),(4,3,1)]⟩
abbrev t109:TI:=⟨true,80,[.d (.int .i64) (0:Int),.d (.int .i64) (0:Int),.d (.int .i64) (0:Int),.d (.int .i64) (0:Int),.d (.int .i64) (0:Int),.d (.int .i64) (0:Int),.d (.int .i64) (0:Int),.d (.int .i64) (0:Int),.d (.int .i64) (0:Int),.d (.int .i64) (0:Int),.d (.int .i64) (0:Int),.d (.int .i64) (0:Int),.d (.int .i64) (0:Int),.d (.int .i64) (0:Int),.d (.int .i64) (0:Int),.d (.int .i64) (0:Int),.d (.int .i64) (0:Int),.d (.int .i64) (0:Int),.d (.int .i64) (0:Int),.d (.int .i64) (0:Int),.d (.int .i64) (0:Int),.d (.int .i64) (0:Int),.d (.int .i64) (0:Int),.d (.int .i64) (0:Int),.d (.int .i64) (0:Int),.d (.int .i64) (0:Int),.d (.int .i64) (0:Int),.d (.int .i64) (0:Int),.d (.int .i64) (0:Int),.d (.int .i64) (0:Int),.d (.int .i64) (0:Int),.d (.int .i64) (0:Int),.d (.int .i64) (0:Int),.d (.int .i64) (0:Int),.d (.int .i64) (0:Int),.d (.int .i64) (0:Int),.d (.int .i64) (0:Int),.d (.int .i64) (0:Int),.d (.int .i64) (0:Int),.d (.int .i64) (0:Int),.d (.int .i64) (0:Int),.d (.int .i64) (0:Int),.d (.int .i64) (0:Int),.d (.int .i64) (0:Int),.d (.int .i64) (0:Int),.d (.int .i64) (0:Int),.d (.int .i64) (0:Int),.d (.int .i64) (0:Int),.d (.int .i64) (0:Int),.d (.int .i64) (0:Int),.d (.int .i64) (0:Int),.d (.int .i64) (0:Int),.d (.int .i64) (0:Int),.d (.int .i64) (0:Int),.d (.int .i64) (0:Int),.d (.int .i64) (0:Int),.d (.int .i64) (0:Int),.d (.int .i64) (0:Int),.d (.int .i64) (0:Int),.d (.int .i64) (0:Int),.d (.int .i64) (0:Int),.d (.int .i64) (0:Int),.d (.int .i64) (0:Int),.d (.int .i64) (0:Int),.d (.int .i64) (0:Int),.d (.int .i64) (0:Int),.d (.int .i64) (0:Int),.d (.int .i64) (0:Int),.d (.int .i64) (0:Int),.d (.int .i64) (0:Int),.d (.int .i64) (0:Int),.d (.int .i64) (0:Int),.d (.int .i64) (0:Int),.d (.int .i64) (0:Int),.d (.int .i64) (0:Int),.d (.int .i64) (0:Int),.d (.int .i64) (0:Int),.d (.int .i64) (0:Int),.d (.int .i64) (0:Int),.d (.int .i64) (0:Int)],none,.array 8 75⟩
abbrev t110:TI:=⟨true,80,[.d (.int .i64) (0:Int),.d (.int .i64) (0:Int),.d (.int .i64) (0:Int),.d (.int .i64) (0:Int),.d (.int .i64) (0:Int),.d (.int .i64) (0:Int),.d (.int .i64) (0:Int),.d (.int .i64) (0:Int),.d (.int .i64) (0:Int),.d (.int .i64) (0:Int),.d (.int .i64) (0:Int),.d (.int .i64) (0:Int),.d (.int .i64) (0:Int),.d (.int .i64) (0:Int),.d (.int .i64) (0:Int),.d (.int .i64) (0:Int),.d (.int .i64) (0:Int),.d (.int .i64) (0:Int),.d (.int .i64) (0:Int),.d (.int .i64) (0:Int),.d (.int .i64) (0:Int),.d (.int .i64) (0:Int),.d (.int .i64) (0:Int),.d (.int .i64) (0:Int),.d (.int .i64) (0:Int),.d (.int .i64) (0:Int),.d (.int .i64) (0:Int),.d (.int .i64) (0:Int),.d (.int .i64) (0:Int),.d (.int .i64) (0:Int),.d (.int .i64) (0:Int),.d (.int .i64) (0:Int),.d (.int .i64) (0:Int),.d (.int .i64) (0:Int),.d (.int .i64) (0:Int),.d (.int .i64) (0:Int),.d (.int .i64) (0:Int),.d (.int .i64) (0:Int),.d (.int .i64) (0:Int),.d (.int .i64) (0:Int),.d (.int .i64) (0:Int),.d (.int .i64) (0:Int),.d (.int .i64) (0:Int),.d (.int .i64) (0:Int),.d (.int .i64) (0:Int),.d (.int .i64) (0:Int),.d (.int .i64) (0:Int),.d (.int .i64) (0:Int),.d (.int .i64) (0:Int),.d (.int .i64) (0:Int),.d (.int .i64) (0:Int),.d (.int .i64) (0:Int),.d (.int .i64) (0:Int),.d (.int .i64) (0:Int),.d (.int .i64) (0:Int),.d (.int .i64) (0:Int),.d (.int .i64) (0:Int),.d (.int .i64) (0:Int),.d (.int .i64) (0:Int),.d (.int .i64) (0:Int),.d (.int .i64) (0:Int),.d (.int .i64) (0:Int),.d (.int .i64) (0:Int),.d (.int .i64) (0:Int),.d (.int .i64) (0:Int),.d (.int .i64) (0:Int),.d (.int .i64) (0:Int),.d (.int .i64) (0:Int),.d (.int .i64) (0:Int),.d (.int .i64) (0:Int),.d (.int .i64) (0:Int),.d (.int .i64) (0:Int),.d (.int .i64) (0:Int),.d (.int .i64) (0:Int),.d (.int .i64) (0:Int),.d (.int .i64) (0:Int),.d (.int .i64) (0:Int),.d (.int .i64) (0:Int),.d (.int .i64) (0:Int),.d (.int .i64) (0:Int)],none,.array 8 75⟩
abbrev t119:TI:=⟨false,1,[.l .nilP],none,.ptr 122⟩
abbrev t120:TI:=⟨false,1,[.l .nilS],some (.list (.int .u8)),.slice 5 1⟩
abbrev t121:TI:=⟨true,2,[.l .nilP,.l .nilS],none,.struct [(0,119,1),(1,120,1)]⟩
abbrev t124:TI:=⟨false,1,[.l .nilI],none,.other⟩
abbrev t125:TI:=⟨false,1,[.l .nilI],none,.other⟩
abbrev t132:TI:=⟨false,1,[.l .nilS],none,.slice 131 8⟩
abbrev t133:TI:=⟨true,3,[.d (.int .i64) (0:Int),.d (.int .i64) (0:Int),.d (.int .i64) (0:Int)],some (.pair (.int .i64) (.pair (.int .i64) (.int .i64))),.struct [(0,3,1),(1,3,1),(2,3,1)]⟩
abbrev t134:TI:=⟨true,3,[.d (.int .i64) (0:Int),.d (.int .i64) (0:Int),.d (.int .i64) (0:Int)],some (ty_api_Bound),.struct [(0,3,1),(1,3,1),(2,3,1)]⟩
abbrev t138:TI:=⟨false,1,[.l .nilS],some (.list (.list (.list (.int .i64)))),.slice 41 24⟩
abbrev t145:TI:=⟨false,1,[.d (.int .u64) (0:Int)],some (.int .u64),.int .u64⟩
abbrev t159:TI:=⟨false,1,[.l .nilP],none,.ptr 5⟩
abbrev t169:TI:=⟨false,1,[.d (.int .i64) (0:Int)],some (.int .i64),.int .i64⟩
abbrev t177:TI:=⟨false,1,[.d (.int .u32) (0:Int)],some (.int .u32),.int .u32⟩
abbrev t179:TI:=⟨false,1,[.d (.int .u64) (0:Int)],some (.int .u64),.int .u64⟩
abbrev t180:TI:=⟨true,24,[.d (.int .u8) (0:Int),.d (.int .u8) (0:Int),.d (.int .u8) (0:Int),.d (.int .u8) (0:Int),.d (.int .u8) (0:Int),.d (.int .u8) (0:Int),.d (.int .u8) (0:Int),.d (.int .u8) (0:Int),.d (.int .u8) (0:Int),.d (.int .u8) (0:Int),.d (.int .u8) (0:Int),.d (.int .u8) (0:Int),.d (.int .u8) (0:Int),.d (.int .u8) (0:Int),.d (.int .u8) (0:Int),.d (.int .u8) (0:Int),.d (.int .u8) (0:Int),.d (.int .u8) (0:Int),.d (.int .u8) (0:Int),.d (.int .u8) (0:Int),.d (.int .u8) (0:Int),.d (.int .u8) (0:Int),.d (.int .u8) (0:Int),.d (.int .u8) (0:Int)],none,.array 24 5⟩
abbrev t190:TI:=⟨false,1,[.l .nilP],none,.ptr 186⟩
abbrev t198:TI:=⟨false,1,[.d (.int .u64) (0:Int)],some (.int .u64),.int .u64⟩
abbrev t202:TI:=⟨false,1,[.l .nilP],none,.ptr 3⟩
abbrev t205:TI:=⟨true,20,[.d (.int .u64) (0:Int),.d (.int .u64) (0:Int),.d (.int .u64) (0:Int),.d (.int .u64) (0:Int),.d (.int .u64) (0:Int),.d (.int .u64) (0:Int),.d (.int .u64) (0:Int),.d (.int .u64) (0:Int),.d (.int .u64) (0:Int),.d (.int .u64) (0:Int),.d (.int .u64) (0:Int),.d (.int .u64) (0:Int),.d (.int .u64) (0:Int),.d (.int .u64) (0:Int),.d (.int .u64) (0:Int),.d (.int .u64) (0:Int),.d (.int .u64) (0:Int),.d (.int .u64) (0:Int),.d (.int .u64) (0:Int),.d (.int .u64) (0:Int)],none,.array 20 179⟩
abbrev t206:TI:=⟨true,65,[.d (.int .u8) (0:Int),.d (.int .u8) (0:Int),.d (.int .u8) (0:Int),.d (.int .u8) (0:Int),.d (.int .u8) (0:Int),.d (.int .u8) (0:Int),.d (.int .u8) (0:Int),.d (.int .u8) (0:Int),.d (.int .u8) (0:Int),.d (.int .u8) (0:Int),.d (.int .u8) (0:Int),.d (.int .u8) (0:Int),.d (.int .u8) (0:Int),.d (.int .u8) (0:Int),.d (.int .u8) (0:Int),.d (.int .u8) (0:Int),.d (.int .u8) (0:Int),.d (.int .u8) (0:Int),.d (.int .u8) (0:Int),.d (.int .u8) (0:Int),.d (.int .u8) (0:Int),.d (.int .u8) (0:Int),.d (.int .u8) (0:Int),.d (.int .u8) (0:Int),.d (.int .u8) (0:Int),.d (.int .u8) (0:Int),.d (.int .u8) (0:Int),.d (.int .u8) (0:Int),.d (.int .u8) (0:Int),.d (.int .u8) (0:Int),.d (.int .u8) (0:Int),.d (.int .u8) (0:Int),.d (.int .u8) (0:Int),.d (.int .u8) (0:Int),.d (.int .u8) (0:Int),.d (.int .u8) (0:Int),.d (.int .u8) (0:Int),.d (.int .u8) (0:Int),.d (.int .u8) (0:Int),.d (.int .u8) (0:Int),.d (.int .u8) (0:Int),.d (.int .u8) (0:Int),.d (.int .u8) (0:Int),.d (.int .u8) (0:Int),.d (.int .u8) (0:Int),.d (.int .u8) (0:Int),.d (.int .u8) (0:Int),.d (.int .u8) (0:Int),.d (.int .u8) (0:Int),.d (.int .u8) (0:Int),.d (.int .u8) (0:Int),.d (.int .u8) (0:Int),.d (.int .u8) (0:Int),.d (.int .u8) (0:Int),.d (.int .u8) (0:Int),.d (.int .u8) (0:Int),.d (.int .u8) (0:Int),.d (.int .u8) (0:Int),.d (.int .u8) (0:Int),.d (.int .u8) (0:Int),.d (.int .u8) (0:Int),.d (.int .u8) (0:Int),.d (.int .u8) (0:Int),.d (.int .u8) (0:Int),.d (.int .u8) (0:Int)],none,.array 65 5⟩
abbrev t214:TI:=⟨false,1,[.l .nilP],none,.ptr 226⟩
abbrev t218:TI:=⟨false,1,[.l .nilP],none,.ptr 198⟩
abbrev t225:TI:=⟨true,3,[.d .str ([]:List UInt8),.d .str ([]:List UInt8),.l .nilI],none,.struct [(0,9,1),(1,9,1),(2,125,1)]⟩
abbrev t226:TI:=⟨true,3,[.d .str ([]:List UInt8),.d .str ([]:List UInt8),.l .nilI],none,.struct [(0,9,1),(1,9,1),(2,125,1)]⟩
abbrev t228:TI:=⟨true,32,[.d (.int .u8) (0:Int),.d (.int .u8) (0:Int),.d (.int .u8) (0:Int),.d (.int .u8) (0:Int),.d (.int .u8) (0:Int),.d (.int .u8) (0:Int),.d (.int .u8) (0:Int),.d (.int .u8) (0:Int),.d (.int .u8) (0:Int),.d (.int .u8) (0:Int),.d (.int .u8) (0:Int),.d (.int .u8) (0:Int),.d (.int .u8) (0:Int),.d (.int .u8) (0:Int),.d (.int .u8) (0:Int),.d (.int .u8) (0:Int),.d (.int .u8) (0:Int),.d (.int .u8) (0:Int),.d (.int .u8) (0:Int),.d (.int .u8) (0:Int),.d (.int .u8) (0:Int),.d (.int .u8) (0:Int),.d (.int .u8) (0:Int),.d (.int .u8) (0:Int),.d (.int .u8) (0:Int),.d (.int .u8) (0:Int),.d (.int .u8) (0:Int),.d (.int .u8) (0:Int),.d (.int .u8) (0:Int),.d (.int .u8) (0:Int),.d (.int .u8) (0:Int),.d (.int .u8) (0:Int)],none,.array 32 5⟩
abbrev t229:TI:=⟨true,64,[.d (.int .u8) (0:Int),.d (.int .u8) (0:Int),.d (.int .u8) (0:Int),.d (.int .u8) (0:Int),.d (.int .u8) (0:Int),.d (.int .u8) (0:Int),.d (.int .u8) (0:Int),.d (.int .u8) (0:Int),.d (.int .u8) (0:Int),.d (.int .u8) (0:Int),.d (.int .u8) (0:Int),.d (.int .u8) (0:Int),.d (.int .u8) (0:Int),.d (.int .u8) (0:Int),.d (.int .u8) (0:Int),.d (.int .u8) (0:Int),.d (.int .u8) (0:Int),.d (.int .u8) (0:Int),.d (.int .u8) (0:Int),.d (.int .u8) (0:Int),.d (.int .u8) (0:Int),.d (.int .u8) (0:Int),.d (.int .u8) (0:Int),.d (.int .u8) (0:Int),.d (.int .u8) (0:Int),.d (.int .u8) (0:Int),.d (.int .u8) (0:Int),.d (.int .u8) (0:Int),.d (.int .u8) (0:Int),.d (.int .u8) (0:Int),.d (.int .u8) (0:Int),.d (.int .u8) (0:Int),.d (.int .u8) (0:Int),.d (.int .u8) (0:Int),.d (.int .u8) (0:Int),.d (.int .u8) (0:Int),.d (.int .u8) (0:Int),.d (.int .u8) (0:Int),.d (.int .u8) (0:Int),.d (.int .u8) (0:Int),.d (.int .u8) (0:Int),.d (.int .u8) (0:Int),.d (.int .u8) (0:Int),.d (.int .u8) (0:Int),.d (.int .u8) (0:Int),.d (.int .u8) (0:Int),.d (.int .u8) (0:Int),.d (.int .u8) (0:Int),.d (.int .u8) (0:Int),.d (.int .u8) (0:Int),.d (.int .u8) (0:Int),.d (.int .u8) (0:Int),.d (.int .u8) (0:Int),.d (.int .u8) (0:Int),.d (.int .u8) (0:Int),.d (.int .u8) (0:Int),.d (.int .u8) (0:Int),.d (.int .u8) (0:Int),.d (.int .u8) (0:Int),.d (.int .u8) (0:Int),.d (.int .u8) (0:Int),.d (.int .u8) (0:Int),.d (.int .u8) (0:Int),.d (.int .u8) (0:Int)],none,.array 64 5⟩
abbrev t231:TI:=⟨true,2,[.d (.int .u8) (0:Int),.d (.int .u8) (0:Int)],some (.pair (.int .u8) (.int .u8)),.struct [(0,5,1),(1,5,1)]⟩
abbrev t232:TI:=⟨true,2,[.d (.int .u8) (0:Int),.d (.int .u8) (0:Int)],some (ty_unicode_utf8_acceptRange),.struct [(0,5,1),(1,5,1)]⟩
abbrev t233:TI:=⟨true,32,[.d (.int .u8) (0:Int),.d (.int .u8) (0:Int),.d (.int .u8) (0:Int),.d (.int .u8) (0:Int),.d (.int .u8) (0:Int),.d (.int .u8) (0:Int),.d (.int .u8) (0:Int),.d (.int .u8) (0:Int),.d (.int .u8) (0:Int),.d (.int .u8) (0:Int),.d (.int .u8) (0:Int),.d (.int .u8) (0:Int),.d (.int .u8) (0:Int),.d (.int .u8) (0:Int),.d (.int .u8) (0:Int),.d (.int .u8) (0:Int),.d (.int .u8) (0:Int),.d (.int .u8) (0:Int),.d (.int .u8) (0:Int),.d (.int .u8) (0:Int),.d (.int .u8) (0:Int),.d (.int .u8) (0:Int),.d (.int .u8) (0:Int),.d (.int .u8) (0:Int),.d (.int .u8) (0:Int),.d (.int .u8) (0:Int),.d (.int .u8) (0:Int),.d (.int .u8) (0:Int),.d (.int .u8) (0:Int),.d (.int .u8) (0:Int),.d (.int .u8) (0:Int),.d (.int .u8) (0:Int)],none,.array 16 232⟩
abbrev t237:TI:=⟨false,1,[.l .nilP],none,.ptr 239⟩
abbrev t238:TI:=⟨true,1,[.d .str ([]:List UInt8)],some (.one (.str)),.struct [(0,9,1)]⟩
abbrev t239:TI:=⟨true,1,[.d .str ([]:List UInt8)],some (ty_errors_errorString),.struct [(0,9,1)]⟩
abbrev t240:TI:=⟨true,4,[.l .nilP,.l .nilP,.l .nilP,.d .str ([]:List UInt8)],none,.struct [(0,17,1),(1,17,1),(2,17,1),(3,9,1)]⟩
abbrev t243:TI:=⟨true,0,[],none,.other⟩
abbrev t250:TI:=⟨true,11,[.d (.int .u64) (0:Int),.d (.int .u64) (0:Int),.d (.int .u32) (0:Int),.d (.int .u8) (0:Int),.d (.int .u8) (0:Int),.d (.int .u8) (0:Int),.d (.int .u8) (0:Int),.l .nilF,.l .nilP,.d (.int .i32) (0:Int),.d (.int .i32) (0:Int)],none,.other⟩
def tyTab:List (TypeId×TI):=[(1,tF),(2,t2),(3,t3),(4,t4),(5,t5),(7,t7),(9,t9),(12,t12),(13,t13),(15,t15),(16,t16),(17,t17),(18,t18),(20,t20),(21,t21),(22,t22),(23,t23),(24,t24),(25,t25),(26,t26),(27,t27),(28,t28),(30,t30),(31,t31),(32,t32),(33,t33),(35,t35),(36,t36),(37,t37),(41,t41),(42,t42),(43,t43),(44,t44),(45,t45),(46,tF),(47,t47),(54,t54),(55,t55),(63,t63),(64,t64),(65,t65),(68,t68),(70,t70),(72,t72),(74,tF),(75,t75),(76,t76),(78,t78),(79,t79),(80,t80),(87,t87),(88,t88),(89,t89),(90,t90),(96,tF),(99,tF),(101,t101),(102,t102),(103,t103),(104,t104),(105,tF),(106,tF),(109,t109),(110,t110),(111,tF),(116,tF),(119,t119),(120,t120),(121,t121),(124,t124),(125,t125),(131,tF),(132,t132),(133,t133),(134,t134),(138,t138),(140,tF),(145,t145),(147,tF),(153,tF),(159,t159),(163,tF),(165,tF),(169,t169),(177,t177),(179,t179),(180,t180),(190,t190),(198,t198),(202,t202),(205,t205),(206,t206),(214,t214),(218,t218),(225,t225),(226,t226),(228,t228),(229,t229),(231,t231),(232,t232),(233,t233),(237,t237),(238,t238),(239,t239),(240,t240),(243,t243),(250,t250)]
theorem ti2:TIok Tryz.prog 2 t2 :=
 ⟨Tryz.isAgg2,Tryz.sizeOf2,⟨_,Tryz.zeroValue2,⟨[Value.int IntKind.i64 0],rfl,fun S w η=>.cons (zi _) (.nil)⟩,(fun T h=>by cases h;rfl)⟩,(fun T h=>by cases h;exact ⟨rfl,rfl⟩),Tryz.runUnderlying2⟩
theorem ti3:TIok Tryz.prog 3 t3 :=
 ⟨Tryz.isAgg3,Tryz.sizeOf3,⟨_,Tryz.zeroValue3,⟨[Value.int IntKind.i64 0],rfl,fun S w η=>.cons (zi _) (.nil)⟩,(fun T h=>by cases h;rfl)⟩,(fun T h=>by cases h;exact ⟨rfl,rfl⟩),Tryz.runUnderlying3⟩
theorem ti4:TIok Tryz.prog 4 t4 :=
 ⟨Tryz.isAgg4,Tryz.sizeOf4,⟨_,Tryz.zeroValue4,⟨[Value.bool false],rfl,fun S w η=>.cons (zb) (.nil)⟩,(fun T h=>by cases h;rfl)⟩,(fun T h=>by cases h;exact ⟨rfl,rfl⟩),Tryz.runUnderlying4⟩
theorem ti5:TIok Tryz.prog 5 t5 :=
 ⟨Tryz.isAgg5,Tryz.sizeOf5,⟨_,Tryz.zeroValue5,⟨[Value.int IntKind.u8 0],rfl,fun S w η=>.cons (zi _) (.nil)⟩,(fun T h=>by cases h;rfl)⟩,(fun T h=>by cases h;exact ⟨rfl,rfl⟩),Tryz.runUnderlying5⟩
theorem ti7:TIok Tryz.prog 7 t7 :=
 ⟨Tryz.isAgg7,Tryz.sizeOf7,⟨_,Tryz.zeroValue7,⟨[Value.int IntKind.i64 0,Value.int IntKind.i64 0,Value.bool false,Value.int IntKind.u8 0],rfl,fun S w η=>.cons (zi _) (.cons (zi _) (.cons (zb) (.cons (zi _) (.nil))))⟩,(fun T h=>by cases h;rfl)⟩,(fun T h=>by cases h;exact ⟨rfl,rfl⟩),trivial⟩
theorem ti9:TIok Tryz.prog 9 t9 :=
 ⟨Tryz.isAgg9,Tryz.sizeOf9,⟨_,Tryz.zeroValue9,⟨[Value.string ⟨#[]⟩],rfl,fun S w η=>.cons (zs) (.nil)⟩,(fun T h=>by cases h;rfl)⟩,(fun T h=>by cases h;exact ⟨rfl,rfl⟩),Tryz.runUnderlying9⟩
theorem ti12:TIok Tryz.prog 12 t12 :=
 ⟨Tryz.isAgg12,Tryz.sizeOf12,⟨_,Tryz.zeroValue12,⟨[Value.int IntKind.u64 0],rfl,fun S w η=>.cons (zi _) (.nil)⟩,(fun T h=>by cases h;rfl)⟩,(fun T h=>by cases h;exact ⟨rfl,rfl⟩),Tryz.runUnderlying12⟩
theorem ti13:TIok Tryz.prog 13 t13 :=
 ⟨Tryz.isAgg13,Tryz.sizeOf13,⟨_,Tryz.zeroValue13,⟨[Value.string ⟨#[]⟩,Value.int IntKind.u64 0],rfl,fun S w η=>.cons (zs) (.cons (zi _) (.nil))⟩,(fun T h=>by cases h;rfl)⟩,(fun T h=>by cases h;exact ⟨rfl,rfl⟩),⟨_,Tryz.runUnderlying13,rfl,fun w=>by simp [Tryz.sizeOf12,Tryz.sizeOf9]⟩⟩
theorem ti15:TIok Tryz.prog 15 t15 :=
 ⟨Tryz.isAgg15,Tryz.sizeOf15,⟨_,Tryz.zeroValue15,⟨[Value.pointer none],rfl,fun S w η=>.cons (rfl) (.nil)⟩,(fun T h=>by cases h)⟩,(fun T h=>by cases h),Tryz.runUnderlying15⟩
theorem ti16:TIok Tryz.prog 16 t16 :=
 ⟨Tryz.isAgg16,Tryz.sizeOf16,⟨_,Tryz.zeroValue16,⟨[Value.pointer none],rfl,fun S w η=>.cons (rfl) (.nil)⟩,(fun T h=>by cases h)⟩,(fun T h=>by cases h),Tryz.runUnderlying16⟩
theorem ti17:TIok Tryz.prog 17 t17 :=
 ⟨Tryz.isAgg17,Tryz.sizeOf17,⟨_,Tryz.zeroValue17,⟨[Value.pointer none],rfl,fun S w η=>.cons (rfl) (.nil)⟩,(fun T h=>by cases h)⟩,(fun T h=>by cases h),Tryz.runUnderlying17⟩
theorem ti18:TIok Tryz.prog 18 t18 :=
 ⟨Tryz.isAgg18,Tryz.sizeOf18,⟨_,Tryz.zeroValue18,⟨[Value.pointer none],rfl,fun S w η=>.cons (rfl) (.nil)⟩,(fun T h=>by cases h)⟩,(fun T h=>by cases h),⟨_,Tryz.runUnderlying18,rfl,fun w=>by simp [Tryz.sizeOf17]⟩⟩
theorem ti20:TIok Tryz.prog 20 t20 :=
 ⟨Tryz.isAgg20,Tryz.sizeOf20,⟨_,Tryz.zeroValue20,⟨[Value.nilIface],rfl,fun S w η=>.cons (rfl) (.nil)⟩,(fun T h=>by cases h)⟩,(fun T h=>by cases h),trivial⟩
theorem ti21:TIok Tryz.prog 21 t21 :=
 ⟨Tryz.isAgg21,Tryz.sizeOf21,⟨_,Tryz.zeroValue21,⟨[Value.int IntKind.i32 0],rfl,fun S w η=>.cons (zi _) (.nil)⟩,(fun T h=>by cases h;rfl)⟩,(fun T h=>by cases h;exact ⟨rfl,rfl⟩),Tryz.runUnderlying21⟩
theorem ti22:TIok Tryz.prog 22 t22 :=
 ⟨Tryz.isAgg22,Tryz.sizeOf22,⟨_,Tryz.zeroValue22,⟨[Value.slice none 0 0],rfl,fun S w η=>.cons (rfl) (.nil)⟩,(fun T h=>by cases h;rfl)⟩,(fun T h=>by cases h;exact ⟨rfl,rfl⟩),⟨Tryz.underlying22,by decide,Tryz.t47,_,rfl,rfl,rfl,Tryz.zeroValue47,Tryz.sizeOf47⟩⟩
theorem ti23:TIok Tryz.prog 23 t23 :=
 ⟨Tryz.isAgg23,Tryz.sizeOf23,⟨_,Tryz.zeroValue23,⟨[Value.slice none 0 0],rfl,fun S w η=>.cons (rfl) (.nil)⟩,(fun T h=>by cases h;rfl)⟩,(fun T h=>by cases h;exact ⟨rfl,rfl⟩),⟨Tryz.underlying23,by decide,Tryz.t3,_,rfl,rfl,rfl,Tryz.zeroValue3,Tryz.sizeOf3⟩⟩
theorem ti24:TIok Tryz.prog 24 t24 :=
 ⟨Tryz.isAgg24,Tryz.sizeOf24,⟨_,Tryz.zeroValue24,⟨[Value.slice none 0 0],rfl,fun S w η=>.cons (rfl) (.nil)⟩,(fun T h=>by cases h;rfl)⟩,(fun T h=>by cases h;exact ⟨rfl,rfl⟩),⟨Tryz.underlying24,by decide,Tryz.t68,_,rfl,rfl,rfl,Tryz.zeroValue68,Tryz.sizeOf68⟩⟩
theorem ti25:TIok Tryz.prog 25 t25 :=
 ⟨Tryz.isAgg25,Tryz.sizeOf25,⟨_,Tryz.zeroValue25,⟨[Value.slice none 0 0],rfl,fun S w η=>.cons (rfl) (.nil)⟩,(fun T h=>by cases h;rfl)⟩,(fun T h=>by cases h;exact ⟨rfl,rfl⟩),⟨Tryz.underlying25,by decide,Tryz.t70,_,rfl,rfl,rfl,Tryz.zeroValue70,Tryz.sizeOf70⟩⟩
theorem ti26:TIok Tryz.prog 26 t26 :=
 ⟨Tryz.isAgg26,Tryz.sizeOf26,⟨_,Tryz.zeroValue26,⟨[Value.int IntKind.i64 0,Value.int IntKind.i64 0,Value.int IntKind.i64 0],rfl,fun S w η=>.cons (zi _) (.cons (zi _) (.cons (zi _) (.nil)))⟩,(fun T h=>by cases h;rfl)⟩,(fun T h=>by cases h;exact ⟨rfl,rfl⟩),Tryz.runUnderlying26⟩
theorem ti27:TIok Tryz.prog 27 t27 :=
 ⟨Tryz.isAgg27,Tryz.sizeOf27,⟨_,Tryz.zeroValue27,⟨[Value.slice none 0 0,Value.slice none 0 0,Value.slice none 0 0,Value.slice none 0 0,Value.int IntKind.i64 0,Value.int IntKind.i64 0,Value.int IntKind.i64 0],rfl,fun S w η=>.cons (rfl) (.cons (rfl) (.cons (rfl) (.cons (rfl) (.cons (zi _) (.cons (zi _) (.cons (zi _) (.nil)))))))⟩,(fun T h=>by cases h;rfl)⟩,(fun T h=>by cases h;exact ⟨rfl,rfl⟩),⟨_,Tryz.runUnderlying27,rfl,fun w=>by simp [Tryz.sizeOf22,Tryz.sizeOf23,Tryz.sizeOf24,Tryz.sizeOf25,Tryz.sizeOf26]⟩⟩
theorem ti28:TIok Tryz.prog 28 t28 :=
 ⟨Tryz.isAgg28,Tryz.sizeOf28,⟨_,Tryz.zeroValue28,⟨[Value.slice none 0 0,Value.slice none 0 0,Value.slice none 0 0,Value.slice none 0 0,Value.int IntKind.i64 0,Value.int IntKind.i64 0,Value.int IntKind.i64 0],rfl,fun S w η=>.cons (rfl) (.cons (rfl) (.cons (rfl) (.cons (rfl) (.cons (zi _) (.cons (zi _) (.cons (zi _) (.nil)))))))⟩,(fun T h=>by cases h;rfl)⟩,(fun T h=>by cases h;exact ⟨rfl,rfl⟩),⟨_,Tryz.runUnderlying28,rfl,fun w=>by simp [Tryz.sizeOf22,Tryz.sizeOf23,Tryz.sizeOf24,Tryz.sizeOf25,Tryz.sizeOf26]⟩⟩
theorem ti30:TIok Tryz.prog 30 t30 :=
 ⟨Tryz.isAgg30,Tryz.sizeOf30,⟨_,Tryz.zeroValue30,⟨[Value.slice none 0 0],rfl,fun S w η=>.cons (rfl) (.nil)⟩,(fun T h=>by cases h;rfl)⟩,(fun T h=>by cases h;exact ⟨rfl,rfl⟩),⟨Tryz.underlying30,by decide,Tryz.t43,_,rfl,rfl,rfl,Tryz.zeroValue43,Tryz.sizeOf43⟩⟩
theorem ti31:TIok Tryz.prog 31 t31 :=
 ⟨Tryz.isAgg31,Tryz.sizeOf31,⟨_,Tryz.zeroValue31,⟨[Value.slice none 0 0],rfl,fun S w η=>.cons (rfl) (.nil)⟩,(fun T h=>by cases h;rfl)⟩,(fun T h=>by cases h;exact ⟨rfl,rfl⟩),⟨Tryz.underlying31,by decide,Tryz.t45,_,rfl,rfl,rfl,Tryz.zeroValue45,Tryz.sizeOf45⟩⟩
theorem ti32:TIok Tryz.prog 32 t32 :=
 ⟨Tryz.isAgg32,Tryz.sizeOf32,⟨_,Tryz.zeroValue32,⟨[Value.int IntKind.i64 0,Value.slice none 0 0,Value.slice none 0 0],rfl,fun S w η=>.cons (zi _) (.cons (rfl) (.cons (rfl) (.nil)))⟩,(fun T h=>by cases h;rfl)⟩,(fun T h=>by cases h;exact ⟨rfl,rfl⟩),⟨_,Tryz.runUnderlying32,rfl,fun w=>by simp [Tryz.sizeOf3,Tryz.sizeOf30,Tryz.sizeOf31]⟩⟩
theorem ti33:TIok Tryz.prog 33 t33 :=
 ⟨Tryz.isAgg33,Tryz.sizeOf33,⟨_,Tryz.zeroValue33,⟨[Value.int IntKind.i64 0,Value.slice none 0 0,Value.slice none 0 0],rfl,fun S w η=>.cons (zi _) (.cons (rfl) (.cons (rfl) (.nil)))⟩,(fun T h=>by cases h;rfl)⟩,(fun T h=>by cases h;exact ⟨rfl,rfl⟩),⟨_,Tryz.runUnderlying33,rfl,fun w=>by simp [Tryz.sizeOf3,Tryz.sizeOf30,Tryz.sizeOf31]⟩⟩
theorem ti35:TIok Tryz.prog 35 t35 :=
 ⟨Tryz.isAgg35,Tryz.sizeOf35,⟨_,Tryz.zeroValue35,⟨[Value.slice none 0 0,Value.slice none 0 0,Value.int IntKind.i64 0],rfl,fun S w η=>.cons (rfl) (.cons (rfl) (.cons (zi _) (.nil)))⟩,(fun T h=>by cases h;rfl)⟩,(fun T h=>by cases h;exact ⟨rfl,rfl⟩),⟨_,Tryz.runUnderlying35,rfl,fun w=>by simp [Tryz.sizeOf23,Tryz.sizeOf3]⟩⟩
theorem ti36:TIok Tryz.prog 36 t36 :=
 ⟨Tryz.isAgg36,Tryz.sizeOf36,⟨_,Tryz.zeroValue36,⟨[Value.slice none 0 0,Value.slice none 0 0,Value.int IntKind.i64 0],rfl,fun S w η=>.cons (rfl) (.cons (rfl) (.cons (zi _) (.nil)))⟩,(fun T h=>by cases h;rfl)⟩,(fun T h=>by cases h;exact ⟨rfl,rfl⟩),⟨_,Tryz.runUnderlying36,rfl,fun w=>by simp [Tryz.sizeOf23,Tryz.sizeOf3]⟩⟩
theorem ti37:TIok Tryz.prog 37 t37 :=
 ⟨Tryz.isAgg37,Tryz.sizeOf37,⟨_,Tryz.zeroValue37,⟨[Value.int IntKind.i64 0],rfl,fun S w η=>.cons (zi _) (.nil)⟩,(fun T h=>by cases h;rfl)⟩,(fun T h=>by cases h;exact ⟨rfl,rfl⟩),Tryz.runUnderlying37⟩
theorem ti41:TIok Tryz.prog 41 t41 :=
 ⟨Tryz.isAgg41,Tryz.sizeOf41,⟨_,Tryz.zeroValue41,⟨[Value.slice none 0 0],rfl,fun S w η=>.cons (rfl) (.nil)⟩,(fun T h=>by cases h;rfl)⟩,(fun T h=>by cases h;exact ⟨rfl,rfl⟩),⟨Tryz.underlying41,by decide,Tryz.t23,_,rfl,rfl,rfl,Tryz.zeroValue23,Tryz.sizeOf23⟩⟩
theorem ti42:TIok Tryz.prog 42 t42 :=
 ⟨Tryz.isAgg42,Tryz.sizeOf42,⟨_,Tryz.zeroValue42,⟨[Value.int IntKind.i64 0,Value.int IntKind.i64 0,Value.int IntKind.i64 0,Value.int IntKind.i64 0],rfl,fun S w η=>.cons (zi _) (.cons (zi _) (.cons (zi _) (.cons (zi _) (.nil))))⟩,(fun T h=>by cases h;rfl)⟩,(fun T h=>by cases h;exact ⟨rfl,rfl⟩),⟨_,Tryz.runUnderlying42,rfl,fun w=>by simp [Tryz.sizeOf3]⟩⟩
theorem ti43:TIok Tryz.prog 43 t43 :=
 ⟨Tryz.isAgg43,Tryz.sizeOf43,⟨_,Tryz.zeroValue43,⟨[Value.int IntKind.i64 0,Value.int IntKind.i64 0,Value.int IntKind.i64 0,Value.int IntKind.i64 0],rfl,fun S w η=>.cons (zi _) (.cons (zi _) (.cons (zi _) (.cons (zi _) (.nil))))⟩,(fun T h=>by cases h;rfl)⟩,(fun T h=>by cases h;exact ⟨rfl,rfl⟩),⟨_,Tryz.runUnderlying43,rfl,fun w=>by simp [Tryz.sizeOf3]⟩⟩
theorem ti44:TIok Tryz.prog 44 t44 :=
 ⟨Tryz.isAgg44,Tryz.sizeOf44,⟨_,Tryz.zeroValue44,⟨[Value.int IntKind.i64 0,Value.int IntKind.i64 0,Value.int IntKind.i64 0,Value.int IntKind.i64 0,Value.int IntKind.i64 0],rfl,fun S w η=>.cons (zi _) (.cons (zi _) (.cons (zi _) (.cons (zi _) (.cons (zi _) (.nil)))))⟩,(fun T h=>by cases h;rfl)⟩,(fun T h=>by cases h;exact ⟨rfl,rfl⟩),⟨_,Tryz.runUnderlying44,rfl,fun w=>by simp [Tryz.sizeOf3]⟩⟩
theorem ti45:TIok Tryz.prog 45 t45 :=
 ⟨Tryz.isAgg45,Tryz.sizeOf45,⟨_,Tryz.zeroValue45,⟨[Value.int IntKind.i64 0,Value.int IntKind.i64 0,Value.int IntKind.i64 0,Value.int IntKind.i64 0,Value.int IntKind.i64 0],rfl,fun S w η=>.cons (zi _) (.cons (zi _) (.cons (zi _) (.cons (zi _) (.cons (zi _) (.nil)))))⟩,(fun T h=>by cases h;rfl)⟩,(fun T h=>by cases h;exact ⟨rfl,rfl⟩),⟨_,Tryz.runUnderlying45,rfl,fun w=>by simp [Tryz.sizeOf3]⟩⟩
theorem ti47:TIok Tryz.prog 47 t47 :=
 ⟨Tryz.isAgg47,Tryz.sizeOf47,⟨_,Tryz.zeroValue47,⟨[Value.int IntKind.i64 0,Value.int IntKind.i64 0],rfl,fun S w η=>.cons (zi _) (.cons (zi _) (.nil))⟩,(fun T h=>by cases h;rfl)⟩,(fun T h=>by cases h;exact ⟨rfl,rfl⟩),Tryz.runUnderlying47⟩
theorem ti54:TIok Tryz.prog 54 t54 :=
 ⟨Tryz.isAgg54,Tryz.sizeOf54,⟨_,Tryz.zeroValue54,⟨[Value.int IntKind.i64 0,Value.int IntKind.i64 0,Value.int IntKind.i64 0,Value.int IntKind.i64 0],rfl,fun S w η=>.cons (zi _) (.cons (zi _) (.cons (zi _) (.cons (zi _) (.nil))))⟩,(fun T h=>by cases h;rfl)⟩,(fun T h=>by cases h;exact ⟨rfl,rfl⟩),⟨_,Tryz.runUnderlying54,rfl,fun w=>by simp [Tryz.sizeOf3]⟩⟩
theorem ti55:TIok Tryz.prog 55 t55 :=
 ⟨Tryz.isAgg55,Tryz.sizeOf55,⟨_,Tryz.zeroValue55,⟨[Value.int IntKind.i64 0,Value.int IntKind.i64 0,Value.int IntKind.i64 0,Value.int IntKind.i64 0],rfl,fun S w η=>.cons (zi _) (.cons (zi _) (.cons (zi _) (.cons (zi _) (.nil))))⟩,(fun T h=>by cases h;rfl)⟩,(fun T h=>by cases h;exact ⟨rfl,rfl⟩),⟨_,Tryz.runUnderlying55,rfl,fun w=>by simp [Tryz.sizeOf3]⟩⟩
theorem ti63:TIok Tryz.prog 63 t63 :=
 ⟨Tryz.isAgg63,Tryz.sizeOf63,⟨_,Tryz.zeroValue63,⟨[Value.int IntKind.i64 0,Value.int IntKind.i64 0],rfl,fun S w η=>.cons (zi _) (.cons (zi _) (.nil))⟩,(fun T h=>by cases h;rfl)⟩,(fun T h=>by cases h;exact ⟨rfl,rfl⟩),⟨_,Tryz.runUnderlying63,rfl,fun w=>by simp [Tryz.sizeOf3]⟩⟩
theorem ti64:TIok Tryz.prog 64 t64 :=
 ⟨Tryz.isAgg64,Tryz.sizeOf64,⟨_,Tryz.zeroValue64,⟨[Value.int IntKind.i64 0,Value.int IntKind.i64 0],rfl,fun S w η=>.cons (zi _) (.cons (zi _) (.nil))⟩,(fun T h=>by cases h;rfl)⟩,(fun T h=>by cases h;exact ⟨rfl,rfl⟩),⟨_,Tryz.runUnderlying64,rfl,fun w=>by simp [Tryz.sizeOf3]⟩⟩
theorem ti65:TIok Tryz.prog 65 t65 :=
 ⟨Tryz.isAgg65,Tryz.sizeOf65,⟨_,Tryz.zeroValue65,⟨[Value.slice none 0 0],rfl,fun S w η=>.cons (rfl) (.nil)⟩,(fun T h=>by cases h;rfl)⟩,(fun T h=>by cases h;exact ⟨rfl,rfl⟩),⟨Tryz.underlying65,by decide,Tryz.t64,_,rfl,rfl,rfl,Tryz.zeroValue64,Tryz.sizeOf64⟩⟩
theorem ti68:TIok Tryz.prog 68 t68 :=
 ⟨Tryz.isAgg68,Tryz.sizeOf68,⟨_,Tryz.zeroValue68,⟨[Value.int IntKind.i64 0,Value.int IntKind.i64 0,Value.int IntKind.i64 0,Value.int IntKind.i64 0],rfl,fun S w η=>.cons (zi _) (.cons (zi _) (.cons (zi _) (.cons (zi _) (.nil))))⟩,(fun T h=>by cases h;rfl)⟩,(fun T h=>by cases h;exact ⟨rfl,rfl⟩),Tryz.runUnderlying68⟩
theorem ti70:TIok Tryz.prog 70 t70 :=
 ⟨Tryz.isAgg70,Tryz.sizeOf70,⟨_,Tryz.zeroValue70,⟨[Value.int IntKind.i64 0,Value.int IntKind.i64 0,Value.int IntKind.i64 0,Value.int IntKind.i64 0,Value.int IntKind.i64 0],rfl,fun S w η=>.cons (zi _) (.cons (zi _) (.cons (zi _) (.cons (zi _) (.cons (zi _) (.nil)))))⟩,(fun T h=>by cases h;rfl)⟩,(fun T h=>by cases h;exact ⟨rfl,rfl⟩),Tryz.runUnderlying70⟩
theorem ti72:TIok Tryz.prog 72 t72 :=
 ⟨Tryz.isAgg72,Tryz.sizeOf72,⟨_,Tryz.zeroValue72,⟨[Value.pointer none],rfl,fun S w η=>.cons (rfl) (.nil)⟩,(fun T h=>by cases h)⟩,(fun T h=>by cases h),Tryz.runUnderlying72⟩
theorem ti75:TIok Tryz.prog 75 t75 :=
 ⟨Tryz.isAgg75,Tryz.sizeOf75,⟨_,Tryz.zeroValue75,⟨[Value.int IntKind.i64 0,Value.int IntKind.i64 0,Value.int IntKind.i64 0,Value.int IntKind.i64 0,Value.int IntKind.i64 0,Value.int IntKind.i64 0,Value.int IntKind.i64 0,Value.int IntKind.i64 0,Value.int IntKind.i64 0,Value.int IntKind.i64 0],rfl,fun S w η=>.cons (zi _) (.cons (zi _) (.cons (zi _) (.cons (zi _) (.cons (zi _) (.cons (zi _) (.cons (zi _) (.cons (zi _) (.cons (zi _) (.cons (zi _) (.nil))))))))))⟩,(fun T h=>by cases h)⟩,(fun T h=>by cases h),Tryz.runUnderlying75⟩
theorem ti76:TIok Tryz.prog 76 t76 :=
 ⟨Tryz.isAgg76,Tryz.sizeOf76,⟨_,Tryz.zeroValue76,⟨[Value.slice none 0 0],rfl,fun S w η=>.cons (rfl) (.nil)⟩,(fun T h=>by cases h;rfl)⟩,(fun T h=>by cases h;exact ⟨rfl,rfl⟩),⟨Tryz.underlying76,by decide,Tryz.t4,_,rfl,rfl,rfl,Tryz.zeroValue4,Tryz.sizeOf4⟩⟩
theorem ti78:TIok Tryz.prog 78 t78 :=
 ⟨Tryz.isAgg78,Tryz.sizeOf78,⟨_,Tryz.zeroValue78,⟨[Value.slice none 0 0],rfl,fun S w η=>.cons (rfl) (.nil)⟩,(fun T h=>by cases h;rfl)⟩,(fun T h=>by cases h;exact ⟨rfl,rfl⟩),⟨Tryz.underlying78,by decide,Tryz.t3,_,rfl,rfl,rfl,Tryz.zeroValue3,Tryz.sizeOf3⟩⟩
theorem ti79:TIok Tryz.prog 79 t79 :=
 ⟨Tryz.isAgg79,Tryz.sizeOf79,⟨_,Tryz.zeroValue79,⟨[Value.bool false,Value.slice none 0 0],rfl,fun S w η=>.cons (zb) (.cons (rfl) (.nil))⟩,(fun T h=>by cases h;rfl)⟩,(fun T h=>by cases h;exact ⟨rfl,rfl⟩),⟨_,Tryz.runUnderlying79,rfl,fun w=>by simp [Tryz.sizeOf4,Tryz.sizeOf78]⟩⟩
theorem ti80:TIok Tryz.prog 80 t80 :=
 ⟨Tryz.isAgg80,Tryz.sizeOf80,⟨_,Tryz.zeroValue80,⟨[Value.bool false,Value.slice none 0 0],rfl,fun S w η=>.cons (zb) (.cons (rfl) (.nil))⟩,(fun T h=>by cases h;rfl)⟩,(fun T h=>by cases h;exact ⟨rfl,rfl⟩),⟨_,Tryz.runUnderlying80,rfl,fun w=>by simp [Tryz.sizeOf4,Tryz.sizeOf78]⟩⟩
theorem ti87:TIok Tryz.prog 87 t87 :=
 ⟨Tryz.isAgg87,Tryz.sizeOf87,⟨_,Tryz.zeroValue87,⟨[Value.slice none 0 0],rfl,fun S w η=>.cons (rfl) (.nil)⟩,(fun T h=>by cases h;rfl)⟩,(fun T h=>by cases h;exact ⟨rfl,rfl⟩),⟨Tryz.underlying87,by decide,Tryz.t134,_,rfl,rfl,rfl,Tryz.zeroValue134,Tryz.sizeOf134⟩⟩
theorem ti88:TIok Tryz.prog 88 t88 :=
 ⟨Tryz.isAgg88,Tryz.sizeOf88,⟨_,Tryz.zeroValue88,⟨[Value.int IntKind.i64 0,Value.slice none 0 0],rfl,fun S w η=>.cons (zi _) (.cons (rfl) (.nil))⟩,(fun T h=>by cases h;rfl)⟩,(fun T h=>by cases h;exact ⟨rfl,rfl⟩),⟨_,Tryz.runUnderlying88,rfl,fun w=>by simp [Tryz.sizeOf3,Tryz.sizeOf87]⟩⟩
theorem ti89:TIok Tryz.prog 89 t89 :=
 ⟨Tryz.isAgg89,Tryz.sizeOf89,⟨_,Tryz.zeroValue89,⟨[Value.int IntKind.i64 0,Value.slice none 0 0],rfl,fun S w η=>.cons (zi _) (.cons (rfl) (.nil))⟩,(fun T h=>by cases h;rfl)⟩,(fun T h=>by cases h;exact ⟨rfl,rfl⟩),⟨_,Tryz.runUnderlying89,rfl,fun w=>by simp [Tryz.sizeOf3,Tryz.sizeOf87]⟩⟩
theorem ti90:TIok Tryz.prog 90 t90 :=
 ⟨Tryz.isAgg90,Tryz.sizeOf90,⟨_,Tryz.zeroValue90,⟨[Value.int IntKind.i64 0,Value.slice none 0 0,Value.int IntKind.i64 0,Value.slice none 0 0],rfl,fun S w η=>.cons (zi _) (.cons (rfl) (.cons (zi _) (.cons (rfl) (.nil))))⟩,(fun T h=>by cases h;rfl)⟩,(fun T h=>by cases h;exact ⟨rfl,rfl⟩),Tryz.runUnderlying90⟩
theorem ti101:TIok Tryz.prog 101 t101 :=
 ⟨Tryz.isAgg101,Tryz.sizeOf101,⟨_,Tryz.zeroValue101,⟨[Value.int IntKind.i64 0,Value.int IntKind.i64 0],rfl,fun S w η=>.cons (zi _) (.cons (zi _) (.nil))⟩,(fun T h=>by cases h;rfl)⟩,(fun T h=>by cases h;exact ⟨rfl,rfl⟩),⟨_,Tryz.runUnderlying101,rfl,fun w=>by simp [Tryz.sizeOf3]⟩⟩
theorem ti102:TIok Tryz.prog 102 t102 :=
 ⟨Tryz.isAgg102,Tryz.sizeOf102,⟨_,Tryz.zeroValue102,⟨[Value.int IntKind.i64 0,Value.int IntKind.i64 0],rfl,fun S w η=>.cons (zi _) (.cons (zi _) (.nil))⟩,(fun T h=>by cases h;rfl)⟩,(fun T h=>by cases h;exact ⟨rfl,rfl⟩),⟨_,Tryz.runUnderlying102,rfl,fun w=>by simp [Tryz.sizeOf3]⟩⟩
theorem ti103:TIok Tryz.prog 103 t103 :=
 ⟨Tryz.isAgg103,Tryz.sizeOf103,⟨_,Tryz.zeroValue103,⟨[Value.int IntKind.i64 0,Value.int IntKind.i64 0,Value.int IntKind.i64 0,Value.int IntKind.i64 0,Value.int IntKind.i64 0],rfl,fun S w η=>.cons (zi _) (.cons (zi _) (.cons (zi _) (.cons (zi _) (.cons (zi _) (.nil)))))⟩,(fun T h=>by cases h;rfl)⟩,(fun T h=>by cases h;exact ⟨rfl,rfl⟩),⟨_,Tryz.runUnderlying103,rfl,fun w=>by simp [Tryz.sizeOf102,Tryz.sizeOf3]⟩⟩
theorem ti104:TIok Tryz.prog 104 t104 :=
 ⟨Tryz.isAgg104,Tryz.sizeOf104,⟨_,Tryz.zeroValue104,⟨[Value.int IntKind.i64 0,Value.int IntKind.i64 0,Value.int IntKind.i64 0,Value.int IntKind.i64 0,Value.int IntKind.i64 0],rfl,fun S w η=>.cons (zi _) (.cons (zi _) (.cons (zi _) (.cons (zi _) (.cons (zi _) (.nil)))))⟩,(fun T h=>by cases h;rfl)⟩,(fun T h=>by cases h;exact ⟨rfl,rfl⟩),⟨_,Tryz.runUnderlying104,rfl,fun w=>by simp [Tryz.sizeOf102,Tryz.sizeOf3]⟩⟩
theorem ti109:TIok Tryz.prog 109 t109 :=
 ⟨Tryz.isAgg109,Tryz.sizeOf109,⟨_,Tryz.zeroValue109,⟨[Value.int IntKind.i64 0,Value.int IntKind.i64 0,Value.int IntKind.i64 0,Value.int IntKind.i64 0,Value.int IntKind.i64 0,Value.int IntKind.i64 0,Value.int IntKind.i64 0,Value.int IntKind.i64 0,Value.int IntKind.i64 0,Value.int IntKind.i64 0,Value.int IntKind.i64 0,Value.int IntKind.i64 0,Value.int IntKind.i64 0,Value.int IntKind.i64 0,Value.int IntKind.i64 0,Value.int IntKind.i64 0,Value.int IntKind.i64 0,Value.int IntKind.i64 0,Value.int IntKind.i64 0,Value.int IntKind.i64 0,Value.int IntKind.i64 0,Value.int IntKind.i64 0,Value.int IntKind.i64 0,Value.int IntKind.i64 0,Value.int IntKind.i64 0,Value.int IntKind.i64 0,Value.int IntKind.i64 0,Value.int IntKind.i64 0,Value.int IntKind.i64 0,Value.int IntKind.i64 0,Value.int IntKind.i64 0,Value.int IntKind.i64 0,Value.int IntKind.i64 0,Value.int IntKind.i64 0,Value.int IntKind.i64 0,Value.int IntKind.i64 0,Value.int IntKind.i64 0,Value.int IntKind.i64 0,Value.int IntKind.i64 0,Value.int IntKind.i64 0,Value.int IntKind.i64 0,Value.int IntKind.i64 0,Value.int IntKind.i64 0,Value.int IntKind.i64 0,Value.int IntKind.i64 0,Value.int IntKind.i64 0,Value.int IntKind.i64 0,Value.int IntKind.i64 0,Value.int IntKind.i64 0,Value.int IntKind.i64 0,Value.int IntKind.i64 0,Value.int IntKind.i64 0,Value.int IntKind.i64 0,Value.int IntKind.i64 0,Value.int IntKind.i64 0,Value.int IntKind.i64 0,Value.int IntKind.i64 0,Value.int IntKind.i64 0,Value.int IntKind.i64 0,Value.int IntKind.i64 0,Value.int IntKind.i64 0,Value.int IntKind.i64 0,Value.int IntKind.i64 0,Value.int IntKind.i64 0,Value.int IntKind.i64 0,Value.int IntKind.i64 0,Value.int IntKind.i64 0,Value.int IntKind.i64 0,Value.int IntKind.i64 0,Value.int IntKind.i64 0,Value.int IntKind.i64 0,Value.int IntKind.i64 0,Value.int IntKind.i64 0,Value.int IntKind.i64 0,Value.int IntKind.i64 0,Value.int IntKind.i64 0,Value.int IntKind.i64 0,Value.int IntKind.i64 0,Value.int IntKind.i64 0,Value.int IntKind.i64 0],rfl,fun S w η=>.cons (zi _) (.cons (zi _) (.cons (zi _) (.cons (zi _) (.cons (zi _) (.cons (zi _) (.cons (zi _) (.cons (zi _) (.cons (zi _) (.cons (zi _) (.cons (zi _) (.cons (zi _) (.cons (zi _) (.cons (zi _) (.cons (zi _) (.cons (zi _) (.cons (zi _) (.cons (zi _) (.cons (zi _) (.cons (zi _) (.cons (zi _) (.cons (zi _) (.cons (zi _) (.cons (zi _) (.cons (zi _) (.cons (zi _) (.cons (zi _) (.cons (zi _) (.cons (zi _) (.cons (zi _) (.cons (zi _) (.cons (zi _) (.cons (zi _) (.cons (zi _) (.cons (zi _) (.cons (zi _) (.cons (zi _) (.cons (zi _) (.cons (zi _) (.cons (zi _) (.cons (zi _) (.cons (zi _) (.cons (zi _) (.cons (zi _) (.cons (zi _) (.cons (zi _) (.cons (zi _) (.cons (zi _) (.cons (zi _) (.cons (zi _) (.cons (zi _) (.cons (zi _) (.cons (zi _) (.cons (zi _) (.cons (zi _) (.cons (zi _) (.cons (zi _) (.cons (zi _) (.cons (zi _) (.cons (zi _) (.cons (zi _) (.cons (zi _) (.cons (zi _) (.cons (zi _) (.cons (zi _) (.cons (zi _) (.cons (zi _) (.cons (zi _) (.cons (zi _) (.cons (zi _) (.cons (zi _) (.cons (zi _) (.cons (zi _) (.cons (zi _) (.cons (zi _) (.cons (zi _) (.cons (zi _) (.cons (zi _) (.cons (zi _) (.cons (zi _) (.nil))))))))))))))))))))))))))))))))))))))))))))))))))))))))))))))))))))))))))))))))⟩,(fun T h=>by cases h)⟩,(fun T h=>by cases h),Tryz.runUnderlying109⟩
theorem ti110:TIok Tryz.prog 110 t110 :=
 ⟨Tryz.isAgg110,Tryz.sizeOf110,⟨_,Tryz.zeroValue110,⟨[Value.int IntKind.i64 0,Value.int IntKind.i64 0,Value.int IntKind.i64 0,Value.int IntKind.i64 0,Value.int IntKind.i64 0,Value.int IntKind.i64 0,Value.int IntKind.i64 0,Value.int IntKind.i64 0,Value.int IntKind.i64 0,Value.int IntKind.i64 0,Value.int IntKind.i64 0,Value.int IntKind.i64 0,Value.int IntKind.i64 0,Value.int IntKind.i64 0,Value.int IntKind.i64 0,Value.int IntKind.i64 0,Value.int IntKind.i64 0,Value.int IntKind.i64 0,Value.int IntKind.i64 0,Value.int IntKind.i64 0,Value.int IntKind.i64 0,Value.int IntKind.i64 0,Value.int IntKind.i64 0,Value.int IntKind.i64 0,Value.int IntKind.i64 0,Value.int IntKind.i64 0,Value.int IntKind.i64 0,Value.int IntKind.i64 0,Value.int IntKind.i64 0,Value.int IntKind.i64 0,Value.int IntKind.i64 0,Value.int IntKind.i64 0,Value.int IntKind.i64 0,Value.int IntKind.i64 0,Value.int IntKind.i64 0,Value.int IntKind.i64 0,Value.int IntKind.i64 0,Value.int IntKind.i64 0,Value.int IntKind.i64 0,Value.int IntKind.i64 0,Value.int IntKind.i64 0,Value.int IntKind.i64 0,Value.int IntKind.i64 0,Value.int IntKind.i64 0,Value.int IntKind.i64 0,Value.int IntKind.i64 0,Value.int IntKind.i64 0,Value.int IntKind.i64 0,Value.int IntKind.i64 0,Value.int IntKind.i64 0,Value.int IntKind.i64 0,Value.int IntKind.i64 0,Value.int IntKind.i64 0,Value.int IntKind.i64 0,Value.int IntKind.i64 0,Value.int IntKind.i64 0,Value.int IntKind.i64 0,Value.int IntKind.i64 0,Value.int IntKind.i64 0,Value.int IntKind.i64 0,Value.int IntKind.i64 0,Value.int IntKind.i64 0,Value.int IntKind.i64 0,Value.int IntKind.i64 0,Value.int IntKind.i64 0,Value.int IntKind.i64 0,Value.int IntKind.i64 0,Value.int IntKind.i64 0,Value.int IntKind.i64 0,Value.int IntKind.i64 0,Value.int IntKind.i64 0,Value.int IntKind.i64 0,Value.int IntKind.i64 0,Value.int IntKind.i64 0,Value.int IntKind.i64 0,Value.int IntKind.i64 0,Value.int IntKind.i64 0,Value.int IntKind.i64 0,Value.int IntKind.i64 0,Value.int IntKind.i64 0],rfl,fun S w η=>.cons (zi _) (.cons (zi _) (.cons (zi _) (.cons (zi _) (.cons (zi _) (.cons (zi _) (.cons (zi _) (.cons (zi _) (.cons (zi _) (.cons (zi _) (.cons (zi _) (.cons (zi _) (.cons (zi _) (.cons (zi _) (.cons (zi _) (.cons (zi _) (.cons (zi _) (.cons (zi _) (.cons (zi _) (.cons (zi _) (.cons (zi _) (.cons (zi _) (.cons (zi _) (.cons (zi _) (.cons (zi _) (.cons (zi _) (.cons (zi _) (.cons (zi _) (.cons (zi _) (.cons (zi _) (.cons (zi _) (.cons (zi _) (.cons (zi _) (.cons (zi _) (.cons (zi _) (.cons (zi _) (.cons (zi _) (.cons (zi _) (.cons (zi _) (.cons (zi _) (.cons (zi _) (.cons (zi _) (.cons (zi _) (.cons (zi _) (.cons (zi _) (.cons (zi _) (.cons (zi _) (.cons (zi _) (.cons (zi _) (.cons (zi _) (.cons (zi _) (.cons (zi _) (.cons (zi _) (.cons (zi _) (.cons (zi _) (.cons (zi _) (.cons (zi _) (.cons (zi _) (.cons (zi _) (.cons (zi _) (.cons (zi _) (.cons (zi _) (.cons (zi _) (.cons (zi _) (.cons (zi _) (.cons (zi _) (.cons (zi _) (.cons (zi _) (.cons (zi _) (.cons (zi _) (.cons (zi _) (.cons (zi _) (.cons (zi _) (.cons (zi _) (.cons (zi _) (.cons (zi _) (.cons (zi _) (.cons (zi _) (.cons (zi _) (.cons (zi _) (.nil))))))))))))))))))))))))))))))))))))))))))))))))))))))))))))))))))))))))))))))))⟩,(fun T h=>by cases h)⟩,(fun T h=>by cases h),Tryz.runUnderlying110⟩
theorem ti119:TIok Tryz.prog 119 t119 :=
 ⟨Tryz.isAgg119,Tryz.sizeOf119,⟨_,Tryz.zeroValue119,⟨[Value.pointer none],rfl,fun S w η=>.cons (rfl) (.nil)⟩,(fun T h=>by cases h)⟩,(fun T h=>by cases h),Tryz.runUnderlying119⟩
theorem ti120:TIok Tryz.prog 120 t120 :=
 ⟨Tryz.isAgg120,Tryz.sizeOf120,⟨_,Tryz.zeroValue120,⟨[Value.slice none 0 0],rfl,fun S w η=>.cons (rfl) (.nil)⟩,(fun T h=>by cases h;rfl)⟩,(fun T h=>by cases h;exact ⟨rfl,rfl⟩),⟨Tryz.underlying120,by decide,Tryz.t5,_,rfl,rfl,rfl,Tryz.zeroValue5,Tryz.sizeOf5⟩⟩
theorem ti121:TIok Tryz.prog 121 t121 :=
 ⟨Tryz.isAgg121,Tryz.sizeOf121,⟨_,Tryz.zeroValue121,⟨[Value.pointer none,Value.slice none 0 0],rfl,fun S w η=>.cons (rfl) (.cons (rfl) (.nil))⟩,(fun T h=>by cases h)⟩,(fun T h=>by cases h),⟨_,Tryz.runUnderlying121,rfl,fun w=>by simp [Tryz.sizeOf119,Tryz.sizeOf120]⟩⟩
theorem ti124:TIok Tryz.prog 124 t124 :=
 ⟨Tryz.isAgg124,Tryz.sizeOf124,⟨_,Tryz.zeroValue124,⟨[Value.nilIface],rfl,fun S w η=>.cons (rfl) (.nil)⟩,(fun T h=>by cases h)⟩,(fun T h=>by cases h),trivial⟩
theorem ti125:TIok Tryz.prog 125 t125 :=
 ⟨Tryz.isAgg125,Tryz.sizeOf125,⟨_,Tryz.zeroValue125,⟨[Value.nilIface],rfl,fun S w η=>.cons (rfl) (.nil)⟩,(fun T h=>by cases h)⟩,(fun T h=>by cases h),trivial⟩
theorem ti132:TIok Tryz.prog 132 t132 :=
 ⟨Tryz.isAgg132,Tryz.sizeOf132,⟨_,Tryz.zeroValue132,⟨[Value.slice none 0 0],rfl,fun S w η=>.cons (rfl) (.nil)⟩,(fun T h=>by cases h)⟩,(fun T h=>by cases h),⟨Tryz.underlying132,by decide,Tryz.t131,_,rfl,rfl,rfl,Tryz.zeroValue131,Tryz.sizeOf131⟩⟩
theorem ti133:TIok Tryz.prog 133 t133 :=
 ⟨Tryz.isAgg133,Tryz.sizeOf133,⟨_,Tryz.zeroValue133,⟨[Value.int IntKind.i64 0,Value.int IntKind.i64 0,Value.int IntKind.i64 0],rfl,fun S w η=>.cons (zi _) (.cons (zi _) (.cons (zi _) (.nil)))⟩,(fun T h=>by cases h;rfl)⟩,(fun T h=>by cases h;exact ⟨rfl,rfl⟩),⟨_,Tryz.runUnderlying133,rfl,fun w=>by simp [Tryz.sizeOf3]⟩⟩
theorem ti134:TIok Tryz.prog 134 t134 :=
 ⟨Tryz.isAgg134,Tryz.sizeOf134,⟨_,Tryz.zeroValue134,⟨[Value.int IntKind.i64 0,Value.int IntKind.i64 0,Value.int IntKind.i64 0],rfl,fun S w η=>.cons (zi _) (.cons (zi _) (.cons (zi _) (.nil)))⟩,(fun T h=>by cases h;rfl)⟩,(fun T h=>by cases h;exact ⟨rfl,rfl⟩),⟨_,Tryz.runUnderlying134,rfl,fun w=>by simp [Tryz.sizeOf3]⟩⟩
theorem ti138:TIok Tryz.prog 138 t138 :=
 ⟨Tryz.isAgg138,Tryz.sizeOf138,⟨_,Tryz.zeroValue138,⟨[Value.slice none 0 0],rfl,fun S w η=>.cons (rfl) (.nil)⟩,(fun T h=>by cases h;rfl)⟩,(fun T h=>by cases h;exact ⟨rfl,rfl⟩),⟨Tryz.underlying138,by decide,Tryz.t41,_,rfl,rfl,rfl,Tryz.zeroValue41,Tryz.sizeOf41⟩⟩
theorem ti145:TIok Tryz.prog 145 t145 :=
 ⟨Tryz.isAgg145,Tryz.sizeOf145,⟨_,Tryz.zeroValue145,⟨[Value.int IntKind.u64 0],rfl,fun S w η=>.cons (zi _) (.nil)⟩,(fun T h=>by cases h;rfl)⟩,(fun T h=>by cases h;exact ⟨rfl,rfl⟩),Tryz.runUnderlying145⟩
theorem ti159:TIok Tryz.prog 159 t159 :=
 ⟨Tryz.isAgg159,Tryz.sizeOf159,⟨_,Tryz.zeroValue159,⟨[Value.pointer none],rfl,fun S w η=>.cons (rfl) (.nil)⟩,(fun T h=>by cases h)⟩,(fun T h=>by cases h),Tryz.runUnderlying159⟩
theorem ti169:TIok Tryz.prog 169 t169 :=
 ⟨Tryz.isAgg169,Tryz.sizeOf169,⟨_,Tryz.zeroValue169,⟨[Value.int IntKind.i64 0],rfl,fun S w η=>.cons (zi _) (.nil)⟩,(fun T h=>by cases h;rfl)⟩,(fun T h=>by cases h;exact ⟨rfl,rfl⟩),Tryz.runUnderlying169⟩
theorem ti177:TIok Tryz.prog 177 t177 :=
 ⟨Tryz.isAgg177,Tryz.sizeOf177,⟨_,Tryz.zeroValue177,⟨[Value.int IntKind.u32 0],rfl,fun S w η=>.cons (zi _) (.nil)⟩,(fun T h=>by cases h;rfl)⟩,(fun T h=>by cases h;exact ⟨rfl,rfl⟩),Tryz.runUnderlying177⟩
theorem ti179:TIok Tryz.prog 179 t179 :=
 ⟨Tryz.isAgg179,Tryz.sizeOf179,⟨_,Tryz.zeroValue179,⟨[Value.int IntKind.u64 0],rfl,fun S w η=>.cons (zi _) (.nil)⟩,(fun T h=>by cases h;rfl)⟩,(fun T h=>by cases h;exact ⟨rfl,rfl⟩),Tryz.runUnderlying179⟩
theorem ti180:TIok Tryz.prog 180 t180 :=
 ⟨Tryz.isAgg180,Tryz.sizeOf180,⟨_,Tryz.zeroValue180,⟨[Value.int IntKind.u8 0,Value.int IntKind.u8 0,Value.int IntKind.u8 0,Value.int IntKind.u8 0,Value.int IntKind.u8 0,Value.int IntKind.u8 0,Value.int IntKind.u8 0,Value.int IntKind.u8 0,Value.int IntKind.u8 0,Value.int IntKind.u8 0,Value.int IntKind.u8 0,Value.int IntKind.u8 0,Value.int IntKind.u8 0,Value.int IntKind.u8 0,Value.int IntKind.u8 0,Value.int IntKind.u8 0,Value.int IntKind.u8 0,Value.int IntKind.u8 0,Value.int IntKind.u8 0,Value.int IntKind.u8 0,Value.int IntKind.u8 0,Value.int IntKind.u8 0,Value.int IntKind.u8 0,Value.int IntKind.u8 0],rfl,fun S w η=>.cons (zi _) (.cons (zi _) (.cons (zi _) (.cons (zi _) (.cons (zi _) (.cons (zi _) (.cons (zi _) (.cons (zi _) (.cons (zi _) (.cons (zi _) (.cons (zi _) (.cons (zi _) (.cons (zi _) (.cons (zi _) (.cons (zi _) (.cons (zi _) (.cons (zi _) (.cons (zi _) (.cons (zi _) (.cons (zi _) (.cons (zi _) (.cons (zi _) (.cons (zi _) (.cons (zi _) (.nil))))))))))))))))))))))))⟩,(fun T h=>by cases h)⟩,(fun T h=>by cases h),Tryz.runUnderlying180⟩
theorem ti190:TIok Tryz.prog 190 t190 :=
 ⟨Tryz.isAgg190,Tryz.sizeOf190,⟨_,Tryz.zeroValue190,⟨[Value.pointer none],rfl,fun S w η=>.cons (rfl) (.nil)⟩,(fun T h=>by cases h)⟩,(fun T h=>by cases h),Tryz.runUnderlying190⟩
theorem ti198:TIok Tryz.prog 198 t198 :=
 ⟨Tryz.isAgg198,Tryz.sizeOf198,⟨_,Tryz.zeroValue198,⟨[Value.int IntKind.u64 0],rfl,fun S w η=>.cons (zi _) (.nil)⟩,(fun T h=>by cases h;rfl)⟩,(fun T h=>by cases h;exact ⟨rfl,rfl⟩),Tryz.runUnderlying198⟩
theorem ti202:TIok Tryz.prog 202 t202 :=
 ⟨Tryz.isAgg202,Tryz.sizeOf202,⟨_,Tryz.zeroValue202,⟨[Value.pointer none],rfl,fun S w η=>.cons (rfl) (.nil)⟩,(fun T h=>by cases h)⟩,(fun T h=>by cases h),Tryz.runUnderlying202⟩
theorem ti205:TIok Tryz.prog 205 t205 :=
 ⟨Tryz.isAgg205,Tryz.sizeOf205,⟨_,Tryz.zeroValue205,⟨[Value.int IntKind.u64 0,Value.int IntKind.u64 0,Value.int IntKind.u64 0,Value.int IntKind.u64 0,Value.int IntKind.u64 0,Value.int IntKind.u64 0,Value.int IntKind.u64 0,Value.int IntKind.u64 0,Value.int IntKind.u64 0,Value.int IntKind.u64 0,Value.int IntKind.u64 0,Value.int IntKind.u64 0,Value.int IntKind.u64 0,Value.int IntKind.u64 0,Value.int IntKind.u64 0,Value.int IntKind.u64 0,Value.int IntKind.u64 0,Value.int IntKind.u64 0,Value.int IntKind.u64 0,Value.int IntKind.u64 0],rfl,fun S w η=>.cons (zi _) (.cons (zi _) (.cons (zi _) (.cons (zi _) (.cons (zi _) (.cons (zi _) (.cons (zi _) (.cons (zi _) (.cons (zi _) (.cons (zi _) (.cons (zi _) (.cons (zi _) (.cons (zi _) (.cons (zi _) (.cons (zi _) (.cons (zi _) (.cons (zi _) (.cons (zi _) (.cons (zi _) (.cons (zi _) (.nil))))))))))))))))))))⟩,(fun T h=>by cases h)⟩,(fun T h=>by cases h),Tryz.runUnderlying205⟩
theorem ti206:TIok Tryz.prog 206 t206 :=
 ⟨Tryz.isAgg206,Tryz.sizeOf206,⟨_,Tryz.zeroValue206,⟨[Value.int IntKind.u8 0,Value.int IntKind.u8 0,Value.int IntKind.u8 0,Value.int IntKind.u8 0,Value.int IntKind.u8 0,Value.int IntKind.u8 0,Value.int IntKind.u8 0,Value.int IntKind.u8 0,Value.int IntKind.u8 0,Value.int IntKind.u8 0,Value.int IntKind.u8 0,Value.int IntKind.u8 0,Value.int IntKind.u8 0,Value.int IntKind.u8 0,Value.int IntKind.u8 0,Value.int IntKind.u8 0,Value.int IntKind.u8 0,Value.int IntKind.u8 0,Value.int IntKind.u8 0,Value.int IntKind.u8 0,Value.int IntKind.u8 0,Value.int IntKind.u8 0,Value.int IntKind.u8 0,Value.int IntKind.u8 0,Value.int IntKind.u8 0,Value.int IntKind.u8 0,Value.int IntKind.u8 0,Value.int IntKind.u8 0,Value.int IntKind.u8 0,Value.int IntKind.u8 0,Value.int IntKind.u8 0,Value.int IntKind.u8 0,Value.int IntKind.u8 0,Value.int IntKind.u8 0,Value.int IntKind.u8 0,Value.int IntKind.u8 0,Value.int IntKind.u8 0,Value.int IntKind.u8 0,Value.int IntKind.u8 0,Value.int IntKind.u8 0,Value.int IntKind.u8 0,Value.int IntKind.u8 0,Value.int IntKind.u8 0,Value.int IntKind.u8 0,Value.int IntKind.u8 0,Value.int IntKind.u8 0,Value.int IntKind.u8 0,Value.int IntKind.u8 0,Value.int IntKind.u8 0,Value.int IntKind.u8 0,Value.int IntKind.u8 0,Value.int IntKind.u8 0,Value.int IntKind.u8 0,Value.int IntKind.u8 0,Value.int IntKind.u8 0,Value.int IntKind.u8 0,Value.int IntKind.u8 0,Value.int IntKind.u8 0,Value.int IntKind.u8 0,Value.int IntKind.u8 0,Value.int IntKind.u8 0,Value.int IntKind.u8 0,Value.int IntKind.u8 0,Value.int IntKind.u8 0,Value.int IntKind.u8 0],rfl,fun S w η=>.cons (zi _) (.cons (zi _) (.cons (zi _) (.cons (zi _) (.cons (zi _) (.cons (zi _) (.cons (zi _) (.cons (zi _) (.cons (zi _) (.cons (zi _) (.cons (zi _) (.cons (zi _) (.cons (zi _) (.cons (zi _) (.cons (zi _) (.cons (zi _) (.cons (zi _) (.cons (zi _) (.cons (zi _) (.cons (zi _) (.cons (zi _) (.cons (zi _) (.cons (zi _) (.cons (zi _) (.cons (zi _) (.cons (zi _) (.cons (zi _) (.cons (zi _) (.cons (zi _) (.cons (zi _) (.cons (zi _) (.cons (zi _) (.cons (zi _) (.cons (zi _) (.cons (zi _) (.cons (zi _) (.cons (zi _) (.cons (zi _) (.cons (zi _) (.cons (zi _) (.cons (zi _) (.cons (zi _) (.cons (zi _) (.cons (zi _) (.cons (zi _) (.cons (zi _) (.cons (zi _) (.cons (zi _) (.cons (zi _) (.cons (zi _) (.cons (zi _) (.cons (zi _) (.cons (zi _) (.cons (zi _) (.cons (zi _) (.cons (zi _) (.cons (zi _) (.cons (zi _) (.cons (zi _) (.cons (zi _) (.cons (zi _) (.cons (zi _) (.cons (zi _) (.cons (zi _) (.cons (zi _) (.nil)))))))))))))))))))))))))))))))))))))))))))))))))))))))))))))))))⟩,(fun T h=>by cases h)⟩,(fun T h=>by cases h),Tryz.runUnderlying206⟩
theorem ti214:TIok Tryz.prog 214 t214 :=
 ⟨Tryz.isAgg214,Tryz.sizeOf214,⟨_,Tryz.zeroValue214,⟨[Value.pointer none],rfl,fun S w η=>.cons (rfl) (.nil)⟩,(fun T h=>by cases h)⟩,(fun T h=>by cases h),Tryz.runUnderlying214⟩
theorem ti218:TIok Tryz.prog 218 t218 :=
 ⟨Tryz.isAgg218,Tryz.sizeOf218,⟨_,Tryz.zeroValue218,⟨[Value.pointer none],rfl,fun S w η=>.cons (rfl) (.nil)⟩,(fun T h=>by cases h)⟩,(fun T h=>by cases h),Tryz.runUnderlying218⟩
theorem ti225:TIok Tryz.prog 225 t225 :=
 ⟨Tryz.isAgg225,Tryz.sizeOf225,⟨_,Tryz.zeroValue225,⟨[Value.string ⟨#[]⟩,Value.string ⟨#[]⟩,Value.nilIface],rfl,fun S w η=>.cons (zs) (.cons (zs) (.cons (rfl) (.nil)))⟩,(fun T h=>by cases h)⟩,(fun T h=>by cases h),⟨_,Tryz.runUnderlying225,rfl,fun w=>by simp [Tryz.sizeOf125,Tryz.sizeOf9]⟩⟩
theorem ti226:TIok Tryz.prog 226 t226 :=
 ⟨Tryz.isAgg226,Tryz.sizeOf226,⟨_,Tryz.zeroValue226,⟨[Value.string ⟨#[]⟩,Value.string ⟨#[]⟩,Value.nilIface],rfl,fun S w η=>.cons (zs) (.cons (zs) (.cons (rfl) (.nil)))⟩,(fun T h=>by cases h)⟩,(fun T h=>by cases h),⟨_,Tryz.runUnderlying226,rfl,fun w=>by simp [Tryz.sizeOf125,Tryz.sizeOf9]⟩⟩
theorem ti228:TIok Tryz.prog 228 t228 :=
 ⟨Tryz.isAgg228,Tryz.sizeOf228,⟨_,Tryz.zeroValue228,⟨[Value.int IntKind.u8 0,Value.int IntKind.u8 0,Value.int IntKind.u8 0,Value.int IntKind.u8 0,Value.int IntKind.u8 0,Value.int IntKind.u8 0,Value.int IntKind.u8 0,Value.int IntKind.u8 0,Value.int IntKind.u8 0,Value.int IntKind.u8 0,Value.int IntKind.u8 0,Value.int IntKind.u8 0,Value.int IntKind.u8 0,Value.int IntKind.u8 0,Value.int IntKind.u8 0,Value.int IntKind.u8 0,Value.int IntKind.u8 0,Value.int IntKind.u8 0,Value.int IntKind.u8 0,Value.int IntKind.u8 0,Value.int IntKind.u8 0,Value.int IntKind.u8 0,Value.int IntKind.u8 0,Value.int IntKind.u8 0,Value.int IntKind.u8 0,Value.int IntKind.u8 0,Value.int IntKind.u8 0,Value.int IntKind.u8 0,Value.int IntKind.u8 0,Value.int IntKind.u8 0,Value.int IntKind.u8 0,Value.int IntKind.u8 0],rfl,fun S w η=>.cons (zi _) (.cons (zi _) (.cons (zi _) (.cons (zi _) (.cons (zi _) (.cons (zi _) (.cons (zi _) (.cons (zi _) (.cons (zi _) (.cons (zi _) (.cons (zi _) (.cons (zi _) (.cons (zi _) (.cons (zi _) (.cons (zi _) (.cons (zi _) (.cons (zi _) (.cons (zi _) (.cons (zi _) (.cons (zi _) (.cons (zi _) (.cons (zi _) (.cons (zi _) (.cons (zi _) (.cons (zi _) (.cons (zi _) (.cons (zi _) (.cons (zi _) (.cons (zi _) (.cons (zi _) (.cons (zi _) (.cons (zi _) (.nil))))))))))))))))))))))))))))))))⟩,(fun T h=>by cases h)⟩,(fun T h=>by cases h),Tryz.runUnderlying228⟩
theorem ti229:TIok Tryz.prog 229 t229 :=
 ⟨Tryz.isAgg229,Tryz.sizeOf229,⟨_,Tryz.zeroValue229,⟨[Value.int IntKind.u8 0,Value.int IntKind.u8 0,Value.int IntKind.u8 0,Value.int IntKind.u8 0,Value.int IntKind.u8 0,Value.int IntKind.u8 0,Value.int IntKind.u8 0,Value.int IntKind.u8 0,Value.int IntKind.u8 0,Value.int IntKind.u8 0,Value.int IntKind.u8 0,Value.int IntKind.u8 0,Value.int IntKind.u8 0,Value.int IntKind.u8 0,Value.int IntKind.u8 0,Value.int IntKind.u8 0,Value.int IntKind.u8 0,Value.int IntKind.u8 0,Value.int IntKind.u8 0,Value.int IntKind.u8 0,Value.int IntKind.u8 0,Value.int IntKind.u8 0,Value.int IntKind.u8 0,Value.int IntKind.u8 0,Value.int IntKind.u8 0,Value.int IntKind.u8 0,Value.int IntKind.u8 0,Value.int IntKind.u8 0,Value.int IntKind.u8 0,Value.int IntKind.u8 0,Value.int IntKind.u8 0,Value.int IntKind.u8 0,Value.int IntKind.u8 0,Value.int IntKind.u8 0,Value.int IntKind.u8 0,Value.int IntKind.u8 0,Value.int IntKind.u8 0,Value.int IntKind.u8 0,Value.int IntKind.u8 0,Value.int IntKind.u8 0,Value.int IntKind.u8 0,Value.int IntKind.u8 0,Value.int IntKind.u8 0,Value.int IntKind.u8 0,Value.int IntKind.u8 0,Value.int IntKind.u8 0,Value.int IntKind.u8 0,Value.int IntKind.u8 0,Value.int IntKind.u8 0,Value.int IntKind.u8 0,Value.int IntKind.u8 0,Value.int IntKind.u8 0,Value.int IntKind.u8 0,Value.int IntKind.u8 0,Value.int IntKind.u8 0,Value.int IntKind.u8 0,Value.int IntKind.u8 0,Value.int IntKind.u8 0,Value.int IntKind.u8 0,Value.int IntKind.u8 0,Value.int IntKind.u8 0,Value.int IntKind.u8 0,Value.int IntKind.u8 0,Value.int IntKind.u8 0],rfl,fun S w η=>.cons (zi _) (.cons (zi _) (.cons (zi _) (.cons (zi _) (.cons (zi _) (.cons (zi _) (.cons (zi _) (.cons (zi _) (.cons (zi _) (.cons (zi _) (.cons (zi _) (.cons (zi _) (.cons (zi _) (.cons (zi _) (.cons (zi _) (.cons (zi _) (.cons (zi _) (.cons (zi _) (.cons (zi _) (.cons (zi _) (.cons (zi _) (.cons (zi _) (.cons (zi _) (.cons (zi _) (.cons (zi _) (.cons (zi _) (.cons (zi _) (.cons (zi _) (.cons (zi _) (.cons (zi _) (.cons (zi _) (.cons (zi _) (.cons (zi _) (.cons (zi _) (.cons (zi _) (.cons (zi _) (.cons (zi _) (.cons (zi _) (.cons (zi _) (.cons (zi _) (.cons (zi _) (.cons (zi _) (.cons (zi _) (.cons (zi _) (.cons (zi _) (.cons (zi _) (.cons (zi _) (.cons (zi _) (.cons (zi _) (.cons (zi _) (.cons (zi _) (.cons (zi _) (.cons (zi _) (.cons (zi _) (.cons (zi _) (.cons (zi _) (.cons (zi _) (.cons (zi _) (.cons (zi _) (.cons (zi _) (.cons (zi _) (.cons (zi _) (.cons (zi _) (.cons (zi _) (.nil))))))))))))))))))))))))))))))))))))))))))))))))))))))))))))))))⟩,(fun T h=>by cases h)⟩,(fun T h=>by cases h),Tryz.runUnderlying229⟩
theorem ti231:TIok Tryz.prog 231 t231 :=
 ⟨Tryz.isAgg231,Tryz.sizeOf231,⟨_,Tryz.zeroValue231,⟨[Value.int IntKind.u8 0,Value.int IntKind.u8 0],rfl,fun S w η=>.cons (zi _) (.cons (zi _) (.nil))⟩,(fun T h=>by cases h;rfl)⟩,(fun T h=>by cases h;exact ⟨rfl,rfl⟩),⟨_,Tryz.runUnderlying231,rfl,fun w=>by simp [Tryz.sizeOf5]⟩⟩
theorem ti232:TIok Tryz.prog 232 t232 :=
 ⟨Tryz.isAgg232,Tryz.sizeOf232,⟨_,Tryz.zeroValue232,⟨[Value.int IntKind.u8 0,Value.int IntKind.u8 0],rfl,fun S w η=>.cons (zi _) (.cons (zi _) (.nil))⟩,(fun T h=>by cases h;rfl)⟩,(fun T h=>by cases h;exact ⟨rfl,rfl⟩),⟨_,Tryz.runUnderlying232,rfl,fun w=>by simp [Tryz.sizeOf5]⟩⟩
theorem ti233:TIok Tryz.prog 233 t233 :=
 ⟨Tryz.isAgg233,Tryz.sizeOf233,⟨_,Tryz.zeroValue233,⟨[Value.int IntKind.u8 0,Value.int IntKind.u8 0,Value.int IntKind.u8 0,Value.int IntKind.u8 0,Value.int IntKind.u8 0,Value.int IntKind.u8 0,Value.int IntKind.u8 0,Value.int IntKind.u8 0,Value.int IntKind.u8 0,Value.int IntKind.u8 0,Value.int IntKind.u8 0,Value.int IntKind.u8 0,Value.int IntKind.u8 0,Value.int IntKind.u8 0,Value.int IntKind.u8 0,Value.int IntKind.u8 0,Value.int IntKind.u8 0,Value.int IntKind.u8 0,Value.int IntKind.u8 0,Value.int IntKind.u8 0,Value.int IntKind.u8 0,Value.int IntKind.u8 0,Value.int IntKind.u8 0,Value.int IntKind.u8 0,Value.int IntKind.u8 0,Value.int IntKind.u8 0,Value.int IntKind.u8 0,Value.int IntKind.u8 0,Value.int IntKind.u8 0,Value.int IntKind.u8 0,Value.int IntKind.u8 0,Value.int IntKind.u8 0],rfl,fun S w η=>.cons (zi _) (.cons (zi _) (.cons (zi _) (.cons (zi _) (.cons (zi _) (.cons (zi _) (.cons (zi _) (.cons (zi _) (.cons (zi _) (.cons (zi _) (.cons (zi _) (.cons (zi _) (.cons (zi _) (.cons (zi _) (.cons (zi _) (.cons (zi _) (.cons (zi _) (.cons (zi _) (.cons (zi _) (.cons (zi _) (.cons (zi _) (.cons (zi _) (.cons (zi _) (.cons (zi _) (.cons (zi _) (.cons (zi _) (.cons (zi _) (.cons (zi _) (.cons (zi _) (.cons (zi _) (.cons (zi _) (.cons (zi _) (.nil))))))))))))))))))))))))))))))))⟩,(fun T h=>by cases h)⟩,(fun T h=>by cases h),Tryz.runUnderlying233⟩
theorem ti237:TIok Tryz.prog 237 t237 :=
 ⟨Tryz.isAgg237,Tryz.sizeOf237,⟨_,Tryz.zeroValue237,⟨[Value.pointer none],rfl,fun S w η=>.cons (rfl) (.nil)⟩,(fun T h=>by cases h)⟩,(fun T h=>by cases h),Tryz.runUnderlying237⟩
theorem ti238:TIok Tryz.prog 238 t238 :=
 ⟨Tryz.isAgg238,Tryz.sizeOf238,⟨_,Tryz.zeroValue238,⟨[Value.string ⟨#[]⟩],rfl,fun S w η=>.cons (zs) (.nil)⟩,(fun T h=>by cases h;rfl)⟩,(fun T h=>by cases h;exact ⟨rfl,rfl⟩),⟨_,Tryz.runUnderlying238,rfl,fun w=>by simp [Tryz.sizeOf9]⟩⟩
theorem ti239:TIok Tryz.prog 239 t239 :=
 ⟨Tryz.isAgg239,Tryz.sizeOf239,⟨_,Tryz.zeroValue239,⟨[Value.string ⟨#[]⟩],rfl,fun S w η=>.cons (zs) (.nil)⟩,(fun T h=>by cases h;rfl)⟩,(fun T h=>by cases h;exact ⟨rfl,rfl⟩),⟨_,Tryz.runUnderlying239,rfl,fun w=>by simp [Tryz.sizeOf9]⟩⟩
theorem ti240:TIok Tryz.prog 240 t240 :=
 ⟨Tryz.isAgg240,Tryz.sizeOf240,⟨_,Tryz.zeroValue240,⟨[Value.pointer none,Value.pointer none,Value.pointer none,Value.string ⟨#[]⟩],rfl,fun S w η=>.cons (rfl) (.cons (rfl) (.cons (rfl) (.cons (zs) (.nil))))⟩,(fun T h=>by cases h)⟩,(fun T h=>by cases h),⟨_,Tryz.runUnderlying240,rfl,fun w=>by simp [Tryz.sizeOf17,Tryz.sizeOf9]⟩⟩
theorem ti243:TIok Tryz.prog 243 t243 :=
 ⟨Tryz.isAgg243,Tryz.sizeOf243,⟨_,Tryz.zeroValue243,⟨[],rfl,fun S w η=>.nil⟩,(fun T h=>by cases h)⟩,(fun T h=>by cases h),trivial⟩
theorem ti250:TIok Tryz.prog 250 t250 :=
 ⟨Tryz.isAgg250,Tryz.sizeOf250,⟨_,Tryz.zeroValue250,⟨[Value.int IntKind.u64 0,Value.int IntKind.u64 0,Value.int IntKind.u32 0,Value.int IntKind.u8 0,Value.int IntKind.u8 0,Value.int IntKind.u8 0,Value.int IntKind.u8 0,Value.nilFunc,Value.pointer none,Value.int IntKind.i32 0,Value.int IntKind.i32 0],rfl,fun S w η=>.cons (zi _) (.cons (zi _) (.cons (zi _) (.cons (zi _) (.cons (zi _) (.cons (zi _) (.cons (zi _) (.cons (rfl) (.cons (rfl) (.cons (zi _) (.cons (zi _) (.nil)))))))))))⟩,(fun T h=>by cases h)⟩,(fun T h=>by cases h),trivial⟩
theorem tyOK:∀ id ti,lk tyTab id=some ti→TIok Tryz.prog id ti:=by
 unfold tyTab
 exact lk_all (oF Tryz.isAgg1 Tryz.sizeOf1 Tryz.zeroValue1 Tryz.runUnderlying1) <| lk_all ti2 <| lk_all ti3 <| lk_all ti4 <| lk_all ti5 <| lk_all ti7 <| lk_all ti9 <| lk_all ti12 <| lk_all ti13 <| lk_all ti15 <| lk_all ti16 <| lk_all ti17 <| lk_all ti18 <| lk_all ti20 <| lk_all ti21 <| lk_all ti22 <| lk_all ti23 <| lk_all ti24 <| lk_all ti25 <| lk_all ti26 <| lk_all ti27 <| lk_all ti28 <| lk_all ti30 <| lk_all ti31 <| lk_all ti32 <| lk_all ti33 <| lk_all ti35 <| lk_all ti36 <| lk_all ti37 <| lk_all ti41 <| lk_all ti42 <| lk_all ti43 <| lk_all ti44 <| lk_all ti45 <| lk_all (oF Tryz.isAgg46 Tryz.sizeOf46 Tryz.zeroValue46 Tryz.runUnderlying46) <| lk_all ti47 <| lk_all ti54 <| lk_all ti55 <| lk_all ti63 <| lk_all ti64 <| lk_all ti65 <| lk_all ti68 <| lk_all ti70 <| lk_all ti72 <| lk_all (oF Tryz.isAgg74 Tryz.sizeOf74 Tryz.zeroValue74 Tryz.runUnderlying74) <| lk_all ti75 <| lk_all ti76 <| lk_all ti78 <| lk_all ti79 <| lk_all ti80 <| lk_all ti87 <| lk_all ti88 <| lk_all ti89 <| lk_all ti90 <| lk_all (oF Tryz.isAgg96 Tryz.sizeOf96 Tryz.zeroValue96 Tryz.runUnderlying96) <| lk_all (oF Tryz.isAgg99 Tryz.sizeOf99 Tryz.zeroValue99 Tryz.runUnderlying99) <| lk_all ti101 <| lk_all ti102 <| lk_all ti103 <| lk_all ti104 <| lk_all (oF Tryz.isAgg105 Tryz.sizeOf105 Tryz.zeroValue105 Tryz.runUnderlying105) <| lk_all (oF Tryz.isAgg106 Tryz.sizeOf106 Tryz.zeroValue106 Tryz.runUnderlying106) <| lk_all ti109 <| lk_all ti110 <| lk_all (oF Tryz.isAgg111 Tryz.sizeOf111 Tryz.zeroValue111 Tryz.runUnderlying111) <| lk_all (oF Tryz.isAgg116 Tryz.sizeOf116 Tryz.zeroValue116 Tryz.runUnderlying116) <| lk_all ti119 <| lk_all ti120 <| lk_all ti121 <| lk_all ti124 <| lk_all ti125 <| lk_all (oF Tryz.isAgg131 Tryz.sizeOf131 Tryz.zeroValue131 Tryz.runUnderlying131) <| lk_all ti132 <| lk_all ti133 <| lk_all ti134 <| lk_all ti138 <| lk_all (oF Tryz.isAgg140 Tryz.sizeOf140 Tryz.zeroValue140 Tryz.runUnderlying140) <| lk_all ti145 <| lk_all (oF Tryz.isAgg147 Tryz.sizeOf147 Tryz.zeroValue147 Tryz.runUnderlying147) <| lk_all (oF Tryz.isAgg153 Tryz.sizeOf153 Tryz.zeroValue153 Tryz.runUnderlying153) <| lk_all ti159 <| lk_all (oF Tryz.isAgg163 Tryz.sizeOf163 Tryz.zeroValue163 Tryz.runUnderlying163) <| lk_all (oF Tryz.isAgg165 Tryz.sizeOf165 Tryz.zeroValue165 Tryz.runUnderlying165) <| lk_all ti169 <| lk_all ti177 <| lk_all ti179 <| lk_all ti180 <| lk_all ti190 <| lk_all ti198 <| lk_all ti202 <| lk_all ti205 <| lk_all ti206 <| lk_all ti214 <| lk_all ti218 <| lk_all ti225 <| lk_all ti226 <| lk_all ti228 <| lk_all ti229 <| lk_all ti231 <| lk_all ti232 <| lk_all ti233 <| lk_all ti237 <| lk_all ti238 <| lk_all ti239 <| lk_all ti240 <| lk_all ti243 <| lk_all ti250 <| lk_none
noncomputable def fnTab:List (FuncId×Func):=[(3,Tryz.f3),(4,Tryz.f4),(5,Tryz.f5),(6,Tryz.f6),(7,Tryz.f7),(8,Tryz.f8),(9,Tryz.f9),(10,Tryz.f10),(11,Tryz.f11),(12,Tryz.f12),(13,Tryz.f13),(14,Tryz.f14),(15,Tryz.f15),(16,Tryz.f16),(17,Tryz.f17),(18,Tryz.f18),(19,Tryz.f19),(20,Tryz.f20),(21,Tryz.f21),(22,Tryz.f22),(23,Tryz.f23),(24,Tryz.f24),(25,Tryz.f25),(26,Tryz.f26),(27,Tryz.f27),(28,Tryz.f28),(29,Tryz.f29),(30,Tryz.f30),(31,Tryz.f31),(32,Tryz.f32),(33,Tryz.f33),(34,Tryz.f34),(35,Tryz.f35),(36,Tryz.f36),(37,Tryz.f37),(40,Tryz.f40),(41,Tryz.f41),(42,Tryz.f42),(43,Tryz.f43),(44,Tryz.f44),(45,Tryz.f45),(46,Tryz.f46),(47,Tryz.f47),(48,Tryz.f48),(49,Tryz.f49),(50,Tryz.f50),(52,Tryz.f52),(53,Tryz.f53),(54,Tryz.f54),(55,Tryz.f55),(56,Tryz.f56),(57,Tryz.f57),(58,Tryz.f58),(61,Tryz.f61),(62,Tryz.f62),(63,Tryz.f63),(64,Tryz.f64),(65,Tryz.f65),(66,Tryz.f66),(67,Tryz.f67),(68,Tryz.f68),(69,Tryz.f69),(71,Tryz.f71),(72,Tryz.f72),(73,Tryz.f73),(74,Tryz.f74),(75,Tryz.f75),(77,Tryz.f77),(78,Tryz.f78),(79,Tryz.f79),(80,Tryz.f80),(81,Tryz.f81),(82,Tryz.f82),(83,Tryz.f83),(84,Tryz.f84),(85,Tryz.f85),(86,Tryz.f86),(87,Tryz.f87),(88,Tryz.f88),(92,Tryz.f92),(93,Tryz.f93),(94,Tryz.f94),(95,Tryz.f95),(96,Tryz.f96),(97,Tryz.f97),(98,Tryz.f98),(99,Tryz.f99),(100,Tryz.f100),(101,Tryz.f101),(102,Tryz.f102),(109,Tryz.f109),(112,Tryz.f112),(113,Tryz.f113),(118,Tryz.f118),(120,Tryz.f120),(121,Tryz.f121),(122,Tryz.f122),(123,Tryz.f123),(124,Tryz.f124),(125,Tryz.f125),(126,Tryz.f126),(128,Tryz.f128),(129,Tryz.f129),(130,Tryz.f130),(134,Tryz.f134),(143,Tryz.f143),(145,Tryz.f145),(146,Tryz.f146),(147,Tryz.f147),(149,Tryz.f149),(150,Tryz.f150),(151,Tryz.f151),(152,Tryz.f152),(155,Tryz.f155),(156,Tryz.f156),(157,Tryz.f157),(158,Tryz.f158),(159,Tryz.f159),(162,Tryz.f162),(163,Tryz.f163),(164,Tryz.f164)]
abbrev pF (f:FuncId) (fn:Func):Prop:=Tryz.prog.funcs[f]? = some fn∧∀ (args:Array Value) (w:World),(callFunc f args).run Tryz.prog w=.ok (.enter f args) w
theorem pf {f:FuncId} {fn:Func} (h:Tryz.prog.funcs[f]? = some fn) (h2:∀ (args:Array Value) (w:World),(callFunc f args).run Tryz.prog w=.ok (.enter f args) w):pF f fn:=⟨h,h2⟩
theorem fnOK:∀ f fn,lk fnTab f=some fn→Tryz.prog.funcs[f]? = some fn∧∀ (args:Array Value) (w:World),(callFunc f args).run Tryz.prog w=.ok (.enter f args) w:=by
 unfold fnTab
 change ∀ f fn,_→pF f fn
 exact lk_all (pf Tryz.func3 Tryz.call3) <| lk_all (pf Tryz.func4 Tryz.call4) <| lk_all (pf Tryz.func5 Tryz.call5) <| lk_all (pf Tryz.func6 Tryz.call6) <| lk_all (pf Tryz.func7 Tryz.call7) <| lk_all (pf Tryz.func8 Tryz.call8) <| lk_all (pf Tryz.func9 Tryz.call9) <| lk_all (pf Tryz.func10 Tryz.call10) <| lk_all (pf Tryz.func11 Tryz.call11) <| lk_all (pf Tryz.func12 Tryz.call12) <| lk_all (pf Tryz.func13 Tryz.call13) <| lk_all (pf Tryz.func14 Tryz.call14) <| lk_all (pf Tryz.func15 Tryz.call15) <| lk_all (pf Tryz.func16 Tryz.call16) <| lk_all (pf Tryz.func17 Tryz.call17) <| lk_all (pf Tryz.func18 Tryz.call18) <| lk_all (pf Tryz.func19 Tryz.call19) <| lk_all (pf Tryz.func20 Tryz.call20) <| lk_all (pf Tryz.func21 Tryz.call21) <| lk_all (pf Tryz.func22 Tryz.call22) <| lk_all (pf Tryz.func23 Tryz.call23) <| lk_all (pf Tryz.func24 Tryz.call24) <| lk_all (pf Tryz.func25 Tryz.call25) <| lk_all (pf Tryz.func26 Tryz.call26) <| lk_all (pf Tryz.func27 Tryz.call27) <| lk_all (pf Tryz.func28 Tryz.call28) <| lk_all (pf Tryz.func29 Tryz.call29) <| lk_all (pf Tryz.func30 Tryz.call30) <| lk_all (pf Tryz.func31 Tryz.call31) <| lk_all (pf Tryz.func32 Tryz.call32) <| lk_all (pf Tryz.func33 Tryz.call33) <| lk_all (pf Tryz.func34 Tryz.call34) <| lk_all (pf Tryz.func35 Tryz.call35) <| lk_all (pf Tryz.func36 Tryz.call36) <| lk_all (pf Tryz.func37 Tryz.call37) <| lk_all (pf Tryz.func40 Tryz.call40) <| lk_all (pf Tryz.func41 Tryz.call41) <| lk_all (pf Tryz.func42 Tryz.call42) <| lk_all (pf Tryz.func43 Tryz.call43) <| lk_all (pf Tryz.func44 Tryz.call44) <| lk_all (pf Tryz.func45 Tryz.call45) <| lk_all (pf Tryz.func46 Tryz.call46) <| lk_all (pf Tryz.func47 Tryz.call47) <| lk_all (pf Tryz.func48 Tryz.call48) <| lk_all (pf Tryz.func49 Tryz.call49) <| lk_all (pf Tryz.func50 Tryz.call50) <| lk_all (pf Tryz.func52 Tryz.call52) <| lk_all (pf Tryz.func53 Tryz.call53) <| lk_all (pf Tryz.func54 Tryz.call54) <| lk_all (pf Tryz.func55 Tryz.call55) <| lk_all (pf Tryz.func56 Tryz.call56) <| lk_all (pf Tryz.func57 Tryz.call57) <| lk_all (pf Tryz.func58 Tryz.call58) <| lk_all (pf Tryz.func61 Tryz.call61) <| lk_all (pf Tryz.func62 Tryz.call62) <| lk_all (pf Tryz.func63 Tryz.call63) <| lk_all (pf Tryz.func64 Tryz.call64) <| lk_all (pf Tryz.func65 Tryz.call65) <| lk_all (pf Tryz.func66 Tryz.call66) <| lk_all (pf Tryz.func67 Tryz.call67) <| lk_all (pf Tryz.func68 Tryz.call68) <| lk_all (pf Tryz.func69 Tryz.call69) <| lk_all (pf Tryz.func71 Tryz.call71) <| lk_all (pf Tryz.func72 Tryz.call72) <| lk_all (pf Tryz.func73 Tryz.call73) <| lk_all (pf Tryz.func74 Tryz.call74) <| lk_all (pf Tryz.func75 Tryz.call75) <| lk_all (pf Tryz.func77 Tryz.call77) <| lk_all (pf Tryz.func78 Tryz.call78) <| lk_all (pf Tryz.func79 Tryz.call79) <| lk_all (pf Tryz.func80 Tryz.call80) <| lk_all (pf Tryz.func81 Tryz.call81) <| lk_all (pf Tryz.func82 Tryz.call82) <| lk_all (pf Tryz.func83 Tryz.call83) <| lk_all (pf Tryz.func84 Tryz.call84) <| lk_all (pf Tryz.func85 Tryz.call85) <| lk_all (pf Tryz.func86 Tryz.call86) <| lk_all (pf Tryz.func87 Tryz.call87) <| lk_all (pf Tryz.func88 Tryz.call88) <| lk_all (pf Tryz.func92 Tryz.call92) <| lk_all (pf Tryz.func93 Tryz.call93) <| lk_all (pf Tryz.func94 Tryz.call94) <| lk_all (pf Tryz.func95 Tryz.call95) <| lk_all (pf Tryz.func96 Tryz.call96) <| lk_all (pf Tryz.func97 Tryz.call97) <| lk_all (pf Tryz.func98 Tryz.call98) <| lk_all (pf Tryz.func99 Tryz.call99) <| lk_all (pf Tryz.func100 Tryz.call100) <| lk_all (pf Tryz.func101 Tryz.call101) <| lk_all (pf Tryz.func102 Tryz.call102) <| lk_all (pf Tryz.func109 Tryz.call109) <| lk_all (pf Tryz.func112 Tryz.call112) <| lk_all (pf Tryz.func113 Tryz.call113) <| lk_all (pf Tryz.func118 Tryz.call118) <| lk_all (pf Tryz.func120 Tryz.call120) <| lk_all (pf Tryz.func121 Tryz.call121) <| lk_all (pf Tryz.func122 Tryz.call122) <| lk_all (pf Tryz.func123 Tryz.call123) <| lk_all (pf Tryz.func124 Tryz.call124) <| lk_all (pf Tryz.func125 Tryz.call125) <| lk_all (pf Tryz.func126 Tryz.call126) <| lk_all (pf Tryz.func128 Tryz.call128) <| lk_all (pf Tryz.func129 Tryz.call129) <| lk_all (pf Tryz.func130 Tryz.call130) <| lk_all (pf Tryz.func134 Tryz.call134) <| lk_all (pf Tryz.func143 Tryz.call143) <| lk_all (pf Tryz.func145 Tryz.call145) <| lk_all (pf Tryz.func146 Tryz.call146) <| lk_all (pf Tryz.func147 Tryz.call147) <| lk_all (pf Tryz.func149 Tryz.call149) <| lk_all (pf Tryz.func150 Tryz.call150) <| lk_all (pf Tryz.func151 Tryz.call151) <| lk_all (pf Tryz.func152 Tryz.call152) <| lk_all (pf Tryz.func155 Tryz.call155) <| lk_all (pf Tryz.func156 Tryz.call156) <| lk_all (pf Tryz.func157 Tryz.call157) <| lk_all (pf Tryz.func158 Tryz.call158) <| lk_all (pf Tryz.func159 Tryz.call159) <| lk_all (pf Tryz.func162 Tryz.call162) <| lk_all (pf Tryz.func163 Tryz.call163) <| lk_all (pf Tryz.func164 Tryz.call164) <| lk_none
set_option maxRecDepth 100000 in
theorem eqOK43:EqOK Tryz.prog 43 [.int .i64,.int .i64,.int .i64,.int .i64]:=by
 refine ⟨by kernel_rfl,fun vs us h1 h2 w=>?_⟩
 rcases h1 with _ | ⟨⟨a0,rfl⟩,_ | ⟨⟨a1,rfl⟩,_ | ⟨⟨a2,rfl⟩,_ | ⟨⟨a3,rfl⟩,_ | _⟩⟩⟩⟩
 rcases h2 with _ | ⟨⟨b0,rfl⟩,_ | ⟨⟨b1,rfl⟩,_ | ⟨⟨b2,rfl⟩,_ | ⟨⟨b3,rfl⟩,_ | _⟩⟩⟩⟩
 have u3:=Tryz.underlying3
 have x3:=Tryz.isAgg3
 have z3:=Tryz.sizeOf3
 have hS:Tryz.prog.underlying 43=some (.struct (Tryz.prog.fieldsOf 43)):=by kernel_rfl
 have hp:Tryz.prog.stoodInHeld 43=false:=by kernel_rfl
 rw [show (10000:Nat)=9999+1 from rfl,run_equalIn_agg w 9999 43 _ _ hS hp]
 simp only [Program.fieldsOf,Tryz.underlying43]
 go_simp
 by_cases e0:a0=b0
 all_goals by_cases e1:a1=b1
 all_goals by_cases e2:a2=b2
 all_goals by_cases e3:a3=b3
 all_goals simp [eqVs,eqV,ByteArray.toList_eq,e0,e1,e2,e3]
set_option maxRecDepth 100000 in
theorem eqOK45:EqOK Tryz.prog 45 [.int .i64,.int .i64,.int .i64,.int .i64,.int .i64]:=by
 refine ⟨by kernel_rfl,fun vs us h1 h2 w=>?_⟩
 rcases h1 with _ | ⟨⟨a0,rfl⟩,_ | ⟨⟨a1,rfl⟩,_ | ⟨⟨a2,rfl⟩,_ | ⟨⟨a3,rfl⟩,_ | ⟨⟨a4,rfl⟩,_ | _⟩⟩⟩⟩⟩
 rcases h2 with _ | ⟨⟨b0,rfl⟩,_ | ⟨⟨b1,rfl⟩,_ | ⟨⟨b2,rfl⟩,_ | ⟨⟨b3,rfl⟩,_ | ⟨⟨b4,rfl⟩,_ | _⟩⟩⟩⟩⟩
 have u3:=Tryz.underlying3
 have x3:=Tryz.isAgg3
 have z3:=Tryz.sizeOf3
 have hS:Tryz.prog.underlying 45=some (.struct (Tryz.prog.fieldsOf 45)):=by kernel_rfl
 have hp:Tryz.prog.stoodInHeld 45=false:=by kernel_rfl
 rw [show (10000:Nat)=9999+1 from rfl,run_equalIn_agg w 9999 45 _ _ hS hp]
 simp only [Program.fieldsOf,Tryz.underlying45]
 go_simp
 by_cases e0:a0=b0
 all_goals by_cases e1:a1=b1
 all_goals by_cases e2:a2=b2
 all_goals by_cases e3:a3=b3
 all_goals by_cases e4:a4=b4
 all_goals simp [eqVs,eqV,ByteArray.toList_eq,e0,e1,e2,e3,e4]
set_option maxRecDepth 100000 in
theorem eqOK55:EqOK Tryz.prog 55 [.int .i64,.int .i64,.int .i64,.int .i64]:=by
 refine ⟨by kernel_rfl,fun vs us h1 h2 w=>?_⟩
 rcases h1 with _ | ⟨⟨a0,rfl⟩,_ | ⟨⟨a1,rfl⟩,_ | ⟨⟨a2,rfl⟩,_ | ⟨⟨a3,rfl⟩,_ | _⟩⟩⟩⟩
 rcases h2 with _ | ⟨⟨b0,rfl⟩,_ | ⟨⟨b1,rfl⟩,_ | ⟨⟨b2,rfl⟩,_ | ⟨⟨b3,rfl⟩,_ | _⟩⟩⟩⟩
 have u3:=Tryz.underlying3
 have x3:=Tryz.isAgg3
 have z3:=Tryz.sizeOf3
 have hS:Tryz.prog.underlying 55=some (.struct (Tryz.prog.fieldsOf 55)):=by kernel_rfl
 have hp:Tryz.prog.stoodInHeld 55=false:=by kernel_rfl
 rw [show (10000:Nat)=9999+1 from rfl,run_equalIn_agg w 9999 55 _ _ hS hp]
 simp only [Program.fieldsOf,Tryz.underlying55]
 go_simp
 by_cases e0:a0=b0
 all_goals by_cases e1:a1=b1
 all_goals by_cases e2:a2=b2
 all_goals by_cases e3:a3=b3
 all_goals simp [eqVs,eqV,ByteArray.toList_eq,e0,e1,e2,e3]
set_option maxRecDepth 100000 in
theorem eqOK64:EqOK Tryz.prog 64 [.int .i64,.int .i64]:=by
 refine ⟨by kernel_rfl,fun vs us h1 h2 w=>?_⟩
 rcases h1 with _ | ⟨⟨a0,rfl⟩,_ | ⟨⟨a1,rfl⟩,_ | _⟩⟩
 rcases h2 with _ | ⟨⟨b0,rfl⟩,_ | ⟨⟨b1,rfl⟩,_ | _⟩⟩
 have u3:=Tryz.underlying3
 have x3:=Tryz.isAgg3
 have z3:=Tryz.sizeOf3
 have hS:Tryz.prog.underlying 64=some (.struct (Tryz.prog.fieldsOf 64)):=by kernel_rfl
 have hp:Tryz.prog.stoodInHeld 64=false:=by kernel_rfl
 rw [show (10000:Nat)=9999+1 from rfl,run_equalIn_agg w 9999 64 _ _ hS hp]
 simp only [Program.fieldsOf,Tryz.underlying64]
 go_simp
 by_cases e0:a0=b0
 all_goals by_cases e1:a1=b1
 all_goals simp [eqVs,eqV,ByteArray.toList_eq,e0,e1]
set_option maxRecDepth 100000 in
theorem eqOK102:EqOK Tryz.prog 102 [.int .i64,.int .i64]:=by
 refine ⟨by kernel_rfl,fun vs us h1 h2 w=>?_⟩
 rcases h1 with _ | ⟨⟨a0,rfl⟩,_ | ⟨⟨a1,rfl⟩,_ | _⟩⟩
 rcases h2 with _ | ⟨⟨b0,rfl⟩,_ | ⟨⟨b1,rfl⟩,_ | _⟩⟩
 have u3:=Tryz.underlying3
 have x3:=Tryz.isAgg3
 have z3:=Tryz.sizeOf3
 have hS:Tryz.prog.underlying 102=some (.struct (Tryz.prog.fieldsOf 102)):=by kernel_rfl
 have hp:Tryz.prog.stoodInHeld 102=false:=by kernel_rfl
 rw [show (10000:Nat)=9999+1 from rfl,run_equalIn_agg w 9999 102 _ _ hS hp]
 simp only [Program.fieldsOf,Tryz.underlying102]
 go_simp
 by_cases e0:a0=b0
 all_goals by_cases e1:a1=b1
 all_goals simp [eqVs,eqV,ByteArray.toList_eq,e0,e1]
set_option maxRecDepth 100000 in
theorem eqOK134:EqOK Tryz.prog 134 [.int .i64,.int .i64,.int .i64]:=by
 refine ⟨by kernel_rfl,fun vs us h1 h2 w=>?_⟩
 rcases h1 with _ | ⟨⟨a0,rfl⟩,_ | ⟨⟨a1,rfl⟩,_ | ⟨⟨a2,rfl⟩,_ | _⟩⟩⟩
 rcases h2 with _ | ⟨⟨b0,rfl⟩,_ | ⟨⟨b1,rfl⟩,_ | ⟨⟨b2,rfl⟩,_ | _⟩⟩⟩
 have u3:=Tryz.underlying3
 have x3:=Tryz.isAgg3
 have z3:=Tryz.sizeOf3
 have hS:Tryz.prog.underlying 134=some (.struct (Tryz.prog.fieldsOf 134)):=by kernel_rfl
 have hp:Tryz.prog.stoodInHeld 134=false:=by kernel_rfl
 rw [show (10000:Nat)=9999+1 from rfl,run_equalIn_agg w 9999 134 _ _ hS hp]
 simp only [Program.fieldsOf,Tryz.underlying134]
 go_simp
 by_cases e0:a0=b0
 all_goals by_cases e1:a1=b1
 all_goals by_cases e2:a2=b2
 all_goals simp [eqVs,eqV,ByteArray.toList_eq,e0,e1,e2]
def eqTab:List (TypeId×List Ty):=[(43,[.int .i64,.int .i64,.int .i64,.int .i64]),(45,[.int .i64,.int .i64,.int .i64,.int .i64,.int .i64]),(55,[.int .i64,.int .i64,.int .i64,.int .i64]),(64,[.int .i64,.int .i64]),(102,[.int .i64,.int .i64]),(134,[.int .i64,.int .i64,.int .i64])]
theorem eqsOK:∀ t ks,lk eqTab t=some ks→EqOK Tryz.prog t ks:=by
 unfold eqTab
 refine lk_all (p:=fun t ks=>EqOK Tryz.prog t ks) eqOK43 ?_
 refine lk_all (p:=fun t ks=>EqOK Tryz.prog t ks) eqOK45 ?_
 refine lk_all (p:=fun t ks=>EqOK Tryz.prog t ks) eqOK55 ?_
 refine lk_all (p:=fun t ks=>EqOK Tryz.prog t ks) eqOK64 ?_
 refine lk_all (p:=fun t ks=>EqOK Tryz.prog t ks) eqOK102 ?_
 refine lk_all (p:=fun t ks=>EqOK Tryz.prog t ks) eqOK134 ?_
 exact lk_none
def btTab:List (TypeId×TypeId×TypeId):=[(122,122,5)]
theorem bt122:BltOK Tryz.prog 122 122 5:=⟨by decide,by kernel_rfl,by kernel_rfl,_,Tryz.zeroValue122,rfl⟩
theorem btOK:∀ T x,lk btTab T=some x→BltOK Tryz.prog T x.1 x.2:=by
 unfold btTab
 refine lk_all (p:=fun T (x:TypeId×TypeId)=>BltOK Tryz.prog T x.1 x.2) bt122 ?_
 exact lk_none
noncomputable def tabs0:Tabs:=⟨tyTab,fnTab,[],[],[],eqTab,[],[],[],btTab,[]⟩
theorem tabs0OK:TabOK Tryz.prog tabs0:=⟨tyOK,fnOK,(fun _ _ h=>by cases h),(fun _ _ h=>by cases h),by kernel_rfl,(fun _ h=>by cases h),eqsOK,(fun _ h=>by cases h),(fun _ _ h=>by cases h),(fun _ _ h=>by cases h),btOK,(fun _ _ h=>by cases h)⟩
end Go.Proofs.YthdfmkpebafpoaaGreatDoor
namespace Go.PE
open Go Go.RowKit Go.Abs Go.Sort
open Go.Proofs (ltOf)

def clampT:(t:Ty)→t.den→t.den
 | .int k,x=>k.wrap x
 | .bool,x=>x
 | .str,x=>List.take maxLen x
 | .list _,x=>x
 | .one t,x=>clampT t x
 | .pair a b,x=>(clampT a x.1,clampT b x.2)
def encF:(t:Ty)→t.den→List Value
 | .int k,x=>[.int k x]
 | .bool,x=>[.bool x]
 | .str,x=>[.string ⟨List.toArray x⟩]
 | .list _,_=>[.slice none 0 0]
 | .one t,x=>encF t x
 | .pair a b,x=>encF a x.1++encF b x.2
def encT (t:Ty) (x:t.den):List Value:=encF t (clampT t x)
section
variable {S:Cells} {w:World} {η:Eta}
end
theorem getB {α:Type} [Inhabited α] {a:Array α} {i:Nat} (h:i<a.size):a[i]! = a[i]:=getElem!_pos a i h
end Go.PE
namespace Go.PE
open Go Go.RowKit Go.Abs Go.Sort

def insI (x:Int):List Int→List Int
 | []=>[x]
 | y::r=>bif leM x y then x::y::r else y::insI x r
def isortI:List Int→List Int
 | []=>[]
 | x::r=>insI x (isortI r)
theorem insI_perm (x:Int):∀ l,(insI x l).Perm (x::l)
 | []=>.refl _
 | y::r=>by
  unfold insI
  cases leM x y
  ·exact ((insI_perm x r).cons y).trans (.swap x y r)
  ·exact .refl _
theorem isortI_perm:∀ l,(isortI l).Perm l
 | []=>.refl _
 | x::r=>(insI_perm x (isortI r)).trans ((isortI_perm r).cons x)
theorem insI_sorted (x:Int):∀ {l:List Int},List.Pairwise (·≤·) l→List.Pairwise (·≤·) (insI x l)
 | [],_=>by unfold insI;simp
 | y::r,h=>by
  unfold insI
  have h2:=List.pairwise_cons.1 h
  cases hb:leM x y with
  | true =>
   have hb':x≤y:=of_decide_eq_true hb
   refine List.pairwise_cons.2 ⟨fun z hz=>?_,h⟩
   rcases List.mem_cons.1 hz with rfl | hz
   ·exact hb'
   ·exact Int.le_trans hb' (h2.1 z hz)
  | false =>
   have hb':¬ x≤y:=of_decide_eq_false hb
   refine List.pairwise_cons.2 ⟨fun z hz=>?_,insI_sorted x h2.2⟩
   rcases List.mem_cons.1 ((insI_perm x r).mem_iff.1 hz) with rfl | hz
   ·omega
   ·exact h2.1 z hz
theorem isortI_sorted:∀ l,List.Pairwise (·≤·) (isortI l)
 | []=>.nil
 | x::r=>insI_sorted x (isortI_sorted r)
theorem merge_isortI (l:List Int):(l.mergeSort fun x y=>decide (x≤y))=isortI l:=by
 refine List.Perm.eq_of_pairwise (le:=fun x y=>x≤y) (fun a b _ _ h1 h2=>by omega) ?_ (isortI_sorted l) ((List.mergeSort_perm l _).trans (isortI_perm l).symm)
 have:=List.pairwise_mergeSort (le:=fun (x y:Int)=>decide (x≤y)) (fun a b c h1 h2=>by simp at *;omega) (fun a b=>by simp;omega) l
 exact this.imp fun h=>by simpa using h
def sortI (xs:List Int):Option (List Int):=match decide (xs.length<4611686018427387904) with
 | true=>some (isortI xs)
 | false=>none
def compI (xs:List Int):Option (List Int):=match decide (xs.length≤4611686018427387904) with
 | true=>some (Lib.compact xs)
 | false=>none
section
variable {B:Nat} {S F:Cells} {w w':World}
theorem world_put {b off cap n:Nat} {xs d:List Int} {os:Array Obj} (hin:InLt S w) (hF:∀ b o,F b o→B≤b∧b<w.heap.size∧¬ S b o) (hFe:∀ b' o,F b' o↔b'=b∧off≤o∧o<off+cap*1) (c1:xs.length≤cap) (hn:0<xs.length)
  (ht:∀ o,off≤o→o<off+cap*1→World.there w b o) (hH:Holds (Value.int .i64) w b off xs.toArray) (hd:d.length=xs.length) (hw:w'=grow (putRow (Value.int .i64) (Go.Sort.ahead w n) b off d.toArray) os) :
  Grow B S w S w'∧(∀ j,j<xs.length→w'.cell? ⟨b,off+j,none⟩=some (.int .i64 (d.toArray)[j]!))∧(∀ b' o,b'<w.heap.size→¬ F b' o→w'.cell? ⟨b',o,none⟩=w.cell? ⟨b',o,none⟩∧w'.frozen? ⟨b',o,none⟩=w.frozen? ⟨b',o,none⟩) ∧
   (∀ b',b'<w.heap.size→(∀ o,¬ F b' o)→w'.heap[b']? = w.heap[b']?)∧∀ o,off≤o→o<off+cap*1→World.there w' b o:=by
 have hin1:∀ j,j<xs.length→F b (off+j):=fun j hj=>(hFe _ _).2 ⟨rfl,by omega,by omega⟩
 obtain ⟨hBb,hblk,_⟩:=hF b (off+0) (hin1 0 hn)
 have hH1:Holds (Value.int .i64) (Go.Sort.ahead w n) b off xs.toArray:=hH
 have hfs:d.toArray.size=xs.toArray.size:=by simpa using hd
 have hfn:d.toArray.size=xs.length:=by simpa using hd
 have hps:(putRow (Value.int .i64) (Go.Sort.ahead w n) b off d.toArray).heap.size=w.heap.size:=by rw [size_putRow];rfl
 have cin:∀ j,j<xs.length→w'.cell? ⟨b,off+j,none⟩=some (.int .i64 (d.toArray)[j]!):=fun j hj=>by
  rw [hw,cell?_grow _ _ _ (by rw [hps];exact hblk)]
  exact cell?_putRow (Value.int .i64) _ b off _ _ hH1 hfs j (by rw [hfn];exact hj)
 have cout:∀ b' o,b'<w.heap.size→(b'≠b∨o<off∨off+xs.length≤o)→w'.cell? ⟨b',o,none⟩=w.cell? ⟨b',o,none⟩:=fun b' o hb' ho=>by
  rw [hw,cell?_grow _ _ _ (by rw [hps];exact hb'),cell?_putRow_other (Value.int .i64) _ b off _ _ (by rw [hfn];exact ho)]
  rfl
 have fout:∀ b' o,b'<w.heap.size→w'.frozen? ⟨b',o,none⟩=w.frozen? ⟨b',o,none⟩:=fun b' o hb'=>by
  rw [hw,frozen?_grow _ _ _ (by rw [hps];exact hb'),frozen?_putRow]
  rfl
 have hout:∀ b',b'<w.heap.size→b'≠b→w'.heap[b']? = w.heap[b']? := fun b' hb' hne=>by
  rw [hw,heap_grow_old _ _ (by rw [hps];exact hb')]
  show (w.heap.modify b _)[b']? = _
  rw [Array.getElem?_modify,if_neg (Ne.symm hne)]
 have hcut:∀ b' o,¬ F b' o→(b'≠b∨o<off∨off+xs.length≤o):=fun b' o hno=>by
  by_cases e:b'=b
  ·subst e
   refine .inr ?_
   rcases Nat.lt_or_ge o off with h1 | h1
   ·exact .inl h1
   ·rcases Nat.lt_or_ge o (off+xs.length) with h2 | h2
    ·have:=hin1 (o-off) (by omega)
     rw [show off+(o-off)=o by omega] at this
     exact absurd this hno
    ·exact .inr h2
  ·exact .inl e
 have hkeep:Keep S w S w':=⟨fun _ _ h=>h,fun b' o hs=>cout b' o (hin b' o hs) (hcut b' o fun hf'=>(hF b' o hf').2.2 hs)⟩
 have hcells:∃ c e fr,w.heap[b]? = some (.cells c e fr):=by
  obtain ⟨⟨v,hv⟩,_⟩:=ht (off+0) (by omega) (by omega)
  obtain ⟨c,e,fr,h1,_⟩:=cells_of_cell? hv
  exact ⟨c,e,fr,h1⟩
 refine ⟨⟨⟨by rw [hw];rfl,by rw [hw];rfl,by rw [hw];rfl,by rw [hw,size_grow,hps];omega,fun k hk=>hout k (by omega) (by omega)⟩,hkeep,fun b' o hs=>?_,fun _ _ h=>.inl h,.of ?_ fun b' o ho hne=>?_⟩,cin,fun b' o hb' hno=>⟨cout b' o hb' (hcut b' o hno),fout b' o hb'⟩,fun b' hb' hno=>hout b' hb' fun e=>?_,fun o h1 h2=>⟨?_,by rw [fout b o hblk];exact (ht o h1 h2).2⟩⟩
 ·have:=hin b' o hs
  rw [hw,size_grow,hps];omega
 ·rw [hw]
  show w.drawn≤w.drawn+n
  omega
 ·by_cases e:b'=b
  ·subst e
   obtain ⟨c,el,fr,hc⟩:=hcells
   rw [hc] at ho
   exact absurd (Option.some.inj ho).symm (hne _ _ _)
  ·rw [hout b' (Array.getElem?_eq_some_iff.1 ho).1 e];exact ho
 ·subst e
  exact hno _ (hin1 0 hn)
 ·by_cases ho:o<off+xs.length
  ·have:=cin (o-off) (by omega)
   rw [show off+(o-off)=o by omega] at this
   exact ⟨_,this⟩
  ·rw [cout b o hblk (.inr (.inr (by omega)))]
   exact (ht o h1 h2).1
theorem rep_int {x:Int} {es:List Value} (h:Rep S w (.int .i64) x es):es=[.int .i64 x]∧IntKind.i64.has x:=⟨h.1,h.2⟩
theorem holds_of {b off:Nat} {xs:List Int} {cap:Nat} (c1:xs.length≤cap) (ht:∀ o,off≤o→o<off+cap*1→World.there w b o) (hx:∀ (i:Nat) (x:Int),xs[i]? = some x→∃ es,Rep S w (.int .i64) x es∧∀ j v,es[j]? = some v→w.cell? ⟨b,off+i*1+j,none⟩=some v) :
  Holds (Value.int .i64) w b off xs.toArray∧∀ x∈xs,IntKind.i64.has x:=by
 refine ⟨fun j hj=>?_,fun x hx'=>?_⟩
 ·have hj':j<xs.length:=by simpa using hj
  obtain ⟨es,he,hc⟩:=hx j xs[j] (List.getElem?_eq_getElem hj')
  obtain ⟨rfl,_⟩:=rep_int he
  have:=hc 0 _ rfl
  refine ⟨?_,(ht (off+j) (by omega) (by omega)).2⟩
  rw [getB hj]
  simpa using this
 ·obtain ⟨i,hi,rfl⟩:=List.getElem_of_mem hx'
  obtain ⟨es,he,_⟩:=hx i _ (List.getElem?_eq_getElem hi)
  exact (rep_int he).2
end
theorem so1_sort {P:Program} {ρ:Go.Shelf.Ren} (L:Go.Proofs.Lays.n189 P ρ) {f:FuncId} (hfid:ρ.f 189=f) (ef:∀ (args:Array Value) (w:World),(callFunc f args).run P w=.ok (.enter f args) w):So1OK P ⟨f,.int .i64,false,sortI⟩:=by
 refine ⟨ef,fun xs ys h B S F w u hB hin hF hA=>?_⟩
 have h:sortI xs=some ys:=h
 have hA:ArrH F S w u (.int .i64) xs:=hA
 show Calls P f #[u] w _
 unfold sortI at h
 split at h
 ·rename_i hlt
  have hlt:=of_decide_eq_true hlt
  have hy:=Option.some.inj h
  have hperm:=isortI_perm xs
  rw [hy] at hperm
  have hyl:ys.length=xs.length:=hperm.length_eq
  obtain ⟨base,cap,rfl,c1,c2,c3⟩:=hA
  by_cases hn:xs.length=0
  ·have hxs:xs=[]:=List.eq_nil_of_length_eq_zero hn
   have hys:ys=[]:=List.eq_nil_of_length_eq_zero (by omega)
   subst hxs hys
   have hc:=Go.Proofs.Any.slices_Sort_int_none L base cap w
   rw [hfid] at hc
   exact hc.mono fun en w' ⟨he,hw⟩=>by
    subst hw
    exact ⟨_,.slice base 0 cap,he,fun h=>(by cases h),fun _=>⟨rfl,rfl⟩,rfl,Grow.refl hin,⟨base,cap,rfl,c1,c2,c3⟩,fun _ _ _ _=>⟨rfl,rfl⟩,fun _ _ _=>rfl⟩
  ·rcases c3 with c3 | ⟨b,off,rfl,hFe,ht,hx⟩
   ·omega
   obtain ⟨hH,hhas⟩:=holds_of c1 ht hx
   have hblk:b<w.heap.size:=(hF b (off+0) ((hFe _ _).2 ⟨rfl,by omega,by show off+0<off+cap*1;omega⟩)).2.1
   have hc:=Go.Proofs.Any.slices_Sort_int L b off cap xs w hH hblk hlt
   rw [hfid,merge_isortI,hy] at hc
   refine hc.mono fun en w' ⟨he,n,os,hw⟩=>?_
   obtain ⟨g1,g2,g3,g4,g5⟩:=world_put hin hF hFe c1 (by omega) ht hH hyl hw
   refine ⟨_,.slice (some ⟨b,off,none⟩) xs.length cap,he,fun h=>(by cases h),fun _=>⟨rfl,rfl⟩,rfl,g1,⟨_,cap,by rw [hyl],by rw [hyl];exact c1,c2,.inr ⟨b,off,rfl,hFe,g5,fun i y hi=>?_⟩⟩,g3,g4⟩
   have hil:=(List.getElem?_eq_some_iff.1 hi).1
   have hmem:y∈xs:=hperm.mem_iff.1 (List.mem_of_getElem? hi)
   refine ⟨[.int .i64 y],⟨rfl,hhas y hmem⟩,fun j v hj=>?_⟩
   cases j with
   | zero =>
    cases hj
    have e:ys.toArray[i]! = y:=by rw [getB (by simpa using hil)];simpa using (List.getElem?_eq_some_iff.1 hi).2
    show w'.cell? ⟨b,off+i*1+0,none⟩=_
    rw [Nat.mul_one,Nat.add_zero,g2 i (by omega),e]
   | succ j=>simp at hj
 ·cases h
theorem grow_none (w:World):grow w #[]=w:=by
 cases w
 simp [grow]
theorem compact_mem {zs:List Int} {y:Int} (h:y∈Lib.compact zs):y∈zs:=by
 unfold Lib.compact Lib.compactUpTo at h
 obtain ⟨j,hj,rfl⟩:=List.mem_map.1 h
 have hjl:j<zs.length:=List.mem_range.1 (List.mem_filter.1 hj).1
 rw [getB (by simpa using hjl)]
 simp
theorem compact_len (zs:List Int):(Lib.compact zs).length≤zs.length:=by
 unfold Lib.compact Lib.compactUpTo
 rw [List.length_map]
 exact Nat.le_trans (List.length_filter_le _ _) (by simp)
theorem so1_comp {P:Program} {ρ:Go.Shelf.Ren} (L:Go.Proofs.Lays2.n20 P ρ) {f:FuncId} (hfid:ρ.f 20=f) (ef:∀ (args:Array Value) (w:World),(callFunc f args).run P w=.ok (.enter f args) w):So1OK P ⟨f,.int .i64,true,compI⟩:=by
 refine ⟨ef,fun xs ys h B S F w u hB hin hF hA=>?_⟩
 have h:compI xs=some ys:=h
 have hA:ArrH F S w u (.int .i64) xs:=hA
 show Calls P f #[u] w _
 unfold compI at h
 split at h
 ·rename_i hlt
  have hlt:=of_decide_eq_true hlt
  have hy:=Option.some.inj h
  have hyl:ys.length≤xs.length:=by rw [← hy];exact compact_len xs
  obtain ⟨base,cap,rfl,c1,c2,c3⟩:=hA
  by_cases hn:xs.length=0
  ·have hxs:xs=[]:=List.eq_nil_of_length_eq_zero hn
   have hys:ys=[]:=List.eq_nil_of_length_eq_zero (by omega)
   subst hxs hys
   have hc:=Go.Proofs.Any.slices_Compact_int_empty L base cap w
   rw [hfid] at hc
   exact hc.mono fun en w' ⟨he,hw⟩=>by
    subst hw
    exact ⟨_,.slice base 0 cap,he,fun _=>rfl,fun h=>(by cases h),rfl,Grow.refl hin,⟨base,cap,rfl,c1,c2,c3⟩,fun _ _ _ _=>⟨rfl,rfl⟩,fun _ _ _=>rfl⟩
  ·rcases c3 with c3 | ⟨b,off,rfl,hFe,ht,hx⟩
   ·omega
   obtain ⟨hH,hhas⟩:=holds_of c1 ht hx
   have hc:=Go.Proofs.Any.slices_Compact_int L b off cap xs w hH (by omega) c1
   rw [hfid,hy] at hc
   refine hc.mono fun en w' ⟨he,q,hw⟩=>?_
   have hdl:(ys++List.replicate (xs.length-ys.length) (0:Int)).length=xs.length:=by rw [List.length_append,List.length_replicate];omega
   obtain ⟨g1,g2,g3,g4,g5⟩:=world_put (os:=#[]) hin hF hFe c1 (by omega) ht hH hdl (hw.trans (grow_none _).symm)
   refine ⟨_,.slice (some ⟨b,off,none⟩) ys.length cap,he,fun _=>rfl,fun h=>(by cases h),rfl,g1,⟨_,cap,rfl,by omega,c2,.inr ⟨b,off,rfl,hFe,g5,fun i y hi=>?_⟩⟩,g3,g4⟩
   have hil:=(List.getElem?_eq_some_iff.1 hi).1
   have hmem:y∈xs:=compact_mem (by rw [hy];exact List.mem_of_getElem? hi)
   refine ⟨[.int .i64 y],⟨rfl,hhas y hmem⟩,fun j v hj=>?_⟩
   cases j with
   | zero =>
    cases hj
    have e:(ys++List.replicate (xs.length-ys.length) (0:Int)).toArray[i]! = y:=by
     rw [getB (by simp;omega)]
     simp only [List.getElem_toArray]
     rw [List.getElem_append_left hil]
     exact (List.getElem?_eq_some_iff.1 hi).2
    show w'.cell? ⟨b,off+i*1+0,none⟩=_
    rw [Nat.mul_one,Nat.add_zero,g2 i (by omega),e]
   | succ j=>simp at hj
 ·cases h
end Go.PE
namespace Go.PE
open Go Go.RowKit Go.Abs Go.Shelf Go.Proofs Go.Sort

section
variable {P:Program} {w:World}
theorem run_append_str (base:Nat) (t u ty e:TypeId) (i:TypeInfo) (ht:P.underlying t=some (.slice e)) (hu:P.underlying u=some .string) (hi:P.info? e=some i) (hz:i.zero=some (.int .u8 0))
  (hsize:i.size=1) (hby:i.bytes=1) (v:Value) (n:Nat) (xs:List Value) (hown:w.ownsRow base e 1 v n xs) (s:ByteArray)
  (h63:n+s.size≤maxLen) (hbytes:n+s.size≤140737488355328) (hbase:base≤w.heap.size) :
  ∃ v' w',(Builtin.append_ #[t,u] ty #[v,.string s]).run P w=.ok v' w'∧w'.ownsRow base e 1 v' (n+s.size) (xs++Lib.strCells s)∧w.grownBy w' v.ownBlock ∧
   (v'=.slice none 0 0↔v=.slice none 0 0∧s.size=0)∧LK w w'∧∀ k,v'.ownBlock=some k→v.ownBlock=some k∨w.heap.size≤k:=by
 obtain ⟨v',w',hr,h2,h3,h4⟩:=Lib.run_append_own_string (P:=P) w base t u ty e i ht hu hi hz hsize hby v n xs hown s h63 hbytes hbase
 refine ⟨v',w',hr,h2,h3,h4,?_⟩
 have hxl:xs.length=n:=by simpa using hown.1
 rcases hown.2 with ⟨rfl,rfl⟩ | ⟨g,cap,cur,rfl,hbg,hg,hnc,hcm,hcs,htake⟩
 ·by_cases hm:s.size=0
  ·have hv:v'=.slice none 0 0:=h4.2 ⟨rfl,hm⟩
   refine ⟨⟨fun b r hb=>⟨r,by rw [h3.block b (Array.getElem?_eq_some_iff.1 hb).1 (by simp [Value.ownBlock])];exact hb,rfl,rfl,rfl,rfl,rfl⟩,fun b hb=>by rw [h3.block b (Array.getElem?_eq_some_iff.1 hb).1 (by simp [Value.ownBlock])];exact hb,fun _=>?_⟩,fun k hk=>by rw [hv] at hk;cases hk⟩
   have hf:=Lib.run_firstCells_string (P:=P) w 1 s
   rw [hm] at hf
   have:(Builtin.append_ #[t,u] ty #[.slice none 0 0,.string s]).run P w=.ok (.slice none 0 0) w:=by
    simp [Builtin.append_,run_underlying ht,run_underlying hu,Go.sizeOf,typeInfo,hi,hsize,Builtin.lenOf,hm,hf]
   rw [this] at hr
   cases hr
   exact Nat.le_refl _
  ·have hr2:=run_append_nil_string (P:=P) w t u ty e i (.int .u8 0) ht hu hi hz s (by omega) (by omega) (by rw [hby];omega)
   rw [hr2] at hr
   cases hr
   exact ⟨(LK.drew _).trans (LK.alloc _ _),fun k hk=>by cases hk;exact .inr (Nat.le_refl _)⟩
 ·by_cases hroom:n+s.size≤cap
  ·have hcs':cur.size=cap:=by simpa using hcs
   have hr2:=Lib.run_append_room_string (P:=P) (w:=w) t u ty e i ht hu hi hsize g n cap cur hg s hroom (by omega)
   rw [hr2] at hr
   cases hr
   refine ⟨.of (Nat.le_refl _) fun b o hb hne=>?_,fun k hk=>.inl hk⟩
   by_cases hbg:b=g
   ·subst hbg
    rw [hg] at hb
    cases hb
    exact absurd rfl (hne _ _ _)
   ·rw [setRow_other w g b _ hbg];exact hb
  ·have holds:∀ j u,xs[j]? = some u→w.cell? ((⟨g,0,none⟩:Addr).add j)=some u:=hown.cells (g:=g) rfl
   have hr2:=Lib.run_append_grow_string (P:=P) (w:=w) t u ty e i (.int .u8 0) ht hu hi hz ⟨g,0,none⟩ n cap xs (by rw [hsize];simpa using hxl) holds s (by omega) (by omega) (by rw [hby];exact growslice_fits (by omega) (by omega))
   rw [hr2] at hr
   cases hr
   exact ⟨(LK.drew _).trans (LK.alloc _ _),fun k hk=>by cases hk;exact .inr (Nat.le_refl _)⟩
theorem wpList_append_str {ops:Array Oper} {rest:List Oper} {o:Oper} {a:Act} {Q:Exit→Act→World→Prop} (hgd:o.guard=none) (sl x:Operand) (t u:TypeId)
  (ho:o.op=.call { callee:=.builtin .append,args:=#[sl,x],argTypes:=#[t,u] })
  (base:Nat) (e:TypeId) (i:TypeInfo) (ht:P.underlying t=some (.slice e)) (hu:P.underlying u=some .string) (hi:P.info? e=some i) (hz:i.zero=some (.int .u8 0))
  (hsize:i.size=1) (hby:i.bytes=1)
  (v:Value) (n:Nat) (xs:List Value) (hs:a.eval sl=v) (hown:w.ownsRow base e 1 v n xs) (s:ByteArray) (hx:a.eval x=.string s)
  (h63:n+s.size≤maxLen) (hbytes:n+s.size≤140737488355328) (hbase:base≤w.heap.size)
  (h:∀ v' w',w'.ownsRow base e 1 v' (n+s.size) (xs++Lib.strCells s)→w.grownBy w' v.ownBlock→(v'=.slice none 0 0↔v=.slice none 0 0∧s.size=0)→LK w w'→(∀ k,v'.ownBlock=some k→v.ownBlock=some k∨w.heap.size≤k)→wpList P ops Q rest (a.put o.dst v') w'):wpList P ops Q (o::rest) a w:=by
 refine wpList_plain hgd fun K hK=>?_
 obtain ⟨v',w',hr,h2,h3,h4,h5,h6⟩:=run_append_str (P:=P) base t u o.type e i ht hu hi hz hsize hby v n xs hown s h63 hbytes hbase
 unfold Oper.wp execOp
 simp only [ho,resolve,invoke,builtin,Sem.run_bind,Sem.run_pure,Result.andThen_ok,List.map_toArray,List.map_cons,List.map_nil,hs,hx,hr]
 exact hK _ _ (h v' w' h2 h3 h4 h5 h6)
end

section
variable {P:Program} {ρ:Ren}
theorem BldChg.refl (w:World) (b:Nat) (u:Value):BldChg w w b u u:=⟨rfl,rfl,rfl,Nat.le_refl _,LK.refl _,fun _ _ _ _=>rfl,fun _ h=>.inl h⟩
theorem bldChg_set {w:World} {b:Nat} {u u':Value} (o:Nat) (v:Value) (h:∀ k,u'.ownBlock=some k→u.ownBlock=some k∨w.heap.size≤k):BldChg w (w.setCell ⟨b,o,none⟩ v) b u u' :=
 ⟨rfl,rfl,rfl,by simp,LK.setCell _ _ _,fun k hk hne _=>by
  show (w.heap.modify b _)[k]? = _
  rw [Array.getElem?_modify,if_neg (Ne.symm hne)],h⟩
theorem BldChg.trans {w1 w2 w3:World} {b:Nat} {u1 u2 u3:Value} (h:BldChg w1 w2 b u1 u2) (k:BldChg w2 w3 b u2 u3):BldChg w1 w3 b u1 u3 :=
 ⟨k.os.trans h.os,k.tape.trans h.tape,k.output.trans h.output,Nat.le_trans h.size k.size,h.lk.trans k.lk,fun j hj h1 h2=>by
  rw [k.block j (Nat.lt_of_lt_of_le hj h.size) h1 (fun e=>?_),h.block j hj h1 h2]
  rcases h.own j e with h3 | h3
  ·exact h2 h3
  ·omega,fun j hj=>by
  rcases k.own j hj with h1 | h1
  ·exact h.own j h1
  ·exact .inr (Nat.le_trans h.size h1)⟩
theorem freeze_same (w:World) (a:Addr) (n:Nat):(w.freeze a n).os=w.os∧(w.freeze a n).tape=w.tape∧(w.freeze a n).output=w.output∧(w.freeze a n).heap.size=w.heap.size∧(w.freeze a n).drawn=w.drawn:=by
 unfold World.freeze
 split<;>simp
def BldUsed (w:World) (b:Nat) (T e:TypeId) (u:Value) (s:List UInt8):Prop:=w.heap[b]? = some (.cells #[.pointer (some ⟨b,0,none⟩),u] T (0,0))∧w.ownsRow 0 e 1 u s.length (bytV s)∧u.ownBlock≠some b∧(s=[]→u=.slice none 0 0)
theorem BldUsed.at {w:World} {b:Nat} {T e:TypeId} {u:Value} {s:List UInt8} (h:BldUsed w b T e u s):BldAt w b T e u s:=⟨_,h.1,.inr rfl,h.2.1,h.2.2.1,h.2.2.2⟩
set_option maxHeartbeats 1000000 in
set_option maxRecDepth 100000 in
theorem bld_fresh (L:Lays.n240 P ρ) {T e:TypeId} (hT:BltOK P T (ρ.t 72) e) (b:Nat) (w:World) (h0:w.cell? ⟨b,0,none⟩=some (.pointer none)) (hsh:w.shape? b=some (T,2)) (hfz:w.frozen? ⟨b,0,none⟩=false) :
  Calls P (ρ.f 240) #[.pointer (some ⟨b,0,none⟩)] w fun e w'=>e=.returned (.tuple #[])∧w'=w.setCell ⟨b,0,none⟩ (.pointer (some ⟨b,0,none⟩)):=by
 obtain ⟨j,hj,hjs⟩:=Option.map_eq_some_iff.1 hT.size
 have mixed:=L.mixed
 have t72:=L.t72;have a72:=L.a72;have z72:=L.z72;have v72:=L.v72;have u72:=run_underlying L.t72
 have t70:=L.t70;have a70:=L.a70;have z70:=L.z70;have v70:=L.v70;have u70:=run_underlying L.t70
 have t9:=L.t9;have a9:=L.a9;have z9:=L.z9;have v9:=L.v9;have u9:=run_underlying L.t9
 have t4:=L.t4;have a4:=L.a4;have z4:=L.z4;have v4:=L.v4;have u4:=run_underlying L.t4
 have t164:=L.t164;have a164:=L.a164;have z164:=L.z164;have v164:=L.v164;have u164:=run_underlying L.t164
 go_enter L.f240,Body.n240_ntmps ρ
 go_wp2
 rw [Lib.run_to_unsafe w ⟨b,0,none⟩ L.t70 L.t164 hj (by rw [hjs];decide) hsh (Nat.zero_lt_succ 1)]
 simp only [Result.andThen]
 rw [Oper.upon_value]
 go_wp2
 rw [run_callFunc_extern L.f276 (by kernel_rfl) (by kernel_rfl) (by kernel_rfl) (e:=Extern.AbiNoEscape.same) (by kernel_rfl)]
 rw [Lib.run_noEscape]
 simp only [Result.andThen]
 rw [Oper.upon_value]
 go_wp2
 rw [Lib.run_from_unsafe w ⟨b,0,none⟩ L.t164 L.t70 hj hsh hT.lies]
 simp only [Result.andThen]
 rw [Oper.upon_value]
 go_wp2
 go_end0
 exact ⟨rfl,rfl⟩
theorem bld_check (L:Lays.n240 P ρ) {T e:TypeId} (hT:BltOK P T (ρ.t 72) e) (X:Builder.X72 P ρ) (b:Nat) {u:Value} {s:List UInt8} (w:World) (h:BldAt w b T e u s) :
  Calls P (ρ.f 240) #[.pointer (some ⟨b,0,none⟩)] w fun en w'=>en=.returned (.tuple #[])∧BldUsed w' b T e u s∧BldChg w w' b u u:=by
 obtain ⟨p,h1,h2,h3,h4,h5⟩:=h
 rcases h2 with rfl | rfl
 ·refine (bld_fresh L hT b w (by rw [Lib.cell_of_heap h1];rfl) (by simp [World.shape?,h1]) (Lib.frozen_of_heap h1 0)).mono ?_
  rintro en w' ⟨rfl,rfl⟩
  refine ⟨rfl,⟨?_,?_,h4,h5⟩,bldChg_set 0 _ fun _ h=>.inl h⟩
  ·show (w.heap.modify b _)[b]? = _
   rw [Array.getElem?_modify,if_pos rfl,h1]
   rfl
  ·refine ⟨h3.1,?_⟩
   rcases h3.2 with h | ⟨g,cap,cur,hv,hb,hg,hr⟩
   ·exact .inl h
   ·refine .inr ⟨g,cap,cur,hv,hb,?_,hr⟩
    have hne:b≠g:=fun e=>h4 (by rw [hv,e];rfl)
    show (w.heap.modify b _)[g]? = _
    rw [Array.getElem?_modify,if_neg hne,hg]
 ·refine (Any.Builder_copyCheck_used L X b w (by rw [Lib.cell_of_heap h1];rfl)).mono ?_
  rintro en w' ⟨rfl,rfl⟩
  exact ⟨rfl,⟨h1,h3,h4,h5⟩,BldChg.refl _ _ _⟩
set_option maxHeartbeats 2000000 in
set_option maxRecDepth 100000 in
theorem bld_write (L:Lays.n166 P ρ) (X:Builder.Extra P ρ) {T:TypeId} (hT:BltOK P T (ρ.t 72) (ρ.t 5)) (b:Nat) (u:Value) (s t:List UInt8) (w:World) (h:BldAt w b T (ρ.t 5) u s) (hlen:s.length+t.length≤140737488355328) :
  Calls P (ρ.f 166) #[.pointer (some ⟨b,0,none⟩),.string ⟨t.toArray⟩] w fun en w'=>∃ u',en=.returned (.tuple #[.int .i64 t.length,.nilIface])∧BldAt w' b T (ρ.t 5) u' (s++t)∧BldChg w w' b u u':=by
 obtain ⟨i0,hi,hz0,hz1,hz2⟩:=info_parts X.infoByte
 have hts:(ByteArray.mk t.toArray).size=t.length:=by simp [ByteArray.size]
 have mixed:=L.mixed
 have t72:=L.t72;have a72:=L.a72;have z72:=L.z72;have v72:=L.v72;have u72:=run_underlying L.t72
 have t70:=L.t70;have a70:=L.a70;have z70:=L.z70;have v70:=L.v70;have u70:=run_underlying L.t70
 have t37:=L.t37;have a37:=L.a37;have z37:=L.z37;have v37:=L.v37;have u37:=run_underlying L.t37
 have t3:=L.t3;have a3:=L.a3;have z3:=L.z3;have v3:=L.v3;have u3:=run_underlying L.t3
 have t9:=L.t9;have a9:=L.a9;have z9:=L.z9;have v9:=L.v9;have u9:=run_underlying L.t9
 have t4:=L.t4;have a4:=L.a4;have z4:=L.z4;have v4:=L.v4;have u4:=run_underlying L.t4
 have t164:=L.t164;have a164:=L.a164;have z164:=L.z164;have v164:=L.v164;have u164:=run_underlying L.t164
 have t5:=X.t5;have a5:=X.a5;have z5:=X.z5;have v5:=X.v5;have u5:=run_underlying X.t5
 have e240:∀ args w,(callFunc (ρ.f 240) args).run P w=.ok (.enter (ρ.f 240) args) w:=enters_of L.f240 (by kernel_rfl) rfl
 go_enter L.f166,Body.n166_ntmps ρ
 go_wp2_with (go_at_fn (ρ.f 240);refine (bld_check { L with } hT X.toX72 b _ h).mono ?_)
 rintro en w1 ⟨rfl,⟨hbk,hown,hne,hnil⟩,hch1⟩
 have c0:w1.cell? ⟨b,0,none⟩=some (.pointer (some ⟨b,0,none⟩)):=by rw [Lib.cell_of_heap hbk];rfl
 have c1:w1.cell? ⟨b,1,none⟩=some u:=by rw [Lib.cell_of_heap hbk];rfl
 go_wp2_with (at_builtin;refine wpList_append_str rfl _ _ (ρ.t 37) (ρ.t 9) rfl 0 (ρ.t 5) i0 L.t37 L.t9 hi hz0 hz1 hz2 _ _ _ rfl hown ⟨t.toArray⟩ rfl ?c3 ?c4 (Nat.zero_le _) ?_)
 case c3=>rw [hts];unfold maxLen;omega
 case c4=>rw [hts];omega
 intro v' w2 hown' hgrow hiff hlk how
 have hlt:b<w1.heap.size:=(Array.getElem?_eq_some_iff.1 hbk).1
 have hb2:w2.heap[b]? = some (.cells #[.pointer (some ⟨b,0,none⟩),u] T (0,0)):=by
  rw [hgrow.block b hlt (fun e=>hne e.symm)]
  exact hbk
 have d0:w2.cell? ⟨b,0,none⟩=some (.pointer (some ⟨b,0,none⟩)):=by rw [Lib.cell_of_heap hb2];rfl
 have d1:w2.cell? ⟨b,1,none⟩=some u:=by rw [Lib.cell_of_heap hb2];rfl
 have f1:w2.frozen? ⟨b,1,none⟩=false:=Lib.frozen_of_heap hb2 1
 obtain ⟨ao,n',cap,rfl⟩:∃ ao n' cap,v'=.slice ao n' cap:=by
  rcases hown'.2 with ⟨hv,_⟩ | ⟨g,cap,cur,hv,_⟩
  ·exact ⟨_,_,_,hv⟩
  ·exact ⟨_,_,_,hv⟩
 go_wp2
 go_ret2
 have hneb:(Value.slice ao n' cap).ownBlock≠some b:=fun e=>by
  rcases how b e with h1 | h1
  ·exact hne h1
  ·omega
 have hcells:bytV s++Lib.strCells ⟨t.toArray⟩=bytV (s++t):=by simp [bytV,Lib.strCells]
 simp only [hts,hcells] at hown'
 refine ⟨.slice ao n' cap,by simp [ByteArray.size],⟨_,?_,.inr rfl,⟨by rw [List.length_append];exact hown'.1,?_⟩,hneb,fun hst=>?_⟩,hch1.trans ?_⟩
 ·show (w2.heap.modify b _)[b]? = _
  rw [Array.getElem?_modify,if_pos rfl,hb2]
  rfl
 ·rw [List.length_append]
  rcases hown'.2 with h | ⟨g,cap',cur,hv,hb,hg,hr⟩
  ·exact .inl h
  ·refine .inr ⟨g,cap',cur,hv,hb,?_,hr⟩
   have hbg:b≠g:=fun e=>hneb (by rw [hv,e];rfl)
   show (w2.heap.modify b _)[g]? = _
   rw [Array.getElem?_modify,if_neg hbg,hg]
 ·obtain ⟨rfl,rfl⟩:=List.append_eq_nil_iff.1 hst
  exact hiff.2 ⟨hnil rfl,by simp [ByteArray.size]⟩
 ·have q:BldChg w1 w2 b u (.slice ao n' cap):=⟨hgrow.os,hgrow.tape,hgrow.output,hgrow.size,hlk,fun k hk _ h2=>hgrow.block k hk (fun e=>h2 e.symm),how⟩
  exact q.trans (bldChg_set 1 _ fun _ h=>.inl h)
theorem BldChg.drew {w w':World} {b:Nat} {u:Value} (h:BldChg w w' b u (.slice none 0 0)):BldChg w w'.drew b u (.slice none 0 0) :=
 ⟨h.os,h.tape,h.output,h.size,h.lk.trans (LK.drew _),h.block,h.own⟩
set_option maxHeartbeats 1000000 in
set_option maxRecDepth 100000 in
theorem bld_str (L:Lays.n169 P ρ) (X:Builder.Extra P ρ) {T:TypeId} (b:Nat) (u:Value) (l:List UInt8) (w:World) (h:BldAt w b T (ρ.t 5) u l) :
  Calls P (ρ.f 169) #[.pointer (some ⟨b,0,none⟩)] w fun e w'=>e=.returned (.string ⟨l.toArray⟩)∧BldChg w w' b u (.slice none 0 0):=by
 obtain ⟨p,hbk,_,hown,hne,hnil⟩:=h
 have mixed:=L.mixed
 have t72:=L.t72;have a72:=L.a72;have z72:=L.z72;have v72:=L.v72;have u72:=run_underlying L.t72
 have t70:=L.t70;have a70:=L.a70;have z70:=L.z70;have v70:=L.v70;have u70:=run_underlying L.t70
 have t37:=L.t37;have a37:=L.a37;have z37:=L.z37;have v37:=L.v37;have u37:=run_underlying L.t37
 have t127:=L.t127;have a127:=L.a127;have z127:=L.z127;have v127:=L.v127;have u127:=run_underlying L.t127
 have t3:=L.t3;have a3:=L.a3;have z3:=L.z3;have v3:=L.v3;have u3:=run_underlying L.t3
 have t9:=L.t9;have a9:=L.a9;have z9:=L.z9;have v9:=L.v9;have u9:=run_underlying L.t9
 have t5:=X.t5;have a5:=X.a5;have z5:=X.z5;have v5:=X.v5;have u5:=run_underlying X.t5
 have q0:BldChg w w b u (.slice none 0 0):=⟨rfl,rfl,rfl,Nat.le_refl _,LK.refl _,fun _ _ _ _=>rfl,fun _ h=>by cases h⟩
 by_cases h0:l=[]
 ·have hu:=hnil h0
  subst hu
  subst h0
  have c1:w.drew.cell? ⟨b,1,none⟩=some (.slice none 0 0):=by
   have:w.drew.heap[b]? = some (.cells #[p,.slice none 0 0] T (0,0)):=hbk
   rw [Lib.cell_of_heap this];rfl
  have hSD:(Builtin.unsafeSliceData_ #[(ρ.t 37)] (ρ.t 127) #[.slice none 0 0]).run P w.drew=.ok (.pointer none) w.drew:=rfl
  have hUS:=Any.unsafeString_none L X
  go_enter L.f169,Body.n169_ntmps ρ
  go_wp2
  go_region_o
  all_goals (go_wp2;go_ret;exact ⟨rfl,q0.drew⟩)
 ·have hl0:l.length≠0:=by simpa using h0
  obtain ⟨g,cap,cur,rfl,hbg,hg,hnc,hcm,hcs,htake⟩:∃ g cap cur,u=.slice (some ⟨g,0,none⟩) l.length cap∧0≤g∧w.heap[g]? = some (.cells cur (ρ.t 5) (0,0))∧l.length≤cap∧cap≤maxLen∧cur.size=cap*1∧cur.toList.take (l.length*1)=bytV l:=by
   rcases hown.2 with ⟨_,hz⟩ | ⟨g,cap,cur,hv,r⟩
   ·exact absurd hz hl0
   ·exact ⟨g,cap,cur,hv,r⟩
  have c1:w.drew.cell? ⟨b,1,none⟩=some (.slice (some ⟨g,0,none⟩) l.length cap):=by
   have:w.drew.heap[b]? = some (.cells #[p,.slice (some ⟨g,0,none⟩) l.length cap] T (0,0)):=hbk
   rw [Lib.cell_of_heap this];rfl
  have hSD:(Builtin.unsafeSliceData_ #[(ρ.t 37)] (ρ.t 127) #[.slice (some ⟨g,0,none⟩) l.length cap]).run P w.drew=.ok (.pointer (some ⟨g,0,none⟩)) w.drew :=
   Lib.run_unsafeSliceData_row _ _ _ _ _ _ (by omega)
  have hUS:(Builtin.unsafeString_ #[(ρ.t 127),(ρ.t 3)] (ρ.t 9) #[.pointer (some ⟨g,0,none⟩),.int .i64 l.length]).run P w.drew=.ok (.string ⟨l.toArray⟩) (w.drew.freeze ⟨g,0,none⟩ l.length):=by
   refine Lib.run_unsafeString_row w.drew (ρ.t 127) (ρ.t 3) (ρ.t 9) (ρ.t 5) L.t127 X.cellsByte g cur.size (by have hg':w.drew.heap[g]? = some (.cells cur (ρ.t 5) (0,0)):=hg;simp [World.shape?,hg']) l h0 (by omega) (by unfold maxLen at hcm;omega) ?_
   intro j x hx
   have:=hown.cells (g:=g) rfl j (.int .u8 x.toNat) (by simp [bytV,hx])
   exact this
  have q1:BldChg w (w.drew.freeze ⟨g,0,none⟩ l.length) b (.slice (some ⟨g,0,none⟩) l.length cap) (.slice none 0 0):=by
   have hfr:∀ k,k≠g→(w.drew.freeze ⟨g,0,none⟩ l.length).heap[k]? = w.heap[k]? := fun k hk=>by
    unfold World.freeze
    rw [if_neg hl0]
    show (w.drew.heap.modify g _)[k]? = _
    rw [Array.getElem?_modify,if_neg (Ne.symm hk)]
    rfl
   obtain ⟨e1,e2,e3,e4,e5⟩:=freeze_same w.drew ⟨g,0,none⟩ l.length
   refine ⟨e1,e2,e3,Nat.le_of_eq e4.symm,.of (by rw [e5];exact Nat.le_succ _) fun k o hk hne=>?_,fun k hk _ h2=>hfr k fun e=>h2 (by rw [e];rfl),fun _ h=>by cases h⟩
   by_cases hkg:k=g
   ·subst hkg
    rw [hg] at hk
    cases hk
    exact absurd rfl (hne _ _ _)
   ·rw [hfr k hkg];exact hk
  go_enter L.f169,Body.n169_ntmps ρ
  go_wp2
  go_region_o
  all_goals (go_wp2;go_ret;exact ⟨rfl,q1⟩)
theorem ext_wstr (L:Lays.n166 P ρ) (X:Builder.Extra P ρ) {f TB e:Nat} (hf:ρ.f 166=f) (hT:ρ.t 72=TB) (he:ρ.t 5=e) (en:∀ (args:Array Value) (w:World),(callFunc f args).run P w=.ok (.enter f args) w):ExtOK P f (.wstr TB e):=by
 subst hf hT he
 exact ⟨en,fun T hT b u s t w h hl=>bld_write L X hT b u s t w h hl⟩
theorem ext_stri (L:Lays.n169 P ρ) (X:Builder.Extra P ρ) {f TB e:Nat} (hf:ρ.f 169=f) (hT:ρ.t 72=TB) (he:ρ.t 5=e) (en:∀ (args:Array Value) (w:World),(callFunc f args).run P w=.ok (.enter f args) w):ExtOK P f (.stri TB e):=by
 subst hf hT he
 exact ⟨en,fun T hT b u s w h=>bld_str L X b u s w h⟩
end
section
variable {P:Program} {ρ:Ren} {S:Cells} {w w':World} {η:Eta}
theorem keep_below (hin:InW S w) (h:Below w.heap.size w w'):Keep S w S w':=⟨fun _ _ h=>h,fun b o hb=>h.cell (p:=⟨b,o,none⟩) (hin.lt b o hb)⟩
theorem grow_below (hin:InW S w) (h:Below w.heap.size w w') (hl:LK w w'):Grow w.heap.size S w S w':=⟨h,keep_below hin h,fun b o hb=>Nat.lt_of_lt_of_le (hin.lt b o hb) h.size,fun _ _ h=>.inl h,hl⟩
theorem rv_str {x:List UInt8} {v:Value} (h:RM S w η (Ty.str.rv x) v):v=.string ⟨x.toArray⟩∧x.length≤maxLen:=(PM.str (S:=S) (w:=w) (η:=η)).1 h
theorem rv_int {x:Int} {v:Value} (h:RM S w η ((Ty.int .i64).rv x) v):v=.int .i64 x∧IntKind.i64.has x:=(PM.int (S:=S) (w:=w) (η:=η)).1 h
theorem pm_str {x:List UInt8} (h:x.length≤maxLen):PM S w η (resPV (rvs [.str] x)) (.string ⟨x.toArray⟩):=(PM.str (S:=S) (w:=w) (η:=η)).2 ⟨rfl,h⟩
theorem trimPrefix_length (s p:List UInt8):(Lib.trimPrefix s p).length≤s.length:=by
 unfold Lib.trimPrefix
 split
 ·rw [List.length_drop];omega
 ·exact Nat.le_refl _
theorem spec_pref (L:Lays.n101 P ρ) {f:Nat} (hf:ρ.f 101=f):SpecOK P f ⟨[.str,.str],[.str],fun x=>some (prefM x.1 x.2)⟩:=by
 subst hf
 intro x r hr S w η vs hi hv
 have hr:some (prefM x.1 x.2)=some r:=hr
 have hr:=Option.some.inj hr
 cases hv with
 | cons h1 h2 =>
  cases h2 with
  | cons h2 h3 =>
   cases h3
   obtain ⟨rfl,l1⟩:=rv_str h1
   obtain ⟨rfl,l2⟩:=rv_str h2
   refine (Any.strings_TrimPrefix L ⟨x.1.toArray⟩ ⟨x.2.toArray⟩ w).mono fun en w' ⟨he,hw⟩=>?_
   subst hw
   refine ⟨_,S,he,Grow.refl hi.lt,?_⟩
   rw [← hr]
   exact pm_str (Nat.le_trans (trimPrefix_length _ _) l1)
theorem dropWhile_length {α:Type} (p:α→Bool):∀ l:List α,(l.dropWhile p).length≤l.length
 | []=>Nat.le_refl _
 | x::l=>by
  unfold List.dropWhile
  split
  ·exact Nat.le_trans (dropWhile_length p l) (Nat.le_succ _)
  ·exact Nat.le_refl _
theorem trimS_length (s c:List UInt8):(Lib.trimS s c).length≤s.length:=by
 unfold Lib.trimS Lib.trimLeftS Lib.trimRightS
 refine Nat.le_trans (dropWhile_length _ _) ?_
 rw [List.length_reverse]
 refine Nat.le_trans (dropWhile_length _ _) ?_
 rw [List.length_reverse]
 exact Nat.le_refl _
theorem spec_trim (hd:drawsB=false) (L:Lays.n160 P ρ) (h116:(P.info? (ρ.t 116)).map (fun i=>(i.zero,i.size))=some (some (.agg (Array.replicate 256 (.bool false))),256)) {f:Nat} (hf:ρ.f 160=f):SpecOK P f ⟨[.str,.str],[.str],fun x=>trimM x.1 x.2⟩:=by
 subst hf
 intro x r hr S w η vs hi hv
 have hr:trimM x.1 x.2=some r:=hr
 unfold trimM at hr
 split at hr
 ·rename_i c1 c2
  have c2:=of_decide_eq_true c2
  have hr:=Option.some.inj hr
  cases hv with
  | cons h1 h2 =>
   cases h2 with
   | cons h2 h3 =>
    cases h3
    obtain ⟨rfl,l1⟩:=rv_str h1
    obtain ⟨rfl,l2⟩:=rv_str h2
    refine (Any.strings_Trim_laid L h116 ⟨x.1.toArray⟩ ⟨x.2.toArray⟩ w (by simpa [ByteArray.size,maxLen] using l1) (by simpa [ByteArray.size] using c2) (ascii_of_all (by simpa using c1))).mono fun en w' ⟨he,hw⟩=>?_
    refine ⟨_,S,he,grow_below hi hw (.below hd hw.block),?_⟩
    rw [← hr]
    exact pm_str (Nat.le_trans (trimS_length _ _) l1)
 ·cases hr
theorem spec_rept (hd:drawsB=false) (L:Lays.n105 P ρ) (X:Builder.Extra P ρ) {f:Nat} (hf:ρ.f 105=f):SpecOK P f ⟨[.str,.int .i64],[.str],fun x=>rptM x.1 x.2⟩:=by
 subst hf
 intro x r hr S w η vs hi hv
 have hr:rptM x.1 x.2=some r:=hr
 unfold rptM at hr
 split at hr
 ·rename_i c1 c2 c3
  have c1:=of_decide_eq_true c1
  have c2:=of_decide_eq_true c2
  have c3:=of_decide_eq_true c3
  have hr:=Option.some.inj hr
  cases hv with
  | cons h1 h2 =>
   cases h2 with
   | cons h2 h3 =>
    cases h3
    obtain ⟨rfl,l1⟩:=rv_str h1
    obtain ⟨rfl,l2⟩:=rv_int h2
    have hc:=Any.strings_Repeat L X ⟨x.1.toArray⟩ x.2.toNat w (by omega) (by simpa [ByteArray.size] using c2)
    rw [Int.toNat_of_nonneg c1] at hc
    refine hc.mono fun en w' ⟨he,hw⟩=>?_
    refine ⟨_,S,he,grow_below hi hw (.below hd hw.block),?_⟩
    rw [← hr]
    refine pm_str ?_
    rw [Lib.repeatL_length,Nat.mul_comm]
    unfold maxLen
    omega
 ·cases hr
theorem tab_of_glob {P:Program} {name:String} {g:Nat} {xs:List Int} (hg:P.globalNamed name=some g) (ht:lk globTab g=some ⟨.int .u64,xs⟩) (h0:xs≠[]) (hi:InW S w):Lib.TabIs P w name .u64 xs:=by
 obtain ⟨⟨_,h1⟩,h2⟩:=hi.gl g _ ht
 have h2':∀ i (x:Int),xs[i]? = some x→w.cell? ⟨g,i,none⟩=some (.int .u64 x):=fun i x hx=>by
  obtain ⟨es,h3,h4⟩:=h2 i x hx
  obtain ⟨rfl,_⟩:=h3
  have:=(h4 0 _ rfl).2
  simpa [Ty.size] using this
 have h1':w.cell? ⟨g,xs.length,none⟩=none:=by simpa [Ty.size] using h1
 obtain ⟨x0,r,rfl⟩:=List.exists_cons_of_ne_nil h0
 obtain ⟨cs,el,fr,hc,_⟩:=cells_of_cell? (h2' 0 x0 rfl)
 have hcell:∀ i,w.cell? ⟨g,i,none⟩=cs[i]? := fun i=>by simp [World.cell?,hc]
 unfold Lib.TabIs World.var?
 rw [hg]
 show (match w.heap[g]? with | some (.cells cs _ _)=>some cs | _=>none)=_
 rw [hc]
 refine congrArg some (Array.ext_getElem? fun i=>?_)
 rw [← hcell]
 by_cases hi:i<(x0::r).length
 ·rw [h2' i _ (List.getElem?_eq_getElem hi),List.getElem?_toArray,List.getElem?_map,List.getElem?_eq_getElem hi]
  rfl
 ·have hsz:cs.size≤(x0::r).length:=by
   have:=h1'
   rw [hcell] at this
   exact Array.getElem?_eq_none_iff.1 this
  rw [hcell,Array.getElem?_eq_none (by omega),Array.getElem?_eq_none (by simpa using hi)]
theorem itoa_length (n:Int) (h:IntKind.i64.has n):(Lib.itoa n).length≤maxLen:=by
 have key:∀ (k u:Nat),u<10 ^ k→(Lib.decDigits u).length≤k+1:=by
  intro k
  induction k with
  | zero =>
   intro u hu
   rw [Lib.decDigits,dif_pos (by omega)]
   simp
  | succ k ih =>
   intro u hu
   rw [Lib.decDigits]
   split
   ·simp
   ·rw [List.length_append]
    have:=ih (u / 10) (by rw [Nat.pow_succ] at hu;omega)
    simp only [List.length_cons,List.length_nil]
    omega
 have:=has_i64.1 h
 unfold Lib.itoa
 split
 ·have:=key 20 n.natAbs (by omega)
  simp only [List.length_cons,maxLen]
  omega
 ·have:=key 20 n.toNat (by omega)
  simp only [maxLen]
  omega
theorem below_grow (w:World) (k:Nat) (os:Array Obj):Below w.heap.size w (grow (w.drewN k) os):=by
 refine ⟨rfl,rfl,rfl,by rw [size_grow];show w.heap.size≤w.heap.size+_;omega,fun b hb=>?_⟩
 rw [heap_grow_old _ _ (show b<(w.drewN k).heap.size from hb)]
 rfl
theorem lk_grow (w:World) (k:Nat) (os:Array Obj):LK w (grow (w.drewN k) os):=.of (show w.drawn≤w.drawn+k by omega) fun b o hb _=>by
 rw [(below_grow w k os).block b (Array.getElem?_eq_some_iff.1 hb).1];exact hb
theorem spec_itoa (L:LaysM.n171 P ρ) {f g:Nat} (hf:ρ.f 171=f) (hg:P.globalNamed "internal/strconv.uint64pow10"=some g) (ht:lk globTab g=some ⟨.int .u64,Lib.pow10Tab⟩):SpecOK P f ⟨[.int .i64],[.str],fun x=>some (itoaM x)⟩:=by
 subst hf
 intro x r hr S w η vs hi hv
 have hr:some (itoaM x)=some r:=hr
 have hr:=Option.some.inj hr
 cases hv with
 | cons h1 h2 =>
  cases h2
  obtain ⟨rfl,l1⟩:=rv_int h1
  have l2:=has_i64.1 l1
  refine (Any.strconv_Itoa L x l2.1 l2.2 w (tab_of_glob hg ht (by simp [Lib.pow10Tab]) hi)).mono fun en w' ⟨he,k,os,hw⟩=>?_
  subst hw
  refine ⟨_,S,he,grow_below hi (below_grow _ _ _) (lk_grow _ _ _),?_⟩
  rw [← hr]
  exact pm_str (itoa_length x l1)
theorem ext_atoi (L:LaysC.n172 P ρ) {f:Nat} (hf:ρ.f 172=f) (en:∀ (args:Array Value) (w:World),(callFunc f args).run P w=.ok (.enter f args) w):ExtOK P f (.atoi atoiM):=by
 subst hf
 refine ⟨en,fun s n hn=>?_⟩
 unfold atoiM at hn
 split at hn
 ·rename_i v hv hl
  have hl:=of_decide_eq_true hl
  split at hn
  ·rename_i c1 c2
   have c1:=of_decide_eq_true c1
   have c2:=of_decide_eq_true c2
   have hn:=Option.some.inj hn
   subst hn
   refine ⟨has_i64.2 ⟨c1,c2⟩,fun S w hi=>?_⟩
   refine (Any.strconv_Atoi_ok L ⟨s.toArray⟩ (by simpa [ByteArray.size] using hl) v (by simpa using hv) w).mono fun en w' ⟨he,hw⟩=>?_
   rcases hw with rfl | ⟨t,rfl⟩
   ·exact ⟨S,he,Grow.refl hi.lt⟩
   ·have hb:Below w.heap.size w (Lib.bytesWorld w (ρ.t 5) t)∧LK w (Lib.bytesWorld w (ρ.t 5) t):=by
     unfold Lib.bytesWorld
     obtain ⟨e1,e2,e3,e4,e5⟩:=freeze_same (w.drew.alloc (.cells (Lib.bytesCells w (ρ.t 5) t) (ρ.t 5))) ⟨w.heap.size,(Lib.bytesCells w (ρ.t 5) t).size,none⟩ 1
     have hbl:∀ k,k<w.heap.size→((w.drew.alloc (.cells (Lib.bytesCells w (ρ.t 5) t) (ρ.t 5))).freeze ⟨w.heap.size,(Lib.bytesCells w (ρ.t 5) t).size,none⟩ 1).heap[k]? = w.heap[k]? := fun k hk=>by
      unfold World.freeze
      rw [if_neg (by decide)]
      show ((w.drew.alloc _).heap.modify w.heap.size _)[k]? = _
      rw [Array.getElem?_modify,if_neg (by omega)]
      exact Below.heap_alloc _ _ _ hk
     refine ⟨⟨e1,e2,e3,by rw [e4,World.size_alloc];exact Nat.le_succ _,hbl⟩,.of (by rw [e5];exact Nat.le_succ _) fun b o hb _=>?_⟩
     rw [hbl b (Array.getElem?_eq_some_iff.1 hb).1];exact hb
    exact ⟨S,he,grow_below hi hb.1 hb.2⟩
  ·cases hn
 ·cases hn
end
end Go.PE
namespace Go.Proofs
open Go.Shelf
def Tryz.lays138_ren:Go.Shelf.Ren:=⟨fun | 189=>38 | 125=>71 | 257=>70 | 128=>112 | 129=>113 | 294=>103 | 295=>104 | 296=>105 | 297=>106 | 298=>107 | 299=>108 | 216=>109 | 300=>110 | 301=>111 | 328=>135 | 329=>136 | 330=>137 | 331=>138 | 332=>139 | 215=>92 | 343=>154 | n=>n,fun | 28=>23 | 3=>3 | 46=>145 | 0=>0 | 51=>177 | 53=>179 | 4=>4 | 183=>170 | 182=>169 | 131=>174 | 5=>5 | 9=>9 | 218=>198 | 222=>202 | 228=>218 | 229=>219 | n=>n,fun | n=>n⟩
theorem Tryz.lays138:Go.Proofs.Lays.n189 Tryz.prog Tryz.lays138_ren:={
 mixed:=by kernel_rfl
 f125:=Tryz.func71.trans (congrArg some (by kernel_rfl))
 f128:=Tryz.func112.trans (congrArg some (by kernel_rfl))
 f129:=Tryz.func113.trans (congrArg some (by kernel_rfl))
 f189:=Tryz.func38.trans (congrArg some (by kernel_rfl))
 f215:=Tryz.func92.trans (congrArg some (by kernel_rfl))
 f216:=Tryz.func109.trans (congrArg some (by kernel_rfl))
 f257:=Tryz.func70.trans (congrArg some (by kernel_rfl))
 f294:=Tryz.func103.trans (congrArg some (by kernel_rfl))
 f295:=Tryz.func104.trans (congrArg some (by kernel_rfl))
 f296:=Tryz.func105.trans (congrArg some (by kernel_rfl))
 f297:=Tryz.func106.trans (congrArg some (by kernel_rfl))
 f298:=Tryz.func107.trans (congrArg some (by kernel_rfl))
 f299:=Tryz.func108.trans (congrArg some (by kernel_rfl))
 f300:=Tryz.func110.trans (congrArg some (by kernel_rfl))
 f301:=Tryz.func111.trans (congrArg some (by kernel_rfl))
 f328:=Tryz.func135.trans (congrArg some (by kernel_rfl))
 f329:=Tryz.func136.trans (congrArg some (by kernel_rfl))
 f330:=Tryz.func137.trans (congrArg some (by kernel_rfl))
 f331:=Tryz.func138.trans (congrArg some (by kernel_rfl))
 f332:=Tryz.func139.trans (congrArg some (by kernel_rfl))
 f343:=Tryz.func154.trans (congrArg some (by kernel_rfl))
 t0:=Tryz.underlying0
 a0:=Tryz.isAgg0
 z0:=Tryz.sizeOf0
 v0:=Tryz.zeroValue0
 t3:=Tryz.underlying3
 a3:=Tryz.isAgg3
 z3:=Tryz.sizeOf3
 v3:=Tryz.zeroValue3
 t4:=Tryz.underlying4
 a4:=Tryz.isAgg4
 z4:=Tryz.sizeOf4
 v4:=Tryz.zeroValue4
 t5:=Tryz.underlying5
 a5:=Tryz.isAgg5
 z5:=Tryz.sizeOf5
 v5:=Tryz.zeroValue5
 t9:=Tryz.underlying9
 a9:=Tryz.isAgg9
 z9:=Tryz.sizeOf9
 v9:=Tryz.zeroValue9
 t28:=Tryz.underlying23
 a28:=Tryz.isAgg23
 z28:=Tryz.sizeOf23
 v28:=Tryz.zeroValue23
 t46:=Tryz.underlying145
 a46:=Tryz.isAgg145
 z46:=Tryz.sizeOf145
 v46:=Tryz.zeroValue145
 t51:=Tryz.underlying177
 a51:=Tryz.isAgg177
 z51:=Tryz.sizeOf177
 v51:=Tryz.zeroValue177
 t53:=Tryz.underlying179
 a53:=Tryz.isAgg179
 z53:=Tryz.sizeOf179
 v53:=Tryz.zeroValue179
 t131:=Tryz.underlying174
 a131:=Tryz.isAgg174
 z131:=Tryz.sizeOf174
 v131:=Tryz.zeroValue174
 t182:=Tryz.underlying169
 a182:=Tryz.isAgg169
 z182:=Tryz.sizeOf169
 v182:=Tryz.zeroValue169
 t183:=Tryz.underlying170
 a183:=Tryz.isAgg170
 z183:=Tryz.sizeOf170
 v183:=Tryz.zeroValue170
 t218:=Tryz.underlying198
 a218:=Tryz.isAgg198
 z218:=Tryz.sizeOf198
 v218:=Tryz.zeroValue198
 t222:=Tryz.underlying202
 a222:=Tryz.isAgg202
 z222:=Tryz.sizeOf202
 v222:=Tryz.zeroValue202
 t228:=Tryz.underlying218
 a228:=Tryz.isAgg218
 z228:=Tryz.sizeOf218
 v228:=Tryz.zeroValue218
 t229:=Tryz.underlying219
 a229:=Tryz.isAgg219
 z229:=Tryz.sizeOf219
 v229:=Tryz.zeroValue219 }
def Tryz.lays139_ren:Go.Shelf.Ren:=⟨fun | 20=>39 | n=>n,fun | 22=>23 | 3=>3 | 4=>4 | 0=>0 | n=>n,fun | n=>n⟩
theorem Tryz.lays139:Go.Proofs.Lays2.n20 Tryz.prog Tryz.lays139_ren:={
 mixed:=by kernel_rfl
 f20:=Tryz.func39.trans (congrArg some (by kernel_rfl))
 t0:=Tryz.underlying0
 a0:=Tryz.isAgg0
 z0:=Tryz.sizeOf0
 v0:=Tryz.zeroValue0
 t3:=Tryz.underlying3
 a3:=Tryz.isAgg3
 z3:=Tryz.sizeOf3
 v3:=Tryz.zeroValue3
 t4:=Tryz.underlying4
 a4:=Tryz.isAgg4
 z4:=Tryz.sizeOf4
 v4:=Tryz.zeroValue4
 t22:=Tryz.underlying23
 a22:=Tryz.isAgg23
 z22:=Tryz.sizeOf23
 v22:=Tryz.zeroValue23
 i3:=by kernel_rfl }
def Tryz.lays178_ren:Go.Shelf.Ren:=⟨fun | 101=>78 | 208=>119 | 206=>131 | n=>n,fun | 9=>9 | 4=>4 | 3=>3 | n=>n,fun | n=>n⟩
theorem Tryz.lays178:Go.Proofs.Lays.n101 Tryz.prog Tryz.lays178_ren:={
 mixed:=by kernel_rfl
 f101:=Tryz.func78.trans (congrArg some (by kernel_rfl))
 f206:=Tryz.func131.trans (congrArg some (by kernel_rfl))
 f208:=Tryz.func119.trans (congrArg some (by kernel_rfl))
 t3:=Tryz.underlying3
 a3:=Tryz.isAgg3
 z3:=Tryz.sizeOf3
 v3:=Tryz.zeroValue3
 t4:=Tryz.underlying4
 a4:=Tryz.isAgg4
 z4:=Tryz.sizeOf4
 v4:=Tryz.zeroValue4
 t9:=Tryz.underlying9
 a9:=Tryz.isAgg9
 z9:=Tryz.sizeOf9
 v9:=Tryz.zeroValue9 }
def Tryz.lays179_ren:Go.Shelf.Ren:=⟨fun | 160=>79 | 232=>121 | 231=>120 | 227=>122 | 234=>124 | 233=>123 | 236=>126 | 235=>125 | 228=>144 | 271=>147 | 151=>146 | 197=>145 | 120=>159 | 152=>158 | 260=>157 | 137=>163 | 119=>164 | 224=>165 | 225=>166 | 217=>169 | 266=>170 | n=>n,fun | 9=>9 | 4=>4 | 3=>3 | 5=>5 | 117=>187 | 116=>186 | 0=>0 | 124=>190 | 21=>21 | 105=>208 | 46=>145 | 119=>230 | 139=>233 | 138=>232 | n=>n,fun | 3=>6 | 4=>7 | n=>n⟩
theorem Tryz.lays179:Go.Proofs.Lays.n160 Tryz.prog Tryz.lays179_ren:={
 mixed:=by kernel_rfl
 f119:=Tryz.func164.trans (congrArg some (by kernel_rfl))
 f120:=Tryz.func159.trans (congrArg some (by kernel_rfl))
 f137:=Tryz.func163.trans (congrArg some (by kernel_rfl))
 f151:=Tryz.func146.trans (congrArg some (by kernel_rfl))
 f152:=Tryz.func158.trans (congrArg some (by kernel_rfl))
 f160:=Tryz.func79.trans (congrArg some (by kernel_rfl))
 f197:=Tryz.func145.trans (congrArg some (by kernel_rfl))
 f217:=Tryz.func169.trans (congrArg some (by kernel_rfl))
 f224:=Tryz.func165.trans (congrArg some (by kernel_rfl))
 f225:=Tryz.func166.trans (congrArg some (by kernel_rfl))
 f227:=Tryz.func122.trans (congrArg some (by kernel_rfl))
 f228:=Tryz.func144.trans (congrArg some (by kernel_rfl))
 f231:=Tryz.func120.trans (congrArg some (by kernel_rfl))
 f232:=Tryz.func121.trans (congrArg some (by kernel_rfl))
 f233:=Tryz.func123.trans (congrArg some (by kernel_rfl))
 f234:=Tryz.func124.trans (congrArg some (by kernel_rfl))
 f235:=Tryz.func125.trans (congrArg some (by kernel_rfl))
 f236:=Tryz.func126.trans (congrArg some (by kernel_rfl))
 f260:=Tryz.func157.trans (congrArg some (by kernel_rfl))
 f266:=Tryz.func170.trans (congrArg some (by kernel_rfl))
 f271:=Tryz.func147.trans (congrArg some (by kernel_rfl))
 t0:=Tryz.underlying0
 a0:=Tryz.isAgg0
 z0:=Tryz.sizeOf0
 v0:=Tryz.zeroValue0
 t3:=Tryz.underlying3
 a3:=Tryz.isAgg3
 z3:=Tryz.sizeOf3
 v3:=Tryz.zeroValue3
 t4:=Tryz.underlying4
 a4:=Tryz.isAgg4
 z4:=Tryz.sizeOf4
 v4:=Tryz.zeroValue4
 t5:=Tryz.underlying5
 a5:=Tryz.isAgg5
 z5:=Tryz.sizeOf5
 v5:=Tryz.zeroValue5
 t9:=Tryz.underlying9
 a9:=Tryz.isAgg9
 z9:=Tryz.sizeOf9
 v9:=Tryz.zeroValue9
 t21:=Tryz.underlying21
 a21:=Tryz.isAgg21
 z21:=Tryz.sizeOf21
 v21:=Tryz.zeroValue21
 t46:=Tryz.underlying145
 a46:=Tryz.isAgg145
 z46:=Tryz.sizeOf145
 v46:=Tryz.zeroValue145
 t105:=Tryz.underlying208
 a105:=Tryz.isAgg208
 z105:=Tryz.sizeOf208
 v105:=Tryz.zeroValue208
 t116:=Tryz.underlying186
 a116:=Tryz.isAgg186
 z116:=Tryz.sizeOf186
 t117:=Tryz.underlying187
 a117:=Tryz.isAgg187
 z117:=Tryz.sizeOf187
 v117:=Tryz.zeroValue187
 t119:=Tryz.underlying230
 a119:=Tryz.isAgg230
 z119:=Tryz.sizeOf230
 t124:=Tryz.underlying190
 a124:=Tryz.isAgg190
 z124:=Tryz.sizeOf190
 v124:=Tryz.zeroValue190
 t138:=Tryz.underlying232
 a138:=Tryz.isAgg232
 z138:=Tryz.sizeOf232
 v138:=Tryz.zeroValue232
 t139:=Tryz.underlying233
 a139:=Tryz.isAgg233
 z139:=Tryz.sizeOf233
 v139:=Tryz.zeroValue233
 g3:=by kernel_rfl
 g4:=by kernel_rfl }
def Tryz.lays158_ren:Go.Shelf.Ren:=⟨fun | 105=>58 | 212=>87 | 99=>88 | 165=>89 | 166=>59 | 170=>90 | 169=>60 | 263=>129 | 264=>130 | 206=>131 | 240=>91 | 241=>132 | 276=>133 | 277=>153 | n=>n,fun | 9=>9 | 3=>3 | 4=>4 | 20=>20 | 0=>0 | 46=>145 | 109=>155 | 5=>5 | 72=>122 | 76=>126 | 51=>177 | 146=>192 | 53=>179 | 148=>194 | 70=>119 | 37=>120 | 75=>125 | 127=>159 | 164=>196 | 80=>128 | n=>n,fun | n=>n⟩
theorem Tryz.lays158:Go.Proofs.Lays.n105 Tryz.prog Tryz.lays158_ren:={
 mixed:=by kernel_rfl
 f99:=Tryz.func88.trans (congrArg some (by kernel_rfl))
 f105:=Tryz.func58.trans (congrArg some (by kernel_rfl))
 f165:=Tryz.func89.trans (congrArg some (by kernel_rfl))
 f166:=Tryz.func59.trans (congrArg some (by kernel_rfl))
 f169:=Tryz.func60.trans (congrArg some (by kernel_rfl))
 f170:=Tryz.func90.trans (congrArg some (by kernel_rfl))
 f206:=Tryz.func131.trans (congrArg some (by kernel_rfl))
 f212:=Tryz.func87.trans (congrArg some (by kernel_rfl))
 f240:=Tryz.func91.trans (congrArg some (by kernel_rfl))
 f241:=Tryz.func132.trans (congrArg some (by kernel_rfl))
 f263:=Tryz.func129.trans (congrArg some (by kernel_rfl))
 f264:=Tryz.func130.trans (congrArg some (by kernel_rfl))
 f276:=Tryz.func133.trans (congrArg some (by kernel_rfl))
 f277:=Tryz.func153.trans (congrArg some (by kernel_rfl))
 t0:=Tryz.underlying0
 a0:=Tryz.isAgg0
 z0:=Tryz.sizeOf0
 v0:=Tryz.zeroValue0
 t3:=Tryz.underlying3
 a3:=Tryz.isAgg3
 z3:=Tryz.sizeOf3
 v3:=Tryz.zeroValue3
 t4:=Tryz.underlying4
 a4:=Tryz.isAgg4
 z4:=Tryz.sizeOf4
 v4:=Tryz.zeroValue4
 t5:=Tryz.underlying5
 a5:=Tryz.isAgg5
 z5:=Tryz.sizeOf5
 v5:=Tryz.zeroValue5
 t9:=Tryz.underlying9
 a9:=Tryz.isAgg9
 z9:=Tryz.sizeOf9
 v9:=Tryz.zeroValue9
 t20:=Tryz.underlying20
 a20:=Tryz.isAgg20
 z20:=Tryz.sizeOf20
 v20:=Tryz.zeroValue20
 t37:=Tryz.underlying120
 a37:=Tryz.isAgg120
 z37:=Tryz.sizeOf120
 v37:=Tryz.zeroValue120
 t46:=Tryz.underlying145
 a46:=Tryz.isAgg145
 z46:=Tryz.sizeOf145
 v46:=Tryz.zeroValue145
 t51:=Tryz.underlying177
 a51:=Tryz.isAgg177
 z51:=Tryz.sizeOf177
 v51:=Tryz.zeroValue177
 t53:=Tryz.underlying179
 a53:=Tryz.isAgg179
 z53:=Tryz.sizeOf179
 v53:=Tryz.zeroValue179
 t70:=Tryz.underlying119
 a70:=Tryz.isAgg119
 z70:=Tryz.sizeOf119
 v70:=Tryz.zeroValue119
 t72:=Tryz.underlying122
 a72:=Tryz.isAgg122
 z72:=Tryz.sizeOf122
 v72:=Tryz.zeroValue122
 t75:=Tryz.underlying125
 a75:=Tryz.isAgg125
 z75:=Tryz.sizeOf125
 v75:=Tryz.zeroValue125
 t76:=Tryz.underlying126
 a76:=Tryz.isAgg126
 z76:=Tryz.sizeOf126
 v76:=Tryz.zeroValue126
 t109:=Tryz.underlying155
 a109:=Tryz.isAgg155
 z109:=Tryz.sizeOf155
 v109:=Tryz.zeroValue155
 t127:=Tryz.underlying159
 a127:=Tryz.isAgg159
 z127:=Tryz.sizeOf159
 v127:=Tryz.zeroValue159
 t146:=Tryz.underlying192
 a146:=Tryz.isAgg192
 z146:=Tryz.sizeOf192
 v146:=Tryz.zeroValue192
 t148:=Tryz.underlying194
 a148:=Tryz.isAgg194
 z148:=Tryz.sizeOf194
 v148:=Tryz.zeroValue194
 t164:=Tryz.underlying196
 a164:=Tryz.isAgg196
 z164:=Tryz.sizeOf196
 v164:=Tryz.zeroValue196 }
def Tryz.lays128_ren:Go.Shelf.Ren:=⟨fun | 171=>28 | 243=>51 | 246=>76 | 283=>114 | 284=>115 | 285=>116 | 286=>117 | 129=>113 | 317=>140 | 318=>141 | 319=>142 | 320=>143 | 337=>155 | 338=>156 | n=>n,fun | 3=>3 | 9=>9 | 2=>2 | 4=>4 | 171=>180 | 0=>0 | 53=>179 | 37=>120 | 5=>5 | 173=>182 | 212=>205 | 51=>177 | 20=>20 | 213=>206 | 46=>145 | 232=>228 | 233=>229 | n=>n,fun | 17=>0 | 18=>4 | 19=>5 | n=>n⟩
theorem Tryz.lays128:Go.Proofs.LaysM.n171 Tryz.prog Tryz.lays128_ren:={
 mixed:=by kernel_rfl
 f129:=Tryz.func113.trans (congrArg some (by kernel_rfl))
 f171:=Tryz.func28.trans (congrArg some (by kernel_rfl))
 f243:=Tryz.func51.trans (congrArg some (by kernel_rfl))
 f246:=Tryz.func76.trans (congrArg some (by kernel_rfl))
 f283:=Tryz.func114.trans (congrArg some (by kernel_rfl))
 f284:=Tryz.func115.trans (congrArg some (by kernel_rfl))
 f285:=Tryz.func116.trans (congrArg some (by kernel_rfl))
 f286:=Tryz.func117.trans (congrArg some (by kernel_rfl))
 f317:=Tryz.func140.trans (congrArg some (by kernel_rfl))
 f318:=Tryz.func141.trans (congrArg some (by kernel_rfl))
 f319:=Tryz.func142.trans (congrArg some (by kernel_rfl))
 f320:=Tryz.func143.trans (congrArg some (by kernel_rfl))
 f337:=Tryz.func155.trans (congrArg some (by kernel_rfl))
 f338:=Tryz.func156.trans (congrArg some (by kernel_rfl))
 t0:=Tryz.underlying0
 a0:=Tryz.isAgg0
 z0:=Tryz.sizeOf0
 v0:=Tryz.zeroValue0
 t2:=Tryz.underlying2
 a2:=Tryz.isAgg2
 z2:=Tryz.sizeOf2
 v2:=Tryz.zeroValue2
 t3:=Tryz.underlying3
 a3:=Tryz.isAgg3
 z3:=Tryz.sizeOf3
 v3:=Tryz.zeroValue3
 t4:=Tryz.underlying4
 a4:=Tryz.isAgg4
 z4:=Tryz.sizeOf4
 v4:=Tryz.zeroValue4
 t5:=Tryz.underlying5
 a5:=Tryz.isAgg5
 z5:=Tryz.sizeOf5
 v5:=Tryz.zeroValue5
 t9:=Tryz.underlying9
 a9:=Tryz.isAgg9
 z9:=Tryz.sizeOf9
 v9:=Tryz.zeroValue9
 t20:=Tryz.underlying20
 a20:=Tryz.isAgg20
 z20:=Tryz.sizeOf20
 v20:=Tryz.zeroValue20
 t37:=Tryz.underlying120
 a37:=Tryz.isAgg120
 z37:=Tryz.sizeOf120
 v37:=Tryz.zeroValue120
 t46:=Tryz.underlying145
 a46:=Tryz.isAgg145
 z46:=Tryz.sizeOf145
 v46:=Tryz.zeroValue145
 t51:=Tryz.underlying177
 a51:=Tryz.isAgg177
 z51:=Tryz.sizeOf177
 v51:=Tryz.zeroValue177
 t53:=Tryz.underlying179
 a53:=Tryz.isAgg179
 z53:=Tryz.sizeOf179
 v53:=Tryz.zeroValue179
 t171:=Tryz.underlying180
 a171:=Tryz.isAgg180
 z171:=Tryz.sizeOf180
 v171:=Tryz.zeroValue180
 t173:=Tryz.underlying182
 a173:=Tryz.isAgg182
 z173:=Tryz.sizeOf182
 v173:=Tryz.zeroValue182
 t212:=Tryz.underlying205
 a212:=Tryz.isAgg205
 z212:=Tryz.sizeOf205
 v212:=Tryz.zeroValue205
 t213:=Tryz.underlying206
 a213:=Tryz.isAgg206
 z213:=Tryz.sizeOf206
 t232:=Tryz.underlying228
 a232:=Tryz.isAgg228
 z232:=Tryz.sizeOf228
 v232:=Tryz.zeroValue228
 t233:=Tryz.underlying229
 a233:=Tryz.isAgg229
 z233:=Tryz.sizeOf229
 v233:=Tryz.zeroValue229
 g17:=by kernel_rfl
 g18:=by kernel_rfl
 g19:=by kernel_rfl
 i0:=by kernel_rfl
 i2:=by kernel_rfl
 i3:=by kernel_rfl
 i4:=by kernel_rfl
 i5:=by kernel_rfl
 i9:=by kernel_rfl
 i20:=by kernel_rfl
 i37:=by kernel_rfl
 i46:=by kernel_rfl
 i51:=by kernel_rfl
 i53:=by kernel_rfl
 i171:=by kernel_rfl
 i173:=by kernel_rfl
 i212:=by kernel_rfl
 i232:=by kernel_rfl
 i233:=by kernel_rfl
 m17:=by kernel_rfl
 m18:=by kernel_rfl
 m19:=by kernel_rfl }
def Tryz.lays180_ren:Go.Shelf.Ren:=⟨fun | 172=>80 | 244=>127 | 245=>128 | 247=>148 | 279=>149 | 280=>150 | 281=>151 | 282=>152 | 287=>160 | 316=>161 | 171=>28 | 205=>162 | 321=>167 | 322=>168 | 243=>51 | 246=>76 | 283=>114 | 284=>115 | 285=>116 | 286=>117 | 129=>113 | 317=>140 | 318=>141 | 319=>142 | 320=>143 | 337=>155 | 338=>156 | n=>n,fun | 9=>9 | 3=>3 | 75=>125 | 76=>126 | 4=>4 | 5=>5 | 167=>211 | 37=>120 | 0=>0 | 85=>212 | 2=>2 | 168=>214 | 53=>179 | 175=>222 | 46=>145 | 210=>226 | 127=>159 | 145=>239 | 143=>237 | 21=>21 | 171=>180 | 173=>182 | 212=>205 | 51=>177 | 20=>20 | 213=>206 | 232=>228 | 233=>229 | 80=>128 | n=>n,fun | 15=>1 | 16=>2 | 17=>0 | 18=>4 | 19=>5 | n=>n⟩
theorem Tryz.lays180:Go.Proofs.LaysC.n172 Tryz.prog Tryz.lays180_ren:={
 mixed:=by kernel_rfl
 f129:=Tryz.func113.trans (congrArg some (by kernel_rfl))
 f171:=Tryz.func28.trans (congrArg some (by kernel_rfl))
 f172:=Tryz.func80.trans (congrArg some (by kernel_rfl))
 f205:=Tryz.func162.trans (congrArg some (by kernel_rfl))
 f243:=Tryz.func51.trans (congrArg some (by kernel_rfl))
 f244:=Tryz.func127.trans (congrArg some (by kernel_rfl))
 f245:=Tryz.func128.trans (congrArg some (by kernel_rfl))
 f246:=Tryz.func76.trans (congrArg some (by kernel_rfl))
 f247:=Tryz.func148.trans (congrArg some (by kernel_rfl))
 f279:=Tryz.func149.trans (congrArg some (by kernel_rfl))
 f280:=Tryz.func150.trans (congrArg some (by kernel_rfl))
 f281:=Tryz.func151.trans (congrArg some (by kernel_rfl))
 f282:=Tryz.func152.trans (congrArg some (by kernel_rfl))
 f283:=Tryz.func114.trans (congrArg some (by kernel_rfl))
 f284:=Tryz.func115.trans (congrArg some (by kernel_rfl))
 f285:=Tryz.func116.trans (congrArg some (by kernel_rfl))
 f286:=Tryz.func117.trans (congrArg some (by kernel_rfl))
 f287:=Tryz.func160.trans (congrArg some (by kernel_rfl))
 f316:=Tryz.func161.trans (congrArg some (by kernel_rfl))
 f317:=Tryz.func140.trans (congrArg some (by kernel_rfl))
 f318:=Tryz.func141.trans (congrArg some (by kernel_rfl))
 f319:=Tryz.func142.trans (congrArg some (by kernel_rfl))
 f320:=Tryz.func143.trans (congrArg some (by kernel_rfl))
 f321:=Tryz.func167.trans (congrArg some (by kernel_rfl))
 f322:=Tryz.func168.trans (congrArg some (by kernel_rfl))
 f337:=Tryz.func155.trans (congrArg some (by kernel_rfl))
 f338:=Tryz.func156.trans (congrArg some (by kernel_rfl))
 t0:=Tryz.underlying0
 a0:=Tryz.isAgg0
 z0:=Tryz.sizeOf0
 v0:=Tryz.zeroValue0
 t2:=Tryz.underlying2
 a2:=Tryz.isAgg2
 z2:=Tryz.sizeOf2
 v2:=Tryz.zeroValue2
 t3:=Tryz.underlying3
 a3:=Tryz.isAgg3
 z3:=Tryz.sizeOf3
 v3:=Tryz.zeroValue3
 t4:=Tryz.underlying4
 a4:=Tryz.isAgg4
 z4:=Tryz.sizeOf4
 v4:=Tryz.zeroValue4
 t5:=Tryz.underlying5
 a5:=Tryz.isAgg5
 z5:=Tryz.sizeOf5
 v5:=Tryz.zeroValue5
 t9:=Tryz.underlying9
 a9:=Tryz.isAgg9
 z9:=Tryz.sizeOf9
 v9:=Tryz.zeroValue9
 t20:=Tryz.underlying20
 a20:=Tryz.isAgg20
 z20:=Tryz.sizeOf20
 v20:=Tryz.zeroValue20
 t21:=Tryz.underlying21
 a21:=Tryz.isAgg21
 z21:=Tryz.sizeOf21
 v21:=Tryz.zeroValue21
 t37:=Tryz.underlying120
 a37:=Tryz.isAgg120
 z37:=Tryz.sizeOf120
 v37:=Tryz.zeroValue120
 t46:=Tryz.underlying145
 a46:=Tryz.isAgg145
 z46:=Tryz.sizeOf145
 v46:=Tryz.zeroValue145
 t51:=Tryz.underlying177
 a51:=Tryz.isAgg177
 z51:=Tryz.sizeOf177
 v51:=Tryz.zeroValue177
 t53:=Tryz.underlying179
 a53:=Tryz.isAgg179
 z53:=Tryz.sizeOf179
 v53:=Tryz.zeroValue179
 t75:=Tryz.underlying125
 a75:=Tryz.isAgg125
 z75:=Tryz.sizeOf125
 v75:=Tryz.zeroValue125
 t76:=Tryz.underlying126
 a76:=Tryz.isAgg126
 z76:=Tryz.sizeOf126
 v76:=Tryz.zeroValue126
 t85:=Tryz.underlying212
 a85:=Tryz.isAgg212
 z85:=Tryz.sizeOf212
 v85:=Tryz.zeroValue212
 t127:=Tryz.underlying159
 a127:=Tryz.isAgg159
 z127:=Tryz.sizeOf159
 v127:=Tryz.zeroValue159
 t143:=Tryz.underlying237
 a143:=Tryz.isAgg237
 z143:=Tryz.sizeOf237
 v143:=Tryz.zeroValue237
 t145:=Tryz.underlying239
 a145:=Tryz.isAgg239
 z145:=Tryz.sizeOf239
 v145:=Tryz.zeroValue239
 t167:=Tryz.underlying211
 a167:=Tryz.isAgg211
 z167:=Tryz.sizeOf211
 v167:=Tryz.zeroValue211
 t168:=Tryz.underlying214
 a168:=Tryz.isAgg214
 z168:=Tryz.sizeOf214
 v168:=Tryz.zeroValue214
 t171:=Tryz.underlying180
 a171:=Tryz.isAgg180
 z171:=Tryz.sizeOf180
 v171:=Tryz.zeroValue180
 t173:=Tryz.underlying182
 a173:=Tryz.isAgg182
 z173:=Tryz.sizeOf182
 v173:=Tryz.zeroValue182
 t175:=Tryz.underlying222
 a175:=Tryz.isAgg222
 z175:=Tryz.sizeOf222
 v175:=Tryz.zeroValue222
 t210:=Tryz.underlying226
 a210:=Tryz.isAgg226
 z210:=Tryz.sizeOf226
 v210:=Tryz.zeroValue226
 t212:=Tryz.underlying205
 a212:=Tryz.isAgg205
 z212:=Tryz.sizeOf205
 v212:=Tryz.zeroValue205
 t213:=Tryz.underlying206
 a213:=Tryz.isAgg206
 z213:=Tryz.sizeOf206
 t232:=Tryz.underlying228
 a232:=Tryz.isAgg228
 z232:=Tryz.sizeOf228
 v232:=Tryz.zeroValue228
 t233:=Tryz.underlying229
 a233:=Tryz.isAgg229
 z233:=Tryz.sizeOf229
 v233:=Tryz.zeroValue229
 g15:=by kernel_rfl
 g16:=by kernel_rfl
 g17:=by kernel_rfl
 g18:=by kernel_rfl
 g19:=by kernel_rfl
 t80:=Tryz.underlying128
 a80:=Tryz.isAgg128
 z80:=Tryz.sizeOf128
 v80:=Tryz.zeroValue128
 i0:=by kernel_rfl
 i2:=by kernel_rfl
 i3:=by kernel_rfl
 i4:=by kernel_rfl
 i5:=by kernel_rfl
 i9:=by kernel_rfl
 i20:=by kernel_rfl
 i21:=by kernel_rfl
 i37:=by kernel_rfl
 i46:=by kernel_rfl
 i51:=by kernel_rfl
 i53:=by kernel_rfl
 i75:=by kernel_rfl
 i76:=by kernel_rfl
 i80:=by kernel_rfl
 i85:=by kernel_rfl
 i127:=by kernel_rfl
 i143:=by kernel_rfl
 i145:=by kernel_rfl
 i167:=by kernel_rfl
 i168:=by kernel_rfl
 i171:=by kernel_rfl
 i173:=by kernel_rfl
 i175:=by kernel_rfl
 i210:=by kernel_rfl
 i212:=by kernel_rfl
 i232:=by kernel_rfl
 i233:=by kernel_rfl
 m15:=by kernel_rfl
 m16:=by kernel_rfl
 m17:=by kernel_rfl
 m18:=by kernel_rfl
 m19:=by kernel_rfl
 c0:=by kernel_rfl
 c2:=by kernel_rfl
 c3:=by kernel_rfl
 c4:=by kernel_rfl
 c5:=by kernel_rfl
 c9:=by kernel_rfl
 c20:=by kernel_rfl
 c21:=by kernel_rfl
 c37:=by kernel_rfl
 c46:=by kernel_rfl
 c51:=by kernel_rfl
 c53:=by kernel_rfl
 c75:=by kernel_rfl
 c76:=by kernel_rfl
 c80:=by kernel_rfl
 c85:=by kernel_rfl
 c127:=by kernel_rfl
 c143:=by kernel_rfl
 c145:=by kernel_rfl
 c167:=by kernel_rfl
 c168:=by kernel_rfl
 c171:=by kernel_rfl
 c173:=by kernel_rfl
 c175:=by kernel_rfl
 c210:=by kernel_rfl
 c212:=by kernel_rfl
 c213:=by kernel_rfl
 c232:=by kernel_rfl
 c233:=by kernel_rfl }
def Tryz.lays160_ren:Go.Shelf.Ren:=⟨fun | 169=>60 | n=>n,fun | 70=>119 | 9=>9 | 0=>0 | 72=>122 | 37=>120 | 127=>159 | 3=>3 | 5=>5 | n=>n,fun | n=>n⟩
theorem Tryz.lays160:Go.Proofs.Lays.n169 Tryz.prog Tryz.lays160_ren:={
 mixed:=by kernel_rfl
 f169:=Tryz.func60.trans (congrArg some (by kernel_rfl))
 t0:=Tryz.underlying0
 a0:=Tryz.isAgg0
 z0:=Tryz.sizeOf0
 v0:=Tryz.zeroValue0
 t3:=Tryz.underlying3
 a3:=Tryz.isAgg3
 z3:=Tryz.sizeOf3
 v3:=Tryz.zeroValue3
 t9:=Tryz.underlying9
 a9:=Tryz.isAgg9
 z9:=Tryz.sizeOf9
 v9:=Tryz.zeroValue9
 t37:=Tryz.underlying120
 a37:=Tryz.isAgg120
 z37:=Tryz.sizeOf120
 v37:=Tryz.zeroValue120
 t70:=Tryz.underlying119
 a70:=Tryz.isAgg119
 z70:=Tryz.sizeOf119
 v70:=Tryz.zeroValue119
 t72:=Tryz.underlying122
 a72:=Tryz.isAgg122
 z72:=Tryz.sizeOf122
 v72:=Tryz.zeroValue122
 t127:=Tryz.underlying159
 a127:=Tryz.isAgg159
 z127:=Tryz.sizeOf159
 v127:=Tryz.zeroValue159 }
end Go.Proofs
namespace Go.Proofs.YthdfmkpebafpoaaGreatDoor
open Go Go.Abs Go.PE Go.Proofs
theorem so1_38:So1OK Tryz.prog ⟨38,.int .i64,false,sortI⟩:=so1_sort Tryz.lays138 rfl Tryz.call38
theorem so1_39:So1OK Tryz.prog ⟨39,.int .i64,true,compI⟩:=so1_comp Tryz.lays139 rfl Tryz.call39
theorem sp_78:SpecOK Tryz.prog 78 ⟨[.str,.str],[.str],fun x=>some (prefM x.1 x.2)⟩:=spec_pref Tryz.lays178 rfl
theorem sp_79:SpecOK Tryz.prog 79 ⟨[.str,.str],[.str],fun x=>trimM x.1 x.2⟩:=spec_trim rfl Tryz.lays179 (by kernel_rfl) rfl
theorem sp_58:SpecOK Tryz.prog 58 ⟨[.str,.int .i64],[.str],fun x=>rptM x.1 x.2⟩:=spec_rept rfl Tryz.lays158 ⟨⟨by kernel_rfl,by kernel_rfl⟩,by kernel_rfl,Tryz.isAgg5,Tryz.sizeOf5,Tryz.zeroValue5,by kernel_rfl,by kernel_rfl,by kernel_rfl,by decide⟩ rfl
theorem sp_28:SpecOK Tryz.prog 28 ⟨[.int .i64],[.str],fun x=>some (itoaM x)⟩:=spec_itoa Tryz.lays128 rfl (by kernel_rfl) (g:=0) (by kernel_rfl)
theorem ex_80:ExtOK Tryz.prog 80 (.atoi atoiM):=ext_atoi Tryz.lays180 rfl Tryz.call80
theorem ex_59:ExtOK Tryz.prog 59 (.wstr 122 5):=ext_wstr { Tryz.lays158 with } ⟨⟨by kernel_rfl,by kernel_rfl⟩,by kernel_rfl,Tryz.isAgg5,Tryz.sizeOf5,Tryz.zeroValue5,by kernel_rfl,by kernel_rfl,by kernel_rfl,by decide⟩ rfl rfl rfl Tryz.call59
theorem ex_60:ExtOK Tryz.prog 60 (.stri 122 5):=ext_stri Tryz.lays160 ⟨⟨by kernel_rfl,by kernel_rfl⟩,by kernel_rfl,Tryz.isAgg5,Tryz.sizeOf5,Tryz.zeroValue5,by kernel_rfl,by kernel_rfl,by kernel_rfl,by decide⟩ rfl rfl rfl Tryz.call60
noncomputable def tabs:Tabs:={ tabs0 with so1:=[⟨38,.int .i64,false,sortI⟩,⟨39,.int .i64,true,compI⟩],sp:=[(78,⟨[.str,.str],[.str],fun x=>some (prefM x.1 x.2)⟩),(79,⟨[.str,.str],[.str],fun x=>trimM x.1 x.2⟩),(58,⟨[.str,.int .i64],[.str],fun x=>rptM x.1 x.2⟩),(28,⟨[.int .i64],[.str],fun x=>some (itoaM x)⟩)],ex:=[(80,.atoi atoiM),(59,.wstr 122 5),(60,.stri 122 5)] }
theorem tabsOK:TabOK Tryz.prog tabs:=⟨tabs0OK.ty,tabs0OK.fn,(by
 show ∀ f s,lk ([(78,⟨[.str,.str],[.str],fun x=>some (prefM x.1 x.2)⟩),(79,⟨[.str,.str],[.str],fun x=>trimM x.1 x.2⟩),(58,⟨[.str,.int .i64],[.str],fun x=>rptM x.1 x.2⟩),(28,⟨[.int .i64],[.str],fun x=>some (itoaM x)⟩)]:List (FuncId×Go.PE.Spec)) f=some s→SpecOK Tryz.prog f s
 refine lk_all (p:=fun f s=>SpecOK Tryz.prog f s) sp_78 ?_
 refine lk_all (p:=fun f s=>SpecOK Tryz.prog f s) sp_79 ?_
 refine lk_all (p:=fun f s=>SpecOK Tryz.prog f s) sp_58 ?_
 refine lk_all (p:=fun f s=>SpecOK Tryz.prog f s) sp_28 ?_
 exact lk_none),(by
 show ∀ f s,lk ([(78,⟨[.str,.str],[.str],fun x=>some (prefM x.1 x.2)⟩),(79,⟨[.str,.str],[.str],fun x=>trimM x.1 x.2⟩),(58,⟨[.str,.int .i64],[.str],fun x=>rptM x.1 x.2⟩),(28,⟨[.int .i64],[.str],fun x=>some (itoaM x)⟩)]:List (FuncId×Go.PE.Spec)) f=some s→∀ (args:Array Value) (w:World),(callFunc f args).run Tryz.prog w=.ok (.enter f args) w
 refine lk_all (p:=fun f s=>∀ (args:Array Value) (w:World),(callFunc f args).run Tryz.prog w=.ok (.enter f args) w) Tryz.call78 ?_
 refine lk_all (p:=fun f s=>∀ (args:Array Value) (w:World),(callFunc f args).run Tryz.prog w=.ok (.enter f args) w) Tryz.call79 ?_
 refine lk_all (p:=fun f s=>∀ (args:Array Value) (w:World),(callFunc f args).run Tryz.prog w=.ok (.enter f args) w) Tryz.call58 ?_
 refine lk_all (p:=fun f s=>∀ (args:Array Value) (w:World),(callFunc f args).run Tryz.prog w=.ok (.enter f args) w) Tryz.call28 ?_
 exact lk_none),tabs0OK.mixed,tabs0OK.so,tabs0OK.eqs,fun s hs=>by
 have hs:s∈[(⟨38,.int .i64,false,sortI⟩:So1),(⟨39,.int .i64,true,compI⟩:So1)]:=hs
 simp only [List.mem_cons,List.not_mem_nil,or_false] at hs
 rcases hs with rfl | rfl
 ·exact so1_38
 ·exact so1_39,tabs0OK.mps,tabs0OK.ow,tabs0OK.bt,(by
 show ∀ f s,lk ([(80,.atoi atoiM),(59,.wstr 122 5),(60,.stri 122 5)]:List (FuncId×Go.PE.Ext)) f=some s→ExtOK Tryz.prog f s
 refine lk_all (p:=fun f s=>ExtOK Tryz.prog f s) ex_80 ?_
 refine lk_all (p:=fun f s=>ExtOK Tryz.prog f s) ex_59 ?_
 refine lk_all (p:=fun f s=>ExtOK Tryz.prog f s) ex_60 ?_
 exact lk_none)⟩
end Go.Proofs.YthdfmkpebafpoaaGreatDoor
