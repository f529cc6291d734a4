/-
 Texts of this proof, put together: Px, Ty, Tb, P3, P5, T1, M0, M1, M2, M3, M4.
 No conditions.
-/
import Derived.Test.YtfekoiabjbdnfaaGreatZ3
import Derived.ProofKit
import Derived.OpenShut
import Derived.Carry
import Derived.Test.YtfekoiabjbdnfaaGreatProg
import Derived.KernelRfl
import Derived.Shelf.SlSortCmp.NoneTotal
import Derived.Shelf.Sort.Plain
import Derived.Shelf.Slices.In.SortNone
import Derived.Shelf.Slices.CompactI
import Derived.Shelf.Lays
import Derived.Shelf.Lays2
import Derived.Shelf.LaysC
set_option linter.all false
namespace Go.PE
open Go Go.RowKit Go.Abs Go.ChangeShapes Go.WideShapes Go.ChangeAt

mutual
inductive TyP (P:Program):TypeId→Ty→Prop where
 | int {t k}:P.underlying t=some (.int k)→TyP P t (.int k)
 | bool {t}:P.underlying t=some .bool→TyP P t .bool
 | str {t}:P.underlying t=some .string→TyP P t .str
 | list {t e T}:P.underlying t=some (.slice e)→P.cellsOf e=T.size→TyP P e T→TyP P t (.list T)
 | struct1 {t fs T}:P.underlying t=some (.struct fs)→P.cellsOf t=T.size→FsP P (fs.toList.map fun f=>(f.offset,f.type)) 0 T→fs.size=1→TyP P t (.one T)
 | struct {t fs A B}:P.underlying t=some (.struct fs)→P.cellsOf t=A.size+B.size→FsP P (fs.toList.map fun f=>(f.offset,f.type)) 0 (.pair A B)→TyP P t (.pair A B)
 | array1 {t e T}:P.underlying t=some (.array 1 e)→P.cellsOf t=T.size→FsP P [(0,e)] 0 T→TyP P t (.one T)
 | array {t n e A B}:P.underlying t=some (.array n e)→P.cellsOf t=A.size+B.size→FsP P ((List.range n).map fun i=>(i*P.cellsOf e,e)) 0 (.pair A B)→TyP P t (.pair A B)
inductive FsP (P:Program):List (Nat×TypeId)→Nat→Ty→Prop where
 | last {off t T}:P.cellsOf t=T.size→TyP P t T→FsP P [(off,t)] off T
 | cons {off t A B l}:P.cellsOf t=A.size→TyP P t A→FsP P l (off+A.size) B→FsP P ((off,t)::l) off (.pair A B)
end
def InWd (w:World):Cells:=fun b _=>b<w.heap.size
theorem exists_list {α:Type} {p:Nat→α→Prop}:∀ (n:Nat),(∀ i,i<n→∃ y,p i y)→∃ ys:List α,ys.length=n∧∀ i y,ys[i]? = some y→p i y
 | 0,_=>⟨[],rfl,fun i y h=>by simp at h⟩
 | n+1,h=>by
  obtain ⟨ys,h1,h2⟩:=exists_list n fun i hi=>h i (by omega)
  obtain ⟨y,hy⟩:=h n (by omega)
  refine ⟨ys++[y],by simp [h1],fun i z hz=>?_⟩
  by_cases hi:i<ys.length
  ·rw [List.getElem?_append_left hi] at hz;exact h2 i z hz
  ·rw [List.getElem?_append_right (by omega)] at hz
   have:i-ys.length=0:=by
    have:=(gS.1 hz).1
    simp at this;omega
   rw [this] at hz
   simp at hz
   subst hz
   rw [show i=n by omega];exact hy
section
variable {H:Type} {enc:TypeId×Value→H} {P:Program} {w:World} {base:Nat} {spare:Nat→Bool} {held:Bool}
theorem cells?_get {a:Addr} {n:Nat} {cs:List Value} (h:w.cells? base a n=some cs):cs.length=n∧∀ j u,cs[j]? = some u→w.cell? (a.add j)=some u:=by
 obtain ⟨_,h1,h2⟩:=World.cells?_some h
 refine ⟨h1,fun j u hj=>?_⟩
 have hl:=(gS.1 hj).1
 rw [h2 j (by omega)];exact hj
theorem trod_rep:∀ (fuel:Nat) {t:TypeId} {T:Ty} {cs:List Value} {x:DataW H×List MemPlace},TyP P t T→DataW.trod enc P w base spare held fuel t cs=some x→∃ y:T.den,Rep (InWd w) w T y cs:=by
 intro fuel
 induction fuel with
 | zero=>intro t T cs x _ h;simp [DataW.trod] at h
 | succ n ih =>
  -- fields
  have fields:∀ {l:List (Nat×TypeId)} {off:Nat} {T:Ty} {cs:List Value},FsP P l off T→off+T.size≤cs.length→(∀ (i:Nat) p,l[i]? = some p→∃ x,DataW.trod enc P w base spare held n p.2 ((cs.drop p.1).take (P.cellsOf p.2))=some x) →
    ∃ y:T.den,Rep (InWd w) w T y ((cs.drop off).take T.size):=by
   intro l
   induction l with
   | nil=>intro off T cs h;cases h
   | cons p l ihl =>
    intro off T cs h hlen ht
    cases h with
    | last hc hty =>
     obtain ⟨x,hx⟩:=ht 0 _ rfl
     rw [← hc]
     exact ih hty hx
    | @cons _ t A B _ hc hty hr =>
     obtain ⟨x,hx⟩:=ht 0 _ rfl
     rw [hc] at hx
     obtain ⟨y1,h1⟩:=ih hty hx
     have hsz:(Ty.pair A B).size=A.size+B.size:=rfl
     rw [hsz] at hlen
     obtain ⟨y2,h2⟩:=ihl hr (by omega) fun i p hp=>ht (i+1) p (by simpa using hp)
     refine ⟨(y1,y2),_,_,?_,h1,h2⟩
     rw [hsz]
     rw [List.take_add,List.drop_drop]
  intro t T cs x hT h
  cases hT with
  | int hu =>
   obtain ⟨m,rfl,_,hw⟩:=DataW.trod_int hu h
   refine ⟨m,rfl,?_⟩
   simp [Lit.wf] at hw
   exact hw
  | bool hu=>obtain ⟨b,rfl,_⟩:=DataW.trod_bool hu h;exact ⟨b,rfl⟩
  | str hu =>
   obtain ⟨s,rfl,_,hs⟩:=DataW.trod_string hu h
   exact ⟨s.data.toList,by simp,by simpa using hs⟩
  | @list _ e T hu hc hty =>
   rcases DataW.trod_slice hu h with ⟨rfl,_⟩ | ⟨a,len,cap,elems,rest,m,hm,rfl,_,_,h1,h2,h3,h4,_⟩
   ·exact ⟨[],none,0,rfl,Nat.le_refl _,Nat.zero_le _,.inl rfl⟩
   ·cases hm
    rw [hc] at h4
    have hex:∀ i,i<len→∃ y:T.den,∃ es,Rep (InWd w) w T y es∧∀ j u,es[j]? = some u→w.cell? ((a.add (i*T.size)).add j)=some u:=by
     intro i hi
     have h5:=h4 i hi
     rw [List.getElem?_eq_getElem (by omega)] at h5
     obtain ⟨es,h6,h7⟩:=Option.bind_eq_some_iff.1 h5
     obtain ⟨y,hy⟩:=ih hty h7
     exact ⟨y,es,hy,(cells?_get h6).2⟩
    obtain ⟨ys,hl,hys⟩:=exists_list len hex
    refine ⟨ys,some a,cap,by rw [hl],by rw [hl];exact h1,h2,?_⟩
    by_cases h0:len=0
    ·left;show List.length ys=0;omega
    ·right
     have hsp:a.spot=none:=by
      obtain ⟨y,es,hr,hg⟩:=hex 0 (by omega)
      have hel:=hr.length
      have hpos:=T.size_pos
      have:=hg 0 _ (List.getElem?_eq_getElem (by omega))
      unfold World.cell? at this
      split at this
      ·split at this
       ·cases this
       ·rename_i hs
        simpa [Addr.add] using hs
      ·cases this
     obtain ⟨b,off,sp⟩:=a
     simp only at hsp
     subst hsp
     refine ⟨b,off,rfl,fun i y hy=>?_⟩
     obtain ⟨es,hr,hg⟩:=hys i y hy
     refine ⟨es,hr,fun j u hj=>?_⟩
     have h5:=hg j u hj
     rw [Addr.add_lit,Addr.add_lit] at h5
     exact ⟨World.block_lt_of_cell? _ _ h5,h5⟩
  | @struct1 _ fs T hu hc hf h1 =>
   obtain ⟨xs,m,hm,_,hl,hxl,hx⟩:=DataW.trod_struct hu h
   cases hm
   obtain ⟨y,hy⟩:=fields hf (by rw [hl,hc];omega) fun i p hp=>by
    simp only [List.getElem?_map,Option.map_eq_some_iff] at hp
    obtain ⟨f,hf1,rfl⟩:=hp
    have hil:i<xs.length:=by rw [hxl];simpa using (gS.1 hf1).1
    exact ⟨xs[i],by rw [← List.getElem?_eq_getElem hil];exact hx i f (by simpa using hf1)⟩
   rw [List.drop_zero,List.take_of_length_le (by omega)] at hy
   exact ⟨y,hy⟩
  | @struct _ fs A B hu hc hf =>
   obtain ⟨xs,m,hm,_,hl,hxl,hx⟩:=DataW.trod_struct hu h
   cases hm
   have hsz:(Ty.pair A B).size=A.size+B.size:=rfl
   obtain ⟨y,hy⟩:=fields hf (by rw [hl,hc,hsz];omega) fun i p hp=>by
    simp only [List.getElem?_map,Option.map_eq_some_iff] at hp
    obtain ⟨f,hf1,rfl⟩:=hp
    have hil:i<xs.length:=by rw [hxl];simpa using (gS.1 hf1).1
    exact ⟨xs[i],by rw [← List.getElem?_eq_getElem hil];exact hx i f (by simpa using hf1)⟩
   rw [List.drop_zero,List.take_of_length_le (by rw [hl,hc,hsz];omega)] at hy
   exact ⟨y,hy⟩
  | @array1 _ e T hu hc hf =>
   obtain ⟨xs,m,hm,_,hl,hxl,hx⟩:=DataW.trod_array hu h
   cases hm
   obtain ⟨y,hy⟩:=fields hf (by rw [hl,hc];omega) fun i p hp=>by
    have hi0:i=0:=by have:=(gS.1 hp).1;simp at this;exact this
    subst hi0
    simp at hp
    subst hp
    have:=hx 0 (by omega)
    rw [Nat.zero_mul] at this
    exact ⟨xs[0],by rw [← List.getElem?_eq_getElem (by omega)];exact this⟩
   rw [List.drop_zero,List.take_of_length_le (by omega)] at hy
   exact ⟨y,hy⟩
  | @array _ k e A B hu hc hf =>
   obtain ⟨xs,m,hm,_,hl,hxl,hx⟩:=DataW.trod_array hu h
   cases hm
   have hsz:(Ty.pair A B).size=A.size+B.size:=rfl
   obtain ⟨y,hy⟩:=fields hf (by rw [hl,hc,hsz];omega) fun i p hp=>by
    simp only [List.getElem?_map,Option.map_eq_some_iff] at hp
    obtain ⟨j,hj,rfl⟩:=hp
    have hjl:i<k:=by have:=(gS.1 hj).1;simpa using this
    have hji:j=i:=by rw [List.getElem?_range hjl] at hj;cases hj;rfl
    subst hji
    exact ⟨xs[j],by rw [← List.getElem?_eq_getElem (by omega)];exact hx j hjl⟩
   rw [List.drop_zero,List.take_of_length_le (by rw [hl,hc,hsz];omega)] at hy
   exact ⟨y,hy⟩

theorem TyP.agg:∀ {t:TypeId} {T:Ty} {v:Value} {r:Reach} {b0:Nat} {x:T.den},TyP P t T→Value.okWide P w r b0 t v→Rep (InWd w) w T x v.cells.toList→VRep (InWd w) w T x v:=by
 intro t T v r b0 x hT hok hr
 refine ⟨_,hr,?_⟩
 cases hT with
 | int hu=>obtain ⟨n,rfl⟩:=okWide_int hu hok;rfl
 | bool hu=>obtain ⟨n,rfl⟩:=okWide_bool hu hok;rfl
 | str hu=>obtain ⟨n,rfl⟩:=okWide_string hu hok;rfl
 | list hu _ _=>obtain ⟨a,l,c,rfl⟩:=okWide_slice hu hok;rfl
 | struct1 hu _ _ _=>simp only [Value.okWide,hu] at hok;obtain ⟨cs,rfl,_⟩:=hok;simp [Ty.wrap,Ty.agg,Value.cells]
 | struct hu _ _=>simp only [Value.okWide,hu] at hok;obtain ⟨cs,rfl,_⟩:=hok;simp [Ty.wrap,Ty.agg,Value.cells]
 | array1 hu _ _=>simp only [Value.okWide,hu] at hok;obtain ⟨cs,rfl,_⟩:=hok;simp [Ty.wrap,Ty.agg,Value.cells]
 | array hu _ _=>simp only [Value.okWide,hu] at hok;obtain ⟨cs,rfl,_⟩:=hok;simp [Ty.wrap,Ty.agg,Value.cells]

inductive TysP (P:Program):List TypeId→List Ty→Prop where
 | nil:TysP P [] []
 | cons {t T ts Ts}:P.readableRec t=true→t<P.types.size→TyP P t T→TysP P ts Ts→TysP P (t::ts) (T::Ts)
theorem args_data {η:Eta} {r:Reach} {b0:Nat}:∀ {ts:List TypeId} {Ts:List Ty} {vs:List Value} {ds:List (DataW H)} {ps:List MemPlace},TysP P ts Ts→DataW.TrodAll enc P w base spare held ts vs ds ps→(∀ (j:Nat) t v,ts[j]? = some t→vs[j]? = some v→Value.okWide P w r b0 t v) →
  ∃ x:Tup (Ts.map .d),All2 (RM (InWd w) w η) (rvs Ts x) vs
 | _,_,vs,ds,ps,.nil,h,_=>by
  obtain ⟨rfl,_,_⟩:=trodAll_nil h
  exact ⟨(),.nil⟩
 | _,_,vs,ds,ps,.cons (t:=t) (T:=T) (ts:=ts) (Ts:=Ts) h1 h2 h3 h4,h,hok=>by
  obtain ⟨v,vs',d,ds',p,q,rfl,rfl,rfl,⟨n,hn⟩,hr⟩:=trodAll_cons h
  obtain ⟨y,hy⟩:=trod_rep n h3 hn
  have hv:RM (InWd w) w η (T.rv y) v:=VRep.rm (h3.agg (hok 0 t v rfl rfl) hy)
  obtain ⟨x,hx⟩:=args_data (η:=η) h4 hr fun j t v h1 h2=>hok (j+1) t v (by simpa using h1) (by simpa using h2)
  cases Ts with
  | nil=>exact ⟨y,by cases hx;exact .cons hv .nil⟩
  | cons U Us=>exact ⟨(y,x),.cons hv hx⟩
theorem args_back (hl:laidOutB P=true) {w':World} (hb:Below w.heap.size w w') {sp:Nat→Bool}:∀ {ts:List TypeId} {Ts:List Ty} {vs:List Value} {ds:List (DataW H)} {ps:List MemPlace},TysP P ts Ts→DataW.TrodAll enc P w 0 (fun _=>true) true ts vs ds ps→(∀ x∈ps,x.block<w.heap.size)→(∀ x∈ps,sp x.block=true) →
  DataW.TrodAll enc P w' 0 sp true ts vs ds ps
 | _,_,vs,ds,ps,.nil,h,_,_=>by
  obtain ⟨rfl,rfl,rfl⟩:=trodAll_nil h
  exact rfl
 | _,_,vs,ds,ps,.cons h1 h2 h3 h4,h,hlt,hsp=>by
  obtain ⟨v,vs',d,ds',p,q,rfl,rfl,rfl,hd,hr⟩:=trodAll_cons h
  have hd':=WideElems.Trod_stays hl h1 h2 (sp':=sp) hd (fun x hx=>hb.same (hlt x (by simp [hx]))) fun x hx=>hsp x (by simp [hx])
  exact ⟨p,q,hd',args_back hl hb h4 hr (fun x hx=>hlt x (by simp [hx])) fun x hx=>hsp x (by simp [hx]),rfl⟩
end

theorem law_contract' {P:Program} (hl:laidOutB P=true) {f:FuncId} {fn:Func} {s:ChangeSpec} {args:List Ty} {m:Tup (args.map .d)→Option Bool} (hspec:SpecOK P f ⟨args,[.bool],m⟩) {ts:List TypeId} (hts:fn.params.toList=ts) (hT:TysP P ts args) {tb:TypeId} (hrt:fn.resultTypes=#[tb]) (htb:P.underlying tb=some .bool)
  (hvars:s.vars=[]) (hfn:∀ (H:Type) (ds:List (DataW H)),ds.length=args.length→(s.fn H ds).results=[.lit (.bool true)]∧(s.fn H ds).args=ds∧(s.fn H ds).vars=[])
  (hm:∀ (S:Cells) (w:World) (η:Eta) (vs:List Value) x,All2 (RM S w η) (rvs args x) vs→m x=some true)
  {H:Type} {enc:TypeId×Value→H} {W:World} {base:Nat} {av:Array Value} {ds gs:List (DataW H)} {before:List MemPlace} (hglob:GlobOK (InWd W) W)
  (hval:∀ (j:Nat) t v,fn.params[j]? = some t→av[j]? = some v→Value.okWide P W .any base t v) (hW:DataW.Whole enc P fn.params.toList s.vars false W av.toList ds gs before) :
  Calls P f av W fun e W'=>∃ v,e=.returned v∧s.post enc P fn false true false false W av v W'∧W'.os=W.os:=by
 have hW0:=hW
 obtain ⟨p,q,hA,hV,rfl,hfz,_⟩:=hW
 rw [hvars] at hV
 obtain ⟨rfl,rfl⟩:=trodVars_none hV
 rw [List.append_nil] at *
 rw [hts] at hA
 have hlt:∀ x∈p,x.block<W.heap.size:=fun x hx=>by simpa using hW0.lt x hx
 obtain ⟨x,hx⟩:=args_data (η:=fun _=>none) (r:=.any) (b0:=base) hT hA fun j t v h1 h2=>hval j t v (by rw [← hts] at h1;simpa using h1) (by simpa using h2)
 have hc:=hspec x true (hm _ _ _ _ x hx) (InWd W) W (fun _=>none) av.toList ⟨fun b o h=>h,hglob⟩ hx
 have hav:av.toList.toArray=av:=by simp
 rw [hav] at hc
 refine hc.mono fun e W' ⟨v,S',he,hg,hp⟩=>⟨v,he,?_,hg.below.os⟩
 have hvb:v=.bool true:=VRep.bool.1 hp.2
 subst hvb
 have hb:=hg.below
 have hlen:ds.length=args.length:=by
  have h1:∀ {ts:List TypeId} {Ts:List Ty} {vs:List Value} {ds:List (DataW H)} {ps:List MemPlace},TysP P ts Ts→DataW.TrodAll enc P W 0 (fun _=>true) true ts vs ds ps→ds.length=Ts.length:=by
   intro ts Ts vs ds ps hT
   induction hT generalizing vs ds ps with
   | nil=>intro h;obtain ⟨_,rfl,_⟩:=trodAll_nil h;rfl
   | cons _ _ _ _ ih=>intro h;obtain ⟨_,_,_,_,_,_,rfl,rfl,rfl,_,hr⟩:=trodAll_cons h;simp [ih hr]
  exact h1 hT hA
 obtain ⟨f1,f2,f3⟩:=hfn H (ds++[]) (by simpa using hlen)
 have hargs:∀ sp:Nat→Bool,(∀ y∈p,sp y.block=true)→DataW.TrodAll enc P W' 0 sp true fn.params.toList av.toList (s.fn H (ds++[])).args p:=fun sp hsp=>by
  rw [f2,List.append_nil,hts]
  exact args_back hl hb hT hA hlt hsp
 have hres:∀ (b:Nat) (sp:Nat→Bool) (hd:Bool),DataW.TrodAll enc P W' b sp hd fn.resultTypes.toList ((Value.bool true).resultList fn.resultTypes.size) (s.fn H (ds++[])).results []:=fun b sp hd=>by
  rw [f1,hrt]
  exact trodAll_cons_mk (shut_bool htb _) trodAll_mk0
 have hvv:∀ sp:Nat→Bool,DataW.TrodVars enc P W' sp s.vars (s.fn H (ds++[])).vars []:=fun sp=>by rw [f3,hvars];rfl
 have hold:∀ y∈p,(fun b=>decide (b<W.heap.size)) y.block=true:=fun y hy=>by simpa using hlt y hy
 refine ⟨ds,[],p,[],p,[],hW0,hres _ _ _,hargs _ hold,hvv _,World.keptBut_mono (fun y hy=>⟨hy,?_⟩) (hb.frame (·∈p)),fun _=>?_⟩
 ·simpa using hy
 ·refine ⟨ok_one hrt rfl (okWide_bool_mk htb _),_,_,([]++p)++[],⟨[]++p,[],trodAll_append (hargs _ (fun _ _=>rfl)) (hres _ _ _),hvv _,rfl,?_,?_⟩,?_⟩
  ·intro b off hpm
   have hpm:MemPlace.cell b off∈p:=by simpa using hpm
   have hlt':=hlt _ hpm
   rw [hb.frozen (p:=⟨b,off,none⟩) hlt']
   exact hfz b off hpm
  ·intro h;cases h
  ·intro y hy _
   simpa using hy
theorem law_contract {P:Program} (hl:laidOutB P=true) {f:FuncId} {fn:Func} {s:ChangeSpec} {args:List Ty} {m:Tup (args.map .d)→Option Bool} (hspec:SpecOK P f ⟨args,[.bool],m⟩) {ts:List TypeId} (hts:fn.params.toList=ts) (hT:TysP P ts args) {tb:TypeId} (hrt:fn.resultTypes=#[tb]) (htb:P.underlying tb=some .bool)
  (hvars:s.vars=[]) (hfn:∀ (H:Type) (ds:List (DataW H)),ds.length=args.length→(s.fn H ds).results=[.lit (.bool true)]∧(s.fn H ds).args=ds∧(s.fn H ds).vars=[])
  (hm:∀ (S:Cells) (w:World) (η:Eta) (vs:List Value) x,All2 (RM S w η) (rvs args x) vs→m x=some true)
  {H:Type} {enc:TypeId×Value→H} {W:World} {base:Nat} {av:Array Value} {ds gs:List (DataW H)} {before:List MemPlace} (hglob:GlobOK (InWd W) W)
  (hval:∀ (j:Nat) t v,fn.params[j]? = some t→av[j]? = some v→Value.okWide P W .any base t v) (hW:DataW.Whole enc P fn.params.toList s.vars false W av.toList ds gs before) :
  Calls P f av W fun e W'=>∃ v,e=.returned v∧s.post enc P fn false true false false W av v W' :=
 (law_contract' hl hspec hts hT hrt htb hvars hfn hm hglob hval hW).mono fun e W' ⟨v,h1,h2,_⟩=>⟨v,h1,h2⟩
end Go.PE
namespace Go.Proofs.YtfekoiabjbdnfaaGreat
open Go Go.Abs Go.PE Go.RowKit Go.ChangeShapes Go.WideShapes Go.ChangeAt Go.Proofs
set_option maxRecDepth 100000
theorem tyP3:TyP Tryz.prog 3 (.int .i64):=.int Tryz.underlying3
theorem tyP67:TyP Tryz.prog 67 (.pair (.int .i64) (.int .i64)):=.array Tryz.underlying67 (by kernel_rfl) (show FsP Tryz.prog [(0,3),(1,3)] 0 (.pair (.int .i64) (.int .i64)) from .cons (by kernel_rfl) tyP3 (.last (by kernel_rfl) tyP3))
theorem tyP22:TyP Tryz.prog 22 (.list (.pair (.int .i64) (.int .i64))):=.list Tryz.underlying22 (by kernel_rfl) tyP67
theorem tyP23:TyP Tryz.prog 23 (.list (.int .i64)):=.list Tryz.underlying23 (by kernel_rfl) tyP3
theorem tyP63:TyP Tryz.prog 63 (.pair (.int .i64) (.pair (.int .i64) (.pair (.int .i64) (.int .i64)))):=.array Tryz.underlying63 (by kernel_rfl) (show FsP Tryz.prog [(0,3),(1,3),(2,3),(3,3)] 0 (.pair (.int .i64) (.pair (.int .i64) (.pair (.int .i64) (.int .i64)))) from .cons (by kernel_rfl) tyP3 (.cons (by kernel_rfl) tyP3 (.cons (by kernel_rfl) tyP3 (.last (by kernel_rfl) tyP3))))
theorem tyP24:TyP Tryz.prog 24 (.list (.pair (.int .i64) (.pair (.int .i64) (.pair (.int .i64) (.int .i64))))):=.list Tryz.underlying24 (by kernel_rfl) tyP63
theorem tyP65:TyP Tryz.prog 65 (.pair (.int .i64) (.pair (.int .i64) (.pair (.int .i64) (.pair (.int .i64) (.int .i64))))):=.array Tryz.underlying65 (by kernel_rfl) (show FsP Tryz.prog [(0,3),(1,3),(2,3),(3,3),(4,3)] 0 (.pair (.int .i64) (.pair (.int .i64) (.pair (.int .i64) (.pair (.int .i64) (.int .i64))))) from .cons (by kernel_rfl) tyP3 (.cons (by kernel_rfl) tyP3 (.cons (by kernel_rfl) tyP3 (.cons (by kernel_rfl) tyP3 (.last (by kernel_rfl) tyP3)))))
theorem tyP25:TyP Tryz.prog 25 (.list (.pair (.int .i64) (.pair (.int .i64) (.pair (.int .i64) (.pair (.int .i64) (.int .i64)))))):=.list Tryz.underlying25 (by kernel_rfl) tyP65
theorem tyP26:TyP Tryz.prog 26 (.pair (.int .i64) (.pair (.int .i64) (.int .i64))):=.array Tryz.underlying26 (by kernel_rfl) (show FsP Tryz.prog [(0,3),(1,3),(2,3)] 0 (.pair (.int .i64) (.pair (.int .i64) (.int .i64))) from .cons (by kernel_rfl) tyP3 (.cons (by kernel_rfl) tyP3 (.last (by kernel_rfl) tyP3)))
theorem tyP28:TyP Tryz.prog 28 (.pair (.list (.pair (.int .i64) (.int .i64))) (.pair (.list (.int .i64)) (.pair (.list (.pair (.int .i64) (.pair (.int .i64) (.pair (.int .i64) (.int .i64))))) (.pair (.list (.pair (.int .i64) (.pair (.int .i64) (.pair (.int .i64) (.pair (.int .i64) (.int .i64)))))) (.pair (.int .i64) (.pair (.int .i64) (.int .i64))))))):=.struct Tryz.underlying28 (by kernel_rfl) (show FsP Tryz.prog [(0,22),(1,23),(2,24),(3,25),(4,26)] 0 (.pair (.list (.pair (.int .i64) (.int .i64))) (.pair (.list (.int .i64)) (.pair (.list (.pair (.int .i64) (.pair (.int .i64) (.pair (.int .i64) (.int .i64))))) (.pair (.list (.pair (.int .i64) (.pair (.int .i64) (.pair (.int .i64) (.pair (.int .i64) (.int .i64)))))) (.pair (.int .i64) (.pair (.int .i64) (.int .i64))))))) from .cons (by kernel_rfl) tyP22 (.cons (by kernel_rfl) tyP23 (.cons (by kernel_rfl) tyP24 (.cons (by kernel_rfl) tyP25 (.last (by kernel_rfl) tyP26)))))
theorem tyP42:TyP Tryz.prog 42 (.pair (.int .i64) (.pair (.int .i64) (.pair (.int .i64) (.int .i64)))):=.struct Tryz.underlying42 (by kernel_rfl) (show FsP Tryz.prog [(0,3),(1,3),(2,3),(3,3)] 0 (.pair (.int .i64) (.pair (.int .i64) (.pair (.int .i64) (.int .i64)))) from .cons (by kernel_rfl) tyP3 (.cons (by kernel_rfl) tyP3 (.cons (by kernel_rfl) tyP3 (.last (by kernel_rfl) tyP3))))
theorem tyP29:TyP Tryz.prog 29 (.list (.pair (.int .i64) (.pair (.int .i64) (.pair (.int .i64) (.int .i64))))):=.list Tryz.underlying29 (by kernel_rfl) tyP42
theorem tyP44:TyP Tryz.prog 44 (.pair (.int .i64) (.pair (.int .i64) (.pair (.int .i64) (.pair (.int .i64) (.int .i64))))):=.struct Tryz.underlying44 (by kernel_rfl) (show FsP Tryz.prog [(0,3),(1,3),(2,3),(3,3),(4,3)] 0 (.pair (.int .i64) (.pair (.int .i64) (.pair (.int .i64) (.pair (.int .i64) (.int .i64))))) from .cons (by kernel_rfl) tyP3 (.cons (by kernel_rfl) tyP3 (.cons (by kernel_rfl) tyP3 (.cons (by kernel_rfl) tyP3 (.last (by kernel_rfl) tyP3)))))
theorem tyP30:TyP Tryz.prog 30 (.list (.pair (.int .i64) (.pair (.int .i64) (.pair (.int .i64) (.pair (.int .i64) (.int .i64)))))):=.list Tryz.underlying30 (by kernel_rfl) tyP44
theorem tyP32:TyP Tryz.prog 32 (.pair (.int .i64) (.pair (.list (.pair (.int .i64) (.pair (.int .i64) (.pair (.int .i64) (.int .i64))))) (.list (.pair (.int .i64) (.pair (.int .i64) (.pair (.int .i64) (.pair (.int .i64) (.int .i64)))))))):=.struct Tryz.underlying32 (by kernel_rfl) (show FsP Tryz.prog [(0,3),(1,29),(2,30)] 0 (.pair (.int .i64) (.pair (.list (.pair (.int .i64) (.pair (.int .i64) (.pair (.int .i64) (.int .i64))))) (.list (.pair (.int .i64) (.pair (.int .i64) (.pair (.int .i64) (.pair (.int .i64) (.int .i64)))))))) from .cons (by kernel_rfl) tyP3 (.cons (by kernel_rfl) tyP29 (.last (by kernel_rfl) tyP30)))
theorem tyP60:TyP Tryz.prog 60 (.pair (.int .i64) (.int .i64)):=.struct Tryz.underlying60 (by kernel_rfl) (show FsP Tryz.prog [(0,3),(1,3)] 0 (.pair (.int .i64) (.int .i64)) from .cons (by kernel_rfl) tyP3 (.last (by kernel_rfl) tyP3))
theorem tyP33:TyP Tryz.prog 33 (.list (.pair (.int .i64) (.int .i64))):=.list Tryz.underlying33 (by kernel_rfl) tyP60
theorem tys3:TysP Tryz.prog [28,26,32,33,3,3] [(.pair (.list (.pair (.int .i64) (.int .i64))) (.pair (.list (.int .i64)) (.pair (.list (.pair (.int .i64) (.pair (.int .i64) (.pair (.int .i64) (.int .i64))))) (.pair (.list (.pair (.int .i64) (.pair (.int .i64) (.pair (.int .i64) (.pair (.int .i64) (.int .i64)))))) (.pair (.int .i64) (.pair (.int .i64) (.int .i64))))))),(.pair (.int .i64) (.pair (.int .i64) (.int .i64))),(.pair (.int .i64) (.pair (.list (.pair (.int .i64) (.pair (.int .i64) (.pair (.int .i64) (.int .i64))))) (.list (.pair (.int .i64) (.pair (.int .i64) (.pair (.int .i64) (.pair (.int .i64) (.int .i64)))))))),(.list (.pair (.int .i64) (.int .i64))),(.int .i64),(.int .i64)]:=.cons (by kernel_rfl) (of_decide_eq_true (by kernel_rfl)) tyP28 (.cons (by kernel_rfl) (of_decide_eq_true (by kernel_rfl)) tyP26 (.cons (by kernel_rfl) (of_decide_eq_true (by kernel_rfl)) tyP32 (.cons (by kernel_rfl) (of_decide_eq_true (by kernel_rfl)) tyP33 (.cons (by kernel_rfl) (of_decide_eq_true (by kernel_rfl)) tyP3 (.cons (by kernel_rfl) (of_decide_eq_true (by kernel_rfl)) tyP3 (.nil))))))
theorem laidOut:laidOutB Tryz.prog=true:=by kernel_rfl
theorem own:ownKnob Tryz.prog.godebug=none:=by kernel_rfl
end Go.Proofs.YtfekoiabjbdnfaaGreat
namespace Go.Proofs.YtfekoiabjbdnfaaGreat
open Go Go.Abs Go.PE
set_option maxRecDepth 100000
section
variable {S:Cells} {w:World} {η:Eta}
theorem zi (k:IntKind):CM S w η (.d (.int k) (0:Int)) (.int k 0):=⟨rfl,VRep.int.2 ⟨rfl,by unfold IntKind.has;cases k<;>decide⟩⟩
theorem zb:CM S w η (.d .bool false) (.bool false):=⟨rfl,VRep.bool.2 rfl⟩
theorem zs:CM S w η (.d .str ([]:List UInt8)) (.string ⟨#[]⟩):=⟨rfl,VRep.str.2 ⟨rfl,Nat.zero_le _⟩⟩
end
abbrev tI:Ty:=.int .i64
abbrev tF:TI:=⟨false,1,[.l .nilF],none,.fn⟩
theorem oF {P:Program} {k:TypeId} {a b c} (h1:∀ w,(isAgg k).run P w=.ok false w) (h2:∀ w,(Go.sizeOf k).run P w=.ok 1 w) (h3:∀ w,(zeroValue k).run P w=.ok .nilFunc w) (h4:∀ w,(underlying k).run P w=.ok (.func a b c) w):TIok P k tF :=
 ⟨h1,h2,⟨_,h3,⟨[Value.nilFunc],rfl,fun S w η=>.cons (rfl) (.nil)⟩,(fun T h=>by cases h)⟩,(fun T h=>by cases h),⟨_,_,_,h4⟩⟩
abbrev ty_putlogref10_Numbers:Ty:=.pair (.list (.pair (.int .i64) (.int .i64))) (.pair (.list (.int .i64)) (.pair (.list (.pair (.int .i64) (.pair (.int .i64) (.pair (.int .i64) (.int .i64))))) (.pair (.list (.pair (.int .i64) (.pair (.int .i64) (.pair (.int .i64) (.pair (.int .i64) (.int .i64)))))) (.pair (.int .i64) (.pair (.int .i64) (.int .i64))))))
abbrev ty_api_Fix:Ty:=.pair (.int .i64) (.pair (.int .i64) (.pair (.int .i64) (.int .i64)))
abbrev ty_api_Sight:Ty:=.pair (.int .i64) (.pair (.int .i64) (.pair (.int .i64) (.pair (.int .i64) (.int .i64))))
abbrev ty_api_Control:Ty:=.pair (.int .i64) (.pair (.list (ty_api_Fix)) (.list (ty_api_Sight)))
abbrev ty_api_Place:Ty:=.pair (.int .i64) (.int .i64)
abbrev ty_api_Box:Ty:=.pair (.int .i64) (.pair (.int .i64) (.pair (.int .i64) (.int .i64)))
abbrev ty_api_Least:Ty:=.pair (.list (.int .i64)) (.pair (.list (.int .i64)) (.int .i64))
abbrev ty_api_Bound:Ty:=.pair (.int .i64) (.pair (.int .i64) (.int .i64))
abbrev ty_api_Between:Ty:=.pair (.int .i64) (.list (ty_api_Bound))
abbrev ty_network_vector:Ty:=.pair (.int .i64) (.int .i64)
abbrev ty_network_observation:Ty:=.pair (ty_network_vector) (.pair (.int .i64) (.pair (.int .i64) (.int .i64)))
abbrev t2:TI:=⟨false,1,[.d (.int .i64) (0:Int)],some (.int .i64),.int .i64⟩
abbrev t3:TI:=⟨false,1,[.d (.int .i64) (0:Int)],some (.int .i64),.int .i64⟩
abbrev t4:TI:=⟨false,1,[.d .bool false],some (.bool),.bool⟩
abbrev t5:TI:=⟨false,1,[.d (.int .u8) (0:Int)],some (.int .u8),.int .u8⟩
abbrev t7:TI:=⟨true,4,[.d (.int .i64) (0:Int),.d (.int .i64) (0:Int),.d .bool false,.d (.int .u8) (0:Int)],some (.pair (.int .i64) (.pair (.int .i64) (.pair (.bool) (.int .u8)))),.other⟩
abbrev t9:TI:=⟨false,1,[.d .str ([]:List UInt8)],some (.str),.str⟩
abbrev t12:TI:=⟨false,1,[.d (.int .u64) (0:Int)],some (.int .u64),.int .u64⟩
abbrev t13:TI:=⟨true,2,[.d .str ([]:List UInt8),.d (.int .u64) (0:Int)],some (.pair (.str) (.int .u64)),.struct [(0,9,1),(1,12,1)]⟩
abbrev t15:TI:=⟨false,1,[.l .nilP],none,.ptr 185⟩
abbrev t16:TI:=⟨false,1,[.l .nilP],none,.ptr 188⟩
abbrev t17:TI:=⟨false,1,[.l .nilP],none,.ptr 196⟩
abbrev t18:TI:=⟨true,1,[.l .nilP],none,.struct [(0,17,1)]⟩
abbrev t20:TI:=⟨false,1,[.l .nilI],none,.other⟩
abbrev t21:TI:=⟨false,1,[.d (.int .i32) (0:Int)],some (.int .i32),.int .i32⟩
abbrev t22:TI:=⟨false,1,[.l .nilS],some (.list (.pair (.int .i64) (.int .i64))),.slice 67 16⟩
abbrev t23:TI:=⟨false,1,[.l .nilS],some (.list (.int .i64)),.slice 3 8⟩
abbrev t24:TI:=⟨false,1,[.l .nilS],some (.list (.pair (.int .i64) (.pair (.int .i64) (.pair (.int .i64) (.int .i64))))),.slice 63 32⟩
abbrev t25:TI:=⟨false,1,[.l .nilS],some (.list (.pair (.int .i64) (.pair (.int .i64) (.pair (.int .i64) (.pair (.int .i64) (.int .i64)))))),.slice 65 40⟩
abbrev t26:TI:=⟨true,3,[.d (.int .i64) (0:Int),.d (.int .i64) (0:Int),.d (.int .i64) (0:Int)],some (.pair (.int .i64) (.pair (.int .i64) (.int .i64))),.array 3 3⟩
abbrev t27:TI:=⟨true,7,[.l .nilS,.l .nilS,.l .nilS,.l .nilS,.d (.int .i64) (0:Int),.d (.int .i64) (0:Int),.d (.int .i64) (0:Int)],some (.pair (.list (.pair (.int .i64) (.int .i64))) (.pair (.list (.int .i64)) (.pair (.list (.pair (.int .i64) (.pair (.int .i64) (.pair (.int .i64) (.int .i64))))) (.pair (.list (.pair (.int .i64) (.pair (.int .i64) (.pair (.int .i64) (.pair (.int .i64) (.int .i64)))))) (.pair (.int .i64) (.pair (.int .i64) (.int .i64))))))),.struct [(0,22,1),(1,23,1),(2,24,1),(3,25,1),(4,26,3)]⟩
abbrev t28:TI:=⟨true,7,[.l .nilS,.l .nilS,.l .nilS,.l .nilS,.d (.int .i64) (0:Int),.d (.int .i64) (0:Int),.d (.int .i64) (0:Int)],some (ty_putlogref10_Numbers),.struct [(0,22,1),(1,23,1),(2,24,1),(3,25,1),(4,26,3)]⟩
abbrev t29:TI:=⟨false,1,[.l .nilS],some (.list (ty_api_Fix)),.slice 42 32⟩
abbrev t30:TI:=⟨false,1,[.l .nilS],some (.list (ty_api_Sight)),.slice 44 40⟩
abbrev t31:TI:=⟨true,3,[.d (.int .i64) (0:Int),.l .nilS,.l .nilS],some (.pair (.int .i64) (.pair (.list (ty_api_Fix)) (.list (ty_api_Sight)))),.struct [(0,3,1),(1,29,1),(2,30,1)]⟩
abbrev t32:TI:=⟨true,3,[.d (.int .i64) (0:Int),.l .nilS,.l .nilS],some (ty_api_Control),.struct [(0,3,1),(1,29,1),(2,30,1)]⟩
abbrev t33:TI:=⟨false,1,[.l .nilS],some (.list (ty_api_Place)),.slice 60 16⟩
abbrev t41:TI:=⟨true,4,[.d (.int .i64) (0:Int),.d (.int .i64) (0:Int),.d (.int .i64) (0:Int),.d (.int .i64) (0:Int)],some (.pair (.int .i64) (.pair (.int .i64) (.pair (.int .i64) (.int .i64)))),.struct [(0,3,1),(1,3,1),(2,3,1),(3,3,1)]⟩
abbrev t42:TI:=⟨true,4,[.d (.int .i64) (0:Int),.d (.int .i64) (0:Int),.d (.int .i64) (0:Int),.d (.int .i64) (0:Int)],some (ty_api_Fix),.struct [(0,3,1),(1,3,1),(2,3,1),(3,3,1)]⟩
abbrev t43:TI:=⟨true,5,[.d (.int .i64) (0:Int),.d (.int .i64) (0:Int),.d (.int .i64) (0:Int),.d (.int .i64) (0:Int),.d (.int .i64) (0:Int)],some (.pair (.int .i64) (.pair (.int .i64) (.pair (.int .i64) (.pair (.int .i64) (.int .i64))))),.struct [(0,3,1),(1,3,1),(2,3,1),(3,3,1),(4,3,1)]⟩
abbrev t44:TI:=⟨true,5,[.d (.int .i64) (0:Int),.d (.int .i64) (0:Int),.d (.int .i64) (0:Int),.d (.int .i64) (0:Int),.d (.int .i64) (0:Int)],some (ty_api_Sight),.struct [(0,3,1),(1,3,1),(2,3,1),(3,3,1),(4,3,1)]⟩
abbrev t45:TI:=⟨true,4,[.d (.int .i64) (0:Int),.d (.int .i64) (0:Int),.d (.int .i64) (0:Int),.d (.int .i64) (0:Int)],some (.pair (.int .i64) (.pair (.int .i64) (.pair (.int .i64) (.int .i64)))),.struct [(0,3,1),(1,3,1),(2,3,1),(3,3,1)]⟩
abbrev t46:TI:=⟨true,4,[.d (.int .i64) (0:Int),.d (.int .i64) (0:Int),.d (.int .i64) (0:Int),.d (.int .i64) (0:Int)],some (ty_api_Box),.struct [(0,3,1),(1,3,1),(2,3,1),(3,3,1)]⟩
abbrev t47:TI:=⟨false,1,[.d (.int .i64) (0:Int)],some (.int .i64),.int .i64⟩
abbrev t51:TI:=⟨true,3,[.l .nilS,.l .nilS,.d (.int .i64) (0:Int)],some (.pair (.list (.int .i64)) (.pair (.list (.int .i64)) (.int .i64))),.struct [(0,23,1),(1,23,1),(2,3,1)]⟩
abbrev t52:TI:=⟨true,3,[.l .nilS,.l .nilS,.d (.int .i64) (0:Int)],some (ty_api_Least),.struct [(0,23,1),(1,23,1),(2,3,1)]⟩
abbrev t59:TI:=⟨true,2,[.d (.int .i64) (0:Int),.d (.int .i64) (0:Int)],some (.pair (.int .i64) (.int .i64)),.struct [(0,3,1),(1,3,1)]⟩
abbrev t60:TI:=⟨true,2,[.d (.int .i64) (0:Int),.d (.int .i64) (0:Int)],some (ty_api_Place),.struct [(0,3,1),(1,3,1)]⟩
abbrev t63:TI:=⟨true,4,[.d (.int .i64) (0:Int),.d (.int .i64) (0:Int),.d (.int .i64) (0:Int),.d (.int .i64) (0:Int)],some (.pair (.int .i64) (.pair (.int .i64) (.pair (.int .i64) (.int .i64)))),.array 4 3⟩
abbrev t65:TI:=⟨true,5,[.d (.int .i64) (0:Int),.d (.int .i64) (0:Int),.d (.int .i64) (0:Int),.d (.int .i64) (0:Int),.d (.int .i64) (0:Int)],some (.pair (.int .i64) (.pair (.int .i64) (.pair (.int .i64) (.pair (.int .i64) (.int .i64))))),.array 5 3⟩
abbrev t67:TI:=⟨true,2,[.d (.int .i64) (0:Int),.d (.int .i64) (0:Int)],some (.pair (.int .i64) (.int .i64)),.array 2 3⟩
abbrev t68:TI:=⟨false,1,[.l .nilP],none,.ptr 42⟩
abbrev t69:TI:=⟨false,1,[.l .nilP],none,.ptr 44⟩
abbrev t71:TI:=⟨false,1,[.l .nilP],none,.ptr 108⟩
abbrev t74:TI:=⟨true,10,[.d (.int .i64) (0:Int),.d (.int .i64) (0:Int),.d (.int .i64) (0:Int),.d (.int .i64) (0:Int),.d (.int .i64) (0:Int),.d (.int .i64) (0:Int),.d (.int .i64) (0:Int),.d (.int .i64) (0:Int),.d (.int .i64) (0:Int),.d (.int .i64) (0:Int)],none,.array 10 3⟩
abbrev t75:TI:=⟨false,1,[.l .nilS],some (.list (ty_api_Bound)),.slice 113 24⟩
abbrev t76:TI:=⟨true,2,[.d (.int .i64) (0:Int),.l .nilS],some (.pair (.int .i64) (.list (ty_api_Bound))),.struct [(0,3,1),(1,75,1)]⟩
abbrev t77:TI:=⟨true,2,[.d (.int .i64) (0:Int),.l .nilS],some (ty_api_Between),.struct [(0,3,1),(1,75,1)]⟩
abbrev t78:TI:=⟨true,4,[.d (.int .i64) (0:Int),.l .nilS,.d (.int .i64) (0:Int),.l .nilS],some (.pair (ty_api_Between) (ty_api_Between)),.array 2 77⟩
abbrev t89:TI:=⟨true,2,[.d (.int .i64) (0:Int),.d (.int .i64) (0:Int)],some (.pair (.int .i64) (.int .i64)),.struct [(0,3,1),(1,3,1)]⟩
abbrev t90:TI:=⟨true,2,[.d (.int .i64) (0:Int),.d (.int .i64) (0:Int)],some (ty_network_vector),.struct [(0,3,1),(1,3,1)]⟩
abbrev t91:TI:=⟨true,5,[.d (.int .i64) (0:Int),.d (.int .i64) (0:Int),.d (.int .i64) (0:Int),.d (.int .i64) (0:Int),.d (.int .i64) (0:Int)],some (.pair (ty_network_vector) (.pair (.int .i64) (.pair (.int .i64) (.int .i64)))),.struct [(0,90,2),(2,3,1),(3,3,1),(4,3,1)]⟩
abbrev t92:TI:=⟨true,5,[.d (.int .i64) (0:Int),.d (.int .i64) (0:Int),.d (.int .i64) (0:Int),.d (.int .i64) (0:Int),.d (.int .i64) (0:Int)],some (ty_network_observation),.struct [(0,90,2),(2,3,1),(3,3,1),(4,3,1)]⟩
abbrev t99:TI:=⟨false,1,[.l .nilS],some (.list (.bool)),.slice 4 1⟩
abbrev t101:TI:=⟨false,1,[.l .nilS],some (.list (.list (.int .i64))),.slice 23 24⟩
abbrev t107:TI:=⟨true,80,[.d (.int .i64) (0:Int),.d (.int .i64) (0:Int),.d (.int .i64) (0:Int),.d (.int .i64) (0:Int),.d (.int .i64) (0:Int),.d (.int .i64) (0:Int),.d (.int .i64) (0:Int),.d (.int .i64) (0:Int),.d (.int .i64) (0:Int),.d (.int .i64) (0:Int),.d (.int .i64) (0:Int),.d (.int .i64) (0:Int),.d (.int .i64) (0:Int),.d (.int .i64) (0:Int),.d (.int .i64) (0:Int),.d (.int .i64) (0:Int),.d (.int .i64) (0:Int),.d (.int .i64) (0:Int),.d (.int .i64) (0:Int),.d (.int .i64) (0:Int),.d (.int .i64) (0:Int),.d (.int .i64) (0:Int),.d (.int .i64) (0:Int),.d (.int .i64) (0:Int),.d (.int .i64) (0:Int),.d (.int .i64) (0:Int),.d (.int .i64) (0:Int),.d (.int .i64) (0:Int),.d (.int .i64) (0:Int),.d (.int .i64) (0:Int),.d (.int .i64) (0:Int),.d (.int .i64) (0:Int),.d (.int .i64) (0:Int),.d (.int .i64) (0:Int),.d (.int .i64) (0:Int),.d (.int .i64) (0:Int),.d (.int .i64) (0:Int),.d (.int .i64) (0:Int),.d (.int .i64) (0:Int),.d (.int .i64) (0:Int),.d (.int .i64) (0:Int),.d (.int .i64) (0:Int),.d (.int .i64) (0:Int),.d (.int .i64) (0:Int),.d (.int .i64) (0:Int),.d (.int .i64) (0:Int),.d (.int .i64) (0:Int),.d (.int .i64) (0:Int),.d (.int .i64) (0:Int),.d (.int .i64) (0:Int),.d (.int .i64) (0:Int),.d (.int .i64) (0:Int),.d (.int .i64) (0:Int),.d (.int .i64) (0:Int),.d (.int .i64) (0:Int),.d (.int .i64) (0:Int),.d (.int .i64) (0:Int),.d (.int .i64) (0:Int),.d (.int .i64) (0:Int),.d (.int .i64) (0:Int),.d (.int .i64) (0:Int),.d (.int .i64) (0:Int),.d (.int .i64) (0:Int),.d (.int .i64) (0:Int),.d (.int .i64) (0:Int),.d (.int .i64) (0:Int),.d (.int .i64) (0:Int),.d (.int .i64) (0:Int),.d (.int .i64) (0:Int),.d (.int .i64) (0:Int),.d (.int .i64) (0:Int),.d (.int .i64) (0:Int),.d (.int .i64) (0:Int),.d (.int .i64) (0:Int),.d (.int .i64) (0:Int),.d (.int .i64) (0:Int),.d (.int .i64) (0:Int),.d (.int .i64) (0:Int),.d (.int .i64) (0:Int),.d (.int .i64) (0:Int)],none,.array 8 74⟩
abbrev t108:TI:=⟨true,80,[.d (.int .i64) (0:Int),.d (.int .i64) (0:Int),.d (.int .i64) (0:Int),.d (.int .i64) (0:Int),.d (.int .i64) (0:Int),.d (.int .i64) (0:Int),.d (.int .i64) (0:Int),.d (.int .i64) (0:Int),.d (.int .i64) (0:Int),.d (.int .i64) (0:Int),.d (.int .i64) (0:Int),.d (.int .i64) (0:Int),.d (.int .i64) (0:Int),.d (.int .i64) (0:Int),.d (.int .i64) (0:Int),.d (.int .i64) (0:Int),.d (.int .i64) (0:Int),.d (.int .i64) (0:Int),.d (.int .i64) (0:Int),.d (.int .i64) (0:Int),.d (.int .i64) (0:Int),.d (.int .i64) (0:Int),.d (.int .i64) (0:Int),.d (.int .i64) (0:Int),.d (.int .i64) (0:Int),.d (.int .i64) (0:Int),.d (.int .i64) (0:Int),.d (.int .i64) (0:Int),.d (.int .i64) (0:Int),.d (.int .i64) (0:Int),.d (.int .i64) (0:Int),.d (.int .i64) (0:Int),.d (.int .i64) (0:Int),.d (.int .i64) (0:Int),.d (.int .i64) (0:Int),.d (.int .i64) (0:Int),.d (.int .i64) (0:Int),.d (.int .i64) (0:Int),.d (.int .i64) (0:Int),.d (.int .i64) (0:Int),.d (.int .i64) (0:Int),.d (.int .i64) (0:Int),.d (.int .i64) (0:Int),.d (.int .i64) (0:Int),.d (.int .i64) (0:Int),.d (.int .i64) (0:Int),.d (.int .i64) (0:Int),.d (.int .i64) (0:Int),.d (.int .i64) (0:Int),.d (.int .i64) (0:Int),.d (.int .i64) (0:Int),.d (.int .i64) (0:Int),.d (.int .i64) (0:Int),.d (.int .i64) (0:Int),.d (.int .i64) (0:Int),.d (.int .i64) (0:Int),.d (.int .i64) (0:Int),.d (.int .i64) (0:Int),.d (.int .i64) (0:Int),.d (.int .i64) (0:Int),.d (.int .i64) (0:Int),.d (.int .i64) (0:Int),.d (.int .i64) (0:Int),.d (.int .i64) (0:Int),.d (.int .i64) (0:Int),.d (.int .i64) (0:Int),.d (.int .i64) (0:Int),.d (.int .i64) (0:Int),.d (.int .i64) (0:Int),.d (.int .i64) (0:Int),.d (.int .i64) (0:Int),.d (.int .i64) (0:Int),.d (.int .i64) (0:Int),.d (.int .i64) (0:Int),.d (.int .i64) (0:Int),.d (.int .i64) (0:Int),.d (.int .i64) (0:Int),.d (.int .i64) (0:Int),.d (.int .i64) (0:Int),.d (.int .i64) (0:Int)],none,.array 8 74⟩
abbrev t111:TI:=⟨false,1,[.l .nilS],none,.slice 110 8⟩
abbrev t112:TI:=⟨true,3,[.d (.int .i64) (0:Int),.d (.int .i64) (0:Int),.d (.int .i64) (0:Int)],some (.pair (.int .i64) (.pair (.int .i64) (.int .i64))),.struct [(0,3,1),(1,3,1),(2,3,1)]⟩
abbrev t113:TI:=⟨true,3,[.d (.int .i64) (0:Int),.d (.int .i64) (0:Int),.d (.int .i64) (0:Int)],some (ty_api_Bound),.struct [(0,3,1),(1,3,1),(2,3,1)]⟩
abbrev t117:TI:=⟨false,1,[.l .nilS],some (.list (.list (.list (.int .i64)))),.slice 101 24⟩
abbrev t129:TI:=⟨false,1,[.l .nilS],some (.list (.list (.str))),.slice 130 24⟩
abbrev t130:TI:=⟨false,1,[.l .nilS],some (.list (.str)),.slice 9 16⟩
abbrev t178:TI:=⟨false,1,[.l .nilS],some (.list (.int .u8)),.slice 5 1⟩
def tyTab:List (TypeId×TI):=[(1,tF),(2,t2),(3,t3),(4,t4),(5,t5),(7,t7),(9,t9),(12,t12),(13,t13),(15,t15),(16,t16),(17,t17),(18,t18),(20,t20),(21,t21),(22,t22),(23,t23),(24,t24),(25,t25),(26,t26),(27,t27),(28,t28),(29,t29),(30,t30),(31,t31),(32,t32),(33,t33),(37,tF),(41,t41),(42,t42),(43,t43),(44,t44),(45,t45),(46,t46),(47,t47),(51,t51),(52,t52),(59,t59),(60,t60),(63,t63),(65,t65),(67,t67),(68,t68),(69,t69),(71,t71),(74,t74),(75,t75),(76,t76),(77,t77),(78,t78),(84,tF),(87,tF),(89,t89),(90,t90),(91,t91),(92,t92),(93,tF),(94,tF),(99,t99),(101,t101),(107,t107),(108,t108),(109,tF),(110,tF),(111,t111),(112,t112),(113,t113),(117,t117),(119,tF),(126,tF),(129,t129),(130,t130),(142,tF),(144,tF),(178,t178)]
theorem ti2:TIok Tryz.prog 2 t2 :=
 ⟨Tryz.isAgg2,Tryz.sizeOf2,⟨_,Tryz.zeroValue2,⟨[Value.int IntKind.i64 0],rfl,fun S w η=>.cons (zi _) (.nil)⟩,(fun T h=>by cases h;rfl)⟩,(fun T h=>by cases h;exact ⟨rfl,rfl⟩),Tryz.runUnderlying2⟩
theorem ti3:TIok Tryz.prog 3 t3 :=
 ⟨Tryz.isAgg3,Tryz.sizeOf3,⟨_,Tryz.zeroValue3,⟨[Value.int IntKind.i64 0],rfl,fun S w η=>.cons (zi _) (.nil)⟩,(fun T h=>by cases h;rfl)⟩,(fun T h=>by cases h;exact ⟨rfl,rfl⟩),Tryz.runUnderlying3⟩
theorem ti4:TIok Tryz.prog 4 t4 :=
 ⟨Tryz.isAgg4,Tryz.sizeOf4,⟨_,Tryz.zeroValue4,⟨[Value.bool false],rfl,fun S w η=>.cons (zb) (.nil)⟩,(fun T h=>by cases h;rfl)⟩,(fun T h=>by cases h;exact ⟨rfl,rfl⟩),Tryz.runUnderlying4⟩
theorem ti5:TIok Tryz.prog 5 t5 :=
 ⟨Tryz.isAgg5,Tryz.sizeOf5,⟨_,Tryz.zeroValue5,⟨[Value.int IntKind.u8 0],rfl,fun S w η=>.cons (zi _) (.nil)⟩,(fun T h=>by cases h;rfl)⟩,(fun T h=>by cases h;exact ⟨rfl,rfl⟩),Tryz.runUnderlying5⟩
theorem ti7:TIok Tryz.prog 7 t7 :=
 ⟨Tryz.isAgg7,Tryz.sizeOf7,⟨_,Tryz.zeroValue7,⟨[Value.int IntKind.i64 0,Value.int IntKind.i64 0,Value.bool false,Value.int IntKind.u8 0],rfl,fun S w η=>.cons (zi _) (.cons (zi _) (.cons (zb) (.cons (zi _) (.nil))))⟩,(fun T h=>by cases h;rfl)⟩,(fun T h=>by cases h;exact ⟨rfl,rfl⟩),trivial⟩
theorem ti9:TIok Tryz.prog 9 t9 :=
 ⟨Tryz.isAgg9,Tryz.sizeOf9,⟨_,Tryz.zeroValue9,⟨[Value.string ⟨#[]⟩],rfl,fun S w η=>.cons (zs) (.nil)⟩,(fun T h=>by cases h;rfl)⟩,(fun T h=>by cases h;exact ⟨rfl,rfl⟩),Tryz.runUnderlying9⟩
theorem ti12:TIok Tryz.prog 12 t12 :=
 ⟨Tryz.isAgg12,Tryz.sizeOf12,⟨_,Tryz.zeroValue12,⟨[Value.int IntKind.u64 0],rfl,fun S w η=>.cons (zi _) (.nil)⟩,(fun T h=>by cases h;rfl)⟩,(fun T h=>by cases h;exact ⟨rfl,rfl⟩),Tryz.runUnderlying12⟩
theorem ti13:TIok Tryz.prog 13 t13 :=
 ⟨Tryz.isAgg13,Tryz.sizeOf13,⟨_,Tryz.zeroValue13,⟨[Value.string ⟨#[]⟩,Value.int IntKind.u64 0],rfl,fun S w η=>.cons (zs) (.cons (zi _) (.nil))⟩,(fun T h=>by cases h;rfl)⟩,(fun T h=>by cases h;exact ⟨rfl,rfl⟩),⟨_,Tryz.runUnderlying13,rfl,fun w=>by simp [Tryz.sizeOf12,Tryz.sizeOf9]⟩⟩
theorem ti15:TIok Tryz.prog 15 t15 :=
 ⟨Tryz.isAgg15,Tryz.sizeOf15,⟨_,Tryz.zeroValue15,⟨[Value.pointer none],rfl,fun S w η=>.cons (rfl) (.nil)⟩,(fun T h=>by cases h)⟩,(fun T h=>by cases h),Tryz.runUnderlying15⟩
theorem ti16:TIok Tryz.prog 16 t16 :=
 ⟨Tryz.isAgg16,Tryz.sizeOf16,⟨_,Tryz.zeroValue16,⟨[Value.pointer none],rfl,fun S w η=>.cons (rfl) (.nil)⟩,(fun T h=>by cases h)⟩,(fun T h=>by cases h),Tryz.runUnderlying16⟩
theorem ti17:TIok Tryz.prog 17 t17 :=
 ⟨Tryz.isAgg17,Tryz.sizeOf17,⟨_,Tryz.zeroValue17,⟨[Value.pointer none],rfl,fun S w η=>.cons (rfl) (.nil)⟩,(fun T h=>by cases h)⟩,(fun T h=>by cases h),Tryz.runUnderlying17⟩
theorem ti18:TIok Tryz.prog 18 t18 :=
 ⟨Tryz.isAgg18,Tryz.sizeOf18,⟨_,Tryz.zeroValue18,⟨[Value.pointer none],rfl,fun S w η=>.cons (rfl) (.nil)⟩,(fun T h=>by cases h)⟩,(fun T h=>by cases h),⟨_,Tryz.runUnderlying18,rfl,fun w=>by simp [Tryz.sizeOf17]⟩⟩
theorem ti20:TIok Tryz.prog 20 t20 :=
 ⟨Tryz.isAgg20,Tryz.sizeOf20,⟨_,Tryz.zeroValue20,⟨[Value.nilIface],rfl,fun S w η=>.cons (rfl) (.nil)⟩,(fun T h=>by cases h)⟩,(fun T h=>by cases h),trivial⟩
theorem ti21:TIok Tryz.prog 21 t21 :=
 ⟨Tryz.isAgg21,Tryz.sizeOf21,⟨_,Tryz.zeroValue21,⟨[Value.int IntKind.i32 0],rfl,fun S w η=>.cons (zi _) (.nil)⟩,(fun T h=>by cases h;rfl)⟩,(fun T h=>by cases h;exact ⟨rfl,rfl⟩),Tryz.runUnderlying21⟩
theorem ti22:TIok Tryz.prog 22 t22 :=
 ⟨Tryz.isAgg22,Tryz.sizeOf22,⟨_,Tryz.zeroValue22,⟨[Value.slice none 0 0],rfl,fun S w η=>.cons (rfl) (.nil)⟩,(fun T h=>by cases h;rfl)⟩,(fun T h=>by cases h;exact ⟨rfl,rfl⟩),⟨Tryz.underlying22,by decide,Tryz.t67,_,rfl,rfl,rfl,Tryz.zeroValue67,Tryz.sizeOf67⟩⟩
theorem ti23:TIok Tryz.prog 23 t23 :=
 ⟨Tryz.isAgg23,Tryz.sizeOf23,⟨_,Tryz.zeroValue23,⟨[Value.slice none 0 0],rfl,fun S w η=>.cons (rfl) (.nil)⟩,(fun T h=>by cases h;rfl)⟩,(fun T h=>by cases h;exact ⟨rfl,rfl⟩),⟨Tryz.underlying23,by decide,Tryz.t3,_,rfl,rfl,rfl,Tryz.zeroValue3,Tryz.sizeOf3⟩⟩
theorem ti24:TIok Tryz.prog 24 t24 :=
 ⟨Tryz.isAgg24,Tryz.sizeOf24,⟨_,Tryz.zeroValue24,⟨[Value.slice none 0 0],rfl,fun S w η=>.cons (rfl) (.nil)⟩,(fun T h=>by cases h;rfl)⟩,(fun T h=>by cases h;exact ⟨rfl,rfl⟩),⟨Tryz.underlying24,by decide,Tryz.t63,_,rfl,rfl,rfl,Tryz.zeroValue63,Tryz.sizeOf63⟩⟩
theorem ti25:TIok Tryz.prog 25 t25 :=
 ⟨Tryz.isAgg25,Tryz.sizeOf25,⟨_,Tryz.zeroValue25,⟨[Value.slice none 0 0],rfl,fun S w η=>.cons (rfl) (.nil)⟩,(fun T h=>by cases h;rfl)⟩,(fun T h=>by cases h;exact ⟨rfl,rfl⟩),⟨Tryz.underlying25,by decide,Tryz.t65,_,rfl,rfl,rfl,Tryz.zeroValue65,Tryz.sizeOf65⟩⟩
theorem ti26:TIok Tryz.prog 26 t26 :=
 ⟨Tryz.isAgg26,Tryz.sizeOf26,⟨_,Tryz.zeroValue26,⟨[Value.int IntKind.i64 0,Value.int IntKind.i64 0,Value.int IntKind.i64 0],rfl,fun S w η=>.cons (zi _) (.cons (zi _) (.cons (zi _) (.nil)))⟩,(fun T h=>by cases h;rfl)⟩,(fun T h=>by cases h;exact ⟨rfl,rfl⟩),Tryz.runUnderlying26⟩
theorem ti27:TIok Tryz.prog 27 t27 :=
 ⟨Tryz.isAgg27,Tryz.sizeOf27,⟨_,Tryz.zeroValue27,⟨[Value.slice none 0 0,Value.slice none 0 0,Value.slice none 0 0,Value.slice none 0 0,Value.int IntKind.i64 0,Value.int IntKind.i64 0,Value.int IntKind.i64 0],rfl,fun S w η=>.cons (rfl) (.cons (rfl) (.cons (rfl) (.cons (rfl) (.cons (zi _) (.cons (zi _) (.cons (zi _) (.nil)))))))⟩,(fun T h=>by cases h;rfl)⟩,(fun T h=>by cases h;exact ⟨rfl,rfl⟩),⟨_,Tryz.runUnderlying27,rfl,fun w=>by simp [Tryz.sizeOf22,Tryz.sizeOf23,Tryz.sizeOf24,Tryz.sizeOf25,Tryz.sizeOf26]⟩⟩
theorem ti28:TIok Tryz.prog 28 t28 :=
 ⟨Tryz.isAgg28,Tryz.sizeOf28,⟨_,Tryz.zeroValue28,⟨[Value.slice none 0 0,Value.slice none 0 0,Value.slice none 0 0,Value.slice none 0 0,Value.int IntKind.i64 0,Value.int IntKind.i64 0,Value.int IntKind.i64 0],rfl,fun S w η=>.cons (rfl) (.cons (rfl) (.cons (rfl) (.cons (rfl) (.cons (zi _) (.cons (zi _) (.cons (zi _) (.nil)))))))⟩,(fun T h=>by cases h;rfl)⟩,(fun T h=>by cases h;exact ⟨rfl,rfl⟩),⟨_,Tryz.runUnderlying28,rfl,fun w=>by simp [Tryz.sizeOf22,Tryz.sizeOf23,Tryz.sizeOf24,Tryz.sizeOf25,Tryz.sizeOf26]⟩⟩
theorem ti29:TIok Tryz.prog 29 t29 :=
 ⟨Tryz.isAgg29,Tryz.sizeOf29,⟨_,Tryz.zeroValue29,⟨[Value.slice none 0 0],rfl,fun S w η=>.cons (rfl) (.nil)⟩,(fun T h=>by cases h;rfl)⟩,(fun T h=>by cases h;exact ⟨rfl,rfl⟩),⟨Tryz.underlying29,by decide,Tryz.t42,_,rfl,rfl,rfl,Tryz.zeroValue42,Tryz.sizeOf42⟩⟩
theorem ti30:TIok Tryz.prog 30 t30 :=
 ⟨Tryz.isAgg30,Tryz.sizeOf30,⟨_,Tryz.zeroValue30,⟨[Value.slice none 0 0],rfl,fun S w η=>.cons (rfl) (.nil)⟩,(fun T h=>by cases h;rfl)⟩,(fun T h=>by cases h;exact ⟨rfl,rfl⟩),⟨Tryz.underlying30,by decide,Tryz.t44,_,rfl,rfl,rfl,Tryz.zeroValue44,Tryz.sizeOf44⟩⟩
theorem ti31:TIok Tryz.prog 31 t31 :=
 ⟨Tryz.isAgg31,Tryz.sizeOf31,⟨_,Tryz.zeroValue31,⟨[Value.int IntKind.i64 0,Value.slice none 0 0,Value.slice none 0 0],rfl,fun S w η=>.cons (zi _) (.cons (rfl) (.cons (rfl) (.nil)))⟩,(fun T h=>by cases h;rfl)⟩,(fun T h=>by cases h;exact ⟨rfl,rfl⟩),⟨_,Tryz.runUnderlying31,rfl,fun w=>by simp [Tryz.sizeOf29,Tryz.sizeOf3,Tryz.sizeOf30]⟩⟩
theorem ti32:TIok Tryz.prog 32 t32 :=
 ⟨Tryz.isAgg32,Tryz.sizeOf32,⟨_,Tryz.zeroValue32,⟨[Value.int IntKind.i64 0,Value.slice none 0 0,Value.slice none 0 0],rfl,fun S w η=>.cons (zi _) (.cons (rfl) (.cons (rfl) (.nil)))⟩,(fun T h=>by cases h;rfl)⟩,(fun T h=>by cases h;exact ⟨rfl,rfl⟩),⟨_,Tryz.runUnderlying32,rfl,fun w=>by simp [Tryz.sizeOf29,Tryz.sizeOf3,Tryz.sizeOf30]⟩⟩
theorem ti33:TIok Tryz.prog 33 t33 :=
 ⟨Tryz.isAgg33,Tryz.sizeOf33,⟨_,Tryz.zeroValue33,⟨[Value.slice none 0 0],rfl,fun S w η=>.cons (rfl) (.nil)⟩,(fun T h=>by cases h;rfl)⟩,(fun T h=>by cases h;exact ⟨rfl,rfl⟩),⟨Tryz.underlying33,by decide,Tryz.t60,_,rfl,rfl,rfl,Tryz.zeroValue60,Tryz.sizeOf60⟩⟩
theorem ti41:TIok Tryz.prog 41 t41 :=
 ⟨Tryz.isAgg41,Tryz.sizeOf41,⟨_,Tryz.zeroValue41,⟨[Value.int IntKind.i64 0,Value.int IntKind.i64 0,Value.int IntKind.i64 0,Value.int IntKind.i64 0],rfl,fun S w η=>.cons (zi _) (.cons (zi _) (.cons (zi _) (.cons (zi _) (.nil))))⟩,(fun T h=>by cases h;rfl)⟩,(fun T h=>by cases h;exact ⟨rfl,rfl⟩),⟨_,Tryz.runUnderlying41,rfl,fun w=>by simp [Tryz.sizeOf3]⟩⟩
theorem ti42:TIok Tryz.prog 42 t42 :=
 ⟨Tryz.isAgg42,Tryz.sizeOf42,⟨_,Tryz.zeroValue42,⟨[Value.int IntKind.i64 0,Value.int IntKind.i64 0,Value.int IntKind.i64 0,Value.int IntKind.i64 0],rfl,fun S w η=>.cons (zi _) (.cons (zi _) (.cons (zi _) (.cons (zi _) (.nil))))⟩,(fun T h=>by cases h;rfl)⟩,(fun T h=>by cases h;exact ⟨rfl,rfl⟩),⟨_,Tryz.runUnderlying42,rfl,fun w=>by simp [Tryz.sizeOf3]⟩⟩
theorem ti43:TIok Tryz.prog 43 t43 :=
 ⟨Tryz.isAgg43,Tryz.sizeOf43,⟨_,Tryz.zeroValue43,⟨[Value.int IntKind.i64 0,Value.int IntKind.i64 0,Value.int IntKind.i64 0,Value.int IntKind.i64 0,Value.int IntKind.i64 0],rfl,fun S w η=>.cons (zi _) (.cons (zi _) (.cons (zi _) (.cons (zi _) (.cons (zi _) (.nil)))))⟩,(fun T h=>by cases h;rfl)⟩,(fun T h=>by cases h;exact ⟨rfl,rfl⟩),⟨_,Tryz.runUnderlying43,rfl,fun w=>by simp [Tryz.sizeOf3]⟩⟩
theorem ti44:TIok Tryz.prog 44 t44 :=
 ⟨Tryz.isAgg44,Tryz.sizeOf44,⟨_,Tryz.zeroValue44,⟨[Value.int IntKind.i64 0,Value.int IntKind.i64 0,Value.int IntKind.i64 0,Value.int IntKind.i64 0,Value.int IntKind.i64 0],rfl,fun S w η=>.cons (zi _) (.cons (zi _) (.cons (zi _) (.cons (zi _) (.cons (zi _) (.nil)))))⟩,(fun T h=>by cases h;rfl)⟩,(fun T h=>by cases h;exact ⟨rfl,rfl⟩),⟨_,Tryz.runUnderlying44,rfl,fun w=>by simp [Tryz.sizeOf3]⟩⟩
theorem ti45:TIok Tryz.prog 45 t45 :=
 ⟨Tryz.isAgg45,Tryz.sizeOf45,⟨_,Tryz.zeroValue45,⟨[Value.int IntKind.i64 0,Value.int IntKind.i64 0,Value.int IntKind.i64 0,Value.int IntKind.i64 0],rfl,fun S w η=>.cons (zi _) (.cons (zi _) (.cons (zi _) (.cons (zi _) (.nil))))⟩,(fun T h=>by cases h;rfl)⟩,(fun T h=>by cases h;exact ⟨rfl,rfl⟩),⟨_,Tryz.runUnderlying45,rfl,fun w=>by simp [Tryz.sizeOf3]⟩⟩
theorem ti46:TIok Tryz.prog 46 t46 :=
 ⟨Tryz.isAgg46,Tryz.sizeOf46,⟨_,Tryz.zeroValue46,⟨[Value.int IntKind.i64 0,Value.int IntKind.i64 0,Value.int IntKind.i64 0,Value.int IntKind.i64 0],rfl,fun S w η=>.cons (zi _) (.cons (zi _) (.cons (zi _) (.cons (zi _) (.nil))))⟩,(fun T h=>by cases h;rfl)⟩,(fun T h=>by cases h;exact ⟨rfl,rfl⟩),⟨_,Tryz.runUnderlying46,rfl,fun w=>by simp [Tryz.sizeOf3]⟩⟩
theorem ti47:TIok Tryz.prog 47 t47 :=
 ⟨Tryz.isAgg47,Tryz.sizeOf47,⟨_,Tryz.zeroValue47,⟨[Value.int IntKind.i64 0],rfl,fun S w η=>.cons (zi _) (.nil)⟩,(fun T h=>by cases h;rfl)⟩,(fun T h=>by cases h;exact ⟨rfl,rfl⟩),Tryz.runUnderlying47⟩
theorem ti51:TIok Tryz.prog 51 t51 :=
 ⟨Tryz.isAgg51,Tryz.sizeOf51,⟨_,Tryz.zeroValue51,⟨[Value.slice none 0 0,Value.slice none 0 0,Value.int IntKind.i64 0],rfl,fun S w η=>.cons (rfl) (.cons (rfl) (.cons (zi _) (.nil)))⟩,(fun T h=>by cases h;rfl)⟩,(fun T h=>by cases h;exact ⟨rfl,rfl⟩),⟨_,Tryz.runUnderlying51,rfl,fun w=>by simp [Tryz.sizeOf23,Tryz.sizeOf3]⟩⟩
theorem ti52:TIok Tryz.prog 52 t52 :=
 ⟨Tryz.isAgg52,Tryz.sizeOf52,⟨_,Tryz.zeroValue52,⟨[Value.slice none 0 0,Value.slice none 0 0,Value.int IntKind.i64 0],rfl,fun S w η=>.cons (rfl) (.cons (rfl) (.cons (zi _) (.nil)))⟩,(fun T h=>by cases h;rfl)⟩,(fun T h=>by cases h;exact ⟨rfl,rfl⟩),⟨_,Tryz.runUnderlying52,rfl,fun w=>by simp [Tryz.sizeOf23,Tryz.sizeOf3]⟩⟩
theorem ti59:TIok Tryz.prog 59 t59 :=
 ⟨Tryz.isAgg59,Tryz.sizeOf59,⟨_,Tryz.zeroValue59,⟨[Value.int IntKind.i64 0,Value.int IntKind.i64 0],rfl,fun S w η=>.cons (zi _) (.cons (zi _) (.nil))⟩,(fun T h=>by cases h;rfl)⟩,(fun T h=>by cases h;exact ⟨rfl,rfl⟩),⟨_,Tryz.runUnderlying59,rfl,fun w=>by simp [Tryz.sizeOf3]⟩⟩
theorem ti60:TIok Tryz.prog 60 t60 :=
 ⟨Tryz.isAgg60,Tryz.sizeOf60,⟨_,Tryz.zeroValue60,⟨[Value.int IntKind.i64 0,Value.int IntKind.i64 0],rfl,fun S w η=>.cons (zi _) (.cons (zi _) (.nil))⟩,(fun T h=>by cases h;rfl)⟩,(fun T h=>by cases h;exact ⟨rfl,rfl⟩),⟨_,Tryz.runUnderlying60,rfl,fun w=>by simp [Tryz.sizeOf3]⟩⟩
theorem ti63:TIok Tryz.prog 63 t63 :=
 ⟨Tryz.isAgg63,Tryz.sizeOf63,⟨_,Tryz.zeroValue63,⟨[Value.int IntKind.i64 0,Value.int IntKind.i64 0,Value.int IntKind.i64 0,Value.int IntKind.i64 0],rfl,fun S w η=>.cons (zi _) (.cons (zi _) (.cons (zi _) (.cons (zi _) (.nil))))⟩,(fun T h=>by cases h;rfl)⟩,(fun T h=>by cases h;exact ⟨rfl,rfl⟩),Tryz.runUnderlying63⟩
theorem ti65:TIok Tryz.prog 65 t65 :=
 ⟨Tryz.isAgg65,Tryz.sizeOf65,⟨_,Tryz.zeroValue65,⟨[Value.int IntKind.i64 0,Value.int IntKind.i64 0,Value.int IntKind.i64 0,Value.int IntKind.i64 0,Value.int IntKind.i64 0],rfl,fun S w η=>.cons (zi _) (.cons (zi _) (.cons (zi _) (.cons (zi _) (.cons (zi _) (.nil)))))⟩,(fun T h=>by cases h;rfl)⟩,(fun T h=>by cases h;exact ⟨rfl,rfl⟩),Tryz.runUnderlying65⟩
theorem ti67:TIok Tryz.prog 67 t67 :=
 ⟨Tryz.isAgg67,Tryz.sizeOf67,⟨_,Tryz.zeroValue67,⟨[Value.int IntKind.i64 0,Value.int IntKind.i64 0],rfl,fun S w η=>.cons (zi _) (.cons (zi _) (.nil))⟩,(fun T h=>by cases h;rfl)⟩,(fun T h=>by cases h;exact ⟨rfl,rfl⟩),Tryz.runUnderlying67⟩
theorem ti68:TIok Tryz.prog 68 t68 :=
 ⟨Tryz.isAgg68,Tryz.sizeOf68,⟨_,Tryz.zeroValue68,⟨[Value.pointer none],rfl,fun S w η=>.cons (rfl) (.nil)⟩,(fun T h=>by cases h)⟩,(fun T h=>by cases h),Tryz.runUnderlying68⟩
theorem ti69:TIok Tryz.prog 69 t69 :=
 ⟨Tryz.isAgg69,Tryz.sizeOf69,⟨_,Tryz.zeroValue69,⟨[Value.pointer none],rfl,fun S w η=>.cons (rfl) (.nil)⟩,(fun T h=>by cases h)⟩,(fun T h=>by cases h),Tryz.runUnderlying69⟩
theorem ti71:TIok Tryz.prog 71 t71 :=
 ⟨Tryz.isAgg71,Tryz.sizeOf71,⟨_,Tryz.zeroValue71,⟨[Value.pointer none],rfl,fun S w η=>.cons (rfl) (.nil)⟩,(fun T h=>by cases h)⟩,(fun T h=>by cases h),Tryz.runUnderlying71⟩
theorem ti74:TIok Tryz.prog 74 t74 :=
 ⟨Tryz.isAgg74,Tryz.sizeOf74,⟨_,Tryz.zeroValue74,⟨[Value.int IntKind.i64 0,Value.int IntKind.i64 0,Value.int IntKind.i64 0,Value.int IntKind.i64 0,Value.int IntKind.i64 0,Value.int IntKind.i64 0,Value.int IntKind.i64 0,Value.int IntKind.i64 0,Value.int IntKind.i64 0,Value.int IntKind.i64 0],rfl,fun S w η=>.cons (zi _) (.cons (zi _) (.cons (zi _) (.cons (zi _) (.cons (zi _) (.cons (zi _) (.cons (zi _) (.cons (zi _) (.cons (zi _) (.cons (zi _) (.nil))))))))))⟩,(fun T h=>by cases h)⟩,(fun T h=>by cases h),Tryz.runUnderlying74⟩
theorem ti75:TIok Tryz.prog 75 t75 :=
 ⟨Tryz.isAgg75,Tryz.sizeOf75,⟨_,Tryz.zeroValue75,⟨[Value.slice none 0 0],rfl,fun S w η=>.cons (rfl) (.nil)⟩,(fun T h=>by cases h;rfl)⟩,(fun T h=>by cases h;exact ⟨rfl,rfl⟩),⟨Tryz.underlying75,by decide,Tryz.t113,_,rfl,rfl,rfl,Tryz.zeroValue113,Tryz.sizeOf113⟩⟩
theorem ti76:TIok Tryz.prog 76 t76 :=
 ⟨Tryz.isAgg76,Tryz.sizeOf76,⟨_,Tryz.zeroValue76,⟨[Value.int IntKind.i64 0,Value.slice none 0 0],rfl,fun S w η=>.cons (zi _) (.cons (rfl) (.nil))⟩,(fun T h=>by cases h;rfl)⟩,(fun T h=>by cases h;exact ⟨rfl,rfl⟩),⟨_,Tryz.runUnderlying76,rfl,fun w=>by simp [Tryz.sizeOf3,Tryz.sizeOf75]⟩⟩
theorem ti77:TIok Tryz.prog 77 t77 :=
 ⟨Tryz.isAgg77,Tryz.sizeOf77,⟨_,Tryz.zeroValue77,⟨[Value.int IntKind.i64 0,Value.slice none 0 0],rfl,fun S w η=>.cons (zi _) (.cons (rfl) (.nil))⟩,(fun T h=>by cases h;rfl)⟩,(fun T h=>by cases h;exact ⟨rfl,rfl⟩),⟨_,Tryz.runUnderlying77,rfl,fun w=>by simp [Tryz.sizeOf3,Tryz.sizeOf75]⟩⟩
theorem ti78:TIok Tryz.prog 78 t78 :=
 ⟨Tryz.isAgg78,Tryz.sizeOf78,⟨_,Tryz.zeroValue78,⟨[Value.int IntKind.i64 0,Value.slice none 0 0,Value.int IntKind.i64 0,Value.slice none 0 0],rfl,fun S w η=>.cons (zi _) (.cons (rfl) (.cons (zi _) (.cons (rfl) (.nil))))⟩,(fun T h=>by cases h;rfl)⟩,(fun T h=>by cases h;exact ⟨rfl,rfl⟩),Tryz.runUnderlying78⟩
theorem ti89:TIok Tryz.prog 89 t89 :=
 ⟨Tryz.isAgg89,Tryz.sizeOf89,⟨_,Tryz.zeroValue89,⟨[Value.int IntKind.i64 0,Value.int IntKind.i64 0],rfl,fun S w η=>.cons (zi _) (.cons (zi _) (.nil))⟩,(fun T h=>by cases h;rfl)⟩,(fun T h=>by cases h;exact ⟨rfl,rfl⟩),⟨_,Tryz.runUnderlying89,rfl,fun w=>by simp [Tryz.sizeOf3]⟩⟩
theorem ti90:TIok Tryz.prog 90 t90 :=
 ⟨Tryz.isAgg90,Tryz.sizeOf90,⟨_,Tryz.zeroValue90,⟨[Value.int IntKind.i64 0,Value.int IntKind.i64 0],rfl,fun S w η=>.cons (zi _) (.cons (zi _) (.nil))⟩,(fun T h=>by cases h;rfl)⟩,(fun T h=>by cases h;exact ⟨rfl,rfl⟩),⟨_,Tryz.runUnderlying90,rfl,fun w=>by simp [Tryz.sizeOf3]⟩⟩
theorem ti91:TIok Tryz.prog 91 t91 :=
 ⟨Tryz.isAgg91,Tryz.sizeOf91,⟨_,Tryz.zeroValue91,⟨[Value.int IntKind.i64 0,Value.int IntKind.i64 0,Value.int IntKind.i64 0,Value.int IntKind.i64 0,Value.int IntKind.i64 0],rfl,fun S w η=>.cons (zi _) (.cons (zi _) (.cons (zi _) (.cons (zi _) (.cons (zi _) (.nil)))))⟩,(fun T h=>by cases h;rfl)⟩,(fun T h=>by cases h;exact ⟨rfl,rfl⟩),⟨_,Tryz.runUnderlying91,rfl,fun w=>by simp [Tryz.sizeOf3,Tryz.sizeOf90]⟩⟩
theorem ti92:TIok Tryz.prog 92 t92 :=
 ⟨Tryz.isAgg92,Tryz.sizeOf92,⟨_,Tryz.zeroValue92,⟨[Value.int IntKind.i64 0,Value.int IntKind.i64 0,Value.int IntKind.i64 0,Value.int IntKind.i64 0,Value.int IntKind.i64 0],rfl,fun S w η=>.cons (zi _) (.cons (zi _) (.cons (zi _) (.cons (zi _) (.cons (zi _) (.nil)))))⟩,(fun T h=>by cases h;rfl)⟩,(fun T h=>by cases h;exact ⟨rfl,rfl⟩),⟨_,Tryz.runUnderlying92,rfl,fun w=>by simp [Tryz.sizeOf3,Tryz.sizeOf90]⟩⟩
theorem ti99:TIok Tryz.prog 99 t99 :=
 ⟨Tryz.isAgg99,Tryz.sizeOf99,⟨_,Tryz.zeroValue99,⟨[Value.slice none 0 0],rfl,fun S w η=>.cons (rfl) (.nil)⟩,(fun T h=>by cases h;rfl)⟩,(fun T h=>by cases h;exact ⟨rfl,rfl⟩),⟨Tryz.underlying99,by decide,Tryz.t4,_,rfl,rfl,rfl,Tryz.zeroValue4,Tryz.sizeOf4⟩⟩
theorem ti101:TIok Tryz.prog 101 t101 :=
 ⟨Tryz.isAgg101,Tryz.sizeOf101,⟨_,Tryz.zeroValue101,⟨[Value.slice none 0 0],rfl,fun S w η=>.cons (rfl) (.nil)⟩,(fun T h=>by cases h;rfl)⟩,(fun T h=>by cases h;exact ⟨rfl,rfl⟩),⟨Tryz.underlying101,by decide,Tryz.t23,_,rfl,rfl,rfl,Tryz.zeroValue23,Tryz.sizeOf23⟩⟩
theorem ti107:TIok Tryz.prog 107 t107 :=
 ⟨Tryz.isAgg107,Tryz.sizeOf107,⟨_,Tryz.zeroValue107,⟨[Value.int IntKind.i64 0,Value.int IntKind.i64 0,Value.int IntKind.i64 0,Value.int IntKind.i64 0,Value.int IntKind.i64 0,Value.int IntKind.i64 0,Value.int IntKind.i64 0,Value.int IntKind.i64 0,Value.int IntKind.i64 0,Value.int IntKind.i64 0,Value.int IntKind.i64 0,Value.int IntKind.i64 0,Value.int IntKind.i64 0,Value.int IntKind.i64 0,Value.int IntKind.i64 0,Value.int IntKind.i64 0,Value.int IntKind.i64 0,Value.int IntKind.i64 0,Value.int IntKind.i64 0,Value.int IntKind.i64 0,Value.int IntKind.i64 0,Value.int IntKind.i64 0,Value.int IntKind.i64 0,Value.int IntKind.i64 0,Value.int IntKind.i64 0,Value.int IntKind.i64 0,Value.int IntKind.i64 0,Value.int IntKind.i64 0,Value.int IntKind.i64 0,Value.int IntKind.i64 0,Value.int IntKind.i64 0,Value.int IntKind.i64 0,Value.int IntKind.i64 0,Value.int IntKind.i64 0,Value.int IntKind.i64 0,Value.int IntKind.i64 0,Value.int IntKind.i64 0,Value.int IntKind.i64 0,Value.int IntKind.i64 0,Value.int IntKind.i64 0,Value.int IntKind.i64 0,Value.int IntKind.i64 0,Value.int IntKind.i64 0,Value.int IntKind.i64 0,Value.int IntKind.i64 0,Value.int IntKind.i64 0,Value.int IntKind.i64 0,Value.int IntKind.i64 0,Value.int IntKind.i64 0,Value.int IntKind.i64 0,Value.int IntKind.i64 0,Value.int IntKind.i64 0,Value.int IntKind.i64 0,Value.int IntKind.i64 0,Value.int IntKind.i64 0,Value.int IntKind.i64 0,Value.int IntKind.i64 0,Value.int IntKind.i64 0,Value.int IntKind.i64 0,Value.int IntKind.i64 0,Value.int IntKind.i64 0,Value.int IntKind.i64 0,Value.int IntKind.i64 0,Value.int IntKind.i64 0,Value.int IntKind.i64 0,Value.int IntKind.i64 0,Value.int IntKind.i64 0,Value.int IntKind.i64 0,Value.int IntKind.i64 0,Value.int IntKind.i64 0,Value.int IntKind.i64 0,Value.int IntKind.i64 0,Value.int IntKind.i64 0,Value.int IntKind.i64 0,Value.int IntKind.i64 0,Value.int IntKind.i64 0,Value.int IntKind.i64 0,Value.int IntKind.i64 0,Value.int IntKind.i64 0,Value.int IntKind.i64 0],rfl,fun S w η=>.cons (zi _) (.cons (zi _) (.cons (zi _) (.cons (zi _) (.cons (zi _) (.cons (zi _) (.cons (zi _) (.cons (zi _) (.cons (zi _) (.cons (zi _) (.cons (zi _) (.cons (zi _) (.cons (zi _) (.cons (zi _) (.cons (zi _) (.cons (zi _) (.cons (zi _) (.cons (zi _) (.cons (zi _) (.cons (zi _) (.cons (zi _) (.cons (zi _) (.cons (zi _) (.cons (zi _) (.cons (zi _) (.cons (zi _) (.cons (zi _) (.cons (zi _) (.cons (zi _) (.cons (zi _) (.cons (zi _) (.cons (zi _) (.cons (zi _) (.cons (zi _) (.cons (zi _) (.cons (zi _) (.cons (zi _) (.cons (zi _) (.cons (zi _) (.cons (zi _) (.cons (zi _) (.cons (zi _) (.cons (zi _) (.cons (zi _) (.cons (zi _) (.cons (zi _) (.cons (zi _) (.cons (zi _) (.cons (zi _) (.cons (zi _) (.cons (zi _) (.cons (zi _) (.cons (zi _) (.cons (zi _) (.cons (zi _) (.cons (zi _) (.cons (zi _) (.cons (zi _) (.cons (zi _) (.cons (zi _) (.cons (zi _) (.cons (zi _) (.cons (zi _) (.cons (zi _) (.cons (zi _) (.cons (zi _) (.cons (zi _) (.cons (zi _) (.cons (zi _) (.cons (zi _) (.cons (zi _) (.cons (zi _) (.cons (zi _) (.cons (zi _) (.cons (zi _) (.cons (zi _) (.cons (zi _) (.cons (zi _) (.cons (zi _) (.cons (zi _) (.nil))))))))))))))))))))))))))))))))))))))))))))))))))))))))))))))))))))))))))))))))⟩,(fun T h=>by cases h)⟩,(fun T h=>by cases h),Tryz.runUnderlying107⟩
theorem ti108:TIok Tryz.prog 108 t108 :=
 ⟨Tryz.isAgg108,Tryz.sizeOf108,⟨_,Tryz.zeroValue108,⟨[Value.int IntKind.i64 0,Value.int IntKind.i64 0,Value.int IntKind.i64 0,Value.int IntKind.i64 0,Value.int IntKind.i64 0,Value.int IntKind.i64 0,Value.int IntKind.i64 0,Value.int IntKind.i64 0,Value.int IntKind.i64 0,Value.int IntKind.i64 0,Value.int IntKind.i64 0,Value.int IntKind.i64 0,Value.int IntKind.i64 0,Value.int IntKind.i64 0,Value.int IntKind.i64 0,Value.int IntKind.i64 0,Value.int IntKind.i64 0,Value.int IntKind.i64 0,Value.int IntKind.i64 0,Value.int IntKind.i64 0,Value.int IntKind.i64 0,Value.int IntKind.i64 0,Value.int IntKind.i64 0,Value.int IntKind.i64 0,Value.int IntKind.i64 0,Value.int IntKind.i64 0,Value.int IntKind.i64 0,Value.int IntKind.i64 0,Value.int IntKind.i64 0,Value.int IntKind.i64 0,Value.int IntKind.i64 0,Value.int IntKind.i64 0,Value.int IntKind.i64 0,Value.int IntKind.i64 0,Value.int IntKind.i64 0,Value.int IntKind.i64 0,Value.int IntKind.i64 0,Value.int IntKind.i64 0,Value.int IntKind.i64 0,Value.int IntKind.i64 0,Value.int IntKind.i64 0,Value.int IntKind.i64 0,Value.int IntKind.i64 0,Value.int IntKind.i64 0,Value.int IntKind.i64 0,Value.int IntKind.i64 0,Value.int IntKind.i64 0,Value.int IntKind.i64 0,Value.int IntKind.i64 0,Value.int IntKind.i64 0,Value.int IntKind.i64 0,Value.int IntKind.i64 0,Value.int IntKind.i64 0,Value.int IntKind.i64 0,Value.int IntKind.i64 0,Value.int IntKind.i64 0,Value.int IntKind.i64 0,Value.int IntKind.i64 0,Value.int IntKind.i64 0,Value.int IntKind.i64 0,Value.int IntKind.i64 0,Value.int IntKind.i64 0,Value.int IntKind.i64 0,Value.int IntKind.i64 0,Value.int IntKind.i64 0,Value.int IntKind.i64 0,Value.int IntKind.i64 0,Value.int IntKind.i64 0,Value.int IntKind.i64 0,Value.int IntKind.i64 0,Value.int IntKind.i64 0,Value.int IntKind.i64 0,Value.int IntKind.i64 0,Value.int IntKind.i64 0,Value.int IntKind.i64 0,Value.int IntKind.i64 0,Value.int IntKind.i64 0,Value.int IntKind.i64 0,Value.int IntKind.i64 0,Value.int IntKind.i64 0],rfl,fun S w η=>.cons (zi _) (.cons (zi _) (.cons (zi _) (.cons (zi _) (.cons (zi _) (.cons (zi _) (.cons (zi _) (.cons (zi _) (.cons (zi _) (.cons (zi _) (.cons (zi _) (.cons (zi _) (.cons (zi _) (.cons (zi _) (.cons (zi _) (.cons (zi _) (.cons (zi _) (.cons (zi _) (.cons (zi _) (.cons (zi _) (.cons (zi _) (.cons (zi _) (.cons (zi _) (.cons (zi _) (.cons (zi _) (.cons (zi _) (.cons (zi _) (.cons (zi _) (.cons (zi _) (.cons (zi _) (.cons (zi _) (.cons (zi _) (.cons (zi _) (.cons (zi _) (.cons (zi _) (.cons (zi _) (.cons (zi _) (.cons (zi _) (.cons (zi _) (.cons (zi _) (.cons (zi _) (.cons (zi _) (.cons (zi _) (.cons (zi _) (.cons (zi _) (.cons (zi _) (.cons (zi _) (.cons (zi _) (.cons (zi _) (.cons (zi _) (.cons (zi _) (.cons (zi _) (.cons (zi _) (.cons (zi _) (.cons (zi _) (.cons (zi _) (.cons (zi _) (.cons (zi _) (.cons (zi _) (.cons (zi _) (.cons (zi _) (.cons (zi _) (.cons (zi _) (.cons (zi _) (.cons (zi _) (.cons (zi _) (.cons (zi _) (.cons (zi _) (.cons (zi _) (.cons (zi _) (.cons (zi _) (.cons (zi _) (.cons (zi _) (.cons (zi _) (.cons (zi _) (.cons (zi _) (.cons (zi _) (.cons (zi _) (.cons (zi _) (.cons (zi _) (.nil))))))))))))))))))))))))))))))))))))))))))))))))))))))))))))))))))))))))))))))))⟩,(fun T h=>by cases h)⟩,(fun T h=>by cases h),Tryz.runUnderlying108⟩
theorem ti111:TIok Tryz.prog 111 t111 :=
 ⟨Tryz.isAgg111,Tryz.sizeOf111,⟨_,Tryz.zeroValue111,⟨[Value.slice none 0 0],rfl,fun S w η=>.cons (rfl) (.nil)⟩,(fun T h=>by cases h)⟩,(fun T h=>by cases h),⟨Tryz.underlying111,by decide,Tryz.t110,_,rfl,rfl,rfl,Tryz.zeroValue110,Tryz.sizeOf110⟩⟩
theorem ti112:TIok Tryz.prog 112 t112 :=
 ⟨Tryz.isAgg112,Tryz.sizeOf112,⟨_,Tryz.zeroValue112,⟨[Value.int IntKind.i64 0,Value.int IntKind.i64 0,Value.int IntKind.i64 0],rfl,fun S w η=>.cons (zi _) (.cons (zi _) (.cons (zi _) (.nil)))⟩,(fun T h=>by cases h;rfl)⟩,(fun T h=>by cases h;exact ⟨rfl,rfl⟩),⟨_,Tryz.runUnderlying112,rfl,fun w=>by simp [Tryz.sizeOf3]⟩⟩
theorem ti113:TIok Tryz.prog 113 t113 :=
 ⟨Tryz.isAgg113,Tryz.sizeOf113,⟨_,Tryz.zeroValue113,⟨[Value.int IntKind.i64 0,Value.int IntKind.i64 0,Value.int IntKind.i64 0],rfl,fun S w η=>.cons (zi _) (.cons (zi _) (.cons (zi _) (.nil)))⟩,(fun T h=>by cases h;rfl)⟩,(fun T h=>by cases h;exact ⟨rfl,rfl⟩),⟨_,Tryz.runUnderlying113,rfl,fun w=>by simp [Tryz.sizeOf3]⟩⟩
theorem ti117:TIok Tryz.prog 117 t117 :=
 ⟨Tryz.isAgg117,Tryz.sizeOf117,⟨_,Tryz.zeroValue117,⟨[Value.slice none 0 0],rfl,fun S w η=>.cons (rfl) (.nil)⟩,(fun T h=>by cases h;rfl)⟩,(fun T h=>by cases h;exact ⟨rfl,rfl⟩),⟨Tryz.underlying117,by decide,Tryz.t101,_,rfl,rfl,rfl,Tryz.zeroValue101,Tryz.sizeOf101⟩⟩
theorem ti129:TIok Tryz.prog 129 t129 :=
 ⟨Tryz.isAgg129,Tryz.sizeOf129,⟨_,Tryz.zeroValue129,⟨[Value.slice none 0 0],rfl,fun S w η=>.cons (rfl) (.nil)⟩,(fun T h=>by cases h;rfl)⟩,(fun T h=>by cases h;exact ⟨rfl,rfl⟩),⟨Tryz.underlying129,by decide,Tryz.t130,_,rfl,rfl,rfl,Tryz.zeroValue130,Tryz.sizeOf130⟩⟩
theorem ti130:TIok Tryz.prog 130 t130 :=
 ⟨Tryz.isAgg130,Tryz.sizeOf130,⟨_,Tryz.zeroValue130,⟨[Value.slice none 0 0],rfl,fun S w η=>.cons (rfl) (.nil)⟩,(fun T h=>by cases h;rfl)⟩,(fun T h=>by cases h;exact ⟨rfl,rfl⟩),⟨Tryz.underlying130,by decide,Tryz.t9,_,rfl,rfl,rfl,Tryz.zeroValue9,Tryz.sizeOf9⟩⟩
theorem ti178:TIok Tryz.prog 178 t178 :=
 ⟨Tryz.isAgg178,Tryz.sizeOf178,⟨_,Tryz.zeroValue178,⟨[Value.slice none 0 0],rfl,fun S w η=>.cons (rfl) (.nil)⟩,(fun T h=>by cases h;rfl)⟩,(fun T h=>by cases h;exact ⟨rfl,rfl⟩),⟨Tryz.underlying178,by decide,Tryz.t5,_,rfl,rfl,rfl,Tryz.zeroValue5,Tryz.sizeOf5⟩⟩
theorem tyOK:∀ id ti,lk tyTab id=some ti→TIok Tryz.prog id ti:=by
 unfold tyTab
 exact lk_all (oF Tryz.isAgg1 Tryz.sizeOf1 Tryz.zeroValue1 Tryz.runUnderlying1) <| lk_all ti2 <| lk_all ti3 <| lk_all ti4 <| lk_all ti5 <| lk_all ti7 <| lk_all ti9 <| lk_all ti12 <| lk_all ti13 <| lk_all ti15 <| lk_all ti16 <| lk_all ti17 <| lk_all ti18 <| lk_all ti20 <| lk_all ti21 <| lk_all ti22 <| lk_all ti23 <| lk_all ti24 <| lk_all ti25 <| lk_all ti26 <| lk_all ti27 <| lk_all ti28 <| lk_all ti29 <| lk_all ti30 <| lk_all ti31 <| lk_all ti32 <| lk_all ti33 <| lk_all (oF Tryz.isAgg37 Tryz.sizeOf37 Tryz.zeroValue37 Tryz.runUnderlying37) <| lk_all ti41 <| lk_all ti42 <| lk_all ti43 <| lk_all ti44 <| lk_all ti45 <| lk_all ti46 <| lk_all ti47 <| lk_all ti51 <| lk_all ti52 <| lk_all ti59 <| lk_all ti60 <| lk_all ti63 <| lk_all ti65 <| lk_all ti67 <| lk_all ti68 <| lk_all ti69 <| lk_all ti71 <| lk_all ti74 <| lk_all ti75 <| lk_all ti76 <| lk_all ti77 <| lk_all ti78 <| lk_all (oF Tryz.isAgg84 Tryz.sizeOf84 Tryz.zeroValue84 Tryz.runUnderlying84) <| lk_all (oF Tryz.isAgg87 Tryz.sizeOf87 Tryz.zeroValue87 Tryz.runUnderlying87) <| lk_all ti89 <| lk_all ti90 <| lk_all ti91 <| lk_all ti92 <| lk_all (oF Tryz.isAgg93 Tryz.sizeOf93 Tryz.zeroValue93 Tryz.runUnderlying93) <| lk_all (oF Tryz.isAgg94 Tryz.sizeOf94 Tryz.zeroValue94 Tryz.runUnderlying94) <| lk_all ti99 <| lk_all ti101 <| lk_all ti107 <| lk_all ti108 <| lk_all (oF Tryz.isAgg109 Tryz.sizeOf109 Tryz.zeroValue109 Tryz.runUnderlying109) <| lk_all (oF Tryz.isAgg110 Tryz.sizeOf110 Tryz.zeroValue110 Tryz.runUnderlying110) <| lk_all ti111 <| lk_all ti112 <| lk_all ti113 <| lk_all ti117 <| lk_all (oF Tryz.isAgg119 Tryz.sizeOf119 Tryz.zeroValue119 Tryz.runUnderlying119) <| lk_all (oF Tryz.isAgg126 Tryz.sizeOf126 Tryz.zeroValue126 Tryz.runUnderlying126) <| lk_all ti129 <| lk_all ti130 <| lk_all (oF Tryz.isAgg142 Tryz.sizeOf142 Tryz.zeroValue142 Tryz.runUnderlying142) <| lk_all (oF Tryz.isAgg144 Tryz.sizeOf144 Tryz.zeroValue144 Tryz.runUnderlying144) <| lk_all ti178 <| lk_none
noncomputable def fnTab:List (FuncId×Func):=[(3,Tryz.f3),(4,Tryz.f4),(5,Tryz.f5),(6,Tryz.f6),(7,Tryz.f7),(8,Tryz.f8),(9,Tryz.f9),(10,Tryz.f10),(11,Tryz.f11),(12,Tryz.f12),(13,Tryz.f13),(14,Tryz.f14),(15,Tryz.f15),(16,Tryz.f16),(17,Tryz.f17),(18,Tryz.f18),(19,Tryz.f19),(20,Tryz.f20),(21,Tryz.f21),(22,Tryz.f22),(23,Tryz.f23),(24,Tryz.f24),(25,Tryz.f25),(26,Tryz.f26),(27,Tryz.f27),(28,Tryz.f28),(29,Tryz.f29),(30,Tryz.f30),(31,Tryz.f31),(32,Tryz.f32),(33,Tryz.f33),(36,Tryz.f36),(37,Tryz.f37),(38,Tryz.f38),(39,Tryz.f39),(40,Tryz.f40),(41,Tryz.f41),(42,Tryz.f42),(43,Tryz.f43),(44,Tryz.f44),(45,Tryz.f45),(46,Tryz.f46),(47,Tryz.f47),(48,Tryz.f48),(49,Tryz.f49),(50,Tryz.f50),(51,Tryz.f51),(52,Tryz.f52),(53,Tryz.f53),(54,Tryz.f54),(55,Tryz.f55),(56,Tryz.f56),(57,Tryz.f57),(58,Tryz.f58),(59,Tryz.f59),(60,Tryz.f60),(61,Tryz.f61),(62,Tryz.f62),(65,Tryz.f65),(66,Tryz.f66),(67,Tryz.f67),(68,Tryz.f68),(69,Tryz.f69),(70,Tryz.f70),(71,Tryz.f71),(72,Tryz.f72),(73,Tryz.f73),(74,Tryz.f74),(75,Tryz.f75),(76,Tryz.f76),(77,Tryz.f77),(78,Tryz.f78),(79,Tryz.f79),(80,Tryz.f80),(81,Tryz.f81),(82,Tryz.f82),(83,Tryz.f83),(84,Tryz.f84),(85,Tryz.f85),(86,Tryz.f86),(87,Tryz.f87),(88,Tryz.f88),(100,Tryz.f100),(101,Tryz.f101),(102,Tryz.f102),(103,Tryz.f103),(104,Tryz.f104),(105,Tryz.f105),(106,Tryz.f106),(107,Tryz.f107),(108,Tryz.f108),(109,Tryz.f109),(110,Tryz.f110),(111,Tryz.f111),(112,Tryz.f112),(113,Tryz.f113),(120,Tryz.f120),(121,Tryz.f121)]
abbrev pF (f:FuncId) (fn:Func):Prop:=Tryz.prog.funcs[f]? = some fn∧∀ (args:Array Value) (w:World),(callFunc f args).run Tryz.prog w=.ok (.enter f args) w
theorem pf {f:FuncId} {fn:Func} (h:Tryz.prog.funcs[f]? = some fn) (h2:∀ (args:Array Value) (w:World),(callFunc f args).run Tryz.prog w=.ok (.enter f args) w):pF f fn:=⟨h,h2⟩
theorem fnOK:∀ f fn,lk fnTab f=some fn→Tryz.prog.funcs[f]? = some fn∧∀ (args:Array Value) (w:World),(callFunc f args).run Tryz.prog w=.ok (.enter f args) w:=by
 unfold fnTab
 change ∀ f fn,_→pF f fn
 exact lk_all (pf Tryz.func3 Tryz.call3) <| lk_all (pf Tryz.func4 Tryz.call4) <| lk_all (pf Tryz.func5 Tryz.call5) <| lk_all (pf Tryz.func6 Tryz.call6) <| lk_all (pf Tryz.func7 Tryz.call7) <| lk_all (pf Tryz.func8 Tryz.call8) <| lk_all (pf Tryz.func9 Tryz.call9) <| lk_all (pf Tryz.func10 Tryz.call10) <| lk_all (pf Tryz.func11 Tryz.call11) <| lk_all (pf Tryz.func12 Tryz.call12) <| lk_all (pf Tryz.func13 Tryz.call13) <| lk_all (pf Tryz.func14 Tryz.call14) <| lk_all (pf Tryz.func15 Tryz.call15) <| lk_all (pf Tryz.func16 Tryz.call16) <| lk_all (pf Tryz.func17 Tryz.call17) <| lk_all (pf Tryz.func18 Tryz.call18) <| lk_all (pf Tryz.func19 Tryz.call19) <| lk_all (pf Tryz.func20 Tryz.call20) <| lk_all (pf Tryz.func21 Tryz.call21) <| lk_all (pf Tryz.func22 Tryz.call22) <| lk_all (pf Tryz.func23 Tryz.call23) <| lk_all (pf Tryz.func24 Tryz.call24) <| lk_all (pf Tryz.func25 Tryz.call25) <| lk_all (pf Tryz.func26 Tryz.call26) <| lk_all (pf Tryz.func27 Tryz.call27) <| lk_all (pf Tryz.func28 Tryz.call28) <| lk_all (pf Tryz.func29 Tryz.call29) <| lk_all (pf Tryz.func30 Tryz.call30) <| lk_all (pf Tryz.func31 Tryz.call31) <| lk_all (pf Tryz.func32 Tryz.call32) <| lk_all (pf Tryz.func33 Tryz.call33) <| lk_all (pf Tryz.func36 Tryz.call36) <| lk_all (pf Tryz.func37 Tryz.call37) <| lk_all (pf Tryz.func38 Tryz.call38) <| lk_all (pf Tryz.func39 Tryz.call39) <| lk_all (pf Tryz.func40 Tryz.call40) <| lk_all (pf Tryz.func41 Tryz.call41) <| lk_all (pf Tryz.func42 Tryz.call42) <| lk_all (pf Tryz.func43 Tryz.call43) <| lk_all (pf Tryz.func44 Tryz.call44) <| lk_all (pf Tryz.func45 Tryz.call45) <| lk_all (pf Tryz.func46 Tryz.call46) <| lk_all (pf Tryz.func47 Tryz.call47) <| lk_all (pf Tryz.func48 Tryz.call48) <| lk_all (pf Tryz.func49 Tryz.call49) <| lk_all (pf Tryz.func50 Tryz.call50) <| lk_all (pf Tryz.func51 Tryz.call51) <| lk_all (pf Tryz.func52 Tryz.call52) <| lk_all (pf Tryz.func53 Tryz.call53) <| lk_all (pf Tryz.func54 Tryz.call54) <| lk_all (pf Tryz.func55 Tryz.call55) <| lk_all (pf Tryz.func56 Tryz.call56) <| lk_all (pf Tryz.func57 Tryz.call57) <| lk_all (pf Tryz.func58 Tryz.call58) <| lk_all (pf Tryz.func59 Tryz.call59) <| lk_all (pf Tryz.func60 Tryz.call60) <| lk_all (pf Tryz.func61 Tryz.call61) <| lk_all (pf Tryz.func62 Tryz.call62) <| lk_all (pf Tryz.func65 Tryz.call65) <| lk_all (pf Tryz.func66 Tryz.call66) <| lk_all (pf Tryz.func67 Tryz.call67) <| lk_all (pf Tryz.func68 Tryz.call68) <| lk_all (pf Tryz.func69 Tryz.call69) <| lk_all (pf Tryz.func70 Tryz.call70) <| lk_all (pf Tryz.func71 Tryz.call71) <| lk_all (pf Tryz.func72 Tryz.call72) <| lk_all (pf Tryz.func73 Tryz.call73) <| lk_all (pf Tryz.func74 Tryz.call74) <| lk_all (pf Tryz.func75 Tryz.call75) <| lk_all (pf Tryz.func76 Tryz.call76) <| lk_all (pf Tryz.func77 Tryz.call77) <| lk_all (pf Tryz.func78 Tryz.call78) <| lk_all (pf Tryz.func79 Tryz.call79) <| lk_all (pf Tryz.func80 Tryz.call80) <| lk_all (pf Tryz.func81 Tryz.call81) <| lk_all (pf Tryz.func82 Tryz.call82) <| lk_all (pf Tryz.func83 Tryz.call83) <| lk_all (pf Tryz.func84 Tryz.call84) <| lk_all (pf Tryz.func85 Tryz.call85) <| lk_all (pf Tryz.func86 Tryz.call86) <| lk_all (pf Tryz.func87 Tryz.call87) <| lk_all (pf Tryz.func88 Tryz.call88) <| lk_all (pf Tryz.func100 Tryz.call100) <| lk_all (pf Tryz.func101 Tryz.call101) <| lk_all (pf Tryz.func102 Tryz.call102) <| lk_all (pf Tryz.func103 Tryz.call103) <| lk_all (pf Tryz.func104 Tryz.call104) <| lk_all (pf Tryz.func105 Tryz.call105) <| lk_all (pf Tryz.func106 Tryz.call106) <| lk_all (pf Tryz.func107 Tryz.call107) <| lk_all (pf Tryz.func108 Tryz.call108) <| lk_all (pf Tryz.func109 Tryz.call109) <| lk_all (pf Tryz.func110 Tryz.call110) <| lk_all (pf Tryz.func111 Tryz.call111) <| lk_all (pf Tryz.func112 Tryz.call112) <| lk_all (pf Tryz.func113 Tryz.call113) <| lk_all (pf Tryz.func120 Tryz.call120) <| lk_all (pf Tryz.func121 Tryz.call121) <| lk_none
set_option maxRecDepth 100000 in
theorem eqOK42:EqOK Tryz.prog 42 [.int .i64,.int .i64,.int .i64,.int .i64]:=by
 refine ⟨by kernel_rfl,fun vs us h1 h2 w=>?_⟩
 rcases h1 with _ | ⟨⟨a0,rfl⟩,_ | ⟨⟨a1,rfl⟩,_ | ⟨⟨a2,rfl⟩,_ | ⟨⟨a3,rfl⟩,_ | _⟩⟩⟩⟩
 rcases h2 with _ | ⟨⟨b0,rfl⟩,_ | ⟨⟨b1,rfl⟩,_ | ⟨⟨b2,rfl⟩,_ | ⟨⟨b3,rfl⟩,_ | _⟩⟩⟩⟩
 have u3:=Tryz.underlying3
 have x3:=Tryz.isAgg3
 have z3:=Tryz.sizeOf3
 have hS:Tryz.prog.underlying 42=some (.struct (Tryz.prog.fieldsOf 42)):=by kernel_rfl
 have hp:Tryz.prog.stoodInHeld 42=false:=by kernel_rfl
 rw [show (10000:Nat)=9999+1 from rfl,run_equalIn_agg w 9999 42 _ _ hS hp]
 simp only [Program.fieldsOf,Tryz.underlying42]
 go_simp
 by_cases e0:a0=b0
 all_goals by_cases e1:a1=b1
 all_goals by_cases e2:a2=b2
 all_goals by_cases e3:a3=b3
 all_goals simp [eqVs,eqV,ByteArray.toList_eq,e0,e1,e2,e3]
set_option maxRecDepth 100000 in
theorem eqOK44:EqOK Tryz.prog 44 [.int .i64,.int .i64,.int .i64,.int .i64,.int .i64]:=by
 refine ⟨by kernel_rfl,fun vs us h1 h2 w=>?_⟩
 rcases h1 with _ | ⟨⟨a0,rfl⟩,_ | ⟨⟨a1,rfl⟩,_ | ⟨⟨a2,rfl⟩,_ | ⟨⟨a3,rfl⟩,_ | ⟨⟨a4,rfl⟩,_ | _⟩⟩⟩⟩⟩
 rcases h2 with _ | ⟨⟨b0,rfl⟩,_ | ⟨⟨b1,rfl⟩,_ | ⟨⟨b2,rfl⟩,_ | ⟨⟨b3,rfl⟩,_ | ⟨⟨b4,rfl⟩,_ | _⟩⟩⟩⟩⟩
 have u3:=Tryz.underlying3
 have x3:=Tryz.isAgg3
 have z3:=Tryz.sizeOf3
 have hS:Tryz.prog.underlying 44=some (.struct (Tryz.prog.fieldsOf 44)):=by kernel_rfl
 have hp:Tryz.prog.stoodInHeld 44=false:=by kernel_rfl
 rw [show (10000:Nat)=9999+1 from rfl,run_equalIn_agg w 9999 44 _ _ hS hp]
 simp only [Program.fieldsOf,Tryz.underlying44]
 go_simp
 by_cases e0:a0=b0
 all_goals by_cases e1:a1=b1
 all_goals by_cases e2:a2=b2
 all_goals by_cases e3:a3=b3
 all_goals by_cases e4:a4=b4
 all_goals simp [eqVs,eqV,ByteArray.toList_eq,e0,e1,e2,e3,e4]
set_option maxRecDepth 100000 in
theorem eqOK46:EqOK Tryz.prog 46 [.int .i64,.int .i64,.int .i64,.int .i64]:=by
 refine ⟨by kernel_rfl,fun vs us h1 h2 w=>?_⟩
 rcases h1 with _ | ⟨⟨a0,rfl⟩,_ | ⟨⟨a1,rfl⟩,_ | ⟨⟨a2,rfl⟩,_ | ⟨⟨a3,rfl⟩,_ | _⟩⟩⟩⟩
 rcases h2 with _ | ⟨⟨b0,rfl⟩,_ | ⟨⟨b1,rfl⟩,_ | ⟨⟨b2,rfl⟩,_ | ⟨⟨b3,rfl⟩,_ | _⟩⟩⟩⟩
 have u3:=Tryz.underlying3
 have x3:=Tryz.isAgg3
 have z3:=Tryz.sizeOf3
 have hS:Tryz.prog.underlying 46=some (.struct (Tryz.prog.fieldsOf 46)):=by kernel_rfl
 have hp:Tryz.prog.stoodInHeld 46=false:=by kernel_rfl
 rw [show (10000:Nat)=9999+1 from rfl,run_equalIn_agg w 9999 46 _ _ hS hp]
 simp only [Program.fieldsOf,Tryz.underlying46]
 go_simp
 by_cases e0:a0=b0
 all_goals by_cases e1:a1=b1
 all_goals by_cases e2:a2=b2
 all_goals by_cases e3:a3=b3
 all_goals simp [eqVs,eqV,ByteArray.toList_eq,e0,e1,e2,e3]
set_option maxRecDepth 100000 in
theorem eqOK60:EqOK Tryz.prog 60 [.int .i64,.int .i64]:=by
 refine ⟨by kernel_rfl,fun vs us h1 h2 w=>?_⟩
 rcases h1 with _ | ⟨⟨a0,rfl⟩,_ | ⟨⟨a1,rfl⟩,_ | _⟩⟩
 rcases h2 with _ | ⟨⟨b0,rfl⟩,_ | ⟨⟨b1,rfl⟩,_ | _⟩⟩
 have u3:=Tryz.underlying3
 have x3:=Tryz.isAgg3
 have z3:=Tryz.sizeOf3
 have hS:Tryz.prog.underlying 60=some (.struct (Tryz.prog.fieldsOf 60)):=by kernel_rfl
 have hp:Tryz.prog.stoodInHeld 60=false:=by kernel_rfl
 rw [show (10000:Nat)=9999+1 from rfl,run_equalIn_agg w 9999 60 _ _ hS hp]
 simp only [Program.fieldsOf,Tryz.underlying60]
 go_simp
 by_cases e0:a0=b0
 all_goals by_cases e1:a1=b1
 all_goals simp [eqVs,eqV,ByteArray.toList_eq,e0,e1]
set_option maxRecDepth 100000 in
theorem eqOK90:EqOK Tryz.prog 90 [.int .i64,.int .i64]:=by
 refine ⟨by kernel_rfl,fun vs us h1 h2 w=>?_⟩
 rcases h1 with _ | ⟨⟨a0,rfl⟩,_ | ⟨⟨a1,rfl⟩,_ | _⟩⟩
 rcases h2 with _ | ⟨⟨b0,rfl⟩,_ | ⟨⟨b1,rfl⟩,_ | _⟩⟩
 have u3:=Tryz.underlying3
 have x3:=Tryz.isAgg3
 have z3:=Tryz.sizeOf3
 have hS:Tryz.prog.underlying 90=some (.struct (Tryz.prog.fieldsOf 90)):=by kernel_rfl
 have hp:Tryz.prog.stoodInHeld 90=false:=by kernel_rfl
 rw [show (10000:Nat)=9999+1 from rfl,run_equalIn_agg w 9999 90 _ _ hS hp]
 simp only [Program.fieldsOf,Tryz.underlying90]
 go_simp
 by_cases e0:a0=b0
 all_goals by_cases e1:a1=b1
 all_goals simp [eqVs,eqV,ByteArray.toList_eq,e0,e1]
set_option maxRecDepth 100000 in
theorem eqOK113:EqOK Tryz.prog 113 [.int .i64,.int .i64,.int .i64]:=by
 refine ⟨by kernel_rfl,fun vs us h1 h2 w=>?_⟩
 rcases h1 with _ | ⟨⟨a0,rfl⟩,_ | ⟨⟨a1,rfl⟩,_ | ⟨⟨a2,rfl⟩,_ | _⟩⟩⟩
 rcases h2 with _ | ⟨⟨b0,rfl⟩,_ | ⟨⟨b1,rfl⟩,_ | ⟨⟨b2,rfl⟩,_ | _⟩⟩⟩
 have u3:=Tryz.underlying3
 have x3:=Tryz.isAgg3
 have z3:=Tryz.sizeOf3
 have hS:Tryz.prog.underlying 113=some (.struct (Tryz.prog.fieldsOf 113)):=by kernel_rfl
 have hp:Tryz.prog.stoodInHeld 113=false:=by kernel_rfl
 rw [show (10000:Nat)=9999+1 from rfl,run_equalIn_agg w 9999 113 _ _ hS hp]
 simp only [Program.fieldsOf,Tryz.underlying113]
 go_simp
 by_cases e0:a0=b0
 all_goals by_cases e1:a1=b1
 all_goals by_cases e2:a2=b2
 all_goals simp [eqVs,eqV,ByteArray.toList_eq,e0,e1,e2]
set_option maxRecDepth 100000 in
theorem eqOK26:EqOK Tryz.prog 26 [.int .i64,.int .i64,.int .i64]:=by
 refine ⟨by kernel_rfl,fun vs us h1 h2 w=>?_⟩
 rcases h1 with _ | ⟨⟨a0,rfl⟩,_ | ⟨⟨a1,rfl⟩,_ | ⟨⟨a2,rfl⟩,_ | _⟩⟩⟩
 rcases h2 with _ | ⟨⟨b0,rfl⟩,_ | ⟨⟨b1,rfl⟩,_ | ⟨⟨b2,rfl⟩,_ | _⟩⟩⟩
 have u3:=Tryz.underlying3
 have x3:=Tryz.isAgg3
 have z3:=Tryz.sizeOf3
 have hc:Tryz.prog.cellsOf 3=1:=by kernel_rfl
 rw [show (10000:Nat)=9999+1 from rfl,run_equalIn_array w 9999 (t:=26) (e:=3) (n:=3) _ _ (by kernel_rfl) (show Tryz.prog.info? 3=some _ from rfl),hc]
 simp only [show List.range 3=[0,1,2] from rfl,Op.eqItems]
 go_simp
 by_cases e0:a0=b0
 all_goals by_cases e1:a1=b1
 all_goals by_cases e2:a2=b2
 all_goals simp [eqVs,eqV,e0,e1,e2]
set_option maxRecDepth 100000 in
theorem eqOK63:EqOK Tryz.prog 63 [.int .i64,.int .i64,.int .i64,.int .i64]:=by
 refine ⟨by kernel_rfl,fun vs us h1 h2 w=>?_⟩
 rcases h1 with _ | ⟨⟨a0,rfl⟩,_ | ⟨⟨a1,rfl⟩,_ | ⟨⟨a2,rfl⟩,_ | ⟨⟨a3,rfl⟩,_ | _⟩⟩⟩⟩
 rcases h2 with _ | ⟨⟨b0,rfl⟩,_ | ⟨⟨b1,rfl⟩,_ | ⟨⟨b2,rfl⟩,_ | ⟨⟨b3,rfl⟩,_ | _⟩⟩⟩⟩
 have u3:=Tryz.underlying3
 have x3:=Tryz.isAgg3
 have z3:=Tryz.sizeOf3
 have hc:Tryz.prog.cellsOf 3=1:=by kernel_rfl
 rw [show (10000:Nat)=9999+1 from rfl,run_equalIn_array w 9999 (t:=63) (e:=3) (n:=4) _ _ (by kernel_rfl) (show Tryz.prog.info? 3=some _ from rfl),hc]
 simp only [show List.range 4=[0,1,2,3] from rfl,Op.eqItems]
 go_simp
 by_cases e0:a0=b0
 all_goals by_cases e1:a1=b1
 all_goals by_cases e2:a2=b2
 all_goals by_cases e3:a3=b3
 all_goals simp [eqVs,eqV,e0,e1,e2,e3]
set_option maxRecDepth 100000 in
theorem eqOK67:EqOK Tryz.prog 67 [.int .i64,.int .i64]:=by
 refine ⟨by kernel_rfl,fun vs us h1 h2 w=>?_⟩
 rcases h1 with _ | ⟨⟨a0,rfl⟩,_ | ⟨⟨a1,rfl⟩,_ | _⟩⟩
 rcases h2 with _ | ⟨⟨b0,rfl⟩,_ | ⟨⟨b1,rfl⟩,_ | _⟩⟩
 have u3:=Tryz.underlying3
 have x3:=Tryz.isAgg3
 have z3:=Tryz.sizeOf3
 have hc:Tryz.prog.cellsOf 3=1:=by kernel_rfl
 rw [show (10000:Nat)=9999+1 from rfl,run_equalIn_array w 9999 (t:=67) (e:=3) (n:=2) _ _ (by kernel_rfl) (show Tryz.prog.info? 3=some _ from rfl),hc]
 simp only [show List.range 2=[0,1] from rfl,Op.eqItems]
 go_simp
 by_cases e0:a0=b0
 all_goals by_cases e1:a1=b1
 all_goals simp [eqVs,eqV,e0,e1]
def eqTab:List (TypeId×List Ty):=[(42,[.int .i64,.int .i64,.int .i64,.int .i64]),(44,[.int .i64,.int .i64,.int .i64,.int .i64,.int .i64]),(46,[.int .i64,.int .i64,.int .i64,.int .i64]),(60,[.int .i64,.int .i64]),(90,[.int .i64,.int .i64]),(113,[.int .i64,.int .i64,.int .i64]),(26,[.int .i64,.int .i64,.int .i64]),(63,[.int .i64,.int .i64,.int .i64,.int .i64]),(67,[.int .i64,.int .i64])]
theorem eqsOK:∀ t ks,lk eqTab t=some ks→EqOK Tryz.prog t ks:=by
 unfold eqTab
 refine lk_all (p:=fun t ks=>EqOK Tryz.prog t ks) eqOK42 ?_
 refine lk_all (p:=fun t ks=>EqOK Tryz.prog t ks) eqOK44 ?_
 refine lk_all (p:=fun t ks=>EqOK Tryz.prog t ks) eqOK46 ?_
 refine lk_all (p:=fun t ks=>EqOK Tryz.prog t ks) eqOK60 ?_
 refine lk_all (p:=fun t ks=>EqOK Tryz.prog t ks) eqOK90 ?_
 refine lk_all (p:=fun t ks=>EqOK Tryz.prog t ks) eqOK113 ?_
 refine lk_all (p:=fun t ks=>EqOK Tryz.prog t ks) eqOK26 ?_
 refine lk_all (p:=fun t ks=>EqOK Tryz.prog t ks) eqOK63 ?_
 refine lk_all (p:=fun t ks=>EqOK Tryz.prog t ks) eqOK67 ?_
 exact lk_none
def btTab:List (TypeId×TypeId×TypeId):=[]
theorem btOK:∀ T x,lk btTab T=some x→BltOK Tryz.prog T x.1 x.2:=by
 unfold btTab
 exact lk_none
noncomputable def tabs0:Tabs:=⟨tyTab,fnTab,[],[],[],eqTab,[],[],[],btTab,[]⟩
theorem tabs0OK:TabOK Tryz.prog tabs0:=⟨tyOK,fnOK,(fun _ _ h=>by cases h),(fun _ _ h=>by cases h),by kernel_rfl,(fun _ h=>by cases h),eqsOK,(fun _ h=>by cases h),(fun _ _ h=>by cases h),(fun _ _ h=>by cases h),btOK,(fun _ _ h=>by cases h)⟩
end Go.Proofs.YtfekoiabjbdnfaaGreat
namespace Go.PE
open Go Go.RowKit Go.Abs Go.Sort
open Go.Proofs (ltOf)

def clampT:(t:Ty)→t.den→t.den
 | .int k,x=>k.wrap x
 | .bool,x=>x
 | .str,x=>List.take maxLen x
 | .list _,x=>x
 | .one t,x=>clampT t x
 | .pair a b,x=>(clampT a x.1,clampT b x.2)
def encF:(t:Ty)→t.den→List Value
 | .int k,x=>[.int k x]
 | .bool,x=>[.bool x]
 | .str,x=>[.string ⟨List.toArray x⟩]
 | .list _,_=>[.slice none 0 0]
 | .one t,x=>encF t x
 | .pair a b,x=>encF a x.1++encF b x.2
def encT (t:Ty) (x:t.den):List Value:=encF t (clampT t x)
section
variable {S:Cells} {w:World} {η:Eta}
end
theorem getB {α:Type} [Inhabited α] {a:Array α} {i:Nat} (h:i<a.size):a[i]! = a[i]:=getElem!_pos a i h
end Go.PE
namespace Go.PE
open Go Go.RowKit Go.Abs Go.Sort

def insI (x:Int):List Int→List Int
 | []=>[x]
 | y::r=>bif leM x y then x::y::r else y::insI x r
def isortI:List Int→List Int
 | []=>[]
 | x::r=>insI x (isortI r)
theorem insI_perm (x:Int):∀ l,(insI x l).Perm (x::l)
 | []=>.refl _
 | y::r=>by
  unfold insI
  cases leM x y
  ·exact ((insI_perm x r).cons y).trans (.swap x y r)
  ·exact .refl _
theorem isortI_perm:∀ l,(isortI l).Perm l
 | []=>.refl _
 | x::r=>(insI_perm x (isortI r)).trans ((isortI_perm r).cons x)
theorem insI_sorted (x:Int):∀ {l:List Int},List.Pairwise (·≤·) l→List.Pairwise (·≤·) (insI x l)
 | [],_=>by unfold insI;simp
 | y::r,h=>by
  unfold insI
  have h2:=List.pairwise_cons.1 h
  cases hb:leM x y with
  | true =>
   have hb':x≤y:=of_decide_eq_true hb
   refine List.pairwise_cons.2 ⟨fun z hz=>?_,h⟩
   rcases List.mem_cons.1 hz with rfl | hz
   ·exact hb'
   ·exact Int.le_trans hb' (h2.1 z hz)
  | false =>
   have hb':¬ x≤y:=of_decide_eq_false hb
   refine List.pairwise_cons.2 ⟨fun z hz=>?_,insI_sorted x h2.2⟩
   rcases List.mem_cons.1 ((insI_perm x r).mem_iff.1 hz) with rfl | hz
   ·omega
   ·exact h2.1 z hz
theorem isortI_sorted:∀ l,List.Pairwise (·≤·) (isortI l)
 | []=>.nil
 | x::r=>insI_sorted x (isortI_sorted r)
theorem merge_isortI (l:List Int):(l.mergeSort fun x y=>decide (x≤y))=isortI l:=by
 refine List.Perm.eq_of_pairwise (le:=fun x y=>x≤y) (fun a b _ _ h1 h2=>by omega) ?_ (isortI_sorted l) ((List.mergeSort_perm l _).trans (isortI_perm l).symm)
 have:=List.pairwise_mergeSort (le:=fun (x y:Int)=>decide (x≤y)) (fun a b c h1 h2=>by simp at *;omega) (fun a b=>by simp;omega) l
 exact this.imp fun h=>by simpa using h
def sortI (xs:List Int):Option (List Int):=match decide (xs.length<4611686018427387904) with
 | true=>some (isortI xs)
 | false=>none
def compI (xs:List Int):Option (List Int):=match decide (xs.length≤4611686018427387904) with
 | true=>some (Lib.compact xs)
 | false=>none
section
variable {B:Nat} {S F:Cells} {w w':World}
theorem world_put {b off cap n:Nat} {xs d:List Int} {os:Array Obj} (hin:InLt S w) (hF:∀ b o,F b o→B≤b∧b<w.heap.size∧¬ S b o) (hFe:∀ b' o,F b' o↔b'=b∧off≤o∧o<off+cap*1) (c1:xs.length≤cap) (hn:0<xs.length)
  (ht:∀ o,off≤o→o<off+cap*1→World.there w b o) (hH:Holds (Value.int .i64) w b off xs.toArray) (hd:d.length=xs.length) (hw:w'=grow (putRow (Value.int .i64) (Go.Sort.ahead w n) b off d.toArray) os) :
  Grow B S w S w'∧(∀ j,j<xs.length→w'.cell? ⟨b,off+j,none⟩=some (.int .i64 (d.toArray)[j]!))∧(∀ b' o,b'<w.heap.size→¬ F b' o→w'.cell? ⟨b',o,none⟩=w.cell? ⟨b',o,none⟩∧w'.frozen? ⟨b',o,none⟩=w.frozen? ⟨b',o,none⟩) ∧
   (∀ b',b'<w.heap.size→(∀ o,¬ F b' o)→w'.heap[b']? = w.heap[b']?)∧∀ o,off≤o→o<off+cap*1→World.there w' b o:=by
 have hin1:∀ j,j<xs.length→F b (off+j):=fun j hj=>(hFe _ _).2 ⟨rfl,by omega,by omega⟩
 obtain ⟨hBb,hblk,_⟩:=hF b (off+0) (hin1 0 hn)
 have hH1:Holds (Value.int .i64) (Go.Sort.ahead w n) b off xs.toArray:=hH
 have hfs:d.toArray.size=xs.toArray.size:=by simpa using hd
 have hfn:d.toArray.size=xs.length:=by simpa using hd
 have hps:(putRow (Value.int .i64) (Go.Sort.ahead w n) b off d.toArray).heap.size=w.heap.size:=by rw [size_putRow];rfl
 have cin:∀ j,j<xs.length→w'.cell? ⟨b,off+j,none⟩=some (.int .i64 (d.toArray)[j]!):=fun j hj=>by
  rw [hw,cell?_grow _ _ _ (by rw [hps];exact hblk)]
  exact cell?_putRow (Value.int .i64) _ b off _ _ hH1 hfs j (by rw [hfn];exact hj)
 have cout:∀ b' o,b'<w.heap.size→(b'≠b∨o<off∨off+xs.length≤o)→w'.cell? ⟨b',o,none⟩=w.cell? ⟨b',o,none⟩:=fun b' o hb' ho=>by
  rw [hw,cell?_grow _ _ _ (by rw [hps];exact hb'),cell?_putRow_other (Value.int .i64) _ b off _ _ (by rw [hfn];exact ho)]
  rfl
 have fout:∀ b' o,b'<w.heap.size→w'.frozen? ⟨b',o,none⟩=w.frozen? ⟨b',o,none⟩:=fun b' o hb'=>by
  rw [hw,frozen?_grow _ _ _ (by rw [hps];exact hb'),frozen?_putRow]
  rfl
 have hout:∀ b',b'<w.heap.size→b'≠b→w'.heap[b']? = w.heap[b']? := fun b' hb' hne=>by
  rw [hw,heap_grow_old _ _ (by rw [hps];exact hb')]
  show (w.heap.modify b _)[b']? = _
  rw [Array.getElem?_modify,if_neg (Ne.symm hne)]
 have hcut:∀ b' o,¬ F b' o→(b'≠b∨o<off∨off+xs.length≤o):=fun b' o hno=>by
  by_cases e:b'=b
  ·subst e
   refine .inr ?_
   rcases Nat.lt_or_ge o off with h1 | h1
   ·exact .inl h1
   ·rcases Nat.lt_or_ge o (off+xs.length) with h2 | h2
    ·have:=hin1 (o-off) (by omega)
     rw [show off+(o-off)=o by omega] at this
     exact absurd this hno
    ·exact .inr h2
  ·exact .inl e
 have hkeep:Keep S w S w':=⟨fun _ _ h=>h,fun b' o hs=>cout b' o (hin b' o hs) (hcut b' o fun hf'=>(hF b' o hf').2.2 hs)⟩
 have hcells:∃ c e fr,w.heap[b]? = some (.cells c e fr):=by
  obtain ⟨⟨v,hv⟩,_⟩:=ht (off+0) (by omega) (by omega)
  obtain ⟨c,e,fr,h1,_⟩:=cells_of_cell? hv
  exact ⟨c,e,fr,h1⟩
 refine ⟨⟨⟨by rw [hw];rfl,by rw [hw];rfl,by rw [hw];rfl,by rw [hw,size_grow,hps];omega,fun k hk=>hout k (by omega) (by omega)⟩,hkeep,fun b' o hs=>?_,fun _ _ h=>.inl h,.of ?_ fun b' o ho hne=>?_⟩,cin,fun b' o hb' hno=>⟨cout b' o hb' (hcut b' o hno),fout b' o hb'⟩,fun b' hb' hno=>hout b' hb' fun e=>?_,fun o h1 h2=>⟨?_,by rw [fout b o hblk];exact (ht o h1 h2).2⟩⟩
 ·have:=hin b' o hs
  rw [hw,size_grow,hps];omega
 ·rw [hw]
  show w.drawn≤w.drawn+n
  omega
 ·by_cases e:b'=b
  ·subst e
   obtain ⟨c,el,fr,hc⟩:=hcells
   rw [hc] at ho
   exact absurd (Option.some.inj ho).symm (hne _ _ _)
  ·rw [hout b' (Array.getElem?_eq_some_iff.1 ho).1 e];exact ho
 ·subst e
  exact hno _ (hin1 0 hn)
 ·by_cases ho:o<off+xs.length
  ·have:=cin (o-off) (by omega)
   rw [show off+(o-off)=o by omega] at this
   exact ⟨_,this⟩
  ·rw [cout b o hblk (.inr (.inr (by omega)))]
   exact (ht o h1 h2).1
theorem rep_int {x:Int} {es:List Value} (h:Rep S w (.int .i64) x es):es=[.int .i64 x]∧IntKind.i64.has x:=⟨h.1,h.2⟩
theorem holds_of {b off:Nat} {xs:List Int} {cap:Nat} (c1:xs.length≤cap) (ht:∀ o,off≤o→o<off+cap*1→World.there w b o) (hx:∀ (i:Nat) (x:Int),xs[i]? = some x→∃ es,Rep S w (.int .i64) x es∧∀ j v,es[j]? = some v→w.cell? ⟨b,off+i*1+j,none⟩=some v) :
  Holds (Value.int .i64) w b off xs.toArray∧∀ x∈xs,IntKind.i64.has x:=by
 refine ⟨fun j hj=>?_,fun x hx'=>?_⟩
 ·have hj':j<xs.length:=by simpa using hj
  obtain ⟨es,he,hc⟩:=hx j xs[j] (List.getElem?_eq_getElem hj')
  obtain ⟨rfl,_⟩:=rep_int he
  have:=hc 0 _ rfl
  refine ⟨?_,(ht (off+j) (by omega) (by omega)).2⟩
  rw [getB hj]
  simpa using this
 ·obtain ⟨i,hi,rfl⟩:=List.getElem_of_mem hx'
  obtain ⟨es,he,_⟩:=hx i _ (List.getElem?_eq_getElem hi)
  exact (rep_int he).2
end
theorem so1_sort {P:Program} {ρ:Go.Shelf.Ren} (L:Go.Proofs.Lays.n189 P ρ) {f:FuncId} (hfid:ρ.f 189=f) (ef:∀ (args:Array Value) (w:World),(callFunc f args).run P w=.ok (.enter f args) w):So1OK P ⟨f,.int .i64,false,sortI⟩:=by
 refine ⟨ef,fun xs ys h B S F w u hB hin hF hA=>?_⟩
 have h:sortI xs=some ys:=h
 have hA:ArrH F S w u (.int .i64) xs:=hA
 show Calls P f #[u] w _
 unfold sortI at h
 split at h
 ·rename_i hlt
  have hlt:=of_decide_eq_true hlt
  have hy:=Option.some.inj h
  have hperm:=isortI_perm xs
  rw [hy] at hperm
  have hyl:ys.length=xs.length:=hperm.length_eq
  obtain ⟨base,cap,rfl,c1,c2,c3⟩:=hA
  by_cases hn:xs.length=0
  ·have hxs:xs=[]:=List.eq_nil_of_length_eq_zero hn
   have hys:ys=[]:=List.eq_nil_of_length_eq_zero (by omega)
   subst hxs hys
   have hc:=Go.Proofs.Any.slices_Sort_int_none L base cap w
   rw [hfid] at hc
   exact hc.mono fun en w' ⟨he,hw⟩=>by
    subst hw
    exact ⟨_,.slice base 0 cap,he,fun h=>(by cases h),fun _=>⟨rfl,rfl⟩,rfl,Grow.refl hin,⟨base,cap,rfl,c1,c2,c3⟩,fun _ _ _ _=>⟨rfl,rfl⟩,fun _ _ _=>rfl⟩
  ·rcases c3 with c3 | ⟨b,off,rfl,hFe,ht,hx⟩
   ·omega
   obtain ⟨hH,hhas⟩:=holds_of c1 ht hx
   have hblk:b<w.heap.size:=(hF b (off+0) ((hFe _ _).2 ⟨rfl,by omega,by show off+0<off+cap*1;omega⟩)).2.1
   have hc:=Go.Proofs.Any.slices_Sort_int L b off cap xs w hH hblk hlt
   rw [hfid,merge_isortI,hy] at hc
   refine hc.mono fun en w' ⟨he,n,os,hw⟩=>?_
   obtain ⟨g1,g2,g3,g4,g5⟩:=world_put hin hF hFe c1 (by omega) ht hH hyl hw
   refine ⟨_,.slice (some ⟨b,off,none⟩) xs.length cap,he,fun h=>(by cases h),fun _=>⟨rfl,rfl⟩,rfl,g1,⟨_,cap,by rw [hyl],by rw [hyl];exact c1,c2,.inr ⟨b,off,rfl,hFe,g5,fun i y hi=>?_⟩⟩,g3,g4⟩
   have hil:=(gS.1 hi).1
   have hmem:y∈xs:=hperm.mem_iff.1 (List.mem_of_getElem? hi)
   refine ⟨[.int .i64 y],⟨rfl,hhas y hmem⟩,fun j v hj=>?_⟩
   cases j with
   | zero =>
    cases hj
    have e:ys.toArray[i]! = y:=by rw [getB (by simpa using hil)];simpa using (gS.1 hi).2
    show w'.cell? ⟨b,off+i*1+0,none⟩=_
    rw [Nat.mul_one,Nat.add_zero,g2 i (by omega),e]
   | succ j=>simp at hj
 ·cases h
theorem grow_none (w:World):grow w #[]=w:=by
 cases w
 simp [grow]
theorem compact_mem {zs:List Int} {y:Int} (h:y∈Lib.compact zs):y∈zs:=by
 unfold Lib.compact Lib.compactUpTo at h
 obtain ⟨j,hj,rfl⟩:=List.mem_map.1 h
 have hjl:j<zs.length:=List.mem_range.1 (List.mem_filter.1 hj).1
 rw [getB (by simpa using hjl)]
 simp
theorem compact_len (zs:List Int):(Lib.compact zs).length≤zs.length:=by
 unfold Lib.compact Lib.compactUpTo
 rw [List.length_map]
 exact Nat.le_trans (List.length_filter_le _ _) (by simp)
theorem so1_comp {P:Program} {ρ:Go.Shelf.Ren} (L:Go.Proofs.Lays2.n20 P ρ) {f:FuncId} (hfid:ρ.f 20=f) (ef:∀ (args:Array Value) (w:World),(callFunc f args).run P w=.ok (.enter f args) w):So1OK P ⟨f,.int .i64,true,compI⟩:=by
 refine ⟨ef,fun xs ys h B S F w u hB hin hF hA=>?_⟩
 have h:compI xs=some ys:=h
 have hA:ArrH F S w u (.int .i64) xs:=hA
 show Calls P f #[u] w _
 unfold compI at h
 split at h
 ·rename_i hlt
  have hlt:=of_decide_eq_true hlt
  have hy:=Option.some.inj h
  have hyl:ys.length≤xs.length:=by rw [← hy];exact compact_len xs
  obtain ⟨base,cap,rfl,c1,c2,c3⟩:=hA
  by_cases hn:xs.length=0
  ·have hxs:xs=[]:=List.eq_nil_of_length_eq_zero hn
   have hys:ys=[]:=List.eq_nil_of_length_eq_zero (by omega)
   subst hxs hys
   have hc:=Go.Proofs.Any.slices_Compact_int_empty L base cap w
   rw [hfid] at hc
   exact hc.mono fun en w' ⟨he,hw⟩=>by
    subst hw
    exact ⟨_,.slice base 0 cap,he,fun _=>rfl,fun h=>(by cases h),rfl,Grow.refl hin,⟨base,cap,rfl,c1,c2,c3⟩,fun _ _ _ _=>⟨rfl,rfl⟩,fun _ _ _=>rfl⟩
  ·rcases c3 with c3 | ⟨b,off,rfl,hFe,ht,hx⟩
   ·omega
   obtain ⟨hH,hhas⟩:=holds_of c1 ht hx
   have hc:=Go.Proofs.Any.slices_Compact_int L b off cap xs w hH (by omega) c1
   rw [hfid,hy] at hc
   refine hc.mono fun en w' ⟨he,q,hw⟩=>?_
   have hdl:(ys++List.replicate (xs.length-ys.length) (0:Int)).length=xs.length:=by rw [List.length_append,List.length_replicate];omega
   obtain ⟨g1,g2,g3,g4,g5⟩:=world_put (os:=#[]) hin hF hFe c1 (by omega) ht hH hdl (hw.trans (grow_none _).symm)
   refine ⟨_,.slice (some ⟨b,off,none⟩) ys.length cap,he,fun _=>rfl,fun h=>(by cases h),rfl,g1,⟨_,cap,rfl,by omega,c2,.inr ⟨b,off,rfl,hFe,g5,fun i y hi=>?_⟩⟩,g3,g4⟩
   have hil:=(gS.1 hi).1
   have hmem:y∈xs:=compact_mem (by rw [hy];exact List.mem_of_getElem? hi)
   refine ⟨[.int .i64 y],⟨rfl,hhas y hmem⟩,fun j v hj=>?_⟩
   cases j with
   | zero =>
    cases hj
    have e:(ys++List.replicate (xs.length-ys.length) (0:Int)).toArray[i]! = y:=by
     rw [getB (by simp;omega)]
     simp only [List.getElem_toArray]
     rw [List.getElem_append_left hil]
     exact (gS.1 hi).2
    show w'.cell? ⟨b,off+i*1+0,none⟩=_
    rw [Nat.mul_one,Nat.add_zero,g2 i (by omega),e]
   | succ j=>simp at hj
 ·cases h
end Go.PE
namespace Go.Proofs
open Go.Shelf
def Tryz.lays134_ren:Go.Shelf.Ren:=⟨fun | 189=>34 | 125=>64 | 257=>63 | 128=>98 | 129=>99 | 294=>89 | 295=>90 | 296=>91 | 297=>92 | 298=>93 | 299=>94 | 216=>95 | 300=>96 | 301=>97 | 328=>114 | 329=>115 | 330=>116 | 331=>117 | 332=>118 | 215=>119 | 343=>122 | n=>n,fun | 28=>23 | 3=>3 | 46=>124 | 0=>0 | 51=>157 | 53=>159 | 4=>4 | 183=>149 | 182=>148 | 131=>154 | 5=>5 | 9=>9 | 218=>171 | 222=>175 | 228=>180 | 229=>181 | n=>n,fun | n=>n⟩
theorem Tryz.lays134:Go.Proofs.Lays.n189 Tryz.prog Tryz.lays134_ren:={
 mixed:=by kernel_rfl
 f125:=Tryz.func64.trans (congrArg some (by kernel_rfl))
 f128:=Tryz.func98.trans (congrArg some (by kernel_rfl))
 f129:=Tryz.func99.trans (congrArg some (by kernel_rfl))
 f189:=Tryz.func34.trans (congrArg some (by kernel_rfl))
 f215:=Tryz.func119.trans (congrArg some (by kernel_rfl))
 f216:=Tryz.func95.trans (congrArg some (by kernel_rfl))
 f257:=Tryz.func63.trans (congrArg some (by kernel_rfl))
 f294:=Tryz.func89.trans (congrArg some (by kernel_rfl))
 f295:=Tryz.func90.trans (congrArg some (by kernel_rfl))
 f296:=Tryz.func91.trans (congrArg some (by kernel_rfl))
 f297:=Tryz.func92.trans (congrArg some (by kernel_rfl))
 f298:=Tryz.func93.trans (congrArg some (by kernel_rfl))
 f299:=Tryz.func94.trans (congrArg some (by kernel_rfl))
 f300:=Tryz.func96.trans (congrArg some (by kernel_rfl))
 f301:=Tryz.func97.trans (congrArg some (by kernel_rfl))
 f328:=Tryz.func114.trans (congrArg some (by kernel_rfl))
 f329:=Tryz.func115.trans (congrArg some (by kernel_rfl))
 f330:=Tryz.func116.trans (congrArg some (by kernel_rfl))
 f331:=Tryz.func117.trans (congrArg some (by kernel_rfl))
 f332:=Tryz.func118.trans (congrArg some (by kernel_rfl))
 f343:=Tryz.func122.trans (congrArg some (by kernel_rfl))
 t0:=Tryz.underlying0
 a0:=Tryz.isAgg0
 z0:=Tryz.sizeOf0
 v0:=Tryz.zeroValue0
 t3:=Tryz.underlying3
 a3:=Tryz.isAgg3
 z3:=Tryz.sizeOf3
 v3:=Tryz.zeroValue3
 t4:=Tryz.underlying4
 a4:=Tryz.isAgg4
 z4:=Tryz.sizeOf4
 v4:=Tryz.zeroValue4
 t5:=Tryz.underlying5
 a5:=Tryz.isAgg5
 z5:=Tryz.sizeOf5
 v5:=Tryz.zeroValue5
 t9:=Tryz.underlying9
 a9:=Tryz.isAgg9
 z9:=Tryz.sizeOf9
 v9:=Tryz.zeroValue9
 t28:=Tryz.underlying23
 a28:=Tryz.isAgg23
 z28:=Tryz.sizeOf23
 v28:=Tryz.zeroValue23
 t46:=Tryz.underlying124
 a46:=Tryz.isAgg124
 z46:=Tryz.sizeOf124
 v46:=Tryz.zeroValue124
 t51:=Tryz.underlying157
 a51:=Tryz.isAgg157
 z51:=Tryz.sizeOf157
 v51:=Tryz.zeroValue157
 t53:=Tryz.underlying159
 a53:=Tryz.isAgg159
 z53:=Tryz.sizeOf159
 v53:=Tryz.zeroValue159
 t131:=Tryz.underlying154
 a131:=Tryz.isAgg154
 z131:=Tryz.sizeOf154
 v131:=Tryz.zeroValue154
 t182:=Tryz.underlying148
 a182:=Tryz.isAgg148
 z182:=Tryz.sizeOf148
 v182:=Tryz.zeroValue148
 t183:=Tryz.underlying149
 a183:=Tryz.isAgg149
 z183:=Tryz.sizeOf149
 v183:=Tryz.zeroValue149
 t218:=Tryz.underlying171
 a218:=Tryz.isAgg171
 z218:=Tryz.sizeOf171
 v218:=Tryz.zeroValue171
 t222:=Tryz.underlying175
 a222:=Tryz.isAgg175
 z222:=Tryz.sizeOf175
 v222:=Tryz.zeroValue175
 t228:=Tryz.underlying180
 a228:=Tryz.isAgg180
 z228:=Tryz.sizeOf180
 v228:=Tryz.zeroValue180
 t229:=Tryz.underlying181
 a229:=Tryz.isAgg181
 z229:=Tryz.sizeOf181
 v229:=Tryz.zeroValue181 }
def Tryz.lays135_ren:Go.Shelf.Ren:=⟨fun | 20=>35 | n=>n,fun | 22=>23 | 3=>3 | 4=>4 | 0=>0 | n=>n,fun | n=>n⟩
theorem Tryz.lays135:Go.Proofs.Lays2.n20 Tryz.prog Tryz.lays135_ren:={
 mixed:=by kernel_rfl
 f20:=Tryz.func35.trans (congrArg some (by kernel_rfl))
 t0:=Tryz.underlying0
 a0:=Tryz.isAgg0
 z0:=Tryz.sizeOf0
 v0:=Tryz.zeroValue0
 t3:=Tryz.underlying3
 a3:=Tryz.isAgg3
 z3:=Tryz.sizeOf3
 v3:=Tryz.zeroValue3
 t4:=Tryz.underlying4
 a4:=Tryz.isAgg4
 z4:=Tryz.sizeOf4
 v4:=Tryz.zeroValue4
 t22:=Tryz.underlying23
 a22:=Tryz.isAgg23
 z22:=Tryz.sizeOf23
 v22:=Tryz.zeroValue23
 i3:=by kernel_rfl }
end Go.Proofs
namespace Go.Proofs.YtfekoiabjbdnfaaGreat
open Go Go.Abs Go.PE Go.Proofs
theorem so1_34:So1OK Tryz.prog ⟨34,.int .i64,false,sortI⟩:=so1_sort Tryz.lays134 rfl Tryz.call34
theorem so1_35:So1OK Tryz.prog ⟨35,.int .i64,true,compI⟩:=so1_comp Tryz.lays135 rfl Tryz.call35
noncomputable def tabs:Tabs:={ tabs0 with so1:=[⟨34,.int .i64,false,sortI⟩,⟨35,.int .i64,true,compI⟩],sp:=[],ex:=[] }
theorem tabsOK:TabOK Tryz.prog tabs:=⟨tabs0OK.ty,tabs0OK.fn,(fun _ _ h=>by cases h),(fun _ _ h=>by cases h),tabs0OK.mixed,tabs0OK.so,tabs0OK.eqs,fun s hs=>by
 have hs:s∈[(⟨34,.int .i64,false,sortI⟩:So1),(⟨35,.int .i64,true,compI⟩:So1)]:=hs
 simp only [List.mem_cons,List.not_mem_nil,or_false] at hs
 rcases hs with rfl | rfl
 ·exact so1_34
 ·exact so1_35,tabs0OK.mps,tabs0OK.ow,tabs0OK.bt,(fun _ _ h=>by cases h)⟩
end Go.Proofs.YtfekoiabjbdnfaaGreat
namespace Go.Proofs.YtfekoiabjbdnfaaGreat
open Go Go.Abs Go.PE Go.Proofs
open Go.IntKind (wrap)
set_option maxRecDepth 100000
noncomputable section
abbrev tP:Ty:=(.pair tI tI)
abbrev tB:Ty:=(.pair tI tP)
abbrev tC:Ty:=(.pair tI (.pair tI tB))
abbrev tQ:Ty:=(.list tP)
abbrev tL:Ty:=(.list tI)
abbrev tO:Ty:=(.pair tI tQ)
abbrev tD:Ty:=(.pair tO (.list tC))
abbrev z0:Fl:=.s [] []
def ra:Nat→Nat→List Nat→List Nat
 | _,0,l=>l
 | a,n+1,l=>a::ra (a+1) n l
def za:Nat→List Fl→List Fl
 | 0,l=>l
 | n+1,l=>z0::za n l
theorem fc {f:FuncId} {ta tr:List Ty} {m:Tup (ta.map .d)→Option (Tup (tr.map .d))} {Γ:Tabs} (h:TabOK Tryz.prog Γ) (own:List Nat) (an:Ann) (fn:Func) (hm:∀ x,fnM OPS 400 Γ own an fn (fn.body.getD .skip) ta tr x=m x) (hf:lk Γ.fn f=some fn:=by kernel_rfl) (hb:fn.body=some (fn.body.getD .skip):=by kernel_rfl) (hn:Nat.ble ta.length fn.ntmps=true:=by kernel_rfl):SpecOK Tryz.prog f ⟨ta,tr,m⟩:=fnM_ok h OPS_sound OPS_nice hf hb hn hm
def tabsA:Tabs:={ tabs with mps:=[] }
theorem mpsOK:∀ f es,lk tabsA.mps f=some es→MapOK Tryz.prog f es:=by
 show ∀ f es,lk [] f=some es→MapOK Tryz.prog f es
 exact lk_none
theorem tabsAOK:TabOK Tryz.prog tabsA:=⟨tabsOK.ty,tabsOK.fn,tabsOK.sp,tabsOK.en,tabsOK.mixed,tabsOK.so,tabsOK.eqs,tabsOK.so1,mpsOK,tabsOK.ow,tabsOK.bt,tabsOK.ex⟩
def ano39:Ann:=.a
def mo39:List (Int×Int)→Option (List (Int×Int)) :=
 fun x=>nilM x (some []) ((appM (nat_lit 16) [] x).bind fun r=>some r)
theorem co39:OwnOK Tryz.prog 39 ⟨[(.list (.pair tI tI))],(.pair tI tI),mo39⟩ :=
 fnOw_ok (own:=[]) (an:=ano39) (n:=400) tabsAOK (F:=OPS) OPS_sound OPS_nice (f:=39) (fn:=Tryz.f39) (code:=Tryz.f39.body.getD .skip) (by kernel_rfl) (by kernel_rfl) (by kernel_rfl) Tryz.call39 fun x=>by kernel_rfl
def tabsO39:Tabs:=Tabs.addOw tabsA 39 ⟨[(.list (.pair tI tI))],(.pair tI tI),mo39⟩
theorem tabsO39OK:TabOK Tryz.prog tabsO39:=TabOK.addOw tabsAOK co39
def tabsX:Tabs:=tabsO39
theorem tabsXOK:TabOK Tryz.prog tabsX:=tabsO39OK

/-! putlog/network.within -/
def as27:List Ty:=[tI,tI,tI]
def rs27:List Ty:=[.bool]
def an27:Ann:=.a
def m27:(Int×Int×Int)→Option (Bool) :=
 fun x=>some (PE.andM (leM x.2.1 x.1) (leM x.1 x.2.2))
theorem c27:SpecOK Tryz.prog 27 ⟨as27,rs27,m27⟩ :=
 fc tabsXOK [] an27 Tryz.f27 fun x=>by kernel_rfl
def tabs27:Tabs:=Tabs.add tabsX 27 ⟨as27,rs27,m27⟩
theorem tabs27OK:TabOK Tryz.prog tabs27:=TabOK.add tabsXOK c27 Tryz.call27

/-! putlog/network.isNear -/
def as38:List Ty:=[tI,tI,tI]
def rs38:List Ty:=[.bool]
def an38:Ann:=.a
def m38:(Int×Int×Int)→Option (Bool) :=
 fun x=>(m27 (x.1,wrap .i64 (negM x.2.2),x.2.2)).bind fun r=>(bif r then m27 (x.2.1,wrap .i64 (negM x.2.2),x.2.2) else some false).bind fun
 r_1=>some (PE.andM r r_1)
theorem c38:SpecOK Tryz.prog 38 ⟨as38,rs38,m38⟩ :=
 fc tabs27OK [] an38 Tryz.f38 fun x=>by kernel_rfl
def tabs38:Tabs:=Tabs.add tabs27 38 ⟨as38,rs38,m38⟩
theorem tabs38OK:TabOK Tryz.prog tabs38:=TabOK.add tabs27OK c38 Tryz.call38

/-! putlog/network.Valid -/
def as17:List Ty:=[(.pair tI (.pair (.list (.pair tI tB)) (.list tC)))]
def rs17:List Ty:=[.bool]
def an17:Ann:=.seq (.a) (.seq (.a) (.seq (.a) (.seq (.a) (.seq (.reg [] [] [z0,.s [0] [],z0,.r,z0,z0,z0,.s [0] [],z0,.k [],z0,z0,z0] (.call [] [] (.seq (.a) (.seq (.reg [] [] [z0,z0,.r,z0,z0] (.call [] [(.norm,⟨[(7,.r (.c (.d (.d tI))))],[],[],[]⟩)] (.seq (.a) (.seq (.seq (.a) (.block (.loop ⟨[(8,.r (.c (.d (.d tI))))],(5::ra 9 8 (18::[])),[],[]⟩ [(.exit 0,⟨[],(5::ra 8 9 (18::[])),[],[]⟩),(.ret,⟨[(4,.r (.c (.d (.d tI))))],(5::ra 8 11 ([])),[],[]⟩)] (.seq (.a) (.seq (.a) (.seq (.block (.seq (.a) (.seq (.reg [] [] [z0,z0,z0,z0,z0,.r] (.call [] [] (.seq (.a) (.a)) (.a))) (.a)))) (.a))))))) (.a))) (.a))) (.a))) (.call [] [(.norm,⟨[(32,.r (.c (.d (.d .bool))))],[],[],[]⟩)] (.seq (.a) (.seq (.reg [] [] [z0,z0,.r,z0,z0] (.call [] [(.norm,⟨[(7,.r (.c (.d (.d tI))))],[],[],[]⟩)] (.seq (.a) (.seq (.seq (.a) (.block (.loop ⟨[(8,.r (.c (.d (.d tI))))],(5::ra 9 8 (18::[])),[],[]⟩ [(.exit 0,⟨[],(5::ra 8 9 (18::[])),[],[]⟩),(.ret,⟨[(4,.r (.c (.d (.d tI))))],(5::ra 8 11 ([])),[],[]⟩)] (.seq (.a) (.seq (.a) (.seq (.block (.seq (.a) (.seq (.reg [] [] [z0,z0,z0,z0,z0,.r] (.call [] [] (.seq (.a) (.a)) (.a))) (.a)))) (.a))))))) (.a))) (.a))) (.a))) (.a)))) (.a)))))
def m17:(Int×(List (Int×Int×Int×Int))×List (Int×Int×Int×Int×Int))→Option (Bool) :=
 fun x=>(m27 (x.1,0,8)).bind fun r=>bif PE.orM (PE.orM (PE.notM r) (ltM 8 (lenM x.2.1))) (ltM 20 (lenM x.2.2)) then some false else ((loopM (fun (s:Int)
 => bif ltM s (lenM x.2.1) then (idxM x.2.1 s).bind fun r_1=>(m27 (r_1.1,0,wrap .i64 (x.1-1))).bind fun r_2=>(bif PE.notM (PE.notM r_2) then m38
 (r_1.2.1,r_1.2.2.1,10000) else some false).bind fun r_3=>(bif PE.notM (PE.orM (PE.notM r_2) (PE.notM r_3)) then m27 (r_1.2.2.2,0,1000) else some
 false).bind fun r=>bif PE.orM (PE.orM (PE.notM r_2) (PE.notM r_3)) (PE.notM r) then some (Sum.inr (Sum.inr s)) else some (Sum.inl (wrap .i64 (s +
 1))) else some (Sum.inr (Sum.inl ()))) 0).bind fun o=>Sum.elim (fun (t:Unit)=>some (-1)) (fun (t:Int)=>some t) o).bind fun (ov:Int)=>(bif
 PE.notM (leM 0 ov) then ((loopM (fun (s:Int)=>bif ltM s (lenM x.2.2) then (idxM x.2.2 s).bind fun r_1=>(m27 (r_1.1,0,wrap .i64 (x.1-1))).bind
 fun r_2=>(bif PE.notM (PE.notM r_2) then m27 (r_1.2.1,0,wrap .i64 (x.1-1)) else some false).bind fun r_3=>(bif PE.notM (PE.orM (PE.orM (PE.notM
 r_2) (PE.notM r_3)) (eqM r_1.1 r_1.2.1)) then m38 (r_1.2.2.1,r_1.2.2.2.1,10000) else some false).bind fun r_4=>(bif PE.notM (PE.orM (PE.orM (PE.orM
 (PE.notM r_2) (PE.notM r_3)) (eqM r_1.1 r_1.2.1)) (PE.notM r_4)) then m27 (r_1.2.2.2.2,0,1000) else some false).bind fun r=>bif PE.orM (PE.orM (PE.orM
 (PE.orM (PE.notM r_2) (PE.notM r_3)) (eqM r_1.1 r_1.2.1)) (PE.notM r_4)) (PE.notM r) then some (Sum.inr (Sum.inr s)) else some (Sum.inl (wrap .i64 (s +
 1))) else some (Sum.inr (Sum.inl ()))) 0).bind fun o=>Sum.elim (fun (t:Unit)=>some (-1)) (fun (t:Int)=>some t) o).bind fun (ov:Int)=>some (leM 0
 ov) else some false).bind fun (ov_1:Bool)=>some (PE.andM (PE.notM (leM 0 ov)) (PE.notM ov_1))
theorem c17:SpecOK Tryz.prog 17 ⟨as17,rs17,m17⟩ :=
 fc tabs38OK [] an17 Tryz.f17 fun x=>by kernel_rfl
def tabs17:Tabs:=Tabs.add tabs38 17 ⟨as17,rs17,m17⟩
theorem tabs17OK:TabOK Tryz.prog tabs17:=TabOK.add tabs38OK c17 Tryz.call17

/-! (putlog/network.vector).right -/
def as56:List Ty:=[tP]
def rs56:List Ty:=[tI]
def an56:Ann:=.a
def m56:(Int×Int)→Option (Int) :=
 fun x=>some x.1
theorem c56:SpecOK Tryz.prog 56 ⟨as56,rs56,m56⟩ :=
 fc tabs17OK [] an56 Tryz.f56 fun x=>by kernel_rfl
def tabs56:Tabs:=Tabs.add tabs17 56 ⟨as56,rs56,m56⟩
theorem tabs56OK:TabOK Tryz.prog tabs56:=TabOK.add tabs17OK c56 Tryz.call56

/-! (putlog/network.vector).up -/
def as57:List Ty:=[tP]
def rs57:List Ty:=[tI]
def an57:Ann:=.a
def m57:(Int×Int)→Option (Int) :=
 fun x=>some x.2
theorem c57:SpecOK Tryz.prog 57 ⟨as57,rs57,m57⟩ :=
 fc tabs56OK [] an57 Tryz.f57 fun x=>by kernel_rfl
def tabs57:Tabs:=Tabs.add tabs56 57 ⟨as57,rs57,m57⟩
theorem tabs57OK:TabOK Tryz.prog tabs57:=TabOK.add tabs56OK c57 Tryz.call57

/-! putlog/network.axes -/
def as32:List Ty:=[(.pair tI (.pair (.list (.pair tI tB)) (.list tC)))]
def rs32:List Ty:=[(.pair (.pair tI (.list tB)) (.pair tI (.list tB)))]
def an32:Ann:=.seq (.a) (.seq (.a) (.seq (.seq (.reg [] [] [.s [0] [],.r] (.call [] [] (.seq (.a) (.a)) (.a))) (.block (.call [] [] (.seq (.seq (.a) (.block (.loop ⟨[(10,.r (.c (.d (.d tI))))],(4::ra 11 19 ([])),[(2,.box [.d (.d tI),.h 5,.d (.d tI),.h 6]),(4,.lp .ready)],[.arr tB,.arr tB]⟩ [(.exit 0,⟨[],(4::ra 10 20 ([])),[(2,.box [.d (.d tI),.h 5,.d (.d tI),.h 6]),(4,.lp .ready)],[.arr tB,.arr tB]⟩)] (.seq (.a) (.seq (.a) (.seq (.block (.seq (.a) (.seq (.reg [] [] [z0,z0,.s [7] [],z0,.s [7] [],z0,z0,.s [3] [],z0,.s [7] [],z0,.s [7] [],z0,.r,z0] (.call [] [] (.seq (.a) (.block (.seq (.a) (.block (.seq (.seq (.a) (.seq (.a) (.seq (.block (.seq (.a) (.seq (.a) (.reg [0,0,2,6,14,0,32,0,128,0,0,1024,3584,8160,0,16384,0,65536,0,262144,0,1835008,4177920,8388576,16777214,33554431,67108863,134217727] (ra 0 28 ([])) (z0::z0::.s [2] []::z0::.s [2] []::z0::.s [8] []::z0::.s [8] []::z0::z0::.s [8] []::za 3 (.s [8] []::z0::.s [8] []::z0::.s [8] []::za 4 (.s [5] [10,5]::.s [2] []::z0::.s [2,10] [2]::[]))) (.a))))) (.a)))) (.seq (.seq (.a) (.seq (.a) (.seq (.block (.seq (.a) (.seq (.a) (.reg [0,0,2,6,14,0,32,0,128,0,0,1024,3584,8160,0,16384,0,65536,0,262144,0,1835008,4177920,8388576,16777214,33554431,67108863,134217727] (ra 0 28 ([])) (z0::z0::.s [2] []::z0::.s [2] []::z0::.s [8] []::z0::.s [8] []::z0::z0::.s [8] []::za 3 (.s [8] []::z0::.s [8] []::z0::.s [8] []::za 4 (.s [6] [11,6]::.s [2] []::z0::.s [2,11] [2]::[]))) (.a))))) (.a)))) (.seq (.a) (.join [] (.a))))))))) (.a))) (.a)))) (.a))))))) (.seq (.a) (.block (.loop ⟨[(33,.r (.c (.d (.d tI))))],(6::ra 34 19 ([])),[(2,.box [.d (.d tI),.h 7,.d (.d tI),.h 8]),(4,.lp .ready),(5,.gone),(6,.gone)],[.arr tB,.arr tB]⟩ [(.exit 2,⟨[],(6::ra 33 20 ([])),[(2,.box [.d (.d tI),.h 7,.d (.d tI),.h 8]),(4,.lp .ready),(5,.gone),(6,.gone)],[.arr tB,.arr tB]⟩)] (.seq (.a) (.seq (.a) (.seq (.block (.seq (.a) (.seq (.reg [] [] [z0,z0,.s [9] [],z0,.s [9] [],z0,z0,.s [9] [],z0,.s [9] [],z0,.s [9] [],z0,.r,z0] (.call [] [] (.seq (.a) (.block (.seq (.a) (.block (.seq (.seq (.a) (.seq (.a) (.seq (.block (.seq (.a) (.seq (.a) (.reg [0,0,2,6,14,0,32,0,128,0,0,1024,3584,8160,0,16384,0,65536,0,262144,0,1835008,4177920,8388576,16777214,33554431,67108863,134217727] (ra 0 28 ([])) (z0::z0::.s [2] []::z0::.s [2] []::z0::.s [10] []::z0::.s [10] []::z0::z0::.s [10] []::za 3 (.s [10] []::z0::.s [10] []::z0::.s [10] []::za 4 (.s [7] [12,7]::.s [2] []::z0::.s [2,12] [2]::[]))) (.a))))) (.a)))) (.seq (.seq (.a) (.seq (.a) (.seq (.block (.seq (.a) (.seq (.a) (.reg [0,0,2,6,14,0,32,0,128,0,0,1024,3584,8160,0,16384,0,65536,0,262144,0,1835008,4177920,8388576,16777214,33554431,67108863,134217727] (ra 0 28 ([])) (z0::z0::.s [2] []::z0::.s [2] []::z0::.s [10] []::z0::.s [10] []::z0::z0::.s [10] []::za 3 (.s [10] []::z0::.s [10] []::z0::.s [10] []::za 4 (.s [8] [13,8]::.s [2] []::z0::.s [2,13] [2]::[]))) (.a))))) (.a)))) (.seq (.a) (.join [] (.a))))))))) (.a))) (.a)))) (.a)))))))) (.a)))) (.a)))
def m32:(Int×(List (Int×Int×Int×Int))×List (Int×Int×Int×Int×Int))→Option ((Int×List (Int×Int×Int))×Int×List (Int×Int×Int)) :=
 fun x=>(loopM (fun (s:Int×Int×Int×List (Int×Int×Int)×List (Int×Int×Int))=>bif ltM s.1 (lenM x.2.1) then (idxM x.2.1 s.1).bind fun r =>
 (m56 (r.2.1,r.2.2.1)).bind fun r_1=>(appM (nat_lit 24) s.2.2.2.1 [(x.1,r.1,wrap .i64 (r_1+r.2.2.2)),(r.1,x.1,wrap .i64 (r.2.2.2 -
 r_1))]).bind fun r_2=>(m57 (r.2.1,r.2.2.1)).bind fun r_3=>(appM (nat_lit 24) s.2.2.2.2 [(x.1,r.1,wrap .i64 (r_3+r.2.2.2)),(r.1,x.1,wrap
 IntKind.i64 (r.2.2.2-r_3))]).bind fun r=>some (Sum.inl (wrap .i64 (s.1+1),s.2.1,s.2.2.1,r_2,r)) else some (Sum.inr (s.2.1,s.2.2.1,
 s.2.2.2.1,s.2.2.2.2))) (0,wrap .i64 (x.1+1),wrap .i64 (x.1+1),[],[])).bind fun o=>(loopM (fun (s:Int×Int×Int×List (Int×Int
 × Int)×List (Int×Int×Int))=>bif ltM s.1 (lenM x.2.2) then (idxM x.2.2 s.1).bind fun r=>(m56 (r.2.2.1,r.2.2.2.1)).bind fun r_1=>(appM (nat_lit 24)
 s.2.2.2.1 [(r.1,r.2.1,wrap .i64 (r_1+r.2.2.2.2)),(r.2.1,r.1,wrap .i64 (r.2.2.2.2-r_1))]).bind fun r_2=>(m57 (r.2.2.1,
 r.2.2.2.1)).bind fun r_3=>(appM (nat_lit 24) s.2.2.2.2 [(r.1,r.2.1,wrap .i64 (r_3+r.2.2.2.2)),(r.2.1,r.1,wrap .i64 (r.2.2.2.2 -
 r_3))]).bind fun r=>some (Sum.inl (wrap .i64 (s.1+1),s.2.1,s.2.2.1,r_2,r)) else some (Sum.inr (s.2.1,s.2.2.1,s.2.2.2.1,s.2.2.2.2))) (0,o.1,
 o.2.1,o.2.2.1,o.2.2.2)).bind fun o=>some ((o.1,o.2.2.1),o.2.1,o.2.2.2)
theorem c32:SpecOK Tryz.prog 32 ⟨as32,rs32,m32⟩ :=
 fc tabs57OK [] an32 Tryz.f32 fun x=>by kernel_rfl
def tabs32:Tabs:=Tabs.add tabs57 32 ⟨as32,rs32,m32⟩
theorem tabs32OK:TabOK Tryz.prog tabs32:=TabOK.add tabs57OK c32 Tryz.call32

/-! putlog/between.isIn -/
def as79:List Ty:=[tI,tI,tI]
def rs79:List Ty:=[.bool]
def an79:Ann:=.a
def m79:(Int×Int×Int)→Option (Bool) :=
 fun x=>some (PE.andM (leM x.2.1 x.1) (leM x.1 x.2.2))
theorem c79:SpecOK Tryz.prog 79 ⟨as79,rs79,m79⟩ :=
 fc tabs32OK [] an79 Tryz.f79 fun x=>by kernel_rfl
def tabs79:Tabs:=Tabs.add tabs32 79 ⟨as79,rs79,m79⟩
theorem tabs79OK:TabOK Tryz.prog tabs79:=TabOK.add tabs32OK c79 Tryz.call79

/-! putlog/between.isBound -/
def as82:List Ty:=[tI,tB]
def rs82:List Ty:=[.bool]
def an82:Ann:=.a
def m82:(Int×Int×Int×Int)→Option (Bool) :=
 fun x=>(m79 (x.2.1,0,wrap .i64 (x.1-1))).bind fun r=>(bif r then m79 (x.2.2.1,0,wrap .i64 (x.1-1)) else some false).bind fun r_1 =>
 (bif PE.andM r r_1 then m79 (x.2.2.2,(-1000000000),1000000000) else some false).bind fun r_2=>some (PE.andM (PE.andM r r_1) r_2)
theorem c82:SpecOK Tryz.prog 82 ⟨as82,rs82,m82⟩ :=
 fc tabs79OK [] an82 Tryz.f82 fun x=>by kernel_rfl
def tabs82:Tabs:=Tabs.add tabs79 82 ⟨as82,rs82,m82⟩
theorem tabs82OK:TabOK Tryz.prog tabs82:=TabOK.add tabs79OK c82 Tryz.call82

/-! putlog/between.Valid -/
def as58:List Ty:=[(.pair tI (.list tB))]
def rs58:List Ty:=[.bool]
def an58:Ann:=.seq (.a) (.seq (.reg [] [] [z0,.s [0] [],z0,z0,z0,.s [0] [],z0,z0,z0,z0,z0,.s [0] [],z0,.k [],z0,z0,z0] (.call [] [(.norm,⟨[(16,.r (.c (.d (.d .bool))))],[],[],[]⟩)] (.seq (.a) (.seq (.reg [] [] [z0,z0,.r,z0,z0] (.call [] [(.norm,⟨[(7,.r (.c (.d (.d tI))))],[],[],[]⟩)] (.seq (.a) (.seq (.seq (.a) (.block (.loop ⟨[(8,.r (.c (.d (.d tI))))],(5::ra 9 8 (18::[])),[],[]⟩ [(.exit 0,⟨[],(5::ra 8 9 (18::[])),[],[]⟩),(.ret,⟨[(4,.r (.c (.d (.d tI))))],(5::ra 8 11 ([])),[],[]⟩)] (.seq (.a) (.seq (.a) (.seq (.block (.seq (.a) (.seq (.reg [] [] [z0,z0,z0,z0,z0,.r] (.call [] [] (.seq (.a) (.a)) (.a))) (.a)))) (.a))))))) (.a))) (.a))) (.a))) (.a))) (.a))
def m58:(Int×List (Int×Int×Int))→Option (Bool) :=
 fun x=>(m79 (x.1,0,16)).bind fun r=>(bif PE.andM r (leM (lenM x.2) 60) then ((loopM (fun (s:Int)=>bif ltM s (lenM x.2) then (idxM x.2 s).bind fun r_1
 => (m82 (x.1,r_1.1,r_1.2.1,r_1.2.2)).bind fun r=>bif PE.notM r then some (Sum.inr (Sum.inr s)) else some (Sum.inl (wrap .i64 (s+1))) else some
 (Sum.inr (Sum.inl ()))) 0).bind fun o=>Sum.elim (fun (t:Unit)=>some (-1)) (fun (t:Int)=>some t) o).bind fun (ov:Int)=>some (leM 0 ov) else some
 false).bind fun (ov:Bool)=>some (PE.andM (PE.andM r (leM (lenM x.2) 60)) (PE.notM ov))
theorem c58:SpecOK Tryz.prog 58 ⟨as58,rs58,m58⟩ :=
 fc tabs82OK [] an58 Tryz.f58 fun x=>by kernel_rfl
def tabs58:Tabs:=Tabs.add tabs82 58 ⟨as58,rs58,m58⟩
theorem tabs58OK:TabOK Tryz.prog tabs58:=TabOK.add tabs82OK c58 Tryz.call58

/-! putlog/between.none$1 -/
def as113:List Ty:=[tI,tI]
def rs113:List Ty:=[tI]
def an113:Ann:=.a
def m113:(Int×Int)→Option (Int) :=
 fun x=>bif eqM x.1 x.2 then some 0 else some 1152921504606846976
theorem c113:SpecOK Tryz.prog 113 ⟨as113,rs113,m113⟩ :=
 fc tabs58OK [] an113 Tryz.f113 fun x=>by kernel_rfl
def tabs113:Tabs:=Tabs.add tabs58 113 ⟨as113,rs113,m113⟩
theorem tabs113OK:TabOK Tryz.prog tabs113:=TabOK.add tabs58OK c113 Tryz.call113

/-! putlog/between.none -/
def as83:List Ty:=[tI]
def rs83:List Ty:=[(.list tL)]
def an83:Ann:=.seq (.a) (.seq (.reg [] [] [z0,.r,z0] (.call [9] [] (.seq (.a) (.seq (.a) (.seq (.seq (.a) (.block (.loop ⟨[(11,.r (.c (.d (.d tI))))],(6::7::ra 12 21 ([])),[(0,.tab tI 2),(1,.gone)],[.us]⟩ [(.exit 0,⟨[],(6::7::ra 11 22 ([])),[(0,.tab tI 2),(1,.gone)],[.us]⟩)] (.seq (.a) (.seq (.a) (.seq (.block (.seq (.a) (.seq (.a) (.block (.loop ⟨[(15,.r (.c (.d (.d tI))))],(7::ra 16 16 ([])),[(0,.tab tI 3),(2,.gone)],[.us]⟩ [(.exit 2,⟨[],(7::ra 15 17 ([])),[(0,.tab tI 3),(2,.gone)],[.us]⟩)] (.seq (.a) (.seq (.a) (.seq (.block (.seq (.a) (.reg [0,0,0,0,12,28,0,0,0,448,960,2044,4095,8191] (ra 0 14 ([])) (za 4 (.s [0] []::.s [0] []::za 5 (.s [0] [0]::.s [0] []::.s [0,0] [0]::[]))) (.a)))) (.a))))))))) (.a))))))) (.a)))) (.a))) (.a))
def m83:Int→Option (List (List Int)) :=
 fun x=>(mkM x x (nat_lit 24) []).bind fun r=>(loopM (fun (s:Int×List (List Int))=>bif ltM s.1 x then (loopM (fun (s_1:Int×List (List Int))=>bif
 ltM s_1.1 x then (chkM s.1 (lenM s_1.2)).bind fun r_1=>(chkM s.1 (lenM s_1.2)).bind fun r_2=>(m113 (s.1,s_1.1)).bind fun r_3=>(app2M (nat_lit 8) s_1.2
 s.1 [r_3]).bind fun r_4=>(chkM s.1 (lenM r_4)).bind fun r_5=>((sameM s.1 s.1).bind fun (x:Unit)=>(sameM s.1 s.1).bind fun (x:Unit)=>chkM s.1 (lenM
 r_4)).bind fun r=>some (Sum.inl (wrap .i64 (s_1.1+1),r_4)) else some (Sum.inr s_1.2)) (0,s.2)).bind fun o=>some (Sum.inl (wrap .i64 (s.1
 + 1),o)) else some (Sum.inr s.2)) (0,r)).bind fun o=>some o
theorem c83:SpecOK Tryz.prog 83 ⟨as83,rs83,m83⟩ :=
 fc tabs113OK [] an83 Tryz.f83 fun x=>by kernel_rfl
def tabs83:Tabs:=Tabs.add tabs113 83 ⟨as83,rs83,m83⟩
theorem tabs83OK:TabOK Tryz.prog tabs83:=TabOK.add tabs113OK c83 Tryz.call83

/-! putlog/between.plus -/
def as61:List Ty:=[tI,tI]
def rs61:List Ty:=[tI]
def an61:Ann:=.a
def m61:(Int×Int)→Option (Int) :=
 fun x=>bif PE.orM (eqM x.1 1152921504606846976) (eqM x.2 1152921504606846976) then some 1152921504606846976 else some (wrap .i64 (x.1+x.2))
theorem c61:SpecOK Tryz.prog 61 ⟨as61,rs61,m61⟩ :=
 fc tabs83OK [] an61 Tryz.f61 fun x=>by kernel_rfl
def tabs61:Tabs:=Tabs.add tabs83 61 ⟨as61,rs61,m61⟩
theorem tabs61OK:TabOK Tryz.prog tabs61:=TabOK.add tabs83OK c61 Tryz.call61

/-! putlog/between.distances -/
def as59:List Ty:=[(.pair tI (.list tB))]
def rs59:List Ty:=[(.list tL),.bool]
def an59:Ann:=.seq (.a) (.seq (.reg [] [] [z0,.s [0] [],.r,z0] (.call [] [] (.seq (.a) (.seq (.reg [] [] [z0,.r,z0] (.call [9] [] (.seq (.a) (.seq (.a) (.seq (.seq (.a) (.block (.loop ⟨[(11,.r (.c (.d (.d tI))))],(6::7::ra 12 21 ([])),[(1,.tab tI 3),(2,.gone)],[.us]⟩ [(.exit 0,⟨[],(6::7::ra 11 22 ([])),[(1,.tab tI 3),(2,.gone)],[.us]⟩)] (.seq (.a) (.seq (.a) (.seq (.block (.seq (.a) (.seq (.a) (.block (.loop ⟨[(15,.r (.c (.d (.d tI))))],(7::ra 16 16 ([])),[(1,.tab tI 4),(3,.gone)],[.us]⟩ [(.exit 2,⟨[],(7::ra 15 17 ([])),[(1,.tab tI 4),(3,.gone)],[.us]⟩)] (.seq (.a) (.seq (.a) (.seq (.block (.seq (.a) (.reg [0,0,0,0,12,28,0,0,0,448,960,2044,4095,8191] (ra 0 14 ([])) (za 4 (.s [1] []::.s [1] []::za 5 (.s [1] [1]::.s [1] []::.s [1,1] [1]::[]))) (.a)))) (.a))))))))) (.a))))))) (.a)))) (.a))) (.a))) (.a))) (.seq (.seq (.a) (.block (.loop ⟨[(18,.r (.c (.d (.d tI))))],(6::ra 19 24 ([])),[(1,.tab tI 3)],[]⟩ [(.exit 0,⟨[],(6::ra 18 25 ([])),[(1,.tab tI 3)],[]⟩)] (.seq (.a) (.seq (.a) (.seq (.block (.seq (.a) (.reg [0,0,2,7,15,0,32,0,0,256,896,1920,0,4096,16256,32640,0,65536,262016,524287,1048575] (ra 0 21 ([])) [z0,z0,.s [4] [],.s [1] [],.s [1] [],z0,.s [4] [],z0,z0,.s [4] [],.s [1] [],.s [1] [],z0,.s [4] [],.s [1] [],.s [1] [],z0,.s [4] [],z0,.s [1] [],.s [1] [1]] (.a)))) (.a))))))) (.seq (.seq (.a) (.block (.loop ⟨[(45,.r (.c (.d (.d tI))))],(7::8::9::10::ra 46 50 ([])),[(1,.tab tI 3)],[]⟩ [(.exit 2,⟨[],(7::8::9::10::ra 45 51 ([])),[(1,.tab tI 3)],[]⟩)] (.seq (.a) (.seq (.a) (.seq (.block (.seq (.a) (.seq (.a) (.seq (.a) (.seq (.a) (.block (.loop ⟨[(59,.r (.c (.d (.d tI))))],(9::10::ra 60 35 ([])),[(1,.tab tI 3)],[]⟩ [(.exit 4,⟨[],(9::10::ra 59 36 ([])),[(1,.tab tI 3)],[]⟩)] (.seq (.a) (.seq (.a) (.seq (.block (.seq (.a) (.seq (.a) (.block (.loop ⟨[(64,.r (.c (.d (.d tI))))],(10::ra 65 29 ([])),[(1,.tab tI 3)],[]⟩ [(.exit 6,⟨[],(10::ra 64 30 ([])),[(1,.tab tI 3)],[]⟩)] (.seq (.a) (.seq (.a) (.seq (.block (.seq (.a) (.reg [0,0,3,7,0,0,0,96,224,0,992,2016,0,0,12288,28672,0,126976,258048,0,0,1572864,3670016,8384512,16777184,33554431,67108863] (ra 0 27 ([])) (z0::z0::.s [1] []::.s [1] []::za 3 (.s [1] []::.s [1] []::z0::.s [1] []::.s [1] []::z0::z0::.s [1] []::.s [1] []::z0::.s [1] []::.s [1] []::z0::z0::.s [4] []::.s [4] []::z0::z0::.s [1] []::.s [1] [1]::[])) (.a)))) (.a))))))))) (.a))))))))))) (.a))))))) (.seq (.seq (.a) (.block (.loop ⟨[(98,.r (.c (.d (.d tI))))],(11::ra 99 11 ([])),[],[]⟩ [(.exit 8,⟨[],(11::ra 98 12 ([])),[],[]⟩),(.ret,⟨[(2,.r (.c (.l .nilS))),(3,.r (.c (.d (.d .bool))))],(11::ra 98 12 ([])),[],[]⟩)] (.a)))) (.a)))))
def m59:(Int×List (Int×Int×Int))→Option (List (List Int)×Bool) :=
 fun x=>(mkM x.1 x.1 (nat_lit 24) []).bind fun r=>(loopM (fun (s:Int×List (List Int))=>bif ltM s.1 x.1 then (loopM (fun (s_1:Int×List (List Int))
 => bif ltM s_1.1 x.1 then (chkM s.1 (lenM s_1.2)).bind fun r_1=>(chkM s.1 (lenM s_1.2)).bind fun r_2=>(m113 (s.1,s_1.1)).bind fun r_3=>(app2M (nat_lit
 8) s_1.2 s.1 [r_3]).bind fun r_4=>(chkM s.1 (lenM r_4)).bind fun r_5=>((sameM s.1 s.1).bind fun (x:Unit)=>(sameM s.1 s.1).bind fun (x:Unit)=>chkM
 s.1 (lenM r_4)).bind fun r=>some (Sum.inl (wrap .i64 (s_1.1+1),r_4)) else some (Sum.inr s_1.2)) (0,s.2)).bind fun o=>some (Sum.inl (wrap
 IntKind.i64 (s.1+1),o)) else some (Sum.inr s.2)) (0,r)).bind fun o=>(loopM (fun (s:Int×List (List Int))=>bif ltM s.1 (lenM x.2) then (idxM x.2
 s.1).bind fun r_1=>(chkM r_1.1 (lenM s.2)).bind fun r_2=>(chkM r_1.1 (lenM s.2)).bind fun r_3=>(chkM r_1.1 (lenM s.2)).bind fun r_4=>(chkM r_1.1 (lenM
 s.2)).bind fun r_5=>((idxM s.2 r_1.1).bind fun (xs:List Int)=>chkM r_1.2.1 (lenM xs)).bind fun r_6=>((idxM s.2 r_1.1).bind fun (xs:List Int) =>
 (idxM xs r_1.2.1).bind fun (x:Int)=>some x).bind fun r_7=>((idxM s.2 r_1.1).bind fun (xs:List Int)=>chkM r_1.2.1 (lenM xs)).bind fun r_8=>(set2M
 s.2 r_1.1 r_1.2.1 fun (x:Int)=>some (min r_7 r_1.2.2)).bind fun r=>some (Sum.inl (wrap .i64 (s.1+1),r)) else some (Sum.inr s.2)) (0,o)).bind
 fun o_1=>(loopM (fun (s:Int×List (List Int))=>bif ltM s.1 x.1 then (mkM x.1 x.1 (nat_lit 8) 0).bind fun r_1=>(chkM s.1 (lenM s.2)).bind fun r_2 =>
 (chkM s.1 (lenM s.2)).bind fun r_3=>(idxM s.2 s.1).bind fun r_4=>(loopM (fun (s_1:Int×List (List Int))=>bif ltM s_1.1 x.1 then (loopM (fun (s_2 :
 Int×List (List Int))=>bif ltM s_2.1 x.1 then (chkM s_1.1 (lenM s_2.2)).bind fun r_5=>(chkM s_1.1 (lenM s_2.2)).bind fun r_6=>(chkM s_1.1 (lenM
 s_2.2)).bind fun r_7=>(chkM s_1.1 (lenM s_2.2)).bind fun r_8=>((idxM s_2.2 s_1.1).bind fun (xs:List Int)=>chkM s_2.1 (lenM xs)).bind fun r_9=>((idxM
 s_2.2 s_1.1).bind fun (xs:List Int)=>(idxM xs s_2.1).bind fun (x:Int)=>some x).bind fun r_10=>(chkM s_1.1 (lenM s_2.2)).bind fun r_11=>(chkM s_1.1
 (lenM s_2.2)).bind fun r_12=>((idxM s_2.2 s_1.1).bind fun (xs:List Int)=>chkM s.1 (lenM xs)).bind fun r_13=>((idxM s_2.2 s_1.1).bind fun (xs:List
 Int)=>(idxM xs s.1).bind fun (x:Int)=>some x).bind fun r_14=>(chkM s_2.1 (lenM (copyM r_1 r_4))).bind fun r_15=>(idxM (copyM r_1 r_4) s_2.1).bind
 fun r_16=>(m61 (r_14,r_16)).bind fun r_17=>((idxM s_2.2 s_1.1).bind fun (xs:List Int)=>chkM s_2.1 (lenM xs)).bind fun r_18=>(set2M s_2.2 s_1.1
 s_2.1 fun (x:Int)=>some (min r_10 r_17)).bind fun r=>some (Sum.inl (wrap .i64 (s_2.1+1),r)) else some (Sum.inr s_2.2)) (0,s_1.2)).bind fun o
 => some (Sum.inl (wrap .i64 (s_1.1+1),o)) else some (Sum.inr s_1.2)) (0,s.2)).bind fun o=>some (Sum.inl (wrap .i64 (s.1+1),o)) else
 some (Sum.inr s.2)) (0,o_1)).bind fun o_2=>(loopM (fun (s:Int)=>bif ltM s x.1 then (chkM s (lenM o_2)).bind fun r_1=>(chkM s (lenM o_2)).bind fun r_2
 => ((idxM o_2 s).bind fun (xs:List Int)=>chkM s (lenM xs)).bind fun r_3=>((idxM o_2 s).bind fun (xs:List Int)=>(idxM xs s).bind fun (x:Int) =>
 some x).bind fun r=>bif ltM r 0 then some (Sum.inr (Sum.inr false)) else some (Sum.inl (wrap .i64 (s+1))) else some (Sum.inr (Sum.inl ()))) 0).bind
 fun o=>Sum.elim (fun (t:Unit)=>some (o_2,true)) (fun (t:Bool)=>some ([],t)) o
theorem c59:SpecOK Tryz.prog 59 ⟨as59,rs59,m59⟩ :=
 fc (TabOK.drop tabs61OK [83]) [] an59 Tryz.f59 fun x=>by kernel_rfl
def tabs59:Tabs:=Tabs.add tabs61 59 ⟨as59,rs59,m59⟩
theorem tabs59OK:TabOK Tryz.prog tabs59:=TabOK.add tabs61OK c59 Tryz.call59

/-! putlog/between.Close -/
def as54:List Ty:=[(.pair tI (.list tB))]
def rs54:List Ty:=[(.list tL),tI]
def an54:Ann:=.a
def m54:(Int×List (Int×Int×Int))→Option (List (List Int)×Int) :=
 fun x=>(m58 (x.1,x.2)).bind fun r=>bif PE.notM r then some ([],90) else (m59 (x.1,x.2)).bind fun r=>bif PE.notM r.2 then some ([],90) else some (r.1,
 0)
theorem c54:SpecOK Tryz.prog 54 ⟨as54,rs54,m54⟩ :=
 fc tabs59OK [] an54 Tryz.f54 fun x=>by kernel_rfl
def tabs54:Tabs:=Tabs.add tabs59 54 ⟨as54,rs54,m54⟩
theorem tabs54OK:TabOK Tryz.prog tabs54:=TabOK.add tabs59OK c54 Tryz.call54

/-! putlog/network.apart -/
def as28:List Ty:=[(.pair tI (.pair (.list (.pair tI tB)) (.list tC))),tI,tI]
def rs28:List Ty:=[(.pair tI tB),tI]
def an28:Ann:=.seq (.a) (.seq (.a) (.seq (.a) (.seq (.a) (.seq (.a) (.seq (.reg [0,0,3,7,0,31,63,127,0,0,768,1792,0,7936,16128,0,0,98304,229376,0,1015808,2064384,4161536,0,0,25165824,58720256,0,260046848,528482304,1073741823,2147483647,4294967295] (ra 0 33 ([])) (za 31 (.s [1] [1]::z0::[])) (.a)) (.a))))))
def m28:((Int×(List (Int×Int×Int×Int))×List (Int×Int×Int×Int×Int))×Int×Int)→Option ((Int×Int×Int×Int)×Int) :=
 fun x=>(m32 (x.1.1,x.1.2.1,x.1.2.2)).bind fun r=>(m54 (r.1.1,r.1.2)).bind fun r_1=>(m54 (r.2.1,r.2.2)).bind fun r_2=>(bif PE.notM (PE.orM (PE.notM
 (eqM r_1.2 0)) (PE.notM (eqM r_2.2 0))) then idxM r_1.1 x.2.1 else some []).bind fun r_3=>(bif PE.notM (PE.orM (PE.notM (eqM r_1.2 0)) (PE.notM (eqM r_2.2
 0))) then idxM r_3 x.2.2 else some 0).bind fun r_4=>bif PE.orM (PE.orM (PE.notM (eqM r_1.2 0)) (PE.notM (eqM r_2.2 0))) (eqM r_4 1152921504606846976) then
 some ((0,0,0,0),100) else (idxM r_1.1 x.2.2).bind fun r_5=>(idxM r_5 x.2.1).bind fun r_6=>(idxM r_1.1 x.2.1).bind fun r_7=>(idxM r_7 x.2.2).bind fun
 r_8=>(idxM r_2.1 x.2.2).bind fun r_9=>(idxM r_9 x.2.1).bind fun r_10=>(idxM r_2.1 x.2.1).bind fun r_11=>(idxM r_11 x.2.2).bind fun r=>some ((wrap
 IntKind.i64 (negM r_6),r_8,wrap .i64 (negM r_10),r),0)
theorem c28:SpecOK Tryz.prog 28 ⟨as28,rs28,m28⟩ :=
 fc tabs54OK [] an28 Tryz.f28 fun x=>by kernel_rfl
def tabs28:Tabs:=Tabs.add tabs54 28 ⟨as28,rs28,m28⟩
theorem tabs28OK:TabOK Tryz.prog tabs28:=TabOK.add tabs54OK c28 Tryz.call28

/-! putlog/network.Box -/
def as10:List Ty:=[(.pair tI (.pair (.list (.pair tI tB)) (.list tC))),tI]
def rs10:List Ty:=[(.pair tI tB),tI]
def an10:Ann:=.a
def m10:((Int×(List (Int×Int×Int×Int))×List (Int×Int×Int×Int×Int))×Int)→Option ((Int×Int×Int×Int)×Int) :=
 fun x=>(m17 (x.1.1,x.1.2.1,x.1.2.2)).bind fun r=>(bif PE.notM (PE.notM r) then m27 (x.2,0,wrap .i64 (x.1.1-1)) else some false).bind fun r_1 =>
 bif PE.orM (PE.notM r) (PE.notM r_1) then some ((0,0,0,0),100) else (m28 ((x.1.1,x.1.2.1,x.1.2.2),x.1.1,x.2)).bind fun r=>some ((r.1.1,r.1.2.1,
 r.1.2.2.1,r.1.2.2.2),r.2)
theorem c10:SpecOK Tryz.prog 10 ⟨as10,rs10,m10⟩ :=
 fc tabs28OK [] an10 Tryz.f10 fun x=>by kernel_rfl
def tabs10:Tabs:=Tabs.add tabs28 10 ⟨as10,rs10,m10⟩
theorem tabs10OK:TabOK Tryz.prog tabs10:=TabOK.add tabs28OK c10 Tryz.call10

/-! putlog/network.Apart -/
def as11:List Ty:=[(.pair tI (.pair (.list (.pair tI tB)) (.list tC))),tI,tI]
def rs11:List Ty:=[(.pair tI tB),tI]
def an11:Ann:=.a
def m11:((Int×(List (Int×Int×Int×Int))×List (Int×Int×Int×Int×Int))×Int×Int)→Option ((Int×Int×Int×Int)×Int) :=
 fun x=>(m17 (x.1.1,x.1.2.1,x.1.2.2)).bind fun r=>(bif PE.notM (PE.notM r) then m27 (x.2.1,0,wrap .i64 (x.1.1-1)) else some false).bind fun r_1
 => (bif PE.notM (PE.orM (PE.notM r) (PE.notM r_1)) then m27 (x.2.2,0,wrap .i64 (x.1.1-1)) else some false).bind fun r_2=>bif PE.orM (PE.orM
 (PE.notM r) (PE.notM r_1)) (PE.notM r_2) then some ((0,0,0,0),100) else (m28 ((x.1.1,x.1.2.1,x.1.2.2),x.2.1,x.2.2)).bind fun r=>some ((r.1.1,
 r.1.2.1,r.1.2.2.1,r.1.2.2.2),r.2)
theorem c11:SpecOK Tryz.prog 11 ⟨as11,rs11,m11⟩ :=
 fc tabs10OK [] an11 Tryz.f11 fun x=>by kernel_rfl
def tabs11:Tabs:=Tabs.add tabs10 11 ⟨as11,rs11,m11⟩
theorem tabs11OK:TabOK Tryz.prog tabs11:=TabOK.add tabs10OK c11 Tryz.call11

/-! putlog/network.gcd -/
def as31:List Ty:=[tI,tI]
def rs31:List Ty:=[tI]
def an31:Ann:=.seq (.a) (.seq (.block (.loop ⟨[(0,.r (.c (.d (.d tI)))),(1,.r (.c (.d (.d tI))))],(ra 5 6 ([])),[],[]⟩ [(.exit 0,⟨[(0,.r (.c (.d (.d tI))))],(1::ra 5 6 ([])),[],[]⟩)] (.seq (.a) (.block (.reg [0,0,0,6,3,31] (ra 0 6 ([])) (za 6 ([])) (.a)))))) (.a))
def m31:(Int×Int)→Option (Int) :=
 fun x=>(loopM (fun (s:Int×Int)=>bif PE.notM (eqM s.2 0) then (remM s.1 s.2).bind fun r=>some (Sum.inl (s.2,r)) else some (Sum.inr s.1)) (x.1,
 x.2)).bind fun o=>some (max o (wrap .i64 (negM o)))
theorem c31:SpecOK Tryz.prog 31 ⟨as31,rs31,m31⟩ :=
 fc tabs11OK [] an31 Tryz.f31 fun x=>by kernel_rfl
def tabs31:Tabs:=Tabs.add tabs11 31 ⟨as31,rs31,m31⟩
theorem tabs31OK:TabOK Tryz.prog tabs31:=TabOK.add tabs11OK c31 Tryz.call31

/-! putlog/network.Least -/
def as12:List Ty:=[(.pair tI (.pair (.list (.pair tI tB)) (.list tC)))]
def rs12:List Ty:=[(.pair tL (.pair tL tI)),tI]
def an12_0:Ann:=.seq (.a) (.seq (.a) (.seq (.reg [0,0,1,7,15,31,1,127,255] (ra 0 9 ([])) [z0,z0,.s [3] [],.s [3] [],.s [3] [],z0,.s [3] [],.s [3] [],.s [3] [3]] (.a)) (.seq (.reg [0,1,3,7,0,16,63,1,255,511] (ra 0 10 ([])) [z0,.s [3] [],.s [3] [],.s [3] [],z0,.s [9] [],z0,.s [3] [],.s [3] [],.s [3] [3]] (.a)) (.seq (.reg [0,1,3,7,0,16,63,1,255,511] (ra 0 10 ([])) [z0,.s [3] [],.s [3] [],.s [3] [],z0,.s [9] [],z0,.s [3] [],.s [3] [],.s [3] [3]] (.a)) (.seq (.a) (.cond (.reg [0,0,1,7,15,31,1,127,255] (ra 0 9 ([])) [z0,z0,.s [3] [],.s [3] [],.s [3] [],z0,.s [3] [],.s [3] [],.s [3] [3]] (.a)) (.a)))))))
def an12_1:Ann:=.call [] [] (.seq (.a) (.block (.seq (.reg [] [] [.s [4] [],z0,.s [8] [],z0,.s [8] [],z0,.s [8] [],.r] (.call [] [(.norm,⟨[(17,.t [])],[],[(3,.flat 80 tI)],[]⟩)] an12_0 (.a))) (.reg [] [] [.s [4] [],z0,.s [8] [],z0,.s [8] [],z0,z0,.s [8] [],z0,z0,z0,.s [8] [],z0,z0,.r] (.call [] [(.norm,⟨[(32,.t [])],[],[(3,.flat 80 tI)],[]⟩)] an12_0 (.a)))))) (.a)
def an12:Ann:=.seq (.a) (.seq (.a) (.seq (.reg [] [] [.s [0] [],.r,z0] (.call [] [] (.seq (.a) (.seq (.a) (.seq (.a) (.seq (.seq (.reg [] [] [.s [2] [],.r] (.call [] [] (.seq (.a) (.a)) (.a))) (.block (.call [] [] (.seq (.seq (.a) (.block (.loop ⟨[(10,.r (.c (.d (.d tI))))],(4::ra 11 19 ([])),[(3,.flat 80 tI),(6,.lp .ready)],[]⟩ [(.exit 0,⟨[],(4::ra 10 20 ([])),[(3,.flat 80 tI),(6,.lp .ready)],[]⟩)] (.seq (.a) (.seq (.a) (.seq (.block (.seq (.a) (.seq (.reg [] [] [z0,z0,.s [7] [],z0,.s [7] [],z0,z0,.s [5] [],z0,.s [7] [],z0,.s [7] [],z0,.r,z0] an12_1) (.a)))) (.a))))))) (.seq (.a) (.block (.loop ⟨[(33,.r (.c (.d (.d tI))))],(6::ra 34 19 ([])),[(3,.flat 80 tI),(6,.lp .ready)],[]⟩ [(.exit 2,⟨[],(6::ra 33 20 ([])),[(3,.flat 80 tI),(6,.lp .ready)],[]⟩)] (.seq (.a) (.seq (.a) (.seq (.block (.seq (.a) (.seq (.reg [] [] [z0,z0,.s [7] [],z0,.s [7] [],z0,z0,.s [7] [],z0,.s [7] [],z0,.s [7] [],z0,.r,z0] an12_1) (.a)))) (.a)))))))) (.a)))) (.a))))) (.a))) (.seq (.reg [] [] [z0,z0,.s [0] [],.r,z0] (.call [] [(.norm,⟨[(19,.r (.c (.d (.d tI))))],[],[(3,.flat 80 tI)],[]⟩)] (.seq (.a) (.seq (.a) (.seq (.seq (.a) (.block (.loop ⟨[(5,.r (.c (.d (.d tI)))),(12,.r (.c (.d (.d tI))))],(6::7::8::9::10::ra 13 99 ([])),[(3,.flat 80 tI)],[]⟩ [(.exit 0,⟨[(5,.r (.c (.d (.d tI))))],(6::7::8::9::10::ra 12 100 ([])),[(3,.flat 80 tI)],[]⟩),(.ret,⟨[(4,.r (.c (.d (.d tI))))],(ra 5 6 (ra 12 100 ([]))),[(3,.flat 80 tI)],[]⟩)] (.seq (.a) (.seq (.a) (.seq (.block (.seq (.a) (.seq (.a) (.seq (.block (.loop ⟨[(7,.r (.c (.d (.d tI))))],(ra 16 15 ([])),[],[]⟩ [(.exit 2,⟨[(7,.r (.c (.d (.d tI))))],(ra 16 15 ([])),[],[]⟩)] (.a))) (.seq (.a) (.seq (.reg [0,0,0,0,0,0,16,112,240,0,0,512,3584,7680,1,32755,65523,4,262143,524287] (ra 0 20 ([])) (za 7 (.s [3] []::.s [3] []::za 3 (.s [3] []::.s [3] []::z0::.s [3] []::.s [3] [3]::z0::.s [3] []::.s [3] [3]::[]))) (.a)) (.seq (.seq (.a) (.block (.loop ⟨[(53,.r (.c (.d (.d tI))))],(8::9::10::ra 54 50 ([])),[(3,.flat 80 tI)],[]⟩ [(.exit 4,⟨[],(8::9::10::ra 53 51 ([])),[(3,.flat 80 tI)],[]⟩)] (.seq (.a) (.seq (.a) (.seq (.join [(.norm,⟨[],(8::9::10::ra 55 48 ([])),[(3,.flat 80 tI)],[]⟩)] (.block (.seq (.a) (.seq (.a) (.seq (.a) (.seq (.a) (.block (.loop ⟨[(66,.r (.c (.d (.d tI))))],(10::ra 67 36 ([])),[(3,.flat 80 tI)],[]⟩ [(.exit 6,⟨[],(10::ra 66 37 ([])),[(3,.flat 80 tI)],[]⟩)] (.seq (.a) (.seq (.a) (.seq (.block (.seq (.a) (.reg [0,0,0,0,0,0,8,88,248,504,0,0,0,1024,11264,31744,64512,131064,0,0,0,0,524288,5767168,16252928,33030144,66846720,134217720,0,536870904,1,1073741827,4294967295,8589934591] (ra 0 34 ([])) (za 7 (.s [3] []::.s [3] []::.s [3] []::za 4 (.s [3] []::.s [3] []::.s [3] []::za 6 (.s [3] []::.s [3] []::.s [3] []::za 5 (.s [3] []::.s [3] []::.s [3] [3]::[]))))) (.a)))) (.a)))))))))))) (.a))))))) (.a)))))))) (.a))))))) (.a)))) (.a))) (.seq (.a) (.seq (.a) (.seq (.a) (.seq (.seq (.a) (.block (.loop ⟨[(7,.r (.c (.d (.d tI)))),(28,.r (.c (.d (.d tI))))],(8::ra 29 38 ([])),[(7,.box [.h 8,.h 9,.d (.d tI)])],[.arr tI,.arr tI]⟩ [(.exit 0,⟨[(7,.r (.c (.d (.d tI))))],(8::ra 28 39 ([])),[(7,.box [.h 8,.h 9,.d (.d tI)])],[.arr tI,.arr tI]⟩)] (.seq (.a) (.seq (.a) (.seq (.block (.seq (.a) (.seq (.reg [0,1,0,0,4,28,60,124,252,511,1023,2047] (ra 0 12 ([])) (z0::.s [7] []::za 3 (.s [3] []::.s [3] []::.s [3] []::z0::.s [8] [10,8]::z0::.s [7,10] [7]::[])) (.a)) (.seq (.reg [0,1,0,0,4,28,60,124,252,511,1023,2047] (ra 0 12 ([])) (z0::.s [7] []::za 3 (.s [3] []::.s [3] []::.s [3] []::z0::.s [9] [11,9]::z0::.s [7,11] [7]::[])) (.a)) (.reg [0,0,2,0,14,30,63,0,128,0,896,1920,4095,8191] (ra 0 14 ([])) [z0,z0,.s [7] [],z0,.s [10] [],.s [10] [],z0,z0,.s [7] [],z0,.s [11] [],.s [11] [],z0,z0] (.a)))))) (.a))))))) (.seq (.join [(.norm,⟨[(7,.r (.c (.d (.d tI))))],[67,68,69,70],[],[]⟩)] (.a)) (.seq (.a) (.seq (.seq (.a) (.block (.loop ⟨[(78,.r (.c (.d (.d tI))))],(9::ra 79 19 ([])),[(8,.arr tI),(9,.arr tI)],[]⟩ [(.exit 2,⟨[],(9::ra 78 20 ([])),[(8,.arr tI),(9,.arr tI)],[]⟩)] (.a)))) (.a)))))))))))
def m12:(Int×(List (Int×Int×Int×Int))×List (Int×Int×Int×Int×Int))→Option ((List Int×List Int×Int)×Int) :=
 fun x=>(m17 (x.1,x.2.1,x.2.2)).bind fun r=>bif PE.notM r then some (([],[],0),100) else (loopM (fun (s:Int×List Int)=>bif ltM s.1 (lenM x.2.1)
 then (idxM x.2.1 s.1).bind fun r_1=>(bif eqM r_1.1 x.1 then some s.2 else (chkM r_1.1 ↑(nat_lit 8)).bind fun r_2=>(chkM r_1.1 ↑(nat_lit 10)).bind fun r_3
 => (idxM s.2 (↑(nat_lit 0)+r_1.1*↑(nat_lit 10)+r_1.1*↑(nat_lit 1))).bind fun r_4=>(chkM r_1.1 ↑(nat_lit 8)).bind fun r_5=>(chkM r_1.1 ↑(nat_lit
 10)).bind fun r_6=>(setM s.2 (↑(nat_lit 0)+r_1.1*↑(nat_lit 10)+r_1.1*↑(nat_lit 1)) fun (x:Int)=>some (wrap .i64 (r_4+1))).bind fun r_7
 => (chkM r_1.1 ↑(nat_lit 8)).bind fun r_8=>(idxM r_7 (↑(nat_lit 0)+r_1.1*↑(nat_lit 10)+8)).bind fun r_9=>(chkM r_1.1 ↑(nat_lit 8)).bind fun r_10 =>
 (setM r_7 (↑(nat_lit 0)+r_1.1*↑(nat_lit 10)+8) fun (x:Int)=>some (wrap .i64 (r_9+r_1.2.1))).bind fun r_11=>(chkM r_1.1 ↑(nat_lit 8)).bind
 fun r_12=>(idxM r_11 (↑(nat_lit 0)+r_1.1*↑(nat_lit 10)+9)).bind fun r_13=>(chkM r_1.1 ↑(nat_lit 8)).bind fun r_14=>(setM r_11 (↑(nat_lit 0) +
 r_1.1*↑(nat_lit 10)+9) fun (x:Int)=>some (wrap .i64 (r_13+r_1.2.2.1))).bind fun r_15=>bif ltM x.1 x.1 then (chkM r_1.1 ↑(nat_lit 8)).bind
 fun r_16=>(chkM x.1 ↑(nat_lit 10)).bind fun r_17=>(idxM r_15 (↑(nat_lit 0)+r_1.1*↑(nat_lit 10)+x.1*↑(nat_lit 1))).bind fun r_18=>(chkM r_1.1
 ↑(nat_lit 8)).bind fun r_19=>(chkM x.1 ↑(nat_lit 10)).bind fun r_20=>(setM r_15 (↑(nat_lit 0)+r_1.1*↑(nat_lit 10)+x.1*↑(nat_lit 1)) fun (x:Int)
 => some (wrap .i64 (r_18-1))).bind fun r=>some r else some r_15).bind fun (ov:List Int)=>(bif eqM x.1 x.1 then some ov else (chkM x.1 ↑(nat_lit
 8)).bind fun r_2=>(chkM x.1 ↑(nat_lit 10)).bind fun r_3=>(idxM ov (↑(nat_lit 0)+x.1*↑(nat_lit 10)+x.1*↑(nat_lit 1))).bind fun r_4=>(chkM x.1
 ↑(nat_lit 8)).bind fun r_5=>(chkM x.1 ↑(nat_lit 10)).bind fun r_6=>(setM ov (↑(nat_lit 0)+x.1*↑(nat_lit 10)+x.1*↑(nat_lit 1)) fun (x:Int) =>
 some (wrap .i64 (r_4+1))).bind fun r_7=>(chkM x.1 ↑(nat_lit 8)).bind fun r_8=>(idxM r_7 (↑(nat_lit 0)+x.1*↑(nat_lit 10)+8)).bind fun r_9 =>
 (chkM x.1 ↑(nat_lit 8)).bind fun r_10=>(setM r_7 (↑(nat_lit 0)+x.1*↑(nat_lit 10)+8) fun (x:Int)=>some (wrap .i64 (r_9+wrap IntKind.i64
 (negM r_1.2.1)))).bind fun r_11=>(chkM x.1 ↑(nat_lit 8)).bind fun r_12=>(idxM r_11 (↑(nat_lit 0)+x.1*↑(nat_lit 10)+9)).bind fun r_13=>(chkM x.1
 ↑(nat_lit 8)).bind fun r_14=>(setM r_11 (↑(nat_lit 0)+x.1*↑(nat_lit 10)+9) fun (x:Int)=>some (wrap .i64 (r_13+wrap .i64 (negM
 r_1.2.2.1)))).bind fun r_15=>bif ltM r_1.1 x.1 then (chkM x.1 ↑(nat_lit 8)).bind fun r_16=>(chkM r_1.1 ↑(nat_lit 10)).bind fun r_17=>(idxM r_15
 (↑(nat_lit 0)+x.1*↑(nat_lit 10)+r_1.1*↑(nat_lit 1))).bind fun r_18=>(chkM x.1 ↑(nat_lit 8)).bind fun r_19=>(chkM r_1.1 ↑(nat_lit 10)).bind fun
 r_20=>(setM r_15 (↑(nat_lit 0)+x.1*↑(nat_lit 10)+r_1.1*↑(nat_lit 1)) fun (x:Int)=>some (wrap .i64 (r_18-1))).bind fun r=>some r else
 some r_15).bind fun (ov:List Int)=>some (Sum.inl (wrap .i64 (s.1+1),ov)) else some (Sum.inr s.2)) (0,[0,0,0,0,0,0,0,0,0,0,0,0,0,0,
 0,0,0,0,0,0,0,0,0,0,0,0,0,0,0,0,0,0,0,0,0,0,0,0,0,0,0,0,0,0,0,0,0,0,0,0,0,0,0,0,0,0,0,0,0,0,0,0,0,0,0,0,0,
 0,0,0,0,0,0,0,0,0,0,0,0,0])).bind fun o=>(loopM (fun (s:Int×List Int)=>bif ltM s.1 (lenM x.2.2) then (idxM x.2.2 s.1).bind fun r_1=>(bif
 eqM r_1.2.1 x.1 then some s.2 else (chkM r_1.2.1 ↑(nat_lit 8)).bind fun r_2=>(chkM r_1.2.1 ↑(nat_lit 10)).bind fun r_3=>(idxM s.2 (↑(nat_lit 0)+r_1.2.1
 * ↑(nat_lit 10)+r_1.2.1*↑(nat_lit 1))).bind fun r_4=>(chkM r_1.2.1 ↑(nat_lit 8)).bind fun r_5=>(chkM r_1.2.1 ↑(nat_lit 10)).bind fun r_6=>(setM s.2
 (↑(nat_lit 0)+r_1.2.1*↑(nat_lit 10)+r_1.2.1*↑(nat_lit 1)) fun (x:Int)=>some (wrap .i64 (r_4+1))).bind fun r_7=>(chkM r_1.2.1 ↑(nat_lit
 8)).bind fun r_8=>(idxM r_7 (↑(nat_lit 0)+r_1.2.1*↑(nat_lit 10)+8)).bind fun r_9=>(chkM r_1.2.1 ↑(nat_lit 8)).bind fun r_10=>(setM r_7 (↑(nat_lit
 0)+r_1.2.1*↑(nat_lit 10)+8) fun (x:Int)=>some (wrap .i64 (r_9+r_1.2.2.1))).bind fun r_11=>(chkM r_1.2.1 ↑(nat_lit 8)).bind fun r_12 =>
 (idxM r_11 (↑(nat_lit 0)+r_1.2.1*↑(nat_lit 10)+9)).bind fun r_13=>(chkM r_1.2.1 ↑(nat_lit 8)).bind fun r_14=>(setM r_11 (↑(nat_lit 0)+r_1.2.1 *
 ↑(nat_lit 10)+9) fun (x:Int)=>some (wrap .i64 (r_13+r_1.2.2.2.1))).bind fun r_15=>bif ltM r_1.1 x.1 then (chkM r_1.2.1 ↑(nat_lit 8)).bind fun
 r_16=>(chkM r_1.1 ↑(nat_lit 10)).bind fun r_17=>(idxM r_15 (↑(nat_lit 0)+r_1.2.1*↑(nat_lit 10)+r_1.1*↑(nat_lit 1))).bind fun r_18=>(chkM r_1.2.1
 ↑(nat_lit 8)).bind fun r_19=>(chkM r_1.1 ↑(nat_lit 10)).bind fun r_20=>(setM r_15 (↑(nat_lit 0)+r_1.2.1*↑(nat_lit 10)+r_1.1*↑(nat_lit 1)) fun (x :
 Int)=>some (wrap .i64 (r_18-1))).bind fun r=>some r else some r_15).bind fun (ov:List Int)=>(bif eqM r_1.1 x.1 then some ov else (chkM r_1.1
 ↑(nat_lit 8)).bind fun r_2=>(chkM r_1.1 ↑(nat_lit 10)).bind fun r_3=>(idxM ov (↑(nat_lit 0)+r_1.1*↑(nat_lit 10)+r_1.1*↑(nat_lit 1))).bind fun r_4
 => (chkM r_1.1 ↑(nat_lit 8)).bind fun r_5=>(chkM r_1.1 ↑(nat_lit 10)).bind fun r_6=>(setM ov (↑(nat_lit 0)+r_1.1*↑(nat_lit 10)+r_1.1*↑(nat_lit 1))
 fun (x:Int)=>some (wrap .i64 (r_4+1))).bind fun r_7=>(chkM r_1.1 ↑(nat_lit 8)).bind fun r_8=>(idxM r_7 (↑(nat_lit 0)+r_1.1*↑(nat_lit 10)
 + 8)).bind fun r_9=>(chkM r_1.1 ↑(nat_lit 8)).bind fun r_10=>(setM r_7 (↑(nat_lit 0)+r_1.1*↑(nat_lit 10)+8) fun (x:Int)=>some (wrap IntKind.i64
 (r_9+wrap .i64 (negM r_1.2.2.1)))).bind fun r_11=>(chkM r_1.1 ↑(nat_lit 8)).bind fun r_12=>(idxM r_11 (↑(nat_lit 0)+r_1.1*↑(nat_lit 10) +
 9)).bind fun r_13=>(chkM r_1.1 ↑(nat_lit 8)).bind fun r_14=>(setM r_11 (↑(nat_lit 0)+r_1.1*↑(nat_lit 10)+9) fun (x:Int)=>some (wrap IntKind.i64
 (r_13+wrap .i64 (negM r_1.2.2.2.1)))).bind fun r_15=>bif ltM r_1.2.1 x.1 then (chkM r_1.1 ↑(nat_lit 8)).bind fun r_16=>(chkM r_1.2.1 ↑(nat_lit
 10)).bind fun r_17=>(idxM r_15 (↑(nat_lit 0)+r_1.1*↑(nat_lit 10)+r_1.2.1*↑(nat_lit 1))).bind fun r_18=>(chkM r_1.1 ↑(nat_lit 8)).bind fun r_19 =>
 (chkM r_1.2.1 ↑(nat_lit 10)).bind fun r_20=>(setM r_15 (↑(nat_lit 0)+r_1.1*↑(nat_lit 10)+r_1.2.1*↑(nat_lit 1)) fun (x:Int)=>some (wrap
 IntKind.i64 (r_18-1))).bind fun r=>some r else some r_15).bind fun (ov:List Int)=>some (Sum.inl (wrap .i64 (s.1+1),ov)) else some (Sum.inr
 s.2)) (0,o)).bind fun o_1=>((loopM (fun (s:Int×Int×List Int)=>bif ltM s.2.1 x.1 then (loopM (fun (s_1:Int)=>(bif ltM s_1 x.1 then chkM s_1
 ↑(nat_lit 8) else some ()).bind fun r_1=>(bif ltM s_1 x.1 then chkM s.2.1 ↑(nat_lit 10) else some ()).bind fun r_2=>(bif ltM s_1 x.1 then idxM s.2.2
 (↑(nat_lit 0)+s_1*↑(nat_lit 10)+s.2.1*↑(nat_lit 1)) else some 0).bind fun r=>bif PE.andM (ltM s_1 x.1) (eqM r 0) then some (Sum.inl (wrap
 IntKind.i64 (s_1+1))) else some (Sum.inr s_1)) s.2.1).bind fun o_2=>bif eqM o_2 x.1 then some (Sum.inr (Sum.inr (0,s.2.2))) else (chkM s.2.1 ↑(nat_lit
 8)).bind fun r_1=>(sliceM s.2.2 (↑(nat_lit 0)+s.2.1*↑(nat_lit 10)) (↑(nat_lit 0)+s.2.1*↑(nat_lit 10)+↑(nat_lit 10))).bind fun r_2=>(chkM o_2
 ↑(nat_lit 8)).bind fun r_3=>(sliceM s.2.2 (↑(nat_lit 0)+o_2*↑(nat_lit 10)) (↑(nat_lit 0)+o_2*↑(nat_lit 10)+↑(nat_lit 10))).bind fun r_4=>(chkM
 o_2 ↑(nat_lit 8)).bind fun r_5=>(putM s.2.2 (↑(nat_lit 0)+o_2*↑(nat_lit 10)) [nthD r_2 (nat_lit 0) 0,nthD r_2 (nat_lit 1) 0,nthD r_2 (nat_lit 2) 0,
 nthD r_2 (nat_lit 3) 0,nthD r_2 (nat_lit 4) 0,nthD r_2 (nat_lit 5) 0,nthD r_2 (nat_lit 6) 0,nthD r_2 (nat_lit 7) 0,nthD r_2 (nat_lit 8) 0,nthD r_2
 (nat_lit 9) 0]).bind fun r_6=>(chkM s.2.1 ↑(nat_lit 8)).bind fun r_7=>(putM r_6 (↑(nat_lit 0)+s.2.1*↑(nat_lit 10)) [nthD r_4 (nat_lit 0) 0,nthD r_4
 (nat_lit 1) 0,nthD r_4 (nat_lit 2) 0,nthD r_4 (nat_lit 3) 0,nthD r_4 (nat_lit 4) 0,nthD r_4 (nat_lit 5) 0,nthD r_4 (nat_lit 6) 0,nthD r_4 (nat_lit 7) 0,
 nthD r_4 (nat_lit 8) 0,nthD r_4 (nat_lit 9) 0]).bind fun r_8=>(loopM (fun (s_1:Int×List Int)=>bif ltM s_1.1 x.1 then (bif eqM s_1.1 s.2.1 then some
 s_1.2 else (chkM s_1.1 ↑(nat_lit 8)).bind fun r_9=>(chkM s.2.1 ↑(nat_lit 10)).bind fun r_10=>(idxM s_1.2 (↑(nat_lit 0)+s_1.1*↑(nat_lit 10)+s.2.1 *
 ↑(nat_lit 1))).bind fun r_11=>(loopM (fun (s_2:Int×List Int)=>bif ltM s_2.1 10 then (chkM s_1.1 ↑(nat_lit 8)).bind fun r_12=>(chkM s_2.1 ↑(nat_lit
 10)).bind fun r_13=>(idxM s_2.2 (↑(nat_lit 0)+s_1.1*↑(nat_lit 10)+s_2.1*↑(nat_lit 1))).bind fun r_14=>(chkM s.2.1 ↑(nat_lit 8)).bind fun r_15 =>
 (chkM s.2.1 ↑(nat_lit 10)).bind fun r_16=>(idxM s_2.2 (↑(nat_lit 0)+s.2.1*↑(nat_lit 10)+s.2.1*↑(nat_lit 1))).bind fun r_17=>(chkM s.2.1 ↑(nat_lit
 8)).bind fun r_18=>(chkM s_2.1 ↑(nat_lit 10)).bind fun r_19=>(idxM s_2.2 (↑(nat_lit 0)+s.2.1*↑(nat_lit 10)+s_2.1*↑(nat_lit 1))).bind fun r_20 =>
 (divM .i64 (wrap .i64 (wrap .i64 (r_14*r_17)-wrap .i64 (r_11*r_20))) s.1).bind fun r_21=>(chkM s_1.1 ↑(nat_lit 8)).bind
 fun r_22=>(chkM s_2.1 ↑(nat_lit 10)).bind fun r_23=>(setM s_2.2 (↑(nat_lit 0)+s_1.1*↑(nat_lit 10)+s_2.1*↑(nat_lit 1)) fun (x:Int)=>some
 r_21).bind fun r=>some (Sum.inl (wrap .i64 (s_2.1+1),r)) else some (Sum.inr s_2.2)) (0,s_1.2)).bind fun o=>some o).bind fun o=>some (Sum.inl
 (wrap .i64 (s_1.1+1),o)) else some (Sum.inr s_1.2)) (0,r_8)).bind fun o_3=>(chkM s.2.1 ↑(nat_lit 8)).bind fun r_9=>(chkM s.2.1 ↑(nat_lit
 10)).bind fun r_10=>(idxM o_3 (↑(nat_lit 0)+s.2.1*↑(nat_lit 10)+s.2.1*↑(nat_lit 1))).bind fun r=>some (Sum.inl (r,wrap .i64 (s.2.1+1),
 o_3)) else some (Sum.inr (Sum.inl (s.1,s.2.2)))) (1,0,o_1)).bind fun o=>Sum.elim (fun (t:Int×List Int)=>some (t.1,t.2)) (fun (t:Int×List Int)
 => some (t.1,t.2)) o).bind fun (ov:Int×List Int)=>bif eqM ov.1 0 then some (([],[],0),100) else (loopM (fun (s:Int×Int×Int×List Int×List
 Int)=>bif ltM s.2.1 x.1 then (chkM s.2.1 ↑(nat_lit 8)).bind fun r_1=>(idxM ov.2 (↑(nat_lit 0)+s.2.1*↑(nat_lit 10)+8)).bind fun r_2=>(appM (nat_lit
 8) s.2.2.2.1 [r_2]).bind fun r_3=>(chkM s.2.1 ↑(nat_lit 8)).bind fun r_4=>(idxM ov.2 (↑(nat_lit 0)+s.2.1*↑(nat_lit 10)+9)).bind fun r_5=>(appM
 (nat_lit 8) s.2.2.2.2 [r_5]).bind fun r_6=>(chkM s.2.1 (lenM r_3)).bind fun r_7=>(idxM r_3 s.2.1).bind fun r_8=>(m31 (s.1,r_8)).bind fun r_9=>(chkM
 s.2.1 (lenM r_6)).bind fun r_10=>(idxM r_6 s.2.1).bind fun r_11=>(m31 (r_9,r_11)).bind fun r=>some (Sum.inl (r,wrap .i64 (s.2.1+1),s.2.2.1,
 r_3,r_6)) else some (Sum.inr (s.1,s.2.2.1,s.2.2.2.1,s.2.2.2.2))) (ov.1,0,ov.1,[],[])).bind fun o_2=>(bif ltM ov.1 0 then some (wrap IntKind.i64
 (negM o_2.1)) else some o_2.1).bind fun o_3=>(divM .i64 o_2.2.1 o_3).bind fun r_1=>(loopM (fun (s:Int×List Int×List Int)=>bif ltM s.1 x.1
 then (chkM s.1 (lenM s.2.1)).bind fun r_2=>(idxM s.2.1 s.1).bind fun r_3=>(divM .i64 r_3 o_3).bind fun r_4=>(chkM s.1 (lenM s.2.1)).bind fun r_5
 => (setM s.2.1 s.1 fun (x:Int)=>some r_4).bind fun r_6=>(chkM s.1 (lenM s.2.2)).bind fun r_7=>(idxM s.2.2 s.1).bind fun r_8=>(divM .i64 r_8
 o_3).bind fun r_9=>(chkM s.1 (lenM s.2.2)).bind fun r_10=>(setM s.2.2 s.1 fun (x:Int)=>some r_9).bind fun r=>some (Sum.inl (wrap .i64 (s.1 +
 1),r_6,r)) else some (Sum.inr (s.2.1,s.2.2))) (0,o_2.2.2.1,o_2.2.2.2)).bind fun o=>some ((o.1,o.2,r_1),0)
theorem c12:SpecOK Tryz.prog 12 ⟨as12,rs12,m12⟩ :=
 fc tabs31OK [] an12 Tryz.f12 fun x=>by kernel_rfl
def tabs12:Tabs:=Tabs.add tabs31 12 ⟨as12,rs12,m12⟩
theorem tabs12OK:TabOK Tryz.prog tabs12:=TabOK.add tabs31OK c12 Tryz.call12
end
noncomputable section

/-! putlog/between.walks$1$1 -/
def as86:List Ty:=[tI,tI]
def rs86:List Ty:=[tI]
def an86:Ann:=.a
def m86:(Int×Int)→Option (Int) :=
 fun x=>some 1152921504606846976
theorem c86:SpecOK Tryz.prog 86 ⟨as86,rs86,m86⟩ :=
 fc tabs12OK [] an86 Tryz.f86 fun x=>by kernel_rfl
def tabs86:Tabs:=Tabs.add tabs12 86 ⟨as86,rs86,m86⟩
theorem tabs86OK:TabOK Tryz.prog tabs86:=TabOK.add tabs12OK c86 Tryz.call86

/-! putlog/between.chain -/
def as62:List Ty:=[(.pair tI (.list tB)),(.list (.list tL)),tI,tI,tI,tI]
def rs62:List Ty:=[tL]
def an62:Ann:=.seq (.a) (.seq (.a) (.seq (.block (.loop ⟨[(13,.r (.c (.h 6)))],(ra 14 27 ([])),[(2,.box [.d (.d tI)]),(4,.box [.d (.d tI)]),(5,.box [.d (.d tI)])],[.arr tI]⟩ [(.exit 0,⟨[(13,.r (.c (.h 6)))],(ra 14 27 ([])),[(2,.box [.d (.d tI)]),(4,.box [.d (.d tI)]),(5,.box [.d (.d tI)])],[.arr tI]⟩)] (.seq (.a) (.seq (.block (.seq (.reg [] [] [z0,.s [0] [],z0,.r,z0] (.call [] [(.norm,⟨[(22,.r (.c (.d (.d tI))))],[],[],[]⟩)] (.seq (.a) (.seq (.seq (.a) (.block (.loop ⟨[(8,.r (.c (.d (.d tI))))],(5::ra 9 8 (18::[])),[],[]⟩ [(.exit 0,⟨[],(5::ra 8 9 (18::[])),[],[]⟩),(.ret,⟨[(4,.r (.c (.d (.d tI))))],(5::ra 8 11 ([])),[],[]⟩)] (.seq (.a) (.seq (.a) (.seq (.block (.seq (.a) (.seq (.reg [] [] [z0,z0,z0,z0,z0,.r] (.call [] [] (.seq (.a) (.seq (.reg [0,1,0,7,15,31,63,31,31,287,927,1951,31,4127,16287,32671,31,130975,262047,524287,31,2097151,4194303,8388607] (ra 0 24 ([])) (z0::.s [7] []::.s [2] []::za 3 (.s [7] []::.s [1] []::.s [4] []::za 4 (.s [7] []::z0::z0::.s [3] []::za 3 (.s [5] []::za 3 ([]))))) (.a)) (.a))) (.a))) (.a)))) (.a))))))) (.a))) (.a))) (.seq (.reg [0,1,0,7,15,31,0,0,128,0,896,1920,3968,8128,63,32767] (ra 0 16 ([])) (z0::.s [0] []::za 4 (.s [5] []::z0::.s [0] []::za 5 (.s [2] [2]::.s [5] [5]::[]))) (.a)) (.a)))) (.a))))) (.a)))
def m62:((Int×List (Int×Int×Int))×List (List (List Int))×Int×Int×Int×Int)→Option (List Int) :=
 fun x=>(loopM (fun (s:Int×Int×Int×List Int)=>bif ltM 0 s.2.1 then ((loopM (fun (s_1:Int)=>bif ltM s_1 (lenM x.1.2) then (idxM x.1.2 s_1).bind
 fun r=>(bif eqM r.1 s.1 then idxM x.2.1 (wrap .i64 (s.2.1-1)) else some []).bind fun r_1=>(bif eqM r.1 s.1 then idxM r_1 r.2.1 else some []).bind
 fun r_2=>(bif eqM r.1 s.1 then idxM r_2 x.2.2.2.1 else some 0).bind fun r_3=>(bif eqM r.1 s.1 then m61 (r.2.2,r_3) else some 0).bind fun r_4=>bif
 PE.andM (eqM r.1 s.1) (leM r_4 s.2.2.1) then some (Sum.inr (Sum.inr s_1)) else some (Sum.inl (wrap .i64 (s_1+1))) else some (Sum.inr (Sum.inl ())))
 0).bind fun o=>Sum.elim (fun (t:Unit)=>some (-1)) (fun (t:Int)=>some t) o).bind fun (ov:Int)=>(idxM x.1.2 ov).bind fun r=>(idxM x.1.2 ov).bind
 fun r_1=>(appM (nat_lit 8) s.2.2.2 [ov]).bind fun r_2=>some (Sum.inl (r.2.1,wrap .i64 (s.2.1-1),wrap .i64 (s.2.2.1-r_1.2.2),r_2))
 else some (Sum.inr (s.1,s.2.1,s.2.2.1,s.2.2.2))) (x.2.2.1,x.2.2.2.2.1,x.2.2.2.2.2,[])).bind fun o=>some o.2.2.2
theorem c62:SpecOK Tryz.prog 62 ⟨as62,rs62,m62⟩ :=
 fc tabs86OK [] an62 Tryz.f62 fun x=>by kernel_rfl
def tabs62:Tabs:=Tabs.add tabs86 62 ⟨as62,rs62,m62⟩
theorem tabs62OK:TabOK Tryz.prog tabs62:=TabOK.add tabs86OK c62 Tryz.call62

/-! putlog/between.Cycle -/
def as33:List Ty:=[(.pair tI (.list tB))]
def rs33:List Ty:=[tL,.bool]
def an33:Ann:=.seq (.a) (.seq (.a) (.seq (.a) (.seq (.a) (.seq (.seq (.reg [] [] [.s [0] [],.r] (.call [] [] (.seq (.a) (.a)) (.a))) (.block (.call [] [] (.seq (.a) (.block (.loop ⟨[(3,.r (.c (.d (.d (.list tL)))))],(4::6::7::ra 11 48 ([])),[(3,.box [.h 6]),(5,.lp .ready)],[.arr (.list tL)]⟩ [(.exit 0,⟨[],(3::4::6::7::ra 11 48 ([])),[(1,.box [.d (.d tL)]),(2,.box [.d (.d .bool)]),(3,.box [.d (.d (.list (.list tL)))]),(5,.lp (.done .ret))],[]⟩)] (.seq (.seq (.reg [] [] [z0,z0,.r] (.call [] [] (.seq (.a) (.block (.seq (.a) (.seq (.a) (.seq (.a) (.block (.loop ⟨[(33,.r (.c (.d (.d tI))))],(9::10::ra 34 25 (74::[])),[],[]⟩ [(.exit 2,⟨[],(9::10::ra 33 26 (74::[])),[],[]⟩),(.ret,⟨[],(9::10::ra 33 42 ([])),[(1,.box [.d (.d tL)]),(2,.box [.d (.d .bool)]),(7,.frz (.list tL))],[]⟩)] (.seq (.a) (.seq (.a) (.seq (.block (.seq (.a) (.seq (.reg [0,1,3,7,15,7,7,71,231,487,7,1031,4071,8167,7,16391,65511,131047,262143,524287,1048575] (ra 0 21 ([])) (za 4 (.s [8] []::.s [3] []::z0::z0::.s [7] []::.s [7] []::z0::.s [8] []::za 3 (.s [8] []::za 5 ([])))) (.a)) (.a)))) (.a))))))))))) (.a))) (.a)) (.block (.seq (.reg [] [] [z0,.s [4] [],.r,z0] (.call [9] [] (.seq (.a) (.seq (.a) (.seq (.seq (.a) (.block (.loop ⟨[(11,.r (.c (.d (.d tI))))],(6::7::ra 12 21 ([])),[(8,.tab tI 10),(9,.gone)],[.us]⟩ [(.exit 0,⟨[],(6::7::ra 11 22 ([])),[(8,.tab tI 10),(9,.gone)],[.us]⟩)] (.seq (.a) (.seq (.a) (.seq (.block (.seq (.a) (.seq (.a) (.block (.loop ⟨[(15,.r (.c (.d (.d tI))))],(7::ra 16 16 ([])),[(8,.tab tI 11),(10,.gone)],[.us]⟩ [(.exit 2,⟨[],(7::ra 15 17 ([])),[(8,.tab tI 11),(10,.gone)],[.us]⟩)] (.seq (.a) (.seq (.a) (.seq (.block (.seq (.a) (.reg [0,0,0,0,12,28,0,0,0,448,960,2044,4095,8191] (ra 0 14 ([])) (za 4 (.s [8] []::.s [8] []::za 5 (.s [8] [8]::.s [8] []::.s [8,8] [8]::[]))) (.a)))) (.a))))))))) (.a))))))) (.a)))) (.a))) (.seq (.seq (.a) (.block (.loop ⟨[(20,.r (.c (.d (.d tI))))],(6::7::ra 21 37 ([])),[(8,.tab tI 10)],[]⟩ [(.exit 2,⟨[],(6::7::ra 20 38 ([])),[(8,.tab tI 10)],[]⟩)] (.seq (.a) (.seq (.a) (.seq (.block (.seq (.a) (.seq (.a) (.block (.loop ⟨[(26,.r (.c (.d (.d tI))))],(7::ra 27 30 ([])),[(8,.tab tI 10)],[]⟩ [(.exit 4,⟨[],(7::ra 26 31 ([])),[(8,.tab tI 10)],[]⟩)] (.seq (.a) (.seq (.a) (.seq (.block (.seq (.a) (.reg [0,0,3,7,0,16,0,0,192,448,0,1024,4032,8128,0,0,49152,114688,0,262144,1032192,2080768,0,4194304,16760832,33554368,67108863,134217727] (ra 0 28 ([])) (z0::z0::.s [8] []::.s [8] []::z0::.s [11] []::z0::z0::.s [8] []::.s [8] []::z0::.s [11] []::.s [8] []::.s [8] []::za 5 (.s [11] []::za 3 (.s [11] []::z0::z0::.s [8] []::.s [8] [8]::[]))) (.a)))) (.a))))))))) (.a))))))) (.a)))))))) (.a)))) (.a)))))
def m33:(Int×List (Int×Int×Int))→Option (List Int×Bool) :=
 fun x=>(m58 (x.1,x.2)).bind fun r=>bif PE.notM r then some ([],false) else (m59 (x.1,x.2)).bind fun r_1=>bif r_1.2 then some ([],false) else (m83
 x.1).bind fun r_2=>(loopM (fun (s:List (List Int)×List (List (List Int)))=>(appM (nat_lit 24) s.2 [s.1]).bind fun r_3=>(loopM (fun (s_1:Int) =>
 bif ltM s_1 (lenM x.2) then (idxM x.2 s_1).bind fun r_4=>(bif ltM 0 (wrap .i64 (lenM r_3-1)) then chkM (wrap .i64 (wrap .i64 (lenM
 r_3-1)-1)) (lenM r_3) else some ()).bind fun r_5=>(bif ltM 0 (wrap .i64 (lenM r_3-1)) then idxM r_3 (wrap .i64 (wrap .i64 (lenM
 r_3-1)-1)) else some []).bind fun r_6=>(bif ltM 0 (wrap .i64 (lenM r_3-1)) then idxM r_6 r_4.2.1 else some []).bind fun r_7=>(bif ltM 0 (wrap
 IntKind.i64 (lenM r_3-1)) then idxM r_7 r_4.1 else some 0).bind fun r_8=>(bif ltM 0 (wrap .i64 (lenM r_3-1)) then m61 (r_4.2.2,r_8) else some
 0).bind fun r_9=>bif PE.andM (ltM 0 (wrap .i64 (lenM r_3-1))) (ltM r_9 0) then (m62 ((x.1,x.2),r_3,r_4.2.1,r_4.1,wrap .i64 (wrap
 IntKind.i64 (lenM r_3-1)-1),wrap .i64 ((-1)-r_4.2.2))).bind fun r_10=>(appM (nat_lit 8) [s_1] r_10).bind fun r=>some (Sum.inr (Sum.inr (r,
 true,r_3))) else some (Sum.inl (wrap .i64 (s_1+1))) else some (Sum.inr (Sum.inl ()))) 0).bind fun o=>Sum.elim (fun (t:Unit)=>(mkM x.1 x.1
 (nat_lit 24) []).bind fun r_4=>(loopM (fun (s_1:Int×List (List Int))=>bif ltM s_1.1 x.1 then (loopM (fun (s_2:Int×List (List Int))=>bif ltM
 s_2.1 x.1 then (chkM s_1.1 (lenM s_2.2)).bind fun r_5=>(chkM s_1.1 (lenM s_2.2)).bind fun r_6=>(m86 (s_1.1,s_2.1)).bind fun r_7=>(app2M (nat_lit 8)
 s_2.2 s_1.1 [r_7]).bind fun r_8=>(chkM s_1.1 (lenM r_8)).bind fun r_9=>((sameM s_1.1 s_1.1).bind fun (x:Unit)=>(sameM s_1.1 s_1.1).bind fun (x:Unit)
 => chkM s_1.1 (lenM r_8)).bind fun r=>some (Sum.inl (wrap .i64 (s_2.1+1),r_8)) else some (Sum.inr s_2.2)) (0,s_1.2)).bind fun o=>some (Sum.inl
 (wrap .i64 (s_1.1+1),o)) else some (Sum.inr s_1.2)) (0,r_4)).bind fun o=>(loopM (fun (s_1:Int×List (List Int))=>bif ltM s_1.1 (lenM x.2)
 then (idxM x.2 s_1.1).bind fun r_5=>(loopM (fun (s_2:Int×List (List Int))=>bif ltM s_2.1 x.1 then (chkM s_2.1 (lenM s_2.2)).bind fun r_6=>(chkM
 s_2.1 (lenM s_2.2)).bind fun r_7=>(chkM s_2.1 (lenM s_2.2)).bind fun r_8=>(chkM s_2.1 (lenM s_2.2)).bind fun r_9=>((idxM s_2.2 s_2.1).bind fun (xs :
 List Int)=>chkM r_5.2.1 (lenM xs)).bind fun r_10=>((idxM s_2.2 s_2.1).bind fun (xs:List Int)=>(idxM xs r_5.2.1).bind fun (x:Int)=>some x).bind fun
 r_11=>(idxM s.1 s_2.1).bind fun r_12=>(idxM r_12 r_5.1).bind fun r_13=>(m61 (r_13,r_5.2.2)).bind fun r_14=>((idxM s_2.2 s_2.1).bind fun (xs:List
 Int)=>chkM r_5.2.1 (lenM xs)).bind fun r_15=>(set2M s_2.2 s_2.1 r_5.2.1 fun (x:Int)=>some (min r_11 r_14)).bind fun r=>some (Sum.inl (wrap
 IntKind.i64 (s_2.1+1),r)) else some (Sum.inr s_2.2)) (0,s_1.2)).bind fun o=>some (Sum.inl (wrap .i64 (s_1.1+1),o)) else some (Sum.inr s_1.2))
 (0,o)).bind fun o=>some (Sum.inl (o,r_3))) (fun (t:List Int×Bool×List (List (List Int)))=>some (Sum.inr (t.1,t.2.1,t.2.2))) o) (r_2,[])).bind
 fun o=>some (o.1,o.2.1)
theorem c33:SpecOK Tryz.prog 33 ⟨as33,rs33,m33⟩ :=
 fc tabs62OK [] an33 Tryz.f33 fun x=>by kernel_rfl
def tabs33:Tabs:=Tabs.add tabs62 33 ⟨as33,rs33,m33⟩
theorem tabs33OK:TabOK Tryz.prog tabs33:=TabOK.add tabs62OK c33 Tryz.call33

/-! putlog/network.Blame -/
def as13:List Ty:=[(.pair tI (.pair (.list (.pair tI tB)) (.list tC)))]
def rs13:List Ty:=[tL,.bool]
def an13:Ann:=.seq (.a) (.seq (.a) (.seq (.a) (.seq (.a) (.seq (.seq (.a) (.block (.seq (.seq (.a) (.seq (.a) (.seq (.join [(.norm,⟨[(4,.r (.c (.d (.d tL)))),(5,.r (.c (.d (.d .bool))))],(7::8::9::ra 20 19 ([])),[],[]⟩)] (.a)) (.a)))) (.seq (.seq (.a) (.seq (.a) (.seq (.join [(.norm,⟨[(4,.r (.c (.d (.d tL)))),(5,.r (.c (.d (.d .bool))))],(7::8::9::ra 20 19 ([])),[],[]⟩)] (.a)) (.a)))) (.seq (.a) (.join [] (.a))))))) (.seq (.a) (.seq (.seq (.a) (.block (.loop ⟨[(10,.r (.c (.h 1))),(42,.r (.c (.d (.d tI))))],(12::ra 43 9 ([])),[],[.arr tI]⟩ [(.exit 2,⟨[(10,.r (.c (.h 1)))],(12::ra 42 10 ([])),[],[.arr tI]⟩)] (.a)))) (.a)))))))
def m13:(Int×(List (Int×Int×Int×Int))×List (Int×Int×Int×Int×Int))→Option (List Int×Bool) :=
 fun x=>(m17 (x.1,x.2.1,x.2.2)).bind fun r=>bif PE.notM r then some ([],false) else (m32 (x.1,x.2.1,x.2.2)).bind fun r_1=>((m33 (r_1.1.1,
 r_1.1.2)).bind fun r=>bif PE.andM r.2 (PE.orM true (ltM (lenM r.1) 0)) then some (r.1,true) else some ([],false)).bind fun o=>((m33 (r_1.2.1,
 r_1.2.2)).bind fun r=>bif PE.andM r.2 (PE.orM (PE.notM o.2) (ltM (lenM r.1) (lenM o.1))) then some (r.1,true) else some (o.1,o.2)).bind fun o_1=>(loopM
 (fun (s:Int×List Int)=>bif ltM s.1 (lenM o_1.1) then (idxM o_1.1 s.1).bind fun r_2=>(divM .i64 r_2 2).bind fun r_3=>(appM (nat_lit 8) s.2
 [r_3]).bind fun r=>some (Sum.inl (wrap .i64 (s.1+1),r)) else some (Sum.inr s.2)) (0,[])).bind fun o_2=>(sortI o_2).bind fun r_2=>(compI
 r_2).bind fun r=>some (r,o_1.2)
theorem c13:SpecOK Tryz.prog 13 ⟨as13,rs13,m13⟩ :=
 fc tabs33OK [] an13 Tryz.f13 fun x=>by kernel_rfl
def tabs13:Tabs:=Tabs.add tabs33 13 ⟨as13,rs13,m13⟩
theorem tabs13OK:TabOK Tryz.prog tabs13:=TabOK.add tabs33OK c13 Tryz.call13

/-! putlog/putlogref09.Ints -/
def as41:List Ty:=[tL,tL]
def rs41:List Ty:=[.bool]
def an41:Ann:=.seq (.a) (.seq (.a) (.seq (.seq (.a) (.block (.loop ⟨[(5,.r (.c (.d (.d tI))))],(ra 11 15 ([])),[],[]⟩ [(.exit 0,⟨[],(5::ra 11 15 ([])),[],[]⟩),(.ret,⟨[(4,.r (.c (.d (.d .bool))))],(5::ra 11 15 ([])),[],[]⟩)] (.seq (.a) (.seq (.block (.seq (.reg [0,0,3,7,0,0,48,112,255] (ra 0 9 ([])) (za 9 ([])) (.a)) (.a))) (.a)))))) (.a)))
def m41:(List Int×List Int)→Option (Bool) :=
 fun x=>bif PE.notM (eqM (lenM x.1) (lenM x.2)) then some false else (loopM (fun (s:Int)=>bif ltM s (lenM x.1) then (idxM x.1 s).bind fun r=>(idxM x.2
 s).bind fun r_1=>bif PE.notM (eqM r r_1) then some (Sum.inr (Sum.inr false)) else some (Sum.inl (wrap .i64 (s+1))) else some (Sum.inr (Sum.inl
 ()))) 0).bind fun o=>Sum.elim (fun (t:Unit)=>some true) (fun (t:Bool)=>some t) o
theorem c41:SpecOK Tryz.prog 41 ⟨as41,rs41,m41⟩ :=
 fc tabs13OK [] an41 Tryz.f41 fun x=>by kernel_rfl
def tabs41:Tabs:=Tabs.add tabs13 41 ⟨as41,rs41,m41⟩
theorem tabs41OK:TabOK Tryz.prog tabs41:=TabOK.add tabs13OK c41 Tryz.call41

/-! putlog/putlogref10.Ints -/
def as16:List Ty:=[tL,tL]
def rs16:List Ty:=[.bool]
def an16:Ann:=.a
def m16:(List Int×List Int)→Option (Bool) :=
 fun x=>(m41 (x.1,x.2)).bind fun r=>some r
theorem c16:SpecOK Tryz.prog 16 ⟨as16,rs16,m16⟩ :=
 fc tabs41OK [] an16 Tryz.f16 fun x=>by kernel_rfl
def tabs16:Tabs:=Tabs.add tabs41 16 ⟨as16,rs16,m16⟩
theorem tabs16OK:TabOK Tryz.prog tabs16:=TabOK.add tabs41OK c16 Tryz.call16

/-! putlog/putlogref10.Same -/
def as14:List Ty:=[(.pair tL (.pair tL tI)),(.pair tL (.pair tL tI))]
def rs14:List Ty:=[.bool]
def an14:Ann:=.a
def m14:((List Int×List Int×Int)×List Int×List Int×Int)→Option (Bool) :=
 fun x=>(m16 (x.1.1,x.2.1)).bind fun r=>(bif r then m16 (x.1.2.1,x.2.2.1) else some false).bind fun r_1=>some (PE.andM (PE.andM r r_1) (eqM x.1.2.2
 x.2.2.2))
theorem c14:SpecOK Tryz.prog 14 ⟨as14,rs14,m14⟩ :=
 fc tabs16OK [] an14 Tryz.f14 fun x=>by kernel_rfl
def tabs14:Tabs:=Tabs.add tabs16 14 ⟨as14,rs14,m14⟩
theorem tabs14OK:TabOK Tryz.prog tabs14:=TabOK.add tabs16OK c14 Tryz.call14

/-! putlog/network.Allowed$1 -/
def as37:List Ty:=[tP]
def rs37:List Ty:=[.bool]
def an37:Ann:=.a
def m37:(Int×Int)→Option (Bool) :=
 fun x=>(m38 (x.1,x.2,1000000)).bind fun r=>some (PE.notM r)
theorem c37:SpecOK Tryz.prog 37 ⟨as37,rs37,m37⟩ :=
 fc tabs14OK [] an37 Tryz.f37 fun x=>by kernel_rfl
def tabs37:Tabs:=Tabs.add tabs14 37 ⟨as37,rs37,m37⟩
theorem tabs37OK:TabOK Tryz.prog tabs37:=TabOK.add tabs14OK c37 Tryz.call37

/-! putlog/network.Allowed -/
def as15:List Ty:=[(.pair tI (.pair (.list (.pair tI tB)) (.list tC))),tQ]
def rs15:List Ty:=[.bool]
def an15_0:Ann:=.call [] [] (.seq (.a) (.block (.seq (.reg [0,0,2,7,15,31,0,0,128,448,960,1984,4095,0,8192,24576,65535,0,0,262144,917504,1966080,4063232,0,0,16777216,58720256,125829120,260046848,536739840,0,1073741824,3221225472,8589803520,0,17179869184,68719476735,137438953471] (ra 0 38 ([])) (.s [4] []::z0::.s [8] []::.s [3] []::z0::.s [3] []::.s [4] []::z0::.s [8] []::.s [3] []::z0::.s [3] []::za 3 (.s [8] []::z0::.s [4] []::z0::.s [8] []::.s [3] []::z0::.s [3] []::.s [4] []::z0::.s [8] []::.s [3] []::z0::.s [3] []::za 3 (.s [8] []::z0::z0::.s [8] []::z0::z0::[]))) (.a)) (.a)))) (.a)
def an15:Ann:=.seq (.a) (.seq (.seq (.reg [] [] [.s [0] [],z0,z0,z0,z0,z0,z0,.s [0] [],z0,z0,z0,z0,.k [],z0] (.call [] [(.norm,⟨[(19,.r (.c (.d (.d .bool))))],[],[],[]⟩)] (.seq (.a) (.seq (.reg [] [] [z0,z0,.r,z0,z0] (.call [] [(.norm,⟨[(7,.r (.c (.d (.d tI))))],[],[],[]⟩)] (.seq (.a) (.seq (.seq (.a) (.block (.loop ⟨[(8,.r (.c (.d (.d tI))))],(5::ra 9 8 (18::[])),[],[]⟩ [(.exit 0,⟨[],(5::ra 8 9 (18::[])),[],[]⟩),(.ret,⟨[(4,.r (.c (.d (.d tI))))],(5::ra 8 11 ([])),[],[]⟩)] (.a)))) (.a))) (.a))) (.a))) (.a))) (.a)) (.seq (.a) (.seq (.seq (.reg [] [] [.s [0] [],.r] (.call [] [] (.seq (.a) (.a)) (.a))) (.block (.call [] [] (.seq (.seq (.a) (.block (.loop ⟨[(10,.r (.c (.d (.d tI))))],(4::ra 11 19 ([])),[(6,.lp .ready)],[]⟩ [(.exit 0,⟨[],(4::ra 10 20 ([])),[(6,.lp .ready)],[]⟩),(.ret,⟨[],(4::ra 10 20 ([])),[(1,.box [.d (.d .bool)]),(6,.lp (.done .ret))],[]⟩)] (.seq (.a) (.seq (.a) (.seq (.block (.seq (.a) (.seq (.reg [] [] [z0,z0,.s [7] [],z0,.s [7] [],z0,z0,.s [5] [],z0,.s [7] [],z0,.s [7] [],z0,.r,z0] an15_0) (.a)))) (.a))))))) (.seq (.a) (.block (.loop ⟨[(33,.r (.c (.d (.d tI))))],(6::ra 34 19 ([])),[(6,.lp .ready)],[]⟩ [(.exit 2,⟨[],(6::ra 33 20 ([])),[(6,.lp .ready)],[]⟩),(.ret,⟨[],(6::ra 33 20 ([])),[(1,.box [.d (.d .bool)]),(6,.lp (.done .ret))],[]⟩)] (.seq (.a) (.seq (.a) (.seq (.block (.seq (.a) (.seq (.reg [] [] [z0,z0,.s [7] [],z0,.s [7] [],z0,z0,.s [7] [],z0,.s [7] [],z0,.s [7] [],z0,.r,z0] an15_0) (.a)))) (.a)))))))) (.a)))) (.a))))
def m15:((Int×(List (Int×Int×Int×Int))×List (Int×Int×Int×Int×Int))×List (Int×Int))→Option (Bool) :=
 fun x=>(m17 (x.1.1,x.1.2.1,x.1.2.2)).bind fun r=>(bif PE.notM (PE.orM (PE.notM r) (PE.notM (eqM (lenM x.2) x.1.1))) then ((loopM (fun (s:Int)=>bif ltM
 s (lenM x.2) then (idxM x.2 s).bind fun r_1=>(m37 (r_1.1,r_1.2)).bind fun r=>bif r then some (Sum.inr (Sum.inr s)) else some (Sum.inl (wrap IntKind.i64
 (s+1))) else some (Sum.inr (Sum.inl ()))) 0).bind fun o=>Sum.elim (fun (t:Unit)=>some (-1)) (fun (t:Int)=>some t) o).bind fun (ov:Int)=>some
 (leM 0 ov) else some false).bind fun (ov:Bool)=>bif PE.orM (PE.orM (PE.notM r) (PE.notM (eqM (lenM x.2) x.1.1))) ov then some false else (mo39 x.2).bind
 fun r_1=>(appM (nat_lit 16) r_1 [(0,0)]).bind fun r_2=>(loopM (fun (s:Int)=>bif ltM s (lenM x.1.2.1) then (idxM x.1.2.1 s).bind fun r_3=>(chkM
 r_3.1 (lenM r_2)).bind fun r_4=>((idxM r_2 r_3.1).bind fun (x:Int×Int)=>some x.1).bind fun r_5=>(chkM x.1.1 (lenM r_2)).bind fun r_6=>((idxM r_2
 x.1.1).bind fun (x:Int×Int)=>some x.1).bind fun r_7=>(chkM r_3.1 (lenM r_2)).bind fun r_8=>((idxM r_2 r_3.1).bind fun (x:Int×Int)=>some
 x.2).bind fun r_9=>(chkM x.1.1 (lenM r_2)).bind fun r_10=>((idxM r_2 x.1.1).bind fun (x:Int×Int)=>some x.2).bind fun r_11=>(m38 (wrap IntKind.i64
 (wrap .i64 (r_5-r_7)-r_3.2.1),wrap .i64 (wrap .i64 (r_9-r_11)-r_3.2.2.1),r_3.2.2.2)).bind fun r=>bif PE.notM r then some
 (Sum.inr (Sum.inr false)) else some (Sum.inl (wrap .i64 (s+1))) else some (Sum.inr (Sum.inl ()))) 0).bind fun o=>Sum.elim (fun (t:Unit)=>(loopM
 (fun (s:Int)=>bif ltM s (lenM x.1.2.2) then (idxM x.1.2.2 s).bind fun r_3=>(chkM r_3.2.1 (lenM r_2)).bind fun r_4=>((idxM r_2 r_3.2.1).bind fun (x :
 Int×Int)=>some x.1).bind fun r_5=>(chkM r_3.1 (lenM r_2)).bind fun r_6=>((idxM r_2 r_3.1).bind fun (x:Int×Int)=>some x.1).bind fun r_7=>(chkM
 r_3.2.1 (lenM r_2)).bind fun r_8=>((idxM r_2 r_3.2.1).bind fun (x:Int×Int)=>some x.2).bind fun r_9=>(chkM r_3.1 (lenM r_2)).bind fun r_10=>((idxM
 r_2 r_3.1).bind fun (x:Int×Int)=>some x.2).bind fun r_11=>(m38 (wrap .i64 (wrap .i64 (r_5-r_7)-r_3.2.2.1),wrap .i64 (wrap
 IntKind.i64 (r_9-r_11)-r_3.2.2.2.1),r_3.2.2.2.2)).bind fun r=>bif PE.notM r then some (Sum.inr (Sum.inr false)) else some (Sum.inl (wrap .i64 (s
 + 1))) else some (Sum.inr (Sum.inl ()))) 0).bind fun o=>Sum.elim (fun (t:Unit)=>some true) (fun (t:Bool)=>some t) o) (fun (t:Bool)=>some t) o
theorem c15:SpecOK Tryz.prog 15 ⟨as15,rs15,m15⟩ :=
 fc (TabOK.drop tabs37OK [39]) [] an15 Tryz.f15 fun x=>by kernel_rfl
def tabs15:Tabs:=Tabs.add tabs37 15 ⟨as15,rs15,m15⟩
theorem tabs15OK:TabOK Tryz.prog tabs15:=TabOK.add tabs37OK c15 Tryz.call15

/-! putlog/putloglaw10.sane -/
def as4:List Ty:=[]
def rs4:List Ty:=[.bool]
def an4:Ann:=.a
def m4:Unit→Option (Bool) :=
 fun x=>(appM (nat_lit 40) [] [(0,1,100,0,3),(1,2,0,50,1),(0,2,104,48,2)]).bind fun r=>(chkM 2 (lenM r)).bind fun r_1=>(setM r 2 fun (x:Int
 × Int×Int×Int×Int)=>some (x.1,x.2.1,111,x.2.2.2)).bind fun r_2=>(m10 ((3,[(0,0,0,2)],[(0,1,100,0,3),(1,2,0,50,1),(0,2,104,48,
 2)]),0)).bind fun r_3=>(m10 ((3,[(0,0,0,2)],[(0,1,100,0,3),(1,2,0,50,1),(0,2,104,48,2)]),1)).bind fun r_4=>(m10 ((3,[(0,0,0,2)],
 [(0,1,100,0,3),(1,2,0,50,1),(0,2,104,48,2)]),2)).bind fun r_5=>(m11 ((3,[(0,0,0,2)],[(0,1,100,0,3),(1,2,0,50,1),(0,2,104,
 48,2)]),0,2)).bind fun r_6=>(m12 (3,[(0,0,0,2)],[(0,1,100,0,3),(1,2,0,50,1),(0,2,104,48,2)])).bind fun r_7=>(m13 (3,[(0,0,0,2)],
 r_2)).bind fun r_8=>(m13 (3,[(0,0,0,2)],[(0,1,100,0,3),(1,2,0,50,1),(0,2,104,48,2)])).bind fun r_9=>(m10 ((3,[(0,0,0,2)],r_2),
 0)).bind fun r_10=>bif PE.orM (PE.orM (PE.orM (PE.orM (PE.orM (PE.orM (PE.orM (PE.notM (eqM r_3.2 0)) (PE.notM (eqM r_4.2 0))) (PE.notM (eqM r_5.2 0)))
 (PE.notM (eqM r_6.2 0))) (PE.notM (eqM r_7.2 0))) (PE.notM (eqM r_10.2 100))) (PE.notM r_8.2)) r_9.2 then some false else (m14 ((r_7.1.1,r_7.1.2.1,
 r_7.1.2.2),[0,304,308],[0,(-2),146],3)).bind fun r_11=>(m15 ((3,[(0,0,0,2)],[(0,1,100,0,3),(1,2,0,50,1),(0,2,104,48,2)]),[(0,0),
 (101,(-1)),(102,48)])).bind fun r_12=>(bif r_12 then m15 ((3,[(0,0,0,2)],[(0,1,100,0,3),(1,2,0,50,1),(0,2,104,48,2)]),[(0,0),(104,
 (-1)),(103,48)]) else some false).bind fun r_13=>(bif PE.andM (PE.andM (PE.andM (PE.andM (PE.andM (PE.andM (eqM r_3.1.1 (-2)) (PE.andM (eqM r_3.1.2.1 2)
 (PE.andM (eqM r_3.1.2.2.1 (-2)) (eqM r_3.1.2.2.2 2)))) (PE.andM (eqM r_4.1.1 99) (PE.andM (eqM r_4.1.2.1 105) (PE.andM (eqM r_4.1.2.2.1 (-5)) (eqM r_4.1.2.2.2
 3))))) (PE.andM (eqM r_5.1.1 100) (PE.andM (eqM r_5.1.2.1 106) (PE.andM (eqM r_5.1.2.2.1 44) (eqM r_5.1.2.2.2 52))))) (PE.andM (eqM r_6.1.1 102) (PE.andM (eqM
 r_6.1.2.1 104) (PE.andM (eqM r_6.1.2.2.1 46) (eqM r_6.1.2.2.2 50))))) r_11) (PE.andM r_12 (PE.notM r_13)) then m16 (r_8.1,[1,2,3]) else some false).bind
 fun r_14=>(bif PE.andM (PE.andM (PE.andM (PE.andM (PE.andM (PE.andM (PE.andM (eqM r_3.1.1 (-2)) (PE.andM (eqM r_3.1.2.1 2) (PE.andM (eqM r_3.1.2.2.1 (-2))
 (eqM r_3.1.2.2.2 2)))) (PE.andM (eqM r_4.1.1 99) (PE.andM (eqM r_4.1.2.1 105) (PE.andM (eqM r_4.1.2.2.1 (-5)) (eqM r_4.1.2.2.2 3))))) (PE.andM (eqM r_5.1.1
 100) (PE.andM (eqM r_5.1.2.1 106) (PE.andM (eqM r_5.1.2.2.1 44) (eqM r_5.1.2.2.2 52))))) (PE.andM (eqM r_6.1.1 102) (PE.andM (eqM r_6.1.2.1 104) (PE.andM (eqM
 r_6.1.2.2.1 46) (eqM r_6.1.2.2.2 50))))) r_11) (PE.andM r_12 (PE.notM r_13))) r_14 then m17 (3,[(0,0,0,2)],[(0,1,100,0,3),(1,2,0,50,1),(0,2,
 104,48,2)]) else some false).bind fun r_15=>(bif PE.andM (PE.andM (PE.andM (PE.andM (PE.andM (PE.andM (PE.andM (PE.andM (eqM r_3.1.1 (-2)) (PE.andM (eqM
 r_3.1.2.1 2) (PE.andM (eqM r_3.1.2.2.1 (-2)) (eqM r_3.1.2.2.2 2)))) (PE.andM (eqM r_4.1.1 99) (PE.andM (eqM r_4.1.2.1 105) (PE.andM (eqM r_4.1.2.2.1 (-5))
 (eqM r_4.1.2.2.2 3))))) (PE.andM (eqM r_5.1.1 100) (PE.andM (eqM r_5.1.2.1 106) (PE.andM (eqM r_5.1.2.2.1 44) (eqM r_5.1.2.2.2 52))))) (PE.andM (eqM r_6.1.1
 102) (PE.andM (eqM r_6.1.2.1 104) (PE.andM (eqM r_6.1.2.2.1 46) (eqM r_6.1.2.2.2 50))))) r_11) (PE.andM r_12 (PE.notM r_13))) r_14) r_15 then m17 (9,[],[])
 else some false).bind fun r=>some (PE.andM (PE.andM (PE.andM (PE.andM (PE.andM (PE.andM (PE.andM (PE.andM (PE.andM (eqM r_3.1.1 (-2)) (PE.andM (eqM
 r_3.1.2.1 2) (PE.andM (eqM r_3.1.2.2.1 (-2)) (eqM r_3.1.2.2.2 2)))) (PE.andM (eqM r_4.1.1 99) (PE.andM (eqM r_4.1.2.1 105) (PE.andM (eqM r_4.1.2.2.1 (-5))
 (eqM r_4.1.2.2.2 3))))) (PE.andM (eqM r_5.1.1 100) (PE.andM (eqM r_5.1.2.1 106) (PE.andM (eqM r_5.1.2.2.1 44) (eqM r_5.1.2.2.2 52))))) (PE.andM (eqM r_6.1.1
 102) (PE.andM (eqM r_6.1.2.1 104) (PE.andM (eqM r_6.1.2.2.1 46) (eqM r_6.1.2.2.2 50))))) r_11) (PE.andM r_12 (PE.notM r_13))) r_14) r_15) (PE.notM r))
theorem c4:SpecOK Tryz.prog 4 ⟨as4,rs4,m4⟩ :=
 fc tabs15OK [] an4 Tryz.f4 fun x=>by kernel_rfl
def tabs4:Tabs:=Tabs.add tabs15 4 ⟨as4,rs4,m4⟩
theorem tabs4OK:TabOK Tryz.prog tabs4:=TabOK.add tabs15OK c4 Tryz.call4

/-! putlog/putlogref10.pick -/
def as18:List Ty:=[tI,tI]
def rs18:List Ty:=[tI]
def an18:Ann:=.seq (.a) (.seq (.join [(.norm,⟨[(0,.r (.c (.d (.d tI))))],[5,6,7,8,9],[],[]⟩)] (.a)) (.a))
def m18:(Int×Int)→Option (Int) :=
 fun x=>(bif ltM x.1 0 then some (wrap .i64 (negM (wrap .i64 (x.1+1)))) else some x.1).bind fun o=>(remM o x.2).bind fun r=>some r
theorem c18:SpecOK Tryz.prog 18 ⟨as18,rs18,m18⟩ :=
 fc tabs4OK [] an18 Tryz.f18 fun x=>by kernel_rfl
def tabs18:Tabs:=Tabs.add tabs4 18 ⟨as18,rs18,m18⟩
theorem tabs18OK:TabOK Tryz.prog tabs18:=TabOK.add tabs4OK c18 Tryz.call18

/-! putlog/putlogref10.Hidden -/
def as6:List Ty:=[(.pair tQ (.pair tL (.pair (.list (.pair tI tB)) (.pair (.list tC) tB))))]
def rs6:List Ty:=[tQ]
def an6:Ann:=.seq (.a) (.seq (.a) (.seq (.seq (.a) (.block (.loop ⟨[(3,.r (.c (.h 1))),(4,.r (.c (.d (.d tI))))],(ra 5 31 ([])),[],[.arr tP]⟩ [(.exit 0,⟨[(3,.r (.c (.h 1)))],(ra 4 32 ([])),[],[.arr tP]⟩)] (.seq (.a) (.seq (.block (.reg [0,0,2,0,14,30,62,126,254,0,512,0,3584,7680,15872,32510,65278,131070,262142,524287,1048575] (ra 0 21 ([])) (z0::z0::.s [0] []::za 7 (.s [0] []::za 8 (.s [1] [2,1]::z0::[]))) (.a))) (.a)))))) (.a)))
def m6:((List (Int×Int))×List Int×(List (Int×Int×Int×Int))×(List (Int×Int×Int×Int×Int))×Int×Int×Int)→Option (List (Int×Int)) :=
 fun x=>(loopM (fun (s:Int×List (Int×Int))=>bif PE.andM (ltM s.1 (lenM x.1)) (ltM s.1 8) then (idxM x.1 s.1).bind fun r=>(m18 (r.1,1001)).bind fun
 r_1=>(idxM x.1 s.1).bind fun r_2=>(m18 (r_2.2,1001)).bind fun r_3=>(appM (nat_lit 16) s.2 [(wrap .i64 (r_1-500),wrap .i64 (r_3 -
 500))]).bind fun r=>some (Sum.inl (wrap .i64 (s.1+1),r)) else some (Sum.inr s.2)) (0,[])).bind fun o=>some o
theorem c6:SpecOK Tryz.prog 6 ⟨as6,rs6,m6⟩ :=
 fc tabs18OK [] an6 Tryz.f6 fun x=>by kernel_rfl
def tabs6:Tabs:=Tabs.add tabs18 6 ⟨as6,rs6,m6⟩
theorem tabs6OK:TabOK Tryz.prog tabs6:=TabOK.add tabs18OK c6 Tryz.call6

/-! putlog/putlogref10.Sight -/
def as19:List Ty:=[tQ,tC]
def rs19:List Ty:=[tC]
def an19:Ann:=.seq (.a) (.seq (.reg [0,1,0,4,15,0,32,127,255,0,1023] (ra 0 11 ([])) (z0::.s [0] []::za 4 (.s [0] []::z0::z0::.s [] [2]::.s [2] [2]::[])) (.a)) (.seq (.reg [0,1,3,0,8,0,32,96,248,511,0,1024,4095,8191,16383] (ra 0 15 ([])) (z0::.s [2] []::z0::z0::.s [0] []::za 9 (.s [2] [2]::[])) (.a)) (.seq (.reg [0,0,2,7,15,31,0,0,128,448,960,1984,4095,0,8192,0,32768,98304,229376,516096,1048575,0,2097152,8388607,16777215,33554431] (ra 0 26 ([])) (z0::z0::.s [2] []::za 5 (.s [2] []::za 5 (.s [0] []::z0::.s [2] []::za 5 (.s [2] []::z0::z0::.s [2] [2]::[])))) (.a)) (.seq (.reg [0,0,2,7,15,31,0,0,128,448,960,1984,4095,0,8192,0,32768,98304,229376,516096,1048575,0,2097152,8388607,16777215,33554431] (ra 0 26 ([])) (z0::z0::.s [2] []::za 5 (.s [2] []::za 5 (.s [0] []::z0::.s [2] []::za 5 (.s [2] []::z0::z0::.s [2] [2]::[])))) (.a)) (.a)))))
def m19:((List (Int×Int))×Int×Int×Int×Int×Int)→Option (Int×Int×Int×Int×Int) :=
 fun x=>(m18 (x.2.1,lenM x.1)).bind fun r=>(m18 (x.2.2.2.1,12)).bind fun r_1=>(m18 (x.2.2.1,wrap .i64 (lenM x.1-1))).bind fun r_2=>(remM
 (wrap .i64 (wrap .i64 (r+1)+r_2)) (lenM x.1)).bind fun r_3=>(idxM x.1 r_3).bind fun r_4=>(idxM x.1 r).bind fun r_5=>(m18 (x.2.2.2.2.1,
 wrap .i64 (wrap .i64 (2*r_1)+1))).bind fun r_6=>(idxM x.1 r_3).bind fun r_7=>(idxM x.1 r).bind fun r_8=>(m18 (x.2.2.2.2.2,wrap
 IntKind.i64 (wrap .i64 (2*r_1)+1))).bind fun r_9=>some (r,r_3,wrap .i64 (wrap .i64 (wrap .i64 (r_4.1-r_5.1)+r_6) -
 r_1),wrap .i64 (wrap .i64 (wrap .i64 (r_7.2-r_8.2)+r_9)-r_1),r_1)
theorem c19:SpecOK Tryz.prog 19 ⟨as19,rs19,m19⟩ :=
 fc tabs6OK [] an19 Tryz.f19 fun x=>by kernel_rfl
def tabs19:Tabs:=Tabs.add tabs6 19 ⟨as19,rs19,m19⟩
theorem tabs19OK:TabOK Tryz.prog tabs19:=TabOK.add tabs6OK c19 Tryz.call19

/-! putlog/putlogref10.Misses -/
def as20:List Ty:=[(.pair tQ (.pair tL (.pair (.list (.pair tI tB)) (.pair (.list tC) tB))))]
def rs20:List Ty:=[.bool]
def an20:Ann:=.a
def m20:((List (Int×Int))×List Int×(List (Int×Int×Int×Int))×(List (Int×Int×Int×Int×Int))×Int×Int×Int)→Option (Bool) :=
 fun x=>(m18 (x.2.2.2.2.1,3)).bind fun r=>some (eqM r 2)
theorem c20:SpecOK Tryz.prog 20 ⟨as20,rs20,m20⟩ :=
 fc tabs19OK [] an20 Tryz.f20 fun x=>by kernel_rfl
def tabs20:Tabs:=Tabs.add tabs19 20 ⟨as20,rs20,m20⟩
theorem tabs20OK:TabOK Tryz.prog tabs20:=TabOK.add tabs19OK c20 Tryz.call20

/-! putlog/putlogref10.Made -/
def as5:List Ty:=[(.pair tQ (.pair tL (.pair (.list (.pair tI tB)) (.pair (.list tC) tB))))]
def rs5:List Ty:=[(.pair tI (.pair (.list (.pair tI tB)) (.list tC)))]
def an5:Ann:=.seq (.a) (.seq (.a) (.seq (.a) (.seq (.seq (.a) (.block (.loop ⟨[(5,.r (.c (.d (.d tI))))],(6::ra 17 83 ([])),[(2,.box [.d (.d tI),.h 3,.l .nilS])],[.arr (.pair tI tB)]⟩ [(.exit 0,⟨[],(5::6::ra 17 83 ([])),[(2,.box [.d (.d tI),.h 3,.l .nilS])],[.arr (.pair tI tB)]⟩)] (.seq (.a) (.seq (.block (.seq (.reg [0,1,0,7,15,31,0,64,255,0,512,0,3584,7680,15872,32767,65535,0,262143] (ra 0 19 ([])) (z0::.s [0] []::za 8 (.s [0] []::za 6 (.s [] [4]::.s [4] [4]::[]))) (.a)) (.seq (.reg [0,0,2,7,15,31,0,64,0,448,960,1984,0,4096,12288,28672,65472,131071,0,262144,1048575,2097151,4194303] (ra 0 23 ([])) (z0::z0::.s [4] []::za 4 (.s [0] []::za 5 (.s [4] []::za 5 (.s [4] []::z0::z0::.s [4] [4]::[])))) (.a)) (.seq (.reg [0,0,2,7,15,31,0,64,0,448,960,1984,0,4096,12288,28672,65472,131071,0,262144,1048575,2097151,4194303] (ra 0 23 ([])) (z0::z0::.s [4] []::za 4 (.s [0] []::za 5 (.s [4] []::za 5 (.s [4] []::z0::z0::.s [4] [4]::[])))) (.a)) (.a))))) (.a)))))) (.seq (.seq (.a) (.block (.loop ⟨[(7,.r (.c (.d (.d tI))))],(8::ra 100 62 ([])),[(2,.box [.d (.d tI),.h 3,.h 4])],[.arr tC]⟩ [(.exit 2,⟨[],(7::8::ra 100 62 ([])),[(2,.box [.d (.d tI),.h 3,.h 4])],[.arr tC]⟩)] (.seq (.a) (.seq (.block (.seq (.a) (.reg [0,1,0,0,8,0,0,64,224,480,992,0,0,6144,14336,30720,65504,0,0,262144,917504,1966080,4063232,0,0,25165824,58720256,125829120,268304384,0,536870912,0,3758096384,8053063680,16642998272,33822867456,68719476732,137438953468,274877906943,549755813887,1099511627775] (ra 0 41 ([])) (z0::.s [2] []::za 28 (.s [0] []::za 7 (.s [4] [5,4]::z0::.s [2,5] [2]::[]))) (.a)))) (.a)))))) (.seq (.seq (.a) (.block (.loop ⟨[(9,.r (.c (.d (.d tI))))],(ra 162 28 ([])),[(2,.box [.d (.d tI),.h 3,.h 5]),(4,.gone)],[.arr tC]⟩ [(.exit 4,⟨[],(9::ra 162 28 ([])),[(2,.box [.d (.d tI),.h 3,.h 5]),(4,.gone)],[.arr tC]⟩)] (.seq (.a) (.seq (.block (.reg [0,1,0,0,8,0,56,120,252,508,1023,2047,4095] (ra 0 13 ([])) (z0::.s [2] []::z0::z0::.s [0] []::za 5 (.s [5] [6,5]::z0::.s [2,6] [2]::[])) (.a))) (.a)))))) (.seq (.join [(.norm,⟨[],(10::11::ra 190 52 ([])),[(5,.arr tC)],[]⟩)] (.seq (.a) (.cond (.seq (.a) (.seq (.a) (.seq (.a) (.cond (.reg [0,1,0,0,8,0,56,120,248,0,1016,2047,4095,8191] (ra 0 14 ([])) [z0,.s [2] [],z0,z0,.s [2] [],z0,.s [5] [],z0,.s [5] [],z0,z0,.s [5] [],z0,.s [5] [5]] (.a)) (.reg [0,1,0,0,8,0,56,120,248,0,1016,2047,4095,8191] (ra 0 14 ([])) [z0,.s [2] [],z0,z0,.s [2] [],z0,.s [5] [],z0,.s [5] [],z0,z0,.s [5] [],z0,.s [5] [5]] (.a)))))) (.a)))) (.a)))))))
def m5:((List (Int×Int))×List Int×(List (Int×Int×Int×Int))×(List (Int×Int×Int×Int×Int))×Int×Int×Int)→Option (Int×(List (Int×Int×Int×Int))×List (Int×Int×Int×Int×Int)) :=
 fun x=>(m6 (x.1,x.2.1,x.2.2.1,x.2.2.2.1,x.2.2.2.2.1,x.2.2.2.2.2.1,x.2.2.2.2.2.2)).bind fun r=>(loopM (fun (s:Int×Int×List (Int×Int×Int ×
 Int))=>bif PE.andM (PE.andM (ltM s.1 (lenM x.2.2.1)) (ltM s.1 6)) (ltM 0 (lenM r)) then (idxM x.2.2.1 s.1).bind fun r_1=>(m18 (r_1.1,lenM r)).bind fun
 r_2=>(idxM x.2.2.1 s.1).bind fun r_3=>(m18 (r_3.2.1,12)).bind fun r_4=>(idxM r r_2).bind fun r_5=>(idxM x.2.2.1 s.1).bind fun r_6=>(m18 (r_6.2.2.1,
 wrap .i64 (wrap .i64 (2*r_4)+1))).bind fun r_7=>(idxM r r_2).bind fun r_8=>(idxM x.2.2.1 s.1).bind fun r_9=>(m18 (r_9.2.2.2,wrap
 IntKind.i64 (wrap .i64 (2*r_4)+1))).bind fun r_10=>(appM (nat_lit 32) s.2.2 [(r_2,wrap .i64 (wrap .i64 (r_5.1+r_7)-r_4),wrap
 IntKind.i64 (wrap .i64 (r_8.2+r_10)-r_4),r_4)]).bind fun r=>some (Sum.inl (wrap .i64 (s.1+1),s.2.1,r)) else some (Sum.inr (s.2.1,
 s.2.2))) (0,lenM r,[])).bind fun o=>(loopM (fun (s:Int×Int×List (Int×Int×Int×Int×Int))=>bif PE.andM (ltM s.1 (lenM x.2.1)) (ltM (wrap
 IntKind.i64 (s.1+1)) (lenM r)) then (idxM x.2.1 s.1).bind fun r_1=>(m18 (r_1,wrap .i64 (s.1+1))).bind fun r_2=>(idxM r (wrap .i64 (s.1
 + 1))).bind fun r_3=>(idxM r r_2).bind fun r_4=>(idxM r (wrap .i64 (s.1+1))).bind fun r_5=>(idxM r r_2).bind fun r_6=>(idxM x.2.1 s.1).bind
 fun r_7=>(divM .i64 r_7 8).bind fun r_8=>(m18 (r_8,10)).bind fun r_9=>(appM (nat_lit 40) s.2.2 [(r_2,wrap .i64 (s.1+1),wrap
 IntKind.i64 (r_3.1-r_4.1),wrap .i64 (r_5.2-r_6.2),r_9)]).bind fun r=>some (Sum.inl (wrap .i64 (s.1+1),s.2.1,r)) else some (Sum.inr
 (s.2.1,s.2.2))) (0,o.1,[])).bind fun o_1=>(loopM (fun (s:Int×Int×List (Int×Int×Int×Int×Int))=>bif PE.andM (PE.andM (ltM s.1 (lenM
 x.2.2.2.1)) (ltM s.1 10)) (ltM 1 (lenM r)) then (idxM x.2.2.2.1 s.1).bind fun r_1=>(m19 (r,r_1.1,r_1.2.1,r_1.2.2.1,r_1.2.2.2.1,r_1.2.2.2.2)).bind fun
 r_2=>(appM (nat_lit 40) s.2.2 [(r_2.1,r_2.2.1,r_2.2.2.1,r_2.2.2.2.1,r_2.2.2.2.2)]).bind fun r=>some (Sum.inl (wrap .i64 (s.1+1),s.2.1,r))
 else some (Sum.inr (s.2.1,s.2.2))) (0,o_1.1,o_1.2)).bind fun o_2=>((m20 (x.1,x.2.1,x.2.2.1,x.2.2.2.1,x.2.2.2.2.1,x.2.2.2.2.2.1,x.2.2.2.2.2.2)).bind
 fun r_1=>bif PE.andM r_1 (ltM 0 (lenM o_2.2)) then (m18 (x.2.2.2.2.2.1,lenM o_2.2)).bind fun r_2=>(divM .i64 x.2.2.2.2.2.2 2).bind fun r_3=>(m18
 (r_3,60)).bind fun r_4=>(m18 (x.2.2.2.2.2.2,2)).bind fun r_5=>bif eqM r_5 0 then (chkM r_2 (lenM o_2.2)).bind fun r_6=>((idxM o_2.2 r_2).bind fun (x :
 Int×Int×Int×Int×Int)=>some x.2.2.1).bind fun r_7=>(chkM r_2 (lenM o_2.2)).bind fun r_8=>(setM o_2.2 r_2 fun (x:Int×Int×Int×Int×Int) =>
 some (x.1,x.2.1,wrap .i64 (r_7+wrap .i64 (r_4+1)),x.2.2.2)).bind fun r=>some r else (chkM r_2 (lenM o_2.2)).bind fun r_6=>((idxM
 o_2.2 r_2).bind fun (x:Int×Int×Int×Int×Int)=>some x.2.2.2.1).bind fun r_7=>(chkM r_2 (lenM o_2.2)).bind fun r_8=>(setM o_2.2 r_2 fun (x:Int
 × Int×Int×Int×Int)=>some (x.1,x.2.1,x.2.2.1,wrap .i64 (r_7-wrap .i64 (r_4+1)),x.2.2.2.2)).bind fun r=>some r else some
 o_2.2).bind fun o_3=>some (o_2.1,o.2,o_3)
theorem c5:SpecOK Tryz.prog 5 ⟨as5,rs5,m5⟩ :=
 fc tabs20OK [] an5 Tryz.f5 fun x=>by kernel_rfl
def tabs5:Tabs:=Tabs.add tabs20 5 ⟨as5,rs5,m5⟩
theorem tabs5OK:TabOK Tryz.prog tabs5:=TabOK.add tabs20OK c5 Tryz.call5

/-! putlog/putloglaw10.pick -/
def as7:List Ty:=[tI,tI]
def rs7:List Ty:=[tI]
def an7:Ann:=.seq (.a) (.seq (.join [(.norm,⟨[(0,.r (.c (.d (.d tI))))],[5,6,7,8,9],[],[]⟩)] (.a)) (.a))
def m7:(Int×Int)→Option (Int) :=
 fun x=>(bif ltM x.1 0 then some (wrap .i64 (negM (wrap .i64 (x.1+1)))) else some x.1).bind fun o=>(remM o x.2).bind fun r=>some r
theorem c7:SpecOK Tryz.prog 7 ⟨as7,rs7,m7⟩ :=
 fc tabs5OK [] an7 Tryz.f7 fun x=>by kernel_rfl
def tabs7:Tabs:=Tabs.add tabs5 7 ⟨as7,rs7,m7⟩
theorem tabs7OK:TabOK Tryz.prog tabs7:=TabOK.add tabs5OK c7 Tryz.call7

/-! putlog/putlogref10.in -/
def as46:List Ty:=[tI,tI,tI]
def rs46:List Ty:=[.bool]
def an46:Ann:=.a
def m46:(Int×Int×Int)→Option (Bool) :=
 fun x=>some (PE.andM (leM x.2.1 x.1) (leM x.1 x.2.2))
theorem c46:SpecOK Tryz.prog 46 ⟨as46,rs46,m46⟩ :=
 fc tabs7OK [] an46 Tryz.f46 fun x=>by kernel_rfl
def tabs46:Tabs:=Tabs.add tabs7 46 ⟨as46,rs46,m46⟩
theorem tabs46OK:TabOK Tryz.prog tabs46:=TabOK.add tabs7OK c46 Tryz.call46

/-! putlog/putlogref10.Valid -/
def as25:List Ty:=[(.pair tI (.pair (.list (.pair tI tB)) (.list tC)))]
def rs25:List Ty:=[.bool]
def an25:Ann:=.seq (.a) (.seq (.a) (.seq (.seq (.a) (.block (.loop ⟨[(3,.r (.c (.d (.d tI))))],(4::ra 23 37 ([])),[],[]⟩ [(.exit 0,⟨[],(3::4::ra 23 37 ([])),[],[]⟩),(.ret,⟨[(2,.r (.c (.d (.d .bool))))],(3::4::ra 23 37 ([])),[],[]⟩)] (.a)))) (.seq (.seq (.a) (.block (.loop ⟨[(5,.r (.c (.d (.d tI))))],(6::ra 60 53 ([])),[],[]⟩ [(.exit 2,⟨[],(5::6::ra 60 53 ([])),[],[]⟩),(.ret,⟨[(2,.r (.c (.d (.d .bool))))],(5::6::ra 60 53 ([])),[],[]⟩)] (.a)))) (.a))))
def m25:(Int×(List (Int×Int×Int×Int))×List (Int×Int×Int×Int×Int))→Option (Bool) :=
 fun x=>(m46 (x.1,0,8)).bind fun r=>bif PE.orM (PE.orM (PE.notM r) (ltM 8 (lenM x.2.1))) (ltM 20 (lenM x.2.2)) then some false else (loopM (fun (s:Int)
 => bif ltM s (lenM x.2.1) then (idxM x.2.1 s).bind fun r_1=>(m46 (r_1.1,0,wrap .i64 (x.1-1))).bind fun r_2=>(bif PE.notM (PE.notM r_2) then m46
 (r_1.2.1,(-10000),10000) else some false).bind fun r_3=>(bif PE.notM (PE.orM (PE.notM r_2) (PE.notM r_3)) then m46 (r_1.2.2.1,(-10000),10000) else some
 false).bind fun r_4=>(bif PE.notM (PE.orM (PE.orM (PE.notM r_2) (PE.notM r_3)) (PE.notM r_4)) then m46 (r_1.2.2.2,0,1000) else some false).bind fun r =>
 bif PE.orM (PE.orM (PE.orM (PE.notM r_2) (PE.notM r_3)) (PE.notM r_4)) (PE.notM r) then some (Sum.inr (Sum.inr false)) else some (Sum.inl (wrap .i64 (s
 + 1))) else some (Sum.inr (Sum.inl ()))) 0).bind fun o=>Sum.elim (fun (t:Unit)=>(loopM (fun (s:Int)=>bif ltM s (lenM x.2.2) then (idxM x.2.2 s).bind
 fun r_1=>(m46 (r_1.1,0,wrap .i64 (x.1-1))).bind fun r_2=>(bif PE.notM (PE.notM r_2) then m46 (r_1.2.1,0,wrap .i64 (x.1-1)) else some
 false).bind fun r_3=>(bif PE.notM (PE.orM (PE.orM (PE.notM r_2) (PE.notM r_3)) (eqM r_1.1 r_1.2.1)) then m46 (r_1.2.2.1,(-10000),10000) else some
 false).bind fun r_4=>(bif PE.notM (PE.orM (PE.orM (PE.orM (PE.notM r_2) (PE.notM r_3)) (eqM r_1.1 r_1.2.1)) (PE.notM r_4)) then m46 (r_1.2.2.2.1,(-10000),
 10000) else some false).bind fun r_5=>(bif PE.notM (PE.orM (PE.orM (PE.orM (PE.orM (PE.notM r_2) (PE.notM r_3)) (eqM r_1.1 r_1.2.1)) (PE.notM r_4)) (PE.notM
 r_5)) then m46 (r_1.2.2.2.2,0,1000) else some false).bind fun r=>bif PE.orM (PE.orM (PE.orM (PE.orM (PE.orM (PE.notM r_2) (PE.notM r_3)) (eqM r_1.1
 r_1.2.1)) (PE.notM r_4)) (PE.notM r_5)) (PE.notM r) then some (Sum.inr (Sum.inr false)) else some (Sum.inl (wrap .i64 (s+1))) else some (Sum.inr
 (Sum.inl ()))) 0).bind fun o=>Sum.elim (fun (t:Unit)=>some true) (fun (t:Bool)=>some t) o) (fun (t:Bool)=>some t) o
theorem c25:SpecOK Tryz.prog 25 ⟨as25,rs25,m25⟩ :=
 fc tabs46OK [] an25 Tryz.f25 fun x=>by kernel_rfl
def tabs25:Tabs:=Tabs.add tabs46 25 ⟨as25,rs25,m25⟩
theorem tabs25OK:TabOK Tryz.prog tabs25:=TabOK.add tabs46OK c25 Tryz.call25

/-! putlog/putlogref10.Bounds -/
def as53:List Ty:=[(.pair tI (.pair (.list (.pair tI tB)) (.list tC))),tI]
def rs53:List Ty:=[(.pair tI (.list tB))]
def an53:Ann:=.seq (.a) (.seq (.a) (.seq (.seq (.a) (.block (.loop ⟨[(6,.r (.c (.d (.d tI))))],(7::8::ra 16 43 ([])),[(2,.box [.d (.d tI),.h 3])],[.arr tB]⟩ [(.exit 0,⟨[],(6::7::8::ra 16 43 ([])),[(2,.box [.d (.d tI),.h 3])],[.arr tB]⟩)] (.a)))) (.seq (.seq (.a) (.block (.loop ⟨[(9,.r (.c (.d (.d tI))))],(10::11::ra 59 43 ([])),[(2,.box [.d (.d tI),.h 4]),(3,.gone)],[.arr tB]⟩ [(.exit 2,⟨[],(9::10::11::ra 59 43 ([])),[(2,.box [.d (.d tI),.h 4]),(3,.gone)],[.arr tB]⟩)] (.a)))) (.a))))
def m53:((Int×(List (Int×Int×Int×Int))×List (Int×Int×Int×Int×Int))×Int)→Option (Int×List (Int×Int×Int)) :=
 fun x=>(loopM (fun (s:Int×Int×List (Int×Int×Int))=>bif ltM s.1 (lenM x.1.2.1) then (idxM x.1.2.1 s.1).bind fun r=>(idxM [r.2.1,r.2.2.1]
 x.2).bind fun r_1=>(appM (nat_lit 24) s.2.2 [(x.1.1,r.1,wrap .i64 (r_1+r.2.2.2)),(r.1,x.1.1,wrap .i64 (r.2.2.2-r_1))]).bind fun r =>
 some (Sum.inl (wrap .i64 (s.1+1),s.2.1,r)) else some (Sum.inr (s.2.1,s.2.2))) (0,wrap .i64 (x.1.1+1),[])).bind fun o=>(loopM (fun (s
 : Int×Int×List (Int×Int×Int))=>bif ltM s.1 (lenM x.1.2.2) then (idxM x.1.2.2 s.1).bind fun r=>(idxM [r.2.2.1,r.2.2.2.1] x.2).bind fun r_1 =>
 (appM (nat_lit 24) s.2.2 [(r.1,r.2.1,wrap .i64 (r_1+r.2.2.2.2)),(r.2.1,r.1,wrap .i64 (r.2.2.2.2-r_1))]).bind fun r=>some (Sum.inl
 (wrap .i64 (s.1+1),s.2.1,r)) else some (Sum.inr (s.2.1,s.2.2))) (0,o.1,o.2)).bind fun o=>some (o.1,o.2)
theorem c53:SpecOK Tryz.prog 53 ⟨as53,rs53,m53⟩ :=
 fc tabs25OK [] an53 Tryz.f53 fun x=>by kernel_rfl
def tabs53:Tabs:=Tabs.add tabs25 53 ⟨as53,rs53,m53⟩
theorem tabs53OK:TabOK Tryz.prog tabs53:=TabOK.add tabs25OK c53 Tryz.call53

/-! putlog/putlogref09.in -/
def as111:List Ty:=[tI,tI,tI]
def rs111:List Ty:=[.bool]
def an111:Ann:=.a
def m111:(Int×Int×Int)→Option (Bool) :=
 fun x=>some (PE.andM (leM x.2.1 x.1) (leM x.1 x.2.2))
theorem c111:SpecOK Tryz.prog 111 ⟨as111,rs111,m111⟩ :=
 fc tabs53OK [] an111 Tryz.f111 fun x=>by kernel_rfl
def tabs111:Tabs:=Tabs.add tabs53 111 ⟨as111,rs111,m111⟩
theorem tabs111OK:TabOK Tryz.prog tabs111:=TabOK.add tabs53OK c111 Tryz.call111

/-! putlog/putlogref09.Bound -/
def as112:List Ty:=[tI,tB]
def rs112:List Ty:=[.bool]
def an112:Ann:=.a
def m112:(Int×Int×Int×Int)→Option (Bool) :=
 fun x=>(m111 (x.2.1,0,wrap .i64 (x.1-1))).bind fun r=>(bif r then m111 (x.2.2.1,0,wrap .i64 (x.1-1)) else some false).bind fun r_1 =>
 (bif PE.andM r r_1 then m111 (x.2.2.2,(-1000000000),1000000000) else some false).bind fun r_2=>some (PE.andM (PE.andM r r_1) r_2)
theorem c112:SpecOK Tryz.prog 112 ⟨as112,rs112,m112⟩ :=
 fc tabs111OK [] an112 Tryz.f112 fun x=>by kernel_rfl
def tabs112:Tabs:=Tabs.add tabs111 112 ⟨as112,rs112,m112⟩
theorem tabs112OK:TabOK Tryz.prog tabs112:=TabOK.add tabs111OK c112 Tryz.call112

/-! putlog/putlogref09.Valid -/
def as75:List Ty:=[(.pair tI (.list tB))]
def rs75:List Ty:=[.bool]
def an75:Ann:=.seq (.a) (.seq (.a) (.seq (.seq (.a) (.block (.loop ⟨[(3,.r (.c (.d (.d tI))))],(ra 14 16 ([])),[],[]⟩ [(.exit 0,⟨[],(3::ra 14 16 ([])),[],[]⟩),(.ret,⟨[(2,.r (.c (.d (.d .bool))))],(3::ra 14 16 ([])),[],[]⟩)] (.seq (.a) (.seq (.block (.seq (.reg [0,1,0,4,0,28,60,127,255] (ra 0 9 ([])) (z0::.s [0] []::z0::.s [0] []::za 5 ([])) (.a)) (.a))) (.a)))))) (.a)))
def m75:(Int×List (Int×Int×Int))→Option (Bool) :=
 fun x=>(m111 (x.1,0,16)).bind fun r=>bif PE.orM (PE.notM r) (ltM 60 (lenM x.2)) then some false else (loopM (fun (s:Int)=>bif ltM s (lenM x.2) then
 (idxM x.2 s).bind fun r_1=>(m112 (x.1,r_1.1,r_1.2.1,r_1.2.2)).bind fun r=>bif PE.notM r then some (Sum.inr (Sum.inr false)) else some (Sum.inl (wrap
 IntKind.i64 (s+1))) else some (Sum.inr (Sum.inl ()))) 0).bind fun o=>Sum.elim (fun (t:Unit)=>some true) (fun (t:Bool)=>some t) o
theorem c75:SpecOK Tryz.prog 75 ⟨as75,rs75,m75⟩ :=
 fc tabs112OK [] an75 Tryz.f75 fun x=>by kernel_rfl
def tabs75:Tabs:=Tabs.add tabs112 75 ⟨as75,rs75,m75⟩
theorem tabs75OK:TabOK Tryz.prog tabs75:=TabOK.add tabs112OK c75 Tryz.call75
end
noncomputable section

/-! putlog/putlogref09.sums -/
def as76:List Ty:=[(.pair tI (.list tB))]
def rs76:List Ty:=[(.list (.list tL))]
def an76:Ann:=.seq (.a) (.seq (.a) (.seq (.seq (.a) (.block (.loop ⟨[(3,.r (.c (.h 1))),(4,.r (.c (.d (.d tI))))],(ra 5 93 ([])),[],[.arr (.list tL)]⟩ [(.exit 0,⟨[(3,.r (.c (.h 1)))],(ra 4 94 ([])),[],[.arr (.list tL)]⟩)] (.seq (.a) (.seq (.block (.seq (.a) (.seq (.seq (.a) (.block (.loop ⟨[(5,.r (.c (.h 2))),(6,.r (.c (.d (.d tI))))],(7::8::9::10::11::ra 18 76 ([])),[],[.arr tL]⟩ [(.exit 2,⟨[(5,.r (.c (.h 2)))],(ra 6 6 (ra 18 76 ([]))),[],[.arr tL]⟩)] (.seq (.a) (.seq (.block (.seq (.a) (.seq (.seq (.a) (.block (.loop ⟨[(8,.r (.c (.d (.d tI))))],(ra 27 19 ([])),[(3,.arr tI)],[]⟩ [(.exit 4,⟨[],(8::ra 27 19 ([])),[(3,.arr tI)],[]⟩)] (.seq (.a) (.seq (.join [(.norm,⟨[],(ra 33 13 ([])),[(3,.arr tI)],[]⟩)] (.a)) (.a)))))) (.seq (.seq (.a) (.block (.loop ⟨[(9,.r (.c (.d (.d tI))))],(10::11::ra 46 44 ([])),[(3,.arr tI)],[]⟩ [(.exit 6,⟨[],(9::10::11::ra 46 44 ([])),[(3,.arr tI)],[]⟩)] (.seq (.a) (.seq (.join [(.norm,⟨[],(10::11::ra 57 33 ([])),[(3,.arr tI)],[]⟩)] (.block (.seq (.a) (.seq (.reg [0,0,2,7,15,0,63,127,0,256,1023,2047,4095] (ra 0 13 ([])) (za 3 (.s [1] []::.s [1] []::za 4 (.s [4] []::za 3 ([])))) (.a)) (.seq (.a) (.cond (.reg [0,0,2,0,0,16,56,120,0,0,512,1792,4088,8191,16383] (ra 0 15 ([])) [z0,z0,.s [4] [],z0,z0,.s [4] [],.s [3] [],.s [3] [],z0,z0,.s [4] [],z0,z0,.s [3] [],.s [3] [3]] (.a)) (.a))))))) (.a)))))) (.a))))) (.a)))))) (.a)))) (.a)))))) (.a)))
def m76:(Int×List (Int×Int×Int))→Option (List (List (List Int))) :=
 fun x=>(loopM (fun (s:Int×List (List (List Int)))=>bif leM s.1 x.1 then (loopM (fun (s_1:Int×List (List Int))=>bif ltM s_1.1 x.1 then (mkM x.1 x.1
 (nat_lit 8) 0).bind fun r=>(loopM (fun (s_2:Int×List Int)=>bif ltM s_2.1 x.1 then ((chkM s_2.1 (lenM s_2.2)).bind fun r_1=>(setM s_2.2 s_2.1 fun (x
 : Int)=>some 1152921504606846976).bind fun r_2=>bif PE.andM (eqM s.1 0) (eqM s_1.1 s_2.1) then (chkM s_2.1 (lenM r_2)).bind fun r_3=>(setM r_2 s_2.1 fun
 (x:Int)=>some 0).bind fun r=>some r else some r_2).bind fun o=>some (Sum.inl (wrap .i64 (s_2.1+1),o)) else some (Sum.inr s_2.2)) (0,
 r)).bind fun o=>(loopM (fun (s_2:Int×List Int)=>bif PE.andM (ltM s_2.1 (lenM x.2)) (ltM 0 s.1) then ((idxM x.2 s_2.1).bind fun r_1=>(chkM (wrap
 IntKind.i64 (s.1-1)) (lenM s.2)).bind fun r_2=>(idxM s.2 (wrap .i64 (s.1-1))).bind fun r_3=>(idxM r_3 s_1.1).bind fun r_4=>(idxM r_4
 r_1.1).bind fun r_5=>bif PE.notM (eqM r_5 1152921504606846976) then (chkM r_1.2.1 (lenM s_2.2)).bind fun r_6=>(idxM s_2.2 r_1.2.1).bind fun r_7=>(chkM
 r_1.2.1 (lenM s_2.2)).bind fun r_8=>(setM s_2.2 r_1.2.1 fun (x:Int)=>some (min r_7 (wrap .i64 (r_5+r_1.2.2)))).bind fun r=>some r else some
 s_2.2).bind fun o=>some (Sum.inl (wrap .i64 (s_2.1+1),o)) else some (Sum.inr s_2.2)) (0,o)).bind fun o_1=>(appM (nat_lit 24) s_1.2 [o_1]).bind
 fun r=>some (Sum.inl (wrap .i64 (s_1.1+1),r)) else some (Sum.inr s_1.2)) (0,[])).bind fun o=>(appM (nat_lit 24) s.2 [o]).bind fun r=>some
 (Sum.inl (wrap .i64 (s.1+1),r)) else some (Sum.inr s.2)) (0,[])).bind fun o=>some o
theorem c76:SpecOK Tryz.prog 76 ⟨as76,rs76,m76⟩ :=
 fc tabs75OK [] an76 Tryz.f76 fun x=>by kernel_rfl
def tabs76:Tabs:=Tabs.add tabs75 76 ⟨as76,rs76,m76⟩
theorem tabs76OK:TabOK Tryz.prog tabs76:=TabOK.add tabs75OK c76 Tryz.call76

/-! putlog/putlogref09.contradicts -/
def as100:List Ty:=[(.pair tI (.list tB))]
def rs100:List Ty:=[.bool]
def an100:Ann:=.seq (.a) (.seq (.a) (.seq (.seq (.a) (.block (.loop ⟨[(4,.r (.c (.d (.d tI))))],(5::ra 8 23 ([])),[],[]⟩ [(.exit 0,⟨[],(4::5::ra 8 23 ([])),[],[]⟩),(.ret,⟨[(2,.r (.c (.d (.d .bool))))],(4::5::ra 8 23 ([])),[],[]⟩)] (.seq (.a) (.seq (.block (.seq (.a) (.block (.loop ⟨[(5,.r (.c (.d (.d tI))))],(ra 14 17 ([])),[],[]⟩ [(.exit 2,⟨[],(5::ra 14 17 ([])),[],[]⟩),(.ret,⟨[(2,.r (.c (.d (.d .bool))))],(5::ra 14 17 ([])),[],[]⟩)] (.a))))) (.a)))))) (.a)))
def m100:(Int×List (Int×Int×Int))→Option (Bool) :=
 fun x=>(m76 (x.1,x.2)).bind fun r=>(loopM (fun (s:Int)=>bif leM s x.1 then (loopM (fun (s_1:Int)=>bif ltM s_1 x.1 then (idxM r s).bind fun r_1 =>
 (idxM r_1 s_1).bind fun r_2=>(idxM r_2 s_1).bind fun r=>bif ltM r 0 then some (Sum.inr (Sum.inr true)) else some (Sum.inl (wrap .i64 (s_1+1)))
 else some (Sum.inr (Sum.inl ()))) 0).bind fun o=>Sum.elim (fun (t:Unit)=>some (Sum.inl (wrap .i64 (s+1)))) (fun (t:Bool)=>some (Sum.inr
 (Sum.inr t))) o else some (Sum.inr (Sum.inl ()))) 1).bind fun o=>Sum.elim (fun (t:Unit)=>some false) (fun (t:Bool)=>some t) o
theorem c100:SpecOK Tryz.prog 100 ⟨as100,rs100,m100⟩ :=
 fc tabs76OK [] an100 Tryz.f100 fun x=>by kernel_rfl
def tabs100:Tabs:=Tabs.add tabs76 100 ⟨as100,rs100,m100⟩
theorem tabs100OK:TabOK Tryz.prog tabs100:=TabOK.add tabs76OK c100 Tryz.call100

/-! putlog/putlogref09.Close -/
def as69:List Ty:=[(.pair tI (.list tB))]
def rs69:List Ty:=[(.list tL),tI]
def an69:Ann:=.seq (.a) (.seq (.a) (.seq (.a) (.seq (.a) (.seq (.a) (.seq (.seq (.a) (.block (.loop ⟨[(5,.r (.c (.h 1))),(6,.r (.c (.d (.d tI))))],(7::8::9::ra 17 46 ([])),[],[.arr tL]⟩ [(.exit 0,⟨[(5,.r (.c (.h 1)))],(6::7::8::9::ra 17 46 ([])),[],[.arr tL]⟩)] (.seq (.a) (.seq (.block (.seq (.a) (.seq (.seq (.a) (.block (.loop ⟨[(8,.r (.c (.d (.d tI))))],(9::ra 26 33 ([])),[(2,.arr tI)],[]⟩ [(.exit 2,⟨[],(8::9::ra 26 33 ([])),[(2,.arr tI)],[]⟩)] (.seq (.a) (.seq (.block (.seq (.a) (.seq (.a) (.block (.loop ⟨[(9,.r (.c (.d (.d tI))))],(ra 35 24 ([])),[(2,.arr tI)],[]⟩ [(.exit 4,⟨[],(9::ra 35 24 ([])),[(2,.arr tI)],[]⟩)] (.seq (.a) (.seq (.block (.reg [0,0,0,0,12,28,0,0,192,448,0,1984,4032,0,16320,32704,65532,131071,262143] (ra 0 19 ([])) (za 4 (.s [2] []::.s [2] []::za 11 (.s [2] []::.s [2] [2]::[]))) (.a))) (.a)))))))) (.a)))))) (.a)))) (.a)))))) (.a))))))
def m69:(Int×List (Int×Int×Int))→Option (List (List Int)×Int) :=
 fun x=>(m75 (x.1,x.2)).bind fun r=>bif PE.notM r then some ([],90) else (m100 (x.1,x.2)).bind fun r_1=>bif r_1 then some ([],90) else (m76 (x.1,
 x.2)).bind fun r_2=>(loopM (fun (s:Int×List (List Int))=>bif ltM s.1 x.1 then (mkM x.1 x.1 (nat_lit 8) 0).bind fun r_3=>(loopM (fun (s_1:Int ×
 List Int)=>bif ltM s_1.1 x.1 then (chkM s_1.1 (lenM s_1.2)).bind fun r_4=>(setM s_1.2 s_1.1 fun (x:Int)=>some 1152921504606846976).bind fun r_5 =>
 (loopM (fun (s_2:Int×List Int)=>bif leM s_2.1 x.1 then (chkM s_1.1 (lenM s_2.2)).bind fun r_6=>(idxM s_2.2 s_1.1).bind fun r_7=>(idxM r_2
 s_2.1).bind fun r_8=>(idxM r_8 s.1).bind fun r_9=>(idxM r_9 s_1.1).bind fun r_10=>(chkM s_1.1 (lenM s_2.2)).bind fun r_11=>(setM s_2.2 s_1.1 fun (x :
 Int)=>some (min r_7 r_10)).bind fun r=>some (Sum.inl (wrap .i64 (s_2.1+1),r)) else some (Sum.inr s_2.2)) (0,r_5)).bind fun o=>some (Sum.inl
 (wrap .i64 (s_1.1+1),o)) else some (Sum.inr s_1.2)) (0,r_3)).bind fun o=>(appM (nat_lit 24) s.2 [o]).bind fun r=>some (Sum.inl (wrap
 IntKind.i64 (s.1+1),r)) else some (Sum.inr s.2)) (0,[])).bind fun o=>some (o,0)
theorem c69:SpecOK Tryz.prog 69 ⟨as69,rs69,m69⟩ :=
 fc tabs100OK [] an69 Tryz.f69 fun x=>by kernel_rfl
def tabs69:Tabs:=Tabs.add tabs100 69 ⟨as69,rs69,m69⟩
theorem tabs69OK:TabOK Tryz.prog tabs69:=TabOK.add tabs100OK c69 Tryz.call69

/-! putlog/putlogref10.apart -/
def as47:List Ty:=[(.pair tI (.pair (.list (.pair tI tB)) (.list tC))),tI,tI]
def rs47:List Ty:=[(.pair tI tB),.bool]
def an47:Ann:=.seq (.a) (.seq (.a) (.seq (.a) (.seq (.a) (.seq (.reg [0,0,3,7,0,31,63,127,0,0,768,1792,0,7936,16128,0,0,98304,229376,0,1015808,2064384,4161536,0,0,25165824,58720256,0,260046848,528482304,1073741823,2147483647,4294967295] (ra 0 33 ([])) (za 31 (.s [1] [1]::z0::[])) (.a)) (.a)))))
def m47:((Int×(List (Int×Int×Int×Int))×List (Int×Int×Int×Int×Int))×Int×Int)→Option ((Int×Int×Int×Int)×Bool) :=
 fun x=>(m53 ((x.1.1,x.1.2.1,x.1.2.2),0)).bind fun r=>(m69 (r.1,r.2)).bind fun r_1=>(m53 ((x.1.1,x.1.2.1,x.1.2.2),1)).bind fun r_2=>(m69 (r_2.1,
 r_2.2)).bind fun r_3=>(bif PE.notM (PE.orM (PE.notM (eqM r_1.2 0)) (PE.notM (eqM r_3.2 0))) then idxM r_1.1 x.2.1 else some []).bind fun r_4=>(bif PE.notM
 (PE.orM (PE.notM (eqM r_1.2 0)) (PE.notM (eqM r_3.2 0))) then idxM r_4 x.2.2 else some 0).bind fun r_5=>bif PE.orM (PE.orM (PE.notM (eqM r_1.2 0)) (PE.notM
 (eqM r_3.2 0))) (eqM r_5 1152921504606846976) then some ((0,0,0,0),false) else (idxM r_1.1 x.2.2).bind fun r_6=>(idxM r_6 x.2.1).bind fun r_7=>(idxM
 r_1.1 x.2.1).bind fun r_8=>(idxM r_8 x.2.2).bind fun r_9=>(idxM r_3.1 x.2.2).bind fun r_10=>(idxM r_10 x.2.1).bind fun r_11=>(idxM r_3.1 x.2.1).bind
 fun r_12=>(idxM r_12 x.2.2).bind fun r=>some ((wrap .i64 (negM r_7),r_9,wrap .i64 (negM r_11),r),true)
theorem c47:SpecOK Tryz.prog 47 ⟨as47,rs47,m47⟩ :=
 fc tabs69OK [] an47 Tryz.f47 fun x=>by kernel_rfl
def tabs47:Tabs:=Tabs.add tabs69 47 ⟨as47,rs47,m47⟩
theorem tabs47OK:TabOK Tryz.prog tabs47:=TabOK.add tabs69OK c47 Tryz.call47

/-! putlog/putlogref10.Box -/
def as21:List Ty:=[(.pair tI (.pair (.list (.pair tI tB)) (.list tC))),tI]
def rs21:List Ty:=[(.pair tI tB),tI]
def an21:Ann:=.a
def m21:((Int×(List (Int×Int×Int×Int))×List (Int×Int×Int×Int×Int))×Int)→Option ((Int×Int×Int×Int)×Int) :=
 fun x=>(m25 (x.1.1,x.1.2.1,x.1.2.2)).bind fun r=>(bif PE.notM (PE.notM r) then m46 (x.2,0,wrap .i64 (x.1.1-1)) else some false).bind fun r_1 =>
 bif PE.orM (PE.notM r) (PE.notM r_1) then some ((0,0,0,0),100) else (m47 ((x.1.1,x.1.2.1,x.1.2.2),x.1.1,x.2)).bind fun r=>bif PE.notM r.2 then some
 ((0,0,0,0),100) else some ((r.1.1,r.1.2.1,r.1.2.2.1,r.1.2.2.2),0)
theorem c21:SpecOK Tryz.prog 21 ⟨as21,rs21,m21⟩ :=
 fc tabs47OK [] an21 Tryz.f21 fun x=>by kernel_rfl
def tabs21:Tabs:=Tabs.add tabs47 21 ⟨as21,rs21,m21⟩
theorem tabs21OK:TabOK Tryz.prog tabs21:=TabOK.add tabs47OK c21 Tryz.call21

/-! putlog/putlogref10.Apart -/
def as22:List Ty:=[(.pair tI (.pair (.list (.pair tI tB)) (.list tC))),tI,tI]
def rs22:List Ty:=[(.pair tI tB),tI]
def an22:Ann:=.a
def m22:((Int×(List (Int×Int×Int×Int))×List (Int×Int×Int×Int×Int))×Int×Int)→Option ((Int×Int×Int×Int)×Int) :=
 fun x=>(m25 (x.1.1,x.1.2.1,x.1.2.2)).bind fun r=>(bif PE.notM (PE.notM r) then m46 (x.2.1,0,wrap .i64 (x.1.1-1)) else some false).bind fun r_1
 => (bif PE.notM (PE.orM (PE.notM r) (PE.notM r_1)) then m46 (x.2.2,0,wrap .i64 (x.1.1-1)) else some false).bind fun r_2=>bif PE.orM (PE.orM
 (PE.notM r) (PE.notM r_1)) (PE.notM r_2) then some ((0,0,0,0),100) else (m47 ((x.1.1,x.1.2.1,x.1.2.2),x.2.1,x.2.2)).bind fun r=>bif PE.notM r.2 then
 some ((0,0,0,0),100) else some ((r.1.1,r.1.2.1,r.1.2.2.1,r.1.2.2.2),0)
theorem c22:SpecOK Tryz.prog 22 ⟨as22,rs22,m22⟩ :=
 fc tabs21OK [] an22 Tryz.f22 fun x=>by kernel_rfl
def tabs22:Tabs:=Tabs.add tabs21 22 ⟨as22,rs22,m22⟩
theorem tabs22OK:TabOK Tryz.prog tabs22:=TabOK.add tabs21OK c22 Tryz.call22

/-! putlog/putlogref10.Tied -/
def as48:List Ty:=[(.pair tI (.pair (.list (.pair tI tB)) (.list tC)))]
def rs48:List Ty:=[(.list .bool)]
def an48:Ann:=.seq (.a) (.seq (.a) (.seq (.seq (.a) (.block (.loop ⟨[(4,.r (.c (.d (.d tI))))],(ra 10 15 ([])),[(1,.arr .bool)],[]⟩ [(.exit 0,⟨[],(4::ra 10 15 ([])),[(1,.arr .bool)],[]⟩)] (.a)))) (.seq (.seq (.a) (.block (.loop ⟨[(5,.r (.c (.d (.d tI))))],(6::ra 25 49 ([])),[(1,.arr .bool)],[]⟩ [(.exit 2,⟨[],(5::6::ra 25 49 ([])),[(1,.arr .bool)],[]⟩)] (.seq (.a) (.seq (.block (.seq (.a) (.block (.loop ⟨[(6,.r (.c (.d (.d tI))))],(ra 31 43 ([])),[(1,.arr .bool)],[]⟩ [(.exit 4,⟨[],(6::ra 31 43 ([])),[(1,.arr .bool)],[]⟩)] (.seq (.a) (.seq (.join [(.norm,⟨[],(ra 38 36 ([])),[(1,.arr .bool)],[]⟩)] (.a)) (.a))))))) (.a)))))) (.a))))
def m48:(Int×(List (Int×Int×Int×Int))×List (Int×Int×Int×Int×Int))→Option (List Bool) :=
 fun x=>(mkM x.1 x.1 (nat_lit 1) false).bind fun r=>(loopM (fun (s:Int×List Bool)=>bif ltM s.1 (lenM x.2.1) then (idxM x.2.1 s.1).bind fun r_1=>(chkM
 r_1.1 (lenM s.2)).bind fun r_2=>(setM s.2 r_1.1 fun (x:Bool)=>some true).bind fun r=>some (Sum.inl (wrap .i64 (s.1+1),r)) else some (Sum.inr
 s.2)) (0,r)).bind fun o=>(loopM (fun (s:Int×List Bool)=>bif ltM s.1 x.1 then (loopM (fun (s_1:Int×List Bool)=>bif ltM s_1.1 (lenM x.2.2) then
 ((idxM x.2.2 s_1.1).bind fun r_1=>(chkM r_1.1 (lenM s_1.2)).bind fun r_2=>(idxM s_1.2 r_1.1).bind fun r_3=>(bif PE.notM r_3 then idxM x.2.2 s_1.1 else
 some (0,0,0,0,0)).bind fun r_4=>(bif PE.notM r_3 then chkM r_4.2.1 (lenM s_1.2) else some ()).bind fun r_5=>(bif PE.notM r_3 then idxM s_1.2 r_4.2.1
 else some false).bind fun r_6=>bif PE.orM r_3 r_6 then (idxM x.2.2 s_1.1).bind fun r_7=>(chkM r_7.1 (lenM s_1.2)).bind fun r_8=>(setM s_1.2 r_7.1 fun (x
 : Bool)=>some true).bind fun r_9=>(idxM x.2.2 s_1.1).bind fun r_10=>(chkM r_10.2.1 (lenM r_9)).bind fun r_11=>(setM r_9 r_10.2.1 fun (x:Bool) =>
 some true).bind fun r=>some r else some s_1.2).bind fun o=>some (Sum.inl (wrap .i64 (s_1.1+1),o)) else some (Sum.inr s_1.2)) (0,s.2)).bind fun
 o=>some (Sum.inl (wrap .i64 (s.1+1),o)) else some (Sum.inr s.2)) (0,o)).bind fun o=>some o
theorem c48:SpecOK Tryz.prog 48 ⟨as48,rs48,m48⟩ :=
 fc tabs22OK [] an48 Tryz.f48 fun x=>by kernel_rfl
def tabs48:Tabs:=Tabs.add tabs22 48 ⟨as48,rs48,m48⟩
theorem tabs48OK:TabOK Tryz.prog tabs48:=TabOK.add tabs22OK c48 Tryz.call48

/-! putlog/putlogref03.text -/
def as101:List Ty:=[.bool,tL]
def rs101:List Ty:=[.str,.bool]
def an101:Ann:=.seq (.a) (.seq (.a) (.seq (.a) (.seq (.join [(.norm,⟨[(6,.r (.c (.h 0)))],[11,12,13,14],[],[.arr (.int .u8)]⟩)] (.a)) (.seq (.seq (.a) (.block (.loop ⟨[(6,.r (.c (.h 1))),(7,.r (.c (.d (.d tI))))],(ra 18 13 ([])),[(0,.gone)],[.arr (.int .u8)]⟩ [(.exit 0,⟨[(6,.r (.c (.h 1)))],(7::ra 18 13 ([])),[(0,.gone)],[.arr (.int .u8)]⟩)] (.a)))) (.a)))))
def m101:(Bool×List Int)→Option (List UInt8×Bool) :=
 fun x=>bif eqM (lenM x.2) 0 then some ([(48:UInt8)],true) else (bif x.1 then (appM (nat_lit 1) [] [45]).bind fun r=>some r else some []).bind fun o =>
 (loopM (fun (s:Int×List Int)=>bif leM 0 s.1 then (idxM x.2 s.1).bind fun r=>(appM (nat_lit 1) s.2 [wrap IntKind.u8 (wrap .i64 (48+r))]).bind
 fun r=>some (Sum.inl (wrap .i64 (s.1-1),r)) else some (Sum.inr s.2)) (wrap .i64 (lenM x.2-1),o)).bind fun o=>some (strB o,leM (lenM
 x.2) 200)
theorem c101:SpecOK Tryz.prog 101 ⟨as101,rs101,m101⟩ :=
 fc tabs48OK [] an101 Tryz.f101 fun x=>by kernel_rfl
def tabs101:Tabs:=Tabs.add tabs48 101 ⟨as101,rs101,m101⟩
theorem tabs101OK:TabOK Tryz.prog tabs101:=TabOK.add tabs48OK c101 Tryz.call101

/-! putlog/putlogref03.FromInt -/
def as70:List Ty:=[tI]
def rs70:List Ty:=[.str]
def an70:Ann:=.seq (.a) (.seq (.a) (.seq (.seq (.a) (.block (.loop ⟨[(3,.r (.c (.h 0))),(4,.r (.c (.d (.d tI))))],(5::ra 9 14 ([])),[],[.arr tI]⟩ [(.exit 0,⟨[(3,.r (.c (.h 0)))],(4::5::ra 9 14 ([])),[],[.arr tI]⟩)] (.seq (.a) (.seq (.block (.seq (.a) (.seq (.join [(.norm,⟨[(5,.r (.c (.d (.d tI))))],[15,16,17,18],[],[]⟩)] (.a)) (.a)))) (.a)))))) (.a)))
def m70:Int→Option (List UInt8) :=
 fun x=>(loopM (fun (s:Int×List Int)=>bif PE.notM (eqM s.1 0) then (remM s.1 10).bind fun r=>(bif ltM r 0 then some (wrap .i64 (negM r)) else
 some r).bind fun o=>(appM (nat_lit 8) s.2 [o]).bind fun r_1=>(divM .i64 s.1 10).bind fun r=>some (Sum.inl (r,r_1)) else some (Sum.inr s.2)) (x,
 [])).bind fun o=>(m101 (ltM x 0,o)).bind fun r=>some r.1
theorem c70:SpecOK Tryz.prog 70 ⟨as70,rs70,m70⟩ :=
 fc tabs101OK [] an70 Tryz.f70 fun x=>by kernel_rfl
def tabs70:Tabs:=Tabs.add tabs101 70 ⟨as70,rs70,m70⟩
theorem tabs70OK:TabOK Tryz.prog tabs70:=TabOK.add tabs101OK c70 Tryz.call70

/-! putlog/putlogref03.Valid -/
def as102:List Ty:=[.str]
def rs102:List Ty:=[.bool]
def an102:Ann:=.seq (.a) (.seq (.join [(.ret,⟨[(2,.r (.c (.d (.d .bool))))],(0::ra 4 12 ([])),[],[]⟩),(.norm,⟨[(0,.r (.c (.d (.d .str))))],(ra 4 12 ([])),[],[]⟩)] (.a)) (.seq (.seq (.a) (.block (.loop ⟨[(3,.r (.c (.d (.d tI))))],(ra 16 16 ([])),[],[]⟩ [(.exit 0,⟨[],(3::ra 16 16 ([])),[],[]⟩),(.ret,⟨[(2,.r (.c (.d (.d .bool))))],(3::ra 16 16 ([])),[],[]⟩)] (.a)))) (.a)))
def m102:List UInt8→Option (Bool) :=
 fun x=>((bif ltM 0 (lenM x) then byteM x 0 else some 0).bind fun r=>bif PE.andM (ltM 0 (lenM x)) (eqM r 45) then (sliceM x 1 (lenM x)).bind fun r=>bif
 eqsM r [(48:UInt8)] then some (Sum.inl false) else some (Sum.inr r) else some (Sum.inr x)).bind fun o=>Sum.elim (fun (t:Bool)=>some t) (fun (t:List
 UInt8)=>(loopM (fun (s:Int)=>bif ltM s (lenM t) then (byteM t s).bind fun r=>(bif PE.notM (ltM r 48) then byteM t s else some 0).bind fun r_1=>bif
 PE.orM (ltM r 48) (ltM 57 r_1) then some (Sum.inr (Sum.inr false)) else some (Sum.inl (wrap .i64 (s+1))) else some (Sum.inr (Sum.inl ()))) 0).bind
 fun o=>Sum.elim (fun (t_1:Unit)=>(bif PE.andM (PE.andM (ltM 0 (lenM t)) (leM (lenM t) 200)) (PE.notM (eqsM t [(48:UInt8)])) then byteM t 0 else some
 0).bind fun r=>some (PE.andM (PE.andM (ltM 0 (lenM t)) (leM (lenM t) 200)) (PE.orM (eqsM t [(48:UInt8)]) (PE.notM (eqM r 48))))) (fun (t:Bool)=>some
 t) o) o
theorem c102:SpecOK Tryz.prog 102 ⟨as102,rs102,m102⟩ :=
 fc tabs70OK [] an102 Tryz.f102 fun x=>by kernel_rfl
def tabs102:Tabs:=Tabs.add tabs70 102 ⟨as102,rs102,m102⟩
theorem tabs102OK:TabOK Tryz.prog tabs102:=TabOK.add tabs70OK c102 Tryz.call102

/-! putlog/putlogref03.digits -/
def as103:List Ty:=[.str]
def rs103:List Ty:=[.bool,tL]
def an103:Ann:=.seq (.a) (.seq (.a) (.seq (.join [(.norm,⟨[(0,.r (.c (.d (.d .str))))],[10,11,12],[],[]⟩)] (.a)) (.seq (.a) (.seq (.seq (.a) (.block (.loop ⟨[(5,.r (.c (.h 0))),(6,.r (.c (.d (.d tI))))],(ra 16 16 ([])),[],[.arr tI]⟩ [(.exit 0,⟨[(5,.r (.c (.h 0)))],(6::ra 16 16 ([])),[],[.arr tI]⟩)] (.a)))) (.a)))))
def m103:List UInt8→Option (Bool×List Int) :=
 fun x=>(byteM x 0).bind fun r=>(bif eqM r 45 then (sliceM x 1 (lenM x)).bind fun r=>some r else some x).bind fun o=>(loopM (fun (s:Int×List Int) =>
 bif PE.andM (leM 0 s.1) (PE.notM (eqsM o [(48:UInt8)])) then (byteM o s.1).bind fun r_1=>(appM (nat_lit 8) s.2 [wrap .i64 (wrap IntKind.u8 (r_1 -
 48))]).bind fun r=>some (Sum.inl (wrap .i64 (s.1-1),r)) else some (Sum.inr s.2)) (wrap .i64 (lenM o-1),[])).bind fun o=>some (eqM r
 45,o)
theorem c103:SpecOK Tryz.prog 103 ⟨as103,rs103,m103⟩ :=
 fc tabs102OK [] an103 Tryz.f103 fun x=>by kernel_rfl
def tabs103:Tabs:=Tabs.add tabs102 103 ⟨as103,rs103,m103⟩
theorem tabs103OK:TabOK Tryz.prog tabs103:=TabOK.add tabs102OK c103 Tryz.call103

/-! putlog/putlogref03.trim -/
def as120:List Ty:=[tL]
def rs120:List Ty:=[tL]
def an120:Ann:=.seq (.a) (.seq (.block (.loop ⟨[(0,.r (.c (.d (.d tL))))],(ra 3 17 ([])),[],[]⟩ [(.exit 0,⟨[(0,.r (.c (.d (.d tL))))],(ra 3 17 ([])),[],[]⟩)] (.a))) (.a))
def m120:List Int→Option (List Int) :=
 fun x=>(loopM (fun (s:List Int)=>(bif ltM 0 (lenM s) then idxM s (wrap .i64 (lenM s-1)) else some 0).bind fun r=>bif PE.andM (ltM 0 (lenM s))
 (eqM r 0) then (sliceM s 0 (wrap .i64 (lenM s-1))).bind fun r=>some (Sum.inl r) else some (Sum.inr s)) x).bind fun o=>some o
theorem c120:SpecOK Tryz.prog 120 ⟨as120,rs120,m120⟩ :=
 fc tabs103OK [] an120 Tryz.f120 fun x=>by kernel_rfl
def tabs120:Tabs:=Tabs.add tabs103 120 ⟨as120,rs120,m120⟩
theorem tabs120OK:TabOK Tryz.prog tabs120:=TabOK.add tabs103OK c120 Tryz.call120

/-! putlog/putlogref03.times -/
def as105:List Ty:=[tL,tL]
def rs105:List Ty:=[tL]
def an105:Ann:=.seq (.a) (.seq (.a) (.seq (.seq (.a) (.block (.loop ⟨[(6,.r (.c (.d (.d tI))))],(7::8::9::ra 16 48 ([])),[(0,.arr tI)],[]⟩ [(.exit 0,⟨[],(6::7::8::9::ra 16 48 ([])),[(0,.arr tI)],[]⟩)] (.seq (.a) (.seq (.block (.seq (.a) (.seq (.a) (.block (.loop ⟨[(7,.r (.c (.d (.d tI)))),(8,.r (.c (.d (.d tI))))],(9::ra 22 42 ([])),[(0,.arr tI)],[]⟩ [(.exit 2,⟨[],(7::8::9::ra 22 42 ([])),[(0,.arr tI)],[]⟩)] (.seq (.a) (.seq (.block (.seq (.a) (.seq (.join [(.norm,⟨[(9,.r (.c (.d (.d tI))))],(ra 40 15 ([])),[],[]⟩)] (.seq (.a) (.cond (.reg [0,0,0,6,14,0,0,96,224,510,1023,2047] (ra 0 12 ([])) (za 12 ([])) (.a)) (.a)))) (.a)))) (.a)))))))) (.a)))))) (.a)))
def m105:(List Int×List Int)→Option (List Int) :=
 fun x=>(mkM (wrap .i64 (lenM x.1+lenM x.2)) (wrap .i64 (lenM x.1+lenM x.2)) (nat_lit 8) 0).bind fun r=>(loopM (fun (s:Int×List Int) =>
 bif ltM s.1 (lenM x.1) then (loopM (fun (s_1:Int×Int×List Int)=>bif PE.orM (ltM s_1.2.1 (lenM x.2)) (ltM 0 s_1.1) then (chkM (wrap .i64 (s.1 +
 s_1.2.1)) (lenM s_1.2.2)).bind fun r_1=>(idxM s_1.2.2 (wrap .i64 (s.1+s_1.2.1))).bind fun r_2=>(bif ltM s_1.2.1 (lenM x.2) then (idxM x.1
 s.1).bind fun r_3=>(idxM x.2 s_1.2.1).bind fun r=>some (wrap .i64 (wrap .i64 (r_2+s_1.1)+wrap .i64 (r_3*r))) else some (wrap
 IntKind.i64 (r_2+s_1.1))).bind fun o=>(remM o 10).bind fun r_3=>(chkM (wrap .i64 (s.1+s_1.2.1)) (lenM s_1.2.2)).bind fun r_4=>(setM s_1.2.2
 (wrap .i64 (s.1+s_1.2.1)) fun (x:Int)=>some r_3).bind fun r_5=>(divM .i64 o 10).bind fun r=>some (Sum.inl (r,wrap IntKind.i64
 (s_1.2.1+1),r_5)) else some (Sum.inr s_1.2.2)) (0,0,s.2)).bind fun o=>some (Sum.inl (wrap .i64 (s.1+1),o)) else some (Sum.inr s.2)) (0,
 r)).bind fun o=>(m120 o).bind fun r=>some r
theorem c105:SpecOK Tryz.prog 105 ⟨as105,rs105,m105⟩ :=
 fc tabs120OK [] an105 Tryz.f105 fun x=>by kernel_rfl
def tabs105:Tabs:=Tabs.add tabs120 105 ⟨as105,rs105,m105⟩
theorem tabs105OK:TabOK Tryz.prog tabs105:=TabOK.add tabs120OK c105 Tryz.call105

/-! putlog/putlogref03.checked -/
def as104:List Ty:=[.bool,tL]
def rs104:List Ty:=[.str,tI]
def an104:Ann:=.a
def m104:(Bool×List Int)→Option (List UInt8×Int) :=
 fun x=>(m101 (x.1,x.2)).bind fun r=>bif PE.notM r.2 then some ([],30) else some (r.1,0)
theorem c104:SpecOK Tryz.prog 104 ⟨as104,rs104,m104⟩ :=
 fc tabs105OK [] an104 Tryz.f104 fun x=>by kernel_rfl
def tabs104:Tabs:=Tabs.add tabs105 104 ⟨as104,rs104,m104⟩
theorem tabs104OK:TabOK Tryz.prog tabs104:=TabOK.add tabs105OK c104 Tryz.call104

/-! putlog/putlogref03.Mul -/
def as71:List Ty:=[.str,.str]
def rs71:List Ty:=[.str,tI]
def an71:Ann:=.a
def m71:(List UInt8×List UInt8)→Option (List UInt8×Int) :=
 fun x=>(m102 x.1).bind fun r=>(bif PE.notM (PE.notM r) then m102 x.2 else some false).bind fun r_1=>bif PE.orM (PE.notM r) (PE.notM r_1) then some ([],
 30) else (m103 x.1).bind fun r_2=>(m103 x.2).bind fun r_3=>(m105 (r_2.2,r_3.2)).bind fun r_4=>(m104 (PE.notM (eqbM r_2.1 r_3.1),r_4)).bind fun r =>
 some (r.1,r.2)
theorem c71:SpecOK Tryz.prog 71 ⟨as71,rs71,m71⟩ :=
 fc tabs104OK [] an71 Tryz.f71 fun x=>by kernel_rfl
def tabs71:Tabs:=Tabs.add tabs104 71 ⟨as71,rs71,m71⟩
theorem tabs71OK:TabOK Tryz.prog tabs71:=TabOK.add tabs104OK c71 Tryz.call71

/-! putlog/putlogref03.plus -/
def as108:List Ty:=[tL,tL]
def rs108:List Ty:=[tL]
def an108:Ann:=.seq (.a) (.seq (.a) (.seq (.a) (.seq (.seq (.a) (.block (.loop ⟨[(5,.r (.c (.h 0))),(6,.r (.c (.d (.d tI)))),(7,.r (.c (.d (.d tI))))],(ra 8 45 ([])),[],[.arr tI]⟩ [(.exit 0,⟨[(5,.r (.c (.h 0)))],(ra 6 47 ([])),[],[.arr tI]⟩)] (.seq (.a) (.seq (.block (.seq (.a) (.seq (.join [(.norm,⟨[(8,.r (.c (.d (.d tI))))],(ra 26 10 ([])),[],[]⟩)] (.a)) (.seq (.join [(.norm,⟨[(8,.r (.c (.d (.d tI))))],(ra 36 10 ([])),[],[]⟩)] (.a)) (.a))))) (.a)))))) (.a))))
def m108:(List Int×List Int)→Option (List Int) :=
 fun x=>(loopM (fun (s:Int×Int×List Int)=>bif PE.orM (PE.orM (ltM s.2.1 (lenM x.1)) (ltM s.2.1 (lenM x.2))) (ltM 0 s.1) then (bif ltM s.2.1 (lenM x.1)
 then (idxM x.1 s.2.1).bind fun r=>some (wrap .i64 (s.1+r)) else some s.1).bind fun o=>(bif ltM s.2.1 (lenM x.2) then (idxM x.2 s.2.1).bind fun r
 => some (wrap .i64 (o+r)) else some o).bind fun o_1=>(remM o_1 10).bind fun r=>(appM (nat_lit 8) s.2.2 [r]).bind fun r_1=>(divM .i64 o_1
 10).bind fun r=>some (Sum.inl (r,wrap .i64 (s.2.1+1),r_1)) else some (Sum.inr s.2.2)) (0,0,[])).bind fun o=>some o
theorem c108:SpecOK Tryz.prog 108 ⟨as108,rs108,m108⟩ :=
 fc tabs71OK [] an108 Tryz.f108 fun x=>by kernel_rfl
def tabs108:Tabs:=Tabs.add tabs71 108 ⟨as108,rs108,m108⟩
theorem tabs108OK:TabOK Tryz.prog tabs108:=TabOK.add tabs71OK c108 Tryz.call108

/-! putlog/putlogref03.order -/
def as121:List Ty:=[tL,tL]
def rs121:List Ty:=[tI]
def an121:Ann:=.seq (.a) (.seq (.a) (.seq (.seq (.a) (.block (.loop ⟨[(5,.r (.c (.d (.d tI))))],(ra 19 13 ([])),[],[]⟩ [(.exit 0,⟨[],(5::ra 19 13 ([])),[],[]⟩),(.ret,⟨[(4,.r (.c (.d (.d tI))))],(5::ra 19 22 ([])),[],[]⟩)] (.seq (.a) (.seq (.block (.seq (.reg [0,0,3,7,0,0,48,112,255] (ra 0 9 ([])) (za 9 ([])) (.a)) (.cond (.seq (.seq (.reg [0,0,3,7,0,0,48,112,255] (ra 0 9 ([])) (za 9 ([])) (.a)) (.a)) (.a)) (.a)))) (.a)))))) (.a)))
def m121:(List Int×List Int)→Option (Int) :=
 fun x=>bif PE.notM (eqM (lenM x.1) (lenM x.2)) then bif ltM (lenM x.1) (lenM x.2) then some (-1) else some 1 else (loopM (fun (s:Int)=>bif leM 0 s then
 (idxM x.1 s).bind fun r=>(idxM x.2 s).bind fun r_1=>bif PE.notM (eqM r r_1) then (idxM x.1 s).bind fun r_2=>(idxM x.2 s).bind fun r=>bif ltM r_2 r
 then some (Sum.inr (Sum.inr (-1))) else some (Sum.inr (Sum.inr 1)) else some (Sum.inl (wrap .i64 (s-1))) else some (Sum.inr (Sum.inl ()))) (wrap
 IntKind.i64 (lenM x.1-1))).bind fun o=>Sum.elim (fun (t:Unit)=>some 0) (fun (t:Int)=>some t) o
theorem c121:SpecOK Tryz.prog 121 ⟨as121,rs121,m121⟩ :=
 fc tabs108OK [] an121 Tryz.f121 fun x=>by kernel_rfl
def tabs121:Tabs:=Tabs.add tabs108 121 ⟨as121,rs121,m121⟩
theorem tabs121OK:TabOK Tryz.prog tabs121:=TabOK.add tabs108OK c121 Tryz.call121

/-! putlog/putlogref03.minus -/
def as109:List Ty:=[tL,tL]
def rs109:List Ty:=[tL]
def an109:Ann:=.seq (.a) (.seq (.a) (.seq (.a) (.seq (.seq (.a) (.block (.loop ⟨[(5,.r (.c (.h 0))),(6,.r (.c (.d (.d tI)))),(7,.r (.c (.d (.d tI))))],(ra 8 31 ([])),[],[.arr tI]⟩ [(.exit 0,⟨[(5,.r (.c (.h 0)))],(ra 6 33 ([])),[],[.arr tI]⟩)] (.seq (.a) (.seq (.block (.seq (.a) (.seq (.join [(.norm,⟨[(8,.r (.c (.d (.d tI))))],(ra 21 10 ([])),[],[]⟩)] (.a)) (.seq (.a) (.seq (.join [(.norm,⟨[(6,.r (.c (.d (.d tI)))),(8,.r (.c (.d (.d tI))))],[31,32,33,34],[],[]⟩)] (.a)) (.a)))))) (.a)))))) (.a))))
def m109:(List Int×List Int)→Option (List Int) :=
 fun x=>(loopM (fun (s:Int×Int×List Int)=>bif ltM s.2.1 (lenM x.1) then (idxM x.1 s.2.1).bind fun r=>(bif ltM s.2.1 (lenM x.2) then (idxM x.2
 s.2.1).bind fun r_1=>some (wrap .i64 (wrap .i64 (r-s.1)-r_1)) else some (wrap .i64 (r-s.1))).bind fun o=>(bif ltM o 0 then some
 (1,wrap .i64 (o+10)) else some (0,o)).bind fun o_1=>(appM (nat_lit 8) s.2.2 [o_1.2]).bind fun r=>some (Sum.inl (o_1.1,wrap .i64 (s.2.1
 + 1),r)) else some (Sum.inr s.2.2)) (0,0,[])).bind fun o=>(m120 o).bind fun r=>some r
theorem c109:SpecOK Tryz.prog 109 ⟨as109,rs109,m109⟩ :=
 fc tabs121OK [] an109 Tryz.f109 fun x=>by kernel_rfl
def tabs109:Tabs:=Tabs.add tabs121 109 ⟨as109,rs109,m109⟩
theorem tabs109OK:TabOK Tryz.prog tabs109:=TabOK.add tabs121OK c109 Tryz.call109

/-! putlog/putlogref03.sum -/
def as106:List Ty:=[.bool,tL,.bool,tL]
def rs106:List Ty:=[.str,tI]
def an106:Ann:=.seq (.a) (.seq (.a) (.seq (.a) (.seq (.join [(.norm,⟨[(10,.r (.c (.d (.d .bool)))),(11,.r (.c (.d (.d tL))))],(ra 13 17 ([])),[],[]⟩)] (.a)) (.a))))
def m106:(Bool×List Int×Bool×List Int)→Option (List UInt8×Int) :=
 fun x=>(bif eqbM x.1 x.2.2.1 then (m108 (x.2.1,x.2.2.2)).bind fun r=>some (x.1,r) else (m121 (x.2.1,x.2.2.2)).bind fun r=>bif leM 0 r then (m109
 (x.2.1,x.2.2.2)).bind fun r=>some (x.1,r) else (m109 (x.2.2.2,x.2.1)).bind fun r=>some (x.2.2.1,r)).bind fun o=>(m104 (o.1,o.2)).bind fun r=>some
 (r.1,r.2)
theorem c106:SpecOK Tryz.prog 106 ⟨as106,rs106,m106⟩ :=
 fc tabs109OK [] an106 Tryz.f106 fun x=>by kernel_rfl
def tabs106:Tabs:=Tabs.add tabs109 106 ⟨as106,rs106,m106⟩
theorem tabs106OK:TabOK Tryz.prog tabs106:=TabOK.add tabs109OK c106 Tryz.call106

/-! putlog/putlogref03.Sub -/
def as72:List Ty:=[.str,.str]
def rs72:List Ty:=[.str,tI]
def an72:Ann:=.a
def m72:(List UInt8×List UInt8)→Option (List UInt8×Int) :=
 fun x=>(m102 x.1).bind fun r=>(bif PE.notM (PE.notM r) then m102 x.2 else some false).bind fun r_1=>bif PE.orM (PE.notM r) (PE.notM r_1) then some ([],
 30) else (m103 x.1).bind fun r_2=>(m103 x.2).bind fun r_3=>(m106 (r_2.1,r_2.2,PE.notM r_3.1,r_3.2)).bind fun r=>some (r.1,r.2)
theorem c72:SpecOK Tryz.prog 72 ⟨as72,rs72,m72⟩ :=
 fc tabs106OK [] an72 Tryz.f72 fun x=>by kernel_rfl
def tabs72:Tabs:=Tabs.add tabs106 72 ⟨as72,rs72,m72⟩
theorem tabs72OK:TabOK Tryz.prog tabs72:=TabOK.add tabs106OK c72 Tryz.call72

/-! putlog/putlogref03.divided -/
def as107:List Ty:=[tL,tL]
def rs107:List Ty:=[tL,tL]
def an107:Ann:=.seq (.a) (.seq (.a) (.seq (.a) (.seq (.seq (.a) (.block (.loop ⟨[(7,.r (.c (.d (.d tL)))),(8,.r (.c (.d (.d tI))))],(ra 15 25 ([])),[(0,.arr tI)],[]⟩ [(.exit 0,⟨[(7,.r (.c (.d (.d tL))))],(8::ra 15 25 ([])),[(0,.arr tI)],[]⟩)] (.seq (.a) (.seq (.block (.seq (.a) (.block (.loop ⟨[(7,.r (.c (.d (.d tL))))],(ra 27 13 ([])),[(0,.arr tI)],[]⟩ [(.exit 2,⟨[(7,.r (.c (.d (.d tL))))],(ra 27 13 ([])),[(0,.arr tI)],[]⟩)] (.a))))) (.a)))))) (.a))))
def m107:(List Int×List Int)→Option (List Int×List Int) :=
 fun x=>(mkM (lenM x.1) (lenM x.1) (nat_lit 8) 0).bind fun r=>(loopM (fun (s:List Int×Int×List Int)=>bif leM 0 s.2.1 then (idxM x.1 s.2.1).bind fun
 r_1=>(appM (nat_lit 8) [r_1] s.1).bind fun r_2=>(m120 r_2).bind fun r_3=>(loopM (fun (s_1:List Int×List Int)=>(m121 (s_1.1,x.2)).bind fun r_4 =>
 bif leM 0 r_4 then (m109 (s_1.1,x.2)).bind fun r_5=>(chkM s.2.1 (lenM s_1.2)).bind fun r_6=>(idxM s_1.2 s.2.1).bind fun r_7=>(chkM s.2.1 (lenM
 s_1.2)).bind fun r_8=>(setM s_1.2 s.2.1 fun (x:Int)=>some (wrap .i64 (r_7+1))).bind fun r=>some (Sum.inl (r_5,r)) else some (Sum.inr (s_1.1,
 s_1.2))) (r_3,s.2.2)).bind fun o=>some (Sum.inl (o.1,wrap .i64 (s.2.1-1),o.2)) else some (Sum.inr (s.1,s.2.2))) ([],wrap .i64 (lenM x.1
 - 1),r)).bind fun o=>(m120 o.2).bind fun r=>some (r,o.1)
theorem c107:SpecOK Tryz.prog 107 ⟨as107,rs107,m107⟩ :=
 fc tabs72OK [] an107 Tryz.f107 fun x=>by kernel_rfl
def tabs107:Tabs:=Tabs.add tabs72 107 ⟨as107,rs107,m107⟩
theorem tabs107OK:TabOK Tryz.prog tabs107:=TabOK.add tabs72OK c107 Tryz.call107

/-! putlog/putlogref03.Div -/
def as73:List Ty:=[.str,.str]
def rs73:List Ty:=[.str,.str,tI]
def an73:Ann:=.seq (.a) (.seq (.a) (.seq (.a) (.seq (.a) (.seq (.a) (.seq (.join [(.norm,⟨[(11,.r (.c (.d (.d tL)))),(12,.r (.c (.d (.d tL))))],(ra 45 12 ([])),[],[]⟩)] (.a)) (.a))))))
def m73:(List UInt8×List UInt8)→Option (List UInt8×List UInt8×Int) :=
 fun x=>(m102 x.1).bind fun r=>(bif PE.notM (PE.notM r) then m102 x.2 else some false).bind fun r_1=>bif PE.orM (PE.orM (PE.notM r) (PE.notM r_1)) (eqsM
 x.2 [(48:UInt8)]) then some ([],[],30) else (m103 x.1).bind fun r_2=>(m103 x.2).bind fun r_3=>(m107 (r_2.2,r_3.2)).bind fun r_4=>(bif PE.andM r_2.1
 (ltM 0 (lenM r_4.2)) then (m108 (r_4.1,[1])).bind fun r_5=>(m109 (r_3.2,r_4.2)).bind fun r=>some (r_5,r) else some (r_4.1,r_4.2)).bind fun o=>(m104
 (PE.notM (eqbM r_2.1 r_3.1),o.1)).bind fun r_5=>(m101 (false,o.2)).bind fun r=>bif PE.notM (eqM r_5.2 0) then some ([],[],r_5.2) else some (r_5.1,
 r.1,0)
theorem c73:SpecOK Tryz.prog 73 ⟨as73,rs73,m73⟩ :=
 fc tabs107OK [] an73 Tryz.f73 fun x=>by kernel_rfl
def tabs73:Tabs:=Tabs.add tabs107 73 ⟨as73,rs73,m73⟩
theorem tabs73OK:TabOK Tryz.prog tabs73:=TabOK.add tabs107OK c73 Tryz.call73

/-! putlog/putlogref03.Compare -/
def as110:List Ty:=[.str,.str]
def rs110:List Ty:=[tI]
def an110:Ann:=.a
def m110:(List UInt8×List UInt8)→Option (Int) :=
 fun x=>(m102 x.1).bind fun r=>(bif PE.notM (PE.notM r) then m102 x.2 else some false).bind fun r_1=>bif PE.orM (PE.notM r) (PE.notM r_1) then some 0 else
 (m103 x.1).bind fun r_2=>(m103 x.2).bind fun r_3=>bif PE.notM (eqbM r_2.1 r_3.1) then bif r_2.1 then some (-1) else some 1 else bif r_2.1 then (m121
 (r_3.2,r_2.2)).bind fun r=>some r else (m121 (r_2.2,r_3.2)).bind fun r=>some r
theorem c110:SpecOK Tryz.prog 110 ⟨as110,rs110,m110⟩ :=
 fc tabs73OK [] an110 Tryz.f110 fun x=>by kernel_rfl
def tabs110:Tabs:=Tabs.add tabs73 110 ⟨as110,rs110,m110⟩
theorem tabs110OK:TabOK Tryz.prog tabs110:=TabOK.add tabs73OK c110 Tryz.call110

/-! putlog/putlogref03.ToInt -/
def as74:List Ty:=[.str]
def rs74:List Ty:=[tI,tI]
def an74:Ann:=.seq (.a) (.seq (.a) (.seq (.a) (.seq (.seq (.a) (.block (.loop ⟨[(4,.r (.c (.d (.d tI)))),(5,.r (.c (.d (.d tI))))],(6::ra 20 24 ([])),[],[]⟩ [(.exit 0,⟨[(4,.r (.c (.d (.d tI))))],(5::6::ra 20 24 ([])),[],[]⟩)] (.seq (.a) (.seq (.join [(.norm,⟨[(4,.r (.c (.d (.d tI))))],(6::ra 26 18 ([])),[],[]⟩)] (.block (.seq (.a) (.seq (.a) (.seq (.join [(.norm,⟨[(6,.r (.c (.d (.d tI))))],[35,36,37,38,39],[],[]⟩)] (.a)) (.a)))))) (.a)))))) (.a))))
def m74:List UInt8→Option (Int×Int) :=
 fun x=>(m102 x).bind fun r=>(bif PE.notM (PE.notM r) then m110 (x,[(45:UInt8),(57:UInt8),(50:UInt8),(50:UInt8),(51:UInt8),(51:UInt8),(55
 : UInt8),(50:UInt8),(48:UInt8),(51:UInt8),(54:UInt8),(56:UInt8),(53:UInt8),(52:UInt8),(55:UInt8),(55:UInt8),(53:UInt8),(56 :
 UInt8),(48:UInt8),(56:UInt8)]) else some 0).bind fun r_1=>(bif PE.notM (PE.orM (PE.notM r) (ltM r_1 0)) then m110 (x,[(57:UInt8),(50:UInt8),(50
 : UInt8),(51:UInt8),(51:UInt8),(55:UInt8),(50:UInt8),(48:UInt8),(51:UInt8),(54:UInt8),(56:UInt8),(53:UInt8),(52:UInt8),(55 :
 UInt8),(55:UInt8),(53:UInt8),(56:UInt8),(48:UInt8),(55:UInt8)]) else some 0).bind fun r_2=>bif PE.orM (PE.orM (PE.notM r) (ltM r_1 0)) (ltM 0
 r_2) then some (0,30) else (loopM (fun (s:Int×Int)=>bif ltM s.2 (lenM x) then ((byteM x s.2).bind fun r_3=>bif eqM r_3 45 then some s.1 else (byteM x
 s.2).bind fun r_4=>((byteM x 0).bind fun r=>bif eqM r 45 then some (wrap .i64 (negM (wrap .i64 (wrap IntKind.u8 (r_4-48))))) else some
 (wrap .i64 (wrap IntKind.u8 (r_4-48)))).bind fun o=>some (wrap .i64 (wrap .i64 (10*s.1)+o))).bind fun o=>some (Sum.inl (o,wrap
 IntKind.i64 (s.2+1))) else some (Sum.inr s.1)) (0,0)).bind fun o=>some (o,0)
theorem c74:SpecOK Tryz.prog 74 ⟨as74,rs74,m74⟩ :=
 fc tabs110OK [] an74 Tryz.f74 fun x=>by kernel_rfl
def tabs74:Tabs:=Tabs.add tabs110 74 ⟨as74,rs74,m74⟩
theorem tabs74OK:TabOK Tryz.prog tabs74:=TabOK.add tabs110OK c74 Tryz.call74

/-! putlog/putlogref10.determinant -/
def as49:List Ty:=[(.list tL)]
def rs49:List Ty:=[tI]
def an49_0:Ann:=.reg [0,0,3,7,0,31,63,0,0,384,896,0,3968,8064,16383,32767,65535,65535,131071,524287] (ra 0 20 ([])) (z0::z0::.s [2] []::.s [2] []::z0::.s [2] []::.s [2] []::z0::z0::.s [2] []::.s [2] []::z0::.s [2] []::.s [2] []::za 6 ([])) (.a)
def an49:Ann:=.seq (.a) (.seq (.a) (.seq (.a) (.seq (.seq (.a) (.block (.loop ⟨[(4,.r (.c (.h 2))),(5,.r (.c (.d (.d tI))))],(6::7::ra 24 25 ([])),[(0,.gone),(1,.gone)],[.tab .str 3,.us]⟩ [(.exit 0,⟨[(4,.r (.c (.h 2)))],(5::6::7::ra 24 25 ([])),[(0,.gone),(1,.gone)],[.tab .str 3,.us]⟩)] (.seq (.a) (.seq (.block (.seq (.a) (.seq (.seq (.a) (.block (.loop ⟨[(6,.r (.c (.h 4))),(7,.r (.c (.d (.d tI))))],(ra 29 16 ([])),[],[.arr .str]⟩ [(.exit 2,⟨[(6,.r (.c (.h 4)))],(7::ra 29 16 ([])),[],[.arr .str]⟩)] (.a)))) (.a)))) (.a)))))) (.seq (.a) (.seq (.a) (.seq (.seq (.a) (.block (.loop ⟨[(8,.r (.c (.d (.d tI)))),(9,.r (.c (.d (.d .str)))),(10,.r (.c (.d (.d tI))))],(ra 11 9 (ra 49 119 ([]))),[(2,.tab .str 4),(3,.gone)],[.us]⟩ [(.exit 4,⟨[(8,.r (.c (.d (.d tI)))),(9,.r (.c (.d (.d .str))))],(ra 10 10 (ra 49 119 ([]))),[(2,.tab .str 4),(3,.gone)],[.us]⟩),(.ret,⟨[(2,.r (.c (.d (.d tI))))],(ra 8 12 (ra 49 119 ([]))),[(2,.tab .str 4),(3,.gone)],[.us]⟩)] (.seq (.a) (.seq (.block (.seq (.a) (.seq (.block (.loop ⟨[(11,.r (.c (.d (.d tI))))],(ra 55 15 ([])),[],[]⟩ [(.exit 6,⟨[(11,.r (.c (.d (.d tI))))],(ra 55 15 ([])),[],[]⟩)] (.a))) (.seq (.a) (.seq (.join [(.norm,⟨[(8,.r (.c (.d (.d tI))))],(ra 73 19 ([])),[(2,.tab .str 5),(4,.gone)],[.us]⟩)] (.seq (.a) (.cond (.seq (.reg [0,0,0,0,0,0,48,112,0,0,768,1792,4083,8179,16383,32767] (ra 0 16 ([])) (za 6 (.s [2] []::.s [2] []::z0::z0::.s [2] []::.s [2] []::.s [2] []::.s [2,2] [2]::.s [2] []::.s [2,2] [2]::[])) (.a)) (.a)) (.a)))) (.seq (.seq (.a) (.block (.loop ⟨[(12,.r (.c (.d (.d tI))))],(ra 13 7 (ra 94 67 ([]))),[(2,.tab .str 5)],[]⟩ [(.exit 8,⟨[],(ra 12 8 (ra 94 67 ([]))),[(2,.tab .str 5)],[]⟩)] (.seq (.a) (.seq (.block (.seq (.a) (.block (.loop ⟨[(13,.r (.c (.d (.d tI))))],(ra 14 6 (ra 101 60 ([]))),[(2,.tab .str 5)],[]⟩ [(.exit 10,⟨[],(ra 13 7 (ra 101 60 ([]))),[(2,.tab .str 5)],[]⟩)] (.seq (.a) (.seq (.block (.seq an49_0 (.seq an49_0 (.seq (.a) (.reg [0,0,3,7,0,0,0,96,224,480,480,480,1023,5119] (ra 0 14 ([])) (z0::z0::.s [2] []::.s [2] []::za 8 (.s [2] []::.s [2] [2]::[])) (.a)))))) (.a))))))) (.a)))))) (.a))))))) (.a)))))) (.a)))))))
def m49:List (List Int)→Option (Int) :=
 fun x=>(loopM (fun (s:Int×List (List (List UInt8)))=>bif ltM s.1 (lenM x) then (loopM (fun (s_1:Int×List (List UInt8))=>bif ltM s_1.1 (lenM x)
 then (idxM x s.1).bind fun r=>(idxM r s_1.1).bind fun r_1=>(m70 r_1).bind fun r_2=>(appM (nat_lit 16) s_1.2 [r_2]).bind fun r=>some (Sum.inl (wrap
 IntKind.i64 (s_1.1+1),r)) else some (Sum.inr s_1.2)) (0,[])).bind fun o=>(catR2 (nat_lit 24) s.2 [o]).bind fun r=>some (Sum.inl (wrap .i64 (s.1
 + 1),r)) else some (Sum.inr s.2)) (0,[])).bind fun o=>(loopM (fun (s:Int×List UInt8×Int×List (List (List UInt8)))=>bif ltM s.2.2.1 (lenM x) then
 (loopM (fun (s_1:Int)=>(bif ltM s_1 (lenM x) then chkM s_1 (lenM s.2.2.2) else some ()).bind fun r=>(bif ltM s_1 (lenM x) then chkM s_1 (lenM s.2.2.2)
 else some ()).bind fun r_1=>(bif ltM s_1 (lenM x) then (idxM s.2.2.2 s_1).bind fun (xs:List (List UInt8))=>chkM s.2.2.1 (lenM xs) else some ()).bind fun
 r_2=>(bif ltM s_1 (lenM x) then (idxM s.2.2.2 s_1).bind fun (xs:List (List UInt8))=>(idxM xs s.2.2.1).bind fun (x:List UInt8)=>some x else some
 []).bind fun r=>bif PE.andM (ltM s_1 (lenM x)) (eqsM r [(48:UInt8)]) then some (Sum.inl (wrap .i64 (s_1+1))) else some (Sum.inr s_1))
 s.2.2.1).bind fun o_1=>bif eqM o_1 (lenM x) then some (Sum.inr (Sum.inr (0,s.2.2.2))) else (bif PE.notM (eqM o_1 s.2.2.1) then (chkM s.2.2.1 (lenM
 s.2.2.2)).bind fun r=>(chkM s.2.2.1 (lenM s.2.2.2)).bind fun r_1=>(chkM o_1 (lenM s.2.2.2)).bind fun r_2=>(chkM o_1 (lenM s.2.2.2)).bind fun r_3 =>
 (chkM o_1 (lenM s.2.2.2)).bind fun r_4=>(swM s.2.2.2 o_1 s.2.2.1).bind fun r_5=>(chkM s.2.2.1 (lenM r_5)).bind fun r_6=>((sameM o_1 o_1).bind fun (x :
 Unit)=>(sameM s.2.2.1 s.2.2.1).bind fun (x:Unit)=>chkM s.2.2.1 (lenM r_5)).bind fun r=>some (wrap .i64 (negM s.1),r_5) else some (s.1,
 s.2.2.2)).bind fun o_2=>(loopM (fun (s_1:Int×List (List (List UInt8)))=>bif ltM s_1.1 (lenM x) then (loopM (fun (s_2:Int×List (List (List UInt8)))
 => bif ltM s_2.1 (lenM x) then (chkM s_1.1 (lenM s_2.2)).bind fun r=>(chkM s_1.1 (lenM s_2.2)).bind fun r_1=>((idxM s_2.2 s_1.1).bind fun (xs:List (List
 UInt8))=>chkM s_2.1 (lenM xs)).bind fun r_2=>((idxM s_2.2 s_1.1).bind fun (xs:List (List UInt8))=>(idxM xs s_2.1).bind fun (x:List UInt8)=>some
 x).bind fun r_3=>(chkM s.2.2.1 (lenM s_2.2)).bind fun r_4=>(chkM s.2.2.1 (lenM s_2.2)).bind fun r_5=>((idxM s_2.2 s.2.2.1).bind fun (xs:List (List
 UInt8))=>chkM s.2.2.1 (lenM xs)).bind fun r_6=>((idxM s_2.2 s.2.2.1).bind fun (xs:List (List UInt8))=>(idxM xs s.2.2.1).bind fun (x:List UInt8) =>
 some x).bind fun r_7=>(m71 (r_3,r_7)).bind fun r_8=>(chkM s_1.1 (lenM s_2.2)).bind fun r_9=>(chkM s_1.1 (lenM s_2.2)).bind fun r_10=>((idxM s_2.2
 s_1.1).bind fun (xs:List (List UInt8))=>chkM s.2.2.1 (lenM xs)).bind fun r_11=>((idxM s_2.2 s_1.1).bind fun (xs:List (List UInt8))=>(idxM xs
 s.2.2.1).bind fun (x:List UInt8)=>some x).bind fun r_12=>(chkM s.2.2.1 (lenM s_2.2)).bind fun r_13=>(chkM s.2.2.1 (lenM s_2.2)).bind fun r_14 =>
 ((idxM s_2.2 s.2.2.1).bind fun (xs:List (List UInt8))=>chkM s_2.1 (lenM xs)).bind fun r_15=>((idxM s_2.2 s.2.2.1).bind fun (xs:List (List UInt8)) =>
 (idxM xs s_2.1).bind fun (x:List UInt8)=>some x).bind fun r_16=>(m71 (r_12,r_16)).bind fun r_17=>(m72 (r_8.1,r_17.1)).bind fun r_18=>(chkM s_1.1
 (lenM s_2.2)).bind fun r_19=>(chkM s_1.1 (lenM s_2.2)).bind fun r_20=>(m73 (r_18.1,s.2.1)).bind fun r_21=>((idxM s_2.2 s_1.1).bind fun (xs:List (List
 UInt8))=>chkM s_2.1 (lenM xs)).bind fun r_22=>(set2M s_2.2 s_1.1 s_2.1 fun (x:List UInt8)=>some r_21.1).bind fun r=>some (Sum.inl (wrap IntKind.i64
 (s_2.1+1),r)) else some (Sum.inr s_2.2)) (wrap .i64 (s.2.2.1+1),s_1.2)).bind fun o=>some (Sum.inl (wrap .i64 (s_1.1+1),o)) else some
 (Sum.inr s_1.2)) (wrap .i64 (s.2.2.1+1),o_2.2)).bind fun o_3=>(chkM s.2.2.1 (lenM o_3)).bind fun r=>(chkM s.2.2.1 (lenM o_3)).bind fun r_1 =>
 ((idxM o_3 s.2.2.1).bind fun (xs:List (List UInt8))=>chkM s.2.2.1 (lenM xs)).bind fun r_2=>((idxM o_3 s.2.2.1).bind fun (xs:List (List UInt8)) =>
 (idxM xs s.2.2.1).bind fun (x:List UInt8)=>some x).bind fun r=>some (Sum.inl (o_2.1,r,wrap .i64 (s.2.2.1+1),o_3)) else some (Sum.inr
 (Sum.inl (s.1,s.2.1,s.2.2.2)))) (1,[(49:UInt8)],0,o)).bind fun o_1=>Sum.elim (fun (t:Int×List UInt8×List (List (List UInt8)))=>(m74
 t.2.1).bind fun r=>some (wrap .i64 (t.1*r.1))) (fun (t:Int×List (List (List UInt8)))=>some t.1) o_1
theorem c49:SpecOK Tryz.prog 49 ⟨as49,rs49,m49⟩ :=
 fc tabs74OK [1000004,1000047] an49 Tryz.f49 fun x=>by kernel_rfl
def tabs49:Tabs:=Tabs.add tabs74 49 ⟨as49,rs49,m49⟩
theorem tabs49OK:TabOK Tryz.prog tabs49:=TabOK.add tabs74OK c49 Tryz.call49

/-! putlog/putlogref10.gcd -/
def as51:List Ty:=[tI,tI]
def rs51:List Ty:=[tI]
def an51:Ann:=.seq (.a) (.seq (.block (.loop ⟨[(0,.r (.c (.d (.d tI)))),(1,.r (.c (.d (.d tI))))],(ra 5 6 ([])),[],[]⟩ [(.exit 0,⟨[(0,.r (.c (.d (.d tI))))],(1::ra 5 6 ([])),[],[]⟩)] (.seq (.a) (.block (.reg [0,0,0,6,3,31] (ra 0 6 ([])) (za 6 ([])) (.a)))))) (.a))
def m51:(Int×Int)→Option (Int) :=
 fun x=>(loopM (fun (s:Int×Int)=>bif PE.notM (eqM s.2 0) then (remM s.1 s.2).bind fun r=>some (Sum.inl (s.2,r)) else some (Sum.inr s.1)) (x.1,
 x.2)).bind fun o=>some (max o (wrap .i64 (negM o)))
theorem c51:SpecOK Tryz.prog 51 ⟨as51,rs51,m51⟩ :=
 fc tabs49OK [] an51 Tryz.f51 fun x=>by kernel_rfl
def tabs51:Tabs:=Tabs.add tabs49 51 ⟨as51,rs51,m51⟩
theorem tabs51OK:TabOK Tryz.prog tabs51:=TabOK.add tabs49OK c51 Tryz.call51
end
noncomputable section

/-! putlog/putlogref10.Least -/
def as23:List Ty:=[(.pair tI (.pair (.list (.pair tI tB)) (.list tC)))]
def rs23:List Ty:=[(.pair tL (.pair tL tI)),tI]
def an23_0:Ann:=.reg [0,0,2,7,15,0,32,127,255,511,1023,2047] (ra 0 12 ([])) [z0,z0,.s [7] [],.s [2] [],.s [2] [],z0,.s [7] [],.s [2] [],.s [2] [],z0,.s [2] [],.s [2] [2]] (.a)
def an23_3:Ann:=.reg [0,0,2,0,0,16,56,120,0,256,1016,2047,4095] (ra 0 13 ([])) [z0,z0,.s [7] [],z0,z0,.s [7] [],.s [4] [],.s [4] [],z0,.s [7] [],z0,.s [4] [],.s [4] [4]] (.a)
def an23_2:Ann:=.reg [0,0,2,0,0,16,56,120,0,256,1016,2047,4095] (ra 0 13 ([])) [z0,z0,.s [7] [],z0,z0,.s [7] [],.s [5] [],.s [5] [],z0,.s [7] [],z0,.s [5] [],.s [5] [5]] (.a)
def an23_1:Ann:=.seq an23_3 an23_2
def an23:Ann:=.seq (.a) (.seq (.a) (.seq (.a) (.seq (.a) (.seq (.a) (.seq (.a) (.seq (.seq (.a) (.block (.loop ⟨[(8,.r (.c (.d (.d tI))))],(ra 33 11 (ra 45 6 ([]))),[(2,.tab tI 6),(3,.gone)],[.us]⟩ [(.exit 0,⟨[],(8::ra 33 11 (ra 45 6 ([]))),[(2,.tab tI 6),(3,.gone)],[.us]⟩),(.ret,⟨[(3,.r (.c (.d (.d tI))))],(8::ra 33 18 ([])),[(1,.box [.l .nilS,.l .nilS,.d (.d tI)]),(2,.tab tI 6),(3,.gone)],[.us]⟩)] (.a)))) (.seq (.seq (.a) (.block (.loop ⟨[(9,.r (.c (.d (.d tI))))],(10::ra 51 47 ([])),[(2,.tab tI 6),(4,.arr tI),(5,.arr tI)],[]⟩ [(.exit 2,⟨[],(9::10::ra 51 47 ([])),[(2,.tab tI 6),(4,.arr tI),(5,.arr tI)],[]⟩)] (.seq (.a) (.seq (.block (.seq (.a) (.seq an23_0 an23_1))) (.a)))))) (.seq (.seq (.a) (.block (.loop ⟨[(11,.r (.c (.d (.d tI))))],(12::ra 98 104 ([])),[(2,.tab tI 6),(4,.arr tI),(5,.arr tI)],[]⟩ [(.exit 4,⟨[],(11::12::ra 98 104 ([])),[(2,.tab tI 6),(4,.arr tI),(5,.arr tI)],[]⟩)] (.seq (.a) (.seq (.block (.seq (.a) (.seq an23_0 (.seq an23_0 (.seq an23_0 (.seq an23_0 (.seq an23_3 (.seq an23_2 an23_1)))))))) (.a)))))) (.seq (.a) (.seq (.seq (.a) (.block (.loop ⟨[(5,.r (.c (.d (.d (.list tL))))),(14,.r (.c (.d (.d tI))))],(ra 205 26 ([])),[(2,.gone),(7,.box [.h 8,.h 9,.d (.d tI)])],[.arr tI,.arr tI]⟩ [(.exit 6,⟨[],(5::14::ra 205 26 ([])),[(2,.gone),(7,.box [.h 8,.h 9,.d (.d tI)])],[.arr tI,.arr tI]⟩)] (.seq (.a) (.seq (.block (.seq (.reg [0,1,0,0,0,28,60,124,255,511,1023] (ra 0 11 ([])) [z0,.s [7] [],z0,z0,z0,.k [10],.s [10] [],z0,.s [8] [11,8],z0,.s [7,11] [7]] (.kp [] ⟨[(216,.r (.c (.h 10)))],[],[],[.arr tL]⟩ (.seq (.a) (.seq (.a) (.seq (.seq (.a) (.block (.loop ⟨[(7,.r (.c (.h 10))),(8,.r (.c (.d (.d tI))))],(ra 9 24 ([])),[],[.arr tL]⟩ [(.exit 0,⟨[(7,.r (.c (.h 10)))],(ra 8 25 ([])),[],[.arr tL]⟩)] (.a)))) (.a)))) (.a))) (.reg [0,1,0,0,0,28,60,124,255,511,1023] (ra 0 11 ([])) [z0,.s [7] [],z0,z0,z0,.k [12],.s [12] [],z0,.s [9] [13,9],z0,.s [7,13] [7]] (.kp [] ⟨[(226,.r (.c (.h 12)))],[],[],[.arr tL]⟩ (.seq (.a) (.seq (.a) (.seq (.seq (.a) (.block (.loop ⟨[(7,.r (.c (.h 12))),(8,.r (.c (.d (.d tI))))],(ra 9 24 ([])),[],[.arr tL]⟩ [(.exit 0,⟨[(7,.r (.c (.h 12)))],(ra 8 25 ([])),[],[.arr tL]⟩)] (.a)))) (.a)))) (.a))))) (.a)))))) (.seq (.a) (.seq (.seq (.a) (.block (.loop ⟨[(15,.r (.c (.d (.d tI)))),(16,.r (.c (.d (.d tI))))],(ra 233 19 ([])),[],[]⟩ [(.exit 8,⟨[(15,.r (.c (.d (.d tI))))],(16::ra 233 19 ([])),[],[]⟩)] (.seq (.a) (.seq (.block (.reg [0,0,2,0,14,30,63,0,128,0,896,1920,4095,8191] (ra 0 14 ([])) [z0,z0,.s [7] [],z0,.s [8] [],.s [8] [],z0,z0,.s [7] [],z0,.s [9] [],.s [9] [],z0,z0] (.a))) (.a)))))) (.seq (.a) (.seq (.seq (.a) (.block (.loop ⟨[(17,.r (.c (.d (.d tI))))],(ra 257 28 ([])),[(8,.arr tI),(9,.arr tI)],[]⟩ [(.exit 10,⟨[],(17::ra 257 28 ([])),[(8,.arr tI),(9,.arr tI)],[]⟩)] (.seq (.a) (.seq (.block (.seq (.reg [0,1,0,0,8,0,56,120,0,504,1023,2047] (ra 0 12 ([])) [z0,.s [7] [],z0,z0,.s [7] [],z0,.s [8] [],.s [8] [],z0,z0,.s [8] [],.s [8] [8]] (.a)) (.reg [0,1,0,0,8,0,56,120,0,504,1023,2047] (ra 0 12 ([])) [z0,.s [7] [],z0,z0,.s [7] [],z0,.s [9] [],.s [9] [],z0,z0,.s [9] [],.s [9] [9]] (.a)))) (.a)))))) (.a)))))))))))))))
def m23:(Int×(List (Int×Int×Int×Int))×List (Int×Int×Int×Int×Int))→Option ((List Int×List Int×Int)×Int) :=
 fun x=>(m25 (x.1,x.2.1,x.2.2)).bind fun r=>bif PE.notM r then some (([],[],0),100) else (m48 (x.1,x.2.1,x.2.2)).bind fun r_1=>(mkM x.1 x.1 (nat_lit
 24) []).bind fun r_2=>(mkM x.1 x.1 (nat_lit 8) 0).bind fun r_3=>(mkM x.1 x.1 (nat_lit 8) 0).bind fun r_4=>(loopM (fun (s:Int×List (List Int))=>bif
 ltM s.1 x.1 then (idxM r_1 s.1).bind fun r_5=>bif PE.notM r_5 then some (Sum.inr (Sum.inr (100,0,s.2))) else (mkM x.1 x.1 (nat_lit 8) 0).bind fun r_6 =>
 (chkM s.1 (lenM s.2)).bind fun r_7=>(setM s.2 s.1 fun (x:List Int)=>some r_6).bind fun r=>some (Sum.inl (wrap .i64 (s.1+1),r)) else some
 (Sum.inr (Sum.inl s.2))) (0,r_2)).bind fun o=>Sum.elim (fun (t:List (List Int))=>(loopM (fun (s:Int×List (List Int)×List Int×List Int)=>bif
 ltM s.1 (lenM x.2.1) then (idxM x.2.1 s.1).bind fun r_5=>(chkM r_5.1 (lenM s.2.1)).bind fun r_6=>(chkM r_5.1 (lenM s.2.1)).bind fun r_7=>((idxM s.2.1
 r_5.1).bind fun (xs:List Int)=>chkM r_5.1 (lenM xs)).bind fun r_8=>((idxM s.2.1 r_5.1).bind fun (xs:List Int)=>(idxM xs r_5.1).bind fun (x:Int) =>
 some x).bind fun r_9=>((idxM s.2.1 r_5.1).bind fun (xs:List Int)=>chkM r_5.1 (lenM xs)).bind fun r_10=>(set2M s.2.1 r_5.1 r_5.1 fun (x:Int)=>some
 (wrap .i64 (r_9+1))).bind fun r_11=>(chkM r_5.1 (lenM s.2.2.1)).bind fun r_12=>(idxM s.2.2.1 r_5.1).bind fun r_13=>(chkM r_5.1 (lenM
 s.2.2.1)).bind fun r_14=>(setM s.2.2.1 r_5.1 fun (x:Int)=>some (wrap .i64 (r_13+r_5.2.1))).bind fun r_15=>(chkM r_5.1 (lenM s.2.2.2)).bind
 fun r_16=>(idxM s.2.2.2 r_5.1).bind fun r_17=>(chkM r_5.1 (lenM s.2.2.2)).bind fun r_18=>(setM s.2.2.2 r_5.1 fun (x:Int)=>some (wrap IntKind.i64
 (r_17+r_5.2.2.1))).bind fun r=>some (Sum.inl (wrap .i64 (s.1+1),r_11,r_15,r)) else some (Sum.inr (s.2.1,s.2.2.1,s.2.2.2))) (0,t,r_3,
 r_4)).bind fun o=>(loopM (fun (s:Int×List (List Int)×List Int×List Int)=>bif ltM s.1 (lenM x.2.2) then (idxM x.2.2 s.1).bind fun r_5=>(chkM
 r_5.1 (lenM s.2.1)).bind fun r_6=>(chkM r_5.1 (lenM s.2.1)).bind fun r_7=>((idxM s.2.1 r_5.1).bind fun (xs:List Int)=>chkM r_5.1 (lenM xs)).bind fun
 r_8=>((idxM s.2.1 r_5.1).bind fun (xs:List Int)=>(idxM xs r_5.1).bind fun (x:Int)=>some x).bind fun r_9=>((idxM s.2.1 r_5.1).bind fun (xs:List
 Int)=>chkM r_5.1 (lenM xs)).bind fun r_10=>(set2M s.2.1 r_5.1 r_5.1 fun (x:Int)=>some (wrap .i64 (r_9+1))).bind fun r_11=>(chkM r_5.2.1
 (lenM r_11)).bind fun r_12=>(chkM r_5.2.1 (lenM r_11)).bind fun r_13=>((idxM r_11 r_5.2.1).bind fun (xs:List Int)=>chkM r_5.2.1 (lenM xs)).bind fun
 r_14=>((idxM r_11 r_5.2.1).bind fun (xs:List Int)=>(idxM xs r_5.2.1).bind fun (x:Int)=>some x).bind fun r_15=>((idxM r_11 r_5.2.1).bind fun (xs :
 List Int)=>chkM r_5.2.1 (lenM xs)).bind fun r_16=>(set2M r_11 r_5.2.1 r_5.2.1 fun (x:Int)=>some (wrap .i64 (r_15+1))).bind fun r_17=>(chkM
 r_5.1 (lenM r_17)).bind fun r_18=>(chkM r_5.1 (lenM r_17)).bind fun r_19=>((idxM r_17 r_5.1).bind fun (xs:List Int)=>chkM r_5.2.1 (lenM xs)).bind fun
 r_20=>((idxM r_17 r_5.1).bind fun (xs:List Int)=>(idxM xs r_5.2.1).bind fun (x:Int)=>some x).bind fun r_21=>((idxM r_17 r_5.1).bind fun (xs:List
 Int)=>chkM r_5.2.1 (lenM xs)).bind fun r_22=>(set2M r_17 r_5.1 r_5.2.1 fun (x:Int)=>some (wrap .i64 (r_21-1))).bind fun r_23=>(chkM r_5.2.1
 (lenM r_23)).bind fun r_24=>(chkM r_5.2.1 (lenM r_23)).bind fun r_25=>((idxM r_23 r_5.2.1).bind fun (xs:List Int)=>chkM r_5.1 (lenM xs)).bind fun r_26
 => ((idxM r_23 r_5.2.1).bind fun (xs:List Int)=>(idxM xs r_5.1).bind fun (x:Int)=>some x).bind fun r_27=>((idxM r_23 r_5.2.1).bind fun (xs:List
 Int)=>chkM r_5.1 (lenM xs)).bind fun r_28=>(set2M r_23 r_5.2.1 r_5.1 fun (x:Int)=>some (wrap .i64 (r_27-1))).bind fun r_29=>(chkM r_5.2.1
 (lenM s.2.2.1)).bind fun r_30=>(idxM s.2.2.1 r_5.2.1).bind fun r_31=>(chkM r_5.2.1 (lenM s.2.2.1)).bind fun r_32=>(setM s.2.2.1 r_5.2.1 fun (x:Int) =>
 some (wrap .i64 (r_31+r_5.2.2.1))).bind fun r_33=>(chkM r_5.2.1 (lenM s.2.2.2)).bind fun r_34=>(idxM s.2.2.2 r_5.2.1).bind fun r_35=>(chkM
 r_5.2.1 (lenM s.2.2.2)).bind fun r_36=>(setM s.2.2.2 r_5.2.1 fun (x:Int)=>some (wrap .i64 (r_35+r_5.2.2.2.1))).bind fun r_37=>(chkM r_5.1
 (lenM r_33)).bind fun r_38=>(idxM r_33 r_5.1).bind fun r_39=>(chkM r_5.1 (lenM r_33)).bind fun r_40=>(setM r_33 r_5.1 fun (x:Int)=>some (wrap
 IntKind.i64 (r_39-r_5.2.2.1))).bind fun r_41=>(chkM r_5.1 (lenM r_37)).bind fun r_42=>(idxM r_37 r_5.1).bind fun r_43=>(chkM r_5.1 (lenM r_37)).bind
 fun r_44=>(setM r_37 r_5.1 fun (x:Int)=>some (wrap .i64 (r_43-r_5.2.2.2.1))).bind fun r=>some (Sum.inl (wrap .i64 (s.1+1),r_29,
 r_41,r)) else some (Sum.inr (s.2.1,s.2.2.1,s.2.2.2))) (0,o.1,o.2.1,o.2.2)).bind fun o_1=>(m49 o_1.1).bind fun r_5=>(loopM (fun (s:List (List Int)
 × Int×Int×List Int×List Int)=>bif ltM s.2.1 x.1 then ((loopM (fun (s_1:Int×List (List Int))=>bif ltM s_1.1 (lenM s.1) then (idxM s.1 s_1.1).bind
 fun r_6=>(appM (nat_lit 8) [] r_6).bind fun r_7=>(chkM s_1.1 (lenM o_1.2.1)).bind fun r_8=>(idxM o_1.2.1 s_1.1).bind fun r_9=>(chkM s.2.1 (lenM
 r_7)).bind fun r_10=>(setM r_7 s.2.1 fun (x:Int)=>some r_9).bind fun r_11=>(appM (nat_lit 24) s_1.2 [r_11]).bind fun r=>some (Sum.inl (wrap
 IntKind.i64 (s_1.1+1),r)) else some (Sum.inr s_1.2)) (0,[])).bind fun o=>some o).bind fun (ov:List (List Int))=>(m49 ov).bind fun r_6=>(appM
 (nat_lit 8) s.2.2.2.1 [r_6]).bind fun r_7=>((loopM (fun (s_1:Int×List (List Int))=>bif ltM s_1.1 (lenM s.1) then (idxM s.1 s_1.1).bind fun r_8 =>
 (appM (nat_lit 8) [] r_8).bind fun r_9=>(chkM s_1.1 (lenM o_1.2.2)).bind fun r_10=>(idxM o_1.2.2 s_1.1).bind fun r_11=>(chkM s.2.1 (lenM r_9)).bind fun
 r_12=>(setM r_9 s.2.1 fun (x:Int)=>some r_11).bind fun r_13=>(appM (nat_lit 24) s_1.2 [r_13]).bind fun r=>some (Sum.inl (wrap .i64 (s_1.1 +
 1),r)) else some (Sum.inr s_1.2)) (0,[])).bind fun o=>some o).bind fun (ov_1:List (List Int))=>(m49 ov_1).bind fun r_8=>(appM (nat_lit 8) s.2.2.2.2
 [r_8]).bind fun r=>some (Sum.inl (s.1,wrap .i64 (s.2.1+1),s.2.2.1,r_7,r)) else some (Sum.inr (s.2.2.1,s.2.2.2.1,s.2.2.2.2))) (o_1.1,0,r_5,
 [],[])).bind fun o_2=>(loopM (fun (s:Int×Int)=>bif ltM s.2 x.1 then (chkM s.2 (lenM o_2.2.1)).bind fun r_6=>(idxM o_2.2.1 s.2).bind fun r_7=>(m51
 (s.1,r_7)).bind fun r_8=>(chkM s.2 (lenM o_2.2.2)).bind fun r_9=>(idxM o_2.2.2 s.2).bind fun r_10=>(m51 (r_8,r_10)).bind fun r=>some (Sum.inl (r,
 wrap .i64 (s.2+1))) else some (Sum.inr s.1)) (o_2.1,0)).bind fun o_3=>(divM .i64 o_2.1 o_3).bind fun r_6=>(loopM (fun (s:Int×List Int
 × List Int)=>bif ltM s.1 x.1 then (chkM s.1 (lenM s.2.1)).bind fun r_7=>(idxM s.2.1 s.1).bind fun r_8=>(divM .i64 r_8 o_3).bind fun r_9=>(chkM
 s.1 (lenM s.2.1)).bind fun r_10=>(setM s.2.1 s.1 fun (x:Int)=>some r_9).bind fun r_11=>(chkM s.1 (lenM s.2.2)).bind fun r_12=>(idxM s.2.2 s.1).bind
 fun r_13=>(divM .i64 r_13 o_3).bind fun r_14=>(chkM s.1 (lenM s.2.2)).bind fun r_15=>(setM s.2.2 s.1 fun (x:Int)=>some r_14).bind fun r =>
 some (Sum.inl (wrap .i64 (s.1+1),r_11,r)) else some (Sum.inr (s.2.1,s.2.2))) (0,o_2.2.1,o_2.2.2)).bind fun o=>some ((o.1,o.2,r_6),0)) (fun
 (t:Int×Int×List (List Int))=>some (([],[],t.2.1),t.1)) o
theorem c23:SpecOK Tryz.prog 23 ⟨as23,rs23,m23⟩ :=
 fc (TabOK.drop tabs51OK [50]) [26] an23 Tryz.f23 fun x=>by kernel_rfl
def tabs23:Tabs:=Tabs.add tabs51 23 ⟨as23,rs23,m23⟩
theorem tabs23OK:TabOK Tryz.prog tabs23:=TabOK.add tabs51OK c23 Tryz.call23

/-! putlog/putlogref09.first -/
def as77:List Ty:=[(.pair tI (.list tB)),(.list (.list tL)),tI,tI,tI,tI]
def rs77:List Ty:=[tL,.bool]
def an77:Ann:=.seq (.a) (.seq (.a) (.seq (.a) (.seq (.block (.loop ⟨[(2,.r (.c (.d (.d tI)))),(4,.r (.c (.d (.d tI)))),(5,.r (.c (.d (.d tI)))),(14,.r (.c (.h 1)))],(15::16::ra 29 64 ([])),[],[.arr tI]⟩ [(.exit 0,⟨[(14,.r (.c (.h 1)))],(2::4::5::15::16::ra 29 64 ([])),[],[.arr tI]⟩)] (.seq (.a) (.block (.seq (.seq (.a) (.block (.loop ⟨[(15,.r (.c (.d (.d tI))))],(16::ra 31 50 ([])),[],[]⟩ [(.exit 2,⟨[(2,.r (.c (.d (.d tI)))),(5,.r (.c (.d (.d tI)))),(14,.r (.c (.h 2)))],(15::16::ra 31 60 ([])),[(1,.gone)],[.arr tI]⟩)] (.seq (.a) (.seq (.block (.seq (.a) (.seq (.seq (.reg [0,1,0,7,15,31,31,95,255,511,31,1055,4095,8191,31,32767,65535,131071,262143,524287,1048575,2097151,1048575,1048575,9437183,30408703,63963135,1048575,135266303,533725183,1070596095,1048575,4291821567,8586788863,17179869183,1048575,68719476735,137438953471] (ra 0 38 ([])) (z0::.s [2] []::za 9 (.s [2] []::za 9 (.s [2] []::za 6 (.s [2] []::za 9 ([]))))) (.a)) (.a)) (.a)))) (.a)))))) (.a)))))) (.a))))
def m77:((Int×List (Int×Int×Int))×List (List (List Int))×Int×Int×Int×Int)→Option (List Int×Bool) :=
 fun x=>(idxM x.2.1 x.2.2.2.2.1).bind fun r=>(idxM r x.2.2.1).bind fun r_1=>(idxM r_1 x.2.2.2.1).bind fun r_2=>bif ltM x.2.2.2.2.2 r_2 then some ([],
 false) else (loopM (fun (s:Int×Int×Int×List Int)=>bif ltM 0 s.2.1 then (loopM (fun (s_1:Int)=>bif ltM s_1 (lenM x.1.2) then (idxM x.1.2
 s_1).bind fun r_3=>(bif PE.notM (PE.notM (eqM r_3.1 s.1)) then idxM x.2.1 (wrap .i64 (s.2.1-1)) else some []).bind fun r_4=>(bif PE.notM (PE.notM
 (eqM r_3.1 s.1)) then idxM r_4 r_3.2.1 else some []).bind fun r_5=>(bif PE.notM (PE.notM (eqM r_3.1 s.1)) then idxM r_5 x.2.2.2.1 else some 0).bind fun r_6
 => (bif PE.notM (PE.orM (PE.notM (eqM r_3.1 s.1)) (eqM r_6 1152921504606846976)) then idxM x.2.1 (wrap .i64 (s.2.1-1)) else some []).bind fun r_7 =>
 (bif PE.notM (PE.orM (PE.notM (eqM r_3.1 s.1)) (eqM r_6 1152921504606846976)) then idxM r_7 r_3.2.1 else some []).bind fun r_8=>(bif PE.notM (PE.orM
 (PE.notM (eqM r_3.1 s.1)) (eqM r_6 1152921504606846976)) then idxM r_8 x.2.2.2.1 else some 0).bind fun r_9=>bif PE.orM (PE.orM (PE.notM (eqM r_3.1 s.1))
 (eqM r_6 1152921504606846976)) (ltM s.2.2.1 (wrap .i64 (r_3.2.2+r_9))) then some (Sum.inl (wrap .i64 (s_1+1))) else (appM (nat_lit 8)
 s.2.2.2 [s_1]).bind fun r=>some (Sum.inr (r_3.2.1,wrap .i64 (s.2.2.1-r_3.2.2),r)) else some (Sum.inr (s.1,s.2.2.1,s.2.2.2))) 0).bind fun o =>
 some (Sum.inl (o.1,wrap .i64 (s.2.1-1),o.2.1,o.2.2)) else some (Sum.inr s.2.2.2)) (x.2.2.1,x.2.2.2.2.1,x.2.2.2.2.2,[])).bind fun o=>some (o,
 true)
theorem c77:SpecOK Tryz.prog 77 ⟨as77,rs77,m77⟩ :=
 fc tabs23OK [] an77 Tryz.f77 fun x=>by kernel_rfl
def tabs77:Tabs:=Tabs.add tabs23 77 ⟨as77,rs77,m77⟩
theorem tabs77OK:TabOK Tryz.prog tabs77:=TabOK.add tabs23OK c77 Tryz.call77

/-! putlog/putlogref09.Before -/
def as78:List Ty:=[tL,tL]
def rs78:List Ty:=[.bool]
def an78:Ann:=.seq (.a) (.seq (.seq (.a) (.block (.loop ⟨[(5,.r (.c (.d (.d tI))))],(ra 6 21 ([])),[],[]⟩ [(.exit 0,⟨[],(ra 5 22 ([])),[],[]⟩),(.ret,⟨[(4,.r (.c (.d (.d .bool))))],(ra 5 31 ([])),[],[]⟩)] (.seq (.a) (.seq (.block (.seq (.reg [0,0,3,7,0,0,48,112,255] (ra 0 9 ([])) (za 9 ([])) (.a)) (.cond (.seq (.reg [0,0,3,7,0,0,48,112,255,511] (ra 0 10 ([])) (za 10 ([])) (.a)) (.a)) (.a)))) (.a)))))) (.a))
def m78:(List Int×List Int)→Option (Bool) :=
 fun x=>(loopM (fun (s:Int)=>bif PE.andM (ltM s (lenM x.1)) (ltM s (lenM x.2)) then (idxM x.1 s).bind fun r=>(idxM x.2 s).bind fun r_1=>bif PE.notM
 (eqM r r_1) then (idxM x.1 s).bind fun r_2=>(idxM x.2 s).bind fun r=>some (Sum.inr (Sum.inr (ltM r_2 r))) else some (Sum.inl (wrap .i64 (s+1)))
 else some (Sum.inr (Sum.inl ()))) 0).bind fun o=>Sum.elim (fun (t:Unit)=>some false) (fun (t:Bool)=>some t) o
theorem c78:SpecOK Tryz.prog 78 ⟨as78,rs78,m78⟩ :=
 fc tabs77OK [] an78 Tryz.f78 fun x=>by kernel_rfl
def tabs78:Tabs:=Tabs.add tabs77 78 ⟨as78,rs78,m78⟩
theorem tabs78OK:TabOK Tryz.prog tabs78:=TabOK.add tabs77OK c78 Tryz.call78

/-! putlog/putlogref09.Cycle -/
def as52:List Ty:=[(.pair tI (.list tB))]
def rs52:List Ty:=[tL,.bool]
def an52:Ann:=.seq (.a) (.seq (.a) (.seq (.a) (.seq (.seq (.a) (.block (.loop ⟨[(5,.r (.c (.d (.d tI))))],(6::7::8::9::ra 15 34 ([])),[],[]⟩ [(.exit 0,⟨[],(5::6::7::8::9::ra 15 34 ([])),[],[]⟩),(.ret,⟨[(2,.r (.c (.d (.n tI)))),(3,.r (.c (.d (.d .bool))))],(5::6::7::8::9::ra 15 35 ([])),[],[]⟩)] (.seq (.a) (.seq (.block (.seq (.a) (.seq (.seq (.a) (.block (.loop ⟨[(6,.r (.c (.d (.n tI)))),(7,.r (.c (.d (.d tI))))],(8::9::ra 21 26 ([])),[],[]⟩ [(.exit 2,⟨[(6,.r (.c (.d (.n tI))))],(7::8::9::ra 21 26 ([])),[],[]⟩)] (.seq (.a) (.seq (.join [(.norm,⟨[(6,.r (.c (.d (.n tI))))],(8::9::ra 27 20 ([])),[],[]⟩)] (.a)) (.a)))))) (.a)))) (.a)))))) (.a))))
def m52:(Int×List (Int×Int×Int))→Option (List Int×Bool) :=
 fun x=>(m75 (x.1,x.2)).bind fun r=>bif PE.notM r then some ([],false) else (m76 (x.1,x.2)).bind fun r_1=>(loopM (fun (s:Int)=>bif leM s x.1 then
 (loopM (fun (s_1:Option (List Int)×Int)=>bif ltM s_1.2 x.1 then ((m77 ((x.1,x.2),r_1,s_1.2,s_1.2,s,(-1))).bind fun r_2=>(bif PE.andM r_2.2
 (PE.notM (Option.isNone s_1.1)) then m78 (r_2.1,getL s_1.1) else some false).bind fun r_3=>bif PE.andM r_2.2 (PE.orM (Option.isNone s_1.1) r_3) then (neM
 r_2.1).bind fun r=>some (some r) else some s_1.1).bind fun o=>some (Sum.inl (o,wrap .i64 (s_1.2+1))) else some (Sum.inr s_1.1)) (none,0)).bind
 fun o=>bif PE.notM (Option.isNone o) then some (Sum.inr (Sum.inr (o,true))) else some (Sum.inl (wrap .i64 (s+1))) else some (Sum.inr (Sum.inl
 ()))) 1).bind fun o=>Sum.elim (fun (t:Unit)=>some ([],false)) (fun (t:Option (List Int)×Bool)=>some (getL t.1,t.2)) o
theorem c52:SpecOK Tryz.prog 52 ⟨as52,rs52,m52⟩ :=
 fc tabs78OK [6,6] an52 Tryz.f52 fun x=>by kernel_rfl
def tabs52:Tabs:=Tabs.add tabs78 52 ⟨as52,rs52,m52⟩
theorem tabs52OK:TabOK Tryz.prog tabs52:=TabOK.add tabs78OK c52 Tryz.call52

/-! putlog/putlogref10.Blame -/
def as24:List Ty:=[(.pair tI (.pair (.list (.pair tI tB)) (.list tC)))]
def rs24:List Ty:=[tL,.bool]
def an24:Ann:=.seq (.a) (.seq (.a) (.seq (.a) (.seq (.a) (.seq (.a) (.seq (.join [(.norm,⟨[(4,.r (.c (.d (.d tL))))],(ra 33 13 ([])),[],[]⟩)] (.a)) (.seq (.a) (.seq (.seq (.a) (.block (.loop ⟨[(8,.r (.c (.h 1))),(9,.r (.c (.d (.d tI))))],(10::11::ra 46 32 ([])),[],[.arr tI]⟩ [(.exit 0,⟨[(8,.r (.c (.h 1)))],(9::10::11::ra 46 32 ([])),[],[.arr tI]⟩)] (.seq (.a) (.seq (.join [(.norm,⟨[(8,.r (.c (.h 2)))],(10::11::ra 57 21 ([])),[(1,.gone)],[.arr tI]⟩)] (.block (.seq (.a) (.seq (.seq (.a) (.block (.loop ⟨[(10,.r (.c (.d (.d .bool)))),(11,.r (.c (.d (.d tI))))],(ra 57 16 ([])),[],[]⟩ [(.exit 2,⟨[(10,.r (.c (.d (.d .bool))))],(11::ra 57 16 ([])),[],[]⟩)] (.a)))) (.a))))) (.a)))))) (.a))))))))
def m24:(Int×(List (Int×Int×Int×Int))×List (Int×Int×Int×Int×Int))→Option (List Int×Bool) :=
 fun x=>(m25 (x.1,x.2.1,x.2.2)).bind fun r=>bif PE.notM r then some ([],false) else (m53 ((x.1,x.2.1,x.2.2),0)).bind fun r_1=>(m52 (r_1.1,
 r_1.2)).bind fun r_2=>(m53 ((x.1,x.2.1,x.2.2),1)).bind fun r_3=>(m52 (r_3.1,r_3.2)).bind fun r_4=>bif PE.andM (PE.notM r_2.2) (PE.notM r_4.2) then
 some ([],false) else (bif PE.orM (PE.notM r_2.2) (PE.andM r_4.2 (ltM (lenM r_4.1) (lenM r_2.1))) then some r_4.1 else some r_2.1).bind fun o=>(loopM (fun
 (s:Int×List Int)=>bif ltM s.1 (wrap .i64 (lenM x.2.1+lenM x.2.2)) then ((loopM (fun (s_1:Bool×Int)=>bif ltM s_1.2 (lenM o) then (bif
 PE.notM s_1.1 then idxM o s_1.2 else some 0).bind fun r_5=>(bif PE.notM s_1.1 then divM .i64 r_5 2 else some 0).bind fun r=>some (Sum.inl (PE.orM
 s_1.1 (eqM r s.1),wrap .i64 (s_1.2+1))) else some (Sum.inr s_1.1)) (false,0)).bind fun o_1=>bif o_1 then (appM (nat_lit 8) s.2 [s.1]).bind fun r
 => some r else some s.2).bind fun o=>some (Sum.inl (wrap .i64 (s.1+1),o)) else some (Sum.inr s.2)) (0,[])).bind fun o=>some (o,true)
theorem c24:SpecOK Tryz.prog 24 ⟨as24,rs24,m24⟩ :=
 fc tabs52OK [] an24 Tryz.f24 fun x=>by kernel_rfl
def tabs24:Tabs:=Tabs.add tabs52 24 ⟨as24,rs24,m24⟩
theorem tabs24OK:TabOK Tryz.prog tabs24:=TabOK.add tabs52OK c24 Tryz.call24

/-! putlog/putlogref10.Allowed -/
def as26:List Ty:=[(.pair tI (.pair (.list (.pair tI tB)) (.list tC))),tQ]
def rs26:List Ty:=[.bool]
def an26:Ann:=.seq (.a) (.seq (.a) (.seq (.seq (.a) (.block (.loop ⟨[(5,.r (.c (.d (.d tI))))],(ra 20 22 ([])),[],[]⟩ [(.exit 0,⟨[],(5::ra 20 22 ([])),[],[]⟩),(.ret,⟨[(4,.r (.c (.d (.d .bool))))],(5::ra 20 22 ([])),[],[]⟩)] (.a)))) (.seq (.seq (.a) (.block (.loop ⟨[(6,.r (.c (.d (.d tI))))],(7::ra 42 46 ([])),[],[]⟩ [(.exit 2,⟨[],(6::7::ra 42 46 ([])),[],[]⟩),(.ret,⟨[(4,.r (.c (.d (.d .bool))))],(6::7::ra 42 46 ([])),[],[]⟩)] (.seq (.a) (.seq (.block (.seq (.a) (.seq (.reg [0,0,2,7,15,31,0,64,255,0,512,1536,0,4096,16383,32767,65535,131071,131071,393215,1048575,2097151,4194303,131071,8519679,33554431,131071,67239935,201457663,131071,537001983,2147483647,4294967295,8589934591] (ra 0 34 ([])) (z0::z0::.s [1] []::za 4 (.s [1] []::z0::z0::.s [1] []::z0::z0::.s [1] []::za 5 (.s [1] []::za 4 (.s [1] []::z0::z0::.s [1] []::z0::z0::.s [1] []::za 3 ([]))))) (.a)) (.a)))) (.a)))))) (.seq (.seq (.a) (.block (.loop ⟨[(8,.r (.c (.d (.d tI))))],(9::ra 88 60 ([])),[],[]⟩ [(.exit 4,⟨[],(8::9::ra 88 60 ([])),[],[]⟩),(.ret,⟨[(4,.r (.c (.d (.d .bool))))],(8::9::ra 88 60 ([])),[],[]⟩)] (.seq (.a) (.seq (.block (.seq (.a) (.seq (.reg [0,0,2,7,15,31,0,0,128,448,960,1984,4095,0,8192,32767,0,65536,196608,0,524288,2097151,4194303,8388607,16777215,16777215,50331647,134217727,268435455,536870911,16777215,16777215,2164260863,7532969983,16122904575,33302773759,68719476735,16777215,137455730687,549755813887,16777215,1099528404991,3298551660543,16777215,8796109799423,35184372088831,70368744177663,140737488355327] (ra 0 48 ([])) (z0::z0::.s [1] []::za 5 (.s [1] []::za 5 (.s [1] []::z0::z0::.s [1] []::z0::z0::.s [1] []::za 5 (.s [1] []::za 5 (.s [1] []::za 5 (.s [1] []::z0::z0::.s [1] []::z0::z0::.s [1] []::za 3 ([]))))))) (.a)) (.a)))) (.a)))))) (.a)))))
def m26:((Int×(List (Int×Int×Int×Int))×List (Int×Int×Int×Int×Int))×List (Int×Int))→Option (Bool) :=
 fun x=>(m25 (x.1.1,x.1.2.1,x.1.2.2)).bind fun r=>bif PE.orM (PE.notM r) (PE.notM (eqM (lenM x.2) x.1.1)) then some false else (loopM (fun (s:Int)=>bif
 ltM s (lenM x.2) then (idxM x.2 s).bind fun r_1=>(m46 (r_1.1,(-1000000),1000000)).bind fun r_2=>(bif PE.notM (PE.notM r_2) then idxM x.2 s else some (0,
 0)).bind fun r_3=>(bif PE.notM (PE.notM r_2) then m46 (r_3.2,(-1000000),1000000) else some false).bind fun r=>bif PE.orM (PE.notM r_2) (PE.notM r) then
 some (Sum.inr (Sum.inr false)) else some (Sum.inl (wrap .i64 (s+1))) else some (Sum.inr (Sum.inl ()))) 0).bind fun o=>Sum.elim (fun (t:Unit) =>
 (loopM (fun (s:Int)=>bif ltM s (lenM x.1.2.1) then (idxM x.1.2.1 s).bind fun r_1=>(idxM x.2 r_1.1).bind fun r_2=>(m46 (wrap .i64 (r_2.1 -
 r_1.2.1),wrap .i64 (negM r_1.2.2.2),r_1.2.2.2)).bind fun r_3=>(bif PE.notM (PE.notM r_3) then idxM x.2 r_1.1 else some (0,0)).bind fun r_4=>(bif
 PE.notM (PE.notM r_3) then m46 (wrap .i64 (r_4.2-r_1.2.2.1),wrap .i64 (negM r_1.2.2.2),r_1.2.2.2) else some false).bind fun r=>bif PE.orM
 (PE.notM r_3) (PE.notM r) then some (Sum.inr (Sum.inr false)) else some (Sum.inl (wrap .i64 (s+1))) else some (Sum.inr (Sum.inl ()))) 0).bind fun o
 => Sum.elim (fun (t:Unit)=>(loopM (fun (s:Int)=>bif ltM s (lenM x.1.2.2) then (idxM x.1.2.2 s).bind fun r_1=>(idxM x.2 r_1.2.1).bind fun r_2 =>
 (idxM x.2 r_1.1).bind fun r_3=>(m46 (wrap .i64 (wrap .i64 (r_2.1-r_3.1)-r_1.2.2.1),wrap .i64 (negM r_1.2.2.2.2),
 r_1.2.2.2.2)).bind fun r_4=>(bif PE.notM (PE.notM r_4) then idxM x.2 r_1.2.1 else some (0,0)).bind fun r_5=>(bif PE.notM (PE.notM r_4) then idxM x.2
 r_1.1 else some (0,0)).bind fun r_6=>(bif PE.notM (PE.notM r_4) then m46 (wrap .i64 (wrap .i64 (r_5.2-r_6.2)-r_1.2.2.2.1),wrap
 IntKind.i64 (negM r_1.2.2.2.2),r_1.2.2.2.2) else some false).bind fun r=>bif PE.orM (PE.notM r_4) (PE.notM r) then some (Sum.inr (Sum.inr false)) else some
 (Sum.inl (wrap .i64 (s+1))) else some (Sum.inr (Sum.inl ()))) 0).bind fun o=>Sum.elim (fun (t:Unit)=>some true) (fun (t:Bool)=>some t) o)
 (fun (t:Bool)=>some t) o) (fun (t:Bool)=>some t) o
theorem c26:SpecOK Tryz.prog 26 ⟨as26,rs26,m26⟩ :=
 fc tabs24OK [] an26 Tryz.f26 fun x=>by kernel_rfl
def tabs26:Tabs:=Tabs.add tabs24 26 ⟨as26,rs26,m26⟩
theorem tabs26OK:TabOK Tryz.prog tabs26:=TabOK.add tabs24OK c26 Tryz.call26

/-! putlog/putloglaw10.agree -/
def as8:List Ty:=[(.pair tI (.pair (.list (.pair tI tB)) (.list tC))),tQ,tI,tI]
def rs8:List Ty:=[.bool]
def an8:Ann:=.seq (.a) (.seq (.a) (.seq (.a) (.seq (.a) (.seq (.a) (.seq (.a) (.seq (.a) (.seq (.a) (.seq (.a) (.seq (.reg [0,1,0,7,15,31,63,63,255,63,63,2047,4095,8191,16383,32767,32767,131071,262143,524287,1048575,1048575,4194303,8388607,16777215,33554431,33554431,134217727,268435455,536870911,1073741823,1073741823,4294967295,8589934591,17179869183,34359738367,34359738367,137438953471,274877906943,549755813887,1099511627775,1099511627775,4398046511103,8796093022207,17592186044415,35184372088831,35184372088831,140737488355327,281474976710655,562949953421311,1125899906842623,1125899906842623,4503599627370495,9007199254740991,18014398509481983] (ra 0 55 ([])) (.s [0] []::z0::.s [0] []::za 3 (.s [0] []::z0::z0::.s [0] []::za 5 (.s [1] []::.s [2] []::za 8 (.s [3] []::.s [4] []::za 13 (.s [5] []::.s [6] []::za 13 ([])))))) (.a)) (.a))))))))))
def m8:((Int×(List (Int×Int×Int×Int))×List (Int×Int×Int×Int×Int))×(List (Int×Int))×Int×Int)→Option (Bool) :=
 fun x=>(m10 ((x.1.1,x.1.2.1,x.1.2.2),x.2.2.1)).bind fun r=>(m21 ((x.1.1,x.1.2.1,x.1.2.2),x.2.2.1)).bind fun r_1=>(m11 ((x.1.1,x.1.2.1,x.1.2.2),
 x.2.2.1,x.2.2.2)).bind fun r_2=>(m22 ((x.1.1,x.1.2.1,x.1.2.2),x.2.2.1,x.2.2.2)).bind fun r_3=>(m12 (x.1.1,x.1.2.1,x.1.2.2)).bind fun r_4=>(m23
 (x.1.1,x.1.2.1,x.1.2.2)).bind fun r_5=>(m13 (x.1.1,x.1.2.1,x.1.2.2)).bind fun r_6=>(m24 (x.1.1,x.1.2.1,x.1.2.2)).bind fun r_7=>(m17 (x.1.1,
 x.1.2.1,x.1.2.2)).bind fun r_8=>(m25 (x.1.1,x.1.2.1,x.1.2.2)).bind fun r_9=>(bif eqbM r_8 r_9 then m15 ((x.1.1,x.1.2.1,x.1.2.2),x.2.1) else some
 false).bind fun r_10=>(bif eqbM r_8 r_9 then m26 ((x.1.1,x.1.2.1,x.1.2.2),x.2.1) else some false).bind fun r_11=>(bif PE.andM (PE.andM (PE.andM
 (PE.andM (PE.andM (PE.andM (eqbM r_8 r_9) (eqbM r_10 r_11)) (PE.andM (eqM r.1.1 r_1.1.1) (PE.andM (eqM r.1.2.1 r_1.1.2.1) (PE.andM (eqM r.1.2.2.1 r_1.1.2.2.1)
 (eqM r.1.2.2.2 r_1.1.2.2.2))))) (eqM r.2 r_1.2)) (PE.andM (eqM r_2.1.1 r_3.1.1) (PE.andM (eqM r_2.1.2.1 r_3.1.2.1) (PE.andM (eqM r_2.1.2.2.1 r_3.1.2.2.1) (eqM
 r_2.1.2.2.2 r_3.1.2.2.2))))) (eqM r_2.2 r_3.2)) (eqM r_4.2 r_5.2) then m14 ((r_4.1.1,r_4.1.2.1,r_4.1.2.2),r_5.1.1,r_5.1.2.1,r_5.1.2.2) else some
 false).bind fun r_12=>(bif PE.andM (PE.andM (PE.andM (PE.andM (PE.andM (PE.andM (PE.andM (PE.andM (eqbM r_8 r_9) (eqbM r_10 r_11)) (PE.andM (eqM r.1.1
 r_1.1.1) (PE.andM (eqM r.1.2.1 r_1.1.2.1) (PE.andM (eqM r.1.2.2.1 r_1.1.2.2.1) (eqM r.1.2.2.2 r_1.1.2.2.2))))) (eqM r.2 r_1.2)) (PE.andM (eqM r_2.1.1 r_3.1.1)
 (PE.andM (eqM r_2.1.2.1 r_3.1.2.1) (PE.andM (eqM r_2.1.2.2.1 r_3.1.2.2.1) (eqM r_2.1.2.2.2 r_3.1.2.2.2))))) (eqM r_2.2 r_3.2)) (eqM r_4.2 r_5.2)) r_12) (eqbM
 r_6.2 r_7.2) then m16 (r_6.1,r_7.1) else some false).bind fun r_13=>some (PE.andM (PE.andM (PE.andM (PE.andM (PE.andM (PE.andM (PE.andM (PE.andM (PE.andM
 (eqbM r_8 r_9) (eqbM r_10 r_11)) (PE.andM (eqM r.1.1 r_1.1.1) (PE.andM (eqM r.1.2.1 r_1.1.2.1) (PE.andM (eqM r.1.2.2.1 r_1.1.2.2.1) (eqM r.1.2.2.2
 r_1.1.2.2.2))))) (eqM r.2 r_1.2)) (PE.andM (eqM r_2.1.1 r_3.1.1) (PE.andM (eqM r_2.1.2.1 r_3.1.2.1) (PE.andM (eqM r_2.1.2.2.1 r_3.1.2.2.1) (eqM r_2.1.2.2.2
 r_3.1.2.2.2))))) (eqM r_2.2 r_3.2)) (eqM r_4.2 r_5.2)) r_12) (eqbM r_6.2 r_7.2)) r_13)
theorem c8:SpecOK Tryz.prog 8 ⟨as8,rs8,m8⟩ :=
 fc tabs26OK [] an8 Tryz.f8 fun x=>by kernel_rfl
def tabs8:Tabs:=Tabs.add tabs26 8 ⟨as8,rs8,m8⟩
theorem tabs8OK:TabOK Tryz.prog tabs8:=TabOK.add tabs26OK c8 Tryz.call8

/-! putlog/putlogref10.Bent -/
def as9:List Ty:=[(.pair tI (.pair (.list (.pair tI tB)) (.list tC))),tI,tI,tI]
def rs9:List Ty:=[(.pair tI (.pair (.list (.pair tI tB)) (.list tC)))]
def an9:Ann:=.seq (.a) (.seq (.a) (.seq (.a) (.seq (.a) (.seq (.seq (.a) (.cond (.seq (.reg [0,1,0,0,8,24,60,127,255] (ra 0 9 ([])) [z0,.s [0] [],z0,z0,.s [0] [],.s [2] [],z0,.s [2] [],z0] (.a)) (.seq (.join [(.norm,⟨[],(ra 40 23 ([])),[(2,.arr (.pair tI tB))],[]⟩)] (.a)) (.a))) (.a))) (.seq (.seq (.a) (.cond (.seq (.reg [0,1,0,0,8,24,60,127,255] (ra 0 9 ([])) [z0,.s [0] [],z0,z0,.s [0] [],.s [3] [],z0,.s [3] [],z0] (.a)) (.seq (.join [(.norm,⟨[],(ra 80 29 ([])),[(3,.arr tC)],[]⟩)] (.a)) (.a))) (.a))) (.a))))))
def m9:((Int×(List (Int×Int×Int×Int))×List (Int×Int×Int×Int×Int))×Int×Int×Int)→Option (Int×(List (Int×Int×Int×Int))×List (Int×Int×Int×Int×Int)) :=
 fun x=>(appM (nat_lit 32) [] x.1.2.1).bind fun r=>(appM (nat_lit 40) [] x.1.2.2).bind fun r_1=>(m18 (x.2.1,10)).bind fun r_2=>bif PE.andM (ltM r_2 4)
 (ltM 0 (lenM r)) then (m18 (x.2.2.2,lenM r)).bind fun r_3=>(chkM r_3 (lenM r)).bind fun r_4=>(bif eqM r_2 0 then (setM r r_3 fun (x_1:Int×Int×Int ×
 Int)=>some (x.2.2.1,x_1.2)).bind fun r=>some r else bif eqM r_2 1 then (setM r r_3 fun (x_1:Int×Int×Int×Int)=>some (x_1.1,x.2.2.1,
 x_1.2.2)).bind fun r=>some r else bif eqM r_2 2 then (setM r r_3 fun (x_1:Int×Int×Int×Int)=>some (x_1.1,x_1.2.1,x.2.2.1,x_1.2.2.2)).bind fun r
 => some r else (setM r r_3 fun (x_1:Int×Int×Int×Int)=>some (x_1.1,x_1.2.1,x_1.2.2.1,x.2.2.1)).bind fun r=>some r).bind fun o=>some (x.1.1,o,
 r_1) else bif PE.andM (ltM r_2 9) (ltM 0 (lenM r_1)) then (m18 (x.2.2.2,lenM r_1)).bind fun r_3=>(chkM r_3 (lenM r_1)).bind fun r_4=>(bif eqM r_2 4 then
 (setM r_1 r_3 fun (x_1:Int×Int×Int×Int×Int)=>some (x.2.2.1,x_1.2)).bind fun r=>some r else bif eqM r_2 5 then (setM r_1 r_3 fun (x_1:Int ×
 Int×Int×Int×Int)=>some (x_1.1,x.2.2.1,x_1.2.2)).bind fun r=>some r else bif eqM r_2 6 then (setM r_1 r_3 fun (x_1:Int×Int×Int×Int×Int)
 => some (x_1.1,x_1.2.1,x.2.2.1,x_1.2.2.2)).bind fun r=>some r else bif eqM r_2 7 then (setM r_1 r_3 fun (x_1:Int×Int×Int×Int×Int)=>some
 (x_1.1,x_1.2.1,x_1.2.2.1,x.2.2.1,x_1.2.2.2.2)).bind fun r=>some r else (setM r_1 r_3 fun (x_1:Int×Int×Int×Int×Int)=>some (x_1.1,x_1.2.1,
 x_1.2.2.1,x_1.2.2.2.1,x.2.2.1)).bind fun r=>some r).bind fun o=>some (x.1.1,r,o) else some (x.2.2.1,r,r_1)
theorem c9:SpecOK Tryz.prog 9 ⟨as9,rs9,m9⟩ :=
 fc tabs8OK [] an9 Tryz.f9 fun x=>by kernel_rfl
def tabs9:Tabs:=Tabs.add tabs8 9 ⟨as9,rs9,m9⟩
theorem tabs9OK:TabOK Tryz.prog tabs9:=TabOK.add tabs8OK c9 Tryz.call9

/-! putlog/putloglaw10.NetworkMatchesReference -/
def as3:List Ty:=[(.pair tQ (.pair tL (.pair (.list (.pair tI tB)) (.pair (.list tC) tB)))),tB,(.pair tI (.pair (.list (.pair tI tB)) (.list tC))),tQ,tI,tI]
def rs3:List Ty:=[.bool]
def an3:Ann:=.seq (.a) (.seq (.a) (.seq (.a) (.seq (.a) (.seq (.a) (.seq (.a) (.seq (.reg [0,1,0,4,0,16,48,112,252,0,512,0,2048,6144,14336,32256,65535,0,262143] (ra 0 19 ([])) (z0::.s [2] []::z0::.s [2] []::z0::.s [2] []::za 4 (.s [2] []::z0::.s [2] []::za 4 (.s [] [4]::.s [4] [4]::[]))) (.a)) (.a)))))))
def m3:(((List (Int×Int))×List Int×(List (Int×Int×Int×Int))×(List (Int×Int×Int×Int×Int))×Int×Int×Int)×(Int×Int×Int)×(Int×(List (Int×Int×Int×Int))×List (Int×Int×Int×Int×Int))×(List (Int×Int))×Int×Int)→Option (Bool) :=
 fun x=>(m4 ()).bind fun r=>bif PE.notM r then some false else (m5 (x.1.1,x.1.2.1,x.1.2.2.1,x.1.2.2.2.1,x.1.2.2.2.2.1,x.1.2.2.2.2.2.1,
 x.1.2.2.2.2.2.2)).bind fun r_1=>(m6 (x.1.1,x.1.2.1,x.1.2.2.1,x.1.2.2.2.1,x.1.2.2.2.2.1,x.1.2.2.2.2.2.1,x.1.2.2.2.2.2.2)).bind fun r_2=>(sliceM
 x.2.2.2.1 0 (min (lenM x.2.2.2.1) 9)).bind fun r_3=>(sliceM x.2.2.1.2.1 0 (min (lenM x.2.2.1.2.1) 10)).bind fun r_4=>(sliceM x.2.2.1.2.2 0 (min (lenM
 x.2.2.1.2.2) 22)).bind fun r_5=>(m7 (x.2.2.2.2.1,8)).bind fun r_6=>(m7 (x.2.2.2.2.2,8)).bind fun r_7=>(bif r then m8 ((r_1.1,r_1.2.1,r_1.2.2),r_2,
 r_6,r_7) else some false).bind fun r_8=>(bif PE.andM r r_8 then m8 ((r_1.1,r_1.2.1,r_1.2.2),r_3,x.2.2.2.2.1,x.2.2.2.2.2) else some false).bind fun r_9
 => (bif PE.andM (PE.andM r r_8) r_9 then m9 ((r_1.1,r_1.2.1,r_1.2.2),x.2.1.1,x.2.1.2.1,x.2.1.2.2) else some (0,[],[])).bind fun r_10=>(bif PE.andM
 (PE.andM r r_8) r_9 then m8 ((r_10.1,r_10.2.1,r_10.2.2),r_2,r_6,r_7) else some false).bind fun r_11=>(bif PE.andM (PE.andM (PE.andM r r_8) r_9) r_11
 then m8 ((x.2.2.1.1,r_4,r_5),r_3,r_6,x.2.2.2.2.2) else some false).bind fun r_12=>some (PE.andM (PE.andM (PE.andM (PE.andM r r_8) r_9) r_11) r_12)
theorem c3:SpecOK Tryz.prog 3 ⟨as3,rs3,m3⟩ :=
 fc tabs9OK [] an3 Tryz.f3 fun x=>by kernel_rfl
def tabs3:Tabs:=Tabs.add tabs9 3 ⟨as3,rs3,m3⟩
theorem tabs3OK:TabOK Tryz.prog tabs3:=TabOK.add tabs9OK c3 Tryz.call3
end
end Go.Proofs.YtfekoiabjbdnfaaGreat

