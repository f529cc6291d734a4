/-
 Texts of this proof, put together: Px, Ty, Gl, Tb, P3, P5, P9, PJ, PI, T1, PS, PR, PT, M0, M1.
 No conditions.
-/
import Derived.Test.YtobfnefajpiakaaGreatDoorZ5
import Derived.ProofKit
import Derived.OpenShut
import Derived.Carry
import Derived.Test.YtobfnefajpiakaaGreatDoorProg
import Derived.KernelRfl
import Derived.Test.YtobfnefajpiakaaGreatDoorRows
import Derived.LaidMore
import Derived.Stop.Joined
import Derived.Lay
import Derived.Test.YtobfnefajpiakaaGreatDoorZ4
import Derived.Test.YtobfnefajpiakaaGreatDoorZ3
import Derived.Shelf.SlSortCmp.NoneTotal
import Derived.Shelf.Sort.Plain
import Derived.Shelf.Slices.In.SortNone
import Derived.Shelf.Slices.CompactI
import Derived.Shelf.Strings.Builder1
import Derived.Shelf.Strings.Prefix
import Derived.Shelf.Strings.SlTrimAscii
import Derived.Shelf.Strings.Repeat
import Derived.Shelf.Strconv.AtoiAll
import Derived.Shelf.Strconv.Itoa3
import Derived.Shelf.Strings.OnBuilder
import Derived.WalkKit
import Derived.LaidEql
import Derived.Stop.Asserts
import Derived.RowKitTokens
import Derived.Shelf.Lays
import Derived.Shelf.Lays2
import Derived.Shelf.LaysC
import Derived.RecoverIn
set_option linter.all false
namespace Go.PE
open Go Go.RowKit Go.Abs Go.ChangeShapes Go.WideShapes Go.ChangeAt
instance dbI:DB:=dbG
variable [ea:EA]

mutual
inductive TyP (P:Program):TypeId→Ty→Prop where
 | int {t k}:P.underlying t=some (.int k)→TyP P t (.int k)
 | bool {t}:P.underlying t=some .bool→TyP P t .bool
 | str {t}:P.underlying t=some .string→TyP P t .str
 | list {t e T}:P.underlying t=some (.slice e)→P.cellsOf e=T.size→TyP P e T→TyP P t (.list T)
 | struct1 {t fs T}:P.underlying t=some (.struct fs)→P.cellsOf t=T.size→FsP P (fs.toList.map fun f=>(f.offset,f.type)) 0 T→fs.size=1→TyP P t (.one T)
 | struct {t fs A B}:P.underlying t=some (.struct fs)→P.cellsOf t=A.size+B.size→FsP P (fs.toList.map fun f=>(f.offset,f.type)) 0 (.pair A B)→TyP P t (.pair A B)
 | array1 {t e T}:P.underlying t=some (.array 1 e)→P.cellsOf t=T.size→FsP P [(0,e)] 0 T→TyP P t (.one T)
 | array {t n e A B}:P.underlying t=some (.array n e)→P.cellsOf t=A.size+B.size→FsP P ((List.range n).map fun i=>(i*P.cellsOf e,e)) 0 (.pair A B)→TyP P t (.pair A B)
inductive FsP (P:Program):List (Nat×TypeId)→Nat→Ty→Prop where
 | last {off t T}:P.cellsOf t=T.size→TyP P t T→FsP P [(off,t)] off T
 | cons {off t A B l}:P.cellsOf t=A.size→TyP P t A→FsP P l (off+A.size) B→FsP P ((off,t)::l) off (.pair A B)
end
def InWd (w:World):Cells:=fun b _=>b<w.heap.size
theorem exists_list {α:Type} {p:Nat→α→Prop}:∀ (n:Nat),(∀ i,i<n→∃ y,p i y)→∃ ys:List α,ys.length=n∧∀ i y,ys[i]? = some y→p i y
 | 0,_=>⟨[],rfl,fun i y h=>by simp at h⟩
 | n+1,h=>by
  obtain ⟨ys,h1,h2⟩:=exists_list n fun i hi=>h i (by omega)
  obtain ⟨y,hy⟩:=h n (by omega)
  refine ⟨ys++[y],by simp [h1],fun i z hz=>?_⟩
  by_cases hi:i<ys.length
  ·rw [xL hi] at hz;exact h2 i z hz
  ·rw [xR (by omega)] at hz
   have:i-ys.length=0:=by
    have:=(gS.1 hz).1
    simp at this;omega
   rw [this] at hz
   simp at hz
   subst hz
   rw [show i=n by omega];exact hy
section
variable {H:Type} {enc:TypeId×Value→H} {P:Program} {w:World} {base:Nat} {spare:Nat→Bool} {held:Bool}
theorem cells?_get {a:Addr} {n:Nat} {cs:List Value} (h:w.cells? base a n=some cs):cs.length=n∧∀ j u,cs[j]? = some u→w.cell? (a.add j)=some u:=by
 obtain ⟨_,h1,h2⟩:=World.cells?_some h
 refine ⟨h1,fun j u hj=>?_⟩
 have hl:=(gS.1 hj).1
 rw [h2 j (by omega)];exact hj
theorem trod_rep:∀ (fuel:Nat) {t:TypeId} {T:Ty} {cs:List Value} {x:DataW H×List MemPlace},TyP P t T→DataW.trod enc P w base spare held fuel t cs=some x→∃ y:T.den,Rep (InWd w) w T y cs:=by
 intro fuel
 induction fuel with
 | zero=>intro t T cs x _ h;simp [DataW.trod] at h
 | succ n ih =>
  -- fields
  have fields:∀ {l:List (Nat×TypeId)} {off:Nat} {T:Ty} {cs:List Value},FsP P l off T→off+T.size≤cs.length→(∀ (i:Nat) p,l[i]? = some p→∃ x,DataW.trod enc P w base spare held n p.2 ((cs.drop p.1).take (P.cellsOf p.2))=some x) →
    ∃ y:T.den,Rep (InWd w) w T y ((cs.drop off).take T.size):=by
   intro l
   induction l with
   | nil=>intro off T cs h;cases h
   | cons p l ihl =>
    intro off T cs h hlen ht
    cases h with
    | last hc hty =>
     obtain ⟨x,hx⟩:=ht 0 _ rfl
     rw [← hc]
     exact ih hty hx
    | @cons _ t A B _ hc hty hr =>
     obtain ⟨x,hx⟩:=ht 0 _ rfl
     rw [hc] at hx
     obtain ⟨y1,h1⟩:=ih hty hx
     have hsz:(Ty.pair A B).size=A.size+B.size:=rfl
     rw [hsz] at hlen
     obtain ⟨y2,h2⟩:=ihl hr (by omega) fun i p hp=>ht (i+1) p (by simpa using hp)
     refine ⟨(y1,y2),_,_,?_,h1,h2⟩
     rw [hsz]
     rw [List.take_add,List.drop_drop]
  intro t T cs x hT h
  cases hT with
  | int hu =>
   obtain ⟨m,rfl,_,hw⟩:=DataW.trod_int hu h
   refine ⟨m,rfl,?_⟩
   simp [Lit.wf] at hw
   exact hw
  | bool hu=>obtain ⟨b,rfl,_⟩:=DataW.trod_bool hu h;exact ⟨b,rfl⟩
  | str hu =>
   obtain ⟨s,rfl,_,hs⟩:=DataW.trod_string hu h
   exact ⟨s.data.toList,by simp,by simpa using hs⟩
  | @list _ e T hu hc hty =>
   rcases DataW.trod_slice hu h with ⟨rfl,_⟩ | ⟨a,len,cap,elems,rest,m,hm,rfl,_,_,h1,h2,h3,h4,_⟩
   ·exact ⟨[],none,0,rfl,nR _,Nat.zero_le _,.inl rfl⟩
   ·cases hm
    rw [hc] at h4
    have hex:∀ i,i<len→∃ y:T.den,∃ es,Rep (InWd w) w T y es∧∀ j u,es[j]? = some u→w.cell? ((a.add (i*T.size)).add j)=some u:=by
     intro i hi
     have h5:=h4 i hi
     rw [gE (by omega)] at h5
     obtain ⟨es,h6,h7⟩:=Option.bind_eq_some_iff.1 h5
     obtain ⟨y,hy⟩:=ih hty h7
     exact ⟨y,es,hy,(cells?_get h6).2⟩
    obtain ⟨ys,hl,hys⟩:=exists_list len hex
    refine ⟨ys,some a,cap,by rw [hl],by rw [hl];exact h1,h2,?_⟩
    by_cases h0:len=0
    ·left;show List.length ys=0;omega
    ·right
     have hsp:a.spot=none:=by
      obtain ⟨y,es,hr,hg⟩:=hex 0 (by omega)
      have hel:=hr.length
      have hpos:=T.size_pos
      have:=hg 0 _ (gE (by omega))
      unfold World.cell? at this
      split at this
      ·split at this
       ·cases this
       ·rename_i hs
        simpa [Addr.add] using hs
      ·cases this
     obtain ⟨b,off,sp⟩:=a
     simp only at hsp
     subst hsp
     refine ⟨b,off,rfl,fun i y hy=>?_⟩
     obtain ⟨es,hr,hg⟩:=hys i y hy
     refine ⟨es,hr,fun j u hj=>?_⟩
     have h5:=hg j u hj
     rw [Addr.add_lit,Addr.add_lit] at h5
     exact ⟨World.block_lt_of_cell? _ _ h5,h5⟩
  | @struct1 _ fs T hu hc hf h1 =>
   obtain ⟨xs,m,hm,_,hl,hxl,hx⟩:=DataW.trod_struct hu h
   cases hm
   obtain ⟨y,hy⟩:=fields hf (by rw [hl,hc];omega) fun i p hp=>by
    simp only [List.getElem?_map,Option.map_eq_some_iff] at hp
    obtain ⟨f,hf1,rfl⟩:=hp
    have hil:i<xs.length:=by rw [hxl];simpa using (gS.1 hf1).1
    exact ⟨xs[i],by rw [← gE hil];exact hx i f (by simpa using hf1)⟩
   rw [List.drop_zero,tkL (by omega)] at hy
   exact ⟨y,hy⟩
  | @struct _ fs A B hu hc hf =>
   obtain ⟨xs,m,hm,_,hl,hxl,hx⟩:=DataW.trod_struct hu h
   cases hm
   have hsz:(Ty.pair A B).size=A.size+B.size:=rfl
   obtain ⟨y,hy⟩:=fields hf (by rw [hl,hc,hsz];omega) fun i p hp=>by
    simp only [List.getElem?_map,Option.map_eq_some_iff] at hp
    obtain ⟨f,hf1,rfl⟩:=hp
    have hil:i<xs.length:=by rw [hxl];simpa using (gS.1 hf1).1
    exact ⟨xs[i],by rw [← gE hil];exact hx i f (by simpa using hf1)⟩
   rw [List.drop_zero,tkL (by rw [hl,hc,hsz];omega)] at hy
   exact ⟨y,hy⟩
  | @array1 _ e T hu hc hf =>
   obtain ⟨xs,m,hm,_,hl,hxl,hx⟩:=DataW.trod_array hu h
   cases hm
   obtain ⟨y,hy⟩:=fields hf (by rw [hl,hc];omega) fun i p hp=>by
    have hi0:i=0:=by have:=(gS.1 hp).1;simp at this;exact this
    subst hi0
    simp at hp
    subst hp
    have:=hx 0 (by omega)
    rw [Nat.zero_mul] at this
    exact ⟨xs[0],by rw [← gE (by omega)];exact this⟩
   rw [List.drop_zero,tkL (by omega)] at hy
   exact ⟨y,hy⟩
  | @array _ k e A B hu hc hf =>
   obtain ⟨xs,m,hm,_,hl,hxl,hx⟩:=DataW.trod_array hu h
   cases hm
   have hsz:(Ty.pair A B).size=A.size+B.size:=rfl
   obtain ⟨y,hy⟩:=fields hf (by rw [hl,hc,hsz];omega) fun i p hp=>by
    simp only [List.getElem?_map,Option.map_eq_some_iff] at hp
    obtain ⟨j,hj,rfl⟩:=hp
    have hjl:i<k:=by have:=(gS.1 hj).1;simpa using this
    have hji:j=i:=by rw [List.getElem?_range hjl] at hj;cases hj;rfl
    subst hji
    exact ⟨xs[j],by rw [← gE (by omega)];exact hx j hjl⟩
   rw [List.drop_zero,tkL (by rw [hl,hc,hsz];omega)] at hy
   exact ⟨y,hy⟩

theorem TyP.agg:∀ {t:TypeId} {T:Ty} {v:Value} {r:Reach} {b0:Nat} {x:T.den},TyP P t T→Value.okWide P w r b0 t v→Rep (InWd w) w T x v.cells.toList→VRep (InWd w) w T x v:=by
 intro t T v r b0 x hT hok hr
 refine ⟨_,hr,?_⟩
 cases hT with
 | int hu=>obtain ⟨n,rfl⟩:=okWide_int hu hok;rfl
 | bool hu=>obtain ⟨n,rfl⟩:=okWide_bool hu hok;rfl
 | str hu=>obtain ⟨n,rfl⟩:=okWide_string hu hok;rfl
 | list hu _ _=>obtain ⟨a,l,c,rfl⟩:=okWide_slice hu hok;rfl
 | struct1 hu _ _ _=>simp only [Value.okWide,hu] at hok;obtain ⟨cs,rfl,_⟩:=hok;simp [Ty.wrap,Ty.agg,Value.cells]
 | struct hu _ _=>simp only [Value.okWide,hu] at hok;obtain ⟨cs,rfl,_⟩:=hok;simp [Ty.wrap,Ty.agg,Value.cells]
 | array1 hu _ _=>simp only [Value.okWide,hu] at hok;obtain ⟨cs,rfl,_⟩:=hok;simp [Ty.wrap,Ty.agg,Value.cells]
 | array hu _ _=>simp only [Value.okWide,hu] at hok;obtain ⟨cs,rfl,_⟩:=hok;simp [Ty.wrap,Ty.agg,Value.cells]

inductive TysP (P:Program):List TypeId→List Ty→Prop where
 | nil:TysP P [] []
 | cons {t T ts Ts}:P.readableRec t=true→t<P.types.size→TyP P t T→TysP P ts Ts→TysP P (t::ts) (T::Ts)
theorem args_data {η:Eta} {r:Reach} {b0:Nat}:∀ {ts:List TypeId} {Ts:List Ty} {vs:List Value} {ds:List (DataW H)} {ps:List MemPlace},TysP P ts Ts→DataW.TrodAll enc P w base spare held ts vs ds ps→(∀ (j:Nat) t v,ts[j]? = some t→vs[j]? = some v→Value.okWide P w r b0 t v) →
  ∃ x:Tup (Ts.map .d),All2 (RM (InWd w) w η) (rvs Ts x) vs
 | _,_,vs,ds,ps,.nil,h,_=>by
  obtain ⟨rfl,_,_⟩:=trodAll_nil h
  exact ⟨(),.nil⟩
 | _,_,vs,ds,ps,.cons (t:=t) (T:=T) (ts:=ts) (Ts:=Ts) h1 h2 h3 h4,h,hok=>by
  obtain ⟨v,vs',d,ds',p,q,rfl,rfl,rfl,⟨n,hn⟩,hr⟩:=trodAll_cons h
  obtain ⟨y,hy⟩:=trod_rep n h3 hn
  have hv:RM (InWd w) w η (T.rv y) v:=VRep.rm (h3.agg (hok 0 t v rfl rfl) hy)
  obtain ⟨x,hx⟩:=args_data (η:=η) h4 hr fun j t v h1 h2=>hok (j+1) t v (by simpa using h1) (by simpa using h2)
  cases Ts with
  | nil=>exact ⟨y,by cases hx;exact .cons hv .nil⟩
  | cons U Us=>exact ⟨(y,x),.cons hv hx⟩
theorem args_back (hl:laidOutB P=true) {w':World} (hb:Below w.heap.size w w') {sp:Nat→Bool}:∀ {ts:List TypeId} {Ts:List Ty} {vs:List Value} {ds:List (DataW H)} {ps:List MemPlace},TysP P ts Ts→DataW.TrodAll enc P w 0 (fun _=>true) true ts vs ds ps→(∀ x∈ps,x.block<w.heap.size)→(∀ x∈ps,sp x.block=true) →
  DataW.TrodAll enc P w' 0 sp true ts vs ds ps
 | _,_,vs,ds,ps,.nil,h,_,_=>by
  obtain ⟨rfl,rfl,rfl⟩:=trodAll_nil h
  exact rfl
 | _,_,vs,ds,ps,.cons h1 h2 h3 h4,h,hlt,hsp=>by
  obtain ⟨v,vs',d,ds',p,q,rfl,rfl,rfl,hd,hr⟩:=trodAll_cons h
  have hd':=WideElems.Trod_stays hl h1 h2 (sp':=sp) hd (fun x hx=>hb.same (hlt x (by simp [hx]))) fun x hx=>hsp x (by simp [hx])
  exact ⟨p,q,hd',args_back hl hb h4 hr (fun x hx=>hlt x (by simp [hx])) fun x hx=>hsp x (by simp [hx]),rfl⟩
end

theorem law_contract' {P:Program} (hl:laidOutB P=true) {f:FuncId} {fn:Func} {s:ChangeSpec} {args:List Ty} {m:Tup (args.map .d)→Option Bool} (hspec:SpecOK P f ⟨args,[.bool],m⟩) {ts:List TypeId} (hts:fn.params.toList=ts) (hT:TysP P ts args) {tb:TypeId} (hrt:fn.resultTypes=#[tb]) (htb:P.underlying tb=some .bool)
  (hvars:s.vars=[]) (hfn:∀ (H:Type) (ds:List (DataW H)),ds.length=args.length→(s.fn H ds).results=[.lit (.bool true)]∧(s.fn H ds).args=ds∧(s.fn H ds).vars=[])
  (hm:∀ (S:Cells) (w:World) (η:Eta) (vs:List Value) x,All2 (RM S w η) (rvs args x) vs→m x=some true)
  {H:Type} {enc:TypeId×Value→H} {W:World} {base:Nat} {av:Array Value} {ds gs:List (DataW H)} {before:List MemPlace} (hglob:GlobOK (InWd W) W) (herr:ErrOK (InWd W) W)
  (hval:∀ (j:Nat) t v,fn.params[j]? = some t→av[j]? = some v→Value.okWide P W .any base t v) (hW:DataW.Whole enc P fn.params.toList s.vars false W av.toList ds gs before) :
  Calls P f av W fun e W'=>∃ v,e=.returned v∧s.post enc P fn false true false false W av v W'∧W'.os=W.os:=by
 have hW0:=hW
 obtain ⟨p,q,hA,hV,rfl,hfz,_⟩:=hW
 rw [hvars] at hV
 obtain ⟨rfl,rfl⟩:=trodVars_none hV
 rw [List.append_nil] at *
 rw [hts] at hA
 have hlt:∀ x∈p,x.block<W.heap.size:=fun x hx=>by simpa using hW0.lt x hx
 obtain ⟨x,hx⟩:=args_data (η:=fun _=>none) (r:=.any) (b0:=base) hT hA fun j t v h1 h2=>hval j t v (by rw [← hts] at h1;simpa using h1) (by simpa using h2)
 have hc:=hspec x true (hm _ _ _ _ x hx) (InWd W) W (fun _=>none) av.toList ⟨fun b o h=>h,hglob,herr⟩ hx
 have hav:av.toList.toArray=av:=by simp
 rw [hav] at hc
 refine hc.mono fun e W' ⟨v,S',he,hg,hp⟩=>⟨v,he,?_,hg.below.os⟩
 have hvb:v=.bool true:=VRep.bool.1 hp.2
 subst hvb
 have hb:=hg.below
 have hlen:ds.length=args.length:=by
  have h1:∀ {ts:List TypeId} {Ts:List Ty} {vs:List Value} {ds:List (DataW H)} {ps:List MemPlace},TysP P ts Ts→DataW.TrodAll enc P W 0 (fun _=>true) true ts vs ds ps→ds.length=Ts.length:=by
   intro ts Ts vs ds ps hT
   induction hT generalizing vs ds ps with
   | nil=>intro h;obtain ⟨_,rfl,_⟩:=trodAll_nil h;rfl
   | cons _ _ _ _ ih=>intro h;obtain ⟨_,_,_,_,_,_,rfl,rfl,rfl,_,hr⟩:=trodAll_cons h;simp [ih hr]
  exact h1 hT hA
 obtain ⟨f1,f2,f3⟩:=hfn H (ds++[]) (by simpa using hlen)
 have hargs:∀ sp:Nat→Bool,(∀ y∈p,sp y.block=true)→DataW.TrodAll enc P W' 0 sp true fn.params.toList av.toList (s.fn H (ds++[])).args p:=fun sp hsp=>by
  rw [f2,List.append_nil,hts]
  exact args_back hl hb hT hA hlt hsp
 have hres:∀ (b:Nat) (sp:Nat→Bool) (hd:Bool),DataW.TrodAll enc P W' b sp hd fn.resultTypes.toList ((Value.bool true).resultList fn.resultTypes.size) (s.fn H (ds++[])).results []:=fun b sp hd=>by
  rw [f1,hrt]
  exact trodAll_cons_mk (shut_bool htb _) trodAll_mk0
 have hvv:∀ sp:Nat→Bool,DataW.TrodVars enc P W' sp s.vars (s.fn H (ds++[])).vars []:=fun sp=>by rw [f3,hvars];rfl
 have hold:∀ y∈p,(fun b=>decide (b<W.heap.size)) y.block=true:=fun y hy=>by simpa using hlt y hy
 refine ⟨ds,[],p,[],p,[],hW0,hres _ _ _,hargs _ hold,hvv _,World.keptBut_mono (fun y hy=>⟨hy,?_⟩) (hb.frame (·∈p)),fun _=>?_⟩
 ·simpa using hy
 ·refine ⟨ok_one hrt rfl (okWide_bool_mk htb _),_,_,([]++p)++[],⟨[]++p,[],trodAll_append (hargs _ (fun _ _=>rfl)) (hres _ _ _),hvv _,rfl,?_,?_⟩,?_⟩
  ·intro b off hpm
   have hpm:MemPlace.cell b off∈p:=by simpa using hpm
   have hlt':=hlt _ hpm
   rw [hb.frozen (p:=⟨b,off,none⟩) hlt']
   exact hfz b off hpm
  ·intro h;cases h
  ·intro y hy _
   simpa using hy
theorem law_contract {P:Program} (hl:laidOutB P=true) {f:FuncId} {fn:Func} {s:ChangeSpec} {args:List Ty} {m:Tup (args.map .d)→Option Bool} (hspec:SpecOK P f ⟨args,[.bool],m⟩) {ts:List TypeId} (hts:fn.params.toList=ts) (hT:TysP P ts args) {tb:TypeId} (hrt:fn.resultTypes=#[tb]) (htb:P.underlying tb=some .bool)
  (hvars:s.vars=[]) (hfn:∀ (H:Type) (ds:List (DataW H)),ds.length=args.length→(s.fn H ds).results=[.lit (.bool true)]∧(s.fn H ds).args=ds∧(s.fn H ds).vars=[])
  (hm:∀ (S:Cells) (w:World) (η:Eta) (vs:List Value) x,All2 (RM S w η) (rvs args x) vs→m x=some true)
  {H:Type} {enc:TypeId×Value→H} {W:World} {base:Nat} {av:Array Value} {ds gs:List (DataW H)} {before:List MemPlace} (hglob:GlobOK (InWd W) W) (herr:ErrOK (InWd W) W)
  (hval:∀ (j:Nat) t v,fn.params[j]? = some t→av[j]? = some v→Value.okWide P W .any base t v) (hW:DataW.Whole enc P fn.params.toList s.vars false W av.toList ds gs before) :
  Calls P f av W fun e W'=>∃ v,e=.returned v∧s.post enc P fn false true false false W av v W' :=
 (law_contract' hl hspec hts hT hrt htb hvars hfn hm hglob herr hval hW).mono fun e W' ⟨v,h1,h2,_⟩=>⟨v,h1,h2⟩
theorem ints_of_trod {P:Program} {H:Type} {enc:TypeId×Value→H} {W:World} {base:Nat} {spare:Nat→Bool} {held:Bool} {fuel:Nat} {t e:TypeId} {n:Nat} {cs:List Value} {k0:IntKind} {xs:List Int} {p:List MemPlace} (ht:P.underlying t=some (.array n e)) (he:P.underlying e=some (.int k0)) (hc:P.cellsOf e=1)
  (h:DataW.trod enc P W base spare held fuel t cs=some (.agg (xs.map fun n=>.lit (.int k0 n)),p)) (i:Nat) (x:Int) (hx:xs[i]? = some x):cs[i]? = some (.int k0 x)∧k0.has x:=by
 cases fuel with
 | zero=>simp [DataW.trod] at h
 | succ fuel =>
  obtain ⟨ys,m,hm,h1,h2,h3,h4⟩:=DataW.trod_array ht h
  cases hm
  simp only [Prod.mk.injEq,DataW.agg.injEq] at h1
  have hl:ys.length=xs.length:=by
   have:=congrArg List.length h1.1
   simpa using this.symm
  have hi:i<xs.length:=(gS.1 hx).1
  have h5:=h4 i (by omega)
  obtain ⟨z,hz⟩:∃ z,ys[i]? = some z:=⟨_,gE (by omega)⟩
  have h6:(ys.map (·.1))[i]? = some (.lit (.int k0 x)):=by
   rw [← h1.1,List.getElem?_map,hx];rfl
  rw [List.getElem?_map,hz] at h6
  have h6:z.1=.lit (.int k0 x):=Option.some.inj h6
  rw [hc] at h5
  rw [hz,Nat.mul_one] at h5
  cases fuel with
  | zero=>simp [DataW.trod] at h5
  | succ fuel =>
   obtain ⟨k,e1,e2,e3⟩:=DataW.trod_int he h5
   rw [e2] at h6
   have hk:k=x:=by simpa using h6
   subst hk
   refine ⟨?_,(by simp [Lit.wf] at e3;exact e3)⟩
   have:((cs.drop i).take 1)[0]? = some (.int k0 k):=by rw [e1];rfl
   simpa using this
theorem ints_len {P:Program} {H:Type} {enc:TypeId×Value→H} {W:World} {base:Nat} {spare:Nat→Bool} {held:Bool} {fuel:Nat} {t e:TypeId} {n:Nat} {cs:List Value} {x:DataW H×List MemPlace} (ht:P.underlying t=some (.array n e)) (hc:P.cellsOf t=n)
  (h:DataW.trod enc P W base spare held fuel t cs=some x):cs.length=n:=by
 cases fuel with
 | zero=>simp [DataW.trod] at h
 | succ fuel =>
  obtain ⟨ys,m,hm,h1,h2,h3,h4⟩:=DataW.trod_array ht h
  rw [h2,hc]
theorem err_of_trod {P:Program} {H:Type} {enc:TypeId×Value→H} {W:World} {base:Nat} {spare:Nat→Bool} {fuel:Nat} {t T e:TypeId} {ms:Array (String×TypeId)} {cs:List Value} {n:String} {d:DataW H} {ps:List MemPlace} (ht:P.underlying t=some (.interface ms)) (hT:∀ u,P.typeName? 3 u=some n→u=T) (hp:P.underlying T=some (.pointer e))
  (hok:∀ u v,cs=[.iface u v]→∃ a,(P.underlying u=some (.pointer e)→v=.pointer a)) (h:DataW.trod enc P W base spare false fuel t cs=some (.iface n (.ptr d),ps)):∃ a,cs=[.iface T (.pointer (some a))]:=by
 cases fuel with
 | zero=>simp [DataW.trod] at h
 | succ fuel =>
  match cs,h with
  | [],h=>simp [DataW.trod,ht] at h
  | a::b::r,h=>simp [DataW.trod,ht] at h
  | [x],h =>
   cases x with
   | iface u v =>
    simp only [DataW.trod,ht] at h
    cases hn:P.typeName? 3 u with
    | none=>simp [hn] at h
    | some name =>
     simp only [hn,Option.map_eq_some_iff] at h
     obtain ⟨x,hx,hxe⟩:=h
     simp only [Prod.mk.injEq,DataW.iface.injEq] at hxe
     obtain ⟨⟨rfl,hxe⟩,_⟩:=hxe
     obtain rfl:=hT u hn
     obtain ⟨a,ha⟩:=hok u v rfl
     obtain rfl:=ha hp
     cases a with
     | some a=>exact ⟨a,rfl⟩
     | none =>
      cases fuel with
      | zero=>simp [DataW.trod] at hx
      | succ fuel =>
       simp only [Value.cells,DataW.trod,hp] at hx
       cases hx
       cases hxe
   | _=>simp [DataW.trod,ht] at h
end Go.PE
namespace Go.Proofs.YtobfnefajpiakaaGreatDoor
open Go Go.Abs Go.PE Go.RowKit Go.ChangeShapes Go.WideShapes Go.ChangeAt Go.Proofs
set_option maxRecDepth 100000
theorem tyP3:TyP Tryz.prog 3 (.int .i64):=.int Tryz.underlying3
theorem tyP9:TyP Tryz.prog 9 (.str):=.str Tryz.underlying9
theorem tyP22:TyP Tryz.prog 22 (.list (.str)):=.list Tryz.underlying22 (by kernel_rfl) tyP9
theorem tyP5:TyP Tryz.prog 5 (.int .u8):=.int Tryz.underlying5
theorem tyP48:TyP Tryz.prog 48 (.list (.list (.str))):=.list Tryz.underlying48 (by kernel_rfl) tyP22
theorem tyP56:TyP Tryz.prog 56 (.list (.int .i64)):=.list Tryz.underlying56 (by kernel_rfl) tyP3
theorem tyP62:TyP Tryz.prog 62 (.pair (.int .i64) (.pair (.list (.str)) (.pair (.int .i64) (.list (.int .i64))))):=.struct Tryz.underlying62 (by kernel_rfl) (show FsP Tryz.prog [(0,3),(1,22),(2,3),(3,56)] 0 (.pair (.int .i64) (.pair (.list (.str)) (.pair (.int .i64) (.list (.int .i64))))) from .cons (by kernel_rfl) tyP3 (.cons (by kernel_rfl) tyP22 (.cons (by kernel_rfl) tyP3 (.last (by kernel_rfl) tyP56))))
theorem tyP60:TyP Tryz.prog 60 (.list (.pair (.int .i64) (.pair (.list (.str)) (.pair (.int .i64) (.list (.int .i64)))))):=.list Tryz.underlying60 (by kernel_rfl) tyP62
theorem tys3:TysP Tryz.prog [3,9,22,3,5] [(.int .i64),(.str),(.list (.str)),(.int .i64),(.int .u8)]:=.cons (by kernel_rfl) (oD (by kernel_rfl)) tyP3 (.cons (by kernel_rfl) (oD (by kernel_rfl)) tyP9 (.cons (by kernel_rfl) (oD (by kernel_rfl)) tyP22 (.cons (by kernel_rfl) (oD (by kernel_rfl)) tyP3 (.cons (by kernel_rfl) (oD (by kernel_rfl)) tyP5 (.nil)))))
theorem tys4:TysP Tryz.prog [48,3,5] [(.list (.list (.str))),(.int .i64),(.int .u8)]:=.cons (by kernel_rfl) (oD (by kernel_rfl)) tyP48 (.cons (by kernel_rfl) (oD (by kernel_rfl)) tyP3 (.cons (by kernel_rfl) (oD (by kernel_rfl)) tyP5 (.nil)))
theorem tys5:TysP Tryz.prog [3,48,3,56,3] [(.int .i64),(.list (.list (.str))),(.int .i64),(.list (.int .i64)),(.int .i64)]:=.cons (by kernel_rfl) (oD (by kernel_rfl)) tyP3 (.cons (by kernel_rfl) (oD (by kernel_rfl)) tyP48 (.cons (by kernel_rfl) (oD (by kernel_rfl)) tyP3 (.cons (by kernel_rfl) (oD (by kernel_rfl)) tyP56 (.cons (by kernel_rfl) (oD (by kernel_rfl)) tyP3 (.nil)))))
theorem tys6:TysP Tryz.prog [3,60] [(.int .i64),(.list (.pair (.int .i64) (.pair (.list (.str)) (.pair (.int .i64) (.list (.int .i64))))))]:=.cons (by kernel_rfl) (oD (by kernel_rfl)) tyP3 (.cons (by kernel_rfl) (oD (by kernel_rfl)) tyP60 (.nil))
theorem tys7:TysP Tryz.prog [3,60] [(.int .i64),(.list (.pair (.int .i64) (.pair (.list (.str)) (.pair (.int .i64) (.list (.int .i64))))))]:=.cons (by kernel_rfl) (oD (by kernel_rfl)) tyP3 (.cons (by kernel_rfl) (oD (by kernel_rfl)) tyP60 (.nil))
theorem laidOut:laidOutB Tryz.prog=true:=by kernel_rfl
theorem own:ownKnob Tryz.prog.godebug=none:=by kernel_rfl
end Go.Proofs.YtobfnefajpiakaaGreatDoor
namespace Go.Proofs.YtobfnefajpiakaaGreatDoor
open Go Go.Abs Go.PE Go.RowKit Go.ChangeShapes Go.WideShapes Go.ChangeAt Go.WideMaps Go.WideElems Go.Proofs
set_option maxRecDepth 100000
theorem gName:Tryz.prog.globalNamed "putlog/digest.round"=some 3:=by kernel_rfl
theorem gTy:(Tryz.prog.globals[3]?).map (·.type)=some 214:=by kernel_rfl
theorem globs_ok [EA] {W:World} (h:laidMetH Tryz.prog Rows.journalOpensAnythingRow.laid W):GlobOK (InWd W) W:=by
 rw [MakeChecks.laidMetH_plain _ _ _ (by kernel_rfl)] at h
 obtain ⟨ps,h,_,_⟩:=h
 obtain ⟨_,_,_,_,_,_,_,_,_,_,h,_⟩:=h
 obtain ⟨g0,t0,cs0,f0,p0,q0,hg0,ht0,hv0,hd0,_,_⟩:=h
 obtain rfl:=Option.some.inj (gName.symm.trans hg0)
 obtain rfl:=Option.some.inj (gTy.symm.trans ht0)
 have hsz:=ints_len Tryz.underlying214 (by kernel_rfl) hd0
 have key:=ints_of_trod (k0:=.u32) (xs:=([1116352408,1899447441,3049323471,3921009573,961987163,1508970993,2453635748,2870763221,3624381080,310598401,607225278,1426881987,1925078388,2162078206,2614888103,3248222580,3835390401,4022224774,264347078,604807628,770255983,1249150122,1555081692,1996064986,2554220882,2821834349,2952996808,3210313671,3336571891,3584528711,113926993,338241895,666307205,773529912,1294757372,1396182291,1695183700,1986661051,2177026350,2456956037,2730485921,2820302411,3259730800,3345764771,3516065817,3600352804,4094571909,275423344,430227734,506948616,659060556,883997877,958139571,1322822218,1537002063,1747873779,1955562222,2024104815,2227730452,2361852424,2428436474,2756734187,3204031479,3329325298]:List Int)) Tryz.underlying214 Tryz.underlying109 (by kernel_rfl) hd0
 have hcell:∀ i,W.cell? ⟨3,i,none⟩=cs0[i]? := fun i=>World.var?_cell hg0 hv0 i
 intro g G hl
 unfold globTab at hl
 by_cases hg:3=g
 ·subst hg
  rw [lk_same] at hl
  cases hl
  refine ⟨⟨World.block_lt_of_cell? (w:=W) (a:=⟨3,0,none⟩) (u:=.int .u32 1116352408) (by rw [hcell];simpa using (key 0 1116352408 rfl).1),?_⟩,fun i x hx=>?_⟩
  ·rw [hcell]
   exact Array.getElem?_eq_none (by rw [← Array.length_toList,hsz];exact nR _)
  ·have key:=key i x hx
   refine ⟨[.int .u32 x],⟨rfl,key.2⟩,fun j v hj=>?_⟩
   cases j with
   | zero =>
    have hv:Value.int .u32 x=v:=Option.some.inj hj
    subst hv
    have h2:W.cell? ⟨3,i*1+0,none⟩=some (.int .u32 x):=by
     rw [Nat.mul_one,Nat.add_zero,hcell]
     simpa using key.1
    exact ⟨World.block_lt_of_cell? (w:=W) (a:=⟨3,i*1+0,none⟩) h2,h2⟩
   | succ j=>simp at hj
 ·rw [lk_ne _ _ hg] at hl
  cases hl
theorem door_met (os:Os) (args:Array Value):laidMetH Tryz.prog Rows.journalOpensAnythingRow.laid ((World.laidAll Tryz.prog os Rows.journalOpensAnythingRow.laid).forCall (fun _ _=>0) ⟨#[],args,[]⟩).memory:=by
 rw [MakeChecks.laidMetH_plain _ _ _ (by kernel_rfl)]
 exact laidMet_laidAll _ (by kernel_rfl) (by kernel_rfl)
theorem eName:Tryz.prog.globalNamed "putlog/journal.errDamaged"=some 0:=by kernel_rfl
theorem eTy:(Tryz.prog.globals[0]?).map (·.type)=some 80:=by kernel_rfl
theorem eStar:"*"++"errors.errorString"="*errors.errorString":=by decide
theorem eRow (u:TypeId) (h:Tryz.prog.typeName? 3 u=some "*errors.errorString"):u=222:=typeName_ptr_named (nm:="errors.errorString") (by rw [eStar];kernel_rfl) (by kernel_rfl) (by decide) u (by rw [eStar];exact h)
theorem errs_ok {W:World} (h:laidMetH Tryz.prog Rows.journalOpensAnythingRow.laid W):∃ e:EA,ErrOK (ea:=e) (InWd W) W:=by
 rw [MakeChecks.laidMetH_plain _ _ _ (by kernel_rfl)] at h
 obtain ⟨ps,h,_,hok⟩:=h
 obtain ⟨_,_,_,_,_,q0,_,_,_,_,h,e1⟩:=h
 subst e1
 replace hok:=fun b off (hm:MemPlace.cell b off∈q0)=>hok b off (List.mem_append_right _ hm)
 obtain ⟨_,_,_,_,_,q1,_,_,_,_,h,e1⟩:=h
 subst e1
 replace hok:=fun b off (hm:MemPlace.cell b off∈q1)=>hok b off (List.mem_append_right _ hm)
 obtain ⟨g0,t0,cs0,f0,p0,q0,hg0,ht0,hv0,hd0,_,e0⟩:=h
 subst e0
 obtain rfl:=Option.some.inj (eName.symm.trans hg0)
 obtain rfl:=Option.some.inj (eTy.symm.trans ht0)
 have hcell:∀ i,W.cell? ⟨0,i,none⟩=cs0[i]? := fun i=>World.var?_cell hg0 hv0 i
 obtain ⟨a,ha⟩:=err_of_trod (ea:=⟨default⟩) Tryz.underlying80 eRow Tryz.underlying222 (fun u v hcs=>by
  have hc:W.cell? ⟨0,0,none⟩=some (.iface u v):=by rw [hcell,← Array.getElem?_toList,hcs];rfl
  have hm:MemPlace.cell 0 0∈MemPlace.row ⟨0,0,none⟩ cs0.size:=by
   rw [← Array.length_toList,hcs]
   simp [MemPlace.row]
  have hw:=(hok 0 0 (List.mem_append_left _ (List.mem_append_left _ hm))).2 u v hc
  by_cases hu:Tryz.prog.underlying u=some (.pointer 244)
  ·obtain ⟨a,rfl⟩:=okWide_pointer hu hw
   exact ⟨a,fun _=>rfl⟩
  ·exact ⟨none,fun h=>absurd h hu⟩) hd0
 refine (fun (ea:EA) (hea:ea.a=a)=>(⟨ea,fun g T hl=>?_⟩:∃ e:EA,ErrOK (ea:=e) (InWd W) W)) ⟨a⟩ rfl
 unfold errTab at hl
 by_cases hg:0=g
 ·subst hg
  rw [lk_same] at hl
  cases hl
  have hc:W.cell? ⟨0,0,none⟩=some (.iface 222 (.pointer (some a))):=by rw [hcell,← Array.getElem?_toList,ha];rfl
  exact ⟨World.block_lt_of_cell? (w:=W) (a:=⟨0,0,none⟩) hc,by rw [hc,← hea];rfl⟩
 ·rw [lk_ne _ _ hg] at hl
  cases hl
end Go.Proofs.YtobfnefajpiakaaGreatDoor
namespace Go.Proofs.YtobfnefajpiakaaGreatDoor
open Go Go.Abs Go.PE
set_option maxRecDepth 100000
variable [db:DB] [EA]
section
variable {S:Cells} {w:World} {η:Eta}
theorem zi (k:IntKind):CM S w η (.d (.int k) (0:Int)) (.int k 0):=⟨rfl,VRep.int.2 ⟨rfl,by unfold IntKind.has;cases k<;>decide⟩⟩
theorem zb:CM S w η (.d .bool false) (.bool false):=⟨rfl,VRep.bool.2 rfl⟩
theorem zs:CM S w η (.d .str ([]:List UInt8)) (.string ⟨#[]⟩):=⟨rfl,VRep.str.2 ⟨rfl,Nat.zero_le _⟩⟩
end
abbrev tI:Ty:=.int .i64
abbrev tF:TI:=⟨false,1,[.l .nilF],none,.fn⟩
theorem oF {P:Program} {k:TypeId} {a b c} (h1:∀ w,(isAgg k).run P w=.ok false w) (h2:∀ w,(Go.sizeOf k).run P w=.ok 1 w) (h3:∀ w,(zeroValue k).run P w=.ok .nilFunc w) (h4:∀ w,(underlying k).run P w=.ok (.func a b c) w):TIok P k tF :=
 ⟨h1,h2,⟨_,h3,⟨[Value.nilFunc],rfl,fun S w η=>.cons (rfl) (.nil)⟩,(fun T h=>by cases h)⟩,(fun T h=>by cases h),⟨_,_,_,h4⟩⟩
abbrev ty_putloglaw37_Op:Ty:=.pair (.int .i64) (.pair (.list (.str)) (.pair (.int .i64) (.list (.int .i64))))
abbrev ty_putlogref36_Change:Ty:=.pair (.int .i64) (.str)
abbrev ty_putlogref36_Disk:Ty:=.pair (.list (.int .u8)) (.pair (.list (ty_putlogref36_Change)) (.pair (.bool) (.int .i64)))
abbrev ty_journal_tape:Ty:=.pair (.list (.str)) (.pair (.str) (.int .i64))
abbrev ty_disk_write:Ty:=.pair (.int .i64) (.str)
abbrev ty_disk_power:Ty:=.pair (.bool) (.int .i64)
abbrev ty_disk_Disk:Ty:=.pair (ty_disk_power) (.pair (.list (.int .u8)) (.pair (.list (.int .u8)) (.list (ty_disk_write))))
abbrev ty_unicode_utf8_acceptRange:Ty:=.pair (.int .u8) (.int .u8)
abbrev ty_errors_errorString:Ty:=.one (.str)
abbrev ty_internal_abi_Method:Ty:=.pair (.int .i32) (.pair (.int .i32) (.pair (.int .i32) (.int .i32)))
abbrev t2:TI:=⟨false,1,[.d (.int .i64) (0:Int)],some (.int .i64),.int .i64⟩
abbrev t3:TI:=⟨false,1,[.d (.int .i64) (0:Int)],some (.int .i64),.int .i64⟩
abbrev t4:TI:=⟨false,1,[.d .bool false],some (.bool),.bool⟩
abbrev t5:TI:=⟨false,1,[.d (.int .u8) (0:Int)],some (.int .u8),.int .u8⟩
abbrev t7:TI:=⟨true,4,[.d (.int .i64) (0:Int),.d (.int .i64) (0:Int),.d .bool false,.d (.int .u8) (0:Int)],some (.pair (.int .i64) (.pair (.int .i64) (.pair (.bool) (.int .u8)))),.other⟩
abbrev t9:TI:=⟨false,1,[.d .str ([]:List UInt8)],some (.str),.str⟩
abbrev t12:TI:=⟨false,1,[.d (.int .u64) (0:Int)],some (.int .u64),.int .u64⟩
abbrev t13:TI:=⟨true,2,[.d .str ([]:List UInt8),.d (.int .u64) (0:Int)],some (.pair (.str) (.int .u64)),.struct [(0,9,1),(1,12,1)]⟩
abbrev t15:TI:=⟨false,1,[.l .nilP],none,.ptr 224⟩
abbrev t16:TI:=⟨false,1,[.l .nilP],none,.ptr 227⟩
abbrev t17:TI:=⟨false,1,[.l .nilP],none,.ptr 234⟩
abbrev t18:TI:=⟨true,1,[.l .nilP],none,.struct [(0,17,1)]⟩
abbrev t20:TI:=⟨false,1,[.l .nilI],none,.ifc⟩
abbrev t21:TI:=⟨false,1,[.d (.int .i32) (0:Int)],some (.int .i32),.int .i32⟩
abbrev t22:TI:=⟨false,1,[.l .nilS],some (.list (.str)),.slice 9 16⟩
abbrev t24:TI:=⟨false,1,[.l .nilP],none,.ptr 32⟩
abbrev t27:TI:=⟨false,1,[.l .nilP],none,.ptr 97⟩
abbrev t28:TI:=⟨false,1,[.l .nilP],none,.ptr 74⟩
abbrev t29:TI:=⟨false,1,[.l .nilP],none,.ptr 67⟩
abbrev t30:TI:=⟨false,1,[.l .nilP],none,.ptr 43⟩
abbrev t31:TI:=⟨true,4,[.l .nilP,.l .nilP,.l .nilP,.l .nilP],none,.struct [(0,27,1),(1,28,1),(2,29,1),(3,30,1)]⟩
abbrev t32:TI:=⟨true,4,[.l .nilP,.l .nilP,.l .nilP,.l .nilP],none,.struct [(0,27,1),(1,28,1),(2,29,1),(3,30,1)]⟩
abbrev t33:TI:=⟨false,1,[.d (.int .i64) (0:Int)],some (.int .i64),.int .i64⟩
abbrev t39:TI:=⟨false,1,[.l .nilS],some (.list (.int .u8)),.slice 5 1⟩
abbrev t42:TI:=⟨true,4,[.l .nilP,.l .nilS,.d (.int .i64) (0:Int),.d .bool false],none,.struct [(0,29,1),(1,22,1),(2,3,1),(3,4,1)]⟩
abbrev t43:TI:=⟨true,4,[.l .nilP,.l .nilS,.d (.int .i64) (0:Int),.d .bool false],none,.struct [(0,29,1),(1,22,1),(2,3,1),(3,4,1)]⟩
abbrev t48:TI:=⟨false,1,[.l .nilS],some (.list (.list (.str))),.slice 22 24⟩
abbrev t56:TI:=⟨false,1,[.l .nilS],some (.list (.int .i64)),.slice 3 8⟩
abbrev t60:TI:=⟨false,1,[.l .nilS],some (.list (ty_putloglaw37_Op)),.slice 62 64⟩
abbrev t61:TI:=⟨true,4,[.d (.int .i64) (0:Int),.l .nilS,.d (.int .i64) (0:Int),.l .nilS],some (.pair (.int .i64) (.pair (.list (.str)) (.pair (.int .i64) (.list (.int .i64))))),.struct [(0,3,1),(1,22,1),(2,3,1),(3,56,1)]⟩
abbrev t62:TI:=⟨true,4,[.d (.int .i64) (0:Int),.l .nilS,.d (.int .i64) (0:Int),.l .nilS],some (ty_putloglaw37_Op),.struct [(0,3,1),(1,22,1),(2,3,1),(3,56,1)]⟩
abbrev t65:TI:=⟨false,1,[.l .nilS],some (.list (ty_putlogref36_Change)),.slice 100 24⟩
abbrev t66:TI:=⟨true,4,[.l .nilS,.l .nilS,.d .bool false,.d (.int .i64) (0:Int)],some (.pair (.list (.int .u8)) (.pair (.list (ty_putlogref36_Change)) (.pair (.bool) (.int .i64)))),.struct [(0,39,1),(1,65,1),(2,4,1),(3,3,1)]⟩
abbrev t67:TI:=⟨true,4,[.l .nilS,.l .nilS,.d .bool false,.d (.int .i64) (0:Int)],some (ty_putlogref36_Disk),.struct [(0,39,1),(1,65,1),(2,4,1),(3,3,1)]⟩
abbrev t71:TI:=⟨true,3,[.l .nilS,.d .str ([]:List UInt8),.d (.int .i64) (0:Int)],some (.pair (.list (.str)) (.pair (.str) (.int .i64))),.struct [(0,22,1),(1,9,1),(2,3,1)]⟩
abbrev t72:TI:=⟨true,3,[.l .nilS,.d .str ([]:List UInt8),.d (.int .i64) (0:Int)],some (ty_journal_tape),.struct [(0,22,1),(1,9,1),(2,3,1)]⟩
abbrev t73:TI:=⟨true,5,[.l .nilS,.d .str ([]:List UInt8),.d (.int .i64) (0:Int),.l .nilP,.d .bool false],none,.struct [(0,72,3),(3,27,1),(4,4,1)]⟩
abbrev t74:TI:=⟨true,5,[.l .nilS,.d .str ([]:List UInt8),.d (.int .i64) (0:Int),.l .nilP,.d .bool false],none,.struct [(0,72,3),(3,27,1),(4,4,1)]⟩
abbrev t76:TI:=⟨false,1,[.l .nilP],none,.ptr 78⟩
abbrev t77:TI:=⟨true,2,[.l .nilP,.l .nilS],none,.struct [(0,76,1),(1,39,1)]⟩
abbrev t79:TI:=⟨false,1,[.l .nilI],none,.ifc⟩
abbrev t80:TI:=⟨false,1,[.l .nilI],none,.ifc⟩
abbrev t91:TI:=⟨true,2,[.d (.int .i64) (0:Int),.d .str ([]:List UInt8)],some (.pair (.int .i64) (.str)),.struct [(0,3,1),(1,9,1)]⟩
abbrev t92:TI:=⟨true,2,[.d (.int .i64) (0:Int),.d .str ([]:List UInt8)],some (ty_disk_write),.struct [(0,3,1),(1,9,1)]⟩
abbrev t93:TI:=⟨false,1,[.l .nilS],some (.list (ty_disk_write)),.slice 92 24⟩
abbrev t94:TI:=⟨true,2,[.d .bool false,.d (.int .i64) (0:Int)],some (.pair (.bool) (.int .i64)),.struct [(0,4,1),(1,3,1)]⟩
abbrev t95:TI:=⟨true,2,[.d .bool false,.d (.int .i64) (0:Int)],some (ty_disk_power),.struct [(0,4,1),(1,3,1)]⟩
abbrev t96:TI:=⟨true,5,[.d .bool false,.d (.int .i64) (0:Int),.l .nilS,.l .nilS,.l .nilS],some (.pair (ty_disk_power) (.pair (.list (.int .u8)) (.pair (.list (.int .u8)) (.list (ty_disk_write))))),.struct [(0,95,2),(2,39,1),(3,39,1),(4,93,1)]⟩
abbrev t97:TI:=⟨true,5,[.d .bool false,.d (.int .i64) (0:Int),.l .nilS,.l .nilS,.l .nilS],some (ty_disk_Disk),.struct [(0,95,2),(2,39,1),(3,39,1),(4,93,1)]⟩
abbrev t99:TI:=⟨true,2,[.d (.int .i64) (0:Int),.d .str ([]:List UInt8)],some (.pair (.int .i64) (.str)),.struct [(0,3,1),(1,9,1)]⟩
abbrev t100:TI:=⟨true,2,[.d (.int .i64) (0:Int),.d .str ([]:List UInt8)],some (ty_putlogref36_Change),.struct [(0,3,1),(1,9,1)]⟩
abbrev t109:TI:=⟨false,1,[.d (.int .u32) (0:Int)],some (.int .u32),.int .u32⟩
abbrev t110:TI:=⟨false,1,[.l .nilS],some (.list (.int .u32)),.slice 109 4⟩
abbrev t113:TI:=⟨false,1,[.d (.int .u64) (0:Int)],some (.int .u64),.int .u64⟩
abbrev t124:TI:=⟨false,1,[.l .nilP],none,.ptr 72⟩
abbrev t126:TI:=⟨false,1,[.l .nilP],none,.ptr 5⟩
abbrev t127:TI:=⟨false,1,[.l .nilS],none,.slice 85 8⟩
abbrev t128:TI:=⟨false,1,[.l .nilP],none,.ptr 95⟩
abbrev t140:TI:=⟨false,1,[.l .nilP],none,.ptr 136⟩
abbrev t141:TI:=⟨false,1,[.d (.int .u64) (0:Int)],some (.int .u64),.int .u64⟩
abbrev t154:TI:=⟨false,1,[.l .nilI],none,.ifc⟩
abbrev t170:TI:=⟨true,1,[.l .nilP],none,.struct [(0,17,1)]⟩
abbrev t172:TI:=⟨false,1,[.l .nilP],none,.ptr 242⟩
abbrev t173:TI:=⟨false,1,[.l .nilI],none,.ifc⟩
abbrev t176:TI:=⟨false,1,[.l .nilI],none,.ifc⟩
abbrev t178:TI:=⟨false,1,[.l .nilI],none,.ifc⟩
abbrev t179:TI:=⟨false,1,[.l .nilS],none,.slice 80 16⟩
abbrev t183:TI:=⟨false,1,[.d (.int .i64) (0:Int)],some (.int .i64),.int .i64⟩
abbrev t192:TI:=⟨true,8,[.d (.int .u32) (0:Int),.d (.int .u32) (0:Int),.d (.int .u32) (0:Int),.d (.int .u32) (0:Int),.d (.int .u32) (0:Int),.d (.int .u32) (0:Int),.d (.int .u32) (0:Int),.d (.int .u32) (0:Int)],some (.pair (.int .u32) (.pair (.int .u32) (.pair (.int .u32) (.pair (.int .u32) (.pair (.int .u32) (.pair (.int .u32) (.pair (.int .u32) (.int .u32)))))))),.array 8 109⟩
abbrev t193:TI:=⟨true,8,[.d (.int .u32) (0:Int),.d (.int .u32) (0:Int),.d (.int .u32) (0:Int),.d (.int .u32) (0:Int),.d (.int .u32) (0:Int),.d (.int .u32) (0:Int),.d (.int .u32) (0:Int),.d (.int .u32) (0:Int)],some (.pair (.int .u32) (.pair (.int .u32) (.pair (.int .u32) (.pair (.int .u32) (.pair (.int .u32) (.pair (.int .u32) (.pair (.int .u32) (.int .u32)))))))),.array 8 109⟩
abbrev t200:TI:=⟨true,2,[.d (.int .u8) (0:Int),.d (.int .u8) (0:Int)],some (.pair (.int .u8) (.int .u8)),.struct [(0,5,1),(1,5,1)]⟩
abbrev t201:TI:=⟨true,2,[.d (.int .u8) (0:Int),.d (.int .u8) (0:Int)],some (ty_unicode_utf8_acceptRange),.struct [(0,5,1),(1,5,1)]⟩
abbrev t202:TI:=⟨true,32,[.d (.int .u8) (0:Int),.d (.int .u8) (0:Int),.d (.int .u8) (0:Int),.d (.int .u8) (0:Int),.d (.int .u8) (0:Int),.d (.int .u8) (0:Int),.d (.int .u8) (0:Int),.d (.int .u8) (0:Int),.d (.int .u8) (0:Int),.d (.int .u8) (0:Int),.d (.int .u8) (0:Int),.d (.int .u8) (0:Int),.d (.int .u8) (0:Int),.d (.int .u8) (0:Int),.d (.int .u8) (0:Int),.d (.int .u8) (0:Int),.d (.int .u8) (0:Int),.d (.int .u8) (0:Int),.d (.int .u8) (0:Int),.d (.int .u8) (0:Int),.d (.int .u8) (0:Int),.d (.int .u8) (0:Int),.d (.int .u8) (0:Int),.d (.int .u8) (0:Int),.d (.int .u8) (0:Int),.d (.int .u8) (0:Int),.d (.int .u8) (0:Int),.d (.int .u8) (0:Int),.d (.int .u8) (0:Int),.d (.int .u8) (0:Int),.d (.int .u8) (0:Int),.d (.int .u8) (0:Int)],none,.array 16 201⟩
abbrev t206:TI:=⟨false,1,[.d (.int .u64) (0:Int)],some (.int .u64),.int .u64⟩
abbrev t210:TI:=⟨false,1,[.l .nilP],none,.ptr 3⟩
abbrev t213:TI:=⟨false,1,[.l .nilP],none,.ptr 193⟩
abbrev t214:TI:=⟨true,64,[.d (.int .u32) (0:Int),.d (.int .u32) (0:Int),.d (.int .u32) (0:Int),.d (.int .u32) (0:Int),.d (.int .u32) (0:Int),.d (.int .u32) (0:Int),.d (.int .u32) (0:Int),.d (.int .u32) (0:Int),.d (.int .u32) (0:Int),.d (.int .u32) (0:Int),.d (.int .u32) (0:Int),.d (.int .u32) (0:Int),.d (.int .u32) (0:Int),.d (.int .u32) (0:Int),.d (.int .u32) (0:Int),.d (.int .u32) (0:Int),.d (.int .u32) (0:Int),.d (.int .u32) (0:Int),.d (.int .u32) (0:Int),.d (.int .u32) (0:Int),.d (.int .u32) (0:Int),.d (.int .u32) (0:Int),.d (.int .u32) (0:Int),.d (.int .u32) (0:Int),.d (.int .u32) (0:Int),.d (.int .u32) (0:Int),.d (.int .u32) (0:Int),.d (.int .u32) (0:Int),.d (.int .u32) (0:Int),.d (.int .u32) (0:Int),.d (.int .u32) (0:Int),.d (.int .u32) (0:Int),.d (.int .u32) (0:Int),.d (.int .u32) (0:Int),.d (.int .u32) (0:Int),.d (.int .u32) (0:Int),.d (.int .u32) (0:Int),.d (.int .u32) (0:Int),.d (.int .u32) (0:Int),.d (.int .u32) (0:Int),.d (.int .u32) (0:Int),.d (.int .u32) (0:Int),.d (.int .u32) (0:Int),.d (.int .u32) (0:Int),.d (.int .u32) (0:Int),.d (.int .u32) (0:Int),.d (.int .u32) (0:Int),.d (.int .u32) (0:Int),.d (.int .u32) (0:Int),.d (.int .u32) (0:Int),.d (.int .u32) (0:Int),.d (.int .u32) (0:Int),.d (.int .u32) (0:Int),.d (.int .u32) (0:Int),.d (.int .u32) (0:Int),.d (.int .u32) (0:Int),.d (.int .u32) (0:Int),.d (.int .u32) (0:Int),.d (.int .u32) (0:Int),.d (.int .u32) (0:Int),.d (.int .u32) (0:Int),.d (.int .u32) (0:Int),.d (.int .u32) (0:Int),.d (.int .u32) (0:Int)],none,.array 64 109⟩
abbrev t217:TI:=⟨true,32,[.d (.int .u8) (0:Int),.d (.int .u8) (0:Int),.d (.int .u8) (0:Int),.d (.int .u8) (0:Int),.d (.int .u8) (0:Int),.d (.int .u8) (0:Int),.d (.int .u8) (0:Int),.d (.int .u8) (0:Int),.d (.int .u8) (0:Int),.d (.int .u8) (0:Int),.d (.int .u8) (0:Int),.d (.int .u8) (0:Int),.d (.int .u8) (0:Int),.d (.int .u8) (0:Int),.d (.int .u8) (0:Int),.d (.int .u8) (0:Int),.d (.int .u8) (0:Int),.d (.int .u8) (0:Int),.d (.int .u8) (0:Int),.d (.int .u8) (0:Int),.d (.int .u8) (0:Int),.d (.int .u8) (0:Int),.d (.int .u8) (0:Int),.d (.int .u8) (0:Int),.d (.int .u8) (0:Int),.d (.int .u8) (0:Int),.d (.int .u8) (0:Int),.d (.int .u8) (0:Int),.d (.int .u8) (0:Int),.d (.int .u8) (0:Int),.d (.int .u8) (0:Int),.d (.int .u8) (0:Int)],none,.array 32 5⟩
abbrev t218:TI:=⟨false,1,[.l .nilP],none,.ptr 206⟩
abbrev t222:TI:=⟨false,1,[.l .nilP],none,.ptr 244⟩
abbrev t223:TI:=⟨true,4,[.l .nilP,.l .nilP,.l .nilP,.d .str ([]:List UInt8)],none,.struct [(0,17,1),(1,17,1),(2,17,1),(3,9,1)]⟩
abbrev t226:TI:=⟨true,0,[],none,.other⟩
abbrev t233:TI:=⟨true,11,[.d (.int .u64) (0:Int),.d (.int .u64) (0:Int),.d (.int .u32) (0:Int),.d (.int .u8) (0:Int),.d (.int .u8) (0:Int),.d (.int .u8) (0:Int),.d (.int .u8) (0:Int),.l .nilF,.l .nilP,.d (.int .i32) (0:Int),.d (.int .i32) (0:Int)],none,.other⟩
abbrev t241:TI:=⟨true,2,[.d .str ([]:List UInt8),.d (.int .u8) (0:Int)],some (.pair (.str) (.int .u8)),.other⟩
abbrev t243:TI:=⟨true,1,[.d .str ([]:List UInt8)],some (.one (.str)),.struct [(0,9,1)]⟩
abbrev t244:TI:=⟨true,1,[.d .str ([]:List UInt8)],some (ty_errors_errorString),.struct [(0,9,1)]⟩
abbrev t245:TI:=⟨false,1,[.l .nilP],none,.ptr 249⟩
abbrev t247:TI:=⟨false,1,[.d (.int .u16) (0:Int)],some (.int .u16),.int .u16⟩
abbrev t248:TI:=⟨true,5,[.d (.int .i32) (0:Int),.d (.int .u16) (0:Int),.d (.int .u16) (0:Int),.d (.int .u32) (0:Int),.d (.int .u32) (0:Int)],some (.pair (.int .i32) (.pair (.int .u16) (.pair (.int .u16) (.pair (.int .u32) (.int .u32))))),.other⟩
abbrev t250:TI:=⟨false,1,[.l .nilS],some (.list (ty_internal_abi_Method)),.other⟩
abbrev t252:TI:=⟨true,4,[.d (.int .i32) (0:Int),.d (.int .i32) (0:Int),.d (.int .i32) (0:Int),.d (.int .i32) (0:Int)],some (.pair (.int .i32) (.pair (.int .i32) (.pair (.int .i32) (.int .i32)))),.other⟩
def tyTab:List (TypeId×TI):=[(1,tF),(2,t2),(3,t3),(4,t4),(5,t5),(7,t7),(9,t9),(12,t12),(13,t13),(15,t15),(16,t16),(17,t17),(18,t18),(20,t20),(21,t21),(22,t22),(24,t24),(27,t27),(28,t28),(29,t29),(30,t30),(31,t31),(32,t32),(33,t33),(39,t39),(42,t42),(43,t43),(48,t48),(56,t56),(60,t60),(61,t61),(62,t62),(65,t65),(66,t66),(67,t67),(70,tF),(71,t71),(72,t72),(73,t73),(74,t74),(76,t76),(77,t77),(79,t79),(80,t80),(85,tF),(91,t91),(92,t92),(93,t93),(94,t94),(95,t95),(96,t96),(97,t97),(99,t99),(100,t100),(109,t109),(110,t110),(113,t113),(117,tF),(120,tF),(124,t124),(126,t126),(127,t127),(128,t128),(140,t140),(141,t141),(150,tF),(154,t154),(168,tF),(170,t170),(172,t172),(173,t173),(176,t176),(178,t178),(179,t179),(183,t183),(192,t192),(193,t193),(195,tF),(198,tF),(200,t200),(201,t201),(202,t202),(206,t206),(210,t210),(212,tF),(213,t213),(214,t214),(217,t217),(218,t218),(222,t222),(223,t223),(226,t226),(233,t233),(241,t241),(243,t243),(244,t244),(245,t245),(247,t247),(248,t248),(250,t250),(252,t252),]
theorem ti2:TIok Tryz.prog 2 t2 :=
 ⟨Tryz.isAgg2,Tryz.sizeOf2,⟨_,Tryz.zeroValue2,⟨[Value.int IntKind.i64 0],rfl,fun S w η=>.cons (zi _) (.nil)⟩,(fun T h=>by cases h;rfl)⟩,(fun T h=>by cases h;exact ⟨rfl,rfl⟩),Tryz.runUnderlying2⟩
theorem ti3:TIok Tryz.prog 3 t3 :=
 ⟨Tryz.isAgg3,Tryz.sizeOf3,⟨_,Tryz.zeroValue3,⟨[Value.int IntKind.i64 0],rfl,fun S w η=>.cons (zi _) (.nil)⟩,(fun T h=>by cases h;rfl)⟩,(fun T h=>by cases h;exact ⟨rfl,rfl⟩),Tryz.runUnderlying3⟩
theorem ti4:TIok Tryz.prog 4 t4 :=
 ⟨Tryz.isAgg4,Tryz.sizeOf4,⟨_,Tryz.zeroValue4,⟨[Value.bool false],rfl,fun S w η=>.cons (zb) (.nil)⟩,(fun T h=>by cases h;rfl)⟩,(fun T h=>by cases h;exact ⟨rfl,rfl⟩),Tryz.runUnderlying4⟩
theorem ti5:TIok Tryz.prog 5 t5 :=
 ⟨Tryz.isAgg5,Tryz.sizeOf5,⟨_,Tryz.zeroValue5,⟨[Value.int IntKind.u8 0],rfl,fun S w η=>.cons (zi _) (.nil)⟩,(fun T h=>by cases h;rfl)⟩,(fun T h=>by cases h;exact ⟨rfl,rfl⟩),Tryz.runUnderlying5⟩
theorem ti7:TIok Tryz.prog 7 t7 :=
 ⟨Tryz.isAgg7,Tryz.sizeOf7,⟨_,Tryz.zeroValue7,⟨[Value.int IntKind.i64 0,Value.int IntKind.i64 0,Value.bool false,Value.int IntKind.u8 0],rfl,fun S w η=>.cons (zi _) (.cons (zi _) (.cons (zb) (.cons (zi _) (.nil))))⟩,(fun T h=>by cases h;rfl)⟩,(fun T h=>by cases h;exact ⟨rfl,rfl⟩),trivial⟩
theorem ti9:TIok Tryz.prog 9 t9 :=
 ⟨Tryz.isAgg9,Tryz.sizeOf9,⟨_,Tryz.zeroValue9,⟨[Value.string ⟨#[]⟩],rfl,fun S w η=>.cons (zs) (.nil)⟩,(fun T h=>by cases h;rfl)⟩,(fun T h=>by cases h;exact ⟨rfl,rfl⟩),Tryz.runUnderlying9⟩
theorem ti12:TIok Tryz.prog 12 t12 :=
 ⟨Tryz.isAgg12,Tryz.sizeOf12,⟨_,Tryz.zeroValue12,⟨[Value.int IntKind.u64 0],rfl,fun S w η=>.cons (zi _) (.nil)⟩,(fun T h=>by cases h;rfl)⟩,(fun T h=>by cases h;exact ⟨rfl,rfl⟩),Tryz.runUnderlying12⟩
theorem ti13:TIok Tryz.prog 13 t13 :=
 ⟨Tryz.isAgg13,Tryz.sizeOf13,⟨_,Tryz.zeroValue13,⟨[Value.string ⟨#[]⟩,Value.int IntKind.u64 0],rfl,fun S w η=>.cons (zs) (.cons (zi _) (.nil))⟩,(fun T h=>by cases h;rfl)⟩,(fun T h=>by cases h;exact ⟨rfl,rfl⟩),⟨_,Tryz.runUnderlying13,rfl,fun w=>by simp [Tryz.sizeOf12,Tryz.sizeOf9]⟩⟩
theorem ti15:TIok Tryz.prog 15 t15 :=
 ⟨Tryz.isAgg15,Tryz.sizeOf15,⟨_,Tryz.zeroValue15,⟨[Value.pointer none],rfl,fun S w η=>.cons (rfl) (.nil)⟩,(fun T h=>by cases h)⟩,(fun T h=>by cases h),Tryz.runUnderlying15⟩
theorem ti16:TIok Tryz.prog 16 t16 :=
 ⟨Tryz.isAgg16,Tryz.sizeOf16,⟨_,Tryz.zeroValue16,⟨[Value.pointer none],rfl,fun S w η=>.cons (rfl) (.nil)⟩,(fun T h=>by cases h)⟩,(fun T h=>by cases h),Tryz.runUnderlying16⟩
theorem ti17:TIok Tryz.prog 17 t17 :=
 ⟨Tryz.isAgg17,Tryz.sizeOf17,⟨_,Tryz.zeroValue17,⟨[Value.pointer none],rfl,fun S w η=>.cons (rfl) (.nil)⟩,(fun T h=>by cases h)⟩,(fun T h=>by cases h),Tryz.runUnderlying17⟩
theorem ti18:TIok Tryz.prog 18 t18 :=
 ⟨Tryz.isAgg18,Tryz.sizeOf18,⟨_,Tryz.zeroValue18,⟨[Value.pointer none],rfl,fun S w η=>.cons (rfl) (.nil)⟩,(fun T h=>by cases h)⟩,(fun T h=>by cases h),⟨_,Tryz.runUnderlying18,rfl,fun w=>by simp [Tryz.sizeOf17]⟩⟩
theorem ti20:TIok Tryz.prog 20 t20 :=
 ⟨Tryz.isAgg20,Tryz.sizeOf20,⟨_,Tryz.zeroValue20,⟨[Value.nilIface],rfl,fun S w η=>.cons (rfl) (.nil)⟩,(fun T h=>by cases h)⟩,(fun T h=>by cases h),⟨_,Tryz.runUnderlying20⟩⟩
theorem ti21:TIok Tryz.prog 21 t21 :=
 ⟨Tryz.isAgg21,Tryz.sizeOf21,⟨_,Tryz.zeroValue21,⟨[Value.int IntKind.i32 0],rfl,fun S w η=>.cons (zi _) (.nil)⟩,(fun T h=>by cases h;rfl)⟩,(fun T h=>by cases h;exact ⟨rfl,rfl⟩),Tryz.runUnderlying21⟩
theorem ti22:TIok Tryz.prog 22 t22 :=
 ⟨Tryz.isAgg22,Tryz.sizeOf22,⟨_,Tryz.zeroValue22,⟨[Value.slice none 0 0],rfl,fun S w η=>.cons (rfl) (.nil)⟩,(fun T h=>by cases h;rfl)⟩,(fun T h=>by cases h;exact ⟨rfl,rfl⟩),⟨Tryz.underlying22,by decide,Tryz.t9,_,rfl,rfl,rfl,Tryz.zeroValue9,Tryz.sizeOf9⟩⟩
theorem ti24:TIok Tryz.prog 24 t24 :=
 ⟨Tryz.isAgg24,Tryz.sizeOf24,⟨_,Tryz.zeroValue24,⟨[Value.pointer none],rfl,fun S w η=>.cons (rfl) (.nil)⟩,(fun T h=>by cases h)⟩,(fun T h=>by cases h),Tryz.runUnderlying24⟩
theorem ti27:TIok Tryz.prog 27 t27 :=
 ⟨Tryz.isAgg27,Tryz.sizeOf27,⟨_,Tryz.zeroValue27,⟨[Value.pointer none],rfl,fun S w η=>.cons (rfl) (.nil)⟩,(fun T h=>by cases h)⟩,(fun T h=>by cases h),Tryz.runUnderlying27⟩
theorem ti28:TIok Tryz.prog 28 t28 :=
 ⟨Tryz.isAgg28,Tryz.sizeOf28,⟨_,Tryz.zeroValue28,⟨[Value.pointer none],rfl,fun S w η=>.cons (rfl) (.nil)⟩,(fun T h=>by cases h)⟩,(fun T h=>by cases h),Tryz.runUnderlying28⟩
theorem ti29:TIok Tryz.prog 29 t29 :=
 ⟨Tryz.isAgg29,Tryz.sizeOf29,⟨_,Tryz.zeroValue29,⟨[Value.pointer none],rfl,fun S w η=>.cons (rfl) (.nil)⟩,(fun T h=>by cases h)⟩,(fun T h=>by cases h),Tryz.runUnderlying29⟩
theorem ti30:TIok Tryz.prog 30 t30 :=
 ⟨Tryz.isAgg30,Tryz.sizeOf30,⟨_,Tryz.zeroValue30,⟨[Value.pointer none],rfl,fun S w η=>.cons (rfl) (.nil)⟩,(fun T h=>by cases h)⟩,(fun T h=>by cases h),Tryz.runUnderlying30⟩
theorem ti31:TIok Tryz.prog 31 t31 :=
 ⟨Tryz.isAgg31,Tryz.sizeOf31,⟨_,Tryz.zeroValue31,⟨[Value.pointer none,Value.pointer none,Value.pointer none,Value.pointer none],rfl,fun S w η=>.cons (rfl) (.cons (rfl) (.cons (rfl) (.cons (rfl) (.nil))))⟩,(fun T h=>by cases h)⟩,(fun T h=>by cases h),⟨_,Tryz.runUnderlying31,rfl,fun w=>by simp [Tryz.sizeOf27,Tryz.sizeOf28,Tryz.sizeOf29,Tryz.sizeOf30]⟩⟩
theorem ti32:TIok Tryz.prog 32 t32 :=
 ⟨Tryz.isAgg32,Tryz.sizeOf32,⟨_,Tryz.zeroValue32,⟨[Value.pointer none,Value.pointer none,Value.pointer none,Value.pointer none],rfl,fun S w η=>.cons (rfl) (.cons (rfl) (.cons (rfl) (.cons (rfl) (.nil))))⟩,(fun T h=>by cases h)⟩,(fun T h=>by cases h),⟨_,Tryz.runUnderlying32,rfl,fun w=>by simp [Tryz.sizeOf27,Tryz.sizeOf28,Tryz.sizeOf29,Tryz.sizeOf30]⟩⟩
theorem ti33:TIok Tryz.prog 33 t33 :=
 ⟨Tryz.isAgg33,Tryz.sizeOf33,⟨_,Tryz.zeroValue33,⟨[Value.int IntKind.i64 0],rfl,fun S w η=>.cons (zi _) (.nil)⟩,(fun T h=>by cases h;rfl)⟩,(fun T h=>by cases h;exact ⟨rfl,rfl⟩),Tryz.runUnderlying33⟩
theorem ti39:TIok Tryz.prog 39 t39 :=
 ⟨Tryz.isAgg39,Tryz.sizeOf39,⟨_,Tryz.zeroValue39,⟨[Value.slice none 0 0],rfl,fun S w η=>.cons (rfl) (.nil)⟩,(fun T h=>by cases h;rfl)⟩,(fun T h=>by cases h;exact ⟨rfl,rfl⟩),⟨Tryz.underlying39,by decide,Tryz.t5,_,rfl,rfl,rfl,Tryz.zeroValue5,Tryz.sizeOf5⟩⟩
theorem ti42:TIok Tryz.prog 42 t42 :=
 ⟨Tryz.isAgg42,Tryz.sizeOf42,⟨_,Tryz.zeroValue42,⟨[Value.pointer none,Value.slice none 0 0,Value.int IntKind.i64 0,Value.bool false],rfl,fun S w η=>.cons (rfl) (.cons (rfl) (.cons (zi _) (.cons (zb) (.nil))))⟩,(fun T h=>by cases h)⟩,(fun T h=>by cases h),⟨_,Tryz.runUnderlying42,rfl,fun w=>by simp [Tryz.sizeOf22,Tryz.sizeOf29,Tryz.sizeOf3,Tryz.sizeOf4]⟩⟩
theorem ti43:TIok Tryz.prog 43 t43 :=
 ⟨Tryz.isAgg43,Tryz.sizeOf43,⟨_,Tryz.zeroValue43,⟨[Value.pointer none,Value.slice none 0 0,Value.int IntKind.i64 0,Value.bool false],rfl,fun S w η=>.cons (rfl) (.cons (rfl) (.cons (zi _) (.cons (zb) (.nil))))⟩,(fun T h=>by cases h)⟩,(fun T h=>by cases h),⟨_,Tryz.runUnderlying43,rfl,fun w=>by simp [Tryz.sizeOf22,Tryz.sizeOf29,Tryz.sizeOf3,Tryz.sizeOf4]⟩⟩
theorem ti48:TIok Tryz.prog 48 t48 :=
 ⟨Tryz.isAgg48,Tryz.sizeOf48,⟨_,Tryz.zeroValue48,⟨[Value.slice none 0 0],rfl,fun S w η=>.cons (rfl) (.nil)⟩,(fun T h=>by cases h;rfl)⟩,(fun T h=>by cases h;exact ⟨rfl,rfl⟩),⟨Tryz.underlying48,by decide,Tryz.t22,_,rfl,rfl,rfl,Tryz.zeroValue22,Tryz.sizeOf22⟩⟩
theorem ti56:TIok Tryz.prog 56 t56 :=
 ⟨Tryz.isAgg56,Tryz.sizeOf56,⟨_,Tryz.zeroValue56,⟨[Value.slice none 0 0],rfl,fun S w η=>.cons (rfl) (.nil)⟩,(fun T h=>by cases h;rfl)⟩,(fun T h=>by cases h;exact ⟨rfl,rfl⟩),⟨Tryz.underlying56,by decide,Tryz.t3,_,rfl,rfl,rfl,Tryz.zeroValue3,Tryz.sizeOf3⟩⟩
theorem ti60:TIok Tryz.prog 60 t60 :=
 ⟨Tryz.isAgg60,Tryz.sizeOf60,⟨_,Tryz.zeroValue60,⟨[Value.slice none 0 0],rfl,fun S w η=>.cons (rfl) (.nil)⟩,(fun T h=>by cases h;rfl)⟩,(fun T h=>by cases h;exact ⟨rfl,rfl⟩),⟨Tryz.underlying60,by decide,Tryz.t62,_,rfl,rfl,rfl,Tryz.zeroValue62,Tryz.sizeOf62⟩⟩
theorem ti61:TIok Tryz.prog 61 t61 :=
 ⟨Tryz.isAgg61,Tryz.sizeOf61,⟨_,Tryz.zeroValue61,⟨[Value.int IntKind.i64 0,Value.slice none 0 0,Value.int IntKind.i64 0,Value.slice none 0 0],rfl,fun S w η=>.cons (zi _) (.cons (rfl) (.cons (zi _) (.cons (rfl) (.nil))))⟩,(fun T h=>by cases h;rfl)⟩,(fun T h=>by cases h;exact ⟨rfl,rfl⟩),⟨_,Tryz.runUnderlying61,rfl,fun w=>by simp [Tryz.sizeOf22,Tryz.sizeOf3,Tryz.sizeOf56]⟩⟩
theorem ti62:TIok Tryz.prog 62 t62 :=
 ⟨Tryz.isAgg62,Tryz.sizeOf62,⟨_,Tryz.zeroValue62,⟨[Value.int IntKind.i64 0,Value.slice none 0 0,Value.int IntKind.i64 0,Value.slice none 0 0],rfl,fun S w η=>.cons (zi _) (.cons (rfl) (.cons (zi _) (.cons (rfl) (.nil))))⟩,(fun T h=>by cases h;rfl)⟩,(fun T h=>by cases h;exact ⟨rfl,rfl⟩),⟨_,Tryz.runUnderlying62,rfl,fun w=>by simp [Tryz.sizeOf22,Tryz.sizeOf3,Tryz.sizeOf56]⟩⟩
theorem ti65:TIok Tryz.prog 65 t65 :=
 ⟨Tryz.isAgg65,Tryz.sizeOf65,⟨_,Tryz.zeroValue65,⟨[Value.slice none 0 0],rfl,fun S w η=>.cons (rfl) (.nil)⟩,(fun T h=>by cases h;rfl)⟩,(fun T h=>by cases h;exact ⟨rfl,rfl⟩),⟨Tryz.underlying65,by decide,Tryz.t100,_,rfl,rfl,rfl,Tryz.zeroValue100,Tryz.sizeOf100⟩⟩
theorem ti66:TIok Tryz.prog 66 t66 :=
 ⟨Tryz.isAgg66,Tryz.sizeOf66,⟨_,Tryz.zeroValue66,⟨[Value.slice none 0 0,Value.slice none 0 0,Value.bool false,Value.int IntKind.i64 0],rfl,fun S w η=>.cons (rfl) (.cons (rfl) (.cons (zb) (.cons (zi _) (.nil))))⟩,(fun T h=>by cases h;rfl)⟩,(fun T h=>by cases h;exact ⟨rfl,rfl⟩),⟨_,Tryz.runUnderlying66,rfl,fun w=>by simp [Tryz.sizeOf3,Tryz.sizeOf39,Tryz.sizeOf4,Tryz.sizeOf65]⟩⟩
theorem ti67:TIok Tryz.prog 67 t67 :=
 ⟨Tryz.isAgg67,Tryz.sizeOf67,⟨_,Tryz.zeroValue67,⟨[Value.slice none 0 0,Value.slice none 0 0,Value.bool false,Value.int IntKind.i64 0],rfl,fun S w η=>.cons (rfl) (.cons (rfl) (.cons (zb) (.cons (zi _) (.nil))))⟩,(fun T h=>by cases h;rfl)⟩,(fun T h=>by cases h;exact ⟨rfl,rfl⟩),⟨_,Tryz.runUnderlying67,rfl,fun w=>by simp [Tryz.sizeOf3,Tryz.sizeOf39,Tryz.sizeOf4,Tryz.sizeOf65]⟩⟩
theorem ti71:TIok Tryz.prog 71 t71 :=
 ⟨Tryz.isAgg71,Tryz.sizeOf71,⟨_,Tryz.zeroValue71,⟨[Value.slice none 0 0,Value.string ⟨#[]⟩,Value.int IntKind.i64 0],rfl,fun S w η=>.cons (rfl) (.cons (zs) (.cons (zi _) (.nil)))⟩,(fun T h=>by cases h;rfl)⟩,(fun T h=>by cases h;exact ⟨rfl,rfl⟩),⟨_,Tryz.runUnderlying71,rfl,fun w=>by simp [Tryz.sizeOf22,Tryz.sizeOf3,Tryz.sizeOf9]⟩⟩
theorem ti72:TIok Tryz.prog 72 t72 :=
 ⟨Tryz.isAgg72,Tryz.sizeOf72,⟨_,Tryz.zeroValue72,⟨[Value.slice none 0 0,Value.string ⟨#[]⟩,Value.int IntKind.i64 0],rfl,fun S w η=>.cons (rfl) (.cons (zs) (.cons (zi _) (.nil)))⟩,(fun T h=>by cases h;rfl)⟩,(fun T h=>by cases h;exact ⟨rfl,rfl⟩),⟨_,Tryz.runUnderlying72,rfl,fun w=>by simp [Tryz.sizeOf22,Tryz.sizeOf3,Tryz.sizeOf9]⟩⟩
theorem ti73:TIok Tryz.prog 73 t73 :=
 ⟨Tryz.isAgg73,Tryz.sizeOf73,⟨_,Tryz.zeroValue73,⟨[Value.slice none 0 0,Value.string ⟨#[]⟩,Value.int IntKind.i64 0,Value.pointer none,Value.bool false],rfl,fun S w η=>.cons (rfl) (.cons (zs) (.cons (zi _) (.cons (rfl) (.cons (zb) (.nil)))))⟩,(fun T h=>by cases h)⟩,(fun T h=>by cases h),⟨_,Tryz.runUnderlying73,rfl,fun w=>by simp [Tryz.sizeOf27,Tryz.sizeOf4,Tryz.sizeOf72]⟩⟩
theorem ti74:TIok Tryz.prog 74 t74 :=
 ⟨Tryz.isAgg74,Tryz.sizeOf74,⟨_,Tryz.zeroValue74,⟨[Value.slice none 0 0,Value.string ⟨#[]⟩,Value.int IntKind.i64 0,Value.pointer none,Value.bool false],rfl,fun S w η=>.cons (rfl) (.cons (zs) (.cons (zi _) (.cons (rfl) (.cons (zb) (.nil)))))⟩,(fun T h=>by cases h)⟩,(fun T h=>by cases h),⟨_,Tryz.runUnderlying74,rfl,fun w=>by simp [Tryz.sizeOf27,Tryz.sizeOf4,Tryz.sizeOf72]⟩⟩
theorem ti76:TIok Tryz.prog 76 t76 :=
 ⟨Tryz.isAgg76,Tryz.sizeOf76,⟨_,Tryz.zeroValue76,⟨[Value.pointer none],rfl,fun S w η=>.cons (rfl) (.nil)⟩,(fun T h=>by cases h)⟩,(fun T h=>by cases h),Tryz.runUnderlying76⟩
theorem ti77:TIok Tryz.prog 77 t77 :=
 ⟨Tryz.isAgg77,Tryz.sizeOf77,⟨_,Tryz.zeroValue77,⟨[Value.pointer none,Value.slice none 0 0],rfl,fun S w η=>.cons (rfl) (.cons (rfl) (.nil))⟩,(fun T h=>by cases h)⟩,(fun T h=>by cases h),⟨_,Tryz.runUnderlying77,rfl,fun w=>by simp [Tryz.sizeOf39,Tryz.sizeOf76]⟩⟩
theorem ti79:TIok Tryz.prog 79 t79 :=
 ⟨Tryz.isAgg79,Tryz.sizeOf79,⟨_,Tryz.zeroValue79,⟨[Value.nilIface],rfl,fun S w η=>.cons (rfl) (.nil)⟩,(fun T h=>by cases h)⟩,(fun T h=>by cases h),⟨_,Tryz.runUnderlying79⟩⟩
theorem ti80:TIok Tryz.prog 80 t80 :=
 ⟨Tryz.isAgg80,Tryz.sizeOf80,⟨_,Tryz.zeroValue80,⟨[Value.nilIface],rfl,fun S w η=>.cons (rfl) (.nil)⟩,(fun T h=>by cases h)⟩,(fun T h=>by cases h),⟨_,Tryz.runUnderlying80⟩⟩
theorem ti91:TIok Tryz.prog 91 t91 :=
 ⟨Tryz.isAgg91,Tryz.sizeOf91,⟨_,Tryz.zeroValue91,⟨[Value.int IntKind.i64 0,Value.string ⟨#[]⟩],rfl,fun S w η=>.cons (zi _) (.cons (zs) (.nil))⟩,(fun T h=>by cases h;rfl)⟩,(fun T h=>by cases h;exact ⟨rfl,rfl⟩),⟨_,Tryz.runUnderlying91,rfl,fun w=>by simp [Tryz.sizeOf3,Tryz.sizeOf9]⟩⟩
theorem ti92:TIok Tryz.prog 92 t92 :=
 ⟨Tryz.isAgg92,Tryz.sizeOf92,⟨_,Tryz.zeroValue92,⟨[Value.int IntKind.i64 0,Value.string ⟨#[]⟩],rfl,fun S w η=>.cons (zi _) (.cons (zs) (.nil))⟩,(fun T h=>by cases h;rfl)⟩,(fun T h=>by cases h;exact ⟨rfl,rfl⟩),⟨_,Tryz.runUnderlying92,rfl,fun w=>by simp [Tryz.sizeOf3,Tryz.sizeOf9]⟩⟩
theorem ti93:TIok Tryz.prog 93 t93 :=
 ⟨Tryz.isAgg93,Tryz.sizeOf93,⟨_,Tryz.zeroValue93,⟨[Value.slice none 0 0],rfl,fun S w η=>.cons (rfl) (.nil)⟩,(fun T h=>by cases h;rfl)⟩,(fun T h=>by cases h;exact ⟨rfl,rfl⟩),⟨Tryz.underlying93,by decide,Tryz.t92,_,rfl,rfl,rfl,Tryz.zeroValue92,Tryz.sizeOf92⟩⟩
theorem ti94:TIok Tryz.prog 94 t94 :=
 ⟨Tryz.isAgg94,Tryz.sizeOf94,⟨_,Tryz.zeroValue94,⟨[Value.bool false,Value.int IntKind.i64 0],rfl,fun S w η=>.cons (zb) (.cons (zi _) (.nil))⟩,(fun T h=>by cases h;rfl)⟩,(fun T h=>by cases h;exact ⟨rfl,rfl⟩),⟨_,Tryz.runUnderlying94,rfl,fun w=>by simp [Tryz.sizeOf3,Tryz.sizeOf4]⟩⟩
theorem ti95:TIok Tryz.prog 95 t95 :=
 ⟨Tryz.isAgg95,Tryz.sizeOf95,⟨_,Tryz.zeroValue95,⟨[Value.bool false,Value.int IntKind.i64 0],rfl,fun S w η=>.cons (zb) (.cons (zi _) (.nil))⟩,(fun T h=>by cases h;rfl)⟩,(fun T h=>by cases h;exact ⟨rfl,rfl⟩),⟨_,Tryz.runUnderlying95,rfl,fun w=>by simp [Tryz.sizeOf3,Tryz.sizeOf4]⟩⟩
theorem ti96:TIok Tryz.prog 96 t96 :=
 ⟨Tryz.isAgg96,Tryz.sizeOf96,⟨_,Tryz.zeroValue96,⟨[Value.bool false,Value.int IntKind.i64 0,Value.slice none 0 0,Value.slice none 0 0,Value.slice none 0 0],rfl,fun S w η=>.cons (zb) (.cons (zi _) (.cons (rfl) (.cons (rfl) (.cons (rfl) (.nil)))))⟩,(fun T h=>by cases h;rfl)⟩,(fun T h=>by cases h;exact ⟨rfl,rfl⟩),⟨_,Tryz.runUnderlying96,rfl,fun w=>by simp [Tryz.sizeOf39,Tryz.sizeOf93,Tryz.sizeOf95]⟩⟩
theorem ti97:TIok Tryz.prog 97 t97 :=
 ⟨Tryz.isAgg97,Tryz.sizeOf97,⟨_,Tryz.zeroValue97,⟨[Value.bool false,Value.int IntKind.i64 0,Value.slice none 0 0,Value.slice none 0 0,Value.slice none 0 0],rfl,fun S w η=>.cons (zb) (.cons (zi _) (.cons (rfl) (.cons (rfl) (.cons (rfl) (.nil)))))⟩,(fun T h=>by cases h;rfl)⟩,(fun T h=>by cases h;exact ⟨rfl,rfl⟩),⟨_,Tryz.runUnderlying97,rfl,fun w=>by simp [Tryz.sizeOf39,Tryz.sizeOf93,Tryz.sizeOf95]⟩⟩
theorem ti99:TIok Tryz.prog 99 t99 :=
 ⟨Tryz.isAgg99,Tryz.sizeOf99,⟨_,Tryz.zeroValue99,⟨[Value.int IntKind.i64 0,Value.string ⟨#[]⟩],rfl,fun S w η=>.cons (zi _) (.cons (zs) (.nil))⟩,(fun T h=>by cases h;rfl)⟩,(fun T h=>by cases h;exact ⟨rfl,rfl⟩),⟨_,Tryz.runUnderlying99,rfl,fun w=>by simp [Tryz.sizeOf3,Tryz.sizeOf9]⟩⟩
theorem ti100:TIok Tryz.prog 100 t100 :=
 ⟨Tryz.isAgg100,Tryz.sizeOf100,⟨_,Tryz.zeroValue100,⟨[Value.int IntKind.i64 0,Value.string ⟨#[]⟩],rfl,fun S w η=>.cons (zi _) (.cons (zs) (.nil))⟩,(fun T h=>by cases h;rfl)⟩,(fun T h=>by cases h;exact ⟨rfl,rfl⟩),⟨_,Tryz.runUnderlying100,rfl,fun w=>by simp [Tryz.sizeOf3,Tryz.sizeOf9]⟩⟩
theorem ti109:TIok Tryz.prog 109 t109 :=
 ⟨Tryz.isAgg109,Tryz.sizeOf109,⟨_,Tryz.zeroValue109,⟨[Value.int IntKind.u32 0],rfl,fun S w η=>.cons (zi _) (.nil)⟩,(fun T h=>by cases h;rfl)⟩,(fun T h=>by cases h;exact ⟨rfl,rfl⟩),Tryz.runUnderlying109⟩
theorem ti110:TIok Tryz.prog 110 t110 :=
 ⟨Tryz.isAgg110,Tryz.sizeOf110,⟨_,Tryz.zeroValue110,⟨[Value.slice none 0 0],rfl,fun S w η=>.cons (rfl) (.nil)⟩,(fun T h=>by cases h;rfl)⟩,(fun T h=>by cases h;exact ⟨rfl,rfl⟩),⟨Tryz.underlying110,by decide,Tryz.t109,_,rfl,rfl,rfl,Tryz.zeroValue109,Tryz.sizeOf109⟩⟩
theorem ti113:TIok Tryz.prog 113 t113 :=
 ⟨Tryz.isAgg113,Tryz.sizeOf113,⟨_,Tryz.zeroValue113,⟨[Value.int IntKind.u64 0],rfl,fun S w η=>.cons (zi _) (.nil)⟩,(fun T h=>by cases h;rfl)⟩,(fun T h=>by cases h;exact ⟨rfl,rfl⟩),Tryz.runUnderlying113⟩
theorem ti124:TIok Tryz.prog 124 t124 :=
 ⟨Tryz.isAgg124,Tryz.sizeOf124,⟨_,Tryz.zeroValue124,⟨[Value.pointer none],rfl,fun S w η=>.cons (rfl) (.nil)⟩,(fun T h=>by cases h)⟩,(fun T h=>by cases h),Tryz.runUnderlying124⟩
theorem ti126:TIok Tryz.prog 126 t126 :=
 ⟨Tryz.isAgg126,Tryz.sizeOf126,⟨_,Tryz.zeroValue126,⟨[Value.pointer none],rfl,fun S w η=>.cons (rfl) (.nil)⟩,(fun T h=>by cases h)⟩,(fun T h=>by cases h),Tryz.runUnderlying126⟩
theorem ti127:TIok Tryz.prog 127 t127 :=
 ⟨Tryz.isAgg127,Tryz.sizeOf127,⟨_,Tryz.zeroValue127,⟨[Value.slice none 0 0],rfl,fun S w η=>.cons (rfl) (.nil)⟩,(fun T h=>by cases h)⟩,(fun T h=>by cases h),⟨Tryz.underlying127,by decide,Tryz.t85,_,rfl,rfl,rfl,Tryz.zeroValue85,Tryz.sizeOf85⟩⟩
theorem ti128:TIok Tryz.prog 128 t128 :=
 ⟨Tryz.isAgg128,Tryz.sizeOf128,⟨_,Tryz.zeroValue128,⟨[Value.pointer none],rfl,fun S w η=>.cons (rfl) (.nil)⟩,(fun T h=>by cases h)⟩,(fun T h=>by cases h),Tryz.runUnderlying128⟩
theorem ti140:TIok Tryz.prog 140 t140 :=
 ⟨Tryz.isAgg140,Tryz.sizeOf140,⟨_,Tryz.zeroValue140,⟨[Value.pointer none],rfl,fun S w η=>.cons (rfl) (.nil)⟩,(fun T h=>by cases h)⟩,(fun T h=>by cases h),Tryz.runUnderlying140⟩
theorem ti141:TIok Tryz.prog 141 t141 :=
 ⟨Tryz.isAgg141,Tryz.sizeOf141,⟨_,Tryz.zeroValue141,⟨[Value.int IntKind.u64 0],rfl,fun S w η=>.cons (zi _) (.nil)⟩,(fun T h=>by cases h;rfl)⟩,(fun T h=>by cases h;exact ⟨rfl,rfl⟩),Tryz.runUnderlying141⟩
theorem ti154:TIok Tryz.prog 154 t154 :=
 ⟨Tryz.isAgg154,Tryz.sizeOf154,⟨_,Tryz.zeroValue154,⟨[Value.nilIface],rfl,fun S w η=>.cons (rfl) (.nil)⟩,(fun T h=>by cases h)⟩,(fun T h=>by cases h),⟨_,Tryz.runUnderlying154⟩⟩
theorem ti170:TIok Tryz.prog 170 t170 :=
 ⟨Tryz.isAgg170,Tryz.sizeOf170,⟨_,Tryz.zeroValue170,⟨[Value.pointer none],rfl,fun S w η=>.cons (rfl) (.nil)⟩,(fun T h=>by cases h)⟩,(fun T h=>by cases h),⟨_,Tryz.runUnderlying170,rfl,fun w=>by simp [Tryz.sizeOf17]⟩⟩
theorem ti172:TIok Tryz.prog 172 t172 :=
 ⟨Tryz.isAgg172,Tryz.sizeOf172,⟨_,Tryz.zeroValue172,⟨[Value.pointer none],rfl,fun S w η=>.cons (rfl) (.nil)⟩,(fun T h=>by cases h)⟩,(fun T h=>by cases h),Tryz.runUnderlying172⟩
theorem ti173:TIok Tryz.prog 173 t173 :=
 ⟨Tryz.isAgg173,Tryz.sizeOf173,⟨_,Tryz.zeroValue173,⟨[Value.nilIface],rfl,fun S w η=>.cons (rfl) (.nil)⟩,(fun T h=>by cases h)⟩,(fun T h=>by cases h),⟨_,Tryz.runUnderlying173⟩⟩
theorem ti176:TIok Tryz.prog 176 t176 :=
 ⟨Tryz.isAgg176,Tryz.sizeOf176,⟨_,Tryz.zeroValue176,⟨[Value.nilIface],rfl,fun S w η=>.cons (rfl) (.nil)⟩,(fun T h=>by cases h)⟩,(fun T h=>by cases h),⟨_,Tryz.runUnderlying176⟩⟩
theorem ti178:TIok Tryz.prog 178 t178 :=
 ⟨Tryz.isAgg178,Tryz.sizeOf178,⟨_,Tryz.zeroValue178,⟨[Value.nilIface],rfl,fun S w η=>.cons (rfl) (.nil)⟩,(fun T h=>by cases h)⟩,(fun T h=>by cases h),⟨_,Tryz.runUnderlying178⟩⟩
theorem ti179:TIok Tryz.prog 179 t179 :=
 ⟨Tryz.isAgg179,Tryz.sizeOf179,⟨_,Tryz.zeroValue179,⟨[Value.slice none 0 0],rfl,fun S w η=>.cons (rfl) (.nil)⟩,(fun T h=>by cases h)⟩,(fun T h=>by cases h),⟨Tryz.underlying179,by decide,Tryz.t80,_,rfl,rfl,rfl,Tryz.zeroValue80,Tryz.sizeOf80⟩⟩
theorem ti183:TIok Tryz.prog 183 t183 :=
 ⟨Tryz.isAgg183,Tryz.sizeOf183,⟨_,Tryz.zeroValue183,⟨[Value.int IntKind.i64 0],rfl,fun S w η=>.cons (zi _) (.nil)⟩,(fun T h=>by cases h;rfl)⟩,(fun T h=>by cases h;exact ⟨rfl,rfl⟩),Tryz.runUnderlying183⟩
theorem ti192:TIok Tryz.prog 192 t192 :=
 ⟨Tryz.isAgg192,Tryz.sizeOf192,⟨_,Tryz.zeroValue192,⟨[Value.int IntKind.u32 0,Value.int IntKind.u32 0,Value.int IntKind.u32 0,Value.int IntKind.u32 0,Value.int IntKind.u32 0,Value.int IntKind.u32 0,Value.int IntKind.u32 0,Value.int IntKind.u32 0],rfl,fun S w η=>.cons (zi _) (.cons (zi _) (.cons (zi _) (.cons (zi _) (.cons (zi _) (.cons (zi _) (.cons (zi _) (.cons (zi _) (.nil))))))))⟩,(fun T h=>by cases h;rfl)⟩,(fun T h=>by cases h;exact ⟨rfl,rfl⟩),Tryz.runUnderlying192⟩
theorem ti193:TIok Tryz.prog 193 t193 :=
 ⟨Tryz.isAgg193,Tryz.sizeOf193,⟨_,Tryz.zeroValue193,⟨[Value.int IntKind.u32 0,Value.int IntKind.u32 0,Value.int IntKind.u32 0,Value.int IntKind.u32 0,Value.int IntKind.u32 0,Value.int IntKind.u32 0,Value.int IntKind.u32 0,Value.int IntKind.u32 0],rfl,fun S w η=>.cons (zi _) (.cons (zi _) (.cons (zi _) (.cons (zi _) (.cons (zi _) (.cons (zi _) (.cons (zi _) (.cons (zi _) (.nil))))))))⟩,(fun T h=>by cases h;rfl)⟩,(fun T h=>by cases h;exact ⟨rfl,rfl⟩),Tryz.runUnderlying193⟩
theorem ti200:TIok Tryz.prog 200 t200 :=
 ⟨Tryz.isAgg200,Tryz.sizeOf200,⟨_,Tryz.zeroValue200,⟨[Value.int IntKind.u8 0,Value.int IntKind.u8 0],rfl,fun S w η=>.cons (zi _) (.cons (zi _) (.nil))⟩,(fun T h=>by cases h;rfl)⟩,(fun T h=>by cases h;exact ⟨rfl,rfl⟩),⟨_,Tryz.runUnderlying200,rfl,fun w=>by simp [Tryz.sizeOf5]⟩⟩
theorem ti201:TIok Tryz.prog 201 t201 :=
 ⟨Tryz.isAgg201,Tryz.sizeOf201,⟨_,Tryz.zeroValue201,⟨[Value.int IntKind.u8 0,Value.int IntKind.u8 0],rfl,fun S w η=>.cons (zi _) (.cons (zi _) (.nil))⟩,(fun T h=>by cases h;rfl)⟩,(fun T h=>by cases h;exact ⟨rfl,rfl⟩),⟨_,Tryz.runUnderlying201,rfl,fun w=>by simp [Tryz.sizeOf5]⟩⟩
theorem ti202:TIok Tryz.prog 202 t202 :=
 ⟨Tryz.isAgg202,Tryz.sizeOf202,⟨_,Tryz.zeroValue202,⟨[Value.int IntKind.u8 0,Value.int IntKind.u8 0,Value.int IntKind.u8 0,Value.int IntKind.u8 0,Value.int IntKind.u8 0,Value.int IntKind.u8 0,Value.int IntKind.u8 0,Value.int IntKind.u8 0,Value.int IntKind.u8 0,Value.int IntKind.u8 0,Value.int IntKind.u8 0,Value.int IntKind.u8 0,Value.int IntKind.u8 0,Value.int IntKind.u8 0,Value.int IntKind.u8 0,Value.int IntKind.u8 0,Value.int IntKind.u8 0,Value.int IntKind.u8 0,Value.int IntKind.u8 0,Value.int IntKind.u8 0,Value.int IntKind.u8 0,Value.int IntKind.u8 0,Value.int IntKind.u8 0,Value.int IntKind.u8 0,Value.int IntKind.u8 0,Value.int IntKind.u8 0,Value.int IntKind.u8 0,Value.int IntKind.u8 0,Value.int IntKind.u8 0,Value.int IntKind.u8 0,Value.int IntKind.u8 0,Value.int IntKind.u8 0],rfl,fun S w η=>.cons (zi _) (.cons (zi _) (.cons (zi _) (.cons (zi _) (.cons (zi _) (.cons (zi _) (.cons (zi _) (.cons (zi _) (.cons (zi _) (.cons (zi _) (.cons (zi _) (.cons (zi _) (.cons (zi _) (.cons (zi _) (.cons (zi _) (.cons (zi _) (.cons (zi _) (.cons (zi _) (.cons (zi _) (.cons (zi _) (.cons (zi _) (.cons (zi _) (.cons (zi _) (.cons (zi _) (.cons (zi _) (.cons (zi _) (.cons (zi _) (.cons (zi _) (.cons (zi _) (.cons (zi _) (.cons (zi _) (.cons (zi _) (.nil))))))))))))))))))))))))))))))))⟩,(fun T h=>by cases h)⟩,(fun T h=>by cases h),Tryz.runUnderlying202⟩
theorem ti206:TIok Tryz.prog 206 t206 :=
 ⟨Tryz.isAgg206,Tryz.sizeOf206,⟨_,Tryz.zeroValue206,⟨[Value.int IntKind.u64 0],rfl,fun S w η=>.cons (zi _) (.nil)⟩,(fun T h=>by cases h;rfl)⟩,(fun T h=>by cases h;exact ⟨rfl,rfl⟩),Tryz.runUnderlying206⟩
theorem ti210:TIok Tryz.prog 210 t210 :=
 ⟨Tryz.isAgg210,Tryz.sizeOf210,⟨_,Tryz.zeroValue210,⟨[Value.pointer none],rfl,fun S w η=>.cons (rfl) (.nil)⟩,(fun T h=>by cases h)⟩,(fun T h=>by cases h),Tryz.runUnderlying210⟩
theorem ti213:TIok Tryz.prog 213 t213 :=
 ⟨Tryz.isAgg213,Tryz.sizeOf213,⟨_,Tryz.zeroValue213,⟨[Value.pointer none],rfl,fun S w η=>.cons (rfl) (.nil)⟩,(fun T h=>by cases h)⟩,(fun T h=>by cases h),Tryz.runUnderlying213⟩
theorem ti214:TIok Tryz.prog 214 t214 :=
 ⟨Tryz.isAgg214,Tryz.sizeOf214,⟨_,Tryz.zeroValue214,⟨[Value.int IntKind.u32 0,Value.int IntKind.u32 0,Value.int IntKind.u32 0,Value.int IntKind.u32 0,Value.int IntKind.u32 0,Value.int IntKind.u32 0,Value.int IntKind.u32 0,Value.int IntKind.u32 0,Value.int IntKind.u32 0,Value.int IntKind.u32 0,Value.int IntKind.u32 0,Value.int IntKind.u32 0,Value.int IntKind.u32 0,Value.int IntKind.u32 0,Value.int IntKind.u32 0,Value.int IntKind.u32 0,Value.int IntKind.u32 0,Value.int IntKind.u32 0,Value.int IntKind.u32 0,Value.int IntKind.u32 0,Value.int IntKind.u32 0,Value.int IntKind.u32 0,Value.int IntKind.u32 0,Value.int IntKind.u32 0,Value.int IntKind.u32 0,Value.int IntKind.u32 0,Value.int IntKind.u32 0,Value.int IntKind.u32 0,Value.int IntKind.u32 0,Value.int IntKind.u32 0,Value.int IntKind.u32 0,Value.int IntKind.u32 0,Value.int IntKind.u32 0,Value.int IntKind.u32 0,Value.int IntKind.u32 0,Value.int IntKind.u32 0,Value.int IntKind.u32 0,Value.int IntKind.u32 0,Value.int IntKind.u32 0,Value.int IntKind.u32 0,Value.int IntKind.u32 0,Value.int IntKind.u32 0,Value.int IntKind.u32 0,Value.int IntKind.u32 0,Value.int IntKind.u32 0,Value.int IntKind.u32 0,Value.int IntKind.u32 0,Value.int IntKind.u32 0,Value.int IntKind.u32 0,Value.int IntKind.u32 0,Value.int IntKind.u32 0,Value.int IntKind.u32 0,Value.int IntKind.u32 0,Value.int IntKind.u32 0,Value.int IntKind.u32 0,Value.int IntKind.u32 0,Value.int IntKind.u32 0,Value.int IntKind.u32 0,Value.int IntKind.u32 0,Value.int IntKind.u32 0,Value.int IntKind.u32 0,Value.int IntKind.u32 0,Value.int IntKind.u32 0,Value.int IntKind.u32 0],rfl,fun S w η=>.cons (zi _) (.cons (zi _) (.cons (zi _) (.cons (zi _) (.cons (zi _) (.cons (zi _) (.cons (zi _) (.cons (zi _) (.cons (zi _) (.cons (zi _) (.cons (zi _) (.cons (zi _) (.cons (zi _) (.cons (zi _) (.cons (zi _) (.cons (zi _) (.cons (zi _) (.cons (zi _) (.cons (zi _) (.cons (zi _) (.cons (zi _) (.cons (zi _) (.cons (zi _) (.cons (zi _) (.cons (zi _) (.cons (zi _) (.cons (zi _) (.cons (zi _) (.cons (zi _) (.cons (zi _) (.cons (zi _) (.cons (zi _) (.cons (zi _) (.cons (zi _) (.cons (zi _) (.cons (zi _) (.cons (zi _) (.cons (zi _) (.cons (zi _) (.cons (zi _) (.cons (zi _) (.cons (zi _) (.cons (zi _) (.cons (zi _) (.cons (zi _) (.cons (zi _) (.cons (zi _) (.cons (zi _) (.cons (zi _) (.cons (zi _) (.cons (zi _) (.cons (zi _) (.cons (zi _) (.cons (zi _) (.cons (zi _) (.cons (zi _) (.cons (zi _) (.cons (zi _) (.cons (zi _) (.cons (zi _) (.cons (zi _) (.cons (zi _) (.cons (zi _) (.cons (zi _) (.nil))))))))))))))))))))))))))))))))))))))))))))))))))))))))))))))))⟩,(fun T h=>by cases h)⟩,(fun T h=>by cases h),Tryz.runUnderlying214⟩
theorem ti217:TIok Tryz.prog 217 t217 :=
 ⟨Tryz.isAgg217,Tryz.sizeOf217,⟨_,Tryz.zeroValue217,⟨[Value.int IntKind.u8 0,Value.int IntKind.u8 0,Value.int IntKind.u8 0,Value.int IntKind.u8 0,Value.int IntKind.u8 0,Value.int IntKind.u8 0,Value.int IntKind.u8 0,Value.int IntKind.u8 0,Value.int IntKind.u8 0,Value.int IntKind.u8 0,Value.int IntKind.u8 0,Value.int IntKind.u8 0,Value.int IntKind.u8 0,Value.int IntKind.u8 0,Value.int IntKind.u8 0,Value.int IntKind.u8 0,Value.int IntKind.u8 0,Value.int IntKind.u8 0,Value.int IntKind.u8 0,Value.int IntKind.u8 0,Value.int IntKind.u8 0,Value.int IntKind.u8 0,Value.int IntKind.u8 0,Value.int IntKind.u8 0,Value.int IntKind.u8 0,Value.int IntKind.u8 0,Value.int IntKind.u8 0,Value.int IntKind.u8 0,Value.int IntKind.u8 0,Value.int IntKind.u8 0,Value.int IntKind.u8 0,Value.int IntKind.u8 0],rfl,fun S w η=>.cons (zi _) (.cons (zi _) (.cons (zi _) (.cons (zi _) (.cons (zi _) (.cons (zi _) (.cons (zi _) (.cons (zi _) (.cons (zi _) (.cons (zi _) (.cons (zi _) (.cons (zi _) (.cons (zi _) (.cons (zi _) (.cons (zi _) (.cons (zi _) (.cons (zi _) (.cons (zi _) (.cons (zi _) (.cons (zi _) (.cons (zi _) (.cons (zi _) (.cons (zi _) (.cons (zi _) (.cons (zi _) (.cons (zi _) (.cons (zi _) (.cons (zi _) (.cons (zi _) (.cons (zi _) (.cons (zi _) (.cons (zi _) (.nil))))))))))))))))))))))))))))))))⟩,(fun T h=>by cases h)⟩,(fun T h=>by cases h),Tryz.runUnderlying217⟩
theorem ti218:TIok Tryz.prog 218 t218 :=
 ⟨Tryz.isAgg218,Tryz.sizeOf218,⟨_,Tryz.zeroValue218,⟨[Value.pointer none],rfl,fun S w η=>.cons (rfl) (.nil)⟩,(fun T h=>by cases h)⟩,(fun T h=>by cases h),Tryz.runUnderlying218⟩
theorem ti222:TIok Tryz.prog 222 t222 :=
 ⟨Tryz.isAgg222,Tryz.sizeOf222,⟨_,Tryz.zeroValue222,⟨[Value.pointer none],rfl,fun S w η=>.cons (rfl) (.nil)⟩,(fun T h=>by cases h)⟩,(fun T h=>by cases h),Tryz.runUnderlying222⟩
theorem ti223:TIok Tryz.prog 223 t223 :=
 ⟨Tryz.isAgg223,Tryz.sizeOf223,⟨_,Tryz.zeroValue223,⟨[Value.pointer none,Value.pointer none,Value.pointer none,Value.string ⟨#[]⟩],rfl,fun S w η=>.cons (rfl) (.cons (rfl) (.cons (rfl) (.cons (zs) (.nil))))⟩,(fun T h=>by cases h)⟩,(fun T h=>by cases h),⟨_,Tryz.runUnderlying223,rfl,fun w=>by simp [Tryz.sizeOf17,Tryz.sizeOf9]⟩⟩
theorem ti226:TIok Tryz.prog 226 t226 :=
 ⟨Tryz.isAgg226,Tryz.sizeOf226,⟨_,Tryz.zeroValue226,⟨[],rfl,fun S w η=>.nil⟩,(fun T h=>by cases h)⟩,(fun T h=>by cases h),trivial⟩
theorem ti233:TIok Tryz.prog 233 t233 :=
 ⟨Tryz.isAgg233,Tryz.sizeOf233,⟨_,Tryz.zeroValue233,⟨[Value.int IntKind.u64 0,Value.int IntKind.u64 0,Value.int IntKind.u32 0,Value.int IntKind.u8 0,Value.int IntKind.u8 0,Value.int IntKind.u8 0,Value.int IntKind.u8 0,Value.nilFunc,Value.pointer none,Value.int IntKind.i32 0,Value.int IntKind.i32 0],rfl,fun S w η=>.cons (zi _) (.cons (zi _) (.cons (zi _) (.cons (zi _) (.cons (zi _) (.cons (zi _) (.cons (zi _) (.cons (rfl) (.cons (rfl) (.cons (zi _) (.cons (zi _) (.nil)))))))))))⟩,(fun T h=>by cases h)⟩,(fun T h=>by cases h),trivial⟩
theorem ti241:TIok Tryz.prog 241 t241 :=
 ⟨Tryz.isAgg241,Tryz.sizeOf241,⟨_,Tryz.zeroValue241,⟨[Value.string ⟨#[]⟩,Value.int IntKind.u8 0],rfl,fun S w η=>.cons (zs) (.cons (zi _) (.nil))⟩,(fun T h=>by cases h;rfl)⟩,(fun T h=>by cases h;exact ⟨rfl,rfl⟩),trivial⟩
theorem ti243:TIok Tryz.prog 243 t243 :=
 ⟨Tryz.isAgg243,Tryz.sizeOf243,⟨_,Tryz.zeroValue243,⟨[Value.string ⟨#[]⟩],rfl,fun S w η=>.cons (zs) (.nil)⟩,(fun T h=>by cases h;rfl)⟩,(fun T h=>by cases h;exact ⟨rfl,rfl⟩),⟨_,Tryz.runUnderlying243,rfl,fun w=>by simp [Tryz.sizeOf9]⟩⟩
theorem ti244:TIok Tryz.prog 244 t244 :=
 ⟨Tryz.isAgg244,Tryz.sizeOf244,⟨_,Tryz.zeroValue244,⟨[Value.string ⟨#[]⟩],rfl,fun S w η=>.cons (zs) (.nil)⟩,(fun T h=>by cases h;rfl)⟩,(fun T h=>by cases h;exact ⟨rfl,rfl⟩),⟨_,Tryz.runUnderlying244,rfl,fun w=>by simp [Tryz.sizeOf9]⟩⟩
theorem ti245:TIok Tryz.prog 245 t245 :=
 ⟨Tryz.isAgg245,Tryz.sizeOf245,⟨_,Tryz.zeroValue245,⟨[Value.pointer none],rfl,fun S w η=>.cons (rfl) (.nil)⟩,(fun T h=>by cases h)⟩,(fun T h=>by cases h),Tryz.runUnderlying245⟩
theorem ti247:TIok Tryz.prog 247 t247 :=
 ⟨Tryz.isAgg247,Tryz.sizeOf247,⟨_,Tryz.zeroValue247,⟨[Value.int IntKind.u16 0],rfl,fun S w η=>.cons (zi _) (.nil)⟩,(fun T h=>by cases h;rfl)⟩,(fun T h=>by cases h;exact ⟨rfl,rfl⟩),Tryz.runUnderlying247⟩
theorem ti248:TIok Tryz.prog 248 t248 :=
 ⟨Tryz.isAgg248,Tryz.sizeOf248,⟨_,Tryz.zeroValue248,⟨[Value.int IntKind.i32 0,Value.int IntKind.u16 0,Value.int IntKind.u16 0,Value.int IntKind.u32 0,Value.int IntKind.u32 0],rfl,fun S w η=>.cons (zi _) (.cons (zi _) (.cons (zi _) (.cons (zi _) (.cons (zi _) (.nil)))))⟩,(fun T h=>by cases h;rfl)⟩,(fun T h=>by cases h;exact ⟨rfl,rfl⟩),trivial⟩
theorem ti250:TIok Tryz.prog 250 t250 :=
 ⟨Tryz.isAgg250,Tryz.sizeOf250,⟨_,Tryz.zeroValue250,⟨[Value.slice none 0 0],rfl,fun S w η=>.cons (rfl) (.nil)⟩,(fun T h=>by cases h;rfl)⟩,(fun T h=>by cases h;exact ⟨rfl,rfl⟩),trivial⟩
theorem ti252:TIok Tryz.prog 252 t252 :=
 ⟨Tryz.isAgg252,Tryz.sizeOf252,⟨_,Tryz.zeroValue252,⟨[Value.int IntKind.i32 0,Value.int IntKind.i32 0,Value.int IntKind.i32 0,Value.int IntKind.i32 0],rfl,fun S w η=>.cons (zi _) (.cons (zi _) (.cons (zi _) (.cons (zi _) (.nil))))⟩,(fun T h=>by cases h;rfl)⟩,(fun T h=>by cases h;exact ⟨rfl,rfl⟩),trivial⟩
theorem tyOK:∀ id ti,lk tyTab id=some ti→TIok Tryz.prog id ti:=by
 unfold tyTab
 exact lk_all (oF Tryz.isAgg1 Tryz.sizeOf1 Tryz.zeroValue1 Tryz.runUnderlying1) <| lk_all ti2 <| lk_all ti3 <| lk_all ti4 <| lk_all ti5 <| lk_all ti7 <| lk_all ti9 <| lk_all ti12 <| lk_all ti13 <| lk_all ti15 <| lk_all ti16 <| lk_all ti17 <| lk_all ti18 <| lk_all ti20 <| lk_all ti21 <| lk_all ti22 <| lk_all ti24 <| lk_all ti27 <| lk_all ti28 <| lk_all ti29 <| lk_all ti30 <| lk_all ti31 <| lk_all ti32 <| lk_all ti33 <| lk_all ti39 <| lk_all ti42 <| lk_all ti43 <| lk_all ti48 <| lk_all ti56 <| lk_all ti60 <| lk_all ti61 <| lk_all ti62 <| lk_all ti65 <| lk_all ti66 <| lk_all ti67 <| lk_all (oF Tryz.isAgg70 Tryz.sizeOf70 Tryz.zeroValue70 Tryz.runUnderlying70) <| lk_all ti71 <| lk_all ti72 <| lk_all ti73 <| lk_all ti74 <| lk_all ti76 <| lk_all ti77 <| lk_all ti79 <| lk_all ti80 <| lk_all (oF Tryz.isAgg85 Tryz.sizeOf85 Tryz.zeroValue85 Tryz.runUnderlying85) <| lk_all ti91 <| lk_all ti92 <| lk_all ti93 <| lk_all ti94 <| lk_all ti95 <| lk_all ti96 <| lk_all ti97 <| lk_all ti99 <| lk_all ti100 <| lk_all ti109 <| lk_all ti110 <| lk_all ti113 <| lk_all (oF Tryz.isAgg117 Tryz.sizeOf117 Tryz.zeroValue117 Tryz.runUnderlying117) <| lk_all (oF Tryz.isAgg120 Tryz.sizeOf120 Tryz.zeroValue120 Tryz.runUnderlying120) <| lk_all ti124 <| lk_all ti126 <| lk_all ti127 <| lk_all ti128 <| lk_all ti140 <| lk_all ti141 <| lk_all (oF Tryz.isAgg150 Tryz.sizeOf150 Tryz.zeroValue150 Tryz.runUnderlying150) <| lk_all ti154 <| lk_all (oF Tryz.isAgg168 Tryz.sizeOf168 Tryz.zeroValue168 Tryz.runUnderlying168) <| lk_all ti170 <| lk_all ti172 <| lk_all ti173 <| lk_all ti176 <| lk_all ti178 <| lk_all ti179 <| lk_all ti183 <| lk_all ti192 <| lk_all ti193 <| lk_all (oF Tryz.isAgg195 Tryz.sizeOf195 Tryz.zeroValue195 Tryz.runUnderlying195) <| lk_all (oF Tryz.isAgg198 Tryz.sizeOf198 Tryz.zeroValue198 Tryz.runUnderlying198) <| lk_all ti200 <| lk_all ti201 <| lk_all ti202 <| lk_all ti206 <| lk_all ti210 <| lk_all (oF Tryz.isAgg212 Tryz.sizeOf212 Tryz.zeroValue212 Tryz.runUnderlying212) <| lk_all ti213 <| lk_all ti214 <| lk_all ti217 <| lk_all ti218 <| lk_all ti222 <| lk_all ti223 <| lk_all ti226 <| lk_all ti233 <| lk_all ti241 <| lk_all ti243 <| lk_all ti244 <| lk_all ti245 <| lk_all ti247 <| lk_all ti248 <| lk_all ti250 <| lk_all ti252 <| lk_none
noncomputable def fnTab:List (FuncId×Func):=[(3,Tryz.f3),(4,Tryz.f4),(5,Tryz.f5),(6,Tryz.f6),(7,Tryz.f7),(8,Tryz.f8),(9,Tryz.f9),(10,Tryz.f10),(11,Tryz.f11),(12,Tryz.f12),(13,Tryz.f13),(14,Tryz.f14),(15,Tryz.f15),(16,Tryz.f16),(17,Tryz.f17),(18,Tryz.f18),(19,Tryz.f19),(20,Tryz.f20),(21,Tryz.f21),(22,Tryz.f22),(23,Tryz.f23),(24,Tryz.f24),(25,Tryz.f25),(26,Tryz.f26),(27,Tryz.f27),(28,Tryz.f28),(29,Tryz.f29),(30,Tryz.f30),(31,Tryz.f31),(32,Tryz.f32),(33,Tryz.f33),(34,Tryz.f34),(35,Tryz.f35),(36,Tryz.f36),(38,Tryz.f38),(40,Tryz.f40),(41,Tryz.f41),(42,Tryz.f42),(43,Tryz.f43),(44,Tryz.f44),(45,Tryz.f45),(46,Tryz.f46),(47,Tryz.f47),(48,Tryz.f48),(49,Tryz.f49),(50,Tryz.f50),(51,Tryz.f51),(52,Tryz.f52),(53,Tryz.f53),(54,Tryz.f54),(55,Tryz.f55),(56,Tryz.f56),(57,Tryz.f57),(58,Tryz.f58),(59,Tryz.f59),(60,Tryz.f60),(61,Tryz.f61),(62,Tryz.f62),(63,Tryz.f63),(64,Tryz.f64),(65,Tryz.f65),(66,Tryz.f66),(67,Tryz.f67),(68,Tryz.f68),(70,Tryz.f70),(71,Tryz.f71),(72,Tryz.f72),(73,Tryz.f73),(74,Tryz.f74),(75,Tryz.f75),(76,Tryz.f76),(77,Tryz.f77),(78,Tryz.f78),(79,Tryz.f79),(80,Tryz.f80),(81,Tryz.f81),(82,Tryz.f82),(83,Tryz.f83),(84,Tryz.f84),(85,Tryz.f85),(86,Tryz.f86),(87,Tryz.f87),(88,Tryz.f88),(89,Tryz.f89),(91,Tryz.f91),(92,Tryz.f92),(93,Tryz.f93),(95,Tryz.f95),(96,Tryz.f96),(97,Tryz.f97),(99,Tryz.f99),(100,Tryz.f100),(101,Tryz.f101),(103,Tryz.f103),(104,Tryz.f104),(105,Tryz.f105),(106,Tryz.f106),(108,Tryz.f108),(109,Tryz.f109),(110,Tryz.f110),(111,Tryz.f111),(112,Tryz.f112),(113,Tryz.f113),(114,Tryz.f114),(115,Tryz.f115),(116,Tryz.f116),(123,Tryz.f123),(126,Tryz.f126),(127,Tryz.f127),(128,Tryz.f128),(129,Tryz.f129),(130,Tryz.f130),(132,Tryz.f132),(133,Tryz.f133),(134,Tryz.f134),(142,Tryz.f142),(143,Tryz.f143),(144,Tryz.f144),(145,Tryz.f145),(149,Tryz.f149),(183,Tryz.f183)]
abbrev pF (f:FuncId) (fn:Func):Prop:=Tryz.prog.funcs[f]? = some fn∧∀ (args:Array Value) (w:World),(callFunc f args).run Tryz.prog w=.ok (.enter f args) w
theorem pf {f:FuncId} {fn:Func} (h:Tryz.prog.funcs[f]? = some fn) (h2:∀ (args:Array Value) (w:World),(callFunc f args).run Tryz.prog w=.ok (.enter f args) w):pF f fn:=⟨h,h2⟩
theorem fnOK:∀ f fn,lk fnTab f=some fn→Tryz.prog.funcs[f]? = some fn∧∀ (args:Array Value) (w:World),(callFunc f args).run Tryz.prog w=.ok (.enter f args) w:=by
 unfold fnTab
 change ∀ f fn,_→pF f fn
 exact lk_all (pf Tryz.func3 Tryz.call3) <| lk_all (pf Tryz.func4 Tryz.call4) <| lk_all (pf Tryz.func5 Tryz.call5) <| lk_all (pf Tryz.func6 Tryz.call6) <| lk_all (pf Tryz.func7 Tryz.call7) <| lk_all (pf Tryz.func8 Tryz.call8) <| lk_all (pf Tryz.func9 Tryz.call9) <| lk_all (pf Tryz.func10 Tryz.call10) <| lk_all (pf Tryz.func11 Tryz.call11) <| lk_all (pf Tryz.func12 Tryz.call12) <| lk_all (pf Tryz.func13 Tryz.call13) <| lk_all (pf Tryz.func14 Tryz.call14) <| lk_all (pf Tryz.func15 Tryz.call15) <| lk_all (pf Tryz.func16 Tryz.call16) <| lk_all (pf Tryz.func17 Tryz.call17) <| lk_all (pf Tryz.func18 Tryz.call18) <| lk_all (pf Tryz.func19 Tryz.call19) <| lk_all (pf Tryz.func20 Tryz.call20) <| lk_all (pf Tryz.func21 Tryz.call21) <| lk_all (pf Tryz.func22 Tryz.call22) <| lk_all (pf Tryz.func23 Tryz.call23) <| lk_all (pf Tryz.func24 Tryz.call24) <| lk_all (pf Tryz.func25 Tryz.call25) <| lk_all (pf Tryz.func26 Tryz.call26) <| lk_all (pf Tryz.func27 Tryz.call27) <| lk_all (pf Tryz.func28 Tryz.call28) <| lk_all (pf Tryz.func29 Tryz.call29) <| lk_all (pf Tryz.func30 Tryz.call30) <| lk_all (pf Tryz.func31 Tryz.call31) <| lk_all (pf Tryz.func32 Tryz.call32) <| lk_all (pf Tryz.func33 Tryz.call33) <| lk_all (pf Tryz.func34 Tryz.call34) <| lk_all (pf Tryz.func35 Tryz.call35) <| lk_all (pf Tryz.func36 Tryz.call36) <| lk_all (pf Tryz.func38 Tryz.call38) <| lk_all (pf Tryz.func40 Tryz.call40) <| lk_all (pf Tryz.func41 Tryz.call41) <| lk_all (pf Tryz.func42 Tryz.call42) <| lk_all (pf Tryz.func43 Tryz.call43) <| lk_all (pf Tryz.func44 Tryz.call44) <| lk_all (pf Tryz.func45 Tryz.call45) <| lk_all (pf Tryz.func46 Tryz.call46) <| lk_all (pf Tryz.func47 Tryz.call47) <| lk_all (pf Tryz.func48 Tryz.call48) <| lk_all (pf Tryz.func49 Tryz.call49) <| lk_all (pf Tryz.func50 Tryz.call50) <| lk_all (pf Tryz.func51 Tryz.call51) <| lk_all (pf Tryz.func52 Tryz.call52) <| lk_all (pf Tryz.func53 Tryz.call53) <| lk_all (pf Tryz.func54 Tryz.call54) <| lk_all (pf Tryz.func55 Tryz.call55) <| lk_all (pf Tryz.func56 Tryz.call56) <| lk_all (pf Tryz.func57 Tryz.call57) <| lk_all (pf Tryz.func58 Tryz.call58) <| lk_all (pf Tryz.func59 Tryz.call59) <| lk_all (pf Tryz.func60 Tryz.call60) <| lk_all (pf Tryz.func61 Tryz.call61) <| lk_all (pf Tryz.func62 Tryz.call62) <| lk_all (pf Tryz.func63 Tryz.call63) <| lk_all (pf Tryz.func64 Tryz.call64) <| lk_all (pf Tryz.func65 Tryz.call65) <| lk_all (pf Tryz.func66 Tryz.call66) <| lk_all (pf Tryz.func67 Tryz.call67) <| lk_all (pf Tryz.func68 Tryz.call68) <| lk_all (pf Tryz.func70 Tryz.call70) <| lk_all (pf Tryz.func71 Tryz.call71) <| lk_all (pf Tryz.func72 Tryz.call72) <| lk_all (pf Tryz.func73 Tryz.call73) <| lk_all (pf Tryz.func74 Tryz.call74) <| lk_all (pf Tryz.func75 Tryz.call75) <| lk_all (pf Tryz.func76 Tryz.call76) <| lk_all (pf Tryz.func77 Tryz.call77) <| lk_all (pf Tryz.func78 Tryz.call78) <| lk_all (pf Tryz.func79 Tryz.call79) <| lk_all (pf Tryz.func80 Tryz.call80) <| lk_all (pf Tryz.func81 Tryz.call81) <| lk_all (pf Tryz.func82 Tryz.call82) <| lk_all (pf Tryz.func83 Tryz.call83) <| lk_all (pf Tryz.func84 Tryz.call84) <| lk_all (pf Tryz.func85 Tryz.call85) <| lk_all (pf Tryz.func86 Tryz.call86) <| lk_all (pf Tryz.func87 Tryz.call87) <| lk_all (pf Tryz.func88 Tryz.call88) <| lk_all (pf Tryz.func89 Tryz.call89) <| lk_all (pf Tryz.func91 Tryz.call91) <| lk_all (pf Tryz.func92 Tryz.call92) <| lk_all (pf Tryz.func93 Tryz.call93) <| lk_all (pf Tryz.func95 Tryz.call95) <| lk_all (pf Tryz.func96 Tryz.call96) <| lk_all (pf Tryz.func97 Tryz.call97) <| lk_all (pf Tryz.func99 Tryz.call99) <| lk_all (pf Tryz.func100 Tryz.call100) <| lk_all (pf Tryz.func101 Tryz.call101) <| lk_all (pf Tryz.func103 Tryz.call103) <| lk_all (pf Tryz.func104 Tryz.call104) <| lk_all (pf Tryz.func105 Tryz.call105) <| lk_all (pf Tryz.func106 Tryz.call106) <| lk_all (pf Tryz.func108 Tryz.call108) <| lk_all (pf Tryz.func109 Tryz.call109) <| lk_all (pf Tryz.func110 Tryz.call110) <| lk_all (pf Tryz.func111 Tryz.call111) <| lk_all (pf Tryz.func112 Tryz.call112) <| lk_all (pf Tryz.func113 Tryz.call113) <| lk_all (pf Tryz.func114 Tryz.call114) <| lk_all (pf Tryz.func115 Tryz.call115) <| lk_all (pf Tryz.func116 Tryz.call116) <| lk_all (pf Tryz.func123 Tryz.call123) <| lk_all (pf Tryz.func126 Tryz.call126) <| lk_all (pf Tryz.func127 Tryz.call127) <| lk_all (pf Tryz.func128 Tryz.call128) <| lk_all (pf Tryz.func129 Tryz.call129) <| lk_all (pf Tryz.func130 Tryz.call130) <| lk_all (pf Tryz.func132 Tryz.call132) <| lk_all (pf Tryz.func133 Tryz.call133) <| lk_all (pf Tryz.func134 Tryz.call134) <| lk_all (pf Tryz.func142 Tryz.call142) <| lk_all (pf Tryz.func143 Tryz.call143) <| lk_all (pf Tryz.func144 Tryz.call144) <| lk_all (pf Tryz.func145 Tryz.call145) <| lk_all (pf Tryz.func149 Tryz.call149) <| lk_all (pf Tryz.func183 Tryz.call183) <| lk_none
set_option maxRecDepth 100000 in
theorem eqOK92:EqOK Tryz.prog 92 [.int .i64,.str]:=by
 refine ⟨by kernel_rfl,fun vs us h1 h2 w=>?_⟩
 rcases h1 with _ | ⟨⟨a0,rfl⟩,_ | ⟨⟨a1,rfl⟩,_ | _⟩⟩
 rcases h2 with _ | ⟨⟨b0,rfl⟩,_ | ⟨⟨b1,rfl⟩,_ | _⟩⟩
 have u3:=Tryz.underlying3
 have x3:=Tryz.isAgg3
 have z3:=Tryz.sizeOf3
 have u9:=Tryz.underlying9
 have x9:=Tryz.isAgg9
 have z9:=Tryz.sizeOf9
 have hS:Tryz.prog.underlying 92=some (.struct (Tryz.prog.fieldsOf 92)):=by kernel_rfl
 have hp:Tryz.prog.stoodInHeld 92=false:=by kernel_rfl
 rw [show (10000:Nat)=9999+1 from rfl,run_equalIn_agg w 9999 92 _ _ hS hp]
 simp only [Program.fieldsOf,Tryz.underlying92]
 go_simp
 refine if e0:a0=b0 then ?_ else by simp [eqVs,eqV,ByteArray.toList_eq,e0]
 refine if e1:a1.data.toList=b1.data.toList then ?_ else by simp [eqVs,eqV,ByteArray.toList_eq,e0,e1]
 simp [eqVs,eqV,ByteArray.toList_eq,e0,e1]
set_option maxRecDepth 100000 in
theorem eqOK95:EqOK Tryz.prog 95 [.bool,.int .i64]:=by
 refine ⟨by kernel_rfl,fun vs us h1 h2 w=>?_⟩
 rcases h1 with _ | ⟨⟨a0,rfl⟩,_ | ⟨⟨a1,rfl⟩,_ | _⟩⟩
 rcases h2 with _ | ⟨⟨b0,rfl⟩,_ | ⟨⟨b1,rfl⟩,_ | _⟩⟩
 have u3:=Tryz.underlying3
 have x3:=Tryz.isAgg3
 have z3:=Tryz.sizeOf3
 have u4:=Tryz.underlying4
 have x4:=Tryz.isAgg4
 have z4:=Tryz.sizeOf4
 have hS:Tryz.prog.underlying 95=some (.struct (Tryz.prog.fieldsOf 95)):=by kernel_rfl
 have hp:Tryz.prog.stoodInHeld 95=false:=by kernel_rfl
 rw [show (10000:Nat)=9999+1 from rfl,run_equalIn_agg w 9999 95 _ _ hS hp]
 simp only [Program.fieldsOf,Tryz.underlying95]
 go_simp
 refine if e0:a0=b0 then ?_ else by simp [eqVs,eqV,ByteArray.toList_eq,e0]
 refine if e1:a1=b1 then ?_ else by simp [eqVs,eqV,ByteArray.toList_eq,e0,e1]
 simp [eqVs,eqV,ByteArray.toList_eq,e0,e1]
set_option maxRecDepth 100000 in
theorem eqOK100:EqOK Tryz.prog 100 [.int .i64,.str]:=by
 refine ⟨by kernel_rfl,fun vs us h1 h2 w=>?_⟩
 rcases h1 with _ | ⟨⟨a0,rfl⟩,_ | ⟨⟨a1,rfl⟩,_ | _⟩⟩
 rcases h2 with _ | ⟨⟨b0,rfl⟩,_ | ⟨⟨b1,rfl⟩,_ | _⟩⟩
 have u3:=Tryz.underlying3
 have x3:=Tryz.isAgg3
 have z3:=Tryz.sizeOf3
 have u9:=Tryz.underlying9
 have x9:=Tryz.isAgg9
 have z9:=Tryz.sizeOf9
 have hS:Tryz.prog.underlying 100=some (.struct (Tryz.prog.fieldsOf 100)):=by kernel_rfl
 have hp:Tryz.prog.stoodInHeld 100=false:=by kernel_rfl
 rw [show (10000:Nat)=9999+1 from rfl,run_equalIn_agg w 9999 100 _ _ hS hp]
 simp only [Program.fieldsOf,Tryz.underlying100]
 go_simp
 refine if e0:a0=b0 then ?_ else by simp [eqVs,eqV,ByteArray.toList_eq,e0]
 refine if e1:a1.data.toList=b1.data.toList then ?_ else by simp [eqVs,eqV,ByteArray.toList_eq,e0,e1]
 simp [eqVs,eqV,ByteArray.toList_eq,e0,e1]
def eqTab:List (TypeId×List Ty):=[(92,[.int .i64,.str]),(95,[.bool,.int .i64]),(100,[.int .i64,.str])]
theorem eqsOK:∀ t ks,lk eqTab t=some ks→EqOK Tryz.prog t ks:=by
 unfold eqTab
 refine lk_all (p:=fun t ks=>EqOK Tryz.prog t ks) eqOK92 ?_
 refine lk_all (p:=fun t ks=>EqOK Tryz.prog t ks) eqOK95 ?_
 refine lk_all (p:=fun t ks=>EqOK Tryz.prog t ks) eqOK100 ?_
 exact lk_none
def btTab:List (TypeId×TypeId×TypeId):=[(78,78,5)]
theorem bt78:BltOK Tryz.prog 78 78 5:=⟨by decide,by kernel_rfl,by kernel_rfl,⟨_,Tryz.zeroValue78,rfl⟩,fun b w=>by kernel_rfl⟩
theorem btOK:∀ T x,lk btTab T=some x→BltOK Tryz.prog T x.1 x.2:=by
 unfold btTab
 refine lk_all (p:=fun T (x:TypeId×TypeId)=>BltOK Tryz.prog T x.1 x.2) bt78 ?_
 exact lk_none
noncomputable def tabs0:Tabs:=⟨tyTab,fnTab,[],[],[],eqTab,[],[],[],btTab,[],[]⟩
theorem tabs0OK:TabOK Tryz.prog tabs0:=⟨tyOK,fnOK,(fun _ _ h=>by cases h),(fun _ _ h=>by cases h),by kernel_rfl,(fun _ h=>by cases h),eqsOK,(fun _ h=>by cases h),(fun _ _ h=>by cases h),(fun _ _ h=>by cases h),btOK,(fun _ _ h=>by cases h),(fun _ _ h=>by cases h)⟩
end Go.Proofs.YtobfnefajpiakaaGreatDoor
namespace Go.PE
open Go Go.RowKit Go.Abs Go.Sort
open Go.Proofs (ltOf)
variable [db:DB] [ea:EA]

def clampT:(t:Ty)→t.den→t.den
 | .int k,x=>k.wrap x
 | .bool,x=>x
 | .str,x=>List.take maxLen x
 | .list _,x=>x
 | .one t,x=>clampT t x
 | .pair a b,x=>(clampT a x.1,clampT b x.2)
def encF:(t:Ty)→t.den→List Value
 | .int k,x=>[.int k x]
 | .bool,x=>[.bool x]
 | .str,x=>[.string ⟨List.toArray x⟩]
 | .list _,_=>[.slice none 0 0]
 | .one t,x=>encF t x
 | .pair a b,x=>encF a x.1++encF b x.2
def encT (t:Ty) (x:t.den):List Value:=encF t (clampT t x)
section
variable {S:Cells} {w:World} {η:Eta}
end
theorem getB {α:Type} [Inhabited α] {a:Array α} {i:Nat} (h:i<a.size):a[i]! = a[i]:=getElem!_pos a i h
end Go.PE
namespace Go.PE
open Go Go.RowKit Go.Abs Go.Sort
variable [db:DB] [ea:EA]

def insI (x:Int):List Int→List Int
 | []=>[x]
 | y::r=>bif leM x y then x::y::r else y::insI x r
def isortI:List Int→List Int
 | []=>[]
 | x::r=>insI x (isortI r)
theorem insI_perm (x:Int):∀ l,(insI x l).Perm (x::l)
 | []=>.refl _
 | y::r=>by
  unfold insI
  cases leM x y
  ·exact ((insI_perm x r).cons y).trans (.swap x y r)
  ·exact .refl _
theorem isortI_perm:∀ l,(isortI l).Perm l
 | []=>.refl _
 | x::r=>(insI_perm x (isortI r)).trans ((isortI_perm r).cons x)
theorem insI_sorted (x:Int):∀ {l:List Int},List.Pairwise (·≤·) l→List.Pairwise (·≤·) (insI x l)
 | [],_=>by unfold insI;simp
 | y::r,h=>by
  unfold insI
  have h2:=List.pairwise_cons.1 h
  cases hb:leM x y with
  | true =>
   have hb':x≤y:=oD hb
   refine List.pairwise_cons.2 ⟨fun z hz=>?_,h⟩
   rcases List.mem_cons.1 hz with rfl | hz
   ·exact hb'
   ·exact Int.le_trans hb' (h2.1 z hz)
  | false =>
   have hb':¬ x≤y:=of_decide_eq_false hb
   refine List.pairwise_cons.2 ⟨fun z hz=>?_,insI_sorted x h2.2⟩
   rcases List.mem_cons.1 ((insI_perm x r).mem_iff.1 hz) with rfl | hz
   ·omega
   ·exact h2.1 z hz
theorem isortI_sorted:∀ l,List.Pairwise (·≤·) (isortI l)
 | []=>.nil
 | x::r=>insI_sorted x (isortI_sorted r)
theorem merge_isortI (l:List Int):(l.mergeSort fun x y=>decide (x≤y))=isortI l:=by
 refine List.Perm.eq_of_pairwise (le:=fun x y=>x≤y) (fun a b _ _ h1 h2=>by omega) ?_ (isortI_sorted l) ((List.mergeSort_perm l _).trans (isortI_perm l).symm)
 have:=List.pairwise_mergeSort (le:=fun (x y:Int)=>decide (x≤y)) (fun a b c h1 h2=>by simp at *;omega) (fun a b=>by simp;omega) l
 exact this.imp fun h=>by simpa using h
def sortI (xs:List Int):Option (List Int):=match decide (xs.length<4611686018427387904) with
 | true=>some (isortI xs)
 | false=>none
def compI (xs:List Int):Option (List Int):=match decide (xs.length≤4611686018427387904) with
 | true=>some (Lib.compact xs)
 | false=>none
section
variable {B:Nat} {S F:Cells} {w w':World}
theorem world_put {b off cap n:Nat} {xs d:List Int} {os:Array Obj} (hin:InLt S w) (hF:∀ b o,F b o→B≤b∧b<w.heap.size∧¬ S b o) (hFe:∀ b' o,F b' o↔b'=b∧off≤o∧o<off+cap*1) (c1:xs.length≤cap) (hn:0<xs.length)
  (ht:∀ o,off≤o→o<off+cap*1→World.there w b o) (hH:Holds (Value.int .i64) w b off xs.toArray) (hd:d.length=xs.length) (hw:w'=grow (putRow (Value.int .i64) (Go.Sort.ahead w n) b off d.toArray) os) :
  Grow B S w S w'∧(∀ j,j<xs.length→w'.cell? ⟨b,off+j,none⟩=some (.int .i64 (d.toArray)[j]!))∧(∀ b' o,b'<w.heap.size→¬ F b' o→w'.cell? ⟨b',o,none⟩=w.cell? ⟨b',o,none⟩∧w'.frozen? ⟨b',o,none⟩=w.frozen? ⟨b',o,none⟩) ∧
   (∀ b',b'<w.heap.size→(∀ o,¬ F b' o)→w'.heap[b']? = w.heap[b']?)∧∀ o,off≤o→o<off+cap*1→World.there w' b o:=by
 have hin1:∀ j,j<xs.length→F b (off+j):=fun j hj=>(hFe _ _).2 ⟨rfl,by omega,by omega⟩
 obtain ⟨hBb,hblk,_⟩:=hF b (off+0) (hin1 0 hn)
 have hH1:Holds (Value.int .i64) (Go.Sort.ahead w n) b off xs.toArray:=hH
 have hfs:d.toArray.size=xs.toArray.size:=by simpa using hd
 have hfn:d.toArray.size=xs.length:=by simpa using hd
 have hps:(putRow (Value.int .i64) (Go.Sort.ahead w n) b off d.toArray).heap.size=w.heap.size:=by rw [size_putRow];rfl
 have cin:∀ j,j<xs.length→w'.cell? ⟨b,off+j,none⟩=some (.int .i64 (d.toArray)[j]!):=fun j hj=>by
  rw [hw,cell?_grow _ _ _ (by rw [hps];exact hblk)]
  exact cell?_putRow (Value.int .i64) _ b off _ _ hH1 hfs j (by rw [hfn];exact hj)
 have cout:∀ b' o,b'<w.heap.size→(b'≠b∨o<off∨off+xs.length≤o)→w'.cell? ⟨b',o,none⟩=w.cell? ⟨b',o,none⟩:=fun b' o hb' ho=>by
  rw [hw,cell?_grow _ _ _ (by rw [hps];exact hb'),cell?_putRow_other (Value.int .i64) _ b off _ _ (by rw [hfn];exact ho)]
  rfl
 have fout:∀ b' o,b'<w.heap.size→w'.frozen? ⟨b',o,none⟩=w.frozen? ⟨b',o,none⟩:=fun b' o hb'=>by
  rw [hw,frozen?_grow _ _ _ (by rw [hps];exact hb'),frozen?_putRow]
  rfl
 have hout:∀ b',b'<w.heap.size→b'≠b→w'.heap[b']? = w.heap[b']? := fun b' hb' hne=>by
  rw [hw,heap_grow_old _ _ (by rw [hps];exact hb')]
  show (w.heap.modify b _)[b']? = _
  rw [Array.getElem?_modify,if_neg (Ne.symm hne)]
 have hcut:∀ b' o,¬ F b' o→(b'≠b∨o<off∨off+xs.length≤o):=fun b' o hno=>by
  by_cases e:b'=b
  ·subst e
   refine .inr ?_
   rcases Nat.lt_or_ge o off with h1 | h1
   ·exact .inl h1
   ·rcases Nat.lt_or_ge o (off+xs.length) with h2 | h2
    ·have:=hin1 (o-off) (by omega)
     rw [show off+(o-off)=o by omega] at this
     exact absurd this hno
    ·exact .inr h2
  ·exact .inl e
 have hkeep:Keep S w S w':=⟨fun _ _ h=>h,fun b' o hs=>cout b' o (hin b' o hs) (hcut b' o fun hf'=>(hF b' o hf').2.2 hs)⟩
 have hcells:∃ c e fr,w.heap[b]? = some (.cells c e fr):=by
  obtain ⟨⟨v,hv⟩,_⟩:=ht (off+0) (by omega) (by omega)
  obtain ⟨c,e,fr,h1,_⟩:=cells_of_cell? hv
  exact ⟨c,e,fr,h1⟩
 refine ⟨⟨⟨by rw [hw];rfl,by rw [hw];rfl,by rw [hw];rfl,by rw [hw,size_grow,hps];omega,fun k hk=>hout k (by omega) (by omega)⟩,hkeep,fun b' o hs=>?_,fun _ _ h=>.inl h,.of ?_ fun b' o ho hne=>?_⟩,cin,fun b' o hb' hno=>⟨cout b' o hb' (hcut b' o hno),fout b' o hb'⟩,fun b' hb' hno=>hout b' hb' fun e=>?_,fun o h1 h2=>⟨?_,by rw [fout b o hblk];exact (ht o h1 h2).2⟩⟩
 ·have:=hin b' o hs
  rw [hw,size_grow,hps];omega
 ·rw [hw]
  show w.drawn≤w.drawn+n
  omega
 ·by_cases e:b'=b
  ·subst e
   obtain ⟨c,el,fr,hc⟩:=hcells
   rw [hc] at ho
   exact absurd (Option.some.inj ho).symm (hne _ _ _)
  ·rw [hout b' (aS.1 ho).1 e];exact ho
 ·subst e
  exact hno _ (hin1 0 hn)
 ·by_cases ho:o<off+xs.length
  ·have:=cin (o-off) (by omega)
   rw [show off+(o-off)=o by omega] at this
   exact ⟨_,this⟩
  ·rw [cout b o hblk (.inr (.inr (by omega)))]
   exact (ht o h1 h2).1
theorem rep_int {x:Int} {es:List Value} (h:Rep S w (.int .i64) x es):es=[.int .i64 x]∧IntKind.i64.has x:=⟨h.1,h.2⟩
theorem holds_of {b off:Nat} {xs:List Int} {cap:Nat} (c1:xs.length≤cap) (ht:∀ o,off≤o→o<off+cap*1→World.there w b o) (hx:∀ (i:Nat) (x:Int),xs[i]? = some x→∃ es,Rep S w (.int .i64) x es∧∀ j v,es[j]? = some v→w.cell? ⟨b,off+i*1+j,none⟩=some v) :
  Holds (Value.int .i64) w b off xs.toArray∧∀ x∈xs,IntKind.i64.has x:=by
 refine ⟨fun j hj=>?_,fun x hx'=>?_⟩
 ·have hj':j<xs.length:=by simpa using hj
  obtain ⟨es,he,hc⟩:=hx j xs[j] (gE hj')
  obtain ⟨rfl,_⟩:=rep_int he
  have:=hc 0 _ rfl
  refine ⟨?_,(ht (off+j) (by omega) (by omega)).2⟩
  rw [getB hj]
  simpa using this
 ·obtain ⟨i,hi,rfl⟩:=List.getElem_of_mem hx'
  obtain ⟨es,he,_⟩:=hx i _ (gE hi)
  exact (rep_int he).2
end
theorem so1_sort {P:Program} {ρ:Go.Shelf.Ren} (L:Go.Proofs.Lays.n189 P ρ) {f:FuncId} (hfid:ρ.f 189=f) (ef:∀ (args:Array Value) (w:World),(callFunc f args).run P w=.ok (.enter f args) w):So1OK P ⟨f,.int .i64,false,sortI⟩:=by
 refine ⟨ef,fun xs ys h B S F w u hB hin hF hA=>?_⟩
 have h:sortI xs=some ys:=h
 have hA:ArrH F S w u (.int .i64) xs:=hA
 show Calls P f #[u] w _
 unfold sortI at h
 split at h
 ·rename_i hlt
  have hlt:=oD hlt
  have hy:=Option.some.inj h
  have hperm:=isortI_perm xs
  rw [hy] at hperm
  have hyl:ys.length=xs.length:=hperm.length_eq
  obtain ⟨base,cap,rfl,c1,c2,c3⟩:=hA
  by_cases hn:xs.length=0
  ·have hxs:xs=[]:=lN hn
   have hys:ys=[]:=lN (by omega)
   subst hxs hys
   have hc:=Go.Proofs.Any.slices_Sort_int_none L base cap w
   rw [hfid] at hc
   exact hc.mono fun en w' ⟨he,hw⟩=>by
    subst hw
    exact ⟨_,.slice base 0 cap,he,fun h=>(by cases h),fun _=>⟨rfl,rfl⟩,rfl,Grow.refl hin,⟨base,cap,rfl,c1,c2,c3⟩,fun _ _ _ _=>⟨rfl,rfl⟩,fun _ _ _=>rfl⟩
  ·rcases c3 with c3 | ⟨b,off,rfl,hFe,ht,hx⟩
   ·omega
   obtain ⟨hH,hhas⟩:=holds_of c1 ht hx
   have hblk:b<w.heap.size:=(hF b (off+0) ((hFe _ _).2 ⟨rfl,by omega,by show off+0<off+cap*1;omega⟩)).2.1
   have hc:=Go.Proofs.Any.slices_Sort_int L b off cap xs w hH hblk hlt
   rw [hfid,merge_isortI,hy] at hc
   refine hc.mono fun en w' ⟨he,n,os,hw⟩=>?_
   obtain ⟨g1,g2,g3,g4,g5⟩:=world_put hin hF hFe c1 (by omega) ht hH hyl hw
   refine ⟨_,.slice (some ⟨b,off,none⟩) xs.length cap,he,fun h=>(by cases h),fun _=>⟨rfl,rfl⟩,rfl,g1,⟨_,cap,by rw [hyl],by rw [hyl];exact c1,c2,.inr ⟨b,off,rfl,hFe,g5,fun i y hi=>?_⟩⟩,g3,g4⟩
   have hil:=(gS.1 hi).1
   have hmem:y∈xs:=hperm.mem_iff.1 (List.mem_of_getElem? hi)
   refine ⟨[.int .i64 y],⟨rfl,hhas y hmem⟩,fun j v hj=>?_⟩
   cases j with
   | zero =>
    cases hj
    have e:ys.toArray[i]! = y:=by rw [getB (by simpa using hil)];simpa using (gS.1 hi).2
    show w'.cell? ⟨b,off+i*1+0,none⟩=_
    rw [Nat.mul_one,Nat.add_zero,g2 i (by omega),e]
   | succ j=>simp at hj
 ·cases h
theorem grow_none (w:World):grow w #[]=w:=by
 cases w
 simp [grow]
theorem compact_mem {zs:List Int} {y:Int} (h:y∈Lib.compact zs):y∈zs:=by
 unfold Lib.compact Lib.compactUpTo at h
 obtain ⟨j,hj,rfl⟩:=List.mem_map.1 h
 have hjl:j<zs.length:=List.mem_range.1 (List.mem_filter.1 hj).1
 rw [getB (by simpa using hjl)]
 simp
theorem compact_len (zs:List Int):(Lib.compact zs).length≤zs.length:=by
 unfold Lib.compact Lib.compactUpTo
 rw [List.length_map]
 exact Nat.le_trans (List.length_filter_le _ _) (by simp)
theorem so1_comp {P:Program} {ρ:Go.Shelf.Ren} (L:Go.Proofs.Lays2.n20 P ρ) {f:FuncId} (hfid:ρ.f 20=f) (ef:∀ (args:Array Value) (w:World),(callFunc f args).run P w=.ok (.enter f args) w):So1OK P ⟨f,.int .i64,true,compI⟩:=by
 refine ⟨ef,fun xs ys h B S F w u hB hin hF hA=>?_⟩
 have h:compI xs=some ys:=h
 have hA:ArrH F S w u (.int .i64) xs:=hA
 show Calls P f #[u] w _
 unfold compI at h
 split at h
 ·rename_i hlt
  have hlt:=oD hlt
  have hy:=Option.some.inj h
  have hyl:ys.length≤xs.length:=by rw [← hy];exact compact_len xs
  obtain ⟨base,cap,rfl,c1,c2,c3⟩:=hA
  by_cases hn:xs.length=0
  ·have hxs:xs=[]:=lN hn
   have hys:ys=[]:=lN (by omega)
   subst hxs hys
   have hc:=Go.Proofs.Any.slices_Compact_int_empty L base cap w
   rw [hfid] at hc
   exact hc.mono fun en w' ⟨he,hw⟩=>by
    subst hw
    exact ⟨_,.slice base 0 cap,he,fun _=>rfl,fun h=>(by cases h),rfl,Grow.refl hin,⟨base,cap,rfl,c1,c2,c3⟩,fun _ _ _ _=>⟨rfl,rfl⟩,fun _ _ _=>rfl⟩
  ·rcases c3 with c3 | ⟨b,off,rfl,hFe,ht,hx⟩
   ·omega
   obtain ⟨hH,hhas⟩:=holds_of c1 ht hx
   have hc:=Go.Proofs.Any.slices_Compact_int L b off cap xs w hH (by omega) c1
   rw [hfid,hy] at hc
   refine hc.mono fun en w' ⟨he,q,hw⟩=>?_
   have hdl:(ys++List.replicate (xs.length-ys.length) (0:Int)).length=xs.length:=by rw [lA,List.length_replicate];omega
   obtain ⟨g1,g2,g3,g4,g5⟩:=world_put (os:=#[]) hin hF hFe c1 (by omega) ht hH hdl (hw.trans (grow_none _).symm)
   refine ⟨_,.slice (some ⟨b,off,none⟩) ys.length cap,he,fun _=>rfl,fun h=>(by cases h),rfl,g1,⟨_,cap,rfl,by omega,c2,.inr ⟨b,off,rfl,hFe,g5,fun i y hi=>?_⟩⟩,g3,g4⟩
   have hil:=(gS.1 hi).1
   have hmem:y∈xs:=compact_mem (by rw [hy];exact List.mem_of_getElem? hi)
   refine ⟨[.int .i64 y],⟨rfl,hhas y hmem⟩,fun j v hj=>?_⟩
   cases j with
   | zero =>
    cases hj
    have e:(ys++List.replicate (xs.length-ys.length) (0:Int)).toArray[i]! = y:=by
     rw [getB (by simp;omega)]
     simp only [List.getElem_toArray]
     rw [List.getElem_append_left hil]
     exact (gS.1 hi).2
    show w'.cell? ⟨b,off+i*1+0,none⟩=_
    rw [Nat.mul_one,Nat.add_zero,g2 i (by omega),e]
   | succ j=>simp at hj
 ·cases h
end Go.PE
namespace Go.PE
open Go Go.RowKit Go.Abs Go.Shelf Go.Proofs Go.Sort
variable [db:DB] [ea:EA]

section
variable {P:Program} {w:World}
theorem run_append_str (base:Nat) (t u ty e:TypeId) (i:TypeInfo) (ht:P.underlying t=some (.slice e)) (hu:P.underlying u=some .string) (hi:P.info? e=some i) (hz:i.zero=some (.int .u8 0))
  (hsize:i.size=1) (hby:i.bytes=1) (v:Value) (n:Nat) (xs:List Value) (hown:w.ownsRow base e 1 v n xs) (s:ByteArray)
  (h63:n+s.size≤maxLen) (hbytes:n+s.size≤140737488355328) (hbase:base≤w.heap.size) :
  ∃ v' w',(Builtin.append_ #[t,u] ty #[v,.string s]).run P w=.ok v' w'∧w'.ownsRow base e 1 v' (n+s.size) (xs++Lib.strCells s)∧w.grownBy w' v.ownBlock ∧
   (v'=.slice none 0 0↔v=.slice none 0 0∧s.size=0)∧LK w w'∧∀ k,v'.ownBlock=some k→v.ownBlock=some k∨w.heap.size≤k:=by
 obtain ⟨v',w',hr,h2,h3,h4⟩:=Lib.run_append_own_string (P:=P) w base t u ty e i ht hu hi hz hsize hby v n xs hown s h63 hbytes hbase
 refine ⟨v',w',hr,h2,h3,h4,?_⟩
 have hxl:xs.length=n:=by simpa using hown.1
 rcases hown.2 with ⟨rfl,rfl⟩ | ⟨g,cap,cur,rfl,hbg,hg,hnc,hcm,hcs,htake⟩
 ·by_cases hm:s.size=0
  ·have hv:v'=.slice none 0 0:=h4.2 ⟨rfl,hm⟩
   refine ⟨⟨fun b r hb=>⟨r,by rw [h3.block b (aS.1 hb).1 (by simp [Value.ownBlock])];exact hb,rfl,rfl,rfl,rfl,rfl⟩,fun b hb=>by rw [h3.block b (aS.1 hb).1 (by simp [Value.ownBlock])];exact hb,fun _=>?_⟩,fun k hk=>by rw [hv] at hk;cases hk⟩
   have hf:=Lib.run_firstCells_string (P:=P) w 1 s
   rw [hm] at hf
   have:(Builtin.append_ #[t,u] ty #[.slice none 0 0,.string s]).run P w=.ok (.slice none 0 0) w:=by
    simp [Builtin.append_,run_underlying ht,run_underlying hu,Go.sizeOf,typeInfo,hi,hsize,Builtin.lenOf,hm,hf]
   rw [this] at hr
   cases hr
   exact nR _
  ·have hr2:=run_append_nil_string (P:=P) w t u ty e i (.int .u8 0) ht hu hi hz s (by omega) (by omega) (by rw [hby];omega)
   rw [hr2] at hr
   cases hr
   exact ⟨(LK.drew _).trans (LK.alloc _ _),fun k hk=>by cases hk;exact .inr (nR _)⟩
 ·by_cases hroom:n+s.size≤cap
  ·have hcs':cur.size=cap:=by simpa using hcs
   have hr2:=Lib.run_append_room_string (P:=P) (w:=w) t u ty e i ht hu hi hsize g n cap cur hg s hroom (by omega)
   rw [hr2] at hr
   cases hr
   refine ⟨.of (nR _) fun b o hb hne=>?_,fun k hk=>.inl hk⟩
   by_cases hbg:b=g
   ·subst hbg
    rw [hg] at hb
    cases hb
    exact absurd rfl (hne _ _ _)
   ·rw [setRow_other w g b _ hbg];exact hb
  ·have holds:∀ j u,xs[j]? = some u→w.cell? ((⟨g,0,none⟩:Addr).add j)=some u:=hown.cells (g:=g) rfl
   have hr2:=Lib.run_append_grow_string (P:=P) (w:=w) t u ty e i (.int .u8 0) ht hu hi hz ⟨g,0,none⟩ n cap xs (by rw [hsize];simpa using hxl) holds s (by omega) (by omega) (by rw [hby];exact growslice_fits (by omega) (by omega))
   rw [hr2] at hr
   cases hr
   exact ⟨(LK.drew _).trans (LK.alloc _ _),fun k hk=>by cases hk;exact .inr (nR _)⟩
theorem wpList_append_str {ops:Array Oper} {rest:List Oper} {o:Oper} {a:Act} {Q:Exit→Act→World→Prop} (hgd:o.guard=none) (sl x:Operand) (t u:TypeId)
  (ho:o.op=.call { callee:=.builtin .append,args:=#[sl,x],argTypes:=#[t,u] })
  (base:Nat) (e:TypeId) (i:TypeInfo) (ht:P.underlying t=some (.slice e)) (hu:P.underlying u=some .string) (hi:P.info? e=some i) (hz:i.zero=some (.int .u8 0))
  (hsize:i.size=1) (hby:i.bytes=1)
  (v:Value) (n:Nat) (xs:List Value) (hs:a.eval sl=v) (hown:w.ownsRow base e 1 v n xs) (s:ByteArray) (hx:a.eval x=.string s)
  (h63:n+s.size≤maxLen) (hbytes:n+s.size≤140737488355328) (hbase:base≤w.heap.size)
  (h:∀ v' w',w'.ownsRow base e 1 v' (n+s.size) (xs++Lib.strCells s)→w.grownBy w' v.ownBlock→(v'=.slice none 0 0↔v=.slice none 0 0∧s.size=0)→LK w w'→(∀ k,v'.ownBlock=some k→v.ownBlock=some k∨w.heap.size≤k)→wpList P ops Q rest (a.put o.dst v') w'):wpList P ops Q (o::rest) a w:=by
 refine wpList_plain hgd fun K hK=>?_
 obtain ⟨v',w',hr,h2,h3,h4,h5,h6⟩:=run_append_str (P:=P) base t u o.type e i ht hu hi hz hsize hby v n xs hown s h63 hbytes hbase
 unfold Oper.wp execOp
 simp only [ho,resolve,invoke,builtin,Sem.run_bind,Sem.run_pure,Result.andThen_ok,List.map_toArray,List.map_cons,List.map_nil,hs,hx,hr]
 exact hK _ _ (h v' w' h2 h3 h4 h5 h6)
end

section
variable {P:Program} {ρ:Ren}
theorem BldChg.refl (w:World) (b:Nat) (u:Value):BldChg w w b u u:=⟨rfl,rfl,rfl,nR _,LK.refl _,fun _ _ _ _=>rfl,fun _ h=>.inl h⟩
theorem bldChg_set {w:World} {b:Nat} {u u':Value} (o:Nat) (v:Value) (h:∀ k,u'.ownBlock=some k→u.ownBlock=some k∨w.heap.size≤k):BldChg w (w.setCell ⟨b,o,none⟩ v) b u u' :=
 ⟨rfl,rfl,rfl,by simp,LK.setCell _ _ _,fun k hk hne _=>by
  show (w.heap.modify b _)[k]? = _
  rw [Array.getElem?_modify,if_neg (Ne.symm hne)],h⟩
theorem BldChg.trans {w1 w2 w3:World} {b:Nat} {u1 u2 u3:Value} (h:BldChg w1 w2 b u1 u2) (k:BldChg w2 w3 b u2 u3):BldChg w1 w3 b u1 u3 :=
 ⟨k.os.trans h.os,k.tape.trans h.tape,k.output.trans h.output,Nat.le_trans h.size k.size,h.lk.trans k.lk,fun j hj h1 h2=>by
  rw [k.block j (Nat.lt_of_lt_of_le hj h.size) h1 (fun e=>?_),h.block j hj h1 h2]
  rcases h.own j e with h3 | h3
  ·exact h2 h3
  ·omega,fun j hj=>by
  rcases k.own j hj with h1 | h1
  ·exact h.own j h1
  ·exact .inr (Nat.le_trans h.size h1)⟩
theorem freeze_same (w:World) (a:Addr) (n:Nat):(w.freeze a n).os=w.os∧(w.freeze a n).tape=w.tape∧(w.freeze a n).output=w.output∧(w.freeze a n).heap.size=w.heap.size∧(w.freeze a n).drawn=w.drawn:=by
 unfold World.freeze
 split<;>simp
def BldUsed (w:World) (b:Nat) (T e:TypeId) (u:Value) (s:List UInt8):Prop:=w.heap[b]? = some (.cells #[.pointer (some ⟨b,0,none⟩),u] T (0,0))∧w.ownsRow 0 e 1 u s.length (bytV s)∧u.ownBlock≠some b∧(s=[]→u=.slice none 0 0)
set_option maxHeartbeats 1000000 in
set_option maxRecDepth 100000 in
theorem bld_fresh (L:Lays.n240 P ρ) {T e:TypeId} (hT:BltOK P T (ρ.t 72) e) (b:Nat) (w:World) (h0:w.cell? ⟨b,0,none⟩=some (.pointer none)) (hsh:w.shape? b=some (T,2)) (hfz:w.frozen? ⟨b,0,none⟩=false) :
  Calls P (ρ.f 240) #[.pointer (some ⟨b,0,none⟩)] w fun e w'=>e=.returned (.tuple #[])∧w'=w.setCell ⟨b,0,none⟩ (.pointer (some ⟨b,0,none⟩)):=by
 obtain ⟨j,hj,hjs⟩:=Option.map_eq_some_iff.1 hT.size
 have mixed:=L.mixed
 have t72:=L.t72;have a72:=L.a72;have z72:=L.z72;have v72:=L.v72;have u72:=run_underlying L.t72
 have t70:=L.t70;have a70:=L.a70;have z70:=L.z70;have v70:=L.v70;have u70:=run_underlying L.t70
 have t9:=L.t9;have a9:=L.a9;have z9:=L.z9;have v9:=L.v9;have u9:=run_underlying L.t9
 have t4:=L.t4;have a4:=L.a4;have z4:=L.z4;have v4:=L.v4;have u4:=run_underlying L.t4
 have t164:=L.t164;have a164:=L.a164;have z164:=L.z164;have v164:=L.v164;have u164:=run_underlying L.t164
 go_enter L.f240,Body.n240_ntmps ρ
 go_wp2
 rw [Lib.run_to_unsafe w ⟨b,0,none⟩ L.t70 L.t164 hj (by rw [hjs];decide) hsh (Nat.zero_lt_succ 1)]
 simp only [Result.andThen]
 rw [Oper.upon_value]
 go_wp2
 rw [run_callFunc_extern L.f276 (by kernel_rfl) (by kernel_rfl) (by kernel_rfl) (e:=Extern.AbiNoEscape.same) (by kernel_rfl)]
 rw [Lib.run_noEscape]
 simp only [Result.andThen]
 rw [Oper.upon_value]
 go_wp2
 rw [Lib.run_from_unsafe w ⟨b,0,none⟩ L.t164 L.t70 hj hsh hT.lies]
 simp only [Result.andThen]
 rw [Oper.upon_value]
 go_wp2
 go_end0
 exact ⟨rfl,rfl⟩
theorem bld_check (L:Lays.n240 P ρ) {T e:TypeId} (hT:BltOK P T (ρ.t 72) e) (X:Builder.X72 P ρ) (b:Nat) {u:Value} {s:List UInt8} (w:World) (h:BldAt w b T e u s) :
  Calls P (ρ.f 240) #[.pointer (some ⟨b,0,none⟩)] w fun en w'=>en=.returned (.tuple #[])∧BldUsed w' b T e u s∧BldChg w w' b u u:=by
 obtain ⟨p,h1,h2,h3,h4,h5⟩:=h
 rcases h2 with rfl | rfl
 ·refine (bld_fresh L hT b w (by rw [Lib.cell_of_heap h1];rfl) (by simp [World.shape?,h1]) (Lib.frozen_of_heap h1 0)).mono ?_
  rintro en w' ⟨rfl,rfl⟩
  refine ⟨rfl,⟨?_,?_,h4,h5⟩,bldChg_set 0 _ fun _ h=>.inl h⟩
  ·show (w.heap.modify b _)[b]? = _
   rw [Array.getElem?_modify,if_pos rfl,h1]
   rfl
  ·refine ⟨h3.1,?_⟩
   rcases h3.2 with h | ⟨g,cap,cur,hv,hb,hg,hr⟩
   ·exact .inl h
   ·refine .inr ⟨g,cap,cur,hv,hb,?_,hr⟩
    have hne:b≠g:=fun e=>h4 (by rw [hv,e];rfl)
    show (w.heap.modify b _)[g]? = _
    rw [Array.getElem?_modify,if_neg hne,hg]
 ·refine (Any.Builder_copyCheck_used L X b w (by rw [Lib.cell_of_heap h1];rfl)).mono ?_
  rintro en w' ⟨rfl,rfl⟩
  exact ⟨rfl,⟨h1,h3,h4,h5⟩,BldChg.refl _ _ _⟩
set_option maxHeartbeats 2000000 in
set_option maxRecDepth 100000 in
theorem bld_write (L:Lays.n166 P ρ) (X:Builder.Extra P ρ) {T:TypeId} (hT:BltOK P T (ρ.t 72) (ρ.t 5)) (b:Nat) (u:Value) (s t:List UInt8) (w:World) (h:BldAt w b T (ρ.t 5) u s) (hlen:s.length+t.length≤140737488355328) :
  Calls P (ρ.f 166) #[.pointer (some ⟨b,0,none⟩),.string ⟨t.toArray⟩] w fun en w'=>∃ u',en=.returned (.tuple #[.int .i64 t.length,.nilIface])∧BldAt w' b T (ρ.t 5) u' (s++t)∧BldChg w w' b u u':=by
 obtain ⟨i0,hi,hz0,hz1,hz2⟩:=info_parts X.infoByte
 have hts:(ByteArray.mk t.toArray).size=t.length:=by simp [ByteArray.size]
 have mixed:=L.mixed
 have t72:=L.t72;have a72:=L.a72;have z72:=L.z72;have v72:=L.v72;have u72:=run_underlying L.t72
 have t70:=L.t70;have a70:=L.a70;have z70:=L.z70;have v70:=L.v70;have u70:=run_underlying L.t70
 have t37:=L.t37;have a37:=L.a37;have z37:=L.z37;have v37:=L.v37;have u37:=run_underlying L.t37
 have t3:=L.t3;have a3:=L.a3;have z3:=L.z3;have v3:=L.v3;have u3:=run_underlying L.t3
 have t9:=L.t9;have a9:=L.a9;have z9:=L.z9;have v9:=L.v9;have u9:=run_underlying L.t9
 have t4:=L.t4;have a4:=L.a4;have z4:=L.z4;have v4:=L.v4;have u4:=run_underlying L.t4
 have t164:=L.t164;have a164:=L.a164;have z164:=L.z164;have v164:=L.v164;have u164:=run_underlying L.t164
 have t5:=X.t5;have a5:=X.a5;have z5:=X.z5;have v5:=X.v5;have u5:=run_underlying X.t5
 have e240:∀ args w,(callFunc (ρ.f 240) args).run P w=.ok (.enter (ρ.f 240) args) w:=enters_of L.f240 (by kernel_rfl) rfl
 go_enter L.f166,Body.n166_ntmps ρ
 go_wp2_with (go_at_fn (ρ.f 240);refine (bld_check { L with } hT X.toX72 b _ h).mono ?_)
 rintro en w1 ⟨rfl,⟨hbk,hown,hne,hnil⟩,hch1⟩
 have c0:w1.cell? ⟨b,0,none⟩=some (.pointer (some ⟨b,0,none⟩)):=by rw [Lib.cell_of_heap hbk];rfl
 have c1:w1.cell? ⟨b,1,none⟩=some u:=by rw [Lib.cell_of_heap hbk];rfl
 go_wp2_with (at_builtin;refine wpList_append_str rfl _ _ (ρ.t 37) (ρ.t 9) rfl 0 (ρ.t 5) i0 L.t37 L.t9 hi hz0 hz1 hz2 _ _ _ rfl hown ⟨t.toArray⟩ rfl ?c3 ?c4 (Nat.zero_le _) ?_)
 case c3=>rw [hts];unfold maxLen;omega
 case c4=>rw [hts];omega
 intro v' w2 hown' hgrow hiff hlk how
 have hlt:b<w1.heap.size:=(aS.1 hbk).1
 have hb2:w2.heap[b]? = some (.cells #[.pointer (some ⟨b,0,none⟩),u] T (0,0)):=by
  rw [hgrow.block b hlt (fun e=>hne e.symm)]
  exact hbk
 have d0:w2.cell? ⟨b,0,none⟩=some (.pointer (some ⟨b,0,none⟩)):=by rw [Lib.cell_of_heap hb2];rfl
 have d1:w2.cell? ⟨b,1,none⟩=some u:=by rw [Lib.cell_of_heap hb2];rfl
 have f1:w2.frozen? ⟨b,1,none⟩=false:=Lib.frozen_of_heap hb2 1
 obtain ⟨ao,n',cap,rfl⟩:∃ ao n' cap,v'=.slice ao n' cap:=by
  rcases hown'.2 with ⟨hv,_⟩ | ⟨g,cap,cur,hv,_⟩
  ·exact ⟨_,_,_,hv⟩
  ·exact ⟨_,_,_,hv⟩
 go_wp2
 go_ret2
 have hneb:(Value.slice ao n' cap).ownBlock≠some b:=fun e=>by
  rcases how b e with h1 | h1
  ·exact hne h1
  ·omega
 have hcells:bytV s++Lib.strCells ⟨t.toArray⟩=bytV (s++t):=by simp [bytV,Lib.strCells]
 simp only [hts,hcells] at hown'
 refine ⟨.slice ao n' cap,by simp [ByteArray.size],⟨_,?_,.inr rfl,⟨by rw [lA];exact hown'.1,?_⟩,hneb,fun hst=>?_⟩,hch1.trans ?_⟩
 ·show (w2.heap.modify b _)[b]? = _
  rw [Array.getElem?_modify,if_pos rfl,hb2]
  rfl
 ·rw [lA]
  rcases hown'.2 with h | ⟨g,cap',cur,hv,hb,hg,hr⟩
  ·exact .inl h
  ·refine .inr ⟨g,cap',cur,hv,hb,?_,hr⟩
   have hbg:b≠g:=fun e=>hneb (by rw [hv,e];rfl)
   show (w2.heap.modify b _)[g]? = _
   rw [Array.getElem?_modify,if_neg hbg,hg]
 ·obtain ⟨rfl,rfl⟩:=List.append_eq_nil_iff.1 hst
  exact hiff.2 ⟨hnil rfl,by simp [ByteArray.size]⟩
 ·have q:BldChg w1 w2 b u (.slice ao n' cap):=⟨hgrow.os,hgrow.tape,hgrow.output,hgrow.size,hlk,fun k hk _ h2=>hgrow.block k hk (fun e=>h2 e.symm),how⟩
  exact q.trans (bldChg_set 1 _ fun _ h=>.inl h)
theorem BldChg.drew {w w':World} {b:Nat} {u:Value} (h:BldChg w w' b u (.slice none 0 0)):BldChg w w'.drew b u (.slice none 0 0) :=
 ⟨h.os,h.tape,h.output,h.size,h.lk.trans (LK.drew _),h.block,h.own⟩
set_option maxHeartbeats 1000000 in
set_option maxRecDepth 100000 in
theorem bld_str (L:Lays.n169 P ρ) (X:Builder.Extra P ρ) {T:TypeId} (b:Nat) (u:Value) (l:List UInt8) (w:World) (h:BldAt w b T (ρ.t 5) u l) :
  Calls P (ρ.f 169) #[.pointer (some ⟨b,0,none⟩)] w fun e w'=>e=.returned (.string ⟨l.toArray⟩)∧BldChg w w' b u (.slice none 0 0):=by
 obtain ⟨p,hbk,_,hown,hne,hnil⟩:=h
 have mixed:=L.mixed
 have t72:=L.t72;have a72:=L.a72;have z72:=L.z72;have v72:=L.v72;have u72:=run_underlying L.t72
 have t70:=L.t70;have a70:=L.a70;have z70:=L.z70;have v70:=L.v70;have u70:=run_underlying L.t70
 have t37:=L.t37;have a37:=L.a37;have z37:=L.z37;have v37:=L.v37;have u37:=run_underlying L.t37
 have t127:=L.t127;have a127:=L.a127;have z127:=L.z127;have v127:=L.v127;have u127:=run_underlying L.t127
 have t3:=L.t3;have a3:=L.a3;have z3:=L.z3;have v3:=L.v3;have u3:=run_underlying L.t3
 have t9:=L.t9;have a9:=L.a9;have z9:=L.z9;have v9:=L.v9;have u9:=run_underlying L.t9
 have t5:=X.t5;have a5:=X.a5;have z5:=X.z5;have v5:=X.v5;have u5:=run_underlying X.t5
 have q0:BldChg w w b u (.slice none 0 0):=⟨rfl,rfl,rfl,nR _,LK.refl _,fun _ _ _ _=>rfl,fun _ h=>by cases h⟩
 by_cases h0:l=[]
 ·have hu:=hnil h0
  subst hu
  subst h0
  have c1:w.drew.cell? ⟨b,1,none⟩=some (.slice none 0 0):=by
   have:w.drew.heap[b]? = some (.cells #[p,.slice none 0 0] T (0,0)):=hbk
   rw [Lib.cell_of_heap this];rfl
  have hSD:(Builtin.unsafeSliceData_ #[(ρ.t 37)] (ρ.t 127) #[.slice none 0 0]).run P w.drew=.ok (.pointer none) w.drew:=rfl
  have hUS:=Any.unsafeString_none L X
  go_enter L.f169,Body.n169_ntmps ρ
  go_wp2
  go_region_o
  all_goals (go_wp2;go_ret;exact ⟨rfl,q0.drew⟩)
 ·have hl0:l.length≠0:=by simpa using h0
  obtain ⟨g,cap,cur,rfl,hbg,hg,hnc,hcm,hcs,htake⟩:∃ g cap cur,u=.slice (some ⟨g,0,none⟩) l.length cap∧0≤g∧w.heap[g]? = some (.cells cur (ρ.t 5) (0,0))∧l.length≤cap∧cap≤maxLen∧cur.size=cap*1∧cur.toList.take (l.length*1)=bytV l:=by
   rcases hown.2 with ⟨_,hz⟩ | ⟨g,cap,cur,hv,r⟩
   ·exact absurd hz hl0
   ·exact ⟨g,cap,cur,hv,r⟩
  have c1:w.drew.cell? ⟨b,1,none⟩=some (.slice (some ⟨g,0,none⟩) l.length cap):=by
   have:w.drew.heap[b]? = some (.cells #[p,.slice (some ⟨g,0,none⟩) l.length cap] T (0,0)):=hbk
   rw [Lib.cell_of_heap this];rfl
  have hSD:(Builtin.unsafeSliceData_ #[(ρ.t 37)] (ρ.t 127) #[.slice (some ⟨g,0,none⟩) l.length cap]).run P w.drew=.ok (.pointer (some ⟨g,0,none⟩)) w.drew :=
   Lib.run_unsafeSliceData_row _ _ _ _ _ _ (by omega)
  have hUS:(Builtin.unsafeString_ #[(ρ.t 127),(ρ.t 3)] (ρ.t 9) #[.pointer (some ⟨g,0,none⟩),.int .i64 l.length]).run P w.drew=.ok (.string ⟨l.toArray⟩) (w.drew.freeze ⟨g,0,none⟩ l.length):=by
   refine Lib.run_unsafeString_row w.drew (ρ.t 127) (ρ.t 3) (ρ.t 9) (ρ.t 5) L.t127 X.cellsByte g cur.size (by have hg':w.drew.heap[g]? = some (.cells cur (ρ.t 5) (0,0)):=hg;simp [World.shape?,hg']) l h0 (by omega) (by unfold maxLen at hcm;omega) ?_
   intro j x hx
   have:=hown.cells (g:=g) rfl j (.int .u8 x.toNat) (by simp [bytV,hx])
   exact this
  have q1:BldChg w (w.drew.freeze ⟨g,0,none⟩ l.length) b (.slice (some ⟨g,0,none⟩) l.length cap) (.slice none 0 0):=by
   have hfr:∀ k,k≠g→(w.drew.freeze ⟨g,0,none⟩ l.length).heap[k]? = w.heap[k]? := fun k hk=>by
    unfold World.freeze
    rw [if_neg hl0]
    show (w.drew.heap.modify g _)[k]? = _
    rw [Array.getElem?_modify,if_neg (Ne.symm hk)]
    rfl
   obtain ⟨e1,e2,e3,e4,e5⟩:=freeze_same w.drew ⟨g,0,none⟩ l.length
   refine ⟨e1,e2,e3,Nat.le_of_eq e4.symm,.of (by rw [e5];exact Nat.le_succ _) fun k o hk hne=>?_,fun k hk _ h2=>hfr k fun e=>h2 (by rw [e];rfl),fun _ h=>by cases h⟩
   by_cases hkg:k=g
   ·subst hkg
    rw [hg] at hk
    cases hk
    exact absurd rfl (hne _ _ _)
   ·rw [hfr k hkg];exact hk
  go_enter L.f169,Body.n169_ntmps ρ
  go_wp2
  go_region_o
  all_goals (go_wp2;go_ret;exact ⟨rfl,q1⟩)
theorem ext_wstr (L:Lays.n166 P ρ) (X:Builder.Extra P ρ) {f TB e:Nat} (hf:ρ.f 166=f) (hT:ρ.t 72=TB) (he:ρ.t 5=e) (en:∀ (args:Array Value) (w:World),(callFunc f args).run P w=.ok (.enter f args) w):ExtOK P f (.wstr TB e):=by
 subst hf hT he
 exact ⟨en,fun T hT b u s t w h hl=>bld_write L X hT b u s t w h hl⟩
theorem ext_stri (L:Lays.n169 P ρ) (X:Builder.Extra P ρ) {f TB e:Nat} (hf:ρ.f 169=f) (hT:ρ.t 72=TB) (he:ρ.t 5=e) (en:∀ (args:Array Value) (w:World),(callFunc f args).run P w=.ok (.enter f args) w):ExtOK P f (.stri TB e):=by
 subst hf hT he
 exact ⟨en,fun T hT b u s w h=>bld_str L X b u s w h⟩
end
section
variable {P:Program} {ρ:Ren} {S:Cells} {w w':World} {η:Eta}
theorem keep_below (hin:InW S w) (h:Below w.heap.size w w'):Keep S w S w':=⟨fun _ _ h=>h,fun b o hb=>h.cell (p:=⟨b,o,none⟩) (hin.lt b o hb)⟩
theorem grow_below (hin:InW S w) (h:Below w.heap.size w w') (hl:LK w w'):Grow w.heap.size S w S w':=⟨h,keep_below hin h,fun b o hb=>Nat.lt_of_lt_of_le (hin.lt b o hb) h.size,fun _ _ h=>.inl h,hl⟩
theorem rv_str {x:List UInt8} {v:Value} (h:RM S w η (Ty.str.rv x) v):v=.string ⟨x.toArray⟩∧x.length≤maxLen:=(PM.str (S:=S) (w:=w) (η:=η)).1 h
theorem pm_str {x:List UInt8} (h:x.length≤maxLen):PM S w η (resPV (rvs [.str] x)) (.string ⟨x.toArray⟩):=(PM.str (S:=S) (w:=w) (η:=η)).2 ⟨rfl,h⟩
theorem dropWhile_length {α:Type} (p:α→Bool):∀ l:List α,(l.dropWhile p).length≤l.length
 | []=>nR _
 | x::l=>by
  unfold List.dropWhile
  split
  ·exact Nat.le_trans (dropWhile_length p l) (Nat.le_succ _)
  ·exact nR _
theorem trimS_length (s c:List UInt8):(Lib.trimS s c).length≤s.length:=by
 unfold Lib.trimS Lib.trimLeftS Lib.trimRightS
 refine Nat.le_trans (dropWhile_length _ _) ?_
 rw [List.length_reverse]
 refine Nat.le_trans (dropWhile_length _ _) ?_
 rw [List.length_reverse]
 exact nR _
theorem spec_trim (hd:drawsB=false) (L:Lays.n160 P ρ) (h116:(P.info? (ρ.t 116)).map (fun i=>(i.zero,i.size))=some (some (.agg (Array.replicate 256 (.bool false))),256)) {f:Nat} (hf:ρ.f 160=f):SpecOK P f ⟨[.str,.str],[.str],fun x=>trimM x.1 x.2⟩:=by
 subst hf
 intro x r hr S w η vs hi hv
 have hr:trimM x.1 x.2=some r:=hr
 unfold trimM at hr
 split at hr
 ·rename_i c1 c2
  have c2:=oD c2
  have hr:=Option.some.inj hr
  cases hv with
  | cons h1 h2 =>
   cases h2 with
   | cons h2 h3 =>
    cases h3
    obtain ⟨rfl,l1⟩:=rv_str h1
    obtain ⟨rfl,l2⟩:=rv_str h2
    refine (Any.strings_Trim_laid L h116 ⟨x.1.toArray⟩ ⟨x.2.toArray⟩ w (by simpa [ByteArray.size,maxLen] using l1) (by simpa [ByteArray.size] using c2) (ascii_of_all (by simpa using c1))).mono fun en w' ⟨he,hw⟩=>?_
    refine ⟨_,S,he,grow_below hi hw (.below hd hw.block),?_⟩
    rw [← hr]
    exact pm_str (Nat.le_trans (trimS_length _ _) l1)
 ·cases hr
end
def joinM (xs:List (List UInt8)) (sep:List UInt8):Option (List UInt8):=match decide ((Lib.join xs sep).length≤140737488355328),decide (xs.length≤140737488355328) with
 | true,true=>some (Lib.join xs sep)
 | _,_=>none
section
variable {P:Program} {ρ:Ren}
theorem spec_join (hd:drawsB=false) (L:Lays.n156 P ρ) (X:Builder.Extra P ρ) {f:Nat} (hf:ρ.f 156=f):SpecOK P f ⟨[.list .str,.str],[.str],fun x=>joinM x.1 x.2⟩:=by
 subst hf
 intro x r hr S w η vs hi hv
 have hr:joinM x.1 x.2=some r:=hr
 obtain ⟨xs,sep⟩:=x
 have hr:joinM xs sep=some r:=hr
 unfold joinM at hr
 split at hr
 ·rename_i c1 c2
  have c1:=oD c1
  have c2:=oD c2
  have hr:=Option.some.inj hr
  cases hv with
  | cons h1 h2 =>
   cases h2 with
   | cons h2 h3 =>
    cases h3
    obtain ⟨rfl,l2⟩:=rv_str h2
    have h1':CM S w η (.d (.list .str) xs) _:=h1
    obtain ⟨base,cap,rfl,b1,b2,b3⟩:=VRep.slice h1'.2
    have hmap:(xs.map fun x=>(⟨x.toArray⟩:ByteArray)).map (·.data.toList)=xs:=by rw [List.map_map];exact (List.map_congr_left fun x _=>rfl).trans (List.map_id _)
    have fin:Calls P (ρ.f 156) #[.slice base xs.length cap,.string ⟨sep.toArray⟩] w fun e w'=>e=.returned (.string ⟨(Lib.join xs sep).toArray⟩)∧Below w.heap.size w w':=by
     rcases b3 with b3 | ⟨b,off,rfl,b3⟩
     ·have:xs=[]:=lN b3
      subst this
      exact (Any.strings_Join_none L X base cap ⟨sep.toArray⟩ w).mono fun e w' ⟨he,hw⟩=>⟨he,hw▸Below.refl _ _⟩
     ·by_cases h0:xs.length=0
      ·have:xs=[]:=lN h0
       subst this
       exact (Any.strings_Join_none L X _ cap ⟨sep.toArray⟩ w).mono fun e w' ⟨he,hw⟩=>⟨he,hw▸Below.refl _ _⟩
      have hcell:∀ i (x:List UInt8),xs[i]? = some x→S b (off+i)∧w.cell? ⟨b,off+i,none⟩=some (.string ⟨x.toArray⟩):=fun i x hx=>by
       obtain ⟨es,⟨rfl,_⟩,h5⟩:=b3 i x hx
       have:=h5 0 _ rfl
       rwa [show off+i*Ty.str.size+0=off+i by show off+i*1+0=_;omega] at this
      have hb:b<w.heap.size:=hi.lt b (off+0) (hcell 0 _ (gE (by omega))).1
      have:=Any.strings_Join L X b off cap (xs.map fun x=>(⟨x.toArray⟩:ByteArray)) ⟨sep.toArray⟩ w (fun j x hx=>by
       rw [List.getElem?_map] at hx
       cases hy:xs[j]? with
       | none=>rw [hy] at hx;cases hx
       | some y=>rw [hy] at hx;cases hx;exact (hcell j y hy).2) hb (by simpa using c2) (by simpa using b1) (by rw [hmap];simpa using c1)
      rw [hmap,List.length_map] at this
      simpa using this
    refine fin.mono fun en w' ⟨he,hw⟩=>?_
    refine ⟨_,S,he,grow_below hi hw (.below hd hw.block),?_⟩
    rw [← hr]
    refine pm_str ?_
    unfold maxLen
    omega
 ·cases hr
end
end Go.PE
namespace Go.Proofs.YtobfnefajpiakaaGreatDoor
open Go Go.Abs Go.PE Go.Proofs
open Go.RowKit Go.Extern.Stop Go.Stop Go.Extern
set_option maxRecDepth 100000
theorem isTypeOf (v:Value) (w:World):(Extern.ReflectliteType.typeOf #[.iface 222 v]).run Tryz.prog w=.ok (.iface 171 (.agg #[.pointer (some ⟨5,222,none⟩)])) w:=by kernel_rfl
theorem isComparable (w:World):((Extern.ReflectliteType.method fun t=>do Extern.Rtype.noPackHeld "Comparable" t;(fun a=>Value.bool a.comparable) <$> typeInfo t) #[.agg #[.pointer (some ⟨5,222,none⟩)]]).run Tryz.prog w=.ok (.bool true) w:=by kernel_rfl
theorem isMethodComparable (v:Value) (w:World):(Go.method 355 171 v "Comparable").run Tryz.prog w=.ok (171,v) w:=by kernel_rfl
theorem isComp:(Tryz.prog.info? 222).map (·.comparable)=some true:=by kernel_rfl
theorem isSize:(Tryz.prog.info? 244).map (·.size)=some 1:=by kernel_rfl
theorem isE_same (a:Addr) (w:World) :
  Calls Tryz.prog 77 #[.iface 222 (.pointer (some a)),.iface 222 (.pointer (some a))] w fun e w'=>e=.returned (.bool true)∧w'=w:=by
 obtain ⟨i,hi,hcmp⟩:=Option.map_eq_some_iff.1 isComp
 obtain ⟨j,hj,hjs⟩:=Option.map_eq_some_iff.1 isSize
 have h8:=@run_callFunc_extern Tryz.prog 98 _ Extern.ReflectliteType.typeOf Tryz.func98 (by kernel_rfl) (by kernel_rfl) (by kernel_rfl) (by kernel_rfl)
 have h32:=@run_callFunc_extern Tryz.prog 171 _ (Extern.ReflectliteType.method fun t=>do Extern.Rtype.noPackHeld "Comparable" t;pure (.bool (← typeInfo t).comparable)) Tryz.func171 (by kernel_rfl) (by kernel_rfl) (by kernel_rfl) (by kernel_rfl)
 have tT:=isTypeOf
 have cT:=isComparable
 have mR:=isMethodComparable
 have heq:=run_eql_iface_ptr_same (P:=Tryz.prog) w a Tryz.underlying80 Tryz.underlying222 hi hcmp hj
 go_enter Tryz.func77,Tryz.ntmps77
 go_wp2
 refine wp_loop_rounds 1 ?_
 rw [rounds_succ]
 go_wp2
 go_ret
 exact ⟨rfl,rfl⟩
theorem isE_as (v:Value) (xT:TypeId) (w:World):(Instr.typeAssert (.iface 222 v) xT 80 true).run Tryz.prog w=.ok (.tuple #[.iface 222 v,.bool true]) w:=run_typeAssert_hasB Tryz.underlying80 (by kernel_rfl) v xT w
theorem isE_nil (xT:TypeId) (w:World):(Instr.typeAssert .nilIface xT 80 true).run Tryz.prog w=.ok (.tuple #[.nilIface,.bool false]) w:=by kernel_rfl
theorem isE_ok [DB] [EA]:ExtOK Tryz.prog 77 (.isE 222 80):=⟨Tryz.call77,isE_same,fun v xT w=>isE_as v xT w,fun xT w=>isE_nil xT w⟩
end Go.Proofs.YtobfnefajpiakaaGreatDoor
namespace Go.Proofs
open Go.Shelf
def Tryz.lays190_ren:Go.Shelf.Ren:=⟨fun | 189=>90 | 125=>108 | 257=>107 | 128=>126 | 129=>127 | 294=>117 | 295=>118 | 296=>119 | 297=>120 | 298=>121 | 299=>122 | 216=>123 | 300=>124 | 301=>125 | 328=>137 | 329=>138 | 330=>139 | 331=>140 | 332=>141 | 215=>142 | 343=>148 | n=>n,fun | 28=>56 | 3=>3 | 46=>113 | 0=>0 | 51=>109 | 53=>141 | 4=>4 | 183=>184 | 182=>183 | 131=>188 | 5=>5 | 9=>9 | 218=>206 | 222=>210 | 228=>218 | 229=>219 | n=>n,fun | n=>n⟩
theorem Tryz.lays190:Go.Proofs.Lays.n189 Tryz.prog Tryz.lays190_ren:={
 mixed:=by kernel_rfl
 f125:=Tryz.func108.trans (congrArg some (by kernel_rfl))
 f128:=Tryz.func126.trans (congrArg some (by kernel_rfl))
 f129:=Tryz.func127.trans (congrArg some (by kernel_rfl))
 f189:=Tryz.func90.trans (congrArg some (by kernel_rfl))
 f215:=Tryz.func142.trans (congrArg some (by kernel_rfl))
 f216:=Tryz.func123.trans (congrArg some (by kernel_rfl))
 f257:=Tryz.func107.trans (congrArg some (by kernel_rfl))
 f294:=Tryz.func117.trans (congrArg some (by kernel_rfl))
 f295:=Tryz.func118.trans (congrArg some (by kernel_rfl))
 f296:=Tryz.func119.trans (congrArg some (by kernel_rfl))
 f297:=Tryz.func120.trans (congrArg some (by kernel_rfl))
 f298:=Tryz.func121.trans (congrArg some (by kernel_rfl))
 f299:=Tryz.func122.trans (congrArg some (by kernel_rfl))
 f300:=Tryz.func124.trans (congrArg some (by kernel_rfl))
 f301:=Tryz.func125.trans (congrArg some (by kernel_rfl))
 f328:=Tryz.func137.trans (congrArg some (by kernel_rfl))
 f329:=Tryz.func138.trans (congrArg some (by kernel_rfl))
 f330:=Tryz.func139.trans (congrArg some (by kernel_rfl))
 f331:=Tryz.func140.trans (congrArg some (by kernel_rfl))
 f332:=Tryz.func141.trans (congrArg some (by kernel_rfl))
 f343:=Tryz.func148.trans (congrArg some (by kernel_rfl))
 t0:=Tryz.underlying0
 a0:=Tryz.isAgg0
 z0:=Tryz.sizeOf0
 v0:=Tryz.zeroValue0
 t3:=Tryz.underlying3
 a3:=Tryz.isAgg3
 z3:=Tryz.sizeOf3
 v3:=Tryz.zeroValue3
 t4:=Tryz.underlying4
 a4:=Tryz.isAgg4
 z4:=Tryz.sizeOf4
 v4:=Tryz.zeroValue4
 t5:=Tryz.underlying5
 a5:=Tryz.isAgg5
 z5:=Tryz.sizeOf5
 v5:=Tryz.zeroValue5
 t9:=Tryz.underlying9
 a9:=Tryz.isAgg9
 z9:=Tryz.sizeOf9
 v9:=Tryz.zeroValue9
 t28:=Tryz.underlying56
 a28:=Tryz.isAgg56
 z28:=Tryz.sizeOf56
 v28:=Tryz.zeroValue56
 t46:=Tryz.underlying113
 a46:=Tryz.isAgg113
 z46:=Tryz.sizeOf113
 v46:=Tryz.zeroValue113
 t51:=Tryz.underlying109
 a51:=Tryz.isAgg109
 z51:=Tryz.sizeOf109
 v51:=Tryz.zeroValue109
 t53:=Tryz.underlying141
 a53:=Tryz.isAgg141
 z53:=Tryz.sizeOf141
 v53:=Tryz.zeroValue141
 t131:=Tryz.underlying188
 a131:=Tryz.isAgg188
 z131:=Tryz.sizeOf188
 v131:=Tryz.zeroValue188
 t182:=Tryz.underlying183
 a182:=Tryz.isAgg183
 z182:=Tryz.sizeOf183
 v182:=Tryz.zeroValue183
 t183:=Tryz.underlying184
 a183:=Tryz.isAgg184
 z183:=Tryz.sizeOf184
 v183:=Tryz.zeroValue184
 t218:=Tryz.underlying206
 a218:=Tryz.isAgg206
 z218:=Tryz.sizeOf206
 v218:=Tryz.zeroValue206
 t222:=Tryz.underlying210
 a222:=Tryz.isAgg210
 z222:=Tryz.sizeOf210
 v222:=Tryz.zeroValue210
 t228:=Tryz.underlying218
 a228:=Tryz.isAgg218
 z228:=Tryz.sizeOf218
 v228:=Tryz.zeroValue218
 t229:=Tryz.underlying219
 a229:=Tryz.isAgg219
 z229:=Tryz.sizeOf219
 v229:=Tryz.zeroValue219 }
def Tryz.lays160_ren:Go.Shelf.Ren:=⟨fun | 20=>60 | n=>n,fun | 22=>56 | 3=>3 | 4=>4 | 0=>0 | n=>n,fun | n=>n⟩
theorem Tryz.lays160:Go.Proofs.Lays2.n20 Tryz.prog Tryz.lays160_ren:={
 mixed:=by kernel_rfl
 f20:=Tryz.func60.trans (congrArg some (by kernel_rfl))
 t0:=Tryz.underlying0
 a0:=Tryz.isAgg0
 z0:=Tryz.sizeOf0
 v0:=Tryz.zeroValue0
 t3:=Tryz.underlying3
 a3:=Tryz.isAgg3
 z3:=Tryz.sizeOf3
 v3:=Tryz.zeroValue3
 t4:=Tryz.underlying4
 a4:=Tryz.isAgg4
 z4:=Tryz.sizeOf4
 v4:=Tryz.zeroValue4
 t22:=Tryz.underlying56
 a22:=Tryz.isAgg56
 z22:=Tryz.sizeOf56
 v22:=Tryz.zeroValue56
 i3:=by kernel_rfl }
def Tryz.lays155_ren:Go.Shelf.Ren:=⟨fun | 160=>55 | 232=>80 | 231=>79 | 227=>81 | 234=>83 | 233=>82 | 236=>85 | 235=>84 | 228=>102 | 271=>105 | 151=>104 | 197=>103 | 120=>116 | 152=>115 | 260=>114 | 137=>133 | 119=>134 | 224=>135 | 225=>136 | 217=>147 | 266=>151 | n=>n,fun | 9=>9 | 4=>4 | 3=>3 | 5=>5 | 117=>137 | 116=>136 | 0=>0 | 124=>140 | 21=>21 | 105=>160 | 46=>113 | 119=>199 | 139=>202 | 138=>201 | n=>n,fun | 3=>1 | 4=>2 | n=>n⟩
theorem Tryz.lays155:Go.Proofs.Lays.n160 Tryz.prog Tryz.lays155_ren:={
 mixed:=by kernel_rfl
 f119:=Tryz.func134.trans (congrArg some (by kernel_rfl))
 f120:=Tryz.func116.trans (congrArg some (by kernel_rfl))
 f137:=Tryz.func133.trans (congrArg some (by kernel_rfl))
 f151:=Tryz.func104.trans (congrArg some (by kernel_rfl))
 f152:=Tryz.func115.trans (congrArg some (by kernel_rfl))
 f160:=Tryz.func55.trans (congrArg some (by kernel_rfl))
 f197:=Tryz.func103.trans (congrArg some (by kernel_rfl))
 f217:=Tryz.func147.trans (congrArg some (by kernel_rfl))
 f224:=Tryz.func135.trans (congrArg some (by kernel_rfl))
 f225:=Tryz.func136.trans (congrArg some (by kernel_rfl))
 f227:=Tryz.func81.trans (congrArg some (by kernel_rfl))
 f228:=Tryz.func102.trans (congrArg some (by kernel_rfl))
 f231:=Tryz.func79.trans (congrArg some (by kernel_rfl))
 f232:=Tryz.func80.trans (congrArg some (by kernel_rfl))
 f233:=Tryz.func82.trans (congrArg some (by kernel_rfl))
 f234:=Tryz.func83.trans (congrArg some (by kernel_rfl))
 f235:=Tryz.func84.trans (congrArg some (by kernel_rfl))
 f236:=Tryz.func85.trans (congrArg some (by kernel_rfl))
 f260:=Tryz.func114.trans (congrArg some (by kernel_rfl))
 f266:=Tryz.func151.trans (congrArg some (by kernel_rfl))
 f271:=Tryz.func105.trans (congrArg some (by kernel_rfl))
 t0:=Tryz.underlying0
 a0:=Tryz.isAgg0
 z0:=Tryz.sizeOf0
 v0:=Tryz.zeroValue0
 t3:=Tryz.underlying3
 a3:=Tryz.isAgg3
 z3:=Tryz.sizeOf3
 v3:=Tryz.zeroValue3
 t4:=Tryz.underlying4
 a4:=Tryz.isAgg4
 z4:=Tryz.sizeOf4
 v4:=Tryz.zeroValue4
 t5:=Tryz.underlying5
 a5:=Tryz.isAgg5
 z5:=Tryz.sizeOf5
 v5:=Tryz.zeroValue5
 t9:=Tryz.underlying9
 a9:=Tryz.isAgg9
 z9:=Tryz.sizeOf9
 v9:=Tryz.zeroValue9
 t21:=Tryz.underlying21
 a21:=Tryz.isAgg21
 z21:=Tryz.sizeOf21
 v21:=Tryz.zeroValue21
 t46:=Tryz.underlying113
 a46:=Tryz.isAgg113
 z46:=Tryz.sizeOf113
 v46:=Tryz.zeroValue113
 t105:=Tryz.underlying160
 a105:=Tryz.isAgg160
 z105:=Tryz.sizeOf160
 v105:=Tryz.zeroValue160
 t116:=Tryz.underlying136
 a116:=Tryz.isAgg136
 z116:=Tryz.sizeOf136
 t117:=Tryz.underlying137
 a117:=Tryz.isAgg137
 z117:=Tryz.sizeOf137
 v117:=Tryz.zeroValue137
 t119:=Tryz.underlying199
 a119:=Tryz.isAgg199
 z119:=Tryz.sizeOf199
 t124:=Tryz.underlying140
 a124:=Tryz.isAgg140
 z124:=Tryz.sizeOf140
 v124:=Tryz.zeroValue140
 t138:=Tryz.underlying201
 a138:=Tryz.isAgg201
 z138:=Tryz.sizeOf201
 v138:=Tryz.zeroValue201
 t139:=Tryz.underlying202
 a139:=Tryz.isAgg202
 z139:=Tryz.sizeOf202
 v139:=Tryz.zeroValue202
 g3:=by kernel_rfl
 g4:=by kernel_rfl }
def Tryz.lays139_ren:Go.Shelf.Ren:=⟨fun | 169=>39 | n=>n,fun | 70=>76 | 9=>9 | 0=>0 | 72=>78 | 37=>39 | 127=>126 | 3=>3 | 5=>5 | n=>n,fun | n=>n⟩
theorem Tryz.lays139:Go.Proofs.Lays.n169 Tryz.prog Tryz.lays139_ren:={
 mixed:=by kernel_rfl
 f169:=Tryz.func39.trans (congrArg some (by kernel_rfl))
 t0:=Tryz.underlying0
 a0:=Tryz.isAgg0
 z0:=Tryz.sizeOf0
 v0:=Tryz.zeroValue0
 t3:=Tryz.underlying3
 a3:=Tryz.isAgg3
 z3:=Tryz.sizeOf3
 v3:=Tryz.zeroValue3
 t9:=Tryz.underlying9
 a9:=Tryz.isAgg9
 z9:=Tryz.sizeOf9
 v9:=Tryz.zeroValue9
 t37:=Tryz.underlying39
 a37:=Tryz.isAgg39
 z37:=Tryz.sizeOf39
 v37:=Tryz.zeroValue39
 t70:=Tryz.underlying76
 a70:=Tryz.isAgg76
 z70:=Tryz.sizeOf76
 v70:=Tryz.zeroValue76
 t72:=Tryz.underlying78
 a72:=Tryz.isAgg78
 z72:=Tryz.sizeOf78
 v72:=Tryz.zeroValue78
 t127:=Tryz.underlying126
 a127:=Tryz.isAgg126
 z127:=Tryz.sizeOf126
 v127:=Tryz.zeroValue126 }
def Tryz.lays1111_ren:Go.Shelf.Ren:=⟨fun | 156=>111 | 165=>131 | 166=>37 | 169=>39 | 240=>69 | 241=>146 | 276=>94 | 277=>150 | n=>n,fun | 31=>22 | 9=>9 | 3=>3 | 4=>4 | 0=>0 | 20=>20 | 72=>78 | 76=>81 | 70=>76 | 37=>39 | 75=>80 | 127=>126 | 164=>148 | 5=>5 | 80=>83 | n=>n,fun | n=>n⟩
theorem Tryz.lays1111:Go.Proofs.Lays.n156 Tryz.prog Tryz.lays1111_ren:={
 mixed:=by kernel_rfl
 f156:=Tryz.func111.trans (congrArg some (by kernel_rfl))
 f165:=Tryz.func131.trans (congrArg some (by kernel_rfl))
 f166:=Tryz.func37.trans (congrArg some (by kernel_rfl))
 f169:=Tryz.func39.trans (congrArg some (by kernel_rfl))
 f240:=Tryz.func69.trans (congrArg some (by kernel_rfl))
 f241:=Tryz.func146.trans (congrArg some (by kernel_rfl))
 f276:=Tryz.func94.trans (congrArg some (by kernel_rfl))
 f277:=Tryz.func150.trans (congrArg some (by kernel_rfl))
 t0:=Tryz.underlying0
 a0:=Tryz.isAgg0
 z0:=Tryz.sizeOf0
 v0:=Tryz.zeroValue0
 t3:=Tryz.underlying3
 a3:=Tryz.isAgg3
 z3:=Tryz.sizeOf3
 v3:=Tryz.zeroValue3
 t4:=Tryz.underlying4
 a4:=Tryz.isAgg4
 z4:=Tryz.sizeOf4
 v4:=Tryz.zeroValue4
 t9:=Tryz.underlying9
 a9:=Tryz.isAgg9
 z9:=Tryz.sizeOf9
 v9:=Tryz.zeroValue9
 t20:=Tryz.underlying20
 a20:=Tryz.isAgg20
 z20:=Tryz.sizeOf20
 v20:=Tryz.zeroValue20
 t31:=Tryz.underlying22
 a31:=Tryz.isAgg22
 z31:=Tryz.sizeOf22
 v31:=Tryz.zeroValue22
 t37:=Tryz.underlying39
 a37:=Tryz.isAgg39
 z37:=Tryz.sizeOf39
 v37:=Tryz.zeroValue39
 t70:=Tryz.underlying76
 a70:=Tryz.isAgg76
 z70:=Tryz.sizeOf76
 v70:=Tryz.zeroValue76
 t72:=Tryz.underlying78
 a72:=Tryz.isAgg78
 z72:=Tryz.sizeOf78
 v72:=Tryz.zeroValue78
 t75:=Tryz.underlying80
 a75:=Tryz.isAgg80
 z75:=Tryz.sizeOf80
 v75:=Tryz.zeroValue80
 t76:=Tryz.underlying81
 a76:=Tryz.isAgg81
 z76:=Tryz.sizeOf81
 v76:=Tryz.zeroValue81
 t127:=Tryz.underlying126
 a127:=Tryz.isAgg126
 z127:=Tryz.sizeOf126
 v127:=Tryz.zeroValue126
 t164:=Tryz.underlying148
 a164:=Tryz.isAgg148
 z164:=Tryz.sizeOf148
 v164:=Tryz.zeroValue148 }
end Go.Proofs
namespace Go.Proofs.YtobfnefajpiakaaGreatDoor
open Go Go.Abs Go.PE Go.Proofs
variable [EA]
section
variable [db:DB]
theorem so1_90:So1OK Tryz.prog ⟨90,.int .i64,false,sortI⟩:=so1_sort Tryz.lays190 rfl Tryz.call90
theorem so1_60:So1OK Tryz.prog ⟨60,.int .i64,true,compI⟩:=so1_comp Tryz.lays160 rfl Tryz.call60
theorem ex_77:ExtOK Tryz.prog 77 (.isE 222 80):=isE_ok
theorem sp_55:SpecOK (db:=dbG) Tryz.prog 55 ⟨[.str,.str],[.str],fun x=>trimM x.1 x.2⟩:=spec_trim (db:=dbG) rfl Tryz.lays155 (by kernel_rfl) rfl
theorem ex_37:ExtOK Tryz.prog 37 (.wstr 78 5):=ext_wstr { Tryz.lays1111 with } ⟨⟨by kernel_rfl,by kernel_rfl⟩,by kernel_rfl,Tryz.isAgg5,Tryz.sizeOf5,Tryz.zeroValue5,by kernel_rfl,by kernel_rfl,by kernel_rfl,by decide⟩ rfl rfl rfl Tryz.call37
theorem ex_39:ExtOK Tryz.prog 39 (.stri 78 5):=ext_stri Tryz.lays139 ⟨⟨by kernel_rfl,by kernel_rfl⟩,by kernel_rfl,Tryz.isAgg5,Tryz.sizeOf5,Tryz.zeroValue5,by kernel_rfl,by kernel_rfl,by kernel_rfl,by decide⟩ rfl rfl rfl Tryz.call39
theorem sp_111:SpecOK (db:=dbG) Tryz.prog 111 ⟨[.list .str,.str],[.str],fun x=>joinM x.1 x.2⟩:=spec_join (db:=dbG) rfl Tryz.lays1111 ⟨⟨by kernel_rfl,by kernel_rfl⟩,by kernel_rfl,Tryz.isAgg5,Tryz.sizeOf5,Tryz.zeroValue5,by kernel_rfl,by kernel_rfl,by kernel_rfl,by decide⟩ rfl
noncomputable def tabsT:Tabs:={ tabs0 with ex:=[(77,.isE 222 80),(37,.wstr 78 5),(39,.stri 78 5)] }
theorem tabsTOK:TabOK Tryz.prog tabsT:=⟨tabs0OK.ty,tabs0OK.fn,tabs0OK.sp,tabs0OK.en,tabs0OK.mixed,tabs0OK.so,tabs0OK.eqs,tabs0OK.so1,tabs0OK.mps,tabs0OK.ow,tabs0OK.bt,(by
 show ∀ f s,lk ([(77,.isE 222 80),(37,.wstr 78 5),(39,.stri 78 5)]:List (FuncId×Go.PE.Ext)) f=some s→ExtOK Tryz.prog f s
 refine lk_all (p:=fun f s=>ExtOK Tryz.prog f s) ex_77 ?_
 refine lk_all (p:=fun f s=>ExtOK Tryz.prog f s) ex_37 ?_
 refine lk_all (p:=fun f s=>ExtOK Tryz.prog f s) ex_39 ?_
 exact lk_none),tabs0OK.pp⟩
end
instance dbJ:DB:=dbG
noncomputable def tabs:Tabs:={ tabs0 with so1:=[⟨90,.int .i64,false,sortI⟩,⟨60,.int .i64,true,compI⟩],sp:=[(55,⟨[.str,.str],[.str],fun x=>trimM x.1 x.2⟩),(111,⟨[.list .str,.str],[.str],fun x=>joinM x.1 x.2⟩)],ex:=[(77,.isE 222 80),(37,.wstr 78 5),(39,.stri 78 5)] }
theorem tabsOK:TabOK Tryz.prog tabs:=⟨tabs0OK.ty,tabs0OK.fn,(by
 show ∀ f s,lk ([(55,⟨[.str,.str],[.str],fun x=>trimM x.1 x.2⟩),(111,⟨[.list .str,.str],[.str],fun x=>joinM x.1 x.2⟩)]:List (FuncId×Go.PE.Spec)) f=some s→SpecOK Tryz.prog f s
 refine lk_all (p:=fun f s=>SpecOK Tryz.prog f s) sp_55 ?_
 refine lk_all (p:=fun f s=>SpecOK Tryz.prog f s) sp_111 ?_
 exact lk_none),(by
 show ∀ f s,lk ([(55,⟨[.str,.str],[.str],fun x=>trimM x.1 x.2⟩),(111,⟨[.list .str,.str],[.str],fun x=>joinM x.1 x.2⟩)]:List (FuncId×Go.PE.Spec)) f=some s→∀ (args:Array Value) (w:World),(callFunc f args).run Tryz.prog w=.ok (.enter f args) w
 refine lk_all (p:=fun f s=>∀ (args:Array Value) (w:World),(callFunc f args).run Tryz.prog w=.ok (.enter f args) w) Tryz.call55 ?_
 refine lk_all (p:=fun f s=>∀ (args:Array Value) (w:World),(callFunc f args).run Tryz.prog w=.ok (.enter f args) w) Tryz.call111 ?_
 exact lk_none),tabs0OK.mixed,tabs0OK.so,tabs0OK.eqs,(fun s hs=>by
 have hs:s∈[(⟨90,.int .i64,false,sortI⟩:So1),(⟨60,.int .i64,true,compI⟩:So1)]:=hs
 simp only [List.mem_cons,List.not_mem_nil,or_false] at hs
 rcases hs with rfl | rfl
 ·exact so1_90
 ·exact so1_60),tabs0OK.mps,tabs0OK.ow,tabs0OK.bt,(by
 show ∀ f s,lk ([(77,.isE 222 80),(37,.wstr 78 5),(39,.stri 78 5)]:List (FuncId×Go.PE.Ext)) f=some s→ExtOK Tryz.prog f s
 refine lk_all (p:=fun f s=>ExtOK Tryz.prog f s) ex_77 ?_
 refine lk_all (p:=fun f s=>ExtOK Tryz.prog f s) ex_37 ?_
 refine lk_all (p:=fun f s=>ExtOK Tryz.prog f s) ex_39 ?_
 exact lk_none),tabs0OK.pp⟩
end Go.Proofs.YtobfnefajpiakaaGreatDoor
namespace Go.PE
open Go Go.RowKit Go.Abs
variable [db:DB] [ea:EA]

def noLp:List (Nat×SO)→Bool
 | []=>true
 | (_,.lp _)::_=>false
 | _::r=>noLp r
theorem noLp_dec {H H':PH}:∀ {l:List (Nat×SO)} {L:List TV},noLp l=true→objDec H l L=objDec H' l L
 | [],_,_=>rfl
 | (i,.lp _)::r,L,h=>by cases h
 | (i,.box _)::r,L,h | (i,.arr _)::r,L,h | (i,.frz _)::r,L,h | (i,.tab _ _)::r,L,h | (i,.flat _ _)::r,L,h | (i,.cel _ _)::r,L,h | (i,.bld _ _)::r,L,h | (i,.opt _)::r,L,h | (i,.us)::r,L,h | (i,.gone)::r,L,h=>by
  have ih:=fun L=>noLp_dec (H:=H) (H':=H') (l:=r) (L:=L) h
  simp only [objDec,SO.dec,ih]
def ent (rs:List RV) (h:PH) (n0:Nat) (G:Cells) (w0:World):PS:=⟨(numL 0 rs).map fun x=>(x.1,.r x.2),h++[(0,.frm G w0)],n0⟩
noncomputable def outP (Γ:Tabs) (rv:List ResultVar) (k:Skel) (st0 st:PS):Option (Tup k.tys):=match resR Γ st rv with
 | some rs=>k.encT st0 ⟨(1000000,resPV rs)::st0.env,st.hp,st.nx⟩
 | none=>none
def frc:List Nat→PH→Option Unit
 | [],_=>some ()
 | i::r,h=>match lk h i with
  | some (.opt b l)=>(nonM b).bind fun _=>frc r ((i,.box l)::h)
  | _=>none
theorem frc_ok:∀ {fo:List Nat} {h:PH} {u:Unit},frc fo h=some u→∀ q,lk (bxs fo h) q=lk h q∨∃ l,lk h q=some (.opt false l)∧lk (bxs fo h) q=some (.box l)
 | [],_,_,hf,q=>.inl rfl
 | i::r,h,u,hf,q=>by
  unfold frc at hf
  unfold bxs
  split at hf
  ·rename_i b l hl
   obtain ⟨_,hb,hf⟩:=Option.bind_eq_some_iff.1 hf
   have hb:=nonM_some hb
   subst hb
   rw [hl]
   simp only
   rcases frc_ok hf q with h1 | ⟨l1,h1,h2⟩
   ·by_cases e:i=q
    ·subst e
     rw [lk_same] at h1
     exact .inr ⟨l,hl,h1⟩
    ·rw [lk_ne _ _ e] at h1;exact .inl h1
   ·by_cases e:i=q
    ·subst e
     rw [lk_same] at h1
     cases h1
    ·rw [lk_ne _ _ e] at h1
     exact .inr ⟨l1,h1,h2⟩
  ·cases hf
noncomputable def fnP (F:OpF) (n:Nat) (Γ:Tabs) (own:List Nat) (an:Ann) (fn:Func) (code:Code) (a:List SR) (o:List SO) (k:Skel) (fo:List Nat) (G:Cells) (w0:World) (x:Tup (SRs.tys a++newTys o)):Option (Tup k.tys):=match stOf a o x with
 | some (rs,h)=>(frc fo h).bind fun _=>pc F n { Γ with own:=own } fn.ntmps an code (Tup k.tys) (ent rs (bxs fo h) (o.length+1) G w0) fun ex st=>match ex with
  | .exit _=>none
  | .go _=>none
  | .pan _=>none
  | _=>outP Γ fn.results.toList k (ent rs (bxs fo h) (o.length+1) G w0) st
 | none=>none
def skP (k:Skel):Bool:=callSk (some 1000000) k&&noLp k.objs
theorem aft_dec {s:PSpec} (hk:skP s.k=true) {r:Tup s.k.tys} {pv:PV} {δ:PH} (h:s.aft r=some (pv,δ)) (st0:PS) (hn:st0.nx=s.o.length+1) :
  s.k.dec st0 (Tup.toL _ r)=some ⟨(1000000,pv)::st0.env,δ++st0.hp,s.o.length+1+s.k.news.length⟩:=by
 unfold skP at hk
 simp only [bA] at hk
 obtain ⟨hk1,hk2⟩:=callSk_ok hk.1
 unfold PSpec.aft at h
 unfold Skel.dec
 split at h
 ·rename_i i pv' L he
  split at h
  ·rename_i h1 L1 hd1
   split at h
   ·rename_i h2 hd2
    cases h
    rcases hk2 with ⟨hd,_⟩ | ⟨j,sp,hd,hs⟩
    ·cases hd
    ·cases hd
     have hi:i=1000000:=by
      rw [hs] at he
      simp only [slotDec] at he
      split at he
      ·cases he;rfl
      ·cases he
     subst hi
     rw [he]
     simp only [noLp_dec (H:=st0.hp) (H':=[]) hk.2,hd1,hn,hd2,hk1,List.map_nil,List.append_nil]
     rfl
   ·cases h
  ·cases h
 ·cases h
theorem outP_ok {P:Program} {Γ:Tabs} (hΓ:TabOK P Γ) {rv:List ResultVar} {s:PSpec} (hk:skP s.k=true) {rs:List RV} {h:PH} {G:Cells} {w0:World} {r:Tup s.k.tys} {pv:PV} {δ:PH} (ha:s.aft r=some (pv,δ)) {st:PS} (ho:outP Γ rv s.k (ent rs h (s.o.length+1) G w0) st=some r)
  {B:Nat} {S:Cells} {w:World} {η:Eta} (hi:HInv B η (ent rs h (s.o.length+1) G w0).hp S w) (hl:∀ i,s.o.length+1≤i→η i=none) :
  ∃ res,resR Γ st rv=some res∧∀ S' w' η' v,HInv B η' st.hp S' w'→(∀ i,st.nx≤i→η' i=none)→Pre η η'→(∃ d,st.hp=d++(ent rs h (s.o.length+1) G w0).hp)→Grow B S w S' w'→PM S' w' η' (resPV res) v →
   ∃ S2 η2,Grow B S w S2 w'∧Pre η η2∧(∀ i,s.o.length+1+s.k.news.length≤i→η2 i=none)∧HInv B η2 (δ++(h++[(0,.frm G w0)])) S2 w'∧PM S2 w' η2 pv v:=by
 unfold outP at ho
 split at ho
 ·rename_i res hres
  refine ⟨res,hres,fun S' w' η' v i1 l1 hp hh gr hm=>?_⟩
  have hd:=aft_dec hk ha (ent rs h (s.o.length+1) G w0) rfl
  obtain ⟨S2,η2,y,q1,q2,q3,q4,q5,q6,⟨L',q7⟩,q8,q9,q10,_,_⟩:=Skel.ok (encT_some ho) hd hi hl i1 l1 hp ⟨[(1000000,resPV res)],rfl⟩ hh gr
  refine ⟨S2,η2,gr.trans q4,q3,q2,q1,?_⟩
  unfold skP at hk
  simp only [bA] at hk
  obtain ⟨hk1,hk2⟩:=callSk_ok hk.1
  rw [hk1] at q6
  simp only [List.map_nil,List.append_nil] at q6
  rcases hk2 with ⟨hd,_⟩ | ⟨j,sp,hd,hs⟩
  ·cases hd
  ·cases hd
   rw [hs] at q7
   simp only [slotDec] at q7
   split at q7
   ·rename_i pv2 L2 hsp
    cases q7
    simp only [List.cons_append,List.nil_append] at q6
    cases q6
    obtain ⟨pv0,g1,g2⟩:=q10 1000000 _ (lk_same _ _ _)
    simp only at g1
    rw [lk_same] at g1
    cases g1
    exact g2 v hm
   ·cases q7
 ·cases ho
theorem fnP_ok {P:Program} {Γ:Tabs} (hΓ:TabOK P Γ) {F:OpF} (hS:F.Sound) (hN:F.Nice) {f:FuncId} {fn:Func} {code:Code} {own:List Nat} {an:Ann} {n:Nat} {s:PSpec}
  (hf:lk Γ.fn f=some fn) (hb:fn.body=some code) (hn:Nat.ble s.a.length fn.ntmps=true) (hk:skP s.k=true) (hm:∀ G w0 x,fnP F n Γ own an fn code s.a s.o s.k s.fo G w0 x=s.m x):PSpecOK P f s:=by
 refine ⟨(hΓ.fn f fn hf).2,fun x r hr rs h pv δ hst haft G w0 B S w η vs hi hl hv=>?_⟩
 have hr:fnP F n Γ own an fn code s.a s.o s.k s.fo G w0 x=some r:=(hm G w0 x).trans hr
 unfold fnP at hr
 have hst':stOf s.a s.o x=some (rs,h):=hst
 rw [hst'] at hr
 simp only at hr
 obtain ⟨_,hfr,hr⟩:=Option.bind_eq_some_iff.1 hr
 have hfo:=frc_ok hfr
 have hi:HInv B η (bxs s.fo h++[(0,.frm G w0)]) S w:=hi.as fun i po hlk=>by
  rw [lk_app] at hlk
  rcases hfo i with e | ⟨l,e1,e2⟩
  ·rw [e,← lk_app] at hlk
   exact ⟨po,hlk,fun _ h=>h⟩
  ·rw [e2] at hlk
   cases hlk
   exact ⟨.opt false l,by rw [lk_app,e1],fun _ h=>h⟩
 have hΓ':TabOK P { Γ with own:=own }:=⟨hΓ.ty,hΓ.fn,hΓ.sp,hΓ.en,hΓ.mixed,hΓ.so,hΓ.eqs,hΓ.so1,hΓ.mps,hΓ.ow,hΓ.bt,hΓ.ex,hΓ.pp⟩
 have hlen:rs.length=s.a.length:=by
  unfold stOf at hst'
  split at hst'
  ·rename_i hd
   split at hst'
   ·cases hst';exact decL_len hd
   ·cases hst'
  ·cases hst'
 refine callsIn_wide.1 (body_ok (sound hS hN n).1 hΓ hΓ' hf hb hv (by rw [hlen];exact nL hn) hi hl hr fun ex st' hk'=>?_)
 have key:outP Γ fn.results.toList s.k (ent rs (bxs s.fo h) (s.o.length+1) G w0) st'=some r→∃ res,resR Γ st' fn.results.toList=some res∧∀ S' w' η' v,HInv B η' st'.hp S' w'→(∀ i,st'.nx≤i→η' i=none)→Pre η η'→(∃ d,st'.hp=d++(bxs s.fo h++[(0,.frm G w0)]))→Grow B S w S' w'→PM S' w' η' (resPV res) v →
   ∃ v_1 S2 η2,Ending.returned v=.returned v_1∧Grow B S w S2 w'∧Pre η η2∧(∀ i,s.o.length+1+s.k.news.length≤i→η2 i=none)∧HInv B η2 (δ++(bxs s.fo h++[(0,.frm G w0)])) S2 w'∧PM S2 w' η2 pv v_1:=fun ho=>by
  obtain ⟨res,h1,h2⟩:=outP_ok hΓ hk haft ho hi hl
  refine ⟨res,h1,fun S' w' η' v i1 l1 hp hh gr hm=>?_⟩
  obtain ⟨S2,η2,g1,g2,g3,g4,g5⟩:=h2 S' w' η' v i1 l1 hp hh gr hm
  exact ⟨v,S2,η2,rfl,g1,g2,g3,g4,g5⟩
 cases ex with
 | norm=>exact ⟨⟨fun i hi=>(by cases hi),fun l hl=>(by cases hl),fun T hT=>(by cases hT)⟩,key hk'⟩
 | ret=>exact ⟨⟨fun i hi=>(by cases hi),fun l hl=>(by cases hl),fun T hT=>(by cases hT)⟩,key hk'⟩
 | exit i=>cases hk'
 | go l=>cases hk'
 | pan T=>cases hk'
def Tabs.addP (Γ:Tabs) (f:FuncId) (s:PSpec):Tabs:={ Γ with pp:=(f,s)::Γ.pp }
theorem TabOK.addP {P:Program} {Γ:Tabs} (h:TabOK P Γ) {f:FuncId} {s:PSpec} (hs:PSpecOK P f s):TabOK P (Γ.addP f s) :=
 ⟨h.ty,h.fn,h.sp,h.en,h.mixed,h.so,h.eqs,h.so1,h.mps,h.ow,h.bt,h.ex,fun g s' hl=>by
  unfold Tabs.addP at hl
  by_cases hg:f=g
  ·subst hg;rw [lk_same] at hl;cases hl;exact hs
  ·rw [lk_ne _ _ hg] at hl;exact h.pp g s' hl⟩

theorem leaves_tl {P:Program} {rd:Option Nat} {fn:Func} {tmps:Array Value} {R:Ending→World→Prop} {base:Nat} {u:FrameMode} {tl:List Deferred} (hu:u≠.run):∀ (bs:List Nat) (w:World),bs.Nodup→(∀ b∈bs,base≤b∧w.heap[b]? = some (.deferred (some []))) →
  (∀ w2,Took base w w2→LeavesInM (FR rd) 0 P fn tmps R tl u w2)→LeavesInM (FR rd) 0 P fn tmps R (bs.map mark++tl) u w
 | [],w,_,_,h=>h w (.refl _ _)
 | b::bs,w,hn,hb,h=>by
  obtain ⟨h1,h2⟩:=hb b (by simp)
  have hn':=List.nodup_cons.1 hn
  refine ⟨hu,.inl ⟨b,_,rfl,run_takeDeferred h2,leaves_tl hu bs _ hn'.2 (fun c hc=>?_) fun w2 t=>h w2 (t.put h1 h2)⟩⟩
  obtain ⟨h3,h4⟩:=hb c (by simp [hc])
  exact ⟨h3,by rw [World.putObj_heap_other (k:=c) (r:=b) (fun h=>hn'.1 (by rw [← h];exact hc))];exact h4⟩

theorem opsIn_value {P:Program} {ops:Array Oper} {Q:Exit→Act→World→Prop} {i:Nat} {l:List Nat} {a:Act} {w w':World} {o:Oper} {v:Value} (ho:ops[i]? = some o) (hg:o.guard=none) (hr:(execOp a.eval o).run P w=.ok (.value v) w') (h:wpOpsIn (FR none) 0 P ops Q l (a.put o.dst v) w'):wpOpsIn (FR none) 0 P ops Q (i::l) a w:=by
 unfold wpOpsIn
 simp only [ho]
 have:Region.wanted o (yielded ops a.tmps)=true:=by unfold Region.wanted;rw [hg]
 rw [if_pos this]
 refine ⟨fun f _=>FR.fn none f,?_⟩
 show o.uponIn (FR none) 0 P a _ Q ((execOp a.eval o).run P w)
 rw [hr];exact h
theorem opsIn_defer {P:Program} {ops:Array Oper} {Q:Exit→Act→World→Prop} {i:Nat} {l:List Nat} {a:Act} {w w':World} {o:Oper} {d:Deferred} (ho:ops[i]? = some o) (hg:o.guard=none) (hr:(execOp a.eval o).run P w=.ok (.defer d) w') (h:wpOpsIn (FR none) 0 P ops Q l ({ a with defers:=d::a.defers }.put o.dst undef) w'):wpOpsIn (FR none) 0 P ops Q (i::l) a w:=by
 unfold wpOpsIn
 simp only [ho]
 have:Region.wanted o (yielded ops a.tmps)=true:=by unfold Region.wanted;rw [hg]
 rw [if_pos this]
 refine ⟨fun f _=>FR.fn none f,?_⟩
 show o.uponIn (FR none) 0 P a _ Q ((execOp a.eval o).run P w)
 rw [hr];exact h
theorem opsS_value {P:Program} {ops:Array Oper} {Q:Exit→Act→List Frame→World→Prop} {i:Nat} {l:List Nat} {a:Act} {cs:List Frame} {w w':World} {o:Oper} {v:Value} (ho:ops[i]? = some o) (hg:o.guard=none) (hr:(execOp a.eval o).run P w=.ok (.value v) w') (h:wpOpsSIn (FR none) 0 P ops Q l (a.put o.dst v) cs w'):wpOpsSIn (FR none) 0 P ops Q (i::l) a cs w:=by
 unfold wpOpsSIn
 simp only [ho]
 have:Region.wanted o (yielded ops a.tmps)=true:=by unfold Region.wanted;rw [hg]
 refine ⟨fun f _=>FR.fn none f,?_⟩
 rw [if_pos this,hr];exact h
theorem opsS_recover {P:Program} {ops:Array Oper} {Q:Exit→Act→List Frame→World→Prop} {i:Nat} {l:List Nat} {a:Act} {cs cs':List Frame} {w w':World} {o:Oper} {v:Value} (ho:ops[i]? = some o) (hg:o.guard=none) (hr:(execOp a.eval o).run P w=.ok .recover w')
  (hrec:match recoverD cs with | some (x,cs2)=>x=v∧cs2=cs' | none=>.nilIface=v∧cs'=cs) (h:wpOpsSIn (FR none) 0 P ops Q l (a.put o.dst v) cs' w'):wpOpsSIn (FR none) 0 P ops Q (i::l) a cs w:=by
 unfold wpOpsSIn
 simp only [ho]
 have:Region.wanted o (yielded ops a.tmps)=true:=by unfold Region.wanted;rw [hg]
 refine ⟨fun f _=>FR.fn none f,?_⟩
 rw [if_pos this,hr]
 show match recoverD cs with
     | some (v,cs')=>wpOpsSIn (FR none) 0 P ops Q l (a.put o.dst v) cs' w'
     | none=>wpOpsSIn (FR none) 0 P ops Q l (a.put o.dst .nilIface) cs w'
 split at hrec
 ·obtain ⟨rfl,rfl⟩:=hrec;exact h
 ·obtain ⟨rfl,rfl⟩:=hrec;exact h

noncomputable def clP (F:OpF) (n:Nat) (Γ:Tabs) (an:Ann) (fn:Func) (cl:Code) (ncl i2 i3:Nat) (k:Skel) (st0:PS) (v:CV) (b:Bool) (st1:PS):Option (Tup k.tys) :=
 pc F n { Γ with own:=[3000000] } ncl an cl (Tup k.tys) ⟨[(3,.c (.d .bool b)),(2,.c v),(1,.c (.p i3 0)),(0,.c (.p i2 0))],st1.hp,st1.nx⟩ fun ex st=>match ex with
  | .exit _=>none
  | .go _=>none
  | .pan _=>none
  | _=>outP Γ fn.results.toList k st0 ⟨st1.env,st.hp,st.nx⟩
noncomputable def fnT (F:OpF) (n:Nat) (Γ:Tabs) (own:List Nat) (a0 a1 aN aP:Ann) (fn:Func) (c0 rest cl:Code) (ncl s2 s3 sf Te:Nat) (a:List SR) (o:List SO) (k:Skel) (fo:List Nat) (G:Cells) (w0:World) (x:Tup (SRs.tys a++newTys o)):Option (Tup k.tys):=match stOf a o x with
 | some (rs,h)=>(frc fo h).bind fun _=>pc F n { Γ with own:=[3000000] } fn.ntmps a0 c0 (Tup k.tys) (ent rs (bxs fo h) (o.length+1) G w0) fun ex st=>match ex with
  | .norm=>match lk st.env s2,lk st.env s3,lk st.env sf with
   | some (.r (.c (.p i2 0))),some (.r (.c (.p i3 0))),none =>
    pc F n { Γ with own:=own } fn.ntmps a1 rest (Tup k.tys) st fun ex1 st1=>match ex1 with
     | .exit _=>none
     | .go _=>none
     | .pan T=>match Nat.beq T (1000000+Te) with
      | true=>clP F n Γ aP fn cl ncl i2 i3 k (ent rs (bxs fo h) (o.length+1) G w0) (.i (1000000+Te)) true st1
      | false=>none
     | _=>clP F n Γ aN fn cl ncl i2 i3 k (ent rs (bxs fo h) (o.length+1) G w0) (.l .nilI) false st1
   | _,_,_=>none
  | _=>none
 | none=>none
theorem payV_err (T:TypeId):payV (1000000+T)=.iface T (.pointer (some ea.a)):=by
 unfold payV
 have:Nat.blt (1000000+T) 1000000=false:=by
  cases h:Nat.blt (1000000+T) 1000000 with
  | false=>rfl
  | true=>have:=nL h;omega
 rw [this]
 simp
def PostP (s:PSpec) (B:Nat) (S0:Cells) (w0:World) (η0:Eta) (H1:PH) (pv:PV) (en:Ending) (w':World):Prop:=∃ v S' η',en=.returned v∧Grow B S0 w0 S' w'∧Pre η0 η'∧(∀ i,s.o.length+1+s.k.news.length≤i→η' i=none)∧HInv B η' H1 S' w'∧PM S' w' η' pv v
theorem clP_ok {P:Program} {Γ:Tabs} (hΓ:TabOK P Γ) {F:OpF} (hS:F.Sound) (hN:F.Nice) {fn:Func} {g:FuncId} {fg:Func} {cl:Code} {n:Nat} {an:Ann} {i0 i2 i3 xt It Te fe:Nat} {o1 o2 o3 o4 o5 o6 o7:Oper} {s:PSpec} {v:CV} {bb:Bool} {u u':FrameMode} {st1:PS} {rs:List RV} {h:PH} {G:Cells} {wf:World} {pv:PV} {δ:PH}
  (hg:lk Γ.fn g=some fg) (hbg:fg.body=some (.seq (.region i0 #[o1,o2,o3,o4,o5,o6,o7] false) cl)) (hrg:fg.results=#[]) (hq1:o1.op=.call { callee:=.builtin .recover,args:=#[],argTypes:=#[] }) (hq2:o2.op=.typeAssert (.tmp 5) xt It true) (hq3:o3.op=.move (.tmp 6)) (hq4:o4.op=.extract (.tmp 4) 0) (hq5:o5.op=.extract (.tmp 4) 1) (hq6:o6.op=.assign (.tmp 7)) (hq7:o7.op=.assign (.tmp 8))
  (hd1:o1.dst=some 5) (hd2:o2.dst=some 6) (hd3:o3.dst=some 4) (hd4:o4.dst=some 7) (hd5:o5.dst=some 8) (hd6:o6.dst=some 2) (hd7:o7.dst=some 3) (hu1:o1.guard=none) (hu2:o2.guard=none) (hu3:o3.guard=none) (hu4:o4.guard=none) (hu5:o5.guard=none) (hu6:o6.guard=none) (hu7:o7.guard=none)
  (hnt:Nat.ble 9 fg.ntmps=true) (hex:lk Γ.ex fe=some (.isE Te It))
  (hv:(v=.l .nilI∧bb=false∧u=.returning∧u'=.returning)∨(v=.i (1000000+Te)∧bb=true∧u=.panicking [{ v:=payV (1000000+Te),recovered:=false }]∧u'=.panicking [{ v:=payV (1000000+Te),recovered:=true }]))
  (hsk:skP s.k=true) {r:Tup s.k.tys} (ha:s.aft r=some (pv,δ)) (hcl:clP F n Γ an fn cl fg.ntmps i2 i3 s.k (ent rs h (s.o.length+1) G wf) v bb st1=some r)
  {B:Nat} {S0:Cells} {w0:World} {η0:Eta} (hi0:HInv B η0 (ent rs h (s.o.length+1) G wf).hp S0 w0) (hl0:∀ i,s.o.length+1≤i→η0 i=none)
  {S:Cells} {w:World} {η:Eta} {tmps:Array Value} {b2 b3:Nat} (hi:HInv B η st1.hp S w) (hl:∀ i,st1.nx≤i→η i=none) (he:EnvM S w η st1.env tmps) (hp2:η i2=some (.pointer (some ⟨b2,0,none⟩))) (hp3:η i3=some (.pointer (some ⟨b3,0,none⟩))) (hgr:Grow B S0 w0 S w) (hpre:Pre η0 η) (hsuf:∃ d,st1.hp=d++(ent rs h (s.o.length+1) G wf).hp) :
  CallsDIn (FR none) 0 P g #[.pointer (some ⟨b2,0,none⟩),.pointer (some ⟨b3,0,none⟩)] u w fun
   | .returned _,u',w'=>LeavesInM (FR none) 0 P fn tmps (PostP s B S0 w0 η0 (δ++(h++[(0,.frm G wf)])) pv) [] (settle u') w'
   | .panicked chain,u',w'=>LeavesInM (FR none) 0 P fn tmps (PostP s B S0 w0 η0 (δ++(h++[(0,.frm G wf)])) pv) [] (raised u' chain) w'
   | .outgrown,_,w'=>PostP s B S0 w0 η0 (δ++(h++[(0,.frm G wf)])) pv .outgrown w':=by
 have hnt:9≤fg.ntmps:=nL hnt
 refine callsDIn_of_wpSIn (hΓ.fn g fg hg).1 hbg (FR.fn none g) fun c₀ cs hu=>?_
 obtain ⟨val,hval,hta,hrec⟩:∃ val:Value,(∀ S w η,CM S w η v val)∧(∀ w,(Instr.typeAssert val xt It true).run P w=.ok (.tuple #[val,.bool bb]) w)∧(match recoverD (c₀::cs) with | some (x,cs')=>x=val∧cs'={ c₀ with mode:=u' }::cs | none=>.nilIface=val∧{ c₀ with mode:=u' }::cs=c₀::cs):=by
  rcases hv with ⟨rfl,rfl,rfl,rfl⟩ | ⟨rfl,rfl,rfl,rfl⟩
  ·refine ⟨.nilIface,fun S w η=>rfl,(hΓ.ex _ _ hex).2.2.2 xt,?_⟩
   have:recoverD (c₀::cs)=none:=by simp [recoverD,hu]
   rw [this]
   exact ⟨rfl,by rw [← hu]⟩
  ·refine ⟨payV (1000000+Te),fun S w η=>rfl,fun w=>by rw [payV_err];exact (hΓ.ex _ _ hex).2.2.1 _ xt w,?_⟩
   have:recoverD (c₀::cs)=some (payV (1000000+Te),{ c₀ with mode:=.panicking [{ v:=payV (1000000+Te),recovered:=true }] }::cs):=by simp [recoverD,hu]
   rw [this]
   exact ⟨rfl,rfl⟩
 have hset:settle u'=.returning:=by
  rcases hv with ⟨_,_,_,rfl⟩ | ⟨_,_,_,rfl⟩
  ·rfl
  ·rfl
 refine wpSIn_seq (wpSIn_region ?_)
 have hA:∀ a:Act,a.defers=[]→a.tmps.size=fg.ntmps→a.tmps.getD 0 undef=.pointer (some ⟨b2,0,none⟩)→a.tmps.getD 1 undef=.pointer (some ⟨b3,0,none⟩)→a.tmps.getD 2 undef=val→a.tmps.getD 3 undef=.bool bb →
   cl.wpSIn (FR none) 0 P (bodyPostS P fg c₀ cs fun
   | .returned _,u',w'=>LeavesInM (FR none) 0 P fn tmps (PostP s B S0 w0 η0 (δ++(h++[(0,.frm G wf)])) pv) [] (settle u') w'
   | .panicked chain,u',w'=>LeavesInM (FR none) 0 P fn tmps (PostP s B S0 w0 η0 (δ++(h++[(0,.frm G wf)])) pv) [] (raised u' chain) w'
   | .outgrown,_,w'=>PostP s B S0 w0 η0 (δ++(h++[(0,.frm G wf)])) pv .outgrown w') a ({ c₀ with mode:=u' }::cs) w:=by
  intro a had hsz h0 h1 h2 h3
  refine wpSIn_of_wpIn rfl ?_
  unfold clP at hcl
  have hΓ':TabOK P { Γ with own:=[3000000] }:=⟨hΓ.ty,hΓ.fn,hΓ.sp,hΓ.en,hΓ.mixed,hΓ.so,hΓ.eqs,hΓ.so1,hΓ.mps,hΓ.ow,hΓ.bt,hΓ.ex,hΓ.pp⟩
  refine (sound hS hN n).1 _ _ _ _ _ _ _ _ hcl P hΓ' none B ⟨w.heap.size,none,[],true⟩ a w S η ⟨⟨[],fun _=>rfl,had,List.nodup_nil,fun b hb=>by cases hb⟩,hsz,fun t pv ht=>?_,hi,hl,noGE_wf rfl,(fun l hl=>by cases hl),hi.base,nR _⟩ rfl (fun _=>rfl) _ fun ex st' a' w' S' η' g' stp hk=>?_
  ·unfold lk at ht
   split at ht
   ·rename_i hb
    cases ht
    rw [← nB hb,h3]
    exact PM.bool.2 rfl
   ·unfold lk at ht
    split at ht
    ·rename_i hb
     cases ht
     rw [← nB hb,h2]
     exact hval S w η
    ·unfold lk at ht
     split at ht
     ·rename_i hb
      cases ht
      rw [← nB hb,h1]
      exact ⟨b3,hp3,rfl⟩
     ·unfold lk at ht
      split at ht
      ·rename_i hb
       cases ht
       rw [← nB hb,h0]
       exact ⟨b2,hp2,rfl⟩
      ·cases ht
  ·obtain ⟨bs,hnb,hd,_,_⟩:=g'.defers
   rw [hnb rfl] at hd
   have key:outP Γ fn.results.toList s.k (ent rs h (s.o.length+1) G wf) ⟨st1.env,st'.hp,st'.nx⟩=some r→a'.defers=[]∧∃ u'',({ c₀ with mode:=u' }::cs:List Frame)={ c₀ with mode:=u'' }::cs∧∃ v,(results fg a'.tmps).run P w'=.ok v w'∧LeavesInM (FR none) 0 P fn tmps (PostP s B S0 w0 η0 (δ++(h++[(0,.frm G wf)])) pv) [] (settle u'') w':=by
    intro hk
    refine ⟨hd,u',rfl,.tuple #[],?_,?_⟩
    ·unfold results
     rw [hrg]
     simp
    ·rw [hset]
     obtain ⟨res,hres,hend⟩:=outP_ok hΓ hsk ha hk hi0 hl0
     have he':EnvM S' w' η' st1.env tmps:=he.mono stp.grow.keep stp.pre
     obtain ⟨us,hv1,hv2⟩:=resR_sound (st:=⟨st1.env,st'.hp,st'.nx⟩) (a:={ tmps:=tmps,defers:=[] }) hΓ he' g'.inv hres
     obtain ⟨v,hr1,hr2⟩:=results_ok hv1 hv2
     obtain ⟨S2,η2,q1,q2,q3,q4,q5⟩:=hend S' w' η' v g'.inv g'.len (hpre.trans stp.pre) (sfx_trans hsuf stp.hp) (hgr.trans stp.grow) hr2
     exact ⟨v,hr1,v,S2,η2,rfl,q1,q2,q3,q4,q5⟩
   cases ex with
   | norm=>exact key hk
   | ret=>exact key hk
   | exit i=>cases hk
   | go l=>cases hk
   | pan T=>cases hk
 have hx1:∀ (ρ:Operand→Value) w,(execOp ρ o1).run P w=.ok .recover w:=fun ρ w=>by simp [execOp,hq1,resolve,invoke,builtin]
 have hsize:((#[Value.pointer (some ⟨b2,0,none⟩),.pointer (some ⟨b3,0,none⟩)]:Array Value)++Array.replicate (fg.ntmps-2) undef).size=fg.ntmps:=by simp;omega
 show wpOpsSIn (FR none) 0 P #[o1,o2,o3,o4,o5,o6,o7] _ [0,1,2,3,4,5,6] { tmps:=#[Value.pointer (some ⟨b2,0,none⟩),.pointer (some ⟨b3,0,none⟩)]++Array.replicate (fg.ntmps-2) undef,defers:=[] } (c₀::cs) w
 generalize htm:(#[Value.pointer (some ⟨b2,0,none⟩),.pointer (some ⟨b3,0,none⟩)]:Array Value)++Array.replicate (fg.ntmps-2) undef=tm at *
 have t0:tm.getD 0 undef=.pointer (some ⟨b2,0,none⟩):=by rw [← htm];simp [aD,Array.getElem?_append]
 have t1:tm.getD 1 undef=.pointer (some ⟨b3,0,none⟩):=by rw [← htm];simp [aD,Array.getElem?_append]
 have stp:∀ (A:Array Value) (d:Nat) (v:Value),A.size=fg.ntmps→d<9→∃ A',A'=A.setIfInBounds d v∧A'.size=fg.ntmps∧A'.getD d undef=v∧∀ k,d≠k→A'.getD k undef=A.getD k undef:=fun A d v hA hd =>
  ⟨_,rfl,by rw [Array.size_setIfInBounds];exact hA,by simp [aD,Array.getElem?_setIfInBounds,show d<A.size by omega],fun k hk=>by simp [aD,Array.getElem?_setIfInBounds,hk]⟩
 have pt:∀ (A A':Array Value) (o:Oper) (d:Nat) (v:Value),o.dst=some d→A'=A.setIfInBounds d v→(({ tmps:=A,defers:=[] }:Act).put o.dst v)={ tmps:=A',defers:=[] }:=fun A A' o d v h1 h2=>by rw [h1,h2];rfl
 have evt:∀ (A:Array Value) (k:Nat),({ tmps:=A,defers:=[] }:Act).eval (.tmp k)=A.getD k undef:=fun _ _=>rfl
 obtain ⟨A1,e1,z1,g1,n1⟩:=stp tm 5 val hsize (by decide)
 obtain ⟨A2,e2,z2,g2,n2⟩:=stp A1 6 (.tuple #[val,.bool bb]) z1 (by decide)
 obtain ⟨A3,e3,z3,g3,n3⟩:=stp A2 4 (.tuple #[val,.bool bb]) z2 (by decide)
 obtain ⟨A4,e4,z4,g4,n4⟩:=stp A3 7 val z3 (by decide)
 obtain ⟨A5,e5,z5,g5,n5⟩:=stp A4 8 (.bool bb) z4 (by decide)
 obtain ⟨A6,e6,z6,g6,n6⟩:=stp A5 2 val z5 (by decide)
 obtain ⟨A7,e7,z7,g7,n7⟩:=stp A6 3 (.bool bb) z6 (by decide)
 refine opsS_recover (o:=o1) (w':=w) (v:=val) rfl hu1 (hx1 _ _) hrec ?_
 rw [pt tm A1 o1 5 val hd1 e1]
 refine opsS_value (o:=o2) (w':=w) (v:=.tuple #[val,.bool bb]) rfl hu2 (by simp [execOp,hq2,evt,g1,hta]) ?_
 rw [pt A1 A2 o2 6 _ hd2 e2]
 refine opsS_value (o:=o3) (w':=w) (v:=.tuple #[val,.bool bb]) rfl hu3 (by simp [execOp,hq3,evt,g2]) ?_
 rw [pt A2 A3 o3 4 _ hd3 e3]
 refine opsS_value (o:=o4) (w':=w) (v:=val) rfl hu4 (by simp [execOp,hq4,evt,g3,Instr.extract]) ?_
 rw [pt A3 A4 o4 7 _ hd4 e4]
 have k4:A4.getD 4 undef=.tuple #[val,.bool bb]:=(n4 4 (by decide)).trans g3
 refine opsS_value (o:=o5) (w':=w) (v:=.bool bb) rfl hu5 (by simp [execOp,hq5,evt,k4,Instr.extract]) ?_
 rw [pt A4 A5 o5 8 _ hd5 e5]
 have k5:A5.getD 7 undef=val:=(n5 7 (by decide)).trans g4
 refine opsS_value (o:=o6) (w':=w) (v:=val) rfl hu6 (by simp [execOp,hq6,evt,k5]) ?_
 rw [pt A5 A6 o6 2 _ hd6 e6]
 have k6:A6.getD 8 undef=.bool bb:=(n6 8 (by decide)).trans g5
 refine opsS_value (o:=o7) (w':=w) (v:=.bool bb) rfl hu7 (by simp [execOp,hq7,evt,k6]) ?_
 rw [pt A6 A7 o7 3 _ hd7 e7]
 have low:∀ k,k≠5→k≠6→k≠4→k≠7→k≠8→k≠2→k≠3→A7.getD k undef=tm.getD k undef:=fun k c1 c2 c3 c4 c5 c6 c7=>by
  rw [n7 k (Ne.symm c7),n6 k (Ne.symm c6),n5 k (Ne.symm c5),n4 k (Ne.symm c4),n3 k (Ne.symm c3),n2 k (Ne.symm c2),n1 k (Ne.symm c1)]
 show cl.wpSIn (FR none) 0 P _ _ _ w
 exact hA _ rfl z7 ((low 0 (by decide) (by decide) (by decide) (by decide) (by decide) (by decide) (by decide)).trans t0) ((low 1 (by decide) (by decide) (by decide) (by decide) (by decide) (by decide) (by decide)).trans t1) ((n7 2 (by decide)).trans g6) g7
theorem fnT_ok {P:Program} {Γ:Tabs} (hΓ:TabOK P Γ) {F:OpF} (hS:F.Sound) (hN:F.Nice) {f g:FuncId} {fn fg:Func} {c0 rest cl:Code} {own:List Nat} {a0 a1 aN aP:Ann} {n i0 i1 s2 s3 sf xt It Te fe:Nat} {o1 o2 o3 o4 o5 o6 o7 p1 p2:Oper} {s:PSpec}
  (hf:lk Γ.fn f=some fn) (hb:fn.body=some (.seq c0 (.seq (.region i1 #[p1,p2] false) rest))) (hn:Nat.ble s.a.length fn.ntmps=true) (hsk:skP s.k=true)
  (hp1:p1.op=.makeFunc (.func g) #[] #[.tmp s2,.tmp s3]) (hpd1:p1.dst=some sf) (hpu1:p1.guard=none) (hp2:p2.op=.defer { callee:=.value (.tmp sf),args:=#[],argTypes:=#[] }) (hpd2:p2.dst=none) (hpu2:p2.guard=none) (hsf:Nat.blt sf fn.ntmps=true)
  (hg:lk Γ.fn g=some fg) (hbg:fg.body=some (.seq (.region i0 #[o1,o2,o3,o4,o5,o6,o7] false) cl)) (hrg:fg.results=#[]) (hq1:o1.op=.call { callee:=.builtin .recover,args:=#[],argTypes:=#[] }) (hq2:o2.op=.typeAssert (.tmp 5) xt It true) (hq3:o3.op=.move (.tmp 6)) (hq4:o4.op=.extract (.tmp 4) 0) (hq5:o5.op=.extract (.tmp 4) 1) (hq6:o6.op=.assign (.tmp 7)) (hq7:o7.op=.assign (.tmp 8))
  (hd1:o1.dst=some 5) (hd2:o2.dst=some 6) (hdd3:o3.dst=some 4) (hd4:o4.dst=some 7) (hd5:o5.dst=some 8) (hd6:o6.dst=some 2) (hd7:o7.dst=some 3) (hu1:o1.guard=none) (hu2:o2.guard=none) (hu3:o3.guard=none) (hu4:o4.guard=none) (hu5:o5.guard=none) (hu6:o6.guard=none) (hu7:o7.guard=none)
  (hnt:Nat.ble 9 fg.ntmps=true) (hex:lk Γ.ex fe=some (.isE Te It))
  (hm:∀ G w0 x,fnT F n Γ own a0 a1 aN aP fn c0 rest cl fg.ntmps s2 s3 sf Te s.a s.o s.k s.fo G w0 x=s.m x):PSpecOK P f s:=by
 refine ⟨(hΓ.fn f fn hf).2,fun x r hr rs h pv δ hst haft G w0 B S w η vs hi hl hv=>?_⟩
 have hr:fnT F n Γ own a0 a1 aN aP fn c0 rest cl fg.ntmps s2 s3 sf Te s.a s.o s.k s.fo G w0 x=some r:=(hm G w0 x).trans hr
 unfold fnT at hr
 have hst':stOf s.a s.o x=some (rs,h):=hst
 rw [hst'] at hr
 simp only at hr
 obtain ⟨_,hfr,hr⟩:=Option.bind_eq_some_iff.1 hr
 have hfo:=frc_ok hfr
 have hi:HInv B η (bxs s.fo h++[(0,.frm G w0)]) S w:=hi.as fun i po hlk=>by
  rw [lk_app] at hlk
  rcases hfo i with e | ⟨l,e1,e2⟩
  ·rw [e,← lk_app] at hlk
   exact ⟨po,hlk,fun _ h=>h⟩
  ·rw [e2] at hlk
   cases hlk
   exact ⟨.opt false l,by rw [lk_app,e1],fun _ h=>h⟩
 have hΓ':∀ own,TabOK P { Γ with own:=own }:=fun own=>⟨hΓ.ty,hΓ.fn,hΓ.sp,hΓ.en,hΓ.mixed,hΓ.so,hΓ.eqs,hΓ.so1,hΓ.mps,hΓ.ow,hΓ.bt,hΓ.ex,hΓ.pp⟩
 have hlen:rs.length=s.a.length:=by
  unfold stOf at hst'
  split at hst'
  ·rename_i hd
   split at hst'
   ·cases hst';exact decL_len hd
   ·cases hst'
  ·cases hst'
 have hvl:vs.length≤fn.ntmps:=by rw [← hv.length,hlen];exact nL hn
 refine callsIn_wide.1 (?_:CallsIn (FR none) 0 P f vs.toArray w (PostP s B S w η (δ++(bxs s.fo h++[(0,.frm G w0)])) pv))
 refine callsIn_of_wp_marks (hΓ.fn f fn hf).1 hb (FR.fn none f) ?_
 refine wpIn_seq ((sound hS hN n).1 _ _ _ _ _ _ _ _ hr P (hΓ' _) none B ⟨w.heap.size,none,[],true⟩ _ w S η ⟨DefsOK.nil _ _ _ _,?_,?_,hi,hl,numL_noG,(fun l hl=>by cases hl),hi.base,nR _⟩ rfl (fun _=>rfl) _ fun ex st1 a1' w1 S1 η1 g1 stp1 hk1=>?_)
 ·simp only [Array.size_append,Array.size_replicate,List.size_toArray];omega
 ·have:=numL_env (k:=0) (pre:=[]) (post:=List.replicate (fn.ntmps-vs.toArray.size) undef) hv rfl
  have e:vs.toArray++Array.replicate (fn.ntmps-vs.toArray.size) undef=([]++vs++List.replicate (fn.ntmps-vs.toArray.size) undef).toArray:=by simp
  show EnvM S w _ _ (vs.toArray++Array.replicate (fn.ntmps-vs.toArray.size) undef)
  rw [e];exact this
 cases ex with
 | ret=>cases hk1
 | exit i=>cases hk1
 | go l=>cases hk1
 | pan T=>cases hk1
 | norm =>
  simp only at hk1
  split at hk1
  ·rename_i i2 i3 hs2 hs3 hsn
   obtain ⟨b2,q2,v2⟩:=g1.env s2 _ hs2
   obtain ⟨b3,q3,v3⟩:=g1.env s3 _ hs3
   obtain ⟨bs,hnb,hd,_,_⟩:=g1.defers
   rw [hnb rfl] at hd
   have hd:a1'.defers=[]:=hd
   let cv:Value:=.func (.func g) #[] #[.pointer (some ⟨b2,0,none⟩),.pointer (some ⟨b3,0,none⟩)]
   let d:Deferred:={ target:=.fn (.func g) #[.pointer (some ⟨b2,0,none⟩),.pointer (some ⟨b3,0,none⟩)],args:=#[] }
   have hx1:(execOp a1'.eval p1).run P w1=.ok (.value cv) w1:=by
    have e2:a1'.eval (.tmp s2)=.pointer (some ⟨b2,0,none⟩):=v2
    have e3:a1'.eval (.tmp s3)=.pointer (some ⟨b3,0,none⟩):=v3
    simp [execOp,hp1,Instr.makeFunc,e2,e3,cv]
   show (Code.seq (.region i1 #[p1,p2] false) rest).wpIn (FR none) 0 P _ a1' w1
   have sfl:sf<fn.ntmps:=nL hsf
   have hev:(a1'.put (some sf) cv).eval (.tmp sf)=cv:=by
    show (a1'.tmps.setIfInBounds sf cv).getD sf undef=cv
    have:sf<a1'.tmps.size:=by rw [g1.size];exact sfl
    simp [Array.getD,this]
   have hx2:(execOp (a1'.put (some sf) cv).eval p2).run P w1=.ok (.defer d) w1:=by
    simp [execOp,hp2,resolve,hev,Deferred.ofValue,cv,d]
   let a2:Act:={ tmps:=a1'.tmps.setIfInBounds sf cv,defers:=[d] }
   have hrest:rest.wpIn (FR none) 0 P (bodyPostM (FR none) 0 P fn (PostP s B S w η (δ++(bxs s.fo h++[(0,.frm G w0)])) pv)) a2 w1:=by
    refine (sound hS hN n).1 _ _ _ _ _ _ _ _ hk1 P (hΓ' _) none B ⟨w.heap.size,none,[d],false⟩ a2 w1 S1 η1 ⟨DefsOK.nil _ _ _ _,by simp [a2,g1.size],fun t pv ht=>?_,g1.inv,g1.len,g1.wf,(fun l hl=>by cases hl),g1.bb,g1.ba⟩ rfl (fun h=>by cases h) _ fun ex st3 a3 w3 S3 η3 g3 stp3 hk3=>?_
    ·have hts:t≠sf:=fun h=>by subst h;rw [hsn] at ht;cases ht
     have:=g1.env t pv ht
     show PM S1 w1 η1 pv ((a1'.tmps.setIfInBounds sf cv).getD t undef)
     rw [show (a1'.tmps.setIfInBounds sf cv).getD t undef=a1'.tmps.getD t undef by simp [aD,Array.getElem?_setIfInBounds,Ne.symm hts]]
     exact this
    ·obtain ⟨bs,_,hd3,hnd,hbs⟩:=g3.defers
     have fin:∀ (u u':FrameMode) (v:CV) (bb:Bool) (an:Ann),u≠.run→((v=.l .nilI∧bb=false∧u=.returning∧u'=.returning)∨(v=.i (1000000+Te)∧bb=true∧u=.panicking [{ v:=payV (1000000+Te),recovered:=false }]∧u'=.panicking [{ v:=payV (1000000+Te),recovered:=true }])) →
       clP F n Γ an fn cl fg.ntmps i2 i3 s.k (ent rs (bxs s.fo h) (s.o.length+1) G w0) v bb st3=some r→LeavesInM (FR none) 0 P fn a3.tmps (PostP s B S w η (δ++(bxs s.fo h++[(0,.frm G w0)])) pv) a3.defers u w3:=by
      intro u u' v bb an hur hv hcl
      rw [hd3]
      refine leaves_tl hur bs w3 hnd hbs fun w2 t=>?_
      obtain ⟨i2',e2,gr2⟩:=g3.took t
      refine ⟨hur,.inr ⟨fun h=>(FR.nodepth none h).elim,.func g,_,g,#[.pointer (some ⟨b2,0,none⟩),.pointer (some ⟨b3,0,none⟩)],rfl,?_,fun f _=>FR.fn none f,?_⟩⟩
      ·show (invoke d.target d.args).run P w2=_
       have:=(hΓ.fn g fg hg).2 #[.pointer (some ⟨b2,0,none⟩),.pointer (some ⟨b3,0,none⟩)] w2
       simpa [invoke,d] using this
      ·exact clP_ok hΓ hS hN hg hbg hrg hq1 hq2 hq3 hq4 hq5 hq6 hq7 hd1 hd2 hdd3 hd4 hd5 hd6 hd7 hu1 hu2 hu3 hu4 hu5 hu6 hu7 hnt hex hv hsk haft hcl hi hl i2' g3.len e2 (stp3.pre.get q2) (stp3.pre.get q3) (gr2 S w (nR _) (stp1.grow.trans stp3.grow)) (stp1.pre.trans stp3.pre) (sfx_trans stp1.hp stp3.hp)
     cases ex with
     | norm=>exact fin .returning .returning (.l .nilI) false aN (by simp) (.inl ⟨rfl,rfl,rfl,rfl⟩) hk3
     | ret=>exact fin .returning .returning (.l .nilI) false aN (by simp) (.inl ⟨rfl,rfl,rfl,rfl⟩) hk3
     | exit i=>cases hk3
     | go l=>cases hk3
     | pan T =>
      simp only at hk3
      split at hk3
      ·rename_i hT
       have hT:=nB hT
       subst hT
       exact fin _ _ (.i (1000000+Te)) true aP (by simp) (.inr ⟨rfl,rfl,rfl,rfl⟩) hk3
      ·cases hk3
   refine wpIn_seq (wpIn_region ?_)
   show wpOpsIn (FR none) 0 P #[p1,p2] _ [0,1] a1' w1
   refine opsIn_value (o:=p1) (w':=w1) (v:=cv) rfl hpu1 hx1 (opsIn_defer (o:=p2) (w':=w1) (d:=d) rfl hpu2 (by rw [hpd1];exact hx2) ?_)
   rw [hpd1,hpd2]
   show rest.wpIn (FR none) 0 P _ { tmps:=a1'.tmps.setIfInBounds sf cv,defers:=d::a1'.defers } w1
   rw [hd]
   exact hrest
  ·cases hk1
end Go.PE
namespace Go.Proofs.YtobfnefajpiakaaGreatDoor
open Go Go.Abs Go.PE Go.Proofs
open Go.IntKind (wrap)
set_option maxRecDepth 100000
variable [EA]
noncomputable section
abbrev tR:Ty:=(.pair tI (.pair tI (.pair tI (.pair tI (.pair tI (.pair tI (.pair tI (.pair .str .str))))))))
abbrev tP:Ty:=(.pair tI tI)
abbrev tB:Ty:=(.pair tI tP)
abbrev tC:Ty:=(.pair tI (.pair tI tB))
abbrev tQ:Ty:=(.list tP)
abbrev tL:Ty:=(.list tI)
abbrev tO:Ty:=(.pair tI tQ)
abbrev tD:Ty:=(.pair tO (.list tC))
abbrev z0:Fl:=.s [] []
def ra:Nat→Nat→List Nat→List Nat
 | _,0,l=>l
 | a,n+1,l=>a::ra (a+1) n l
def za:Nat→List Fl→List Fl
 | 0,l=>l
 | n+1,l=>z0::za n l
theorem fc [db:DB] {f:FuncId} {ta tr:List Ty} {m:Tup (ta.map .d)→Option (Tup (tr.map .d))} {Γ:Tabs} (h:TabOK Tryz.prog Γ) (own:List Nat) (an:Ann) (fn:Func) (hm:∀ x,fnM OPS 400 Γ own an fn (fn.body.getD .skip) ta tr x=m x) (hf:lk Γ.fn f=some fn:=by kernel_rfl) (hb:fn.body=some (fn.body.getD .skip):=by kernel_rfl) (hn:Nat.ble ta.length fn.ntmps=true:=by kernel_rfl):SpecOK Tryz.prog f ⟨ta,tr,m⟩:=fnM_ok h OPS_sound OPS_nice hf hb hn hm
def tabsA:Tabs:={ tabs with mps:=[] }
theorem mpsOK:∀ f es,lk tabsA.mps f=some es→MapOK Tryz.prog f es:=by
 show ∀ f es,lk [] f=some es→MapOK Tryz.prog f es
 exact lk_none
theorem tabsAOK:TabOK Tryz.prog tabsA:=⟨tabsOK.ty,tabsOK.fn,tabsOK.sp,tabsOK.en,tabsOK.mixed,tabsOK.so,tabsOK.eqs,tabsOK.so1,mpsOK,tabsOK.ow,tabsOK.bt,tabsOK.ex,tabsOK.pp⟩
def ano36:Ann:=.a
def mo36:List (List UInt8)→Option (List (List UInt8)) :=
 fun x=>nilM x (some []) ((appM (nat_lit 16) [] x).bind fun r=>some r)
theorem co36:OwnOK Tryz.prog 36 ⟨[(.list .str)],.str,mo36⟩ :=
 fnOw_ok (own:=[]) (an:=ano36) (n:=400) tabsAOK (F:=OPS) OPS_sound OPS_nice (f:=36) (fn:=Tryz.f36) (code:=Tryz.f36.body.getD .skip) (by kernel_rfl) (by kernel_rfl) (by kernel_rfl) Tryz.call36 fun x=>by kernel_rfl
def tabsO36:Tabs:=Tabs.addOw tabsA 36 ⟨[(.list .str)],.str,mo36⟩
theorem tabsO36OK:TabOK Tryz.prog tabsO36:=TabOK.addOw tabsAOK co36
def tabsX:Tabs:=tabsO36
theorem tabsXOK:TabOK Tryz.prog tabsX:=tabsO36OK

/-! putlog/disk.New -/
def pa24:List SR:=[.c (.d (.d tI))]
def po24:List SO:=[]
def pk24:Skel:=⟨[(1000000,.t [.c (.h 1),.c (.d (.d tI))])],[],[],[.opt [.d (.d .bool),.d (.d tI),.h 2,.h 3,.h 4],.arr (.int .u8),.arr (.int .u8),.arr (.pair tI .str)]⟩
def an24:Ann:=.seq (.a) (.seq (.a) (.seq (.reg [0,1,0,4,15,31,63,127] (ra 0 8 ([])) [z0,.s [] [1],z0,.s [] [2],z0,.s [1,2] [3],z0,z0] (.a)) (.a)))
def m24:Int→Option (Int×Bool×Bool×Int×List Int×List Int×List (Int×List UInt8)) :=
 fun x=>bif PE.orM (ltM x 1) (ltM 4194304 x) then some (2,true,false,0,[],[],[]) else (mkM x x (nat_lit 1) 0).bind fun r=>(mkM x x (nat_lit 1) 0).bind
 fun r_1=>some (0,false,false,0,r,r_1,[])
theorem cp24:PSpecOK Tryz.prog 24 ⟨pa24,po24,pk24,[],m24⟩ :=
 fnP_ok (own:=[5000000]) (an:=an24) (n:=400) tabsXOK (F:=OPS) OPS_sound OPS_nice (f:=24) (fn:=Tryz.f24) (code:=Tryz.f24.body.getD .skip) (by kernel_rfl) (by kernel_rfl) (by kernel_rfl) (by kernel_rfl) fun G w0 x=>by kernel_rfl
def tabs24:Tabs:=Tabs.addP tabsX 24 ⟨pa24,po24,pk24,[],m24⟩
theorem tabs24OK:TabOK Tryz.prog tabs24:=TabOK.addP tabsXOK cp24

/-! (*putlog/disk.Disk).Size -/
def pa51:List SR:=[.c (.h 1)]
def po51:List SO:=[.opt [.d (.d .bool),.d (.d tI),.h 2,.h 3,.h 4],.arr (.int .u8),.arr (.int .u8),.arr (.pair tI .str)]
def pk51:Skel:=⟨[(1000000,.r (.c (.d (.d tI))))],[],[],[]⟩
def an51:Ann:=.a
def m51:(Bool×Bool×Int×List Int×List Int×List (Int×List UInt8))→Option (Int) :=
 fun x=>((nonM x.1).bind fun (x:Unit)=>some ()).bind fun (x_1:Unit)=>some (lenM x.2.2.2.1)
theorem cp51:PSpecOK Tryz.prog 51 ⟨pa51,po51,pk51,[1],m51⟩ :=
 fnP_ok (own:=[5000000]) (an:=an51) (n:=400) tabs24OK (F:=OPS) OPS_sound OPS_nice (f:=51) (fn:=Tryz.f51) (code:=Tryz.f51.body.getD .skip) (by kernel_rfl) (by kernel_rfl) (by kernel_rfl) (by kernel_rfl) fun G w0 x=>by kernel_rfl
def tabs51:Tabs:=Tabs.addP tabs24 51 ⟨pa51,po51,pk51,[1],m51⟩
theorem tabs51OK:TabOK Tryz.prog tabs51:=TabOK.addP tabs24OK cp51

/-! (*putlog/disk.Disk).Read -/
def pa52:List SR:=[.c (.h 1),.c (.d (.d tI)),.c (.d (.d tI))]
def po52:List SO:=[.opt [.d (.d .bool),.d (.d tI),.h 2,.h 3,.h 4],.arr (.int .u8),.arr (.int .u8),.arr (.pair tI .str)]
def pk52:Skel:=⟨[(1000000,.t [.c (.d (.d .str)),.c (.d (.d tI))])],[],[],[]⟩
def an52:Ann:=.seq (.a) (.seq (.seq (.reg [] [] [z0,.r,z0] (.call [5000000] [(.norm,⟨[(10,.r (.c (.d (.d tI))))],[],[],[]⟩)] (.seq (.a) (.a)) (.a))) (.a)) (.seq (.seq (.reg [] [] [z0,z0,z0,.r,z0] (.call [5000000] [] (.seq (.a) (.a)) (.a))) (.a)) (.a)))
def m52:(Int×Int×Bool×Bool×Int×List Int×List Int×List (Int×List UInt8))→Option (List UInt8×Int) :=
 fun x=>((nonM x.2.2.1).bind fun (x:Unit)=>some ()).bind fun (x_1:Unit)=>(bif x.2.2.2.1 then some 361 else some 0).bind fun (ov:Int)=>bif PE.notM
 (eqM ov 0) then some ([],ov) else bif PE.notM (PE.andM (PE.andM (PE.andM (leM 0 x.1) (leM 0 x.2.1)) (leM x.1 (lenM x.2.2.2.2.2.1))) (leM x.2.1 (wrap
 IntKind.i64 (lenM x.2.2.2.2.2.1-x.1)))) then some ([],360) else (chkM x.1 (lenM x.2.2.2.2.2.2.1)).bind fun r=>(chkM x.2.1 (lenM x.2.2.2.2.2.2.1-x.1 +
 1)).bind fun r=>some (strB (partV x.2.2.2.2.2.2.1 (Int.toNat x.1) (Int.toNat x.2.1)),0)
theorem cp52:PSpecOK Tryz.prog 52 ⟨pa52,po52,pk52,[1],m52⟩ :=
 fnP_ok (own:=[2000024,2000026,5000000]) (an:=an52) (n:=400) tabs51OK (F:=OPS) OPS_sound OPS_nice (f:=52) (fn:=Tryz.f52) (code:=Tryz.f52.body.getD .skip) (by kernel_rfl) (by kernel_rfl) (by kernel_rfl) (by kernel_rfl) fun G w0 x=>by kernel_rfl
def tabs52:Tabs:=Tabs.addP tabs51 52 ⟨pa52,po52,pk52,[1],m52⟩
theorem tabs52OK:TabOK Tryz.prog tabs52:=TabOK.addP tabs51OK cp52

/-! putlog/wire.Int -/
def as113:List Ty:=[.str,tI]
def rs113:List Ty:=[tI,tI,tI]
def an113:Ann:=.seq (.a) (.seq (.a) (.seq (.a) (.seq (.seq (.a) (.block (.loop ⟨[(7,.r (.c (.d (.d (.int .u64))))),(19,.r (.c (.d (.d tI))))],(8::9::ra 20 23 (66::[])),[],[]⟩ [(.exit 0,⟨[],(7::8::9::10::ra 19 42 (66::[])),[],[]⟩),(.ret,⟨[(4,.r (.c (.d (.d tI)))),(5,.r (.c (.d (.d tI)))),(6,.r (.c (.d (.d tI))))],(7::8::9::10::ra 19 48 ([])),[],[]⟩)] (.a)))) (.a))))
def m113:(List UInt8×Int)→Option (Int×Int×Int) :=
 fun x=>bif PE.orM (ltM x.2 0) (ltM (lenM x.1) x.2) then some (0,0,2) else (loopM (fun (s:Int×Int)=>bif ltM s.2 9 then bif leM (lenM x.1) (wrap
 IntKind.i64 (x.2+s.2)) then some (Sum.inr (Sum.inl ())) else (byteM x.1 (wrap .i64 (x.2+s.2))).bind fun r=>(shlM .u64 (wrap IntKind.u64
 (bitM BinOp.and .u8 r 127)) (wrap .i64 (7*s.2))).bind fun r_1=>bif leM 128 r then some (Sum.inl (bitM BinOp.or .u64 s.1 r_1,wrap
 IntKind.i64 (s.2+1))) else (shrM .u64 (bitM BinOp.or .u64 s.1 r_1) 1).bind fun r_2=>bif PE.orM (PE.andM (eqM r 0) (ltM 0 s.2)) (ltM (bitM
 BinOp.xor IntKind.i64 (wrap .i64 r_2) (wrap .i64 (negM (wrap .i64 (bitM BinOp.and .u64 (bitM BinOp.or .u64 s.1 r_1) 1)))))
 (-4611686018427387903)) then some (Sum.inr (Sum.inl ())) else some (Sum.inr (Sum.inr (bitM BinOp.xor .i64 (wrap .i64 r_2) (wrap IntKind.i64
 (negM (wrap .i64 (bitM BinOp.and .u64 (bitM BinOp.or .u64 s.1 r_1) 1)))),wrap .i64 (wrap .i64 (x.2+s.2)+1),0))) else
 some (Sum.inr (Sum.inl ()))) (0,0)).bind fun o=>Sum.elim (fun (t:Unit)=>some (0,0,10)) (fun (t:Int×Int×Int)=>some (t.1,t.2.1,t.2.2)) o
theorem c113:SpecOK Tryz.prog 113 ⟨as113,rs113,m113⟩ :=
 fc tabs52OK [] an113 Tryz.f113 fun x=>by kernel_rfl
def tabs113:Tabs:=Tabs.add tabs52 113 ⟨as113,rs113,m113⟩
theorem tabs113OK:TabOK Tryz.prog tabs113:=TabOK.add tabs52OK c113 Tryz.call113

/-! putlog/wire.String -/
def as101:List Ty:=[.str,tI]
def rs101:List Ty:=[.str,tI,tI]
def an101:Ann:=.a
def m101:(List UInt8×Int)→Option (List UInt8×Int×Int) :=
 fun x=>(m113 (x.1,x.2)).bind fun r=>bif PE.notM (eqM r.2.2 0) then some ([],0,r.2.2) else bif PE.orM (PE.orM (ltM r.1 0) (ltM 65536 r.1)) (ltM (wrap
 IntKind.i64 (lenM x.1-r.2.1)) r.1) then some ([],0,10) else (sliceM x.1 r.2.1 (wrap .i64 (r.2.1+r.1))).bind fun r_1=>some (r_1,wrap
 IntKind.i64 (r.2.1+r.1),0)
theorem c101:SpecOK Tryz.prog 101 ⟨as101,rs101,m101⟩ :=
 fc tabs113OK [] an101 Tryz.f101 fun x=>by kernel_rfl
def tabs101:Tabs:=Tabs.add tabs113 101 ⟨as101,rs101,m101⟩
theorem tabs101OK:TabOK Tryz.prog tabs101:=TabOK.add tabs113OK c101 Tryz.call101

/-! putlog/digest.mixed -/
def as145:List Ty:=[(.int .u32),tL]
def rs145:List Ty:=[(.int .u32)]
def an145:Ann:=.seq (.a) (.seq (.a) (.seq (.seq (.a) (.block (.loop ⟨[(5,.r (.c (.d (.d (.int .u32))))),(10,.r (.c (.d (.d tI))))],(7::ra 11 10 ([])),[],[]⟩ [(.exit 0,⟨[(5,.r (.c (.d (.d (.int .u32)))))],(7::ra 10 11 ([])),[],[]⟩)] (.seq (.a) (.seq (.a) (.seq (.block (.seq (.a) (.reg [] [] [z0,z0,z0,z0,.r,z0,z0] (.call [] [] (.seq (.a) (.a)) (.a))))) (.a))))))) (.a)))
def m145:(Int×List Int)→Option (Int) :=
 fun x=>(loopM (fun (s:Int×Int)=>bif ltM s.2 (lenM x.2) then (idxM x.2 s.2).bind fun r=>(shlM .u32 x.1 (bitM BinOp.and .u64 (wrap
 IntKind.u64 (wrap .i64 (negM r))) 31)).bind fun r_1=>(shrM .u32 x.1 (wrap .u64 (32-bitM BinOp.and .u64 (wrap .u64 (wrap
 IntKind.i64 (negM r))) 31))).bind fun r=>some (Sum.inl (bitM BinOp.xor .u32 s.1 (bitM BinOp.or .u32 r_1 r),wrap .i64 (s.2+1))) else
 some (Sum.inr s.1)) (0,0)).bind fun o=>some o
theorem c145:SpecOK Tryz.prog 145 ⟨as145,rs145,m145⟩ :=
 fc tabs101OK [] an145 Tryz.f145 fun x=>by kernel_rfl
def tabs145:Tabs:=Tabs.add tabs101 145 ⟨as145,rs145,m145⟩
theorem tabs145OK:TabOK Tryz.prog tabs145:=TabOK.add tabs101OK c145 Tryz.call145

/-! (putlog/digest.words).digest -/
def as130:List Ty:=[(.pair (.int .u32) (.pair (.int .u32) (.pair (.int .u32) (.pair (.int .u32) (.pair (.int .u32) (.pair (.int .u32) (.pair (.int .u32) (.int .u32))))))))]
def rs130:List Ty:=[.str]
def an130:Ann:=.seq (.a) (.seq (.a) (.seq (.seq (.a) (.block (.loop ⟨[(8,.r (.c (.d (.d tI))))],(4::5::6::ra 9 19 ([])),[(1,.flat 32 (.int .u8))],[]⟩ [(.exit 0,⟨[],(4::5::6::ra 8 20 ([])),[(1,.flat 32 (.int .u8))],[]⟩)] (.seq (.a) (.seq (.a) (.seq (.block (.seq (.a) (.seq (.a) (.block (.loop ⟨[(12,.r (.c (.d (.d tI))))],(6::ra 13 14 ([])),[(1,.flat 32 (.int .u8))],[]⟩ [(.exit 2,⟨[],(6::ra 12 15 ([])),[(1,.flat 32 (.int .u8))],[]⟩)] (.a)))))) (.a))))))) (.a)))
def m130:(Int×Int×Int×Int×Int×Int×Int×Int)→Option (List UInt8) :=
 fun x=>(loopM (fun (s:Int×List Int)=>bif ltM s.1 8 then (idxM [x.1,x.2.1,x.2.2.1,x.2.2.2.1,x.2.2.2.2.1,x.2.2.2.2.2.1,x.2.2.2.2.2.2.1,
 x.2.2.2.2.2.2.2] s.1).bind fun r=>(loopM (fun (s_1:Int×List Int)=>bif ltM s_1.1 4 then (shrM .u32 r (wrap .i64 (24-wrap .i64 (8
 * s_1.1)))).bind fun r_1=>(chkM (wrap .i64 (wrap .i64 (4*s.1)+s_1.1)) ↑(nat_lit 32)).bind fun r_2=>(setM s_1.2 (↑(nat_lit 0)+wrap
 IntKind.i64 (wrap .i64 (4*s.1)+s_1.1)*↑(nat_lit 1)) fun (x:Int)=>some (wrap .u8 r_1)).bind fun r=>some (Sum.inl (wrap IntKind.i64
 (s_1.1+1),r)) else some (Sum.inr s_1.2)) (0,s.2)).bind fun o=>some (Sum.inl (wrap .i64 (s.1+1),o)) else some (Sum.inr s.2)) (0,[0,0,0,0,
 0,0,0,0,0,0,0,0,0,0,0,0,0,0,0,0,0,0,0,0,0,0,0,0,0,0,0,0])).bind fun o=>some (strB (partV o (nat_lit 0) (nat_lit 32)))
theorem c130:SpecOK Tryz.prog 130 ⟨as130,rs130,m130⟩ :=
 fc tabs145OK [1,3] an130 Tryz.f130 fun x=>by kernel_rfl
def tabs130:Tabs:=Tabs.add tabs145 130 ⟨as130,rs130,m130⟩
theorem tabs130OK:TabOK Tryz.prog tabs130:=TabOK.add tabs145OK c130 Tryz.call130

/-! putlog/digest.Sum -/
def as110:List Ty:=[.str]
def rs110:List Ty:=[.str]
def an110:Ann:=.seq (.a) (.seq (.a) (.seq (.a) (.seq (.block (.loop ⟨[(4,.r (.c (.h 3)))],(ra 12 7 ([])),[(2,.gone)],[.arr (.int .u8)]⟩ [(.exit 0,⟨[(4,.r (.c (.h 3)))],(ra 12 7 ([])),[(2,.gone)],[.arr (.int .u8)]⟩)] (.a))) (.seq (.seq (.a) (.block (.loop ⟨[(4,.r (.c (.h 4))),(5,.r (.c (.d (.d tI))))],(ra 19 14 ([])),[(3,.gone)],[.arr (.int .u8)]⟩ [(.exit 2,⟨[(4,.r (.c (.h 4)))],(5::ra 19 14 ([])),[(3,.gone)],[.arr (.int .u8)]⟩)] (.a)))) (.seq (.seq (.reg [] [] [z0,.r] (.call [] [] (.seq (.a) (.a)) (.a))) (.block (.call [] [] (.seq (.a) (.block (.loop ⟨[(4,.r (.c (.d (.d tI))))],(ra 5 26 ([])),[(0,.flat 8 (.int .u32)),(4,.frz (.int .u8)),(7,.lp .ready)],[]⟩ [(.exit 0,⟨[],(ra 4 27 ([])),[(0,.flat 8 (.int .u32)),(4,.frz (.int .u8)),(7,.lp .ready)],[]⟩)] (.seq (.a) (.seq (.block (.seq (.reg [0,0,0,6,14,31,63] (ra 0 7 ([])) (.s [6] []::.s [5] []::z0::.s [4] []::za 3 ([])) (.a)) (.seq (.reg [] [] [z0,.s [5] [],z0,z0,z0,z0,z0,z0,z0,.s [4] [],.r,z0] (.call [3] [] (.seq (.a) (.block (.reg [] [] [z0,.r] (.call [4,5] [] (.seq (.reg [] [] [z0,.r,.s [] [9],.s [9] [9]] (.call [2] [] (.seq (.a) (.seq (.seq (.a) (.block (.loop ⟨[(7,.r (.c (.d (.d tI))))],(3::ra 8 38 ([])),[(8,.flat 64 (.int .u32))],[]⟩ [(.exit 0,⟨[],(3::ra 7 39 ([])),[(8,.flat 64 (.int .u32))],[]⟩)] (.seq (.a) (.seq (.a) (.seq (.block (.seq (.a) (.reg [0,0,0,4,14,30,62,126,0,0,512,1536,3840,7936,16128,32512,65534,0,0,262144,786432,1966080,4063232,8257536,16646144,33554430,0,0,134217728,402653184,1006632960,2080374784,4227858432,8589934590,17179869183,34359738367] (ra 0 36 ([])) (za 34 (.s [8] []::.s [8] [8]::[])) (.a)))) (.a))))))) (.seq (.seq (.a) (.block (.loop ⟨[(4,.r (.c (.d (.d tI))))],(5::6::ra 46 37 ([])),[(8,.flat 64 (.int .u32))],[]⟩ [(.exit 2,⟨[],(4::5::6::ra 46 37 ([])),[(8,.flat 64 (.int .u32))],[]⟩)] (.seq (.a) (.seq (.block (.seq (.reg [0,1,3,7,0,16,48,112,15,511] (ra 0 10 ([])) [z0,z0,.s [8] [],.s [8] [],z0,z0,.s [8] [],.s [8] [],z0,z0] (.a)) (.reg [0,0,2,6,14,0,0,96,0,256,992,2046,0,4096,12288,28672,65534,0,0,393440,0,1048576,4063456,8388606,16777215,33554431] (ra 0 26 ([])) (za 3 (.s [8] []::.s [8] []::za 9 (.s [8] []::.s [8] []::za 8 (.s [8] []::.s [8] [8]::[])))) (.a)))) (.a)))))) (.a)))) (.a))) (.seq (.a) (.seq (.seq (.a) (.block (.loop ⟨[(19,.r (.c (.d (.d tI))))],(ra 6 6 (ra 20 62 ([]))),[(10,.flat 8 (.int .u32))],[]⟩ [(.exit 0,⟨[],(ra 6 6 (ra 19 63 ([]))),[(10,.flat 8 (.int .u32))],[]⟩)] (.seq (.a) (.seq (.a) (.seq (.block (.seq (.a) (.seq (.reg [0,1,0,4,3,31] (ra 0 6 ([])) [z0,.s [10] [],z0,.s [10] [],z0,z0] (.a)) (.seq (.reg [0,1,0,0,12,31,0,0,128,448,0,1024,0,4096,15360,32704,65535,0,262143,0,524288,1572864,4194303,8388607] (ra 0 24 ([])) (z0::.s [10] []::za 6 (.s [10] []::za 4 (.s [10] []::za 6 (.s [9] []::.s [9] []::z0::z0::[])))) (.a)) (.seq (.reg [0,0,3,0,0,16,56,0,0,256,896,2040,0,4096,0,16384,61440,131064,262143,524287] (ra 0 20 ([])) (za 5 (.s [10] []::za 3 (.s [10] []::za 3 (.s [10] []::z0::.s [10] []::za 4 ([]))))) (.a)) (.seq (.reg [0,0,3] [0,1,2] [.s [10] [],.s [10] [],.s [10,10] [10]] (.a)) (.a))))))) (.a))))))) (.seq (.a) (.block (.loop ⟨[(82,.r (.c (.d (.d tI))))],(12::ra 83 14 ([])),[(0,.flat 8 (.int .u32))],[]⟩ [(.exit 2,⟨[],(12::ra 82 15 ([])),[(0,.flat 8 (.int .u32))],[]⟩)] (.seq (.a) (.seq (.a) (.seq (.block (.seq (.a) (.reg [0,0,1,7,15,0,32,96,255,1,1023,2047] (ra 0 12 ([])) (za 3 (.s [0] []::.s [0] []::z0::.s [10] []::.s [10] []::z0::z0::.s [0] []::.s [0] [0]::[])) (.a)))) (.a)))))))))) (.a))))) (.a))) (.a)))) (.a)))))) (.a)))) (.a))))))
def m110:List UInt8→Option (List UInt8) :=
 fun x=>(bytesM x).bind fun r=>(appM (nat_lit 1) r [128]).bind fun r_1=>(loopM (fun (s:List Int)=>(remM (lenM s) 64).bind fun r_2=>bif PE.notM (eqM
 r_2 56) then (appM (nat_lit 1) s [0]).bind fun r=>some (Sum.inl r) else some (Sum.inr s)) r_1).bind fun o=>(loopM (fun (s:Int×List Int)=>bif leM 0
 s.1 then (shrM .i64 (wrap .i64 (8*lenM x)) (wrap .i64 (8*s.1))).bind fun r_2=>(appM (nat_lit 1) s.2 [wrap .u8 r_2]).bind fun
 r=>some (Sum.inl (wrap .i64 (s.1-1),r)) else some (Sum.inr s.2)) (7,o)).bind fun o_1=>(loopM (fun (s:Int×List Int×List Int)=>bif ltM
 s.1 (lenM s.2.2) then (sliceM s.2.2 s.1 (lenM s.2.2)).bind fun r_2=>((sameM (wrap .i64 (s.1+min 64 (lenM r_2))) (wrap .i64 (s.1+min 64
 (lenM r_2)))).bind fun (x:Unit)=>sliceM s.2.2 s.1 (wrap .i64 (s.1+min 64 (lenM r_2)))).bind fun r_3=>(loopM (fun (s_1:Int×List Int)=>bif
 ltM s_1.1 16 then (idxM r_3 (wrap .i64 (4*s_1.1))).bind fun r_4=>(shlM .u32 (wrap .u32 r_4) 24).bind fun r_5=>(idxM r_3 (wrap
 IntKind.i64 (wrap .i64 (4*s_1.1)+1))).bind fun r_6=>(shlM .u32 (wrap .u32 r_6) 16).bind fun r_7=>(idxM r_3 (wrap IntKind.i64
 (wrap .i64 (4*s_1.1)+2))).bind fun r_8=>(shlM .u32 (wrap .u32 r_8) 8).bind fun r_9=>(idxM r_3 (wrap .i64 (wrap IntKind.i64
 (4*s_1.1)+3))).bind fun r_10=>(chkM s_1.1 ↑(nat_lit 64)).bind fun r_11=>(setM s_1.2 (↑(nat_lit 0)+s_1.1*↑(nat_lit 1)) fun (x:Int)=>some (bitM
 BinOp.or IntKind.u32 (bitM BinOp.or .u32 (bitM BinOp.or .u32 r_5 r_7) r_9) (wrap .u32 r_10))).bind fun r=>some (Sum.inl (wrap
 IntKind.i64 (s_1.1+1),r)) else some (Sum.inr s_1.2)) (0,[0,0,0,0,0,0,0,0,0,0,0,0,0,0,0,0,0,0,0,0,0,0,0,0,0,0,0,0,0,0,0,0,
 0,0,0,0,0,0,0,0,0,0,0,0,0,0,0,0,0,0,0,0,0,0,0,0,0,0,0,0,0,0,0,0])).bind fun o_2=>(loopM (fun (s_1:Int×List Int)=>bif
 ltM s_1.1 64 then (chkM (wrap .i64 (s_1.1-15)) ↑(nat_lit 64)).bind fun r_4=>(idxM s_1.2 (↑(nat_lit 0)+wrap .i64 (s_1.1-15)*↑(nat_lit
 1))).bind fun r_5=>(chkM (wrap .i64 (s_1.1-2)) ↑(nat_lit 64)).bind fun r_6=>(idxM s_1.2 (↑(nat_lit 0)+wrap .i64 (s_1.1-2)*↑(nat_lit
 1))).bind fun r_7=>(chkM (wrap .i64 (s_1.1-16)) ↑(nat_lit 64)).bind fun r_8=>(idxM s_1.2 (↑(nat_lit 0)+wrap .i64 (s_1.1-16) *
 ↑(nat_lit 1))).bind fun r_9=>(m145 (r_5,[7,18])).bind fun r_10=>(shrM .u32 r_5 3).bind fun r_11=>(chkM (wrap .i64 (s_1.1-7)) ↑(nat_lit
 64)).bind fun r_12=>(idxM s_1.2 (↑(nat_lit 0)+wrap .i64 (s_1.1-7)*↑(nat_lit 1))).bind fun r_13=>(m145 (r_7,[17,19])).bind fun r_14=>(shrM
 IntKind.u32 r_7 10).bind fun r_15=>(chkM s_1.1 ↑(nat_lit 64)).bind fun r_16=>(setM s_1.2 (↑(nat_lit 0)+s_1.1*↑(nat_lit 1)) fun (x:Int)=>some (wrap
 IntKind.u32 (wrap .u32 (wrap .u32 (r_9+bitM BinOp.xor .u32 r_10 r_11)+r_13)+bitM BinOp.xor .u32 r_14 r_15))).bind fun r =>
 some (Sum.inl (wrap .i64 (s_1.1+1),r)) else some (Sum.inr s_1.2)) (16,o_2)).bind fun o_3=>(loopM (fun (s_1:Int×List Int)=>bif ltM s_1.1 64
 then (idxM [1116352408,1899447441,3049323471,3921009573,961987163,1508970993,2453635748,2870763221,3624381080,310598401,607225278,1426881987,
 1925078388,2162078206,2614888103,3248222580,3835390401,4022224774,264347078,604807628,770255983,1249150122,1555081692,1996064986,2554220882,
 2821834349,2952996808,3210313671,3336571891,3584528711,113926993,338241895,666307205,773529912,1294757372,1396182291,1695183700,1986661051,
 2177026350,2456956037,2730485921,2820302411,3259730800,3345764771,3516065817,3600352804,4094571909,275423344,430227734,506948616,659060556,
 883997877,958139571,1322822218,1537002063,1747873779,1955562222,2024104815,2227730452,2361852424,2428436474,2756734187,3204031479,3329325298]
 s_1.1).bind fun r_4=>(idxM s_1.2 ↑(nat_lit 0)).bind fun r_5=>(idxM s_1.2 ↑(nat_lit 4)).bind fun r_6=>(idxM s_1.2 ↑(nat_lit 7)).bind fun r_7=>(m145
 (r_6,[6,11,25])).bind fun r_8=>(idxM s_1.2 ↑(nat_lit 5)).bind fun r_9=>(idxM s_1.2 ↑(nat_lit 6)).bind fun r_10=>(chkM s_1.1 ↑(nat_lit 64)).bind fun
 r_11=>(idxM [nthD o_3 (nat_lit 0) 0,nthD o_3 (nat_lit 1) 0,nthD o_3 (nat_lit 2) 0,nthD o_3 (nat_lit 3) 0,nthD o_3 (nat_lit 4) 0,nthD o_3 (nat_lit 5) 0,
 nthD o_3 (nat_lit 6) 0,nthD o_3 (nat_lit 7) 0,nthD o_3 (nat_lit 8) 0,nthD o_3 (nat_lit 9) 0,nthD o_3 (nat_lit 10) 0,nthD o_3 (nat_lit 11) 0,nthD o_3
 (nat_lit 12) 0,nthD o_3 (nat_lit 13) 0,nthD o_3 (nat_lit 14) 0,nthD o_3 (nat_lit 15) 0,nthD o_3 (nat_lit 16) 0,nthD o_3 (nat_lit 17) 0,nthD o_3 (nat_lit
 18) 0,nthD o_3 (nat_lit 19) 0,nthD o_3 (nat_lit 20) 0,nthD o_3 (nat_lit 21) 0,nthD o_3 (nat_lit 22) 0,nthD o_3 (nat_lit 23) 0,nthD o_3 (nat_lit 24) 0,
 nthD o_3 (nat_lit 25) 0,nthD o_3 (nat_lit 26) 0,nthD o_3 (nat_lit 27) 0,nthD o_3 (nat_lit 28) 0,nthD o_3 (nat_lit 29) 0,nthD o_3 (nat_lit 30) 0,nthD o_3
 (nat_lit 31) 0,nthD o_3 (nat_lit 32) 0,nthD o_3 (nat_lit 33) 0,nthD o_3 (nat_lit 34) 0,nthD o_3 (nat_lit 35) 0,nthD o_3 (nat_lit 36) 0,nthD o_3 (nat_lit
 37) 0,nthD o_3 (nat_lit 38) 0,nthD o_3 (nat_lit 39) 0,nthD o_3 (nat_lit 40) 0,nthD o_3 (nat_lit 41) 0,nthD o_3 (nat_lit 42) 0,nthD o_3 (nat_lit 43) 0,
 nthD o_3 (nat_lit 44) 0,nthD o_3 (nat_lit 45) 0,nthD o_3 (nat_lit 46) 0,nthD o_3 (nat_lit 47) 0,nthD o_3 (nat_lit 48) 0,nthD o_3 (nat_lit 49) 0,nthD o_3
 (nat_lit 50) 0,nthD o_3 (nat_lit 51) 0,nthD o_3 (nat_lit 52) 0,nthD o_3 (nat_lit 53) 0,nthD o_3 (nat_lit 54) 0,nthD o_3 (nat_lit 55) 0,nthD o_3 (nat_lit
 56) 0,nthD o_3 (nat_lit 57) 0,nthD o_3 (nat_lit 58) 0,nthD o_3 (nat_lit 59) 0,nthD o_3 (nat_lit 60) 0,nthD o_3 (nat_lit 61) 0,nthD o_3 (nat_lit 62) 0,
 nthD o_3 (nat_lit 63) 0] (↑(nat_lit 0)+s_1.1*↑(nat_lit 1))).bind fun r_12=>(m145 (r_5,[2,13,22])).bind fun r_13=>(idxM s_1.2 ↑(nat_lit 1)).bind fun
 r_14=>(idxM s_1.2 ↑(nat_lit 2)).bind fun r_15=>(idxM s_1.2 ↑(nat_lit 1)).bind fun r_16=>(idxM s_1.2 ↑(nat_lit 2)).bind fun r_17=>(idxM (moveV s_1.2
 (nat_lit 1) (nat_lit 0) (nat_lit 7)) ↑(nat_lit 4)).bind fun r_18=>(setM (moveV s_1.2 (nat_lit 1) (nat_lit 0) (nat_lit 7)) ↑(nat_lit 0) fun (x:Int)=>some
 (wrap .u32 (wrap .u32 (wrap .u32 (wrap .u32 (wrap .u32 (r_7+r_8)+bitM BinOp.xor .u32 (bitM BinOp.and IntKind.u32
 r_6 r_9) (bitM BinOp.and .u32 (cplM .u32 r_6) r_10))+r_4)+r_12)+wrap .u32 (r_13+bitM BinOp.xor .u32 (bitM BinOp.xor
 IntKind.u32 (bitM BinOp.and .u32 r_5 r_14) (bitM BinOp.and .u32 r_5 r_15)) (bitM BinOp.and .u32 r_16 r_17))))).bind fun r_19=>(setM
 r_19 ↑(nat_lit 4) fun (x:Int)=>some (wrap .u32 (r_18+wrap .u32 (wrap .u32 (wrap .u32 (wrap .u32 (r_7+r_8)+bitM
 BinOp.xor IntKind.u32 (bitM BinOp.and .u32 r_6 r_9) (bitM BinOp.and .u32 (cplM .u32 r_6) r_10))+r_4)+r_12)))).bind fun r=>some
 (Sum.inl (wrap .i64 (s_1.1+1),r)) else some (Sum.inr s_1.2)) (0,[nthD s.2.1 (nat_lit 0) 0,nthD s.2.1 (nat_lit 1) 0,nthD s.2.1 (nat_lit 2) 0,nthD
 s.2.1 (nat_lit 3) 0,nthD s.2.1 (nat_lit 4) 0,nthD s.2.1 (nat_lit 5) 0,nthD s.2.1 (nat_lit 6) 0,nthD s.2.1 (nat_lit 7) 0])).bind fun o_4=>(loopM (fun
 (s_1:Int×List Int)=>bif ltM s_1.1 8 then (chkM s_1.1 ↑(nat_lit 8)).bind fun r_4=>(idxM s_1.2 (↑(nat_lit 0)+s_1.1*↑(nat_lit 1))).bind fun r_5 =>
 (chkM s_1.1 ↑(nat_lit 8)).bind fun r_6=>(idxM o_4 (↑(nat_lit 0)+s_1.1*↑(nat_lit 1))).bind fun r_7=>(chkM s_1.1 ↑(nat_lit 8)).bind fun r_8=>(setM
 s_1.2 (↑(nat_lit 0)+s_1.1*↑(nat_lit 1)) fun (x:Int)=>some (wrap .u32 (r_5+r_7))).bind fun r=>some (Sum.inl (wrap .i64 (s_1.1+1),
 r)) else some (Sum.inr s_1.2)) (0,s.2.1)).bind fun o=>some (Sum.inl (wrap .i64 (s.1+64),o,s.2.2)) else some (Sum.inr (s.2.1,s.2.2))) (0,
 [1779033703,3144134277,1013904242,2773480762,1359893119,2600822924,528734635,1541459225],o_1)).bind fun o_2=>(m130 (nthD o_2.1 (nat_lit 0) 0,nthD
 o_2.1 (nat_lit 1) 0,nthD o_2.1 (nat_lit 2) 0,nthD o_2.1 (nat_lit 3) 0,nthD o_2.1 (nat_lit 4) 0,nthD o_2.1 (nat_lit 5) 0,nthD o_2.1 (nat_lit 6) 0,nthD
 o_2.1 (nat_lit 7) 0)).bind fun r=>some r
theorem c110:SpecOK Tryz.prog 110 ⟨as110,rs110,m110⟩ :=
 fc tabs130OK [3] an110 Tryz.f110 fun x=>by kernel_rfl
def tabs110:Tabs:=Tabs.add tabs130 110 ⟨as110,rs110,m110⟩
theorem tabs110OK:TabOK Tryz.prog tabs110:=TabOK.add tabs130OK c110 Tryz.call110

/-! putlog/digest.Chain -/
def as70:List Ty:=[.str,.str]
def rs70:List Ty:=[.str]
def an70:Ann:=.seq (.a) (.seq (.reg [] [] [.r,z0,z0,z0,.r,z0] (.call [] [] (.seq (.a) (.a)) (.call [] [] (.seq (.a) (.seq (.reg [0,0,2,7,15,31] (ra 0 6 ([])) (.s [0] []::za 5 ([])) (.a)) (.a))) (.a)))) (.a))
def m70:(List UInt8×List UInt8)→Option (List UInt8) :=
 fun x=>(joinM [x.1,x.2] []).bind fun r=>(catM [(2:UInt8)] r).bind fun r_1=>(m110 r_1).bind fun r=>some r
theorem c70:SpecOK Tryz.prog 70 ⟨as70,rs70,m70⟩ :=
 fc tabs110OK [] an70 Tryz.f70 fun x=>by kernel_rfl
def tabs70:Tabs:=Tabs.add tabs110 70 ⟨as70,rs70,m70⟩
theorem tabs70OK:TabOK Tryz.prog tabs70:=TabOK.add tabs110OK c70 Tryz.call70

/-! putlog/wire.PutInt -/
def as96:List Ty:=[tI]
def rs96:List Ty:=[.str,tI]
def an96:Ann:=.seq (.a) (.seq (.a) (.seq (.a) (.seq (.seq (.reg [] [] [z0,z0,z0,z0,z0,z0,z0,.r] (.call [] [] (.seq (.a) (.a)) (.a))) (.block (.call [] [] (.block (.loop ⟨[],(ra 3 15 ([])),[(0,.box [.h 3]),(1,.box [.d (.d (.int .u64))]),(2,.lp .ready)],[.arr (.int .u8)]⟩ [(.ret,⟨[],(ra 3 15 ([])),[(0,.box [.h 3]),(1,.box [.d (.d (.int .u64))]),(2,.lp .ready)],[.arr (.int .u8)]⟩)] (.block (.seq (.a) (.seq (.seq (.reg [] [] [z0,.s [1] [],z0,z0,z0,.r,z0,z0,z0,z0] (.call [] [] (.seq (.a) (.block (.seq (.join [(.norm,⟨[(5,.r (.c (.d (.d (.int .u8)))))],[23,24,25,26],[],[]⟩)] (.a)) (.a)))) (.gq z0 (.a) (.a)))) (.a)) (.a)))))) (.a)))) (.a))))
def m96:Int→Option (List UInt8×Int) :=
 fun x=>bif PE.orM (ltM x (-4611686018427387903)) (ltM 4611686018427387903 x) then some ([],10) else (shlM .u64 (wrap .u64 x) 1).bind fun r =>
 (shrM .i64 x 63).bind fun r_1=>(loopM (fun (s:Int×List Int)=>(bif PE.notM (ltM s.1 128) then some (bitM BinOp.or .u8 (wrap IntKind.u8
 (bitM BinOp.and .u64 s.1 127)) 128) else some (wrap .u8 (bitM BinOp.and .u64 s.1 127))).bind fun o=>(appM (nat_lit 1) s.2 [o]).bind fun
 r_2=>bif PE.orM false (ltM s.1 128) then some (Sum.inr (s.1,r_2)) else (shrM .u64 s.1 7).bind fun r=>some (Sum.inl (r,r_2))) (bitM BinOp.xor
 IntKind.u64 r (wrap .u64 r_1),[])).bind fun o=>some (strB o.2,0)
theorem c96:SpecOK Tryz.prog 96 ⟨as96,rs96,m96⟩ :=
 fc tabs70OK [] an96 Tryz.f96 fun x=>by kernel_rfl
def tabs96:Tabs:=Tabs.add tabs70 96 ⟨as96,rs96,m96⟩
theorem tabs96OK:TabOK Tryz.prog tabs96:=TabOK.add tabs70OK c96 Tryz.call96

/-! putlog/wire.PutString -/
def as71:List Ty:=[.str]
def rs71:List Ty:=[.str,tI]
def an71:Ann:=.a
def m71:List UInt8→Option (List UInt8×Int) :=
 fun x=>bif ltM 65536 (lenM x) then some ([],10) else (m96 (lenM x)).bind fun r=>(catM r.1 x).bind fun r=>some (r,0)
theorem c71:SpecOK Tryz.prog 71 ⟨as71,rs71,m71⟩ :=
 fc tabs96OK [] an71 Tryz.f71 fun x=>by kernel_rfl
def tabs71:Tabs:=Tabs.add tabs96 71 ⟨as71,rs71,m71⟩
theorem tabs71OK:TabOK Tryz.prog tabs71:=TabOK.add tabs96OK c71 Tryz.call71

/-! putlog/journal.open -/
def pa54:List SR:=[.c (.h 1),.c (.d (.d .str))]
def po54:List SO:=[.opt [.d (.d .bool),.d (.d tI),.h 2,.h 3,.h 4],.arr (.int .u8),.arr (.int .u8),.arr (.pair tI .str)]
def pk54:Skel:=⟨[(1000000,.t [.c (.h 5),.c (.d (.d tI))])],[],[],[.opt [.h 6,.d (.d .str),.d (.d tI),.h 1,.d (.d .bool)],.arr .str]⟩
def an054:Ann:=.a
def anb54:Ann:=.seq (.a) (.seq (.reg [] [] [.s [5] [],z0,z0,z0,.r] (.call [5000000] [] (.block (.loop ⟨[],(ra 4 57 ([])),[(8,.box [.h 9,.d (.d .str),.d (.d tI),.h 1,.d (.d .bool)])],[.arr .str]⟩ [(.exit 0,⟨[],(ra 4 57 ([])),[(8,.box [.h 9,.d (.d .str),.d (.d tI),.h 1,.d (.d .bool)])],[.arr .str]⟩),(.pan 1000222,⟨[],(ra 4 57 ([])),[(8,.box [.h 9,.d (.d .str),.d (.d tI),.h 1,.d (.d .bool)])],[.arr .str]⟩)] (.seq (.a) (.block (.seq (.a) (.seq (.reg [] [] [z0,z0,z0,z0,.r] (.call [5000000] [] (.seq (.a) (.a)) (.a))) (.seq (.a) (.seq (.reg [] [] [z0,z0,z0,z0,z0,z0,z0,z0,z0,.r] (.call [5000000] [] (.seq (.a) (.a)) (.a))) (.reg [0,0,3,0,0,0,32,120,255,511] (ra 0 10 ([])) [z0,z0,.k [10,8,9],z0,z0,z0,z0,z0,z0,.r] (.kp [5000000] ⟨[(53,.r (.c (.d (.d .str))))],[],[(8,.box [.h 10,.d (.d .str),.d (.d tI),.h 1,.d (.d .bool)]),(9,.gone)],[.arr .str]⟩ (.seq (.a) (.seq (.a) (.seq (.a) (.seq (.a) (.seq (.reg [0,1,0,7,0,16,48,112,255,511] (ra 0 10 ([])) (za 7 (.s [8] []::z0::z0::[])) (.a)) (.a)))))) (.call [5000000] [] (.seq (.a) (.a)) (.a)))))))))))) (.a))) (.a))
def anN54:Ann:=.seq (.reg [] [] (za 6 ([])) (.gq z0 (.a) (.gq z0 (.a) (.gq z0 (.a) (.a))))) (.a)
def anP54:Ann:=.seq (.reg [] [] (za 6 ([])) (.gq z0 (.gq z0 (.gq z0 (.a) (.a)) (.a)) (.a))) (.a)
def m54:(List UInt8×Bool×Bool×Int×List Int×List Int×List (Int×List UInt8))→Option (Int×Bool×List UInt8×Int×Bool×List (List UInt8)) :=
 fun x=>((nonM x.2.1).bind fun (x:Unit)=>some ()).bind fun (x_1:Unit)=>(mkM 32 32 (nat_lit 1) 0).bind fun r=>(loopM (fun (s:List UInt8×Int×Bool
 × List (List UInt8))=>(bif ltM s.2.1 (lenM x.1) then byteM x.1 s.2.1 else some 0).bind fun r_1=>bif PE.andM (ltM s.2.1 (lenM x.1)) (PE.notM (eqM r_1 0))
 then (byteM x.1 s.2.1).bind fun r_2=>bif PE.notM (eqM r_2 1) then some (Sum.inr (Sum.inr (s.1,s.2.1,s.2.2.1,s.2.2.2))) else (m101 (x.1,wrap IntKind.i64
 (s.2.1+1))).bind fun r_3=>bif PE.notM (PE.andM (eqM r_3.2.2 0) (leM (wrap .i64 (r_3.2.1+32)) (lenM x.1))) then some (Sum.inr (Sum.inr (s.1,
 s.2.1,s.2.2.1,s.2.2.2))) else ((m70 (s.1,r_3.1)).bind fun r_4=>(appM (nat_lit 16) s.2.2.2 [r_3.1]).bind fun r_5=>(m71 r_3.1).bind fun r_6=>(catM
 (strB [1]) r_6.1).bind fun r_7=>(catM r_7 r_4).bind fun r=>some (r,r_4,wrap .i64 (s.2.1+lenM r),s.2.2.1,r_5)).bind fun (ov:List UInt8 ×
 List UInt8×Int×Bool×List (List UInt8))=>(sliceM x.1 s.2.1 (wrap .i64 (r_3.2.1+32))).bind fun r=>bif PE.notM (eqsM ov.1 r) then some
 (Sum.inr (Sum.inr (ov.2.1,ov.2.2.1,ov.2.2.2.1,ov.2.2.2.2))) else some (Sum.inl (ov.2.1,ov.2.2.1,ov.2.2.2.1,ov.2.2.2.2)) else some (Sum.inr (Sum.inl
 (s.1,s.2.1,s.2.2.1,s.2.2.2)))) (strB r,0,false,[])).bind fun o=>Sum.elim (fun (t:List UInt8×Int×Bool×List (List UInt8))=>some (0,false,
 t.1,t.2.1,t.2.2.1,t.2.2.2)) (fun (t:List UInt8×Int×Bool×List (List UInt8))=>some (372,true,[],0,false,[])) o
theorem cp54:PSpecOK Tryz.prog 54 ⟨pa54,po54,pk54,[1],m54⟩ :=
 fnT_ok (own:=[5000000]) (a0:=an054) (a1:=anb54) (aN:=anN54) (aP:=anP54) (n:=400) tabs71OK (F:=OPS) OPS_sound OPS_nice (f:=54) (g:=76) (fn:=Tryz.f54) (fg:=Tryz.f76) (s2:=4) (s3:=5) (sf:=6) (It:=80) (Te:=222) (fe:=77)
 (by kernel_rfl) rfl (by kernel_rfl) (by kernel_rfl) rfl rfl rfl rfl rfl rfl (by kernel_rfl) (by kernel_rfl) rfl rfl rfl rfl rfl rfl rfl rfl rfl rfl rfl rfl rfl rfl rfl rfl rfl rfl rfl rfl rfl rfl rfl (by kernel_rfl) (by kernel_rfl) fun G w0 x=>by kernel_rfl
def tabs54:Tabs:=Tabs.addP tabs71 54 ⟨pa54,po54,pk54,[1],m54⟩
theorem tabs54OK:TabOK Tryz.prog tabs54:=TabOK.addP tabs71OK cp54

/-! (*putlog/disk.Disk).Write -/
def pa13:List SR:=[.c (.h 1),.c (.d (.d tI)),.c (.d (.d .str))]
def po13:List SO:=[.opt [.d (.d .bool),.d (.d tI),.h 2,.h 3,.h 4],.arr (.int .u8),.arr (.int .u8),.arr (.pair tI .str)]
def pk13:Skel:=⟨[(1000000,.r (.c (.d (.d tI))))],[],[(1,.box [.d (.d .bool),.d (.d tI),.h 2,.h 3,.h 5]),(3,.arr (.int .u8)),(4,.gone)],[.arr (.pair tI .str)]⟩
def an13:Ann:=.seq (.a) (.seq (.seq (.reg [] [] [z0,.r,z0] (.call [5000000] [(.norm,⟨[(10,.r (.c (.d (.d tI))))],[],[],[]⟩)] (.seq (.a) (.a)) (.a))) (.a)) (.seq (.seq (.reg [] [] [z0,z0,z0,z0,.r,z0] (.call [5000000] [] (.seq (.a) (.a)) (.a))) (.a)) (.seq (.a) (.seq (.reg [0,0,2,6,14,0,32,126,255,511,1023] (ra 0 11 ([])) [z0,z0,.s [1] [],z0,.s [1] [],.s [5] [],z0,.s [4] [6,4],.s [1] [],z0,.s [1,6] [1]] (.a)) (.seq (.reg [0,0,2,6,14,31] (ra 0 6 ([])) [.s [5] [],z0,.s [1] [],z0,.s [1] [],.r] (.call [2000007,5000000] [] (.seq (.a) (.reg [0,0,2,7,0,16,63] (ra 0 7 ([])) [z0,z0,.s [7] [],.s [3] [],z0,.s [7] [],.s [3] [3]] (.a))) (.a))) (.seq (.reg [] [] [z0,.s [1] [],z0,.r] (.call [5000000] [(.norm,⟨[(42,.t [])],[],[(1,.box [.d (.d .bool),.d (.d tI),.h 2,.h 3,.h 6])],[]⟩)] (.seq (.a) (.a)) (.a))) (.a)))))))
def m13:(Int×List UInt8×Bool×Bool×Int×List Int×List Int×List (Int×List UInt8))→Option (Int×Bool×Int×List Int×List (Int×List UInt8)) :=
 fun x=>((nonM x.2.2.1).bind fun (x:Unit)=>some ()).bind fun (x_1:Unit)=>(bif x.2.2.2.1 then some 361 else some 0).bind fun (ov:Int)=>bif PE.notM
 (eqM ov 0) then some (ov,x.2.2.2.1,x.2.2.2.2.1,x.2.2.2.2.2.2.1,x.2.2.2.2.2.2.2) else bif PE.notM (PE.andM (PE.andM (PE.andM (leM 0 x.1) (leM 0 (lenM
 x.2.1))) (leM x.1 (lenM x.2.2.2.2.2.1))) (leM (lenM x.2.1) (wrap .i64 (lenM x.2.2.2.2.2.1-x.1)))) then some (360,x.2.2.2.1,x.2.2.2.2.1,
 x.2.2.2.2.2.2.1,x.2.2.2.2.2.2.2) else (appM (nat_lit 24) x.2.2.2.2.2.2.2 [(x.1,x.2.1)]).bind fun r=>(chkM x.1 (lenM x.2.2.2.2.2.2.1)).bind fun r_1 =>
 (putM x.2.2.2.2.2.2.1 x.1 (byteI x.2.1)).bind fun r_2=>(bif eqM x.2.2.2.2.1 0 then some (x.2.2.2.1,x.2.2.2.2.1) else some (eqM (wrap IntKind.i64
 (x.2.2.2.2.1-1)) 0,wrap .i64 (x.2.2.2.2.1-1))).bind fun (ov:Bool×Int)=>some (0,ov.1,ov.2,r_2,r)
theorem cp13:PSpecOK Tryz.prog 13 ⟨pa13,po13,pk13,[1],m13⟩ :=
 fnP_ok (own:=[5000000]) (an:=an13) (n:=400) tabs54OK (F:=OPS) OPS_sound OPS_nice (f:=13) (fn:=Tryz.f13) (code:=Tryz.f13.body.getD .skip) (by kernel_rfl) (by kernel_rfl) (by kernel_rfl) (by kernel_rfl) fun G w0 x=>by kernel_rfl
def tabs13:Tabs:=Tabs.addP tabs54 13 ⟨pa13,po13,pk13,[1],m13⟩
theorem tabs13OK:TabOK Tryz.prog tabs13:=TabOK.addP tabs54OK cp13

/-! (*putlog/disk.Disk).Sync -/
def pa42:List SR:=[.c (.h 1)]
def po42:List SO:=[.opt [.d (.d .bool),.d (.d tI),.h 2,.h 3,.h 4],.arr (.int .u8),.arr (.int .u8),.arr (.pair tI .str)]
def pk42:Skel:=⟨[(1000000,.r (.c (.d (.d tI))))],[],[(1,.box [.d (.d .bool),.d (.d tI),.h 2,.h 3,.h 5]),(2,.arr (.int .u8)),(4,.gone)],[.arr (.pair tI .str)]⟩
def an42:Ann:=.seq (.a) (.seq (.reg [] [] [z0,.r,z0] (.call [5000000] [(.norm,⟨[(5,.r (.c (.d (.d tI))))],[],[],[]⟩)] (.seq (.a) (.a)) (.a))) (.seq (.join [(.norm,⟨[],(ra 6 12 ([])),[(1,.box [.d (.d .bool),.d (.d tI),.h 2,.h 3,.h 5]),(2,.arr (.int .u8)),(4,.gone)],[.arr (.pair tI .str)]⟩)] (.seq (.a) (.cond (.reg [0,0,2,6,14,0,32,96,224,511] (ra 0 10 ([])) [z0,z0,.s [1] [],z0,.s [1] [],z0,.s [1] [],z0,.s [1] [],.r] (.call [2000018,5000000] [] (.seq (.a) (.a)) (.a))) (.a)))) (.a)))
def m42:(Bool×Bool×Int×List Int×List Int×List (Int×List UInt8))→Option (Int×Bool×Int×List Int×List (Int×List UInt8)) :=
 fun x=>((nonM x.1).bind fun (x:Unit)=>some ()).bind fun (x_1:Unit)=>(bif x.2.1 then some 361 else some 0).bind fun (ov:Int)=>(bif eqM ov 0 then
 (sliceM (zerosL x.2.2.2.2.2 (0,[])) 0 0).bind fun r=>some (x.2.1,x.2.2.1,copyM x.2.2.2.1 x.2.2.2.2.1,r) else some (x.2.1,x.2.2.1,x.2.2.2.1,
 x.2.2.2.2.2)).bind fun o=>some (ov,o.1,o.2.1,o.2.2.1,o.2.2.2)
theorem cp42:PSpecOK Tryz.prog 42 ⟨pa42,po42,pk42,[1],m42⟩ :=
 fnP_ok (own:=[5000000]) (an:=an42) (n:=400) tabs13OK (F:=OPS) OPS_sound OPS_nice (f:=42) (fn:=Tryz.f42) (code:=Tryz.f42.body.getD .skip) (by kernel_rfl) (by kernel_rfl) (by kernel_rfl) (by kernel_rfl) fun G w0 x=>by kernel_rfl
def tabs42:Tabs:=Tabs.addP tabs13 42 ⟨pa42,po42,pk42,[1],m42⟩
theorem tabs42OK:TabOK Tryz.prog tabs42:=TabOK.addP tabs13OK cp42

/-! putlog/journal.Open -/
def pa25:List SR:=[.c (.h 1)]
def po25:List SO:=[.opt [.d (.d .bool),.d (.d tI),.h 2,.h 3,.h 4],.arr (.int .u8),.arr (.int .u8),.arr (.pair tI .str)]
def pk25:Skel:=⟨[(1000000,.t [.c (.h 5),.c (.d (.d tI))])],[],[(1,.box [.d (.d .bool),.d (.d tI),.h 2,.h 3,.h 7]),(2,.arr (.int .u8)),(3,.arr (.int .u8)),(4,.gone)],[.opt [.h 6,.d (.d .str),.d (.d tI),.h 1,.d (.d .bool)],.arr .str,.arr (.pair tI .str)]⟩
def an25:Ann:=.seq (.a) (.seq (.a) (.seq (.reg [] [] [z0,z0,.k [1,2,3,4],.k [1,2,3,4],z0,z0,z0,z0,z0] (.ct (.ct (.a)))) (.seq (.a) (.seq (.reg [] [] [z0,z0,.k [1,2,3,4,8,9],z0,z0,z0,z0,z0] (.ct (.a))) (.seq (.a) (.seq (.join [(.norm,⟨[(5,.r (.c (.d (.d tI))))],(ra 28 30 ([])),[(1,.box [.d (.d .bool),.d (.d tI),.h 2,.h 3,.h 10]),(2,.arr (.int .u8)),(3,.arr (.int .u8)),(4,.gone)],[.arr (.pair tI .str)]⟩)] (.seq (.a) (.cond (.reg [0,0,2,6,14,30,0,64,0,256,768,1792,3840,8128,16320,32704,65535,0,131072,524287,1048575,2097151] (ra 0 22 ([])) [z0,z0,.s [8] [],z0,z0,.s [8] [],z0,z0,z0,.s [8] [],z0,z0,.s [8] [],z0,.s [] [10],.s [10] [],.k [11,12,13],z0,z0,.s [11,12,13,1] [14],.k [15,1,2,3,4],z0] (.kp [5000000] ⟨[(53,.r (.c (.f 72 [] [.p 11 0,.p 12 0,.p 13 0])))],[],[],[.box [.h 8],.box [.d (.d tI)],.box [.d (.d .str)]]⟩ (.seq (.a) (.a)) (.kp [5000000] ⟨[(57,.r (.c (.d (.d tI))))],[],[(1,.box [.d (.d .bool),.d (.d tI),.h 2,.h 3,.h 15]),(2,.arr (.int .u8)),(3,.arr (.int .u8)),(4,.gone)],[.arr (.pair tI .str)]⟩ (.seq (.a) (.seq (.seq (.a) (.block (.seq (.seq (.a) (.seq (.a) (.seq (.block (.seq (.a) (.seq (.reg [] [] [z0,.r,z0] (.call [5000000] [] (.seq (.a) (.seq (.reg [0,1,3,7,0,0,63,127] (ra 0 8 ([])) [.s [11] [],.s [8] [],z0,.s [8] [],.s [12] [],.s [13] [],.k [1,2,3,4,16],z0] (.ct (.a))) (.a))) (.a))) (.a)))) (.a)))) (.seq (.seq (.a) (.seq (.a) (.seq (.block (.seq (.a) (.seq (.reg [] [] [z0,.k [1,2,3,16,18],z0] (.ct (.a))) (.a)))) (.a)))) (.seq (.a) (.join [] (.a))))))) (.a))) (.a)))) (.a)))) (.a)))))))
def m25:(Bool×Bool×Int×List Int×List Int×List (Int×List UInt8))→Option (Int×Bool×Int×List Int×List Int×Bool×List UInt8×Int×Bool×List (List UInt8)×List (Int×List UInt8)) :=
 fun x=>((nonM x.1).bind fun (x:Unit)=>some ()).bind fun (x_1:Unit)=>(m51 (false,x.2.1,x.2.2.1,x.2.2.2.1,x.2.2.2.2.1,x.2.2.2.2.2)).bind fun r =>
 (m52 (0,r,false,x.2.1,x.2.2.1,x.2.2.2.1,x.2.2.2.2.1,x.2.2.2.2.2)).bind fun r_1=>bif PE.notM (eqM r_1.2 0) then some (r_1.2,x.2.1,x.2.2.1,
 x.2.2.2.1,x.2.2.2.2.1,true,[],0,false,[],x.2.2.2.2.2) else (m54 (r_1.1,false,x.2.1,x.2.2.1,x.2.2.2.1,x.2.2.2.2.1,x.2.2.2.2.2)).bind fun r_2 =>
 bif PE.notM (eqM r_2.1 0) then some (r_2.1,x.2.1,x.2.2.1,x.2.2.2.1,x.2.2.2.2.1,true,[],0,false,[],x.2.2.2.2.2) else ((nonM r_2.2.1).bind fun r_3 =>
 ((nonM r_2.2.1).bind fun (x:Unit)=>some ()).bind fun r_4=>(sliceM r_1.1 r_2.2.2.2.1 (lenM r_1.1)).bind fun r_5=>(trimM r_5 [(0:UInt8)]).bind fun r_6
 => bif PE.notM (eqsM r_6 []) then (nonM r_2.2.1).bind fun r_7=>((nonM r_2.2.1).bind fun (x:Unit)=>some ()).bind fun r_8=>(nonM r_2.2.1).bind fun r_9
 => ((nonM r_2.2.1).bind fun (x:Unit)=>some ()).bind fun r_10=>(mkM (wrap .i64 (lenM r_1.1-r_2.2.2.2.1)) (wrap .i64 (lenM r_1.1 -
 r_2.2.2.2.1)) (nat_lit 1) 0).bind fun r_11=>((nonM r_2.2.1).bind fun r_12=>((nonM r_2.2.1).bind fun (x:Unit)=>some ()).bind fun r=>(m13
 (r_2.2.2.2.1,strB r_11,false,x.2.1,x.2.2.1,x.2.2.2.1,x.2.2.2.2.1,x.2.2.2.2.2)).bind fun r=>bif PE.notM (eqM r.1 0) then some (r.1,r.2.1,r.2.2.1,
 x.2.2.2.1,r.2.2.2.1,r.2.2.2.2) else (m42 (false,r.2.1,r.2.2.1,x.2.2.2.1,r.2.2.2.1,r.2.2.2.2)).bind fun r_13=>bif PE.notM (eqM r_13.1 0) then some
 (r_13.1,r_13.2.1,r_13.2.2.1,r_13.2.2.2.1,r.2.2.2.1,r_13.2.2.2.2) else some (0,r_13.2.1,r_13.2.2.1,r_13.2.2.2.1,r.2.2.2.1,r_13.2.2.2.2)).bind fun (ov
 : Int×Bool×Int×List Int×List Int×List (Int×List UInt8))=>some (ov.1,ov.2.1,ov.2.2.1,ov.2.2.2.1,ov.2.2.2.2.1,ov.2.2.2.2.2) else some (r_2.1,
 x.2.1,x.2.2.1,x.2.2.2.1,x.2.2.2.2.1,x.2.2.2.2.2)).bind fun o=>bif PE.notM (eqM o.1 0) then some (o.1,o.2.1,o.2.2.1,o.2.2.2.1,o.2.2.2.2.1,true,[],
 0,false,[],o.2.2.2.2.2) else some (0,o.2.1,o.2.2.1,o.2.2.2.1,o.2.2.2.2.1,r_2.2.1,r_2.2.2.1,r_2.2.2.2.1,r_2.2.2.2.2.1,r_2.2.2.2.2.2,o.2.2.2.2.2)
theorem cp25:PSpecOK Tryz.prog 25 ⟨pa25,po25,pk25,[1],m25⟩ :=
 fnP_ok (own:=[5000000]) (an:=an25) (n:=400) tabs42OK (F:=OPS) OPS_sound OPS_nice (f:=25) (fn:=Tryz.f25) (code:=Tryz.f25.body.getD .skip) (by kernel_rfl) (by kernel_rfl) (by kernel_rfl) (by kernel_rfl) fun G w0 x=>by kernel_rfl
def tabs25:Tabs:=Tabs.addP tabs42 25 ⟨pa25,po25,pk25,[1],m25⟩
theorem tabs25OK:TabOK Tryz.prog tabs25:=TabOK.addP tabs42OK cp25

/-! (*putlog/journal.Journal).Records -/
def pa19:List SR:=[.c (.h 1)]
def po19:List SO:=[.opt [.h 2,.d (.d .str),.d (.d tI),.h 3,.d (.d .bool)],.arr .str,.opt [.d (.d .bool),.d (.d tI),.h 4,.h 5,.h 6],.arr (.int .u8),.arr (.int .u8),.arr (.pair tI .str)]
def pk19:Skel:=⟨[(1000000,.r (.c (.h 7)))],[],[],[.arr .str]⟩
def an19:Ann:=.a
def m19:(Bool×List UInt8×Int×Bool×List (List UInt8)×Bool×Bool×Int×List Int×List Int×List (Int×List UInt8))→Option (List (List UInt8)) :=
 fun x=>((nonM x.1).bind fun (x_1:Unit)=>(nonM x.2.2.2.2.2.1).bind fun (x:Unit)=>some ()).bind fun (x_1:Unit)=>(mo36 x.2.2.2.2.1).bind fun r =>
 some r
theorem cp19:PSpecOK Tryz.prog 19 ⟨pa19,po19,pk19,[1,3],m19⟩ :=
 fnP_ok (own:=[5000000]) (an:=an19) (n:=400) tabs25OK (F:=OPS) OPS_sound OPS_nice (f:=19) (fn:=Tryz.f19) (code:=Tryz.f19.body.getD .skip) (by kernel_rfl) (by kernel_rfl) (by kernel_rfl) (by kernel_rfl) fun G w0 x=>by kernel_rfl
def tabs19:Tabs:=Tabs.addP tabs25 19 ⟨pa19,po19,pk19,[1,3],m19⟩
theorem tabs19OK:TabOK Tryz.prog tabs19:=TabOK.addP tabs25OK cp19

/-! (*putlog/journal.Journal).Room -/
def pa20:List SR:=[.c (.h 1)]
def po20:List SO:=[.opt [.h 2,.d (.d .str),.d (.d tI),.h 3,.d (.d .bool)],.arr .str,.opt [.d (.d .bool),.d (.d tI),.h 4,.h 5,.h 6],.arr (.int .u8),.arr (.int .u8),.arr (.pair tI .str)]
def pk20:Skel:=⟨[(1000000,.r (.c (.d (.d tI))))],[],[(3,.box [.d (.d .bool),.d (.d tI),.h 4,.h 5,.h 6]),(4,.arr (.int .u8)),(5,.arr (.int .u8)),(6,.arr (.pair tI .str))],[]⟩
def an20:Ann:=.seq (.a) (.seq (.a) (.seq (.reg [0,1,3,7,15,0,32,96,224,480,1023,2047] (ra 0 12 ([])) [z0,.s [1] [],z0,.s [1] [],.k [3,4,5,6],z0,.s [1] [],z0,z0,.s [1] [],z0,z0] (.ct (.a))) (.a)))
def m20:(Bool×List UInt8×Int×Bool×List (List UInt8)×Bool×Bool×Int×List Int×List Int×List (Int×List UInt8))→Option (Int×Bool×Int×List Int×List Int×List (Int×List UInt8)) :=
 fun x=>((nonM x.1).bind fun (x_1:Unit)=>(nonM x.2.2.2.2.2.1).bind fun (x:Unit)=>some ()).bind fun (x_1:Unit)=>(m51 (false,x.2.2.2.2.2.2.1,
 x.2.2.2.2.2.2.2.1,x.2.2.2.2.2.2.2.2.1,x.2.2.2.2.2.2.2.2.2.1,x.2.2.2.2.2.2.2.2.2.2)).bind fun r=>some (wrap .i64 (r-x.2.2.1),x.2.2.2.2.2.2.1,
 x.2.2.2.2.2.2.2.1,x.2.2.2.2.2.2.2.2.1,x.2.2.2.2.2.2.2.2.2.1,x.2.2.2.2.2.2.2.2.2.2)
theorem cp20:PSpecOK Tryz.prog 20 ⟨pa20,po20,pk20,[1,3],m20⟩ :=
 fnP_ok (own:=[5000000]) (an:=an20) (n:=400) tabs19OK (F:=OPS) OPS_sound OPS_nice (f:=20) (fn:=Tryz.f20) (code:=Tryz.f20.body.getD .skip) (by kernel_rfl) (by kernel_rfl) (by kernel_rfl) (by kernel_rfl) fun G w0 x=>by kernel_rfl
def tabs20:Tabs:=Tabs.addP tabs19 20 ⟨pa20,po20,pk20,[1,3],m20⟩
theorem tabs20OK:TabOK Tryz.prog tabs20:=TabOK.addP tabs19OK cp20

/-! (*putlog/journal.Journal).Append$1 -/
def pa34:List SR:=[.c (.d (.d .str))]
def po34:List SO:=[]
def pk34:Skel:=⟨[(1000000,.r (.c (.d (.d .bool))))],[],[],[]⟩
def an34:Ann:=.a
def m34:List UInt8→Option (Bool) :=
 fun x=>some (ltM 65536 (lenM x))
theorem cp34:PSpecOK Tryz.prog 34 ⟨pa34,po34,pk34,[],m34⟩ :=
 fnP_ok (own:=[5000000]) (an:=an34) (n:=400) tabs20OK (F:=OPS) OPS_sound OPS_nice (f:=34) (fn:=Tryz.f34) (code:=Tryz.f34.body.getD .skip) (by kernel_rfl) (by kernel_rfl) (by kernel_rfl) (by kernel_rfl) fun G w0 x=>by kernel_rfl
def tabs34:Tabs:=Tabs.addP tabs20 34 ⟨pa34,po34,pk34,[],m34⟩
theorem tabs34OK:TabOK Tryz.prog tabs34:=TabOK.addP tabs20OK cp34
end
variable [EA]
noncomputable section

/-! (*putlog/journal.Journal).Append -/
def pa10:List SR:=[.c (.h 1),.c (.d (.d (.list .str)))]
def po10:List SO:=[.opt [.h 2,.d (.d .str),.d (.d tI),.h 3,.d (.d .bool)],.arr .str,.opt [.d (.d .bool),.d (.d tI),.h 4,.h 5,.h 6],.arr (.int .u8),.arr (.int .u8),.arr (.pair tI .str)]
def pk10:Skel:=⟨[(1000000,.r (.c (.d (.d tI))))],[],[(1,.opt [.h 7,.d (.d .str),.d (.d tI),.h 3,.d (.d .bool)]),(2,.gone),(3,.box [.d (.d .bool),.d (.d tI),.h 4,.h 5,.h 8]),(4,.arr (.int .u8)),(5,.arr (.int .u8)),(6,.gone)],[.arr .str,.arr (.pair tI .str)]⟩
def an10:Ann:=.seq (.a) (.seq (.a) (.seq (.a) (.seq (.seq (.reg [] [] [z0,.s [1] [],z0,.s [1] [],z0,z0,z0,.k [],z0] (.call [5000000] [(.norm,⟨[(21,.r (.c (.d (.d .bool))))],[],[],[]⟩)] (.seq (.a) (.seq (.reg [] [] [z0,z0,.r,z0,z0] (.call [5000000] [(.norm,⟨[(7,.r (.c (.d (.d tI))))],[],[],[]⟩)] (.seq (.a) (.seq (.seq (.a) (.block (.loop ⟨[(8,.r (.c (.d (.d tI))))],(5::ra 9 8 (18::[])),[],[]⟩ [(.exit 0,⟨[],(5::ra 8 9 (18::[])),[],[]⟩),(.ret,⟨[(4,.r (.c (.d (.d tI))))],(5::ra 8 11 ([])),[],[]⟩)] (.seq (.a) (.seq (.a) (.seq (.block (.seq (.a) (.seq (.reg [] [] [z0,z0,z0,z0,z0,.k []] (.ct (.a))) (.a)))) (.a))))))) (.a))) (.a))) (.a))) (.a))) (.a)) (.seq (.a) (.seq (.a) (.seq (.a) (.seq (.seq (.a) (.block (.loop ⟨[(33,.r (.c (.d (.d tI))))],(9::ra 34 7 ([])),[(7,.box [.h 10,.d (.d .str),.d (.d tI)]),(8,.gone),(9,.bld 78 5)],[.arr .str]⟩ [(.exit 0,⟨[],(9::ra 33 8 ([])),[(7,.box [.h 10,.d (.d .str),.d (.d tI)]),(8,.gone),(9,.bld 78 5)],[.arr .str]⟩)] (.seq (.a) (.seq (.a) (.seq (.block (.seq (.a) (.reg [] [] [z0,.r,.s [9] [9]] (.call [5000000] [] (.seq (.a) (.seq (.a) (.seq (.a) (.seq (.a) (.seq (.reg [0,1,0,7,0,16,48,112,255,511] (ra 0 10 ([])) (za 7 (.s [7] []::z0::z0::[])) (.a)) (.a)))))) (.a))))) (.a))))))) (.seq (.a) (.seq (.block (.seq (.reg [] [] [z0,z0,z0,.k (ra 1 6 ([])),z0,z0] (.ct (.a))) (.a))) (.seq (.seq (.reg [0,0,2,6,14,30,62,0,128,511,0,1024,3072,7168,15360,0,0,65536,196608,458752,983040,0,2097152,8356863,0,16777216,50331648,117440512,251658240,536870911,1073741823,2147483647] (ra 0 32 ([])) [z0,z0,.s [1] [],z0,z0,.s [1] [],z0,z0,z0,.k [12,13,14],z0,.s [1] [],z0,.s [1] [],z0,z0,z0,.s [1] [],z0,z0,.s [1] [],z0,z0,.k [15,16,17],z0,.s [1] [],z0,.s [1] [],z0,.s [12,13,14,3,15,16,17,3] [18],.k [19,3,4,5,6],z0] (.kp [5000000] ⟨[(60,.r (.c (.f 72 [] [.p 12 0,.p 13 0,.p 14 0])))],[],[],[.box [.h 1],.box [.d (.d tI)],.box [.d (.d .str)]]⟩ (.seq (.a) (.a)) (.kp [5000000] ⟨[(74,.r (.c (.f 72 [] [.p 15 0,.p 16 0,.p 17 0])))],[],[],[.box [.h 1],.box [.d (.d tI)],.box [.d (.d .str)]]⟩ (.seq (.a) (.a)) (.kp [5000000] ⟨[(81,.r (.c (.d (.d tI))))],[],[(3,.box [.d (.d .bool),.d (.d tI),.h 4,.h 5,.h 19]),(4,.arr (.int .u8)),(5,.arr (.int .u8)),(6,.gone)],[.arr (.pair tI .str)]⟩ (.seq (.a) (.seq (.seq (.a) (.block (.seq (.seq (.a) (.seq (.a) (.seq (.block (.seq (.a) (.seq (.reg [] [] [z0,.r,z0] (.call [5000000] [] (.seq (.a) (.seq (.reg [0,1,3,7,0,0,63,127] (ra 0 8 ([])) [.s [12] [],.s [1] [],z0,.s [1] [],.s [13] [],.s [14] [],.k [3,4,5,6,20],z0] (.ct (.a))) (.a))) (.a))) (.a)))) (.a)))) (.seq (.seq (.a) (.seq (.a) (.seq (.block (.seq (.a) (.seq (.reg [] [] [z0,.k [3,4,5,20,22],z0] (.ct (.a))) (.a)))) (.a)))) (.seq (.seq (.a) (.seq (.a) (.seq (.block (.seq (.a) (.seq (.reg [] [] [z0,.r,z0] (.call [5000000] [] (.seq (.a) (.seq (.reg [0,1,3,7,0,0,63,127] (ra 0 8 ([])) [.s [15] [],.s [1] [],z0,.s [1] [],.s [16] [],.s [17] [],.k [3,4,5,22,24],z0] (.ct (.a))) (.a))) (.a))) (.a)))) (.a)))) (.seq (.seq (.a) (.seq (.a) (.seq (.block (.seq (.a) (.seq (.reg [] [] [z0,.k [3,4,5,24,26],z0] (.ct (.a))) (.a)))) (.a)))) (.seq (.a) (.join [] (.a))))))))) (.a))) (.a))))) (.a)) (.a)))))))))))
def m10:(List (List UInt8)×Bool×List UInt8×Int×Bool×List (List UInt8)×Bool×Bool×Int×List Int×List Int×List (Int×List UInt8))→Option (Int×Bool×List UInt8×Int×Bool×Bool×Int×List Int×List Int×List (List UInt8)×List (Int×List UInt8)) :=
 fun x=>((nonM x.2.2.2.2.2.2.1).bind fun (x:Unit)=>some ()).bind fun (x_1:Unit)=>bif x.2.1 then some (1,x.2.1,x.2.2.1,x.2.2.2.1,x.2.2.2.2.1,
 x.2.2.2.2.2.2.2.1,x.2.2.2.2.2.2.2.2.1,x.2.2.2.2.2.2.2.2.2.1,x.2.2.2.2.2.2.2.2.2.2.1,x.2.2.2.2.2.1,x.2.2.2.2.2.2.2.2.2.2.2) else (nonM x.2.1).bind fun r
 => ((nonM x.2.1).bind fun (x:Unit)=>some ()).bind fun r_1=>(bif PE.notM x.2.2.2.2.1 then ((loopM (fun (s:Int)=>bif ltM s (lenM x.1) then (idxM x.1
 s).bind fun r=>(m34 r).bind fun r=>bif r then some (Sum.inr (Sum.inr s)) else some (Sum.inl (wrap .i64 (s+1))) else some (Sum.inr (Sum.inl ())))
 0).bind fun o=>Sum.elim (fun (t:Unit)=>some (-1)) (fun (t:Int)=>some t) o).bind fun (ov:Int)=>some (leM 0 ov) else some false).bind fun (ov :
 Bool)=>bif PE.orM x.2.2.2.2.1 ov then some (370,x.2.1,x.2.2.1,x.2.2.2.1,x.2.2.2.2.1,x.2.2.2.2.2.2.2.1,x.2.2.2.2.2.2.2.2.1,x.2.2.2.2.2.2.2.2.2.1,
 x.2.2.2.2.2.2.2.2.2.2.1,x.2.2.2.2.2.1,x.2.2.2.2.2.2.2.2.2.2.2) else (nonM x.2.1).bind fun r_2=>((nonM x.2.1).bind fun (x:Unit)=>some ()).bind fun r_3
 => (mo36 x.2.2.2.2.2.1).bind fun r_4=>(loopM (fun (s:Int×List UInt8×Int×List UInt8×List (List UInt8))=>bif ltM s.1 (lenM x.1) then (idxM x.1
 s.1).bind fun r_5=>(m70 (s.2.1,r_5)).bind fun r_6=>(appM (nat_lit 16) s.2.2.2.2 [r_5]).bind fun r_7=>(m71 r_5).bind fun r_8=>(catM (strB [1])
 r_8.1).bind fun r_9=>(catM r_9 r_6).bind fun r_10=>(catB s.2.2.2.1 r_10).bind fun r=>some (Sum.inl (wrap .i64 (s.1+1),r_6,wrap IntKind.i64
 (s.2.2.1+lenM r_10),r,r_7)) else some (Sum.inr (s.2.1,s.2.2.1,s.2.2.2.1,s.2.2.2.2))) (0,x.2.2.1,x.2.2.2.1,[],r_4)).bind fun o=>(m20 (x.2.1,
 x.2.2.1,x.2.2.2.1,x.2.2.2.2.1,x.2.2.2.2.2.1,false,x.2.2.2.2.2.2.2.1,x.2.2.2.2.2.2.2.2.1,x.2.2.2.2.2.2.2.2.2.1,x.2.2.2.2.2.2.2.2.2.2.1,
 x.2.2.2.2.2.2.2.2.2.2.2)).bind fun r_5=>bif ltM r_5.1 (lenM o.2.2.1) then some (371,false,x.2.2.1,x.2.2.2.1,x.2.2.2.2.1,r_5.2.1,r_5.2.2.1,
 r_5.2.2.2.1,r_5.2.2.2.2.1,x.2.2.2.2.2.1,r_5.2.2.2.2.2) else bif eqsM o.2.2.1 [] then some (0,false,x.2.2.1,x.2.2.2.1,x.2.2.2.2.1,r_5.2.1,r_5.2.2.1,
 r_5.2.2.2.1,r_5.2.2.2.2.1,x.2.2.2.2.2.1,r_5.2.2.2.2.2) else (sliceM o.2.2.1 1 (lenM o.2.2.1)).bind fun r_6=>(sliceM o.2.2.1 0 1).bind fun r=>((m13
 (wrap .i64 (x.2.2.2.1+1),r_6,false,r_5.2.1,r_5.2.2.1,r_5.2.2.2.1,r_5.2.2.2.2.1,r_5.2.2.2.2.2)).bind fun r_7=>bif PE.notM (eqM r_7.1 0) then
 some (r_7.1,r_7.2.1,r_7.2.2.1,r_5.2.2.2.1,r_7.2.2.2.1,r_7.2.2.2.2) else (m42 (false,r_7.2.1,r_7.2.2.1,r_5.2.2.2.1,r_7.2.2.2.1,r_7.2.2.2.2)).bind fun
 r_8=>bif PE.notM (eqM r_8.1 0) then some (r_8.1,r_8.2.1,r_8.2.2.1,r_8.2.2.2.1,r_7.2.2.2.1,r_8.2.2.2.2) else (m13 (x.2.2.2.1,r,false,r_8.2.1,
 r_8.2.2.1,r_8.2.2.2.1,r_7.2.2.2.1,r_8.2.2.2.2)).bind fun r=>bif PE.notM (eqM r.1 0) then some (r.1,r.2.1,r.2.2.1,r_8.2.2.2.1,r.2.2.2.1,r.2.2.2.2)
 else (m42 (false,r.2.1,r.2.2.1,r_8.2.2.2.1,r.2.2.2.1,r.2.2.2.2)).bind fun r_9=>bif PE.notM (eqM r_9.1 0) then some (r_9.1,r_9.2.1,r_9.2.2.1,
 r_9.2.2.2.1,r.2.2.2.1,r_9.2.2.2.2) else some (0,r_9.2.1,r_9.2.2.1,r_9.2.2.2.1,r.2.2.2.1,r_9.2.2.2.2)).bind fun (ov:Int×Bool×Int×List Int×List
 Int×List (Int×List UInt8))=>bif PE.notM (eqM ov.1 0) then some (ov.1,false,x.2.2.1,x.2.2.2.1,true,ov.2.1,ov.2.2.1,ov.2.2.2.1,ov.2.2.2.2.1,
 x.2.2.2.2.2.1,ov.2.2.2.2.2) else some (0,false,o.1,o.2.1,x.2.2.2.2.1,ov.2.1,ov.2.2.1,ov.2.2.2.1,ov.2.2.2.2.1,o.2.2.2,ov.2.2.2.2.2)
theorem cp10:PSpecOK Tryz.prog 10 ⟨pa10,po10,pk10,[3],m10⟩ :=
 fnP_ok (own:=[5000000]) (an:=an10) (n:=400) tabs34OK (F:=OPS) OPS_sound OPS_nice (f:=10) (fn:=Tryz.f10) (code:=Tryz.f10.body.getD .skip) (by kernel_rfl) (by kernel_rfl) (by kernel_rfl) (by kernel_rfl) fun G w0 x=>by kernel_rfl
def tabs10:Tabs:=Tabs.addP tabs34 10 ⟨pa10,po10,pk10,[3],m10⟩
theorem tabs10OK:TabOK Tryz.prog tabs10:=TabOK.addP tabs34OK cp10

/-! putlog/putloglaw37.sane -/
def as8:List Ty:=[]
def rs8:List Ty:=[.bool]
def an8_3:Ann:=.gq z0 (.a) (.gq (.k [6,7,1,2,3,8,10]) (.a) (.gq (.s [10] []) (.a) (.gq z0 (.a) (.gq z0 (.a) (.gq (.k [6,7,1,2,3,8]) (.a) (.gq z0 (.a) (.a)))))))
def an8_2:Ann:=.gq z0 (.a) (.gq (.k [25,26,1,2,3,33,38]) (.a) (.gq (.s [38] []) (.a) (.gq (.s [38] []) (.a) (.gq z0 (.a) (.gq z0 (.a) (.gq z0 (.a) (.gq z0 (.a) (.gq z0 (.a) (.a)))))))))
def an8_0:Ann:=.gq z0 (.a) (.gq (.k [25,26,1,2,3,33,36]) (.a) (.gq (.s [36] []) (.a) (.gq z0 (.a) an8_2)))
def an8_1:Ann:=.gq z0 (.a) (.gq z0 (.a) (.gq z0 (.a) (.gq (.k [6,22,1,2,3,33]) (.a) (.gq z0 (.a) (.gq z0 (.a) (.gq z0 (.a) an8_0))))))
def an8:Ann:=.seq (.a) (.seq (.reg [] [] [.k [1,2,3,4],z0,z0,z0,z0,z0] (.ct (.a))) (.seq (.reg [] [] [z0,.k [1,2,3,4,6,7,8],z0,z0,z0,z0,z0] (.ct (.a))) (.seq (.seq (.reg [] [] [z0,.s [6] [],z0,z0,z0,z0,z0,z0,.k [6,7,1,2,3,8,10],.s [10] [],z0,z0,z0,z0,.k [6,7,1,2,3,8],z0,z0] (.gs (.gq z0 (.gq z0 (.gs (.gq z0 (.gq (.k [6,7,1,2,3,8,10]) (.ct (.gq (.s [10] []) (.gq z0 (.gs (.gq z0 (.gq (.k [6,7,1,2,3,8]) (.ct (.gq z0 (.a) (.a))) (.a)) (.a)) (.gq z0 (.a) (.gq (.k [6,7,1,2,3,8]) (.a) (.gq z0 (.a) (.a))))) (.a)) (.a))) (.a)) (.a)) an8_3) (.a)) (.a)) (.gq z0 (.a) (.gq z0 (.a) an8_3)))) (.a)) (.seq (.reg [] [] [z0,z0,.k [6,7,1,2,3,8,13,14],z0] (.ct (.a))) (.seq (.reg [] [] [z0,.s [] [15],.s [15] [],z0,.k [6,13,1,2,3,14,17,18],z0] (.ct (.a))) (.seq (.reg [] [] [z0,.k [6,17,1,2,3,18],z0] (.ct (.a))) (.seq (.reg [] [] [z0,.s [] [20],.s [20] [],z0,.k [6,17,1,2,3,18,22,23],z0] (.ct (.a))) (.seq (.reg [] [] [z0,.k [1,2,3,23,25,26,27],z0,z0,z0,z0,z0] (.ct (.a))) (.seq (.a) (.seq (.reg [] [] [z0,.k [1,2,3,27,29]] (.ct (.a))) (.seq (.reg [] [] [z0,.k [1,2,3,29,31,32,33],z0,z0,z0,z0,z0] (.ct (.a))) (.seq (.reg [] [] [.r,z0,z0,z0,z0,z0] (.call [] [] (.seq (.a) (.a)) (.a))) (.seq (.reg [] [] [z0,z0,z0,z0,z0,z0,z0,z0,z0,z0,z0,z0,z0,z0,z0,z0,.k [6,22,1,2,3,33],z0,z0,z0,z0,z0,z0,z0,z0,.k [25,26,1,2,3,33,36],.s [36] [],z0,z0,z0,z0,.k [25,26,1,2,3,33,38],.s [38] [],.s [38] [],z0,z0,z0,z0,z0,z0,z0,z0,z0,z0,z0] (.gs (.gq z0 (.gq z0 (.gs (.gq z0 (.gq z0 (.gs (.gq z0 (.gq z0 (.gs (.gq z0 (.gq (.k [6,22,1,2,3,33]) (.ct (.gq z0 (.gs (.gq z0 (.gq z0 (.gs (.gq z0 (.gq (.k [25,26,1,2,3,33,36]) (.ct (.gq (.s [36] []) (.gq z0 (.gs (.gq z0 (.gq (.k [25,26,1,2,3,33,38]) (.ct (.gq (.s [38] []) (.gq (.s [38] []) (.gq z0 (.a) (.a)) (.a)) (.a))) (.a)) (.a)) an8_2) (.a)) (.a))) (.a)) (.a)) an8_0) (.a)) (.a)) (.gq z0 (.a) (.gq z0 (.a) an8_0))) (.a))) (.a)) (.a)) (.gq z0 (.a) (.gq (.k [6,22,1,2,3,33]) (.a) (.gq z0 (.a) (.gq z0 (.a) (.gq z0 (.a) an8_0)))))) (.a)) (.a)) an8_1) (.a)) (.a)) (.gq z0 (.a) (.gq z0 (.a) an8_1))) (.a)) (.a)) (.gq z0 (.a) (.gq z0 (.a) (.gq z0 (.a) (.gq z0 (.a) an8_1)))))) (.a))))))))))))))
def m8:Unit→Option (Bool) :=
 fun x=>(m24 200).bind fun r=>(m25 (r.2.1,r.2.2.1,r.2.2.2.1,r.2.2.2.2.1,r.2.2.2.2.2.1,r.2.2.2.2.2.2)).bind fun r_1=>bif PE.notM r_1.2.2.2.2.2.1 then
 bif PE.notM (PE.orM false (PE.notM (eqM r_1.1 0))) then (m19 (r_1.2.2.2.2.2.1,r_1.2.2.2.2.2.2.1,r_1.2.2.2.2.2.2.2.1,r_1.2.2.2.2.2.2.2.2.1,
 r_1.2.2.2.2.2.2.2.2.2.1,false,r_1.2.1,r_1.2.2.1,r_1.2.2.2.1,r_1.2.2.2.2.1,r_1.2.2.2.2.2.2.2.2.2.2)).bind fun r_2=>bif PE.notM (PE.orM false (PE.notM
 (eqM (lenM r_2) 0))) then (m20 (false,r_1.2.2.2.2.2.2.1,r_1.2.2.2.2.2.2.2.1,r_1.2.2.2.2.2.2.2.2.1,r_1.2.2.2.2.2.2.2.2.2.1,false,r_1.2.1,r_1.2.2.1,
 r_1.2.2.2.1,r_1.2.2.2.2.1,r_1.2.2.2.2.2.2.2.2.2.2)).bind fun r_3=>bif PE.orM false (PE.notM (eqM r_3.1 200)) then some false else (m10 ([[(97:UInt8),
 (98:UInt8)],[]],false,r_1.2.2.2.2.2.2.1,r_1.2.2.2.2.2.2.2.1,r_1.2.2.2.2.2.2.2.2.1,r_1.2.2.2.2.2.2.2.2.2.1,false,r_3.2.1,r_3.2.2.1,r_3.2.2.2.1,
 r_3.2.2.2.2.1,r_3.2.2.2.2.2)).bind fun r_4=>(mkM 96 96 (nat_lit 1) 0).bind fun r_5=>(m10 ([strB r_5],r_4.2.1,r_4.2.2.1,r_4.2.2.2.1,r_4.2.2.2.2.1,
 r_4.2.2.2.2.2.2.2.2.2.1,false,r_4.2.2.2.2.2.1,r_4.2.2.2.2.2.2.1,r_4.2.2.2.2.2.2.2.1,r_4.2.2.2.2.2.2.2.2.1,r_4.2.2.2.2.2.2.2.2.2.2)).bind fun r_6=>(m20
 (r_6.2.1,r_6.2.2.1,r_6.2.2.2.1,r_6.2.2.2.2.1,r_6.2.2.2.2.2.2.2.2.2.1,false,r_6.2.2.2.2.2.1,r_6.2.2.2.2.2.2.1,r_6.2.2.2.2.2.2.2.1,
 r_6.2.2.2.2.2.2.2.2.1,r_6.2.2.2.2.2.2.2.2.2.2)).bind fun r_7=>(mkM 95 95 (nat_lit 1) 0).bind fun r_8=>(m10 ([strB r_8],false,r_6.2.2.1,r_6.2.2.2.1,
 r_6.2.2.2.2.1,r_6.2.2.2.2.2.2.2.2.2.1,false,r_7.2.1,r_7.2.2.1,r_7.2.2.2.1,r_7.2.2.2.2.1,r_7.2.2.2.2.2)).bind fun r_9=>(m25 (false,r_9.2.2.2.2.2.1,
 r_9.2.2.2.2.2.2.1,r_9.2.2.2.2.2.2.2.1,r_9.2.2.2.2.2.2.2.2.1,r_9.2.2.2.2.2.2.2.2.2.2)).bind fun r_10=>bif r_10.2.2.2.2.2.1 then some false else (m13 (0,
 [(2:UInt8)],false,r_10.2.1,r_10.2.2.1,r_10.2.2.2.1,r_10.2.2.2.2.1,r_10.2.2.2.2.2.2.2.2.2.2)).bind fun r_11=>(m25 (false,r_11.2.1,r_11.2.2.1,
 r_10.2.2.2.1,r_11.2.2.2.1,r_11.2.2.2.2)).bind fun r_12=>bif eqM r_4.1 0 then bif PE.andM true (eqM r_6.1 371) then bif PE.andM true (eqM r_7.1 130) then
 bif PE.andM true (eqM r_9.1 0) then (m20 (r_9.2.1,r_9.2.2.1,r_9.2.2.2.1,r_9.2.2.2.2.1,r_9.2.2.2.2.2.2.2.2.2.1,false,r_12.2.1,r_12.2.2.1,r_12.2.2.2.1,
 r_12.2.2.2.2.1,r_12.2.2.2.2.2.2.2.2.2.2)).bind fun r_13=>bif PE.andM true (eqM r_13.1 0) then bif PE.andM true (eqM r_10.1 0) then (m19 (r_10.2.2.2.2.2.1,
 r_10.2.2.2.2.2.2.1,r_10.2.2.2.2.2.2.2.1,r_10.2.2.2.2.2.2.2.2.1,r_10.2.2.2.2.2.2.2.2.2.1,false,r_13.2.1,r_13.2.2.1,r_13.2.2.2.1,r_13.2.2.2.2.1,
 r_13.2.2.2.2.2)).bind fun r_14=>bif PE.andM true (eqM (lenM r_14) 3) then (m19 (false,r_10.2.2.2.2.2.2.1,r_10.2.2.2.2.2.2.2.1,r_10.2.2.2.2.2.2.2.2.1,
 r_10.2.2.2.2.2.2.2.2.2.1,false,r_13.2.1,r_13.2.2.1,r_13.2.2.2.1,r_13.2.2.2.2.1,r_13.2.2.2.2.2)).bind fun r_15=>(chkM 0 (lenM r_15)).bind fun r_16 =>
 (idxM r_15 0).bind fun r=>some (PE.andM (PE.andM (PE.andM true (eqsM r [(97:UInt8),(98:UInt8)])) (eqM r_12.1 372)) true) else some false else some
 false else some false else some false else some false else some false else some false else some false else some false else some false
theorem c8:SpecOK Tryz.prog 8 ⟨as8,rs8,m8⟩ :=
 fc tabs10OK [] an8 Tryz.f8 fun x=>by kernel_rfl
def tabs8:Tabs:=Tabs.add tabs10 8 ⟨as8,rs8,m8⟩
theorem tabs8OK:TabOK Tryz.prog tabs8:=TabOK.add tabs10OK c8 Tryz.call8

/-! putlog/putloglaw37.pick -/
def as14:List Ty:=[tI,tI]
def rs14:List Ty:=[tI]
def an14:Ann:=.seq (.a) (.seq (.join [(.norm,⟨[(0,.r (.c (.d (.d tI))))],[5,6,7,8,9],[],[]⟩)] (.a)) (.a))
def m14:(Int×Int)→Option (Int) :=
 fun x=>(bif ltM x.1 0 then some (wrap .i64 (negM (wrap .i64 (x.1+1)))) else some x.1).bind fun o=>(remM o x.2).bind fun r=>some r
theorem c14:SpecOK Tryz.prog 14 ⟨as14,rs14,m14⟩ :=
 fc tabs8OK [] an14 Tryz.f14 fun x=>by kernel_rfl
def tabs14:Tabs:=Tabs.add tabs8 14 ⟨as14,rs14,m14⟩
theorem tabs14OK:TabOK Tryz.prog tabs14:=TabOK.add tabs8OK c14 Tryz.call14

/-! putlog/putloglaw37.size -/
def as15:List Ty:=[tI]
def rs15:List Ty:=[tI]
def an15:Ann:=.a
def m15:Int→Option (Int) :=
 fun x=>(m14 (x,1500)).bind fun r=>some (wrap .i64 (1+r))
theorem c15:SpecOK Tryz.prog 15 ⟨as15,rs15,m15⟩ :=
 fc tabs14OK [] an15 Tryz.f15 fun x=>by kernel_rfl
def tabs15:Tabs:=Tabs.add tabs14 15 ⟨as15,rs15,m15⟩
theorem tabs15OK:TabOK Tryz.prog tabs15:=TabOK.add tabs14OK c15 Tryz.call15

/-! putlog/putlogref36.New -/
def pa33:List SR:=[.c (.d (.d tI))]
def po33:List SO:=[]
def pk33:Skel:=⟨[(1000000,.t [.c (.h 1),.c (.d (.d tI))])],[],[],[.opt [.h 2,.h 3,.d (.d .bool),.d (.d tI)],.arr (.int .u8),.arr (.pair tI .str)]⟩
def an33:Ann:=.a
def m33:Int→Option (Int×Bool×Bool×Int×List Int×List (Int×List UInt8)) :=
 fun x=>bif PE.orM (ltM x 1) (ltM 4194304 x) then some (2,true,false,0,[],[]) else (mkM x x (nat_lit 1) 0).bind fun r=>some (0,false,false,0,r,[])
theorem cp33:PSpecOK Tryz.prog 33 ⟨pa33,po33,pk33,[],m33⟩ :=
 fnP_ok (own:=[5000000]) (an:=an33) (n:=400) tabs15OK (F:=OPS) OPS_sound OPS_nice (f:=33) (fn:=Tryz.f33) (code:=Tryz.f33.body.getD .skip) (by kernel_rfl) (by kernel_rfl) (by kernel_rfl) (by kernel_rfl) fun G w0 x=>by kernel_rfl
def tabs33:Tabs:=Tabs.addP tabs15 33 ⟨pa33,po33,pk33,[],m33⟩
theorem tabs33OK:TabOK Tryz.prog tabs33:=TabOK.addP tabs15OK cp33

/-! (*putlog/putlogref36.Disk).Visible -/
def pa23:List SR:=[.c (.h 1)]
def po23:List SO:=[.opt [.h 2,.h 3,.d (.d .bool),.d (.d tI)],.arr (.int .u8),.arr (.pair tI .str)]
def pk23:Skel:=⟨[(1000000,.r (.c (.h 4)))],[],[],[.arr (.int .u8)]⟩
def an23:Ann:=.seq (.a) (.seq (.a) (.seq (.seq (.a) (.block (.loop ⟨[(4,.r (.c (.d (.d tI))))],(ra 11 27 ([])),[(4,.arr (.int .u8))],[]⟩ [(.exit 0,⟨[],(4::ra 11 27 ([])),[(4,.arr (.int .u8))],[]⟩)] (.seq (.a) (.seq (.block (.reg [0,0,2,6,14,0,62,126,254,0,512,1536,3584,0,15872,32256,65024,131071] (ra 0 18 ([])) [z0,z0,.s [1] [],z0,.s [1] [],z0,.s [3] [],z0,.s [3] [],z0,.s [1] [],z0,.s [1] [],z0,.s [3] [],z0,.s [3] [],.r] (.call [5000000] [] (.seq (.a) (.block (.loop ⟨[(6,.r (.c (.d (.d tI))))],(ra 7 14 ([])),[(4,.arr (.int .u8))],[]⟩ [(.exit 0,⟨[],(ra 6 15 ([])),[(4,.arr (.int .u8))],[]⟩)] (.a)))) (.a)))) (.a)))))) (.a)))
def m23:(Bool×Bool×Int×List Int×List (Int×List UInt8))→Option (List Int) :=
 fun x=>((nonM x.1).bind fun (x:Unit)=>some ()).bind fun (x_1:Unit)=>(appM (nat_lit 1) [] x.2.2.2.1).bind fun r=>(loopM (fun (s:Int×List Int) =>
 bif ltM s.1 (lenM x.2.2.2.2) then (chkM s.1 (lenM x.2.2.2.2)).bind fun r_1=>((idxM x.2.2.2.2 s.1).bind fun (x:Int×List UInt8)=>some x.1).bind fun r_2
 => (chkM s.1 (lenM x.2.2.2.2)).bind fun r_3=>((idxM x.2.2.2.2 s.1).bind fun (x:Int×List UInt8)=>some x.2).bind fun r_4=>(loopM (fun (s_1:Int ×
 List Int)=>bif ltM s_1.1 (lenM r_4) then (byteM r_4 s_1.1).bind fun r_5=>(chkM (wrap .i64 (r_2+s_1.1)) (lenM s_1.2)).bind fun r_6=>(setM s_1.2
 (wrap .i64 (r_2+s_1.1)) fun (x:Int)=>some r_5).bind fun r=>some (Sum.inl (wrap .i64 (s_1.1+1),r)) else some (Sum.inr s_1.2)) (0,
 s.2)).bind fun o=>some (Sum.inl (wrap .i64 (s.1+1),o)) else some (Sum.inr s.2)) (0,r)).bind fun o=>some o
theorem cp23:PSpecOK Tryz.prog 23 ⟨pa23,po23,pk23,[1],m23⟩ :=
 fnP_ok (own:=[5000000]) (an:=an23) (n:=400) tabs33OK (F:=OPS) OPS_sound OPS_nice (f:=23) (fn:=Tryz.f23) (code:=Tryz.f23.body.getD .skip) (by kernel_rfl) (by kernel_rfl) (by kernel_rfl) (by kernel_rfl) fun G w0 x=>by kernel_rfl
def tabs23:Tabs:=Tabs.addP tabs33 23 ⟨pa23,po23,pk23,[1],m23⟩
theorem tabs23OK:TabOK Tryz.prog tabs23:=TabOK.addP tabs33OK cp23

/-! (*putlog/putlogref36.Disk).Read -/
def pa74:List SR:=[.c (.h 1),.c (.d (.d tI)),.c (.d (.d tI))]
def po74:List SO:=[.opt [.h 2,.h 3,.d (.d .bool),.d (.d tI)],.arr (.int .u8),.arr (.pair tI .str)]
def pk74:Skel:=⟨[(1000000,.t [.c (.d (.d .str)),.c (.d (.d tI))])],[],[(1,.box [.h 2,.h 3,.d (.d .bool),.d (.d tI)]),(2,.arr (.int .u8)),(3,.arr (.pair tI .str))],[]⟩
def an74:Ann:=.seq (.a) (.seq (.a) (.seq (.a) (.seq (.reg [] [] [z0,.k [1,2,3,5],z0,z0,z0,z0,.s [5] [5],z0,z0,z0] (.ct (.a))) (.a))))
def m74:(Int×Int×Bool×Bool×Int×List Int×List (Int×List UInt8))→Option (List UInt8×Int×Bool×Int×List Int×List (Int×List UInt8)) :=
 fun x=>((nonM x.2.2.1).bind fun (x:Unit)=>some ()).bind fun (x_1:Unit)=>bif x.2.2.2.1 then some ([],361,x.2.2.2.1,x.2.2.2.2.1,x.2.2.2.2.2.1,
 x.2.2.2.2.2.2) else bif PE.orM (PE.orM (PE.orM (ltM x.1 0) (ltM x.2.1 0)) (ltM (lenM x.2.2.2.2.2.1) x.1)) (ltM (wrap .i64 (lenM x.2.2.2.2.2.1-x.1))
 x.2.1) then some ([],360,x.2.2.2.1,x.2.2.2.2.1,x.2.2.2.2.2.1,x.2.2.2.2.2.2) else (m23 (false,x.2.2.2.1,x.2.2.2.2.1,x.2.2.2.2.2.1,x.2.2.2.2.2.2)).bind
 fun r=>(sliceM r x.1 (wrap .i64 (x.1+x.2.1))).bind fun r=>some (strB r,0,x.2.2.2.1,x.2.2.2.2.1,x.2.2.2.2.2.1,x.2.2.2.2.2.2)
theorem cp74:PSpecOK Tryz.prog 74 ⟨pa74,po74,pk74,[1],m74⟩ :=
 fnP_ok (own:=[5000000]) (an:=an74) (n:=400) tabs23OK (F:=OPS) OPS_sound OPS_nice (f:=74) (fn:=Tryz.f74) (code:=Tryz.f74.body.getD .skip) (by kernel_rfl) (by kernel_rfl) (by kernel_rfl) (by kernel_rfl) fun G w0 x=>by kernel_rfl
def tabs74:Tabs:=Tabs.addP tabs23 74 ⟨pa74,po74,pk74,[1],m74⟩
theorem tabs74OK:TabOK Tryz.prog tabs74:=TabOK.addP tabs23OK cp74

/-! putlog/putlogref02.extended -/
def as58:List Ty:=[.str]
def rs58:List Ty:=[(.list (.int .u8))]
def an58:Ann:=.seq (.a) (.seq (.a) (.seq (.seq (.a) (.block (.loop ⟨[(3,.r (.c (.h 0))),(4,.r (.c (.d (.d tI))))],(ra 6 12 ([])),[],[.arr (.int .u8)]⟩ [(.exit 0,⟨[(3,.r (.c (.h 0)))],(4::ra 6 12 ([])),[],[.arr (.int .u8)]⟩)] (.a)))) (.seq (.a) (.seq (.block (.loop ⟨[(3,.r (.c (.h 2)))],(ra 21 7 ([])),[(1,.gone)],[.arr (.int .u8)]⟩ [(.exit 2,⟨[(3,.r (.c (.h 2)))],(ra 21 7 ([])),[(1,.gone)],[.arr (.int .u8)]⟩)] (.a))) (.seq (.seq (.a) (.block (.loop ⟨[(3,.r (.c (.h 3))),(5,.r (.c (.d (.d tI))))],(ra 28 14 ([])),[(2,.gone)],[.arr (.int .u8)]⟩ [(.exit 4,⟨[(3,.r (.c (.h 3)))],(5::ra 28 14 ([])),[(2,.gone)],[.arr (.int .u8)]⟩)] (.a)))) (.a))))))
def m58:List UInt8→Option (List Int) :=
 fun x=>(loopM (fun (s:Int×List Int)=>bif ltM s.1 (lenM x) then (byteM x s.1).bind fun r=>(appM (nat_lit 1) s.2 [r]).bind fun r=>some (Sum.inl (wrap
 IntKind.i64 (s.1+1),r)) else some (Sum.inr s.2)) (0,[])).bind fun o=>(appM (nat_lit 1) o [128]).bind fun r=>(loopM (fun (s:List Int)=>(remM (lenM
 s) 64).bind fun r_1=>bif PE.notM (eqM r_1 56) then (appM (nat_lit 1) s [0]).bind fun r=>some (Sum.inl r) else some (Sum.inr s)) r).bind fun o_1=>(loopM
 (fun (s:Int×List Int)=>bif leM 0 s.1 then (shrM .i64 (wrap .i64 (8*lenM x)) (wrap .i64 (8*s.1))).bind fun r_1=>(appM (nat_lit
 1) s.2 [wrap .u8 r_1]).bind fun r=>some (Sum.inl (wrap .i64 (s.1-1),r)) else some (Sum.inr s.2)) (7,o_1)).bind fun o=>some o
theorem c58:SpecOK Tryz.prog 58 ⟨as58,rs58,m58⟩ :=
 fc tabs74OK [] an58 Tryz.f58 fun x=>by kernel_rfl
def tabs58:Tabs:=Tabs.add tabs74 58 ⟨as58,rs58,m58⟩
theorem tabs58OK:TabOK Tryz.prog tabs58:=TabOK.add tabs74OK c58 Tryz.call58

/-! putlog/putlogref02.rotated -/
def as87:List Ty:=[(.int .u32),tI]
def rs87:List Ty:=[(.int .u32)]
def an87:Ann:=.seq (.a) (.seq (.reg [0,0,3,0,0,16,56,127,255] (ra 0 9 ([])) (za 9 ([])) (.a)) (.a))
def m87:(Int×Int)→Option (Int) :=
 fun x=>(shrM .u32 x.1 x.2).bind fun r=>(shlM .u32 x.1 (wrap .i64 (32-x.2))).bind fun r_1=>some (bitM BinOp.or .u32 r r_1)
theorem c87:SpecOK Tryz.prog 87 ⟨as87,rs87,m87⟩ :=
 fc tabs58OK [] an87 Tryz.f87 fun x=>by kernel_rfl
def tabs87:Tabs:=Tabs.add tabs58 87 ⟨as87,rs87,m87⟩
theorem tabs87OK:TabOK Tryz.prog tabs87:=TabOK.add tabs58OK c87 Tryz.call87

/-! putlog/putlogref02.constants -/
def as88:List Ty:=[]
def rs88:List Ty:=[(.list (.int .u32))]
def an88:Ann:=.a
def m88:Unit→Option (List Int) :=
 fun x=>some [1116352408,1899447441,3049323471,3921009573,961987163,1508970993,2453635748,2870763221,3624381080,310598401,607225278,1426881987,
 1925078388,2162078206,2614888103,3248222580,3835390401,4022224774,264347078,604807628,770255983,1249150122,1555081692,1996064986,2554220882,
 2821834349,2952996808,3210313671,3336571891,3584528711,113926993,338241895,666307205,773529912,1294757372,1396182291,1695183700,1986661051,
 2177026350,2456956037,2730485921,2820302411,3259730800,3345764771,3516065817,3600352804,4094571909,275423344,430227734,506948616,659060556,
 883997877,958139571,1322822218,1537002063,1747873779,1955562222,2024104815,2227730452,2361852424,2428436474,2756734187,3204031479,3329325298]
theorem c88:SpecOK Tryz.prog 88 ⟨as88,rs88,m88⟩ :=
 fc tabs87OK [] an88 Tryz.f88 fun x=>by kernel_rfl
def tabs88:Tabs:=Tabs.add tabs87 88 ⟨as88,rs88,m88⟩
theorem tabs88OK:TabOK Tryz.prog tabs88:=TabOK.add tabs87OK c88 Tryz.call88

/-! putlog/putlogref02.block -/
def as59:List Ty:=[(.list (.int .u32)),(.list (.int .u8))]
def rs59:List Ty:=[(.list (.int .u32))]
def an59_0:Ann:=.reg [0,0,2,7,15,31,0,0,128,448,960,2047,4095,0,0,16384,57344,122880,253952,524287,1048575] (ra 0 21 ([])) (za 3 (.s [1] []::.s [1] []::za 4 (.s [1] []::.s [1] []::za 5 (.s [1] []::.s [1] []::za 3 ([]))))) (.a)
def an59:Ann:=.seq (.a) (.seq (.a) (.seq (.seq (.a) (.block (.loop ⟨[(5,.r (.c (.h 0))),(6,.r (.c (.d (.d tI))))],(ra 19 40 ([])),[],[.arr (.int .u32)]⟩ [(.exit 0,⟨[(5,.r (.c (.h 0)))],(6::ra 19 40 ([])),[],[.arr (.int .u32)]⟩)] (.seq (.a) (.seq (.block (.reg [0,0,0,4,14,30,62,126,0,0,512,1536,3840,7936,16128,32512,65534,0,0,262144,786432,1966080,4063232,8257536,16646144,33554430,0,0,134217728,402653184,1006632960,2080374784,4227858432,8589934590,17179869182,34359738367,68719476735] (ra 0 37 ([])) (za 35 (.s [0] [1,0]::z0::[])) (.a))) (.a)))))) (.seq (.seq (.a) (.block (.loop ⟨[(5,.r (.c (.h 1))),(7,.r (.c (.d (.d tI))))],(8::9::ra 59 62 ([])),[(0,.gone)],[.arr (.int .u32)]⟩ [(.exit 2,⟨[(5,.r (.c (.h 1)))],(7::8::9::ra 59 62 ([])),[(0,.gone)],[.arr (.int .u32)]⟩)] (.seq (.a) (.seq (.block (.seq an59_0 (.seq an59_0 (.reg [0,0,0,4,14,30,0,126,0,0,512,1792,3840,8190,0,32766,65534,131071,262143] (ra 0 19 ([])) (za 4 (.s [1] []::.s [1] []::za 5 (.s [1] []::.s [1] []::za 4 (.s [1] [2,1]::z0::[])))) (.a))))) (.a)))))) (.seq (.a) (.seq (.a) (.seq (.a) (.seq (.seq (.a) (.block (.loop ⟨[(11,.r (.c (.d (.d (.list (.int .u32)))))),(12,.r (.c (.d (.d tI))))],(13::14::15::16::ra 125 96 ([])),[(2,.gone)],[]⟩ [(.exit 4,⟨[(11,.r (.c (.d (.d (.list (.int .u32))))))],(12::13::14::15::16::ra 125 96 ([])),[(2,.gone)],[]⟩)] (.seq (.a) (.seq (.block (.seq (.a) (.seq (.a) (.seq (.reg [0,1,3,0,8,0,56,120,0,376,1016,2047,0,0,8192,24576,61440,0,131072,0,524288,1572864,4063232,8384512,16777215,0,0,100663296,234881024,536870911,0,0,3221225472,7516192768,17179869183,34359738367] (ra 0 36 ([])) (za 32 (.s [1] []::.s [1] []::z0::z0::[])) (.a)) (.seq (.reg [0,1,0,7,15,0,47,127,0,0,512,1536,3840,0,0,16384,49152,122880,261888,0,524288,1572864,0,4194304,12582912,33030144,67108608,134217727,268435455] (ra 0 29 ([])) (za 29 ([])) (.a)) (.reg [0,0,3,0,0,16,48,0,128,384,0,1024,3072,0,15360,0,0,65536,196608,0,524288,1572864,4194303,8388607] (ra 0 24 ([])) (za 24 ([])) (.a))))))) (.a)))))) (.seq (.a) (.seq (.seq (.a) (.block (.loop ⟨[(17,.r (.c (.h 3))),(18,.r (.c (.d (.d tI))))],(ra 221 16 ([])),[],[.arr (.int .u32)]⟩ [(.exit 6,⟨[(17,.r (.c (.h 3)))],(18::ra 221 16 ([])),[],[.arr (.int .u32)]⟩)] (.seq (.a) (.seq (.block (.reg [0,0,0,6,14,0,0,96,224,510,1022,2047,4095] (ra 0 13 ([])) (za 11 (.s [3] [4,3]::z0::[])) (.a))) (.a)))))) (.a))))))))))
def m59:(List Int×List Int)→Option (List Int) :=
 fun x=>(loopM (fun (s:Int×List Int)=>bif ltM s.1 16 then (idxM x.2 (wrap .i64 (4*s.1))).bind fun r=>(shlM .u32 (wrap .u32 r)
 24).bind fun r_1=>(idxM x.2 (wrap .i64 (wrap .i64 (4*s.1)+1))).bind fun r_2=>(shlM .u32 (wrap .u32 r_2) 16).bind fun r_3
 => (idxM x.2 (wrap .i64 (wrap .i64 (4*s.1)+2))).bind fun r_4=>(shlM .u32 (wrap .u32 r_4) 8).bind fun r_5=>(idxM x.2 (wrap
 IntKind.i64 (wrap .i64 (4*s.1)+3))).bind fun r_6=>(appM (nat_lit 4) s.2 [bitM BinOp.or .u32 (bitM BinOp.or .u32 (bitM BinOp.or
 IntKind.u32 r_1 r_3) r_5) (wrap .u32 r_6)]).bind fun r=>some (Sum.inl (wrap .i64 (s.1+1),r)) else some (Sum.inr s.2)) (0,[])).bind fun o
 => (loopM (fun (s:Int×List Int)=>bif ltM s.1 64 then (chkM (wrap .i64 (s.1-15)) (lenM s.2)).bind fun r=>(idxM s.2 (wrap .i64 (s.1 -
 15))).bind fun r_1=>(m87 (r_1,7)).bind fun r_2=>(chkM (wrap .i64 (s.1-15)) (lenM s.2)).bind fun r_3=>(idxM s.2 (wrap .i64 (s.1 -
 15))).bind fun r_4=>(m87 (r_4,18)).bind fun r_5=>(chkM (wrap .i64 (s.1-15)) (lenM s.2)).bind fun r_6=>(idxM s.2 (wrap .i64 (s.1 -
 15))).bind fun r_7=>(shrM .u32 r_7 3).bind fun r_8=>(chkM (wrap .i64 (s.1-2)) (lenM s.2)).bind fun r_9=>(idxM s.2 (wrap .i64 (s.1
 - 2))).bind fun r_10=>(m87 (r_10,17)).bind fun r_11=>(chkM (wrap .i64 (s.1-2)) (lenM s.2)).bind fun r_12=>(idxM s.2 (wrap .i64 (s.1 -
 2))).bind fun r_13=>(m87 (r_13,19)).bind fun r_14=>(chkM (wrap .i64 (s.1-2)) (lenM s.2)).bind fun r_15=>(idxM s.2 (wrap .i64 (s.1 -
 2))).bind fun r_16=>(shrM .u32 r_16 10).bind fun r_17=>(chkM (wrap .i64 (s.1-16)) (lenM s.2)).bind fun r_18=>(idxM s.2 (wrap IntKind.i64
 (s.1-16))).bind fun r_19=>(chkM (wrap .i64 (s.1-7)) (lenM s.2)).bind fun r_20=>(idxM s.2 (wrap .i64 (s.1-7))).bind fun r_21=>(appM
 (nat_lit 4) s.2 [wrap .u32 (wrap .u32 (wrap .u32 (r_19+bitM BinOp.xor .u32 (bitM BinOp.xor .u32 r_2 r_5) r_8)+r_21) +
 bitM BinOp.xor .u32 (bitM BinOp.xor .u32 r_11 r_14) r_17)]).bind fun r=>some (Sum.inl (wrap .i64 (s.1+1),r)) else some (Sum.inr
 s.2)) (16,o)).bind fun o_1=>(m88 ()).bind fun r=>(appM (nat_lit 4) [] x.1).bind fun r_1=>(loopM (fun (s:List Int×Int)=>bif ltM s.2 64 then (idxM
 s.1 0).bind fun r_2=>(idxM s.1 4).bind fun r_3=>(idxM s.1 7).bind fun r_4=>(m87 (r_3,6)).bind fun r_5=>(m87 (r_3,11)).bind fun r_6=>(m87 (r_3,
 25)).bind fun r_7=>(idxM s.1 5).bind fun r_8=>(idxM s.1 6).bind fun r_9=>(idxM r s.2).bind fun r_10=>(chkM s.2 (lenM o_1)).bind fun r_11=>(idxM o_1
 s.2).bind fun r_12=>(m87 (r_2,2)).bind fun r_13=>(m87 (r_2,13)).bind fun r_14=>(m87 (r_2,22)).bind fun r_15=>(idxM s.1 1).bind fun r_16=>(idxM
 s.1 2).bind fun r_17=>(idxM s.1 1).bind fun r_18=>(idxM s.1 2).bind fun r_19=>(idxM s.1 1).bind fun r_20=>(idxM s.1 2).bind fun r_21=>(idxM s.1
 3).bind fun r_22=>(idxM s.1 5).bind fun r_23=>(idxM s.1 6).bind fun r=>some (Sum.inl ([wrap .u32 (wrap .u32 (wrap .u32 (wrap
 IntKind.u32 (wrap .u32 (r_4+bitM BinOp.xor .u32 (bitM BinOp.xor .u32 r_5 r_6) r_7)+bitM BinOp.xor .u32 (bitM BinOp.and
 IntKind.u32 r_3 r_8) (bitM BinOp.and .u32 (cplM .u32 r_3) r_9))+r_10)+r_12)+wrap .u32 (bitM BinOp.xor .u32 (bitM BinOp.xor
 IntKind.u32 r_13 r_14) r_15+bitM BinOp.xor .u32 (bitM BinOp.xor .u32 (bitM BinOp.and .u32 r_2 r_16) (bitM BinOp.and .u32 r_2
 r_17)) (bitM BinOp.and .u32 r_18 r_19))),r_2,r_20,r_21,wrap .u32 (r_22+wrap .u32 (wrap .u32 (wrap .u32 (wrap
 IntKind.u32 (r_4+bitM BinOp.xor .u32 (bitM BinOp.xor .u32 r_5 r_6) r_7)+bitM BinOp.xor .u32 (bitM BinOp.and .u32 r_3 r_8)
 (bitM BinOp.and .u32 (cplM .u32 r_3) r_9))+r_10)+r_12)),r_3,r_23,r],wrap .i64 (s.2+1))) else some (Sum.inr s.1)) (r_1,0)).bind
 fun o_2=>(loopM (fun (s:Int×List Int)=>bif ltM s.1 8 then (idxM x.1 s.1).bind fun r_2=>(idxM o_2 s.1).bind fun r_3=>(appM (nat_lit 4) s.2 [wrap
 IntKind.u32 (r_2+r_3)]).bind fun r=>some (Sum.inl (wrap .i64 (s.1+1),r)) else some (Sum.inr s.2)) (0,[])).bind fun o=>some o
theorem c59:SpecOK Tryz.prog 59 ⟨as59,rs59,m59⟩ :=
 fc tabs88OK [] an59 Tryz.f59 fun x=>by kernel_rfl
def tabs59:Tabs:=Tabs.add tabs88 59 ⟨as59,rs59,m59⟩
theorem tabs59OK:TabOK Tryz.prog tabs59:=TabOK.add tabs88OK c59 Tryz.call59

/-! putlog/putlogref02.Sum -/
def as28:List Ty:=[.str]
def rs28:List Ty:=[.str]
def an28:Ann:=.seq (.a) (.seq (.a) (.seq (.a) (.seq (.seq (.a) (.block (.loop ⟨[(3,.r (.c (.d (.d (.list (.int .u32)))))),(5,.r (.c (.d (.d tI))))],(ra 11 13 ([])),[],[]⟩ [(.exit 0,⟨[(3,.r (.c (.d (.d (.list (.int .u32))))))],(5::ra 11 13 ([])),[],[]⟩)] (.a)))) (.seq (.a) (.seq (.seq (.a) (.block (.loop ⟨[(6,.r (.c (.h 0))),(7,.r (.c (.d (.d tI))))],(ra 24 30 ([])),[],[.arr (.int .u8)]⟩ [(.exit 2,⟨[(6,.r (.c (.h 0)))],(7::ra 24 30 ([])),[],[.arr (.int .u8)]⟩)] (.seq (.a) (.seq (.block (.reg [0,0,0,6,14,30,62,0,0,384,896,1920,3968,0,0,24576,57344,122880,253952,0,0,1572864,3670016,7864320,16777214,33554431,67108863] (ra 0 27 ([])) (za 25 (.s [0] [1,0]::z0::[])) (.a))) (.a)))))) (.a))))))
def m28:List UInt8→Option (List UInt8) :=
 fun x=>(m58 x).bind fun r=>(loopM (fun (s:List Int×Int)=>bif ltM s.2 (lenM r) then (sliceM r s.2 (wrap .i64 (s.2+64))).bind fun r_1=>(m59
 (s.1,r_1)).bind fun r=>some (Sum.inl (r,wrap .i64 (s.2+64))) else some (Sum.inr s.1)) ([1779033703,3144134277,1013904242,2773480762,
 1359893119,2600822924,528734635,1541459225],0)).bind fun o=>(loopM (fun (s:Int×List Int)=>bif ltM s.1 8 then (idxM o s.1).bind fun r_1=>(shrM
 IntKind.u32 r_1 24).bind fun r_2=>(idxM o s.1).bind fun r_3=>(shrM .u32 r_3 16).bind fun r_4=>(idxM o s.1).bind fun r_5=>(shrM .u32 r_5
 8).bind fun r_6=>(idxM o s.1).bind fun r_7=>(appM (nat_lit 1) s.2 [wrap .u8 r_2,wrap .u8 r_4,wrap .u8 r_6,wrap IntKind.u8
 r_7]).bind fun r=>some (Sum.inl (wrap .i64 (s.1+1),r)) else some (Sum.inr s.2)) (0,[])).bind fun o=>some (strB o)
theorem c28:SpecOK Tryz.prog 28 ⟨as28,rs28,m28⟩ :=
 fc tabs59OK [] an28 Tryz.f28 fun x=>by kernel_rfl
def tabs28:Tabs:=Tabs.add tabs59 28 ⟨as28,rs28,m28⟩
theorem tabs28OK:TabOK Tryz.prog tabs28:=TabOK.add tabs59OK c28 Tryz.call28

/-! putlog/putlogref02.Chain -/
def as57:List Ty:=[.str,.str]
def rs57:List Ty:=[.str]
def an57:Ann:=.a
def m57:(List UInt8×List UInt8)→Option (List UInt8) :=
 fun x=>(catM [(2:UInt8)] x.1).bind fun r=>(catM r x.2).bind fun r_1=>(m28 r_1).bind fun r=>some r
theorem c57:SpecOK Tryz.prog 57 ⟨as57,rs57,m57⟩ :=
 fc tabs28OK [] an57 Tryz.f57 fun x=>by kernel_rfl
def tabs57:Tabs:=Tabs.add tabs28 57 ⟨as57,rs57,m57⟩
theorem tabs57OK:TabOK Tryz.prog tabs57:=TabOK.add tabs28OK c57 Tryz.call57

/-! putlog/putlogref02.Head -/
def as43:List Ty:=[(.list .str)]
def rs43:List Ty:=[.str]
def an43:Ann:=.seq (.a) (.seq (.a) (.seq (.seq (.a) (.block (.loop ⟨[(3,.r (.c (.d (.d .str)))),(4,.r (.c (.d (.d tI))))],(ra 7 12 ([])),[],[]⟩ [(.exit 0,⟨[(3,.r (.c (.d (.d .str))))],(4::ra 7 12 ([])),[],[]⟩)] (.a)))) (.a)))
def m43:List (List UInt8)→Option (List UInt8) :=
 fun x=>(mkM 32 32 (nat_lit 1) 0).bind fun r=>(loopM (fun (s:List UInt8×Int)=>bif ltM s.2 (lenM x) then (idxM x s.2).bind fun r_1=>(m57 (s.1,
 r_1)).bind fun r=>some (Sum.inl (r,wrap .i64 (s.2+1))) else some (Sum.inr s.1)) (strB r,0)).bind fun o=>some o
theorem c43:SpecOK Tryz.prog 43 ⟨as43,rs43,m43⟩ :=
 fc tabs57OK [] an43 Tryz.f43 fun x=>by kernel_rfl
def tabs43:Tabs:=Tabs.add tabs57 43 ⟨as43,rs43,m43⟩
theorem tabs43OK:TabOK Tryz.prog tabs43:=TabOK.add tabs57OK c43 Tryz.call43

/-! putlog/putlogref01.zigzag -/
def as86:List Ty:=[tI]
def rs86:List Ty:=[(.int .u64)]
def an86:Ann:=.a
def m86:Int→Option (Int) :=
 fun x=>bif ltM x 0 then some (wrap .u64 (wrap .u64 (wrap .u64 (wrap .i64 (negM x))*2)-1)) else some (wrap .u64 (wrap
 IntKind.u64 x*2))
theorem c86:SpecOK Tryz.prog 86 ⟨as86,rs86,m86⟩ :=
 fc tabs43OK [] an86 Tryz.f86 fun x=>by kernel_rfl
def tabs86:Tabs:=Tabs.add tabs43 86 ⟨as86,rs86,m86⟩
theorem tabs86OK:TabOK Tryz.prog tabs86:=TabOK.add tabs43OK c86 Tryz.call86

/-! putlog/putlogref01.PutInt -/
def as56:List Ty:=[tI]
def rs56:List Ty:=[.str,tI]
def an56:Ann:=.seq (.a) (.seq (.a) (.seq (.a) (.seq (.a) (.seq (.block (.loop ⟨[(4,.r (.c (.d (.d (.int .u64))))),(5,.r (.c (.h 0)))],(ra 14 11 ([])),[],[.arr (.int .u8)]⟩ [(.exit 0,⟨[(4,.r (.c (.d (.d (.int .u64))))),(5,.r (.c (.h 0)))],(ra 14 11 ([])),[],[.arr (.int .u8)]⟩)] (.a))) (.a)))))
def m56:Int→Option (List UInt8×Int) :=
 fun x=>bif PE.orM (ltM x (-4611686018427387903)) (ltM 4611686018427387903 x) then some ([],10) else (m86 x).bind fun r=>(loopM (fun (s:Int×List Int) =>
 bif leM 128 s.1 then (remM s.1 128).bind fun r_1=>(appM (nat_lit 1) s.2 [wrap .u8 (wrap .u64 (r_1+128))]).bind fun r_2=>(divM IntKind.u64
 s.1 128).bind fun r=>some (Sum.inl (r,r_2)) else some (Sum.inr (s.1,s.2))) (r,[])).bind fun o=>(appM (nat_lit 1) o.2 [wrap .u8 o.1]).bind fun r
 => some (strB r,0)
theorem c56:SpecOK Tryz.prog 56 ⟨as56,rs56,m56⟩ :=
 fc tabs86OK [] an56 Tryz.f56 fun x=>by kernel_rfl
def tabs56:Tabs:=Tabs.add tabs86 56 ⟨as56,rs56,m56⟩
theorem tabs56OK:TabOK Tryz.prog tabs56:=TabOK.add tabs86OK c56 Tryz.call56

/-! putlog/putlogref01.Int -/
def as97:List Ty:=[.str,tI]
def rs97:List Ty:=[tI,tI,tI]
def an97:Ann:=.seq (.a) (.seq (.a) (.seq (.a) (.seq (.seq (.a) (.block (.loop ⟨[(7,.r (.c (.d (.d (.int .u64))))),(8,.r (.c (.d (.d tI))))],(9::ra 21 27 ([])),[],[]⟩ [(.exit 0,⟨[],(7::8::9::ra 21 27 ([])),[],[]⟩),(.ret,⟨[(4,.r (.c (.d (.d tI)))),(5,.r (.c (.d (.d tI)))),(6,.r (.c (.d (.d tI))))],(ra 7 6 (ra 21 59 ([]))),[],[]⟩)] (.seq (.a) (.seq (.block (.seq (.a) (.seq (.a) (.seq (.a) (.seq (.a) (.seq (.join [(.norm,⟨[(10,.r (.c (.d (.d tI))))],(ra 51 6 ([])),[],[]⟩)] (.a)) (.a))))))) (.a)))))) (.a))))
def m97:(List UInt8×Int)→Option (Int×Int×Int) :=
 fun x=>bif PE.orM (ltM x.2 0) (ltM (lenM x.1) x.2) then some (0,0,2) else (loopM (fun (s:Int×Int)=>bif PE.andM (ltM s.2 9) (ltM (wrap .i64 (x.2
 + s.2)) (lenM x.1)) then (byteM x.1 (wrap .i64 (x.2+s.2))).bind fun r=>(remM (wrap .u64 r) 128).bind fun r_1=>(shlM .u64 r_1 (wrap
 IntKind.i64 (7*s.2))).bind fun r_2=>bif leM 128 (wrap .u64 r) then some (Sum.inl (wrap .u64 (s.1+r_2),wrap .i64 (s.2+1))) else
 (divM .u64 (wrap .u64 (s.1+r_2)) 2).bind fun r_3=>((remM (wrap .u64 (s.1+r_2)) 2).bind fun r=>bif eqM r 1 then some (wrap
 IntKind.i64 (wrap .i64 (negM (wrap .i64 r_3))-1)) else some (wrap .i64 r_3)).bind fun o=>(m56 o).bind fun r_4=>(bif PE.notM
 (PE.notM (eqM r_4.2 0)) then sliceM x.1 x.2 (wrap .i64 (wrap .i64 (x.2+s.2)+1)) else some []).bind fun r=>bif PE.orM (PE.notM (eqM r_4.2
 0)) (PE.notM (eqsM r_4.1 r)) then some (Sum.inr (Sum.inr (0,0,10))) else some (Sum.inr (Sum.inr (o,wrap .i64 (wrap .i64 (x.2+s.2)+1),
 0))) else some (Sum.inr (Sum.inl ()))) (0,0)).bind fun o=>Sum.elim (fun (t:Unit)=>some (0,0,10)) (fun (t:Int×Int×Int)=>some (t.1,t.2.1,
 t.2.2)) o
theorem c97:SpecOK Tryz.prog 97 ⟨as97,rs97,m97⟩ :=
 fc tabs56OK [] an97 Tryz.f97 fun x=>by kernel_rfl
def tabs97:Tabs:=Tabs.add tabs56 97 ⟨as97,rs97,m97⟩
theorem tabs97OK:TabOK Tryz.prog tabs97:=TabOK.add tabs56OK c97 Tryz.call97

/-! putlog/putlogref01.String -/
def as75:List Ty:=[.str,tI]
def rs75:List Ty:=[.str,tI,tI]
def an75:Ann:=.a
def m75:(List UInt8×Int)→Option (List UInt8×Int×Int) :=
 fun x=>(m97 (x.1,x.2)).bind fun r=>bif PE.notM (eqM r.2.2 0) then some ([],0,r.2.2) else bif PE.orM (PE.orM (ltM r.1 0) (ltM 65536 r.1)) (ltM (wrap
 IntKind.i64 (lenM x.1-r.2.1)) r.1) then some ([],0,10) else (sliceM x.1 r.2.1 (wrap .i64 (r.2.1+r.1))).bind fun r_1=>some (r_1,wrap
 IntKind.i64 (r.2.1+r.1),0)
theorem c75:SpecOK Tryz.prog 75 ⟨as75,rs75,m75⟩ :=
 fc tabs97OK [] an75 Tryz.f75 fun x=>by kernel_rfl
def tabs75:Tabs:=Tabs.add tabs97 75 ⟨as75,rs75,m75⟩
theorem tabs75OK:TabOK Tryz.prog tabs75:=TabOK.add tabs97OK c75 Tryz.call75

/-! (*putlog/putlogref36.Disk).Write -/
def pa16:List SR:=[.c (.h 1),.c (.d (.d tI)),.c (.d (.d .str))]
def po16:List SO:=[.opt [.h 2,.h 3,.d (.d .bool),.d (.d tI)],.arr (.int .u8),.arr (.pair tI .str)]
def pk16:Skel:=⟨[(1000000,.r (.c (.d (.d tI))))],[],[(1,.box [.h 2,.h 4,.d (.d .bool),.d (.d tI)]),(3,.gone)],[.arr (.pair tI .str)]⟩
def an16:Ann:=.seq (.a) (.seq (.a) (.seq (.a) (.seq (.a) (.seq (.join [(.norm,⟨[],(ra 46 20 ([])),[(1,.box [.h 2,.h 4,.d (.d .bool),.d (.d tI)])],[]⟩)] (.a)) (.a)))))
def m16:(Int×List UInt8×Bool×Bool×Int×List Int×List (Int×List UInt8))→Option (Int×Bool×Int×List (Int×List UInt8)) :=
 fun x=>((nonM x.2.2.1).bind fun (x:Unit)=>some ()).bind fun (x_1:Unit)=>bif x.2.2.2.1 then some (361,x.2.2.2.1,x.2.2.2.2.1,x.2.2.2.2.2.2) else bif
 PE.orM (PE.orM (ltM x.1 0) (ltM (lenM x.2.2.2.2.2.1) x.1)) (ltM (wrap .i64 (lenM x.2.2.2.2.2.1-x.1)) (lenM x.2.1)) then some (360,x.2.2.2.1,
 x.2.2.2.2.1,x.2.2.2.2.2.2) else (appM (nat_lit 24) x.2.2.2.2.2.2 [(x.1,x.2.1)]).bind fun r=>(bif ltM 0 x.2.2.2.2.1 then bif eqM (wrap IntKind.i64
 (x.2.2.2.2.1-1)) 0 then some (true,wrap .i64 (x.2.2.2.2.1-1)) else some (x.2.2.2.1,wrap .i64 (x.2.2.2.2.1-1)) else some (x.2.2.2.1,
 x.2.2.2.2.1)).bind fun o=>some (0,o.1,o.2,r)
theorem cp16:PSpecOK Tryz.prog 16 ⟨pa16,po16,pk16,[1],m16⟩ :=
 fnP_ok (own:=[5000000]) (an:=an16) (n:=400) tabs75OK (F:=OPS) OPS_sound OPS_nice (f:=16) (fn:=Tryz.f16) (code:=Tryz.f16.body.getD .skip) (by kernel_rfl) (by kernel_rfl) (by kernel_rfl) (by kernel_rfl) fun G w0 x=>by kernel_rfl
def tabs16:Tabs:=Tabs.addP tabs75 16 ⟨pa16,po16,pk16,[1],m16⟩
theorem tabs16OK:TabOK Tryz.prog tabs16:=TabOK.addP tabs75OK cp16

/-! (*putlog/putlogref36.Disk).Sync -/
def pa45:List SR:=[.c (.h 1)]
def po45:List SO:=[.opt [.h 2,.h 3,.d (.d .bool),.d (.d tI)],.arr (.int .u8),.arr (.pair tI .str)]
def pk45:Skel:=⟨[(1000000,.r (.c (.d (.d tI))))],[],[(1,.box [.h 4,.h 5,.d (.d .bool),.d (.d tI)]),(2,.gone),(3,.gone)],[.arr (.int .u8),.arr (.pair tI .str)]⟩
def an45:Ann:=.seq (.a) (.seq (.a) (.seq (.reg [] [] [z0,z0,.k [1,2,3,5],.s [1] [],z0,.s [1,5] [1]] (.ct (.a))) (.a)))
def m45:(Bool×Bool×Int×List Int×List (Int×List UInt8))→Option (Int×Bool×Int×List Int×List (Int×List UInt8)) :=
 fun x=>((nonM x.1).bind fun (x:Unit)=>some ()).bind fun (x_1:Unit)=>bif x.2.1 then some (361,x.2.1,x.2.2.1,x.2.2.2.1,x.2.2.2.2) else (m23 (false,
 x.2.1,x.2.2.1,x.2.2.2.1,x.2.2.2.2)).bind fun r=>some (0,x.2.1,x.2.2.1,r,[])
theorem cp45:PSpecOK Tryz.prog 45 ⟨pa45,po45,pk45,[1],m45⟩ :=
 fnP_ok (own:=[5000000]) (an:=an45) (n:=400) tabs16OK (F:=OPS) OPS_sound OPS_nice (f:=45) (fn:=Tryz.f45) (code:=Tryz.f45.body.getD .skip) (by kernel_rfl) (by kernel_rfl) (by kernel_rfl) (by kernel_rfl) fun G w0 x=>by kernel_rfl
def tabs45:Tabs:=Tabs.addP tabs16 45 ⟨pa45,po45,pk45,[1],m45⟩
theorem tabs45OK:TabOK Tryz.prog tabs45:=TabOK.addP tabs16OK cp45
end
end Go.Proofs.YtobfnefajpiakaaGreatDoor
