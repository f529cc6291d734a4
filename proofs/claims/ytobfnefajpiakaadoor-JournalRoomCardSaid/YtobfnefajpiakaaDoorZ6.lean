/-
 Texts of this proof, put together: Px, Ty, Gl, Tb, P3, P5, P9, PJ, PI, T1, PS, PR, PT, M0, M1, PA, PB, PC, PD, Aa, Ac, Ah, Ba, Bb.
 No conditions.
-/
import Derived.Test.YtobfnefajpiakaaDoorZ5
import Derived.ProofKit
import Derived.OpenShut
import Derived.Carry
import Derived.Test.YtobfnefajpiakaaDoorProg
import Derived.KernelRfl
import Derived.Test.YtobfnefajpiakaaDoorRows
import Derived.LaidMore
import Derived.Stop.Joined
import Derived.Lay
import Derived.Test.YtobfnefajpiakaaDoorZ4
import Derived.Test.YtobfnefajpiakaaDoorZ3
import Derived.Shelf.SlSortCmp.NoneTotal
import Derived.Shelf.Sort.Plain
import Derived.Shelf.Slices.In.SortNone
import Derived.Shelf.Slices.CompactI
import Derived.Shelf.Strings.Builder1
import Derived.Shelf.Strings.Prefix
import Derived.Shelf.Strings.SlTrimAscii
import Derived.Shelf.Strings.Repeat
import Derived.Shelf.Strconv.AtoiAll
import Derived.Shelf.Strconv.Itoa3
import Derived.Shelf.Strings.OnBuilder
import Derived.WalkKit
import Derived.LaidEql
import Derived.Stop.Asserts
import Derived.RowKitTokens
import Derived.Shelf.Lays
import Derived.Shelf.Lays2
import Derived.Shelf.LaysC
import Derived.RecoverIn
import Derived.IntWalk
set_option linter.all false
namespace Go.PE
open Go Go.RowKit Go.Abs Go.ChangeShapes Go.WideShapes Go.ChangeAt
instance dbI:DB:=dbG
variable [ea:EA]

mutual
inductive TyP (P:Program):TypeId→Ty→Prop where
 | int {t k}:P.underlying t=some (.int k)→TyP P t (.int k)
 | bool {t}:P.underlying t=some .bool→TyP P t .bool
 | str {t}:P.underlying t=some .string→TyP P t .str
 | list {t e T}:P.underlying t=some (.slice e)→P.cellsOf e=T.size→TyP P e T→TyP P t (.list T)
 | struct1 {t fs T}:P.underlying t=some (.struct fs)→P.cellsOf t=T.size→FsP P (fs.toList.map fun f=>(f.offset,f.type)) 0 T→fs.size=1→TyP P t (.one T)
 | struct {t fs A B}:P.underlying t=some (.struct fs)→P.cellsOf t=A.size+B.size→FsP P (fs.toList.map fun f=>(f.offset,f.type)) 0 (.pair A B)→TyP P t (.pair A B)
 | array1 {t e T}:P.underlying t=some (.array 1 e)→P.cellsOf t=T.size→FsP P [(0,e)] 0 T→TyP P t (.one T)
 | array {t n e A B}:P.underlying t=some (.array n e)→P.cellsOf t=A.size+B.size→FsP P ((List.range n).map fun i=>(i*P.cellsOf e,e)) 0 (.pair A B)→TyP P t (.pair A B)
inductive FsP (P:Program):List (Nat×TypeId)→Nat→Ty→Prop where
 | last {off t T}:P.cellsOf t=T.size→TyP P t T→FsP P [(off,t)] off T
 | cons {off t A B l}:P.cellsOf t=A.size→TyP P t A→FsP P l (off+A.size) B→FsP P ((off,t)::l) off (.pair A B)
end
def InWd (w:World):Cells:=fun b _=>b<w.heap.size
theorem exists_list {α:Type} {p:Nat→α→Prop}:∀ (n:Nat),(∀ i,i<n→∃ y,p i y)→∃ ys:List α,ys.length=n∧∀ i y,ys[i]? = some y→p i y
 | 0,_=>⟨[],rfl,fun i y h=>by simp at h⟩
 | n+1,h=>by
  obtain ⟨ys,h1,h2⟩:=exists_list n fun i hi=>h i (by omega)
  obtain ⟨y,hy⟩:=h n (by omega)
  refine ⟨ys++[y],by simp [h1],fun i z hz=>?_⟩
  by_cases hi:i<ys.length
  ·rw [xL hi] at hz;exact h2 i z hz
  ·rw [xR (by omega)] at hz
   have:i-ys.length=0:=by
    have:=(gS.1 hz).1
    simp at this;omega
   rw [this] at hz
   simp at hz
   subst hz
   rw [show i=n by omega];exact hy
section
variable {H:Type} {enc:TypeId×Value→H} {P:Program} {w:World} {base:Nat} {spare:Nat→Bool} {held:Bool}
theorem cells?_get {a:Addr} {n:Nat} {cs:List Value} (h:w.cells? base a n=some cs):cs.length=n∧∀ j u,cs[j]? = some u→w.cell? (a.add j)=some u:=by
 obtain ⟨_,h1,h2⟩:=World.cells?_some h
 refine ⟨h1,fun j u hj=>?_⟩
 have hl:=(gS.1 hj).1
 rw [h2 j (by omega)];exact hj
theorem trod_rep:∀ (fuel:Nat) {t:TypeId} {T:Ty} {cs:List Value} {x:DataW H×List MemPlace},TyP P t T→DataW.trod enc P w base spare held fuel t cs=some x→∃ y:T.den,Rep (InWd w) w T y cs:=by
 intro fuel
 induction fuel with
 | zero=>intro t T cs x _ h;simp [DataW.trod] at h
 | succ n ih =>
  -- fields
  have fields:∀ {l:List (Nat×TypeId)} {off:Nat} {T:Ty} {cs:List Value},FsP P l off T→off+T.size≤cs.length→(∀ (i:Nat) p,l[i]? = some p→∃ x,DataW.trod enc P w base spare held n p.2 ((cs.drop p.1).take (P.cellsOf p.2))=some x) →
    ∃ y:T.den,Rep (InWd w) w T y ((cs.drop off).take T.size):=by
   intro l
   induction l with
   | nil=>intro off T cs h;cases h
   | cons p l ihl =>
    intro off T cs h hlen ht
    cases h with
    | last hc hty =>
     obtain ⟨x,hx⟩:=ht 0 _ rfl
     rw [← hc]
     exact ih hty hx
    | @cons _ t A B _ hc hty hr =>
     obtain ⟨x,hx⟩:=ht 0 _ rfl
     rw [hc] at hx
     obtain ⟨y1,h1⟩:=ih hty hx
     have hsz:(Ty.pair A B).size=A.size+B.size:=rfl
     rw [hsz] at hlen
     obtain ⟨y2,h2⟩:=ihl hr (by omega) fun i p hp=>ht (i+1) p (by simpa using hp)
     refine ⟨(y1,y2),_,_,?_,h1,h2⟩
     rw [hsz]
     rw [List.take_add,List.drop_drop]
  intro t T cs x hT h
  cases hT with
  | int hu =>
   obtain ⟨m,rfl,_,hw⟩:=DataW.trod_int hu h
   refine ⟨m,rfl,?_⟩
   simp [Lit.wf] at hw
   exact hw
  | bool hu=>obtain ⟨b,rfl,_⟩:=DataW.trod_bool hu h;exact ⟨b,rfl⟩
  | str hu =>
   obtain ⟨s,rfl,_,hs⟩:=DataW.trod_string hu h
   exact ⟨s.data.toList,by simp,by simpa using hs⟩
  | @list _ e T hu hc hty =>
   rcases DataW.trod_slice hu h with ⟨rfl,_⟩ | ⟨a,len,cap,elems,rest,m,hm,rfl,_,_,h1,h2,h3,h4,_⟩
   ·exact ⟨[],none,0,rfl,nR _,Nat.zero_le _,.inl rfl⟩
   ·cases hm
    rw [hc] at h4
    have hex:∀ i,i<len→∃ y:T.den,∃ es,Rep (InWd w) w T y es∧∀ j u,es[j]? = some u→w.cell? ((a.add (i*T.size)).add j)=some u:=by
     intro i hi
     have h5:=h4 i hi
     rw [gE (by omega)] at h5
     obtain ⟨es,h6,h7⟩:=Option.bind_eq_some_iff.1 h5
     obtain ⟨y,hy⟩:=ih hty h7
     exact ⟨y,es,hy,(cells?_get h6).2⟩
    obtain ⟨ys,hl,hys⟩:=exists_list len hex
    refine ⟨ys,some a,cap,by rw [hl],by rw [hl];exact h1,h2,?_⟩
    by_cases h0:len=0
    ·left;show List.length ys=0;omega
    ·right
     have hsp:a.spot=none:=by
      obtain ⟨y,es,hr,hg⟩:=hex 0 (by omega)
      have hel:=hr.length
      have hpos:=T.size_pos
      have:=hg 0 _ (gE (by omega))
      unfold World.cell? at this
      split at this
      ·split at this
       ·cases this
       ·rename_i hs
        simpa [Addr.add] using hs
      ·cases this
     obtain ⟨b,off,sp⟩:=a
     simp only at hsp
     subst hsp
     refine ⟨b,off,rfl,fun i y hy=>?_⟩
     obtain ⟨es,hr,hg⟩:=hys i y hy
     refine ⟨es,hr,fun j u hj=>?_⟩
     have h5:=hg j u hj
     rw [Addr.add_lit,Addr.add_lit] at h5
     exact ⟨World.block_lt_of_cell? _ _ h5,h5⟩
  | @struct1 _ fs T hu hc hf h1 =>
   obtain ⟨xs,m,hm,_,hl,hxl,hx⟩:=DataW.trod_struct hu h
   cases hm
   obtain ⟨y,hy⟩:=fields hf (by rw [hl,hc];omega) fun i p hp=>by
    simp only [List.getElem?_map,Option.map_eq_some_iff] at hp
    obtain ⟨f,hf1,rfl⟩:=hp
    have hil:i<xs.length:=by rw [hxl];simpa using (gS.1 hf1).1
    exact ⟨xs[i],by rw [← gE hil];exact hx i f (by simpa using hf1)⟩
   rw [List.drop_zero,tkL (by omega)] at hy
   exact ⟨y,hy⟩
  | @struct _ fs A B hu hc hf =>
   obtain ⟨xs,m,hm,_,hl,hxl,hx⟩:=DataW.trod_struct hu h
   cases hm
   have hsz:(Ty.pair A B).size=A.size+B.size:=rfl
   obtain ⟨y,hy⟩:=fields hf (by rw [hl,hc,hsz];omega) fun i p hp=>by
    simp only [List.getElem?_map,Option.map_eq_some_iff] at hp
    obtain ⟨f,hf1,rfl⟩:=hp
    have hil:i<xs.length:=by rw [hxl];simpa using (gS.1 hf1).1
    exact ⟨xs[i],by rw [← gE hil];exact hx i f (by simpa using hf1)⟩
   rw [List.drop_zero,tkL (by rw [hl,hc,hsz];omega)] at hy
   exact ⟨y,hy⟩
  | @array1 _ e T hu hc hf =>
   obtain ⟨xs,m,hm,_,hl,hxl,hx⟩:=DataW.trod_array hu h
   cases hm
   obtain ⟨y,hy⟩:=fields hf (by rw [hl,hc];omega) fun i p hp=>by
    have hi0:i=0:=by have:=(gS.1 hp).1;simp at this;exact this
    subst hi0
    simp at hp
    subst hp
    have:=hx 0 (by omega)
    rw [Nat.zero_mul] at this
    exact ⟨xs[0],by rw [← gE (by omega)];exact this⟩
   rw [List.drop_zero,tkL (by omega)] at hy
   exact ⟨y,hy⟩
  | @array _ k e A B hu hc hf =>
   obtain ⟨xs,m,hm,_,hl,hxl,hx⟩:=DataW.trod_array hu h
   cases hm
   have hsz:(Ty.pair A B).size=A.size+B.size:=rfl
   obtain ⟨y,hy⟩:=fields hf (by rw [hl,hc,hsz];omega) fun i p hp=>by
    simp only [List.getElem?_map,Option.map_eq_some_iff] at hp
    obtain ⟨j,hj,rfl⟩:=hp
    have hjl:i<k:=by have:=(gS.1 hj).1;simpa using this
    have hji:j=i:=by rw [List.getElem?_range hjl] at hj;cases hj;rfl
    subst hji
    exact ⟨xs[j],by rw [← gE (by omega)];exact hx j hjl⟩
   rw [List.drop_zero,tkL (by rw [hl,hc,hsz];omega)] at hy
   exact ⟨y,hy⟩

theorem TyP.agg:∀ {t:TypeId} {T:Ty} {v:Value} {r:Reach} {b0:Nat} {x:T.den},TyP P t T→Value.okWide P w r b0 t v→Rep (InWd w) w T x v.cells.toList→VRep (InWd w) w T x v:=by
 intro t T v r b0 x hT hok hr
 refine ⟨_,hr,?_⟩
 cases hT with
 | int hu=>obtain ⟨n,rfl⟩:=okWide_int hu hok;rfl
 | bool hu=>obtain ⟨n,rfl⟩:=okWide_bool hu hok;rfl
 | str hu=>obtain ⟨n,rfl⟩:=okWide_string hu hok;rfl
 | list hu _ _=>obtain ⟨a,l,c,rfl⟩:=okWide_slice hu hok;rfl
 | struct1 hu _ _ _=>simp only [Value.okWide,hu] at hok;obtain ⟨cs,rfl,_⟩:=hok;simp [Ty.wrap,Ty.agg,Value.cells]
 | struct hu _ _=>simp only [Value.okWide,hu] at hok;obtain ⟨cs,rfl,_⟩:=hok;simp [Ty.wrap,Ty.agg,Value.cells]
 | array1 hu _ _=>simp only [Value.okWide,hu] at hok;obtain ⟨cs,rfl,_⟩:=hok;simp [Ty.wrap,Ty.agg,Value.cells]
 | array hu _ _=>simp only [Value.okWide,hu] at hok;obtain ⟨cs,rfl,_⟩:=hok;simp [Ty.wrap,Ty.agg,Value.cells]

inductive TysP (P:Program):List TypeId→List Ty→Prop where
 | nil:TysP P [] []
 | cons {t T ts Ts}:P.readableRec t=true→t<P.types.size→TyP P t T→TysP P ts Ts→TysP P (t::ts) (T::Ts)
theorem args_data {η:Eta} {r:Reach} {b0:Nat}:∀ {ts:List TypeId} {Ts:List Ty} {vs:List Value} {ds:List (DataW H)} {ps:List MemPlace},TysP P ts Ts→DataW.TrodAll enc P w base spare held ts vs ds ps→(∀ (j:Nat) t v,ts[j]? = some t→vs[j]? = some v→Value.okWide P w r b0 t v) →
  ∃ x:Tup (Ts.map .d),All2 (RM (InWd w) w η) (rvs Ts x) vs
 | _,_,vs,ds,ps,.nil,h,_=>by
  obtain ⟨rfl,_,_⟩:=trodAll_nil h
  exact ⟨(),.nil⟩
 | _,_,vs,ds,ps,.cons (t:=t) (T:=T) (ts:=ts) (Ts:=Ts) h1 h2 h3 h4,h,hok=>by
  obtain ⟨v,vs',d,ds',p,q,rfl,rfl,rfl,⟨n,hn⟩,hr⟩:=trodAll_cons h
  obtain ⟨y,hy⟩:=trod_rep n h3 hn
  have hv:RM (InWd w) w η (T.rv y) v:=VRep.rm (h3.agg (hok 0 t v rfl rfl) hy)
  obtain ⟨x,hx⟩:=args_data (η:=η) h4 hr fun j t v h1 h2=>hok (j+1) t v (by simpa using h1) (by simpa using h2)
  cases Ts with
  | nil=>exact ⟨y,by cases hx;exact .cons hv .nil⟩
  | cons U Us=>exact ⟨(y,x),.cons hv hx⟩
theorem args_back (hl:laidOutB P=true) {w':World} (hb:Below w.heap.size w w') {sp:Nat→Bool}:∀ {ts:List TypeId} {Ts:List Ty} {vs:List Value} {ds:List (DataW H)} {ps:List MemPlace},TysP P ts Ts→DataW.TrodAll enc P w 0 (fun _=>true) true ts vs ds ps→(∀ x∈ps,x.block<w.heap.size)→(∀ x∈ps,sp x.block=true) →
  DataW.TrodAll enc P w' 0 sp true ts vs ds ps
 | _,_,vs,ds,ps,.nil,h,_,_=>by
  obtain ⟨rfl,rfl,rfl⟩:=trodAll_nil h
  exact rfl
 | _,_,vs,ds,ps,.cons h1 h2 h3 h4,h,hlt,hsp=>by
  obtain ⟨v,vs',d,ds',p,q,rfl,rfl,rfl,hd,hr⟩:=trodAll_cons h
  have hd':=WideElems.Trod_stays hl h1 h2 (sp':=sp) hd (fun x hx=>hb.same (hlt x (by simp [hx]))) fun x hx=>hsp x (by simp [hx])
  exact ⟨p,q,hd',args_back hl hb h4 hr (fun x hx=>hlt x (by simp [hx])) fun x hx=>hsp x (by simp [hx]),rfl⟩
end

theorem law_contract' {P:Program} (hl:laidOutB P=true) {f:FuncId} {fn:Func} {s:ChangeSpec} {args:List Ty} {m:Tup (args.map .d)→Option Bool} (hspec:SpecOK P f ⟨args,[.bool],m⟩) {ts:List TypeId} (hts:fn.params.toList=ts) (hT:TysP P ts args) {tb:TypeId} (hrt:fn.resultTypes=#[tb]) (htb:P.underlying tb=some .bool)
  (hvars:s.vars=[]) (hfn:∀ (H:Type) (ds:List (DataW H)),ds.length=args.length→(s.fn H ds).results=[.lit (.bool true)]∧(s.fn H ds).args=ds∧(s.fn H ds).vars=[])
  (hm:∀ (S:Cells) (w:World) (η:Eta) (vs:List Value) x,All2 (RM S w η) (rvs args x) vs→m x=some true)
  {H:Type} {enc:TypeId×Value→H} {W:World} {base:Nat} {av:Array Value} {ds gs:List (DataW H)} {before:List MemPlace} (hglob:GlobOK (InWd W) W) (herr:ErrOK (InWd W) W)
  (hval:∀ (j:Nat) t v,fn.params[j]? = some t→av[j]? = some v→Value.okWide P W .any base t v) (hW:DataW.Whole enc P fn.params.toList s.vars false W av.toList ds gs before) :
  Calls P f av W fun e W'=>∃ v,e=.returned v∧s.post enc P fn false true false false W av v W'∧W'.os=W.os:=by
 have hW0:=hW
 obtain ⟨p,q,hA,hV,rfl,hfz,_⟩:=hW
 rw [hvars] at hV
 obtain ⟨rfl,rfl⟩:=trodVars_none hV
 rw [List.append_nil] at *
 rw [hts] at hA
 have hlt:∀ x∈p,x.block<W.heap.size:=fun x hx=>by simpa using hW0.lt x hx
 obtain ⟨x,hx⟩:=args_data (η:=fun _=>none) (r:=.any) (b0:=base) hT hA fun j t v h1 h2=>hval j t v (by rw [← hts] at h1;simpa using h1) (by simpa using h2)
 have hc:=hspec x true (hm _ _ _ _ x hx) (InWd W) W (fun _=>none) av.toList ⟨fun b o h=>h,hglob,herr⟩ hx
 have hav:av.toList.toArray=av:=by simp
 rw [hav] at hc
 refine hc.mono fun e W' ⟨v,S',he,hg,hp⟩=>⟨v,he,?_,hg.below.os⟩
 have hvb:v=.bool true:=VRep.bool.1 hp.2
 subst hvb
 have hb:=hg.below
 have hlen:ds.length=args.length:=by
  have h1:∀ {ts:List TypeId} {Ts:List Ty} {vs:List Value} {ds:List (DataW H)} {ps:List MemPlace},TysP P ts Ts→DataW.TrodAll enc P W 0 (fun _=>true) true ts vs ds ps→ds.length=Ts.length:=by
   intro ts Ts vs ds ps hT
   induction hT generalizing vs ds ps with
   | nil=>intro h;obtain ⟨_,rfl,_⟩:=trodAll_nil h;rfl
   | cons _ _ _ _ ih=>intro h;obtain ⟨_,_,_,_,_,_,rfl,rfl,rfl,_,hr⟩:=trodAll_cons h;simp [ih hr]
  exact h1 hT hA
 obtain ⟨f1,f2,f3⟩:=hfn H (ds++[]) (by simpa using hlen)
 have hargs:∀ sp:Nat→Bool,(∀ y∈p,sp y.block=true)→DataW.TrodAll enc P W' 0 sp true fn.params.toList av.toList (s.fn H (ds++[])).args p:=fun sp hsp=>by
  rw [f2,List.append_nil,hts]
  exact args_back hl hb hT hA hlt hsp
 have hres:∀ (b:Nat) (sp:Nat→Bool) (hd:Bool),DataW.TrodAll enc P W' b sp hd fn.resultTypes.toList ((Value.bool true).resultList fn.resultTypes.size) (s.fn H (ds++[])).results []:=fun b sp hd=>by
  rw [f1,hrt]
  exact trodAll_cons_mk (shut_bool htb _) trodAll_mk0
 have hvv:∀ sp:Nat→Bool,DataW.TrodVars enc P W' sp s.vars (s.fn H (ds++[])).vars []:=fun sp=>by rw [f3,hvars];rfl
 have hold:∀ y∈p,(fun b=>decide (b<W.heap.size)) y.block=true:=fun y hy=>by simpa using hlt y hy
 refine ⟨ds,[],p,[],p,[],hW0,hres _ _ _,hargs _ hold,hvv _,World.keptBut_mono (fun y hy=>⟨hy,?_⟩) (hb.frame (·∈p)),fun _=>?_⟩
 ·simpa using hy
 ·refine ⟨ok_one hrt rfl (okWide_bool_mk htb _),_,_,([]++p)++[],⟨[]++p,[],trodAll_append (hargs _ (fun _ _=>rfl)) (hres _ _ _),hvv _,rfl,?_,?_⟩,?_⟩
  ·intro b off hpm
   have hpm:MemPlace.cell b off∈p:=by simpa using hpm
   have hlt':=hlt _ hpm
   rw [hb.frozen (p:=⟨b,off,none⟩) hlt']
   exact hfz b off hpm
  ·intro h;cases h
  ·intro y hy _
   simpa using hy
theorem law_contract {P:Program} (hl:laidOutB P=true) {f:FuncId} {fn:Func} {s:ChangeSpec} {args:List Ty} {m:Tup (args.map .d)→Option Bool} (hspec:SpecOK P f ⟨args,[.bool],m⟩) {ts:List TypeId} (hts:fn.params.toList=ts) (hT:TysP P ts args) {tb:TypeId} (hrt:fn.resultTypes=#[tb]) (htb:P.underlying tb=some .bool)
  (hvars:s.vars=[]) (hfn:∀ (H:Type) (ds:List (DataW H)),ds.length=args.length→(s.fn H ds).results=[.lit (.bool true)]∧(s.fn H ds).args=ds∧(s.fn H ds).vars=[])
  (hm:∀ (S:Cells) (w:World) (η:Eta) (vs:List Value) x,All2 (RM S w η) (rvs args x) vs→m x=some true)
  {H:Type} {enc:TypeId×Value→H} {W:World} {base:Nat} {av:Array Value} {ds gs:List (DataW H)} {before:List MemPlace} (hglob:GlobOK (InWd W) W) (herr:ErrOK (InWd W) W)
  (hval:∀ (j:Nat) t v,fn.params[j]? = some t→av[j]? = some v→Value.okWide P W .any base t v) (hW:DataW.Whole enc P fn.params.toList s.vars false W av.toList ds gs before) :
  Calls P f av W fun e W'=>∃ v,e=.returned v∧s.post enc P fn false true false false W av v W' :=
 (law_contract' hl hspec hts hT hrt htb hvars hfn hm hglob herr hval hW).mono fun e W' ⟨v,h1,h2,_⟩=>⟨v,h1,h2⟩
theorem ints_of_trod {P:Program} {H:Type} {enc:TypeId×Value→H} {W:World} {base:Nat} {spare:Nat→Bool} {held:Bool} {fuel:Nat} {t e:TypeId} {n:Nat} {cs:List Value} {k0:IntKind} {xs:List Int} {p:List MemPlace} (ht:P.underlying t=some (.array n e)) (he:P.underlying e=some (.int k0)) (hc:P.cellsOf e=1)
  (h:DataW.trod enc P W base spare held fuel t cs=some (.agg (xs.map fun n=>.lit (.int k0 n)),p)) (i:Nat) (x:Int) (hx:xs[i]? = some x):cs[i]? = some (.int k0 x)∧k0.has x:=by
 cases fuel with
 | zero=>simp [DataW.trod] at h
 | succ fuel =>
  obtain ⟨ys,m,hm,h1,h2,h3,h4⟩:=DataW.trod_array ht h
  cases hm
  simp only [Prod.mk.injEq,DataW.agg.injEq] at h1
  have hl:ys.length=xs.length:=by
   have:=congrArg List.length h1.1
   simpa using this.symm
  have hi:i<xs.length:=(gS.1 hx).1
  have h5:=h4 i (by omega)
  obtain ⟨z,hz⟩:∃ z,ys[i]? = some z:=⟨_,gE (by omega)⟩
  have h6:(ys.map (·.1))[i]? = some (.lit (.int k0 x)):=by
   rw [← h1.1,List.getElem?_map,hx];rfl
  rw [List.getElem?_map,hz] at h6
  have h6:z.1=.lit (.int k0 x):=Option.some.inj h6
  rw [hc] at h5
  rw [hz,Nat.mul_one] at h5
  cases fuel with
  | zero=>simp [DataW.trod] at h5
  | succ fuel =>
   obtain ⟨k,e1,e2,e3⟩:=DataW.trod_int he h5
   rw [e2] at h6
   have hk:k=x:=by simpa using h6
   subst hk
   refine ⟨?_,(by simp [Lit.wf] at e3;exact e3)⟩
   have:((cs.drop i).take 1)[0]? = some (.int k0 k):=by rw [e1];rfl
   simpa using this
theorem ints_len {P:Program} {H:Type} {enc:TypeId×Value→H} {W:World} {base:Nat} {spare:Nat→Bool} {held:Bool} {fuel:Nat} {t e:TypeId} {n:Nat} {cs:List Value} {x:DataW H×List MemPlace} (ht:P.underlying t=some (.array n e)) (hc:P.cellsOf t=n)
  (h:DataW.trod enc P W base spare held fuel t cs=some x):cs.length=n:=by
 cases fuel with
 | zero=>simp [DataW.trod] at h
 | succ fuel =>
  obtain ⟨ys,m,hm,h1,h2,h3,h4⟩:=DataW.trod_array ht h
  rw [h2,hc]
theorem err_of_trod {P:Program} {H:Type} {enc:TypeId×Value→H} {W:World} {base:Nat} {spare:Nat→Bool} {fuel:Nat} {t T e:TypeId} {ms:Array (String×TypeId)} {cs:List Value} {n:String} {d:DataW H} {ps:List MemPlace} (ht:P.underlying t=some (.interface ms)) (hT:∀ u,P.typeName? 3 u=some n→u=T) (hp:P.underlying T=some (.pointer e))
  (hok:∀ u v,cs=[.iface u v]→∃ a,(P.underlying u=some (.pointer e)→v=.pointer a)) (h:DataW.trod enc P W base spare false fuel t cs=some (.iface n (.ptr d),ps)):∃ a,cs=[.iface T (.pointer (some a))]:=by
 cases fuel with
 | zero=>simp [DataW.trod] at h
 | succ fuel =>
  match cs,h with
  | [],h=>simp [DataW.trod,ht] at h
  | a::b::r,h=>simp [DataW.trod,ht] at h
  | [x],h =>
   cases x with
   | iface u v =>
    simp only [DataW.trod,ht] at h
    cases hn:P.typeName? 3 u with
    | none=>simp [hn] at h
    | some name =>
     simp only [hn,Option.map_eq_some_iff] at h
     obtain ⟨x,hx,hxe⟩:=h
     simp only [Prod.mk.injEq,DataW.iface.injEq] at hxe
     obtain ⟨⟨rfl,hxe⟩,_⟩:=hxe
     obtain rfl:=hT u hn
     obtain ⟨a,ha⟩:=hok u v rfl
     obtain rfl:=ha hp
     cases a with
     | some a=>exact ⟨a,rfl⟩
     | none =>
      cases fuel with
      | zero=>simp [DataW.trod] at hx
      | succ fuel =>
       simp only [Value.cells,DataW.trod,hp] at hx
       cases hx
       cases hxe
   | _=>simp [DataW.trod,ht] at h
end Go.PE
namespace Go.Proofs.YtobfnefajpiakaaDoor
open Go Go.Abs Go.PE Go.RowKit Go.ChangeShapes Go.WideShapes Go.ChangeAt Go.Proofs
set_option maxRecDepth 100000
theorem tyP3:TyP Tryd.prog 3 (.int .i64):=.int Tryd.underlying3
theorem tyP9:TyP Tryd.prog 9 (.str):=.str Tryd.underlying9
theorem tyP22:TyP Tryd.prog 22 (.list (.str)):=.list Tryd.underlying22 (by kernel_rfl) tyP9
theorem tyP43:TyP Tryd.prog 43 (.list (.list (.str))):=.list Tryd.underlying43 (by kernel_rfl) tyP22
theorem tys3:TysP Tryd.prog [3,22,3] [(.int .i64),(.list (.str)),(.int .i64)]:=.cons (by kernel_rfl) (oD (by kernel_rfl)) tyP3 (.cons (by kernel_rfl) (oD (by kernel_rfl)) tyP22 (.cons (by kernel_rfl) (oD (by kernel_rfl)) tyP3 (.nil)))
theorem tys4:TysP Tryd.prog [3,43] [(.int .i64),(.list (.list (.str)))]:=.cons (by kernel_rfl) (oD (by kernel_rfl)) tyP3 (.cons (by kernel_rfl) (oD (by kernel_rfl)) tyP43 (.nil))
theorem laidOut:laidOutB Tryd.prog=true:=by kernel_rfl
theorem own:ownKnob Tryd.prog.godebug=none:=by kernel_rfl
end Go.Proofs.YtobfnefajpiakaaDoor
namespace Go.Proofs.YtobfnefajpiakaaDoor
open Go Go.Abs Go.PE Go.RowKit Go.ChangeShapes Go.WideShapes Go.ChangeAt Go.WideMaps Go.WideElems Go.Proofs
set_option maxRecDepth 100000
theorem gName:Tryd.prog.globalNamed "putlog/digest.round"=some 4:=by kernel_rfl
theorem gTy:(Tryd.prog.globals[4]?).map (·.type)=some 147:=by kernel_rfl
theorem globs_ok [EA] {W:World} (h:laidMetH Tryd.prog Rows.journalRoomRow.laid W):GlobOK (InWd W) W:=by
 rw [MakeChecks.laidMetH_plain _ _ _ (by kernel_rfl)] at h
 obtain ⟨ps,h,_,_⟩:=h
 obtain ⟨_,_,_,_,_,_,_,_,_,_,h,_⟩:=h
 obtain ⟨g0,t0,cs0,f0,p0,q0,hg0,ht0,hv0,hd0,_,_⟩:=h
 obtain rfl:=Option.some.inj (gName.symm.trans hg0)
 obtain rfl:=Option.some.inj (gTy.symm.trans ht0)
 have hsz:=ints_len Tryd.underlying147 (by kernel_rfl) hd0
 have key:=ints_of_trod (k0:=.u32) (xs:=([1116352408,1899447441,3049323471,3921009573,961987163,1508970993,2453635748,2870763221,3624381080,310598401,607225278,1426881987,1925078388,2162078206,2614888103,3248222580,3835390401,4022224774,264347078,604807628,770255983,1249150122,1555081692,1996064986,2554220882,2821834349,2952996808,3210313671,3336571891,3584528711,113926993,338241895,666307205,773529912,1294757372,1396182291,1695183700,1986661051,2177026350,2456956037,2730485921,2820302411,3259730800,3345764771,3516065817,3600352804,4094571909,275423344,430227734,506948616,659060556,883997877,958139571,1322822218,1537002063,1747873779,1955562222,2024104815,2227730452,2361852424,2428436474,2756734187,3204031479,3329325298]:List Int)) Tryd.underlying147 Tryd.underlying137 (by kernel_rfl) hd0
 have hcell:∀ i,W.cell? ⟨4,i,none⟩=cs0[i]? := fun i=>World.var?_cell hg0 hv0 i
 intro g G hl
 unfold globTab at hl
 by_cases hg:4=g
 ·subst hg
  rw [lk_same] at hl
  cases hl
  refine ⟨⟨World.block_lt_of_cell? (w:=W) (a:=⟨4,0,none⟩) (u:=.int .u32 1116352408) (by rw [hcell];simpa using (key 0 1116352408 rfl).1),?_⟩,fun i x hx=>?_⟩
  ·rw [hcell]
   exact Array.getElem?_eq_none (by rw [← Array.length_toList,hsz];exact nR _)
  ·have key:=key i x hx
   refine ⟨[.int .u32 x],⟨rfl,key.2⟩,fun j v hj=>?_⟩
   cases j with
   | zero =>
    have hv:Value.int .u32 x=v:=Option.some.inj hj
    subst hv
    have h2:W.cell? ⟨4,i*1+0,none⟩=some (.int .u32 x):=by
     rw [Nat.mul_one,Nat.add_zero,hcell]
     simpa using key.1
    exact ⟨World.block_lt_of_cell? (w:=W) (a:=⟨4,i*1+0,none⟩) h2,h2⟩
   | succ j=>simp at hj
 ·rw [lk_ne _ _ hg] at hl
  cases hl
theorem door_met (os:Os) (args:Array Value):laidMetH Tryd.prog Rows.journalRoomRow.laid ((World.laidAll Tryd.prog os Rows.journalRoomRow.laid).forCall (fun _ _=>0) ⟨#[],args,[]⟩).memory:=by
 rw [MakeChecks.laidMetH_plain _ _ _ (by kernel_rfl)]
 exact laidMet_laidAll _ (by kernel_rfl) (by kernel_rfl)
theorem eName:Tryd.prog.globalNamed "putlog/journal.errDamaged"=some 0:=by kernel_rfl
theorem eTy:(Tryd.prog.globals[0]?).map (·.type)=some 69:=by kernel_rfl
theorem eStar:"*"++"errors.errorString"="*errors.errorString":=by decide
theorem eRow (u:TypeId) (h:Tryd.prog.typeName? 3 u=some "*errors.errorString"):u=155:=typeName_ptr_named (nm:="errors.errorString") (by rw [eStar];kernel_rfl) (by kernel_rfl) (by decide) u (by rw [eStar];exact h)
theorem errs_ok {W:World} (h:laidMetH Tryd.prog Rows.journalRoomRow.laid W):∃ e:EA,ErrOK (ea:=e) (InWd W) W:=by
 rw [MakeChecks.laidMetH_plain _ _ _ (by kernel_rfl)] at h
 obtain ⟨ps,h,_,hok⟩:=h
 obtain ⟨_,_,_,_,_,q0,_,_,_,_,h,e1⟩:=h
 subst e1
 replace hok:=fun b off (hm:MemPlace.cell b off∈q0)=>hok b off (List.mem_append_right _ hm)
 obtain ⟨_,_,_,_,_,q1,_,_,_,_,h,e1⟩:=h
 subst e1
 replace hok:=fun b off (hm:MemPlace.cell b off∈q1)=>hok b off (List.mem_append_right _ hm)
 obtain ⟨g0,t0,cs0,f0,p0,q0,hg0,ht0,hv0,hd0,_,e0⟩:=h
 subst e0
 obtain rfl:=Option.some.inj (eName.symm.trans hg0)
 obtain rfl:=Option.some.inj (eTy.symm.trans ht0)
 have hcell:∀ i,W.cell? ⟨0,i,none⟩=cs0[i]? := fun i=>World.var?_cell hg0 hv0 i
 obtain ⟨a,ha⟩:=err_of_trod (ea:=⟨default⟩) Tryd.underlying69 eRow Tryd.underlying155 (fun u v hcs=>by
  have hc:W.cell? ⟨0,0,none⟩=some (.iface u v):=by rw [hcell,← Array.getElem?_toList,hcs];rfl
  have hm:MemPlace.cell 0 0∈MemPlace.row ⟨0,0,none⟩ cs0.size:=by
   rw [← Array.length_toList,hcs]
   simp [MemPlace.row]
  have hw:=(hok 0 0 (List.mem_append_left _ (List.mem_append_left _ hm))).2 u v hc
  by_cases hu:Tryd.prog.underlying u=some (.pointer 177)
  ·obtain ⟨a,rfl⟩:=okWide_pointer hu hw
   exact ⟨a,fun _=>rfl⟩
  ·exact ⟨none,fun h=>absurd h hu⟩) hd0
 refine (fun (ea:EA) (hea:ea.a=a)=>(⟨ea,fun g T hl=>?_⟩:∃ e:EA,ErrOK (ea:=e) (InWd W) W)) ⟨a⟩ rfl
 unfold errTab at hl
 by_cases hg:0=g
 ·subst hg
  rw [lk_same] at hl
  cases hl
  have hc:W.cell? ⟨0,0,none⟩=some (.iface 155 (.pointer (some a))):=by rw [hcell,← Array.getElem?_toList,ha];rfl
  exact ⟨World.block_lt_of_cell? (w:=W) (a:=⟨0,0,none⟩) hc,by rw [hc,← hea];rfl⟩
 ·rw [lk_ne _ _ hg] at hl
  cases hl
end Go.Proofs.YtobfnefajpiakaaDoor
namespace Go.Proofs.YtobfnefajpiakaaDoor
open Go Go.Abs Go.PE
set_option maxRecDepth 100000
variable [db:DB] [EA]
section
variable {S:Cells} {w:World} {η:Eta}
theorem zi (k:IntKind):CM S w η (.d (.int k) (0:Int)) (.int k 0):=⟨rfl,VRep.int.2 ⟨rfl,by unfold IntKind.has;cases k<;>decide⟩⟩
theorem zb:CM S w η (.d .bool false) (.bool false):=⟨rfl,VRep.bool.2 rfl⟩
theorem zs:CM S w η (.d .str ([]:List UInt8)) (.string ⟨#[]⟩):=⟨rfl,VRep.str.2 ⟨rfl,Nat.zero_le _⟩⟩
end
abbrev tI:Ty:=.int .i64
abbrev tF:TI:=⟨false,1,[.l .nilF],none,.fn⟩
theorem oF {P:Program} {k:TypeId} {a b c} (h1:∀ w,(isAgg k).run P w=.ok false w) (h2:∀ w,(Go.sizeOf k).run P w=.ok 1 w) (h3:∀ w,(zeroValue k).run P w=.ok .nilFunc w) (h4:∀ w,(underlying k).run P w=.ok (.func a b c) w):TIok P k tF :=
 ⟨h1,h2,⟨_,h3,⟨[Value.nilFunc],rfl,fun S w η=>.cons (rfl) (.nil)⟩,(fun T h=>by cases h)⟩,(fun T h=>by cases h),⟨_,_,_,h4⟩⟩
abbrev ty_disk_power:Ty:=.pair (.bool) (.int .i64)
abbrev ty_disk_write:Ty:=.pair (.int .i64) (.str)
abbrev ty_disk_Disk:Ty:=.pair (ty_disk_power) (.pair (.list (.int .u8)) (.pair (.list (.int .u8)) (.list (ty_disk_write))))
abbrev ty_journal_tape:Ty:=.pair (.list (.str)) (.pair (.str) (.int .i64))
abbrev ty_unicode_utf8_acceptRange:Ty:=.pair (.int .u8) (.int .u8)
abbrev ty_errors_errorString:Ty:=.one (.str)
abbrev ty_internal_abi_Method:Ty:=.pair (.int .i32) (.pair (.int .i32) (.pair (.int .i32) (.int .i32)))
abbrev t2:TI:=⟨false,1,[.d (.int .i64) (0:Int)],some (.int .i64),.int .i64⟩
abbrev t3:TI:=⟨false,1,[.d (.int .i64) (0:Int)],some (.int .i64),.int .i64⟩
abbrev t4:TI:=⟨false,1,[.d .bool false],some (.bool),.bool⟩
abbrev t5:TI:=⟨false,1,[.d (.int .u8) (0:Int)],some (.int .u8),.int .u8⟩
abbrev t7:TI:=⟨true,4,[.d (.int .i64) (0:Int),.d (.int .i64) (0:Int),.d .bool false,.d (.int .u8) (0:Int)],some (.pair (.int .i64) (.pair (.int .i64) (.pair (.bool) (.int .u8)))),.other⟩
abbrev t9:TI:=⟨false,1,[.d .str ([]:List UInt8)],some (.str),.str⟩
abbrev t12:TI:=⟨false,1,[.d (.int .u64) (0:Int)],some (.int .u64),.int .u64⟩
abbrev t13:TI:=⟨true,2,[.d .str ([]:List UInt8),.d (.int .u64) (0:Int)],some (.pair (.str) (.int .u64)),.struct [(0,9,1),(1,12,1)]⟩
abbrev t15:TI:=⟨false,1,[.l .nilP],none,.ptr 157⟩
abbrev t16:TI:=⟨false,1,[.l .nilP],none,.ptr 160⟩
abbrev t17:TI:=⟨false,1,[.l .nilP],none,.ptr 167⟩
abbrev t18:TI:=⟨true,1,[.l .nilP],none,.struct [(0,17,1)]⟩
abbrev t20:TI:=⟨false,1,[.l .nilI],none,.ifc⟩
abbrev t21:TI:=⟨false,1,[.d (.int .i32) (0:Int)],some (.int .i32),.int .i32⟩
abbrev t22:TI:=⟨false,1,[.l .nilS],some (.list (.str)),.slice 9 16⟩
abbrev t24:TI:=⟨false,1,[.l .nilP],none,.ptr 51⟩
abbrev t25:TI:=⟨false,1,[.d (.int .i64) (0:Int)],some (.int .i64),.int .i64⟩
abbrev t29:TI:=⟨false,1,[.l .nilP],none,.ptr 58⟩
abbrev t38:TI:=⟨false,1,[.l .nilS],some (.list (.int .u8)),.slice 5 1⟩
abbrev t43:TI:=⟨false,1,[.l .nilS],some (.list (.list (.str))),.slice 22 24⟩
abbrev t47:TI:=⟨true,2,[.d .bool false,.d (.int .i64) (0:Int)],some (.pair (.bool) (.int .i64)),.struct [(0,4,1),(1,3,1)]⟩
abbrev t48:TI:=⟨true,2,[.d .bool false,.d (.int .i64) (0:Int)],some (ty_disk_power),.struct [(0,4,1),(1,3,1)]⟩
abbrev t49:TI:=⟨false,1,[.l .nilS],some (.list (ty_disk_write)),.slice 76 24⟩
abbrev t50:TI:=⟨true,5,[.d .bool false,.d (.int .i64) (0:Int),.l .nilS,.l .nilS,.l .nilS],some (.pair (ty_disk_power) (.pair (.list (.int .u8)) (.pair (.list (.int .u8)) (.list (ty_disk_write))))),.struct [(0,48,2),(2,38,1),(3,38,1),(4,49,1)]⟩
abbrev t51:TI:=⟨true,5,[.d .bool false,.d (.int .i64) (0:Int),.l .nilS,.l .nilS,.l .nilS],some (ty_disk_Disk),.struct [(0,48,2),(2,38,1),(3,38,1),(4,49,1)]⟩
abbrev t55:TI:=⟨true,3,[.l .nilS,.d .str ([]:List UInt8),.d (.int .i64) (0:Int)],some (.pair (.list (.str)) (.pair (.str) (.int .i64))),.struct [(0,22,1),(1,9,1),(2,3,1)]⟩
abbrev t56:TI:=⟨true,3,[.l .nilS,.d .str ([]:List UInt8),.d (.int .i64) (0:Int)],some (ty_journal_tape),.struct [(0,22,1),(1,9,1),(2,3,1)]⟩
abbrev t57:TI:=⟨true,5,[.l .nilS,.d .str ([]:List UInt8),.d (.int .i64) (0:Int),.l .nilP,.d .bool false],none,.struct [(0,56,3),(3,24,1),(4,4,1)]⟩
abbrev t58:TI:=⟨true,5,[.l .nilS,.d .str ([]:List UInt8),.d (.int .i64) (0:Int),.l .nilP,.d .bool false],none,.struct [(0,56,3),(3,24,1),(4,4,1)]⟩
abbrev t65:TI:=⟨false,1,[.l .nilP],none,.ptr 67⟩
abbrev t66:TI:=⟨true,2,[.l .nilP,.l .nilS],none,.struct [(0,65,1),(1,38,1)]⟩
abbrev t68:TI:=⟨false,1,[.l .nilI],none,.ifc⟩
abbrev t69:TI:=⟨false,1,[.l .nilI],none,.ifc⟩
abbrev t75:TI:=⟨true,2,[.d (.int .i64) (0:Int),.d .str ([]:List UInt8)],some (.pair (.int .i64) (.str)),.struct [(0,3,1),(1,9,1)]⟩
abbrev t76:TI:=⟨true,2,[.d (.int .i64) (0:Int),.d .str ([]:List UInt8)],some (ty_disk_write),.struct [(0,3,1),(1,9,1)]⟩
abbrev t87:TI:=⟨false,1,[.l .nilP],none,.ptr 83⟩
abbrev t88:TI:=⟨false,1,[.l .nilS],none,.slice 60 8⟩
abbrev t90:TI:=⟨false,1,[.d (.int .u64) (0:Int)],some (.int .u64),.int .u64⟩
abbrev t93:TI:=⟨false,1,[.l .nilP],none,.ptr 56⟩
abbrev t94:TI:=⟨false,1,[.l .nilP],none,.ptr 5⟩
abbrev t95:TI:=⟨false,1,[.l .nilP],none,.ptr 48⟩
abbrev t96:TI:=⟨false,1,[.l .nilI],none,.ifc⟩
abbrev t111:TI:=⟨true,1,[.l .nilP],none,.struct [(0,17,1)]⟩
abbrev t113:TI:=⟨false,1,[.l .nilP],none,.ptr 175⟩
abbrev t114:TI:=⟨false,1,[.l .nilI],none,.ifc⟩
abbrev t117:TI:=⟨false,1,[.l .nilI],none,.ifc⟩
abbrev t119:TI:=⟨false,1,[.l .nilI],none,.ifc⟩
abbrev t120:TI:=⟨false,1,[.l .nilS],none,.slice 69 16⟩
abbrev t129:TI:=⟨false,1,[.d (.int .u64) (0:Int)],some (.int .u64),.int .u64⟩
abbrev t131:TI:=⟨true,2,[.d (.int .u8) (0:Int),.d (.int .u8) (0:Int)],some (.pair (.int .u8) (.int .u8)),.struct [(0,5,1),(1,5,1)]⟩
abbrev t132:TI:=⟨true,2,[.d (.int .u8) (0:Int),.d (.int .u8) (0:Int)],some (ty_unicode_utf8_acceptRange),.struct [(0,5,1),(1,5,1)]⟩
abbrev t133:TI:=⟨true,32,[.d (.int .u8) (0:Int),.d (.int .u8) (0:Int),.d (.int .u8) (0:Int),.d (.int .u8) (0:Int),.d (.int .u8) (0:Int),.d (.int .u8) (0:Int),.d (.int .u8) (0:Int),.d (.int .u8) (0:Int),.d (.int .u8) (0:Int),.d (.int .u8) (0:Int),.d (.int .u8) (0:Int),.d (.int .u8) (0:Int),.d (.int .u8) (0:Int),.d (.int .u8) (0:Int),.d (.int .u8) (0:Int),.d (.int .u8) (0:Int),.d (.int .u8) (0:Int),.d (.int .u8) (0:Int),.d (.int .u8) (0:Int),.d (.int .u8) (0:Int),.d (.int .u8) (0:Int),.d (.int .u8) (0:Int),.d (.int .u8) (0:Int),.d (.int .u8) (0:Int),.d (.int .u8) (0:Int),.d (.int .u8) (0:Int),.d (.int .u8) (0:Int),.d (.int .u8) (0:Int),.d (.int .u8) (0:Int),.d (.int .u8) (0:Int),.d (.int .u8) (0:Int),.d (.int .u8) (0:Int)],none,.array 16 132⟩
abbrev t137:TI:=⟨false,1,[.d (.int .u32) (0:Int)],some (.int .u32),.int .u32⟩
abbrev t138:TI:=⟨true,8,[.d (.int .u32) (0:Int),.d (.int .u32) (0:Int),.d (.int .u32) (0:Int),.d (.int .u32) (0:Int),.d (.int .u32) (0:Int),.d (.int .u32) (0:Int),.d (.int .u32) (0:Int),.d (.int .u32) (0:Int)],some (.pair (.int .u32) (.pair (.int .u32) (.pair (.int .u32) (.pair (.int .u32) (.pair (.int .u32) (.pair (.int .u32) (.pair (.int .u32) (.int .u32)))))))),.array 8 137⟩
abbrev t139:TI:=⟨true,8,[.d (.int .u32) (0:Int),.d (.int .u32) (0:Int),.d (.int .u32) (0:Int),.d (.int .u32) (0:Int),.d (.int .u32) (0:Int),.d (.int .u32) (0:Int),.d (.int .u32) (0:Int),.d (.int .u32) (0:Int)],some (.pair (.int .u32) (.pair (.int .u32) (.pair (.int .u32) (.pair (.int .u32) (.pair (.int .u32) (.pair (.int .u32) (.pair (.int .u32) (.int .u32)))))))),.array 8 137⟩
abbrev t146:TI:=⟨false,1,[.l .nilP],none,.ptr 139⟩
abbrev t147:TI:=⟨true,64,[.d (.int .u32) (0:Int),.d (.int .u32) (0:Int),.d (.int .u32) (0:Int),.d (.int .u32) (0:Int),.d (.int .u32) (0:Int),.d (.int .u32) (0:Int),.d (.int .u32) (0:Int),.d (.int .u32) (0:Int),.d (.int .u32) (0:Int),.d (.int .u32) (0:Int),.d (.int .u32) (0:Int),.d (.int .u32) (0:Int),.d (.int .u32) (0:Int),.d (.int .u32) (0:Int),.d (.int .u32) (0:Int),.d (.int .u32) (0:Int),.d (.int .u32) (0:Int),.d (.int .u32) (0:Int),.d (.int .u32) (0:Int),.d (.int .u32) (0:Int),.d (.int .u32) (0:Int),.d (.int .u32) (0:Int),.d (.int .u32) (0:Int),.d (.int .u32) (0:Int),.d (.int .u32) (0:Int),.d (.int .u32) (0:Int),.d (.int .u32) (0:Int),.d (.int .u32) (0:Int),.d (.int .u32) (0:Int),.d (.int .u32) (0:Int),.d (.int .u32) (0:Int),.d (.int .u32) (0:Int),.d (.int .u32) (0:Int),.d (.int .u32) (0:Int),.d (.int .u32) (0:Int),.d (.int .u32) (0:Int),.d (.int .u32) (0:Int),.d (.int .u32) (0:Int),.d (.int .u32) (0:Int),.d (.int .u32) (0:Int),.d (.int .u32) (0:Int),.d (.int .u32) (0:Int),.d (.int .u32) (0:Int),.d (.int .u32) (0:Int),.d (.int .u32) (0:Int),.d (.int .u32) (0:Int),.d (.int .u32) (0:Int),.d (.int .u32) (0:Int),.d (.int .u32) (0:Int),.d (.int .u32) (0:Int),.d (.int .u32) (0:Int),.d (.int .u32) (0:Int),.d (.int .u32) (0:Int),.d (.int .u32) (0:Int),.d (.int .u32) (0:Int),.d (.int .u32) (0:Int),.d (.int .u32) (0:Int),.d (.int .u32) (0:Int),.d (.int .u32) (0:Int),.d (.int .u32) (0:Int),.d (.int .u32) (0:Int),.d (.int .u32) (0:Int),.d (.int .u32) (0:Int),.d (.int .u32) (0:Int)],none,.array 64 137⟩
abbrev t150:TI:=⟨false,1,[.l .nilS],some (.list (.int .u32)),.slice 137 4⟩
abbrev t151:TI:=⟨true,32,[.d (.int .u8) (0:Int),.d (.int .u8) (0:Int),.d (.int .u8) (0:Int),.d (.int .u8) (0:Int),.d (.int .u8) (0:Int),.d (.int .u8) (0:Int),.d (.int .u8) (0:Int),.d (.int .u8) (0:Int),.d (.int .u8) (0:Int),.d (.int .u8) (0:Int),.d (.int .u8) (0:Int),.d (.int .u8) (0:Int),.d (.int .u8) (0:Int),.d (.int .u8) (0:Int),.d (.int .u8) (0:Int),.d (.int .u8) (0:Int),.d (.int .u8) (0:Int),.d (.int .u8) (0:Int),.d (.int .u8) (0:Int),.d (.int .u8) (0:Int),.d (.int .u8) (0:Int),.d (.int .u8) (0:Int),.d (.int .u8) (0:Int),.d (.int .u8) (0:Int),.d (.int .u8) (0:Int),.d (.int .u8) (0:Int),.d (.int .u8) (0:Int),.d (.int .u8) (0:Int),.d (.int .u8) (0:Int),.d (.int .u8) (0:Int),.d (.int .u8) (0:Int),.d (.int .u8) (0:Int)],none,.array 32 5⟩
abbrev t152:TI:=⟨false,1,[.l .nilS],some (.list (.int .i64)),.slice 3 8⟩
abbrev t155:TI:=⟨false,1,[.l .nilP],none,.ptr 177⟩
abbrev t156:TI:=⟨true,4,[.l .nilP,.l .nilP,.l .nilP,.d .str ([]:List UInt8)],none,.struct [(0,17,1),(1,17,1),(2,17,1),(3,9,1)]⟩
abbrev t159:TI:=⟨true,0,[],none,.other⟩
abbrev t166:TI:=⟨true,11,[.d (.int .u64) (0:Int),.d (.int .u64) (0:Int),.d (.int .u32) (0:Int),.d (.int .u8) (0:Int),.d (.int .u8) (0:Int),.d (.int .u8) (0:Int),.d (.int .u8) (0:Int),.l .nilF,.l .nilP,.d (.int .i32) (0:Int),.d (.int .i32) (0:Int)],none,.other⟩
abbrev t174:TI:=⟨true,2,[.d .str ([]:List UInt8),.d (.int .u8) (0:Int)],some (.pair (.str) (.int .u8)),.other⟩
abbrev t176:TI:=⟨true,1,[.d .str ([]:List UInt8)],some (.one (.str)),.struct [(0,9,1)]⟩
abbrev t177:TI:=⟨true,1,[.d .str ([]:List UInt8)],some (ty_errors_errorString),.struct [(0,9,1)]⟩
abbrev t178:TI:=⟨false,1,[.l .nilP],none,.ptr 182⟩
abbrev t180:TI:=⟨false,1,[.d (.int .u16) (0:Int)],some (.int .u16),.int .u16⟩
abbrev t181:TI:=⟨true,5,[.d (.int .i32) (0:Int),.d (.int .u16) (0:Int),.d (.int .u16) (0:Int),.d (.int .u32) (0:Int),.d (.int .u32) (0:Int)],some (.pair (.int .i32) (.pair (.int .u16) (.pair (.int .u16) (.pair (.int .u32) (.int .u32))))),.other⟩
abbrev t183:TI:=⟨false,1,[.l .nilS],some (.list (ty_internal_abi_Method)),.other⟩
abbrev t185:TI:=⟨true,4,[.d (.int .i32) (0:Int),.d (.int .i32) (0:Int),.d (.int .i32) (0:Int),.d (.int .i32) (0:Int)],some (.pair (.int .i32) (.pair (.int .i32) (.pair (.int .i32) (.int .i32)))),.other⟩
def tyTab:List (TypeId×TI):=[(2,t2),(3,t3),(4,t4),(5,t5),(7,t7),(9,t9),(12,t12),(13,t13),(15,t15),(16,t16),(17,t17),(18,t18),(20,t20),(21,t21),(22,t22),(24,t24),(25,t25),(29,t29),(38,t38),(43,t43),(47,t47),(48,t48),(49,t49),(50,t50),(51,t51),(55,t55),(56,t56),(57,t57),(58,t58),(60,tF),(63,tF),(65,t65),(66,t66),(68,t68),(69,t69),(75,t75),(76,t76),(87,t87),(88,t88),(90,t90),(93,t93),(94,t94),(95,t95),(96,t96),(109,tF),(111,t111),(113,t113),(114,t114),(117,t117),(119,t119),(120,t120),(127,tF),(129,t129),(131,t131),(132,t132),(133,t133),(137,t137),(138,t138),(139,t139),(141,tF),(144,tF),(145,tF),(146,t146),(147,t147),(150,t150),(151,t151),(152,t152),(155,t155),(156,t156),(159,t159),(166,t166),(174,t174),(176,t176),(177,t177),(178,t178),(180,t180),(181,t181),(183,t183),(185,t185),]
theorem ti2:TIok Tryd.prog 2 t2 :=
 ⟨Tryd.isAgg2,Tryd.sizeOf2,⟨_,Tryd.zeroValue2,⟨[Value.int IntKind.i64 0],rfl,fun S w η=>.cons (zi _) (.nil)⟩,(fun T h=>by cases h;rfl)⟩,(fun T h=>by cases h;exact ⟨rfl,rfl⟩),Tryd.runUnderlying2⟩
theorem ti3:TIok Tryd.prog 3 t3 :=
 ⟨Tryd.isAgg3,Tryd.sizeOf3,⟨_,Tryd.zeroValue3,⟨[Value.int IntKind.i64 0],rfl,fun S w η=>.cons (zi _) (.nil)⟩,(fun T h=>by cases h;rfl)⟩,(fun T h=>by cases h;exact ⟨rfl,rfl⟩),Tryd.runUnderlying3⟩
theorem ti4:TIok Tryd.prog 4 t4 :=
 ⟨Tryd.isAgg4,Tryd.sizeOf4,⟨_,Tryd.zeroValue4,⟨[Value.bool false],rfl,fun S w η=>.cons (zb) (.nil)⟩,(fun T h=>by cases h;rfl)⟩,(fun T h=>by cases h;exact ⟨rfl,rfl⟩),Tryd.runUnderlying4⟩
theorem ti5:TIok Tryd.prog 5 t5 :=
 ⟨Tryd.isAgg5,Tryd.sizeOf5,⟨_,Tryd.zeroValue5,⟨[Value.int IntKind.u8 0],rfl,fun S w η=>.cons (zi _) (.nil)⟩,(fun T h=>by cases h;rfl)⟩,(fun T h=>by cases h;exact ⟨rfl,rfl⟩),Tryd.runUnderlying5⟩
theorem ti7:TIok Tryd.prog 7 t7 :=
 ⟨Tryd.isAgg7,Tryd.sizeOf7,⟨_,Tryd.zeroValue7,⟨[Value.int IntKind.i64 0,Value.int IntKind.i64 0,Value.bool false,Value.int IntKind.u8 0],rfl,fun S w η=>.cons (zi _) (.cons (zi _) (.cons (zb) (.cons (zi _) (.nil))))⟩,(fun T h=>by cases h;rfl)⟩,(fun T h=>by cases h;exact ⟨rfl,rfl⟩),trivial⟩
theorem ti9:TIok Tryd.prog 9 t9 :=
 ⟨Tryd.isAgg9,Tryd.sizeOf9,⟨_,Tryd.zeroValue9,⟨[Value.string ⟨#[]⟩],rfl,fun S w η=>.cons (zs) (.nil)⟩,(fun T h=>by cases h;rfl)⟩,(fun T h=>by cases h;exact ⟨rfl,rfl⟩),Tryd.runUnderlying9⟩
theorem ti12:TIok Tryd.prog 12 t12 :=
 ⟨Tryd.isAgg12,Tryd.sizeOf12,⟨_,Tryd.zeroValue12,⟨[Value.int IntKind.u64 0],rfl,fun S w η=>.cons (zi _) (.nil)⟩,(fun T h=>by cases h;rfl)⟩,(fun T h=>by cases h;exact ⟨rfl,rfl⟩),Tryd.runUnderlying12⟩
theorem ti13:TIok Tryd.prog 13 t13 :=
 ⟨Tryd.isAgg13,Tryd.sizeOf13,⟨_,Tryd.zeroValue13,⟨[Value.string ⟨#[]⟩,Value.int IntKind.u64 0],rfl,fun S w η=>.cons (zs) (.cons (zi _) (.nil))⟩,(fun T h=>by cases h;rfl)⟩,(fun T h=>by cases h;exact ⟨rfl,rfl⟩),⟨_,Tryd.runUnderlying13,rfl,fun w=>by simp [Tryd.sizeOf12,Tryd.sizeOf9]⟩⟩
theorem ti15:TIok Tryd.prog 15 t15 :=
 ⟨Tryd.isAgg15,Tryd.sizeOf15,⟨_,Tryd.zeroValue15,⟨[Value.pointer none],rfl,fun S w η=>.cons (rfl) (.nil)⟩,(fun T h=>by cases h)⟩,(fun T h=>by cases h),Tryd.runUnderlying15⟩
theorem ti16:TIok Tryd.prog 16 t16 :=
 ⟨Tryd.isAgg16,Tryd.sizeOf16,⟨_,Tryd.zeroValue16,⟨[Value.pointer none],rfl,fun S w η=>.cons (rfl) (.nil)⟩,(fun T h=>by cases h)⟩,(fun T h=>by cases h),Tryd.runUnderlying16⟩
theorem ti17:TIok Tryd.prog 17 t17 :=
 ⟨Tryd.isAgg17,Tryd.sizeOf17,⟨_,Tryd.zeroValue17,⟨[Value.pointer none],rfl,fun S w η=>.cons (rfl) (.nil)⟩,(fun T h=>by cases h)⟩,(fun T h=>by cases h),Tryd.runUnderlying17⟩
theorem ti18:TIok Tryd.prog 18 t18 :=
 ⟨Tryd.isAgg18,Tryd.sizeOf18,⟨_,Tryd.zeroValue18,⟨[Value.pointer none],rfl,fun S w η=>.cons (rfl) (.nil)⟩,(fun T h=>by cases h)⟩,(fun T h=>by cases h),⟨_,Tryd.runUnderlying18,rfl,fun w=>by simp [Tryd.sizeOf17]⟩⟩
theorem ti20:TIok Tryd.prog 20 t20 :=
 ⟨Tryd.isAgg20,Tryd.sizeOf20,⟨_,Tryd.zeroValue20,⟨[Value.nilIface],rfl,fun S w η=>.cons (rfl) (.nil)⟩,(fun T h=>by cases h)⟩,(fun T h=>by cases h),⟨_,Tryd.runUnderlying20⟩⟩
theorem ti21:TIok Tryd.prog 21 t21 :=
 ⟨Tryd.isAgg21,Tryd.sizeOf21,⟨_,Tryd.zeroValue21,⟨[Value.int IntKind.i32 0],rfl,fun S w η=>.cons (zi _) (.nil)⟩,(fun T h=>by cases h;rfl)⟩,(fun T h=>by cases h;exact ⟨rfl,rfl⟩),Tryd.runUnderlying21⟩
theorem ti22:TIok Tryd.prog 22 t22 :=
 ⟨Tryd.isAgg22,Tryd.sizeOf22,⟨_,Tryd.zeroValue22,⟨[Value.slice none 0 0],rfl,fun S w η=>.cons (rfl) (.nil)⟩,(fun T h=>by cases h;rfl)⟩,(fun T h=>by cases h;exact ⟨rfl,rfl⟩),⟨Tryd.underlying22,by decide,Tryd.t9,_,rfl,rfl,rfl,Tryd.zeroValue9,Tryd.sizeOf9⟩⟩
theorem ti24:TIok Tryd.prog 24 t24 :=
 ⟨Tryd.isAgg24,Tryd.sizeOf24,⟨_,Tryd.zeroValue24,⟨[Value.pointer none],rfl,fun S w η=>.cons (rfl) (.nil)⟩,(fun T h=>by cases h)⟩,(fun T h=>by cases h),Tryd.runUnderlying24⟩
theorem ti25:TIok Tryd.prog 25 t25 :=
 ⟨Tryd.isAgg25,Tryd.sizeOf25,⟨_,Tryd.zeroValue25,⟨[Value.int IntKind.i64 0],rfl,fun S w η=>.cons (zi _) (.nil)⟩,(fun T h=>by cases h;rfl)⟩,(fun T h=>by cases h;exact ⟨rfl,rfl⟩),Tryd.runUnderlying25⟩
theorem ti29:TIok Tryd.prog 29 t29 :=
 ⟨Tryd.isAgg29,Tryd.sizeOf29,⟨_,Tryd.zeroValue29,⟨[Value.pointer none],rfl,fun S w η=>.cons (rfl) (.nil)⟩,(fun T h=>by cases h)⟩,(fun T h=>by cases h),Tryd.runUnderlying29⟩
theorem ti38:TIok Tryd.prog 38 t38 :=
 ⟨Tryd.isAgg38,Tryd.sizeOf38,⟨_,Tryd.zeroValue38,⟨[Value.slice none 0 0],rfl,fun S w η=>.cons (rfl) (.nil)⟩,(fun T h=>by cases h;rfl)⟩,(fun T h=>by cases h;exact ⟨rfl,rfl⟩),⟨Tryd.underlying38,by decide,Tryd.t5,_,rfl,rfl,rfl,Tryd.zeroValue5,Tryd.sizeOf5⟩⟩
theorem ti43:TIok Tryd.prog 43 t43 :=
 ⟨Tryd.isAgg43,Tryd.sizeOf43,⟨_,Tryd.zeroValue43,⟨[Value.slice none 0 0],rfl,fun S w η=>.cons (rfl) (.nil)⟩,(fun T h=>by cases h;rfl)⟩,(fun T h=>by cases h;exact ⟨rfl,rfl⟩),⟨Tryd.underlying43,by decide,Tryd.t22,_,rfl,rfl,rfl,Tryd.zeroValue22,Tryd.sizeOf22⟩⟩
theorem ti47:TIok Tryd.prog 47 t47 :=
 ⟨Tryd.isAgg47,Tryd.sizeOf47,⟨_,Tryd.zeroValue47,⟨[Value.bool false,Value.int IntKind.i64 0],rfl,fun S w η=>.cons (zb) (.cons (zi _) (.nil))⟩,(fun T h=>by cases h;rfl)⟩,(fun T h=>by cases h;exact ⟨rfl,rfl⟩),⟨_,Tryd.runUnderlying47,rfl,fun w=>by simp [Tryd.sizeOf3,Tryd.sizeOf4]⟩⟩
theorem ti48:TIok Tryd.prog 48 t48 :=
 ⟨Tryd.isAgg48,Tryd.sizeOf48,⟨_,Tryd.zeroValue48,⟨[Value.bool false,Value.int IntKind.i64 0],rfl,fun S w η=>.cons (zb) (.cons (zi _) (.nil))⟩,(fun T h=>by cases h;rfl)⟩,(fun T h=>by cases h;exact ⟨rfl,rfl⟩),⟨_,Tryd.runUnderlying48,rfl,fun w=>by simp [Tryd.sizeOf3,Tryd.sizeOf4]⟩⟩
theorem ti49:TIok Tryd.prog 49 t49 :=
 ⟨Tryd.isAgg49,Tryd.sizeOf49,⟨_,Tryd.zeroValue49,⟨[Value.slice none 0 0],rfl,fun S w η=>.cons (rfl) (.nil)⟩,(fun T h=>by cases h;rfl)⟩,(fun T h=>by cases h;exact ⟨rfl,rfl⟩),⟨Tryd.underlying49,by decide,Tryd.t76,_,rfl,rfl,rfl,Tryd.zeroValue76,Tryd.sizeOf76⟩⟩
theorem ti50:TIok Tryd.prog 50 t50 :=
 ⟨Tryd.isAgg50,Tryd.sizeOf50,⟨_,Tryd.zeroValue50,⟨[Value.bool false,Value.int IntKind.i64 0,Value.slice none 0 0,Value.slice none 0 0,Value.slice none 0 0],rfl,fun S w η=>.cons (zb) (.cons (zi _) (.cons (rfl) (.cons (rfl) (.cons (rfl) (.nil)))))⟩,(fun T h=>by cases h;rfl)⟩,(fun T h=>by cases h;exact ⟨rfl,rfl⟩),⟨_,Tryd.runUnderlying50,rfl,fun w=>by simp [Tryd.sizeOf38,Tryd.sizeOf48,Tryd.sizeOf49]⟩⟩
theorem ti51:TIok Tryd.prog 51 t51 :=
 ⟨Tryd.isAgg51,Tryd.sizeOf51,⟨_,Tryd.zeroValue51,⟨[Value.bool false,Value.int IntKind.i64 0,Value.slice none 0 0,Value.slice none 0 0,Value.slice none 0 0],rfl,fun S w η=>.cons (zb) (.cons (zi _) (.cons (rfl) (.cons (rfl) (.cons (rfl) (.nil)))))⟩,(fun T h=>by cases h;rfl)⟩,(fun T h=>by cases h;exact ⟨rfl,rfl⟩),⟨_,Tryd.runUnderlying51,rfl,fun w=>by simp [Tryd.sizeOf38,Tryd.sizeOf48,Tryd.sizeOf49]⟩⟩
theorem ti55:TIok Tryd.prog 55 t55 :=
 ⟨Tryd.isAgg55,Tryd.sizeOf55,⟨_,Tryd.zeroValue55,⟨[Value.slice none 0 0,Value.string ⟨#[]⟩,Value.int IntKind.i64 0],rfl,fun S w η=>.cons (rfl) (.cons (zs) (.cons (zi _) (.nil)))⟩,(fun T h=>by cases h;rfl)⟩,(fun T h=>by cases h;exact ⟨rfl,rfl⟩),⟨_,Tryd.runUnderlying55,rfl,fun w=>by simp [Tryd.sizeOf22,Tryd.sizeOf3,Tryd.sizeOf9]⟩⟩
theorem ti56:TIok Tryd.prog 56 t56 :=
 ⟨Tryd.isAgg56,Tryd.sizeOf56,⟨_,Tryd.zeroValue56,⟨[Value.slice none 0 0,Value.string ⟨#[]⟩,Value.int IntKind.i64 0],rfl,fun S w η=>.cons (rfl) (.cons (zs) (.cons (zi _) (.nil)))⟩,(fun T h=>by cases h;rfl)⟩,(fun T h=>by cases h;exact ⟨rfl,rfl⟩),⟨_,Tryd.runUnderlying56,rfl,fun w=>by simp [Tryd.sizeOf22,Tryd.sizeOf3,Tryd.sizeOf9]⟩⟩
theorem ti57:TIok Tryd.prog 57 t57 :=
 ⟨Tryd.isAgg57,Tryd.sizeOf57,⟨_,Tryd.zeroValue57,⟨[Value.slice none 0 0,Value.string ⟨#[]⟩,Value.int IntKind.i64 0,Value.pointer none,Value.bool false],rfl,fun S w η=>.cons (rfl) (.cons (zs) (.cons (zi _) (.cons (rfl) (.cons (zb) (.nil)))))⟩,(fun T h=>by cases h)⟩,(fun T h=>by cases h),⟨_,Tryd.runUnderlying57,rfl,fun w=>by simp [Tryd.sizeOf24,Tryd.sizeOf4,Tryd.sizeOf56]⟩⟩
theorem ti58:TIok Tryd.prog 58 t58 :=
 ⟨Tryd.isAgg58,Tryd.sizeOf58,⟨_,Tryd.zeroValue58,⟨[Value.slice none 0 0,Value.string ⟨#[]⟩,Value.int IntKind.i64 0,Value.pointer none,Value.bool false],rfl,fun S w η=>.cons (rfl) (.cons (zs) (.cons (zi _) (.cons (rfl) (.cons (zb) (.nil)))))⟩,(fun T h=>by cases h)⟩,(fun T h=>by cases h),⟨_,Tryd.runUnderlying58,rfl,fun w=>by simp [Tryd.sizeOf24,Tryd.sizeOf4,Tryd.sizeOf56]⟩⟩
theorem ti65:TIok Tryd.prog 65 t65 :=
 ⟨Tryd.isAgg65,Tryd.sizeOf65,⟨_,Tryd.zeroValue65,⟨[Value.pointer none],rfl,fun S w η=>.cons (rfl) (.nil)⟩,(fun T h=>by cases h)⟩,(fun T h=>by cases h),Tryd.runUnderlying65⟩
theorem ti66:TIok Tryd.prog 66 t66 :=
 ⟨Tryd.isAgg66,Tryd.sizeOf66,⟨_,Tryd.zeroValue66,⟨[Value.pointer none,Value.slice none 0 0],rfl,fun S w η=>.cons (rfl) (.cons (rfl) (.nil))⟩,(fun T h=>by cases h)⟩,(fun T h=>by cases h),⟨_,Tryd.runUnderlying66,rfl,fun w=>by simp [Tryd.sizeOf38,Tryd.sizeOf65]⟩⟩
theorem ti68:TIok Tryd.prog 68 t68 :=
 ⟨Tryd.isAgg68,Tryd.sizeOf68,⟨_,Tryd.zeroValue68,⟨[Value.nilIface],rfl,fun S w η=>.cons (rfl) (.nil)⟩,(fun T h=>by cases h)⟩,(fun T h=>by cases h),⟨_,Tryd.runUnderlying68⟩⟩
theorem ti69:TIok Tryd.prog 69 t69 :=
 ⟨Tryd.isAgg69,Tryd.sizeOf69,⟨_,Tryd.zeroValue69,⟨[Value.nilIface],rfl,fun S w η=>.cons (rfl) (.nil)⟩,(fun T h=>by cases h)⟩,(fun T h=>by cases h),⟨_,Tryd.runUnderlying69⟩⟩
theorem ti75:TIok Tryd.prog 75 t75 :=
 ⟨Tryd.isAgg75,Tryd.sizeOf75,⟨_,Tryd.zeroValue75,⟨[Value.int IntKind.i64 0,Value.string ⟨#[]⟩],rfl,fun S w η=>.cons (zi _) (.cons (zs) (.nil))⟩,(fun T h=>by cases h;rfl)⟩,(fun T h=>by cases h;exact ⟨rfl,rfl⟩),⟨_,Tryd.runUnderlying75,rfl,fun w=>by simp [Tryd.sizeOf3,Tryd.sizeOf9]⟩⟩
theorem ti76:TIok Tryd.prog 76 t76 :=
 ⟨Tryd.isAgg76,Tryd.sizeOf76,⟨_,Tryd.zeroValue76,⟨[Value.int IntKind.i64 0,Value.string ⟨#[]⟩],rfl,fun S w η=>.cons (zi _) (.cons (zs) (.nil))⟩,(fun T h=>by cases h;rfl)⟩,(fun T h=>by cases h;exact ⟨rfl,rfl⟩),⟨_,Tryd.runUnderlying76,rfl,fun w=>by simp [Tryd.sizeOf3,Tryd.sizeOf9]⟩⟩
theorem ti87:TIok Tryd.prog 87 t87 :=
 ⟨Tryd.isAgg87,Tryd.sizeOf87,⟨_,Tryd.zeroValue87,⟨[Value.pointer none],rfl,fun S w η=>.cons (rfl) (.nil)⟩,(fun T h=>by cases h)⟩,(fun T h=>by cases h),Tryd.runUnderlying87⟩
theorem ti88:TIok Tryd.prog 88 t88 :=
 ⟨Tryd.isAgg88,Tryd.sizeOf88,⟨_,Tryd.zeroValue88,⟨[Value.slice none 0 0],rfl,fun S w η=>.cons (rfl) (.nil)⟩,(fun T h=>by cases h)⟩,(fun T h=>by cases h),⟨Tryd.underlying88,by decide,Tryd.t60,_,rfl,rfl,rfl,Tryd.zeroValue60,Tryd.sizeOf60⟩⟩
theorem ti90:TIok Tryd.prog 90 t90 :=
 ⟨Tryd.isAgg90,Tryd.sizeOf90,⟨_,Tryd.zeroValue90,⟨[Value.int IntKind.u64 0],rfl,fun S w η=>.cons (zi _) (.nil)⟩,(fun T h=>by cases h;rfl)⟩,(fun T h=>by cases h;exact ⟨rfl,rfl⟩),Tryd.runUnderlying90⟩
theorem ti93:TIok Tryd.prog 93 t93 :=
 ⟨Tryd.isAgg93,Tryd.sizeOf93,⟨_,Tryd.zeroValue93,⟨[Value.pointer none],rfl,fun S w η=>.cons (rfl) (.nil)⟩,(fun T h=>by cases h)⟩,(fun T h=>by cases h),Tryd.runUnderlying93⟩
theorem ti94:TIok Tryd.prog 94 t94 :=
 ⟨Tryd.isAgg94,Tryd.sizeOf94,⟨_,Tryd.zeroValue94,⟨[Value.pointer none],rfl,fun S w η=>.cons (rfl) (.nil)⟩,(fun T h=>by cases h)⟩,(fun T h=>by cases h),Tryd.runUnderlying94⟩
theorem ti95:TIok Tryd.prog 95 t95 :=
 ⟨Tryd.isAgg95,Tryd.sizeOf95,⟨_,Tryd.zeroValue95,⟨[Value.pointer none],rfl,fun S w η=>.cons (rfl) (.nil)⟩,(fun T h=>by cases h)⟩,(fun T h=>by cases h),Tryd.runUnderlying95⟩
theorem ti96:TIok Tryd.prog 96 t96 :=
 ⟨Tryd.isAgg96,Tryd.sizeOf96,⟨_,Tryd.zeroValue96,⟨[Value.nilIface],rfl,fun S w η=>.cons (rfl) (.nil)⟩,(fun T h=>by cases h)⟩,(fun T h=>by cases h),⟨_,Tryd.runUnderlying96⟩⟩
theorem ti111:TIok Tryd.prog 111 t111 :=
 ⟨Tryd.isAgg111,Tryd.sizeOf111,⟨_,Tryd.zeroValue111,⟨[Value.pointer none],rfl,fun S w η=>.cons (rfl) (.nil)⟩,(fun T h=>by cases h)⟩,(fun T h=>by cases h),⟨_,Tryd.runUnderlying111,rfl,fun w=>by simp [Tryd.sizeOf17]⟩⟩
theorem ti113:TIok Tryd.prog 113 t113 :=
 ⟨Tryd.isAgg113,Tryd.sizeOf113,⟨_,Tryd.zeroValue113,⟨[Value.pointer none],rfl,fun S w η=>.cons (rfl) (.nil)⟩,(fun T h=>by cases h)⟩,(fun T h=>by cases h),Tryd.runUnderlying113⟩
theorem ti114:TIok Tryd.prog 114 t114 :=
 ⟨Tryd.isAgg114,Tryd.sizeOf114,⟨_,Tryd.zeroValue114,⟨[Value.nilIface],rfl,fun S w η=>.cons (rfl) (.nil)⟩,(fun T h=>by cases h)⟩,(fun T h=>by cases h),⟨_,Tryd.runUnderlying114⟩⟩
theorem ti117:TIok Tryd.prog 117 t117 :=
 ⟨Tryd.isAgg117,Tryd.sizeOf117,⟨_,Tryd.zeroValue117,⟨[Value.nilIface],rfl,fun S w η=>.cons (rfl) (.nil)⟩,(fun T h=>by cases h)⟩,(fun T h=>by cases h),⟨_,Tryd.runUnderlying117⟩⟩
theorem ti119:TIok Tryd.prog 119 t119 :=
 ⟨Tryd.isAgg119,Tryd.sizeOf119,⟨_,Tryd.zeroValue119,⟨[Value.nilIface],rfl,fun S w η=>.cons (rfl) (.nil)⟩,(fun T h=>by cases h)⟩,(fun T h=>by cases h),⟨_,Tryd.runUnderlying119⟩⟩
theorem ti120:TIok Tryd.prog 120 t120 :=
 ⟨Tryd.isAgg120,Tryd.sizeOf120,⟨_,Tryd.zeroValue120,⟨[Value.slice none 0 0],rfl,fun S w η=>.cons (rfl) (.nil)⟩,(fun T h=>by cases h)⟩,(fun T h=>by cases h),⟨Tryd.underlying120,by decide,Tryd.t69,_,rfl,rfl,rfl,Tryd.zeroValue69,Tryd.sizeOf69⟩⟩
theorem ti129:TIok Tryd.prog 129 t129 :=
 ⟨Tryd.isAgg129,Tryd.sizeOf129,⟨_,Tryd.zeroValue129,⟨[Value.int IntKind.u64 0],rfl,fun S w η=>.cons (zi _) (.nil)⟩,(fun T h=>by cases h;rfl)⟩,(fun T h=>by cases h;exact ⟨rfl,rfl⟩),Tryd.runUnderlying129⟩
theorem ti131:TIok Tryd.prog 131 t131 :=
 ⟨Tryd.isAgg131,Tryd.sizeOf131,⟨_,Tryd.zeroValue131,⟨[Value.int IntKind.u8 0,Value.int IntKind.u8 0],rfl,fun S w η=>.cons (zi _) (.cons (zi _) (.nil))⟩,(fun T h=>by cases h;rfl)⟩,(fun T h=>by cases h;exact ⟨rfl,rfl⟩),⟨_,Tryd.runUnderlying131,rfl,fun w=>by simp [Tryd.sizeOf5]⟩⟩
theorem ti132:TIok Tryd.prog 132 t132 :=
 ⟨Tryd.isAgg132,Tryd.sizeOf132,⟨_,Tryd.zeroValue132,⟨[Value.int IntKind.u8 0,Value.int IntKind.u8 0],rfl,fun S w η=>.cons (zi _) (.cons (zi _) (.nil))⟩,(fun T h=>by cases h;rfl)⟩,(fun T h=>by cases h;exact ⟨rfl,rfl⟩),⟨_,Tryd.runUnderlying132,rfl,fun w=>by simp [Tryd.sizeOf5]⟩⟩
theorem ti133:TIok Tryd.prog 133 t133 :=
 ⟨Tryd.isAgg133,Tryd.sizeOf133,⟨_,Tryd.zeroValue133,⟨[Value.int IntKind.u8 0,Value.int IntKind.u8 0,Value.int IntKind.u8 0,Value.int IntKind.u8 0,Value.int IntKind.u8 0,Value.int IntKind.u8 0,Value.int IntKind.u8 0,Value.int IntKind.u8 0,Value.int IntKind.u8 0,Value.int IntKind.u8 0,Value.int IntKind.u8 0,Value.int IntKind.u8 0,Value.int IntKind.u8 0,Value.int IntKind.u8 0,Value.int IntKind.u8 0,Value.int IntKind.u8 0,Value.int IntKind.u8 0,Value.int IntKind.u8 0,Value.int IntKind.u8 0,Value.int IntKind.u8 0,Value.int IntKind.u8 0,Value.int IntKind.u8 0,Value.int IntKind.u8 0,Value.int IntKind.u8 0,Value.int IntKind.u8 0,Value.int IntKind.u8 0,Value.int IntKind.u8 0,Value.int IntKind.u8 0,Value.int IntKind.u8 0,Value.int IntKind.u8 0,Value.int IntKind.u8 0,Value.int IntKind.u8 0],rfl,fun S w η=>.cons (zi _) (.cons (zi _) (.cons (zi _) (.cons (zi _) (.cons (zi _) (.cons (zi _) (.cons (zi _) (.cons (zi _) (.cons (zi _) (.cons (zi _) (.cons (zi _) (.cons (zi _) (.cons (zi _) (.cons (zi _) (.cons (zi _) (.cons (zi _) (.cons (zi _) (.cons (zi _) (.cons (zi _) (.cons (zi _) (.cons (zi _) (.cons (zi _) (.cons (zi _) (.cons (zi _) (.cons (zi _) (.cons (zi _) (.cons (zi _) (.cons (zi _) (.cons (zi _) (.cons (zi _) (.cons (zi _) (.cons (zi _) (.nil))))))))))))))))))))))))))))))))⟩,(fun T h=>by cases h)⟩,(fun T h=>by cases h),Tryd.runUnderlying133⟩
theorem ti137:TIok Tryd.prog 137 t137 :=
 ⟨Tryd.isAgg137,Tryd.sizeOf137,⟨_,Tryd.zeroValue137,⟨[Value.int IntKind.u32 0],rfl,fun S w η=>.cons (zi _) (.nil)⟩,(fun T h=>by cases h;rfl)⟩,(fun T h=>by cases h;exact ⟨rfl,rfl⟩),Tryd.runUnderlying137⟩
theorem ti138:TIok Tryd.prog 138 t138 :=
 ⟨Tryd.isAgg138,Tryd.sizeOf138,⟨_,Tryd.zeroValue138,⟨[Value.int IntKind.u32 0,Value.int IntKind.u32 0,Value.int IntKind.u32 0,Value.int IntKind.u32 0,Value.int IntKind.u32 0,Value.int IntKind.u32 0,Value.int IntKind.u32 0,Value.int IntKind.u32 0],rfl,fun S w η=>.cons (zi _) (.cons (zi _) (.cons (zi _) (.cons (zi _) (.cons (zi _) (.cons (zi _) (.cons (zi _) (.cons (zi _) (.nil))))))))⟩,(fun T h=>by cases h;rfl)⟩,(fun T h=>by cases h;exact ⟨rfl,rfl⟩),Tryd.runUnderlying138⟩
theorem ti139:TIok Tryd.prog 139 t139 :=
 ⟨Tryd.isAgg139,Tryd.sizeOf139,⟨_,Tryd.zeroValue139,⟨[Value.int IntKind.u32 0,Value.int IntKind.u32 0,Value.int IntKind.u32 0,Value.int IntKind.u32 0,Value.int IntKind.u32 0,Value.int IntKind.u32 0,Value.int IntKind.u32 0,Value.int IntKind.u32 0],rfl,fun S w η=>.cons (zi _) (.cons (zi _) (.cons (zi _) (.cons (zi _) (.cons (zi _) (.cons (zi _) (.cons (zi _) (.cons (zi _) (.nil))))))))⟩,(fun T h=>by cases h;rfl)⟩,(fun T h=>by cases h;exact ⟨rfl,rfl⟩),Tryd.runUnderlying139⟩
theorem ti146:TIok Tryd.prog 146 t146 :=
 ⟨Tryd.isAgg146,Tryd.sizeOf146,⟨_,Tryd.zeroValue146,⟨[Value.pointer none],rfl,fun S w η=>.cons (rfl) (.nil)⟩,(fun T h=>by cases h)⟩,(fun T h=>by cases h),Tryd.runUnderlying146⟩
theorem ti147:TIok Tryd.prog 147 t147 :=
 ⟨Tryd.isAgg147,Tryd.sizeOf147,⟨_,Tryd.zeroValue147,⟨[Value.int IntKind.u32 0,Value.int IntKind.u32 0,Value.int IntKind.u32 0,Value.int IntKind.u32 0,Value.int IntKind.u32 0,Value.int IntKind.u32 0,Value.int IntKind.u32 0,Value.int IntKind.u32 0,Value.int IntKind.u32 0,Value.int IntKind.u32 0,Value.int IntKind.u32 0,Value.int IntKind.u32 0,Value.int IntKind.u32 0,Value.int IntKind.u32 0,Value.int IntKind.u32 0,Value.int IntKind.u32 0,Value.int IntKind.u32 0,Value.int IntKind.u32 0,Value.int IntKind.u32 0,Value.int IntKind.u32 0,Value.int IntKind.u32 0,Value.int IntKind.u32 0,Value.int IntKind.u32 0,Value.int IntKind.u32 0,Value.int IntKind.u32 0,Value.int IntKind.u32 0,Value.int IntKind.u32 0,Value.int IntKind.u32 0,Value.int IntKind.u32 0,Value.int IntKind.u32 0,Value.int IntKind.u32 0,Value.int IntKind.u32 0,Value.int IntKind.u32 0,Value.int IntKind.u32 0,Value.int IntKind.u32 0,Value.int IntKind.u32 0,Value.int IntKind.u32 0,Value.int IntKind.u32 0,Value.int IntKind.u32 0,Value.int IntKind.u32 0,Value.int IntKind.u32 0,Value.int IntKind.u32 0,Value.int IntKind.u32 0,Value.int IntKind.u32 0,Value.int IntKind.u32 0,Value.int IntKind.u32 0,Value.int IntKind.u32 0,Value.int IntKind.u32 0,Value.int IntKind.u32 0,Value.int IntKind.u32 0,Value.int IntKind.u32 0,Value.int IntKind.u32 0,Value.int IntKind.u32 0,Value.int IntKind.u32 0,Value.int IntKind.u32 0,Value.int IntKind.u32 0,Value.int IntKind.u32 0,Value.int IntKind.u32 0,Value.int IntKind.u32 0,Value.int IntKind.u32 0,Value.int IntKind.u32 0,Value.int IntKind.u32 0,Value.int IntKind.u32 0,Value.int IntKind.u32 0],rfl,fun S w η=>.cons (zi _) (.cons (zi _) (.cons (zi _) (.cons (zi _) (.cons (zi _) (.cons (zi _) (.cons (zi _) (.cons (zi _) (.cons (zi _) (.cons (zi _) (.cons (zi _) (.cons (zi _) (.cons (zi _) (.cons (zi _) (.cons (zi _) (.cons (zi _) (.cons (zi _) (.cons (zi _) (.cons (zi _) (.cons (zi _) (.cons (zi _) (.cons (zi _) (.cons (zi _) (.cons (zi _) (.cons (zi _) (.cons (zi _) (.cons (zi _) (.cons (zi _) (.cons (zi _) (.cons (zi _) (.cons (zi _) (.cons (zi _) (.cons (zi _) (.cons (zi _) (.cons (zi _) (.cons (zi _) (.cons (zi _) (.cons (zi _) (.cons (zi _) (.cons (zi _) (.cons (zi _) (.cons (zi _) (.cons (zi _) (.cons (zi _) (.cons (zi _) (.cons (zi _) (.cons (zi _) (.cons (zi _) (.cons (zi _) (.cons (zi _) (.cons (zi _) (.cons (zi _) (.cons (zi _) (.cons (zi _) (.cons (zi _) (.cons (zi _) (.cons (zi _) (.cons (zi _) (.cons (zi _) (.cons (zi _) (.cons (zi _) (.cons (zi _) (.cons (zi _) (.cons (zi _) (.nil))))))))))))))))))))))))))))))))))))))))))))))))))))))))))))))))⟩,(fun T h=>by cases h)⟩,(fun T h=>by cases h),Tryd.runUnderlying147⟩
theorem ti150:TIok Tryd.prog 150 t150 :=
 ⟨Tryd.isAgg150,Tryd.sizeOf150,⟨_,Tryd.zeroValue150,⟨[Value.slice none 0 0],rfl,fun S w η=>.cons (rfl) (.nil)⟩,(fun T h=>by cases h;rfl)⟩,(fun T h=>by cases h;exact ⟨rfl,rfl⟩),⟨Tryd.underlying150,by decide,Tryd.t137,_,rfl,rfl,rfl,Tryd.zeroValue137,Tryd.sizeOf137⟩⟩
theorem ti151:TIok Tryd.prog 151 t151 :=
 ⟨Tryd.isAgg151,Tryd.sizeOf151,⟨_,Tryd.zeroValue151,⟨[Value.int IntKind.u8 0,Value.int IntKind.u8 0,Value.int IntKind.u8 0,Value.int IntKind.u8 0,Value.int IntKind.u8 0,Value.int IntKind.u8 0,Value.int IntKind.u8 0,Value.int IntKind.u8 0,Value.int IntKind.u8 0,Value.int IntKind.u8 0,Value.int IntKind.u8 0,Value.int IntKind.u8 0,Value.int IntKind.u8 0,Value.int IntKind.u8 0,Value.int IntKind.u8 0,Value.int IntKind.u8 0,Value.int IntKind.u8 0,Value.int IntKind.u8 0,Value.int IntKind.u8 0,Value.int IntKind.u8 0,Value.int IntKind.u8 0,Value.int IntKind.u8 0,Value.int IntKind.u8 0,Value.int IntKind.u8 0,Value.int IntKind.u8 0,Value.int IntKind.u8 0,Value.int IntKind.u8 0,Value.int IntKind.u8 0,Value.int IntKind.u8 0,Value.int IntKind.u8 0,Value.int IntKind.u8 0,Value.int IntKind.u8 0],rfl,fun S w η=>.cons (zi _) (.cons (zi _) (.cons (zi _) (.cons (zi _) (.cons (zi _) (.cons (zi _) (.cons (zi _) (.cons (zi _) (.cons (zi _) (.cons (zi _) (.cons (zi _) (.cons (zi _) (.cons (zi _) (.cons (zi _) (.cons (zi _) (.cons (zi _) (.cons (zi _) (.cons (zi _) (.cons (zi _) (.cons (zi _) (.cons (zi _) (.cons (zi _) (.cons (zi _) (.cons (zi _) (.cons (zi _) (.cons (zi _) (.cons (zi _) (.cons (zi _) (.cons (zi _) (.cons (zi _) (.cons (zi _) (.cons (zi _) (.nil))))))))))))))))))))))))))))))))⟩,(fun T h=>by cases h)⟩,(fun T h=>by cases h),Tryd.runUnderlying151⟩
theorem ti152:TIok Tryd.prog 152 t152 :=
 ⟨Tryd.isAgg152,Tryd.sizeOf152,⟨_,Tryd.zeroValue152,⟨[Value.slice none 0 0],rfl,fun S w η=>.cons (rfl) (.nil)⟩,(fun T h=>by cases h;rfl)⟩,(fun T h=>by cases h;exact ⟨rfl,rfl⟩),⟨Tryd.underlying152,by decide,Tryd.t3,_,rfl,rfl,rfl,Tryd.zeroValue3,Tryd.sizeOf3⟩⟩
theorem ti155:TIok Tryd.prog 155 t155 :=
 ⟨Tryd.isAgg155,Tryd.sizeOf155,⟨_,Tryd.zeroValue155,⟨[Value.pointer none],rfl,fun S w η=>.cons (rfl) (.nil)⟩,(fun T h=>by cases h)⟩,(fun T h=>by cases h),Tryd.runUnderlying155⟩
theorem ti156:TIok Tryd.prog 156 t156 :=
 ⟨Tryd.isAgg156,Tryd.sizeOf156,⟨_,Tryd.zeroValue156,⟨[Value.pointer none,Value.pointer none,Value.pointer none,Value.string ⟨#[]⟩],rfl,fun S w η=>.cons (rfl) (.cons (rfl) (.cons (rfl) (.cons (zs) (.nil))))⟩,(fun T h=>by cases h)⟩,(fun T h=>by cases h),⟨_,Tryd.runUnderlying156,rfl,fun w=>by simp [Tryd.sizeOf17,Tryd.sizeOf9]⟩⟩
theorem ti159:TIok Tryd.prog 159 t159 :=
 ⟨Tryd.isAgg159,Tryd.sizeOf159,⟨_,Tryd.zeroValue159,⟨[],rfl,fun S w η=>.nil⟩,(fun T h=>by cases h)⟩,(fun T h=>by cases h),trivial⟩
theorem ti166:TIok Tryd.prog 166 t166 :=
 ⟨Tryd.isAgg166,Tryd.sizeOf166,⟨_,Tryd.zeroValue166,⟨[Value.int IntKind.u64 0,Value.int IntKind.u64 0,Value.int IntKind.u32 0,Value.int IntKind.u8 0,Value.int IntKind.u8 0,Value.int IntKind.u8 0,Value.int IntKind.u8 0,Value.nilFunc,Value.pointer none,Value.int IntKind.i32 0,Value.int IntKind.i32 0],rfl,fun S w η=>.cons (zi _) (.cons (zi _) (.cons (zi _) (.cons (zi _) (.cons (zi _) (.cons (zi _) (.cons (zi _) (.cons (rfl) (.cons (rfl) (.cons (zi _) (.cons (zi _) (.nil)))))))))))⟩,(fun T h=>by cases h)⟩,(fun T h=>by cases h),trivial⟩
theorem ti174:TIok Tryd.prog 174 t174 :=
 ⟨Tryd.isAgg174,Tryd.sizeOf174,⟨_,Tryd.zeroValue174,⟨[Value.string ⟨#[]⟩,Value.int IntKind.u8 0],rfl,fun S w η=>.cons (zs) (.cons (zi _) (.nil))⟩,(fun T h=>by cases h;rfl)⟩,(fun T h=>by cases h;exact ⟨rfl,rfl⟩),trivial⟩
theorem ti176:TIok Tryd.prog 176 t176 :=
 ⟨Tryd.isAgg176,Tryd.sizeOf176,⟨_,Tryd.zeroValue176,⟨[Value.string ⟨#[]⟩],rfl,fun S w η=>.cons (zs) (.nil)⟩,(fun T h=>by cases h;rfl)⟩,(fun T h=>by cases h;exact ⟨rfl,rfl⟩),⟨_,Tryd.runUnderlying176,rfl,fun w=>by simp [Tryd.sizeOf9]⟩⟩
theorem ti177:TIok Tryd.prog 177 t177 :=
 ⟨Tryd.isAgg177,Tryd.sizeOf177,⟨_,Tryd.zeroValue177,⟨[Value.string ⟨#[]⟩],rfl,fun S w η=>.cons (zs) (.nil)⟩,(fun T h=>by cases h;rfl)⟩,(fun T h=>by cases h;exact ⟨rfl,rfl⟩),⟨_,Tryd.runUnderlying177,rfl,fun w=>by simp [Tryd.sizeOf9]⟩⟩
theorem ti178:TIok Tryd.prog 178 t178 :=
 ⟨Tryd.isAgg178,Tryd.sizeOf178,⟨_,Tryd.zeroValue178,⟨[Value.pointer none],rfl,fun S w η=>.cons (rfl) (.nil)⟩,(fun T h=>by cases h)⟩,(fun T h=>by cases h),Tryd.runUnderlying178⟩
theorem ti180:TIok Tryd.prog 180 t180 :=
 ⟨Tryd.isAgg180,Tryd.sizeOf180,⟨_,Tryd.zeroValue180,⟨[Value.int IntKind.u16 0],rfl,fun S w η=>.cons (zi _) (.nil)⟩,(fun T h=>by cases h;rfl)⟩,(fun T h=>by cases h;exact ⟨rfl,rfl⟩),Tryd.runUnderlying180⟩
theorem ti181:TIok Tryd.prog 181 t181 :=
 ⟨Tryd.isAgg181,Tryd.sizeOf181,⟨_,Tryd.zeroValue181,⟨[Value.int IntKind.i32 0,Value.int IntKind.u16 0,Value.int IntKind.u16 0,Value.int IntKind.u32 0,Value.int IntKind.u32 0],rfl,fun S w η=>.cons (zi _) (.cons (zi _) (.cons (zi _) (.cons (zi _) (.cons (zi _) (.nil)))))⟩,(fun T h=>by cases h;rfl)⟩,(fun T h=>by cases h;exact ⟨rfl,rfl⟩),trivial⟩
theorem ti183:TIok Tryd.prog 183 t183 :=
 ⟨Tryd.isAgg183,Tryd.sizeOf183,⟨_,Tryd.zeroValue183,⟨[Value.slice none 0 0],rfl,fun S w η=>.cons (rfl) (.nil)⟩,(fun T h=>by cases h;rfl)⟩,(fun T h=>by cases h;exact ⟨rfl,rfl⟩),trivial⟩
theorem ti185:TIok Tryd.prog 185 t185 :=
 ⟨Tryd.isAgg185,Tryd.sizeOf185,⟨_,Tryd.zeroValue185,⟨[Value.int IntKind.i32 0,Value.int IntKind.i32 0,Value.int IntKind.i32 0,Value.int IntKind.i32 0],rfl,fun S w η=>.cons (zi _) (.cons (zi _) (.cons (zi _) (.cons (zi _) (.nil))))⟩,(fun T h=>by cases h;rfl)⟩,(fun T h=>by cases h;exact ⟨rfl,rfl⟩),trivial⟩
theorem tyOK:∀ id ti,lk tyTab id=some ti→TIok Tryd.prog id ti:=by
 unfold tyTab
 exact lk_all ti2 <| lk_all ti3 <| lk_all ti4 <| lk_all ti5 <| lk_all ti7 <| lk_all ti9 <| lk_all ti12 <| lk_all ti13 <| lk_all ti15 <| lk_all ti16 <| lk_all ti17 <| lk_all ti18 <| lk_all ti20 <| lk_all ti21 <| lk_all ti22 <| lk_all ti24 <| lk_all ti25 <| lk_all ti29 <| lk_all ti38 <| lk_all ti43 <| lk_all ti47 <| lk_all ti48 <| lk_all ti49 <| lk_all ti50 <| lk_all ti51 <| lk_all ti55 <| lk_all ti56 <| lk_all ti57 <| lk_all ti58 <| lk_all (oF Tryd.isAgg60 Tryd.sizeOf60 Tryd.zeroValue60 Tryd.runUnderlying60) <| lk_all (oF Tryd.isAgg63 Tryd.sizeOf63 Tryd.zeroValue63 Tryd.runUnderlying63) <| lk_all ti65 <| lk_all ti66 <| lk_all ti68 <| lk_all ti69 <| lk_all ti75 <| lk_all ti76 <| lk_all ti87 <| lk_all ti88 <| lk_all ti90 <| lk_all ti93 <| lk_all ti94 <| lk_all ti95 <| lk_all ti96 <| lk_all (oF Tryd.isAgg109 Tryd.sizeOf109 Tryd.zeroValue109 Tryd.runUnderlying109) <| lk_all ti111 <| lk_all ti113 <| lk_all ti114 <| lk_all ti117 <| lk_all ti119 <| lk_all ti120 <| lk_all (oF Tryd.isAgg127 Tryd.sizeOf127 Tryd.zeroValue127 Tryd.runUnderlying127) <| lk_all ti129 <| lk_all ti131 <| lk_all ti132 <| lk_all ti133 <| lk_all ti137 <| lk_all ti138 <| lk_all ti139 <| lk_all (oF Tryd.isAgg141 Tryd.sizeOf141 Tryd.zeroValue141 Tryd.runUnderlying141) <| lk_all (oF Tryd.isAgg144 Tryd.sizeOf144 Tryd.zeroValue144 Tryd.runUnderlying144) <| lk_all (oF Tryd.isAgg145 Tryd.sizeOf145 Tryd.zeroValue145 Tryd.runUnderlying145) <| lk_all ti146 <| lk_all ti147 <| lk_all ti150 <| lk_all ti151 <| lk_all ti152 <| lk_all ti155 <| lk_all ti156 <| lk_all ti159 <| lk_all ti166 <| lk_all ti174 <| lk_all ti176 <| lk_all ti177 <| lk_all ti178 <| lk_all ti180 <| lk_all ti181 <| lk_all ti183 <| lk_all ti185 <| lk_none
noncomputable def fnTab:List (FuncId×Func):=[(3,Tryd.f3),(4,Tryd.f4),(5,Tryd.f5),(6,Tryd.f6),(7,Tryd.f7),(8,Tryd.f8),(9,Tryd.f9),(10,Tryd.f10),(11,Tryd.f11),(12,Tryd.f12),(13,Tryd.f13),(14,Tryd.f14),(15,Tryd.f15),(16,Tryd.f16),(17,Tryd.f17),(18,Tryd.f18),(19,Tryd.f19),(20,Tryd.f20),(21,Tryd.f21),(22,Tryd.f22),(23,Tryd.f23),(24,Tryd.f24),(25,Tryd.f25),(26,Tryd.f26),(27,Tryd.f27),(28,Tryd.f28),(29,Tryd.f29),(30,Tryd.f30),(32,Tryd.f32),(34,Tryd.f34),(35,Tryd.f35),(36,Tryd.f36),(37,Tryd.f37),(38,Tryd.f38),(39,Tryd.f39),(40,Tryd.f40),(41,Tryd.f41),(42,Tryd.f42),(43,Tryd.f43),(44,Tryd.f44),(45,Tryd.f45),(46,Tryd.f46),(47,Tryd.f47),(48,Tryd.f48),(49,Tryd.f49),(50,Tryd.f50),(51,Tryd.f51),(53,Tryd.f53),(54,Tryd.f54),(56,Tryd.f56),(57,Tryd.f57),(58,Tryd.f58),(60,Tryd.f60),(61,Tryd.f61),(62,Tryd.f62),(64,Tryd.f64),(65,Tryd.f65),(66,Tryd.f66),(67,Tryd.f67),(68,Tryd.f68),(69,Tryd.f69),(70,Tryd.f70),(71,Tryd.f71),(72,Tryd.f72),(73,Tryd.f73),(74,Tryd.f74),(75,Tryd.f75),(78,Tryd.f78),(79,Tryd.f79),(80,Tryd.f80),(82,Tryd.f82),(84,Tryd.f84),(85,Tryd.f85),(86,Tryd.f86),(89,Tryd.f89),(122,Tryd.f122)]
abbrev pF (f:FuncId) (fn:Func):Prop:=Tryd.prog.funcs[f]? = some fn∧∀ (args:Array Value) (w:World),(callFunc f args).run Tryd.prog w=.ok (.enter f args) w
theorem pf {f:FuncId} {fn:Func} (h:Tryd.prog.funcs[f]? = some fn) (h2:∀ (args:Array Value) (w:World),(callFunc f args).run Tryd.prog w=.ok (.enter f args) w):pF f fn:=⟨h,h2⟩
theorem fnOK:∀ f fn,lk fnTab f=some fn→Tryd.prog.funcs[f]? = some fn∧∀ (args:Array Value) (w:World),(callFunc f args).run Tryd.prog w=.ok (.enter f args) w:=by
 unfold fnTab
 change ∀ f fn,_→pF f fn
 exact lk_all (pf Tryd.func3 Tryd.call3) <| lk_all (pf Tryd.func4 Tryd.call4) <| lk_all (pf Tryd.func5 Tryd.call5) <| lk_all (pf Tryd.func6 Tryd.call6) <| lk_all (pf Tryd.func7 Tryd.call7) <| lk_all (pf Tryd.func8 Tryd.call8) <| lk_all (pf Tryd.func9 Tryd.call9) <| lk_all (pf Tryd.func10 Tryd.call10) <| lk_all (pf Tryd.func11 Tryd.call11) <| lk_all (pf Tryd.func12 Tryd.call12) <| lk_all (pf Tryd.func13 Tryd.call13) <| lk_all (pf Tryd.func14 Tryd.call14) <| lk_all (pf Tryd.func15 Tryd.call15) <| lk_all (pf Tryd.func16 Tryd.call16) <| lk_all (pf Tryd.func17 Tryd.call17) <| lk_all (pf Tryd.func18 Tryd.call18) <| lk_all (pf Tryd.func19 Tryd.call19) <| lk_all (pf Tryd.func20 Tryd.call20) <| lk_all (pf Tryd.func21 Tryd.call21) <| lk_all (pf Tryd.func22 Tryd.call22) <| lk_all (pf Tryd.func23 Tryd.call23) <| lk_all (pf Tryd.func24 Tryd.call24) <| lk_all (pf Tryd.func25 Tryd.call25) <| lk_all (pf Tryd.func26 Tryd.call26) <| lk_all (pf Tryd.func27 Tryd.call27) <| lk_all (pf Tryd.func28 Tryd.call28) <| lk_all (pf Tryd.func29 Tryd.call29) <| lk_all (pf Tryd.func30 Tryd.call30) <| lk_all (pf Tryd.func32 Tryd.call32) <| lk_all (pf Tryd.func34 Tryd.call34) <| lk_all (pf Tryd.func35 Tryd.call35) <| lk_all (pf Tryd.func36 Tryd.call36) <| lk_all (pf Tryd.func37 Tryd.call37) <| lk_all (pf Tryd.func38 Tryd.call38) <| lk_all (pf Tryd.func39 Tryd.call39) <| lk_all (pf Tryd.func40 Tryd.call40) <| lk_all (pf Tryd.func41 Tryd.call41) <| lk_all (pf Tryd.func42 Tryd.call42) <| lk_all (pf Tryd.func43 Tryd.call43) <| lk_all (pf Tryd.func44 Tryd.call44) <| lk_all (pf Tryd.func45 Tryd.call45) <| lk_all (pf Tryd.func46 Tryd.call46) <| lk_all (pf Tryd.func47 Tryd.call47) <| lk_all (pf Tryd.func48 Tryd.call48) <| lk_all (pf Tryd.func49 Tryd.call49) <| lk_all (pf Tryd.func50 Tryd.call50) <| lk_all (pf Tryd.func51 Tryd.call51) <| lk_all (pf Tryd.func53 Tryd.call53) <| lk_all (pf Tryd.func54 Tryd.call54) <| lk_all (pf Tryd.func56 Tryd.call56) <| lk_all (pf Tryd.func57 Tryd.call57) <| lk_all (pf Tryd.func58 Tryd.call58) <| lk_all (pf Tryd.func60 Tryd.call60) <| lk_all (pf Tryd.func61 Tryd.call61) <| lk_all (pf Tryd.func62 Tryd.call62) <| lk_all (pf Tryd.func64 Tryd.call64) <| lk_all (pf Tryd.func65 Tryd.call65) <| lk_all (pf Tryd.func66 Tryd.call66) <| lk_all (pf Tryd.func67 Tryd.call67) <| lk_all (pf Tryd.func68 Tryd.call68) <| lk_all (pf Tryd.func69 Tryd.call69) <| lk_all (pf Tryd.func70 Tryd.call70) <| lk_all (pf Tryd.func71 Tryd.call71) <| lk_all (pf Tryd.func72 Tryd.call72) <| lk_all (pf Tryd.func73 Tryd.call73) <| lk_all (pf Tryd.func74 Tryd.call74) <| lk_all (pf Tryd.func75 Tryd.call75) <| lk_all (pf Tryd.func78 Tryd.call78) <| lk_all (pf Tryd.func79 Tryd.call79) <| lk_all (pf Tryd.func80 Tryd.call80) <| lk_all (pf Tryd.func82 Tryd.call82) <| lk_all (pf Tryd.func84 Tryd.call84) <| lk_all (pf Tryd.func85 Tryd.call85) <| lk_all (pf Tryd.func86 Tryd.call86) <| lk_all (pf Tryd.func89 Tryd.call89) <| lk_all (pf Tryd.func122 Tryd.call122) <| lk_none
set_option maxRecDepth 100000 in
theorem eqOK48:EqOK Tryd.prog 48 [.bool,.int .i64]:=by
 refine ⟨by kernel_rfl,fun vs us h1 h2 w=>?_⟩
 rcases h1 with _ | ⟨⟨a0,rfl⟩,_ | ⟨⟨a1,rfl⟩,_ | _⟩⟩
 rcases h2 with _ | ⟨⟨b0,rfl⟩,_ | ⟨⟨b1,rfl⟩,_ | _⟩⟩
 have u3:=Tryd.underlying3
 have x3:=Tryd.isAgg3
 have z3:=Tryd.sizeOf3
 have u4:=Tryd.underlying4
 have x4:=Tryd.isAgg4
 have z4:=Tryd.sizeOf4
 have hS:Tryd.prog.underlying 48=some (.struct (Tryd.prog.fieldsOf 48)):=by kernel_rfl
 have hp:Tryd.prog.stoodInHeld 48=false:=by kernel_rfl
 rw [show (10000:Nat)=9999+1 from rfl,run_equalIn_agg w 9999 48 _ _ hS hp]
 simp only [Program.fieldsOf,Tryd.underlying48]
 go_simp
 refine if e0:a0=b0 then ?_ else by simp [eqVs,eqV,ByteArray.toList_eq,e0]
 refine if e1:a1=b1 then ?_ else by simp [eqVs,eqV,ByteArray.toList_eq,e0,e1]
 simp [eqVs,eqV,ByteArray.toList_eq,e0,e1]
set_option maxRecDepth 100000 in
theorem eqOK76:EqOK Tryd.prog 76 [.int .i64,.str]:=by
 refine ⟨by kernel_rfl,fun vs us h1 h2 w=>?_⟩
 rcases h1 with _ | ⟨⟨a0,rfl⟩,_ | ⟨⟨a1,rfl⟩,_ | _⟩⟩
 rcases h2 with _ | ⟨⟨b0,rfl⟩,_ | ⟨⟨b1,rfl⟩,_ | _⟩⟩
 have u3:=Tryd.underlying3
 have x3:=Tryd.isAgg3
 have z3:=Tryd.sizeOf3
 have u9:=Tryd.underlying9
 have x9:=Tryd.isAgg9
 have z9:=Tryd.sizeOf9
 have hS:Tryd.prog.underlying 76=some (.struct (Tryd.prog.fieldsOf 76)):=by kernel_rfl
 have hp:Tryd.prog.stoodInHeld 76=false:=by kernel_rfl
 rw [show (10000:Nat)=9999+1 from rfl,run_equalIn_agg w 9999 76 _ _ hS hp]
 simp only [Program.fieldsOf,Tryd.underlying76]
 go_simp
 refine if e0:a0=b0 then ?_ else by simp [eqVs,eqV,ByteArray.toList_eq,e0]
 refine if e1:a1.data.toList=b1.data.toList then ?_ else by simp [eqVs,eqV,ByteArray.toList_eq,e0,e1]
 simp [eqVs,eqV,ByteArray.toList_eq,e0,e1]
def eqTab:List (TypeId×List Ty):=[(48,[.bool,.int .i64]),(76,[.int .i64,.str])]
theorem eqsOK:∀ t ks,lk eqTab t=some ks→EqOK Tryd.prog t ks:=by
 unfold eqTab
 refine lk_all (p:=fun t ks=>EqOK Tryd.prog t ks) eqOK48 ?_
 refine lk_all (p:=fun t ks=>EqOK Tryd.prog t ks) eqOK76 ?_
 exact lk_none
def btTab:List (TypeId×TypeId×TypeId):=[(67,67,5)]
theorem bt67:BltOK Tryd.prog 67 67 5:=⟨by decide,by kernel_rfl,by kernel_rfl,⟨_,Tryd.zeroValue67,rfl⟩,fun b w=>by kernel_rfl⟩
theorem btOK:∀ T x,lk btTab T=some x→BltOK Tryd.prog T x.1 x.2:=by
 unfold btTab
 refine lk_all (p:=fun T (x:TypeId×TypeId)=>BltOK Tryd.prog T x.1 x.2) bt67 ?_
 exact lk_none
noncomputable def tabs0:Tabs:=⟨tyTab,fnTab,[],[],[],eqTab,[],[],[],btTab,[],[]⟩
theorem tabs0OK:TabOK Tryd.prog tabs0:=⟨tyOK,fnOK,(fun _ _ h=>by cases h),(fun _ _ h=>by cases h),by kernel_rfl,(fun _ h=>by cases h),eqsOK,(fun _ h=>by cases h),(fun _ _ h=>by cases h),(fun _ _ h=>by cases h),btOK,(fun _ _ h=>by cases h),(fun _ _ h=>by cases h)⟩
end Go.Proofs.YtobfnefajpiakaaDoor
namespace Go.PE
open Go Go.RowKit Go.Abs Go.Sort
open Go.Proofs (ltOf)
variable [db:DB] [ea:EA]

def clampT:(t:Ty)→t.den→t.den
 | .int k,x=>k.wrap x
 | .bool,x=>x
 | .str,x=>List.take maxLen x
 | .list _,x=>x
 | .one t,x=>clampT t x
 | .pair a b,x=>(clampT a x.1,clampT b x.2)
def encF:(t:Ty)→t.den→List Value
 | .int k,x=>[.int k x]
 | .bool,x=>[.bool x]
 | .str,x=>[.string ⟨List.toArray x⟩]
 | .list _,_=>[.slice none 0 0]
 | .one t,x=>encF t x
 | .pair a b,x=>encF a x.1++encF b x.2
def encT (t:Ty) (x:t.den):List Value:=encF t (clampT t x)
section
variable {S:Cells} {w:World} {η:Eta}
end
end Go.PE
namespace Go.PE
open Go Go.RowKit Go.Abs Go.Sort
variable [db:DB] [ea:EA]

section
variable {B:Nat} {S F:Cells} {w w':World}
end
end Go.PE
namespace Go.PE
open Go Go.RowKit Go.Abs Go.Shelf Go.Proofs Go.Sort
variable [db:DB] [ea:EA]

section
variable {P:Program} {w:World}
theorem run_append_str (base:Nat) (t u ty e:TypeId) (i:TypeInfo) (ht:P.underlying t=some (.slice e)) (hu:P.underlying u=some .string) (hi:P.info? e=some i) (hz:i.zero=some (.int .u8 0))
  (hsize:i.size=1) (hby:i.bytes=1) (v:Value) (n:Nat) (xs:List Value) (hown:w.ownsRow base e 1 v n xs) (s:ByteArray)
  (h63:n+s.size≤maxLen) (hbytes:n+s.size≤140737488355328) (hbase:base≤w.heap.size) :
  ∃ v' w',(Builtin.append_ #[t,u] ty #[v,.string s]).run P w=.ok v' w'∧w'.ownsRow base e 1 v' (n+s.size) (xs++Lib.strCells s)∧w.grownBy w' v.ownBlock ∧
   (v'=.slice none 0 0↔v=.slice none 0 0∧s.size=0)∧LK w w'∧∀ k,v'.ownBlock=some k→v.ownBlock=some k∨w.heap.size≤k:=by
 obtain ⟨v',w',hr,h2,h3,h4⟩:=Lib.run_append_own_string (P:=P) w base t u ty e i ht hu hi hz hsize hby v n xs hown s h63 hbytes hbase
 refine ⟨v',w',hr,h2,h3,h4,?_⟩
 have hxl:xs.length=n:=by simpa using hown.1
 rcases hown.2 with ⟨rfl,rfl⟩ | ⟨g,cap,cur,rfl,hbg,hg,hnc,hcm,hcs,htake⟩
 ·by_cases hm:s.size=0
  ·have hv:v'=.slice none 0 0:=h4.2 ⟨rfl,hm⟩
   refine ⟨⟨fun b r hb=>⟨r,by rw [h3.block b (aS.1 hb).1 (by simp [Value.ownBlock])];exact hb,rfl,rfl,rfl,rfl,rfl⟩,fun b hb=>by rw [h3.block b (aS.1 hb).1 (by simp [Value.ownBlock])];exact hb,fun _=>?_⟩,fun k hk=>by rw [hv] at hk;cases hk⟩
   have hf:=Lib.run_firstCells_string (P:=P) w 1 s
   rw [hm] at hf
   have:(Builtin.append_ #[t,u] ty #[.slice none 0 0,.string s]).run P w=.ok (.slice none 0 0) w:=by
    simp [Builtin.append_,run_underlying ht,run_underlying hu,Go.sizeOf,typeInfo,hi,hsize,Builtin.lenOf,hm,hf]
   rw [this] at hr
   cases hr
   exact nR _
  ·have hr2:=run_append_nil_string (P:=P) w t u ty e i (.int .u8 0) ht hu hi hz s (by omega) (by omega) (by rw [hby];omega)
   rw [hr2] at hr
   cases hr
   exact ⟨(LK.drew _).trans (LK.alloc _ _),fun k hk=>by cases hk;exact .inr (nR _)⟩
 ·by_cases hroom:n+s.size≤cap
  ·have hcs':cur.size=cap:=by simpa using hcs
   have hr2:=Lib.run_append_room_string (P:=P) (w:=w) t u ty e i ht hu hi hsize g n cap cur hg s hroom (by omega)
   rw [hr2] at hr
   cases hr
   refine ⟨.of (nR _) fun b o hb hne=>?_,fun k hk=>.inl hk⟩
   by_cases hbg:b=g
   ·subst hbg
    rw [hg] at hb
    cases hb
    exact absurd rfl (hne _ _ _)
   ·rw [setRow_other w g b _ hbg];exact hb
  ·have holds:∀ j u,xs[j]? = some u→w.cell? ((⟨g,0,none⟩:Addr).add j)=some u:=hown.cells (g:=g) rfl
   have hr2:=Lib.run_append_grow_string (P:=P) (w:=w) t u ty e i (.int .u8 0) ht hu hi hz ⟨g,0,none⟩ n cap xs (by rw [hsize];simpa using hxl) holds s (by omega) (by omega) (by rw [hby];exact growslice_fits (by omega) (by omega))
   rw [hr2] at hr
   cases hr
   exact ⟨(LK.drew _).trans (LK.alloc _ _),fun k hk=>by cases hk;exact .inr (nR _)⟩
theorem wpList_append_str {ops:Array Oper} {rest:List Oper} {o:Oper} {a:Act} {Q:Exit→Act→World→Prop} (hgd:o.guard=none) (sl x:Operand) (t u:TypeId)
  (ho:o.op=.call { callee:=.builtin .append,args:=#[sl,x],argTypes:=#[t,u] })
  (base:Nat) (e:TypeId) (i:TypeInfo) (ht:P.underlying t=some (.slice e)) (hu:P.underlying u=some .string) (hi:P.info? e=some i) (hz:i.zero=some (.int .u8 0))
  (hsize:i.size=1) (hby:i.bytes=1)
  (v:Value) (n:Nat) (xs:List Value) (hs:a.eval sl=v) (hown:w.ownsRow base e 1 v n xs) (s:ByteArray) (hx:a.eval x=.string s)
  (h63:n+s.size≤maxLen) (hbytes:n+s.size≤140737488355328) (hbase:base≤w.heap.size)
  (h:∀ v' w',w'.ownsRow base e 1 v' (n+s.size) (xs++Lib.strCells s)→w.grownBy w' v.ownBlock→(v'=.slice none 0 0↔v=.slice none 0 0∧s.size=0)→LK w w'→(∀ k,v'.ownBlock=some k→v.ownBlock=some k∨w.heap.size≤k)→wpList P ops Q rest (a.put o.dst v') w'):wpList P ops Q (o::rest) a w:=by
 refine wpList_plain hgd fun K hK=>?_
 obtain ⟨v',w',hr,h2,h3,h4,h5,h6⟩:=run_append_str (P:=P) base t u o.type e i ht hu hi hz hsize hby v n xs hown s h63 hbytes hbase
 unfold Oper.wp execOp
 simp only [ho,resolve,invoke,builtin,Sem.run_bind,Sem.run_pure,Result.andThen_ok,List.map_toArray,List.map_cons,List.map_nil,hs,hx,hr]
 exact hK _ _ (h v' w' h2 h3 h4 h5 h6)
end

section
variable {P:Program} {ρ:Ren}
theorem BldChg.refl (w:World) (b:Nat) (u:Value):BldChg w w b u u:=⟨rfl,rfl,rfl,nR _,LK.refl _,fun _ _ _ _=>rfl,fun _ h=>.inl h⟩
theorem bldChg_set {w:World} {b:Nat} {u u':Value} (o:Nat) (v:Value) (h:∀ k,u'.ownBlock=some k→u.ownBlock=some k∨w.heap.size≤k):BldChg w (w.setCell ⟨b,o,none⟩ v) b u u' :=
 ⟨rfl,rfl,rfl,by simp,LK.setCell _ _ _,fun k hk hne _=>by
  show (w.heap.modify b _)[k]? = _
  rw [Array.getElem?_modify,if_neg (Ne.symm hne)],h⟩
theorem BldChg.trans {w1 w2 w3:World} {b:Nat} {u1 u2 u3:Value} (h:BldChg w1 w2 b u1 u2) (k:BldChg w2 w3 b u2 u3):BldChg w1 w3 b u1 u3 :=
 ⟨k.os.trans h.os,k.tape.trans h.tape,k.output.trans h.output,Nat.le_trans h.size k.size,h.lk.trans k.lk,fun j hj h1 h2=>by
  rw [k.block j (Nat.lt_of_lt_of_le hj h.size) h1 (fun e=>?_),h.block j hj h1 h2]
  rcases h.own j e with h3 | h3
  ·exact h2 h3
  ·omega,fun j hj=>by
  rcases k.own j hj with h1 | h1
  ·exact h.own j h1
  ·exact .inr (Nat.le_trans h.size h1)⟩
theorem freeze_same (w:World) (a:Addr) (n:Nat):(w.freeze a n).os=w.os∧(w.freeze a n).tape=w.tape∧(w.freeze a n).output=w.output∧(w.freeze a n).heap.size=w.heap.size∧(w.freeze a n).drawn=w.drawn:=by
 unfold World.freeze
 split<;>simp
def BldUsed (w:World) (b:Nat) (T e:TypeId) (u:Value) (s:List UInt8):Prop:=w.heap[b]? = some (.cells #[.pointer (some ⟨b,0,none⟩),u] T (0,0))∧w.ownsRow 0 e 1 u s.length (bytV s)∧u.ownBlock≠some b∧(s=[]→u=.slice none 0 0)
set_option maxHeartbeats 1000000 in
set_option maxRecDepth 100000 in
theorem bld_fresh (L:Lays.n240 P ρ) {T e:TypeId} (hT:BltOK P T (ρ.t 72) e) (b:Nat) (w:World) (h0:w.cell? ⟨b,0,none⟩=some (.pointer none)) (hsh:w.shape? b=some (T,2)) (hfz:w.frozen? ⟨b,0,none⟩=false) :
  Calls P (ρ.f 240) #[.pointer (some ⟨b,0,none⟩)] w fun e w'=>e=.returned (.tuple #[])∧w'=w.setCell ⟨b,0,none⟩ (.pointer (some ⟨b,0,none⟩)):=by
 obtain ⟨j,hj,hjs⟩:=Option.map_eq_some_iff.1 hT.size
 have mixed:=L.mixed
 have t72:=L.t72;have a72:=L.a72;have z72:=L.z72;have v72:=L.v72;have u72:=run_underlying L.t72
 have t70:=L.t70;have a70:=L.a70;have z70:=L.z70;have v70:=L.v70;have u70:=run_underlying L.t70
 have t9:=L.t9;have a9:=L.a9;have z9:=L.z9;have v9:=L.v9;have u9:=run_underlying L.t9
 have t4:=L.t4;have a4:=L.a4;have z4:=L.z4;have v4:=L.v4;have u4:=run_underlying L.t4
 have t164:=L.t164;have a164:=L.a164;have z164:=L.z164;have v164:=L.v164;have u164:=run_underlying L.t164
 go_enter L.f240,Body.n240_ntmps ρ
 go_wp2
 rw [Lib.run_to_unsafe w ⟨b,0,none⟩ L.t70 L.t164 hj (by rw [hjs];decide) hsh (Nat.zero_lt_succ 1)]
 simp only [Result.andThen]
 rw [Oper.upon_value]
 go_wp2
 rw [run_callFunc_extern L.f276 (by kernel_rfl) (by kernel_rfl) (by kernel_rfl) (e:=Extern.AbiNoEscape.same) (by kernel_rfl)]
 rw [Lib.run_noEscape]
 simp only [Result.andThen]
 rw [Oper.upon_value]
 go_wp2
 rw [Lib.run_from_unsafe w ⟨b,0,none⟩ L.t164 L.t70 hj hsh hT.lies]
 simp only [Result.andThen]
 rw [Oper.upon_value]
 go_wp2
 go_end0
 exact ⟨rfl,rfl⟩
theorem bld_check (L:Lays.n240 P ρ) {T e:TypeId} (hT:BltOK P T (ρ.t 72) e) (X:Builder.X72 P ρ) (b:Nat) {u:Value} {s:List UInt8} (w:World) (h:BldAt w b T e u s) :
  Calls P (ρ.f 240) #[.pointer (some ⟨b,0,none⟩)] w fun en w'=>en=.returned (.tuple #[])∧BldUsed w' b T e u s∧BldChg w w' b u u:=by
 obtain ⟨p,h1,h2,h3,h4,h5⟩:=h
 rcases h2 with rfl | rfl
 ·refine (bld_fresh L hT b w (by rw [Lib.cell_of_heap h1];rfl) (by simp [World.shape?,h1]) (Lib.frozen_of_heap h1 0)).mono ?_
  rintro en w' ⟨rfl,rfl⟩
  refine ⟨rfl,⟨?_,?_,h4,h5⟩,bldChg_set 0 _ fun _ h=>.inl h⟩
  ·show (w.heap.modify b _)[b]? = _
   rw [Array.getElem?_modify,if_pos rfl,h1]
   rfl
  ·refine ⟨h3.1,?_⟩
   rcases h3.2 with h | ⟨g,cap,cur,hv,hb,hg,hr⟩
   ·exact .inl h
   ·refine .inr ⟨g,cap,cur,hv,hb,?_,hr⟩
    have hne:b≠g:=fun e=>h4 (by rw [hv,e];rfl)
    show (w.heap.modify b _)[g]? = _
    rw [Array.getElem?_modify,if_neg hne,hg]
 ·refine (Any.Builder_copyCheck_used L X b w (by rw [Lib.cell_of_heap h1];rfl)).mono ?_
  rintro en w' ⟨rfl,rfl⟩
  exact ⟨rfl,⟨h1,h3,h4,h5⟩,BldChg.refl _ _ _⟩
set_option maxHeartbeats 2000000 in
set_option maxRecDepth 100000 in
theorem bld_write (L:Lays.n166 P ρ) (X:Builder.Extra P ρ) {T:TypeId} (hT:BltOK P T (ρ.t 72) (ρ.t 5)) (b:Nat) (u:Value) (s t:List UInt8) (w:World) (h:BldAt w b T (ρ.t 5) u s) (hlen:s.length+t.length≤140737488355328) :
  Calls P (ρ.f 166) #[.pointer (some ⟨b,0,none⟩),.string ⟨t.toArray⟩] w fun en w'=>∃ u',en=.returned (.tuple #[.int .i64 t.length,.nilIface])∧BldAt w' b T (ρ.t 5) u' (s++t)∧BldChg w w' b u u':=by
 obtain ⟨i0,hi,hz0,hz1,hz2⟩:=info_parts X.infoByte
 have hts:(ByteArray.mk t.toArray).size=t.length:=by simp [ByteArray.size]
 have mixed:=L.mixed
 have t72:=L.t72;have a72:=L.a72;have z72:=L.z72;have v72:=L.v72;have u72:=run_underlying L.t72
 have t70:=L.t70;have a70:=L.a70;have z70:=L.z70;have v70:=L.v70;have u70:=run_underlying L.t70
 have t37:=L.t37;have a37:=L.a37;have z37:=L.z37;have v37:=L.v37;have u37:=run_underlying L.t37
 have t3:=L.t3;have a3:=L.a3;have z3:=L.z3;have v3:=L.v3;have u3:=run_underlying L.t3
 have t9:=L.t9;have a9:=L.a9;have z9:=L.z9;have v9:=L.v9;have u9:=run_underlying L.t9
 have t4:=L.t4;have a4:=L.a4;have z4:=L.z4;have v4:=L.v4;have u4:=run_underlying L.t4
 have t164:=L.t164;have a164:=L.a164;have z164:=L.z164;have v164:=L.v164;have u164:=run_underlying L.t164
 have t5:=X.t5;have a5:=X.a5;have z5:=X.z5;have v5:=X.v5;have u5:=run_underlying X.t5
 have e240:∀ args w,(callFunc (ρ.f 240) args).run P w=.ok (.enter (ρ.f 240) args) w:=enters_of L.f240 (by kernel_rfl) rfl
 go_enter L.f166,Body.n166_ntmps ρ
 go_wp2_with (go_at_fn (ρ.f 240);refine (bld_check { L with } hT X.toX72 b _ h).mono ?_)
 rintro en w1 ⟨rfl,⟨hbk,hown,hne,hnil⟩,hch1⟩
 have c0:w1.cell? ⟨b,0,none⟩=some (.pointer (some ⟨b,0,none⟩)):=by rw [Lib.cell_of_heap hbk];rfl
 have c1:w1.cell? ⟨b,1,none⟩=some u:=by rw [Lib.cell_of_heap hbk];rfl
 go_wp2_with (at_builtin;refine wpList_append_str rfl _ _ (ρ.t 37) (ρ.t 9) rfl 0 (ρ.t 5) i0 L.t37 L.t9 hi hz0 hz1 hz2 _ _ _ rfl hown ⟨t.toArray⟩ rfl ?c3 ?c4 (Nat.zero_le _) ?_)
 case c3=>rw [hts];unfold maxLen;omega
 case c4=>rw [hts];omega
 intro v' w2 hown' hgrow hiff hlk how
 have hlt:b<w1.heap.size:=(aS.1 hbk).1
 have hb2:w2.heap[b]? = some (.cells #[.pointer (some ⟨b,0,none⟩),u] T (0,0)):=by
  rw [hgrow.block b hlt (fun e=>hne e.symm)]
  exact hbk
 have d0:w2.cell? ⟨b,0,none⟩=some (.pointer (some ⟨b,0,none⟩)):=by rw [Lib.cell_of_heap hb2];rfl
 have d1:w2.cell? ⟨b,1,none⟩=some u:=by rw [Lib.cell_of_heap hb2];rfl
 have f1:w2.frozen? ⟨b,1,none⟩=false:=Lib.frozen_of_heap hb2 1
 obtain ⟨ao,n',cap,rfl⟩:∃ ao n' cap,v'=.slice ao n' cap:=by
  rcases hown'.2 with ⟨hv,_⟩ | ⟨g,cap,cur,hv,_⟩
  ·exact ⟨_,_,_,hv⟩
  ·exact ⟨_,_,_,hv⟩
 go_wp2
 go_ret2
 have hneb:(Value.slice ao n' cap).ownBlock≠some b:=fun e=>by
  rcases how b e with h1 | h1
  ·exact hne h1
  ·omega
 have hcells:bytV s++Lib.strCells ⟨t.toArray⟩=bytV (s++t):=by simp [bytV,Lib.strCells]
 simp only [hts,hcells] at hown'
 refine ⟨.slice ao n' cap,by simp [ByteArray.size],⟨_,?_,.inr rfl,⟨by rw [lA];exact hown'.1,?_⟩,hneb,fun hst=>?_⟩,hch1.trans ?_⟩
 ·show (w2.heap.modify b _)[b]? = _
  rw [Array.getElem?_modify,if_pos rfl,hb2]
  rfl
 ·rw [lA]
  rcases hown'.2 with h | ⟨g,cap',cur,hv,hb,hg,hr⟩
  ·exact .inl h
  ·refine .inr ⟨g,cap',cur,hv,hb,?_,hr⟩
   have hbg:b≠g:=fun e=>hneb (by rw [hv,e];rfl)
   show (w2.heap.modify b _)[g]? = _
   rw [Array.getElem?_modify,if_neg hbg,hg]
 ·obtain ⟨rfl,rfl⟩:=List.append_eq_nil_iff.1 hst
  exact hiff.2 ⟨hnil rfl,by simp [ByteArray.size]⟩
 ·have q:BldChg w1 w2 b u (.slice ao n' cap):=⟨hgrow.os,hgrow.tape,hgrow.output,hgrow.size,hlk,fun k hk _ h2=>hgrow.block k hk (fun e=>h2 e.symm),how⟩
  exact q.trans (bldChg_set 1 _ fun _ h=>.inl h)
theorem BldChg.drew {w w':World} {b:Nat} {u:Value} (h:BldChg w w' b u (.slice none 0 0)):BldChg w w'.drew b u (.slice none 0 0) :=
 ⟨h.os,h.tape,h.output,h.size,h.lk.trans (LK.drew _),h.block,h.own⟩
set_option maxHeartbeats 1000000 in
set_option maxRecDepth 100000 in
theorem bld_str (L:Lays.n169 P ρ) (X:Builder.Extra P ρ) {T:TypeId} (b:Nat) (u:Value) (l:List UInt8) (w:World) (h:BldAt w b T (ρ.t 5) u l) :
  Calls P (ρ.f 169) #[.pointer (some ⟨b,0,none⟩)] w fun e w'=>e=.returned (.string ⟨l.toArray⟩)∧BldChg w w' b u (.slice none 0 0):=by
 obtain ⟨p,hbk,_,hown,hne,hnil⟩:=h
 have mixed:=L.mixed
 have t72:=L.t72;have a72:=L.a72;have z72:=L.z72;have v72:=L.v72;have u72:=run_underlying L.t72
 have t70:=L.t70;have a70:=L.a70;have z70:=L.z70;have v70:=L.v70;have u70:=run_underlying L.t70
 have t37:=L.t37;have a37:=L.a37;have z37:=L.z37;have v37:=L.v37;have u37:=run_underlying L.t37
 have t127:=L.t127;have a127:=L.a127;have z127:=L.z127;have v127:=L.v127;have u127:=run_underlying L.t127
 have t3:=L.t3;have a3:=L.a3;have z3:=L.z3;have v3:=L.v3;have u3:=run_underlying L.t3
 have t9:=L.t9;have a9:=L.a9;have z9:=L.z9;have v9:=L.v9;have u9:=run_underlying L.t9
 have t5:=X.t5;have a5:=X.a5;have z5:=X.z5;have v5:=X.v5;have u5:=run_underlying X.t5
 have q0:BldChg w w b u (.slice none 0 0):=⟨rfl,rfl,rfl,nR _,LK.refl _,fun _ _ _ _=>rfl,fun _ h=>by cases h⟩
 by_cases h0:l=[]
 ·have hu:=hnil h0
  subst hu
  subst h0
  have c1:w.drew.cell? ⟨b,1,none⟩=some (.slice none 0 0):=by
   have:w.drew.heap[b]? = some (.cells #[p,.slice none 0 0] T (0,0)):=hbk
   rw [Lib.cell_of_heap this];rfl
  have hSD:(Builtin.unsafeSliceData_ #[(ρ.t 37)] (ρ.t 127) #[.slice none 0 0]).run P w.drew=.ok (.pointer none) w.drew:=rfl
  have hUS:=Any.unsafeString_none L X
  go_enter L.f169,Body.n169_ntmps ρ
  go_wp2
  go_region_o
  all_goals (go_wp2;go_ret;exact ⟨rfl,q0.drew⟩)
 ·have hl0:l.length≠0:=by simpa using h0
  obtain ⟨g,cap,cur,rfl,hbg,hg,hnc,hcm,hcs,htake⟩:∃ g cap cur,u=.slice (some ⟨g,0,none⟩) l.length cap∧0≤g∧w.heap[g]? = some (.cells cur (ρ.t 5) (0,0))∧l.length≤cap∧cap≤maxLen∧cur.size=cap*1∧cur.toList.take (l.length*1)=bytV l:=by
   rcases hown.2 with ⟨_,hz⟩ | ⟨g,cap,cur,hv,r⟩
   ·exact absurd hz hl0
   ·exact ⟨g,cap,cur,hv,r⟩
  have c1:w.drew.cell? ⟨b,1,none⟩=some (.slice (some ⟨g,0,none⟩) l.length cap):=by
   have:w.drew.heap[b]? = some (.cells #[p,.slice (some ⟨g,0,none⟩) l.length cap] T (0,0)):=hbk
   rw [Lib.cell_of_heap this];rfl
  have hSD:(Builtin.unsafeSliceData_ #[(ρ.t 37)] (ρ.t 127) #[.slice (some ⟨g,0,none⟩) l.length cap]).run P w.drew=.ok (.pointer (some ⟨g,0,none⟩)) w.drew :=
   Lib.run_unsafeSliceData_row _ _ _ _ _ _ (by omega)
  have hUS:(Builtin.unsafeString_ #[(ρ.t 127),(ρ.t 3)] (ρ.t 9) #[.pointer (some ⟨g,0,none⟩),.int .i64 l.length]).run P w.drew=.ok (.string ⟨l.toArray⟩) (w.drew.freeze ⟨g,0,none⟩ l.length):=by
   refine Lib.run_unsafeString_row w.drew (ρ.t 127) (ρ.t 3) (ρ.t 9) (ρ.t 5) L.t127 X.cellsByte g cur.size (by have hg':w.drew.heap[g]? = some (.cells cur (ρ.t 5) (0,0)):=hg;simp [World.shape?,hg']) l h0 (by omega) (by unfold maxLen at hcm;omega) ?_
   intro j x hx
   have:=hown.cells (g:=g) rfl j (.int .u8 x.toNat) (by simp [bytV,hx])
   exact this
  have q1:BldChg w (w.drew.freeze ⟨g,0,none⟩ l.length) b (.slice (some ⟨g,0,none⟩) l.length cap) (.slice none 0 0):=by
   have hfr:∀ k,k≠g→(w.drew.freeze ⟨g,0,none⟩ l.length).heap[k]? = w.heap[k]? := fun k hk=>by
    unfold World.freeze
    rw [if_neg hl0]
    show (w.drew.heap.modify g _)[k]? = _
    rw [Array.getElem?_modify,if_neg (Ne.symm hk)]
    rfl
   obtain ⟨e1,e2,e3,e4,e5⟩:=freeze_same w.drew ⟨g,0,none⟩ l.length
   refine ⟨e1,e2,e3,Nat.le_of_eq e4.symm,.of (by rw [e5];exact Nat.le_succ _) fun k o hk hne=>?_,fun k hk _ h2=>hfr k fun e=>h2 (by rw [e];rfl),fun _ h=>by cases h⟩
   by_cases hkg:k=g
   ·subst hkg
    rw [hg] at hk
    cases hk
    exact absurd rfl (hne _ _ _)
   ·rw [hfr k hkg];exact hk
  go_enter L.f169,Body.n169_ntmps ρ
  go_wp2
  go_region_o
  all_goals (go_wp2;go_ret;exact ⟨rfl,q1⟩)
theorem ext_wstr (L:Lays.n166 P ρ) (X:Builder.Extra P ρ) {f TB e:Nat} (hf:ρ.f 166=f) (hT:ρ.t 72=TB) (he:ρ.t 5=e) (en:∀ (args:Array Value) (w:World),(callFunc f args).run P w=.ok (.enter f args) w):ExtOK P f (.wstr TB e):=by
 subst hf hT he
 exact ⟨en,fun T hT b u s t w h hl=>bld_write L X hT b u s t w h hl⟩
theorem ext_stri (L:Lays.n169 P ρ) (X:Builder.Extra P ρ) {f TB e:Nat} (hf:ρ.f 169=f) (hT:ρ.t 72=TB) (he:ρ.t 5=e) (en:∀ (args:Array Value) (w:World),(callFunc f args).run P w=.ok (.enter f args) w):ExtOK P f (.stri TB e):=by
 subst hf hT he
 exact ⟨en,fun T hT b u s w h=>bld_str L X b u s w h⟩
end
section
variable {P:Program} {ρ:Ren} {S:Cells} {w w':World} {η:Eta}
theorem keep_below (hin:InW S w) (h:Below w.heap.size w w'):Keep S w S w':=⟨fun _ _ h=>h,fun b o hb=>h.cell (p:=⟨b,o,none⟩) (hin.lt b o hb)⟩
theorem grow_below (hin:InW S w) (h:Below w.heap.size w w') (hl:LK w w'):Grow w.heap.size S w S w':=⟨h,keep_below hin h,fun b o hb=>Nat.lt_of_lt_of_le (hin.lt b o hb) h.size,fun _ _ h=>.inl h,hl⟩
theorem rv_str {x:List UInt8} {v:Value} (h:RM S w η (Ty.str.rv x) v):v=.string ⟨x.toArray⟩∧x.length≤maxLen:=(PM.str (S:=S) (w:=w) (η:=η)).1 h
theorem pm_str {x:List UInt8} (h:x.length≤maxLen):PM S w η (resPV (rvs [.str] x)) (.string ⟨x.toArray⟩):=(PM.str (S:=S) (w:=w) (η:=η)).2 ⟨rfl,h⟩
theorem dropWhile_length {α:Type} (p:α→Bool):∀ l:List α,(l.dropWhile p).length≤l.length
 | []=>nR _
 | x::l=>by
  unfold List.dropWhile
  split
  ·exact Nat.le_trans (dropWhile_length p l) (Nat.le_succ _)
  ·exact nR _
theorem trimS_length (s c:List UInt8):(Lib.trimS s c).length≤s.length:=by
 unfold Lib.trimS Lib.trimLeftS Lib.trimRightS
 refine Nat.le_trans (dropWhile_length _ _) ?_
 rw [List.length_reverse]
 refine Nat.le_trans (dropWhile_length _ _) ?_
 rw [List.length_reverse]
 exact nR _
theorem spec_trim (hd:drawsB=false) (L:Lays.n160 P ρ) (h116:(P.info? (ρ.t 116)).map (fun i=>(i.zero,i.size))=some (some (.agg (Array.replicate 256 (.bool false))),256)) {f:Nat} (hf:ρ.f 160=f):SpecOK P f ⟨[.str,.str],[.str],fun x=>trimM x.1 x.2⟩:=by
 subst hf
 intro x r hr S w η vs hi hv
 have hr:trimM x.1 x.2=some r:=hr
 unfold trimM at hr
 split at hr
 ·rename_i c1 c2
  have c2:=oD c2
  have hr:=Option.some.inj hr
  cases hv with
  | cons h1 h2 =>
   cases h2 with
   | cons h2 h3 =>
    cases h3
    obtain ⟨rfl,l1⟩:=rv_str h1
    obtain ⟨rfl,l2⟩:=rv_str h2
    refine (Any.strings_Trim_laid L h116 ⟨x.1.toArray⟩ ⟨x.2.toArray⟩ w (by simpa [ByteArray.size,maxLen] using l1) (by simpa [ByteArray.size] using c2) (ascii_of_all (by simpa using c1))).mono fun en w' ⟨he,hw⟩=>?_
    refine ⟨_,S,he,grow_below hi hw (.below hd hw.block),?_⟩
    rw [← hr]
    exact pm_str (Nat.le_trans (trimS_length _ _) l1)
 ·cases hr
end
def joinM (xs:List (List UInt8)) (sep:List UInt8):Option (List UInt8):=match decide ((Lib.join xs sep).length≤140737488355328),decide (xs.length≤140737488355328) with
 | true,true=>some (Lib.join xs sep)
 | _,_=>none
section
variable {P:Program} {ρ:Ren}
theorem spec_join (hd:drawsB=false) (L:Lays.n156 P ρ) (X:Builder.Extra P ρ) {f:Nat} (hf:ρ.f 156=f):SpecOK P f ⟨[.list .str,.str],[.str],fun x=>joinM x.1 x.2⟩:=by
 subst hf
 intro x r hr S w η vs hi hv
 have hr:joinM x.1 x.2=some r:=hr
 obtain ⟨xs,sep⟩:=x
 have hr:joinM xs sep=some r:=hr
 unfold joinM at hr
 split at hr
 ·rename_i c1 c2
  have c1:=oD c1
  have c2:=oD c2
  have hr:=Option.some.inj hr
  cases hv with
  | cons h1 h2 =>
   cases h2 with
   | cons h2 h3 =>
    cases h3
    obtain ⟨rfl,l2⟩:=rv_str h2
    have h1':CM S w η (.d (.list .str) xs) _:=h1
    obtain ⟨base,cap,rfl,b1,b2,b3⟩:=VRep.slice h1'.2
    have hmap:(xs.map fun x=>(⟨x.toArray⟩:ByteArray)).map (·.data.toList)=xs:=by rw [List.map_map];exact (List.map_congr_left fun x _=>rfl).trans (List.map_id _)
    have fin:Calls P (ρ.f 156) #[.slice base xs.length cap,.string ⟨sep.toArray⟩] w fun e w'=>e=.returned (.string ⟨(Lib.join xs sep).toArray⟩)∧Below w.heap.size w w':=by
     rcases b3 with b3 | ⟨b,off,rfl,b3⟩
     ·have:xs=[]:=lN b3
      subst this
      exact (Any.strings_Join_none L X base cap ⟨sep.toArray⟩ w).mono fun e w' ⟨he,hw⟩=>⟨he,hw▸Below.refl _ _⟩
     ·by_cases h0:xs.length=0
      ·have:xs=[]:=lN h0
       subst this
       exact (Any.strings_Join_none L X _ cap ⟨sep.toArray⟩ w).mono fun e w' ⟨he,hw⟩=>⟨he,hw▸Below.refl _ _⟩
      have hcell:∀ i (x:List UInt8),xs[i]? = some x→S b (off+i)∧w.cell? ⟨b,off+i,none⟩=some (.string ⟨x.toArray⟩):=fun i x hx=>by
       obtain ⟨es,⟨rfl,_⟩,h5⟩:=b3 i x hx
       have:=h5 0 _ rfl
       rwa [show off+i*Ty.str.size+0=off+i by show off+i*1+0=_;omega] at this
      have hb:b<w.heap.size:=hi.lt b (off+0) (hcell 0 _ (gE (by omega))).1
      have:=Any.strings_Join L X b off cap (xs.map fun x=>(⟨x.toArray⟩:ByteArray)) ⟨sep.toArray⟩ w (fun j x hx=>by
       rw [List.getElem?_map] at hx
       cases hy:xs[j]? with
       | none=>rw [hy] at hx;cases hx
       | some y=>rw [hy] at hx;cases hx;exact (hcell j y hy).2) hb (by simpa using c2) (by simpa using b1) (by rw [hmap];simpa using c1)
      rw [hmap,List.length_map] at this
      simpa using this
    refine fin.mono fun en w' ⟨he,hw⟩=>?_
    refine ⟨_,S,he,grow_below hi hw (.below hd hw.block),?_⟩
    rw [← hr]
    refine pm_str ?_
    unfold maxLen
    omega
 ·cases hr
end
end Go.PE
namespace Go.Proofs.YtobfnefajpiakaaDoor
open Go Go.Abs Go.PE Go.Proofs
open Go.RowKit Go.Extern.Stop Go.Stop Go.Extern
set_option maxRecDepth 100000
theorem isTypeOf (v:Value) (w:World):(Extern.ReflectliteType.typeOf #[.iface 155 v]).run Tryd.prog w=.ok (.iface 112 (.agg #[.pointer (some ⟨5,155,none⟩)])) w:=by kernel_rfl
theorem isComparable (w:World):((Extern.ReflectliteType.method fun t=>do Extern.Rtype.noPackHeld "Comparable" t;(fun a=>Value.bool a.comparable) <$> typeInfo t) #[.agg #[.pointer (some ⟨5,155,none⟩)]]).run Tryd.prog w=.ok (.bool true) w:=by kernel_rfl
theorem isMethodComparable (v:Value) (w:World):(Go.method 288 112 v "Comparable").run Tryd.prog w=.ok (110,v) w:=by kernel_rfl
theorem isComp:(Tryd.prog.info? 155).map (·.comparable)=some true:=by kernel_rfl
theorem isSize:(Tryd.prog.info? 177).map (·.size)=some 1:=by kernel_rfl
theorem isE_same (a:Addr) (w:World) :
  Calls Tryd.prog 39 #[.iface 155 (.pointer (some a)),.iface 155 (.pointer (some a))] w fun e w'=>e=.returned (.bool true)∧w'=w:=by
 obtain ⟨i,hi,hcmp⟩:=Option.map_eq_some_iff.1 isComp
 obtain ⟨j,hj,hjs⟩:=Option.map_eq_some_iff.1 isSize
 have h8:=@run_callFunc_extern Tryd.prog 55 _ Extern.ReflectliteType.typeOf Tryd.func55 (by kernel_rfl) (by kernel_rfl) (by kernel_rfl) (by kernel_rfl)
 have h32:=@run_callFunc_extern Tryd.prog 110 _ (Extern.ReflectliteType.method fun t=>do Extern.Rtype.noPackHeld "Comparable" t;pure (.bool (← typeInfo t).comparable)) Tryd.func110 (by kernel_rfl) (by kernel_rfl) (by kernel_rfl) (by kernel_rfl)
 have tT:=isTypeOf
 have cT:=isComparable
 have mR:=isMethodComparable
 have heq:=run_eql_iface_ptr_same (P:=Tryd.prog) w a Tryd.underlying69 Tryd.underlying155 hi hcmp hj
 go_enter Tryd.func39,Tryd.ntmps39
 go_wp2
 refine wp_loop_rounds 1 ?_
 rw [rounds_succ]
 go_wp2
 go_ret
 exact ⟨rfl,rfl⟩
theorem isE_as (v:Value) (xT:TypeId) (w:World):(Instr.typeAssert (.iface 155 v) xT 69 true).run Tryd.prog w=.ok (.tuple #[.iface 155 v,.bool true]) w:=run_typeAssert_hasB Tryd.underlying69 (by kernel_rfl) v xT w
theorem isE_nil (xT:TypeId) (w:World):(Instr.typeAssert .nilIface xT 69 true).run Tryd.prog w=.ok (.tuple #[.nilIface,.bool false]) w:=by kernel_rfl
theorem isE_ok [DB] [EA]:ExtOK Tryd.prog 39 (.isE 155 69):=⟨Tryd.call39,isE_same,fun v xT w=>isE_as v xT w,fun xT w=>isE_nil xT w⟩
end Go.Proofs.YtobfnefajpiakaaDoor
namespace Go.Proofs
open Go.Shelf
def Tryd.lays123_ren:Go.Shelf.Ren:=⟨fun | 160=>23 | 232=>42 | 231=>41 | 227=>43 | 234=>45 | 233=>44 | 236=>47 | 235=>46 | 228=>59 | 271=>62 | 151=>61 | 197=>60 | 120=>69 | 152=>68 | 260=>67 | 137=>74 | 119=>75 | 224=>76 | 225=>77 | 217=>83 | 266=>88 | n=>n,fun | 9=>9 | 4=>4 | 3=>3 | 5=>5 | 117=>84 | 116=>83 | 0=>0 | 124=>87 | 21=>21 | 105=>104 | 46=>129 | 119=>130 | 139=>133 | 138=>132 | n=>n,fun | 3=>1 | 4=>2 | n=>n⟩
theorem Tryd.lays123:Go.Proofs.Lays.n160 Tryd.prog Tryd.lays123_ren:={
 mixed:=by kernel_rfl
 f119:=Tryd.func75.trans (congrArg some (by kernel_rfl))
 f120:=Tryd.func69.trans (congrArg some (by kernel_rfl))
 f137:=Tryd.func74.trans (congrArg some (by kernel_rfl))
 f151:=Tryd.func61.trans (congrArg some (by kernel_rfl))
 f152:=Tryd.func68.trans (congrArg some (by kernel_rfl))
 f160:=Tryd.func23.trans (congrArg some (by kernel_rfl))
 f197:=Tryd.func60.trans (congrArg some (by kernel_rfl))
 f217:=Tryd.func83.trans (congrArg some (by kernel_rfl))
 f224:=Tryd.func76.trans (congrArg some (by kernel_rfl))
 f225:=Tryd.func77.trans (congrArg some (by kernel_rfl))
 f227:=Tryd.func43.trans (congrArg some (by kernel_rfl))
 f228:=Tryd.func59.trans (congrArg some (by kernel_rfl))
 f231:=Tryd.func41.trans (congrArg some (by kernel_rfl))
 f232:=Tryd.func42.trans (congrArg some (by kernel_rfl))
 f233:=Tryd.func44.trans (congrArg some (by kernel_rfl))
 f234:=Tryd.func45.trans (congrArg some (by kernel_rfl))
 f235:=Tryd.func46.trans (congrArg some (by kernel_rfl))
 f236:=Tryd.func47.trans (congrArg some (by kernel_rfl))
 f260:=Tryd.func67.trans (congrArg some (by kernel_rfl))
 f266:=Tryd.func88.trans (congrArg some (by kernel_rfl))
 f271:=Tryd.func62.trans (congrArg some (by kernel_rfl))
 t0:=Tryd.underlying0
 a0:=Tryd.isAgg0
 z0:=Tryd.sizeOf0
 v0:=Tryd.zeroValue0
 t3:=Tryd.underlying3
 a3:=Tryd.isAgg3
 z3:=Tryd.sizeOf3
 v3:=Tryd.zeroValue3
 t4:=Tryd.underlying4
 a4:=Tryd.isAgg4
 z4:=Tryd.sizeOf4
 v4:=Tryd.zeroValue4
 t5:=Tryd.underlying5
 a5:=Tryd.isAgg5
 z5:=Tryd.sizeOf5
 v5:=Tryd.zeroValue5
 t9:=Tryd.underlying9
 a9:=Tryd.isAgg9
 z9:=Tryd.sizeOf9
 v9:=Tryd.zeroValue9
 t21:=Tryd.underlying21
 a21:=Tryd.isAgg21
 z21:=Tryd.sizeOf21
 v21:=Tryd.zeroValue21
 t46:=Tryd.underlying129
 a46:=Tryd.isAgg129
 z46:=Tryd.sizeOf129
 v46:=Tryd.zeroValue129
 t105:=Tryd.underlying104
 a105:=Tryd.isAgg104
 z105:=Tryd.sizeOf104
 v105:=Tryd.zeroValue104
 t116:=Tryd.underlying83
 a116:=Tryd.isAgg83
 z116:=Tryd.sizeOf83
 t117:=Tryd.underlying84
 a117:=Tryd.isAgg84
 z117:=Tryd.sizeOf84
 v117:=Tryd.zeroValue84
 t119:=Tryd.underlying130
 a119:=Tryd.isAgg130
 z119:=Tryd.sizeOf130
 t124:=Tryd.underlying87
 a124:=Tryd.isAgg87
 z124:=Tryd.sizeOf87
 v124:=Tryd.zeroValue87
 t138:=Tryd.underlying132
 a138:=Tryd.isAgg132
 z138:=Tryd.sizeOf132
 v138:=Tryd.zeroValue132
 t139:=Tryd.underlying133
 a139:=Tryd.isAgg133
 z139:=Tryd.sizeOf133
 v139:=Tryd.zeroValue133
 g3:=by kernel_rfl
 g4:=by kernel_rfl }
def Tryd.lays133_ren:Go.Shelf.Ren:=⟨fun | 169=>33 | n=>n,fun | 70=>65 | 9=>9 | 0=>0 | 72=>67 | 37=>38 | 127=>94 | 3=>3 | 5=>5 | n=>n,fun | n=>n⟩
theorem Tryd.lays133:Go.Proofs.Lays.n169 Tryd.prog Tryd.lays133_ren:={
 mixed:=by kernel_rfl
 f169:=Tryd.func33.trans (congrArg some (by kernel_rfl))
 t0:=Tryd.underlying0
 a0:=Tryd.isAgg0
 z0:=Tryd.sizeOf0
 v0:=Tryd.zeroValue0
 t3:=Tryd.underlying3
 a3:=Tryd.isAgg3
 z3:=Tryd.sizeOf3
 v3:=Tryd.zeroValue3
 t9:=Tryd.underlying9
 a9:=Tryd.isAgg9
 z9:=Tryd.sizeOf9
 v9:=Tryd.zeroValue9
 t37:=Tryd.underlying38
 a37:=Tryd.isAgg38
 z37:=Tryd.sizeOf38
 v37:=Tryd.zeroValue38
 t70:=Tryd.underlying65
 a70:=Tryd.isAgg65
 z70:=Tryd.sizeOf65
 v70:=Tryd.zeroValue65
 t72:=Tryd.underlying67
 a72:=Tryd.isAgg67
 z72:=Tryd.sizeOf67
 v72:=Tryd.zeroValue67
 t127:=Tryd.underlying94
 a127:=Tryd.isAgg94
 z127:=Tryd.sizeOf94
 v127:=Tryd.zeroValue94 }
def Tryd.lays172_ren:Go.Shelf.Ren:=⟨fun | 156=>72 | 165=>81 | 166=>31 | 169=>33 | 240=>52 | 241=>87 | 276=>63 | 277=>90 | n=>n,fun | 31=>22 | 9=>9 | 3=>3 | 4=>4 | 0=>0 | 20=>20 | 72=>67 | 76=>70 | 70=>65 | 37=>38 | 75=>69 | 127=>94 | 164=>107 | 5=>5 | 80=>73 | n=>n,fun | n=>n⟩
theorem Tryd.lays172:Go.Proofs.Lays.n156 Tryd.prog Tryd.lays172_ren:={
 mixed:=by kernel_rfl
 f156:=Tryd.func72.trans (congrArg some (by kernel_rfl))
 f165:=Tryd.func81.trans (congrArg some (by kernel_rfl))
 f166:=Tryd.func31.trans (congrArg some (by kernel_rfl))
 f169:=Tryd.func33.trans (congrArg some (by kernel_rfl))
 f240:=Tryd.func52.trans (congrArg some (by kernel_rfl))
 f241:=Tryd.func87.trans (congrArg some (by kernel_rfl))
 f276:=Tryd.func63.trans (congrArg some (by kernel_rfl))
 f277:=Tryd.func90.trans (congrArg some (by kernel_rfl))
 t0:=Tryd.underlying0
 a0:=Tryd.isAgg0
 z0:=Tryd.sizeOf0
 v0:=Tryd.zeroValue0
 t3:=Tryd.underlying3
 a3:=Tryd.isAgg3
 z3:=Tryd.sizeOf3
 v3:=Tryd.zeroValue3
 t4:=Tryd.underlying4
 a4:=Tryd.isAgg4
 z4:=Tryd.sizeOf4
 v4:=Tryd.zeroValue4
 t9:=Tryd.underlying9
 a9:=Tryd.isAgg9
 z9:=Tryd.sizeOf9
 v9:=Tryd.zeroValue9
 t20:=Tryd.underlying20
 a20:=Tryd.isAgg20
 z20:=Tryd.sizeOf20
 v20:=Tryd.zeroValue20
 t31:=Tryd.underlying22
 a31:=Tryd.isAgg22
 z31:=Tryd.sizeOf22
 v31:=Tryd.zeroValue22
 t37:=Tryd.underlying38
 a37:=Tryd.isAgg38
 z37:=Tryd.sizeOf38
 v37:=Tryd.zeroValue38
 t70:=Tryd.underlying65
 a70:=Tryd.isAgg65
 z70:=Tryd.sizeOf65
 v70:=Tryd.zeroValue65
 t72:=Tryd.underlying67
 a72:=Tryd.isAgg67
 z72:=Tryd.sizeOf67
 v72:=Tryd.zeroValue67
 t75:=Tryd.underlying69
 a75:=Tryd.isAgg69
 z75:=Tryd.sizeOf69
 v75:=Tryd.zeroValue69
 t76:=Tryd.underlying70
 a76:=Tryd.isAgg70
 z76:=Tryd.sizeOf70
 v76:=Tryd.zeroValue70
 t127:=Tryd.underlying94
 a127:=Tryd.isAgg94
 z127:=Tryd.sizeOf94
 v127:=Tryd.zeroValue94
 t164:=Tryd.underlying107
 a164:=Tryd.isAgg107
 z164:=Tryd.sizeOf107
 v164:=Tryd.zeroValue107 }
end Go.Proofs
namespace Go.Proofs.YtobfnefajpiakaaDoor
open Go Go.Abs Go.PE Go.Proofs
variable [EA]
section
variable [db:DB]
theorem ex_39:ExtOK Tryd.prog 39 (.isE 155 69):=isE_ok
theorem sp_23:SpecOK (db:=dbG) Tryd.prog 23 ⟨[.str,.str],[.str],fun x=>trimM x.1 x.2⟩:=spec_trim (db:=dbG) rfl Tryd.lays123 (by kernel_rfl) rfl
theorem ex_31:ExtOK Tryd.prog 31 (.wstr 67 5):=ext_wstr { Tryd.lays172 with } ⟨⟨by kernel_rfl,by kernel_rfl⟩,by kernel_rfl,Tryd.isAgg5,Tryd.sizeOf5,Tryd.zeroValue5,by kernel_rfl,by kernel_rfl,by kernel_rfl,by decide⟩ rfl rfl rfl Tryd.call31
theorem ex_33:ExtOK Tryd.prog 33 (.stri 67 5):=ext_stri Tryd.lays133 ⟨⟨by kernel_rfl,by kernel_rfl⟩,by kernel_rfl,Tryd.isAgg5,Tryd.sizeOf5,Tryd.zeroValue5,by kernel_rfl,by kernel_rfl,by kernel_rfl,by decide⟩ rfl rfl rfl Tryd.call33
theorem sp_72:SpecOK (db:=dbG) Tryd.prog 72 ⟨[.list .str,.str],[.str],fun x=>joinM x.1 x.2⟩:=spec_join (db:=dbG) rfl Tryd.lays172 ⟨⟨by kernel_rfl,by kernel_rfl⟩,by kernel_rfl,Tryd.isAgg5,Tryd.sizeOf5,Tryd.zeroValue5,by kernel_rfl,by kernel_rfl,by kernel_rfl,by decide⟩ rfl
noncomputable def tabsT:Tabs:={ tabs0 with ex:=[(39,.isE 155 69),(31,.wstr 67 5),(33,.stri 67 5)] }
theorem tabsTOK:TabOK Tryd.prog tabsT:=⟨tabs0OK.ty,tabs0OK.fn,tabs0OK.sp,tabs0OK.en,tabs0OK.mixed,tabs0OK.so,tabs0OK.eqs,tabs0OK.so1,tabs0OK.mps,tabs0OK.ow,tabs0OK.bt,(by
 show ∀ f s,lk ([(39,.isE 155 69),(31,.wstr 67 5),(33,.stri 67 5)]:List (FuncId×Go.PE.Ext)) f=some s→ExtOK Tryd.prog f s
 refine lk_all (p:=fun f s=>ExtOK Tryd.prog f s) ex_39 ?_
 refine lk_all (p:=fun f s=>ExtOK Tryd.prog f s) ex_31 ?_
 refine lk_all (p:=fun f s=>ExtOK Tryd.prog f s) ex_33 ?_
 exact lk_none),tabs0OK.pp⟩
end
instance dbJ:DB:=dbG
noncomputable def tabs:Tabs:={ tabs0 with so1:=[],sp:=[(23,⟨[.str,.str],[.str],fun x=>trimM x.1 x.2⟩),(72,⟨[.list .str,.str],[.str],fun x=>joinM x.1 x.2⟩)],ex:=[(39,.isE 155 69),(31,.wstr 67 5),(33,.stri 67 5)] }
theorem tabsOK:TabOK Tryd.prog tabs:=⟨tabs0OK.ty,tabs0OK.fn,(by
 show ∀ f s,lk ([(23,⟨[.str,.str],[.str],fun x=>trimM x.1 x.2⟩),(72,⟨[.list .str,.str],[.str],fun x=>joinM x.1 x.2⟩)]:List (FuncId×Go.PE.Spec)) f=some s→SpecOK Tryd.prog f s
 refine lk_all (p:=fun f s=>SpecOK Tryd.prog f s) sp_23 ?_
 refine lk_all (p:=fun f s=>SpecOK Tryd.prog f s) sp_72 ?_
 exact lk_none),(by
 show ∀ f s,lk ([(23,⟨[.str,.str],[.str],fun x=>trimM x.1 x.2⟩),(72,⟨[.list .str,.str],[.str],fun x=>joinM x.1 x.2⟩)]:List (FuncId×Go.PE.Spec)) f=some s→∀ (args:Array Value) (w:World),(callFunc f args).run Tryd.prog w=.ok (.enter f args) w
 refine lk_all (p:=fun f s=>∀ (args:Array Value) (w:World),(callFunc f args).run Tryd.prog w=.ok (.enter f args) w) Tryd.call23 ?_
 refine lk_all (p:=fun f s=>∀ (args:Array Value) (w:World),(callFunc f args).run Tryd.prog w=.ok (.enter f args) w) Tryd.call72 ?_
 exact lk_none),tabs0OK.mixed,tabs0OK.so,tabs0OK.eqs,(fun s hs=>by
 cases hs),tabs0OK.mps,tabs0OK.ow,tabs0OK.bt,(by
 show ∀ f s,lk ([(39,.isE 155 69),(31,.wstr 67 5),(33,.stri 67 5)]:List (FuncId×Go.PE.Ext)) f=some s→ExtOK Tryd.prog f s
 refine lk_all (p:=fun f s=>ExtOK Tryd.prog f s) ex_39 ?_
 refine lk_all (p:=fun f s=>ExtOK Tryd.prog f s) ex_31 ?_
 refine lk_all (p:=fun f s=>ExtOK Tryd.prog f s) ex_33 ?_
 exact lk_none),tabs0OK.pp⟩
end Go.Proofs.YtobfnefajpiakaaDoor
namespace Go.PE
open Go Go.RowKit Go.Abs
variable [db:DB] [ea:EA]

def noLp:List (Nat×SO)→Bool
 | []=>true
 | (_,.lp _)::_=>false
 | _::r=>noLp r
theorem noLp_dec {H H':PH}:∀ {l:List (Nat×SO)} {L:List TV},noLp l=true→objDec H l L=objDec H' l L
 | [],_,_=>rfl
 | (i,.lp _)::r,L,h=>by cases h
 | (i,.box _)::r,L,h | (i,.arr _)::r,L,h | (i,.frz _)::r,L,h | (i,.tab _ _)::r,L,h | (i,.flat _ _)::r,L,h | (i,.cel _ _)::r,L,h | (i,.bld _ _)::r,L,h | (i,.opt _)::r,L,h | (i,.us)::r,L,h | (i,.gone)::r,L,h=>by
  have ih:=fun L=>noLp_dec (H:=H) (H':=H') (l:=r) (L:=L) h
  simp only [objDec,SO.dec,ih]
def ent (rs:List RV) (h:PH) (n0:Nat) (G:Cells) (w0:World):PS:=⟨(numL 0 rs).map fun x=>(x.1,.r x.2),h++[(0,.frm G w0)],n0⟩
noncomputable def outP (Γ:Tabs) (rv:List ResultVar) (k:Skel) (st0 st:PS):Option (Tup k.tys):=match resR Γ st rv with
 | some rs=>k.encT st0 ⟨(1000000,resPV rs)::st0.env,st.hp,st.nx⟩
 | none=>none
def frc:List Nat→PH→Option Unit
 | [],_=>some ()
 | i::r,h=>match lk h i with
  | some (.opt b l)=>(nonM b).bind fun _=>frc r ((i,.box l)::h)
  | _=>none
theorem frc_ok:∀ {fo:List Nat} {h:PH} {u:Unit},frc fo h=some u→∀ q,lk (bxs fo h) q=lk h q∨∃ l,lk h q=some (.opt false l)∧lk (bxs fo h) q=some (.box l)
 | [],_,_,hf,q=>.inl rfl
 | i::r,h,u,hf,q=>by
  unfold frc at hf
  unfold bxs
  split at hf
  ·rename_i b l hl
   obtain ⟨_,hb,hf⟩:=Option.bind_eq_some_iff.1 hf
   have hb:=nonM_some hb
   subst hb
   rw [hl]
   simp only
   rcases frc_ok hf q with h1 | ⟨l1,h1,h2⟩
   ·by_cases e:i=q
    ·subst e
     rw [lk_same] at h1
     exact .inr ⟨l,hl,h1⟩
    ·rw [lk_ne _ _ e] at h1;exact .inl h1
   ·by_cases e:i=q
    ·subst e
     rw [lk_same] at h1
     cases h1
    ·rw [lk_ne _ _ e] at h1
     exact .inr ⟨l1,h1,h2⟩
  ·cases hf
noncomputable def fnP (F:OpF) (n:Nat) (Γ:Tabs) (own:List Nat) (an:Ann) (fn:Func) (code:Code) (a:List SR) (o:List SO) (k:Skel) (fo:List Nat) (G:Cells) (w0:World) (x:Tup (SRs.tys a++newTys o)):Option (Tup k.tys):=match stOf a o x with
 | some (rs,h)=>(frc fo h).bind fun _=>pc F n { Γ with own:=own } fn.ntmps an code (Tup k.tys) (ent rs (bxs fo h) (o.length+1) G w0) fun ex st=>match ex with
  | .exit _=>none
  | .go _=>none
  | .pan _=>none
  | _=>outP Γ fn.results.toList k (ent rs (bxs fo h) (o.length+1) G w0) st
 | none=>none
def skP (k:Skel):Bool:=callSk (some 1000000) k&&noLp k.objs
theorem aft_dec {s:PSpec} (hk:skP s.k=true) {r:Tup s.k.tys} {pv:PV} {δ:PH} (h:s.aft r=some (pv,δ)) (st0:PS) (hn:st0.nx=s.o.length+1) :
  s.k.dec st0 (Tup.toL _ r)=some ⟨(1000000,pv)::st0.env,δ++st0.hp,s.o.length+1+s.k.news.length⟩:=by
 unfold skP at hk
 simp only [bA] at hk
 obtain ⟨hk1,hk2⟩:=callSk_ok hk.1
 unfold PSpec.aft at h
 unfold Skel.dec
 split at h
 ·rename_i i pv' L he
  split at h
  ·rename_i h1 L1 hd1
   split at h
   ·rename_i h2 hd2
    cases h
    rcases hk2 with ⟨hd,_⟩ | ⟨j,sp,hd,hs⟩
    ·cases hd
    ·cases hd
     have hi:i=1000000:=by
      rw [hs] at he
      simp only [slotDec] at he
      split at he
      ·cases he;rfl
      ·cases he
     subst hi
     rw [he]
     simp only [noLp_dec (H:=st0.hp) (H':=[]) hk.2,hd1,hn,hd2,hk1,List.map_nil,List.append_nil]
     rfl
   ·cases h
  ·cases h
 ·cases h
theorem outP_ok {P:Program} {Γ:Tabs} (hΓ:TabOK P Γ) {rv:List ResultVar} {s:PSpec} (hk:skP s.k=true) {rs:List RV} {h:PH} {G:Cells} {w0:World} {r:Tup s.k.tys} {pv:PV} {δ:PH} (ha:s.aft r=some (pv,δ)) {st:PS} (ho:outP Γ rv s.k (ent rs h (s.o.length+1) G w0) st=some r)
  {B:Nat} {S:Cells} {w:World} {η:Eta} (hi:HInv B η (ent rs h (s.o.length+1) G w0).hp S w) (hl:∀ i,s.o.length+1≤i→η i=none) :
  ∃ res,resR Γ st rv=some res∧∀ S' w' η' v,HInv B η' st.hp S' w'→(∀ i,st.nx≤i→η' i=none)→Pre η η'→(∃ d,st.hp=d++(ent rs h (s.o.length+1) G w0).hp)→Grow B S w S' w'→PM S' w' η' (resPV res) v →
   ∃ S2 η2,Grow B S w S2 w'∧Pre η η2∧(∀ i,s.o.length+1+s.k.news.length≤i→η2 i=none)∧HInv B η2 (δ++(h++[(0,.frm G w0)])) S2 w'∧PM S2 w' η2 pv v:=by
 unfold outP at ho
 split at ho
 ·rename_i res hres
  refine ⟨res,hres,fun S' w' η' v i1 l1 hp hh gr hm=>?_⟩
  have hd:=aft_dec hk ha (ent rs h (s.o.length+1) G w0) rfl
  obtain ⟨S2,η2,y,q1,q2,q3,q4,q5,q6,⟨L',q7⟩,q8,q9,q10,_,_⟩:=Skel.ok (encT_some ho) hd hi hl i1 l1 hp ⟨[(1000000,resPV res)],rfl⟩ hh gr
  refine ⟨S2,η2,gr.trans q4,q3,q2,q1,?_⟩
  unfold skP at hk
  simp only [bA] at hk
  obtain ⟨hk1,hk2⟩:=callSk_ok hk.1
  rw [hk1] at q6
  simp only [List.map_nil,List.append_nil] at q6
  rcases hk2 with ⟨hd,_⟩ | ⟨j,sp,hd,hs⟩
  ·cases hd
  ·cases hd
   rw [hs] at q7
   simp only [slotDec] at q7
   split at q7
   ·rename_i pv2 L2 hsp
    cases q7
    simp only [List.cons_append,List.nil_append] at q6
    cases q6
    obtain ⟨pv0,g1,g2⟩:=q10 1000000 _ (lk_same _ _ _)
    simp only at g1
    rw [lk_same] at g1
    cases g1
    exact g2 v hm
   ·cases q7
 ·cases ho
theorem fnP_ok {P:Program} {Γ:Tabs} (hΓ:TabOK P Γ) {F:OpF} (hS:F.Sound) (hN:F.Nice) {f:FuncId} {fn:Func} {code:Code} {own:List Nat} {an:Ann} {n:Nat} {s:PSpec}
  (hf:lk Γ.fn f=some fn) (hb:fn.body=some code) (hn:Nat.ble s.a.length fn.ntmps=true) (hk:skP s.k=true) (hm:∀ G w0 x,fnP F n Γ own an fn code s.a s.o s.k s.fo G w0 x=s.m x):PSpecOK P f s:=by
 refine ⟨(hΓ.fn f fn hf).2,fun x r hr rs h pv δ hst haft G w0 B S w η vs hi hl hv=>?_⟩
 have hr:fnP F n Γ own an fn code s.a s.o s.k s.fo G w0 x=some r:=(hm G w0 x).trans hr
 unfold fnP at hr
 have hst':stOf s.a s.o x=some (rs,h):=hst
 rw [hst'] at hr
 simp only at hr
 obtain ⟨_,hfr,hr⟩:=Option.bind_eq_some_iff.1 hr
 have hfo:=frc_ok hfr
 have hi:HInv B η (bxs s.fo h++[(0,.frm G w0)]) S w:=hi.as fun i po hlk=>by
  rw [lk_app] at hlk
  rcases hfo i with e | ⟨l,e1,e2⟩
  ·rw [e,← lk_app] at hlk
   exact ⟨po,hlk,fun _ h=>h⟩
  ·rw [e2] at hlk
   cases hlk
   exact ⟨.opt false l,by rw [lk_app,e1],fun _ h=>h⟩
 have hΓ':TabOK P { Γ with own:=own }:=⟨hΓ.ty,hΓ.fn,hΓ.sp,hΓ.en,hΓ.mixed,hΓ.so,hΓ.eqs,hΓ.so1,hΓ.mps,hΓ.ow,hΓ.bt,hΓ.ex,hΓ.pp⟩
 have hlen:rs.length=s.a.length:=by
  unfold stOf at hst'
  split at hst'
  ·rename_i hd
   split at hst'
   ·cases hst';exact decL_len hd
   ·cases hst'
  ·cases hst'
 refine callsIn_wide.1 (body_ok (sound hS hN n).1 hΓ hΓ' hf hb hv (by rw [hlen];exact nL hn) hi hl hr fun ex st' hk'=>?_)
 have key:outP Γ fn.results.toList s.k (ent rs (bxs s.fo h) (s.o.length+1) G w0) st'=some r→∃ res,resR Γ st' fn.results.toList=some res∧∀ S' w' η' v,HInv B η' st'.hp S' w'→(∀ i,st'.nx≤i→η' i=none)→Pre η η'→(∃ d,st'.hp=d++(bxs s.fo h++[(0,.frm G w0)]))→Grow B S w S' w'→PM S' w' η' (resPV res) v →
   ∃ v_1 S2 η2,Ending.returned v=.returned v_1∧Grow B S w S2 w'∧Pre η η2∧(∀ i,s.o.length+1+s.k.news.length≤i→η2 i=none)∧HInv B η2 (δ++(bxs s.fo h++[(0,.frm G w0)])) S2 w'∧PM S2 w' η2 pv v_1:=fun ho=>by
  obtain ⟨res,h1,h2⟩:=outP_ok hΓ hk haft ho hi hl
  refine ⟨res,h1,fun S' w' η' v i1 l1 hp hh gr hm=>?_⟩
  obtain ⟨S2,η2,g1,g2,g3,g4,g5⟩:=h2 S' w' η' v i1 l1 hp hh gr hm
  exact ⟨v,S2,η2,rfl,g1,g2,g3,g4,g5⟩
 cases ex with
 | norm=>exact ⟨⟨fun i hi=>(by cases hi),fun l hl=>(by cases hl),fun T hT=>(by cases hT)⟩,key hk'⟩
 | ret=>exact ⟨⟨fun i hi=>(by cases hi),fun l hl=>(by cases hl),fun T hT=>(by cases hT)⟩,key hk'⟩
 | exit i=>cases hk'
 | go l=>cases hk'
 | pan T=>cases hk'
def Tabs.addP (Γ:Tabs) (f:FuncId) (s:PSpec):Tabs:={ Γ with pp:=(f,s)::Γ.pp }
theorem TabOK.addP {P:Program} {Γ:Tabs} (h:TabOK P Γ) {f:FuncId} {s:PSpec} (hs:PSpecOK P f s):TabOK P (Γ.addP f s) :=
 ⟨h.ty,h.fn,h.sp,h.en,h.mixed,h.so,h.eqs,h.so1,h.mps,h.ow,h.bt,h.ex,fun g s' hl=>by
  unfold Tabs.addP at hl
  by_cases hg:f=g
  ·subst hg;rw [lk_same] at hl;cases hl;exact hs
  ·rw [lk_ne _ _ hg] at hl;exact h.pp g s' hl⟩

theorem leaves_tl {P:Program} {rd:Option Nat} {fn:Func} {tmps:Array Value} {R:Ending→World→Prop} {base:Nat} {u:FrameMode} {tl:List Deferred} (hu:u≠.run):∀ (bs:List Nat) (w:World),bs.Nodup→(∀ b∈bs,base≤b∧w.heap[b]? = some (.deferred (some []))) →
  (∀ w2,Took base w w2→LeavesInM (FR rd) 0 P fn tmps R tl u w2)→LeavesInM (FR rd) 0 P fn tmps R (bs.map mark++tl) u w
 | [],w,_,_,h=>h w (.refl _ _)
 | b::bs,w,hn,hb,h=>by
  obtain ⟨h1,h2⟩:=hb b (by simp)
  have hn':=List.nodup_cons.1 hn
  refine ⟨hu,.inl ⟨b,_,rfl,run_takeDeferred h2,leaves_tl hu bs _ hn'.2 (fun c hc=>?_) fun w2 t=>h w2 (t.put h1 h2)⟩⟩
  obtain ⟨h3,h4⟩:=hb c (by simp [hc])
  exact ⟨h3,by rw [World.putObj_heap_other (k:=c) (r:=b) (fun h=>hn'.1 (by rw [← h];exact hc))];exact h4⟩

theorem opsIn_value {P:Program} {ops:Array Oper} {Q:Exit→Act→World→Prop} {i:Nat} {l:List Nat} {a:Act} {w w':World} {o:Oper} {v:Value} (ho:ops[i]? = some o) (hg:o.guard=none) (hr:(execOp a.eval o).run P w=.ok (.value v) w') (h:wpOpsIn (FR none) 0 P ops Q l (a.put o.dst v) w'):wpOpsIn (FR none) 0 P ops Q (i::l) a w:=by
 unfold wpOpsIn
 simp only [ho]
 have:Region.wanted o (yielded ops a.tmps)=true:=by unfold Region.wanted;rw [hg]
 rw [if_pos this]
 refine ⟨fun f _=>FR.fn none f,?_⟩
 show o.uponIn (FR none) 0 P a _ Q ((execOp a.eval o).run P w)
 rw [hr];exact h
theorem opsIn_defer {P:Program} {ops:Array Oper} {Q:Exit→Act→World→Prop} {i:Nat} {l:List Nat} {a:Act} {w w':World} {o:Oper} {d:Deferred} (ho:ops[i]? = some o) (hg:o.guard=none) (hr:(execOp a.eval o).run P w=.ok (.defer d) w') (h:wpOpsIn (FR none) 0 P ops Q l ({ a with defers:=d::a.defers }.put o.dst undef) w'):wpOpsIn (FR none) 0 P ops Q (i::l) a w:=by
 unfold wpOpsIn
 simp only [ho]
 have:Region.wanted o (yielded ops a.tmps)=true:=by unfold Region.wanted;rw [hg]
 rw [if_pos this]
 refine ⟨fun f _=>FR.fn none f,?_⟩
 show o.uponIn (FR none) 0 P a _ Q ((execOp a.eval o).run P w)
 rw [hr];exact h
theorem opsS_value {P:Program} {ops:Array Oper} {Q:Exit→Act→List Frame→World→Prop} {i:Nat} {l:List Nat} {a:Act} {cs:List Frame} {w w':World} {o:Oper} {v:Value} (ho:ops[i]? = some o) (hg:o.guard=none) (hr:(execOp a.eval o).run P w=.ok (.value v) w') (h:wpOpsSIn (FR none) 0 P ops Q l (a.put o.dst v) cs w'):wpOpsSIn (FR none) 0 P ops Q (i::l) a cs w:=by
 unfold wpOpsSIn
 simp only [ho]
 have:Region.wanted o (yielded ops a.tmps)=true:=by unfold Region.wanted;rw [hg]
 refine ⟨fun f _=>FR.fn none f,?_⟩
 rw [if_pos this,hr];exact h
theorem opsS_recover {P:Program} {ops:Array Oper} {Q:Exit→Act→List Frame→World→Prop} {i:Nat} {l:List Nat} {a:Act} {cs cs':List Frame} {w w':World} {o:Oper} {v:Value} (ho:ops[i]? = some o) (hg:o.guard=none) (hr:(execOp a.eval o).run P w=.ok .recover w')
  (hrec:match recoverD cs with | some (x,cs2)=>x=v∧cs2=cs' | none=>.nilIface=v∧cs'=cs) (h:wpOpsSIn (FR none) 0 P ops Q l (a.put o.dst v) cs' w'):wpOpsSIn (FR none) 0 P ops Q (i::l) a cs w:=by
 unfold wpOpsSIn
 simp only [ho]
 have:Region.wanted o (yielded ops a.tmps)=true:=by unfold Region.wanted;rw [hg]
 refine ⟨fun f _=>FR.fn none f,?_⟩
 rw [if_pos this,hr]
 show match recoverD cs with
     | some (v,cs')=>wpOpsSIn (FR none) 0 P ops Q l (a.put o.dst v) cs' w'
     | none=>wpOpsSIn (FR none) 0 P ops Q l (a.put o.dst .nilIface) cs w'
 split at hrec
 ·obtain ⟨rfl,rfl⟩:=hrec;exact h
 ·obtain ⟨rfl,rfl⟩:=hrec;exact h

noncomputable def clP (F:OpF) (n:Nat) (Γ:Tabs) (an:Ann) (fn:Func) (cl:Code) (ncl i2 i3:Nat) (k:Skel) (st0:PS) (v:CV) (b:Bool) (st1:PS):Option (Tup k.tys) :=
 pc F n { Γ with own:=[3000000] } ncl an cl (Tup k.tys) ⟨[(3,.c (.d .bool b)),(2,.c v),(1,.c (.p i3 0)),(0,.c (.p i2 0))],st1.hp,st1.nx⟩ fun ex st=>match ex with
  | .exit _=>none
  | .go _=>none
  | .pan _=>none
  | _=>outP Γ fn.results.toList k st0 ⟨st1.env,st.hp,st.nx⟩
noncomputable def fnT (F:OpF) (n:Nat) (Γ:Tabs) (own:List Nat) (a0 a1 aN aP:Ann) (fn:Func) (c0 rest cl:Code) (ncl s2 s3 sf Te:Nat) (a:List SR) (o:List SO) (k:Skel) (fo:List Nat) (G:Cells) (w0:World) (x:Tup (SRs.tys a++newTys o)):Option (Tup k.tys):=match stOf a o x with
 | some (rs,h)=>(frc fo h).bind fun _=>pc F n { Γ with own:=[3000000] } fn.ntmps a0 c0 (Tup k.tys) (ent rs (bxs fo h) (o.length+1) G w0) fun ex st=>match ex with
  | .norm=>match lk st.env s2,lk st.env s3,lk st.env sf with
   | some (.r (.c (.p i2 0))),some (.r (.c (.p i3 0))),none =>
    pc F n { Γ with own:=own } fn.ntmps a1 rest (Tup k.tys) st fun ex1 st1=>match ex1 with
     | .exit _=>none
     | .go _=>none
     | .pan T=>match Nat.beq T (1000000+Te) with
      | true=>clP F n Γ aP fn cl ncl i2 i3 k (ent rs (bxs fo h) (o.length+1) G w0) (.i (1000000+Te)) true st1
      | false=>none
     | _=>clP F n Γ aN fn cl ncl i2 i3 k (ent rs (bxs fo h) (o.length+1) G w0) (.l .nilI) false st1
   | _,_,_=>none
  | _=>none
 | none=>none
theorem payV_err (T:TypeId):payV (1000000+T)=.iface T (.pointer (some ea.a)):=by
 unfold payV
 have:Nat.blt (1000000+T) 1000000=false:=by
  cases h:Nat.blt (1000000+T) 1000000 with
  | false=>rfl
  | true=>have:=nL h;omega
 rw [this]
 simp
def PostP (s:PSpec) (B:Nat) (S0:Cells) (w0:World) (η0:Eta) (H1:PH) (pv:PV) (en:Ending) (w':World):Prop:=∃ v S' η',en=.returned v∧Grow B S0 w0 S' w'∧Pre η0 η'∧(∀ i,s.o.length+1+s.k.news.length≤i→η' i=none)∧HInv B η' H1 S' w'∧PM S' w' η' pv v
theorem clP_ok {P:Program} {Γ:Tabs} (hΓ:TabOK P Γ) {F:OpF} (hS:F.Sound) (hN:F.Nice) {fn:Func} {g:FuncId} {fg:Func} {cl:Code} {n:Nat} {an:Ann} {i0 i2 i3 xt It Te fe:Nat} {o1 o2 o3 o4 o5 o6 o7:Oper} {s:PSpec} {v:CV} {bb:Bool} {u u':FrameMode} {st1:PS} {rs:List RV} {h:PH} {G:Cells} {wf:World} {pv:PV} {δ:PH}
  (hg:lk Γ.fn g=some fg) (hbg:fg.body=some (.seq (.region i0 #[o1,o2,o3,o4,o5,o6,o7] false) cl)) (hrg:fg.results=#[]) (hq1:o1.op=.call { callee:=.builtin .recover,args:=#[],argTypes:=#[] }) (hq2:o2.op=.typeAssert (.tmp 5) xt It true) (hq3:o3.op=.move (.tmp 6)) (hq4:o4.op=.extract (.tmp 4) 0) (hq5:o5.op=.extract (.tmp 4) 1) (hq6:o6.op=.assign (.tmp 7)) (hq7:o7.op=.assign (.tmp 8))
  (hd1:o1.dst=some 5) (hd2:o2.dst=some 6) (hd3:o3.dst=some 4) (hd4:o4.dst=some 7) (hd5:o5.dst=some 8) (hd6:o6.dst=some 2) (hd7:o7.dst=some 3) (hu1:o1.guard=none) (hu2:o2.guard=none) (hu3:o3.guard=none) (hu4:o4.guard=none) (hu5:o5.guard=none) (hu6:o6.guard=none) (hu7:o7.guard=none)
  (hnt:Nat.ble 9 fg.ntmps=true) (hex:lk Γ.ex fe=some (.isE Te It))
  (hv:(v=.l .nilI∧bb=false∧u=.returning∧u'=.returning)∨(v=.i (1000000+Te)∧bb=true∧u=.panicking [{ v:=payV (1000000+Te),recovered:=false }]∧u'=.panicking [{ v:=payV (1000000+Te),recovered:=true }]))
  (hsk:skP s.k=true) {r:Tup s.k.tys} (ha:s.aft r=some (pv,δ)) (hcl:clP F n Γ an fn cl fg.ntmps i2 i3 s.k (ent rs h (s.o.length+1) G wf) v bb st1=some r)
  {B:Nat} {S0:Cells} {w0:World} {η0:Eta} (hi0:HInv B η0 (ent rs h (s.o.length+1) G wf).hp S0 w0) (hl0:∀ i,s.o.length+1≤i→η0 i=none)
  {S:Cells} {w:World} {η:Eta} {tmps:Array Value} {b2 b3:Nat} (hi:HInv B η st1.hp S w) (hl:∀ i,st1.nx≤i→η i=none) (he:EnvM S w η st1.env tmps) (hp2:η i2=some (.pointer (some ⟨b2,0,none⟩))) (hp3:η i3=some (.pointer (some ⟨b3,0,none⟩))) (hgr:Grow B S0 w0 S w) (hpre:Pre η0 η) (hsuf:∃ d,st1.hp=d++(ent rs h (s.o.length+1) G wf).hp) :
  CallsDIn (FR none) 0 P g #[.pointer (some ⟨b2,0,none⟩),.pointer (some ⟨b3,0,none⟩)] u w fun
   | .returned _,u',w'=>LeavesInM (FR none) 0 P fn tmps (PostP s B S0 w0 η0 (δ++(h++[(0,.frm G wf)])) pv) [] (settle u') w'
   | .panicked chain,u',w'=>LeavesInM (FR none) 0 P fn tmps (PostP s B S0 w0 η0 (δ++(h++[(0,.frm G wf)])) pv) [] (raised u' chain) w'
   | .outgrown,_,w'=>PostP s B S0 w0 η0 (δ++(h++[(0,.frm G wf)])) pv .outgrown w':=by
 have hnt:9≤fg.ntmps:=nL hnt
 refine callsDIn_of_wpSIn (hΓ.fn g fg hg).1 hbg (FR.fn none g) fun c₀ cs hu=>?_
 obtain ⟨val,hval,hta,hrec⟩:∃ val:Value,(∀ S w η,CM S w η v val)∧(∀ w,(Instr.typeAssert val xt It true).run P w=.ok (.tuple #[val,.bool bb]) w)∧(match recoverD (c₀::cs) with | some (x,cs')=>x=val∧cs'={ c₀ with mode:=u' }::cs | none=>.nilIface=val∧{ c₀ with mode:=u' }::cs=c₀::cs):=by
  rcases hv with ⟨rfl,rfl,rfl,rfl⟩ | ⟨rfl,rfl,rfl,rfl⟩
  ·refine ⟨.nilIface,fun S w η=>rfl,(hΓ.ex _ _ hex).2.2.2 xt,?_⟩
   have:recoverD (c₀::cs)=none:=by simp [recoverD,hu]
   rw [this]
   exact ⟨rfl,by rw [← hu]⟩
  ·refine ⟨payV (1000000+Te),fun S w η=>rfl,fun w=>by rw [payV_err];exact (hΓ.ex _ _ hex).2.2.1 _ xt w,?_⟩
   have:recoverD (c₀::cs)=some (payV (1000000+Te),{ c₀ with mode:=.panicking [{ v:=payV (1000000+Te),recovered:=true }] }::cs):=by simp [recoverD,hu]
   rw [this]
   exact ⟨rfl,rfl⟩
 have hset:settle u'=.returning:=by
  rcases hv with ⟨_,_,_,rfl⟩ | ⟨_,_,_,rfl⟩
  ·rfl
  ·rfl
 refine wpSIn_seq (wpSIn_region ?_)
 have hA:∀ a:Act,a.defers=[]→a.tmps.size=fg.ntmps→a.tmps.getD 0 undef=.pointer (some ⟨b2,0,none⟩)→a.tmps.getD 1 undef=.pointer (some ⟨b3,0,none⟩)→a.tmps.getD 2 undef=val→a.tmps.getD 3 undef=.bool bb →
   cl.wpSIn (FR none) 0 P (bodyPostS P fg c₀ cs fun
   | .returned _,u',w'=>LeavesInM (FR none) 0 P fn tmps (PostP s B S0 w0 η0 (δ++(h++[(0,.frm G wf)])) pv) [] (settle u') w'
   | .panicked chain,u',w'=>LeavesInM (FR none) 0 P fn tmps (PostP s B S0 w0 η0 (δ++(h++[(0,.frm G wf)])) pv) [] (raised u' chain) w'
   | .outgrown,_,w'=>PostP s B S0 w0 η0 (δ++(h++[(0,.frm G wf)])) pv .outgrown w') a ({ c₀ with mode:=u' }::cs) w:=by
  intro a had hsz h0 h1 h2 h3
  refine wpSIn_of_wpIn rfl ?_
  unfold clP at hcl
  have hΓ':TabOK P { Γ with own:=[3000000] }:=⟨hΓ.ty,hΓ.fn,hΓ.sp,hΓ.en,hΓ.mixed,hΓ.so,hΓ.eqs,hΓ.so1,hΓ.mps,hΓ.ow,hΓ.bt,hΓ.ex,hΓ.pp⟩
  refine (sound hS hN n).1 _ _ _ _ _ _ _ _ hcl P hΓ' none B ⟨w.heap.size,none,[],true⟩ a w S η ⟨⟨[],fun _=>rfl,had,List.nodup_nil,fun b hb=>by cases hb⟩,hsz,fun t pv ht=>?_,hi,hl,noGE_wf rfl,(fun l hl=>by cases hl),hi.base,nR _⟩ rfl (fun _=>rfl) _ fun ex st' a' w' S' η' g' stp hk=>?_
  ·unfold lk at ht
   split at ht
   ·rename_i hb
    cases ht
    rw [← nB hb,h3]
    exact PM.bool.2 rfl
   ·unfold lk at ht
    split at ht
    ·rename_i hb
     cases ht
     rw [← nB hb,h2]
     exact hval S w η
    ·unfold lk at ht
     split at ht
     ·rename_i hb
      cases ht
      rw [← nB hb,h1]
      exact ⟨b3,hp3,rfl⟩
     ·unfold lk at ht
      split at ht
      ·rename_i hb
       cases ht
       rw [← nB hb,h0]
       exact ⟨b2,hp2,rfl⟩
      ·cases ht
  ·obtain ⟨bs,hnb,hd,_,_⟩:=g'.defers
   rw [hnb rfl] at hd
   have key:outP Γ fn.results.toList s.k (ent rs h (s.o.length+1) G wf) ⟨st1.env,st'.hp,st'.nx⟩=some r→a'.defers=[]∧∃ u'',({ c₀ with mode:=u' }::cs:List Frame)={ c₀ with mode:=u'' }::cs∧∃ v,(results fg a'.tmps).run P w'=.ok v w'∧LeavesInM (FR none) 0 P fn tmps (PostP s B S0 w0 η0 (δ++(h++[(0,.frm G wf)])) pv) [] (settle u'') w':=by
    intro hk
    refine ⟨hd,u',rfl,.tuple #[],?_,?_⟩
    ·unfold results
     rw [hrg]
     simp
    ·rw [hset]
     obtain ⟨res,hres,hend⟩:=outP_ok hΓ hsk ha hk hi0 hl0
     have he':EnvM S' w' η' st1.env tmps:=he.mono stp.grow.keep stp.pre
     obtain ⟨us,hv1,hv2⟩:=resR_sound (st:=⟨st1.env,st'.hp,st'.nx⟩) (a:={ tmps:=tmps,defers:=[] }) hΓ he' g'.inv hres
     obtain ⟨v,hr1,hr2⟩:=results_ok hv1 hv2
     obtain ⟨S2,η2,q1,q2,q3,q4,q5⟩:=hend S' w' η' v g'.inv g'.len (hpre.trans stp.pre) (sfx_trans hsuf stp.hp) (hgr.trans stp.grow) hr2
     exact ⟨v,hr1,v,S2,η2,rfl,q1,q2,q3,q4,q5⟩
   cases ex with
   | norm=>exact key hk
   | ret=>exact key hk
   | exit i=>cases hk
   | go l=>cases hk
   | pan T=>cases hk
 have hx1:∀ (ρ:Operand→Value) w,(execOp ρ o1).run P w=.ok .recover w:=fun ρ w=>by simp [execOp,hq1,resolve,invoke,builtin]
 have hsize:((#[Value.pointer (some ⟨b2,0,none⟩),.pointer (some ⟨b3,0,none⟩)]:Array Value)++Array.replicate (fg.ntmps-2) undef).size=fg.ntmps:=by simp;omega
 show wpOpsSIn (FR none) 0 P #[o1,o2,o3,o4,o5,o6,o7] _ [0,1,2,3,4,5,6] { tmps:=#[Value.pointer (some ⟨b2,0,none⟩),.pointer (some ⟨b3,0,none⟩)]++Array.replicate (fg.ntmps-2) undef,defers:=[] } (c₀::cs) w
 generalize htm:(#[Value.pointer (some ⟨b2,0,none⟩),.pointer (some ⟨b3,0,none⟩)]:Array Value)++Array.replicate (fg.ntmps-2) undef=tm at *
 have t0:tm.getD 0 undef=.pointer (some ⟨b2,0,none⟩):=by rw [← htm];simp [aD,Array.getElem?_append]
 have t1:tm.getD 1 undef=.pointer (some ⟨b3,0,none⟩):=by rw [← htm];simp [aD,Array.getElem?_append]
 have stp:∀ (A:Array Value) (d:Nat) (v:Value),A.size=fg.ntmps→d<9→∃ A',A'=A.setIfInBounds d v∧A'.size=fg.ntmps∧A'.getD d undef=v∧∀ k,d≠k→A'.getD k undef=A.getD k undef:=fun A d v hA hd =>
  ⟨_,rfl,by rw [Array.size_setIfInBounds];exact hA,by simp [aD,Array.getElem?_setIfInBounds,show d<A.size by omega],fun k hk=>by simp [aD,Array.getElem?_setIfInBounds,hk]⟩
 have pt:∀ (A A':Array Value) (o:Oper) (d:Nat) (v:Value),o.dst=some d→A'=A.setIfInBounds d v→(({ tmps:=A,defers:=[] }:Act).put o.dst v)={ tmps:=A',defers:=[] }:=fun A A' o d v h1 h2=>by rw [h1,h2];rfl
 have evt:∀ (A:Array Value) (k:Nat),({ tmps:=A,defers:=[] }:Act).eval (.tmp k)=A.getD k undef:=fun _ _=>rfl
 obtain ⟨A1,e1,z1,g1,n1⟩:=stp tm 5 val hsize (by decide)
 obtain ⟨A2,e2,z2,g2,n2⟩:=stp A1 6 (.tuple #[val,.bool bb]) z1 (by decide)
 obtain ⟨A3,e3,z3,g3,n3⟩:=stp A2 4 (.tuple #[val,.bool bb]) z2 (by decide)
 obtain ⟨A4,e4,z4,g4,n4⟩:=stp A3 7 val z3 (by decide)
 obtain ⟨A5,e5,z5,g5,n5⟩:=stp A4 8 (.bool bb) z4 (by decide)
 obtain ⟨A6,e6,z6,g6,n6⟩:=stp A5 2 val z5 (by decide)
 obtain ⟨A7,e7,z7,g7,n7⟩:=stp A6 3 (.bool bb) z6 (by decide)
 refine opsS_recover (o:=o1) (w':=w) (v:=val) rfl hu1 (hx1 _ _) hrec ?_
 rw [pt tm A1 o1 5 val hd1 e1]
 refine opsS_value (o:=o2) (w':=w) (v:=.tuple #[val,.bool bb]) rfl hu2 (by simp [execOp,hq2,evt,g1,hta]) ?_
 rw [pt A1 A2 o2 6 _ hd2 e2]
 refine opsS_value (o:=o3) (w':=w) (v:=.tuple #[val,.bool bb]) rfl hu3 (by simp [execOp,hq3,evt,g2]) ?_
 rw [pt A2 A3 o3 4 _ hd3 e3]
 refine opsS_value (o:=o4) (w':=w) (v:=val) rfl hu4 (by simp [execOp,hq4,evt,g3,Instr.extract]) ?_
 rw [pt A3 A4 o4 7 _ hd4 e4]
 have k4:A4.getD 4 undef=.tuple #[val,.bool bb]:=(n4 4 (by decide)).trans g3
 refine opsS_value (o:=o5) (w':=w) (v:=.bool bb) rfl hu5 (by simp [execOp,hq5,evt,k4,Instr.extract]) ?_
 rw [pt A4 A5 o5 8 _ hd5 e5]
 have k5:A5.getD 7 undef=val:=(n5 7 (by decide)).trans g4
 refine opsS_value (o:=o6) (w':=w) (v:=val) rfl hu6 (by simp [execOp,hq6,evt,k5]) ?_
 rw [pt A5 A6 o6 2 _ hd6 e6]
 have k6:A6.getD 8 undef=.bool bb:=(n6 8 (by decide)).trans g5
 refine opsS_value (o:=o7) (w':=w) (v:=.bool bb) rfl hu7 (by simp [execOp,hq7,evt,k6]) ?_
 rw [pt A6 A7 o7 3 _ hd7 e7]
 have low:∀ k,k≠5→k≠6→k≠4→k≠7→k≠8→k≠2→k≠3→A7.getD k undef=tm.getD k undef:=fun k c1 c2 c3 c4 c5 c6 c7=>by
  rw [n7 k (Ne.symm c7),n6 k (Ne.symm c6),n5 k (Ne.symm c5),n4 k (Ne.symm c4),n3 k (Ne.symm c3),n2 k (Ne.symm c2),n1 k (Ne.symm c1)]
 show cl.wpSIn (FR none) 0 P _ _ _ w
 exact hA _ rfl z7 ((low 0 (by decide) (by decide) (by decide) (by decide) (by decide) (by decide) (by decide)).trans t0) ((low 1 (by decide) (by decide) (by decide) (by decide) (by decide) (by decide) (by decide)).trans t1) ((n7 2 (by decide)).trans g6) g7
theorem fnT_ok {P:Program} {Γ:Tabs} (hΓ:TabOK P Γ) {F:OpF} (hS:F.Sound) (hN:F.Nice) {f g:FuncId} {fn fg:Func} {c0 rest cl:Code} {own:List Nat} {a0 a1 aN aP:Ann} {n i0 i1 s2 s3 sf xt It Te fe:Nat} {o1 o2 o3 o4 o5 o6 o7 p1 p2:Oper} {s:PSpec}
  (hf:lk Γ.fn f=some fn) (hb:fn.body=some (.seq c0 (.seq (.region i1 #[p1,p2] false) rest))) (hn:Nat.ble s.a.length fn.ntmps=true) (hsk:skP s.k=true)
  (hp1:p1.op=.makeFunc (.func g) #[] #[.tmp s2,.tmp s3]) (hpd1:p1.dst=some sf) (hpu1:p1.guard=none) (hp2:p2.op=.defer { callee:=.value (.tmp sf),args:=#[],argTypes:=#[] }) (hpd2:p2.dst=none) (hpu2:p2.guard=none) (hsf:Nat.blt sf fn.ntmps=true)
  (hg:lk Γ.fn g=some fg) (hbg:fg.body=some (.seq (.region i0 #[o1,o2,o3,o4,o5,o6,o7] false) cl)) (hrg:fg.results=#[]) (hq1:o1.op=.call { callee:=.builtin .recover,args:=#[],argTypes:=#[] }) (hq2:o2.op=.typeAssert (.tmp 5) xt It true) (hq3:o3.op=.move (.tmp 6)) (hq4:o4.op=.extract (.tmp 4) 0) (hq5:o5.op=.extract (.tmp 4) 1) (hq6:o6.op=.assign (.tmp 7)) (hq7:o7.op=.assign (.tmp 8))
  (hd1:o1.dst=some 5) (hd2:o2.dst=some 6) (hdd3:o3.dst=some 4) (hd4:o4.dst=some 7) (hd5:o5.dst=some 8) (hd6:o6.dst=some 2) (hd7:o7.dst=some 3) (hu1:o1.guard=none) (hu2:o2.guard=none) (hu3:o3.guard=none) (hu4:o4.guard=none) (hu5:o5.guard=none) (hu6:o6.guard=none) (hu7:o7.guard=none)
  (hnt:Nat.ble 9 fg.ntmps=true) (hex:lk Γ.ex fe=some (.isE Te It))
  (hm:∀ G w0 x,fnT F n Γ own a0 a1 aN aP fn c0 rest cl fg.ntmps s2 s3 sf Te s.a s.o s.k s.fo G w0 x=s.m x):PSpecOK P f s:=by
 refine ⟨(hΓ.fn f fn hf).2,fun x r hr rs h pv δ hst haft G w0 B S w η vs hi hl hv=>?_⟩
 have hr:fnT F n Γ own a0 a1 aN aP fn c0 rest cl fg.ntmps s2 s3 sf Te s.a s.o s.k s.fo G w0 x=some r:=(hm G w0 x).trans hr
 unfold fnT at hr
 have hst':stOf s.a s.o x=some (rs,h):=hst
 rw [hst'] at hr
 simp only at hr
 obtain ⟨_,hfr,hr⟩:=Option.bind_eq_some_iff.1 hr
 have hfo:=frc_ok hfr
 have hi:HInv B η (bxs s.fo h++[(0,.frm G w0)]) S w:=hi.as fun i po hlk=>by
  rw [lk_app] at hlk
  rcases hfo i with e | ⟨l,e1,e2⟩
  ·rw [e,← lk_app] at hlk
   exact ⟨po,hlk,fun _ h=>h⟩
  ·rw [e2] at hlk
   cases hlk
   exact ⟨.opt false l,by rw [lk_app,e1],fun _ h=>h⟩
 have hΓ':∀ own,TabOK P { Γ with own:=own }:=fun own=>⟨hΓ.ty,hΓ.fn,hΓ.sp,hΓ.en,hΓ.mixed,hΓ.so,hΓ.eqs,hΓ.so1,hΓ.mps,hΓ.ow,hΓ.bt,hΓ.ex,hΓ.pp⟩
 have hlen:rs.length=s.a.length:=by
  unfold stOf at hst'
  split at hst'
  ·rename_i hd
   split at hst'
   ·cases hst';exact decL_len hd
   ·cases hst'
  ·cases hst'
 have hvl:vs.length≤fn.ntmps:=by rw [← hv.length,hlen];exact nL hn
 refine callsIn_wide.1 (?_:CallsIn (FR none) 0 P f vs.toArray w (PostP s B S w η (δ++(bxs s.fo h++[(0,.frm G w0)])) pv))
 refine callsIn_of_wp_marks (hΓ.fn f fn hf).1 hb (FR.fn none f) ?_
 refine wpIn_seq ((sound hS hN n).1 _ _ _ _ _ _ _ _ hr P (hΓ' _) none B ⟨w.heap.size,none,[],true⟩ _ w S η ⟨DefsOK.nil _ _ _ _,?_,?_,hi,hl,numL_noG,(fun l hl=>by cases hl),hi.base,nR _⟩ rfl (fun _=>rfl) _ fun ex st1 a1' w1 S1 η1 g1 stp1 hk1=>?_)
 ·simp only [Array.size_append,Array.size_replicate,List.size_toArray];omega
 ·have:=numL_env (k:=0) (pre:=[]) (post:=List.replicate (fn.ntmps-vs.toArray.size) undef) hv rfl
  have e:vs.toArray++Array.replicate (fn.ntmps-vs.toArray.size) undef=([]++vs++List.replicate (fn.ntmps-vs.toArray.size) undef).toArray:=by simp
  show EnvM S w _ _ (vs.toArray++Array.replicate (fn.ntmps-vs.toArray.size) undef)
  rw [e];exact this
 cases ex with
 | ret=>cases hk1
 | exit i=>cases hk1
 | go l=>cases hk1
 | pan T=>cases hk1
 | norm =>
  simp only at hk1
  split at hk1
  ·rename_i i2 i3 hs2 hs3 hsn
   obtain ⟨b2,q2,v2⟩:=g1.env s2 _ hs2
   obtain ⟨b3,q3,v3⟩:=g1.env s3 _ hs3
   obtain ⟨bs,hnb,hd,_,_⟩:=g1.defers
   rw [hnb rfl] at hd
   have hd:a1'.defers=[]:=hd
   let cv:Value:=.func (.func g) #[] #[.pointer (some ⟨b2,0,none⟩),.pointer (some ⟨b3,0,none⟩)]
   let d:Deferred:={ target:=.fn (.func g) #[.pointer (some ⟨b2,0,none⟩),.pointer (some ⟨b3,0,none⟩)],args:=#[] }
   have hx1:(execOp a1'.eval p1).run P w1=.ok (.value cv) w1:=by
    have e2:a1'.eval (.tmp s2)=.pointer (some ⟨b2,0,none⟩):=v2
    have e3:a1'.eval (.tmp s3)=.pointer (some ⟨b3,0,none⟩):=v3
    simp [execOp,hp1,Instr.makeFunc,e2,e3,cv]
   show (Code.seq (.region i1 #[p1,p2] false) rest).wpIn (FR none) 0 P _ a1' w1
   have sfl:sf<fn.ntmps:=nL hsf
   have hev:(a1'.put (some sf) cv).eval (.tmp sf)=cv:=by
    show (a1'.tmps.setIfInBounds sf cv).getD sf undef=cv
    have:sf<a1'.tmps.size:=by rw [g1.size];exact sfl
    simp [Array.getD,this]
   have hx2:(execOp (a1'.put (some sf) cv).eval p2).run P w1=.ok (.defer d) w1:=by
    simp [execOp,hp2,resolve,hev,Deferred.ofValue,cv,d]
   let a2:Act:={ tmps:=a1'.tmps.setIfInBounds sf cv,defers:=[d] }
   have hrest:rest.wpIn (FR none) 0 P (bodyPostM (FR none) 0 P fn (PostP s B S w η (δ++(bxs s.fo h++[(0,.frm G w0)])) pv)) a2 w1:=by
    refine (sound hS hN n).1 _ _ _ _ _ _ _ _ hk1 P (hΓ' _) none B ⟨w.heap.size,none,[d],false⟩ a2 w1 S1 η1 ⟨DefsOK.nil _ _ _ _,by simp [a2,g1.size],fun t pv ht=>?_,g1.inv,g1.len,g1.wf,(fun l hl=>by cases hl),g1.bb,g1.ba⟩ rfl (fun h=>by cases h) _ fun ex st3 a3 w3 S3 η3 g3 stp3 hk3=>?_
    ·have hts:t≠sf:=fun h=>by subst h;rw [hsn] at ht;cases ht
     have:=g1.env t pv ht
     show PM S1 w1 η1 pv ((a1'.tmps.setIfInBounds sf cv).getD t undef)
     rw [show (a1'.tmps.setIfInBounds sf cv).getD t undef=a1'.tmps.getD t undef by simp [aD,Array.getElem?_setIfInBounds,Ne.symm hts]]
     exact this
    ·obtain ⟨bs,_,hd3,hnd,hbs⟩:=g3.defers
     have fin:∀ (u u':FrameMode) (v:CV) (bb:Bool) (an:Ann),u≠.run→((v=.l .nilI∧bb=false∧u=.returning∧u'=.returning)∨(v=.i (1000000+Te)∧bb=true∧u=.panicking [{ v:=payV (1000000+Te),recovered:=false }]∧u'=.panicking [{ v:=payV (1000000+Te),recovered:=true }])) →
       clP F n Γ an fn cl fg.ntmps i2 i3 s.k (ent rs (bxs s.fo h) (s.o.length+1) G w0) v bb st3=some r→LeavesInM (FR none) 0 P fn a3.tmps (PostP s B S w η (δ++(bxs s.fo h++[(0,.frm G w0)])) pv) a3.defers u w3:=by
      intro u u' v bb an hur hv hcl
      rw [hd3]
      refine leaves_tl hur bs w3 hnd hbs fun w2 t=>?_
      obtain ⟨i2',e2,gr2⟩:=g3.took t
      refine ⟨hur,.inr ⟨fun h=>(FR.nodepth none h).elim,.func g,_,g,#[.pointer (some ⟨b2,0,none⟩),.pointer (some ⟨b3,0,none⟩)],rfl,?_,fun f _=>FR.fn none f,?_⟩⟩
      ·show (invoke d.target d.args).run P w2=_
       have:=(hΓ.fn g fg hg).2 #[.pointer (some ⟨b2,0,none⟩),.pointer (some ⟨b3,0,none⟩)] w2
       simpa [invoke,d] using this
      ·exact clP_ok hΓ hS hN hg hbg hrg hq1 hq2 hq3 hq4 hq5 hq6 hq7 hd1 hd2 hdd3 hd4 hd5 hd6 hd7 hu1 hu2 hu3 hu4 hu5 hu6 hu7 hnt hex hv hsk haft hcl hi hl i2' g3.len e2 (stp3.pre.get q2) (stp3.pre.get q3) (gr2 S w (nR _) (stp1.grow.trans stp3.grow)) (stp1.pre.trans stp3.pre) (sfx_trans stp1.hp stp3.hp)
     cases ex with
     | norm=>exact fin .returning .returning (.l .nilI) false aN (by simp) (.inl ⟨rfl,rfl,rfl,rfl⟩) hk3
     | ret=>exact fin .returning .returning (.l .nilI) false aN (by simp) (.inl ⟨rfl,rfl,rfl,rfl⟩) hk3
     | exit i=>cases hk3
     | go l=>cases hk3
     | pan T =>
      simp only at hk3
      split at hk3
      ·rename_i hT
       have hT:=nB hT
       subst hT
       exact fin _ _ (.i (1000000+Te)) true aP (by simp) (.inr ⟨rfl,rfl,rfl,rfl⟩) hk3
      ·cases hk3
   refine wpIn_seq (wpIn_region ?_)
   show wpOpsIn (FR none) 0 P #[p1,p2] _ [0,1] a1' w1
   refine opsIn_value (o:=p1) (w':=w1) (v:=cv) rfl hpu1 hx1 (opsIn_defer (o:=p2) (w':=w1) (d:=d) rfl hpu2 (by rw [hpd1];exact hx2) ?_)
   rw [hpd1,hpd2]
   show rest.wpIn (FR none) 0 P _ { tmps:=a1'.tmps.setIfInBounds sf cv,defers:=d::a1'.defers } w1
   rw [hd]
   exact hrest
  ·cases hk1
end Go.PE
namespace Go.Proofs.YtobfnefajpiakaaDoor
open Go Go.Abs Go.PE Go.Proofs
open Go.IntKind (wrap)
set_option maxRecDepth 100000
variable [EA]
noncomputable section
abbrev tR:Ty:=(.pair tI (.pair tI (.pair tI (.pair tI (.pair tI (.pair tI (.pair tI (.pair .str .str))))))))
abbrev tP:Ty:=(.pair tI tI)
abbrev tB:Ty:=(.pair tI tP)
abbrev tC:Ty:=(.pair tI (.pair tI tB))
abbrev tQ:Ty:=(.list tP)
abbrev tL:Ty:=(.list tI)
abbrev tO:Ty:=(.pair tI tQ)
abbrev tD:Ty:=(.pair tO (.list tC))
abbrev z0:Fl:=.s [] []
def ra:Nat→Nat→List Nat→List Nat
 | _,0,l=>l
 | a,n+1,l=>a::ra (a+1) n l
def za:Nat→List Fl→List Fl
 | 0,l=>l
 | n+1,l=>z0::za n l
theorem fc [db:DB] {f:FuncId} {ta tr:List Ty} {m:Tup (ta.map .d)→Option (Tup (tr.map .d))} {Γ:Tabs} (h:TabOK Tryd.prog Γ) (own:List Nat) (an:Ann) (fn:Func) (hm:∀ x,fnM OPS 400 Γ own an fn (fn.body.getD .skip) ta tr x=m x) (hf:lk Γ.fn f=some fn:=by kernel_rfl) (hb:fn.body=some (fn.body.getD .skip):=by kernel_rfl) (hn:Nat.ble ta.length fn.ntmps=true:=by kernel_rfl):SpecOK Tryd.prog f ⟨ta,tr,m⟩:=fnM_ok h OPS_sound OPS_nice hf hb hn hm
def tabsA:Tabs:={ tabs with mps:=[] }
theorem mpsOK:∀ f es,lk tabsA.mps f=some es→MapOK Tryd.prog f es:=by
 show ∀ f es,lk [] f=some es→MapOK Tryd.prog f es
 exact lk_none
theorem tabsAOK:TabOK Tryd.prog tabsA:=⟨tabsOK.ty,tabsOK.fn,tabsOK.sp,tabsOK.en,tabsOK.mixed,tabsOK.so,tabsOK.eqs,tabsOK.so1,mpsOK,tabsOK.ow,tabsOK.bt,tabsOK.ex,tabsOK.pp⟩
def ano30:Ann:=.a
def mo30:List (List UInt8)→Option (List (List UInt8)) :=
 fun x=>nilM x (some []) ((appM (nat_lit 16) [] x).bind fun r=>some r)
theorem co30:OwnOK Tryd.prog 30 ⟨[(.list .str)],.str,mo30⟩ :=
 fnOw_ok (own:=[]) (an:=ano30) (n:=400) tabsAOK (F:=OPS) OPS_sound OPS_nice (f:=30) (fn:=Tryd.f30) (code:=Tryd.f30.body.getD .skip) (by kernel_rfl) (by kernel_rfl) (by kernel_rfl) Tryd.call30 fun x=>by kernel_rfl
def tabsO30:Tabs:=Tabs.addOw tabsA 30 ⟨[(.list .str)],.str,mo30⟩
theorem tabsO30OK:TabOK Tryd.prog tabsO30:=TabOK.addOw tabsAOK co30
def tabsX:Tabs:=tabsO30
theorem tabsXOK:TabOK Tryd.prog tabsX:=tabsO30OK

/-! putlog/disk.New -/
def pa6:List SR:=[.c (.d (.d tI))]
def po6:List SO:=[]
def pk6:Skel:=⟨[(1000000,.t [.c (.h 1),.c (.d (.d tI))])],[],[],[.opt [.d (.d .bool),.d (.d tI),.h 2,.h 3,.h 4],.arr (.int .u8),.arr (.int .u8),.arr (.pair tI .str)]⟩
def an6:Ann:=.seq (.a) (.seq (.a) (.seq (.reg [0,1,0,4,15,31,63,127] (ra 0 8 ([])) [z0,.s [] [1],z0,.s [] [2],z0,.s [1,2] [3],z0,z0] (.a)) (.a)))
def m6:Int→Option (Int×Bool×Bool×Int×List Int×List Int×List (Int×List UInt8)) :=
 fun x=>bif PE.orM (ltM x 1) (ltM 4194304 x) then some (2,true,false,0,[],[],[]) else (mkM x x (nat_lit 1) 0).bind fun r=>(mkM x x (nat_lit 1) 0).bind
 fun r_1=>some (0,false,false,0,r,r_1,[])
theorem cp6:PSpecOK Tryd.prog 6 ⟨pa6,po6,pk6,[],m6⟩ :=
 fnP_ok (own:=[5000000]) (an:=an6) (n:=400) tabsXOK (F:=OPS) OPS_sound OPS_nice (f:=6) (fn:=Tryd.f6) (code:=Tryd.f6.body.getD .skip) (by kernel_rfl) (by kernel_rfl) (by kernel_rfl) (by kernel_rfl) fun G w0 x=>by kernel_rfl
def tabs6:Tabs:=Tabs.addP tabsX 6 ⟨pa6,po6,pk6,[],m6⟩
theorem tabs6OK:TabOK Tryd.prog tabs6:=TabOK.addP tabsXOK cp6

/-! (*putlog/disk.Disk).Size -/
def pa21:List SR:=[.c (.h 1)]
def po21:List SO:=[.opt [.d (.d .bool),.d (.d tI),.h 2,.h 3,.h 4],.arr (.int .u8),.arr (.int .u8),.arr (.pair tI .str)]
def pk21:Skel:=⟨[(1000000,.r (.c (.d (.d tI))))],[],[],[]⟩
def an21:Ann:=.a
def m21:(Bool×Bool×Int×List Int×List Int×List (Int×List UInt8))→Option (Int) :=
 fun x=>((nonM x.1).bind fun (x:Unit)=>some ()).bind fun (x_1:Unit)=>some (lenM x.2.2.2.1)
theorem cp21:PSpecOK Tryd.prog 21 ⟨pa21,po21,pk21,[1],m21⟩ :=
 fnP_ok (own:=[5000000]) (an:=an21) (n:=400) tabs6OK (F:=OPS) OPS_sound OPS_nice (f:=21) (fn:=Tryd.f21) (code:=Tryd.f21.body.getD .skip) (by kernel_rfl) (by kernel_rfl) (by kernel_rfl) (by kernel_rfl) fun G w0 x=>by kernel_rfl
def tabs21:Tabs:=Tabs.addP tabs6 21 ⟨pa21,po21,pk21,[1],m21⟩
theorem tabs21OK:TabOK Tryd.prog tabs21:=TabOK.addP tabs6OK cp21

/-! (*putlog/disk.Disk).Read -/
def pa20:List SR:=[.c (.h 1),.c (.d (.d tI)),.c (.d (.d tI))]
def po20:List SO:=[.opt [.d (.d .bool),.d (.d tI),.h 2,.h 3,.h 4],.arr (.int .u8),.arr (.int .u8),.arr (.pair tI .str)]
def pk20:Skel:=⟨[(1000000,.t [.c (.d (.d .str)),.c (.d (.d tI))])],[],[],[]⟩
def an20:Ann:=.seq (.a) (.seq (.seq (.reg [] [] [z0,.r,z0] (.call [5000000] [(.norm,⟨[(10,.r (.c (.d (.d tI))))],[],[],[]⟩)] (.seq (.a) (.a)) (.a))) (.a)) (.seq (.seq (.reg [] [] [z0,z0,z0,.r,z0] (.call [5000000] [] (.seq (.a) (.a)) (.a))) (.a)) (.a)))
def m20:(Int×Int×Bool×Bool×Int×List Int×List Int×List (Int×List UInt8))→Option (List UInt8×Int) :=
 fun x=>((nonM x.2.2.1).bind fun (x:Unit)=>some ()).bind fun (x_1:Unit)=>(bif x.2.2.2.1 then some 361 else some 0).bind fun (ov:Int)=>bif PE.notM
 (eqM ov 0) then some ([],ov) else bif PE.notM (PE.andM (PE.andM (PE.andM (leM 0 x.1) (leM 0 x.2.1)) (leM x.1 (lenM x.2.2.2.2.2.1))) (leM x.2.1 (wrap
 IntKind.i64 (lenM x.2.2.2.2.2.1-x.1)))) then some ([],360) else (chkM x.1 (lenM x.2.2.2.2.2.2.1)).bind fun r=>(chkM x.2.1 (lenM x.2.2.2.2.2.2.1-x.1 +
 1)).bind fun r=>some (strB (partV x.2.2.2.2.2.2.1 (Int.toNat x.1) (Int.toNat x.2.1)),0)
theorem cp20:PSpecOK Tryd.prog 20 ⟨pa20,po20,pk20,[1],m20⟩ :=
 fnP_ok (own:=[2000024,2000026,5000000]) (an:=an20) (n:=400) tabs21OK (F:=OPS) OPS_sound OPS_nice (f:=20) (fn:=Tryd.f20) (code:=Tryd.f20.body.getD .skip) (by kernel_rfl) (by kernel_rfl) (by kernel_rfl) (by kernel_rfl) fun G w0 x=>by kernel_rfl
def tabs20:Tabs:=Tabs.addP tabs21 20 ⟨pa20,po20,pk20,[1],m20⟩
theorem tabs20OK:TabOK Tryd.prog tabs20:=TabOK.addP tabs21OK cp20

/-! putlog/wire.Int -/
def as66:List Ty:=[.str,tI]
def rs66:List Ty:=[tI,tI,tI]
def an66:Ann:=.seq (.a) (.seq (.a) (.seq (.a) (.seq (.seq (.a) (.block (.loop ⟨[(7,.r (.c (.d (.d (.int .u64))))),(19,.r (.c (.d (.d tI))))],(8::9::ra 20 23 (66::[])),[],[]⟩ [(.exit 0,⟨[],(7::8::9::10::ra 19 42 (66::[])),[],[]⟩),(.ret,⟨[(4,.r (.c (.d (.d tI)))),(5,.r (.c (.d (.d tI)))),(6,.r (.c (.d (.d tI))))],(7::8::9::10::ra 19 48 ([])),[],[]⟩)] (.a)))) (.a))))
def m66:(List UInt8×Int)→Option (Int×Int×Int) :=
 fun x=>bif PE.orM (ltM x.2 0) (ltM (lenM x.1) x.2) then some (0,0,2) else (loopM (fun (s:Int×Int)=>bif ltM s.2 9 then bif leM (lenM x.1) (wrap
 IntKind.i64 (x.2+s.2)) then some (Sum.inr (Sum.inl ())) else (byteM x.1 (wrap .i64 (x.2+s.2))).bind fun r=>(shlM .u64 (wrap IntKind.u64
 (bitM BinOp.and .u8 r 127)) (wrap .i64 (7*s.2))).bind fun r_1=>bif leM 128 r then some (Sum.inl (bitM BinOp.or .u64 s.1 r_1,wrap
 IntKind.i64 (s.2+1))) else (shrM .u64 (bitM BinOp.or .u64 s.1 r_1) 1).bind fun r_2=>bif PE.orM (PE.andM (eqM r 0) (ltM 0 s.2)) (ltM (bitM
 BinOp.xor IntKind.i64 (wrap .i64 r_2) (wrap .i64 (negM (wrap .i64 (bitM BinOp.and .u64 (bitM BinOp.or .u64 s.1 r_1) 1)))))
 (-4611686018427387903)) then some (Sum.inr (Sum.inl ())) else some (Sum.inr (Sum.inr (bitM BinOp.xor .i64 (wrap .i64 r_2) (wrap IntKind.i64
 (negM (wrap .i64 (bitM BinOp.and .u64 (bitM BinOp.or .u64 s.1 r_1) 1)))),wrap .i64 (wrap .i64 (x.2+s.2)+1),0))) else
 some (Sum.inr (Sum.inl ()))) (0,0)).bind fun o=>Sum.elim (fun (t:Unit)=>some (0,0,10)) (fun (t:Int×Int×Int)=>some (t.1,t.2.1,t.2.2)) o
theorem c66:SpecOK Tryd.prog 66 ⟨as66,rs66,m66⟩ :=
 fc tabs20OK [] an66 Tryd.f66 fun x=>by kernel_rfl
def tabs66:Tabs:=Tabs.add tabs20 66 ⟨as66,rs66,m66⟩
theorem tabs66OK:TabOK Tryd.prog tabs66:=TabOK.add tabs20OK c66 Tryd.call66

/-! putlog/wire.String -/
def as58:List Ty:=[.str,tI]
def rs58:List Ty:=[.str,tI,tI]
def an58:Ann:=.a
def m58:(List UInt8×Int)→Option (List UInt8×Int×Int) :=
 fun x=>(m66 (x.1,x.2)).bind fun r=>bif PE.notM (eqM r.2.2 0) then some ([],0,r.2.2) else bif PE.orM (PE.orM (ltM r.1 0) (ltM 65536 r.1)) (ltM (wrap
 IntKind.i64 (lenM x.1-r.2.1)) r.1) then some ([],0,10) else (sliceM x.1 r.2.1 (wrap .i64 (r.2.1+r.1))).bind fun r_1=>some (r_1,wrap
 IntKind.i64 (r.2.1+r.1),0)
theorem c58:SpecOK Tryd.prog 58 ⟨as58,rs58,m58⟩ :=
 fc tabs66OK [] an58 Tryd.f58 fun x=>by kernel_rfl
def tabs58:Tabs:=Tabs.add tabs66 58 ⟨as58,rs58,m58⟩
theorem tabs58OK:TabOK Tryd.prog tabs58:=TabOK.add tabs66OK c58 Tryd.call58

/-! putlog/digest.mixed -/
def as86:List Ty:=[(.int .u32),tL]
def rs86:List Ty:=[(.int .u32)]
def an86:Ann:=.seq (.a) (.seq (.a) (.seq (.seq (.a) (.block (.loop ⟨[(5,.r (.c (.d (.d (.int .u32))))),(10,.r (.c (.d (.d tI))))],(7::ra 11 10 ([])),[],[]⟩ [(.exit 0,⟨[(5,.r (.c (.d (.d (.int .u32)))))],(7::ra 10 11 ([])),[],[]⟩)] (.seq (.a) (.seq (.a) (.seq (.block (.seq (.a) (.reg [] [] [z0,z0,z0,z0,.r,z0,z0] (.call [] [] (.seq (.a) (.a)) (.a))))) (.a))))))) (.a)))
def m86:(Int×List Int)→Option (Int) :=
 fun x=>(loopM (fun (s:Int×Int)=>bif ltM s.2 (lenM x.2) then (idxM x.2 s.2).bind fun r=>(shlM .u32 x.1 (bitM BinOp.and .u64 (wrap
 IntKind.u64 (wrap .i64 (negM r))) 31)).bind fun r_1=>(shrM .u32 x.1 (wrap .u64 (32-bitM BinOp.and .u64 (wrap .u64 (wrap
 IntKind.i64 (negM r))) 31))).bind fun r=>some (Sum.inl (bitM BinOp.xor .u32 s.1 (bitM BinOp.or .u32 r_1 r),wrap .i64 (s.2+1))) else
 some (Sum.inr s.1)) (0,0)).bind fun o=>some o
theorem c86:SpecOK Tryd.prog 86 ⟨as86,rs86,m86⟩ :=
 fc tabs58OK [] an86 Tryd.f86 fun x=>by kernel_rfl
def tabs86:Tabs:=Tabs.add tabs58 86 ⟨as86,rs86,m86⟩
theorem tabs86OK:TabOK Tryd.prog tabs86:=TabOK.add tabs58OK c86 Tryd.call86

/-! (putlog/digest.words).digest -/
def as80:List Ty:=[(.pair (.int .u32) (.pair (.int .u32) (.pair (.int .u32) (.pair (.int .u32) (.pair (.int .u32) (.pair (.int .u32) (.pair (.int .u32) (.int .u32))))))))]
def rs80:List Ty:=[.str]
def an80:Ann:=.seq (.a) (.seq (.a) (.seq (.seq (.a) (.block (.loop ⟨[(8,.r (.c (.d (.d tI))))],(4::5::6::ra 9 19 ([])),[(1,.flat 32 (.int .u8))],[]⟩ [(.exit 0,⟨[],(4::5::6::ra 8 20 ([])),[(1,.flat 32 (.int .u8))],[]⟩)] (.seq (.a) (.seq (.a) (.seq (.block (.seq (.a) (.seq (.a) (.block (.loop ⟨[(12,.r (.c (.d (.d tI))))],(6::ra 13 14 ([])),[(1,.flat 32 (.int .u8))],[]⟩ [(.exit 2,⟨[],(6::ra 12 15 ([])),[(1,.flat 32 (.int .u8))],[]⟩)] (.a)))))) (.a))))))) (.a)))
def m80:(Int×Int×Int×Int×Int×Int×Int×Int)→Option (List UInt8) :=
 fun x=>(loopM (fun (s:Int×List Int)=>bif ltM s.1 8 then (idxM [x.1,x.2.1,x.2.2.1,x.2.2.2.1,x.2.2.2.2.1,x.2.2.2.2.2.1,x.2.2.2.2.2.2.1,
 x.2.2.2.2.2.2.2] s.1).bind fun r=>(loopM (fun (s_1:Int×List Int)=>bif ltM s_1.1 4 then (shrM .u32 r (wrap .i64 (24-wrap .i64 (8
 * s_1.1)))).bind fun r_1=>(chkM (wrap .i64 (wrap .i64 (4*s.1)+s_1.1)) ↑(nat_lit 32)).bind fun r_2=>(setM s_1.2 (↑(nat_lit 0)+wrap
 IntKind.i64 (wrap .i64 (4*s.1)+s_1.1)*↑(nat_lit 1)) fun (x:Int)=>some (wrap .u8 r_1)).bind fun r=>some (Sum.inl (wrap IntKind.i64
 (s_1.1+1),r)) else some (Sum.inr s_1.2)) (0,s.2)).bind fun o=>some (Sum.inl (wrap .i64 (s.1+1),o)) else some (Sum.inr s.2)) (0,[0,0,0,0,
 0,0,0,0,0,0,0,0,0,0,0,0,0,0,0,0,0,0,0,0,0,0,0,0,0,0,0,0])).bind fun o=>some (strB (partV o (nat_lit 0) (nat_lit 32)))
theorem c80:SpecOK Tryd.prog 80 ⟨as80,rs80,m80⟩ :=
 fc tabs86OK [1,3] an80 Tryd.f80 fun x=>by kernel_rfl
def tabs80:Tabs:=Tabs.add tabs86 80 ⟨as80,rs80,m80⟩
theorem tabs80OK:TabOK Tryd.prog tabs80:=TabOK.add tabs86OK c80 Tryd.call80

/-! putlog/digest.Sum -/
def as71:List Ty:=[.str]
def rs71:List Ty:=[.str]
def an71:Ann:=.seq (.a) (.seq (.a) (.seq (.a) (.seq (.block (.loop ⟨[(4,.r (.c (.h 3)))],(ra 12 7 ([])),[(2,.gone)],[.arr (.int .u8)]⟩ [(.exit 0,⟨[(4,.r (.c (.h 3)))],(ra 12 7 ([])),[(2,.gone)],[.arr (.int .u8)]⟩)] (.a))) (.seq (.seq (.a) (.block (.loop ⟨[(4,.r (.c (.h 4))),(5,.r (.c (.d (.d tI))))],(ra 19 14 ([])),[(3,.gone)],[.arr (.int .u8)]⟩ [(.exit 2,⟨[(4,.r (.c (.h 4)))],(5::ra 19 14 ([])),[(3,.gone)],[.arr (.int .u8)]⟩)] (.a)))) (.seq (.seq (.reg [] [] [z0,.r] (.call [] [] (.seq (.a) (.a)) (.a))) (.block (.call [] [] (.seq (.a) (.block (.loop ⟨[(4,.r (.c (.d (.d tI))))],(ra 5 26 ([])),[(0,.flat 8 (.int .u32)),(4,.frz (.int .u8)),(7,.lp .ready)],[]⟩ [(.exit 0,⟨[],(ra 4 27 ([])),[(0,.flat 8 (.int .u32)),(4,.frz (.int .u8)),(7,.lp .ready)],[]⟩)] (.seq (.a) (.seq (.block (.seq (.reg [0,0,0,6,14,31,63] (ra 0 7 ([])) (.s [6] []::.s [5] []::z0::.s [4] []::za 3 ([])) (.a)) (.seq (.reg [] [] [z0,.s [5] [],z0,z0,z0,z0,z0,z0,z0,.s [4] [],.r,z0] (.call [3] [] (.seq (.a) (.block (.reg [] [] [z0,.r] (.call [4,5] [] (.seq (.reg [] [] [z0,.r,.s [] [9],.s [9] [9]] (.call [2] [] (.seq (.a) (.seq (.seq (.a) (.block (.loop ⟨[(7,.r (.c (.d (.d tI))))],(3::ra 8 38 ([])),[(8,.flat 64 (.int .u32))],[]⟩ [(.exit 0,⟨[],(3::ra 7 39 ([])),[(8,.flat 64 (.int .u32))],[]⟩)] (.seq (.a) (.seq (.a) (.seq (.block (.seq (.a) (.reg [0,0,0,4,14,30,62,126,0,0,512,1536,3840,7936,16128,32512,65534,0,0,262144,786432,1966080,4063232,8257536,16646144,33554430,0,0,134217728,402653184,1006632960,2080374784,4227858432,8589934590,17179869183,34359738367] (ra 0 36 ([])) (za 34 (.s [8] []::.s [8] [8]::[])) (.a)))) (.a))))))) (.seq (.seq (.a) (.block (.loop ⟨[(4,.r (.c (.d (.d tI))))],(5::6::ra 46 37 ([])),[(8,.flat 64 (.int .u32))],[]⟩ [(.exit 2,⟨[],(4::5::6::ra 46 37 ([])),[(8,.flat 64 (.int .u32))],[]⟩)] (.seq (.a) (.seq (.block (.seq (.reg [0,1,3,7,0,16,48,112,15,511] (ra 0 10 ([])) [z0,z0,.s [8] [],.s [8] [],z0,z0,.s [8] [],.s [8] [],z0,z0] (.a)) (.reg [0,0,2,6,14,0,0,96,0,256,992,2046,0,4096,12288,28672,65534,0,0,393440,0,1048576,4063456,8388606,16777215,33554431] (ra 0 26 ([])) (za 3 (.s [8] []::.s [8] []::za 9 (.s [8] []::.s [8] []::za 8 (.s [8] []::.s [8] [8]::[])))) (.a)))) (.a)))))) (.a)))) (.a))) (.seq (.a) (.seq (.seq (.a) (.block (.loop ⟨[(19,.r (.c (.d (.d tI))))],(ra 6 6 (ra 20 62 ([]))),[(10,.flat 8 (.int .u32))],[]⟩ [(.exit 0,⟨[],(ra 6 6 (ra 19 63 ([]))),[(10,.flat 8 (.int .u32))],[]⟩)] (.seq (.a) (.seq (.a) (.seq (.block (.seq (.a) (.seq (.reg [0,1,0,4,3,31] (ra 0 6 ([])) [z0,.s [10] [],z0,.s [10] [],z0,z0] (.a)) (.seq (.reg [0,1,0,0,12,31,0,0,128,448,0,1024,0,4096,15360,32704,65535,0,262143,0,524288,1572864,4194303,8388607] (ra 0 24 ([])) (z0::.s [10] []::za 6 (.s [10] []::za 4 (.s [10] []::za 6 (.s [9] []::.s [9] []::z0::z0::[])))) (.a)) (.seq (.reg [0,0,3,0,0,16,56,0,0,256,896,2040,0,4096,0,16384,61440,131064,262143,524287] (ra 0 20 ([])) (za 5 (.s [10] []::za 3 (.s [10] []::za 3 (.s [10] []::z0::.s [10] []::za 4 ([]))))) (.a)) (.seq (.reg [0,0,3] [0,1,2] [.s [10] [],.s [10] [],.s [10,10] [10]] (.a)) (.a))))))) (.a))))))) (.seq (.a) (.block (.loop ⟨[(82,.r (.c (.d (.d tI))))],(12::ra 83 14 ([])),[(0,.flat 8 (.int .u32))],[]⟩ [(.exit 2,⟨[],(12::ra 82 15 ([])),[(0,.flat 8 (.int .u32))],[]⟩)] (.seq (.a) (.seq (.a) (.seq (.block (.seq (.a) (.reg [0,0,1,7,15,0,32,96,255,1,1023,2047] (ra 0 12 ([])) (za 3 (.s [0] []::.s [0] []::z0::.s [10] []::.s [10] []::z0::z0::.s [0] []::.s [0] [0]::[])) (.a)))) (.a)))))))))) (.a))))) (.a))) (.a)))) (.a)))))) (.a)))) (.a))))))
def m71:List UInt8→Option (List UInt8) :=
 fun x=>(bytesM x).bind fun r=>(appM (nat_lit 1) r [128]).bind fun r_1=>(loopM (fun (s:List Int)=>(remM (lenM s) 64).bind fun r_2=>bif PE.notM (eqM
 r_2 56) then (appM (nat_lit 1) s [0]).bind fun r=>some (Sum.inl r) else some (Sum.inr s)) r_1).bind fun o=>(loopM (fun (s:Int×List Int)=>bif leM 0
 s.1 then (shrM .i64 (wrap .i64 (8*lenM x)) (wrap .i64 (8*s.1))).bind fun r_2=>(appM (nat_lit 1) s.2 [wrap .u8 r_2]).bind fun
 r=>some (Sum.inl (wrap .i64 (s.1-1),r)) else some (Sum.inr s.2)) (7,o)).bind fun o_1=>(loopM (fun (s:Int×List Int×List Int)=>bif ltM
 s.1 (lenM s.2.2) then (sliceM s.2.2 s.1 (lenM s.2.2)).bind fun r_2=>((sameM (wrap .i64 (s.1+min 64 (lenM r_2))) (wrap .i64 (s.1+min 64
 (lenM r_2)))).bind fun (x:Unit)=>sliceM s.2.2 s.1 (wrap .i64 (s.1+min 64 (lenM r_2)))).bind fun r_3=>(loopM (fun (s_1:Int×List Int)=>bif
 ltM s_1.1 16 then (idxM r_3 (wrap .i64 (4*s_1.1))).bind fun r_4=>(shlM .u32 (wrap .u32 r_4) 24).bind fun r_5=>(idxM r_3 (wrap
 IntKind.i64 (wrap .i64 (4*s_1.1)+1))).bind fun r_6=>(shlM .u32 (wrap .u32 r_6) 16).bind fun r_7=>(idxM r_3 (wrap IntKind.i64
 (wrap .i64 (4*s_1.1)+2))).bind fun r_8=>(shlM .u32 (wrap .u32 r_8) 8).bind fun r_9=>(idxM r_3 (wrap .i64 (wrap IntKind.i64
 (4*s_1.1)+3))).bind fun r_10=>(chkM s_1.1 ↑(nat_lit 64)).bind fun r_11=>(setM s_1.2 (↑(nat_lit 0)+s_1.1*↑(nat_lit 1)) fun (x:Int)=>some (bitM
 BinOp.or IntKind.u32 (bitM BinOp.or .u32 (bitM BinOp.or .u32 r_5 r_7) r_9) (wrap .u32 r_10))).bind fun r=>some (Sum.inl (wrap
 IntKind.i64 (s_1.1+1),r)) else some (Sum.inr s_1.2)) (0,[0,0,0,0,0,0,0,0,0,0,0,0,0,0,0,0,0,0,0,0,0,0,0,0,0,0,0,0,0,0,0,0,
 0,0,0,0,0,0,0,0,0,0,0,0,0,0,0,0,0,0,0,0,0,0,0,0,0,0,0,0,0,0,0,0])).bind fun o_2=>(loopM (fun (s_1:Int×List Int)=>bif
 ltM s_1.1 64 then (chkM (wrap .i64 (s_1.1-15)) ↑(nat_lit 64)).bind fun r_4=>(idxM s_1.2 (↑(nat_lit 0)+wrap .i64 (s_1.1-15)*↑(nat_lit
 1))).bind fun r_5=>(chkM (wrap .i64 (s_1.1-2)) ↑(nat_lit 64)).bind fun r_6=>(idxM s_1.2 (↑(nat_lit 0)+wrap .i64 (s_1.1-2)*↑(nat_lit
 1))).bind fun r_7=>(chkM (wrap .i64 (s_1.1-16)) ↑(nat_lit 64)).bind fun r_8=>(idxM s_1.2 (↑(nat_lit 0)+wrap .i64 (s_1.1-16) *
 ↑(nat_lit 1))).bind fun r_9=>(m86 (r_5,[7,18])).bind fun r_10=>(shrM .u32 r_5 3).bind fun r_11=>(chkM (wrap .i64 (s_1.1-7)) ↑(nat_lit
 64)).bind fun r_12=>(idxM s_1.2 (↑(nat_lit 0)+wrap .i64 (s_1.1-7)*↑(nat_lit 1))).bind fun r_13=>(m86 (r_7,[17,19])).bind fun r_14=>(shrM
 IntKind.u32 r_7 10).bind fun r_15=>(chkM s_1.1 ↑(nat_lit 64)).bind fun r_16=>(setM s_1.2 (↑(nat_lit 0)+s_1.1*↑(nat_lit 1)) fun (x:Int)=>some (wrap
 IntKind.u32 (wrap .u32 (wrap .u32 (r_9+bitM BinOp.xor .u32 r_10 r_11)+r_13)+bitM BinOp.xor .u32 r_14 r_15))).bind fun r =>
 some (Sum.inl (wrap .i64 (s_1.1+1),r)) else some (Sum.inr s_1.2)) (16,o_2)).bind fun o_3=>(loopM (fun (s_1:Int×List Int)=>bif ltM s_1.1 64
 then (idxM [1116352408,1899447441,3049323471,3921009573,961987163,1508970993,2453635748,2870763221,3624381080,310598401,607225278,1426881987,
 1925078388,2162078206,2614888103,3248222580,3835390401,4022224774,264347078,604807628,770255983,1249150122,1555081692,1996064986,2554220882,
 2821834349,2952996808,3210313671,3336571891,3584528711,113926993,338241895,666307205,773529912,1294757372,1396182291,1695183700,1986661051,
 2177026350,2456956037,2730485921,2820302411,3259730800,3345764771,3516065817,3600352804,4094571909,275423344,430227734,506948616,659060556,
 883997877,958139571,1322822218,1537002063,1747873779,1955562222,2024104815,2227730452,2361852424,2428436474,2756734187,3204031479,3329325298]
 s_1.1).bind fun r_4=>(idxM s_1.2 ↑(nat_lit 0)).bind fun r_5=>(idxM s_1.2 ↑(nat_lit 4)).bind fun r_6=>(idxM s_1.2 ↑(nat_lit 7)).bind fun r_7=>(m86
 (r_6,[6,11,25])).bind fun r_8=>(idxM s_1.2 ↑(nat_lit 5)).bind fun r_9=>(idxM s_1.2 ↑(nat_lit 6)).bind fun r_10=>(chkM s_1.1 ↑(nat_lit 64)).bind fun
 r_11=>(idxM [nthD o_3 (nat_lit 0) 0,nthD o_3 (nat_lit 1) 0,nthD o_3 (nat_lit 2) 0,nthD o_3 (nat_lit 3) 0,nthD o_3 (nat_lit 4) 0,nthD o_3 (nat_lit 5) 0,
 nthD o_3 (nat_lit 6) 0,nthD o_3 (nat_lit 7) 0,nthD o_3 (nat_lit 8) 0,nthD o_3 (nat_lit 9) 0,nthD o_3 (nat_lit 10) 0,nthD o_3 (nat_lit 11) 0,nthD o_3
 (nat_lit 12) 0,nthD o_3 (nat_lit 13) 0,nthD o_3 (nat_lit 14) 0,nthD o_3 (nat_lit 15) 0,nthD o_3 (nat_lit 16) 0,nthD o_3 (nat_lit 17) 0,nthD o_3 (nat_lit
 18) 0,nthD o_3 (nat_lit 19) 0,nthD o_3 (nat_lit 20) 0,nthD o_3 (nat_lit 21) 0,nthD o_3 (nat_lit 22) 0,nthD o_3 (nat_lit 23) 0,nthD o_3 (nat_lit 24) 0,
 nthD o_3 (nat_lit 25) 0,nthD o_3 (nat_lit 26) 0,nthD o_3 (nat_lit 27) 0,nthD o_3 (nat_lit 28) 0,nthD o_3 (nat_lit 29) 0,nthD o_3 (nat_lit 30) 0,nthD o_3
 (nat_lit 31) 0,nthD o_3 (nat_lit 32) 0,nthD o_3 (nat_lit 33) 0,nthD o_3 (nat_lit 34) 0,nthD o_3 (nat_lit 35) 0,nthD o_3 (nat_lit 36) 0,nthD o_3 (nat_lit
 37) 0,nthD o_3 (nat_lit 38) 0,nthD o_3 (nat_lit 39) 0,nthD o_3 (nat_lit 40) 0,nthD o_3 (nat_lit 41) 0,nthD o_3 (nat_lit 42) 0,nthD o_3 (nat_lit 43) 0,
 nthD o_3 (nat_lit 44) 0,nthD o_3 (nat_lit 45) 0,nthD o_3 (nat_lit 46) 0,nthD o_3 (nat_lit 47) 0,nthD o_3 (nat_lit 48) 0,nthD o_3 (nat_lit 49) 0,nthD o_3
 (nat_lit 50) 0,nthD o_3 (nat_lit 51) 0,nthD o_3 (nat_lit 52) 0,nthD o_3 (nat_lit 53) 0,nthD o_3 (nat_lit 54) 0,nthD o_3 (nat_lit 55) 0,nthD o_3 (nat_lit
 56) 0,nthD o_3 (nat_lit 57) 0,nthD o_3 (nat_lit 58) 0,nthD o_3 (nat_lit 59) 0,nthD o_3 (nat_lit 60) 0,nthD o_3 (nat_lit 61) 0,nthD o_3 (nat_lit 62) 0,
 nthD o_3 (nat_lit 63) 0] (↑(nat_lit 0)+s_1.1*↑(nat_lit 1))).bind fun r_12=>(m86 (r_5,[2,13,22])).bind fun r_13=>(idxM s_1.2 ↑(nat_lit 1)).bind fun
 r_14=>(idxM s_1.2 ↑(nat_lit 2)).bind fun r_15=>(idxM s_1.2 ↑(nat_lit 1)).bind fun r_16=>(idxM s_1.2 ↑(nat_lit 2)).bind fun r_17=>(idxM (moveV s_1.2
 (nat_lit 1) (nat_lit 0) (nat_lit 7)) ↑(nat_lit 4)).bind fun r_18=>(setM (moveV s_1.2 (nat_lit 1) (nat_lit 0) (nat_lit 7)) ↑(nat_lit 0) fun (x:Int)=>some
 (wrap .u32 (wrap .u32 (wrap .u32 (wrap .u32 (wrap .u32 (r_7+r_8)+bitM BinOp.xor .u32 (bitM BinOp.and IntKind.u32
 r_6 r_9) (bitM BinOp.and .u32 (cplM .u32 r_6) r_10))+r_4)+r_12)+wrap .u32 (r_13+bitM BinOp.xor .u32 (bitM BinOp.xor
 IntKind.u32 (bitM BinOp.and .u32 r_5 r_14) (bitM BinOp.and .u32 r_5 r_15)) (bitM BinOp.and .u32 r_16 r_17))))).bind fun r_19=>(setM
 r_19 ↑(nat_lit 4) fun (x:Int)=>some (wrap .u32 (r_18+wrap .u32 (wrap .u32 (wrap .u32 (wrap .u32 (r_7+r_8)+bitM
 BinOp.xor IntKind.u32 (bitM BinOp.and .u32 r_6 r_9) (bitM BinOp.and .u32 (cplM .u32 r_6) r_10))+r_4)+r_12)))).bind fun r=>some
 (Sum.inl (wrap .i64 (s_1.1+1),r)) else some (Sum.inr s_1.2)) (0,[nthD s.2.1 (nat_lit 0) 0,nthD s.2.1 (nat_lit 1) 0,nthD s.2.1 (nat_lit 2) 0,nthD
 s.2.1 (nat_lit 3) 0,nthD s.2.1 (nat_lit 4) 0,nthD s.2.1 (nat_lit 5) 0,nthD s.2.1 (nat_lit 6) 0,nthD s.2.1 (nat_lit 7) 0])).bind fun o_4=>(loopM (fun
 (s_1:Int×List Int)=>bif ltM s_1.1 8 then (chkM s_1.1 ↑(nat_lit 8)).bind fun r_4=>(idxM s_1.2 (↑(nat_lit 0)+s_1.1*↑(nat_lit 1))).bind fun r_5 =>
 (chkM s_1.1 ↑(nat_lit 8)).bind fun r_6=>(idxM o_4 (↑(nat_lit 0)+s_1.1*↑(nat_lit 1))).bind fun r_7=>(chkM s_1.1 ↑(nat_lit 8)).bind fun r_8=>(setM
 s_1.2 (↑(nat_lit 0)+s_1.1*↑(nat_lit 1)) fun (x:Int)=>some (wrap .u32 (r_5+r_7))).bind fun r=>some (Sum.inl (wrap .i64 (s_1.1+1),
 r)) else some (Sum.inr s_1.2)) (0,s.2.1)).bind fun o=>some (Sum.inl (wrap .i64 (s.1+64),o,s.2.2)) else some (Sum.inr (s.2.1,s.2.2))) (0,
 [1779033703,3144134277,1013904242,2773480762,1359893119,2600822924,528734635,1541459225],o_1)).bind fun o_2=>(m80 (nthD o_2.1 (nat_lit 0) 0,nthD
 o_2.1 (nat_lit 1) 0,nthD o_2.1 (nat_lit 2) 0,nthD o_2.1 (nat_lit 3) 0,nthD o_2.1 (nat_lit 4) 0,nthD o_2.1 (nat_lit 5) 0,nthD o_2.1 (nat_lit 6) 0,nthD
 o_2.1 (nat_lit 7) 0)).bind fun r=>some r
theorem c71:SpecOK Tryd.prog 71 ⟨as71,rs71,m71⟩ :=
 fc tabs80OK [3] an71 Tryd.f71 fun x=>by kernel_rfl
def tabs71:Tabs:=Tabs.add tabs80 71 ⟨as71,rs71,m71⟩
theorem tabs71OK:TabOK Tryd.prog tabs71:=TabOK.add tabs80OK c71 Tryd.call71

/-! putlog/digest.Chain -/
def as53:List Ty:=[.str,.str]
def rs53:List Ty:=[.str]
def an53:Ann:=.seq (.a) (.seq (.reg [] [] [.r,z0,z0,z0,.r,z0] (.call [] [] (.seq (.a) (.a)) (.call [] [] (.seq (.a) (.seq (.reg [0,0,2,7,15,31] (ra 0 6 ([])) (.s [0] []::za 5 ([])) (.a)) (.a))) (.a)))) (.a))
def m53:(List UInt8×List UInt8)→Option (List UInt8) :=
 fun x=>(joinM [x.1,x.2] []).bind fun r=>(catM [(2:UInt8)] r).bind fun r_1=>(m71 r_1).bind fun r=>some r
theorem c53:SpecOK Tryd.prog 53 ⟨as53,rs53,m53⟩ :=
 fc tabs71OK [] an53 Tryd.f53 fun x=>by kernel_rfl
def tabs53:Tabs:=Tabs.add tabs71 53 ⟨as53,rs53,m53⟩
theorem tabs53OK:TabOK Tryd.prog tabs53:=TabOK.add tabs71OK c53 Tryd.call53

/-! putlog/wire.PutInt -/
def as65:List Ty:=[tI]
def rs65:List Ty:=[.str,tI]
def an65:Ann:=.seq (.a) (.seq (.a) (.seq (.a) (.seq (.seq (.reg [] [] [z0,z0,z0,z0,z0,z0,z0,.r] (.call [] [] (.seq (.a) (.a)) (.a))) (.block (.call [] [] (.block (.loop ⟨[],(ra 3 15 ([])),[(0,.box [.h 3]),(1,.box [.d (.d (.int .u64))]),(2,.lp .ready)],[.arr (.int .u8)]⟩ [(.ret,⟨[],(ra 3 15 ([])),[(0,.box [.h 3]),(1,.box [.d (.d (.int .u64))]),(2,.lp .ready)],[.arr (.int .u8)]⟩)] (.block (.seq (.a) (.seq (.seq (.reg [] [] [z0,.s [1] [],z0,z0,z0,.r,z0,z0,z0,z0] (.call [] [] (.seq (.a) (.block (.seq (.join [(.norm,⟨[(5,.r (.c (.d (.d (.int .u8)))))],[23,24,25,26],[],[]⟩)] (.a)) (.a)))) (.gq z0 (.a) (.a)))) (.a)) (.a)))))) (.a)))) (.a))))
def m65:Int→Option (List UInt8×Int) :=
 fun x=>bif PE.orM (ltM x (-4611686018427387903)) (ltM 4611686018427387903 x) then some ([],10) else (shlM .u64 (wrap .u64 x) 1).bind fun r =>
 (shrM .i64 x 63).bind fun r_1=>(loopM (fun (s:Int×List Int)=>(bif PE.notM (ltM s.1 128) then some (bitM BinOp.or .u8 (wrap IntKind.u8
 (bitM BinOp.and .u64 s.1 127)) 128) else some (wrap .u8 (bitM BinOp.and .u64 s.1 127))).bind fun o=>(appM (nat_lit 1) s.2 [o]).bind fun
 r_2=>bif PE.orM false (ltM s.1 128) then some (Sum.inr (s.1,r_2)) else (shrM .u64 s.1 7).bind fun r=>some (Sum.inl (r,r_2))) (bitM BinOp.xor
 IntKind.u64 r (wrap .u64 r_1),[])).bind fun o=>some (strB o.2,0)
theorem c65:SpecOK Tryd.prog 65 ⟨as65,rs65,m65⟩ :=
 fc tabs53OK [] an65 Tryd.f65 fun x=>by kernel_rfl
def tabs65:Tabs:=Tabs.add tabs53 65 ⟨as65,rs65,m65⟩
theorem tabs65OK:TabOK Tryd.prog tabs65:=TabOK.add tabs53OK c65 Tryd.call65

/-! putlog/wire.PutString -/
def as54:List Ty:=[.str]
def rs54:List Ty:=[.str,tI]
def an54:Ann:=.a
def m54:List UInt8→Option (List UInt8×Int) :=
 fun x=>bif ltM 65536 (lenM x) then some ([],10) else (m65 (lenM x)).bind fun r=>(catM r.1 x).bind fun r=>some (r,0)
theorem c54:SpecOK Tryd.prog 54 ⟨as54,rs54,m54⟩ :=
 fc tabs65OK [] an54 Tryd.f54 fun x=>by kernel_rfl
def tabs54:Tabs:=Tabs.add tabs65 54 ⟨as54,rs54,m54⟩
theorem tabs54OK:TabOK Tryd.prog tabs54:=TabOK.add tabs65OK c54 Tryd.call54

/-! putlog/journal.open -/
def pa22:List SR:=[.c (.h 1),.c (.d (.d .str))]
def po22:List SO:=[.opt [.d (.d .bool),.d (.d tI),.h 2,.h 3,.h 4],.arr (.int .u8),.arr (.int .u8),.arr (.pair tI .str)]
def pk22:Skel:=⟨[(1000000,.t [.c (.h 5),.c (.d (.d tI))])],[],[],[.opt [.h 6,.d (.d .str),.d (.d tI),.h 1,.d (.d .bool)],.arr .str]⟩
def an022:Ann:=.a
def anb22:Ann:=.seq (.a) (.seq (.reg [] [] [.s [5] [],z0,z0,z0,.r] (.call [5000000] [] (.block (.loop ⟨[],(ra 4 57 ([])),[(8,.box [.h 9,.d (.d .str),.d (.d tI),.h 1,.d (.d .bool)])],[.arr .str]⟩ [(.exit 0,⟨[],(ra 4 57 ([])),[(8,.box [.h 9,.d (.d .str),.d (.d tI),.h 1,.d (.d .bool)])],[.arr .str]⟩),(.pan 1000155,⟨[],(ra 4 57 ([])),[(8,.box [.h 9,.d (.d .str),.d (.d tI),.h 1,.d (.d .bool)])],[.arr .str]⟩)] (.seq (.a) (.block (.seq (.a) (.seq (.reg [] [] [z0,z0,z0,z0,.r] (.call [5000000] [] (.seq (.a) (.a)) (.a))) (.seq (.a) (.seq (.reg [] [] [z0,z0,z0,z0,z0,z0,z0,z0,z0,.r] (.call [5000000] [] (.seq (.a) (.a)) (.a))) (.reg [0,0,3,0,0,0,32,120,255,511] (ra 0 10 ([])) [z0,z0,.k [10,8,9],z0,z0,z0,z0,z0,z0,.r] (.kp [5000000] ⟨[(53,.r (.c (.d (.d .str))))],[],[(8,.box [.h 10,.d (.d .str),.d (.d tI),.h 1,.d (.d .bool)]),(9,.gone)],[.arr .str]⟩ (.seq (.a) (.seq (.a) (.seq (.a) (.seq (.a) (.seq (.reg [0,1,0,7,0,16,48,112,255,511] (ra 0 10 ([])) (za 7 (.s [8] []::z0::z0::[])) (.a)) (.a)))))) (.call [5000000] [] (.seq (.a) (.a)) (.a)))))))))))) (.a))) (.a))
def anN22:Ann:=.seq (.reg [] [] (za 6 ([])) (.gq z0 (.a) (.gq z0 (.a) (.gq z0 (.a) (.a))))) (.a)
def anP22:Ann:=.seq (.reg [] [] (za 6 ([])) (.gq z0 (.gq z0 (.gq z0 (.a) (.a)) (.a)) (.a))) (.a)
def m22:(List UInt8×Bool×Bool×Int×List Int×List Int×List (Int×List UInt8))→Option (Int×Bool×List UInt8×Int×Bool×List (List UInt8)) :=
 fun x=>((nonM x.2.1).bind fun (x:Unit)=>some ()).bind fun (x_1:Unit)=>(mkM 32 32 (nat_lit 1) 0).bind fun r=>(loopM (fun (s:List UInt8×Int×Bool
 × List (List UInt8))=>(bif ltM s.2.1 (lenM x.1) then byteM x.1 s.2.1 else some 0).bind fun r_1=>bif PE.andM (ltM s.2.1 (lenM x.1)) (PE.notM (eqM r_1 0))
 then (byteM x.1 s.2.1).bind fun r_2=>bif PE.notM (eqM r_2 1) then some (Sum.inr (Sum.inr (s.1,s.2.1,s.2.2.1,s.2.2.2))) else (m58 (x.1,wrap IntKind.i64
 (s.2.1+1))).bind fun r_3=>bif PE.notM (PE.andM (eqM r_3.2.2 0) (leM (wrap .i64 (r_3.2.1+32)) (lenM x.1))) then some (Sum.inr (Sum.inr (s.1,
 s.2.1,s.2.2.1,s.2.2.2))) else ((m53 (s.1,r_3.1)).bind fun r_4=>(appM (nat_lit 16) s.2.2.2 [r_3.1]).bind fun r_5=>(m54 r_3.1).bind fun r_6=>(catM
 (strB [1]) r_6.1).bind fun r_7=>(catM r_7 r_4).bind fun r=>some (r,r_4,wrap .i64 (s.2.1+lenM r),s.2.2.1,r_5)).bind fun (ov:List UInt8 ×
 List UInt8×Int×Bool×List (List UInt8))=>(sliceM x.1 s.2.1 (wrap .i64 (r_3.2.1+32))).bind fun r=>bif PE.notM (eqsM ov.1 r) then some
 (Sum.inr (Sum.inr (ov.2.1,ov.2.2.1,ov.2.2.2.1,ov.2.2.2.2))) else some (Sum.inl (ov.2.1,ov.2.2.1,ov.2.2.2.1,ov.2.2.2.2)) else some (Sum.inr (Sum.inl
 (s.1,s.2.1,s.2.2.1,s.2.2.2)))) (strB r,0,false,[])).bind fun o=>Sum.elim (fun (t:List UInt8×Int×Bool×List (List UInt8))=>some (0,false,
 t.1,t.2.1,t.2.2.1,t.2.2.2)) (fun (t:List UInt8×Int×Bool×List (List UInt8))=>some (372,true,[],0,false,[])) o
theorem cp22:PSpecOK Tryd.prog 22 ⟨pa22,po22,pk22,[1],m22⟩ :=
 fnT_ok (own:=[5000000]) (a0:=an022) (a1:=anb22) (aN:=anN22) (aP:=anP22) (n:=400) tabs54OK (F:=OPS) OPS_sound OPS_nice (f:=22) (g:=38) (fn:=Tryd.f22) (fg:=Tryd.f38) (s2:=4) (s3:=5) (sf:=6) (It:=69) (Te:=155) (fe:=39)
 (by kernel_rfl) rfl (by kernel_rfl) (by kernel_rfl) rfl rfl rfl rfl rfl rfl (by kernel_rfl) (by kernel_rfl) rfl rfl rfl rfl rfl rfl rfl rfl rfl rfl rfl rfl rfl rfl rfl rfl rfl rfl rfl rfl rfl rfl rfl (by kernel_rfl) (by kernel_rfl) fun G w0 x=>by kernel_rfl
def tabs22:Tabs:=Tabs.addP tabs54 22 ⟨pa22,po22,pk22,[1],m22⟩
theorem tabs22OK:TabOK Tryd.prog tabs22:=TabOK.addP tabs54OK cp22

/-! (*putlog/disk.Disk).Write -/
def pa19:List SR:=[.c (.h 1),.c (.d (.d tI)),.c (.d (.d .str))]
def po19:List SO:=[.opt [.d (.d .bool),.d (.d tI),.h 2,.h 3,.h 4],.arr (.int .u8),.arr (.int .u8),.arr (.pair tI .str)]
def pk19:Skel:=⟨[(1000000,.r (.c (.d (.d tI))))],[],[(1,.box [.d (.d .bool),.d (.d tI),.h 2,.h 3,.h 5]),(3,.arr (.int .u8)),(4,.gone)],[.arr (.pair tI .str)]⟩
def an19:Ann:=.seq (.a) (.seq (.seq (.reg [] [] [z0,.r,z0] (.call [5000000] [(.norm,⟨[(10,.r (.c (.d (.d tI))))],[],[],[]⟩)] (.seq (.a) (.a)) (.a))) (.a)) (.seq (.seq (.reg [] [] [z0,z0,z0,z0,.r,z0] (.call [5000000] [] (.seq (.a) (.a)) (.a))) (.a)) (.seq (.a) (.seq (.reg [0,0,2,6,14,0,32,126,255,511,1023] (ra 0 11 ([])) [z0,z0,.s [1] [],z0,.s [1] [],.s [5] [],z0,.s [4] [6,4],.s [1] [],z0,.s [1,6] [1]] (.a)) (.seq (.reg [0,0,2,6,14,31] (ra 0 6 ([])) [.s [5] [],z0,.s [1] [],z0,.s [1] [],.r] (.call [2000007,5000000] [] (.seq (.a) (.reg [0,0,2,7,0,16,63] (ra 0 7 ([])) [z0,z0,.s [7] [],.s [3] [],z0,.s [7] [],.s [3] [3]] (.a))) (.a))) (.seq (.reg [] [] [z0,.s [1] [],z0,.r] (.call [5000000] [(.norm,⟨[(42,.t [])],[],[(1,.box [.d (.d .bool),.d (.d tI),.h 2,.h 3,.h 6])],[]⟩)] (.seq (.a) (.a)) (.a))) (.a)))))))
def m19:(Int×List UInt8×Bool×Bool×Int×List Int×List Int×List (Int×List UInt8))→Option (Int×Bool×Int×List Int×List (Int×List UInt8)) :=
 fun x=>((nonM x.2.2.1).bind fun (x:Unit)=>some ()).bind fun (x_1:Unit)=>(bif x.2.2.2.1 then some 361 else some 0).bind fun (ov:Int)=>bif PE.notM
 (eqM ov 0) then some (ov,x.2.2.2.1,x.2.2.2.2.1,x.2.2.2.2.2.2.1,x.2.2.2.2.2.2.2) else bif PE.notM (PE.andM (PE.andM (PE.andM (leM 0 x.1) (leM 0 (lenM
 x.2.1))) (leM x.1 (lenM x.2.2.2.2.2.1))) (leM (lenM x.2.1) (wrap .i64 (lenM x.2.2.2.2.2.1-x.1)))) then some (360,x.2.2.2.1,x.2.2.2.2.1,
 x.2.2.2.2.2.2.1,x.2.2.2.2.2.2.2) else (appM (nat_lit 24) x.2.2.2.2.2.2.2 [(x.1,x.2.1)]).bind fun r=>(chkM x.1 (lenM x.2.2.2.2.2.2.1)).bind fun r_1 =>
 (putM x.2.2.2.2.2.2.1 x.1 (byteI x.2.1)).bind fun r_2=>(bif eqM x.2.2.2.2.1 0 then some (x.2.2.2.1,x.2.2.2.2.1) else some (eqM (wrap IntKind.i64
 (x.2.2.2.2.1-1)) 0,wrap .i64 (x.2.2.2.2.1-1))).bind fun (ov:Bool×Int)=>some (0,ov.1,ov.2,r_2,r)
theorem cp19:PSpecOK Tryd.prog 19 ⟨pa19,po19,pk19,[1],m19⟩ :=
 fnP_ok (own:=[5000000]) (an:=an19) (n:=400) tabs22OK (F:=OPS) OPS_sound OPS_nice (f:=19) (fn:=Tryd.f19) (code:=Tryd.f19.body.getD .skip) (by kernel_rfl) (by kernel_rfl) (by kernel_rfl) (by kernel_rfl) fun G w0 x=>by kernel_rfl
def tabs19:Tabs:=Tabs.addP tabs22 19 ⟨pa19,po19,pk19,[1],m19⟩
theorem tabs19OK:TabOK Tryd.prog tabs19:=TabOK.addP tabs22OK cp19

/-! (*putlog/disk.Disk).Sync -/
def pa26:List SR:=[.c (.h 1)]
def po26:List SO:=[.opt [.d (.d .bool),.d (.d tI),.h 2,.h 3,.h 4],.arr (.int .u8),.arr (.int .u8),.arr (.pair tI .str)]
def pk26:Skel:=⟨[(1000000,.r (.c (.d (.d tI))))],[],[(1,.box [.d (.d .bool),.d (.d tI),.h 2,.h 3,.h 5]),(2,.arr (.int .u8)),(4,.gone)],[.arr (.pair tI .str)]⟩
def an26:Ann:=.seq (.a) (.seq (.reg [] [] [z0,.r,z0] (.call [5000000] [(.norm,⟨[(5,.r (.c (.d (.d tI))))],[],[],[]⟩)] (.seq (.a) (.a)) (.a))) (.seq (.join [(.norm,⟨[],(ra 6 12 ([])),[(1,.box [.d (.d .bool),.d (.d tI),.h 2,.h 3,.h 5]),(2,.arr (.int .u8)),(4,.gone)],[.arr (.pair tI .str)]⟩)] (.seq (.a) (.cond (.reg [0,0,2,6,14,0,32,96,224,511] (ra 0 10 ([])) [z0,z0,.s [1] [],z0,.s [1] [],z0,.s [1] [],z0,.s [1] [],.r] (.call [2000018,5000000] [] (.seq (.a) (.a)) (.a))) (.a)))) (.a)))
def m26:(Bool×Bool×Int×List Int×List Int×List (Int×List UInt8))→Option (Int×Bool×Int×List Int×List (Int×List UInt8)) :=
 fun x=>((nonM x.1).bind fun (x:Unit)=>some ()).bind fun (x_1:Unit)=>(bif x.2.1 then some 361 else some 0).bind fun (ov:Int)=>(bif eqM ov 0 then
 (sliceM (zerosL x.2.2.2.2.2 (0,[])) 0 0).bind fun r=>some (x.2.1,x.2.2.1,copyM x.2.2.2.1 x.2.2.2.2.1,r) else some (x.2.1,x.2.2.1,x.2.2.2.1,
 x.2.2.2.2.2)).bind fun o=>some (ov,o.1,o.2.1,o.2.2.1,o.2.2.2)
theorem cp26:PSpecOK Tryd.prog 26 ⟨pa26,po26,pk26,[1],m26⟩ :=
 fnP_ok (own:=[5000000]) (an:=an26) (n:=400) tabs19OK (F:=OPS) OPS_sound OPS_nice (f:=26) (fn:=Tryd.f26) (code:=Tryd.f26.body.getD .skip) (by kernel_rfl) (by kernel_rfl) (by kernel_rfl) (by kernel_rfl) fun G w0 x=>by kernel_rfl
def tabs26:Tabs:=Tabs.addP tabs19 26 ⟨pa26,po26,pk26,[1],m26⟩
theorem tabs26OK:TabOK Tryd.prog tabs26:=TabOK.addP tabs19OK cp26

/-! putlog/journal.Open -/
def pa8:List SR:=[.c (.h 1)]
def po8:List SO:=[.opt [.d (.d .bool),.d (.d tI),.h 2,.h 3,.h 4],.arr (.int .u8),.arr (.int .u8),.arr (.pair tI .str)]
def pk8:Skel:=⟨[(1000000,.t [.c (.h 5),.c (.d (.d tI))])],[],[(1,.box [.d (.d .bool),.d (.d tI),.h 2,.h 3,.h 7]),(2,.arr (.int .u8)),(3,.arr (.int .u8)),(4,.gone)],[.opt [.h 6,.d (.d .str),.d (.d tI),.h 1,.d (.d .bool)],.arr .str,.arr (.pair tI .str)]⟩
def an8:Ann:=.seq (.a) (.seq (.a) (.seq (.reg [] [] [z0,z0,.k [1,2,3,4],.k [1,2,3,4],z0,z0,z0,z0,z0] (.ct (.ct (.a)))) (.seq (.a) (.seq (.reg [] [] [z0,z0,.k [1,2,3,4,8,9],z0,z0,z0,z0,z0] (.ct (.a))) (.seq (.a) (.seq (.join [(.norm,⟨[(5,.r (.c (.d (.d tI))))],(ra 28 30 ([])),[(1,.box [.d (.d .bool),.d (.d tI),.h 2,.h 3,.h 10]),(2,.arr (.int .u8)),(3,.arr (.int .u8)),(4,.gone)],[.arr (.pair tI .str)]⟩)] (.seq (.a) (.cond (.reg [0,0,2,6,14,30,0,64,0,256,768,1792,3840,8128,16320,32704,65535,0,131072,524287,1048575,2097151] (ra 0 22 ([])) [z0,z0,.s [8] [],z0,z0,.s [8] [],z0,z0,z0,.s [8] [],z0,z0,.s [8] [],z0,.s [] [10],.s [10] [],.k [11,12,13],z0,z0,.s [11,12,13,1] [14],.k [15,1,2,3,4],z0] (.kp [5000000] ⟨[(53,.r (.c (.f 48 [] [.p 11 0,.p 12 0,.p 13 0])))],[],[],[.box [.h 8],.box [.d (.d tI)],.box [.d (.d .str)]]⟩ (.seq (.a) (.a)) (.kp [5000000] ⟨[(57,.r (.c (.d (.d tI))))],[],[(1,.box [.d (.d .bool),.d (.d tI),.h 2,.h 3,.h 15]),(2,.arr (.int .u8)),(3,.arr (.int .u8)),(4,.gone)],[.arr (.pair tI .str)]⟩ (.seq (.a) (.seq (.seq (.a) (.block (.seq (.seq (.a) (.seq (.a) (.seq (.block (.seq (.a) (.seq (.reg [] [] [z0,.r,z0] (.call [5000000] [] (.seq (.a) (.seq (.reg [0,1,3,7,0,0,63,127] (ra 0 8 ([])) [.s [11] [],.s [8] [],z0,.s [8] [],.s [12] [],.s [13] [],.k [1,2,3,4,16],z0] (.ct (.a))) (.a))) (.a))) (.a)))) (.a)))) (.seq (.seq (.a) (.seq (.a) (.seq (.block (.seq (.a) (.seq (.reg [] [] [z0,.k [1,2,3,16,18],z0] (.ct (.a))) (.a)))) (.a)))) (.seq (.a) (.join [] (.a))))))) (.a))) (.a)))) (.a)))) (.a)))))))
def m8:(Bool×Bool×Int×List Int×List Int×List (Int×List UInt8))→Option (Int×Bool×Int×List Int×List Int×Bool×List UInt8×Int×Bool×List (List UInt8)×List (Int×List UInt8)) :=
 fun x=>((nonM x.1).bind fun (x:Unit)=>some ()).bind fun (x_1:Unit)=>(m21 (false,x.2.1,x.2.2.1,x.2.2.2.1,x.2.2.2.2.1,x.2.2.2.2.2)).bind fun r =>
 (m20 (0,r,false,x.2.1,x.2.2.1,x.2.2.2.1,x.2.2.2.2.1,x.2.2.2.2.2)).bind fun r_1=>bif PE.notM (eqM r_1.2 0) then some (r_1.2,x.2.1,x.2.2.1,
 x.2.2.2.1,x.2.2.2.2.1,true,[],0,false,[],x.2.2.2.2.2) else (m22 (r_1.1,false,x.2.1,x.2.2.1,x.2.2.2.1,x.2.2.2.2.1,x.2.2.2.2.2)).bind fun r_2 =>
 bif PE.notM (eqM r_2.1 0) then some (r_2.1,x.2.1,x.2.2.1,x.2.2.2.1,x.2.2.2.2.1,true,[],0,false,[],x.2.2.2.2.2) else ((nonM r_2.2.1).bind fun r_3 =>
 ((nonM r_2.2.1).bind fun (x:Unit)=>some ()).bind fun r_4=>(sliceM r_1.1 r_2.2.2.2.1 (lenM r_1.1)).bind fun r_5=>(trimM r_5 [(0:UInt8)]).bind fun r_6
 => bif PE.notM (eqsM r_6 []) then (nonM r_2.2.1).bind fun r_7=>((nonM r_2.2.1).bind fun (x:Unit)=>some ()).bind fun r_8=>(nonM r_2.2.1).bind fun r_9
 => ((nonM r_2.2.1).bind fun (x:Unit)=>some ()).bind fun r_10=>(mkM (wrap .i64 (lenM r_1.1-r_2.2.2.2.1)) (wrap .i64 (lenM r_1.1 -
 r_2.2.2.2.1)) (nat_lit 1) 0).bind fun r_11=>((nonM r_2.2.1).bind fun r_12=>((nonM r_2.2.1).bind fun (x:Unit)=>some ()).bind fun r=>(m19
 (r_2.2.2.2.1,strB r_11,false,x.2.1,x.2.2.1,x.2.2.2.1,x.2.2.2.2.1,x.2.2.2.2.2)).bind fun r=>bif PE.notM (eqM r.1 0) then some (r.1,r.2.1,r.2.2.1,
 x.2.2.2.1,r.2.2.2.1,r.2.2.2.2) else (m26 (false,r.2.1,r.2.2.1,x.2.2.2.1,r.2.2.2.1,r.2.2.2.2)).bind fun r_13=>bif PE.notM (eqM r_13.1 0) then some
 (r_13.1,r_13.2.1,r_13.2.2.1,r_13.2.2.2.1,r.2.2.2.1,r_13.2.2.2.2) else some (0,r_13.2.1,r_13.2.2.1,r_13.2.2.2.1,r.2.2.2.1,r_13.2.2.2.2)).bind fun (ov
 : Int×Bool×Int×List Int×List Int×List (Int×List UInt8))=>some (ov.1,ov.2.1,ov.2.2.1,ov.2.2.2.1,ov.2.2.2.2.1,ov.2.2.2.2.2) else some (r_2.1,
 x.2.1,x.2.2.1,x.2.2.2.1,x.2.2.2.2.1,x.2.2.2.2.2)).bind fun o=>bif PE.notM (eqM o.1 0) then some (o.1,o.2.1,o.2.2.1,o.2.2.2.1,o.2.2.2.2.1,true,[],
 0,false,[],o.2.2.2.2.2) else some (0,o.2.1,o.2.2.1,o.2.2.2.1,o.2.2.2.2.1,r_2.2.1,r_2.2.2.1,r_2.2.2.2.1,r_2.2.2.2.2.1,r_2.2.2.2.2.2,o.2.2.2.2.2)
theorem cp8:PSpecOK Tryd.prog 8 ⟨pa8,po8,pk8,[1],m8⟩ :=
 fnP_ok (own:=[5000000]) (an:=an8) (n:=400) tabs26OK (F:=OPS) OPS_sound OPS_nice (f:=8) (fn:=Tryd.f8) (code:=Tryd.f8.body.getD .skip) (by kernel_rfl) (by kernel_rfl) (by kernel_rfl) (by kernel_rfl) fun G w0 x=>by kernel_rfl
def tabs8:Tabs:=Tabs.addP tabs26 8 ⟨pa8,po8,pk8,[1],m8⟩
theorem tabs8OK:TabOK Tryd.prog tabs8:=TabOK.addP tabs26OK cp8

/-! (*putlog/journal.Journal).Records -/
def pa13:List SR:=[.c (.h 1)]
def po13:List SO:=[.opt [.h 2,.d (.d .str),.d (.d tI),.h 3,.d (.d .bool)],.arr .str,.opt [.d (.d .bool),.d (.d tI),.h 4,.h 5,.h 6],.arr (.int .u8),.arr (.int .u8),.arr (.pair tI .str)]
def pk13:Skel:=⟨[(1000000,.r (.c (.h 7)))],[],[],[.arr .str]⟩
def an13:Ann:=.a
def m13:(Bool×List UInt8×Int×Bool×List (List UInt8)×Bool×Bool×Int×List Int×List Int×List (Int×List UInt8))→Option (List (List UInt8)) :=
 fun x=>((nonM x.1).bind fun (x_1:Unit)=>(nonM x.2.2.2.2.2.1).bind fun (x:Unit)=>some ()).bind fun (x_1:Unit)=>(mo30 x.2.2.2.2.1).bind fun r =>
 some r
theorem cp13:PSpecOK Tryd.prog 13 ⟨pa13,po13,pk13,[1,3],m13⟩ :=
 fnP_ok (own:=[5000000]) (an:=an13) (n:=400) tabs8OK (F:=OPS) OPS_sound OPS_nice (f:=13) (fn:=Tryd.f13) (code:=Tryd.f13.body.getD .skip) (by kernel_rfl) (by kernel_rfl) (by kernel_rfl) (by kernel_rfl) fun G w0 x=>by kernel_rfl
def tabs13:Tabs:=Tabs.addP tabs8 13 ⟨pa13,po13,pk13,[1,3],m13⟩
theorem tabs13OK:TabOK Tryd.prog tabs13:=TabOK.addP tabs8OK cp13

/-! (*putlog/journal.Journal).Room -/
def pa12:List SR:=[.c (.h 1)]
def po12:List SO:=[.opt [.h 2,.d (.d .str),.d (.d tI),.h 3,.d (.d .bool)],.arr .str,.opt [.d (.d .bool),.d (.d tI),.h 4,.h 5,.h 6],.arr (.int .u8),.arr (.int .u8),.arr (.pair tI .str)]
def pk12:Skel:=⟨[(1000000,.r (.c (.d (.d tI))))],[],[(3,.box [.d (.d .bool),.d (.d tI),.h 4,.h 5,.h 6]),(4,.arr (.int .u8)),(5,.arr (.int .u8)),(6,.arr (.pair tI .str))],[]⟩
def an12:Ann:=.seq (.a) (.seq (.a) (.seq (.reg [0,1,3,7,15,0,32,96,224,480,1023,2047] (ra 0 12 ([])) [z0,.s [1] [],z0,.s [1] [],.k [3,4,5,6],z0,.s [1] [],z0,z0,.s [1] [],z0,z0] (.ct (.a))) (.a)))
def m12:(Bool×List UInt8×Int×Bool×List (List UInt8)×Bool×Bool×Int×List Int×List Int×List (Int×List UInt8))→Option (Int×Bool×Int×List Int×List Int×List (Int×List UInt8)) :=
 fun x=>((nonM x.1).bind fun (x_1:Unit)=>(nonM x.2.2.2.2.2.1).bind fun (x:Unit)=>some ()).bind fun (x_1:Unit)=>(m21 (false,x.2.2.2.2.2.2.1,
 x.2.2.2.2.2.2.2.1,x.2.2.2.2.2.2.2.2.1,x.2.2.2.2.2.2.2.2.2.1,x.2.2.2.2.2.2.2.2.2.2)).bind fun r=>some (wrap .i64 (r-x.2.2.1),x.2.2.2.2.2.2.1,
 x.2.2.2.2.2.2.2.1,x.2.2.2.2.2.2.2.2.1,x.2.2.2.2.2.2.2.2.2.1,x.2.2.2.2.2.2.2.2.2.2)
theorem cp12:PSpecOK Tryd.prog 12 ⟨pa12,po12,pk12,[1,3],m12⟩ :=
 fnP_ok (own:=[5000000]) (an:=an12) (n:=400) tabs13OK (F:=OPS) OPS_sound OPS_nice (f:=12) (fn:=Tryd.f12) (code:=Tryd.f12.body.getD .skip) (by kernel_rfl) (by kernel_rfl) (by kernel_rfl) (by kernel_rfl) fun G w0 x=>by kernel_rfl
def tabs12:Tabs:=Tabs.addP tabs13 12 ⟨pa12,po12,pk12,[1,3],m12⟩
theorem tabs12OK:TabOK Tryd.prog tabs12:=TabOK.addP tabs13OK cp12

/-! (*putlog/journal.Journal).Append$1 -/
def pa28:List SR:=[.c (.d (.d .str))]
def po28:List SO:=[]
def pk28:Skel:=⟨[(1000000,.r (.c (.d (.d .bool))))],[],[],[]⟩
def an28:Ann:=.a
def m28:List UInt8→Option (Bool) :=
 fun x=>some (ltM 65536 (lenM x))
theorem cp28:PSpecOK Tryd.prog 28 ⟨pa28,po28,pk28,[],m28⟩ :=
 fnP_ok (own:=[5000000]) (an:=an28) (n:=400) tabs12OK (F:=OPS) OPS_sound OPS_nice (f:=28) (fn:=Tryd.f28) (code:=Tryd.f28.body.getD .skip) (by kernel_rfl) (by kernel_rfl) (by kernel_rfl) (by kernel_rfl) fun G w0 x=>by kernel_rfl
def tabs28:Tabs:=Tabs.addP tabs12 28 ⟨pa28,po28,pk28,[],m28⟩
theorem tabs28OK:TabOK Tryd.prog tabs28:=TabOK.addP tabs12OK cp28
end
variable [EA]
noncomputable section

/-! (*putlog/journal.Journal).Append -/
def pa11:List SR:=[.c (.h 1),.c (.d (.d (.list .str)))]
def po11:List SO:=[.opt [.h 2,.d (.d .str),.d (.d tI),.h 3,.d (.d .bool)],.arr .str,.opt [.d (.d .bool),.d (.d tI),.h 4,.h 5,.h 6],.arr (.int .u8),.arr (.int .u8),.arr (.pair tI .str)]
def pk11:Skel:=⟨[(1000000,.r (.c (.d (.d tI))))],[],[(1,.opt [.h 7,.d (.d .str),.d (.d tI),.h 3,.d (.d .bool)]),(2,.gone),(3,.box [.d (.d .bool),.d (.d tI),.h 4,.h 5,.h 8]),(4,.arr (.int .u8)),(5,.arr (.int .u8)),(6,.gone)],[.arr .str,.arr (.pair tI .str)]⟩
def an11:Ann:=.seq (.a) (.seq (.a) (.seq (.a) (.seq (.seq (.reg [] [] [z0,.s [1] [],z0,.s [1] [],z0,z0,z0,.k [],z0] (.call [5000000] [(.norm,⟨[(21,.r (.c (.d (.d .bool))))],[],[],[]⟩)] (.seq (.a) (.seq (.reg [] [] [z0,z0,.r,z0,z0] (.call [5000000] [(.norm,⟨[(7,.r (.c (.d (.d tI))))],[],[],[]⟩)] (.seq (.a) (.seq (.seq (.a) (.block (.loop ⟨[(8,.r (.c (.d (.d tI))))],(5::ra 9 8 (18::[])),[],[]⟩ [(.exit 0,⟨[],(5::ra 8 9 (18::[])),[],[]⟩),(.ret,⟨[(4,.r (.c (.d (.d tI))))],(5::ra 8 11 ([])),[],[]⟩)] (.seq (.a) (.seq (.a) (.seq (.block (.seq (.a) (.seq (.reg [] [] [z0,z0,z0,z0,z0,.k []] (.ct (.a))) (.a)))) (.a))))))) (.a))) (.a))) (.a))) (.a))) (.a)) (.seq (.a) (.seq (.a) (.seq (.a) (.seq (.seq (.a) (.block (.loop ⟨[(33,.r (.c (.d (.d tI))))],(9::ra 34 7 ([])),[(7,.box [.h 10,.d (.d .str),.d (.d tI)]),(8,.gone),(9,.bld 67 5)],[.arr .str]⟩ [(.exit 0,⟨[],(9::ra 33 8 ([])),[(7,.box [.h 10,.d (.d .str),.d (.d tI)]),(8,.gone),(9,.bld 67 5)],[.arr .str]⟩)] (.seq (.a) (.seq (.a) (.seq (.block (.seq (.a) (.reg [] [] [z0,.r,.s [9] [9]] (.call [5000000] [] (.seq (.a) (.seq (.a) (.seq (.a) (.seq (.a) (.seq (.reg [0,1,0,7,0,16,48,112,255,511] (ra 0 10 ([])) (za 7 (.s [7] []::z0::z0::[])) (.a)) (.a)))))) (.a))))) (.a))))))) (.seq (.a) (.seq (.block (.seq (.reg [] [] [z0,z0,z0,.k (ra 1 6 ([])),z0,z0] (.ct (.a))) (.a))) (.seq (.seq (.reg [0,0,2,6,14,30,62,0,128,511,0,1024,3072,7168,15360,0,0,65536,196608,458752,983040,0,2097152,8356863,0,16777216,50331648,117440512,251658240,536870911,1073741823,2147483647] (ra 0 32 ([])) [z0,z0,.s [1] [],z0,z0,.s [1] [],z0,z0,z0,.k [12,13,14],z0,.s [1] [],z0,.s [1] [],z0,z0,z0,.s [1] [],z0,z0,.s [1] [],z0,z0,.k [15,16,17],z0,.s [1] [],z0,.s [1] [],z0,.s [12,13,14,3,15,16,17,3] [18],.k [19,3,4,5,6],z0] (.kp [5000000] ⟨[(60,.r (.c (.f 48 [] [.p 12 0,.p 13 0,.p 14 0])))],[],[],[.box [.h 1],.box [.d (.d tI)],.box [.d (.d .str)]]⟩ (.seq (.a) (.a)) (.kp [5000000] ⟨[(74,.r (.c (.f 48 [] [.p 15 0,.p 16 0,.p 17 0])))],[],[],[.box [.h 1],.box [.d (.d tI)],.box [.d (.d .str)]]⟩ (.seq (.a) (.a)) (.kp [5000000] ⟨[(81,.r (.c (.d (.d tI))))],[],[(3,.box [.d (.d .bool),.d (.d tI),.h 4,.h 5,.h 19]),(4,.arr (.int .u8)),(5,.arr (.int .u8)),(6,.gone)],[.arr (.pair tI .str)]⟩ (.seq (.a) (.seq (.seq (.a) (.block (.seq (.seq (.a) (.seq (.a) (.seq (.block (.seq (.a) (.seq (.reg [] [] [z0,.r,z0] (.call [5000000] [] (.seq (.a) (.seq (.reg [0,1,3,7,0,0,63,127] (ra 0 8 ([])) [.s [12] [],.s [1] [],z0,.s [1] [],.s [13] [],.s [14] [],.k [3,4,5,6,20],z0] (.ct (.a))) (.a))) (.a))) (.a)))) (.a)))) (.seq (.seq (.a) (.seq (.a) (.seq (.block (.seq (.a) (.seq (.reg [] [] [z0,.k [3,4,5,20,22],z0] (.ct (.a))) (.a)))) (.a)))) (.seq (.seq (.a) (.seq (.a) (.seq (.block (.seq (.a) (.seq (.reg [] [] [z0,.r,z0] (.call [5000000] [] (.seq (.a) (.seq (.reg [0,1,3,7,0,0,63,127] (ra 0 8 ([])) [.s [15] [],.s [1] [],z0,.s [1] [],.s [16] [],.s [17] [],.k [3,4,5,22,24],z0] (.ct (.a))) (.a))) (.a))) (.a)))) (.a)))) (.seq (.seq (.a) (.seq (.a) (.seq (.block (.seq (.a) (.seq (.reg [] [] [z0,.k [3,4,5,24,26],z0] (.ct (.a))) (.a)))) (.a)))) (.seq (.a) (.join [] (.a))))))))) (.a))) (.a))))) (.a)) (.a)))))))))))
def m11:(List (List UInt8)×Bool×List UInt8×Int×Bool×List (List UInt8)×Bool×Bool×Int×List Int×List Int×List (Int×List UInt8))→Option (Int×Bool×List UInt8×Int×Bool×Bool×Int×List Int×List Int×List (List UInt8)×List (Int×List UInt8)) :=
 fun x=>((nonM x.2.2.2.2.2.2.1).bind fun (x:Unit)=>some ()).bind fun (x_1:Unit)=>bif x.2.1 then some (1,x.2.1,x.2.2.1,x.2.2.2.1,x.2.2.2.2.1,
 x.2.2.2.2.2.2.2.1,x.2.2.2.2.2.2.2.2.1,x.2.2.2.2.2.2.2.2.2.1,x.2.2.2.2.2.2.2.2.2.2.1,x.2.2.2.2.2.1,x.2.2.2.2.2.2.2.2.2.2.2) else (nonM x.2.1).bind fun r
 => ((nonM x.2.1).bind fun (x:Unit)=>some ()).bind fun r_1=>(bif PE.notM x.2.2.2.2.1 then ((loopM (fun (s:Int)=>bif ltM s (lenM x.1) then (idxM x.1
 s).bind fun r=>(m28 r).bind fun r=>bif r then some (Sum.inr (Sum.inr s)) else some (Sum.inl (wrap .i64 (s+1))) else some (Sum.inr (Sum.inl ())))
 0).bind fun o=>Sum.elim (fun (t:Unit)=>some (-1)) (fun (t:Int)=>some t) o).bind fun (ov:Int)=>some (leM 0 ov) else some false).bind fun (ov :
 Bool)=>bif PE.orM x.2.2.2.2.1 ov then some (370,x.2.1,x.2.2.1,x.2.2.2.1,x.2.2.2.2.1,x.2.2.2.2.2.2.2.1,x.2.2.2.2.2.2.2.2.1,x.2.2.2.2.2.2.2.2.2.1,
 x.2.2.2.2.2.2.2.2.2.2.1,x.2.2.2.2.2.1,x.2.2.2.2.2.2.2.2.2.2.2) else (nonM x.2.1).bind fun r_2=>((nonM x.2.1).bind fun (x:Unit)=>some ()).bind fun r_3
 => (mo30 x.2.2.2.2.2.1).bind fun r_4=>(loopM (fun (s:Int×List UInt8×Int×List UInt8×List (List UInt8))=>bif ltM s.1 (lenM x.1) then (idxM x.1
 s.1).bind fun r_5=>(m53 (s.2.1,r_5)).bind fun r_6=>(appM (nat_lit 16) s.2.2.2.2 [r_5]).bind fun r_7=>(m54 r_5).bind fun r_8=>(catM (strB [1])
 r_8.1).bind fun r_9=>(catM r_9 r_6).bind fun r_10=>(catB s.2.2.2.1 r_10).bind fun r=>some (Sum.inl (wrap .i64 (s.1+1),r_6,wrap IntKind.i64
 (s.2.2.1+lenM r_10),r,r_7)) else some (Sum.inr (s.2.1,s.2.2.1,s.2.2.2.1,s.2.2.2.2))) (0,x.2.2.1,x.2.2.2.1,[],r_4)).bind fun o=>(m12 (x.2.1,
 x.2.2.1,x.2.2.2.1,x.2.2.2.2.1,x.2.2.2.2.2.1,false,x.2.2.2.2.2.2.2.1,x.2.2.2.2.2.2.2.2.1,x.2.2.2.2.2.2.2.2.2.1,x.2.2.2.2.2.2.2.2.2.2.1,
 x.2.2.2.2.2.2.2.2.2.2.2)).bind fun r_5=>bif ltM r_5.1 (lenM o.2.2.1) then some (371,false,x.2.2.1,x.2.2.2.1,x.2.2.2.2.1,r_5.2.1,r_5.2.2.1,
 r_5.2.2.2.1,r_5.2.2.2.2.1,x.2.2.2.2.2.1,r_5.2.2.2.2.2) else bif eqsM o.2.2.1 [] then some (0,false,x.2.2.1,x.2.2.2.1,x.2.2.2.2.1,r_5.2.1,r_5.2.2.1,
 r_5.2.2.2.1,r_5.2.2.2.2.1,x.2.2.2.2.2.1,r_5.2.2.2.2.2) else (sliceM o.2.2.1 1 (lenM o.2.2.1)).bind fun r_6=>(sliceM o.2.2.1 0 1).bind fun r=>((m19
 (wrap .i64 (x.2.2.2.1+1),r_6,false,r_5.2.1,r_5.2.2.1,r_5.2.2.2.1,r_5.2.2.2.2.1,r_5.2.2.2.2.2)).bind fun r_7=>bif PE.notM (eqM r_7.1 0) then
 some (r_7.1,r_7.2.1,r_7.2.2.1,r_5.2.2.2.1,r_7.2.2.2.1,r_7.2.2.2.2) else (m26 (false,r_7.2.1,r_7.2.2.1,r_5.2.2.2.1,r_7.2.2.2.1,r_7.2.2.2.2)).bind fun
 r_8=>bif PE.notM (eqM r_8.1 0) then some (r_8.1,r_8.2.1,r_8.2.2.1,r_8.2.2.2.1,r_7.2.2.2.1,r_8.2.2.2.2) else (m19 (x.2.2.2.1,r,false,r_8.2.1,
 r_8.2.2.1,r_8.2.2.2.1,r_7.2.2.2.1,r_8.2.2.2.2)).bind fun r=>bif PE.notM (eqM r.1 0) then some (r.1,r.2.1,r.2.2.1,r_8.2.2.2.1,r.2.2.2.1,r.2.2.2.2)
 else (m26 (false,r.2.1,r.2.2.1,r_8.2.2.2.1,r.2.2.2.1,r.2.2.2.2)).bind fun r_9=>bif PE.notM (eqM r_9.1 0) then some (r_9.1,r_9.2.1,r_9.2.2.1,
 r_9.2.2.2.1,r.2.2.2.1,r_9.2.2.2.2) else some (0,r_9.2.1,r_9.2.2.1,r_9.2.2.2.1,r.2.2.2.1,r_9.2.2.2.2)).bind fun (ov:Int×Bool×Int×List Int×List
 Int×List (Int×List UInt8))=>bif PE.notM (eqM ov.1 0) then some (ov.1,false,x.2.2.1,x.2.2.2.1,true,ov.2.1,ov.2.2.1,ov.2.2.2.1,ov.2.2.2.2.1,
 x.2.2.2.2.2.1,ov.2.2.2.2.2) else some (0,false,o.1,o.2.1,x.2.2.2.2.1,ov.2.1,ov.2.2.1,ov.2.2.2.1,ov.2.2.2.2.1,o.2.2.2,ov.2.2.2.2.2)
theorem cp11:PSpecOK Tryd.prog 11 ⟨pa11,po11,pk11,[3],m11⟩ :=
 fnP_ok (own:=[5000000]) (an:=an11) (n:=400) tabs28OK (F:=OPS) OPS_sound OPS_nice (f:=11) (fn:=Tryd.f11) (code:=Tryd.f11.body.getD .skip) (by kernel_rfl) (by kernel_rfl) (by kernel_rfl) (by kernel_rfl) fun G w0 x=>by kernel_rfl
def tabs11:Tabs:=Tabs.addP tabs28 11 ⟨pa11,po11,pk11,[3],m11⟩
theorem tabs11OK:TabOK Tryd.prog tabs11:=TabOK.addP tabs28OK cp11

/-! putlog/putloglaw37.sane -/
def as5:List Ty:=[]
def rs5:List Ty:=[.bool]
def an5_3:Ann:=.gq z0 (.a) (.gq (.k [6,7,1,2,3,8,10]) (.a) (.gq (.s [10] []) (.a) (.gq z0 (.a) (.gq z0 (.a) (.gq (.k [6,7,1,2,3,8]) (.a) (.gq z0 (.a) (.a)))))))
def an5_2:Ann:=.gq z0 (.a) (.gq (.k [25,26,1,2,3,33,38]) (.a) (.gq (.s [38] []) (.a) (.gq (.s [38] []) (.a) (.gq z0 (.a) (.gq z0 (.a) (.gq z0 (.a) (.gq z0 (.a) (.gq z0 (.a) (.a)))))))))
def an5_0:Ann:=.gq z0 (.a) (.gq (.k [25,26,1,2,3,33,36]) (.a) (.gq (.s [36] []) (.a) (.gq z0 (.a) an5_2)))
def an5_1:Ann:=.gq z0 (.a) (.gq z0 (.a) (.gq z0 (.a) (.gq (.k [6,22,1,2,3,33]) (.a) (.gq z0 (.a) (.gq z0 (.a) (.gq z0 (.a) an5_0))))))
def an5:Ann:=.seq (.a) (.seq (.reg [] [] [.k [1,2,3,4],z0,z0,z0,z0,z0] (.ct (.a))) (.seq (.reg [] [] [z0,.k [1,2,3,4,6,7,8],z0,z0,z0,z0,z0] (.ct (.a))) (.seq (.seq (.reg [] [] [z0,.s [6] [],z0,z0,z0,z0,z0,z0,.k [6,7,1,2,3,8,10],.s [10] [],z0,z0,z0,z0,.k [6,7,1,2,3,8],z0,z0] (.gs (.gq z0 (.gq z0 (.gs (.gq z0 (.gq (.k [6,7,1,2,3,8,10]) (.ct (.gq (.s [10] []) (.gq z0 (.gs (.gq z0 (.gq (.k [6,7,1,2,3,8]) (.ct (.gq z0 (.a) (.a))) (.a)) (.a)) (.gq z0 (.a) (.gq (.k [6,7,1,2,3,8]) (.a) (.gq z0 (.a) (.a))))) (.a)) (.a))) (.a)) (.a)) an5_3) (.a)) (.a)) (.gq z0 (.a) (.gq z0 (.a) an5_3)))) (.a)) (.seq (.reg [] [] [z0,z0,.k [6,7,1,2,3,8,13,14],z0] (.ct (.a))) (.seq (.reg [] [] [z0,.s [] [15],.s [15] [],z0,.k [6,13,1,2,3,14,17,18],z0] (.ct (.a))) (.seq (.reg [] [] [z0,.k [6,17,1,2,3,18],z0] (.ct (.a))) (.seq (.reg [] [] [z0,.s [] [20],.s [20] [],z0,.k [6,17,1,2,3,18,22,23],z0] (.ct (.a))) (.seq (.reg [] [] [z0,.k [1,2,3,23,25,26,27],z0,z0,z0,z0,z0] (.ct (.a))) (.seq (.a) (.seq (.reg [] [] [z0,.k [1,2,3,27,29]] (.ct (.a))) (.seq (.reg [] [] [z0,.k [1,2,3,29,31,32,33],z0,z0,z0,z0,z0] (.ct (.a))) (.seq (.reg [] [] [.r,z0,z0,z0,z0,z0] (.call [] [] (.seq (.a) (.a)) (.a))) (.seq (.reg [] [] [z0,z0,z0,z0,z0,z0,z0,z0,z0,z0,z0,z0,z0,z0,z0,z0,.k [6,22,1,2,3,33],z0,z0,z0,z0,z0,z0,z0,z0,.k [25,26,1,2,3,33,36],.s [36] [],z0,z0,z0,z0,.k [25,26,1,2,3,33,38],.s [38] [],.s [38] [],z0,z0,z0,z0,z0,z0,z0,z0,z0,z0,z0] (.gs (.gq z0 (.gq z0 (.gs (.gq z0 (.gq z0 (.gs (.gq z0 (.gq z0 (.gs (.gq z0 (.gq (.k [6,22,1,2,3,33]) (.ct (.gq z0 (.gs (.gq z0 (.gq z0 (.gs (.gq z0 (.gq (.k [25,26,1,2,3,33,36]) (.ct (.gq (.s [36] []) (.gq z0 (.gs (.gq z0 (.gq (.k [25,26,1,2,3,33,38]) (.ct (.gq (.s [38] []) (.gq (.s [38] []) (.gq z0 (.a) (.a)) (.a)) (.a))) (.a)) (.a)) an5_2) (.a)) (.a))) (.a)) (.a)) an5_0) (.a)) (.a)) (.gq z0 (.a) (.gq z0 (.a) an5_0))) (.a))) (.a)) (.a)) (.gq z0 (.a) (.gq (.k [6,22,1,2,3,33]) (.a) (.gq z0 (.a) (.gq z0 (.a) (.gq z0 (.a) an5_0)))))) (.a)) (.a)) an5_1) (.a)) (.a)) (.gq z0 (.a) (.gq z0 (.a) an5_1))) (.a)) (.a)) (.gq z0 (.a) (.gq z0 (.a) (.gq z0 (.a) (.gq z0 (.a) an5_1)))))) (.a))))))))))))))
def m5:Unit→Option (Bool) :=
 fun x=>(m6 200).bind fun r=>(m8 (r.2.1,r.2.2.1,r.2.2.2.1,r.2.2.2.2.1,r.2.2.2.2.2.1,r.2.2.2.2.2.2)).bind fun r_1=>bif PE.notM r_1.2.2.2.2.2.1 then bif
 PE.notM (PE.orM false (PE.notM (eqM r_1.1 0))) then (m13 (r_1.2.2.2.2.2.1,r_1.2.2.2.2.2.2.1,r_1.2.2.2.2.2.2.2.1,r_1.2.2.2.2.2.2.2.2.1,
 r_1.2.2.2.2.2.2.2.2.2.1,false,r_1.2.1,r_1.2.2.1,r_1.2.2.2.1,r_1.2.2.2.2.1,r_1.2.2.2.2.2.2.2.2.2.2)).bind fun r_2=>bif PE.notM (PE.orM false (PE.notM
 (eqM (lenM r_2) 0))) then (m12 (false,r_1.2.2.2.2.2.2.1,r_1.2.2.2.2.2.2.2.1,r_1.2.2.2.2.2.2.2.2.1,r_1.2.2.2.2.2.2.2.2.2.1,false,r_1.2.1,r_1.2.2.1,
 r_1.2.2.2.1,r_1.2.2.2.2.1,r_1.2.2.2.2.2.2.2.2.2.2)).bind fun r_3=>bif PE.orM false (PE.notM (eqM r_3.1 200)) then some false else (m11 ([[(97:UInt8),
 (98:UInt8)],[]],false,r_1.2.2.2.2.2.2.1,r_1.2.2.2.2.2.2.2.1,r_1.2.2.2.2.2.2.2.2.1,r_1.2.2.2.2.2.2.2.2.2.1,false,r_3.2.1,r_3.2.2.1,r_3.2.2.2.1,
 r_3.2.2.2.2.1,r_3.2.2.2.2.2)).bind fun r_4=>(mkM 96 96 (nat_lit 1) 0).bind fun r_5=>(m11 ([strB r_5],r_4.2.1,r_4.2.2.1,r_4.2.2.2.1,r_4.2.2.2.2.1,
 r_4.2.2.2.2.2.2.2.2.2.1,false,r_4.2.2.2.2.2.1,r_4.2.2.2.2.2.2.1,r_4.2.2.2.2.2.2.2.1,r_4.2.2.2.2.2.2.2.2.1,r_4.2.2.2.2.2.2.2.2.2.2)).bind fun r_6=>(m12
 (r_6.2.1,r_6.2.2.1,r_6.2.2.2.1,r_6.2.2.2.2.1,r_6.2.2.2.2.2.2.2.2.2.1,false,r_6.2.2.2.2.2.1,r_6.2.2.2.2.2.2.1,r_6.2.2.2.2.2.2.2.1,
 r_6.2.2.2.2.2.2.2.2.1,r_6.2.2.2.2.2.2.2.2.2.2)).bind fun r_7=>(mkM 95 95 (nat_lit 1) 0).bind fun r_8=>(m11 ([strB r_8],false,r_6.2.2.1,r_6.2.2.2.1,
 r_6.2.2.2.2.1,r_6.2.2.2.2.2.2.2.2.2.1,false,r_7.2.1,r_7.2.2.1,r_7.2.2.2.1,r_7.2.2.2.2.1,r_7.2.2.2.2.2)).bind fun r_9=>(m8 (false,r_9.2.2.2.2.2.1,
 r_9.2.2.2.2.2.2.1,r_9.2.2.2.2.2.2.2.1,r_9.2.2.2.2.2.2.2.2.1,r_9.2.2.2.2.2.2.2.2.2.2)).bind fun r_10=>bif r_10.2.2.2.2.2.1 then some false else (m19 (0,
 [(2:UInt8)],false,r_10.2.1,r_10.2.2.1,r_10.2.2.2.1,r_10.2.2.2.2.1,r_10.2.2.2.2.2.2.2.2.2.2)).bind fun r_11=>(m8 (false,r_11.2.1,r_11.2.2.1,
 r_10.2.2.2.1,r_11.2.2.2.1,r_11.2.2.2.2)).bind fun r_12=>bif eqM r_4.1 0 then bif PE.andM true (eqM r_6.1 371) then bif PE.andM true (eqM r_7.1 130) then
 bif PE.andM true (eqM r_9.1 0) then (m12 (r_9.2.1,r_9.2.2.1,r_9.2.2.2.1,r_9.2.2.2.2.1,r_9.2.2.2.2.2.2.2.2.2.1,false,r_12.2.1,r_12.2.2.1,r_12.2.2.2.1,
 r_12.2.2.2.2.1,r_12.2.2.2.2.2.2.2.2.2.2)).bind fun r_13=>bif PE.andM true (eqM r_13.1 0) then bif PE.andM true (eqM r_10.1 0) then (m13 (r_10.2.2.2.2.2.1,
 r_10.2.2.2.2.2.2.1,r_10.2.2.2.2.2.2.2.1,r_10.2.2.2.2.2.2.2.2.1,r_10.2.2.2.2.2.2.2.2.2.1,false,r_13.2.1,r_13.2.2.1,r_13.2.2.2.1,r_13.2.2.2.2.1,
 r_13.2.2.2.2.2)).bind fun r_14=>bif PE.andM true (eqM (lenM r_14) 3) then (m13 (false,r_10.2.2.2.2.2.2.1,r_10.2.2.2.2.2.2.2.1,r_10.2.2.2.2.2.2.2.2.1,
 r_10.2.2.2.2.2.2.2.2.2.1,false,r_13.2.1,r_13.2.2.1,r_13.2.2.2.1,r_13.2.2.2.2.1,r_13.2.2.2.2.2)).bind fun r_15=>(chkM 0 (lenM r_15)).bind fun r_16 =>
 (idxM r_15 0).bind fun r=>some (PE.andM (PE.andM (PE.andM true (eqsM r [(97:UInt8),(98:UInt8)])) (eqM r_12.1 372)) true) else some false else some
 false else some false else some false else some false else some false else some false else some false else some false else some false
theorem c5:SpecOK Tryd.prog 5 ⟨as5,rs5,m5⟩ :=
 fc tabs11OK [] an5 Tryd.f5 fun x=>by kernel_rfl
def tabs5:Tabs:=Tabs.add tabs11 5 ⟨as5,rs5,m5⟩
theorem tabs5OK:TabOK Tryd.prog tabs5:=TabOK.add tabs11OK c5 Tryd.call5

/-! putlog/putloglaw37.pick -/
def as14:List Ty:=[tI,tI]
def rs14:List Ty:=[tI]
def an14:Ann:=.seq (.a) (.seq (.join [(.norm,⟨[(0,.r (.c (.d (.d tI))))],[5,6,7,8,9],[],[]⟩)] (.a)) (.a))
def m14:(Int×Int)→Option (Int) :=
 fun x=>(bif ltM x.1 0 then some (wrap .i64 (negM (wrap .i64 (x.1+1)))) else some x.1).bind fun o=>(remM o x.2).bind fun r=>some r
theorem c14:SpecOK Tryd.prog 14 ⟨as14,rs14,m14⟩ :=
 fc tabs5OK [] an14 Tryd.f14 fun x=>by kernel_rfl
def tabs14:Tabs:=Tabs.add tabs5 14 ⟨as14,rs14,m14⟩
theorem tabs14OK:TabOK Tryd.prog tabs14:=TabOK.add tabs5OK c14 Tryd.call14

/-! putlog/putloglaw37.size -/
def as7:List Ty:=[tI]
def rs7:List Ty:=[tI]
def an7:Ann:=.a
def m7:Int→Option (Int) :=
 fun x=>(m14 (x,1500)).bind fun r=>some (wrap .i64 (1+r))
theorem c7:SpecOK Tryd.prog 7 ⟨as7,rs7,m7⟩ :=
 fc tabs14OK [] an7 Tryd.f7 fun x=>by kernel_rfl
def tabs7:Tabs:=Tabs.add tabs14 7 ⟨as7,rs7,m7⟩
theorem tabs7OK:TabOK Tryd.prog tabs7:=TabOK.add tabs14OK c7 Tryd.call7

/-! putlog/putloglaw37.few -/
def as9:List Ty:=[(.list .str)]
def rs9:List Ty:=[(.list .str)]
def an9:Ann:=.seq (.a) (.seq (.a) (.seq (.seq (.a) (.block (.loop ⟨[(3,.r (.c (.h 0))),(4,.r (.c (.d (.d tI))))],(ra 5 24 ([])),[],[.arr .str]⟩ [(.exit 0,⟨[(3,.r (.c (.h 0)))],(ra 4 25 ([])),[],[.arr .str]⟩)] (.seq (.a) (.seq (.block (.reg [0,0,0,6,14,0,0,96,224,480,992,2046,4094,8191,16383] (ra 0 15 ([])) (za 13 (.s [0] [1,0]::z0::[])) (.a))) (.a)))))) (.a)))
def m9:List (List UInt8)→Option (List (List UInt8)) :=
 fun x=>(loopM (fun (s:Int×List (List UInt8))=>bif PE.andM (ltM s.1 (lenM x)) (ltM s.1 6) then (idxM x s.1).bind fun r=>(idxM x s.1).bind fun r_1 =>
 (sliceM r 0 (min (lenM r_1) 100)).bind fun r_2=>(appM (nat_lit 16) s.2 [r_2]).bind fun r=>some (Sum.inl (wrap .i64 (s.1+1),r)) else some
 (Sum.inr s.2)) (0,[])).bind fun o=>some o
theorem c9:SpecOK Tryd.prog 9 ⟨as9,rs9,m9⟩ :=
 fc tabs7OK [] an9 Tryd.f9 fun x=>by kernel_rfl
def tabs9:Tabs:=Tabs.add tabs7 9 ⟨as9,rs9,m9⟩
theorem tabs9OK:TabOK Tryd.prog tabs9:=TabOK.add tabs7OK c9 Tryd.call9

/-! putlog/putlogref01.zigzag -/
def as50:List Ty:=[tI]
def rs50:List Ty:=[(.int .u64)]
def an50:Ann:=.a
def m50:Int→Option (Int) :=
 fun x=>bif ltM x 0 then some (wrap .u64 (wrap .u64 (wrap .u64 (wrap .i64 (negM x))*2)-1)) else some (wrap .u64 (wrap
 IntKind.u64 x*2))
theorem c50:SpecOK Tryd.prog 50 ⟨as50,rs50,m50⟩ :=
 fc tabs9OK [] an50 Tryd.f50 fun x=>by kernel_rfl
def tabs50:Tabs:=Tabs.add tabs9 50 ⟨as50,rs50,m50⟩
theorem tabs50OK:TabOK Tryd.prog tabs50:=TabOK.add tabs9OK c50 Tryd.call50

/-! putlog/putlogref01.PutInt -/
def as27:List Ty:=[tI]
def rs27:List Ty:=[.str,tI]
def an27:Ann:=.seq (.a) (.seq (.a) (.seq (.a) (.seq (.a) (.seq (.block (.loop ⟨[(4,.r (.c (.d (.d (.int .u64))))),(5,.r (.c (.h 0)))],(ra 14 11 ([])),[],[.arr (.int .u8)]⟩ [(.exit 0,⟨[(4,.r (.c (.d (.d (.int .u64))))),(5,.r (.c (.h 0)))],(ra 14 11 ([])),[],[.arr (.int .u8)]⟩)] (.a))) (.a)))))
def m27:Int→Option (List UInt8×Int) :=
 fun x=>bif PE.orM (ltM x (-4611686018427387903)) (ltM 4611686018427387903 x) then some ([],10) else (m50 x).bind fun r=>(loopM (fun (s:Int×List Int) =>
 bif leM 128 s.1 then (remM s.1 128).bind fun r_1=>(appM (nat_lit 1) s.2 [wrap .u8 (wrap .u64 (r_1+128))]).bind fun r_2=>(divM IntKind.u64
 s.1 128).bind fun r=>some (Sum.inl (r,r_2)) else some (Sum.inr (s.1,s.2))) (r,[])).bind fun o=>(appM (nat_lit 1) o.2 [wrap .u8 o.1]).bind fun r
 => some (strB r,0)
theorem c27:SpecOK Tryd.prog 27 ⟨as27,rs27,m27⟩ :=
 fc tabs50OK [] an27 Tryd.f27 fun x=>by kernel_rfl
def tabs27:Tabs:=Tabs.add tabs50 27 ⟨as27,rs27,m27⟩
theorem tabs27OK:TabOK Tryd.prog tabs27:=TabOK.add tabs50OK c27 Tryd.call27

/-! putlog/putlogref01.PutString -/
def as10:List Ty:=[.str]
def rs10:List Ty:=[.str,tI]
def an10:Ann:=.a
def m10:List UInt8→Option (List UInt8×Int) :=
 fun x=>bif ltM 65536 (lenM x) then some ([],10) else (m27 (lenM x)).bind fun r=>(catM r.1 x).bind fun r=>some (r,0)
theorem c10:SpecOK Tryd.prog 10 ⟨as10,rs10,m10⟩ :=
 fc tabs27OK [] an10 Tryd.f10 fun x=>by kernel_rfl
def tabs10:Tabs:=Tabs.add tabs27 10 ⟨as10,rs10,m10⟩
theorem tabs10OK:TabOK Tryd.prog tabs10:=TabOK.add tabs27OK c10 Tryd.call10

/-! (*putlog/disk.Disk).Cut -/
def pa15:List SR:=[.c (.h 1),.c (.d (.d tI))]
def po15:List SO:=[.opt [.d (.d .bool),.d (.d tI),.h 2,.h 3,.h 4],.arr (.int .u8),.arr (.int .u8),.arr (.pair tI .str)]
def pk15:Skel:=⟨[(1000000,.r (.c (.d (.d tI))))],[],[(1,.box [.d (.d .bool),.d (.d tI),.h 2,.h 3,.h 4])],[]⟩
def an15:Ann:=.seq (.a) (.seq (.seq (.reg [] [] [z0,.r,z0] (.call [5000000] [(.norm,⟨[(7,.r (.c (.d (.d tI))))],[],[],[]⟩)] (.seq (.a) (.a)) (.a))) (.a)) (.a))
def m15:(Int×Bool×Bool×Int×List Int×List Int×List (Int×List UInt8))→Option (Int×Bool×Int) :=
 fun x=>((nonM x.2.1).bind fun (x:Unit)=>some ()).bind fun (x_1:Unit)=>(bif x.2.2.1 then some 361 else some 0).bind fun (ov:Int)=>bif PE.notM (eqM
 ov 0) then some (ov,x.2.2.1,x.2.2.2.1) else bif ltM x.1 0 then some (2,x.2.2.1,x.2.2.2.1) else some (0,eqM x.1 0,x.1)
theorem cp15:PSpecOK Tryd.prog 15 ⟨pa15,po15,pk15,[1],m15⟩ :=
 fnP_ok (own:=[5000000]) (an:=an15) (n:=400) tabs10OK (F:=OPS) OPS_sound OPS_nice (f:=15) (fn:=Tryd.f15) (code:=Tryd.f15.body.getD .skip) (by kernel_rfl) (by kernel_rfl) (by kernel_rfl) (by kernel_rfl) fun G w0 x=>by kernel_rfl
def tabs15:Tabs:=Tabs.addP tabs10 15 ⟨pa15,po15,pk15,[1],m15⟩
theorem tabs15OK:TabOK Tryd.prog tabs15:=TabOK.addP tabs10OK cp15

/-! putlog/putloglaw37.same -/
def as16:List Ty:=[(.list .str),(.list .str)]
def rs16:List Ty:=[.bool]
def an16:Ann:=.seq (.a) (.seq (.a) (.seq (.seq (.a) (.block (.loop ⟨[(5,.r (.c (.d (.d tI))))],(ra 11 15 ([])),[],[]⟩ [(.exit 0,⟨[],(5::ra 11 15 ([])),[],[]⟩),(.ret,⟨[(4,.r (.c (.d (.d .bool))))],(5::ra 11 15 ([])),[],[]⟩)] (.seq (.a) (.seq (.block (.seq (.reg [0,0,3,7,0,0,48,112,255] (ra 0 9 ([])) (za 9 ([])) (.a)) (.a))) (.a)))))) (.a)))
def m16:(List (List UInt8)×List (List UInt8))→Option (Bool) :=
 fun x=>bif PE.notM (eqM (lenM x.1) (lenM x.2)) then some false else (loopM (fun (s:Int)=>bif ltM s (lenM x.1) then (idxM x.1 s).bind fun r=>(idxM x.2
 s).bind fun r_1=>bif PE.notM (eqsM r r_1) then some (Sum.inr (Sum.inr false)) else some (Sum.inl (wrap .i64 (s+1))) else some (Sum.inr (Sum.inl
 ()))) 0).bind fun o=>Sum.elim (fun (t:Unit)=>some true) (fun (t:Bool)=>some t) o
theorem c16:SpecOK Tryd.prog 16 ⟨as16,rs16,m16⟩ :=
 fc tabs15OK [] an16 Tryd.f16 fun x=>by kernel_rfl
def tabs16:Tabs:=Tabs.add tabs15 16 ⟨as16,rs16,m16⟩
theorem tabs16OK:TabOK Tryd.prog tabs16:=TabOK.add tabs15OK c16 Tryd.call16

/-! putlog/putloglaw37.JournalRoom -/
def as3:List Ty:=[tI,(.list .str),tI]
def rs3:List Ty:=[.bool]
def an3_2:Ann:=.gq z0 (.a) (.gq (.k [6,10,1,2,3,11]) (.a) (.gq z0 (.a) (.gq z0 (.a) (.gq z0 (.a) (.gq z0 (.a) (.a))))))
def an3_4:Ann:=.gq z0 (.gq z0 (.gq z0 (.gs (.gq z0 (.gq (.k [6,10,1,2,3,11]) (.ct (.gq z0 (.gq z0 (.gq z0 (.gq z0 (.a) (.a)) (.a)) (.a)) (.a))) (.a)) (.a)) an3_2) (.a)) (.a)) (.a)
def an3_0:Ann:=.gq z0 (.gq z0 (.gs (.gq z0 (.gq (.k [6,10,1,2,3,11]) (.ct (.gq z0 (.gq z0 (.gq z0 (.gq z0 (.gq z0 (.gq z0 (.gs an3_4 (.gq z0 (.a) (.gq z0 (.a) (.gq z0 (.a) an3_2)))) (.a)) (.a)) (.a)) (.a)) (.a)) (.a))) (.a)) (.a)) (.gq z0 (.a) (.gq (.k [6,10,1,2,3,11]) (.a) (.gq z0 (.a) (.gq z0 (.a) (.gq z0 (.a) (.gq z0 (.a) (.gq z0 (.a) (.gq z0 an3_4 (.a)))))))))) (.a)) (.a)
def an3_3:Ann:=.gq z0 (.a) (.gq z0 (.a) (.gq z0 (.a) (.gq (.k [6,10,1,2,3,11]) (.a) (.gq z0 (.a) (.gq z0 (.a) (.gq z0 (.a) (.gq z0 (.a) (.gq z0 (.a) (.gq z0 (.a) (.gq z0 (.a) (.gq z0 (.a) (.gq z0 (.a) an3_2))))))))))))
def an3_1:Ann:=.gq z0 (.a) (.gq (.k [6,29,1,2,3,30,32]) (.a) (.gq z0 (.a) (.gq (.s [32,13] []) (.a) (.gq z0 (.a) (.gq z0 (.a) (.gq (.k []) (.a) (.gq z0 (.a) (.gq z0 (.a) (.gq (.k []) (.a) (.gq z0 (.a) (.gq z0 (.a) (.gq z0 (.a) (.gq (.k []) (.a) (.gq z0 (.a) (.a)))))))))))))))
def an3:Ann:=.seq (.a) (.seq (.a) (.seq (.reg [] [] [z0,z0,.k [1,2,3,4],z0,z0,z0,z0,z0] (.ct (.a))) (.seq (.reg [] [] [z0,.k [1,2,3,4,6,7,8],z0,z0,z0,z0,z0] (.ct (.a))) (.seq (.a) (.seq (.a) (.seq (.a) (.seq (.seq (.a) (.block (.loop ⟨[(12,.r (.c (.d (.d tI)))),(13,.r (.c (.d (.d tI))))],(14::15::ra 42 19 ([])),[],[]⟩ [(.exit 0,⟨[(12,.r (.c (.d (.d tI))))],(13::14::15::ra 42 19 ([])),[],[]⟩)] (.a)))) (.seq (.reg [] [] [z0,z0,.k [6,7,1,2,3,8,10,11],z0] (.ct (.a))) (.seq (.a) (.seq (.join [(.ret,⟨[(6,.r (.c (.d (.d .bool))))],(ra 68 35 ([])),[(1,.box [.d (.d .bool),.d (.d tI),.h 2,.h 3,.h 11]),(2,.arr (.int .u8)),(3,.arr (.int .u8)),(6,.opt [.h 10,.d (.d .str),.d (.d tI),.h 1,.d (.d .bool)]),(10,.arr .str),(11,.arr (.pair tI .str))],[]⟩),(.norm,⟨[],(ra 68 35 ([])),[(1,.box [.d (.d .bool),.d (.d tI),.h 2,.h 3,.h 11]),(2,.arr (.int .u8)),(3,.arr (.int .u8)),(6,.opt [.h 10,.d (.d .str),.d (.d tI),.h 1,.d (.d .bool)]),(10,.arr .str),(11,.arr (.pair tI .str))],[]⟩)] (.seq (.reg [] [] [z0,z0,z0,z0,z0,z0,z0,z0,z0,z0,z0,z0,z0,z0,z0,z0,.k [6,10,1,2,3,11],z0,z0,z0,z0,z0,z0,z0,z0,z0,z0,z0,z0,.k [6,10,1,2,3,11],z0,z0,z0,z0,z0] (.gs (.gq z0 (.gq z0 (.gq z0 (.gs (.gq z0 (.gq z0 (.gq z0 (.gs an3_0 an3_3) (.a)) (.a)) (.a)) (.gq z0 (.a) (.gq z0 (.a) (.gq z0 an3_0 (.a))))) (.a)) (.a)) (.a)) (.gq z0 (.a) (.gq z0 (.a) (.gq z0 (.a) (.gq z0 (.a) (.gq z0 (.a) (.gq z0 (.a) an3_3)))))))) (.a))) (.seq (.reg [] [] [z0,.k [6,10,1,2,3,11,13],z0] (.ct (.a))) (.seq (.reg [] [] [z0,z0,z0,.s [] [14],z0,z0,z0,.s [] [15],.s [15] [],z0,.s [14] [16,14],.k [6,10,1,2,3,11,18,19,16],z0] (.ct (.a))) (.seq (.reg [] [] [z0,.k [6,18,1,2,3,19,21,22],z0] (.ct (.a))) (.seq (.reg [] [] [z0,.k [1,2,3,22]] (.ct (.a))) (.seq (.reg [] [] [z0,z0,.k [6,21,1,2,3,22,25,26],z0] (.ct (.a))) (.seq (.reg [] [] [z0,.k [6,25,1,2,3,26],z0,z0] (.ct (.a))) (.seq (.reg [] [] [z0,.k [6,25,1,2,3,26,29,30],z0] (.ct (.a))) (.seq (.a) (.seq (.a) (.seq (.reg [] [] [z0,z0,z0,z0,z0,z0,z0,z0,z0,z0,z0,z0,z0,z0,.k [6,29,1,2,3,30,32],z0,.s [32,13] [],z0,z0,z0,z0,.k [],z0,z0,z0,z0,.k [],z0,z0,z0,z0,z0,.k [],z0,z0,z0] (.gs (.gq z0 (.gq z0 (.gs (.gq z0 (.gq z0 (.gs (.gq z0 (.gs (.gq z0 (.gq (.k [6,29,1,2,3,30,32]) (.ct (.gq z0 (.gq (.s [32,13] []) (.call [] [(.norm,⟨[(171,.r (.c (.d (.d tI))))],[],[],[]⟩)] (.seq (.a) (.a)) (.call [] [(.norm,⟨[(176,.r (.c (.l .nilS)))],[],[],[]⟩)] (.seq (.a) (.a)) (.call [] [(.norm,⟨[(182,.r (.c (.d (.d tI))))],[],[],[]⟩)] (.seq (.a) (.a)) (.a)))) (.a)) (.a))) (.a)) (.a)) an3_1) (.a)) (.gq z0 (.a) an3_1)) (.a)) (.a)) (.gq z0 (.a) (.gq z0 (.a) (.gq z0 (.a) an3_1)))) (.a)) (.a)) (.gq z0 (.a) (.gq z0 (.a) (.gq z0 (.a) (.gq z0 (.a) (.gq z0 (.a) an3_1))))))) (.a)))))))))))))))))))))
def m3:(Int×List (List UInt8)×Int)→Option (Bool) :=
 fun x=>(m5 ()).bind fun r=>(m7 x.1).bind fun r_1=>(m6 r_1).bind fun r_2=>(m8 (r_2.2.1,r_2.2.2.1,r_2.2.2.2.1,r_2.2.2.2.2.1,r_2.2.2.2.2.2.1,
 r_2.2.2.2.2.2.2)).bind fun r_3=>bif PE.notM (eqM r_3.1 0) then some false else (m9 x.2.1).bind fun r_4=>(loopM (fun (s:Int×Int)=>bif ltM s.2 (lenM
 r_4) then (idxM r_4 s.2).bind fun r_5=>(m10 r_5).bind fun r=>some (Sum.inl (wrap .i64 (wrap .i64 (s.1+33)+lenM r.1),wrap IntKind.i64
 (s.2+1))) else some (Sum.inr s.1)) (0,0)).bind fun o=>(m11 (r_4,r_3.2.2.2.2.2.1,r_3.2.2.2.2.2.2.1,r_3.2.2.2.2.2.2.2.1,r_3.2.2.2.2.2.2.2.2.1,
 r_3.2.2.2.2.2.2.2.2.2.1,false,r_3.2.1,r_3.2.2.1,r_3.2.2.2.1,r_3.2.2.2.2.1,r_3.2.2.2.2.2.2.2.2.2.2)).bind fun r_5=>(m7 x.1).bind fun r_6=>(bif
 PE.notM (PE.notM (eqbM (leM o r_6) (eqM r_5.1 0))) then bif PE.notM (leM o r_6) then bif PE.notM (PE.orM false (PE.andM true (PE.notM (eqM r_5.1 371)))) then
 bif leM o r_6 then (m12 (r_5.2.1,r_5.2.2.1,r_5.2.2.2.1,r_5.2.2.2.2.1,r_5.2.2.2.2.2.2.2.2.2.1,false,r_5.2.2.2.2.2.1,r_5.2.2.2.2.2.2.1,
 r_5.2.2.2.2.2.2.2.1,r_5.2.2.2.2.2.2.2.2.1,r_5.2.2.2.2.2.2.2.2.2.2)).bind fun r_7=>(m7 x.1).bind fun r_8=>bif PE.notM (PE.orM false (PE.andM true
 (PE.notM (eqM r_7.1 (wrap .i64 (r_8-o)))))) then bif PE.notM (leM o r_6) then (m12 (false,r_5.2.2.1,r_5.2.2.2.1,r_5.2.2.2.2.1,
 r_5.2.2.2.2.2.2.2.2.2.1,false,r_7.2.1,r_7.2.2.1,r_7.2.2.2.1,r_7.2.2.2.2.1,r_7.2.2.2.2.2)).bind fun r_9=>(m7 x.1).bind fun r=>bif PE.orM false
 (PE.andM true (PE.notM (eqM r_9.1 r))) then some (Sum.inl (false,r_9.2.1,r_9.2.2.1,r_9.2.2.2.1,r_9.2.2.2.2.1,false,r_5.2.2.1,r_5.2.2.2.1,
 r_5.2.2.2.2.1,r_5.2.2.2.2.2.2.2.2.2.1,r_9.2.2.2.2.2)) else some (Sum.inr (r_9.2.1,r_9.2.2.1,r_9.2.2.2.1,r_9.2.2.2.2.1,false,r_5.2.2.1,r_5.2.2.2.1,
 r_5.2.2.2.2.1,r_5.2.2.2.2.2.2.2.2.2.1,r_9.2.2.2.2.2)) else some (Sum.inr (r_7.2.1,r_7.2.2.1,r_7.2.2.2.1,r_7.2.2.2.2.1,false,r_5.2.2.1,r_5.2.2.2.1,
 r_5.2.2.2.2.1,r_5.2.2.2.2.2.2.2.2.2.1,r_7.2.2.2.2.2)) else some (Sum.inl (false,r_7.2.1,r_7.2.2.1,r_7.2.2.2.1,r_7.2.2.2.2.1,false,r_5.2.2.1,
 r_5.2.2.2.1,r_5.2.2.2.2.1,r_5.2.2.2.2.2.2.2.2.2.1,r_7.2.2.2.2.2)) else bif PE.notM (leM o r_6) then (m12 (r_5.2.1,r_5.2.2.1,r_5.2.2.2.1,r_5.2.2.2.2.1,
 r_5.2.2.2.2.2.2.2.2.2.1,false,r_5.2.2.2.2.2.1,r_5.2.2.2.2.2.2.1,r_5.2.2.2.2.2.2.2.1,r_5.2.2.2.2.2.2.2.2.1,r_5.2.2.2.2.2.2.2.2.2.2)).bind fun r_7=>(m7
 x.1).bind fun r=>bif PE.orM false (PE.andM true (PE.notM (eqM r_7.1 r))) then some (Sum.inl (false,r_7.2.1,r_7.2.2.1,r_7.2.2.2.1,r_7.2.2.2.2.1,false,
 r_5.2.2.1,r_5.2.2.2.1,r_5.2.2.2.2.1,r_5.2.2.2.2.2.2.2.2.2.1,r_7.2.2.2.2.2)) else some (Sum.inr (r_7.2.1,r_7.2.2.1,r_7.2.2.2.1,r_7.2.2.2.2.1,false,
 r_5.2.2.1,r_5.2.2.2.1,r_5.2.2.2.2.1,r_5.2.2.2.2.2.2.2.2.2.1,r_7.2.2.2.2.2)) else some (Sum.inr (r_5.2.2.2.2.2.1,r_5.2.2.2.2.2.2.1,r_5.2.2.2.2.2.2.2.1,
 r_5.2.2.2.2.2.2.2.2.1,r_5.2.1,r_5.2.2.1,r_5.2.2.2.1,r_5.2.2.2.2.1,r_5.2.2.2.2.2.2.2.2.2.1,r_5.2.2.2.2.2.2.2.2.2.2)) else some (Sum.inl (false,
 r_5.2.2.2.2.2.1,r_5.2.2.2.2.2.2.1,r_5.2.2.2.2.2.2.2.1,r_5.2.2.2.2.2.2.2.2.1,r_5.2.1,r_5.2.2.1,r_5.2.2.2.1,r_5.2.2.2.2.1,r_5.2.2.2.2.2.2.2.2.2.1,
 r_5.2.2.2.2.2.2.2.2.2.2)) else bif leM o r_6 then (m12 (r_5.2.1,r_5.2.2.1,r_5.2.2.2.1,r_5.2.2.2.2.1,r_5.2.2.2.2.2.2.2.2.2.1,false,r_5.2.2.2.2.2.1,
 r_5.2.2.2.2.2.2.1,r_5.2.2.2.2.2.2.2.1,r_5.2.2.2.2.2.2.2.2.1,r_5.2.2.2.2.2.2.2.2.2.2)).bind fun r_7=>(m7 x.1).bind fun r_8=>bif PE.notM (PE.orM false
 (PE.andM true (PE.notM (eqM r_7.1 (wrap .i64 (r_8-o)))))) then bif PE.notM (leM o r_6) then (m12 (false,r_5.2.2.1,r_5.2.2.2.1,r_5.2.2.2.2.1,
 r_5.2.2.2.2.2.2.2.2.2.1,false,r_7.2.1,r_7.2.2.1,r_7.2.2.2.1,r_7.2.2.2.2.1,r_7.2.2.2.2.2)).bind fun r_9=>(m7 x.1).bind fun r=>bif PE.orM false
 (PE.andM true (PE.notM (eqM r_9.1 r))) then some (Sum.inl (false,r_9.2.1,r_9.2.2.1,r_9.2.2.2.1,r_9.2.2.2.2.1,false,r_5.2.2.1,r_5.2.2.2.1,
 r_5.2.2.2.2.1,r_5.2.2.2.2.2.2.2.2.2.1,r_9.2.2.2.2.2)) else some (Sum.inr (r_9.2.1,r_9.2.2.1,r_9.2.2.2.1,r_9.2.2.2.2.1,false,r_5.2.2.1,r_5.2.2.2.1,
 r_5.2.2.2.2.1,r_5.2.2.2.2.2.2.2.2.2.1,r_9.2.2.2.2.2)) else some (Sum.inr (r_7.2.1,r_7.2.2.1,r_7.2.2.2.1,r_7.2.2.2.2.1,false,r_5.2.2.1,r_5.2.2.2.1,
 r_5.2.2.2.2.1,r_5.2.2.2.2.2.2.2.2.2.1,r_7.2.2.2.2.2)) else some (Sum.inl (false,r_7.2.1,r_7.2.2.1,r_7.2.2.2.1,r_7.2.2.2.2.1,false,r_5.2.2.1,
 r_5.2.2.2.1,r_5.2.2.2.2.1,r_5.2.2.2.2.2.2.2.2.2.1,r_7.2.2.2.2.2)) else bif PE.notM (leM o r_6) then (m12 (r_5.2.1,r_5.2.2.1,r_5.2.2.2.1,r_5.2.2.2.2.1,
 r_5.2.2.2.2.2.2.2.2.2.1,false,r_5.2.2.2.2.2.1,r_5.2.2.2.2.2.2.1,r_5.2.2.2.2.2.2.2.1,r_5.2.2.2.2.2.2.2.2.1,r_5.2.2.2.2.2.2.2.2.2.2)).bind fun r_7=>(m7
 x.1).bind fun r=>bif PE.orM false (PE.andM true (PE.notM (eqM r_7.1 r))) then some (Sum.inl (false,r_7.2.1,r_7.2.2.1,r_7.2.2.2.1,r_7.2.2.2.2.1,false,
 r_5.2.2.1,r_5.2.2.2.1,r_5.2.2.2.2.1,r_5.2.2.2.2.2.2.2.2.2.1,r_7.2.2.2.2.2)) else some (Sum.inr (r_7.2.1,r_7.2.2.1,r_7.2.2.2.1,r_7.2.2.2.2.1,false,
 r_5.2.2.1,r_5.2.2.2.1,r_5.2.2.2.2.1,r_5.2.2.2.2.2.2.2.2.2.1,r_7.2.2.2.2.2)) else some (Sum.inr (r_5.2.2.2.2.2.1,r_5.2.2.2.2.2.2.1,r_5.2.2.2.2.2.2.2.1,
 r_5.2.2.2.2.2.2.2.2.1,r_5.2.1,r_5.2.2.1,r_5.2.2.2.1,r_5.2.2.2.2.1,r_5.2.2.2.2.2.2.2.2.2.1,r_5.2.2.2.2.2.2.2.2.2.2)) else some (Sum.inl (false,
 r_5.2.2.2.2.2.1,r_5.2.2.2.2.2.2.1,r_5.2.2.2.2.2.2.2.1,r_5.2.2.2.2.2.2.2.2.1,r_5.2.1,r_5.2.2.1,r_5.2.2.2.1,r_5.2.2.2.2.1,r_5.2.2.2.2.2.2.2.2.2.1,
 r_5.2.2.2.2.2.2.2.2.2.2))).bind fun o_1=>Sum.elim (fun (t:Bool×Bool×Int×List Int×List Int×Bool×List UInt8×Int×Bool×List (List UInt8) ×
 List (Int×List UInt8))=>some t.1) (fun (t:Bool×Int×List Int×List Int×Bool×List UInt8×Int×Bool×List (List UInt8)×List (Int×List
 UInt8))=>(m13 (t.2.2.2.2.1,t.2.2.2.2.2.1,t.2.2.2.2.2.2.1,t.2.2.2.2.2.2.2.1,t.2.2.2.2.2.2.2.2.1,false,t.1,t.2.1,t.2.2.1,t.2.2.2.1,
 t.2.2.2.2.2.2.2.2.2)).bind fun r_7=>(appM (nat_lit 16) [] r_4).bind fun r_8=>(m14 (x.2.2,100)).bind fun r_9=>(mkM (wrap .i64 (65537+r_9))
 (wrap .i64 (65537+r_9)) (nat_lit 1) 0).bind fun r_10=>(appM (nat_lit 16) r_8 [strB r_10]).bind fun r_11=>(m11 (r_11,false,t.2.2.2.2.2.1,
 t.2.2.2.2.2.2.1,t.2.2.2.2.2.2.2.1,t.2.2.2.2.2.2.2.2.1,false,t.1,t.2.1,t.2.2.1,t.2.2.2.1,t.2.2.2.2.2.2.2.2.2)).bind fun r_12=>(m11 ([],r_12.2.1,
 r_12.2.2.1,r_12.2.2.2.1,r_12.2.2.2.2.1,r_12.2.2.2.2.2.2.2.2.2.1,false,r_12.2.2.2.2.2.1,r_12.2.2.2.2.2.2.1,r_12.2.2.2.2.2.2.2.1,r_12.2.2.2.2.2.2.2.2.1,
 r_12.2.2.2.2.2.2.2.2.2.2)).bind fun r_13=>(m15 (0,false,r_13.2.2.2.2.2.1,r_13.2.2.2.2.2.2.1,r_13.2.2.2.2.2.2.2.1,r_13.2.2.2.2.2.2.2.2.1,
 r_13.2.2.2.2.2.2.2.2.2.2)).bind fun r_14=>(m11 ([[(120:UInt8)]],r_13.2.1,r_13.2.2.1,r_13.2.2.2.1,r_13.2.2.2.2.1,r_13.2.2.2.2.2.2.2.2.2.1,false,
 r_14.2.1,r_14.2.2,r_13.2.2.2.2.2.2.2.1,r_13.2.2.2.2.2.2.2.2.1,r_13.2.2.2.2.2.2.2.2.2.2)).bind fun r_15=>(m12 (r_15.2.1,r_15.2.2.1,r_15.2.2.2.1,
 r_15.2.2.2.2.1,r_15.2.2.2.2.2.2.2.2.2.1,false,r_15.2.2.2.2.2.1,r_15.2.2.2.2.2.2.1,r_15.2.2.2.2.2.2.2.1,r_15.2.2.2.2.2.2.2.2.1,
 r_15.2.2.2.2.2.2.2.2.2.2)).bind fun r_16=>(m11 ([],false,r_15.2.2.1,r_15.2.2.2.1,r_15.2.2.2.2.1,r_15.2.2.2.2.2.2.2.2.2.1,false,r_16.2.1,r_16.2.2.1,
 r_16.2.2.2.1,r_16.2.2.2.2.1,r_16.2.2.2.2.2)).bind fun r_17=>bif r then bif PE.andM true (eqM r_12.1 370) then bif PE.andM true (eqM r_13.1 0) then bif
 PE.andM true (PE.orM (PE.andM (PE.andM (ltM r_16.1 35) (eqM r_15.1 371)) (eqM r_17.1 0)) (PE.andM (PE.andM (PE.notM (ltM r_16.1 35)) (eqM r_15.1 361)) (eqM
 r_17.1 370))) then (m13 (r_17.2.1,r_17.2.2.1,r_17.2.2.2.1,r_17.2.2.2.2.1,r_17.2.2.2.2.2.2.2.2.2.1,false,r_17.2.2.2.2.2.1,r_17.2.2.2.2.2.2.1,
 r_17.2.2.2.2.2.2.2.1,r_17.2.2.2.2.2.2.2.2.1,r_17.2.2.2.2.2.2.2.2.2.2)).bind fun r_18=>(m16 (r_18,r_7)).bind fun r=>(bif PE.andM true r then some 1 else
 some 0).bind fun (ov:Int)=>(bif PE.andM (PE.andM true r) (eqM ov 1) then some () else some ()).bind fun (ov_1:Unit)=>(bif PE.andM (PE.andM (PE.andM
 true r) (eqM ov 1)) true then some 0 else some 0).bind fun (ov_2:Int)=>some (PE.andM (PE.andM (PE.andM (PE.andM true r) (eqM ov 1)) true) (eqM ov_2 0))
 else some false else some false else some false else some false) o_1
theorem c3:SpecOK Tryd.prog 3 ⟨as3,rs3,m3⟩ :=
 fc tabs16OK [] an3 Tryd.f3 fun x=>by kernel_rfl
def tabs3:Tabs:=Tabs.add tabs16 3 ⟨as3,rs3,m3⟩
theorem tabs3OK:TabOK Tryd.prog tabs3:=TabOK.add tabs16OK c3 Tryd.call3
end
end Go.Proofs.YtobfnefajpiakaaDoor
namespace Go.PE
variable [ea:Go.Abs.EA]
def Le {α:Type} (a b:Option α):Prop:=∀ r,a=some r→b=some r
def nilF {α β:Type} (xs:List α) (a b:Option β):Option β:=match xs with
 | []=>none
 | _::_=>b
attribute [irreducible] Le
variable [ea:Go.Abs.EA]
open Go Go.Abs
def InR:(t:Ty)→t.den→Prop
 | .int k,x=>k.has x
 | .bool,_=>True
 | .str,x=>List.length x≤maxLen
 | .list t,xs=>List.length xs≤maxLen∧∀ (i:Nat) (x:t.den),xs[i]? = some x→InR t x
 | .one t,x=>InR t x
 | .pair a b,x=>InR a x.1∧InR b x.2
def OkT:(l:List Ty)→Tup (l.map .d)→Prop
 | [],_=>True
 | [t],x=>InR t x
 | t::u::r,x=>InR t x.1∧OkT (u::r) x.2
section
variable {S:Cells} {w:World} {η:Eta}
theorem Rep.ok:∀ {t:Ty} {x:t.den} {cs:List Value},Rep S w t x cs→InR t x
 | .int _,_,_,h=>h.2
 | .bool,_,_,_=>trivial
 | .str,_,_,h=>h.2
 | .list t,xs,_,h=>by
  obtain ⟨base,cap,rfl,h1,h2,h3⟩:=h
  refine ⟨Nat.le_trans h1 h2,fun i x hx=>?_⟩
  rcases h3 with h3 | ⟨b,off,_,h3⟩
  ·have:xs=[]:=List.length_eq_zero_iff.1 h3
   rw [this] at hx
   cases hx
  ·obtain ⟨es,h4,_⟩:=h3 i x hx
   exact Rep.ok h4
 | .one t,x,cs,h=>by
  have h':Rep S w t x cs:=h
  exact Rep.ok (t:=t) h'
 | .pair a b,x,cs,h=>by
  obtain ⟨c1,c2,rfl,h1,h2⟩:=h
  exact ⟨Rep.ok h1,Rep.ok h2⟩
theorem cv_ok:∀ {t:Ty} {x:t.den} {vs:List Value},All2 (CM S w η) (t.cv x) vs→InR t x
 | .int _,_,_,.cons h .nil=>let ⟨_,a,_⟩:=h.2;Rep.ok a
 | .bool,_,_,_=>trivial
 | .str,_,_,.cons h .nil=>let ⟨_,a,_⟩:=h.2;Rep.ok a
 | .list _,_,_,.cons h .nil=>let ⟨_,a,_⟩:=h.2;Rep.ok a
 | .one t,x,vs,h=>by
  have h':All2 (CM S w η) (t.cv x) vs:=h
  exact cv_ok (t:=t) h'
 | .pair a b,x,vs,h=>by
  have h':All2 (CM S w η) (a.cv x.1++b.cv x.2) vs:=h
  obtain ⟨b1,b2,rfl,h1,h2⟩:=All2.split h'
  exact ⟨cv_ok h1,cv_ok h2⟩
theorem rv_ok {t:Ty} {x:t.den} {v:Value} (h:RM S w η (t.rv x) v):InR t x:=by
 unfold Ty.rv at h
 split at h
 ·obtain ⟨vs,_,h2⟩:=h
  exact cv_ok h2
 ·obtain ⟨_,cs,h2,_⟩:=h
  exact Rep.ok h2
theorem rvs_ok:∀ {l:List Ty} {x:Tup (l.map .d)} {vs:List Value},All2 (RM S w η) (rvs l x) vs→OkT l x
 | [],_,_,_=>trivial
 | [t],x,_,.cons h .nil=>rv_ok h
 | t::u::r,x,_,h=>by
  have h':All2 (RM S w η) (t.rv x.1::rvs (u::r) x.2) _:=h
  cases h' with
  | cons h1 h2=>exact ⟨rv_ok h1,rvs_ok (l:=u::r) h2⟩
end
theorem law_of_ok {args:List Ty} {m:Tup (args.map .d)→Option Bool} (h:∀ x,OkT args x→m x=some true) :
  ∀ (S:Cells) (w:World) (η:Eta) (vs:List Value) x,All2 (RM S w η) (rvs args x) vs→m x=some true:=fun _ _ _ _ x hx=>h x (rvs_ok hx)

theorem wrap_in {n:Int} (h1:-9223372036854775808≤n) (h2:n≤9223372036854775807):IntKind.wrap .i64 n=n:=Go.IntWalk.i64_in n ⟨h1,h2⟩
theorem idxM_nat {α:Type} (xs:List α) (i:Nat):idxM xs (i:Int)=xs[i]? := by
 unfold idxM
 rw [dT (by omega:(0:Int)≤i)]
 simp
theorem idxM_lt {α:Type} {xs:List α} {i:Nat} (h:i<xs.length):idxM xs (i:Int)=some xs[i]:=by
 rw [idxM_nat,gE h]
theorem idxM_of {α:Type} {xs:List α} {i:Int} (h0:0≤i) (h:i<xs.length):idxM xs i=some (xs[i.toNat]'(by omega)):=by
 unfold idxM
 rw [dT h0]
 exact gE _
theorem chkM_of {i n:Int} (h0:0≤i) (h:i<n):chkM i n=some ():=by
 unfold chkM
 rw [dT h0,dT h]
theorem appM_of {α:Type} {b:Nat} {xs ys:List α} (h:(xs.length+ys.length)*b≤140737488355328):appM b xs ys=some (xs++ys):=by
 unfold appM
 rw [dT h]
theorem mkM_of {α:Type} {n c:Int} {b:Nat} {d:α} (h0:0≤n) (h:n≤c) (hb:c*b≤140737488355328):mkM n c b d=some (List.replicate n.toNat d):=by
 unfold mkM
 rw [dT h0,dT h,dT hb]
theorem setM_of {α:Type} {xs:List α} {i:Int} {f:α→Option α} {y:α} (h0:0≤i) (h:i<xs.length) (hy:f (xs[i.toNat]'(by omega))=some y):setM xs i f=some (xs.set i.toNat y):=by
 unfold setM
 rw [idxM_of h0 h]
 simp only [hy]
theorem sliceM_of {α:Type} {xs:List α} {lo hi:Int} (h0:0≤lo) (h:lo≤hi) (h2:hi≤xs.length):sliceM xs lo hi=some ((xs.take hi.toNat).drop lo.toNat):=by
 unfold sliceM
 rw [dT h0,dT h,dT h2]
theorem sameM_self (i:Int):sameM i i=some ():=by
 unfold sameM
 rw [dT rfl]
theorem loopM_inv {σ β:Type} {body:σ→Option (σ⊕β)} (P:Nat→σ→Prop) (Q:β→Prop) (n:Nat)
  (h:∀ k s,k≤n→P k s→(∃ s',k<n∧body s=some (.inl s')∧P (k+1) s')∨∃ r,body s=some (.inr r)∧Q r) :
  ∀ (m k:Nat) (s:σ),n-k=m→k≤n→P k s→∃ r,loopM body s=some r∧Q r:=by
 intro m
 induction m with
 | zero =>
  intro k s hm hk hP
  rcases h k s hk hP with ⟨s',hlt,_⟩ | ⟨r,h1,h2⟩
  ·omega
  ·exact ⟨r,by rw [loopM_eq,h1];rfl,h2⟩
 | succ m ih =>
  intro k s hm hk hP
  rcases h k s hk hP with ⟨s',hlt,h1,h2⟩ | ⟨r,h1,h2⟩
  ·obtain ⟨r,h3,h4⟩:=ih (k+1) s' (by omega) (by omega) h2
   exact ⟨r,by rw [loopM_eq,h1];exact h3,h4⟩
  ·exact ⟨r,by rw [loopM_eq,h1];rfl,h2⟩
theorem loopM_from {σ β:Type} {body:σ→Option (σ⊕β)} (P:Nat→σ→Prop) (Q:β→Prop) (n:Nat) {s:σ} (h0:P 0 s)
  (h:∀ k s,k≤n→P k s→(∃ s',k<n∧body s=some (.inl s')∧P (k+1) s')∨∃ r,body s=some (.inr r)∧Q r):∃ r,loopM body s=some r∧Q r :=
 loopM_inv P Q n h n 0 s (by omega) (by omega) h0
theorem loopM_fn {σ β:Type} {body:σ→Option (σ⊕β)} (g:Nat→σ) (n:Nat) {r:β} (h:∀ k,k<n→body (g k)=some (.inl (g (k+1)))) (he:body (g n)=some (.inr r)):loopM body (g 0)=some r:=by
 obtain ⟨r',h1,h2⟩:=loopM_from (body:=body) (fun k s=>s=g k) (fun x=>x=r) n (s:=g 0) rfl fun k s hk hs=>by
  subst hs
  by_cases hlt:k<n
  ·exact .inl ⟨_,hlt,h k hlt,rfl⟩
  ·have:k=n:=by omega
   subst this
   exact .inr ⟨r,he,rfl⟩
 rw [h1,h2]
theorem find_loop {α:Type} {xs:List α} (p:α→Bool) {body:Int→Option (Int⊕(Unit⊕Int))}
  (hb:∀ k (hk:k<xs.length),body (k:Int)=some (bif p xs[k] then .inr (.inr (k:Int)) else .inl ((k:Int)+1))) (he:body (xs.length:Int)=some (.inr (.inl ()))) :
  ∃ o,loopM body 0=some o∧((o=.inl ()∧∀ k (hk:k<xs.length),p xs[k]=false)∨∃ k,∃ hk:k<xs.length,o=.inr (k:Int)∧p xs[k]=true∧∀ j (hj:j<k),p (xs[j]'(by omega))=false):=by
 refine loopM_from (fun k s=>s=(k:Int)∧∀ j (hj:j<xs.length),j<k→p xs[j]=false) _ xs.length (s:=0) ⟨rfl,fun j _ hj=>by omega⟩ fun k s hk ⟨hs,hP⟩=>?_
 subst hs
 by_cases hlt:k<xs.length
 ·cases hp:p xs[k] with
  | true=>exact .inr ⟨.inr (k:Int),by rw [hb k hlt,hp];rfl,.inr ⟨k,hlt,rfl,hp,fun j hj=>hP j (by omega) hj⟩⟩
  | false =>
   refine .inl ⟨((k+1:Nat):Int),hlt,by rw [hb k hlt,hp];rfl,rfl,fun j hj hjk=>?_⟩
   by_cases e:j=k
   ·subst e;exact hp
   ·exact hP j hj (by omega)
 ·have:k=xs.length:=by omega
  subst this
  exact .inr ⟨_,he,.inl ⟨rfl,fun j hj=>hP j hj hj⟩⟩
theorem any_loop {α:Type} {xs:List α} (p:α→Bool) {body:Int→Option (Int⊕(Unit⊕Int))}
  (hb:∀ k (hk:k<xs.length),body (k:Int)=some (bif p xs[k] then .inr (.inr (k:Int)) else .inl ((k:Int)+1))) (he:body (xs.length:Int)=some (.inr (.inl ()))) :
  Option.bind (Option.bind (loopM body 0) (fun o=>Sum.elim (fun _=>some (-1:Int)) (fun t=>some t) o)) (fun ov=>some (leM 0 ov))=some (xs.any p):=by
 obtain ⟨o,h1,h2⟩:=find_loop p hb he
 rw [h1]
 rcases h2 with ⟨rfl,h2⟩ | ⟨k,hk,rfl,h2,_⟩
 ·have:xs.any p=false:=by
   rw [List.any_eq_false]
   intro x hx
   obtain ⟨i,hi,rfl⟩:=List.mem_iff_getElem.1 hx
   simp [h2 i hi]
  rw [this]
  rfl
 ·have:xs.any p=true:=List.any_eq_true.2 ⟨_,List.getElem_mem hk,h2⟩
  rw [this]
  show some (decide ((0:Int)≤(k:Int)))=some true
  rw [dT (by omega)]
variable [ea:Go.Abs.EA]
open Go Go.Abs
def row {α:Type} (m:Nat) (g:Nat→α):List α:=(List.range m).map g
def upd {α:Type} (d:Nat→Nat→α) (i j:Nat) (y:α):Nat→Nat→α:=fun a b=>if a=i∧b=j then y else d a b
section
variable {α:Type}
end
theorem bind_of {α β:Type} {o:Option α} {x:α} {f:α→Option β} {r:Option β} (h:o=some x) (h2:f x=r):Option.bind o f=r:=by
 rw [h];exact h2
variable [ea:Go.Abs.EA]
open Go Go.Abs
def Ans {α:Type} (o:Option α) (Q:α→Prop):Prop:=∃ r,o=some r∧Q r
theorem Ans.is {α:Type} {o:Option α} {r:α} (h:Ans o (fun x=>x=r)):o=some r:=by
 obtain ⟨x,h1,h2⟩:=h
 rw [h1,h2]
theorem Ans.some {α:Type} {r:α} {Q:α→Prop} (hQ:Q r):Ans (some r) Q:=⟨r,rfl,hQ⟩
theorem Ans.bind {α β:Type} {o:Option α} {f:α→Option β} {P:α→Prop} {Q:β→Prop} (h:Ans o P) (hf:∀ x,P x→Ans (f x) Q):Ans (Option.bind o f) Q:=by
 obtain ⟨x,h1,h2⟩:=h
 rw [h1]
 exact hf x h2
def Nxt {σ β:Type} (P:σ→Prop) (Q:β→Prop):σ⊕β→Prop
 | .inl s=>P s
 | .inr r=>Q r
theorem Ans.loop {σ β:Type} {body:σ→Option (σ⊕β)} {s:σ} {Q:β→Prop} (P:Nat→σ→Prop) (n:Nat) (h0:P 0 s)
  (h:∀ k s,k≤n→P k s→Ans (body s) (Nxt (fun s'=>k<n∧P (k+1) s') Q)):Ans (loopM body s) Q:=by
 refine loopM_from P Q n h0 fun k s hk hP=>?_
 obtain ⟨o,h1,h2⟩:=h k s hk hP
 cases o with
 | inl s'=>exact .inl ⟨s',h2.1,h1,h2.2⟩
 | inr r=>exact .inr ⟨r,h1,h2⟩
theorem ltI {a b:Int} (h:a<b):ltM a b=true:=dT h
theorem geI {a b:Int} (h:b≤a):ltM a b=false:=dF (by omega)
theorem leI {a b:Int} (h:a≤b):leM a b=true:=dT h
theorem gtI {a b:Int} (h:b<a):leM a b=false:=dF (by omega)
theorem eqI {a b:Int} (h:a=b):eqM a b=true:=dT h
theorem neI {a b:Int} (h:a≠b):eqM a b=false:=dF h
theorem notT:notM true=false:=rfl
theorem notF:notM false=true:=rfl
theorem orT (b:Bool):orM true b=true:=rfl
theorem orF (b:Bool):orM false b=b:=rfl
theorem andT (b:Bool):andM true b=b:=rfl
theorem andF (b:Bool):andM false b=false:=rfl
def pk (c n:Int):Int:=(if c<0 then -(c+1) else c) % n
theorem pk_lo {c n:Int} (h:0<n):0≤pk c n:=Int.emod_nonneg _ (by omega)
theorem pk_hi {c n:Int} (h:0<n):pk c n<n:=Int.emod_lt_of_pos _ h
theorem remM_of {a b:Int} (ha:0≤a) (hb:0<b):remM a b=some (a % b):=by
 unfold remM
 rw [dF (by omega)]
 show some (a.tmod b)=some (a % b)
 rw [Int.tmod_eq_emod_of_nonneg ha]
theorem divM_pos {k:IntKind} {a b:Int} (hb:b≠0):divM k a b=some (k.wrap (a.tdiv b)):=by
 unfold divM
 rw [dF hb]
theorem pk_text {c n:Int} (hc:IntKind.i64.has c) (hn:0<n) :
  Option.bind (bif ltM c (0:Int) then some (IntKind.wrap .i64 (negM (IntKind.wrap .i64 (c+(1:Int))))) else some c) (fun (o:Int)=>Option.bind (remM o n) fun (r:Int)=>some r)=some (pk c n):=by
 have hc':-9223372036854775808≤c∧c≤9223372036854775807:=hc
 unfold pk
 by_cases h:c<0
 ·rw [ltI h,cT,oB,if_pos h,wrap_in (n:=c+1) (by omega) (by omega)]
  unfold negM
  rw [wrap_in (by omega) (by omega),remM_of (by omega) hn]
  rfl
 ·rw [geI (by omega),cF,oB,if_neg h,remM_of (by omega) hn]
  rfl
end Go.PE
namespace Go.Ar
abbrev Bs:=List UInt8
theorem u8 {n:Nat} (h:n<256):(UInt8.ofNat n).toNat=n:=by rw [UInt8.toNat_ofNat'];omega
theorem u8eq {a b:UInt8} (h:a.toNat=b.toNat):a=b:=UInt8.toNat_inj.1 h
theorem u8lt (b:UInt8):b.toNat<256:=b.toNat_lt
def grp (z:Nat):Bs:=if z<128 then [UInt8.ofNat z] else UInt8.ofNat (z % 128+128)::grp (z / 128)
termination_by z
theorem grp_lt {z:Nat} (h:z<128):grp z=[UInt8.ofNat z]:=by unfold grp;rw [if_pos h]
theorem grp_ge {z:Nat} (h:128≤z):grp z=UInt8.ofNat (z % 128+128)::grp (z / 128):=by rw [grp,if_neg (by omega)]
theorem grp_pre:∀ (a:Nat) {b:Nat} {x y:Bs},grp a++x=grp b++y→a=b∧x=y:=by
 intro a
 induction a using Nat.strongRecOn with
 | _ a ih =>
  intro b x y h
  by_cases ha:a<128<;>by_cases hb:b<128
  ·rw [grp_lt ha,grp_lt hb] at h
   simp only [List.cons_append,List.nil_append,List.cons.injEq] at h
   have e:=congrArg UInt8.toNat h.1
   rw [u8 (by omega),u8 (by omega)] at e
   exact ⟨e,h.2⟩
  ·rw [grp_lt ha,grp_ge (by omega)] at h
   simp only [List.cons_append,List.nil_append,List.cons.injEq] at h
   have e:=congrArg UInt8.toNat h.1
   rw [u8 (by omega),u8 (by omega)] at e
   omega
  ·rw [grp_ge (by omega),grp_lt hb] at h
   simp only [List.cons_append,List.nil_append,List.cons.injEq] at h
   have e:=congrArg UInt8.toNat h.1
   rw [u8 (by omega),u8 (by omega)] at e
   omega
  ·rw [grp_ge (z:=a) (by omega),grp_ge (z:=b) (by omega)] at h
   simp only [List.cons_append,List.cons.injEq] at h
   have e:=congrArg UInt8.toNat h.1
   rw [u8 (by omega),u8 (by omega)] at e
   obtain ⟨e2,e3⟩:=ih (a / 128) (by omega) h.2
   exact ⟨by omega,e3⟩
theorem grp_len:∀ (k:Nat) {z:Nat},z<128 ^ (k+1)→(grp z).length≤k+1
 | 0,z,h=>by rw [grp_lt (by simpa using h)];simp
 | k+1,z,h=>by
  by_cases hz:z<128
  ·rw [grp_lt hz];simp
  ·rw [grp_ge (by omega)]
   have:=grp_len k (z:=z / 128) (by rw [Nat.div_lt_iff_lt_mul (by omega),← Nat.pow_succ];exact h)
   simp only [List.length_cons];omega
def zz (n:Int):Nat:=if n<0 then (-2*n-1).toNat else (2*n).toNat
def uz (z:Nat):Int:=if z % 2=0 then (z / 2:Nat) else -((z / 2:Nat):Int)-1
theorem uz_zz (n:Int):uz (zz n)=n:=by unfold uz zz;split<;>split<;>omega
theorem zz_uz (z:Nat):zz (uz z)=z:=by unfold uz zz;split<;>split<;>omega
theorem zz_inj {a b:Int} (h:zz a=zz b):a=b:=by rw [← uz_zz a,h,uz_zz]
abbrev inR (n:Int):Prop:=-4611686018427387903≤n∧n≤4611686018427387903
theorem zz_lt {n:Int} (h:inR n):zz n<9223372036854775807:=by unfold inR at h;unfold zz;split<;>omega
def pI (n:Int):Bs:=grp (zz n)
theorem pI_pre {a b:Int} {x y:Bs} (h:pI a++x=pI b++y):a=b∧x=y:=by
 obtain ⟨e,f⟩:=grp_pre _ h
 exact ⟨zz_inj e,f⟩
theorem pI_len {n:Int} (h:inR n):(pI n).length≤9:=grp_len 8 (Nat.lt_trans (zz_lt h) (by decide))
def pS (s:Bs):Bs:=pI s.length++s
theorem pS_pre {a b x y:Bs} (h:pS a++x=pS b++y):a=b∧x=y:=by
 unfold pS at h
 rw [aA,aA] at h
 obtain ⟨e,f⟩:=pI_pre h
 exact List.append_inj f (by omega)
def IsI (s:Bs) (n:Int) (k:Nat):Prop:=inR n∧k=(pI n).length∧pI n <+: s
theorem IsI.uniq {s:Bs} {n m:Int} {j k:Nat} (h:IsI s n j) (h':IsI s m k):n=m∧j=k:=by
 obtain ⟨_,rfl,x,hx⟩:=h
 obtain ⟨_,rfl,y,hy⟩:=h'
 obtain ⟨e,_⟩:=pI_pre (hx.trans hy.symm)
 subst e
 exact ⟨rfl,rfl⟩
def IsS (s t:Bs) (k:Nat):Prop:=t.length≤65536∧k=(pS t).length∧pS t <+: s
theorem IsS.uniq {s t u:Bs} {j k:Nat} (h:IsS s t j) (h':IsS s u k):t=u∧j=k:=by
 obtain ⟨_,rfl,x,hx⟩:=h
 obtain ⟨_,rfl,y,hy⟩:=h'
 obtain ⟨e,_⟩:=pS_pre (hx.trans hy.symm)
 subst e
 exact ⟨rfl,rfl⟩
def mW (n:Nat):Nat:=n % 4294967296
def xW (a b:Nat):Nat:=mW a ^^^ mW b
def aW (a b:Nat):Nat:=mW a &&& mW b
def oW (a b:Nat):Nat:=mW a ||| mW b
def shl (x n:Nat):Nat:=mW (x*2 ^ n)
def shr (x n:Nat):Nat:=x / 2 ^ n
def rot (x n:Nat):Nat:=oW (shr x n) (shl x (32-n))
def kSha:List Nat:=[
 0x428a2f98,0x71374491,0xb5c0fbcf,0xe9b5dba5,0x3956c25b,0x59f111f1,0x923f82a4,0xab1c5ed5,
 0xd807aa98,0x12835b01,0x243185be,0x550c7dc3,0x72be5d74,0x80deb1fe,0x9bdc06a7,0xc19bf174,
 0xe49b69c1,0xefbe4786,0x0fc19dc6,0x240ca1cc,0x2de92c6f,0x4a7484aa,0x5cb0a9dc,0x76f988da,
 0x983e5152,0xa831c66d,0xb00327c8,0xbf597fc7,0xc6e00bf3,0xd5a79147,0x06ca6351,0x14292967,
 0x27b70a85,0x2e1b2138,0x4d2c6dfc,0x53380d13,0x650a7354,0x766a0abb,0x81c2c92e,0x92722c85,
 0xa2bfe8a1,0xa81a664b,0xc24b8b70,0xc76c51a3,0xd192e819,0xd6990624,0xf40e3585,0x106aa070,
 0x19a4c116,0x1e376c08,0x2748774c,0x34b0bcb5,0x391c0cb3,0x4ed8aa4a,0x5b9cca4f,0x682e6ff3,
 0x748f82ee,0x78a5636f,0x84c87814,0x8cc70208,0x90befffa,0xa4506ceb,0xbef9a3f7,0xc67178f2]
def hSha:List Nat:=[0x6a09e667,0xbb67ae85,0x3c6ef372,0xa54ff53a,0x510e527f,0x9b05688c,0x1f83d9ab,0x5be0cd19]
def w4 (b:List Nat) (i:Nat):Nat:=oW (oW (oW (shl (mW (b.getD (4*i) 0)) 24) (shl (mW (b.getD (4*i+1) 0)) 16)) (shl (mW (b.getD (4*i+2) 0)) 8)) (mW (b.getD (4*i+3) 0))
def nextW (a b c d:Nat):Nat:=mW (mW (mW (a+xW (xW (rot b 7) (rot b 18)) (shr b 3))+c)+xW (xW (rot d 17) (rot d 19)) (shr d 10))
def wNext (w:List Nat):Nat:=nextW (w.getD (w.length-16) 0) (w.getD (w.length-15) 0) (w.getD (w.length-7) 0) (w.getD (w.length-2) 0)
def wMore:Nat→List Nat→List Nat
 | 0,w=>w
 | k+1,w=>wMore k (w++[wNext w])
def wAll (b:List Nat):List Nat:=wMore 48 ((List.range 16).map (w4 b))
def tW (e f g h k w:Nat):Nat:=mW (mW (mW (mW (h+xW (xW (rot e 6) (rot e 11)) (rot e 25))+xW (aW e f) (aW (xW 4294967295 e) g))+k)+w)
def uW (a b c:Nat):Nat:=mW (xW (xW (rot a 2) (rot a 13)) (rot a 22)+xW (xW (aW a b) (aW a c)) (aW b c))
def rnd (v:List Nat) (kw:Nat×Nat):List Nat:=match v with
 | [a,b,c,d,e,f,g,h]=>[mW (tW e f g h kw.1 kw.2+uW a b c),a,b,c,mW (d+tW e f g h kw.1 kw.2),e,f,g]
 | _=>v
def blk (h:List Nat) (b:List Nat):List Nat:=List.zipWith (fun x y=>mW (x+y)) h ((kSha.zip (wAll b)).foldl rnd h)
def blks:Nat→List Nat→List Nat→List Nat
 | 0,h,_=>h
 | k+1,h,b=>blks k (blk h (b.take 64)) (b.drop 64)
def nZ (n:Nat):Nat:=(119-n % 64) % 64
def pad (b:List Nat):List Nat:=b++128::(List.replicate (nZ b.length) 0++(List.range 8).map fun i=>shr (8*b.length) (8*(7-i)) % 256)
def wBytes (h:List Nat):Bs:=h.flatMap fun x=>[UInt8.ofNat (shr x 24),UInt8.ofNat (shr x 16),UInt8.ofNat (shr x 8),UInt8.ofNat x]
def sha (s:Bs):Bs:=wBytes (blks ((pad (s.map UInt8.toNat)).length / 64) hSha (pad (s.map UInt8.toNat)))
theorem rnd_len {v:List Nat} (kw:Nat×Nat) (h:v.length=8):(rnd v kw).length=8:=by
 unfold rnd;split
 ·rfl
 ·exact h
theorem rnds_len:∀ (l:List (Nat×Nat)) (v:List Nat),v.length=8→(l.foldl rnd v).length=8
 | [],_,h=>h
 | x::l,v,h=>rnds_len l (rnd v x) (rnd_len x h)
theorem blk_len {h b:List Nat} (hh:h.length=8):(blk h b).length=8:=by
 unfold blk;rw [List.length_zipWith,rnds_len _ _ hh,hh];rfl
theorem blks_len:∀ (k:Nat) {h b:List Nat},h.length=8→(blks k h b).length=8
 | 0,_,_,h=>h
 | k+1,_,_,h=>blks_len k (blk_len h)
theorem sha_len (s:Bs):(sha s).length=32:=by
 have:=blks_len ((pad (s.map UInt8.toNat)).length / 64) (h:=hSha) (b:=pad (s.map UInt8.toNat)) rfl
 unfold sha wBytes
 generalize blks _ _ _=l at this
 match l,this with
 | [a,b,c,d,e,f,g,h],_=>rfl
def chain (h s:Bs):Bs:=sha (2::(h++s))
def gv:Bs→Nat
 | []=>0
 | b::l=>b.toNat % 128+128*gv l
theorem gv_snoc:∀ (l:Bs) (b:UInt8),gv (l++[b])=gv l+b.toNat % 128*128 ^ l.length
 | [],b=>by simp [gv]
 | a::l,b=>by
  simp only [List.cons_append,gv,gv_snoc l b,List.length_cons,Nat.pow_succ]
  rw [Nat.mul_add,← Nat.add_assoc,Nat.mul_comm (128 ^ l.length),Nat.mul_left_comm]
theorem gv_lt:∀ (l:Bs),gv l<128 ^ l.length
 | []=>by simp [gv]
 | b::l=>by
  have:=gv_lt l
  simp only [gv,List.length_cons,Nat.pow_succ];omega
theorem gv_grp (z:Nat):gv (grp z)=z:=by
 induction z using Nat.strongRecOn with
 | _ z ih =>
  by_cases h:z<128
  ·rw [grp_lt h];simp only [gv];rw [u8 (by omega)];omega
  ·rw [grp_ge (by omega)]
   simp only [gv]
   rw [ih _ (by omega),u8 (by omega)];omega
def Sh (l:Bs) (c:Bs) (b:UInt8):Prop:=l=c++[b]∧(∀ x∈c,128≤x.toNat)∧b.toNat<128
theorem grp_sh (z:Nat):∃ c b,Sh (grp z) c b∧(c=[]∨b.toNat≠0):=by
 induction z using Nat.strongRecOn with
 | _ z ih =>
  by_cases h:z<128
  ·exact ⟨[],UInt8.ofNat z,⟨grp_lt h,fun x hx=>(by simp at hx),by rw [u8 (by omega)];exact h⟩,.inl rfl⟩
  ·obtain ⟨c,b,⟨h1,h2,h3⟩,h4⟩:=ih (z / 128) (by omega)
   refine ⟨UInt8.ofNat (z % 128+128)::c,b,⟨by rw [grp_ge (by omega),h1];rfl,fun x hx=>?_,h3⟩,.inr ?_⟩
   ·rcases List.mem_cons.1 hx with q | q
    ·rw [q,u8 (by omega)];omega
    ·exact h2 x q
   ·rcases h4 with rfl | h4
    ·intro e
     have e1:gv (grp (z / 128))=z / 128:=gv_grp _
     rw [h1] at e1
     simp only [List.nil_append,gv,e] at e1
     omega
    ·exact h4
theorem sh_grp:∀ {c:Bs} {b:UInt8} {l:Bs},Sh l c b→(c=[]∨b.toNat≠0)→grp (gv l)=l
 | [],b,l,⟨h1,h2,h3⟩,_=>by
  subst h1
  simp only [List.nil_append,gv]
  rw [grp_lt (by omega)]
  congr 1
  apply u8eq;rw [u8 (by omega)];omega
 | x::c,b,l,⟨h1,h2,h3⟩,h4=>by
  have hb:b.toNat≠0:=h4.resolve_left (by simp)
  subst h1
  have hx:=h2 x (by simp)
  have hx2:=u8lt x
  have ih:=sh_grp (c:=c) (b:=b) ⟨rfl,fun y hy=>h2 y (by simp [hy]),h3⟩ (.inr hb)
  have hpos:0<gv (c++[b]):=by
   rw [gv_snoc]
   have:0<128 ^ c.length:=Nat.pow_pos (by omega)
   have:0<b.toNat % 128*128 ^ c.length:=Nat.mul_pos (by omega) this
   omega
  simp only [List.cons_append,gv]
  rw [grp_ge (by omega)]
  have e1:(x.toNat % 128+128*gv (c++[b])) / 128=gv (c++[b]):=by omega
  have e2:(x.toNat % 128+128*gv (c++[b])) % 128=x.toNat % 128:=by omega
  rw [e1,e2,ih]
  congr 1
  apply u8eq;rw [u8 (by omega)];omega
theorem sh_pre:∀ {c c':Bs} {b b':UInt8} {l l' x y:Bs},Sh l c b→Sh l' c' b'→l++x=l'++y→l=l'
 | [],[],b,b',l,l',x,y,⟨h1,_,h3⟩,⟨g1,_,g3⟩,e=>by
  subst h1;subst g1
  simp at e
  rw [e.1]
 | [],d::c',b,b',l,l',x,y,⟨h1,_,h3⟩,⟨g1,g2,g3⟩,e=>by
  subst h1;subst g1
  simp at e
  have:=g2 d (by simp)
  rw [← e.1] at this;omega
 | d::c,[],b,b',l,l',x,y,⟨h1,h2,h3⟩,⟨g1,g2,g3⟩,e=>by
  subst h1;subst g1
  simp at e
  have:=h2 d (by simp)
  rw [e.1] at this;omega
 | d::c,d'::c',b,b',l,l',x,y,⟨h1,h2,h3⟩,⟨g1,g2,g3⟩,e=>by
  subst h1;subst g1
  simp only [List.cons_append,List.cons.injEq] at e ⊢
  refine ⟨e.1,?_⟩
  exact sh_pre (c:=c) (c':=c') (b:=b) (b':=b') ⟨rfl,fun z hz=>h2 z (by simp [hz]),h3⟩ ⟨rfl,fun z hz=>g2 z (by simp [hz]),g3⟩ e.2
theorem isI_sh {t l c:Bs} {b:UInt8} (hl:Sh l c b) (ht:l <+: t) {n:Int} {k:Nat}:IsI t n k↔inR n∧pI n=l∧k=l.length:=by
 constructor
 ·rintro ⟨h1,h2,y,hy⟩
  obtain ⟨x,hx⟩:=ht
  obtain ⟨c',b',h3,_⟩:=grp_sh (zz n)
  have e:pI n=l:=sh_pre h3 hl (show pI n++y=l++x by rw [hy,hx])
  exact ⟨h1,e,by rw [h2,e]⟩
 ·rintro ⟨h1,h2,h3⟩
  exact ⟨h1,by rw [h3,h2],by rw [h2];exact ht⟩
theorem isI_canon {t l c:Bs} {b:UInt8} (hl:Sh l c b) (ht:l <+: t) {n:Int} {k:Nat}:IsI t n k↔inR n∧n=uz (gv l)∧(c=[]∨b.toNat≠0)∧k=l.length:=by
 rw [isI_sh hl ht]
 constructor
 ·rintro ⟨h1,h2,h3⟩
  have e:zz n=gv l:=by rw [← h2];exact (gv_grp _).symm
  refine ⟨h1,by rw [← e,uz_zz],?_,h3⟩
  obtain ⟨c',b',g1,g2⟩:=grp_sh (zz n)
  have:c'++[b']=c++[b]:=by rw [← g1.1,← hl.1];exact h2
  obtain ⟨p,q⟩:=List.append_inj' this rfl
  simp at q
  rw [← p,← q];exact g2
 ·rintro ⟨h1,h2,h3,h4⟩
  refine ⟨h1,?_,h4⟩
  unfold pI
  rw [h2,zz_uz,sh_grp hl h3]
theorem isI_none {t:Bs} {i:Nat} (h:∀ x∈t.take i,128≤x.toNat) (hi:i=9∨t.length≤i) (n:Int) (k:Nat):¬ IsI t n k:=by
 rintro ⟨h1,h2,y,hy⟩
 obtain ⟨c,b,h3,_⟩:=grp_sh (zz n)
 have hl:=pI_len h1
 have e:pI n=c++[b]:=h3.1
 rw [e] at hl hy
 simp only [lA,List.length_singleton] at hl
 have hb:b∈t.take i:=by
  rw [← hy,aA]
  rcases hi with rfl | hi
  ·rw [List.take_append]
   obtain ⟨m,hm⟩:∃ m,9-c.length=m+1:=⟨8-c.length,by omega⟩
   rw [hm];simp
  ·rw [← hy] at hi
   rw [tkL (by rw [aA] at hi;exact hi)];simp
 have:=h b hb
 have:=h3.2.2
 omega
def IntR (s:Bs) (p:Nat) (r:Int×Int×Int):Prop:=(∀ n k,IsI (s.drop p) n k→r=(n,((p+k:Nat):Int),0))∧((∀ n k,¬ IsI (s.drop p) n k)→r=(0,0,10))
def StrR (s:Bs) (p:Nat) (r:Bs×Int×Int):Prop:=(∀ n k,IsS (s.drop p) n k→r=(n,((p+k:Nat):Int),0))∧((∀ n k,¬ IsS (s.drop p) n k)→r=([],0,10))
theorem IntR.cases {s:Bs} {p:Nat} {r:Int×Int×Int} (h:IntR s p r):(∃ n k,IsI (s.drop p) n k∧r=(n,((p+k:Nat):Int),0))∨((∀ n k,¬ IsI (s.drop p) n k)∧r=(0,0,10)):=by
 by_cases e:∃ n k,IsI (s.drop p) n k
 ·obtain ⟨n,k,e⟩:=e
  exact .inl ⟨n,k,e,h.1 n k e⟩
 ·have e2:∀ n k,¬ IsI (s.drop p) n k:=fun n k q=>e ⟨n,k,q⟩
  exact .inr ⟨e2,h.2 e2⟩
theorem StrR.cases {s:Bs} {p:Nat} {r:Bs×Int×Int} (h:StrR s p r):(∃ n k,IsS (s.drop p) n k∧r=(n,((p+k:Nat):Int),0))∨((∀ n k,¬ IsS (s.drop p) n k)∧r=([],0,10)):=by
 by_cases e:∃ n k,IsS (s.drop p) n k
 ·obtain ⟨n,k,e⟩:=e
  exact .inl ⟨n,k,e,h.1 n k e⟩
 ·have e2:∀ n k,¬ IsS (s.drop p) n k:=fun n k q=>e ⟨n,k,q⟩
  exact .inr ⟨e2,h.2 e2⟩
theorem IsI.le {t:Bs} {n:Int} {k:Nat} (h:IsI t n k):k≤t.length∧t=pI n++t.drop k:=by
 obtain ⟨_,rfl,x,hx⟩:=h
 rw [← hx]
 simp
theorem IsS.le {t u:Bs} {k:Nat} (h:IsS t u k):k≤t.length∧t=pS u++t.drop k:=by
 obtain ⟨_,rfl,x,hx⟩:=h
 rw [← hx]
 simp
end Go.Ar
namespace Go.Proofs.YtobfnefajpiakaaDoor
open Go Go.Lib Go.Abs Go.PE Go.Ar
variable [EA]
theorem wu64 (n:Int):IntKind.wrap .u64 n=n % 18446744073709551616:=by simp [IntKind.wrap,IntKind.bits,IntKind.signed]
theorem wu64_in {n:Int} (h0:0≤n) (h:n<18446744073709551616):IntKind.wrap .u64 n=n:=by rw [wu64];omega
theorem wu32_in {n:Int} (h0:0≤n) (h:n<4294967296):IntKind.wrap .u32 n=n:=IntWalk.u32_in n ⟨h0,by omega⟩
theorem wu8_in {n:Int} (h0:0≤n) (h:n<256):IntKind.wrap .u8 n=n:=IntWalk.u8_in n ⟨h0,by omega⟩
theorem wu32 (n:Int):IntKind.wrap .u32 n=n % 4294967296:=by simp [IntKind.wrap,IntKind.bits,IntKind.signed]
theorem wu8 (n:Int):IntKind.wrap .u8 n=n % 256:=by simp [IntKind.wrap,IntKind.bits,IntKind.signed]
theorem bv64 (a:Nat):(BitVec.ofInt IntKind.u64.bits (a:Int)).toNat=a % 18446744073709551616:=by rw [BitVec.ofInt_natCast];rfl
theorem bv32 (a:Nat):(BitVec.ofInt IntKind.u32.bits (a:Int)).toNat=a % 4294967296:=by rw [BitVec.ofInt_natCast];rfl
theorem bv8 (a:Nat):(BitVec.ofInt IntKind.u8.bits (a:Int)).toNat=a % 256:=by rw [BitVec.ofInt_natCast];rfl
theorem xor64 {a b:Nat} (ha:a<18446744073709551616) (hb:b<18446744073709551616):bitM .xor .u64 a b=((a ^^^ b:Nat):Int):=by
 unfold bitM
 dsimp only
 rw [BitVec.toNat_xor,bv64,bv64,Nat.mod_eq_of_lt ha,Nat.mod_eq_of_lt hb]
 have:=Nat.xor_lt_two_pow (n:=64) ha hb
 exact wu64_in (by omega) (by omega)
theorem and64 {a b:Nat} (ha:a<18446744073709551616) (hb:b<18446744073709551616):bitM .and .u64 a b=((a &&& b:Nat):Int):=by
 unfold bitM
 dsimp only
 rw [BitVec.toNat_and,bv64,bv64,Nat.mod_eq_of_lt ha,Nat.mod_eq_of_lt hb]
 have:=Nat.and_lt_two_pow (n:=64) a hb
 exact wu64_in (by omega) (by omega)
theorem or64 {a b:Nat} (ha:a<18446744073709551616) (hb:b<18446744073709551616):bitM .or .u64 a b=((a ||| b:Nat):Int):=by
 unfold bitM
 dsimp only
 rw [BitVec.toNat_or,bv64,bv64,Nat.mod_eq_of_lt ha,Nat.mod_eq_of_lt hb]
 have:=Nat.or_lt_two_pow (n:=64) ha hb
 exact wu64_in (by omega) (by omega)
theorem and8 {a b:Nat} (ha:a<256) (hb:b<256):bitM .and .u8 a b=((a &&& b:Nat):Int):=by
 unfold bitM
 dsimp only
 rw [BitVec.toNat_and,bv8,bv8,Nat.mod_eq_of_lt ha,Nat.mod_eq_of_lt hb]
 have:=Nat.and_lt_two_pow (n:=8) a hb
 exact wu8_in (by omega) (by omega)
theorem or8 {a b:Nat} (ha:a<256) (hb:b<256):bitM .or .u8 a b=((a ||| b:Nat):Int):=by
 unfold bitM
 dsimp only
 rw [BitVec.toNat_or,bv8,bv8,Nat.mod_eq_of_lt ha,Nat.mod_eq_of_lt hb]
 have:=Nat.or_lt_two_pow (n:=8) ha hb
 exact wu8_in (by omega) (by omega)
theorem and127 (a:Nat):a &&& 127=a % 128:=Nat.and_two_pow_sub_one_eq_mod a 7
theorem and1 (a:Nat):a &&& 1=a % 2:=Nat.and_two_pow_sub_one_eq_mod a 1
theorem or128 {a:Nat} (h:a<128):a ||| 128=a+128:=by
 have:=Nat.two_pow_add_eq_or_of_lt (i:=7) h 1
 rw [Nat.or_comm,Nat.add_comm];simpa using this.symm
theorem xorAll64 {a:Nat} (h:a<18446744073709551616):a ^^^ 18446744073709551615=18446744073709551615-a:=by
 have e:((BitVec.ofNat 64 a) ^^^ BitVec.allOnes 64).toNat=(~~~ (BitVec.ofNat 64 a)).toNat:=by rw [BitVec.xor_allOnes]
 rw [BitVec.toNat_xor,BitVec.toNat_not,BitVec.toNat_allOnes,BitVec.toNat_ofNat,Nat.mod_eq_of_lt h] at e
 simpa using e
theorem shrM_of {k:IntKind} {a:Int} {n:Nat} (h:n≤k.bits):shrM k a (n:Int)=some (a.fdiv (2 ^ n)):=by
 unfold shrM
 rw [dF (by omega)]
 show some (a.fdiv (2 ^ min ((n:Int).toNat) k.bits))=_
 rw [Int.toNat_natCast,Nat.min_eq_left h]
theorem shlM_of {k:IntKind} {a:Int} {n:Nat} (h:n≤k.bits):shlM k a (n:Int)=some (k.wrap (a*2 ^ n)):=by
 unfold shlM
 rw [dF (by omega)]
 show some (k.wrap (a*2 ^ min ((n:Int).toNat) k.bits))=_
 rw [Int.toNat_natCast,Nat.min_eq_left h]
theorem fdiv_nat (a b:Nat):Int.fdiv (a:Int) (b:Int)=((a / b:Nat):Int):=by
 rw [Int.fdiv_eq_ediv_of_nonneg _ (by omega)];rfl
theorem lenI {α:Type} (l:List α):lenM l=(l.length:Int):=rfl
theorem catM_of {x y:List UInt8} (h:x.length+y.length≤9223372036854775807):catM x y=some (x++y):=by unfold catM;rw [Nat.ble_eq_true_of_le h]
theorem catB_of {x y:List UInt8} (h:x.length+y.length≤140737488355328):catB x y=some (x++y):=by unfold catB;rw [Nat.ble_eq_true_of_le h]
theorem eqsT {x y:List UInt8} (h:x=y):eqsM x y=true:=dT h
theorem eqsF {x y:List UInt8} (h:x≠y):eqsM x y=false:=dF h
theorem app1 {α:Type} {b:Nat} {l:List α} {d:α} (hb:b≤1000) (h:l.length≤1000000):appM b l [d]=some (l++[d]):=by
 refine appM_of ?_
 have:(l.length+[d].length)*b≤(l.length+[d].length)*1000:=Nat.mul_le_mul_left _ hb
 simp only [List.length_singleton] at *
 omega
theorem byteM_of {s:List UInt8} {i:Nat} {b:UInt8} (h:s[i]? = some b):byteM s (i:Int)=some (b.toNat:Int):=by
 unfold byteM
 rw [dT (by omega)]
 simp only [Int.toNat_natCast,h]
def nB (s:Bs):List Int:=s.map fun b=>(b.toNat:Int)
theorem strB_nB (s:Bs):strB (nB s)=s:=by
 unfold strB nB
 rw [List.map_map]
 have:((fun n:Int=>UInt8.ofNat n.toNat) ∘ fun b:UInt8=>(b.toNat:Int))=id:=by
  funext b;simp
 rw [this,List.map_id]
theorem nB_len (s:Bs):(nB s).length=s.length:=by simp [nB]
theorem nB_app (s t:Bs):nB (s++t)=nB s++nB t:=by simp [nB]
theorem nB_grp_lt {z:Nat} (h:z<128):nB (grp z)=[(z:Int)]:=by rw [grp_lt h];simp [nB,u8 (show z<256 by omega)]
theorem nB_grp_ge {z:Nat} (h:128≤z):nB (grp z)=((z % 128+128:Nat):Int)::nB (grp (z / 128)):=by
 rw [grp_ge h];show ((UInt8.ofNat (z % 128+128)).toNat:Int)::_=_;rw [u8 (by omega)];rfl
theorem wPut_ok {n:Int} (h:inR n):m65 n=some (pI n,0):=by
 have h':-4611686018427387903≤n∧n≤4611686018427387903:=h
 have hz:=zz_lt h
 unfold m65
 dsimp only
 rw [geI h'.1,geI h'.2,orF,cF]
 have e0:bitM .xor .u64 (IntKind.wrap .u64 (IntKind.wrap .u64 n*2 ^ 1)) (IntKind.wrap .u64 (n.fdiv (2 ^ 63)))=(zz n:Int):=by
  by_cases hn:n<0
  ·have e1:IntKind.wrap .u64 (IntKind.wrap .u64 n*2 ^ 1)=((18446744073709551616+2*n).toNat:Int):=by rw [wu64 n,wu64];omega
   have e2:n.fdiv (2 ^ 63)=-1:=by
    rw [Int.fdiv_eq_ediv_of_nonneg _ (by decide)]
    omega
   rw [e1,e2,wu64,show (-1:Int) % 18446744073709551616=((18446744073709551615:Nat):Int) by decide,xor64 (by omega) (by omega),xorAll64 (by omega)]
   unfold zz
   rw [if_pos hn];omega
  ·have e1:IntKind.wrap .u64 (IntKind.wrap .u64 n*2 ^ 1)=((2*n).toNat:Int):=by rw [wu64 n,wu64];omega
   have e2:n.fdiv (2 ^ 63)=0:=by
    rw [Int.fdiv_eq_ediv_of_nonneg _ (by decide)]
    omega
   rw [e1,e2,wu64,show (0:Int) % 18446744073709551616=((0:Nat):Int) by decide,xor64 (by omega) (by omega),Nat.xor_zero]
   unfold zz
   rw [if_neg hn]
 rw [show (1:Int)=((1:Nat):Int) from rfl,shlM_of (k:=.u64) (by decide),oB,show (63:Int)=((63:Nat):Int) from rfl,shrM_of (k:=.i64) (by decide),oB,e0]
 have key:Ans (loopM (fun (s:Int×List Int)=>(bif PE.notM (ltM s.1 128) then some (bitM BinOp.or .u8 (IntKind.wrap .u8 (bitM BinOp.and .u64 s.1 127)) 128) else some (IntKind.wrap .u8 (bitM BinOp.and .u64 s.1 127))).bind fun o=>(appM (nat_lit 1) s.2 [o]).bind fun r_2=>bif PE.orM false (ltM s.1 128) then some (Sum.inr (s.1,r_2)) else (shrM .u64 s.1 7).bind fun r=>some (Sum.inl (r,r_2))) ((zz n:Int),([]:List Int))) (fun r=>r.2=nB (pI n)):=by
  refine Ans.loop (fun k s=>∃ z:Nat,s.1=z∧s.2.length=k∧z<128 ^ (10-k)∧z<9223372036854775807∧s.2++nB (grp z)=nB (pI n)) 10 ⟨zz n,rfl,rfl,Nat.lt_trans hz (by decide),hz,rfl⟩ ?_
  rintro k ⟨s1,s2⟩ hk ⟨z,h1,h2,h3,hz64,h4⟩
  dsimp only at h1 h2 h4 ⊢
  subst h1
  rw [show (127:Int)=((127:Nat):Int) from rfl,and64 (by omega) (by omega),and127,wu8_in (by omega) (by omega)]
  by_cases hs:z<128
  ·rw [ltI (by omega),notT,cF,oB,app1 (by decide) (by omega),oB,orF,cT]
   refine Ans.some ?_
   show s2++[((z % 128:Nat):Int)]=_
   rw [← h4,nB_grp_lt hs,Nat.mod_eq_of_lt hs]
  ·rw [geI (by omega),notF,cT,oB,show (128:Int)=((128:Nat):Int) from rfl,or8 (by omega) (by omega),or128 (by omega),app1 (by decide) (by omega),oB,orF,cF,show (7:Int)=((7:Nat):Int) from rfl,shrM_of (k:=.u64) (by decide),oB]
   obtain ⟨j,hj⟩:∃ j,10-k=j+1:=⟨10-k-1,by
    have:k≠10:=fun e=>by subst e;simp at h3;omega
    omega⟩
   refine Ans.some ⟨by omega,z / 128,?_,by simp [h2],?_,by omega,?_⟩
   ·show Int.fdiv (z:Int) ((128:Nat):Int)=_
    rw [fdiv_nat]
   ·rw [hj,Nat.pow_succ] at h3
    rw [show 10-(k+1)=j by omega];omega
   ·show (s2++[((z % 128+128:Nat):Int)])++nB (grp (z / 128))=_
    rw [← h4,nB_grp_ge (z:=z) (by omega),aA];rfl
 obtain ⟨r,h1,h2⟩:=key
 refine bind_of h1 ?_
 rw [h2,strB_nB]
theorem inR_len {s:Bs} (h:s.length≤65536):inR s.length:=by unfold inR;omega
theorem pS_len {s:Bs} (h:s.length≤65536):(pS s).length≤s.length+9:=by
 have:=pI_len (inR_len h)
 unfold pS;rw [lA];omega
theorem wPutS_ok {s:Bs} (h:s.length≤65536):m54 s=some (pS s,0):=by
 unfold m54
 try dsimp only
 rw [lenI,geI (by omega),cF,wPut_ok (inR_len h),oB,catM_of (by have:=pI_len (inR_len h);dsimp only;omega),oB]
 rfl
variable [EA]
theorem remM_nat (a b:Nat) (hb:0<b):remM (a:Int) (b:Int)=some ((a % b:Nat):Int):=by rw [remM_of (by omega) (by omega)];rfl
theorem divM_nat {k:IntKind} (a b:Nat) (hb:0<b):divM k (a:Int) (b:Int)=some (k.wrap ((a / b:Nat):Int)):=by
 rw [divM_pos (by omega),Int.tdiv_eq_ediv_of_nonneg (by omega)];rfl
theorem zig_ok {n:Int} (h:inR n):m50 n=some (zz n:Int):=by
 have h':-4611686018427387903≤n∧n≤4611686018427387903:=h
 unfold m50 negM
 try dsimp only
 by_cases hn:n<0
 ·rw [ltI hn,cT,wrap_in (by omega) (by omega),wu64_in (n:=-n) (by omega) (by omega),wu64_in (n:=-n*2) (by omega) (by omega),wu64_in (by omega) (by omega)]
  unfold zz
  rw [if_pos hn];congr 1;omega
 ·rw [geI (by omega),cF,wu64_in (n:=n) (by omega) (by omega),wu64_in (by omega) (by omega)]
  unfold zz
  rw [if_neg hn];congr 1;omega
theorem rPut_ok {n:Int} (h:inR n):m27 n=some (pI n,0):=by
 have h':-4611686018427387903≤n∧n≤4611686018427387903:=h
 have hz:=zz_lt h
 unfold m27
 try dsimp only
 rw [geI h'.1,geI h'.2,orF,cF,zig_ok h,oB]
 have key:Ans (loopM (fun (s:Int×List Int)=>bif leM 128 s.1 then (remM s.1 128).bind fun r_1=>(appM (nat_lit 1) s.2 [IntKind.wrap .u8 (IntKind.wrap .u64 (r_1+128))]).bind fun r_2=>(divM .u64 s.1 128).bind fun r=>some (Sum.inl (r,r_2)) else some (Sum.inr (s.1,s.2))) ((zz n:Int),([]:List Int))) (fun r=>r.2.length≤10∧∃ z:Nat,r.1=z∧z<128∧r.2++[(z:Int)]=nB (pI n)):=by
  refine Ans.loop (fun k s=>∃ z:Nat,s.1=z∧s.2.length=k∧z<128 ^ (10-k)∧z<9223372036854775807∧s.2++nB (grp z)=nB (pI n)) 10 ⟨zz n,rfl,rfl,Nat.lt_trans hz (by decide),hz,rfl⟩ ?_
  rintro k ⟨s1,s2⟩ hk ⟨z,h1,h2,h3,hz64,h4⟩
  dsimp only at h1 h2 h4 ⊢
  subst h1
  by_cases hs:z<128
  ·rw [gtI (by omega),cF]
   exact Ans.some ⟨by rw [h2];exact hk,z,rfl,hs,by rw [← h4,nB_grp_lt hs]⟩
  ·obtain ⟨j,hj⟩:∃ j,10-k=j+1:=⟨10-k-1,by
    have:k≠10:=fun e=>by subst e;simp at h3;omega
    omega⟩
   rw [leI (by omega),cT,show (128:Int)=((128:Nat):Int) from rfl,remM_nat _ _ (by decide),oB,wu64_in (by omega) (by omega),wu8_in (by omega) (by omega),app1 (by decide) (by omega),oB,divM_nat _ _ (by decide),oB,wu64_in (by omega) (by omega)]
   refine Ans.some ⟨by omega,z / 128,rfl,by simp [h2],?_,by omega,?_⟩
   ·rw [hj,Nat.pow_succ] at h3
    rw [show 10-(k+1)=j by omega];omega
   ·show (s2++[((z % 128:Nat):Int)+((128:Nat):Int)])++nB (grp (z / 128))=_
    rw [← h4,nB_grp_ge (z:=z) (by omega),aA];rfl
 obtain ⟨r,h1,hl,z,h2,h3,h4⟩:=key
 refine bind_of h1 ?_
 rw [h2,wu8_in (by omega) (by omega),app1 (by decide) (by omega),oB,h4,strB_nB]
theorem rPutS_ok {s:Bs} (h:s.length≤65536):m10 s=some (pS s,0):=by
 unfold m10
 try dsimp only
 rw [lenI,geI (by omega),cF,rPut_ok (inR_len h),oB,catM_of (by have:=pI_len (inR_len h);dsimp only;omega),oB]
 rfl
end Go.Proofs.YtobfnefajpiakaaDoor
