/-
 Texts of this proof, put together: A, Pa, Pb, Pc, Pd, Pe, Pf, Pg, Ph, Pi, Pj.
 No conditions.
-/
import Derived.WalkKit
import Derived.Below
import Derived.Deep.RegionWith
import Derived.Deep.Quiet
import Derived.OrdersIn
import Derived.RangeFuncRecord
import Derived.Laws.AppendOwn
import Derived.Deep.AppendSrc
import Derived.Laws.MakeOwn
set_option linter.all false
namespace Go
theorem oB.{u,v} {α:Type u} {β:Type v} (a:α) (f:α→Option β):(some a).bind f=f a:=rfl
theorem nB {n m:Nat} (h:Nat.beq n m=true):n=m:=Nat.eq_of_beq_eq_true h
theorem gS.{u} {α:Type u} {l:List α} {i:Nat} {a:α}:l[i]? = some a↔∃ h:i<l.length,l[i]=a:=List.getElem?_eq_some_iff
theorem cT.{u} {α:Sort u} (a b:α):cond true a b=a:=rfl
theorem cF.{u} {α:Sort u} (a b:α):cond false a b=b:=rfl
theorem dT {p:Prop} [Decidable p] (h:p):decide p=true:=decide_eq_true h
theorem lT.{u} {α:Type u} {i:Nat} {l:List α}:(l.take i).length=min i l.length:=List.length_take
theorem tkL.{u} {α:Type u} {i:Nat} {l:List α} (h:l.length≤i):l.take i=l:=List.take_of_length_le h
theorem xL.{u} {α:Type u} {l₁ l₂:List α} {i:Nat} (hn:i<l₁.length):(l₁++l₂)[i]? = l₁[i]? := List.getElem?_append_left hn
theorem xR.{u} {α:Type u} {l₁ l₂:List α} {i:Nat} (h:l₁.length≤i):(l₁++l₂)[i]? = l₂[i-l₁.length]? := List.getElem?_append_right h
theorem nR (n:Nat):n≤n:=Nat.le_refl n
theorem aA.{u} {α:Type u} (as bs cs:List α):(as++bs)++cs=as++(bs++cs):=List.append_assoc as bs cs
theorem gE.{u} {α:Type u} {l:List α} {i:Nat} (h:i<l.length):l[i]? = some l[i]:=List.getElem?_eq_getElem h
theorem dF {p:Prop} [Decidable p] (h:¬p):decide p=false:=decide_eq_false h
theorem nL {n m:Nat} (h:Nat.ble n m=true):n≤m:=Nat.le_of_ble_eq_true h
theorem oD {p:Prop} [Decidable p] (h:decide p=true):p:=of_decide_eq_true h
theorem lA.{u} {α:Type u} {as bs:List α}:(as++bs).length=as.length+bs.length:=List.length_append
theorem bA (a b:Bool):((a&&b)=true)=(a=true∧b=true):=Bool.and_eq_true a b
theorem sZ (n:Nat):n.succ≠0:=Nat.succ_ne_zero n
theorem lN.{u} {α:Type u} {l:List α} (h:l.length=0):l=[]:=List.eq_nil_of_length_eq_zero h
theorem aD.{u} {α:Type u} {xs:Array α} {i:Nat} {d:α}:xs.getD i d=xs[i]?.getD d:=Array.getD_eq_getD_getElem?
theorem aS.{u} {α:Type u} {i:Nat} {b:α} {xs:Array α}:xs[i]? = some b↔∃ h:i<xs.size,xs[i]=b:=Array.getElem?_eq_some_iff
end Go
namespace Go.Abs
open Go Go.RowKit

inductive Ty where
 | int (k:IntKind)
 | bool
 | str
 | list (t:Ty)
 | one (t:Ty)
 | pair (a b:Ty)
 deriving DecidableEq

@[reducible] def Ty.den:Ty→Type
 | .int _=>Int
 | .bool=>Bool
 | .str=>List UInt8
 | .list t=>List t.den
 | .one t=>t.den
 | .pair a b=>a.den×b.den

def Ty.size:Ty→Nat
 | .one t=>t.size
 | .pair a b=>a.size+b.size
 | _=>1

def Ty.agg:Ty→Bool
 | .one _=>true
 | .pair _ _=>true
 | _=>false

def Ty.dflt:(t:Ty)→t.den
 | .int _=>(0:Int)
 | .bool=>false
 | .str=>[]
 | .list _=>[]
 | .one t=>t.dflt
 | .pair a b=>(a.dflt,b.dflt)

instance (t:Ty):Inhabited t.den:=⟨t.dflt⟩

def Ty.zero:Ty→List Value
 | .int k=>[.int k 0]
 | .bool=>[.bool false]
 | .str=>[.string ByteArray.empty]
 | .list _=>[.slice none 0 0]
 | .one t=>t.zero
 | .pair a b=>a.zero++b.zero

abbrev Cells:=Nat→Nat→Prop

def Rep (S:Cells) (w:World):(t:Ty)→t.den→List Value→Prop
 | .int k,x,cs=>cs=[.int k x]∧k.has x
 | .bool,x,cs=>cs=[.bool x]
 | .str,x,cs=>cs=[.string ⟨List.toArray x⟩]∧List.length x≤maxLen
 | .list t,xs,cs=>∃ base cap,cs=[.slice base (List.length xs) cap]∧List.length xs≤cap∧cap≤maxLen ∧
   (List.length xs=0∨∃ b off,base=some ⟨b,off,none⟩∧∀ (i:Nat) (x:t.den),xs[i]? = some x →
    ∃ es,Rep S w t x es∧∀ j u,es[j]? = some u→S b (off+i*t.size+j)∧w.cell? ⟨b,off+i*t.size+j,none⟩=some u)
 | .one t,x,cs=>Rep S w t x cs
 | .pair a b,x,cs=>∃ c1 c2,cs=c1++c2∧Rep S w a x.1 c1∧Rep S w b x.2 c2

theorem Rep.length {S:Cells} {w:World}:∀ {t:Ty} {x:t.den} {cs:List Value},Rep S w t x cs→cs.length=t.size
 | .int _,_,_,h=>by obtain ⟨rfl,_⟩:=h;rfl
 | .bool,_,_,h=>by cases h;rfl
 | .str,_,_,h=>by obtain ⟨rfl,_⟩:=h;rfl
 | .list _,_,_,h=>by obtain ⟨_,_,rfl,_⟩:=h;rfl
 | .one t,x,cs,h=>by
  have h':Rep S w t x cs:=h
  exact h'.length
 | .pair a b,x,cs,h=>by
  obtain ⟨c1,c2,rfl,h1,h2⟩:=h
  rw [lA,h1.length,h2.length];rfl

theorem Rep.oneCell {S:Cells} {w:World}:∀ {t:Ty} {x:t.den} {cs:List Value},Rep S w t x cs→∀ u∈cs,u.oneCell'=true
 | .int _,_,_,h=>by obtain ⟨rfl,_⟩:=h;simp [Value.oneCell']
 | .bool,_,_,h=>by cases h;simp [Value.oneCell']
 | .str,_,_,h=>by obtain ⟨rfl,_⟩:=h;simp [Value.oneCell']
 | .list _,_,_,h=>by obtain ⟨_,_,rfl,_⟩:=h;simp [Value.oneCell']
 | .one t,x,cs,h=>by
  have h':Rep S w t x cs:=h
  exact h'.oneCell
 | .pair a b,x,cs,h=>by
  obtain ⟨c1,c2,rfl,h1,h2⟩:=h
  intro u hu
  rcases List.mem_append.1 hu with hu | hu
  ·exact h1.oneCell u hu
  ·exact h2.oneCell u hu

structure Keep (S:Cells) (w:World) (S':Cells) (w':World):Prop where
 sub:∀ b o,S b o→S' b o
 cell:∀ b o,S b o→w'.cell? ⟨b,o,none⟩=w.cell? ⟨b,o,none⟩

theorem Keep.refl (S:Cells) (w:World):Keep S w S w:=⟨fun _ _ h=>h,fun _ _ _=>rfl⟩
theorem Keep.trans {S1 S2 S3:Cells} {w1 w2 w3:World} (h:Keep S1 w1 S2 w2) (k:Keep S2 w2 S3 w3):Keep S1 w1 S3 w3 :=
 ⟨fun b o hs=>k.sub b o (h.sub b o hs),fun b o hs=>(k.cell b o (h.sub b o hs)).trans (h.cell b o hs)⟩

theorem Rep.keep {S S':Cells} {w w':World} (k:Keep S w S' w'):∀ {t:Ty} {x:t.den} {cs:List Value},Rep S w t x cs→Rep S' w' t x cs
 | .int _,_,_,h=>h
 | .bool,_,_,h=>h
 | .str,_,_,h=>h
 | .list t,xs,cs,h=>by
  obtain ⟨base,cap,rfl,h1,h2,h3⟩:=h
  refine ⟨base,cap,rfl,h1,h2,?_⟩
  rcases h3 with h3 | ⟨b,off,rfl,h3⟩
  ·exact .inl h3
  ·refine .inr ⟨b,off,rfl,fun i x hx=>?_⟩
   obtain ⟨es,he,hc⟩:=h3 i x hx
   exact ⟨es,he.keep k,fun j u hu=>⟨k.sub _ _ (hc j u hu).1,by rw [k.cell _ _ (hc j u hu).1];exact (hc j u hu).2⟩⟩
 | .one t,x,cs,h=>by
  have h':Rep S w t x cs:=h
  exact h'.keep k
 | .pair a b,x,cs,h=>by
  obtain ⟨c1,c2,rfl,h1,h2⟩:=h
  exact ⟨c1,c2,rfl,h1.keep k,h2.keep k⟩

def Ty.wrap (t:Ty) (cs:List Value):Value:=if t.agg then .agg cs.toArray else cs.headD undef

theorem Ty.size_nonagg {t:Ty} (h:t.agg=false):t.size=1:=by cases t<;>simp_all [Ty.agg,Ty.size]

theorem Ty.wrap_cells {S:Cells} {w:World} {t:Ty} {x:t.den} {cs:List Value} (h:Rep S w t x cs):(t.wrap cs).cells=cs.toArray:=by
 unfold Ty.wrap
 cases ha:t.agg
 ·have hl:=h.length
  rw [Ty.size_nonagg ha] at hl
  match cs,hl with
  | [u],_ =>
   have:=h.oneCell u (by simp)
   cases u<;>simp_all [Value.cells,Value.oneCell']
 ·simp [Value.cells]

def VRep (S:Cells) (w:World) (t:Ty) (x:t.den) (v:Value):Prop:=∃ cs,Rep S w t x cs∧v=t.wrap cs
def PRep (S:Cells) (w:World) (t:Ty) (x:t.den) (v:Value):Prop :=
 ∃ b off cs,v=.pointer (some ⟨b,off,none⟩)∧Rep S w t x cs∧∀ j u,cs[j]? = some u→S b (off+j)∧w.cell? ⟨b,off+j,none⟩=some u

theorem VRep.keep {S S':Cells} {w w':World} {t:Ty} {x:t.den} {v:Value} (k:Keep S w S' w') (h:VRep S w t x v):VRep S' w' t x v :=
 let ⟨cs,h1,h2⟩:=h;⟨cs,h1.keep k,h2⟩
theorem PRep.keep {S S':Cells} {w w':World} {t:Ty} {x:t.den} {v:Value} (k:Keep S w S' w') (h:PRep S w t x v):PRep S' w' t x v :=
 let ⟨b,off,cs,h1,h2,h3⟩:=h
 ⟨b,off,cs,h1,h2.keep k,fun j u hu=>⟨k.sub _ _ (h3 j u hu).1,by rw [k.cell _ _ (h3 j u hu).1];exact (h3 j u hu).2⟩⟩

theorem VRep.int {S:Cells} {w:World} {k:IntKind} {x:Int} {v:Value}:VRep S w (.int k) x v↔v=.int k x∧k.has x:=by
 constructor
 ·rintro ⟨cs,⟨rfl,h⟩,rfl⟩;exact ⟨rfl,h⟩
 ·rintro ⟨rfl,h⟩;exact ⟨_,⟨rfl,h⟩,rfl⟩
theorem VRep.bool {S:Cells} {w:World} {x:Bool} {v:Value}:VRep S w .bool x v↔v=.bool x:=by
 constructor
 ·rintro ⟨cs,h,rfl⟩;have h:cs=[.bool x]:=h;subst h;rfl
 ·rintro rfl;exact ⟨[.bool x],rfl,rfl⟩
theorem VRep.str {S:Cells} {w:World} {x:List UInt8} {v:Value}:VRep S w .str x v↔v=.string ⟨x.toArray⟩∧x.length≤maxLen:=by
 constructor
 ·rintro ⟨cs,⟨rfl,h⟩,rfl⟩;exact ⟨rfl,h⟩
 ·rintro ⟨rfl,h⟩;exact ⟨_,⟨rfl,h⟩,rfl⟩

class DB where
 b:Bool
@[reducible] def dbT:DB:=⟨true⟩
@[reducible] def dbG:DB:=⟨false⟩
class EA where
 a:Addr
variable [db:DB]
def drawsB:Bool:=db.b
structure LK (w w':World):Prop where
 loops:∀ (b:Nat) (r:Loop),w.heap[b]? = some (.loop r)→∃ r',w'.heap[b]? = some (.loop r')∧r'.tmps=r.tmps∧r'.params=r.params∧r'.assign=r.assign∧r'.body=r.body∧r'.defers=r.defers
 defs:∀ b:Nat,w.heap[b]? = some (.deferred (some []))→w'.heap[b]? = some (.deferred (some []))
 drawn:drawsB=true→w.drawn≤w'.drawn
theorem LK.of {w w':World} (hd:w.drawn≤w'.drawn) (h:∀ (b:Nat) (o:Obj),w.heap[b]? = some o→(∀ c t f,o≠.cells c t f)→w'.heap[b]? = some o):LK w w' :=
 ⟨fun b r hr=>⟨r,h b _ hr (fun _ _ _ h=>by cases h),rfl,rfl,rfl,rfl,rfl⟩,fun b hb=>h b _ hb (fun _ _ _ h=>by cases h),fun _=>hd⟩
theorem LK.refl (w:World):LK w w:=.of (nR _) fun _ _ h _=>h
theorem LK.drew (w:World):LK w w.drew:=.of (Nat.le_succ _) fun _ _ h _=>h
theorem LK.trans {a b c:World} (h:LK a b) (k:LK b c):LK a c :=
 ⟨fun i r hr=>by
  obtain ⟨r1,h1,e1,e2,e3,e4,e5⟩:=h.loops i r hr
  obtain ⟨r2,h2,f1,f2,f3,f4,f5⟩:=k.loops i r1 h1
  exact ⟨r2,h2,f1.trans e1,f2.trans e2,f3.trans e3,f4.trans e4,f5.trans e5⟩,fun i hi=>k.defs i (h.defs i hi),fun hd=>Nat.le_trans (h.drawn hd) (k.drawn hd)⟩
theorem LK.below {w w':World} (hd:drawsB=false) (h:∀ k,k<w.heap.size→w'.heap[k]? = w.heap[k]?):LK w w' :=
 ⟨fun b r hr=>⟨r,by rw [h b (aS.1 hr).1];exact hr,rfl,rfl,rfl,rfl,rfl⟩,fun b hb=>by rw [h b (aS.1 hb).1];exact hb,fun h=>by rw [hd] at h;cases h⟩
theorem LK.alloc (w:World) (o:Obj):LK w (w.alloc o):=.of (nR _) fun b x h _=>by
 have hb:b<w.heap.size:=(aS.1 h).1
 rw [Below.heap_alloc _ _ _ hb];exact h
theorem LK.setCell (w:World) (a:Addr) (v:Value):LK w (w.setCell a v):=.of (nR _) fun b x h hx=>by
 show (w.heap.modify a.block _)[b]? = some x
 rw [Array.getElem?_modify,h]
 by_cases hb:a.block=b
 ·rw [if_pos hb]
  cases x<;>first | rfl | exact absurd rfl (hx _ _ _)
 ·rw [if_neg hb]
theorem LK.setCells (b:Nat):∀ (vs:List Value) (o:Nat) (w:World),LK w (w.setCells b o vs)
 | [],_,w=>LK.refl w
 | v::r,o,w=>by rw [World.setCells];exact (LK.setCell w _ v).trans (LK.setCells b r (o+1) _)
structure Grow (B:Nat) (S:Cells) (w:World) (S':Cells) (w':World):Prop where
 below:Below B w w'
 keep:Keep S w S' w'
 lt:∀ b o,S' b o→b<w'.heap.size
 new:∀ b o,S' b o→S b o∨B≤b
 lk:LK w w'

end Go.Abs
namespace Go.PE
open Go Go.RowKit Go.Abs
variable [db:DB] [ea:EA]

def lk {α:Type}:List (Nat×α)→Nat→Option α
 | [],_=>none
 | (k,v)::r,i=>match Nat.beq k i with | true=>some v | false=>lk r i
theorem jA {α:Type} (l:List (Nat×α)) (i:Nat) (v:α):lk ((i,v)::l) i=some v:=by
 unfold lk;rw [Nat.beq_refl]
theorem wA {α:Type} (l:List (Nat×α)) {i j:Nat} (v:α) (h:i≠j):lk ((i,v)::l) j=lk l j:=by
 unfold lk
 cases hb:Nat.beq i j
 ·rw [lk.eq_def]
 ·exact absurd (nB hb) h

inductive All2 {α β:Type} (R:α→β→Prop):List α→List β→Prop where
 | nil:All2 R [] []
 | cons {a b as bs}:R a b→All2 R as bs→All2 R (a::as) (b::bs)
theorem All2.mono {α β:Type} {R R':α→β→Prop} (h:∀ a b,R a b→R' a b):∀ {as:List α} {bs:List β},All2 R as bs→All2 R' as bs
 | _,_,.nil=>.nil
 | _,_,.cons h1 h2=>.cons (h _ _ h1) (h2.mono h)
theorem All2.length {α β:Type} {R:α→β→Prop}:∀ {as:List α} {bs:List β},All2 R as bs→as.length=bs.length
 | _,_,.nil=>rfl
 | _,_,.cons _ h=>by simp [h.length]
theorem All2.get {α β:Type} {R:α→β→Prop}:∀ {as:List α} {bs:List β},All2 R as bs→∀ (i:Nat) (a:α),as[i]? = some a→∃ b,bs[i]? = some b∧R a b
 | _,_,.nil,i,a,h=>by simp at h
 | _,_,.cons h1 h2,0,a,h=>by simp at h;subst h;exact ⟨_,rfl,h1⟩
 | _,_,.cons h1 h2,i+1,a,h=>by simpa using h2.get i a (by simpa using h)
theorem All2.append {α β:Type} {R:α→β→Prop}:∀ {as as':List α} {bs bs':List β},All2 R as bs→All2 R as' bs'→All2 R (as++as') (bs++bs')
 | _,_,_,_,.nil,h=>h
 | _,_,_,_,.cons h1 h2,h=>.cons h1 (h2.append h)
theorem All2.split {α β:Type} {R:α→β→Prop}:∀ {as as':List α} {bs:List β},All2 R (as++as') bs→∃ b1 b2,bs=b1++b2∧All2 R as b1∧All2 R as' b2
 | [],_,bs,h=>⟨[],bs,rfl,.nil,h⟩
 | a::as,as',_,.cons (b:=b) h1 h2=>by
  obtain ⟨b1,b2,rfl,h3,h4⟩:=All2.split h2
  exact ⟨b::b1,b2,rfl,.cons h1 h3,h4⟩
theorem All2.mk {α β:Type} {R:α→β→Prop}:∀ {as:List α} {bs:List β},as.length=bs.length→(∀ (i:Nat) (a:α) (b:β),as[i]? = some a→bs[i]? = some b→R a b)→All2 R as bs
 | [],[],_,_=>.nil
 | a::as,b::bs,h,f=>.cons (f 0 a b rfl rfl) (All2.mk (by simpa using h) fun i a b ha hb=>f (i+1) a b (by simpa using ha) (by simpa using hb))

inductive Lit where
 | nilS | nilP | nilF | nilI | nilK
 deriving DecidableEq
def Lit.val:Lit→Value
 | .nilS=>.slice none 0 0
 | .nilP=>.pointer none
 | .nilF=>.nilFunc
 | .nilI=>.nilIface
 | .nilK=>.map none

inductive FV where
 | p (id off:Nat)
 | d (t:Ty) (x:t.den)
 | y (id:Nat)
 | h (id:Nat)
inductive CV where
 | d (t:Ty) (x:t.den)
 | l (k:Lit)
 | p (id off:Nat)
 | h (id:Nat)
 | f (g:FuncId) (first caps:List FV)
 | y (id:Nat)
 | n (t:Ty) (o:Option (List t.den))
 | q (t:Ty) (xs:List t.den)
 | rw (id vid:Nat) (i:Int)
 | nt (p:Bool) (t:Ty) (xs:List t.den)
 | sl (x:Int) (es:List (Int×Nat))
 | fu (t:Ty) (xs:List t.den)
 | i (T:TypeId)
 | any
inductive RV where
 | c (x:CV)
 | s (l:List CV)
inductive PV where
 | r (x:RV)
 | t (l:List RV)
 | fp (t:Ty) (x:t.den)
 | ep (id sz:Nat) (i:Int) (off:Nat)
 | er (id vid sz:Nat) (i k:Int) (off:Nat)
 | xp (id:Nat) (i:Int)
 | eo (id sz:Nat) (i k:Int)
 | vw (id lo n cap:Nat)
 | va (id sz:Nat) (lo:Int)
 | vh (id:Nat) (n:Int)
 | vp (id sz:Nat) (lo n:Int)
 | g (c:List (Nat×Bool)) (b:Bool) (v:PV)
 | any
abbrev PV.c (x:CV):PV:=.r (.c x)
abbrev PV.s (l:List CV):PV:=.r (.s l)

def qA {α:Type} (ys:List α) (k:Nat) (d:α):α:=ys.getD k d
def selF:List (Int×Nat)→Int→Value
 | [],_=>.nilFunc
 | (k,g)::r,x=>match decide (x=k) with
  | true=>.func (.func g) #[] #[]
  | false=>selF r x
theorem selF_one:∀ (es:List (Int×Nat)) (x:Int),(selF es x).oneCell'=true
 | [],_=>rfl
 | (k,g)::r,x=>by
  unfold selF
  split
  ·rfl
  ·exact selF_one r x

abbrev Eta:=Nat→Option Value
def Eta.add (η:Eta) (k:Nat) (u:Value):Eta:=fun i=>match Nat.beq k i with | true=>some u | false=>η i
theorem Eta.add_same (η:Eta) (k:Nat) (u:Value):η.add k u k=some u:=by unfold Eta.add;rw [Nat.beq_refl]
theorem Eta.add_ne (η:Eta) {k i:Nat} (u:Value) (h:k≠i):η.add k u i=η i:=by
 unfold Eta.add
 cases hb:Nat.beq k i
 ·rfl
 ·exact absurd (nB hb) h
def Free (η:Eta) (n n':Nat):Prop:=∀ i,n≤i→i<n'→η i=none
def Out (η η':Eta) (n n':Nat):Prop:=∀ i,(i<n∨n'≤i)→η' i=η i
theorem Out.refl (η:Eta) (n n':Nat):Out η η n n':=fun _ _=>rfl
theorem Out.add (η:Eta) (k:Nat) (u:Value):Out η (η.add k u) k (k+1):=fun i hi=>Eta.add_ne η u (by omega)
def yC (T:TypeId):Value:=match Nat.blt T 1000000 with
 | true=>.iface T (.agg #[])
 | false=>.iface (T-1000000) (.pointer (some ea.a))
theorem payV_one (T:TypeId):(yC T).oneCell'=true:=by unfold yC;split<;>rfl
section
variable (S:Cells) (w:World) (η:Eta)
def FM:FV→Value→Prop
 | .p id off,v=>∃ b,η id=some (.pointer (some ⟨b,0,none⟩))∧v=.pointer (some ⟨b,off,none⟩)
 | .d t x,v=>VRep S w t x v
 | .y id,v=>∃ b,η id=some (.func (.yield b) #[] #[])∧v=.func (.yield b) #[] #[]
 | .h id,v=>η id=some v∧v.oneCell'=true
def CM:CV→Value→Prop
 | .d t x,v=>t.agg=false∧VRep S w t x v
 | .l k,v=>v=k.val
 | .p id off,v=>∃ b,η id=some (.pointer (some ⟨b,0,none⟩))∧v=.pointer (some ⟨b,off,none⟩)
 | .h id,v=>η id=some v∧v.oneCell'=true
 | .f g fs cs,v=>∃ vf vc:List Value,v=.func (.func g) vf.toArray vc.toArray∧All2 (FM S w η) fs vf∧All2 (FM S w η) cs vc
 | .y id,v=>∃ b,η id=some (.func (.yield b) #[] #[])∧v=.func (.yield b) #[] #[]
 | .n t none,v=>v=.slice none 0 0
 | .n t (some xs),v=>VRep S w (.list t) xs v∧∃ a n c,v=.slice (some a) n c
 | .q t xs,v=>VRep S w (.list t) xs v∧∃ a,v=.slice a xs.length xs.length
 | .rw id vid i,v=>∃ us,η vid=some (.tuple us)∧us[i.toNat]? = some v∧v.oneCell'=true
 | .nt p t xs,v=>∃ b:Bool,v=.bool b∧(b=p→xs=[])
 | .sl x es,v=>v=selF es x
 | .fu t xs,v=>VRep S w (.list t) xs v∧∃ a,v=.slice a xs.length xs.length
 | .i T,v=>v=yC T
 | .any,v=>v.oneCell'=true
def RM:RV→Value→Prop
 | .c x,v=>CM S w η x v
 | .s l,v=>∃ vs:List Value,v=.agg vs.toArray∧All2 (CM S w η) l vs
def PM:PV→Value→Prop
 | .r x,v=>RM S w η x v
 | .t l,v=>∃ vs:List Value,v=.tuple vs.toArray∧All2 (RM S w η) l vs
 | .fp t x,v=>PRep S w t x v
 | .ep id sz i off,v=>∃ b o n cap,η id=some (.slice (some ⟨b,o,none⟩) n cap)∧v=.pointer (some ⟨b,o+i.toNat*sz+off,none⟩)
 | .er id vid sz i k off,v=>∃ us b o n cap,η vid=some (.tuple us)∧us[i.toNat]? = some (.slice (some ⟨b,o,none⟩) n cap)∧v=.pointer (some ⟨b,o+k.toNat*sz+off,none⟩)
 | .xp id i,v=>∃ b,η id=some (.pointer (some ⟨b,0,none⟩))∧0≤i∧v=.pointer (some ⟨b,i.toNat,none⟩)
 | .eo id sz i k,v=>∃ b o n cap,η id=some (.slice (some ⟨b,o,none⟩) n cap)∧0≤k∧v=.pointer (some ⟨b,o+i.toNat*sz+k.toNat,none⟩)
 | .vw id lo n cap,v=>∃ b,η id=some (.pointer (some ⟨b,0,none⟩))∧v=.slice (some ⟨b,lo,none⟩) n cap
 | .va id sz lo,v=>∃ b o n cap,η id=some (.slice (some ⟨b,o,none⟩) n cap)∧0≤lo∧lo<n∧n≤cap∧v=.slice (some ⟨b,o+lo.toNat*sz,none⟩) (n-lo.toNat) (cap-lo.toNat)
 | .vh id n,v=>∃ base len cap,η id=some (.slice base len cap)∧0≤n∧n≤len∧len≤cap∧v=.slice base n.toNat cap
 | .vp id sz lo k,v=>∃ b o n cap,η id=some (.slice (some ⟨b,o,none⟩) n cap)∧0≤lo∧0≤k∧lo+k≤n∧n≤cap∧v=.slice (some ⟨b,o+lo.toNat*sz,none⟩) k.toNat (cap-lo.toNat)
 | .g _ b x,v=>(b=true→PM x v)∧(b=false→v=undef)
 | .any,_=>True
end

def Pre (η η':Eta):Prop:=∀ i v,η i=some v→η' i=some v
theorem Pre.refl (η:Eta):Pre η η:=fun _ _ h=>h
theorem Pre.trans {a b c:Eta} (h:Pre a b) (k:Pre b c):Pre a c:=fun i v hv=>k i v (h i v hv)
theorem Pre.push {η:Eta} {k:Nat} (hk:η k=none) (v:Value):Pre η (η.add k v):=fun i u hu=>by
 rw [Eta.add_ne η v (fun h=>by subst h;rw [hk] at hu;cases hu)];exact hu
theorem Pre.get {η η':Eta} (h:Pre η η') {i:Nat} {v:Value} (hi:η i=some v):η' i=some v:=h i v hi

section
variable {S S':Cells} {w w':World} {η η':Eta}
theorem FM.mono (k:Keep S w S' w') (e:Pre η η'):∀ {x:FV} {v:Value},FM S w η x v→FM S' w' η' x v
 | .p _ _,_,h=>let ⟨b,h1,h2⟩:=h;⟨b,e.get h1,h2⟩
 | .d _ _,_,h=>VRep.keep k h
 | .y _,_,h=>let ⟨b,h1,h2⟩:=h;⟨b,e.get h1,h2⟩
 | .h _,_,h=>⟨e.get h.1,h.2⟩
theorem CM.mono (k:Keep S w S' w') (e:Pre η η'):∀ {x:CV} {v:Value},CM S w η x v→CM S' w' η' x v
 | .d _ _,_,h=>⟨h.1,h.2.keep k⟩
 | .l _,_,h=>h
 | .p _ _,_,h=>let ⟨b,h1,h2⟩:=h;⟨b,e.get h1,h2⟩
 | .h _,_,h=>⟨e.get h.1,h.2⟩
 | .f _ _ _,_,h=>let ⟨vf,vc,h1,h2,h3⟩:=h;⟨vf,vc,h1,h2.mono fun _ _=>FM.mono k e,h3.mono fun _ _=>FM.mono k e⟩
 | .y _,_,h=>let ⟨b,h1,h2⟩:=h;⟨b,e.get h1,h2⟩
 | .n _ none,_,h=>h
 | .n _ (some _),_,h=>⟨h.1.keep k,h.2⟩
 | .q _ _,_,h=>⟨h.1.keep k,h.2⟩
 | .rw _ _ _,_,h=>let ⟨us,h1,h2⟩:=h;⟨us,e.get h1,h2⟩
 | .nt _ _ _,_,h=>h
 | .sl _ _,_,h=>h
 | .fu _ _,_,h=>⟨h.1.keep k,h.2⟩
 | .i _,_,h=>h
 | .any,_,h=>h
theorem RM.mono (k:Keep S w S' w') (e:Pre η η'):∀ {x:RV} {v:Value},RM S w η x v→RM S' w' η' x v
 | .c _,_,h=>CM.mono k e h
 | .s _,_,h=>let ⟨vs,h1,h2⟩:=h;⟨vs,h1,h2.mono fun _ _=>CM.mono k e⟩
theorem PM.mono (k:Keep S w S' w') (e:Pre η η'):∀ {x:PV} {v:Value},PM S w η x v→PM S' w' η' x v
 | .r _,_,h=>RM.mono k e h
 | .t _,_,h=>let ⟨vs,h1,h2⟩:=h;⟨vs,h1,h2.mono fun _ _=>RM.mono k e⟩
 | .fp _ _,_,h=>PRep.keep k h
 | .ep _ _ _ _,_,h=>let ⟨b,o,n,cap,h1,h2⟩:=h;⟨b,o,n,cap,e.get h1,h2⟩
 | .er _ _ _ _ _ _,_,h=>let ⟨us,b,o,n,cap,h1,h2⟩:=h;⟨us,b,o,n,cap,e.get h1,h2⟩
 | .xp _ _,_,h=>let ⟨b,h1,h2⟩:=h;⟨b,e.get h1,h2⟩
 | .eo _ _ _ _,_,h=>let ⟨b,o,n,cap,h1,h2⟩:=h;⟨b,o,n,cap,e.get h1,h2⟩
 | .vw _ _ _ _,_,h=>let ⟨b,h1,h2⟩:=h;⟨b,e.get h1,h2⟩
 | .va _ _ _,_,h=>let ⟨b,o,n,cap,h1,h2⟩:=h;⟨b,o,n,cap,e.get h1,h2⟩
 | .vh _ _,_,h=>let ⟨b,n,cap,h1,h2⟩:=h;⟨b,n,cap,e.get h1,h2⟩
 | .vp _ _ _ _,_,h=>let ⟨b,o,n,cap,h1,h2⟩:=h;⟨b,o,n,cap,e.get h1,h2⟩
 | .g _ _ _,_,h=>⟨fun hb=>PM.mono k e (h.1 hb),h.2⟩
 | .any,_,_=>trivial

theorem VRep.one {t:Ty} {x:t.den} {v:Value} (ha:t.agg=false) (h:VRep S w t x v):v.oneCell'=true:=by
 obtain ⟨cs,h1,h2⟩:=h
 have hl:=h1.length
 rw [Ty.size_nonagg ha] at hl
 match cs,hl with
 | [u],_ =>
  have:=h1.oneCell u (by simp)
  rw [h2];unfold Ty.wrap;rw [ha];simpa using this
theorem CM.one:∀ {x:CV} {v:Value},CM S w η x v→v.oneCell'=true
 | .d _ _,_,h=>VRep.one h.1 h.2
 | .l k,_,h=>by cases k<;>(have h':=h;simp only [CM,Lit.val] at h';subst h';rfl)
 | .p _ _,_,h=>by obtain ⟨b,_,rfl⟩:=h;rfl
 | .h _,_,h=>h.2
 | .f _ _ _,_,h=>by obtain ⟨vf,vc,rfl,_⟩:=h;rfl
 | .y _,_,h=>by obtain ⟨b,_,rfl⟩:=h;rfl
 | .n _ none,_,h=>by have h':_=_:=h;subst h';rfl
 | .n _ (some _),_,h=>by obtain ⟨_,a,n,c,rfl⟩:=h;rfl
 | .q _ _,_,h=>by obtain ⟨_,a,rfl⟩:=h;rfl
 | .rw _ _ _,_,h=>by obtain ⟨us,_,_,h⟩:=h;exact h
 | .nt _ _ _,_,h=>by obtain ⟨b,rfl,_⟩:=h;rfl
 | .sl x es,_,h=>by have h':_=_:=h;subst h';exact selF_one es x
 | .fu _ _,_,h=>by obtain ⟨_,a,rfl⟩:=h;rfl
 | .i T,_,h=>by have h':_=_:=h;subst h';exact payV_one T
 | .any,_,h=>h
theorem one_cells {v:Value} (h:v.oneCell'=true):v.cells=#[v]:=by cases v<;>simp_all [Value.cells,Value.oneCell']
theorem All2.one:∀ {l:List CV} {vs:List Value},All2 (CM S w η) l vs→∀ u∈vs,u.oneCell'=true
 | _,_,.nil,u,hu=>by simp at hu
 | _,_,.cons h1 h2,u,hu=>by
  rcases List.mem_cons.1 hu with rfl | hu
  ·exact h1.one
  ·exact All2.one h2 u hu
end

inductive Jump where
 | ret
 | exit (i:Nat)
 deriving DecidableEq
def Jump.code:Jump→Code
 | .ret=>.ret
 | .exit i=>.exit i
inductive LS where
 | ready
 | busy
 | done (j:Jump)
 | over
 deriving DecidableEq
def LS.state:LS→LoopState
 | .ready=>.ready
 | .busy=>.busy
 | .done _=>.done
 | .over=>.exhausted
structure LoopD where
 n:Nat
 env:List (Nat×PV)
 ps:Array Tmp
 assign:Code
 body:Code
inductive PO where
 | box (l:List CV)
 | arr (t:Ty) (xs:List t.den)
 | frz (t:Ty) (xs:List t.den)
 | tab (t:Ty) (xss:List (List t.den)) (vid:Nat)
 | tabp (t:Ty) (xss:List (List t.den)) (i:Int) (vid:Nat)
 | tabs (t:Ty) (xss:List (List t.den)) (i:Int) (vid vid0:Nat) (j:Int)
 | lp (L:LoopD) (st:LS)
 | flat (n:Nat) (t:Ty) (xs:List t.den)
 | cel (n:Nat) (l:List CV)
 | mp (es:List (Int×Nat))
 | bld (T e:TypeId) (s:List UInt8)
 | opt (b:Bool) (l:List CV)
 | frm (G:Cells) (w0:World)
 | gone
abbrev PH:=List (Nat×PO)

def World.there (w:World) (b o:Nat):Prop:=(∃ v,w.cell? ⟨b,o,none⟩=some v)∧w.frozen? ⟨b,o,none⟩=false

def ArrH (F:Cells) (S:Cells) (w:World) (u:Value) (t:Ty) (xs:List t.den):Prop :=
 ∃ base cap,u=.slice base xs.length cap∧xs.length≤cap∧cap≤maxLen ∧
  ((cap=0∧∀ b o,¬ F b o)∨∃ b off,base=some ⟨b,off,none⟩∧(∀ b' o,F b' o↔b'=b∧off≤o∧o<off+cap*t.size) ∧
   (∀ o,off≤o→o<off+cap*t.size→World.there w b o) ∧
   ∀ (i:Nat) (x:t.den),xs[i]? = some x→∃ es,Rep S w t x es∧∀ j v,es[j]? = some v→w.cell? ⟨b,off+i*t.size+j,none⟩=some v)

def TabH (F:Cells) (S:Cells) (w:World) (u:Value) (t:Ty) (xss:List (List t.den)) (us:Nat→Value) (p:Option Nat):Prop :=
 ∃ base cap,u=.slice base xss.length cap∧xss.length≤cap∧cap≤maxLen ∧
  ((cap=0∧∀ b o,¬ F b o)∨∃ b off,base=some ⟨b,off,none⟩∧(∀ o,off≤o→o<off+cap→World.there w b o)∧∃ Fs:Nat→Cells,
   (∀ b' o,F b' o↔(b'=b∧off≤o∧o<off+cap)∨∃ i,i<xss.length∧Fs i b' o) ∧
   (∀ i,i<xss.length→∀ b' o,Fs i b' o→¬ (b'=b∧off≤o∧o<off+cap)) ∧
   (∀ i j,i<xss.length→j<xss.length→i≠j→∀ b' o,Fs i b' o→¬ Fs j b' o) ∧
   ∀ (i:Nat) (xs:List t.den),xss[i]? = some xs→World.there w b (off+i) ∧
    ArrH (Fs i) S w (us i) t xs∧(p≠some i→w.cell? ⟨b,off+i,none⟩=some (us i)))

def EnvM (S:Cells) (w:World) (η:Eta) (e:List (Nat×PV)) (tmps:Array Value):Prop:=∀ t pv,lk e t=some pv→PM S w η pv (tmps.getD t undef)

def bytV (s:List UInt8):List Value:=s.map fun b=>Value.int .u8 b.toNat
def BldAt (w:World) (b:Nat) (T e:TypeId) (u:Value) (s:List UInt8):Prop:=∃ p,w.heap[b]? = some (.cells #[p,u] T (0,0))∧(p=.pointer none∨p=.pointer (some ⟨b,0,none⟩)) ∧
 w.ownsRow 0 e 1 u s.length (bytV s)∧u.ownBlock≠some b∧(s=[]→u=.slice none 0 0)
def stays:Obj→Bool
 | .loop _=>true
 | .map _ _=>true
 | .cells _ _ _=>true
 | _=>false
structure SameOn (F:Cells) (w w':World):Prop where
 cell:∀ b o,F b o→w'.cell? ⟨b,o,none⟩=w.cell? ⟨b,o,none⟩∧w'.frozen? ⟨b,o,none⟩=w.frozen? ⟨b,o,none⟩
 block:∀ b r,stays r=true→(∀ o,F b o)→w.heap[b]? = some r→w'.heap[b]? = some r
def POH (η:Eta) (id:Nat) (F:Cells) (S:Cells) (w:World):PO→Prop
 | .box l=>∃ b,η id=some (.pointer (some ⟨b,0,none⟩))∧(∀ b' o,F b' o↔b'=b∧o<l.length) ∧
   (∀ o,o<l.length→World.there w b o)∧∃ vs:List Value,All2 (CM S w η) l vs∧∀ j v,vs[j]? = some v→w.cell? ⟨b,j,none⟩=some v
 | .arr t xs=>∃ u,η id=some u∧ArrH F S w u t xs
 | .frz t xs=>∃ u,η id=some u∧(∀ b o,¬ F b o)∧VRep S w (.list t) xs u
 | .tab t xss vid=>∃ u us,η id=some u∧η vid=some (.tuple us)∧us.size=xss.length∧TabH F S w u t xss (fun i=>us.getD i undef) none
 | .tabp t xss i vid=>∃ u us,η id=some u∧η vid=some (.tuple us)∧us.size=xss.length∧TabH F S w u t xss (fun i=>us.getD i undef) (some i.toNat)
 | .tabs t xss i vid vid0 j=>∃ u us us0,η id=some u∧η vid=some (.tuple us)∧η vid0=some (.tuple us0)∧us0[j.toNat]? = us[i.toNat]? ∧ us.size=xss.length∧TabH F S w u t xss (fun i=>us.getD i undef) (some i.toNat)
 | .lp L st=>∃ b r,η id=some (.func (.yield b) #[] #[])∧(∀ b' o,F b' o↔b'=b)∧w.heap[b]? = some (.loop r)∧r.tmps.size=L.n∧EnvM S w η L.env r.tmps∧r.params=L.ps ∧
   r.assign=L.assign∧r.body=L.body∧r.state=st.state∧(∀ j,st=.done j→r.pending=some j.code)∧(st=.ready→r.pending=none)
 | .flat n t xs=>∃ b,η id=some (.pointer (some ⟨b,0,none⟩))∧xs.length=n∧t.agg=false∧(∀ b' o,F b' o↔b'=b∧o<xs.length) ∧
   (∀ o,o<xs.length→World.there w b o)∧∀ (i:Nat) (x:t.den),xs[i]? = some x→∃ v,VRep S w t x v∧w.cell? ⟨b,i,none⟩=some v
 | .cel n l=>∃ b,η id=some (.slice (some ⟨b,0,none⟩) n n)∧(∀ b' o,F b' o↔b'=b∧o<l.length) ∧
   (∀ o,o<l.length→World.there w b o)∧∃ vs:List Value,All2 (CM S w η) l vs∧∀ j v,vs[j]? = some v→w.cell? ⟨b,j,none⟩=some v
 | .mp es=>∃ r arr clock,η id=some (.map (some r))∧(∀ b' o,F b' o↔b'=r)∧w.heap[r]? = some (.map arr clock) ∧
   arr.toList.map (fun e=>(e.key,e.val))=es.map fun p=>(Value.int .i64 p.1,Value.func (.func p.2) #[] #[])
 | .bld T e s=>∃ b,η id=some (.pointer (some ⟨b,0,none⟩))∧∃ u,BldAt w b T e u s∧∀ b' o,F b' o↔b'=b∨u.ownBlock=some b'
 | .opt false l=>∃ b,η id=some (.pointer (some ⟨b,0,none⟩))∧(∀ b' o,F b' o↔b'=b∧o<l.length) ∧
   (∀ o,o<l.length→World.there w b o)∧∃ vs:List Value,All2 (CM S w η) l vs∧∀ j v,vs[j]? = some v→w.cell? ⟨b,j,none⟩=some v
 | .opt true l=>η id=some (.pointer none)∧∀ b o,¬ F b o
 | .frm G w0=>(∃ v,η id=some v)∧(∀ b o,F b o↔G b o)∧SameOn F w0 w
 | .gone=>∀ b o,¬ F b o

section
variable {S S':Cells} {w w':World} {η η':Eta} {F:Cells}
theorem SameOn.sub {F':Cells} (h:SameOn F w w') (hs:∀ b o,F' b o→F b o):SameOn F' w w':=⟨fun b o hf=>h.cell b o (hs b o hf),fun b r hst hf=>h.block b r hst fun o=>hs b o (hf o)⟩
theorem SameOn.trans {w1 w2 w3:World} (h:SameOn F w1 w2) (k:SameOn F w2 w3):SameOn F w1 w3 :=
 ⟨fun b o hf=>⟨(k.cell b o hf).1.trans (h.cell b o hf).1,(k.cell b o hf).2.trans (h.cell b o hf).2⟩,fun b r hs hf hb=>k.block b r hs hf (h.block b r hs hf hb)⟩
theorem World.there.same (h:SameOn F w w') {b o:Nat} (hf:F b o) (ht:World.there w b o):World.there w' b o:=by
 unfold World.there at *;rw [(h.cell b o hf).1,(h.cell b o hf).2];exact ht
theorem ArrH.frame {u:Value} {t:Ty} {xs:List t.den} (hF:SameOn F w w') (k:Keep S w S' w') (h:ArrH F S w u t xs):ArrH F S' w' u t xs:=by
 obtain ⟨base,cap,e,h1,h2,h3⟩:=h
 refine ⟨base,cap,e,h1,h2,?_⟩
 rcases h3 with h3 | ⟨b,off,eb,hf,ht,hx⟩
 ·exact .inl h3
 ·refine .inr ⟨b,off,eb,hf,fun o ho1 ho2=>(ht o ho1 ho2).same hF ((hf b o).2 ⟨rfl,ho1,ho2⟩),fun i x hxi=>?_⟩
  obtain ⟨es,he,hc⟩:=hx i x hxi
  refine ⟨es,he.keep k,fun j v hj=>?_⟩
  have hi:i<xs.length:=(gS.1 hxi).1
  have hjl:j<t.size:=by rw [← he.length];exact (gS.1 hj).1
  have hm:(i+1)*t.size≤cap*t.size:=Nat.mul_le_mul_right _ (by omega)
  rw [Nat.add_mul] at hm
  rw [(hF.cell b (off+i*t.size+j) ((hf _ _).2 ⟨rfl,by omega,by omega⟩)).1]
  exact hc j v hj
theorem TabH.frame {u:Value} {t:Ty} {xss:List (List t.den)} {us:Nat→Value} {p:Option Nat} (hF:SameOn F w w') (k:Keep S w S' w') (h:TabH F S w u t xss us p):TabH F S' w' u t xss us p:=by
 obtain ⟨base,cap,e,hlc,h1,h2⟩:=h
 refine ⟨base,cap,e,hlc,h1,?_⟩
 rcases h2 with h2 | ⟨b,off,eb,hth,Fs,hf,hd1,hd2,hx⟩
 ·exact .inl h2
 ·refine .inr ⟨b,off,eb,fun o h1 h2=>(hth o h1 h2).same hF ((hf b o).2 (.inl ⟨rfl,h1,h2⟩)),Fs,hf,hd1,hd2,fun i xs hi=>?_⟩
  have hil:i<xss.length:=(gS.1 hi).1
  obtain ⟨ht,ha1,ha2⟩:=hx i xs hi
  have hs:=(hf b (off+i)).2 (.inl ⟨rfl,by omega,by omega⟩)
  exact ⟨ht.same hF hs,ha1.frame (hF.sub fun b' o hb=>(hf _ _).2 (.inr ⟨i,hil,hb⟩)) k,fun hne=>by rw [(hF.cell _ _ hs).1];exact ha2 hne⟩
theorem EnvM.mono {e:List (Nat×PV)} {tmps:Array Value} (k:Keep S w S' w') (he:Pre η η') (h:EnvM S w η e tmps):EnvM S' w' η' e tmps:=fun t pv ht=>(h t pv ht).mono k he
theorem POH.frame {id:Nat} (hF:SameOn F w w') (k:Keep S w S' w') (he:Pre η η'):∀ {po:PO},POH η id F S w po→POH η' id F S' w' po
 | .box l,h=>by
  obtain ⟨b,h1,h2,h3,vs,h4,h5⟩:=h
  refine ⟨b,he.get h1,h2,fun o ho=>(h3 o ho).same hF ((h2 b o).2 ⟨rfl,ho⟩),vs,h4.mono fun _ _=>CM.mono k he,fun j v hj=>?_⟩
  have hl:=h4.length
  have hjl:=(gS.1 hj).1
  rw [(hF.cell b j ((h2 b j).2 ⟨rfl,by omega⟩)).1];exact h5 j v hj
 | .arr t xs,h=>let ⟨u,h1,h2⟩:=h;⟨u,he.get h1,h2.frame hF k⟩
 | .frz t xs,h=>let ⟨u,h1,h2,h3⟩:=h;⟨u,he.get h1,h2,h3.keep k⟩
 | .tab t xss vid,h=>let ⟨u,us,h1,h2,h3,h4⟩:=h;⟨u,us,he.get h1,he.get h2,h3,h4.frame hF k⟩
 | .tabp t xss i vid,h=>let ⟨u,us,h1,h2,h3,h4⟩:=h;⟨u,us,he.get h1,he.get h2,h3,h4.frame hF k⟩
 | .tabs t xss i vid vid0 j,h=>let ⟨u,us,us0,h1,h2,h3,h4,h5,h6⟩:=h;⟨u,us,us0,he.get h1,he.get h2,he.get h3,h4,h5,h6.frame hF k⟩
 | .lp L st,h=>by
  obtain ⟨b,r,h1,h2,h3,h4,h5,h6⟩:=h
  exact ⟨b,r,he.get h1,h2,hF.block b _ rfl (fun o=>(h2 b o).2 rfl) h3,h4,h5.mono k he,h6⟩
 | .flat n t xs,h=>by
  obtain ⟨b,h1,hn,h0,h2,h3,h4⟩:=h
  refine ⟨b,he.get h1,hn,h0,h2,fun o ho=>(h3 o ho).same hF ((h2 b o).2 ⟨rfl,ho⟩),fun i x hx=>?_⟩
  obtain ⟨v,hv,hc⟩:=h4 i x hx
  have hi:=(gS.1 hx).1
  exact ⟨v,hv.keep k,by rw [(hF.cell b i ((h2 b i).2 ⟨rfl,hi⟩)).1];exact hc⟩
 | .cel n l,h=>by
  obtain ⟨b,h1,h2,h3,vs,h4,h5⟩:=h
  refine ⟨b,he.get h1,h2,fun o ho=>(h3 o ho).same hF ((h2 b o).2 ⟨rfl,ho⟩),vs,h4.mono fun _ _=>CM.mono k he,fun j v hj=>?_⟩
  have hl:=h4.length
  have hjl:=(gS.1 hj).1
  rw [(hF.cell b j ((h2 b j).2 ⟨rfl,by omega⟩)).1];exact h5 j v hj
 | .mp es,h=>by
  obtain ⟨r,arr,clock,h1,h2,h3,h4⟩:=h
  exact ⟨r,arr,clock,he.get h1,h2,hF.block r _ rfl (fun o=>(h2 r o).2 rfl) h3,h4⟩
 | .bld T e s,h=>by
  obtain ⟨b,h1,u,⟨p,h2,h3,h4,h6,h7⟩,h5⟩:=h
  refine ⟨b,he.get h1,u,⟨p,hF.block b _ rfl (fun o=>(h5 b o).2 (.inl rfl)) h2,h3,⟨h4.1,?_⟩,h6,h7⟩,h5⟩
  rcases h4.2 with h | ⟨g,cap,cur,hv,hb,hg,hr⟩
  ·exact .inl h
  ·exact .inr ⟨g,cap,cur,hv,hb,hF.block g _ rfl (fun o=>(h5 g o).2 (.inr (by rw [hv];rfl))) hg,hr⟩
 | .opt false l,h=>by
  obtain ⟨b,h1,h2,h3,vs,h4,h5⟩:=h
  refine ⟨b,he.get h1,h2,fun o ho=>(h3 o ho).same hF ((h2 b o).2 ⟨rfl,ho⟩),vs,h4.mono fun _ _=>CM.mono k he,fun j v hj=>?_⟩
  have hl:=h4.length
  have hjl:=(gS.1 hj).1
  rw [(hF.cell b j ((h2 b j).2 ⟨rfl,by omega⟩)).1];exact h5 j v hj
 | .opt true l,h=>⟨he.get h.1,h.2⟩
 | .frm G w0,h=>⟨let ⟨v,hv⟩:=h.1;⟨v,he.get hv⟩,h.2.1,h.2.2.trans hF⟩
 | .gone,h=>h
end

theorem POH.has {η:Eta} {id:Nat} {F S:Cells} {w:World}:∀ {po:PO},POH η id F S w po→po=.gone∨∃ v,η id=some v
 | .box _,h=>let ⟨_,e,_⟩:=h;.inr ⟨_,e⟩
 | .arr _ _,h=>let ⟨_,e,_⟩:=h;.inr ⟨_,e⟩
 | .frz _ _,h=>let ⟨_,e,_⟩:=h;.inr ⟨_,e⟩
 | .tab _ _ _,h=>let ⟨_,_,e,_⟩:=h;.inr ⟨_,e⟩
 | .tabp _ _ _ _,h=>let ⟨_,_,e,_⟩:=h;.inr ⟨_,e⟩
 | .tabs _ _ _ _ _ _,h=>let ⟨_,_,_,e,_⟩:=h;.inr ⟨_,e⟩
 | .lp _ _,h=>let ⟨_,_,e,_⟩:=h;.inr ⟨_,e⟩
 | .flat _ _ _,h=>let ⟨_,e,_⟩:=h;.inr ⟨_,e⟩
 | .cel _ _,h=>let ⟨_,e,_⟩:=h;.inr ⟨_,e⟩
 | .mp _,h=>let ⟨_,_,_,e,_⟩:=h;.inr ⟨_,e⟩
 | .bld _ _ _,h=>let ⟨_,e,_⟩:=h;.inr ⟨_,e⟩
 | .opt false _,h=>let ⟨_,e,_⟩:=h;.inr ⟨_,e⟩
 | .opt true _,h=>.inr ⟨_,h.1⟩
 | .frm _ _,h=>.inr h.1
 | .gone,_=>.inl rfl
abbrev InLt (S:Cells) (w:World):Prop:=∀ b o,S b o→b<w.heap.size
structure GL where
 t:Ty
 xs:List t.den
def globTab:List (Nat×GL):=[(1,⟨.int .u32,([1116352408,1899447441,3049323471,3921009573,961987163,1508970993,2453635748,2870763221,3624381080,310598401,607225278,1426881987,1925078388,2162078206,2614888103,3248222580,3835390401,4022224774,264347078,604807628,770255983,1249150122,1555081692,1996064986,2554220882,2821834349,2952996808,3210313671,3336571891,3584528711,113926993,338241895,666307205,773529912,1294757372,1396182291,1695183700,1986661051,2177026350,2456956037,2730485921,2820302411,3259730800,3345764771,3516065817,3600352804,4094571909,275423344,430227734,506948616,659060556,883997877,958139571,1322822218,1537002063,1747873779,1955562222,2024104815,2227730452,2361852424,2428436474,2756734187,3204031479,3329325298]:List Int)⟩)]
def GlobOK (S:Cells) (w:World):Prop:=∀ g G,lk globTab g=some G→(S g (G.xs.length*G.t.size)∧w.cell? ⟨g,G.xs.length*G.t.size,none⟩=none)∧∀ (i:Nat) (x:G.t.den),G.xs[i]? = some x→∃ es,Rep S w G.t x es∧∀ j v,es[j]? = some v→S g (i*G.t.size+j)∧w.cell? ⟨g,i*G.t.size+j,none⟩=some v
theorem GlobOK.keep {S S':Cells} {w w':World} (h:GlobOK S w) (k:Keep S w S' w'):GlobOK S' w':=fun g G hl=>by
 obtain ⟨⟨h0,h0'⟩,h⟩:=h g G hl
 refine ⟨⟨k.sub _ _ h0,(k.cell _ _ h0).trans h0'⟩,fun i x hx=>?_⟩
 obtain ⟨es,h1,h2⟩:=h i x hx
 refine ⟨es,h1.keep k,fun j v hj=>?_⟩
 obtain ⟨h3,h4⟩:=h2 j v hj
 exact ⟨k.sub _ _ h3,(k.cell _ _ h3).trans h4⟩
def errTab:List (Nat×TypeId):=[(0,278)]
def ErrOK (S:Cells) (w:World):Prop:=∀ g T,lk errTab g=some T→S g 0∧w.cell? ⟨g,0,none⟩=some (yC (1000000+T))
theorem ErrOK.keep {S S':Cells} {w w':World} (h:ErrOK S w) (k:Keep S w S' w'):ErrOK S' w':=fun g T hl =>
 ⟨k.sub _ _ (h g T hl).1,(k.cell _ _ (h g T hl).1).trans (h g T hl).2⟩
structure InW (S:Cells) (w:World):Prop where
 lt:InLt S w
 gl:GlobOK S w
 er:ErrOK S w
instance {S:Cells} {w:World}:CoeFun (InW S w) (fun _=>∀ b o,S b o→b<w.heap.size):=⟨InW.lt⟩
instance {S:Cells} {w:World}:CoeOut (InW S w) (∀ b o,S b o→b<w.heap.size):=⟨InW.lt⟩
theorem InW.on {S S':Cells} {w w':World} (h:InW S w) (k:Keep S w S' w') (hl:InLt S' w'):InW S' w':=⟨hl,h.gl.keep k,h.er.keep k⟩
theorem InW.of {B:Nat} {S S':Cells} {w w':World} (h:InW S w) (g:Grow B S w S' w'):InW S' w':=⟨g.lt,h.gl.keep g.keep,h.er.keep g.keep⟩

structure HInv (B:Nat) (η:Eta) (H:PH) (S:Cells) (w:World):Prop where
 base:B≤w.heap.size
 inw:InW S w
 own:∃ F:Nat→Cells,(∀ i j,i≠j→∀ b o,F i b o→¬ F j b o)∧(∀ i b o,F i b o→B≤b∧b<w.heap.size∧¬ S b o)∧∀ i po,lk H i=some po→POH η i (F i) S w po

section
variable {B:Nat} {S S':Cells} {w w':World} {η η':Eta} {H H':PH}

theorem _root_.Go.Abs.Grow.refl {B:Nat} {S:Cells} {w:World} (hi:InLt S w):Grow B S w S w:=⟨Below.refl _ _,Keep.refl _ _,hi,fun _ _ h=>.inl h,LK.refl _⟩
theorem _root_.Go.Abs.Grow.mono {B B':Nat} {S S':Cells} {w w':World} (h:Grow B S w S' w') (hB:B'≤B):Grow B' S w S' w' :=
 ⟨h.below.mono hB,h.keep,h.lt,fun b o hs=>(h.new b o hs).imp id fun hb=>Nat.le_trans hB hb,h.lk⟩
theorem _root_.Go.Abs.Grow.trans {B:Nat} {S1 S2 S3:Cells} {w1 w2 w3:World} (h:Grow B S1 w1 S2 w2) (k:Grow B S2 w2 S3 w3):Grow B S1 w1 S3 w3 :=
 ⟨h.below.trans k.below,h.keep.trans k.keep,k.lt,fun b o hs=>by
  rcases k.new b o hs with hs | hs
  ·exact h.new b o hs
  ·exact .inr hs,h.lk.trans k.lk⟩

structure Chg (T:Nat→Prop) (F:Nat→Cells) (S:Cells) (w:World) (S':Cells) (w':World):Prop where
 sub:∀ b o,S' b o→S b o∨(∃ j,T j∧F j b o)∨w.heap.size≤b
 cell:∀ b o,b<w.heap.size→(∀ j,T j→¬ F j b o)→w'.cell? ⟨b,o,none⟩=w.cell? ⟨b,o,none⟩∧w'.frozen? ⟨b,o,none⟩=w.frozen? ⟨b,o,none⟩
 block:∀ b r,stays r=true→(∀ j,T j→∀ o,¬ F j b o)→w.heap[b]? = some r→w'.heap[b]? = some r

theorem HInv.chg (T:Nat→Prop) [DecidablePred T] (hi:HInv B η H S w) (hsz:w.heap.size≤w'.heap.size) (hin:InLt S' w') (k:Keep S w S' w') (he:Pre η η') (hlk:∀ i,¬ T i→∀ po,lk H' i=some po→lk H i=some po)
  (step:∀ F:Nat→Cells,(∀ i j,i≠j→∀ b o,F i b o→¬ F j b o)→(∀ i b o,F i b o→B≤b∧b<w.heap.size∧¬ S b o)→(∀ i po,lk H i=some po→POH η i (F i) S w po) →
   Chg T F S w S' w'∧∃ F':Nat→Cells,(∀ i po,T i→lk H' i=some po→POH η' i (F' i) S' w' po)∧(∀ i b o,T i→F' i b o→((∃ j,T j∧F j b o)∨w.heap.size≤b)∧b<w'.heap.size∧¬ S' b o) ∧
    (∀ i j,T i→T j→i≠j→∀ b o,F' i b o→¬ F' j b o)):HInv B η' H' S' w':=by
 obtain ⟨hb,hw,F,hd,hF,hP⟩:=hi
 obtain ⟨⟨cs,cc,cb⟩,F',h1,h2,h3⟩:=step F hd hF hP
 refine ⟨Nat.le_trans hb hsz,hw.on k hin,fun i=>if T i then F' i else F i,fun i j hij b o hfi hfj=>?_,fun i b o hf=>?_,fun i po hl=>?_⟩
 ·by_cases ti:T i<;>by_cases tj:T j<;>simp only [ti,tj,if_true,if_false] at hfi hfj
  ·exact h3 i j ti tj hij b o hfi hfj
  ·rcases (h2 i b o ti hfi).1 with ⟨m,tm,hm⟩ | h
   ·exact hd m j (fun h=>tj (h▸tm)) b o hm hfj
   ·have:=(hF j b o hfj).2.1;omega
  ·rcases (h2 j b o tj hfj).1 with ⟨m,tm,hm⟩ | h
   ·exact hd i m (fun h=>ti (h▸tm)) b o hfi hm
   ·have:=(hF i b o hfi).2.1;omega
  ·exact hd i j hij b o hfi hfj
 ·by_cases ti:T i<;>simp only [ti,if_true,if_false] at hf
  ·obtain ⟨h,h4,h5⟩:=h2 i b o ti hf
   refine ⟨?_,h4,h5⟩
   rcases h with ⟨m,tm,hm⟩ | h
   ·exact (hF m b o hm).1
   ·omega
  ·obtain ⟨h4,h5,h6⟩:=hF i b o hf
   refine ⟨h4,by omega,fun hs=>?_⟩
   rcases cs b o hs with h | ⟨m,tm,hm⟩ | h
   ·exact h6 h
   ·exact hd i m (fun h=>ti (h▸tm)) b o hf hm
   ·omega
 ·by_cases ti:T i<;>simp only [ti,if_true,if_false]
  ·exact h1 i po ti hl
  ·have hne:∀ j,T j→i≠j:=fun j tj h=>ti (h▸tj)
   refine (hP i po (hlk i ti po hl)).frame ⟨fun b o hf=>cc b o (hF i b o hf).2.1 fun j tj hj=>hd i j (hne j tj) b o hf hj,fun b r hst hf=>cb b r hst fun j tj o hj=>hd i j (hne j tj) b o (hf o) hj⟩ k he

theorem HInv.grow (hi:HInv B η H S w) (g:Grow w.heap.size S w S' w'):HInv B η H S' w' :=
 hi.chg (fun _=>False) g.below.size g.lt g.keep (.refl _) (fun _ _ _ h=>h) fun F _ _ _ =>
  ⟨⟨fun b o h=>(g.new b o h).imp id .inr,fun b o hb _=>⟨g.below.cell (p:=⟨b,o,none⟩) hb,g.below.frozen (p:=⟨b,o,none⟩) hb⟩,fun b r _ _ hr=>by rw [g.below.block b (aS.1 hr).1];exact hr⟩,
   fun _ _ _=>False,fun _ _ h=>h.elim,fun _ _ _ h=>h.elim,fun _ _ h=>h.elim⟩

theorem HInv.less (hi:HInv B η H S w) (h:∀ i po,lk H' i=some po→lk H i=some po):HInv B η H' S w:=by
 obtain ⟨hb,hw,F,hd,hF,hP⟩:=hi
 exact ⟨hb,hw,F,hd,hF,fun i po hl=>hP i po (h i po hl)⟩

theorem HInv.as (hi:HInv B η H S w) (h:∀ i po,lk H' i=some po→∃ po0,lk H i=some po0∧∀ F,POH η i F S w po0→POH η i F S w po):HInv B η H' S w:=by
 obtain ⟨hb,hw,F,hd,hF,hP⟩:=hi
 exact ⟨hb,hw,F,hd,hF,fun i po hl=>let ⟨po0,h1,h2⟩:=h i po hl;h2 _ (hP i po0 h1)⟩
theorem HInv.box {id:Nat} {l:List CV} (hi:HInv B η H S w) (hl:lk H id=some (.opt false l)):HInv B η ((id,.box l)::H) S w:=hi.as fun i po h=>by
 by_cases e:id=i
 ·subst e
  rw [jA] at h
  cases h
  exact ⟨_,hl,fun _ h=>h⟩
 ·rw [wA _ _ e] at h
  exact ⟨po,h,fun _ h=>h⟩

theorem HInv.new {k0:Nat} {u:Value} {po:PO} (hk0:η k0=none) (hi:HInv B η H S w) (hsz:w.heap.size≤w'.heap.size) (hin:InLt S' w') (k:Keep S w S' w')
  (hs:∀ b o,S' b o→S b o∨w.heap.size≤b) (same:∀ b,b<w.heap.size→w'.heap[b]? = w.heap[b]?)
  (F1:Cells) (h1:POH (η.add k0 u) k0 F1 S' w' po) (h2:∀ b o,F1 b o→w.heap.size≤b∧b<w'.heap.size∧¬ S' b o):HInv B (η.add k0 u) ((k0,po)::H) S' w':=by
 have hc:∀ b o,b<w.heap.size→w'.cell? ⟨b,o,none⟩=w.cell? ⟨b,o,none⟩∧w'.frozen? ⟨b,o,none⟩=w.frozen? ⟨b,o,none⟩:=fun b o hb=>⟨World.cell?_of_block (w:=w) (a:=⟨b,o,none⟩) (same b hb),World.frozen?_of_block (w:=w) (a:=⟨b,o,none⟩) (same b hb)⟩
 refine hi.chg (fun i=>i=k0) hsz hin k (.push hk0 _) (fun i ti po' hl=>?_) fun F _ _ _=>⟨⟨fun b o h=>(hs b o h).imp id .inr,fun b o hb _=>hc b o hb,fun b r _ _ hr=>by rw [same b (aS.1 hr).1];exact hr⟩,fun _=>F1,?_,?_,?_⟩
 ·rw [wA _ _ (Ne.symm ti)] at hl;exact hl
 ·rintro i po' rfl hl
  rw [jA] at hl
  cases hl;exact h1
 ·rintro i b o rfl hf
  exact ⟨.inr (h2 b o hf).1,(h2 b o hf).2⟩
 ·rintro i j rfl rfl h;exact absurd rfl h

theorem HInv.set {id:Nat} {po po':PO} (hi:HInv B η H S w) (hl:lk H id=some po) (hsz:w.heap.size≤w'.heap.size) (hin:InLt S' w') (k:Keep S w S' w')
  (step:∀ F1:Cells,(∀ b o,F1 b o→B≤b∧b<w.heap.size∧¬ S b o)→POH η id F1 S w po →
   (∀ b o,S' b o→S b o∨F1 b o∨w.heap.size≤b)∧(∀ b o,b<w.heap.size→¬ F1 b o→w'.cell? ⟨b,o,none⟩=w.cell? ⟨b,o,none⟩∧w'.frozen? ⟨b,o,none⟩=w.frozen? ⟨b,o,none⟩) ∧
   (∀ b,b<w.heap.size→(∀ o,¬ F1 b o)→w'.heap[b]? = w.heap[b]?) ∧
   ∃ F1':Cells,POH η id F1' S' w' po'∧∀ b o,F1' b o→(F1 b o∨w.heap.size≤b)∧b<w'.heap.size∧¬ S' b o):HInv B η ((id,po')::H) S' w':=by
 refine hi.chg (fun i=>i=id) hsz hin k (.refl _) (fun i ti po'' h=>?_) fun F hd hF hP=>?_
 ·rw [wA _ _ (Ne.symm ti)] at h;exact h
 ·obtain ⟨g1,g2,g3,F1',g4,g5⟩:=step (F id) (hF id) (hP id po hl)
  refine ⟨⟨fun b o h=>?_,fun b o hb h=>g2 b o hb (h id rfl),fun b r _ h hr=>by rw [g3 b (aS.1 hr).1 (h id rfl)];exact hr⟩,fun _=>F1',?_,?_,?_⟩
  ·rcases g1 b o h with h | h | h
   ·exact .inl h
   ·exact .inr (.inl ⟨id,rfl,h⟩)
   ·exact .inr (.inr h)
  ·rintro i po'' rfl h
   rw [jA] at h
   cases h;exact g4
  ·rintro i b o rfl hf
   exact ⟨(g5 b o hf).1.imp (fun h=>⟨i,rfl,h⟩) id,(g5 b o hf).2⟩
  ·rintro i j rfl rfl h;exact absurd rfl h

theorem HInv.move {k0 id:Nat} {po po':PO} {u:Value} (hk0:η k0=none) (hi:HInv B η H S w) (hl:lk H id=some po) (hid:id≠k0) (hsz:w.heap.size≤w'.heap.size) (hin:InLt S' w') (k:Keep S w S' w')
  (step:∀ F1:Cells,(∀ b o,F1 b o→B≤b∧b<w.heap.size∧¬ S b o)→POH η id F1 S w po →
   (∀ b o,S' b o→S b o∨F1 b o∨w.heap.size≤b)∧(∀ b o,b<w.heap.size→¬ F1 b o→w'.cell? ⟨b,o,none⟩=w.cell? ⟨b,o,none⟩∧w'.frozen? ⟨b,o,none⟩=w.frozen? ⟨b,o,none⟩) ∧
   (∀ b,b<w.heap.size→(∀ o,¬ F1 b o)→w'.heap[b]? = w.heap[b]?) ∧
   ∃ F1':Cells,POH (η.add k0 u) k0 F1' S' w' po'∧∀ b o,F1' b o→(F1 b o∨w.heap.size≤b)∧b<w'.heap.size∧¬ S' b o):HInv B (η.add k0 u) ((k0,po')::(id,.gone)::H) S' w':=by
 refine hi.chg (fun i=>i=id∨i=k0) hsz hin k (.push hk0 _) (fun i ti po'' h=>?_) fun F hd hF hP=>?_
 ·rw [wA _ _ (fun h=>ti (.inr h.symm)),wA _ _ (fun h=>ti (.inl h.symm))] at h;exact h
 ·obtain ⟨g1,g2,g3,F1',g4,g5⟩:=step (F id) (hF id) (hP id po hl)
  refine ⟨⟨fun b o h=>?_,fun b o hb h=>g2 b o hb (h id (.inl rfl)),fun b r _ h hr=>by rw [g3 b (aS.1 hr).1 (h id (.inl rfl))];exact hr⟩,fun i=>if i=k0 then F1' else fun _ _=>False,?_,?_,?_⟩
  ·rcases g1 b o h with h | h | h
   ·exact .inl h
   ·exact .inr (.inl ⟨id,.inl rfl,h⟩)
   ·exact .inr (.inr h)
  ·rintro i po'' (rfl | rfl) h
   ·rw [wA _ _ (by omega),jA] at h
    cases h
    have hne:¬ (i=k0):=by omega
    show ∀ b o,¬ (if i=k0 then F1' else fun _ _=>False) b o
    rw [if_neg hne]
    exact fun _ _ h=>h
   ·rw [jA] at h
    cases h
    show POH (η.add i u) i (if i=i then F1' else fun _ _=>False) S' w' po'
    rw [if_pos rfl];exact g4
  ·rintro i b o ti hf
   by_cases h:i=k0
   ·simp only [if_pos h] at hf
    exact ⟨(g5 b o hf).1.imp (fun h=>⟨id,.inl rfl,h⟩) fun h=>h,(g5 b o hf).2⟩
   ·simp only [if_neg h] at hf
  ·rintro i j ti tj hij b o hf hg
   by_cases h:i=k0
   ·have hj:¬ (j=k0):=by omega
    simp only [if_neg hj] at hg
   ·simp only [if_neg h] at hf

theorem HInv.read {id:Nat} {po:PO} (hi:HInv B η H S w) (hl:lk H id=some po):∃ F1:Cells,(∀ b o,F1 b o→B≤b∧b<w.heap.size∧¬ S b o)∧POH η id F1 S w po:=by
 obtain ⟨hb,hw,F,hd,hF,hP⟩:=hi
 exact ⟨F id,hF id,hP id po hl⟩
end

def yD {σ β:Type} (body:σ→Option (σ⊕β)):Nat→σ→Option β
 | 0,_=>none
 | n+1,s=>(body s).bind (Sum.elim (yD body n) some)
open Classical in
noncomputable def iA {σ β:Type} (body:σ→Option (σ⊕β)) (s:σ):Option β :=
 if h:∃ n,(yD body n s).isSome=true then yD body (Classical.choose h) s else none
theorem iterM_mono {σ β:Type} {body:σ→Option (σ⊕β)}:∀ {n m:Nat} {s:σ} {r:β},n≤m→yD body n s=some r→yD body m s=some r
 | 0,_,_,_,_,h=>by simp [yD] at h
 | n+1,0,_,_,hle,_=>by omega
 | n+1,m+1,s,r,hle,h=>by
  unfold yD at h ⊢
  cases hb:body s with
  | none=>rw [hb] at h;simp at h
  | some x =>
   rw [hb] at h
   simp only [oB] at h ⊢
   cases x with
   | inl s'=>exact iterM_mono (by omega) h
   | inr b=>exact h
theorem loopM_iff {σ β:Type} {body:σ→Option (σ⊕β)} {s:σ} {r:β}:iA body s=some r↔∃ n,yD body n s=some r:=by
 unfold iA
 constructor
 ·intro h
  split at h
  ·exact ⟨_,h⟩
  ·cases h
 ·rintro ⟨n,h⟩
  have hex:∃ n,(yD body n s).isSome=true:=⟨n,by rw [h];rfl⟩
  rw [dif_pos hex]
  obtain ⟨r',hr'⟩:=Option.isSome_iff_exists.1 (Classical.choose_spec hex)
  have h1:=iterM_mono (Nat.le_max_left n (Classical.choose hex)) h
  have h2:=iterM_mono (Nat.le_max_right n (Classical.choose hex)) hr'
  rw [hr',← h2,h1]
theorem xF {σ β:Type} (body:σ→Option (σ⊕β)) (s:σ):iA body s=(body s).bind (Sum.elim (iA body) some):=by
 apply Option.ext
 intro r
 rw [loopM_iff]
 cases hb:body s with
 | none =>
  simp only [Option.bind_none]
  constructor
  ·rintro ⟨n,h⟩
   cases n with
   | zero=>simp [yD] at h
   | succ n=>unfold yD at h;rw [hb] at h;simp at h
  ·intro h;cases h
 | some x =>
  simp only [oB]
  cases x with
  | inl s' =>
   simp only [Sum.elim_inl]
   rw [loopM_iff]
   constructor
   ·rintro ⟨n,h⟩
    cases n with
    | zero=>simp [yD] at h
    | succ n=>unfold yD at h;rw [hb] at h;exact ⟨n,h⟩
   ·rintro ⟨n,h⟩
    exact ⟨n+1,by unfold yD;rw [hb];exact h⟩
  | inr b =>
   simp only [Sum.elim_inr]
   constructor
   ·rintro ⟨n,h⟩
    cases n with
    | zero=>simp [yD] at h
    | succ n=>unfold yD at h;rw [hb] at h;exact h
   ·intro h
    exact ⟨1,by unfold yD;rw [hb];exact h⟩

inductive DT where
 | d (t:Ty)
 | n (t:Ty)
 deriving DecidableEq
@[reducible] def DT.den:DT→Type
 | .d t=>t.den
 | .n t=>Option (List t.den)
def DT.dflt:(d:DT)→d.den
 | .d t=>t.dflt
 | .n _=>(none:Option _)
@[reducible] def Tup:List DT→Type
 | []=>Unit
 | [t]=>t.den
 | t::u::r=>t.den×Tup (u::r)
def Tup.dflt:(l:List DT)→Tup l
 | []=>()
 | [t]=>t.dflt
 | t::u::r=>(t.dflt,Tup.dflt (u::r))
abbrev TV:=Σ d:DT,d.den
def Tup.toL:(l:List DT)→Tup l→List TV
 | [],_=>[]
 | [t],x=>[⟨t,x⟩]
 | t::u::r,x=>⟨t,x.1⟩::Tup.toL (u::r) x.2
def castD (d:DT):TV→Option d.den
 | ⟨d',x⟩=>if h:d'=d then some (h▸x) else none
def Tup.ofL:(l:List DT)→List TV→Option (Tup l)
 | [],[]=>some ()
 | [t],[v]=>castD t v
 | t::u::r,v::vs=>match castD t v with
  | some x=>match Tup.ofL (u::r) vs with
   | some y=>some (x,y)
   | none=>none
  | none=>none
 | _,_=>none
theorem castD_some {d:DT} {v:TV} {x:d.den} (h:castD d v=some x):v=⟨d,x⟩:=by
 obtain ⟨d',y⟩:=v
 unfold castD at h
 simp only at h
 split at h
 ·rename_i e
  subst e
  cases h;rfl
 ·cases h
theorem Tup.ofL_some:∀ {l:List DT} {vs:List TV} {x:Tup l},Tup.ofL l vs=some x→Tup.toL l x=vs
 | [],[],_,_=>rfl
 | [],_::_,_,h=>by simp [Tup.ofL] at h
 | [t],[],_,h=>by simp [Tup.ofL] at h
 | [t],[v],x,h=>by
  have:=castD_some (d:=t) h
  rw [this];rfl
 | [t],_::_::_,_,h=>by simp [Tup.ofL] at h
 | t::u::r,[],_,h=>by simp [Tup.ofL] at h
 | t::u::r,v::vs,x,h=>by
  unfold Tup.ofL at h
  cases h1:castD t v with
  | none=>rw [h1] at h;cases h
  | some a =>
   rw [h1] at h
   cases h2:Tup.ofL (u::r) vs with
   | none=>rw [h2] at h;cases h
   | some b =>
    rw [h2] at h
    cases h
    rw [castD_some h1]
    show _::Tup.toL (u::r) b=_
    rw [Tup.ofL_some h2]

def _root_.Go.Abs.Ty.cv:(t:Ty)→t.den→List CV
 | .int k,x=>[.d (.int k) x]
 | .bool,x=>[.d .bool x]
 | .str,x=>[.d .str x]
 | .list t,x=>[.d (.list t) x]
 | .one t,x=>t.cv x
 | .pair a b,x=>a.cv x.1++b.cv x.2
def _root_.Go.Abs.Ty.rv (t:Ty) (x:t.den):RV:=match t.agg with
 | true=>.s (t.cv x)
 | false=>.c (.d t x)
def yA (t:Ty) {t':Ty} (x:t'.den):Option t.den:=if h:t'=t then some (h▸x) else none
theorem kA {t t':Ty} {x:t'.den} {y:t.den} (h:yA t x=some y):∃ e:t'=t,e▸x=y:=by
 unfold yA at h
 split at h
 ·rename_i e;cases h;exact ⟨e,rfl⟩
 ·cases h
@[reducible] def getL {α:Type} (o:Option (List α)):List α:=o.getD []
def lE (H:PH) (t:Ty):CV→Option t.den
 | .d _ x=>yA t x
 | .l .nilS=>match t with
  | .list e=>some ([]:List e.den)
  | _=>none
 | .h id=>match lk H id with
  | some (.frz e xs)=>yA t (t':=.list e) xs
  | _=>none
 | .n e o=>yA t (t':=.list e) (getL o)
 | .q e xs=>yA t (t':=.list e) xs
 | .fu e xs=>yA t (t':=.list e) xs
 | _=>none
def con (H:PH):(t:Ty)→List CV→Option (t.den×List CV)
 | .one t,l=>con H t l
 | .pair a b,l=>match con H a l with
  | some (x,l)=>match con H b l with
   | some (y,l)=>some ((x,y),l)
   | none=>none
  | none=>none
 | .int k,c::r=>match lE H (.int k) c with | some x=>some (x,r) | none=>none
 | .bool,c::r=>match lE H .bool c with | some x=>some (x,r) | none=>none
 | .str,c::r=>match lE H .str c with | some x=>some (x,r) | none=>none
 | .list t,c::r=>match lE H (.list t) c with | some x=>some (x,r) | none=>none
 | _,[]=>none
def conR (H:PH) (t:Ty):RV→Option t.den
 | .c x=>match t.agg with
  | true=>none
  | false=>lE H t x
 | .s l=>match t.agg with
  | true=>match con H t l with
   | some (x,[])=>some x
   | _=>none
  | false=>none
def conP (H:PH) (t:Ty):PV→Option t.den
 | .r x=>conR H t x
 | _=>none

section
variable {B:Nat} {S S':Cells} {w w':World} {η η':Eta} {H H':PH}
theorem Rep.cv:∀ {t:Ty} {x:t.den} {cs:List Value},Rep S w t x cs→All2 (CM S w η) (t.cv x) cs
 | .int k,x,cs,h=>by obtain ⟨rfl,h⟩:=h;exact .cons ⟨rfl,VRep.int.2 ⟨rfl,h⟩⟩ .nil
 | .bool,x,cs,h=>by cases h;exact .cons ⟨rfl,VRep.bool.2 rfl⟩ .nil
 | .str,x,cs,h=>by obtain ⟨rfl,h⟩:=h;exact .cons ⟨rfl,VRep.str.2 ⟨rfl,h⟩⟩ .nil
 | .list t,x,cs,h=>by
  obtain ⟨base,cap,rfl,h1,h2,h3⟩:=h
  exact .cons ⟨rfl,_,⟨base,cap,rfl,h1,h2,h3⟩,rfl⟩ .nil
 | .one t,x,cs,h=>by
  have h':Rep S w t x cs:=h
  exact Rep.cv (t:=t) h'
 | .pair a b,x,cs,h=>by
  obtain ⟨c1,c2,rfl,h1,h2⟩:=h
  exact (Rep.cv h1).append (Rep.cv h2)
theorem VRep.rm {t:Ty} {x:t.den} {v:Value} (h:VRep S w t x v):RM S w η (t.rv x) v:=by
 unfold Ty.rv
 cases ha:t.agg
 ·exact ⟨ha,h⟩
 ·obtain ⟨cs,h1,h2⟩:=h
  refine ⟨cs,?_,Rep.cv h1⟩
  rw [h2];unfold Ty.wrap;rw [ha];rfl

theorem VRep.nil' (S:Cells) (w:World) (t:Ty):VRep S w (.list t) [] (.slice none 0 0) :=
 ⟨[.slice none 0 0],⟨none,0,rfl,nR _,Nat.zero_le _,.inl rfl⟩,rfl⟩
theorem vC {t t':Ty} {x:t'.den} {y:t.den} {v:Value} (h:yA t x=some y) (hv:VRep S w t' x v):VRep S w t y v:=by
 obtain ⟨rfl,rfl⟩:=kA h
 exact hv
theorem kE (hi:HInv B η H S w) {t:Ty}:∀ {c:CV} {v:Value} {x:t.den},lE H t c=some x→CM S w η c v→VRep S w t x v
 | .d _ _,v,x,h,hm=>vC h hm.2
 | .l .nilS,v,x,h,hm=>by
  have hv:v=.slice none 0 0:=hm
  subst hv
  cases t<;>simp only [lE] at h<;>first | (cases h;done) | skip
  cases h
  exact VRep.nil' _ _ _
 | .l .nilP,v,x,h,hm=>by simp [lE] at h
 | .l .nilF,v,x,h,hm=>by simp [lE] at h
 | .l .nilI,v,x,h,hm=>by simp [lE] at h
 | .l .nilK,v,x,h,hm=>by simp [lE] at h
 | .p _ _,v,x,h,hm=>by simp [lE] at h
 | .h id,v,x,h,hm=>by
  simp only [lE] at h
  split at h
  ·rename_i e xs hl
   obtain ⟨F,_,u,hu,_,hv⟩:=hi.read hl
   have:=hm.1
   rw [hu] at this
   cases this
   exact vC h hv
  ·cases h
 | .f _ _ _,v,x,h,hm=>by simp [lE] at h
 | .y _,v,x,h,hm=>by simp [lE] at h
 | .n e none,v,x,h,hm=>by
  have hv:v=.slice none 0 0:=hm
  subst hv
  exact vC (t':=.list e) h (VRep.nil' _ _ _)
 | .n e (some xs),v,x,h,hm=>vC (t':=.list e) h hm.1
 | .q e xs,v,x,h,hm=>vC (t':=.list e) h hm.1
 | .fu e xs,v,x,h,hm=>vC (t':=.list e) h hm.1
 | .rw _ _ _,v,x,h,hm=>by simp [lE] at h
 | .any,v,x,h,hm=>by simp [lE] at h
theorem Rep.of_vrep {t:Ty} {x:t.den} {v:Value} (ha:t.agg=false) (h:VRep S w t x v):Rep S w t x [v]:=by
 obtain ⟨cs,h1,h2⟩:=h
 have hl:=h1.length
 rw [Ty.size_nonagg ha] at hl
 match cs,hl with
 | [u],_ =>
  have:v=u:=by rw [h2];unfold Ty.wrap;rw [ha];rfl
  rw [this];exact h1
theorem con_sound (hi:HInv B η H S w):∀ {t:Ty} {l l':List CV} {vs:List Value} {x:t.den},con H t l=some (x,l')→All2 (CM S w η) l vs→∃ c1 c2,vs=c1++c2∧Rep S w t x c1∧All2 (CM S w η) l' c2
 | .one t,l,l',vs,x,h,hm=>by
  have h':con H t l=some (x,l'):=h
  obtain ⟨c1,c2,h1,h2,h3⟩:=con_sound hi h' hm
  exact ⟨c1,c2,h1,h2,h3⟩
 | .pair a b,l,l',vs,x,h,hm=>by
  unfold con at h
  cases h1:con H a l with
  | none=>rw [h1] at h;cases h
  | some p =>
   obtain ⟨y,l1⟩:=p
   rw [h1] at h
   simp only at h
   cases h2:con H b l1 with
   | none=>rw [h2] at h;cases h
   | some q =>
    obtain ⟨z,l2⟩:=q
    rw [h2] at h
    cases h
    obtain ⟨c1,c2,rfl,g1,g2⟩:=con_sound hi h1 hm
    obtain ⟨c3,c4,rfl,g3,g4⟩:=con_sound hi h2 g2
    exact ⟨c1++c3,c4,by simp,⟨c1,c3,rfl,g1,g3⟩,g4⟩
 | .int k,c::r,l',_,x,h,.cons (b:=v) (bs:=vs) hm1 hm2=>by
  unfold con at h
  cases h1:lE H (.int k) c with
  | none=>rw [h1] at h;cases h
  | some y=>rw [h1] at h;cases h;exact ⟨[v],vs,rfl,Rep.of_vrep rfl (kE hi h1 hm1),hm2⟩
 | .bool,c::r,l',_,x,h,.cons (b:=v) (bs:=vs) hm1 hm2=>by
  unfold con at h
  cases h1:lE H .bool c with
  | none=>rw [h1] at h;cases h
  | some y=>rw [h1] at h;cases h;exact ⟨[v],vs,rfl,Rep.of_vrep rfl (kE hi h1 hm1),hm2⟩
 | .str,c::r,l',_,x,h,.cons (b:=v) (bs:=vs) hm1 hm2=>by
  unfold con at h
  cases h1:lE H .str c with
  | none=>rw [h1] at h;cases h
  | some y=>rw [h1] at h;cases h;exact ⟨[v],vs,rfl,Rep.of_vrep rfl (kE hi h1 hm1),hm2⟩
 | .list t,c::r,l',_,x,h,.cons (b:=v) (bs:=vs) hm1 hm2=>by
  unfold con at h
  cases h1:lE H (.list t) c with
  | none=>rw [h1] at h;cases h
  | some y=>rw [h1] at h;cases h;exact ⟨[v],vs,rfl,Rep.of_vrep rfl (kE hi h1 hm1),hm2⟩
 | .int _,[],_,_,_,h,_=>by simp [con] at h
 | .bool,[],_,_,_,h,_=>by simp [con] at h
 | .str,[],_,_,_,h,_=>by simp [con] at h
 | .list _,[],_,_,_,h,_=>by simp [con] at h
theorem vG (hi:HInv B η H S w) {t:Ty} {x:RV} {v:Value} {y:t.den} (h:conR H t x=some y) (hm:RM S w η x v):VRep S w t y v:=by
 cases x with
 | c x =>
  unfold conR at h
  simp only at h
  split at h
  ·cases h
  ·exact kE hi h hm
 | s l =>
  unfold conR at h
  simp only at h
  split at h
  ·rename_i ha
   split at h
   ·rename_i z hz
    cases h
    obtain ⟨vs,rfl,hvs⟩:=hm
    obtain ⟨c1,c2,rfl,g1,g2⟩:=con_sound hi hz hvs
    cases g2
    exact ⟨c1,g1,by unfold Ty.wrap;rw [ha];simp⟩
   ·cases h
  ·cases h
theorem jE (hi:HInv B η H S w) {t:Ty} {x:PV} {v:Value} {y:t.den} (h:conP H t x=some y) (hm:PM S w η x v):VRep S w t y v:=by
 cases x with
 | r x=>exact vG hi h hm
 | _=>simp [conP] at h

def fzC (H:PH):CV→PH
 | .h id=>match lk H id with
  | some (.arr t xs)=>(id,.frz t xs)::H
  | some (.tab t xss _)=>(id,.frz (.list t) xss)::H
  | _=>H
 | _=>H
def fzL (H:PH):List CV→PH
 | []=>H
 | c::r=>fzL (fzC H c) r
def fzR (H:PH):RV→PH
 | .c x=>fzC H x
 | .s l=>fzL H l
def fzP (H:PH):PV→PH
 | .r x=>fzR H x
 | _=>H
def dC (H:PH):CV→PH
 | .h id=>match lk H id with
  | some (.arr t xs)=>[(id,.frz t xs)]
  | some (.tab t xss _)=>[(id,.frz (.list t) xss)]
  | _=>[]
 | _=>[]
def dL (H:PH):List CV→PH
 | []=>[]
 | c::r=>dL (fzC H c) r++dC H c
def dR (H:PH):RV→PH
 | .c x=>dC H x
 | .s l=>dL H l
def dP (H:PH):PV→PH
 | .r x=>dR H x
 | _=>[]
theorem fzC_eq (H:PH) (c:CV):fzC H c=dC H c++H:=by
 unfold fzC dC
 split
 ·split<;>rfl
 ·rfl
theorem fzL_eq:∀ (l:List CV) (H:PH),fzL H l=dL H l++H
 | [],H=>rfl
 | c::r,H=>by
  show fzL (fzC H c) r=(dL (fzC H c) r++dC H c)++H
  rw [fzL_eq r,aA,← fzC_eq]
theorem fzR_eq (H:PH):∀ v:RV,fzR H v=dR H v++H
 | .c x=>fzC_eq H x
 | .s l=>fzL_eq l H
theorem dJ (H:PH) (v:PV):fzP H v=dP H v++H:=by
 cases v
 case r x=>exact fzR_eq H x
 all_goals rfl
theorem ArrH.vrep {F:Cells} {u:Value} {t:Ty} {xs:List t.den} (h:ArrH F S w u t xs) (hs:∀ b o,S b o→S' b o) (hf:∀ b o,F b o→S' b o):VRep S' w (.list t) xs u:=by
 obtain ⟨base,cap,rfl,h1,h2,h3⟩:=h
 refine ⟨_,⟨base,cap,rfl,h1,h2,?_⟩,rfl⟩
 rcases h3 with ⟨h3,_⟩ | ⟨b,off,rfl,hF,ht,hx⟩
 ·exact .inl (by omega)
 ·refine .inr ⟨b,off,rfl,fun i x hi=>?_⟩
  obtain ⟨es,he,hc⟩:=hx i x hi
  refine ⟨es,he.keep ⟨hs,fun _ _ _=>rfl⟩,fun j v hj=>⟨hf _ _ ((hF _ _).2 ⟨rfl,by omega,?_⟩),hc j v hj⟩⟩
  have hil:i<xs.length:=(gS.1 hi).1
  have hjl:j<t.size:=by rw [← he.length];exact (gS.1 hj).1
  have hm:(i+1)*t.size≤cap*t.size:=Nat.mul_le_mul_right _ (by omega)
  rw [Nat.add_mul] at hm
  omega
theorem TabH.vrep {F:Cells} {u:Value} {t:Ty} {xss:List (List t.den)} {us:Nat→Value} (h:TabH F S w u t xss us none) (hs:∀ b o,S b o→S' b o) (hf:∀ b o,F b o→S' b o):VRep S' w (.list (.list t)) xss u:=by
 obtain ⟨base,cap,rfl,hlc,h1,h2⟩:=h
 refine ⟨_,⟨base,cap,rfl,hlc,h1,?_⟩,rfl⟩
 rcases h2 with ⟨h2,_⟩ | ⟨b,off,rfl,hth,Fs,hF,hd1,hd2,hx⟩
 ·exact .inl (by omega)
 ·refine .inr ⟨b,off,rfl,fun i xs hi=>?_⟩
  have hil:i<xss.length:=(gS.1 hi).1
  obtain ⟨ht,ha1,ha2⟩:=hx i xs hi
  have ha2:=ha2 (by simp)
  have hv:=ha1.vrep (S':=S') hs fun b' o hb=>hf _ _ ((hF _ _).2 (.inr ⟨i,hil,hb⟩))
  refine ⟨[us i],Rep.of_vrep rfl hv,fun j v hj=>?_⟩
  have hj0:j=0:=by
   have:=(gS.1 hj).1
   simp at this;exact this
  subst hj0
  simp at hj
  subst hj
  simp only [Ty.size,Nat.mul_one,Nat.add_zero]
  exact ⟨hf _ _ ((hF _ _).2 (.inl ⟨rfl,by omega,by omega⟩)),ha2⟩
theorem HInv.fz {id:Nat} {po po':PO} (hi:HInv B η H S w) (hl:lk H id=some po)
  (hp:∀ F1:Cells,POH η id F1 S w po→POH η id (fun _ _=>False) (fun b o=>S b o∨F1 b o) w po'):∃ S',HInv B η ((id,po')::H) S' w∧Grow B S w S' w:=by
 obtain ⟨hb,hw,F,hd,hF,hP⟩:=hi
 have hk:Keep S w (fun b o=>S b o∨F id b o) w:=⟨fun _ _ h=>.inl h,fun _ _ _=>rfl⟩
 have hin:InLt (fun b o=>S b o∨F id b o) w:=fun b o h=>by
  rcases h with h | h
  ·exact hw b o h
  ·exact (hF id b o h).2.1
 refine ⟨fun b o=>S b o∨F id b o,⟨hb,hw.on hk hin,fun i=>if i=id then fun _ _=>False else F i,fun i j hij b o hfi hfj=>?_,fun i b o hf=>?_,fun i po'' h=>?_⟩,⟨Below.refl _ _,hk,hin,fun b o h=>?_,LK.refl _⟩⟩
 ·by_cases h1:i=id
  ·simp only [if_pos h1] at hfi
  ·by_cases h2:j=id
   ·simp only [if_pos h2] at hfj
   ·simp only [if_neg h1] at hfi
    simp only [if_neg h2] at hfj
    exact hd i j hij b o hfi hfj
 ·by_cases h1:i=id
  ·simp only [if_pos h1] at hf
  ·simp only [if_neg h1] at hf
   obtain ⟨g1,g2,g3⟩:=hF i b o hf
   refine ⟨g1,g2,fun hs=>?_⟩
   rcases hs with hs | hs
   ·exact g3 hs
   ·exact hd i id h1 b o hf hs
 ·by_cases h1:i=id
  ·subst h1
   rw [jA] at h
   cases h
   simp only [if_true]
   exact hp _ (hP i po hl)
  ·rw [wA _ _ (Ne.symm h1)] at h
   simp only [if_neg h1]
   exact (hP i po'' h).frame ⟨fun _ _ _=>⟨rfl,rfl⟩,fun _ _ _ _ h=>h⟩ hk (.refl _)
 ·rcases h with h | h
  ·exact .inl h
  ·exact .inr (hF id b o h).1
theorem fzC_sound (hi:HInv B η H S w) (c:CV):∃ S',HInv B η (fzC H c) S' w∧Grow B S w S' w:=by
 unfold fzC
 split
 ·rename_i id
  split
  ·rename_i t xs hl
   exact hi.fz hl fun F1 ⟨u,hu,ha⟩=>⟨u,hu,fun _ _ h=>h,ha.vrep (fun _ _ h=>.inl h) fun _ _ h=>.inr h⟩
  ·rename_i t xss vid hl
   exact hi.fz hl fun F1 ⟨u,us,hu,_,_,ha⟩=>⟨u,hu,fun _ _ h=>h,ha.vrep (fun _ _ h=>.inl h) fun _ _ h=>.inr h⟩
  ·exact ⟨S,hi,Grow.refl hi.inw⟩
 ·exact ⟨S,hi,Grow.refl hi.inw⟩
theorem fzL_sound:∀ {l:List CV} {H:PH} {S:Cells} (hi:HInv B η H S w),∃ S',HInv B η (fzL H l) S' w∧Grow B S w S' w
 | [],H,S,hi=>⟨S,hi,Grow.refl hi.inw⟩
 | c::r,H,S,hi=>by
  obtain ⟨S1,h1,g1⟩:=fzC_sound hi c
  obtain ⟨S2,h2,g2⟩:=fzL_sound (l:=r) h1
  exact ⟨S2,h2,g1.trans g2⟩
theorem fzR_sound (hi:HInv B η H S w) (x:RV):∃ S',HInv B η (fzR H x) S' w∧Grow B S w S' w:=by
 cases x with
 | c x=>exact fzC_sound hi x
 | s l=>exact fzL_sound hi
theorem bI (hi:HInv B η H S w) (x:PV):∃ S',HInv B η (fzP H x) S' w∧Grow B S w S' w:=by
 cases x with
 | r x=>exact fzR_sound hi x
 | _=>exact ⟨S,hi,Grow.refl hi.inw⟩
end

def FR (rd:Option Nat):Fence:={ Fence.wide with round:=rd }
theorem FR.fn (rd:Option Nat) (f:FuncId):(FR rd).fn f:=trivial
theorem FR.nodepth (rd:Option Nat):(FR rd).depth.isSome=true→False:=fun h=>by simp [FR,Fence.wide] at h

def OpW (P:Program) (rd:Option Nat) (o:Oper) (a:Act) (w:World) (K:Act→World→Prop):Prop:=o.uponIn (FR rd) 0 P a K (fun _ _ _=>False) ((o.semAt rd a.eval).run P w)
theorem OpW.wpIn {P:Program} {rd:Option Nat} {o:Oper} {a:Act} {w:World} {K K':Act→World→Prop} {Q:Exit→Act→World→Prop} (h:OpW P rd o a w K) (hk:∀ a w,K a w→K' a w):o.wpIn (FR rd) 0 P a w K' Q:=by
 refine ⟨fun f _=>FR.fn rd f,?_⟩
 unfold OpW at h
 show o.uponIn (FR rd) 0 P a K' Q ((o.semAt rd a.eval).run P w)
 generalize (o.semAt rd a.eval).run P w=r at *
 cases r with
 | ok x w' =>
  cases x<;>simp only [Oper.uponIn] at h ⊢ <;>
   first
    | exact hk _ _ h
    | exact ⟨h.1,h.2.mono fun e w'' he=>by cases e<;>first | exact hk _ _ he | exact he.elim | (obtain ⟨_,_,he⟩:=he;exact he.elim)⟩
    | exact ⟨h.1,h.2.mono fun _ _ he=>hk _ _ he⟩
    | exact h.elim
 | halt x w'=>cases x<;>simp only [Oper.uponIn] at h
theorem OpW.mono {P:Program} {rd:Option Nat} {o:Oper} {a:Act} {w:World} {K K':Act→World→Prop} (h:OpW P rd o a w K) (hk:∀ a w,K a w→K' a w):OpW P rd o a w K':=(h.wpIn hk).2
def panV (T:TypeId):Exit:=.panic [{ v:=yC T,recovered:=false }]
def OpWP (P:Program) (rd:Option Nat) (o:Oper) (a:Act) (w:World) (K:Act→World→Prop) (KP:TypeId→World→Prop):Prop:=o.uponIn (FR rd) 0 P a K (fun ex a' w'=>∃ T,ex=panV T∧a'=a∧KP T w') ((o.semAt rd a.eval).run P w)
theorem OpW.toP {P:Program} {rd:Option Nat} {o:Oper} {a:Act} {w:World} {K:Act→World→Prop} {KP:TypeId→World→Prop} (h:OpW P rd o a w K):OpWP P rd o a w K KP:=(h.wpIn (Q:=fun ex a' w'=>∃ T,ex=panV T∧a'=a∧KP T w') fun _ _ h=>h).2
theorem OpWP.wpIn {P:Program} {rd:Option Nat} {o:Oper} {a:Act} {w:World} {K K':Act→World→Prop} {KP:TypeId→World→Prop} {Q:Exit→Act→World→Prop} (h:OpWP P rd o a w K KP) (hk:∀ a w,K a w→K' a w) (hp:∀ T w',KP T w'→Q (panV T) a w'):o.wpIn (FR rd) 0 P a w K' Q:=by
 refine ⟨fun f _=>FR.fn rd f,?_⟩
 unfold OpWP at h
 show o.uponIn (FR rd) 0 P a K' Q ((o.semAt rd a.eval).run P w)
 have hq:∀ {p:Prop} ex w',(∃ T,ex=panV T∧p∧KP T w')→Q ex a w':=fun ex w' ⟨T,h1,_,h2⟩=>h1▸hp T w' h2
 have hq':∀ {p:Prop} {w':World},(∃ T,Exit.outgrown=panV T∧p∧KP T w')→False:=fun ⟨T,h1,_⟩=>by cases h1
 generalize (o.semAt rd a.eval).run P w=r at *
 cases r with
 | ok x w' =>
  cases x<;>simp only [Oper.uponIn] at h ⊢ <;>
   first
    | exact hk _ _ h
    | exact ⟨h.1,h.2.mono fun e w'' he=>by cases e<;>first | exact hk _ _ he | exact hq _ _ he | (obtain ⟨_,_,he⟩:=he;exact (hq' he).elim)⟩
    | exact ⟨h.1,h.2.mono fun _ _ he=>hk _ _ he⟩
    | exact h.elim
 | halt x w'=>cases x<;>simp only [Oper.uponIn] at h ⊢<;>exact hq _ _ h
theorem OpWP.mono {P:Program} {rd:Option Nat} {o:Oper} {a:Act} {w:World} {K K':Act→World→Prop} {KP KP':TypeId→World→Prop} (h:OpWP P rd o a w K KP) (hk:∀ a w,K a w→K' a w) (hp:∀ T w,KP T w→KP' T w):OpWP P rd o a w K' KP' :=
 (h.wpIn (Q:=fun ex a' w'=>∃ T,ex=panV T∧a'=a∧KP' T w') hk fun T w' h=>⟨T,rfl,rfl,hp _ _ h⟩).2
theorem OpW.value {P:Program} {rd:Option Nat} {o:Oper} {a:Act} {w w':World} {v:Value} {K:Act→World→Prop} (hd:∀ c,o.op≠.defer c) (h:(execOp a.eval o).run P w=.ok (.value v) w') (hk:K (a.put o.dst v) w'):OpW P rd o a w K:=by
 unfold OpW
 rw [Oper.semAt_eq rd a.eval o hd,h];exact hk
theorem OpW.skip {P:Program} {rd:Option Nat} {o:Oper} {a:Act} {w w':World} {K:Act→World→Prop} (hd:∀ c,o.op≠.defer c) (h:(execOp a.eval o).run P w=.ok .skip w') (hk:K (a.put o.dst undef) w'):OpW P rd o a w K:=by
 unfold OpW
 rw [Oper.semAt_eq rd a.eval o hd,h];exact hk
theorem OpW.enter {P:Program} {rd:Option Nat} {o:Oper} {a:Act} {w w':World} {f:FuncId} {args:Array Value} {K:Act→World→Prop} (hd:∀ c,o.op≠.defer c) (h:(execOp a.eval o).run P w=.ok (.enter f args) w')
  (hc:CallsIn (FR rd) 0 P f args w' fun e w''=>∃ v,e=.returned v∧K (a.put o.dst v) w''):OpW P rd o a w K:=by
 unfold OpW
 rw [Oper.semAt_eq rd a.eval o hd,h]
 exact ⟨fun h=>(FR.nodepth rd h).elim,hc.mono fun e w'' ⟨v,he,hk⟩=>by subst he;exact hk⟩
theorem OpW.round {P:Program} {rd:Option Nat} {o:Oper} {a:Act} {w w':World} {l:Nat} {f:FuncId} {tmps:Array Value} {assign body:Code} {K:Act→World→Prop} (hd:∀ c,o.op≠.defer c) (h:(execOp a.eval o).run P w=.ok (.round l f tmps assign body) w')
  (hc:RoundIn (FR rd) 0 P l f tmps assign body w' fun e w''=>∃ v,e=.returned v∧K (a.put o.dst v) w''):OpW P rd o a w K:=by
 unfold OpW
 rw [Oper.semAt_eq rd a.eval o hd,h]
 exact ⟨fun h=>(FR.nodepth rd h).elim,hc.mono fun e w'' ⟨v,he,hk⟩=>by subst he;exact hk⟩

theorem OpWP.enter {P:Program} {rd:Option Nat} {o:Oper} {a:Act} {w w':World} {f:FuncId} {args:Array Value} {K:Act→World→Prop} {KP:TypeId→World→Prop} (hd:∀ c,o.op≠.defer c) (h:(execOp a.eval o).run P w=.ok (.enter f args) w')
  (hc:CallsIn (FR rd) 0 P f args w' fun e w''=>(∃ v,e=.returned v∧K (a.put o.dst v) w'')∨∃ T,e=.panicked [{ v:=yC T,recovered:=false }]∧KP T w''):OpWP P rd o a w K KP:=by
 unfold OpWP
 rw [Oper.semAt_eq rd a.eval o hd,h]
 refine ⟨fun h=>(FR.nodepth rd h).elim,hc.mono fun e w'' he=>?_⟩
 rcases he with ⟨v,he,hk⟩ | ⟨T,he,hk⟩
 ·subst he;exact hk
 ·subst he;exact ⟨T,rfl,rfl,hk⟩
theorem OpWP.halt {P:Program} {rd:Option Nat} {o:Oper} {a:Act} {w w':World} {T:TypeId} {K:Act→World→Prop} {KP:TypeId→World→Prop} (hd:∀ c,o.op≠.defer c) (h:(execOp a.eval o).run P w=.halt (.panic (yC T)) w') (hk:KP T w'):OpWP P rd o a w K KP:=by
 unfold OpWP
 rw [Oper.semAt_eq rd a.eval o hd,h];exact ⟨T,rfl,rfl,hk⟩

abbrev En:=Nat→Option PV
def En.set (E:En) (t:Nat) (a:PV):En:=fun s=>match Nat.beq t s with | true=>some a | false=>E s
def En.setO (E:En) (d:Option Nat) (a:PV):En:=match d with | some t=>E.set t a | none=>E
theorem En.set_same (E:En) (t:Nat) (a:PV):E.set t a t=some a:=by unfold En.set;rw [Nat.beq_refl]
theorem En.set_ne (E:En) {t s:Nat} (a:PV) (h:t≠s):E.set t a s=E s:=by
 unfold En.set
 cases hb:Nat.beq t s
 ·rfl
 ·exact absurd (nB hb) h
theorem lk_set (e:List (Nat×PV)) (t:Nat) (a:PV):lk ((t,a)::e)=En.set (lk e) t a:=by
 funext s
 unfold En.set
 cases hb:Nat.beq t s<;>simp [lk,hb]
def En.M (E:En) (S:Cells) (w:World) (η:Eta) (tmps:Array Value):Prop:=∀ t pv,E t=some pv→PM S w η pv (tmps.getD t undef)
def zC:List Nat→Nat→Bool
 | [],_=>false
 | k::r,t=>match Nat.beq k t with | true=>true | false=>zC r t
def En.Only (E:En) (l:List Nat) (S:Cells) (w:World) (η:Eta) (tmps:Array Value):Prop:=∀ t pv,zC l t=true→E t=some pv→PM S w η pv (tmps.getD t undef)
theorem En.M.only {E:En} {S:Cells} {w:World} {η:Eta} {tmps:Array Value} (h:E.M S w η tmps) (l:List Nat):E.Only l S w η tmps:=fun t pv _ ht=>h t pv ht
theorem En.M.mono {E:En} {S S':Cells} {w w':World} {η η':Eta} {tmps:Array Value} (k:Keep S w S' w') (e:Pre η η') (h:E.M S w η tmps):E.M S' w' η' tmps:=fun t pv ht=>(h t pv ht).mono k e

theorem Act.getD_put_ne (a:Act) {d t:Nat} (v:Value) (h:d≠t):(a.put (some d) v).tmps.getD t undef=a.tmps.getD t undef:=by
 simp only [Act.put,aD,Array.getElem?_setIfInBounds]
 rw [if_neg h]
theorem Act.getD_put_same (a:Act) {d:Nat} (v:Value) (h:d<a.tmps.size):(a.put (some d) v).tmps.getD d undef=v:=by
 simp [Act.put,aD,h]
theorem Act.size_put (a:Act) (d:Option Nat) (v:Value):(a.put d v).tmps.size=a.tmps.size:=by cases d<;>simp [Act.put]
theorem Act.defers_put (a:Act) (d:Option Nat) (v:Value):(a.put d v).defers=a.defers:=by cases d<;>rfl
def dstOk (n:Nat):Option Nat→Bool
 | some d=>Nat.blt d n
 | none=>true
theorem En.M.put {E:En} {S:Cells} {w:World} {η:Eta} {a:Act} {n:Nat} {d:Option Nat} {pv:PV} {v:Value} (h:E.M S w η a.tmps) (hn:a.tmps.size=n)
  (hd:dstOk n d=true) (hv:PM S w η pv v):(E.setO d pv).M S w η (a.put d v).tmps:=by
 cases d with
 | none=>exact h
 | some d =>
  have hlt:d<a.tmps.size:=by rw [hn];exact nL hd
  intro t pv' ht
  by_cases hdt:d=t
  ·subst hdt
   rw [show E.setO (some d) pv d=some pv from En.set_same E d pv] at ht
   cases ht
   rw [Act.getD_put_same a v hlt];exact hv
  ·rw [show E.setO (some d) pv t=E t from En.set_ne E pv hdt] at ht
   rw [Act.getD_put_ne a v hdt];exact h t pv' ht

def rA (o:Oper):List Nat:=o.op.operands.toList.filterMap fun | .tmp t=>some t | _=>none
def guardSlot (ops:Array Oper) (o:Oper):Option Nat :=
 match o.guard with
 | none=>none
 | some (j,_)=>match ops[j]? with | some o=>o.dst | none=>none
def sB (ops:Array Oper) (o:Oper):List Nat :=
 match guardSlot ops o with
 | none=>rA o
 | some t=>t::rA o

abbrev Hs:=(Nat→Option PO)×(Nat→Prop)
def gG (h:Nat→Option PO) (δ:PH):Nat→Option PO:=fun i=>match lk δ i with | some x=>some x | none=>h i
def nI (u:Nat→Prop) (n n':Nat):Nat→Prop:=fun i=>u i∨(n≤i∧i<n')
def HI (B:Nat) (η:Eta) (hs:Hs) (S:Cells) (w:World):Prop:=(∃ H,lk H=hs.1∧HInv B η H S w)∧∀ i,¬ hs.2 i→η i=none
theorem lk_upd (δ H:PH):lk (δ++H)=gG (lk H) δ:=by
 funext i
 induction δ with
 | nil=>rfl
 | cons x r ih =>
  obtain ⟨k,v⟩:=x
  unfold gG at ih ⊢
  simp only [List.cons_append,lk]
  cases Nat.beq k i
  ·exact ih
  ·rfl
theorem HI.inw {B:Nat} {η:Eta} {hs:Hs} {S:Cells} {w:World} (h:HI B η hs S w):InW S w:=let ⟨⟨_,_,hi⟩,_⟩:=h;hi.inw
theorem HI.base {B:Nat} {η:Eta} {hs:Hs} {S:Cells} {w:World} (h:HI B η hs S w):B≤w.heap.size:=let ⟨⟨_,_,hi⟩,_⟩:=h;hi.base
theorem HI.grow {B:Nat} {η:Eta} {hs:Hs} {S S':Cells} {w w':World} (h:HI B η hs S w) (g:Grow w.heap.size S w S' w'):HI B η hs S' w':=let ⟨⟨H,e,hi⟩,f⟩:=h;⟨⟨H,e,hi.grow g⟩,f⟩
section
variable (P:Program) (rd:Option Nat) (B:Nat) (ops:Array Oper) (o:Oper) (E:En)
def LStep (ids:List Nat) (h:Nat→Option PO) (n n':Nat) (pv:PV) (δ:PH):Prop:=∀ H',(∀ i∈ids,lk H' i=h i)→∀ S w η a,HInv B η H' S w→Free η n n'→E.Only (sB ops o) S w η a.tmps →
 if Region.wanted o (yielded ops a.tmps)=true then OpW P rd o a w (fun a' w'=>∃ v S' η',a'=a.put o.dst v∧Grow B S w S' w'∧Pre η η'∧Out η η' n n'∧HInv B η' (δ++H') S' w'∧PM S' w' η' pv v)
 else PM S w η pv undef∧HInv B η (δ++H') S w
def RStep (hs:Hs) (C:PV→Hs→Prop) (CP:TypeId→Hs→Prop):Prop:=∀ S w η a,HI B η hs S w→E.Only (sB ops o) S w η a.tmps →
 if Region.wanted o (yielded ops a.tmps)=true then OpWP P rd o a w (fun a' w'=>∃ v S' η' pv hs',a'=a.put o.dst v∧Grow B S w S' w'∧Pre η η'∧HI B η' hs' S' w'∧PM S' w' η' pv v∧C pv hs') (fun T w'=>∃ S' η' hs',Grow B S w S' w'∧Pre η η'∧HI B η' hs' S' w'∧CP T hs')
 else ∃ pv,PM S w η pv undef∧C pv hs
end
inductive Fl where
 | s (ids keys:List Nat)
 | r
 | k (keys:List Nat)
 deriving Inhabited
def mC:PH→List Nat
 | []=>[]
 | x::r=>x.1::mC r
theorem lk_keys:∀ {δ:PH} {i:Nat},i∉mC δ→lk δ i=none
 | [],_,_=>rfl
 | (k,v)::r,i,h=>by
  simp only [mC,List.mem_cons,not_or] at h
  rw [wA _ _ (fun e=>h.1 e.symm)]
  exact lk_keys h.2

inductive Cert (P:Program) (rd:Option Nat) (n B:Nat) (ops:Array Oper) (K:En→Hs→Prop) (KP:TypeId→En→Hs→Prop):List Oper→List Fl→En→Hs→Prop where
 | nil {E hs}:K E hs→Cert P rd n B ops K KP [] [] E hs
 | s {o rest fl E hs} (ids:List Nat) (m m':Nat) (pv:PV) (δ:PH):(δ=[]→m'=m)→dstOk n o.dst=true→LStep P rd B ops o E ids hs.1 m m' pv δ→(∀ i,m≤i→i<m'→¬ hs.2 i) →
   Cert P rd n B ops K KP rest fl (E.setO o.dst pv) (gG hs.1 δ,nI hs.2 m m')→Cert P rd n B ops K KP (o::rest) (.s ids (mC δ)::fl) E hs
 | r {o rest fl E hs} (C:PV→Hs→Prop) (CP:TypeId→Hs→Prop):dstOk n o.dst=true→RStep P rd B ops o E hs C CP→(∀ pv hs',C pv hs'→Cert P rd n B ops K KP rest fl (E.setO o.dst pv) hs')→(∀ T hs',CP T hs'→KP T E hs')→Cert P rd n B ops K KP (o::rest) (.r::fl) E hs
 | k {o rest fl E hs} (keys:List Nat) (pv:PV) (hs1:Hs):dstOk n o.dst=true→RStep P rd B ops o E hs (fun pv' hs'=>pv'=pv∧hs'=hs1) (fun _ _=>False)→(∀ i,i∉keys→hs1.1 i=hs.1 i) →
   Cert P rd n B ops K KP rest fl (E.setO o.dst pv) hs1→Cert P rd n B ops K KP (o::rest) (.k keys::fl) E hs

theorem En.only_setO {E:En} {l:List Nat} {d:Option Nat} {pv:PV} {S:Cells} {w:World} {η:Eta} {tmps:Array Value} (h:∀ t,d=some t→zC l t=false):(E.setO d pv).Only l S w η tmps↔E.Only l S w η tmps:=by
 have key:∀ t,zC l t=true→E.setO d pv t=E t:=fun t ht=>by
  cases d with
  | none=>rfl
  | some d=>exact En.set_ne E pv fun hdt=>by have:=h d rfl;rw [hdt,ht] at this;cases this
 constructor
 ·exact fun hh t pv' ht he=>hh t pv' ht (by rw [key t ht];exact he)
 ·exact fun hh t pv' ht he=>hh t pv' ht (by rw [key t ht] at he;exact he)
theorem En.setO_comm {E:En} {d1 d2:Option Nat} {a1 a2:PV} (h:∀ t,d1=some t→d2≠some t):(E.setO d1 a1).setO d2 a2=(E.setO d2 a2).setO d1 a1:=by
 cases d1 with
 | none=>rfl
 | some t1 =>
  cases d2 with
  | none=>rfl
  | some t2 =>
   have hne:t1≠t2:=fun he=>h t1 rfl (by rw [he])
   funext s
   by_cases h1:t1=s
   ·subst h1
    rw [show ((E.setO (some t1) a1).setO (some t2) a2) t1=(E.setO (some t1) a1) t1 from En.set_ne _ _ (Ne.symm hne)]
    rw [show (E.setO (some t1) a1) t1=some a1 from En.set_same _ _ _,show ((E.setO (some t2) a2).setO (some t1) a1) t1=some a1 from En.set_same _ _ _]
   ·rw [show ((E.setO (some t2) a2).setO (some t1) a1) s=(E.setO (some t2) a2) s from En.set_ne _ _ h1]
    by_cases h2:t2=s
    ·subst h2
     rw [show ((E.setO (some t1) a1).setO (some t2) a2) t2=some a2 from En.set_same _ _ _,show (E.setO (some t2) a2) t2=some a2 from En.set_same _ _ _]
    ·rw [show ((E.setO (some t1) a1).setO (some t2) a2) s=(E.setO (some t1) a1) s from En.set_ne _ _ h2,
      show (E.setO (some t1) a1) s=E s from En.set_ne _ _ h1,show (E.setO (some t2) a2) s=E s from En.set_ne _ _ h2]

section
variable {P:Program} {rd:Option Nat} {n B:Nat} {ops:Array Oper} {K:En→Hs→Prop} {KP:TypeId→En→Hs→Prop} {o:Oper} {E:En} {d:Option Nat} {pv:PV} {hs:Hs}
theorem LStep.setO (h:∀ t,d=some t→zC (sB ops o) t=false) {pv':PV} {ids:List Nat} {hp:Nat→Option PO} {m m':Nat} {δ:PH}:LStep P rd B ops o (E.setO d pv) ids hp m m' pv' δ↔LStep P rd B ops o E ids hp m m' pv' δ :=
 ⟨fun hh H' he S w η a hi hl ho=>hh H' he S w η a hi hl ((En.only_setO h).2 ho),fun hh H' he S w η a hi hl ho=>hh H' he S w η a hi hl ((En.only_setO h).1 ho)⟩
theorem RStep.setO (h:∀ t,d=some t→zC (sB ops o) t=false) {C:PV→Hs→Prop} {CP:TypeId→Hs→Prop}:RStep P rd B ops o (E.setO d pv) hs C CP↔RStep P rd B ops o E hs C CP :=
 ⟨fun hh S w η a hi ho=>hh S w η a hi ((En.only_setO h).2 ho),fun hh S w η a hi ho=>hh S w η a hi ((En.only_setO h).1 ho)⟩
theorem LStep.at {ids:List Nat} {h h':Nat→Option PO} {m m':Nat} {δ:PH} (hh:LStep P rd B ops o E ids h m m' pv δ) (he:∀ i∈ids,h' i=h i):LStep P rd B ops o E ids h' m m' pv δ :=
 fun H' hi=>hh H' fun i hm=>(hi i hm).trans (he i hm)

structure Indep (ops:Array Oper) (x y:Oper):Prop where
 xy:∀ t,x.dst=some t→zC (sB ops y) t=false
 yx:∀ t,y.dst=some t→zC (sB ops x) t=false
 dd:∀ t,x.dst=some t→y.dst≠some t

inductive Head (P:Program) (rd:Option Nat) (n B:Nat) (ops:Array Oper) (K:En→Hs→Prop) (KP:TypeId→En→Hs→Prop) (x:Oper) (rest:List Oper) (fl:List Fl) (E:En) (hs:Hs):Fl→Prop where
 | s (ids:List Nat) (m m':Nat) (pv:PV) (δ:PH):(δ=[]→m'=m)→dstOk n x.dst=true→LStep P rd B ops x E ids hs.1 m m' pv δ→(∀ i,m≤i→i<m'→¬ hs.2 i) →
   Cert P rd n B ops K KP rest fl (E.setO x.dst pv) (gG hs.1 δ,nI hs.2 m m')→Head P rd n B ops K KP x rest fl E hs (.s ids (mC δ))
 | r (C:PV→Hs→Prop) (CP:TypeId→Hs→Prop):dstOk n x.dst=true→RStep P rd B ops x E hs C CP→(∀ pv hs',C pv hs'→Cert P rd n B ops K KP rest fl (E.setO x.dst pv) hs')→(∀ T hs',CP T hs'→KP T E hs')→Head P rd n B ops K KP x rest fl E hs .r
 | k (keys:List Nat) (pv:PV) (hs1:Hs):dstOk n x.dst=true→RStep P rd B ops x E hs (fun pv' hs'=>pv'=pv∧hs'=hs1) (fun _ _=>False)→(∀ i,i∉keys→hs1.1 i=hs.1 i) →
   Cert P rd n B ops K KP rest fl (E.setO x.dst pv) hs1→Head P rd n B ops K KP x rest fl E hs (.k keys)

def disj:List Nat→List Nat→Bool
 | [],_=>true
 | x::r,l=>!(zC l x)&&disj r l
def hard:Fl→Fl→Bool
 | .s i1 k1,.s i2 k2=>!(disj k1 i2&&disj k2 i1&&disj k1 k2)
 | .s i1 [],.k k2=>!(disj i1 k2)
 | .k k1,.s i2 []=>!(disj i2 k1)
 | _,_=>true
theorem xJ:∀ {l:List Nat} {t:Nat},zC l t=true↔t∈l
 | [],t=>by simp [zC]
 | k::r,t=>by
  unfold zC
  cases h:Nat.beq k t
  ·simp only [xJ (l:=r),List.mem_cons]
   constructor
   ·exact .inr
   ·rintro (rfl | h')
    ·rw [Nat.beq_refl] at h;cases h
    ·exact h'
  ·simp [nB h]
theorem disj_ok:∀ {a b:List Nat},disj a b=true→∀ i∈a,i∉b
 | [],_,_,i,hi=>by cases hi
 | x::r,b,h,i,hi=>by
  simp only [disj,bA,Bool.not_eq_true'] at h
  rcases List.mem_cons.1 hi with rfl | hi
  ·intro hb;rw [xJ.2 hb] at h;cases h.1
  ·exact disj_ok h.2 i hi
theorem upd_comm {h:Nat→Option PO} {δ1 δ2:PH} (hd:∀ i∈mC δ1,i∉mC δ2):gG (gG h δ1) δ2=gG (gG h δ2) δ1:=by
 funext i
 unfold gG
 cases h1:lk δ1 i with
 | none =>
  cases lk δ2 i<;>rfl
 | some x =>
  have:i∈mC δ1:=Classical.byContradiction fun hn=>by rw [lk_keys hn] at h1;cases h1
  rw [lk_keys (hd i this)]
theorem use_comm {u:Nat→Prop} {a a' b b':Nat}:nI (nI u a a') b b'=nI (nI u b b') a a':=by
 funext i
 unfold nI
 apply propext
 constructor
 ·rintro ((h | h) | h)
  ·exact .inl (.inl h)
  ·exact .inr h
  ·exact .inl (.inr h)
 ·rintro ((h | h) | h)
  ·exact .inl (.inl h)
  ·exact .inr h
  ·exact .inl (.inr h)
theorem keys_nil {δ:PH} (h:mC δ=[]):δ=[]:=by
 cases δ with
 | nil=>rfl
 | cons x r=>cases h
theorem upd_nil (h:Nat→Option PO):gG h []=h:=rfl
theorem use_nil (u:Nat→Prop) (m:Nat):nI u m m=u:=by
 funext i
 exact propext ⟨fun h=>h.elim id fun h=>absurd h.2 (Nat.not_lt.2 h.1),.inl⟩
theorem upd_off {h:Nat→Option PO} {δ:PH} {i:Nat} (hi:i∉mC δ):gG h δ i=h i:=by
 unfold gG;rw [lk_keys hi]

theorem Cert.pull {x:Oper} {rest:List Oper} {f:Fl} {fl2:List Fl}:∀ {L1:List Oper} {fl1:List Fl} {E:En} {hs:Hs},fl1.length=L1.length→(∀ b∈fl1,hard b f=false) →
  (∀ y∈L1,Indep ops x y)→Cert P rd n B ops K KP (L1++x::rest) (fl1++f::fl2) E hs→Head P rd n B ops K KP x (L1++rest) (fl1++fl2) E hs f
 | [],[],E,hs,_,_,_,h=>by
  cases h with
  | s ids m m' pv δ h0 h1 h2 h3 h4=>exact .s ids m m' pv δ h0 h1 h2 h3 h4
  | r C CP h1 h2 h3 h4=>exact .r C CP h1 h2 h3 h4
  | k keys pv hs1 h1 h2 h3 h4=>exact .k keys pv hs1 h1 h2 h3 h4
 | y::L1,b::fl1,E,hs,hl,hf,hi,h=>by
  have iy:=hi y (by simp)
  have hb:=hf b (by simp)
  have hl':fl1.length=L1.length:=by simpa using hl
  have hf':∀ b∈fl1,hard b f=false:=fun b hb=>hf b (by simp [hb])
  have hi':∀ z∈L1,Indep ops x z:=fun z hz=>hi z (by simp [hz])
  have dd:∀ t,y.dst=some t→x.dst≠some t:=fun t ht hx=>iy.dd t hx ht
  cases h with
  | s ids m m' pv δ h0 h1 h2 h3 h4 =>
   cases Cert.pull (L1:=L1) (fl1:=fl1) hl' hf' hi' h4 with
   | k keys pv1 hs1 g1 g2 g3 g4 =>
    have hd:mC δ=[]∧disj ids keys=true:=by
     cases hk:mC δ with
     | nil=>rw [hk] at hb;simpa [hard] using hb
     | cons a b=>rw [hk] at hb;simp [hard] at hb
    obtain ⟨hk,hdj⟩:=hd
    have hδ:=keys_nil hk
    subst hδ
    have hm:=h0 rfl
    subst hm
    have ehs:((gG hs.1 [],nI hs.2 m' m'):Hs)=hs:=by rw [upd_nil,use_nil]
    rw [ehs] at g2 g3
    rw [En.setO_comm dd] at g4
    refine .k keys pv1 hs1 g1 ((RStep.setO iy.yx).1 g2) g3 ?_
    refine .s ids m' m' pv [] h0 h1 (((LStep.setO iy.xy).2 h2).at fun i hi=>g3 i fun hk=>disj_ok hdj i hi hk) (fun i h5 h6 _=>absurd h6 (Nat.not_lt.2 h5)) ?_
    rw [show ((gG hs1.1 [],nI hs1.2 m' m'):Hs)=hs1 by rw [upd_nil,use_nil]]
    exact g4
   | s idx k k' pvx δx g0 g1 g2 g3 g4 =>
    simp only [hard,Bool.not_eq_false',bA] at hb
    obtain ⟨⟨b1,b2⟩,b3⟩:=hb
    rw [En.setO_comm dd] at g4
    have hu:gG (gG hs.1 δ) δx=gG (gG hs.1 δx) δ:=upd_comm (disj_ok b3)
    simp only at g4
    rw [hu,use_comm] at g4
    refine .s idx k k' pvx δx g0 g1 (((LStep.setO iy.yx).1 g2).at fun i hi=>(upd_off fun hk=>disj_ok b1 i hk hi).symm) (fun i h5 h6 hu=>g3 i h5 h6 (.inl hu)) ?_
    refine .s ids m m' pv δ h0 h1 (((LStep.setO iy.xy).2 h2).at fun i hi=>upd_off fun hk=>disj_ok b2 i hk hi) (fun i h5 h6 hu=>?_) g4
    rcases hu with hu | ⟨h7,h8⟩
    ·exact h3 i h5 h6 hu
    ·exact g3 i h7 h8 (.inr ⟨h5,h6⟩)
   | r C CP g1 g3 g4 g5=>exact absurd hb (by simp [hard])
  | r C CP h1 h3 h4 h5=>exact absurd hb (by cases f<;>simp [hard])
  | k keys pv hs1 h1 h2 h3 h4 =>
   cases Cert.pull (L1:=L1) (fl1:=fl1) hl' hf' hi' h4 with
   | s idx k k' pvx δx g0 g1 g2 g3 g4 =>
    have hd:mC δx=[]∧disj idx keys=true:=by
     cases hk:mC δx with
     | nil=>rw [hk] at hb;simpa [hard] using hb
     | cons a b=>rw [hk] at hb;simp [hard] at hb
    obtain ⟨hk,hdj⟩:=hd
    have hδ:=keys_nil hk
    subst hδ
    have hm:=g0 rfl
    subst hm
    rw [En.setO_comm dd,show ((gG hs1.1 [],nI hs1.2 k' k'):Hs)=hs1 by rw [upd_nil,use_nil]] at g4
    refine .s idx k' k' pvx [] g0 g1 (((LStep.setO iy.yx).1 g2).at fun i hi=>(h3 i fun hk=>disj_ok hdj i hi hk).symm) (fun i h5 h6 _=>absurd h6 (Nat.not_lt.2 h5)) ?_
    rw [show ((gG hs.1 [],nI hs.2 k' k'):Hs)=hs by rw [upd_nil,use_nil]]
    exact .k keys pv hs1 h1 ((RStep.setO iy.xy).2 h2) h3 g4
   | r C CP g1 g3 g4 g5=>exact absurd hb (by simp [hard])
   | k keys2 pv2 hs2 g1 g2 g3 g4=>exact absurd hb (by simp [hard])

structure Ok (n B:Nat) (D:List Deferred) (S0:Cells) (w0:World) (η0:Eta) (E:En) (hs:Hs) (a:Act) (w:World) (S:Cells) (η:Eta):Prop where
 defers:a.defers=D
 size:a.tmps.size=n
 env:E.M S w η a.tmps
 inv:HI B η hs S w
 pre:Pre η0 η
 grow:Grow B S0 w0 S w

variable {D:List Deferred} {S0:Cells} {w0:World} {η0:Eta} {Q:Exit→Act→World→Prop}

theorem Ok.put {a:Act} {w w':World} {S S':Cells} {η η':Eta} {v:Value} {hs':Hs} {d:Option Nat} (ok:Ok n B D S0 w0 η0 E hs a w S η) (h1:dstOk n d=true) (hg:Grow B S w S' w') (hp:Pre η η') (hi:HI B η' hs' S' w')
  (hm:PM S' w' η' pv v):Ok n B D S0 w0 η0 (E.setO d pv) hs' (a.put d v) w' S' η' :=
 ⟨by rw [Act.defers_put];exact ok.defers,by rw [Act.size_put];exact ok.size,(ok.env.mono hg.keep hp).put ok.size h1 hm,hi,ok.pre.trans hp,ok.grow.trans hg⟩

theorem pJ {i:Nat} {x:Oper} {rest:List Oper} {fl:List Fl} {f:Fl} {a:Act} {w:World} {S:Cells} {η:Eta} {K':Act→World→Prop} (hx:ops[i]? = some x)
  (h:Head P rd n B ops K KP x rest fl E hs f) (ok:Ok n B D S0 w0 η0 E hs a w S η)
  (hK:∀ E hs a w S η,Cert P rd n B ops K KP rest fl E hs→Ok n B D S0 w0 η0 E hs a w S η→K' a w) (hKP:∀ T E hs a w S η,KP T E hs→Ok n B D S0 w0 η0 E hs a w S η→Q (panV T) a w):wpOpIn (FR rd) 0 P ops Q i K' a w:=by
 unfold wpOpIn
 rw [hx]
 simp only
 cases h with
 | s ids m m' pv δ h0 h1 h2 h3 h4 =>
  obtain ⟨⟨H,eH,hi0⟩,hfr⟩:=ok.inv
  have hfree:Free η m m':=fun i h5 h6=>hfr i (h3 i h5 h6)
  have g:=h2 H (fun i _=>by rw [eH]) S w η a hi0 hfree (ok.env.only _)
  split at g
  ·rename_i hw
   rw [if_pos hw]
   refine g.wpIn fun a' w' hh=>?_
   obtain ⟨v,S',η',rfl,hg,hp,ho,hi,hm⟩:=hh
   refine hK _ _ _ _ S' η' h4 (ok.put h1 hg hp ⟨⟨δ++H,by rw [lk_upd,eH],hi⟩,fun j hj=>?_⟩ hm)
   rw [ho j (by
    rcases Nat.lt_or_ge j m with h | h
    ·exact .inl h
    ·rcases Nat.lt_or_ge j m' with h' | h'
     ·exact absurd (.inr ⟨h,h'⟩) hj
     ·exact .inr h')]
   exact hfr j fun hu=>hj (.inl hu)
  ·rename_i hw
   rw [if_neg hw]
   obtain ⟨hm,hδ⟩:=g
   refine ⟨fun f _=>FR.fn rd f,hK _ _ _ _ S η h4 (ok.put h1 (Grow.refl hi0.inw) (.refl _) ⟨⟨δ++H,by rw [lk_upd,eH],hδ⟩,fun j hj=>hfr j fun hu=>hj (.inl hu)⟩ hm)⟩
 | k keys pv1 hs1 h1 h3 h3' h4 =>
  have g:=h3 S w η a ok.inv (ok.env.only _)
  split at g
  ·rename_i hw
   rw [if_pos hw]
   refine g.wpIn (fun a' w' hh=>?_) fun T w' ⟨_,_,_,_,_,_,h⟩=>h.elim
   obtain ⟨v,S',η',pv',hs'',rfl,hg,hp,hi,hm,rfl,rfl⟩:=hh
   exact hK _ _ _ _ S' η' h4 (ok.put h1 hg hp hi hm)
  ·rename_i hw
   rw [if_neg hw]
   obtain ⟨pv',hm,rfl,rfl⟩:=g
   exact ⟨fun f _=>FR.fn rd f,hK _ _ _ _ S η h4 (ok.put h1 (Grow.refl ok.inv.inw) (.refl _) ok.inv hm)⟩
 | r C CP h1 h3 h4 h5 =>
  have g:=h3 S w η a ok.inv (ok.env.only _)
  split at g
  ·rename_i hw
   rw [if_pos hw]
   refine g.wpIn (fun a' w' hh=>?_) fun T w' ⟨S',η',hs',hg,hp,hi,hc⟩=>hKP T _ _ _ _ S' η' (h5 T hs' hc) ⟨ok.defers,ok.size,ok.env.mono hg.keep hp,hi,ok.pre.trans hp,ok.grow.trans hg⟩
   obtain ⟨v,S',η',pv',hs'',rfl,hg,hp,hi,hm,hc⟩:=hh
   exact hK _ _ _ _ S' η' (h4 _ _ hc) (ok.put h1 hg hp hi hm)
  ·rename_i hw
   rw [if_neg hw]
   obtain ⟨pv',hm,hc⟩:=g
   exact ⟨fun f _=>FR.fn rd f,hK _ _ _ _ S η (h4 _ _ hc) (ok.put h1 (Grow.refl ok.inv.inw) (.refl _) ok.inv hm)⟩

theorem iJ:∀ {L pre:List Oper} {fl:List Fl} {E:En} {hs:Hs} {a:Act} {w:World} {S:Cells} {η:Eta} {l:List Nat},ops=(pre++L).toArray→l=List.range' pre.length L.length→Cert P rd n B ops K KP L fl E hs→Ok n B D S0 w0 η0 E hs a w S η →
  (∀ E hs a w S η,K E hs→Ok n B D S0 w0 η0 E hs a w S η→Q .normal a w)→(∀ T E hs a w S η,KP T E hs→Ok n B D S0 w0 η0 E hs a w S η→Q (panV T) a w)→wpOpsIn (FR rd) 0 P ops Q l a w
 | [],pre,fl,E,hs,a,w,S,η,l,ho,hr,h,ok,hK,hKP=>by
  subst hr
  cases h with
  | nil hk=>exact hK _ _ _ _ _ _ hk ok
 | x::L,pre,fl,E,hs,a,w,S,η,l,ho,hr,h,ok,hK,hKP=>by
  subst hr
  rw [List.length_cons,List.range'_succ,wpOpsIn_cons]
  have hx:ops[pre.length]? = some x:=by rw [ho];simp
  have hd:∃ f fl',fl=f::fl'∧Head P rd n B ops K KP x L fl' E hs f:=by
   cases h with
   | s ids m m' pv δ h0 h1 h2 h3 h4=>exact ⟨_,_,rfl,.s ids m m' pv δ h0 h1 h2 h3 h4⟩
   | r C CP h1 h2 h3 h4=>exact ⟨_,_,rfl,.r C CP h1 h2 h3 h4⟩
   | k keys pv hs1 h1 h2 h3 h4=>exact ⟨_,_,rfl,.k keys pv hs1 h1 h2 h3 h4⟩
  obtain ⟨f,fl',rfl,hd⟩:=hd
  refine pJ hx hd ok (fun E' hs' a' w' S' η' hc ok'=>?_) hKP
  exact iJ (pre:=pre++[x]) (L:=L) (by rw [ho];simp) (by simp) hc ok' hK hKP

def maskOf (acc:List Nat):List Edge→Nat
 | []=>0
 | e::r=>match Region.binds .any e with
  | true=>2 ^ e.on ||| acc.getD e.on 0 ||| maskOf acc r
  | false=>maskOf acc r
def chkMs (all:List Nat):List Oper→List Nat→Bool
 | [],[]=>true
 | o::l,m::ms=>Nat.beq (maskOf all o.after.toList) m&&chkMs all l ms
 | _,_=>false
def Closed (ops:Array Oper) (L:Nat→Prop):Prop:=∀ k o,ops[k]? = some o→L k→∀ e∈o.after,Region.binds .any e=true→L e.on
theorem yI {acc:List Nat} {p:Nat}:∀ {l:List Edge},(maskOf acc l).testBit p=true→∃ e∈l,Region.binds .any e=true∧(e.on=p∨(acc.getD e.on 0).testBit p=true)
 | [],h=>by simp [maskOf] at h
 | e::r,h=>by
  unfold maskOf at h
  cases hb:Region.binds .any e<;>rw [hb] at h
  ·obtain ⟨e',he',h'⟩:=yI h
   exact ⟨e',by simp [he'],h'⟩
  ·simp only [Nat.testBit_or,Bool.or_eq_true,Nat.testBit_two_pow,decide_eq_true_eq] at h
   rcases h with (h | h) | h
   ·exact ⟨e,by simp,hb,.inl h⟩
   ·exact ⟨e,by simp,hb,.inr h⟩
   ·obtain ⟨e',he',h'⟩:=yI h
    exact ⟨e',by simp [he'],h'⟩

theorem chkMs_at {all:List Nat}:∀ {l:List Oper} {ms:List Nat},chkMs all l ms=true→ms.length=l.length∧∀ k o,l[k]? = some o→ms.getD k 0=maskOf all o.after.toList
 | [],[],_=>⟨rfl,fun k o h=>by simp at h⟩
 | [],_::_,h=>by simp [chkMs] at h
 | _::_,[],h=>by simp [chkMs] at h
 | x::l,m::ms,h=>by
  simp only [chkMs,bA] at h
  obtain ⟨h1,h2⟩:=chkMs_at h.2
  refine ⟨by simp [h1],fun k o hk=>?_⟩
  cases k with
  | zero=>simp at hk;subst hk;simpa using (nB h.1).symm
  | succ k=>simpa using h2 k o (by simpa using hk)
theorem masks_spec {L:Nat→Prop} {l:List Oper} {ms:List Nat} (hL:Closed l.toArray L) (hm:chkMs ms l ms=true) (hafter:∀ j y,l[j]? = some y→∀ e∈y.after,Region.binds .any e=true→e.on<j) :
  ∀ (n k:Nat) (o:Oper),k≤n→l[k]? = some o→(∀ e∈o.after,Region.binds .any e=true→L e.on)→∀ p,(ms.getD k 0).testBit p=true→L p:=by
 intro n
 induction n with
 | zero =>
  intro k o hk ho he p hp
  have hk0:k=0:=by omega
  subst hk0
  rw [(chkMs_at hm).2 0 o ho] at hp
  obtain ⟨e,he1,he2,he3⟩:=yI hp
  have:=hafter 0 o ho e (by simpa using he1) he2
  omega
 | succ n ih =>
  intro k o hk ho he p hp
  rw [(chkMs_at hm).2 k o ho] at hp
  obtain ⟨e,he1,he2,he3⟩:=yI hp
  have hLe:=he e (by simpa using he1) he2
  rcases he3 with rfl | he3
  ·exact hLe
  ·have hlt:=hafter k o ho e (by simpa using he1) he2
   have hkl:=(gS.1 ho).1
   have hoe:l[e.on]? = some (l[e.on]'(by omega)):=gE (by omega)
   exact ih e.on _ (by omega) hoe (fun e' h' hb'=>hL e.on _ (by simpa using hoe) hLe e' h' hb') p he3

def memO (d:Option Nat) (l:List Nat):Bool:=match d with | some t=>zC l t | none=>false
def eqO:Option Nat→Option Nat→Bool
 | some a,some b=>Nat.beq a b
 | _,_=>false
def clash (ops:Array Oper) (x y:Oper):Bool:=memO x.dst (sB ops y)||memO y.dst (sB ops x)||eqO x.dst y.dst
theorem clash_indep {x y:Oper} (h:clash ops y x=false):Indep ops x y:=by
 unfold clash at h
 simp only [Bool.or_eq_false_iff] at h
 obtain ⟨⟨h1,h2⟩,h3⟩:=h
 refine ⟨fun t ht=>?_,fun t ht=>?_,fun t ht hy=>?_⟩
 ·rw [ht] at h2;exact h2
 ·rw [ht] at h1;exact h1
 ·rw [ht,hy] at h3
  simp [eqO] at h3



def okPair (ops:Array Oper) (l:List Oper) (fl:List Fl) (masks:List Nat) (x y:Nat):Bool :=
 (masks.getD y 0).testBit x||(!(hard (fl.getD x .r) (fl.getD y .r))&&!(clash ops (l.getD x default) (l.getD y default)))
def chkPairs (ops:Array Oper) (l:List Oper) (fl:List Fl) (masks:List Nat):List Nat→Bool
 | []=>true
 | x::r=>r.all (fun y=>okPair ops l fl masks x y)&&chkPairs ops l fl masks r
def nodupN:List Nat→Bool
 | []=>true
 | x::r=>!(zC r x)&&nodupN r
def afterOk:Nat→List Oper→Bool
 | _,[]=>true
 | k,y::l=>(y.after.toList.all fun e=>!(Region.binds .any e)||Nat.blt e.on k)&&afterOk (k+1) l
def chkP (l:List Oper) (fl:List Fl) (ms π:List Nat):Bool :=
 Nat.beq fl.length l.length&&Nat.beq π.length l.length&&(π.all fun j=>Nat.blt j l.length)&&nodupN π&&afterOk 0 l&&chkMs ms l ms&&chkPairs l.toArray l fl ms π

theorem nodupN_iff:∀ {l:List Nat},nodupN l=true→l.Nodup
 | [],_=>List.nodup_nil
 | x::r,h=>by
  simp only [nodupN,bA,Bool.not_eq_true'] at h
  refine List.nodup_cons.2 ⟨fun hm=>?_,nodupN_iff h.2⟩
  have:=xJ.2 hm
  rw [this] at h;cases h.1
theorem afterOk_spec:∀ {l:List Oper} {k:Nat},afterOk k l=true→∀ j y,l[j]? = some y→∀ e∈y.after,Region.binds .any e=true→e.on<k+j
 | [],_,_,j,y,hy=>by simp at hy
 | z::l,k,h,j,y,hy=>by
  simp only [afterOk,bA] at h
  cases j with
  | zero =>
   simp at hy
   subst hy
   intro e he hb
   have:=List.all_eq_true.1 h.1 e (by simpa using he)
   simp only [hb,Bool.not_true,Bool.false_or] at this
   exact nL this
  | succ j =>
   intro e he hb
   have:=afterOk_spec h.2 j y (by simpa using hy) e he hb
   omega
theorem chkPairs_spec {ops:Array Oper} {l:List Oper} {fl:List Fl} {masks:List Nat}:∀ {π:List Nat},chkPairs ops l fl masks π=true→π.Pairwise fun x y=>okPair ops l fl masks x y=true
 | [],_=>List.Pairwise.nil
 | x::r,h=>by
  simp only [chkPairs,bA] at h
  exact List.pairwise_cons.2 ⟨fun y hy=>List.all_eq_true.1 h.1 y hy,chkPairs_spec h.2⟩


theorem qD:∀ {l l':List Nat},l.Nodup→(∀ x∈l,x∈l')→l.length≤l'.length
 | [],_,_,_=>Nat.zero_le _
 | x::l,l',hnd,hs=>by
  have h1:=List.nodup_cons.1 hnd
  have:=qD (l:=l) (l':=l'.erase x) h1.2 fun y hy=>(List.mem_erase_of_ne (fun h:y=x=>h1.1 (by rw [← h];exact hy))).2 (hs y (by simp [hy]))
  have hx:=hs x (by simp)
  rw [List.length_erase_of_mem hx] at this
  have:=List.length_pos_of_mem hx
  rw [List.length_cons];omega
theorem exists_least:∀ (I:List Nat),I≠[]→∃ i∈I,∀ j∈I,i≤j
 | [],h=>absurd rfl h
 | [x],_=>⟨x,by simp,fun j hj=>by simp at hj;omega⟩
 | x::y::r,_=>by
  obtain ⟨i,hi,hmin⟩:=exists_least (y::r) (by simp)
  rcases Nat.le_total x i with h | h
  ·refine ⟨x,by simp,fun j hj=>?_⟩
   rcases List.mem_cons.1 hj with rfl | hj
   ·exact nR _
   ·exact Nat.le_trans h (hmin j hj)
  ·refine ⟨i,List.mem_cons_of_mem _ hi,fun j hj=>?_⟩
   rcases List.mem_cons.1 hj with rfl | hj
   ·exact h
   ·exact hmin j hj

theorem wpAnyIn_certP {l:List Oper} {fl:List Fl} {ms:List Nat} (hms:chkMs ms l ms=true) (hlen:fl.length=l.length) (hafter:∀ j y,l[j]? = some y→∀ e∈y.after,Region.binds .any e=true→e.on<j)
  (hK:∀ E hs a w S η,K E hs→Ok n B D S0 w0 η0 E hs a w S η→Q .normal a w) (hKP:∀ T E hs a w S η,KP T E hs→Ok n B D S0 w0 η0 E hs a w S η→Q (panV T) a w) :
  ∀ (m:Nat) (I:List Nat) (listed:Array Bool) (E:En) (hs:Hs) (a:Act) (w:World) (S:Cells) (η:Eta),I.length=m→I.Nodup→(I.Pairwise fun x y=>okPair l.toArray l fl ms x y=true) →
   (∀ j,j∈I↔j<l.length∧listed.getD j true=false)→listed.size=l.length→Closed l.toArray (fun j=>listed.getD j false=true) →
   Cert P rd n B l.toArray K KP (I.map fun j=>l.getD j default) (I.map fun j=>fl.getD j .r) E hs→Ok n B D S0 w0 η0 E hs a w S η→wpAnyIn (FR rd) 0 P .any l.toArray Q m listed a w:=by
 intro m
 induction m with
 | zero =>
  intro I listed E hs a w S η hm hnd hpw hI hsz hcl hc ok
  have hI0:I=[]:=lN hm
  subst hI0
  cases hc with
  | nil hk =>
   refine ⟨?_,hK _ _ _ _ _ _ hk ok⟩
   apply List.eq_nil_iff_forall_not_mem.2
   intro j hj
   obtain ⟨h1,o,ho,_⟩:=mem_ready.1 hj
   have:j<l.length:=by simpa using (aS.1 ho).1
   have:=(hI j).2 ⟨this,h1⟩
   cases this
 | succ m ih =>
  intro I listed E hs a w S η hm hnd hpw hI hsz hcl hc ok
  have hop:∀ j,j<l.length→l.toArray[j]? = some (l.getD j default):=fun j hj=>by
   simp [List.getD_eq_getElem?_getD,hj]
  refine ⟨fun h0=>?_,fun i hi=>?_⟩
  ·exfalso
   obtain ⟨i0,hi0m,hmin⟩:=exists_least I (fun h=>by rw [h] at hm;cases hm)
   have hi0:=(hI i0).1 hi0m
   have hsp:=hafter i0 (l.getD i0 default) (by simp [List.getD_eq_getElem?_getD,hi0.1])
   have:i0∈Region.ready .any l.toArray listed:=by
    refine mem_ready.2 ⟨hi0.2,_,hop i0 hi0.1,fun ed he hb=>?_⟩
    have hlt:=hsp ed he hb
    have hns:ed.on∉I:=fun hmem=>by have:=hmin _ hmem;omega
    have hon:ed.on<listed.size:=by omega
    have hnf:¬ (listed.getD ed.on true=false):=fun hf=>hns ((hI ed.on).2 ⟨by omega,hf⟩)
    simp [hon] at hnf ⊢
    exact hnf
   rw [h0] at this
   cases this
  ·obtain ⟨h1,o,ho,hall'⟩:=mem_ready.1 hi
   have hil:i<l.length:=by simpa using (aS.1 ho).1
   have hmem:i∈I:=(hI i).2 ⟨hil,h1⟩
   obtain ⟨L1,L2,rfl⟩:=List.append_of_mem hmem
   have hox:o=l.getD i default:=by
    have:=hop i hil;rw [ho] at this;exact Option.some.inj this
   subst hox
   have hbefore:∀ q,(ms.getD i 0).testBit q=true→listed.getD q false=true:=by
    intro q hq
    exact masks_spec (L:=fun q=>listed.getD q false=true) hcl hms hafter i i _ (nR _) (by simpa using ho) hall' q hq
   have hp1:=List.pairwise_append.1 hpw
   have hn1:=List.nodup_append.1 hnd
   have hql1:∀ q∈L1,q<l.length:=fun q hq=>((hI q).1 (by simp [hq])).1
   have hun:∀ q∈L1,listed.getD q false=true→False:=by
    intro q hq ht
    have hf:=((hI q).1 (by simp [hq])).2
    have hqs:q<listed.size:=by have:=hql1 q hq;omega
    simp [hqs] at hf ht
    rw [hf] at ht;cases ht
   have hq0:∀ q∈L1,hard (fl.getD q .r) (fl.getD i .r)=false∧clash l.toArray (l.getD q default) (l.getD i default)=false:=by
    intro q hq
    have:=hp1.2.2 q hq i (by simp)
    unfold okPair at this
    rcases (Bool.or_eq_true_iff).1 this with h | h
    ·exact (hun q hq (hbefore q h)).elim
    ·simp only [bA,Bool.not_eq_true'] at h;exact h
   rw [List.map_append,List.map_append,List.map_cons,List.map_cons] at hc
   have hd:=Cert.pull (by simp) (by
    intro b hb
    obtain ⟨q,hq,rfl⟩:=List.mem_map.1 hb
    exact (hq0 q hq).1) (by
    intro y hy
    obtain ⟨q,hq,rfl⟩:=List.mem_map.1 hy
    exact clash_indep (hq0 q hq).2) hc
   refine pJ ho hd ok (fun E' hs' a' w' S' η' hc' ok'=>?_) hKP
   have hne:i∉L1∧i∉L2:=⟨fun h=>hn1.2.2 i h i (by simp) rfl,(List.nodup_cons.1 hn1.2.1).1⟩
   refine ih (L1++L2) (listed.setIfInBounds i true) E' hs' a' w' S' η' (by simp at hm ⊢;omega) ?_ ?_ ?_ (by simpa using hsz) ?_ (by simpa using hc') ok'
   ·exact List.nodup_append.2 ⟨hn1.1,(List.nodup_cons.1 hn1.2.1).2,fun x hx y hy=>hn1.2.2 x hx y (by simp [hy])⟩
   ·exact List.pairwise_append.2 ⟨hp1.1,(List.pairwise_cons.1 hp1.2.1).2,fun x hx y hy=>hp1.2.2 x hx y (by simp [hy])⟩
   ·intro j
    have hj:=hI j
    by_cases hji:j=i
    ·subst hji
     constructor
     ·intro h;rcases List.mem_append.1 h with h | h
      ·exact absurd h hne.1
      ·exact absurd h hne.2
     ·rintro ⟨h2,h3⟩
      have:j<listed.size:=by omega
      simp [this] at h3
    ·rw [Go.getD_set_ne true (Ne.symm hji)]
     rw [← hj]
     simp [hji]
   ·intro k o' ho' hk ed he hb
    by_cases hki:k=i
    ·subst hki
     have:o'=l.getD k default:=by rw [ho] at ho';exact (Option.some.inj ho').symm
     subst this
     exact getD_set_true (hall' ed he hb)
    ·rw [Go.getD_set_ne false (Ne.symm hki)] at hk
     exact getD_set_true (hcl k o' ho' hk ed he hb)

theorem wpIn_region_certP {id:Nat} {l:List Oper} {fl:List Fl} {ms π:List Nat} {E:En} {hs:Hs} {a:Act} {w:World} {S:Cells} {η:Eta} (hm:P.follows .mixedOrders=true) (hchk:chkP l fl ms π=true)
  (hc:Cert P rd n B l.toArray K KP (π.map fun j=>l.getD j default) (π.map fun j=>fl.getD j .r) E hs) (ok:Ok n B D S0 w0 η0 E hs a w S η) (hK:∀ E hs a w S η,K E hs→Ok n B D S0 w0 η0 E hs a w S η→Q .normal a w) (hKP:∀ T E hs a w S η,KP T E hs→Ok n B D S0 w0 η0 E hs a w S η→Q (panV T) a w):(Code.region id l.toArray true).wpIn (FR rd) 0 P Q a w:=by
 refine wpIn_region_any hm ?_
 simp only [chkP,bA] at hchk
 obtain ⟨⟨⟨⟨⟨⟨h1,h3⟩,h4⟩,h5⟩,h6⟩,h8⟩,h7⟩:=hchk
 have hlen:=nB h1
 have hpl:=nB h3
 have hnd:=nodupN_iff h5
 have hlt:∀ j∈π,j<l.length:=fun j hj=>nL (List.all_eq_true.1 h4 j hj)
 have hmem:∀ j,j<l.length→j∈π:=by
  intro j hj
  apply Classical.byContradiction
  intro hn
  have hsub:π.length≤((List.range l.length).erase j).length:=by
   refine qD hnd fun x hx=>?_
   exact (List.mem_erase_of_ne (fun h:x=j=>hn (by rw [← h];exact hx))).2 (List.mem_range.2 (hlt x hx))
  rw [List.length_erase_of_mem (List.mem_range.2 hj),List.length_range] at hsub
  omega
 have hd:Grow w.heap.size S w S w.drew:=⟨(Below.refl _ _).drew,⟨fun _ _ h=>h,fun _ _ _=>rfl⟩,ok.inv.inw,fun _ _ h=>.inl h,LK.drew _⟩
 have ok':Ok n B D S0 w0 η0 E hs a w.drew S η:=⟨ok.defers,ok.size,ok.env.mono hd.keep (.refl _),ok.inv.grow hd,ok.pre,ok.grow.trans (hd.mono ok.inv.base)⟩
 have:=wpAnyIn_certP (P:=P) (rd:=rd) (n:=n) (B:=B) (K:=K) (Q:=Q) (D:=D) (S0:=S0) (w0:=w0) (η0:=η0) h8 hlen (fun j y hy e he hb=>by
   have:=afterOk_spec h6 j y hy e he hb;omega) hK hKP π.length π (Array.replicate l.length false) E hs a w.drew S η rfl hnd (chkPairs_spec h7) (fun j=>by
   by_cases h:j<l.length
   ·simp [h,hmem j h]
   ·simp only [h,false_and,iff_false];exact fun hj=>h (hlt j hj)) (by simp) (fun k o _ hk=>by
   by_cases h:k<l.length<;>simp [h] at hk) hc ok'
 simpa [hpl] using this

end

abbrev Ev:=List (Nat×PV)
structure PS where
 env:Ev
 hp:PH
 nx:Nat

inductive SF where
 | p (id off:Nat)
 | d (t:Ty)
 | y (id:Nat)
 | h (id:Nat)
inductive SV where
 | d (t:DT)
 | l (k:Lit)
 | p (id off:Nat)
 | h (id:Nat)
 | f (g:FuncId) (first caps:List SF)
 | y (id:Nat)
 | any
inductive SR where
 | c (x:SV)
 | s (l:List SV)
inductive SP where
 | r (x:SR)
 | t (l:List SR)
inductive SO where
 | box (l:List SV)
 | arr (t:Ty)
 | frz (t:Ty)
 | tab (t:Ty) (vid:Nat)
 | lp (st:LS)
 | flat (n:Nat) (t:Ty)
 | cel (n:Nat) (l:List SV)
 | bld (T e:TypeId)
 | opt (l:List SV)
 | us
 | gone
structure Skel where
 slots:List (Nat×SP)
 kill:List Nat
 objs:List (Nat×SO)
 news:List SO

def SF.tys:SF→List DT
 | .p _ _=>[]
 | .y _=>[]
 | .h _=>[]
 | .d t=>[.d t]
def SFs.tys:List SF→List DT
 | []=>[]
 | x::r=>x.tys++SFs.tys r
def SV.tys:SV→List DT
 | .d t=>[t]
 | .f _ fs cs=>SFs.tys fs++SFs.tys cs
 | _=>[]
def SVs.tys:List SV→List DT
 | []=>[]
 | x::r=>x.tys++SVs.tys r
def SR.tys:SR→List DT
 | .c x=>x.tys
 | .s l=>SVs.tys l
def SRs.tys:List SR→List DT
 | []=>[]
 | x::r=>x.tys++SRs.tys r
def SP.tys:SP→List DT
 | .r x=>x.tys
 | .t l=>SRs.tys l
def slotTys:List (Nat×SP)→List DT
 | []=>[]
 | (_,x)::r=>x.tys++slotTys r
def SO.tys:SO→List DT
 | .box l=>SVs.tys l
 | .arr t=>[.d (.list t)]
 | .frz t=>[.d (.list t)]
 | .tab t _=>[.d (.list (.list t))]
 | .flat _ t=>[.d (.list t)]
 | .cel _ l=>SVs.tys l
 | .bld _ _=>[.d .str]
 | .opt l=>.d .bool::SVs.tys l
 | _=>[]
def objTys:List (Nat×SO)→List DT
 | []=>[]
 | (_,x)::r=>x.tys++objTys r
def tG:List SO→List DT
 | []=>[]
 | x::r=>x.tys++tG r
def Skel.tys (k:Skel):List DT:=slotTys k.slots++(objTys k.objs++tG k.news)

def decT (t:Ty):List TV→Option (t.den×List TV)
 | v::r=>match castD (.d t) v with
  | some x=>some (x,r)
  | none=>none
 | []=>none
def decL {X Y:Type} (dec:X→List TV→Option (Y×List TV)):List X→List TV→Option (List Y×List TV)
 | [],L=>some ([],L)
 | x::r,L=>match dec x L with
  | some (y,L)=>match decL dec r L with
   | some (ys,L)=>some (y::ys,L)
   | none=>none
  | none=>none
def SF.dec:SF→List TV→Option (FV×List TV)
 | .p id off,L=>some (.p id off,L)
 | .y id,L=>some (.y id,L)
 | .h id,L=>some (.h id,L)
 | .d t,L=>match decT t L with
  | some (x,L)=>some (.d t x,L)
  | none=>none
def SV.dec:SV→List TV→Option (CV×List TV)
 | .d (.d t),L=>match decT t L,t.agg with
  | some (x,L),false=>some (.d t x,L)
  | _,_=>none
 | .d (.n t),L=>match L with
  | v::r=>match castD (.n t) v with
   | some x=>some (.n t x,r)
   | none=>none
  | []=>none
 | .l k,L=>some (.l k,L)
 | .p id off,L=>some (.p id off,L)
 | .h id,L=>some (.h id,L)
 | .f g fs cs,L=>match decL SF.dec fs L with
  | some (fs,L)=>match decL SF.dec cs L with
   | some (cs,L)=>some (.f g fs cs,L)
   | none=>none
  | none=>none
 | .y id,L=>some (.y id,L)
 | .any,L=>some (.any,L)
def SR.dec:SR→List TV→Option (RV×List TV)
 | .c x,L=>match x.dec L with
  | some (y,L)=>some (.c y,L)
  | none=>none
 | .s l,L=>match decL SV.dec l L with
  | some (ys,L)=>some (.s ys,L)
  | none=>none
def SP.dec:SP→List TV→Option (PV×List TV)
 | .r x,L=>match x.dec L with
  | some (y,L)=>some (.r y,L)
  | none=>none
 | .t l,L=>match decL SR.dec l L with
  | some (ys,L)=>some (.t ys,L)
  | none=>none
def zD:List (Nat×SP)→List TV→Option (Ev×List TV)
 | [],L=>some ([],L)
 | (i,x)::r,L=>match x.dec L with
  | some (y,L)=>match zD r L with
   | some (ys,L)=>some ((i,y)::ys,L)
   | none=>none
  | none=>none
def SO.dec (old:Option PO):SO→List TV→Option (Option PO×List TV)
 | .box l,L=>match decL SV.dec l L with
  | some (ys,L)=>some (some (.box ys),L)
  | none=>none
 | .arr t,L=>match decT (.list t) L with
  | some (xs,L)=>some (some (.arr t xs),L)
  | none=>none
 | .frz t,L=>match decT (.list t) L with
  | some (xs,L)=>some (some (.frz t xs),L)
  | none=>none
 | .tab t vid,L=>match decT (.list (.list t)) L with
  | some (xss,L)=>some (some (.tab t xss vid),L)
  | none=>none
 | .lp st,L=>match old with
  | some (.lp D _)=>some (some (.lp D st),L)
  | _=>none
 | .flat n t,L=>match decT (.list t) L with
  | some (xs,L)=>some (some (.flat n t xs),L)
  | none=>none
 | .cel n l,L=>match decL SV.dec l L with
  | some (ys,L)=>some (some (.cel n ys),L)
  | none=>none
 | .bld T e,L=>match decT .str L with
  | some (s,L)=>some (some (.bld T e s),L)
  | none=>none
 | .opt l,L=>match decT .bool L with
  | some (b,L)=>match decL SV.dec l L with
   | some (ys,L)=>some (some (.opt b ys),L)
   | none=>none
  | none=>none
 | .us,L=>some (none,L)
 | .gone,L=>some (some .gone,L)
def wJ (H:PH):List (Nat×SO)→List TV→Option (PH×List TV)
 | [],L=>some ([],L)
 | (i,x)::r,L=>match x.dec (lk H i) L with
  | some (some y,L)=>match wJ H r L with
   | some (ys,L)=>some ((i,y)::ys,L)
   | none=>none
  | _=>none
def wI:List SO→Nat→List TV→Option (PH×List TV)
 | [],_,L=>some ([],L)
 | x::r,i,L=>match x.dec none L with
  | some (o,L)=>match wI r (i+1) L with
   | some (ys,L)=>match o with
    | some y=>some ((i,y)::ys,L)
    | none=>some (ys,L)
   | none=>none
  | none=>none
def Skel.dec (k:Skel) (st:PS) (L:List TV):Option PS:=match zD k.slots L with
 | some (e,L)=>match wJ st.hp k.objs L with
  | some (h1,L)=>match wI k.news st.nx L with
   | some (h2,[])=>some ⟨e++(k.kill.map fun i=>(i,.any))++st.env,h2++h1++st.hp,st.nx+k.news.length⟩
   | _=>none
  | none=>none
 | none=>none

structure PSpec where
 a:List SR
 o:List SO
 k:Skel
 fo:List Nat
 m:Tup (SRs.tys a++tG o)→Option (Tup k.tys)
def stOf (a:List SR) (o:List SO) (x:Tup (SRs.tys a++tG o)):Option (List RV×PH):=match decL SR.dec a (Tup.toL _ x) with
 | some (rs,L)=>match wI o 1 L with
  | some (h,[])=>some (rs,h)
  | _=>none
 | none=>none
def PSpec.st (s:PSpec) (x:Tup (SRs.tys s.a++tG s.o)):Option (List RV×PH):=stOf s.a s.o x
def bxs:List Nat→PH→PH
 | [],h=>h
 | i::r,h=>match lk h i with
  | some (.opt _ l)=>bxs r ((i,.box l)::h)
  | _=>bxs r h
def PSpec.aft (s:PSpec) (r:Tup s.k.tys):Option (PV×PH):=match zD s.k.slots (Tup.toL _ r) with
 | some ([(_,pv)],L)=>match wJ [] s.k.objs L with
  | some (h1,L)=>match wI s.k.news (s.o.length+1) L with
   | some (h2,[])=>some (pv,h2++h1)
   | _=>none
  | none=>none
 | _=>none
def PSpecOK (P:Program) (f:FuncId) (s:PSpec):Prop:=(∀ (args:Array Value) (w:World),(callFunc f args).run P w=.ok (.enter f args) w) ∧
 ∀ x r,s.m x=some r→∀ rs h pv δ,s.st x=some (rs,h)→s.aft r=some (pv,δ)→∀ (G:Cells) (w0:World) (B:Nat) (S:Cells) (w:World) (η:Eta) (vs:List Value),HInv B η (h++[(0,.frm G w0)]) S w →
  (∀ i,s.o.length+1≤i→η i=none)→All2 (RM S w η) rs vs →
  Calls P f vs.toArray w fun en w'=>∃ v S' η',en=.returned v∧Grow B S w S' w'∧Pre η η'∧(∀ i,s.o.length+1+s.k.news.length≤i→η' i=none)∧HInv B η' (δ++(bxs s.fo h++[(0,.frm G w0)])) S' w'∧PM S' w' η' pv v

inductive TK where
 | int (k:IntKind)
 | bool
 | str
 | slice (el:TypeId) (bts:Nat)
 | struct (fs:List (Nat×TypeId×Nat))
 | array (n:Nat) (el:TypeId)
 | ptr (el:TypeId)
 | fn
 | mapf
 | ifc
 | other
structure TI where
 agg:Bool
 size:Nat
 zero:List CV
 ty:Option Ty
 kind:TK
structure Spec where
 args:List Ty
 res:List Ty
 m:Tup (args.map .d)→Option (Tup (res.map .d))
structure SoSpec where
 f:FuncId
 g:FuncId
 t:Ty
 m:List t.den→Option (List t.den)
structure So1 where
 f:FuncId
 t:Ty
 ret:Bool
 m:List t.den→Option (List t.den)
structure OwSpec where
 args:List Ty
 t:Ty
 m:Tup (args.map .d)→Option (List t.den)
inductive Ext where
 | atoi (m:List UInt8→Option Int)
 | wstr (TB e:TypeId)
 | wbyt (TB e:TypeId)
 | stri (TB e:TypeId)
 | grow (t:Ty)
 | isE (T It:TypeId)
structure Tabs where
 ty:List (TypeId×TI)
 fn:List (FuncId×Func)
 sp:List (FuncId×Spec)
 own:List Nat
 so:List SoSpec
 eqs:List (TypeId×List Ty)
 so1:List So1
 mps:List (FuncId×List (Int×Nat))
 ow:List (FuncId×OwSpec)
 bt:List (TypeId×TypeId×TypeId)
 ex:List (FuncId×Ext)
 pp:List (FuncId×PSpec)

structure TIok (P:Program) (id:TypeId) (ti:TI):Prop where
 agg:∀ w,(isAgg id).run P w=.ok ti.agg w
 size:∀ w,(Go.sizeOf id).run P w=.ok ti.size w
 zero:∃ z:Value,(∀ w,(zeroValue id).run P w=.ok z w)∧(∃ cs:List Value,z.cells=cs.toArray∧(∀ S w η,All2 (CM S w η) ti.zero cs))∧∀ T,ti.ty=some T→z.cells=T.zero.toArray
 ty:∀ T,ti.ty=some T→T.agg=ti.agg∧T.size=ti.size
 kind:match ti.kind with
  | .int k=>∀ w,(underlying id).run P w=.ok (.int k) w
  | .bool=>∀ w,(underlying id).run P w=.ok .bool w
  | .str=>∀ w,(underlying id).run P w=.ok .string w
  | .slice el bts=>P.underlying id=some (.slice el)∧0<bts∧∃ i z,P.info? el=some i∧i.zero=some z∧i.bytes=bts∧(∀ w,(zeroValue el).run P w=.ok z w)∧∀ w,(Go.sizeOf el).run P w=.ok i.size w
  | .struct fs=>∃ farr:Array Field,(∀ w,(underlying id).run P w=.ok (.struct farr) w)∧farr.toList.map (fun f=>(f.offset,f.type))=fs.map (fun f=>(f.1,f.2.1)) ∧
    ∀ w,(farr.mapM fun f=>do pure (f.offset,← Go.sizeOf f.type):Sem (Array (Nat×Nat))).run P w=.ok (fs.map fun f=>(f.1,f.2.2)).toArray w
  | .array n el=>∀ w,(underlying id).run P w=.ok (.array n el) w
  | .ptr el=>∀ w,(underlying id).run P w=.ok (.pointer el) w
  | .fn=>∃ a b c,∀ w,(underlying id).run P w=.ok (.func a b c) w
  | .mapf=>∃ kt el,(∀ w,(underlying id).run P w=.ok (.map kt el) w)∧(∀ w,(underlying kt).run P w=.ok (.int .i64) w)∧∀ w,(zeroValue el).run P w=.ok .nilFunc w
  | .ifc=>∃ ms,∀ w,(underlying id).run P w=.ok (.interface ms) w
  | .other=>True

def pvOf (t:Ty) (x:t.den):PV:=.r (t.rv x)
def rvs:(l:List Ty)→Tup (l.map .d)→List RV
 | [],_=>[]
 | [t],x=>[t.rv x]
 | t::u::r,x=>t.rv x.1::rvs (u::r) x.2
def dB:List RV→PV
 | [x]=>.r x
 | l=>.t l
def SpecOK (P:Program) (f:FuncId) (s:Spec):Prop:=∀ x r,s.m x=some r→∀ S w η vs,InW S w→All2 (RM S w η) (rvs s.args x) vs →
 Calls P f vs.toArray w fun en w'=>∃ v S',en=.returned v∧Grow w.heap.size S w S' w'∧PM S' w' η (dB (rvs s.res r)) v

def kindV:Ty→Value→Prop
 | .int k,v=>∃ n,v=.int k n
 | .bool,v=>∃ b,v=.bool b
 | .str,v=>∃ s,v=.string s
 | _,_=>False
def eqV:Value→Value→Bool
 | .int _ a,.int _ b=>decide (a=b)
 | .bool a,.bool b=>decide (a=b)
 | .string a,.string b=>decide (a.data.toList=b.data.toList)
 | _,_=>false
def kG:List Value→List Value→Bool
 | [],[]=>true
 | [a],[b]=>eqV a b
 | a::r,b::s=>eqV a b&&kG r s
 | _,_=>false
def EqOK (P:Program) (t:TypeId) (ks:List Ty):Prop:=P.eqGuardType P.depth t=false ∧
 ∀ vs us,All2 kindV ks vs→All2 kindV ks us→∀ w,(Op.equalIn 10000 t (.agg vs.toArray) (.agg us.toArray)).run P w=.ok (kG vs us) w
def SortOK (P:Program) (s:SoSpec):Prop:=(∀ (args:Array Value) (w:World),(callFunc s.f args).run P w=.ok (.enter s.f args) w) ∧
 ∀ xs ys,s.m xs=some ys→∀ (B:Nat) (S F:Cells) (w:World) (u:Value),B≤w.heap.size→InW S w→(∀ b o,F b o→B≤b∧b<w.heap.size∧¬ S b o)→ArrH F S w u s.t xs →
  Calls P s.f #[u,.func (.func s.g) #[] #[]] w fun en w'=>en=.returned (.tuple #[])∧Grow B S w S w'∧ArrH F S w' u s.t ys ∧
   (∀ b o,b<w.heap.size→¬ F b o→w'.cell? ⟨b,o,none⟩=w.cell? ⟨b,o,none⟩∧w'.frozen? ⟨b,o,none⟩=w.frozen? ⟨b,o,none⟩)∧∀ b,b<w.heap.size→(∀ o,¬ F b o)→w'.heap[b]? = w.heap[b]?
def So1OK (P:Program) (s:So1):Prop:=(∀ (args:Array Value) (w:World),(callFunc s.f args).run P w=.ok (.enter s.f args) w) ∧
 ∀ xs ys,s.m xs=some ys→∀ (B:Nat) (S F:Cells) (w:World) (u:Value),B≤w.heap.size→InLt S w→(∀ b o,F b o→B≤b∧b<w.heap.size∧¬ S b o)→ArrH F S w u s.t xs →
  Calls P s.f #[u] w fun en w'=>∃ v u',en=.returned v∧(s.ret=true→v=u')∧(s.ret=false→v=.tuple #[]∧u'=u)∧u'.oneCell'=true∧Grow B S w S w'∧ArrH F S w' u' s.t ys ∧
   (∀ b o,b<w.heap.size→¬ F b o→w'.cell? ⟨b,o,none⟩=w.cell? ⟨b,o,none⟩∧w'.frozen? ⟨b,o,none⟩=w.frozen? ⟨b,o,none⟩)∧∀ b,b<w.heap.size→(∀ o,¬ F b o)→w'.heap[b]? = w.heap[b]?
def MapOK (P:Program) (f:FuncId) (es:List (Int×Nat)):Prop:=(∀ (args:Array Value) (w:World),(callFunc f args).run P w=.ok (.enter f args) w) ∧
 ∀ (S:Cells) (w:World),InW S w→Calls P f #[] w fun en w'=>∃ r arr clock S',en=.returned (.map (some r))∧Grow w.heap.size S w S' w'∧(w.heap.size≤r∧r<w'.heap.size∧∀ o,¬ S' r o)∧w'.heap[r]? = some (.map arr clock) ∧
  arr.toList.map (fun e=>(e.key,e.val))=es.map fun p=>(Value.int .i64 p.1,Value.func (.func p.2) #[] #[])
def OwnOK (P:Program) (f:FuncId) (s:OwSpec):Prop:=(∀ (args:Array Value) (w:World),(callFunc f args).run P w=.ok (.enter f args) w) ∧
 ∀ x ys,s.m x=some ys→∀ S w η vs,InW S w→All2 (RM S w η) (rvs s.args x) vs→Calls P f vs.toArray w fun en w'=>∃ u S' F,en=.returned u∧u.oneCell'=true∧Grow w.heap.size S w S' w'∧ArrH F S' w' u s.t ys ∧
  ∀ b o,F b o→w.heap.size≤b∧b<w'.heap.size∧¬ S' b o
structure BltOK (P:Program) (T TB e:TypeId):Prop where
 ne:T≠e
 size:(P.info? TB).map (·.size)=some 2
 lies:liesAt P P.depth T (2 / P.cellsOf T) 0 TB 1=true
 zero:∃ z:Value,(∀ w,(zeroValue T).run P w=.ok z w)∧z.cells=#[.pointer none,.slice none 0 0]
 fld0:∀ b w,(Instr.fieldAt T (.pointer (some ⟨b,0,none⟩)) 0).run P w=.ok (.pointer (some ⟨b,0,none⟩)) w
structure BldChg (w w':World) (b:Nat) (u u':Value):Prop where
 os:w'.os=w.os
 tape:w'.tape=w.tape
 output:w'.output=w.output
 size:w.heap.size≤w'.heap.size
 lk:LK w w'
 block:∀ k,k<w.heap.size→k≠b→u.ownBlock≠some k→w'.heap[k]? = w.heap[k]?
 own:∀ k,u'.ownBlock=some k→u.ownBlock=some k∨w.heap.size≤k
def ExtOK (P:Program) (f:FuncId) (x:Ext):Prop:=(∀ (args:Array Value) (w:World),(callFunc f args).run P w=.ok (.enter f args) w)∧match x with
 | .atoi m=>∀ s n,m s=some n→IntKind.i64.has n∧∀ S w,InW S w→Calls P f #[.string ⟨s.toArray⟩] w fun en w'=>∃ S',en=.returned (.tuple #[.int .i64 n,.nilIface])∧Grow w.heap.size S w S' w'
 | .wstr TB e=>∀ T,BltOK P T TB e→∀ b u s t w,BldAt w b T e u s→s.length+t.length≤140737488355328→Calls P f #[.pointer (some ⟨b,0,none⟩),.string ⟨t.toArray⟩] w fun en w'=>∃ u',en=.returned (.tuple #[.int .i64 t.length,.nilIface])∧BldAt w' b T e u' (s++t)∧BldChg w w' b u u'
 | .wbyt TB e=>∀ T,BltOK P T TB e→∀ b u s (t:UInt8) w,BldAt w b T e u s→s.length+1≤140737488355328→Calls P f #[.pointer (some ⟨b,0,none⟩),.int .u8 t.toNat] w fun en w'=>∃ u',en=.returned .nilIface∧BldAt w' b T e u' (s++[t])∧BldChg w w' b u u'
 | .stri TB e=>∀ T,BltOK P T TB e→∀ b u s w,BldAt w b T e u s→Calls P f #[.pointer (some ⟨b,0,none⟩)] w fun en w'=>en=.returned (.string ⟨s.toArray⟩)∧BldChg w w' b u (.slice none 0 0)
 | .grow t=>∀ n:Int,0≤n→n≤1000000→∀ S w,InW S w→Calls P f #[.slice none 0 0,.int .i64 n] w fun en w'=>∃ u S' F,en=.returned u∧u.oneCell'=true∧Grow w.heap.size S w S' w'∧ArrH F S' w' u t []∧∀ b o,F b o→w.heap.size≤b∧b<w'.heap.size∧¬ S' b o
 | .isE T It=>(∀ a w,Calls P f #[.iface T (.pointer (some a)),.iface T (.pointer (some a))] w fun en w'=>en=.returned (.bool true)∧w'=w)∧(∀ v xT w,(Instr.typeAssert (.iface T v) xT It true).run P w=.ok (.tuple #[.iface T v,.bool true]) w)∧∀ xT w,(Instr.typeAssert .nilIface xT It true).run P w=.ok (.tuple #[.nilIface,.bool false]) w
structure TabOK (P:Program) (Γ:Tabs):Prop where
 ty:∀ id ti,lk Γ.ty id=some ti→TIok P id ti
 fn:∀ f fn,lk Γ.fn f=some fn→P.funcs[f]? = some fn∧∀ (args:Array Value) (w:World),(callFunc f args).run P w=.ok (.enter f args) w
 sp:∀ f s,lk Γ.sp f=some s→SpecOK P f s
 en:∀ f s,lk Γ.sp f=some s→∀ (args:Array Value) (w:World),(callFunc f args).run P w=.ok (.enter f args) w
 mixed:P.follows .mixedOrders=true
 so:∀ s,s∈Γ.so→SortOK P s
 eqs:∀ t ks,lk Γ.eqs t=some ks→EqOK P t ks
 so1:∀ s,s∈Γ.so1→So1OK P s
 mps:∀ f es,lk Γ.mps f=some es→MapOK P f es
 ow:∀ f s,lk Γ.ow f=some s→OwnOK P f s
 bt:∀ T x,lk Γ.bt T=some x→BltOK P T x.1 x.2
 ex:∀ f x,lk Γ.ex f=some x→ExtOK P f x
 pp:∀ f s,lk Γ.pp f=some s→PSpecOK P f s

def intOk:IntKind→Int→Bool
 | .i64,.ofNat m=>Nat.ble m 9223372036854775807
 | .i64,.negSucc m=>Nat.blt m 9223372036854775808
 | .u8,.ofNat m=>Nat.ble m 255
 | .u64,.ofNat m=>Nat.ble m 18446744073709551615
 | .u32,.ofNat m=>Nat.ble m 4294967295
 | .i32,.ofNat m=>Nat.ble m 2147483647
 | .i32,.negSucc m=>Nat.blt m 2147483648
 | _,_=>false
theorem bJ {x:Int}:IntKind.i64.has x↔-9223372036854775808≤x∧x≤9223372036854775807:=by
 unfold IntKind.has;rw [show IntKind.i64.min=-9223372036854775808 by decide,show IntKind.i64.max=9223372036854775807 by decide]
theorem has_u8 {x:Int}:IntKind.u8.has x↔0≤x∧x≤255:=by
 unfold IntKind.has;rw [show IntKind.u8.min=0 by decide,show IntKind.u8.max=255 by decide]
theorem has_u64 {x:Int}:IntKind.u64.has x↔0≤x∧x≤18446744073709551615:=by
 unfold IntKind.has;rw [show IntKind.u64.min=0 by decide,show IntKind.u64.max=18446744073709551615 by decide]
theorem has_u32 {x:Int}:IntKind.u32.has x↔0≤x∧x≤4294967295:=by
 unfold IntKind.has;rw [show IntKind.u32.min=0 by decide,show IntKind.u32.max=4294967295 by decide]
theorem has_i32 {x:Int}:IntKind.i32.has x↔-2147483648≤x∧x≤2147483647:=by
 unfold IntKind.has;rw [show IntKind.i32.min=-2147483648 by decide,show IntKind.i32.max=2147483647 by decide]
theorem intOk_has {k:IntKind} {n:Int} (h:intOk k n=true):k.has n:=by
 cases k<;>cases n<;>simp [intOk,Nat.blt] at h
 ·rw [has_i32,Int.ofNat_eq_natCast];omega
 ·rw [has_i32];omega
 ·rw [bJ,Int.ofNat_eq_natCast];omega
 ·rw [bJ];omega
 ·rw [has_u8,Int.ofNat_eq_natCast];omega
 ·rw [has_u32,Int.ofNat_eq_natCast];omega
 ·rw [has_u64,Int.ofNat_eq_natCast];omega
theorem jC (k:IntKind) (n:Int):k.has (k.wrap n):=by
 unfold IntKind.has
 cases k
 all_goals simp only [IntKind.min,IntKind.max,IntKind.bits,IntKind.signed,if_true,Bool.false_eq_true,if_false]
 ·simp [IntKind.wrap,IntKind.signed,IntKind.bits];(first | omega | (split<;>omega))
 ·simp [IntKind.wrap,IntKind.signed,IntKind.bits];(first | omega | (split<;>omega))
 ·rw [IntKind.wrap_i32];omega
 ·rw [IntKind.wrap_i64];omega
 ·rw [IntKind.wrap_u8];omega
 ·simp [IntKind.wrap,IntKind.signed,IntKind.bits];(first | omega | (split<;>omega))
 ·rw [IntKind.wrap_u32];omega
 ·rw [IntKind.wrap_u64];omega
theorem has_wrap {k:IntKind} {n:Int} (h:k.has n):k.wrap n=n:=by
 unfold IntKind.has at h
 cases k
 all_goals simp only [IntKind.min,IntKind.max,IntKind.bits,IntKind.signed,if_true,Bool.false_eq_true,if_false] at h
 ·exact IntWalk.i8_in _ (by omega)
 ·exact IntWalk.i16_in _ (by omega)
 ·exact IntWalk.i32_in _ (by omega)
 ·exact IntWalk.i64_in _ (by omega)
 ·exact IntWalk.u8_in _ (by omega)
 ·exact IntWalk.u16_in _ (by omega)
 ·exact IntWalk.u32_in _ (by omega)
 ·exact IntWalk.u64_in _ (by omega)

def litCV:Value→Option CV
 | .int k n=>match intOk k n with | true=>some (.d (.int k) n) | false=>none
 | .bool b=>some (.d .bool b)
 | .string s=>match Nat.ble s.data.toList.length 1000000 with | true=>some (.d .str s.data.toList) | false=>none
 | .slice none 0 0=>some (.l .nilS)
 | .pointer none=>some (.l .nilP)
 | .nilFunc=>some (.l .nilF)
 | .nilIface=>some (.l .nilI)
 | .map none=>some (.l .nilK)
 | _=>none
def litCVs:List Value→Option (List CV)
 | []=>some []
 | v::r=>match litCV v,litCVs r with
  | some c,some l=>some (c::l)
  | _,_=>none
def litPV:Value→Option PV
 | .agg cs=>match litCVs cs.toList with
  | some l=>some (.s l)
  | none=>none
 | v=>match litCV v with
  | some c=>some (.c c)
  | none=>none
theorem litCV_sound {S:Cells} {w:World} {η:Eta} {v:Value} {c:CV} (h:litCV v=some c):CM S w η c v:=by
 unfold litCV at h
 split at h
 ·split at h
  ·rename_i h1;cases h;exact ⟨rfl,VRep.int.2 ⟨rfl,intOk_has h1⟩⟩
  ·cases h
 ·cases h;exact ⟨rfl,VRep.bool.2 rfl⟩
 ·split at h
  ·rename_i s h1
   cases h
   refine ⟨rfl,VRep.str.2 ⟨by simp only [Array.toArray_toList],?_⟩⟩
   have:=nL h1
   simp only [maxLen];omega
  ·cases h
 all_goals first | (cases h;rfl) | cases h
theorem litCVs_sound {S:Cells} {w:World} {η:Eta}:∀ {vs:List Value} {l:List CV},litCVs vs=some l→All2 (CM S w η) l vs
 | [],_,h=>by cases h;exact .nil
 | v::r,l,h=>by
  unfold litCVs at h
  split at h
  ·rename_i c l' h1 h2
   cases h;exact .cons (litCV_sound h1) (litCVs_sound h2)
  ·cases h
theorem litPV_sound {S:Cells} {w:World} {η:Eta} {v:Value} {pv:PV} (h:litPV v=some pv):PM S w η pv v:=by
 unfold litPV at h
 split at h
 ·split at h
  ·rename_i l h1
   cases h;exact ⟨_,by simp,litCVs_sound h1⟩
  ·cases h
 ·split at h
  ·rename_i c h1
   cases h;exact litCV_sound h1
  ·cases h

abbrev Ctx:=List (Nat×Bool)
def atp:Ev→Nat→Option (Nat×PV)
 | [],_=>none
 | x::r,k=>match Nat.beq r.length k with | true=>some x | false=>atp r k
def lkp:Ev→Nat→Option (PV×Nat)
 | [],_=>none
 | (k,v)::r,i=>match Nat.beq k i with | true=>some (v,r.length) | false=>lkp r i
theorem lkp_lk:∀ {e:Ev} {i k:Nat} {v:PV},lkp e i=some (v,k)→lk e i=some v∧atp e k=some (i,v)∧k<e.length
 | [],_,_,_,h=>by cases h
 | (j,u)::r,i,k,v,h=>by
  unfold lkp at h
  unfold lk atp
  cases hb:Nat.beq j i with
  | true =>
   rw [hb] at h
   cases h
   refine ⟨rfl,?_,by simp⟩
   rw [Nat.beq_refl]
   simp only [nB hb]
  | false =>
   rw [hb] at h
   obtain ⟨h1,h2,h3⟩:=lkp_lk h
   refine ⟨h1,?_,by simp;omega⟩
   have:Nat.beq r.length k=false:=by
    cases hk:Nat.beq r.length k
    ·rfl
    ·have:=nB hk;omega
   rw [this];exact h2
theorem atp_lt:∀ {e:Ev} {k:Nat} {x:Nat×PV},atp e k=some x→k<e.length
 | [],_,_,h=>by cases h
 | y::r,k,x,h=>by
  unfold atp at h
  cases hb:Nat.beq r.length k with
  | true=>have:=nB hb;simp;omega
  | false=>rw [hb] at h;have:=atp_lt h;simp;omega
theorem atp_cons {e:Ev} {x:Nat×PV} {k:Nat} (h:k<e.length):atp (x::e) k=atp e k:=by
 have:Nat.beq e.length k=false:=by
  cases hk:Nat.beq e.length k
  ·rfl
  ·have:=nB hk;omega
 show (match Nat.beq e.length k with | true=>some x | false=>atp e k)=_
 rw [this]
theorem atp_top (e:Ev) (x:Nat×PV):atp (x::e) e.length=some x:=by
 show (match Nat.beq e.length e.length with | true=>some x | false=>_)=_
 rw [Nat.beq_refl]

def bitOf (e:Ev) (p:Nat×Bool):Prop:=∃ s b,(atp e p.1=some (s,.c (.d .bool b))∨∃ c b',atp e p.1=some (s,.g c b' (.c (.d .bool b)))∧b'=true)∧b=p.2
def CtxH (e:Ev) (ctx:Ctx):Prop:=∀ p∈ctx,bitOf e p
def Wf (e:Ev):Prop:=∀ k t c b v,atp e k=some (t,.g c b v)→(∀ p∈c,p.1<k)∧(b=true↔CtxH e c)
theorem bitOf_cons {e:Ev} {x:Nat×PV} {p:Nat×Bool} (h:p.1<e.length):bitOf (x::e) p↔bitOf e p:=by
 unfold bitOf;rw [atp_cons h]
theorem CtxH_cons {e:Ev} {x:Nat×PV} {c:Ctx} (h:∀ p∈c,p.1<e.length):CtxH (x::e) c↔CtxH e c :=
 ⟨fun hh p hp=>(bitOf_cons (h p hp)).1 (hh p hp),fun hh p hp=>(bitOf_cons (h p hp)).2 (hh p hp)⟩
theorem atp_cases {e:Ev} {x:Nat×PV} {k:Nat} {y:Nat×PV} (h:atp (x::e) k=some y):(k=e.length∧y=x)∨(k<e.length∧atp e k=some y):=by
 have hl:=atp_lt h
 simp only [List.length_cons] at hl
 by_cases hk:k=e.length
 ·subst hk
  rw [atp_top] at h
  cases h;exact .inl ⟨rfl,rfl⟩
 ·have:k<e.length:=by omega
  rw [atp_cons this] at h
  exact .inr ⟨this,h⟩
theorem Wf.nil:Wf []:=fun k t c b v h=>by cases h
theorem Wf.cons {e:Ev} {t:Nat} {pv:PV} (h:Wf e) (hp:∀ c b v,pv=.g c b v→(∀ p∈c,p.1<e.length)∧(b=true↔CtxH e c)):Wf ((t,pv)::e):=by
 intro k t' c b v hk
 rcases atp_cases hk with ⟨rfl,h2⟩ | ⟨h1,h2⟩
 ·cases h2
  obtain ⟨g1,g2⟩:=hp c b v rfl
  exact ⟨g1,g2.trans (CtxH_cons g1).symm⟩
 ·obtain ⟨g1,g2⟩:=h k t' c b v h2
  refine ⟨g1,g2.trans (CtxH_cons fun p hp=>?_).symm⟩
  have:=g1 p hp;omega
theorem Wf.consN {e:Ev} {t:Nat} {pv:PV} (h:Wf e) (hp:∀ c b v,pv≠.g c b v):Wf ((t,pv)::e):=h.cons fun c b v he=>absurd he (hp c b v)
theorem Wf.old {e:Ev} {i:Nat} {c:Ctx} {b:Bool} {v:PV} (h:Wf e) (hl:lk e i=some (.g c b v)):(∀ p∈c,p.1<e.length)∧(b=true↔CtxH e c):=by
 have:∃ k,lkp e i=some (.g c b v,k):=by
  clear h
  induction e with
  | nil=>cases hl
  | cons x r ih =>
   obtain ⟨j,u⟩:=x
   unfold lk at hl
   unfold lkp
   cases hb:Nat.beq j i with
   | true=>rw [hb] at hl;cases hl;exact ⟨_,rfl⟩
   | false=>rw [hb] at hl;exact ih hl
 obtain ⟨k,hk⟩:=this
 obtain ⟨_,h2,h3⟩:=lkp_lk hk
 obtain ⟨g1,g2⟩:=h k i c b v h2
 exact ⟨fun p hp=>Nat.lt_trans (g1 p hp) h3,g2⟩

def eqB:Bool→Bool→Bool
 | true,true=>true
 | false,false=>true
 | _,_=>false
def memC:Ctx→Nat×Bool→Bool
 | [],_=>false
 | (k,w)::r,p=>match Nat.beq k p.1&&eqB w p.2 with | true=>true | false=>memC r p
def subC:Ctx→Ctx→Bool
 | [],_=>true
 | p::r,ctx=>memC ctx p&&subC r ctx
theorem memC_mem:∀ {c:Ctx} {p:Nat×Bool},memC c p=true→p∈c
 | [],_,h=>by cases h
 | (k,w)::r,p,h=>by
  unfold memC at h
  split at h
  ·rename_i hb
   simp only [bA] at hb
   have h1:=nB hb.1
   have h2:w=p.2:=by
    have:=hb.2
    cases w<;>cases hp:p.2<;>rw [hp] at this<;>first | rfl | cases this
   obtain ⟨a,b⟩:=p
   simp only at h1 h2
   subst h1;subst h2
   exact List.mem_cons_self
  ·exact List.mem_cons_of_mem _ (memC_mem h)
theorem subC_sub {c ctx:Ctx} (h:subC c ctx=true):∀ p∈c,p∈ctx:=by
 induction c with
 | nil=>intro p hp;cases hp
 | cons q r ih =>
  simp only [subC,bA] at h
  intro p hp
  rcases List.mem_cons.1 hp with rfl | hp
  ·exact memC_mem h.1
  ·exact ih h.2 p hp

def PV.isG:PV→Bool
 | .g _ _ _=>true
 | _=>false
def ev (e:Ev) (ctx:Ctx):Operand→Option PV
 | .tmp t=>match lk e t with
  | some (.g c b v)=>match subC c ctx with
   | true=>some v
   | false=>some (.g c b v)
  | r=>r
 | .const v=>litPV v
 | .func f=>some (.c (.f f [] []))
 | .global _=>none
theorem opReads_mem {o:Oper} {t:Nat} (h:Operand.tmp t∈o.op.operands.toList):zC (rA o) t=true:=by
 rw [xJ]
 exact List.mem_filterMap.2 ⟨_,h,rfl⟩
theorem cA {o:Oper} {e:Ev} {ctx:Ctx} {x:Operand} {pv:PV} {S:Cells} {w:World} {η:Eta} {a:Act} (hw:Wf e) (hc:CtxH e ctx) (h:ev e ctx x=some pv) (hx:x∈o.op.operands.toList)
  (ho:En.Only (lk e) (rA o) S w η a.tmps):PM S w η pv (a.eval x):=by
 cases x with
 | tmp t =>
  have hm:=opReads_mem hx
  simp only [ev] at h
  split at h
  ·rename_i c b v hl
   have hg:=ho t _ hm hl
   cases hs:subC c ctx with
   | true=>rw [hs] at h;cases h;exact hg.1 ((hw.old hl).2.2 fun p hp=>hc p (subC_sub hs p hp))
   | false=>rw [hs] at h;cases h;exact hg
  ·exact ho t _ hm h
 | const v=>exact litPV_sound h
 | func f=>cases h;exact ⟨[],[],rfl,.nil,.nil⟩
 | global g=>cases h

abbrev Hl:=PH×Nat
structure RdR where
 T:Type
 m:Option T
 df:T
 pv:T→PV
 fl:Nat
 δ:T→PH
 nx:Nat
 t:Option (PLift (m=some df))

def RdR.OK (P:Program) (rd:Option Nat) (B:Nat) (o:Oper) (e:Ev) (hs:Hl) (R:RdR) (r:R.T):Prop :=
 match R.fl with
 | 0=>∀ S w η a,InW S w→En.Only (lk e) (rA o) S w η a.tmps→OpW P rd o a w (fun a' w'=>∃ v S',a'=a.put o.dst v∧Grow w.heap.size S w S' w'∧PM S' w' η (R.pv r) v)
 | 1=>∀ S w η a,HInv B η hs.1 S w→En.Only (lk e) (rA o) S w η a.tmps→OpW P rd o a w (fun a' w'=>∃ v S',a'=a.put o.dst v∧Grow w.heap.size S w S' w'∧PM S' w' η (R.pv r) v)
 | _=>∀ S w η a,HInv B η hs.1 S w→Free η hs.2 R.nx→En.Only (lk e) (rA o) S w η a.tmps→OpW P rd o a w (fun a' w'=>∃ v S' η',a'=a.put o.dst v∧Grow B S w S' w'∧Pre η η'∧Out η η' hs.2 R.nx∧HInv B η' (R.δ r++hs.1) S' w'∧PM S' w' η' (R.pv r) v)

abbrev OpF:=Tabs→Oper→Ev→Ctx→PH→Nat→Option RdR
def OpF.Sound (F:OpF):Prop:=∀ P Γ,TabOK P Γ→∀ rd B o e ctx H nx R,F Γ o e ctx H nx=some R→Wf e→CtxH e ctx→∀ r,R.m=some r→R.OK P rd B o e (H,nx) r
def OpF.or (F G:OpF):OpF:=fun Γ o e ctx H nx=>match F Γ o e ctx H nx with
 | some R=>some R
 | none=>G Γ o e ctx H nx
theorem OpF.Sound.or {F G:OpF} (hF:F.Sound) (hG:G.Sound):(F.or G).Sound:=by
 intro P Γ hΓ rd B o e ctx H nx R h
 unfold OpF.or at h
 split at h
 ·rename_i R' h1
  cases h
  exact hF P Γ hΓ rd B o e ctx H nx _ h1
 ·exact hG P Γ hΓ rd B o e ctx H nx _ h

def tot (pv:PV) (H:PH) (nx:Nat):RdR:=⟨Unit,some (),(),fun _=>pv,0,fun _=>[],nx,some ⟨rfl⟩⟩
def par {T:Type} (m:Option T) (df:T) (pv:T→PV) (H:PH) (nx:Nat):RdR:=⟨T,m,df,pv,0,fun _=>[],nx,none⟩
def rdr {T:Type} (m:Option T) (df:T) (pv:T→PV) (H:PH) (nx:Nat):RdR:=⟨T,m,df,pv,1,fun _=>[],nx,none⟩
def rdu (pv:PV) (H:PH) (nx:Nat):RdR:=⟨Unit,some (),(),fun _=>pv,1,fun _=>[],nx,some ⟨rfl⟩⟩

section
variable {P:Program} {rd:Option Nat} {B:Nat} {o:Oper} {e:Ev} {hs:Hl}
theorem ok_tot {pv:PV} {H:PH} {nx:Nat} (hd:∀ c,o.op≠.defer c) (h:∀ S w η (a:Act),InW S w→En.Only (lk e) (rA o) S w η a.tmps→∃ v,(execOp a.eval o).run P w=.ok (.value v) w∧PM S w η pv v) (r:Unit) :
  RdR.OK P rd B o e hs (tot pv H nx) r:=fun S w η a hi ho=>by
 obtain ⟨v,h1,h2⟩:=h S w η a hi ho
 exact .value hd h1 ⟨v,S,rfl,Grow.refl hi,h2⟩
theorem ok_par {T:Type} {m:Option T} {df:T} {pv:T→PV} {H:PH} {nx:Nat} {r:T} (hd:∀ c,o.op≠.defer c) (h:∀ S w η (a:Act),InW S w→En.Only (lk e) (rA o) S w η a.tmps→∃ v,(execOp a.eval o).run P w=.ok (.value v) w∧PM S w η (pv r) v) :
  RdR.OK P rd B o e hs (par m df pv H nx) r:=fun S w η a hi ho=>by
 obtain ⟨v,h1,h2⟩:=h S w η a hi ho
 exact .value hd h1 ⟨v,S,rfl,Grow.refl hi,h2⟩
end

def gA {α:Type} (xs:List α) (i:Int):Option α:=match decide (0≤i) with
 | true=>xs[i.toNat]?
 | false=>none
def divM (k:IntKind) (a b:Int):Option Int:=match decide (b=0) with
 | true=>none
 | false=>some (k.wrap (a.tdiv b))
def remM (a b:Int):Option Int:=match decide (b=0) with
 | true=>none
 | false=>some (a.tmod b)
def qI (k:IntKind) (a b:Int):Option Int:=match decide (b<0) with
 | true=>none
 | false=>some (k.wrap (a*2 ^ (min b.toNat k.bits)))
def rG (k:IntKind) (a b:Int):Option Int:=match decide (b<0) with
 | true=>none
 | false=>some (a.fdiv (2 ^ (min b.toNat k.bits)))
def uA (op:BinOp) (k:IntKind) (x y:Int):Int :=
 let a:=BitVec.ofInt k.bits x
 let b:=BitVec.ofInt k.bits y
 match op with
 | .and=>k.wrap (a &&& b).toNat
 | .or=>k.wrap (a ||| b).toNat
 | .xor=>k.wrap (a ^^^ b).toNat
 | _=>k.wrap (a &&& ~~~b).toNat
def cplM (k:IntKind) (x:Int):Int:=uA .xor k (if k.signed then -1 else k.max) x
def andM (a b:Bool):Bool:=a&&b
def orM (a b:Bool):Bool:=a||b
def notM (a:Bool):Bool:=!a
@[reducible] def ltM (x y:Int):Bool:=decide (x<y)
@[reducible] def leM (x y:Int):Bool:=decide (x≤y)
@[reducible] def eqM (x y:Int):Bool:=decide (x=y)
@[reducible] def eqbM (x y:Bool):Bool:=decide (x=y)
def negM (x:Int):Int:=-x
@[reducible] def lenM {α:Type} (xs:List α):Int:=(xs.length:Int)
theorem vB {α:Type} {xs:List α} {i:Int} {x:α} (h:gA xs i=some x):0≤i∧i<xs.length∧xs[i.toNat]? = some x:=by
 unfold gA at h
 split at h
 ·rename_i h0
  have h0:=oD h0
  have:=(gS.1 h).1
  exact ⟨h0,by omega,h⟩
 ·cases h

def _root_.Go.Abs.Ty.sub:(T:Ty)→T.den→Nat→(T':Ty)→Option T'.den
 | .one t,x,off,T'=>match off with
  | 0=>match yA T' (t':=.one t) x with
   | some y=>some y
   | none=>t.sub x 0 T'
  | _=>t.sub x off T'
 | .pair a b,x,off,T'=>match (match off with | 0=>yA T' (t':=.pair a b) x | _=>none) with
  | some y=>some y
  | none=>match Nat.blt off a.size with
   | true=>a.sub x.1 off T'
   | false=>b.sub x.2 (off-a.size) T'
 | .int k,x,off,T'=>match off with | 0=>yA T' (t':=.int k) x | _=>none
 | .bool,x,off,T'=>match off with | 0=>yA T' (t':=.bool) x | _=>none
 | .str,x,off,T'=>match off with | 0=>yA T' (t':=.str) x | _=>none
 | .list t,x,off,T'=>match off with | 0=>yA T' (t':=.list t) x | _=>none

section
variable {S:Cells} {w:World} {η:Eta}
theorem castT_rep {t t':Ty} {x:t'.den} {y:t.den} {cs:List Value} (h:yA t x=some y) (hv:Rep S w t' x cs):Rep S w t y cs:=by
 obtain ⟨rfl,rfl⟩:=kA h
 exact hv
theorem qJ {T T':Ty} {x:T.den} {y:T'.den} {off:Nat} {cs:List Value} (h:Rep S w T x cs) (hs:(match off with | 0=>yA T' x | _=>none)=some y):∃ c1 c2 c3,cs=c1++(c2++c3)∧c1.length=off∧Rep S w T' y c2:=by
 cases off with
 | zero=>exact ⟨[],cs,[],by simp,rfl,castT_rep hs h⟩
 | succ n=>cases hs
theorem rK:∀ {T:Ty} {x:T.den} {cs:List Value} {off:Nat} {T':Ty} {y:T'.den},Rep S w T x cs→T.sub x off T'=some y→∃ c1 c2 c3,cs=c1++(c2++c3)∧c1.length=off∧Rep S w T' y c2
 | .int k,x,cs,off,T',y,h,hs=>qJ h hs
 | .bool,x,cs,off,T',y,h,hs=>qJ h hs
 | .str,x,cs,off,T',y,h,hs=>qJ h hs
 | .list t,x,cs,off,T',y,h,hs=>qJ h hs
 | .one t,x,cs,off,T',y,h,hs=>by
  have h':Rep S w t x cs:=h
  unfold Ty.sub at hs
  cases off with
  | zero =>
   simp only at hs
   split at hs
   ·rename_i z hz;cases hs;exact ⟨[],cs,[],by simp,rfl,castT_rep hz h⟩
   ·exact rK h' hs
  | succ n=>exact rK h' hs
 | .pair a b,x,cs,off,T',y,h,hs=>by
  unfold Ty.sub at hs
  split at hs
  ·rename_i z hz;cases hs;exact qJ h hz
  ·obtain ⟨c1,c2,rfl,h1,h2⟩:=h
   split at hs
   ·obtain ⟨d1,d2,d3,rfl,e1,e2⟩:=rK h1 hs
    exact ⟨d1,d2,d3++c2,by simp,e1,e2⟩
   ·rename_i hb
    have hle:a.size≤off:=by
     cases Nat.lt_or_ge off a.size with
     | inl h =>
      have:Nat.blt off a.size=true:=Nat.ble_eq_true_of_le h
      rw [this] at hb;cases hb
     | inr h=>exact h
    obtain ⟨d1,d2,d3,rfl,e1,e2⟩:=rK h2 hs
    exact ⟨c1++d1,d2,d3,by simp,by simp [e1,h1.length];omega,e2⟩
theorem kJ {P:Program} {T:Ty} {x:T.den} {id:TypeId} {ti:TI} {b off:Nat} {cs:List Value} (hI:TIok P id ti) (hT:ti.ty=some T) (h:Rep S w T x cs)
  (hc:∀ j u,cs[j]? = some u→w.cell? ⟨b,off+j,none⟩=some u):(loadVar id ⟨b,off,none⟩).run P w=.ok (T.wrap cs) w:=by
 have hcells:(loadCells ⟨b,off,none⟩ cs.length).run P w=.ok cs.toArray w :=
  run_loadCells_list w ⟨b,off,none⟩ cs fun j v hj=>by rw [Addr.add_lit];exact hc j v hj
 obtain ⟨ha',hs'⟩:=hI.ty T hT
 unfold loadVar Ty.wrap
 have hag:=hI.agg w
 have hsz:=hI.size w
 rw [← ha'] at hag
 rw [← hs'] at hsz
 cases ha:T.agg
 ·have hl:=h.length
  rw [Ty.size_nonagg ha] at hl
  match cs,hl,hc with
  | [u],_,hc =>
   have h0:=hc 0 u rfl
   simp only [Nat.add_zero] at h0
   rw [ha] at hag
   simp [hag,h0]
 ·rw [ha] at hag
  rw [h.length] at hcells
  simp [hag,hsz,hcells]
theorem VRep.slice {T:Ty} {xs:List T.den} {v:Value} (h:VRep S w (.list T) xs v):∃ base cap,v=.slice base xs.length cap∧xs.length≤cap∧cap≤maxLen ∧
   (xs.length=0∨∃ b off,base=some ⟨b,off,none⟩∧∀ (i:Nat) (x:T.den),xs[i]? = some x →
    ∃ es,Rep S w T x es∧∀ j u,es[j]? = some u→S b (off+i*T.size+j)∧w.cell? ⟨b,off+i*T.size+j,none⟩=some u):=by
 obtain ⟨cs,⟨base,cap,rfl,h1,h2,h3⟩,rfl⟩:=h
 exact ⟨base,cap,rfl,h1,h2,h3⟩
end

theorem Act.ev_c (a:Act) (v:Value):a.eval (.const v)=v:=rfl

def binI (op:BinOp) (k:IntKind) (x y:Int) (H:PH) (nx:Nat):Option RdR :=
 match op with
 | .add=>some (tot (.c (.d (.int k) (k.wrap (x+y)))) H nx)
 | .sub=>some (tot (.c (.d (.int k) (k.wrap (x-y)))) H nx)
 | .mul=>some (tot (.c (.d (.int k) (k.wrap (x*y)))) H nx)
 | .quo=>some (par (divM k x y) 0 (fun v:Int=>.c (.d (.int k) v)) H nx)
 | .rem=>some (par (remM x y) 0 (fun v:Int=>.c (.d (.int k) v)) H nx)
 | .and=>some (tot (.c (.d (.int k) (uA .and k x y))) H nx)
 | .or=>some (tot (.c (.d (.int k) (uA .or k x y))) H nx)
 | .xor=>some (tot (.c (.d (.int k) (uA .xor k x y))) H nx)
 | .andNot=>some (tot (.c (.d (.int k) (uA .andNot k x y))) H nx)
 | .lss=>some (tot (.c (.d .bool (ltM x y))) H nx)
 | .leq=>some (tot (.c (.d .bool (leM x y))) H nx)
 | .gtr=>some (tot (.c (.d .bool (ltM y x))) H nx)
 | .geq=>some (tot (.c (.d .bool (leM y x))) H nx)
 | .eql=>some (tot (.c (.d .bool (eqM x y))) H nx)
 | .neq=>some (tot (.c (.d .bool (notM (eqM x y)))) H nx)
 | _=>none
def uG:TK→CV→Option Bool
 | .slice _ _,.l .nilS=>some true
 | .slice _ _,.n _ o=>some o.isNone
 | .ptr _,.l .nilP=>some true
 | .ptr _,.p _ _=>some false
 | .fn,.l .nilF=>some true
 | .fn,.f _ _ _=>some false
 | _,_=>none
def binR (Γ:Tabs) (op:BinOp) (t:TypeId) (a b:PV) (H:PH) (nx:Nat):Option RdR :=
 match a,b with
 | .r (.c (.d (.int k) x)),.r (.c (.d (.int k') y')) =>
  match yA (.int k) (t':=.int k') y' with
  | some y=>binI op k x y H nx
  | none=>none
 | .r (.c (.d .bool x)),.r (.c (.d .bool y))=>match op,lk Γ.ty t with
  | .eql,some ⟨_,_,_,_,.bool⟩=>some (tot (.c (.d .bool (eqbM x y))) H nx)
  | .neq,some ⟨_,_,_,_,.bool⟩=>some (tot (.c (.d .bool (notM (eqbM x y)))) H nx)
  | _,_=>none
 | .r (.c x),.r (.c (.l n))=>match op,lk Γ.ty t with
  | .eql,some ti=>match uG ti.kind (.l n),uG ti.kind x with
   | some true,some r=>some (tot (.c (.d .bool r)) H nx)
   | _,_=>none
  | .neq,some ti=>match uG ti.kind (.l n),uG ti.kind x with
   | some true,some r=>some (tot (.c (.d .bool (notM r))) H nx)
   | _,_=>none
  | _,_=>none
 | _,_=>none
def unR (op:UnOp) (a:PV) (H:PH) (nx:Nat):Option RdR :=
 match op,a with
 | .not,.r (.c (.d .bool x))=>some (tot (.c (.d .bool (notM x))) H nx)
 | .neg,.r (.c (.d (.int k) x))=>some (tot (.c (.d (.int k) (k.wrap (negM x)))) H nx)
 | .xor,.r (.c (.d (.int k) x))=>some (tot (.c (.d (.int k) (cplM k x))) H nx)
 | _,_=>none

section
variable {P:Program} {S:Cells} {w:World} {η:Eta} {Γ:Tabs} {H:PH} {nx:Nat}
theorem PM.int {k:IntKind} {x:Int} {v:Value}:PM S w η (.c (.d (.int k) x)) v↔v=.int k x∧k.has x :=
 ⟨fun h=>VRep.int.1 h.2,fun h=>⟨rfl,VRep.int.2 h⟩⟩
theorem PM.bool {x:Bool} {v:Value}:PM S w η (.c (.d .bool x)) v↔v=.bool x :=
 ⟨fun h=>VRep.bool.1 h.2,fun h=>⟨rfl,VRep.bool.2 h⟩⟩
theorem tmod_has {k:IntKind} {x y:Int} (hx:k.has x) (hy:k.has y) (h0:y≠0):k.has (x.tmod y):=by
 have h1:(x.tmod y).natAbs≤x.natAbs:=by
  rw [Int.natAbs_tmod];exact Nat.mod_le _ _
 have h2:0≤x→0≤x.tmod y:=fun h=>Int.tmod_nonneg _ h
 have h3:x≤0→x.tmod y≤0:=fun h=>by
  have:=Int.tmod_nonneg y (a:=-x) (by omega)
  rw [Int.neg_tmod] at this;omega
 unfold IntKind.has at *
 have hm:k.min≤0:=by cases k<;>decide
 have hM:0≤k.max:=by cases k<;>decide
 omega
theorem beq_dec (m n:Int):(m==n)=decide (m=n):=by
 by_cases h:m=n
 ·subst h;simp
 ·rw [beq_eq_false_iff_ne.2 h,dF h]

theorem fdiv_has {k:IntKind} {x:Int} (n:Nat) (hx:k.has x):k.has (x.fdiv (2 ^ n)):=by
 have hp:(1:Int)≤2 ^ n:=by
  have:0<(2:Int) ^ n:=Int.pow_pos (by omega)
  omega
 unfold IntKind.has at *
 have hm:k.min≤0:=by cases k<;>decide
 have hM:0≤k.max:=by cases k<;>decide
 rw [Int.fdiv_eq_ediv_of_nonneg _ (by omega)]
 constructor
 ·have h1:k.min≤x / 2 ^ n:=by
   rw [Int.le_ediv_iff_mul_le (by omega)]
   have:k.min*2 ^ n≤k.min*1:=Int.mul_le_mul_of_nonpos_left hm hp
   omega
  exact h1
 ·by_cases h:0≤x
  ·have:=Int.ediv_le_self (2 ^ n) h;omega
  ·have:=Int.ediv_neg_of_neg_of_pos (by omega:x<0) (by omega:(0:Int)<2 ^ n);omega

theorem binI_sound {op:BinOp} {k:IntKind} {x y:Int} {t:TypeId} {R:RdR} {vx vy:Value} (h:binI op k x y H nx=some R) (hx:PM S w η (.c (.d (.int k) x)) vx) (hy:PM S w η (.c (.d (.int k) y)) vy) (r:R.T) (hr:R.m=some r) :
  R.fl=0∧∃ v,(Go.binOp op t vx vy).run P w=.ok v w∧PM S w η (R.pv r) v:=by
 obtain ⟨rfl,kx⟩:=PM.int.1 hx
 obtain ⟨rfl,ky⟩:=PM.int.1 hy
 cases op<;>simp only [binI] at h<;>first | (cases h;done) | cases h
 ·exact ⟨rfl,.int k (k.wrap (x+y)),by simp [binOp_add,Op.intArith],PM.int.2 ⟨rfl,jC _ _⟩⟩
 ·exact ⟨rfl,.int k (k.wrap (x-y)),by simp [binOp_sub,Op.intArith],PM.int.2 ⟨rfl,jC _ _⟩⟩
 ·exact ⟨rfl,.int k (k.wrap (x*y)),by simp [binOp_mul,Op.intArith],PM.int.2 ⟨rfl,jC _ _⟩⟩
 ·have hr':divM k x y=some r:=hr
  unfold divM at hr'
  split at hr'
  ·cases hr'
  ·rename_i h0
   have h0:=of_decide_eq_false h0
   cases hr'
   exact ⟨rfl,.int k (k.wrap (x.tdiv y)),by simp [binOp_quo,Op.intDiv,h0],PM.int.2 ⟨rfl,jC _ _⟩⟩
 ·have hr':remM x y=some r:=hr
  unfold remM at hr'
  split at hr'
  ·cases hr'
  ·rename_i h0
   have h0:=of_decide_eq_false h0
   cases hr'
   exact ⟨rfl,.int k (x.tmod y),by simp [binOp_rem,Op.intDiv,h0],PM.int.2 ⟨rfl,tmod_has kx ky h0⟩⟩
 ·exact ⟨rfl,.int k (uA .and k x y),by simp [Go.binOp,Op.intBits,uA],PM.int.2 ⟨rfl,jC _ _⟩⟩
 ·exact ⟨rfl,.int k (uA .or k x y),by simp [Go.binOp,Op.intBits,uA],PM.int.2 ⟨rfl,jC _ _⟩⟩
 ·exact ⟨rfl,.int k (uA .xor k x y),by simp [Go.binOp,Op.intBits,uA],PM.int.2 ⟨rfl,jC _ _⟩⟩
 ·exact ⟨rfl,.int k (uA .andNot k x y),by simp [Go.binOp,Op.intBits,uA],PM.int.2 ⟨rfl,jC _ _⟩⟩
 ·exact ⟨rfl,.bool (decide (x=y)),by rw [binOp_eql,beq_dec];simp,PM.bool.2 rfl⟩
 ·exact ⟨rfl,.bool (!decide (x=y)),by rw [binOp_neq];unfold bne;rw [beq_dec];simp,PM.bool.2 rfl⟩
 ·exact ⟨rfl,.bool (decide (x<y)),by simp [binOp_lss],PM.bool.2 rfl⟩
 ·exact ⟨rfl,.bool (decide (x≤y)),by simp [binOp_leq],PM.bool.2 rfl⟩
 ·exact ⟨rfl,.bool (decide (y<x)),by simp [binOp_gtr],PM.bool.2 rfl⟩
 ·exact ⟨rfl,.bool (decide (y≤x)),by simp [binOp_geq],PM.bool.2 rfl⟩

theorem equal_run {t:TypeId} {x y:Value}:(Op.equal t x y).run P w=(Op.equalIn (9999+1) t x y).run P w:=rfl
theorem iE {t:TypeId} {x y:Value} {b:Bool} (h1:Go.binOp .eql t x y=(do pure (.bool (← Op.equal t x y)))) (h2:Go.binOp .neq t x y=(do pure (.bool (!(← Op.equal t x y))))) (h:(Op.equalIn (9999+1) t x y).run P w=.ok b w) :
  (Go.binOp .eql t x y).run P w=.ok (.bool b) w∧(Go.binOp .neq t x y).run P w=.ok (.bool !b) w:=by
 rw [← equal_run] at h
 rw [h1,h2,Sem.run_bind,Sem.run_bind,h]
 exact ⟨rfl,rfl⟩
theorem sF {d:Nat} {t el:TypeId} {a:Option Addr} {n c:Nat} (hk:(underlying t).run P w=.ok (.slice el) w):(Op.equalIn (d+1) t (.slice a n c) (.slice none 0 0)).run P w=.ok a.isNone w:=by
 rw [Op.equalIn,Sem.run_bind,hk]
 cases a<;>rfl
theorem bK {d:Nat} {t el:TypeId} {a:Option Addr} (hk:(underlying t).run P w=.ok (.pointer el) w):(Op.equalIn (d+1) t (.pointer a) (.pointer none)).run P w=.ok a.isNone w:=by
 rw [Op.equalIn,Sem.run_bind,hk]
 cases a<;>rfl
theorem equalIn_bool' {d:Nat} {t:TypeId} {a b:Bool} (hk:(underlying t).run P w=.ok .bool w):(Op.equalIn (d+1) t (.bool a) (.bool b)).run P w=.ok (decide (a=b)) w:=by
 rw [Op.equalIn,Sem.run_bind,hk]
 cases a<;>cases b<;>rfl
theorem equalIn_fn {d:Nat} {t:TypeId} {x:TypeDesc} {v:Value} {b:Bool} (hx:∃ a b c,x=.func a b c) (hk:(underlying t).run P w=.ok x w) (hv:(v=.nilFunc∧b=true)∨(∃ g f c,v=.func g f c)∧b=false):(Op.equalIn (d+1) t v .nilFunc).run P w=.ok b w:=by
 obtain ⟨_,_,_,rfl⟩:=hx
 rw [Op.equalIn,Sem.run_bind,hk]
 rcases hv with ⟨rfl,rfl⟩ | ⟨⟨g,f,c,rfl⟩,rfl⟩<;>rfl
theorem isNil_sound {id:TypeId} {ti:TI} {x:CV} {v:Value} {b:Bool} {u:Value} (hI:TIok P id ti) (hx:CM S w η x v) (hu:∃ n:Lit,uG ti.kind (.l n)=some true∧u=n.val) (h:uG ti.kind x=some b) :
  (Go.binOp .eql id v u).run P w=.ok (.bool b) w∧(Go.binOp .neq id v u).run P w=.ok (.bool !b) w∧(eqGuard .eql id (.const .nilIface) (.const .nilIface) v u).run P w=.ok () w:=by
 obtain ⟨n,hn,rfl⟩:=hu
 have hk:=hI.kind
 unfold uG at h hn
 split at h
 ·rename_i el bts hkd
  rw [hkd] at hk hn
  have hk:=run_underlying hk.1 (w:=w)
  have hx:v=.slice none 0 0:=hx
  subst hx
  cases h
  cases n<;>simp at hn
  have:=iE (P:=P) (w:=w) (t:=id) rfl rfl (sF (d:=9999) (a:=none) (n:=0) (c:=0) hk)
  exact ⟨this.1,this.2,rfl⟩
 ·rename_i el bts t o hkd
  rw [hkd] at hk hn
  have hk:=run_underlying hk.1 (w:=w)
  cases h
  cases n<;>simp at hn
  cases o with
  | none =>
   have hx:v=.slice none 0 0:=hx
   subst hx
   have:=iE (P:=P) (w:=w) (t:=id) rfl rfl (sF (d:=9999) (a:=none) (n:=0) (c:=0) hk)
   exact ⟨this.1,this.2,rfl⟩
  | some xs =>
   obtain ⟨_,a,m,c,rfl⟩:=hx
   have:=iE (P:=P) (w:=w) (t:=id) rfl rfl (sF (d:=9999) (a:=some a) (n:=m) (c:=c) hk)
   exact ⟨this.1,this.2,rfl⟩
 ·rename_i el hkd
  rw [hkd] at hk hn
  have hx:v=.pointer none:=hx
  subst hx
  cases h
  cases n<;>simp at hn
  have:=iE (P:=P) (w:=w) (t:=id) rfl rfl (bK (d:=9999) (a:=none) (hk w))
  exact ⟨this.1,this.2,rfl⟩
 ·rename_i el i o hkd
  rw [hkd] at hk hn
  obtain ⟨bb,_,rfl⟩:=hx
  cases h
  cases n<;>simp at hn
  have:=iE (P:=P) (w:=w) (t:=id) rfl rfl (bK (d:=9999) (a:=some ⟨bb,o,none⟩) (hk w))
  exact ⟨this.1,this.2,rfl⟩
 ·rename_i hkd
  rw [hkd] at hk hn
  obtain ⟨_,_,_,hk⟩:=hk
  have hx:v=.nilFunc:=hx
  subst hx
  cases h
  cases n<;>simp at hn
  have:=iE (P:=P) (w:=w) (t:=id) rfl rfl (equalIn_fn (d:=9999) (b:=true) ⟨_,_,_,rfl⟩ (hk w) (.inl ⟨rfl,rfl⟩))
  exact ⟨this.1,this.2,rfl⟩
 ·rename_i g fs cs hkd
  rw [hkd] at hk hn
  obtain ⟨_,_,_,hk⟩:=hk
  obtain ⟨vf,vc,rfl,_⟩:=hx
  cases h
  cases n<;>simp at hn
  have:=iE (P:=P) (w:=w) (t:=id) rfl rfl (equalIn_fn (d:=9999) (v:=.func (.func g) vf.toArray vc.toArray) (b:=false) ⟨_,_,_,rfl⟩ (hk w) (.inr ⟨⟨_,_,_,rfl⟩,rfl⟩))
  exact ⟨this.1,this.2,rfl⟩
 ·cases h
theorem fJ {op:BinOp} {t:TypeId} {x y:Operand} {v u:Value} (h:(eqGuard .eql t (.const .nilIface) (.const .nilIface) v u).run P w=.ok () w) (hv:v.oneCell'=true) (hn:v≠.nilIface):(eqGuard op t x y v u).run P w=.ok () w:=by
 unfold eqGuard
 cases op<;>simp
 all_goals (cases v<;>simp_all [Value.oneCell'])
theorem binR_sound (hΓ:TabOK P Γ) {op:BinOp} {t:TypeId} {R:RdR} {x y:Operand} {a b:PV} {vx vy:Value} (h:binR Γ op t a b H nx=some R) (hx:PM S w η a vx) (hy:PM S w η b vy) (r:R.T) (hr:R.m=some r) :
  R.fl=0∧∃ v,(do eqGuard op t x y vx vy;Go.binOp op t vx vy:Sem Value).run P w=.ok v w∧PM S w η (R.pv r) v:=by
 unfold binR at h
 split at h
 ·rename_i k x' k' y'
  split at h
  ·rename_i y'' hc
   obtain ⟨he,rfl⟩:=kA hc
   cases he
   obtain ⟨h1,v,h2,h3⟩:=binI_sound (P:=P) (t:=t) h hx hy r hr
   obtain ⟨rfl,_⟩:=PM.int.1 hx
   obtain ⟨rfl,_⟩:=PM.int.1 hy
   exact ⟨h1,v,by simp [eqGuard_at_int,h2],h3⟩
  ·cases h
 ·rename_i x' y'
  have e1:=PM.bool.1 hx
  have e2:=PM.bool.1 hy
  subst e1;subst e2
  split at h
  ·rename_i hl
   cases h
   have hk:=(hΓ.ty _ _ hl).kind w
   have:=iE (P:=P) (w:=w) (t:=t) (x:=.bool x') (y:=.bool y') (b:=decide (x'=y')) rfl rfl (equalIn_bool' (d:=9999) hk)
   exact ⟨rfl,.bool (decide (x'=y')),by have h2:=this.1;simp [eqGuard] at h2 ⊢;exact h2,PM.bool.2 rfl⟩
  ·rename_i hl
   cases h
   have hk:=(hΓ.ty _ _ hl).kind w
   have:=iE (P:=P) (w:=w) (t:=t) (x:=.bool x') (y:=.bool y') (b:=decide (x'=y')) rfl rfl (equalIn_bool' (d:=9999) hk)
   exact ⟨rfl,.bool (!decide (x'=y')),by have h2:=this.2;simp [eqGuard] at h2 ⊢;exact h2,PM.bool.2 rfl⟩
  ·cases h
 ·rename_i x' n
  have e2:vy=n.val:=hy
  have key:∀ ti b,lk Γ.ty t=some ti→uG ti.kind (.l n)=some true→uG ti.kind x'=some b→(Go.binOp .eql t vx vy).run P w=.ok (.bool b) w∧(Go.binOp .neq t vx vy).run P w=.ok (.bool !b) w∧(eqGuard op t x y vx vy).run P w=.ok () w:=by
   intro ti b hl hn hb
   obtain ⟨g1,g2,g3⟩:=isNil_sound (hΓ.ty _ _ hl) hx ⟨n,hn,e2⟩ hb
   refine ⟨g1,g2,fJ g3 (CM.one hx) fun hne=>?_⟩
   subst hne
   cases x' with
   | l m =>
    have:Value.nilIface=m.val:=hx
    cases m<;>simp [Lit.val] at this
    cases hk:ti.kind<;>simp [hk,uG] at hb
   | n t' o =>
    cases o with
    | none=>have:Value.nilIface=.slice none 0 0:=hx;cases this
    | some _=>obtain ⟨_,_,_,_,hh⟩:=hx;cases hh
   | p _ _=>obtain ⟨_,_,hh⟩:=hx;cases hh
   | f _ _ _=>obtain ⟨_,_,hh,_⟩:=hx;cases hh
   | _=>cases hk:ti.kind<;>simp [hk,uG] at hb
  split at h
  ·rename_i ti hl
   split at h
   ·rename_i b h1 h2
    cases h
    obtain ⟨g1,g2,g3⟩:=key ti b hl h1 h2
    exact ⟨rfl,.bool b,by simp [g3,g1],PM.bool.2 rfl⟩
   ·cases h
  ·rename_i ti hl
   split at h
   ·rename_i b h1 h2
    cases h
    obtain ⟨g1,g2,g3⟩:=key ti b hl h1 h2
    exact ⟨rfl,.bool (!b),by simp [g3,g2],PM.bool.2 rfl⟩
   ·cases h
  ·cases h
 ·cases h
theorem unR_sound {op:UnOp} {a:PV} {R:RdR} {v:Value} (h:unR op a H nx=some R) (hx:PM S w η a v) (r:R.T) (hr:R.m=some r):R.fl=0∧∃ u,(Op.unary op v).run P w=.ok u w∧PM S w η (R.pv r) u:=by
 unfold unR at h
 split at h
 ·rename_i x
  cases h
  have e:=PM.bool.1 hx
  subst e
  exact ⟨rfl,.bool (!x),by simp [Op.unary],PM.bool.2 rfl⟩
 ·rename_i k x
  cases h
  obtain ⟨rfl,_⟩:=PM.int.1 hx
  exact ⟨rfl,.int k (k.wrap (-x)),by simp [Op.unary,Op.intArith],PM.int.2 ⟨rfl,jC _ _⟩⟩
 ·rename_i k x
  cases h
  obtain ⟨rfl,_⟩:=PM.int.1 hx
  exact ⟨rfl,.int k (cplM k x),by simp [Op.unary,Op.intBits,cplM,uA],PM.int.2 ⟨rfl,jC _ _⟩⟩
 ·cases h
end
theorem fold_sets:∀ (vs:List Value) (k:Nat) (c1 c2 c3:List Value),c2.length=vs.length →
  (vs.zipIdx k).foldl (fun (cs:Array Value) (p:Value×Nat)=>cs.setIfInBounds (c1.length+p.2-k) p.1) (c1++(c2++c3)).toArray=(c1++(vs++c3)).toArray
 | [],k,c1,c2,c3,h=>by
  have:c2=[]:=lN h
  subst this;simp
 | v::vs,k,c1,c2,c3,h=>by
  match c2,h with
  | u::c2,h =>
   rw [List.zipIdx_cons,List.foldl_cons]
   have h1:(c1++(u::c2++c3)).toArray.setIfInBounds (c1.length+(v,k).2-k) (v,k).1=((c1++[v])++(c2++c3)).toArray:=by
    simp only [List.setIfInBounds_toArray]
    congr 1
    rw [show c1.length+k-k=c1.length by omega,List.set_append_right _ _ (nR _)]
    simp
   rw [h1]
   have ih:=fold_sets vs (k+1) (c1++[v]) c2 c3 (by simpa using h)
   have hf:(fun (cs:Array Value) (p:Value×Nat)=>cs.setIfInBounds ((c1++[v]).length+p.2-(k+1)) p.1)=fun (cs:Array Value) (p:Value×Nat)=>cs.setIfInBounds (c1.length+p.2-k) p.1:=by
    funext cs p
    congr 1
    simp;omega
   rw [hf] at ih
   rw [ih]
   simp

theorem fill_one {place:Nat→Option (Nat×Nat)} {i off:Nat} {v:Value} {vs c1 c2 c3:List Value} {rest:List (Nat×Value)} (hp:place i=some (off,vs.length)) (hv:v.cells=vs.toArray) (h1:c1.length=off) (h2:c2.length=vs.length) :
  Instr.fill place (c1++(c2++c3)).toArray ((i,v)::rest)=Instr.fill place (c1++(vs++c3)).toArray rest:=by
 rw [Instr.fill,hp]
 simp only [hv,List.size_toArray,ne_eq,not_true_eq_false,decide_false,Bool.false_or]
 rw [if_neg (by simp;omega)]
 congr 1
 rw [← Array.foldl_toList]
 have:=fold_sets vs 0 c1 c2 c3 h2
 rw [← this]
 have hz:(vs.toArray.zipIdx).toList=vs.zipIdx:=by simp
 rw [hz]
 subst h1
 rfl


def tstR (e:Ev) (ctx:Ctx):Operand→Option (Bool×Nat)
 | .tmp s=>match lkp e s with
  | some (.r (.c (.d .bool b)),k)=>some (b,k)
  | some (.g c _ (.r (.c (.d .bool b))),k)=>match subC c ctx with
   | true=>some (b,k)
   | false=>none
  | _=>none
 | _=>none
def isTrueC:Operand→Bool
 | .const (.bool true)=>true
 | _=>false
def isFalseC:Operand→Bool
 | .const (.bool false)=>true
 | _=>false
def pickR (e:Ev) (ctx:Ctx) (c x y:Operand) (H:PH) (nx:Nat):Option RdR :=
 match tstR e ctx c with
 | none=>none
 | some (b,k)=>match ev e ((k,true)::ctx) x,ev e ((k,false)::ctx) y with
  | some (.r (.c (.d t u))),some (.r (.c (.d t' v')))=>match yA t (t':=t') v' with
   | none=>none
   | some v=>match isFalseC y,isTrueC x,t,u,v with
    | true,_,.bool,u,_=>some (tot (.c (.d .bool (andM b u))) H nx)
    | _,true,.bool,_,v=>some (tot (.c (.d .bool (orM b v))) H nx)
    | _,_,t,u,v=>some (tot (.c (.d t (cond b u v))) H nx)
  | _,_=>none

def fieldOf (Γ:Tabs) (t:TypeId) (i:Nat):Option (Nat×TI):=match lk Γ.ty t with
 | some ti=>match ti.kind with
  | .struct fs=>match fs[i]? with
   | some (off,ft,sz)=>match lk Γ.ty ft with
    | some fi=>match Nat.beq fi.size sz&&Nat.blt 0 sz with
     | true=>some (off,fi)
     | false=>none
    | none=>none
   | none=>none
  | _=>none
 | none=>none
def elemOf (Γ:Tabs) (t:TypeId) (x:Operand):Option (Nat×TI):=match lk Γ.ty t,x with
 | some ti,.const (.int .i64 (.ofNat m))=>match ti.kind with
  | .array n el=>match Nat.blt m n&&Nat.blt 1 n,lk Γ.ty el with
   | true,some fi=>some (m*fi.size,fi)
   | _,_=>none
  | _=>none
 | _,_=>none
def cutR (ti:TI) (l:List CV) (off:Nat):Option RV:=match ti.agg with
 | true=>match Nat.ble (off+ti.size) l.length with
  | true=>some (.s ((l.drop off).take ti.size))
  | false=>none
 | false=>match l[off]? with
  | some c=>some (.c c)
  | none=>none
def addrR (off:Nat) (ti:TI) (pv:PV) (H:PH) (nx:Nat):Option RdR:=match pv with
 | .fp T x=>match ti.ty with
  | some T'=>match T.sub x off T' with
   | some y=>some (tot (.fp T' y) H nx)
   | none=>none
  | none=>none
 | .r (.c (.p id k))=>some (tot (.c (.p id (k+off))) H nx)
 | .ep id sz i k=>some (tot (.ep id sz i (k+off)) H nx)
 | _=>none
def lstOf:CV→Option (Sigma fun T:Ty=>List T.den)
 | .d (.list T) xs=>some ⟨T,xs⟩
 | .q T xs=>some ⟨T,xs⟩
 | .fu T xs=>some ⟨T,xs⟩
 | _=>none
def ixA (Γ:Tabs) (t:TypeId) (pv ix:PV) (H:PH) (nx:Nat):Option RdR:=match lk Γ.ty t,pv,ix with
 | some ti,.r (.c c),.r (.c (.d (.int k) i))=>match lstOf c with
  | some ⟨T,xs⟩=>match ti.kind with
   | .slice el _=>match lk Γ.ty el with
    | some te=>match Nat.beq te.size T.size with
     | true=>some (par (gA xs i) T.dflt (fun x=>.fp T x) H nx)
     | false=>none
    | none=>none
   | _=>none
  | none=>none
 | _,_,_=>none
def lenA (Γ:Tabs) (t:TypeId) (pv:PV) (H:PH) (nx:Nat):Option RdR:=match lk Γ.ty t,pv with
 | some ti,.r (.c c)=>match ti.kind,c with
  | .slice _ _,.d (.list T) xs=>some (tot (.c (.d (.int .i64) (lenM xs))) H nx)
  | .slice _ _,.q T xs=>some (tot (.c (.d (.int .i64) (lenM xs))) H nx)
  | .slice _ _,.l .nilS=>some (tot (.c (.d (.int .i64) (0:Int))) H nx)
  | .slice _ _,.n T o=>some (tot (.c (.d (.int .i64) (lenM (getL o)))) H nx)
  | .str,.d .str s=>some (tot (.c (.d (.int .i64) (lenM s))) H nx)
  | .array n _,_=>none
  | _,_=>none
 | _,_=>none
def bltA (Γ:Tabs) (b:Builtin) (args:List (Option PV)) (ts:List TypeId) (H:PH) (nx:Nat):Option RdR:=match b,args,ts with
 | .len,[some pv],[t]=>lenA Γ t pv H nx
 | .min,[some (.r (.c (.d (.int k) x))),some (.r (.c (.d (.int k') y')))],[_,_]=>match yA (.int k) (t':=.int k') y' with
  | some y=>some (tot (.c (.d (.int k) (min (x:Int) y))) H nx)
  | none=>none
 | .max,[some (.r (.c (.d (.int k) x))),some (.r (.c (.d (.int k') y')))],[_,_]=>match yA (.int k) (t':=.int k') y' with
  | some y=>some (tot (.c (.d (.int k) (max (x:Int) y))) H nx)
  | none=>none
 | _,_,_=>none
def fvOf:PV→Option FV
 | .r (.c (.p id off))=>some (.p id off)
 | .r (.c (.y id))=>some (.y id)
 | .r (.c (.h id))=>some (.h id)
 | .r (.c (.d t x))=>some (.d t x)
 | _=>none
def fvs (e:Ev) (ctx:Ctx):List Operand→Option (List FV)
 | []=>some []
 | x::r=>match ev e ctx x with
  | some pv=>match fvOf pv,fvs e ctx r with
   | some f,some l=>some (f::l)
   | _,_=>none
  | none=>none
def RV.cells:RV→List CV
 | .c x=>[x]
 | .s l=>l
def fillC (place:Nat→Option (Nat×Nat)) (e:Ev) (ctx:Ctx):List (Nat×Operand)→List CV→Option (List CV)
 | [],l=>some l
 | (i,x)::r,l=>match place i,ev e ctx x with
  | some (off,sz),some (.r v)=>match Nat.beq v.cells.length sz&&Nat.ble (off+sz) l.length with
   | true=>fillC place e ctx r (l.take off++(v.cells++l.drop (off+sz)))
   | false=>none
  | _,_=>none
def buildR (Γ:Tabs) (e:Ev) (ctx:Ctx) (t:TypeId) (parts:List (Nat×Operand)) (H:PH) (nx:Nat):Option RdR:=match lk Γ.ty t with
 | some ti=>match ti.kind with
  | .struct fs=>match fillC (fun i=>(fs[i]?).map fun f=>(f.1,f.2.2)) e ctx parts ti.zero with
   | some l=>some (tot (.s l) H nx)
   | none=>none
  | .array n el=>match lk Γ.ty el with
   | some te=>match fillC (fun i=>some (i*te.size,te.size)) e ctx parts ti.zero with
    | some l=>some (tot (.s l) H nx)
    | none=>none
   | none=>none
  | _=>none
 | none=>none
def mvR (pv:Option PV) (H:PH) (nx:Nat):Option RdR:=match pv with
 | some pv=>some (tot pv H nx)
 | none=>none
def opA:OpF:=fun Γ o e ctx H nx=>match o.op with
 | .move x=>mvR (ev e ctx x) H nx
 | .assign x=>mvR (ev e ctx x) H nx
 | .pick c x y=>pickR e ctx c x y H nx
 | .binOp op t x y _=>match ev e ctx x,ev e ctx y with
  | some a,some b=>binR Γ op t a b H nx
  | _,_=>none
 | .unOp op _ x=>match ev e ctx x with
  | some a=>unR op a H nx
  | none=>none
 | .extract x i=>match ev e ctx x with
  | some (.t l)=>match l[i]? with
   | some r=>some (tot (.r r) H nx)
   | none=>none
  | _=>none
 | .makeFunc (.func g) first caps=>match fvs e ctx first.toList,fvs e ctx caps.toList with
  | some fs,some cs=>some (tot (.c (.f g fs cs)) H nx)
  | _,_=>none
 | .nilCheck x=>match ev e ctx x with
  | some (.r (.c (.p id k)))=>some (tot (.c (.p id k)) H nx)
  | some (.fp T x)=>some (tot (.fp T x) H nx)
  | some (.ep id sz i k)=>some (tot (.ep id sz i k) H nx)
  | _=>none
 | .field t x i=>match fieldOf Γ t i,ev e ctx x with
  | some (off,ti),some (.r (.s l))=>match cutR ti l off with
   | some r=>some (tot (.r r) H nx)
   | none=>none
  | _,_=>none
 | .fieldAddr t x i=>match fieldOf Γ t i,ev e ctx x with
  | some (off,ti),some pv=>addrR off ti pv H nx
  | _,_=>none
 | .indexAddr t x i=>match elemOf Γ t i,ev e ctx x,ev e ctx i with
  | some (off,ti),some pv,_=>addrR off ti pv H nx
  | none,some pv,some ix=>ixA Γ t pv ix H nx
  | _,_,_=>none
 | .index t x i=>match elemOf Γ t i,ev e ctx x with
  | some (off,ti),some (.r (.s l))=>match cutR ti l off with
   | some r=>some (tot (.r r) H nx)
   | none=>none
  | _,_=>none
 | .load t x=>match ev e ctx x,lk Γ.ty t with
  | some (.fp T x),some ti=>match ti.ty with
   | some T'=>match yA T' (t':=T) x with
    | some y=>some (tot (pvOf T' y) H nx)
    | none=>none
   | none=>none
  | _,_=>none
 | .call c=>match c.callee with
  | .builtin b=>bltA Γ b (c.args.toList.map (ev e ctx)) c.argTypes.toList H nx
  | _=>none
 | .build t parts=>buildR Γ e ctx t parts.toList H nx
 | _=>none

theorem lB {P:Program} {rd:Option Nat} {B:Nat} {o:Oper} {e:Ev} {hs:Hl} {R:RdR} {r:R.T} (h0:R.fl=0) (hd:∀ c,o.op≠.defer c)
  (h:∀ S w η (a:Act),InW S w→En.Only (lk e) (rA o) S w η a.tmps→∃ v,(execOp a.eval o).run P w=.ok (.value v) w∧PM S w η (R.pv r) v):R.OK P rd B o e hs r:=by
 unfold RdR.OK
 rw [h0]
 intro S w η a hi ho
 obtain ⟨v,h1,h2⟩:=h S w η a hi ho
 exact .value hd h1 ⟨v,S,rfl,Grow.refl hi,h2⟩

theorem binR_fl {Γ:Tabs} {op:BinOp} {t:TypeId} {a b:PV} {H:PH} {nx:Nat} {R:RdR} (h:binR Γ op t a b H nx=some R):R.fl=0:=by
 unfold binR at h
 split at h
 ·split at h
  ·cases op<;>simp only [binI] at h<;>first | (cases h;done) | (cases h;rfl)
  ·cases h
 ·split at h<;>first | (cases h;rfl) | cases h
 ·split at h
  ·split at h<;>first | (cases h;rfl) | cases h
  ·split at h<;>first | (cases h;rfl) | cases h
  ·cases h
 ·cases h
theorem unR_fl {op:UnOp} {a:PV} {H:PH} {nx:Nat} {R:RdR} (h:unR op a H nx=some R):R.fl=0:=by
 unfold unR at h
 split at h<;>first | (cases h;rfl) | cases h

section
variable {P:Program} {Γ:Tabs} {S:Cells} {w:World} {η:Eta} {e:Ev} {ctx:Ctx} {o:Oper} {a:Act} {H:PH} {nx:Nat}

theorem tstR_sound {x:Operand} {b:Bool} {k:Nat} (hw:Wf e) (hc:CtxH e ctx) (h:tstR e ctx x=some (b,k)) (hx:x∈o.op.operands.toList) (ho:En.Only (lk e) (rA o) S w η a.tmps) :
  a.eval x=.bool b∧∀ wt,b=wt→CtxH e ((k,wt)::ctx):=by
 unfold tstR at h
 split at h
 ·rename_i s
  have hm:=opReads_mem hx
  split at h
  ·rename_i b' k' hl
   cases h
   obtain ⟨h1,h2,h3⟩:=lkp_lk hl
   refine ⟨PM.bool.1 (ho s _ hm h1),fun wt hb p hp=>?_⟩
   rcases List.mem_cons.1 hp with rfl | hp
   ·exact ⟨s,b,.inl h2,hb⟩
   ·exact hc p hp
  ·rename_i c b0 b' k' hl
   split at h
   ·rename_i hs
    cases h
    obtain ⟨h1,h2,h3⟩:=lkp_lk hl
    have hb0:b0=true:=(hw.old h1).2.2 fun p hp=>hc p (subC_sub hs p hp)
    refine ⟨PM.bool.1 ((ho s _ hm h1).1 hb0),fun wt hb p hp=>?_⟩
    rcases List.mem_cons.1 hp with rfl | hp
    ·exact ⟨s,b,.inr ⟨c,b0,h2,hb0⟩,hb⟩
    ·exact hc p hp
   ·cases h
  ·cases h
 ·cases h

theorem rJ {c x y:Operand} {b:Bool} (ho:o.op=.pick c x y) (hc:a.eval c=.bool b):(execOp a.eval o).run P w=.ok (.value (if b then a.eval x else a.eval y)) w:=by
 simp [execOp,ho,hc,asBool]

theorem pickR_ok {rd:Option Nat} {B:Nat} {hs:Hl} {c x y:Operand} {R:RdR} (hop:o.op=.pick c x y) (h:pickR e ctx c x y H nx=some R) (hw:Wf e) (hc:CtxH e ctx) (r:R.T):R.OK P rd B o e hs r:=by
 unfold pickR at h
 split at h
 ·cases h
 rename_i b k ht
 split at h
 ·rename_i t u t' v' hx hy
  split at h
  ·cases h
  rename_i v hcast
  obtain ⟨he,hv⟩:=kA hcast
  subst he
  have hv:v'=v:=hv
  subst hv
  have key:∀ S w η (a:Act),En.Only (lk e) (rA o) S w η a.tmps→∃ z,(execOp a.eval o).run P w=.ok (.value z) w∧PM S w η (.c (.d t' (cond b u v'))) z:=by
   intro S w η a ho
   obtain ⟨h1,h2⟩:=tstR_sound (S:=S) (w:=w) (η:=η) (a:=a) hw hc ht (by rw [hop];simp [Op.operands]) ho
   refine ⟨_,rJ hop h1,?_⟩
   cases b with
   | true=>exact cA hw (h2 true rfl) hx (by rw [hop];simp [Op.operands]) ho
   | false=>exact cA hw (h2 false rfl) hy (by rw [hop];simp [Op.operands]) ho
  have hd:∀ c,o.op≠.defer c:=by rw [hop];intro c hh;cases hh
  split at h
  ·rename_i hfc _
   cases h
   refine lB rfl hd fun S w η a _ ho=>?_
   obtain ⟨z,hz1,hz2⟩:=key S w η a ho
   refine ⟨z,hz1,?_⟩
   obtain ⟨h1,h2⟩:=tstR_sound (S:=S) (w:=w) (η:=η) (a:=a) hw hc ht (by rw [hop];simp [Op.operands]) ho
   have hyf:y=.const (.bool false):=by
    unfold isFalseC at hfc
    split at hfc
    ·rfl
    ·cases hfc
   subst hyf
   cases b with
   | true=>exact hz2
   | false =>
    rw [rJ hop h1] at hz1
    cases hz1
    exact PM.bool.2 rfl
  ·rename_i htc _ _
   cases h
   refine lB rfl hd fun S w η a _ ho=>?_
   obtain ⟨z,hz1,hz2⟩:=key S w η a ho
   refine ⟨z,hz1,?_⟩
   obtain ⟨h1,h2⟩:=tstR_sound (S:=S) (w:=w) (η:=η) (a:=a) hw hc ht (by rw [hop];simp [Op.operands]) ho
   have hxt:x=.const (.bool true):=by
    unfold isTrueC at htc
    split at htc
    ·rfl
    ·cases htc
   subst hxt
   cases b with
   | false=>exact hz2
   | true =>
    rw [rJ hop h1] at hz1
    cases hz1
    exact PM.bool.2 rfl
  ·cases h
   exact lB rfl hd fun S w η a _ ho=>key S w η a ho
 ·cases h

theorem fieldOf_sound (hΓ:TabOK P Γ) {t:TypeId} {i off:Nat} {fi:TI} (h:fieldOf Γ t i=some (off,fi)):∃ farr f ft,(∀ w,(underlying t).run P w=.ok (.struct farr) w)∧farr[i]? = some f∧f.offset=off∧f.type=ft∧TIok P ft fi∧0<fi.size:=by
 unfold fieldOf at h
 split at h
 ·rename_i ti hl
  split at h
  ·rename_i fs hk
   split at h
   ·rename_i off' ft sz hf
    split at h
    ·rename_i fi' hl2
     split at h
     ·rename_i hb
      cases h
      simp only [bA] at hb
      have hsz:=nB hb.1
      have hpos:0<sz:=nL hb.2
      have hkd:=(hΓ.ty _ _ hl).kind
      rw [hk] at hkd
      obtain ⟨farr,h1,h2,h3⟩:=hkd
      have:(farr.toList.map (fun f=>(f.offset,f.type)))[i]? = some (off,ft):=by
       rw [h2,List.getElem?_map,hf];rfl
      rw [List.getElem?_map] at this
      cases hfi:farr.toList[i]? with
      | none=>rw [hfi] at this;cases this
      | some f =>
       rw [hfi] at this
       simp at this
       exact ⟨farr,f,ft,h1,by rw [← Array.getElem?_toList];exact hfi,this.1,this.2,hΓ.ty _ _ hl2,by omega⟩
     ·cases h
    ·cases h
   ·cases h
  ·cases h
 ·cases h
theorem elemOf_sound (hΓ:TabOK P Γ) {t:TypeId} {x:Operand} {off:Nat} {fi:TI} (h:elemOf Γ t x=some (off,fi)):∃ m n el,x=.const (.int .i64 (.ofNat m))∧(∀ w,(underlying t).run P w=.ok (.array n el) w)∧m<n∧1<n∧TIok P el fi∧off=m*fi.size:=by
 unfold elemOf at h
 split at h
 ·rename_i ti m hl
  split at h
  ·rename_i n el hk
   split at h
   ·rename_i fi' hb hl2
    cases h
    simp only [bA] at hb
    have hkd:=(hΓ.ty _ _ hl).kind
    rw [hk] at hkd
    exact ⟨m,n,el,rfl,hkd,nL hb.1,nL hb.2,hΓ.ty _ _ hl2,rfl⟩
   ·cases h
  ·cases h
 ·cases h
theorem run_fieldAt {t:TypeId} {i off:Nat} {farr:Array Field} {f:Field} {fi:TI} (h1:∀ w,(underlying t).run P w=.ok (.struct farr) w) (h2:farr[i]? = some f) (h3:f.offset=off) (h4:TIok P f.type fi) (h5:0<fi.size) (b k:Nat) :
  (Instr.fieldAt t (.pointer (some ⟨b,k,none⟩)) i).run P w=.ok (.pointer (some ⟨b,k+off,none⟩)) w:=by
 have hz:¬ fi.size=0:=by omega
 simp [Instr.fieldAt,h1,h2,Instr.sureAddr,fieldPlace,h4.size,hz,h3,Addr.add_lit]
theorem cutR_sound {ti:TI} {id:TypeId} {l:List CV} {vs:List Value} {off:Nat} {x:RV} (hI:TIok P id ti) (h:cutR ti l off=some x) (hm:All2 (CM S w η) l vs):∃ v,(part id vs.toArray off).run P w=.ok v w∧RM S w η x v:=by
 unfold cutR at h
 have hag:=hI.agg w
 have hsz:=hI.size w
 have hl:=hm.length
 split at h
 ·rename_i ha
  split at h
  ·rename_i hb
   cases h
   have hb:=nL hb
   rw [ha] at hag
   refine ⟨.agg ((vs.drop off).take ti.size).toArray,?_,_,rfl,?_⟩
   ·simp [part,hag,hsz]
   ·refine All2.mk (by simp [hl]) fun i a b ha hb=>?_
    have hi:i<ti.size:=by
     have:=(gS.1 ha).1;simp at this;omega
    rw [List.getElem?_take_of_lt hi,List.getElem?_drop] at ha hb
    obtain ⟨b',hb',hr⟩:=hm.get _ a ha
    rw [hb] at hb';cases hb';exact hr
  ·cases h
 ·rename_i ha
  split at h
  ·rename_i c hc
   cases h
   rw [ha] at hag
   obtain ⟨v,hv,hr⟩:=hm.get _ _ hc
   exact ⟨v,by simp [part,hag,hv],hr⟩
  ·cases h
theorem addrR_fl {off:Nat} {ti:TI} {pv:PV} {R:RdR} (h:addrR off ti pv H nx=some R):R.fl=0:=by
 unfold addrR at h
 split at h
 ·split at h
  ·split at h
   ·cases h;rfl
   ·cases h
  ·cases h
 ·cases h;rfl
 ·cases h;rfl
 ·cases h
theorem addrR_sound {off:Nat} {ti:TI} {pv:PV} {R:RdR} {v:Value} (h:addrR off ti pv H nx=some R) (hm:PM S w η pv v) (r:R.T):∃ b k,v=.pointer (some ⟨b,k,none⟩)∧PM S w η (R.pv r) (.pointer (some ⟨b,k+off,none⟩)):=by
 unfold addrR at h
 split at h
 ·rename_i T x
  split at h
  ·rename_i T' hT
   split at h
   ·rename_i y hy
    cases h
    obtain ⟨b,k,cs,rfl,h2,h3⟩:=hm
    obtain ⟨c1,c2,c3,rfl,hl,hr⟩:=rK h2 hy
    refine ⟨b,k,rfl,b,k+off,c2,rfl,hr,fun j u hu=>?_⟩
    have:=h3 (off+j) u (by
     rw [xR (by omega),← hl,show c1.length+j-c1.length=j by omega,xL (gS.1 hu).1];exact hu)
    rw [Nat.add_assoc];exact this
   ·cases h
  ·cases h
 ·rename_i id k
  cases h
  obtain ⟨b,h1,rfl⟩:=hm
  exact ⟨b,k,rfl,b,h1,rfl⟩
 ·rename_i id sz i k
  cases h
  obtain ⟨b,o,n,cap,h1,rfl⟩:=hm
  exact ⟨b,_,rfl,b,o,n,cap,h1,by rw [Nat.add_assoc]⟩
 ·cases h
theorem lstOf_sound {c:CV} {T:Ty} {xs:List T.den} {v:Value} (h:lstOf c=some ⟨T,xs⟩) (hm:CM S w η c v):VRep S w (.list T) xs v:=by
 unfold lstOf at h
 split at h
 ·cases h;exact hm.2
 ·cases h;exact hm.1
 ·cases h;exact hm.1
 ·cases h
theorem ixA_ok (hΓ:TabOK P Γ) {rd:Option Nat} {B:Nat} {hs:Hl} {t:TypeId} {x i:Operand} {pv ix:PV} {R:RdR} (hop:o.op=.indexAddr t x i) (hw:Wf e) (hc:CtxH e ctx) (hx:ev e ctx x=some pv) (hi:ev e ctx i=some ix) (h:ixA Γ t pv ix H nx=some R) (r:R.T) (hr:R.m=some r) :
  R.OK P rd B o e hs r:=by
 unfold ixA at h
 split at h
 ·rename_i ti c k n hl
  split at h
  case h_2=>cases h
  rename_i T xs hlst
  split at h
  ·rename_i el bts hk
   split at h
   ·rename_i te hl2
    split at h
    ·rename_i hb
     cases h
     have hsz:=nB hb
     refine lB rfl (by rw [hop];intro c hh;cases hh) fun S w η a _ ho=>?_
     obtain ⟨h0,h1,h2⟩:=vB hr
     have hkd:=(hΓ.ty _ _ hl).kind
     rw [hk] at hkd
     have hu:=run_underlying hkd.1 (w:=w)
     obtain ⟨base,cap,e1,e2,e3,e4⟩:=VRep.slice (lstOf_sound hlst (cA hw hc hx (by rw [hop];simp [Op.operands]) ho))
     obtain ⟨f1,_⟩:=PM.int.1 (cA hw hc hi (by rw [hop];simp [Op.operands]) ho)
     rcases e4 with e4 | ⟨b,off,rfl,e4⟩
     ·omega
     obtain ⟨es,he,hcl⟩:=e4 _ _ h2
     refine ⟨.pointer (some ⟨b,off+n.toNat*T.size,none⟩),?_,b,_,es,rfl,he,hcl⟩
     have hs2:=(hΓ.ty _ _ hl2).size w
     rw [hsz] at hs2
     simp [execOp,hop,e1,f1,Instr.indexAt,asIntOf,hu,hs2,h0,h1,Addr.add_lit]
    ·cases h
   ·cases h
  ·cases h
 ·cases h

theorem mF {t:TypeId} {x:Operand} {ts:Array TypeId} {base:Option Addr} {n cap:Nat} {el:TypeId} (hop:o.op=.call { callee:=.builtin .len,args:=#[x],argTypes:=#[t] }) (hu:(underlying t).run P w=.ok (.slice el) w) (he:a.eval x=.slice base n cap) :
  (execOp a.eval o).run P w=.ok (.value (.int .i64 n)) w:=by
 simp [execOp,hop,resolve,invoke,builtin,he,Builtin.len_,hu,goInt]
theorem cG {n:Nat} (h:n≤maxLen):PM S w η (.c (.d (.int .i64) (n:Int))) (.int .i64 n):=by
 refine PM.int.2 ⟨rfl,?_⟩
 rw [bJ];simp only [maxLen] at h;omega
theorem gC {c:Call} {cal:Callee} {xs:List Operand} {ts:List TypeId} (h1:c.callee=cal) (h2:c.args.toList=xs) (h3:c.argTypes.toList=ts):c={ callee:=cal,args:=xs.toArray,argTypes:=ts.toArray }:=by
 cases c
 simp at h1 h2 h3
 simp [h1,← h2,← h3]
theorem bltA_ok (hΓ:TabOK P Γ) {rd:Option Nat} {B:Nat} {hs:Hl} {c:Call} {b:Builtin} {R:RdR} (hop:o.op=.call c) (hcal:c.callee=.builtin b) (hw:Wf e) (hc:CtxH e ctx) (h:bltA Γ b (c.args.toList.map (ev e ctx)) c.argTypes.toList H nx=some R) (r:R.T) :
  R.OK P rd B o e hs r:=by
 have hd:∀ c,o.op≠.defer c:=by rw [hop];intro c hh;cases hh
 unfold bltA at h
 split at h
 ·rename_i pv t hargs hts
  obtain ⟨x,hxs,hxe⟩:∃ x,c.args.toList=[x]∧ev e ctx x=some pv:=by
   match hl:c.args.toList with
   | []=>rw [hl] at hargs;cases hargs
   | [x]=>rw [hl] at hargs;simp at hargs;exact ⟨x,rfl,hargs⟩
   | _::_::_=>rw [hl] at hargs;simp at hargs
  have hce:=gC hcal hxs hts
  subst hce
  have hmem:x∈o.op.operands.toList:=by rw [hop];simp [Op.operands,Call.operands]
  unfold lenA at h
  split at h
  ·rename_i ti cv hl
   split at h
   ·rename_i el bts T xs hk
    cases h
    have hkd:=(hΓ.ty _ _ hl).kind
    rw [hk] at hkd
    refine lB rfl hd fun S w η a _ ho=>?_
    obtain ⟨base,cap,e1,e2,e3,_⟩:=VRep.slice (cA hw hc hxe hmem ho).2
    exact ⟨_,mF (ts:=#[]) hop (run_underlying hkd.1 _) e1,cG (Nat.le_trans e2 e3)⟩
   ·rename_i el bts T xs hk
    cases h
    have hkd:=(hΓ.ty _ _ hl).kind
    rw [hk] at hkd
    refine lB rfl hd fun S w η a _ ho=>?_
    obtain ⟨base,cap,e1,e2,e3,_⟩:=VRep.slice (cA hw hc hxe hmem ho).1
    exact ⟨_,mF (ts:=#[]) hop (run_underlying hkd.1 _) e1,cG (Nat.le_trans e2 e3)⟩
   ·rename_i el bts hk
    cases h
    have hkd:=(hΓ.ty _ _ hl).kind
    rw [hk] at hkd
    refine lB rfl hd fun S w η a _ ho=>?_
    have e1:a.eval x=.slice none 0 0:=cA hw hc hxe hmem ho
    exact ⟨_,mF (ts:=#[]) hop (run_underlying hkd.1 _) e1,cG (Nat.zero_le _)⟩
   ·rename_i el bts T oo hk
    cases h
    have hkd:=(hΓ.ty _ _ hl).kind
    rw [hk] at hkd
    refine lB rfl hd fun S w η a _ ho=>?_
    have hm:=cA hw hc hxe hmem ho
    cases oo with
    | none =>
     have e1:a.eval x=.slice none 0 0:=hm
     exact ⟨_,mF (ts:=#[]) hop (run_underlying hkd.1 _) e1,cG (Nat.zero_le _)⟩
    | some xs =>
     obtain ⟨base,cap,e1,e2,e3,_⟩:=VRep.slice hm.1
     exact ⟨_,mF (ts:=#[]) hop (run_underlying hkd.1 _) e1,cG (Nat.le_trans e2 e3)⟩
   ·rename_i s hk
    cases h
    have hkd:=(hΓ.ty _ _ hl).kind
    rw [hk] at hkd
    refine lB rfl hd fun S w η a _ ho=>?_
    obtain ⟨h1,h2⟩:=VRep.str.1 (cA hw hc hxe hmem ho).2
    exact ⟨.int .i64 (s.length:Nat),by simp [execOp,hop,resolve,invoke,builtin,h1,Builtin.len_,hkd w,goInt,← ByteArray.size_data],cG h2⟩
   ·cases h
   ·cases h
  ·cases h
 ·rename_i k x' k' y' t1 t2 hargs hts
  split at h
  ·rename_i y'' hcast
   obtain ⟨he,rfl⟩:=kA hcast
   cases he
   cases h
   obtain ⟨x,y,hxs,hxe,hye⟩:∃ x y,c.args.toList=[x,y]∧ev e ctx x=some (.c (.d (.int k) x'))∧ev e ctx y=some (.c (.d (.int k) y')):=by
    match hl:c.args.toList with
    | []=>rw [hl] at hargs;cases hargs
    | [x]=>rw [hl] at hargs;simp at hargs
    | [x,y]=>rw [hl] at hargs;simp at hargs;exact ⟨x,y,rfl,hargs.1,hargs.2⟩
    | _::_::_::_=>rw [hl] at hargs;simp at hargs
   have hce:=gC hcal hxs hts
   subst hce
   refine lB rfl hd fun S w η a _ ho=>?_
   obtain ⟨h1,k1⟩:=PM.int.1 (cA hw hc hxe (by rw [hop];simp [Op.operands,Call.operands]) ho)
   obtain ⟨h2,k2⟩:=PM.int.1 (cA hw hc hye (by rw [hop];simp [Op.operands,Call.operands]) ho)
   refine ⟨.int k (Min.min (x':Int) y'),?_,PM.int.2 ⟨rfl,?_⟩⟩
   ·simp [execOp,hop,resolve,invoke,builtin,h1,h2,Builtin.min_,Builtin.min2]
    by_cases h:(y':Int)<x'
    ·rw [if_pos h,Int.min_eq_right (Int.le_of_lt h)]
    ·rw [if_neg h,Int.min_eq_left (Int.not_lt.1 h)]
   ·rcases Int.le_total x' y' with h | h
    ·rw [Int.min_eq_left h];exact k1
    ·rw [Int.min_eq_right h];exact k2
  ·cases h
 ·rename_i k x' k' y' t1 t2 hargs hts
  split at h
  ·rename_i y'' hcast
   obtain ⟨he,rfl⟩:=kA hcast
   cases he
   cases h
   obtain ⟨x,y,hxs,hxe,hye⟩:∃ x y,c.args.toList=[x,y]∧ev e ctx x=some (.c (.d (.int k) x'))∧ev e ctx y=some (.c (.d (.int k) y')):=by
    match hl:c.args.toList with
    | []=>rw [hl] at hargs;cases hargs
    | [x]=>rw [hl] at hargs;simp at hargs
    | [x,y]=>rw [hl] at hargs;simp at hargs;exact ⟨x,y,rfl,hargs.1,hargs.2⟩
    | _::_::_::_=>rw [hl] at hargs;simp at hargs
   have hce:=gC hcal hxs hts
   subst hce
   refine lB rfl hd fun S w η a _ ho=>?_
   obtain ⟨h1,k1⟩:=PM.int.1 (cA hw hc hxe (by rw [hop];simp [Op.operands,Call.operands]) ho)
   obtain ⟨h2,k2⟩:=PM.int.1 (cA hw hc hye (by rw [hop];simp [Op.operands,Call.operands]) ho)
   refine ⟨.int k (Max.max (x':Int) y'),?_,PM.int.2 ⟨rfl,?_⟩⟩
   ·simp [execOp,hop,resolve,invoke,builtin,h1,h2,Builtin.max_,Builtin.max2]
    by_cases h:(y':Int) > x'
    ·rw [if_pos h,Int.max_eq_right (Int.le_of_lt h)]
    ·rw [if_neg h,Int.max_eq_left (Int.not_lt.1 h)]
   ·rcases Int.le_total x' y' with h | h
    ·rw [Int.max_eq_right h];exact k2
    ·rw [Int.max_eq_left h];exact k1
  ·cases h
 ·cases h

theorem fvs_sound (hw:Wf e) (hc:CtxH e ctx) (ho:En.Only (lk e) (rA o) S w η a.tmps):∀ {xs:List Operand} {fs:List FV},fvs e ctx xs=some fs→(∀ x∈xs,x∈o.op.operands.toList)→All2 (FM S w η) fs (xs.map a.eval)
 | [],_,h,_=>by cases h;exact .nil
 | x::r,fs,h,hm=>by
  unfold fvs at h
  split at h
  ·rename_i pv hx
   split at h
   ·rename_i f l hf hl
    cases h
    have h1:=cA hw hc hx (hm x (by simp)) ho
    refine .cons ?_ (fvs_sound hw hc ho hl fun y hy=>hm y (by simp [hy]))
    unfold fvOf at hf
    split at hf
    ·cases hf;exact h1
    ·cases hf;exact h1
    ·cases hf;exact h1
    ·cases hf;exact h1.2
    ·cases hf
   ·cases h
  ·cases h
theorem RV.cells_sound {x:RV} {v:Value} (h:RM S w η x v):∃ vs:List Value,v.cells=vs.toArray∧All2 (CM S w η) x.cells vs:=by
 cases x with
 | c x=>exact ⟨[v],one_cells (CM.one h),.cons h .nil⟩
 | s l =>
  obtain ⟨vs,rfl,h2⟩:=h
  exact ⟨vs,rfl,h2⟩
theorem aK {place:Nat→Option (Nat×Nat)} (hw:Wf e) (hc:CtxH e ctx) (ho:En.Only (lk e) (rA o) S w η a.tmps):∀ {parts:List (Nat×Operand)} {l l':List CV} {cs:List Value},fillC place e ctx parts l=some l'→(∀ p∈parts,p.2∈o.op.operands.toList)→All2 (CM S w η) l cs →
  ∃ ds:List Value,Instr.fill place cs.toArray (parts.map fun p=>(p.1,a.eval p.2))=some ds.toArray∧All2 (CM S w η) l' ds
 | [],l,l',cs,h,_,hm=>by cases h;exact ⟨cs,rfl,hm⟩
 | (i,x)::r,l,l',cs,h,hmem,hm=>by
  unfold fillC at h
  split at h
  ·rename_i off sz v hp hx
   split at h
   ·rename_i hb
    simp only [bA] at hb
    have h1:=nB hb.1
    have h2:=nL hb.2
    obtain ⟨vs,g1,g2⟩:=RV.cells_sound (cA hw hc hx (hmem (i,x) (by simp)) ho)
    have hvl:=g2.length
    have hl:=hm.length
    have hcs:cs=cs.take off++((cs.drop off).take sz++cs.drop (off+sz)):=by
     rw [← List.drop_drop,List.take_append_drop,List.take_append_drop]
    rw [List.map_cons]
    rw [hcs]
    rw [fill_one (off:=off) (vs:=vs) (by rw [hp];simp;omega) g1 (by simp;omega) (by simp;omega)]
    refine aK hw hc ho h (fun p hp=>hmem p (by simp [hp])) ?_
    refine All2.append (All2.mk (by simp [hl]) fun i a b ha hb=>?_) (All2.append g2 (All2.mk (by simp [hl]) fun i a b ha hb=>?_))
    ·have hi:i<off:=by have:=(gS.1 ha).1;simp at this;omega
     rw [List.getElem?_take_of_lt hi] at ha hb
     obtain ⟨b',hb',hr⟩:=hm.get _ a ha
     rw [hb] at hb';cases hb';exact hr
    ·rw [List.getElem?_drop] at ha hb
     obtain ⟨b',hb',hr⟩:=hm.get _ a ha
     rw [hb] at hb';cases hb';exact hr
   ·cases h
  ·cases h
theorem buildR_fl {t:TypeId} {parts:List (Nat×Operand)} {R:RdR} (h:buildR Γ e ctx t parts H nx=some R):R.fl=0:=by
 unfold buildR at h
 split at h
 ·split at h
  ·split at h
   ·cases h;rfl
   ·cases h
  ·split at h
   ·split at h
    ·cases h;rfl
    ·cases h
   ·cases h
  ·cases h
 ·cases h
theorem buildR_sound (hΓ:TabOK P Γ) {t:TypeId} {parts:Array (Nat×Operand)} {R:RdR} (hop:o.op=.build t parts) (hw:Wf e) (hc:CtxH e ctx) (h:buildR Γ e ctx t parts.toList H nx=some R) (r:R.T) (ho:En.Only (lk e) (rA o) S w η a.tmps) :
  ∃ v,(execOp a.eval o).run P w=.ok (.value v) w∧PM S w η (R.pv r) v:=by
 have hmem:∀ p∈parts.toList,p.2∈o.op.operands.toList:=fun p hp=>by
  rw [hop];simp [Op.operands];exact ⟨p.1,by simpa using hp⟩
 have hpe:(parts.map fun (x:Nat×Operand)=>(x.1,a.eval x.2)).toList=parts.toList.map fun p=>(p.1,a.eval p.2):=by simp
 unfold buildR at h
 split at h
 ·rename_i ti hl
  have hI:=hΓ.ty _ _ hl
  obtain ⟨z,hz1,⟨cs,hz2,hz3⟩,_⟩:=hI.zero
  have hkd:=hI.kind
  split at h
  ·rename_i fs hk
   rw [hk] at hkd
   obtain ⟨farr,k1,_,k3⟩:=hkd
   split at h
   ·rename_i l hf
    cases h
    obtain ⟨ds,g1,g2⟩:=aK hw hc ho hf hmem (hz3 S w η)
    refine ⟨.agg ds.toArray,?_,ds,rfl,g2⟩
    have hpl:(fun (i:Nat)=>((fs.map fun (f:Nat×TypeId×Nat)=>(f.1,f.2.2)).toArray[i]?:Option (Nat×Nat)))=fun (i:Nat)=>(fs[i]?).map fun (f:Nat×TypeId×Nat)=>(f.1,f.2.2):=by
     funext i;simp
    simp only [execOp,hop,Instr.build,Sem.run_bind,hz1,Result.andThen,k1,k3,hz2]
    rw [← hpl,← hpe] at g1
    simp only [g1]
    rfl
   ·cases h
  ·rename_i n el hk
   rw [hk] at hkd
   split at h
   ·rename_i te hl2
    split at h
    ·rename_i l hf
     cases h
     obtain ⟨ds,g1,g2⟩:=aK hw hc ho hf hmem (hz3 S w η)
     refine ⟨.agg ds.toArray,?_,ds,rfl,g2⟩
     simp only [execOp,hop,Instr.build,Sem.run_bind,hz1,Result.andThen,hkd,hz2,(hΓ.ty _ _ hl2).size]
     rw [← hpe] at g1
     simp only [g1]
     rfl
    ·cases h
   ·cases h
  ·cases h
 ·cases h

theorem opA_sound:OpF.Sound opA:=by
 intro P Γ hΓ rd B o e ctx H nx R h hw hc r hr
 unfold opA at h
 split at h
 ·rename_i x hop
  unfold mvR at h
  split at h
  ·rename_i pv hx
   cases h
   exact lB rfl (by rw [hop];intro c hh;cases hh) fun S w η a _ ho=>⟨_,by simp [execOp,hop],cA hw hc hx (by rw [hop];simp [Op.operands]) ho⟩
  ·cases h
 ·rename_i x hop
  unfold mvR at h
  split at h
  ·rename_i pv hx
   cases h
   exact lB rfl (by rw [hop];intro c hh;cases hh) fun S w η a _ ho=>⟨_,by simp [execOp,hop],cA hw hc hx (by rw [hop];simp [Op.operands]) ho⟩
  ·cases h
 ·rename_i c x y hop
  exact pickR_ok hop h hw hc r
 ·rename_i op t x y t' hop
  split at h
  ·rename_i pa pb hx hy
   refine lB (binR_fl h) (by rw [hop];intro c hh;cases hh) fun S w η a _ ho=>?_
   obtain ⟨_,v,h1,h2⟩:=binR_sound (P:=P) hΓ (x:=x) (y:=y) h (cA hw hc hx (by rw [hop];simp [Op.operands]) ho) (cA hw hc hy (by rw [hop];simp [Op.operands]) ho) r hr
   exact ⟨v,by simp only [execOp,hop];simp only [Sem.run_bind] at h1 ⊢;rw [h1];rfl,h2⟩
  ·cases h
 ·rename_i op t x hop
  split at h
  ·rename_i pa hx
   refine lB (unR_fl h) (by rw [hop];intro c hh;cases hh) fun S w η a _ ho=>?_
   obtain ⟨_,v,h1,h2⟩:=unR_sound (P:=P) h (cA hw hc hx (by rw [hop];simp [Op.operands]) ho) r hr
   exact ⟨v,by simp [execOp,hop,h1],h2⟩
  ·cases h
 ·rename_i x i hop
  split at h
  ·rename_i l hx
   split at h
   ·rename_i rv hl
    cases h
    refine lB rfl (by rw [hop];intro c hh;cases hh) fun S w η a _ ho=>?_
    obtain ⟨vs,h1,h2⟩:=cA hw hc hx (by rw [hop];simp [Op.operands]) ho
    obtain ⟨v,hv,hm⟩:=h2.get _ _ hl
    exact ⟨v,by simp [execOp,hop,h1,Instr.extract,hv],hm⟩
   ·cases h
  ·cases h
 ·rename_i g first caps hop
  split at h
  ·rename_i fs cs h1 h2
   cases h
   refine lB rfl (by rw [hop];intro c hh;cases hh) fun S w η a _ ho=>?_
   exact ⟨.func (.func g) (first.toList.map a.eval).toArray (caps.toList.map a.eval).toArray,by simp [execOp,hop,Instr.makeFunc,← Array.toList_map],_,_,rfl,fvs_sound hw hc ho h1 (by rw [hop];intro x hx;simp [Op.operands];exact .inl (by simpa using hx)),
    fvs_sound hw hc ho h2 (by rw [hop];intro x hx;simp [Op.operands];exact .inr (by simpa using hx))⟩
  ·cases h
 ·rename_i x hop
  split at h
  ·rename_i id k hx
   cases h
   refine lB rfl (by rw [hop];intro c hh;cases hh) fun S w η a _ ho=>?_
   have hm:=cA hw hc hx (by rw [hop];simp [Op.operands]) ho
   have hm':=hm
   obtain ⟨b,h1,h2⟩:=hm'
   exact ⟨a.eval x,by simp [execOp,hop,h2],hm⟩
  ·rename_i T x' hx
   cases h
   refine lB rfl (by rw [hop];intro c hh;cases hh) fun S w η a _ ho=>?_
   have hm:=cA hw hc hx (by rw [hop];simp [Op.operands]) ho
   have hm':=hm
   obtain ⟨b,k,cs,h2,_⟩:=hm'
   exact ⟨a.eval x,by simp [execOp,hop,h2],hm⟩
  ·rename_i id sz i k hx
   cases h
   refine lB rfl (by rw [hop];intro c hh;cases hh) fun S w η a _ ho=>?_
   have hm:=cA hw hc hx (by rw [hop];simp [Op.operands]) ho
   have hm':=hm
   obtain ⟨b,o',n,cap,_,h2⟩:=hm'
   exact ⟨a.eval x,by simp [execOp,hop,h2],hm⟩
  ·cases h
 ·rename_i t x i hop
  split at h
  ·rename_i off ti l hf hx
   split at h
   ·rename_i rv hcut
    cases h
    obtain ⟨farr,f,ft,h1,h2,h3,h4,h5,_⟩:=fieldOf_sound hΓ hf
    refine lB rfl (by rw [hop];intro c hh;cases hh) fun S w η a _ ho=>?_
    obtain ⟨vs,g1,g2⟩:=cA hw hc hx (by rw [hop];simp [Op.operands]) ho
    obtain ⟨v,hv,hm⟩:=cutR_sound (P:=P) (w:=w) h5 hcut g2
    exact ⟨v,by simp [execOp,hop,Instr.field,h1,h2,g1,asAgg,h4,h3,hv],hm⟩
   ·cases h
  ·cases h
 ·rename_i t x i hop
  split at h
  ·rename_i off ti pv hf hx
   obtain ⟨farr,f,ft,h1,h2,h3,h4,h5,h6⟩:=fieldOf_sound hΓ hf
   subst h4
   refine lB (addrR_fl h) (by rw [hop];intro c hh;cases hh) fun S w η a _ ho=>?_
   obtain ⟨b,k,g1,g2⟩:=addrR_sound h (cA hw hc hx (by rw [hop];simp [Op.operands]) ho) r
   exact ⟨_,by have:=run_fieldAt h1 h2 h3 h5 h6 b k (w:=w);simp [execOp,hop,g1,this],g2⟩
  ·cases h
 ·rename_i t x i hop
  split at h
  ·rename_i off ti pv hf hx
   obtain ⟨m,n,el,rfl,h1,h2,h3,h4,rfl⟩:=elemOf_sound hΓ hf
   refine lB (addrR_fl h) (by rw [hop];intro c hh;cases hh) fun S w η a _ ho=>?_
   obtain ⟨b,k,g1,g2⟩:=addrR_sound h (cA hw hc hx (by rw [hop];simp [Op.operands]) ho) r
   exact ⟨_,by simp [execOp,hop,g1,Act.ev_c,Instr.indexAt,asIntOf,h1,Instr.sureAddr,h4.size,h2,Addr.add_lit],g2⟩
  ·rename_i pv ix _ hx hi
   exact ixA_ok hΓ hop hw hc hx hi h r hr
  ·cases h
 ·rename_i t x i hop
  split at h
  ·rename_i off ti l hf hx
   split at h
   ·rename_i rv hcut
    cases h
    obtain ⟨m,n,el,rfl,h1,h2,h3,h4,rfl⟩:=elemOf_sound hΓ hf
    refine lB rfl (by rw [hop];intro c hh;cases hh) fun S w η a _ ho=>?_
    obtain ⟨vs,g1,g2⟩:=cA hw hc hx (by rw [hop];simp [Op.operands]) ho
    obtain ⟨v,hv,hm⟩:=cutR_sound (P:=P) (w:=w) h4 hcut g2
    exact ⟨v,by simp [execOp,hop,Act.ev_c,Instr.index,asIntOf,h1,g1,h2,h4.size,hv],hm⟩
   ·cases h
  ·cases h
 ·rename_i t x hop
  split at h
  ·rename_i T x' ti hx hl
   split at h
   ·rename_i T' hT
    split at h
    ·rename_i y hy
     cases h
     refine lB rfl (by rw [hop];intro c hh;cases hh) fun S w η a _ ho=>?_
     obtain ⟨b,off,cs,h1,h2,h3⟩:=cA hw hc hx (by rw [hop];simp [Op.operands]) ho
     have h2':=castT_rep hy h2
     exact ⟨_,by simp [execOp,hop,h1,Instr.loadAt,Instr.sureAddr,kJ (hΓ.ty _ _ hl) hT h2' fun j u hu=>(h3 j u hu).2],VRep.rm ⟨cs,h2',rfl⟩⟩
    ·cases h
   ·cases h
  ·cases h
 ·rename_i c hop
  split at h
  ·rename_i b hcal
   exact bltA_ok hΓ hop hcal hw hc h r
  ·cases h
 ·rename_i t parts hop
  exact lB (buildR_fl h) (by rw [hop];intro c hh;cases hh) fun S w η a _ ho=>buildR_sound hΓ hop hw hc h r ho
 ·cases h
end

structure SlP (P:Program) (id:TypeId) (el:TypeId) (T:Ty) (by_:Nat):Prop where
 und:P.underlying id=some (.slice el)
 info:∃ i z,P.info? el=some i∧i.zero=some z∧z.cells=T.zero.toArray∧i.size=T.size∧i.bytes=by_
 pos:0<by_
theorem SlP.of {P:Program} {id el:TypeId} {T:Ty} {bts:Nat} {ti te:TI} (hI:TIok P id ti) (hk:ti.kind=.slice el bts) (hE:TIok P el te) (hT:te.ty=some T):SlP P id el T bts:=by
 have hkd:=hI.kind
 rw [hk] at hkd
 obtain ⟨h1,h2,i,z,h3,h4,h5,h6,h7⟩:=hkd
 obtain ⟨z',k1,_,k3⟩:=hE.zero
 have hz:z=z':=by have:=(h6 default).symm.trans (k1 default);injection this
 have hs:i.size=te.size:=by have:=(h7 default).symm.trans (hE.size default);injection this
 exact ⟨h1,⟨i,z,h3,h4,by rw [hz];exact k3 T hT,by rw [hs];exact (hE.ty T hT).2.symm,h5⟩,h2⟩
theorem _root_.Go.Abs.Ty.size_pos:∀ t:Ty,0<t.size
 | .int _ | .bool | .str | .list _=>Nat.one_pos
 | .one t=>t.size_pos
 | .pair a b=>Nat.lt_of_lt_of_le a.size_pos (Nat.le_add_right _ _)
theorem _root_.Go.Abs.Ty.zero_rep (S:Cells) (w:World):∀ t:Ty,Rep S w t t.dflt t.zero
 | .int k=>⟨rfl,by unfold IntKind.has;cases k<;>decide⟩
 | .bool=>rfl
 | .str=>⟨rfl,Nat.zero_le _⟩
 | .list t=>⟨none,0,rfl,nR _,Nat.zero_le _,.inl rfl⟩
 | .one t=>t.zero_rep S w
 | .pair a b=>⟨_,_,rfl,a.zero_rep S w,b.zero_rep S w⟩
theorem _root_.Go.Abs.Ty.zero_length (t:Ty):t.zero.length=t.size:=(t.zero_rep (fun _ _=>False) default).length
theorem _root_.Go.Abs.Ty.zero_one (t:Ty):∀ u∈t.zero,u.oneCell'=true:=(t.zero_rep (fun _ _=>False) default).oneCell

def RepL (S:Cells) (w:World) (t:Ty):List t.den→List Value→Prop
 | [],cs=>cs=[]
 | x::xs,cs=>∃ c1 c2,cs=c1++c2∧Rep S w t x c1∧RepL S w t xs c2
theorem RepL.length {S:Cells} {w:World} {t:Ty}:∀ {xs:List t.den} {cs:List Value},RepL S w t xs cs→cs.length=xs.length*t.size
 | [],_,h=>by cases h;simp
 | x::xs,_,h=>by
  obtain ⟨c1,c2,rfl,h1,h2⟩:=h
  rw [lA,h1.length,h2.length,List.length_cons,Nat.add_mul];omega
theorem RepL.one {S:Cells} {w:World} {t:Ty}:∀ {xs:List t.den} {cs:List Value},RepL S w t xs cs→∀ u∈cs,u.oneCell'=true
 | [],_,h=>by cases h;simp
 | x::xs,_,h=>by
  obtain ⟨c1,c2,rfl,h1,h2⟩:=h
  intro u hu
  rcases List.mem_append.1 hu with hu | hu
  ·exact h1.oneCell u hu
  ·exact h2.one u hu
theorem RepL.keep {S S':Cells} {w w':World} (k:Keep S w S' w') {t:Ty}:∀ {xs:List t.den} {cs:List Value},RepL S w t xs cs→RepL S' w' t xs cs
 | [],_,h=>h
 | x::xs,_,h=>by
  obtain ⟨c1,c2,rfl,h1,h2⟩:=h
  exact ⟨c1,c2,rfl,h1.keep k,h2.keep k⟩
theorem RepL.append {S:Cells} {w:World} {t:Ty}:∀ {xs ys:List t.den} {cs ds:List Value},RepL S w t xs cs→RepL S w t ys ds→RepL S w t (xs++ys) (cs++ds)
 | [],_,_,_,h,k=>by cases h;exact k
 | x::xs,_,_,_,h,k=>by
  obtain ⟨c1,c2,rfl,h1,h2⟩:=h
  exact ⟨c1,_,by simp,h1,h2.append k⟩
theorem RepL.get {S:Cells} {w:World} {t:Ty}:∀ {xs:List t.den} {cs:List Value},RepL S w t xs cs→∀ (i:Nat) (x:t.den),xs[i]? = some x →
  ∃ es,Rep S w t x es∧∀ j u,es[j]? = some u→cs[i*t.size+j]? = some u
 | [],_,_,i,x,hx=>by simp at hx
 | y::xs,_,h,i,x,hx=>by
  obtain ⟨c1,c2,rfl,h1,h2⟩:=h
  cases i with
  | zero =>
   simp at hx;subst hx
   refine ⟨c1,h1,fun j u hj=>?_⟩
   rw [Nat.zero_mul,Nat.zero_add,xL (gS.1 hj).1];exact hj
  | succ i =>
   obtain ⟨es,he,hc⟩:=h2.get i x (by simpa using hx)
   refine ⟨es,he,fun j u hj=>?_⟩
   have hl:=h1.length
   rw [Nat.add_mul,Nat.one_mul,xR (by omega),show i*t.size+t.size+j-c1.length=i*t.size+j by omega]
   exact hc j u hj
theorem RepL.of {S:Cells} {w:World} {t:Ty} {b:Nat}:∀ {xs:List t.den} {off:Nat} (_:∀ (i:Nat) (x:t.den),xs[i]? = some x →
    ∃ es,Rep S w t x es∧∀ j u,es[j]? = some u→w.cell? ⟨b,off+i*t.size+j,none⟩=some u),
  ∃ cs,RepL S w t xs cs∧∀ j u,cs[j]? = some u→w.cell? ⟨b,off+j,none⟩=some u
 | [],_,_=>⟨[],rfl,fun j u h=>by simp at h⟩
 | x::xs,off,f=>by
  obtain ⟨c1,h1,g1⟩:=f 0 x rfl
  obtain ⟨c2,h2,g2⟩:=RepL.of (xs:=xs) (off:=off+t.size) (fun i y hy=>by
   obtain ⟨es,he,hc⟩:=f (i+1) y (by simpa using hy)
   refine ⟨es,he,fun j u hj=>?_⟩
   have:=hc j u hj
   rw [Nat.add_mul,Nat.one_mul] at this
   rw [show off+t.size+i*t.size+j=off+(i*t.size+t.size)+j by omega];exact this)
  refine ⟨c1++c2,⟨c1,c2,rfl,h1,h2⟩,fun j u hj=>?_⟩
  have hl:=h1.length
  by_cases hlt:j<c1.length
  ·rw [xL hlt] at hj
   have:=g1 j u hj
   simpa using this
  ·rw [xR (by omega)] at hj
   have:=g2 _ u hj
   rw [show off+t.size+(j-c1.length)=off+j by omega] at this;exact this

theorem VRep.mkSlice {S:Cells} {w:World} {t:Ty} {xs:List t.den} {cs:List Value} {b off cap:Nat} (h:RepL S w t xs cs) (h1:xs.length≤cap) (h2:cap≤maxLen)
  (hc:∀ j u,cs[j]? = some u→S b (off+j)∧w.cell? ⟨b,off+j,none⟩=some u):VRep S w (.list t) xs (.slice (some ⟨b,off,none⟩) xs.length cap):=by
 refine ⟨_,⟨_,cap,rfl,h1,h2,.inr ⟨b,off,rfl,fun i x hx=>?_⟩⟩,rfl⟩
 obtain ⟨es,he,hg⟩:=h.get i x hx
 refine ⟨es,he,fun j u hj=>?_⟩
 have:=hc _ u (hg j u hj)
 rw [Nat.add_assoc];exact this

theorem VRep.src {P:Program} {S:Cells} {w:World} {id el:TypeId} {t:Ty} {ys:List t.den} {v:Value} (hu:P.underlying id=some (.slice el)) (h:VRep S w (.list t) ys v) :
  ∃ news,RepL S w t ys news∧Src P t.size id v ys.length news w:=by
 obtain ⟨base,cap,rfl,h1,h2,h3⟩:=VRep.slice h
 rcases h3 with h3 | ⟨b,off,rfl,h3⟩
 ·have hy:ys=[]:=lN h3
  subst hy
  refine ⟨[],rfl,?_⟩
  cases base with
  | none=>exact Src.ofNil w hu cap
  | some a=>exact Src.ofSlice w hu a 0 cap [] (by simp) (fun j u hj=>by simp at hj) (fun u hu=>by cases hu)
 ·obtain ⟨cs,hr,hc⟩:=RepL.of (b:=b) (off:=off) (fun i x hx=>by
   obtain ⟨es,he,hg⟩:=h3 i x hx
   exact ⟨es,he,fun j u hj=>(hg j u hj).2⟩)
  refine ⟨cs,hr,Src.ofSlice w hu ⟨b,off,none⟩ ys.length cap cs hr.length (fun j u hj=>?_) hr.one⟩
  rw [Addr.add_lit];exact hc j u hj

theorem zeroCells_one {t:Ty} (n:Nat):∀ u∈(Builtin.zeroCells t.zero.toArray n).toList,u.oneCell'=true:=by
 intro u hu
 unfold Builtin.zeroCells at hu
 simp only [Array.toList_map,List.mem_map] at hu
 obtain ⟨i,hi,rfl⟩:=hu
 have hp:0<t.zero.length:=by rw [t.zero_length];exact t.size_pos
 have hlt:i % t.zero.toArray.size<t.zero.length:=by simpa using Nat.mod_lt i hp
 rw [getElem!_pos t.zero.toArray _ (by simpa using hlt)]
 exact t.zero_one _ (by simp)
theorem qE {t:Ty} (n:Nat):(Builtin.zeroCells t.zero.toArray n).size=n*t.size:=by
 simp [Builtin.zeroCells,t.zero_length]

section
variable {P:Program} {o:Oper} {B:Nat} {S S':Cells} {w w':World}
theorem yJ (w:World) (need old:Nat) (el:TypeId) (h:need≤9223372036854775807):need≤grownCap w need old el∧grownCap w need old el≤9223372036854775807:=by
 unfold grownCap
 simp only [Question.cut]
 have:=Nat.mod_lt (w.tape w.drawn (.appendCap need old el)) (y:=2 ^ 63-need) (by omega)
 omega

theorem gB (b:Nat):∀ (vs:List Value) (o:Nat) (w:World) (i:Nat),i≠b→(w.setCells b o vs).heap[i]? = w.heap[i]?
 | [],_,_,_,_=>rfl
 | v::r,o,w,i,h=>by rw [World.setCells,gB b r _ _ i h];exact Below.heap_setCell _ _ _ _ (by simpa using h)
theorem zA (b:Nat):∀ (vs:List Value) (o:Nat) (w:World),(w.setCells b o vs).heap.size=w.heap.size
 | [],_,_=>rfl
 | v::r,o,w=>by rw [World.setCells,zA b r];simp
theorem lK {b:Nat} (hB:B≤b):∀ (vs:List Value) (o:Nat) (w:World),Below B w (w.setCells b o vs)
 | [],_,_=>Below.refl _ _
 | v::r,o,w=>by rw [World.setCells];exact ((Below.refl B w).setCell (p:=⟨b,o,none⟩) hB v).trans (lK hB r (o+1) _)

theorem Grow.stored {b off:Nat} {vs:List Value} (hi:InLt S w) (hB:B≤b) (hS:∀ j,j<vs.length→¬ S b (off+j)):Grow B S w S (w.setCells b off vs):=by
 refine ⟨lK hB _ _ _,⟨fun _ _ h=>h,fun b' o h=>?_⟩,fun b' o h=>by rw [zA];exact hi b' o h,fun _ _ h=>.inl h,LK.setCells _ _ _ _⟩
 refine World.cell?_setCells_out b vs off w ⟨b',o,none⟩ fun h1 _=>?_
 simp only at h1 ⊢
 subst h1
 rcases Nat.lt_or_ge o off with h2 | h2
 ·exact .inl h2
 ·right
  rcases Nat.lt_or_ge o (off+vs.length) with h3 | h3
  ·exact absurd h (by have:=hS (o-off) (by omega);rw [show off+(o-off)=o by omega] at this;exact this)
  ·exact h3

theorem lJ {id el:TypeId} {T:Ty} {by_:Nat} (hI:SlP P id el T by_) {base:Option Addr} {cap:Nat} {xs ys:List T.den} {olds:List Value} {x:Value} {ty:TypeId}
  (hro:RepL S w T xs olds) (hold:(Builtin.firstCells T.size xs.length (.slice base xs.length cap)).run P w.drew=.ok olds.toArray w.drew) (hx:VRep S w (.list T) ys x) (hg:cap<xs.length+ys.length) (hb:(xs.length+ys.length)*by_≤140737488355328) :
  ∃ (cap':Nat) (cs:Array Value),(Builtin.append_ #[id,id] ty #[.slice base xs.length cap,x]).run P w=.ok (.slice (some ⟨w.heap.size,0,none⟩) (xs.length+ys.length) cap') (w.drew.alloc (.cells cs el))∧xs.length+ys.length≤cap'∧cap'≤maxLen ∧
   cs.size=cap'*T.size∧(∀ u∈cs.toList,u.oneCell'=true)∧∃ news:List Value,RepL S w T (xs++ys) news∧∀ (j:Nat) (u:Value),news[j]? = some u→cs[j]? = some u:=by
 obtain ⟨hu,⟨i,z,h1,h2,h3,h4,h5⟩,hp⟩:=hI
 obtain ⟨ws,hws,hsrc⟩:=VRep.src (P:=P) hu hx
 have hn:xs.length+ys.length≤140737488355328:=Nat.le_trans (Nat.le_mul_of_pos_right _ hp) hb
 have hcap:Builtin.nextslicecap (xs.length+ys.length) cap*i.bytes≤281474976710656:=by
  have:=nextslicecap_le hg
  have:=Nat.mul_le_mul_right i.bytes this
  rw [Nat.mul_assoc] at this
  rw [h5] at this ⊢
  omega
 have hr:=run_append_grow_src (P:=P) w id id ty el i z hu h1 h2 base xs.length cap olds (by rw [h4];exact hold) x ys.length ws (h4▸hsrc) hg (by omega) hcap
 have hgc:=yJ w (xs.length+ys.length) cap el (by omega)
 have hl:=(hro.append hws).length
 rw [lA] at hl
 rw [lA] at hl
 refine ⟨grownCap w (xs.length+ys.length) cap el,_,hr,hgc.1,by simp only [maxLen];omega,?_,?_,olds++ws,hro.append hws,fun j u hj=>?_⟩
 ·rw [h3,Array.size_append,qE]
  simp only [List.size_toArray,lA]
  rw [hl,← Nat.add_mul]
  congr 1;omega
 ·intro u hu
  rw [Array.toList_append] at hu
  rcases List.mem_append.1 hu with hu | hu
  ·exact (hro.append hws).one u (by simpa using hu)
  ·rw [h3] at hu;exact zeroCells_one _ u hu
 ·have hlt:=(gS.1 hj).1
  rw [Array.getElem?_append_left (by simpa using hlt)]
  simpa using hj

theorem ArrH.append {F:Cells} {u x:Value} {id el ty:TypeId} {T:Ty} {by_:Nat} {xs ys:List T.den} (hI:SlP P id el T by_) (hB:B≤w.heap.size) (hF:∀ b o,F b o→B≤b∧b<w.heap.size∧¬ S b o) (hin:InLt S w) (h:ArrH F S w u T xs)
  (hx:VRep S w (.list T) ys x) (hb:(xs.length+ys.length)*by_≤140737488355328):∃ (base:Option Addr) (cap:Nat) (w':World) (F':Cells),(Builtin.append_ #[id,id] ty #[u,x]).run P w=.ok (.slice base (xs++ys).length cap) w' ∧
   Grow B S w S w'∧ArrH F' S w' (.slice base (xs++ys).length cap) T (xs++ys)∧(∀ b o,F' b o→F b o∨w.heap.size≤b)∧(∀ b o,F' b o→b<w'.heap.size∧¬ S b o) ∧
   (∀ b o,b<w.heap.size→¬ F b o→w'.cell? ⟨b,o,none⟩=w.cell? ⟨b,o,none⟩∧w'.frozen? ⟨b,o,none⟩=w.frozen? ⟨b,o,none⟩) ∧
   ∀ b,b<w.heap.size→(∀ o,¬ F b o)→w'.heap[b]? = w.heap[b]? := by
 have h0:=h
 obtain ⟨base,cap,rfl,c1,c2,c3⟩:=h
 obtain ⟨news,hr,hsrc⟩:=VRep.src (P:=P) hI.und hx
 have hnl:=hr.length
 obtain ⟨i,z,i1,i2,i3,i4,i5⟩:=hI.info
 by_cases hroom:xs.length+ys.length≤cap
 ·by_cases hy:ys.length=0
  ·have hy':ys=[]:=lN hy
   subst hy'
   have hn0:news=[]:=hr
   subst hn0
   have hl:=hsrc.len w
   simp only [List.length_nil] at hl
   have hc':(Builtin.firstCells T.size 0 x).run P w=.ok #[] w:=hsrc.cells
   have hrun:(Builtin.append_ #[id,id] ty #[.slice base xs.length cap,x]).run P w=.ok (.slice base xs.length cap) w:=by
    rcases hsrc.kind with ⟨e',hk⟩ | hk
    ·simp [Builtin.append_,run_underlying hI.und,sizeOf,typeInfo,i1,i4,hl,hc',c1]
     cases base<;>simp [storeCells]
    ·rw [hI.und] at hk;cases hk
   rw [List.append_nil]
   exact ⟨base,cap,w,F,hrun,Grow.refl hin,h0,fun _ _ h=>.inl h,fun b o h=>⟨(hF b o h).2.1,(hF b o h).2.2⟩,fun _ _ _ _=>⟨rfl,rfl⟩,fun _ _ _=>rfl⟩
  ·rcases c3 with c3 | ⟨b,off,rfl,hf,ht,hxs⟩
   ·omega
   have hpos:=T.size_pos
   have hroomm:(xs.length+ys.length)*T.size≤cap*T.size:=Nat.mul_le_mul_right _ hroom
   rw [Nat.add_mul] at hroomm
   have hin2:∀ m,m<news.length→F b (off+xs.length*T.size+m):=fun m hm=>(hf _ _).2 ⟨rfl,by omega,by omega⟩
   have hthere:∀ m,m<news.length→World.there w b (off+xs.length*T.size+m):=fun m hm=>ht _ (by omega) (by omega)
   have hrun:(Builtin.append_ #[id,id] ty #[.slice (some ⟨b,off,none⟩) xs.length cap,x]).run P w=.ok (.slice (some ⟨b,off,none⟩) (xs.length+ys.length) cap) (w.setCells b (off+xs.length*T.size) news):=by
    have:=run_append_room_src (P:=P) w id id ty el i hI.und i1 b off xs.length cap x ys.length news (i4▸hsrc) hroom (fun m hm=>by
     rw [i4];obtain ⟨⟨v,hv⟩,_⟩:=hthere m hm;rw [hv];rfl) (fun m hm=>by rw [i4];exact (hthere m hm).2)
    rw [i4] at this;exact this
   have hb0:B≤b∧b<w.heap.size:=by
    have:=hF b _ (hin2 0 (by have:1*1≤ys.length*T.size:=Nat.mul_le_mul (by omega) T.size_pos;omega))
    exact ⟨this.1,this.2.1⟩
   have hst:Grow B S w S (w.setCells b (off+xs.length*T.size) news):=Grow.stored hin hb0.1 fun m hm=>(hF _ _ (hin2 m hm)).2.2
   have hcells:∀ m u,news[m]? = some u→(w.setCells b (off+xs.length*T.size) news).cell? ⟨b,off+xs.length*T.size+m,none⟩=some u:=fun m u hm=>by
    have hml:=(gS.1 hm).1
    rw [World.cell?_setCells_in b news _ w (fun m hm=>by obtain ⟨⟨v,hv⟩,_⟩:=hthere m hm;rw [hv];rfl) m hml]
    rw [gE hml] at hm
    exact hm
   refine ⟨some ⟨b,off,none⟩,cap,_,F,by rw [lA];exact hrun,hst,⟨_,cap,rfl,by rw [lA];exact hroom,c2,.inr ⟨b,off,rfl,hf,fun o h1 h2=>?_,fun m y hm=>?_⟩⟩,fun _ _ h=>.inl h,fun b o h=>⟨by rw [zA];exact (hF b o h).2.1,(hF b o h).2.2⟩,fun b' o' _ hn=>⟨?_,World.frozen?_setCells _ _ _ _ _⟩,fun b' _ hn=>gB b news _ w b' fun h=>?_⟩
   ·obtain ⟨⟨z,hz⟩,hfz⟩:=ht o h1 h2
    refine ⟨?_,by rw [World.frozen?_setCells];exact hfz⟩
    by_cases hio:off+xs.length*T.size≤o∧o<off+xs.length*T.size+news.length
    ·have:=hcells (o-(off+xs.length*T.size)) _ (gE (by omega))
     rw [show off+xs.length*T.size+(o-(off+xs.length*T.size))=o by omega] at this
     exact ⟨_,this⟩
    ·exact ⟨z,by rw [World.cell?_setCells_out b news _ w ⟨b,o,none⟩ fun _ _=>by simp only;omega];exact hz⟩
   ·by_cases hml:m<xs.length
    ·rw [xL hml] at hm
     obtain ⟨es,he,hc⟩:=hxs m y hm
     refine ⟨es,he.keep hst.keep,fun j v hj=>?_⟩
     have hjl:j<T.size:=by rw [← he.length];exact (gS.1 hj).1
     have hmm:(m+1)*T.size≤xs.length*T.size:=Nat.mul_le_mul_right _ (by omega)
     rw [Nat.add_mul] at hmm
     rw [World.cell?_setCells_out b news _ w ⟨b,_,none⟩ fun _ _=>by simp only;omega]
     exact hc j v hj
    ·rw [xR (by omega)] at hm
     obtain ⟨es,he,hc⟩:=hr.get _ y hm
     refine ⟨es,he.keep hst.keep,fun j v hj=>?_⟩
     have:=hcells _ v (hc j v hj)
     rw [show off+xs.length*T.size+((m-xs.length)*T.size+j)=off+(xs.length+(m-xs.length))*T.size+j by rw [Nat.add_mul];omega,show xs.length+(m-xs.length)=m by omega] at this
     exact this
   ·refine World.cell?_setCells_out b news _ w ⟨b',o',none⟩ fun h _=>?_
    simp only at h ⊢
    subst h
    rcases Nat.lt_or_ge o' (off+xs.length*T.size) with h | h
    ·exact .inl h
    ·refine .inr (Nat.le_of_not_lt fun hlt=>hn ?_)
     have:=hin2 (o'-(off+xs.length*T.size)) (by omega)
     rwa [show off+xs.length*T.size+(o'-(off+xs.length*T.size))=o' by omega] at this
   ·subst h
    exact hn _ (hin2 0 (by have:1*1≤ys.length*T.size:=Nat.mul_le_mul (by omega) T.size_pos;omega))
 ·have hold:∃ olds,RepL S w T xs olds∧(Builtin.firstCells T.size xs.length (.slice base xs.length cap)).run P w.drew=.ok olds.toArray w.drew:=by
   rcases c3 with c3 | ⟨b,off,rfl,hf,ht,hxs⟩
   ·have hxs:xs=[]:=lN (by omega)
    subst hxs
    refine ⟨[],rfl,?_⟩
    cases base with
    | none=>exact run_firstCells_none _ _ _ _ _
    | some a=>exact run_firstCells_some _ _ _ _ _ _ [] (by simp) (fun j u hj=>by simp at hj)
   ·obtain ⟨cs,hr,hc⟩:=RepL.of (b:=b) (off:=off) hxs
    refine ⟨cs,hr,run_firstCells_some _ _ _ _ _ _ cs hr.length (fun j u hj=>?_)⟩
    rw [Addr.add_lit];exact hc j u hj
  obtain ⟨olds,hro,hold⟩:=hold
  obtain ⟨cap',cs,hrun,d1,d2,d3,d4,ns,hns,hc⟩:=lJ (ty:=ty) hI hro hold hx (by omega) hb
  have hk:Keep S w S (w.drew.alloc (.cells cs el)):=⟨fun _ _ h=>h,fun b o h=>by rw [World.cell?_alloc_lt _ _ _ (hin b o h)];rfl⟩
  refine ⟨some ⟨w.heap.size,0,none⟩,cap',_,fun b o=>b=w.heap.size∧o<cap'*T.size,by rw [lA];exact hrun,⟨((Below.refl _ _).drew).alloc hB _,hk,fun b o h=>by have:=hin b o h;simp;omega,fun _ _ h=>.inl h,(LK.drew _).trans (LK.alloc _ _)⟩,
   ⟨_,cap',rfl,by rw [lA];exact d1,d2,.inr ⟨w.heap.size,0,rfl,fun b o=>by simp,fun o h1 h2=>?_,fun m y hm=>?_⟩⟩,fun b o h=>.inr (by omega),fun b o h=>⟨by simp;omega,fun hs=>?_⟩,fun b o hb' _=>⟨?_,?_⟩,fun b hb' _=>by rw [Below.heap_alloc _ _ _ (by simpa using hb')];rfl⟩
  ·have hlt:o<cs.size:=by rw [d3];omega
   exact ⟨⟨cs[o],by rw [World.cell?_alloc_at _ _ _ _ (by simp)];simp [hlt]⟩,World.frozen?_alloc_at _ _ _ _ (by simp)⟩
  ·obtain ⟨es,he,hg⟩:=hns.get m y hm
   refine ⟨es,he.keep hk,fun j v hj=>?_⟩
   rw [World.cell?_alloc_at _ _ _ _ (by simp),Nat.zero_add];exact hc _ v (hg j v hj)
  ·obtain ⟨rfl,_⟩:=h
   exact absurd (hin _ _ hs) (by omega)
  ·rw [World.cell?_alloc_lt _ _ _ (by simpa using hb')];rfl
  ·rw [World.frozen?_alloc_old _ _ _ (by simp;omega)];rfl

theorem ArrH.get {F:Cells} {u:Value} {T:Ty} {xs:List T.den} {i:Nat} (h:ArrH F S w u T xs) (hi:i<xs.length) :
  ∃ b off cap,u=.slice (some ⟨b,off,none⟩) xs.length cap∧xs.length≤cap∧(∀ b' o,F b' o↔b'=b∧off≤o∧o<off+cap*T.size) ∧
   (∀ j,j<T.size→World.there w b (off+i*T.size+j)∧F b (off+i*T.size+j)) ∧
   ∀ (i:Nat) (x:T.den),xs[i]? = some x→∃ es,Rep S w T x es∧∀ j v,es[j]? = some v→w.cell? ⟨b,off+i*T.size+j,none⟩=some v:=by
 obtain ⟨base,cap,e,h1,h2,h3⟩:=h
 rcases h3 with h3 | ⟨b,off,rfl,hf,ht,hx⟩
 ·omega
 refine ⟨b,off,cap,e,h1,hf,fun j hj=>?_,hx⟩
 have hm:(i+1)*T.size≤cap*T.size:=Nat.mul_le_mul_right _ (by omega)
 rw [Nat.add_mul] at hm
 exact ⟨ht _ (by omega) (by omega),(hf _ _).2 ⟨rfl,by omega,by omega⟩⟩

theorem ArrH.made (T:Ty) (n c:Nat) (el:TypeId) (hn:n≤c) (hc:c≤maxLen) :
  ArrH (fun b o=>b=w.heap.size∧o<c*T.size) S (w.alloc (.cells (madeCells T.zero.toArray (c*T.size)) el)) (.slice (some ⟨w.heap.size,0,none⟩) n c) T (List.replicate n T.dflt):=by
 have hget:∀ k,k<c*T.size→(w.alloc (.cells (madeCells T.zero.toArray (c*T.size)) el)).cell? ⟨w.heap.size,k,none⟩=T.zero[k % T.size]? := fun k hk=>by
  have hlt:k % T.size<T.zero.length:=by rw [T.zero_length];exact Nat.mod_lt _ T.size_pos
  rw [World.cell?_alloc_new]
  simp [madeCells,hk,T.zero_length]
  rw [gE hlt];simp
 refine ⟨_,c,by rw [List.length_replicate],by rw [List.length_replicate];exact hn,hc,.inr ⟨_,0,rfl,fun b' o=>by simp,fun o h1 h2=>?_,fun i x hx=>?_⟩⟩
 ·have ho:o<c*T.size:=by omega
  refine ⟨?_,World.frozen?_alloc_new _ _ _ _⟩
  rw [hget o ho]
  have hlt:o % T.size<T.zero.length:=by rw [T.zero_length];exact Nat.mod_lt _ T.size_pos
  exact ⟨_,gE hlt⟩
 ·obtain ⟨hi,rfl⟩:=gS.1 hx
  rw [List.length_replicate] at hi
  rw [List.getElem_replicate]
  refine ⟨T.zero,T.zero_rep _ _,fun j v hj=>?_⟩
  have hjl:j<T.size:=by rw [← T.zero_length];exact (gS.1 hj).1
  have hm:(i+1)*T.size≤c*T.size:=Nat.mul_le_mul_right _ (by omega)
  rw [Nat.add_mul] at hm
  rw [hget _ (by omega),Nat.zero_add,Nat.mul_comm i,Nat.mul_add_mod,Nat.mod_eq_of_lt hjl]
  exact hj

end

def oA (i n:Int):Option Unit:=match decide (0≤i),decide (i<n) with
 | true,true=>some ()
 | _,_=>none
def eB {α:Type} (bts:Nat) (xs ys:List α):Option (List α):=match decide ((xs.length+ys.length)*bts≤140737488355328) with
 | true=>some (xs++ys)
 | false=>none
def mkM {α:Type} (n c:Int) (bts:Nat) (d:α):Option (List α):=match decide (0≤n),decide (n≤c),decide (c*bts≤140737488355328) with
 | true,true,true=>some (List.replicate n.toNat d)
 | _,_,_=>none
def wE {α:Type} (xs:List α) (i:Int) (f:α→Option α):Option (List α):=match gA xs i with
 | some x=>match f x with
  | some y=>some (xs.set i.toNat y)
  | none=>none
 | none=>none
def pA {α:Type} (xs:List α) (lo hi:Int):Option (List α):=match decide (0≤lo),decide (lo≤hi),decide (hi≤xs.length) with
 | true,true,true=>some ((xs.take hi.toNat).drop lo.toNat)
 | _,_,_=>none

def _root_.Go.Abs.Ty.upd:(T:Ty)→T.den→Nat→(T':Ty)→T'.den→Option T.den
 | .one t,x,off,T',y=>match off with
  | 0=>match yA (.one t) (t':=T') y with
   | some z=>some z
   | none=>t.upd x 0 T' y
  | _=>t.upd x off T' y
 | .pair a b,x,off,T',y=>match (match off with | 0=>yA (.pair a b) (t':=T') y | _=>none) with
  | some z=>some z
  | none=>match Nat.blt off a.size with
   | true=>match a.upd x.1 off T' y with
    | some z=>some (z,x.2)
    | none=>none
   | false=>match b.upd x.2 (off-a.size) T' y with
    | some z=>some (x.1,z)
    | none=>none
 | .int k,x,off,T',y=>match off with | 0=>yA (.int k) (t':=T') y | _=>none
 | .bool,x,off,T',y=>match off with | 0=>yA .bool (t':=T') y | _=>none
 | .str,x,off,T',y=>match off with | 0=>yA .str (t':=T') y | _=>none
 | .list t,x,off,T',y=>match off with | 0=>yA (.list t) (t':=T') y | _=>none

def wr {T:Type} (m:Option T) (df:T) (pv:T→PV) (δ:T→PH) (nx:Nat):RdR:=⟨T,m,df,pv,2,δ,nx,none⟩

def wn {T:Type} (m:Option T) (df:T) (pv:T→PV) (po:T→PO) (H:PH) (nx:Nat):RdR:=⟨T,m,df,pv,2,fun r=>[(nx,po r)],nx+1,none⟩

def tyIs (o:Option Ty) (T:Ty):Bool:=match o with
 | some T'=>decide (T'=T)
 | none=>false
def ldR (Γ:Tabs) (t:TypeId) (pv:PV) (H:PH) (nx:Nat):Option RdR:=match pv,lk Γ.ty t with
 | .r (.c (.p id k)),some ti=>match lk H id with
  | some (.box l)=>match cutR ti l k with
   | some r=>some (rdu (.r r) H nx)
   | none=>none
  | _=>none
 | .ep id sz i k,some ti=>match lk H id,ti.ty with
  | some (.arr T xs),some T'=>match Nat.beq sz T.size,Nat.beq k 0&&decide (T=T') with
   | true,true=>some (rdr (gA xs i) T.dflt (fun x=>pvOf T x) H nx)
   | true,false=>some (rdr ((gA xs i).bind fun x=>T.sub x k T') T'.dflt (fun x=>pvOf T' x) H nx)
   | _,_=>none
  | some (.tab T xss vid),_=>match Nat.beq sz 1&&Nat.beq k 0,Nat.beq ti.size 1&&!ti.agg with
   | true,true=>some (rdr (oA i (lenM xss)) () (fun _=>.c (.rw id vid i)) H nx)
   | _,_=>none
  | _,_=>none
 | .er id vid sz i j k,some ti=>match lk H id,ti.ty with
  | some (.tab T xss vid'),some T'=>match Nat.beq sz T.size&&Nat.beq vid vid' with
   | true=>some (rdr ((gA xss i).bind fun xs=>(gA xs j).bind fun x=>T.sub x k T') T'.dflt (fun x=>pvOf T' x) H nx)
   | false=>none
  | _,_=>none
 | _,_=>none
def ixR (Γ:Tabs) (t:TypeId) (pv ix:PV) (H:PH) (nx:Nat):Option RdR:=match pv,ix,lk Γ.ty t with
 | .r (.c c),.r (.c (.d (.int k) i)),some ti=>match ti.kind with
  | .slice el _=>match lk Γ.ty el,c with
   | some te,.h id=>match lk H id with
    | some (.arr T xs)=>match Nat.beq te.size T.size with
     | true=>some (rdr (oA i (lenM xs)) () (fun _=>.ep id T.size i 0) H nx)
     | false=>none
    | some (.frz T xs)=>match Nat.beq te.size T.size with
     | true=>some (rdr (gA xs i) T.dflt (fun x=>.fp T x) H nx)
     | false=>none
    | some (.tab T xss vid)=>match Nat.beq te.size 1 with
     | true=>some (rdr (oA i (lenM xss)) () (fun _=>.ep id 1 i 0) H nx)
     | false=>none
    | some (.tabp T xss _ vid)=>match Nat.beq te.size 1 with
     | true=>some (rdr (oA i (lenM xss)) () (fun _=>.ep id 1 i 0) H nx)
     | false=>none
    | some (.tabs T xss _ vid _ _)=>match Nat.beq te.size 1 with
     | true=>some (rdr (oA i (lenM xss)) () (fun _=>.ep id 1 i 0) H nx)
     | false=>none
    | _=>none
   | some te,.rw id vid r=>match lk H id with
    | some (.tab T xss vid')=>match Nat.beq te.size T.size&&Nat.beq vid vid' with
     | true=>some (rdr ((gA xss r).bind fun xs=>oA i (lenM xs)) () (fun _=>.er id vid T.size r i 0) H nx)
     | false=>none
    | _=>none
   | _,_=>none
  | _=>none
 | _,_,_=>none
def lnR (Γ:Tabs) (t:TypeId) (pv:PV) (H:PH) (nx:Nat):Option RdR:=match pv,lk Γ.ty t with
 | .r (.c (.h id)),some ti=>match ti.kind,lk H id with
  | .slice _ _,some (.arr T xs)=>some (rdu (.c (.d (.int .i64) (lenM xs))) H nx)
  | .slice _ _,some (.frz T xs)=>some (rdu (.c (.d (.int .i64) (lenM xs))) H nx)
  | .slice _ _,some (.tab T xs _)=>some (rdu (.c (.d (.int .i64) (lenM xs))) H nx)
  | _,_=>none
 | .r (.c (.rw id vid i)),some ti=>match ti.kind,lk H id with
  | .slice _ _,some (.tab T xss vid')=>match Nat.beq vid vid' with
   | true=>some (rdr (gA xss i) [] (fun xs=>.c (.d (.int .i64) (lenM xs))) H nx)
   | false=>none
  | _,_=>none
 | _,_=>none

def isFlat (Γ:Tabs) (dst:Option Nat) (ti:TI):Bool:=memO dst Γ.own||!(Nat.ble ti.size 40)
def allocR (Γ:Tabs) (dst:Option Nat) (t:TypeId) (H:PH) (nx:Nat):Option RdR:=match lk Γ.ty t with
 | some ti=>match isFlat Γ dst ti with
  | true=>none
  | false=>some (wn (some ()) () (fun _=>.c (.p nx 0)) (fun _=>.box ti.zero) H nx)
 | none=>none
def boxR (Γ:Tabs) (dst:Option Nat) (pv:PV) (H:PH) (nx:Nat):Option RdR:=match pv with
 | .r v=>match memO dst Γ.own||!(Nat.ble v.cells.length 40) with
  | true=>none
  | false=>some (wn (some ()) () (fun _=>.c (.p nx 0)) (fun _=>.box v.cells) H nx)
 | _=>none
def stR (Γ:Tabs) (t:TypeId) (pa pv:PV) (H:PH) (nx:Nat):Option RdR:=match pa,pv,lk Γ.ty t with
 | .r (.c (.p id k)),.r v,some ti=>match lk H id with
  | some (.box l)=>match Nat.beq v.cells.length ti.size&&Nat.ble (k+ti.size) l.length with
   | true=>some (wr (some ()) () (fun _=>.any) (fun _=>[(id,.box (l.take k++(v.cells++l.drop (k+ti.size))))]) nx)
   | false=>none
  | _=>none
 | .ep id sz i k,.r v,some ti=>match lk (fzR H v) id,ti.ty with
  | some (.arr T xs),some T'=>match conR (fzR H v) T' v,Nat.beq sz T.size with
   | some y,true=>match Nat.beq k 0&&decide (T=T'),yA T (t':=T') y with
    | true,some z=>some (wr (wE xs i fun _=>some z) xs (fun _=>.any) (fun xs'=>(id,.arr T xs')::dR H v) nx)
    | _,_=>some (wr (wE xs i fun x=>T.upd x k T' y) xs (fun _=>.any) (fun xs'=>(id,.arr T xs')::dR H v) nx)
   | _,_=>none
  | _,_=>none
 | _,_,_=>none
def pG (H:PH) (T:Ty) (pv:PV):Option (List T.den):=conP (fzP H pv) (.list T) pv
def emptyS:CV→Bool
 | .l .nilS=>true
 | .q _ []=>true
 | _=>false
def bD (Γ:Tabs) (t:TypeId):Option (TypeId×Nat×Ty):=match lk Γ.ty t with
 | some ti=>match ti.kind with
  | .slice el bts=>match lk Γ.ty el with
   | some te=>match te.ty with
    | some T=>some (el,bts,T)
    | none=>none
   | none=>none
  | _=>none
 | none=>none
def fG (Γ:Tabs) (t:TypeId) (ps px:PV) (H:PH) (nx:Nat):Option RdR:=match bD Γ t,ps with
 | some (_,bts,T),.r (.c (.h id))=>match lk (fzP H px) id with
  | some (.arr T' xs)=>match pG H T px,yA (.list T) (t':=.list T') xs,Nat.blt id nx with
   | some ys,some xs,true=>some (wr (eB bts xs ys) xs (fun _=>.c (.h nx)) (fun zs=>(nx,.arr T zs)::(id,.gone)::dP H px) (nx+1))
   | _,_,_=>none
  | _=>none
 | some (_,bts,T),.r (.c (.q T' []))=>match pG H T px with
  | some ys=>some (wr (eB bts [] ys) [] (fun _=>.c (.h nx)) (fun zs=>(nx,.arr T zs)::dP H px) (nx+1))
  | none=>none
 | some (_,bts,T),.r (.c (.l .nilS))=>match pG H T px with
  | some ys=>some (wr (eB bts [] ys) [] (fun _=>.c (.h nx)) (fun zs=>(nx,.arr T zs)::dP H px) (nx+1))
  | none=>none
 | _,_=>none
def mkR (Γ:Tabs) (t:TypeId) (pl pc:PV) (H:PH) (nx:Nat):Option RdR:=match bD Γ t,pl,pc with
 | some (_,bts,T),.r (.c (.d (.int _) n)),.r (.c (.d (.int _) c))=>some (wn (mkM n c bts T.dflt) [] (fun _=>.c (.h nx)) (fun xs=>.arr T xs) H nx)
 | _,_,_=>none
def opH1:OpF:=fun Γ o e ctx H nx=>match o.op with
 | .load t x=>match ev e ctx x with
  | some pv=>ldR Γ t pv H nx
  | none=>none
 | .indexAddr t x i=>match ev e ctx x,ev e ctx i with
  | some pv,some ix=>ixR Γ t pv ix H nx
  | _,_=>none
 | .call c=>match c.callee,c.args.toList,c.argTypes.toList with
  | .builtin .len,[x],[t]=>match ev e ctx x with
   | some pv=>lnR Γ t pv H nx
   | none=>none
  | .builtin .append,[s,x],[t,t']=>match ev e ctx s,ev e ctx x,Nat.beq t t' with
   | some ps,some px,true=>fG Γ t ps px H nx
   | _,_,_=>none
  | _,_,_=>none
 | .alloc t=>allocR Γ o.dst t H nx
 | .box t x=>match ev e ctx x with
  | some pv=>boxR Γ o.dst pv H nx
  | none=>none
 | .store t a x=>match ev e ctx a,ev e ctx x with
  | some pa,some pv=>stR Γ t pa pv H nx
  | _,_=>none
 | .makeSlice t l c=>match ev e ctx l,ev e ctx c with
  | some pl,some pc=>mkR Γ t pl pc H nx
  | _,_=>none
 | _=>none

theorem nA {P:Program} {rd:Option Nat} {B:Nat} {o:Oper} {e:Ev} {hs:Hl} {R:RdR} {r:R.T} (h0:R.fl=1) (hd:∀ c,o.op≠.defer c)
  (h:∀ S w η (a:Act),HInv B η hs.1 S w→En.Only (lk e) (rA o) S w η a.tmps→∃ v,(execOp a.eval o).run P w=.ok (.value v) w∧PM S w η (R.pv r) v):R.OK P rd B o e hs r:=by
 unfold RdR.OK
 rw [h0]
 intro S w η a hi ho
 obtain ⟨v,h1,h2⟩:=h S w η a hi ho
 exact .value hd h1 ⟨v,S,rfl,Grow.refl hi.inw,h2⟩
theorem jB {P:Program} {rd:Option Nat} {B:Nat} {o:Oper} {e:Ev} {hs:Hl} {R:RdR} {r:R.T} (h0:R.fl=2) (hd:∀ c,o.op≠.defer c)
  (h:∀ S w η (a:Act),HInv B η hs.1 S w→Free η hs.2 R.nx→En.Only (lk e) (rA o) S w η a.tmps→∃ v w' S' η',((execOp a.eval o).run P w=.ok (.value v) w'∨((execOp a.eval o).run P w=.ok .skip w'∧v=undef))∧Grow B S w S' w'∧Pre η η'∧Out η η' hs.2 R.nx∧HInv B η' (R.δ r++hs.1) S' w'∧PM S' w' η' (R.pv r) v):R.OK P rd B o e hs r:=by
 unfold RdR.OK
 rw [h0]
 intro S w η a hi hl ho
 obtain ⟨v,w',S',η',h1,h2⟩:=h S w η a hi hl ho
 rcases h1 with h1 | ⟨h1,rfl⟩
 ·exact .value hd h1 ⟨v,S',η',rfl,h2⟩
 ·exact .skip hd h1 ⟨_,S',η',rfl,h2⟩

section
variable {P:Program} {Γ:Tabs} {B:Nat} {S:Cells} {w:World} {η:Eta} {H:PH} {nx:Nat}

def FlatB (b:Nat) (F S:Cells) (w:World) (t:Ty) (xs:List t.den):Prop:=t.agg=false∧(∀ b' o,F b' o↔b'=b∧o<xs.length) ∧
 (∀ o,o<xs.length→World.there w b o)∧∀ (i:Nat) (x:t.den),xs[i]? = some x→∃ v,VRep S w t x v∧w.cell? ⟨b,i,none⟩=some v
theorem uE {id b n:Nat} {F:Cells} {t:Ty} {xs:List t.den} (h:POH η id F S w (.flat n t xs)) (hb:η id=some (.pointer (some ⟨b,0,none⟩))):xs.length=n∧FlatB b F S w t xs:=by
 obtain ⟨b',h1,h2,h3⟩:=h
 rw [hb] at h1
 cases h1
 exact ⟨h2,h3⟩
theorem flat_load {ti:TI} {t:TypeId} {b:Nat} {F:Cells} {T:Ty} {xs ys:List T.den} {j:Int} (hI:TIok P t ti) (hag:ti.agg=true) (hB:FlatB b F S w T xs) (hr':pA xs j (j+ti.size)=some ys) :
  ∃ v,(loadVar t ⟨b,j.toNat,none⟩).run P w=.ok v w∧RM S w η (.s ((List.range ti.size).map fun k=>.d T (qA ys k T.dflt))) v:=by
 obtain ⟨ha,_,_,hcs⟩:=hB
 unfold pA at hr'
 split at hr'
 ·rename_i c1 c2 c3
  have hy:=Option.some.inj hr'
  have d1:=oD c1
  have d3:=oD c3
  have hag':=hI.agg w
  rw [hag] at hag'
  have hsz:=hI.size w
  have hyl:ys.length=ti.size:=by rw [← hy];simp;omega
  have hyk:∀ k,k<ti.size→ys[k]? = xs[j.toNat+k]? := fun k hk=>by
   rw [← hy,List.getElem?_drop,List.getElem?_take_of_lt (by omega)]
  have hvs:∃ vs:List Value,vs.length=ti.size∧∀ k,k<ti.size→∃ v y,vs[k]? = some v∧ys[k]? = some y∧VRep S w T y v∧w.cell? ⟨b,j.toNat+k,none⟩=some v:=by
   have:∀ m,m≤ti.size→∃ vs:List Value,vs.length=m∧∀ k,k<m→∃ v y,vs[k]? = some v∧ys[k]? = some y∧VRep S w T y v∧w.cell? ⟨b,j.toNat+k,none⟩=some v:=by
    intro m
    induction m with
    | zero=>intro _;exact ⟨[],rfl,fun k hk=>by omega⟩
    | succ m ihm =>
     intro hm
     obtain ⟨vs,hv1,hv2⟩:=ihm (by omega)
     have hyy:ys[m]? = some (ys[m]'(by omega)):=gE _
     have hxx:=hyk m (by omega)
     rw [hyy] at hxx
     obtain ⟨v,hv,hcell⟩:=hcs _ _ hxx.symm
     refine ⟨vs++[v],by simp [hv1],fun k hk=>?_⟩
     by_cases hkm:k<m
     ·obtain ⟨v',y,q1,q2⟩:=hv2 k hkm
      exact ⟨v',y,by rw [xL (by omega)];exact q1,q2⟩
     ·have:k=m:=by omega
      subst this
      exact ⟨v,_,by rw [xR (by omega)];simp [hv1],hyy,hv,hcell⟩
   exact this _ (nR _)
  obtain ⟨vs,hv1,hv2⟩:=hvs
  have hcells:(loadCells ⟨b,j.toNat,none⟩ vs.length).run P w=.ok vs.toArray w :=
   run_loadCells_list w ⟨b,j.toNat,none⟩ _ fun k v hk=>by
    rw [Addr.add_lit]
    obtain ⟨v',y,q1,q2,q3,q4⟩:=hv2 k (by have:=(gS.1 hk).1;omega)
    rw [q1] at hk
    cases hk;exact q4
  rw [hv1] at hcells
  refine ⟨.agg vs.toArray,by simp [loadVar,hag',hsz,hcells],vs,rfl,All2.mk (by simp [hv1]) fun k c v hk hv=>?_⟩
  have hkl:k<ti.size:=by have:=(gS.1 hv).1;omega
  obtain ⟨v',y,q1,q2,q3,q4⟩:=hv2 k hkl
  rw [q1] at hv
  cases hv
  rw [List.getElem?_map,List.getElem?_range hkl] at hk
  cases hk
  refine ⟨ha,?_⟩
  have:qA ys k T.dflt=y:=by simp [qA,List.getD,q2]
  rw [this];exact q3
 ·cases hr'
theorem load_cut {ti:TI} {t:TypeId} {l:List CV} {vs:List Value} {b k:Nat} {r:RV} (hI:TIok P t ti) (hm:All2 (CM S w η) l vs) (hc:∀ j v,vs[j]? = some v→w.cell? ⟨b,j,none⟩=some v) (h:cutR ti l k=some r) :
  ∃ v,(loadVar t ⟨b,k,none⟩).run P w=.ok v w∧RM S w η r v:=by
 have hag:=hI.agg w
 have hsz:=hI.size w
 have hl:=hm.length
 unfold cutR at h
 split at h
 ·rename_i ha
  rw [ha] at hag
  split at h
  ·rename_i hb
   cases h
   have hb:=nL hb
   have hcells:(loadCells ⟨b,k,none⟩ ((vs.drop k).take ti.size).length).run P w=.ok ((vs.drop k).take ti.size).toArray w :=
    run_loadCells_list w ⟨b,k,none⟩ _ fun j v hj=>by
     rw [Addr.add_lit]
     have hjl:j<ti.size:=by have:=(gS.1 hj).1;simp at this;omega
     rw [List.getElem?_take_of_lt hjl,List.getElem?_drop] at hj
     exact hc _ _ hj
   have hlen:((vs.drop k).take ti.size).length=ti.size:=by simp;omega
   rw [hlen] at hcells
   refine ⟨.agg ((vs.drop k).take ti.size).toArray,by simp [loadVar,hag,hsz,hcells],_,rfl,?_⟩
   refine All2.mk (by simp [hl]) fun i a c ha hb'=>?_
   have hi:i<ti.size:=by have:=(gS.1 ha).1;simp at this;omega
   rw [List.getElem?_take_of_lt hi,List.getElem?_drop] at ha hb'
   obtain ⟨b',hb2,hr⟩:=hm.get _ a ha
   rw [hb'] at hb2;cases hb2;exact hr
  ·cases h
 ·rename_i ha
  rw [ha] at hag
  split at h
  ·rename_i c hcl
   cases h
   obtain ⟨v,hv,hr⟩:=hm.get _ _ hcl
   exact ⟨v,by simp [loadVar,hag,hc _ _ hv],hr⟩
  ·cases h

theorem ArrH.elem {F:Cells} {u:Value} {T:Ty} {xs:List T.den} {b o n cap i:Nat} {x:T.den} (h:ArrH F S w u T xs) (hu:u=.slice (some ⟨b,o,none⟩) n cap) (hx:xs[i]? = some x):∃ es,Rep S w T x es∧∀ j v,es[j]? = some v→w.cell? ⟨b,o+i*T.size+j,none⟩=some v:=by
 obtain ⟨b',o',cap',e1,_,_,_,h4⟩:=h.get (gS.1 hx).1
 rw [hu] at e1
 cases e1
 exact h4 i x hx
theorem ld_part {T T':Ty} {x:T.den} {y:T'.den} {es:List Value} {b o k:Nat} {t:TypeId} {ti:TI} (hI:TIok P t ti) (hT:ti.ty=some T') (hr:Rep S w T x es) (hc:∀ j v,es[j]? = some v→w.cell? ⟨b,o+j,none⟩=some v) (hs:T.sub x k T'=some y) :
  ∃ v,(loadVar t ⟨b,o+k,none⟩).run P w=.ok v w∧PM S w η (pvOf T' y) v:=by
 obtain ⟨c1,c2,c3,rfl,hl,hr2⟩:=rK hr hs
 refine ⟨_,kJ hI hT hr2 fun j u hu=>?_,VRep.rm ⟨c2,hr2,rfl⟩⟩
 have:=hc (k+j) u (by
  rw [xR (by omega),← hl,show c1.length+j-c1.length=j by omega,xL (gS.1 hu).1];exact hu)
 rw [← Nat.add_assoc] at this;exact this
theorem sub_self {T:Ty} {x:T.den}:T.sub x 0 T=some x:=by
 have h:yA T (t':=T) x=some x:=by unfold yA;rw [dif_pos rfl]
 cases T<;>simp [Ty.sub,h]
theorem fD {o:Oper} {a:Act} {t:TypeId} {x:Operand} {b k:Nat} {v:Value} (hop:o.op=.load t x) (he:a.eval x=.pointer (some ⟨b,k,none⟩)) (h:(loadVar t ⟨b,k,none⟩).run P w=.ok v w):(execOp a.eval o).run P w=.ok (.value v) w:=by
 simp [execOp,hop,he,Instr.loadAt,Instr.sureAddr,h]
theorem iF {α:Type} {i:Int} {xs:List α} {r:Unit} (h:oA i (lenM xs)=some r):0≤i∧i<(xs.length:Int):=by
 unfold oA at h
 split at h
 ·rename_i h1 h2;exact ⟨oD h1,oD h2⟩
 ·cases h
theorem TabH.row {F:Cells} {u:Value} {T:Ty} {xss:List (List T.den)} {us:Nat→Value} {i:Nat} {xs:List T.den} (h:TabH F S w u T xss us none) (hx:xss[i]? = some xs):∃ b off Fi,(∃ cap,u=.slice (some ⟨b,off,none⟩) xss.length cap)∧w.cell? ⟨b,off+i,none⟩=some (us i)∧ArrH Fi S w (us i) T xs:=by
 obtain ⟨base,cap,e1,_,_,h2⟩:=h
 have hil:=(gS.1 hx).1
 rcases h2 with h2 | ⟨b,off,rfl,_,Fs,_,_,_,hh⟩
 ·omega
 ·obtain ⟨_,h4,h5⟩:=hh i xs hx
  have h5:=h5 (by simp)
  exact ⟨b,off,Fs i,⟨cap,e1⟩,h5,h4⟩
theorem TabH.base {F:Cells} {u:Value} {T:Ty} {xss:List (List T.den)} {us:Nat→Value} {p:Option Nat} {i:Nat} (h:TabH F S w u T xss us p) (hi:i<xss.length):∃ b off cap,u=.slice (some ⟨b,off,none⟩) xss.length cap:=by
 obtain ⟨base,cap,e1,_,_,h2⟩:=h
 rcases h2 with ⟨h2,_⟩ | ⟨b,off,rfl,_⟩
 ·omega
 ·exact ⟨b,off,cap,e1⟩
theorem ArrH.hdr {F:Cells} {u:Value} {T:Ty} {xs:List T.den} (h:ArrH F S w u T xs):∃ a cap,u=.slice a xs.length cap∧xs.length≤maxLen∧u.oneCell'=true:=by
 obtain ⟨base,cap,rfl,h1,h2,_⟩:=h
 exact ⟨base,cap,rfl,Nat.le_trans h1 h2,rfl⟩

theorem ldR_ok (hΓ:TabOK P Γ) {rd:Option Nat} {o:Oper} {e:Ev} {ctx:Ctx} {t:TypeId} {x:Operand} {pv:PV} {R:RdR} (hop:o.op=.load t x) (hw:Wf e) (hc:CtxH e ctx) (hx:ev e ctx x=some pv) (h:ldR Γ t pv H nx=some R) (r:R.T) (hr:R.m=some r):R.OK P rd B o e (H,nx) r:=by
 have hd:∀ c,o.op≠.defer c:=by rw [hop];intro c hh;cases hh
 have hmem:x∈o.op.operands.toList:=by rw [hop];simp [Op.operands]
 unfold ldR at h
 split at h
 ·rename_i id k ti hl
  split at h
  ·rename_i l hlk
   split at h
   ·rename_i rv hcut
    cases h
    refine nA rfl hd fun S w η a hi ho=>?_
    obtain ⟨b,h1,h2⟩:=cA hw hc hx hmem ho
    obtain ⟨F1,_,b',g1,_,_,vs,g4,g5⟩:=hi.read hlk
    rw [h1] at g1
    cases g1
    obtain ⟨v,hv,hm⟩:=load_cut (hΓ.ty _ _ hl) g4 g5 hcut
    exact ⟨v,fD hop h2 hv,hm⟩
   ·cases h
  ·cases h
 ·rename_i id sz i k ti hl
  split at h
  ·rename_i T xs T' hlk hT
   split at h
   ·rename_i hb1 hb2
    cases h
    simp only [bA,decide_eq_true_eq] at hb2
    obtain ⟨hk0,rfl⟩:=hb2
    have hk0:=nB hk0
    have hsz:=nB hb1
    subst hk0
    refine nA rfl hd fun S w η a hi ho=>?_
    obtain ⟨b,o',n,cap,h1,h2⟩:=cA hw hc hx hmem ho
    obtain ⟨F1,_,u,g1,hA⟩:=hi.read hlk
    rw [h1] at g1
    cases g1
    obtain ⟨_,_,hget⟩:=vB hr
    obtain ⟨es,he,hce⟩:=hA.elem rfl hget
    obtain ⟨v,hv,hm⟩:=ld_part (hΓ.ty _ _ hl) hT he hce sub_self
    rw [← hsz] at hv
    exact ⟨v,fD hop h2 hv,hm⟩
   ·rename_i hb1 hb2
    cases h
    have hsz:=nB hb1
    have hr':((gA xs i).bind fun x=>T.sub x k T')=some r:=hr
    cases hix:gA xs i with
    | none=>rw [hix] at hr';cases hr'
    | some z =>
     rw [hix] at hr'
     refine nA rfl hd fun S w η a hi ho=>?_
     obtain ⟨b,o',n,cap,h1,h2⟩:=cA hw hc hx hmem ho
     obtain ⟨F1,_,u,g1,hA⟩:=hi.read hlk
     rw [h1] at g1
     cases g1
     obtain ⟨_,_,hget⟩:=vB hix
     obtain ⟨es,he,hce⟩:=hA.elem rfl hget
     obtain ⟨v,hv,hm⟩:=ld_part (hΓ.ty _ _ hl) hT he hce hr'
     rw [← hsz] at hv
     exact ⟨v,fD hop h2 hv,hm⟩
   ·cases h
  ·rename_i T xss vid hlk
   split at h
   ·rename_i hb1 hb2
    cases h
    simp only [bA,Bool.not_eq_true'] at hb1 hb2
    have hsz:=nB hb1.1
    have hk0:=nB hb1.2
    subst hsz;subst hk0
    obtain ⟨hc0,hc1⟩:=iF hr
    refine nA rfl hd fun S w η a hi ho=>?_
    obtain ⟨b,o',n,cap,h1,h2⟩:=cA hw hc hx hmem ho
    obtain ⟨F1,_,u,us,g1,g2,g3,hA⟩:=hi.read hlk
    rw [h1] at g1
    cases g1
    have hil:i.toNat<xss.length:=by omega
    obtain ⟨b2,off2,Fi,⟨cp,e1⟩,e2,e3⟩:=hA.row (gE hil)
    cases e1
    have hag:=(hΓ.ty _ _ hl).agg w
    rw [hb2.2] at hag
    simp only [Nat.mul_one,Nat.add_zero] at h2
    obtain ⟨_,_,_,_,hone⟩:=e3.hdr
    exact ⟨_,fD hop h2 (by simp [loadVar,hag,e2]),us,g2,by simp [aD,show i.toNat<us.size by omega],hone⟩
   ·cases h
  ·cases h
 ·rename_i id vid sz i j k ti hl
  split at h
  ·rename_i T xss vid' T' hlk hT
   split at h
   ·rename_i hb
    cases h
    simp only [bA] at hb
    have hsz:=nB hb.1
    have hv:=nB hb.2
    subst hv
    have hr':((gA xss i).bind fun xs=>(gA xs j).bind fun x=>T.sub x k T')=some r:=hr
    cases hix:gA xss i with
    | none=>rw [hix] at hr';cases hr'
    | some xs =>
     rw [hix] at hr'
     simp only [oB] at hr'
     cases hjx:gA xs j with
     | none=>rw [hjx] at hr';cases hr'
     | some z =>
      rw [hjx] at hr'
      refine nA rfl hd fun S w η a hi ho=>?_
      obtain ⟨us,b,o',n,cap,h1,h2,h3⟩:=cA hw hc hx hmem ho
      obtain ⟨F1,_,u,us',g1,g2,g3,hA⟩:=hi.read hlk
      rw [h1] at g2
      cases g2
      obtain ⟨_,_,hgi⟩:=vB hix
      obtain ⟨_,_,hgj⟩:=vB hjx
      obtain ⟨b2,off2,Fi,⟨cp,e1⟩,e2,e3⟩:=hA.row hgi
      have hus:us.getD i.toNat undef=.slice (some ⟨b,o',none⟩) n cap:=by simp [aD,h2]
      obtain ⟨es,he,hce⟩:=e3.elem hus hgj
      obtain ⟨v,hv,hm⟩:=ld_part (hΓ.ty _ _ hl) hT he hce hr'
      rw [← hsz] at hv
      exact ⟨v,fD hop h3 hv,hm⟩
   ·cases h
  ·cases h
 ·cases h
theorem sJ {o:Oper} {a:Act} {t el:TypeId} {x i:Operand} {b off n cap sz:Nat} {k:IntKind} {m:Int} (hop:o.op=.indexAddr t x i) (hu:(underlying t).run P w=.ok (.slice el) w) (hs:(Go.sizeOf el).run P w=.ok sz w) (hx:a.eval x=.slice (some ⟨b,off,none⟩) n cap) (hi:a.eval i=.int k m)
  (h0:0≤m) (h1:m<n):(execOp a.eval o).run P w=.ok (.value (.pointer (some ⟨b,off+m.toNat*sz,none⟩))) w:=by
 simp [execOp,hop,hx,hi,Instr.indexAt,asIntOf,hu,hs,h0,h1,Addr.add_lit]
theorem ixR_ok (hΓ:TabOK P Γ) {rd:Option Nat} {o:Oper} {e:Ev} {ctx:Ctx} {t:TypeId} {x i:Operand} {pv ix:PV} {R:RdR} (hop:o.op=.indexAddr t x i) (hw:Wf e) (hc:CtxH e ctx) (hx:ev e ctx x=some pv) (hi:ev e ctx i=some ix) (h:ixR Γ t pv ix H nx=some R) (r:R.T) (hr:R.m=some r) :
  R.OK P rd B o e (H,nx) r:=by
 have hd:∀ c,o.op≠.defer c:=by rw [hop];intro c hh;cases hh
 have hm1:x∈o.op.operands.toList:=by rw [hop];simp [Op.operands]
 have hm2:i∈o.op.operands.toList:=by rw [hop];simp [Op.operands]
 unfold ixR at h
 split at h
 ·rename_i c k m ti hl
  split at h
  ·rename_i el bts hk
   have hkd:=(hΓ.ty _ _ hl).kind
   rw [hk] at hkd
   have hu:=run_underlying hkd.1
   split at h
   ·rename_i te id hte
    have hse:=(hΓ.ty _ _ hte).size
    split at h
    ·rename_i T xs hlk
     split at h
     ·rename_i hb
      cases h
      have hsz:=nB hb
      obtain ⟨hc0,hc1⟩:=iF hr
      refine nA rfl hd fun S w η a hiv ho=>?_
      obtain ⟨h1,_⟩:=cA hw hc hx hm1 ho
      obtain ⟨f1,_⟩:=PM.int.1 (cA hw hc hi hm2 ho)
      obtain ⟨F1,_,u,g1,hA⟩:=hiv.read hlk
      rw [h1] at g1
      obtain ⟨b,off,cap,e1,_⟩:=ArrH.get (i:=m.toNat) hA (by omega)
      subst e1
      have e2:=Option.some.inj g1
      have hs2:=hse w
      rw [hsz] at hs2
      exact ⟨_,sJ hop (hu w) hs2 e2 f1 hc0 hc1,b,off,_,cap,by rw [h1,e2],rfl⟩
     ·cases h
    ·rename_i T xs hlk
     split at h
     ·rename_i hb
      cases h
      have hsz:=nB hb
      obtain ⟨h0,hlt,hget⟩:=vB hr
      refine nA rfl hd fun S w η a hiv ho=>?_
      obtain ⟨h1,_⟩:=cA hw hc hx hm1 ho
      obtain ⟨f1,_⟩:=PM.int.1 (cA hw hc hi hm2 ho)
      obtain ⟨F1,_,u,g1,_,hA⟩:=hiv.read hlk
      rw [h1] at g1
      obtain ⟨base,cap,e1,e2,e3,e4⟩:=VRep.slice hA
      subst e1
      have e5:=Option.some.inj g1
      rcases e4 with e4 | ⟨b,off,rfl,e4⟩
      ·omega
      obtain ⟨es,he,hcl⟩:=e4 _ _ hget
      have hs2:=hse w
      rw [hsz] at hs2
      exact ⟨_,sJ hop (hu w) hs2 e5 f1 h0 hlt,b,_,es,rfl,he,hcl⟩
     ·cases h
    ·rename_i T xss vid hlk
     split at h
     ·rename_i hb
      cases h
      have hsz:=nB hb
      obtain ⟨hc0,hc1⟩:=iF hr
      refine nA rfl hd fun S w η a hiv ho=>?_
      obtain ⟨h1,_⟩:=cA hw hc hx hm1 ho
      obtain ⟨f1,_⟩:=PM.int.1 (cA hw hc hi hm2 ho)
      obtain ⟨F1,_,u,us,g1,_,_,hA⟩:=hiv.read hlk
      rw [h1] at g1
      have hil:m.toNat<xss.length:=by omega
      obtain ⟨b,off,Fi,⟨cp,e1⟩,_,_⟩:=hA.row (gE hil)
      subst e1
      have e2:=Option.some.inj g1
      have hs2:=hse w
      rw [hsz] at hs2
      exact ⟨_,sJ hop (hu w) hs2 e2 f1 hc0 hc1,b,off,_,_,by rw [h1,e2],rfl⟩
     ·cases h
    ·rename_i T xss pr vid hlk
     split at h
     ·rename_i hb
      cases h
      have hsz:=nB hb
      obtain ⟨hc0,hc1⟩:=iF hr
      refine nA rfl hd fun S w η a hiv ho=>?_
      obtain ⟨h1,_⟩:=cA hw hc hx hm1 ho
      obtain ⟨f1,_⟩:=PM.int.1 (cA hw hc hi hm2 ho)
      obtain ⟨F1,_,u,us,g1,_,_,hA⟩:=hiv.read hlk
      rw [h1] at g1
      have hil:m.toNat<xss.length:=by omega
      obtain ⟨b,off,cp,e1⟩:=hA.base hil
      subst e1
      have e2:=Option.some.inj g1
      have hs2:=hse w
      rw [hsz] at hs2
      exact ⟨_,sJ hop (hu w) hs2 e2 f1 hc0 hc1,b,off,_,_,by rw [h1,e2],rfl⟩
     ·cases h
    ·rename_i T xss pr vid vid0 pq hlk
     split at h
     ·rename_i hb
      cases h
      have hsz:=nB hb
      obtain ⟨hc0,hc1⟩:=iF hr
      refine nA rfl hd fun S w η a hiv ho=>?_
      obtain ⟨h1,_⟩:=cA hw hc hx hm1 ho
      obtain ⟨f1,_⟩:=PM.int.1 (cA hw hc hi hm2 ho)
      obtain ⟨F1,_,u,us,us0,g1,_,_,_,_,hA⟩:=hiv.read hlk
      rw [h1] at g1
      have hil:m.toNat<xss.length:=by omega
      obtain ⟨b,off,cp,e1⟩:=hA.base hil
      subst e1
      have e2:=Option.some.inj g1
      have hs2:=hse w
      rw [hsz] at hs2
      exact ⟨_,sJ hop (hu w) hs2 e2 f1 hc0 hc1,b,off,_,_,by rw [h1,e2],rfl⟩
     ·cases h
    ·cases h
   ·rename_i te id vid r0 hte
    have hse:=(hΓ.ty _ _ hte).size
    split at h
    ·rename_i T xss vid' hlk
     split at h
     ·rename_i hb
      cases h
      simp only [bA] at hb
      have hsz:=nB hb.1
      have hv:=nB hb.2
      subst hv
      have hr':((gA xss r0).bind fun xs=>oA m (lenM xs))=some r:=hr
      cases hix:gA xss r0 with
      | none=>rw [hix] at hr';cases hr'
      | some xs =>
       rw [hix] at hr'
       obtain ⟨hc0,hc1⟩:=iF hr'
       obtain ⟨_,_,hgi⟩:=vB hix
       refine nA rfl hd fun S w η a hiv ho=>?_
       obtain ⟨us,h1,h2,_⟩:=cA hw hc hx hm1 ho
       obtain ⟨f1,_⟩:=PM.int.1 (cA hw hc hi hm2 ho)
       obtain ⟨F1,_,u,us',g1,g2,_,hA⟩:=hiv.read hlk
       rw [h1] at g2
       cases g2
       obtain ⟨b2,off2,Fi,⟨cp,e1⟩,e2,e3⟩:=hA.row hgi
       obtain ⟨b,off,cap,e4,_⟩:=ArrH.get (i:=m.toNat) e3 (by omega)
       have hus:us.getD r0.toNat undef=a.eval x:=by simp [aD,h2]
       rw [hus] at e4
       have hs2:=hse w
       rw [hsz] at hs2
       exact ⟨_,sJ hop (hu w) hs2 e4 f1 hc0 hc1,us,b,off,_,cap,h1,by rw [h2,e4],rfl⟩
     ·cases h
    ·cases h
   ·cases h
  ·cases h
 ·cases h
theorem lnR_ok (hΓ:TabOK P Γ) {rd:Option Nat} {o:Oper} {e:Ev} {ctx:Ctx} {t:TypeId} {x:Operand} {pv:PV} {R:RdR} (hop:o.op=.call { callee:=.builtin .len,args:=#[x],argTypes:=#[t] }) (hw:Wf e) (hc:CtxH e ctx) (hx:ev e ctx x=some pv) (h:lnR Γ t pv H nx=some R) (r:R.T) (hr:R.m=some r):R.OK P rd B o e (H,nx) r:=by
 have hd:∀ c,o.op≠.defer c:=by rw [hop];intro c hh;cases hh
 have hmem:x∈o.op.operands.toList:=by rw [hop];simp [Op.operands,Call.operands]
 unfold lnR at h
 split at h
 ·rename_i id ti hl
  split at h
  ·rename_i el bts T xs hk hlk
   cases h
   have hkd:=(hΓ.ty _ _ hl).kind
   rw [hk] at hkd
   refine nA rfl hd fun S w η a hi ho=>?_
   obtain ⟨h1,_⟩:=cA hw hc hx hmem ho
   obtain ⟨F1,_,u,g1,hA⟩:=hi.read hlk
   rw [h1] at g1
   obtain ⟨base,cap,e1,e2,_⟩:=hA.hdr
   subst e1
   exact ⟨_,mF (ts:=#[]) hop (run_underlying hkd.1 _) (Option.some.inj g1),cG e2⟩
  ·rename_i el bts T xs hk hlk
   cases h
   have hkd:=(hΓ.ty _ _ hl).kind
   rw [hk] at hkd
   refine nA rfl hd fun S w η a hi ho=>?_
   obtain ⟨h1,_⟩:=cA hw hc hx hmem ho
   obtain ⟨F1,_,u,g1,_,hA⟩:=hi.read hlk
   rw [h1] at g1
   obtain ⟨base,cap,e1,e2,e3,_⟩:=VRep.slice hA
   subst e1
   exact ⟨_,mF (ts:=#[]) hop (run_underlying hkd.1 _) (Option.some.inj g1),cG (Nat.le_trans e2 e3)⟩
  ·rename_i el bts T xs vid hk hlk
   cases h
   have hkd:=(hΓ.ty _ _ hl).kind
   rw [hk] at hkd
   refine nA rfl hd fun S w η a hi ho=>?_
   obtain ⟨h1,_⟩:=cA hw hc hx hmem ho
   obtain ⟨F1,_,u,us,g1,_,_,base,cap,e1,e2,e3,_⟩:=hi.read hlk
   rw [h1] at g1
   subst e1
   exact ⟨_,mF (ts:=#[]) hop (run_underlying hkd.1 _) (Option.some.inj g1),cG (Nat.le_trans e2 e3)⟩
  ·cases h
 ·rename_i id vid i ti hl
  split at h
  ·rename_i el bts T xss vid' hk hlk
   split at h
   ·rename_i hb
    cases h
    have hv:=nB hb
    subst hv
    have hkd:=(hΓ.ty _ _ hl).kind
    rw [hk] at hkd
    obtain ⟨_,_,hgi⟩:=vB hr
    refine nA rfl hd fun S w η a hi ho=>?_
    obtain ⟨us,h1,h2,_⟩:=cA hw hc hx hmem ho
    obtain ⟨F1,_,u,us',g1,g2,_,hA⟩:=hi.read hlk
    rw [h1] at g2
    cases g2
    obtain ⟨b2,off2,Fi,⟨cp,e1⟩,e2,e3⟩:=hA.row hgi
    obtain ⟨base,cap,e4,e5,_⟩:=e3.hdr
    have hus:us.getD i.toNat undef=a.eval x:=by simp [aD,h2]
    rw [hus] at e4
    exact ⟨_,mF (ts:=#[]) hop (run_underlying hkd.1 _) e4,cG e5⟩
   ·cases h
  ·cases h
 ·cases h
end
end Go.PE
