/-
 The pure machine: strings.Builder, and strconv.Atoi.
 Conditions: none; it holds over any program P.
-/
import Derived.Test.YtechphmljdgoaaaGreatDoorZ3
import Derived.Lib.SlTrimSet
import Derived.Lib.Repeat
import Derived.Lib.ItoaNum
import Derived.Lib.AtoiAll
import Derived.Laws.BytesArg
set_option linter.all false
namespace Go.PE
open Go Go.RowKit Go.Abs
set_option linter.unusedVariables false
set_option linter.unusedSimpArgs false

def prefM (s p:List UInt8):List UInt8:=Lib.trimPrefix s p
def trimM (s c:List UInt8):Option (List UInt8):=match c.all (fun b=>decide (b.toNat<128)),decide (c.length<4294967281) with
 | true,true=>some (Lib.trimS s c)
 | _,_=>none
def rptM (s:List UInt8) (n:Int):Option (List UInt8):=match decide (0≤n),decide (s.length*n.toNat≤140737488355328),decide (n≤9223372036854775807) with
 | true,true,true=>some (Lib.repeatL s n.toNat)
 | _,_,_=>none
def itoaM (n:Int):List UInt8:=Lib.itoa n
def atoiM (s:List UInt8):Option Int:=match Lib.atoiAll s,decide (s.length≤9223372036854775806) with
 | .ok v,true=>(match decide (-9223372036854775808≤v),decide (v≤9223372036854775807) with
  | true,true=>some v
  | _,_=>none)
 | _,_=>none
def catB (x y:List UInt8):Option (List UInt8):=match Nat.ble (x.length+y.length) 140737488355328 with
 | true=>some (x++y)
 | false=>none
def pushB (x:List UInt8) (c:Int):Option (List UInt8):=match Nat.ble (x.length+1) 140737488355328 with
 | true=>some (x++[UInt8.ofNat c.toNat])
 | false=>none
def bldOf (Γ:Tabs) (TB e:TypeId) (o:Option PO):Option (TypeId×List UInt8):=match o with
 | some (.bld T e' s)=>match lk Γ.bt T with
  | some (TB',e'')=>match Nat.beq TB TB',Nat.beq e e',Nat.beq e e'' with
   | true,true,true=>some (T,s)
   | _,_,_=>none
  | none=>none
 | _=>none
def growM {α:Type} (n:Int) (d:α):Option (List α):=match decide (0<n),decide (n≤1000000) with
 | true,true=>some []
 | _,_=>none
def exR (Γ:Tabs) (g:FuncId) (args:List RV) (H:PH) (nx:Nat):Option RdR:=match lk Γ.ex g,args with
 | some (.atoi m),[.c (.d .str s)]=>some (rdr (m s) (0:Int) (fun n=>.t [.c (.d (.int .i64) n),.c (.l .nilI)]) H nx)
 | some (.wstr TB e),[.c (.p id 0),.c (.d .str t)]=>match bldOf Γ TB e (lk H id),Nat.ble t.length 9223372036854775807 with
  | some (T,s),_=>some (wr (catB s t) [] (fun _=>.t [.c (.d (.int .i64) (lenM t)),.c (.l .nilI)]) (fun r=>[(id,.bld T e r)]) nx)
  | none,_=>none
 | some (.wbyt TB e),[.c (.p id 0),.c (.d (.int .u8) c)]=>match bldOf Γ TB e (lk H id) with
  | some (T,s)=>some (wr (pushB s c) [] (fun _=>.c (.l .nilI)) (fun r=>[(id,.bld T e r)]) nx)
  | none=>none
 | some (.stri TB e),[.c (.p id 0)]=>match bldOf Γ TB e (lk H id) with
  | some (T,s)=>some (wr (some s) [] (fun r=>.c (.d .str r)) (fun _=>[(id,.gone)]) nx)
  | none=>none
 | some (.grow t),[.c (.l .nilS),.c (.d (.int .i64) n)]=>some (wr (growM n t.dflt) [] (fun _=>.c (.h nx)) (fun ys=>[(nx,.arr t ys)]) (nx+1))
 | _,_=>none
def alB (Γ:Tabs) (t:TypeId) (H:PH) (nx:Nat):Option RdR:=match lk Γ.bt t with
 | some (_,e)=>some (wn (some ()) () (fun _=>.c (.p nx 0)) (fun _=>.bld t e []) H nx)
 | none=>none
def subL (T:Ty) (x:T.den) (T':Ty) (sz:Nat):Nat→Option (List T'.den)
 | 0=>some []
 | n+1=>match subL T x T' sz n,T.sub x (n*sz) T' with
  | some l,some y=>some (l++[y])
  | _,_=>none
def ixP (Γ:Tabs) (t:TypeId) (x i:Option PV) (H:PH) (nx:Nat):Option RdR:=match lk Γ.ty t,x,i with
 | some ti,some (.fp T x),some (.r (.c (.d (.int _) i)))=>match ti.kind with
  | .array n el=>match lk Γ.ty el with
   | some te=>match te.ty with
    | some T'=>match subL T x T' te.size n with
     | some ys=>some (rdr (idxM ys i) T'.dflt (fun y=>.fp T' y) H nx)
     | none=>none
    | none=>none
   | none=>none
  | _=>none
 | _,_,_=>none
def strB (xs:List Int):List UInt8:=xs.map fun n=>UInt8.ofNat n.toNat
def bytR (H:PH) (pv:PV):Option (List Int):=match pv with
 | .r (.c (.d (.list (.int .u8)) xs))=>some xs
 | .r (.c (.h id))=>match lk H id with
  | some (.arr (.int .u8) xs)=>some xs
  | _=>none
 | _=>none
def bsC (Γ:Tabs) (s d:TypeId) (x:Option PV) (H:PH) (nx:Nat):Option RdR:=match lk Γ.ty s,lk Γ.ty d,x with
 | some ts,some td,some pv=>match ts.kind,td.kind,bytR H pv with
  | .slice el _,.str,some xs=>match lk Γ.ty el with
   | some te=>match te.kind with
    | .int .u8=>some (rdr (some (strB xs)) ([]:List UInt8) (fun r=>.c (.d .str r)) H nx)
    | _=>none
   | none=>none
  | _,_,_=>none
 | _,_,_=>none
def op8:OpF:=fun Γ o e ctx H nx=>match o.op with
 | .convert s d x=>bsC Γ s d (ev e ctx x) H nx
 | .alloc t=>alB Γ t H nx
 | .indexAddr t x i=>ixP Γ t (ev e ctx x) (ev e ctx i) H nx
 | .call c=>match c.callee,argsE e ctx c.args.toList with
  | .value f,some args=>match ev e ctx f with
   | some (.r (.c (.f g [] [])))=>exR Γ g args H nx
   | _=>none
  | _,_=>none
 | _=>none
section
variable {P:Program} {Γ:Tabs} {B:Nat} {S:Cells} {w:World} {η:Eta} {H:PH} {nx:Nat}
theorem bldOf_some {TB e:TypeId} {o:Option PO} {T:TypeId} {s:List UInt8} (h:bldOf Γ TB e o=some (T,s)):o=some (.bld T e s)∧lk Γ.bt T=some (TB,e):=by
 unfold bldOf at h
 split at h
 ·rename_i T' e' s'
  split at h
  ·rename_i TB' e'' hl
   split at h
   ·rename_i h1 h2 h3
    have h1:=Nat.eq_of_beq_eq_true h1
    have h2:=Nat.eq_of_beq_eq_true h2
    have h3:=Nat.eq_of_beq_eq_true h3
    cases h
    subst h1 h2 h3
    exact ⟨rfl,hl⟩
   ·cases h
  ·cases h
 ·cases h
theorem BldChg.grow {b B:Nat} {w':World} {u u':Value} {F:Cells} (hc:BldChg w w' b u u') (hin:InLt S w) (hF:∀ b o,F b o→B≤b∧b<w.heap.size∧¬ S b o) (hFe:∀ b' o,F b' o↔b'=b∨u.ownBlock=some b') :
  Grow B S w S w'∧(∀ b o,b<w.heap.size→¬ F b o→w'.cell? ⟨b,o,none⟩=w.cell? ⟨b,o,none⟩∧w'.frozen? ⟨b,o,none⟩=w.frozen? ⟨b,o,none⟩)∧∀ b,b<w.heap.size→(∀ o,¬ F b o)→w'.heap[b]? = w.heap[b]? := by
 have hblk:∀ k,k<w.heap.size→¬ F k 0→w'.heap[k]? = w.heap[k]? := fun k hk hn=>hc.block k hk (fun e=>hn ((hFe k 0).2 (.inl e))) fun e=>hn ((hFe k 0).2 (.inr e))
 have hno:∀ {k o},¬ F k o→¬ F k 0:=fun h h'=>h ((hFe _ _).2 ((hFe _ _).1 h'))
 refine ⟨⟨⟨hc.os,hc.tape,hc.output,hc.size,fun k hk=>?_⟩,⟨fun _ _ h=>h,fun k o h=>?_⟩,fun k o h=>Nat.lt_of_lt_of_le (hin k o h) hc.size,fun _ _ h=>.inl h,hc.lk⟩,fun k o hk hn=>?_,fun k hk hn=>hblk k hk (hn 0)⟩
 ·rcases Nat.lt_or_ge k w.heap.size with h | h
  ·exact hblk k h fun hf=>absurd (hF k 0 hf).1 (by omega)
  ·-- a block that was not there lies above B
   by_cases hb:B≤w.heap.size
   ·omega
   ·have:=hF b 0 ((hFe b 0).2 (.inl rfl))
    omega
 ·have:=hblk k (hin k o h) (hno fun hf=>(hF k o hf).2.2 h)
  exact World.cell?_of_block (a:=⟨k,o,none⟩) this
 ·have:=hblk k hk (hno hn)
  exact ⟨World.cell?_of_block (a:=⟨k,o,none⟩) this,World.frozen?_of_block (a:=⟨k,o,none⟩) this⟩
theorem BldAt.lt {w:World} {b:Nat} {T e:TypeId} {u:Value} {s:List UInt8} (h:BldAt w b T e u s):b<w.heap.size∧∀ k,u.ownBlock=some k→k<w.heap.size:=by
 obtain ⟨p,h1,_,h2,_⟩:=h
 exact ⟨(Array.getElem?_eq_some_iff.1 h1).1,fun k hk=>(h2.lt k hk).2⟩
theorem bld_set {id b:Nat} {T e:TypeId} {s s':List UInt8} {u u':Value} {w':World} (hi:HInv B η H S w) (hl:lk H id=some (.bld T e s)) (hb:η id=some (.pointer (some ⟨b,0,none⟩))) (hu:BldAt w b T e u s) (hu':BldAt w' b T e u' s') (hc:BldChg w w' b u u') :
  Grow B S w S w'∧HInv B η ((id,.bld T e s')::H) S w':=by
 have key:∀ F1:Cells,POH η id F1 S w (.bld T e s)→∀ b' o,F1 b' o↔b'=b∨u.ownBlock=some b':=by
  intro F1 hP b' o
  obtain ⟨b2,e2,u2,⟨p2,h2,_⟩,hF⟩:=hP
  rw [hb] at e2
  cases e2
  obtain ⟨p1,h1,_⟩:=hu
  rw [h1] at h2
  cases h2
  exact hF b' o
 obtain ⟨F1,hF1,hP1⟩:=hi.read hl
 have hg:=hc.grow hi.inw.lt hF1 (key F1 hP1)
 refine ⟨hg.1,hi.set hl hc.size hg.1.lt hg.1.keep fun F2 hF2 hP2=>?_⟩
 have hFe:=key F2 hP2
 have hg2:=hc.grow hi.inw.lt hF2 hFe
 refine ⟨fun _ _ h=>.inl h,hg2.2.1,hg2.2.2,fun b' o=>b'=b∨u'.ownBlock=some b',⟨b,hb,u',hu',fun _ _=>Iff.rfl⟩,fun b' o h=>?_⟩
 have hlt:=hu'.lt
 have h1:F2 b' o∨w.heap.size≤b':=by
  rcases h with h | h
  ·exact .inl ((hFe b' o).2 (.inl h))
  ·rcases hc.own b' h with h | h
   ·exact .inl ((hFe b' o).2 (.inr h))
   ·exact .inr h
 refine ⟨h1,?_,fun hs=>?_⟩
 ·rcases h with h | h
  ·rw [h];exact hlt.1
  ·exact hlt.2 _ h
 ·rcases h1 with h1 | h1
  ·exact (hF2 b' o h1).2.2 hs
  ·have:=hi.inw.lt b' o hs
   omega
theorem bld_gone {id b:Nat} {T e:TypeId} {s:List UInt8} {u u':Value} {w':World} (hi:HInv B η H S w) (hl:lk H id=some (.bld T e s)) (hb:η id=some (.pointer (some ⟨b,0,none⟩))) (hu:BldAt w b T e u s) (hc:BldChg w w' b u u') :
  Grow B S w S w'∧HInv B η ((id,.gone)::H) S w':=by
 have key:∀ F1:Cells,POH η id F1 S w (.bld T e s)→∀ b' o,F1 b' o↔b'=b∨u.ownBlock=some b':=by
  intro F1 hP b' o
  obtain ⟨b2,e2,u2,⟨p2,h2,_⟩,hF⟩:=hP
  rw [hb] at e2
  cases e2
  obtain ⟨p1,h1,_⟩:=hu
  rw [h1] at h2
  cases h2
  exact hF b' o
 obtain ⟨F1,hF1,hP1⟩:=hi.read hl
 have hg:=hc.grow hi.inw.lt hF1 (key F1 hP1)
 refine ⟨hg.1,hi.set hl hc.size hg.1.lt hg.1.keep fun F2 hF2 hP2=>?_⟩
 have hg2:=hc.grow hi.inw.lt hF2 (key F2 hP2)
 exact ⟨fun _ _ h=>.inl h,hg2.2.1,hg2.2.2,fun _ _=>False,fun _ _ h=>h,fun _ _ h=>h.elim⟩
theorem catB_some {x y r:List UInt8} (h:catB x y=some r):x.length+y.length≤140737488355328∧r=x++y:=by
 unfold catB at h
 split at h
 ·rename_i h0
  cases h
  exact ⟨Nat.le_of_ble_eq_true h0,rfl⟩
 ·cases h
theorem pushB_some {x r:List UInt8} {c:Int} (h:pushB x c=some r):x.length+1≤140737488355328∧r=x++[UInt8.ofNat c.toNat]:=by
 unfold pushB at h
 split at h
 ·rename_i h0
  cases h
  exact ⟨Nat.le_of_ble_eq_true h0,rfl⟩
 ·cases h
theorem growM_some {α:Type} {n:Int} {d:α} {r:List α} (h:growM n d=some r):0<n∧n≤1000000∧r=[]:=by
 unfold growM at h
 split at h
 ·rename_i h1 h2
  cases h
  exact ⟨of_decide_eq_true h1,of_decide_eq_true h2,rfl⟩
 ·cases h
theorem exR_ok (hΓ:TabOK P Γ) {rd:Option Nat} {o:Oper} {e:Ev} {ctx:Ctx} {c:Call} {f:Operand} {g:FuncId} {args:List RV} {R:RdR} (hop:o.op=.call c) (hcal:c.callee=.value f) (ha:argsE e ctx c.args.toList=some args) (hw:Wf e) (hc:CtxH e ctx) (hf:ev e ctx f=some (.r (.c (.f g [] [])))) (h:exR Γ g args H nx=some R) (r:R.T) (hr:R.m=some r) :
  R.OK P rd B o e (H,nx) r:=by
 have hops:o.op.operands.toList=f::c.args.toList:=by simp [hop,Op.operands,Call.operands,hcal]
 have call:∀ {S w η} {a:Act} {x:Ext},lk Γ.ex g=some x→InW S w→En.Only (lk e) (opReads o) S w η a.tmps→∃ vs:List Value,All2 (RM S w η) args vs ∧
   ∀ {Q:Ending→World→Prop} {K:Act→World→Prop},Calls P g vs.toArray w Q→(∀ en w',Q en w'→∃ v,en=.returned v∧K (a.put o.dst v) w')→OpW P rd o a w K:=by
  intro S w η a x hx hi ho
  obtain ⟨vf,vc,he,q1,q2⟩:=ev_sound hw hc hf (by rw [hops];simp) ho
  cases q1;cases q2
  have hva:=argsE_sound hw hc ho ha fun x hx=>by rw [hops];simp [hx]
  refine ⟨_,hva,fun {Q K} hcall hK=>?_⟩
  have hex:(execOp a.eval o).run P w=.ok (.enter g (c.args.toList.map a.eval).toArray) w:=by
   simp [execOp,hop,resolve,hcal,he,Deferred.ofValue,invoke,← Array.toList_map]
   exact (hΓ.ex g x hx).1 _ w
  refine OpW.enter (by simp [hop]) hex ?_
  have hcl:CallsIn (FR rd) 0 P g (c.args.toList.map a.eval).toArray w _:=callsIn_wide (n:=0) |>.2 hcall
  exact hcl.mono fun en w' hq=>hK en w' hq
 unfold exR at h
 split at h
 ·-- strconv.Atoi
  rename_i m s hx
  cases h
  obtain ⟨n,hn⟩:∃ n:Int,n=r:=⟨r,rfl⟩
  subst hn
  obtain ⟨h64,hcl⟩:=(hΓ.ex g _ hx).2 s n hr
  intro S w η a hi ho
  obtain ⟨vs,hvs,hcall⟩:=call hx hi.inw ho
  cases hvs with
  | cons h1 h2 =>
   cases h2
   obtain ⟨rfl,hlen⟩:=(PM.str (S:=S) (w:=w) (η:=η)).1 h1
   refine hcall (hcl S w hi.inw) fun en w' ⟨S',he,hg⟩=>⟨_,he,⟨_,S',rfl,hg,[.int .i64 n,.nilIface],rfl,.cons (PM.int (S:=S') (w:=w') (η:=η) |>.2 ⟨rfl,h64⟩) (.cons rfl .nil)⟩⟩
 ·-- WriteString
  rename_i TB e0 id t hx
  split at h
  ·rename_i T s hb
   cases h
   obtain ⟨hl,hbt⟩:=bldOf_some hb
   have hBT:=hΓ.bt T _ hbt
   obtain ⟨r',hr'⟩:∃ r':List UInt8,r'=r:=⟨r,rfl⟩
   subst hr'
   obtain ⟨c1,rfl⟩:=catB_some hr
   have hcl:=(hΓ.ex g _ hx).2 T hBT
   intro S w η a hi hlen ho
   obtain ⟨vs,hvs,hcall⟩:=call hx hi.inw ho
   cases hvs with
   | cons h1 h2 =>
    cases h2 with
    | cons h2 h3 =>
     cases h3
     obtain ⟨b,e1,rfl⟩:=h1
     obtain ⟨rfl,hlt⟩:=(PM.str (S:=S) (w:=w) (η:=η)).1 h2
     obtain ⟨F1,_,b',e1',u,hu,_⟩:=hi.read hl
     rw [e1] at e1'
     cases e1'
     refine hcall (hcl b u s t w hu c1) fun en w' ⟨u',he,hu',hch⟩=>⟨_,he,?_⟩
     obtain ⟨g1,g2⟩:=bld_set hi hl e1 hu hu' hch
     refine ⟨_,S,η,rfl,g1,.refl _,Out.refl _ _ _,g2,[.int .i64 t.length,.nilIface],rfl,.cons (len_pm hlt) (.cons rfl .nil)⟩
  ·cases h
 ·-- WriteByte
  rename_i TB e0 id c0 hx
  split at h
  ·rename_i T s hb
   cases h
   obtain ⟨hl,hbt⟩:=bldOf_some hb
   have hBT:=hΓ.bt T _ hbt
   obtain ⟨r',hr'⟩:∃ r':List UInt8,r'=r:=⟨r,rfl⟩
   subst hr'
   obtain ⟨c1,rfl⟩:=pushB_some hr
   have hcl:=(hΓ.ex g _ hx).2 T hBT
   intro S w η a hi hlen ho
   obtain ⟨vs,hvs,hcall⟩:=call hx hi.inw ho
   cases hvs with
   | cons h1 h2 =>
    cases h2 with
    | cons h2 h3 =>
     cases h3
     obtain ⟨b,e1,rfl⟩:=h1
     obtain ⟨rfl,hlt⟩:=(PM.int (S:=S) (w:=w) (η:=η)).1 h2
     obtain ⟨F1,_,b',e1',u,hu,_⟩:=hi.read hl
     rw [e1] at e1'
     cases e1'
     have hc0:c0=((UInt8.ofNat c0.toNat).toNat:Int):=by
      have:=has_u8.1 hlt
      rw [UInt8.toNat_ofNat',Nat.mod_eq_of_lt (by omega),Int.toNat_of_nonneg this.1]
     have hcall2:=hcl b u s (UInt8.ofNat c0.toNat) w hu c1
     rw [← hc0] at hcall2
     refine hcall hcall2 fun en w' ⟨u',he,hu',hch⟩=>⟨_,he,?_⟩
     obtain ⟨g1,g2⟩:=bld_set hi hl e1 hu hu' hch
     exact ⟨_,S,η,rfl,g1,.refl _,Out.refl _ _ _,g2,rfl⟩
  ·cases h
 ·-- String
  rename_i TB e0 id hx
  split at h
  ·rename_i T s hb
   cases h
   obtain ⟨hl,hbt⟩:=bldOf_some hb
   have hBT:=hΓ.bt T _ hbt
   obtain ⟨r',hr'⟩:∃ r':List UInt8,r'=r:=⟨r,rfl⟩
   subst hr'
   have hs:s=r':=Option.some.inj hr
   subst hs
   have hcl:=(hΓ.ex g _ hx).2 T hBT
   intro S w η a hi hlen ho
   obtain ⟨vs,hvs,hcall⟩:=call hx hi.inw ho
   cases hvs with
   | cons h1 h2 =>
    cases h2
    obtain ⟨b,e1,rfl⟩:=h1
    obtain ⟨F1,_,b',e1',u,hu,_⟩:=hi.read hl
    rw [e1] at e1'
    cases e1'
    refine hcall (hcl b u s w hu) fun en w' ⟨he,hch⟩=>⟨_,he,?_⟩
    obtain ⟨g1,g2⟩:=bld_gone hi hl e1 hu hch
    have hsl:s.length≤maxLen:=by
     obtain ⟨p,_,_,ho,_⟩:=hu
     rcases ho.2 with ⟨_,h0⟩ | ⟨_,cap,_,_,_,_,h1,h2,_⟩
     ·omega
     ·omega
    exact ⟨_,S,η,rfl,g1,.refl _,Out.refl _ _ _,g2,PM.str.2 ⟨rfl,hsl⟩⟩
  ·cases h
 ·-- Grow of nil
  rename_i T n hx
  cases h
  obtain ⟨ys,hys⟩:∃ ys:List T.den,ys=r:=⟨r,rfl⟩
  subst hys
  obtain ⟨n0,n1,rfl⟩:=growM_some (d:=T.dflt) hr
  have hcl:=(hΓ.ex g _ hx).2 n n0 n1
  show ∀ (S:Cells) (w:World) (η:Eta) (a:Act),HInv B η H S w→Free η nx (nx+1)→En.Only (lk e) (opReads o) S w η a.tmps→_
  intro S w η a hi hfree ho
  have hk0:η nx=none:=hfree nx (Nat.le_refl _) (Nat.lt_succ_self _)
  obtain ⟨vs,hvs,hcall⟩:=call hx hi.inw ho
  cases hvs with
  | cons h1 h2 =>
   cases h2 with
   | cons h2 h3 =>
    cases h3
    cases h1
    obtain ⟨rfl,_⟩:=(PM.int (S:=S) (w:=w) (η:=η)).1 h2
    refine hcall (hcl S w hi.inw) fun en w' ⟨u,S',F,q1,q2,q3,q4,q5⟩=>⟨u,q1,?_⟩
    refine ⟨u,S',η.add nx u,rfl,q3.mono hi.base,.push hk0 _,Out.add _ _ _,?_,?_⟩
    ·show HInv B _ ((nx,.arr T [])::H) S' w'
     exact hi.new hk0 q3.below.size q3.lt q3.keep q3.new (fun b hb=>q3.below.block b hb) F ⟨u,Eta.add_same _ _ _,q4⟩ q5
    ·change _∧_
     exact ⟨Eta.add_same _ _ _,q2⟩
 ·cases h
theorem alB_ok (hΓ:TabOK P Γ) {rd:Option Nat} {o:Oper} {e:Ev} {t:TypeId} {R:RdR} (hop:o.op=.alloc t) (h:alB Γ t H nx=some R) (r:R.T):R.OK P rd B o e (H,nx) r:=by
 have hd:∀ c,o.op≠.defer c:=by rw [hop];intro c hh;cases hh
 unfold alB at h
 split at h
 ·rename_i TB e0 hbt
  cases h
  obtain ⟨z,hz1,hz2⟩:=(hΓ.bt t _ hbt).zero
  refine ok_fl2 rfl hd fun S w η a hi hlen ho=>?_
  have hk0:η nx=none:=hlen nx (Nat.le_refl _) (Nat.lt_succ_self _)
  have hin:InLt S (w.alloc (.cells #[.pointer none,.slice none 0 0] t)):=fun b o h=>by
   have:=hi.inw.lt b o h
   simp only [World.size_alloc]
   omega
  have hk:Keep S w S (w.alloc (.cells #[.pointer none,.slice none 0 0] t)):=⟨fun _ _ h=>h,fun b o h=>World.cell?_of_block (a:=⟨b,o,none⟩) (Below.heap_alloc _ _ _ (hi.inw.lt b o h))⟩
  have hg:Grow B S w S (w.alloc (.cells #[.pointer none,.slice none 0 0] t)):=⟨(Below.refl _ _).alloc hi.base _,hk,hin,fun _ _ h=>.inl h,LK.alloc _ _⟩
  refine ⟨.pointer (some ⟨w.heap.size,0,none⟩),_,S,η.add nx (.pointer (some ⟨w.heap.size,0,none⟩)),.inl (by simp [execOp,hop,Instr.alloc,hz1,newVar,newRow,hz2]),hg,.push hk0 _,Out.add _ _ _,?_,?_⟩
  ·show HInv B _ ((nx,.bld t e0 [])::H) S _
   refine hi.new hk0 (by simp) hin hk (fun _ _ h=>.inl h) (fun b hb=>Below.heap_alloc _ _ _ hb) (fun b o=>b=w.heap.size) ⟨w.heap.size,Eta.add_same _ _ _,.slice none 0 0,⟨.pointer none,heap_alloc_new _ _,.inl rfl,World.ownsRow_nil _ _ _ _,(fun h=>by cases h),fun _=>rfl⟩,fun b' o=>⟨.inl,fun h=>h.elim id fun h=>by cases h⟩⟩ fun b o h=>by
    subst h
    exact ⟨Nat.le_refl _,by simp,fun hs=>absurd (hi.inw.lt _ o hs) (Nat.lt_irrefl _)⟩
  ·change ∃ b,_∧_
   exact ⟨w.heap.size,Eta.add_same _ _ _,rfl⟩
 ·cases h
theorem subL_some {T T':Ty} {x:T.den} {sz:Nat}:∀ {n:Nat} {ys:List T'.den},subL T x T' sz n=some ys→ys.length=n∧∀ i y,ys[i]? = some y→T.sub x (i*sz) T'=some y
 | 0,ys,h=>by cases h;exact ⟨rfl,fun i y hy=>by cases hy⟩
 | n+1,ys,h=>by
  unfold subL at h
  split at h
  ·rename_i l y h1 h2
   cases h
   obtain ⟨h3,h4⟩:=subL_some h1
   refine ⟨by simp [h3],fun i z hz=>?_⟩
   by_cases hi:i<l.length
   ·rw [List.getElem?_append_left hi] at hz
    exact h4 i z hz
   ·rw [List.getElem?_append_right (by omega)] at hz
    have hi2:i=n:=by
     have:=(List.getElem?_eq_some_iff.1 hz).1
     simp only [List.length_cons,List.length_nil] at this
     omega
    subst hi2
    rw [h3,Nat.sub_self] at hz
    cases hz
    exact h2
  ·cases h
theorem ixP_ok (hΓ:TabOK P Γ) {rd:Option Nat} {o:Oper} {e:Ev} {ctx:Ctx} {t:TypeId} {x i:Operand} {R:RdR} (hop:o.op=.indexAddr t x i) (hw:Wf e) (hc:CtxH e ctx) (h:ixP Γ t (ev e ctx x) (ev e ctx i) H nx=some R) (r:R.T) (hr:R.m=some r):R.OK P rd B o e (H,nx) r:=by
 have hd:∀ c,o.op≠.defer c:=by rw [hop];intro c hh;cases hh
 unfold ixP at h
 split at h
 ·rename_i ti T x0 k j hl hx hi
  split at h
  ·rename_i n el hk
   have hkd:=(hΓ.ty _ _ hl).kind
   rw [hk] at hkd
   split at h
   ·rename_i te hte
    have hse:=(hΓ.ty _ _ hte).size
    split at h
    ·rename_i T' hT'
     split at h
     ·rename_i ys hys
      cases h
      obtain ⟨y,hy⟩:∃ y:T'.den,y=r:=⟨r,rfl⟩
      subst hy
      obtain ⟨s1,s2⟩:=subL_some hys
      obtain ⟨h0,h1,h2⟩:=idxM_some hr
      refine ok_fl1 rfl hd fun S w η a hiv ho=>?_
      obtain ⟨b,off,cs,hv,hrep,hcell⟩:=ev_sound hw hc hx (by rw [hop];simp [Op.operands]) ho
      obtain ⟨f1,_⟩:=PM.int.1 (ev_sound hw hc hi (by rw [hop];simp [Op.operands]) ho)
      obtain ⟨c1,c2,c3,rfl,hl1,hr2⟩:=sub_rep hrep (s2 _ _ h2)
      refine ⟨_,run_ixArr hop (hkd w) (hse w) hv f1 h0 (by omega),b,_,c2,rfl,hr2,fun m u hm=>?_⟩
      have hml:=(List.getElem?_eq_some_iff.1 hm).1
      have:=hcell (j.toNat*te.size+m) u (by
       rw [List.getElem?_append_right (by omega),List.getElem?_append_left (by omega)]
       rw [← hm];congr 1;omega)
      rwa [← Nat.add_assoc] at this
     ·cases h
    ·cases h
   ·cases h
  ·cases h
 ·cases h
theorem bytR_sound {pv:PV} {xs:List Int} {v:Value} (h:bytR H pv=some xs) (hi:HInv B η H S w) (hv:PM S w η pv v) :
  ∃ base cap,v=.slice base xs.length cap∧xs.length≤maxLen∧(xs.length=0∨∃ b off,base=some ⟨b,off,none⟩∧∀ i,i<xs.length→w.cell? ⟨b,off+i,none⟩=some (.int .u8 (xs.getD i 0))):=by
 unfold bytR at h
 split at h
 ·rename_i ys
  cases h
  obtain ⟨base,cap,e1,h1,h2,h3⟩:=VRep.slice hv.2
  refine ⟨base,cap,e1,Nat.le_trans h1 h2,h3.imp id ?_⟩
  rintro ⟨b,off,e2,hx⟩
  refine ⟨b,off,e2,fun i hi=>?_⟩
  obtain ⟨es,he,hc⟩:=hx i _ (List.getElem?_eq_getElem hi)
  have he':es=[Value.int .u8 xs[i]]:=he.1
  have:=(hc 0 (.int .u8 xs[i]) (by rw [he'];rfl)).2
  rw [show off+i*(Ty.int IntKind.u8).size+0=off+i from by show off+i*1+0=off+i;omega] at this
  rw [this]
  simp [List.getD,hi]
 ·rename_i id
  split at h
  ·rename_i ys hlk
   cases h
   obtain ⟨F1,_,u,g1,hA⟩:=hi.read hlk
   obtain ⟨g2,_⟩:=hv
   rw [g2] at g1
   cases g1
   obtain ⟨base,cap,e1,h1,h2,h3⟩:=hA
   refine ⟨base,cap,e1,Nat.le_trans h1 h2,?_⟩
   by_cases h0:xs.length=0
   ·exact .inl h0
   ·right
    rcases h3 with ⟨h3,_⟩ | ⟨b,off,e2,_,_,hx⟩
    ·omega
    ·refine ⟨b,off,e2,fun i hi=>?_⟩
     obtain ⟨es,he,hc⟩:=hx i _ (List.getElem?_eq_getElem hi)
     have he':es=[Value.int .u8 xs[i]]:=he.1
     have:=hc 0 (.int .u8 xs[i]) (by rw [he'];rfl)
     rw [show off+i*(Ty.int IntKind.u8).size+0=off+i from by show off+i*1+0=off+i;omega] at this
     rw [this]
     simp [List.getD,hi]
  ·cases h
 ·cases h
theorem run_bytes {P:Program} {w:World} {s d el:TypeId} (hs:∀ w,(underlying s).run P w=.ok (.slice el) w) (he:∀ w,(underlying el).run P w=.ok (.int .u8) w) (hd:∀ w,(underlying d).run P w=.ok .string w) {base:Option Addr} {cap:Nat} {xs:List Int}
  (h:xs.length=0∨∃ b off,base=some ⟨b,off,none⟩∧∀ i,i<xs.length→w.cell? ⟨b,off+i,none⟩=some (.int .u8 (xs.getD i 0))):(convert s d (.slice base xs.length cap)).run P w=.ok (.string ⟨(strB xs).toArray⟩) w:=by
 have e:(convert s d (.slice base xs.length cap)).run P w=(Conv.bytesToString (.slice base xs.length cap)).run P w:=by simp [convert,hs w,hd w,he w]
 rw [e]
 have fin:∀ b off,base=some ⟨b,off,none⟩→(∀ i,i<xs.length→w.cell? ⟨b,off+i,none⟩=some (.int .u8 (xs.getD i 0)))→(Conv.bytesToString (.slice base xs.length cap)).run P w=.ok (.string ⟨(strB xs).toArray⟩) w:=by
  rintro b off rfl hc
  have hl:(loadCells ⟨b,off,none⟩ xs.length).run P w=.ok (xs.map (Value.int .u8)).toArray w:=by
   have:=run_loadCells_list (P:=P) w ⟨b,off,none⟩ (xs.map (Value.int .u8)) (fun j v hj=>by
    have hjl:j<xs.length:=by
     rcases Nat.lt_or_ge j xs.length with h | h
     ·exact h
     ·simp [List.getElem?_eq_none (show (xs.map (Value.int .u8)).length≤j by simpa using h)] at hj
    have hplain:(⟨b,off,none⟩:Addr).add j=⟨b,off+j,none⟩:=by unfold Addr.add;split<;>simp_all
    rw [hplain,hc j hjl]
    simp [List.getElem?_eq_getElem hjl] at hj
    subst hj
    simp [List.getD,List.getElem?_eq_getElem hjl])
   simpa using this
  rw [run_bytesToString w _ xs.length cap xs hl,foldl_push_bytes]
  simp [strB,ByteArray.empty,ByteArray.emptyWithCapacity]
  rfl
 rcases h with h0 | ⟨b,off,e1,hc⟩
 ·have hx:xs=[]:=List.length_eq_zero_iff.1 h0
  cases base with
  | none=>subst hx;simp [Conv.bytesToString,strB];rfl
  | some a =>
   subst hx
   have hl:(loadCells a 0).run P w=.ok (([]:List Int).map (Value.int .u8)).toArray w:=by
    have:=run_loadCells_list (P:=P) w a [] (fun j v hj=>by cases hj)
    simpa using this
   show (Conv.bytesToString (.slice (some a) 0 cap)).run P w=_
   rw [run_bytesToString w a 0 cap [] hl]
   simp [strB,ByteArray.empty,ByteArray.emptyWithCapacity]
   rfl
 ·exact fin b off e1 hc
theorem bsC_ok {rd:Option Nat} {o:Oper} {e:Ev} {ctx:Ctx} (hΓ:TabOK P Γ) {s d:TypeId} {x:Operand} {R:RdR} (hop:o.op=.convert s d x) (hw:Wf e) (hc:CtxH e ctx) (h:bsC Γ s d (ev e ctx x) H nx=some R) (r:R.T) (hr:R.m=some r):R.OK P rd B o e (H,nx) r:=by
 have hd:∀ c,o.op≠.defer c:=by rw [hop];intro c hh;cases hh
 unfold bsC at h
 split at h
 ·rename_i ts td pv hs htd hx
  split at h
  ·rename_i el bts xs e1 e2 hb
   split at h
   ·rename_i te hte
    split at h
    ·rename_i e3
     have ks:=(hΓ.ty s ts hs).kind
     have kd:=(hΓ.ty d td htd).kind
     have ke:=(hΓ.ty el te hte).kind
     rw [e1] at ks
     rw [e2] at kd
     rw [e3] at ke
     cases h
     obtain ⟨r',hr'⟩:∃ r':List UInt8,r'=r:=⟨r,rfl⟩
     subst hr'
     have hr2:some (strB xs)=some r':=hr
     cases hr2
     refine ok_fl1 rfl hd fun S w η a hi ho=>?_
     have hv:=ev_sound (a:=a) hw hc hx (by rw [hop];simp [Op.operands]) ho
     obtain ⟨base,cap,hv1,hlen,hcells⟩:=bytR_sound hb hi hv
     refine ⟨.string ⟨(strB xs).toArray⟩,?_,PM.str.2 ⟨rfl,by show (strB xs).length≤maxLen;unfold strB;rw [List.length_map];exact hlen⟩⟩
     have:=run_bytes (P:=P) (w:=w) (run_underlying ks.1) (fun w=>ke w) (fun w=>kd w) (cap:=cap) hcells
     simp [execOp,hop,hv1,this]
    ·cases h
   ·cases h
  ·cases h
 ·cases h
end
section
variable {Γ:Tabs} {o:Oper} {e:Ev} {ctx:Ctx} {H H':PH} {nx:Nat}
theorem op8_sound:OpF.Sound op8:=by
 intro P Γ hΓ rd B o e ctx H nx R h hw hc r hr
 unfold op8 at h
 split at h
 ·rename_i s d x hop
  exact bsC_ok hΓ hop hw hc h r hr
 ·rename_i t hop
  exact alB_ok hΓ hop h r
 ·rename_i t x i hop
  exact ixP_ok hΓ hop hw hc h r hr
 ·rename_i c hop
  split at h
  ·rename_i f args hcal ha
   split at h
   ·rename_i g hf
    exact exR_ok hΓ hop hcal ha hw hc hf h r hr
   ·cases h
  ·cases h
 ·cases h
theorem op8_fl {R:RdR} (h:op8 Γ o e ctx H nx=some R):R.fl≠0:=by
 unfold op8 at h
 split at h
 ·unfold bsC at h;(repeat' split at h)<;>first | (cases h;exact Nat.succ_ne_zero _) | cases h
 ·unfold alB at h;(repeat' split at h)<;>first | (cases h;exact Nat.succ_ne_zero _) | cases h
 ·unfold ixP at h;(repeat' split at h)<;>first | (cases h;exact Nat.succ_ne_zero _) | cases h
 ·split at h
  ·split at h
   ·unfold exR at h;(repeat' split at h)<;>first | (cases h;exact Nat.succ_ne_zero _) | cases h
   ·cases h
  ·cases h
 ·cases h
theorem exR_loc {g:FuncId} {args:List RV} (h1:Ag (RVs.ids args) H H'):exR Γ g args H' nx=exR Γ g args H nx:=by
 unfold exR
 generalize lk Γ.ex g=q
 split
 ·rfl
 ·rename_i TB e0 id t
  rw [h1 id (by simp [RVs.ids,RV.ids,CV.ids])]
 ·rename_i TB e0 id t
  rw [h1 id (by simp [RVs.ids,RV.ids,CV.ids])]
 ·rename_i TB e0 id
  rw [h1 id (by simp [RVs.ids,RV.ids,CV.ids])]
 ·rfl
 ·rfl
theorem op8_nice:op8.Nice:=by
 constructor
 ·intro Γ o e ctx H H' nx h
  unfold op8
  split
  ·rename_i s d x hop
   have h1:∀ pv,ev e ctx x=some pv→bytR H' pv=bytR H pv:=fun pv hx=>by
    unfold bytR
    split
    ·rfl
    ·rename_i id
     have:=h id (by
      have:o.op.operands.toList=[x]:=by simp [hop,Op.operands]
      unfold opIds
      rw [this]
      unfold opdIds
      rw [hx]
      simp [PV.ids,RV.ids,CV.ids])
     rw [this]
    ·rfl
   unfold bsC
   cases hx:ev e ctx x with
   | none=>cases lk Γ.ty s<;>cases lk Γ.ty d<;>rfl
   | some pv =>
    cases lk Γ.ty s with
    | none=>cases lk Γ.ty d<;>rfl
    | some ts =>
     cases lk Γ.ty d with
     | none=>rfl
     | some td=>simp only [h1 pv hx];rfl
  ·rfl
  ·rfl
  ·rename_i c hop
   split
   ·rename_i f args hcal ha
    have h1:Ag (RVs.ids args) H H':=argsE_ids ha (by
     have h2:Ag (opdIds e ctx (f::c.args.toList)) H H':=by
      have:o.op.operands.toList=f::c.args.toList:=by simp [hop,Op.operands,Call.operands,hcal]
      rw [← this];exact h
     unfold opdIds at h2
     exact h2.right)
    split
    ·exact exR_loc h1
    ·rfl
   ·rfl
  ·rfl
 ·intro Γ o e ctx H nx R h h0 H'
  exact absurd h0 (op8_fl h)
end
def OPS:OpF:=OPS7.or op8
theorem OPS_sound:OPS.Sound:=OPS7_sound.or op8_sound
theorem OPS_nice:OPS.Nice:=OPS7_nice.or' op8_nice fun Γ o e ctx H nx R h h0 hn H'=>absurd h0 (op8_fl h)
end Go.PE
