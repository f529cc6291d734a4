/-
 Texts of this proof, put together: PG, PK, P8, PH, PV.
 No conditions.
-/
import Derived.Test.YtdjfiampkhfooaaGreatDoorZ3
import Derived.Laws.IdiomStrings
import Derived.Laws.IdiomCopy
import Derived.Lib.SlTrimSet
import Derived.Lib.Repeat
import Derived.Lib.ItoaNum
import Derived.Lib.AtoiAll
import Derived.Laws.BytesArg
import Derived.Lib.AppendStr
set_option linter.all false
namespace Go.PE
open Go Go.RowKit Go.Abs
variable [db:DB] [ea:EA]
def bytesM (s:List UInt8):Option (List Int):=match Nat.ble s.length 1000000 with
 | true=>some (s.map fun b=>(b.toNat:Int))
 | false=>none
def rC {α:Type} (xs:List α) (lo n:Nat):List α:=(xs.drop lo).take n
def moveV {α:Type} (xs:List α) (lo1 lo2 k:Nat):List α:=xs.take lo1++(rC xs lo2 k++xs.drop (lo1+k))
def natLit:Option Operand→Option (Option Nat)
 | none=>some none
 | some (.const (.int .i64 (.ofNat n)))=>some (some n)
 | _=>none
def orD (a:Option Nat) (d:Nat):Nat:=match a with
 | some x=>x
 | none=>d
def slV (Γ:Tabs) (t:TypeId) (pv:PV) (lo hi:Option Operand) (H:PH) (nx:Nat):Option RdR:=match lk Γ.ty t,pv,natLit lo,natLit hi with
 | some ti,.r (.c (.p id 0)),some l,some h=>match ti.kind,lk H id with
  | .array n el,some (.flat m T xs)=>match lk Γ.ty el with
   | some te=>match Nat.beq te.size 1&&(Nat.beq m n&&(Nat.ble (orD l 0) (orD h n)&&(Nat.ble (orD h n) n&&Nat.blt (orD l 0) n))) with
    | true=>some (rdu (.vw id (orD l 0) (orD h n-orD l 0) (n-orD l 0)) H nx)
    | false=>none
   | none=>none
  | _,_=>none
 | _,_,_,_=>none
def cpV (Γ:Tabs) (t:TypeId) (a b:PV) (H:PH) (nx:Nat):Option RdR:=match a,b,bD Γ t with
 | .vw id lo1 n1 _,.vw id2 lo2 n2 _,some (_,_,T)=>match lk H id with
  | some (.flat m T' xs)=>match Nat.beq id id2&&(Nat.beq T.size 1&&(Nat.ble (lo1+Nat.min n2 n1) m&&(Nat.ble (lo2+Nat.min n2 n1) m&&Nat.ble m 1000000))) with
   | true=>some (wr (some ()) () (fun _=>.c (.d (.int .i64) (Nat.min n2 n1:Nat))) (fun _=>[(id,.flat m T' (moveV xs lo1 lo2 (Nat.min n2 n1)))]) nx)
   | false=>none
  | _=>none
 | _,_,_=>none
def sbC (Γ:Tabs) (s d:TypeId) (x:Option PV) (H:PH) (nx:Nat):Option RdR:=match lk Γ.ty s,bD Γ d,x with
 | some ts,some (el,_,.int .u8),some (.r (.c (.d .str xs)))=>match ts.kind,lk Γ.ty el with
  | .str,some te=>match te.kind with
   | .int .u8=>some (wn (bytesM xs) [] (fun _=>.c (.h nx)) (fun ys=>.arr (.int .u8) ys) H nx)
   | _=>none
  | _,_=>none
 | _,_,_=>none
def gld (Γ:Tabs) (t:TypeId) (g:Nat) (H:PH) (nx:Nat):Option RdR:=match lk Γ.ty t,lk globTab g with
 | some ti,some G=>match ti.agg,G.t.agg,Nat.beq ti.size G.xs.length with
  | true,false,true=>some (rdu (.s (G.xs.map fun x=>.d G.t x)) H nx)
  | _,_,_=>none
 | _,_=>none
def fldB (Γ:Tabs) (t:TypeId) (i:Nat) (pv:PV) (H:PH) (nx:Nat):Option RdR:=match lk Γ.bt t,pv,i with
 | some _,.r (.c (.p id 0)),0=>match lk H id with
  | some (.bld _ _ _)=>some (rdu (.c (.p id 0)) H nx)
  | _=>none
 | _,_,_=>none
def opG:OpF:=fun Γ o e ctx H nx=>match o.op with
 | .slice t x lo hi none=>match ev e ctx x with
  | some pv=>slV Γ t pv lo hi H nx
  | none=>none
 | .convert s d x=>sbC Γ s d (ev e ctx x) H nx
 | .load t (.global g)=>gld Γ t g H nx
 | .fieldAddr t x i=>match ev e ctx x with
  | some pv=>fldB Γ t i pv H nx
  | none=>none
 | .call c=>match c.callee,c.args.toList,c.argTypes.toList with
  | .builtin .copy,[d,s],[t,t']=>match ev e ctx d,ev e ctx s,Nat.beq t t' with
   | some pd,some ps,true=>cpV Γ t pd ps H nx
   | _,_,_=>none
  | _,_,_=>none
 | _=>none
section
variable {P:Program} {Γ:Tabs} {B:Nat} {S:Cells} {w:World} {η:Eta} {H:PH} {nx:Nat}
theorem natLit_val {x:Option Operand} {r:Option Nat} (h:natLit x=some r) (a:Act):(x=none∧r=none)∨∃ y n,x=some y∧r=some n∧a.eval y=.int .i64 (n:Nat):=by
 unfold natLit at h
 split at h
 ·cases h;exact .inl ⟨rfl,rfl⟩
 ·rename_i n
  cases h
  exact .inr ⟨_,n,rfl,rfl,rfl⟩
 ·cases h
theorem slV_ok (hΓ:TabOK P Γ) {rd:Option Nat} {o:Oper} {e:Ev} {ctx:Ctx} {t:TypeId} {x:Operand} {lo hi_:Option Operand} {pv:PV} {R:RdR} (hop:o.op=.slice t x lo hi_ none) (hw:Wf e) (hc:CtxH e ctx) (hx:ev e ctx x=some pv) (h:slV Γ t pv lo hi_ H nx=some R) (r:R.T):R.OK P rd B o e (H,nx) r:=by
 have hd:∀ c,o.op≠.defer c:=by rw [hop];intro c hh;cases hh
 unfold slV at h
 split at h
 ·rename_i ti id l hh hl hlo hhi
  split at h
  ·rename_i n el m T xs hk hlk
   have hkd:=(hΓ.ty _ _ hl).kind
   rw [hk] at hkd
   split at h
   ·rename_i te hte
    have hse:=(hΓ.ty _ _ hte).size
    split at h
    ·rename_i hb
     cases h
     simp only [bA] at hb
     obtain ⟨b1,b2,b3,b4,b5⟩:=hb
     have b1:=nB b1
     have b2:=nB b2
     have b3:=nL b3
     have b4:=nL b4
     have b5:orD l 0<n:=nL b5
     rw [b1] at hse
     refine nA rfl hd fun S w η a hiv ho=>?_
     obtain ⟨b,g1,g2⟩:=cA hw hc hx (by rw [hop];simp [Op.operands]) ho
     refine ⟨.slice (some ⟨b,orD l 0,none⟩) (orD hh n-orD l 0) (n-orD l 0),?_,b,g1,rfl⟩
     have hne:¬ (n=orD l 0):=by omega
     have e1:=natLit_val hlo a
     have e2:=natLit_val hhi a
     rcases e1 with ⟨rfl,rfl⟩ | ⟨y,k,rfl,rfl,ey⟩<;>rcases e2 with ⟨rfl,rfl⟩ | ⟨y2,k2,rfl,rfl,ey2⟩<;>simp only [orD] at b3 b4 b5 hne ⊢
     ·have hz:n≠0:=by omega
      simp [execOp,hop,g2,Instr.sliceAt,Instr.sureAddr,hkd w,hse w,Instr.sliceBounds,sliced,hz,Addr.add_lit]
     ·have hz:n≠0:=by omega
      have:(k2:Int)≤n:=by omega
      simp [execOp,hop,g2,ey2,Instr.sliceAt,Instr.sureAddr,hkd w,hse w,Instr.sliceBounds,sliced,run_sliceBound,this,hz,Addr.add_lit]
     ·have hz:n≠k:=by omega
      have:(k:Int)≤n:=by omega
      simp [execOp,hop,g2,ey,Instr.sliceAt,Instr.sureAddr,hkd w,hse w,Instr.sliceBounds,sliced,run_sliceBound,this,hz,Addr.add_lit]
     ·have hz:n≠k:=by omega
      have:(k:Int)≤k2:=by omega
      have:(k2:Int)≤n:=by omega
      simp [execOp,hop,g2,ey,ey2,Instr.sliceAt,Instr.sureAddr,hkd w,hse w,Instr.sliceBounds,sliced,run_sliceBound, *,hz,Addr.add_lit]
    ·cases h
   ·cases h
  ·cases h
 ·cases h
theorem gld_ok (hΓ:TabOK P Γ) {rd:Option Nat} {o:Oper} {e:Ev} {t:TypeId} {g:Nat} {R:RdR} (hop:o.op=.load t (.global g)) (h:gld Γ t g H nx=some R) (r:R.T):R.OK P rd B o e (H,nx) r:=by
 have hd:∀ c,o.op≠.defer c:=by rw [hop];intro c hh;cases hh
 unfold gld at h
 split at h
 ·rename_i ti G hl hG
  split at h
  ·rename_i hag hga hsz
   cases h
   have hsz:=nB hsz
   refine nA rfl hd fun S w η a hiv ho=>?_
   have hg:=(hiv.inw.gl g G hG).2
   have hs1:=Ty.size_nonagg hga
   have key:∀ (xs:List G.t.den) (k:Nat),(∀ i x,xs[i]? = some x→G.xs[k+i]? = some x)→∃ vs:List Value,All2 (CM S w η) (xs.map fun x=>.d G.t x) vs∧∀ j v,vs[j]? = some v→w.cell? ⟨g,k+j,none⟩=some v:=by
    intro xs
    induction xs with
    | nil=>exact fun k _=>⟨[],.nil,fun j v hj=>by cases hj⟩
    | cons x xs ih =>
     intro k hk
     obtain ⟨vs,h1,h2⟩:=ih (k+1) fun i y hy=>by
      have:=hk (i+1) y (by simpa using hy)
      rwa [show k+(i+1)=k+1+i by omega] at this
     obtain ⟨es,h3,h4⟩:=hg k x (by have:=hk 0 x rfl;simpa using this)
     have hl1:=h3.length
     rw [hs1] at hl1
     match es,hl1 with
     | [u],_ =>
      have h5:=(h4 0 u rfl).2
      rw [hs1] at h5
      refine ⟨u::vs,.cons ⟨hga,[u],h3,by unfold Ty.wrap;rw [hga];simp⟩ h1,fun j v hj=>?_⟩
      cases j with
      | zero=>cases hj;simpa using h5
      | succ j=>rw [show k+(j+1)=k+1+j by omega];exact h2 j v (by simpa using hj)
   obtain ⟨vs,h1,h2⟩:=key G.xs 0 fun i x hx=>by rw [Nat.zero_add];exact hx
   have hvl:vs.length=ti.size:=by rw [← h1.length,List.length_map,hsz]
   have hag':=(hΓ.ty _ _ hl).agg w
   rw [hag] at hag'
   have hsz':=(hΓ.ty _ _ hl).size w
   have hld:(loadCells ⟨g,0,none⟩ ti.size).run P w=.ok vs.toArray w:=by
    have:=run_loadCells_list (P:=P) w ⟨g,0,none⟩ vs fun j v hj=>by rw [Addr.add_lit];exact h2 j v hj
    rwa [hvl] at this
   refine ⟨.agg vs.toArray,fD (b:=g) (k:=0) hop rfl (by simp [loadVar,hag',hsz',hld]),vs,rfl,h1⟩
  ·cases h
 ·cases h
theorem fldB_ok (hΓ:TabOK P Γ) {rd:Option Nat} {o:Oper} {e:Ev} {ctx:Ctx} {t:TypeId} {x:Operand} {i:Nat} {pv:PV} {R:RdR} (hop:o.op=.fieldAddr t x i) (hw:Wf e) (hc:CtxH e ctx) (hx:ev e ctx x=some pv) (h:fldB Γ t i pv H nx=some R) (r:R.T):R.OK P rd B o e (H,nx) r:=by
 have hd:∀ c,o.op≠.defer c:=by rw [hop];intro c hh;cases hh
 unfold fldB at h
 split at h
 ·rename_i y id hbt
  split at h
  ·cases h
   refine nA rfl hd fun S w η a hiv ho=>?_
   obtain ⟨b,g1,g2⟩:=cA hw hc hx (by rw [hop];simp [Op.operands]) ho
   have hf:=(hΓ.bt t _ hbt).fld0 b w
   exact ⟨_,by simp [execOp,hop,g2,hf],b,g1,rfl⟩
  ·cases h
 ·cases h
theorem bytesM_some {s:List UInt8} {r:List Int} (h:bytesM s=some r):s.length≤1000000∧r=s.map fun b=>(b.toNat:Int):=by
 unfold bytesM at h
 split at h
 ·rename_i hb;cases h;exact ⟨nL hb,rfl⟩
 ·cases h
theorem und_of_run {t:TypeId} {d:TypeDesc} (h:∀ w,(underlying t).run P w=.ok d w) (w:World):P.underlying t=some d:=by
 have h:=h w
 unfold underlying at h
 cases hq:P.underlying t with
 | none=>simp [hq] at h
 | some x=>simp [hq] at h;rw [h]
theorem sbC_ok (hΓ:TabOK P Γ) {rd:Option Nat} {o:Oper} {e:Ev} {ctx:Ctx} {s d:TypeId} {x:Operand} {R:RdR} (hop:o.op=.convert s d x) (hw:Wf e) (hc:CtxH e ctx) (h:sbC Γ s d (ev e ctx x) H nx=some R) (r:R.T) (hr:R.m=some r):R.OK P rd B o e (H,nx) r:=by
 have hd:∀ c,o.op≠.defer c:=by rw [hop];intro c hh;cases hh
 unfold sbC at h
 split at h
 ·rename_i ts el bts xs hs hel hx
  split at h
  ·rename_i te hk hte
   have ks:=(hΓ.ty _ _ hs).kind
   rw [hk] at ks
   split at h
   ·rename_i hk2
    have ke:=(hΓ.ty _ _ hte).kind
    rw [hk2] at ke
    cases h
    obtain ⟨ys,hys⟩:∃ ys:List Int,ys=r:=⟨r,rfl⟩
    subst hys
    obtain ⟨hl,hyx⟩:=bytesM_some hr
    have hS:=tA hΓ hel
    refine jB rfl hd fun S w η a hi hfree ho=>?_
    have hk0:η nx=none:=hfree nx (nR _) (Nat.lt_succ_self _)
    obtain ⟨h1,_⟩:=PM.str.1 (cA hw hc hx (by rw [hop];simp [Op.operands]) ho)
    have hsz:(⟨xs.toArray⟩:ByteArray).size=xs.length:=by simp [ByteArray.size]
    have hrun:=run_bytes_of_string (P:=P) w s d el ⟨xs.toArray⟩ (und_of_run ks w) hS.und (und_of_run ke w)
    have hG:=yJ w xs.length 0 el (by omega)
    have hG2:=grownCap_le_maxLen w xs.length 0 el (by simp only [maxLen];omega)
    rw [hsz] at hrun
    generalize grownCap w xs.length 0 el=cap at *
    have hrs:(bytesRow ⟨xs.toArray⟩ cap).size=cap:=by
     unfold bytesRow
     rw [hsz]
     simp;omega
    rw [hrs] at hrun
    generalize hC:bytesRow ⟨xs.toArray⟩ cap=C at *
    have hyl:ys.length=xs.length:=by rw [hyx,List.length_map]
    have hg:Grow B S w S (w.drew.alloc (.cells C el (cap,cap+1))):=⟨((Below.refl _ _).drew).alloc hi.base _,⟨fun _ _ h=>h,fun b o h=>World.cell?_alloc_lt _ _ _ (hi.inw b o h)⟩,fun b o h=>by have:=hi.inw b o h;simp;omega,fun _ _ h=>.inl h,(LK.drew _).trans (LK.alloc _ _)⟩
    have hcell:∀ j,(w.drew.alloc (.cells C el (cap,cap+1))).cell? ⟨w.heap.size,j,none⟩=C[j]? := fun j=>World.cell?_alloc_mark w.drew C el (cap,cap+1) j
    have hfrz:∀ j,(w.drew.alloc (.cells C el (cap,cap+1))).frozen? ⟨w.heap.size,j,none⟩=(decide (cap≤j)&&decide (j<cap+1)):=fun j=>World.frozen?_alloc_mark w.drew C el cap (cap+1) j
    refine ⟨.slice (some ⟨w.heap.size,0,none⟩) xs.length cap,_,S,η.add nx (.slice (some ⟨w.heap.size,0,none⟩) xs.length cap),.inl (by simp [execOp,hop,h1,hrun]),hg,.push hk0 _,Out.add _ _ _,?_,?_⟩
    ·show HInv B _ ((nx,.arr (.int .u8) ys)::H) S _
     refine hi.new hk0 (by simp) hg.lt hg.keep (fun _ _ h=>.inl h) (fun b hb=>Below.heap_alloc _ _ _ hb) (fun b o=>b=w.heap.size∧o<cap) ⟨_,Eta.add_same _ _ _,some ⟨w.heap.size,0,none⟩,cap,by rw [hyl],by omega,hG2,.inr ⟨w.heap.size,0,rfl,fun b' o=>?_,fun o h2 h3=>?_,fun i x hix=>?_⟩⟩ fun b o h=>?_
     ·show (b'=w.heap.size∧o<cap)↔(b'=w.heap.size∧0≤o∧o<0+cap*1)
      omega
     ·have h3:o<0+cap*1:=h3
      refine ⟨⟨_,by rw [hcell o];exact Array.getElem?_eq_getElem (by omega)⟩,?_⟩
      rw [hfrz o,dF (by omega)];rfl
     ·have hix':i<ys.length:=(gS.1 hix).1
      have hx2:x=(xs[i]'(by omega)).toNat:=by
       rw [hyx,List.getElem?_map,gE (by omega)] at hix
       cases hix;rfl
      refine ⟨[.int .u8 x],⟨rfl,?_⟩,fun j v hj=>?_⟩
      ·rw [has_u8,hx2]
       have:=(xs[i]'(by omega)).toNat_lt
       omega
      ·match j with
       | 0 =>
        cases hj
        show World.cell? _ ⟨w.heap.size,0+i*1+0,none⟩=_
        rw [show 0+i*1+0=i by omega,hcell i,← hC,bytesRow_at ⟨xs.toArray⟩ cap i (by simp;omega),hx2]
        simp
       | j+1=>cases hj
     ·obtain ⟨rfl,h⟩:=h
      exact ⟨nR _,by simp,fun hs=>absurd (hi.inw _ _ hs) (by omega)⟩
    ·change _∧_
     exact ⟨Eta.add_same _ _ _,rfl⟩
   ·cases h
  ·cases h
 ·cases h
theorem cpV_ok (hΓ:TabOK P Γ) {rd:Option Nat} {o:Oper} {e:Ev} {ctx:Ctx} {t:TypeId} {d s:Operand} {pd ps:PV} {R:RdR} (hop:o.op=.call { callee:=.builtin .copy,args:=#[d,s],argTypes:=#[t,t] }) (hw:Wf e) (hc:CtxH e ctx) (hxd:ev e ctx d=some pd) (hxs:ev e ctx s=some ps)
  (h:cpV Γ t pd ps H nx=some R) (r:R.T):R.OK P rd B o e (H,nx) r:=by
 have hd:∀ c,o.op≠.defer c:=by rw [hop];intro c hh;cases hh
 have hm1:d∈o.op.operands.toList:=by rw [hop];simp [Op.operands,Call.operands]
 have hm2:s∈o.op.operands.toList:=by rw [hop];simp [Op.operands,Call.operands]
 unfold cpV at h
 split at h
 ·rename_i id lo1 n1 c1 id2 lo2 n2 c2 el bts T hel
  have hS:=tA hΓ hel
  split at h
  ·rename_i m T' xs hlk
   split at h
   ·rename_i hb
    cases h
    simp only [bA] at hb
    obtain ⟨b1,b2,b3,b4,b5⟩:=hb
    have b1:=nB b1
    subst b1
    have b2:=nB b2
    have b3:=nL b3
    have b4:=nL b4
    have b5:=nL b5
    refine jB rfl hd fun S w η a hi hlen ho=>?_
    obtain ⟨b,g1,g2⟩:=cA hw hc hxd hm1 ho
    obtain ⟨b',g1',g3⟩:=cA hw hc hxs hm2 ho
    rw [g1] at g1'
    cases g1'
    obtain ⟨F1,_,hP⟩:=hi.read hlk
    obtain ⟨hn,hag,_,_,hcs⟩:=uE hP g1
    generalize hk:Nat.min n2 n1=k at *
    have hpl:(rC xs lo2 k).length=k:=by unfold rC;simp;omega
    have key:∀ (ys:List T'.den) (k0:Nat),(∀ i x,ys[i]? = some x→xs[k0+i]? = some x)→∃ vs:List Value,All2 (fun x v=>T'.agg=false∧VRep S w T' x v) ys vs∧∀ j v,vs[j]? = some v→w.cell? ⟨b,k0+j,none⟩=some v:=by
     intro ys
     induction ys with
     | nil=>exact fun k _=>⟨[],.nil,fun j v hj=>by cases hj⟩
     | cons x ys ih =>
      intro k0 hk0
      obtain ⟨vs,h1,h2⟩:=ih (k0+1) fun i y hy=>by
       have:=hk0 (i+1) y (by simpa using hy)
       rwa [show k0+(i+1)=k0+1+i by omega] at this
      obtain ⟨v,h3,h4⟩:=hcs k0 x (by have:=hk0 0 x rfl;simpa using this)
      refine ⟨v::vs,.cons ⟨hag,h3⟩ h1,fun j u hj=>?_⟩
      cases j with
      | zero=>cases hj;simpa using h4
      | succ j=>rw [show k0+(j+1)=k0+1+j by omega];exact h2 j u (by simpa using hj)
    obtain ⟨vs,h1,h2⟩:=key (rC xs lo2 k) lo2 fun i x hx=>by
     unfold rC at hx
     have:=(gS.1 hx).1
     simp at this
     rw [List.getElem?_take_of_lt (by omega),List.getElem?_drop] at hx
     exact hx
    have hvl:vs.length=k:=by rw [← h1.length,hpl]
    obtain ⟨q1,q2,q3⟩:=flat_store (k:=lo1) hi hlk g1 (by rw [hpl];omega) h1
    obtain ⟨i,z,i1,i2,i3,i4,i5⟩:=hS.info
    have hcopy:=run_copy_cells (P:=P) w t t o.type el b lo1 n1 c1 ⟨b,lo2,none⟩ n2 c2 vs hS.und (by rw [i1];simp;exact i4.trans b2) (by rw [hvl,hk]) (fun j v hj=>by rw [Addr.add_lit];exact h2 j v hj) (fun j hj=>by obtain ⟨⟨u,hu⟩,_⟩:=q1 j hj;rw [hu];rfl) (fun j hj=>(q1 j hj).2) (all2_one h1)
    have hrun:(execOp a.eval o).run P w=.ok (.value (goInt vs.length)) (w.setCells b lo1 vs):=by
     simp [execOp,hop,resolve,invoke,builtin,g2,g3,hcopy]
    refine ⟨_,_,S,η,.inl hrun,q2,.refl _,Out.refl _ _ _,?_,?_⟩
    ·rw [hpl] at q3
     exact q3
    ·rw [hvl]
     exact PM.int.2 ⟨rfl,by rw [bJ];omega⟩
   ·cases h
  ·cases h
 ·cases h
end
section
variable {Γ:Tabs} {o:Oper} {e:Ev} {ctx:Ctx} {H H':PH} {nx:Nat}
theorem opG_sound:OpF.Sound opG:=by
 intro P Γ hΓ rd B o e ctx H nx R h hw hc r hr
 unfold opG at h
 split at h
 ·rename_i t x lo hi hop
  split at h
  ·rename_i pv hx
   exact slV_ok hΓ hop hw hc hx h r
  ·cases h
 ·rename_i s d x hop
  exact sbC_ok hΓ hop hw hc h r hr
 ·rename_i t g hop
  exact gld_ok hΓ hop h r
 ·rename_i t x i hop
  split at h
  ·rename_i pv hx
   exact fldB_ok hΓ hop hw hc hx h r
  ·cases h
 ·rename_i c hop
  split at h
  ·rename_i d s t t' hcal hxs hts
   have hce:=gC hcal hxs hts
   subst hce
   split at h
   ·rename_i pd ps hd hs hb
    have:=nB hb
    subst this
    exact cpV_ok hΓ hop hw hc hd hs h r
   ·cases h
  ·cases h
 ·cases h
theorem opG_fl {R:RdR} (h:opG Γ o e ctx H nx=some R):R.fl≠0:=by
 unfold opG at h
 split at h
 ·split at h
  ·unfold slV at h;(repeat' split at h)<;>first | (cases h;exact sZ _) | cases h
  ·cases h
 ·unfold sbC at h;(repeat' split at h)<;>first | (cases h;exact sZ _) | cases h
 ·unfold gld at h;(repeat' split at h)<;>first | (cases h;exact sZ _) | cases h
 ·split at h
  ·unfold fldB at h;(repeat' split at h)<;>first | (cases h;exact sZ _) | cases h
  ·cases h
 ·split at h
  ·split at h
   ·unfold cpV at h;(repeat' split at h)<;>first | (cases h;exact sZ _) | cases h
   ·cases h
  ·cases h
 ·cases h
theorem vJ {x:Operand} {pv:PV} {l:List Operand} (h1:o.op.operands.toList=x::l) (hx:ev e ctx x=some pv) (h:Ag (dD e ctx o) H H'):Ag pv.ids H H':=fun i hi=>h i (by
 unfold dD
 rw [h1]
 unfold rB
 rw [hx]
 simp [hi])
theorem opG_nice:opG.Nice:=by
 constructor
 ·intro Γ o e ctx H H' nx h
  unfold opG
  split
  ·rename_i t x lo hi hop
   split
   ·rename_i pv hx
    have h1:Ag pv.ids H H':=vJ (l:=lo.toList++hi.toList) (by rw [hop];simp [Op.operands]) hx h
    unfold slV
    generalize lk Γ.ty t=q
    generalize natLit lo=q1
    generalize natLit hi=q2
    split
    ·have h2:=Ag.one h1
     simp only [h2]
     rfl
    ·rfl
   ·rfl
  ·rfl
  ·rfl
  ·rename_i t x i hop
   split
   ·rename_i pv hx
    have h1:Ag pv.ids H H':=vJ (l:=[]) (by rw [hop];simp [Op.operands]) hx h
    unfold fldB
    generalize lk Γ.bt t=q
    split
    ·have h2:=Ag.one h1
     simp only [h2]
     rfl
    ·rfl
   ·rfl
  ·rename_i c hop
   split
   ·rename_i d s t t' hcal ha ht
    split
    ·rename_i pd ps hd hs hb
     obtain ⟨h1,h2⟩:=kH (by rw [hop];simp [Op.operands,Call.operands,hcal,ha]) hd hs h
     unfold cpV
     generalize bD Γ t=q
     split
     ·have h3:=Ag.one h1
      simp only [h3]
     ·rfl
    ·rfl
   ·rfl
  ·rfl
 ·intro Γ o e ctx H nx R h h0 H'
  exact absurd h0 (opG_fl h)
end
def OPSG:OpF:=OPS7.or opG
theorem OPSG_sound:OPSG.Sound:=OPS7_sound.or opG_sound
theorem OPSG_nice:OPSG.Nice:=OPS7_nice.or' opG_nice fun Γ o e ctx H nx R h h0 hn H'=>absurd h0 (opG_fl h)
def clrM {α:Type} (xs:List α) (lo:Int) (d:α):List α:=xs.take lo.toNat++List.replicate (xs.length-lo.toNat) d
def aJ (e:Ev) (ctx:Ctx) (x:Operand):Option Int:=match ev e ctx x with
 | some (.r (.c (.d (.int .i64) n)))=>some n
 | _=>none
def slC (Γ:Tabs) (e:Ev) (ctx:Ctx) (t:TypeId) (x:Operand) (lo hi mx:Operand) (H:PH) (nx:Nat):Option RdR:=match bD Γ t,ev e ctx x with
 | some (_,_,T),some pv=>match pG H T pv,aJ e ctx lo,aJ e ctx hi,aJ e ctx mx with
  | some xs,some l,some h,some m=>some (wr ((jJ h m).bind fun _=>pA xs l h) [] (fun ys=>.c (.d (.list T) ys)) (fun _=>dP H pv) nx)
  | _,_,_,_=>none
 | _,_=>none
def markV (dst:Option Nat) (l:List Nat):Bool:=match dst with | some t=>zC l (t+4000000) | none=>false
def vaS (Γ:Tabs) (dst:Option Nat) (t:TypeId) (pv:PV) (lo:Option Int) (H:PH) (nx:Nat):Option RdR:=match markS dst Γ.own,bD Γ t,pv,lo with
 | true,some (_,_,T),.r (.c (.h id)),some l=>match lk H id with
  | some (.arr T' xs)=>match Nat.beq T.size T'.size with
   | true=>some (rdr (oA l (lenM xs)) () (fun _=>.va id T'.size l) H nx)
   | false=>none
  | _=>none
 | _,_,_,_=>none
def shK (Γ:Tabs) (dst:Option Nat) (t:TypeId) (pv:PV) (hi:Option Int) (H:PH) (nx:Nat):Option RdR:=match markS dst Γ.own,bD Γ t,pv,hi with
 | true,some (_,_,T),.r (.c (.h id)),some h=>match lk H id with
  | some (.arr T' xs)=>match Nat.beq T.size T'.size&&Nat.blt id nx with
   | true=>some (wr (pA xs 0 h) [] (fun _=>.c (.h nx)) (fun ys=>[(nx,.arr T' ys),(id,.gone)]) (nx+1))
   | false=>none
  | _=>none
 | _,_,_,_=>none
def vhS (Γ:Tabs) (t:TypeId) (pv:PV) (hi:Option Int) (H:PH) (nx:Nat):Option RdR:=match bD Γ t,pv,hi with
 | some (_,_,T),.r (.c (.h id)),some h=>match lk H id with
  | some (.arr T' xs)=>match Nat.beq T.size T'.size with
   | true=>some (rdr (oA h (lenM xs+1)) () (fun _=>.vh id h) H nx)
   | false=>none
  | _=>none
 | _,_,_=>none
def vhA (Γ:Tabs) (t:TypeId) (ps px:PV) (H:PH) (nx:Nat):Option RdR:=match bD Γ t,ps with
 | some (_,bts,T),.vh id n=>match lk (fzP H px) id with
  | some (.arr T' xs)=>match pG H T px,yA (.list T) (t':=.list T') xs,Nat.blt id nx with
   | some ys,some xs,true=>some (wr ((pA xs 0 n).bind fun zs=>eB bts zs ys) xs (fun _=>.c (.h nx)) (fun zs=>(nx,.arr T zs)::(id,.gone)::dP H px) (nx+1))
   | _,_,_=>none
  | _=>none
 | _,_=>none
def vaI (Γ:Tabs) (t:TypeId) (pv:PV) (i:Option Int) (H:PH) (nx:Nat):Option RdR:=match bD Γ t,pv,i with
 | some (_,_,T),.va id sz lo,some i=>match lk H id with
  | some (.arr T' xs)=>match Nat.beq T.size T'.size&&Nat.beq sz T'.size with
   | true=>some (rdr (oA i (lenM xs-lo)) () (fun _=>.ep id sz (lo+i) 0) H nx)
   | false=>none
  | _=>none
 | _,_,_=>none
def vaL (Γ:Tabs) (t:TypeId) (pv:PV) (H:PH) (nx:Nat):Option RdR:=match bD Γ t,pv with
 | some _,.va id sz lo=>match lk H id with
  | some (.arr T' xs)=>some (rdu (.c (.d (.int .i64) (lenM xs-lo))) H nx)
  | _=>none
 | _,_=>none
def vaC (Γ:Tabs) (t:TypeId) (pv:PV) (H:PH) (nx:Nat):Option RdR:=match bD Γ t,pv with
 | some (_,_,T),.va id sz lo=>match lk H id with
  | some (.arr T' xs)=>match yA (.list T) (t':=.list T') xs,Nat.beq sz T.size with
   | some xs,true=>some (wr (some ()) () (fun _=>.t []) (fun _=>[(id,.arr T (clrM xs lo T.dflt))]) nx)
   | _,_=>none
  | _=>none
 | _,_=>none
def emptT0 (Γ:Tabs) (t:TypeId):Bool:=match lk Γ.ty t with
 | some ti=>match ti.kind with
  | .struct []=>true
  | _=>false
 | none=>false
def emptT (Γ:Tabs) (t:TypeId):Bool:=Nat.blt t 1000000&&emptT0 Γ t
def isIfc (Γ:Tabs) (t:TypeId):Bool:=match lk Γ.ty t with
 | some ti=>match ti.kind with
  | .ifc=>true
  | _=>false
 | none=>false
def mkI (Γ:Tabs) (t:TypeId) (pv:PV) (H:PH) (nx:Nat):Option RdR:=match emptT Γ t,pv with
 | true,.r (.s [])=>some (rdu (.c (.i t)) H nx)
 | _,_=>none
def tyA (Γ:Tabs) (t:TypeId) (pv:PV) (H:PH) (nx:Nat):Option RdR:=match emptT Γ t,pv with
 | true,.r (.c (.i t'))=>match Nat.beq t' t with
  | true=>some (rdu (.t [.s [],.c (.d .bool true)]) H nx)
  | false=>none
 | _,_=>none
def neIfc (Γ:Tabs) (op:BinOp) (t:TypeId) (a b:PV) (H:PH) (nx:Nat):Option RdR:=match isIfc Γ t,a,b with
 | true,.r (.c (.i _)),.r (.c (.l .nilI))=>match op with
  | .eql=>some (rdu (.c (.d .bool false)) H nx)
  | .neq=>some (rdu (.c (.d .bool true)) H nx)
  | _=>none
 | true,.r (.c (.l .nilI)),.r (.c (.l .nilI))=>match op with
  | .eql=>some (rdu (.c (.d .bool true)) H nx)
  | .neq=>some (rdu (.c (.d .bool false)) H nx)
  | _=>none
 | _,_,_=>none
def opK:OpF:=fun Γ o e ctx H nx=>match o.op with
 | .slice t x (some lo) (some hi) (some mx)=>slC Γ e ctx t x lo hi mx H nx
 | .slice t x (some lo) none none=>match ev e ctx x with
  | some pv=>vaS Γ o.dst t pv (aJ e ctx lo) H nx
  | none=>none
 | .slice t x none (some hi) none=>match ev e ctx x with
  | some pv=>match markV o.dst Γ.own with
   | true=>vhS Γ t pv (aJ e ctx hi) H nx
   | false=>shK Γ o.dst t pv (aJ e ctx hi) H nx
  | none=>none
 | .indexAddr t x i=>match ev e ctx x with
  | some pv=>vaI Γ t pv (aJ e ctx i) H nx
  | none=>none
 | .makeInterface t x=>match ev e ctx x with
  | some pv=>mkI Γ t pv H nx
  | none=>none
 | .typeAssert x _ t true=>match ev e ctx x with
  | some pv=>tyA Γ t pv H nx
  | none=>none
 | .binOp op t x (.const y) _=>match ev e ctx x,ev e ctx (.const y) with
  | some a,some b=>neIfc Γ op t a b H nx
  | _,_=>none
 | .call c=>match c.callee,c.args.toList,c.argTypes.toList with
  | .builtin .len,[x],[t]=>match ev e ctx x with
   | some pv=>vaL Γ t pv H nx
   | none=>none
  | .builtin .clear,[x],[t]=>match ev e ctx x with
   | some pv=>vaC Γ t pv H nx
   | none=>none
  | .builtin .append,[s,x],[t,t']=>match ev e ctx s,ev e ctx x,Nat.beq t t' with
   | some ps,some px,true=>vhA Γ t ps px H nx
   | _,_,_=>none
  | _,_,_=>none
 | _=>none
section
variable {P:Program} {Γ:Tabs} {B:Nat} {S:Cells} {w:World} {η:Eta} {H:PH} {nx:Nat}
theorem iD {e:Ev} {ctx:Ctx} {o:Oper} {a:Act} {x:Operand} {n:Int} (hw:Wf e) (hc:CtxH e ctx) (h:aJ e ctx x=some n) (hx:x∈o.op.operands.toList) (ho:En.Only (lk e) (rA o) S w η a.tmps):a.eval x=.int .i64 n:=by
 unfold aJ at h
 split at h
 ·rename_i m hm
  cases h
  exact (PM.int.1 (cA hw hc hm hx ho)).1
 ·cases h
theorem slC_ok (hΓ:TabOK P Γ) {rd:Option Nat} {o:Oper} {e:Ev} {ctx:Ctx} {t:TypeId} {x lo hi_ mx:Operand} {R:RdR} (hop:o.op=.slice t x (some lo) (some hi_) (some mx)) (hw:Wf e) (hc:CtxH e ctx) (h:slC Γ e ctx t x lo hi_ mx H nx=some R) (r:R.T) (hr:R.m=some r):R.OK P rd B o e (H,nx) r:=by
 have hd:∀ c,o.op≠.defer c:=by rw [hop];intro c hh;cases hh
 unfold slC at h
 split at h
 ·rename_i el bts T pv hel hx
  split at h
  ·rename_i xs li hh m hsrc hlo hhi hmx
   cases h
   obtain ⟨ys,hys⟩:∃ ys:List T.den,ys=r:=⟨r,rfl⟩
   subst hys
   have hr':(jJ hh m).bind (fun _=>pA xs li hh)=some ys:=hr
   obtain ⟨_,hs,hr2⟩:=Option.bind_eq_some_iff.1 hr'
   have hhm:hh=m:=by
    unfold jJ at hs
    split at hs
    ·rename_i hb;exact oD hb
    ·cases hs
   subst hhm
   obtain ⟨b1,b2,b3,hys⟩:=qC hr2
   refine jB rfl hd fun S w η a hiv hlen ho=>?_
   obtain ⟨S',h1,g1,hv⟩:=aH hiv hsrc (cA hw hc hx (by rw [hop];simp [Op.operands]) ho)
   have f0:=iD hw hc hlo (by rw [hop];simp [Op.operands]) ho
   have f1:=iD hw hc hhi (by rw [hop];simp [Op.operands]) ho
   have f2:=iD hw hc hmx (by rw [hop];simp [Op.operands]) ho
   have hI:=tA hΓ hel
   obtain ⟨base,cap,e1,e2,e3,e4⟩:=VRep.slice hv
   obtain ⟨i,z,i1,i2,i3,i4,i5⟩:=hI.info
   have hsz:(sizeOf el).run P w=.ok T.size w:=by simp [sizeOf,typeInfo,i1,i4]
   obtain ⟨l,rfl⟩:∃ l:Nat,li=(l:Int):=Int.eq_ofNat_of_zero_le b1
   obtain ⟨n,rfl⟩:∃ n:Nat,hh=(n:Int):=⟨hh.toNat,by omega⟩
   have h2:n≤xs.length:=by omega
   have hln:l≤n:=by omega
   simp only [Int.toNat_natCast] at hys
   have hyl:ys.length=n-l:=by rw [hys];simp;omega
   have hrun:(execOp a.eval o).run P w=.ok (.value (.slice (if n=l then base else base.map (·.add (l*T.size))) (n-l) (n-l))) w:=by
    simp [execOp,hop,e1,f0,f1,f2,Instr.sliceAt,Instr.slice,run_underlying hI.und,Instr.sliceBounds,Instr.sliceBound,asIntOf,hsz,show n≤cap by omega,hln]
   refine ⟨_,w,S',η,.inl hrun,g1,.refl _,Out.refl _ _ _,h1,rfl,?_⟩
   refine ⟨_,⟨_,n-l,by rw [hyl],by omega,by omega,?_⟩,rfl⟩
   by_cases h0:n=l
   ·left;omega
   ·right
    rw [if_neg h0]
    rcases e4 with e4 | ⟨b,off,rfl,e4⟩
    ·omega
    ·refine ⟨b,off+l*T.size,by simp [Addr.add_lit],fun i y hy=>?_⟩
     have hil:=(gS.1 hy).1
     rw [hys,List.getElem?_drop,List.getElem?_take_of_lt (by omega)] at hy
     obtain ⟨es,q1,q2⟩:=e4 (l+i) y hy
     refine ⟨es,q1,fun j u hj=>?_⟩
     have:=q2 j u hj
     rwa [show off+(l+i)*T.size+j=off+l*T.size+i*T.size+j by rw [Nat.add_mul];omega] at this
  ·cases h
 ·cases h
theorem vaS_ok (hΓ:TabOK P Γ) {rd:Option Nat} {o:Oper} {e:Ev} {ctx:Ctx} {t:TypeId} {x lo:Operand} {pv:PV} {R:RdR} (hop:o.op=.slice t x (some lo) none none) (hw:Wf e) (hc:CtxH e ctx) (hx:ev e ctx x=some pv) (h:vaS Γ o.dst t pv (aJ e ctx lo) H nx=some R) (r:R.T) (hr:R.m=some r):R.OK P rd B o e (H,nx) r:=by
 have hd:∀ c,o.op≠.defer c:=by rw [hop];intro c hh;cases hh
 unfold vaS at h
 split at h
 ·rename_i el bts T id l _ hel hlo
  split at h
  ·rename_i T' xs hlk
   split at h
   ·rename_i hb
    cases h
    have hsz0:=nB hb
    obtain ⟨hc0,hc1⟩:=iF hr
    have hI:=tA hΓ hel
    refine nA rfl hd fun S w η a hiv ho=>?_
    obtain ⟨h1,_⟩:=cA hw hc hx (by rw [hop];simp [Op.operands]) ho
    have f0:=iD hw hc hlo (by rw [hop];simp [Op.operands]) ho
    obtain ⟨F1,_,u,g1,hA⟩:=hiv.read hlk
    rw [h1] at g1
    obtain ⟨base,cap,e1,e2,e3,e4⟩:=hA
    subst e1
    have ex:=Option.some.inj g1
    obtain ⟨i,z,i1,i2,i3,i4,i5⟩:=hI.info
    have hsz:(sizeOf el).run P w=.ok T.size w:=by simp [sizeOf,typeInfo,i1,i4]
    obtain ⟨k,rfl⟩:∃ k:Nat,l=(k:Int):=Int.eq_ofNat_of_zero_le hc0
    have hkl:k<xs.length:=by have:(k:Int)<(xs.length:Int):=hc1;omega
    rcases e4 with ⟨e4,_⟩ | ⟨b,off,rfl,_⟩
    ·omega
    ·have hcl:¬ (cap=k):=by omega
     have hrun:(execOp a.eval o).run P w=.ok (.value (.slice (some ⟨b,off+k*T.size,none⟩) (xs.length-k) (cap-k))) w:=by
      simp [execOp,hop,ex,f0,Instr.sliceAt,Instr.slice,run_underlying hI.und,Instr.sliceBounds,Instr.sliceBound,asIntOf,hsz,show k≤xs.length by omega,hcl,Addr.add_lit]
     refine ⟨_,hrun,b,off,xs.length,cap,by rw [h1,ex],by omega,by omega,e2,?_⟩
     rw [hsz0,Int.toNat_natCast]
   ·cases h
  ·cases h
 ·cases h
theorem shK_ok (hΓ:TabOK P Γ) {rd:Option Nat} {o:Oper} {e:Ev} {ctx:Ctx} {t:TypeId} {x hi_:Operand} {pv:PV} {R:RdR} (hop:o.op=.slice t x none (some hi_) none) (hw:Wf e) (hc:CtxH e ctx) (hx:ev e ctx x=some pv) (h:shK Γ o.dst t pv (aJ e ctx hi_) H nx=some R) (r:R.T) (hr:R.m=some r):R.OK P rd B o e (H,nx) r:=by
 have hd:∀ c,o.op≠.defer c:=by rw [hop];intro c hh;cases hh
 unfold shK at h
 split at h
 ·rename_i el bts T id hh _ hel hhi
  split at h
  ·rename_i T' xs hlk
   split at h
   ·rename_i hb
    cases h
    simp only [bA] at hb
    have hsz0:=nB hb.1
    have hid:id<nx:=nL hb.2
    obtain ⟨ys,hys⟩:∃ ys:List T'.den,ys=r:=⟨r,rfl⟩
    subst hys
    obtain ⟨b1,b2,b3,hys⟩:=qC (show pA xs 0 hh=some ys from hr)
    have hI:=tA hΓ hel
    refine jB rfl hd fun S w η a hi hlen ho=>?_
    have hk0:η nx=none:=hlen nx (nR _) (Nat.lt_succ_self _)
    obtain ⟨h1,_⟩:=cA hw hc hx (by rw [hop];simp [Op.operands]) ho
    have f1:=iD hw hc hhi (by rw [hop];simp [Op.operands]) ho
    obtain ⟨F1,_,u,g1,hA⟩:=hi.read hlk
    rw [h1] at g1
    have hA0:=hA
    obtain ⟨base,cap,e1,e2,e3,e4⟩:=hA
    subst e1
    have ex:=Option.some.inj g1
    obtain ⟨i,z,i1,i2,i3,i4,i5⟩:=hI.info
    have hsz:(sizeOf el).run P w=.ok T.size w:=by simp [sizeOf,typeInfo,i1,i4]
    obtain ⟨n,rfl⟩:∃ n:Nat,hh=(n:Int):=Int.eq_ofNat_of_zero_le b2
    have h2:n≤xs.length:=by omega
    simp only [Int.toNat_natCast,Int.toNat_zero,List.drop_zero] at hys
    have hyl:ys.length=n:=by rw [hys];simp;omega
    have hrun0:(execOp a.eval o).run P w=.ok (.value (.slice (if cap=0 then base else base.map (·.add (0*T.size))) n cap)) w:=by
     simp [execOp,hop,ex,f1,Instr.sliceAt,Instr.slice,run_underlying hI.und,Instr.sliceBounds,Instr.sliceBound,asIntOf,hsz,show n≤cap by omega]
    have hbase:(if cap=0 then base else base.map (·.add (0*T.size)))=base:=by
     split
     ·rfl
     ·cases base with
      | none=>rfl
      | some b=>obtain ⟨b,o,s⟩:=b;simp [Addr.add]
    rw [hbase] at hrun0
    have hArr:∀ F:Cells,ArrH F S w (.slice base xs.length cap) T' xs→ArrH F S w (.slice base n cap) T' ys:=fun F hF=>by
     obtain ⟨base',cap',q1,q2,q3,q4⟩:=hF
     cases q1
     refine ⟨base,cap,by rw [hyl],by omega,q3,q4.imp (fun h=>h) ?_⟩
     rintro ⟨b,off,q5,q6,q7,q8⟩
     exact ⟨b,off,q5,q6,q7,fun i y hy=>q8 i y (by
      have hil:=(gS.1 hy).1
      rw [hys,List.getElem?_take_of_lt (by omega)] at hy
      exact hy)⟩
    refine ⟨_,w,S,η.add nx (.slice base n cap),.inl hrun0,Grow.refl hi.inw,.push hk0 _,Out.add _ _ _,?_,?_⟩
    ·show HInv B _ ((nx,.arr T' ys)::(id,.gone)::H) S w
     refine hi.move hk0 hlk (by omega) (nR _) hi.inw.lt (Keep.refl _ _) fun F2 hF2 hP2=>?_
     obtain ⟨u2,q1,hA2⟩:=hP2
     rw [h1,ex] at q1
     cases q1
     exact ⟨fun _ _ h=>.inl h,fun _ _ _ _=>⟨rfl,rfl⟩,fun _ _ _=>rfl,F2,⟨_,Eta.add_same _ _ _,hArr F2 hA2⟩,fun b o h=>⟨.inl h,(hF2 b o h).2⟩⟩
    ·change _∧_
     exact ⟨Eta.add_same _ _ _,rfl⟩
   ·cases h
  ·cases h
 ·cases h
theorem vhS_ok (hΓ:TabOK P Γ) {rd:Option Nat} {o:Oper} {e:Ev} {ctx:Ctx} {t:TypeId} {x hi_:Operand} {pv:PV} {R:RdR} (hop:o.op=.slice t x none (some hi_) none) (hw:Wf e) (hc:CtxH e ctx) (hx:ev e ctx x=some pv) (h:vhS Γ t pv (aJ e ctx hi_) H nx=some R) (r:R.T) (hr:R.m=some r):R.OK P rd B o e (H,nx) r:=by
 have hd:∀ c,o.op≠.defer c:=by rw [hop];intro c hh;cases hh
 unfold vhS at h
 split at h
 ·rename_i el bts T id hh hel hhi
  split at h
  ·rename_i T' xs hlk
   split at h
   ·rename_i hb
    cases h
    have hsz0:=nB hb
    obtain ⟨hc0,hc1⟩:=wG (n:=lenM xs+1) hr
    have hI:=tA hΓ hel
    refine nA rfl hd fun S w η a hiv ho=>?_
    obtain ⟨h1,_⟩:=cA hw hc hx (by rw [hop];simp [Op.operands]) ho
    have f1:=iD hw hc hhi (by rw [hop];simp [Op.operands]) ho
    obtain ⟨F1,_,u,g1,hA⟩:=hiv.read hlk
    rw [h1] at g1
    obtain ⟨base,cap,e1,e2,e3,e4⟩:=hA
    subst e1
    have ex:=Option.some.inj g1
    obtain ⟨i,z,i1,i2,i3,i4,i5⟩:=hI.info
    have hsz:(sizeOf el).run P w=.ok T.size w:=by simp [sizeOf,typeInfo,i1,i4]
    obtain ⟨n,rfl⟩:∃ n:Nat,hh=(n:Int):=Int.eq_ofNat_of_zero_le hc0
    have h2:n≤xs.length:=by have:(n:Int)<(xs.length:Int)+1:=hc1;omega
    have hrun0:(execOp a.eval o).run P w=.ok (.value (.slice (if cap=0 then base else base.map (·.add (0*T.size))) n cap)) w:=by
     simp [execOp,hop,ex,f1,Instr.sliceAt,Instr.slice,run_underlying hI.und,Instr.sliceBounds,Instr.sliceBound,asIntOf,hsz,show n≤cap by omega]
    have hbase:(if cap=0 then base else base.map (·.add (0*T.size)))=base:=by
     split
     ·rfl
     ·cases base with
      | none=>rfl
      | some b=>obtain ⟨b,o,s⟩:=b;simp [Addr.add]
    rw [hbase] at hrun0
    exact ⟨_,hrun0,base,xs.length,cap,by rw [h1,ex],by omega,by omega,e2,rfl⟩
   ·cases h
  ·cases h
 ·cases h
theorem vhA_ok (hΓ:TabOK P Γ) {rd:Option Nat} {o:Oper} {e:Ev} {ctx:Ctx} {t:TypeId} {s x:Operand} {ps px:PV} {R:RdR} (hop:o.op=.call { callee:=.builtin .append,args:=#[s,x],argTypes:=#[t,t] }) (hw:Wf e) (hc:CtxH e ctx) (hs:ev e ctx s=some ps) (hx:ev e ctx x=some px)
  (h:vhA Γ t ps px H nx=some R) (r:R.T) (hr:R.m=some r):R.OK P rd B o e (H,nx) r:=by
 have hd:∀ c,o.op≠.defer c:=by rw [hop];intro c hh;cases hh
 have hm1:s∈o.op.operands.toList:=by rw [hop];simp [Op.operands,Call.operands]
 have hm2:x∈o.op.operands.toList:=by rw [hop];simp [Op.operands,Call.operands]
 unfold vhA at h
 split at h
 ·rename_i el bts T id n hel
  have hS:=tA hΓ hel
  split at h
  ·rename_i T' xs' hlk
   split at h
   ·rename_i ys xs hsrc hcast hid
    cases h
    obtain ⟨hT,hxs⟩:=kA hcast
    cases hT
    have hxs:xs'=xs:=hxs
    subst hxs
    have hid:id<nx:=nL hid
    obtain ⟨zs,hz1,hz2⟩:=Option.bind_eq_some_iff.1 (show (pA xs' 0 n).bind (fun zs=>eB bts zs ys)=some r from hr)
    obtain ⟨b1,b2,b3,hzs0⟩:=qC hz1
    obtain ⟨hb,hzs⟩:=appM_some hz2
    simp only [Int.toNat_zero,List.drop_zero] at hzs0
    refine jB rfl hd fun S w η a hi0 hlen ho=>?_
    have hk0:η nx=none:=hlen nx (nR _) (Nat.lt_succ_self _)
    obtain ⟨S1,hi,hg1⟩:=bI hi0 px
    have hv:=jE hi hsrc (PM.mono hg1.keep (.refl _) (cA hw hc hx hm2 ho))
    obtain ⟨base,len,cap,f1,f2,f3,f4,f5⟩:=cA hw hc hs hm1 ho
    have hArr:∀ F:Cells,ArrH F S1 w (.slice base len cap) T xs'→ArrH F S1 w (a.eval s) T zs:=fun F hF=>by
     obtain ⟨base',cap',q1,q2,q3,q4⟩:=hF
     cases q1
     have hyl:zs.length=n.toNat:=by rw [hzs0];simp;omega
     rw [f5]
     refine ⟨base,cap,by rw [hyl],by omega,q3,q4.imp (fun h=>h) ?_⟩
     rintro ⟨b,off,q5,q6,q7,q8⟩
     exact ⟨b,off,q5,q6,q7,fun i y hy=>q8 i y (by
      have hil:=(gS.1 hy).1
      rw [hzs0,List.getElem?_take_of_lt (by omega)] at hy
      exact hy)⟩
    obtain ⟨F1,hF1,u,k1,hA⟩:=hi.read hlk
    rw [f1] at k1
    cases k1
    obtain ⟨v,w',F',g1,g2,g3,g4,g5,g6,g7,g8⟩:=ArrH.append' (ty:=o.type) hS hi.base hF1 hi.inw (hArr F1 hA) hv hb
    refine ⟨v,w',S1,η.add nx v,.inl (uF hop g1),hg1.trans g3,.push hk0 _,Out.add _ _ _,?_,?_⟩
    ·show HInv B (η.add nx v) (((nx,.arr T r)::(id,.gone)::dP H px)++H) S1 w'
     rw [List.cons_append,List.cons_append,← dJ,hzs]
     refine hi.move hk0 hlk (by omega) g3.below.size g3.lt g3.keep fun F2 hF2 hA2=>?_
     obtain ⟨u2,e1,hA2⟩:=hA2
     rw [f1] at e1
     cases e1
     obtain ⟨v2,w2,F2',p1,p2,p3,p4,p5,p6,p7,p8⟩:=ArrH.append' (ty:=o.type) hS hi.base hF2 hi.inw (hArr F2 hA2) hv hb
     rw [g1] at p1
     cases p1
     exact ⟨fun _ _ h=>.inl h,p7,p8,F2',⟨v,Eta.add_same _ _ _,p4⟩,fun b o h=>⟨p5 b o h,p6 b o h⟩⟩
    ·show CM S1 w' (η.add nx v) (.h nx) v
     exact ⟨Eta.add_same _ _ _,g2⟩
   ·cases h
  ·cases h
 ·cases h
theorem vaI_ok (hΓ:TabOK P Γ) {rd:Option Nat} {o:Oper} {e:Ev} {ctx:Ctx} {t:TypeId} {x i:Operand} {pv:PV} {R:RdR} (hop:o.op=.indexAddr t x i) (hw:Wf e) (hc:CtxH e ctx) (hx:ev e ctx x=some pv) (h:vaI Γ t pv (aJ e ctx i) H nx=some R) (r:R.T) (hr:R.m=some r):R.OK P rd B o e (H,nx) r:=by
 have hd:∀ c,o.op≠.defer c:=by rw [hop];intro c hh;cases hh
 unfold vaI at h
 split at h
 ·rename_i el bts T id sz lo m hel hix
  split at h
  ·rename_i T' xs hlk
   split at h
   ·rename_i hb
    cases h
    simp only [bA] at hb
    have s1:=nB hb.1
    have s2:=nB hb.2
    obtain ⟨hc0,hc1⟩:=wG (n:=lenM xs-lo) hr
    have hI:=tA hΓ hel
    refine nA rfl hd fun S w η a hiv ho=>?_
    obtain ⟨b,off,n,cap,g1,g2,g3,g4,g5⟩:=cA hw hc hx (by rw [hop];simp [Op.operands]) ho
    have f0:=iD hw hc hix (by rw [hop];simp [Op.operands]) ho
    obtain ⟨F1,_,u,g1',hA⟩:=hiv.read hlk
    rw [g1] at g1'
    cases g1'
    obtain ⟨base,cap',e1,e2,e3,e4⟩:=hA
    cases e1
    obtain ⟨ii,z,i1,i2,i3,i4,i5⟩:=hI.info
    have hsz:(sizeOf el).run P w=.ok sz w:=by simp [sizeOf,typeInfo,i1,i4];omega
    have hn:m<((xs.length-lo.toNat:Nat):Int):=by have:m<(xs.length:Int)-lo:=hc1;omega
    have e6:off+lo.toNat*sz+m.toNat*sz=off+(lo+m).toNat*sz+0:=by
     rw [Int.toNat_add g2 hc0,Nat.add_mul];omega
    refine ⟨_,sJ hop (run_underlying hI.und w) hsz g5 f0 hc0 hn,b,off,_,cap,g1,?_⟩
    rw [e6]
   ·cases h
  ·cases h
 ·cases h
theorem vaL_ok (hΓ:TabOK P Γ) {rd:Option Nat} {o:Oper} {e:Ev} {ctx:Ctx} {t:TypeId} {x:Operand} {pv:PV} {R:RdR} (hop:o.op=.call { callee:=.builtin .len,args:=#[x],argTypes:=#[t] }) (hw:Wf e) (hc:CtxH e ctx) (hx:ev e ctx x=some pv) (h:vaL Γ t pv H nx=some R) (r:R.T):R.OK P rd B o e (H,nx) r:=by
 have hd:∀ c,o.op≠.defer c:=by rw [hop];intro c hh;cases hh
 unfold vaL at h
 split at h
 ·rename_i y id sz lo hel
  split at h
  ·rename_i T' xs hlk
   cases h
   obtain ⟨el,bts,T⟩:=y
   have hI:=tA hΓ hel
   refine nA rfl hd fun S w η a hiv ho=>?_
   obtain ⟨b,off,n,cap,g1,g2,g3,g4,g5⟩:=cA hw hc hx (by rw [hop];simp [Op.operands,Call.operands]) ho
   obtain ⟨F1,_,u,g1',hA⟩:=hiv.read hlk
   rw [g1] at g1'
   cases g1'
   obtain ⟨base,cap',e1,e2,e3,e4⟩:=hA
   cases e1
   refine ⟨goInt ((xs.length-lo.toNat:Nat):Int),by simp [execOp,hop,resolve,invoke,builtin,g5,Builtin.len_,Builtin.lenOf,run_underlying hI.und],PM.int.2 ⟨?_,?_⟩⟩
   ·unfold goInt
    congr 1
    show ((xs.length-lo.toNat:Nat):Int)=(xs.length:Int)-lo
    omega
   ·rw [bJ];simp only [lenM,maxLen] at *;omega
  ·cases h
 ·cases h
theorem repL_zero {T:Ty} (S:Cells) (w:World) (k:Nat):RepL S w T (List.replicate k T.dflt) (Builtin.zeroCells T.zero.toArray k).toList:=by
 have hz:∀ k,(Builtin.zeroCells T.zero.toArray (k+1)).toList=T.zero++(Builtin.zeroCells T.zero.toArray k).toList:=fun k=>by
  have hp:=T.size_pos
  have hl:=T.zero_length
  apply List.ext_getElem?
  intro j
  by_cases hj:j<T.size
  ·rw [xL (by omega)]
   have:j<(k+1)*T.size:=by rw [Nat.add_mul];omega
   simp [Builtin.zeroCells,hl,this,Nat.mod_eq_of_lt hj]
   rw [gE (by omega)];simp
  ·rw [xR (by omega),hl]
   by_cases hj2:j<(k+1)*T.size
   ·have h2:j-T.size<k*T.size:=by rw [Nat.add_mul] at hj2;omega
    have h3:(j-T.size) % T.size=j % T.size:=by
     have:=Nat.add_mod_right (j-T.size) T.size
     rw [Nat.sub_add_cancel (by omega)] at this
     exact this.symm
    simp [Builtin.zeroCells,hl,hj2,h2,h3]
   ·have h2:¬ j-T.size<k*T.size:=by rw [Nat.add_mul] at hj2;omega
    simp [Builtin.zeroCells,hl,hj2,h2]
 induction k with
 | zero=>show (Builtin.zeroCells T.zero.toArray 0).toList=[];simp [Builtin.zeroCells]
 | succ k ih=>exact ⟨T.zero,_,hz k,T.zero_rep _ _,ih⟩
theorem ArrH.overAt {F:Cells} {u:Value} {T:Ty} {xs ys:List T.den} {news:List Value} {k:Nat} (hF:∀ b o,F b o→B≤b∧b<w.heap.size∧¬ S b o) (hin:InLt S w) (h:ArrH F S w u T xs) (hl:k+ys.length≤xs.length) (h0:0<ys.length)
  (hr:RepL S w T ys news):∃ b off cap,u=.slice (some ⟨b,off,none⟩) xs.length cap∧(∀ m,m<news.length→F b (off+k*T.size+m)∧World.there w b (off+k*T.size+m))∧Grow B S w S (w.setCells b (off+k*T.size) news)∧ArrH F S (w.setCells b (off+k*T.size) news) u T (xs.take k++(ys++xs.drop (k+ys.length))):=by
 obtain ⟨base,cap,rfl,c1,c2,c3⟩:=h
 have hnl:=hr.length
 rcases c3 with ⟨c3,_⟩ | ⟨b,off,rfl,hf,ht,hxs⟩
 ·omega
 have hm:xs.length*T.size≤cap*T.size:=Nat.mul_le_mul_right _ c1
 have hm2:(k+ys.length)*T.size≤xs.length*T.size:=Nat.mul_le_mul_right _ hl
 rw [Nat.add_mul] at hm2
 have hin2:∀ m,m<news.length→F b (off+k*T.size+m)∧World.there w b (off+k*T.size+m):=fun m hm=>⟨(hf _ _).2 ⟨rfl,by omega,by omega⟩,ht _ (by omega) (by omega)⟩
 have hpos:0<news.length:=by rw [hnl];exact Nat.mul_pos h0 T.size_pos
 have hst:Grow B S w S (w.setCells b (off+k*T.size) news):=Grow.stored hin (hF _ _ (hin2 0 hpos).1).1 fun m hm=>(hF _ _ (hin2 m hm).1).2.2
 have hcells:∀ m u,news[m]? = some u→(w.setCells b (off+k*T.size) news).cell? ⟨b,off+k*T.size+m,none⟩=some u:=fun m u hm=>by
  have hml:=(gS.1 hm).1
  rw [World.cell?_setCells_in b news _ w (fun m hm=>by obtain ⟨_,⟨v,hv⟩,_⟩:=hin2 m hm;rw [hv];rfl) m hml]
  rw [gE hml] at hm
  exact hm
 have hlen:(xs.take k++(ys++xs.drop (k+ys.length))).length=xs.length:=by simp;omega
 refine ⟨b,off,cap,rfl,hin2,hst,_,cap,by rw [hlen],by omega,c2,.inr ⟨b,off,rfl,hf,fun o h1 h2=>?_,fun m y hm=>?_⟩⟩
 ·obtain ⟨⟨z,hz⟩,hfz⟩:=ht o h1 h2
  refine ⟨?_,by rw [World.frozen?_setCells];exact hfz⟩
  by_cases hio:off+k*T.size≤o∧o<off+k*T.size+news.length
  ·have:=hcells (o-(off+k*T.size)) _ (gE (by omega))
   rw [show off+k*T.size+(o-(off+k*T.size))=o by omega] at this
   exact ⟨_,this⟩
  ·exact ⟨z,by rw [World.cell?_setCells_out b news _ w ⟨b,o,none⟩ fun _ _=>by simp only;omega];exact hz⟩
 ·have old:(m<k∨k+ys.length≤m)→xs[m]? = some y→∃ es,Rep S (w.setCells b (off+k*T.size) news) T y es∧∀ j v,es[j]? = some v→(w.setCells b (off+k*T.size) news).cell? ⟨b,off+m*T.size+j,none⟩=some v:=fun hmk hy=>by
   obtain ⟨es,he,hc⟩:=hxs m y hy
   refine ⟨es,he.keep hst.keep,fun j v hj=>?_⟩
   have hjl:j<T.size:=by rw [← he.length];exact (gS.1 hj).1
   rw [World.cell?_setCells_out b news _ w ⟨b,off+m*T.size+j,none⟩ fun _ _=>?_]
   ·exact hc j v hj
   ·simp only
    rcases hmk with hmk | hmk
    ·left
     have:(m+1)*T.size≤k*T.size:=Nat.mul_le_mul_right _ hmk
     rw [Nat.add_mul] at this
     omega
    ·right
     have:(k+ys.length)*T.size≤m*T.size:=Nat.mul_le_mul_right _ hmk
     rw [Nat.add_mul] at this
     omega
  by_cases hmk:m<k
  ·rw [xL (by simp;omega),List.getElem?_take_of_lt hmk] at hm
   exact old (.inl hmk) hm
  ·rw [xR (by simp;omega)] at hm
   simp only [lT,Nat.min_eq_left (show k≤xs.length by omega)] at hm
   by_cases hmy:m-k<ys.length
   ·rw [xL hmy] at hm
    obtain ⟨es,he,hc⟩:=hr.get (m-k) y hm
    refine ⟨es,he.keep hst.keep,fun j v hj=>?_⟩
    have e1:off+m*T.size+j=off+k*T.size+((m-k)*T.size+j):=by
     rw [show m*T.size=k*T.size+(m-k)*T.size by rw [← Nat.add_mul];congr 1;omega];omega
    rw [e1];exact hcells _ v (hc j v hj)
   ·rw [xR (by omega),List.getElem?_drop,show k+ys.length+(m-k-ys.length)=m by omega] at hm
    exact old (.inr (by omega)) hm
theorem vaC_ok (hΓ:TabOK P Γ) {rd:Option Nat} {o:Oper} {e:Ev} {ctx:Ctx} {t:TypeId} {x:Operand} {pv:PV} {R:RdR} (hop:o.op=.call { callee:=.builtin .clear,args:=#[x],argTypes:=#[t] }) (hw:Wf e) (hc:CtxH e ctx) (hx:ev e ctx x=some pv) (h:vaC Γ t pv H nx=some R) (r:R.T):R.OK P rd B o e (H,nx) r:=by
 have hd:∀ c,o.op≠.defer c:=by rw [hop];intro c hh;cases hh
 unfold vaC at h
 split at h
 ·rename_i el bts T id sz lo hel
  have hI:=tA hΓ hel
  split at h
  ·rename_i T' xs' hlk
   split at h
   ·rename_i xs hcast hb
    cases h
    obtain ⟨hT,hxx⟩:=kA hcast
    cases hT
    have hxx:xs'=xs:=hxx
    subst hxx
    have hb:=nB hb
    subst hb
    refine jB rfl hd fun S w η a hi hlen ho=>?_
    obtain ⟨b,off,n,cap,g1,g2,g3,g4,g5⟩:=cA hw hc hx (by rw [hop];simp [Op.operands,Call.operands]) ho
    obtain ⟨i,z,i1,i2,i3,i4,i5⟩:=hI.info
    obtain ⟨F1,hF1,u,g1',hA⟩:=hi.read hlk
    rw [g1] at g1'
    cases g1'
    have hlenx:n=xs'.length:=by obtain ⟨base,cap',e1,_⟩:=hA;cases e1;rfl
    subst hlenx
    obtain ⟨k,rfl⟩:∃ k:Nat,lo=(k:Int):=Int.eq_ofNat_of_zero_le g2
    have hk:k<xs'.length:=by omega
    have hrl:=repL_zero (T:=T) S w (xs'.length-k)
    generalize hnews:(Builtin.zeroCells T.zero.toArray (xs'.length-k)).toList=news at hrl
    have hclr:xs'.take k++(List.replicate (xs'.length-k) T.dflt++xs'.drop (k+(List.replicate (xs'.length-k) T.dflt).length))=clrM xs' (k:Int) T.dflt:=by
     unfold clrM
     rw [List.length_replicate,Int.toNat_natCast,show k+(xs'.length-k)=xs'.length by omega,List.drop_length,List.append_nil]
    have hnl:=hrl.length
    rw [List.length_replicate] at hnl
    have hnpos:0<news.length:=by rw [hnl];exact Nat.mul_pos (by omega) T.size_pos
    obtain ⟨b1,off1,cap1,hu1,hin,hg,hA'⟩:=ArrH.overAt (k:=k) hF1 hi.inw hA (ys:=List.replicate (xs'.length-k) T.dflt) (by rw [List.length_replicate];omega) (by rw [List.length_replicate];omega) hrl
    cases hu1
    rw [hclr] at hA'
    have hst:(storeCells ⟨b,off+k*T.size,none⟩ news 0).run P w=.ok () (w.setCells b (off+k*T.size) news):=by
     have:=run_storeCells_cells (P:=P) b (off+k*T.size) news 0 w (fun j hj=>by
      obtain ⟨_,⟨v,hv⟩,_⟩:=hin j hj
      rw [Nat.add_zero,hv];rfl) (fun j hj=>by rw [Nat.add_zero];exact (hin j hj).2.2) hrl.one
     rwa [Nat.add_zero] at this
    have hrun:(execOp a.eval o).run P w=.ok (.value (.tuple #[])) (w.setCells b (off+k*T.size) news):=by
     obtain ⟨m,hm⟩:∃ m,xs'.length-k=m+1:=⟨xs'.length-k-1,by omega⟩
     rw [Int.toNat_natCast,hm] at g5
     rw [hm] at hnews
     simp [execOp,hop,resolve,invoke,builtin,g5,Builtin.clear_,run_underlying hI.und,zeroValue,typeInfo,i1,i2,i3,hnews,hst]
    refine ⟨_,_,S,η,.inl hrun,hg,.refl _,Out.refl _ _ _,?_,[],rfl,.nil⟩
    show HInv B η ((id,.arr T (clrM xs' (k:Int) T.dflt))::H) S _
    refine hi.set hlk (by rw [zA];exact nR _) hg.lt hg.keep fun G hG hAG=>?_
    obtain ⟨u2,q1,hAG⟩:=hAG
    rw [g1] at q1
    cases q1
    obtain ⟨b3,off3,cap3,hu3,hin3,hg3,hA3⟩:=ArrH.overAt (k:=k) hG hi.inw hAG (ys:=List.replicate (xs'.length-k) T.dflt) (by rw [List.length_replicate];omega) (by rw [List.length_replicate];omega) hrl
    cases hu3
    rw [hclr] at hA3
    refine ⟨fun _ _ h=>.inl h,fun b' o' _ hn=>⟨World.cell?_setCells_out b news _ w ⟨b',o',none⟩ fun hb _=>?_,World.frozen?_setCells _ _ _ _ _⟩,fun b' _ hn=>gB b news _ w b' fun h=>hn _ (h▸(hin3 0 hnpos).1),G,⟨_,g1,hA3⟩,fun b o h=>⟨.inl h,by rw [zA];exact (hG b o h).2.1,(hG b o h).2.2⟩⟩
    simp only at hb ⊢
    subst hb
    rcases Nat.lt_or_ge o' (off+k*T.size) with h | h
    ·exact .inl h
    ·refine .inr (Nat.le_of_not_lt fun hlt=>hn ?_)
     have:=(hin3 (o'-(off+k*T.size)) (by omega)).1
     rwa [show off+k*T.size+(o'-(off+k*T.size))=o' by omega] at this
   ·cases h
  ·cases h
 ·cases h
theorem emptT_kind (hΓ:TabOK P Γ) {t:TypeId} (h:emptT Γ t=true):∃ farr:Array Field,∀ w,(underlying t).run P w=.ok (.struct farr) w:=by
 unfold emptT at h
 simp only [bA] at h
 replace h:=h.2
 unfold emptT0 at h
 split at h
 ·rename_i ti hl
  have hk:=(hΓ.ty _ _ hl).kind
  split at h
  ·rename_i hkk
   rw [hkk] at hk
   obtain ⟨farr,h1,_⟩:=hk
   exact ⟨farr,h1⟩
  ·cases h
 ·cases h
theorem isIfc_kind (hΓ:TabOK P Γ) {t:TypeId} (h:isIfc Γ t=true):∃ ms,∀ w,(underlying t).run P w=.ok (.interface ms) w:=by
 unfold isIfc at h
 split at h
 ·rename_i ti hl
  have hk:=(hΓ.ty _ _ hl).kind
  split at h
  ·rename_i hkk
   rw [hkk] at hk
   exact hk
  ·cases h
 ·cases h
theorem payV_lt {t:TypeId} (h:emptT Γ t=true):yC t=.iface t (.agg #[]):=by
 unfold emptT at h
 simp only [bA] at h
 unfold yC
 rw [h.1]
theorem payV_if (T:TypeId):∃ T' v,yC T=.iface T' v:=by unfold yC;split<;>exact ⟨_,_,rfl⟩
theorem mkI_ok (hΓ:TabOK P Γ) {rd:Option Nat} {o:Oper} {e:Ev} {ctx:Ctx} {t:TypeId} {x:Operand} {pv:PV} {R:RdR} (hop:o.op=.makeInterface t x) (hw:Wf e) (hc:CtxH e ctx) (hx:ev e ctx x=some pv) (h:mkI Γ t pv H nx=some R) (r:R.T):R.OK P rd B o e (H,nx) r:=by
 have hd:∀ c,o.op≠.defer c:=by rw [hop];intro c hh;cases hh
 unfold mkI at h
 split at h
 ·rename_i hE
  cases h
  obtain ⟨farr,hu⟩:=emptT_kind hΓ hE
  refine nA rfl hd fun S w η a hiv ho=>?_
  obtain ⟨vs,g1,g2⟩:=cA hw hc hx (by rw [hop];simp [Op.operands]) ho
  cases g2
  exact ⟨.iface t (.agg #[]),by simp [execOp,hop,Instr.makeInterface,hu w,g1],(payV_lt hE).symm⟩
 ·cases h
theorem tyA_ok (hΓ:TabOK P Γ) {rd:Option Nat} {o:Oper} {e:Ev} {ctx:Ctx} {t xt:TypeId} {x:Operand} {pv:PV} {R:RdR} (hop:o.op=.typeAssert x xt t true) (hw:Wf e) (hc:CtxH e ctx) (hx:ev e ctx x=some pv) (h:tyA Γ t pv H nx=some R) (r:R.T):R.OK P rd B o e (H,nx) r:=by
 have hd:∀ c,o.op≠.defer c:=by rw [hop];intro c hh;cases hh
 unfold tyA at h
 split at h
 ·rename_i t' hE
  split at h
  ·rename_i hb
   cases h
   have:=nB hb
   subst this
   obtain ⟨farr,hu⟩:=emptT_kind hΓ hE
   refine nA rfl hd fun S w η a hiv ho=>?_
   have g1:=cA hw hc hx (by rw [hop];simp [Op.operands]) ho
   have g1:a.eval x=.iface t' (.agg #[]):=Eq.trans g1 (payV_lt hE)
   refine ⟨.tuple #[.agg #[],.bool true],by simp [execOp,hop,Instr.typeAssert,hu w,g1],[.agg #[],.bool true],rfl,.cons ⟨[],rfl,.nil⟩ (.cons ⟨rfl,VRep.bool.2 rfl⟩ .nil)⟩
  ·cases h
 ·cases h
theorem neIfc_ok (hΓ:TabOK P Γ) {rd:Option Nat} {o:Oper} {e:Ev} {ctx:Ctx} {op:BinOp} {t:TypeId} {x:Operand} {y0:Value} {hnt:_} {a0 b0:PV} {R:RdR} (hop:o.op=.binOp op t x (.const y0) hnt) (hw:Wf e) (hc:CtxH e ctx) (hx:ev e ctx x=some a0) (hy:ev e ctx (.const y0)=some b0) (h:neIfc Γ op t a0 b0 H nx=some R) (r:R.T):R.OK P rd B o e (H,nx) r:=by
 have hd:∀ c,o.op≠.defer c:=by rw [hop];intro c hh;cases hh
 unfold neIfc at h
 split at h
 ·rename_i T hE
  obtain ⟨ms,hu⟩:=isIfc_kind hΓ hE
  obtain ⟨T',v',ep⟩:=payV_if T
  have key:∀ w,(Op.equalIn (9999+1) t (.iface T' v') .nilIface).run P w=.ok false w:=fun w=>by rw [Op.equalIn,Sem.run_bind,hu w];rfl
  split at h
  ·cases h
   refine nA rfl hd fun S w η a hiv ho=>?_
   have g1:a.eval x=yC T:=cA hw hc hx (by rw [hop];simp [Op.operands]) ho
   rw [ep] at g1
   have g2:a.eval (.const y0)=.nilIface:=cA hw hc hy (by rw [hop];simp [Op.operands]) ho
   have:=(iE (P:=P) (w:=w) (t:=t) rfl rfl (key w)).1
   exact ⟨.bool false,by rw [show (execOp a.eval o)=_ from by unfold execOp;rw [hop]];simp only [g1,g2];simp [eqGuard,this],PM.bool.2 rfl⟩
  ·cases h
   refine nA rfl hd fun S w η a hiv ho=>?_
   have g1:a.eval x=yC T:=cA hw hc hx (by rw [hop];simp [Op.operands]) ho
   rw [ep] at g1
   have g2:a.eval (.const y0)=.nilIface:=cA hw hc hy (by rw [hop];simp [Op.operands]) ho
   have:=(iE (P:=P) (w:=w) (t:=t) rfl rfl (key w)).2
   exact ⟨.bool true,by rw [show (execOp a.eval o)=_ from by unfold execOp;rw [hop]];simp only [g1,g2];simp [eqGuard,this],PM.bool.2 rfl⟩
  ·cases h
 ·rename_i hE
  obtain ⟨ms,hu⟩:=isIfc_kind hΓ hE
  have key:∀ w,(Op.equalIn (9999+1) t .nilIface .nilIface).run P w=.ok true w:=fun w=>by rw [Op.equalIn,Sem.run_bind,hu w];rfl
  split at h
  ·cases h
   refine nA rfl hd fun S w η a hiv ho=>?_
   have g1:a.eval x=.nilIface:=cA hw hc hx (by rw [hop];simp [Op.operands]) ho
   have g2:a.eval (.const y0)=.nilIface:=cA hw hc hy (by rw [hop];simp [Op.operands]) ho
   have:=(iE (P:=P) (w:=w) (t:=t) rfl rfl (key w)).1
   exact ⟨.bool true,by rw [show (execOp a.eval o)=_ from by unfold execOp;rw [hop]];simp only [g1,g2];simp [eqGuard,this],PM.bool.2 rfl⟩
  ·cases h
   refine nA rfl hd fun S w η a hiv ho=>?_
   have g1:a.eval x=.nilIface:=cA hw hc hx (by rw [hop];simp [Op.operands]) ho
   have g2:a.eval (.const y0)=.nilIface:=cA hw hc hy (by rw [hop];simp [Op.operands]) ho
   have:=(iE (P:=P) (w:=w) (t:=t) rfl rfl (key w)).2
   exact ⟨.bool false,by rw [show (execOp a.eval o)=_ from by unfold execOp;rw [hop]];simp only [g1,g2];simp [eqGuard,this],PM.bool.2 rfl⟩
  ·cases h
 ·cases h
theorem opK_sound:OpF.Sound opK:=by
 intro P Γ hΓ rd B o e ctx H nx R h hw hc r hr
 unfold opK at h
 split at h
 ·rename_i t x lo hi mx hop
  exact slC_ok hΓ hop hw hc h r hr
 ·rename_i t x lo hop
  split at h
  ·rename_i pv hx
   exact vaS_ok hΓ hop hw hc hx h r hr
  ·cases h
 ·rename_i t x hi hop
  split at h
  ·rename_i pv hx
   split at h
   ·exact vhS_ok hΓ hop hw hc hx h r hr
   ·exact shK_ok hΓ hop hw hc hx h r hr
  ·cases h
 ·rename_i t x i hop
  split at h
  ·rename_i pv hx
   exact vaI_ok hΓ hop hw hc hx h r hr
  ·cases h
 ·rename_i t x hop
  split at h
  ·rename_i pv hx
   exact mkI_ok hΓ hop hw hc hx h r
  ·cases h
 ·rename_i x xt t hop
  split at h
  ·rename_i pv hx
   exact tyA_ok hΓ hop hw hc hx h r
  ·cases h
 ·rename_i op t x y hnt hop
  split at h
  ·rename_i a b hx hy
   exact neIfc_ok hΓ hop hw hc hx hy h r
  ·cases h
 ·rename_i c hop
  split at h
  ·rename_i x t hcal hxs hts
   have hce:=gC hcal hxs hts
   subst hce
   split at h
   ·rename_i pv hx
    exact vaL_ok hΓ hop hw hc hx h r
   ·cases h
  ·rename_i x t hcal hxs hts
   have hce:=gC hcal hxs hts
   subst hce
   split at h
   ·rename_i pv hx
    exact vaC_ok hΓ hop hw hc hx h r
   ·cases h
  ·rename_i s x t t' hcal hxs hts
   have hce:=gC hcal hxs hts
   subst hce
   split at h
   ·rename_i ps px hs hx hb
    have:=nB hb
    subst this
    exact vhA_ok hΓ hop hw hc hs hx h r hr
   ·cases h
  ·cases h
 ·cases h
end
section
variable {Γ:Tabs} {o:Oper} {e:Ev} {ctx:Ctx} {H H':PH} {nx:Nat}
theorem opK_fl {R:RdR} (h:opK Γ o e ctx H nx=some R):R.fl≠0:=by
 unfold opK at h
 split at h
 ·unfold slC at h;(repeat' split at h)<;>first | (cases h;exact sZ _) | cases h
 ·split at h
  ·unfold vaS at h;(repeat' split at h)<;>first | (cases h;exact sZ _) | cases h
  ·cases h
 ·split at h
  ·split at h
   ·unfold vhS at h;(repeat' split at h)<;>first | (cases h;exact sZ _) | cases h
   ·unfold shK at h;(repeat' split at h)<;>first | (cases h;exact sZ _) | cases h
  ·cases h
 ·split at h
  ·unfold vaI at h;(repeat' split at h)<;>first | (cases h;exact sZ _) | cases h
  ·cases h
 ·split at h
  ·unfold mkI at h;(repeat' split at h)<;>first | (cases h;exact sZ _) | cases h
  ·cases h
 ·split at h
  ·unfold tyA at h;(repeat' split at h)<;>first | (cases h;exact sZ _) | cases h
  ·cases h
 ·split at h
  ·unfold neIfc at h;(repeat' split at h)<;>first | (cases h;exact sZ _) | cases h
  ·cases h
 ·split at h
  ·split at h
   ·unfold vaL at h;(repeat' split at h)<;>first | (cases h;exact sZ _) | cases h
   ·cases h
  ·split at h
   ·unfold vaC at h;(repeat' split at h)<;>first | (cases h;exact sZ _) | cases h
   ·cases h
  ·split at h
   ·unfold vhA at h;(repeat' split at h)<;>first | (cases h;exact sZ _) | cases h
   ·cases h
  ·cases h
 ·cases h
theorem srcIds {T:Ty} {pv:PV} (h:Ag pv.ids H H'):pG H' T pv=pG H T pv∧dP H' pv=dP H pv:=⟨mE h,qH h⟩
theorem opK_nice:opK.Nice:=by
 constructor
 ·intro Γ o e ctx H H' nx h
  unfold opK
  split
  ·rename_i t x lo hi mx hop
   unfold slC
   generalize bD Γ t=q
   cases hx:ev e ctx x with
   | none=>cases q<;>rfl
   | some pv =>
    have h1:Ag pv.ids H H':=vJ (l:=[lo,hi,mx]) (by rw [hop];simp [Op.operands]) hx h
    cases q with
    | none=>rfl
    | some y=>obtain ⟨_,_,T⟩:=y;simp only [(srcIds (T:=T) h1).1,(srcIds (T:=T) h1).2]
  ·rename_i t x lo hop
   split
   ·rename_i pv hx
    have h1:Ag pv.ids H H':=vJ (l:=[lo]) (by rw [hop];simp [Op.operands]) hx h
    unfold vaS
    generalize bD Γ t=q
    generalize aJ e ctx lo=q1
    split
    ·have h2:=Ag.one h1
     simp only [h2]
     rfl
    ·rfl
   ·rfl
  ·rename_i t x hi hop
   split
   ·rename_i pv hx
    have h1:Ag pv.ids H H':=vJ (l:=[hi]) (by rw [hop];simp [Op.operands]) hx h
    split
    ·unfold vhS
     generalize bD Γ t=q
     generalize aJ e ctx hi=q1
     split
     ·have h2:=Ag.one h1
      simp only [h2]
      rfl
     ·rfl
    ·unfold shK
     generalize bD Γ t=q
     generalize aJ e ctx hi=q1
     split
     ·have h2:=Ag.one h1
      simp only [h2]
     ·rfl
   ·rfl
  ·rename_i t x i hop
   split
   ·rename_i pv hx
    have h1:Ag pv.ids H H':=vJ (l:=[i]) (by rw [hop];simp [Op.operands]) hx h
    unfold vaI
    generalize bD Γ t=q
    generalize aJ e ctx i=q1
    split
    ·have h2:=Ag.one h1
     simp only [h2]
     rfl
    ·rfl
   ·rfl
  ·rfl
  ·rfl
  ·rfl
  ·rename_i c hop
   split
   ·rename_i x t hcal ha ht
    split
    ·rename_i pv hx
     have h1:Ag pv.ids H H':=vJ (l:=[]) (by rw [hop];simp [Op.operands,Call.operands,hcal,ha]) hx h
     unfold vaL
     generalize bD Γ t=q
     split
     ·have h2:=Ag.one h1
      simp only [h2]
      rfl
     ·rfl
    ·rfl
   ·rename_i x t hcal ha ht
    split
    ·rename_i pv hx
     have h1:Ag pv.ids H H':=vJ (l:=[]) (by rw [hop];simp [Op.operands,Call.operands,hcal,ha]) hx h
     unfold vaC
     generalize bD Γ t=q
     split
     ·have h2:=Ag.one h1
      simp only [h2]
     ·rfl
    ·rfl
   ·rename_i s x t t' hcal ha ht
    split
    ·rename_i ps px hs hx ht'
     obtain ⟨h1,h2⟩:=kH (by rw [hop];simp [Op.operands,Call.operands,hcal,ha]) hs hx h
     unfold vhA
     generalize bD Γ t=q
     split
     ·have h3:=Ag.one h1
      rename_i id n
      have h4:lk (fzP H' px) id=lk (fzP H px) id:=by
       rw [dJ,dJ,qH h2];exact (h1.app _) id (by simp [PV.ids])
      simp only [h4,mE h2,qH h2]
     ·rfl
    ·rfl
   ·rfl
  ·rfl
 ·intro Γ o e ctx H nx R h h0 H'
  exact absurd h0 (opK_fl h)
end
def OPSK:OpF:=OPSG.or opK
theorem OPSK_sound:OPSK.Sound:=OPSG_sound.or opK_sound
theorem OPSK_nice:OPSK.Nice:=OPSG_nice.or' opK_nice fun Γ o e ctx H nx R h h0 hn H'=>absurd h0 (opK_fl h)

def trimM (s c:List UInt8):Option (List UInt8):=match c.all (fun b=>decide (b.toNat<128)),decide (c.length<4294967281) with
 | true,true=>some (Lib.trimS s c)
 | _,_=>none
def rptM (s:List UInt8) (n:Int):Option (List UInt8):=match decide (0≤n),decide (s.length*n.toNat≤140737488355328),decide (n≤9223372036854775807) with
 | true,true,true=>some (Lib.repeatL s n.toNat)
 | _,_,_=>none
def catB (x y:List UInt8):Option (List UInt8):=match Nat.ble (x.length+y.length) 140737488355328 with
 | true=>some (x++y)
 | false=>none
def pushB (x:List UInt8) (c:Int):Option (List UInt8):=match Nat.ble (x.length+1) 140737488355328 with
 | true=>some (x++[UInt8.ofNat c.toNat])
 | false=>none
def bldOf (Γ:Tabs) (TB e:TypeId) (o:Option PO):Option (TypeId×List UInt8):=match o with
 | some (.bld T e' s)=>match lk Γ.bt T with
  | some (TB',e'')=>match Nat.beq TB TB',Nat.beq e e',Nat.beq e e'' with
   | true,true,true=>some (T,s)
   | _,_,_=>none
  | none=>none
 | _=>none
def growM {α:Type} (n:Int) (d:α):Option (List α):=match decide (0≤n),decide (n≤1000000) with
 | true,true=>some []
 | _,_=>none
def exR (Γ:Tabs) (g:FuncId) (args:List RV) (H:PH) (nx:Nat):Option RdR:=match lk Γ.ex g,args with
 | some (.atoi m),[.c (.d .str s)]=>some (rdr (m s) (0:Int) (fun n=>.t [.c (.d (.int .i64) n),.c (.l .nilI)]) H nx)
 | some (.wstr TB e),[.c (.p id 0),.c (.d .str t)]=>match bldOf Γ TB e (lk H id),Nat.ble t.length 9223372036854775807 with
  | some (T,s),_=>some (wr (catB s t) [] (fun _=>.t [.c (.d (.int .i64) (lenM t)),.c (.l .nilI)]) (fun r=>[(id,.bld T e r)]) nx)
  | none,_=>none
 | some (.wbyt TB e),[.c (.p id 0),.c (.d (.int .u8) c)]=>match bldOf Γ TB e (lk H id) with
  | some (T,s)=>some (wr (pushB s c) [] (fun _=>.c (.l .nilI)) (fun r=>[(id,.bld T e r)]) nx)
  | none=>none
 | some (.stri TB e),[.c (.p id 0)]=>match bldOf Γ TB e (lk H id) with
  | some (T,s)=>some (wr (some s) [] (fun r=>.c (.d .str r)) (fun _=>[(id,.gone)]) nx)
  | none=>none
 | some (.grow t),[.c (.l .nilS),.c (.d (.int .i64) n)]=>some (wr (growM n t.dflt) [] (fun _=>.c (.h nx)) (fun ys=>[(nx,.arr t ys)]) (nx+1))
 | _,_=>none
def alB (Γ:Tabs) (t:TypeId) (H:PH) (nx:Nat):Option RdR:=match lk Γ.bt t with
 | some (_,e)=>some (wn (some ()) () (fun _=>.c (.p nx 0)) (fun _=>.bld t e []) H nx)
 | none=>none
def subL (T:Ty) (x:T.den) (T':Ty) (sz:Nat):Nat→Option (List T'.den)
 | 0=>some []
 | n+1=>match subL T x T' sz n,T.sub x (n*sz) T' with
  | some l,some y=>some (l++[y])
  | _,_=>none
def ixP (Γ:Tabs) (t:TypeId) (x i:Option PV) (H:PH) (nx:Nat):Option RdR:=match lk Γ.ty t,x,i with
 | some ti,some (.fp T x),some (.r (.c (.d (.int _) i)))=>match ti.kind with
  | .array n el=>match lk Γ.ty el with
   | some te=>match te.ty with
    | some T'=>match subL T x T' te.size n with
     | some ys=>some (rdr (gA ys i) T'.dflt (fun y=>.fp T' y) H nx)
     | none=>none
    | none=>none
   | none=>none
  | _=>none
 | _,_,_=>none
def oC (xs:List Int):List UInt8:=xs.map fun n=>UInt8.ofNat n.toNat
def bytR (H:PH) (pv:PV):Option (List Int):=match pv with
 | .r (.c (.q (.int .u8) xs))=>some xs
 | .r (.c (.fu (.int .u8) xs))=>some xs
 | .vw id lo n _=>match lk H id with
  | some (.flat m (.int .u8) xs)=>match Nat.ble (lo+n) m&&Nat.ble m 1000000 with
   | true=>some (rC xs lo n)
   | false=>none
  | _=>none
 | .r (.c (.d (.list (.int .u8)) xs))=>some xs
 | .r (.c (.h id))=>match lk H id with
  | some (.arr (.int .u8) xs)=>some xs
  | _=>none
 | _=>none
def bsC (Γ:Tabs) (s d:TypeId) (x:Option PV) (H:PH) (nx:Nat):Option RdR:=match lk Γ.ty s,lk Γ.ty d,x with
 | some ts,some td,some pv=>match ts.kind,td.kind,bytR H pv with
  | .slice el _,.str,some xs=>match lk Γ.ty el with
   | some te=>match te.kind with
    | .int .u8=>some (rdr (some (oC xs)) ([]:List UInt8) (fun r=>.c (.d .str r)) H nx)
    | _=>none
   | none=>none
  | _,_,_=>none
 | _,_,_=>none
def op8:OpF:=fun Γ o e ctx H nx=>match o.op with
 | .convert s d x=>bsC Γ s d (ev e ctx x) H nx
 | .alloc t=>alB Γ t H nx
 | .call c=>match c.callee,pE e ctx c.args.toList with
  | .value f,some args=>match ev e ctx f with
   | some (.r (.c (.f g [] [])))=>exR Γ g args H nx
   | _=>none
  | _,_=>none
 | _=>none
section
variable {P:Program} {Γ:Tabs} {B:Nat} {S:Cells} {w:World} {η:Eta} {H:PH} {nx:Nat}
theorem bldOf_some {TB e:TypeId} {o:Option PO} {T:TypeId} {s:List UInt8} (h:bldOf Γ TB e o=some (T,s)):o=some (.bld T e s)∧lk Γ.bt T=some (TB,e):=by
 unfold bldOf at h
 split at h
 ·rename_i T' e' s'
  split at h
  ·rename_i TB' e'' hl
   split at h
   ·rename_i h1 h2 h3
    have h1:=nB h1
    have h2:=nB h2
    have h3:=nB h3
    cases h
    subst h1 h2 h3
    exact ⟨rfl,hl⟩
   ·cases h
  ·cases h
 ·cases h
theorem BldChg.grow {b B:Nat} {w':World} {u u':Value} {F:Cells} (hc:BldChg w w' b u u') (hin:InLt S w) (hF:∀ b o,F b o→B≤b∧b<w.heap.size∧¬ S b o) (hFe:∀ b' o,F b' o↔b'=b∨u.ownBlock=some b') :
  Grow B S w S w'∧(∀ b o,b<w.heap.size→¬ F b o→w'.cell? ⟨b,o,none⟩=w.cell? ⟨b,o,none⟩∧w'.frozen? ⟨b,o,none⟩=w.frozen? ⟨b,o,none⟩)∧∀ b,b<w.heap.size→(∀ o,¬ F b o)→w'.heap[b]? = w.heap[b]? := by
 have hblk:∀ k,k<w.heap.size→¬ F k 0→w'.heap[k]? = w.heap[k]? := fun k hk hn=>hc.block k hk (fun e=>hn ((hFe k 0).2 (.inl e))) fun e=>hn ((hFe k 0).2 (.inr e))
 have hno:∀ {k o},¬ F k o→¬ F k 0:=fun h h'=>h ((hFe _ _).2 ((hFe _ _).1 h'))
 refine ⟨⟨⟨hc.os,hc.tape,hc.output,hc.size,fun k hk=>?_⟩,⟨fun _ _ h=>h,fun k o h=>?_⟩,fun k o h=>Nat.lt_of_lt_of_le (hin k o h) hc.size,fun _ _ h=>.inl h,hc.lk⟩,fun k o hk hn=>?_,fun k hk hn=>hblk k hk (hn 0)⟩
 ·rcases Nat.lt_or_ge k w.heap.size with h | h
  ·exact hblk k h fun hf=>absurd (hF k 0 hf).1 (by omega)
  ·-- a block that was not there lies above B
   by_cases hb:B≤w.heap.size
   ·omega
   ·have:=hF b 0 ((hFe b 0).2 (.inl rfl))
    omega
 ·have:=hblk k (hin k o h) (hno fun hf=>(hF k o hf).2.2 h)
  exact World.cell?_of_block (a:=⟨k,o,none⟩) this
 ·have:=hblk k hk (hno hn)
  exact ⟨World.cell?_of_block (a:=⟨k,o,none⟩) this,World.frozen?_of_block (a:=⟨k,o,none⟩) this⟩
theorem BldAt.lt {w:World} {b:Nat} {T e:TypeId} {u:Value} {s:List UInt8} (h:BldAt w b T e u s):b<w.heap.size∧∀ k,u.ownBlock=some k→k<w.heap.size:=by
 obtain ⟨p,h1,_,h2,_⟩:=h
 exact ⟨(aS.1 h1).1,fun k hk=>(h2.lt k hk).2⟩
theorem bld_set {id b:Nat} {T e:TypeId} {s s':List UInt8} {u u':Value} {w':World} (hi:HInv B η H S w) (hl:lk H id=some (.bld T e s)) (hb:η id=some (.pointer (some ⟨b,0,none⟩))) (hu:BldAt w b T e u s) (hu':BldAt w' b T e u' s') (hc:BldChg w w' b u u') :
  Grow B S w S w'∧HInv B η ((id,.bld T e s')::H) S w':=by
 have key:∀ F1:Cells,POH η id F1 S w (.bld T e s)→∀ b' o,F1 b' o↔b'=b∨u.ownBlock=some b':=by
  intro F1 hP b' o
  obtain ⟨b2,e2,u2,⟨p2,h2,_⟩,hF⟩:=hP
  rw [hb] at e2
  cases e2
  obtain ⟨p1,h1,_⟩:=hu
  rw [h1] at h2
  cases h2
  exact hF b' o
 obtain ⟨F1,hF1,hP1⟩:=hi.read hl
 have hg:=hc.grow hi.inw.lt hF1 (key F1 hP1)
 refine ⟨hg.1,hi.set hl hc.size hg.1.lt hg.1.keep fun F2 hF2 hP2=>?_⟩
 have hFe:=key F2 hP2
 have hg2:=hc.grow hi.inw.lt hF2 hFe
 refine ⟨fun _ _ h=>.inl h,hg2.2.1,hg2.2.2,fun b' o=>b'=b∨u'.ownBlock=some b',⟨b,hb,u',hu',fun _ _=>Iff.rfl⟩,fun b' o h=>?_⟩
 have hlt:=hu'.lt
 have h1:F2 b' o∨w.heap.size≤b':=by
  rcases h with h | h
  ·exact .inl ((hFe b' o).2 (.inl h))
  ·rcases hc.own b' h with h | h
   ·exact .inl ((hFe b' o).2 (.inr h))
   ·exact .inr h
 refine ⟨h1,?_,fun hs=>?_⟩
 ·rcases h with h | h
  ·rw [h];exact hlt.1
  ·exact hlt.2 _ h
 ·rcases h1 with h1 | h1
  ·exact (hF2 b' o h1).2.2 hs
  ·have:=hi.inw.lt b' o hs
   omega
theorem bld_gone {id b:Nat} {T e:TypeId} {s:List UInt8} {u u':Value} {w':World} (hi:HInv B η H S w) (hl:lk H id=some (.bld T e s)) (hb:η id=some (.pointer (some ⟨b,0,none⟩))) (hu:BldAt w b T e u s) (hc:BldChg w w' b u u') :
  Grow B S w S w'∧HInv B η ((id,.gone)::H) S w':=by
 have key:∀ F1:Cells,POH η id F1 S w (.bld T e s)→∀ b' o,F1 b' o↔b'=b∨u.ownBlock=some b':=by
  intro F1 hP b' o
  obtain ⟨b2,e2,u2,⟨p2,h2,_⟩,hF⟩:=hP
  rw [hb] at e2
  cases e2
  obtain ⟨p1,h1,_⟩:=hu
  rw [h1] at h2
  cases h2
  exact hF b' o
 obtain ⟨F1,hF1,hP1⟩:=hi.read hl
 have hg:=hc.grow hi.inw.lt hF1 (key F1 hP1)
 refine ⟨hg.1,hi.set hl hc.size hg.1.lt hg.1.keep fun F2 hF2 hP2=>?_⟩
 have hg2:=hc.grow hi.inw.lt hF2 (key F2 hP2)
 exact ⟨fun _ _ h=>.inl h,hg2.2.1,hg2.2.2,fun _ _=>False,fun _ _ h=>h,fun _ _ h=>h.elim⟩
theorem catB_some {x y r:List UInt8} (h:catB x y=some r):x.length+y.length≤140737488355328∧r=x++y:=by
 unfold catB at h
 split at h
 ·rename_i h0
  cases h
  exact ⟨nL h0,rfl⟩
 ·cases h
theorem pushB_some {x r:List UInt8} {c:Int} (h:pushB x c=some r):x.length+1≤140737488355328∧r=x++[UInt8.ofNat c.toNat]:=by
 unfold pushB at h
 split at h
 ·rename_i h0
  cases h
  exact ⟨nL h0,rfl⟩
 ·cases h
theorem growM_some {α:Type} {n:Int} {d:α} {r:List α} (h:growM n d=some r):0≤n∧n≤1000000∧r=[]:=by
 unfold growM at h
 split at h
 ·rename_i h1 h2
  cases h
  exact ⟨oD h1,oD h2,rfl⟩
 ·cases h
theorem exR_ok (hΓ:TabOK P Γ) {rd:Option Nat} {o:Oper} {e:Ev} {ctx:Ctx} {c:Call} {f:Operand} {g:FuncId} {args:List RV} {R:RdR} (hop:o.op=.call c) (hcal:c.callee=.value f) (ha:pE e ctx c.args.toList=some args) (hw:Wf e) (hc:CtxH e ctx) (hf:ev e ctx f=some (.r (.c (.f g [] [])))) (h:exR Γ g args H nx=some R) (r:R.T) (hr:R.m=some r) :
  R.OK P rd B o e (H,nx) r:=by
 have hops:o.op.operands.toList=f::c.args.toList:=by simp [hop,Op.operands,Call.operands,hcal]
 have call:∀ {S w η} {a:Act} {x:Ext},lk Γ.ex g=some x→InW S w→En.Only (lk e) (rA o) S w η a.tmps→∃ vs:List Value,All2 (RM S w η) args vs ∧
   ∀ {Q:Ending→World→Prop} {K:Act→World→Prop},Calls P g vs.toArray w Q→(∀ en w',Q en w'→∃ v,en=.returned v∧K (a.put o.dst v) w')→OpW P rd o a w K:=by
  intro S w η a x hx hi ho
  obtain ⟨vf,vc,he,q1,q2⟩:=cA hw hc hf (by rw [hops];simp) ho
  cases q1;cases q2
  have hva:=iC hw hc ho ha fun x hx=>by rw [hops];simp [hx]
  refine ⟨_,hva,fun {Q K} hcall hK=>?_⟩
  have hex:(execOp a.eval o).run P w=.ok (.enter g (c.args.toList.map a.eval).toArray) w:=by
   simp [execOp,hop,resolve,hcal,he,Deferred.ofValue,invoke,← Array.toList_map]
   exact (hΓ.ex g x hx).1 _ w
  refine OpW.enter (by simp [hop]) hex ?_
  have hcl:CallsIn (FR rd) 0 P g (c.args.toList.map a.eval).toArray w _:=callsIn_wide (n:=0) |>.2 hcall
  exact hcl.mono fun en w' hq=>hK en w' hq
 unfold exR at h
 split at h
 ·-- strconv.Atoi
  rename_i m s hx
  cases h
  obtain ⟨n,hn⟩:∃ n:Int,n=r:=⟨r,rfl⟩
  subst hn
  obtain ⟨h64,hcl⟩:=(hΓ.ex g _ hx).2 s n hr
  intro S w η a hi ho
  obtain ⟨vs,hvs,hcall⟩:=call hx hi.inw ho
  cases hvs with
  | cons h1 h2 =>
   cases h2
   obtain ⟨rfl,hlen⟩:=(PM.str (S:=S) (w:=w) (η:=η)).1 h1
   refine hcall (hcl S w hi.inw) fun en w' ⟨S',he,hg⟩=>⟨_,he,⟨_,S',rfl,hg,[.int .i64 n,.nilIface],rfl,.cons (PM.int (S:=S') (w:=w') (η:=η) |>.2 ⟨rfl,h64⟩) (.cons rfl .nil)⟩⟩
 ·-- WriteString
  rename_i TB e0 id t hx
  split at h
  ·rename_i T s hb
   cases h
   obtain ⟨hl,hbt⟩:=bldOf_some hb
   have hBT:=hΓ.bt T _ hbt
   obtain ⟨r',hr'⟩:∃ r':List UInt8,r'=r:=⟨r,rfl⟩
   subst hr'
   obtain ⟨c1,rfl⟩:=catB_some hr
   have hcl:=(hΓ.ex g _ hx).2 T hBT
   intro S w η a hi hlen ho
   obtain ⟨vs,hvs,hcall⟩:=call hx hi.inw ho
   cases hvs with
   | cons h1 h2 =>
    cases h2 with
    | cons h2 h3 =>
     cases h3
     obtain ⟨b,e1,rfl⟩:=h1
     obtain ⟨rfl,hlt⟩:=(PM.str (S:=S) (w:=w) (η:=η)).1 h2
     obtain ⟨F1,_,b',e1',u,hu,_⟩:=hi.read hl
     rw [e1] at e1'
     cases e1'
     refine hcall (hcl b u s t w hu c1) fun en w' ⟨u',he,hu',hch⟩=>⟨_,he,?_⟩
     obtain ⟨g1,g2⟩:=bld_set hi hl e1 hu hu' hch
     refine ⟨_,S,η,rfl,g1,.refl _,Out.refl _ _ _,g2,[.int .i64 t.length,.nilIface],rfl,.cons (cG hlt) (.cons rfl .nil)⟩
  ·cases h
 ·-- WriteByte
  rename_i TB e0 id c0 hx
  split at h
  ·rename_i T s hb
   cases h
   obtain ⟨hl,hbt⟩:=bldOf_some hb
   have hBT:=hΓ.bt T _ hbt
   obtain ⟨r',hr'⟩:∃ r':List UInt8,r'=r:=⟨r,rfl⟩
   subst hr'
   obtain ⟨c1,rfl⟩:=pushB_some hr
   have hcl:=(hΓ.ex g _ hx).2 T hBT
   intro S w η a hi hlen ho
   obtain ⟨vs,hvs,hcall⟩:=call hx hi.inw ho
   cases hvs with
   | cons h1 h2 =>
    cases h2 with
    | cons h2 h3 =>
     cases h3
     obtain ⟨b,e1,rfl⟩:=h1
     obtain ⟨rfl,hlt⟩:=(PM.int (S:=S) (w:=w) (η:=η)).1 h2
     obtain ⟨F1,_,b',e1',u,hu,_⟩:=hi.read hl
     rw [e1] at e1'
     cases e1'
     have hc0:c0=((UInt8.ofNat c0.toNat).toNat:Int):=by
      have:=has_u8.1 hlt
      rw [UInt8.toNat_ofNat',Nat.mod_eq_of_lt (by omega),Int.toNat_of_nonneg this.1]
     have hcall2:=hcl b u s (UInt8.ofNat c0.toNat) w hu c1
     rw [← hc0] at hcall2
     refine hcall hcall2 fun en w' ⟨u',he,hu',hch⟩=>⟨_,he,?_⟩
     obtain ⟨g1,g2⟩:=bld_set hi hl e1 hu hu' hch
     exact ⟨_,S,η,rfl,g1,.refl _,Out.refl _ _ _,g2,rfl⟩
  ·cases h
 ·-- String
  rename_i TB e0 id hx
  split at h
  ·rename_i T s hb
   cases h
   obtain ⟨hl,hbt⟩:=bldOf_some hb
   have hBT:=hΓ.bt T _ hbt
   obtain ⟨r',hr'⟩:∃ r':List UInt8,r'=r:=⟨r,rfl⟩
   subst hr'
   have hs:s=r':=Option.some.inj hr
   subst hs
   have hcl:=(hΓ.ex g _ hx).2 T hBT
   intro S w η a hi hlen ho
   obtain ⟨vs,hvs,hcall⟩:=call hx hi.inw ho
   cases hvs with
   | cons h1 h2 =>
    cases h2
    obtain ⟨b,e1,rfl⟩:=h1
    obtain ⟨F1,_,b',e1',u,hu,_⟩:=hi.read hl
    rw [e1] at e1'
    cases e1'
    refine hcall (hcl b u s w hu) fun en w' ⟨he,hch⟩=>⟨_,he,?_⟩
    obtain ⟨g1,g2⟩:=bld_gone hi hl e1 hu hch
    have hsl:s.length≤maxLen:=by
     obtain ⟨p,_,_,ho,_⟩:=hu
     rcases ho.2 with ⟨_,h0⟩ | ⟨_,cap,_,_,_,_,h1,h2,_⟩
     ·omega
     ·omega
    exact ⟨_,S,η,rfl,g1,.refl _,Out.refl _ _ _,g2,PM.str.2 ⟨rfl,hsl⟩⟩
  ·cases h
 ·-- Grow of nil
  rename_i T n hx
  cases h
  obtain ⟨ys,hys⟩:∃ ys:List T.den,ys=r:=⟨r,rfl⟩
  subst hys
  obtain ⟨n0,n1,rfl⟩:=growM_some (d:=T.dflt) hr
  have hcl:=(hΓ.ex g _ hx).2 n n0 n1
  show ∀ (S:Cells) (w:World) (η:Eta) (a:Act),HInv B η H S w→Free η nx (nx+1)→En.Only (lk e) (rA o) S w η a.tmps→_
  intro S w η a hi hfree ho
  have hk0:η nx=none:=hfree nx (nR _) (Nat.lt_succ_self _)
  obtain ⟨vs,hvs,hcall⟩:=call hx hi.inw ho
  cases hvs with
  | cons h1 h2 =>
   cases h2 with
   | cons h2 h3 =>
    cases h3
    cases h1
    obtain ⟨rfl,_⟩:=(PM.int (S:=S) (w:=w) (η:=η)).1 h2
    refine hcall (hcl S w hi.inw) fun en w' ⟨u,S',F,q1,q2,q3,q4,q5⟩=>⟨u,q1,?_⟩
    refine ⟨u,S',η.add nx u,rfl,q3.mono hi.base,.push hk0 _,Out.add _ _ _,?_,?_⟩
    ·show HInv B _ ((nx,.arr T [])::H) S' w'
     exact hi.new hk0 q3.below.size q3.lt q3.keep q3.new (fun b hb=>q3.below.block b hb) F ⟨u,Eta.add_same _ _ _,q4⟩ q5
    ·change _∧_
     exact ⟨Eta.add_same _ _ _,q2⟩
 ·cases h
theorem alB_ok (hΓ:TabOK P Γ) {rd:Option Nat} {o:Oper} {e:Ev} {t:TypeId} {R:RdR} (hop:o.op=.alloc t) (h:alB Γ t H nx=some R) (r:R.T):R.OK P rd B o e (H,nx) r:=by
 have hd:∀ c,o.op≠.defer c:=by rw [hop];intro c hh;cases hh
 unfold alB at h
 split at h
 ·rename_i TB e0 hbt
  cases h
  obtain ⟨z,hz1,hz2⟩:=(hΓ.bt t _ hbt).zero
  refine jB rfl hd fun S w η a hi hlen ho=>?_
  have hk0:η nx=none:=hlen nx (nR _) (Nat.lt_succ_self _)
  have hin:InLt S (w.alloc (.cells #[.pointer none,.slice none 0 0] t)):=fun b o h=>by
   have:=hi.inw.lt b o h
   simp only [World.size_alloc]
   omega
  have hk:Keep S w S (w.alloc (.cells #[.pointer none,.slice none 0 0] t)):=⟨fun _ _ h=>h,fun b o h=>World.cell?_of_block (a:=⟨b,o,none⟩) (Below.heap_alloc _ _ _ (hi.inw.lt b o h))⟩
  have hg:Grow B S w S (w.alloc (.cells #[.pointer none,.slice none 0 0] t)):=⟨(Below.refl _ _).alloc hi.base _,hk,hin,fun _ _ h=>.inl h,LK.alloc _ _⟩
  refine ⟨.pointer (some ⟨w.heap.size,0,none⟩),_,S,η.add nx (.pointer (some ⟨w.heap.size,0,none⟩)),.inl (by simp [execOp,hop,Instr.alloc,hz1,newVar,newRow,hz2]),hg,.push hk0 _,Out.add _ _ _,?_,?_⟩
  ·show HInv B _ ((nx,.bld t e0 [])::H) S _
   refine hi.new hk0 (by simp) hin hk (fun _ _ h=>.inl h) (fun b hb=>Below.heap_alloc _ _ _ hb) (fun b o=>b=w.heap.size) ⟨w.heap.size,Eta.add_same _ _ _,.slice none 0 0,⟨.pointer none,heap_alloc_new _ _,.inl rfl,World.ownsRow_nil _ _ _ _,(fun h=>by cases h),fun _=>rfl⟩,fun b' o=>⟨.inl,fun h=>h.elim id fun h=>by cases h⟩⟩ fun b o h=>by
    subst h
    exact ⟨nR _,by simp,fun hs=>absurd (hi.inw.lt _ o hs) (Nat.lt_irrefl _)⟩
  ·change ∃ b,_∧_
   exact ⟨w.heap.size,Eta.add_same _ _ _,rfl⟩
 ·cases h
theorem byt_rep {xs:List Int} {v:Value} (hv:VRep S w (.list (.int .u8)) xs v) :
  ∃ base cap,v=.slice base xs.length cap∧xs.length≤maxLen∧(xs.length=0∨∃ b off,base=some ⟨b,off,none⟩∧∀ i,i<xs.length→w.cell? ⟨b,off+i,none⟩=some (.int .u8 (xs.getD i 0))):=by
 obtain ⟨base,cap,e1,h1,h2,h3⟩:=VRep.slice hv
 refine ⟨base,cap,e1,Nat.le_trans h1 h2,h3.imp id ?_⟩
 rintro ⟨b,off,e2,hx⟩
 refine ⟨b,off,e2,fun i hi=>?_⟩
 obtain ⟨es,he,hc⟩:=hx i _ (gE hi)
 have he':es=[Value.int .u8 xs[i]]:=he.1
 have:=(hc 0 (.int .u8 xs[i]) (by rw [he'];rfl)).2
 rw [show off+i*(Ty.int IntKind.u8).size+0=off+i from by show off+i*1+0=off+i;omega] at this
 rw [this]
 simp [List.getD,hi]
theorem bytR_sound {pv:PV} {xs:List Int} {v:Value} (h:bytR H pv=some xs) (hi:HInv B η H S w) (hv:PM S w η pv v) :
  ∃ base cap,v=.slice base xs.length cap∧xs.length≤maxLen∧(xs.length=0∨∃ b off,base=some ⟨b,off,none⟩∧∀ i,i<xs.length→w.cell? ⟨b,off+i,none⟩=some (.int .u8 (xs.getD i 0))):=by
 unfold bytR at h
 split at h
 ·cases h;exact byt_rep hv.1
 ·cases h;exact byt_rep hv.1
 ·rename_i id lo n cap
  split at h
  ·rename_i m ys hlk
   split at h
   ·rename_i hb
    cases h
    simp only [bA] at hb
    have b1:=nL hb.1
    have b2:=nL hb.2
    obtain ⟨b,g1,rfl⟩:=hv
    obtain ⟨F1,_,hP⟩:=hi.read hlk
    obtain ⟨hn,_,_,_,hcs⟩:=uE hP g1
    have hpl:(rC ys lo n).length=n:=by unfold rC;simp;omega
    refine ⟨_,cap,by rw [hpl],by simp only [hpl,maxLen];omega,.inr ⟨b,lo,rfl,fun i hin=>?_⟩⟩
    rw [hpl] at hin
    have hil:lo+i<ys.length:=by omega
    obtain ⟨v,hv,hc⟩:=hcs (lo+i) _ (gE hil)
    rw [hc]
    have:=(VRep.int.1 hv).1
    subst this
    unfold rC
    simp [List.getD,List.getElem?_take_of_lt hin,List.getElem?_drop,gE hil]
   ·cases h
  ·cases h
 ·cases h;exact byt_rep hv.2
 ·rename_i id
  split at h
  ·rename_i ys hlk
   cases h
   obtain ⟨F1,_,u,g1,hA⟩:=hi.read hlk
   obtain ⟨g2,_⟩:=hv
   rw [g2] at g1
   cases g1
   obtain ⟨base,cap,e1,h1,h2,h3⟩:=hA
   refine ⟨base,cap,e1,Nat.le_trans h1 h2,?_⟩
   by_cases h0:xs.length=0
   ·exact .inl h0
   ·right
    rcases h3 with ⟨h3,_⟩ | ⟨b,off,e2,_,_,hx⟩
    ·omega
    ·refine ⟨b,off,e2,fun i hi=>?_⟩
     obtain ⟨es,he,hc⟩:=hx i _ (gE hi)
     have he':es=[Value.int .u8 xs[i]]:=he.1
     have:=hc 0 (.int .u8 xs[i]) (by rw [he'];rfl)
     rw [show off+i*(Ty.int IntKind.u8).size+0=off+i from by show off+i*1+0=off+i;omega] at this
     rw [this]
     simp [List.getD,hi]
  ·cases h
 ·cases h
theorem run_bytes {P:Program} {w:World} {s d el:TypeId} (hs:∀ w,(underlying s).run P w=.ok (.slice el) w) (he:∀ w,(underlying el).run P w=.ok (.int .u8) w) (hd:∀ w,(underlying d).run P w=.ok .string w) {base:Option Addr} {cap:Nat} {xs:List Int}
  (h:xs.length=0∨∃ b off,base=some ⟨b,off,none⟩∧∀ i,i<xs.length→w.cell? ⟨b,off+i,none⟩=some (.int .u8 (xs.getD i 0))):(convert s d (.slice base xs.length cap)).run P w=.ok (.string ⟨(oC xs).toArray⟩) w:=by
 have e:(convert s d (.slice base xs.length cap)).run P w=(Conv.bytesToString (.slice base xs.length cap)).run P w:=by simp [convert,hs w,hd w,he w]
 rw [e]
 have fin:∀ b off,base=some ⟨b,off,none⟩→(∀ i,i<xs.length→w.cell? ⟨b,off+i,none⟩=some (.int .u8 (xs.getD i 0)))→(Conv.bytesToString (.slice base xs.length cap)).run P w=.ok (.string ⟨(oC xs).toArray⟩) w:=by
  rintro b off rfl hc
  have hl:(loadCells ⟨b,off,none⟩ xs.length).run P w=.ok (xs.map (Value.int .u8)).toArray w:=by
   have:=run_loadCells_list (P:=P) w ⟨b,off,none⟩ (xs.map (Value.int .u8)) (fun j v hj=>by
    have hjl:j<xs.length:=by
     rcases Nat.lt_or_ge j xs.length with h | h
     ·exact h
     ·simp [List.getElem?_eq_none (show (xs.map (Value.int .u8)).length≤j by simpa using h)] at hj
    have hplain:(⟨b,off,none⟩:Addr).add j=⟨b,off+j,none⟩:=by unfold Addr.add;split<;>simp_all
    rw [hplain,hc j hjl]
    simp [gE hjl] at hj
    subst hj
    simp [List.getD,gE hjl])
   simpa using this
  rw [run_bytesToString w _ xs.length cap xs hl,foldl_push_bytes]
  simp [oC,ByteArray.empty,ByteArray.emptyWithCapacity]
  rfl
 rcases h with h0 | ⟨b,off,e1,hc⟩
 ·have hx:xs=[]:=List.length_eq_zero_iff.1 h0
  cases base with
  | none=>subst hx;simp [Conv.bytesToString,oC];rfl
  | some a =>
   subst hx
   have hl:(loadCells a 0).run P w=.ok (([]:List Int).map (Value.int .u8)).toArray w:=by
    have:=run_loadCells_list (P:=P) w a [] (fun j v hj=>by cases hj)
    simpa using this
   show (Conv.bytesToString (.slice (some a) 0 cap)).run P w=_
   rw [run_bytesToString w a 0 cap [] hl]
   simp [oC,ByteArray.empty,ByteArray.emptyWithCapacity]
   rfl
 ·exact fin b off e1 hc
theorem bsC_ok {rd:Option Nat} {o:Oper} {e:Ev} {ctx:Ctx} (hΓ:TabOK P Γ) {s d:TypeId} {x:Operand} {R:RdR} (hop:o.op=.convert s d x) (hw:Wf e) (hc:CtxH e ctx) (h:bsC Γ s d (ev e ctx x) H nx=some R) (r:R.T) (hr:R.m=some r):R.OK P rd B o e (H,nx) r:=by
 have hd:∀ c,o.op≠.defer c:=by rw [hop];intro c hh;cases hh
 unfold bsC at h
 split at h
 ·rename_i ts td pv hs htd hx
  split at h
  ·rename_i el bts xs e1 e2 hb
   split at h
   ·rename_i te hte
    split at h
    ·rename_i e3
     have ks:=(hΓ.ty s ts hs).kind
     have kd:=(hΓ.ty d td htd).kind
     have ke:=(hΓ.ty el te hte).kind
     rw [e1] at ks
     rw [e2] at kd
     rw [e3] at ke
     cases h
     obtain ⟨r',hr'⟩:∃ r':List UInt8,r'=r:=⟨r,rfl⟩
     subst hr'
     have hr2:some (oC xs)=some r':=hr
     cases hr2
     refine nA rfl hd fun S w η a hi ho=>?_
     have hv:=cA (a:=a) hw hc hx (by rw [hop];simp [Op.operands]) ho
     obtain ⟨base,cap,hv1,hlen,hcells⟩:=bytR_sound hb hi hv
     refine ⟨.string ⟨(oC xs).toArray⟩,?_,PM.str.2 ⟨rfl,by show (oC xs).length≤maxLen;unfold oC;rw [List.length_map];exact hlen⟩⟩
     have:=run_bytes (P:=P) (w:=w) (run_underlying ks.1) (fun w=>ke w) (fun w=>kd w) (cap:=cap) hcells
     simp [execOp,hop,hv1,this]
    ·cases h
   ·cases h
  ·cases h
 ·cases h
end
section
variable {Γ:Tabs} {o:Oper} {e:Ev} {ctx:Ctx} {H H':PH} {nx:Nat}
theorem op8_sound:OpF.Sound op8:=by
 intro P Γ hΓ rd B o e ctx H nx R h hw hc r hr
 unfold op8 at h
 split at h
 ·rename_i s d x hop
  exact bsC_ok hΓ hop hw hc h r hr
 ·rename_i t hop
  exact alB_ok hΓ hop h r
 ·rename_i c hop
  split at h
  ·rename_i f args hcal ha
   split at h
   ·rename_i g hf
    exact exR_ok hΓ hop hcal ha hw hc hf h r hr
   ·cases h
  ·cases h
 ·cases h
theorem op8_fl {R:RdR} (h:op8 Γ o e ctx H nx=some R):R.fl≠0:=by
 unfold op8 at h
 split at h
 ·unfold bsC at h;(repeat' split at h)<;>first | (cases h;exact sZ _) | cases h
 ·unfold alB at h;(repeat' split at h)<;>first | (cases h;exact sZ _) | cases h
 ·split at h
  ·split at h
   ·unfold exR at h;(repeat' split at h)<;>first | (cases h;exact sZ _) | cases h
   ·cases h
  ·cases h
 ·cases h
theorem exR_loc {g:FuncId} {args:List RV} (h1:Ag (RVs.ids args) H H'):exR Γ g args H' nx=exR Γ g args H nx:=by
 unfold exR
 generalize lk Γ.ex g=q
 split
 ·rfl
 ·rename_i TB e0 id t
  rw [h1 id (by simp [RVs.ids,RV.ids,CV.ids])]
 ·rename_i TB e0 id t
  rw [h1 id (by simp [RVs.ids,RV.ids,CV.ids])]
 ·rename_i TB e0 id
  rw [h1 id (by simp [RVs.ids,RV.ids,CV.ids])]
 ·rfl
 ·rfl
theorem op8_nice:op8.Nice:=by
 constructor
 ·intro Γ o e ctx H H' nx h
  unfold op8
  split
  ·rename_i s d x hop
   have h1:∀ pv,ev e ctx x=some pv→bytR H' pv=bytR H pv:=fun pv hx=>by
    unfold bytR
    split
    ·rfl
    ·rfl
    ·rename_i id lo n cap
     have:=h id (by
      have:o.op.operands.toList=[x]:=by simp [hop,Op.operands]
      unfold dD
      rw [this]
      unfold rB
      rw [hx]
      simp [PV.ids])
     rw [this]
    ·rfl
    ·rename_i id
     have:=h id (by
      have:o.op.operands.toList=[x]:=by simp [hop,Op.operands]
      unfold dD
      rw [this]
      unfold rB
      rw [hx]
      simp [PV.ids,RV.ids,CV.ids])
     rw [this]
    ·rfl
   unfold bsC
   cases hx:ev e ctx x with
   | none=>cases lk Γ.ty s<;>cases lk Γ.ty d<;>rfl
   | some pv =>
    cases lk Γ.ty s with
    | none=>cases lk Γ.ty d<;>rfl
    | some ts =>
     cases lk Γ.ty d with
     | none=>rfl
     | some td=>simp only [h1 pv hx];rfl
  ·rfl
  ·rename_i c hop
   split
   ·rename_i f args hcal ha
    have h1:Ag (RVs.ids args) H H':=kI ha (by
     have h2:Ag (rB e ctx (f::c.args.toList)) H H':=by
      have:o.op.operands.toList=f::c.args.toList:=by simp [hop,Op.operands,Call.operands,hcal]
      rw [← this];exact h
     unfold rB at h2
     exact h2.right)
    split
    ·exact exR_loc h1
    ·rfl
   ·rfl
  ·rfl
 ·intro Γ o e ctx H nx R h h0 H'
  exact absurd h0 (op8_fl h)
end
def OPS8:OpF:=OPSK.or op8
theorem OPS8_sound:OPS8.Sound:=OPSK_sound.or op8_sound
theorem OPS8_nice:OPS8.Nice:=OPSK_nice.or' op8_nice fun Γ o e ctx H nx R h h0 hn H'=>absurd h0 (op8_fl h)

def cC (b:Bool):Option Unit:=match b with
 | false=>some ()
 | true=>none
theorem nonM_some {b:Bool} {r:Unit} (h:cC b=some r):b=false:=by cases b;rfl;cases h
def hOff (H:PH) (id off:Nat) (nx:Nat):Option RdR:=match lk H id with
 | some (.box _)=>some (rdu (.c (.p id off)) H nx)
 | some (.opt b _)=>some (rdr (cC b) () (fun _=>.c (.p id off)) H nx)
 | _=>none
def hNil (H:PH) (id:Nat) (neg:Bool) (nx:Nat):Option RdR:=match lk H id with
 | some (.box _)=>some (rdu (.c (.d .bool neg)) H nx)
 | some (.opt b _)=>some (rdu (.c (.d .bool (match neg with | false=>b | true=>notM b))) H nx)
 | _=>none
def hVia (Γ:Tabs) (o:Oper) (e:Ev) (ctx:Ctx) (x:Operand) (H:PH) (nx:Nat):Option RdR:=match ev e ctx x with
 | some (.r (.c (.p id _)))=>match lk H id with
  | some (.opt b l)=>match OPS8 Γ o e ctx ((id,.box l)::H) nx with
   | some R=>match R.fl with
    | 1=>some ⟨R.T,(cC b).bind fun _=>R.m,R.df,R.pv,1,fun _=>[],nx,none⟩
    | 2=>some ⟨R.T,(cC b).bind fun _=>R.m,R.df,R.pv,2,fun r=>R.δ r++[(id,.box l)],R.nx,none⟩
    | _=>none
   | none=>none
  | _=>none
 | _=>none
def isEof:List (FuncId×Ext)→Option FuncId
 | []=>none
 | (f,.isE _ _)::_=>some f
 | _::r=>isEof r
def hAs (Γ:Tabs) (t:TypeId) (pv:PV) (H:PH) (nx:Nat):Option RdR:=match isEof Γ.ex with
 | some f=>match lk Γ.ex f,pv with
  | some (.isE T It),.r (.c (.i k))=>match Nat.beq It t&&Nat.beq k (1000000+T) with
   | true=>some (rdu (.t [.c (.i k),.c (.d .bool true)]) H nx)
   | false=>none
  | some (.isE T It),.r (.c (.l .nilI))=>match Nat.beq It t with
   | true=>some (rdu (.t [.c (.l .nilI),.c (.d .bool false)]) H nx)
   | false=>none
  | _,_=>none
 | none=>none
def opH:OpF:=fun Γ o e ctx H nx=>match o.op with
 | .nilCheck x=>match ev e ctx x with
  | some (.r (.c (.h id)))=>hOff H id 0 nx
  | _=>none
 | .binOp op t x y _=>match ev e ctx x,ev e ctx y,lk Γ.ty t with
  | some (.r (.c (.h id))),some (.r (.c (.l .nilP))),some ti=>match op,uG ti.kind (.l .nilP) with
   | .eql,some true=>hNil H id false nx
   | .neq,some true=>hNil H id true nx
   | _,_=>none
  | _,_,_=>none
 | .load t (.global g)=>match lk errTab g,lk Γ.ty t with
  | some T,some ti=>match ti.agg with
   | false=>some (rdu (.c (.i (1000000+T))) H nx)
   | true=>none
  | _,_=>none
 | .load _ x=>hVia Γ o e ctx x H nx
 | .call c=>match c.callee,pE e ctx c.args.toList with
  | .value f,some [.c (.i k),.c (.i k')]=>match ev e ctx f with
   | some (.r (.c (.f g [] [])))=>match lk Γ.ex g with
    | some (.isE T _)=>match Nat.beq k (1000000+T)&&Nat.beq k' (1000000+T) with
     | true=>some (rdu (.c (.d .bool true)) H nx)
     | false=>none
    | _=>none
   | _=>none
  | _,_=>none
 | _=>none

section
variable {P:Program} {Γ:Tabs} {B:Nat} {S:Cells} {w:World} {η:Eta} {H H':PH} {nx:Nat} {o:Oper} {e:Ev} {ctx:Ctx}
theorem hdl_ptr {id:Nat} {v:Value} (hi:HInv B η H S w) (hv:CM S w η (.h id) v):(∀ l,lk H id=some (.box l)→∃ b,v=.pointer (some ⟨b,0,none⟩)∧η id=some v) ∧
  ∀ b l,lk H id=some (.opt b l)→(b=true→v=.pointer none)∧(b=false→∃ k,v=.pointer (some ⟨k,0,none⟩)∧η id=some v):=by
 refine ⟨fun l hl=>?_,fun b l hl=>?_⟩
 ·obtain ⟨F,_,b,h1,_⟩:=hi.read hl
  have:=hv.1
  rw [h1] at this
  cases this;exact ⟨b,rfl,h1⟩
 ·cases b with
  | true =>
   obtain ⟨F,_,h1,_⟩:=hi.read hl
   have:=hv.1
   rw [h1] at this
   cases this;exact ⟨fun _=>rfl,fun h=>by cases h⟩
  | false =>
   obtain ⟨F,_,b,h1,_⟩:=hi.read hl
   have:=hv.1
   rw [h1] at this
   cases this;exact ⟨(fun h=>by cases h),fun _=>⟨b,rfl,h1⟩⟩
theorem hOff_ok {id off:Nat} {R:RdR} (h:hOff H id off nx=some R) (r:R.T) (hr:R.m=some r):R.fl=1∧∀ B S w η v,HInv B η H S w→CM S w η (.h id) v→∃ b,v=.pointer (some ⟨b,0,none⟩)∧PM S w η (R.pv r) (.pointer (some ⟨b,0+off,none⟩)):=by
 unfold hOff at h
 split at h
 ·rename_i l hl
  cases h
  refine ⟨rfl,fun B S w η v hi hv=>?_⟩
  obtain ⟨b,rfl,h1⟩:=(hdl_ptr hi hv).1 l hl
  exact ⟨b,rfl,b,h1,by rw [Nat.zero_add]⟩
 ·rename_i b l hl
  cases h
  have hb:=nonM_some hr
  subst hb
  refine ⟨rfl,fun B S w η v hi hv=>?_⟩
  obtain ⟨b,rfl,h1⟩:=((hdl_ptr hi hv).2 _ l hl).2 rfl
  exact ⟨b,rfl,b,h1,by rw [Nat.zero_add]⟩
 ·cases h
theorem hNil_ok {id:Nat} {neg:Bool} {R:RdR} (h:hNil H id neg nx=some R) (r:R.T):R.fl=1∧∀ B S w η v,HInv B η H S w→CM S w η (.h id) v→∃ a:Option Addr,v=.pointer a∧PM S w η (R.pv r) (.bool (match neg with | false=>a.isNone | true=>!a.isNone)):=by
 unfold hNil at h
 split at h
 ·rename_i l hl
  cases h
  refine ⟨rfl,fun B S w η v hi hv=>?_⟩
  obtain ⟨b,rfl,h1⟩:=(hdl_ptr hi hv).1 l hl
  exact ⟨_,rfl,PM.bool.2 (by cases neg<;>rfl)⟩
 ·rename_i b l hl
  cases h
  refine ⟨rfl,fun B S w η v hi hv=>?_⟩
  have hp:=(hdl_ptr hi hv).2 b l hl
  cases b with
  | true =>
   have:=hp.1 rfl
   subst this
   exact ⟨none,rfl,PM.bool.2 (by cases neg<;>rfl)⟩
  | false =>
   obtain ⟨k,rfl,_⟩:=hp.2 rfl
   exact ⟨_,rfl,PM.bool.2 (by cases neg<;>rfl)⟩
 ·cases h
theorem hVia_ok (hΓ:TabOK P Γ) {rd:Option Nat} {x:Operand} {R:RdR} (hw:Wf e) (hc:CtxH e ctx) (h:hVia Γ o e ctx x H nx=some R) (r:R.T) (hr:R.m=some r):R.OK P rd B o e (H,nx) r:=by
 unfold hVia at h
 split at h
 ·rename_i id k hx
  split at h
  ·rename_i b l hl
   split at h
   ·rename_i R1 hR
    split at h
    ·rename_i hf
     cases h
     obtain ⟨u,hu,hr1⟩:=Option.bind_eq_some_iff.1 hr
     have hb:=nonM_some hu
     subst hb
     have hok:=OPS8_sound P Γ hΓ rd B o e ctx _ nx R1 hR hw hc r hr1
     unfold RdR.OK at hok ⊢
     rw [hf] at hok
     exact fun S w η a hi ho=>hok S w η a (hi.box hl) ho
    ·rename_i hf
     cases h
     obtain ⟨u,hu,hr1⟩:=Option.bind_eq_some_iff.1 hr
     have hb:=nonM_some hu
     subst hb
     have hok:=OPS8_sound P Γ hΓ rd B o e ctx _ nx R1 hR hw hc r hr1
     unfold RdR.OK at hok ⊢
     rw [hf] at hok
     intro S w η a hi hl' ho
     refine (hok S w η a (hi.box hl) hl' ho).mono fun a' w' ⟨v,S',η',h1,h2,h3,h4,h5,h6⟩=>⟨v,S',η',h1,h2,h3,h4,?_,h6⟩
     show HInv B η' ((R1.δ r++[(id,.box l)])++H) S' w'
     rw [aA];exact h5
    ·cases h
   ·cases h
  ·cases h
 ·cases h
theorem opH_sound:OpF.Sound opH:=by
 intro P Γ hΓ rd B o e ctx H nx R h hw hc r hr
 unfold opH at h
 split at h
 ·rename_i x hop
  split at h
  ·rename_i id hx
   obtain ⟨g1,g2⟩:=hOff_ok h r hr
   refine nA g1 (by rw [hop];intro c hh;cases hh) fun S w η a hi ho=>?_
   obtain ⟨b,q1,q2⟩:=g2 B S w η _ hi (cA hw hc hx (by rw [hop];simp [Op.operands]) ho)
   exact ⟨.pointer (some ⟨b,0,none⟩),by simp [execOp,hop,q1],by simpa using q2⟩
  ·cases h
 ·rename_i op t x y hnt hop
  split at h
  ·rename_i id ti hx hy hl
   have hm1:x∈o.op.operands.toList:=by rw [hop];simp [Op.operands]
   have hm2:y∈o.op.operands.toList:=by rw [hop];simp [Op.operands]
   have key:uG ti.kind (.l .nilP)=some true→∃ el,∀ w,(underlying t).run P w=.ok (.pointer el) w:=fun hn=>by
    have hk:=(hΓ.ty _ _ hl).kind
    unfold uG at hn
    split at hn
    all_goals first
     | (rename_i el hkd _ ; rw [hkd] at hk;exact ⟨el,hk⟩)
     | (rename_i el hkd;rw [hkd] at hk;exact ⟨el,hk⟩)
     | (simp at hn;done)
     | (rename_i h1;cases h1;done)
     | skip
   have fin:∀ neg,(op=.eql∧neg=false∨op=.neq∧neg=true)→uG ti.kind (.l .nilP)=some true→hNil H id neg nx=some R→R.OK P rd B o e (H,nx) r:=fun neg ho' hn hN=>by
    obtain ⟨el,hk⟩:=key hn
    obtain ⟨g1,g2⟩:=hNil_ok hN r
    refine nA g1 (by rw [hop];intro c hh;cases hh) fun S w η a hi ho=>?_
    have hv:=cA hw hc hx hm1 ho
    obtain ⟨a0,q1,q2⟩:=g2 B S w η _ hi hv
    have e2:a.eval y=.pointer none:=cA hw hc hy hm2 ho
    have heq:=iE (P:=P) (w:=w) (t:=t) rfl rfl (bK (d:=9999) (a:=a0) (hk w))
    have hgd:∀ op,(eqGuard op t x y (a.eval x) (a.eval y)).run P w=.ok () w:=fun op=>by
     rw [q1,e2]
     exact fJ (by rfl) rfl (by intro h;cases h)
    rcases ho' with ⟨rfl,rfl⟩ | ⟨rfl,rfl⟩
    ·have h1:(do eqGuard .eql t x y (a.eval x) (a.eval y);Go.binOp .eql t (a.eval x) (a.eval y):Sem Value).run P w=.ok (.bool a0.isNone) w:=by
      have:=hgd .eql
      rw [q1,e2] at this ⊢
      simp [this,heq.1]
     exact ⟨.bool a0.isNone,by simp only [execOp,hop];simp only [Sem.run_bind] at h1 ⊢;rw [h1];rfl,q2⟩
    ·have h1:(do eqGuard .neq t x y (a.eval x) (a.eval y);Go.binOp .neq t (a.eval x) (a.eval y):Sem Value).run P w=.ok (.bool !a0.isNone) w:=by
      have:=hgd .neq
      rw [q1,e2] at this ⊢
      simp [this,heq.2]
     exact ⟨.bool (!a0.isNone),by simp only [execOp,hop];simp only [Sem.run_bind] at h1 ⊢;rw [h1];rfl,q2⟩
   split at h
   ·rename_i hn;exact fin false (.inl ⟨rfl,rfl⟩) hn h
   ·rename_i hn;exact fin true (.inr ⟨rfl,rfl⟩) hn h
   ·cases h
  ·cases h
 ·rename_i t g hop
  split at h
  ·rename_i T ti hT hl
   split at h
   ·rename_i hag
    cases h
    refine nA rfl (by rw [hop];intro c hh;cases hh) fun S w η a hi ho=>?_
    obtain ⟨h1,h2⟩:=hi.inw.er g T hT
    have hag':=(hΓ.ty _ _ hl).agg w
    rw [hag] at hag'
    exact ⟨yC (1000000+T),fD (b:=g) (k:=0) hop rfl (by simp [loadVar,hag',h2]),rfl⟩
   ·cases h
  ·cases h
 ·exact hVia_ok hΓ hw hc h r hr
 ·rename_i c hop
  split at h
  ·rename_i f k k' hcal ha
   split at h
   ·rename_i g hf
    split at h
    ·rename_i T It hex
     split at h
     ·rename_i hb
      cases h
      simp only [bA] at hb
      have e1:=nB hb.1
      have e2:=nB hb.2
      subst e1;subst e2
      intro S w η a hi ho
      have hops:o.op.operands.toList=f::c.args.toList:=by simp [hop,Op.operands,Call.operands,hcal]
      obtain ⟨vf,vc,he,hvf,hvc⟩:=cA hw hc hf (by rw [hops];simp) ho
      cases hvf;cases hvc
      have hva:=iC hw hc ho ha fun x hx=>by rw [hops];simp [hx]
      have hpv:yC (1000000+T)=.iface T (.pointer (some ea.a)):=by
       unfold yC
       have:Nat.blt (1000000+T) 1000000=false:=by
        cases h:Nat.blt (1000000+T) 1000000 with
        | false=>rfl
        | true=>have:=nL h;omega
       rw [this]
       simp
      have hex2:=hΓ.ex _ _ hex
      have hargs:c.args.toList.map a.eval=[.iface T (.pointer (some ea.a)),.iface T (.pointer (some ea.a))]:=by
       generalize c.args.toList.map a.eval=l at hva
       cases hva with
       | cons a1 a2=>cases a2 with
        | cons b1 b2 =>
         cases b2
         have a1:_=_:=a1
         have b1:_=_:=b1
         rw [a1,b1,hpv]
      have hx:(execOp a.eval o).run P w=.ok (.enter g #[.iface T (.pointer (some ea.a)),.iface T (.pointer (some ea.a))]) w:=by
       have:c.args.map a.eval=#[.iface T (.pointer (some ea.a)),.iface T (.pointer (some ea.a))]:=by
        apply Array.ext'
        rw [Array.toList_map,hargs]
       simp [execOp,hop,resolve,hcal,he,Deferred.ofValue,invoke,hex2.1,this]
      refine OpW.enter (by simp [hop]) hx ?_
      have hcl:CallsIn (FR rd) 0 P g _ w _:=callsIn_wide (n:=0) |>.2 (hex2.2.1 ea.a w)
      exact hcl.mono fun en w' ⟨h1,h2⟩=>⟨.bool true,h1,.bool true,S,rfl,by rw [h2];exact Grow.refl hi.inw,PM.bool.2 rfl⟩
     ·cases h
    ·cases h
   ·cases h
  ·cases h
 ·cases h
theorem opH_fl {R:RdR} (h:opH Γ o e ctx H nx=some R):R.fl≠0:=by
 have hv:∀ x,hVia Γ o e ctx x H nx=some R→R.fl≠0:=fun x h=>by
  unfold hVia at h
  (repeat' split at h)<;>first | (cases h;exact sZ _) | cases h
 unfold opH at h
 split at h
 ·split at h
  ·unfold hOff at h;(repeat' split at h)<;>first | (cases h;exact sZ _) | cases h
  ·cases h
 ·unfold hNil at h;(repeat' split at h)<;>first | (cases h;exact sZ _) | cases h
 ·(repeat' split at h)<;>first | (cases h;exact sZ _) | cases h
 ·exact hv _ h
 ·(repeat' split at h)<;>first | (cases h;exact sZ _) | cases h
 ·cases h
theorem hVia_loc {x:Operand} (hx:x∈o.op.operands.toList) (h:Ag (dD e ctx o) H H'):hVia Γ o e ctx x H' nx=hVia Γ o e ctx x H nx:=by
 unfold hVia
 split
 ·rename_i id k hev
  have hid:lk H' id=lk H id:=h id (by
   unfold dD
   have:∀ l:List Operand,x∈l→id∈rB e ctx l:=by
    intro l
    induction l with
    | nil=>intro hm;cases hm
    | cons y r ih =>
     intro hm
     unfold rB
     rcases List.mem_cons.1 hm with rfl | hm
     ·rw [hev];exact List.mem_append_left _ (by simp [PV.ids,RV.ids,CV.ids])
     ·exact List.mem_append_right _ (ih hm)
   exact this _ hx)
  rw [hid]
  split
  ·rename_i b l hl
   rw [OPS8_nice.loc Γ o e ctx ((id,.box l)::H) ((id,.box l)::H') nx (h.app [(id,PO.box l)])]
  ·rfl
 ·rfl
theorem opH_nice:opH.Nice:=by
 constructor
 ·intro Γ o e ctx H H' nx h
  unfold opH
  split
  ·rename_i x hop
   split
   ·rename_i id hx
    have:=opIds1 (o:=o) (by rw [hop];simp [Op.operands]) hx h
    unfold hOff
    rw [this id (by simp [PV.ids,RV.ids,CV.ids])]
    rfl
   ·rfl
  ·rename_i op t x y hnt hop
   split
   ·rename_i id ti hx hy hl
    have:=kH (o:=o) (by rw [hop];simp [Op.operands]) hx hy h
    unfold hNil
    rw [this.1 id (by simp [PV.ids,RV.ids,CV.ids])]
    rfl
   ·rfl
  ·rfl
  ·rename_i t x hno hop
   exact hVia_loc (by rw [hop];simp [Op.operands]) h
  ·rfl
  ·rfl
 ·intro Γ o e ctx H nx R h h0 H'
  exact absurd h0 (opH_fl h)
end
def OPSH:OpF:=OPS8.or opH
theorem OPSH_sound:OPSH.Sound:=OPS8_sound.or opH_sound
theorem OPSH_nice:OPSH.Nice:=OPS8_nice.or' opH_nice fun Γ o e ctx H nx R h h0 hn H'=>absurd h0 (opH_fl h)

def keepB (Γ:Tabs):Bool:=zC Γ.own 5000000
def apB (Γ:Tabs) (t:TypeId) (ps:PV) (j:Nat) (H:PH) (nx:Nat):Option RdR:=match bD Γ t,lk H j with
 | some (_,bts,T),some (.arr T' ys)=>match yA (.list T) (t':=.list T') ys,T.flat with
  | some ys,true=>match ps with
   | .r (.c (.h id))=>match lk H id with
    | some (.arr T2 xs)=>match yA (.list T) (t':=.list T2) xs,Nat.blt id nx&&!(Nat.beq id j) with
     | some xs,true=>some (wr (eB bts xs ys) xs (fun _=>.c (.h nx)) (fun zs=>[(nx,.arr T zs),(id,.gone)]) (nx+1))
     | _,_=>none
    | _=>none
   | .r (.c (.q _ []))=>some (wr (eB bts [] ys) [] (fun _=>.c (.h nx)) (fun zs=>[(nx,.arr T zs)]) (nx+1))
   | .r (.c (.l .nilS))=>some (wr (eB bts [] ys) [] (fun _=>.c (.h nx)) (fun zs=>[(nx,.arr T zs)]) (nx+1))
   | _=>none
  | _,_=>none
 | _,_=>none
def hasH:List RV→Bool
 | []=>false
 | .c (.h _)::_=>true
 | _::r=>hasH r
def owB (Γ:Tabs) (g:FuncId) (args:List RV) (H:PH) (nx:Nat):Option RdR:=match lk Γ.ow g,hasH args with
 | some s,true=>match uB (yF H args) s.args args,s.t.flat with
  | some x,true=>some (wr (s.m x) [] (fun _=>.c (.h nx)) (fun ys=>[(nx,.arr s.t ys)]) (nx+1))
  | _,_=>none
 | _,_=>none
def opB:OpF:=fun Γ o e ctx H nx=>match keepB Γ,o.op with
 | true,.call c=>match c.callee with
  | .value f=>match pE e ctx c.args.toList,ev e ctx f with
   | some args,some (.r (.c (.f g [] [])))=>owB Γ g args H nx
   | _,_=>none
  | _=>none
 | _,_=>none
section
variable {P:Program} {Γ:Tabs} {B:Nat} {S:Cells} {w:World} {η:Eta} {H H':PH} {nx:Nat} {o:Oper} {e:Ev} {ctx:Ctx}
theorem ArrH.flat {F S S':Cells} {w:World} {u:Value} {t:Ty} {xs:List t.den} (hf:t.flat=true) (h:ArrH F S w u t xs):ArrH F S' w u t xs:=by
 obtain ⟨base,cap,h1,h2,h3,h4⟩:=h
 refine ⟨base,cap,h1,h2,h3,h4.imp (fun h=>h) ?_⟩
 rintro ⟨b,off,g1,g2,g3,g4⟩
 refine ⟨b,off,g1,g2,g3,fun i x hx=>?_⟩
 obtain ⟨es,q1,q2⟩:=g4 i x hx
 exact ⟨es,Rep.flat hf q1,q2⟩
theorem arr_put {id k:Nat} {T:Ty} {xs ys:List T.den} {news:List Value} {u:Value} (hi:HInv B η H S w) (hl:lk H id=some (.arr T xs)) (hu:η id=some u) (hrl:RepL S w T ys news) (hle:k+ys.length≤xs.length) (h0:0<ys.length) :
  ∃ b off cap,u=.slice (some ⟨b,off,none⟩) xs.length cap∧xs.length≤cap∧(∀ P:Program,(storeCells ⟨b,off+k*T.size,none⟩ news 0).run P w=.ok () (w.setCells b (off+k*T.size) news))∧Grow B S w S (w.setCells b (off+k*T.size) news) ∧
   HInv B η ((id,.arr T (xs.take k++(ys++xs.drop (k+ys.length))))::H) S (w.setCells b (off+k*T.size) news):=by
 obtain ⟨F1,hF1,u',g1',hA⟩:=hi.read hl
 rw [hu] at g1'
 cases g1'
 have hnl:=hrl.length
 have hnpos:0<news.length:=by rw [hnl];exact Nat.mul_pos h0 T.size_pos
 obtain ⟨b,off,cap,hu1,hin,hg,hA'⟩:=ArrH.overAt (k:=k) hF1 hi.inw hA (ys:=ys) hle h0 hrl
 subst hu1
 have hcap:xs.length≤cap:=by obtain ⟨base,cap',e1,e2,_⟩:=hA;cases e1;exact e2
 refine ⟨b,off,cap,rfl,hcap,fun P=>?_,hg,?_⟩
 ·have:=run_storeCells_cells (P:=P) b (off+k*T.size) news 0 w (fun j hj=>by
   obtain ⟨_,⟨v,hv⟩,_⟩:=hin j hj
   rw [Nat.add_zero,hv];rfl) (fun j hj=>by rw [Nat.add_zero];exact (hin j hj).2.2) hrl.one
  rwa [Nat.add_zero] at this
 ·refine hi.set hl (by rw [zA];exact nR _) hg.lt hg.keep fun G hG hAG=>?_
  obtain ⟨u2,q1,hAG⟩:=hAG
  rw [hu] at q1
  cases q1
  obtain ⟨b3,off3,cap3,hu3,hin3,hg3,hA3⟩:=ArrH.overAt (k:=k) hG hi.inw hAG (ys:=ys) hle h0 hrl
  cases hu3
  refine ⟨fun _ _ h=>.inl h,fun b' o' _ hn=>⟨World.cell?_setCells_out b news _ w ⟨b',o',none⟩ fun hb _=>?_,World.frozen?_setCells _ _ _ _ _⟩,fun b' _ hn=>gB b news _ w b' fun h=>hn _ (h▸(hin3 0 hnpos).1),G,⟨_,hu,hA3⟩,fun b o h=>⟨.inl h,by rw [zA];exact (hG b o h).2.1,(hG b o h).2.2⟩⟩
  simp only at hb ⊢
  subst hb
  rcases Nat.lt_or_ge o' (off+k*T.size) with h | h
  ·exact .inl h
  ·refine .inr (Nat.le_of_not_lt fun hlt=>hn ?_)
   have:=(hin3 (o'-(off+k*T.size)) (by omega)).1
   rwa [show off+k*T.size+(o'-(off+k*T.size))=o' by omega] at this
def zerosL {α:Type} (xs:List α) (d:α):List α:=List.replicate xs.length d
def clH (Γ:Tabs) (t:TypeId) (id:Nat) (H:PH) (nx:Nat):Option RdR:=match bD Γ t,lk H id with
 | some (_,_,T),some (.arr T' xs)=>match yA (.list T) (t':=.list T') xs with
  | some xs=>some (wr (some ()) () (fun _=>.t []) (fun _=>[(id,.arr T (zerosL xs T.dflt))]) nx)
  | none=>none
 | _,_=>none
theorem clH_ok (hΓ:TabOK P Γ) {rd:Option Nat} {t:TypeId} {x:Operand} {id:Nat} {R:RdR} (hop:o.op=.call { callee:=.builtin .clear,args:=#[x],argTypes:=#[t] }) (hw:Wf e) (hc:CtxH e ctx) (hx:ev e ctx x=some (.r (.c (.h id)))) (h:clH Γ t id H nx=some R) (r:R.T):R.OK P rd B o e (H,nx) r:=by
 have hd:∀ c,o.op≠.defer c:=by rw [hop];intro c hh;cases hh
 unfold clH at h
 split at h
 ·rename_i el bts T T' xs' hel hlk
  have hI:=tA hΓ hel
  split at h
  ·rename_i xs hcast
   cases h
   obtain ⟨hT,hxx⟩:=kA hcast
   cases hT
   have hxx:xs'=xs:=hxx
   subst hxx
   obtain ⟨i,z,i1,i2,i3,i4,i5⟩:=hI.info
   refine jB rfl hd fun S w η a hi hlen ho=>?_
   obtain ⟨f1,f2⟩:=cA hw hc hx (by rw [hop];simp [Op.operands,Call.operands]) ho
   by_cases h0:0<xs'.length
   ·have hrl:=repL_zero (T:=T) S w xs'.length
    generalize hnews:(Builtin.zeroCells T.zero.toArray xs'.length).toList=news at hrl
    obtain ⟨b,off,cap,hu,hcap,hst,hg,hi'⟩:=arr_put (k:=0) hi hlk f1 hrl (by simp) (by simpa using h0)
    simp only [List.take_zero,List.nil_append,List.length_replicate,Nat.zero_add,List.drop_length,List.append_nil,Nat.zero_mul,Nat.add_zero] at hst hg hi'
    have hst:=hst P
    have hrun:(execOp a.eval o).run P w=.ok (.value (.tuple #[])) (w.setCells b off news):=by
     obtain ⟨m,hm⟩:∃ m,xs'.length=m+1:=⟨xs'.length-1,by omega⟩
     rw [hm] at hu hnews
     simp [execOp,hop,resolve,invoke,builtin,hu,Builtin.clear_,run_underlying hI.und,zeroValue,typeInfo,i1,i2,i3,hnews,hst]
    exact ⟨_,_,S,η,.inl hrun,hg,.refl _,Out.refl _ _ _,hi',[],rfl,.nil⟩
   ·have hx0:xs'=[]:=lN (by omega)
    subst hx0
    obtain ⟨F1,hF1,u,g1,base,cap,e1,_⟩:=hi.read hlk
    rw [f1] at g1
    cases g1
    have hrun:(execOp a.eval o).run P w=.ok (.value (.tuple #[])) w:=by
     cases base<;>simp [execOp,hop,resolve,invoke,builtin,e1,Builtin.clear_,run_underlying hI.und]
    refine ⟨_,_,S,η,.inl hrun,Grow.refl hi.inw,.refl _,Out.refl _ _ _,?_,[],rfl,.nil⟩
    show HInv B η ((id,.arr T [])::H) S w
    exact hi.as fun i po hl=>by
     by_cases e:id=i
     ·subst e
      rw [jA] at hl
      cases hl
      exact ⟨_,hlk,fun _ h=>h⟩
     ·rw [wA _ _ e] at hl
      exact ⟨po,hl,fun _ h=>h⟩
  ·cases h
 ·cases h
def byteI (s:List UInt8):List Int:=s.map fun b=>(b.toNat:Int)
theorem repL_bytes (S:Cells) (w:World):∀ s:List UInt8,RepL S w (.int .u8) (byteI s) (s.map fun b=>Value.int .u8 b.toNat)
 | []=>rfl
 | c::s=>⟨[.int .u8 c.toNat],_,rfl,⟨rfl,by rw [has_u8];have:=c.toNat_lt;constructor<;>(try simp only)<;>omega⟩,repL_bytes S w s⟩
def cpS (id sz:Nat) (lo:Int) (s:List UInt8) (H:PH) (nx:Nat):Option RdR:=match lk H id,Nat.beq sz 1 with
 | some (.arr (.int .u8) xs),true=>some (wr (putM xs lo (byteI s)) xs (fun _=>.c (.d (.int .i64) (lenM s))) (fun zs=>[(id,.arr (.int .u8) zs)]) nx)
 | _,_=>none
theorem cpS_ok (hΓ:TabOK P Γ) {rd:Option Nat} {t t' el:TypeId} {bts:Nat} {d x:Operand} {id sz:Nat} {lo:Int} {s:List UInt8} {R:RdR} (hop:o.op=.call { callee:=.builtin .copy,args:=#[d,x],argTypes:=#[t,t'] }) (hel:bD Γ t=some (el,bts,.int .u8)) (hw:Wf e) (hc:CtxH e ctx) (hxd:ev e ctx d=some (.va id sz lo)) (hxs:ev e ctx x=some (.r (.c (.d .str s)))) (h:cpS id sz lo s H nx=some R) (r:R.T) (hr:R.m=some r):R.OK P rd B o e (H,nx) r:=by
 have hdf:∀ c,o.op≠.defer c:=by rw [hop];intro c hh;cases hh
 have hI:=tA hΓ hel
 unfold cpS at h
 split at h
 ·rename_i xs hlk hb
  have hb:=nB hb
  subst hb
  cases h
  obtain ⟨zs,hzs⟩:∃ zs:List Int,zs=r:=⟨r,rfl⟩
  subst hzs
  obtain ⟨q1,q2,q3⟩:=put_of (T:=Int) hr
  have hbl:(byteI s).length=s.length:=by unfold byteI;simp
  obtain ⟨i,z,i1,i2,i3,i4,i5⟩:=hI.info
  have hsz:∀ w,(sizeOf el).run P w=.ok 1 w:=fun w=>by simp [sizeOf,typeInfo,i1,i4,Ty.size]
  refine jB rfl hdf fun S w η a hi hlen ho=>?_
  obtain ⟨b,off,n,cap,g1,g2,g3,g4,g5⟩:=cA hw hc hxd (by rw [hop];simp [Op.operands,Call.operands]) ho
  obtain ⟨hs1,hs2⟩:=VRep.str.1 (cA hw hc hxs (by rw [hop];simp [Op.operands,Call.operands]) ho).2
  obtain ⟨bs,hbd,hbs⟩:∃ bs:ByteArray,bs=⟨s.toArray⟩∧bs.size=s.length:=⟨_,rfl,by simp [ByteArray.size]⟩
  rw [← hbd] at hs1
  have hfc:(Builtin.firstCells 1 s.length (.string bs)).run P w=.ok (s.map fun b=>Value.int .u8 b.toNat).toArray w:=by
   rw [← hbs,Lib.run_firstCells_string,hbd]
   rfl
  have hn:n=xs.length:=by
   obtain ⟨F1,_,u,e1,base,cap',e2,_⟩:=hi.read hlk
   rw [g1] at e1
   cases e1
   cases e2;rfl
  subst hn
  have hmin:Nat.min s.length (xs.length-lo.toNat)=s.length:=Nat.min_eq_left (by omega)
  have hval:CM S w η (.d (.int .i64) (lenM s)) (goInt s.length):=by
   refine ⟨rfl,VRep.int.2 ⟨rfl,?_⟩⟩
   rw [bJ];simp only [lenM,maxLen] at *;omega
  by_cases h0:0<s.length
  ·have hrl:=repL_bytes S w s
   obtain ⟨b1,off1,cap1,hu,hcap,hst,hg,hi'⟩:=arr_put (k:=lo.toNat) hi hlk g1 hrl (by rw [hbl];omega) (by rw [hbl];exact h0)
   cases hu
   have hst:=hst P
   rw [q3] at *
   simp only [Ty.size,Nat.mul_one] at hst hg hi' g5
   refine ⟨goInt s.length,_,S,η,.inl ?_,hg,.refl _,Out.refl _ _ _,hi',CM.mono hg.keep (.refl _) hval⟩
   simp [execOp,hop,resolve,invoke,builtin,g5,hs1,Builtin.copy_,run_underlying hI.und,Builtin.lenOf,hsz,hbs,hmin,hfc,hst]
  ·have hs0:s=[]:=lN (by omega)
   subst hs0
   have hz:zs=xs:=by rw [q3];simp [byteI]
   refine ⟨goInt 0,w,S,η,.inl ?_,Grow.refl hi.inw,.refl _,Out.refl _ _ _,?_,hval⟩
   ·have hbs0:bs.size=0:=hbs
    have hfc0:(Builtin.firstCells 1 0 (.string bs)).run P w=.ok #[] w:=hfc
    simp [execOp,hop,resolve,invoke,builtin,g5,hs1,Builtin.copy_,run_underlying hI.und,Builtin.lenOf,hsz,hbs0,hfc0,storeCells]
   ·show HInv B η ((id,.arr (.int .u8) zs)::H) S w
    rw [hz]
    exact hi.as fun i po hl=>by
     by_cases e:id=i
     ·subst e
      rw [jA] at hl
      cases hl
      exact ⟨_,hlk,fun _ h=>h⟩
     ·rw [wA _ _ e] at hl
      exact ⟨po,hl,fun _ h=>h⟩
 ·cases h
theorem owB_ok (hΓ:TabOK P Γ) {rd:Option Nat} {c:Call} {f:Operand} {g:FuncId} {args:List RV} {R:RdR} (hop:o.op=.call c) (hcal:c.callee=.value f) (ha:pE e ctx c.args.toList=some args) (hw:Wf e) (hc:CtxH e ctx) (hf:ev e ctx f=some (.r (.c (.f g [] [])))) (h:owB Γ g args H nx=some R) (r:R.T) (hr:R.m=some r) :
  R.OK P rd B o e (H,nx) r:=by
 unfold owB at h
 split at h
 ·rename_i s hs _
  split at h
  ·rename_i x hx hfl
   cases h
   obtain ⟨ys,hys⟩:∃ ys:List s.t.den,ys=r:=⟨r,rfl⟩
   subst hys
   obtain ⟨hen,hsp⟩:=hΓ.ow g s hs
   have hops:o.op.operands.toList=f::c.args.toList:=by simp [hop,Op.operands,Call.operands,hcal]
   show ∀ (S:Cells) (w:World) (η:Eta) (a:Act),HInv B η H S w→Free η nx (nx+1)→En.Only (lk e) (rA o) S w η a.tmps→_
   intro S w η a hi0 hfree ho
   have hk0:η nx=none:=hfree nx (nR _) (Nat.lt_succ_self _)
   obtain ⟨vf,vc,he,q1,q2⟩:=cA hw hc hf (by rw [hops];simp) ho
   cases q1;cases q2
   have hva:=iC hw hc ho ha fun x hx=>by rw [hops];simp [hx]
   have hex:(execOp a.eval o).run P w=.ok (.enter g (c.args.toList.map a.eval).toArray) w:=by
    simp [execOp,hop,resolve,hcal,he,Deferred.ofValue,invoke,← Array.toList_map]
    exact hen _ w
   refine OpW.enter (by simp [hop]) hex ?_
   obtain ⟨S1,hi,g1⟩:=jD (l:=args) hi0
   have hcall:=hsp x ys hr S1 w η _ hi.inw (lD hi hx (hva.mono fun _ _ h=>RM.mono g1.keep (.refl _) h))
   have hcl:CallsIn (FR rd) 0 P g (c.args.toList.map a.eval).toArray w _:=callsIn_wide (n:=0) |>.2 hcall
   refine hcl.mono fun en w' ⟨u,S',F,h1,h2,h3,h4,h5⟩=>⟨u,h1,?_⟩
   have hlt:InLt S w':=fun b o hb=>Nat.lt_of_lt_of_le (hi0.inw b o hb) h3.below.size
   have hkp:Keep S w S w':=⟨fun _ _ h=>h,fun b o hb=>h3.keep.cell b o (g1.keep.sub b o hb)⟩
   refine ⟨u,S,η.add nx u,rfl,⟨h3.below.mono hi.base,hkp,hlt,fun b o h=>.inl h,h3.lk⟩,.push hk0 _,Out.add _ _ _,?_,?_⟩
   ·show HInv B _ ((nx,.arr s.t ys)::H) S w'
    exact hi0.new hk0 h3.below.size hlt hkp (fun _ _ h=>.inl h) (fun b hb=>h3.below.block b hb) F ⟨u,Eta.add_same _ _ _,h4.flat hfl⟩ fun b o h=>⟨(h5 b o h).1,(h5 b o h).2.1,fun hs=>(h5 b o h).2.2 (h3.keep.sub b o (g1.keep.sub b o hs))⟩
   ·change _∧_
    exact ⟨Eta.add_same _ _ _,h2⟩
  ·cases h
 ·cases h
theorem opB_sound:OpF.Sound opB:=by
 intro P Γ hΓ rd B o e ctx H nx R h hw hc r hr
 unfold opB at h
 split at h
 ·rename_i c hkeep hop
  split at h
  ·rename_i f hcal
   split at h
   ·rename_i args g ha hf
    exact owB_ok hΓ hop hcal ha hw hc hf h r hr
   ·cases h
  ·cases h
 ·cases h
theorem opB_fl {R:RdR} (h:opB Γ o e ctx H nx=some R):R.fl≠0:=by
 unfold opB at h
 split at h
 ·split at h
  ·split at h
   ·unfold owB at h;(repeat' split at h)<;>first | (cases h;exact sZ _) | cases h
   ·cases h
  ·cases h
 ·cases h
theorem opB_nice:opB.Nice:=by
 constructor
 ·intro Γ o e ctx H H' nx h
  unfold opB
  split
  ·rename_i c hkeep hop
   split
   ·rename_i f hcal
    split
    ·rename_i args g ha hf
     have h1:Ag (RVs.ids args) H H':=kI ha (by
      have h2:Ag (rB e ctx (f::c.args.toList)) H H':=by
       have:o.op.operands.toList=f::c.args.toList:=by simp [hop,Op.operands,Call.operands,hcal]
       rw [← this];exact h
      unfold rB at h2
      exact h2.right)
     unfold owB
     split
     ·rename_i s hs _
      have:uB (yF H' args) s.args args=uB (yF H args) s.args args:=by
       rw [rF,rF,dRs_loc h1]
       exact conRs_loc (h1.app _)
      rw [this]
     ·rfl
    ·rfl
   ·rfl
  ·rfl
 ·intro Γ o e ctx H nx R h h0 H'
  exact absurd h0 (opB_fl h)
theorem wB {F G:OpF} {R:RdR} (h:(F.or G) Γ o e ctx H nx=some R):F Γ o e ctx H nx=some R∨G Γ o e ctx H nx=some R:=by
 unfold OpF.or at h
 split at h
 ·rename_i h1;cases h;exact .inl h1
 ·exact .inr h
theorem call_pure {c:Call} {R:RdR} (hop:o.op=.call c) (h:OPSH Γ o e ctx H nx=some R) (h0:R.fl=0):opW Γ o e ctx H nx=some R∨opA Γ o e ctx H nx=some R∨opC Γ o e ctx H nx=some R:=by
 rcases wB h with h | h
 rotate_left
 ·exact absurd h0 (opH_fl h)
 rcases wB h with h | h
 rotate_left
 ·exact absurd h0 (op8_fl h)
 rcases wB h with h | h
 rotate_left
 ·exact absurd h0 (opK_fl h)
 rcases wB h with h | h
 rotate_left
 ·exact absurd h0 (opG_fl h)
 rcases wB h with h | h
 rotate_left
 ·exact absurd h0 (op7_fl h)
 rcases wB h with h | h
 rotate_left
 ·exact absurd h0 (op6_fl h)
 rcases wB h with h | h
 rotate_left
 ·exact absurd h0 (op4_fl h)
 rcases wB h with h | h
 rotate_left
 ·exact absurd h0 (op2_fl h)
 rcases wB h with h | h
 ·unfold op1 at h
  simp only [hop] at h
  cases h
 rcases wB h with h | h
 ·exact .inl h
 rcases wB h with h | h
 ·unfold opV at h
  simp only [hop] at h
  (repeat' split at h)<;>first | (unfold copyR at h;(repeat' split at h)<;>first | (cases h;cases h0) | cases h) | cases h
 rcases wB h with h | h
 rotate_left
 ·unfold opD at h
  simp only [hop] at h
  cases h
 rcases wB h with h | h
 rotate_left
 ·exact .inr (.inr h)
 rcases wB h with h | h
 ·unfold OpF.calm at h
  split at h
  ·rename_i R1 h1
   split at h
   ·cases h;exact .inr (.inl h1)
   ·cases h
  ·cases h
 ·exact absurd h0 (opH1_fl h)
theorem conRs_noH:∀ {l:List Ty} {args:List RV},hasH args=true→uB [] l args=none
 | [],[],h=>by cases h
 | [],_::_,_=>rfl
 | [t],[],h=>by cases h
 | [t],[.c (.h id)],_=>by
  simp only [uB,conR]
  split
  ·rfl
  ·simp [lE,lk]
 | [t],.c (.h id)::_::_,_=>rfl
 | [t],[x],h=>by
  cases x with
  | s l=>cases h
  | c y=>cases y<;>first | (cases h;done) | (simp only [uB,conR];split<;>simp [lE,lk])
 | [t],_::_::_,_=>rfl
 | t::u::r,[],h=>by cases h
 | t::u::r,x::vs,h=>by
  unfold uB
  cases x with
  | s l =>
   have h':hasH vs=true:=h
   rw [conRs_noH (l:=u::r) h']
   cases conR [] t (.s l)<;>rfl
  | c y =>
   cases y
   case h id =>
    simp only [conR]
    cases t.agg
    ·simp [lE,lk]
    ·rfl
   all_goals
    have h':hasH vs=true:=h
    rw [conRs_noH (l:=u::r) h']
    split<;>rfl
def vpS (Γ:Tabs) (t:TypeId) (id sz:Nat) (lo:Int) (hi:Option Int) (H:PH) (nx:Nat):Option RdR:=match bD Γ t,hi,lk H id with
 | some (_,_,T),some h,some (.arr T' xs)=>match Nat.beq T.size T'.size&&Nat.beq sz T'.size with
  | true=>some (rdr (oA h (lenM xs-lo+1)) () (fun _=>.vp id sz lo h) H nx)
  | false=>none
 | _,_,_=>none
def bsV (Γ:Tabs) (s d:TypeId) (id sz:Nat) (lo n:Int) (H:PH) (nx:Nat):Option RdR:=match lk Γ.ty s,lk Γ.ty d,lk H id with
 | some ts,some td,some (.arr (.int .u8) xs)=>match ts.kind,td.kind,Nat.beq sz 1 with
  | .slice el _,.str,true=>match lk Γ.ty el with
   | some te=>match te.kind with
    | .int .u8=>some (rdr (some (oC (rC xs lo.toNat n.toNat))) ([]:List UInt8) (fun r=>.c (.d .str r)) H nx)
    | _=>none
   | none=>none
  | _,_,_=>none
 | _,_,_=>none
def opL:OpF:=fun Γ o e ctx H nx=>match o.op with
 | .slice t x none (some hi) none=>match ev e ctx x with
  | some (.va id sz lo)=>vpS Γ t id sz lo (aJ e ctx hi) H nx
  | _=>none
 | .convert s d x=>match ev e ctx x with
  | some (.vp id sz lo n)=>bsV Γ s d id sz lo n H nx
  | _=>none
 | .call c=>match c.callee,c.args.toList,c.argTypes.toList with
  | .builtin .clear,[x],[t]=>match ev e ctx x with
   | some (.r (.c (.h id)))=>clH Γ t id H nx
   | _=>none
  | .builtin .copy,[d,x],[t,t']=>match ev e ctx d,ev e ctx x,bD Γ t with
   | some (.va id sz lo),some (.r (.c (.d .str s))),some (_,_,.int .u8)=>cpS id sz lo s H nx
   | _,_,_=>none
  | _,_,_=>none
 | _=>none
theorem vpS_ok (hΓ:TabOK P Γ) {rd:Option Nat} {t:TypeId} {x hi_:Operand} {id sz:Nat} {lo:Int} {R:RdR} (hop:o.op=.slice t x none (some hi_) none) (hw:Wf e) (hc:CtxH e ctx) (hx:ev e ctx x=some (.va id sz lo)) (h:vpS Γ t id sz lo (aJ e ctx hi_) H nx=some R) (r:R.T) (hr:R.m=some r):R.OK P rd B o e (H,nx) r:=by
 have hd:∀ c,o.op≠.defer c:=by rw [hop];intro c hh;cases hh
 unfold vpS at h
 split at h
 ·rename_i el bts T hv T' xs hel hhi hlk
  split at h
  ·rename_i hb
   cases h
   simp only [bA] at hb
   have b1:=nB hb.1
   have b2:=nB hb.2
   obtain ⟨hc0,hc1⟩:0≤hv∧hv<lenM xs-lo+1:=wG hr
   have hI:=tA hΓ hel
   refine nA rfl hd fun S w η a hiv ho=>?_
   obtain ⟨b,off,n,cap,g1,g2,g3,g4,g5⟩:=cA hw hc hx (by rw [hop];simp [Op.operands]) ho
   have f0:=iD hw hc hhi (by rw [hop];simp [Op.operands]) ho
   have hn:n=xs.length:=by
    obtain ⟨F1,_,u,e1,base,cap',e2,_⟩:=hiv.read hlk
    rw [g1] at e1
    cases e1
    cases e2;rfl
   subst hn
   obtain ⟨i,z,i1,i2,i3,i4,i5⟩:=hI.info
   have hsz:(sizeOf el).run P w=.ok T.size w:=by simp [sizeOf,typeInfo,i1,i4]
   obtain ⟨k,rfl⟩:∃ k:Nat,hv=(k:Int):=Int.eq_ofNat_of_zero_le hc0
   obtain ⟨l,rfl⟩:∃ l:Nat,lo=(l:Int):=Int.eq_ofNat_of_zero_le g2
   simp only [lenM] at hc1
   rw [Int.toNat_natCast] at g5
   refine ⟨.slice (some ⟨b,off+l*sz,none⟩) k (cap-l),?_,b,off,xs.length,cap,g1,by omega,by omega,by omega,g4,by rw [Int.toNat_natCast,Int.toNat_natCast]⟩
   simp [execOp,hop,g5,f0,Instr.sliceAt,Instr.slice,run_underlying hI.und,Instr.sliceBounds,Instr.sliceBound,asIntOf,hsz,show k≤cap-l by omega,show ¬ (cap-l=0) by omega,Addr.add_lit]
  ·cases h
 ·cases h
theorem bsV_ok (hΓ:TabOK P Γ) {rd:Option Nat} {s d:TypeId} {x:Operand} {id sz:Nat} {lo n:Int} {R:RdR} (hop:o.op=.convert s d x) (hw:Wf e) (hc:CtxH e ctx) (hx:ev e ctx x=some (.vp id sz lo n)) (h:bsV Γ s d id sz lo n H nx=some R) (r:R.T) (hr:R.m=some r):R.OK P rd B o e (H,nx) r:=by
 have hd:∀ c,o.op≠.defer c:=by rw [hop];intro c hh;cases hh
 unfold bsV at h
 split at h
 ·rename_i ts td xs hs htd hlk
  split at h
  ·rename_i el bts e1 e2 hb
   have hb:=nB hb
   subst hb
   split at h
   ·rename_i te hte
    split at h
    ·rename_i e3
     have ks:=(hΓ.ty s ts hs).kind
     have kd:=(hΓ.ty d td htd).kind
     have ke:=(hΓ.ty el te hte).kind
     rw [e1] at ks
     rw [e2] at kd
     rw [e3] at ke
     cases h
     obtain ⟨r',hr'⟩:∃ r':List UInt8,r'=r:=⟨r,rfl⟩
     subst hr'
     have hr2:some (oC (rC xs lo.toNat n.toNat))=some r':=hr
     cases hr2
     refine nA rfl hd fun S w η a hi ho=>?_
     obtain ⟨b,off,m,cap,g1,g2,g3,g4,g5,g6⟩:=cA (a:=a) hw hc hx (by rw [hop];simp [Op.operands]) ho
     obtain ⟨F1,_,u,q1,base,cap',q2,q3,q4,q5⟩:=hi.read hlk
     rw [g1] at q1
     cases q1
     cases q2
     have hpl:(rC xs lo.toNat n.toNat).length=n.toNat:=by
      unfold rC
      rw [lT,List.length_drop];omega
     have hcells:(rC xs lo.toNat n.toNat).length=0∨∃ b' off',some (⟨b,off+lo.toNat*1,none⟩:Addr)=some ⟨b',off',none⟩∧∀ i,i<(rC xs lo.toNat n.toNat).length→w.cell? ⟨b',off'+i,none⟩=some (.int .u8 ((rC xs lo.toNat n.toNat).getD i 0)):=by
      refine .inr ⟨b,off+lo.toNat*1,rfl,fun i hi=>?_⟩
      rw [hpl] at hi
      rcases q5 with ⟨q5,_⟩ | ⟨b2,off2,q6,_,_,q7⟩
      ·omega
      ·cases q6
       obtain ⟨es,he,hc⟩:=q7 (lo.toNat+i) _ (gE (by omega))
       have he':es=[Value.int .u8 xs[lo.toNat+i]]:=he.1
       have:=hc 0 (.int .u8 xs[lo.toNat+i]) (by rw [he'];rfl)
       rw [show off+(lo.toNat+i)*(Ty.int IntKind.u8).size+0=off+lo.toNat*1+i from by show off+(lo.toNat+i)*1+0=_;omega] at this
       rw [this]
       have hg:(rC xs lo.toNat n.toNat).getD i 0=xs[lo.toNat+i]:=by
        unfold rC
        rw [List.getD_eq_getElem?_getD,List.getElem?_take_of_lt hi,List.getElem?_drop,gE (by omega)]
        rfl
       rw [hg]
     have hlen:(rC xs lo.toNat n.toNat).length≤maxLen:=by rw [hpl];omega
     rw [← hpl] at g6
     refine ⟨.string ⟨(oC (rC xs lo.toNat n.toNat)).toArray⟩,?_,PM.str.2 ⟨rfl,by show (oC (rC xs lo.toNat n.toNat)).length≤maxLen;unfold oC;rw [List.length_map];exact hlen⟩⟩
     have:=run_bytes (P:=P) (w:=w) (run_underlying ks.1) (fun w=>ke w) (fun w=>kd w) (cap:=cap-lo.toNat) hcells
     rw [Nat.mul_one] at this
     simp [execOp,hop,g6,this]
    ·cases h
   ·cases h
  ·cases h
 ·cases h
theorem opL_sound:OpF.Sound opL:=by
 intro P Γ hΓ rd B o e ctx H nx R h hw hc r hr
 unfold opL at h
 split at h
 ·rename_i t x hi hop
  split at h
  ·rename_i id sz lo hx
   exact vpS_ok hΓ hop hw hc hx h r hr
  ·cases h
 ·rename_i s d x hop
  split at h
  ·rename_i id sz lo n hx
   exact bsV_ok hΓ hop hw hc hx h r hr
  ·cases h
 ·rename_i c hop
  split at h
  ·rename_i x t hcal hxs hts
   split at h
   ·rename_i id hx
    have hce:=gC hcal hxs hts
    subst hce
    exact clH_ok hΓ hop hw hc hx h r
   ·cases h
  ·rename_i d x t t' hcal hxs hts
   split at h
   ·rename_i id sz lo s el bts hd hx hel
    have hce:=gC hcal hxs hts
    subst hce
    exact cpS_ok hΓ hop hel hw hc hd hx h r hr
   ·cases h
  ·cases h
 ·cases h
theorem opL_fl {R:RdR} (h:opL Γ o e ctx H nx=some R):R.fl≠0:=by
 unfold opL at h
 split at h
 ·split at h
  ·unfold vpS at h;(repeat' split at h)<;>first | (cases h;exact sZ _) | cases h
  ·cases h
 ·split at h
  ·unfold bsV at h;(repeat' split at h)<;>first | (cases h;exact sZ _) | cases h
  ·cases h
 ·split at h
  ·split at h
   ·unfold clH at h;(repeat' split at h)<;>first | (cases h;exact sZ _) | cases h
   ·cases h
  ·split at h
   ·unfold cpS at h;(repeat' split at h)<;>first | (cases h;exact sZ _) | cases h
   ·cases h
  ·cases h
 ·cases h
theorem opL_nice:opL.Nice:=by
 constructor
 ·intro Γ o e ctx H H' nx h
  have at1:∀ {x:Operand} {pv:PV},x∈o.op.operands.toList→ev e ctx x=some pv→Ag pv.ids H H':=by
   intro x pv hx hev i hi
   refine h i ?_
   unfold dD
   have:∀ l:List Operand,x∈l→i∈rB e ctx l:=by
    intro l
    induction l with
    | nil=>intro hm;cases hm
    | cons y r ih =>
     intro hm
     unfold rB
     rcases List.mem_cons.1 hm with rfl | hm
     ·rw [hev];exact List.mem_append_left _ hi
     ·exact List.mem_append_right _ (ih hm)
   exact this _ hx
  unfold opL
  split
  ·rename_i t x hi hop
   split
   ·rename_i id sz lo hx
    have:=at1 (by rw [hop];simp [Op.operands]) hx id (by simp [PV.ids])
    unfold vpS
    rw [this]
    rfl
   ·rfl
  ·rename_i s d x hop
   split
   ·rename_i id sz lo n hx
    have:=at1 (by rw [hop];simp [Op.operands]) hx id (by simp [PV.ids])
    unfold bsV
    rw [this]
    rfl
   ·rfl
  ·rename_i c hop
   split
   ·rename_i x t hcal hxs hts
    split
    ·rename_i id hx
     have:=at1 (by simp [hop,Op.operands,Call.operands,hcal,hxs]) hx id (by simp [PV.ids,RV.ids,CV.ids])
     unfold clH
     rw [this]
    ·rfl
   ·rename_i d x t t' hcal hxs hts
    split
    ·rename_i id sz lo s el bts hd hx hel
     have:=at1 (by simp [hop,Op.operands,Call.operands,hcal,hxs]) hd id (by simp [PV.ids])
     unfold cpS
     rw [this]
    ·rfl
   ·rfl
  ·rfl
 ·intro Γ o e ctx H nx R h h0 H'
  exact absurd h0 (opL_fl h)
end
def OPSL:OpF:=OPSH.or opL
theorem OPSL_sound:OPSL.Sound:=OPSH_sound.or opL_sound
theorem OPSL_nice:OPSL.Nice:=OPSH_nice.or' opL_nice fun Γ o e ctx H nx R h h0 hn H'=>absurd h0 (opL_fl h)
def OPS:OpF:=opB.or OPSL
theorem OPS_sound:OPS.Sound:=opB_sound.or OPSL_sound
theorem OPS_nice:OPS.Nice:=opB_nice.or' OPSL_nice fun Γ o e ctx H nx R h h0 hn H'=>by
 unfold opB at hn ⊢
 split
 ·rename_i c hkeep hop
  have hp:opW Γ o e ctx H nx=some R∨opA Γ o e ctx H nx=some R∨opC Γ o e ctx H nx=some R:=by
   rcases wB h with h | h
   ·exact call_pure hop h h0
   ·exact absurd h0 (opL_fl h)
  split
  ·rename_i f hcal
   split
   ·rename_i args g ha hf
    unfold owB
    split
    ·rename_i s hs hh
     exfalso
     rcases hp with hp | hp | hp
     ·unfold opW at hp
      simp only [hop,hcal] at hp
      cases hp
     ·unfold opA at hp
      simp only [hop,hcal] at hp
      cases hp
     ·unfold opC at hp
      simp only [hop,hcal,ha,hf] at hp
      have:∀ l,uB [] l ([].map cB++args++[].map cB)=none:=fun l=>by
       simp only [List.map_nil,List.nil_append,List.append_nil];exact conRs_noH hh
      split at hp
      ·rw [this] at hp
       simp only at hp
       (repeat' split at hp)<;>first | (cases hp;cases h0) | cases hp
      ·cases hp
    ·rfl
   ·rfl
  ·rfl
 ·rfl
end Go.PE
