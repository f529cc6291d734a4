/-
 Texts of this proof, put together: P6, P7, PF, PG, PK, P8, PH.
 No conditions.
-/
import Derived.Test.YtobfnefajpiakaaDoorZ3
import Derived.MapKept
import Derived.Laws.Concat
import Derived.Laws.Strings
import Derived.Lib.Strings
import Derived.Laws.IdiomStrings
import Derived.Laws.IdiomCopy
import Derived.Lib.SlTrimSet
import Derived.Lib.Repeat
import Derived.Lib.ItoaNum
import Derived.Lib.AtoiAll
import Derived.Laws.BytesArg
set_option linter.all false
namespace Go.PE
open Go Go.RowKit Go.Abs
variable [db:DB] [ea:EA]

def keyM:List (Int×Nat)→Int→Bool
 | [],_=>false
 | [(k,_)],x=>eqM x k
 | (k,_)::r,x=>orM (eqM x k) (keyM r x)
def selM {α:Type}:List (Int×Option α)→Int→Option α
 | [],_=>none
 | (k,m)::r,x=>cond (eqM x k) m (selM r x)
def freshK:List (Int×Nat)→Int→Bool
 | [],_=>true
 | (k,_)::r,x=>match decide (x=k) with
  | true=>false
  | false=>freshK r x
def castS (A R:List Ty):Spec→Option (Tup (A.map .d)→Option (Tup (R.map .d)))
 | ⟨A',R',m⟩=>if h:A'=A then if h2:R'=R then some (fun x=>h2▸m (h▸x)) else none else none
theorem castS_some {A R:List Ty} {s:Spec} {m:Tup (A.map .d)→Option (Tup (R.map .d))} (h:castS A R s=some m):s=⟨A,R,m⟩:=by
 obtain ⟨A',R',m'⟩:=s
 by_cases e1:A'=A
 ·subst e1
  by_cases e2:R'=R
  ·subst e2
   simp [castS] at h
   subst h;rfl
  ·simp [castS,e2] at h
 ·simp [castS,e1] at h
def sels (Γ:Tabs) (A R:List Ty) (a:Tup (A.map .d)):List (Int×Nat)→Option (List (Int×Option (Tup (R.map .d))))
 | []=>some []
 | (k,g)::r=>match lk Γ.sp g with
  | some s=>match castS A R s,sels Γ A R a r with
   | some m,some l=>some ((k,m a)::l)
   | _,_=>none
  | none=>none
def bxF (Γ:Tabs) (dst:Option Nat) (pv:PV) (H:PH) (nx:Nat):Option RdR:=match pv with
 | .r v=>match memO dst Γ.own||!(Nat.ble v.cells.length 40),headTy v.cells with
  | true,some T=>match T.agg,flatOf T v.cells with
   | false,some xs=>some (wn (some ()) () (fun _=>.c (.p nx 0)) (fun _=>.flat xs.length T xs) H nx)
   | _,_=>none
  | _,_=>none
 | _=>none
def ixW (Γ:Tabs) (t:TypeId) (pv ix:PV) (H:PH) (nx:Nat):Option RdR:=match ix,lk Γ.ty t,pv with
 | .r (.c (.d (.int k) i)),some ti,.r (.s l)=>match ti.kind with
  | .array n el=>match Nat.ble 8 n,lk Γ.ty el,headTy l with
   | true,some te,some T=>match T.agg,flatOf T l,Nat.beq l.length (n*te.size) with
    | false,some xs,true=>match te.agg with
     | false=>match Nat.beq te.size 1 with
      | true=>some (rdr (idxM xs i) T.dflt (fun x=>.c (.d T x)) H nx)
      | false=>none
     | true=>match Nat.blt 0 te.size with
      | false=>none
      | true=>some (rdr (sliceM xs (i*te.size) (i*te.size+te.size)) [] (fun ys=>.s ((List.range te.size).map fun k=>.d T (nthD ys k T.dflt))) H nx)
    | _,_,_=>none
   | _,_,_=>none
  | _=>none
 | _,_,_=>none
def markS (dst:Option Nat) (l:List Nat):Bool:=match dst with | some t=>memN l (t+2000000)||memN l (t+4000000) | none=>false
def slZ (Γ:Tabs) (e:Ev) (ctx:Ctx) (t:TypeId) (x:Operand) (lo hi:Option Operand) (H:PH) (nx:Nat):Option RdR:=match elOf Γ t,ev e ctx x with
 | some (_,_,T),some pv=>match srcOf H T pv with
  | some xs=>match bndR e ctx 0 lo,bndR e ctx (lenM xs) hi with
   | some l,some h=>some (wr (sliceM xs l h) [] (fun ys=>.c (.d (.list T) ys)) (fun _=>dP H pv) nx)
   | _,_=>none
  | none=>none
 | _,_=>none
def slQ (Γ:Tabs) (e:Ev) (ctx:Ctx) (t:TypeId) (x:Operand) (hi mx:Operand) (H:PH) (nx:Nat):Option RdR:=match elOf Γ t,ev e ctx x with
 | some (_,_,T),some pv=>match srcOf H T pv,ev e ctx hi,ev e ctx mx with
  | some xs,some (.r (.c (.d (.int .i64) h))),some (.r (.c (.d (.int .i64) m)))=>some (wr ((sameM h m).bind fun _=>sliceM xs 0 h) [] (fun ys=>.c (.fu T ys)) (fun _=>dP H pv) nx)
  | _,_,_=>none
 | _,_=>none
def slE (Γ:Tabs) (e:Ev) (ctx:Ctx) (t:TypeId) (x:Operand) (H:PH) (nx:Nat):Option RdR:=match elOf Γ t,ev e ctx x with
 | some (_,_,T),some pv=>match srcOf H T pv with
  | some xs=>some (rdu (.c (.q T [])) H nx)
  | none=>none
 | _,_=>none
def gxR (Γ:Tabs) (t:TypeId) (g:Nat) (ix:PV) (H:PH) (nx:Nat):Option RdR:=match ix,lk Γ.ty t,lk globTab g with
 | .r (.c (.d (.int k) i)),some ti,some G=>match ti.kind with
  | .array n el=>match lk Γ.ty el with
   | some te=>match Nat.beq te.size G.t.size&&Nat.beq G.xs.length n with
    | true=>some (rdr (idxM G.xs i) G.t.dflt (fun x=>.fp G.t x) H nx)
    | false=>none
   | none=>none
  | _=>none
 | _,_,_=>none
def isMapf (Γ:Tabs) (t:TypeId):Bool:=match lk Γ.ty t with
 | some ti=>match ti.kind with
  | .mapf=>true
  | _=>false
 | none=>false
def mkMap (Γ:Tabs) (t:TypeId) (H:PH) (nx:Nat):Option RdR:=match isMapf Γ t with
 | true=>some (wn (some ()) () (fun _=>.c (.h nx)) (fun _=>.mp []) H nx)
 | false=>none
def upMap (Γ:Tabs) (t:TypeId) (m k v:PV) (H:PH) (nx:Nat):Option RdR:=match m,k,v with
 | .r (.c (.h id)),.r (.c (.d (.int .i64) x)),.r (.c (.f g [] []))=>match lk H id,isMapf Γ t with
  | some (.mp es),true=>match freshK es x with
   | true=>some (wr (some ()) () (fun _=>.any) (fun _=>[(id,.mp (es++[(x,g)]))]) nx)
   | false=>none
  | _,_=>none
 | _,_,_=>none
def luMap (Γ:Tabs) (t:TypeId) (m k:PV) (ok:Bool) (H:PH) (nx:Nat):Option RdR:=match m,k with
 | .r (.c (.h id)),.r (.c (.d (.int .i64) x))=>match lk H id,isMapf Γ t with
  | some (.mp es),true=>match ok with
   | true=>some (rdu (.t [.c (.sl x es),.c (.d .bool (keyM es x))]) H nx)
   | false=>some (rdu (.c (.sl x es)) H nx)
  | _,_=>none
 | _,_=>none
def callSel (Γ:Tabs) (x:Int) (es:List (Int×Nat)) (args:List RV) (H:PH) (nx:Nat):Option RdR:=match es with
 | []=>none
 | (_,g)::_=>match lk Γ.sp g with
  | some s=>match conRs [] s.args args with
   | some a=>match sels Γ s.args s.res a es with
    | some L=>some (rdr (selM L x) (Tup.dflt (s.res.map .d)) (fun r=>resPV (rvs s.res r)) H nx)
    | none=>none
   | none=>none
  | none=>none
def callOw (Γ:Tabs) (g:FuncId) (args:List RV) (H:PH) (nx:Nat):Option RdR:=match lk Γ.ow g with
 | some s=>match conRs (fzRs H args) s.args args with
  | some x=>some (wr (s.m x) [] (fun _=>.c (.h nx)) (fun ys=>(nx,.arr s.t ys)::dRs H args) (nx+1))
  | none=>none
 | none=>none
def pkR (p:Option PV) (H:PH) (nx:Nat):Option RdR:=match p with
 | some (.r v)=>some (rdu (.r v) H nx)
 | _=>none
def op6:OpF:=fun Γ o e ctx H nx=>match o.op with
 | .box t x=>match ev e ctx x with
  | some pv=>bxF Γ o.dst pv H nx
  | none=>none
 | .index t x i=>match ev e ctx x,ev e ctx i with
  | some pv,some ix=>ixW Γ t pv ix H nx
  | _,_=>none
 | .slice t x lo hi none=>match markS o.dst Γ.own with
  | true=>none
  | false=>slZ Γ e ctx t x lo hi H nx
 | .slice t x none (some (.const (.int .i64 (.ofNat 0)))) (some (.const (.int .i64 (.ofNat 0))))=>slE Γ e ctx t x H nx
 | .slice t x none (some hi) (some mx)=>slQ Γ e ctx t x hi mx H nx
 | .indexAddr t (.global g) i=>match ev e ctx i with
  | some ix=>gxR Γ t g ix H nx
  | none=>none
 | .makeMap t none=>mkMap Γ t H nx
 | .pick c x y=>match ev e ctx c with
  | some (.r (.c (.d .bool true)))=>pkR (ev e ctx x) H nx
  | some (.r (.c (.d .bool false)))=>pkR (ev e ctx y) H nx
  | _=>none
 | .mapUpdate t m k v=>match ev e ctx m,ev e ctx k,ev e ctx v with
  | some pm,some pk,some pv=>upMap Γ t pm pk pv H nx
  | _,_,_=>none
 | .insert t m k v=>match ev e ctx m,ev e ctx k,ev e ctx v with
  | some pm,some pk,some pv=>upMap Γ t pm pk pv H nx
  | _,_,_=>none
 | .lookup t m k ok=>match ev e ctx m,ev e ctx k with
  | some pm,some pk=>luMap Γ t pm pk ok H nx
  | _,_=>none
 | .call c=>match c.callee,argsE e ctx c.args.toList with
  | .value f,some args=>match ev e ctx f with
   | some (.r (.c (.sl x es)))=>callSel Γ x es args H nx
   | some (.r (.c (.f g [] [])))=>match args,lk Γ.mps g with
    | [],some es=>some (wn (some ()) () (fun _=>.c (.h nx)) (fun _=>.mp es) H nx)
    | _,_=>callOw Γ g args H nx
   | _=>none
  | _,_=>none
 | _=>none

section
variable {P:Program} {Γ:Tabs} {B:Nat} {S:Cells} {w:World} {η:Eta} {H:PH} {nx:Nat}
theorem bxF_ok {rd:Option Nat} {o:Oper} {e:Ev} {ctx:Ctx} {t:TypeId} {x:Operand} {pv:PV} {R:RdR} (hop:o.op=.box t x) (hw:Wf e) (hc:CtxH e ctx) (hx:ev e ctx x=some pv) (h:bxF Γ o.dst pv H nx=some R) (r:R.T):R.OK P rd B o e (H,nx) r:=by
 have hd:∀ c,o.op≠.defer c:=by rw [hop];intro c hh;cases hh
 unfold bxF at h
 split at h
 ·rename_i v
  split at h
  ·rename_i T _ _
   split at h
   ·rename_i xs hag hxs
    cases h
    refine ok_fl2 rfl hd fun S w η a hi hlen ho=>?_
    have hk0:η nx=none:=hlen nx (nR _) (Nat.lt_succ_self _)
    obtain ⟨us,g3,g4⟩:=RV.cells_sound (ev_sound hw hc hx (by rw [hop];simp [Op.operands]) ho)
    obtain ⟨g1,g2⟩:=flat_new (el:=t) hag hk0 hi (flatOf_vs hxs g4)
    refine ⟨.pointer (some ⟨w.heap.size,0,none⟩),_,S,η.add nx (.pointer (some ⟨w.heap.size,0,none⟩)),.inl (by simp [execOp,hop,Instr.box,newVar,newRow,g3]),g1,.push hk0 _,Out.add _ _ _,?_,?_⟩
    ·show HInv B _ ((nx,.flat xs.length T xs)::H) S _
     exact g2
    ·change ∃ b,_∧_
     exact ⟨w.heap.size,Eta.add_same _ _ _,rfl⟩
   ·cases h
  ·cases h
 ·cases h
theorem ixW_ok (hΓ:TabOK P Γ) {rd:Option Nat} {o:Oper} {e:Ev} {ctx:Ctx} {t:TypeId} {x i:Operand} {pv ix:PV} {R:RdR} (hop:o.op=.index t x i) (hw:Wf e) (hc:CtxH e ctx) (hx:ev e ctx x=some pv) (hi:ev e ctx i=some ix) (h:ixW Γ t pv ix H nx=some R) (r:R.T) (hr:R.m=some r) :
  R.OK P rd B o e (H,nx) r:=by
 have hd:∀ c,o.op≠.defer c:=by rw [hop];intro c hh;cases hh
 have hm1:x∈o.op.operands.toList:=by rw [hop];simp [Op.operands]
 have hm2:i∈o.op.operands.toList:=by rw [hop];simp [Op.operands]
 unfold ixW at h
 split at h
 ·rename_i k m ti l hl
  split at h
  ·rename_i n el hk
   have hkd:=(hΓ.ty _ _ hl).kind
   rw [hk] at hkd
   split at h
   ·rename_i te T _ hte _
    split at h
    ·rename_i xs hTa hxs hlen
     have hlen:=nB hlen
     have hxl:=flatOf_len hxs
     split at h
     ·rename_i hag
      split at h
      ·rename_i hs1
       cases h
       have hs1:=nB hs1
       obtain ⟨h0,h1,h2⟩:=idxM_some hr
       rw [hs1,Nat.mul_one] at hlen
       refine ok_fl1 rfl hd fun S w η a hiv ho=>?_
       obtain ⟨vs,g1,g2⟩:=ev_sound hw hc hx hm1 ho
       obtain ⟨f1,_⟩:=PM.int.1 (ev_sound hw hc hi hm2 ho)
       obtain ⟨v,hv,hm⟩:=(flatOf_vs hxs g2).get _ _ h2
       have hsz:=(hΓ.ty _ _ hte).size w
       have hag':=(hΓ.ty _ _ hte).agg w
       rw [hag] at hag'
       have hlt:m.toNat<vs.length:=(gS.1 hv).1
       refine ⟨v,?_,hm⟩
       have hmn:(m:Int)<(n:Int):=Int.lt_of_lt_of_le h1 (by omega)
       simp [execOp,hop,Instr.index,asIntOf,f1,hkd w,g1,h0,hmn,hsz,hs1,part,hag',hv]
      ·cases h
     ·rename_i hag
      split at h
      ·cases h
      rename_i hpos
      have hpos:=nL hpos
      cases h
      obtain ⟨ys,hys⟩:∃ ys:List T.den,ys=r:=⟨r,rfl⟩
      subst hys
      obtain ⟨b1,b2,b3,hys⟩:=sliceM_some (show sliceM xs (m*te.size) (m*te.size+te.size)=some ys from hr)
      obtain ⟨m',hm'⟩:∃ m':Int,m'=m:=⟨m,rfl⟩
      have h0:0≤m':=by
       rw [← hm'] at b1
       by_cases h:0≤m'
       ·exact h
       ·have:m'*(te.size:Int)<0:=Int.mul_neg_of_neg_of_pos (by omega) (by omega)
        omega
      obtain ⟨q,hq⟩:∃ q:Nat,m'=q:=⟨m'.toNat,by omega⟩
      rw [← hm',hq] at hys b3
      have hqn:q<n:=by
       have h1:((q*te.size+te.size:Nat):Int)≤xs.length:=by push_cast;exact b3
       have h2:(q+1)*te.size≤n*te.size:=by rw [Nat.add_mul];omega
       exact Nat.lt_of_succ_le (Nat.le_of_mul_le_mul_right h2 hpos)
      have e1:((q:Int)*(te.size:Int)).toNat=q*te.size:=by
       rw [← Int.natCast_mul];exact Int.toNat_natCast _
      have e2:((q:Int)*(te.size:Int)+(te.size:Int)).toNat=q*te.size+te.size:=by
       rw [← Int.natCast_mul,← Int.natCast_add];exact Int.toNat_natCast _
      rw [e1,e2] at hys
      have hb4:q*te.size+te.size≤xs.length:=by
       have h1:((q*te.size+te.size:Nat):Int)≤xs.length:=by push_cast;exact b3
       omega
      refine ok_fl1 rfl hd fun S w η a hiv ho=>?_
      obtain ⟨vs,g1,g2⟩:=ev_sound hw hc hx hm1 ho
      obtain ⟨f1,_⟩:=PM.int.1 (ev_sound hw hc hi hm2 ho)
      have f1:a.eval i=.int k (q:Int):=by rw [f1,← hq,hm']
      have hsz:=(hΓ.ty _ _ hte).size w
      have hag':=(hΓ.ty _ _ hte).agg w
      rw [hag] at hag'
      have hxv:=flatOf_vs hxs g2
      have hvl:=hxv.length
      refine ⟨.agg ((vs.drop (q*te.size)).take te.size).toArray,?_,_,rfl,All2.mk (by simp;omega) fun j c v hj hv=>?_⟩
      ·simp [execOp,hop,Instr.index,asIntOf,f1,hkd w,g1,hqn,hsz,part,hag']
      ·have hjl:j<te.size:=by have:=(gS.1 hj).1;simpa using this
       rw [List.getElem?_map,List.getElem?_range hjl] at hj
       cases hj
       rw [List.getElem?_take_of_lt hjl,List.getElem?_drop] at hv
       have hxj:xs[q*te.size+j]? = some (xs[q*te.size+j]'(by omega)):=gE _
       obtain ⟨v',hv',hm⟩:=hxv.get _ _ hxj
       rw [hv] at hv'
       cases hv'
       have:nthD ys j T.dflt=xs[q*te.size+j]'(by omega):=by
        have h5:ys[j]? = some (xs[q*te.size+j]'(by omega)):=by
         rw [hys,List.getElem?_drop,List.getElem?_take_of_lt (by omega)];exact hxj
        simp [nthD,List.getD,h5]
       show CM S w η (.d T (nthD ys j T.dflt)) v
       rw [this];exact hm
    ·cases h
   ·cases h
  ·cases h
 ·cases h
theorem srcOf_sound {T:Ty} {pv:PV} {xs:List T.den} {v:Value} (hi:HInv B η H S w) (h:srcOf H T pv=some xs) (hm:PM S w η pv v):∃ S',HInv B η (dP H pv++H) S' w∧Grow B S w S' w∧VRep S' w (.list T) xs v:=by
 obtain ⟨S',h1,g1⟩:=fzP_sound hi pv
 refine ⟨S',by rw [← fzP_eq];exact h1,g1,conP_sound h1 h (PM.mono g1.keep (.refl _) hm)⟩
theorem slZ_ok (hΓ:TabOK P Γ) {rd:Option Nat} {o:Oper} {e:Ev} {ctx:Ctx} {t:TypeId} {x:Operand} {lo hi_:Option Operand} {R:RdR} (hop:o.op=.slice t x lo hi_ none) (hw:Wf e) (hc:CtxH e ctx) (h:slZ Γ e ctx t x lo hi_ H nx=some R) (r:R.T) (hr:R.m=some r):R.OK P rd B o e (H,nx) r:=by
 have hd:∀ c,o.op≠.defer c:=by rw [hop];intro c hh;cases hh
 unfold slZ at h
 split at h
 ·rename_i el bts T pv hel hx
  split at h
  ·rename_i xs hsrc
   split at h
   ·rename_i li hi hl hh
    cases h
    obtain ⟨ys,hys⟩:∃ ys:List T.den,ys=r:=⟨r,rfl⟩
    subst hys
    obtain ⟨b1,b2,b3,hys⟩:=sliceM_some (show sliceM xs li hi=some ys from hr)
    refine ok_fl2 rfl hd fun S w η a hiv hlen ho=>?_
    obtain ⟨S',h1,g1,hv⟩:=srcOf_sound hiv hsrc (ev_sound hw hc hx (by rw [hop];simp [Op.operands]) ho)
    have hlo:=bndR_sound (a:=a) hw hc ho (fun y hy=>by rw [hop];simp [Op.operands,hy]) hl
    have hhi:=bndR_sound (a:=a) hw hc ho (fun y hy=>by rw [hop];simp [Op.operands,hy]) hh
    obtain ⟨v,q1,q2⟩:=sl_run (elOf_sound hΓ hel) hop hv hlo hhi b1 b2 b3 hys
    exact ⟨v,w,S',η,.inl q1,g1,.refl _,Out.refl _ _ _,h1,rfl,q2⟩
   ·cases h
  ·cases h
 ·cases h
theorem slQ_ok (hΓ:TabOK P Γ) {rd:Option Nat} {o:Oper} {e:Ev} {ctx:Ctx} {t:TypeId} {x hi_ mx:Operand} {R:RdR} (hop:o.op=.slice t x none (some hi_) (some mx)) (hw:Wf e) (hc:CtxH e ctx) (h:slQ Γ e ctx t x hi_ mx H nx=some R) (r:R.T) (hr:R.m=some r):R.OK P rd B o e (H,nx) r:=by
 have hd:∀ c,o.op≠.defer c:=by rw [hop];intro c hh;cases hh
 unfold slQ at h
 split at h
 ·rename_i el bts T pv hel hx
  split at h
  ·rename_i xs hh m hsrc hhi hmx
   cases h
   obtain ⟨ys,hys⟩:∃ ys:List T.den,ys=r:=⟨r,rfl⟩
   subst hys
   have hr':(sameM hh m).bind (fun _=>sliceM xs 0 hh)=some ys:=hr
   obtain ⟨_,hs,hr2⟩:=Option.bind_eq_some_iff.1 hr'
   have hhm:hh=m:=by
    unfold sameM at hs
    split at hs
    ·rename_i hb;exact oD hb
    ·cases hs
   subst hhm
   obtain ⟨b1,b2,b3,hys⟩:=sliceM_some hr2
   refine ok_fl2 rfl hd fun S w η a hiv hlen ho=>?_
   obtain ⟨S',h1,g1,hv⟩:=srcOf_sound hiv hsrc (ev_sound hw hc hx (by rw [hop];simp [Op.operands]) ho)
   obtain ⟨f1,_⟩:=PM.int.1 (ev_sound hw hc hhi (by rw [hop];simp [Op.operands]) ho)
   obtain ⟨f2,_⟩:=PM.int.1 (ev_sound hw hc hmx (by rw [hop];simp [Op.operands]) ho)
   have hI:=elOf_sound hΓ hel
   obtain ⟨base,cap,e1,e2,e3,e4⟩:=VRep.slice hv
   obtain ⟨i,z,i1,i2,i3,i4,i5⟩:=hI.info
   have hsz:(sizeOf el).run P w=.ok T.size w:=by simp [sizeOf,typeInfo,i1,i4]
   obtain ⟨n,hn⟩:∃ n:Nat,hh=(n:Int):=Int.eq_ofNat_of_zero_le b2
   subst hn
   have h2:n≤xs.length:=Int.ofNat_le.1 b3
   simp only [Int.toNat_natCast,Int.toNat_zero,List.drop_zero] at hys
   have hyl:ys.length=n:=by rw [hys];simp;omega
   have hrun:(execOp a.eval o).run P w=.ok (.value (.slice (if n=0 then base else base.map (·.add (0*T.size))) n n)) w:=by
    simp [execOp,hop,e1,f1,f2,Instr.sliceAt,Instr.slice,run_underlying hI.und,Instr.sliceBounds,Instr.sliceBound,asIntOf,hsz,show n≤cap by omega]
   have hbase:(if n=0 then base else base.map (·.add (0*T.size)))=base:=by
    split
    ·rfl
    ·cases base with
     | none=>rfl
     | some b=>obtain ⟨b,o,s⟩:=b;simp [Addr.add]
   rw [hbase] at hrun
   refine ⟨_,w,S',η,.inl hrun,g1,.refl _,Out.refl _ _ _,h1,?_⟩
   show VRep S' w (.list T) ys _∧_
   refine ⟨⟨_,⟨base,n,by rw [hyl],by omega,by omega,?_⟩,rfl⟩,base,by rw [hyl]⟩
   by_cases h0:n=0
   ·left;omega
   ·right
    rcases e4 with e4 | ⟨b,off,rfl,e4⟩
    ·omega
    ·refine ⟨b,off,rfl,fun i y hy=>?_⟩
     rw [hys] at hy
     have hlt:i<n:=by have:=(gS.1 hy).1;simp at this;omega
     rw [List.getElem?_take_of_lt hlt] at hy
     exact e4 _ y hy
  ·cases h
 ·cases h
theorem slE_ok (hΓ:TabOK P Γ) {rd:Option Nat} {o:Oper} {e:Ev} {ctx:Ctx} {t:TypeId} {x:Operand} {R:RdR} (hop:o.op=.slice t x none (some (.const (.int .i64 (.ofNat 0)))) (some (.const (.int .i64 (.ofNat 0))))) (hw:Wf e) (hc:CtxH e ctx) (h:slE Γ e ctx t x H nx=some R) (r:R.T):R.OK P rd B o e (H,nx) r:=by
 have hd:∀ c,o.op≠.defer c:=by rw [hop];intro c hh;cases hh
 unfold slE at h
 split at h
 ·rename_i el bts T pv hel hx
  split at h
  ·rename_i xs hsrc
   cases h
   refine ok_fl1 rfl hd fun S w η a hiv ho=>?_
   obtain ⟨S',h1,g1,hv⟩:=srcOf_sound hiv hsrc (ev_sound hw hc hx (by rw [hop];simp [Op.operands]) ho)
   have hI:=elOf_sound hΓ hel
   obtain ⟨base,cap,e1,e2,e3,e4⟩:=VRep.slice hv
   obtain ⟨i,z,i1,i2,i3,i4,i5⟩:=hI.info
   have hsz:(sizeOf el).run P w=.ok T.size w:=by simp [sizeOf,typeInfo,i1,i4]
   have hrun:(execOp a.eval o).run P w=.ok (.value (.slice base 0 0)) w:=by
    have e0:∀ v:Value,a.eval (.const v)=v:=fun _=>rfl
    simp [execOp,hop,e1,e0,Instr.sliceAt,Instr.slice,run_underlying hI.und,Instr.sliceBounds,Instr.sliceBound,asIntOf,hsz]
   refine ⟨_,hrun,?_⟩
   show VRep S w (.list T) [] _∧_
   exact ⟨⟨_,⟨base,0,rfl,nR _,Nat.zero_le _,.inl rfl⟩,rfl⟩,base,rfl⟩
  ·cases h
 ·cases h
theorem gxR_ok (hΓ:TabOK P Γ) {rd:Option Nat} {o:Oper} {e:Ev} {ctx:Ctx} {t:TypeId} {g:Nat} {i:Operand} {ix:PV} {R:RdR} (hop:o.op=.indexAddr t (.global g) i) (hw:Wf e) (hc:CtxH e ctx) (hi:ev e ctx i=some ix) (h:gxR Γ t g ix H nx=some R) (r:R.T) (hr:R.m=some r) :
  R.OK P rd B o e (H,nx) r:=by
 have hd:∀ c,o.op≠.defer c:=by rw [hop];intro c hh;cases hh
 unfold gxR at h
 split at h
 ·rename_i k m ti G hl hG
  split at h
  ·rename_i n el hk
   have hkd:=(hΓ.ty _ _ hl).kind
   rw [hk] at hkd
   split at h
   ·rename_i te hte
    split at h
    ·rename_i hb
     cases h
     simp only [bA] at hb
     have hb1:=nB hb.1
     have hb2:=nB hb.2
     obtain ⟨h0,h1,h2⟩:=idxM_some hr
     have hmn:(m:Int)<(n:Int):=Int.lt_of_lt_of_le h1 (by omega)
     refine ok_fl1 rfl hd fun S w η a hiv ho=>?_
     obtain ⟨f1,_⟩:=PM.int.1 (ev_sound hw hc hi (by rw [hop];simp [Op.operands]) ho)
     obtain ⟨es,g1,g2⟩:=(hiv.inw.gl g G hG).2 _ _ h2
     have hsz:=(hΓ.ty _ _ hte).size w
     rw [hb1] at hsz
     refine ⟨.pointer (some ⟨g,0+(m:Int).toNat*G.t.size,none⟩),run_ixArr (b:=g) (off:=0) hop (hkd w) hsz rfl f1 h0 hmn,g,_,es,rfl,g1,fun j u hj=>?_⟩
     rw [Nat.zero_add]
     exact g2 j u hj
    ·cases h
   ·cases h
  ·cases h
 ·cases h
theorem isMapf_kind (hΓ:TabOK P Γ) {t:TypeId} (h:isMapf Γ t=true):∃ kt el,(∀ w,(underlying t).run P w=.ok (.map kt el) w)∧(∀ w,(underlying kt).run P w=.ok (.int .i64) w)∧∀ w,(zeroValue el).run P w=.ok .nilFunc w:=by
 unfold isMapf at h
 split at h
 ·rename_i ti hl
  have hk:=(hΓ.ty _ _ hl).kind
  split at h
  ·rename_i hkk
   rw [hkk] at hk
   exact hk
  ·cases h
 ·cases h
theorem mkMap_ok (hΓ:TabOK P Γ) {rd:Option Nat} {o:Oper} {e:Ev} {t:TypeId} {R:RdR} (hop:o.op=.makeMap t none) (h:mkMap Γ t H nx=some R) (r:R.T):R.OK P rd B o e (H,nx) r:=by
 have hd:∀ c,o.op≠.defer c:=by rw [hop];intro c hh;cases hh
 unfold mkMap at h
 split at h
 ·cases h
  refine ok_fl2 rfl hd fun S w η a hi hlen ho=>?_
  have hk0:η nx=none:=hlen nx (nR _) (Nat.lt_succ_self _)
  have hk:Keep S w S (w.alloc (.map #[] 0)):=⟨fun _ _ h=>h,fun b o h=>World.cell?_alloc_lt _ _ _ (hi.inw b o h)⟩
  have hin:InLt S (w.alloc (.map #[] 0)):=fun b o h=>by have:=hi.inw b o h;simp;omega
  refine ⟨.map (some w.heap.size),w.alloc (.map #[] 0),S,η.add nx (.map (some w.heap.size)),.inl ?_,⟨(Below.refl _ _).alloc hi.base _,hk,hin,fun _ _ h=>.inl h,LK.alloc _ _⟩,.push hk0 _,Out.add _ _ _,?_,?_⟩
  ·simp [execOp,hop,Instr.makeMap,newObj,Sem.run,Result.andThen]
  ·show HInv B _ ((nx,.mp [])::H) S _
   exact hi.new hk0 (by simp) hin hk (fun _ _ h=>.inl h) (fun b hb=>Below.heap_alloc _ _ _ hb) (fun b o=>b=w.heap.size) ⟨w.heap.size,#[],0,Eta.add_same _ _ _,fun _ _=>Iff.rfl,(MapKept.heap_alloc w _).1,rfl⟩ fun b o h=>by
    subst h
    exact ⟨nR _,by simp,fun hs=>absurd (hi.inw _ _ hs) (by omega)⟩
  ·change _∧_
   exact ⟨Eta.add_same _ _ _,rfl⟩
 ·cases h
theorem findNow_keys {kt:TypeDesc} (hkt:kt=.int .i64) {x:Int}:∀ {L:List MapEntry} {es:List (Int×Nat)} {i:Nat},L.map (fun e=>(e.key,e.val))=es.map (fun p=>(Value.int .i64 p.1,Value.func (.func p.2) #[] #[])) →
  (freshK es x=true∧Instr.findNow kt (.int .i64 x) L i=some none∧selF es x=.nilFunc)∨(freshK es x=false∧∃ j v,Instr.findNow kt (.int .i64 x) L i=some (some (j,v))∧v=selF es x)
 | [],[],_,_=>.inl ⟨rfl,rfl,rfl⟩
 | [],_::_,_,h=>by simp at h
 | _::_,[],_,h=>by simp at h
 | e::L,(k,g)::es,i,h=>by
  subst hkt
  simp only [List.map_cons,List.cons.injEq,Prod.mk.injEq] at h
  obtain ⟨⟨h1,h2⟩,h3⟩:=h
  unfold Instr.findNow freshK selF
  rw [h1]
  by_cases hx:x=k
  ·subst hx
   right
   refine ⟨by simp,i,e.val,?_,?_⟩
   ·simp [Instr.sameNow]
   ·simp [h2]
  ·have hb:(x==k)=false:=by simpa using hx
   have hs:Instr.sameNow (.int .i64) (.int .i64 x) (.int .i64 k)=some false:=by simp [Instr.sameNow,hb]
   rw [hs]
   simp only [dF hx]
   exact findNow_keys rfl h3
theorem keyM_fresh:∀ (es:List (Int×Nat)) (x:Int),keyM es x=!(freshK es x)
 | [],_=>rfl
 | [(k,_)],x=>by
  show decide (x=k)=!(match decide (x=k) with | true=>false | false=>true)
  cases decide (x=k)<;>rfl
 | (k,_)::q::r,x=>by
  show (decide (x=k)||keyM (q::r) x)=!(match decide (x=k) with | true=>false | false=>freshK (q::r) x)
  rw [keyM_fresh (q::r) x]
  cases decide (x=k)<;>simp
theorem run_checkInt {kt:TypeId} {x:Int} (hk:∀ w,(underlying kt).run P w=.ok (.int .i64) w) (b:Bool):(Instr.checkKey b 10000 kt (.int .i64 x)).run P w=.ok () w:=by
 rw [show (10000:Nat)=9999+1 from rfl]
 unfold Instr.checkKey
 simp [hk w]
theorem putMap_cell {l:Nat} {es es':Array MapEntry} {c c':Nat} (h:w.heap[l]? = some (.map es c)) (b o:Nat):(w.putObj l (.map es' c')).cell? ⟨b,o,none⟩=w.cell? ⟨b,o,none⟩∧(w.putObj l (.map es' c')).frozen? ⟨b,o,none⟩=w.frozen? ⟨b,o,none⟩:=by
 by_cases hb:b=l
 ·subst hb
  have:=World.putObj_heap_same (w:=w) (o:=.map es' c') (aS.1 h).1
  simp [World.cell?,World.frozen?,h,this]
 ·have:=World.putObj_heap_other (w:=w) (r:=l) (o:=.map es' c') hb
  exact ⟨World.cell?_of_block (w:=w) (a:=⟨b,o,none⟩) this,World.frozen?_of_block (w:=w) (a:=⟨b,o,none⟩) this⟩
theorem Grow.putMap {l:Nat} {es es':Array MapEntry} {c c':Nat} (hi:InLt S w) (hB:B≤l) (h:w.heap[l]? = some (.map es c)):Grow B S w S (w.putObj l (.map es' c')):=by
 have hlt:=(aS.1 h).1
 refine ⟨⟨rfl,rfl,rfl,by simp,fun k hk=>World.putObj_heap_other (by omega)⟩,⟨fun _ _ h=>h,fun b o _=>(putMap_cell h b o).1⟩,fun b o h=>by simpa using hi b o h,fun _ _ h=>.inl h,⟨fun b r2 hr=>?_,fun b hb=>?_,fun _=>nR _⟩⟩
 ·by_cases hbl:b=l
  ·subst hbl
   rw [h] at hr
   cases hr
  ·exact ⟨r2,by rw [World.putObj_heap_other hbl];exact hr,rfl,rfl,rfl,rfl,rfl⟩
 ·by_cases hbl:b=l
  ·subst hbl;rw [h] at hb;cases hb
  ·rw [World.putObj_heap_other hbl];exact hb
theorem upMap_ok (hΓ:TabOK P Γ) {rd:Option Nat} {o:Oper} {e:Ev} {ctx:Ctx} {t:TypeId} {m k v:Operand} {pm pk pv:PV} {R:RdR} (hop:o.op=.mapUpdate t m k v∨o.op=.insert t m k v) (hw:Wf e) (hc:CtxH e ctx) (hm:ev e ctx m=some pm) (hk:ev e ctx k=some pk) (hv:ev e ctx v=some pv) (h:upMap Γ t pm pk pv H nx=some R) (r:R.T) :
  R.OK P rd B o e (H,nx) r:=by
 have hd:∀ c,o.op≠.defer c:=by rcases hop with hop | hop<;>(rw [hop];intro c hh;cases hh)
 have hopd:o.op.operands.toList=[m,k,v]:=by rcases hop with hop | hop<;>(rw [hop];rfl)
 unfold upMap at h
 split at h
 ·rename_i id x g
  split at h
  ·rename_i es hl hmf
   split at h
   ·rename_i hfr
    cases h
    obtain ⟨kt,el,k1,k2,k3⟩:=isMapf_kind hΓ hmf
    refine ok_fl2 rfl hd fun S w η a hi hlen ho=>?_
    obtain ⟨u1,_⟩:=ev_sound hw hc hm (by rw [hopd];simp) ho
    obtain ⟨f1,_⟩:=PM.int.1 (ev_sound hw hc hk (by rw [hopd];simp) ho)
    obtain ⟨vf,vc,f2,q1,q2⟩:=ev_sound hw hc hv (by rw [hopd];simp) ho
    cases q1;cases q2
    obtain ⟨F1,hF1,rr,arr,clock,e1,e2,e3,e4⟩:=hi.read hl
    rw [u1] at e1
    have e1:a.eval m=.map (some rr):=Option.some.inj e1
    have hB:B≤rr:=(hF1 rr 0 ((e2 rr 0).2 rfl)).1
    obtain ⟨_,hfn,_⟩:freshK es x=true∧Instr.findNow (.int .i64) (.int .i64 x) arr.toList 0=some none∧selF es x=.nilFunc:=by
     rcases findNow_keys (kt:=.int .i64) rfl (x:=x) (i:=0) e4 with h | ⟨h,_⟩
     ·exact h
     ·rw [hfr] at h;cases h
    have hg:=Grow.putMap (es':=arr.push { key:=.int .i64 x,val:=.func (.func g) #[] #[],born:=clock }) (c':=clock+1) hi.inw hB e3
    refine ⟨undef,_,S,η,.inr ⟨?_,rfl⟩,hg,.refl _,Out.refl _ _ _,?_,trivial⟩
    ·have hput:∀ ob:Obj,({ w with heap:=w.heap.setIfInBounds rr ob }:World)=w.putObj rr ob:=fun _=>rfl
     rcases hop with hop | hop<;>simp [execOp,hop,e1,f1,f2,Instr.mapUpdate,k1 w,MapKept.run_getObj_map e3,run_checkInt k2,Instr.findKey,k2 w,hfn,MapKept.run_setObj_map _ e3,hput]
    ·show HInv B η ((id,.mp (es++[(x,g)]))::H) S _
     refine hi.set hl (by simp) hg.lt hg.keep fun F2 hF2 hP=>?_
     obtain ⟨rr',arr',clock',d1,d2,d3,d4⟩:=hP
     rw [u1,e1] at d1
     cases d1
     rw [e3] at d3
     cases d3
     refine ⟨fun _ _ h=>.inl h,fun b o _ _=>putMap_cell e3 b o,fun b _ hn=>World.putObj_heap_other fun hbl=>hn 0 ((d2 b 0).2 hbl),F2,⟨rr,_,_,by rw [u1,e1],d2,World.putObj_heap_same (aS.1 e3).1,?_⟩,fun b o h=>⟨.inl h,by simpa using (hF2 b o h).2.1,(hF2 b o h).2.2⟩⟩
     simp [d4]
   ·cases h
  ·cases h
 ·cases h
theorem luMap_ok (hΓ:TabOK P Γ) {rd:Option Nat} {o:Oper} {e:Ev} {ctx:Ctx} {t:TypeId} {m k:Operand} {pm pk:PV} {ok:Bool} {R:RdR} (hop:o.op=.lookup t m k ok) (hw:Wf e) (hc:CtxH e ctx) (hm:ev e ctx m=some pm) (hk:ev e ctx k=some pk) (h:luMap Γ t pm pk ok H nx=some R) (r:R.T) :
  R.OK P rd B o e (H,nx) r:=by
 have hd:∀ c,o.op≠.defer c:=by rw [hop];intro c hh;cases hh
 unfold luMap at h
 split at h
 ·rename_i id x
  split at h
  ·rename_i es hl hmf
   obtain ⟨kt,el,k1,k2,k3⟩:=isMapf_kind hΓ hmf
   have key:∀ S w η (a:Act),HInv B η H S w→En.Only (lk e) (opReads o) S w η a.tmps→(execOp a.eval o).run P w=.ok (.value (if ok then .tuple #[selF es x,.bool (keyM es x)] else selF es x)) w:=by
    intro S w η a hi ho
    obtain ⟨u1,_⟩:=ev_sound hw hc hm (by rw [hop];simp [Op.operands]) ho
    obtain ⟨f1,_⟩:=PM.int.1 (ev_sound hw hc hk (by rw [hop];simp [Op.operands]) ho)
    obtain ⟨F1,hF1,rr,arr,clock,e1,e2,e3,e4⟩:=hi.read hl
    rw [u1] at e1
    have e1:a.eval m=.map (some rr):=Option.some.inj e1
    rcases findNow_keys (kt:=.int .i64) rfl (x:=x) (i:=0) e4 with ⟨h1,h2,h3⟩ | ⟨h1,j,v,h2,h3⟩
    ·simp [execOp,hop,e1,f1,Instr.lookup,k1 w,MapKept.run_getObj_map e3,run_checkInt k2,Instr.findKey,k2 w,h2,k3 w,h3,keyM_fresh,h1]
    ·simp [execOp,hop,e1,f1,Instr.lookup,k1 w,MapKept.run_getObj_map e3,run_checkInt k2,Instr.findKey,k2 w,h2,h3,keyM_fresh,h1]
   split at h
   ·cases h
    refine ok_fl1 rfl hd fun S w η a hi ho=>?_
    exact ⟨_,key S w η a hi ho,_,rfl,.cons rfl (.cons ⟨rfl,VRep.bool.2 rfl⟩ .nil)⟩
   ·cases h
    refine ok_fl1 rfl hd fun S w η a hi ho=>?_
    exact ⟨_,key S w η a hi ho,rfl⟩
  ·cases h
 ·cases h
theorem sels_ok {A R:List Ty} {a:Tup (A.map .d)} {x:Int} {r:Tup (R.map .d)}:∀ {es:List (Int×Nat)} {L:List (Int×Option (Tup (R.map .d)))},sels Γ A R a es=some L→selM L x=some r→∃ g m,selF es x=.func (.func g) #[] #[]∧lk Γ.sp g=some ⟨A,R,m⟩∧m a=some r
 | [],L,h,hs=>by cases h;cases hs
 | (k,g)::es,L,h,hs=>by
  unfold sels at h
  split at h
  ·rename_i s hsp
   split at h
   ·rename_i m l hcs hrest
    cases h
    have:=castS_some hcs
    subst this
    unfold selM at hs
    unfold selF
    cases hx:decide (x=k) with
    | true =>
     have hs':cond (decide (x=k)) (m a) (selM l x)=some r:=hs
     rw [hx] at hs'
     exact ⟨g,m,rfl,hsp,hs'⟩
    | false =>
     have hs':cond (decide (x=k)) (m a) (selM l x)=some r:=hs
     rw [hx] at hs'
     exact sels_ok hrest hs'
   ·cases h
  ·cases h
theorem callSel_ok (hΓ:TabOK P Γ) {rd:Option Nat} {o:Oper} {e:Ev} {ctx:Ctx} {c:Call} {f:Operand} {args:List RV} {x:Int} {es:List (Int×Nat)} {R:RdR} (hop:o.op=.call c) (hcal:c.callee=.value f) (ha:argsE e ctx c.args.toList=some args) (hw:Wf e) (hc:CtxH e ctx) (hf:ev e ctx f=some (.r (.c (.sl x es)))) (h:callSel Γ x es args H nx=some R) (r:R.T) (hr:R.m=some r) :
  R.OK P rd B o e (H,nx) r:=by
 unfold callSel at h
 split at h
 ·cases h
 ·rename_i g0 r0
  split at h
  ·rename_i s _
   split at h
   ·rename_i xa hx
    split at h
    ·rename_i L hL
     cases h
     obtain ⟨rr,hrr⟩:∃ rr:Tup (s.res.map .d),rr=r:=⟨r,rfl⟩
     subst hrr
     obtain ⟨g,m,q1,q2,q3⟩:=sels_ok (x:=x) (r:=rr) hL hr
     have hops:o.op.operands.toList=f::c.args.toList:=by simp [hop,Op.operands,Call.operands,hcal]
     show ∀ (S:Cells) (w:World) (η:Eta) (a:Act),HInv B η H S w→En.Only (lk e) (opReads o) S w η a.tmps→_
     intro S w η a hi ho
     have he:a.eval f=.func (.func g) #[] #[]:=by
      have:=ev_sound hw hc hf (by rw [hops];simp) ho
      have h2:a.eval f=selF ((_,g0)::r0) x:=this
      rw [h2,q1]
     have hva:=argsE_sound hw hc ho ha fun x hx=>by rw [hops];simp [hx]
     have hex:(execOp a.eval o).run P w=.ok (.enter g (c.args.toList.map a.eval).toArray) w:=by
      simp [execOp,hop,resolve,hcal,he,Deferred.ofValue,invoke,← Array.toList_map]
      exact hΓ.en g _ q2 _ w
     refine OpW.enter (by simp [hop]) hex ?_
     have hcall:=hΓ.sp g _ q2 xa rr q3 S w η _ hi.inw (conRs_sound (HInv.empty hi.inw) hx hva)
     have hcl:CallsIn (FR rd) 0 P g (c.args.toList.map a.eval).toArray w _:=callsIn_wide (n:=0) |>.2 hcall
     exact hcl.mono fun en w' ⟨v,S',he,hg,hm⟩=>⟨v,he,v,S',rfl,hg,hm⟩
    ·cases h
   ·cases h
  ·cases h
theorem callMap_ok (hΓ:TabOK P Γ) {rd:Option Nat} {o:Oper} {e:Ev} {ctx:Ctx} {c:Call} {f:Operand} {g:FuncId} {es:List (Int×Nat)} (hop:o.op=.call c) (hcal:c.callee=.value f) (ha:argsE e ctx c.args.toList=some []) (hw:Wf e) (hc:CtxH e ctx) (hf:ev e ctx f=some (.r (.c (.f g [] [])))) (hm:lk Γ.mps g=some es) (r:Unit) :
  RdR.OK P rd B o e (H,nx) (wn (some ()) () (fun _=>.c (.h nx)) (fun _=>.mp es) H nx) r:=by
 obtain ⟨hen,hsp⟩:=hΓ.mps g es hm
 have hargs:c.args=#[]:=by
  have:c.args.toList=[]:=by
   cases h:c.args.toList with
   | nil=>rfl
   | cons x l =>
    rw [h] at ha
    unfold argsE at ha
    split at ha
    ·split at ha<;>cases ha
    ·cases ha
  simpa using this
 have hops:o.op.operands.toList=[f]:=by simp [hop,Op.operands,Call.operands,hcal,hargs]
 show ∀ (S:Cells) (w:World) (η:Eta) (a:Act),HInv B η H S w→Free η nx (nx+1)→En.Only (lk e) (opReads o) S w η a.tmps→_
 intro S w η a hi hfree ho
 have hk0:η nx=none:=hfree nx (nR _) (Nat.lt_succ_self _)
 obtain ⟨vf,vc,he,q1,q2⟩:=ev_sound hw hc hf (by rw [hops];simp) ho
 cases q1;cases q2
 have hex:(execOp a.eval o).run P w=.ok (.enter g #[]) w:=by
  simp [execOp,hop,resolve,hcal,he,Deferred.ofValue,invoke,hargs,hen]
 refine OpW.enter (by simp [hop]) hex ?_
 have hcl:CallsIn (FR rd) 0 P g #[] w _:=callsIn_wide (n:=0) |>.2 (hsp S w hi.inw)
 refine hcl.mono fun en w' ⟨b,arr,clock,S',h1,h2,⟨h3,h4,h5⟩,h6,h7⟩=>⟨.map (some b),h1,?_⟩
 refine ⟨.map (some b),S',η.add nx (.map (some b)),rfl,h2.mono hi.base,.push hk0 _,Out.add _ _ _,?_,?_⟩
 ·show HInv B _ ((nx,.mp es)::H) S' w'
  exact hi.new hk0 h2.below.size h2.lt h2.keep h2.new (fun b hb=>h2.below.block b hb) (fun b' o=>b'=b) ⟨b,arr,clock,Eta.add_same _ _ _,fun _ _=>Iff.rfl,h6,h7⟩ fun b' o h=>by
   subst h
   exact ⟨h3,h4,h5 o⟩
 ·change _∧_
  exact ⟨Eta.add_same _ _ _,rfl⟩
theorem callOw_ok (hΓ:TabOK P Γ) {rd:Option Nat} {o:Oper} {e:Ev} {ctx:Ctx} {c:Call} {f:Operand} {g:FuncId} {args:List RV} {R:RdR} (hop:o.op=.call c) (hcal:c.callee=.value f) (ha:argsE e ctx c.args.toList=some args) (hw:Wf e) (hc:CtxH e ctx) (hf:ev e ctx f=some (.r (.c (.f g [] [])))) (h:callOw Γ g args H nx=some R) (r:R.T) (hr:R.m=some r) :
  R.OK P rd B o e (H,nx) r:=by
 unfold callOw at h
 split at h
 ·rename_i s hs
  split at h
  ·rename_i x hx
   cases h
   obtain ⟨ys,hys⟩:∃ ys:List s.t.den,ys=r:=⟨r,rfl⟩
   subst hys
   obtain ⟨hen,hsp⟩:=hΓ.ow g s hs
   have hops:o.op.operands.toList=f::c.args.toList:=by simp [hop,Op.operands,Call.operands,hcal]
   show ∀ (S:Cells) (w:World) (η:Eta) (a:Act),HInv B η H S w→Free η nx (nx+1)→En.Only (lk e) (opReads o) S w η a.tmps→_
   intro S w η a hi0 hfree ho
   have hk0:η nx=none:=hfree nx (nR _) (Nat.lt_succ_self _)
   obtain ⟨vf,vc,he,q1,q2⟩:=ev_sound hw hc hf (by rw [hops];simp) ho
   cases q1;cases q2
   have hva:=argsE_sound hw hc ho ha fun x hx=>by rw [hops];simp [hx]
   have hex:(execOp a.eval o).run P w=.ok (.enter g (c.args.toList.map a.eval).toArray) w:=by
    simp [execOp,hop,resolve,hcal,he,Deferred.ofValue,invoke,← Array.toList_map]
    exact hen _ w
   refine OpW.enter (by simp [hop]) hex ?_
   obtain ⟨S1,hi,g1⟩:=fzRs_sound (l:=args) hi0
   have hcall:=hsp x ys hr S1 w η _ hi.inw (conRs_sound hi hx (hva.mono fun _ _ h=>RM.mono g1.keep (.refl _) h))
   have hcl:CallsIn (FR rd) 0 P g (c.args.toList.map a.eval).toArray w _:=callsIn_wide (n:=0) |>.2 hcall
   refine hcl.mono fun en w' ⟨u,S',F,h1,h2,h3,h4,h5⟩=>⟨u,h1,?_⟩
   refine ⟨u,S',η.add nx u,rfl,g1.trans (h3.mono hi.base),.push hk0 _,Out.add _ _ _,?_,?_⟩
   ·show HInv B _ (((nx,.arr s.t ys)::dRs H args)++H) S' w'
    rw [List.cons_append,← fzRs_eq]
    exact hi.new hk0 h3.below.size h3.lt h3.keep h3.new (fun b hb=>h3.below.block b hb) F ⟨u,Eta.add_same _ _ _,h4⟩ h5
   ·change _∧_
    exact ⟨Eta.add_same _ _ _,h2⟩
  ·cases h
 ·cases h
def owR (H:PH) (t:Ty):Option (List RV)→Option (List t.den)
 | some [.c (.h id)]=>match lk H id with
  | some (.arr T ys)=>castT (.list t) (t':=.list T) ys
  | _=>none
 | some [.c (.l .nilS)]=>some []
 | _=>none
noncomputable def fnOw (F:OpF) (n:Nat) (Γ:Tabs) (own:List Nat) (an:Ann) (fn:Func) (code:Code) (args:List Ty) (t:Ty) (x:Tup (args.map .d)):Option (List t.den) :=
 pc F n { Γ with own:=own } fn.ntmps an code (List t.den) ⟨(numL 0 (rvs args x)).map fun x=>(x.1,.r x.2),[],0⟩ fun ex st=>match ex with
  | .exit _=>none
  | .go _=>none
  | .pan _=>none
  | _=>owR st.hp t (resR Γ st fn.results.toList)
theorem fnOw_ok {P:Program} {Γ:Tabs} (hΓ:TabOK P Γ) {F:OpF} (hS:F.Sound) (hN:F.Nice) {f:FuncId} {fn:Func} {code:Code} {own:List Nat} {an:Ann} {n:Nat} {args:List Ty} {t:Ty} {m:Tup (args.map .d)→Option (List t.den)}
  (hf:lk Γ.fn f=some fn) (hb:fn.body=some code) (hn:Nat.ble args.length fn.ntmps=true) (hen:∀ (args:Array Value) (w:World),(callFunc f args).run P w=.ok (.enter f args) w) (hm:∀ x,fnOw F n Γ own an fn code args t x=m x):OwnOK P f ⟨args,t,m⟩:=by
 refine ⟨hen,fun x r hr S w η vs hi hv=>?_⟩
 have hr:fnOw F n Γ own an fn code args t x=some r:=(hm x).trans hr
 unfold fnOw at hr
 have hΓ':TabOK P { Γ with own:=own }:=⟨hΓ.ty,hΓ.fn,hΓ.sp,hΓ.en,hΓ.mixed,hΓ.so,hΓ.eqs,hΓ.so1,hΓ.mps,hΓ.ow,hΓ.bt,hΓ.ex,hΓ.pp⟩
 have hv0:All2 (RM S w (fun _=>none)) (rvs args x) vs:=rvs_eta hv
 have hc:CallsIn (FR none) 0 P f vs.toArray w fun en w'=>∃ u S' F,en=.returned u∧u.oneCell'=true∧Grow w.heap.size S w S' w'∧ArrH F S' w' u t r∧∀ b o,F b o→w.heap.size≤b∧b<w'.heap.size∧¬ S' b o:=by
  refine body_ok (sound hS hN n).1 hΓ hΓ' hf hb hv0 (by rw [rvs_length];exact nL hn) (.empty hi) (fun _ _=>rfl) hr fun ex st' hk=>?_
  have key:owR st'.hp t (resR Γ st' fn.results.toList)=some r→∃ rs,resR Γ st' fn.results.toList=some rs∧∀ S' w' η' v,HInv w.heap.size η' st'.hp S' w'→(∀ i,st'.nx≤i→η' i=none)→Pre (fun _=>none) η'→(∃ δ,st'.hp=δ++[])→Grow w.heap.size S w S' w'→PM S' w' η' (resPV rs) v →
      ∃ u S' F,Ending.returned v=.returned u∧u.oneCell'=true∧Grow w.heap.size S w S' w'∧ArrH F S' w' u t r∧∀ b o,F b o→w.heap.size≤b∧b<w'.heap.size∧¬ S' b o:=by
   intro hk
   unfold owR at hk
   split at hk
   ·rename_i id hrs
    split at hk
    ·rename_i T ys hl
     obtain ⟨hT,hyx⟩:=castT_some hk
     cases hT
     have hyx:ys=r:=hyx
     subst hyx
     refine ⟨_,hrs,fun S' w' η' v i' _ _ _ gr' hm=>?_⟩
     obtain ⟨F1,hF1,u,e1,e2⟩:=i'.read hl
     have hm1:η' id=some v∧v.oneCell'=true:=hm
     rw [e1] at hm1
     have:=Option.some.inj hm1.1
     subst this
     exact ⟨u,S',F1,rfl,hm1.2,gr',e2,hF1⟩
    ·cases hk
   ·rename_i hrs
    cases hk
    refine ⟨_,hrs,fun S' w' η' v i' _ _ _ gr' hm=>?_⟩
    have hm1:v=.slice none 0 0:=hm
    subst hm1
    exact ⟨_,S',fun _ _=>False,rfl,rfl,gr',⟨none,0,rfl,nR _,Nat.zero_le _,.inl ⟨rfl,fun _ _ h=>h⟩⟩,fun _ _ h=>h.elim⟩
   ·cases hk
  cases ex with
  | norm=>exact ⟨⟨fun i hi=>(by cases hi),fun l hl=>(by cases hl),fun T hT=>(by cases hT)⟩,key hk⟩
  | ret=>exact ⟨⟨fun i hi=>(by cases hi),fun l hl=>(by cases hl),fun T hT=>(by cases hT)⟩,key hk⟩
  | exit i=>cases hk
  | go l=>cases hk
  | pan T=>cases hk
 exact callsIn_wide.1 hc
def Tabs.addOw (Γ:Tabs) (f:FuncId) (s:OwSpec):Tabs:={ Γ with ow:=(f,s)::Γ.ow }
theorem TabOK.addOw {P:Program} {Γ:Tabs} (h:TabOK P Γ) {f:FuncId} {s:OwSpec} (hs:OwnOK P f s):TabOK P (Γ.addOw f s) :=
 ⟨h.ty,h.fn,h.sp,h.en,h.mixed,h.so,h.eqs,h.so1,h.mps,fun g s' hl=>by
  unfold Tabs.addOw at hl
  by_cases hg:f=g
  ·subst hg;rw [lk_same] at hl;cases hl;exact hs
  ·rw [lk_ne _ _ hg] at hl;exact h.ow g s' hl,h.bt,h.ex,h.pp⟩
theorem op6_sound:OpF.Sound op6:=by
 intro P Γ hΓ rd B o e ctx H nx R h hw hc r hr
 unfold op6 at h
 split at h
 ·rename_i t x hop
  split at h
  ·rename_i pv hx;exact bxF_ok hop hw hc hx h r
  ·cases h
 ·rename_i t x i hop
  split at h
  ·rename_i pv ix hx hi;exact ixW_ok hΓ hop hw hc hx hi h r hr
  ·cases h
 ·rename_i t x lo hi hop
  split at h
  ·cases h
  ·exact slZ_ok hΓ hop hw hc h r hr
 ·rename_i t x hop;exact slE_ok hΓ hop hw hc h r
 ·rename_i t x hi mx hop;exact slQ_ok hΓ hop hw hc h r hr
 ·rename_i t g i hop
  split at h
  ·rename_i ix hi;exact gxR_ok hΓ hop hw hc hi h r hr
  ·cases h
 ·rename_i t hop;exact mkMap_ok hΓ hop h r
 ·rename_i c x y hop
  have hd:∀ c,o.op≠.defer c:=by rw [hop];intro c hh;cases hh
  split at h
  ·rename_i hb
   unfold pkR at h
   split at h
   ·rename_i v hx
    cases h
    refine ok_fl1 rfl hd fun S w η a hi ho=>?_
    have hcv:a.eval c=.bool true:=VRep.bool.1 (ev_sound hw hc hb (by rw [hop];simp [Op.operands]) ho).2
    exact ⟨_,by rw [run_pick hop hcv];rfl,ev_sound hw hc hx (by rw [hop];simp [Op.operands]) ho⟩
   ·cases h
  ·rename_i hb
   unfold pkR at h
   split at h
   ·rename_i v hx
    cases h
    refine ok_fl1 rfl hd fun S w η a hi ho=>?_
    have hcv:a.eval c=.bool false:=VRep.bool.1 (ev_sound hw hc hb (by rw [hop];simp [Op.operands]) ho).2
    exact ⟨_,by rw [run_pick hop hcv];rfl,ev_sound hw hc hx (by rw [hop];simp [Op.operands]) ho⟩
   ·cases h
  ·cases h
 ·rename_i t m k v hop
  split at h
  ·rename_i pm pk pv hm hk hv;exact upMap_ok hΓ (.inl hop) hw hc hm hk hv h r
  ·cases h
 ·rename_i t m k v hop
  split at h
  ·rename_i pm pk pv hm hk hv;exact upMap_ok hΓ (.inr hop) hw hc hm hk hv h r
  ·cases h
 ·rename_i t m k ok hop
  split at h
  ·rename_i pm pk hm hk;exact luMap_ok hΓ hop hw hc hm hk h r
  ·cases h
 ·rename_i c hop
  split at h
  ·rename_i f args hcal ha
   split at h
   ·rename_i x es hf;exact callSel_ok hΓ hop hcal ha hw hc hf h r hr
   ·rename_i g hf
    split at h
    ·rename_i es hm
     cases h
     exact callMap_ok hΓ hop hcal ha hw hc hf hm r
    ·exact callOw_ok hΓ hop hcal ha hw hc hf h r hr
   ·cases h
  ·cases h
 ·cases h
end
section
variable {Γ:Tabs} {H H':PH} {nx:Nat} {e:Ev} {ctx:Ctx} {o:Oper}
theorem op6_fl {R:RdR} (h:op6 Γ o e ctx H nx=some R):R.fl≠0:=by
 unfold op6 at h
 split at h
 ·split at h
  ·unfold bxF at h;(repeat' split at h)<;>first | (cases h;exact sZ _) | cases h
  ·cases h
 ·split at h
  ·unfold ixW at h;(repeat' split at h)<;>first | (cases h;exact sZ _) | cases h
  ·cases h
 ·split at h
  ·cases h
  ·unfold slZ at h;(repeat' split at h)<;>first | (cases h;exact sZ _) | cases h
 ·unfold slE at h;(repeat' split at h)<;>first | (cases h;exact sZ _) | cases h
 ·unfold slQ at h;(repeat' split at h)<;>first | (cases h;exact sZ _) | cases h
 ·split at h
  ·unfold gxR at h;(repeat' split at h)<;>first | (cases h;exact sZ _) | cases h
  ·cases h
 ·unfold mkMap at h;(repeat' split at h)<;>first | (cases h;exact sZ _) | cases h
 ·split at h
  ·unfold pkR at h;(repeat' split at h)<;>first | (cases h;exact sZ _) | cases h
  ·unfold pkR at h;(repeat' split at h)<;>first | (cases h;exact sZ _) | cases h
  ·cases h
 ·split at h
  ·unfold upMap at h;(repeat' split at h)<;>first | (cases h;exact sZ _) | cases h
  ·cases h
 ·split at h
  ·unfold upMap at h;(repeat' split at h)<;>first | (cases h;exact sZ _) | cases h
  ·cases h
 ·split at h
  ·unfold luMap at h;(repeat' split at h)<;>first | (cases h;exact sZ _) | cases h
  ·cases h
 ·split at h
  ·split at h
   ·unfold callSel at h;(repeat' split at h)<;>first | (cases h;exact sZ _) | cases h
   ·split at h
    ·cases h;exact sZ _
    ·unfold callOw at h;(repeat' split at h)<;>first | (cases h;exact sZ _) | cases h
   ·cases h
  ·cases h
 ·cases h
theorem upMap_loc {t:TypeId} {m k v:PV} (h:Ag m.ids H H'):upMap Γ t m k v H' nx=upMap Γ t m k v H nx:=by
 unfold upMap
 split
 ·rename_i id x g
  have h1:lk H' id=lk H id:=h.one
  simp only [h1]
 ·rfl
theorem luMap_loc {t:TypeId} {m k:PV} {ok:Bool} (h:Ag m.ids H H'):luMap Γ t m k ok H' nx=luMap Γ t m k ok H nx:=by
 unfold luMap
 split
 ·rename_i id x
  have h1:lk H' id=lk H id:=h.one
  simp only [h1];rfl
 ·rfl
theorem slZ_loc {t:TypeId} {x:Operand} {lo hi:Option Operand} (hm:∀ pv,ev e ctx x=some pv→Ag pv.ids H H'):slZ Γ e ctx t x lo hi H' nx=slZ Γ e ctx t x lo hi H nx:=by
 unfold slZ
 split
 ·rename_i pv _ hx
  simp only [srcOf_loc (hm _ hx),dP_loc (hm _ hx)]
 ·rfl
theorem slE_loc {t:TypeId} {x:Operand} (hm:∀ pv,ev e ctx x=some pv→Ag pv.ids H H'):slE Γ e ctx t x H' nx=slE Γ e ctx t x H nx:=by
 unfold slE
 split
 ·rename_i pv _ hx
  simp only [srcOf_loc (hm _ hx)];rfl
 ·rfl
theorem slQ_loc {t:TypeId} {x hi mx:Operand} (hm:∀ pv,ev e ctx x=some pv→Ag pv.ids H H'):slQ Γ e ctx t x hi mx H' nx=slQ Γ e ctx t x hi mx H nx:=by
 unfold slQ
 split
 ·rename_i pv _ hx
  simp only [srcOf_loc (hm _ hx),dP_loc (hm _ hx)]
 ·rfl
theorem callOw_loc {g:FuncId} {args:List RV} (h1:Ag (RVs.ids args) H H'):callOw Γ g args H' nx=callOw Γ g args H nx:=by
 unfold callOw
 split
 ·rename_i s _
  have h3:conRs (fzRs H' args) s.args args=conRs (fzRs H args) s.args args:=by
   rw [fzRs_eq,fzRs_eq,dRs_loc h1]
   exact conRs_loc (h1.app _)
  rw [h3,dRs_loc h1]
 ·rfl
theorem opIdsH {x:Operand} {r:List Operand} {pv:PV} (ho:o.op.operands.toList=x::r) (hx:ev e ctx x=some pv) (h:Ag (opIds e ctx o) H H'):Ag pv.ids H H':=by
 unfold opIds at h
 rw [ho] at h
 unfold opdIds at h
 rw [hx] at h
 exact h.left
theorem op6_nice:op6.Nice:=by
 constructor
 ·intro Γ o e ctx H H' nx h
  unfold op6
  split
  ·rfl
  ·rfl
  ·rename_i t x lo hi hop
   split
   ·rfl
   ·exact slZ_loc fun pv hx=>opIdsH (r:=lo.toList++hi.toList) (by rw [hop];cases lo<;>cases hi<;>rfl) hx h
  ·rename_i t x hop
   exact slE_loc fun pv hx=>opIdsH (r:=[.const (.int .i64 (.ofNat 0)),.const (.int .i64 (.ofNat 0))]) (by rw [hop];rfl) hx h
  ·rename_i t x hi mx hne hop
   exact slQ_loc fun pv hx=>opIdsH (r:=[hi,mx]) (by rw [hop];rfl) hx h
  ·rfl
  ·rfl
  ·rfl
  ·rename_i t m k v hop
   split
   ·rename_i pm pk pv hm hk hv
    exact upMap_loc (opIdsH (r:=[k,v]) (by rw [hop];rfl) hm h)
   ·rfl
  ·rename_i t m k v hop
   split
   ·rename_i pm pk pv hm hk hv
    exact upMap_loc (opIdsH (r:=[k,v]) (by rw [hop];rfl) hm h)
   ·rfl
  ·rename_i t m k ok hop
   split
   ·rename_i pm pk hm hk
    exact luMap_loc (opIdsH (r:=[k]) (by rw [hop];rfl) hm h)
   ·rfl
  ·rename_i c hop
   split
   ·rename_i f args hcal ha
    have h1:Ag (RVs.ids args) H H':=argsE_ids ha (by
     have h2:Ag (opdIds e ctx (f::c.args.toList)) H H':=by
      have:o.op.operands.toList=f::c.args.toList:=by simp [hop,Op.operands,Call.operands,hcal]
      rw [← this];exact h
     unfold opdIds at h2
     exact h2.right)
    split
    ·rfl
    ·split
     ·rfl
     ·exact callOw_loc h1
    ·rfl
   ·rfl
  ·rfl
 ·intro Γ o e ctx H nx R h h0 H'
  exact absurd h0 (op6_fl h)
end
def OPS6:OpF:=OPS4.or op6
theorem OPS6_sound:OPS6.Sound:=OPS4_sound.or op6_sound
theorem OPS6_nice:OPS6.Nice:=OPS4_nice.or' op6_nice fun Γ o e ctx H nx R h h0 hn H'=>absurd h0 (op6_fl h)

def byteM (s:List UInt8) (i:Int):Option Int:=match decide (0≤i) with
 | true=>match s[i.toNat]? with
  | some b=>some (b.toNat:Int)
  | none=>none
 | false=>none
def catM (x y:List UInt8):Option (List UInt8):=match Nat.ble (x.length+y.length) 9223372036854775807 with
 | true=>some (x++y)
 | false=>none
def sltM (x y:List UInt8):Bool:=Op.bytesLess x y
def stS (op:BinOp) (x y:List UInt8) (H:PH) (nx:Nat):Option RdR:=match op with
 | .add=>some (rdr (catM x y) ([]:List UInt8) (fun r=>.c (.d .str r)) H nx)
 | .eql=>some (rdu (.c (.d .bool (eqsM x y))) H nx)
 | .neq=>some (rdu (.c (.d .bool (notM (eqsM x y)))) H nx)
 | .lss=>some (rdu (.c (.d .bool (sltM x y))) H nx)
 | .leq=>some (rdu (.c (.d .bool (orM (sltM x y) (eqsM x y)))) H nx)
 | .gtr=>some (rdu (.c (.d .bool (notM (orM (sltM x y) (eqsM x y))))) H nx)
 | .geq=>some (rdu (.c (.d .bool (notM (sltM x y)))) H nx)
 | _=>none
def slS (Γ:Tabs) (e:Ev) (ctx:Ctx) (t:TypeId) (x:Operand) (lo hi:Option Operand) (H:PH) (nx:Nat):Option RdR:=match lk Γ.ty t,ev e ctx x with
 | some ti,some (.r (.c (.d .str s)))=>match ti.kind,bndR e ctx 0 lo,bndR e ctx (lenM s) hi with
  | .str,some l,some h=>some (rdr (sliceM s l h) ([]:List UInt8) (fun r=>.c (.d .str r)) H nx)
  | _,_,_=>none
 | _,_=>none
def ixS (Γ:Tabs) (t:TypeId) (x i:Option PV) (H:PH) (nx:Nat):Option RdR:=match lk Γ.ty t,x,i with
 | some ti,some (.r (.c (.d .str s))),some (.r (.c (.d (.int _) n)))=>match ti.kind with
  | .str=>some (rdr (byteM s n) (0:Int) (fun v=>.c (.d (.int .u8) v)) H nx)
  | _=>none
 | _,_,_=>none
section
variable {P:Program} {Γ:Tabs} {B:Nat} {o:Oper} {e:Ev} {ctx:Ctx} {H:PH} {nx:Nat} {S:Cells} {w:World} {η:Eta}
theorem byteM_some {s:List UInt8} {i v:Int} (h:byteM s i=some v):∃ (n:Nat) (b:UInt8),i=n∧s[n]? = some b∧v=(b.toNat:Int):=by
 unfold byteM at h
 split at h
 ·rename_i h0
  have h0:=oD h0
  split at h
  ·rename_i b hb
   cases h
   exact ⟨i.toNat,b,by omega,hb,rfl⟩
  ·cases h
 ·cases h
theorem catM_some {x y r:List UInt8} (h:catM x y=some r):x.length+y.length≤9223372036854775807∧r=x++y:=by
 unfold catM at h
 split at h
 ·rename_i h0
  cases h
  exact ⟨nL h0,rfl⟩
 ·cases h
theorem PM.str {x:List UInt8} {v:Value}:PM S w η (.c (.d .str x)) v↔v=.string ⟨x.toArray⟩∧x.length≤maxLen :=
 ⟨fun h=>VRep.str.1 h.2,fun h=>⟨rfl,VRep.str.2 h⟩⟩
theorem stS_ok {op:BinOp} {t z:TypeId} {x y:Operand} {a b:List UInt8} {rd:Option Nat} {R:RdR} (hop:o.op=.binOp op t x y z) (hw:Wf e) (hc:CtxH e ctx) (hx:ev e ctx x=some (.r (.c (.d .str a)))) (hy:ev e ctx y=some (.r (.c (.d .str b)))) (h:stS op a b H nx=some R) (r:R.T) (hr:R.m=some r):R.OK P rd B o e (H,nx) r:=by
 have hd:∀ c,o.op≠.defer c:=by rw [hop];intro c hh;cases hh
 have hm1:x∈o.op.operands.toList:=by rw [hop];simp [Op.operands]
 have hm2:y∈o.op.operands.toList:=by rw [hop];simp [Op.operands]
 unfold stS at h
 split at h
 ·cases h
  obtain ⟨r',hr'⟩:∃ r':List UInt8,r'=r:=⟨r,rfl⟩
  subst hr'
  refine ok_fl1 rfl hd fun S w η a' hi ho=>?_
  obtain ⟨hv1,_⟩:=PM.str.1 (ev_sound hw hc hx hm1 ho)
  obtain ⟨hv2,_⟩:=PM.str.1 (ev_sound hw hc hy hm2 ho)
  obtain ⟨h1,h2⟩:=catM_some hr
  refine ⟨.string ⟨r'.toArray⟩,?_,PM.str.2 ⟨rfl,by rw [h2,lA];simpa [maxLen] using h1⟩⟩
  have:=run_string_add_sum (P:=P) w ⟨a.toArray⟩ ⟨b.toArray⟩ (by simpa [ByteArray.size] using h1)
  rw [h2]
  simp [execOp,hop,hv1,hv2,eqGuard,binOp_string_add,this,ByteArray.mk_append_mk]
 ·cases h
  refine ok_fl1 rfl hd fun S w η a' hi ho=>?_
  obtain ⟨hv1,_⟩:=PM.str.1 (ev_sound hw hc hx hm1 ho)
  obtain ⟨hv2,_⟩:=PM.str.1 (ev_sound hw hc hy hm2 ho)
  exact ⟨.bool (a==b),by simp [execOp,hop,hv1,hv2,eqGuard,Go.binOp,Op.stringOp,ByteArray.toList_mk],PM.bool.2 (congrArg Value.bool (by rw [Bool.eq_iff_iff];simp [eqsM,notM,orM,sltM]))⟩
 ·cases h
  refine ok_fl1 rfl hd fun S w η a' hi ho=>?_
  obtain ⟨hv1,_⟩:=PM.str.1 (ev_sound hw hc hx hm1 ho)
  obtain ⟨hv2,_⟩:=PM.str.1 (ev_sound hw hc hy hm2 ho)
  exact ⟨.bool (!(a==b)),by simp [execOp,hop,hv1,hv2,eqGuard,Go.binOp,Op.stringOp,ByteArray.toList_mk],PM.bool.2 (congrArg Value.bool (by rw [Bool.eq_iff_iff];simp [eqsM,notM,orM,sltM]))⟩
 ·cases h
  refine ok_fl1 rfl hd fun S w η a' hi ho=>?_
  obtain ⟨hv1,_⟩:=PM.str.1 (ev_sound hw hc hx hm1 ho)
  obtain ⟨hv2,_⟩:=PM.str.1 (ev_sound hw hc hy hm2 ho)
  exact ⟨.bool (Op.bytesLess a b),by simp [execOp,hop,hv1,hv2,eqGuard,Go.binOp,Op.stringOp,ByteArray.toList_mk],PM.bool.2 rfl⟩
 ·cases h
  refine ok_fl1 rfl hd fun S w η a' hi ho=>?_
  obtain ⟨hv1,_⟩:=PM.str.1 (ev_sound hw hc hx hm1 ho)
  obtain ⟨hv2,_⟩:=PM.str.1 (ev_sound hw hc hy hm2 ho)
  exact ⟨.bool (Op.bytesLess a b||a==b),by simp [execOp,hop,hv1,hv2,eqGuard,Go.binOp,Op.stringOp,ByteArray.toList_mk],PM.bool.2 (congrArg Value.bool (by rw [Bool.eq_iff_iff];simp [eqsM,notM,orM,sltM]))⟩
 ·cases h
  refine ok_fl1 rfl hd fun S w η a' hi ho=>?_
  obtain ⟨hv1,_⟩:=PM.str.1 (ev_sound hw hc hx hm1 ho)
  obtain ⟨hv2,_⟩:=PM.str.1 (ev_sound hw hc hy hm2 ho)
  exact ⟨.bool (!(Op.bytesLess a b||a==b)),by simp [execOp,hop,hv1,hv2,eqGuard,Go.binOp,Op.stringOp,ByteArray.toList_mk],PM.bool.2 (congrArg Value.bool (by rw [Bool.eq_iff_iff];simp [eqsM,notM,orM,sltM]))⟩
 ·cases h
  refine ok_fl1 rfl hd fun S w η a' hi ho=>?_
  obtain ⟨hv1,_⟩:=PM.str.1 (ev_sound hw hc hx hm1 ho)
  obtain ⟨hv2,_⟩:=PM.str.1 (ev_sound hw hc hy hm2 ho)
  exact ⟨.bool (!(Op.bytesLess a b)),by simp [execOp,hop,hv1,hv2,eqGuard,Go.binOp,Op.stringOp,ByteArray.toList_mk],PM.bool.2 rfl⟩
 ·cases h
theorem slS_ok (hΓ:TabOK P Γ) {rd:Option Nat} {t:TypeId} {x:Operand} {lo hi_:Option Operand} {R:RdR} (hop:o.op=.slice t x lo hi_ none) (hw:Wf e) (hc:CtxH e ctx) (h:slS Γ e ctx t x lo hi_ H nx=some R) (r:R.T) (hr:R.m=some r):R.OK P rd B o e (H,nx) r:=by
 have hd:∀ c,o.op≠.defer c:=by rw [hop];intro c hh;cases hh
 unfold slS at h
 split at h
 ·rename_i ti s hl hx
  split at h
  ·rename_i l hh hk hlo hhi
   have hkd:=(hΓ.ty _ _ hl).kind
   rw [hk] at hkd
   cases h
   refine ok_fl1 rfl hd fun S w η a hi ho=>?_
   obtain ⟨b1,b2,b3,hys⟩:=sliceM_some hr
   obtain ⟨hv1,hv2⟩:=PM.str.1 (ev_sound hw hc hx (by rw [hop];simp [Op.operands]) ho)
   have hlo:=bndR_sound (a:=a) hw hc ho (fun y hy=>by rw [hop];simp [Op.operands,hy]) hlo
   have hhi:=bndR_sound (a:=a) hw hc ho (fun y hy=>by rw [hop];simp [Op.operands,hy]) hhi
   obtain ⟨l',rfl⟩:∃ l':Nat,l=l':=⟨l.toNat,by omega⟩
   obtain ⟨h',rfl⟩:∃ h':Nat,hh=h':=⟨hh.toNat,by omega⟩
   simp only [Int.toNat_natCast] at hys
   have h1:l'≤h':=by omega
   have h2:h'≤s.length:=by omega
   have hsz:(ByteArray.mk s.toArray).size=s.length:=by simp [ByteArray.size]
   have hex:(ByteArray.mk s.toArray).extract l' h'=ByteArray.mk r.toArray:=by
    rw [Lib.extract_eq,hys]
    simp only [List.drop_take]
   have hrun:(execOp a.eval o).run P w=.ok (.value (.string ((ByteArray.mk s.toArray).extract l' h'))) w:=by
    rcases hlo with ⟨rfl,hl0⟩ | ⟨y,rfl,f0⟩
    ·have hl0:l'=0:=by omega
     subst hl0
     rcases hhi with ⟨rfl,hh0⟩ | ⟨y2,rfl,f1⟩
     ·have hh0:h'=s.length:=by unfold lenM at hh0;omega
      subst hh0
      simp [execOp,hop,hv1,Instr.sliceAt,Instr.slice,hkd w,Instr.sliceBounds,hsz]
      rw [hex,hys]
      simp
     ·simp [execOp,hop,hv1,f1,Instr.sliceAt,Instr.slice,hkd w,Instr.sliceBounds,Instr.sliceBound,asIntOf,hsz,h2]
    ·rcases hhi with ⟨rfl,hh0⟩ | ⟨y2,rfl,f1⟩
     ·have hh0:h'=s.length:=by unfold lenM at hh0;omega
      subst hh0
      simp [execOp,hop,hv1,f0,Instr.sliceAt,Instr.slice,hkd w,Instr.sliceBounds,Instr.sliceBound,asIntOf,hsz,h1]
     ·simp [execOp,hop,hv1,f0,f1,Instr.sliceAt,Instr.slice,hkd w,Instr.sliceBounds,Instr.sliceBound,asIntOf,hsz,h1,h2]
   refine ⟨_,hrun,?_⟩
   rw [hex]
   refine PM.str.2 ⟨rfl,?_⟩
   rw [hys]
   simp only [List.length_drop,lT]
   omega
  ·cases h
 ·cases h
theorem ixS_ok (hΓ:TabOK P Γ) {rd:Option Nat} {t:TypeId} {x i:Operand} {R:RdR} (hop:o.op=.index t x i) (hw:Wf e) (hc:CtxH e ctx) (h:ixS Γ t (ev e ctx x) (ev e ctx i) H nx=some R) (r:R.T) (hr:R.m=some r):R.OK P rd B o e (H,nx) r:=by
 have hd:∀ c,o.op≠.defer c:=by rw [hop];intro c hh;cases hh
 unfold ixS at h
 split at h
 ·rename_i ti s k n hl hx hi
  split at h
  ·rename_i hk
   have hkd:=(hΓ.ty _ _ hl).kind
   rw [hk] at hkd
   cases h
   refine ok_fl1 rfl hd fun S w η a hiv ho=>?_
   obtain ⟨hv1,_⟩:=PM.str.1 (ev_sound hw hc hx (by rw [hop];simp [Op.operands]) ho)
   obtain ⟨hv2,_⟩:=PM.int.1 (ev_sound hw hc hi (by rw [hop];simp [Op.operands]) ho)
   obtain ⟨m,b,rfl,hb,rfl⟩:=byteM_some hr
   have hlt:=(gS.1 hb).1
   have hg:(ByteArray.mk s.toArray)[m]? = some b:=by
    rw [ByteArray.getElem?_lt' _ _ (by simpa [ByteArray.size] using hlt)]
    have:=(gS.1 hb).2
    rw [← this]
    rfl
   refine ⟨.int .u8 b.toNat,by simp [execOp,hop,hv1,hv2,Instr.index,hkd w,asIntOf,hg],PM.int.2 ⟨rfl,has_u8.2 ⟨Int.natCast_nonneg _,?_⟩⟩⟩
   have:=b.toNat_lt
   omega
  ·cases h
 ·cases h
end
def updO (T:Ty) (x:T.den) (k:Int) (T':Ty) (y:T'.den):Nat→Option T.den
 | 0=>none
 | j+1=>bif eqM k (j:Int) then T.upd x j T' y else updO T x k T' y j
theorem updO_some {T T':Ty} {x z:T.den} {k:Int} {y:T'.den}:∀ {n:Nat},updO T x k T' y n=some z→T.upd x k.toNat T' y=some z
 | 0,h=>by cases h
 | j+1,h=>by
  unfold updO at h
  cases e:eqM k (j:Int) with
  | true =>
   rw [e] at h
   have:=oD e
   rw [this,Int.toNat_natCast]
   exact h
  | false =>
   rw [e] at h
   exact updO_some h
def ixO (Γ:Tabs) (t:TypeId) (pv ix:PV) (H:PH) (nx:Nat):Option RdR:=match pv,ix,lk Γ.ty t with
 | .ep id sz i k,.r (.c (.d (.int _) j)),some ti=>match ti.kind with
  | .array n el=>match lk Γ.ty el with
   | some te=>some (rdr (chkM j n) () (fun _=>.eo id sz i ((k:Int)+j*te.size)) H nx)
   | none=>none
  | _=>none
 | _,_,_=>none
def stO (Γ:Tabs) (t:TypeId) (pa pv:PV) (H:PH) (nx:Nat):Option RdR:=match pa,pv,lk Γ.ty t with
 | .eo id sz i k,.r v,some ti=>match lk (fzR H v) id,ti.ty with
  | some (.arr T xs),some T'=>match conR (fzR H v) T' v,Nat.beq sz T.size with
   | some y,true=>some (wr (setM xs i fun x=>updO T x k T' y T.size) xs (fun _=>.any) (fun xs'=>(id,.arr T xs')::dR H v) nx)
   | _,_=>none
  | _,_=>none
 | _,_,_=>none
section
variable {P:Program} {Γ:Tabs} {B:Nat} {o:Oper} {e:Ev} {ctx:Ctx} {H:PH} {nx:Nat} {S:Cells} {w:World} {η:Eta}
theorem ixO_ok (hΓ:TabOK P Γ) {rd:Option Nat} {t:TypeId} {x i:Operand} {pv ix:PV} {R:RdR} (hop:o.op=.indexAddr t x i) (hw:Wf e) (hc:CtxH e ctx) (hx:ev e ctx x=some pv) (hi:ev e ctx i=some ix) (h:ixO Γ t pv ix H nx=some R) (r:R.T) (hr:R.m=some r):R.OK P rd B o e (H,nx) r:=by
 have hd:∀ c,o.op≠.defer c:=by rw [hop];intro c hh;cases hh
 have hm1:x∈o.op.operands.toList:=by rw [hop];simp [Op.operands]
 have hm2:i∈o.op.operands.toList:=by rw [hop];simp [Op.operands]
 unfold ixO at h
 split at h
 ·rename_i id sz i0 k kd j ti hl
  split at h
  ·rename_i n el hk
   have hkd:=(hΓ.ty _ _ hl).kind
   rw [hk] at hkd
   split at h
   ·rename_i te hte
    have hse:=(hΓ.ty _ _ hte).size
    cases h
    obtain ⟨h0,h1⟩:=chk_some hr
    refine ok_fl1 rfl hd fun S w η a hiv ho=>?_
    obtain ⟨b,o',n',cap,g1,g2⟩:=ev_sound hw hc hx hm1 ho
    obtain ⟨f1,_⟩:=PM.int.1 (ev_sound hw hc hi hm2 ho)
    have hcast:((k:Int)+j*te.size).toNat=k+j.toNat*te.size:=by
     obtain ⟨q,rfl⟩:=Int.eq_ofNat_of_zero_le h0
     rw [← Int.natCast_mul,← Int.natCast_add,Int.toNat_natCast];rfl
    refine ⟨_,run_ixArr hop (hkd w) (hse w) g2 f1 h0 h1,b,o',n',cap,g1,Int.add_nonneg (Int.natCast_nonneg _) (Int.mul_nonneg h0 (Int.natCast_nonneg _)),?_⟩
    rw [hcast,Nat.add_assoc (o'+i0.toNat*sz)]
   ·cases h
  ·cases h
 ·cases h
theorem stO_ok (hΓ:TabOK P Γ) {rd:Option Nat} {t:TypeId} {xa xv:Operand} {pa pv:PV} {R:RdR} (hop:o.op=.store t xa xv) (hw:Wf e) (hc:CtxH e ctx) (hxa:ev e ctx xa=some pa) (hxv:ev e ctx xv=some pv) (h:stO Γ t pa pv H nx=some R) (r:R.T) (hr:R.m=some r):R.OK P rd B o e (H,nx) r:=by
 have hd:∀ c,o.op≠.defer c:=by rw [hop];intro c hh;cases hh
 have hm1:xa∈o.op.operands.toList:=by rw [hop];simp [Op.operands]
 have hm2:xv∈o.op.operands.toList:=by rw [hop];simp [Op.operands]
 unfold stO at h
 split at h
 ·rename_i id sz i k v ti hl
  split at h
  ·rename_i T xs T' hlk hT
   split at h
   ·rename_i y hy hsz
    have hsz:=nB hsz
    cases h
    refine ok_fl2 rfl hd fun S w η a hi0 hlen ho=>?_
    obtain ⟨x,z,hgx,hfx,rfl⟩:=setM_some hr
    have hup:=updO_some hfx
    obtain ⟨S1,hi,hg1⟩:=fzR_sound hi0 v
    obtain ⟨b,o',n,cap,g1,_,g2⟩:=ev_sound hw hc hxa hm1 ho
    obtain ⟨us,g3,g4⟩:=conR_sound hi hy (RM.mono hg1.keep (.refl _) (ev_sound hw hc hxv hm2 ho))
    have hI:=hΓ.ty _ _ hl
    obtain ⟨F1,hF1,u,g5,hA⟩:=hi.read hlk
    rw [g1] at g5
    cases g5
    obtain ⟨q1,q2,q3⟩:=ArrH.store hF1 hA hgx hup rfl g3 hi.inw
    rw [← hsz] at q1 q2 q3
    have hul:=g3.length
    have hcells:(a.eval xv).cells=us.toArray:=by rw [g4];exact Ty.wrap_cells g3
    have k3:HInv B η ((id,.arr T (xs.set i.toNat z))::fzR H v) S1 (w.setCells b (o'+i.toNat*sz+k.toNat) us):=by
     refine hi.set hlk (by rw [size_setCells];exact nR _) q2.lt q2.keep fun F2 hF2 hA2=>?_
     obtain ⟨u2,e1,hA2⟩:=hA2
     rw [g1] at e1
     cases e1
     obtain ⟨p1,p2,p3⟩:=ArrH.store hF2 hA2 hgx hup rfl g3 hi.inw
     rw [← hsz] at p1 p2 p3
     refine ⟨fun _ _ h=>.inl h,fun b' o'' hb' hn=>⟨?_,World.frozen?_setCells _ _ _ _ _⟩,fun b' hb' hn=>heap_setCells_ne b us _ w b' fun h=>?_,F2,⟨_,g1,p3⟩,fun b o h=>⟨.inl h,by rw [size_setCells];exact (hF2 b o h).2.1,(hF2 b o h).2.2⟩⟩
     ·refine World.cell?_setCells_out b us _ w ⟨b',o'',none⟩ fun h _=>?_
      simp only at h ⊢
      subst h
      rcases Nat.lt_or_ge o'' (o'+i.toNat*sz+k.toNat) with h | h
      ·exact .inl h
      ·refine .inr (Nat.le_of_not_lt fun hlt=>hn ?_)
       have:=(p1 (o''-(o'+i.toNat*sz+k.toNat)) (by omega)).2
       rwa [show o'+i.toNat*sz+k.toNat+(o''-(o'+i.toNat*sz+k.toNat))=o'' by omega] at this
     ·subst h
      exact hn _ (p1 0 T'.size_pos).2
    exact ⟨undef,_,S1,η,.inr ⟨run_storeV (v:=a.eval xv) hI hop g2 hcells (by rw [hul];exact (hI.ty T' hT).2) g3.oneCell (fun j hj=>(q1 j (by omega)).1),rfl⟩,hg1.trans q2,.refl _,Out.refl _ _ _,(by rw [fzR_eq] at k3;exact k3),trivial⟩
   ·cases h
  ·cases h
 ·cases h
end
def op7:OpF:=fun Γ o e ctx H nx=>match o.op with
 | .binOp op t x y _=>match ev e ctx x,ev e ctx y with
  | some (.r (.c (.d .str a))),some (.r (.c (.d .str b)))=>stS op a b H nx
  | _,_=>none
 | .slice t x lo hi none=>slS Γ e ctx t x lo hi H nx
 | .index t x i=>ixS Γ t (ev e ctx x) (ev e ctx i) H nx
 | .indexAddr t x i=>match ev e ctx x,ev e ctx i with
  | some a,some b=>ixO Γ t a b H nx
  | _,_=>none
 | .store t x y=>match ev e ctx x,ev e ctx y with
  | some a,some b=>stO Γ t a b H nx
  | _,_=>none
 | _=>none
section
variable {Γ:Tabs} {o:Oper} {e:Ev} {ctx:Ctx} {H H':PH} {nx:Nat}
theorem op7_sound:OpF.Sound op7:=by
 intro P Γ hΓ rd B o e ctx H nx R h hw hc r hr
 unfold op7 at h
 split at h
 ·rename_i op t x y z hop
  split at h
  ·rename_i a b hx hy
   exact stS_ok hop hw hc hx hy h r hr
  ·cases h
 ·rename_i t x lo hi hop
  exact slS_ok hΓ hop hw hc h r hr
 ·rename_i t x i hop
  exact ixS_ok hΓ hop hw hc h r hr
 ·rename_i t x i hop
  split at h
  ·rename_i a b hx hy
   exact ixO_ok hΓ hop hw hc hx hy h r hr
  ·cases h
 ·rename_i t x y hop
  split at h
  ·rename_i a b hx hy
   exact stO_ok hΓ hop hw hc hx hy h r hr
  ·cases h
 ·cases h
theorem op7_fl {R:RdR} (h:op7 Γ o e ctx H nx=some R):R.fl≠0:=by
 unfold op7 at h
 split at h
 ·split at h
  ·unfold stS at h;(repeat' split at h)<;>first | (cases h;exact sZ _) | cases h
  ·cases h
 ·unfold slS at h;(repeat' split at h)<;>first | (cases h;exact sZ _) | cases h
 ·unfold ixS at h;(repeat' split at h)<;>first | (cases h;exact sZ _) | cases h
 ·split at h
  ·unfold ixO at h;(repeat' split at h)<;>first | (cases h;exact sZ _) | cases h
  ·cases h
 ·split at h
  ·unfold stO at h;(repeat' split at h)<;>first | (cases h;exact sZ _) | cases h
  ·cases h
 ·cases h
theorem stO_loc {t:TypeId} {pa pv:PV} (h:Ag pa.ids H H') (h2:Ag pv.ids H H'):stO Γ t pa pv H' nx=stO Γ t pa pv H nx:=by
 unfold stO
 generalize lk Γ.ty t=q
 split
 ·rename_i id sz i k v ti
  have h2:Ag v.ids H H':=h2
  have h1:=(fzR_ag h2 h).one
  simp only [dR_loc h2,h1,conR_loc (fzR_ag h2 h2)]
 ·rfl
theorem op7_nice:op7.Nice:=by
 constructor
 ·intro Γ o e ctx H H' nx h
  unfold op7
  split
  ·rfl
  ·rfl
  ·rfl
  ·rfl
  ·rename_i t x y hop
   split
   ·rename_i a b hx hy
    obtain ⟨h1,h2⟩:=opIds2 (x:=x) (y:=y) (by rw [hop];simp [Op.operands]) hx hy h
    exact stO_loc h1 h2
   ·rfl
  ·rfl
 ·intro Γ o e ctx H nx R h h0 H'
  exact absurd h0 (op7_fl h)
end
def OPS7:OpF:=OPS6.or op7
theorem OPS7_sound:OPS7.Sound:=OPS6_sound.or op7_sound
theorem OPS7_nice:OPS7.Nice:=OPS6_nice.or' op7_nice fun Γ o e ctx H nx R h h0 hn H'=>absurd h0 (op7_fl h)
def swM {α:Type} (xss:List (List α)) (i j:Int):Option (List (List α)):=match idxM xss i,idxM xss j with
 | some a,some b=>some ((xss.set i.toNat b).set j.toNat a)
 | _,_=>none
def swT (Γ:Tabs) (t:TypeId) (pa pv:PV) (H:PH) (nx:Nat):Option RdR:=match pa,lk Γ.ty t with
 | .ep id sz i k,some ti=>match Nat.beq sz 1&&(Nat.beq k 0&&(Nat.beq ti.size 1&&!ti.agg)),pv,lk H id with
  | true,.r (.c (.rw id' vid j)),some (.tab T xss vid')=>match Nat.beq id id'&&Nat.beq vid vid' with
   | true=>some (wr (swM xss i j) xss (fun _=>.any) (fun zss=>[(id,.tabs T zss j nx vid i)]) (nx+1))
   | false=>none
  | true,.r (.c (.rw id' vid j)),some (.tabs T xss p vid' vid0 q)=>match Nat.beq id id'&&Nat.beq vid vid0 with
   | true=>some (wr ((sameM j q).bind fun _=>(sameM i p).bind fun _=>chkM i (lenM xss)) () (fun _=>.any) (fun _=>[(id,.tab T xss vid')]) nx)
   | false=>none
  | _,_,_=>none
 | _,_=>none
def catR2 {α:Type} (bts:Nat) (xss yss:List (List α)):Option (List (List α)):=match yss with
 | []=>none
 | _::_=>appM bts xss yss
def opT:OpF:=fun Γ o e ctx _ nx=>match o.op with
 | .assign x=>match tabO o.dst Γ.own,ev e ctx x,elOf Γ o.type with
  | true,some (.r (.c (.l .nilS))),some (_,_,.list T)=>some (wr (some ()) () (fun _=>.c (.h nx)) (fun _=>[(nx,.tab T [] (nx+1))]) (nx+2))
  | _,_,_=>none
 | _=>none
def bsT (Γ:Tabs) (dst:Option Nat) (t:TypeId) (len k:Nat) (pv:PV) (H:PH) (nx:Nat):Option RdR:=match tabO dst Γ.own&&(Nat.beq len 1&&Nat.beq k 0),elOf Γ t,pv with
 | true,some (_,_,.list T),.r (.c (.h j))=>match lk H j with
  | some (.arr T' ys)=>match castT (.list T) (t':=.list T') ys with
   | some ys=>some (wr (some ()) () (fun _=>.c (.h nx)) (fun _=>[(nx,.tab T [ys] (nx+1)),(j,.gone)]) (nx+2))
   | none=>none
  | _=>none
 | _,_,_=>none
def cat2T (Γ:Tabs) (t:TypeId) (ps px:PV) (H:PH) (nx:Nat):Option RdR:=match elOf Γ t,ps,px with
 | some (_,bts,.list T),.r (.c (.h i)),.r (.c (.h j))=>match lk H i,lk H j with
  | some (.tab T1 xss v1),some (.tab T2 yss v2)=>match castT (.list (.list T)) (t':=.list (.list T1)) xss,castT (.list (.list T)) (t':=.list (.list T2)) yss,Nat.beq i j with
   | some xss,some yss,false=>some (wr (catR2 bts xss yss) [] (fun _=>.c (.h nx)) (fun zss=>[(nx,.tab T zss (nx+1)),(i,.gone),(j,.gone)]) (nx+2))
   | _,_,_=>none
  | _,_=>none
 | _,_,_=>none
def opS:OpF:=fun Γ o e ctx H nx=>match o.op with
 | .buildSlice t len parts=>match parts.toList with
  | [(k,x)]=>match ev e ctx x with
   | some pv=>bsT Γ o.dst t len k pv H nx
   | none=>none
  | _=>none
 | .call c=>match c.callee,c.args.toList,c.argTypes.toList with
  | .builtin .append,[s,x],[t,t']=>match ev e ctx s,ev e ctx x,Nat.beq t t' with
   | some ps,some px,true=>cat2T Γ t ps px H nx
   | _,_,_=>none
  | _,_,_=>none
 | .store t a x=>match ev e ctx a,ev e ctx x with
  | some pa,some pv=>swT Γ t pa pv H nx
  | _,_=>none
 | _=>none
def sgm (i j x:Nat):Nat:=if x=j then i else if x=i then j else x
theorem sgm_lt {i j x n:Nat} (hi:i<n) (hj:j<n) (hx:x<n):sgm i j x<n:=by unfold sgm;split<;>(try split)<;>omega
theorem sgm_sgm (i j x:Nat):sgm i j (sgm i j x)=x:=by unfold sgm;(repeat' split)<;>omega
theorem sw_get {α:Type} {xss:List (List α)} {i j:Nat} (hi:i<xss.length) (hj:j<xss.length) (x:Nat):((xss.set i (xss.getD j [])).set j (xss.getD i []))[x]? = xss[sgm i j x]? := by
 have gi:xss.getD i []=xss[i]:=by simp [List.getD_eq_getElem?_getD,hi]
 have gj:xss.getD j []=xss[j]:=by simp [List.getD_eq_getElem?_getD,hj]
 unfold sgm
 by_cases e1:x=j
 ·rw [if_pos e1,e1,List.getElem?_set_self (by rw [List.length_set];exact hj),gi,gE hi]
 ·rw [if_neg e1,List.getElem?_set_ne (by omega)]
  by_cases e2:x=i
  ·rw [if_pos e2,e2,List.getElem?_set_self hi,gj,gE hj]
  ·rw [if_neg e2,List.getElem?_set_ne (by omega)]
section
variable {B:Nat} {S S':Cells} {w w':World} {η η':Eta} {H H':PH} {F:Cells}
theorem TabH.swapw {u:Value} {T:Ty} {xss:List (List T.den)} {us:Nat→Value} {b o n cap i j:Nat} (hF:∀ b o,F b o→B≤b∧b<w.heap.size∧¬ S b o) (hin:InLt S w) (h:TabH F S w u T xss us none) (hu:u=.slice (some ⟨b,o,none⟩) n cap) (hi:i<xss.length) (hj:j<xss.length) :
  World.there w b (o+i)∧F b (o+i)∧(us j).oneCell'=true∧Grow B S w S (w.setCells b (o+i) [us j])∧TabH F S (w.setCells b (o+i) [us j]) u T ((xss.set i (xss.getD j [])).set j (xss.getD i [])) (fun x=>us (sgm i j x)) (some j):=by
 obtain ⟨base,cap',e,hlc,hm,h2⟩:=h
 rcases h2 with ⟨h2,_⟩ | ⟨b',off,rfl,hth0,Fs,hf,hd1,hd2,hx⟩
 ·omega
 rw [hu] at e
 injection e with e1 e4 e5
 injection e1 with e1
 injection e1 with e2 e3
 subst e2;subst e3
 have hgi:xss[i]? = some (xss.getD i []):=by simp [List.getD_eq_getElem?_getD,hi]
 have hgj:xss[j]? = some (xss.getD j []):=by simp [List.getD_eq_getElem?_getD,hj]
 have hown:F b (o+i):=(hf _ _).2 (.inl ⟨rfl,by omega,by omega⟩)
 obtain ⟨hth,_,_⟩:=hx i _ hgi
 obtain ⟨_,haj,_⟩:=hx j _ hgj
 obtain ⟨_,_,_,_,hone⟩:=haj.hdr
 have hg:Grow B S w S (w.setCells b (o+i) [us j]):=Grow.stored hin (hF _ _ hown).1 fun m hm=>by
  simp at hm;subst hm;rw [Nat.add_zero];exact (hF _ _ hown).2.2
 have hout:∀ b' o',¬ (b'=b∧o'=o+i)→(w.setCells b (o+i) [us j]).cell? ⟨b',o',none⟩=w.cell? ⟨b',o',none⟩∧(w.setCells b (o+i) [us j]).frozen? ⟨b',o',none⟩=w.frozen? ⟨b',o',none⟩:=by
  intro b' o' hn
  refine ⟨World.cell?_setCells_out b _ _ w ⟨b',o',none⟩ fun h _=>?_,World.frozen?_setCells _ _ _ _ _⟩
  simp only [List.length_singleton] at h ⊢
  subst h
  have:o'≠o+i:=fun h=>hn ⟨rfl,h⟩
  omega
 have hcr:(w.setCells b (o+i) [us j]).cell? ⟨b,o+i,none⟩=some (us j):=by
  have:=World.cell?_setCells_in b [us j] (o+i) w (fun m hm=>by
   simp at hm;subst hm;rw [Nat.add_zero];obtain ⟨z,hz⟩:=hth.1;rw [hz];rfl) 0 (by simp)
  simpa using this
 have hthc:∀ o',o≤o'→o'<o+cap'→World.there (w.setCells b (o+i) [us j]) b o':=fun o' h1 h2=>by
  obtain ⟨⟨z,hz⟩,hfz⟩:=hth0 o' h1 h2
  refine ⟨?_,by rw [World.frozen?_setCells];exact hfz⟩
  by_cases ho:o'=o+i
  ·subst ho;exact ⟨_,hcr⟩
  ·exact ⟨z,by rw [(hout b o' (by omega)).1];exact hz⟩
 have hlen:((xss.set i (xss.getD j [])).set j (xss.getD i [])).length=xss.length:=by simp
 refine ⟨hth,hown,hone,hg,_,cap',by rw [hu,e4,e5,hlen],by rw [hlen];exact hlc,hm,.inr ⟨b,o,rfl,hthc,fun x=>Fs (sgm i j x),fun b' o'=>?_,fun x hxl b' o' h=>?_,fun x y hxl hyl hxy b' o' h1 h2=>?_,fun x xs hxs=>?_⟩⟩
 ·rw [hlen,hf]
  refine or_congr Iff.rfl ⟨fun ⟨x,h1,h2⟩=>⟨sgm i j x,sgm_lt hi hj h1,by show Fs (sgm i j (sgm i j x)) b' o';rw [sgm_sgm];exact h2⟩,fun ⟨x,h1,h2⟩=>⟨sgm i j x,sgm_lt hi hj h1,h2⟩⟩
 ·rw [hlen] at hxl
  exact hd1 _ (sgm_lt hi hj hxl) b' o' h
 ·rw [hlen] at hxl hyl
  refine hd2 _ _ (sgm_lt hi hj hxl) (sgm_lt hi hj hyl) (fun e=>hxy ?_) b' o' h1 h2
  rw [← sgm_sgm i j x,e,sgm_sgm]
 ·rw [sw_get hi hj] at hxs
  have hsl:sgm i j x<xss.length:=(gS.1 hxs).1
  have hxl:x<xss.length:=by have:=sgm_lt hi hj hsl;rwa [sgm_sgm] at this
  have hxx:xss[x]? = some (xss.getD x []):=by simp [List.getD_eq_getElem?_getD,hxl]
  obtain ⟨_,has,_⟩:=hx _ _ hxs
  obtain ⟨⟨⟨z,hz⟩,hfz⟩,_,hne⟩:=hx x _ hxx
  have hex:∃ z,(w.setCells b (o+i) [us j]).cell? ⟨b,o+x,none⟩=some z:=by
   by_cases hxi:x=i
   ·rw [hxi];exact ⟨_,hcr⟩
   ·exact ⟨z,by rw [(hout b (o+x) (by omega)).1];exact hz⟩
  refine ⟨⟨hex,by rw [World.frozen?_setCells];exact hfz⟩,has.frame ⟨fun b' o' h=>hout b' o' fun hc=>hd1 _ hsl b' o' h ⟨hc.1,by omega,by omega⟩,fun b' rr _ h hrr=>?_⟩ hg.keep,fun hp=>?_⟩
  ·rw [heap_setCells_ne _ _ _ _ _ fun hb=>hd1 _ hsl b' (o+i) (h _) ⟨hb,by omega,by omega⟩];exact hrr
  ·have hxj:x≠j:=fun e=>hp (by rw [e])
   by_cases hxi:x=i
   ·subst hxi
    have:sgm x j x=j:=by unfold sgm;rw [if_neg hxj,if_pos rfl]
    show _=some (us (sgm x j x))
    rw [this];exact hcr
   ·have:sgm i j x=x:=by unfold sgm;rw [if_neg hxj,if_neg hxi]
    show _=some (us (sgm i j x))
    rw [this,(hout b (o+x) (by omega)).1]
    exact hne (by simp)
end
section
variable {P:Program} {B:Nat} {S S':Cells} {w w':World} {F F2:Cells}
theorem TabH.parts {u:Value} {T:Ty} {xss:List (List T.den)} {us:Nat→Value} (h:TabH F S w u T xss us none):∃ base cap,∃ Fs:Nat→Cells,u=.slice base xss.length cap∧xss.length≤cap∧cap≤maxLen∧(∀ i,i<xss.length→∀ b o,Fs i b o→F b o) ∧
  (∀ i j,i<xss.length→j<xss.length→i≠j→∀ b' o,Fs i b' o→¬ Fs j b' o)∧(∀ (i:Nat) (xs:List T.den),xss[i]? = some xs→ArrH (Fs i) S w (us i) T xs) ∧
  (xss.length=0∨∃ b off,base=some ⟨b,off,none⟩∧∀ i,i<xss.length→w.cell? ⟨b,off+i,none⟩=some (us i)):=by
 obtain ⟨base,cap,e,h1,h2,h3⟩:=h
 rcases h3 with ⟨h3,_⟩ | ⟨b,off,rfl,_,Fs,hf,hd1,hd2,hx⟩
 ·have h0:xss.length=0:=by omega
  exact ⟨base,cap,fun _ _ _=>False,e,h1,h2,fun _ _ _ _ h=>h.elim,fun _ _ _ _ _ _ _ h=>h.elim,fun i xs hi=>by
   have:=(gS.1 hi).1;omega,.inl h0⟩
 ·exact ⟨_,cap,Fs,e,h1,h2,fun i hi b' o h=>(hf _ _).2 (.inr ⟨i,hi,h⟩),hd2,fun i xs hi=>(hx i xs hi).2.1,.inr ⟨b,off,rfl,fun i hi=>(hx i _ (gE hi)).2.2 (by simp)⟩⟩
theorem TabH.run {α:Type} {u:Value} {xss:List (List α)} {us:Nat→Value} {base:Option Addr} {cap:Nat} (hone:∀ i,i<xss.length→(us i).oneCell'=true)
  (hc:xss.length=0∨∃ b off,base=some ⟨b,off,none⟩∧∀ i,i<xss.length→w.cell? ⟨b,off+i,none⟩=some (us i)) (w':World) (hw:∀ a,w'.cell? a=w.cell? a) :
  (Builtin.firstCells 1 xss.length (.slice base xss.length cap)).run P w'=.ok ((List.range xss.length).map us).toArray w':=by
 rcases hc with h0 | ⟨b,off,rfl,hc⟩
 ·rw [h0]
  cases base with
  | none=>exact run_firstCells_none _ _ _ _ _
  | some a=>exact run_firstCells_some _ _ _ _ _ _ [] (by simp) (fun j u hj=>by simp at hj)
 ·refine run_firstCells_some _ _ _ _ _ _ _ (by simp) fun j v hj=>?_
  obtain ⟨hjl,rfl⟩:=gS.1 hj
  simp only [List.length_map,List.length_range] at hjl
  rw [hw,Addr.add_lit]
  simp only [List.getElem_map,List.getElem_range]
  exact hc j hjl
theorem TabH.src {α:Type} {id el:TypeId} (hu:P.underlying id=some (.slice el)) {xss:List (List α)} {us:Nat→Value} {base:Option Addr} {cap:Nat} (hone:∀ i,i<xss.length→(us i).oneCell'=true)
  (hc:xss.length=0∨∃ b off,base=some ⟨b,off,none⟩∧∀ i,i<xss.length→w.cell? ⟨b,off+i,none⟩=some (us i)):Src P 1 id (.slice base xss.length cap) xss.length ((List.range xss.length).map us) w :=
 ⟨.inl ⟨el,hu⟩,fun _=>rfl,TabH.run (u:=undef) hone hc w fun _=>rfl,TabH.run (u:=undef) hone hc w.drew fun _=>by simp,by simp,fun u hu=>by
  obtain ⟨i,hi,rfl⟩:=List.mem_map.1 hu
  exact hone i (by simpa using hi)⟩
theorem TabH.mk2 {T:Ty} {xss yss:List (List T.den)} {us us2:Nat→Value} {b off cap:Nat} (Fs Fs2:Nat→Cells) (hlc:(xss++yss).length≤cap) (hm:cap≤maxLen) (hth:∀ o,off≤o→o<off+cap→World.there w b o)
  (hn1:∀ i,i<xss.length→∀ b' o,Fs i b' o→¬ (b'=b∧off≤o∧o<off+cap)) (hn2:∀ i,i<yss.length→∀ b' o,Fs2 i b' o→¬ (b'=b∧off≤o∧o<off+cap))
  (hd1:∀ i j,i<xss.length→j<xss.length→i≠j→∀ b' o,Fs i b' o→¬ Fs j b' o) (hd2:∀ i j,i<yss.length→j<yss.length→i≠j→∀ b' o,Fs2 i b' o→¬ Fs2 j b' o)
  (hd12:∀ i j,i<xss.length→j<yss.length→∀ b' o,Fs i b' o→¬ Fs2 j b' o)
  (hA:∀ (i:Nat) (xs:List T.den),xss[i]? = some xs→ArrH (Fs i) S w (us i) T xs∧w.cell? ⟨b,off+i,none⟩=some (us i))
  (hA2:∀ (i:Nat) (xs:List T.den),yss[i]? = some xs→ArrH (Fs2 i) S w (us2 i) T xs∧w.cell? ⟨b,off+(xss.length+i),none⟩=some (us2 i)) :
  TabH (fun b' o=>(b'=b∧off≤o∧o<off+cap)∨(∃ i,i<xss.length∧Fs i b' o)∨∃ i,i<yss.length∧Fs2 i b' o) S w (.slice (some ⟨b,off,none⟩) (xss++yss).length cap) T (xss++yss) (fun i=>if i<xss.length then us i else us2 (i-xss.length)) none:=by
 have hlen:(xss++yss).length=xss.length+yss.length:=lA
 let Fs':Nat→Cells:=fun i=>if i<xss.length then Fs i else Fs2 (i-xss.length)
 refine ⟨_,cap,rfl,hlc,hm,.inr ⟨b,off,rfl,hth,Fs',fun b' o=>or_congr Iff.rfl ⟨?_,?_⟩,fun i hi b' o h=>?_,fun i j hi hj hij b' o h1 h2=>?_,fun i xs hi=>?_⟩⟩
 ·rintro (⟨i,hi,h⟩ | ⟨i,hi,h⟩)
  ·exact ⟨i,by omega,by simp only [Fs',if_pos hi];exact h⟩
  ·refine ⟨xss.length+i,by omega,?_⟩
   simp only [Fs',if_neg (show ¬ xss.length+i<xss.length by omega),Nat.add_sub_cancel_left];exact h
 ·rintro ⟨i,hi,h⟩
  by_cases hx:i<xss.length
  ·simp only [Fs',if_pos hx] at h;exact .inl ⟨i,hx,h⟩
  ·simp only [Fs',if_neg hx] at h;exact .inr ⟨i-xss.length,by omega,h⟩
 ·by_cases hx:i<xss.length
  ·simp only [Fs',if_pos hx] at h;exact hn1 i hx b' o h
  ·simp only [Fs',if_neg hx] at h;exact hn2 _ (by omega) b' o h
 ·by_cases hx:i<xss.length<;>by_cases hy:j<xss.length
  ·simp only [Fs',if_pos hx] at h1;simp only [Fs',if_pos hy] at h2;exact hd1 i j hx hy hij b' o h1 h2
  ·simp only [Fs',if_pos hx] at h1;simp only [Fs',if_neg hy] at h2;exact hd12 i _ hx (by omega) b' o h1 h2
  ·simp only [Fs',if_neg hx] at h1;simp only [Fs',if_pos hy] at h2;exact hd12 j _ hy (by omega) b' o h2 h1
  ·simp only [Fs',if_neg hx] at h1;simp only [Fs',if_neg hy] at h2;exact hd2 _ _ (by omega) (by omega) (by omega) b' o h1 h2
 ·have hil:i<(xss++yss).length:=(gS.1 hi).1
  refine ⟨hth _ (by omega) (by omega),?_⟩
  by_cases hx:i<xss.length
  ·rw [xL hx] at hi
   simp only [Fs',if_pos hx]
   exact ⟨(hA i xs hi).1,fun _=>(hA i xs hi).2⟩
  ·rw [xR (by omega)] at hi
   simp only [Fs',if_neg hx]
   refine ⟨(hA2 _ xs hi).1,fun _=>?_⟩
   have:=(hA2 _ xs hi).2
   rwa [show xss.length+(i-xss.length)=i by omega] at this
theorem TabH.append {u x:Value} {id el ty:TypeId} {T:Ty} {bts:Nat} {xss yss:List (List T.den)} {us us2:Nat→Value} (hI:SlP P id el (.list T) bts) (hB:B≤w.heap.size) (hF:∀ b o,F b o→B≤b∧b<w.heap.size∧¬ S b o) (hF2:∀ b o,F2 b o→B≤b∧b<w.heap.size∧¬ S b o)
  (hd:∀ b o,F b o→¬ F2 b o) (hin:InLt S w) (h:TabH F S w u T xss us none) (h2:TabH F2 S w x T yss us2 none) (hy:0<yss.length) (hb:(xss.length+yss.length)*bts≤140737488355328) :
  ∃ (v:Value) (w':World) (F':Cells),(Builtin.append_ #[id,id] ty #[u,x]).run P w=.ok v w'∧v.oneCell'=true ∧
   Grow B S w S w'∧TabH F' S w' v T (xss++yss) (fun i=>if i<xss.length then us i else us2 (i-xss.length)) none∧(∀ b o,F' b o→(F b o∨F2 b o∨w.heap.size≤b)∧b<w'.heap.size∧¬ S b o) ∧
   (∀ b o,b<w.heap.size→¬ F b o→w'.cell? ⟨b,o,none⟩=w.cell? ⟨b,o,none⟩∧w'.frozen? ⟨b,o,none⟩=w.frozen? ⟨b,o,none⟩) ∧
   ∀ b,b<w.heap.size→(∀ o,¬ F b o)→w'.heap[b]? = w.heap[b]? := by
 obtain ⟨base2,cap2,Fs2,rfl,_,_,s2,d2,A2,c2⟩:=h2.parts
 have hone2:∀ i,i<yss.length→(us2 i).oneCell'=true:=fun i hi=>by
  obtain ⟨_,_,_,_,h⟩:=(A2 i _ (gE hi)).hdr;exact h
 have hsrc:Src P 1 id (.slice base2 yss.length cap2) yss.length ((List.range yss.length).map us2) w:=TabH.src hI.und hone2 c2
 obtain ⟨base,cap,Fs,e0,hlc0,hm0,s1,d1,A1,c1⟩:=h.parts
 have hone1:∀ i,i<xss.length→(us i).oneCell'=true:=fun i hi=>by
  obtain ⟨_,_,_,_,h⟩:=(A1 i _ (gE hi)).hdr;exact h
 obtain ⟨i,z,i1,i2,i3,i4,i5⟩:=hI.info
 have i4:i.size=1:=i4
 by_cases hroom:xss.length+yss.length≤cap
 ·obtain ⟨base',cap',e,hlc,hm,h3⟩:=h
  rw [e0] at e
  injection e with e1 _ e3
  subst e1;subst e3;subst e0
  rcases h3 with ⟨h3,_⟩ | ⟨b,off,rfl,hth,Fs,hf,hd1,hd2,hx⟩
  ·omega
  have hown:∀ m,m<yss.length→F b (off+xss.length+m):=fun m hm=>(hf _ _).2 (.inl ⟨rfl,by omega,by omega⟩)
  have hthm:∀ m,m<yss.length→World.there w b (off+xss.length+m):=fun m hm=>hth _ (by omega) (by omega)
  have hrun:(Builtin.append_ #[id,id] ty #[.slice (some ⟨b,off,none⟩) xss.length cap,.slice base2 yss.length cap2]).run P w=.ok (.slice (some ⟨b,off,none⟩) (xss.length+yss.length) cap) (w.setCells b (off+xss.length) ((List.range yss.length).map us2)):=by
   have:=run_append_room_src (P:=P) w id id ty el i hI.und i1 b off xss.length cap _ yss.length _ (i4▸hsrc) hroom (fun m hm=>by
    simp only [List.length_map,List.length_range] at hm
    rw [i4,Nat.mul_one];obtain ⟨⟨v,hv⟩,_⟩:=hthm m hm;rw [hv];rfl) (fun m hm=>by
    simp only [List.length_map,List.length_range] at hm
    rw [i4,Nat.mul_one];exact (hthm m hm).2)
   rw [i4,Nat.mul_one] at this;exact this
  generalize hW:w.setCells b (off+xss.length) ((List.range yss.length).map us2)=W at hrun
  have hb0:=hF b _ (hown 0 hy)
  have hg:Grow B S w S W:=by
   subst hW
   exact Grow.stored hin hb0.1 fun m hm=>by
    simp only [List.length_map,List.length_range] at hm
    exact (hF _ _ (hown m hm)).2.2
  have hsz:W.heap.size=w.heap.size:=by subst hW;exact size_setCells _ _ _ _
  have hfr:∀ a,W.frozen? a=w.frozen? a:=fun a=>by subst hW;exact World.frozen?_setCells _ _ _ _ _
  have hcells:∀ m,m<yss.length→W.cell? ⟨b,off+(xss.length+m),none⟩=some (us2 m):=fun m hm=>by
   subst hW
   have:=World.cell?_setCells_in b ((List.range yss.length).map us2) (off+xss.length) w (fun m hm=>by
    simp only [List.length_map,List.length_range] at hm
    obtain ⟨⟨v,hv⟩,_⟩:=hthm m hm;rw [hv];rfl) m (by simpa using hm)
   rw [← Nat.add_assoc,this]
   simp
  have hout:∀ b' o,¬ (b'=b∧off+xss.length≤o∧o<off+xss.length+yss.length)→W.cell? ⟨b',o,none⟩=w.cell? ⟨b',o,none⟩:=fun b' o hn=>by
   subst hW
   refine World.cell?_setCells_out b _ _ w ⟨b',o,none⟩ fun h _=>?_
   simp only [List.length_map,List.length_range] at h ⊢
   subst h
   rcases Nat.lt_or_ge o (off+xss.length) with h | h
   ·exact .inl h
   ·exact .inr (Nat.le_of_not_lt fun hlt=>hn ⟨rfl,h,hlt⟩)
  have hheap:∀ b',b'≠b→W.heap[b']? = w.heap[b']? := fun b' hb'=>by subst hW;exact heap_setCells_ne b _ _ w b' hb'
  have hinF:∀ b' o,(b'=b∧off+xss.length≤o∧o<off+xss.length+yss.length)→F b' o:=fun b' o h=>(hf _ _).2 (.inl ⟨h.1,by omega,by omega⟩)
  have hrow:∀ (G:Cells) (v:Value) (ys:List T.den),ArrH G S w v T ys→(∀ b' o,G b' o→¬ (b'=b∧off≤o∧o<off+cap))→ArrH G S W v T ys:=fun G v ys hA hG =>
   hA.frame ⟨fun b' o h=>⟨hout b' o fun hc=>hG b' o h ⟨hc.1,by omega,by omega⟩,hfr _⟩,fun b' rr _ h hrr=>by
    rw [hheap b' fun hb=>hG b' (off+xss.length) (h _) ⟨hb,by omega,by omega⟩];exact hrr⟩ hg.keep
  have hn2:∀ i,i<yss.length→∀ b' o,Fs2 i b' o→¬ (b'=b∧off≤o∧o<off+cap):=fun i hi b' o h hc=>hd b' o ((hf _ _).2 (.inl hc)) (s2 i hi b' o h)
  refine ⟨_,W,fun b' o=>(b'=b∧off≤o∧o<off+cap)∨(∃ i,i<xss.length∧Fs i b' o)∨∃ i,i<yss.length∧Fs2 i b' o,hrun,rfl,hg,?_,fun b' o h=>?_,fun b' o hb' hn=>⟨hout b' o fun hc=>hn (hinF b' o hc),hfr _⟩,fun b' hb' hn=>hheap b' fun hbb=>hn (off+xss.length) (hinF _ _ ⟨hbb,by omega,by omega⟩)⟩
  ·rw [← lA]
   refine TabH.mk2 Fs Fs2 (by rw [lA];exact hroom) hm (fun o h1 h2=>?_) hd1 hn2 hd2 d2 (fun i j hi hj b' o h1 h2=>hd b' o ((hf _ _).2 (.inr ⟨i,hi,h1⟩)) (s2 j hj b' o h2)) (fun i xs hi=>?_) fun i xs hi=>?_
   ·obtain ⟨⟨z,hz⟩,hfz⟩:=hth o h1 h2
    refine ⟨?_,by rw [hfr];exact hfz⟩
    by_cases ho:off+xss.length≤o∧o<off+xss.length+yss.length
    ·have:=hcells (o-(off+xss.length)) (by omega)
     rw [show off+(xss.length+(o-(off+xss.length)))=o by omega] at this
     exact ⟨_,this⟩
    ·exact ⟨z,by rw [hout b o fun h=>ho h.2];exact hz⟩
   ·have hil:=(gS.1 hi).1
    obtain ⟨_,ha,hc⟩:=hx i xs hi
    exact ⟨hrow _ _ _ ha (hd1 i hil),by rw [hout b (off+i) (by omega)];exact hc (by simp)⟩
   ·have hil:=(gS.1 hi).1
    exact ⟨hrow _ _ _ (A2 i xs hi) (hn2 i hil),hcells i hil⟩
  ·rw [hsz]
   rcases h with h | ⟨i,hi,h⟩ | ⟨i,hi,h⟩
   ·have:=(hf b' o).2 (.inl h)
    exact ⟨.inl this,(hF _ _ this).2⟩
   ·have:=(hf b' o).2 (.inr ⟨i,hi,h⟩)
    exact ⟨.inl this,(hF _ _ this).2⟩
   ·have:=s2 i hi b' o h
    exact ⟨.inr (.inl this),(hF2 _ _ this).2⟩
 ·subst e0
  have hold:(Builtin.firstCells i.size xss.length (.slice base xss.length cap)).run P w.drew=.ok ((List.range xss.length).map us).toArray w.drew:=by
   rw [i4];exact TabH.run (u:=undef) hone1 c1 w.drew fun _=>by simp
  have hn:xss.length+yss.length≤140737488355328:=Nat.le_trans (Nat.le_mul_of_pos_right _ hI.pos) hb
  have hcap:Builtin.nextslicecap (xss.length+yss.length) cap*i.bytes≤281474976710656:=by
   have:=nextslicecap_le (show cap<xss.length+yss.length by omega)
   have:=Nat.mul_le_mul_right i.bytes this
   rw [Nat.mul_assoc] at this
   rw [i5] at this ⊢
   omega
  have hrun:=run_append_grow_src (P:=P) w id id ty el i z hI.und i1 i2 base xss.length cap _ hold _ yss.length _ (i4▸hsrc) (by omega) (by omega) hcap
  have hgc:=grownCap_le w (xss.length+yss.length) cap el (by omega)
  generalize hcap':grownCap w (xss.length+yss.length) cap el=cap' at hrun hgc
  generalize hcs:(((List.range xss.length).map us++(List.range yss.length).map us2).toArray++Builtin.zeroCells z.cells (cap'-(xss.length+yss.length)))=cs at hrun
  have hcsz:cs.size=cap':=by
   subst hcs
   rw [i3,Array.size_append,zeroCells_size]
   simp [Ty.size];omega
  have hget:∀ m v,((List.range xss.length).map us++(List.range yss.length).map us2)[m]? = some v→cs[m]? = some v:=fun m v hm=>by
   subst hcs
   have hlt:=(gS.1 hm).1
   rw [Array.getElem?_append_left (by simpa using hlt)]
   simpa using hm
  have hk:Keep S w S (w.drew.alloc (.cells cs el)):=⟨fun _ _ h=>h,fun b o h=>by rw [World.cell?_alloc_lt _ _ _ (hin b o h)];rfl⟩
  have hg:Grow B S w S (w.drew.alloc (.cells cs el)):=⟨((Below.refl _ _).drew).alloc hB _,hk,fun b o h=>by have:=hin b o h;simp;omega,fun _ _ h=>.inl h,(LK.drew _).trans (LK.alloc _ _)⟩
  have hcell:∀ b o,b<w.heap.size→(w.drew.alloc (.cells cs el)).cell? ⟨b,o,none⟩=w.cell? ⟨b,o,none⟩:=fun b o hb'=>by rw [World.cell?_alloc_lt _ _ _ (by simpa using hb')];rfl
  have hfr:∀ b o,b<w.heap.size→(w.drew.alloc (.cells cs el)).frozen? ⟨b,o,none⟩=w.frozen? ⟨b,o,none⟩:=fun b o hb'=>by rw [World.frozen?_alloc_old _ _ _ (by simp;omega)];rfl
  have hheap:∀ b,b<w.heap.size→(w.drew.alloc (.cells cs el)).heap[b]? = w.heap[b]? := fun b hb'=>by rw [Below.heap_alloc _ _ _ (by simpa using hb')];rfl
  have hrow:∀ (G:Cells) (v:Value) (ys:List T.den),ArrH G S w v T ys→(∀ b' o,G b' o→b'<w.heap.size)→ArrH G S (w.drew.alloc (.cells cs el)) v T ys:=fun G v ys hA hG =>
   hA.frame ⟨fun b' o h=>⟨hcell b' o (hG b' o h),hfr b' o (hG b' o h)⟩,fun b' rr _ h hrr=>by
    rw [hheap b' (hG b' 0 (h 0))];exact hrr⟩ hk
  refine ⟨_,_,fun b' o=>(b'=w.heap.size∧0≤o∧o<0+cap')∨(∃ i,i<xss.length∧Fs i b' o)∨∃ i,i<yss.length∧Fs2 i b' o,hrun,rfl,hg,?_,fun b' o h=>?_,fun b' o hb' hn=>⟨hcell b' o hb',hfr b' o hb'⟩,fun b' hb' hn=>hheap b' hb'⟩
  ·rw [← lA]
   refine TabH.mk2 (cap:=cap') Fs Fs2 (by rw [lA];exact hgc.1) (by simp only [maxLen];omega) (fun o h1 h2=>?_) (fun i hi b' o h hc=>by have:=(hF _ _ (s1 i hi b' o h)).2.1;omega) (fun i hi b' o h hc=>by have:=(hF2 _ _ (s2 i hi b' o h)).2.1;omega) d1 d2
    (fun i j hi hj b' o h1 h2=>hd b' o (s1 i hi b' o h1) (s2 j hj b' o h2)) (fun i xs hi=>?_) fun i xs hi=>?_
   ·have hlt:o<cs.size:=by omega
    exact ⟨⟨cs[o],by rw [World.cell?_alloc_at _ _ _ _ (by simp)];simp [hlt]⟩,World.frozen?_alloc_at _ _ _ _ (by simp)⟩
   ·have hil:=(gS.1 hi).1
    refine ⟨hrow _ _ _ (A1 i xs hi) fun b' o h=>(hF _ _ (s1 i hil b' o h)).2.1,?_⟩
    rw [World.cell?_alloc_at _ _ _ _ (by simp),Nat.zero_add]
    exact hget _ _ (by rw [xL (by simpa using hil)];simp [hil])
   ·have hil:=(gS.1 hi).1
    refine ⟨hrow _ _ _ (A2 i xs hi) fun b' o h=>(hF2 _ _ (s2 i hil b' o h)).2.1,?_⟩
    rw [World.cell?_alloc_at _ _ _ _ (by simp),Nat.zero_add]
    exact hget _ _ (by rw [xR (by simp)];simp [hil])
  ·have hs:∀ b o,b=w.heap.size→¬ S b o:=fun b o hb hs=>absurd (hin _ _ hs) (by omega)
   rcases h with h | ⟨i,hi,h⟩ | ⟨i,hi,h⟩
   ·exact ⟨.inr (.inr (by omega)),by simp;omega,hs _ _ h.1⟩
   ·have h':=s1 i hi b' o h
    have:=hF _ _ h'
    exact ⟨.inl h',by simp;omega,this.2.2⟩
   ·have h':=s2 i hi b' o h
    have:=hF2 _ _ h'
    exact ⟨.inr (.inl h'),by simp;omega,this.2.2⟩
end
theorem us_sw {us:Array Value} {i j:Nat} (hi:i<us.size) (hj:j<us.size):(fun x=>us.getD (sgm i j x) undef)=fun x=>((us.setIfInBounds i (us.getD j undef)).setIfInBounds j (us.getD i undef)).getD x undef:=by
 funext x
 unfold sgm
 simp only [aD,Array.getElem?_setIfInBounds,Array.size_setIfInBounds]
 by_cases e1:x=j
 ·subst e1;simp [hj]
 ·have e1':¬ j=x:=fun h=>e1 h.symm
  simp only [e1,e1',if_false]
  by_cases e2:x=i
  ·subst e2;simp [hi]
  ·have e2':¬ i=x:=fun h=>e2 h.symm
   simp only [e2,e2',if_false]
section
variable {P:Program} {Γ:Tabs} {B:Nat} {S:Cells} {w:World} {η:Eta} {H:PH} {nx:Nat}
theorem swM_some {α:Type} {xss zss:List (List α)} {i j:Int} (h:swM xss i j=some zss):i.toNat<xss.length∧j.toNat<xss.length∧zss=(xss.set i.toNat (xss.getD j.toNat [])).set j.toNat (xss.getD i.toNat []):=by
 unfold swM at h
 split at h
 ·rename_i a b ha hb
  cases h
  obtain ⟨_,_,ga⟩:=idxM_some ha
  obtain ⟨_,_,gb⟩:=idxM_some hb
  have la:=(gS.1 ga).1
  have lb:=(gS.1 gb).1
  refine ⟨la,lb,?_⟩
  simp [List.getD_eq_getElem?_getD,ga,gb]
 ·cases h
theorem swT_ok (hΓ:TabOK P Γ) {rd:Option Nat} {o:Oper} {e:Ev} {ctx:Ctx} {t:TypeId} {xa xv:Operand} {pa pv:PV} {R:RdR} (hop:o.op=.store t xa xv) (hw:Wf e) (hc:CtxH e ctx) (hxa:ev e ctx xa=some pa) (hxv:ev e ctx xv=some pv) (h:swT Γ t pa pv H nx=some R) (r:R.T) (hr:R.m=some r) :
  R.OK P rd B o e (H,nx) r:=by
 have hd:∀ c,o.op≠.defer c:=by rw [hop];intro c hh;cases hh
 have hm1:xa∈o.op.operands.toList:=by rw [hop];simp [Op.operands]
 have hm2:xv∈o.op.operands.toList:=by rw [hop];simp [Op.operands]
 unfold swT at h
 split at h
 ·rename_i id sz i k ti hl
  have hI:=hΓ.ty _ _ hl
  split at h
  ·rename_i id' vid j T xss vid' hb hlk
   simp only [bA,Bool.not_eq_true'] at hb
   obtain ⟨hb1,hb2,hb3,hb4⟩:=hb
   have hsz:=nB hb1
   have hk:=nB hb2
   have hts:=nB hb3
   subst hsz;subst hk
   split at h
   ·rename_i hb
    cases h
    simp only [bA] at hb
    have h1:=nB hb.1
    have h2:=nB hb.2
    subst h1;subst h2
    have hr':swM xss i j=some r:=hr
    obtain ⟨hil,hjl,hzs⟩:=swM_some hr'
    refine ok_fl2 rfl hd fun S w η a hi0 hlen ho=>?_
    have hk0:η nx=none:=hlen nx (nR _) (Nat.lt_succ_self _)
    obtain ⟨b,o',n,cap,g1,g2⟩:=ev_sound hw hc hxa hm1 ho
    obtain ⟨us0,f1,f2,f3⟩:=ev_sound hw hc hxv hm2 ho
    obtain ⟨F0,hF0,u,us,k1,k2,k3,hA⟩:=hi0.read hlk
    rw [g1] at k1
    cases k1
    rw [f1] at k2
    cases k2
    have hus:us0.getD j.toNat undef=a.eval xv:=by simp [aD,f2]
    have hni:nx≠id:=fun h=>by subst h;rw [hk0] at g1;cases g1
    have hnv:nx≠vid:=fun h=>by subst h;rw [hk0] at f1;cases f1
    have hv:=hi0.eta (v:=.tuple ((us0.setIfInBounds i.toNat (us0.getD j.toNat undef)).setIfInBounds j.toNat (us0.getD i.toNat undef))) hk0
    obtain ⟨q1,q2,q3,q4,q5⟩:=hA.swapw hF0 hi0.inw rfl hil hjl
    rw [hus] at q3 q4 q5
    simp only [Nat.mul_one,Nat.add_zero] at g2
    refine ⟨undef,w.setCells b (o'+i.toNat) [a.eval xv],S,η.add nx (.tuple ((us0.setIfInBounds i.toNat (us0.getD j.toNat undef)).setIfInBounds j.toNat (us0.getD i.toNat undef))),.inr ⟨run_storeV (v:=a.eval xv) (cs:=[a.eval xv]) hI hop g2 (one_cells q3) (by simp [hts]) (by simpa using q3) (fun m hm=>by simp at hm;subst hm;exact q1),rfl⟩,q4,.push hk0 _,Out.add _ _ _,?_,trivial⟩
    show HInv B _ ((id,.tabs T r j nx vid i)::H) S _
    refine hv.set hlk (by rw [size_setCells];exact nR _) q4.lt q4.keep fun F2 hF2 hA2=>?_
    obtain ⟨u2,us2,e1,e2,e3,hA2⟩:=hA2
    rw [Eta.add_ne _ _ hni,g1] at e1
    cases e1
    rw [Eta.add_ne _ _ hnv,f1] at e2
    cases e2
    obtain ⟨p1,p2,p3,p4,p5⟩:=hA2.swapw hF2 hi0.inw rfl hil hjl
    rw [hus] at p5
    rw [us_sw (by omega) (by omega),← hzs,hus] at p5
    refine ⟨fun _ _ h=>.inl h,fun b' o'' hb' hn=>⟨?_,World.frozen?_setCells _ _ _ _ _⟩,fun b' hb' hn=>heap_setCells_ne b _ _ w b' fun h=>hn _ (h▸p2),F2,⟨_,_,_,by rw [Eta.add_ne _ _ hni];exact g1,Eta.add_same _ _ _,by rw [Eta.add_ne _ _ hnv];exact f1,?_,?_,by rw [hus];exact p5⟩,fun b o h=>⟨.inl h,by rw [size_setCells];exact (hF2 b o h).2.1,(hF2 b o h).2.2⟩⟩
    ·refine World.cell?_setCells_out b _ _ w ⟨b',o'',none⟩ fun h _=>?_
     simp only [List.length_singleton] at h ⊢
     subst h
     have:o''≠o'+i.toNat:=fun h=>hn (h▸p2)
     omega
    ·rw [Array.getElem?_setIfInBounds_self_of_lt (by simp;omega)]
     simp [aD,show i.toNat<us0.size by omega]
    ·rw [hzs];simp;omega
   ·cases h
  ·rename_i id' vid j T xss p vid' vid0 q hb hlk
   simp only [bA,Bool.not_eq_true'] at hb
   obtain ⟨hb1,hb2,hb3,hb4⟩:=hb
   have hsz:=nB hb1
   have hk:=nB hb2
   have hts:=nB hb3
   subst hsz;subst hk
   split at h
   ·rename_i hb
    cases h
    simp only [bA] at hb
    have h1:=nB hb.1
    have h2:=nB hb.2
    subst h1;subst h2
    have hr':((sameM j q).bind fun _=>(sameM i p).bind fun _=>chkM i (lenM xss))=some r:=hr
    cases hs1:sameM j q with
    | none=>rw [hs1] at hr';cases hr'
    | some _ =>
     rw [hs1] at hr'
     simp only [oB] at hr'
     cases hs2:sameM i p with
     | none=>rw [hs2] at hr';cases hr'
     | some _ =>
      rw [hs2] at hr'
      simp only [oB] at hr'
      obtain ⟨hc0,hc1⟩:=chkM_some hr'
      have e1:=sameM_some hs1
      have e2:=sameM_some hs2
      subst e1;subst e2
      refine ok_fl2 rfl hd fun S w η a hi hlen ho=>?_
      obtain ⟨b,o',n,cap,g1,g2⟩:=ev_sound hw hc hxa hm1 ho
      obtain ⟨us0,f1,f2,f3⟩:=ev_sound hw hc hxv hm2 ho
      obtain ⟨F1,hF1,u,us,us0',k1,k2,k2',k4,k3,hA⟩:=hi.read hlk
      rw [g1] at k1
      cases k1
      rw [f1] at k2'
      cases k2'
      have hil:i.toNat<xss.length:=by omega
      have hus:us.getD i.toNat undef=a.eval xv:=by simp [aD,← k4,f2]
      obtain ⟨q1,q2,q3,q4,q5⟩:=hA.write hF1 hi.inw rfl hil
      rw [hus] at q3 q4 q5
      simp only [Nat.mul_one,Nat.add_zero] at g2
      refine ⟨undef,_,S,η,.inr ⟨run_storeV (v:=a.eval xv) (cs:=[a.eval xv]) hI hop g2 (one_cells q3) (by simp [hts]) (by simpa using q3) (fun m hm=>by simp at hm;subst hm;exact q1),rfl⟩,q4,.refl _,Out.refl _ _ _,?_,trivial⟩
      show HInv B η ((id,.tab T xss vid')::H) S _
      refine hi.set hlk (by rw [size_setCells];exact nR _) q4.lt q4.keep fun F2 hF2 hA2=>?_
      obtain ⟨u2,us2,us3,e1,e2,e2',e4,e3,hA2⟩:=hA2
      rw [g1] at e1
      cases e1
      rw [k2] at e2
      cases e2
      obtain ⟨p1,p2,p3,p4,p5⟩:=hA2.write hF2 hi.inw rfl hil
      rw [hus] at p5
      refine ⟨fun _ _ h=>.inl h,fun b' o'' hb' hn=>⟨?_,World.frozen?_setCells _ _ _ _ _⟩,fun b' hb' hn=>heap_setCells_ne b _ _ w b' fun h=>hn _ (h▸p2),F2,⟨_,_,g1,k2,e3,p5⟩,fun b o h=>⟨.inl h,by rw [size_setCells];exact (hF2 b o h).2.1,(hF2 b o h).2.2⟩⟩
      refine World.cell?_setCells_out b _ _ w ⟨b',o'',none⟩ fun h _=>?_
      simp only [List.length_singleton] at h ⊢
      subst h
      have:o''≠o'+i.toNat:=fun h=>hn (h▸p2)
      omega
   ·cases h
  ·cases h
 ·cases h
end
section
variable {P:Program} {Γ:Tabs} {B:Nat} {S S':Cells} {w w':World} {η:Eta} {H:PH} {nx:Nat}
theorem HInv.merge {k0 id j:Nat} {po pj po':PO} {u:Value} (hk0:η k0=none) (hi:HInv B η H S w) (hl:lk H id=some po) (hj:lk H j=some pj) (hne:id≠j) (hid:id≠k0) (hjd:j≠k0) (hsz:w.heap.size≤w'.heap.size) (hin:InLt S' w') (k:Keep S w S' w')
  (step:∀ F1 F2:Cells,(∀ b o,F1 b o→¬ F2 b o)→(∀ b o,F1 b o→B≤b∧b<w.heap.size∧¬ S b o)→(∀ b o,F2 b o→B≤b∧b<w.heap.size∧¬ S b o)→POH η id F1 S w po→POH η j F2 S w pj →
   (∀ b o,S' b o→S b o∨F1 b o∨w.heap.size≤b)∧(∀ b o,b<w.heap.size→¬ F1 b o→w'.cell? ⟨b,o,none⟩=w.cell? ⟨b,o,none⟩∧w'.frozen? ⟨b,o,none⟩=w.frozen? ⟨b,o,none⟩) ∧
   (∀ b,b<w.heap.size→(∀ o,¬ F1 b o)→w'.heap[b]? = w.heap[b]?) ∧
   ∃ F1':Cells,POH (η.add k0 u) k0 F1' S' w' po'∧∀ b o,F1' b o→(F1 b o∨F2 b o∨w.heap.size≤b)∧b<w'.heap.size∧¬ S' b o):HInv B (η.add k0 u) ((k0,po')::(id,.gone)::(j,.gone)::H) S' w':=by
 refine hi.chg (fun i=>i=id∨i=j∨i=k0) hsz hin k (.push hk0 _) (fun i ti po'' h=>?_) fun F hd hF hP=>?_
 ·rw [lk_ne _ _ (fun h=>ti (.inr (.inr h.symm))),lk_ne _ _ (fun h=>ti (.inl h.symm)),lk_ne _ _ (fun h=>ti (.inr (.inl h.symm)))] at h;exact h
 ·obtain ⟨g1,g2,g3,F1',g4,g5⟩:=step (F id) (F j) (hd id j hne) (hF id) (hF j) (hP id po hl) (hP j pj hj)
  refine ⟨⟨fun b o h=>?_,fun b o hb h=>g2 b o hb (h id (.inl rfl)),fun b r _ h hr=>by rw [g3 b (aS.1 hr).1 (h id (.inl rfl))];exact hr⟩,fun i=>if i=k0 then F1' else fun _ _=>False,?_,?_,?_⟩
  ·rcases g1 b o h with h | h | h
   ·exact .inl h
   ·exact .inr (.inl ⟨id,.inl rfl,h⟩)
   ·exact .inr (.inr h)
  ·rintro i po'' ti h
   by_cases hik:i=k0
   ·subst hik
    rw [lk_same] at h
    cases h
    simp only [if_true];exact g4
   ·simp only [if_neg hik]
    rw [lk_ne _ _ (fun h=>hik h.symm)] at h
    by_cases hii:i=id
    ·subst hii
     rw [lk_same] at h
     cases h
     exact fun _ _ h=>h
    ·rw [lk_ne _ _ (fun h=>hii h.symm)] at h
     have hij:i=j:=by
      rcases ti with t | t | t
      ·exact absurd t hii
      ·exact t
      ·exact absurd t hik
     subst hij
     rw [lk_same] at h
     cases h
     exact fun _ _ h=>h
  ·rintro i b o ti hf
   by_cases h:i=k0
   ·simp only [if_pos h] at hf
    refine ⟨?_,(g5 b o hf).2⟩
    rcases (g5 b o hf).1 with h | h | h
    ·exact .inl ⟨id,.inl rfl,h⟩
    ·exact .inl ⟨j,.inr (.inl rfl),h⟩
    ·exact .inr h
   ·simp only [if_neg h] at hf
  ·rintro i i' ti tj hij b o hf hg
   by_cases h:i=k0
   ·have hj:¬ (i'=k0):=by omega
    simp only [if_neg hj] at hg
   ·simp only [if_neg h] at hf
theorem opT_sound:OpF.Sound opT:=by
 intro P Γ hΓ rd B o e ctx H nx R h hw hc r hr
 unfold opT at h
 split at h
 ·rename_i x hop
  have hd:∀ c,o.op≠.defer c:=by rw [hop];intro c hh;cases hh
  split at h
  ·rename_i T hown hx hel
   cases h
   refine ok_fl2 rfl hd fun S w η a hi hlen ho=>?_
   have hk0:η nx=none:=hlen nx (nR _) (by show nx<nx+2;omega)
   have hk1:η (nx+1)=none:=hlen (nx+1) (by show nx≤nx+1;omega) (by show nx+1<nx+2;omega)
   have hv:a.eval x=.slice none 0 0:=ev_sound hw hc hx (by rw [hop];simp [Op.operands]) ho
   have hk2:(η.add (nx+1) (.tuple #[])) nx=none:=by rw [Eta.add_ne _ _ (by omega)];exact hk0
   refine ⟨.slice none 0 0,w,S,(η.add (nx+1) (.tuple #[])).add nx (.slice none 0 0),.inl (by simp [execOp,hop,hv]),Grow.refl hi.inw,(Pre.push hk1 _).trans (Pre.push hk2 _),fun j hj=>?_,?_,?_⟩
   ·have h1':nx≠j:=by have:j<nx∨nx+2≤j:=hj;omega
    have h2':nx+1≠j:=by have:j<nx∨nx+2≤j:=hj;omega
    rw [Eta.add_ne _ _ h1']
    exact Eta.add_ne _ _ h2'
   ·show HInv B _ ((nx,.tab T [] (nx+1))::H) S w
    exact (hi.eta (v:=.tuple #[]) hk1).new hk2 (nR _) hi.inw (Keep.refl _ _) (fun _ _ h=>.inl h) (fun _ _=>rfl) (fun _ _=>False) ⟨.slice none 0 0,#[],Eta.add_same _ _ _,by rw [Eta.add_ne _ _ (by omega)];exact Eta.add_same _ _ _,rfl,none,0,rfl,nR _,Nat.zero_le _,.inl ⟨rfl,fun _ _ h=>h⟩⟩ (fun _ _ h=>h.elim)
   ·change _∧_
    exact ⟨Eta.add_same _ _ _,rfl⟩
  ·cases h
 ·cases h
theorem opT_nice:opT.Nice:=⟨fun _ _ _ _ _ _ _ _=>rfl,fun _ _ _ _ _ _ _ h _ _=>h⟩
theorem bsT_ok (hΓ:TabOK P Γ) {rd:Option Nat} {o:Oper} {e:Ev} {ctx:Ctx} {t:TypeId} {len k:Nat} {parts:Array (Nat×Operand)} {x:Operand} {pv:PV} {R:RdR} (hop:o.op=.buildSlice t len parts) (hp:parts.toList=[(k,x)]) (hw:Wf e) (hc:CtxH e ctx) (hx:ev e ctx x=some pv) (h:bsT Γ o.dst t len k pv H nx=some R) (r:R.T):R.OK P rd B o e (H,nx) r:=by
 have hd:∀ c,o.op≠.defer c:=by rw [hop];intro c hh;cases hh
 have hm:x∈o.op.operands.toList:=by
  have e1:o.op.operands.toList=parts.toList.map (·.2):=by rw [hop];simp [Op.operands]
  rw [e1,hp];simp
 unfold bsT at h
 split at h
 ·rename_i el bts T j hb hel
  simp only [bA] at hb
  have hl1:=nB hb.2.1
  have hk:=nB hb.2.2
  subst hl1;subst hk
  split at h
  ·rename_i T' ys' hlk
   split at h
   ·rename_i ys hcast
    cases h
    obtain ⟨hT,hys⟩:=castT_some hcast
    cases hT
    have hys:ys'=ys:=hys
    subst hys
    obtain ⟨hu,⟨i,z,i1,i2,i3,i4,i5⟩,_⟩:=elOf_sound hΓ hel
    have i4:i.size=1:=i4
    refine ok_fl2 rfl hd fun S w η a hi hlen ho=>?_
    have hk0:η nx=none:=hlen nx (nR _) (by show nx<nx+2;omega)
    have hk1:η (nx+1)=none:=hlen (nx+1) (by show nx≤nx+1;omega) (by show nx+1<nx+2;omega)
    obtain ⟨f1,f2⟩:=ev_sound hw hc hx hm ho
    have hrun:(execOp a.eval o).run P w=.ok (.value (.slice (some ⟨w.heap.size,0,none⟩) 1 1)) (w.alloc (.cells #[a.eval x] el)):=by
     have hsz:(sizeOf el).run P w=.ok 1 w:=by simp [sizeOf,typeInfo,i1,i4]
     have hz1:(zeroValue el).run P w=.ok z w:=by simp [zeroValue,typeInfo,i1,i2]
     have hparts:(parts.map fun (p:Nat×Operand)=>(p.1,a.eval p.2)).toList=[(0,a.eval x)]:=by
      simp [hp]
     have h3:Instr.fill (fun i=>some (i*1,1)) ((Array.range (1*1)).map (fun x=>(Ty.list T).zero.toArray[x % (Ty.list T).zero.toArray.size]!)) (parts.map fun (p:Nat×Operand)=>(p.1,a.eval p.2)).toList=some #[a.eval x]:=by
      rw [hparts]
      have hfill:=fill_one (place:=fun i=>some (i*1,1)) (i:=0) (off:=0) (v:=a.eval x) (vs:=[a.eval x]) (c1:=[]) (c2:=[.slice none 0 0]) (c3:=[]) (rest:=[]) rfl (one_cells f2) rfl rfl
      have hz:(Array.range (1*1)).map (fun x=>(Ty.list T).zero.toArray[x % (Ty.list T).zero.toArray.size]!)=#[.slice none 0 0]:=by
       apply Array.ext
       ·simp
       ·intro i h1 h2
        have:i=0:=by simp at h2;omega
        subst this
        simp [Ty.zero]
      rw [hz]
      simpa [Instr.fill] using hfill
     simp only [execOp,hop,Instr.buildSlice,Sem.run_bind,run_underlying hu,Result.andThen_ok,hsz,Sem.run_ite]
     rw [if_neg (by omega)]
     simp only [show ¬ (1*1=0) by omega,if_false,Sem.run_bind,hz1,Result.andThen_ok,Sem.run_pure,i3]
     simp at h3
     simp [h3,newRow]
    let u:Value:=.slice (some ⟨w.heap.size,0,none⟩) 1 1
    let W:=w.alloc (.cells #[a.eval x] el)
    have hk:Keep S w S W:=⟨fun _ _ h=>h,fun b o h=>World.cell?_alloc_lt _ _ _ (hi.inw b o h)⟩
    have hin:InLt S W:=fun b o h=>by have:=hi.inw b o h;simp [W];omega
    have hk2:(η.add (nx+1) (.tuple #[a.eval x])) nx=none:=by rw [Eta.add_ne _ _ (by omega)];exact hk0
    have hnj:nx≠j:=fun h=>by subst h;rw [hk0] at f1;cases f1
    have hnj1:nx+1≠j:=fun h=>by subst h;rw [hk1] at f1;cases f1
    refine ⟨u,W,S,(η.add (nx+1) (.tuple #[a.eval x])).add nx u,.inl hrun,⟨(Below.refl _ _).alloc hi.base _,hk,hin,fun _ _ h=>.inl h,LK.alloc _ _⟩,(Pre.push hk1 _).trans (Pre.push hk2 _),fun j hj=>?_,?_,?_⟩
    ·have h1':nx≠j:=by have:j<nx∨nx+2≤j:=hj;omega
     have h2':nx+1≠j:=by have:j<nx∨nx+2≤j:=hj;omega
     rw [Eta.add_ne _ _ h1']
     exact Eta.add_ne _ _ h2'
    ·show HInv B _ ((nx,.tab T [ys'] (nx+1))::(j,.gone)::H) S W
     refine (hi.eta (v:=.tuple #[a.eval x]) hk1).move hk2 hlk (by omega) (by simp [W]) hin hk fun F1 hF1 h1=>?_
     obtain ⟨u1,c1,hA⟩:=h1
     rw [Eta.add_ne _ _ hnj1,f1] at c1
     cases c1
     have hcell:W.cell? ⟨w.heap.size,0,none⟩=some (a.eval x):=by
      show (w.alloc _).cell? _=_
      rw [World.cell?_alloc_new];rfl
     have hth:World.there W w.heap.size 0:=⟨⟨_,hcell⟩,World.frozen?_alloc_new _ _ _ _⟩
     have hrow:ArrH F1 S W (a.eval x) T ys':=hA.frame ⟨fun b' o h=>⟨World.cell?_alloc_lt _ _ _ (hF1 b' o h).2.1,World.frozen?_alloc_old _ _ _ (by have:=(hF1 b' o h).2.1;simp;omega)⟩,fun b' rr _ h hrr=>by
      show (w.alloc _).heap[b']? = _
      rw [Below.heap_alloc _ _ _ (hF1 b' 0 (h 0)).2.1];exact hrr⟩ hk
     refine ⟨fun _ _ h=>.inl h,fun b o hb _=>⟨World.cell?_alloc_lt _ _ _ hb,World.frozen?_alloc_old _ _ _ (by simp;omega)⟩,fun b hb _=>Below.heap_alloc _ _ _ hb,fun b o=>(b=w.heap.size∧0≤o∧o<0+1)∨F1 b o,⟨u,#[a.eval x],Eta.add_same _ _ _,by rw [Eta.add_ne _ _ (by omega)];exact Eta.add_same _ _ _,rfl,some ⟨w.heap.size,0,none⟩,1,rfl,nR _,by simp [maxLen],.inr ⟨w.heap.size,0,rfl,fun o h1 h2=>?_,fun _=>F1,fun b o=>or_congr Iff.rfl ⟨fun h=>⟨0,by simp,h⟩,fun ⟨_,_,h⟩=>h⟩,fun _ _ b o h hc=>by have:=(hF1 b o h).2.1;omega,fun i j hi hj hij=>?_,fun i xs hi=>?_⟩⟩,fun b o h=>?_⟩
     ·have:o=0:=by omega
      subst this;exact hth
     ·simp at hi hj;omega
     ·have hi0:i=0:=by have:=(gS.1 hi).1;simpa using this
      subst hi0
      simp at hi
      subst hi
      exact ⟨hth,hrow,fun _=>hcell⟩
     ·rcases h with ⟨h,_⟩ | h
      ·exact ⟨.inr (by omega),by simp [W];omega,fun hs=>absurd (hi.inw _ _ hs) (by omega)⟩
      ·have:=hF1 b o h
       exact ⟨.inl h,by simp [W];omega,this.2.2⟩
    ·change _∧_
     exact ⟨Eta.add_same _ _ _,rfl⟩
   ·cases h
  ·cases h
 ·cases h
theorem catR2_some {α:Type} {bts:Nat} {xss yss zss:List (List α)} (h:catR2 bts xss yss=some zss):0<yss.length∧(xss.length+yss.length)*bts≤140737488355328∧zss=xss++yss:=by
 unfold catR2 at h
 split at h
 ·cases h
 ·obtain ⟨h1,h2⟩:=appM_some h
  exact ⟨by simp,h1,h2⟩
theorem us_cat {us us2:Array Value} {n:Nat} (hn:us.size=n):(fun i=>if i<n then us.getD i undef else us2.getD (i-n) undef)=fun i=>(us++us2).getD i undef:=by
 funext i
 subst hn
 by_cases h:i<us.size
 ·simp [aD,h,Array.getElem?_append]
 ·simp [aD,h,Array.getElem?_append]
theorem cat2T_ok (hΓ:TabOK P Γ) {rd:Option Nat} {o:Oper} {e:Ev} {ctx:Ctx} {t:TypeId} {s x:Operand} {ps px:PV} {R:RdR} (hop:o.op=.call { callee:=.builtin .append,args:=#[s,x],argTypes:=#[t,t] }) (hw:Wf e) (hc:CtxH e ctx) (hs:ev e ctx s=some ps) (hx:ev e ctx x=some px)
  (h:cat2T Γ t ps px H nx=some R) (r:R.T) (hr:R.m=some r):R.OK P rd B o e (H,nx) r:=by
 have hd:∀ c,o.op≠.defer c:=by rw [hop];intro c hh;cases hh
 have hm1:s∈o.op.operands.toList:=by rw [hop];simp [Op.operands,Call.operands]
 have hm2:x∈o.op.operands.toList:=by rw [hop];simp [Op.operands,Call.operands]
 unfold cat2T at h
 split at h
 ·rename_i el bts T i j hel
  have hS:=elOf_sound hΓ hel
  split at h
  ·rename_i T1 xss' v1 T2 yss' v2 hl1 hl2
   split at h
   ·rename_i xss yss hc1 hc2 hij
    cases h
    have hij:i≠j:=fun h=>by rw [h,Nat.beq_refl] at hij;cases hij
    obtain ⟨hT,hxs⟩:=castT_some hc1
    cases hT
    have hxs:xss'=xss:=hxs
    subst hxs
    obtain ⟨hT,hxs⟩:=castT_some hc2
    cases hT
    have hxs:yss'=yss:=hxs
    subst hxs
    obtain ⟨hy,hb,hzs⟩:=catR2_some hr
    refine ok_fl2 rfl hd fun S w η a hi hlen ho=>?_
    have hk0:η nx=none:=hlen nx (nR _) (by show nx<nx+2;omega)
    have hk1:η (nx+1)=none:=hlen (nx+1) (by show nx≤nx+1;omega) (by show nx+1<nx+2;omega)
    obtain ⟨f1,_⟩:=ev_sound hw hc hs hm1 ho
    obtain ⟨f2,_⟩:=ev_sound hw hc hx hm2 ho
    have key:∀ F1 F2:Cells,(∀ b o,F1 b o→¬ F2 b o)→(∀ b o,F1 b o→B≤b∧b<w.heap.size∧¬ S b o)→(∀ b o,F2 b o→B≤b∧b<w.heap.size∧¬ S b o)→POH η i F1 S w (.tab T xss' v1)→POH η j F2 S w (.tab T yss' v2) →
      ∃ us us2,η v1=some (.tuple us)∧η v2=some (.tuple us2)∧us.size=xss'.length∧us2.size=yss'.length∧∃ (v:Value) (w':World) (F':Cells),(Builtin.append_ #[t,t] o.type #[a.eval s,a.eval x]).run P w=.ok v w'∧v.oneCell'=true ∧
       Grow B S w S w'∧TabH F' S w' v T (xss'++yss') (fun i=>(us++us2).getD i undef) none∧(∀ b o,F' b o→(F1 b o∨F2 b o∨w.heap.size≤b)∧b<w'.heap.size∧¬ S b o) ∧
       (∀ b o,b<w.heap.size→¬ F1 b o→w'.cell? ⟨b,o,none⟩=w.cell? ⟨b,o,none⟩∧w'.frozen? ⟨b,o,none⟩=w.frozen? ⟨b,o,none⟩) ∧
       ∀ b,b<w.heap.size→(∀ o,¬ F1 b o)→w'.heap[b]? = w.heap[b]? := by
     intro F1 F2 hdd hF1 hF2 h1 h2
     obtain ⟨u1,us,e1,e2,e3,hA⟩:=h1
     rw [f1] at e1
     cases e1
     obtain ⟨u2,us2,e4,e5,e6,hA2⟩:=h2
     rw [f2] at e4
     cases e4
     have:=TabH.append (ty:=o.type) hS hi.base hF1 hF2 hdd hi.inw hA hA2 hy hb
     rw [us_cat e3] at this
     exact ⟨us,us2,e2,e5,e3,e6,this⟩
    have hni:nx≠i:=fun h=>by subst h;rw [hk0] at f1;cases f1
    have hnj:nx≠j:=fun h=>by subst h;rw [hk0] at f2;cases f2
    have hi':=hi
    obtain ⟨_,_,FF,hdF,hFF,hP⟩:=hi'
    obtain ⟨us,us2,p1,p2,p3,p4,v,w',F',g1,g2,g3,_⟩:=key (FF i) (FF j) (hdF i j hij) (hFF i) (hFF j) (hP i _ hl1) (hP j _ hl2)
    have hk2:(η.add (nx+1) (.tuple (us++us2))) nx=none:=by rw [Eta.add_ne _ _ (by omega)];exact hk0
    refine ⟨v,w',S,(η.add (nx+1) (.tuple (us++us2))).add nx v,.inl (run_appendV hop g1),g3,(Pre.push hk1 _).trans (Pre.push hk2 _),fun j hj=>?_,?_,?_⟩
    ·have h1':nx≠j:=by have:j<nx∨nx+2≤j:=hj;omega
     have h2':nx+1≠j:=by have:j<nx∨nx+2≤j:=hj;omega
     rw [Eta.add_ne _ _ h1']
     exact Eta.add_ne _ _ h2'
    ·show HInv B _ ((nx,.tab T r (nx+1))::(i,.gone)::(j,.gone)::H) S w'
     have hn1i:nx+1≠i:=fun h=>by subst h;rw [hk1] at f1;cases f1
     have hn1j:nx+1≠j:=fun h=>by subst h;rw [hk1] at f2;cases f2
     have hn1v:nx+1≠v1:=fun h=>by subst h;rw [hk1] at p1;cases p1
     have hn1v2:nx+1≠v2:=fun h=>by subst h;rw [hk1] at p2;cases p2
     refine (hi.eta (v:=.tuple (us++us2)) hk1).merge hk2 hl1 hl2 hij (by omega) (by omega) g3.below.size g3.lt g3.keep fun F1 F2 hdd hF1 hF2 h1 h2=>?_
     have h1':POH η i F1 S w (.tab T xss' v1):=by
      obtain ⟨u1,us1,e1,e2,e3,hA⟩:=h1
      rw [Eta.add_ne _ _ hn1i] at e1
      rw [Eta.add_ne _ _ hn1v] at e2
      exact ⟨u1,us1,e1,e2,e3,hA⟩
     have h2':POH η j F2 S w (.tab T yss' v2):=by
      obtain ⟨u1,us1,e1,e2,e3,hA⟩:=h2
      rw [Eta.add_ne _ _ hn1j] at e1
      rw [Eta.add_ne _ _ hn1v2] at e2
      exact ⟨u1,us1,e1,e2,e3,hA⟩
     obtain ⟨us',us2',q1,q2,q3,q4,v',w'',F'',g1',_,_,g4,g5,g6,g7⟩:=key F1 F2 hdd hF1 hF2 h1' h2'
     rw [p1] at q1
     cases q1
     rw [p2] at q2
     cases q2
     rw [g1] at g1'
     cases g1'
     refine ⟨fun _ _ h=>.inl h,g6,g7,F'',⟨v,us++us2,Eta.add_same _ _ _,by rw [Eta.add_ne _ _ (by omega)];exact Eta.add_same _ _ _,by rw [hzs];simp [p3,p4],by rw [hzs];exact g4⟩,g5⟩
    ·change _∧_
     exact ⟨Eta.add_same _ _ _,g2⟩
   ·cases h
  ·cases h
 ·cases h
theorem opS_sound:OpF.Sound opS:=by
 intro P Γ hΓ rd B o e ctx H nx R h hw hc r hr
 unfold opS at h
 split at h
 ·rename_i t len parts hop
  split at h
  ·rename_i k x hp
   split at h
   ·rename_i pv hx;exact bsT_ok hΓ hop hp hw hc hx h r
   ·cases h
  ·cases h
 ·rename_i c hop
  split at h
  ·rename_i s x t t' hcal hxs hts
   have hce:=call_eta hcal hxs hts
   subst hce
   split at h
   ·rename_i ps px hs hx hb
    have:=nB hb
    subst this
    exact cat2T_ok hΓ hop hw hc hs hx h r hr
   ·cases h
  ·cases h
 ·rename_i t xa xv hop
  split at h
  ·rename_i pa pv ha hv;exact swT_ok hΓ hop hw hc ha hv h r hr
  ·cases h
 ·cases h
theorem opS_fl {Γ:Tabs} {o:Oper} {e:Ev} {ctx:Ctx} {H:PH} {nx:Nat} {R:RdR} (h:opS Γ o e ctx H nx=some R):R.fl≠0:=by
 unfold opS at h
 split at h
 ·split at h
  ·split at h
   ·unfold bsT at h;(repeat' split at h)<;>first | (cases h;exact sZ _) | cases h
   ·cases h
  ·cases h
 ·split at h
  ·split at h
   ·unfold cat2T at h;(repeat' split at h)<;>first | (cases h;exact sZ _) | cases h
   ·cases h
  ·cases h
 ·split at h
  ·unfold swT at h;(repeat' split at h)<;>first | (cases h;exact sZ _) | cases h
  ·cases h
 ·cases h
theorem opS_nice:opS.Nice:=by
 constructor
 ·intro Γ o e ctx H H' nx h
  unfold opS
  split
  ·rename_i t len parts hop
   split
   ·rename_i k x hp
    split
    ·rename_i pv hx
     have h1:Ag pv.ids H H':=by
      have e1:o.op.operands.toList=[x]:=by
       have hpa:parts=#[(k,x)]:=by rw [← hp]
       rw [hop,hpa];simp [Op.operands]
      intro i hi
      refine h i ?_
      unfold opIds
      rw [e1]
      unfold opdIds
      rw [hx]
      simp [hi]
     unfold bsT
     generalize elOf Γ t=q
     split
     ·rename_i j _
      have h2:lk H' j=lk H j:=Ag.one h1
      simp only [h2]
     ·rfl
    ·rfl
   ·rfl
  ·rename_i c hop
   split
   ·rename_i s x t t' hcal ha ht
    split
    ·rename_i ps px hs hx ht'
     obtain ⟨h1,h2⟩:=opIds2 (by rw [hop];simp [Op.operands,Call.operands,hcal,ha]) hs hx h
     unfold cat2T
     generalize elOf Γ t=q
     split
     ·rename_i i j
      have h3:lk H' i=lk H i:=Ag.one h1
      have h4:lk H' j=lk H j:=Ag.one h2
      simp only [h3,h4]
     ·rfl
    ·rfl
   ·rfl
  ·rename_i t a x hop
   split
   ·rename_i pa pv ha hx
    obtain ⟨h1,h2⟩:=opIds2 (by rw [hop];simp [Op.operands]) ha hx h
    unfold swT
    generalize lk Γ.ty t=q
    split
    ·rename_i id sz i k ti
     have h3:lk H' id=lk H id:=Ag.one h1
     simp only [h3]
    ·rfl
   ·rfl
  ·rfl
 ·intro Γ o e ctx H nx R h h0 H'
  exact absurd h0 (opS_fl h)
end
def OPSF:OpF:=(opT.or OPS7).or opS
theorem OPSF_sound:OPSF.Sound:=(opT_sound.or OPS7_sound).or opS_sound
theorem OPSF_nice:OPSF.Nice:=(opT_nice.or' OPS7_nice fun Γ o e ctx H nx R h h0 hn H'=>hn).or' opS_nice fun Γ o e ctx H nx R h h0 hn H'=>absurd h0 (opS_fl h)
def bytesM (s:List UInt8):Option (List Int):=match Nat.ble s.length 1000000 with
 | true=>some (s.map fun b=>(b.toNat:Int))
 | false=>none
def partV {α:Type} (xs:List α) (lo n:Nat):List α:=(xs.drop lo).take n
def moveV {α:Type} (xs:List α) (lo1 lo2 k:Nat):List α:=xs.take lo1++(partV xs lo2 k++xs.drop (lo1+k))
def natLit:Option Operand→Option (Option Nat)
 | none=>some none
 | some (.const (.int .i64 (.ofNat n)))=>some (some n)
 | _=>none
def orD (a:Option Nat) (d:Nat):Nat:=match a with
 | some x=>x
 | none=>d
def slV (Γ:Tabs) (t:TypeId) (pv:PV) (lo hi:Option Operand) (H:PH) (nx:Nat):Option RdR:=match lk Γ.ty t,pv,natLit lo,natLit hi with
 | some ti,.r (.c (.p id 0)),some l,some h=>match ti.kind,lk H id with
  | .array n el,some (.flat m T xs)=>match lk Γ.ty el with
   | some te=>match Nat.beq te.size 1&&(Nat.beq m n&&(Nat.ble (orD l 0) (orD h n)&&(Nat.ble (orD h n) n&&Nat.blt (orD l 0) n))) with
    | true=>some (rdu (.vw id (orD l 0) (orD h n-orD l 0) (n-orD l 0)) H nx)
    | false=>none
   | none=>none
  | _,_=>none
 | _,_,_,_=>none
def cpV (Γ:Tabs) (t:TypeId) (a b:PV) (H:PH) (nx:Nat):Option RdR:=match a,b,elOf Γ t with
 | .vw id lo1 n1 _,.vw id2 lo2 n2 _,some (_,_,T)=>match lk H id with
  | some (.flat m T' xs)=>match Nat.beq id id2&&(Nat.beq T.size 1&&(Nat.ble (lo1+Nat.min n2 n1) m&&(Nat.ble (lo2+Nat.min n2 n1) m&&Nat.ble m 1000000))) with
   | true=>some (wr (some ()) () (fun _=>.c (.d (.int .i64) (Nat.min n2 n1:Nat))) (fun _=>[(id,.flat m T' (moveV xs lo1 lo2 (Nat.min n2 n1)))]) nx)
   | false=>none
  | _=>none
 | _,_,_=>none
def sbC (Γ:Tabs) (s d:TypeId) (x:Option PV) (H:PH) (nx:Nat):Option RdR:=match lk Γ.ty s,elOf Γ d,x with
 | some ts,some (el,_,.int .u8),some (.r (.c (.d .str xs)))=>match ts.kind,lk Γ.ty el with
  | .str,some te=>match te.kind with
   | .int .u8=>some (wn (bytesM xs) [] (fun _=>.c (.h nx)) (fun ys=>.arr (.int .u8) ys) H nx)
   | _=>none
  | _,_=>none
 | _,_,_=>none
def gld (Γ:Tabs) (t:TypeId) (g:Nat) (H:PH) (nx:Nat):Option RdR:=match lk Γ.ty t,lk globTab g with
 | some ti,some G=>match ti.agg,G.t.agg,Nat.beq ti.size G.xs.length with
  | true,false,true=>some (rdu (.s (G.xs.map fun x=>.d G.t x)) H nx)
  | _,_,_=>none
 | _,_=>none
def fldB (Γ:Tabs) (t:TypeId) (i:Nat) (pv:PV) (H:PH) (nx:Nat):Option RdR:=match lk Γ.bt t,pv,i with
 | some _,.r (.c (.p id 0)),0=>match lk H id with
  | some (.bld _ _ _)=>some (rdu (.c (.p id 0)) H nx)
  | _=>none
 | _,_,_=>none
def opG:OpF:=fun Γ o e ctx H nx=>match o.op with
 | .slice t x lo hi none=>match ev e ctx x with
  | some pv=>slV Γ t pv lo hi H nx
  | none=>none
 | .convert s d x=>sbC Γ s d (ev e ctx x) H nx
 | .load t (.global g)=>gld Γ t g H nx
 | .fieldAddr t x i=>match ev e ctx x with
  | some pv=>fldB Γ t i pv H nx
  | none=>none
 | .call c=>match c.callee,c.args.toList,c.argTypes.toList with
  | .builtin .copy,[d,s],[t,t']=>match ev e ctx d,ev e ctx s,Nat.beq t t' with
   | some pd,some ps,true=>cpV Γ t pd ps H nx
   | _,_,_=>none
  | _,_,_=>none
 | _=>none
section
variable {P:Program} {Γ:Tabs} {B:Nat} {S:Cells} {w:World} {η:Eta} {H:PH} {nx:Nat}
theorem natLit_val {x:Option Operand} {r:Option Nat} (h:natLit x=some r) (a:Act):(x=none∧r=none)∨∃ y n,x=some y∧r=some n∧a.eval y=.int .i64 (n:Nat):=by
 unfold natLit at h
 split at h
 ·cases h;exact .inl ⟨rfl,rfl⟩
 ·rename_i n
  cases h
  exact .inr ⟨_,n,rfl,rfl,rfl⟩
 ·cases h
theorem slV_ok (hΓ:TabOK P Γ) {rd:Option Nat} {o:Oper} {e:Ev} {ctx:Ctx} {t:TypeId} {x:Operand} {lo hi_:Option Operand} {pv:PV} {R:RdR} (hop:o.op=.slice t x lo hi_ none) (hw:Wf e) (hc:CtxH e ctx) (hx:ev e ctx x=some pv) (h:slV Γ t pv lo hi_ H nx=some R) (r:R.T):R.OK P rd B o e (H,nx) r:=by
 have hd:∀ c,o.op≠.defer c:=by rw [hop];intro c hh;cases hh
 unfold slV at h
 split at h
 ·rename_i ti id l hh hl hlo hhi
  split at h
  ·rename_i n el m T xs hk hlk
   have hkd:=(hΓ.ty _ _ hl).kind
   rw [hk] at hkd
   split at h
   ·rename_i te hte
    have hse:=(hΓ.ty _ _ hte).size
    split at h
    ·rename_i hb
     cases h
     simp only [bA] at hb
     obtain ⟨b1,b2,b3,b4,b5⟩:=hb
     have b1:=nB b1
     have b2:=nB b2
     have b3:=nL b3
     have b4:=nL b4
     have b5:orD l 0<n:=nL b5
     rw [b1] at hse
     refine ok_fl1 rfl hd fun S w η a hiv ho=>?_
     obtain ⟨b,g1,g2⟩:=ev_sound hw hc hx (by rw [hop];simp [Op.operands]) ho
     refine ⟨.slice (some ⟨b,orD l 0,none⟩) (orD hh n-orD l 0) (n-orD l 0),?_,b,g1,rfl⟩
     have hne:¬ (n=orD l 0):=by omega
     have e1:=natLit_val hlo a
     have e2:=natLit_val hhi a
     rcases e1 with ⟨rfl,rfl⟩ | ⟨y,k,rfl,rfl,ey⟩<;>rcases e2 with ⟨rfl,rfl⟩ | ⟨y2,k2,rfl,rfl,ey2⟩<;>simp only [orD] at b3 b4 b5 hne ⊢
     ·have hz:n≠0:=by omega
      simp [execOp,hop,g2,Instr.sliceAt,Instr.sureAddr,hkd w,hse w,Instr.sliceBounds,sliced,hz,Addr.add_lit]
     ·have hz:n≠0:=by omega
      have:(k2:Int)≤n:=by omega
      simp [execOp,hop,g2,ey2,Instr.sliceAt,Instr.sureAddr,hkd w,hse w,Instr.sliceBounds,sliced,run_sliceBound,this,hz,Addr.add_lit]
     ·have hz:n≠k:=by omega
      have:(k:Int)≤n:=by omega
      simp [execOp,hop,g2,ey,Instr.sliceAt,Instr.sureAddr,hkd w,hse w,Instr.sliceBounds,sliced,run_sliceBound,this,hz,Addr.add_lit]
     ·have hz:n≠k:=by omega
      have:(k:Int)≤k2:=by omega
      have:(k2:Int)≤n:=by omega
      simp [execOp,hop,g2,ey,ey2,Instr.sliceAt,Instr.sureAddr,hkd w,hse w,Instr.sliceBounds,sliced,run_sliceBound, *,hz,Addr.add_lit]
    ·cases h
   ·cases h
  ·cases h
 ·cases h
theorem gld_ok (hΓ:TabOK P Γ) {rd:Option Nat} {o:Oper} {e:Ev} {t:TypeId} {g:Nat} {R:RdR} (hop:o.op=.load t (.global g)) (h:gld Γ t g H nx=some R) (r:R.T):R.OK P rd B o e (H,nx) r:=by
 have hd:∀ c,o.op≠.defer c:=by rw [hop];intro c hh;cases hh
 unfold gld at h
 split at h
 ·rename_i ti G hl hG
  split at h
  ·rename_i hag hga hsz
   cases h
   have hsz:=nB hsz
   refine ok_fl1 rfl hd fun S w η a hiv ho=>?_
   have hg:=(hiv.inw.gl g G hG).2
   have hs1:=Ty.size_nonagg hga
   have key:∀ (xs:List G.t.den) (k:Nat),(∀ i x,xs[i]? = some x→G.xs[k+i]? = some x)→∃ vs:List Value,All2 (CM S w η) (xs.map fun x=>.d G.t x) vs∧∀ j v,vs[j]? = some v→w.cell? ⟨g,k+j,none⟩=some v:=by
    intro xs
    induction xs with
    | nil=>exact fun k _=>⟨[],.nil,fun j v hj=>by cases hj⟩
    | cons x xs ih =>
     intro k hk
     obtain ⟨vs,h1,h2⟩:=ih (k+1) fun i y hy=>by
      have:=hk (i+1) y (by simpa using hy)
      rwa [show k+(i+1)=k+1+i by omega] at this
     obtain ⟨es,h3,h4⟩:=hg k x (by have:=hk 0 x rfl;simpa using this)
     have hl1:=h3.length
     rw [hs1] at hl1
     match es,hl1 with
     | [u],_ =>
      have h5:=(h4 0 u rfl).2
      rw [hs1] at h5
      refine ⟨u::vs,.cons ⟨hga,[u],h3,by unfold Ty.wrap;rw [hga];simp⟩ h1,fun j v hj=>?_⟩
      cases j with
      | zero=>cases hj;simpa using h5
      | succ j=>rw [show k+(j+1)=k+1+j by omega];exact h2 j v (by simpa using hj)
   obtain ⟨vs,h1,h2⟩:=key G.xs 0 fun i x hx=>by rw [Nat.zero_add];exact hx
   have hvl:vs.length=ti.size:=by rw [← h1.length,List.length_map,hsz]
   have hag':=(hΓ.ty _ _ hl).agg w
   rw [hag] at hag'
   have hsz':=(hΓ.ty _ _ hl).size w
   have hld:(loadCells ⟨g,0,none⟩ ti.size).run P w=.ok vs.toArray w:=by
    have:=run_loadCells_list (P:=P) w ⟨g,0,none⟩ vs fun j v hj=>by rw [Addr.add_lit];exact h2 j v hj
    rwa [hvl] at this
   refine ⟨.agg vs.toArray,run_load (b:=g) (k:=0) hop rfl (by simp [loadVar,hag',hsz',hld]),vs,rfl,h1⟩
  ·cases h
 ·cases h
theorem fldB_ok (hΓ:TabOK P Γ) {rd:Option Nat} {o:Oper} {e:Ev} {ctx:Ctx} {t:TypeId} {x:Operand} {i:Nat} {pv:PV} {R:RdR} (hop:o.op=.fieldAddr t x i) (hw:Wf e) (hc:CtxH e ctx) (hx:ev e ctx x=some pv) (h:fldB Γ t i pv H nx=some R) (r:R.T):R.OK P rd B o e (H,nx) r:=by
 have hd:∀ c,o.op≠.defer c:=by rw [hop];intro c hh;cases hh
 unfold fldB at h
 split at h
 ·rename_i y id hbt
  split at h
  ·cases h
   refine ok_fl1 rfl hd fun S w η a hiv ho=>?_
   obtain ⟨b,g1,g2⟩:=ev_sound hw hc hx (by rw [hop];simp [Op.operands]) ho
   have hf:=(hΓ.bt t _ hbt).fld0 b w
   exact ⟨_,by simp [execOp,hop,g2,hf],b,g1,rfl⟩
  ·cases h
 ·cases h
theorem bytesM_some {s:List UInt8} {r:List Int} (h:bytesM s=some r):s.length≤1000000∧r=s.map fun b=>(b.toNat:Int):=by
 unfold bytesM at h
 split at h
 ·rename_i hb;cases h;exact ⟨nL hb,rfl⟩
 ·cases h
theorem und_of_run {t:TypeId} {d:TypeDesc} (h:∀ w,(underlying t).run P w=.ok d w) (w:World):P.underlying t=some d:=by
 have h:=h w
 unfold underlying at h
 cases hq:P.underlying t with
 | none=>simp [hq] at h
 | some x=>simp [hq] at h;rw [h]
theorem sbC_ok (hΓ:TabOK P Γ) {rd:Option Nat} {o:Oper} {e:Ev} {ctx:Ctx} {s d:TypeId} {x:Operand} {R:RdR} (hop:o.op=.convert s d x) (hw:Wf e) (hc:CtxH e ctx) (h:sbC Γ s d (ev e ctx x) H nx=some R) (r:R.T) (hr:R.m=some r):R.OK P rd B o e (H,nx) r:=by
 have hd:∀ c,o.op≠.defer c:=by rw [hop];intro c hh;cases hh
 unfold sbC at h
 split at h
 ·rename_i ts el bts xs hs hel hx
  split at h
  ·rename_i te hk hte
   have ks:=(hΓ.ty _ _ hs).kind
   rw [hk] at ks
   split at h
   ·rename_i hk2
    have ke:=(hΓ.ty _ _ hte).kind
    rw [hk2] at ke
    cases h
    obtain ⟨ys,hys⟩:∃ ys:List Int,ys=r:=⟨r,rfl⟩
    subst hys
    obtain ⟨hl,hyx⟩:=bytesM_some hr
    have hS:=elOf_sound hΓ hel
    refine ok_fl2 rfl hd fun S w η a hi hfree ho=>?_
    have hk0:η nx=none:=hfree nx (nR _) (Nat.lt_succ_self _)
    obtain ⟨h1,_⟩:=PM.str.1 (ev_sound hw hc hx (by rw [hop];simp [Op.operands]) ho)
    have hsz:(⟨xs.toArray⟩:ByteArray).size=xs.length:=by simp [ByteArray.size]
    have hrun:=run_bytes_of_string (P:=P) w s d el ⟨xs.toArray⟩ (und_of_run ks w) hS.und (und_of_run ke w)
    have hG:=grownCap_le w xs.length 0 el (by omega)
    have hG2:=grownCap_le_maxLen w xs.length 0 el (by simp only [maxLen];omega)
    rw [hsz] at hrun
    generalize grownCap w xs.length 0 el=cap at *
    have hrs:(bytesRow ⟨xs.toArray⟩ cap).size=cap:=by
     unfold bytesRow
     rw [hsz]
     simp;omega
    rw [hrs] at hrun
    generalize hC:bytesRow ⟨xs.toArray⟩ cap=C at *
    have hyl:ys.length=xs.length:=by rw [hyx,List.length_map]
    have hg:Grow B S w S (w.drew.alloc (.cells C el (cap,cap+1))):=⟨((Below.refl _ _).drew).alloc hi.base _,⟨fun _ _ h=>h,fun b o h=>World.cell?_alloc_lt _ _ _ (hi.inw b o h)⟩,fun b o h=>by have:=hi.inw b o h;simp;omega,fun _ _ h=>.inl h,(LK.drew _).trans (LK.alloc _ _)⟩
    have hcell:∀ j,(w.drew.alloc (.cells C el (cap,cap+1))).cell? ⟨w.heap.size,j,none⟩=C[j]? := fun j=>World.cell?_alloc_mark w.drew C el (cap,cap+1) j
    have hfrz:∀ j,(w.drew.alloc (.cells C el (cap,cap+1))).frozen? ⟨w.heap.size,j,none⟩=(decide (cap≤j)&&decide (j<cap+1)):=fun j=>World.frozen?_alloc_mark w.drew C el cap (cap+1) j
    refine ⟨.slice (some ⟨w.heap.size,0,none⟩) xs.length cap,_,S,η.add nx (.slice (some ⟨w.heap.size,0,none⟩) xs.length cap),.inl (by simp [execOp,hop,h1,hrun]),hg,.push hk0 _,Out.add _ _ _,?_,?_⟩
    ·show HInv B _ ((nx,.arr (.int .u8) ys)::H) S _
     refine hi.new hk0 (by simp) hg.lt hg.keep (fun _ _ h=>.inl h) (fun b hb=>Below.heap_alloc _ _ _ hb) (fun b o=>b=w.heap.size∧o<cap) ⟨_,Eta.add_same _ _ _,some ⟨w.heap.size,0,none⟩,cap,by rw [hyl],by omega,hG2,.inr ⟨w.heap.size,0,rfl,fun b' o=>?_,fun o h2 h3=>?_,fun i x hix=>?_⟩⟩ fun b o h=>?_
     ·show (b'=w.heap.size∧o<cap)↔(b'=w.heap.size∧0≤o∧o<0+cap*1)
      omega
     ·have h3:o<0+cap*1:=h3
      refine ⟨⟨_,by rw [hcell o];exact Array.getElem?_eq_getElem (by omega)⟩,?_⟩
      rw [hfrz o,dF (by omega)];rfl
     ·have hix':i<ys.length:=(gS.1 hix).1
      have hx2:x=(xs[i]'(by omega)).toNat:=by
       rw [hyx,List.getElem?_map,gE (by omega)] at hix
       cases hix;rfl
      refine ⟨[.int .u8 x],⟨rfl,?_⟩,fun j v hj=>?_⟩
      ·rw [has_u8,hx2]
       have:=(xs[i]'(by omega)).toNat_lt
       omega
      ·match j with
       | 0 =>
        cases hj
        show World.cell? _ ⟨w.heap.size,0+i*1+0,none⟩=_
        rw [show 0+i*1+0=i by omega,hcell i,← hC,bytesRow_at ⟨xs.toArray⟩ cap i (by simp;omega),hx2]
        simp
       | j+1=>cases hj
     ·obtain ⟨rfl,h⟩:=h
      exact ⟨nR _,by simp,fun hs=>absurd (hi.inw _ _ hs) (by omega)⟩
    ·change _∧_
     exact ⟨Eta.add_same _ _ _,rfl⟩
   ·cases h
  ·cases h
 ·cases h
theorem cpV_ok (hΓ:TabOK P Γ) {rd:Option Nat} {o:Oper} {e:Ev} {ctx:Ctx} {t:TypeId} {d s:Operand} {pd ps:PV} {R:RdR} (hop:o.op=.call { callee:=.builtin .copy,args:=#[d,s],argTypes:=#[t,t] }) (hw:Wf e) (hc:CtxH e ctx) (hxd:ev e ctx d=some pd) (hxs:ev e ctx s=some ps)
  (h:cpV Γ t pd ps H nx=some R) (r:R.T):R.OK P rd B o e (H,nx) r:=by
 have hd:∀ c,o.op≠.defer c:=by rw [hop];intro c hh;cases hh
 have hm1:d∈o.op.operands.toList:=by rw [hop];simp [Op.operands,Call.operands]
 have hm2:s∈o.op.operands.toList:=by rw [hop];simp [Op.operands,Call.operands]
 unfold cpV at h
 split at h
 ·rename_i id lo1 n1 c1 id2 lo2 n2 c2 el bts T hel
  have hS:=elOf_sound hΓ hel
  split at h
  ·rename_i m T' xs hlk
   split at h
   ·rename_i hb
    cases h
    simp only [bA] at hb
    obtain ⟨b1,b2,b3,b4,b5⟩:=hb
    have b1:=nB b1
    subst b1
    have b2:=nB b2
    have b3:=nL b3
    have b4:=nL b4
    have b5:=nL b5
    refine ok_fl2 rfl hd fun S w η a hi hlen ho=>?_
    obtain ⟨b,g1,g2⟩:=ev_sound hw hc hxd hm1 ho
    obtain ⟨b',g1',g3⟩:=ev_sound hw hc hxs hm2 ho
    rw [g1] at g1'
    cases g1'
    obtain ⟨F1,_,hP⟩:=hi.read hlk
    obtain ⟨hn,hag,_,_,hcs⟩:=flatB_of hP g1
    generalize hk:Nat.min n2 n1=k at *
    have hpl:(partV xs lo2 k).length=k:=by unfold partV;simp;omega
    have key:∀ (ys:List T'.den) (k0:Nat),(∀ i x,ys[i]? = some x→xs[k0+i]? = some x)→∃ vs:List Value,All2 (fun x v=>T'.agg=false∧VRep S w T' x v) ys vs∧∀ j v,vs[j]? = some v→w.cell? ⟨b,k0+j,none⟩=some v:=by
     intro ys
     induction ys with
     | nil=>exact fun k _=>⟨[],.nil,fun j v hj=>by cases hj⟩
     | cons x ys ih =>
      intro k0 hk0
      obtain ⟨vs,h1,h2⟩:=ih (k0+1) fun i y hy=>by
       have:=hk0 (i+1) y (by simpa using hy)
       rwa [show k0+(i+1)=k0+1+i by omega] at this
      obtain ⟨v,h3,h4⟩:=hcs k0 x (by have:=hk0 0 x rfl;simpa using this)
      refine ⟨v::vs,.cons ⟨hag,h3⟩ h1,fun j u hj=>?_⟩
      cases j with
      | zero=>cases hj;simpa using h4
      | succ j=>rw [show k0+(j+1)=k0+1+j by omega];exact h2 j u (by simpa using hj)
    obtain ⟨vs,h1,h2⟩:=key (partV xs lo2 k) lo2 fun i x hx=>by
     unfold partV at hx
     have:=(gS.1 hx).1
     simp at this
     rw [List.getElem?_take_of_lt (by omega),List.getElem?_drop] at hx
     exact hx
    have hvl:vs.length=k:=by rw [← h1.length,hpl]
    obtain ⟨q1,q2,q3⟩:=flat_store (k:=lo1) hi hlk g1 (by rw [hpl];omega) h1
    obtain ⟨i,z,i1,i2,i3,i4,i5⟩:=hS.info
    have hcopy:=run_copy_cells (P:=P) w t t o.type el b lo1 n1 c1 ⟨b,lo2,none⟩ n2 c2 vs hS.und (by rw [i1];simp;exact i4.trans b2) (by rw [hvl,hk]) (fun j v hj=>by rw [Addr.add_lit];exact h2 j v hj) (fun j hj=>by obtain ⟨⟨u,hu⟩,_⟩:=q1 j hj;rw [hu];rfl) (fun j hj=>(q1 j hj).2) (all2_one h1)
    have hrun:(execOp a.eval o).run P w=.ok (.value (goInt vs.length)) (w.setCells b lo1 vs):=by
     simp [execOp,hop,resolve,invoke,builtin,g2,g3,hcopy]
    refine ⟨_,_,S,η,.inl hrun,q2,.refl _,Out.refl _ _ _,?_,?_⟩
    ·rw [hpl] at q3
     exact q3
    ·rw [hvl]
     exact PM.int.2 ⟨rfl,by rw [has_i64];omega⟩
   ·cases h
  ·cases h
 ·cases h
end
section
variable {Γ:Tabs} {o:Oper} {e:Ev} {ctx:Ctx} {H H':PH} {nx:Nat}
theorem opG_sound:OpF.Sound opG:=by
 intro P Γ hΓ rd B o e ctx H nx R h hw hc r hr
 unfold opG at h
 split at h
 ·rename_i t x lo hi hop
  split at h
  ·rename_i pv hx
   exact slV_ok hΓ hop hw hc hx h r
  ·cases h
 ·rename_i s d x hop
  exact sbC_ok hΓ hop hw hc h r hr
 ·rename_i t g hop
  exact gld_ok hΓ hop h r
 ·rename_i t x i hop
  split at h
  ·rename_i pv hx
   exact fldB_ok hΓ hop hw hc hx h r
  ·cases h
 ·rename_i c hop
  split at h
  ·rename_i d s t t' hcal hxs hts
   have hce:=call_eta hcal hxs hts
   subst hce
   split at h
   ·rename_i pd ps hd hs hb
    have:=nB hb
    subst this
    exact cpV_ok hΓ hop hw hc hd hs h r
   ·cases h
  ·cases h
 ·cases h
theorem opG_fl {R:RdR} (h:opG Γ o e ctx H nx=some R):R.fl≠0:=by
 unfold opG at h
 split at h
 ·split at h
  ·unfold slV at h;(repeat' split at h)<;>first | (cases h;exact sZ _) | cases h
  ·cases h
 ·unfold sbC at h;(repeat' split at h)<;>first | (cases h;exact sZ _) | cases h
 ·unfold gld at h;(repeat' split at h)<;>first | (cases h;exact sZ _) | cases h
 ·split at h
  ·unfold fldB at h;(repeat' split at h)<;>first | (cases h;exact sZ _) | cases h
  ·cases h
 ·split at h
  ·split at h
   ·unfold cpV at h;(repeat' split at h)<;>first | (cases h;exact sZ _) | cases h
   ·cases h
  ·cases h
 ·cases h
theorem opIdsG {x:Operand} {pv:PV} {l:List Operand} (h1:o.op.operands.toList=x::l) (hx:ev e ctx x=some pv) (h:Ag (opIds e ctx o) H H'):Ag pv.ids H H':=fun i hi=>h i (by
 unfold opIds
 rw [h1]
 unfold opdIds
 rw [hx]
 simp [hi])
theorem opG_nice:opG.Nice:=by
 constructor
 ·intro Γ o e ctx H H' nx h
  unfold opG
  split
  ·rename_i t x lo hi hop
   split
   ·rename_i pv hx
    have h1:Ag pv.ids H H':=opIdsG (l:=lo.toList++hi.toList) (by rw [hop];simp [Op.operands]) hx h
    unfold slV
    generalize lk Γ.ty t=q
    generalize natLit lo=q1
    generalize natLit hi=q2
    split
    ·have h2:=Ag.one h1
     simp only [h2]
     rfl
    ·rfl
   ·rfl
  ·rfl
  ·rfl
  ·rename_i t x i hop
   split
   ·rename_i pv hx
    have h1:Ag pv.ids H H':=opIdsG (l:=[]) (by rw [hop];simp [Op.operands]) hx h
    unfold fldB
    generalize lk Γ.bt t=q
    split
    ·have h2:=Ag.one h1
     simp only [h2]
     rfl
    ·rfl
   ·rfl
  ·rename_i c hop
   split
   ·rename_i d s t t' hcal ha ht
    split
    ·rename_i pd ps hd hs hb
     obtain ⟨h1,h2⟩:=opIds2 (by rw [hop];simp [Op.operands,Call.operands,hcal,ha]) hd hs h
     unfold cpV
     generalize elOf Γ t=q
     split
     ·have h3:=Ag.one h1
      simp only [h3]
     ·rfl
    ·rfl
   ·rfl
  ·rfl
 ·intro Γ o e ctx H nx R h h0 H'
  exact absurd h0 (opG_fl h)
end
def OPSG:OpF:=OPSF.or opG
theorem OPSG_sound:OPSG.Sound:=OPSF_sound.or opG_sound
theorem OPSG_nice:OPSG.Nice:=OPSF_nice.or' opG_nice fun Γ o e ctx H nx R h h0 hn H'=>absurd h0 (opG_fl h)
def clrM {α:Type} (xs:List α) (lo:Int) (d:α):List α:=xs.take lo.toNat++List.replicate (xs.length-lo.toNat) d
def intE (e:Ev) (ctx:Ctx) (x:Operand):Option Int:=match ev e ctx x with
 | some (.r (.c (.d (.int .i64) n)))=>some n
 | _=>none
def slC (Γ:Tabs) (e:Ev) (ctx:Ctx) (t:TypeId) (x:Operand) (lo hi mx:Operand) (H:PH) (nx:Nat):Option RdR:=match elOf Γ t,ev e ctx x with
 | some (_,_,T),some pv=>match srcOf H T pv,intE e ctx lo,intE e ctx hi,intE e ctx mx with
  | some xs,some l,some h,some m=>some (wr ((sameM h m).bind fun _=>sliceM xs l h) [] (fun ys=>.c (.d (.list T) ys)) (fun _=>dP H pv) nx)
  | _,_,_,_=>none
 | _,_=>none
def markV (dst:Option Nat) (l:List Nat):Bool:=match dst with | some t=>memN l (t+4000000) | none=>false
def vaS (Γ:Tabs) (dst:Option Nat) (t:TypeId) (pv:PV) (lo:Option Int) (H:PH) (nx:Nat):Option RdR:=match markS dst Γ.own,elOf Γ t,pv,lo with
 | true,some (_,_,T),.r (.c (.h id)),some l=>match lk H id with
  | some (.arr T' xs)=>match Nat.beq T.size T'.size with
   | true=>some (rdr (chkM l (lenM xs)) () (fun _=>.va id T'.size l) H nx)
   | false=>none
  | _=>none
 | _,_,_,_=>none
def shK (Γ:Tabs) (dst:Option Nat) (t:TypeId) (pv:PV) (hi:Option Int) (H:PH) (nx:Nat):Option RdR:=match markS dst Γ.own,elOf Γ t,pv,hi with
 | true,some (_,_,T),.r (.c (.h id)),some h=>match lk H id with
  | some (.arr T' xs)=>match Nat.beq T.size T'.size&&Nat.blt id nx with
   | true=>some (wr (sliceM xs 0 h) [] (fun _=>.c (.h nx)) (fun ys=>[(nx,.arr T' ys),(id,.gone)]) (nx+1))
   | false=>none
  | _=>none
 | _,_,_,_=>none
def vhS (Γ:Tabs) (t:TypeId) (pv:PV) (hi:Option Int) (H:PH) (nx:Nat):Option RdR:=match elOf Γ t,pv,hi with
 | some (_,_,T),.r (.c (.h id)),some h=>match lk H id with
  | some (.arr T' xs)=>match Nat.beq T.size T'.size with
   | true=>some (rdr (chkM h (lenM xs+1)) () (fun _=>.vh id h) H nx)
   | false=>none
  | _=>none
 | _,_,_=>none
def vhA (Γ:Tabs) (t:TypeId) (ps px:PV) (H:PH) (nx:Nat):Option RdR:=match elOf Γ t,ps with
 | some (_,bts,T),.vh id n=>match lk (fzP H px) id with
  | some (.arr T' xs)=>match srcOf H T px,castT (.list T) (t':=.list T') xs,Nat.blt id nx with
   | some ys,some xs,true=>some (wr ((sliceM xs 0 n).bind fun zs=>appM bts zs ys) xs (fun _=>.c (.h nx)) (fun zs=>(nx,.arr T zs)::(id,.gone)::dP H px) (nx+1))
   | _,_,_=>none
  | _=>none
 | _,_=>none
def vaI (Γ:Tabs) (t:TypeId) (pv:PV) (i:Option Int) (H:PH) (nx:Nat):Option RdR:=match elOf Γ t,pv,i with
 | some (_,_,T),.va id sz lo,some i=>match lk H id with
  | some (.arr T' xs)=>match Nat.beq T.size T'.size&&Nat.beq sz T'.size with
   | true=>some (rdr (chkM i (lenM xs-lo)) () (fun _=>.ep id sz (lo+i) 0) H nx)
   | false=>none
  | _=>none
 | _,_,_=>none
def vaL (Γ:Tabs) (t:TypeId) (pv:PV) (H:PH) (nx:Nat):Option RdR:=match elOf Γ t,pv with
 | some _,.va id sz lo=>match lk H id with
  | some (.arr T' xs)=>some (rdu (.c (.d (.int .i64) (lenM xs-lo))) H nx)
  | _=>none
 | _,_=>none
def vaC (Γ:Tabs) (t:TypeId) (pv:PV) (H:PH) (nx:Nat):Option RdR:=match elOf Γ t,pv with
 | some (_,_,T),.va id sz lo=>match lk H id with
  | some (.arr T' xs)=>match castT (.list T) (t':=.list T') xs,Nat.beq sz T.size with
   | some xs,true=>some (wr (some ()) () (fun _=>.t []) (fun _=>[(id,.arr T (clrM xs lo T.dflt))]) nx)
   | _,_=>none
  | _=>none
 | _,_=>none
def emptT0 (Γ:Tabs) (t:TypeId):Bool:=match lk Γ.ty t with
 | some ti=>match ti.kind with
  | .struct []=>true
  | _=>false
 | none=>false
def emptT (Γ:Tabs) (t:TypeId):Bool:=Nat.blt t 1000000&&emptT0 Γ t
def isIfc (Γ:Tabs) (t:TypeId):Bool:=match lk Γ.ty t with
 | some ti=>match ti.kind with
  | .ifc=>true
  | _=>false
 | none=>false
def mkI (Γ:Tabs) (t:TypeId) (pv:PV) (H:PH) (nx:Nat):Option RdR:=match emptT Γ t,pv with
 | true,.r (.s [])=>some (rdu (.c (.i t)) H nx)
 | _,_=>none
def tyA (Γ:Tabs) (t:TypeId) (pv:PV) (H:PH) (nx:Nat):Option RdR:=match emptT Γ t,pv with
 | true,.r (.c (.i t'))=>match Nat.beq t' t with
  | true=>some (rdu (.t [.s [],.c (.d .bool true)]) H nx)
  | false=>none
 | _,_=>none
def neIfc (Γ:Tabs) (op:BinOp) (t:TypeId) (a b:PV) (H:PH) (nx:Nat):Option RdR:=match isIfc Γ t,a,b with
 | true,.r (.c (.i _)),.r (.c (.l .nilI))=>match op with
  | .eql=>some (rdu (.c (.d .bool false)) H nx)
  | .neq=>some (rdu (.c (.d .bool true)) H nx)
  | _=>none
 | true,.r (.c (.l .nilI)),.r (.c (.l .nilI))=>match op with
  | .eql=>some (rdu (.c (.d .bool true)) H nx)
  | .neq=>some (rdu (.c (.d .bool false)) H nx)
  | _=>none
 | _,_,_=>none
def opK:OpF:=fun Γ o e ctx H nx=>match o.op with
 | .slice t x (some lo) (some hi) (some mx)=>slC Γ e ctx t x lo hi mx H nx
 | .slice t x (some lo) none none=>match ev e ctx x with
  | some pv=>vaS Γ o.dst t pv (intE e ctx lo) H nx
  | none=>none
 | .slice t x none (some hi) none=>match ev e ctx x with
  | some pv=>match markV o.dst Γ.own with
   | true=>vhS Γ t pv (intE e ctx hi) H nx
   | false=>shK Γ o.dst t pv (intE e ctx hi) H nx
  | none=>none
 | .indexAddr t x i=>match ev e ctx x with
  | some pv=>vaI Γ t pv (intE e ctx i) H nx
  | none=>none
 | .makeInterface t x=>match ev e ctx x with
  | some pv=>mkI Γ t pv H nx
  | none=>none
 | .typeAssert x _ t true=>match ev e ctx x with
  | some pv=>tyA Γ t pv H nx
  | none=>none
 | .binOp op t x (.const y) _=>match ev e ctx x,ev e ctx (.const y) with
  | some a,some b=>neIfc Γ op t a b H nx
  | _,_=>none
 | .call c=>match c.callee,c.args.toList,c.argTypes.toList with
  | .builtin .len,[x],[t]=>match ev e ctx x with
   | some pv=>vaL Γ t pv H nx
   | none=>none
  | .builtin .clear,[x],[t]=>match ev e ctx x with
   | some pv=>vaC Γ t pv H nx
   | none=>none
  | .builtin .append,[s,x],[t,t']=>match ev e ctx s,ev e ctx x,Nat.beq t t' with
   | some ps,some px,true=>vhA Γ t ps px H nx
   | _,_,_=>none
  | _,_,_=>none
 | _=>none
section
variable {P:Program} {Γ:Tabs} {B:Nat} {S:Cells} {w:World} {η:Eta} {H:PH} {nx:Nat}
theorem intE_sound {e:Ev} {ctx:Ctx} {o:Oper} {a:Act} {x:Operand} {n:Int} (hw:Wf e) (hc:CtxH e ctx) (h:intE e ctx x=some n) (hx:x∈o.op.operands.toList) (ho:En.Only (lk e) (opReads o) S w η a.tmps):a.eval x=.int .i64 n:=by
 unfold intE at h
 split at h
 ·rename_i m hm
  cases h
  exact (PM.int.1 (ev_sound hw hc hm hx ho)).1
 ·cases h
theorem slC_ok (hΓ:TabOK P Γ) {rd:Option Nat} {o:Oper} {e:Ev} {ctx:Ctx} {t:TypeId} {x lo hi_ mx:Operand} {R:RdR} (hop:o.op=.slice t x (some lo) (some hi_) (some mx)) (hw:Wf e) (hc:CtxH e ctx) (h:slC Γ e ctx t x lo hi_ mx H nx=some R) (r:R.T) (hr:R.m=some r):R.OK P rd B o e (H,nx) r:=by
 have hd:∀ c,o.op≠.defer c:=by rw [hop];intro c hh;cases hh
 unfold slC at h
 split at h
 ·rename_i el bts T pv hel hx
  split at h
  ·rename_i xs li hh m hsrc hlo hhi hmx
   cases h
   obtain ⟨ys,hys⟩:∃ ys:List T.den,ys=r:=⟨r,rfl⟩
   subst hys
   have hr':(sameM hh m).bind (fun _=>sliceM xs li hh)=some ys:=hr
   obtain ⟨_,hs,hr2⟩:=Option.bind_eq_some_iff.1 hr'
   have hhm:hh=m:=by
    unfold sameM at hs
    split at hs
    ·rename_i hb;exact oD hb
    ·cases hs
   subst hhm
   obtain ⟨b1,b2,b3,hys⟩:=sliceM_some hr2
   refine ok_fl2 rfl hd fun S w η a hiv hlen ho=>?_
   obtain ⟨S',h1,g1,hv⟩:=srcOf_sound hiv hsrc (ev_sound hw hc hx (by rw [hop];simp [Op.operands]) ho)
   have f0:=intE_sound hw hc hlo (by rw [hop];simp [Op.operands]) ho
   have f1:=intE_sound hw hc hhi (by rw [hop];simp [Op.operands]) ho
   have f2:=intE_sound hw hc hmx (by rw [hop];simp [Op.operands]) ho
   have hI:=elOf_sound hΓ hel
   obtain ⟨base,cap,e1,e2,e3,e4⟩:=VRep.slice hv
   obtain ⟨i,z,i1,i2,i3,i4,i5⟩:=hI.info
   have hsz:(sizeOf el).run P w=.ok T.size w:=by simp [sizeOf,typeInfo,i1,i4]
   obtain ⟨l,rfl⟩:∃ l:Nat,li=(l:Int):=Int.eq_ofNat_of_zero_le b1
   obtain ⟨n,rfl⟩:∃ n:Nat,hh=(n:Int):=⟨hh.toNat,by omega⟩
   have h2:n≤xs.length:=by omega
   have hln:l≤n:=by omega
   simp only [Int.toNat_natCast] at hys
   have hyl:ys.length=n-l:=by rw [hys];simp;omega
   have hrun:(execOp a.eval o).run P w=.ok (.value (.slice (if n=l then base else base.map (·.add (l*T.size))) (n-l) (n-l))) w:=by
    simp [execOp,hop,e1,f0,f1,f2,Instr.sliceAt,Instr.slice,run_underlying hI.und,Instr.sliceBounds,Instr.sliceBound,asIntOf,hsz,show n≤cap by omega,hln]
   refine ⟨_,w,S',η,.inl hrun,g1,.refl _,Out.refl _ _ _,h1,rfl,?_⟩
   refine ⟨_,⟨_,n-l,by rw [hyl],by omega,by omega,?_⟩,rfl⟩
   by_cases h0:n=l
   ·left;omega
   ·right
    rw [if_neg h0]
    rcases e4 with e4 | ⟨b,off,rfl,e4⟩
    ·omega
    ·refine ⟨b,off+l*T.size,by simp [Addr.add_lit],fun i y hy=>?_⟩
     have hil:=(gS.1 hy).1
     rw [hys,List.getElem?_drop,List.getElem?_take_of_lt (by omega)] at hy
     obtain ⟨es,q1,q2⟩:=e4 (l+i) y hy
     refine ⟨es,q1,fun j u hj=>?_⟩
     have:=q2 j u hj
     rwa [show off+(l+i)*T.size+j=off+l*T.size+i*T.size+j by rw [Nat.add_mul];omega] at this
  ·cases h
 ·cases h
theorem vaS_ok (hΓ:TabOK P Γ) {rd:Option Nat} {o:Oper} {e:Ev} {ctx:Ctx} {t:TypeId} {x lo:Operand} {pv:PV} {R:RdR} (hop:o.op=.slice t x (some lo) none none) (hw:Wf e) (hc:CtxH e ctx) (hx:ev e ctx x=some pv) (h:vaS Γ o.dst t pv (intE e ctx lo) H nx=some R) (r:R.T) (hr:R.m=some r):R.OK P rd B o e (H,nx) r:=by
 have hd:∀ c,o.op≠.defer c:=by rw [hop];intro c hh;cases hh
 unfold vaS at h
 split at h
 ·rename_i el bts T id l _ hel hlo
  split at h
  ·rename_i T' xs hlk
   split at h
   ·rename_i hb
    cases h
    have hsz0:=nB hb
    obtain ⟨hc0,hc1⟩:=chkM_some hr
    have hI:=elOf_sound hΓ hel
    refine ok_fl1 rfl hd fun S w η a hiv ho=>?_
    obtain ⟨h1,_⟩:=ev_sound hw hc hx (by rw [hop];simp [Op.operands]) ho
    have f0:=intE_sound hw hc hlo (by rw [hop];simp [Op.operands]) ho
    obtain ⟨F1,_,u,g1,hA⟩:=hiv.read hlk
    rw [h1] at g1
    obtain ⟨base,cap,e1,e2,e3,e4⟩:=hA
    subst e1
    have ex:=Option.some.inj g1
    obtain ⟨i,z,i1,i2,i3,i4,i5⟩:=hI.info
    have hsz:(sizeOf el).run P w=.ok T.size w:=by simp [sizeOf,typeInfo,i1,i4]
    obtain ⟨k,rfl⟩:∃ k:Nat,l=(k:Int):=Int.eq_ofNat_of_zero_le hc0
    have hkl:k<xs.length:=by have:(k:Int)<(xs.length:Int):=hc1;omega
    rcases e4 with ⟨e4,_⟩ | ⟨b,off,rfl,_⟩
    ·omega
    ·have hcl:¬ (cap=k):=by omega
     have hrun:(execOp a.eval o).run P w=.ok (.value (.slice (some ⟨b,off+k*T.size,none⟩) (xs.length-k) (cap-k))) w:=by
      simp [execOp,hop,ex,f0,Instr.sliceAt,Instr.slice,run_underlying hI.und,Instr.sliceBounds,Instr.sliceBound,asIntOf,hsz,show k≤xs.length by omega,hcl,Addr.add_lit]
     refine ⟨_,hrun,b,off,xs.length,cap,by rw [h1,ex],by omega,by omega,e2,?_⟩
     rw [hsz0,Int.toNat_natCast]
   ·cases h
  ·cases h
 ·cases h
theorem shK_ok (hΓ:TabOK P Γ) {rd:Option Nat} {o:Oper} {e:Ev} {ctx:Ctx} {t:TypeId} {x hi_:Operand} {pv:PV} {R:RdR} (hop:o.op=.slice t x none (some hi_) none) (hw:Wf e) (hc:CtxH e ctx) (hx:ev e ctx x=some pv) (h:shK Γ o.dst t pv (intE e ctx hi_) H nx=some R) (r:R.T) (hr:R.m=some r):R.OK P rd B o e (H,nx) r:=by
 have hd:∀ c,o.op≠.defer c:=by rw [hop];intro c hh;cases hh
 unfold shK at h
 split at h
 ·rename_i el bts T id hh _ hel hhi
  split at h
  ·rename_i T' xs hlk
   split at h
   ·rename_i hb
    cases h
    simp only [bA] at hb
    have hsz0:=nB hb.1
    have hid:id<nx:=nL hb.2
    obtain ⟨ys,hys⟩:∃ ys:List T'.den,ys=r:=⟨r,rfl⟩
    subst hys
    obtain ⟨b1,b2,b3,hys⟩:=sliceM_some (show sliceM xs 0 hh=some ys from hr)
    have hI:=elOf_sound hΓ hel
    refine ok_fl2 rfl hd fun S w η a hi hlen ho=>?_
    have hk0:η nx=none:=hlen nx (nR _) (Nat.lt_succ_self _)
    obtain ⟨h1,_⟩:=ev_sound hw hc hx (by rw [hop];simp [Op.operands]) ho
    have f1:=intE_sound hw hc hhi (by rw [hop];simp [Op.operands]) ho
    obtain ⟨F1,_,u,g1,hA⟩:=hi.read hlk
    rw [h1] at g1
    have hA0:=hA
    obtain ⟨base,cap,e1,e2,e3,e4⟩:=hA
    subst e1
    have ex:=Option.some.inj g1
    obtain ⟨i,z,i1,i2,i3,i4,i5⟩:=hI.info
    have hsz:(sizeOf el).run P w=.ok T.size w:=by simp [sizeOf,typeInfo,i1,i4]
    obtain ⟨n,rfl⟩:∃ n:Nat,hh=(n:Int):=Int.eq_ofNat_of_zero_le b2
    have h2:n≤xs.length:=by omega
    simp only [Int.toNat_natCast,Int.toNat_zero,List.drop_zero] at hys
    have hyl:ys.length=n:=by rw [hys];simp;omega
    have hrun0:(execOp a.eval o).run P w=.ok (.value (.slice (if cap=0 then base else base.map (·.add (0*T.size))) n cap)) w:=by
     simp [execOp,hop,ex,f1,Instr.sliceAt,Instr.slice,run_underlying hI.und,Instr.sliceBounds,Instr.sliceBound,asIntOf,hsz,show n≤cap by omega]
    have hbase:(if cap=0 then base else base.map (·.add (0*T.size)))=base:=by
     split
     ·rfl
     ·cases base with
      | none=>rfl
      | some b=>obtain ⟨b,o,s⟩:=b;simp [Addr.add]
    rw [hbase] at hrun0
    have hArr:∀ F:Cells,ArrH F S w (.slice base xs.length cap) T' xs→ArrH F S w (.slice base n cap) T' ys:=fun F hF=>by
     obtain ⟨base',cap',q1,q2,q3,q4⟩:=hF
     cases q1
     refine ⟨base,cap,by rw [hyl],by omega,q3,q4.imp (fun h=>h) ?_⟩
     rintro ⟨b,off,q5,q6,q7,q8⟩
     exact ⟨b,off,q5,q6,q7,fun i y hy=>q8 i y (by
      have hil:=(gS.1 hy).1
      rw [hys,List.getElem?_take_of_lt (by omega)] at hy
      exact hy)⟩
    refine ⟨_,w,S,η.add nx (.slice base n cap),.inl hrun0,Grow.refl hi.inw,.push hk0 _,Out.add _ _ _,?_,?_⟩
    ·show HInv B _ ((nx,.arr T' ys)::(id,.gone)::H) S w
     refine hi.move hk0 hlk (by omega) (nR _) hi.inw.lt (Keep.refl _ _) fun F2 hF2 hP2=>?_
     obtain ⟨u2,q1,hA2⟩:=hP2
     rw [h1,ex] at q1
     cases q1
     exact ⟨fun _ _ h=>.inl h,fun _ _ _ _=>⟨rfl,rfl⟩,fun _ _ _=>rfl,F2,⟨_,Eta.add_same _ _ _,hArr F2 hA2⟩,fun b o h=>⟨.inl h,(hF2 b o h).2⟩⟩
    ·change _∧_
     exact ⟨Eta.add_same _ _ _,rfl⟩
   ·cases h
  ·cases h
 ·cases h
theorem vhS_ok (hΓ:TabOK P Γ) {rd:Option Nat} {o:Oper} {e:Ev} {ctx:Ctx} {t:TypeId} {x hi_:Operand} {pv:PV} {R:RdR} (hop:o.op=.slice t x none (some hi_) none) (hw:Wf e) (hc:CtxH e ctx) (hx:ev e ctx x=some pv) (h:vhS Γ t pv (intE e ctx hi_) H nx=some R) (r:R.T) (hr:R.m=some r):R.OK P rd B o e (H,nx) r:=by
 have hd:∀ c,o.op≠.defer c:=by rw [hop];intro c hh;cases hh
 unfold vhS at h
 split at h
 ·rename_i el bts T id hh hel hhi
  split at h
  ·rename_i T' xs hlk
   split at h
   ·rename_i hb
    cases h
    have hsz0:=nB hb
    obtain ⟨hc0,hc1⟩:=chk_some (n:=lenM xs+1) hr
    have hI:=elOf_sound hΓ hel
    refine ok_fl1 rfl hd fun S w η a hiv ho=>?_
    obtain ⟨h1,_⟩:=ev_sound hw hc hx (by rw [hop];simp [Op.operands]) ho
    have f1:=intE_sound hw hc hhi (by rw [hop];simp [Op.operands]) ho
    obtain ⟨F1,_,u,g1,hA⟩:=hiv.read hlk
    rw [h1] at g1
    obtain ⟨base,cap,e1,e2,e3,e4⟩:=hA
    subst e1
    have ex:=Option.some.inj g1
    obtain ⟨i,z,i1,i2,i3,i4,i5⟩:=hI.info
    have hsz:(sizeOf el).run P w=.ok T.size w:=by simp [sizeOf,typeInfo,i1,i4]
    obtain ⟨n,rfl⟩:∃ n:Nat,hh=(n:Int):=Int.eq_ofNat_of_zero_le hc0
    have h2:n≤xs.length:=by have:(n:Int)<(xs.length:Int)+1:=hc1;omega
    have hrun0:(execOp a.eval o).run P w=.ok (.value (.slice (if cap=0 then base else base.map (·.add (0*T.size))) n cap)) w:=by
     simp [execOp,hop,ex,f1,Instr.sliceAt,Instr.slice,run_underlying hI.und,Instr.sliceBounds,Instr.sliceBound,asIntOf,hsz,show n≤cap by omega]
    have hbase:(if cap=0 then base else base.map (·.add (0*T.size)))=base:=by
     split
     ·rfl
     ·cases base with
      | none=>rfl
      | some b=>obtain ⟨b,o,s⟩:=b;simp [Addr.add]
    rw [hbase] at hrun0
    exact ⟨_,hrun0,base,xs.length,cap,by rw [h1,ex],by omega,by omega,e2,rfl⟩
   ·cases h
  ·cases h
 ·cases h
theorem vhA_ok (hΓ:TabOK P Γ) {rd:Option Nat} {o:Oper} {e:Ev} {ctx:Ctx} {t:TypeId} {s x:Operand} {ps px:PV} {R:RdR} (hop:o.op=.call { callee:=.builtin .append,args:=#[s,x],argTypes:=#[t,t] }) (hw:Wf e) (hc:CtxH e ctx) (hs:ev e ctx s=some ps) (hx:ev e ctx x=some px)
  (h:vhA Γ t ps px H nx=some R) (r:R.T) (hr:R.m=some r):R.OK P rd B o e (H,nx) r:=by
 have hd:∀ c,o.op≠.defer c:=by rw [hop];intro c hh;cases hh
 have hm1:s∈o.op.operands.toList:=by rw [hop];simp [Op.operands,Call.operands]
 have hm2:x∈o.op.operands.toList:=by rw [hop];simp [Op.operands,Call.operands]
 unfold vhA at h
 split at h
 ·rename_i el bts T id n hel
  have hS:=elOf_sound hΓ hel
  split at h
  ·rename_i T' xs' hlk
   split at h
   ·rename_i ys xs hsrc hcast hid
    cases h
    obtain ⟨hT,hxs⟩:=castT_some hcast
    cases hT
    have hxs:xs'=xs:=hxs
    subst hxs
    have hid:id<nx:=nL hid
    obtain ⟨zs,hz1,hz2⟩:=Option.bind_eq_some_iff.1 (show (sliceM xs' 0 n).bind (fun zs=>appM bts zs ys)=some r from hr)
    obtain ⟨b1,b2,b3,hzs0⟩:=sliceM_some hz1
    obtain ⟨hb,hzs⟩:=appM_some hz2
    simp only [Int.toNat_zero,List.drop_zero] at hzs0
    refine ok_fl2 rfl hd fun S w η a hi0 hlen ho=>?_
    have hk0:η nx=none:=hlen nx (nR _) (Nat.lt_succ_self _)
    obtain ⟨S1,hi,hg1⟩:=fzP_sound hi0 px
    have hv:=conP_sound hi hsrc (PM.mono hg1.keep (.refl _) (ev_sound hw hc hx hm2 ho))
    obtain ⟨base,len,cap,f1,f2,f3,f4,f5⟩:=ev_sound hw hc hs hm1 ho
    have hArr:∀ F:Cells,ArrH F S1 w (.slice base len cap) T xs'→ArrH F S1 w (a.eval s) T zs:=fun F hF=>by
     obtain ⟨base',cap',q1,q2,q3,q4⟩:=hF
     cases q1
     have hyl:zs.length=n.toNat:=by rw [hzs0];simp;omega
     rw [f5]
     refine ⟨base,cap,by rw [hyl],by omega,q3,q4.imp (fun h=>h) ?_⟩
     rintro ⟨b,off,q5,q6,q7,q8⟩
     exact ⟨b,off,q5,q6,q7,fun i y hy=>q8 i y (by
      have hil:=(gS.1 hy).1
      rw [hzs0,List.getElem?_take_of_lt (by omega)] at hy
      exact hy)⟩
    obtain ⟨F1,hF1,u,k1,hA⟩:=hi.read hlk
    rw [f1] at k1
    cases k1
    obtain ⟨v,w',F',g1,g2,g3,g4,g5,g6,g7,g8⟩:=ArrH.append' (ty:=o.type) hS hi.base hF1 hi.inw (hArr F1 hA) hv hb
    refine ⟨v,w',S1,η.add nx v,.inl (run_appendV hop g1),hg1.trans g3,.push hk0 _,Out.add _ _ _,?_,?_⟩
    ·show HInv B (η.add nx v) (((nx,.arr T r)::(id,.gone)::dP H px)++H) S1 w'
     rw [List.cons_append,List.cons_append,← fzP_eq,hzs]
     refine hi.move hk0 hlk (by omega) g3.below.size g3.lt g3.keep fun F2 hF2 hA2=>?_
     obtain ⟨u2,e1,hA2⟩:=hA2
     rw [f1] at e1
     cases e1
     obtain ⟨v2,w2,F2',p1,p2,p3,p4,p5,p6,p7,p8⟩:=ArrH.append' (ty:=o.type) hS hi.base hF2 hi.inw (hArr F2 hA2) hv hb
     rw [g1] at p1
     cases p1
     exact ⟨fun _ _ h=>.inl h,p7,p8,F2',⟨v,Eta.add_same _ _ _,p4⟩,fun b o h=>⟨p5 b o h,p6 b o h⟩⟩
    ·show CM S1 w' (η.add nx v) (.h nx) v
     exact ⟨Eta.add_same _ _ _,g2⟩
   ·cases h
  ·cases h
 ·cases h
theorem vaI_ok (hΓ:TabOK P Γ) {rd:Option Nat} {o:Oper} {e:Ev} {ctx:Ctx} {t:TypeId} {x i:Operand} {pv:PV} {R:RdR} (hop:o.op=.indexAddr t x i) (hw:Wf e) (hc:CtxH e ctx) (hx:ev e ctx x=some pv) (h:vaI Γ t pv (intE e ctx i) H nx=some R) (r:R.T) (hr:R.m=some r):R.OK P rd B o e (H,nx) r:=by
 have hd:∀ c,o.op≠.defer c:=by rw [hop];intro c hh;cases hh
 unfold vaI at h
 split at h
 ·rename_i el bts T id sz lo m hel hix
  split at h
  ·rename_i T' xs hlk
   split at h
   ·rename_i hb
    cases h
    simp only [bA] at hb
    have s1:=nB hb.1
    have s2:=nB hb.2
    obtain ⟨hc0,hc1⟩:=chk_some (n:=lenM xs-lo) hr
    have hI:=elOf_sound hΓ hel
    refine ok_fl1 rfl hd fun S w η a hiv ho=>?_
    obtain ⟨b,off,n,cap,g1,g2,g3,g4,g5⟩:=ev_sound hw hc hx (by rw [hop];simp [Op.operands]) ho
    have f0:=intE_sound hw hc hix (by rw [hop];simp [Op.operands]) ho
    obtain ⟨F1,_,u,g1',hA⟩:=hiv.read hlk
    rw [g1] at g1'
    cases g1'
    obtain ⟨base,cap',e1,e2,e3,e4⟩:=hA
    cases e1
    obtain ⟨ii,z,i1,i2,i3,i4,i5⟩:=hI.info
    have hsz:(sizeOf el).run P w=.ok sz w:=by simp [sizeOf,typeInfo,i1,i4];omega
    have hn:m<((xs.length-lo.toNat:Nat):Int):=by have:m<(xs.length:Int)-lo:=hc1;omega
    have e6:off+lo.toNat*sz+m.toNat*sz=off+(lo+m).toNat*sz+0:=by
     rw [Int.toNat_add g2 hc0,Nat.add_mul];omega
    refine ⟨_,run_ix hop (run_underlying hI.und w) hsz g5 f0 hc0 hn,b,off,_,cap,g1,?_⟩
    rw [e6]
   ·cases h
  ·cases h
 ·cases h
theorem vaL_ok (hΓ:TabOK P Γ) {rd:Option Nat} {o:Oper} {e:Ev} {ctx:Ctx} {t:TypeId} {x:Operand} {pv:PV} {R:RdR} (hop:o.op=.call { callee:=.builtin .len,args:=#[x],argTypes:=#[t] }) (hw:Wf e) (hc:CtxH e ctx) (hx:ev e ctx x=some pv) (h:vaL Γ t pv H nx=some R) (r:R.T):R.OK P rd B o e (H,nx) r:=by
 have hd:∀ c,o.op≠.defer c:=by rw [hop];intro c hh;cases hh
 unfold vaL at h
 split at h
 ·rename_i y id sz lo hel
  split at h
  ·rename_i T' xs hlk
   cases h
   obtain ⟨el,bts,T⟩:=y
   have hI:=elOf_sound hΓ hel
   refine ok_fl1 rfl hd fun S w η a hiv ho=>?_
   obtain ⟨b,off,n,cap,g1,g2,g3,g4,g5⟩:=ev_sound hw hc hx (by rw [hop];simp [Op.operands,Call.operands]) ho
   obtain ⟨F1,_,u,g1',hA⟩:=hiv.read hlk
   rw [g1] at g1'
   cases g1'
   obtain ⟨base,cap',e1,e2,e3,e4⟩:=hA
   cases e1
   refine ⟨goInt ((xs.length-lo.toNat:Nat):Int),by simp [execOp,hop,resolve,invoke,builtin,g5,Builtin.len_,Builtin.lenOf,run_underlying hI.und],PM.int.2 ⟨?_,?_⟩⟩
   ·unfold goInt
    congr 1
    show ((xs.length-lo.toNat:Nat):Int)=(xs.length:Int)-lo
    omega
   ·rw [has_i64];simp only [lenM,maxLen] at *;omega
  ·cases h
 ·cases h
theorem repL_zero {T:Ty} (S:Cells) (w:World) (k:Nat):RepL S w T (List.replicate k T.dflt) (Builtin.zeroCells T.zero.toArray k).toList:=by
 have hz:∀ k,(Builtin.zeroCells T.zero.toArray (k+1)).toList=T.zero++(Builtin.zeroCells T.zero.toArray k).toList:=fun k=>by
  have hp:=T.size_pos
  have hl:=T.zero_length
  apply List.ext_getElem?
  intro j
  by_cases hj:j<T.size
  ·rw [xL (by omega)]
   have:j<(k+1)*T.size:=by rw [Nat.add_mul];omega
   simp [Builtin.zeroCells,hl,this,Nat.mod_eq_of_lt hj]
   rw [gE (by omega)];simp
  ·rw [xR (by omega),hl]
   by_cases hj2:j<(k+1)*T.size
   ·have h2:j-T.size<k*T.size:=by rw [Nat.add_mul] at hj2;omega
    have h3:(j-T.size) % T.size=j % T.size:=by
     have:=Nat.add_mod_right (j-T.size) T.size
     rw [Nat.sub_add_cancel (by omega)] at this
     exact this.symm
    simp [Builtin.zeroCells,hl,hj2,h2,h3]
   ·have h2:¬ j-T.size<k*T.size:=by rw [Nat.add_mul] at hj2;omega
    simp [Builtin.zeroCells,hl,hj2,h2]
 induction k with
 | zero=>show (Builtin.zeroCells T.zero.toArray 0).toList=[];simp [Builtin.zeroCells]
 | succ k ih=>exact ⟨T.zero,_,hz k,T.zero_rep _ _,ih⟩
theorem ArrH.overAt {F:Cells} {u:Value} {T:Ty} {xs ys:List T.den} {news:List Value} {k:Nat} (hF:∀ b o,F b o→B≤b∧b<w.heap.size∧¬ S b o) (hin:InLt S w) (h:ArrH F S w u T xs) (hl:k+ys.length≤xs.length) (h0:0<ys.length)
  (hr:RepL S w T ys news):∃ b off cap,u=.slice (some ⟨b,off,none⟩) xs.length cap∧(∀ m,m<news.length→F b (off+k*T.size+m)∧World.there w b (off+k*T.size+m))∧Grow B S w S (w.setCells b (off+k*T.size) news)∧ArrH F S (w.setCells b (off+k*T.size) news) u T (xs.take k++(ys++xs.drop (k+ys.length))):=by
 obtain ⟨base,cap,rfl,c1,c2,c3⟩:=h
 have hnl:=hr.length
 rcases c3 with ⟨c3,_⟩ | ⟨b,off,rfl,hf,ht,hxs⟩
 ·omega
 have hm:xs.length*T.size≤cap*T.size:=Nat.mul_le_mul_right _ c1
 have hm2:(k+ys.length)*T.size≤xs.length*T.size:=Nat.mul_le_mul_right _ hl
 rw [Nat.add_mul] at hm2
 have hin2:∀ m,m<news.length→F b (off+k*T.size+m)∧World.there w b (off+k*T.size+m):=fun m hm=>⟨(hf _ _).2 ⟨rfl,by omega,by omega⟩,ht _ (by omega) (by omega)⟩
 have hpos:0<news.length:=by rw [hnl];exact Nat.mul_pos h0 T.size_pos
 have hst:Grow B S w S (w.setCells b (off+k*T.size) news):=Grow.stored hin (hF _ _ (hin2 0 hpos).1).1 fun m hm=>(hF _ _ (hin2 m hm).1).2.2
 have hcells:∀ m u,news[m]? = some u→(w.setCells b (off+k*T.size) news).cell? ⟨b,off+k*T.size+m,none⟩=some u:=fun m u hm=>by
  have hml:=(gS.1 hm).1
  rw [World.cell?_setCells_in b news _ w (fun m hm=>by obtain ⟨_,⟨v,hv⟩,_⟩:=hin2 m hm;rw [hv];rfl) m hml]
  rw [gE hml] at hm
  exact hm
 have hlen:(xs.take k++(ys++xs.drop (k+ys.length))).length=xs.length:=by simp;omega
 refine ⟨b,off,cap,rfl,hin2,hst,_,cap,by rw [hlen],by omega,c2,.inr ⟨b,off,rfl,hf,fun o h1 h2=>?_,fun m y hm=>?_⟩⟩
 ·obtain ⟨⟨z,hz⟩,hfz⟩:=ht o h1 h2
  refine ⟨?_,by rw [World.frozen?_setCells];exact hfz⟩
  by_cases hio:off+k*T.size≤o∧o<off+k*T.size+news.length
  ·have:=hcells (o-(off+k*T.size)) _ (gE (by omega))
   rw [show off+k*T.size+(o-(off+k*T.size))=o by omega] at this
   exact ⟨_,this⟩
  ·exact ⟨z,by rw [World.cell?_setCells_out b news _ w ⟨b,o,none⟩ fun _ _=>by simp only;omega];exact hz⟩
 ·have old:(m<k∨k+ys.length≤m)→xs[m]? = some y→∃ es,Rep S (w.setCells b (off+k*T.size) news) T y es∧∀ j v,es[j]? = some v→(w.setCells b (off+k*T.size) news).cell? ⟨b,off+m*T.size+j,none⟩=some v:=fun hmk hy=>by
   obtain ⟨es,he,hc⟩:=hxs m y hy
   refine ⟨es,he.keep hst.keep,fun j v hj=>?_⟩
   have hjl:j<T.size:=by rw [← he.length];exact (gS.1 hj).1
   rw [World.cell?_setCells_out b news _ w ⟨b,off+m*T.size+j,none⟩ fun _ _=>?_]
   ·exact hc j v hj
   ·simp only
    rcases hmk with hmk | hmk
    ·left
     have:(m+1)*T.size≤k*T.size:=Nat.mul_le_mul_right _ hmk
     rw [Nat.add_mul] at this
     omega
    ·right
     have:(k+ys.length)*T.size≤m*T.size:=Nat.mul_le_mul_right _ hmk
     rw [Nat.add_mul] at this
     omega
  by_cases hmk:m<k
  ·rw [xL (by simp;omega),List.getElem?_take_of_lt hmk] at hm
   exact old (.inl hmk) hm
  ·rw [xR (by simp;omega)] at hm
   simp only [lT,Nat.min_eq_left (show k≤xs.length by omega)] at hm
   by_cases hmy:m-k<ys.length
   ·rw [xL hmy] at hm
    obtain ⟨es,he,hc⟩:=hr.get (m-k) y hm
    refine ⟨es,he.keep hst.keep,fun j v hj=>?_⟩
    have e1:off+m*T.size+j=off+k*T.size+((m-k)*T.size+j):=by
     rw [show m*T.size=k*T.size+(m-k)*T.size by rw [← Nat.add_mul];congr 1;omega];omega
    rw [e1];exact hcells _ v (hc j v hj)
   ·rw [xR (by omega),List.getElem?_drop,show k+ys.length+(m-k-ys.length)=m by omega] at hm
    exact old (.inr (by omega)) hm
theorem vaC_ok (hΓ:TabOK P Γ) {rd:Option Nat} {o:Oper} {e:Ev} {ctx:Ctx} {t:TypeId} {x:Operand} {pv:PV} {R:RdR} (hop:o.op=.call { callee:=.builtin .clear,args:=#[x],argTypes:=#[t] }) (hw:Wf e) (hc:CtxH e ctx) (hx:ev e ctx x=some pv) (h:vaC Γ t pv H nx=some R) (r:R.T):R.OK P rd B o e (H,nx) r:=by
 have hd:∀ c,o.op≠.defer c:=by rw [hop];intro c hh;cases hh
 unfold vaC at h
 split at h
 ·rename_i el bts T id sz lo hel
  have hI:=elOf_sound hΓ hel
  split at h
  ·rename_i T' xs' hlk
   split at h
   ·rename_i xs hcast hb
    cases h
    obtain ⟨hT,hxx⟩:=castT_some hcast
    cases hT
    have hxx:xs'=xs:=hxx
    subst hxx
    have hb:=nB hb
    subst hb
    refine ok_fl2 rfl hd fun S w η a hi hlen ho=>?_
    obtain ⟨b,off,n,cap,g1,g2,g3,g4,g5⟩:=ev_sound hw hc hx (by rw [hop];simp [Op.operands,Call.operands]) ho
    obtain ⟨i,z,i1,i2,i3,i4,i5⟩:=hI.info
    obtain ⟨F1,hF1,u,g1',hA⟩:=hi.read hlk
    rw [g1] at g1'
    cases g1'
    have hlenx:n=xs'.length:=by obtain ⟨base,cap',e1,_⟩:=hA;cases e1;rfl
    subst hlenx
    obtain ⟨k,rfl⟩:∃ k:Nat,lo=(k:Int):=Int.eq_ofNat_of_zero_le g2
    have hk:k<xs'.length:=by omega
    have hrl:=repL_zero (T:=T) S w (xs'.length-k)
    generalize hnews:(Builtin.zeroCells T.zero.toArray (xs'.length-k)).toList=news at hrl
    have hclr:xs'.take k++(List.replicate (xs'.length-k) T.dflt++xs'.drop (k+(List.replicate (xs'.length-k) T.dflt).length))=clrM xs' (k:Int) T.dflt:=by
     unfold clrM
     rw [List.length_replicate,Int.toNat_natCast,show k+(xs'.length-k)=xs'.length by omega,List.drop_length,List.append_nil]
    have hnl:=hrl.length
    rw [List.length_replicate] at hnl
    have hnpos:0<news.length:=by rw [hnl];exact Nat.mul_pos (by omega) T.size_pos
    obtain ⟨b1,off1,cap1,hu1,hin,hg,hA'⟩:=ArrH.overAt (k:=k) hF1 hi.inw hA (ys:=List.replicate (xs'.length-k) T.dflt) (by rw [List.length_replicate];omega) (by rw [List.length_replicate];omega) hrl
    cases hu1
    rw [hclr] at hA'
    have hst:(storeCells ⟨b,off+k*T.size,none⟩ news 0).run P w=.ok () (w.setCells b (off+k*T.size) news):=by
     have:=run_storeCells_cells (P:=P) b (off+k*T.size) news 0 w (fun j hj=>by
      obtain ⟨_,⟨v,hv⟩,_⟩:=hin j hj
      rw [Nat.add_zero,hv];rfl) (fun j hj=>by rw [Nat.add_zero];exact (hin j hj).2.2) hrl.one
     rwa [Nat.add_zero] at this
    have hrun:(execOp a.eval o).run P w=.ok (.value (.tuple #[])) (w.setCells b (off+k*T.size) news):=by
     obtain ⟨m,hm⟩:∃ m,xs'.length-k=m+1:=⟨xs'.length-k-1,by omega⟩
     rw [Int.toNat_natCast,hm] at g5
     rw [hm] at hnews
     simp [execOp,hop,resolve,invoke,builtin,g5,Builtin.clear_,run_underlying hI.und,zeroValue,typeInfo,i1,i2,i3,hnews,hst]
    refine ⟨_,_,S,η,.inl hrun,hg,.refl _,Out.refl _ _ _,?_,[],rfl,.nil⟩
    show HInv B η ((id,.arr T (clrM xs' (k:Int) T.dflt))::H) S _
    refine hi.set hlk (by rw [size_setCells];exact nR _) hg.lt hg.keep fun G hG hAG=>?_
    obtain ⟨u2,q1,hAG⟩:=hAG
    rw [g1] at q1
    cases q1
    obtain ⟨b3,off3,cap3,hu3,hin3,hg3,hA3⟩:=ArrH.overAt (k:=k) hG hi.inw hAG (ys:=List.replicate (xs'.length-k) T.dflt) (by rw [List.length_replicate];omega) (by rw [List.length_replicate];omega) hrl
    cases hu3
    rw [hclr] at hA3
    refine ⟨fun _ _ h=>.inl h,fun b' o' _ hn=>⟨World.cell?_setCells_out b news _ w ⟨b',o',none⟩ fun hb _=>?_,World.frozen?_setCells _ _ _ _ _⟩,fun b' _ hn=>heap_setCells_ne b news _ w b' fun h=>hn _ (h▸(hin3 0 hnpos).1),G,⟨_,g1,hA3⟩,fun b o h=>⟨.inl h,by rw [size_setCells];exact (hG b o h).2.1,(hG b o h).2.2⟩⟩
    simp only at hb ⊢
    subst hb
    rcases Nat.lt_or_ge o' (off+k*T.size) with h | h
    ·exact .inl h
    ·refine .inr (Nat.le_of_not_lt fun hlt=>hn ?_)
     have:=(hin3 (o'-(off+k*T.size)) (by omega)).1
     rwa [show off+k*T.size+(o'-(off+k*T.size))=o' by omega] at this
   ·cases h
  ·cases h
 ·cases h
theorem emptT_kind (hΓ:TabOK P Γ) {t:TypeId} (h:emptT Γ t=true):∃ farr:Array Field,∀ w,(underlying t).run P w=.ok (.struct farr) w:=by
 unfold emptT at h
 simp only [bA] at h
 replace h:=h.2
 unfold emptT0 at h
 split at h
 ·rename_i ti hl
  have hk:=(hΓ.ty _ _ hl).kind
  split at h
  ·rename_i hkk
   rw [hkk] at hk
   obtain ⟨farr,h1,_⟩:=hk
   exact ⟨farr,h1⟩
  ·cases h
 ·cases h
theorem isIfc_kind (hΓ:TabOK P Γ) {t:TypeId} (h:isIfc Γ t=true):∃ ms,∀ w,(underlying t).run P w=.ok (.interface ms) w:=by
 unfold isIfc at h
 split at h
 ·rename_i ti hl
  have hk:=(hΓ.ty _ _ hl).kind
  split at h
  ·rename_i hkk
   rw [hkk] at hk
   exact hk
  ·cases h
 ·cases h
theorem payV_lt {t:TypeId} (h:emptT Γ t=true):payV t=.iface t (.agg #[]):=by
 unfold emptT at h
 simp only [bA] at h
 unfold payV
 rw [h.1]
theorem payV_if (T:TypeId):∃ T' v,payV T=.iface T' v:=by unfold payV;split<;>exact ⟨_,_,rfl⟩
theorem mkI_ok (hΓ:TabOK P Γ) {rd:Option Nat} {o:Oper} {e:Ev} {ctx:Ctx} {t:TypeId} {x:Operand} {pv:PV} {R:RdR} (hop:o.op=.makeInterface t x) (hw:Wf e) (hc:CtxH e ctx) (hx:ev e ctx x=some pv) (h:mkI Γ t pv H nx=some R) (r:R.T):R.OK P rd B o e (H,nx) r:=by
 have hd:∀ c,o.op≠.defer c:=by rw [hop];intro c hh;cases hh
 unfold mkI at h
 split at h
 ·rename_i hE
  cases h
  obtain ⟨farr,hu⟩:=emptT_kind hΓ hE
  refine ok_fl1 rfl hd fun S w η a hiv ho=>?_
  obtain ⟨vs,g1,g2⟩:=ev_sound hw hc hx (by rw [hop];simp [Op.operands]) ho
  cases g2
  exact ⟨.iface t (.agg #[]),by simp [execOp,hop,Instr.makeInterface,hu w,g1],(payV_lt hE).symm⟩
 ·cases h
theorem tyA_ok (hΓ:TabOK P Γ) {rd:Option Nat} {o:Oper} {e:Ev} {ctx:Ctx} {t xt:TypeId} {x:Operand} {pv:PV} {R:RdR} (hop:o.op=.typeAssert x xt t true) (hw:Wf e) (hc:CtxH e ctx) (hx:ev e ctx x=some pv) (h:tyA Γ t pv H nx=some R) (r:R.T):R.OK P rd B o e (H,nx) r:=by
 have hd:∀ c,o.op≠.defer c:=by rw [hop];intro c hh;cases hh
 unfold tyA at h
 split at h
 ·rename_i t' hE
  split at h
  ·rename_i hb
   cases h
   have:=nB hb
   subst this
   obtain ⟨farr,hu⟩:=emptT_kind hΓ hE
   refine ok_fl1 rfl hd fun S w η a hiv ho=>?_
   have g1:=ev_sound hw hc hx (by rw [hop];simp [Op.operands]) ho
   have g1:a.eval x=.iface t' (.agg #[]):=Eq.trans g1 (payV_lt hE)
   refine ⟨.tuple #[.agg #[],.bool true],by simp [execOp,hop,Instr.typeAssert,hu w,g1],[.agg #[],.bool true],rfl,.cons ⟨[],rfl,.nil⟩ (.cons ⟨rfl,VRep.bool.2 rfl⟩ .nil)⟩
  ·cases h
 ·cases h
theorem neIfc_ok (hΓ:TabOK P Γ) {rd:Option Nat} {o:Oper} {e:Ev} {ctx:Ctx} {op:BinOp} {t:TypeId} {x:Operand} {y0:Value} {hnt:_} {a0 b0:PV} {R:RdR} (hop:o.op=.binOp op t x (.const y0) hnt) (hw:Wf e) (hc:CtxH e ctx) (hx:ev e ctx x=some a0) (hy:ev e ctx (.const y0)=some b0) (h:neIfc Γ op t a0 b0 H nx=some R) (r:R.T):R.OK P rd B o e (H,nx) r:=by
 have hd:∀ c,o.op≠.defer c:=by rw [hop];intro c hh;cases hh
 unfold neIfc at h
 split at h
 ·rename_i T hE
  obtain ⟨ms,hu⟩:=isIfc_kind hΓ hE
  obtain ⟨T',v',ep⟩:=payV_if T
  have key:∀ w,(Op.equalIn (9999+1) t (.iface T' v') .nilIface).run P w=.ok false w:=fun w=>by rw [Op.equalIn,Sem.run_bind,hu w];rfl
  split at h
  ·cases h
   refine ok_fl1 rfl hd fun S w η a hiv ho=>?_
   have g1:a.eval x=payV T:=ev_sound hw hc hx (by rw [hop];simp [Op.operands]) ho
   rw [ep] at g1
   have g2:a.eval (.const y0)=.nilIface:=ev_sound hw hc hy (by rw [hop];simp [Op.operands]) ho
   have:=(eql_of (P:=P) (w:=w) (t:=t) rfl rfl (key w)).1
   exact ⟨.bool false,by rw [show (execOp a.eval o)=_ from by unfold execOp;rw [hop]];simp only [g1,g2];simp [eqGuard,this],PM.bool.2 rfl⟩
  ·cases h
   refine ok_fl1 rfl hd fun S w η a hiv ho=>?_
   have g1:a.eval x=payV T:=ev_sound hw hc hx (by rw [hop];simp [Op.operands]) ho
   rw [ep] at g1
   have g2:a.eval (.const y0)=.nilIface:=ev_sound hw hc hy (by rw [hop];simp [Op.operands]) ho
   have:=(eql_of (P:=P) (w:=w) (t:=t) rfl rfl (key w)).2
   exact ⟨.bool true,by rw [show (execOp a.eval o)=_ from by unfold execOp;rw [hop]];simp only [g1,g2];simp [eqGuard,this],PM.bool.2 rfl⟩
  ·cases h
 ·rename_i hE
  obtain ⟨ms,hu⟩:=isIfc_kind hΓ hE
  have key:∀ w,(Op.equalIn (9999+1) t .nilIface .nilIface).run P w=.ok true w:=fun w=>by rw [Op.equalIn,Sem.run_bind,hu w];rfl
  split at h
  ·cases h
   refine ok_fl1 rfl hd fun S w η a hiv ho=>?_
   have g1:a.eval x=.nilIface:=ev_sound hw hc hx (by rw [hop];simp [Op.operands]) ho
   have g2:a.eval (.const y0)=.nilIface:=ev_sound hw hc hy (by rw [hop];simp [Op.operands]) ho
   have:=(eql_of (P:=P) (w:=w) (t:=t) rfl rfl (key w)).1
   exact ⟨.bool true,by rw [show (execOp a.eval o)=_ from by unfold execOp;rw [hop]];simp only [g1,g2];simp [eqGuard,this],PM.bool.2 rfl⟩
  ·cases h
   refine ok_fl1 rfl hd fun S w η a hiv ho=>?_
   have g1:a.eval x=.nilIface:=ev_sound hw hc hx (by rw [hop];simp [Op.operands]) ho
   have g2:a.eval (.const y0)=.nilIface:=ev_sound hw hc hy (by rw [hop];simp [Op.operands]) ho
   have:=(eql_of (P:=P) (w:=w) (t:=t) rfl rfl (key w)).2
   exact ⟨.bool false,by rw [show (execOp a.eval o)=_ from by unfold execOp;rw [hop]];simp only [g1,g2];simp [eqGuard,this],PM.bool.2 rfl⟩
  ·cases h
 ·cases h
theorem opK_sound:OpF.Sound opK:=by
 intro P Γ hΓ rd B o e ctx H nx R h hw hc r hr
 unfold opK at h
 split at h
 ·rename_i t x lo hi mx hop
  exact slC_ok hΓ hop hw hc h r hr
 ·rename_i t x lo hop
  split at h
  ·rename_i pv hx
   exact vaS_ok hΓ hop hw hc hx h r hr
  ·cases h
 ·rename_i t x hi hop
  split at h
  ·rename_i pv hx
   split at h
   ·exact vhS_ok hΓ hop hw hc hx h r hr
   ·exact shK_ok hΓ hop hw hc hx h r hr
  ·cases h
 ·rename_i t x i hop
  split at h
  ·rename_i pv hx
   exact vaI_ok hΓ hop hw hc hx h r hr
  ·cases h
 ·rename_i t x hop
  split at h
  ·rename_i pv hx
   exact mkI_ok hΓ hop hw hc hx h r
  ·cases h
 ·rename_i x xt t hop
  split at h
  ·rename_i pv hx
   exact tyA_ok hΓ hop hw hc hx h r
  ·cases h
 ·rename_i op t x y hnt hop
  split at h
  ·rename_i a b hx hy
   exact neIfc_ok hΓ hop hw hc hx hy h r
  ·cases h
 ·rename_i c hop
  split at h
  ·rename_i x t hcal hxs hts
   have hce:=call_eta hcal hxs hts
   subst hce
   split at h
   ·rename_i pv hx
    exact vaL_ok hΓ hop hw hc hx h r
   ·cases h
  ·rename_i x t hcal hxs hts
   have hce:=call_eta hcal hxs hts
   subst hce
   split at h
   ·rename_i pv hx
    exact vaC_ok hΓ hop hw hc hx h r
   ·cases h
  ·rename_i s x t t' hcal hxs hts
   have hce:=call_eta hcal hxs hts
   subst hce
   split at h
   ·rename_i ps px hs hx hb
    have:=nB hb
    subst this
    exact vhA_ok hΓ hop hw hc hs hx h r hr
   ·cases h
  ·cases h
 ·cases h
end
section
variable {Γ:Tabs} {o:Oper} {e:Ev} {ctx:Ctx} {H H':PH} {nx:Nat}
theorem opK_fl {R:RdR} (h:opK Γ o e ctx H nx=some R):R.fl≠0:=by
 unfold opK at h
 split at h
 ·unfold slC at h;(repeat' split at h)<;>first | (cases h;exact sZ _) | cases h
 ·split at h
  ·unfold vaS at h;(repeat' split at h)<;>first | (cases h;exact sZ _) | cases h
  ·cases h
 ·split at h
  ·split at h
   ·unfold vhS at h;(repeat' split at h)<;>first | (cases h;exact sZ _) | cases h
   ·unfold shK at h;(repeat' split at h)<;>first | (cases h;exact sZ _) | cases h
  ·cases h
 ·split at h
  ·unfold vaI at h;(repeat' split at h)<;>first | (cases h;exact sZ _) | cases h
  ·cases h
 ·split at h
  ·unfold mkI at h;(repeat' split at h)<;>first | (cases h;exact sZ _) | cases h
  ·cases h
 ·split at h
  ·unfold tyA at h;(repeat' split at h)<;>first | (cases h;exact sZ _) | cases h
  ·cases h
 ·split at h
  ·unfold neIfc at h;(repeat' split at h)<;>first | (cases h;exact sZ _) | cases h
  ·cases h
 ·split at h
  ·split at h
   ·unfold vaL at h;(repeat' split at h)<;>first | (cases h;exact sZ _) | cases h
   ·cases h
  ·split at h
   ·unfold vaC at h;(repeat' split at h)<;>first | (cases h;exact sZ _) | cases h
   ·cases h
  ·split at h
   ·unfold vhA at h;(repeat' split at h)<;>first | (cases h;exact sZ _) | cases h
   ·cases h
  ·cases h
 ·cases h
theorem srcIds {T:Ty} {pv:PV} (h:Ag pv.ids H H'):srcOf H' T pv=srcOf H T pv∧dP H' pv=dP H pv:=⟨srcOf_loc h,dP_loc h⟩
theorem opK_nice:opK.Nice:=by
 constructor
 ·intro Γ o e ctx H H' nx h
  unfold opK
  split
  ·rename_i t x lo hi mx hop
   unfold slC
   generalize elOf Γ t=q
   cases hx:ev e ctx x with
   | none=>cases q<;>rfl
   | some pv =>
    have h1:Ag pv.ids H H':=opIdsG (l:=[lo,hi,mx]) (by rw [hop];simp [Op.operands]) hx h
    cases q with
    | none=>rfl
    | some y=>obtain ⟨_,_,T⟩:=y;simp only [(srcIds (T:=T) h1).1,(srcIds (T:=T) h1).2]
  ·rename_i t x lo hop
   split
   ·rename_i pv hx
    have h1:Ag pv.ids H H':=opIdsG (l:=[lo]) (by rw [hop];simp [Op.operands]) hx h
    unfold vaS
    generalize elOf Γ t=q
    generalize intE e ctx lo=q1
    split
    ·have h2:=Ag.one h1
     simp only [h2]
     rfl
    ·rfl
   ·rfl
  ·rename_i t x hi hop
   split
   ·rename_i pv hx
    have h1:Ag pv.ids H H':=opIdsG (l:=[hi]) (by rw [hop];simp [Op.operands]) hx h
    split
    ·unfold vhS
     generalize elOf Γ t=q
     generalize intE e ctx hi=q1
     split
     ·have h2:=Ag.one h1
      simp only [h2]
      rfl
     ·rfl
    ·unfold shK
     generalize elOf Γ t=q
     generalize intE e ctx hi=q1
     split
     ·have h2:=Ag.one h1
      simp only [h2]
     ·rfl
   ·rfl
  ·rename_i t x i hop
   split
   ·rename_i pv hx
    have h1:Ag pv.ids H H':=opIdsG (l:=[i]) (by rw [hop];simp [Op.operands]) hx h
    unfold vaI
    generalize elOf Γ t=q
    generalize intE e ctx i=q1
    split
    ·have h2:=Ag.one h1
     simp only [h2]
     rfl
    ·rfl
   ·rfl
  ·rfl
  ·rfl
  ·rfl
  ·rename_i c hop
   split
   ·rename_i x t hcal ha ht
    split
    ·rename_i pv hx
     have h1:Ag pv.ids H H':=opIdsG (l:=[]) (by rw [hop];simp [Op.operands,Call.operands,hcal,ha]) hx h
     unfold vaL
     generalize elOf Γ t=q
     split
     ·have h2:=Ag.one h1
      simp only [h2]
      rfl
     ·rfl
    ·rfl
   ·rename_i x t hcal ha ht
    split
    ·rename_i pv hx
     have h1:Ag pv.ids H H':=opIdsG (l:=[]) (by rw [hop];simp [Op.operands,Call.operands,hcal,ha]) hx h
     unfold vaC
     generalize elOf Γ t=q
     split
     ·have h2:=Ag.one h1
      simp only [h2]
     ·rfl
    ·rfl
   ·rename_i s x t t' hcal ha ht
    split
    ·rename_i ps px hs hx ht'
     obtain ⟨h1,h2⟩:=opIds2 (by rw [hop];simp [Op.operands,Call.operands,hcal,ha]) hs hx h
     unfold vhA
     generalize elOf Γ t=q
     split
     ·have h3:=Ag.one h1
      rename_i id n
      have h4:lk (fzP H' px) id=lk (fzP H px) id:=by
       rw [fzP_eq,fzP_eq,dP_loc h2];exact (h1.app _) id (by simp [PV.ids])
      simp only [h4,srcOf_loc h2,dP_loc h2]
     ·rfl
    ·rfl
   ·rfl
  ·rfl
 ·intro Γ o e ctx H nx R h h0 H'
  exact absurd h0 (opK_fl h)
end
def OPSK:OpF:=OPSG.or opK
theorem OPSK_sound:OPSK.Sound:=OPSG_sound.or opK_sound
theorem OPSK_nice:OPSK.Nice:=OPSG_nice.or' opK_nice fun Γ o e ctx H nx R h h0 hn H'=>absurd h0 (opK_fl h)

def trimM (s c:List UInt8):Option (List UInt8):=match c.all (fun b=>decide (b.toNat<128)),decide (c.length<4294967281) with
 | true,true=>some (Lib.trimS s c)
 | _,_=>none
def rptM (s:List UInt8) (n:Int):Option (List UInt8):=match decide (0≤n),decide (s.length*n.toNat≤140737488355328),decide (n≤9223372036854775807) with
 | true,true,true=>some (Lib.repeatL s n.toNat)
 | _,_,_=>none
def catB (x y:List UInt8):Option (List UInt8):=match Nat.ble (x.length+y.length) 140737488355328 with
 | true=>some (x++y)
 | false=>none
def pushB (x:List UInt8) (c:Int):Option (List UInt8):=match Nat.ble (x.length+1) 140737488355328 with
 | true=>some (x++[UInt8.ofNat c.toNat])
 | false=>none
def bldOf (Γ:Tabs) (TB e:TypeId) (o:Option PO):Option (TypeId×List UInt8):=match o with
 | some (.bld T e' s)=>match lk Γ.bt T with
  | some (TB',e'')=>match Nat.beq TB TB',Nat.beq e e',Nat.beq e e'' with
   | true,true,true=>some (T,s)
   | _,_,_=>none
  | none=>none
 | _=>none
def growM {α:Type} (n:Int) (d:α):Option (List α):=match decide (0≤n),decide (n≤1000000) with
 | true,true=>some []
 | _,_=>none
def exR (Γ:Tabs) (g:FuncId) (args:List RV) (H:PH) (nx:Nat):Option RdR:=match lk Γ.ex g,args with
 | some (.atoi m),[.c (.d .str s)]=>some (rdr (m s) (0:Int) (fun n=>.t [.c (.d (.int .i64) n),.c (.l .nilI)]) H nx)
 | some (.wstr TB e),[.c (.p id 0),.c (.d .str t)]=>match bldOf Γ TB e (lk H id),Nat.ble t.length 9223372036854775807 with
  | some (T,s),_=>some (wr (catB s t) [] (fun _=>.t [.c (.d (.int .i64) (lenM t)),.c (.l .nilI)]) (fun r=>[(id,.bld T e r)]) nx)
  | none,_=>none
 | some (.wbyt TB e),[.c (.p id 0),.c (.d (.int .u8) c)]=>match bldOf Γ TB e (lk H id) with
  | some (T,s)=>some (wr (pushB s c) [] (fun _=>.c (.l .nilI)) (fun r=>[(id,.bld T e r)]) nx)
  | none=>none
 | some (.stri TB e),[.c (.p id 0)]=>match bldOf Γ TB e (lk H id) with
  | some (T,s)=>some (wr (some s) [] (fun r=>.c (.d .str r)) (fun _=>[(id,.gone)]) nx)
  | none=>none
 | some (.grow t),[.c (.l .nilS),.c (.d (.int .i64) n)]=>some (wr (growM n t.dflt) [] (fun _=>.c (.h nx)) (fun ys=>[(nx,.arr t ys)]) (nx+1))
 | _,_=>none
def alB (Γ:Tabs) (t:TypeId) (H:PH) (nx:Nat):Option RdR:=match lk Γ.bt t with
 | some (_,e)=>some (wn (some ()) () (fun _=>.c (.p nx 0)) (fun _=>.bld t e []) H nx)
 | none=>none
def subL (T:Ty) (x:T.den) (T':Ty) (sz:Nat):Nat→Option (List T'.den)
 | 0=>some []
 | n+1=>match subL T x T' sz n,T.sub x (n*sz) T' with
  | some l,some y=>some (l++[y])
  | _,_=>none
def ixP (Γ:Tabs) (t:TypeId) (x i:Option PV) (H:PH) (nx:Nat):Option RdR:=match lk Γ.ty t,x,i with
 | some ti,some (.fp T x),some (.r (.c (.d (.int _) i)))=>match ti.kind with
  | .array n el=>match lk Γ.ty el with
   | some te=>match te.ty with
    | some T'=>match subL T x T' te.size n with
     | some ys=>some (rdr (idxM ys i) T'.dflt (fun y=>.fp T' y) H nx)
     | none=>none
    | none=>none
   | none=>none
  | _=>none
 | _,_,_=>none
def strB (xs:List Int):List UInt8:=xs.map fun n=>UInt8.ofNat n.toNat
def bytR (H:PH) (pv:PV):Option (List Int):=match pv with
 | .r (.c (.q (.int .u8) xs))=>some xs
 | .r (.c (.fu (.int .u8) xs))=>some xs
 | .vw id lo n _=>match lk H id with
  | some (.flat m (.int .u8) xs)=>match Nat.ble (lo+n) m&&Nat.ble m 1000000 with
   | true=>some (partV xs lo n)
   | false=>none
  | _=>none
 | .r (.c (.d (.list (.int .u8)) xs))=>some xs
 | .r (.c (.h id))=>match lk H id with
  | some (.arr (.int .u8) xs)=>some xs
  | _=>none
 | _=>none
def bsC (Γ:Tabs) (s d:TypeId) (x:Option PV) (H:PH) (nx:Nat):Option RdR:=match lk Γ.ty s,lk Γ.ty d,x with
 | some ts,some td,some pv=>match ts.kind,td.kind,bytR H pv with
  | .slice el _,.str,some xs=>match lk Γ.ty el with
   | some te=>match te.kind with
    | .int .u8=>some (rdr (some (strB xs)) ([]:List UInt8) (fun r=>.c (.d .str r)) H nx)
    | _=>none
   | none=>none
  | _,_,_=>none
 | _,_,_=>none
def op8:OpF:=fun Γ o e ctx H nx=>match o.op with
 | .convert s d x=>bsC Γ s d (ev e ctx x) H nx
 | .alloc t=>alB Γ t H nx
 | .indexAddr t x i=>ixP Γ t (ev e ctx x) (ev e ctx i) H nx
 | .call c=>match c.callee,argsE e ctx c.args.toList with
  | .value f,some args=>match ev e ctx f with
   | some (.r (.c (.f g [] [])))=>exR Γ g args H nx
   | _=>none
  | _,_=>none
 | _=>none
section
variable {P:Program} {Γ:Tabs} {B:Nat} {S:Cells} {w:World} {η:Eta} {H:PH} {nx:Nat}
theorem bldOf_some {TB e:TypeId} {o:Option PO} {T:TypeId} {s:List UInt8} (h:bldOf Γ TB e o=some (T,s)):o=some (.bld T e s)∧lk Γ.bt T=some (TB,e):=by
 unfold bldOf at h
 split at h
 ·rename_i T' e' s'
  split at h
  ·rename_i TB' e'' hl
   split at h
   ·rename_i h1 h2 h3
    have h1:=nB h1
    have h2:=nB h2
    have h3:=nB h3
    cases h
    subst h1 h2 h3
    exact ⟨rfl,hl⟩
   ·cases h
  ·cases h
 ·cases h
theorem BldChg.grow {b B:Nat} {w':World} {u u':Value} {F:Cells} (hc:BldChg w w' b u u') (hin:InLt S w) (hF:∀ b o,F b o→B≤b∧b<w.heap.size∧¬ S b o) (hFe:∀ b' o,F b' o↔b'=b∨u.ownBlock=some b') :
  Grow B S w S w'∧(∀ b o,b<w.heap.size→¬ F b o→w'.cell? ⟨b,o,none⟩=w.cell? ⟨b,o,none⟩∧w'.frozen? ⟨b,o,none⟩=w.frozen? ⟨b,o,none⟩)∧∀ b,b<w.heap.size→(∀ o,¬ F b o)→w'.heap[b]? = w.heap[b]? := by
 have hblk:∀ k,k<w.heap.size→¬ F k 0→w'.heap[k]? = w.heap[k]? := fun k hk hn=>hc.block k hk (fun e=>hn ((hFe k 0).2 (.inl e))) fun e=>hn ((hFe k 0).2 (.inr e))
 have hno:∀ {k o},¬ F k o→¬ F k 0:=fun h h'=>h ((hFe _ _).2 ((hFe _ _).1 h'))
 refine ⟨⟨⟨hc.os,hc.tape,hc.output,hc.size,fun k hk=>?_⟩,⟨fun _ _ h=>h,fun k o h=>?_⟩,fun k o h=>Nat.lt_of_lt_of_le (hin k o h) hc.size,fun _ _ h=>.inl h,hc.lk⟩,fun k o hk hn=>?_,fun k hk hn=>hblk k hk (hn 0)⟩
 ·rcases Nat.lt_or_ge k w.heap.size with h | h
  ·exact hblk k h fun hf=>absurd (hF k 0 hf).1 (by omega)
  ·-- a block that was not there lies above B
   by_cases hb:B≤w.heap.size
   ·omega
   ·have:=hF b 0 ((hFe b 0).2 (.inl rfl))
    omega
 ·have:=hblk k (hin k o h) (hno fun hf=>(hF k o hf).2.2 h)
  exact World.cell?_of_block (a:=⟨k,o,none⟩) this
 ·have:=hblk k hk (hno hn)
  exact ⟨World.cell?_of_block (a:=⟨k,o,none⟩) this,World.frozen?_of_block (a:=⟨k,o,none⟩) this⟩
theorem BldAt.lt {w:World} {b:Nat} {T e:TypeId} {u:Value} {s:List UInt8} (h:BldAt w b T e u s):b<w.heap.size∧∀ k,u.ownBlock=some k→k<w.heap.size:=by
 obtain ⟨p,h1,_,h2,_⟩:=h
 exact ⟨(aS.1 h1).1,fun k hk=>(h2.lt k hk).2⟩
theorem bld_set {id b:Nat} {T e:TypeId} {s s':List UInt8} {u u':Value} {w':World} (hi:HInv B η H S w) (hl:lk H id=some (.bld T e s)) (hb:η id=some (.pointer (some ⟨b,0,none⟩))) (hu:BldAt w b T e u s) (hu':BldAt w' b T e u' s') (hc:BldChg w w' b u u') :
  Grow B S w S w'∧HInv B η ((id,.bld T e s')::H) S w':=by
 have key:∀ F1:Cells,POH η id F1 S w (.bld T e s)→∀ b' o,F1 b' o↔b'=b∨u.ownBlock=some b':=by
  intro F1 hP b' o
  obtain ⟨b2,e2,u2,⟨p2,h2,_⟩,hF⟩:=hP
  rw [hb] at e2
  cases e2
  obtain ⟨p1,h1,_⟩:=hu
  rw [h1] at h2
  cases h2
  exact hF b' o
 obtain ⟨F1,hF1,hP1⟩:=hi.read hl
 have hg:=hc.grow hi.inw.lt hF1 (key F1 hP1)
 refine ⟨hg.1,hi.set hl hc.size hg.1.lt hg.1.keep fun F2 hF2 hP2=>?_⟩
 have hFe:=key F2 hP2
 have hg2:=hc.grow hi.inw.lt hF2 hFe
 refine ⟨fun _ _ h=>.inl h,hg2.2.1,hg2.2.2,fun b' o=>b'=b∨u'.ownBlock=some b',⟨b,hb,u',hu',fun _ _=>Iff.rfl⟩,fun b' o h=>?_⟩
 have hlt:=hu'.lt
 have h1:F2 b' o∨w.heap.size≤b':=by
  rcases h with h | h
  ·exact .inl ((hFe b' o).2 (.inl h))
  ·rcases hc.own b' h with h | h
   ·exact .inl ((hFe b' o).2 (.inr h))
   ·exact .inr h
 refine ⟨h1,?_,fun hs=>?_⟩
 ·rcases h with h | h
  ·rw [h];exact hlt.1
  ·exact hlt.2 _ h
 ·rcases h1 with h1 | h1
  ·exact (hF2 b' o h1).2.2 hs
  ·have:=hi.inw.lt b' o hs
   omega
theorem bld_gone {id b:Nat} {T e:TypeId} {s:List UInt8} {u u':Value} {w':World} (hi:HInv B η H S w) (hl:lk H id=some (.bld T e s)) (hb:η id=some (.pointer (some ⟨b,0,none⟩))) (hu:BldAt w b T e u s) (hc:BldChg w w' b u u') :
  Grow B S w S w'∧HInv B η ((id,.gone)::H) S w':=by
 have key:∀ F1:Cells,POH η id F1 S w (.bld T e s)→∀ b' o,F1 b' o↔b'=b∨u.ownBlock=some b':=by
  intro F1 hP b' o
  obtain ⟨b2,e2,u2,⟨p2,h2,_⟩,hF⟩:=hP
  rw [hb] at e2
  cases e2
  obtain ⟨p1,h1,_⟩:=hu
  rw [h1] at h2
  cases h2
  exact hF b' o
 obtain ⟨F1,hF1,hP1⟩:=hi.read hl
 have hg:=hc.grow hi.inw.lt hF1 (key F1 hP1)
 refine ⟨hg.1,hi.set hl hc.size hg.1.lt hg.1.keep fun F2 hF2 hP2=>?_⟩
 have hg2:=hc.grow hi.inw.lt hF2 (key F2 hP2)
 exact ⟨fun _ _ h=>.inl h,hg2.2.1,hg2.2.2,fun _ _=>False,fun _ _ h=>h,fun _ _ h=>h.elim⟩
theorem catB_some {x y r:List UInt8} (h:catB x y=some r):x.length+y.length≤140737488355328∧r=x++y:=by
 unfold catB at h
 split at h
 ·rename_i h0
  cases h
  exact ⟨nL h0,rfl⟩
 ·cases h
theorem pushB_some {x r:List UInt8} {c:Int} (h:pushB x c=some r):x.length+1≤140737488355328∧r=x++[UInt8.ofNat c.toNat]:=by
 unfold pushB at h
 split at h
 ·rename_i h0
  cases h
  exact ⟨nL h0,rfl⟩
 ·cases h
theorem growM_some {α:Type} {n:Int} {d:α} {r:List α} (h:growM n d=some r):0≤n∧n≤1000000∧r=[]:=by
 unfold growM at h
 split at h
 ·rename_i h1 h2
  cases h
  exact ⟨oD h1,oD h2,rfl⟩
 ·cases h
theorem exR_ok (hΓ:TabOK P Γ) {rd:Option Nat} {o:Oper} {e:Ev} {ctx:Ctx} {c:Call} {f:Operand} {g:FuncId} {args:List RV} {R:RdR} (hop:o.op=.call c) (hcal:c.callee=.value f) (ha:argsE e ctx c.args.toList=some args) (hw:Wf e) (hc:CtxH e ctx) (hf:ev e ctx f=some (.r (.c (.f g [] [])))) (h:exR Γ g args H nx=some R) (r:R.T) (hr:R.m=some r) :
  R.OK P rd B o e (H,nx) r:=by
 have hops:o.op.operands.toList=f::c.args.toList:=by simp [hop,Op.operands,Call.operands,hcal]
 have call:∀ {S w η} {a:Act} {x:Ext},lk Γ.ex g=some x→InW S w→En.Only (lk e) (opReads o) S w η a.tmps→∃ vs:List Value,All2 (RM S w η) args vs ∧
   ∀ {Q:Ending→World→Prop} {K:Act→World→Prop},Calls P g vs.toArray w Q→(∀ en w',Q en w'→∃ v,en=.returned v∧K (a.put o.dst v) w')→OpW P rd o a w K:=by
  intro S w η a x hx hi ho
  obtain ⟨vf,vc,he,q1,q2⟩:=ev_sound hw hc hf (by rw [hops];simp) ho
  cases q1;cases q2
  have hva:=argsE_sound hw hc ho ha fun x hx=>by rw [hops];simp [hx]
  refine ⟨_,hva,fun {Q K} hcall hK=>?_⟩
  have hex:(execOp a.eval o).run P w=.ok (.enter g (c.args.toList.map a.eval).toArray) w:=by
   simp [execOp,hop,resolve,hcal,he,Deferred.ofValue,invoke,← Array.toList_map]
   exact (hΓ.ex g x hx).1 _ w
  refine OpW.enter (by simp [hop]) hex ?_
  have hcl:CallsIn (FR rd) 0 P g (c.args.toList.map a.eval).toArray w _:=callsIn_wide (n:=0) |>.2 hcall
  exact hcl.mono fun en w' hq=>hK en w' hq
 unfold exR at h
 split at h
 ·-- strconv.Atoi
  rename_i m s hx
  cases h
  obtain ⟨n,hn⟩:∃ n:Int,n=r:=⟨r,rfl⟩
  subst hn
  obtain ⟨h64,hcl⟩:=(hΓ.ex g _ hx).2 s n hr
  intro S w η a hi ho
  obtain ⟨vs,hvs,hcall⟩:=call hx hi.inw ho
  cases hvs with
  | cons h1 h2 =>
   cases h2
   obtain ⟨rfl,hlen⟩:=(PM.str (S:=S) (w:=w) (η:=η)).1 h1
   refine hcall (hcl S w hi.inw) fun en w' ⟨S',he,hg⟩=>⟨_,he,⟨_,S',rfl,hg,[.int .i64 n,.nilIface],rfl,.cons (PM.int (S:=S') (w:=w') (η:=η) |>.2 ⟨rfl,h64⟩) (.cons rfl .nil)⟩⟩
 ·-- WriteString
  rename_i TB e0 id t hx
  split at h
  ·rename_i T s hb
   cases h
   obtain ⟨hl,hbt⟩:=bldOf_some hb
   have hBT:=hΓ.bt T _ hbt
   obtain ⟨r',hr'⟩:∃ r':List UInt8,r'=r:=⟨r,rfl⟩
   subst hr'
   obtain ⟨c1,rfl⟩:=catB_some hr
   have hcl:=(hΓ.ex g _ hx).2 T hBT
   intro S w η a hi hlen ho
   obtain ⟨vs,hvs,hcall⟩:=call hx hi.inw ho
   cases hvs with
   | cons h1 h2 =>
    cases h2 with
    | cons h2 h3 =>
     cases h3
     obtain ⟨b,e1,rfl⟩:=h1
     obtain ⟨rfl,hlt⟩:=(PM.str (S:=S) (w:=w) (η:=η)).1 h2
     obtain ⟨F1,_,b',e1',u,hu,_⟩:=hi.read hl
     rw [e1] at e1'
     cases e1'
     refine hcall (hcl b u s t w hu c1) fun en w' ⟨u',he,hu',hch⟩=>⟨_,he,?_⟩
     obtain ⟨g1,g2⟩:=bld_set hi hl e1 hu hu' hch
     refine ⟨_,S,η,rfl,g1,.refl _,Out.refl _ _ _,g2,[.int .i64 t.length,.nilIface],rfl,.cons (len_pm hlt) (.cons rfl .nil)⟩
  ·cases h
 ·-- WriteByte
  rename_i TB e0 id c0 hx
  split at h
  ·rename_i T s hb
   cases h
   obtain ⟨hl,hbt⟩:=bldOf_some hb
   have hBT:=hΓ.bt T _ hbt
   obtain ⟨r',hr'⟩:∃ r':List UInt8,r'=r:=⟨r,rfl⟩
   subst hr'
   obtain ⟨c1,rfl⟩:=pushB_some hr
   have hcl:=(hΓ.ex g _ hx).2 T hBT
   intro S w η a hi hlen ho
   obtain ⟨vs,hvs,hcall⟩:=call hx hi.inw ho
   cases hvs with
   | cons h1 h2 =>
    cases h2 with
    | cons h2 h3 =>
     cases h3
     obtain ⟨b,e1,rfl⟩:=h1
     obtain ⟨rfl,hlt⟩:=(PM.int (S:=S) (w:=w) (η:=η)).1 h2
     obtain ⟨F1,_,b',e1',u,hu,_⟩:=hi.read hl
     rw [e1] at e1'
     cases e1'
     have hc0:c0=((UInt8.ofNat c0.toNat).toNat:Int):=by
      have:=has_u8.1 hlt
      rw [UInt8.toNat_ofNat',Nat.mod_eq_of_lt (by omega),Int.toNat_of_nonneg this.1]
     have hcall2:=hcl b u s (UInt8.ofNat c0.toNat) w hu c1
     rw [← hc0] at hcall2
     refine hcall hcall2 fun en w' ⟨u',he,hu',hch⟩=>⟨_,he,?_⟩
     obtain ⟨g1,g2⟩:=bld_set hi hl e1 hu hu' hch
     exact ⟨_,S,η,rfl,g1,.refl _,Out.refl _ _ _,g2,rfl⟩
  ·cases h
 ·-- String
  rename_i TB e0 id hx
  split at h
  ·rename_i T s hb
   cases h
   obtain ⟨hl,hbt⟩:=bldOf_some hb
   have hBT:=hΓ.bt T _ hbt
   obtain ⟨r',hr'⟩:∃ r':List UInt8,r'=r:=⟨r,rfl⟩
   subst hr'
   have hs:s=r':=Option.some.inj hr
   subst hs
   have hcl:=(hΓ.ex g _ hx).2 T hBT
   intro S w η a hi hlen ho
   obtain ⟨vs,hvs,hcall⟩:=call hx hi.inw ho
   cases hvs with
   | cons h1 h2 =>
    cases h2
    obtain ⟨b,e1,rfl⟩:=h1
    obtain ⟨F1,_,b',e1',u,hu,_⟩:=hi.read hl
    rw [e1] at e1'
    cases e1'
    refine hcall (hcl b u s w hu) fun en w' ⟨he,hch⟩=>⟨_,he,?_⟩
    obtain ⟨g1,g2⟩:=bld_gone hi hl e1 hu hch
    have hsl:s.length≤maxLen:=by
     obtain ⟨p,_,_,ho,_⟩:=hu
     rcases ho.2 with ⟨_,h0⟩ | ⟨_,cap,_,_,_,_,h1,h2,_⟩
     ·omega
     ·omega
    exact ⟨_,S,η,rfl,g1,.refl _,Out.refl _ _ _,g2,PM.str.2 ⟨rfl,hsl⟩⟩
  ·cases h
 ·-- Grow of nil
  rename_i T n hx
  cases h
  obtain ⟨ys,hys⟩:∃ ys:List T.den,ys=r:=⟨r,rfl⟩
  subst hys
  obtain ⟨n0,n1,rfl⟩:=growM_some (d:=T.dflt) hr
  have hcl:=(hΓ.ex g _ hx).2 n n0 n1
  show ∀ (S:Cells) (w:World) (η:Eta) (a:Act),HInv B η H S w→Free η nx (nx+1)→En.Only (lk e) (opReads o) S w η a.tmps→_
  intro S w η a hi hfree ho
  have hk0:η nx=none:=hfree nx (nR _) (Nat.lt_succ_self _)
  obtain ⟨vs,hvs,hcall⟩:=call hx hi.inw ho
  cases hvs with
  | cons h1 h2 =>
   cases h2 with
   | cons h2 h3 =>
    cases h3
    cases h1
    obtain ⟨rfl,_⟩:=(PM.int (S:=S) (w:=w) (η:=η)).1 h2
    refine hcall (hcl S w hi.inw) fun en w' ⟨u,S',F,q1,q2,q3,q4,q5⟩=>⟨u,q1,?_⟩
    refine ⟨u,S',η.add nx u,rfl,q3.mono hi.base,.push hk0 _,Out.add _ _ _,?_,?_⟩
    ·show HInv B _ ((nx,.arr T [])::H) S' w'
     exact hi.new hk0 q3.below.size q3.lt q3.keep q3.new (fun b hb=>q3.below.block b hb) F ⟨u,Eta.add_same _ _ _,q4⟩ q5
    ·change _∧_
     exact ⟨Eta.add_same _ _ _,q2⟩
 ·cases h
theorem alB_ok (hΓ:TabOK P Γ) {rd:Option Nat} {o:Oper} {e:Ev} {t:TypeId} {R:RdR} (hop:o.op=.alloc t) (h:alB Γ t H nx=some R) (r:R.T):R.OK P rd B o e (H,nx) r:=by
 have hd:∀ c,o.op≠.defer c:=by rw [hop];intro c hh;cases hh
 unfold alB at h
 split at h
 ·rename_i TB e0 hbt
  cases h
  obtain ⟨z,hz1,hz2⟩:=(hΓ.bt t _ hbt).zero
  refine ok_fl2 rfl hd fun S w η a hi hlen ho=>?_
  have hk0:η nx=none:=hlen nx (nR _) (Nat.lt_succ_self _)
  have hin:InLt S (w.alloc (.cells #[.pointer none,.slice none 0 0] t)):=fun b o h=>by
   have:=hi.inw.lt b o h
   simp only [World.size_alloc]
   omega
  have hk:Keep S w S (w.alloc (.cells #[.pointer none,.slice none 0 0] t)):=⟨fun _ _ h=>h,fun b o h=>World.cell?_of_block (a:=⟨b,o,none⟩) (Below.heap_alloc _ _ _ (hi.inw.lt b o h))⟩
  have hg:Grow B S w S (w.alloc (.cells #[.pointer none,.slice none 0 0] t)):=⟨(Below.refl _ _).alloc hi.base _,hk,hin,fun _ _ h=>.inl h,LK.alloc _ _⟩
  refine ⟨.pointer (some ⟨w.heap.size,0,none⟩),_,S,η.add nx (.pointer (some ⟨w.heap.size,0,none⟩)),.inl (by simp [execOp,hop,Instr.alloc,hz1,newVar,newRow,hz2]),hg,.push hk0 _,Out.add _ _ _,?_,?_⟩
  ·show HInv B _ ((nx,.bld t e0 [])::H) S _
   refine hi.new hk0 (by simp) hin hk (fun _ _ h=>.inl h) (fun b hb=>Below.heap_alloc _ _ _ hb) (fun b o=>b=w.heap.size) ⟨w.heap.size,Eta.add_same _ _ _,.slice none 0 0,⟨.pointer none,heap_alloc_new _ _,.inl rfl,World.ownsRow_nil _ _ _ _,(fun h=>by cases h),fun _=>rfl⟩,fun b' o=>⟨.inl,fun h=>h.elim id fun h=>by cases h⟩⟩ fun b o h=>by
    subst h
    exact ⟨nR _,by simp,fun hs=>absurd (hi.inw.lt _ o hs) (Nat.lt_irrefl _)⟩
  ·change ∃ b,_∧_
   exact ⟨w.heap.size,Eta.add_same _ _ _,rfl⟩
 ·cases h
theorem subL_some {T T':Ty} {x:T.den} {sz:Nat}:∀ {n:Nat} {ys:List T'.den},subL T x T' sz n=some ys→ys.length=n∧∀ i y,ys[i]? = some y→T.sub x (i*sz) T'=some y
 | 0,ys,h=>by cases h;exact ⟨rfl,fun i y hy=>by cases hy⟩
 | n+1,ys,h=>by
  unfold subL at h
  split at h
  ·rename_i l y h1 h2
   cases h
   obtain ⟨h3,h4⟩:=subL_some h1
   refine ⟨by simp [h3],fun i z hz=>?_⟩
   by_cases hi:i<l.length
   ·rw [xL hi] at hz
    exact h4 i z hz
   ·rw [xR (by omega)] at hz
    have hi2:i=n:=by
     have:=(gS.1 hz).1
     simp only [List.length_cons,List.length_nil] at this
     omega
    subst hi2
    rw [h3,Nat.sub_self] at hz
    cases hz
    exact h2
  ·cases h
theorem ixP_ok (hΓ:TabOK P Γ) {rd:Option Nat} {o:Oper} {e:Ev} {ctx:Ctx} {t:TypeId} {x i:Operand} {R:RdR} (hop:o.op=.indexAddr t x i) (hw:Wf e) (hc:CtxH e ctx) (h:ixP Γ t (ev e ctx x) (ev e ctx i) H nx=some R) (r:R.T) (hr:R.m=some r):R.OK P rd B o e (H,nx) r:=by
 have hd:∀ c,o.op≠.defer c:=by rw [hop];intro c hh;cases hh
 unfold ixP at h
 split at h
 ·rename_i ti T x0 k j hl hx hi
  split at h
  ·rename_i n el hk
   have hkd:=(hΓ.ty _ _ hl).kind
   rw [hk] at hkd
   split at h
   ·rename_i te hte
    have hse:=(hΓ.ty _ _ hte).size
    split at h
    ·rename_i T' hT'
     split at h
     ·rename_i ys hys
      cases h
      obtain ⟨y,hy⟩:∃ y:T'.den,y=r:=⟨r,rfl⟩
      subst hy
      obtain ⟨s1,s2⟩:=subL_some hys
      obtain ⟨h0,h1,h2⟩:=idxM_some hr
      refine ok_fl1 rfl hd fun S w η a hiv ho=>?_
      obtain ⟨b,off,cs,hv,hrep,hcell⟩:=ev_sound hw hc hx (by rw [hop];simp [Op.operands]) ho
      obtain ⟨f1,_⟩:=PM.int.1 (ev_sound hw hc hi (by rw [hop];simp [Op.operands]) ho)
      obtain ⟨c1,c2,c3,rfl,hl1,hr2⟩:=sub_rep hrep (s2 _ _ h2)
      refine ⟨_,run_ixArr hop (hkd w) (hse w) hv f1 h0 (by omega),b,_,c2,rfl,hr2,fun m u hm=>?_⟩
      have hml:=(gS.1 hm).1
      have:=hcell (j.toNat*te.size+m) u (by
       rw [xR (by omega),xL (by omega)]
       rw [← hm];congr 1;omega)
      rwa [← Nat.add_assoc] at this
     ·cases h
    ·cases h
   ·cases h
  ·cases h
 ·cases h
theorem byt_rep {xs:List Int} {v:Value} (hv:VRep S w (.list (.int .u8)) xs v) :
  ∃ base cap,v=.slice base xs.length cap∧xs.length≤maxLen∧(xs.length=0∨∃ b off,base=some ⟨b,off,none⟩∧∀ i,i<xs.length→w.cell? ⟨b,off+i,none⟩=some (.int .u8 (xs.getD i 0))):=by
 obtain ⟨base,cap,e1,h1,h2,h3⟩:=VRep.slice hv
 refine ⟨base,cap,e1,Nat.le_trans h1 h2,h3.imp id ?_⟩
 rintro ⟨b,off,e2,hx⟩
 refine ⟨b,off,e2,fun i hi=>?_⟩
 obtain ⟨es,he,hc⟩:=hx i _ (gE hi)
 have he':es=[Value.int .u8 xs[i]]:=he.1
 have:=(hc 0 (.int .u8 xs[i]) (by rw [he'];rfl)).2
 rw [show off+i*(Ty.int IntKind.u8).size+0=off+i from by show off+i*1+0=off+i;omega] at this
 rw [this]
 simp [List.getD,hi]
theorem bytR_sound {pv:PV} {xs:List Int} {v:Value} (h:bytR H pv=some xs) (hi:HInv B η H S w) (hv:PM S w η pv v) :
  ∃ base cap,v=.slice base xs.length cap∧xs.length≤maxLen∧(xs.length=0∨∃ b off,base=some ⟨b,off,none⟩∧∀ i,i<xs.length→w.cell? ⟨b,off+i,none⟩=some (.int .u8 (xs.getD i 0))):=by
 unfold bytR at h
 split at h
 ·cases h;exact byt_rep hv.1
 ·cases h;exact byt_rep hv.1
 ·rename_i id lo n cap
  split at h
  ·rename_i m ys hlk
   split at h
   ·rename_i hb
    cases h
    simp only [bA] at hb
    have b1:=nL hb.1
    have b2:=nL hb.2
    obtain ⟨b,g1,rfl⟩:=hv
    obtain ⟨F1,_,hP⟩:=hi.read hlk
    obtain ⟨hn,_,_,_,hcs⟩:=flatB_of hP g1
    have hpl:(partV ys lo n).length=n:=by unfold partV;simp;omega
    refine ⟨_,cap,by rw [hpl],by simp only [hpl,maxLen];omega,.inr ⟨b,lo,rfl,fun i hin=>?_⟩⟩
    rw [hpl] at hin
    have hil:lo+i<ys.length:=by omega
    obtain ⟨v,hv,hc⟩:=hcs (lo+i) _ (gE hil)
    rw [hc]
    have:=(VRep.int.1 hv).1
    subst this
    unfold partV
    simp [List.getD,List.getElem?_take_of_lt hin,List.getElem?_drop,gE hil]
   ·cases h
  ·cases h
 ·cases h;exact byt_rep hv.2
 ·rename_i id
  split at h
  ·rename_i ys hlk
   cases h
   obtain ⟨F1,_,u,g1,hA⟩:=hi.read hlk
   obtain ⟨g2,_⟩:=hv
   rw [g2] at g1
   cases g1
   obtain ⟨base,cap,e1,h1,h2,h3⟩:=hA
   refine ⟨base,cap,e1,Nat.le_trans h1 h2,?_⟩
   by_cases h0:xs.length=0
   ·exact .inl h0
   ·right
    rcases h3 with ⟨h3,_⟩ | ⟨b,off,e2,_,_,hx⟩
    ·omega
    ·refine ⟨b,off,e2,fun i hi=>?_⟩
     obtain ⟨es,he,hc⟩:=hx i _ (gE hi)
     have he':es=[Value.int .u8 xs[i]]:=he.1
     have:=hc 0 (.int .u8 xs[i]) (by rw [he'];rfl)
     rw [show off+i*(Ty.int IntKind.u8).size+0=off+i from by show off+i*1+0=off+i;omega] at this
     rw [this]
     simp [List.getD,hi]
  ·cases h
 ·cases h
theorem run_bytes {P:Program} {w:World} {s d el:TypeId} (hs:∀ w,(underlying s).run P w=.ok (.slice el) w) (he:∀ w,(underlying el).run P w=.ok (.int .u8) w) (hd:∀ w,(underlying d).run P w=.ok .string w) {base:Option Addr} {cap:Nat} {xs:List Int}
  (h:xs.length=0∨∃ b off,base=some ⟨b,off,none⟩∧∀ i,i<xs.length→w.cell? ⟨b,off+i,none⟩=some (.int .u8 (xs.getD i 0))):(convert s d (.slice base xs.length cap)).run P w=.ok (.string ⟨(strB xs).toArray⟩) w:=by
 have e:(convert s d (.slice base xs.length cap)).run P w=(Conv.bytesToString (.slice base xs.length cap)).run P w:=by simp [convert,hs w,hd w,he w]
 rw [e]
 have fin:∀ b off,base=some ⟨b,off,none⟩→(∀ i,i<xs.length→w.cell? ⟨b,off+i,none⟩=some (.int .u8 (xs.getD i 0)))→(Conv.bytesToString (.slice base xs.length cap)).run P w=.ok (.string ⟨(strB xs).toArray⟩) w:=by
  rintro b off rfl hc
  have hl:(loadCells ⟨b,off,none⟩ xs.length).run P w=.ok (xs.map (Value.int .u8)).toArray w:=by
   have:=run_loadCells_list (P:=P) w ⟨b,off,none⟩ (xs.map (Value.int .u8)) (fun j v hj=>by
    have hjl:j<xs.length:=by
     rcases Nat.lt_or_ge j xs.length with h | h
     ·exact h
     ·simp [List.getElem?_eq_none (show (xs.map (Value.int .u8)).length≤j by simpa using h)] at hj
    have hplain:(⟨b,off,none⟩:Addr).add j=⟨b,off+j,none⟩:=by unfold Addr.add;split<;>simp_all
    rw [hplain,hc j hjl]
    simp [gE hjl] at hj
    subst hj
    simp [List.getD,gE hjl])
   simpa using this
  rw [run_bytesToString w _ xs.length cap xs hl,foldl_push_bytes]
  simp [strB,ByteArray.empty,ByteArray.emptyWithCapacity]
  rfl
 rcases h with h0 | ⟨b,off,e1,hc⟩
 ·have hx:xs=[]:=List.length_eq_zero_iff.1 h0
  cases base with
  | none=>subst hx;simp [Conv.bytesToString,strB];rfl
  | some a =>
   subst hx
   have hl:(loadCells a 0).run P w=.ok (([]:List Int).map (Value.int .u8)).toArray w:=by
    have:=run_loadCells_list (P:=P) w a [] (fun j v hj=>by cases hj)
    simpa using this
   show (Conv.bytesToString (.slice (some a) 0 cap)).run P w=_
   rw [run_bytesToString w a 0 cap [] hl]
   simp [strB,ByteArray.empty,ByteArray.emptyWithCapacity]
   rfl
 ·exact fin b off e1 hc
theorem bsC_ok {rd:Option Nat} {o:Oper} {e:Ev} {ctx:Ctx} (hΓ:TabOK P Γ) {s d:TypeId} {x:Operand} {R:RdR} (hop:o.op=.convert s d x) (hw:Wf e) (hc:CtxH e ctx) (h:bsC Γ s d (ev e ctx x) H nx=some R) (r:R.T) (hr:R.m=some r):R.OK P rd B o e (H,nx) r:=by
 have hd:∀ c,o.op≠.defer c:=by rw [hop];intro c hh;cases hh
 unfold bsC at h
 split at h
 ·rename_i ts td pv hs htd hx
  split at h
  ·rename_i el bts xs e1 e2 hb
   split at h
   ·rename_i te hte
    split at h
    ·rename_i e3
     have ks:=(hΓ.ty s ts hs).kind
     have kd:=(hΓ.ty d td htd).kind
     have ke:=(hΓ.ty el te hte).kind
     rw [e1] at ks
     rw [e2] at kd
     rw [e3] at ke
     cases h
     obtain ⟨r',hr'⟩:∃ r':List UInt8,r'=r:=⟨r,rfl⟩
     subst hr'
     have hr2:some (strB xs)=some r':=hr
     cases hr2
     refine ok_fl1 rfl hd fun S w η a hi ho=>?_
     have hv:=ev_sound (a:=a) hw hc hx (by rw [hop];simp [Op.operands]) ho
     obtain ⟨base,cap,hv1,hlen,hcells⟩:=bytR_sound hb hi hv
     refine ⟨.string ⟨(strB xs).toArray⟩,?_,PM.str.2 ⟨rfl,by show (strB xs).length≤maxLen;unfold strB;rw [List.length_map];exact hlen⟩⟩
     have:=run_bytes (P:=P) (w:=w) (run_underlying ks.1) (fun w=>ke w) (fun w=>kd w) (cap:=cap) hcells
     simp [execOp,hop,hv1,this]
    ·cases h
   ·cases h
  ·cases h
 ·cases h
end
section
variable {Γ:Tabs} {o:Oper} {e:Ev} {ctx:Ctx} {H H':PH} {nx:Nat}
theorem op8_sound:OpF.Sound op8:=by
 intro P Γ hΓ rd B o e ctx H nx R h hw hc r hr
 unfold op8 at h
 split at h
 ·rename_i s d x hop
  exact bsC_ok hΓ hop hw hc h r hr
 ·rename_i t hop
  exact alB_ok hΓ hop h r
 ·rename_i t x i hop
  exact ixP_ok hΓ hop hw hc h r hr
 ·rename_i c hop
  split at h
  ·rename_i f args hcal ha
   split at h
   ·rename_i g hf
    exact exR_ok hΓ hop hcal ha hw hc hf h r hr
   ·cases h
  ·cases h
 ·cases h
theorem op8_fl {R:RdR} (h:op8 Γ o e ctx H nx=some R):R.fl≠0:=by
 unfold op8 at h
 split at h
 ·unfold bsC at h;(repeat' split at h)<;>first | (cases h;exact sZ _) | cases h
 ·unfold alB at h;(repeat' split at h)<;>first | (cases h;exact sZ _) | cases h
 ·unfold ixP at h;(repeat' split at h)<;>first | (cases h;exact sZ _) | cases h
 ·split at h
  ·split at h
   ·unfold exR at h;(repeat' split at h)<;>first | (cases h;exact sZ _) | cases h
   ·cases h
  ·cases h
 ·cases h
theorem exR_loc {g:FuncId} {args:List RV} (h1:Ag (RVs.ids args) H H'):exR Γ g args H' nx=exR Γ g args H nx:=by
 unfold exR
 generalize lk Γ.ex g=q
 split
 ·rfl
 ·rename_i TB e0 id t
  rw [h1 id (by simp [RVs.ids,RV.ids,CV.ids])]
 ·rename_i TB e0 id t
  rw [h1 id (by simp [RVs.ids,RV.ids,CV.ids])]
 ·rename_i TB e0 id
  rw [h1 id (by simp [RVs.ids,RV.ids,CV.ids])]
 ·rfl
 ·rfl
theorem op8_nice:op8.Nice:=by
 constructor
 ·intro Γ o e ctx H H' nx h
  unfold op8
  split
  ·rename_i s d x hop
   have h1:∀ pv,ev e ctx x=some pv→bytR H' pv=bytR H pv:=fun pv hx=>by
    unfold bytR
    split
    ·rfl
    ·rfl
    ·rename_i id lo n cap
     have:=h id (by
      have:o.op.operands.toList=[x]:=by simp [hop,Op.operands]
      unfold opIds
      rw [this]
      unfold opdIds
      rw [hx]
      simp [PV.ids])
     rw [this]
    ·rfl
    ·rename_i id
     have:=h id (by
      have:o.op.operands.toList=[x]:=by simp [hop,Op.operands]
      unfold opIds
      rw [this]
      unfold opdIds
      rw [hx]
      simp [PV.ids,RV.ids,CV.ids])
     rw [this]
    ·rfl
   unfold bsC
   cases hx:ev e ctx x with
   | none=>cases lk Γ.ty s<;>cases lk Γ.ty d<;>rfl
   | some pv =>
    cases lk Γ.ty s with
    | none=>cases lk Γ.ty d<;>rfl
    | some ts =>
     cases lk Γ.ty d with
     | none=>rfl
     | some td=>simp only [h1 pv hx];rfl
  ·rfl
  ·rfl
  ·rename_i c hop
   split
   ·rename_i f args hcal ha
    have h1:Ag (RVs.ids args) H H':=argsE_ids ha (by
     have h2:Ag (opdIds e ctx (f::c.args.toList)) H H':=by
      have:o.op.operands.toList=f::c.args.toList:=by simp [hop,Op.operands,Call.operands,hcal]
      rw [← this];exact h
     unfold opdIds at h2
     exact h2.right)
    split
    ·exact exR_loc h1
    ·rfl
   ·rfl
  ·rfl
 ·intro Γ o e ctx H nx R h h0 H'
  exact absurd h0 (op8_fl h)
end
def OPS8:OpF:=OPSK.or op8
theorem OPS8_sound:OPS8.Sound:=OPSK_sound.or op8_sound
theorem OPS8_nice:OPS8.Nice:=OPSK_nice.or' op8_nice fun Γ o e ctx H nx R h h0 hn H'=>absurd h0 (op8_fl h)

def nonM (b:Bool):Option Unit:=match b with
 | false=>some ()
 | true=>none
theorem nonM_some {b:Bool} {r:Unit} (h:nonM b=some r):b=false:=by cases b;rfl;cases h
def hOff (H:PH) (id off:Nat) (nx:Nat):Option RdR:=match lk H id with
 | some (.box _)=>some (rdu (.c (.p id off)) H nx)
 | some (.opt b _)=>some (rdr (nonM b) () (fun _=>.c (.p id off)) H nx)
 | _=>none
def hNil (H:PH) (id:Nat) (neg:Bool) (nx:Nat):Option RdR:=match lk H id with
 | some (.box _)=>some (rdu (.c (.d .bool neg)) H nx)
 | some (.opt b _)=>some (rdu (.c (.d .bool (match neg with | false=>b | true=>notM b))) H nx)
 | _=>none
def hVia (Γ:Tabs) (o:Oper) (e:Ev) (ctx:Ctx) (x:Operand) (H:PH) (nx:Nat):Option RdR:=match ev e ctx x with
 | some (.r (.c (.p id _)))=>match lk H id with
  | some (.opt b l)=>match OPS8 Γ o e ctx ((id,.box l)::H) nx with
   | some R=>match R.fl with
    | 1=>some ⟨R.T,(nonM b).bind fun _=>R.m,R.df,R.pv,1,fun _=>[],nx,none⟩
    | 2=>some ⟨R.T,(nonM b).bind fun _=>R.m,R.df,R.pv,2,fun r=>R.δ r++[(id,.box l)],R.nx,none⟩
    | _=>none
   | none=>none
  | _=>none
 | _=>none
def isEof:List (FuncId×Ext)→Option FuncId
 | []=>none
 | (f,.isE _ _)::_=>some f
 | _::r=>isEof r
def hAs (Γ:Tabs) (t:TypeId) (pv:PV) (H:PH) (nx:Nat):Option RdR:=match isEof Γ.ex with
 | some f=>match lk Γ.ex f,pv with
  | some (.isE T It),.r (.c (.i k))=>match Nat.beq It t&&Nat.beq k (1000000+T) with
   | true=>some (rdu (.t [.c (.i k),.c (.d .bool true)]) H nx)
   | false=>none
  | some (.isE T It),.r (.c (.l .nilI))=>match Nat.beq It t with
   | true=>some (rdu (.t [.c (.l .nilI),.c (.d .bool false)]) H nx)
   | false=>none
  | _,_=>none
 | none=>none
def opH:OpF:=fun Γ o e ctx H nx=>match o.op with
 | .fieldAddr t x i=>match fieldOf Γ t i,ev e ctx x with
  | some (off,_),some (.r (.c (.h id)))=>hOff H id off nx
  | _,_=>none
 | .nilCheck x=>match ev e ctx x with
  | some (.r (.c (.h id)))=>hOff H id 0 nx
  | _=>none
 | .binOp op t x y _=>match ev e ctx x,ev e ctx y,lk Γ.ty t with
  | some (.r (.c (.h id))),some (.r (.c (.l .nilP))),some ti=>match op,isNil ti.kind (.l .nilP) with
   | .eql,some true=>hNil H id false nx
   | .neq,some true=>hNil H id true nx
   | _,_=>none
  | _,_,_=>none
 | .load t (.global g)=>match lk errTab g,lk Γ.ty t with
  | some T,some ti=>match ti.agg with
   | false=>some (rdu (.c (.i (1000000+T))) H nx)
   | true=>none
  | _,_=>none
 | .load _ x=>hVia Γ o e ctx x H nx
 | .store _ x _=>hVia Γ o e ctx x H nx
 | .typeAssert x _ t true=>match ev e ctx x with
  | some pv=>hAs Γ t pv H nx
  | none=>none
 | .call c=>match c.callee,argsE e ctx c.args.toList with
  | .value f,some [.c (.i k),.c (.i k')]=>match ev e ctx f with
   | some (.r (.c (.f g [] [])))=>match lk Γ.ex g with
    | some (.isE T _)=>match Nat.beq k (1000000+T)&&Nat.beq k' (1000000+T) with
     | true=>some (rdu (.c (.d .bool true)) H nx)
     | false=>none
    | _=>none
   | _=>none
  | _,_=>none
 | _=>none

section
variable {P:Program} {Γ:Tabs} {B:Nat} {S:Cells} {w:World} {η:Eta} {H H':PH} {nx:Nat} {o:Oper} {e:Ev} {ctx:Ctx}
theorem hdl_ptr {id:Nat} {v:Value} (hi:HInv B η H S w) (hv:CM S w η (.h id) v):(∀ l,lk H id=some (.box l)→∃ b,v=.pointer (some ⟨b,0,none⟩)∧η id=some v) ∧
  ∀ b l,lk H id=some (.opt b l)→(b=true→v=.pointer none)∧(b=false→∃ k,v=.pointer (some ⟨k,0,none⟩)∧η id=some v):=by
 refine ⟨fun l hl=>?_,fun b l hl=>?_⟩
 ·obtain ⟨F,_,b,h1,_⟩:=hi.read hl
  have:=hv.1
  rw [h1] at this
  cases this;exact ⟨b,rfl,h1⟩
 ·cases b with
  | true =>
   obtain ⟨F,_,h1,_⟩:=hi.read hl
   have:=hv.1
   rw [h1] at this
   cases this;exact ⟨fun _=>rfl,fun h=>by cases h⟩
  | false =>
   obtain ⟨F,_,b,h1,_⟩:=hi.read hl
   have:=hv.1
   rw [h1] at this
   cases this;exact ⟨(fun h=>by cases h),fun _=>⟨b,rfl,h1⟩⟩
theorem hOff_ok {id off:Nat} {R:RdR} (h:hOff H id off nx=some R) (r:R.T) (hr:R.m=some r):R.fl=1∧∀ B S w η v,HInv B η H S w→CM S w η (.h id) v→∃ b,v=.pointer (some ⟨b,0,none⟩)∧PM S w η (R.pv r) (.pointer (some ⟨b,0+off,none⟩)):=by
 unfold hOff at h
 split at h
 ·rename_i l hl
  cases h
  refine ⟨rfl,fun B S w η v hi hv=>?_⟩
  obtain ⟨b,rfl,h1⟩:=(hdl_ptr hi hv).1 l hl
  exact ⟨b,rfl,b,h1,by rw [Nat.zero_add]⟩
 ·rename_i b l hl
  cases h
  have hb:=nonM_some hr
  subst hb
  refine ⟨rfl,fun B S w η v hi hv=>?_⟩
  obtain ⟨b,rfl,h1⟩:=((hdl_ptr hi hv).2 _ l hl).2 rfl
  exact ⟨b,rfl,b,h1,by rw [Nat.zero_add]⟩
 ·cases h
theorem hNil_ok {id:Nat} {neg:Bool} {R:RdR} (h:hNil H id neg nx=some R) (r:R.T):R.fl=1∧∀ B S w η v,HInv B η H S w→CM S w η (.h id) v→∃ a:Option Addr,v=.pointer a∧PM S w η (R.pv r) (.bool (match neg with | false=>a.isNone | true=>!a.isNone)):=by
 unfold hNil at h
 split at h
 ·rename_i l hl
  cases h
  refine ⟨rfl,fun B S w η v hi hv=>?_⟩
  obtain ⟨b,rfl,h1⟩:=(hdl_ptr hi hv).1 l hl
  exact ⟨_,rfl,PM.bool.2 (by cases neg<;>rfl)⟩
 ·rename_i b l hl
  cases h
  refine ⟨rfl,fun B S w η v hi hv=>?_⟩
  have hp:=(hdl_ptr hi hv).2 b l hl
  cases b with
  | true =>
   have:=hp.1 rfl
   subst this
   exact ⟨none,rfl,PM.bool.2 (by cases neg<;>rfl)⟩
  | false =>
   obtain ⟨k,rfl,_⟩:=hp.2 rfl
   exact ⟨_,rfl,PM.bool.2 (by cases neg<;>rfl)⟩
 ·cases h
theorem hVia_ok (hΓ:TabOK P Γ) {rd:Option Nat} {x:Operand} {R:RdR} (hw:Wf e) (hc:CtxH e ctx) (h:hVia Γ o e ctx x H nx=some R) (r:R.T) (hr:R.m=some r):R.OK P rd B o e (H,nx) r:=by
 unfold hVia at h
 split at h
 ·rename_i id k hx
  split at h
  ·rename_i b l hl
   split at h
   ·rename_i R1 hR
    split at h
    ·rename_i hf
     cases h
     obtain ⟨u,hu,hr1⟩:=Option.bind_eq_some_iff.1 hr
     have hb:=nonM_some hu
     subst hb
     have hok:=OPS8_sound P Γ hΓ rd B o e ctx _ nx R1 hR hw hc r hr1
     unfold RdR.OK at hok ⊢
     rw [hf] at hok
     exact fun S w η a hi ho=>hok S w η a (hi.box hl) ho
    ·rename_i hf
     cases h
     obtain ⟨u,hu,hr1⟩:=Option.bind_eq_some_iff.1 hr
     have hb:=nonM_some hu
     subst hb
     have hok:=OPS8_sound P Γ hΓ rd B o e ctx _ nx R1 hR hw hc r hr1
     unfold RdR.OK at hok ⊢
     rw [hf] at hok
     intro S w η a hi hl' ho
     refine (hok S w η a (hi.box hl) hl' ho).mono fun a' w' ⟨v,S',η',h1,h2,h3,h4,h5,h6⟩=>⟨v,S',η',h1,h2,h3,h4,?_,h6⟩
     show HInv B η' ((R1.δ r++[(id,.box l)])++H) S' w'
     rw [aA];exact h5
    ·cases h
   ·cases h
  ·cases h
 ·cases h
theorem hAs_ok (hΓ:TabOK P Γ) {rd:Option Nat} {t xt:TypeId} {x:Operand} {pv:PV} {R:RdR} (hop:o.op=.typeAssert x xt t true) (hw:Wf e) (hc:CtxH e ctx) (hx:ev e ctx x=some pv) (h:hAs Γ t pv H nx=some R) (r:R.T):R.OK P rd B o e (H,nx) r:=by
 have hd:∀ c,o.op≠.defer c:=by rw [hop];intro c hh;cases hh
 unfold hAs at h
 split at h
 ·rename_i f hf
  split at h
  ·rename_i T It k hex
   split at h
   ·rename_i hb
    cases h
    simp only [bA] at hb
    have e1:=nB hb.1
    have e2:=nB hb.2
    subst e1;subst e2
    refine ok_fl1 rfl hd fun S w η a hiv ho=>?_
    have g1:a.eval x=payV (1000000+T):=ev_sound hw hc hx (by rw [hop];simp [Op.operands]) ho
    have hq:=(hΓ.ex _ _ hex).2.2.1
    have hpv:payV (1000000+T)=.iface T (.pointer (some ea.a)):=by
     unfold payV
     have:Nat.blt (1000000+T) 1000000=false:=by
      cases h:Nat.blt (1000000+T) 1000000 with
      | false=>rfl
      | true=>have:=nL h;omega
     rw [this]
     simp
    refine ⟨.tuple #[payV (1000000+T),.bool true],?_,[payV (1000000+T),.bool true],rfl,.cons rfl (.cons ⟨rfl,VRep.bool.2 rfl⟩ .nil)⟩
    rw [hpv] at g1 ⊢
    simp [execOp,hop,g1,hq]
   ·cases h
  ·rename_i T It hex
   split at h
   ·rename_i hb
    cases h
    have e1:=nB hb
    subst e1
    refine ok_fl1 rfl hd fun S w η a hiv ho=>?_
    have g1:a.eval x=.nilIface:=ev_sound hw hc hx (by rw [hop];simp [Op.operands]) ho
    have hq:=(hΓ.ex _ _ hex).2.2.2
    exact ⟨.tuple #[.nilIface,.bool false],by simp [execOp,hop,g1,hq],[.nilIface,.bool false],rfl,.cons rfl (.cons ⟨rfl,VRep.bool.2 rfl⟩ .nil)⟩
   ·cases h
  ·cases h
 ·cases h
theorem opH_sound:OpF.Sound opH:=by
 intro P Γ hΓ rd B o e ctx H nx R h hw hc r hr
 unfold opH at h
 split at h
 ·rename_i t x i hop
  split at h
  ·rename_i off ti id hf hx
   obtain ⟨farr,f,ft,h1,h2,h3,h4,h5,h6⟩:=fieldOf_sound hΓ hf
   subst h4
   obtain ⟨g1,g2⟩:=hOff_ok h r hr
   refine ok_fl1 g1 (by rw [hop];intro c hh;cases hh) fun S w η a hi ho=>?_
   obtain ⟨b,q1,q2⟩:=g2 B S w η _ hi (ev_sound hw hc hx (by rw [hop];simp [Op.operands]) ho)
   exact ⟨.pointer (some ⟨b,off,none⟩),by have:=run_fieldAt h1 h2 h3 h5 h6 b 0 (w:=w);simp [execOp,hop,q1,this],by simpa using q2⟩
  ·cases h
 ·rename_i x hop
  split at h
  ·rename_i id hx
   obtain ⟨g1,g2⟩:=hOff_ok h r hr
   refine ok_fl1 g1 (by rw [hop];intro c hh;cases hh) fun S w η a hi ho=>?_
   obtain ⟨b,q1,q2⟩:=g2 B S w η _ hi (ev_sound hw hc hx (by rw [hop];simp [Op.operands]) ho)
   exact ⟨.pointer (some ⟨b,0,none⟩),by simp [execOp,hop,q1],by simpa using q2⟩
  ·cases h
 ·rename_i op t x y hnt hop
  split at h
  ·rename_i id ti hx hy hl
   have hm1:x∈o.op.operands.toList:=by rw [hop];simp [Op.operands]
   have hm2:y∈o.op.operands.toList:=by rw [hop];simp [Op.operands]
   have key:isNil ti.kind (.l .nilP)=some true→∃ el,∀ w,(underlying t).run P w=.ok (.pointer el) w:=fun hn=>by
    have hk:=(hΓ.ty _ _ hl).kind
    unfold isNil at hn
    split at hn
    all_goals first
     | (rename_i el hkd _ ; rw [hkd] at hk;exact ⟨el,hk⟩)
     | (rename_i el hkd;rw [hkd] at hk;exact ⟨el,hk⟩)
     | (simp at hn;done)
     | (rename_i h1;cases h1;done)
     | skip
   have fin:∀ neg,(op=.eql∧neg=false∨op=.neq∧neg=true)→isNil ti.kind (.l .nilP)=some true→hNil H id neg nx=some R→R.OK P rd B o e (H,nx) r:=fun neg ho' hn hN=>by
    obtain ⟨el,hk⟩:=key hn
    obtain ⟨g1,g2⟩:=hNil_ok hN r
    refine ok_fl1 g1 (by rw [hop];intro c hh;cases hh) fun S w η a hi ho=>?_
    have hv:=ev_sound hw hc hx hm1 ho
    obtain ⟨a0,q1,q2⟩:=g2 B S w η _ hi hv
    have e2:a.eval y=.pointer none:=ev_sound hw hc hy hm2 ho
    have heq:=eql_of (P:=P) (w:=w) (t:=t) rfl rfl (equalIn_ptr (d:=9999) (a:=a0) (hk w))
    have hgd:∀ op,(eqGuard op t x y (a.eval x) (a.eval y)).run P w=.ok () w:=fun op=>by
     rw [q1,e2]
     exact eqGuard_free (by rfl) rfl (by intro h;cases h)
    rcases ho' with ⟨rfl,rfl⟩ | ⟨rfl,rfl⟩
    ·have h1:(do eqGuard .eql t x y (a.eval x) (a.eval y);Go.binOp .eql t (a.eval x) (a.eval y):Sem Value).run P w=.ok (.bool a0.isNone) w:=by
      have:=hgd .eql
      rw [q1,e2] at this ⊢
      simp [this,heq.1]
     exact ⟨.bool a0.isNone,by simp only [execOp,hop];simp only [Sem.run_bind] at h1 ⊢;rw [h1];rfl,q2⟩
    ·have h1:(do eqGuard .neq t x y (a.eval x) (a.eval y);Go.binOp .neq t (a.eval x) (a.eval y):Sem Value).run P w=.ok (.bool !a0.isNone) w:=by
      have:=hgd .neq
      rw [q1,e2] at this ⊢
      simp [this,heq.2]
     exact ⟨.bool (!a0.isNone),by simp only [execOp,hop];simp only [Sem.run_bind] at h1 ⊢;rw [h1];rfl,q2⟩
   split at h
   ·rename_i hn;exact fin false (.inl ⟨rfl,rfl⟩) hn h
   ·rename_i hn;exact fin true (.inr ⟨rfl,rfl⟩) hn h
   ·cases h
  ·cases h
 ·rename_i t g hop
  split at h
  ·rename_i T ti hT hl
   split at h
   ·rename_i hag
    cases h
    refine ok_fl1 rfl (by rw [hop];intro c hh;cases hh) fun S w η a hi ho=>?_
    obtain ⟨h1,h2⟩:=hi.inw.er g T hT
    have hag':=(hΓ.ty _ _ hl).agg w
    rw [hag] at hag'
    exact ⟨payV (1000000+T),run_load (b:=g) (k:=0) hop rfl (by simp [loadVar,hag',h2]),rfl⟩
   ·cases h
  ·cases h
 ·exact hVia_ok hΓ hw hc h r hr
 ·exact hVia_ok hΓ hw hc h r hr
 ·rename_i x xt t hop
  split at h
  ·rename_i pv hx
   exact hAs_ok hΓ hop hw hc hx h r
  ·cases h
 ·rename_i c hop
  split at h
  ·rename_i f k k' hcal ha
   split at h
   ·rename_i g hf
    split at h
    ·rename_i T It hex
     split at h
     ·rename_i hb
      cases h
      simp only [bA] at hb
      have e1:=nB hb.1
      have e2:=nB hb.2
      subst e1;subst e2
      intro S w η a hi ho
      have hops:o.op.operands.toList=f::c.args.toList:=by simp [hop,Op.operands,Call.operands,hcal]
      obtain ⟨vf,vc,he,hvf,hvc⟩:=ev_sound hw hc hf (by rw [hops];simp) ho
      cases hvf;cases hvc
      have hva:=argsE_sound hw hc ho ha fun x hx=>by rw [hops];simp [hx]
      have hpv:payV (1000000+T)=.iface T (.pointer (some ea.a)):=by
       unfold payV
       have:Nat.blt (1000000+T) 1000000=false:=by
        cases h:Nat.blt (1000000+T) 1000000 with
        | false=>rfl
        | true=>have:=nL h;omega
       rw [this]
       simp
      have hex2:=hΓ.ex _ _ hex
      have hargs:c.args.toList.map a.eval=[.iface T (.pointer (some ea.a)),.iface T (.pointer (some ea.a))]:=by
       generalize c.args.toList.map a.eval=l at hva
       cases hva with
       | cons a1 a2=>cases a2 with
        | cons b1 b2 =>
         cases b2
         have a1:_=_:=a1
         have b1:_=_:=b1
         rw [a1,b1,hpv]
      have hx:(execOp a.eval o).run P w=.ok (.enter g #[.iface T (.pointer (some ea.a)),.iface T (.pointer (some ea.a))]) w:=by
       have:c.args.map a.eval=#[.iface T (.pointer (some ea.a)),.iface T (.pointer (some ea.a))]:=by
        apply Array.ext'
        rw [Array.toList_map,hargs]
       simp [execOp,hop,resolve,hcal,he,Deferred.ofValue,invoke,hex2.1,this]
      refine OpW.enter (by simp [hop]) hx ?_
      have hcl:CallsIn (FR rd) 0 P g _ w _:=callsIn_wide (n:=0) |>.2 (hex2.2.1 ea.a w)
      exact hcl.mono fun en w' ⟨h1,h2⟩=>⟨.bool true,h1,.bool true,S,rfl,by rw [h2];exact Grow.refl hi.inw,PM.bool.2 rfl⟩
     ·cases h
    ·cases h
   ·cases h
  ·cases h
 ·cases h
theorem opH_fl {R:RdR} (h:opH Γ o e ctx H nx=some R):R.fl≠0:=by
 have hv:∀ x,hVia Γ o e ctx x H nx=some R→R.fl≠0:=fun x h=>by
  unfold hVia at h
  (repeat' split at h)<;>first | (cases h;exact sZ _) | cases h
 unfold opH at h
 split at h
 ·split at h
  ·unfold hOff at h;(repeat' split at h)<;>first | (cases h;exact sZ _) | cases h
  ·cases h
 ·split at h
  ·unfold hOff at h;(repeat' split at h)<;>first | (cases h;exact sZ _) | cases h
  ·cases h
 ·unfold hNil at h;(repeat' split at h)<;>first | (cases h;exact sZ _) | cases h
 ·(repeat' split at h)<;>first | (cases h;exact sZ _) | cases h
 ·exact hv _ h
 ·exact hv _ h
 ·unfold hAs at h;(repeat' split at h)<;>first | (cases h;exact sZ _) | cases h
 ·(repeat' split at h)<;>first | (cases h;exact sZ _) | cases h
 ·cases h
theorem hVia_loc {x:Operand} (hx:x∈o.op.operands.toList) (h:Ag (opIds e ctx o) H H'):hVia Γ o e ctx x H' nx=hVia Γ o e ctx x H nx:=by
 unfold hVia
 split
 ·rename_i id k hev
  have hid:lk H' id=lk H id:=h id (by
   unfold opIds
   have:∀ l:List Operand,x∈l→id∈opdIds e ctx l:=by
    intro l
    induction l with
    | nil=>intro hm;cases hm
    | cons y r ih =>
     intro hm
     unfold opdIds
     rcases List.mem_cons.1 hm with rfl | hm
     ·rw [hev];exact List.mem_append_left _ (by simp [PV.ids,RV.ids,CV.ids])
     ·exact List.mem_append_right _ (ih hm)
   exact this _ hx)
  rw [hid]
  split
  ·rename_i b l hl
   rw [OPS8_nice.loc Γ o e ctx ((id,.box l)::H) ((id,.box l)::H') nx (h.app [(id,PO.box l)])]
  ·rfl
 ·rfl
theorem opH_nice:opH.Nice:=by
 constructor
 ·intro Γ o e ctx H H' nx h
  unfold opH
  split
  ·rename_i t x i hop
   split
   ·rename_i off ti id hf hx
    have:=opIds1 (o:=o) (by rw [hop];simp [Op.operands]) hx h
    unfold hOff
    rw [this id (by simp [PV.ids,RV.ids,CV.ids])]
    rfl
   ·rfl
  ·rename_i x hop
   split
   ·rename_i id hx
    have:=opIds1 (o:=o) (by rw [hop];simp [Op.operands]) hx h
    unfold hOff
    rw [this id (by simp [PV.ids,RV.ids,CV.ids])]
    rfl
   ·rfl
  ·rename_i op t x y hnt hop
   split
   ·rename_i id ti hx hy hl
    have:=opIds2 (o:=o) (by rw [hop];simp [Op.operands]) hx hy h
    unfold hNil
    rw [this.1 id (by simp [PV.ids,RV.ids,CV.ids])]
    rfl
   ·rfl
  ·rfl
  ·rename_i t x hno hop
   exact hVia_loc (by rw [hop];simp [Op.operands]) h
  ·rename_i t x y hop
   exact hVia_loc (by rw [hop];simp [Op.operands]) h
  ·rfl
  ·rfl
  ·rfl
 ·intro Γ o e ctx H nx R h h0 H'
  exact absurd h0 (opH_fl h)
end
def OPSH:OpF:=OPS8.or opH
theorem OPSH_sound:OPSH.Sound:=OPS8_sound.or opH_sound
theorem OPSH_nice:OPSH.Nice:=OPS8_nice.or' opH_nice fun Γ o e ctx H nx R h h0 hn H'=>absurd h0 (opH_fl h)
end Go.PE
