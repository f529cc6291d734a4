/-
 Texts of this proof, put together: Pr, Ps, Pt, Pu, Pz, Pv, Pw, P1, P2, Py, P4, P6, P7.
 No conditions.
-/
import Derived.Test.YtdjfiampkhfooaaGreatDoorZ2
import Derived.Laws.StructEq
import Derived.MapKept
import Derived.Laws.Concat
import Derived.Laws.Strings
import Derived.Lib.Strings
set_option linter.all false
namespace Go.PE
open Go Go.RowKit Go.Abs
variable [db:DB] [ea:EA]

theorem wF (d:Option Nat) (pv:PV) (e:Ev):lk (wC d pv e)=En.setO (lk e) d pv:=by
 cases d with
 | none=>rfl
 | some d=>exact lk_set e d pv
theorem cD (d:Option Nat) (pv:PV) (e:Ev):∃ δ,wC d pv e=δ++e:=by
 cases d with
 | none=>exact ⟨[],rfl⟩
 | some d=>exact ⟨[(d,pv)],rfl⟩
theorem vF {d:Option Nat} {pv:PV} {e:Ev} (h:Wf e) (hp:∀ c b v,pv=.g c b v→(∀ p∈c,p.1<e.length)∧(b=true↔CtxH e c)):Wf (wC d pv e):=by
 cases d with
 | none=>exact h
 | some d=>exact h.cons hp
theorem isG_no {pv:PV} (h:pv.isG=false):∀ c b v,pv≠.g c b v:=by
 intro c b v hh;subst hh;cases h
theorem CtxH.nil (e:Ev):CtxH e []:=fun p hp=>by cases hp
theorem yB {o:Oper} {y:Nat→Option Bool} (h:o.guard=none):Region.wanted o y=true:=by simp [Region.wanted,h]

section
variable {P:Program} {rd:Option Nat} {B:Nat} {ops:Array Oper} {o:Oper} {e:Ev} {ctx:Ctx} {R:RdR} {rr:R.T} {H:PH} {nx:Nat}
theorem ls_small {b:Bool} {pvw:PV} (hf:R.fl≤1) (hok:∀ H',(∀ i∈aI e ctx o R,lk H' i=lk H i)→b=true→R.OK P rd B o e (H',nx) rr)
  (hwant:∀ S w η (tmps:Array Value),En.Only (lk e) (sB ops o) S w η tmps→(Region.wanted o (yielded ops tmps)=true↔b=true))
  (hpm:∀ S w η v,b=true→PM S w η (R.pv rr) v→PM S w η pvw v) (hun:∀ S w η,b=false→PM S w η pvw undef):LStep P rd B ops o (lk e) (aI e ctx o R) (lk H) nx nx pvw []:=by
 intro H' he S w η a hi hfr ho
 by_cases hwt:Region.wanted o (yielded ops a.tmps)=true
 ·rw [if_pos hwt]
  have hb:=(hwant _ _ _ _ ho).1 hwt
  have g:=hok H' he hb
  have g':OpW P rd o a w (fun a' w'=>∃ v S',a'=a.put o.dst v∧Grow w.heap.size S w S' w'∧PM S' w' η (R.pv rr) v):=by
   have h01:R.fl=0∨R.fl=1:=by omega
   unfold RdR.OK at g
   rcases h01 with h | h
   ·rw [h] at g;exact g S w η a hi.inw (fE ho)
   ·rw [h] at g;exact g S w η a hi (fE ho)
  exact g'.mono fun a' w' ⟨v,S',e1,e2,e3⟩=>⟨v,S',η,e1,e2.mono hi.base,.refl _,Out.refl _ _ _,hi.grow e2,hpm _ _ _ _ hb e3⟩
 ·rw [if_neg hwt]
  refine ⟨hun _ _ _ ?_,hi⟩
  cases hb:b
  ·rfl
  ·exact absurd ((hwant _ _ _ _ ho).2 hb) hwt
theorem ls_big (hg:o.guard=none) (hf:¬ R.fl≤1) (hok:∀ H',(∀ i∈dD e ctx o,lk H' i=lk H i)→R.OK P rd B o e (H',nx) rr):LStep P rd B ops o (lk e) (dD e ctx o) (lk H) nx R.nx (R.pv rr) (R.δ rr):=by
 intro H' he S w η a hi hfr ho
 rw [if_pos (yB hg)]
 have g:=hok H' he
 unfold RdR.OK at g
 have:∀ k,R.fl=k→¬ k≤1→OpW P rd o a w (fun a' w'=>∃ v S' η',a'=a.put o.dst v∧Grow B S w S' w'∧Pre η η'∧Out η η' nx R.nx∧HInv B η' (R.δ rr++H') S' w'∧PM S' w' η' (R.pv rr) v):=by
  intro k hk hk1
  rw [hk] at g
  match k,hk1 with
  | k+2,_=>exact g S w η a hi hfr (fE ho)
 exact this R.fl rfl hf
end

theorem use_same {nx:Nat}:nI (fun i=>i<nx) nx nx=fun i=>i<nx:=by
 funext i
 apply propext
 unfold nI
 constructor
 ·rintro (h | h)
  ·exact h
  ·omega
 ·exact .inl
theorem use_to {nx nx':Nat} (h:nx≤nx'):nI (fun i=>i<nx) nx nx'=fun i=>i<nx':=by
 funext i
 apply propext
 unfold nI
 constructor
 ·rintro (h | h)<;>omega
 ·intro h;omega
theorem Cert.same {P:Program} {rd:Option Nat} {n B:Nat} {ops:Array Oper} {K:En→Hs→Prop} {KP:TypeId→En→Hs→Prop} {l:List Oper} {fl:List Fl} {E:En} {H:PH} {nx:Nat} (hc:Cert P rd n B ops K KP l fl E (lk H,fun i=>i<nx)):Cert P rd n B ops K KP l fl E (gG (lk H) [],nI (fun i=>i<nx) nx nx):=by
 rw [use_same];exact hc
theorem Cert.to {P:Program} {rd:Option Nat} {n B:Nat} {ops:Array Oper} {K:En→Hs→Prop} {KP:TypeId→En→Hs→Prop} {l:List Oper} {fl:List Fl} {E:En} {h:Nat→Option PO} {nx nx':Nat} (hn:nx≤nx') (hc:Cert P rd n B ops K KP l fl E (h,fun i=>i<nx')):Cert P rd n B ops K KP l fl E (h,nI (fun i=>i<nx) nx nx'):=by
 rw [use_to hn];exact hc
theorem OpF.Nice.at {F:OpF} (hN:F.Nice) {Γ:Tabs} {o:Oper} {e:Ev} {ctx:Ctx} {H:PH} {nx:Nat} {R:RdR} (h:F Γ o e ctx H nx=some R):∀ H',(∀ i∈aI e ctx o R,lk H' i=lk H i)→F Γ o e ctx H' nx=some R:=by
 intro H' he
 by_cases h0:R.fl=0
 ·exact hN.pure0 _ _ _ _ _ _ _ h h0 H'
 ·have:aI e ctx o R=dD e ctx o:=by
   unfold aI
   split
   ·rename_i h1;exact absurd h1 h0
   ·rfl
  rw [this] at he
  rw [hN.loc _ _ _ _ _ _ _ he];exact h
theorem iC {e:Ev} {ctx:Ctx} {o:Oper} {S:Cells} {w:World} {η:Eta} {a:Act} (hw:Wf e) (hc:CtxH e ctx) (ho:En.Only (lk e) (rA o) S w η a.tmps):∀ {xs:List Operand} {l:List RV},pE e ctx xs=some l→(∀ x∈xs,x∈o.op.operands.toList)→All2 (RM S w η) l (xs.map a.eval)
 | [],_,h,_=>by cases h;exact .nil
 | x::r,l,h,hx=>by
  unfold pE at h
  split at h
  ·rename_i v hv
   split at h
   ·rename_i l' hl
    cases h
    exact .cons (cA hw hc hv (hx x (by simp)) ho) (iC hw hc ho hl fun y hy=>hx y (by simp [hy]))
   ·cases h
  ·cases h

theorem Cert.mono {P:Program} {rd:Option Nat} {n B:Nat} {ops:Array Oper} {K K':En→Hs→Prop} {KP KP':TypeId→En→Hs→Prop} (f:∀ E hs,K E hs→K' E hs) (f2:∀ T E hs,KP T E hs→KP' T E hs) {l:List Oper} {fl:List Fl} {E:En} {hs:Hs} (h:Cert P rd n B ops K KP l fl E hs):Cert P rd n B ops K' KP' l fl E hs:=by
 induction h with
 | nil h=>exact .nil (f _ _ h)
 | s ids m m' pv δ h0 h1 h2 h3 _ ih=>exact .s ids m m' pv δ h0 h1 h2 h3 ih
 | r C CP h1 h2 _ h4 ih=>exact .r C CP h1 h2 ih fun T hs' h=>f2 _ _ _ (h4 T hs' h)
 | k keys pv hs1 h1 h2 h3 _ ih=>exact .k keys pv hs1 h1 h2 h3 ih
theorem KK.mono {β:Type} {K:PS→Option β} {st st1:PS} {r:β} (he:∃ δ,st1.env=δ++st.env) (hh:∃ δ,st1.hp=δ++st.hp):∀ E hs,KK K st1 r E hs→KK K st r E hs:=by
 rintro E hs ⟨st',h1,h2,h3,h4,h5,h6⟩
 exact ⟨st',h1,h2,h3,kC he h4,kC hh h5,h6⟩
theorem Cert.kk {P:Program} {rd:Option Nat} {n B:Nat} {ops:Array Oper} {β:Type} {K:PS→Option β} {K2:TypeId→PS→Option β} {st st1:PS} {r:β} {l:List Oper} {fl:List Fl} {E:En} {hs:Hs} (hc:Cert P rd n B ops (KK K st1 r) (fun T=>KK (K2 T) st1 r) l fl E hs) (he:∃ δ,st1.env=δ++st.env) (hh:∃ δ,st1.hp=δ++st.hp) :
  Cert P rd n B ops (KK K st r) (fun T=>KK (K2 T) st r) l fl E hs:=Cert.mono (KK.mono he hh) (fun _=>KK.mono he hh) hc
theorem resPV_noG {rs:List RV}:∀ c b v,dB rs≠.g c b v:=by
 intro c b v
 unfold dB
 split<;>simp

theorem jF {d:Option Nat} {k:Skel} (h:gJ d k=true):k.kill=[]∧((d=none∧k.slots=[])∨∃ i sp,d=some i∧k.slots=[(i,sp)]):=by
 unfold gJ at h
 split at h
 ·rename_i i i' sp h1 h2
  have:=nB h
  subst this
  exact ⟨h2,.inr ⟨_,_,rfl,h1⟩⟩
 ·rename_i h1 h2
  exact ⟨h2,.inl ⟨rfl,h1⟩⟩
 ·cases h
theorem spDec_noG {x:SP} {L L':List TV} {pv:PV} (h:x.dec L=some (pv,L')) (c:Ctx) (b:Bool) (v:PV):pv≠.g c b v:=by
 intro e
 subst e
 unfold SP.dec at h
 split at h<;>(split at h<;>cases h)
theorem dec_call {d:Option Nat} {k:Skel} {st st2:PS} {L:List TV} (hcs:gJ d k=true) (h:k.dec st L=some st2) :
  ∃ pv,st2.env=wC d pv st.env∧(∀ c b v,pv≠.g c b v)∧(d=none→pv=.any)∧(∃ δ,st2.hp=δ++st.hp)∧st.nx≤st2.nx:=by
 obtain ⟨hk1,hk2⟩:=jF hcs
 unfold Skel.dec at h
 split at h
 ·rename_i e L1 hs
  split at h
  ·split at h
   ·cases h
    rcases hk2 with ⟨hd,hs2⟩ | ⟨i,sp,hd,hs2⟩
    ·rw [hs2] at hs
     cases hs
     exact ⟨.any,by rw [hk1,hd];rfl,(fun _ _ _ e=>nomatch e),fun _=>rfl,⟨_,rfl⟩,Nat.le_add_right _ _⟩
    ·rw [hs2] at hs
     simp only [zD] at hs
     split at hs
     ·rename_i pv L2 hsp
      cases hs
      exact ⟨pv,by rw [hk1,hd];rfl,spDec_noG hsp,fun e=>(by rw [hd] at e;cases e),⟨_,rfl⟩,Nat.le_add_right _ _⟩
     ·cases hs
   ·cases h
  ·cases h
 ·cases h
theorem newKeys_off {H H':PH} (h:∃ δ,H'=δ++H) {i:Nat} (hi:i∉nF H H'):lk H' i=lk H i:=by
 obtain ⟨δ,rfl⟩:=h
 unfold nF at hi
 have e:(δ++H).take ((δ++H).length-H.length)=δ:=by simp
 rw [e] at hi
 rw [lk_upd]
 exact upd_off hi
theorem jK {d:Option Nat}:∀ {outs:Outs},callOuts d outs=true→∀ x∈outs,gJ (outD d x.1) x.2=true
 | [],_,x,h=>by cases h
 | y::r,h,x,hx=>by
  simp only [callOuts,bA] at h
  rcases List.mem_cons.1 hx with rfl | hx
  ·exact h.1
  ·exact jK h.2 x hx

theorem Cert.unguard {P:Program} {rd:Option Nat} {n B:Nat} {ops:Array Oper} {K:En→Hs→Prop} {KP:TypeId→En→Hs→Prop} {o:Oper} {rest:List Oper} {fl:List Fl} {E:En} {hs:Hs} (hw:∀ S w η (tmps:Array Value),E.Only (sB ops o) S w η tmps→Region.wanted o (yielded ops tmps)=true) (h:Cert P rd n B ops K KP ({ o with guard:=none }::rest) fl E hs) :
  Cert P rd n B ops K KP (o::rest) fl E hs:=by
 have hsub:∀ S w η (tmps:Array Value),E.Only (sB ops o) S w η tmps→E.Only (sB ops { o with guard:=none }) S w η tmps:=by
  intro S w η tmps ho t pv ht he
  refine ho t pv ?_ he
  have h1:sB ops { o with guard:=none }=rA o:=rfl
  rw [h1] at ht
  unfold sB
  split
  ·exact ht
  ·unfold zC
   split
   ·rfl
   ·exact ht
 cases h with
 | s ids m m' pv δ h0 h1 h2 h3 h4 =>
  refine .s ids m m' pv δ h0 h1 (fun H' he S w η a hi hf ho=>?_) h3 h4
  rw [if_pos (hw S w η _ ho)]
  have:=h2 H' he S w η a hi hf (hsub _ _ _ _ ho)
  rw [if_pos (yB rfl)] at this
  exact this
 | r C CP h1 h2 h3 h4 =>
  refine .r C CP h1 (fun S w η a hi ho=>?_) h3 h4
  rw [if_pos (hw S w η _ ho)]
  have:=h2 S w η a hi (hsub _ _ _ _ ho)
  rw [if_pos (yB rfl)] at this
  exact this
 | k keys pv hs1 h1 h2 h3 h4 =>
  refine .k keys pv hs1 h1 (fun S w η a hi ho=>?_) h3 h4
  rw [if_pos (hw S w η _ ho)]
  have:=h2 S w η a hi (hsub _ _ _ _ ho)
  rw [if_pos (yB rfl)] at this
  exact this
theorem gsl_lk {ops:List Oper} {e:Ev} {o:Oper} {d:Nat} {want b:Bool} (h:gsl ops e o=some (d,want,b)):lk e d=some (.c (.d .bool b)):=by
 unfold gsl at h
 split at h
 ·split at h
  ·split at h
   ·split at h
    ·rename_i hl
     cases h;exact hl
    ·cases h
   ·cases h
  ·cases h
 ·cases h
theorem keys_left (H:PH):∀ ks:List Nat,mC (leftD H ks)=ks
 | []=>rfl
 | k::r=>by show k::mC (leftD H r)=k::r;rw [keys_left H r]
theorem leftD_some {H:PH}:∀ {ks:List Nat} {i:Nat} {po:PO},lk (leftD H ks) i=some po→i∈ks∧(lk H i=some po∨(lk H i=none∧po=.gone))
 | [],_,_,h=>by cases h
 | k::r,i,po,h=>by
  unfold leftD at h
  by_cases hk:k=i
  ·subst hk
   rw [jA] at h
   have h:=Option.some.inj h
   refine ⟨by simp,?_⟩
   cases hl:lk H k with
   | none=>rw [hl] at h;exact .inr ⟨rfl,h.symm⟩
   | some q=>rw [hl] at h;simp only at h;subst h;exact .inl rfl
  ·rw [wA _ _ hk] at h
   obtain ⟨h1,h2⟩:=leftD_some h
   exact ⟨by simp [h1],h2⟩
theorem HInv.leave {B:Nat} {η:Eta} {H δ:PH} {S:Cells} {w:World} (hi:HInv B η H S w) (h:∀ i po,lk δ i=some po→po=.gone∨lk H i=some po):HInv B η (δ++H) S w:=by
 classical
 obtain ⟨hb,hw,F,hd,hF,hP⟩:=hi
 obtain ⟨G,hG⟩:∃ G:Nat→Cells,(∀ i,lk δ i=some .gone→G i=fun _ _=>False)∧∀ i,lk δ i≠some .gone→G i=F i :=
  ⟨fun i=>if lk δ i=some .gone then fun _ _=>False else F i,fun i h=>if_pos h,fun i h=>if_neg h⟩
 have hsub:∀ i b o,G i b o→F i b o:=fun i b o hg=>by
  by_cases ti:lk δ i=some .gone
  ·rw [hG.1 i ti] at hg;exact hg.elim
  ·rw [hG.2 i ti] at hg;exact hg
 refine ⟨hb,hw,G,fun i j hij b o hfi hfj=>hd i j hij b o (hsub _ _ _ hfi) (hsub _ _ _ hfj),fun i b o hf=>hF i b o (hsub _ _ _ hf),fun i po hl=>?_⟩
 have e:lk (δ++H) i=gG (lk H) δ i:=by rw [lk_upd]
 rw [e] at hl
 unfold gG at hl
 cases hδ:lk δ i with
 | none =>
  rw [hδ] at hl
  rw [hG.2 i (by rw [hδ];exact nofun)]
  exact hP i po hl
 | some q =>
  rw [hδ] at hl
  have hl:=Option.some.inj hl
  subst hl
  by_cases ti:q=.gone
  ·subst ti
   rw [hG.1 i hδ]
   exact fun _ _ h=>h
  ·rw [hG.2 i (by rw [hδ];exact fun h=>ti (Option.some.inj h))]
   exact hP i q ((h i q hδ).resolve_left ti)
theorem Cert.left {P:Program} {rd:Option Nat} {n B nx:Nat} {ops:Array Oper} {K:En→Hs→Prop} {KP:TypeId→En→Hs→Prop} {o:Oper} {rest:List Oper} {fl:List Fl} {E:En} {H:PH} {f:Fl} {pv:PV} (hw:∀ S w η (tmps:Array Value),E.Only (sB ops o) S w η tmps→¬ Region.wanted o (yielded ops tmps)=true) (hd:dstOk n o.dst=true) (hf:leftOk H f=true) (hp:∀ S w η,PM S w η pv undef)
  (h:Cert P rd n B ops K KP rest fl (E.setO o.dst pv) (lk (leftD H (flKeys f)++H),fun i=>i<nx)):Cert P rd n B ops K KP (o::rest) (f::fl) E (lk H,fun i=>i<nx):=by
 cases f with
 | s ids keys =>
  have hk:mC (leftD H keys)=keys:=keys_left H keys
  have h':Cert P rd n B ops K KP rest fl (E.setO o.dst pv) (gG (lk H) (leftD H keys),nI (fun i=>i<nx) nx nx):=by
   rw [use_same,← lk_upd];exact h
  have:=Cert.s (P:=P) (rd:=rd) (B:=B) (ops:=ops) (K:=K) (KP:=KP) (o:=o) (rest:=rest) (fl:=fl) (E:=E) (hs:=(lk H,fun i=>i<nx)) ids nx nx pv (leftD H keys) (fun _=>rfl) hd (fun H' he S w η a hi hfr ho=>by
   rw [if_neg (hw S w η _ ho)]
   refine ⟨hp S w η,hi.leave fun i po hl=>?_⟩
   obtain ⟨h1,h2⟩:=leftD_some hl
   rcases h2 with h2 | ⟨_,h2⟩
   ·right
    have hm:i∈ids:=by
     have:=List.all_eq_true.1 (show (keys.all fun k=>match lk H k with | some _=>zC ids k | none=>true)=true from hf) i h1
     rw [h2] at this
     exact xJ.1 this
    rw [he i hm];exact h2
   ·exact .inl h2) (fun i h1 h2=>absurd h2 (Nat.not_lt.2 h1)) h'
  rw [hk] at this
  exact this
 | k keys =>
  refine .k keys pv (lk H,fun i=>i<nx) hd (fun S w η a hi ho=>?_) (fun _ _=>rfl) h
  rw [if_neg (hw S w η _ ho)]
  exact ⟨pv,hp S w η,rfl,rfl⟩
 | r =>
  refine .r (fun pv' hs'=>pv'=pv∧hs'=(lk H,fun i=>i<nx)) (fun _ _=>False) hd (fun S w η a hi ho=>?_) (fun pv' hs' hh=>by obtain ⟨rfl,rfl⟩:=hh;exact h) fun _ _ h=>h.elim
  rw [if_neg (hw S w η _ ho)]
  exact ⟨pv,hp S w η,rfl,rfl⟩
section
variable {F:OpF} {n:Nat}
def toHs (h:Hl):Hs:=(lk h.1,fun i=>i<h.2)
def CC (F:OpF) (n:Nat) (Γ:Tabs) (sz:Nat) (ops rest:List Oper) (fl:List Fl) (next:Ann) {β:Type} (K:PS→Option β) (K2:TypeId→PS→Option β) (r:β) (st:PS) (d:Option Nat) (pv:PV) (hs':Hl):Prop :=
 ∃ st2:PS,hs'=(st2.hp,st2.nx)∧lk st2.env=En.setO (lk st.env) d pv∧Wf st2.env∧(∃ δ,st2.env=δ++st.env)∧(∃ δ,st2.hp=δ++st.hp)∧pr F n Γ sz ops rest (some fl) next β st2 K K2=some r
def CQ {β:Type} (K2:TypeId→PS→Option β) (r:β) (st:PS) (T:TypeId) (hs':Hl):Prop :=
 ∃ st2:PS,hs'=(st2.hp,st2.nx)∧lk st2.env=lk st.env∧Wf st2.env∧(∃ δ,st2.env=δ++st.env)∧(∃ δ,st2.hp=δ++st.hp)∧K2 T st2=some r

theorem RStep.mono2 {P:Program} {rd:Option Nat} {B:Nat} {ops:Array Oper} {o:Oper} {E:En} {hs:Hs} {C C':PV→Hs→Prop} {CP CP':TypeId→Hs→Prop} (h:RStep P rd B ops o E hs C CP) (f:∀ pv hs',C pv hs'→C' pv hs') (f2:∀ T hs',CP T hs'→CP' T hs'):RStep P rd B ops o E hs C' CP':=by
 intro S w η a hi ho
 have g:=h S w η a hi ho
 split at g
 ·rename_i hw
  rw [if_pos hw]
  refine g.mono (fun a' w' hh=>?_) fun T w' ⟨S',η',hs',h1,h2,h3,h4⟩=>⟨S',η',hs',h1,h2,h3,f2 _ _ h4⟩
  obtain ⟨v,S',η',pv,hs',h1,h2,h3,h4,h5,h6⟩:=hh
  exact ⟨v,S',η',pv,hs',h1,h2,h3,h4,h5,f _ _ h6⟩
 ·rename_i hw
  rw [if_neg hw]
  obtain ⟨pv,h1,h2⟩:=g
  exact ⟨pv,h1,f _ _ h2⟩
theorem RStep.mono {P:Program} {rd:Option Nat} {B:Nat} {ops:Array Oper} {o:Oper} {E:En} {hs:Hs} {C C':PV→Hs→Prop} {CP:TypeId→Hs→Prop} (h:RStep P rd B ops o E hs C CP) (f:∀ pv hs',C pv hs'→C' pv hs'):RStep P rd B ops o E hs C' CP:=h.mono2 f fun _ _ h=>h
theorem call_okP (ih:PcOk F n) {Γ Γ':Tabs} {ops:List Oper} {body:Ann} {γ:Type} {st:PS} {CP:PV→Hl→Prop} {CPP:TypeId→Hl→Prop} {o:Oper} {c:Call} {f:Operand} {args:List RV} {g:FuncId} {fs cs:List FV} {fn:Func} {code:Code}
  {P:Program} (hΓ:TabOK P Γ) {rd:Option Nat} {B:Nat} (hw:Wf st.env) (hop:o.op=.call c) (hcal:c.callee=.value f) {ctx:Ctx} {bb:Bool} (hcx:bb=true→CtxH st.env ctx) (hwt:∀ S w η (tmps:Array Value),En.Only (lk st.env) (sB ops.toArray o) S w η tmps→Region.wanted o (yielded ops.toArray tmps)=true→bb=true)
  (hnot:∀ S w η (tmps:Array Value),En.Only (lk st.env) (sB ops.toArray o) S w η tmps→¬ Region.wanted o (yielded ops.toArray tmps)=true→∃ pv,PM S w η pv undef∧CP pv (st.hp,st.nx))
  (ha:pE st.env ctx c.args.toList=some args) (hf:ev st.env ctx f=some (.r (.c (.f g fs cs)))) (hfn:lk Γ.fn g=some fn)
  (hb:fn.body=some code) (hlen:fs.length+args.length+cs.length≤fn.ntmps) (hΓ':TabOK P Γ') {K':Ex→PS→Option γ} {ov:γ}
  (h:bb=true→pc F n Γ' fn.ntmps body code γ ⟨(vI 0 (fs.map cB++args++cs.map cB)).map fun x=>(x.1,.r x.2),st.hp,st.nx⟩ K'=some ov)
  (hK:bb=true→∀ ex st',K' ex st'=some ov→((∀ i,ex≠.exit i)∧∀ l,ex≠.go l)∧((∃ T,ex=.pan T∧∀ B S w η S' w' η',HInv B η st.hp S w→(∀ i,st.nx≤i→η i=none)→HInv B η' st'.hp S' w'→(∀ i,st'.nx≤i→η' i=none)→Pre η η'→(∃ δ,st'.hp=δ++st.hp)→Grow B S w S' w' →
   ∃ S2 η2 hs',HInv B η2 hs'.1 S2 w'∧(∀ i,hs'.2≤i→η2 i=none)∧Pre η η2∧Grow B S' w' S2 w'∧CPP T hs')∨((∀ T,ex≠.pan T)∧∃ rs,rE Γ st' fn.results.toList=some rs∧∀ B S w η S' w' η',HInv B η st.hp S w→(∀ i,st.nx≤i→η i=none)→HInv B η' st'.hp S' w'→(∀ i,st'.nx≤i→η' i=none)→Pre η η'→(∃ δ,st'.hp=δ++st.hp)→Grow B S w S' w' →
   ∃ S2 η2 pv hs',HInv B η2 hs'.1 S2 w'∧(∀ i,hs'.2≤i→η2 i=none)∧Pre η η2∧Grow B S' w' S2 w'∧(∀ v,PM S' w' η' (dB rs) v→PM S2 w' η2 pv v)∧CP pv hs'))) :
  RStep P rd B ops.toArray o (lk st.env) (lk st.hp,fun i=>i<st.nx) (fun pv hs'=>∃ hl,hs'=toHs hl∧CP pv hl) (fun T hs'=>∃ hl,hs'=toHs hl∧CPP T hl):=by
 intro S w η a hI ho
 have hi:HInv B η st.hp S w:=by
  obtain ⟨⟨H,eH,hi⟩,_⟩:=hI
  exact hi.less fun i po hl=>by rw [eH];exact hl
 have hl:∀ i,st.nx≤i→η i=none:=fun i hi=>hI.2 i (Nat.not_lt.2 hi)
 by_cases hwanted:Region.wanted o (yielded ops.toArray a.tmps)=true
 case neg =>
  rw [if_neg hwanted]
  obtain ⟨pv,h1,h2⟩:=hnot S w η a.tmps ho hwanted
  exact ⟨pv,h1,(st.hp,st.nx),rfl,h2⟩
 rw [if_pos hwanted]
 have hbb:=hwt S w η a.tmps ho hwanted
 have hcx:=hcx hbb
 have h:=h hbb
 have hK:=hK hbb
 have ho':=fE ho
 have hops:o.op.operands.toList=f::c.args.toList:=by simp [hop,Op.operands,Call.operands,hcal]
 obtain ⟨vf,vc,he,hvf,hvc⟩:=cA hw hcx hf (by rw [hops];simp) ho'
 have hva:=iC hw hcx ho' ha fun x hx=>by rw [hops];simp [hx]
 have hex:(execOp a.eval o).run P w=.ok (.enter g (vf.toArray++c.args.map a.eval++vc.toArray)) w:=by
  simp [execOp,hop,resolve,hcal,he,Deferred.ofValue,invoke,(hΓ.fn g fn hfn).2]
 refine OpWP.enter (by simp [hop]) hex ?_
 show CallsIn (FR none) 0 P g _ w _
 have hall:All2 (RM S w η) (fs.map cB++args++cs.map cB) (vf++c.args.toList.map a.eval++vc):=((tE hvf).append hva).append (tE hvc)
 have harr:vf.toArray++c.args.map a.eval++vc.toArray=(vf++c.args.toList.map a.eval++vc).toArray:=by simp
 rw [harr]
 refine body_okP ih hΓ hΓ' hfn hb hall (by simp;omega) hi hl h fun ex st' hk=>?_
 obtain ⟨hne,hend⟩:=hK ex st' hk
 refine ⟨hne,?_⟩
 rcases hend with ⟨T,hT,hfin⟩ | ⟨hnp,rs,hrs,hfin⟩
 ·refine .inl ⟨T,hT,fun S' w' η' i' l' hp' hh' gr'=>.inr ⟨T,rfl,?_⟩⟩
  obtain ⟨S2,η2,hs',i2,l2,p2,gr2,hcc⟩:=hfin B S w η S' w' η' hi hl i' l' hp' hh' gr'
  exact ⟨S2,η2,toHs hs',gr'.trans gr2,p2,⟨⟨_,rfl,i2⟩,fun i hi=>l2 i (Nat.le_of_not_lt hi)⟩,hs',rfl,hcc⟩
 refine .inr ⟨hnp,rs,hrs,fun S' w' η' v i' l' hp' hh' gr' hm=>?_⟩
 obtain ⟨S2,η2,pv,hs',i2,l2,p2,gr2,m2,hcc⟩:=hfin B S w η S' w' η' hi hl i' l' hp' hh' gr'
 exact .inl ⟨v,rfl,v,S2,η2,pv,toHs hs',rfl,gr'.trans gr2,p2,⟨⟨_,rfl,i2⟩,fun i hi=>l2 i (Nat.le_of_not_lt hi)⟩,m2 v hm,hs',rfl,hcc⟩

theorem call_ok (ih:PcOk F n) {Γ Γ':Tabs} {ops:List Oper} {body:Ann} {γ:Type} {st:PS} {CP:PV→Hl→Prop} {o:Oper} {c:Call} {f:Operand} {args:List RV} {g:FuncId} {fs cs:List FV} {fn:Func} {code:Code}
  {P:Program} (hΓ:TabOK P Γ) {rd:Option Nat} {B:Nat} (hw:Wf st.env) (hop:o.op=.call c) (hcal:c.callee=.value f) {ctx:Ctx} {bb:Bool} (hcx:bb=true→CtxH st.env ctx) (hwt:∀ S w η (tmps:Array Value),En.Only (lk st.env) (sB ops.toArray o) S w η tmps→Region.wanted o (yielded ops.toArray tmps)=true→bb=true)
  (hnot:∀ S w η (tmps:Array Value),En.Only (lk st.env) (sB ops.toArray o) S w η tmps→¬ Region.wanted o (yielded ops.toArray tmps)=true→∃ pv,PM S w η pv undef∧CP pv (st.hp,st.nx))
  (ha:pE st.env ctx c.args.toList=some args) (hf:ev st.env ctx f=some (.r (.c (.f g fs cs)))) (hfn:lk Γ.fn g=some fn)
  (hb:fn.body=some code) (hlen:fs.length+args.length+cs.length≤fn.ntmps) (hΓ':TabOK P Γ') {K':Ex→PS→Option γ} {ov:γ}
  (h:bb=true→pc F n Γ' fn.ntmps body code γ ⟨(vI 0 (fs.map cB++args++cs.map cB)).map fun x=>(x.1,.r x.2),st.hp,st.nx⟩ K'=some ov)
  (hK:bb=true→∀ ex st',K' ex st'=some ov→((∀ i,ex≠.exit i)∧(∀ l,ex≠.go l)∧∀ T,ex≠.pan T)∧∃ rs,rE Γ st' fn.results.toList=some rs∧∀ B S w η S' w' η',HInv B η st.hp S w→(∀ i,st.nx≤i→η i=none)→HInv B η' st'.hp S' w'→(∀ i,st'.nx≤i→η' i=none)→Pre η η'→(∃ δ,st'.hp=δ++st.hp)→Grow B S w S' w' →
   ∃ S2 η2 pv hs',HInv B η2 hs'.1 S2 w'∧(∀ i,hs'.2≤i→η2 i=none)∧Pre η η2∧Grow B S' w' S2 w'∧(∀ v,PM S' w' η' (dB rs) v→PM S2 w' η2 pv v)∧CP pv hs') :
  RStep P rd B ops.toArray o (lk st.env) (lk st.hp,fun i=>i<st.nx) (fun pv hs'=>∃ hl,hs'=toHs hl∧CP pv hl) (fun _ _=>False) :=
 (call_okP (CPP:=fun _ _=>False) ih hΓ hw hop hcal hcx hwt hnot ha hf hfn hb hlen hΓ' h fun hb ex st' hk=>⟨⟨(hK hb ex st' hk).1.1,(hK hb ex st' hk).1.2.1⟩,.inr ⟨(hK hb ex st' hk).1.2.2,(hK hb ex st' hk).2⟩⟩).mono2 (fun _ _ h=>h) fun _ _ ⟨_,_,h⟩=>h

theorem set_size:∀ (l:List (Tmp×Value)) (t:Array Value),(l.foldl (fun t (p,v)=>t.setIfInBounds p v) t).size=t.size
 | [],_=>rfl
 | x::r,t=>by
  obtain ⟨p,v⟩:=x
  show (r.foldl _ (t.setIfInBounds p v)).size=_
  rw [set_size r];simp
theorem rndE_env {S:Cells} {w:World} {η:Eta}:∀ {ps:List Nat} {args:List RV} {vs:List Value} {e:Ev} {t:Array Value},All2 (RM S w η) args vs→ltAll ps t.size=true→EnvM S w η e t→EnvM S w η (rndE ps args e) ((ps.zip vs).foldl (fun t (p,v)=>t.setIfInBounds p v) t)
 | [],_,_,_,_,_,_,h=>h
 | _::_,_,_,_,_,.nil,_,h=>h
 | p::ps,_,_,e,t,.cons (a:=x) (b:=v) h1 h2,hl,h=>by
  simp only [ltAll,bA] at hl
  have hp:p<t.size:=nL hl.1
  show EnvM S w η (rndE ps _ ((p,.r x)::e)) (List.foldl _ (t.setIfInBounds p v) _)
  refine rndE_env h2 (by simpa using hl.2) fun i pv hi=>?_
  by_cases hpi:p=i
  ·subst hpi
   rw [jA] at hi
   cases hi
   have:(t.setIfInBounds p v).getD p undef=v:=by simp [aD,hp]
   rw [this];exact h1
  ·rw [wA _ _ hpi] at hi
   have:(t.setIfInBounds p v).getD i undef=t.getD i undef:=by simp [aD,Array.getElem?_setIfInBounds_ne hpi]
   rw [this];exact h i pv hi
theorem rndE_wf:∀ {ps:List Nat} {args:List RV} {e:Ev},Wf e→Wf (rndE ps args e)
 | [],_,_,h=>h
 | _::_,[],_,h=>h
 | p::ps,v::vs,e,h=>by
  show Wf (rndE ps vs ((p,.r v)::e))
  exact rndE_wf (h.consN (by simp))
theorem noGE_wf:∀ {e:Ev},noGE e=true→Wf e
 | [],_=>Wf.nil
 | (i,v)::r,h=>by
  simp only [noGE,bA,Bool.not_eq_true'] at h
  exact (noGE_wf h.2).consN (isG_no h.1)
theorem yield_ok (ih:PcOk F n) {Γ Γ':Tabs} {sz:Nat} {ops rest:List Oper} {fl:List Fl} {next xa xb:Ann} {β:Type} {K:PS→Option β} {K2:TypeId→PS→Option β} {r:β} {st:PS} {o:Oper} {c:Call} {f:Operand} {args:List RV} {id:Nat} {L:LoopD}
  {P:Program} {rd:Option Nat} {B:Nat} (hw:Wf st.env) (hop:o.op=.call c) (hcal:c.callee=.value f) (hg:o.guard=none)
  (ha:pE st.env [] c.args.toList=some args) (hf:ev st.env [] f=some (.r (.c (.y id)))) (hlk:lk st.hp id=some (.lp L .ready)) (hlen:args.length=L.ps.size) (hlt:ltAll L.ps.toList L.n=true) (hng:noGE L.env=true) (hΓ':TabOK P Γ')
  (h:pc F n Γ' L.n xa L.assign β ⟨rndE L.ps.toList args L.env,st.hp,st.nx⟩ (fun ex st1=>match ex,lk st1.hp id with
           | .norm,some (.lp L1 .ready)=>pc F n Γ' L.n xb L.body β ⟨st1.env,(id,.lp L1 .busy)::st1.hp,st1.nx⟩ fun ex2 st2=>match lk st2.hp id with
            | some (.lp L2 .busy)=>match ex2 with
             | .norm=>pr F n Γ sz ops rest (some fl) next β ⟨wC o.dst (.c (.d .bool true)) st.env,(id,.lp L2 .ready)::st2.hp,st2.nx⟩ K K2
             | .ret=>pr F n Γ sz ops rest (some fl) next β ⟨wC o.dst (.c (.d .bool false)) st.env,(id,.lp L2 (.done .ret))::st2.hp,st2.nx⟩ K K2
             | .exit i=>pr F n Γ sz ops rest (some fl) next β ⟨wC o.dst (.c (.d .bool false)) st.env,(id,.lp L2 (.done (.exit i)))::st2.hp,st2.nx⟩ K K2
             | .go _=>none
             | .pan _=>none
            | _=>none
           | _,_=>none)=some r) :
  RStep P rd B ops.toArray o (lk st.env) (lk st.hp,fun i=>i<st.nx) (fun pv hs'=>∃ hl,hs'=toHs hl∧CC F n Γ sz ops rest fl next K K2 r st o.dst pv hl) (fun _ _=>False):=by
 intro S w η a hI ho
 have hi:HInv B η st.hp S w:=by
  obtain ⟨⟨H,eH,hi⟩,_⟩:=hI
  exact hi.less fun i po hl=>by rw [eH];exact hl
 have hl:∀ i,st.nx≤i→η i=none:=fun i hi=>hI.2 i (Nat.not_lt.2 hi)
 rw [if_pos (yB hg)]
 have ho':=fE ho
 have hops:o.op.operands.toList=f::c.args.toList:=by simp [hop,Op.operands,Call.operands,hcal]
 obtain ⟨b,hb,he⟩:=cA hw (CtxH.nil _) hf (by rw [hops];simp) ho'
 have hva:=iC hw (CtxH.nil _) ho' ha fun x hx=>by rw [hops];simp [hx]
 obtain ⟨F0,_,b0,rec,x1,_,x3,x4,x5,x6,x7,x8,x9,_⟩:=hi.read hlk
 rw [hb] at x1
 cases x1
 have hargs:(c.args.map a.eval).size=rec.params.size:=by
  rw [x6,← hlen,hva.length];simp
 have hex:(execOp a.eval o).run P w=.ok (.round b rec.fn ((rec.params.zip (c.args.map a.eval)).foldl (fun tmps (t,a)=>tmps.setIfInBounds t a) rec.tmps) rec.assign rec.body) w:=by
  simp [execOp,hop,resolve,hcal,he,Deferred.ofValue,invoke,run_yield x3 hargs]
 refine OpW.toP (OpW.round (by simp [hop]) hex (roundIn_of_wpIn (FR.fn rd _) ?_))
 show rec.assign.wpIn (FR (some b)) 0 P _ _ w
 rw [x7,x8]
 have hzip:(rec.params.zip (c.args.map a.eval)).foldl (fun tmps (t,a)=>tmps.setIfInBounds t a) rec.tmps=(L.ps.toList.zip (c.args.toList.map a.eval)).foldl (fun t (p,v)=>t.setIfInBounds p v) rec.tmps:=by
  rw [x6,← Array.foldl_toList];simp
 rw [hzip]
 refine ih _ _ _ _ _ _ _ _ h P hΓ' (some b) B ⟨w.heap.size,some b,[],false⟩ _ w S η ⟨DefsOK.nil _ _ _ _,by rw [set_size];exact x4,rndE_env hva (by rw [x4];exact hlt) x5,hi,hl,rndE_wf (noGE_wf hng),fun l hl=>?_,hi.base,nR _⟩ rfl (fun h=>by cases h) _ fun ex st1 a1 w1 S1 η1 g1 stp1 hk=>?_
 ·cases hl;exact ⟨rec,x3⟩
 split at hk
 ·rename_i L1 hlk1
  have hb1:=stp1.pre.get hb
  obtain ⟨F1,_,b1,r1,y1,_,y3,_,_,_,_,_,y9,_,y11⟩:=g1.inv.read hlk1
  rw [hb1] at y1
  cases y1
  obtain ⟨i2,hBb⟩:=g1.inv.putLoop hlk1 hb1 y3 .busy r1.pending (po':=.lp L1 .busy) (.inr ⟨.busy,rfl,rfl,fun j hj=>(by cases hj),fun hj=>(by cases hj)⟩)
  have gr2:=Grow.putLoop g1.inv.inw hBb y3 .busy r1.pending
  refine ⟨_,run_beginRound y3 (by rw [y9];rfl),?_⟩
  refine ih _ _ _ _ _ _ _ _ hk P hΓ' (some b) B ⟨w.heap.size,some b,[],false⟩ a1 _ S1 η1 ⟨g1.defers.mono gr2.lk,g1.size,EnvM.mono gr2.keep (.refl _) g1.env,i2,g1.len,g1.wf,g1.rdok.mono gr2.lk,g1.bb,Nat.le_trans g1.ba gr2.below.size⟩ rfl (fun h=>by cases h) _ fun ex2 st2 a2 w2 S2 η2 g2 stp2 hk2=>?_
  split at hk2
  ·rename_i L2 hlk2
   have hb2:=stp2.pre.get hb1
   obtain ⟨F2,_,b2,r2,z1,_,z3,_⟩:=g2.inv.read hlk2
   rw [hb2] at z1
   cases z1
   have gr3:=(stp1.grow.trans gr2).trans stp2.grow
   have hp3:=stp1.pre.trans stp2.pre
   have hH:∃ δ,st2.hp=δ++st.hp:=kC (kC stp1.hp ⟨[(id,.lp L1 .busy)],rfl⟩) stp2.hp
   have fin:∀ (jump:Option Code) (s':LS) (v:Bool),v=jump.isNone→(if jump.isNone then LoopState.ready else .done)=s'.state→(∀ j,s'=.done j→jump=some j.code)→(s'=.ready→jump=none) →
     pr F n Γ sz ops rest (some fl) next β ⟨wC o.dst (.c (.d .bool v)) st.env,(id,.lp L2 s')::st2.hp,st2.nx⟩ K K2=some r →
     ∃ v w',(Instr.endRound b jump).run P w2=.ok v w'∧∃ v_1,Ending.returned v=.returned v_1∧∃ v S' η' pv hs',a.put o.dst v_1=a.put o.dst v∧Grow B S w S' w'∧Pre η η'∧HI B η' hs' S' w'∧PM S' w' η' pv v∧∃ hl,hs'=toHs hl∧CC F n Γ sz ops rest fl next K K2 r st o.dst pv hl:=by
    intro jump s' v hv hst hd hr' hpr
    obtain ⟨i3,_⟩:=g2.inv.putLoop hlk2 hb2 z3 (if jump.isNone then .ready else .done) jump (po':=.lp L2 s') (.inr ⟨s',rfl,hst,hd,hr'⟩)
    have gr4:=Grow.putLoop g2.inv.inw hBb z3 (if jump.isNone then .ready else .done) jump
    subst hv
    refine ⟨_,_,run_endRound jump z3,_,rfl,.bool jump.isNone,S2,η2,.c (.d .bool jump.isNone),toHs ((id,.lp L2 s')::st2.hp,st2.nx),rfl,gr3.trans gr4,hp3,⟨⟨_,rfl,i3⟩,fun i hi=>g2.len i (Nat.le_of_not_lt hi)⟩,⟨rfl,VRep.bool.2 rfl⟩,_,rfl,
     ⟨wC o.dst (.c (.d .bool jump.isNone)) st.env,(id,.lp L2 s')::st2.hp,st2.nx⟩,rfl,wF _ _ _,vF hw fun c b v he=>(by cases he),cD _ _ _,kC hH ⟨[_],rfl⟩,hpr⟩
   split at hk2
   ·exact fin none .ready true rfl rfl (fun j hj=>by cases hj) (fun _=>rfl) hk2
   ·exact fin (some .ret) (.done .ret) false rfl rfl (fun j hj=>by cases hj;rfl) (fun hj=>by cases hj) hk2
   ·rename_i i
    exact fin (some (.exit i)) (.done (.exit i)) false rfl rfl (fun j hj=>by cases hj;rfl) (fun hj=>by cases hj) hk2
   ·cases hk2
   ·cases hk2
  ·cases hk2
 ·cases hk

theorem PrOk.succ (hS:F.Sound) (hN:F.Nice) (ih:PcOk F n) (ihr:PrOk F n):PrOk F (n+1):=by
 intro Γ sz ops todo fl an β st K K2 r h P hΓ rd B hw
 unfold pr at h
 split at h
 ·split at h
  ·cases h
  ·rename_i hfl
   refine ⟨[],fun f hf=>?_,.nil ⟨st,rfl,rfl,hw,⟨[],rfl⟩,⟨[],rfl⟩,h⟩⟩
   cases f with
   | nil=>rfl
   | cons x y=>exact absurd hf (hfl x y)
 ·rename_i o rest
  split at h
  ·cases h
  ·rename_i hdst
   split at h
   ·rename_i gd hgd
    split at h
    ·rename_i x y
     split at h
     ·rename_i d want bb hgs
      have hlk:lk st.env d=some (.c (.d .bool bb)):=gsl_lk hgs
      have key:∀ v:Bool,v=bb→∀ z,pr F n Γ sz ops (o::rest) fl z β { st with env:=(d,.c (.d .bool v))  :: st.env } K K2=some r→∃ fl',(∀ f,fl=some f→fl'=f)∧Cert P rd sz B ops.toArray (KK K st r) (fun T=>KK (K2 T) st r) (o::rest) fl' (lk st.env) (lk st.hp,fun i=>i<st.nx):=by
       intro v hv z hz
       subst hv
       obtain ⟨fr,hfr,hc⟩:=ihr _ _ _ _ _ _ _ _ _ _ _ hz P hΓ rd B (hw.consN fun c b v=>by simp)
       have hc:=Cert.kk hc (st:=st) ⟨[_],rfl⟩ ⟨[],rfl⟩
       have he:lk ((d,PV.c (.d .bool v))::st.env)=lk st.env:=by
        funext i
        by_cases hi:d=i
        ·subst hi;rw [jA,hlk]
        ·rw [wA _ _ hi]
       simp only [he] at hc
       exact ⟨fr,hfr,hc⟩
      cases hb:sgn want bb with
      | true =>
       rw [hb] at h
       exact key want (by cases want<;>cases bb<;>simp_all [sgn,notM]) _ h
      | false =>
       rw [hb] at h
       exact key (!want) (by cases want<;>cases bb<;>simp_all [sgn,notM]) _ h
     ·cases h
    split at h
    ·rename_i ctx b hgr
     obtain ⟨hctx1,hctx2,hwant⟩:=gd_ok hgr hw
     split at h
     ·rename_i f x y hne
      split at h
      ·obtain ⟨fr,hfr,hc⟩:=ihr _ _ _ _ _ _ _ _ _ _ _ h P hΓ rd B hw
       exact ⟨fr,hfr,Cert.unguard (fun S w η tmps ho=>(hwant S w η tmps ho).2 rfl) hc⟩
      ·split at h
       ·rename_i fl' hfl hkf
        obtain ⟨fr,hfr,hc⟩:=ihr _ _ _ _ _ _ _ _ _ _ _ h P hΓ rd B (vF hw fun c b' v he=>by cases he;exact ⟨hctx1,hctx2⟩)
        have hc:=Cert.kk hc (st:=st) (cD _ _ _) ⟨_,rfl⟩
        simp only [wF] at hc
        refine ⟨f::fr,fun g hg=>?_,Cert.left (fun S w η tmps ho hwt=>by have:=(hwant S w η tmps ho).1 hwt;cases this) hdst hkf (pv:=.g ctx false .any) (fun S w η=>⟨fun hb=>(by cases hb),fun _=>rfl⟩) hc⟩
        rcases sC hfl with ⟨h1,_⟩ | ⟨l,h1,h2⟩
        ·rw [h1] at hg;cases hg
        ·rw [h1] at hg;cases hg;rw [hfr l h2]
       ·cases h
     split at h
     ·rename_i R hR
      split at h
      ·rename_i fl' hfl hble
       have key:∀ rr,(b=true→R.m=some rr)→(R.pv rr).isG=false→pr F n Γ sz ops rest fl' an β { st with env:=wC o.dst (.g ctx b (R.pv rr)) st.env } K K2=some r →
         ∃ fl',(∀ f,fl=some f→fl'=f)∧Cert P rd sz B ops.toArray (KK K st r) (fun T=>KK (K2 T) st r) (o::rest) fl' (lk st.env) (lk st.hp,fun i=>i<st.nx):=by
        intro rr hm hng h
        obtain ⟨fr,hfr,hc⟩:=ihr _ _ _ _ _ _ _ _ _ _ _ h P hΓ rd B (vF hw fun c b' v he=>by cases he;exact ⟨hctx1,hctx2⟩)
        have hc:=Cert.kk hc (st:=st) (cD _ _ _) ⟨[],rfl⟩
        simp only [wF] at hc
        have hle:=nL hble
        have hat:∀ H',(∀ i∈aI st.env ctx o R,lk H' i=lk st.hp i)→F Γ o st.env ctx H' st.nx=some R:=hN.at hR
        have hls:=ls_small (P:=P) (rd:=rd) (B:=B) (ops:=ops.toArray) (o:=o) (e:=st.env) (ctx:=ctx) (R:=R) (rr:=rr) (H:=st.hp) (nx:=st.nx) (b:=b) (pvw:=.g ctx b (R.pv rr)) hle
         (fun H' he hb=>hS P Γ hΓ rd B o _ _ _ _ R (hat H' he) hw (hctx2.1 hb) rr (hm hb)) hwant (fun S w η v hb hv=>⟨fun _=>hv,fun hb'=>(by rw [hb] at hb';cases hb')⟩) (fun S w η hb=>⟨fun hb'=>(by rw [hb] at hb';cases hb'),fun _=>rfl⟩)
        refine ⟨.s (aI st.env ctx o R) []::fr,fun f hf=>?_,.s _ st.nx st.nx _ [] (fun _=>rfl) hdst hls (fun i h1 h2=>absurd h2 (Nat.not_lt.2 h1)) (Cert.same hc)⟩
        rcases sC hfl with ⟨h1,_⟩ | ⟨l,h1,h2⟩
        ·rw [h1] at hf;cases hf
        ·rw [h1] at hf;cases hf;rw [hfr l h2]
       split at h
       ·rename_i ht _
        split at h
        ·cases h
        ·rename_i hng
         exact key R.df (fun _=>ht.down) hng h
       ·obtain ⟨rr,h1,h2⟩:=Option.bind_eq_some_iff.1 h
        split at h2
        ·cases h2
        ·rename_i hng
         exact key rr (fun hb=>by rw [hb] at h1;exact h1) hng h2
      ·cases h
     ·split at h
      ·rename_i c own k body next d hop hdd hdx hdy
       have hdd':o.dst=some d:=by assumption
       split at h
       ·rename_i f args fl' hcal ha hfl hcs hobj hnew
        obtain ⟨h1,h2⟩:fl=some (.k []::fl')∧True:=by
         rcases sC hfl with ⟨_,h2⟩ | ⟨l,h1,h2⟩
         ·cases h2
         ·cases h2;exact ⟨h1,trivial⟩
        split at h
        ·rename_i g fs cs hf
         split at h
         ·rename_i fn hfn
          split at h
          ·rename_i code hb hlen
           have hΓ':TabOK P { Γ with own:=own }:=⟨hΓ.ty,hΓ.fn,hΓ.sp,hΓ.en,hΓ.mixed,hΓ.so,hΓ.eqs,hΓ.so1,hΓ.mps,hΓ.ow,hΓ.bt,hΓ.ex,hΓ.pp⟩
           obtain ⟨ov,h3,h4⟩:=Option.bind_eq_some_iff.1 h
           split at h4
           ·rename_i st2 hdec
            split at h4
            ·rename_i pv hpv
             split at h4
             ·cases h4
             ·rename_i hng
              have hwf:Wf ((d,PV.g ctx b pv)::st.env):=hw.cons fun c b' v he=>by cases he;exact ⟨hctx1,hctx2⟩
              have hcc:(fun pv' hl'=>pv'=PV.g ctx b pv∧hl'=(st.hp,st.nx):PV→Hl→Prop) (.g ctx b pv) (st.hp,st.nx):=⟨rfl,rfl⟩
              have hstep:=call_ok ih (F:=F) (n:=n) (CP:=fun pv' hl'=>pv'=PV.g ctx b pv∧hl'=(st.hp,st.nx)) hΓ (rd:=rd) (B:=B) hw hop hcal (ctx:=ctx) (bb:=b) hctx2.1 (fun S w η tmps ho hwt=>(hwant S w η tmps ho).1 hwt)
               (fun S w η tmps ho hn=>⟨.g ctx b pv,⟨fun hb=>absurd ((hwant S w η tmps ho).2 hb) hn,fun _=>rfl⟩,hcc⟩) ha hf hfn hb (nL hlen) hΓ' (ov:=ov) (fun hb'=>by rw [hb'] at h3;exact h3) fun hbt ex st' hk=>by
                split at hk
                ·cases hk
                ·cases hk
                ·cases hk
                ·rename_i hne1 hne2 hne3
                 refine ⟨⟨fun i hi=>hne1 i hi,fun l hl=>hne2 l hl,fun T hT=>hne3 T hT⟩,?_⟩
                 split at hk
                 ·rename_i rs hrs
                  refine ⟨rs,hrs,fun B S w η S' w' η' i0 l0 i1 l1 hp hh hgr=>?_⟩
                  have e1:=fF hk
                  have e2:k.dec st (Tup.toL k.tys ov)=some st2:=hdec
                  obtain ⟨hk1,hk2⟩:=jF hcs
                  obtain ⟨S2,η2,y,q1,q2,q3,q4,q5,q6,⟨L',q7⟩,q8,q9,q10,_,_⟩:=Skel.ok e1 e2 i0 l0 i1 l1 hp ⟨[(d,dB rs)],rfl⟩ hh hgr
                  have hst2:st2.hp=st.hp∧st2.nx=st.nx:=by
                   unfold Skel.dec at e2
                   split at e2
                   ·split at e2
                    ·rename_i ho1
                     split at e2
                     ·rename_i hn1
                      cases e2
                      rw [hobj] at ho1
                      rw [hnew] at hn1
                      cases ho1
                      cases hn1
                      exact ⟨rfl,by simp [hnew]⟩
                     ·cases e2
                    ·cases e2
                   ·cases e2
                  rw [hk1] at q6
                  simp only [List.map_nil,List.append_nil] at q6
                  rcases hk2 with ⟨hd,hs⟩ | ⟨i,sp,hd,hs⟩
                  ·cases hd
                  ·cases hd
                   rw [hs] at q7
                   simp only [zD] at q7
                   split at q7
                   ·rename_i pv2 L2 hsp
                    cases q7
                    simp only [List.cons_append,List.nil_append] at q6
                    rw [q6,jA] at hpv
                    cases hpv
                    obtain ⟨pv0,g1,g2⟩:=q10 d _ (jA _ _ _)
                    rw [jA] at g1
                    cases g1
                    rw [hst2.1] at q1
                    rw [hst2.2] at q2
                    refine ⟨S2,η2,.g ctx b _,(st.hp,st.nx),q1,q2,q3,q4,fun v hv=>⟨fun _=>g2 v hv,fun hb'=>by rw [hbt] at hb';cases hb'⟩,hcc⟩
                   ·cases q7
                 ·cases hk
              obtain ⟨fr,hfr,hc⟩:=ihr _ _ _ _ _ _ _ _ _ _ _ h4 P hΓ rd B hwf
              have:=hfr _ rfl
              subst this
              have hc:=Cert.kk hc (st:=st) ⟨[_],rfl⟩ ⟨[],rfl⟩
              refine ⟨.k []::_,fun f hf=>by rw [h1] at hf;cases hf;rfl,.k [] (.g ctx b pv) (toHs (st.hp,st.nx)) hdst (hstep.mono fun pv' hs' hh=>?_) (fun _ _=>rfl) ?_⟩
              ·obtain ⟨hl,rfl,rfl,rfl⟩:=hh
               exact ⟨rfl,rfl⟩
              ·have e2:lk ((d,PV.g ctx b pv)::st.env)=En.setO (lk st.env) o.dst (.g ctx b pv):=by rw [hdd'];exact lk_set _ _ _
               rw [← e2]
               exact hc
            ·cases h4
           ·cases h4
          ·cases h
         ·cases h
        ·cases h
       ·cases h
      ·cases h
    ·cases h
   ·rename_i hg
    split at h
    ·rename_i R hR
     have hwant:∀ S w η (tmps:Array Value),En.Only (lk st.env) (sB ops.toArray o) S w η tmps→(Region.wanted o (yielded ops.toArray tmps)=true↔true=true):=fun _ _ _ _ _=>⟨fun _=>rfl,fun _=>yB hg⟩
     have hat:∀ H',(∀ i∈aI st.env [] o R,lk H' i=lk st.hp i)→F Γ o st.env [] H' st.nx=some R:=hN.at hR
     split at h
     ·rename_i hble
      split at h
      ·rename_i fl' hfl
       obtain ⟨rr,h1,h2⟩:=Option.bind_eq_some_iff.1 h
       split at h2
       ·cases h2
       ·rename_i hng
        obtain ⟨fr,hfr,hc⟩:=ihr _ _ _ _ _ _ _ _ _ _ _ h2 P hΓ rd B (vF hw fun c b' v he=>absurd he (isG_no hng c b' v))
        have hc:=Cert.kk hc (st:=st) (cD _ _ _) ⟨[],rfl⟩
        simp only [wF] at hc
        have hls:=ls_small (P:=P) (rd:=rd) (B:=B) (ops:=ops.toArray) (o:=o) (e:=st.env) (ctx:=[]) (R:=R) (rr:=rr) (H:=st.hp) (nx:=st.nx) (b:=true) (pvw:=R.pv rr) (nL hble)
         (fun H' he _=>hS P Γ hΓ rd B o _ _ _ _ R (hat H' he) hw (CtxH.nil _) rr h1) hwant (fun S w η v _ hv=>hv) (fun S w η hb=>by cases hb)
        refine ⟨.s (aI st.env [] o R) []::fr,fun f hf=>?_,.s _ st.nx st.nx _ [] (fun _=>rfl) hdst hls (fun i h1 h2=>absurd h2 (Nat.not_lt.2 h1)) (Cert.same hc)⟩
        rcases sC hfl with ⟨h1,_⟩ | ⟨l,h1,h2⟩
        ·rw [h1] at hf;cases hf
        ·rw [h1] at hf;cases hf;rw [hfr l h2]
      ·cases h
     ·rename_i hble
      split at h
      ·rename_i hnx
       obtain ⟨rr,h1,h2⟩:=Option.bind_eq_some_iff.1 h
       split at h2
       ·rename_i fl' hfl hng hno
        have hnx:=nL hnx
        have h3:¬ R.fl≤1:=fun hle=>by rw [Nat.ble_eq_true_of_le hle] at hble;cases hble
        obtain ⟨fr,hfr,hc⟩:=ihr _ _ _ _ _ _ _ _ _ _ _ h2 P hΓ rd B (vF hw fun c b' v he=>absurd he (isG_no hng c b' v))
        have hc:=Cert.kk hc (st:=st) (cD _ _ _) ⟨R.δ rr,rfl⟩
        simp only [wF,lk_upd] at hc
        have hids:aI st.env [] o R=dD st.env [] o:=by
         unfold aI
         split
         ·omega
         ·rfl
        have hls:=ls_big (P:=P) (rd:=rd) (B:=B) (ops:=ops.toArray) (o:=o) (e:=st.env) (ctx:=[]) (R:=R) (rr:=rr) (H:=st.hp) (nx:=st.nx) hg h3
         (fun H' he=>hS P Γ hΓ rd B o _ _ _ _ R (hat H' (by rw [hids];exact he)) hw (CtxH.nil _) rr h1)
        refine ⟨.s (dD st.env [] o) (mC (R.δ rr))::fr,fun f hf=>?_,.s _ st.nx R.nx _ _ (fun he=>by rw [he] at hno;exact (nB hno).symm) hdst hls (fun i h1 h2 hu=>absurd hu (Nat.not_lt.2 h1)) (Cert.to hnx hc)⟩
        rcases sC hfl with ⟨h1,_⟩ | ⟨l,h1,h2⟩
        ·rw [h1] at hf;cases hf
        ·rw [h1] at hf;cases hf;rw [hfr l h2]
       ·cases h2
      ·cases h
    ·split at h
     ·rename_i c own outs body next hop
      split at h
      ·rename_i f args fl' hcal ha hfl
       obtain ⟨l,h1,h2⟩:∃ l,fl=some (.r::l)∧fl'=l:=by
        rcases sC hfl with ⟨_,h2⟩ | ⟨l,h1,h2⟩
        ·cases h2
        ·cases h2;exact ⟨_,h1,rfl⟩
       subst h2
       have fin:RStep P rd B ops.toArray o (lk st.env) (lk st.hp,fun i=>i<st.nx) (fun pv hs'=>∃ hl,hs'=toHs hl∧CC F n Γ sz ops rest fl' next K K2 r st o.dst pv hl) (fun T hs'=>∃ hl,hs'=toHs hl∧CQ K2 r st T hl)→∃ fl',(∀ f,fl=some f→fl'=f)∧Cert P rd sz B ops.toArray (KK K st r) (fun T=>KK (K2 T) st r) (o::rest) fl' (lk st.env) (lk st.hp,fun i=>i<st.nx):=by
        intro hstep
        refine ⟨.r::fl',fun f hf=>by rw [h1] at hf;cases hf;rfl,.r _ _ hdst hstep (fun pv hs' hcc=>?_) fun T hs' ⟨hl,e0,st2,e1,e2,e3,e4,e5,e6⟩=>⟨st2,e2.symm,by rw [e0,e1];rfl,e3,e4,e5,e6⟩⟩
        obtain ⟨hl,rfl,st2,rfl,e2,e3,e4,e5,e6⟩:=hcc
        obtain ⟨fr,hfr,hc⟩:=ihr _ _ _ _ _ _ _ _ _ _ _ e6 P hΓ rd B e3
        have:=hfr _ rfl
        subst this
        have hc:=Cert.kk hc (st:=st) e4 e5
        rw [e2] at hc
        exact hc
       split at h
       ·rename_i g fs cs hf
        split at h
        ·rename_i fn hfn
         split at h
         ·rename_i code hb hlen
          have hΓ':TabOK P { Γ with own:=own }:=⟨hΓ.ty,hΓ.fn,hΓ.sp,hΓ.en,hΓ.mixed,hΓ.so,hΓ.eqs,hΓ.so1,hΓ.mps,hΓ.ow,hΓ.bt,hΓ.ex,hΓ.pp⟩
          split at h
          ·refine fin (call_okP ih (CP:=CC F n Γ sz ops rest _ next K K2 r st o.dst) (CPP:=CQ K2 r st) hΓ hw hop hcal (ctx:=[]) (bb:=true) (fun _=>CtxH.nil _) (fun _ _ _ _ _ _=>rfl) (fun _ _ _ _ _ hn=>absurd (yB hg) hn) ha hf hfn hb (nL hlen) hΓ' (fun _=>h) fun _ ex st' hk=>?_)
           split at hk
           ·cases hk
           ·cases hk
           ·rename_i T
            exact ⟨⟨fun i hi=>(by cases hi),fun l hl=>(by cases hl)⟩,.inl ⟨T,rfl,fun B S w η S' w' η' i0 l0 i1 l1 hp hh hgr=>⟨S',η',(st'.hp,st'.nx),i1,l1,hp,Grow.refl i1.inw,⟨st.env,st'.hp,st'.nx⟩,rfl,rfl,hw,⟨[],rfl⟩,hh,hk⟩⟩⟩
           ·rename_i hne1 hne2 hne3
            refine ⟨⟨fun i hi=>hne1 i hi,fun l hl=>hne2 l hl⟩,.inr ⟨fun T hT=>hne3 T hT,?_⟩⟩
            split at hk
            ·rename_i rs hrs
             refine ⟨rs,hrs,fun B S w η S' w' η' i0 l0 i1 l1 hp hh hgr=>?_⟩
             exact ⟨S',η',dB rs,(st'.hp,st'.nx),i1,l1,hp,Grow.refl i1.inw,fun v hv=>hv,⟨wC o.dst (dB rs) st.env,st'.hp,st'.nx⟩,rfl,wF _ _ _,vF hw fun c b v he=>absurd he (resPV_noG c b v),cD _ _ _,hh,hk⟩
            ·cases hk
          ·split at h
           ·cases h
           ·rename_i hco
            obtain ⟨ov,h3,h4⟩:=Option.bind_eq_some_iff.1 h
            refine fin (call_okP ih (CP:=CC F n Γ sz ops rest _ next K K2 r st o.dst) (CPP:=CQ K2 r st) hΓ hw hop hcal (ctx:=[]) (bb:=true) (fun _=>CtxH.nil _) (fun _ _ _ _ _ _=>rfl) (fun _ _ _ _ _ hn=>absurd (yB hg) hn) ha hf hfn hb (nL hlen) hΓ' (fun _=>h3) fun _ ex st' hk=>?_)
            split at hk
            ·cases hk
            ·cases hk
            ·rename_i T
             refine ⟨⟨fun i hi=>(by cases hi),fun l hl=>(by cases hl)⟩,.inl ⟨T,rfl,fun B S w η S' w' η' i0 l0 i1 l1 hp hh hgr=>?_⟩⟩
             obtain ⟨k,L,st2,hmem,e1,e2,e3⟩:=xK hk h4
             obtain ⟨hk1,hk2⟩:=jF (jK hco _ hmem)
             obtain ⟨S2,η2,y,q1,q2,q3,q4,q5,q6,⟨L',q7⟩,q8,q9,q10,_,_⟩:=Skel.ok e1 e2 i0 l0 i1 l1 hp ⟨[],rfl⟩ hh hgr
             rw [hk1] at q6
             simp only [List.map_nil,List.append_nil] at q6
             rcases hk2 with ⟨hd,hs⟩ | ⟨i,sp,hd,hs⟩
             ·rw [hs] at q7
              cases q7
              simp only [List.nil_append] at q6
              exact ⟨S2,η2,(st2.hp,st2.nx),q1,q2,q3,q4,st2,rfl,by rw [q6],by rw [q6];exact hw,⟨[],q6⟩,q5,e3⟩
             ·cases hd
            ·rename_i hne1 hne2 hne3
             refine ⟨⟨fun i hi=>hne1 i hi,fun l hl=>hne2 l hl⟩,.inr ⟨fun T hT=>hne3 T hT,?_⟩⟩
             split at hk
             ·rename_i rs hrs
              refine ⟨rs,hrs,fun B S w η S' w' η' i0 l0 i1 l1 hp hh hgr=>?_⟩
              obtain ⟨k,L,st2,hmem,e1,e2,e3⟩:=xK hk h4
              obtain ⟨hk1,hk2⟩:=jF (show gJ o.dst k=true from jK hco _ hmem)
              obtain ⟨S2,η2,y,q1,q2,q3,q4,q5,q6,⟨L',q7⟩,q8,q9,q10,_,_⟩:=Skel.ok e1 e2 i0 l0 i1 l1 hp (cD _ _ _) hh hgr
              rw [hk1] at q6
              simp only [List.map_nil,List.append_nil] at q6
              rcases hk2 with ⟨hd,hs⟩ | ⟨i,sp,hd,hs⟩
              ·rw [hs] at q7
               cases q7
               simp only [List.nil_append] at q6
               exact ⟨S2,η2,.any,(st2.hp,st2.nx),q1,q2,q3,q4,fun _ _=>trivial,st2,rfl,by rw [q6,hd];rfl,by rw [q6];exact hw,⟨[],q6⟩,q5,e3⟩
              ·rw [hs] at q7
               simp only [zD] at q7
               split at q7
               ·rename_i pv2 L2 hsp
                cases q7
                simp only [List.cons_append,List.nil_append] at q6
                obtain ⟨pv0,g1,g2⟩:=q10 i pv2 (jA _ _ _)
                rw [hd] at g1
                simp only [wC] at g1
                rw [jA] at g1
                cases g1
                exact ⟨S2,η2,pv2,(st2.hp,st2.nx),q1,q2,q3,q4,g2,st2,rfl,by rw [q6,hd];exact lk_set _ _ _,by rw [q6];exact hw.consN (q8 (i,pv2) (by simp)),⟨[(i,pv2)],q6⟩,q5,e3⟩
               ·cases q7
             ·cases hk
         ·cases h
        ·cases h
       ·rename_i id hf
        split at h
        ·rename_i L xa xb hlk
         split at h
         ·rename_i hcond
          simp only [bA] at hcond
          exact fin ((yield_ok ih hw hop hcal hg ha hf hlk (nB hcond.1) hcond.2.1 hcond.2.2 (Γ':={ Γ with own:=own }) ⟨hΓ.ty,hΓ.fn,hΓ.sp,hΓ.en,hΓ.mixed,hΓ.so,hΓ.eqs,hΓ.so1,hΓ.mps,hΓ.ow,hΓ.bt,hΓ.ex,hΓ.pp⟩ h).mono2 (fun _ _ h=>h) fun _ _ h=>h.elim)
         ·cases h
        ·cases h
       ·cases h
      ·cases h
     ·rename_i c own k body next hop
      split at h
      ·rename_i f args hcal ha hcs
       split at h
       ·rename_i g fs cs hf
        split at h
        ·rename_i fn hfn
         split at h
         ·rename_i code hb hlen
          have hΓ':TabOK P { Γ with own:=own }:=⟨hΓ.ty,hΓ.fn,hΓ.sp,hΓ.en,hΓ.mixed,hΓ.so,hΓ.eqs,hΓ.so1,hΓ.mps,hΓ.ow,hΓ.bt,hΓ.ex,hΓ.pp⟩
          obtain ⟨ov,h3,h4⟩:=Option.bind_eq_some_iff.1 h
          split at h4
          ·rename_i st2 hdec
           split at h4
           ·rename_i fl' hfl
            obtain ⟨l,h1,h2⟩:∃ l,fl=some (.k (nF st.hp st2.hp)::l)∧fl'=l:=by
             rcases sC hfl with ⟨_,h2⟩ | ⟨l,h1,h2⟩
             ·cases h2
             ·cases h2;exact ⟨_,h1,rfl⟩
            subst h2
            have e2:k.dec st (Tup.toL k.tys ov)=some st2:=hdec
            obtain ⟨pv0,henv,hng,hnone,hext,hnx⟩:=dec_call hcs e2
            have hstep:=call_ok ih (F:=F) (n:=n) (ops:=ops) (CP:=fun pv hl=>pv=pv0∧hl=(st2.hp,st2.nx)) hΓ (rd:=rd) (B:=B) hw hop hcal (ctx:=[]) (bb:=true) (fun _=>CtxH.nil _) (fun _ _ _ _ _ _=>rfl) (fun _ _ _ _ _ hn=>absurd (yB hg) hn) ha hf hfn hb (nL hlen) hΓ' (fun _=>h3) fun _ ex st' hk=>by
             split at hk
             ·cases hk
             ·cases hk
             ·cases hk
             ·rename_i hne1 hne2 hne3
              refine ⟨⟨fun i hi=>hne1 i hi,fun l hl=>hne2 l hl,fun T hT=>hne3 T hT⟩,?_⟩
              split at hk
              ·rename_i rs hrs
               refine ⟨rs,hrs,fun B S w η S' w' η' i0 l0 i1 l1 hp hh hgr=>?_⟩
               obtain ⟨hk1,hk2⟩:=jF hcs
               obtain ⟨S2,η2,y,q1,q2,q3,q4,q5,q6,⟨L',q7⟩,q8,q9,q10,_,_⟩:=Skel.ok (fF hk) e2 i0 l0 i1 l1 hp (cD _ _ _) hh hgr
               rw [hk1] at q6
               simp only [List.map_nil,List.append_nil] at q6
               refine ⟨S2,η2,pv0,(st2.hp,st2.nx),q1,q2,q3,q4,?_,rfl,rfl⟩
               rcases hk2 with ⟨hd,hs⟩ | ⟨i,sp,hd,hs⟩
               ·rw [hnone hd]
                exact fun _ _=>trivial
               ·rw [hs] at q7
                simp only [zD] at q7
                split at q7
                ·rename_i pv2 L2 hsp
                 cases q7
                 simp only [List.cons_append,List.nil_append] at q6
                 obtain ⟨pv1,g1,g2⟩:=q10 i pv2 (jA _ _ _)
                 rw [hd] at g1 henv
                 simp only [wC] at g1 henv
                 rw [jA] at g1
                 cases g1
                 have e3:lk st2.env i=some pv2:=by rw [q6];exact jA _ _ _
                 rw [henv,jA] at e3
                 cases e3
                 exact g2
                ·cases q7
              ·cases hk
            have hwf:Wf st2.env:=by rw [henv];exact vF hw fun c b v he=>absurd he (hng c b v)
            obtain ⟨fr,hfr,hc⟩:=ihr _ _ _ _ _ _ _ _ _ _ _ h4 P hΓ rd B hwf
            have:=hfr _ rfl
            subst this
            have hc:=Cert.kk hc (st:=st) (by rw [henv];exact cD _ _ _) hext
            refine ⟨.k (nF st.hp st2.hp)::_,fun f hf=>by rw [h1] at hf;cases hf;rfl,.k (nF st.hp st2.hp) pv0 (toHs (st2.hp,st2.nx)) hdst (hstep.mono fun pv' hs' hh=>?_) (fun i hi=>newKeys_off hext hi) ?_⟩
            ·obtain ⟨hl,rfl,rfl,rfl⟩:=hh
             exact ⟨rfl,rfl⟩
            ·rw [henv,wF] at hc
             exact hc
           ·cases h4
          ·cases h4
         ·cases h
        ·cases h
       ·cases h
      ·cases h
     ·rename_i c next hop
      split at h
      ·rename_i f args hcal ha
       split at h
       ·rename_i g fs cs hf
        split at h
        ·rename_i s hs
         split at h
         ·rename_i x mp hin
          obtain ⟨rr,hm,h4⟩:=Option.bind_eq_some_iff.1 h
          split at h4
          ·rename_i pv δ hout
           split at h4
           ·rename_i fl' hfl hng
            obtain ⟨l,h1,h2⟩:∃ l,fl=some (.k (nF st.hp (δ++yF st.hp (fs.map cB++args++cs.map cB)))::l)∧fl'=l:=by
             rcases sC hfl with ⟨_,h2⟩ | ⟨l,h1,h2⟩
             ·cases h2
             ·cases h2;exact ⟨_,h1,rfl⟩
            subst h2
            have hext:∃ d,δ++yF st.hp (fs.map cB++args++cs.map cB)=d++st.hp:=by
             rw [rF,← aA];exact ⟨_,rfl⟩
            have hstep:RStep P rd B ops.toArray o (lk st.env) (lk st.hp,fun i=>i<st.nx) (fun pv' hs'=>pv'=pv∧hs'=toHs (δ++yF st.hp (fs.map cB++args++cs.map cB),st.nx+1+s.k.news.length)) (fun _ _=>False):=by
             intro S w η a hI ho
             have hi:HInv B η st.hp S w:=by
              obtain ⟨⟨H,eH,hi⟩,_⟩:=hI
              exact hi.less fun i po hl=>by rw [eH];exact hl
             have hl:∀ i,st.nx≤i→η i=none:=fun i hi=>hI.2 i (Nat.not_lt.2 hi)
             rw [if_pos (yB hg)]
             have ho':=fE ho
             have hops:o.op.operands.toList=f::c.args.toList:=by simp [hop,Op.operands,Call.operands,hcal]
             obtain ⟨vf,vc,he,hvf,hvc⟩:=cA hw (CtxH.nil _) hf (by rw [hops];simp) ho'
             have hva:=iC hw (CtxH.nil _) ho' ha fun x hx=>by rw [hops];simp [hx]
             have hex:(execOp a.eval o).run P w=.ok (.enter g (vf++c.args.toList.map a.eval++vc).toArray) w:=by
              simp [execOp,hop,resolve,hcal,he,Deferred.ofValue,invoke,(hΓ.pp g s hs).1]
             refine OpWP.enter (by simp [hop]) hex ?_
             have hall:All2 (RM S w η) (fs.map cB++args++cs.map cB) (vf++c.args.toList.map a.eval++vc):=((tE hvf).append hva).append (tE hvc)
             obtain ⟨S1,hi1,g1⟩:=jD (l:=fs.map cB++args++cs.map cB) hi
             refine (callsIn_wide (n:=0) |>.2 (ct_ok (hΓ.pp g s hs) hin hm hout hi1 hl (hall.mono fun _ _ h=>RM.mono g1.keep (.refl _) h))).mono fun en w' ⟨v,S',η',e1,gr,pre,hn,hi',hmv⟩=>.inl ⟨v,e1,v,S',η',pv,_,rfl,g1.trans gr,pre,⟨⟨_,rfl,hi'⟩,fun i hi=>hn i (Nat.le_of_not_lt hi)⟩,hmv,rfl,rfl⟩
            obtain ⟨fr,hfr,hc⟩:=ihr _ _ _ _ _ _ _ _ _ _ _ h4 P hΓ rd B (vF hw fun c b v he=>absurd he (isG_no hng c b v))
            have:=hfr _ rfl
            subst this
            have hc:=Cert.kk hc (st:=st) (cD _ _ _) hext
            refine ⟨.k (nF st.hp (δ++yF st.hp (fs.map cB++args++cs.map cB)))::_,fun f hf=>by rw [h1] at hf;cases hf;rfl,.k (nF st.hp (δ++yF st.hp (fs.map cB++args++cs.map cB))) pv (toHs (δ++yF st.hp (fs.map cB++args++cs.map cB),st.nx+1+s.k.news.length)) hdst hstep (fun i hi=>newKeys_off hext hi) ?_⟩
            rw [wF] at hc
            exact hc
           ·cases h4
          ·cases h4
         ·cases h
        ·cases h
       ·cases h
      ·cases h
     ·rename_i x hop
      split at h
      ·rename_i T fl' hx hfl
       have fin2:∀ l',(∀ f,fl=some f→Fl.r::l'=f)→∃ fl',(∀ f,fl=some f→fl'=f)∧Cert P rd sz B ops.toArray (KK K st r) (fun T=>KK (K2 T) st r) (o::rest) fl' (lk st.env) (lk st.hp,fun i=>i<st.nx):=by
        intro l' hl'
        refine ⟨.r::l',hl',.r (fun _ _=>False) (fun T' hs'=>T'=T∧hs'=(lk st.hp,fun i=>i<st.nx)) hdst (fun S w η a hI ho=>?_) (fun _ _ h=>h.elim) fun T' hs' ⟨e1,e2⟩=>?_⟩
        ·rw [if_pos (yB hg)]
         have hi:HInv B η st.hp S w:=by
          obtain ⟨⟨H,eH,hi⟩,_⟩:=hI
          exact hi.less fun i po hl=>by rw [eH];exact hl
         have hv:a.eval x=yC T:=cA hw (CtxH.nil _) hx (by simp [hop,Op.operands]) (fE ho)
         refine OpWP.halt (w':=w) (T:=T) (by simp [hop]) ?_ ⟨S,η,_,Grow.refl hi.inw,.refl _,hI,rfl,rfl⟩
         have hpn:∀ w,(Instr.panic (yC T)).run P w=.halt (.panic (yC T)) w:=fun w=>by unfold yC;split<;>rfl
         simp [execOp,hop,hv,hpn]
        ·subst e1;subst e2
         exact ⟨st,rfl,rfl,hw,⟨[],rfl⟩,⟨[],rfl⟩,h⟩
       rcases sC hfl with ⟨h1,_⟩ | ⟨l,h1,h2⟩
       ·exact fin2 [] fun f hf=>by rw [h1] at hf;cases hf
       ·exact fin2 l fun f hf=>by rw [h1] at hf;cases hf;rfl
      ·cases h
     ·cases h

theorem oI (hS:F.Sound) (hN:F.Nice):∀ n,PcOk F n∧PrOk F n∧LoopOk F n
 | 0=>⟨.zero,.zero,.zero⟩
 | n+1=>⟨(oI hS hN n).1.succ (oI hS hN n).2.1 (oI hS hN n).2.2,(oI hS hN n).2.1.succ hS hN (oI hS hN n).1,.succ (oI hS hN n).1 (oI hS hN n).2.2⟩
theorem sound (hS:F.Sound) (hN:F.Nice) (n:Nat):PcOk F n∧PrOk F n:=⟨(oI hS hN n).1,(oI hS hN n).2.1⟩
end

def uB (H:PH):(l:List Ty)→List RV→Option (Tup (l.map .d))
 | [],[]=>some ()
 | [t],[v]=>conR H t v
 | t::u::r,v::vs=>match conR H t v with
  | some x=>match uB H (u::r) vs with
   | some y=>some (x,y)
   | none=>none
  | none=>none
 | _,_=>none
def _root_.Go.Abs.Ty.flat:Ty→Bool
 | .list _=>false
 | .one t=>t.flat
 | .pair a b=>a.flat&&b.flat
 | _=>true
def flats:List Ty→Bool
 | []=>true
 | t::r=>t.flat&&flats r
noncomputable def fnM (F:OpF) (n:Nat) (Γ:Tabs) (own:List Nat) (an:Ann) (fn:Func) (code:Code) (args res:List Ty) (x:Tup (args.map .d)):Option (Tup (res.map .d)) :=
 pc F n { Γ with own:=own } fn.ntmps an code (Tup (res.map .d)) ⟨(vI 0 (rvs args x)).map fun x=>(x.1,.r x.2),[],0⟩ fun ex st=>match ex with
  | .exit _=>none
  | .go _=>none
  | .pan _=>none
  | _=>match rE Γ st fn.results.toList with
   | some rs=>uB (yF st.hp rs) res rs
   | none=>none
def opC:OpF:=fun Γ o e ctx H nx=>match o.op with
 | .call c=>match c.callee,pE e ctx c.args.toList with
  | .value f,some args=>match ev e ctx f with
   | some (.r (.c (.f g fs cs)))=>match lk Γ.sp g with
    | some s=>match uB [] s.args (fs.map cB++args++cs.map cB) with
     | some x=>some (par (s.m x) (Tup.dflt (s.res.map .d)) (fun r=>dB (rvs s.res r)) H nx)
     | none=>match uB (yF H (fs.map cB++args++cs.map cB)) s.args (fs.map cB++args++cs.map cB) with
      | some x=>match flats s.res with
       | true=>some (rdr (s.m x) (Tup.dflt (s.res.map .d)) (fun r=>dB (rvs s.res r)) H nx)
       | false=>some (wr (s.m x) (Tup.dflt (s.res.map .d)) (fun r=>dB (rvs s.res r)) (fun _=>dRs H (fs.map cB++args++cs.map cB)) nx)
      | none=>none
    | none=>none
   | _=>none
  | _,_=>none
 | _=>none

section
variable {B:Nat} {S S':Cells} {w w':World} {η η':Eta} {H:PH}
theorem lD (hi:HInv B η H S w):∀ {l:List Ty} {rs:List RV} {vs:List Value} {x:Tup (l.map .d)},uB H l rs=some x→All2 (RM S w η) rs vs→All2 (RM S w η') (rvs l x) vs
 | [],[],_,_,h,.nil=>.nil
 | [],_::_,_,_,h,_=>by simp [uB] at h
 | [t],[],_,_,h,_=>by simp [uB] at h
 | [t],[v],_,x,h,.cons h1 .nil=>.cons (VRep.rm (vG hi h h1)) .nil
 | [t],_::_::_,_,_,h,_=>by simp [uB] at h
 | t::u::r,[],_,_,h,_=>by simp [uB] at h
 | t::u::r,v::vs,_,x,h,.cons h1 h2=>by
  unfold uB at h
  split at h
  ·rename_i y hy
   split at h
   ·rename_i z hz
    cases h
    exact .cons (VRep.rm (vG hi hy h1)) (lD hi hz h2)
   ·cases h
  ·cases h
theorem HInv.empty (hi:InW S w):HInv w.heap.size η [] S w :=
 ⟨nR _,hi,fun _ _ _=>False,fun _ _ _ _ _ h=>h.elim,fun _ _ _ h=>h.elim,fun _ _ h=>by cases h⟩
theorem aF:∀ {l:List Ty} {x:Tup (l.map .d)},(rvs l x).length=l.length
 | [],_=>rfl
 | [_],_=>rfl
 | _::u::r,x=>by
  have:=aF (l:=u::r) (x:=x.2)
  show (rvs (u::r) x.2).length+1=_
  rw [this];rfl

theorem Rep.flat:∀ {t:Ty} {x:t.den} {cs:List Value},t.flat=true→Rep S w t x cs→Rep S' w' t x cs
 | .int _,_,_,_,h=>h
 | .bool,_,_,_,h=>h
 | .str,_,_,_,h=>h
 | .list _,_,_,hf,_=>by cases hf
 | .one t,x,cs,hf,h=>by
  have h':Rep S w t x cs:=h
  exact Rep.flat (t:=t) hf h'
 | .pair a b,x,cs,hf,h=>by
  obtain ⟨c1,c2,rfl,h1,h2⟩:=h
  simp only [Ty.flat,bA] at hf
  exact ⟨c1,c2,rfl,Rep.flat hf.1 h1,Rep.flat hf.2 h2⟩
theorem cv_flat:∀ {t:Ty} {x:t.den} {vs:List Value},t.flat=true→All2 (CM S w η) (t.cv x) vs→All2 (CM S' w' η') (t.cv x) vs
 | .int _,_,_,_,.cons h .nil=>.cons ⟨h.1,let ⟨cs,a,b⟩:=h.2;⟨cs,a,b⟩⟩ .nil
 | .bool,_,_,_,.cons h .nil=>.cons ⟨h.1,let ⟨cs,a,b⟩:=h.2;⟨cs,a,b⟩⟩ .nil
 | .str,_,_,_,.cons h .nil=>.cons ⟨h.1,let ⟨cs,a,b⟩:=h.2;⟨cs,a,b⟩⟩ .nil
 | .list _,_,_,hf,_=>by cases hf
 | .one t,x,vs,hf,h=>by
  have h':All2 (CM S w η) (t.cv x) vs:=h
  exact cv_flat (t:=t) hf h'
 | .pair a b,x,vs,hf,h=>by
  simp only [Ty.flat,bA] at hf
  have h':All2 (CM S w η) (a.cv x.1++b.cv x.2) vs:=h
  obtain ⟨b1,b2,rfl,h1,h2⟩:=All2.split h'
  exact (cv_flat hf.1 h1).append (cv_flat hf.2 h2)
theorem rv_flat {t:Ty} {x:t.den} {v:Value} (hf:t.flat=true) (h:RM S w η (t.rv x) v):RM S' w' η' (t.rv x) v:=by
 unfold Ty.rv at h ⊢
 split
 ·rename_i ha
  rw [ha] at h
  obtain ⟨vs,h1,h2⟩:=h
  exact ⟨vs,h1,cv_flat hf h2⟩
 ·rename_i ha
  rw [ha] at h
  obtain ⟨h1,cs,h2,h3⟩:=h
  exact ⟨h1,cs,Rep.flat hf h2,h3⟩
theorem rvs_flat:∀ {l:List Ty} {x:Tup (l.map .d)} {vs:List Value},flats l=true→All2 (RM S w η) (rvs l x) vs→All2 (RM S' w' η') (rvs l x) vs
 | [],_,_,_,.nil=>.nil
 | [t],x,_,hf,.cons h .nil=>.cons (rv_flat (by simpa [flats] using hf) h) .nil
 | t::u::r,x,_,hf,h=>by
  simp only [flats,bA] at hf
  have h':All2 (RM S w η) (t.rv x.1::rvs (u::r) x.2) _:=h
  cases h' with
  | cons h1 h2=>exact .cons (rv_flat hf.1 h1) (rvs_flat (l:=u::r) (by simp only [flats,bA];exact hf.2) h2)
theorem resPV_flat {l:List Ty} {x:Tup (l.map .d)} {v:Value} (hf:flats l=true) (h:PM S w η (dB (rvs l x)) v):PM S' w' η' (dB (rvs l x)) v:=by
 match l,x,h with
 | [],x,h=>obtain ⟨vs,h1,h2⟩:=h;exact ⟨vs,h1,by cases h2;exact .nil⟩
 | [t],x,h=>exact rv_flat (by simpa [flats] using hf) h
 | t::u::r,x,h =>
  have e:dB (rvs (t::u::r) x)=.t (rvs (t::u::r) x):=by
   unfold dB
   split
   ·rename_i y hy
    have:=congrArg List.length hy
    rw [aF] at this
    simp at this
   ·rfl
  rw [e] at h ⊢
  obtain ⟨vs,h1,h2⟩:=h
  exact ⟨vs,h1,rvs_flat hf h2⟩
theorem cv_eta:∀ {t:Ty} {x:t.den} {vs:List Value},All2 (CM S w η) (t.cv x) vs→All2 (CM S w η') (t.cv x) vs
 | .int _,_,_,.cons h .nil=>.cons h .nil
 | .bool,_,_,.cons h .nil=>.cons h .nil
 | .str,_,_,.cons h .nil=>.cons h .nil
 | .list _,_,_,.cons h .nil=>.cons h .nil
 | .one t,x,vs,h=>by
  have h':All2 (CM S w η) (t.cv x) vs:=h
  exact cv_eta (t:=t) h'
 | .pair a b,x,vs,h=>by
  have h':All2 (CM S w η) (a.cv x.1++b.cv x.2) vs:=h
  obtain ⟨b1,b2,rfl,h1,h2⟩:=All2.split h'
  exact (cv_eta h1).append (cv_eta h2)
theorem rv_eta {t:Ty} {x:t.den} {v:Value} (h:RM S w η (t.rv x) v):RM S w η' (t.rv x) v:=by
 unfold Ty.rv at h ⊢
 split
 ·rename_i ha
  rw [ha] at h
  obtain ⟨vs,h1,h2⟩:=h
  exact ⟨vs,h1,cv_eta h2⟩
 ·rename_i ha
  rw [ha] at h
  exact h
theorem rvs_eta:∀ {l:List Ty} {x:Tup (l.map .d)} {vs:List Value},All2 (RM S w η) (rvs l x) vs→All2 (RM S w η') (rvs l x) vs
 | [],_,_,.nil=>.nil
 | [t],x,_,.cons h .nil=>.cons (rv_eta h) .nil
 | t::u::r,x,_,h=>by
  have h':All2 (RM S w η) (t.rv x.1::rvs (u::r) x.2) _:=h
  cases h' with
  | cons h1 h2=>exact .cons (rv_eta h1) (rvs_eta (l:=u::r) h2)
end

theorem conP_res {B:Nat} {S:Cells} {w:World} {η η':Eta} {H:PH} (hi:HInv B η H S w) {l:List Ty} {rs:List RV} {x:Tup (l.map .d)} {v:Value} (h:uB H l rs=some x) (hm:PM S w η (dB rs) v):PM S w η' (dB (rvs l x)) v:=by
 match rs,h,hm with
 | [],h,hm =>
  match l,x,h with
  | [],x,_=>obtain ⟨vs,h1,h2⟩:=hm;exact ⟨vs,h1,by cases h2;exact .nil⟩
  | _::_::_,_,h=>simp [uB] at h
 | [r],h,hm =>
  match l,x,h with
  | [t],x,h=>exact VRep.rm (vG hi h hm)
  | _::_::_,_,h=>simp [uB] at h;(repeat' split at h)<;>first | cases h | simp at h
 | r1::r2::rs,h,hm =>
  obtain ⟨vs,h1,h2⟩:=hm
  match l,x,h with
  | t::u::r,x,h =>
   have h3:=lD (η':=η') hi h h2
   have e:dB (rvs (t::u::r) x)=.t (rvs (t::u::r) x):=by
    unfold dB
    split
    ·rename_i y hy
     have:=congrArg List.length hy
     rw [aF] at this
     simp at this
    ·rfl
   rw [e]
   exact ⟨vs,h1,h3⟩
theorem fnM_ok {P:Program} {Γ:Tabs} (hΓ:TabOK P Γ) {F:OpF} (hS:F.Sound) (hN:F.Nice) {f:FuncId} {fn:Func} {code:Code} {own:List Nat} {an:Ann} {n:Nat} {args res:List Ty} {m:Tup (args.map .d)→Option (Tup (res.map .d))}
  (hf:lk Γ.fn f=some fn) (hb:fn.body=some code) (hn:Nat.ble args.length fn.ntmps=true) (hm:∀ x,fnM F n Γ own an fn code args res x=m x):SpecOK P f ⟨args,res,m⟩:=by
 intro x r hr S w η vs hi hv
 have hr:fnM F n Γ own an fn code args res x=some r:=(hm x).trans hr
 unfold fnM at hr
 have hΓ':TabOK P { Γ with own:=own }:=⟨hΓ.ty,hΓ.fn,hΓ.sp,hΓ.en,hΓ.mixed,hΓ.so,hΓ.eqs,hΓ.so1,hΓ.mps,hΓ.ow,hΓ.bt,hΓ.ex,hΓ.pp⟩
 have hv0:All2 (RM S w (fun _=>none)) (rvs args x) vs:=rvs_eta hv
 have hc:CallsIn (FR none) 0 P f vs.toArray w fun en w'=>∃ v S',en=.returned v∧Grow w.heap.size S w S' w'∧PM S' w' η (dB (rvs res r)) v:=by
  refine body_ok (sound hS hN n).1 hΓ hΓ' hf hb hv0 (by rw [aF];exact nL hn) (.empty hi) (fun _ _=>rfl) hr fun ex st' hk=>?_
  have key:(match rE Γ st' fn.results.toList with
     | some rs=>uB (yF st'.hp rs) res rs
     | none=>none)=some r→∃ rs,rE Γ st' fn.results.toList=some rs∧∀ S' w' η' v,HInv w.heap.size η' st'.hp S' w'→(∀ i,st'.nx≤i→η' i=none)→Pre (fun _=>none) η'→(∃ δ,st'.hp=δ++[])→Grow w.heap.size S w S' w'→PM S' w' η' (dB rs) v →
      ∃ v_1 S',Ending.returned v=.returned v_1∧Grow w.heap.size S w S' w'∧PM S' w' η (dB (rvs res r)) v_1:=by
   intro hk
   split at hk
   ·rename_i rs hrs
    refine ⟨rs,hrs,fun S' w' η' v i' _ _ _ gr' hm=>?_⟩
    obtain ⟨S2,h2,g2⟩:=jD (l:=rs) i'
    exact ⟨v,S2,rfl,gr'.trans g2,conP_res h2 hk (PM.mono g2.keep (.refl _) hm)⟩
   ·cases hk
  cases ex with
  | norm=>exact ⟨⟨fun i hi=>(by cases hi),fun l hl=>(by cases hl),fun T hT=>(by cases hT)⟩,key hk⟩
  | ret=>exact ⟨⟨fun i hi=>(by cases hi),fun l hl=>(by cases hl),fun T hT=>(by cases hT)⟩,key hk⟩
  | exit i=>cases hk
  | go l=>cases hk
  | pan T=>cases hk
 exact callsIn_wide.1 hc

theorem opC_sound:OpF.Sound opC:=by
 intro P Γ hΓ rd B o e ctx H nx R h hw hc r hr
 unfold opC at h
 split at h
 ·rename_i c hop
  split at h
  ·rename_i f args hcal ha
   split at h
   ·rename_i g fs cs hf
    split at h
    ·rename_i s hs
     have hops:o.op.operands.toList=f::c.args.toList:=by simp [hop,Op.operands,Call.operands,hcal]
     -- the call
     have call:∀ {S w η} {a:Act},InW S w→En.Only (lk e) (rA o) S w η a.tmps→∃ vs:List Value,All2 (RM S w η) (fs.map cB++args++cs.map cB) vs ∧
       ∀ (S1:Cells),InW S1 w→∀ {x:Tup (s.args.map .d)} {r:Tup (s.res.map .d)},s.m x=some r→All2 (RM S1 w η) (rvs s.args x) vs→OpW P rd o a w fun a' w'=>∃ v S',a'=a.put o.dst v∧Grow w.heap.size S1 w S' w'∧PM S' w' η (dB (rvs s.res r)) v:=by
      intro S w η a hi ho
      obtain ⟨vf,vc,he,hvf,hvc⟩:=cA hw hc hf (by rw [hops];simp) ho
      have hva:=iC hw hc ho ha fun x hx=>by rw [hops];simp [hx]
      refine ⟨vf++c.args.toList.map a.eval++vc,((tE hvf).append hva).append (tE hvc),fun S1 hi1 x r hm hx=>?_⟩
      have hex:(execOp a.eval o).run P w=.ok (.enter g (vf++c.args.toList.map a.eval++vc).toArray) w:=by
       simp [execOp,hop,resolve,hcal,he,Deferred.ofValue,invoke,hΓ.en g s hs]
      refine OpW.enter (by simp [hop]) hex ?_
      have:=hΓ.sp g s hs x r hm S1 w η _ hi1 hx
      have hcl:CallsIn (FR rd) 0 P g (vf++c.args.toList.map a.eval++vc).toArray w _:=callsIn_wide (n:=0) |>.2 this
      exact hcl.mono fun en w' ⟨v,S',he,hg,hm⟩=>⟨v,he,v,S',rfl,hg,hm⟩
     split at h
     ·rename_i x hx
      cases h
      intro S w η a hi ho
      obtain ⟨vs,hvs,hcall⟩:=call hi ho
      exact hcall S hi hr (lD (HInv.empty hi) hx hvs)
     ·split at h
      ·rename_i x hx
       split at h
       ·rename_i hfl
        cases h
        intro S w η a hi ho
        obtain ⟨vs,hvs,hcall⟩:=call hi.inw ho
        obtain ⟨S1,h1,g1⟩:=jD (l:=fs.map cB++args++cs.map cB) hi
        refine (hcall S1 h1.inw hr (lD h1 hx (hvs.mono fun _ _ h=>RM.mono g1.keep (.refl _) h))).mono fun a' w' ⟨v,S',e1,e2,e3⟩=>?_
        refine ⟨v,S,e1,⟨e2.below,⟨fun _ _ h=>h,fun b o hb=>e2.keep.cell b o (g1.keep.sub b o hb)⟩,fun b o hb=>Nat.lt_of_lt_of_le (hi.inw b o hb) e2.below.size,fun b o h=>.inl h,e2.lk⟩,resPV_flat hfl e3⟩
       ·cases h
        intro S w η a hi hl ho
        obtain ⟨vs,hvs,hcall⟩:=call hi.inw ho
        obtain ⟨S1,h1,g1⟩:=jD (l:=fs.map cB++args++cs.map cB) hi
        refine (hcall S1 h1.inw hr (lD h1 hx (hvs.mono fun _ _ h=>RM.mono g1.keep (.refl _) h))).mono fun a' w' ⟨v,S',e1,e2,e3⟩=>?_
        refine ⟨v,S',η,e1,g1.trans (e2.mono hi.base),.refl _,Out.refl _ _ _,?_,e3⟩
        have h2:=h1.grow e2
        rw [rF] at h2
        exact h2
      ·cases h
    ·cases h
   ·cases h
  ·cases h
 ·cases h
def Tabs.add (Γ:Tabs) (f:FuncId) (s:Spec):Tabs:={ Γ with sp:=(f,s)::Γ.sp }
theorem TabOK.add {P:Program} {Γ:Tabs} (h:TabOK P Γ) {f:FuncId} {s:Spec} (hs:SpecOK P f s) (he:∀ (args:Array Value) (w:World),(callFunc f args).run P w=.ok (.enter f args) w):TabOK P (Γ.add f s) :=
 ⟨h.ty,h.fn,fun g s' hl=>by
  unfold Tabs.add at hl
  by_cases hg:f=g
  ·subst hg;rw [jA] at hl;cases hl;exact hs
  ·rw [wA _ _ hg] at hl;exact h.sp g s' hl,fun g s' hl=>by
  unfold Tabs.add at hl
  by_cases hg:f=g
  ·subst hg;exact he
  ·rw [wA _ _ hg] at hl;exact h.en g s' hl,h.mixed,h.so,h.eqs,h.so1,h.mps,h.ow,h.bt,h.ex,h.pp⟩

def lits (H:PH) (T:Ty) (e:Ev) (ctx:Ctx):Nat→List (Nat×Operand)→Option (List T.den)
 | _,[]=>some []
 | k,(i,op)::r=>match Nat.beq i k,ev e ctx op with
  | true,some pv=>match conP H T pv,lits H T e ctx (k+1) r with
   | some x,some xs=>some (x::xs)
   | _,_=>none
  | _,_=>none
def fzE (e:Ev) (ctx:Ctx) (H:PH):List (Nat×Operand)→PH
 | []=>H
 | (_,op)::r=>match ev e ctx op with
  | some pv=>fzE e ctx (fzP H pv) r
  | none=>H
def dE (e:Ev) (ctx:Ctx) (H:PH):List (Nat×Operand)→PH
 | []=>[]
 | (_,op)::r=>match ev e ctx op with
  | some pv=>dE e ctx (fzP H pv) r++dP H pv
  | none=>[]
def tabO (d:Option Nat) (l:List Nat):Bool:=match d with | some t=>zC l (t+1000000) | none=>false
def bsR (Γ:Tabs) (e:Ev) (ctx:Ctx) (dst:Option Nat) (t:TypeId) (len:Nat) (parts:List (Nat×Operand)) (H:PH) (nx:Nat):Option RdR:=match bD Γ t with
 | some (_,_,T)=>match Nat.beq parts.length len&&Nat.ble (len*T.size) 16777216 with
  | true=>match memO dst Γ.own,lits [] T e ctx 0 parts with
   | true,some xs=>some (wn (some ()) () (fun _=>.c (.h nx)) (fun _=>.arr T xs) H nx)
   | false,some xs=>some (tot (.c (.q T xs)) H nx)
   | own,none=>match lits (fzE e ctx H parts) T e ctx 0 parts with
    | some xs=>match own with
     | true=>some (wr (some ()) () (fun _=>.c (.h nx)) (fun _=>(nx,.arr T xs)::dE e ctx H parts) (nx+1))
     | false=>some (wr (some ()) () (fun _=>.c (.q T xs)) (fun _=>dE e ctx H parts) nx)
    | none=>none
  | false=>none
 | none=>none
def bndR (e:Ev) (ctx:Ctx) (df:Int):Option Operand→Option Int
 | none=>some df
 | some x=>match ev e ctx x with
  | some (.r (.c (.d (.int .i64) n)))=>some n
  | _=>none
def slR (Γ:Tabs) (e:Ev) (ctx:Ctx) (t:TypeId) (x:Operand) (lo hi:Option Operand) (H:PH) (nx:Nat):Option RdR:=match bD Γ t,ev e ctx x with
 | some (_,_,T),some (.r (.c c))=>match lstOf c with
  | some ⟨T',xs⟩=>match yA (.list T) (t':=.list T') xs with
   | some xs=>match bndR e ctx 0 lo,bndR e ctx (lenM xs) hi with
    | some l,some h=>some (par (pA xs l h) [] (fun ys=>.c (.d (.list T) ys)) H nx)
    | _,_=>none
   | none=>none
  | none=>none
 | _,_=>none
def opD:OpF:=fun Γ o e ctx H nx=>match o.op with
 | .buildSlice t len parts=>match tabO o.dst Γ.own with
  | true=>none
  | false=>bsR Γ e ctx o.dst t len parts.toList H nx
 | .slice t x lo hi none=>slR Γ e ctx t x lo hi H nx
 | .indexAddr t x i=>match ev e ctx x,bD Γ t with
  | some (.r (.c (.l .nilS))),some (_,_,T)=>some (par (none:Option T.den) T.dflt (fun x=>.fp T x) H nx)
  | _,_=>none
 | _=>none

section
variable {P:Program} {Γ:Tabs} {B:Nat} {S:Cells} {w:World} {η:Eta} {H:PH} {nx:Nat} {e:Ev} {ctx:Ctx} {o:Oper} {a:Act}
theorem fzE_sound:∀ {l:List (Nat×Operand)} {H:PH} {S:Cells} (hi:HInv B η H S w),∃ S',HInv B η (fzE e ctx H l) S' w∧Grow B S w S' w
 | [],H,S,hi=>⟨S,hi,Grow.refl hi.inw⟩
 | (_,op)::r,H,S,hi=>by
  unfold fzE
  split
  ·rename_i pv _
   obtain ⟨S1,h1,g1⟩:=bI hi pv
   obtain ⟨S2,h2,g2⟩:=fzE_sound (l:=r) h1
   exact ⟨S2,h2,g1.trans g2⟩
  ·exact ⟨S,hi,Grow.refl hi.inw⟩
theorem fzE_eq:∀ (l:List (Nat×Operand)) (H:PH),fzE e ctx H l=dE e ctx H l++H
 | [],H=>rfl
 | (_,op)::r,H=>by
  unfold fzE dE
  split
  ·rw [fzE_eq r,aA,← dJ]
  ·rfl
theorem dH {T:Ty}:∀ {parts:List (Nat×Operand)} {k:Nat} {xs:List T.den},lits H T e ctx k parts=some xs→parts.length=xs.length
 | [],_,_,h=>by cases h;rfl
 | (i,op)::r,k,xs,h=>by
  unfold lits at h
  split at h
  ·split at h
   ·rename_i x xs' _ h2
    cases h
    simp [dH h2]
   ·cases h
  ·cases h
theorem lits_run {T:Ty} (hi:HInv B η H S w) (hw:Wf e) (hc:CtxH e ctx) (ho:En.Only (lk e) (rA o) S w η a.tmps):∀ {parts:List (Nat×Operand)} {k:Nat} {xs done:List T.den} {cs zs:List Value},lits H T e ctx k parts=some xs→(∀ p∈parts,p.2∈o.op.operands.toList)→RepL S w T done cs→done.length=k→zs.length=parts.length*T.size →
  ∃ ds,Instr.fill (fun i=>some (i*T.size,T.size)) (cs++zs).toArray (parts.map fun p=>(p.1,a.eval p.2))=some ds.toArray∧RepL S w T (done++xs) ds
 | [],k,xs,done,cs,zs,h,_,hr,hk,hz=>by
  cases h
  have:zs=[]:=lN (by simpa using hz)
  subst this
  exact ⟨cs,by simp [Instr.fill],by simpa using hr⟩
 | (i,op)::r,k,xs,done,cs,zs,h,hm,hr,hk,hz=>by
  unfold lits at h
  split at h
  ·rename_i pv hb hpv
   split at h
   ·rename_i x xs' hx hrest
    cases h
    have hb:=nB hb
    subst hb
    obtain ⟨us,h1,h2⟩:=jE hi hx (cA hw hc hpv (hm (i,op) (by simp)) ho)
    have hcl:(a.eval op).cells=us.toArray:=by rw [h2];exact Ty.wrap_cells h1
    have hl:=hr.length
    have hz':zs.length=T.size+r.length*T.size:=by rw [hz,List.length_cons,Nat.add_mul];omega
    have hzs:zs=zs.take T.size++zs.drop T.size:=(List.take_append_drop _ _).symm
    rw [List.map_cons,hzs,fill_one (off:=i*T.size) (by rw [h1.length]) hcl (by rw [hl,hk]) (by rw [h1.length];simp;omega),← aA]
    obtain ⟨ds,g1,g2⟩:=lits_run hi hw hc ho (k:=i+1) (done:=done++[x]) (cs:=cs++us) (zs:=zs.drop T.size) hrest (fun p hp=>hm p (by simp [hp])) (hr.append ⟨us,[],by simp,h1,rfl⟩) (by simp [hk]) (by simp;omega)
    exact ⟨ds,g1,by simpa using g2⟩
   ·cases h
  ·cases h
theorem bs_run {T:Ty} {id el:TypeId} {bts len:Nat} {parts:Array (Nat×Operand)} {xs:List T.den} (hop:o.op=.buildSlice id len parts) (hI:SlP P id el T bts) (hl:parts.toList.length=len) (hs:len*T.size≤16777216) (hx:lits H T e ctx 0 parts.toList=some xs)
  (hi:HInv B η H S w) (hw:Wf e) (hc:CtxH e ctx) (ho:En.Only (lk e) (rA o) S w η a.tmps):∃ ds,RepL S w T xs ds∧(execOp a.eval o).run P w=.ok (.value (.slice (some ⟨w.heap.size,0,none⟩) len len)) (w.alloc (.cells ds.toArray el)):=by
 obtain ⟨hu,⟨i,z,i1,i2,i3,i4,i5⟩,hp⟩:=hI
 have hzl:(Builtin.zeroCells T.zero.toArray len).toList.length=parts.toList.length*T.size:=by
  have:=qE (t:=T) len
  rw [hl];simpa using this
 obtain ⟨ds,h1,h2⟩:=lits_run (a:=a) hi hw hc ho (done:=[]) (cs:=[]) (zs:=(Builtin.zeroCells T.zero.toArray len).toList) hx (fun p hp=>by rw [hop];simp [Op.operands];exact ⟨p.1,Array.mem_def.2 hp⟩) rfl rfl hzl
 simp only [List.nil_append] at h1 h2
 refine ⟨ds,h2,?_⟩
 have hsz:(sizeOf el).run P w=.ok T.size w:=by simp [sizeOf,typeInfo,i1,i4]
 have hz1:(zeroValue el).run P w=.ok z w:=by simp [zeroValue,typeInfo,i1,i2]
 have hpos:=T.size_pos
 have hzeq:(Array.range (len*T.size)).map (fun x=>T.zero.toArray[x % T.zero.toArray.size]!)=(Builtin.zeroCells T.zero.toArray len).toList.toArray:=by
  simp only [Builtin.zeroCells,Array.toArray_toList,List.size_toArray,T.zero_length]
 have hparts:(parts.map fun (p:Nat×Operand)=>(p.1,a.eval p.2)).toList=parts.toList.map fun p=>(p.1,a.eval p.2):=by simp
 simp only [execOp,hop,Instr.buildSlice,Sem.run_bind,run_underlying hu,Result.andThen_ok,hsz,Sem.run_ite]
 rw [if_neg (by omega)]
 by_cases h0:len*T.size=0
 ·have hlen0:len=0:=by
   rcases Nat.mul_eq_zero.1 h0 with h | h
   ·exact h
   ·omega
  subst hlen0
  have hp0:parts.toList=[]:=lN hl
  have hp1:parts=#[]:=by simpa using hp0
  subst hp1
  simp [Instr.fill,Builtin.zeroCells] at h1
  subst h1
  simp [Instr.fill,newRow,Array.range_zero']
 ·simp only [h0,if_false,Sem.run_bind,hz1,Result.andThen_ok,Sem.run_pure,i3]
  have h3:Instr.fill (fun i=>some (i*T.size,T.size)) ((Array.range (len*T.size)).map (fun x=>T.zero.toArray[x % T.zero.toArray.size]!)) (parts.map fun (p:Nat×Operand)=>(p.1,a.eval p.2)).toList=some ds.toArray:=by
   rw [hzeq,hparts];exact h1
  simp at h3
  simp [h3,newRow]
theorem bs_data {T:Ty} {el:TypeId} {xs:List T.den} {ds:List Value} (hi:InLt S w) (hr:RepL S w T xs ds) (hs:xs.length*T.size≤16777216):∃ S',Grow w.heap.size S w S' (w.alloc (.cells ds.toArray el))∧VRep S' (w.alloc (.cells ds.toArray el)) (.list T) xs (.slice (some ⟨w.heap.size,0,none⟩) xs.length xs.length):=by
 have hk:Keep S w (fun b o=>S b o∨(b=w.heap.size∧o<ds.length)) (w.alloc (.cells ds.toArray el)):=⟨fun _ _ h=>.inl h,fun b o h=>World.cell?_alloc_lt _ _ _ (hi b o h)⟩
 refine ⟨fun b o=>S b o∨(b=w.heap.size∧o<ds.length),⟨(Below.refl _ _).alloc (nR _) _,hk,?_,?_,LK.alloc _ _⟩,VRep.mkSlice (hr.keep hk) (nR _) ?_ fun j u hj=>⟨.inr ⟨rfl,?_⟩,?_⟩⟩
 ·intro b o h
  rcases h with h | ⟨rfl,_⟩
  ·have:=hi b o h;simp;omega
  ·simp
 ·intro b o h
  rcases h with h | ⟨rfl,_⟩
  ·exact .inl h
  ·exact .inr (nR _)
 ·have:xs.length≤xs.length*T.size:=Nat.le_mul_of_pos_right _ T.size_pos
  simp only [maxLen];omega
 ·have:=(gS.1 hj).1;simpa using this
 ·rw [Nat.zero_add,World.cell?_alloc_new];simpa using hj
theorem ArrH.lit {T:Ty} {el:TypeId} {xs:List T.den} {ds:List Value} (hi:InLt S w) (hr:RepL S w T xs ds) (hs:xs.length*T.size≤16777216):ArrH (fun b o=>b=w.heap.size∧o<xs.length*T.size) S (w.alloc (.cells ds.toArray el)) (.slice (some ⟨w.heap.size,0,none⟩) xs.length xs.length) T xs:=by
 have hk:Keep S w S (w.alloc (.cells ds.toArray el)):=⟨fun _ _ h=>h,fun b o h=>World.cell?_alloc_lt _ _ _ (hi b o h)⟩
 have hl:=hr.length
 have h1:xs.length≤xs.length*T.size:=Nat.le_mul_of_pos_right _ T.size_pos
 refine ⟨_,xs.length,rfl,nR _,by simp only [maxLen];omega,.inr ⟨_,0,rfl,fun b' o=>by simp,fun o h1 h2=>⟨⟨ds[o]'(by omega),?_⟩,World.frozen?_alloc_new _ _ _ _⟩,fun i x hx=>?_⟩⟩
 ·rw [World.cell?_alloc_new];simp [show o<ds.length by omega]
 ·obtain ⟨es,he,hg⟩:=(hr.keep hk).get i x hx
  refine ⟨es,he,fun j v hj=>?_⟩
  rw [World.cell?_alloc_new]
  have:=hg j v hj
  simpa using this

theorem bsR_ok (hΓ:TabOK P Γ) {rd:Option Nat} {t:TypeId} {len:Nat} {parts:Array (Nat×Operand)} {R:RdR} (hop:o.op=.buildSlice t len parts) (hw:Wf e) (hc:CtxH e ctx) (h:bsR Γ e ctx o.dst t len parts.toList H nx=some R) (r:R.T):R.OK P rd B o e (H,nx) r:=by
 have hd:∀ c,o.op≠.defer c:=by rw [hop];intro c hh;cases hh
 unfold bsR at h
 split at h
 ·rename_i el bts T hel
  split at h
  ·rename_i hb
   simp only [bA] at hb
   have hl:=nB hb.1
   have hs:=nL hb.2
   have hI:=tA hΓ hel
   split at h
   ·rename_i xs hown hx
    cases h
    have hxl:=dH hx
    refine jB rfl hd fun S w η a hi hlen ho=>?_
    have hk0:η nx=none:=hlen nx (nR _) (Nat.lt_succ_self _)
    obtain ⟨ds,hr,hrun⟩:=bs_run (a:=a) hop hI hl hs hx (HInv.empty (η:=η) hi.inw) hw hc ho
    have hk:Keep S w S (w.alloc (.cells ds.toArray el)):=⟨fun _ _ h=>h,fun b o h=>World.cell?_alloc_lt _ _ _ (hi.inw b o h)⟩
    have hin:InLt S (w.alloc (.cells ds.toArray el)):=fun b o h=>by have:=hi.inw b o h;simp;omega
    have hll:len=xs.length:=by omega
    subst hll
    refine ⟨_,_,S,η.add nx (.slice (some ⟨w.heap.size,0,none⟩) xs.length xs.length),.inl hrun,⟨(Below.refl _ _).alloc hi.base _,hk,hin,fun _ _ h=>.inl h,LK.alloc _ _⟩,.push hk0 _,Out.add _ _ _,?_,?_⟩
    ·show HInv B _ ((nx,.arr T xs)::H) S _
     refine hi.new hk0 (by simp) hin hk (fun _ _ h=>.inl h) (fun b hb=>Below.heap_alloc _ _ _ hb) (fun b o=>b=w.heap.size∧o<xs.length*T.size) ⟨_,Eta.add_same _ _ _,ArrH.lit hi.inw hr hs⟩ fun b o h=>?_
     obtain ⟨rfl,h⟩:=h
     exact ⟨nR _,by simp,fun hs=>absurd (hi.inw _ _ hs) (by omega)⟩
    ·change _∧_
     exact ⟨Eta.add_same _ _ _,rfl⟩
   ·rename_i xs hown hx
    cases h
    have hxl:=dH hx
    intro S w η a hi ho
    obtain ⟨ds,hr,hrun⟩:=bs_run (a:=a) hop hI hl hs hx (HInv.empty (η:=η) hi) hw hc ho
    have hll:len=xs.length:=by omega
    subst hll
    obtain ⟨S',hg,hv⟩:=bs_data (el:=el) hi hr hs
    exact .value hd hrun ⟨_,S',rfl,hg,hv,_,rfl⟩
   ·rename_i own _
    split at h
    ·rename_i xs hx
     have hxl:=dH hx
     split at h
     ·cases h
      refine jB rfl hd fun S0 w η a hi0 hlen ho=>?_
      have hk0:η nx=none:=hlen nx (nR _) (Nat.lt_succ_self _)
      obtain ⟨S,hi,hg1⟩:=fzE_sound (e:=e) (ctx:=ctx) (l:=parts.toList) hi0
      have ho1:En.Only (lk e) (rA o) S w η a.tmps:=fun t pv h1 h2=>(ho t pv h1 h2).mono hg1.keep (.refl _)
      obtain ⟨ds,hr,hrun⟩:=bs_run (a:=a) hop hI hl hs hx hi hw hc ho1
      have hk:Keep S w S (w.alloc (.cells ds.toArray el)):=⟨fun _ _ h=>h,fun b o h=>World.cell?_alloc_lt _ _ _ (hi.inw b o h)⟩
      have hin:InLt S (w.alloc (.cells ds.toArray el)):=fun b o h=>by have:=hi.inw b o h;simp;omega
      have hll:len=xs.length:=by omega
      subst hll
      refine ⟨_,_,S,η.add nx (.slice (some ⟨w.heap.size,0,none⟩) xs.length xs.length),.inl hrun,hg1.trans ⟨(Below.refl _ _).alloc hi.base _,hk,hin,fun _ _ h=>.inl h,LK.alloc _ _⟩,.push hk0 _,Out.add _ _ _,?_,?_⟩
      ·show HInv B _ (((nx,.arr T xs)::dE e ctx H parts.toList)++H) S _
       rw [List.cons_append,← fzE_eq]
       refine hi.new hk0 (by simp) hin hk (fun _ _ h=>.inl h) (fun b hb=>Below.heap_alloc _ _ _ hb) (fun b o=>b=w.heap.size∧o<xs.length*T.size) ⟨_,Eta.add_same _ _ _,ArrH.lit hi.inw hr hs⟩ fun b o h=>?_
       obtain ⟨rfl,h⟩:=h
       exact ⟨nR _,by simp,fun hs=>absurd (hi.inw _ _ hs) (by omega)⟩
      ·change _∧_
       exact ⟨Eta.add_same _ _ _,rfl⟩
     ·cases h
      refine jB rfl hd fun S0 w η a hi0 hlen ho=>?_
      obtain ⟨S,hi,hg1⟩:=fzE_sound (e:=e) (ctx:=ctx) (l:=parts.toList) hi0
      have ho1:En.Only (lk e) (rA o) S w η a.tmps:=fun t pv h1 h2=>(ho t pv h1 h2).mono hg1.keep (.refl _)
      obtain ⟨ds,hr,hrun⟩:=bs_run (a:=a) hop hI hl hs hx hi hw hc ho1
      have hll:len=xs.length:=by omega
      subst hll
      obtain ⟨S',hg,hv⟩:=bs_data (el:=el) hi.inw hr hs
      refine ⟨_,_,S',η,.inl hrun,hg1.trans (hg.mono hi.base),.refl _,Out.refl _ _ _,?_,hv,_,rfl⟩
      have h2:=hi.grow hg
      rw [fzE_eq] at h2
      exact h2
    ·cases h
  ·cases h
 ·cases h

theorem kF {df n:Int} {x:Option Operand} (hw:Wf e) (hc:CtxH e ctx) (ho:En.Only (lk e) (rA o) S w η a.tmps) (hx:∀ y,x=some y→y∈o.op.operands.toList) (h:bndR e ctx df x=some n):(x=none∧n=df)∨∃ y,x=some y∧a.eval y=.int .i64 n:=by
 unfold bndR at h
 split at h
 ·cases h;exact .inl ⟨rfl,rfl⟩
 ·rename_i y
  split at h
  ·rename_i m hm
   cases h
   exact .inr ⟨y,rfl,(PM.int.1 (cA hw hc hm (hx y rfl) ho)).1⟩
  ·cases h
theorem qC {α:Type} {xs ys:List α} {l h:Int} (hh:pA xs l h=some ys):0≤l∧l≤h∧h≤xs.length∧ys=(xs.take h.toNat).drop l.toNat:=by
 unfold pA at hh
 split at hh
 ·rename_i h1 h2 h3
  cases hh
  exact ⟨oD h1,oD h2,oD h3,rfl⟩
 ·cases hh
theorem sl_run {T:Ty} {t el:TypeId} {bts:Nat} {x:Operand} {lo hi_:Option Operand} {xs r:List T.den} {li hi:Int} (hI:SlP P t el T bts) (hop:o.op=.slice t x lo hi_ none) (hv:VRep S w (.list T) xs (a.eval x))
  (hlo:(lo=none∧li=0)∨∃ y,lo=some y∧a.eval y=.int .i64 li) (hhi:(hi_=none∧hi=lenM xs)∨∃ y,hi_=some y∧a.eval y=.int .i64 hi) (b1:0≤li) (b2:li≤hi) (b3:hi≤xs.length) (hys:r=(xs.take hi.toNat).drop li.toNat) :
  ∃ v,(execOp a.eval o).run P w=.ok (.value v) w∧VRep S w (.list T) r v:=by
 obtain ⟨base,cap,e1,e2,e3,e4⟩:=VRep.slice hv
 obtain ⟨i,z,i1,i2,i3,i4,i5⟩:=hI.info
 have hsz:(sizeOf el).run P w=.ok T.size w:=by simp [sizeOf,typeInfo,i1,i4]
 obtain ⟨l,rfl⟩:∃ l:Nat,li=l:=⟨li.toNat,by omega⟩
 obtain ⟨h,rfl⟩:∃ h:Nat,hi=h:=⟨hi.toNat,by omega⟩
 have h1:l≤h:=by omega
 have h2:h≤xs.length:=by omega
 simp only [Int.toNat_natCast] at hys
 have hlen:r.length=h-l:=by rw [hys];simp;omega
 have hrun:(execOp a.eval o).run P w=.ok (.value (.slice (if cap=l then base else base.map (·.add (l*T.size))) (h-l) (cap-l))) w:=by
  rcases hlo with ⟨rfl,hl0⟩ | ⟨y,rfl,f0⟩
  ·have hl0:l=0:=by omega
   subst hl0
   rcases hhi with ⟨rfl,hh0⟩ | ⟨y2,rfl,f1⟩
   ·have hh0:h=xs.length:=by unfold lenM at hh0;omega
    subst hh0
    simp [execOp,hop,e1,Instr.sliceAt,Instr.slice,run_underlying hI.und,Instr.sliceBounds,hsz]
   ·simp [execOp,hop,e1,f1,Instr.sliceAt,Instr.slice,run_underlying hI.und,Instr.sliceBounds,Instr.sliceBound,asIntOf,hsz,show h≤cap by omega]
  ·rcases hhi with ⟨rfl,hh0⟩ | ⟨y2,rfl,f1⟩
   ·have hh0:h=xs.length:=by unfold lenM at hh0;omega
    subst hh0
    simp [execOp,hop,e1,f0,Instr.sliceAt,Instr.slice,run_underlying hI.und,Instr.sliceBounds,Instr.sliceBound,asIntOf,hsz,h1]
   ·simp [execOp,hop,e1,f0,f1,Instr.sliceAt,Instr.slice,run_underlying hI.und,Instr.sliceBounds,Instr.sliceBound,asIntOf,hsz,show h≤cap by omega,h1]
 refine ⟨_,hrun,?_⟩
 rw [← hlen]
 refine ⟨_,⟨_,cap-l,rfl,by rw [hlen];omega,by omega,?_⟩,rfl⟩
 by_cases h0:h-l=0
 ·left;rw [hlen];exact h0
 ·right
  rcases e4 with e4 | ⟨b,off,rfl,e4⟩
  ·omega
  ·refine ⟨b,off+l*T.size,?_,fun i y hy=>?_⟩
   ·rw [if_neg (by omega)];simp [Addr.add_lit]
   ·rw [hys,List.getElem?_drop] at hy
    have hlt:l+i<h:=by
     have:=(gS.1 hy).1
     simp at this;omega
    rw [List.getElem?_take_of_lt hlt] at hy
    obtain ⟨es,he,hcl⟩:=e4 _ y hy
    refine ⟨es,he,fun j u hj=>?_⟩
    have:=hcl j u hj
    rw [show off+l*T.size+i*T.size+j=off+(l+i)*T.size+j by rw [Nat.add_mul];omega]
    exact this
theorem slR_ok (hΓ:TabOK P Γ) {rd:Option Nat} {t:TypeId} {x:Operand} {lo hi_:Option Operand} {R:RdR} (hop:o.op=.slice t x lo hi_ none) (hw:Wf e) (hc:CtxH e ctx) (h:slR Γ e ctx t x lo hi_ H nx=some R) (r:R.T) (hr:R.m=some r):R.OK P rd B o e (H,nx) r:=by
 have hd:∀ c,o.op≠.defer c:=by rw [hop];intro c hh;cases hh
 unfold slR at h
 split at h
 ·rename_i el bts T c hel hx
  split at h
  ·rename_i T' xs' hlst
   split at h
   ·rename_i xs hcast
    split at h
    ·rename_i li hi hl hh
     cases h
     refine lB rfl hd fun S w η a _ ho=>?_
     obtain ⟨b1,b2,b3,hys⟩:=qC hr
     have hI:=tA hΓ hel
     have hv:VRep S w (.list T) xs (a.eval x):=vC hcast (lstOf_sound hlst (cA hw hc hx (by rw [hop];simp [Op.operands]) ho))
     have hlo:=kF (a:=a) hw hc ho (fun y hy=>by rw [hop];simp [Op.operands,hy]) hl
     have hhi:=kF (a:=a) hw hc ho (fun y hy=>by rw [hop];simp [Op.operands,hy]) hh
     obtain ⟨v,q1,q2⟩:=sl_run hI hop hv hlo hhi b1 b2 b3 hys
     exact ⟨v,q1,rfl,q2⟩
    ·cases h
   ·cases h
  ·cases h
 ·cases h
theorem opD_sound:OpF.Sound opD:=by
 intro P Γ hΓ rd B o e ctx H nx R h hw hc r hr
 unfold opD at h
 split at h
 ·rename_i t len parts hop
  split at h
  ·cases h
  ·exact bsR_ok hΓ hop hw hc h r
 ·rename_i t x lo hi hop;exact slR_ok hΓ hop hw hc h r hr
 ·rename_i t x i hop
  split at h
  ·cases h;cases hr
  ·cases h
 ·cases h
end

section
variable {B:Nat} {S S':Cells} {w w':World} {η η':Eta} {H H':PH} {F:Cells}
end

section
variable {P:Program} {Γ:Tabs} {B:Nat} {S:Cells} {w:World} {η:Eta} {H:PH} {nx:Nat}
end

def Ag (l:List Nat) (H H':PH):Prop:=∀ i∈l,lk H' i=lk H i
theorem Ag.left {a b:List Nat} {H H':PH} (h:Ag (a++b) H H'):Ag a H H':=fun i hi=>h i (List.mem_append_left _ hi)
theorem Ag.right {a b:List Nat} {H H':PH} (h:Ag (a++b) H H'):Ag b H H':=fun i hi=>h i (List.mem_append_right _ hi)
theorem Ag.one {i:Nat} {H H':PH} (h:Ag [i] H H'):lk H' i=lk H i:=h i (by simp)
theorem Ag.app {l:List Nat} {H H':PH} (h:Ag l H H') (δ:PH):Ag l (δ++H) (δ++H'):=fun i hi=>by
 rw [xB,xB,h i hi]
theorem dC_loc {H H':PH} {c:CV} (h:Ag c.ids H H'):dC H' c=dC H c:=by
 unfold dC
 cases c<;>try rfl
 simp only [CV.ids] at h
 simp only [h.one]
theorem dL_loc:∀ {l:List CV} {H H':PH},Ag (CVs.ids l) H H'→dL H' l=dL H l
 | [],_,_,_=>rfl
 | c::r,H,H',h=>by
  have h1:Ag c.ids H H':=h.left
  have h2:Ag (CVs.ids r) H H':=h.right
  show dL (fzC H' c) r++dC H' c=dL (fzC H c) r++dC H c
  rw [dC_loc h1]
  congr 1
  refine dL_loc ?_
  rw [fzC_eq,fzC_eq,dC_loc h1]
  exact h2.app _
theorem dR_loc {H H':PH}:∀ {v:RV},Ag v.ids H H'→dR H' v=dR H v
 | .c x,h=>dC_loc h
 | .s l,h=>dL_loc h
theorem qH {H H':PH} {v:PV} (h:Ag v.ids H H'):dP H' v=dP H v:=by
 cases v
 case r x=>exact dR_loc h
 all_goals rfl
theorem fzR_ag {H H':PH} {v:RV} {l:List Nat} (hv:Ag v.ids H H') (h:Ag l H H'):Ag l (fzR H v) (fzR H' v):=by
 rw [fzR_eq,fzR_eq,dR_loc hv];exact h.app _
theorem fzP_ag {H H':PH} {v:PV} {l:List Nat} (hv:Ag v.ids H H') (h:Ag l H H'):Ag l (fzP H v) (fzP H' v):=by
 rw [dJ,dJ,qH hv];exact h.app _
theorem conC_loc {H H':PH} {t:Ty} {c:CV} (h:Ag c.ids H H'):lE H' t c=lE H t c:=by
 cases c
 case h id =>
  simp only [CV.ids] at h
  simp only [lE,h.one]
 case l k=>cases k<;>simp [lE]
 all_goals simp [lE]
theorem con_loc {H H':PH}:∀ {t:Ty} {l:List CV},Ag (CVs.ids l) H H'→con H' t l=con H t l∧∀ x r,con H t l=some (x,r)→Ag (CVs.ids r) H H':=by
 intro t
 induction t with
 | one t ih =>
  intro l h
  exact ih h
 | pair a b iha ihb =>
  intro l h
  obtain ⟨h1,h2⟩:=iha h
  unfold con
  rw [h1]
  cases hc:con H a l with
  | none=>exact ⟨rfl,fun x r hx=>by simp at hx⟩
  | some p =>
   obtain ⟨y,l1⟩:=p
   obtain ⟨h3,h4⟩:=ihb (h2 y l1 hc)
   simp only
   rw [h3]
   cases hc2:con H b l1 with
   | none=>exact ⟨rfl,fun x r hx=>by simp at hx⟩
   | some q =>
    obtain ⟨z,l2⟩:=q
    refine ⟨rfl,fun x r hx=>?_⟩
    simp only [Option.some.injEq,Prod.mk.injEq] at hx
    rw [← hx.2];exact h4 z l2 hc2
 | _ =>
  intro l h
  cases l with
  | nil=>exact ⟨by simp [con],fun x r hx=>by simp [con] at hx⟩
  | cons c l =>
   have h1:Ag c.ids H H':=h.left
   have h2:Ag (CVs.ids l) H H':=h.right
   unfold con
   rw [conC_loc h1]
   refine ⟨rfl,fun x r hx=>?_⟩
   split at hx
   ·cases hx;exact h2
   ·cases hx
theorem conR_loc {H H':PH} {t:Ty}:∀ {v:RV},Ag v.ids H H'→conR H' t v=conR H t v
 | .c x,h=>by
  unfold conR
  simp only
  rw [conC_loc h]
 | .s l,h=>by
  unfold conR
  simp only
  rw [(con_loc h).1]
theorem conP_loc {H H':PH} {t:Ty} {v:PV} (h:Ag v.ids H H'):conP H' t v=conP H t v:=by
 cases v
 case r x=>exact conR_loc h
 all_goals rfl

section
variable {Γ:Tabs} {H H':PH} {nx:Nat} {e:Ev} {ctx:Ctx} {o:Oper}
theorem ldR_loc {t:TypeId} {pv:PV} (h:Ag pv.ids H H'):ldR Γ t pv H' nx=ldR Γ t pv H nx:=by
 unfold ldR
 generalize lk Γ.ty t=q
 cases q with
 | none=>cases pv<;>first | rfl | (rename_i v;cases v<;>first | rfl | (rename_i x;cases x<;>rfl))
 | some ti =>
  cases pv with
  | r v =>
   cases v with
   | c x=>cases x<;>first | rfl | (have h1:=Ag.one h;simp only [h1];rfl)
   | s l=>rfl
  | ep id sz i k=>have h1:=Ag.one h;simp only [h1];rfl
  | er id vid sz i k off=>have h1:=Ag.one h;simp only [h1];rfl
  | _=>rfl
theorem ixR_loc {t:TypeId} {pv ix:PV} (h:Ag pv.ids H H'):ixR Γ t pv ix H' nx=ixR Γ t pv ix H nx:=by
 unfold ixR
 generalize lk Γ.ty t=q
 split
 ·rename_i c k i ti
  generalize ti.kind=kd
  cases kd with
  | slice el bts =>
   simp only
   generalize lk Γ.ty el=te
   cases te with
   | none=>cases c<;>rfl
   | some te=>cases c<;>first | rfl | (have h1:=Ag.one h;simp only [h1];rfl)
  | _=>rfl
 ·rfl
theorem lnR_loc {t:TypeId} {pv:PV} (h:Ag pv.ids H H'):lnR Γ t pv H' nx=lnR Γ t pv H nx:=by
 unfold lnR
 generalize lk Γ.ty t=q
 cases q with
 | none=>cases pv<;>first | rfl | (rename_i v;cases v<;>first | rfl | (rename_i x;cases x<;>rfl))
 | some ti =>
  cases pv with
  | r v =>
   cases v with
   | c x=>cases x<;>first | rfl | (have h1:=Ag.one h;simp only [h1];rfl)
   | s l=>rfl
  | _=>rfl
theorem stR_loc {t:TypeId} {pa pv:PV} (h:Ag pa.ids H H') (h2:Ag pv.ids H H'):stR Γ t pa pv H' nx=stR Γ t pa pv H nx:=by
 unfold stR
 generalize lk Γ.ty t=q
 split
 ·rename_i id k v ti
  have h1:=Ag.one h
  simp only [h1]
 ·rename_i id sz i k v ti
  have h2:Ag v.ids H H':=h2
  have h1:=(fzR_ag h2 h).one
  simp only [dR_loc h2,h1,conR_loc (fzR_ag h2 h2)]
 ·rfl
theorem mE {T:Ty} {pv:PV} (h:Ag pv.ids H H'):pG H' T pv=pG H T pv:=by
 unfold pG
 exact conP_loc (fzP_ag h h)
theorem appR_loc {t:TypeId} {pa pv:PV} (h:Ag pa.ids H H') (h2:Ag pv.ids H H'):fG Γ t pa pv H' nx=fG Γ t pa pv H nx:=by
 unfold fG
 generalize bD Γ t=q
 split
 ·rename_i el bts T id
  have h1:=(fzP_ag h2 h).one
  simp only [h1,mE h2,qH h2]
 ·simp only [mE h2,qH h2]
 ·simp only [mE h2,qH h2]
 ·rfl
theorem opIds1 {x:Operand} {pv:PV} (ho:o.op.operands.toList=[x]) (hx:ev e ctx x=some pv) (h:Ag (dD e ctx o) H H'):Ag pv.ids H H':=by
 unfold dD at h
 rw [ho] at h
 simp only [rB,hx] at h
 exact h.left
theorem kH {x y:Operand} {pv pw:PV} (ho:o.op.operands.toList=[x,y]) (hx:ev e ctx x=some pv) (hy:ev e ctx y=some pw) (h:Ag (dD e ctx o) H H'):Ag pv.ids H H'∧Ag pw.ids H H':=by
 unfold dD at h
 rw [ho] at h
 simp only [rB,hx,hy] at h
 exact ⟨h.left,h.right.left⟩
theorem yH:opA Γ o e ctx H' nx=opA Γ o e ctx H nx:=by
 unfold opA
 rfl
theorem opH1_loc (h:Ag (dD e ctx o) H H'):opH1 Γ o e ctx H' nx=opH1 Γ o e ctx H nx:=by
 unfold opH1
 split
 ·rename_i t x hop
  split
  ·rename_i pv hx
   exact ldR_loc (opIds1 (by rw [hop];simp [Op.operands]) hx h)
  ·rfl
 ·rename_i t x i hop
  split
  ·rename_i pv ix hx hi
   exact ixR_loc (kH (by rw [hop];simp [Op.operands]) hx hi h).1
  ·rfl
 ·rename_i c hop
  split
  ·rename_i x t hcal ha ht
   split
   ·rename_i pv hx
    exact lnR_loc (opIds1 (by rw [hop];simp [Op.operands,Call.operands,hcal,ha]) hx h)
   ·rfl
  ·rename_i s x t t' hcal ha ht
   split
   ·rename_i ps px hs hx ht'
    obtain ⟨h1,h2⟩:=kH (by rw [hop];simp [Op.operands,Call.operands,hcal,ha]) hs hx h
    exact appR_loc h1 h2
   ·rfl
  ·rfl
 ·rfl
 ·rename_i t x hop
  split<;>rfl
 ·rename_i t a x hop
  split
  ·rename_i pa pv ha hx
   obtain ⟨h1,h2⟩:=kH (by rw [hop];simp [Op.operands]) ha hx h
   exact stR_loc h1 h2
  ·rfl
 ·split<;>rfl
 ·rfl
theorem ldR_fl {t:TypeId} {pv:PV} {R:RdR} (h:ldR Γ t pv H nx=some R):R.fl≠0:=by
 unfold ldR at h;(repeat' split at h)<;>first | (cases h;exact Nat.one_ne_zero) | cases h
theorem ixR_fl {t:TypeId} {pv ix:PV} {R:RdR} (h:ixR Γ t pv ix H nx=some R):R.fl≠0:=by
 unfold ixR at h;(repeat' split at h)<;>first | (cases h;exact Nat.one_ne_zero) | cases h
theorem lnR_fl {t:TypeId} {pv:PV} {R:RdR} (h:lnR Γ t pv H nx=some R):R.fl≠0:=by
 unfold lnR at h;(repeat' split at h)<;>first | (cases h;exact Nat.one_ne_zero) | cases h
theorem stR_fl {t:TypeId} {pa pv:PV} {R:RdR} (h:stR Γ t pa pv H nx=some R):R.fl≠0:=by
 unfold stR at h;(repeat' split at h)<;>first | (cases h;exact sZ _) | cases h
theorem appR_fl {t:TypeId} {pa pv:PV} {R:RdR} (h:fG Γ t pa pv H nx=some R):R.fl≠0:=by
 unfold fG at h;(repeat' split at h)<;>first | (cases h;exact sZ _) | cases h
theorem mkR_fl {t:TypeId} {pa pv:PV} {R:RdR} (h:mkR Γ t pa pv H nx=some R):R.fl≠0:=by
 unfold mkR at h;(repeat' split at h)<;>first | (cases h;exact sZ _) | cases h
theorem opH1_fl {R:RdR} (h:opH1 Γ o e ctx H nx=some R):R.fl≠0:=by
 unfold opH1 at h
 split at h
 ·split at h
  ·exact ldR_fl h
  ·cases h
 ·split at h
  ·exact ixR_fl h
  ·cases h
 ·split at h
  ·split at h
   ·exact lnR_fl h
   ·cases h
  ·split at h
   ·exact appR_fl h
   ·cases h
  ·cases h
 ·unfold allocR at h;(repeat' split at h)<;>first | (cases h;exact sZ _) | cases h
 ·split at h
  ·unfold boxR at h;(repeat' split at h)<;>first | (cases h;exact sZ _) | cases h
  ·cases h
 ·split at h
  ·exact stR_fl h
  ·cases h
 ·split at h
  ·exact mkR_fl h
  ·cases h
 ·cases h
theorem xG {F:OpF} (hF:∀ {Γ:Tabs} {H H':PH} {nx:Nat} {e:Ev} {ctx:Ctx} {o:Oper},F Γ o e ctx H' nx=F Γ o e ctx H nx):F.calm Γ o e ctx H' nx=F.calm Γ o e ctx H nx:=by
 unfold OpF.calm
 rw [hF (H:=H) (H':=H')]
theorem OpF.Sound.calm {F:OpF} (hF:F.Sound):F.calm.Sound:=by
 intro P Γ hΓ rd B o e ctx H nx R h
 unfold OpF.calm at h
 split at h
 ·split at h
  ·rename_i R' h1 _ hb
   cases h
   exact hF P Γ hΓ rd B o e ctx H nx _ h1
  ·cases h
 ·cases h
theorem opAll_sound:xH.Sound:=opA_sound.calm.or opH1_sound
theorem opAll_nice:xH.Nice:=by
 constructor
 ·intro Γ o e ctx H H' nx h
  unfold xH OpF.or
  rw [xG (F:=opA) (H:=H) (H':=H') yH,opH1_loc h]
 ·intro Γ o e ctx H nx R h h0 H'
  unfold xH OpF.or at h ⊢
  rw [xG (F:=opA) (H:=H) (H':=H') yH]
  split at h
  ·exact h
  ·exact absurd h0 (opH1_fl h)

theorem cv_ids:∀ {t:Ty} {x:t.den},CVs.ids (t.cv x)=[]
 | .int _,_=>rfl
 | .bool,_=>rfl
 | .str,_=>rfl
 | .list _,_=>rfl
 | .one t,x=>by
  show CVs.ids (t.cv x)=[]
  exact cv_ids
 | .pair a b,x=>by
  show CVs.ids (a.cv x.1++b.cv x.2)=[]
  have app:∀ l m:List CV,CVs.ids l=[]→CVs.ids m=[]→CVs.ids (l++m)=[]:=by
   intro l
   induction l with
   | nil=>intro m _ h;exact h
   | cons y r ih =>
    intro m h1 h2
    have h1:y.ids++CVs.ids r=[]:=h1
    show y.ids++CVs.ids (r++m)=[]
    rw [List.append_eq_nil_iff] at h1 ⊢
    exact ⟨h1.1,ih m h1.2 h2⟩
  exact app _ _ cv_ids cv_ids
theorem rv_ids {t:Ty} {x:t.den}:(t.rv x).ids=[]:=by
 unfold Ty.rv
 split
 ·exact cv_ids
 ·rfl
theorem fv_ids:∀ {fs:List FV},Ag (FVs.ids fs) H H'→Ag (RVs.ids (fs.map cB)) H H'
 | [],_=>fun i hi=>by cases hi
 | .p id off::r,h=>by
  intro i hi
  rcases List.mem_append.1 hi with hi | hi
  ·exact h i (List.mem_append_left _ hi)
  ·exact fv_ids (fs:=r) (Ag.right h) i hi
 | .y id::r,h=>by
  intro i hi
  rcases List.mem_append.1 hi with hi | hi
  ·exact h i (List.mem_append_left _ hi)
  ·exact fv_ids (fs:=r) (Ag.right h) i hi
 | .h id::r,h=>by
  intro i hi
  rcases List.mem_append.1 hi with hi | hi
  ·exact h i (List.mem_append_left _ hi)
  ·exact fv_ids (fs:=r) (Ag.right h) i hi
 | .d t x::r,h=>by
  intro i hi
  rcases List.mem_append.1 hi with hi | hi
  ·have:(cB (.d t x)).ids=[]:=rv_ids
   rw [this] at hi;cases hi
  ·exact fv_ids (fs:=r) (Ag.right h) i hi
theorem rvs_app:∀ {a b:List RV},Ag (RVs.ids a) H H'→Ag (RVs.ids b) H H'→Ag (RVs.ids (a++b)) H H'
 | [],_,_,h=>h
 | x::r,b,h1,h2=>by
  intro i hi
  rcases List.mem_append.1 hi with hi | hi
  ·exact h1 i (List.mem_append_left _ hi)
  ·exact rvs_app (a:=r) (Ag.right h1) h2 i hi
theorem kI:∀ {xs:List Operand} {l:List RV},pE e ctx xs=some l→Ag (rB e ctx xs) H H'→Ag (RVs.ids l) H H'
 | [],_,h,_=>by cases h;exact fun i hi=>by cases hi
 | x::r,l,h,hg=>by
  unfold pE at h
  split at h
  ·rename_i v hv
   split at h
   ·rename_i l' hl
    cases h
    have h1:Ag v.ids H H':=by
     have:=Ag.left hg
     rw [hv] at this;exact this
    intro i hi
    rcases List.mem_append.1 hi with hi | hi
    ·exact h1 i hi
    ·exact kI hl (Ag.right hg) i hi
   ·cases h
  ·cases h
theorem dRs_loc:∀ {l:List RV} {H H':PH},Ag (RVs.ids l) H H'→dRs H' l=dRs H l
 | [],_,_,_=>rfl
 | c::r,H,H',h=>by
  have h1:Ag c.ids H H':=h.left
  show dRs (fzR H' c) r++dR H' c=dRs (fzR H c) r++dR H c
  rw [dR_loc h1,dRs_loc (fzR_ag h1 (Ag.right h))]
theorem conRs_loc:∀ {l:List Ty} {rs:List RV} {H H':PH},Ag (RVs.ids rs) H H'→uB H' l rs=uB H l rs
 | [],[],_,_,_=>rfl
 | [],_::_,_,_,_=>rfl
 | [t],[],_,_,_=>rfl
 | [t],[v],_,_,h=>conR_loc h.left
 | [t],_::_::_,_,_,_=>rfl
 | t::u::r,[],_,_,_=>rfl
 | t::u::r,v::vs,H,H',h=>by
  unfold uB
  rw [conR_loc h.left,conRs_loc (l:=u::r) h.right]
theorem OpF.Nice.or {F G:OpF} (hF:F.Nice) (hG:G.Nice) (hd:∀ Γ o e ctx H nx R,G Γ o e ctx H nx=some R→∀ H',F Γ o e ctx H' nx=F Γ o e ctx H nx):(F.or G).Nice:=by
 constructor
 ·intro Γ o e ctx H H' nx h
  unfold OpF.or
  rw [hF.loc _ _ _ _ _ _ _ h,hG.loc _ _ _ _ _ _ _ h]
 ·intro Γ o e ctx H nx R h h0 H'
  unfold OpF.or at h ⊢
  split at h
  ·rename_i R' h1
   cases h
   rw [hF.pure0 _ _ _ _ _ _ _ h1 h0 H']
  ·rename_i h1
   rw [hd _ _ _ _ _ _ _ h H',h1]
   exact hG.pure0 _ _ _ _ _ _ _ h h0 H'
theorem opC_call {R:RdR} (h:opC Γ o e ctx H nx=some R):∃ c f,o.op=.call c∧c.callee=.value f:=by
 unfold opC at h
 split at h
 ·rename_i c hop
  split at h
  ·rename_i f args hcal ha
   exact ⟨c,f,hop,hcal⟩
  ·cases h
 ·cases h
theorem opAll_call {c:Call} {f:Operand} (h1:o.op=.call c) (h2:c.callee=.value f):xH Γ o e ctx H nx=none:=by
 unfold xH OpF.or OpF.calm opA opH1
 simp only [h1,h2]
theorem opC_nice:opC.Nice:=by
 constructor
 ·intro Γ o e ctx H H' nx h
  unfold opC
  split
  ·rename_i c hop
   split
   ·rename_i f args hcal ha
    split
    ·rename_i g fs cs hf
     have hops:o.op.operands.toList=f::c.args.toList:=by simp [hop,Op.operands,Call.operands,hcal]
     have hg:Ag (rB e ctx (f::c.args.toList)) H H':=by
      have:=h
      unfold dD at this
      rw [hops] at this;exact this
     have hf1:Ag (FVs.ids fs++FVs.ids cs) H H':=by
      have:=Ag.left hg
      rw [hf] at this;exact this
     have hall:Ag (RVs.ids (fs.map cB++args++cs.map cB)) H H':=rvs_app (rvs_app (fv_ids hf1.left) (kI ha (Ag.right hg))) (fv_ids hf1.right)
     have hc:∀ l,uB (yF H' (fs.map cB++args++cs.map cB)) l (fs.map cB++args++cs.map cB)=uB (yF H (fs.map cB++args++cs.map cB)) l (fs.map cB++args++cs.map cB):=fun l=>by
      refine conRs_loc ?_
      rw [rF,rF,dRs_loc hall]
      exact hall.app _
     split
     ·rename_i s hs
      split
      ·rfl
      ·rw [hc s.args,dRs_loc hall]
       rfl
     ·rfl
    ·rfl
   ·rfl
  ·rfl
 ·intro Γ o e ctx H nx R h h0 H'
  unfold opC at h ⊢
  split at h
  ·rename_i c hop
   split at h
   ·rename_i f args hcal ha
    split at h
    ·rename_i g fs cs hf
     split at h
     ·rename_i s hs
      split at h
      ·rename_i x hx
       cases h
       first | rfl | (simp only [hop,hcal,ha,hf,hs,hx];rfl)
      ·(repeat' split at h)<;>first | (cases h;cases h0) | cases h
     ·cases h
    ·cases h
   ·cases h
  ·cases h
theorem lits_loc {T:Ty}:∀ {parts:List (Nat×Operand)} {k:Nat} {H H':PH},Ag (rB e ctx (parts.map (·.2))) H H'→lits H' T e ctx k parts=lits H T e ctx k parts
 | [],_,_,_,_=>rfl
 | (i,op)::r,k,H,H',h=>by
  unfold lits
  cases hpv:ev e ctx op with
  | none=>cases Nat.beq i k<;>rfl
  | some pv =>
   have h1:Ag pv.ids H H':=by
    have:=Ag.left h
    rw [hpv] at this;exact this
   cases Nat.beq i k with
   | false=>rfl
   | true =>
    show (match conP H' T pv,lits H' T e ctx (k+1) r with | some x,some xs=>some (x::xs) | _,_=>none)=(match conP H T pv,lits H T e ctx (k+1) r with | some x,some xs=>some (x::xs) | _,_=>none)
    rw [conP_loc h1,lits_loc (Ag.right h)]
theorem dE_loc:∀ {parts:List (Nat×Operand)} {H H':PH},Ag (rB e ctx (parts.map (·.2))) H H'→dE e ctx H' parts=dE e ctx H parts
 | [],_,_,_=>rfl
 | (i,op)::r,H,H',h=>by
  unfold dE
  cases hpv:ev e ctx op with
  | none=>rfl
  | some pv =>
   have h1:Ag pv.ids H H':=by
    have:=Ag.left h
    rw [hpv] at this;exact this
   simp only
   rw [qH h1,dE_loc (fzP_ag h1 (Ag.right h))]
theorem opD_nice:opD.Nice:=by
 constructor
 ·intro Γ o e ctx H H' nx h
  unfold opD
  split
  ·rename_i t len parts hop
   have hg:Ag (rB e ctx (parts.toList.map (·.2))) H H':=by
    have e1:o.op.operands.toList=parts.toList.map (·.2):=by rw [hop];simp [Op.operands]
    have:=h
    unfold dD at this
    rw [e1] at this
    exact this
   cases tabO o.dst Γ.own with
   | true=>rfl
   | false =>
   unfold bsR
   rw [dE_loc hg]
   have hl:∀ T k,lits (fzE e ctx H' parts.toList) T e ctx k parts.toList=lits (fzE e ctx H parts.toList) T e ctx k parts.toList:=fun T k=>by
    refine lits_loc ?_
    rw [fzE_eq,fzE_eq,dE_loc hg]
    exact hg.app _
   simp only [hl]
   rfl
  ·rfl
  ·rfl
  ·rfl
 ·intro Γ o e ctx H nx R h h0 H'
  unfold opD at h ⊢
  split at h
  ·rename_i t len parts hop
   cases htb:tabO o.dst Γ.own with
   | true=>rw [htb] at h;cases h
   | false =>
   rw [htb] at h
   simp only at h ⊢
   unfold bsR at h
   unfold bsR
   split at h
   ·rename_i el bts T hel
    split at h
    ·rename_i hb
     split at h
     ·cases h;cases h0
     ·rename_i xs hown hx
      cases h
      first | rfl | (simp only [hb,hown,hx];rfl)
     ·(repeat' split at h)<;>first | (cases h;cases h0) | cases h
    ·cases h
   ·cases h
  ·rename_i t x lo hi hop
   exact h
  ·rename_i t x i hop
   exact h
  ·cases h
def OPS1:OpF:=(xH.or opC).or opD
theorem OPS1_sound:OPS1.Sound:=(opAll_sound.or opC_sound).or opD_sound
theorem opC_indep0 (h:∀ c,o.op≠.call c):opC Γ o e ctx H nx=none:=by
 unfold opC
 split
 ·rename_i c hop;exact absurd hop (h c)
 ·rfl
theorem OPS1_nice:OPS1.Nice:=by
 refine (opAll_nice.or opC_nice fun Γ o e ctx H nx R h H'=>?_).or opD_nice fun Γ o e ctx H nx R h H'=>?_
 ·obtain ⟨c,f,h1,h2⟩:=opC_call h
  rw [opAll_call h1 h2,opAll_call h1 h2]
 ·unfold OpF.or
  have key:(∀ c,o.op≠.call c)∧xH Γ o e ctx H' nx=xH Γ o e ctx H nx:=by
   unfold opD at h
   split at h
   ·rename_i t len parts hop
    refine ⟨fun c hh=>(by rw [hop] at hh;cases hh),?_⟩
    unfold xH OpF.or
    rw [xG (F:=opA) (H:=H) (H':=H') yH]
    have:∀ H,opH1 Γ o e ctx H nx=none:=fun H=>by unfold opH1;simp only [hop]
    rw [this,this]
   ·rename_i t x lo hi hop
    refine ⟨fun c hh=>(by rw [hop] at hh;cases hh),?_⟩
    unfold xH OpF.or
    rw [xG (F:=opA) (H:=H) (H':=H') yH]
    have:∀ H,opH1 Γ o e ctx H nx=none:=fun H=>by unfold opH1;simp only [hop]
    rw [this,this]
   ·rename_i t x i hop
    refine ⟨fun c hh=>(by rw [hop] at hh;cases hh),?_⟩
    split at h
    ·rename_i el bts T hx hel
     unfold xH OpF.or
     rw [xG (F:=opA) (H:=H) (H':=H') yH]
     have:opH1 Γ o e ctx H' nx=opH1 Γ o e ctx H nx:=by
      unfold opH1
      simp only [hop,hx]
      split
      ·rename_i pv ix hpv hix
       cases hpv
       exact ixR_loc fun i hi=>by cases hi
      ·rfl
     rw [this]
    ·cases h
   ·cases h
  rw [key.2,opC_indep0 key.1,opC_indep0 key.1]
end

def gK {α:Type} (xs ys:List α):List α:=ys.take xs.length++xs.drop ys.length
def rdS (H:PH) (T:Ty) (pv:PV):Option (Option (List T.den)):=match pv with
 | .r (.c (.h id))=>match lk H id with
  | some (.arr T' xs)=>match yA (.list T) (t':=.list T') xs with
   | some xs=>some (some xs)
   | none=>none
  | some (.frz T' xs)=>match yA (.list T) (t':=.list T') xs with
   | some xs=>some (some xs)
   | none=>none
  | _=>none
 | .r (.c (.rw id vid i))=>match lk H id with
  | some (.tab T' xss vid')=>match yA (.list (.list T)) (t':=.list (.list T')) xss,Nat.beq vid vid' with
   | some xss,true=>some (gA xss i)
   | _,_=>none
  | _=>none
 | pv=>match conP [] (.list T) pv with
  | some ys=>some (some ys)
  | none=>none
def copyR (Γ:Tabs) (t:TypeId) (pd ps:PV) (H:PH) (nx:Nat):Option RdR:=match bD Γ t,pd with
 | some (_,_,T),.r (.c (.h id))=>match lk H id with
  | some (.arr T' xs)=>match yA (.list T) (t':=.list T') xs,rdS H T ps with
   | some xs,some m=>some (wr m [] (fun ys=>.c (.d (.int .i64) (min (lenM ys) (lenM xs)))) (fun ys=>[(id,.arr T (gK xs ys))]) nx)
   | _,_=>none
  | _=>none
 | _,_=>none
def opV:OpF:=fun Γ o e ctx H nx=>match o.op with
 | .call c=>match c.callee,c.args.toList,c.argTypes.toList with
  | .builtin .copy,[d,s],[t,t']=>match ev e ctx d,ev e ctx s,Nat.beq t t' with
   | some pd,some ps,true=>copyR Γ t pd ps H nx
   | _,_,_=>none
  | _,_,_=>none
 | _=>none

section
variable {P:Program} {Γ:Tabs} {B:Nat} {S:Cells} {w:World} {η:Eta} {H:PH} {nx:Nat}
theorem rdS_sound (hi:HInv B η H S w) {T:Ty} {pv:PV} {v:Value} {ys:List T.den} (h:rdS H T pv=some (some ys)) (hm:PM S w η pv v) :
  ∃ base cap,v=.slice base ys.length cap∧ys.length≤maxLen∧(ys.length=0∨∃ b off,base=some ⟨b,off,none⟩∧∀ (i:Nat) (x:T.den),ys[i]? = some x→∃ es,Rep S w T x es∧∀ j u,es[j]? = some u→w.cell? ⟨b,off+i*T.size+j,none⟩=some u):=by
 have ofV:VRep S w (.list T) ys v→∃ base cap,v=.slice base ys.length cap∧ys.length≤maxLen∧(ys.length=0∨∃ b off,base=some ⟨b,off,none⟩∧∀ (i:Nat) (x:T.den),ys[i]? = some x→∃ es,Rep S w T x es∧∀ j u,es[j]? = some u→w.cell? ⟨b,off+i*T.size+j,none⟩=some u):=by
  intro hv
  obtain ⟨base,cap,e1,e2,e3,e4⟩:=VRep.slice hv
  refine ⟨base,cap,e1,Nat.le_trans e2 e3,e4.imp (fun h=>h) ?_⟩
  rintro ⟨b,off,h1,h2⟩
  refine ⟨b,off,h1,fun i x hx=>?_⟩
  obtain ⟨es,h3,h4⟩:=h2 i x hx
  exact ⟨es,h3,fun j u hj=>(h4 j u hj).2⟩
 have ofA:∀ F,ArrH F S w v T ys→∃ base cap,v=.slice base ys.length cap∧ys.length≤maxLen∧(ys.length=0∨∃ b off,base=some ⟨b,off,none⟩∧∀ (i:Nat) (x:T.den),ys[i]? = some x→∃ es,Rep S w T x es∧∀ j u,es[j]? = some u→w.cell? ⟨b,off+i*T.size+j,none⟩=some u):=by
  rintro F ⟨base,cap,e1,e2,e3,e4⟩
  refine ⟨base,cap,e1,Nat.le_trans e2 e3,?_⟩
  rcases e4 with ⟨e4,_⟩ | ⟨b,off,h1,_,_,h2⟩
  ·exact .inl (by omega)
  ·exact .inr ⟨b,off,h1,h2⟩
 unfold rdS at h
 split at h
 ·rename_i id
  split at h
  ·rename_i T' xs hlk
   split at h
   ·rename_i xs' hcast
    cases h
    obtain ⟨hT,hxs⟩:=kA hcast
    cases hT
    have hxs:xs=ys:=hxs
    subst hxs
    obtain ⟨F1,_,u,g1,hA⟩:=hi.read hlk
    have:=hm.1
    rw [g1] at this
    cases this
    exact ofA _ hA
   ·cases h
  ·rename_i T' xs hlk
   split at h
   ·rename_i xs' hcast
    cases h
    obtain ⟨F1,_,u,g1,_,hA⟩:=hi.read hlk
    have:=hm.1
    rw [g1] at this
    cases this
    exact ofV (vC hcast hA)
   ·cases h
  ·cases h
 ·rename_i id vid i
  split at h
  ·rename_i T' xss vid' hlk
   split at h
   ·rename_i xss' hcast hb
    obtain ⟨hT,hxs⟩:=kA hcast
    cases hT
    have hxs:xss=xss':=hxs
    subst hxs
    have:=nB hb
    subst this
    have h:=Option.some.inj h
    obtain ⟨_,_,hg⟩:=vB h
    obtain ⟨us0,f1,f2,f3⟩:=hm
    obtain ⟨F1,_,u,us,k1,k2,k3,hA⟩:=hi.read hlk
    rw [f1] at k2
    cases k2
    obtain ⟨b,off,Fi,_,_,hR⟩:=hA.row hg
    have hus:us0.getD i.toNat undef=v:=by simp [aD,f2]
    rw [hus] at hR
    exact ofA _ hR
   ·cases h
  ·cases h
 ·split at h
  ·rename_i ys' hy
   cases h
   exact ofV (jE (HInv.empty hi.inw) hy hm)
  ·cases h
theorem ArrH.over {F:Cells} {u:Value} {T:Ty} {xs ys:List T.den} {news:List Value} (hF:∀ b o,F b o→B≤b∧b<w.heap.size∧¬ S b o) (hin:InLt S w) (h:ArrH F S w u T xs) (hl:ys.length≤xs.length) (h0:0<ys.length)
  (hr:RepL S w T ys news):∃ b off cap,u=.slice (some ⟨b,off,none⟩) xs.length cap∧(∀ m,m<news.length→F b (off+m)∧World.there w b (off+m))∧Grow B S w S (w.setCells b off news)∧ArrH F S (w.setCells b off news) u T (ys++xs.drop ys.length):=by
 obtain ⟨base,cap,rfl,c1,c2,c3⟩:=h
 have hnl:=hr.length
 rcases c3 with ⟨c3,_⟩ | ⟨b,off,rfl,hf,ht,hxs⟩
 ·omega
 have hm:xs.length*T.size≤cap*T.size:=Nat.mul_le_mul_right _ c1
 have hm2:ys.length*T.size≤xs.length*T.size:=Nat.mul_le_mul_right _ hl
 have hin2:∀ m,m<news.length→F b (off+m)∧World.there w b (off+m):=fun m hm=>⟨(hf _ _).2 ⟨rfl,by omega,by omega⟩,ht _ (by omega) (by omega)⟩
 have hpos:0<news.length:=by rw [hnl];exact Nat.mul_pos h0 T.size_pos
 have hst:Grow B S w S (w.setCells b off news):=Grow.stored hin (hF _ _ (hin2 0 hpos).1).1 fun m hm=>(hF _ _ (hin2 m hm).1).2.2
 have hcells:∀ m u,news[m]? = some u→(w.setCells b off news).cell? ⟨b,off+m,none⟩=some u:=fun m u hm=>by
  have hml:=(gS.1 hm).1
  rw [World.cell?_setCells_in b news _ w (fun m hm=>by obtain ⟨_,⟨v,hv⟩,_⟩:=hin2 m hm;rw [hv];rfl) m hml]
  rw [gE hml] at hm
  exact hm
 have hlen:(ys++xs.drop ys.length).length=xs.length:=by simp;omega
 refine ⟨b,off,cap,rfl,hin2,hst,_,cap,by rw [hlen],by omega,c2,.inr ⟨b,off,rfl,hf,fun o h1 h2=>?_,fun m y hm=>?_⟩⟩
 ·obtain ⟨⟨z,hz⟩,hfz⟩:=ht o h1 h2
  refine ⟨?_,by rw [World.frozen?_setCells];exact hfz⟩
  by_cases hio:o<off+news.length
  ·have:=hcells (o-off) _ (gE (by omega))
   rw [show off+(o-off)=o by omega] at this
   exact ⟨_,this⟩
  ·exact ⟨z,by rw [World.cell?_setCells_out b news _ w ⟨b,o,none⟩ fun _ _=>by simp only;omega];exact hz⟩
 ·by_cases hmy:m<ys.length
  ·rw [xL hmy] at hm
   obtain ⟨es,he,hc⟩:=hr.get m y hm
   refine ⟨es,he.keep hst.keep,fun j v hj=>?_⟩
   rw [Nat.add_assoc];exact hcells _ v (hc j v hj)
  ·rw [xR (by omega),List.getElem?_drop,show ys.length+(m-ys.length)=m by omega] at hm
   obtain ⟨es,he,hc⟩:=hxs m y hm
   refine ⟨es,he.keep hst.keep,fun j v hj=>?_⟩
   have hmm:ys.length*T.size≤m*T.size:=Nat.mul_le_mul_right _ (by omega)
   rw [World.cell?_setCells_out b news _ w ⟨b,off+m*T.size+j,none⟩ fun _ _=>by simp only;omega]
   exact hc j v hj
theorem copyR_ok (hΓ:TabOK P Γ) {rd:Option Nat} {o:Oper} {e:Ev} {ctx:Ctx} {t:TypeId} {d s:Operand} {pd ps:PV} {R:RdR} (hop:o.op=.call { callee:=.builtin .copy,args:=#[d,s],argTypes:=#[t,t] }) (hw:Wf e) (hc:CtxH e ctx) (hxd:ev e ctx d=some pd) (hxs:ev e ctx s=some ps)
  (h:copyR Γ t pd ps H nx=some R) (r:R.T) (hr:R.m=some r):R.OK P rd B o e (H,nx) r:=by
 have hd:∀ c,o.op≠.defer c:=by rw [hop];intro c hh;cases hh
 have hm1:d∈o.op.operands.toList:=by rw [hop];simp [Op.operands,Call.operands]
 have hm2:s∈o.op.operands.toList:=by rw [hop];simp [Op.operands,Call.operands]
 unfold copyR at h
 split at h
 ·rename_i el bts T id hel
  have hS:=tA hΓ hel
  split at h
  ·rename_i T' xs' hlk
   split at h
   ·rename_i xs m hcast hm
    cases h
    obtain ⟨hT,hxx⟩:=kA hcast
    cases hT
    have hxx:xs'=xs:=hxx
    subst hxx
    have hm:rdS H T ps=some (some r):=by rw [hm];exact congrArg some hr
    obtain ⟨ys,hys⟩:∃ ys:List T.den,ys=r:=⟨r,rfl⟩
    subst hys
    refine jB rfl hd fun S w η a hi hlen ho=>?_
    obtain ⟨f1,f2⟩:=cA hw hc hxd hm1 ho
    obtain ⟨sb,sc,e1,e2,e3⟩:=rdS_sound hi hm (cA hw hc hxs hm2 ho)
    obtain ⟨F1,hF1,u,k1,hA⟩:=hi.read hlk
    rw [f1] at k1
    cases k1
    obtain ⟨i,z,i1,i2,i3,i4,i5⟩:=hS.info
    have hsz:∀ w,(sizeOf el).run P w=.ok T.size w:=fun w=>by simp [sizeOf,typeInfo,i1,i4]
    obtain ⟨db,dc,hdu,hdm,_⟩:=hA.hdr
    have hval:CM S w η (.d (.int .i64) (min (lenM ys) (lenM xs'):Int)) (goInt (Nat.min ys.length xs'.length)):=by
     refine ⟨rfl,VRep.int.2 ⟨?_,?_⟩⟩
     ·simp only [goInt,lenM]
      congr 1
      rw [show Nat.min ys.length xs'.length=min ys.length xs'.length from rfl]
      omega
     ·rw [bJ];simp only [lenM,maxLen] at *;omega
    by_cases h0:0<min ys.length xs'.length
    ·rcases e3 with e3 | ⟨b2,off2,rfl,hx2⟩
     ·omega
     obtain ⟨news,hrl,hrc⟩:=RepL.of (b:=b2) (off:=off2) (xs:=ys.take xs'.length) (fun i x hx=>hx2 i x (by
      have hil:=(gS.1 hx).1
      simp at hil
      rw [List.getElem?_take_of_lt (by omega)] at hx;exact hx))
     have hnl:=hrl.length
     rw [lT] at hnl
     have hld:(loadCells ⟨b2,off2,none⟩ (Nat.min ys.length xs'.length*T.size)).run P w=.ok news.toArray w:=by
      have:=run_loadCells_list (P:=P) w ⟨b2,off2,none⟩ news fun j v hj=>by rw [Addr.add_lit];exact hrc j v hj
      rwa [hnl,show min xs'.length ys.length=Nat.min ys.length xs'.length from Nat.min_comm _ _] at this
     obtain ⟨b,off,cap,hue,hin,hg,hA'⟩:=ArrH.over hF1 hi.inw hA (ys:=ys.take xs'.length) (by simp;omega) (by simp;omega) hrl
     have hst:(storeCells ⟨b,off,none⟩ news 0).run P w=.ok () (w.setCells b off news):=by
      have:=run_storeCells_cells (P:=P) b off news 0 w (fun j hj=>by
       obtain ⟨_,⟨v,hv⟩,_⟩:=hin j hj
       rw [Nat.add_zero,hv];rfl) (fun j hj=>by rw [Nat.add_zero];exact (hin j hj).2.2) hrl.one
      rwa [Nat.add_zero] at this
     have hrun:(execOp a.eval o).run P w=.ok (.value (goInt (Nat.min ys.length xs'.length))) (w.setCells b off news):=by
      simp [execOp,hop,resolve,invoke,builtin,e1,hue,Builtin.copy_,run_underlying hS.und,Builtin.lenOf,hsz,Builtin.firstCells,hld,hst]
     have hcm:ys.take xs'.length++xs'.drop (ys.take xs'.length).length=gK xs' ys:=by
      unfold gK
      rw [lT]
      by_cases hle:ys.length≤xs'.length
      ·rw [Nat.min_eq_right hle]
      ·rw [Nat.min_eq_left (by omega),List.drop_eq_nil_of_le (nR _),List.drop_eq_nil_of_le (by omega)]
     rw [hcm] at hA'
     refine ⟨_,_,S,η,.inl hrun,hg,.refl _,Out.refl _ _ _,?_,CM.mono hg.keep (.refl _) hval⟩
     show HInv B η ((id,.arr T (gK xs' ys))::H) S _
     refine hi.set hlk (by rw [zA];exact nR _) hg.lt hg.keep fun G hG hAG=>?_
     obtain ⟨u2,q1,hAG⟩:=hAG
     rw [f1] at q1
     cases q1
     obtain ⟨b3,off3,cap3,hu3,hin3,hg3,hA3⟩:=ArrH.over hG hi.inw hAG (ys:=ys.take xs'.length) (by simp;omega) (by simp;omega) hrl
     rw [hue] at hu3
     injection hu3 with q1 q2 q3
     injection q1 with q1
     injection q1 with q4 q5
     subst q4;subst q5
     rw [hcm] at hA3
     have hnpos:0<news.length:=by rw [hnl];exact Nat.mul_pos (by omega) T.size_pos
     refine ⟨fun _ _ h=>.inl h,fun b' o' _ hn=>⟨World.cell?_setCells_out b news off w ⟨b',o',none⟩ fun hb _=>?_,World.frozen?_setCells _ _ _ _ _⟩,fun b' _ hn=>gB b news _ w b' fun h=>hn _ (h▸(hin3 0 hnpos).1),G,⟨_,f1,hA3⟩,fun b o h=>⟨.inl h,by rw [zA];exact (hG b o h).2.1,(hG b o h).2.2⟩⟩
     simp only at hb ⊢
     subst hb
     rcases Nat.lt_or_ge o' off with h | h
     ·exact .inl h
     ·refine .inr (Nat.le_of_not_lt fun hlt=>hn ?_)
      have:=(hin3 (o'-off) (by omega)).1
      rwa [show off+(o'-off)=o' by omega] at this
    ·have hn0:Nat.min ys.length xs'.length=0:=by
      have:min ys.length xs'.length=0:=by omega
      exact this
     have hl0:∀ q,(loadCells q 0).run P w=.ok #[] w:=fun q=>by simpa using run_loadCells_list (P:=P) w q [] (fun j v hj=>by simp at hj)
     have hrun:(execOp a.eval o).run P w=.ok (.value (goInt 0)) w:=by
      cases db<;>cases sb<;>simp [execOp,hop,resolve,invoke,builtin,e1,hdu,Builtin.copy_,run_underlying hS.und,Builtin.lenOf,hsz,Builtin.firstCells,storeCells,hl0,hn0]
     have hcm:gK xs' ys=xs':=by
      unfold gK
      have:ys.length=0∨xs'.length=0:=by omega
      rcases this with h | h
      ·rw [lN h];simp
      ·rw [lN h];simp
     rw [hn0] at hval
     refine ⟨_,_,S,η,.inl hrun,Grow.refl hi.inw,.refl _,Out.refl _ _ _,?_,hval⟩
     show HInv B η ((id,.arr T (gK xs' ys))::H) S w
     rw [hcm]
     exact hi.set hlk (nR _) hi.inw (Keep.refl _ _) fun F2 hF2 hA2=>⟨fun _ _ h=>.inl h,fun _ _ _ _=>⟨rfl,rfl⟩,fun _ _ _=>rfl,F2,hA2,fun b o h=>⟨.inl h,(hF2 b o h).2⟩⟩
   ·cases h
  ·cases h
 ·cases h
theorem opV_sound:OpF.Sound opV:=by
 intro P Γ hΓ rd B o e ctx H nx R h hw hc r hr
 unfold opV at h
 split at h
 ·rename_i c hop
  split at h
  ·rename_i d s t t' hcal hxs hts
   have hce:=gC hcal hxs hts
   subst hce
   split at h
   ·rename_i pd ps hd hs hb
    have:=nB hb
    subst this
    exact copyR_ok hΓ hop hw hc hd hs h r hr
   ·cases h
  ·cases h
 ·cases h
end

def appQ (Γ:Tabs) (t:TypeId) (ps px:PV) (H:PH) (nx:Nat):Option RdR:=match bD Γ t,ps with
 | some (_,bts,T),.r (.c (.q T' (x::xs)))=>match yA (.list T) (t':=.list T') (x::xs),conP [] (.list T) px with
  | some xs,some ys=>some (par (eB bts xs ys) [] (fun zs=>.c (.d (.list T) zs)) H nx)
  | _,_=>none
 | some (_,bts,T),.r (.c (.fu T' xs))=>match yA (.list T) (t':=.list T') xs,conP [] (.list T) px with
  | some xs,some ys=>some (par (eB bts xs ys) [] (fun zs=>.c (.d (.list T) zs)) H nx)
  | _,_=>none
 | _,_=>none
def opW:OpF:=fun Γ o e ctx H nx=>match o.op with
 | .call c=>match c.callee,c.args.toList,c.argTypes.toList with
  | .builtin .append,[s,x],[t,t']=>match ev e ctx s,ev e ctx x,Nat.beq t t' with
   | some ps,some px,true=>appQ Γ t ps px H nx
   | _,_,_=>none
  | _,_,_=>none
 | _=>none
section
variable {P:Program} {Γ:Tabs} {B:Nat} {S:Cells} {w:World} {η:Eta} {H:PH} {nx:Nat}
theorem appFull_ok {rd:Option Nat} {o:Oper} {e:Ev} {ctx:Ctx} {t el:TypeId} {bts:Nat} {T:Ty} {s x:Operand} {px:PV} {xs ys zs:List T.den} {hs':Hl} (hS:SlP P t el T bts) (hop:o.op=.call { callee:=.builtin .append,args:=#[s,x],argTypes:=#[t,t] }) (hw:Wf e) (hc:CtxH e ctx) (hx:ev e ctx x=some px)
  (hsrc:conP [] (.list T) px=some ys) (hs:∀ S w η (a:Act),InW S w→En.Only (lk e) (rA o) S w η a.tmps→VRep S w (.list T) xs (a.eval s)∧∃ base,a.eval s=.slice base xs.length xs.length) (hr:eB bts xs ys=some zs) :
  RdR.OK P rd B o e hs' (par (eB bts xs ys) [] (fun zs=>.c (.d (.list T) zs)) H nx) zs:=by
 have hd:∀ c,o.op≠.defer c:=by rw [hop];intro c hh;cases hh
 have hm2:x∈o.op.operands.toList:=by rw [hop];simp [Op.operands,Call.operands]
 obtain ⟨hb,hzs⟩:=appM_some hr
 show ∀ S w η a,InW S w→En.Only (lk e) (rA o) S w η a.tmps→OpW P rd o a w (fun a' w'=>∃ v S',a'=a.put o.dst v∧Grow w.heap.size S w S' w'∧PM S' w' η (.c (.d (.list T) zs)) v)
 intro S w η a hi ho
 have hv:=jE (HInv.empty hi) hsrc (cA hw hc hx hm2 ho)
 obtain ⟨hq1,base,hq2⟩:=hs S w η a hi ho
 by_cases hy:ys=[]
 ·subst hy
  have hrun:(Builtin.append_ #[t,t] o.type #[a.eval s,a.eval x]).run P w=.ok (a.eval s) w:=by
   obtain ⟨news,hrl,hsrc⟩:=VRep.src (P:=P) hS.und hv
   obtain ⟨i,z,i1,i2,i3,i4,i5⟩:=hS.info
   have hn0:news=[]:=hrl
   subst hn0
   have hl:=hsrc.len w
   simp only [List.length_nil] at hl
   have hc':(Builtin.firstCells T.size 0 (a.eval x)).run P w=.ok #[] w:=hsrc.cells
   rw [hq2]
   rcases hsrc.kind with ⟨e',hk⟩ | hk
   ·simp [Builtin.append_,run_underlying hS.und,sizeOf,typeInfo,i1,i4,hl,hc']
    cases base<;>simp [storeCells]
   ·rw [hS.und] at hk;cases hk
  refine OpW.value hd (uF hop hrun) ⟨_,S,rfl,Grow.refl hi,rfl,?_⟩
  rw [hzs,List.append_nil];exact hq1
 ·have hyl:0<ys.length:=List.length_pos_iff.2 hy
  obtain ⟨base',cap',q1,q2,q3,q4⟩:=VRep.slice hq1
  rw [hq2] at q1
  cases q1
  have hold:∃ olds,RepL S w T xs olds∧(Builtin.firstCells T.size xs.length (.slice base xs.length xs.length)).run P w.drew=.ok olds.toArray w.drew:=by
   rcases q4 with q4 | ⟨b,off,rfl,q4⟩
   ·have:xs=[]:=lN q4
    subst this
    refine ⟨[],rfl,?_⟩
    cases base with
    | none=>rfl
    | some b=>exact run_firstCells_some _ _ _ _ _ _ [] (by simp) (fun j u hj=>by simp at hj)
   ·obtain ⟨cs,hr,hc⟩:=RepL.of (b:=b) (off:=off) (fun i x hx=>by
     obtain ⟨es,he,hg⟩:=q4 i x hx
     exact ⟨es,he,fun j u hj=>(hg j u hj).2⟩)
    refine ⟨cs,hr,run_firstCells_some _ _ _ _ _ _ cs hr.length (fun j u hj=>?_)⟩
    rw [Addr.add_lit];exact hc j u hj
  obtain ⟨olds,hro,hold⟩:=hold
  obtain ⟨cap',cs,hrun,d1,d2,d3,d4,ns,hns,hc⟩:=lJ (ty:=o.type) hS hro hold hv (by omega) hb
  have hk:Keep S w (fun b o=>S b o∨(b=w.heap.size∧o<cs.size)) (w.drew.alloc (.cells cs el)):=⟨fun _ _ h=>.inl h,fun b o h=>by rw [World.cell?_alloc_lt _ _ _ (hi b o h)];rfl⟩
  rw [← hq2] at hrun
  refine OpW.value hd (uF hop hrun) ⟨_,fun b o=>S b o∨(b=w.heap.size∧o<cs.size),rfl,⟨((Below.refl _ _).drew).alloc (nR _) _,hk,?_,?_,(LK.drew _).trans (LK.alloc _ _)⟩,rfl,?_⟩
  ·intro b o h
   rcases h with h | ⟨rfl,_⟩
   ·have:=hi b o h;simp;omega
   ·simp
  ·intro b o h
   rcases h with h | ⟨rfl,_⟩
   ·exact .inl h
   ·exact .inr (nR _)
  ·have hzl:xs.length+ys.length=zs.length:=by rw [hzs,lA]
   rw [← hzs] at hns
   rw [hzl] at d1 ⊢
   refine VRep.mkSlice (hns.keep hk) d1 d2 fun j u hj=>?_
   have hjl:=(aS.1 (hc j u hj)).1
   rw [Nat.zero_add]
   refine ⟨.inr ⟨rfl,hjl⟩,?_⟩
   rw [World.cell?_alloc_at _ _ _ _ (by simp)];exact hc j u hj
theorem appQ_ok (hΓ:TabOK P Γ) {rd:Option Nat} {o:Oper} {e:Ev} {ctx:Ctx} {t:TypeId} {s x:Operand} {ps px:PV} {R:RdR} {hs':Hl} (hop:o.op=.call { callee:=.builtin .append,args:=#[s,x],argTypes:=#[t,t] }) (hw:Wf e) (hc:CtxH e ctx) (hs:ev e ctx s=some ps) (hx:ev e ctx x=some px)
  (h:appQ Γ t ps px H nx=some R) (r:R.T) (hr:R.m=some r):R.OK P rd B o e hs' r:=by
 have hd:∀ c,o.op≠.defer c:=by rw [hop];intro c hh;cases hh
 have hm1:s∈o.op.operands.toList:=by rw [hop];simp [Op.operands,Call.operands]
 have hm2:x∈o.op.operands.toList:=by rw [hop];simp [Op.operands,Call.operands]
 unfold appQ at h
 split at h
 ·rename_i el bts T T' x0 xs0 hel
  have hS:=tA hΓ hel
  split at h
  ·rename_i xs ys hcast hsrc
   cases h
   obtain ⟨hT,hxx⟩:=kA hcast
   cases hT
   have hxx:x0::xs0=xs:=hxx
   subst hxx
   exact appFull_ok hS hop hw hc hx hsrc (fun S w η a hi ho=>cA hw hc hs hm1 ho) hr
  ·cases h
 ·rename_i el bts T T' xs0 hel
  have hS:=tA hΓ hel
  split at h
  ·rename_i xs ys hcast hsrc
   cases h
   obtain ⟨hT,hxx⟩:=kA hcast
   cases hT
   have hxx:xs0=xs:=hxx
   subst hxx
   exact appFull_ok hS hop hw hc hx hsrc (fun S w η a hi ho=>cA hw hc hs hm1 ho) hr
  ·cases h
 ·cases h
theorem opW_sound:OpF.Sound opW:=by
 intro P Γ hΓ rd B o e ctx H nx R h hw hc r hr
 unfold opW at h
 split at h
 ·rename_i c hop
  split at h
  ·rename_i s x t t' hcal hxs hts
   have hce:=gC hcal hxs hts
   subst hce
   split at h
   ·rename_i ps px hs hx hb
    have:=nB hb
    subst this
    exact appQ_ok hΓ hop hw hc hs hx h r hr
   ·cases h
  ·cases h
 ·cases h
end
theorem opW_indep {Γ:Tabs} {H H':PH} {nx:Nat} {e:Ev} {ctx:Ctx} {o:Oper}:opW Γ o e ctx H' nx=opW Γ o e ctx H nx:=rfl
theorem opW_nice:opW.Nice:=⟨fun _ _ _ _ _ _ _ _=>rfl,fun _ _ _ _ _ _ _ h _ _=>h⟩

def cvR (k:TK) (k':TK) (a:PV) (H:PH) (nx:Nat):Option RdR:=match k,k',a with
 | .int _,.int k',.r (.c (.d (.int _) x))=>some (tot (.c (.d (.int k') (k'.wrap x))) H nx)
 | .str,.str,.r (.c (.d .str x))=>some (tot (.c (.d .str x)) H nx)
 | _,_,_=>none
def kB (x y:List UInt8):Bool:=decide (x=y)
def eqD:(t:Ty)→t.den→t.den→Option Bool
 | .int _,x,y=>some (eqM x y)
 | .bool,x,y=>some (eqbM x y)
 | .str,x,y=>some (kB x y)
 | _,_,_=>none
def eqC (t:Ty) (c c':CV):Option Bool:=match c,c' with
 | .d T x,.d T' y=>match yA t (t':=T) x,yA t (t':=T') y with
  | some x,some y=>eqD t x y
  | _,_=>none
 | _,_=>none
def eqCs:List Ty→List CV→List CV→Option Bool
 | [t],[c],[c']=>eqC t c c'
 | t::ks,c::r,c'::r'=>match eqC t c c',eqCs ks r r' with
  | some a,some b=>some (andM a b)
  | _,_=>none
 | _,_,_=>none
def shR (op:BinOp) (k:IntKind) (x y:Int) (H:PH) (nx:Nat):Option RdR:=match op with
 | .shl=>some (par (qI k x y) 0 (fun v:Int=>.c (.d (.int k) v)) H nx)
 | .shr=>some (par (rG k x y) 0 (fun v:Int=>.c (.d (.int k) v)) H nx)
 | _=>none
def seR (Γ:Tabs) (op:BinOp) (t:TypeId) (l l':List CV) (H:PH) (nx:Nat):Option RdR:=match lk Γ.eqs t with
 | some ks=>match eqCs ks l l' with
  | some b=>match op with
   | .eql=>some (tot (.c (.d .bool b)) H nx)
   | .neq=>some (tot (.c (.d .bool (notM b))) H nx)
   | _=>none
  | none=>none
 | none=>none
def op1:OpF:=fun Γ o e ctx H nx=>match o.op with
 | .convert s d x=>match lk Γ.ty s,lk Γ.ty d,ev e ctx x with
  | some ts,some td,some a=>cvR ts.kind td.kind a H nx
  | _,_,_=>none
 | .binOp op t x y _=>match ev e ctx x,ev e ctx y with
  | some (.r (.c (.d (.int k) a))),some (.r (.c (.d (.int _) b)))=>shR op k a b H nx
  | some (.r (.s l)),some (.r (.s l'))=>seR Γ op t l l' H nx
  | _,_=>none
 | _=>none
section
variable {S:Cells} {w:World} {η:Eta}
theorem eqC_sound {t:Ty} {c c':CV} {b:Bool} {v u:Value} (h:eqC t c c'=some b) (hv:CM S w η c v) (hu:CM S w η c' u):kindV t v∧kindV t u∧eqV v u=b:=by
 unfold eqC at h
 split at h
 ·rename_i T x T' y
  split at h
  ·rename_i x' y' hx hy
   obtain ⟨e1,e2⟩:=kA hx
   cases e1
   obtain ⟨e3,e4⟩:=kA hy
   cases e3
   have e2:x=x':=e2
   have e4:y=y':=e4
   subst e2 e4
   cases t with
   | int k =>
    cases h
    obtain ⟨rfl,_⟩:=VRep.int.1 hv.2
    obtain ⟨rfl,_⟩:=VRep.int.1 hu.2
    exact ⟨⟨_,rfl⟩,⟨_,rfl⟩,rfl⟩
   | bool =>
    cases h
    have:=VRep.bool.1 hv.2
    subst this
    have:=VRep.bool.1 hu.2
    subst this
    exact ⟨⟨_,rfl⟩,⟨_,rfl⟩,rfl⟩
   | str =>
    cases h
    obtain ⟨rfl,_⟩:=VRep.str.1 hv.2
    obtain ⟨rfl,_⟩:=VRep.str.1 hu.2
    exact ⟨⟨_,rfl⟩,⟨_,rfl⟩,by simp [eqV,kB]⟩
   | list _=>cases h
   | one _=>cases h
   | pair _ _=>cases h
  ·cases h
 ·cases h
theorem eqCs_sound:∀ {ks:List Ty} {l l':List CV} {b:Bool} {vs us:List Value},eqCs ks l l'=some b→All2 (CM S w η) l vs→All2 (CM S w η) l' us→All2 kindV ks vs∧All2 kindV ks us∧kG vs us=b
 | [],_,_,_,_,_,h,_,_=>by simp [eqCs] at h
 | [t],[],_,_,_,_,h,_,_=>by simp [eqCs] at h
 | [t],_::_,[],_,_,_,h,_,_=>by simp [eqCs] at h
 | [t],[c],[c'],b,_,_,h,.cons h1 .nil,.cons h2 .nil=>by
  obtain ⟨k1,k2,k3⟩:=eqC_sound (t:=t) h h1 h2
  exact ⟨.cons k1 .nil,.cons k2 .nil,k3⟩
 | [t],[c],_::_::_,_,_,_,h,_,_=>by
  unfold eqCs at h
  split at h
  ·rename_i h';simp [eqCs] at h'
  ·cases h
 | [t],_::_::_,_::_,_,_,_,h,_,_=>by
  unfold eqCs at h
  split at h
  ·rename_i h';simp [eqCs] at h'
  ·cases h
 | t::k::ks,[],_,_,_,_,h,_,_=>by simp [eqCs] at h
 | t::k::ks,_::_,[],_,_,_,h,_,_=>by simp [eqCs] at h
 | t::k::ks,c::r,c'::r',b,_,_,h,.cons h1 h2,.cons h3 h4=>by
  unfold eqCs at h
  split at h
  ·rename_i a b' ha hb
   cases h
   obtain ⟨k1,k2,k3⟩:=eqC_sound ha h1 h3
   obtain ⟨g1,g2,g3⟩:=eqCs_sound hb h2 h4
   refine ⟨.cons k1 g1,.cons k2 g2,?_⟩
   cases g1 with
   | cons p1 p2 =>
    cases g2 with
    | cons q1 q2 =>
     show (eqV _ _&&kG _ _)=andM a b'
     rw [k3,g3];rfl
  ·cases h
end
theorem op1_sound:OpF.Sound op1:=by
 intro P Γ hΓ rd B o e ctx H nx R h hw hc r hr
 unfold op1 at h
 split at h
 ·rename_i s d x hop
  have hd:∀ c,o.op≠.defer c:=by rw [hop];intro c hh;cases hh
  have hm:x∈o.op.operands.toList:=by rw [hop];simp [Op.operands]
  split at h
  ·rename_i ts td a hs htd hx
   have ks:=(hΓ.ty s ts hs).kind
   have kd:=(hΓ.ty d td htd).kind
   unfold cvR at h
   split at h
   ·rename_i k1 k2 k0 n e1 e2
    rw [e1] at ks
    rw [e2] at kd
    cases h
    refine ok_tot hd (fun S w η a' hi ho=>?_) r
    have hv:=cA hw hc hx hm ho
    obtain ⟨hv,hk⟩:=PM.int.1 hv
    exact ⟨.int k2 (k2.wrap n),by simp [execOp,hop,convert,ks w,kd w,hv,Conv.intToInt],PM.int.2 ⟨rfl,jC _ _⟩⟩
   ·rename_i xs e1 e2
    rw [e1] at ks
    rw [e2] at kd
    cases h
    refine ok_tot hd (fun S w η a' hi ho=>?_) r
    have hv:=cA hw hc hx hm ho
    obtain ⟨hv1,hk⟩:=VRep.str.1 hv.2
    exact ⟨a'.eval x,by simp [execOp,hop,convert,ks w,kd w,hv1],hv⟩
   ·cases h
  ·cases h
 ·rename_i op t x y z hop
  have hd:∀ c,o.op≠.defer c:=by rw [hop];intro c hh;cases hh
  have hm1:x∈o.op.operands.toList:=by rw [hop];simp [Op.operands]
  have hm2:y∈o.op.operands.toList:=by rw [hop];simp [Op.operands]
  split at h
  ·rename_i k a k' b hx hy
   unfold shR at h
   split at h
   ·cases h
    obtain ⟨r',hr'⟩:∃ r':Int,r'=r:=⟨r,rfl⟩
    subst hr'
    refine ok_par hd fun S w η a' hi ho=>?_
    obtain ⟨hv1,hk1⟩:=PM.int.1 (cA hw hc hx hm1 ho)
    obtain ⟨hv2,hk2⟩:=PM.int.1 (cA hw hc hy hm2 ho)
    have hr2:qI k a b=some r':=hr
    unfold qI at hr2
    split at hr2
    ·cases hr2
    ·rename_i h0
     have h0:=of_decide_eq_false h0
     cases hr2
     exact ⟨.int k (k.wrap (a*2 ^ (min b.toNat k.bits))),by simp [execOp,hop,hv1,hv2,eqGuard,Go.binOp,Op.shift,h0],PM.int.2 ⟨rfl,jC _ _⟩⟩
   ·cases h
    obtain ⟨r',hr'⟩:∃ r':Int,r'=r:=⟨r,rfl⟩
    subst hr'
    refine ok_par hd fun S w η a' hi ho=>?_
    obtain ⟨hv1,hk1⟩:=PM.int.1 (cA hw hc hx hm1 ho)
    obtain ⟨hv2,hk2⟩:=PM.int.1 (cA hw hc hy hm2 ho)
    have hr2:rG k a b=some r':=hr
    unfold rG at hr2
    split at hr2
    ·cases hr2
    ·rename_i h0
     have h0:=of_decide_eq_false h0
     cases hr2
     exact ⟨.int k (a.fdiv (2 ^ (min b.toNat k.bits))),by simp [execOp,hop,hv1,hv2,eqGuard,Go.binOp,Op.shift,h0],PM.int.2 ⟨rfl,fdiv_has _ hk1⟩⟩
   ·cases h
  ·rename_i l l' hx hy
   unfold seR at h
   split at h
   ·rename_i ks hks
    obtain ⟨hg,heq⟩:=hΓ.eqs t ks hks
    split at h
    ·rename_i b hb
     have key:∀ {S w η} {a':Act},En.Only (lk e) (rA o) S w η a'.tmps→∃ vs us:List Value,a'.eval x=.agg vs.toArray∧a'.eval y=.agg us.toArray∧(Op.equalIn 10000 t (.agg vs.toArray) (.agg us.toArray)).run P w=.ok b w:=by
      intro S w η a' ho
      obtain ⟨vs,e1,q1⟩:=cA hw hc hx hm1 ho
      obtain ⟨us,e2,q2⟩:=cA hw hc hy hm2 ho
      obtain ⟨k1,k2,k3⟩:=eqCs_sound hb q1 q2
      refine ⟨vs,us,e1,e2,?_⟩
      rw [heq vs us k1 k2 w,k3]
     split at h
     ·cases h
      refine ok_tot hd (fun S w η a' hi ho=>?_) r
      obtain ⟨vs,us,e1,e2,e3⟩:=key ho
      refine ⟨.bool b,?_,PM.bool.2 rfl⟩
      have e4:=run_eql_struct (P:=P) w t vs.toArray us.toArray
      rw [e3] at e4
      simp [execOp,hop,e1,e2,run_eqGuard_agg w .eql t x y vs.toArray us.toArray hg,e4]
     ·cases h
      refine ok_tot hd (fun S w η a' hi ho=>?_) r
      obtain ⟨vs,us,e1,e2,e3⟩:=key ho
      refine ⟨.bool (notM b),?_,PM.bool.2 rfl⟩
      have e4:=run_neq_struct (P:=P) w t vs.toArray us.toArray
      rw [e3] at e4
      simp [execOp,hop,e1,e2,run_eqGuard_agg w .neq t x y vs.toArray us.toArray hg,e4,notM]
     ·cases h
    ·cases h
   ·cases h
  ·cases h
 ·cases h
theorem op1_indep {Γ:Tabs} {H H':PH} {nx:Nat} {e:Ev} {ctx:Ctx} {o:Oper}:op1 Γ o e ctx H' nx=op1 Γ o e ctx H nx:=rfl
theorem op1_nice:op1.Nice:=⟨fun _ _ _ _ _ _ _ _=>rfl,fun _ _ _ _ _ _ _ h _ _=>h⟩

def lkSo:List SoSpec→Nat→Nat→Option SoSpec
 | [],_,_=>none
 | s::r,f,g=>match Nat.beq s.f f&&Nat.beq s.g g with
  | true=>some s
  | false=>lkSo r f g
theorem lkSo_some:∀ {l:List SoSpec} {f g:Nat} {s:SoSpec},lkSo l f g=some s→s∈l∧s.f=f∧s.g=g
 | [],_,_,_,h=>by cases h
 | x::r,f,g,s,h=>by
  unfold lkSo at h
  split at h
  ·rename_i hb
   cases h
   rw [bA] at hb
   exact ⟨List.mem_cons_self ..,nB hb.1,nB hb.2⟩
  ·obtain ⟨h1,h2⟩:=lkSo_some h
   exact ⟨List.mem_cons_of_mem _ h1,h2⟩
def soR (s:SoSpec) (id:Nat) (H:PH) (nx:Nat):Option RdR:=match lk H id with
 | some (.arr T xs)=>match yA (.list s.t) (t':=.list T) xs with
  | some ys=>some (wr (s.m ys) [] (fun _=>.t []) (fun zs=>[(id,.arr s.t zs)]) nx)
  | none=>none
 | _=>none
def op2:OpF:=fun Γ o e ctx H nx=>match o.op with
 | .call c=>match c.callee,c.args.toList with
  | .value f,[x,k]=>match ev e ctx f,ev e ctx x,ev e ctx k with
   | some (.r (.c (.f fn [] []))),some (.r (.c (.h id))),some (.r (.c (.f g [] [])))=>match lkSo Γ.so fn g with
    | some s=>soR s id H nx
    | none=>none
   | _,_,_=>none
  | _,_=>none
 | _=>none
theorem soR_fl {s:SoSpec} {id:Nat} {H:PH} {nx:Nat} {R:RdR} (h:soR s id H nx=some R):R.fl=2:=by
 unfold soR at h
 split at h
 ·split at h
  ·cases h;rfl
  ·cases h
 ·cases h
theorem op2_fl {Γ:Tabs} {o:Oper} {e:Ev} {ctx:Ctx} {H:PH} {nx:Nat} {R:RdR} (h:op2 Γ o e ctx H nx=some R):R.fl≠0:=by
 unfold op2 at h
 repeat' split at h
 all_goals first | (rw [soR_fl h];decide) | cases h
theorem op2_sound:OpF.Sound op2:=by
 intro P Γ hΓ rd B o e ctx H nx R h hw hc r hr
 unfold op2 at h
 split at h
 ·rename_i c hop
  split at h
  ·rename_i f x k hcal hxs
   split at h
   ·rename_i fn id g hf hx hk
    split at h
    ·rename_i s hs
     obtain ⟨hmem,hsf,hsg⟩:=lkSo_some hs
     obtain ⟨hen,hsp⟩:=hΓ.so s hmem
     have hops:o.op.operands.toList=[f,x,k]:=by simp [hop,Op.operands,Call.operands,hcal,hxs]
     unfold soR at h
     split at h
     ·rename_i T xs hl
      split at h
      ·rename_i ys hys
       cases h
       obtain ⟨hT,hyx⟩:=kA hys
       cases hT
       have hyx:xs=ys:=hyx
       subst hyx
       obtain ⟨zs,hzs⟩:∃ zs:List s.t.den,zs=r:=⟨r,rfl⟩
       subst hzs
       intro S w η a hi hfree ho
       obtain ⟨vf1,vc1,e1,q1,q2⟩:=cA hw hc hf (by rw [hops];simp) ho
       obtain ⟨hu,hone⟩:=cA hw hc hx (by rw [hops];simp) ho
       obtain ⟨vf2,vc2,e2,q3,q4⟩:=cA hw hc hk (by rw [hops];simp) ho
       cases q1;cases q2;cases q3;cases q4
       have hargs:(c.args.map a.eval)=#[a.eval x,.func (.func g) #[] #[]]:=by
        have:c.args=#[x,k]:=by rw [← Array.toList_inj];simpa using hxs
        rw [this];simp [e2]
       have hex:(execOp a.eval o).run P w=.ok (.enter fn #[a.eval x,.func (.func g) #[] #[]]) w:=by
        simp [execOp,hop,resolve,hcal,e1,Deferred.ofValue,invoke,hargs,← hsf,hen]
       refine OpW.enter (by simp [hop]) hex ?_
       obtain ⟨hbase,hinw,F,hdis,hFi,hP⟩:=hi
       obtain ⟨u,hu1,hA⟩:=hP id _ hl
       have hue:u=a.eval x:=by rw [hu1] at hu;exact Option.some.inj hu
       subst hue
       have hcall:=hsp xs zs hr B S (F id) w (a.eval x) hbase hinw (hFi id) hA
       rw [hsf,hsg] at hcall
       have hcl:CallsIn (FR rd) 0 P fn #[a.eval x,.func (.func g) #[] #[]] w _:=callsIn_wide (n:=0) |>.2 hcall
       refine hcl.mono fun en w' ⟨he,g1,g2,g3,g4⟩=>⟨.tuple #[],he,.tuple #[],S,η,rfl,g1,.refl _,Out.refl _ _ _,⟨Nat.le_trans hbase g1.below.size,hinw.of g1,F,hdis,fun i b o hb=>⟨(hFi i b o hb).1,Nat.lt_of_lt_of_le (hFi i b o hb).2.1 g1.below.size,(hFi i b o hb).2.2⟩,fun i po hli=>?_⟩,⟨[],rfl,.nil⟩⟩
       have hli:lk ((id,PO.arr s.t zs)::H) i=some po:=hli
       by_cases hid:i=id
       ·subst hid
        rw [jA] at hli
        cases hli
        exact ⟨_,hu1,g2⟩
       ·rw [wA _ _ (Ne.symm hid)] at hli
        refine (hP i po hli).frame ⟨fun b o hb=>g3 b o (hFi i b o hb).2.1 fun h=>hdis i id hid b o hb h,fun b r0 _ hb hr0=>?_⟩ g1.keep (.refl _)
        rw [g4 b (aS.1 hr0).1 fun o h=>hdis i id hid b o (hb o) h]
        exact hr0
      ·cases h
     ·cases h
    ·cases h
   ·cases h
  ·cases h
 ·cases h
def Tabs.addSo (Γ:Tabs) (s:SoSpec):Tabs:={ Γ with so:=s::Γ.so }
theorem TabOK.addSo {P:Program} {Γ:Tabs} (h:TabOK P Γ) {s:SoSpec} (hs:SortOK P s):TabOK P (Γ.addSo s) :=
 ⟨h.ty,h.fn,h.sp,h.en,h.mixed,fun x hx=>by
  rcases List.mem_cons.1 hx with rfl | hx
  ·exact hs
  ·exact h.so x hx,h.eqs,h.so1,h.mps,h.ow,h.bt,h.ex,h.pp⟩
theorem op2_nice:op2.Nice:=by
 constructor
 ·intro Γ o e ctx H H' nx h
  unfold op2
  split
  ·rename_i c hop
   split
   ·rename_i f x k hcal hxs
    split
    ·rename_i fn id g hf hx hk
     split
     ·rename_i s hs
      have hl:lk H' id=lk H id:=h id ?_
      ·unfold soR
       rw [hl]
      ·have hops:o.op.operands.toList=[f,x,k]:=by simp [hop,Op.operands,Call.operands,hcal,hxs]
       show id∈rB e ctx o.op.operands.toList
       rw [hops]
       simp only [rB,hf,hx,hk]
       simp [PV.ids,RV.ids,CV.ids]
     ·rfl
    ·rfl
   ·rfl
  ·rfl
 ·intro Γ o e ctx H nx R h h0 H'
  exact absurd h0 (op2_fl h)
theorem OpF.Nice.or' {F G:OpF} (hF:F.Nice) (hG:G.Nice) (hd:∀ Γ o e ctx H nx R,G Γ o e ctx H nx=some R→R.fl=0→F Γ o e ctx H nx=none→∀ H',F Γ o e ctx H' nx=none):(F.or G).Nice:=by
 constructor
 ·intro Γ o e ctx H H' nx h
  unfold OpF.or
  rw [hF.loc _ _ _ _ _ _ _ h,hG.loc _ _ _ _ _ _ _ h]
 ·intro Γ o e ctx H nx R h h0 H'
  unfold OpF.or at h ⊢
  split at h
  ·rename_i R' h1
   cases h
   rw [hF.pure0 _ _ _ _ _ _ _ h1 h0 H']
  ·rename_i h1
   rw [hd _ _ _ _ _ _ _ h h0 h1 H']
   exact hG.pure0 _ _ _ _ _ _ _ h h0 H'
section
variable {Γ:Tabs} {H H':PH} {nx:Nat} {e:Ev} {ctx:Ctx} {o:Oper}
theorem rdS_loc {T:Ty} {pv:PV} (h:Ag pv.ids H H'):rdS H' T pv=rdS H T pv:=by
 unfold rdS
 cases pv with
 | r v =>
  cases v with
  | c x=>cases x<;>first | rfl | (have h1:=Ag.one h;simp only [h1])
  | s l=>rfl
 | _=>rfl
theorem copyR_loc {t:TypeId} {pa pv:PV} (h:Ag pa.ids H H') (h2:Ag pv.ids H H'):copyR Γ t pa pv H' nx=copyR Γ t pa pv H nx:=by
 unfold copyR
 generalize bD Γ t=q
 cases q with
 | none=>cases pa<;>first | rfl | (rename_i v;cases v<;>first | rfl | (rename_i x;cases x<;>rfl))
 | some p =>
  cases pa with
  | r v =>
   cases v with
   | c x =>
    cases x<;>first | rfl | skip
    have h1:=Ag.one h
    simp only [h1,rdS_loc h2]
   | s l=>rfl
  | _=>rfl
theorem opV_nice:opV.Nice:=by
 constructor
 ·intro Γ o e ctx H H' nx h
  unfold opV
  split
  ·rename_i c hop
   split
   ·rename_i s x t t' hcal ha ht
    split
    ·rename_i ps px hs hx ht'
     obtain ⟨h1,h2⟩:=kH (by rw [hop];simp [Op.operands,Call.operands,hcal,ha]) hs hx h
     exact copyR_loc h1 h2
    ·rfl
   ·rfl
  ·rfl
 ·intro Γ o e ctx H nx R h h0 H'
  unfold opV at h ⊢
  split at h
  ·split at h
   ·split at h
    ·unfold copyR at h
     (repeat' split at h)<;>first | (cases h;cases h0) | cases h
    ·cases h
   ·cases h
  ·cases h
theorem OPS1_builtin {c:Call} {b:Builtin} {R:RdR} (hb:b=.append∨b=.copy) (hop:o.op=.call c) (hc:c.callee=.builtin b) (h:OPS1 Γ o e ctx H nx=some R):R.fl≠0:=by
 unfold OPS1 xH OpF.or at h
 split at h
 ·rename_i R1 h1
  cases h
  split at h1
  ·rename_i R2 h2
   cases h1
   split at h2
   ·rename_i R3 h3
    cases h2
    unfold OpF.calm at h3
    split at h3
    ·rename_i R4 h4
     unfold opA at h4
     simp only [hop,hc] at h4
     unfold bltA at h4
     rcases hb with rfl | rfl<;>cases h4
    ·cases h3
   ·exact opH1_fl h2
  ·unfold opC at h1
   simp only [hop,hc] at h1
   cases h1
 ·unfold opD at h
  simp only [hop] at h
  cases h
def OPS2:OpF:=opV.or OPS1
theorem OPS2_sound:OPS2.Sound:=opV_sound.or OPS1_sound
theorem OPS2_nice:OPS2.Nice:=by
 refine opV_nice.or' OPS1_nice fun Γ o e ctx H nx R h h0 hn H'=>?_
 unfold opV at hn ⊢
 split
 ·rename_i c hop
  split
  ·rename_i hcal ha ht;exact absurd h0 (OPS1_builtin (.inr rfl) hop hcal h)
  ·rfl
 ·rfl
def OPSw:OpF:=opW.or OPS2
theorem OPSw_sound:OPSw.Sound:=opW_sound.or OPS2_sound
theorem OPSw_nice:OPSw.Nice:=opW_nice.or' OPS2_nice fun Γ o e ctx H nx R h h0 hn H'=>(by rw [opW_indep];exact hn)
def OPSc:OpF:=op1.or OPSw
theorem OPSc_sound:OPSc.Sound:=op1_sound.or OPSw_sound
theorem OPSc_nice:OPSc.Nice:=op1_nice.or' OPSw_nice fun Γ o e ctx H nx R h h0 hn H'=>(by rw [op1_indep];exact hn)
def OPS3:OpF:=OPSc.or op2
theorem OPS3_sound:OPS3.Sound:=OPSc_sound.or op2_sound
theorem OPS3_nice:OPS3.Nice:=OPSc_nice.or' op2_nice fun Γ o e ctx H nx R h h0 hn H'=>absurd h0 (op2_fl h)
end
def dropK {α:Type} (l:List Nat):List (Nat×α)→List (Nat×α)
 | []=>[]
 | (k,v)::r=>match zC l k with
  | true=>dropK l r
  | false=>(k,v)::dropK l r
theorem lk_dropK {α:Type} {l:List Nat} {i:Nat} {x:α}:∀ {sp:List (Nat×α)},lk (dropK l sp) i=some x→lk sp i=some x
 | [],h=>h
 | (k,v)::r,h=>by
  unfold dropK at h
  by_cases hk:k=i
  ·subst hk
   cases hm:zC l k with
   | true =>
    rw [hm] at h
    -- it has been dropped
    have:∀ {sp:List (Nat×α)},lk (dropK l sp) k=none:=by
     intro sp
     induction sp with
     | nil=>rfl
     | cons y ys ih =>
      obtain ⟨j,u⟩:=y
      unfold dropK
      cases hj:zC l j with
      | true=>exact ih
      | false =>
       show lk ((j,u)::dropK l ys) k=none
       rw [wA _ _ (fun he=>by rw [he,hm] at hj;cases hj)]
       exact ih
    rw [this] at h;cases h
   | false=>rw [hm] at h;rw [jA] at h ⊢;exact h
  ·rw [wA _ _ hk]
   cases hm:zC l k with
   | true=>rw [hm] at h;exact lk_dropK h
   | false =>
    rw [hm] at h
    have h:lk ((k,v)::dropK l r) i=some x:=h
    rw [wA _ _ hk] at h
    exact lk_dropK h
def Tabs.drop (Γ:Tabs) (l:List Nat):Tabs:={ Γ with sp:=dropK l Γ.sp }
theorem TabOK.drop {P:Program} {Γ:Tabs} (h:TabOK P Γ) (l:List Nat):TabOK P (Γ.drop l) :=
 ⟨h.ty,h.fn,fun f s hl=>h.sp f s (lk_dropK hl),fun f s hl=>h.en f s (lk_dropK hl),h.mixed,h.so,h.eqs,h.so1,h.mps,h.ow,h.bt,h.ex,h.pp⟩

def oH (t:Ty):List CV→Option (List t.den)
 | []=>some []
 | .d t' x::r=>match yA t (t':=t') x,oH t r with
  | some y,some ys=>some (y::ys)
  | _,_=>none
 | _=>none
def headTy:List CV→Option Ty
 | .d t _::_=>some t
 | _=>none
def tupOf:CV→List CV→Option ((t:Ty)×t.den)
 | .d t x,[]=>some ⟨t,x⟩
 | .d t x,c::r=>match tupOf c r with
  | some ⟨t',y⟩=>some ⟨.pair t t',(x,y)⟩
  | none=>none
 | _,_=>none
def tupCV:List CV→Option ((t:Ty)×t.den)
 | []=>none
 | [.d t x]=>some ⟨.one t,x⟩
 | c::d::r=>tupOf c (d::r)
 | _=>none
def fvOf4:PV→Option FV
 | .r (.s l)=>match tupCV l with
  | some ⟨t,x⟩=>match t.agg with
   | true=>some (.d t x)
   | false=>none
  | none=>none
 | pv=>fvOf pv
def fvs4 (e:Ev) (ctx:Ctx):List Operand→Option (List FV)
 | []=>some []
 | x::r=>match ev e ctx x with
  | some pv=>match fvOf4 pv,fvs4 e ctx r with
   | some f,some l=>some (f::l)
   | _,_=>none
  | none=>none
def putM {α:Type} (xs:List α) (i:Int) (ys:List α):Option (List α):=match decide (0≤i),decide (i+ys.length≤xs.length) with
 | true,true=>some (xs.take i.toNat++(ys++xs.drop (i.toNat+ys.length)))
 | _,_=>none
def alF (Γ:Tabs) (dst:Option Nat) (t:TypeId) (H:PH) (nx:Nat):Option RdR:=match lk Γ.ty t with
 | some ti=>match isFlat Γ dst ti,headTy ti.zero with
  | true,some T=>match T.agg,oH T ti.zero with
   | false,some xs=>some (wn (some ()) () (fun _=>.c (.p nx 0)) (fun _=>.flat xs.length T xs) H nx)
   | _,_=>none
  | _,_=>none
 | none=>none
def eJ (pv:PV):Option (Nat×Int):=match pv with
 | .r (.c (.p id k))=>some (id,(k:Int))
 | .xp id j=>some (id,j)
 | _=>none
def wholeP (pv:PV):Bool:=match pv with
 | .r (.c (.p _ k))=>Nat.beq k 0
 | _=>false
def ldF (Γ:Tabs) (t:TypeId) (pv:PV) (H:PH) (nx:Nat):Option RdR:=match lk Γ.ty t with
 | some ti=>match pv with
  | .ep id sz i k=>match lk H id with
   | some (.cel n l)=>match cutR ti l (i.toNat*sz+k) with
    | some r=>some (rdu (.r r) H nx)
    | none=>none
   | _=>none
  | _=>match eJ pv with
   | some (id,j)=>match lk H id with
    | some (.flat n T xs)=>match ti.agg with
     | false=>some (rdr (gA xs j) T.dflt (fun x=>.c (.d T x)) H nx)
     | true=>match wholeP pv&&Nat.beq ti.size n with
      | true=>some (rdu (.s ((List.range ti.size).map fun k=>.d T (qA xs k T.dflt))) H nx)
      | false=>some (rdr (pA xs j (j+ti.size)) [] (fun ys=>.s ((List.range ti.size).map fun k=>.d T (qA ys k T.dflt))) H nx)
    | _=>none
   | none=>none
 | none=>none
def stF (Γ:Tabs) (t:TypeId) (pa pv:PV) (H:PH) (nx:Nat):Option RdR:=match lk Γ.ty t,eJ pa with
 | some ti,some (id,j)=>match lk H id,pv with
  | some (.flat n T xs),.r (.c c)=>match oH T [c],Nat.beq ti.size 1 with
   | some [y],true=>some (wr (wE xs j fun _=>some y) xs (fun _=>.any) (fun xs'=>[(id,.flat n T xs')]) nx)
   | _,_=>none
  | some (.flat n T xs),.r (.s l)=>match oH T l with
   | some ys=>match Nat.beq ys.length ti.size with
    | true=>match wholeP pa&&Nat.beq ti.size n with
     | true=>some (wr (some ()) () (fun _=>.any) (fun _=>[(id,.flat n T ys)]) nx)
     | false=>some (wr (putM xs j ys) xs (fun _=>.any) (fun xs'=>[(id,.flat n T xs')]) nx)
    | false=>none
   | none=>none
  | _,_=>none
 | _,_=>none
def ixF (Γ:Tabs) (t:TypeId) (pv ix:PV) (H:PH) (nx:Nat):Option RdR:=match ix,lk Γ.ty t with
 | .r (.c (.d (.int k) i)),some ti=>match ti.kind with
  | .array n el=>match lk Γ.ty el with
   | some te=>match pv with
    | .r (.c (.p id off))=>match lk H id with
     | some (.flat _ T xs)=>some (rdr (oA i n) () (fun _=>.xp id ((off:Int)+i*te.size)) H nx)
     | some (.box l)=>some (rdr (oA i n) () (fun _=>.c (.p id (off+i.toNat*te.size))) H nx)
     | _=>none
    | .xp id j=>some (rdr (oA i n) () (fun _=>.xp id (j+i*te.size)) H nx)
    | _=>none
   | none=>none
  | .slice el _=>match lk Γ.ty el,pv with
   | some te,.r (.c (.h id))=>match lk H id with
    | some (.cel n l)=>some (rdr (oA i n) () (fun _=>.ep id te.size i 0) H nx)
    | _=>none
   | _,_=>none
  | _=>none
 | _,_=>none
def nilR (Γ:Tabs) (op:BinOp) (t:TypeId) (a b:PV) (H:PH) (nx:Nat):Option RdR:=match a,b,lk Γ.ty t with
 | .r (.c (.d (.list T) xs)),.r (.c (.l .nilS)),some ti=>match ti.kind,op with
  | .slice _ _,.eql=>some (rdu (.c (.nt true T xs)) H nx)
  | .slice _ _,.neq=>some (rdu (.c (.nt false T xs)) H nx)
  | _,_=>none
 | _,_,_=>none
def celsOf (e:Ev) (ctx:Ctx) (sz:Nat):Nat→List (Nat×Operand)→Option (List CV)
 | _,[]=>some []
 | k,(i,op)::r=>match Nat.beq i k,ev e ctx op,celsOf e ctx sz (k+1) r with
  | true,some (.r v),some l=>match Nat.beq v.cells.length sz with
   | true=>some (v.cells++l)
   | false=>none
  | _,_,_=>none
def bsF (Γ:Tabs) (e:Ev) (ctx:Ctx) (t:TypeId) (len:Nat) (parts:List (Nat×Operand)) (H:PH) (nx:Nat):Option RdR:=match lk Γ.ty t with
 | some ti=>match ti.kind with
  | .slice el _=>match lk Γ.ty el with
   | some te=>match te.ty,celsOf e ctx te.size 0 parts,Nat.beq parts.length len&&(Nat.blt 0 len&&(Nat.blt 0 te.size&&Nat.ble (len*te.size) 16777216)) with
    | none,some l,true=>some (wn (some ()) () (fun _=>.c (.h nx)) (fun _=>.cel len l) H nx)
    | _,_,_=>none
   | none=>none
  | _=>none
 | none=>none
def lnF (Γ:Tabs) (t:TypeId) (pv:PV) (H:PH) (nx:Nat):Option RdR:=match pv,lk Γ.ty t with
 | .r (.c (.h id)),some ti=>match ti.kind,lk H id with
  | .slice _ _,some (.cel n l)=>match Nat.ble n 1000000 with
   | true=>some (rdu (.c (.d (.int .i64) (n:Int))) H nx)
   | false=>none
  | _,_=>none
 | _,_=>none
def lkS1:List So1→Nat→Option So1
 | [],_=>none
 | s::r,f=>match Nat.beq s.f f with
  | true=>some s
  | false=>lkS1 r f
theorem lkS1_some:∀ {l:List So1} {f:Nat} {s:So1},lkS1 l f=some s→s∈l∧s.f=f
 | [],_,_,h=>by cases h
 | x::r,f,s,h=>by
  unfold lkS1 at h
  split at h
  ·rename_i hb
   cases h
   exact ⟨List.mem_cons_self ..,nB hb⟩
  ·obtain ⟨h1,h2⟩:=lkS1_some h
   exact ⟨List.mem_cons_of_mem _ h1,h2⟩
def s1R (s:So1) (id:Nat) (H:PH) (nx:Nat):Option RdR:=match lk H id with
 | some (.arr T xs)=>match yA (.list s.t) (t':=.list T) xs,s.ret,Nat.blt id nx with
  | some ys,false,_=>some (wr (s.m ys) [] (fun _=>.t []) (fun zs=>[(id,.arr s.t zs)]) nx)
  | some ys,true,true=>some (wr (s.m ys) [] (fun _=>.c (.h nx)) (fun zs=>[(nx,.arr s.t zs),(id,.gone)]) (nx+1))
  | _,_,_=>none
 | _=>none
def op4:OpF:=fun Γ o e ctx H nx=>match o.op with
 | .alloc t=>alF Γ o.dst t H nx
 | .load t x=>match ev e ctx x with
  | some pv=>ldF Γ t pv H nx
  | none=>none
 | .store t a x=>match ev e ctx a,ev e ctx x with
  | some pa,some pv=>stF Γ t pa pv H nx
  | _,_=>none
 | .indexAddr t x i=>match ev e ctx x,ev e ctx i with
  | some pv,some ix=>ixF Γ t pv ix H nx
  | _,_=>none
 | .binOp op t x y _=>match ev e ctx x,ev e ctx y with
  | some a,some b=>nilR Γ op t a b H nx
  | _,_=>none
 | .buildSlice t len parts=>bsF Γ e ctx t len parts.toList H nx
 | .call c=>match c.callee,c.args.toList,c.argTypes.toList with
  | .builtin .len,[x],[t]=>match ev e ctx x with
   | some pv=>lnF Γ t pv H nx
   | none=>none
  | .value f,[x],_=>match ev e ctx f,ev e ctx x with
   | some (.r (.c (.f fn [] []))),some (.r (.c (.h id)))=>match lkS1 Γ.so1 fn with
    | some s=>s1R s id H nx
    | none=>none
   | _,_=>none
  | _,_,_=>none
 | _=>none

section
variable {P:Program} {Γ:Tabs} {B:Nat} {S:Cells} {w:World} {η:Eta} {H:PH} {nx:Nat}
theorem flatOf_len {t:Ty}:∀ {l:List CV} {xs:List t.den},oH t l=some xs→l.length=xs.length
 | [],_,h=>by cases h;rfl
 | .d t' x::r,xs,h=>by
  unfold oH at h
  split at h
  ·rename_i y ys h1 h2
   cases h
   simp [flatOf_len h2]
  ·cases h
 | .l _::_,_,h=>by cases h
 | .p _ _::_,_,h=>by cases h
 | .h _::_,_,h=>by cases h
 | .f _ _ _::_,_,h=>by cases h
 | .y _::_,_,h=>by cases h
 | .n _ _::_,_,h=>by cases h
 | .q _ _::_,_,h=>by cases h
 | .rw _ _ _::_,_,h=>by cases h
 | .nt _ _ _::_,_,h=>by cases h
 | .sl _ _::_,_,h=>by cases h
 | .fu _ _::_,_,h=>by cases h
 | .any::_,_,h=>by cases h
theorem nE {t:Ty}:∀ {l:List CV} {xs:List t.den} {vs:List Value},oH t l=some xs→All2 (CM S w η) l vs→All2 (fun x v=>t.agg=false∧VRep S w t x v) xs vs
 | [],_,_,h,.nil=>by cases h;exact .nil
 | .d t' x::r,xs,_,h,.cons h1 h2=>by
  unfold oH at h
  split at h
  ·rename_i y ys e1 e2
   cases h
   obtain ⟨he,hx⟩:=kA e1
   cases he
   have hx:x=y:=hx
   subst hx
   exact .cons h1 (nE e2 h2)
  ·cases h
 | .l _::_,_,_,h,_=>by cases h
 | .p _ _::_,_,_,h,_=>by cases h
 | .h _::_,_,_,h,_=>by cases h
 | .f _ _ _::_,_,_,h,_=>by cases h
 | .y _::_,_,_,h,_=>by cases h
 | .n _ _::_,_,_,h,_=>by cases h
 | .q _ _::_,_,_,h,_=>by cases h
 | .rw _ _ _::_,_,_,h,_=>by cases h
 | .nt _ _ _::_,_,_,h,_=>by cases h
 | .sl _ _::_,_,_,h,_=>by cases h
 | .fu _ _::_,_,_,h,_=>by cases h
 | .any::_,_,_,h,_=>by cases h
theorem wholeP_at {pv:PV} {id:Nat} {j:Int} (h:wholeP pv=true) (hat:eJ pv=some (id,j)):j=0:=by
 unfold wholeP at h
 split at h
 ·have:=nB h
  subst this
  simp [eJ] at hat
  exact hat.2.symm
 ·cases h
theorem vE {pv:PV} {id:Nat} {j:Int} {v:Value} (h:eJ pv=some (id,j)) (hp:PM S w η pv v):∃ b,η id=some (.pointer (some ⟨b,0,none⟩))∧0≤j∧v=.pointer (some ⟨b,j.toNat,none⟩):=by
 unfold eJ at h
 split at h
 ·cases h
  obtain ⟨b,h1,h2⟩:=hp
  exact ⟨b,h1,by omega,by rw [h2];simp⟩
 ·cases h;exact hp
 ·cases h
theorem flat_new {k0:Nat} {T:Ty} {xs:List T.den} {cs:List Value} {el:TypeId} (ha:T.agg=false) (hk0:η k0=none) (hi:HInv B η H S w) (hm:All2 (fun x v=>T.agg=false∧VRep S w T x v) xs cs) :
  Grow B S w S (w.alloc (.cells cs.toArray el))∧HInv B (η.add k0 (.pointer (some ⟨w.heap.size,0,none⟩))) ((k0,.flat xs.length T xs)::H) S (w.alloc (.cells cs.toArray el)):=by
 have hk:Keep S w S (w.alloc (.cells cs.toArray el)):=⟨fun _ _ h=>h,fun b o h=>World.cell?_alloc_lt _ _ _ (hi.inw b o h)⟩
 have hin:InLt S (w.alloc (.cells cs.toArray el)):=fun b o h=>by have:=hi.inw b o h;simp;omega
 have hl:=hm.length
 refine ⟨⟨(Below.refl _ _).alloc hi.base _,hk,hin,fun _ _ h=>.inl h,LK.alloc _ _⟩,hi.new hk0 (by simp) hin hk (fun _ _ h=>.inl h) (fun b hb=>Below.heap_alloc _ _ _ hb) (fun b o=>b=w.heap.size∧o<cs.length) ⟨w.heap.size,Eta.add_same _ _ _,rfl,ha,fun b o=>by rw [hl],fun o ho=>⟨⟨cs[o]'(by omega),?_⟩,World.frozen?_alloc_new _ _ _ _⟩,fun i x hx=>?_⟩ fun b o h=>?_⟩
 ·rw [World.cell?_alloc_new];simp [show o<cs.length by omega]
 ·obtain ⟨v,hv,_,hr⟩:=hm.get i x hx
  exact ⟨v,hr.keep hk,by rw [World.cell?_alloc_new];simpa using hv⟩
 ·obtain ⟨rfl,h⟩:=h
  exact ⟨nR _,by simp,fun hs=>absurd (hi.inw _ _ hs) (by omega)⟩
theorem all2_one {T:Ty}:∀ {xs:List T.den} {cs:List Value},All2 (fun x v=>T.agg=false∧VRep S w T x v) xs cs→∀ u∈cs,u.oneCell'=true
 | _,_,.nil,u,hu=>by simp at hu
 | _,_,.cons h1 h2,u,hu=>by
  rcases List.mem_cons.1 hu with rfl | hu
  ·exact VRep.one h1.1 h1.2
  ·exact all2_one h2 u hu
theorem flat_store {id b k n:Nat} {T:Ty} {xs ys:List T.den} {us:List Value} (hi:HInv B η H S w) (hl:lk H id=some (.flat n T xs)) (hb:η id=some (.pointer (some ⟨b,0,none⟩))) (hk:k+ys.length≤xs.length) (hm:All2 (fun x v=>T.agg=false∧VRep S w T x v) ys us) :
  (∀ i,i<us.length→World.there w b (k+i))∧Grow B S w S (w.setCells b k us)∧HInv B η ((id,.flat n T (xs.take k++(ys++xs.drop (k+ys.length))))::H) S (w.setCells b k us):=by
 have hul:=hm.length
 have hone:=all2_one hm
 obtain ⟨F1,hF,hP⟩:=hi.read hl
 obtain ⟨hn,ha,hf,ht0,hcs⟩:=uE hP hb
 have ht:∀ i,i<us.length→World.there w b (k+i):=fun i hi'=>ht0 (k+i) (by omega)
 have hown:∀ i,i<us.length→B≤b∧b<w.heap.size∧¬ S b (k+i):=fun i hi'=>hF b (k+i) ((hf _ _).2 ⟨rfl,by omega⟩)
 by_cases hv0:us.length=0
 ·have:us=[]:=lN hv0
  subst this
  have:ys=[]:=lN hul
  subst this
  refine ⟨ht,Grow.refl hi.inw,?_⟩
  simp only [List.nil_append,List.length_nil,Nat.add_zero,List.take_append_drop]
  refine hi.less fun i po h=>?_
  by_cases h1:i=id
  ·subst h1;rw [jA] at h;rw [hl];exact h
  ·rw [wA _ _ (Ne.symm h1)] at h;exact h
 have hb0:=hown 0 (by omega)
 have hg:Grow B S w S (w.setCells b k us):=Grow.stored hi.inw hb0.1 fun i hi'=>(hown i hi').2.2
 refine ⟨ht,hg,hi.set hl (by rw [zA];exact nR _) hg.lt hg.keep fun F2 hF2 hr=>?_⟩
 obtain ⟨_,_,hf2,ht2,hcs2⟩:=uE hr hb
 have hlen:(xs.take k++(ys++xs.drop (k+ys.length))).length=xs.length:=by simp;omega
 have hin:∀ i,i<us.length→(w.setCells b k us).cell? ⟨b,k+i,none⟩=us[i]? := fun i hi'=>by
  rw [World.cell?_setCells_in b us k w (fun m hm=>by obtain ⟨⟨u,hu⟩,_⟩:=ht m hm;rw [hu];rfl) i hi',gE hi']
 have hout:∀ o,(o<k∨k+us.length≤o)→(w.setCells b k us).cell? ⟨b,o,none⟩=w.cell? ⟨b,o,none⟩:=fun o ho=>World.cell?_setCells_out b us k w ⟨b,o,none⟩ fun _ _=>by simp only;omega
 refine ⟨fun _ _ h=>.inl h,fun b' o hb' hn=>⟨?_,World.frozen?_setCells _ _ _ _ _⟩,fun b' hb' hn=>gB b us k w b' fun h=>?_,F2,⟨b,hb,by rw [hlen];exact hn,ha,fun b' o=>by rw [hf2,hlen],fun o ho=>?_,fun j x hj=>?_⟩,fun b' o h=>⟨.inl h,by rw [zA];exact (hF2 b' o h).2.1,(hF2 b' o h).2.2⟩⟩
 ·refine World.cell?_setCells_out b us k w ⟨b',o,none⟩ fun h _=>?_
  simp only at h ⊢
  subst h
  have:¬ (o<xs.length):=fun h=>hn ((hf2 _ _).2 ⟨rfl,h⟩)
  omega
 ·subst h
  exact hn 0 ((hf2 _ _).2 ⟨rfl,by omega⟩)
 ·rw [hlen] at ho
  obtain ⟨⟨z,hz⟩,hfz⟩:=ht2 o ho
  refine ⟨?_,by rw [World.frozen?_setCells];exact hfz⟩
  by_cases hio:k≤o∧o<k+us.length
  ·have:=hin (o-k) (by omega)
   rw [show k+(o-k)=o by omega,gE (by omega)] at this
   exact ⟨_,this⟩
  ·exact ⟨z,by rw [hout o (by omega)];exact hz⟩
 ·by_cases hjk:j<k
  ·rw [xL (by simp;omega),List.getElem?_take_of_lt hjk] at hj
   obtain ⟨v,hv,hc⟩:=hcs2 j x hj
   exact ⟨v,hv.keep hg.keep,by rw [hout j (.inl hjk)];exact hc⟩
  ·rw [xR (by simp;omega)] at hj
   simp only [lT,Nat.min_eq_left (show k≤xs.length by omega)] at hj
   by_cases hju:j-k<ys.length
   ·rw [xL hju] at hj
    obtain ⟨v,hv,_,hr'⟩:=hm.get _ x hj
    have:=hin (j-k) (by omega)
    rw [show k+(j-k)=j by omega] at this
    exact ⟨v,hr'.keep hg.keep,by rw [this];exact hv⟩
   ·rw [xR (by omega),List.getElem?_drop] at hj
    rw [show k+ys.length+(j-k-ys.length)=j by omega] at hj
    obtain ⟨v,hv,hc⟩:=hcs2 j x hj
    exact ⟨v,hv.keep hg.keep,by rw [hout j (.inr (by omega))];exact hc⟩
theorem alF_ok (hΓ:TabOK P Γ) {rd:Option Nat} {o:Oper} {e:Ev} {t:TypeId} {R:RdR} (hop:o.op=.alloc t) (h:alF Γ o.dst t H nx=some R) (r:R.T):R.OK P rd B o e (H,nx) r:=by
 have hd:∀ c,o.op≠.defer c:=by rw [hop];intro c hh;cases hh
 unfold alF at h
 split at h
 ·rename_i ti hl
  split at h
  ·rename_i T hfl hhd
   split at h
   ·rename_i xs hag hxs
    cases h
    obtain ⟨z,hz1,⟨cs,hz2,hz3⟩,_⟩:=(hΓ.ty _ _ hl).zero
    refine jB rfl hd fun S w η a hi hlen ho=>?_
    have hk0:η nx=none:=hlen nx (nR _) (Nat.lt_succ_self _)
    obtain ⟨g1,g2⟩:=flat_new (el:=t) hag hk0 hi (nE hxs (hz3 S w η))
    refine ⟨.pointer (some ⟨w.heap.size,0,none⟩),_,S,η.add nx (.pointer (some ⟨w.heap.size,0,none⟩)),.inl (by simp [execOp,hop,Instr.alloc,hz1,newVar,newRow,hz2]),g1,.push hk0 _,Out.add _ _ _,?_,?_⟩
    ·show HInv B _ ((nx,.flat xs.length T xs)::H) S _
     exact g2
    ·change ∃ b,_∧_
     exact ⟨w.heap.size,Eta.add_same _ _ _,rfl⟩
   ·cases h
  ·cases h
 ·cases h
theorem ldF_ok (hΓ:TabOK P Γ) {rd:Option Nat} {o:Oper} {e:Ev} {ctx:Ctx} {t:TypeId} {x:Operand} {pv:PV} {R:RdR} (hop:o.op=.load t x) (hw:Wf e) (hc:CtxH e ctx) (hx:ev e ctx x=some pv) (h:ldF Γ t pv H nx=some R) (r:R.T) (hr:R.m=some r):R.OK P rd B o e (H,nx) r:=by
 have hd:∀ c,o.op≠.defer c:=by rw [hop];intro c hh;cases hh
 have hmem:x∈o.op.operands.toList:=by rw [hop];simp [Op.operands]
 unfold ldF at h
 split at h
 ·rename_i ti hl
  split at h
  ·rename_i id sz i k
   split at h
   ·rename_i n l hlk
    split at h
    ·rename_i rv hcut
     cases h
     refine nA rfl hd fun S w η a hi ho=>?_
     obtain ⟨b,o',m,cap,h1,h2⟩:=cA hw hc hx hmem ho
     obtain ⟨F1,_,b',g1,_,_,vs,g4,g5⟩:=hi.read hlk
     rw [h1] at g1
     cases g1
     obtain ⟨v,hv,hm⟩:=load_cut (hΓ.ty _ _ hl) g4 g5 hcut
     rw [Nat.zero_add] at h2
     exact ⟨v,fD hop h2 hv,hm⟩
    ·cases h
   ·cases h
  ·split at h
   ·rename_i id j hat
    split at h
    ·rename_i n T xs hlk
     split at h
     ·rename_i hag
      cases h
      obtain ⟨h0,hlt,hget⟩:=vB hr
      refine nA rfl hd fun S w η a hi ho=>?_
      obtain ⟨b,h1,_,h2⟩:=vE hat (cA hw hc hx hmem ho)
      obtain ⟨F1,_,hP⟩:=hi.read hlk
      obtain ⟨_,ha,_,_,hcs⟩:=uE hP h1
      obtain ⟨v,hv,hcell⟩:=hcs _ _ hget
      have hag':=(hΓ.ty _ _ hl).agg w
      rw [hag] at hag'
      exact ⟨v,fD hop h2 (by simp [loadVar,hag',hcell]),ha,hv⟩
     ·rename_i hag
      split at h
      ·rename_i hwh
       cases h
       simp only [bA] at hwh
       refine nA rfl hd fun S w η a hi ho=>?_
       obtain ⟨b,h1,_,h2⟩:=vE hat (cA hw hc hx hmem ho)
       obtain ⟨F1,_,hP⟩:=hi.read hlk
       have hj:=wholeP_at hwh.1 hat
       subst hj
       obtain ⟨hn,hB⟩:=uE hP h1
       have hnt:=nB hwh.2
       subst hnt
       obtain ⟨v,q1,q2⟩:=flat_load (η:=η) (j:=0) (ys:=xs) (hΓ.ty _ _ hl) hag hB (by unfold pA;simp [← hn])
       exact ⟨v,fD hop h2 q1,q2⟩
      ·cases h
       obtain ⟨ys,hys⟩:∃ ys:List T.den,ys=r:=⟨r,rfl⟩
       subst hys
       have hr':pA xs j (j+ti.size)=some ys:=hr
       refine nA rfl hd fun S w η a hi ho=>?_
       obtain ⟨b,h1,_,h2⟩:=vE hat (cA hw hc hx hmem ho)
       obtain ⟨F1,_,hP⟩:=hi.read hlk
       obtain ⟨v,q1,q2⟩:=flat_load (η:=η) (hΓ.ty _ _ hl) hag (uE hP h1).2 hr'
       exact ⟨v,fD hop h2 q1,q2⟩
    ·cases h
   ·cases h
 ·cases h
theorem put_of {T:Type} {xs ys zs:List T} {j:Int} (h:putM xs j ys=some zs):0≤j∧j.toNat+ys.length≤xs.length∧zs=xs.take j.toNat++(ys++xs.drop (j.toNat+ys.length)):=by
 unfold putM at h
 split at h
 ·rename_i h1 h2
  cases h
  have h1:=oD h1
  have h2:=oD h2
  exact ⟨h1,by omega,rfl⟩
 ·cases h
theorem stF_ok (hΓ:TabOK P Γ) {rd:Option Nat} {o:Oper} {e:Ev} {ctx:Ctx} {t:TypeId} {xa xv:Operand} {pa pv:PV} {R:RdR} (hop:o.op=.store t xa xv) (hw:Wf e) (hc:CtxH e ctx) (hxa:ev e ctx xa=some pa) (hxv:ev e ctx xv=some pv) (h:stF Γ t pa pv H nx=some R) (r:R.T) (hr:R.m=some r) :
  R.OK P rd B o e (H,nx) r:=by
 have hd:∀ c,o.op≠.defer c:=by rw [hop];intro c hh;cases hh
 have hm1:xa∈o.op.operands.toList:=by rw [hop];simp [Op.operands]
 have hm2:xv∈o.op.operands.toList:=by rw [hop];simp [Op.operands]
 have key:∀ {T:Ty} {xs ys:List T.den} {id n:Nat} {j:Int} {ti:TI},lk Γ.ty t=some ti→eJ pa=some (id,j)→lk H id=some (.flat n T xs)→ys.length=ti.size→j.toNat+ys.length≤xs.length →
   (∀ S w η (a:Act),HInv B η H S w→En.Only (lk e) (rA o) S w η a.tmps→∃ us:List Value,(a.eval xv).cells=us.toArray∧All2 (fun x v=>T.agg=false∧VRep S w T x v) ys us) →
   ∀ S w η (a:Act),HInv B η H S w→En.Only (lk e) (rA o) S w η a.tmps→∃ w',(execOp a.eval o).run P w=.ok .skip w'∧Grow B S w S w'∧HInv B η ((id,.flat n T (xs.take j.toNat++(ys++xs.drop (j.toNat+ys.length))))::H) S w':=by
  intro T xs ys id n j ti hl hat hlk hyl hle hv S w η a hi ho
  obtain ⟨b,h1,_,h2⟩:=vE hat (cA hw hc hxa hm1 ho)
  obtain ⟨us,g1,g2⟩:=hv S w η a hi ho
  obtain ⟨q1,q2,q3⟩:=flat_store hi hlk h1 hle g2
  exact ⟨_,run_storeV (v:=a.eval xv) (hΓ.ty _ _ hl) hop h2 g1 (by rw [← g2.length];exact hyl) (all2_one g2) q1,q2,q3⟩
 unfold stF at h
 split at h
 ·rename_i ti id j hl hat
  split at h
  ·rename_i n T xs c hlk
   split at h
   ·rename_i y hy hsz
    cases h
    have hsz:=nB hsz
    obtain ⟨zs,hzs⟩:∃ zs:List T.den,zs=r:=⟨r,rfl⟩
    subst hzs
    have hr':wE xs j (fun _=>some y)=some zs:=hr
    unfold wE at hr'
    split at hr'
    ·rename_i x0 hix
     have hz:=Option.some.inj hr'
     obtain ⟨h0,hlt,_⟩:=vB hix
     have hlt':j.toNat<xs.length:=by omega
     have hset:xs.set j.toNat y=xs.take j.toNat++([y]++xs.drop (j.toNat+1)):=by
      rw [List.set_eq_take_append_cons_drop,if_pos hlt'];rfl
     refine jB rfl hd fun S w η a hi hlen ho=>?_
     obtain ⟨w',k1,k2,k3⟩:=key (ys:=[y]) hl hat hlk (by rw [hsz];rfl) (by simp;omega) (fun S w η a hi ho=>by
      have hm:=cA hw hc hxv hm2 ho
      exact ⟨[a.eval xv],one_cells (CM.one hm),nE hy (.cons hm .nil)⟩) S w η a hi ho
     refine ⟨undef,w',S,η,.inr ⟨k1,rfl⟩,k2,.refl _,Out.refl _ _ _,?_,trivial⟩
     show HInv B η ((id,.flat n T zs)::H) S w'
     rw [← hz,hset];exact k3
    ·cases hr'
   ·cases h
  ·rename_i n T xs l hlk
   split at h
   ·rename_i ys hy
    split at h
    ·rename_i hsz
     have hsz:=nB hsz
     split at h
     ·rename_i hwh
      cases h
      simp only [bA] at hwh
      have hj:=wholeP_at hwh.1 hat
      subst hj
      have hnt:=nB hwh.2
      refine jB rfl hd fun S w η a hi hlen ho=>?_
      have hxl:xs.length=n:=by
       obtain ⟨b,h1,_,h2⟩:=vE hat (cA hw hc hxa hm1 ho)
       obtain ⟨F1,_,hP⟩:=hi.read hlk
       exact (uE hP h1).1
      obtain ⟨w',k1,k2,k3⟩:=key (ys:=ys) hl hat hlk hsz (by simp;omega) (fun S w η a hi ho=>by
       obtain ⟨vs,g1,g2⟩:=cA hw hc hxv hm2 ho
       exact ⟨vs,by rw [g1];simp [Value.cells],nE hy g2⟩) S w η a hi ho
      refine ⟨undef,w',S,η,.inr ⟨k1,rfl⟩,k2,.refl _,Out.refl _ _ _,?_,trivial⟩
      show HInv B η ((id,.flat n T ys)::H) S w'
      have e:xs.take (0:Int).toNat++(ys++xs.drop ((0:Int).toNat+ys.length))=ys:=by
       simp;omega
      rw [e] at k3;exact k3
     cases h
     obtain ⟨zs,hzs⟩:∃ zs:List T.den,zs=r:=⟨r,rfl⟩
     subst hzs
     obtain ⟨p1,p2,p3⟩:=put_of hr
     refine jB rfl hd fun S w η a hi hlen ho=>?_
     obtain ⟨w',k1,k2,k3⟩:=key (ys:=ys) hl hat hlk hsz p2 (fun S w η a hi ho=>by
      obtain ⟨vs,g1,g2⟩:=cA hw hc hxv hm2 ho
      exact ⟨vs,by rw [g1];simp [Value.cells],nE hy g2⟩) S w η a hi ho
     refine ⟨undef,w',S,η,.inr ⟨k1,rfl⟩,k2,.refl _,Out.refl _ _ _,?_,trivial⟩
     show HInv B η ((id,.flat n T zs)::H) S w'
     rw [p3];exact k3
    ·cases h
   ·cases h
  ·cases h
 ·cases h
theorem run_ixArr {o:Oper} {a:Act} {t el:TypeId} {x i:Operand} {b off n sz:Nat} {k:IntKind} {m:Int} (hop:o.op=.indexAddr t x i) (hu:(underlying t).run P w=.ok (.array n el) w) (hs:(Go.sizeOf el).run P w=.ok sz w) (hx:a.eval x=.pointer (some ⟨b,off,none⟩)) (hi:a.eval i=.int k m)
  (h0:0≤m) (h1:m<n):(execOp a.eval o).run P w=.ok (.value (.pointer (some ⟨b,off+m.toNat*sz,none⟩))) w:=by
 simp [execOp,hop,hx,hi,Instr.indexAt,Instr.sureAddr,asIntOf,hu,hs,h0,h1,Addr.add_lit]
theorem wG {i n:Int} {r:Unit} (h:oA i n=some r):0≤i∧i<n:=by
 unfold oA at h
 split at h
 ·rename_i h1 h2;exact ⟨oD h1,oD h2⟩
 ·cases h
theorem ixF_ok (hΓ:TabOK P Γ) {rd:Option Nat} {o:Oper} {e:Ev} {ctx:Ctx} {t:TypeId} {x i:Operand} {pv ix:PV} {R:RdR} (hop:o.op=.indexAddr t x i) (hw:Wf e) (hc:CtxH e ctx) (hx:ev e ctx x=some pv) (hi:ev e ctx i=some ix) (h:ixF Γ t pv ix H nx=some R) (r:R.T) (hr:R.m=some r) :
  R.OK P rd B o e (H,nx) r:=by
 have hd:∀ c,o.op≠.defer c:=by rw [hop];intro c hh;cases hh
 have hm1:x∈o.op.operands.toList:=by rw [hop];simp [Op.operands]
 have hm2:i∈o.op.operands.toList:=by rw [hop];simp [Op.operands]
 unfold ixF at h
 split at h
 ·rename_i k m ti hl
  split at h
  ·rename_i n el hk
   have hkd:=(hΓ.ty _ _ hl).kind
   rw [hk] at hkd
   split at h
   ·rename_i te hte
    have hse:=(hΓ.ty _ _ hte).size
    have hcast:∀ off:Nat,0≤m→((off:Int)+m*te.size).toNat=off+m.toNat*te.size:=fun off h0=>by
     obtain ⟨q,rfl⟩:=Int.eq_ofNat_of_zero_le h0
     rw [← Int.natCast_mul,← Int.natCast_add,Int.toNat_natCast];rfl
    have hpos:∀ j:Int,0≤j→0≤m→0≤j+m*te.size:=fun j hj h0=>by
     exact Int.add_nonneg hj (Int.mul_nonneg h0 (Int.natCast_nonneg _))
    split at h
    ·rename_i id off
     split at h
     ·rename_i T xs hlk
      cases h
      obtain ⟨h0,h1⟩:=wG hr
      refine nA rfl hd fun S w η a hiv ho=>?_
      obtain ⟨b,g1,g2⟩:=cA hw hc hx hm1 ho
      obtain ⟨f1,_⟩:=PM.int.1 (cA hw hc hi hm2 ho)
      exact ⟨_,run_ixArr hop (hkd w) (hse w) g2 f1 h0 h1,b,g1,hpos _ (by omega) h0,by rw [hcast off h0]⟩
     ·rename_i l hlk
      cases h
      obtain ⟨h0,h1⟩:=wG hr
      refine nA rfl hd fun S w η a hiv ho=>?_
      obtain ⟨b,g1,g2⟩:=cA hw hc hx hm1 ho
      obtain ⟨f1,_⟩:=PM.int.1 (cA hw hc hi hm2 ho)
      exact ⟨_,run_ixArr hop (hkd w) (hse w) g2 f1 h0 h1,b,g1,rfl⟩
     ·cases h
    ·rename_i id j
     cases h
     obtain ⟨h0,h1⟩:=wG hr
     refine nA rfl hd fun S w η a hiv ho=>?_
     obtain ⟨b,g1,gj,g2⟩:=cA hw hc hx hm1 ho
     obtain ⟨f1,_⟩:=PM.int.1 (cA hw hc hi hm2 ho)
     refine ⟨_,run_ixArr hop (hkd w) (hse w) g2 f1 h0 h1,b,g1,hpos _ gj h0,?_⟩
     have:=hcast j.toNat h0
     rw [show ((j.toNat:Nat):Int)=j by omega] at this
     rw [this]
    ·cases h
   ·cases h
  ·rename_i el bts hk
   have hkd:=(hΓ.ty _ _ hl).kind
   rw [hk] at hkd
   split at h
   ·rename_i te id hte
    have hse:=(hΓ.ty _ _ hte).size
    split at h
    ·rename_i n l hlk
     cases h
     obtain ⟨h0,h1⟩:=wG hr
     refine nA rfl hd fun S w η a hiv ho=>?_
     obtain ⟨g1,_⟩:=cA hw hc hx hm1 ho
     obtain ⟨f1,_⟩:=PM.int.1 (cA hw hc hi hm2 ho)
     obtain ⟨F1,_,b,e1,_⟩:=hiv.read hlk
     have e2:=g1
     rw [e1] at e2
     have e3:=Option.some.inj e2
     exact ⟨_,sJ hop (run_underlying hkd.1 _) (hse w) e3.symm f1 h0 h1,b,0,n,n,e1,rfl⟩
    ·cases h
   ·cases h
  ·cases h
 ·cases h
theorem nilR_ok (hΓ:TabOK P Γ) {rd:Option Nat} {o:Oper} {e:Ev} {ctx:Ctx} {op:BinOp} {t t':TypeId} {x y:Operand} {a0 b0:PV} {R:RdR} (hop:o.op=.binOp op t x y t') (hw:Wf e) (hc:CtxH e ctx) (hx:ev e ctx x=some a0) (hy:ev e ctx y=some b0) (h:nilR Γ op t a0 b0 H nx=some R) (r:R.T) (hr:R.m=some r) :
  R.OK P rd B o e (H,nx) r:=by
 have hd:∀ c,o.op≠.defer c:=by rw [hop];intro c hh;cases hh
 have hm1:x∈o.op.operands.toList:=by rw [hop];simp [Op.operands]
 have hm2:y∈o.op.operands.toList:=by rw [hop];simp [Op.operands]
 unfold nilR at h
 split at h
 ·rename_i T xs ti hl
  have key:∀ S w η (a:Act),En.Only (lk e) (rA o) S w η a.tmps→(∃ el bts,ti.kind=.slice el bts)→∃ b:Bool,(Go.binOp .eql t (a.eval x) (a.eval y)).run P w=.ok (.bool b) w∧(Go.binOp .neq t (a.eval x) (a.eval y)).run P w=.ok (.bool !b) w∧(∀ op,(eqGuard op t x y (a.eval x) (a.eval y)).run P w=.ok () w)∧(b=true→xs=[]):=by
   rintro S w η a ho ⟨el,bts,hk⟩
   have hkd:=(hΓ.ty _ _ hl).kind
   rw [hk] at hkd
   have hkk:=run_underlying hkd.1 (w:=w)
   obtain ⟨_,hv⟩:=cA hw hc hx hm1 ho
   have e2:a.eval y=.slice none 0 0:=cA hw hc hy hm2 ho
   obtain ⟨base,cap,e1,h1,h2,h3⟩:=VRep.slice hv
   rw [e1,e2]
   have:=iE (P:=P) (w:=w) (t:=t) rfl rfl (sF (d:=9999) (a:=base) (n:=xs.length) (c:=cap) hkk)
   refine ⟨_,this.1,this.2,fun op=>fJ rfl rfl (by intro h;cases h),fun hb=>?_⟩
   rcases h3 with h3 | ⟨b,off,rfl,_⟩
   ·exact lN h3
   ·simp at hb
  split at h
  ·rename_i el bts hk
   cases h
   refine nA rfl hd fun S w η a hiv ho=>?_
   obtain ⟨b,k1,k2,k3,k4⟩:=key S w η a ho ⟨el,bts,hk⟩
   have h1:(do eqGuard .eql t x y (a.eval x) (a.eval y);Go.binOp .eql t (a.eval x) (a.eval y):Sem Value).run P w=.ok (.bool b) w:=by simp [k3,k1]
   exact ⟨.bool b,by simp only [execOp,hop];simp only [Sem.run_bind] at h1 ⊢;rw [h1];rfl,b,rfl,k4⟩
  ·rename_i el bts hk
   cases h
   refine nA rfl hd fun S w η a hiv ho=>?_
   obtain ⟨b,k1,k2,k3,k4⟩:=key S w η a ho ⟨el,bts,hk⟩
   have h1:(do eqGuard .neq t x y (a.eval x) (a.eval y);Go.binOp .neq t (a.eval x) (a.eval y):Sem Value).run P w=.ok (.bool !b) w:=by simp [k3,k2]
   refine ⟨.bool (!b),by simp only [execOp,hop];simp only [Sem.run_bind] at h1 ⊢;rw [h1];rfl,!b,rfl,fun h=>k4 ?_⟩
   cases b<;>simp_all
  ·cases h
 ·cases h
theorem celsOf_len {e:Ev} {ctx:Ctx} {sz:Nat}:∀ {parts:List (Nat×Operand)} {k:Nat} {l:List CV},celsOf e ctx sz k parts=some l→l.length=parts.length*sz
 | [],_,_,h=>by cases h;simp
 | (i,op)::r,k,l,h=>by
  unfold celsOf at h
  split at h
  ·rename_i v l' _ _ h2
   split at h
   ·rename_i hb
    cases h
    have hb:=nB hb
    rw [lA,celsOf_len h2,hb,List.length_cons,Nat.add_mul];omega
   ·cases h
  ·cases h
theorem rv_cells {v:RV} {u:Value} (h:RM S w η v u):∃ us:List Value,u.cells=us.toArray∧All2 (CM S w η) v.cells us:=by
 cases v with
 | c x=>exact ⟨[u],one_cells (CM.one h),.cons h .nil⟩
 | s l =>
  obtain ⟨vs,h1,h2⟩:=h
  exact ⟨vs,by rw [h1];simp [Value.cells],h2⟩
theorem cels_run {o:Oper} {e:Ev} {ctx:Ctx} {a:Act} {sz:Nat} (hw:Wf e) (hc:CtxH e ctx) (ho:En.Only (lk e) (rA o) S w η a.tmps):∀ {parts:List (Nat×Operand)} {k:Nat} {l:List CV} {cs zs:List Value},celsOf e ctx sz k parts=some l→(∀ p∈parts,p.2∈o.op.operands.toList)→cs.length=k*sz→zs.length=parts.length*sz →
  ∃ ds,Instr.fill (fun i=>some (i*sz,sz)) (cs++zs).toArray (parts.map fun p=>(p.1,a.eval p.2))=some (cs++ds).toArray∧All2 (CM S w η) l ds
 | [],k,l,cs,zs,h,_,hk,hz=>by
  cases h
  have:zs=[]:=lN (by simpa using hz)
  subst this
  exact ⟨[],by simp [Instr.fill],.nil⟩
 | (i,op)::r,k,l,cs,zs,h,hm,hk,hz=>by
  unfold celsOf at h
  split at h
  ·rename_i v l' hb hpv hrest
   split at h
   ·rename_i hsz
    cases h
    have hb:=nB hb
    have hsz:=nB hsz
    subst hb
    obtain ⟨us,h1,h2⟩:=rv_cells (cA hw hc hpv (hm (i,op) (by simp)) ho)
    have hul:us.length=sz:=by rw [← h2.length];exact hsz
    have hz':zs.length=sz+r.length*sz:=by rw [hz,List.length_cons,Nat.add_mul];omega
    have hzs:zs=zs.take sz++zs.drop sz:=(List.take_append_drop _ _).symm
    rw [List.map_cons,hzs,fill_one (off:=i*sz) (by rw [hul]) h1 hk (by rw [hul];simp;omega),← aA]
    obtain ⟨ds,g1,g2⟩:=cels_run hw hc ho (k:=i+1) (cs:=cs++us) (zs:=zs.drop sz) hrest (fun p hp=>hm p (by simp [hp])) (by rw [lA,hk,hul,Nat.add_mul];omega) (by simp;omega)
    exact ⟨us++ds,by rw [g1,aA],h2.append g2⟩
   ·cases h
  ·cases h
theorem bsF_ok (hΓ:TabOK P Γ) {rd:Option Nat} {o:Oper} {e:Ev} {ctx:Ctx} {t:TypeId} {len:Nat} {parts:Array (Nat×Operand)} {R:RdR} (hop:o.op=.buildSlice t len parts) (hw:Wf e) (hc:CtxH e ctx) (h:bsF Γ e ctx t len parts.toList H nx=some R) (r:R.T):R.OK P rd B o e (H,nx) r:=by
 have hd:∀ c,o.op≠.defer c:=by rw [hop];intro c hh;cases hh
 unfold bsF at h
 split at h
 ·rename_i ti hl
  split at h
  ·rename_i el bts hk
   have hkd:=(hΓ.ty _ _ hl).kind
   rw [hk] at hkd
   obtain ⟨hu,_,i,z,i1,i2,i3,i4,i5⟩:=hkd
   split at h
   ·rename_i te hte
    split at h
    ·rename_i l hnone hl2 hb
     cases h
     simp only [bA] at hb
     obtain ⟨b1,b2,b3,b4⟩:=hb
     have b1:=nB b1
     have b2:0<len:=nL b2
     have b3:0<te.size:=nL b3
     have b4:=nL b4
     refine jB rfl hd fun S w η a hi hlen ho=>?_
     have hk0:η nx=none:=hlen nx (nR _) (Nat.lt_succ_self _)
     have hse:=(hΓ.ty _ _ hte).size w
     have hisz:i.size=te.size:=by have:=(i5 w).symm.trans hse;injection this
     have hze:=i4 w
     have hzl:((Array.range (len*te.size)).map (fun x=>z.cells[x % z.cells.size]!)).toList.length=parts.toList.length*te.size:=by simp [b1]
     obtain ⟨ds,h1,h2⟩:=cels_run (a:=a) hw hc ho (k:=0) (cs:=[]) (zs:=((Array.range (len*te.size)).map (fun x=>z.cells[x % z.cells.size]!)).toList) hl2 (fun p hp=>by rw [hop];simp [Op.operands];exact ⟨p.1,Array.mem_def.2 hp⟩) (by simp) hzl
     simp only [List.nil_append,Array.toArray_toList] at h1
     have hll:l.length=len*te.size:=by rw [celsOf_len hl2,b1]
     have hdl:ds.length=len*te.size:=by rw [← h2.length];exact hll
     have hne:¬ (len*te.size=0):=by
      intro h0
      rcases Nat.mul_eq_zero.1 h0 with h | h<;>omega
     have hparts:(parts.map fun (p:Nat×Operand)=>(p.1,a.eval p.2)).toList=parts.toList.map fun p=>(p.1,a.eval p.2):=by simp
     have hrun:(execOp a.eval o).run P w=.ok (.value (.slice (some ⟨w.heap.size,0,none⟩) len len)) (w.alloc (.cells ds.toArray el)):=by
      simp only [execOp,hop,Instr.buildSlice,Sem.run_bind,run_underlying hu,Result.andThen_ok,hse,Sem.run_ite]
      rw [if_neg (by omega)]
      simp only [hne,if_false,Sem.run_bind,hze,Result.andThen_ok,Sem.run_pure]
      rw [← hparts] at h1
      simp at h1
      simp [h1,newRow]
     have hkp:Keep S w S (w.alloc (.cells ds.toArray el)):=⟨fun _ _ h=>h,fun b o h=>World.cell?_alloc_lt _ _ _ (hi.inw b o h)⟩
     have hin:InLt S (w.alloc (.cells ds.toArray el)):=fun b o h=>by have:=hi.inw b o h;simp;omega
     refine ⟨_,_,S,η.add nx (.slice (some ⟨w.heap.size,0,none⟩) len len),.inl hrun,⟨(Below.refl _ _).alloc hi.base _,hkp,hin,fun _ _ h=>.inl h,LK.alloc _ _⟩,.push hk0 _,Out.add _ _ _,?_,?_⟩
     ·show HInv B _ ((nx,.cel len l)::H) S _
      refine hi.new hk0 (by simp) hin hkp (fun _ _ h=>.inl h) (fun b hb=>Below.heap_alloc _ _ _ hb) (fun b o=>b=w.heap.size∧o<ds.length) ⟨w.heap.size,Eta.add_same _ _ _,fun b o=>by rw [h2.length],fun o ho=>⟨⟨ds[o]'(by rw [← h2.length];exact ho),?_⟩,World.frozen?_alloc_new _ _ _ _⟩,ds,h2.mono fun _ _=>CM.mono hkp (.push hk0 _),fun j v hj=>?_⟩ fun b o h=>?_
      ·rw [World.cell?_alloc_new];simp [show o<ds.length by rw [← h2.length];exact ho]
      ·rw [World.cell?_alloc_new];simpa using hj
      ·obtain ⟨rfl,h⟩:=h
       exact ⟨nR _,by simp,fun hs=>absurd (hi.inw _ _ hs) (by omega)⟩
     ·change _∧_
      exact ⟨Eta.add_same _ _ _,rfl⟩
    ·cases h
   ·cases h
  ·cases h
 ·cases h
theorem lnF_ok (hΓ:TabOK P Γ) {rd:Option Nat} {o:Oper} {e:Ev} {ctx:Ctx} {t:TypeId} {x:Operand} {pv:PV} {R:RdR} (hop:o.op=.call { callee:=.builtin .len,args:=#[x],argTypes:=#[t] }) (hw:Wf e) (hc:CtxH e ctx) (hx:ev e ctx x=some pv) (h:lnF Γ t pv H nx=some R) (r:R.T):R.OK P rd B o e (H,nx) r:=by
 have hd:∀ c,o.op≠.defer c:=by rw [hop];intro c hh;cases hh
 have hmem:x∈o.op.operands.toList:=by rw [hop];simp [Op.operands,Call.operands]
 unfold lnF at h
 split at h
 ·rename_i id ti hl
  split at h
  ·rename_i el bts n l hk hlk
   split at h
   ·rename_i hb
    cases h
    have hb:=nL hb
    have hkd:=(hΓ.ty _ _ hl).kind
    rw [hk] at hkd
    refine nA rfl hd fun S w η a hi ho=>?_
    obtain ⟨h1,_⟩:=cA hw hc hx hmem ho
    obtain ⟨F1,_,b,e1,_⟩:=hi.read hlk
    rw [h1] at e1
    exact ⟨_,mF (ts:=#[]) hop (run_underlying hkd.1 _) (Option.some.inj e1),cG (by simp only [maxLen];omega)⟩
   ·cases h
  ·cases h
 ·cases h
theorem s1R_ok (hΓ:TabOK P Γ) {rd:Option Nat} {o:Oper} {e:Ev} {ctx:Ctx} {c:Call} {f x:Operand} {fn id:Nat} {s:So1} {R:RdR} (hop:o.op=.call c) (hcal:c.callee=.value f) (hxs:c.args.toList=[x]) (hw:Wf e) (hc:CtxH e ctx) (hf:ev e ctx f=some (.r (.c (.f fn [] [])))) (hx:ev e ctx x=some (.r (.c (.h id)))) (hs:lkS1 Γ.so1 fn=some s)
  (h:s1R s id H nx=some R) (r:R.T) (hr:R.m=some r):R.OK P rd B o e (H,nx) r:=by
 obtain ⟨hmem,hsf⟩:=lkS1_some hs
 obtain ⟨hen,hsp⟩:=hΓ.so1 s hmem
 have hops:o.op.operands.toList=[f,x]:=by simp [hop,Op.operands,Call.operands,hcal,hxs]
 -- the call
 have key:∀ {xs zs:List s.t.den},lk H id=some (.arr s.t xs)→s.m xs=some zs→∀ S w η (a:Act),HInv B η H S w→En.Only (lk e) (rA o) S w η a.tmps→∀ K:Act→World→Prop,
   (∀ v u' w' F1,η id=some (a.eval x)→(∀ b o,F1 b o→B≤b∧b<w.heap.size∧¬ S b o)→(s.ret=true→v=u')→(s.ret=false→v=.tuple #[]∧u'=a.eval x)→u'.oneCell'=true→Grow B S w S w'→ArrH F1 S w' u' s.t zs →
    (∀ b o,b<w.heap.size→¬ F1 b o→w'.cell? ⟨b,o,none⟩=w.cell? ⟨b,o,none⟩∧w'.frozen? ⟨b,o,none⟩=w.frozen? ⟨b,o,none⟩)→(∀ b,b<w.heap.size→(∀ o,¬ F1 b o)→w'.heap[b]? = w.heap[b]?) →
    (∀ k0 po',η k0=none→id≠k0→POH (η.add k0 u') k0 F1 S w' po'→HInv B (η.add k0 u') ((k0,po')::(id,.gone)::H) S w')→(∀ po',POH η id F1 S w' po'→HInv B η ((id,po')::H) S w')→K (a.put o.dst v) w')→OpW P rd o a w K:=by
  intro xs zs hl hm S w η a hi ho K hK
  obtain ⟨vf1,vc1,e1,q1,q2⟩:=cA hw hc hf (by rw [hops];simp) ho
  obtain ⟨hu,hone⟩:=cA hw hc hx (by rw [hops];simp) ho
  cases q1;cases q2
  have hargs:(c.args.map a.eval)=#[a.eval x]:=by
   have:c.args=#[x]:=by rw [← Array.toList_inj];simpa using hxs
   rw [this];simp
  have hex:(execOp a.eval o).run P w=.ok (.enter fn #[a.eval x]) w:=by
   simp [execOp,hop,resolve,hcal,e1,Deferred.ofValue,invoke,hargs,← hsf,hen]
  refine OpW.enter (by simp [hop]) hex ?_
  obtain ⟨hbase,hinw,F,hdis,hFi,hP⟩:=hi
  have hi:HInv B η H S w:=⟨hbase,hinw,F,hdis,hFi,hP⟩
  obtain ⟨u,hu1,hA⟩:=hP id _ hl
  have hue:u=a.eval x:=by rw [hu1] at hu;exact Option.some.inj hu
  subst hue
  have hcall:=hsp xs zs hm B S (F id) w (a.eval x) hbase hinw (hFi id) hA
  rw [hsf] at hcall
  have hcl:CallsIn (FR rd) 0 P fn #[a.eval x] w _:=callsIn_wide (n:=0) |>.2 hcall
  refine hcl.mono fun en w' ⟨v,u',he,r1,r2,r3,g1,g2,g3,g4⟩=>⟨v,he,hK v u' w' (F id) hu1 (hFi id) r1 r2 r3 g1 g2 g3 g4 (fun k0 po' hk0 hne hpo=>?_) fun po' hpo=>?_⟩
  ·refine hi.chg (fun i=>i=id∨i=k0) g1.below.size g1.lt g1.keep (.push hk0 _) (fun i ti po'' h=>?_) fun F' hd' hF' hP'=>?_
   ·rw [wA _ _ (fun h=>ti (.inr h.symm)),wA _ _ (fun h=>ti (.inl h.symm))] at h;exact h
   ·-- the object's cells are those that were read
    have hsame:∀ b o,F id b o→F' id b o:=fun b o hb=>by
     obtain ⟨u2,e2,hA2⟩:=hP' id _ hl
     rw [hu1] at e2
     cases e2
     obtain ⟨base,cap,e3,_,_,hA3⟩:=hA
     obtain ⟨base',cap',e4,_,_,hA4⟩:=hA2
     rw [e3] at e4
     cases e4
     rcases hA3 with ⟨_,hA3⟩ | ⟨b1,off1,rfl,hf1,_⟩
     ·exact absurd hb (hA3 b o)
     ·rcases hA4 with ⟨c0,hA4⟩ | ⟨b2,off2,e5,hf2,_⟩
      ·have:=(hf1 b o).1 hb
       rw [c0] at this
       omega
      ·cases e5
       exact (hf2 b o).2 ((hf1 b o).1 hb)
    refine ⟨⟨fun b o h=>.inl h,fun b o hb h=>g3 b o hb fun hf=>h id (.inl rfl) (hsame b o hf),fun b r0 _ h hr0=>by rw [g4 b (aS.1 hr0).1 fun o hf=>h id (.inl rfl) o (hsame b o hf)];exact hr0⟩,fun i=>if i=k0 then F id else fun _ _=>False,?_,?_,?_⟩
    ·rintro i po'' (rfl | rfl) h
     ·rw [wA _ _ (Ne.symm hne),jA] at h
      cases h
      have hne':¬ (i=k0):=hne
      show ∀ b o,¬ (if i=k0 then F i else fun _ _=>False) b o
      rw [if_neg hne']
      exact fun _ _ h=>h
     ·rw [jA] at h
      cases h
      show POH (η.add i u') i (if i=i then F id else fun _ _=>False) S w' po'
      rw [if_pos rfl];exact hpo
    ·rintro i b o ti hf
     by_cases h:i=k0
     ·simp only [if_pos h] at hf
      exact ⟨.inl ⟨id,.inl rfl,hsame b o hf⟩,Nat.lt_of_lt_of_le (hFi id b o hf).2.1 g1.below.size,(hFi id b o hf).2.2⟩
     ·simp only [if_neg h] at hf
    ·rintro i j ti tj hij b o hf hg
     by_cases h:i=k0
     ·have hj:¬ (j=k0):=fun e=>hij (h.trans e.symm)
      simp only [if_neg hj] at hg
     ·simp only [if_neg h] at hf
  ·refine ⟨Nat.le_trans hbase g1.below.size,hinw.of g1,F,hdis,fun i b o hb=>⟨(hFi i b o hb).1,Nat.lt_of_lt_of_le (hFi i b o hb).2.1 g1.below.size,(hFi i b o hb).2.2⟩,fun i po hli=>?_⟩
   by_cases hid:i=id
   ·subst hid
    rw [jA] at hli
    cases hli
    exact hpo
   ·rw [wA _ _ (Ne.symm hid)] at hli
    refine (hP i po hli).frame ⟨fun b o hb=>g3 b o (hFi i b o hb).2.1 fun h=>hdis i id hid b o hb h,fun b r0 _ hb hr0=>?_⟩ g1.keep (.refl _)
    rw [g4 b (aS.1 hr0).1 fun o h=>hdis i id hid b o (hb o) h]
    exact hr0
 unfold s1R at h
 split at h
 ·rename_i T xs hl
  split at h
  ·rename_i ys hys hret
   cases h
   obtain ⟨hT,hyx⟩:=kA hys
   cases hT
   have hyx:xs=ys:=hyx
   subst hyx
   obtain ⟨zs,hzs⟩:∃ zs:List s.t.den,zs=r:=⟨r,rfl⟩
   subst hzs
   intro S w η a hi hfree ho
   refine key hl hr S w η a hi ho _ fun v u' w' F1 q0 qF q1 q2 q3 q4 q5 q6 q7 q8 q9=>?_
   obtain ⟨rfl,rfl⟩:=q2 hret
   exact ⟨.tuple #[],S,η,rfl,q4,.refl _,Out.refl _ _ _,q9 _ ⟨_,q0,q5⟩,⟨[],rfl,.nil⟩⟩
  ·rename_i ys hys hret hid
   cases h
   obtain ⟨hT,hyx⟩:=kA hys
   cases hT
   have hyx:xs=ys:=hyx
   subst hyx
   obtain ⟨zs,hzs⟩:∃ zs:List s.t.den,zs=r:=⟨r,rfl⟩
   subst hzs
   have hid:id<nx:=nL hid
   intro S w η a hi hfree ho
   have hk0:η nx=none:=hfree nx (nR _) (Nat.lt_succ_self _)
   refine key hl hr S w η a hi ho _ fun v u' w' F1 q0 qF q1 q2 q3 q4 q5 q6 q7 q8 q9=>?_
   have:=q1 hret
   subst this
   refine ⟨v,S,η.add nx v,rfl,q4,.push hk0 _,Out.add _ _ _,q8 nx _ hk0 (by omega) ⟨v,Eta.add_same _ _ _,q5⟩,?_⟩
   change _∧_
   exact ⟨Eta.add_same _ _ _,q3⟩
  ·cases h
 ·cases h
theorem op4_sound:OpF.Sound op4:=by
 intro P Γ hΓ rd B o e ctx H nx R h hw hc r hr
 unfold op4 at h
 split at h
 ·rename_i t hop;exact alF_ok hΓ hop h r
 ·rename_i t x hop
  split at h
  ·rename_i pv hx;exact ldF_ok hΓ hop hw hc hx h r hr
  ·cases h
 ·rename_i t a x hop
  split at h
  ·rename_i pa pv ha hx;exact stF_ok hΓ hop hw hc ha hx h r hr
  ·cases h
 ·rename_i t x i hop
  split at h
  ·rename_i pv ix hx hi;exact ixF_ok hΓ hop hw hc hx hi h r hr
  ·cases h
 ·rename_i op t x y t' hop
  split at h
  ·rename_i a b hx hy;exact nilR_ok hΓ hop hw hc hx hy h r hr
  ·cases h
 ·rename_i t len parts hop;exact bsF_ok hΓ hop hw hc h r
 ·rename_i c hop
  split at h
  ·rename_i x t hcal hxs hts
   have hce:=gC hcal hxs hts
   subst hce
   split at h
   ·rename_i pv hx;exact lnF_ok hΓ hop hw hc hx h r
   ·cases h
  ·rename_i f x hcal hxs
   split at h
   ·rename_i fn id hf hx
    split at h
    ·rename_i s hs;exact s1R_ok hΓ hop hcal hxs hw hc hf hx hs h r hr
    ·cases h
   ·cases h
  ·cases h
 ·cases h
end
section
variable {Γ:Tabs} {H H':PH} {nx:Nat} {e:Ev} {ctx:Ctx} {o:Oper}
theorem op4_fl {R:RdR} (h:op4 Γ o e ctx H nx=some R):R.fl≠0:=by
 unfold op4 at h
 split at h
 ·unfold alF at h;(repeat' split at h)<;>first | (cases h;exact sZ _) | cases h
 ·split at h
  ·unfold ldF at h;(repeat' split at h)<;>first | (cases h;exact sZ _) | cases h
  ·cases h
 ·split at h
  ·unfold stF at h;(repeat' split at h)<;>first | (cases h;exact sZ _) | cases h
  ·cases h
 ·split at h
  ·unfold ixF at h;(repeat' split at h)<;>first | (cases h;exact sZ _) | cases h
  ·cases h
 ·split at h
  ·unfold nilR at h;(repeat' split at h)<;>first | (cases h;exact sZ _) | cases h
  ·cases h
 ·unfold bsF at h;(repeat' split at h)<;>first | (cases h;exact sZ _) | cases h
 ·split at h
  ·split at h
   ·unfold lnF at h;(repeat' split at h)<;>first | (cases h;exact sZ _) | cases h
   ·cases h
  ·split at h
   ·split at h
    ·unfold s1R at h;(repeat' split at h)<;>first | (cases h;exact sZ _) | cases h
    ·cases h
   ·cases h
  ·cases h
 ·cases h
theorem flatAt_ids {pv:PV} {id:Nat} {j:Int} (h:eJ pv=some (id,j)) (hg:Ag pv.ids H H'):lk H' id=lk H id:=by
 unfold eJ at h
 split at h
 ·cases h;exact hg.one
 ·cases h;exact hg.one
 ·cases h
theorem ldF_loc {t:TypeId} {pv:PV} (h:Ag pv.ids H H'):ldF Γ t pv H' nx=ldF Γ t pv H nx:=by
 unfold ldF
 split
 ·split
  ·rename_i id sz i k
   have h1:lk H' id=lk H id:=h.one
   simp only [h1];rfl
  ·split
   ·rename_i id j hat
    have h1:=flatAt_ids hat h
    simp only [h1];rfl
   ·rfl
 ·rfl
theorem stF_loc {t:TypeId} {pa pv:PV} (h:Ag pa.ids H H'):stF Γ t pa pv H' nx=stF Γ t pa pv H nx:=by
 unfold stF
 split
 ·rename_i ti id j hl hat
  have h1:=flatAt_ids hat h
  simp only [h1]
 ·rfl
theorem ixF_loc {t:TypeId} {pv ix:PV} (h:Ag pv.ids H H'):ixF Γ t pv ix H' nx=ixF Γ t pv ix H nx:=by
 unfold ixF
 split
 ·split
  ·split
   ·split
    ·rename_i id off
     have h1:lk H' id=lk H id:=h.one
     simp only [h1];rfl
    ·rfl
    ·rfl
   ·rfl
  ·split
   ·rename_i te id _
    have h1:lk H' id=lk H id:=h.one
    simp only [h1];rfl
   ·rfl
  ·rfl
 ·rfl
theorem lnF_loc {t:TypeId} {pv:PV} (h:Ag pv.ids H H'):lnF Γ t pv H' nx=lnF Γ t pv H nx:=by
 unfold lnF
 split
 ·rename_i id ti _
  have h1:lk H' id=lk H id:=h.one
  simp only [h1];rfl
 ·rfl
theorem op4_nice:op4.Nice:=by
 constructor
 ·intro Γ o e ctx H H' nx h
  unfold op4
  split
  ·rfl
  ·rename_i t x hop
   split
   ·rename_i pv hx
    exact ldF_loc (opIds1 (by rw [hop];simp [Op.operands]) hx h)
   ·rfl
  ·rename_i t a x hop
   split
   ·rename_i pa pv ha hx
    exact stF_loc (kH (by rw [hop];simp [Op.operands]) ha hx h).1
   ·rfl
  ·rename_i t x i hop
   split
   ·rename_i pv ix hx hi
    exact ixF_loc (kH (by rw [hop];simp [Op.operands]) hx hi h).1
   ·rfl
  ·split
   ·rfl
   ·rfl
  ·rfl
  ·rename_i c hop
   split
   ·rename_i x t hcal hxs hts
    split
    ·rename_i pv hx
     exact lnF_loc (opIds1 (by simp [hop,Op.operands,Call.operands,hcal,hxs]) hx h)
    ·rfl
   ·rename_i f x hcal hxs
    split
    ·rename_i fn id hf hx
     split
     ·rename_i s hs
      have h1:lk H' id=lk H id:=(kH (by simp [hop,Op.operands,Call.operands,hcal,hxs]) hf hx h).2.one
      unfold s1R
      simp only [h1]
     ·rfl
    ·rfl
   ·rfl
  ·rfl
 ·intro Γ o e ctx H nx R h h0 H'
  exact absurd h0 (op4_fl h)
end
def OPS4:OpF:=OPS3.or op4
theorem OPS4_sound:OPS4.Sound:=OPS3_sound.or op4_sound
theorem OPS4_nice:OPS4.Nice:=OPS3_nice.or' op4_nice fun Γ o e ctx H nx R h h0 hn H'=>absurd h0 (op4_fl h)

def keyM:List (Int×Nat)→Int→Bool
 | [],_=>false
 | [(k,_)],x=>eqM x k
 | (k,_)::r,x=>orM (eqM x k) (keyM r x)
def freshK:List (Int×Nat)→Int→Bool
 | [],_=>true
 | (k,_)::r,x=>match decide (x=k) with
  | true=>false
  | false=>freshK r x
def castS (A R:List Ty):Spec→Option (Tup (A.map .d)→Option (Tup (R.map .d)))
 | ⟨A',R',m⟩=>if h:A'=A then if h2:R'=R then some (fun x=>h2▸m (h▸x)) else none else none
def sels (Γ:Tabs) (A R:List Ty) (a:Tup (A.map .d)):List (Int×Nat)→Option (List (Int×Option (Tup (R.map .d))))
 | []=>some []
 | (k,g)::r=>match lk Γ.sp g with
  | some s=>match castS A R s,sels Γ A R a r with
   | some m,some l=>some ((k,m a)::l)
   | _,_=>none
  | none=>none
def bxF (Γ:Tabs) (dst:Option Nat) (pv:PV) (H:PH) (nx:Nat):Option RdR:=match pv with
 | .r v=>match memO dst Γ.own||!(Nat.ble v.cells.length 40),headTy v.cells with
  | true,some T=>match T.agg,oH T v.cells with
   | false,some xs=>some (wn (some ()) () (fun _=>.c (.p nx 0)) (fun _=>.flat xs.length T xs) H nx)
   | _,_=>none
  | _,_=>none
 | _=>none
def ixW (Γ:Tabs) (t:TypeId) (pv ix:PV) (H:PH) (nx:Nat):Option RdR:=match ix,lk Γ.ty t,pv with
 | .r (.c (.d (.int k) i)),some ti,.r (.s l)=>match ti.kind with
  | .array n el=>match Nat.ble 8 n,lk Γ.ty el,headTy l with
   | true,some te,some T=>match T.agg,oH T l,Nat.beq l.length (n*te.size) with
    | false,some xs,true=>match te.agg with
     | false=>match Nat.beq te.size 1 with
      | true=>some (rdr (gA xs i) T.dflt (fun x=>.c (.d T x)) H nx)
      | false=>none
     | true=>match Nat.blt 0 te.size with
      | false=>none
      | true=>some (rdr (pA xs (i*te.size) (i*te.size+te.size)) [] (fun ys=>.s ((List.range te.size).map fun k=>.d T (qA ys k T.dflt))) H nx)
    | _,_,_=>none
   | _,_,_=>none
  | _=>none
 | _,_,_=>none
def markS (dst:Option Nat) (l:List Nat):Bool:=match dst with | some t=>zC l (t+2000000)||zC l (t+4000000) | none=>false
def slZ (Γ:Tabs) (e:Ev) (ctx:Ctx) (t:TypeId) (x:Operand) (lo hi:Option Operand) (H:PH) (nx:Nat):Option RdR:=match bD Γ t,ev e ctx x with
 | some (_,_,T),some pv=>match pG H T pv with
  | some xs=>match bndR e ctx 0 lo,bndR e ctx (lenM xs) hi with
   | some l,some h=>some (wr (pA xs l h) [] (fun ys=>.c (.d (.list T) ys)) (fun _=>dP H pv) nx)
   | _,_=>none
  | none=>none
 | _,_=>none
def slQ (Γ:Tabs) (e:Ev) (ctx:Ctx) (t:TypeId) (x:Operand) (hi mx:Operand) (H:PH) (nx:Nat):Option RdR:=match bD Γ t,ev e ctx x with
 | some (_,_,T),some pv=>match pG H T pv,ev e ctx hi,ev e ctx mx with
  | some xs,some (.r (.c (.d (.int .i64) h))),some (.r (.c (.d (.int .i64) m)))=>some (wr ((jJ h m).bind fun _=>pA xs 0 h) [] (fun ys=>.c (.fu T ys)) (fun _=>dP H pv) nx)
  | _,_,_=>none
 | _,_=>none
def slE (Γ:Tabs) (e:Ev) (ctx:Ctx) (t:TypeId) (x:Operand) (H:PH) (nx:Nat):Option RdR:=match bD Γ t,ev e ctx x with
 | some (_,_,T),some pv=>match pG H T pv with
  | some xs=>some (rdu (.c (.q T [])) H nx)
  | none=>none
 | _,_=>none
def isMapf (Γ:Tabs) (t:TypeId):Bool:=match lk Γ.ty t with
 | some ti=>match ti.kind with
  | .mapf=>true
  | _=>false
 | none=>false
def upMap (Γ:Tabs) (t:TypeId) (m k v:PV) (H:PH) (nx:Nat):Option RdR:=match m,k,v with
 | .r (.c (.h id)),.r (.c (.d (.int .i64) x)),.r (.c (.f g [] []))=>match lk H id,isMapf Γ t with
  | some (.mp es),true=>match freshK es x with
   | true=>some (wr (some ()) () (fun _=>.any) (fun _=>[(id,.mp (es++[(x,g)]))]) nx)
   | false=>none
  | _,_=>none
 | _,_,_=>none
def callOw (Γ:Tabs) (g:FuncId) (args:List RV) (H:PH) (nx:Nat):Option RdR:=match lk Γ.ow g with
 | some s=>match uB (yF H args) s.args args with
  | some x=>some (wr (s.m x) [] (fun _=>.c (.h nx)) (fun ys=>(nx,.arr s.t ys)::dRs H args) (nx+1))
  | none=>none
 | none=>none
def pkR (p:Option PV) (H:PH) (nx:Nat):Option RdR:=match p with
 | some (.r v)=>some (rdu (.r v) H nx)
 | _=>none
def op6:OpF:=fun Γ o e ctx H nx=>match o.op with
 | .box t x=>match ev e ctx x with
  | some pv=>bxF Γ o.dst pv H nx
  | none=>none
 | .index t x i=>match ev e ctx x,ev e ctx i with
  | some pv,some ix=>ixW Γ t pv ix H nx
  | _,_=>none
 | .slice t x lo hi none=>match markS o.dst Γ.own with
  | true=>none
  | false=>slZ Γ e ctx t x lo hi H nx
 | .slice t x none (some (.const (.int .i64 (.ofNat 0)))) (some (.const (.int .i64 (.ofNat 0))))=>slE Γ e ctx t x H nx
 | .slice t x none (some hi) (some mx)=>slQ Γ e ctx t x hi mx H nx
 | .pick c x y=>match ev e ctx c with
  | some (.r (.c (.d .bool true)))=>pkR (ev e ctx x) H nx
  | some (.r (.c (.d .bool false)))=>pkR (ev e ctx y) H nx
  | _=>none
 | .call c=>match c.callee,pE e ctx c.args.toList with
  | .value f,some args=>match ev e ctx f with
   | some (.r (.c (.f g [] [])))=>callOw Γ g args H nx
   | _=>none
  | _,_=>none
 | _=>none

section
variable {P:Program} {Γ:Tabs} {B:Nat} {S:Cells} {w:World} {η:Eta} {H:PH} {nx:Nat}
theorem bxF_ok {rd:Option Nat} {o:Oper} {e:Ev} {ctx:Ctx} {t:TypeId} {x:Operand} {pv:PV} {R:RdR} (hop:o.op=.box t x) (hw:Wf e) (hc:CtxH e ctx) (hx:ev e ctx x=some pv) (h:bxF Γ o.dst pv H nx=some R) (r:R.T):R.OK P rd B o e (H,nx) r:=by
 have hd:∀ c,o.op≠.defer c:=by rw [hop];intro c hh;cases hh
 unfold bxF at h
 split at h
 ·rename_i v
  split at h
  ·rename_i T _ _
   split at h
   ·rename_i xs hag hxs
    cases h
    refine jB rfl hd fun S w η a hi hlen ho=>?_
    have hk0:η nx=none:=hlen nx (nR _) (Nat.lt_succ_self _)
    obtain ⟨us,g3,g4⟩:=RV.cells_sound (cA hw hc hx (by rw [hop];simp [Op.operands]) ho)
    obtain ⟨g1,g2⟩:=flat_new (el:=t) hag hk0 hi (nE hxs g4)
    refine ⟨.pointer (some ⟨w.heap.size,0,none⟩),_,S,η.add nx (.pointer (some ⟨w.heap.size,0,none⟩)),.inl (by simp [execOp,hop,Instr.box,newVar,newRow,g3]),g1,.push hk0 _,Out.add _ _ _,?_,?_⟩
    ·show HInv B _ ((nx,.flat xs.length T xs)::H) S _
     exact g2
    ·change ∃ b,_∧_
     exact ⟨w.heap.size,Eta.add_same _ _ _,rfl⟩
   ·cases h
  ·cases h
 ·cases h
theorem ixW_ok (hΓ:TabOK P Γ) {rd:Option Nat} {o:Oper} {e:Ev} {ctx:Ctx} {t:TypeId} {x i:Operand} {pv ix:PV} {R:RdR} (hop:o.op=.index t x i) (hw:Wf e) (hc:CtxH e ctx) (hx:ev e ctx x=some pv) (hi:ev e ctx i=some ix) (h:ixW Γ t pv ix H nx=some R) (r:R.T) (hr:R.m=some r) :
  R.OK P rd B o e (H,nx) r:=by
 have hd:∀ c,o.op≠.defer c:=by rw [hop];intro c hh;cases hh
 have hm1:x∈o.op.operands.toList:=by rw [hop];simp [Op.operands]
 have hm2:i∈o.op.operands.toList:=by rw [hop];simp [Op.operands]
 unfold ixW at h
 split at h
 ·rename_i k m ti l hl
  split at h
  ·rename_i n el hk
   have hkd:=(hΓ.ty _ _ hl).kind
   rw [hk] at hkd
   split at h
   ·rename_i te T _ hte _
    split at h
    ·rename_i xs hTa hxs hlen
     have hlen:=nB hlen
     have hxl:=flatOf_len hxs
     split at h
     ·rename_i hag
      split at h
      ·rename_i hs1
       cases h
       have hs1:=nB hs1
       obtain ⟨h0,h1,h2⟩:=vB hr
       rw [hs1,Nat.mul_one] at hlen
       refine nA rfl hd fun S w η a hiv ho=>?_
       obtain ⟨vs,g1,g2⟩:=cA hw hc hx hm1 ho
       obtain ⟨f1,_⟩:=PM.int.1 (cA hw hc hi hm2 ho)
       obtain ⟨v,hv,hm⟩:=(nE hxs g2).get _ _ h2
       have hsz:=(hΓ.ty _ _ hte).size w
       have hag':=(hΓ.ty _ _ hte).agg w
       rw [hag] at hag'
       have hlt:m.toNat<vs.length:=(gS.1 hv).1
       refine ⟨v,?_,hm⟩
       have hmn:(m:Int)<(n:Int):=Int.lt_of_lt_of_le h1 (by omega)
       simp [execOp,hop,Instr.index,asIntOf,f1,hkd w,g1,h0,hmn,hsz,hs1,part,hag',hv]
      ·cases h
     ·rename_i hag
      split at h
      ·cases h
      rename_i hpos
      have hpos:=nL hpos
      cases h
      obtain ⟨ys,hys⟩:∃ ys:List T.den,ys=r:=⟨r,rfl⟩
      subst hys
      obtain ⟨b1,b2,b3,hys⟩:=qC (show pA xs (m*te.size) (m*te.size+te.size)=some ys from hr)
      obtain ⟨m',hm'⟩:∃ m':Int,m'=m:=⟨m,rfl⟩
      have h0:0≤m':=by
       rw [← hm'] at b1
       by_cases h:0≤m'
       ·exact h
       ·have:m'*(te.size:Int)<0:=Int.mul_neg_of_neg_of_pos (by omega) (by omega)
        omega
      obtain ⟨q,hq⟩:∃ q:Nat,m'=q:=⟨m'.toNat,by omega⟩
      rw [← hm',hq] at hys b3
      have hqn:q<n:=by
       have h1:((q*te.size+te.size:Nat):Int)≤xs.length:=by push_cast;exact b3
       have h2:(q+1)*te.size≤n*te.size:=by rw [Nat.add_mul];omega
       exact Nat.lt_of_succ_le (Nat.le_of_mul_le_mul_right h2 hpos)
      have e1:((q:Int)*(te.size:Int)).toNat=q*te.size:=by
       rw [← Int.natCast_mul];exact Int.toNat_natCast _
      have e2:((q:Int)*(te.size:Int)+(te.size:Int)).toNat=q*te.size+te.size:=by
       rw [← Int.natCast_mul,← Int.natCast_add];exact Int.toNat_natCast _
      rw [e1,e2] at hys
      have hb4:q*te.size+te.size≤xs.length:=by
       have h1:((q*te.size+te.size:Nat):Int)≤xs.length:=by push_cast;exact b3
       omega
      refine nA rfl hd fun S w η a hiv ho=>?_
      obtain ⟨vs,g1,g2⟩:=cA hw hc hx hm1 ho
      obtain ⟨f1,_⟩:=PM.int.1 (cA hw hc hi hm2 ho)
      have f1:a.eval i=.int k (q:Int):=by rw [f1,← hq,hm']
      have hsz:=(hΓ.ty _ _ hte).size w
      have hag':=(hΓ.ty _ _ hte).agg w
      rw [hag] at hag'
      have hxv:=nE hxs g2
      have hvl:=hxv.length
      refine ⟨.agg ((vs.drop (q*te.size)).take te.size).toArray,?_,_,rfl,All2.mk (by simp;omega) fun j c v hj hv=>?_⟩
      ·simp [execOp,hop,Instr.index,asIntOf,f1,hkd w,g1,hqn,hsz,part,hag']
      ·have hjl:j<te.size:=by have:=(gS.1 hj).1;simpa using this
       rw [List.getElem?_map,List.getElem?_range hjl] at hj
       cases hj
       rw [List.getElem?_take_of_lt hjl,List.getElem?_drop] at hv
       have hxj:xs[q*te.size+j]? = some (xs[q*te.size+j]'(by omega)):=gE _
       obtain ⟨v',hv',hm⟩:=hxv.get _ _ hxj
       rw [hv] at hv'
       cases hv'
       have:qA ys j T.dflt=xs[q*te.size+j]'(by omega):=by
        have h5:ys[j]? = some (xs[q*te.size+j]'(by omega)):=by
         rw [hys,List.getElem?_drop,List.getElem?_take_of_lt (by omega)];exact hxj
        simp [qA,List.getD,h5]
       show CM S w η (.d T (qA ys j T.dflt)) v
       rw [this];exact hm
    ·cases h
   ·cases h
  ·cases h
 ·cases h
theorem aH {T:Ty} {pv:PV} {xs:List T.den} {v:Value} (hi:HInv B η H S w) (h:pG H T pv=some xs) (hm:PM S w η pv v):∃ S',HInv B η (dP H pv++H) S' w∧Grow B S w S' w∧VRep S' w (.list T) xs v:=by
 obtain ⟨S',h1,g1⟩:=bI hi pv
 refine ⟨S',by rw [← dJ];exact h1,g1,jE h1 h (PM.mono g1.keep (.refl _) hm)⟩
theorem slZ_ok (hΓ:TabOK P Γ) {rd:Option Nat} {o:Oper} {e:Ev} {ctx:Ctx} {t:TypeId} {x:Operand} {lo hi_:Option Operand} {R:RdR} (hop:o.op=.slice t x lo hi_ none) (hw:Wf e) (hc:CtxH e ctx) (h:slZ Γ e ctx t x lo hi_ H nx=some R) (r:R.T) (hr:R.m=some r):R.OK P rd B o e (H,nx) r:=by
 have hd:∀ c,o.op≠.defer c:=by rw [hop];intro c hh;cases hh
 unfold slZ at h
 split at h
 ·rename_i el bts T pv hel hx
  split at h
  ·rename_i xs hsrc
   split at h
   ·rename_i li hi hl hh
    cases h
    obtain ⟨ys,hys⟩:∃ ys:List T.den,ys=r:=⟨r,rfl⟩
    subst hys
    obtain ⟨b1,b2,b3,hys⟩:=qC (show pA xs li hi=some ys from hr)
    refine jB rfl hd fun S w η a hiv hlen ho=>?_
    obtain ⟨S',h1,g1,hv⟩:=aH hiv hsrc (cA hw hc hx (by rw [hop];simp [Op.operands]) ho)
    have hlo:=kF (a:=a) hw hc ho (fun y hy=>by rw [hop];simp [Op.operands,hy]) hl
    have hhi:=kF (a:=a) hw hc ho (fun y hy=>by rw [hop];simp [Op.operands,hy]) hh
    obtain ⟨v,q1,q2⟩:=sl_run (tA hΓ hel) hop hv hlo hhi b1 b2 b3 hys
    exact ⟨v,w,S',η,.inl q1,g1,.refl _,Out.refl _ _ _,h1,rfl,q2⟩
   ·cases h
  ·cases h
 ·cases h
theorem slQ_ok (hΓ:TabOK P Γ) {rd:Option Nat} {o:Oper} {e:Ev} {ctx:Ctx} {t:TypeId} {x hi_ mx:Operand} {R:RdR} (hop:o.op=.slice t x none (some hi_) (some mx)) (hw:Wf e) (hc:CtxH e ctx) (h:slQ Γ e ctx t x hi_ mx H nx=some R) (r:R.T) (hr:R.m=some r):R.OK P rd B o e (H,nx) r:=by
 have hd:∀ c,o.op≠.defer c:=by rw [hop];intro c hh;cases hh
 unfold slQ at h
 split at h
 ·rename_i el bts T pv hel hx
  split at h
  ·rename_i xs hh m hsrc hhi hmx
   cases h
   obtain ⟨ys,hys⟩:∃ ys:List T.den,ys=r:=⟨r,rfl⟩
   subst hys
   have hr':(jJ hh m).bind (fun _=>pA xs 0 hh)=some ys:=hr
   obtain ⟨_,hs,hr2⟩:=Option.bind_eq_some_iff.1 hr'
   have hhm:hh=m:=by
    unfold jJ at hs
    split at hs
    ·rename_i hb;exact oD hb
    ·cases hs
   subst hhm
   obtain ⟨b1,b2,b3,hys⟩:=qC hr2
   refine jB rfl hd fun S w η a hiv hlen ho=>?_
   obtain ⟨S',h1,g1,hv⟩:=aH hiv hsrc (cA hw hc hx (by rw [hop];simp [Op.operands]) ho)
   obtain ⟨f1,_⟩:=PM.int.1 (cA hw hc hhi (by rw [hop];simp [Op.operands]) ho)
   obtain ⟨f2,_⟩:=PM.int.1 (cA hw hc hmx (by rw [hop];simp [Op.operands]) ho)
   have hI:=tA hΓ hel
   obtain ⟨base,cap,e1,e2,e3,e4⟩:=VRep.slice hv
   obtain ⟨i,z,i1,i2,i3,i4,i5⟩:=hI.info
   have hsz:(sizeOf el).run P w=.ok T.size w:=by simp [sizeOf,typeInfo,i1,i4]
   obtain ⟨n,hn⟩:∃ n:Nat,hh=(n:Int):=Int.eq_ofNat_of_zero_le b2
   subst hn
   have h2:n≤xs.length:=Int.ofNat_le.1 b3
   simp only [Int.toNat_natCast,Int.toNat_zero,List.drop_zero] at hys
   have hyl:ys.length=n:=by rw [hys];simp;omega
   have hrun:(execOp a.eval o).run P w=.ok (.value (.slice (if n=0 then base else base.map (·.add (0*T.size))) n n)) w:=by
    simp [execOp,hop,e1,f1,f2,Instr.sliceAt,Instr.slice,run_underlying hI.und,Instr.sliceBounds,Instr.sliceBound,asIntOf,hsz,show n≤cap by omega]
   have hbase:(if n=0 then base else base.map (·.add (0*T.size)))=base:=by
    split
    ·rfl
    ·cases base with
     | none=>rfl
     | some b=>obtain ⟨b,o,s⟩:=b;simp [Addr.add]
   rw [hbase] at hrun
   refine ⟨_,w,S',η,.inl hrun,g1,.refl _,Out.refl _ _ _,h1,?_⟩
   show VRep S' w (.list T) ys _∧_
   refine ⟨⟨_,⟨base,n,by rw [hyl],by omega,by omega,?_⟩,rfl⟩,base,by rw [hyl]⟩
   by_cases h0:n=0
   ·left;omega
   ·right
    rcases e4 with e4 | ⟨b,off,rfl,e4⟩
    ·omega
    ·refine ⟨b,off,rfl,fun i y hy=>?_⟩
     rw [hys] at hy
     have hlt:i<n:=by have:=(gS.1 hy).1;simp at this;omega
     rw [List.getElem?_take_of_lt hlt] at hy
     exact e4 _ y hy
  ·cases h
 ·cases h
theorem slE_ok (hΓ:TabOK P Γ) {rd:Option Nat} {o:Oper} {e:Ev} {ctx:Ctx} {t:TypeId} {x:Operand} {R:RdR} (hop:o.op=.slice t x none (some (.const (.int .i64 (.ofNat 0)))) (some (.const (.int .i64 (.ofNat 0))))) (hw:Wf e) (hc:CtxH e ctx) (h:slE Γ e ctx t x H nx=some R) (r:R.T):R.OK P rd B o e (H,nx) r:=by
 have hd:∀ c,o.op≠.defer c:=by rw [hop];intro c hh;cases hh
 unfold slE at h
 split at h
 ·rename_i el bts T pv hel hx
  split at h
  ·rename_i xs hsrc
   cases h
   refine nA rfl hd fun S w η a hiv ho=>?_
   obtain ⟨S',h1,g1,hv⟩:=aH hiv hsrc (cA hw hc hx (by rw [hop];simp [Op.operands]) ho)
   have hI:=tA hΓ hel
   obtain ⟨base,cap,e1,e2,e3,e4⟩:=VRep.slice hv
   obtain ⟨i,z,i1,i2,i3,i4,i5⟩:=hI.info
   have hsz:(sizeOf el).run P w=.ok T.size w:=by simp [sizeOf,typeInfo,i1,i4]
   have hrun:(execOp a.eval o).run P w=.ok (.value (.slice base 0 0)) w:=by
    have e0:∀ v:Value,a.eval (.const v)=v:=fun _=>rfl
    simp [execOp,hop,e1,e0,Instr.sliceAt,Instr.slice,run_underlying hI.und,Instr.sliceBounds,Instr.sliceBound,asIntOf,hsz]
   refine ⟨_,hrun,?_⟩
   show VRep S w (.list T) [] _∧_
   exact ⟨⟨_,⟨base,0,rfl,nR _,Nat.zero_le _,.inl rfl⟩,rfl⟩,base,rfl⟩
  ·cases h
 ·cases h
theorem callOw_ok (hΓ:TabOK P Γ) {rd:Option Nat} {o:Oper} {e:Ev} {ctx:Ctx} {c:Call} {f:Operand} {g:FuncId} {args:List RV} {R:RdR} (hop:o.op=.call c) (hcal:c.callee=.value f) (ha:pE e ctx c.args.toList=some args) (hw:Wf e) (hc:CtxH e ctx) (hf:ev e ctx f=some (.r (.c (.f g [] [])))) (h:callOw Γ g args H nx=some R) (r:R.T) (hr:R.m=some r) :
  R.OK P rd B o e (H,nx) r:=by
 unfold callOw at h
 split at h
 ·rename_i s hs
  split at h
  ·rename_i x hx
   cases h
   obtain ⟨ys,hys⟩:∃ ys:List s.t.den,ys=r:=⟨r,rfl⟩
   subst hys
   obtain ⟨hen,hsp⟩:=hΓ.ow g s hs
   have hops:o.op.operands.toList=f::c.args.toList:=by simp [hop,Op.operands,Call.operands,hcal]
   show ∀ (S:Cells) (w:World) (η:Eta) (a:Act),HInv B η H S w→Free η nx (nx+1)→En.Only (lk e) (rA o) S w η a.tmps→_
   intro S w η a hi0 hfree ho
   have hk0:η nx=none:=hfree nx (nR _) (Nat.lt_succ_self _)
   obtain ⟨vf,vc,he,q1,q2⟩:=cA hw hc hf (by rw [hops];simp) ho
   cases q1;cases q2
   have hva:=iC hw hc ho ha fun x hx=>by rw [hops];simp [hx]
   have hex:(execOp a.eval o).run P w=.ok (.enter g (c.args.toList.map a.eval).toArray) w:=by
    simp [execOp,hop,resolve,hcal,he,Deferred.ofValue,invoke,← Array.toList_map]
    exact hen _ w
   refine OpW.enter (by simp [hop]) hex ?_
   obtain ⟨S1,hi,g1⟩:=jD (l:=args) hi0
   have hcall:=hsp x ys hr S1 w η _ hi.inw (lD hi hx (hva.mono fun _ _ h=>RM.mono g1.keep (.refl _) h))
   have hcl:CallsIn (FR rd) 0 P g (c.args.toList.map a.eval).toArray w _:=callsIn_wide (n:=0) |>.2 hcall
   refine hcl.mono fun en w' ⟨u,S',F,h1,h2,h3,h4,h5⟩=>⟨u,h1,?_⟩
   refine ⟨u,S',η.add nx u,rfl,g1.trans (h3.mono hi.base),.push hk0 _,Out.add _ _ _,?_,?_⟩
   ·show HInv B _ (((nx,.arr s.t ys)::dRs H args)++H) S' w'
    rw [List.cons_append,← rF]
    exact hi.new hk0 h3.below.size h3.lt h3.keep h3.new (fun b hb=>h3.below.block b hb) F ⟨u,Eta.add_same _ _ _,h4⟩ h5
   ·change _∧_
    exact ⟨Eta.add_same _ _ _,h2⟩
  ·cases h
 ·cases h
def owR (H:PH) (t:Ty):Option (List RV)→Option (List t.den)
 | some [.c (.h id)]=>match lk H id with
  | some (.arr T ys)=>yA (.list t) (t':=.list T) ys
  | _=>none
 | some [.c (.l .nilS)]=>some []
 | _=>none
noncomputable def fnOw (F:OpF) (n:Nat) (Γ:Tabs) (own:List Nat) (an:Ann) (fn:Func) (code:Code) (args:List Ty) (t:Ty) (x:Tup (args.map .d)):Option (List t.den) :=
 pc F n { Γ with own:=own } fn.ntmps an code (List t.den) ⟨(vI 0 (rvs args x)).map fun x=>(x.1,.r x.2),[],0⟩ fun ex st=>match ex with
  | .exit _=>none
  | .go _=>none
  | .pan _=>none
  | _=>owR st.hp t (rE Γ st fn.results.toList)
theorem fnOw_ok {P:Program} {Γ:Tabs} (hΓ:TabOK P Γ) {F:OpF} (hS:F.Sound) (hN:F.Nice) {f:FuncId} {fn:Func} {code:Code} {own:List Nat} {an:Ann} {n:Nat} {args:List Ty} {t:Ty} {m:Tup (args.map .d)→Option (List t.den)}
  (hf:lk Γ.fn f=some fn) (hb:fn.body=some code) (hn:Nat.ble args.length fn.ntmps=true) (hen:∀ (args:Array Value) (w:World),(callFunc f args).run P w=.ok (.enter f args) w) (hm:∀ x,fnOw F n Γ own an fn code args t x=m x):OwnOK P f ⟨args,t,m⟩:=by
 refine ⟨hen,fun x r hr S w η vs hi hv=>?_⟩
 have hr:fnOw F n Γ own an fn code args t x=some r:=(hm x).trans hr
 unfold fnOw at hr
 have hΓ':TabOK P { Γ with own:=own }:=⟨hΓ.ty,hΓ.fn,hΓ.sp,hΓ.en,hΓ.mixed,hΓ.so,hΓ.eqs,hΓ.so1,hΓ.mps,hΓ.ow,hΓ.bt,hΓ.ex,hΓ.pp⟩
 have hv0:All2 (RM S w (fun _=>none)) (rvs args x) vs:=rvs_eta hv
 have hc:CallsIn (FR none) 0 P f vs.toArray w fun en w'=>∃ u S' F,en=.returned u∧u.oneCell'=true∧Grow w.heap.size S w S' w'∧ArrH F S' w' u t r∧∀ b o,F b o→w.heap.size≤b∧b<w'.heap.size∧¬ S' b o:=by
  refine body_ok (sound hS hN n).1 hΓ hΓ' hf hb hv0 (by rw [aF];exact nL hn) (.empty hi) (fun _ _=>rfl) hr fun ex st' hk=>?_
  have key:owR st'.hp t (rE Γ st' fn.results.toList)=some r→∃ rs,rE Γ st' fn.results.toList=some rs∧∀ S' w' η' v,HInv w.heap.size η' st'.hp S' w'→(∀ i,st'.nx≤i→η' i=none)→Pre (fun _=>none) η'→(∃ δ,st'.hp=δ++[])→Grow w.heap.size S w S' w'→PM S' w' η' (dB rs) v →
      ∃ u S' F,Ending.returned v=.returned u∧u.oneCell'=true∧Grow w.heap.size S w S' w'∧ArrH F S' w' u t r∧∀ b o,F b o→w.heap.size≤b∧b<w'.heap.size∧¬ S' b o:=by
   intro hk
   unfold owR at hk
   split at hk
   ·rename_i id hrs
    split at hk
    ·rename_i T ys hl
     obtain ⟨hT,hyx⟩:=kA hk
     cases hT
     have hyx:ys=r:=hyx
     subst hyx
     refine ⟨_,hrs,fun S' w' η' v i' _ _ _ gr' hm=>?_⟩
     obtain ⟨F1,hF1,u,e1,e2⟩:=i'.read hl
     have hm1:η' id=some v∧v.oneCell'=true:=hm
     rw [e1] at hm1
     have:=Option.some.inj hm1.1
     subst this
     exact ⟨u,S',F1,rfl,hm1.2,gr',e2,hF1⟩
    ·cases hk
   ·rename_i hrs
    cases hk
    refine ⟨_,hrs,fun S' w' η' v i' _ _ _ gr' hm=>?_⟩
    have hm1:v=.slice none 0 0:=hm
    subst hm1
    exact ⟨_,S',fun _ _=>False,rfl,rfl,gr',⟨none,0,rfl,nR _,Nat.zero_le _,.inl ⟨rfl,fun _ _ h=>h⟩⟩,fun _ _ h=>h.elim⟩
   ·cases hk
  cases ex with
  | norm=>exact ⟨⟨fun i hi=>(by cases hi),fun l hl=>(by cases hl),fun T hT=>(by cases hT)⟩,key hk⟩
  | ret=>exact ⟨⟨fun i hi=>(by cases hi),fun l hl=>(by cases hl),fun T hT=>(by cases hT)⟩,key hk⟩
  | exit i=>cases hk
  | go l=>cases hk
  | pan T=>cases hk
 exact callsIn_wide.1 hc
def Tabs.addOw (Γ:Tabs) (f:FuncId) (s:OwSpec):Tabs:={ Γ with ow:=(f,s)::Γ.ow }
theorem TabOK.addOw {P:Program} {Γ:Tabs} (h:TabOK P Γ) {f:FuncId} {s:OwSpec} (hs:OwnOK P f s):TabOK P (Γ.addOw f s) :=
 ⟨h.ty,h.fn,h.sp,h.en,h.mixed,h.so,h.eqs,h.so1,h.mps,fun g s' hl=>by
  unfold Tabs.addOw at hl
  by_cases hg:f=g
  ·subst hg;rw [jA] at hl;cases hl;exact hs
  ·rw [wA _ _ hg] at hl;exact h.ow g s' hl,h.bt,h.ex,h.pp⟩
theorem op6_sound:OpF.Sound op6:=by
 intro P Γ hΓ rd B o e ctx H nx R h hw hc r hr
 unfold op6 at h
 split at h
 ·rename_i t x hop
  split at h
  ·rename_i pv hx;exact bxF_ok hop hw hc hx h r
  ·cases h
 ·rename_i t x i hop
  split at h
  ·rename_i pv ix hx hi;exact ixW_ok hΓ hop hw hc hx hi h r hr
  ·cases h
 ·rename_i t x lo hi hop
  split at h
  ·cases h
  ·exact slZ_ok hΓ hop hw hc h r hr
 ·rename_i t x hop;exact slE_ok hΓ hop hw hc h r
 ·rename_i t x hi mx hop;exact slQ_ok hΓ hop hw hc h r hr
 ·rename_i c x y hop
  have hd:∀ c,o.op≠.defer c:=by rw [hop];intro c hh;cases hh
  split at h
  ·rename_i hb
   unfold pkR at h
   split at h
   ·rename_i v hx
    cases h
    refine nA rfl hd fun S w η a hi ho=>?_
    have hcv:a.eval c=.bool true:=VRep.bool.1 (cA hw hc hb (by rw [hop];simp [Op.operands]) ho).2
    exact ⟨_,by rw [rJ hop hcv];rfl,cA hw hc hx (by rw [hop];simp [Op.operands]) ho⟩
   ·cases h
  ·rename_i hb
   unfold pkR at h
   split at h
   ·rename_i v hx
    cases h
    refine nA rfl hd fun S w η a hi ho=>?_
    have hcv:a.eval c=.bool false:=VRep.bool.1 (cA hw hc hb (by rw [hop];simp [Op.operands]) ho).2
    exact ⟨_,by rw [rJ hop hcv];rfl,cA hw hc hx (by rw [hop];simp [Op.operands]) ho⟩
   ·cases h
  ·cases h
 ·rename_i c hop
  split at h
  ·rename_i f args hcal ha
   split at h
   ·rename_i g hf
    exact callOw_ok hΓ hop hcal ha hw hc hf h r hr
   ·cases h
  ·cases h
 ·cases h
end
section
variable {Γ:Tabs} {H H':PH} {nx:Nat} {e:Ev} {ctx:Ctx} {o:Oper}
theorem op6_fl {R:RdR} (h:op6 Γ o e ctx H nx=some R):R.fl≠0:=by
 unfold op6 at h
 split at h
 ·split at h
  ·unfold bxF at h;(repeat' split at h)<;>first | (cases h;exact sZ _) | cases h
  ·cases h
 ·split at h
  ·unfold ixW at h;(repeat' split at h)<;>first | (cases h;exact sZ _) | cases h
  ·cases h
 ·split at h
  ·cases h
  ·unfold slZ at h;(repeat' split at h)<;>first | (cases h;exact sZ _) | cases h
 ·unfold slE at h;(repeat' split at h)<;>first | (cases h;exact sZ _) | cases h
 ·unfold slQ at h;(repeat' split at h)<;>first | (cases h;exact sZ _) | cases h
 ·split at h
  ·unfold pkR at h;(repeat' split at h)<;>first | (cases h;exact sZ _) | cases h
  ·unfold pkR at h;(repeat' split at h)<;>first | (cases h;exact sZ _) | cases h
  ·cases h
 ·split at h
  ·split at h
   ·unfold callOw at h;(repeat' split at h)<;>first | (cases h;exact sZ _) | cases h
   ·cases h
  ·cases h
 ·cases h
theorem slZ_loc {t:TypeId} {x:Operand} {lo hi:Option Operand} (hm:∀ pv,ev e ctx x=some pv→Ag pv.ids H H'):slZ Γ e ctx t x lo hi H' nx=slZ Γ e ctx t x lo hi H nx:=by
 unfold slZ
 split
 ·rename_i pv _ hx
  simp only [mE (hm _ hx),qH (hm _ hx)]
 ·rfl
theorem slE_loc {t:TypeId} {x:Operand} (hm:∀ pv,ev e ctx x=some pv→Ag pv.ids H H'):slE Γ e ctx t x H' nx=slE Γ e ctx t x H nx:=by
 unfold slE
 split
 ·rename_i pv _ hx
  simp only [mE (hm _ hx)];rfl
 ·rfl
theorem slQ_loc {t:TypeId} {x hi mx:Operand} (hm:∀ pv,ev e ctx x=some pv→Ag pv.ids H H'):slQ Γ e ctx t x hi mx H' nx=slQ Γ e ctx t x hi mx H nx:=by
 unfold slQ
 split
 ·rename_i pv _ hx
  simp only [mE (hm _ hx),qH (hm _ hx)]
 ·rfl
theorem callOw_loc {g:FuncId} {args:List RV} (h1:Ag (RVs.ids args) H H'):callOw Γ g args H' nx=callOw Γ g args H nx:=by
 unfold callOw
 split
 ·rename_i s _
  have h3:uB (yF H' args) s.args args=uB (yF H args) s.args args:=by
   rw [rF,rF,dRs_loc h1]
   exact conRs_loc (h1.app _)
  rw [h3,dRs_loc h1]
 ·rfl
theorem opIdsH {x:Operand} {r:List Operand} {pv:PV} (ho:o.op.operands.toList=x::r) (hx:ev e ctx x=some pv) (h:Ag (dD e ctx o) H H'):Ag pv.ids H H':=by
 unfold dD at h
 rw [ho] at h
 unfold rB at h
 rw [hx] at h
 exact h.left
theorem op6_nice:op6.Nice:=by
 constructor
 ·intro Γ o e ctx H H' nx h
  unfold op6
  split
  ·rfl
  ·rfl
  ·rename_i t x lo hi hop
   split
   ·rfl
   ·exact slZ_loc fun pv hx=>opIdsH (r:=lo.toList++hi.toList) (by rw [hop];cases lo<;>cases hi<;>rfl) hx h
  ·rename_i t x hop
   exact slE_loc fun pv hx=>opIdsH (r:=[.const (.int .i64 (.ofNat 0)),.const (.int .i64 (.ofNat 0))]) (by rw [hop];rfl) hx h
  ·rename_i t x hi mx hne hop
   exact slQ_loc fun pv hx=>opIdsH (r:=[hi,mx]) (by rw [hop];rfl) hx h
  ·rfl
  ·rename_i c hop
   split
   ·rename_i f args hcal ha
    have h1:Ag (RVs.ids args) H H':=kI ha (by
     have h2:Ag (rB e ctx (f::c.args.toList)) H H':=by
      have:o.op.operands.toList=f::c.args.toList:=by simp [hop,Op.operands,Call.operands,hcal]
      rw [← this];exact h
     unfold rB at h2
     exact h2.right)
    split
    ·exact callOw_loc h1
    ·rfl
   ·rfl
  ·rfl
 ·intro Γ o e ctx H nx R h h0 H'
  exact absurd h0 (op6_fl h)
end
def OPS6:OpF:=OPS4.or op6
theorem OPS6_sound:OPS6.Sound:=OPS4_sound.or op6_sound
theorem OPS6_nice:OPS6.Nice:=OPS4_nice.or' op6_nice fun Γ o e ctx H nx R h h0 hn H'=>absurd h0 (op6_fl h)

def byteM (s:List UInt8) (i:Int):Option Int:=match decide (0≤i) with
 | true=>match s[i.toNat]? with
  | some b=>some (b.toNat:Int)
  | none=>none
 | false=>none
def lG (x y:List UInt8):Option (List UInt8):=match Nat.ble (x.length+y.length) 9223372036854775807 with
 | true=>some (x++y)
 | false=>none
def sltM (x y:List UInt8):Bool:=Op.bytesLess x y
def stS (op:BinOp) (x y:List UInt8) (H:PH) (nx:Nat):Option RdR:=match op with
 | .add=>some (rdr (lG x y) ([]:List UInt8) (fun r=>.c (.d .str r)) H nx)
 | .eql=>some (rdu (.c (.d .bool (kB x y))) H nx)
 | .neq=>some (rdu (.c (.d .bool (notM (kB x y)))) H nx)
 | .lss=>some (rdu (.c (.d .bool (sltM x y))) H nx)
 | .leq=>some (rdu (.c (.d .bool (orM (sltM x y) (kB x y)))) H nx)
 | .gtr=>some (rdu (.c (.d .bool (notM (orM (sltM x y) (kB x y))))) H nx)
 | .geq=>some (rdu (.c (.d .bool (notM (sltM x y)))) H nx)
 | _=>none
def slS (Γ:Tabs) (e:Ev) (ctx:Ctx) (t:TypeId) (x:Operand) (lo hi:Option Operand) (H:PH) (nx:Nat):Option RdR:=match lk Γ.ty t,ev e ctx x with
 | some ti,some (.r (.c (.d .str s)))=>match ti.kind,bndR e ctx 0 lo,bndR e ctx (lenM s) hi with
  | .str,some l,some h=>some (rdr (pA s l h) ([]:List UInt8) (fun r=>.c (.d .str r)) H nx)
  | _,_,_=>none
 | _,_=>none
def ixS (Γ:Tabs) (t:TypeId) (x i:Option PV) (H:PH) (nx:Nat):Option RdR:=match lk Γ.ty t,x,i with
 | some ti,some (.r (.c (.d .str s))),some (.r (.c (.d (.int _) n)))=>match ti.kind with
  | .str=>some (rdr (byteM s n) (0:Int) (fun v=>.c (.d (.int .u8) v)) H nx)
  | _=>none
 | _,_,_=>none
section
variable {P:Program} {Γ:Tabs} {B:Nat} {o:Oper} {e:Ev} {ctx:Ctx} {H:PH} {nx:Nat} {S:Cells} {w:World} {η:Eta}
theorem byteM_some {s:List UInt8} {i v:Int} (h:byteM s i=some v):∃ (n:Nat) (b:UInt8),i=n∧s[n]? = some b∧v=(b.toNat:Int):=by
 unfold byteM at h
 split at h
 ·rename_i h0
  have h0:=oD h0
  split at h
  ·rename_i b hb
   cases h
   exact ⟨i.toNat,b,by omega,hb,rfl⟩
  ·cases h
 ·cases h
theorem catM_some {x y r:List UInt8} (h:lG x y=some r):x.length+y.length≤9223372036854775807∧r=x++y:=by
 unfold lG at h
 split at h
 ·rename_i h0
  cases h
  exact ⟨nL h0,rfl⟩
 ·cases h
theorem PM.str {x:List UInt8} {v:Value}:PM S w η (.c (.d .str x)) v↔v=.string ⟨x.toArray⟩∧x.length≤maxLen :=
 ⟨fun h=>VRep.str.1 h.2,fun h=>⟨rfl,VRep.str.2 h⟩⟩
theorem stS_ok {op:BinOp} {t z:TypeId} {x y:Operand} {a b:List UInt8} {rd:Option Nat} {R:RdR} (hop:o.op=.binOp op t x y z) (hw:Wf e) (hc:CtxH e ctx) (hx:ev e ctx x=some (.r (.c (.d .str a)))) (hy:ev e ctx y=some (.r (.c (.d .str b)))) (h:stS op a b H nx=some R) (r:R.T) (hr:R.m=some r):R.OK P rd B o e (H,nx) r:=by
 have hd:∀ c,o.op≠.defer c:=by rw [hop];intro c hh;cases hh
 have hm1:x∈o.op.operands.toList:=by rw [hop];simp [Op.operands]
 have hm2:y∈o.op.operands.toList:=by rw [hop];simp [Op.operands]
 unfold stS at h
 split at h
 ·cases h
  obtain ⟨r',hr'⟩:∃ r':List UInt8,r'=r:=⟨r,rfl⟩
  subst hr'
  refine nA rfl hd fun S w η a' hi ho=>?_
  obtain ⟨hv1,_⟩:=PM.str.1 (cA hw hc hx hm1 ho)
  obtain ⟨hv2,_⟩:=PM.str.1 (cA hw hc hy hm2 ho)
  obtain ⟨h1,h2⟩:=catM_some hr
  refine ⟨.string ⟨r'.toArray⟩,?_,PM.str.2 ⟨rfl,by rw [h2,lA];simpa [maxLen] using h1⟩⟩
  have:=run_string_add_sum (P:=P) w ⟨a.toArray⟩ ⟨b.toArray⟩ (by simpa [ByteArray.size] using h1)
  rw [h2]
  simp [execOp,hop,hv1,hv2,eqGuard,binOp_string_add,this,ByteArray.mk_append_mk]
 ·cases h
  refine nA rfl hd fun S w η a' hi ho=>?_
  obtain ⟨hv1,_⟩:=PM.str.1 (cA hw hc hx hm1 ho)
  obtain ⟨hv2,_⟩:=PM.str.1 (cA hw hc hy hm2 ho)
  exact ⟨.bool (a==b),by simp [execOp,hop,hv1,hv2,eqGuard,Go.binOp,Op.stringOp,ByteArray.toList_mk],PM.bool.2 (congrArg Value.bool (by rw [Bool.eq_iff_iff];simp [kB,notM,orM,sltM]))⟩
 ·cases h
  refine nA rfl hd fun S w η a' hi ho=>?_
  obtain ⟨hv1,_⟩:=PM.str.1 (cA hw hc hx hm1 ho)
  obtain ⟨hv2,_⟩:=PM.str.1 (cA hw hc hy hm2 ho)
  exact ⟨.bool (!(a==b)),by simp [execOp,hop,hv1,hv2,eqGuard,Go.binOp,Op.stringOp,ByteArray.toList_mk],PM.bool.2 (congrArg Value.bool (by rw [Bool.eq_iff_iff];simp [kB,notM,orM,sltM]))⟩
 ·cases h
  refine nA rfl hd fun S w η a' hi ho=>?_
  obtain ⟨hv1,_⟩:=PM.str.1 (cA hw hc hx hm1 ho)
  obtain ⟨hv2,_⟩:=PM.str.1 (cA hw hc hy hm2 ho)
  exact ⟨.bool (Op.bytesLess a b),by simp [execOp,hop,hv1,hv2,eqGuard,Go.binOp,Op.stringOp,ByteArray.toList_mk],PM.bool.2 rfl⟩
 ·cases h
  refine nA rfl hd fun S w η a' hi ho=>?_
  obtain ⟨hv1,_⟩:=PM.str.1 (cA hw hc hx hm1 ho)
  obtain ⟨hv2,_⟩:=PM.str.1 (cA hw hc hy hm2 ho)
  exact ⟨.bool (Op.bytesLess a b||a==b),by simp [execOp,hop,hv1,hv2,eqGuard,Go.binOp,Op.stringOp,ByteArray.toList_mk],PM.bool.2 (congrArg Value.bool (by rw [Bool.eq_iff_iff];simp [kB,notM,orM,sltM]))⟩
 ·cases h
  refine nA rfl hd fun S w η a' hi ho=>?_
  obtain ⟨hv1,_⟩:=PM.str.1 (cA hw hc hx hm1 ho)
  obtain ⟨hv2,_⟩:=PM.str.1 (cA hw hc hy hm2 ho)
  exact ⟨.bool (!(Op.bytesLess a b||a==b)),by simp [execOp,hop,hv1,hv2,eqGuard,Go.binOp,Op.stringOp,ByteArray.toList_mk],PM.bool.2 (congrArg Value.bool (by rw [Bool.eq_iff_iff];simp [kB,notM,orM,sltM]))⟩
 ·cases h
  refine nA rfl hd fun S w η a' hi ho=>?_
  obtain ⟨hv1,_⟩:=PM.str.1 (cA hw hc hx hm1 ho)
  obtain ⟨hv2,_⟩:=PM.str.1 (cA hw hc hy hm2 ho)
  exact ⟨.bool (!(Op.bytesLess a b)),by simp [execOp,hop,hv1,hv2,eqGuard,Go.binOp,Op.stringOp,ByteArray.toList_mk],PM.bool.2 rfl⟩
 ·cases h
theorem slS_ok (hΓ:TabOK P Γ) {rd:Option Nat} {t:TypeId} {x:Operand} {lo hi_:Option Operand} {R:RdR} (hop:o.op=.slice t x lo hi_ none) (hw:Wf e) (hc:CtxH e ctx) (h:slS Γ e ctx t x lo hi_ H nx=some R) (r:R.T) (hr:R.m=some r):R.OK P rd B o e (H,nx) r:=by
 have hd:∀ c,o.op≠.defer c:=by rw [hop];intro c hh;cases hh
 unfold slS at h
 split at h
 ·rename_i ti s hl hx
  split at h
  ·rename_i l hh hk hlo hhi
   have hkd:=(hΓ.ty _ _ hl).kind
   rw [hk] at hkd
   cases h
   refine nA rfl hd fun S w η a hi ho=>?_
   obtain ⟨b1,b2,b3,hys⟩:=qC hr
   obtain ⟨hv1,hv2⟩:=PM.str.1 (cA hw hc hx (by rw [hop];simp [Op.operands]) ho)
   have hlo:=kF (a:=a) hw hc ho (fun y hy=>by rw [hop];simp [Op.operands,hy]) hlo
   have hhi:=kF (a:=a) hw hc ho (fun y hy=>by rw [hop];simp [Op.operands,hy]) hhi
   obtain ⟨l',rfl⟩:∃ l':Nat,l=l':=⟨l.toNat,by omega⟩
   obtain ⟨h',rfl⟩:∃ h':Nat,hh=h':=⟨hh.toNat,by omega⟩
   simp only [Int.toNat_natCast] at hys
   have h1:l'≤h':=by omega
   have h2:h'≤s.length:=by omega
   have hsz:(ByteArray.mk s.toArray).size=s.length:=by simp [ByteArray.size]
   have hex:(ByteArray.mk s.toArray).extract l' h'=ByteArray.mk r.toArray:=by
    rw [Lib.extract_eq,hys]
    simp only [List.drop_take]
   have hrun:(execOp a.eval o).run P w=.ok (.value (.string ((ByteArray.mk s.toArray).extract l' h'))) w:=by
    rcases hlo with ⟨rfl,hl0⟩ | ⟨y,rfl,f0⟩
    ·have hl0:l'=0:=by omega
     subst hl0
     rcases hhi with ⟨rfl,hh0⟩ | ⟨y2,rfl,f1⟩
     ·have hh0:h'=s.length:=by unfold lenM at hh0;omega
      subst hh0
      simp [execOp,hop,hv1,Instr.sliceAt,Instr.slice,hkd w,Instr.sliceBounds,hsz]
      rw [hex,hys]
      simp
     ·simp [execOp,hop,hv1,f1,Instr.sliceAt,Instr.slice,hkd w,Instr.sliceBounds,Instr.sliceBound,asIntOf,hsz,h2]
    ·rcases hhi with ⟨rfl,hh0⟩ | ⟨y2,rfl,f1⟩
     ·have hh0:h'=s.length:=by unfold lenM at hh0;omega
      subst hh0
      simp [execOp,hop,hv1,f0,Instr.sliceAt,Instr.slice,hkd w,Instr.sliceBounds,Instr.sliceBound,asIntOf,hsz,h1]
     ·simp [execOp,hop,hv1,f0,f1,Instr.sliceAt,Instr.slice,hkd w,Instr.sliceBounds,Instr.sliceBound,asIntOf,hsz,h1,h2]
   refine ⟨_,hrun,?_⟩
   rw [hex]
   refine PM.str.2 ⟨rfl,?_⟩
   rw [hys]
   simp only [List.length_drop,lT]
   omega
  ·cases h
 ·cases h
theorem ixS_ok (hΓ:TabOK P Γ) {rd:Option Nat} {t:TypeId} {x i:Operand} {R:RdR} (hop:o.op=.index t x i) (hw:Wf e) (hc:CtxH e ctx) (h:ixS Γ t (ev e ctx x) (ev e ctx i) H nx=some R) (r:R.T) (hr:R.m=some r):R.OK P rd B o e (H,nx) r:=by
 have hd:∀ c,o.op≠.defer c:=by rw [hop];intro c hh;cases hh
 unfold ixS at h
 split at h
 ·rename_i ti s k n hl hx hi
  split at h
  ·rename_i hk
   have hkd:=(hΓ.ty _ _ hl).kind
   rw [hk] at hkd
   cases h
   refine nA rfl hd fun S w η a hiv ho=>?_
   obtain ⟨hv1,_⟩:=PM.str.1 (cA hw hc hx (by rw [hop];simp [Op.operands]) ho)
   obtain ⟨hv2,_⟩:=PM.int.1 (cA hw hc hi (by rw [hop];simp [Op.operands]) ho)
   obtain ⟨m,b,rfl,hb,rfl⟩:=byteM_some hr
   have hlt:=(gS.1 hb).1
   have hg:(ByteArray.mk s.toArray)[m]? = some b:=by
    rw [ByteArray.getElem?_lt' _ _ (by simpa [ByteArray.size] using hlt)]
    have:=(gS.1 hb).2
    rw [← this]
    rfl
   refine ⟨.int .u8 b.toNat,by simp [execOp,hop,hv1,hv2,Instr.index,hkd w,asIntOf,hg],PM.int.2 ⟨rfl,has_u8.2 ⟨Int.natCast_nonneg _,?_⟩⟩⟩
   have:=b.toNat_lt
   omega
  ·cases h
 ·cases h
end
section
variable {P:Program} {Γ:Tabs} {B:Nat} {o:Oper} {e:Ev} {ctx:Ctx} {H:PH} {nx:Nat} {S:Cells} {w:World} {η:Eta}
end
def op7:OpF:=fun Γ o e ctx H nx=>match o.op with
 | .binOp op t x y _=>match ev e ctx x,ev e ctx y with
  | some (.r (.c (.d .str a))),some (.r (.c (.d .str b)))=>stS op a b H nx
  | _,_=>none
 | .slice t x lo hi none=>slS Γ e ctx t x lo hi H nx
 | .index t x i=>ixS Γ t (ev e ctx x) (ev e ctx i) H nx
 | _=>none
section
variable {Γ:Tabs} {o:Oper} {e:Ev} {ctx:Ctx} {H H':PH} {nx:Nat}
theorem op7_sound:OpF.Sound op7:=by
 intro P Γ hΓ rd B o e ctx H nx R h hw hc r hr
 unfold op7 at h
 split at h
 ·rename_i op t x y z hop
  split at h
  ·rename_i a b hx hy
   exact stS_ok hop hw hc hx hy h r hr
  ·cases h
 ·rename_i t x lo hi hop
  exact slS_ok hΓ hop hw hc h r hr
 ·rename_i t x i hop
  exact ixS_ok hΓ hop hw hc h r hr
 ·cases h
theorem op7_fl {R:RdR} (h:op7 Γ o e ctx H nx=some R):R.fl≠0:=by
 unfold op7 at h
 split at h
 ·split at h
  ·unfold stS at h;(repeat' split at h)<;>first | (cases h;exact sZ _) | cases h
  ·cases h
 ·unfold slS at h;(repeat' split at h)<;>first | (cases h;exact sZ _) | cases h
 ·unfold ixS at h;(repeat' split at h)<;>first | (cases h;exact sZ _) | cases h
 ·cases h
theorem op7_nice:op7.Nice:=by
 constructor
 ·intro Γ o e ctx H H' nx h
  unfold op7
  split
  ·rfl
  ·rfl
  ·rfl
  ·rfl
 ·intro Γ o e ctx H nx R h h0 H'
  exact absurd h0 (op7_fl h)
end
def OPS7:OpF:=OPS6.or op7
theorem OPS7_sound:OPS7.Sound:=OPS6_sound.or op7_sound
theorem OPS7_nice:OPS7.Nice:=OPS6_nice.or' op7_nice fun Γ o e ctx H nx R h h0 hn H'=>absurd h0 (op7_fl h)
end Go.PE
