/-
 The pure machine: arrays that are owned, read and changed without being frozen.
 Conditions: none; it holds over any program P.
-/
import Derived.Test.YtobfnefajpiakaaDoorZ4
import Derived.Lib.AppendStr
set_option linter.all false
namespace Go.PE
open Go Go.RowKit Go.Abs
set_option linter.unusedVariables false
set_option linter.unusedSimpArgs false
variable [db:DB] [ea:EA]

def keepB (Γ:Tabs):Bool:=memN Γ.own 5000000
def apB (Γ:Tabs) (t:TypeId) (ps:PV) (j:Nat) (H:PH) (nx:Nat):Option RdR:=match elOf Γ t,lk H j with
 | some (_,bts,T),some (.arr T' ys)=>match castT (.list T) (t':=.list T') ys,T.flat with
  | some ys,true=>match ps with
   | .r (.c (.h id))=>match lk H id with
    | some (.arr T2 xs)=>match castT (.list T) (t':=.list T2) xs,Nat.blt id nx&&!(Nat.beq id j) with
     | some xs,true=>some (wr (appM bts xs ys) xs (fun _=>.c (.h nx)) (fun zs=>[(nx,.arr T zs),(id,.gone)]) (nx+1))
     | _,_=>none
    | _=>none
   | .r (.c (.q _ []))=>some (wr (appM bts [] ys) [] (fun _=>.c (.h nx)) (fun zs=>[(nx,.arr T zs)]) (nx+1))
   | .r (.c (.l .nilS))=>some (wr (appM bts [] ys) [] (fun _=>.c (.h nx)) (fun zs=>[(nx,.arr T zs)]) (nx+1))
   | _=>none
  | _,_=>none
 | _,_=>none
def hasH:List RV→Bool
 | []=>false
 | .c (.h _)::_=>true
 | _::r=>hasH r
def owB (Γ:Tabs) (g:FuncId) (args:List RV) (H:PH) (nx:Nat):Option RdR:=match lk Γ.ow g,hasH args with
 | some s,true=>match conRs (fzRs H args) s.args args,s.t.flat with
  | some x,true=>some (wr (s.m x) [] (fun _=>.c (.h nx)) (fun ys=>[(nx,.arr s.t ys)]) (nx+1))
  | _,_=>none
 | _,_=>none
def opB:OpF:=fun Γ o e ctx H nx=>match keepB Γ,o.op with
 | true,.call c=>match c.callee with
  | .builtin .append=>match c.args.toList,c.argTypes.toList with
   | [s,x],[t,t']=>match ev e ctx s,ev e ctx x,Nat.beq t t' with
    | some ps,some (.r (.c (.h j))),true=>apB Γ t ps j H nx
    | _,_,_=>none
   | _,_=>none
  | .value f=>match argsE e ctx c.args.toList,ev e ctx f with
   | some args,some (.r (.c (.f g [] [])))=>owB Γ g args H nx
   | _,_=>none
  | _=>none
 | _,_=>none
section
variable {P:Program} {Γ:Tabs} {B:Nat} {S:Cells} {w:World} {η:Eta} {H H':PH} {nx:Nat} {o:Oper} {e:Ev} {ctx:Ctx}
theorem ArrH.flat {F S S':Cells} {w:World} {u:Value} {t:Ty} {xs:List t.den} (hf:t.flat=true) (h:ArrH F S w u t xs):ArrH F S' w u t xs:=by
 obtain ⟨base,cap,h1,h2,h3,h4⟩:=h
 refine ⟨base,cap,h1,h2,h3,h4.imp (fun h=>h) ?_⟩
 rintro ⟨b,off,g1,g2,g3,g4⟩
 refine ⟨b,off,g1,g2,g3,fun i x hx=>?_⟩
 obtain ⟨es,q1,q2⟩:=g4 i x hx
 exact ⟨es,Rep.flat hf q1,q2⟩
theorem apB_key {id el t ty:TypeId} {T:Ty} {bts:Nat} {xs ys:List T.den} {F Fj:Cells} {u x:Value} (hS:SlP P t el T bts) (hf:T.flat=true) (hB:B≤w.heap.size) (hF:∀ b o,F b o→B≤b∧b<w.heap.size∧¬ S b o) (hFj:∀ b o,Fj b o→B≤b∧b<w.heap.size∧¬ S b o) (hd:∀ b o,F b o→¬ Fj b o) (hin:InLt S w)
  (hA:ArrH F S w u T xs) (hj:ArrH Fj S w x T ys) (hb:(xs.length+ys.length)*bts≤140737488355328):∃ (v:Value) (w':World) (F':Cells),(Builtin.append_ #[t,t] ty #[u,x]).run P w=.ok v w'∧v.oneCell'=true ∧
   Grow B S w S w'∧ArrH F' S w' v T (xs++ys)∧(∀ b o,F' b o→F b o∨w.heap.size≤b)∧(∀ b o,F' b o→b<w'.heap.size∧¬ S b o∧¬ Fj b o) ∧
   (∀ b o,b<w.heap.size→¬ F b o→w'.cell? ⟨b,o,none⟩=w.cell? ⟨b,o,none⟩∧w'.frozen? ⟨b,o,none⟩=w.frozen? ⟨b,o,none⟩) ∧
   ∀ b,b<w.heap.size→(∀ o,¬ F b o)→w'.heap[b]? = w.heap[b]? := by
 have hS1:InLt (fun b o=>S b o∨Fj b o) w:=fun b o h=>h.elim (hin b o) fun h=>(hFj b o h).2.1
 obtain ⟨v,w',F',g1,g2,g3,g4,g5,g6,g7,g8⟩:=ArrH.append' (ty:=ty) (S:=fun b o=>S b o∨Fj b o) hS hB (fun b o h=>⟨(hF b o h).1,(hF b o h).2.1,fun hs=>hs.elim (hF b o h).2.2 (hd b o h)⟩) hS1 (hA.flat hf) (hj.vrep (fun _ _ h=>.inl h) fun _ _ h=>.inr h) hb
 refine ⟨v,w',F',g1,g2,⟨g3.below,⟨fun _ _ h=>h,fun b o h=>g3.keep.cell b o (.inl h)⟩,fun b o h=>Nat.lt_of_lt_of_le (hin b o h) g3.below.size,fun b o h=>.inl h,g3.lk⟩,g4.flat hf,g5,fun b o h=>⟨(g6 b o h).1,fun hs=>(g6 b o h).2 (.inl hs),fun hs=>(g6 b o h).2 (.inr hs)⟩,g7,g8⟩
theorem apB_ok (hΓ:TabOK P Γ) {rd:Option Nat} {t:TypeId} {s x:Operand} {ps:PV} {j:Nat} {R:RdR} (hop:o.op=.call { callee:=.builtin .append,args:=#[s,x],argTypes:=#[t,t] }) (hw:Wf e) (hc:CtxH e ctx) (hs:ev e ctx s=some ps) (hx:ev e ctx x=some (.r (.c (.h j))))
  (h:apB Γ t ps j H nx=some R) (r:R.T) (hr:R.m=some r):R.OK P rd B o e (H,nx) r:=by
 have hdf:∀ c,o.op≠.defer c:=by rw [hop];intro c hh;cases hh
 have hm1:s∈o.op.operands.toList:=by rw [hop];simp [Op.operands,Call.operands]
 have hm2:x∈o.op.operands.toList:=by rw [hop];simp [Op.operands,Call.operands]
 have empty:∀ {bts el:Nat} {T:Ty} {ys:List T.den} (hS:SlP P t el T bts) (hf:T.flat=true) (hlj:lk H j=some (.arr T ys)) (hse:∀ S w η (a:Act),En.Only (lk e) (opReads o) S w η a.tmps→∃ base,a.eval s=.slice base 0 0) (zs:List T.den),appM bts [] ys=some zs →
   RdR.OK P rd B o e (H,nx) (wr (appM bts [] ys) [] (fun _=>.c (.h nx)) (fun zs=>[(nx,.arr T zs)]) (nx+1)) zs:=by
  intro bts el T ys hS hf hlj hse zs hz
  obtain ⟨hb,hzs⟩:=appM_some hz
  refine ok_fl2 rfl hdf fun S w η a hi hlen ho=>?_
  have hk0:η nx=none:=hlen nx (nR _) (Nat.lt_succ_self _)
  obtain ⟨f1,f2⟩:=ev_sound hw hc hx hm2 ho
  obtain ⟨base,hbase⟩:=hse S w η a ho
  obtain ⟨Fj,hFj,u,k1,hAj⟩:=hi.read hlj
  rw [f1] at k1
  cases k1
  have hA:ArrH (fun _ _=>False) S w (a.eval s) T []:=⟨base,0,hbase,Nat.zero_le _,Nat.zero_le _,.inl ⟨rfl,fun _ _ h=>h⟩⟩
  obtain ⟨v,w',F',g1,g2,g3,g4,g5,g6,g7,g8⟩:=apB_key (id:=j) (ty:=o.type) hS hf hi.base (fun _ _ h=>h.elim) hFj (fun _ _ h=>h.elim) hi.inw hA hAj hb
  refine ⟨v,w',S,η.add nx v,.inl (run_appendV hop g1),g3,.push hk0 _,Out.add _ _ _,?_,?_⟩
  ·show HInv B (η.add nx v) ((nx,.arr T zs)::H) S w'
   rw [hzs]
   exact hi.new hk0 g3.below.size g3.lt g3.keep (fun _ _ h=>.inl h) (fun b hb=>g8 b hb fun _ h=>h) F' ⟨v,Eta.add_same _ _ _,g4⟩ fun b o h=>⟨(g5 b o h).resolve_left fun h=>h,(g6 b o h).1,(g6 b o h).2.1⟩
  ·show CM S w' (η.add nx v) (.h nx) v
   exact ⟨Eta.add_same _ _ _,g2⟩
 unfold apB at h
 split at h
 ·rename_i el bts T T' ys' hel hlj
  have hS:=elOf_sound hΓ hel
  split at h
  ·rename_i ys hcast hf
   obtain ⟨hT,hxs⟩:=castT_some hcast
   cases hT
   have hxs:ys'=ys:=hxs
   subst hxs
   split at h
   ·rename_i id
    split at h
    ·rename_i T2 xs' hli
     split at h
     ·rename_i xs hcast2 hid
      cases h
      obtain ⟨hT,hxs⟩:=castT_some hcast2
      cases hT
      have hxs:xs'=xs:=hxs
      subst hxs
      simp only [bA,Bool.not_eq_true'] at hid
      have hlt:id<nx:=nL hid.1
      have hne:id≠j:=fun h=>by
       have:=hid.2
       rw [h,Nat.beq_refl] at this
       cases this
      obtain ⟨hb,hzs⟩:=appM_some hr
      refine ok_fl2 rfl hdf fun S w η a hi hlen ho=>?_
      have hk0:η nx=none:=hlen nx (nR _) (Nat.lt_succ_self _)
      obtain ⟨f1,f2⟩:=ev_sound hw hc hs hm1 ho
      obtain ⟨q1,q2⟩:=ev_sound hw hc hx hm2 ho
      have key:∀ (F:Nat→Cells),(∀ i j,i≠j→∀ b o,F i b o→¬ F j b o)→(∀ i b o,F i b o→B≤b∧b<w.heap.size∧¬ S b o)→(∀ i po,lk H i=some po→POH η i (F i) S w po)→∃ (v:Value) (w':World) (F':Cells),(Builtin.append_ #[t,t] o.type #[a.eval s,a.eval x]).run P w=.ok v w'∧v.oneCell'=true ∧
        Grow B S w S w'∧ArrH F' S w' v T (xs'++ys')∧(∀ b o,F' b o→F id b o∨w.heap.size≤b)∧(∀ b o,F' b o→b<w'.heap.size∧¬ S b o∧¬ F j b o) ∧
        (∀ b o,b<w.heap.size→¬ F id b o→w'.cell? ⟨b,o,none⟩=w.cell? ⟨b,o,none⟩∧w'.frozen? ⟨b,o,none⟩=w.frozen? ⟨b,o,none⟩) ∧
        ∀ b,b<w.heap.size→(∀ o,¬ F id b o)→w'.heap[b]? = w.heap[b]? := by
       intro F hdj hF hP
       obtain ⟨u,k1,hA⟩:=hP id _ hli
       obtain ⟨u2,k2,hAj⟩:=hP j _ hlj
       rw [f1] at k1
       cases k1
       rw [q1] at k2
       cases k2
       exact apB_key (id:=id) (ty:=o.type) hS hf hi.base (hF id) (hF j) (hdj id j hne) hi.inw hA hAj hb
      have hi':=hi
      obtain ⟨_,_,F0,hdj0,hF0,hP0⟩:=hi'
      obtain ⟨v,w',F1,g1,g2,g3,_⟩:=key F0 hdj0 hF0 hP0
      refine ⟨v,w',S,η.add nx v,.inl (run_appendV hop g1),g3,.push hk0 _,Out.add _ _ _,?_,?_⟩
      ·show HInv B (η.add nx v) ([(nx,.arr T r),(id,.gone)]++H) S w'
       rw [hzs]
       refine hi.chg (fun i=>i=id∨i=nx) g3.below.size g3.lt g3.keep (.push hk0 _) (fun i ti po h=>?_) fun F hdj hF hP=>?_
       ·rw [List.cons_append,List.cons_append,List.nil_append,lk_ne _ _ (fun h=>ti (.inr h.symm)),lk_ne _ _ (fun h=>ti (.inl h.symm))] at h;exact h
       ·obtain ⟨v2,w2,F',p1,p2,p3,p4,p5,p6,p7,p8⟩:=key F hdj hF hP
        rw [g1] at p1
        cases p1
        refine ⟨⟨fun b o h=>.inl h,fun b o hb h=>p7 b o hb (h id (.inl rfl)),fun b r _ h hr=>by rw [p8 b (aS.1 hr).1 (h id (.inl rfl))];exact hr⟩,fun i=>if i=nx then F' else fun _ _=>False,fun i po ti h=>?_,fun i b o ti hf=>?_,fun i j' ti tj hij b o hf hg=>?_⟩
        ·rcases ti with rfl | rfl
         ·rw [List.cons_append,List.cons_append,List.nil_append,lk_ne _ _ (by omega),lk_same] at h
          cases h
          show ∀ b o,¬ (if i=nx then F' else fun _ _=>False) b o
          rw [if_neg (by omega)]
          exact fun _ _ h=>h
         ·rw [List.cons_append,lk_same] at h
          cases h
          show POH (η.add i v) i (if i=i then F' else fun _ _=>False) S w' _
          rw [if_pos rfl]
          exact ⟨v,Eta.add_same _ _ _,p4⟩
        ·by_cases h:i=nx
         ·simp only [if_pos h] at hf
          exact ⟨(p5 b o hf).imp (fun h=>⟨id,.inl rfl,h⟩) fun h=>h,(p6 b o hf).1,(p6 b o hf).2.1⟩
         ·simp only [if_neg h] at hf
        ·by_cases h:i=nx
         ·have hj:¬ (j'=nx):=by omega
          simp only [if_neg hj] at hg
         ·simp only [if_neg h] at hf
      ·show CM S w' (η.add nx v) (.h nx) v
       exact ⟨Eta.add_same _ _ _,g2⟩
     ·cases h
    ·cases h
   ·cases h
    refine empty hS hf hlj (fun S w η a ho=>?_) r hr
    obtain ⟨_,base,hh⟩:=ev_sound hw hc hs hm1 ho
    exact ⟨base,hh⟩
   ·cases h
    exact empty hS hf hlj (fun S w η a ho=>⟨none,ev_sound hw hc hs hm1 ho⟩) r hr
   ·cases h
  ·cases h
 ·cases h
theorem arr_put {id k:Nat} {T:Ty} {xs ys:List T.den} {news:List Value} {u:Value} (hi:HInv B η H S w) (hl:lk H id=some (.arr T xs)) (hu:η id=some u) (hrl:RepL S w T ys news) (hle:k+ys.length≤xs.length) (h0:0<ys.length) :
  ∃ b off cap,u=.slice (some ⟨b,off,none⟩) xs.length cap∧xs.length≤cap∧(∀ P:Program,(storeCells ⟨b,off+k*T.size,none⟩ news 0).run P w=.ok () (w.setCells b (off+k*T.size) news))∧Grow B S w S (w.setCells b (off+k*T.size) news) ∧
   HInv B η ((id,.arr T (xs.take k++(ys++xs.drop (k+ys.length))))::H) S (w.setCells b (off+k*T.size) news):=by
 obtain ⟨F1,hF1,u',g1',hA⟩:=hi.read hl
 rw [hu] at g1'
 cases g1'
 have hnl:=hrl.length
 have hnpos:0<news.length:=by rw [hnl];exact Nat.mul_pos h0 T.size_pos
 obtain ⟨b,off,cap,hu1,hin,hg,hA'⟩:=ArrH.overAt (k:=k) hF1 hi.inw hA (ys:=ys) hle h0 hrl
 subst hu1
 have hcap:xs.length≤cap:=by obtain ⟨base,cap',e1,e2,_⟩:=hA;cases e1;exact e2
 refine ⟨b,off,cap,rfl,hcap,fun P=>?_,hg,?_⟩
 ·have:=run_storeCells_cells (P:=P) b (off+k*T.size) news 0 w (fun j hj=>by
   obtain ⟨_,⟨v,hv⟩,_⟩:=hin j hj
   rw [Nat.add_zero,hv];rfl) (fun j hj=>by rw [Nat.add_zero];exact (hin j hj).2.2) hrl.one
  rwa [Nat.add_zero] at this
 ·refine hi.set hl (by rw [size_setCells];exact nR _) hg.lt hg.keep fun G hG hAG=>?_
  obtain ⟨u2,q1,hAG⟩:=hAG
  rw [hu] at q1
  cases q1
  obtain ⟨b3,off3,cap3,hu3,hin3,hg3,hA3⟩:=ArrH.overAt (k:=k) hG hi.inw hAG (ys:=ys) hle h0 hrl
  cases hu3
  refine ⟨fun _ _ h=>.inl h,fun b' o' _ hn=>⟨World.cell?_setCells_out b news _ w ⟨b',o',none⟩ fun hb _=>?_,World.frozen?_setCells _ _ _ _ _⟩,fun b' _ hn=>heap_setCells_ne b news _ w b' fun h=>hn _ (h▸(hin3 0 hnpos).1),G,⟨_,hu,hA3⟩,fun b o h=>⟨.inl h,by rw [size_setCells];exact (hG b o h).2.1,(hG b o h).2.2⟩⟩
  simp only at hb ⊢
  subst hb
  rcases Nat.lt_or_ge o' (off+k*T.size) with h | h
  ·exact .inl h
  ·refine .inr (Nat.le_of_not_lt fun hlt=>hn ?_)
   have:=(hin3 (o'-(off+k*T.size)) (by omega)).1
   rwa [show off+k*T.size+(o'-(off+k*T.size))=o' by omega] at this
def zerosL {α:Type} (xs:List α) (d:α):List α:=List.replicate xs.length d
def clH (Γ:Tabs) (t:TypeId) (id:Nat) (H:PH) (nx:Nat):Option RdR:=match elOf Γ t,lk H id with
 | some (_,_,T),some (.arr T' xs)=>match castT (.list T) (t':=.list T') xs with
  | some xs=>some (wr (some ()) () (fun _=>.t []) (fun _=>[(id,.arr T (zerosL xs T.dflt))]) nx)
  | none=>none
 | _,_=>none
theorem clH_ok (hΓ:TabOK P Γ) {rd:Option Nat} {t:TypeId} {x:Operand} {id:Nat} {R:RdR} (hop:o.op=.call { callee:=.builtin .clear,args:=#[x],argTypes:=#[t] }) (hw:Wf e) (hc:CtxH e ctx) (hx:ev e ctx x=some (.r (.c (.h id)))) (h:clH Γ t id H nx=some R) (r:R.T):R.OK P rd B o e (H,nx) r:=by
 have hd:∀ c,o.op≠.defer c:=by rw [hop];intro c hh;cases hh
 unfold clH at h
 split at h
 ·rename_i el bts T T' xs' hel hlk
  have hI:=elOf_sound hΓ hel
  split at h
  ·rename_i xs hcast
   cases h
   obtain ⟨hT,hxx⟩:=castT_some hcast
   cases hT
   have hxx:xs'=xs:=hxx
   subst hxx
   obtain ⟨i,z,i1,i2,i3,i4,i5⟩:=hI.info
   refine ok_fl2 rfl hd fun S w η a hi hlen ho=>?_
   obtain ⟨f1,f2⟩:=ev_sound hw hc hx (by rw [hop];simp [Op.operands,Call.operands]) ho
   by_cases h0:0<xs'.length
   ·have hrl:=repL_zero (T:=T) S w xs'.length
    generalize hnews:(Builtin.zeroCells T.zero.toArray xs'.length).toList=news at hrl
    obtain ⟨b,off,cap,hu,hcap,hst,hg,hi'⟩:=arr_put (k:=0) hi hlk f1 hrl (by simp) (by simpa using h0)
    simp only [List.take_zero,List.nil_append,List.length_replicate,Nat.zero_add,List.drop_length,List.append_nil,Nat.zero_mul,Nat.add_zero] at hst hg hi'
    have hst:=hst P
    have hrun:(execOp a.eval o).run P w=.ok (.value (.tuple #[])) (w.setCells b off news):=by
     obtain ⟨m,hm⟩:∃ m,xs'.length=m+1:=⟨xs'.length-1,by omega⟩
     rw [hm] at hu hnews
     simp [execOp,hop,resolve,invoke,builtin,hu,Builtin.clear_,run_underlying hI.und,zeroValue,typeInfo,i1,i2,i3,hnews,hst]
    exact ⟨_,_,S,η,.inl hrun,hg,.refl _,Out.refl _ _ _,hi',[],rfl,.nil⟩
   ·have hx0:xs'=[]:=lN (by omega)
    subst hx0
    obtain ⟨F1,hF1,u,g1,base,cap,e1,_⟩:=hi.read hlk
    rw [f1] at g1
    cases g1
    have hrun:(execOp a.eval o).run P w=.ok (.value (.tuple #[])) w:=by
     cases base<;>simp [execOp,hop,resolve,invoke,builtin,e1,Builtin.clear_,run_underlying hI.und]
    refine ⟨_,_,S,η,.inl hrun,Grow.refl hi.inw,.refl _,Out.refl _ _ _,?_,[],rfl,.nil⟩
    show HInv B η ((id,.arr T [])::H) S w
    exact hi.as fun i po hl=>by
     by_cases e:id=i
     ·subst e
      rw [lk_same] at hl
      cases hl
      exact ⟨_,hlk,fun _ h=>h⟩
     ·rw [lk_ne _ _ e] at hl
      exact ⟨po,hl,fun _ h=>h⟩
  ·cases h
 ·cases h
def byteI (s:List UInt8):List Int:=s.map fun b=>(b.toNat:Int)
theorem repL_bytes (S:Cells) (w:World):∀ s:List UInt8,RepL S w (.int .u8) (byteI s) (s.map fun b=>Value.int .u8 b.toNat)
 | []=>rfl
 | c::s=>⟨[.int .u8 c.toNat],_,rfl,⟨rfl,by rw [has_u8];have:=c.toNat_lt;constructor<;>(try simp only)<;>omega⟩,repL_bytes S w s⟩
def cpS (id sz:Nat) (lo:Int) (s:List UInt8) (H:PH) (nx:Nat):Option RdR:=match lk H id,Nat.beq sz 1 with
 | some (.arr (.int .u8) xs),true=>some (wr (putM xs lo (byteI s)) xs (fun _=>.c (.d (.int .i64) (lenM s))) (fun zs=>[(id,.arr (.int .u8) zs)]) nx)
 | _,_=>none
theorem cpS_ok (hΓ:TabOK P Γ) {rd:Option Nat} {t t' el:TypeId} {bts:Nat} {d x:Operand} {id sz:Nat} {lo:Int} {s:List UInt8} {R:RdR} (hop:o.op=.call { callee:=.builtin .copy,args:=#[d,x],argTypes:=#[t,t'] }) (hel:elOf Γ t=some (el,bts,.int .u8)) (hw:Wf e) (hc:CtxH e ctx) (hxd:ev e ctx d=some (.va id sz lo)) (hxs:ev e ctx x=some (.r (.c (.d .str s)))) (h:cpS id sz lo s H nx=some R) (r:R.T) (hr:R.m=some r):R.OK P rd B o e (H,nx) r:=by
 have hdf:∀ c,o.op≠.defer c:=by rw [hop];intro c hh;cases hh
 have hI:=elOf_sound hΓ hel
 unfold cpS at h
 split at h
 ·rename_i xs hlk hb
  have hb:=nB hb
  subst hb
  cases h
  obtain ⟨zs,hzs⟩:∃ zs:List Int,zs=r:=⟨r,rfl⟩
  subst hzs
  obtain ⟨q1,q2,q3⟩:=put_of (T:=Int) hr
  have hbl:(byteI s).length=s.length:=by unfold byteI;simp
  obtain ⟨i,z,i1,i2,i3,i4,i5⟩:=hI.info
  have hsz:∀ w,(sizeOf el).run P w=.ok 1 w:=fun w=>by simp [sizeOf,typeInfo,i1,i4,Ty.size]
  refine ok_fl2 rfl hdf fun S w η a hi hlen ho=>?_
  obtain ⟨b,off,n,cap,g1,g2,g3,g4,g5⟩:=ev_sound hw hc hxd (by rw [hop];simp [Op.operands,Call.operands]) ho
  obtain ⟨hs1,hs2⟩:=VRep.str.1 (ev_sound hw hc hxs (by rw [hop];simp [Op.operands,Call.operands]) ho).2
  obtain ⟨bs,hbd,hbs⟩:∃ bs:ByteArray,bs=⟨s.toArray⟩∧bs.size=s.length:=⟨_,rfl,by simp [ByteArray.size]⟩
  rw [← hbd] at hs1
  have hfc:(Builtin.firstCells 1 s.length (.string bs)).run P w=.ok (s.map fun b=>Value.int .u8 b.toNat).toArray w:=by
   rw [← hbs,Lib.run_firstCells_string,hbd]
   rfl
  have hn:n=xs.length:=by
   obtain ⟨F1,_,u,e1,base,cap',e2,_⟩:=hi.read hlk
   rw [g1] at e1
   cases e1
   cases e2;rfl
  subst hn
  have hmin:Nat.min s.length (xs.length-lo.toNat)=s.length:=Nat.min_eq_left (by omega)
  have hval:CM S w η (.d (.int .i64) (lenM s)) (goInt s.length):=by
   refine ⟨rfl,VRep.int.2 ⟨rfl,?_⟩⟩
   rw [has_i64];simp only [lenM,maxLen] at *;omega
  by_cases h0:0<s.length
  ·have hrl:=repL_bytes S w s
   obtain ⟨b1,off1,cap1,hu,hcap,hst,hg,hi'⟩:=arr_put (k:=lo.toNat) hi hlk g1 hrl (by rw [hbl];omega) (by rw [hbl];exact h0)
   cases hu
   have hst:=hst P
   rw [q3] at *
   simp only [Ty.size,Nat.mul_one] at hst hg hi' g5
   refine ⟨goInt s.length,_,S,η,.inl ?_,hg,.refl _,Out.refl _ _ _,hi',CM.mono hg.keep (.refl _) hval⟩
   simp [execOp,hop,resolve,invoke,builtin,g5,hs1,Builtin.copy_,run_underlying hI.und,Builtin.lenOf,hsz,hbs,hmin,hfc,hst]
  ·have hs0:s=[]:=lN (by omega)
   subst hs0
   have hz:zs=xs:=by rw [q3];simp [byteI]
   refine ⟨goInt 0,w,S,η,.inl ?_,Grow.refl hi.inw,.refl _,Out.refl _ _ _,?_,hval⟩
   ·have hbs0:bs.size=0:=hbs
    have hfc0:(Builtin.firstCells 1 0 (.string bs)).run P w=.ok #[] w:=hfc
    simp [execOp,hop,resolve,invoke,builtin,g5,hs1,Builtin.copy_,run_underlying hI.und,Builtin.lenOf,hsz,hbs0,hfc0,storeCells]
   ·show HInv B η ((id,.arr (.int .u8) zs)::H) S w
    rw [hz]
    exact hi.as fun i po hl=>by
     by_cases e:id=i
     ·subst e
      rw [lk_same] at hl
      cases hl
      exact ⟨_,hlk,fun _ h=>h⟩
     ·rw [lk_ne _ _ e] at hl
      exact ⟨po,hl,fun _ h=>h⟩
 ·cases h
theorem owB_ok (hΓ:TabOK P Γ) {rd:Option Nat} {c:Call} {f:Operand} {g:FuncId} {args:List RV} {R:RdR} (hop:o.op=.call c) (hcal:c.callee=.value f) (ha:argsE e ctx c.args.toList=some args) (hw:Wf e) (hc:CtxH e ctx) (hf:ev e ctx f=some (.r (.c (.f g [] [])))) (h:owB Γ g args H nx=some R) (r:R.T) (hr:R.m=some r) :
  R.OK P rd B o e (H,nx) r:=by
 unfold owB at h
 split at h
 ·rename_i s hs _
  split at h
  ·rename_i x hx hfl
   cases h
   obtain ⟨ys,hys⟩:∃ ys:List s.t.den,ys=r:=⟨r,rfl⟩
   subst hys
   obtain ⟨hen,hsp⟩:=hΓ.ow g s hs
   have hops:o.op.operands.toList=f::c.args.toList:=by simp [hop,Op.operands,Call.operands,hcal]
   show ∀ (S:Cells) (w:World) (η:Eta) (a:Act),HInv B η H S w→Free η nx (nx+1)→En.Only (lk e) (opReads o) S w η a.tmps→_
   intro S w η a hi0 hfree ho
   have hk0:η nx=none:=hfree nx (nR _) (Nat.lt_succ_self _)
   obtain ⟨vf,vc,he,q1,q2⟩:=ev_sound hw hc hf (by rw [hops];simp) ho
   cases q1;cases q2
   have hva:=argsE_sound hw hc ho ha fun x hx=>by rw [hops];simp [hx]
   have hex:(execOp a.eval o).run P w=.ok (.enter g (c.args.toList.map a.eval).toArray) w:=by
    simp [execOp,hop,resolve,hcal,he,Deferred.ofValue,invoke,← Array.toList_map]
    exact hen _ w
   refine OpW.enter (by simp [hop]) hex ?_
   obtain ⟨S1,hi,g1⟩:=fzRs_sound (l:=args) hi0
   have hcall:=hsp x ys hr S1 w η _ hi.inw (conRs_sound hi hx (hva.mono fun _ _ h=>RM.mono g1.keep (.refl _) h))
   have hcl:CallsIn (FR rd) 0 P g (c.args.toList.map a.eval).toArray w _:=callsIn_wide (n:=0) |>.2 hcall
   refine hcl.mono fun en w' ⟨u,S',F,h1,h2,h3,h4,h5⟩=>⟨u,h1,?_⟩
   have hlt:InLt S w':=fun b o hb=>Nat.lt_of_lt_of_le (hi0.inw b o hb) h3.below.size
   have hkp:Keep S w S w':=⟨fun _ _ h=>h,fun b o hb=>h3.keep.cell b o (g1.keep.sub b o hb)⟩
   refine ⟨u,S,η.add nx u,rfl,⟨h3.below.mono hi.base,hkp,hlt,fun b o h=>.inl h,h3.lk⟩,.push hk0 _,Out.add _ _ _,?_,?_⟩
   ·show HInv B _ ((nx,.arr s.t ys)::H) S w'
    exact hi0.new hk0 h3.below.size hlt hkp (fun _ _ h=>.inl h) (fun b hb=>h3.below.block b hb) F ⟨u,Eta.add_same _ _ _,h4.flat hfl⟩ fun b o h=>⟨(h5 b o h).1,(h5 b o h).2.1,fun hs=>(h5 b o h).2.2 (h3.keep.sub b o (g1.keep.sub b o hs))⟩
   ·change _∧_
    exact ⟨Eta.add_same _ _ _,h2⟩
  ·cases h
 ·cases h
theorem opB_sound:OpF.Sound opB:=by
 intro P Γ hΓ rd B o e ctx H nx R h hw hc r hr
 unfold opB at h
 split at h
 ·rename_i c hkeep hop
  split at h
  ·rename_i hcal
   split at h
   ·rename_i s x t t' hxs hts
    split at h
    ·rename_i ps j hs hx hb
     have hb:=nB hb
     subst hb
     have hce:=call_eta hcal hxs hts
     subst hce
     exact apB_ok hΓ hop hw hc hs hx h r hr
    ·cases h
   ·cases h
  ·rename_i f hcal
   split at h
   ·rename_i args g ha hf
    exact owB_ok hΓ hop hcal ha hw hc hf h r hr
   ·cases h
  ·cases h
 ·cases h
theorem opB_fl {R:RdR} (h:opB Γ o e ctx H nx=some R):R.fl≠0:=by
 unfold opB at h
 split at h
 ·split at h
  ·split at h
   ·split at h
    ·unfold apB at h;(repeat' split at h)<;>first | (cases h;exact sZ _) | cases h
    ·cases h
   ·cases h
  ·split at h
   ·unfold owB at h;(repeat' split at h)<;>first | (cases h;exact sZ _) | cases h
   ·cases h
  ·cases h
 ·cases h
theorem opB_nice:opB.Nice:=by
 constructor
 ·intro Γ o e ctx H H' nx h
  unfold opB
  split
  ·rename_i c hkeep hop
   split
   ·rename_i hcal
    split
    ·rename_i s x t t' hxs hts
     split
     ·rename_i ps j hs hx hb
      have hops:o.op.operands.toList=[s,x]:=by simp [hop,Op.operands,Call.operands,hcal,hxs]
      obtain ⟨h1,h2⟩:=opIds2 hops hs hx h
      have hj:lk H' j=lk H j:=h2 j (by simp [PV.ids,RV.ids,CV.ids])
      unfold apB
      rw [hj]
      split
      ·split
       ·split
        ·rename_i id
         have hid:lk H' id=lk H id:=h1 id (by simp [PV.ids,RV.ids,CV.ids])
         rw [hid]
        ·rfl
        ·rfl
        ·rfl
       ·rfl
      ·rfl
     ·rfl
    ·rfl
   ·rename_i f hcal
    split
    ·rename_i args g ha hf
     have h1:Ag (RVs.ids args) H H':=argsE_ids ha (by
      have h2:Ag (opdIds e ctx (f::c.args.toList)) H H':=by
       have:o.op.operands.toList=f::c.args.toList:=by simp [hop,Op.operands,Call.operands,hcal]
       rw [← this];exact h
      unfold opdIds at h2
      exact h2.right)
     unfold owB
     split
     ·rename_i s hs _
      have:conRs (fzRs H' args) s.args args=conRs (fzRs H args) s.args args:=by
       rw [fzRs_eq,fzRs_eq,dRs_loc h1]
       exact conRs_loc (h1.app _)
      rw [this]
     ·rfl
    ·rfl
   ·rfl
  ·rfl
 ·intro Γ o e ctx H nx R h h0 H'
  exact absurd h0 (opB_fl h)
theorem or_cases {F G:OpF} {R:RdR} (h:(F.or G) Γ o e ctx H nx=some R):F Γ o e ctx H nx=some R∨G Γ o e ctx H nx=some R:=by
 unfold OpF.or at h
 split at h
 ·rename_i h1;cases h;exact .inl h1
 ·exact .inr h
theorem call_pure {c:Call} {R:RdR} (hop:o.op=.call c) (h:OPSH Γ o e ctx H nx=some R) (h0:R.fl=0):opW Γ o e ctx H nx=some R∨opA Γ o e ctx H nx=some R∨opC Γ o e ctx H nx=some R:=by
 rcases or_cases h with h | h
 rotate_left
 ·exact absurd h0 (opH_fl h)
 rcases or_cases h with h | h
 rotate_left
 ·exact absurd h0 (op8_fl h)
 rcases or_cases h with h | h
 rotate_left
 ·exact absurd h0 (opK_fl h)
 rcases or_cases h with h | h
 rotate_left
 ·exact absurd h0 (opG_fl h)
 rcases or_cases h with h | h
 rotate_left
 ·exact absurd h0 (opS_fl h)
 rcases or_cases h with h | h
 ·unfold opT at h
  simp only [hop] at h
  cases h
 rcases or_cases h with h | h
 rotate_left
 ·exact absurd h0 (op7_fl h)
 rcases or_cases h with h | h
 rotate_left
 ·exact absurd h0 (op6_fl h)
 rcases or_cases h with h | h
 rotate_left
 ·exact absurd h0 (op4_fl h)
 rcases or_cases h with h | h
 rotate_left
 ·exact absurd h0 (op2_fl h)
 rcases or_cases h with h | h
 ·unfold op1 at h
  simp only [hop] at h
  cases h
 rcases or_cases h with h | h
 ·exact .inl h
 rcases or_cases h with h | h
 ·rcases or_cases h with h | h
  ·exact absurd h0 (opU_fl h)
  ·unfold opV at h
   simp only [hop] at h
   (repeat' split at h)<;>first | (unfold copyR at h;(repeat' split at h)<;>first | (cases h;cases h0) | cases h) | cases h
 rcases or_cases h with h | h
 rotate_left
 ·unfold opD at h
  simp only [hop] at h
  cases h
 rcases or_cases h with h | h
 rotate_left
 ·exact .inr (.inr h)
 rcases or_cases h with h | h
 ·unfold OpF.calm at h
  split at h
  ·rename_i R1 h1
   split at h
   ·cases h;exact .inr (.inl h1)
   ·cases h
  ·cases h
 ·exact absurd h0 (opH1_fl h)
theorem conRs_noH:∀ {l:List Ty} {args:List RV},hasH args=true→conRs [] l args=none
 | [],[],h=>by cases h
 | [],_::_,_=>rfl
 | [t],[],h=>by cases h
 | [t],[.c (.h id)],_=>by
  simp only [conRs,conR]
  split
  ·rfl
  ·simp [conC,lk]
 | [t],.c (.h id)::_::_,_=>rfl
 | [t],[x],h=>by
  cases x with
  | s l=>cases h
  | c y=>cases y<;>first | (cases h;done) | (simp only [conRs,conR];split<;>simp [conC,lk])
 | [t],_::_::_,_=>rfl
 | t::u::r,[],h=>by cases h
 | t::u::r,x::vs,h=>by
  unfold conRs
  cases x with
  | s l =>
   have h':hasH vs=true:=h
   rw [conRs_noH (l:=u::r) h']
   cases conR [] t (.s l)<;>rfl
  | c y =>
   cases y
   case h id =>
    simp only [conR]
    cases t.agg
    ·simp [conC,lk]
    ·rfl
   all_goals
    have h':hasH vs=true:=h
    rw [conRs_noH (l:=u::r) h']
    split<;>rfl
def vpS (Γ:Tabs) (t:TypeId) (id sz:Nat) (lo:Int) (hi:Option Int) (H:PH) (nx:Nat):Option RdR:=match elOf Γ t,hi,lk H id with
 | some (_,_,T),some h,some (.arr T' xs)=>match Nat.beq T.size T'.size&&Nat.beq sz T'.size with
  | true=>some (rdr (chkM h (lenM xs-lo+1)) () (fun _=>.vp id sz lo h) H nx)
  | false=>none
 | _,_,_=>none
def bsV (Γ:Tabs) (s d:TypeId) (id sz:Nat) (lo n:Int) (H:PH) (nx:Nat):Option RdR:=match lk Γ.ty s,lk Γ.ty d,lk H id with
 | some ts,some td,some (.arr (.int .u8) xs)=>match ts.kind,td.kind,Nat.beq sz 1 with
  | .slice el _,.str,true=>match lk Γ.ty el with
   | some te=>match te.kind with
    | .int .u8=>some (rdr (some (strB (partV xs lo.toNat n.toNat))) ([]:List UInt8) (fun r=>.c (.d .str r)) H nx)
    | _=>none
   | none=>none
  | _,_,_=>none
 | _,_,_=>none
def opL:OpF:=fun Γ o e ctx H nx=>match o.op with
 | .slice t x none (some hi) none=>match ev e ctx x with
  | some (.va id sz lo)=>vpS Γ t id sz lo (intE e ctx hi) H nx
  | _=>none
 | .convert s d x=>match ev e ctx x with
  | some (.vp id sz lo n)=>bsV Γ s d id sz lo n H nx
  | _=>none
 | .call c=>match c.callee,c.args.toList,c.argTypes.toList with
  | .builtin .clear,[x],[t]=>match ev e ctx x with
   | some (.r (.c (.h id)))=>clH Γ t id H nx
   | _=>none
  | .builtin .copy,[d,x],[t,t']=>match ev e ctx d,ev e ctx x,elOf Γ t with
   | some (.va id sz lo),some (.r (.c (.d .str s))),some (_,_,.int .u8)=>cpS id sz lo s H nx
   | _,_,_=>none
  | _,_,_=>none
 | _=>none
theorem vpS_ok (hΓ:TabOK P Γ) {rd:Option Nat} {t:TypeId} {x hi_:Operand} {id sz:Nat} {lo:Int} {R:RdR} (hop:o.op=.slice t x none (some hi_) none) (hw:Wf e) (hc:CtxH e ctx) (hx:ev e ctx x=some (.va id sz lo)) (h:vpS Γ t id sz lo (intE e ctx hi_) H nx=some R) (r:R.T) (hr:R.m=some r):R.OK P rd B o e (H,nx) r:=by
 have hd:∀ c,o.op≠.defer c:=by rw [hop];intro c hh;cases hh
 unfold vpS at h
 split at h
 ·rename_i el bts T hv T' xs hel hhi hlk
  split at h
  ·rename_i hb
   cases h
   simp only [bA] at hb
   have b1:=nB hb.1
   have b2:=nB hb.2
   obtain ⟨hc0,hc1⟩:0≤hv∧hv<lenM xs-lo+1:=chk_some hr
   have hI:=elOf_sound hΓ hel
   refine ok_fl1 rfl hd fun S w η a hiv ho=>?_
   obtain ⟨b,off,n,cap,g1,g2,g3,g4,g5⟩:=ev_sound hw hc hx (by rw [hop];simp [Op.operands]) ho
   have f0:=intE_sound hw hc hhi (by rw [hop];simp [Op.operands]) ho
   have hn:n=xs.length:=by
    obtain ⟨F1,_,u,e1,base,cap',e2,_⟩:=hiv.read hlk
    rw [g1] at e1
    cases e1
    cases e2;rfl
   subst hn
   obtain ⟨i,z,i1,i2,i3,i4,i5⟩:=hI.info
   have hsz:(sizeOf el).run P w=.ok T.size w:=by simp [sizeOf,typeInfo,i1,i4]
   obtain ⟨k,rfl⟩:∃ k:Nat,hv=(k:Int):=Int.eq_ofNat_of_zero_le hc0
   obtain ⟨l,rfl⟩:∃ l:Nat,lo=(l:Int):=Int.eq_ofNat_of_zero_le g2
   simp only [lenM] at hc1
   rw [Int.toNat_natCast] at g5
   refine ⟨.slice (some ⟨b,off+l*sz,none⟩) k (cap-l),?_,b,off,xs.length,cap,g1,by omega,by omega,by omega,g4,by rw [Int.toNat_natCast,Int.toNat_natCast]⟩
   simp [execOp,hop,g5,f0,Instr.sliceAt,Instr.slice,run_underlying hI.und,Instr.sliceBounds,Instr.sliceBound,asIntOf,hsz,show k≤cap-l by omega,show ¬ (cap-l=0) by omega,Addr.add_lit]
  ·cases h
 ·cases h
theorem bsV_ok (hΓ:TabOK P Γ) {rd:Option Nat} {s d:TypeId} {x:Operand} {id sz:Nat} {lo n:Int} {R:RdR} (hop:o.op=.convert s d x) (hw:Wf e) (hc:CtxH e ctx) (hx:ev e ctx x=some (.vp id sz lo n)) (h:bsV Γ s d id sz lo n H nx=some R) (r:R.T) (hr:R.m=some r):R.OK P rd B o e (H,nx) r:=by
 have hd:∀ c,o.op≠.defer c:=by rw [hop];intro c hh;cases hh
 unfold bsV at h
 split at h
 ·rename_i ts td xs hs htd hlk
  split at h
  ·rename_i el bts e1 e2 hb
   have hb:=nB hb
   subst hb
   split at h
   ·rename_i te hte
    split at h
    ·rename_i e3
     have ks:=(hΓ.ty s ts hs).kind
     have kd:=(hΓ.ty d td htd).kind
     have ke:=(hΓ.ty el te hte).kind
     rw [e1] at ks
     rw [e2] at kd
     rw [e3] at ke
     cases h
     obtain ⟨r',hr'⟩:∃ r':List UInt8,r'=r:=⟨r,rfl⟩
     subst hr'
     have hr2:some (strB (partV xs lo.toNat n.toNat))=some r':=hr
     cases hr2
     refine ok_fl1 rfl hd fun S w η a hi ho=>?_
     obtain ⟨b,off,m,cap,g1,g2,g3,g4,g5,g6⟩:=ev_sound (a:=a) hw hc hx (by rw [hop];simp [Op.operands]) ho
     obtain ⟨F1,_,u,q1,base,cap',q2,q3,q4,q5⟩:=hi.read hlk
     rw [g1] at q1
     cases q1
     cases q2
     have hpl:(partV xs lo.toNat n.toNat).length=n.toNat:=by
      unfold partV
      rw [lT,List.length_drop];omega
     have hcells:(partV xs lo.toNat n.toNat).length=0∨∃ b' off',some (⟨b,off+lo.toNat*1,none⟩:Addr)=some ⟨b',off',none⟩∧∀ i,i<(partV xs lo.toNat n.toNat).length→w.cell? ⟨b',off'+i,none⟩=some (.int .u8 ((partV xs lo.toNat n.toNat).getD i 0)):=by
      refine .inr ⟨b,off+lo.toNat*1,rfl,fun i hi=>?_⟩
      rw [hpl] at hi
      rcases q5 with ⟨q5,_⟩ | ⟨b2,off2,q6,_,_,q7⟩
      ·omega
      ·cases q6
       obtain ⟨es,he,hc⟩:=q7 (lo.toNat+i) _ (gE (by omega))
       have he':es=[Value.int .u8 xs[lo.toNat+i]]:=he.1
       have:=hc 0 (.int .u8 xs[lo.toNat+i]) (by rw [he'];rfl)
       rw [show off+(lo.toNat+i)*(Ty.int IntKind.u8).size+0=off+lo.toNat*1+i from by show off+(lo.toNat+i)*1+0=_;omega] at this
       rw [this]
       have hg:(partV xs lo.toNat n.toNat).getD i 0=xs[lo.toNat+i]:=by
        unfold partV
        rw [List.getD_eq_getElem?_getD,List.getElem?_take_of_lt hi,List.getElem?_drop,gE (by omega)]
        rfl
       rw [hg]
     have hlen:(partV xs lo.toNat n.toNat).length≤maxLen:=by rw [hpl];omega
     rw [← hpl] at g6
     refine ⟨.string ⟨(strB (partV xs lo.toNat n.toNat)).toArray⟩,?_,PM.str.2 ⟨rfl,by show (strB (partV xs lo.toNat n.toNat)).length≤maxLen;unfold strB;rw [List.length_map];exact hlen⟩⟩
     have:=run_bytes (P:=P) (w:=w) (run_underlying ks.1) (fun w=>ke w) (fun w=>kd w) (cap:=cap-lo.toNat) hcells
     rw [Nat.mul_one] at this
     simp [execOp,hop,g6,this]
    ·cases h
   ·cases h
  ·cases h
 ·cases h
theorem opL_sound:OpF.Sound opL:=by
 intro P Γ hΓ rd B o e ctx H nx R h hw hc r hr
 unfold opL at h
 split at h
 ·rename_i t x hi hop
  split at h
  ·rename_i id sz lo hx
   exact vpS_ok hΓ hop hw hc hx h r hr
  ·cases h
 ·rename_i s d x hop
  split at h
  ·rename_i id sz lo n hx
   exact bsV_ok hΓ hop hw hc hx h r hr
  ·cases h
 ·rename_i c hop
  split at h
  ·rename_i x t hcal hxs hts
   split at h
   ·rename_i id hx
    have hce:=call_eta hcal hxs hts
    subst hce
    exact clH_ok hΓ hop hw hc hx h r
   ·cases h
  ·rename_i d x t t' hcal hxs hts
   split at h
   ·rename_i id sz lo s el bts hd hx hel
    have hce:=call_eta hcal hxs hts
    subst hce
    exact cpS_ok hΓ hop hel hw hc hd hx h r hr
   ·cases h
  ·cases h
 ·cases h
theorem opL_fl {R:RdR} (h:opL Γ o e ctx H nx=some R):R.fl≠0:=by
 unfold opL at h
 split at h
 ·split at h
  ·unfold vpS at h;(repeat' split at h)<;>first | (cases h;exact sZ _) | cases h
  ·cases h
 ·split at h
  ·unfold bsV at h;(repeat' split at h)<;>first | (cases h;exact sZ _) | cases h
  ·cases h
 ·split at h
  ·split at h
   ·unfold clH at h;(repeat' split at h)<;>first | (cases h;exact sZ _) | cases h
   ·cases h
  ·split at h
   ·unfold cpS at h;(repeat' split at h)<;>first | (cases h;exact sZ _) | cases h
   ·cases h
  ·cases h
 ·cases h
theorem opL_nice:opL.Nice:=by
 constructor
 ·intro Γ o e ctx H H' nx h
  have at1:∀ {x:Operand} {pv:PV},x∈o.op.operands.toList→ev e ctx x=some pv→Ag pv.ids H H':=by
   intro x pv hx hev i hi
   refine h i ?_
   unfold opIds
   have:∀ l:List Operand,x∈l→i∈opdIds e ctx l:=by
    intro l
    induction l with
    | nil=>intro hm;cases hm
    | cons y r ih =>
     intro hm
     unfold opdIds
     rcases List.mem_cons.1 hm with rfl | hm
     ·rw [hev];exact List.mem_append_left _ hi
     ·exact List.mem_append_right _ (ih hm)
   exact this _ hx
  unfold opL
  split
  ·rename_i t x hi hop
   split
   ·rename_i id sz lo hx
    have:=at1 (by rw [hop];simp [Op.operands]) hx id (by simp [PV.ids])
    unfold vpS
    rw [this]
    rfl
   ·rfl
  ·rename_i s d x hop
   split
   ·rename_i id sz lo n hx
    have:=at1 (by rw [hop];simp [Op.operands]) hx id (by simp [PV.ids])
    unfold bsV
    rw [this]
    rfl
   ·rfl
  ·rename_i c hop
   split
   ·rename_i x t hcal hxs hts
    split
    ·rename_i id hx
     have:=at1 (by simp [hop,Op.operands,Call.operands,hcal,hxs]) hx id (by simp [PV.ids,RV.ids,CV.ids])
     unfold clH
     rw [this]
    ·rfl
   ·rename_i d x t t' hcal hxs hts
    split
    ·rename_i id sz lo s el bts hd hx hel
     have:=at1 (by simp [hop,Op.operands,Call.operands,hcal,hxs]) hd id (by simp [PV.ids])
     unfold cpS
     rw [this]
    ·rfl
   ·rfl
  ·rfl
 ·intro Γ o e ctx H nx R h h0 H'
  exact absurd h0 (opL_fl h)
end
def OPSL:OpF:=OPSH.or opL
theorem OPSL_sound:OPSL.Sound:=OPSH_sound.or opL_sound
theorem OPSL_nice:OPSL.Nice:=OPSH_nice.or' opL_nice fun Γ o e ctx H nx R h h0 hn H'=>absurd h0 (opL_fl h)
def OPS:OpF:=opB.or OPSL
theorem OPS_sound:OPS.Sound:=opB_sound.or OPSL_sound
theorem OPS_nice:OPS.Nice:=opB_nice.or' OPSL_nice fun Γ o e ctx H nx R h h0 hn H'=>by
 unfold opB at hn ⊢
 split
 ·rename_i c hkeep hop
  have hp:opW Γ o e ctx H nx=some R∨opA Γ o e ctx H nx=some R∨opC Γ o e ctx H nx=some R:=by
   rcases or_cases h with h | h
   ·exact call_pure hop h h0
   ·exact absurd h0 (opL_fl h)
  split
  ·rename_i hcal
   split
   ·rename_i s x t t' hxs hts
    split
    ·rename_i ps j hs hx hb
     exfalso
     rcases hp with hp | hp | hp
     ·unfold opW at hp
      simp only [hop,hcal,hxs,hts,hs,hx,hb] at hp
      unfold appQ at hp
      have:∀ T,conP [] (.list T) (.r (.c (.h j)))=none:=fun T=>by simp [conP,conR,Ty.agg,conC,lk]
      simp only [this] at hp
      (repeat' split at hp)<;>first | (rename_i hq;cases hq;done) | (cases hp;done)
     ·unfold opA at hp
      simp only [hop,hcal] at hp
      unfold bltA at hp
      cases hp
     ·unfold opC at hp
      simp only [hop,hcal] at hp
      cases hp
    ·rfl
   ·rfl
  ·rename_i f hcal
   split
   ·rename_i args g ha hf
    unfold owB
    split
    ·rename_i s hs hh
     exfalso
     rcases hp with hp | hp | hp
     ·unfold opW at hp
      simp only [hop,hcal] at hp
      cases hp
     ·unfold opA at hp
      simp only [hop,hcal] at hp
      cases hp
     ·unfold opC at hp
      simp only [hop,hcal,ha,hf] at hp
      have:∀ l,conRs [] l ([].map fvRV++args++[].map fvRV)=none:=fun l=>by
       simp only [List.map_nil,List.nil_append,List.append_nil];exact conRs_noH hh
      split at hp
      ·rw [this] at hp
       simp only at hp
       (repeat' split at hp)<;>first | (cases hp;cases h0) | cases hp
      ·cases hp
    ·rfl
   ·rfl
  ·rfl
 ·rfl
end Go.PE
