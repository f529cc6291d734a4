/-
 Texts of this proof, put together: Pk, Pl, Pm, Po, Pn, Pp, Pq, PP.
 No conditions.
-/
import Derived.Test.YtdjfiampkhfooaaGreatDoorZ1
import Derived.LoopNIn
set_option linter.all false
namespace Go.PE
open Go Go.RowKit Go.Abs
variable [db:DB] [ea:EA]

section
variable {P:Program} {Γ:Tabs} {B:Nat} {S:Cells} {w:World} {η:Eta} {H:PH} {nx:Nat}

theorem box_new {k0:Nat} {l:List CV} {cs:List Value} {el:TypeId} (hk0:η k0=none) (hi:HInv B η H S w) (hm:All2 (CM S w η) l cs) :
  Grow B S w S (w.alloc (.cells cs.toArray el))∧HInv B (η.add k0 (.pointer (some ⟨w.heap.size,0,none⟩))) ((k0,.box l)::H) S (w.alloc (.cells cs.toArray el)):=by
 have hk:Keep S w S (w.alloc (.cells cs.toArray el)):=⟨fun _ _ h=>h,fun b o h=>World.cell?_alloc_lt _ _ _ (hi.inw b o h)⟩
 have hin:InLt S (w.alloc (.cells cs.toArray el)):=fun b o h=>by have:=hi.inw b o h;simp;omega
 have hl:=hm.length
 refine ⟨⟨(Below.refl _ _).alloc hi.base _,hk,hin,fun _ _ h=>.inl h,LK.alloc _ _⟩,hi.new hk0 (by simp) hin hk (fun _ _ h=>.inl h) (fun b hb=>Below.heap_alloc _ _ _ hb) (fun b o=>b=w.heap.size∧o<cs.length) ⟨w.heap.size,Eta.add_same _ _ _,fun b o=>by rw [hl],fun o ho=>⟨⟨cs[o]'(by omega),?_⟩,World.frozen?_alloc_new _ _ _ _⟩,cs,hm.mono fun _ _=>CM.mono hk (.push hk0 _),fun j v hj=>?_⟩ fun b o h=>?_⟩
 ·rw [World.cell?_alloc_new];simp [show o<cs.length by omega]
 ·rw [World.cell?_alloc_new];simpa using hj
 ·obtain ⟨rfl,h⟩:=h
  exact ⟨nR _,by simp,fun hs=>absurd (hi.inw _ _ hs) (by omega)⟩

theorem box_store {id b k:Nat} {l l2:List CV} {us:List Value} (hi:HInv B η H S w) (hl:lk H id=some (.box l)) (hb:η id=some (.pointer (some ⟨b,0,none⟩))) (hk:k+l2.length≤l.length) (hm:All2 (CM S w η) l2 us) :
  (∀ i,i<us.length→World.there w b (k+i))∧Grow B S w S (w.setCells b k us)∧HInv B η ((id,.box (l.take k++(l2++l.drop (k+l2.length))))::H) S (w.setCells b k us):=by
 have hul:=hm.length
 have hone:=hm.one
 have hread:∀ F1:Cells,POH η id F1 S w (.box l)→(∀ b' o,F1 b' o↔b'=b∧o<l.length)∧(∀ o,o<l.length→World.there w b o)∧∃ vs:List Value,All2 (CM S w η) l vs∧∀ j v,vs[j]? = some v→w.cell? ⟨b,j,none⟩=some v:=by
  rintro F1 ⟨b',h1,h2,h3,h4⟩
  rw [hb] at h1
  cases h1
  exact ⟨h2,h3,h4⟩
 obtain ⟨F1,hF,hP⟩:=hi.read hl
 obtain ⟨hf,ht0,vs,hvs,hcs⟩:=hread F1 hP
 have ht:∀ i,i<us.length→World.there w b (k+i):=fun i hi'=>ht0 (k+i) (by omega)
 have hown:∀ i,i<us.length→B≤b∧b<w.heap.size∧¬ S b (k+i):=fun i hi'=>hF b (k+i) ((hf _ _).2 ⟨rfl,by omega⟩)
 by_cases hv0:us.length=0
 ·have:us=[]:=lN hv0
  subst this
  have:l2=[]:=lN hul
  subst this
  refine ⟨ht,Grow.refl hi.inw,?_⟩
  simp only [List.nil_append,List.length_nil,Nat.add_zero,List.take_append_drop]
  refine hi.less fun i po h=>?_
  by_cases h1:i=id
  ·subst h1;rw [jA] at h;rw [hl];exact h
  ·rw [wA _ _ (Ne.symm h1)] at h;exact h
 have hb0:=hown 0 (by omega)
 have hg:Grow B S w S (w.setCells b k us):=Grow.stored hi.inw hb0.1 fun i hi'=>(hown i hi').2.2
 refine ⟨ht,hg,hi.set hl (by rw [zA];exact nR _) hg.lt hg.keep fun F2 hF2 hr=>?_⟩
 obtain ⟨hf2,ht2,vs2,hvs2,hcs2⟩:=hread F2 hr
 have hlen:(l.take k++(l2++l.drop (k+l2.length))).length=l.length:=by simp;omega
 have hin:∀ i,i<us.length→(w.setCells b k us).cell? ⟨b,k+i,none⟩=us[i]? := fun i hi'=>by
  rw [World.cell?_setCells_in b us k w (fun m hm=>by obtain ⟨⟨u,hu⟩,_⟩:=ht m hm;rw [hu];rfl) i hi',gE hi']
 have hout:∀ o,(o<k∨k+us.length≤o)→(w.setCells b k us).cell? ⟨b,o,none⟩=w.cell? ⟨b,o,none⟩:=fun o ho=>World.cell?_setCells_out b us k w ⟨b,o,none⟩ fun _ _=>by simp only;omega
 have hvl:=hvs2.length
 refine ⟨fun _ _ h=>.inl h,fun b' o hb' hn=>⟨?_,World.frozen?_setCells _ _ _ _ _⟩,fun b' hb' hn=>gB b us k w b' fun h=>?_,F2,⟨b,hb,fun b' o=>by rw [hf2,hlen],fun o ho=>?_,vs2.take k++(us++vs2.drop (k+us.length)),?_,fun j v hj=>?_⟩,fun b' o h=>⟨.inl h,by rw [zA];exact (hF2 b' o h).2.1,(hF2 b' o h).2.2⟩⟩
 ·refine World.cell?_setCells_out b us k w ⟨b',o,none⟩ fun h _=>?_
  simp only at h ⊢
  subst h
  have:¬ (o<l.length):=fun h=>hn ((hf2 _ _).2 ⟨rfl,h⟩)
  omega
 ·subst h
  exact hn 0 ((hf2 _ _).2 ⟨rfl,by omega⟩)
 ·rw [hlen] at ho
  obtain ⟨⟨z,hz⟩,hfz⟩:=ht2 o ho
  refine ⟨?_,by rw [World.frozen?_setCells];exact hfz⟩
  by_cases hio:k≤o∧o<k+us.length
  ·have:=hin (o-k) (by omega)
   rw [show k+(o-k)=o by omega,gE (by omega)] at this
   exact ⟨_,this⟩
  ·exact ⟨z,by rw [hout o (by omega)];exact hz⟩
 ·refine All2.append (All2.mk (by simp [hvl]) fun i a c ha hc=>?_) (All2.append (hm.mono fun _ _=>CM.mono hg.keep (.refl _)) (All2.mk (by simp [hvl];omega) fun i a c ha hc=>?_))
  ·have hik:i<k:=by have:=(gS.1 ha).1;simp at this;omega
   rw [List.getElem?_take_of_lt hik] at ha hc
   obtain ⟨c',hc',hr⟩:=hvs2.get _ a ha
   rw [hc] at hc';cases hc';exact hr.mono hg.keep (.refl _)
  ·rw [List.getElem?_drop] at ha hc
   rw [← hul] at hc
   obtain ⟨c',hc',hr⟩:=hvs2.get _ a ha
   rw [hc] at hc';cases hc';exact hr.mono hg.keep (.refl _)
 ·by_cases hjk:j<k
  ·rw [xL (by simp;omega),List.getElem?_take_of_lt hjk] at hj
   rw [hout j (.inl hjk)];exact hcs2 j v hj
  ·rw [xR (by simp;omega)] at hj
   simp only [lT,Nat.min_eq_left (show k≤vs2.length by omega)] at hj
   by_cases hju:j-k<us.length
   ·rw [xL hju] at hj
    have:=hin (j-k) hju
    rw [show k+(j-k)=j by omega] at this
    rw [this];exact hj
   ·rw [xR (by omega),List.getElem?_drop] at hj
    rw [hout j (.inr (by omega))]
    rw [show k+us.length+(j-k-us.length)=j by omega] at hj
    exact hcs2 j v hj

theorem wH {T T':Ty} {y:T'.den} {z:T.den} {off:Nat} (hs:(match off with | 0=>yA T (t':=T') y | _=>none)=some z) {c1 c2 c3 c2':List Value} {x:T.den} (h:Rep S w T x (c1++(c2++c3))) (h1:c1.length=off) (h2:c2.length=T'.size) (h3:Rep S w T' y c2'):Rep S w T z (c1++(c2'++c3)):=by
 cases off with
 | zero =>
  have e1:c1=[]:=lN h1
  subst e1
  obtain ⟨rfl,rfl⟩:=kA hs
  have e3:c3=[]:=by
   have:=h.length
   apply lN
   simp at this;omega
  subst e3
  simpa using h3
 | succ n=>cases hs
theorem oG {T T':Ty} {y:T'.den} {z:T.den} {off:Nat} (hs:(match off with | 0=>yA T (t':=T') y | _=>none)=some z):off+T'.size≤T.size:=by
 cases off with
 | zero=>obtain ⟨rfl,_⟩:=kA hs;omega
 | succ n=>cases hs
theorem vH:∀ {T:Ty} {x z:T.den} {off:Nat} {T':Ty} {y:T'.den},T.upd x off T' y=some z→off+T'.size≤T.size
 | .int k,x,z,off,T',y,hs=>oG hs
 | .bool,x,z,off,T',y,hs=>oG hs
 | .str,x,z,off,T',y,hs=>oG hs
 | .list t,x,z,off,T',y,hs=>oG hs
 | .one t,x,z,off,T',y,hs=>by
  unfold Ty.upd at hs
  cases off with
  | zero =>
   simp only at hs
   split at hs
   ·rename_i u hu;exact oG (T:=.one t) (off:=0) hu
   ·exact vH (T:=t) hs
  | succ n=>exact vH (T:=t) hs
 | .pair a b,x,z,off,T',y,hs=>by
  unfold Ty.upd at hs
  split at hs
  ·rename_i u hu;exact oG (T:=.pair a b) hu
  ·split at hs
   ·split at hs
    ·rename_i u hu
     have:=vH hu
     simp only [Ty.size];omega
    ·cases hs
   ·rename_i hb
    have hle:a.size≤off:=by
     cases Nat.lt_or_ge off a.size with
     | inl h =>
      have:Nat.blt off a.size=true:=Nat.ble_eq_true_of_le h
      rw [this] at hb;cases hb
     | inr h=>exact h
    split at hs
    ·rename_i u hu
     have:=vH hu
     simp only [Ty.size];omega
    ·cases hs
theorem upd_rep:∀ {T:Ty} {x z:T.den} {off:Nat} {T':Ty} {y:T'.den} {c1 c2 c3 c2':List Value},Rep S w T x (c1++(c2++c3))→c1.length=off→c2.length=T'.size→Rep S w T' y c2'→T.upd x off T' y=some z→Rep S w T z (c1++(c2'++c3))
 | .int k,x,z,off,T',y,c1,c2,c3,c2',h,h1,h2,h3,hs=>wH hs h h1 h2 h3
 | .bool,x,z,off,T',y,c1,c2,c3,c2',h,h1,h2,h3,hs=>wH hs h h1 h2 h3
 | .str,x,z,off,T',y,c1,c2,c3,c2',h,h1,h2,h3,hs=>wH hs h h1 h2 h3
 | .list t,x,z,off,T',y,c1,c2,c3,c2',h,h1,h2,h3,hs=>wH hs h h1 h2 h3
 | .one t,x,z,off,T',y,c1,c2,c3,c2',h,h1,h2,h3,hs=>by
  have h':Rep S w t x (c1++(c2++c3)):=h
  unfold Ty.upd at hs
  cases off with
  | zero =>
   simp only at hs
   split at hs
   ·rename_i u hu
    cases hs
    exact wH (T:=.one t) (T':=T') (off:=0) hu h h1 h2 h3
   ·exact upd_rep (T:=t) h' h1 h2 h3 hs
  | succ n=>exact upd_rep (T:=t) h' h1 h2 h3 hs
 | .pair a b,x,z,off,T',y,c1,c2,c3,c2',h,h1,h2,h3,hs=>by
  unfold Ty.upd at hs
  split at hs
  ·rename_i u hu
   cases hs
   exact wH (T:=.pair a b) (T':=T') hu h h1 h2 h3
  ·obtain ⟨d1,d2,he,k1,k2⟩:=h
   have hl1:=k1.length
   split at hs
   ·rename_i hb
    have hb:=nL hb
    split at hs
    ·rename_i u hu
     cases hs
     -- the part lies in the first component: its cells are c1,c2 and the head of c3
     obtain ⟨f3,hf3⟩:∃ f3,d1=c1++(c2++f3)∧c3=f3++d2:=by
      have hsz:off+T'.size≤a.size:=by
       have:=vH hu
       exact this
      refine ⟨(d1.drop (c1.length+c2.length)),?_,?_⟩
      ·have h5:=congrArg (List.take d1.length) he
       rw [List.take_left] at h5
       have h6:=congrArg (List.take (c1.length+c2.length)) he
       rw [← aA,List.take_append_of_le_length (by simp),tkL (by simp),List.take_append_of_le_length (by omega)] at h6
       rw [← aA,h6,List.take_append_drop]
      ·have h6:=congrArg (List.drop (c1.length+c2.length)) he
       rw [← aA,List.drop_append_of_le_length (by simp),List.drop_of_length_le (by simp),List.nil_append,List.drop_append_of_le_length (by omega)] at h6
       exact h6
     obtain ⟨rfl,rfl⟩:=hf3
     exact ⟨c1++(c2'++f3),d2,by simp,upd_rep k1 h1 h2 h3 hu,k2⟩
    ·cases hs
   ·rename_i hb
    have hle:a.size≤off:=by
     cases Nat.lt_or_ge off a.size with
     | inl h =>
      have:Nat.blt off a.size=true:=Nat.ble_eq_true_of_le h
      rw [this] at hb;cases hb
     | inr h=>exact h
    split at hs
    ·rename_i u hu
     cases hs
     obtain ⟨e1,rfl,he2⟩:∃ e1,c1=d1++e1∧d2=e1++(c2++c3):=by
      refine ⟨c1.drop d1.length,?_,?_⟩
      ·have h6:=congrArg (List.take d1.length) he
       rw [List.take_append_of_le_length (by omega),List.take_left] at h6
       have:=List.take_append_drop d1.length c1
       rw [h6] at this;exact this.symm
      ·have h6:=congrArg (List.drop d1.length) he
       rw [List.drop_append_of_le_length (by omega),List.drop_left] at h6
       exact h6.symm
     subst he2
     exact ⟨d1,e1++(c2'++c3),by simp,k1,upd_rep k2 (by simp at h1;omega) h2 h3 hu⟩
    ·cases hs
end

section
variable {P:Program} {Γ:Tabs} {B:Nat} {S:Cells} {w:World} {η:Eta} {H:PH} {nx:Nat}

theorem setM_some {α:Type} {xs ys:List α} {i:Int} {f:α→Option α} (h:wE xs i f=some ys):∃ x y,xs[i.toNat]? = some x∧f x=some y∧ys=xs.set i.toNat y:=by
 unfold wE at h
 split at h
 ·rename_i x hx
  split at h
  ·rename_i y hy
   cases h
   exact ⟨x,y,(vB hx).2.2,hy,rfl⟩
  ·cases h
 ·cases h
theorem ArrH.store {F:Cells} {u:Value} {T T':Ty} {xs:List T.den} {i off b off0 n cap:Nat} {x z:T.den} {y:T'.den} {us:List Value} (hF:∀ b o,F b o→B≤b∧b<w.heap.size∧¬ S b o) (h:ArrH F S w u T xs) (hx:xs[i]? = some x)
  (hup:T.upd x off T' y=some z) (e1:u=.slice (some ⟨b,off0,none⟩) n cap) (hy:Rep S w T' y us) (hin:InLt S w):(∀ j,j<T'.size→World.there w b (off0+i*T.size+off+j)∧F b (off0+i*T.size+off+j))∧Grow B S w S (w.setCells b (off0+i*T.size+off) us) ∧
   ArrH F S (w.setCells b (off0+i*T.size+off) us) u T (xs.set i z):=by
 have hi:=(gS.1 hx).1
 obtain ⟨b',off',cap',e1',hcap,hFF,hin',hxx⟩:=h.get hi
 rw [e1] at e1'
 cases e1'
 have hsz:=vH hup
 obtain ⟨es,he,hc⟩:=hxx i x hx
 have hel:=he.length
 have hul:=hy.length
 have hes:es=es.take off++((es.drop off).take T'.size++es.drop (off+T'.size)):=by
  rw [← List.drop_drop,List.take_append_drop,List.take_append_drop]
 have hz:=upd_rep (hes▸he) (by simp;omega) (by simp;omega) hy hup
 have hth:∀ j,j<T'.size→World.there w b (off0+i*T.size+off+j)∧F b (off0+i*T.size+off+j):=fun j hj=>by
  have:=hin' (off+j) (by omega)
  rw [← Nat.add_assoc] at this;exact this
 have hb:B≤b:=(hF _ _ (hth 0 T'.size_pos).2).1
 have hg:Grow B S w S (w.setCells b (off0+i*T.size+off) us):=Grow.stored hin hb fun j hj=>(hF _ _ (hth j (by omega)).2).2.2
 refine ⟨hth,hg,?_⟩
 obtain ⟨base,cap0,e8,h1,h2,h3⟩:=h
 rw [e1] at e8
 cases e8
 refine ⟨_,cap,by rw [e1,List.length_set],by rw [List.length_set];exact h1,h2,?_⟩
 rcases h3 with h3 | ⟨b3,off3,e11,hf3,ht3,hx3⟩
 ·exact absurd (hth 0 T'.size_pos).2 (h3.2 _ _)
 cases e11
 refine .inr ⟨b,off0,rfl,hf3,fun o h1 h2=>?_,fun m x' hm=>?_⟩
 ·obtain ⟨⟨q,hq⟩,hfz⟩:=ht3 o h1 h2
  refine ⟨?_,by rw [World.frozen?_setCells];exact hfz⟩
  by_cases hio:off0+i*T.size+off≤o∧o<off0+i*T.size+off+us.length
  ·have:=World.cell?_setCells_in b us (off0+i*T.size+off) w (fun m hm=>by
    obtain ⟨⟨⟨q,hq⟩,_⟩,_⟩:=hth m (by omega)
    rw [hq];rfl) (o-(off0+i*T.size+off)) (by omega)
   rw [show off0+i*T.size+off+(o-(off0+i*T.size+off))=o by omega] at this
   exact ⟨_,this⟩
  ·exact ⟨q,by rw [World.cell?_setCells_out b us _ w ⟨b,o,none⟩ fun _ _=>by simp only;omega];exact hq⟩
 ·have hml:m<xs.length:=by have:=(gS.1 hm).1;simpa using this
  by_cases hmi:m=i
  ·subst hmi
   have hx':x'=z:=by
    rw [List.getElem?_set_self hml] at hm
    injection hm with hm;exact hm.symm
   subst hx'
   refine ⟨_,hz.keep hg.keep,fun j q hj=>?_⟩
   rcases Nat.lt_or_ge j off with h4 | h4
   ·rw [xL (by simp;omega),List.getElem?_take_of_lt h4] at hj
    rw [World.cell?_setCells_out b us _ w ⟨b,_,none⟩ fun _ _=>by simp only;omega]
    exact hc j q hj
   ·rw [xR (by simp;omega)] at hj
    simp only [lT,Nat.min_eq_left (show off≤es.length by omega)] at hj
    rcases Nat.lt_or_ge j (off+us.length) with h5 | h5
    ·rw [xL (by omega)] at hj
     have:=World.cell?_setCells_in b us (off0+m*T.size+off) w (fun n hn=>by
      obtain ⟨⟨⟨q,hq⟩,_⟩,_⟩:=hth n (by omega)
      rw [hq];rfl) (j-off) (by omega)
     rw [show off0+m*T.size+off+(j-off)=off0+m*T.size+j by omega] at this
     rw [this,← hj,gE (by omega)]
    ·rw [xR (by omega),List.getElem?_drop] at hj
     rw [World.cell?_setCells_out b us _ w ⟨b,_,none⟩ fun _ _=>by simp only;omega]
     refine hc j q ?_
     rw [← hj];congr 1;omega
  ·rw [List.getElem?_set_ne (by omega)] at hm
   obtain ⟨ds,hd,hdc⟩:=hx3 m x' hm
   refine ⟨ds,hd.keep hg.keep,fun j q hj=>?_⟩
   have hjl:j<T.size:=by rw [← hd.length];exact (gS.1 hj).1
   rw [World.cell?_setCells_out b us _ w ⟨b,_,none⟩ fun _ _=>?_]
   ·exact hdc j q hj
   ·simp only
    rcases Nat.lt_or_ge m i with h6 | h6
    ·have:(m+1)*T.size≤i*T.size:=Nat.mul_le_mul_right _ (by omega)
     rw [Nat.add_mul] at this
     left;omega
    ·have:(i+1)*T.size≤m*T.size:=Nat.mul_le_mul_right _ (by omega)
     rw [Nat.add_mul] at this
     right;omega
theorem upd_self {T:Ty} {x y:T.den}:T.upd x 0 T y=some y:=by
 have h:yA T (t':=T) y=some y:=by unfold yA;rw [dif_pos rfl]
 cases T<;>simp [Ty.upd,h]

theorem run_storeV {t:TypeId} {ti:TI} {v:Value} {cs:List Value} {b k:Nat} {o:Oper} {a:Act} {xa xv:Operand} (hI:TIok P t ti) (hop:o.op=.store t xa xv) (ha:a.eval xa=.pointer (some ⟨b,k,none⟩)) (hv:(a.eval xv).cells=cs.toArray) (hn:cs.length=ti.size) (h1:∀ u∈cs,u.oneCell'=true)
  (ht:∀ j,j<cs.length→World.there w b (k+j)):(execOp a.eval o).run P w=.ok .skip (w.setCells b k cs):=by
 have hs:(Go.sizeOf t).run P w=.ok cs.length w:=by rw [hn];exact hI.size w
 have:=run_storeCells_cells (P:=P) b k cs 0 w (fun j hj=>by
  obtain ⟨⟨u,hu⟩,_⟩:=ht j (by omega)
  rw [Nat.add_zero,hu];rfl) (fun j hj=>by
  obtain ⟨_,hf⟩:=ht j (by omega)
  rw [Nat.add_zero];exact hf) h1
 rw [Nat.add_zero] at this
 simp [execOp,hop,ha,Instr.storeAt,Instr.sureAddr,storeVar,hs,hv,this]

theorem stR_ok (hΓ:TabOK P Γ) {rd:Option Nat} {o:Oper} {e:Ev} {ctx:Ctx} {t:TypeId} {xa xv:Operand} {pa pv:PV} {R:RdR} (hop:o.op=.store t xa xv) (hw:Wf e) (hc:CtxH e ctx) (hxa:ev e ctx xa=some pa) (hxv:ev e ctx xv=some pv) (h:stR Γ t pa pv H nx=some R) (r:R.T) (hr:R.m=some r) :
  R.OK P rd B o e (H,nx) r:=by
 have hd:∀ c,o.op≠.defer c:=by rw [hop];intro c hh;cases hh
 have hm1:xa∈o.op.operands.toList:=by rw [hop];simp [Op.operands]
 have hm2:xv∈o.op.operands.toList:=by rw [hop];simp [Op.operands]
 unfold stR at h
 split at h
 ·rename_i id k v ti hl
  split at h
  ·rename_i l hlk
   split at h
   ·rename_i hb
    cases h
    simp only [bA] at hb
    have hb1:=nB hb.1
    have hb2:=nL hb.2
    refine jB rfl hd fun S w η a hi hlen ho=>?_
    obtain ⟨b,g1,g2⟩:=cA hw hc hxa hm1 ho
    obtain ⟨us,g3,g4⟩:=RV.cells_sound (cA hw hc hxv hm2 ho)
    have hul:=g4.length
    obtain ⟨k1,k2,k3⟩:=box_store (k:=k) (l2:=v.cells) hi hlk g1 (by omega) g4
    rw [hb1] at k3
    exact ⟨undef,_,S,η,.inr ⟨run_storeV (v:=a.eval xv) (hΓ.ty _ _ hl) hop g2 g3 (by omega) g4.one k1,rfl⟩,k2,.refl _,Out.refl _ _ _,k3,trivial⟩
   ·cases h
  ·cases h
 ·rename_i id sz i k v ti hl
  split at h
  ·rename_i T xs T' hlk hT
   split at h
   ·rename_i y hy hsz
    have hsz:=nB hsz
    -- in both cases an element is exchanged
    have key:∀ (f:T.den→Option T.den) xs',wE xs i f=some xs'→(∀ x z,f x=some z→T.upd x k T' y=some z)→∀ S w η (a:Act),HInv B η H S w→En.Only (lk e) (rA o) S w η a.tmps →
      ∃ w' S',(execOp a.eval o).run P w=.ok .skip w'∧Grow B S w S' w'∧HInv B η ((id,.arr T xs')::fzR H v) S' w':=by
     intro f xs' hset hf S w η a hi0 ho
     obtain ⟨x,z,hgx,hfx,rfl⟩:=setM_some hset
     obtain ⟨S1,hi,hg1⟩:=fzR_sound hi0 v
     obtain ⟨b,o',n,cap,g1,g2⟩:=cA hw hc hxa hm1 ho
     obtain ⟨us,g3,g4⟩:=vG hi hy (RM.mono hg1.keep (.refl _) (cA hw hc hxv hm2 ho))
     have hI:=hΓ.ty _ _ hl
     obtain ⟨F1,hF1,u,g5,hA⟩:=hi.read hlk
     rw [g1] at g5
     cases g5
     obtain ⟨q1,q2,q3⟩:=ArrH.store hF1 hA hgx (hf _ _ hfx) rfl g3 hi.inw
     rw [← hsz] at q1 q2 q3
     have hul:=g3.length
     have hcells:(a.eval xv).cells=us.toArray:=by rw [g4];exact Ty.wrap_cells g3
     refine ⟨_,S1,run_storeV (v:=a.eval xv) hI hop g2 hcells (by rw [hul];exact (hI.ty T' hT).2) g3.oneCell (fun j hj=>(q1 j (by omega)).1),hg1.trans q2,?_⟩
     refine hi.set hlk (by rw [zA];exact nR _) q2.lt q2.keep fun F2 hF2 hA2=>?_
     obtain ⟨u2,e1,hA2⟩:=hA2
     rw [g1] at e1
     cases e1
     obtain ⟨p1,p2,p3⟩:=ArrH.store hF2 hA2 hgx (hf _ _ hfx) rfl g3 hi.inw
     rw [← hsz] at p1 p2 p3
     refine ⟨fun _ _ h=>.inl h,fun b' o'' hb' hn=>⟨?_,World.frozen?_setCells _ _ _ _ _⟩,fun b' hb' hn=>gB b us _ w b' fun h=>?_,F2,⟨_,g1,p3⟩,fun b o h=>⟨.inl h,by rw [zA];exact (hF2 b o h).2.1,(hF2 b o h).2.2⟩⟩
     ·refine World.cell?_setCells_out b us _ w ⟨b',o'',none⟩ fun h _=>?_
      simp only at h ⊢
      subst h
      rcases Nat.lt_or_ge o'' (o'+i.toNat*sz+k) with h | h
      ·exact .inl h
      ·refine .inr (Nat.le_of_not_lt fun hlt=>hn ?_)
       have:=(p1 (o''-(o'+i.toNat*sz+k)) (by omega)).2
       rwa [show o'+i.toNat*sz+k+(o''-(o'+i.toNat*sz+k))=o'' by omega] at this
     ·subst h
      exact hn _ (p1 0 T'.size_pos).2
    split at h
    ·rename_i z hb hcast
     cases h
     simp only [bA,decide_eq_true_eq] at hb
     obtain ⟨hk0,rfl⟩:=hb
     have hk0:=nB hk0
     subst hk0
     obtain ⟨_,hzy⟩:=kA hcast
     have hzy:y=z:=hzy
     subst hzy
     refine jB rfl hd fun S w η a hi hlen ho=>?_
     obtain ⟨w',S',k1,k2,k3⟩:=key (fun _=>some y) r hr (fun x z hz=>by cases hz;exact upd_self) S w η a hi ho
     exact ⟨undef,w',S',η,.inr ⟨k1,rfl⟩,k2,.refl _,Out.refl _ _ _,(by rw [fzR_eq] at k3;exact k3),trivial⟩
    ·cases h
     refine jB rfl hd fun S w η a hi hlen ho=>?_
     obtain ⟨w',S',k1,k2,k3⟩:=key _ r hr (fun x z hz=>hz) S w η a hi ho
     exact ⟨undef,w',S',η,.inr ⟨k1,rfl⟩,k2,.refl _,Out.refl _ _ _,(by rw [fzR_eq] at k3;exact k3),trivial⟩
   ·cases h
  ·cases h
 ·cases h

theorem appM_some {α:Type} {bts:Nat} {xs ys zs:List α} (h:eB bts xs ys=some zs):(xs.length+ys.length)*bts≤140737488355328∧zs=xs++ys:=by
 unfold eB at h
 split at h
 ·rename_i hb;cases h;exact ⟨oD hb,rfl⟩
 ·cases h
theorem ArrH.append' {F:Cells} {u x:Value} {id el ty:TypeId} {T:Ty} {bts:Nat} {xs ys:List T.den} (hI:SlP P id el T bts) (hB:B≤w.heap.size) (hF:∀ b o,F b o→B≤b∧b<w.heap.size∧¬ S b o) (hin:InLt S w) (h:ArrH F S w u T xs)
  (hx:VRep S w (.list T) ys x) (hb:(xs.length+ys.length)*bts≤140737488355328):∃ (v:Value) (w':World) (F':Cells),(Builtin.append_ #[id,id] ty #[u,x]).run P w=.ok v w'∧v.oneCell'=true ∧
   Grow B S w S w'∧ArrH F' S w' v T (xs++ys)∧(∀ b o,F' b o→F b o∨w.heap.size≤b)∧(∀ b o,F' b o→b<w'.heap.size∧¬ S b o) ∧
   (∀ b o,b<w.heap.size→¬ F b o→w'.cell? ⟨b,o,none⟩=w.cell? ⟨b,o,none⟩∧w'.frozen? ⟨b,o,none⟩=w.frozen? ⟨b,o,none⟩) ∧
   ∀ b,b<w.heap.size→(∀ o,¬ F b o)→w'.heap[b]? = w.heap[b]? := by
 obtain ⟨base,cap,w',F',h1,h2,h3,h4,h5,h6,h7⟩:=ArrH.append (ty:=ty) hI hB hF hin h hx hb
 exact ⟨_,w',F',h1,rfl,h2,h3,h4,h5,h6,h7⟩

theorem uF {o:Oper} {a:Act} {t:TypeId} {s x:Operand} {v:Value} {w':World} (hop:o.op=.call { callee:=.builtin .append,args:=#[s,x],argTypes:=#[t,t] }) (h:(Builtin.append_ #[t,t] o.type #[a.eval s,a.eval x]).run P w=.ok v w'):(execOp a.eval o).run P w=.ok (.value v) w':=by
 simp [execOp,hop,resolve,invoke,builtin,h]
theorem tA (hΓ:TabOK P Γ) {t el:TypeId} {bts:Nat} {T:Ty} (h:bD Γ t=some (el,bts,T)):SlP P t el T bts:=by
 unfold bD at h
 split at h
 ·rename_i ti hl
  split at h
  ·rename_i el' bts' hk
   split at h
   ·rename_i te hl2
    split at h
    ·rename_i T' hT
     cases h
     exact SlP.of (hΓ.ty _ _ hl) hk (hΓ.ty _ _ hl2) hT
    ·cases h
   ·cases h
  ·cases h
 ·cases h
theorem appE_ok {rd:Option Nat} {o:Oper} {e:Ev} {ctx:Ctx} {t el:TypeId} {bts:Nat} {T:Ty} {s x:Operand} {px:PV} {ys:List T.den} (hS:SlP P t el T bts) (hop:o.op=.call { callee:=.builtin .append,args:=#[s,x],argTypes:=#[t,t] }) (hw:Wf e) (hc:CtxH e ctx) (hx:ev e ctx x=some px)
  (hsrc:pG H T px=some ys) (hs:∀ S w η (a:Act),HInv B η H S w→En.Only (lk e) (rA o) S w η a.tmps→∃ base,a.eval s=.slice base 0 0) (zs:List T.den) (hz:eB bts [] ys=some zs):RdR.OK P rd B o e (H,nx) (wr (eB bts [] ys) [] (fun _=>.c (.h nx)) (fun zs=>(nx,.arr T zs)::dP H px) (nx+1)) zs:=by
 have hd:∀ c,o.op≠.defer c:=by rw [hop];intro c hh;cases hh
 have hm2:x∈o.op.operands.toList:=by rw [hop];simp [Op.operands,Call.operands]
 obtain ⟨hb,hzs⟩:=appM_some hz
 refine jB rfl hd fun S w η a hi0 hlen ho=>?_
 obtain ⟨S1,hi,hg1⟩:=bI hi0 px
 have hv:=jE hi hsrc (PM.mono hg1.keep (.refl _) (cA hw hc hx hm2 ho))
 obtain ⟨base,hbase⟩:=hs S w η a hi0 ho
 have hA:ArrH (fun _ _=>False) S1 w (a.eval s) T []:=⟨base,0,hbase,Nat.zero_le _,Nat.zero_le _,.inl ⟨rfl,fun _ _ h=>h⟩⟩
 obtain ⟨v,w',F',g1,g2,g3,g4,g5,g6,g7,g8⟩:=ArrH.append' (ty:=o.type) hS hi.base (fun _ _ h=>h.elim) hi.inw hA hv hb
 have hk0:η nx=none:=hlen nx (nR _) (Nat.lt_succ_self _)
 refine ⟨v,w',S1,η.add nx v,.inl (uF hop g1),hg1.trans g3,.push hk0 _,Out.add _ _ _,?_,?_⟩
 ·show HInv B (η.add nx v) (((nx,.arr T zs)::dP H px)++H) S1 w'
  rw [List.cons_append,← dJ,hzs]
  exact hi.new hk0 g3.below.size g3.lt g3.keep (fun _ _ h=>.inl h) (fun b hb=>g8 b hb fun _ h=>h) F' ⟨v,Eta.add_same _ _ _,g4⟩ fun b o h=>⟨(g5 b o h).resolve_left fun h=>h,(g6 b o h).1,(g6 b o h).2⟩
 ·show CM S1 w' (η.add nx v) (.h nx) v
  exact ⟨Eta.add_same _ _ _,g2⟩
theorem appR_ok (hΓ:TabOK P Γ) {rd:Option Nat} {o:Oper} {e:Ev} {ctx:Ctx} {t:TypeId} {s x:Operand} {ps px:PV} {R:RdR} (hop:o.op=.call { callee:=.builtin .append,args:=#[s,x],argTypes:=#[t,t] }) (hw:Wf e) (hc:CtxH e ctx) (hs:ev e ctx s=some ps) (hx:ev e ctx x=some px)
  (h:fG Γ t ps px H nx=some R) (r:R.T) (hr:R.m=some r):R.OK P rd B o e (H,nx) r:=by
 have hd:∀ c,o.op≠.defer c:=by rw [hop];intro c hh;cases hh
 have hm1:s∈o.op.operands.toList:=by rw [hop];simp [Op.operands,Call.operands]
 have hm2:x∈o.op.operands.toList:=by rw [hop];simp [Op.operands,Call.operands]
 unfold fG at h
 split at h
 ·rename_i el bts T id hel
  have hS:=tA hΓ hel
  split at h
  ·rename_i T' xs' hlk
   split at h
   ·rename_i ys xs hsrc hcast hid
    cases h
    obtain ⟨hT,hxs⟩:=kA hcast
    cases hT
    have hxs:xs'=xs:=hxs
    subst hxs
    have hid:id<nx:=nL hid
    obtain ⟨hb,hzs⟩:=appM_some hr
    refine jB rfl hd fun S w η a hi0 hlen ho=>?_
    have hk0:η nx=none:=hlen nx (nR _) (Nat.lt_succ_self _)
    obtain ⟨S1,hi,hg1⟩:=bI hi0 px
    have hv:=jE hi hsrc (PM.mono hg1.keep (.refl _) (cA hw hc hx hm2 ho))
    obtain ⟨f1,f2⟩:=cA hw hc hs hm1 ho
    obtain ⟨F1,hF1,u,k1,hA⟩:=hi.read hlk
    rw [f1] at k1
    cases k1
    obtain ⟨v,w',F',g1,g2,g3,g4,g5,g6,g7,g8⟩:=ArrH.append' (ty:=o.type) hS hi.base hF1 hi.inw hA hv hb
    refine ⟨v,w',S1,η.add nx v,.inl (uF hop g1),hg1.trans g3,.push hk0 _,Out.add _ _ _,?_,?_⟩
    ·show HInv B (η.add nx v) (((nx,.arr T r)::(id,.gone)::dP H px)++H) S1 w'
     rw [List.cons_append,List.cons_append,← dJ,hzs]
     refine hi.move hk0 hlk (by omega) g3.below.size g3.lt g3.keep fun F2 hF2 hA2=>?_
     obtain ⟨u2,e1,hA2⟩:=hA2
     rw [f1] at e1
     cases e1
     obtain ⟨v2,w2,F2',p1,p2,p3,p4,p5,p6,p7,p8⟩:=ArrH.append' (ty:=o.type) hS hi.base hF2 hi.inw hA2 hv hb
     rw [g1] at p1
     cases p1
     exact ⟨fun _ _ h=>.inl h,p7,p8,F2',⟨v,Eta.add_same _ _ _,p4⟩,fun b o h=>⟨p5 b o h,p6 b o h⟩⟩
    ·show CM S1 w' (η.add nx v) (.h nx) v
     exact ⟨Eta.add_same _ _ _,g2⟩
   ·cases h
  ·cases h
 ·rename_i el bts T T' hel
  split at h
  ·rename_i ys hsrc
   cases h
   refine appE_ok (tA hΓ hel) hop hw hc hx hsrc (fun S w η a _ ho=>?_) r hr
   obtain ⟨_,base,hh⟩:=cA hw hc hs hm1 ho
   exact ⟨base,hh⟩
  ·cases h
 ·rename_i el bts T hel
  split at h
  ·rename_i ys hsrc
   cases h
   exact appE_ok (tA hΓ hel) hop hw hc hx hsrc (fun S w η a _ ho=>⟨none,cA hw hc hs hm1 ho⟩) r hr
  ·cases h
 ·cases h
theorem mkM_some {α:Type} {n c:Int} {bts:Nat} {d:α} {xs:List α} (h:mkM n c bts d=some xs):0≤n∧n≤c∧c*bts≤140737488355328∧xs=List.replicate n.toNat d:=by
 unfold mkM at h
 split at h
 ·rename_i h1 h2 h3;cases h;exact ⟨oD h1,oD h2,oD h3,rfl⟩
 ·cases h
theorem le_bts {c:Int} {bts:Nat} (h0:0≤c) (hp:0<bts):c≤c*bts:=by
 have:c*1≤c*(bts:Int):=Int.mul_le_mul_of_nonneg_left (by omega) h0
 omega
theorem mk_bounds {n c:Int} {bts:Nat} (h0:0≤n) (hn:n≤c) (hb:c*bts≤140737488355328) (hp:0<bts):(bts:Int)*c≤2 ^ 48∧c≤9223372036854775807∧c.toNat≤maxLen∧n.toNat≤c.toNat:=by
 have h1:=le_bts (c:=c) (by omega) hp
 rw [Int.mul_comm]
 refine ⟨by omega,by omega,by simp only [maxLen];omega,by omega⟩
theorem mkR_ok (hΓ:TabOK P Γ) {rd:Option Nat} {o:Oper} {e:Ev} {ctx:Ctx} {t:TypeId} {xl xc:Operand} {pl pc:PV} {R:RdR} (hop:o.op=.makeSlice t xl xc) (hw:Wf e) (hc:CtxH e ctx) (hxl:ev e ctx xl=some pl) (hxc:ev e ctx xc=some pc) (h:mkR Γ t pl pc H nx=some R) (r:R.T) (hr:R.m=some r) :
  R.OK P rd B o e (H,nx) r:=by
 have hd:∀ c,o.op≠.defer c:=by rw [hop];intro c hh;cases hh
 have hm1:xl∈o.op.operands.toList:=by rw [hop];simp [Op.operands]
 have hm2:xc∈o.op.operands.toList:=by rw [hop];simp [Op.operands]
 unfold mkR at h
 split at h
 ·rename_i el bts T k n k' c hel
  cases h
  obtain ⟨h0,hn,hb,hrr⟩:=mkM_some hr
  refine jB rfl hd fun S w η a hi hlen ho=>?_
  have hk0:η nx=none:=hlen nx (nR _) (Nat.lt_succ_self _)
  obtain ⟨h1,_⟩:=PM.int.1 (cA hw hc hxl hm1 ho)
  obtain ⟨h2,_⟩:=PM.int.1 (cA hw hc hxc hm2 ho)
  obtain ⟨hu,⟨i,z,i1,i2,i3,i4,i5⟩,hp⟩:=tA hΓ hel
  obtain ⟨q1,q2,q3,q4⟩:=mk_bounds h0 hn hb hp
  have hrun:=run_make (P:=P) w t el i z hu i1 i2 k k' n c h0 hn (by rw [i5];exact q1) q2
  rw [i3,i4] at hrun
  have hk:Keep S w S (w.alloc (.cells (madeCells T.zero.toArray (c.toNat*T.size)) el)):=⟨fun _ _ h=>h,fun b o h=>World.cell?_alloc_lt _ _ _ (hi.inw b o h)⟩
  have hin:InLt S (w.alloc (.cells (madeCells T.zero.toArray (c.toNat*T.size)) el)):=fun b o h=>by have:=hi.inw b o h;simp;omega
  refine ⟨.slice (some ⟨w.heap.size,0,none⟩) n.toNat c.toNat,_,S,η.add nx (.slice (some ⟨w.heap.size,0,none⟩) n.toNat c.toNat),.inl (by simp [execOp,hop,h1,h2,hrun]),⟨(Below.refl _ _).alloc hi.base _,hk,hin,fun _ _ h=>.inl h,LK.alloc _ _⟩,.push hk0 _,Out.add _ _ _,?_,?_⟩
  ·show HInv B _ ((nx,.arr T r)::H) S _
   rw [hrr]
   refine hi.new hk0 (by simp) hin hk (fun _ _ h=>.inl h) (fun b hb=>Below.heap_alloc _ _ _ hb) (fun b o=>b=w.heap.size∧o<c.toNat*T.size) ⟨_,Eta.add_same _ _ _,ArrH.made T n.toNat c.toNat el q4 q3⟩ fun b o h=>?_
   obtain ⟨rfl,h⟩:=h
   exact ⟨nR _,by simp,fun hs=>absurd (hi.inw _ _ hs) (by omega)⟩
  ·change _∧_
   exact ⟨Eta.add_same _ _ _,rfl⟩
 ·cases h
theorem allocR_ok (hΓ:TabOK P Γ) {rd:Option Nat} {o:Oper} {e:Ev} {t:TypeId} {R:RdR} (hop:o.op=.alloc t) (h:allocR Γ o.dst t H nx=some R) (r:R.T):R.OK P rd B o e (H,nx) r:=by
 have hd:∀ c,o.op≠.defer c:=by rw [hop];intro c hh;cases hh
 unfold allocR at h
 split at h
 ·rename_i ti hl
  split at h
  ·cases h
  cases h
  obtain ⟨z,hz1,⟨cs,hz2,hz3⟩,_⟩:=(hΓ.ty _ _ hl).zero
  refine jB rfl hd fun S w η a hi hlen ho=>?_
  have hk0:η nx=none:=hlen nx (nR _) (Nat.lt_succ_self _)
  obtain ⟨g1,g2⟩:=box_new (el:=t) hk0 hi (hz3 S w η)
  refine ⟨.pointer (some ⟨w.heap.size,0,none⟩),_,S,η.add nx (.pointer (some ⟨w.heap.size,0,none⟩)),.inl (by simp [execOp,hop,Instr.alloc,hz1,newVar,newRow,hz2]),g1,.push hk0 _,Out.add _ _ _,?_,?_⟩
  ·show HInv B _ ((nx,.box ti.zero)::H) S _
   exact g2
  ·change ∃ b,_∧_
   exact ⟨w.heap.size,Eta.add_same _ _ _,rfl⟩
 ·cases h
theorem boxR_ok {rd:Option Nat} {o:Oper} {e:Ev} {ctx:Ctx} {t:TypeId} {x:Operand} {pv:PV} {R:RdR} (hop:o.op=.box t x) (hw:Wf e) (hc:CtxH e ctx) (hx:ev e ctx x=some pv) (h:boxR Γ o.dst pv H nx=some R) (r:R.T):R.OK P rd B o e (H,nx) r:=by
 have hd:∀ c,o.op≠.defer c:=by rw [hop];intro c hh;cases hh
 unfold boxR at h
 split at h
 ·rename_i v
  split at h
  ·cases h
  cases h
  refine jB rfl hd fun S w η a hi hlen ho=>?_
  have hk0:η nx=none:=hlen nx (nR _) (Nat.lt_succ_self _)
  obtain ⟨us,g3,g4⟩:=RV.cells_sound (cA hw hc hx (by rw [hop];simp [Op.operands]) ho)
  obtain ⟨g1,g2⟩:=box_new (el:=t) hk0 hi g4
  refine ⟨.pointer (some ⟨w.heap.size,0,none⟩),_,S,η.add nx (.pointer (some ⟨w.heap.size,0,none⟩)),.inl (by simp [execOp,hop,Instr.box,newVar,newRow,g3]),g1,.push hk0 _,Out.add _ _ _,?_,?_⟩
  ·show HInv B _ ((nx,.box v.cells)::H) S _
   exact g2
  ·change ∃ b,_∧_
   exact ⟨w.heap.size,Eta.add_same _ _ _,rfl⟩
 ·cases h

theorem opH1_sound:OpF.Sound opH1:=by
 intro P Γ hΓ rd B o e ctx H nx R h hw hc r hr
 unfold opH1 at h
 split at h
 ·rename_i t x hop
  split at h
  ·rename_i pv hx;exact ldR_ok hΓ hop hw hc hx h r hr
  ·cases h
 ·rename_i t x i hop
  split at h
  ·rename_i pv ix hx hi;exact ixR_ok hΓ hop hw hc hx hi h r hr
  ·cases h
 ·rename_i c hop
  split at h
  ·rename_i x t hcal hxs hts
   have hce:=gC hcal hxs hts
   subst hce
   split at h
   ·rename_i pv hx;exact lnR_ok hΓ hop hw hc hx h r hr
   ·cases h
  ·rename_i s x t t' hcal hxs hts
   have hce:=gC hcal hxs hts
   subst hce
   split at h
   ·rename_i ps px hs hx hb
    have:=nB hb
    subst this
    exact appR_ok hΓ hop hw hc hs hx h r hr
   ·cases h
  ·cases h
 ·rename_i t hop;exact allocR_ok hΓ hop h r
 ·rename_i t x hop
  split at h
  ·rename_i pv hx;exact boxR_ok hop hw hc hx h r
  ·cases h
 ·rename_i t xa xv hop
  split at h
  ·rename_i pa pv ha hv;exact stR_ok hΓ hop hw hc ha hv h r hr
  ·cases h
 ·rename_i t l c hop
  split at h
  ·rename_i pl pc hl hc';exact mkR_ok hΓ hop hw hc hl hc' h r hr
  ·cases h
 ·cases h
end

def neM {α:Type} (xs:List α):Option (List α):=match xs with
 | []=>none
 | x::r=>some (x::r)
inductive Ex where
 | norm
 | ret
 | exit (i:Nat)
 | go (l:Nat)
 | pan (T:TypeId)
abbrev Mp:=List (Nat×Nat)
structure EnS where
 H:PH
 nx:Nat
 m:Mp
 n0:Nat
 news:List SO
def memV:Mp→Nat→Bool
 | [],_=>false
 | (_,b)::r,i=>match Nat.beq b i with | true=>true | false=>memV r i
def encI (i j:Nat) (z:EnS):Option EnS:=match Nat.blt i z.n0 with
 | true=>match Nat.beq i j with
  | true=>some z
  | false=>none
 | false=>match lk z.m i with
  | some j'=>match Nat.beq j' j with
   | true=>some z
   | false=>none
  | none=>match Nat.blt i (z.n0+z.news.length),memV z.m j with
   | true,false=>some { z with m:=(i,j)::z.m }
   | _,_=>none
def eqLit:Lit→Lit→Bool
 | .nilS,.nilS=>true
 | .nilP,.nilP=>true
 | .nilF,.nilF=>true
 | .nilI,.nilI=>true
 | .nilK,.nilK=>true
 | _,_=>false
def encL {X Y:Type} (enc:X→Y→EnS→Option (List TV×EnS)):List X→List Y→EnS→Option (List TV×EnS)
 | [],[],z=>some ([],z)
 | x::r,y::ys,z=>match enc x y z with
  | some (u1,z)=>match encL enc r ys z with
   | some (u2,z)=>some (u1++u2,z)
   | none=>none
  | none=>none
 | _,_,_=>none
def SF.enc:SF→FV→EnS→Option (List TV×EnS)
 | .p id off,.p id' off',z=>match Nat.beq off off' with
  | true=>match encI id id' z with
   | some z=>some ([],z)
   | none=>none
  | false=>none
 | .d t,.d t' x,z=>match yA t x with
  | some x=>some ([⟨.d t,x⟩],z)
  | none=>none
 | .y id,.y id',z=>match encI id id' z with
  | some z=>some ([],z)
  | none=>none
 | .h id,.h id',z=>match encI id id' z with
  | some z=>some ([],z)
  | none=>none
 | _,_,_=>none
def nilC (z:EnS):SV→Option CV
 | .d (.d t)=>some (.d t t.dflt)
 | .l k=>some (.l k)
 | .h i=>match Nat.blt i z.n0 with
  | true=>some (.h i)
  | false=>match z.news[i-z.n0]? with
   | some (.arr _)=>some (.l .nilS)
   | _=>match lk z.m i with
    | some j=>some (.h j)
    | none=>none
 | _=>none
def nilCs (z:EnS):List SV→Option (List CV)
 | []=>some []
 | x::r=>match nilC z x,nilCs z r with
  | some c,some l=>some (c::l)
  | _,_=>none
def SV.enc:SV→CV→EnS→Option (List TV×EnS)
 | .d (.d t),c,z=>match t.agg with
  | true=>none
  | false=>match lE (fzC z.H c) t c with
   | some x=>some ([⟨.d t,x⟩],{ z with H:=fzC z.H c })
   | none=>none
 | .d (.n t),.l .nilS,z=>some ([⟨.n t,(none:Option (List t.den))⟩],z)
 | .d (.n t),.n t' o,z=>match castD (.n t) ⟨.n t',o⟩ with
  | some o=>some ([⟨.n t,o⟩],z)
  | none=>none
 | .l k,.l k',z=>match eqLit k k' with
  | true=>some ([],z)
  | false=>none
 | .p id off,.p id' off',z=>match Nat.beq off off' with
  | true=>match encI id id' z with
   | some z=>some ([],z)
   | none=>none
  | false=>none
 | .h id,.h id',z=>match encI id id' z with
  | some z=>some ([],z)
  | none=>none
 | .h id,.l .nilS,z=>match Nat.blt id z.n0,z.news[id-z.n0]? with
  | false,some (.arr t)=>match encI id z.nx { z with H:=(z.nx,.arr t [])::z.H,nx:=z.nx+1 } with
   | some z=>some ([],z)
   | none=>none
  | false,some (.tab t _)=>match encI id z.nx { z with H:=(z.nx,.tab t [] (z.nx+1))::z.H,nx:=z.nx+2 } with
   | some z=>some ([],z)
   | none=>none
  | _,_=>none
 | .h id,.l .nilP,z=>match Nat.blt id z.n0,z.news[id-z.n0]? with
  | false,some (.opt vs)=>match nilCs z vs with
   | some cs=>match encI id z.nx { z with H:=(z.nx,.opt true cs)::z.H,nx:=z.nx+1 } with
    | some z=>some ([],z)
    | none=>none
   | none=>none
  | _,_=>none
 | .h id,.p id' 0,z=>match encI id id' z with
  | some z=>some ([],z)
  | none=>none
 | .f g fs cs,.f g' fs' cs',z=>match Nat.beq g g' with
  | true=>match encL SF.enc fs fs' z with
   | some (u1,z)=>match encL SF.enc cs cs' z with
    | some (u2,z)=>some (u1++u2,z)
    | none=>none
   | none=>none
  | false=>none
 | .y id,.y id',z=>match encI id id' z with
  | some z=>some ([],z)
  | none=>none
 | .any,_,z=>some ([],z)
 | _,_,_=>none
def SR.enc:SR→RV→EnS→Option (List TV×EnS)
 | .c x,.c y,z=>SV.enc x y z
 | .s l,.s l',z=>encL SV.enc l l' z
 | _,_,_=>none
def SP.enc:SP→PV→EnS→Option (List TV×EnS)
 | .r x,.r y,z=>SR.enc x y z
 | .t l,.t l',z=>encL SR.enc l l' z
 | _,_,_=>none
def slotEnc (e:Ev):List (Nat×SP)→EnS→Option (List TV×EnS)
 | [],z=>some ([],z)
 | (i,x)::r,z=>match lk e i with
  | some pv=>match SP.enc x pv z with
   | some (u1,z)=>match slotEnc e r z with
    | some (u2,z)=>some (u1++u2,z)
    | none=>none
   | none=>none
  | none=>none
def eqLS:LS→LS→Bool
 | .ready,.ready=>true
 | .busy,.busy=>true
 | .over,.over=>true
 | .done .ret,.done .ret=>true
 | .done (.exit i),.done (.exit j)=>Nat.beq i j
 | _,_=>false
def SO.enc:SO→Option PO→EnS→Option (List TV×EnS)
 | .box l,some (.box l'),z=>encL SV.enc l l' z
 | .arr t,some (.arr t' xs),z=>match yA (.list t) (t':=.list t') xs with
  | some xs=>some ([⟨.d (.list t),xs⟩],z)
  | none=>none
 | .frz t,some (.frz t' xs),z=>match yA (.list t) (t':=.list t') xs with
  | some xs=>some ([⟨.d (.list t),xs⟩],z)
  | none=>none
 | .tab t vid,some (.tab t' xss vid'),z=>match yA (.list (.list t)) (t':=.list (.list t')) xss with
  | some xss=>match encI vid vid' z with
   | some z=>some ([⟨.d (.list (.list t)),xss⟩],z)
   | none=>none
  | none=>none
 | .lp st,some (.lp _ st'),z=>match eqLS st st' with
  | true=>some ([],z)
  | false=>none
 | .flat n t,some (.flat n' t' xs),z=>match Nat.beq n n' with
  | true=>match yA (.list t) (t':=.list t') xs with
   | some xs=>some ([⟨.d (.list t),xs⟩],z)
   | none=>none
  | false=>none
 | .cel n l,some (.cel n' l'),z=>match Nat.beq n n' with
  | true=>encL SV.enc l l' z
  | false=>none
 | .bld T e,some (.bld T' e' s),z=>match Nat.beq T T',Nat.beq e e' with
  | true,true=>some ([⟨.d .str,s⟩],z)
  | _,_=>none
 | .opt l,some (.opt b l'),z=>match encL SV.enc l l' z with
  | some (u,z)=>some (⟨.d .bool,b⟩::u,z)
  | none=>none
 | .opt l,some (.box l'),z=>match encL SV.enc l l' z with
  | some (u,z)=>some (⟨.d .bool,false⟩::u,z)
  | none=>none
 | .us,_,z=>some ([],z)
 | .gone,_,z=>some ([],z)
 | _,_,_=>none
def fzO (x:SO) (i:Nat) (z:EnS):EnS:=match x with
 | .frz _=>{ z with H:=fzC z.H (.h i) }
 | _=>z
def objEnc:List (Nat×SO)→EnS→Option (List TV×EnS)
 | [],z=>some ([],z)
 | (i,x)::r,z=>match SO.enc x (lk (fzO x i z).H i) (fzO x i z) with
  | some (u1,z)=>match objEnc r z with
   | some (u2,z)=>some (u1++u2,z)
   | none=>none
  | none=>none
def newEnc:List SO→Nat→EnS→Option (List TV×EnS)
 | [],_,z=>some ([],z)
 | x::r,i,z=>match lk z.m i with
  | some j=>match SO.enc x (lk (fzO x j z).H j) (fzO x j z) with
   | some (u1,z)=>match newEnc r (i+1) z with
    | some (u2,z)=>some (u1++u2,z)
    | none=>none
   | none=>none
  | none=>none
def hasK {α:Type}:List (Nat×α)→Nat→Bool
 | [],_=>false
 | (k,_)::r,i=>match Nat.beq k i with | true=>true | false=>hasK r i
def onlyE (k:Skel):Ev→Bool
 | []=>true
 | (i,_)::r=>(hasK k.slots i||zC k.kill i)&&onlyE k r
def onlyH (k:Skel) (n0:Nat):PH→Bool
 | []=>true
 | (i,_)::r=>(Nat.ble n0 i||hasK k.objs i)&&onlyH k n0 r
def kindIs:SO→Option PO→Bool
 | .box _,some (.box _)=>true
 | .arr _,some (.arr _ _)=>true
 | .frz _,some (.frz _ _)=>true
 | .tab _ _,some (.tab _ _ _)=>true
 | .lp _,some (.lp _ _)=>true
 | .flat _ _,some (.flat _ _ _)=>true
 | .cel _ _,some (.cel _ _)=>true
 | .bld _ _,some (.bld _ _ _)=>true
 | .opt _,some (.opt _ _)=>true
 | .opt _,some (.box _)=>true
 | .us,_=>true
 | .gone,_=>true
 | _,_=>false
def objKind (H:PH) (n0:Nat):List (Nat×SO)→Bool
 | []=>true
 | (i,x)::r=>Nat.blt i n0&&kindIs x (lk H i)&&objKind H n0 r
def newKind (H:PH) (m:Mp):List SO→Nat→Bool
 | [],_=>true
 | x::r,i=>(match lk m i with | some j=>kindIs x (lk H j) | none=>false)&&newKind H m r (i+1)
def mH:SO→Bool
 | .gone=>true
 | _=>false
def goneOk (k:Skel) (n0:Nat):Mp→Bool
 | []=>true
 | (_,j)::r=>(Nat.ble n0 j||(match lk k.objs j with | some o=>mH o | none=>false))&&goneOk k n0 r
def Skel.enc (k:Skel) (st0 st:PS):Option (List TV) :=
 match slotEnc st.env k.slots ⟨st.hp,st.nx,[],st0.nx,k.news⟩ with
  | some (l1,z)=>match objEnc k.objs z with
   | some (l2,z)=>match newEnc k.news st0.nx z with
    | some (l3,z)=>match onlyE k (st.env.take (st.env.length-st0.env.length))&&(onlyH k st0.nx (z.H.take (z.H.length-st0.hp.length))&&(goneOk k st0.nx z.m&&(objKind z.H st0.nx k.objs&&newKind z.H z.m k.news st0.nx))) with
     | true=>some (l1++(l2++l3))
     | false=>none
    | none=>none
   | none=>none
  | none=>none
def Skel.encT (k:Skel) (st0 st:PS):Option (Tup k.tys):=match k.enc st0 st with
 | some l=>Tup.ofL k.tys l
 | none=>none
def Skel.decT (k:Skel) (st0:PS) (x:Tup k.tys):Option PS:=k.dec st0 (Tup.toL k.tys x)

abbrev Outs:=List (Ex×Skel)
@[reducible] def OutT:Outs→Type
 | []=>Empty
 | [x]=>Tup x.2.tys
 | x::y::r=>Tup x.2.tys⊕OutT (y::r)
def eqEx:Ex→Ex→Bool
 | .norm,.norm=>true
 | .ret,.ret=>true
 | .exit i,.exit j=>Nat.beq i j
 | .go i,.go j=>Nat.beq i j
 | .pan i,.pan j=>Nat.beq i j
 | _,_=>false
def inj (st0:PS) (ex:Ex) (st:PS):(l:Outs)→Option (OutT l)
 | []=>none
 | [x]=>match eqEx x.1 ex with
  | true=>x.2.encT st0 st
  | false=>none
 | x::y::r=>match (match eqEx x.1 ex with | true=>x.2.encT st0 st | false=>none) with
  | some t=>some (.inl t)
  | none=>match inj st0 ex st (y::r) with
   | some t=>some (.inr t)
   | none=>none
def outK {β:Type} (st0:PS):(l:Outs)→OutT l→(Ex→PS→Option β)→Option β
 | [],_,_=>none
 | [x],t,K=>match x.2.decT st0 t with
  | some st=>K x.1 st
  | none=>none
 | x::y::r,t,K=>Sum.elim (fun t=>match x.2.decT st0 t with
  | some st=>K x.1 st
  | none=>none) (fun t=>outK st0 (y::r) t K) t

inductive Ann where
 | a
 | seq (x y:Ann)
 | cond (x y:Ann)
 | join (outs:Outs) (x:Ann)
 | block (x:Ann)
 | loop (k:Skel) (outs:Outs) (x:Ann)
 | scp (l:Nat) (k:Skel) (outs:Outs) (x y:Ann)
 | reg (ms perm:List Nat) (fl:List Fl) (calls:Ann)
 | call (own:List Nat) (outs:Outs) (body next:Ann)
 | kp (own:List Nat) (k:Skel) (body next:Ann)
 | ne (s:Nat) (x:Ann)
 | lit (s:Nat) (v:Int) (x:Ann)
 | gq (f:Fl) (x y:Ann)
 | gs (x y:Ann)
 | ct (next:Ann)
def Ann.depth:Ann→Nat
 | .seq _ y=>y.depth+1
 | _=>0
def Ann.isSeq:Ann→Bool
 | .seq _ _=>true
 | _=>false
noncomputable def bothM {α:Type} (a b:Option α):Option α:=match Classical.propDecidable (a=b) with
 | .isTrue _=>b
 | .isFalse _=>none
noncomputable def nilM {α β:Type} (xs:List α) (a b:Option β):Option β:=match xs with
 | []=>bothM a b
 | _::_=>b
def jJ (i j:Int):Option Unit:=match decide (i=j) with
 | true=>some ()
 | false=>none

def sgn (want b:Bool):Bool:=match want with
 | true=>b
 | false=>notM b
def gdR (ops:List Oper) (e:Ev) (o:Oper):Option (Ctx×Bool):=match o.guard with
 | some (j,want)=>match ops[j]? with
  | some oj=>match oj.dst with
   | some d=>match lkp e d with
    | some (.r (.c (.d .bool b)),k)=>some ([(k,want)],sgn want b)
    | some (.g c b' v,k)=>match v with
     | .r (.c (.d .bool b))=>some ((k,want)::c,andM b' (sgn want b))
     | .any=>match b' with
      | false=>some ((k,want)::c,false)
      | true=>none
     | _=>none
    | _=>none
   | none=>none
  | none=>none
 | none=>none
def wC (d:Option Nat) (pv:PV) (e:Ev):Ev:=match d with
 | some d=>(d,pv)::e
 | none=>e
def vI {α:Type}:Nat→List α→List (Nat×α)
 | _,[]=>[]
 | i,x::r=>(i,x)::vI (i+1) r
def cB:FV→RV
 | .p id off=>.c (.p id off)
 | .y id=>.c (.y id)
 | .h id=>.c (.h id)
 | .d t x=>t.rv x
def pE (e:Ev) (ctx:Ctx):List Operand→Option (List RV)
 | []=>some []
 | x::r=>match ev e ctx x with
  | some (.r v)=>match pE e ctx r with
   | some l=>some (v::l)
   | none=>none
  | _=>none
def rndE:List Nat→List RV→Ev→Ev
 | p::ps,v::vs,e=>rndE ps vs ((p,.r v)::e)
 | _,_,e=>e
def noGE:Ev→Bool
 | []=>true
 | (_,v)::r=>!v.isG&&noGE r
def dropG:Ev→Ev
 | []=>[]
 | (i,v)::r=>match v.isG with
  | true=>(i,.any)::dropG r
  | false=>(i,v)::dropG r
def ltAll:List Nat→Nat→Bool
 | [],_=>true
 | p::ps,n=>Nat.blt p n&&ltAll ps n
def rE (Γ:Tabs) (st:PS):List ResultVar→Option (List RV)
 | []=>some []
 | .tmp t::r=>match lk st.env t with
  | some (.r v)=>match rE Γ st r with
   | some l=>some (v::l)
   | none=>none
  | _=>none
 | .cell t id::r=>match lk st.env t,lk Γ.ty id with
  | some (.r (.c (.p i k))),some ti=>match lk st.hp i with
   | some (.box l)=>match cutR ti l k with
    | some v=>match rE Γ st r with
     | some l=>some (v::l)
     | none=>none
    | none=>none
   | some (.flat n T xs)=>match Nat.beq k 0&&Nat.beq n ti.size,ti.agg with
    | true,true=>match rE Γ st r with
     | some l=>some (.s ((List.range n).map fun j=>.d T (qA xs j T.dflt))::l)
     | none=>none
    | _,_=>none
   | _=>none
  | _,_=>none
def yF (H:PH):List RV→PH
 | []=>H
 | x::r=>yF (fzR H x) r
def dRs (H:PH):List RV→PH
 | []=>[]
 | x::r=>dRs (fzR H x) r++dR H x

def pmI (n0 i j:Nat) (m:Mp):Option Mp:=match lk m i with
 | some j'=>match Nat.beq j' j with
  | true=>some m
  | false=>none
 | none=>match Nat.ble 1 i&&Nat.blt i n0,memV m j with
  | true,false=>some ((i,j)::m)
  | _,_=>none
def pmV (H:PH) (n0:Nat):SV→CV→Mp→Option (List TV×Mp)
 | .d (.d t),c,m=>match t.agg with
  | true=>none
  | false=>match lE H t c with
   | some x=>some ([⟨.d t,x⟩],m)
   | none=>none
 | .l k,.l k',m=>match eqLit k k' with
  | true=>some ([],m)
  | false=>none
 | .h i,.h j,m=>match pmI n0 i j m with
  | some m=>some ([],m)
  | none=>none
 | .h i,.p j 0,m=>match pmI n0 i j m with
  | some m=>some ([],m)
  | none=>none
 | _,_,_=>none
def pmL {X Y:Type} (f:X→Y→Mp→Option (List TV×Mp)):List X→List Y→Mp→Option (List TV×Mp)
 | [],[],m=>some ([],m)
 | x::r,y::ys,m=>match f x y m with
  | some (u1,m)=>match pmL f r ys m with
   | some (u2,m)=>some (u1++u2,m)
   | none=>none
  | none=>none
 | _,_,_=>none
def pmR (H:PH) (n0:Nat):SR→RV→Mp→Option (List TV×Mp)
 | .c x,.c y,m=>pmV H n0 x y m
 | .s l,.s l',m=>pmL (pmV H n0) l l' m
 | _,_,_=>none
def pmO (H:PH) (n0:Nat):SO→Option PO→Mp→Option (List TV×Mp)
 | .opt l,some (.opt b l'),m=>match pmL (pmV H n0) l l' m with
  | some (u,m)=>some (⟨.d .bool,b⟩::u,m)
  | none=>none
 | .opt l,some (.box l'),m=>match pmL (pmV H n0) l l' m with
  | some (u,m)=>some (⟨.d .bool,false⟩::u,m)
  | none=>none
 | .arr t,some (.arr t' xs),m=>match yA (.list t) (t':=.list t') xs with
  | some xs=>some ([⟨.d (.list t),xs⟩],m)
  | none=>none
 | _,_,_=>none
def pmN (H:PH) (n0:Nat):List SO→Nat→Mp→Option (List TV×Mp)
 | [],_,m=>some ([],m)
 | x::r,i,m=>match lk m i with
  | some j=>match pmO H n0 x (lk H j) m with
   | some (u1,m)=>match pmN H n0 r (i+1) m with
    | some (u2,m)=>some (u1++u2,m)
    | none=>none
   | none=>none
  | none=>none
def ctIn (s:PSpec) (H:PH) (rs:List RV):Option (Tup (SRs.tys s.a++tG s.o)×Mp):=match pmL (pmR H (s.o.length+1)) s.a rs [] with
 | some (u1,m)=>match pmN H (s.o.length+1) s.o 1 m with
  | some (u2,m)=>match Tup.ofL (SRs.tys s.a++tG s.o) (u1++u2) with
   | some x=>some (x,m)
   | none=>none
  | none=>none
 | none=>none
def ctR (m:Mp) (n0 nx i:Nat):Nat:=match lk m i with
 | some j=>j
 | none=>match i with
  | 0=>nx
  | i+1=>nx+(i+2-n0)
def FV.ren (ρ:Nat→Nat):FV→FV
 | .p id off=>.p (ρ id) off
 | .d t x=>.d t x
 | .y id=>.y (ρ id)
 | .h id=>.h (ρ id)
def CV.ren (ρ:Nat→Nat):CV→CV
 | .p id off=>.p (ρ id) off
 | .h id=>.h (ρ id)
 | .f g fs cs=>.f g (fs.map (FV.ren ρ)) (cs.map (FV.ren ρ))
 | .y id=>.y (ρ id)
 | .rw a b z=>.rw (ρ a) (ρ b) z
 | c=>c
def RV.ren (ρ:Nat→Nat):RV→RV
 | .c x=>.c (x.ren ρ)
 | .s l=>.s (l.map (CV.ren ρ))
def PV.ren (ρ:Nat→Nat):PV→PV
 | .r x=>.r (x.ren ρ)
 | .t l=>.t (l.map (RV.ren ρ))
 | _=>.any
def PO.ren (ρ:Nat→Nat):PO→PO
 | .box l=>.box (l.map (CV.ren ρ))
 | .arr t xs=>.arr t xs
 | .frz t xs=>.frz t xs
 | .opt b l=>.opt b (l.map (CV.ren ρ))
 | _=>.gone
def ctH (ρ:Nat→Nat) (H:PH):Nat→Nat→PH
 | _,0=>[]
 | i,k+1=>match lk H i with
  | some po=>(ρ i,po.ren ρ)::ctH ρ H (i+1) k
  | none=>ctH ρ H (i+1) k
def ctOut (s:PSpec) (m:Mp) (nx:Nat) (x:Tup (SRs.tys s.a++tG s.o)) (r:Tup s.k.tys):Option (PV×PH):=match s.st x,s.aft r with
 | some (_,h),some (pv,δ)=>match hasK δ 0 with
  | false=>some (pv.ren (ctR m (s.o.length+1) nx),ctH (ctR m (s.o.length+1) nx) (δ++bxs s.fo h) 1 (s.o.length+s.k.news.length))
  | true=>none
 | _,_=>none
def FV.ids:FV→List Nat
 | .p id _=>[id]
 | .y id=>[id]
 | .h id=>[id]
 | .d _ _=>[]
def FVs.ids:List FV→List Nat
 | []=>[]
 | x::r=>x.ids++FVs.ids r
def CV.ids:CV→List Nat
 | .p id _=>[id]
 | .h id=>[id]
 | .f _ fs cs=>FVs.ids fs++FVs.ids cs
 | .y id=>[id]
 | .rw id _ _=>[id]
 | _=>[]
def CVs.ids:List CV→List Nat
 | []=>[]
 | x::r=>x.ids++CVs.ids r
def RV.ids:RV→List Nat
 | .c x=>x.ids
 | .s l=>CVs.ids l
def RVs.ids:List RV→List Nat
 | []=>[]
 | x::r=>x.ids++RVs.ids r
def PV.ids:PV→List Nat
 | .r x=>x.ids
 | .t l=>RVs.ids l
 | .ep id _ _ _=>[id]
 | .er id _ _ _ _ _=>[id]
 | .xp id _=>[id]
 | .eo id _ _ _=>[id]
 | .vw id _ _ _=>[id]
 | .va id _ _=>[id]
 | .vh id _=>[id]
 | .vp id _ _ _=>[id]
 | .g _ _ v=>v.ids
 | _=>[]
def rB (e:Ev) (ctx:Ctx):List Operand→List Nat
 | []=>[]
 | x::r=>(match ev e ctx x with | some pv=>pv.ids | none=>[])++rB e ctx r
def dD (e:Ev) (ctx:Ctx) (o:Oper):List Nat:=rB e ctx o.op.operands.toList
def aI (e:Ev) (ctx:Ctx) (o:Oper) (R:RdR):List Nat:=match R.fl with
 | 0=>[]
 | _=>dD e ctx o
def eqNs:List Nat→List Nat→Bool
 | [],[]=>true
 | x::r,y::l=>Nat.beq x y&&eqNs r l
 | _,_=>false
def eqFl:Fl→Fl→Bool
 | .s a b,.s c d=>eqNs a c&&eqNs b d
 | .r,.r=>true
 | .k a,.k b=>eqNs a b
 | _,_=>false
def zJ:Option (List Fl)→Fl→Option (Option (List Fl))
 | none,_=>some none
 | some (f::fl),g=>match eqFl f g with
  | true=>some (some fl)
  | false=>none
 | some [],_=>none

def flKeys:Fl→List Nat
 | .s _ ks=>ks
 | .r=>[]
 | .k _=>[]
def nF (H H':PH):List Nat:=mC (H'.take (H'.length-H.length))
def nxOk:PH→Nat→Nat→Bool
 | [],a,b=>Nat.beq a b
 | _::_,_,_=>true
def leftD (H:PH):List Nat→PH
 | []=>[]
 | k::r=>(k,match lk H k with | some po=>po | none=>.gone)::leftD H r
def leftOk (H:PH):Fl→Bool
 | .r=>true
 | .k _=>true
 | .s ids ks=>ks.all fun k=>match lk H k with | some _=>zC ids k | none=>true
def gsl (ops:List Oper) (e:Ev) (o:Oper):Option (Nat×Bool×Bool):=match o.guard with
 | some (j,want)=>match ops[j]? with
  | some oj=>match oj.dst with
   | some d=>match lk e d with
    | some (.r (.c (.d .bool b)))=>some (d,want,b)
    | _=>none
   | none=>none
  | none=>none
 | none=>none
def gJ (d:Option Nat) (k:Skel):Bool:=match d,k.slots,k.kill with
 | some d,[(i,_)],[]=>Nat.beq i d
 | none,[],[]=>true
 | _,_,_=>false
def outD (d:Option Nat):Ex→Option Nat
 | .pan _=>none
 | _=>d
def callOuts (d:Option Nat):Outs→Bool
 | []=>true
 | x::r=>gJ (outD d x.1) x.2&&callOuts d r
def OpF.calm (F:OpF):OpF:=fun Γ o e ctx H nx=>match F Γ o e ctx H nx with
 | some R=>match Nat.ble R.fl 1 with
  | true=>some R
  | false=>none
 | none=>none
def xH:OpF:=opA.calm.or opH1
noncomputable section
variable (F:OpF)
mutual
def pc (n:Nat) (Γ:Tabs) (sz:Nat) (an:Ann) (c:Code) (β:Type) (st:PS) (K:Ex→PS→Option β):Option β:=match n with
 | 0=>none
 | n+1=>match an,c with
  | .join outs x,c=>(pc n Γ sz x c (OutT outs) st fun ex st'=>inj st ex st' outs).bind fun o=>outK st outs o K
  | .ne s x,c=>match lk st.env s with
   | some (.r (.c (.d (.list t) ys)))=>(neM ys).bind fun ys=>pc n Γ sz x c β { st with env:=(s,.c (.n t (some ys)))::st.env } K
   | _=>none
  | .lit s v x,c=>match lk st.env s with
   | some (.r (.c (.d (.int k) y)))=>(jJ y v).bind fun _=>pc n Γ sz x c β { st with env:=(s,.c (.d (.int k) v))::st.env } K
   | _=>none
  | _,.skip=>K .norm st
  | _,.ret=>K .ret st
  | _,.exit i=>K (.exit i) st
  | _,.label _=>K .norm st
  | _,.goto l=>K (.go l) st
  | .seq x y,.seq a b=>pc n Γ sz x a β st fun ex st'=>match ex with
   | .norm=>pc n Γ sz y b β st' K
   | ex=>K ex st'
  | .a,.seq a b=>pc n Γ sz .a a β st fun ex st'=>match ex with
   | .norm=>pc n Γ sz .a b β st' K
   | ex=>K ex st'
  | .cond x y,.cond t a b=>match ev st.env [] t with
   | some (.r (.c (.d .bool v)))=>cond v (pc n Γ sz x a β st K) (pc n Γ sz y b β st K)
   | some (.r (.c (.nt true _ xs)))=>nilM xs (pc n Γ sz x a β st K) (pc n Γ sz y b β st K)
   | some (.r (.c (.nt false _ xs)))=>nilM xs (pc n Γ sz y b β st K) (pc n Γ sz x a β st K)
   | _=>none
  | .a,.cond t a b=>match ev st.env [] t with
   | some (.r (.c (.d .bool v)))=>cond v (pc n Γ sz .a a β st K) (pc n Γ sz .a b β st K)
   | some (.r (.c (.nt true _ xs)))=>nilM xs (pc n Γ sz .a a β st K) (pc n Γ sz .a b β st K)
   | some (.r (.c (.nt false _ xs)))=>nilM xs (pc n Γ sz .a b β st K) (pc n Γ sz .a a β st K)
   | _=>none
  | .seq x y,.loop a=>pc n Γ sz x a β st fun ex st'=>match ex with
   | .norm=>match y.isSeq with
    | true=>pc n Γ sz y (.loop a) β st' K
    | false=>none
   | ex=>K ex st'
  | .block x,.block i a=>pc n Γ sz x a β st fun ex st'=>match ex with
   | .exit j=>match Nat.beq j i with
    | true=>K .norm st'
    | false=>K (.exit j) st'
   | ex=>K ex st'
  | .a,.block i a=>pc n Γ sz .a a β st fun ex st'=>match ex with
   | .exit j=>match Nat.beq j i with
    | true=>K .norm st'
    | false=>K (.exit j) st'
   | ex=>K ex st'
  | .loop k outs x,.loop a=>match k.encT st st with
   | some s0=>(iA (σ:=Tup k.tys) (β:=OutT outs) (fun s=>match k.decT st s with
     | some st1=>pc n Γ sz x a (Tup k.tys⊕OutT outs) st1 fun ex st2=>match ex with
      | .norm=>match k.encT st st2 with
       | some s'=>some (.inl s')
       | none=>none
      | ex=>match inj st ex st2 outs with
       | some o=>some (.inr o)
       | none=>none
     | none=>none) s0).bind fun o=>outK st outs o K
   | none=>none
  | .scp l k outs x y,.scope a=>match findLabel a l with
   | some rest=>((pc n Γ sz x a (Tup k.tys⊕OutT outs) st fun ex st2=>match ex with
      | .go l'=>match Nat.beq l' l with
       | true=>match k.encT st st2 with
        | some s'=>some (.inl s')
        | none=>none
       | false=>none
      | ex=>match inj st ex st2 outs with
       | some o=>some (.inr o)
       | none=>none).bind (Sum.elim (iA (σ:=Tup k.tys) (β:=OutT outs) fun s=>match k.decT st s with
     | some st1=>pc n Γ sz y rest (Tup k.tys⊕OutT outs) st1 fun ex st2=>match ex with
      | .go l'=>match Nat.beq l' l with
       | true=>match k.encT st st2 with
        | some s'=>some (.inl s')
        | none=>none
       | false=>none
      | ex=>match inj st ex st2 outs with
       | some o=>some (.inr o)
       | none=>none
     | none=>none) some)).bind fun o=>outK st outs o K
   | none=>none
  | .call own [] x _,.rangeFunc f ps assign body=>match ev st.env [] f with
   | some (.r (.c (.f g fs cs)))=>match lk Γ.fn g with
    | some fn=>match fn.body,Nat.ble (fs.length+1+cs.length) fn.ntmps,zC Γ.own 3000000 with
     | some code,true,false=>pc n { Γ with own:=own } fn.ntmps x code β ⟨(vI 0 (fs.map cB++[.c (.y st.nx)]++cs.map cB)).map fun x=>(x.1,.r x.2),(st.nx,.lp ⟨sz,dropG st.env,ps,assign,body⟩ .ready)::st.hp,st.nx+1⟩ fun ex st'=>match ex with
      | .exit _=>none
      | .go _=>none
      | .pan _=>none
      | _=>match rE Γ st' fn.results.toList,lk st'.hp st.nx with
       | some _,some (.lp _ .ready)=>K .norm ⟨st.env,(st.nx,.gone)::st'.hp,st'.nx⟩
       | some _,some (.lp _ (.done .ret))=>K .ret ⟨st.env,(st.nx,.gone)::st'.hp,st'.nx⟩
       | some _,some (.lp _ (.done (.exit i)))=>K (.exit i) ⟨st.env,(st.nx,.gone)::st'.hp,st'.nx⟩
       | _,_=>none
     | _,_,_=>none
    | none=>none
   | _=>none
  | .reg ms perm fl calls,.region _ ops true=>match chkP ops.toList fl ms perm with
   | true=>pr n Γ sz ops.toList (perm.map fun j=>ops.toList.getD j default) (some (perm.map fun j=>fl.getD j .r)) calls β st (K .norm) fun T st=>K (.pan T) st
   | false=>none
  | .reg _ _ fl calls,.region _ ops false=>pr n Γ sz ops.toList ops.toList (some fl) calls β st (K .norm) fun T st=>K (.pan T) st
  | .a,.region _ ops false=>pr n Γ sz ops.toList ops.toList none .a β st (K .norm) fun T st=>K (.pan T) st
  | _,_=>none
def pr (n:Nat) (Γ:Tabs) (sz:Nat) (ops:List Oper) (todo:List Oper) (fl:Option (List Fl)) (an:Ann) (β:Type) (st:PS) (K:PS→Option β) (K2:TypeId→PS→Option β):Option β:=match n with
  | 0=>none
  | n+1=>match todo with
    | []=>match fl with
      | some (_::_)=>none
      | _=>K st
    | o::rest=>match dstOk sz o.dst with
      | false=>none
      | true=>match o.guard with
        | some _=>match an with
         | .gs x y=>match gsl ops st.env o with
          | some (d,want,bb)=>cond (sgn want bb) (pr n Γ sz ops (o::rest) fl x β { st with env:=(d,.c (.d .bool want))::st.env } K K2) (pr n Γ sz ops (o::rest) fl y β { st with env:=(d,.c (.d .bool (!want)))::st.env } K K2)
          | none=>none
         | an=>match gdR ops st.env o with
          | some (ctx,b)=>match an with
           | .gq f x y=>match b with
            | true=>pr n Γ sz ops ({ o with guard:=none }::rest) fl x β st K K2
            | false=>match zJ fl f,leftOk st.hp f with
              | some fl',true=>pr n Γ sz ops rest fl' y β ⟨wC o.dst (.g ctx b .any) st.env,leftD st.hp (flKeys f)++st.hp,st.nx⟩ K K2
              | _,_=>none
           | an=>match F Γ o st.env ctx st.hp st.nx with
            | some R=>match zJ fl (.s (aI st.env ctx o R) []),Nat.ble R.fl 1 with
              | some fl',true=>match R.t with
                | some _=>match (R.pv R.df).isG with
                  | true=>none
                  | false=>pr n Γ sz ops rest fl' an β { st with env:=wC o.dst (.g ctx b (R.pv R.df)) st.env } K K2
                | none=>(cond b R.m (some R.df)).bind fun r=>match (R.pv r).isG with
                  | true=>none
                  | false=>pr n Γ sz ops rest fl' an β { st with env:=wC o.dst (.g ctx b (R.pv r)) st.env } K K2
              | _,_=>none
            | none=>match o.op,an,o.dst with
              | .call c,.call own [(.norm,k)] body next,some d=>match c.callee,pE st.env ctx c.args.toList,zJ fl (.k []),gJ (some d) k,k.objs,k.news with
                | .value f,some args,some (some fl'),true,[],[]=>match ev st.env ctx f with
                  | some (.r (.c (.f g fs cs)))=>match lk Γ.fn g with
                    | some fn=>match fn.body,Nat.ble (fs.length+args.length+cs.length) fn.ntmps with
                      | some code,true=>(cond b (pc n { Γ with own:=own } fn.ntmps body code (Tup k.tys) ⟨(vI 0 (fs.map cB++args++cs.map cB)).map fun x=>(x.1,.r x.2),st.hp,st.nx⟩ fun ex st'=>match ex with
                          | .exit _=>none
                          | .go _=>none
                          | .pan _=>none
                          | _=>match rE Γ st' fn.results.toList with
                            | some rs=>k.encT st ⟨(d,dB rs)::st.env,st'.hp,st'.nx⟩
                            | none=>none) (some (Tup.dflt k.tys))).bind fun ov=>match k.decT st ov with
                        | some st2=>match lk st2.env d with
                          | some pv=>match pv.isG with
                            | true=>none
                            | false=>pr n Γ sz ops rest (some fl') next β ⟨(d,.g ctx b pv)::st.env,st.hp,st.nx⟩ K K2
                          | none=>none
                        | none=>none
                      | _,_=>none
                    | none=>none
                  | _=>none
                | _,_,_,_,_,_=>none
              | _,_,_=>none
          | none=>none
        | none=>match F Γ o st.env [] st.hp st.nx with
          | some R=>match Nat.ble R.fl 1 with
            | true=>match zJ fl (.s (aI st.env [] o R) []) with
              | some fl'=>R.m.bind fun r=>match (R.pv r).isG with
                | true=>none
                | false=>pr n Γ sz ops rest fl' an β { st with env:=wC o.dst (R.pv r) st.env } K K2
              | none=>none
            | false=>match Nat.ble st.nx R.nx with
              | true=>R.m.bind fun r=>match zJ fl (.s (dD st.env [] o) (mC (R.δ r))),(R.pv r).isG,nxOk (R.δ r) st.nx R.nx with
                | some fl',false,true=>pr n Γ sz ops rest fl' an β ⟨wC o.dst (R.pv r) st.env,R.δ r++st.hp,R.nx⟩ K K2
                | _,_,_=>none
              | false=>none
          | none=>match o.op,an with
            | .call c,.call own outs body next=>match c.callee,pE st.env [] c.args.toList,zJ fl .r with
              | .value f,some args,some (some fl')=>match ev st.env [] f with
                | some (.r (.c (.f g fs cs)))=>match lk Γ.fn g with
                  | some fn=>match fn.body,Nat.ble (fs.length+args.length+cs.length) fn.ntmps with
                    | some code,true=>match outs with
                      | []=>pc n { Γ with own:=own } fn.ntmps body code β ⟨(vI 0 (fs.map cB++args++cs.map cB)).map fun x=>(x.1,.r x.2),st.hp,st.nx⟩ fun ex st'=>match ex with
                        | .exit _=>none
                        | .go _=>none
                        | .pan T=>K2 T ⟨st.env,st'.hp,st'.nx⟩
                        | _=>match rE Γ st' fn.results.toList with
                          | some rs=>pr n Γ sz ops rest (some fl') next β ⟨wC o.dst (dB rs) st.env,st'.hp,st'.nx⟩ K K2
                          | none=>none
                      | outs=>match callOuts o.dst outs with
                       | false=>none
                       | true=>(pc n { Γ with own:=own } fn.ntmps body code (OutT outs) ⟨(vI 0 (fs.map cB++args++cs.map cB)).map fun x=>(x.1,.r x.2),st.hp,st.nx⟩ fun ex st'=>match ex with
                        | .exit _=>none
                        | .go _=>none
                        | .pan T=>inj st (.pan T) ⟨st.env,st'.hp,st'.nx⟩ outs
                        | _=>match rE Γ st' fn.results.toList with
                          | some rs=>inj st .norm ⟨wC o.dst (dB rs) st.env,st'.hp,st'.nx⟩ outs
                          | none=>none).bind fun ov=>outK st outs ov fun ex st'=>match ex with
                          | .pan T=>K2 T st'
                          | _=>pr n Γ sz ops rest (some fl') next β st' K K2
                    | _,_=>none
                  | none=>none
                | some (.r (.c (.y id)))=>match outs,lk st.hp id,body with
                  | [],some (.lp L .ready),.seq xa xb=>match Nat.beq args.length L.ps.size&&(ltAll L.ps.toList L.n&&noGE L.env) with
                    | true=>pc n { Γ with own:=own } L.n xa L.assign β ⟨rndE L.ps.toList args L.env,st.hp,st.nx⟩ fun ex st1=>match ex,lk st1.hp id with
                      | .norm,some (.lp L1 .ready)=>pc n { Γ with own:=own } L.n xb L.body β ⟨st1.env,(id,.lp L1 .busy)::st1.hp,st1.nx⟩ fun ex2 st2=>match lk st2.hp id with
                        | some (.lp L2 .busy)=>match ex2 with
                          | .norm=>pr n Γ sz ops rest (some fl') next β ⟨wC o.dst (.c (.d .bool true)) st.env,(id,.lp L2 .ready)::st2.hp,st2.nx⟩ K K2
                          | .ret=>pr n Γ sz ops rest (some fl') next β ⟨wC o.dst (.c (.d .bool false)) st.env,(id,.lp L2 (.done .ret))::st2.hp,st2.nx⟩ K K2
                          | .exit i=>pr n Γ sz ops rest (some fl') next β ⟨wC o.dst (.c (.d .bool false)) st.env,(id,.lp L2 (.done (.exit i)))::st2.hp,st2.nx⟩ K K2
                          | .go _=>none
                          | .pan _=>none
                        | _=>none
                      | _,_=>none
                    | false=>none
                  | _,_,_=>none
                | _=>none
              | _,_,_=>none
            | .call c,.kp own k body next=>match c.callee,pE st.env [] c.args.toList,gJ o.dst k with
              | .value f,some args,true=>match ev st.env [] f with
                | some (.r (.c (.f g fs cs)))=>match lk Γ.fn g with
                  | some fn=>match fn.body,Nat.ble (fs.length+args.length+cs.length) fn.ntmps with
                    | some code,true=>(pc n { Γ with own:=own } fn.ntmps body code (Tup k.tys) ⟨(vI 0 (fs.map cB++args++cs.map cB)).map fun x=>(x.1,.r x.2),st.hp,st.nx⟩ fun ex st'=>match ex with
                        | .exit _=>none
                        | .go _=>none
                        | .pan _=>none
                        | _=>match rE Γ st' fn.results.toList with
                          | some rs=>k.encT st ⟨wC o.dst (dB rs) st.env,st'.hp,st'.nx⟩
                          | none=>none).bind fun ov=>match k.decT st ov with
                      | some st2=>match zJ fl (.k (nF st.hp st2.hp)) with
                        | some (some fl')=>pr n Γ sz ops rest (some fl') next β st2 K K2
                        | _=>none
                      | none=>none
                    | _,_=>none
                  | none=>none
                | _=>none
              | _,_,_=>none
            | .call c,.ct next=>match c.callee,pE st.env [] c.args.toList with
              | .value f,some args=>match ev st.env [] f with
                | some (.r (.c (.f g fs cs)))=>match lk Γ.pp g with
                  | some s=>match ctIn s (yF st.hp (fs.map cB++args++cs.map cB)) (fs.map cB++args++cs.map cB) with
                    | some (x,mp)=>(s.m x).bind fun r=>match ctOut s mp st.nx x r with
                      | some (pv,δ)=>match zJ fl (.k (nF st.hp (δ++yF st.hp (fs.map cB++args++cs.map cB)))),pv.isG with
                        | some (some fl'),false=>pr n Γ sz ops rest (some fl') next β ⟨wC o.dst pv st.env,δ++yF st.hp (fs.map cB++args++cs.map cB),st.nx+1+s.k.news.length⟩ K K2
                        | _,_=>none
                      | none=>none
                    | none=>none
                  | none=>none
                | _=>none
              | _,_=>none
            | .panic x,_=>match ev st.env [] x,zJ fl .r with
              | some (.r (.c (.i T))),some _=>K2 T st
              | _,_=>none
            | _,_=>none
end
end
theorem jG {α:Type} {p:Nat→α→Prop}:∀ i v,lk ([]:List (Nat×α)) i=some v→p i v:=fun _ _ h=>by cases h
theorem dA {α:Type} {p:Nat→α→Prop} {k:Nat} {x:α} {r:List (Nat×α)} (h:p k x) (hr:∀ i v,lk r i=some v→p i v):∀ i v,lk ((k,x)::r) i=some v→p i v:=by
 intro i v hl
 by_cases hk:k=i
 ·subst hk;rw [jA] at hl;cases hl;exact h
 ·rw [wA _ _ hk] at hl;exact hr i v hl

def Fz (H H':PH):Prop:=∀ i po,po≠.gone→lk H i=some po→lk H' i=some po∨(∃ t xs,po=.arr t xs∧lk H' i=some (.frz t xs))∨(∃ t xss v,po=.tab t xss v∧lk H' i=some (.frz (.list t) xss))
theorem Fz.refl (H:PH):Fz H H:=fun _ _ _ h=>.inl h
theorem Fz.trans {A B C:PH} (h:Fz A B) (k:Fz B C):Fz A C:=by
 intro i po hg hi
 rcases h i po hg hi with h1 | ⟨t,xs,rfl,h1⟩ | ⟨t,xss,v,rfl,h1⟩
 ·exact k i po hg h1
 ·rcases k i _ (by simp) h1 with h2 | ⟨t',xs',h3,h2⟩ | ⟨t',xss',v,h3,h2⟩
  ·exact .inr (.inl ⟨t,xs,rfl,h2⟩)
  ·cases h3
  ·cases h3
 ·rcases k i _ (by simp) h1 with h2 | ⟨t',xs',h3,h2⟩ | ⟨t',xss',v,h3,h2⟩
  ·exact .inr (.inr ⟨t,xss,v,rfl,h2⟩)
  ·cases h3
  ·cases h3

def MpOk (z:EnS):Prop:=(∀ i i' j,lk z.m i=some j→lk z.m i'=some j→i=i')∧∀ i j,lk z.m i=some j→i<z.n0+z.news.length
theorem HInv.eta {B:Nat} {S:Cells} {w:World} {η:Eta} {H:PH} {k:Nat} {v:Value} (hk:η k=none) (hi:HInv B η H S w):HInv B (η.add k v) H S w :=
 hi.chg (fun _=>False) (nR _) hi.inw (Keep.refl _ _) (.push hk _) (fun _ _ _ h=>h) fun F _ _ _ =>
  ⟨⟨fun b o h=>.inl h,fun b o hb _=>⟨rfl,rfl⟩,fun b r _ _ hr=>hr⟩,fun _ _ _=>False,fun _ _ h=>h.elim,fun _ _ _ h=>h.elim,fun _ _ h=>h.elim⟩
structure Zok (B:Nat) (S:Cells) (w:World) (η:Eta) (z:EnS):Prop where
 inv:HInv B η z.H S w
 len:∀ i,z.nx≤i→η i=none
 mp:MpOk z
structure Zst (B:Nat) (w:World) (z:EnS) (η:Eta) (S:Cells) (z':EnS) (η':Eta) (S':Cells):Prop where
 pre:Pre η η'
 grow:Grow B S w S' w
 ext:∀ i j,lk z.m i=some j→lk z'.m i=some j
 fz:Fz z.H z'.H
 suf:∃ δ,z'.H=δ++z.H
 n0:z'.n0=z.n0
 news:z'.news=z.news
theorem Zst.refl {B:Nat} {S:Cells} {w:World} {η:Eta} {z:EnS} (hz:Zok B S w η z):Zst B w z η S z η S:=⟨.refl _,Grow.refl hz.inv.inw,fun _ _ h=>h,.refl _,⟨[],rfl⟩,rfl,rfl⟩
theorem Zst.trans {B:Nat} {w:World} {z1 z2 z3:EnS} {η1 η2 η3:Eta} {S1 S2 S3:Cells} (h:Zst B w z1 η1 S1 z2 η2 S2) (k:Zst B w z2 η2 S2 z3 η3 S3):Zst B w z1 η1 S1 z3 η3 S3 :=
 ⟨h.pre.trans k.pre,h.grow.trans k.grow,fun i j hh=>k.ext i j (h.ext i j hh),h.fz.trans k.fz,by
  obtain ⟨d1,e1⟩:=h.suf;obtain ⟨d2,e2⟩:=k.suf
  exact ⟨d2++d1,by rw [e2,e1];simp⟩,k.n0.trans h.n0,k.news.trans h.news⟩
structure Fin (n0:Nat) (w:World) (S:Cells) (η:Eta) (m:Mp) (Sf:Cells) (ηf:Eta) (mf:Mp) (η2:Eta):Prop where
 keep:Keep S w Sf w
 pre:Pre η ηf
 ext:∀ i j,lk m i=some j→lk mf i=some j
 lnk:∀ i j v,(i<n0∧i=j∨n0≤i∧lk mf i=some j)→ηf j=some v→η2 i=some v
theorem Fin.back {B:Nat} {w:World} {z z':EnS} {η η' ηf η2:Eta} {S S' Sf:Cells} {mf:Mp} (h:Zst B w z η S z' η' S') (f:Fin z'.n0 w S' η' z'.m Sf ηf mf η2):Fin z.n0 w S η z.m Sf ηf mf η2 :=
 ⟨h.grow.keep.trans f.keep,h.pre.trans f.pre,fun i j hh=>f.ext i j (h.ext i j hh),by rw [← h.n0];exact f.lnk⟩

section
variable {B:Nat} {S Sf:Cells} {w:World} {η ηf η2:Eta} {z z':EnS} {mf:Mp}
theorem encI_ok {i j:Nat} (h:encI i j z=some z') (hm:MpOk z):z'.H=z.H∧z'.nx=z.nx∧z'.n0=z.n0∧z'.news=z.news∧MpOk z'∧(∀ a b,lk z.m a=some b→lk z'.m a=some b)∧(i<z.n0∧i=j∨z.n0≤i∧lk z'.m i=some j):=by
 unfold encI at h
 split at h
 ·rename_i hb
  have hb:=nL hb
  split at h
  ·rename_i he
   cases h
   exact ⟨rfl,rfl,rfl,rfl,hm,fun _ _ h=>h,.inl ⟨hb,nB he⟩⟩
  ·cases h
 ·rename_i hb
  have hge:z.n0≤i:=by
   cases Nat.lt_or_ge i z.n0 with
   | inl h=>have:Nat.blt i z.n0=true:=Nat.ble_eq_true_of_le h;rw [this] at hb;cases hb
   | inr h=>exact h
  split at h
  ·rename_i j' hl
   split at h
   ·rename_i he
    cases h
    have:=nB he
    subst this
    exact ⟨rfl,rfl,rfl,rfl,hm,fun _ _ h=>h,.inr ⟨hge,hl⟩⟩
   ·cases h
  ·rename_i hl
   split at h
   ·rename_i _ hv
    cases h
    have hnv:∀ a,lk z.m a≠some j:=by
     intro a ha
     have:memV z.m j=true:=by
      clear hl hv hm
      revert ha
      generalize z.m=m
      intro ha
      induction m with
      | nil=>cases ha
      | cons x r ih =>
       obtain ⟨p,q⟩:=x
       unfold lk at ha
       unfold memV
       cases hpa:Nat.beq p a with
       | true=>rw [hpa] at ha;cases ha;rw [Nat.beq_refl]
       | false =>
        rw [hpa] at ha
        cases Nat.beq q j
        ·exact ih ha
        ·rfl
     rw [this] at hv;cases hv
    rename_i hbt
    refine ⟨rfl,rfl,rfl,rfl,⟨?_,?_⟩,fun a b hab=>?_,.inr ⟨hge,jA _ _ _⟩⟩
    rotate_left
    ·intro a b hab
     by_cases e1:i=a
     ·subst e1;exact nL hbt
     ·simp only at hab
      rw [wA _ _ e1] at hab
      exact hm.2 a b hab
    rotate_left
    ·intro a a' b h1 h2
     by_cases e1:i=a<;>by_cases e2:i=a'
     ·rw [← e1,← e2]
     ·subst e1
      rw [jA] at h1;cases h1
      rw [wA _ _ e2] at h2
      exact absurd h2 (hnv a')
     ·subst e2
      rw [jA] at h2;cases h2
      rw [wA _ _ e1] at h1
      exact absurd h1 (hnv a)
     ·rw [wA _ _ e1] at h1
      rw [wA _ _ e2] at h2
      exact hm.1 a a' b h1 h2
    ·rw [wA _ _ (fun e=>by subst e;rw [hl] at hab;cases hab)];exact hab
   ·cases h
theorem kD {i j:Nat} (h:encI i j z=some z') (hz:Zok B S w η z):Zok B S w η z'∧Zst B w z η S z' η S∧∀ Sf ηf mf η2,Fin z.n0 w S η z'.m Sf ηf mf η2→∀ v,η j=some v→η2 i=some v:=by
 obtain ⟨h1,h2,h3,h4,h5,h6,h7⟩:=encI_ok h hz.mp
 refine ⟨⟨by rw [h1];exact hz.inv,by rw [h2];exact hz.len,h5⟩,⟨.refl _,Grow.refl hz.inv.inw,h6,by rw [h1];exact .refl _,⟨[],by rw [h1];rfl⟩,h3,h4⟩,fun Sf ηf mf η2 f v hv=>?_⟩
 refine f.lnk i j v (h7.imp id fun h=>⟨h.1,f.ext _ _ h.2⟩) (f.pre.get hv)

def ROK {X Y V:Type} (enc:X→Y→EnS→Option (List TV×EnS)) (dec:X→List TV→Option (Y×List TV)) (M:Cells→World→Eta→Y→V→Prop):Prop:=∀ x y z L z',enc x y z=some (L,z')→∀ B S w η,Zok B S w η z →
 ∃ η' S',Zok B S' w η' z'∧Zst B w z η S z' η' S'∧∀ rest y2 L2,dec x (L++rest)=some (y2,L2)→L2=rest∧∀ Sf ηf mf η2,Fin z.n0 w S' η' z'.m Sf ηf mf η2→∀ v,M S w η y v→M Sf w η2 y2 v
theorem ROK.list {X Y V:Type} {enc:X→Y→EnS→Option (List TV×EnS)} {dec:X→List TV→Option (Y×List TV)} {M:Cells→World→Eta→Y→V→Prop} (h:ROK enc dec M) (hmono:∀ {S S':Cells} {w:World} {η η':Eta} {y:Y} {v:V},Keep S w S' w→Pre η η'→M S w η y v→M S' w η' y v):ROK (encL enc) (decL dec) (fun S w η=>All2 (M S w η)):=by
 intro xs
 induction xs with
 | nil =>
  intro ys z L z' he B S w η hz
  cases ys with
  | cons _ _=>cases he
  | nil =>
   cases he
   refine ⟨η,S,hz,.refl hz,fun rest y2 L2 hd=>?_⟩
   cases hd
   exact ⟨rfl,fun Sf ηf mf η2 _ v hv=>by cases hv;exact .nil⟩
 | cons x xs ih =>
  intro ys z L z' he B S w η hz
  cases ys with
  | nil=>cases he
  | cons y ys =>
   simp only [encL] at he
   split at he
   ·rename_i u1 z1 h1
    split at he
    ·rename_i u2 z2 h2
     cases he
     obtain ⟨η1,S1,hz1,st1,d1⟩:=h x y z u1 z1 h1 B S w η hz
     obtain ⟨ηx,Sx,hzx,st2,d2⟩:=ih ys z1 u2 _ h2 B S1 w η1 hz1
     refine ⟨ηx,Sx,hzx,st1.trans st2,fun rest y2 L2 hd=>?_⟩
     simp only [decL] at hd
     rw [aA] at hd
     split at hd
     ·rename_i y1 L1 hd1
      obtain ⟨e1,f1⟩:=d1 (u2++rest) y1 L1 hd1
      subst e1
      split at hd
      ·rename_i ys1 L3 hd2
       cases hd
       obtain ⟨e2,f2⟩:=d2 rest ys1 _ hd2
       refine ⟨e2,fun Sf ηf mf η2 fin v hv=>?_⟩
       have fin1:Fin z1.n0 w Sx ηx z'.m Sf ηf mf η2:=by rw [st1.n0];exact fin
       cases hv with
       | cons hv1 hv2 =>
        refine .cons ?_ (f2 Sf ηf mf η2 fin1 _ (hv2.mono fun _ _=>hmono st1.grow.keep st1.pre))
        refine f1 Sf ηf mf η2 ?_ _ hv1
        have fb:=Fin.back st2 (by rw [st2.n0];exact fin1)
        rw [st1.n0] at fb;exact fb
      ·cases hd
     ·cases hd
    ·cases he
   ·cases he

theorem encL_len {X Y:Type} {enc:X→Y→EnS→Option (List TV×EnS)}:∀ {l:List X} {l':List Y} {z z':EnS} {u:List TV},encL enc l l' z=some (u,z')→l.length=l'.length
 | [],[],_,_,_,_=>rfl
 | [],_::_,_,_,_,h=>by cases h
 | _::_,[],_,_,_,h=>by cases h
 | x::r,y::ys,z,z',u,h=>by
  simp only [encL] at h
  split at h
  ·split at h
   ·rename_i h2
    simp [encL_len h2]
   ·cases h
  ·cases h
theorem cI {X Y:Type} {dec:X→List TV→Option (Y×List TV)}:∀ {l:List X} {ys:List Y} {L L2:List TV},decL dec l L=some (ys,L2)→ys.length=l.length
 | [],ys,L,L2,h=>by cases h;rfl
 | x::r,ys,L,L2,h=>by
  simp only [decL] at h
  split at h
  ·split at h
   ·rename_i h2
    cases h
    simp [cI h2]
   ·cases h
  ·cases h

theorem zB {d:DT} {x y:d.den} (h:castD d ⟨d,x⟩=some y):x=y:=by
 unfold castD at h
 simp only [dite_true] at h
 exact Option.some.inj h
theorem SF.ok:ROK SF.enc SF.dec (fun S w η=>FM S w η):=by
 intro x y z L z' he B S w η hz
 unfold SF.enc at he
 split at he
 ·rename_i id off id' off'
  split at he
  ·rename_i hb
   have hb:=nB hb
   subst hb
   split at he
   ·rename_i z1 h1
    cases he
    obtain ⟨g1,g2,g3⟩:=kD h1 hz
    refine ⟨η,S,g1,g2,fun rest y2 L2 hd=>?_⟩
    cases hd
    refine ⟨rfl,fun Sf ηf mf η2 fin v hv=>?_⟩
    obtain ⟨b,e1,e2⟩:=hv
    exact ⟨b,g3 Sf ηf mf η2 fin _ e1,e2⟩
   ·cases he
  ·cases he
 ·rename_i t t' x'
  split at he
  ·rename_i x1 hc
   cases he
   refine ⟨η,S,hz,.refl hz,fun rest y2 L2 hd=>?_⟩
   simp only [SF.dec,PE.decT,List.cons_append,List.nil_append] at hd
   split at hd
   ·rename_i x2 L3 h3
    cases hd
    split at h3
    ·rename_i x3 h4
     cases h3
     have:=zB (d:=.d t) h4
     subst this
     exact ⟨rfl,fun Sf ηf mf η2 fin v hv=>(vC hc hv).keep fin.keep⟩
    ·cases h3
   ·cases hd
  ·cases he
 ·rename_i id id'
  split at he
  ·rename_i z1 h1
   cases he
   obtain ⟨g1,g2,g3⟩:=kD h1 hz
   refine ⟨η,S,g1,g2,fun rest y2 L2 hd=>?_⟩
   cases hd
   refine ⟨rfl,fun Sf ηf mf η2 fin v hv=>?_⟩
   obtain ⟨b,e1,e2⟩:=hv
   exact ⟨b,g3 Sf ηf mf η2 fin _ e1,e2⟩
  ·cases he
 ·rename_i id id'
  split at he
  ·rename_i z1 h1
   cases he
   obtain ⟨g1,g2,g3⟩:=kD h1 hz
   refine ⟨η,S,g1,g2,fun rest y2 L2 hd=>?_⟩
   cases hd
   exact ⟨rfl,fun Sf ηf mf η2 fin v hv=>⟨g3 Sf ηf mf η2 fin _ hv.1,hv.2⟩⟩
  ·cases he
 ·cases he
theorem fzC_fz (H:PH) (c:CV):Fz H (fzC H c)∧∃ δ,fzC H c=δ++H:=by
 unfold fzC
 split
 ·rename_i id
  split
  ·rename_i t xs hl
   refine ⟨fun i po _ hi=>?_,[(id,.frz t xs)],rfl⟩
   by_cases h:id=i
   ·subst h;rw [hl] at hi;cases hi
    exact .inr (.inl ⟨t,xs,rfl,jA _ _ _⟩)
   ·exact .inl (by rw [wA _ _ h];exact hi)
  ·rename_i t xss v hl
   refine ⟨fun i po _ hi=>?_,[(id,.frz (.list t) xss)],rfl⟩
   by_cases h:id=i
   ·subst h;rw [hl] at hi;cases hi
    exact .inr (.inr ⟨t,xss,v,rfl,jA _ _ _⟩)
   ·exact .inl (by rw [wA _ _ h];exact hi)
  ·exact ⟨.refl _,[],rfl⟩
 ·exact ⟨.refl _,[],rfl⟩
theorem SV.ok:ROK SV.enc SV.dec (fun S w η=>CM S w η):=by
 intro x y z L z' he B S w η hz
 unfold SV.enc at he
 split at he
 ·rename_i t
  split at he
  ·cases he
  ·rename_i ha
   split at he
   ·rename_i x1 hc
    cases he
    obtain ⟨S1,hi1,hg1⟩:=fzC_sound hz.inv y
    obtain ⟨q1,q2⟩:=fzC_fz z.H y
    refine ⟨η,S1,⟨hi1,hz.len,hz.mp⟩,⟨.refl _,hg1,fun _ _ h=>h,q1,q2,rfl,rfl⟩,fun rest y2 L2 hd=>?_⟩
    simp only [SV.dec,PE.decT,List.cons_append,List.nil_append] at hd
    split at hd
    ·rename_i x2 L3 h3 h5
     cases hd
     split at h3
     ·rename_i x3 h4
      cases h3
      have:=zB (d:=.d t) h4
      subst this
      exact ⟨rfl,fun Sf ηf mf η2 fin v hv=>⟨ha,(kE hi1 hc (CM.mono hg1.keep (.refl _) hv)).keep fin.keep⟩⟩
     ·cases h3
    ·cases hd
   ·cases he
 ·rename_i t
  cases he
  refine ⟨η,S,hz,.refl hz,fun rest y2 L2 hd=>?_⟩
  simp only [SV.dec,List.cons_append,List.nil_append] at hd
  split at hd
  ·rename_i x3 h4
   cases hd
   have:=zB (d:=.n t) h4
   subst this
   exact ⟨rfl,fun Sf ηf mf η2 fin v hv=>hv⟩
  ·cases hd
 ·rename_i t t' o
  split at he
  ·rename_i o1 hc
   cases he
   have he':=castD_some hc
   cases he'
   refine ⟨η,S,hz,.refl hz,fun rest y2 L2 hd=>?_⟩
   simp only [SV.dec,List.cons_append,List.nil_append] at hd
   split at hd
   ·rename_i x3 h4
    cases hd
    have:=zB (d:=.n t) h4
    subst this
    refine ⟨rfl,fun Sf ηf mf η2 fin v hv=>?_⟩
    cases o1 with
    | none=>exact hv
    | some xs=>exact ⟨hv.1.keep fin.keep,hv.2⟩
   ·cases hd
  ·cases he
 ·rename_i k k'
  split at he
  ·rename_i hb
   cases he
   have hk:k=k':=by cases k<;>cases k'<;>first | rfl | cases hb
   subst hk
   refine ⟨η,S,hz,.refl hz,fun rest y2 L2 hd=>?_⟩
   cases hd
   exact ⟨rfl,fun Sf ηf mf η2 fin v hv=>hv⟩
  ·cases he
 ·rename_i id off id' off'
  split at he
  ·rename_i hb
   have hb:=nB hb
   subst hb
   split at he
   ·rename_i z1 h1
    cases he
    obtain ⟨g1,g2,g3⟩:=kD h1 hz
    refine ⟨η,S,g1,g2,fun rest y2 L2 hd=>?_⟩
    cases hd
    refine ⟨rfl,fun Sf ηf mf η2 fin v hv=>?_⟩
    obtain ⟨b,e1,e2⟩:=hv
    exact ⟨b,g3 Sf ηf mf η2 fin _ e1,e2⟩
   ·cases he
  ·cases he
 ·rename_i id id'
  split at he
  ·rename_i z1 h1
   cases he
   obtain ⟨g1,g2,g3⟩:=kD h1 hz
   refine ⟨η,S,g1,g2,fun rest y2 L2 hd=>?_⟩
   cases hd
   refine ⟨rfl,fun Sf ηf mf η2 fin v hv=>?_⟩
   exact ⟨g3 Sf ηf mf η2 fin _ hv.1,hv.2⟩
  ·cases he
 ·rename_i id
  split at he
  ·rename_i t hb hn
   split at he
   ·rename_i z1 h1
    cases he
    have hk0:η z.nx=none:=hz.len z.nx (nR _)
    have hz1:Zok B S w (η.add z.nx (.slice none 0 0)) { z with H:=(z.nx,.arr t [])::z.H,nx:=z.nx+1 }:=by
     refine ⟨?_,fun i hi=>?_,hz.mp⟩
     ·exact hz.inv.new hk0 (nR _) hz.inv.inw (Keep.refl _ _) (fun _ _ h=>.inl h) (fun _ _=>rfl) (fun _ _=>False) ⟨.slice none 0 0,Eta.add_same _ _ _,none,0,rfl,nR _,Nat.zero_le _,.inl ⟨rfl,fun _ _ h=>h⟩⟩ (fun _ _ h=>h.elim)
     ·have hi:z.nx+1≤i:=hi
      rw [Eta.add_ne _ _ (by omega)];exact hz.len i (by omega)
    have hfresh:∀ i po,lk z.H i=some po→lk ((z.nx,PO.arr t [])::z.H) i=some po∨i=z.nx:=fun i po hi=>by
     by_cases h:z.nx=i
     ·exact .inr h.symm
     ·exact .inl (by rw [wA _ _ h];exact hi)
    obtain ⟨g1,g2,g3⟩:=kD h1 hz1
    obtain ⟨e1,e2,e3,e4,_,e6,_⟩:=encI_ok h1 hz1.mp
    refine ⟨_,S,g1,⟨.push hk0 _,Grow.refl hz.inv.inw,e6,?_,⟨[(z.nx,.arr t [])],by rw [e1];rfl⟩,e3,e4⟩,fun rest y2 L2 hd=>?_⟩
    ·rw [e1]
     intro i po hgone hi
     rcases hfresh i po hi with h | h
     ·exact .inl h
     ·-- an object with the next number would be no object
      subst h
      obtain ⟨F1,_,hP⟩:=hz.inv.read hi
      rcases hP.has with h | ⟨v,h⟩
      ·exact absurd h hgone
      ·rw [hk0] at h;cases h
    ·cases hd
     refine ⟨rfl,fun Sf ηf mf η2 fin v hv=>?_⟩
     have hv:v=.slice none 0 0:=hv
     subst hv
     exact ⟨g3 Sf ηf mf η2 fin _ (Eta.add_same _ _ _),rfl⟩
   ·cases he
  ·rename_i t vid hb hn
   split at he
   ·rename_i z1 h1
    cases he
    have hk0:η z.nx=none:=hz.len z.nx (nR _)
    have hk1:η (z.nx+1)=none:=hz.len (z.nx+1) (by omega)
    have hk2:(η.add (z.nx+1) (.tuple #[])) z.nx=none:=by rw [Eta.add_ne _ _ (by omega)];exact hk0
    have hz1:Zok B S w ((η.add (z.nx+1) (.tuple #[])).add z.nx (.slice none 0 0)) { z with H:=(z.nx,.tab t [] (z.nx+1))::z.H,nx:=z.nx+2 }:=by
     refine ⟨?_,fun i hi=>?_,hz.mp⟩
     ·exact (hz.inv.eta (v:=.tuple #[]) hk1).new hk2 (nR _) hz.inv.inw (Keep.refl _ _) (fun _ _ h=>.inl h) (fun _ _=>rfl) (fun _ _=>False) ⟨.slice none 0 0,#[],Eta.add_same _ _ _,by rw [Eta.add_ne _ _ (by omega)];exact Eta.add_same _ _ _,rfl,none,0,rfl,nR _,Nat.zero_le _,.inl ⟨rfl,fun _ _ h=>h⟩⟩ (fun _ _ h=>h.elim)
     ·have hi:z.nx+2≤i:=hi
      rw [Eta.add_ne _ _ (by omega),Eta.add_ne _ _ (by omega)];exact hz.len i (by omega)
    have hfresh:∀ i po,lk z.H i=some po→lk ((z.nx,PO.tab t [] (z.nx+1))::z.H) i=some po∨i=z.nx:=fun i po hi=>by
     by_cases h:z.nx=i
     ·exact .inr h.symm
     ·exact .inl (by rw [wA _ _ h];exact hi)
    obtain ⟨g1,g2,g3⟩:=kD h1 hz1
    obtain ⟨e1,e2,e3,e4,_,e6,_⟩:=encI_ok h1 hz1.mp
    refine ⟨_,S,g1,⟨(Pre.push hk1 _).trans (Pre.push hk2 _),Grow.refl hz.inv.inw,e6,?_,⟨[(z.nx,.tab t [] (z.nx+1))],by rw [e1];rfl⟩,e3,e4⟩,fun rest y2 L2 hd=>?_⟩
    ·rw [e1]
     intro i po hgone hi
     rcases hfresh i po hi with h | h
     ·exact .inl h
     ·-- an object with the next number would be no object
      subst h
      obtain ⟨F1,_,hP⟩:=hz.inv.read hi
      rcases hP.has with h | ⟨v,h⟩
      ·exact absurd h hgone
      ·rw [hk0] at h;cases h
    ·cases hd
     refine ⟨rfl,fun Sf ηf mf η2 fin v hv=>?_⟩
     have hv:v=.slice none 0 0:=hv
     subst hv
     exact ⟨g3 Sf ηf mf η2 fin _ (Eta.add_same _ _ _),rfl⟩
   ·cases he
  ·cases he
 ·rename_i id
  split at he
  ·rename_i l hb hn
   split at he
   ·rename_i cs hcs
    split at he
    ·rename_i z1 h1
     cases he
     have hk0:η z.nx=none:=hz.len z.nx (nR _)
     have hz1:Zok B S w (η.add z.nx (.pointer none)) { z with H:=(z.nx,.opt true cs)::z.H,nx:=z.nx+1 }:=by
      refine ⟨?_,fun i hi=>?_,hz.mp⟩
      ·exact hz.inv.new hk0 (nR _) hz.inv.inw (Keep.refl _ _) (fun _ _ h=>.inl h) (fun _ _=>rfl) (fun _ _=>False) ⟨Eta.add_same _ _ _,fun _ _ h=>h⟩ (fun _ _ h=>h.elim)
      ·have hi:z.nx+1≤i:=hi
       rw [Eta.add_ne _ _ (by omega)];exact hz.len i (by omega)
     obtain ⟨g1,g2,g3⟩:=kD h1 hz1
     obtain ⟨e1,e2,e3,e4,_,e6,_⟩:=encI_ok h1 hz1.mp
     refine ⟨_,S,g1,⟨.push hk0 _,Grow.refl hz.inv.inw,e6,?_,⟨[(z.nx,.opt true cs)],by rw [e1];rfl⟩,e3,e4⟩,fun rest y2 L2 hd=>?_⟩
     ·rw [e1]
      intro i po hgone hi
      by_cases h:z.nx=i
      ·subst h
       obtain ⟨F1,_,hP⟩:=hz.inv.read hi
       rcases hP.has with h | ⟨v,h⟩
       ·exact absurd h hgone
       ·rw [hk0] at h;cases h
      ·exact .inl (by rw [wA _ _ h];exact hi)
     ·cases hd
      refine ⟨rfl,fun Sf ηf mf η2 fin v hv=>?_⟩
      have hv:v=.pointer none:=hv
      subst hv
      exact ⟨g3 Sf ηf mf η2 fin _ (Eta.add_same _ _ _),rfl⟩
    ·cases he
   ·cases he
  ·cases he
 ·rename_i id id'
  split at he
  ·rename_i z1 h1
   cases he
   obtain ⟨g1,g2,g3⟩:=kD h1 hz
   refine ⟨η,S,g1,g2,fun rest y2 L2 hd=>?_⟩
   cases hd
   refine ⟨rfl,fun Sf ηf mf η2 fin v hv=>?_⟩
   obtain ⟨b,e1,e2⟩:=hv
   subst e2
   exact ⟨g3 Sf ηf mf η2 fin _ e1,rfl⟩
  ·cases he
 ·rename_i g fs cs g' fs' cs'
  split at he
  ·rename_i hb
   have hb:=nB hb
   subst hb
   split at he
   ·rename_i u1 z1 h1
    split at he
    ·rename_i u2 z2 h2
     cases he
     have hFM:ROK (encL SF.enc) (decL SF.dec) (fun S w η=>All2 (FM S w η)):=SF.ok.list fun k e=>FM.mono k e
     obtain ⟨η1,S1,hz1,st1,d1⟩:=hFM _ _ _ _ _ h1 B S w η hz
     obtain ⟨ηx,Sx,hzx,st2,d2⟩:=hFM _ _ _ _ _ h2 B S1 w η1 hz1
     refine ⟨ηx,Sx,hzx,st1.trans st2,fun rest y2 L2 hd=>?_⟩
     simp only [SV.dec] at hd
     rw [aA] at hd
     split at hd
     ·rename_i y1 L1 hd1
      obtain ⟨e1,f1⟩:=d1 (u2++rest) y1 L1 hd1
      subst e1
      split at hd
      ·rename_i ys1 L3 hd2
       cases hd
       obtain ⟨e2,f2⟩:=d2 rest ys1 _ hd2
       refine ⟨e2,fun Sf ηf mf η2 fin v hv=>?_⟩
       have fin1:Fin z1.n0 w Sx ηx z'.m Sf ηf mf η2:=by rw [st1.n0];exact fin
       have fb:=Fin.back st2 (by rw [st2.n0];exact fin1)
       rw [st1.n0] at fb
       obtain ⟨vf,vc,rfl,hv1,hv2⟩:=hv
       exact ⟨vf,vc,rfl,f1 Sf ηf mf η2 fb _ hv1,f2 Sf ηf mf η2 fin1 _ (hv2.mono fun _ _=>FM.mono st1.grow.keep st1.pre)⟩
      ·cases hd
     ·cases hd
    ·cases he
   ·cases he
  ·cases he
 ·rename_i id id'
  split at he
  ·rename_i z1 h1
   cases he
   obtain ⟨g1,g2,g3⟩:=kD h1 hz
   refine ⟨η,S,g1,g2,fun rest y2 L2 hd=>?_⟩
   cases hd
   refine ⟨rfl,fun Sf ηf mf η2 fin v hv=>?_⟩
   obtain ⟨b,e1,e2⟩:=hv
   exact ⟨b,g3 Sf ηf mf η2 fin _ e1,e2⟩
  ·cases he
 ·skip
  cases he
  refine ⟨η,S,hz,.refl hz,fun rest y2 L2 hd=>?_⟩
  cases hd
  exact ⟨rfl,fun Sf ηf mf η2 fin v hv=>CM.one hv⟩
 ·cases he
end

theorem SR.ok:ROK SR.enc SR.dec (fun S w η=>RM S w η):=by
 intro x y z L z' he B S w η hz
 unfold SR.enc at he
 split at he
 ·rename_i x y
  obtain ⟨η',S',g1,g2,g3⟩:=SV.ok _ _ _ _ _ he B S w η hz
  refine ⟨η',S',g1,g2,fun rest y2 L2 hd=>?_⟩
  simp only [SR.dec] at hd
  split at hd
  ·rename_i y1 L1 h1
   cases hd
   obtain ⟨e1,f1⟩:=g3 _ _ _ h1
   exact ⟨e1,fun Sf ηf mf η2 fin v hv=>f1 Sf ηf mf η2 fin v hv⟩
  ·cases hd
 ·rename_i l l'
  obtain ⟨η',S',g1,g2,g3⟩:=(ROK.list SV.ok fun k e=>CM.mono k e) _ _ _ _ _ he B S w η hz
  refine ⟨η',S',g1,g2,fun rest y2 L2 hd=>?_⟩
  simp only [SR.dec] at hd
  split at hd
  ·rename_i y1 L1 h1
   cases hd
   obtain ⟨e1,f1⟩:=g3 _ _ _ h1
   refine ⟨e1,fun Sf ηf mf η2 fin v hv=>?_⟩
   obtain ⟨vs,h2,h3⟩:=hv
   exact ⟨vs,h2,f1 Sf ηf mf η2 fin vs h3⟩
  ·cases hd
 ·cases he
theorem SP.ok:ROK SP.enc SP.dec (fun S w η=>PM S w η):=by
 intro x y z L z' he B S w η hz
 unfold SP.enc at he
 split at he
 ·rename_i x y
  obtain ⟨η',S',g1,g2,g3⟩:=SR.ok _ _ _ _ _ he B S w η hz
  refine ⟨η',S',g1,g2,fun rest y2 L2 hd=>?_⟩
  simp only [SP.dec] at hd
  split at hd
  ·rename_i y1 L1 h1
   cases hd
   obtain ⟨e1,f1⟩:=g3 _ _ _ h1
   exact ⟨e1,fun Sf ηf mf η2 fin v hv=>f1 Sf ηf mf η2 fin v hv⟩
  ·cases hd
 ·rename_i l l'
  obtain ⟨η',S',g1,g2,g3⟩:=(ROK.list SR.ok fun k e=>RM.mono k e) _ _ _ _ _ he B S w η hz
  refine ⟨η',S',g1,g2,fun rest y2 L2 hd=>?_⟩
  simp only [SP.dec] at hd
  split at hd
  ·rename_i y1 L1 h1
   cases hd
   obtain ⟨e1,f1⟩:=g3 _ _ _ h1
   refine ⟨e1,fun Sf ηf mf η2 fin v hv=>?_⟩
   obtain ⟨vs,h2,h3⟩:=hv
   exact ⟨vs,h2,f1 Sf ηf mf η2 fin vs h3⟩
  ·cases hd
 ·cases he
theorem SP.dec_noG {x:SP} {L L2:List TV} {pv:PV} (h:x.dec L=some (pv,L2)):∀ c b v,pv≠.g c b v:=by
 intro c b v hp
 subst hp
 unfold SP.dec at h
 split at h
 ·split at h<;>cases h
 ·split at h<;>cases h

structure Fi (w:World) (z:EnS) (S:Cells) (η:Eta) (Sf:Cells) (ηf:Eta) (mf:Mp) (η2:Eta) (Hf:PH):Prop where
 fin:Fin z.n0 w S η z.m Sf ηf mf η2
 fz:Fz z.H Hf
theorem Fi.back {B:Nat} {w:World} {z z':EnS} {η η' ηf η2:Eta} {S S' Sf:Cells} {mf:Mp} {Hf:PH} (h:Zst B w z η S z' η' S') (f:Fi w z' S' η' Sf ηf mf η2 Hf):Fi w z S η Sf ηf mf η2 Hf :=
 ⟨f.fin.back h,h.fz.trans f.fz⟩

theorem Fin.at0 {n n':Nat} {w:World} {S Sf:Cells} {η ηf η2:Eta} {m mf:Mp} (f:Fin n w S η m Sf ηf mf η2) (h:n=n'):Fin n' w S η m Sf ηf mf η2:=by rw [← h];exact f
theorem xB {α:Type}:∀ (a b:List (Nat×α)) (i:Nat),lk (a++b) i=match lk a i with | some x=>some x | none=>lk b i
 | [],b,i=>rfl
 | (k,v)::r,b,i=>by
  simp only [List.cons_append,lk]
  cases Nat.beq k i
  ·exact xB r b i
  ·rfl

theorem slot_ok (e:Ev):∀ {l:List (Nat×SP)} {z:EnS} {L:List TV} {z':EnS},slotEnc e l z=some (L,z')→∀ {B:Nat} {S:Cells} {w:World} {η:Eta},Zok B S w η z→∃ η' S',Zok B S' w η' z'∧Zst B w z η S z' η' S' ∧
  ∀ rest y2 L2,zD l (L++rest)=some (y2,L2)→L2=rest∧(∀ x∈y2,∀ c b v,x.2≠PV.g c b v)∧(∀ i,lk y2 i=none→hasK l i=false) ∧
   ∀ i pv2,lk y2 i=some pv2→∃ pv,lk e i=some pv∧∀ Sf ηf mf η2 Hf,Fi w z' S' η' Sf ηf mf η2 Hf→∀ v,PM S w η pv v→PM Sf w η2 pv2 v
 | [],z,L,z',h,B,S,w,η,hz=>by
  cases h
  refine ⟨η,S,hz,.refl hz,fun rest y2 L2 hd=>?_⟩
  cases hd
  refine ⟨rfl,?_,?_,?_⟩
  ·intro x hx;cases hx
  ·intro i _;rfl
  ·intro i pv2 h;cases h
 | (i0,x)::r,z,L,z',h,B,S,w,η,hz=>by
  simp only [slotEnc] at h
  split at h
  ·rename_i pv hpv
   split at h
   ·rename_i u1 z1 h1
    split at h
    ·rename_i u2 z2 h2
     cases h
     obtain ⟨η1,S1,hz1,st1,d1⟩:=SP.ok _ _ _ _ _ h1 B S w η hz
     obtain ⟨η',S',hz2,st2,d2⟩:=slot_ok e h2 hz1
     refine ⟨η',S',hz2,st1.trans st2,fun rest y2 L2 hd=>?_⟩
     simp only [zD] at hd
     rw [aA] at hd
     split at hd
     ·rename_i y1 L1 hd1
      obtain ⟨e1,f1⟩:=d1 _ _ _ hd1
      subst e1
      split at hd
      ·rename_i ys L3 hd2
       cases hd
       obtain ⟨e2,f2,f3,f4⟩:=d2 _ _ _ hd2
       refine ⟨e2,?_,?_,?_⟩
       ·intro y hy
        rcases List.mem_cons.1 hy with rfl | hy
        ·exact SP.dec_noG hd1
        ·exact f2 y hy
       ·intro i hi
        unfold lk at hi
        unfold hasK
        cases hb:Nat.beq i0 i<;>rw [hb] at hi
        ·exact f3 i hi
        ·cases hi
       ·intro i pv2 hi
        unfold lk at hi
        cases hb:Nat.beq i0 i<;>rw [hb] at hi
        ·obtain ⟨pv',g1,g2⟩:=f4 i pv2 hi
         exact ⟨pv',g1,fun Sf ηf mf η2 Hf fi v hv=>g2 Sf ηf mf η2 Hf fi v (hv.mono st1.grow.keep st1.pre)⟩
        ·cases hi
         have:=nB hb
         subst this
         exact ⟨pv,hpv,fun Sf ηf mf η2 Hf fi v hv=>f1 Sf ηf mf η2 ((fi.back st2).fin.at0 st1.n0) v hv⟩
      ·cases hd
     ·cases hd
    ·cases h
   ·cases h
  ·cases h

def OldLp (old:Option PO) (w:World) (Sf:Cells) (η2:Eta) (i:Nat):Prop:=∀ D s,old=some (.lp D s)→∃ b r,η2 i=some (.func (.yield b) #[] #[])∧w.heap[b]? = some (.loop r)∧r.tmps.size=D.n∧EnvM Sf w η2 D.env r.tmps∧r.params=D.ps∧r.assign=D.assign∧r.body=D.body
def ORT (old:Option PO) (w:World) (Sf:Cells) (ηf η2:Eta) (Hf:PH) (x:SO) (j i:Nat) (po2:PO):Prop:=∀ F,kindIs x (lk Hf j)=true→(∀ po,lk Hf j=some po→POH ηf j F Sf w po)→(∀ v,ηf j=some v→η2 i=some v)→OldLp old w Sf η2 i →
 POH η2 i (if mH x=true then fun _ _=>False else F) Sf w po2
def isUs:SO→Bool
 | .us=>true
 | _=>false

theorem eqLS_ok {a b:LS} (h:eqLS a b=true):a=b:=by
 unfold eqLS at h
 split at h<;>first | rfl | (rw [nB h]) | cases h
theorem SO_ok {x:SO} {j:Nat} {z:EnS} {L:List TV} {z':EnS} (h:SO.enc x (lk z.H j) z=some (L,z')) {B:Nat} {S:Cells} {w:World} {η:Eta} (hz:Zok B S w η z):∃ η' S',Zok B S' w η' z'∧Zst B w z η S z' η' S' ∧
  ∀ old rest o2 L2,x.dec old (L++rest)=some (o2,L2)→L2=rest∧(isUs x=true→o2=none)∧(isUs x=false→o2≠none)∧∀ po2,o2=some po2→∀ Sf ηf mf η2 Hf i,Fi w z' S' η' Sf ηf mf η2 Hf→ORT old w Sf ηf η2 Hf x j i po2:=by
 unfold SO.enc at h
 split at h
 ·rename_i l l' hl
  obtain ⟨η',S',hz1,st1,d1⟩:=(ROK.list SV.ok fun k e=>CM.mono k e) _ _ _ _ _ h B S w η hz
  refine ⟨η',S',hz1,st1,fun old rest o2 L2 hd=>?_⟩
  simp only [SO.dec] at hd
  split at hd
  ·rename_i ys L1 hd1
   cases hd
   obtain ⟨e1,f1⟩:=d1 _ _ _ hd1
   refine ⟨e1,(fun h=>by cases h),(fun _ h=>by cases h),fun po2 hpo Sf ηf mf η2 Hf i fi F hk hP hlnk hold=>?_⟩
   cases hpo
   have hlf:lk Hf j=some (.box l'):=by
    rcases (fi.back st1).fz j _ (by simp) hl with h | ⟨_,_,h,_⟩ | ⟨_,_,_,h,_⟩
    ·exact h
    ·cases h
    ·cases h
   obtain ⟨b,e1,hF,ht,vs',_,_⟩:=hP _ hlf
   obtain ⟨F1,_,b',e1',_,_,vs,hvs,hc⟩:=hz.inv.read hl
   have hbb:b'=b:=by
    have:=(fi.back st1).fin.pre.get e1'
    rw [e1] at this
    cases this;rfl
   subst hbb
   have hys:=f1 Sf ηf mf η2 (fi.fin.at0 st1.n0) vs hvs
   have hll:ys.length=l'.length:=by rw [hys.length,hvs.length]
   refine ⟨b',hlnk _ e1,fun b o=>?_,fun o ho=>ht o (by rw [← hll];exact ho),vs,hys,hc⟩
   rw [hll];exact hF b o
  ·cases hd
 ·rename_i t t' xs hl
  split at h
  ·rename_i xs1 hc
   cases h
   obtain ⟨he,hx⟩:=kA hc
   cases he
   refine ⟨η,S,hz,.refl hz,fun old rest o2 L2 hd=>?_⟩
   simp only [SO.dec,PE.decT,List.cons_append,List.nil_append] at hd
   split at hd
   ·rename_i x2 L3 h3
    cases hd
    split at h3
    ·rename_i x3 h4
     cases h3
     have:=zB (d:=.d (.list t)) h4
     subst this
     refine ⟨rfl,(fun h=>by cases h),(fun _ h=>by cases h),fun po2 hpo Sf ηf mf η2 Hf i fi F hk hP hlnk hold=>?_⟩
     cases hpo
     have hlf:lk Hf j=some (.arr t xs):=by
      rcases fi.fz j _ (by simp) hl with h | ⟨_,_,h,h2⟩ | ⟨_,_,_,h,_⟩
      ·exact h
      ·rw [h2] at hk;cases hk
      ·cases h
     obtain ⟨u,e1,ha⟩:=hP _ hlf
     have hx:xs=xs1:=hx
     subst hx
     exact ⟨u,hlnk _ e1,ha⟩
    ·cases h3
   ·cases hd
  ·cases h
 ·rename_i t t' xs hl
  split at h
  ·rename_i xs1 hc
   cases h
   obtain ⟨he,hx⟩:=kA hc
   cases he
   refine ⟨η,S,hz,.refl hz,fun old rest o2 L2 hd=>?_⟩
   simp only [SO.dec,PE.decT,List.cons_append,List.nil_append] at hd
   split at hd
   ·rename_i x2 L3 h3
    cases hd
    split at h3
    ·rename_i x3 h4
     cases h3
     have:=zB (d:=.d (.list t)) h4
     subst this
     refine ⟨rfl,(fun h=>by cases h),(fun _ h=>by cases h),fun po2 hpo Sf ηf mf η2 Hf i fi F hk hP hlnk hold=>?_⟩
     cases hpo
     have hlf:lk Hf j=some (.frz t xs):=by
      rcases fi.fz j _ (by simp) hl with h | ⟨_,_,h,h2⟩ | ⟨_,_,_,h,_⟩
      ·exact h
      ·cases h
      ·cases h
     obtain ⟨u,e1,ha,hv⟩:=hP _ hlf
     have hx:xs=xs1:=hx
     subst hx
     exact ⟨u,hlnk _ e1,ha,hv⟩
    ·cases h3
   ·cases hd
  ·cases h
 ·rename_i t vid t' xss vid' hl
  split at h
  ·rename_i xs1 hc
   split at h
   ·rename_i z1 h1
    cases h
    obtain ⟨he,hx⟩:=kA hc
    cases he
    obtain ⟨g1,g2,g3⟩:=kD h1 hz
    refine ⟨η,S,g1,g2,fun old rest o2 L2 hd=>?_⟩
    simp only [SO.dec,PE.decT,List.cons_append,List.nil_append] at hd
    split at hd
    ·rename_i x2 L3 h3
     cases hd
     split at h3
     ·rename_i x3 h4
      cases h3
      have:=zB (d:=.d (.list (.list t))) h4
      subst this
      refine ⟨rfl,(fun h=>by cases h),(fun _ h=>by cases h),fun po2 hpo Sf ηf mf η2 Hf i fi F hk hP hlnk hold=>?_⟩
      cases hpo
      have hlf:lk Hf j=some (.tab t xss vid'):=by
       rcases (fi.back g2).fz j _ (by simp) hl with h | ⟨_,_,h,h2⟩ | ⟨_,_,_,h,h2⟩
       ·exact h
       ·cases h
       ·rw [h2] at hk;cases hk
      obtain ⟨u,us,e1,e2,hsz,ha⟩:=hP _ hlf
      have hx:xss=xs1:=hx
      subst hx
      obtain ⟨F1,_,u',us',e1',e2',_⟩:=hz.inv.read hl
      have huu:us'=us:=by
       have:=(fi.back g2).fin.pre.get e2'
       rw [e2] at this
       cases this;rfl
      subst huu
      exact ⟨u,us',hlnk _ e1,g3 _ _ _ _ (fi.fin.at0 g2.n0) _ e2',hsz,ha⟩
     ·cases h3
    ·cases hd
   ·cases h
  ·cases h
 ·rename_i s D1 s1 hl
  split at h
  ·rename_i heq
   cases h
   have heq:=eqLS_ok heq
   subst heq
   refine ⟨η,S,hz,.refl hz,fun old rest o2 L2 hd=>?_⟩
   simp only [SO.dec] at hd
   split at hd
   ·rename_i D s0
    cases hd
    refine ⟨rfl,(fun h=>by cases h),(fun _ h=>by cases h),fun po2 hpo Sf ηf mf η2 Hf i fi F hk hP hlnk hold=>?_⟩
    cases hpo
    have hlf:lk Hf j=some (.lp D1 s):=by
     rcases fi.fz j _ (by simp) hl with h | ⟨_,_,h,_⟩ | ⟨_,_,_,h,_⟩
     ·exact h
     ·cases h
     ·cases h
    obtain ⟨b,r,e1,e2,e3,_,_,_,_,_,e4,e5,e6⟩:=hP _ hlf
    obtain ⟨b',r',d1,d2,d3,d4,d5,d6,d7⟩:=hold D s0 rfl
    have:=hlnk _ e1
    rw [d1] at this
    cases this
    rw [e3] at d2
    cases d2
    exact ⟨_,r,d1,e2,e3,d3,d4,d5,d6,d7,e4,e5,e6⟩
   ·cases hd
  ·cases h
 ·rename_i n t n' t' xs hl
  split at h
  rotate_left
  ·cases h
  rename_i hbn
  have hbn:=nB hbn
  subst hbn
  split at h
  ·rename_i xs1 hc
   cases h
   obtain ⟨he,hx⟩:=kA hc
   cases he
   refine ⟨η,S,hz,.refl hz,fun old rest o2 L2 hd=>?_⟩
   simp only [SO.dec,PE.decT,List.cons_append,List.nil_append] at hd
   split at hd
   ·rename_i x2 L3 h3
    cases hd
    split at h3
    ·rename_i x3 h4
     cases h3
     have:=zB (d:=.d (.list t)) h4
     subst this
     refine ⟨rfl,(fun h=>by cases h),(fun _ h=>by cases h),fun po2 hpo Sf ηf mf η2 Hf i fi F hk hP hlnk hold=>?_⟩
     cases hpo
     have hlf:lk Hf j=some (.flat n t xs):=by
      rcases fi.fz j _ (by simp) hl with h | ⟨_,_,h,h2⟩ | ⟨_,_,_,h,_⟩
      ·exact h
      ·cases h
      ·cases h
     obtain ⟨u,e1,ha⟩:=hP _ hlf
     have hx:xs=xs1:=hx
     subst hx
     exact ⟨u,hlnk _ e1,ha⟩
    ·cases h3
   ·cases hd
  ·cases h
 ·rename_i n l n' l' hl
  split at h
  ·rename_i hnn
   have hnn:=nB hnn
   subst hnn
   obtain ⟨η',S',hz1,st1,d1⟩:=(ROK.list SV.ok fun k e=>CM.mono k e) _ _ _ _ _ h B S w η hz
   refine ⟨η',S',hz1,st1,fun old rest o2 L2 hd=>?_⟩
   simp only [SO.dec] at hd
   split at hd
   ·rename_i ys L1 hd1
    cases hd
    obtain ⟨e1,f1⟩:=d1 _ _ _ hd1
    refine ⟨e1,(fun h=>by cases h),(fun _ h=>by cases h),fun po2 hpo Sf ηf mf η2 Hf i fi F hk hP hlnk hold=>?_⟩
    cases hpo
    have hlf:lk Hf j=some (.cel n l'):=by
     rcases (fi.back st1).fz j _ (by simp) hl with h | ⟨_,_,h,_⟩ | ⟨_,_,_,h,_⟩
     ·exact h
     ·cases h
     ·cases h
    obtain ⟨b,e1,hF,ht,vs',_,_⟩:=hP _ hlf
    obtain ⟨F1,_,b',e1',_,_,vs,hvs,hc⟩:=hz.inv.read hl
    have hbb:b'=b:=by
     have:=(fi.back st1).fin.pre.get e1'
     rw [e1] at this
     cases this;rfl
    subst hbb
    have hys:=f1 Sf ηf mf η2 (fi.fin.at0 st1.n0) vs hvs
    have hll:ys.length=l'.length:=by rw [hys.length,hvs.length]
    refine ⟨b',hlnk _ e1,fun b o=>?_,fun o ho=>ht o (by rw [← hll];exact ho),vs,hys,hc⟩
    rw [hll];exact hF b o
   ·cases hd
  ·cases h
 ·rename_i T e T' e' s hl
  split at h
  ·rename_i hb1 hb2
   have hb1:=nB hb1
   have hb2:=nB hb2
   subst hb1 hb2
   cases h
   refine ⟨η,S,hz,.refl hz,fun old rest o2 L2 hd=>?_⟩
   simp only [SO.dec,PE.decT,List.cons_append,List.nil_append] at hd
   split at hd
   ·rename_i x2 L3 h3
    cases hd
    split at h3
    ·rename_i x3 h4
     cases h3
     have:=zB (d:=.d .str) h4
     subst this
     refine ⟨rfl,(fun h=>by cases h),(fun _ h=>by cases h),fun po2 hpo Sf ηf mf η2 Hf i fi F hk hP hlnk hold=>?_⟩
     cases hpo
     have hlf:lk Hf j=some (.bld T e s):=by
      rcases fi.fz j _ (by simp) hl with h | ⟨_,_,h,h2⟩ | ⟨_,_,_,h,_⟩
      ·exact h
      ·cases h
      ·cases h
     obtain ⟨b,e1,ha⟩:=hP _ hlf
     exact ⟨b,hlnk _ e1,ha⟩
    ·cases h3
   ·cases hd
  ·cases h
 ·rename_i l b l' hl
  split at h
  ·rename_i u z1 h1
   cases h
   obtain ⟨η',S',hz1,st1,d1⟩:=(ROK.list SV.ok fun k e=>CM.mono k e) _ _ _ _ _ h1 B S w η hz
   refine ⟨η',S',hz1,st1,fun old rest o2 L2 hd=>?_⟩
   simp only [SO.dec,PE.decT,List.cons_append] at hd
   split at hd
   ·rename_i b2 L0 hb
    split at hb
    ·rename_i x3 h4
     cases hb
     have:=zB (d:=.d .bool) h4
     subst this
     split at hd
     ·rename_i ys L1 hd1
      cases hd
      obtain ⟨e1,f1⟩:=d1 _ _ _ hd1
      have el:ys.length=l'.length:=(cI hd1).trans (encL_len h1)
      refine ⟨e1,(fun h=>by cases h),(fun _ h=>by cases h),fun po2 hpo Sf ηf mf η2 Hf i fi F hk hP hlnk hold=>?_⟩
      cases hpo
      have hlf:lk Hf j=some (.opt b l'):=by
       rcases (fi.back st1).fz j _ (by simp) hl with h | ⟨_,_,h,_⟩ | ⟨_,_,_,h,_⟩
       ·exact h
       ·cases h
       ·cases h
      cases b with
      | true =>
       obtain ⟨e1,hF⟩:=hP _ hlf
       exact ⟨hlnk _ e1,hF⟩
      | false =>
       obtain ⟨b,e1,hF,ht,vs',_,_⟩:=hP _ hlf
       obtain ⟨F1,_,b',e1',_,_,vs,hvs,hc⟩:=hz.inv.read hl
       have hbb:b'=b:=by
        have:=(fi.back st1).fin.pre.get e1'
        rw [e1] at this
        cases this;rfl
       subst hbb
       have hys:=f1 Sf ηf mf η2 (fi.fin.at0 st1.n0) vs hvs
       refine ⟨b',hlnk _ e1,fun b o=>?_,fun o ho=>ht o (by rw [← el];exact ho),vs,hys,hc⟩
       show _↔b=b'∧o<ys.length
       rw [el];exact hF b o
     ·cases hd
    ·cases hb
   ·cases hd
  ·cases h
 ·rename_i l l' hl
  split at h
  ·rename_i u z1 h1
   cases h
   obtain ⟨η',S',hz1,st1,d1⟩:=(ROK.list SV.ok fun k e=>CM.mono k e) _ _ _ _ _ h1 B S w η hz
   refine ⟨η',S',hz1,st1,fun old rest o2 L2 hd=>?_⟩
   simp only [SO.dec,PE.decT,List.cons_append] at hd
   split at hd
   ·rename_i b2 L0 hb
    split at hb
    ·rename_i x3 h4
     cases hb
     have:=zB (d:=.d .bool) h4
     subst this
     split at hd
     ·rename_i ys L1 hd1
      cases hd
      obtain ⟨e1,f1⟩:=d1 _ _ _ hd1
      refine ⟨e1,(fun h=>by cases h),(fun _ h=>by cases h),fun po2 hpo Sf ηf mf η2 Hf i fi F hk hP hlnk hold=>?_⟩
      cases hpo
      have hlf:lk Hf j=some (.box l'):=by
       rcases (fi.back st1).fz j _ (by simp) hl with h | ⟨_,_,h,_⟩ | ⟨_,_,_,h,_⟩
       ·exact h
       ·cases h
       ·cases h
      obtain ⟨b,e1,hF,ht,vs',_,_⟩:=hP _ hlf
      obtain ⟨F1,_,b',e1',_,_,vs,hvs,hc⟩:=hz.inv.read hl
      have hbb:b'=b:=by
       have:=(fi.back st1).fin.pre.get e1'
       rw [e1] at this
       cases this;rfl
      subst hbb
      have hys:=f1 Sf ηf mf η2 (fi.fin.at0 st1.n0) vs hvs
      have hll:ys.length=l'.length:=by rw [hys.length,hvs.length]
      refine ⟨b',hlnk _ e1,fun b o=>?_,fun o ho=>ht o (by rw [← hll];exact ho),vs,hys,hc⟩
      show _↔b=b'∧o<ys.length
      rw [hll];exact hF b o
     ·cases hd
    ·cases hb
   ·cases hd
  ·cases h
 ·skip
  cases h
  refine ⟨η,S,hz,.refl hz,fun old rest o2 L2 hd=>?_⟩
  cases hd
  exact ⟨rfl,fun _=>rfl,(fun h=>by cases h),fun po2 hpo=>by cases hpo⟩
 ·skip
  cases h
  refine ⟨η,S,hz,.refl hz,fun old rest o2 L2 hd=>?_⟩
  cases hd
  refine ⟨rfl,(fun h=>by cases h),(fun _ h=>by cases h),fun po2 hpo Sf ηf mf η2 Hf i fi F hk hP hlnk hold=>?_⟩
  cases hpo
  exact fun b o h=>h
 ·cases h

theorem fzO_ok {B:Nat} {S:Cells} {w:World} {η:Eta} {z:EnS} (x:SO) (i:Nat) (hz:Zok B S w η z):∃ S',Zok B S' w η (fzO x i z)∧Zst B w z η S (fzO x i z) η S':=by
 unfold fzO
 split
 ·obtain ⟨S1,hi1,hg1⟩:=fzC_sound hz.inv (.h i)
  obtain ⟨q1,q2⟩:=fzC_fz z.H (.h i)
  exact ⟨S1,⟨hi1,hz.len,hz.mp⟩,⟨.refl _,hg1,fun _ _ h=>h,q1,q2,rfl,rfl⟩⟩
 ·exact ⟨S,hz,.refl hz⟩
theorem obj_ok:∀ {l:List (Nat×SO)} {z:EnS} {L:List TV} {z':EnS},objEnc l z=some (L,z')→∀ {B:Nat} {S:Cells} {w:World} {η:Eta},Zok B S w η z→∃ η' S',Zok B S' w η' z'∧Zst B w z η S z' η' S' ∧
  ∀ H0 rest y2 L2,wJ H0 l (L++rest)=some (y2,L2)→L2=rest∧(∀ i,lk l i=none→lk y2 i=none∧hasK l i=false) ∧
   ∀ i x,lk l i=some x→∃ po2,lk y2 i=some po2∧∀ Sf ηf mf η2 Hf,Fi w z' S' η' Sf ηf mf η2 Hf→ORT (lk H0 i) w Sf ηf η2 Hf x i i po2
 | [],z,L,z',h,B,S,w,η,hz=>by
  cases h
  refine ⟨η,S,hz,.refl hz,fun H0 rest y2 L2 hd=>?_⟩
  cases hd
  exact ⟨rfl,fun i _=>⟨rfl,rfl⟩,fun i x h=>by cases h⟩
 | (i0,x0)::r,z,L,z',h,B,S,w,η,hz=>by
  simp only [objEnc] at h
  split at h
  ·rename_i u1 z1 h1
   split at h
   ·rename_i u2 z2 h2
    cases h
    obtain ⟨S0,hz0,st0⟩:=fzO_ok x0 i0 hz
    obtain ⟨η1,S1,hz1,st1,d1⟩:=SO_ok h1 hz0
    obtain ⟨η',S',hz2,st2,d2⟩:=obj_ok h2 hz1
    refine ⟨η',S',hz2,(st0.trans st1).trans st2,fun H0 rest y2 L2 hd=>?_⟩
    simp only [wJ] at hd
    rw [aA] at hd
    split at hd
    ·rename_i y1 L1 hd1
     obtain ⟨e1,_,_,f1⟩:=d1 _ _ _ _ hd1
     subst e1
     split at hd
     ·rename_i ys L3 hd2
      cases hd
      obtain ⟨e2,f2,f3⟩:=d2 _ _ _ _ hd2
      refine ⟨e2,fun i hi=>?_,fun i x hi=>?_⟩
      ·unfold lk at hi ⊢
       unfold hasK
       cases hb:Nat.beq i0 i<;>rw [hb] at hi
       ·exact f2 i hi
       ·cases hi
      ·obtain ⟨od,hod⟩:∃ od,od=lk H0 i:=⟨_,rfl⟩
       rw [← hod]
       unfold lk at hi ⊢
       cases hb:Nat.beq i0 i<;>rw [hb] at hi
       ·have:=f3 i x hi
        rw [← hod] at this
        exact this
       ·cases hi
        have:=nB hb
        subst this
        rw [hod]
        exact ⟨_,rfl,fun Sf ηf mf η2 Hf fi=>f1 _ rfl Sf ηf mf η2 Hf _ (fi.back st2)⟩
     ·cases hd
    ·cases hd
   ·cases h
  ·cases h

theorem new_ok:∀ {l:List SO} {n:Nat} {z:EnS} {L:List TV} {z':EnS},newEnc l n z=some (L,z')→∀ {B:Nat} {S:Cells} {w:World} {η:Eta},Zok B S w η z→∃ η' S',Zok B S' w η' z'∧Zst B w z η S z' η' S' ∧
  ∀ rest y2 L2,wI l n (L++rest)=some (y2,L2)→L2=rest∧(∀ i po,lk y2 i=some po→n≤i∧∃ x j,l[i-n]? = some x∧isUs x=false∧lk z'.m i=some j∧∀ Sf ηf mf η2 Hf,Fi w z' S' η' Sf ηf mf η2 Hf→ORT none w Sf ηf η2 Hf x j i po)∧∀ q x,l[q]? = some x→isUs x=false→lk y2 (n+q)≠none
 | [],n,z,L,z',h,B,S,w,η,hz=>by
  cases h
  refine ⟨η,S,hz,.refl hz,fun rest y2 L2 hd=>?_⟩
  cases hd
  refine ⟨rfl,?_,?_⟩
  ·intro i po h;cases h
  ·intro q x h;simp at h
 | x0::r,n,z,L,z',h,B,S,w,η,hz=>by
  simp only [newEnc] at h
  split at h
  ·rename_i j hj
   split at h
   ·rename_i u1 z1 h1
    split at h
    ·rename_i u2 z2 h2
     cases h
     obtain ⟨S0,hz0,st0⟩:=fzO_ok x0 j hz
     obtain ⟨η1,S1,hz1,st1,d1⟩:=SO_ok h1 hz0
     obtain ⟨η',S',hz2,st2,d2⟩:=new_ok h2 hz1
     refine ⟨η',S',hz2,(st0.trans st1).trans st2,fun rest y2 L2 hd=>?_⟩
     simp only [wI] at hd
     rw [aA] at hd
     split at hd
     ·rename_i o1 L1 hd1
      obtain ⟨e1,g1,g2,f1⟩:=d1 _ _ _ _ hd1
      subst e1
      split at hd
      ·rename_i ys L3 hd2
       obtain ⟨e2,f2,f2'⟩:=d2 _ _ _ hd2
       have hconv:∀ q x,(x0::r)[q+1]? = some x→isUs x=false→lk ys (n+(q+1))≠none:=fun q x hq hu=>by
        have:=f2' q x (by simpa using hq) hu
        rw [show n+(q+1)=n+1+q by omega];exact this
       have hrest:∀ i po,lk ys i=some po→n≤i∧∃ x j,(x0::r)[i-n]? = some x∧isUs x=false∧lk z'.m i=some j∧∀ Sf ηf mf η2 Hf,Fi w z' S' η' Sf ηf mf η2 Hf→ORT none w Sf ηf η2 Hf x j i po:=by
        intro i po hi
        obtain ⟨a1,x,j',a2,a3⟩:=f2 i po hi
        refine ⟨by omega,x,j',?_,a3⟩
        have:i-n=i-(n+1)+1:=by omega
        rw [this];simpa using a2
       split at hd
       ·rename_i y hy
        cases hd
        refine ⟨e2,fun i po hi=>?_,fun q x hq hu=>?_⟩
        rotate_left
        ·cases q with
         | zero=>show lk _ n≠none;rw [jA];simp
         | succ q=>rw [wA _ _ (by omega)];exact hconv q x hq hu
        by_cases hni:n=i
        ·subst hni
         rw [jA] at hi
         cases hi
         refine ⟨nR _,x0,j,by simp,?_,st2.ext _ _ ((st0.trans st1).ext _ _ hj),fun Sf ηf mf η2 Hf fi=>f1 _ rfl Sf ηf mf η2 Hf _ (fi.back st2)⟩
         cases hu:isUs x0
         ·rfl
         ·have:=g1 hu;cases this
        ·rw [wA _ _ hni] at hi
         exact hrest i po hi
       ·cases hd
        refine ⟨e2,hrest,fun q x hq hu=>?_⟩
        cases q with
        | zero =>
         simp at hq
         subst hq
         exact absurd rfl (g2 hu)
        | succ q=>exact hconv q x hq hu
      ·cases hd
     ·cases hd
    ·cases h
   ·cases h
  ·cases h

theorem FM.swap {S0 S Sf:Cells} {w0 w:World} {η0 η η2:Eta} (h2:Pre η0 η2) (h1:Pre η0 η) (hS:Keep S w Sf w):∀ {x:FV} {v0 v:Value},FM S0 w0 η0 x v0→FM S w η x v→FM Sf w η2 x v
 | .p _ _,_,_,h0,h=>by
  obtain ⟨b0,e0,_⟩:=h0
  obtain ⟨b,e,he⟩:=h
  rw [h1.get e0] at e
  cases e
  exact ⟨_,h2.get e0,he⟩
 | .d _ _,_,_,_,h=>VRep.keep hS h
 | .y _,_,_,h0,h=>by
  obtain ⟨b0,e0,_⟩:=h0
  obtain ⟨b,e,he⟩:=h
  rw [h1.get e0] at e
  cases e
  exact ⟨_,h2.get e0,he⟩
 | .h _,_,_,h0,h=>by
  have e:=h.1
  rw [h1.get h0.1] at e
  cases e
  exact ⟨h2.get h0.1,h.2⟩
theorem All2.swap {X:Type} {R0 R R':X→Value→Prop} (f:∀ x v0 v,R0 x v0→R x v→R' x v):∀ {l:List X} {vs0 vs:List Value},All2 R0 l vs0→All2 R l vs→All2 R' l vs
 | _,_,_,.nil,.nil=>.nil
 | _,_,_,.cons a b,.cons c d=>.cons (f _ _ _ a c) (All2.swap f b d)
theorem CM.swap {S0 S Sf:Cells} {w0 w:World} {η0 η η2:Eta} (h2:Pre η0 η2) (h1:Pre η0 η) (hS:Keep S w Sf w):∀ {x:CV} {v0 v:Value},CM S0 w0 η0 x v0→CM S w η x v→CM Sf w η2 x v
 | .d _ _,_,_,_,h=>⟨h.1,h.2.keep hS⟩
 | .l _,_,_,_,h=>h
 | .p _ _,_,_,h0,h=>by
  obtain ⟨b0,e0,_⟩:=h0
  obtain ⟨b,e,he⟩:=h
  rw [h1.get e0] at e
  cases e
  exact ⟨_,h2.get e0,he⟩
 | .h _,_,_,h0,h=>by
  have e:=h.1
  rw [h1.get h0.1] at e
  cases e
  exact ⟨h2.get h0.1,h.2⟩
 | .f _ _ _,_,_,h0,h=>by
  obtain ⟨vf0,vc0,_,a0,b0⟩:=h0
  obtain ⟨vf,vc,e,a,b⟩:=h
  exact ⟨vf,vc,e,All2.swap (R':=FM Sf w η2) (fun _ _ _ u0 u=>FM.swap h2 h1 hS u0 u) a0 a,All2.swap (R':=FM Sf w η2) (fun _ _ _ u0 u=>FM.swap h2 h1 hS u0 u) b0 b⟩
 | .y _,_,_,h0,h=>by
  obtain ⟨b0,e0,_⟩:=h0
  obtain ⟨b,e,he⟩:=h
  rw [h1.get e0] at e
  cases e
  exact ⟨_,h2.get e0,he⟩
 | .n _ none,_,_,_,h=>h
 | .n _ (some _),_,_,_,h=>⟨h.1.keep hS,h.2⟩
 | .q _ _,_,_,_,h=>⟨h.1.keep hS,h.2⟩
 | .rw _ _ _,_,_,h0,h=>by
  obtain ⟨us0,e0,_⟩:=h0
  obtain ⟨us,e,he⟩:=h
  rw [h1.get e0] at e
  cases e
  exact ⟨_,h2.get e0,he⟩
 | .nt _ _ _,_,_,_,h=>h
 | .sl _ _,_,_,_,h=>h
 | .fu _ _,_,_,_,h=>⟨h.1.keep hS,h.2⟩
 | .i _,_,_,_,h=>h
 | .any,_,_,_,h=>h
theorem RM.swap {S0 S Sf:Cells} {w0 w:World} {η0 η η2:Eta} (h2:Pre η0 η2) (h1:Pre η0 η) (hS:Keep S w Sf w):∀ {x:RV} {v0 v:Value},RM S0 w0 η0 x v0→RM S w η x v→RM Sf w η2 x v
 | .c _,_,_,h0,h=>CM.swap h2 h1 hS h0 h
 | .s _,_,_,h0,h=>by
  obtain ⟨vs0,_,a0⟩:=h0
  obtain ⟨vs,e,a⟩:=h
  exact ⟨vs,e,All2.swap (R':=CM Sf w η2) (fun _ _ _ u0 u=>CM.swap h2 h1 hS u0 u) a0 a⟩
theorem PM.swap {S0 S Sf:Cells} {w0 w:World} {η0 η η2:Eta} (h2:Pre η0 η2) (h1:Pre η0 η) (hS:Keep S w Sf w):∀ {x:PV} {v0 v:Value},PM S0 w0 η0 x v0→PM S w η x v→PM Sf w η2 x v
 | .r _,_,_,h0,h=>RM.swap h2 h1 hS h0 h
 | .t _,_,_,h0,h=>by
  obtain ⟨vs0,_,a0⟩:=h0
  obtain ⟨vs,e,a⟩:=h
  exact ⟨vs,e,All2.swap (R':=RM Sf w η2) (fun _ _ _ u0 u=>RM.swap h2 h1 hS u0 u) a0 a⟩
 | .fp _ _,_,_,_,h=>PRep.keep hS h
 | .ep _ _ _ _,_,_,h0,h=>by
  obtain ⟨_,_,_,_,e0,_⟩:=h0
  obtain ⟨b,o,n,cap,e,he⟩:=h
  rw [h1.get e0] at e
  cases e
  exact ⟨_,_,_,_,h2.get e0,he⟩
 | .er _ _ _ _ _ _,_,_,h0,h=>by
  obtain ⟨_,_,_,_,_,e0,_⟩:=h0
  obtain ⟨us,b,o,n,cap,e,he⟩:=h
  rw [h1.get e0] at e
  cases e
  exact ⟨_,_,_,_,_,h2.get e0,he⟩
 | .xp _ _,_,_,h0,h=>by
  obtain ⟨_,e0,_⟩:=h0
  obtain ⟨b,e,he⟩:=h
  rw [h1.get e0] at e
  cases e
  exact ⟨_,h2.get e0,he⟩
 | .eo _ _ _ _,_,_,h0,h=>by
  obtain ⟨_,_,_,_,e0,_⟩:=h0
  obtain ⟨b,o,n,cap,e,he⟩:=h
  rw [h1.get e0] at e
  cases e
  exact ⟨_,_,_,_,h2.get e0,he⟩
 | .vw _ _ _ _,_,_,h0,h=>by
  obtain ⟨_,e0,_⟩:=h0
  obtain ⟨b,e,he⟩:=h
  rw [h1.get e0] at e
  cases e
  exact ⟨_,h2.get e0,he⟩
 | .va _ _ _,_,_,h0,h=>by
  obtain ⟨_,_,_,_,e0,_⟩:=h0
  obtain ⟨b,o,n,cap,e,he⟩:=h
  rw [h1.get e0] at e
  cases e
  exact ⟨_,_,_,_,h2.get e0,he⟩
 | .vh _ _,_,_,h0,h=>by
  obtain ⟨_,_,_,e0,_⟩:=h0
  obtain ⟨b,n,cap,e,he⟩:=h
  rw [h1.get e0] at e
  cases e
  exact ⟨_,_,_,h2.get e0,he⟩
 | .vp _ _ _ _,_,_,h0,h=>by
  obtain ⟨_,_,_,_,e0,_⟩:=h0
  obtain ⟨b,o,n,cap,e,he⟩:=h
  rw [h1.get e0] at e
  cases e
  exact ⟨_,_,_,_,h2.get e0,he⟩
 | .g _ b _,_,_,h0,h=>⟨fun hb=>PM.swap h2 h1 hS (h0.1 hb) (h.1 hb),h.2⟩
 | .any,_,_,_,_=>trivial
theorem POH.swap {S0 S:Cells} {w0 w:World} {η0 η η2:Eta} (h2:Pre η0 η2) (h1:Pre η0 η) {id:Nat} {F0 F:Cells} (hk:Keep S w S w):∀ {po:PO},POH η0 id F0 S0 w0 po→POH η id F S w po→POH η2 id F S w po
 | .box l,h0,h=>by
  obtain ⟨_,e0,_,_,vs0,a0,_⟩:=h0
  obtain ⟨b,e,h3,h4,vs,a,h5⟩:=h
  rw [h1.get e0] at e
  cases e
  exact ⟨_,h2.get e0,h3,h4,vs,All2.swap (R':=CM S w η2) (fun _ _ _ u0 u=>CM.swap h2 h1 hk u0 u) a0 a,h5⟩
 | .arr _ _,h0,h=>by
  obtain ⟨_,e0,_⟩:=h0
  obtain ⟨b,e,h3⟩:=h
  rw [h1.get e0] at e
  cases e
  exact ⟨_,h2.get e0,h3⟩
 | .frz _ _,h0,h=>by
  obtain ⟨_,e0,_⟩:=h0
  obtain ⟨b,e,h3⟩:=h
  rw [h1.get e0] at e
  cases e
  exact ⟨_,h2.get e0,h3⟩
 | .tab _ _ _,h0,h=>by
  obtain ⟨_,_,e0,e0',_⟩:=h0
  obtain ⟨u,us,e,e',h3⟩:=h
  rw [h1.get e0] at e
  cases e
  rw [h1.get e0'] at e'
  cases e'
  exact ⟨_,_,h2.get e0,h2.get e0',h3⟩
 | .tabp _ _ _ _,h0,h=>by
  obtain ⟨_,_,e0,e0',_⟩:=h0
  obtain ⟨u,us,e,e',h3⟩:=h
  rw [h1.get e0] at e
  cases e
  rw [h1.get e0'] at e'
  cases e'
  exact ⟨_,_,h2.get e0,h2.get e0',h3⟩
 | .tabs _ _ _ _ _ _,h0,h=>by
  obtain ⟨_,_,_,e0,e0',e0'',_⟩:=h0
  obtain ⟨u,us,us0,e,e',e'',h3⟩:=h
  rw [h1.get e0] at e
  cases e
  rw [h1.get e0'] at e'
  cases e'
  rw [h1.get e0''] at e''
  cases e''
  exact ⟨_,_,_,h2.get e0,h2.get e0',h2.get e0'',h3⟩
 | .lp _ _,h0,h=>by
  obtain ⟨_,r0,e0,_,_,_,m0,_⟩:=h0
  obtain ⟨b,r,e,h3,h4,h5,m,h7⟩:=h
  rw [h1.get e0] at e
  cases e
  exact ⟨_,r,h2.get e0,h3,h4,h5,fun t pv ht=>PM.swap h2 h1 hk (m0 t pv ht) (m t pv ht),h7⟩
 | .flat _ _ _,h0,h=>by
  obtain ⟨_,e0,_⟩:=h0
  obtain ⟨b,e,h3⟩:=h
  rw [h1.get e0] at e
  cases e
  exact ⟨_,h2.get e0,h3⟩
 | .cel _ _,h0,h=>by
  obtain ⟨_,e0,_,_,vs0,a0,_⟩:=h0
  obtain ⟨b,e,h3,h4,vs,a,h5⟩:=h
  rw [h1.get e0] at e
  cases e
  exact ⟨_,h2.get e0,h3,h4,vs,All2.swap (R':=CM S w η2) (fun _ _ _ u0 u=>CM.swap h2 h1 hk u0 u) a0 a,h5⟩
 | .mp _,h0,h=>by
  obtain ⟨_,_,_,e0,_⟩:=h0
  obtain ⟨r,arr,clock,e,h3⟩:=h
  rw [h1.get e0] at e
  cases e
  exact ⟨_,arr,clock,h2.get e0,h3⟩
 | .bld _ _ _,h0,h=>by
  obtain ⟨_,e0,_⟩:=h0
  obtain ⟨b,e,h3⟩:=h
  rw [h1.get e0] at e
  cases e
  exact ⟨_,h2.get e0,h3⟩
 | .opt false l,h0,h=>by
  obtain ⟨_,e0,_,_,vs0,a0,_⟩:=h0
  obtain ⟨b,e,h3,h4,vs,a,h5⟩:=h
  rw [h1.get e0] at e
  cases e
  exact ⟨_,h2.get e0,h3,h4,vs,All2.swap (R':=CM S w η2) (fun _ _ _ u0 u=>CM.swap h2 h1 hk u0 u) a0 a,h5⟩
 | .opt true l,h0,h=>⟨h2.get h0.1,h.2⟩
 | .frm _ _,h0,h=>⟨let ⟨v,e⟩:=h0.1;⟨v,h2.get e⟩,h.2⟩
 | .gone,_,h=>h

theorem lk_has {α:Type}:∀ {l:List (Nat×α)} {i:Nat},hasK l i=false→lk l i=none
 | [],_,_=>rfl
 | (k,v)::r,i,h=>by
  unfold hasK at h
  unfold lk
  cases hb:Nat.beq k i<;>rw [hb] at h
  ·exact lk_has h
  ·cases h
theorem onlyE_ok {k:Skel}:∀ {d:Ev},onlyE k d=true→∀ i,hasK k.slots i=false→zC k.kill i=false→lk d i=none
 | [],_,_,_,_=>rfl
 | (j,v)::r,h,i,h1,h2=>by
  simp only [onlyE,bA] at h
  unfold lk
  cases hb:Nat.beq j i
  ·exact onlyE_ok h.2 i h1 h2
  ·have:=nB hb
   subst this
   rw [h1,h2] at h
   cases h.1
theorem onlyH_ok {k:Skel} {n0:Nat}:∀ {d:PH},onlyH k n0 d=true→∀ i,i<n0→hasK k.objs i=false→lk d i=none
 | [],_,_,_,_=>rfl
 | (j,v)::r,h,i,h1,h2=>by
  simp only [onlyH,bA] at h
  unfold lk
  cases hb:Nat.beq j i
  ·exact onlyH_ok h.2 i h1 h2
  ·have:=nB hb
   subst this
   have hn:Nat.ble n0 j=false:=by
    cases hn:Nat.ble n0 j
    ·rfl
    ·have:=nL hn;omega
   rw [h2,hn] at h
   cases h.1
theorem goneOk_ok {k:Skel} {n0:Nat}:∀ {m:Mp},goneOk k n0 m=true→∀ i j,lk m i=some j→n0≤j∨∃ x,lk k.objs j=some x∧mH x=true
 | [],_,_,_,h=>by cases h
 | (a,b)::r,h,i,j,hl=>by
  simp only [goneOk,bA] at h
  unfold lk at hl
  cases hb:Nat.beq a i<;>rw [hb] at hl
  ·exact goneOk_ok h.2 i j hl
  ·cases hl
   rcases Bool.or_eq_true_iff.1 h.1 with h1 | h1
   ·exact .inl (nL h1)
   ·split at h1
    ·rename_i o ho
     exact .inr ⟨o,ho,h1⟩
    ·cases h1
theorem objKind_ok {H:PH} {n0:Nat}:∀ {l:List (Nat×SO)},objKind H n0 l=true→∀ i x,lk l i=some x→i<n0∧kindIs x (lk H i)=true
 | [],_,_,_,h=>by cases h
 | (a,y)::r,h,i,x,hl=>by
  simp only [objKind,bA] at h
  unfold lk at hl
  cases hb:Nat.beq a i<;>rw [hb] at hl
  ·exact objKind_ok h.2 i x hl
  ·cases hl
   have:=nB hb
   subst this
   exact ⟨nL h.1.1,h.1.2⟩
theorem newKind_ok {H:PH} {m:Mp}:∀ {l:List SO} {n:Nat},newKind H m l n=true→∀ q x,l[q]? = some x→∃ j,lk m (n+q)=some j∧kindIs x (lk H j)=true
 | [],_,_,q,x,h=>by simp at h
 | y::r,n,h,0,x,hq=>by
  simp only [newKind,bA] at h
  simp at hq
  subst hq
  split at h
  ·rename_i j hj
   exact ⟨j,hj,h.1⟩
  ·cases h.1
 | y::r,n,h,q+1,x,hq=>by
  simp only [newKind,bA] at h
  obtain ⟨j,h1,h2⟩:=newKind_ok h.2 q x (by simpa using hq)
  exact ⟨j,by rw [← h1];congr 1;omega,h2⟩
theorem take_app {α:Type} (d l:List α):(d++l).take ((d++l).length-l.length)=d:=by simp

theorem Skel.ok {k:Skel} {st0 st st':PS} {L:List TV} (he:k.enc st0 st=some L) (hd:k.dec st0 L=some st') {B:Nat} {S0 S:Cells} {w0 w:World} {η0 η:Eta}
  (i0:HInv B η0 st0.hp S0 w0) (l0:∀ i,st0.nx≤i→η0 i=none) (i1:HInv B η st.hp S w) (l1:∀ i,st.nx≤i→η i=none) (hp:Pre η0 η)
  (hE:∃ δ,st.env=δ++st0.env) (hH:∃ δ,st.hp=δ++st0.hp) (hgr:Grow B S0 w0 S w) :
  ∃ S' η' y,HInv B η' st'.hp S' w∧(∀ i,st'.nx≤i→η' i=none)∧Pre η0 η'∧Grow B S w S' w∧(∃ δ,st'.hp=δ++st0.hp)∧st'.env=y++(k.kill.map fun i=>(i,PV.any))++st0.env ∧
   (∃ L',zD k.slots L=some (y,L')) ∧
   (∀ x∈y,∀ c b v,x.2≠PV.g c b v)∧(∀ i,lk y i=none→hasK k.slots i=false)∧(∀ i pv,lk y i=some pv→∃ pv0,lk st.env i=some pv0∧∀ v,PM S w η pv0 v→PM S' w η' pv v) ∧
   (∀ i,hasK k.slots i=false→zC k.kill i=false→lk st.env i=lk st0.env i)∧(∀ pv v0 v,PM S0 w0 η0 pv v0→PM S w η pv v→PM S' w η' pv v):=by
 obtain ⟨δe,hE⟩:=hE
 obtain ⟨δh,hH⟩:=hH
 unfold Skel.enc at he
 split at he
 ·rename_i u1 z1 h1
  split at he
  ·rename_i u2 z2 h2
   split at he
   ·rename_i u3 z3 h3
    split at he
    ·rename_i hchk
     cases he
     have hz:Zok B S w η ⟨st.hp,st.nx,[],st0.nx,k.news⟩:=⟨i1,l1,⟨fun a b c h=>(by cases h),fun a b h=>(by cases h)⟩⟩
     obtain ⟨η1,S1,hz1,st1,d1⟩:=slot_ok st.env h1 hz
     obtain ⟨η2,S2,hz2,st2,d2⟩:=obj_ok h2 hz1
     obtain ⟨η3,S3,hz3,st3,d3⟩:=new_ok h3 hz2
     simp only [bA] at hchk
     obtain ⟨c1,c2,c3,c4,c5⟩:=hchk
     have stA:=(st1.trans st2).trans st3
     obtain ⟨δz,hδz⟩:=stA.suf
     simp only at hδz
     rw [hE,take_app] at c1
     have hzH:z3.H=(δz++δh)++st0.hp:=by rw [hδz,hH];simp
     rw [hzH,take_app] at c2
     have hn0:z3.n0=st0.nx:=stA.n0
     unfold Skel.dec at hd
     split at hd
     ·rename_i y L1 hd1
      have hd1':=hd1
      obtain ⟨e1,f1,f2,f3⟩:=d1 _ _ _ hd1
      subst e1
      split at hd
      ·rename_i h1' L2 hd2
       obtain ⟨e2,g1,g2⟩:=d2 _ _ _ _ hd2
       subst e2
       split at hd
       ·rename_i h2' hd3
        have hd3':wI k.news st0.nx (L2++[])=some (h2',[]):=by simpa using hd3
        obtain ⟨_,q1,q2⟩:=d3 _ _ _ hd3'
        cases hd
        -- the new numbers
        let ηn:Eta:=fun i=>if i<st0.nx then η3 i else if i<st0.nx+k.news.length then (match lk z3.m i with | some j=>η3 j | none=>none) else none
        have hp3:Pre η0 η3:=(hp.trans st1.pre).trans (st2.pre.trans st3.pre)
        have hlow:∀ i,i<st0.nx→ηn i=η3 i:=fun i hi=>by simp only [ηn,hi,if_true]
        have hpn:Pre η0 ηn:=fun i v hv=>by
         have hi:i<st0.nx:=by
          rcases Nat.lt_or_ge i st0.nx with h | h
          ·exact h
          ·rw [l0 i h] at hv;cases hv
         rw [hlow i hi];exact hp3 i v hv
        have hlen:∀ i,st0.nx+k.news.length≤i→ηn i=none:=fun i hi=>by
         simp only [ηn,show ¬ i<st0.nx by omega,show ¬ i<st0.nx+k.news.length by omega,if_false]
        have hnew:∀ i j v,st0.nx≤i→i-st0.nx<k.news.length→lk z3.m i=some j→η3 j=some v→ηn i=some v:=by
         intro i j v hi hlt hj hv
         simp only [ηn,show ¬ i<st0.nx by omega,show i<st0.nx+k.news.length by omega,if_false,if_true,hj,hv]
        have hlnk:∀ i j v,(i<z3.n0∧i=j∨z3.n0≤i∧lk z3.m i=some j)→η3 j=some v→ηn i=some v:=by
         intro i j v hij hv
         rw [hn0] at hij
         rcases hij with ⟨h,rfl⟩ | ⟨h,hj⟩
         ·rw [hlow i h];exact hv
         ·have:=hz3.mp.2 i j hj
          rw [hn0,stA.news] at this
          simp only at this
          exact hnew i j v h (by omega) hj hv
        have fi3:Fi w z3 S3 η3 S3 η3 z3.m ηn z3.H:=⟨⟨Keep.refl _ _,Pre.refl _,fun _ _ h=>h,hlnk⟩,Fz.refl _⟩
        have fi2:=fi3.back st3
        have fi1:=fi2.back st2
        obtain ⟨hb,hin,F,hdis,hF,hP⟩:=hz3.inv
        let ρ:Nat→Option Nat:=fun i=>if i<st0.nx then (match lk k.objs i with | some x=>if mH x=true then none else some i | none=>some i) else match k.news[i-st0.nx]? with
         | some x=>if isUs x=true∨mH x=true then none else lk z3.m i
         | none=>none
        obtain ⟨F',hF'd⟩:∃ F':Nat→Cells,∀ i,F' i=match ρ i with | some j=>F j | none=>fun _ _=>False:=⟨_,fun _=>rfl⟩
        have hFin:∀ i b o,F' i b o→∃ j,ρ i=some j∧F j b o:=by
         intro i b o h
         rw [hF'd] at h
         cases hj:ρ i with
         | none=>rw [hj] at h;exact h.elim
         | some j=>rw [hj] at h;exact ⟨j,rfl,h⟩
        have hinj:∀ i i' j,ρ i=some j→ρ i'=some j→i=i':=by
         have hlow:∀ i j,i<st0.nx→ρ i=some j→i=j∧∀ x,lk k.objs i=some x→mH x=false:=by
          intro i j hi hρ
          simp only [ρ,hi,if_true] at hρ
          split at hρ
          ·rename_i x hx
           split at hρ
           ·cases hρ
           ·rename_i hg
            cases hρ
            exact ⟨rfl,fun x' hx'=>by rw [hx] at hx';cases hx';simpa using hg⟩
          ·rename_i hx
           cases hρ
           exact ⟨rfl,fun x' hx'=>by rw [hx] at hx';cases hx'⟩
         have hhigh:∀ i j,¬ i<st0.nx→ρ i=some j→lk z3.m i=some j:=by
          intro i j hi hρ
          simp only [ρ,hi,if_false] at hρ
          split at hρ
          ·split at hρ
           ·cases hρ
           ·exact hρ
          ·cases hρ
         have hmix:∀ i i' j,i<st0.nx→¬ i'<st0.nx→ρ i=some j→ρ i'=some j→False:=by
          intro i i' j h h' h1 h2
          obtain ⟨rfl,hg⟩:=hlow i j h h1
          rcases goneOk_ok c3 i' i (hhigh i' i h' h2) with hh | ⟨x,hx,hx2⟩
          ·omega
          ·rw [hg x hx] at hx2;cases hx2
         intro i i' j h1 h2
         by_cases a1:i<st0.nx<;>by_cases a2:i'<st0.nx
         ·rw [(hlow i j a1 h1).1,(hlow i' j a2 h2).1]
         ·exact (hmix i i' j a1 a2 h1 h2).elim
         ·exact (hmix i' i j a2 a1 h2 h1).elim
         ·exact hz3.mp.1 i i' j (hhigh i j a1 h1) (hhigh i' j a2 h2)
        refine ⟨S3,ηn,y,⟨hb,hin,F',?_,?_,?_⟩,?_,hpn,stA.grow,⟨h2'++h1',by simp⟩,rfl,⟨_,hd1'⟩,f1,f2,?_,?_,?_⟩
        ·intro i i' hii b o h h'
         obtain ⟨j,hj,h⟩:=hFin _ _ _ h
         obtain ⟨j',hj',h'⟩:=hFin _ _ _ h'
         by_cases hjj:j=j'
         ·subst hjj;exact hii (hinj i i' j hj hj')
         ·exact hdis j j' hjj b o h h'
        ·intro i b o h
         obtain ⟨j,hj,h⟩:=hFin _ _ _ h
         exact hF _ b o h
        ·intro i po hl
         have hl:lk (h2'++(h1'++st0.hp)) i=some po:=by rw [← aA];exact hl
         rw [xB] at hl
         split at hl
         ·rename_i po' hl2
          cases hl
          obtain ⟨hni,x,j,hx,hu,hj,ho⟩:=q1 i po hl2
          obtain ⟨j',hj',hk⟩:=newKind_ok c5 _ _ hx
          rw [show st0.nx+(i-st0.nx)=i by omega,hj] at hj'
          cases hj'
          have hxl:i-st0.nx<k.news.length:=(gS.1 hx).1
          have:=ho S3 η3 z3.m ηn z3.H fi3 (F j) hk (fun po hpo=>hP j po hpo) (fun v hv=>hnew i j v hni hxl hj hv) (fun _ _ h=>by cases h)
          have hF':F' i=if mH x=true then fun _ _=>False else F j:=by
           have hi:¬ i<st0.nx:=by omega
           simp only [hF'd,ρ,hi,if_false,hx,hu,hj]
           cases mH x<;>simp
          rw [hF'];exact this
         ·rename_i hl2
          rw [xB] at hl
          split at hl
          ·rename_i po' hl1
           cases hl
           cases hx:lk k.objs i with
           | none=>rw [(g1 i hx).1] at hl1;cases hl1
           | some x =>
            obtain ⟨po2,hpo2,ho⟩:=g2 i x hx
            rw [hl1] at hpo2
            cases hpo2
            obtain ⟨hin0,hk⟩:=objKind_ok c4 i x hx
            have:=ho S3 η3 z3.m ηn z3.H fi2 (F i) hk (fun po hpo=>hP i po hpo) (fun v hv=>hlnk i i v (.inl ⟨by rw [hn0];exact hin0,rfl⟩) hv) (fun D s hD=>by
             obtain ⟨F0,_,b,r,x1,_,x3,x4,x5,x6,x7,x8,_⟩:=i0.read hD
             have hg3:=hgr.trans stA.grow
             obtain ⟨r',y1,y2,y3,y4,y5,_⟩:=hg3.lk.loops b r x3
             exact ⟨b,r',hpn.get x1,y1,by rw [y2];exact x4,by rw [y2];exact x5.mono hg3.keep hpn,y3.trans x6,y4.trans x7,y5.trans x8⟩)
            have hF':F' i=if mH x=true then fun _ _=>False else F i:=by
             simp only [hF'd,ρ,hin0,if_true,hx]
             cases mH x<;>simp
            rw [hF'];exact this
          ·rename_i hl1
           have hx:lk k.objs i=none:=by
            cases hx:lk k.objs i with
            | none=>rfl
            | some x =>
             obtain ⟨po2,hpo2,_⟩:=g2 i x hx
             rw [hl1] at hpo2;cases hpo2
           obtain ⟨F1,_,hP0⟩:=i0.read hl
           by_cases hi:i<st0.nx
           ·have hlz:lk z3.H i=some po:=by
             rw [hzH,xB,onlyH_ok c2 i hi (g1 i hx).2];exact hl
            have hF':F' i=F i:=by
             simp only [hF'd,ρ,hi,if_true,hx]
            rw [hF']
            exact POH.swap hpn hp3 (Keep.refl _ _) hP0 (hP i po hlz)
           ·rcases hP0.has with rfl | ⟨v,hv⟩
            ·have hF':F' i=fun _ _=>False:=by
              simp only [hF'd,ρ,hi,if_false]
              cases hnx:k.news[i-st0.nx]? with
              | none=>rfl
              | some x =>
               cases hu:isUs x with
               | true=>simp [hu]
               | false =>
                have:=q2 _ x hnx hu
                rw [show st0.nx+(i-st0.nx)=i by omega] at this
                exact absurd hl2 this
             rw [hF'];exact fun b o h=>h
            ·rw [l0 i (by omega)] at hv;cases hv
        ·exact hlen
        ·intro i pv hl
         obtain ⟨pv0,a1,a2⟩:=f3 i pv hl
         exact ⟨pv0,a1,fun v hv=>a2 _ _ _ _ _ fi1 v hv⟩
        ·intro i h1 h2
         rw [hE,xB,onlyE_ok c1 i h1 h2]
        ·intro pv v0 v h0 hv
         exact PM.swap hpn hp stA.grow.keep h0 hv
       ·cases hd
      ·cases hd
     ·cases hd
    ·cases he
   ·cases he
  ·cases he
 ·cases he

def Ex.out:Ex→Exit
 | .norm=>.normal
 | .ret=>.ret
 | .exit i=>.exit i
 | .go l=>.goto l
 | .pan T=>panV T

def mark (b:Nat):Deferred:={ target:=.collected b,args:=#[] }
def DefsOK (nm:Bool) (base:Nat) (tl:List Deferred) (w:World) (ds:List Deferred):Prop:=∃ bs:List Nat,(nm=true→bs=[])∧ds=bs.map mark++tl∧bs.Nodup∧∀ b∈bs,base≤b∧w.heap[b]? = some (.deferred (some []))
theorem DefsOK.mono {nm:Bool} {base:Nat} {tl:List Deferred} {w w':World} {ds:List Deferred} (h:DefsOK nm base tl w ds) (k:LK w w'):DefsOK nm base tl w' ds :=
 let ⟨bs,h0,h1,h2,h3⟩:=h;⟨bs,h0,h1,h2,fun b hb=>⟨(h3 b hb).1,k.defs b (h3 b hb).2⟩⟩
theorem DefsOK.nil (nm:Bool) (base:Nat) (tl:List Deferred) (w:World):DefsOK nm base tl w tl:=⟨[],fun _=>rfl,rfl,List.nodup_nil,fun b hb=>by cases hb⟩
structure FC where
 base:Nat
 rd:Option Nat
 tl:List Deferred:=[]
 nm:Bool:=false
abbrev NmOK (D:FC) (Γ:Tabs):Prop:=D.nm=true→zC Γ.own 3000000=true
def RdOK (rd:Option Nat) (w:World):Prop:=∀ l,rd=some l→∃ r:Loop,w.heap[l]? = some (.loop r)
theorem RdOK.mono {rd:Option Nat} {w w':World} (h:RdOK rd w) (k:LK w w'):RdOK rd w':=fun l hl=>by
 obtain ⟨r,hr⟩:=h l hl
 obtain ⟨r',h',_⟩:=k.loops l r hr
 exact ⟨r',h'⟩
structure Good (n B:Nat) (D:FC) (st:PS) (a:Act) (w:World) (S:Cells) (η:Eta):Prop where
 defers:DefsOK D.nm D.base D.tl w a.defers
 size:a.tmps.size=n
 env:EnvM S w η st.env a.tmps
 inv:HInv B η st.hp S w
 len:∀ i,st.nx≤i→η i=none
 wf:Wf st.env
 rdok:RdOK D.rd w
 bb:B≤D.base
 ba:D.base≤w.heap.size
structure Stp (B:Nat) (st:PS) (S:Cells) (w:World) (η:Eta) (st':PS) (S':Cells) (w':World) (η':Eta):Prop where
 env:∃ δ,st'.env=δ++st.env
 hp:∃ δ,st'.hp=δ++st.hp
 pre:Pre η η'
 grow:Grow B S w S' w'
theorem kC {α:Type} {a b c:List α} (h:∃ δ,b=δ++a) (k:∃ δ,c=δ++b):∃ δ,c=δ++a:=by
 obtain ⟨d,rfl⟩:=h;obtain ⟨d',rfl⟩:=k;exact ⟨d'++d,by simp⟩
theorem Stp.refl {B:Nat} {st:PS} {S:Cells} {w:World} {η:Eta} (h:InW S w):Stp B st S w η st S w η:=⟨⟨[],rfl⟩,⟨[],rfl⟩,.refl _,Grow.refl h⟩
theorem Stp.trans {B:Nat} {st1 st2 st3:PS} {S1 S2 S3:Cells} {w1 w2 w3:World} {η1 η2 η3:Eta} (h:Stp B st1 S1 w1 η1 st2 S2 w2 η2) (k:Stp B st2 S2 w2 η2 st3 S3 w3 η3):Stp B st1 S1 w1 η1 st3 S3 w3 η3 :=
 ⟨kC h.env k.env,kC h.hp k.hp,h.pre.trans k.pre,h.grow.trans k.grow⟩

theorem kill_lk:∀ {l:List Nat} {i:Nat},lk (l.map fun i=>(i,PV.any)) i=none→zC l i=false
 | [],_,_=>rfl
 | k::r,i,h=>by
  simp only [List.map_cons] at h
  unfold lk at h
  unfold zC
  cases hb:Nat.beq k i<;>rw [hb] at h
  ·exact kill_lk h
  ·cases h
theorem kill_any:∀ {l:List Nat} {i:Nat} {pv:PV},lk (l.map fun i=>(i,PV.any)) i=some pv→pv=.any
 | [],_,_,h=>by cases h
 | k::r,i,pv,h=>by
  simp only [List.map_cons] at h
  unfold lk at h
  cases hb:Nat.beq k i<;>rw [hb] at h
  ·exact kill_any h
  ·cases h;rfl
theorem Wf.app {e:Ev} (h:Wf e):∀ {y:Ev},(∀ x∈y,∀ c b v,x.2≠PV.g c b v)→Wf (y++e)
 | [],_=>h
 | (t,pv)::r,hy=>(Wf.app h fun x hx=>hy x (by simp [hx])).consN (hy (t,pv) (by simp))

theorem Skel.good {k:Skel} {st0 st st':PS} {L:List TV} (he:k.enc st0 st=some L) (hd:k.dec st0 L=some st') {n B:Nat} {D:FC} {S0 S:Cells} {w0 w:World} {η0 η:Eta} {a0 a:Act}
  (g0:Good n B D st0 a0 w0 S0 η0) (g:Good n B D st a w S η) (s:Stp B st0 S0 w0 η0 st S w η):∃ S' η',Good n B D st' a w S' η'∧Stp B st0 S0 w0 η0 st' S' w η':=by
 obtain ⟨S',η',y,h1,h2,h3,h4,h5,h6,_,h7,h8,h9,h10,h11⟩:=Skel.ok he hd g0.inv g0.len g.inv g.len s.pre s.env s.hp s.grow
 refine ⟨S',η',⟨g.defers,g.size,?_,h1,h2,?_,g.rdok,g.bb,g.ba⟩,⟨⟨_,h6⟩,h5,h3,s.grow.trans h4⟩⟩
 ·intro t pv ht
  rw [h6,xB,xB] at ht
  cases hy:lk y t with
  | some pv' =>
   rw [hy] at ht
   cases ht
   obtain ⟨pv0,e1,e2⟩:=h9 t _ hy
   exact e2 _ (g.env t pv0 e1)
  | none =>
   rw [hy] at ht
   simp only at ht
   cases hk:lk (k.kill.map fun i=>(i,PV.any)) t with
   | some pv' =>
    rw [hk] at ht
    cases ht
    rw [kill_any hk];trivial
   | none =>
    rw [hk] at ht
    simp only at ht
    have:=h10 t (h8 t hy) (kill_lk hk)
    exact h11 pv _ _ (g0.env t pv ht) (g.env t pv (by rw [this];exact ht))
 ·rw [h6,aA]
  refine Wf.app (Wf.app g0.wf ?_) h7
  intro x hx c b v
  obtain ⟨i,_,rfl⟩:=List.mem_map.1 hx
  simp

theorem fF {k:Skel} {st0 st:PS} {x:Tup k.tys} (h:k.encT st0 st=some x):k.enc st0 st=some (Tup.toL k.tys x):=by
 unfold Skel.encT at h
 split at h
 ·rename_i l hl
  rw [hl,Tup.ofL_some h]
 ·cases h
theorem eqEx_ok {a b:Ex} (h:eqEx a b=true):a=b:=by
 unfold eqEx at h
 split at h
 ·rfl
 ·rfl
 ·rw [nB h]
 ·rw [nB h]
 ·rw [nB h]
 ·cases h
theorem xK {β:Type} {st0:PS} {ex:Ex} {st:PS} {K:Ex→PS→Option β} {r:β}:∀ {outs:Outs} {o:OutT outs},inj st0 ex st outs=some o→outK st0 outs o K=some r→∃ k L st2,(ex,k)∈outs∧k.enc st0 st=some L∧k.dec st0 L=some st2∧K ex st2=some r
 | [],o,_,_=>o.elim
 | [x],o,h,hk=>by
  simp only [inj] at h
  split at h
  ·rename_i he
   have hex:=eqEx_ok he
   subst hex
   have h1:=fF h
   simp only [outK] at hk
   split at hk
   ·rename_i st2 hd
    exact ⟨x.2,_,st2,by simp,h1,hd,hk⟩
   ·cases hk
  ·cases h
 | x::y::l,o,h,hk=>by
  simp only [inj] at h
  split at h
  ·rename_i t ht
   cases h
   split at ht
   ·rename_i he
    have hex:=eqEx_ok he
    subst hex
    have h1:=fF ht
    simp only [outK,Sum.elim_inl] at hk
    split at hk
    ·rename_i st2 hd
     exact ⟨x.2,_,st2,by simp,h1,hd,hk⟩
    ·cases hk
   ·cases ht
  ·split at h
   ·rename_i t ht
    cases h
    simp only [outK,Sum.elim_inr] at hk
    obtain ⟨k,L,st2,a1,a2⟩:=xK ht hk
    exact ⟨k,L,st2,by simp [a1],a2⟩
   ·cases h

theorem ev_env {e:Ev} {x:Operand} {pv:PV} {S:Cells} {w:World} {η:Eta} {a:Act} (hw:Wf e) (h:ev e [] x=some pv) (ho:EnvM S w η e a.tmps):PM S w η pv (a.eval x):=by
 cases x with
 | tmp t =>
  simp only [ev] at h
  split at h
  ·rename_i c b v hl
   have hg:=ho t _ hl
   cases hs:subC c [] with
   | true=>rw [hs] at h;cases h;exact hg.1 ((hw.old hl).2.2 fun p hp=>absurd (subC_sub hs p hp) (by simp))
   | false=>rw [hs] at h;cases h;exact hg
  ·exact ho t _ h
 | const v=>exact litPV_sound h
 | func f=>cases h;exact ⟨[],[],rfl,.nil,.nil⟩
 | global g=>cases h

theorem eqNs_ok:∀ {a b:List Nat},eqNs a b=true→a=b
 | [],[],_=>rfl
 | x::r,y::l,h=>by
  simp only [eqNs,bA] at h
  rw [nB h.1,eqNs_ok h.2]
 | [],_::_,h=>by cases h
 | _::_,[],h=>by cases h
theorem eqFl_ok {a b:Fl} (h:eqFl a b=true):a=b:=by
 unfold eqFl at h
 split at h
 ·simp only [bA] at h
  rw [eqNs_ok h.1,eqNs_ok h.2]
 ·rfl
 ·rw [eqNs_ok h]
 ·cases h
theorem sC {fl:Option (List Fl)} {g:Fl} {fl':Option (List Fl)} (h:zJ fl g=some fl'):(fl=none∧fl'=none)∨∃ l,fl=some (g::l)∧fl'=some l:=by
 unfold zJ at h
 split at h
 ·cases h;exact .inl ⟨rfl,rfl⟩
 ·split at h
  ·rename_i hb
   have:=eqFl_ok hb
   cases h;subst this;exact .inr ⟨_,rfl,rfl⟩
  ·cases h
 ·cases h

theorem yielded_bool {ops:List Oper} {j d:Nat} {oj:Oper} {tmps:Array Value} {b:Bool} (h1:ops[j]? = some oj) (h2:oj.dst=some d) (h:tmps.getD d undef=.bool b):yielded ops.toArray tmps j=some b:=by
 have:tmps[d]? = some (.bool b):=by
  rw [aD] at h
  cases hd:tmps[d]? with
  | none=>rw [hd] at h;cases h
  | some v=>rw [hd] at h;simp only [Option.getD_some] at h;rw [h]
 simp [yielded,h1,h2,this]
theorem yielded_undef {ops:List Oper} {j d:Nat} {oj:Oper} {tmps:Array Value} (h1:ops[j]? = some oj) (h2:oj.dst=some d) (h:tmps.getD d undef=undef):yielded ops.toArray tmps j=none:=by
 rw [aD] at h
 cases hd:tmps[d]? with
 | none=>simp [yielded,h1,h2,hd]
 | some v =>
  rw [hd] at h
  simp only [Option.getD_some] at h
  subst h
  simp [yielded,h1,h2,hd,undef]
theorem gd_ok {ops:List Oper} {o:Oper} {e:Ev} {ctx:Ctx} {b:Bool} (h:gdR ops e o=some (ctx,b)) (hw:Wf e):(∀ p∈ctx,p.1<e.length)∧(b=true↔CtxH e ctx) ∧
  ∀ S w η (tmps:Array Value),En.Only (lk e) (sB ops.toArray o) S w η tmps→(Region.wanted o (yielded ops.toArray tmps)=true↔b=true):=by
 unfold gdR at h
 split at h
 ·rename_i j want hg
  split at h
  ·rename_i oj hj
   split at h
   ·rename_i d hd
    have hread:zC (sB ops.toArray o) d=true:=by
     have:guardSlot ops.toArray o=some d:=by simp [guardSlot,hg,hj,hd]
     simp [sB,this,zC,Nat.beq_refl]
    split at h
    ·rename_i b0 k hl
     cases h
     obtain ⟨l1,l2,l3⟩:=lkp_lk hl
     have hbit:bitOf e (k,want)↔b0=want:=by
      constructor
      ·rintro ⟨s,b1,h1 | ⟨c,b',h1,_⟩,h2⟩
       ·rw [l2] at h1;cases h1;exact h2
       ·rw [l2] at h1;cases h1
      ·intro h;exact ⟨d,b0,.inl l2,h⟩
     have hv:sgn want b0=true↔b0=want:=by clear hg hbit;cases want<;>cases b0<;>simp [notM,sgn]
     refine ⟨fun p hp=>by simp at hp;subst hp;exact l3,?_,fun S w η tmps ho=>?_⟩
     ·rw [hv,← hbit]
      constructor
      ·intro h p hp;simp at hp;subst hp;exact h
      ·intro h;exact h (k,want) (by simp)
     ·have hb:tmps.getD d undef=.bool b0:=VRep.bool.1 (ho d _ hread l1).2
      rw [hv]
      simp [Region.wanted,hg,yielded_bool hj hd hb]
    ·rename_i c b' v0 k hl
     split at h
     ·rename_i b0
      cases h
      obtain ⟨l1,l2,l3⟩:=lkp_lk hl
      obtain ⟨w1,w2⟩:=hw k d c b' _ l2
      have hbit:bitOf e (k,want)↔b'=true∧b0=want:=by
       constructor
       ·rintro ⟨s,b1,h1 | ⟨c,b'',h1,h3⟩,h2⟩
        ·rw [l2] at h1;cases h1
        ·rw [l2] at h1;cases h1;exact ⟨h3,h2⟩
       ·intro h;exact ⟨d,b0,.inr ⟨c,b',l2,h.1⟩,h.2⟩
      have hv:andM b' (sgn want b0)=true↔b'=true∧b0=want:=by clear hg hbit w2 l2 l1 hl;cases want<;>cases b0<;>cases b'<;>simp [notM,andM,sgn]
      refine ⟨fun p hp=>?_,?_,fun S w η tmps ho=>?_⟩
      ·rcases List.mem_cons.1 hp with rfl | hp
       ·exact l3
       ·exact Nat.lt_trans (w1 p hp) l3
      ·rw [hv]
       constructor
       ·rintro ⟨h1,h2⟩ p hp
        rcases List.mem_cons.1 hp with rfl | hp
        ·exact hbit.2 ⟨h1,h2⟩
        ·exact w2.1 h1 p hp
       ·intro h;exact hbit.1 (h _ (by simp))
      ·rw [hv]
       have hm:=ho d _ hread l1
       cases b' with
       | true =>
        have hb:tmps.getD d undef=.bool b0:=VRep.bool.1 (hm.1 rfl).2
        simp [Region.wanted,hg,yielded_bool hj hd hb]
       | false =>
        have hb:tmps.getD d undef=undef:=hm.2 rfl
        simp [Region.wanted,hg,yielded_undef hj hd hb]
     ·split at h
      ·cases h
       obtain ⟨l1,l2,l3⟩:=lkp_lk hl
       obtain ⟨w1,w2⟩:=hw k d c false _ l2
       refine ⟨fun p hp=>?_,⟨fun h=>(by cases h),fun h=>?_⟩,fun S w η tmps ho=>?_⟩
       ·rcases List.mem_cons.1 hp with rfl | hp
        ·exact l3
        ·exact Nat.lt_trans (w1 p hp) l3
       ·obtain ⟨s,b1,h1 | ⟨c',b'',h1,h3⟩,h2⟩:=h (k,want) (by simp)
        ·rw [l2] at h1;cases h1
        ·rw [l2] at h1;cases h1
       ·have hm:=ho d _ hread l1
        have hb:tmps.getD d undef=undef:=hm.2 rfl
        simp [Region.wanted,hg,yielded_undef hj hd hb]
      ·cases h
     ·cases h
    ·cases h
   ·cases h
  ·cases h
 ·cases h
theorem fE {ops:Array Oper} {o:Oper} {E:En} {S:Cells} {w:World} {η:Eta} {tmps:Array Value} (h:E.Only (sB ops o) S w η tmps):E.Only (rA o) S w η tmps:=by
 intro t pv ht he
 refine h t pv ?_ he
 unfold sB
 split
 ·exact ht
 ·rename_i s hs
  unfold zC
  cases Nat.beq s t
  ·exact ht
  ·rfl

structure OpF.Nice (F:OpF):Prop where
 loc:∀ Γ o e ctx H H' nx,(∀ i∈dD e ctx o,lk H' i=lk H i)→F Γ o e ctx H' nx=F Γ o e ctx H nx
 pure0:∀ Γ o e ctx H nx R,F Γ o e ctx H nx=some R→R.fl=0→∀ H',F Γ o e ctx H' nx=some R

theorem neM_some {α:Type} {xs ys:List α} (h:neM xs=some ys):ys=xs∧xs≠[]:=by
 cases xs with
 | nil=>cases h
 | cons x r=>cases h;exact ⟨rfl,by simp⟩
theorem VRep.ne {S:Cells} {w:World} {t:Ty} {xs:List t.den} {v:Value} (h:VRep S w (.list t) xs v) (hne:xs≠[]):∃ a n c,v=.slice (some a) n c:=by
 obtain ⟨cs,⟨base,cap,rfl,h1,h2,h3⟩,rfl⟩:=h
 rcases h3 with h3 | ⟨b,off,rfl,_⟩
 ·exact absurd (lN h3) hne
 ·exact ⟨_,_,_,rfl⟩

theorem Good.ok {n B:Nat} {D:FC} {st:PS} {a:Act} {w:World} {S:Cells} {η:Eta} (g:Good n B D st a w S η):Ok n B a.defers S w η (lk st.env) (lk st.hp,fun i=>i<st.nx) a w S η :=
 ⟨rfl,g.size,g.env,⟨⟨st.hp,rfl,g.inv⟩,fun i hi=>g.len i (Nat.le_of_not_lt hi)⟩,.refl _,Grow.refl g.inv.inw⟩
def KK {β:Type} (K:PS→Option β) (st:PS) (r:β) (E:En) (hs:Hs):Prop:=∃ st',E=lk st'.env∧hs=(lk st'.hp,fun i=>i<st'.nx)∧Wf st'.env∧(∃ δ,st'.env=δ++st.env)∧(∃ δ,st'.hp=δ++st.hp)∧K st'=some r
theorem KK.good {β:Type} {K:PS→Option β} {st:PS} {r:β} {E:En} {hs:Hs} {n B:Nat} {D:FC} {S S':Cells} {w w':World} {η η':Eta} {a a':Act} (g:Good n B D st a w S η) (h:KK K st r E hs) (ok:Ok n B a.defers S w η E hs a' w' S' η') :
  ∃ st',Good n B D st' a' w' S' η'∧Stp B st S w η st' S' w' η'∧K st'=some r:=by
 obtain ⟨st',rfl,rfl,h1,h2,h3,h4⟩:=h
 obtain ⟨⟨H,eH,hi⟩,hfr⟩:=ok.inv
 exact ⟨st',⟨by rw [ok.defers];exact g.defers.mono ok.grow.lk,ok.size,ok.env,hi.less fun i po hl=>by rw [eH];exact hl,fun i hi=>hfr i (Nat.not_lt.2 hi),h1,g.rdok.mono ok.grow.lk,g.bb,Nat.le_trans g.ba ok.grow.below.size⟩,⟨h2,h3,ok.pre,ok.grow⟩,h4⟩

def PcOk (F:OpF) (n:Nat):Prop:=∀ (Γ:Tabs) (sz:Nat) (an:Ann) (c:Code) (β:Type) (st:PS) (K:Ex→PS→Option β) (r:β),pc F n Γ sz an c β st K=some r →
 ∀ P,TabOK P Γ→∀ rd B (D:FC) a w S η,Good sz B D st a w S η→D.rd=rd→NmOK D Γ→∀ Q:Exit→Act→World→Prop,
  (∀ ex st' a' w' S' η',Good sz B D st' a' w' S' η'→Stp B st S w η st' S' w' η'→K ex st'=some r→Q ex.out a' w')→c.wpIn (FR rd) 0 P Q a w
def PrOk (F:OpF) (n:Nat):Prop:=∀ (Γ:Tabs) (sz:Nat) (ops todo:List Oper) (fl:Option (List Fl)) (an:Ann) (β:Type) (st:PS) (K:PS→Option β) (K2:TypeId→PS→Option β) (r:β),pr F n Γ sz ops todo fl an β st K K2=some r →
 ∀ P,TabOK P Γ→∀ rd B,Wf st.env→∃ fl',(∀ f,fl=some f→fl'=f)∧Cert P rd sz B ops.toArray (KK K st r) (fun T=>KK (K2 T) st r) todo fl' (lk st.env) (lk st.hp,fun i=>i<st.nx)

theorem fvRV_ok {S:Cells} {w:World} {η:Eta} {x:FV} {v:Value} (h:FM S w η x v):RM S w η (cB x) v:=by
 cases x with
 | p id off=>exact h
 | y id=>exact h
 | h id=>exact h
 | d t x => 
  show RM S w η (t.rv x) v
  exact VRep.rm h
theorem tE {S:Cells} {w:World} {η:Eta}:∀ {l:List FV} {vs:List Value},All2 (FM S w η) l vs→All2 (RM S w η) (l.map cB) vs
 | _,_,.nil=>.nil
 | _,_,.cons h1 h2=>.cons (fvRV_ok h1) (tE h2)

theorem numL_env {S:Cells} {w:World} {η:Eta}:∀ {l:List RV} {vs:List Value} {k:Nat} {pre post:List Value},All2 (RM S w η) l vs→pre.length=k →
  EnvM S w η ((vI k l).map fun x=>(x.1,PV.r x.2)) (pre++vs++post).toArray
 | _,_,k,pre,post,.nil,_=>fun t pv h=>by cases h
 | _,_,k,pre,post,.cons (a:=x) (as:=l) (b:=v) (bs:=vs) h1 h2,hk=>by
  intro t pv ht
  simp only [vI,List.map_cons] at ht
  by_cases hkt:k=t
  ·subst hkt
   rw [jA] at ht
   cases ht
   have:(pre++v::vs++post).toArray.getD k undef=v:=by
    simp [aD,← hk]
   rw [this];exact h1
  ·rw [wA _ _ hkt] at ht
   have:=numL_env (k:=k+1) (pre:=pre++[v]) (post:=post) h2 (by simp [hk]) t pv ht
   simpa using this
theorem numL_noG {l:List RV} {k:Nat}:Wf ((vI k l).map fun x=>(x.1,PV.r x.2)):=by
 have:=Wf.app (e:=[]) Wf.nil (y:=(vI k l).map fun x=>(x.1,PV.r x.2)) fun x hx c b v=>by
  obtain ⟨y,_,rfl⟩:=List.mem_map.1 hx
  simp
 simpa using this

def resSem (tmps:Array Value):ResultVar→Sem Value
 | .tmp t=>pure (tmps.getD t undef)
 | .cell c t=>do loadVar t (← asAddr (tmps.getD c undef))
theorem run_cons {P:Program} {w w1 w2:World} {f:ResultVar→Sem Value} {x:ResultVar} {l:List ResultVar} {v:Value} {vs:List Value} (h1:(f x).run P w=.ok v w1) (h2:(l.mapM f).run P w1=.ok vs w2):((x::l).mapM f).run P w=.ok (v::vs) w2:=by
 simp [List.mapM_cons,h1,h2]
theorem bF {P:Program} {Γ:Tabs} (hΓ:TabOK P Γ) {B:Nat} {st:PS} {a:Act} {w:World} {S:Cells} {η:Eta} (he:EnvM S w η st.env a.tmps) (hi:HInv B η st.hp S w):∀ {l:List ResultVar} {rs:List RV},rE Γ st l=some rs →
  ∃ vs:List Value,(l.mapM (resSem a.tmps)).run P w=.ok vs w∧All2 (RM S w η) rs vs
 | [],rs,h=>by cases h;exact ⟨[],rfl,.nil⟩
 | .tmp t::r,rs,h=>by
  unfold rE at h
  split at h
  ·rename_i v hv
   split at h
   ·rename_i l hl
    cases h
    obtain ⟨vs,h1,h2⟩:=bF hΓ he hi hl
    refine ⟨a.tmps.getD t undef::vs,?_,.cons (he t _ hv) h2⟩
    exact run_cons (by simp [resSem]) h1
   ·cases h
  ·cases h
 | .cell t id::r,rs,h=>by
  unfold rE at h
  split at h
  ·rename_i i k ti hv hti
   split at h
   ·rename_i l hl
    split at h
    ·rename_i v hcut
     split at h
     ·rename_i ls hls
      cases h
      obtain ⟨vs,h1,h2⟩:=bF hΓ he hi hls
      obtain ⟨b,hb1,hb2⟩:=he t _ hv
      obtain ⟨F1,_,b',hb',_,_,us,hus,hc⟩:=hi.read hl
      rw [hb1] at hb'
      cases hb'
      obtain ⟨u,hu1,hu2⟩:=load_cut (hΓ.ty _ _ hti) hus hc hcut
      refine ⟨u::vs,?_,.cons hu2 h2⟩
      exact run_cons (by show Sem.run P (do let x ← asAddr (a.tmps.getD t undef);loadVar id x) w=_;rw [hb2];simp [asAddr,hu1]) h1
     ·cases h
    ·cases h
   ·rename_i n T xs hl
    split at h
    ·rename_i hkn hag
     split at h
     ·rename_i ls hls
      cases h
      simp only [bA] at hkn
      have hk0:=nB hkn.1
      have hnt:=nB hkn.2
      subst hk0
      subst hnt
      obtain ⟨vs,h1,h2⟩:=bF hΓ he hi hls
      obtain ⟨b,hb1,hb2⟩:=he t _ hv
      obtain ⟨F1,_,hP⟩:=hi.read hl
      obtain ⟨hn,hB⟩:=uE hP hb1
      obtain ⟨u,hu1,hu2⟩:=flat_load (η:=η) (j:=0) (ys:=xs) (hΓ.ty _ _ hti) hag hB (by unfold pA;simp [← hn])
      refine ⟨u::vs,?_,.cons hu2 h2⟩
      exact run_cons (by show Sem.run P (do let x ← asAddr (a.tmps.getD t undef);loadVar id x) w=_;rw [hb2];simp [asAddr];exact hu1) h1
     ·cases h
    ·cases h
   ·cases h
  ·cases h
theorem results_ok {P:Program} {fn:Func} {tmps:Array Value} {w:World} {vs:List Value} (h:(fn.results.toList.mapM (resSem tmps)).run P w=.ok vs w) {S:Cells} {η:Eta} {rs:List RV} (hm:All2 (RM S w η) rs vs):∃ v,(results fn tmps).run P w=.ok v w∧PM S w η (dB rs) v:=by
 have h':(results fn tmps).run P w=.ok (if h:vs.toArray.size=1 then vs.toArray[0] else .tuple vs.toArray) w:=by
  have e:results fn tmps=(do let vs ← fn.results.mapM (resSem tmps);pure (if h:vs.size=1 then vs[0] else .tuple vs)):=rfl
  rw [e,Array.mapM_eq_mapM_toList]
  simp [h]
 refine ⟨_,h',?_⟩
 cases hm with
 | nil=>exact ⟨[],rfl,.nil⟩
 | cons h1 h2 =>
  cases h2 with
  | nil=>exact h1
  | cons h3 h4=>exact ⟨_,by simp,.cons h1 (.cons h3 h4)⟩


structure Took (base:Nat) (w w2:World):Prop where
 os:w2.os=w.os
 tape:w2.tape=w.tape
 output:w2.output=w.output
 size:w2.heap.size=w.heap.size
 drawn:w2.drawn=w.drawn
 heap:∀ b:Nat,w2.heap[b]? = w.heap[b]? ∨ (base≤b∧w.heap[b]? = some (.deferred (some []))∧w2.heap[b]? = some (.deferred none))
theorem Took.refl (base:Nat) (w:World):Took base w w:=⟨rfl,rfl,rfl,rfl,rfl,fun _=>.inl rfl⟩
theorem Took.put {base:Nat} {w w2:World} {b:Nat} (hb:base≤b) (h:w.heap[b]? = some (.deferred (some []))) (t:Took base (w.putObj b (.deferred none)) w2):Took base w w2:=by
 have hlt:b<w.heap.size:=(aS.1 h).1
 refine ⟨t.os,t.tape,t.output,by rw [t.size];simp,t.drawn,fun i=>?_⟩
 by_cases hi:i=b
 ·subst hi
  have hs:=World.putObj_heap_same (w:=w) (o:=.deferred none) hlt
  rcases t.heap i with h1 | ⟨_,h1,_⟩
  ·exact .inr ⟨hb,h,by rw [h1,hs]⟩
  ·rw [hs] at h1;cases h1
 ·have ho:=World.putObj_heap_other (w:=w) (r:=b) (o:=.deferred none) hi
  rcases t.heap i with h1 | ⟨h0,h1,h2⟩
  ·exact .inl (by rw [h1,ho])
  ·exact .inr ⟨h0,by rw [← ho];exact h1,h2⟩
theorem Took.cell {base:Nat} {w w2:World} (t:Took base w w2) (b o:Nat):w2.cell? ⟨b,o,none⟩=w.cell? ⟨b,o,none⟩∧w2.frozen? ⟨b,o,none⟩=w.frozen? ⟨b,o,none⟩:=by
 rcases t.heap b with h | ⟨_,h1,h2⟩
 ·exact ⟨World.cell?_of_block (w:=w) (a:=⟨b,o,none⟩) h,World.frozen?_of_block (w:=w) (a:=⟨b,o,none⟩) h⟩
 ·simp [World.cell?,World.frozen?,h1,h2]
theorem leaves_marks {P:Program} {rd:Option Nat} {fn:Func} {tmps:Array Value} {R:Ending→World→Prop} {base:Nat}:∀ (bs:List Nat) (w:World),bs.Nodup→(∀ b∈bs,base≤b∧w.heap[b]? = some (.deferred (some []))) →
  (∀ w2,Took base w w2→∃ v,(results fn tmps).run P w2=.ok v w2∧R (.returned v) w2)→LeavesInM (FR rd) 0 P fn tmps R (bs.map mark) .returning w
 | [],w,_,_,h=>h w (.refl _ _)
 | b::bs,w,hn,hb,h=>by
  obtain ⟨h1,h2⟩:=hb b (by simp)
  have hn':=List.nodup_cons.1 hn
  refine ⟨by simp,.inl ⟨b,_,rfl,run_takeDeferred h2,leaves_marks bs _ hn'.2 (fun c hc=>?_) fun w2 t=>h w2 (t.put h1 h2)⟩⟩
  obtain ⟨h3,h4⟩:=hb c (by simp [hc])
  exact ⟨h3,by rw [World.putObj_heap_other (k:=c) (r:=b) (fun h=>hn'.1 (by rw [← h];exact hc))];exact h4⟩
theorem leaves_panic {P:Program} {rd:Option Nat} {fn:Func} {tmps:Array Value} {R:Ending→World→Prop} {base:Nat} {ch:List PanicEntry}:∀ (bs:List Nat) (w:World),bs.Nodup→(∀ b∈bs,base≤b∧w.heap[b]? = some (.deferred (some []))) →
  (∀ w2,Took base w w2→R (.panicked ch) w2)→LeavesInM (FR rd) 0 P fn tmps R (bs.map mark) (.panicking ch) w
 | [],w,_,_,h=>h w (.refl _ _)
 | b::bs,w,hn,hb,h=>by
  obtain ⟨h1,h2⟩:=hb b (by simp)
  have hn':=List.nodup_cons.1 hn
  refine ⟨by simp,.inl ⟨b,_,rfl,run_takeDeferred h2,leaves_panic bs _ hn'.2 (fun c hc=>?_) fun w2 t=>h w2 (t.put h1 h2)⟩⟩
  obtain ⟨h3,h4⟩:=hb c (by simp [hc])
  exact ⟨h3,by rw [World.putObj_heap_other (k:=c) (r:=b) (fun h=>hn'.1 (by rw [← h];exact hc))];exact h4⟩
theorem Good.took {n B:Nat} {D:FC} {st:PS} {a:Act} {w w2:World} {S:Cells} {η:Eta} (g:Good n B D st a w S η) (t:Took D.base w w2):HInv B η st.hp S w2∧EnvM S w2 η st.env a.tmps ∧
  ∀ S0 w0,w0.heap.size≤D.base→Grow B S0 w0 S w→Grow B S0 w0 S w2:=by
 have hk:Keep S w S w2:=⟨fun _ _ h=>h,fun b o _=>(t.cell b o).1⟩
 have hin:InLt S w2:=fun b o h=>by rw [t.size];exact g.inv.inw b o h
 refine ⟨g.inv.chg (fun _=>False) (by rw [t.size];exact nR _) hin hk (.refl _) (fun _ _ _ h=>h) fun F _ _ _ =>
  ⟨⟨fun b o h=>.inl h,fun b o _ _=>t.cell b o,fun b r hst _ hr=>?_⟩,fun _ _ _=>False,fun _ _ h=>h.elim,fun _ _ _ h=>h.elim,fun _ _ h=>h.elim⟩,g.env.mono hk (.refl _),fun S0 w0 hs gr=>?_⟩
 ·rcases t.heap b with h | ⟨_,h1,_⟩
  ·rw [h];exact hr
  ·rw [hr] at h1;cases h1;cases hst
 ·refine ⟨gr.below.trans ⟨t.os,t.tape,t.output,by rw [t.size];exact nR _,fun k hk=>?_⟩,gr.keep.trans hk,hin,gr.new,⟨fun b r hr=>?_,fun b hb=>?_,fun hd=>by rw [t.drawn];exact gr.lk.drawn hd⟩⟩
  ·rcases t.heap k with h | ⟨h0,_⟩
   ·exact h
   ·have:=g.bb;omega
  ·obtain ⟨r',h1,h2⟩:=gr.lk.loops b r hr
   rcases t.heap b with h | ⟨_,h3,_⟩
   ·exact ⟨r',by rw [h];exact h1,h2⟩
   ·rw [h1] at h3;cases h3
  ·have h1:=gr.lk.defs b hb
   rcases t.heap b with h | ⟨h0,_⟩
   ·rw [h];exact h1
   ·have:=(aS.1 hb).1;omega
theorem body_okP {F:OpF} {n:Nat} (ih:PcOk F n) {P:Program} {Γ Γ':Tabs} (hΓ:TabOK P Γ) (hΓ':TabOK P Γ') {g:FuncId} {fn:Func} {code:Code} (hfn:lk Γ.fn g=some fn) (hb:fn.body=some code) {body:Ann} {γ:Type} {B:Nat} {S:Cells} {w:World} {η:Eta} {args:List RV} {vs:List Value}
  (hall:All2 (RM S w η) args vs) (hlen:args.length≤fn.ntmps) {hp:PH} {nx:Nat} (hi:HInv B η hp S w) (hl:∀ i,nx≤i→η i=none) {K':Ex→PS→Option γ} {ov:γ}
  (h:pc F n Γ' fn.ntmps body code γ ⟨(vI 0 args).map fun x=>(x.1,.r x.2),hp,nx⟩ K'=some ov) {R:Ending→World→Prop}
  (hK:∀ ex st',K' ex st'=some ov→((∀ i,ex≠.exit i)∧∀ l,ex≠.go l)∧((∃ T,ex=.pan T∧∀ S' w' η',HInv B η' st'.hp S' w'→(∀ i,st'.nx≤i→η' i=none)→Pre η η'→(∃ δ,st'.hp=δ++hp)→Grow B S w S' w'→R (.panicked [{ v:=yC T,recovered:=false }]) w') ∨
   ((∀ T,ex≠.pan T)∧∃ rs,rE Γ st' fn.results.toList=some rs∧∀ S' w' η' v,HInv B η' st'.hp S' w'→(∀ i,st'.nx≤i→η' i=none)→Pre η η'→(∃ δ,st'.hp=δ++hp)→Grow B S w S' w'→PM S' w' η' (dB rs) v→R (.returned v) w'))) :
  CallsIn (FR none) 0 P g vs.toArray w R:=by
 refine callsIn_of_wp_marks (hΓ.fn g fn hfn).1 hb (FR.fn none g) ?_
 have hvl:vs.length≤fn.ntmps:=by rw [← hall.length];exact hlen
 refine ih _ _ _ _ _ _ _ _ h P hΓ' none B ⟨w.heap.size,none,[],false⟩ _ w S η ⟨DefsOK.nil _ _ _ _,?_,?_,hi,hl,numL_noG,(fun l hl=>by cases hl),hi.base,nR _⟩ rfl (fun h=>by cases h) _ fun ex st' a' w' S' η' g' stp hk=>?_
 ·simp only [Array.size_append,Array.size_replicate,List.size_toArray];omega
 ·have:=numL_env (k:=0) (pre:=[]) (post:=List.replicate (fn.ntmps-vs.toArray.size) undef) hall rfl
  have e:vs.toArray++Array.replicate (fn.ntmps-vs.toArray.size) undef=([]++vs++List.replicate (fn.ntmps-vs.toArray.size) undef).toArray:=by simp
  show EnvM S w η _ (vs.toArray++Array.replicate (fn.ntmps-vs.toArray.size) undef)
  rw [e];exact this
 ·obtain ⟨hne,hend⟩:=hK ex st' hk
  rcases hend with ⟨T,rfl,hfin⟩ | ⟨hnp,rs,hrs,hfin⟩
  ·show LeavesInM (FR none) 0 P fn a'.tmps R a'.defers (.panicking [{ v:=yC T,recovered:=false }]) w'
   obtain ⟨bs,_,hd,hn,hbs⟩:=g'.defers
   rw [hd,List.append_nil]
   refine leaves_panic bs w' hn hbs fun w2 t=>?_
   obtain ⟨i2,e2,gr2⟩:=g'.took t
   exact hfin S' w2 η' i2 g'.len stp.pre stp.hp (gr2 S w (nR _) stp.grow)
  have hpost:LeavesInM (FR none) 0 P fn a'.tmps R a'.defers .returning w':=by
   obtain ⟨bs,_,hd,hn,hbs⟩:=g'.defers
   rw [hd,List.append_nil]
   refine leaves_marks bs w' hn hbs fun w2 t=>?_
   obtain ⟨i2,e2,gr2⟩:=g'.took t
   obtain ⟨us,hv1,hv2⟩:=bF (a:=a') hΓ e2 i2 hrs
   obtain ⟨v,hr1,hr2⟩:=results_ok hv1 hv2
   exact ⟨v,hr1,hfin S' w2 η' v i2 g'.len stp.pre stp.hp (gr2 S w (nR _) stp.grow) hr2⟩
  cases ex with
  | norm=>exact hpost
  | ret=>exact hpost
  | exit i=>exact absurd rfl (hne.1 i)
  | go l=>exact absurd rfl (hne.2 l)
  | pan T=>exact absurd rfl (hnp T)
theorem body_ok {F:OpF} {n:Nat} (ih:PcOk F n) {P:Program} {Γ Γ':Tabs} (hΓ:TabOK P Γ) (hΓ':TabOK P Γ') {g:FuncId} {fn:Func} {code:Code} (hfn:lk Γ.fn g=some fn) (hb:fn.body=some code) {body:Ann} {γ:Type} {B:Nat} {S:Cells} {w:World} {η:Eta} {args:List RV} {vs:List Value}
  (hall:All2 (RM S w η) args vs) (hlen:args.length≤fn.ntmps) {hp:PH} {nx:Nat} (hi:HInv B η hp S w) (hl:∀ i,nx≤i→η i=none) {K':Ex→PS→Option γ} {ov:γ}
  (h:pc F n Γ' fn.ntmps body code γ ⟨(vI 0 args).map fun x=>(x.1,.r x.2),hp,nx⟩ K'=some ov) {R:Ending→World→Prop}
  (hK:∀ ex st',K' ex st'=some ov→((∀ i,ex≠.exit i)∧(∀ l,ex≠.go l)∧∀ T,ex≠.pan T)∧∃ rs,rE Γ st' fn.results.toList=some rs∧∀ S' w' η' v,HInv B η' st'.hp S' w'→(∀ i,st'.nx≤i→η' i=none)→Pre η η'→(∃ δ,st'.hp=δ++hp)→Grow B S w S' w'→PM S' w' η' (dB rs) v→R (.returned v) w') :
  CallsIn (FR none) 0 P g vs.toArray w R :=
 body_okP ih hΓ hΓ' hfn hb hall hlen hi hl h fun ex st' hk=>⟨⟨(hK ex st' hk).1.1,(hK ex st' hk).1.2.1⟩,.inr ⟨(hK ex st' hk).1.2.2,(hK ex st' hk).2⟩⟩

variable {F:OpF}
theorem PcOk.zero:PcOk F 0:=fun Γ sz an c β st K r h=>by simp [pc] at h
theorem PrOk.zero:PrOk F 0:=fun Γ sz ops todo fl an β st K K2 r h=>by simp [pr] at h

theorem loop_ok {n:Nat} (ih:PcOk F n) {Γ:Tabs} {sz:Nat} {x:Ann} {c:Code} {k:Skel} {outs:Outs} {st:PS} {P:Program} (hΓ:TabOK P Γ) {rd:Option Nat} {B:Nat} {D:FC} {a0:Act} {w0:World} {S0:Cells} {η0:Eta} (g0:Good sz B D st a0 w0 S0 η0) (hrd:D.rd=rd) (hnm:NmOK D Γ)
  {Q:Exit→Act→World→Prop} {ov:OutT outs} (hq:∀ ex st' a' w' S' η',Good sz B D st' a' w' S' η'→Stp B st S0 w0 η0 st' S' w' η'→inj st ex st' outs=some ov→Q ex.out a' w') :
  ∀ (m:Nat) (s:Tup k.tys) (st2:PS) (a:Act) (w:World) (S:Cells) (η:Eta),Good sz B D st2 a w S η→Stp B st S0 w0 η0 st2 S w η→k.encT st st2=some s →
   yD (fun s=>(match k.decT st s with
     | some st1=>pc F n Γ sz x c (Tup k.tys⊕OutT outs) st1 fun ex st2=>match ex with
      | .norm=>match k.encT st st2 with
       | some s'=>some (.inl s')
       | none=>none
      | ex=>match inj st ex st2 outs with
       | some o=>some (.inr o)
       | none=>none
     | none=>none:Option (Tup k.tys⊕OutT outs))) m s=some ov→Code.roundsIn (FR rd) 0 P c Q m a w:=by
 intro m
 induction m with
 | zero=>intro s st2 a w S η _ _ _ h;cases h
 | succ m ihm =>
  intro s st2 a w S η g stp he hm
  unfold yD at hm
  obtain ⟨t,ht,hm⟩:=Option.bind_eq_some_iff.1 hm
  split at ht
  ·rename_i st1 hd
   obtain ⟨S1,η1,g1,stp1⟩:=Skel.good (fF he) hd g0 g stp
   show c.wpIn (FR rd) 0 P (Exit.then (Code.roundsIn (FR rd) 0 P c Q m) Q) a w
   refine ih _ _ _ _ _ _ _ _ ht P hΓ rd B D a w S1 η1 g1 hrd hnm _ fun ex st3 a3 w3 S3 η3 g3 stp3 hK=>?_
   cases ex with
   | norm =>
    simp only at hK
    split at hK
    ·rename_i s' hs'
     cases hK
     exact ihm s' st3 a3 w3 S3 η3 g3 (stp1.trans stp3) hs' hm
    ·cases hK
   | ret =>
    simp only at hK
    split at hK
    ·rename_i o ho
     cases hK
     cases hm
     exact hq .ret st3 a3 w3 S3 η3 g3 (stp1.trans stp3) ho
    ·cases hK
   | exit i =>
    simp only at hK
    split at hK
    ·rename_i o ho
     cases hK
     cases hm
     exact hq (.exit i) st3 a3 w3 S3 η3 g3 (stp1.trans stp3) ho
    ·cases hK
   | go i =>
    simp only at hK
    split at hK
    ·rename_i o ho
     cases hK
     cases hm
     exact hq (.go i) st3 a3 w3 S3 η3 g3 (stp1.trans stp3) ho
    ·cases hK
   | pan i =>
    simp only at hK
    split at hK
    ·rename_i o ho
     cases hK
     cases hm
     exact hq (.pan i) st3 a3 w3 S3 η3 g3 (stp1.trans stp3) ho
    ·cases hK
  ·cases ht

def Exit.back (l:Nat) (J:Act→World→Prop) (Q:Exit→Act→World→Prop):Exit→Act→World→Prop
 | .goto l',a,w=>l'=l∧J a w
 | e,a,w=>Q e a w
def passIn (F:Fence) (n:Nat) (P:Program) (rest:Code) (l:Nat) (Q:Exit→Act→World→Prop):Nat→Act→World→Prop
 | 0,_,_=>False
 | m+1,a,w=>rest.wpIn F n P (Exit.back l (passIn F n P rest l Q m) Q) a w
theorem eD {P:Program} {b:Frame} {a:Act} {k:List Item} {cs:List Frame} {w:World} {c:Code}:step P (lone (b.atR a (.code (.scope c)::k)) cs w)=.next (lone (b.atR a (.code c::.inScope c::k)) cs w) :=
 step_lone_go (by simp [stepG,stepG.exec,Frame.atR])
theorem stepR_inScope {P:Program} {b:Frame} {a:Act} {k:List Item} {cs:List Frame} {w:World} {c:Code}:step P (lone (b.atR a (.inScope c::k)) cs w)=.next (lone (b.atR a k) cs w) :=
 step_lone_go (by simp [stepG,stepG.exec,Frame.atR])
theorem zG {F:Fence} {n:Nat} {P:Program} {Q:Exit→Act→World→Prop} {a:Act} {w:World} {c rest:Code} {l:Nat} (hf:findLabel c l=some rest) (m:Nat)
  (h:c.wpIn F n P (Exit.back l (passIn F n P rest l Q m) Q) a w):(Code.scope c).wpIn F n P Q a w:=by
 intro b k cs hro hb hr
 have h0:(lone (b.atR a (.code (.scope c)::k)) cs w).fenced P F:=fenced_calm hb hr rfl
 have hg:gotoIn l (.inScope c::k)=some (.code rest::.inScope c::k):=by simp [gotoIn,hf]
 have hx:∀ id,exitTo id (.inScope c::k)=exitTo id k:=fun id=>by simp [exitTo]
 have key:∀ m a w,passIn F n P rest l Q m a w →
   ∃ e a' w',Q e a' w'∧ArrivesIn (Machine.fenced P F) P (lone (b.atR a (.code rest::.inScope c::k)) cs w) b k cs e a' w':=by
  intro m
  induction m with
  | zero=>intro a w h;exact h.elim
  | succ m ih =>
   intro a w h
   obtain ⟨e,a₁,w₁,hq,harr⟩:=h b (.inScope c::k) cs hro hb hr
   cases e with
   | normal=>exact ⟨.normal,a₁,w₁,hq,StepsIn.trans harr (.one (fenced_calm hb hr rfl) stepR_inScope)⟩
   | exit id=>exact ⟨.exit id,a₁,w₁,hq,fun k' hk=>harr.1 k' (by rw [hx];exact hk),fun hr' hk=>harr.2 hr' (by rw [hx];exact hk)⟩
   | goto l' =>
    obtain ⟨rfl,hj⟩:=hq
    obtain ⟨e₂,a₂,w₂,hq₂,harr₂⟩:=ih a₁ w₁ hj
    exact ⟨e₂,a₂,w₂,hq₂,.of_steps (harr.1 _ hg) harr₂⟩
   | ret=>exact ⟨_,a₁,w₁,hq,harr⟩
   | panic ch=>exact ⟨_,a₁,w₁,hq,harr⟩
   | outgrown=>exact ⟨_,a₁,w₁,hq,harr⟩
 obtain ⟨e,a₁,w₁,hq,harr⟩:=h b (.inScope c::k) cs hro hb hr
 cases e with
 | normal=>exact ⟨.normal,a₁,w₁,hq,.head h0 eD (StepsIn.trans harr (.one (fenced_calm hb hr rfl) stepR_inScope))⟩
 | exit id=>exact ⟨.exit id,a₁,w₁,hq,fun k' hk=>.head h0 eD (harr.1 k' (by rw [hx];exact hk)),
   fun hr' hk=>let ⟨k₁,h1,h2⟩:=harr.2 hr' (by rw [hx];exact hk);⟨k₁,h1,.head h0 eD h2⟩⟩
 | goto l' =>
  obtain ⟨rfl,hj⟩:=hq
  obtain ⟨e₂,a₂,w₂,hq₂,harr₂⟩:=key m a₁ w₁ hj
  exact ⟨e₂,a₂,w₂,hq₂,.of_steps (.head h0 eD (harr.1 _ hg)) harr₂⟩
 | ret=>exact ⟨_,a₁,w₁,hq,.of_steps (.one h0 eD) harr⟩
 | panic ch=>exact ⟨_,a₁,w₁,hq,.of_steps (.one h0 eD) harr⟩
 | outgrown=>exact ⟨_,a₁,w₁,hq,.of_steps (.one h0 eD) harr⟩

theorem scope_ok {n:Nat} (ih:PcOk F n) {Γ:Tabs} {sz:Nat} {x:Ann} {c:Code} {l:Nat} {k:Skel} {outs:Outs} {st:PS} {P:Program} (hΓ:TabOK P Γ) {rd:Option Nat} {B:Nat} {D:FC} {a0:Act} {w0:World} {S0:Cells} {η0:Eta} (g0:Good sz B D st a0 w0 S0 η0) (hrd:D.rd=rd) (hnm:NmOK D Γ)
  {Q:Exit→Act→World→Prop} {ov:OutT outs} {J:Act→World→Prop} (hq:∀ ex st' a' w' S' η',Good sz B D st' a' w' S' η'→Stp B st S0 w0 η0 st' S' w' η'→inj st ex st' outs=some ov→Q ex.out a' w') {r:Tup k.tys⊕OutT outs}
  (ho:∀ o,r=.inr o→o=ov) (hj:∀ s st' a' w' S' η',r=.inl s→Good sz B D st' a' w' S' η'→Stp B st S0 w0 η0 st' S' w' η'→k.encT st st'=some s→J a' w')
  {st1:PS} {a:Act} {w:World} {S:Cells} {η:Eta} (g1:Good sz B D st1 a w S η) (stp1:Stp B st S0 w0 η0 st1 S w η)
  (h:pc F n Γ sz x c (Tup k.tys⊕OutT outs) st1 (fun ex st2=>match ex with
      | .go l'=>match Nat.beq l' l with
       | true=>match k.encT st st2 with
        | some s'=>some (.inl s')
        | none=>none
       | false=>none
      | ex=>match inj st ex st2 outs with
       | some o=>some (.inr o)
       | none=>none)=some r):c.wpIn (FR rd) 0 P (Exit.back l J Q) a w:=by
 refine ih _ _ _ _ _ _ _ _ h P hΓ rd B D a w S η g1 hrd hnm _ fun ex st3 a3 w3 S3 η3 g3 stp3 hK=>?_
 cases ex with
 | norm =>
  simp only at hK
  split at hK
  ·rename_i o hio
   cases hK
   cases ho _ rfl
   exact hq .norm st3 a3 w3 S3 η3 g3 (stp1.trans stp3) hio
  ·cases hK
 | ret =>
  simp only at hK
  split at hK
  ·rename_i o hio
   cases hK
   cases ho _ rfl
   exact hq .ret st3 a3 w3 S3 η3 g3 (stp1.trans stp3) hio
  ·cases hK
 | exit i =>
  simp only at hK
  split at hK
  ·rename_i o hio
   cases hK
   cases ho _ rfl
   exact hq (.exit i) st3 a3 w3 S3 η3 g3 (stp1.trans stp3) hio
  ·cases hK
 | go i =>
  simp only at hK
  split at hK
  ·rename_i hb
   split at hK
   ·rename_i s' hs'
    cases hK
    exact ⟨nB hb,hj s' st3 a3 w3 S3 η3 rfl g3 (stp1.trans stp3) hs'⟩
   ·cases hK
  ·cases hK
 | pan i =>
  simp only at hK
  split at hK
  ·rename_i o hio
   cases hK
   cases ho _ rfl
   exact hq (.pan i) st3 a3 w3 S3 η3 g3 (stp1.trans stp3) hio
  ·cases hK

theorem Grow.allocd {S:Cells} {w:World} (hi:InLt S w) (o:Obj):Grow w.heap.size S w S (w.alloc o) :=
 ⟨(Below.refl _ _).alloc (nR _) _,⟨fun _ _ h=>h,fun b o h=>World.cell?_alloc_lt _ _ _ (hi b o h)⟩,fun b o h=>by have:=hi b o h;simp;omega,fun _ _ h=>.inl h,LK.alloc _ _⟩
theorem putLoop_cell {w:World} {l:Nat} {r r':Loop} (h:w.heap[l]? = some (.loop r)) (b o:Nat):(w.putObj l (.loop r')).cell? ⟨b,o,none⟩=w.cell? ⟨b,o,none⟩∧(w.putObj l (.loop r')).frozen? ⟨b,o,none⟩=w.frozen? ⟨b,o,none⟩:=by
 by_cases hb:b=l
 ·subst hb
  have:=World.putObj_heap_same (w:=w) (o:=.loop r') (aS.1 h).1
  simp [World.cell?,World.frozen?,h,this]
 ·have:=World.putObj_heap_other (w:=w) (r:=l) (o:=.loop r') hb
  exact ⟨World.cell?_of_block (w:=w) (a:=⟨b,o,none⟩) this,World.frozen?_of_block (w:=w) (a:=⟨b,o,none⟩) this⟩
theorem Grow.putLoop {B:Nat} {S:Cells} {w:World} {l:Nat} {r:Loop} (hi:InLt S w) (hB:B≤l) (h:w.heap[l]? = some (.loop r)) (st:LoopState) (pd:Option Code):Grow B S w S (w.putObj l (.loop { r with state:=st,pending:=pd })):=by
 have hlt:=(aS.1 h).1
 refine ⟨⟨rfl,rfl,rfl,by simp,fun k hk=>World.putObj_heap_other (by omega)⟩,⟨fun _ _ h=>h,fun b o _=>(putLoop_cell h b o).1⟩,fun b o h=>by simpa using hi b o h,fun _ _ h=>.inl h,⟨fun b r2 hr=>?_,fun b hb=>?_,fun _=>nR _⟩⟩
 ·by_cases hbl:b=l
  ·subst hbl
   rw [h] at hr
   cases hr
   exact ⟨_,World.putObj_heap_same hlt,rfl,rfl,rfl,rfl,rfl⟩
  ·exact ⟨r2,by rw [World.putObj_heap_other hbl];exact hr,rfl,rfl,rfl,rfl,rfl⟩
 ·by_cases hbl:b=l
  ·subst hbl;rw [h] at hb;cases hb
  ·rw [World.putObj_heap_other hbl];exact hb
theorem HInv.putLoop {B id:Nat} {η:Eta} {H:PH} {S:Cells} {w:World} {l:Nat} {r:Loop} {L:LoopD} {s:LS} {po':PO} (hi:HInv B η H S w) (hl:lk H id=some (.lp L s)) (hb:η id=some (.func (.yield l) #[] #[])) (h:w.heap[l]? = some (.loop r)) (st:LoopState) (pd:Option Code)
  (hp:po'=.gone∨∃ s',po'=.lp L s'∧st=s'.state∧(∀ j,s'=.done j→pd=some j.code)∧(s'=.ready→pd=none)):HInv B η ((id,po')::H) S (w.putObj l (.loop { r with state:=st,pending:=pd }))∧B≤l:=by
 obtain ⟨F0,hF0,b0,_,e0,hb0,_⟩:=hi.read hl
 rw [hb] at e0
 cases e0
 have hBl:B≤l:=(hF0 l 0 ((hb0 l 0).2 rfl)).1
 have hlt:=(aS.1 h).1
 have gr:=Grow.putLoop hi.inw hBl h st pd
 refine ⟨hi.set hl (by simp) gr.lt gr.keep fun F1 hF1 h1=>?_,hBl⟩
 obtain ⟨b,r1,e1,h2,h3,h4,h5,h6,h7,h8,h9⟩:=h1
 rw [hb] at e1
 cases e1
 rw [h] at h3
 cases h3
 refine ⟨fun _ _ h=>.inl h,fun b o _ _=>putLoop_cell h b o,fun b _ hn=>World.putObj_heap_other fun hbl=>hn 0 ((h2 b 0).2 hbl),?_⟩
 rcases hp with rfl | ⟨s',rfl,x1,x2,x3⟩
 ·exact ⟨fun _ _=>False,fun _ _ h=>h,fun _ _ h=>h.elim⟩
 ·exact ⟨F1,⟨l,_,hb,h2,World.putObj_heap_same hlt,h4,h5.mono gr.keep (.refl _),h6,h7,h8,x1,x2,x3⟩,fun b o h=>⟨.inl h,by simpa using (hF1 b o h).2.1,(hF1 b o h).2.2⟩⟩
theorem dropG_env {S:Cells} {w:World} {η:Eta} {tmps:Array Value}:∀ {e:Ev},EnvM S w η e tmps→EnvM S w η (dropG e) tmps:=by
 have key:∀ {e:Ev} {t:Nat} {pv:PV},lk (dropG e) t=some pv→pv=.any∨lk e t=some pv:=by
  intro e
  induction e with
  | nil=>intro t pv h;cases h
  | cons x r ih =>
   obtain ⟨i,v⟩:=x
   intro t pv h
   unfold dropG at h
   unfold lk
   split at h
   ·unfold lk at h
    cases hb:Nat.beq i t<;>rw [hb] at h
    ·exact ih h
    ·cases h;exact .inl rfl
   ·unfold lk at h
    cases hb:Nat.beq i t<;>rw [hb] at h
    ·exact ih h
    ·exact .inr h
 intro e he t pv ht
 rcases key ht with rfl | h
 ·trivial
 ·exact he t pv h
theorem range_ok {F:OpF} {n:Nat} (ih:PcOk F n) {P:Program} {Γ:Tabs} (hΓ:TabOK P Γ) {own:List Nat} {x:Ann} {f:Operand} {ps:Array Tmp} {assign body:Code} {β:Type} {st:PS} {K:Ex→PS→Option β} {r:β} {sz:Nat} {g:FuncId} {fs cs:List FV} {fn:Func} {code:Code}
  (hnr:zC Γ.own 3000000=false) (hev:ev st.env [] f=some (.r (.c (.f g fs cs)))) (hfn:lk Γ.fn g=some fn) (hb:fn.body=some code) (hlen:fs.length+1+cs.length≤fn.ntmps)
  (h:pc F n { Γ with own:=own } fn.ntmps x code β ⟨(vI 0 (fs.map cB++[.c (.y st.nx)]++cs.map cB)).map fun x=>(x.1,.r x.2),(st.nx,.lp ⟨sz,dropG st.env,ps,assign,body⟩ .ready)::st.hp,st.nx+1⟩ (fun ex st'=>match ex with
      | .exit _=>none
      | .go _=>none
      | .pan _=>none
      | _=>match rE Γ st' fn.results.toList,lk st'.hp st.nx with
       | some _,some (.lp _ .ready)=>K .norm ⟨st.env,(st.nx,.gone)::st'.hp,st'.nx⟩
       | some _,some (.lp _ (.done .ret))=>K .ret ⟨st.env,(st.nx,.gone)::st'.hp,st'.nx⟩
       | some _,some (.lp _ (.done (.exit i)))=>K (.exit i) ⟨st.env,(st.nx,.gone)::st'.hp,st'.nx⟩
       | _,_=>none)=some r)
  {rd:Option Nat} {B:Nat} {D:FC} {a:Act} {w:World} {S:Cells} {η:Eta} (gd:Good sz B D st a w S η) (hrd:D.rd=rd) (hnm:NmOK D Γ) {Q:Exit→Act→World→Prop}
  (hQ:∀ ex st' a' w' S' η',Good sz B D st' a' w' S' η'→Stp B st S w η st' S' w' η'→K ex st'=some r→Q ex.out a' w'):(Code.rangeFunc f ps assign body).wpIn (FR rd) 0 P Q a w:=by
 have hΓ':TabOK P { Γ with own:=own }:=⟨hΓ.ty,hΓ.fn,hΓ.sp,hΓ.en,hΓ.mixed,hΓ.so,hΓ.eqs,hΓ.so1,hΓ.mps,hΓ.ow,hΓ.bt,hΓ.ex,hΓ.pp⟩
 obtain ⟨vf,vc,he,hvf,hvc⟩:=ev_env gd.wf hev gd.env
 refine wpIn_rangeFunc fun fn0 _=>?_
 obtain ⟨mk,W0,rec,hent,hg0,hdef,e1,e2,e3,e4,e5,e6⟩:∃ (mk:List Deferred) (W0:World) (rec:Loop),(Instr.enterLoop fn0 a.tmps ps assign body (FR rd).round).run P w=.ok (W0.heap.size,mk) (W0.alloc (.loop rec))∧Grow w.heap.size S w S W0∧DefsOK D.nm D.base D.tl W0 (mk++a.defers) ∧
   rec.tmps=a.tmps∧rec.params=ps∧rec.assign=assign∧rec.body=body∧rec.state=.ready∧rec.pending=none:=by
  cases hr:rd with
  | none =>
   have hg:=Grow.allocd gd.inv.inw (.deferred (some []))
   refine ⟨[mark w.heap.size],w.alloc (.deferred (some [])),{ state:=.ready,pending:=none,fn:=fn0,tmps:=a.tmps,params:=ps,assign,body,defers:=w.heap.size },(by rw [World.size_alloc];exact run_enterLoop_outer _ _ _ _ _),hg,?_,rfl,rfl,rfl,rfl,rfl,rfl⟩
   obtain ⟨bs,h0,h1,h2,h3⟩:=gd.defers
   have hbn:∀ b∈bs,b<w.heap.size:=fun b hb=>(aS.1 (h3 b hb).2).1
   refine ⟨w.heap.size::bs,(fun h=>by have:=hnm h;rw [hnr] at this;cases this),by rw [h1];rfl,List.nodup_cons.2 ⟨fun hm=>by have:=hbn _ hm;omega,h2⟩,fun b hb=>?_⟩
   rcases List.mem_cons.1 hb with rfl | hb
   ·exact ⟨gd.ba,World.alloc_heap_new _ _⟩
   ·exact ⟨(h3 b hb).1,hg.lk.defs b (h3 b hb).2⟩
  | some l0 =>
   obtain ⟨r0,hr0⟩:=gd.rdok l0 (hrd.trans hr)
   refine ⟨[],w,{ state:=.ready,pending:=none,fn:=fn0,tmps:=a.tmps,params:=ps,assign,body,defers:=r0.defers },?_,Grow.refl gd.inv.inw,gd.defers,rfl,rfl,rfl,rfl,rfl,rfl⟩
   show (Instr.enterLoop fn0 a.tmps ps assign body (some l0)).run P w=_
   unfold Instr.enterLoop
   simp [Sem.run_bind,run_getLoop hr0,Result.andThen,run_newObj_alloc,Sem.run_pure]
 have hk0:η st.nx=none:=gd.len _ (nR _)
 have hi0:=gd.inv.grow hg0
 have hga:=Grow.allocd hg0.lt (.loop rec)
 have gr1:Grow B S w S (W0.alloc (.loop rec)):=(hg0.mono gd.inv.base).trans (hga.mono (Nat.le_trans gd.inv.base hg0.below.size))
 have hnew:(W0.alloc (.loop rec)).heap[W0.heap.size]? = some (.loop rec):=World.alloc_heap_new _ _
 have hp1:Pre η (η.add st.nx (.func (.yield W0.heap.size) #[] #[])):=.push hk0 _
 have hi1:HInv B (η.add st.nx (.func (.yield W0.heap.size) #[] #[])) ((st.nx,.lp ⟨sz,dropG st.env,ps,assign,body⟩ .ready)::st.hp) S (W0.alloc (.loop rec)) :=
  hi0.new hk0 (by simp) gr1.lt hga.keep (fun _ _ h=>.inl h) (fun b hb=>Below.heap_alloc _ _ _ hb) (fun b o=>b=W0.heap.size)
   ⟨W0.heap.size,rec,Eta.add_same _ _ _,fun _ _=>Iff.rfl,hnew,by rw [e1];exact gd.size,by rw [e1];exact EnvM.mono gr1.keep hp1 (dropG_env gd.env),e2,e3,e4,e5,(fun j hj=>by cases hj),fun _=>e6⟩
   fun b o h=>⟨by omega,by simp;omega,fun hs=>by have:=hg0.lt b o hs;omega⟩
 have hlen1:∀ i,st.nx+1≤i→(η.add st.nx (.func (.yield W0.heap.size) #[] #[])) i=none:=fun i hi=>by
  rw [Eta.add_ne _ _ (by omega)];exact gd.len i (by omega)
 have hy:RM S (W0.alloc (.loop rec)) (η.add st.nx (.func (.yield W0.heap.size) #[] #[])) (.c (.y st.nx)) (.func (.yield W0.heap.size) #[] #[]):=by
  change ∃ b,_∧_
  exact ⟨W0.heap.size,Eta.add_same _ _ _,rfl⟩
 have hall:All2 (RM S (W0.alloc (.loop rec)) (η.add st.nx (.func (.yield W0.heap.size) #[] #[]))) (fs.map cB++[.c (.y st.nx)]++cs.map cB) (vf++[Value.func (.yield W0.heap.size) #[] #[]]++vc) :=
  (((tE (hvf.mono fun _ _=>FM.mono gr1.keep hp1)).append (.cons hy .nil))).append (tE (hvc.mono fun _ _=>FM.mono gr1.keep hp1))
 refine ⟨W0.heap.size,mk,W0.alloc (.loop rec),{ target:=.fn (Fn.func g) vc.toArray,args:=vf.toArray++#[Value.func (.yield W0.heap.size) #[] #[]] },W0.alloc (.loop rec),g,(vf++[Value.func (.yield W0.heap.size) #[] #[]]++vc).toArray,W0.alloc (.loop rec),hent,?_,?_,?_,(fun h=>(FR.nodepth rd h).elim),?_⟩
 ·simp [resolve,he,Deferred.ofValue]
  rfl
 ·intro f' _;exact FR.fn rd f'
 ·simp [invoke,(hΓ.fn g fn hfn).2]
 ·show CallsIn (FR none) 0 P g _ (W0.alloc (.loop rec)) _
  refine body_ok ih hΓ hΓ' hfn hb hall (by simp;omega) hi1 hlen1 h fun ex st' hk=>?_
  split at hk
  ·cases hk
  ·cases hk
  ·cases hk
  ·rename_i hne1 hne2 hne3
   refine ⟨⟨fun i hi=>hne1 i hi,fun l hl=>hne2 l hl,fun T hT=>hne3 T hT⟩,?_⟩
   have fin:∀ rs L s,rE Γ st' fn.results.toList=some rs→lk st'.hp st.nx=some (.lp L s)→s≠.busy→(∀ (Q':Exit) (S':Cells) (w':World) (η':Eta) (a':Act) (pd:Option Code),Good sz B D ⟨st.env,(st.nx,.gone)::st'.hp,st'.nx⟩ a' w' S' η'→Stp B st S w η ⟨st.env,(st.nx,.gone)::st'.hp,st'.nx⟩ S' w' η' →
     (∀ j,s=.done j→pd=some j.code)→(s=.ready→pd=none)→(match pd with | none=>Q .normal a' w' | some c=>c.wpIn (FR rd) 0 P Q a' w')) →
     ∃ rs,rE Γ st' fn.results.toList=some rs∧∀ S' w' η' v,HInv B η' st'.hp S' w'→(∀ i,st'.nx≤i→η' i=none)→Pre (η.add st.nx (.func (.yield W0.heap.size) #[] #[])) η'→(∃ δ,st'.hp=δ++((st.nx,.lp ⟨sz,dropG st.env,ps,assign,body⟩ .ready)::st.hp))→Grow B S (W0.alloc (.loop rec)) S' w'→PM S' w' η' (dB rs) v →
      rangePost (FR rd) 0 P W0.heap.size Q { a with defers:=mk++a.defers } (.returned v) w':=by
    intro rs L s hrs hlk hnb hfin
    refine ⟨rs,hrs,fun S' w' η' v i' l' hp' hh gr' _=>?_⟩
    obtain ⟨F1,_,b,r1,x1,_,x3,_,_,_,_,_,x9,x10,x11⟩:=i'.read hlk
    rw [hp'.get (Eta.add_same _ _ _)] at x1
    cases x1
    have hst:r1.state≠.busy:=by rw [x9];cases s<;>simp [LS.state] at hnb ⊢
    obtain ⟨i2,hBl⟩:=i'.putLoop hlk (hp'.get (Eta.add_same _ _ _)) x3 .exhausted r1.pending (.inl rfl)
    have gr2:=Grow.putLoop i'.inw hBl x3 .exhausted r1.pending
    have gr3:=(gr1.trans gr').trans gr2
    have hp2:Pre η η':=hp1.trans hp'
    refine ⟨r1.pending,_,run_endLoop x3 hst,?_⟩
    refine hfin .normal S' _ η' { a with defers:=mk++a.defers } r1.pending ⟨?_,gd.size,EnvM.mono gr3.keep hp2 gd.env,i2,l',gd.wf,gd.rdok.mono gr3.lk,gd.bb,Nat.le_trans gd.ba gr3.below.size⟩ ⟨⟨[],rfl⟩,?_,hp2,gr3⟩ x10 x11
    ·exact hdef.mono ((hga.lk.trans gr'.lk).trans gr2.lk)
    ·obtain ⟨δ,hδ⟩:=hh
     exact ⟨(st.nx,.gone)::(δ++[(st.nx,.lp ⟨sz,dropG st.env,ps,assign,body⟩ .ready)]),by simp [hδ]⟩
   split at hk
   ·rename_i rs L hrs hlk
    refine fin rs L .ready hrs hlk (by simp) fun _ S' w' η' a' pd g' stp h1 h2=>?_
    rw [h2 rfl]
    exact hQ .norm _ a' w' S' η' g' stp hk
   ·rename_i rs L hrs hlk
    refine fin rs L (.done .ret) hrs hlk (by simp) fun _ S' w' η' a' pd g' stp h1 h2=>?_
    rw [h1 .ret rfl]
    exact wpIn_ret (hQ .ret _ a' w' S' η' g' stp hk)
   ·rename_i rs L i hrs hlk
    refine fin rs L (.done (.exit i)) hrs hlk (by simp) fun _ S' w' η' a' pd g' stp h1 h2=>?_
    rw [h1 (.exit i) rfl]
    exact wpIn_exit (hQ (.exit i) _ a' w' S' η' g' stp hk)
   ·cases hk
theorem bothM_some {α:Type} {a b:Option α} {r:α} (h:bothM a b=some r):a=some r∧b=some r:=by
 unfold bothM at h
 split at h
 ·rename_i e _;exact ⟨by rw [e,h],h⟩
 ·cases h
theorem nilM_some {α β:Type} {xs:List α} {a b:Option β} {r:β} (h:nilM xs a b=some r):b=some r:=by
 cases xs with
 | nil=>exact (bothM_some h).2
 | cons x xs=>exact h
def LoopOk (F:OpF) (n:Nat):Prop:=∀ (Γ:Tabs) (sz:Nat) (an:Ann) (c:Code) (β:Type) (st:PS) (K:Ex→PS→Option β) (r:β),an.isSeq=true→pc F n Γ sz an (.loop c) β st K=some r →
 ∀ P,TabOK P Γ→∀ rd B (D:FC) a w S η,Good sz B D st a w S η→D.rd=rd→NmOK D Γ→∀ Q:Exit→Act→World→Prop,
  (∀ ex st' a' w' S' η',Good sz B D st' a' w' S' η'→Stp B st S w η st' S' w' η'→K ex st'=some r→Q ex.out a' w')→Code.roundsIn (FR rd) 0 P c Q an.depth a w
theorem LoopOk.zero:LoopOk F 0:=by
 intro Γ sz an c β st K r _ h
 unfold pc at h
 cases h
theorem LoopOk.succ {n:Nat} (ih:PcOk F n) (ihl:LoopOk F n):LoopOk F (n+1):=by
 intro Γ sz an c β st K r hs h P hΓ rd B D a w S η g hrd hnm Q hQ
 cases an with
 | seq x y =>
  unfold pc at h
  simp only at h
  show c.wpIn (FR rd) 0 P (Exit.then (Code.roundsIn (FR rd) 0 P c Q y.depth) Q) a w
  refine ih _ _ _ _ _ _ _ _ h P hΓ rd B D a w S η g hrd hnm _ fun ex st1 a1 w1 S1 η1 g1 stp1 hK=>?_
  cases ex with
  | norm =>
   simp only at hK
   split at hK
   ·rename_i hy
    exact ihl _ _ _ _ _ _ _ _ hy hK P hΓ rd B D a1 w1 S1 η1 g1 hrd hnm Q fun ex st2 a2 w2 S2 η2 g2 stp2 hK2=>hQ ex st2 a2 w2 S2 η2 g2 (stp1.trans stp2) hK2
   ·cases hK
  | ret=>exact hQ .ret st1 a1 w1 S1 η1 g1 stp1 hK
  | exit i=>exact hQ (.exit i) st1 a1 w1 S1 η1 g1 stp1 hK
  | go l=>exact hQ (.go l) st1 a1 w1 S1 η1 g1 stp1 hK
  | pan T=>exact hQ (.pan T) st1 a1 w1 S1 η1 g1 stp1 hK
 | _=>cases hs
theorem PcOk.succ {n:Nat} (ih:PcOk F n) (ihr:PrOk F n) (ihl:LoopOk F n):PcOk F (n+1):=by
 intro Γ sz an c β st K r h P hΓ rd B D a w S η g hrd hnm Q hQ
 have nrm:∀ ex,K ex st=some r→Q ex.out a w:=fun ex hK=>hQ ex st a w S η g (.refl g.inv.inw) hK
 have hreg:∀ {id:Nat} {ops:Array Oper} {fl:Option (List Fl)} {calls:Ann},pr F n Γ sz ops.toList ops.toList fl calls β st (K .norm) (fun T st=>K (.pan T) st)=some r→(Code.region id ops false).wpIn (FR rd) 0 P Q a w:=by
  intro id ops fl calls h
  obtain ⟨fl',_,hc⟩:=ihr _ _ _ _ _ _ _ _ _ _ _ h P hΓ rd B g.wf
  refine wpIn_region ?_
  have ha:ops.toList.toArray=ops:=by simp
  rw [ha] at hc
  refine iJ (pre:=[]) (L:=ops.toList) (by simp) (by simp [List.range_eq_range']) hc g.ok (fun E hs a' w' S' η' hk ok=>?_) fun T E hs a' w' S' η' hk ok=>?_
  ·obtain ⟨st',g',stp,hK⟩:=hk.good g ok
   exact hQ .norm st' a' w' S' η' g' stp hK
  ·obtain ⟨st',g',stp,hK⟩:=hk.good g ok
   exact hQ (.pan T) st' a' w' S' η' g' stp hK
 have hcond:∀ {x y:Ann} {t:Operand} {p q:Code},(match ev st.env [] t with
   | some (.r (.c (.d .bool v)))=>cond v (pc F n Γ sz x p β st K) (pc F n Γ sz y q β st K)
   | some (.r (.c (.nt true _ xs)))=>nilM xs (pc F n Γ sz x p β st K) (pc F n Γ sz y q β st K)
   | some (.r (.c (.nt false _ xs)))=>nilM xs (pc F n Γ sz y q β st K) (pc F n Γ sz x p β st K)
   | _=>none)=some r→(Code.cond t p q).wpIn (FR rd) 0 P Q a w:=by
  intro x y t p q h
  split at h
  ·rename_i v hv
   have hb:=VRep.bool.1 (ev_env g.wf hv g.env).2
   refine wpIn_cond_split hb (fun ht=>?_) (fun ht=>?_)
   ·rw [ht] at h
    exact ih _ _ _ _ _ _ _ _ h P hΓ rd B D a w S η g hrd hnm Q hQ
   ·rw [ht] at h
    exact ih _ _ _ _ _ _ _ _ h P hΓ rd B D a w S η g hrd hnm Q hQ
  ·rename_i ty xs hv
   obtain ⟨b,hb,hx⟩:=ev_env g.wf hv g.env
   refine wpIn_cond_split hb (fun ht=>?_) (fun ht=>?_)
   ·have hn:=hx ht
    subst hn
    obtain ⟨e1,e2⟩:=bothM_some h
    exact ih _ _ _ _ _ _ _ _ e1 P hΓ rd B D a w S η g hrd hnm Q hQ
   ·exact ih _ _ _ _ _ _ _ _ (nilM_some h) P hΓ rd B D a w S η g hrd hnm Q hQ
  ·rename_i ty xs hv
   obtain ⟨b,hb,hx⟩:=ev_env g.wf hv g.env
   refine wpIn_cond_split hb (fun ht=>?_) (fun ht=>?_)
   ·exact ih _ _ _ _ _ _ _ _ (nilM_some h) P hΓ rd B D a w S η g hrd hnm Q hQ
   ·have hn:=hx ht
    subst hn
    obtain ⟨e1,e2⟩:=bothM_some h
    exact ih _ _ _ _ _ _ _ _ e1 P hΓ rd B D a w S η g hrd hnm Q hQ
  ·cases h
 have hseq:∀ {x y:Ann} {p q:Code},(pc F n Γ sz x p β st fun ex st'=>match ex with
   | .norm=>pc F n Γ sz y q β st' K
   | ex=>K ex st')=some r→(Code.seq p q).wpIn (FR rd) 0 P Q a w:=by
  intro x y p q h
  refine wpIn_seq (ih _ _ _ _ _ _ _ _ h P hΓ rd B D a w S η g hrd hnm _ fun ex st1 a1 w1 S1 η1 g1 stp1 hK=>?_)
  cases ex with
  | norm=>exact ih _ _ _ _ _ _ _ _ hK P hΓ rd B D a1 w1 S1 η1 g1 hrd hnm Q fun ex st2 a2 w2 S2 η2 g2 stp2 hK2=>hQ ex st2 a2 w2 S2 η2 g2 (stp1.trans stp2) hK2
  | ret=>exact hQ .ret st1 a1 w1 S1 η1 g1 stp1 hK
  | exit i=>exact hQ (.exit i) st1 a1 w1 S1 η1 g1 stp1 hK
  | go l=>exact hQ (.go l) st1 a1 w1 S1 η1 g1 stp1 hK
  | pan T=>exact hQ (.pan T) st1 a1 w1 S1 η1 g1 stp1 hK
 have hblk:∀ {x:Ann} {i:Nat} {p:Code},(pc F n Γ sz x p β st fun ex st'=>match ex with
   | .exit j=>match Nat.beq j i with
    | true=>K .norm st'
    | false=>K (.exit j) st'
   | ex=>K ex st')=some r→(Code.block i p).wpIn (FR rd) 0 P Q a w:=by
  intro x i p h
  refine wpIn_block (ih _ _ _ _ _ _ _ _ h P hΓ rd B D a w S η g hrd hnm _ fun ex st1 a1 w1 S1 η1 g1 stp1 hK=>?_)
  cases ex with
  | norm=>exact hQ .norm st1 a1 w1 S1 η1 g1 stp1 hK
  | ret=>exact hQ .ret st1 a1 w1 S1 η1 g1 stp1 hK
  | exit j =>
   show (if j=i then Q .normal a1 w1 else Q (.exit j) a1 w1)
   simp only at hK
   by_cases hji:j=i
   ·subst hji
    rw [Nat.beq_refl] at hK
    rw [if_pos rfl]
    exact hQ .norm st1 a1 w1 S1 η1 g1 stp1 hK
   ·have:Nat.beq j i=false:=by
     cases hb:Nat.beq j i
     ·rfl
     ·exact absurd (nB hb) hji
    rw [this] at hK
    rw [if_neg hji]
    exact hQ (.exit j) st1 a1 w1 S1 η1 g1 stp1 hK
  | go l=>exact hQ (.go l) st1 a1 w1 S1 η1 g1 stp1 hK
  | pan T=>exact hQ (.pan T) st1 a1 w1 S1 η1 g1 stp1 hK
 unfold pc at h
 split at h
 ·rename_i outs x
  obtain ⟨o,h1,h2⟩:=Option.bind_eq_some_iff.1 h
  refine ih _ _ _ _ _ _ _ _ h1 P hΓ rd B D a w S η g hrd hnm Q fun ex st1 a1 w1 S1 η1 g1 stp1 hK=>?_
  obtain ⟨k,L,st2,_,e1,e2,e3⟩:=xK hK h2
  obtain ⟨S2,η2,g2,stp2⟩:=Skel.good e1 e2 g g1 stp1
  exact hQ ex st2 a1 w1 S2 η2 g2 stp2 e3
 ·rename_i s x
  split at h
  ·rename_i t ys hl
   obtain ⟨zs,h1,h2⟩:=Option.bind_eq_some_iff.1 h
   obtain ⟨rfl,hne⟩:=neM_some h1
   have hv:VRep S w (.list t) zs (a.tmps.getD s undef):=(g.env s _ hl).2
   have g':Good sz B D { st with env:=(s,.c (.n t (some zs)))::st.env } a w S η:=⟨g.defers,g.size,fun i pv hi=>by
    by_cases hsi:s=i
    ·subst hsi
     simp only at hi
     rw [jA] at hi
     cases hi
     exact ⟨hv,Go.PE.VRep.ne hv hne⟩
    ·simp only at hi
     rw [wA _ _ hsi] at hi
     exact g.env i pv hi,g.inv,g.len,g.wf.consN (by simp),g.rdok,g.bb,g.ba⟩
   exact ih _ _ _ _ _ _ _ _ h2 P hΓ rd B D a w S η g' hrd hnm Q fun ex st1 a1 w1 S1 η1 g1 stp1 hK=>hQ ex st1 a1 w1 S1 η1 g1 ⟨kC ⟨[_],rfl⟩ stp1.env,stp1.hp,stp1.pre,stp1.grow⟩ hK
  ·cases h
 ·rename_i s v x
  split at h
  ·rename_i k y hl
   obtain ⟨zs,h1,h2⟩:=Option.bind_eq_some_iff.1 h
   have hy:y=v:=by
    unfold jJ at h1
    split at h1
    ·rename_i hd;exact oD hd
    ·cases h1
   subst hy
   have g':Good sz B D { st with env:=(s,.c (.d (.int k) y))::st.env } a w S η:=⟨g.defers,g.size,fun i pv hi=>by
    by_cases hsi:s=i
    ·subst hsi
     simp only at hi
     rw [jA] at hi
     cases hi
     exact g.env s _ hl
    ·simp only at hi
     rw [wA _ _ hsi] at hi
     exact g.env i pv hi,g.inv,g.len,g.wf.consN (by simp),g.rdok,g.bb,g.ba⟩
   exact ih _ _ _ _ _ _ _ _ h2 P hΓ rd B D a w S η g' hrd hnm Q fun ex st1 a1 w1 S1 η1 g1 stp1 hK=>hQ ex st1 a1 w1 S1 η1 g1 ⟨kC ⟨[_],rfl⟩ stp1.env,stp1.hp,stp1.pre,stp1.grow⟩ hK
  ·cases h
 ·exact wpIn_skip (nrm _ h)
 ·exact wpIn_ret (nrm _ h)
 ·exact wpIn_exit (nrm _ h)
 ·exact wpIn_label (nrm _ h)
 ·exact wpIn_goto (nrm _ h)
 ·exact hseq h
 ·exact hseq h
 ·exact hcond h
 ·exact hcond h
 ·rename_i x y c
  exact wpIn_loop_rounds _ (LoopOk.succ ih ihl _ _ (.seq x y) c _ _ _ _ rfl (by unfold pc;exact h) P hΓ rd B D a w S η g hrd hnm Q hQ)
 ·exact hblk h
 ·exact hblk h
 ·rename_i k outs x c
  split at h
  ·rename_i s0 hs0
   obtain ⟨ov,h1,h2⟩:=Option.bind_eq_some_iff.1 h
   obtain ⟨m,hm⟩:=loopM_iff.1 h1
   refine wpIn_loop_rounds m ?_
   refine loop_ok ih hΓ g hrd hnm (fun ex st1 a1 w1 S1 η1 g1 stp1 hK=>?_) m s0 st a w S η g (.refl g.inv.inw) hs0 hm
   obtain ⟨k,L,st2,_,e1,e2,e3⟩:=xK hK h2
   obtain ⟨S2,η2,g2,stp2⟩:=Skel.good e1 e2 g g1 stp1
   exact hQ ex st2 a1 w1 S2 η2 g2 stp2 e3
  ·cases h
 ·rename_i l k outs x y c
  split at h
  ·rename_i rest hfl
   obtain ⟨ov,h1,h2⟩:=Option.bind_eq_some_iff.1 h
   obtain ⟨t,h3,h4⟩:=Option.bind_eq_some_iff.1 h1
   have hq:∀ ex st' a' w' S' η',Good sz B D st' a' w' S' η'→Stp B st S w η st' S' w' η'→inj st ex st' outs=some ov→Q ex.out a' w':=fun ex st1 a1 w1 S1 η1 g1 stp1 hK=>by
    obtain ⟨k,L,st2,_,e1,e2,e3⟩:=xK hK h2
    obtain ⟨S2,η2,g2,stp2⟩:=Skel.good e1 e2 g g1 stp1
    exact hQ ex st2 a1 w1 S2 η2 g2 stp2 e3
   cases t with
   | inr o =>
    cases h4
    exact zG hfl 0 (scope_ok ih hΓ g hrd hnm hq (fun o h=>by cases h;rfl) (fun s _ _ _ _ _ h=>by cases h) g (.refl g.inv.inw) h3)
   | inl s0 =>
    obtain ⟨m,hm⟩:=loopM_iff.1 h4
    have hp:∀ m s st2 a2 w2 S2 η2,Good sz B D st2 a2 w2 S2 η2→Stp B st S w η st2 S2 w2 η2→k.encT st st2=some s→yD (fun s=>(match k.decT st s with
     | some st1=>pc F n Γ sz y rest (Tup k.tys⊕OutT outs) st1 fun ex st2=>match ex with
      | .go l'=>match Nat.beq l' l with
       | true=>match k.encT st st2 with
        | some s'=>some (.inl s')
        | none=>none
       | false=>none
      | ex=>match inj st ex st2 outs with
       | some o=>some (.inr o)
       | none=>none
     | none=>none:Option (Tup k.tys⊕OutT outs))) m s=some ov→passIn (FR rd) 0 P rest l Q m a2 w2:=by
     intro m
     induction m with
     | zero=>intro s st2 a2 w2 S2 η2 _ _ _ h;cases h
     | succ m ihm =>
      intro s st2 a2 w2 S2 η2 g2 stp2 he hm
      unfold yD at hm
      obtain ⟨t,ht,hm⟩:=Option.bind_eq_some_iff.1 hm
      split at ht
      ·rename_i st1 hd
       obtain ⟨S1,η1,g1,stp1⟩:=Skel.good (fF he) hd g g2 stp2
       exact scope_ok ih hΓ g hrd hnm hq (fun o h=>by subst h;cases hm;rfl) (fun s st3 a3 w3 S3 η3 h g3 stp3 he3=>by subst h;exact ihm s st3 a3 w3 S3 η3 g3 stp3 he3 hm) g1 stp1 ht
      ·cases ht
    exact zG hfl m (scope_ok ih hΓ g hrd hnm hq (fun o h=>by cases h) (fun s st3 a3 w3 S3 η3 h g3 stp3 he3=>by cases h;exact hp m s0 st3 a3 w3 S3 η3 g3 stp3 he3 hm) g (.refl g.inv.inw) h3)
  ·cases h
 ·rename_i own x nxt f ps assign body
  split at h
  ·rename_i g' fs cs hev
   split at h
   ·rename_i fn hfn
    split at h
    ·rename_i code hb hlen hnr
     exact range_ok ih hΓ hnr hev hfn hb (nL hlen) h g hrd hnm hQ
    ·cases h
   ·cases h
  ·cases h
 ·rename_i perm fl calls id ops
  split at h
  ·rename_i hchk
   obtain ⟨fl',hfl,hc⟩:=ihr _ _ _ _ _ _ _ _ _ _ _ h P hΓ rd B g.wf
   have:=hfl _ rfl
   subst this
   have ha:ops.toList.toArray=ops:=by simp
   have:=wpIn_region_certP (id:=id) (l:=ops.toList) (Q:=Q) hΓ.mixed hchk hc g.ok (fun E hs a' w' S' η' hk ok=>by
    obtain ⟨st',g',stp,hK⟩:=hk.good g ok
    exact hQ .norm st' a' w' S' η' g' stp hK) fun T E hs a' w' S' η' hk ok=>by
    obtain ⟨st',g',stp,hK⟩:=hk.good g ok
    exact hQ (.pan T) st' a' w' S' η' g' stp hK
   rw [ha] at this
   exact this
  ·cases h
 ·exact hreg h
 ·exact hreg h
 ·cases h

section
variable {B:Nat} {w:World} {η:Eta}
theorem jD:∀ {l:List RV} {H:PH} {S:Cells} (hi:HInv B η H S w),∃ S',HInv B η (yF H l) S' w∧Grow B S w S' w
 | [],H,S,hi=>⟨S,hi,Grow.refl hi.inw⟩
 | c::r,H,S,hi=>by
  obtain ⟨S1,h1,g1⟩:=fzR_sound hi c
  obtain ⟨S2,h2,g2⟩:=jD (l:=r) h1
  exact ⟨S2,h2,g1.trans g2⟩
theorem rF:∀ (l:List RV) (H:PH),yF H l=dRs H l++H
 | [],H=>rfl
 | c::r,H=>by
  show yF (fzR H c) r=(dRs (fzR H c) r++dR H c)++H
  rw [rF r,aA,← fzR_eq]
end
section
variable {S:Cells} {w:World} {η η2:Eta} {ρ:Nat→Nat}
theorem All2.map1 {α β:Type} {R R':α→β→Prop} {f:α→α} (h:∀ a b,R a b→R' (f a) b):∀ {as:List α} {bs:List β},All2 R as bs→All2 R' (as.map f) bs
 | _,_,.nil=>.nil
 | _,_,.cons h1 h2=>.cons (h _ _ h1) (h2.map1 h)
theorem FM.ren (hρ:∀ i v,η i=some v→η2 (ρ i)=some v):∀ {x:FV} {v:Value},FM S w η x v→FM S w η2 (x.ren ρ) v
 | .p _ _,_,h=>let ⟨b,h1,h2⟩:=h;⟨b,hρ _ _ h1,h2⟩
 | .d _ _,_,h=>h
 | .y _,_,h=>let ⟨b,h1,h2⟩:=h;⟨b,hρ _ _ h1,h2⟩
 | .h _,_,h=>⟨hρ _ _ h.1,h.2⟩
theorem CM.ren (hρ:∀ i v,η i=some v→η2 (ρ i)=some v):∀ {x:CV} {v:Value},CM S w η x v→CM S w η2 (x.ren ρ) v
 | .d _ _,_,h=>h
 | .l _,_,h=>h
 | .p _ _,_,h=>let ⟨b,h1,h2⟩:=h;⟨b,hρ _ _ h1,h2⟩
 | .h _,_,h=>⟨hρ _ _ h.1,h.2⟩
 | .f _ _ _,_,h=>let ⟨vf,vc,h1,h2,h3⟩:=h;⟨vf,vc,h1,h2.map1 (f:=FV.ren ρ) fun _ _ h=>FM.ren hρ h,h3.map1 (f:=FV.ren ρ) fun _ _ h=>FM.ren hρ h⟩
 | .y _,_,h=>let ⟨b,h1,h2⟩:=h;⟨b,hρ _ _ h1,h2⟩
 | .n _ none,_,h=>h
 | .n _ (some _),_,h=>h
 | .q _ _,_,h=>h
 | .rw _ _ _,_,h=>let ⟨us,h1,h2⟩:=h;⟨us,hρ _ _ h1,h2⟩
 | .nt _ _ _,_,h=>h
 | .sl _ _,_,h=>h
 | .fu _ _,_,h=>h
 | .i _,_,h=>h
 | .any,_,h=>h
theorem RM.ren (hρ:∀ i v,η i=some v→η2 (ρ i)=some v):∀ {x:RV} {v:Value},RM S w η x v→RM S w η2 (x.ren ρ) v
 | .c _,_,h=>CM.ren hρ h
 | .s _,_,h=>let ⟨vs,h1,h2⟩:=h;⟨vs,h1,h2.map1 (f:=CV.ren ρ) fun _ _ h=>CM.ren hρ h⟩
theorem PM.ren (hρ:∀ i v,η i=some v→η2 (ρ i)=some v):∀ {x:PV} {v:Value},PM S w η x v→PM S w η2 (x.ren ρ) v
 | .r _,_,h=>RM.ren hρ h
 | .t _,_,h=>let ⟨vs,h1,h2⟩:=h;⟨vs,h1,h2.map1 (f:=RV.ren ρ) fun _ _ h=>RM.ren hρ h⟩
 | .fp _ _,_,_ | .ep _ _ _ _,_,_ | .er _ _ _ _ _ _,_,_ | .xp _ _,_,_ | .eo _ _ _ _,_,_ | .vw _ _ _ _,_,_ | .va _ _ _,_,_ | .vh _ _,_,_ | .vp _ _ _ _,_,_ | .g _ _ _,_,_ | .any,_,_=>trivial
def PO.cut:PO→Cells→Cells
 | .box _,F | .arr _ _,F | .frz _ _,F | .opt _ _,F=>F
 | _,_=>fun _ _=>False
theorem PO.cut_sub:∀ {po:PO} {F:Cells} {b o:Nat},po.cut F b o→F b o
 | .box _,_,_,_,h | .arr _ _,_,_,_,h | .frz _ _,_,_,_,h | .opt _ _,_,_,_,h=>h
 | .tab _ _ _,_,_,_,h | .tabp _ _ _ _,_,_,_,h | .tabs _ _ _ _ _ _,_,_,_,h | .lp _ _,_,_,_,h | .flat _ _ _,_,_,_,h | .cel _ _,_,_,_,h | .mp _,_,_,_,h | .bld _ _ _,_,_,_,h | .frm _ _,_,_,_,h | .gone,_,_,_,h=>h.elim
theorem POH.ren {i:Nat} {F:Cells} (hρ:∀ i v,η i=some v→η2 (ρ i)=some v):∀ {po:PO},POH η i F S w po→POH η2 (ρ i) (po.cut F) S w (po.ren ρ)
 | .box l,h=>by
  obtain ⟨b,h1,h2,h3,vs,h4,h5⟩:=h
  refine ⟨b,hρ _ _ h1,fun b' o=>?_,fun o ho=>h3 o (by simpa using ho),vs,h4.map1 (f:=CV.ren ρ) fun _ _ h=>CM.ren hρ h,h5⟩
  rw [List.length_map];exact h2 b' o
 | .arr _ _,h=>let ⟨u,h1,h2⟩:=h;⟨u,hρ _ _ h1,h2⟩
 | .frz _ _,h=>let ⟨u,h1,h2⟩:=h;⟨u,hρ _ _ h1,h2⟩
 | .opt false l,h=>by
  obtain ⟨b,h1,h2,h3,vs,h4,h5⟩:=h
  refine ⟨b,hρ _ _ h1,fun b' o=>?_,fun o ho=>h3 o (by simpa using ho),vs,h4.map1 (f:=CV.ren ρ) fun _ _ h=>CM.ren hρ h,h5⟩
  rw [List.length_map];exact h2 b' o
 | .opt true l,h=>⟨hρ _ _ h.1,h.2⟩
 | .tab _ _ _,_ | .tabp _ _ _ _,_ | .tabs _ _ _ _ _ _,_ | .lp _ _,_ | .flat _ _ _,_ | .cel _ _,_ | .mp _,_ | .bld _ _ _,_ | .frm _ _,_ | .gone,_=>fun _ _ h=>h
end

def MpIn (n0:Nat) (m:Mp):Prop:=(∀ i i' j,lk m i=some j→lk m i'=some j→i=i')∧∀ i j,lk m i=some j→1≤i∧i<n0
def Ext2 (m m':Mp):Prop:=∀ i j,lk m i=some j→lk m' i=some j
theorem memV_no {m:Mp} {j:Nat} (h:memV m j=false):∀ a,lk m a≠some j:=by
 intro a ha
 induction m with
 | nil=>cases ha
 | cons x r ih =>
  obtain ⟨p,q⟩:=x
  unfold lk at ha
  unfold memV at h
  cases hq:Nat.beq q j<;>rw [hq] at h
  ·cases hp:Nat.beq p a<;>rw [hp] at ha
   ·exact ih h ha
   ·cases ha;rw [Nat.beq_refl] at hq;cases hq
  ·cases h
theorem pmI_ok {n0 i j:Nat} {m m':Mp} (h:pmI n0 i j m=some m') (hm:MpIn n0 m):MpIn n0 m'∧Ext2 m m'∧lk m' i=some j:=by
 unfold pmI at h
 split at h
 ·rename_i j' hl
  split at h
  ·rename_i hb
   cases h
   have:=nB hb
   subst this
   exact ⟨hm,fun _ _ h=>h,hl⟩
  ·cases h
 ·rename_i hl
  split at h
  ·rename_i hb hv
   cases h
   simp only [bA] at hb
   have b1:1≤i:=nL hb.1
   have b2:i<n0:=nL hb.2
   have hn:=memV_no hv
   refine ⟨⟨fun a a' b h1 h2=>?_,fun a b h1=>?_⟩,fun a b hab=>?_,jA _ _ _⟩
   ·by_cases e1:i=a<;>by_cases e2:i=a'
    ·rw [← e1,← e2]
    ·subst e1
     rw [jA] at h1;cases h1
     rw [wA _ _ e2] at h2
     exact absurd h2 (hn a')
    ·subst e2
     rw [jA] at h2;cases h2
     rw [wA _ _ e1] at h1
     exact absurd h1 (hn a)
    ·rw [wA _ _ e1] at h1
     rw [wA _ _ e2] at h2
     exact hm.1 a a' b h1 h2
   ·by_cases e1:i=a
    ·subst e1;exact ⟨b1,b2⟩
    ·rw [wA _ _ e1] at h1
     exact hm.2 a b h1
   ·rw [wA _ _ (fun e=>by subst e;rw [hl] at hab;cases hab)];exact hab
  ·cases h

section
variable {B:Nat} {S:Cells} {w:World} {η:Eta} {H:PH} {n0:Nat}
def Lnk (mf:Mp) (η ηm:Eta):Prop:=∀ i j v,lk mf i=some j→η j=some v→ηm i=some v
def RIn {X Y V:Type} (n0:Nat) (f:X→Y→Mp→Option (List TV×Mp)) (dec:X→List TV→Option (Y×List TV)) (M:Eta→Y→V→Prop) (η:Eta):Prop:=∀ x y m L m',f x y m=some (L,m')→MpIn n0 m→MpIn n0 m'∧Ext2 m m' ∧
 ∀ rest y2 L2,dec x (L++rest)=some (y2,L2)→L2=rest∧∀ mf ηm,Ext2 m' mf→Lnk mf η ηm→∀ v,M η y v→M ηm y2 v
theorem RIn.list {X Y V:Type} {f:X→Y→Mp→Option (List TV×Mp)} {dec:X→List TV→Option (Y×List TV)} {M:Eta→Y→V→Prop} (h:RIn n0 f dec M η):RIn n0 (pmL f) (decL dec) (fun η=>All2 (M η)) η:=by
 intro xs
 induction xs with
 | nil =>
  intro ys m L m' he hm
  cases ys with
  | cons _ _=>cases he
  | nil =>
   cases he
   refine ⟨hm,fun _ _ h=>h,fun rest y2 L2 hd=>?_⟩
   cases hd
   exact ⟨rfl,fun mf ηm _ _ v hv=>by cases hv;exact .nil⟩
 | cons x xs ih =>
  intro ys m L m' he hm
  cases ys with
  | nil=>cases he
  | cons y ys =>
   simp only [pmL] at he
   split at he
   ·rename_i u1 m1 h1
    split at he
    ·rename_i u2 m2 h2
     cases he
     obtain ⟨a1,a2,a3⟩:=h x y m u1 m1 h1 hm
     obtain ⟨b1,b2,b3⟩:=ih ys m1 u2 _ h2 a1
     refine ⟨b1,fun i j hh=>b2 i j (a2 i j hh),fun rest y2 L2 hd=>?_⟩
     simp only [decL] at hd
     rw [aA] at hd
     split at hd
     ·rename_i y1 L1 hd1
      obtain ⟨e1,f1⟩:=a3 (u2++rest) y1 L1 hd1
      subst e1
      split at hd
      ·rename_i ys1 L3 hd2
       cases hd
       obtain ⟨e2,f2⟩:=b3 rest ys1 _ hd2
       refine ⟨e2,fun mf ηm he hl v hv=>?_⟩
       cases hv with
       | cons hv1 hv2=>exact .cons (f1 mf ηm (fun i j hh=>he i j (b2 i j hh)) hl _ hv1) (f2 mf ηm he hl _ hv2)
      ·cases hd
     ·cases hd
    ·cases he
   ·cases he
theorem pmL_len {X Y:Type} {f:X→Y→Mp→Option (List TV×Mp)}:∀ {l:List X} {l':List Y} {m m':Mp} {u:List TV},pmL f l l' m=some (u,m')→l.length=l'.length
 | [],[],_,_,_,_=>rfl
 | [],_::_,_,_,_,h=>by cases h
 | _::_,[],_,_,_,h=>by cases h
 | x::r,y::ys,m,m',u,h=>by
  simp only [pmL] at h
  split at h
  ·split at h
   ·rename_i h2
    simp [pmL_len h2]
   ·cases h
  ·cases h
theorem pmV_ok (hi:HInv B η H S w):RIn n0 (pmV H n0) SV.dec (fun η=>CM S w η) η:=by
 intro x y m L m' he hm
 unfold pmV at he
 split at he
 ·rename_i t
  split at he
  ·cases he
  ·rename_i ha
   split at he
   ·rename_i x1 hc
    cases he
    refine ⟨hm,fun _ _ h=>h,fun rest y2 L2 hd=>?_⟩
    simp only [SV.dec,PE.decT,List.cons_append,List.nil_append] at hd
    split at hd
    ·rename_i x2 L3 h3 h5
     cases hd
     split at h3
     ·rename_i x3 h4
      cases h3
      have:=zB (d:=.d t) h4
      subst this
      exact ⟨rfl,fun mf ηm _ _ v hv=>⟨ha,kE hi hc hv⟩⟩
     ·cases h3
    ·cases hd
   ·cases he
 ·rename_i k k'
  split at he
  ·rename_i hb
   cases he
   have hk:k=k':=by cases k<;>cases k'<;>first | rfl | cases hb
   subst hk
   refine ⟨hm,fun _ _ h=>h,fun rest y2 L2 hd=>?_⟩
   cases hd
   exact ⟨rfl,fun mf ηm _ _ v hv=>hv⟩
  ·cases he
 ·rename_i i j
  split at he
  ·rename_i m1 h1
   cases he
   obtain ⟨a1,a2,a3⟩:=pmI_ok h1 hm
   refine ⟨a1,a2,fun rest y2 L2 hd=>?_⟩
   cases hd
   exact ⟨rfl,fun mf ηm he hl v hv=>⟨hl _ _ _ (he _ _ a3) hv.1,hv.2⟩⟩
  ·cases he
 ·rename_i i j
  split at he
  ·rename_i m1 h1
   cases he
   obtain ⟨a1,a2,a3⟩:=pmI_ok h1 hm
   refine ⟨a1,a2,fun rest y2 L2 hd=>?_⟩
   cases hd
   refine ⟨rfl,fun mf ηm he hl v hv=>?_⟩
   obtain ⟨b,e1,e2⟩:=hv
   subst e2
   exact ⟨hl _ _ _ (he _ _ a3) e1,rfl⟩
  ·cases he
 ·cases he
theorem pmR_ok (hi:HInv B η H S w):RIn n0 (pmR H n0) SR.dec (fun η=>RM S w η) η:=by
 intro x y m L m' he hm
 unfold pmR at he
 split at he
 ·obtain ⟨a1,a2,a3⟩:=pmV_ok hi _ _ _ _ _ he hm
  refine ⟨a1,a2,fun rest y2 L2 hd=>?_⟩
  simp only [SR.dec] at hd
  split at hd
  ·rename_i y1 L1 h1
   cases hd
   obtain ⟨e1,f1⟩:=a3 _ _ _ h1
   exact ⟨e1,fun mf ηm he hl v hv=>f1 mf ηm he hl v hv⟩
  ·cases hd
 ·obtain ⟨a1,a2,a3⟩:=(pmV_ok hi).list _ _ _ _ _ he hm
  refine ⟨a1,a2,fun rest y2 L2 hd=>?_⟩
  simp only [SR.dec] at hd
  split at hd
  ·rename_i y1 L1 h1
   cases hd
   obtain ⟨e1,f1⟩:=a3 _ _ _ h1
   refine ⟨e1,fun mf ηm he hl v hv=>?_⟩
   obtain ⟨vs,h2,h3⟩:=hv
   exact ⟨vs,h2,f1 mf ηm he hl vs h3⟩
  ·cases hd
 ·cases he
theorem pmO_ok (hi:HInv B η H S w) {x:SO} {q j:Nat} {m m':Mp} {L:List TV} (he:pmO H n0 x (lk H j) m=some (L,m')) (hm:MpIn n0 m) (hq:lk m q=some j):MpIn n0 m'∧Ext2 m m'∧(∃ po,lk H j=some po∧po≠.gone) ∧
  ∀ rest o2 L2,x.dec none (L++rest)=some (o2,L2)→L2=rest∧∃ po2,o2=some po2∧∀ mf ηm,Ext2 m' mf→Lnk mf η ηm→∀ F po,lk H j=some po→POH η j F S w po→POH ηm q F S w po2:=by
 unfold pmO at he
 split at he
 ·rename_i l b l' hl
  split at he
  ·rename_i u m1 h1
   cases he
   obtain ⟨a1,a2,a3⟩:=(pmV_ok hi).list _ _ _ _ _ h1 hm
   refine ⟨a1,a2,⟨_,hl,by simp⟩,fun rest o2 L2 hd=>?_⟩
   simp only [SO.dec,PE.decT,List.cons_append] at hd
   split at hd
   ·rename_i b2 L0 hb
    split at hb
    ·rename_i x3 h4
     cases hb
     have:=zB (d:=.d .bool) h4
     subst this
     split at hd
     ·rename_i ys L1 hd1
      cases hd
      obtain ⟨e1,f1⟩:=a3 _ _ _ hd1
      refine ⟨e1,_,rfl,fun mf ηm he hlk F po hpo hP=>?_⟩
      rw [hl] at hpo
      cases hpo
      have ll:ys.length=l'.length:=(cI hd1).trans (pmL_len h1)
      cases b with
      | true=>exact ⟨hlk _ _ _ (he _ _ (a2 _ _ hq)) hP.1,hP.2⟩
      | false =>
       obtain ⟨b,h1,h2,h3,vs,h4,h5⟩:=hP
       refine ⟨b,hlk _ _ _ (he _ _ (a2 _ _ hq)) h1,fun b' o=>?_,fun o ho=>h3 o (by rw [← ll];exact ho),vs,f1 mf ηm he hlk vs h4,h5⟩
       rw [ll];exact h2 b' o
     ·cases hd
    ·cases hb
   ·cases hd
  ·cases he
 ·rename_i l l' hl
  split at he
  ·rename_i u m1 h1
   cases he
   obtain ⟨a1,a2,a3⟩:=(pmV_ok hi).list _ _ _ _ _ h1 hm
   refine ⟨a1,a2,⟨_,hl,by simp⟩,fun rest o2 L2 hd=>?_⟩
   simp only [SO.dec,PE.decT,List.cons_append] at hd
   split at hd
   ·rename_i b2 L0 hb
    split at hb
    ·rename_i x3 h4
     cases hb
     have:=zB (d:=.d .bool) h4
     subst this
     split at hd
     ·rename_i ys L1 hd1
      cases hd
      obtain ⟨e1,f1⟩:=a3 _ _ _ hd1
      refine ⟨e1,_,rfl,fun mf ηm he hlk F po hpo hP=>?_⟩
      rw [hl] at hpo
      cases hpo
      have ll:ys.length=l'.length:=(cI hd1).trans (pmL_len h1)
      obtain ⟨b,h1,h2,h3,vs,h4,h5⟩:=hP
      refine ⟨b,hlk _ _ _ (he _ _ (a2 _ _ hq)) h1,fun b' o=>?_,fun o ho=>h3 o (by rw [← ll];exact ho),vs,f1 mf ηm he hlk vs h4,h5⟩
      rw [ll];exact h2 b' o
     ·cases hd
    ·cases hb
   ·cases hd
  ·cases he
 ·rename_i t t' xs hl
  split at he
  ·rename_i xs1 hc
   cases he
   obtain ⟨he,hx⟩:=kA hc
   cases he
   refine ⟨hm,fun _ _ h=>h,⟨_,hl,by simp⟩,fun rest o2 L2 hd=>?_⟩
   simp only [SO.dec,PE.decT,List.cons_append,List.nil_append] at hd
   split at hd
   ·rename_i x2 L3 h3
    cases hd
    split at h3
    ·rename_i x3 h4
     cases h3
     have:=zB (d:=.d (.list t)) h4
     subst this
     refine ⟨rfl,_,rfl,fun mf ηm he hlk F po hpo hP=>?_⟩
     rw [hl] at hpo
     cases hpo
     obtain ⟨u,h1,h2⟩:=hP
     have hx:xs=xs1:=hx
     subst hx
     exact ⟨u,hlk _ _ _ (he _ _ hq) h1,h2⟩
    ·cases h3
   ·cases hd
  ·cases he
 ·cases he
theorem pmN_ok (hi:HInv B η H S w):∀ {l:List SO} {i0:Nat} {m m':Mp} {L:List TV},pmN H n0 l i0 m=some (L,m')→MpIn n0 m→MpIn n0 m'∧Ext2 m m'∧(∀ q,i0≤q→q<i0+l.length→∃ j po,lk m' q=some j∧lk H j=some po∧po≠.gone) ∧
  ∀ rest h L2,wI l i0 (L++rest)=some (h,L2)→L2=rest∧(∀ q po,lk h q=some po→i0≤q∧q<i0+l.length)∧(∀ q,i0≤q→q<i0+l.length→∃ po,lk h q=some po)∧∀ q po2,lk h q=some po2→∃ j,lk m' q=some j∧∀ mf ηm,Ext2 m' mf→Lnk mf η ηm→∀ F po,lk H j=some po→POH η j F S w po→POH ηm q F S w po2
 | [],i0,m,m',L,h,hm=>by
  cases h
  refine ⟨hm,fun _ _ h=>h,fun q h1 h2=>absurd h2 (by simp;omega),fun rest h L2 hd=>?_⟩
  cases hd
  exact ⟨rfl,⟨(fun q po h=>by cases h),(fun q h1 h2=>absurd h2 (by simp;omega)),(fun q po h=>by cases h)⟩⟩
 | x::r,i0,m,m',L,h,hm=>by
  simp only [pmN] at h
  split at h
  ·rename_i j hj
   split at h
   ·rename_i u1 m1 h1
    split at h
    ·rename_i u2 m2 h2
     cases h
     obtain ⟨a1,a2,a3,a4⟩:=pmO_ok hi h1 hm hj
     obtain ⟨b1,b2,b3,b4⟩:=pmN_ok hi h2 a1
     have hj2:lk m' i0=some j:=b2 _ _ (a2 _ _ hj)
     refine ⟨b1,fun i j hh=>b2 i j (a2 i j hh),fun q hq1 hq2=>?_,fun rest h L2 hd=>?_⟩
     ·by_cases hq:q=i0
      ·subst hq
       obtain ⟨po,c1,c2⟩:=a3
       exact ⟨j,po,hj2,c1,c2⟩
      ·exact b3 q (by omega) (by simp at hq2;omega)
     ·simp only [wI] at hd
      rw [aA] at hd
      split at hd
      ·rename_i o1 L1 hd1
       obtain ⟨e1,po2,e2,f1⟩:=a4 (u2++rest) o1 L1 hd1
       subst e1;subst e2
       split at hd
       ·rename_i ys L3 hd2
        cases hd
        obtain ⟨e3,f2,f4,f3⟩:=b4 rest ys _ hd2
        refine ⟨e3,fun q po hq=>?_,fun q hq1 hq2=>?_,fun q po hq=>?_⟩
        ·by_cases h:i0=q
         ·subst h;simp
         ·rw [wA _ _ h] at hq
          have:=f2 q po hq
          simp;omega
        ·by_cases h:i0=q
         ·subst h;exact ⟨_,jA _ _ _⟩
         ·rw [wA _ _ h];exact f4 q (by omega) (by simp at hq2;omega)
        ·by_cases h:i0=q
         ·subst h
          rw [jA] at hq
          cases hq
          exact ⟨j,hj2,fun mf ηm he hl F po hpo hP=>f1 mf ηm (fun i j hh=>he i j (b2 i j hh)) hl F po hpo hP⟩
         ·rw [wA _ _ h] at hq
          exact f3 q po hq
       ·cases hd
      ·cases hd
    ·cases h
   ·cases h
  ·cases h
theorem ctH_some {ρ:Nat→Nat} {H:PH}:∀ {k i a:Nat} {po:PO},lk (ctH ρ H i k) a=some po→∃ q p,i≤q∧q<i+k∧lk H q=some p∧a=ρ q∧po=p.ren ρ
 | 0,i,a,po,h=>by cases h
 | k+1,i,a,po,h=>by
  unfold ctH at h
  split at h
  ·rename_i p hp
   by_cases e:ρ i=a
   ·subst e
    rw [jA] at h
    cases h
    exact ⟨i,p,by omega,by omega,hp,rfl,rfl⟩
   ·rw [wA _ _ e] at h
    obtain ⟨q,p',h1,h2,h3⟩:=ctH_some h
    exact ⟨q,p',by omega,by omega,h3⟩
  ·obtain ⟨q,p',h1,h2,h3⟩:=ctH_some h
   exact ⟨q,p',by omega,by omega,h3⟩
theorem ctH_has {ρ:Nat→Nat} {H:PH}:∀ {k i q:Nat} {p:PO},i≤q→q<i+k→lk H q=some p→∃ po,lk (ctH ρ H i k) (ρ q)=some po
 | 0,i,q,p,h1,h2,_=>absurd h2 (by omega)
 | k+1,i,q,p,h1,h2,h3=>by
  unfold ctH
  by_cases e:q=i
  ·subst e
   rw [h3]
   exact ⟨_,jA _ _ _⟩
  ·obtain ⟨po,h⟩:=ctH_has (ρ:=ρ) (k:=k) (i:=i+1) (q:=q) (by omega) (by omega) h3
   split
   ·by_cases e2:ρ i=ρ q
    ·rw [e2];exact ⟨_,jA _ _ _⟩
    ·rw [wA _ _ e2];exact ⟨po,h⟩
   ·exact ⟨po,h⟩
end
theorem bxs_has:∀ {fo:List Nat} {h:PH} {q:Nat} {p:PO},lk h q=some p→∃ p',lk (bxs fo h) q=some p'
 | [],h,q,p,hq=>⟨p,hq⟩
 | i::r,h,q,p,hq=>by
  unfold bxs
  split
  ·by_cases e:i=q
   ·subst e;exact bxs_has (jA _ _ _)
   ·exact bxs_has (by rw [wA _ _ e];exact hq)
  ·exact bxs_has hq
theorem bxs_back:∀ {fo:List Nat} {h:PH} {q:Nat} {p:PO},lk (bxs fo h) q=some p→∃ p',lk h q=some p'
 | [],h,q,p,hq=>⟨p,hq⟩
 | i::r,h,q,p,hq=>by
  unfold bxs at hq
  split at hq
  ·rename_i b l hl
   obtain ⟨p',h1⟩:=bxs_back hq
   by_cases e:i=q
   ·subst e;exact ⟨_,hl⟩
   ·rw [wA _ _ e] at h1;exact ⟨p',h1⟩
  ·exact bxs_back hq
theorem ct_ok {P:Program} {g:FuncId} {s:PSpec} (hs:PSpecOK P g s) {H:PH} {nx:Nat} {rs:List RV} {x:Tup (SRs.tys s.a++tG s.o)} {m:Mp} {r:Tup s.k.tys} {pv:PV} {δ:PH} (hin:ctIn s H rs=some (x,m)) (hm:s.m x=some r) (hout:ctOut s m nx x r=some (pv,δ))
  {B:Nat} {S:Cells} {w:World} {η:Eta} {vs:List Value} (hi:HInv B η H S w) (hl:∀ i,nx≤i→η i=none) (hv:All2 (RM S w η) rs vs) :
  Calls P g vs.toArray w fun en w'=>∃ v S' η',en=.returned v∧Grow B S w S' w'∧Pre η η'∧(∀ i,nx+1+s.k.news.length≤i→η' i=none)∧HInv B η' (δ++H) S' w'∧PM S' w' η' pv v:=by
 unfold ctIn at hin
 split at hin
 case h_2=>cases hin
 rename_i u1 m1 h1
 split at hin
 case h_2=>cases hin
 rename_i u2 m2 h2
 split at hin
 case h_2=>cases hin
 rename_i x' hof
 cases hin
 have hx:Tup.toL _ x=u1++u2:=Tup.ofL_some hof
 obtain ⟨a1,a2,a3⟩:=(pmR_ok hi (n0:=s.o.length+1)).list s.a rs [] u1 m1 h1 ⟨fun _ _ _ h=>(by cases h),fun _ _ h=>(by cases h)⟩
 obtain ⟨b1,b2,b3,b4⟩:=pmN_ok hi h2 a1
 unfold ctOut at hout
 split at hout
 case h_2=>cases hout
 rename_i rs' h pv' δ' hst haft
 split at hout
 case h_2=>cases hout
 rename_i hno
 cases hout
 have hst':=hst
 unfold PSpec.st stOf at hst'
 rw [hx] at hst'
 split at hst'
 case h_2=>cases hst'
 rename_i rs2 L2 hd1
 obtain ⟨e1,f1⟩:=a3 u2 rs2 L2 hd1
 subst e1
 split at hst'
 case h_2=>cases hst'
 rename_i h0 hd2
 cases hst'
 obtain ⟨_,f2,f3,f4⟩:=b4 [] h [] (by rw [List.append_nil];exact hd2)
 -- numbers
 obtain ⟨hb,hw,F,hdj,hF,hP⟩:=hi
 have hmat:∀ q,1≤q→q<s.o.length+1→∃ j po v,lk m q=some j∧lk H j=some po∧η j=some v∧j<nx:=fun q hq1 hq2=>by
  obtain ⟨j,po,h1,h2,h3⟩:=b3 q hq1 (by omega)
  rcases (hP j po h2).has with h4 | ⟨v,h4⟩
  ·exact absurd h4 h3
  ·refine ⟨j,po,v,h1,h2,h4,?_⟩
   cases Nat.lt_or_ge j nx with
   | inl h=>exact h
   | inr h=>rw [hl j h] at h4;cases h4
 let ηm:Eta:=fun i=>match i with
  | 0=>some undef
  | i+1=>match lk m (i+1) with
   | some j=>η j
   | none=>none
 have hlm:Lnk m η ηm:=fun i j v h1 h2=>by
  have:=(b1.2 i j h1).1
  match i,this,h1 with
  | i+1,_,h1 =>
   show (match lk m (i+1) with | some j=>η j | none=>none)=some v
   rw [h1];exact h2
 let G:Cells:=fun b o=>∃ j,(∀ q,lk m q≠some j)∧F j b o
 let Fm:Nat→Cells:=fun i=>match i with
  | 0=>G
  | i+1=>match lk m (i+1) with
   | some j=>F j
   | none=>fun _ _=>False
 have hFm:∀ i b o,Fm (i+1) b o→∃ j,lk m (i+1)=some j∧F j b o:=fun i b o hf=>by
  have hf:(match lk m (i+1) with | some j=>F j | none=>fun _ _=>False) b o:=hf
  cases hq:lk m (i+1) with
  | some j=>rw [hq] at hf;exact ⟨j,rfl,hf⟩
  | none=>rw [hq] at hf;exact hf.elim
 have him:HInv B ηm (h++[(0,.frm G w)]) S w:=by
  refine ⟨hb,hw,Fm,fun i j hij b o hfi hfj=>?_,fun i b o hf=>?_,fun i po hlk=>?_⟩
  ·match i,j,hij,hfi,hfj with
   | 0,0,hij,_,_=>exact hij rfl
   | 0,j+1,_,⟨a,ha,hfa⟩,hfj =>
    obtain ⟨c,hc,hfc⟩:=hFm _ _ _ hfj
    by_cases e:a=c
    ·subst e;exact ha _ hc
    ·exact hdj a c e b o hfa hfc
   | i+1,0,_,hfi,⟨a,ha,hfa⟩ =>
    obtain ⟨c,hc,hfc⟩:=hFm _ _ _ hfi
    by_cases e:a=c
    ·subst e;exact ha _ hc
    ·exact hdj a c e b o hfa hfc
   | i+1,j+1,hij,hfi,hfj =>
    obtain ⟨a,ha,hfa⟩:=hFm _ _ _ hfi
    obtain ⟨c,hc,hfc⟩:=hFm _ _ _ hfj
    by_cases e:a=c
    ·subst e;exact hij (b1.1 _ _ _ ha hc)
    ·exact hdj a c e b o hfa hfc
  ·match i,hf with
   | 0,⟨a,_,hfa⟩=>exact hF a b o hfa
   | i+1,hf =>
    obtain ⟨a,ha,hfa⟩:=hFm _ _ _ hf
    exact hF a b o hfa
  ·rw [xB] at hlk
   cases hq:lk h i with
   | some po2 =>
    rw [hq] at hlk
    cases hlk
    obtain ⟨j,g1,g2⟩:=f4 i _ hq
    obtain ⟨hi1,hi2⟩:=f2 i _ hq
    obtain ⟨j',po',v,g3,g4,g5,g6⟩:=hmat i hi1 (by omega)
    rw [g1] at g3
    cases g3
    have:=g2 m ηm (fun _ _ h=>h) hlm (F j) po' g4 (hP j po' g4)
    match i,hi1,g1,this with
    | i+1,_,g1,this =>
     show POH ηm (i+1) (match lk m (i+1) with | some j=>F j | none=>fun _ _=>False) S w _
     rw [g1];exact this
   | none =>
    rw [hq] at hlk
    simp only [lk] at hlk
    split at hlk
    ·rename_i hb0
     cases hlk
     have:=nB hb0
     subst this
     exact ⟨⟨undef,rfl⟩,fun _ _=>Iff.rfl,⟨fun _ _ _=>⟨rfl,rfl⟩,fun _ _ _ _ h=>h⟩⟩
    ·cases hlk
 have hmn:∀ i,s.o.length+1≤i→ηm i=none:=fun i hi=>by
  match i,hi with
  | i+1,hi =>
   show (match lk m (i+1) with | some j=>η j | none=>none)=none
   cases hq:lk m (i+1) with
   | none=>rfl
   | some j=>have:=(b1.2 _ _ hq).2;omega
 refine (hs.2 x r hm rs' h pv' δ' hst haft G w B S w ηm vs him hmn (f1 m ηm b2 hlm vs hv)).mono fun en w' ⟨v,S',η',e1,gr,pre,hn',hi',hmv⟩=>?_
 obtain ⟨hb',hw',F',hdj',hF',hP'⟩:=hi'
 -- the caller's numbers
 have rm:∀ q j,lk m q=some j→ctR m (s.o.length+1) nx q=j:=fun q j hq=>by unfold ctR;rw [hq]
 have rn:∀ q,s.o.length+1≤q→ctR m (s.o.length+1) nx q=nx+1+(q-(s.o.length+1)):=fun q hq=>by
  have:lk m q=none:=by
   cases h:lk m q with
   | none=>rfl
   | some j=>have:=(b1.2 _ _ h).2;omega
  unfold ctR
  rw [this]
  match q,hq with
  | q+1,hq=>simp only;omega
 have r0:ctR m (s.o.length+1) nx 0=nx:=by
  have:lk m 0=none:=by
   cases h:lk m 0 with
   | none=>rfl
   | some j=>have:=(b1.2 _ _ h).1;omega
  unfold ctR;rw [this]
 let η2:Eta:=fun i=>if i<nx then η i else if i=nx then some undef else η' (s.o.length+1+(i-nx-1))
 have hρ:∀ i v,η' i=some v→η2 (ctR m (s.o.length+1) nx i)=some v:=fun i v hv=>by
  by_cases c0:i=0
  ·subst c0
   rw [r0]
   show (if nx<nx then _ else if nx=nx then some undef else _)=_
   rw [if_neg (Nat.lt_irrefl _),if_pos rfl]
   have:η' 0=some undef:=pre 0 undef rfl
   rw [this] at hv;exact hv
  ·by_cases c1:i<s.o.length+1
   ·obtain ⟨j,po,u,g1,g2,g3,g4⟩:=hmat i (by omega) c1
    rw [rm i j g1]
    show (if j<nx then η j else _)=_
    rw [if_pos g4,g3]
    have:=pre i u (hlm i j u g1 g3)
    rw [this] at hv;exact hv
   ·rw [rn i (by omega)]
    show (if _<nx then _ else if _=nx then _ else _)=_
    rw [if_neg (by omega),if_neg (by omega)]
    rw [← hv]
    congr 1;omega
 have hpre:Pre η η2:=fun i v hv=>by
  show (if i<nx then η i else _)=_
  rw [if_pos (by
   cases Nat.lt_or_ge i nx with
   | inl h=>exact h
   | inr h=>rw [hl i h] at hv;cases hv)]
  exact hv
 have hinj:∀ q q',1≤q→1≤q'→ctR m (s.o.length+1) nx q=ctR m (s.o.length+1) nx q'→q=q':=fun q q' hq hq' he=>by
  by_cases c1:q<s.o.length+1<;>by_cases c2:q'<s.o.length+1
  ·obtain ⟨j,_,_,g1,_,_,_⟩:=hmat q hq c1
   obtain ⟨j',_,_,g1',_,_,_⟩:=hmat q' hq' c2
   rw [rm _ _ g1,rm _ _ g1'] at he
   subst he
   exact b1.1 _ _ _ g1 g1'
  ·obtain ⟨j,_,_,g1,_,_,g4⟩:=hmat q hq c1
   rw [rm _ _ g1,rn q' (by omega)] at he
   omega
  ·obtain ⟨j,_,_,g1,_,_,g4⟩:=hmat q' hq' c2
   rw [rm _ _ g1,rn q (by omega)] at he
   omega
  ·rw [rn q (by omega),rn q' (by omega)] at he
   omega
 have hfr:POH η' 0 (F' 0) S' w' (.frm G w):=by
  refine hP' 0 _ ?_
  rw [xB,lk_has hno,xB]
  have:lk (bxs s.fo h) 0=none:=by
   cases hq:lk (bxs s.fo h) 0 with
   | none=>rfl
   | some po =>
    obtain ⟨po2,hq⟩:=bxs_back hq
    have:=(f2 _ _ hq).1;omega
  rw [this];rfl
 obtain ⟨_,hG,hsame⟩:=hfr
 have hq1:∀ q,1≤q→lk (δ'++(bxs s.fo h++[(0,PO.frm G w)])) q=lk (δ'++bxs s.fo h) q:=fun q hq=>by
  rw [xB,xB,xB]
  have:lk [(0,PO.frm G w)] q=none:=wA _ _ (by omega)
  rw [this]
  cases lk δ' q<;>cases lk (bxs s.fo h) q<;>rfl
 let F2:Nat→Cells:=fun a b o=>(∃ q p,1≤q∧q<s.o.length+1+s.k.news.length∧ctR m (s.o.length+1) nx q=a∧lk (δ'++bxs s.fo h) q=some p∧p.cut (F' q) b o)∨((∀ q,1≤q→q<s.o.length+1+s.k.news.length→ctR m (s.o.length+1) nx q≠a)∧F a b o)
 have hFG:∀ a b o,(∀ q,1≤q→q<s.o.length+1+s.k.news.length→ctR m (s.o.length+1) nx q≠a)→F a b o→F' 0 b o:=fun a b o hn hf=>by
  refine (hG b o).2 ⟨a,fun q hq=>?_,hf⟩
  obtain ⟨c1,c2⟩:=b1.2 _ _ hq
  exact hn q c1 (by omega) (rm q a hq)
 refine ⟨v,S',η2,e1,gr,hpre,fun i hi=>?_,⟨hb',hw',F2,fun a a' haa b o hfa hfa'=>?_,fun a b o hf=>?_,fun a po hlk=>?_⟩,PM.ren hρ hmv⟩
 ·show (if i<nx then _ else if i=nx then _ else _)=_
  rw [if_neg (by omega),if_neg (by omega)]
  exact hn' _ (by omega)
 ·rcases hfa with ⟨q,p,c1,c2,c3,c4,c5⟩ | ⟨c1,c2⟩<;>rcases hfa' with ⟨q',p',d1,d2,d3,d4,d5⟩ | ⟨d1,d2⟩
  ·exact hdj' q q' (fun e=>haa (by rw [← c3,← d3,e])) b o (PO.cut_sub c5) (PO.cut_sub d5)
  ·exact hdj' q 0 (by omega) b o (PO.cut_sub c5) (hFG _ _ _ d1 d2)
  ·exact hdj' q' 0 (by omega) b o (PO.cut_sub d5) (hFG _ _ _ c1 c2)
  ·exact hdj a a' haa b o c2 d2
 ·rcases hf with ⟨q,p,c1,c2,c3,c4,c5⟩ | ⟨c1,c2⟩
  ·exact hF' q b o (PO.cut_sub c5)
  ·exact hF' 0 b o (hFG _ _ _ c1 c2)
 ·rw [xB] at hlk
  cases hc:lk (ctH (ctR m (s.o.length+1) nx) (δ'++bxs s.fo h) 1 (s.o.length+s.k.news.length)) a with
  | some po2 =>
   rw [hc] at hlk
   cases hlk
   obtain ⟨q,p,c1,c2,c3,rfl,rfl⟩:=ctH_some hc
   have hpo:=(hP' q p (by rw [hq1 q c1];exact c3)).ren hρ
   have e:F2 (ctR m (s.o.length+1) nx q)=p.cut (F' q):=by
    funext b o
    refine propext ⟨fun hf=>?_,fun hf=>.inl ⟨q,p,c1,by omega,rfl,c3,hf⟩⟩
    rcases hf with ⟨q',p',d1,d2,d3,d4,d5⟩ | ⟨d1,_⟩
    ·have:=hinj q' q d1 c1 d3
     subst this
     rw [c3] at d4
     cases d4;exact d5
    ·exact absurd rfl (d1 q c1 (by omega))
   rw [e];exact hpo
  | none =>
   rw [hc] at hlk
   have hlk:lk H a=some po:=hlk
   have hleft:∀ q p,1≤q→q<s.o.length+1+s.k.news.length→ctR m (s.o.length+1) nx q=a→lk (δ'++bxs s.fo h) q=some p→False:=fun q p c1 c2 c3 c4=>by
    obtain ⟨po3,c5⟩:=ctH_has (ρ:=ctR m (s.o.length+1) nx) (k:=s.o.length+s.k.news.length) c1 (by omega) c4
    rw [c3,hc] at c5
    cases c5
   rcases (hP a po hlk).has with hg | ⟨u,hu⟩
   ·subst hg
    have hno':=hP a _ hlk
    rintro b o (⟨q,p,c1,c2,c3,c4,c5⟩ | ⟨c1,c2⟩)
    ·exact hleft q p c1 c2 c3 c4
    ·exact hno' b o c2
   ·have halt:a<nx:=by
     cases Nat.lt_or_ge a nx with
     | inl h=>exact h
     | inr h=>rw [hl a h] at hu;cases hu
    have hun:∀ q,1≤q→q<s.o.length+1+s.k.news.length→ctR m (s.o.length+1) nx q≠a:=fun q c1 c2 c3=>by
     by_cases c4:q<s.o.length+1
     ·obtain ⟨p,hp⟩:=f3 q c1 (by omega)
      have:∃ p',lk (δ'++bxs s.fo h) q=some p':=by
       rw [xB]
       cases lk δ' q with
       | some p'=>exact ⟨p',rfl⟩
       | none=>exact bxs_has hp
      obtain ⟨p',hp'⟩:=this
      exact hleft q p' c1 c2 c3 hp'
     ·rw [rn q (by omega)] at c3
      omega
    have e:F2 a=F a:=by
     funext b o
     refine propext ⟨fun hf=>?_,fun hf=>.inr ⟨hun,hf⟩⟩
     rcases hf with ⟨q,p,c1,c2,c3,c4,c5⟩ | ⟨_,c2⟩
     ·exact (hleft q p c1 c2 c3 c4).elim
     ·exact c2
    rw [e]
    exact (hP a po hlk).frame (hsame.sub fun b o hf=>hFG a b o hun hf) gr.keep hpre
end Go.PE
