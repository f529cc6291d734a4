/-
 Texts of this proof, put together: Df, Dg, Dh, Di, Dj, Dk, Dl, Dq, Dr, Ds, Ia, Ib, Ic, Id, Ie, Dt, Du, Dv, Cg, LawNetworkLeast.
 No conditions.
-/
import Derived.Test.YthdfmkpebafpoaaGreatDoorZ4
import Derived.Test.YthdfmkpebafpoaaGreatDoorZ5
import Derived.Lib.ItoaNum
import Derived.Lib.AtoiAll
import Derived.Lib.Repeat
import Derived.Lib.SlTrimSet
import Derived.Lib.Strings
set_option linter.all false
namespace Go.Proofs.YthdfmkpebafpoaaGreatDoor
open Go Go.Abs Go.PE Go.Det
def fl (M:Mx):List Int:=row 80 fun e=>M (e / 10) (e % 10)
def up (M:Mx) (p q:Nat) (v:Int):Mx:=fun i j=>if i=p∧j=q then v else M i j
theorem fl_congr {M M':Mx} (h:∀ i j,i<8→j<10→M i j=M' i j):fl M=fl M':=row_congr fun e he=>h _ _ (by omega) (by omega)
theorem fl_idx {M:Mx} {p q:Nat} (hp:p<8) (hq:q<10) {z:Int} (hz:z=((p*10+q:Nat):Int)):idxM (fl M) z=some (M p q):=by
 rw [hz]
 unfold fl
 rw [row_idx (by omega)]
 have e1:(p*10+q) / 10=p:=by omega
 have e2:(p*10+q) % 10=q:=by omega
 rw [e1,e2]
theorem fl_set {M:Mx} {p q:Nat} {v:Int} {f:Int→Option Int} (hp:p<8) (hq:q<10) {z:Int} (hz:z=((p*10+q:Nat):Int)) (hv:f (M p q)=some v):setM (fl M) z f=some (fl (up M p q v)):=by
 rw [hz]
 have hl:(fl M).length=80:=row_length _ _
 have hg:(fl M)[((p*10+q:Nat):Int).toNat]'(by rw [hl];omega)=M p q:=by
  have h1:=fl_idx (M:=M) hp hq (z:=((p*10+q:Nat):Int)) rfl
  rw [idxM_of (by omega) (by rw [hl];omega)] at h1
  exact Option.some.inj h1
 rw [setM_of (y:=v) (by omega) (by rw [hl];omega) (by rw [hg];exact hv)]
 congr 1
 unfold fl
 rw [Int.toNat_natCast,row_set (by omega)]
 refine row_congr fun e he=>?_
 unfold up
 by_cases h:e=p*10+q
 ·rw [if_pos h,if_pos ⟨by omega,by omega⟩]
 ·rw [if_neg h,if_neg (by omega)]
theorem z1 (p q:Nat):((nat_lit 0:Nat):Int)+(p:Int)*((nat_lit 10:Nat):Int)+(q:Int)*((nat_lit 1:Nat):Int)=((p*10+q:Nat):Int):=by
 show (0:Int)+(p:Int)*10+(q:Int)*1=_
 omega
theorem z8 (p:Nat):((nat_lit 0:Nat):Int)+(p:Int)*((nat_lit 10:Nat):Int)+(8:Int)=((p*10+8:Nat):Int):=by
 show (0:Int)+(p:Int)*10+8=_
 omega
theorem z9 (p:Nat):((nat_lit 0:Nat):Int)+(p:Int)*((nat_lit 10:Nat):Int)+(9:Int)=((p*10+9:Nat):Int):=by
 show (0:Int)+(p:Int)*10+9=_
 omega
theorem ck8 {p:Nat} (h:p<8):chkM (p:Int) ((nat_lit 8:Nat):Int)=some ():=chkM_of (by omega) (by show (p:Int)<8;omega)
theorem ck10 {p:Nat} (h:p<10):chkM (p:Int) ((nat_lit 10:Nat):Int)=some ():=chkM_of (by omega) (by show (p:Int)<10;omega)
def addT (n p q vx vy:Int) (l:List Int):Option (List Int) :=
 bif eqM p n then some l else Option.bind (chkM p ((nat_lit 8:Nat):Int)) fun (_:Unit)=>Option.bind (chkM p ((nat_lit 10:Nat):Int)) fun (_:Unit) =>
 Option.bind (idxM l (((nat_lit 0:Nat):Int)+p*((nat_lit 10:Nat):Int)+p*((nat_lit 1:Nat):Int))) fun (r_4:Int)=>Option.bind (chkM p ((nat_lit 8:Nat):Int)) fun (_:Unit) =>
 Option.bind (chkM p ((nat_lit 10:Nat):Int)) fun (_:Unit)=>Option.bind (setM l (((nat_lit 0:Nat):Int)+p*((nat_lit 10:Nat):Int)+p*((nat_lit 1:Nat):Int)) fun (_:Int)=>some (IntKind.wrap IntKind.i64 (r_4+(1:Int)))) fun (r_7:List Int) =>
 Option.bind (chkM p ((nat_lit 8:Nat):Int)) fun (_:Unit)=>Option.bind (idxM r_7 (((nat_lit 0:Nat):Int)+p*((nat_lit 10:Nat):Int)+(8:Int))) fun (r_9:Int)=>Option.bind (chkM p ((nat_lit 8:Nat):Int)) fun (_:Unit) =>
 Option.bind (setM r_7 (((nat_lit 0:Nat):Int)+p*((nat_lit 10:Nat):Int)+(8:Int)) fun (_:Int)=>some (IntKind.wrap IntKind.i64 (r_9+vx))) fun (r_11:List Int) =>
 Option.bind (chkM p ((nat_lit 8:Nat):Int)) fun (_:Unit)=>Option.bind (idxM r_11 (((nat_lit 0:Nat):Int)+p*((nat_lit 10:Nat):Int)+(9:Int))) fun (r_13:Int)=>Option.bind (chkM p ((nat_lit 8:Nat):Int)) fun (_:Unit) =>
 Option.bind (setM r_11 (((nat_lit 0:Nat):Int)+p*((nat_lit 10:Nat):Int)+(9:Int)) fun (_:Int)=>some (IntKind.wrap IntKind.i64 (r_13+vy))) fun (r_15:List Int) =>
 bif ltM q n then Option.bind (chkM p ((nat_lit 8:Nat):Int)) fun (_:Unit)=>Option.bind (chkM q ((nat_lit 10:Nat):Int)) fun (_:Unit) =>
 Option.bind (idxM r_15 (((nat_lit 0:Nat):Int)+p*((nat_lit 10:Nat):Int)+q*((nat_lit 1:Nat):Int))) fun (r_18:Int)=>Option.bind (chkM p ((nat_lit 8:Nat):Int)) fun (_:Unit) =>
 Option.bind (chkM q ((nat_lit 10:Nat):Int)) fun (_:Unit)=>Option.bind (setM r_15 (((nat_lit 0:Nat):Int)+p*((nat_lit 10:Nat):Int)+q*((nat_lit 1:Nat):Int)) fun (_:Int)=>some (IntKind.wrap IntKind.i64 (r_18-(1:Int)))) fun (r:List Int)=>some r
 else some r_15
def adM (n p q:Nat) (vx vy:Int) (M:Mx):Mx:=fun i j=>if p<n∧i=p then M i j+(if j=p then 1 else 0)+(if j=8 then vx else 0)+(if j=9 then vy else 0)-(if j=q∧q<n then 1 else 0) else M i j
def Bd (C:Int) (M:Mx):Prop:=∀ i j,-C≤M i j∧M i j≤C
theorem addT_eq {n p q:Nat} {vx vy C:Int} {M:Mx} (hn:n≤8) (hp:p≤n) (hq:q≤n) (hpq:p≠q) (hx:-20000≤vx∧vx≤20000) (hy:-20000≤vy∧vy≤20000) (hC:C≤1000000000000) (hM:Bd C M):addT (n:Int) (p:Int) (q:Int) vx vy (fl M)=some (fl (adM n p q vx vy M)):=by
 unfold addT
 by_cases e:p=n
 ·rw [eqI (by omega),cond_true]
  congr 1
  refine fl_congr fun i j _ _=>?_
  unfold adM
  rw [if_neg (by omega)]
 ·rw [neI (by omega),cond_false]
  have h8:p<8:=by omega
  rw [ck8 h8,ck10 (by omega),Option.bind_some,Option.bind_some]
  refine bind_of (fl_idx h8 (by omega) (z1 p p)) ?_
  rw [Option.bind_some,Option.bind_some]
  have m1:=hM p p
  have m2:=hM p 8
  have m3:=hM p 9
  have m4:=hM p q
  refine bind_of (fl_set (v:=M p p+1) h8 (by omega) (z1 p p) (by rw [wrap_in (by omega) (by omega)])) ?_
  rw [Option.bind_some]
  have v8:up M p p (M p p+1) p 8=M p 8:=by unfold up;rw [if_neg (by omega)]
  refine bind_of (fl_idx h8 (by omega) (z8 p)) ?_
  rw [Option.bind_some,v8]
  refine bind_of (fl_set (v:=M p 8+vx) h8 (by omega) (z8 p) (by rw [wrap_in (by omega) (by omega)])) ?_
  rw [Option.bind_some]
  have v9:up (up M p p (M p p+1)) p 8 (M p 8+vx) p 9=M p 9:=by unfold up;rw [if_neg (by omega),if_neg (by omega)]
  refine bind_of (fl_idx h8 (by omega) (z9 p)) ?_
  rw [Option.bind_some,v9]
  refine bind_of (fl_set (v:=M p 9+vy) h8 (by omega) (z9 p) (by rw [wrap_in (by omega) (by omega)])) ?_
  by_cases hqn:q<n
  ·rw [ltI (by omega),cond_true,Option.bind_some,ck10 (by omega),Option.bind_some]
   have vq:up (up (up M p p (M p p+1)) p 8 (M p 8+vx)) p 9 (M p 9+vy) p q=M p q:=by unfold up;rw [if_neg (by omega),if_neg (by omega),if_neg (by omega)]
   refine bind_of (fl_idx h8 (by omega) (z1 p q)) ?_
   rw [Option.bind_some,Option.bind_some,vq]
   refine bind_of (fl_set (v:=M p q-1) h8 (by omega) (z1 p q) (by rw [wrap_in (by omega) (by omega)])) ?_
   congr 1
   refine fl_congr fun i j _ _=>?_
   clear m1 m2 m3 m4 v8 v9 vq hM
   unfold up adM
   grind
  ·rw [geI (by omega),cond_false]
   congr 1
   refine fl_congr fun i j _ _=>?_
   clear m1 m2 m3 m4 v8 v9 hM
   unfold up adM
   grind
theorem adM_bd {n p q:Nat} {vx vy C:Int} {M:Mx} (hn:n≤8) (hpq:p≠q) (hq:q≤n) (hx:-20000≤vx∧vx≤20000) (hy:-20000≤vy∧vy≤20000) (hM:Bd C M):Bd (C+50000) (adM n p q vx vy M):=fun i j=>by
 have:=hM i j
 unfold adM
 repeat' split
 all_goals omega
end Go.Proofs.YthdfmkpebafpoaaGreatDoor
namespace Go.Proofs.YthdfmkpebafpoaaGreatDoor
open Go Go.Abs Go.PE Go.Det
def obM (n a b:Nat) (dx dy:Int) (M:Mx):Mx:=adM n a b (-dx) (-dy) (adM n b a dx dy M)
def fxM (n:Nat) (M:Mx) (f:Fix):Mx:=obM n n f.1.toNat f.2.1 f.2.2.1 M
def sgM (n:Nat) (M:Mx) (s:Sgt):Mx:=obM n s.1.toNat s.2.1.toNat s.2.2.1 s.2.2.2.1 M
def nmF (n:Nat) (fs:List Fix):Mx:=fs.foldl (fxM n) fun _ _=>0
def nmA (c:Net):Mx:=c.2.2.foldl (sgM c.1.toNat) (nmF c.1.toNat c.2.1)
theorem sm_ind (f:Nat→Int) (p:Nat) (v:Int):∀ n,sm n (fun j=>f j+(if j=p then v else 0))=sm n f+(if p<n then v else 0)
 | 0=>by rw [if_neg (Nat.not_lt_zero _)];rfl
 | n+1=>by
  show sm n (fun j=>f j+(if j=p then v else 0))+(f n+(if n=p then v else 0))=sm n f+f n+(if p<n+1 then v else 0)
  rw [sm_ind f p v n]
  grind
structure NI (n:Nat) (D R:Int) (M:Mx):Prop where
 sy:∀ x j,x<n→j<n→M x j=M j x
 of:∀ x j,x<n→j<n→x≠j→M x j≤0
 rs:∀ x,x<n→0≤sm n (M x)
 dp:∀ x,x<n→0≤M x x
 ds:sm n (fun x=>M x x)≤D
 rh:∀ c,n≤c→c<10→sm n (fun x=>ab (M x c))≤R
theorem adM_row {n p q x:Nat} {vx vy:Int} {M:Mx} (hn:n≤8) (hx:x<n):sm n (adM n p q vx vy M x)=sm n (M x)+(if x=p then 1-(if q<n then 1 else 0) else 0):=by
 by_cases e:x=p
 ·subst e
  rw [if_pos rfl]
  have e1:sm n (adM n x q vx vy M x)=sm n (fun j=>(M x j+(if j=x then 1 else 0))+(if j=q then -1 else 0)):=sm_congr fun j hj=>by
   unfold adM
   grind
  rw [e1,sm_ind,sm_ind]
  grind
 ·rw [if_neg e,Int.add_zero]
  refine sm_congr fun j hj=>?_
  unfold adM
  rw [if_neg (fun h=>e h.2)]
theorem adM_dg {n p q:Nat} {vx vy:Int} {M:Mx} (hn:n≤8) (hpq:p≠q):sm n (fun x=>adM n p q vx vy M x x)=sm n (fun x=>M x x)+(if p<n then 1 else 0):=by
 rw [← sm_ind (fun x=>M x x) p 1 n]
 refine sm_congr fun x hx=>?_
 unfold adM
 grind
theorem adM_rh {n p q c:Nat} {vx vy V:Int} {M:Mx} (hn:n≤8) (hc:n≤c) (h1:-V≤vx∧vx≤V) (h2:-V≤vy∧vy≤V):sm n (fun x=>ab (adM n p q vx vy M x c))≤sm n (fun x=>ab (M x c))+(if p<n then V else 0):=by
 rw [← sm_ind (fun x=>ab (M x c)) p V n]
 refine sm_le fun x hx=>?_
 unfold adM ab
 by_cases e:p<n∧x=p
 ·rw [if_pos e,if_pos e.2,if_neg (by omega:¬ c=p),if_neg (by omega:¬ (c=q∧q<n))]
  repeat' split
  all_goals omega
 ·rw [if_neg e]
  split<;>omega
theorem obM_ni {n a b:Nat} {dx dy V D R:Int} {M:Mx} (hn:n≤8) (hab:a≠b) (ha:a≤n) (hb:b≤n) (h1:-V≤dx∧dx≤V) (h2:-V≤dy∧dy≤V) (h:NI n D R M):NI n (D+(if a<n then 1 else 0)+(if b<n then 1 else 0)) (R+(if a<n then V else 0)+(if b<n then V else 0)) (obM n a b dx dy M) where
 sy:=fun x j hx hj=>by
  have:=h.sy x j hx hj
  unfold obM adM
  grind
 of:=fun x j hx hj hne=>by
  have:=h.of x j hx hj hne
  unfold obM adM
  grind
 rs:=fun x hx=>by
  have:=h.rs x hx
  unfold obM
  rw [adM_row hn hx,adM_row hn hx]
  grind
 dp:=fun x hx=>by
  have:=h.dp x hx
  unfold obM adM
  grind
 ds:=by
  have:=h.ds
  unfold obM
  rw [adM_dg hn hab,adM_dg hn hab.symm]
  omega
 rh:=fun c hc hc10=>by
  have h3:=h.rh c hc hc10
  have h4:=adM_rh (p:=b) (q:=a) (M:=M) hn hc h1 h2
  have h5:=adM_rh (p:=a) (q:=b) (M:=adM n b a dx dy M) (vx:=-dx) (vy:=-dy) (V:=V) hn hc (by omega) (by omega)
  unfold obM
  omega
structure Sm (c:Net) (VF VS:Int):Prop where
 nok:NOK c
 fx:∀ f∈c.2.1,(-VF≤f.2.1∧f.2.1≤VF)∧-VF≤f.2.2.1∧f.2.2.1≤VF
 sg:∀ s∈c.2.2,(-VS≤s.2.2.1∧s.2.2.1≤VS)∧-VS≤s.2.2.2.1∧s.2.2.2.1≤VS
theorem nmF_ni {n:Nat} {VF:Int} (hn:n≤8):∀ (fs:List Fix) {D R:Int} {M:Mx},(∀ f∈fs,0≤f.1∧f.1<n∧(-VF≤f.2.1∧f.2.1≤VF)∧-VF≤f.2.2.1∧f.2.2.1≤VF)→NI n D R M→NI n (D+fs.length) (R+VF*fs.length) (fs.foldl (fxM n) M)
 | [],D,R,M,_,h=>by
  have e1:D+(([]:List Fix).length:Int)=D:=Int.add_zero D
  have e2:R+VF*(([]:List Fix).length:Int)=R:=by show R+VF*0=R;omega
  rw [e1,e2]
  exact h
 | f::r,D,R,M,hf,h=>by
  obtain ⟨h0,h1,h2,h3⟩:=hf f (List.mem_cons_self ..)
  have hs:=obM_ni hn (a:=n) (b:=f.1.toNat) (by omega) (Nat.le_refl n) (by omega) h2 h3 h
  rw [if_neg (Nat.lt_irrefl n),if_neg (Nat.lt_irrefl n),if_pos (by omega),if_pos (by omega)] at hs
  have ih:=nmF_ni hn r (fun f' hf'=>hf f' (List.mem_cons_of_mem _ hf')) hs
  have e1:D+0+1+(r.length:Int)=D+((f::r).length:Int):=by rw [List.length_cons];omega
  have e2:R+0+VF+VF*(r.length:Int)=R+VF*((f::r).length:Int):=by rw [List.length_cons];grind
  rw [e1,e2] at ih
  exact ih
theorem nmS_ni {n:Nat} {VS:Int} (hn:n≤8):∀ (ss:List Sgt) {D R:Int} {M:Mx},(∀ s∈ss,(0≤s.1∧s.1<n)∧(0≤s.2.1∧s.2.1<n)∧s.1≠s.2.1∧(-VS≤s.2.2.1∧s.2.2.1≤VS)∧-VS≤s.2.2.2.1∧s.2.2.2.1≤VS)→NI n D R M→NI n (D+2*ss.length) (R+2*VS*ss.length) (ss.foldl (sgM n) M)
 | [],D,R,M,_,h=>by
  have e1:D+2*(([]:List Sgt).length:Int)=D:=Int.add_zero D
  have e2:R+2*VS*(([]:List Sgt).length:Int)=R:=by show R+2*VS*0=R;omega
  rw [e1,e2]
  exact h
 | s::r,D,R,M,hf,h=>by
  obtain ⟨h0,h1,hne,h2,h3⟩:=hf s (List.mem_cons_self ..)
  have hs:=obM_ni hn (a:=s.1.toNat) (b:=s.2.1.toNat) (by omega) (by omega) (by omega) h2 h3 h
  rw [if_pos (by omega),if_pos (by omega),if_pos (by omega),if_pos (by omega)] at hs
  have ih:=nmS_ni hn r (fun f' hf'=>hf f' (List.mem_cons_of_mem _ hf')) hs
  have e1:D+1+1+2*(r.length:Int)=D+2*((s::r).length:Int):=by rw [List.length_cons];omega
  have e2:R+VS+VS+2*VS*(r.length:Int)=R+2*VS*((s::r).length:Int):=by rw [List.length_cons];grind
  rw [e1,e2] at ih
  exact ih
theorem nmA_ni {c:Net} {VF VS:Int} (h:Sm c VF VS):NI c.1.toNat ((c.2.1.length:Int)+2*c.2.2.length) (VF*c.2.1.length+2*VS*c.2.2.length) (nmA c):=by
 have h0:=h.nok.n0
 have h8:=h.nok.n8
 have z:NI c.1.toNat 0 0 (fun _ _=>0):=⟨fun _ _ _ _=>rfl,fun _ _ _ _ _=>Int.le_refl 0,fun _ _=>by rw [sm_zero fun _ _=>rfl];exact Int.le_refl 0,fun _ _=>Int.le_refl 0,by rw [sm_zero fun _ _=>rfl];exact Int.le_refl 0,fun c _ _=>Int.le_of_eq (sm_zero fun _ _=>by show ab 0=0;decide)⟩
 have h1:=nmF_ni (VF:=VF) (by omega) c.2.1 (fun f hf=>by
  have:=h.nok.fx f hf
  have:=h.fx f hf
  omega) z
 have h2:=nmS_ni (VS:=VS) (by omega) c.2.2 (fun s hs=>by
  have:=h.nok.sg s hs
  have:=h.sg s hs
  omega) h1
 rw [Int.zero_add,Int.zero_add] at h2
 exact h2
def dgN (M:Mx) (x:Nat):Nat:=(M x x).toNat
theorem lap_of {n:Nat} {D R:Int} {M:Mx} (hn:n≤8) (h:NI n D R M) (hD:D≤40) (hR:R≤50000):Lap M n 10 50000 (dgN M) where
 hW:=by omega
 hn:=hn
 hB:=by decide
 hB2:=by decide
 sy:=h.sy
 of:=h.of
 rs:=h.rs
 dg:=fun x hx=>by have:=h.dp x hx;unfold dgN;omega
 sd:=by
  have e:∀ k,k≤n→((sd (dgN M) k:Nat):Int)=sm k fun x=>M x x:=by
   intro k
   induction k with
   | zero=>intro _;rfl
   | succ k ih =>
    intro hk
    have i1:=ih (by omega)
    have i2:=h.dp k (by omega)
    show ((sd (dgN M) k+dgN M k:Nat):Int)=sm k (fun x=>M x x)+M k k
    unfold dgN at *
    omega
  have:=e n (Nat.le_refl n)
  have:=h.ds
  omega
 rh:=fun c hc hc10=>by have:=h.rh c hc hc10;omega
end Go.Proofs.YthdfmkpebafpoaaGreatDoor
namespace Go.Proofs.YthdfmkpebafpoaaGreatDoor
open Go Go.Abs Go.PE Go.Det
def obT (n a b dx dy:Int) (l:List Int):Option (List Int):=Option.bind (addT n b a dx dy l) fun ov=>addT n a b (IntKind.wrap IntKind.i64 (negM dx)) (IntKind.wrap IntKind.i64 (negM dy)) ov
theorem obT_eq {n a b:Nat} {dx dy C:Int} {M:Mx} (hn:n≤8) (ha:a≤n) (hb:b≤n) (hab:a≠b) (h1:-20000≤dx∧dx≤20000) (h2:-20000≤dy∧dy≤20000) (hC:C≤100000000000) (hM:Bd C M):obT (n:Int) (a:Int) (b:Int) dx dy (fl M)=some (fl (obM n a b dx dy M)):=by
 unfold obT
 have w1:IntKind.wrap IntKind.i64 (negM dx)=-dx:=wrap_in (n:=-dx) (by omega) (by omega)
 have w2:IntKind.wrap IntKind.i64 (negM dy)=-dy:=wrap_in (n:=-dy) (by omega) (by omega)
 rw [w1,w2]
 refine bind_of (addT_eq hn hb ha hab.symm h1 h2 (by omega) hM) ?_
 exact addT_eq (C:=C+50000) hn ha hb hab (by omega) (by omega) (by omega) (adM_bd hn hab.symm ha h1 h2 hM)
theorem obM_bd {n a b:Nat} {dx dy C:Int} {M:Mx} (hn:n≤8) (ha:a≤n) (hb:b≤n) (hab:a≠b) (h1:-20000≤dx∧dx≤20000) (h2:-20000≤dy∧dy≤20000) (hM:Bd C M):Bd (C+100000) (obM n a b dx dy M):=by
 have:=adM_bd (n:=n) (p:=a) (q:=b) (vx:=-dx) (vy:=-dy) hn hab hb (by omega) (by omega) (adM_bd hn hab.symm ha h1 h2 hM)
 intro i j
 have:=this i j
 unfold obM
 omega
theorem fold_loop {α:Type} {xs:List α} (g:Mx→α→Mx) (M0:Mx) {body:Int×List Int→Option ((Int×List Int)⊕List Int)}
  (hb:∀ k (hk:k<xs.length),body ((k:Int),fl ((xs.take k).foldl g M0))=some (.inl ((k:Int)+1,fl (g ((xs.take k).foldl g M0) xs[k])))) (he:body ((xs.length:Int),fl (xs.foldl g M0))=some (.inr (fl (xs.foldl g M0)))):loopM body ((0:Int),fl M0)=some (fl (xs.foldl g M0)):=by
 refine count_loop (fun k=>fl ((xs.take k).foldl g M0)) xs.length (fun k hk=>?_) ?_
 ·rw [hb k hk,List.take_succ_eq_append_getElem hk,List.foldl_append]
  rfl
 ·rw [List.take_length]
  exact he
theorem fold_bd {α:Type} (g:Mx→α→Mx):∀ (xs:List α) {C:Int} {M:Mx},(∀ x∈xs,∀ C M,Bd C M→Bd (C+100000) (g M x))→Bd C M→Bd (C+100000*xs.length) (xs.foldl g M)
 | [],C,M,_,h=>by
  have e:C+100000*(([]:List α).length:Int)=C:=Int.add_zero C
  rw [e];exact h
 | x::r,C,M,hx,h=>by
  have ih:=fold_bd g r (fun y hy=>hx y (List.mem_cons_of_mem _ hy)) (hx x (List.mem_cons_self ..) C M h)
  have e:C+100000+100000*(r.length:Int)=C+100000*((x::r).length:Int):=by rw [List.length_cons];omega
  rw [e] at ih
  exact ih
theorem fx_bd {c:Net} (h:NOK c):∀ f∈c.2.1,∀ C M,Bd C M→Bd (C+100000) (fxM c.1.toNat M f):=fun f hf C M hM=>by
 have h0:=h.n0
 have h8:=h.n8
 have:=h.fx f hf
 exact obM_bd (by omega) (Nat.le_refl _) (by omega) (by omega) (by omega) (by omega) hM
theorem sg_bd {c:Net} (h:NOK c):∀ s∈c.2.2,∀ C M,Bd C M→Bd (C+100000) (sgM c.1.toNat M s):=fun s hs C M hM=>by
 have h0:=h.n0
 have h8:=h.n8
 have:=h.sg s hs
 exact obM_bd (by omega) (by omega) (by omega) (by omega) (by omega) (by omega) hM
theorem nm_fix {c:Net} (h:NOK c):loopM (fun (s:Int×List Int)=>bif ltM s.1 (lenM c.2.1) then Option.bind (idxM c.2.1 s.1) fun (r_1:Int×Int×Int×Int)=>Option.bind (addT c.1 r_1.1 c.1 r_1.2.1 r_1.2.2.1 s.2) fun (ov:List Int)=>Option.bind (addT c.1 c.1 r_1.1 (IntKind.wrap IntKind.i64 (negM r_1.2.1)) (IntKind.wrap IntKind.i64 (negM r_1.2.2.1)) ov) fun (ov:List Int)=>some (Sum.inl (IntKind.wrap IntKind.i64 (s.1+(1:Int)),ov)) else some (Sum.inr s.2)) ((0:Int),fl fun _ _=>0)=some (fl (nmF c.1.toNat c.2.1)):=by
 have h0:=h.n0
 have h8:=h.n8
 have hl:=h.fl
 have hN:c.1=((c.1.toNat:Nat):Int):=by omega
 have hz:Bd 0 (fun _ _=>0):=fun _ _=>⟨by show (-0:Int)≤0;omega,by show (0:Int)≤0;omega⟩
 refine fold_loop (fxM c.1.toNat) (fun _ _=>0) (fun k hk=>?_) ?_
 ·have hm:=h.fx _ (List.getElem_mem hk)
  have hb:=fold_bd (fxM c.1.toNat) (c.2.1.take k) (fun f hf=>fx_bd h f (List.mem_of_mem_take hf)) hz
  have hlk:(c.2.1.take k).length≤8:=by rw [List.length_take];omega
  dsimp only
  rw [ltI (by show (k:Int)<(c.2.1.length:Int);omega),cond_true,idxM_lt hk,Option.bind_some]
  generalize (c.2.1.take k).foldl (fxM c.1.toNat) (fun _ _=>0)=M at *
  generalize c.2.1[k]=f at *
  have ho:=obT_eq (n:=c.1.toNat) (a:=c.1.toNat) (b:=f.1.toNat) (dx:=f.2.1) (dy:=f.2.2.1) (M:=M) (by omega) (Nat.le_refl _) (by omega) (by omega) (by omega) (by omega) (by omega) hb
  have hp:((f.1.toNat:Nat):Int)=f.1:=by omega
  rw [hp,← hN] at ho
  unfold obT at ho
  obtain ⟨ov,g1,g2⟩:=Option.bind_eq_some_iff.1 ho
  refine bind_of g1 (bind_of g2 ?_)
  rw [wrap_in (by omega) (by omega)]
  rfl
 ·dsimp only
  rw [geI (by show (c.2.1.length:Int)≤(c.2.1.length:Int);omega),cond_false]
theorem nm_sgt {c:Net} (h:NOK c):loopM (fun (s:Int×List Int)=>bif ltM s.1 (lenM c.2.2) then Option.bind (idxM c.2.2 s.1) fun (r_1:Int×Int×Int×Int×Int)=>Option.bind (addT c.1 r_1.2.1 r_1.1 r_1.2.2.1 r_1.2.2.2.1 s.2) fun (ov:List Int)=>Option.bind (addT c.1 r_1.1 r_1.2.1 (IntKind.wrap IntKind.i64 (negM r_1.2.2.1)) (IntKind.wrap IntKind.i64 (negM r_1.2.2.2.1)) ov) fun (ov:List Int)=>some (Sum.inl (IntKind.wrap IntKind.i64 (s.1+(1:Int)),ov)) else some (Sum.inr s.2)) ((0:Int),fl (nmF c.1.toNat c.2.1))=some (fl (nmA c)):=by
 have h0:=h.n0
 have h8:=h.n8
 have hl:=h.fl
 have hl2:=h.sl
 have hN:c.1=((c.1.toNat:Nat):Int):=by omega
 have hz:Bd 0 (fun _ _=>0):=fun _ _=>⟨by show (-0:Int)≤0;omega,by show (0:Int)≤0;omega⟩
 have hz2:=fold_bd (fxM c.1.toNat) c.2.1 (fx_bd h) hz
 refine fold_loop (sgM c.1.toNat) (nmF c.1.toNat c.2.1) (fun k hk=>?_) ?_
 ·have hm:=h.sg _ (List.getElem_mem hk)
  have hb:=fold_bd (sgM c.1.toNat) (c.2.2.take k) (fun f hf=>sg_bd h f (List.mem_of_mem_take hf)) hz2
  have hlk:(c.2.2.take k).length≤20:=by rw [List.length_take];omega
  dsimp only
  rw [ltI (by show (k:Int)<(c.2.2.length:Int);omega),cond_true,idxM_lt hk,Option.bind_some]
  have eF:c.2.1.foldl (fxM c.1.toNat) (fun _ _=>0)=nmF c.1.toNat c.2.1:=rfl
  rw [eF] at hb
  generalize (c.2.2.take k).foldl (sgM c.1.toNat) (nmF c.1.toNat c.2.1)=M at *
  generalize c.2.2[k]=s at *
  have ho:=obT_eq (n:=c.1.toNat) (a:=s.1.toNat) (b:=s.2.1.toNat) (dx:=s.2.2.1) (dy:=s.2.2.2.1) (M:=M) (by omega) (by omega) (by omega) (by omega) (by omega) (by omega) (by omega) hb
  have hp:((s.1.toNat:Nat):Int)=s.1:=by omega
  have hq:((s.2.1.toNat:Nat):Int)=s.2.1:=by omega
  rw [hp,hq,← hN] at ho
  unfold obT at ho
  obtain ⟨ov,g1,g2⟩:=Option.bind_eq_some_iff.1 ho
  refine bind_of g1 (bind_of g2 ?_)
  rw [wrap_in (by omega) (by omega)]
  rfl
 ·dsimp only
  rw [geI (by show (c.2.2.length:Int)≤(c.2.2.length:Int);omega),cond_false]
end Go.Proofs.YthdfmkpebafpoaaGreatDoor
namespace Go.Proofs.YthdfmkpebafpoaaGreatDoor
open Go Go.Abs Go.PE Go.Det
theorem fl_len (M:Mx):(fl M).length=80:=row_length _ _
theorem fl_part {M:Mx} {p:Nat} (hp:p<8):((fl M).take (p*10+10)).drop (p*10)=row 10 (M p):=by
 apply List.ext_getElem?
 intro j
 rw [List.getElem?_drop,List.getElem?_take]
 by_cases hj:j<10
 ·rw [if_pos (by omega),row_get hj]
  unfold fl
  rw [row_get (by omega)]
  have e1:(p*10+j) / 10=p:=by omega
  have e2:(p*10+j) % 10=j:=by omega
  rw [e1,e2]
 ·rw [if_neg (by omega),List.getElem?_eq_none (by rw [row_length];omega)]
theorem fl_slice {M:Mx} {p:Nat} (hp:p<8) {lo hi:Int} (h1:lo=((p*10:Nat):Int)) (h2:hi=((p*10+10:Nat):Int)):sliceM (fl M) lo hi=some (row 10 (M p)):=by
 rw [h1,h2,sliceM_of (by omega) (by omega) (by rw [fl_len];omega),Int.toNat_natCast,Int.toNat_natCast,fl_part hp]
theorem fl_put {M:Mx} {p:Nat} (hp:p<8) {z:Int} (hz:z=((p*10:Nat):Int)):putM (fl M) z (row 10 (M p))=some (fl M):=by
 rw [hz]
 unfold putM
 have hl:(row 10 (M p)).length=10:=row_length _ _
 rw [decide_eq_true (by omega),hl,decide_eq_true (by rw [fl_len];omega)]
 dsimp only
 congr 1
 rw [Int.toNat_natCast,← fl_part hp]
 have e:(fl M).take (p*10)=((fl M).take (p*10+10)).take (p*10):=by rw [List.take_take];congr 1;omega
 rw [e,← List.append_assoc,List.take_append_drop,List.take_append_drop]
theorem ten_row (g:Nat→Int):[nthD (row 10 g) (nat_lit 0) (0:Int),nthD (row 10 g) (nat_lit 1) (0:Int),nthD (row 10 g) (nat_lit 2) (0:Int),nthD (row 10 g) (nat_lit 3) (0:Int),nthD (row 10 g) (nat_lit 4) (0:Int),nthD (row 10 g) (nat_lit 5) (0:Int),nthD (row 10 g) (nat_lit 6) (0:Int),nthD (row 10 g) (nat_lit 7) (0:Int),nthD (row 10 g) (nat_lit 8) (0:Int),nthD (row 10 g) (nat_lit 9) (0:Int)]=row 10 g:=rfl
theorem zr (p:Nat):((nat_lit 0:Nat):Int)+(p:Int)*((nat_lit 10:Nat):Int)=((p*10:Nat):Int):=by
 show (0:Int)+(p:Int)*10=_
 omega
theorem zr2 (p:Nat):((nat_lit 0:Nat):Int)+(p:Int)*((nat_lit 10:Nat):Int)+((nat_lit 10:Nat):Int)=((p*10+10:Nat):Int):=by
 show (0:Int)+(p:Int)*10+10=_
 omega
theorem srch {n k:Nat} {m:Mx} (hn:n≤8) (hk:k<n) (hz:m k k=0→∀ x,k≤x→x<n→m x k=0):loopM (fun (s_1:Int)=>Option.bind (bif ltM s_1 (n:Int) then chkM s_1 ((nat_lit 8:Nat):Int) else some ()) fun (r_1:Unit)=>Option.bind (bif ltM s_1 (n:Int) then chkM (k:Int) ((nat_lit 10:Nat):Int) else some ()) fun (r_2:Unit) =>
  Option.bind (bif ltM s_1 (n:Int) then idxM (fl m) (((nat_lit 0:Nat):Int)+s_1*((nat_lit 10:Nat):Int)+(k:Int)*((nat_lit 1:Nat):Int)) else some (0:Int)) fun (r:Int)=>bif PE.andM (ltM s_1 (n:Int)) (eqM r (0:Int)) then some (Sum.inl (IntKind.wrap IntKind.i64 (s_1+(1:Int)))) else some (Sum.inr s_1)) (k:Int)=some (if m k k=0 then (n:Int) else (k:Int)):=by
 have row1:∀ x:Nat,x<n→(Option.bind (bif ltM (x:Int) (n:Int) then chkM (x:Int) ((nat_lit 8:Nat):Int) else some ()) fun (r_1:Unit)=>Option.bind (bif ltM (x:Int) (n:Int) then chkM (k:Int) ((nat_lit 10:Nat):Int) else some ()) fun (r_2:Unit) =>
  Option.bind (bif ltM (x:Int) (n:Int) then idxM (fl m) (((nat_lit 0:Nat):Int)+(x:Int)*((nat_lit 10:Nat):Int)+(k:Int)*((nat_lit 1:Nat):Int)) else some (0:Int)) fun (r:Int)=>bif PE.andM (ltM (x:Int) (n:Int)) (eqM r (0:Int)) then some (Sum.inl (β:=Int) (IntKind.wrap IntKind.i64 ((x:Int)+(1:Int)))) else some (Sum.inr (x:Int)))=(bif eqM (m x k) 0 then some (Sum.inl ((x:Int)+1)) else some (Sum.inr (x:Int))):=fun x hx=>by
  rw [ltI (by omega),cond_true,cond_true,cond_true,ck8 (by omega),ck10 (by omega),Option.bind_some,Option.bind_some,fl_idx (by omega) (by omega) (z1 x k),Option.bind_some,andT,wrap_in (by omega) (by omega)]
 by_cases h0:m k k=0
 ·rw [if_pos h0]
  have L:=loopM_fn (body:=fun (s_1:Int)=>Option.bind (bif ltM s_1 (n:Int) then chkM s_1 ((nat_lit 8:Nat):Int) else some ()) fun (r_1:Unit)=>Option.bind (bif ltM s_1 (n:Int) then chkM (k:Int) ((nat_lit 10:Nat):Int) else some ()) fun (r_2:Unit) =>
   Option.bind (bif ltM s_1 (n:Int) then idxM (fl m) (((nat_lit 0:Nat):Int)+s_1*((nat_lit 10:Nat):Int)+(k:Int)*((nat_lit 1:Nat):Int)) else some (0:Int)) fun (r:Int)=>bif PE.andM (ltM s_1 (n:Int)) (eqM r (0:Int)) then some (Sum.inl (IntKind.wrap IntKind.i64 (s_1+(1:Int)))) else some (Sum.inr s_1)) (fun j=>((k+j:Nat):Int)) (n-k) (r:=(n:Int)) (fun j hj=>by
    dsimp only
    rw [row1 (k+j) (by omega),eqI (hz h0 (k+j) (by omega) (by omega)),cond_true]
    congr 2) (by
    dsimp only
    have e:((k+(n-k):Nat):Int)=(n:Int):=by omega
    rw [e,geI (Int.le_refl _)]
    rfl)
  exact L
 ·rw [if_neg h0]
  exact loopM_fn (fun _=>(k:Int)) 0 (fun j hj=>absurd hj (Nat.not_lt_zero _)) (by
   dsimp only
   rw [row1 k hk,neI h0,cond_false])
def part (m:Mx) (k i:Nat) (d:Int) (j:Nat):Mx:=fun x y=>if x=i∧y<j then (tt m k i y).tdiv d else m x y
theorem row_loop {n k i:Nat} {m:Mx} {d:Int} (hn:n≤8) (hk:k<n) (hi:i<n) (hik:i≠k) (hd:0<d) (b1:∀ j,j<10→ab (m i j)≤671846400000) (b2:∀ j,j<10→ab (m k j)≤83980800000) (b3:ab (m i k)≤67184640) (b4:ab (m k k)≤1679616):loopM (fun (s_2:Int×List Int)=>bif ltM s_2.1 (10:Int) then Option.bind (chkM (i:Int) ((nat_lit 8:Nat):Int)) fun (r_12:Unit)=>Option.bind (chkM s_2.1 ((nat_lit 10:Nat):Int)) fun (r_13:Unit)=>Option.bind (idxM s_2.2 (((nat_lit 0:Nat):Int)+(i:Int)*((nat_lit 10:Nat):Int)+s_2.1*((nat_lit 1:Nat):Int))) fun (r_14:Int) =>
  Option.bind (chkM (k:Int) ((nat_lit 8:Nat):Int)) fun (r_15:Unit)=>Option.bind (chkM (k:Int) ((nat_lit 10:Nat):Int)) fun (r_16:Unit)=>Option.bind (idxM s_2.2 (((nat_lit 0:Nat):Int)+(k:Int)*((nat_lit 10:Nat):Int)+(k:Int)*((nat_lit 1:Nat):Int))) fun (r_17:Int) =>
  Option.bind (chkM (k:Int) ((nat_lit 8:Nat):Int)) fun (r_18:Unit)=>Option.bind (chkM s_2.1 ((nat_lit 10:Nat):Int)) fun (r_19:Unit)=>Option.bind (idxM s_2.2 (((nat_lit 0:Nat):Int)+(k:Int)*((nat_lit 10:Nat):Int)+s_2.1*((nat_lit 1:Nat):Int))) fun (r_20:Int) =>
  Option.bind (divM IntKind.i64 (IntKind.wrap IntKind.i64 (IntKind.wrap IntKind.i64 (r_14*r_17)-IntKind.wrap IntKind.i64 (m i k*r_20))) d) fun (r_21:Int)=>Option.bind (chkM (i:Int) ((nat_lit 8:Nat):Int)) fun (r_22:Unit)=>Option.bind (chkM s_2.1 ((nat_lit 10:Nat):Int)) fun (r_23:Unit) =>
  Option.bind (setM s_2.2 (((nat_lit 0:Nat):Int)+(i:Int)*((nat_lit 10:Nat):Int)+s_2.1*((nat_lit 1:Nat):Int)) fun (x:Int)=>some r_21) fun (r:List Int)=>some (Sum.inl (IntKind.wrap IntKind.i64 (s_2.1+(1:Int)),r)) else some (Sum.inr s_2.2)) ((0:Int),fl m)=some (fl (part m k i d 10)):=by
 have e0:fl m=fl (part m k i d 0):=fl_congr fun x y _ _=>by unfold part;rw [if_neg (by omega)]
 rw [e0]
 refine count_loop (fun j=>fl (part m k i d j)) 10 (fun j hj=>?_) ?_
 ·dsimp only
  rw [ltI (by omega),cond_true,ck8 (by omega),ck10 hj,Option.bind_some,Option.bind_some]
  refine bind_of (fl_idx (by omega) hj (z1 i j)) ?_
  rw [ck8 (by omega),ck10 (by omega),Option.bind_some,Option.bind_some]
  refine bind_of (fl_idx (by omega) (by omega) (z1 k k)) ?_
  rw [Option.bind_some,Option.bind_some]
  refine bind_of (fl_idx (by omega) hj (z1 k j)) ?_
  have p1:part m k i d j i j=m i j:=by unfold part;rw [if_neg (by omega)]
  have p2:part m k i d j k k=m k k:=by unfold part;rw [if_neg (by omega)]
  have p3:part m k i d j k j=m k j:=by unfold part;rw [if_neg (by omega)]
  rw [p1,p2,p3]
  have q1:ab (m i j*m k k)≤671846400000*1679616:=by
   rw [ab_mul]
   exact Int.mul_le_mul (b1 j hj) b4 (ab_pos _) (by omega)
  have q2:ab (m i k*m k j)≤67184640*83980800000:=by
   rw [ab_mul]
   exact Int.mul_le_mul b3 (b2 j hj) (ab_pos _) (by omega)
  have r1:=ab_le (m i j*m k k)
  have r2:=ab_le (m i k*m k j)
  have ht:tt m k i j=m i j*m k k-m i k*m k j:=rfl
  have w:IntKind.wrap IntKind.i64 (IntKind.wrap IntKind.i64 (m i j*m k k)-IntKind.wrap IntKind.i64 (m i k*m k j))=tt m k i j:=by
   rw [wrap_in (n:=m i j*m k k) (by omega) (by omega),wrap_in (n:=m i k*m k j) (by omega) (by omega),wrap_in (n:=m i j*m k k-m i k*m k j) (by omega) (by omega),ht]
  rw [w]
  have hq1:-9000000000000000000≤(tt m k i j).tdiv d∧(tt m k i j).tdiv d≤9000000000000000000:=by
   have ha:-9000000000000000000≤tt m k i j∧tt m k i j≤9000000000000000000:=by omega
   generalize tt m k i j=t at *
   have:=Int.natAbs_tdiv_le_natAbs t d
   omega
  refine bind_of (divM_pos (by omega)) ?_
  rw [Option.bind_some,Option.bind_some,wrap_in (n:=(tt m k i j).tdiv d) (by omega) (by omega)]
  refine bind_of (fl_set (v:=(tt m k i j).tdiv d) (by omega) hj (z1 i j) rfl) ?_
  rw [wrap_in (by omega) (by omega)]
  congr 3
  refine fl_congr fun x y _ _=>?_
  unfold up part
  by_cases hx:x=i∧y=j
  ·rw [if_pos hx,if_pos ⟨hx.1,by omega⟩,hx.2]
  ·rw [if_neg hx]
   by_cases hy:x=i∧y<j
   ·rw [if_pos hy,if_pos ⟨hy.1,by omega⟩]
   ·rw [if_neg hy,if_neg (by omega)]
 ·dsimp only
  rw [geI (by omega),cond_false]
end Go.Proofs.YthdfmkpebafpoaaGreatDoor
namespace Go.Proofs.YthdfmkpebafpoaaGreatDoor
open Go Go.Abs Go.PE Go.Det
noncomputable def redB (n:Int):Int×Int×List Int→Option ((Int×Int×List Int)⊕((Int×List Int)⊕(Int×List Int))) :=
 (fun (s:Int×Int×List Int)=>bif ltM s.2.1 n then Option.bind (loopM (fun (s_1:Int)=>Option.bind (bif ltM s_1 n then chkM s_1 ((nat_lit 8:Nat):Int) else some ())
 fun (r_1:Unit)=>Option.bind (bif ltM s_1 n then chkM s.2.1 ((nat_lit 10:Nat):Int) else some ()) fun (r_2:Unit)=>Option.bind (bif ltM s_1 n then idxM s.2.2 (((nat_lit 0:Nat):Int)+s_1*((nat_lit 10:Nat):Int)+s.2.1*((nat_lit 1:Nat):Int)) else some (0:Int))
 fun (r:Int)=>bif PE.andM (ltM s_1 n) (eqM r (0:Int)) then some (Sum.inl (IntKind.wrap IntKind.i64 (s_1+(1:Int)))) else some (Sum.inr s_1)) s.2.1)
 fun (o_2:Int)=>bif eqM o_2 n then some (Sum.inr (Sum.inr ((0:Int),s.2.2))) else Option.bind (chkM s.2.1 ((nat_lit 8:Nat):Int))
 fun (r_1:Unit)=>Option.bind (sliceM s.2.2 (((nat_lit 0:Nat):Int)+s.2.1*((nat_lit 10:Nat):Int)) (((nat_lit 0:Nat):Int)+s.2.1*((nat_lit 10:Nat):Int)+((nat_lit 10:Nat):Int)))
 fun (r_2:List Int)=>Option.bind (chkM o_2 ((nat_lit 8:Nat):Int)) fun (r_3:Unit)=>Option.bind (sliceM s.2.2 (((nat_lit 0:Nat):Int)+o_2*((nat_lit 10:Nat):Int)) (((nat_lit 0:Nat):Int)+o_2*((nat_lit 10:Nat):Int)+((nat_lit 10:Nat):Int)))
 fun (r_4:List Int)=>Option.bind (chkM o_2 ((nat_lit 8:Nat):Int)) fun (r_5:Unit)=>Option.bind (putM s.2.2 (((nat_lit 0:Nat):Int)+o_2*((nat_lit 10:Nat):Int)) [nthD r_2 (nat_lit 0) (0:Int),nthD r_2 (nat_lit 1) (0:Int),nthD r_2 (nat_lit 2) (0:Int),nthD r_2 (nat_lit 3) (0:Int),nthD r_2 (nat_lit 4) (0:Int),nthD r_2 (nat_lit 5) (0:Int),nthD r_2 (nat_lit 6) (0:Int),nthD r_2 (nat_lit 7) (0:Int),nthD r_2 (nat_lit 8) (0:Int),nthD r_2 (nat_lit 9) (0:Int)])
 fun (r_6:List Int)=>Option.bind (chkM s.2.1 ((nat_lit 8:Nat):Int)) fun (r_7:Unit)=>Option.bind (putM r_6 (((nat_lit 0:Nat):Int)+s.2.1*((nat_lit 10:Nat):Int)) [nthD r_4 (nat_lit 0) (0:Int),nthD r_4 (nat_lit 1) (0:Int),nthD r_4 (nat_lit 2) (0:Int),nthD r_4 (nat_lit 3) (0:Int),nthD r_4 (nat_lit 4) (0:Int),nthD r_4 (nat_lit 5) (0:Int),nthD r_4 (nat_lit 6) (0:Int),nthD r_4 (nat_lit 7) (0:Int),nthD r_4 (nat_lit 8) (0:Int),nthD r_4 (nat_lit 9) (0:Int)])
 fun (r_8:List Int)=>Option.bind (loopM (fun (s_1:Int×List Int)=>bif ltM s_1.1 n then Option.bind (bif eqM s_1.1 s.2.1 then some s_1.2 else Option.bind (chkM s_1.1 ((nat_lit 8:Nat):Int))
 fun (r_9:Unit)=>Option.bind (chkM s.2.1 ((nat_lit 10:Nat):Int)) fun (r_10:Unit)=>Option.bind (idxM s_1.2 (((nat_lit 0:Nat):Int)+s_1.1*((nat_lit 10:Nat):Int)+s.2.1*((nat_lit 1:Nat):Int)))
 fun (r_11:Int)=>Option.bind (loopM (fun (s_2:Int×List Int)=>bif ltM s_2.1 (10:Int) then Option.bind (chkM s_1.1 ((nat_lit 8:Nat):Int))
 fun (r_12:Unit)=>Option.bind (chkM s_2.1 ((nat_lit 10:Nat):Int)) fun (r_13:Unit)=>Option.bind (idxM s_2.2 (((nat_lit 0:Nat):Int)+s_1.1*((nat_lit 10:Nat):Int)+s_2.1*((nat_lit 1:Nat):Int)))
 fun (r_14:Int)=>Option.bind (chkM s.2.1 ((nat_lit 8:Nat):Int)) fun (r_15:Unit)=>Option.bind (chkM s.2.1 ((nat_lit 10:Nat):Int))
 fun (r_16:Unit)=>Option.bind (idxM s_2.2 (((nat_lit 0:Nat):Int)+s.2.1*((nat_lit 10:Nat):Int)+s.2.1*((nat_lit 1:Nat):Int)))
 fun (r_17:Int)=>Option.bind (chkM s.2.1 ((nat_lit 8:Nat):Int)) fun (r_18:Unit)=>Option.bind (chkM s_2.1 ((nat_lit 10:Nat):Int))
 fun (r_19:Unit)=>Option.bind (idxM s_2.2 (((nat_lit 0:Nat):Int)+s.2.1*((nat_lit 10:Nat):Int)+s_2.1*((nat_lit 1:Nat):Int)))
 fun (r_20:Int)=>Option.bind (divM IntKind.i64 (IntKind.wrap IntKind.i64 (IntKind.wrap IntKind.i64 (r_14*r_17)-IntKind.wrap IntKind.i64 (r_11*r_20))) s.1)
 fun (r_21:Int)=>Option.bind (chkM s_1.1 ((nat_lit 8:Nat):Int)) fun (r_22:Unit)=>Option.bind (chkM s_2.1 ((nat_lit 10:Nat):Int))
 fun (r_23:Unit)=>Option.bind (setM s_2.2 (((nat_lit 0:Nat):Int)+s_1.1*((nat_lit 10:Nat):Int)+s_2.1*((nat_lit 1:Nat):Int))
 fun (x:Int)=>some r_21) fun (r:List Int)=>some (Sum.inl (IntKind.wrap IntKind.i64 (s_2.1+(1:Int)),r)) else some (Sum.inr s_2.2)) ((0:Int),s_1.2))
 fun (o:List Int)=>some o) fun (o:List Int)=>some (Sum.inl (IntKind.wrap IntKind.i64 (s_1.1+(1:Int)),o)) else some (Sum.inr s_1.2)) ((0:Int),r_8))
 fun (o_3:List Int)=>Option.bind (chkM s.2.1 ((nat_lit 8:Nat):Int)) fun (r_9:Unit)=>Option.bind (chkM s.2.1 ((nat_lit 10:Nat):Int))
 fun (r_10:Unit)=>Option.bind (idxM o_3 (((nat_lit 0:Nat):Int)+s.2.1*((nat_lit 10:Nat):Int)+s.2.1*((nat_lit 1:Nat):Int)))
 fun (r:Int)=>some (Sum.inl (r,IntKind.wrap IntKind.i64 (s.2.1+(1:Int)),o_3)) else some (Sum.inr (Sum.inl (s.1,s.2.2))))
def pr (m:Mx) (k:Nat) (d:Int) (i:Nat):Mx:=fun x y=>if x<i∧x≠k then (tt m k x y).tdiv d else m x y
theorem red_step {n k:Nat} {m:Mx} {d:Int} (hn:n≤8) (hk:k<n) (hd:0<d) (hp:m k k≠0) (b1:∀ i j,i<n→j<10→ab (m i j)≤671846400000) (b2:∀ j,j<10→ab (m k j)≤83980800000) (b3:∀ i,i<n→ab (m i k)≤67184640) (b4:ab (m k k)≤1679616) :
  redB (n:Int) (d,(k:Int),fl m)=some (.inl (m k k,(k:Int)+1,fl (pr m k d n))):=by
 unfold redB
 dsimp only
 rw [ltI (by omega),cond_true]
 refine bind_of (srch hn hk fun h=>absurd h hp) ?_
 rw [if_neg hp,neI (by omega),cond_false]
 have k8:=ck8 (p:=k) (by omega)
 have hput:=fl_put (M:=m) (p:=k) (by omega) (zr k)
 rw [← ten_row (m k)] at hput
 refine bind_of k8 (bind_of (fl_slice (by omega) (zr k) (zr2 k)) (bind_of k8 (bind_of (fl_slice (by omega) (zr k) (zr2 k)) (bind_of k8 (bind_of hput (bind_of k8 (bind_of hput ?_)))))))
 refine bind_of (x:=fl (pr m k d n)) ?_ ?_
 ·have e0:fl m=fl (pr m k d 0):=fl_congr fun x y _ _=>by unfold pr;rw [if_neg (by omega)]
  rw [e0]
  refine count_loop (fun i=>fl (pr m k d i)) n (fun i hi=>?_) ?_
  ·dsimp only
   rw [ltI (by omega),cond_true]
   refine bind_of (x:=fl (pr m k d (i+1))) ?_ (by rw [wrap_in (by omega) (by omega)])
   by_cases hik:i=k
   ·rw [eqI (by omega),cond_true]
    congr 1
    refine fl_congr fun x y _ _=>?_
    unfold pr
    by_cases hx:x<i∧x≠k
    ·rw [if_pos hx,if_pos ⟨by omega,hx.2⟩]
    ·rw [if_neg hx,if_neg (by omega)]
   ·rw [neI (by omega),cond_false]
    refine bind_of (ck8 (by omega)) (bind_of (ck10 (by omega)) (bind_of (fl_idx (by omega) (by omega) (z1 i k)) ?_))
    have p1:∀ y,pr m k d i i y=m i y:=fun y=>by unfold pr;rw [if_neg (by omega)]
    have p2:∀ y,pr m k d i k y=m k y:=fun y=>by unfold pr;rw [if_neg (by omega)]
    have L:=row_loop (m:=pr m k d i) (d:=d) hn hk hi hik hd (fun j hj=>by rw [p1];exact b1 i j hi hj) (fun j hj=>by rw [p2];exact b2 j hj) (by rw [p1];exact b3 i hi) (by rw [p2];exact b4)
    refine bind_of L ?_
    congr 1
    refine fl_congr fun x y _ hy=>?_
    have ht:tt (pr m k d i) k i y=tt m k i y:=by unfold tt;rw [p1,p1,p2,p2]
    unfold part
    by_cases hx:x=i
    ·subst hx
     rw [if_pos ⟨rfl,hy⟩,ht]
     unfold pr
     rw [if_pos ⟨by omega,hik⟩]
    ·rw [if_neg (by omega)]
     unfold pr
     by_cases hx2:x<i∧x≠k
     ·rw [if_pos hx2,if_pos ⟨by omega,hx2.2⟩]
     ·rw [if_neg hx2,if_neg (by omega)]
  ·dsimp only
   rw [geI (by omega),cond_false]
 ·refine bind_of k8 (bind_of (ck10 (by omega)) (bind_of (fl_idx (by omega) (by omega) (z1 k k)) ?_))
  have p2:pr m k d n k k=m k k:=by unfold pr;rw [if_neg (by omega)]
  rw [p2,wrap_in (by omega) (by omega)]
theorem red_stop {n k:Nat} {m:Mx} {d:Int} (hn:n≤8) (hk:k<n) (h0:m k k=0) (hz:∀ x,k≤x→x<n→m x k=0):redB (n:Int) (d,(k:Int),fl m)=some (.inr (.inr (0,fl m))):=by
 unfold redB
 dsimp only
 rw [ltI (by omega),cond_true]
 refine bind_of (srch hn hk fun _=>hz) ?_
 rw [if_pos h0,eqI rfl,cond_true]
theorem red_ok {A:Mx} {n:Nat} {B:Int} {a:Nat→Nat} (h:Lap A n 10 B a) :
  ((∀ k,k<n→del A (k+1)≠0)∧loopM (redB (n:Int)) (1,0,fl A)=some (.inl (del A n,fl (stt A n n))))∨((∃ k,k<n∧del A (k+1)=0)∧∃ l,loopM (redB (n:Int)) (1,0,fl A)=some (.inr (0,l))):=by
 have hn:=h.hn
 have step:∀ k,k<n→(∀ l,l<k→del A (l+1)≠0)→del A (k+1)≠0→redB (n:Int) (del A k,(k:Int),fl (stt A n k))=some (.inl (del A (k+1),((k+1:Nat):Int),fl (stt A n (k+1)))):=fun k hk hl hp=>by
  obtain ⟨b,l,z,d⟩:=run_ok h k (by omega) hl
  obtain ⟨s1,s2,s3,s4⟩:=sizes h b l z d (by omega)
  obtain ⟨b',l',z',d'⟩:=run_ok h (k+1) (by omega) fun j hj=>by
   by_cases e:j=k
   ·rw [e];exact hp
   ·exact hl j (by omega)
  obtain ⟨s1',_⟩:=sizes h b' l' z' d' (by omega)
  have hpv:=b.pivot (by omega) hk h.hW
  rw [red_step hn hk d (by rw [hpv];exact hp) s2 (fun j hj=>s3 k j (Nat.le_refl k) hk hj) (fun i hi=>s4 i hi hk) (by rw [hpv];unfold ab;omega),hpv]
  congr 4
  refine fl_congr fun x y _ _=>?_
  show _=if x=k∨n≤x then stt A n k x y else (tt (stt A n k) k x y).tdiv (del A k)
  unfold pr
  by_cases hx:x<n∧x≠k
  ·rw [if_pos hx,if_neg (by omega)]
  ·rw [if_neg hx,if_pos (by omega)]
 by_cases hall:∀ k,k<n→del A (k+1)≠0
 ·left
  refine ⟨hall,?_⟩
  exact loopM_fn (body:=redB (n:Int)) (fun k=>(del A k,(k:Int),fl (stt A n k))) n (fun k hk=>step k hk (fun l hl=>hall l (by omega)) (hall k hk)) (by
   unfold redB
   dsimp only
   rw [geI (by omega),cond_false])
 ·right
  have hex:∃ k,k<n∧del A (k+1)=0:=by
   refine Classical.byContradiction fun hno=>hall fun k hk hz=>hno ⟨k,hk,hz⟩
  refine ⟨hex,?_⟩
  have least:∀ m,(∃ k,k<m∧k<n∧del A (k+1)=0)→∃ k,k<n∧del A (k+1)=0∧∀ l,l<k→del A (l+1)≠0:=by
   intro m
   induction m with
   | zero=>rintro ⟨k,hk,_⟩;exact absurd hk (Nat.not_lt_zero _)
   | succ m ih =>
    rintro ⟨k,hk,hkn,hz⟩
    by_cases hlow:∃ k,k<m∧k<n∧del A (k+1)=0
    ·exact ih hlow
    ·refine ⟨k,hkn,hz,fun l hl hz'=>hlow ⟨l,by omega,by omega,hz'⟩⟩
  obtain ⟨k1,hk1,hz1⟩:=hex
  obtain ⟨k,hk,hz,hl⟩:=least n ⟨k1,hk1,hk1,hz1⟩
  obtain ⟨b,l,z,d⟩:=run_ok h k (by omega) hl
  have hpv:=b.pivot (by omega) hk h.hW
  have h0:stt A n k k k=0:=by rw [hpv];exact hz
  exact ⟨_,loopM_fn (body:=redB (n:Int)) (fun k=>(del A k,(k:Int),fl (stt A n k))) k (fun j hj=>step j (by omega) (fun l' hl'=>hl l' (by omega)) (hl j hj)) (red_stop hn hk h0 (l.zero hk h0))⟩
end Go.Proofs.YthdfmkpebafpoaaGreatDoor
namespace Go.Proofs.YthdfmkpebafpoaaGreatDoor
open Go Go.Abs Go.PE Go.Det
def big (a:Int):Prop:=-9000000000000000000≤a∧a≤9000000000000000000
def gI (a b:Int):Int:=((Int.gcd a b:Nat):Int)
theorem gcd_loop:∀ (N:Nat) (a b:Int),b.natAbs≤N→big a→big b→∃ r,loopM (fun (s:Int×Int)=>bif PE.notM (eqM s.2 (0:Int)) then Option.bind (remM s.1 s.2) fun (r:Int)=>some (Sum.inl (s.2,r)) else some (Sum.inr s.1)) (a,b)=some r∧r.natAbs=Int.gcd a b∧big r:=by
 intro N
 induction N with
 | zero =>
  intro a b hN ha hb
  have e:b=0:=by omega
  subst e
  refine ⟨a,?_,?_,ha⟩
  ·rw [loopM_eq];rfl
  ·show _=Nat.gcd a.natAbs 0
   rw [Nat.gcd_zero_right]
 | succ N ih =>
  intro a b hN ha hb
  by_cases e:b=0
  ·subst e
   refine ⟨a,?_,?_,ha⟩
   ·rw [loopM_eq];rfl
   ·show _=Nat.gcd a.natAbs 0
    rw [Nat.gcd_zero_right]
  ·have ht:=Int.natAbs_tmod a b
   have hlt:a.natAbs % b.natAbs<b.natAbs:=Nat.mod_lt _ (by omega)
   have hbt:big (a.tmod b):=by unfold big at *;omega
   obtain ⟨r,h1,h2,h3⟩:=ih b (a.tmod b) (by omega) hb hbt
   refine ⟨r,?_,?_,h3⟩
   ·rw [loopM_eq]
    dsimp only
    have e1:remM a b=some (a.tmod b):=by unfold remM;rw [decide_eq_false e]
    rw [neI e,notF,cond_true,e1]
    exact h1
   ·rw [h2]
    show Nat.gcd b.natAbs (a.tmod b).natAbs=Nat.gcd a.natAbs b.natAbs
    rw [ht,Nat.gcd_comm a.natAbs b.natAbs,Nat.gcd_rec b.natAbs a.natAbs,Nat.gcd_comm]
theorem m26_eq {a b:Int} (ha:big a) (hb:big b):m26 (a,b)=some (gI a b):=by
 obtain ⟨r,h1,h2,h3⟩:=gcd_loop b.natAbs a b (Nat.le_refl _) ha hb
 unfold m26
 refine bind_of h1 ?_
 unfold big at h3
 have w:IntKind.wrap IntKind.i64 (negM r)=-r:=wrap_in (n:=-r) (by omega) (by omega)
 rw [w]
 unfold gI
 congr 1
 omega
theorem gI_left (a b:Int):gI a b ∣ a:=Int.gcd_dvd_left a b
theorem gI_right (a b:Int):gI a b ∣ b:=Int.gcd_dvd_right a b
theorem gI_nn (a b:Int):0≤gI a b:=Int.natCast_nonneg _
theorem gI_pos {a:Int} (h:0<a) (b:Int):0<gI a b∧gI a b≤a:=by
 have h1:=gI_nn a b
 have h2:=Int.le_of_dvd h (gI_left a b)
 refine ⟨?_,h2⟩
 refine Int.not_le.1 fun hle=>?_
 have e:gI a b=0:=by omega
 have:=gI_left a b
 rw [e] at this
 have:=Int.zero_dvd.1 this
 omega
def gc (d:Int) (X Y:Nat→Int):Nat→Int
 | 0=>d
 | k+1=>gI (gI (gc d X Y k) (X k)) (Y k)
theorem gc_pos {d:Int} (hd:0<d) (X Y:Nat→Int):∀ k,0<gc d X Y k∧gc d X Y k≤d
 | 0=>⟨hd,Int.le_refl d⟩
 | k+1=>by
  obtain ⟨h1,h2⟩:=gc_pos hd X Y k
  have h3:=gI_pos h1 (X k)
  have h4:=gI_pos h3.1 (Y k)
  show 0<gI (gI (gc d X Y k) (X k)) (Y k)∧gI (gI (gc d X Y k) (X k)) (Y k)≤d
  omega
theorem gc_dvd (d:Int) (X Y:Nat→Int):∀ k,gc d X Y k ∣ d∧∀ i,i<k→gc d X Y k ∣ X i∧gc d X Y k ∣ Y i
 | 0=>⟨Int.dvd_refl d,fun i hi=>absurd hi (Nat.not_lt_zero _)⟩
 | k+1=>by
  obtain ⟨h1,h2⟩:=gc_dvd d X Y k
  have h3:gc d X Y (k+1) ∣ gI (gc d X Y k) (X k):=gI_left _ _
  have h4:gc d X Y (k+1) ∣ gc d X Y k:=Int.dvd_trans h3 (gI_left _ _)
  refine ⟨Int.dvd_trans h4 h1,fun i hi=>?_⟩
  by_cases e:i=k
  ·subst e
   exact ⟨Int.dvd_trans h3 (gI_right _ _),gI_right _ _⟩
  ·obtain ⟨h5,h6⟩:=h2 i (by omega)
   exact ⟨Int.dvd_trans h4 h5,Int.dvd_trans h4 h6⟩
noncomputable def gB (n:Int) (l:List Int):Int×Int×Int×List Int×List Int→Option ((Int×Int×Int×List Int×List Int)⊕(Int×Int×List Int×List Int)) :=
 (fun (s:Int×Int×Int×List Int×List Int)=>bif ltM s.2.1 n then Option.bind (chkM s.2.1 ((nat_lit 8:Nat):Int))
 fun (r_1:Unit)=>Option.bind (idxM l (((nat_lit 0:Nat):Int)+s.2.1*((nat_lit 10:Nat):Int)+(8:Int))) fun (r_2:Int)=>Option.bind (appM (nat_lit 8) s.2.2.2.1 [r_2])
 fun (r_3:List Int)=>Option.bind (chkM s.2.1 ((nat_lit 8:Nat):Int)) fun (r_4:Unit)=>Option.bind (idxM l (((nat_lit 0:Nat):Int)+s.2.1*((nat_lit 10:Nat):Int)+(9:Int)))
 fun (r_5:Int)=>Option.bind (appM (nat_lit 8) s.2.2.2.2 [r_5]) fun (r_6:List Int)=>Option.bind (chkM s.2.1 (lenM r_3))
 fun (r_7:Unit)=>Option.bind (idxM r_3 s.2.1) fun (r_8:Int)=>Option.bind (m26 (s.1,r_8)) fun (r_9:Int)=>Option.bind (chkM s.2.1 (lenM r_6))
 fun (r_10:Unit)=>Option.bind (idxM r_6 s.2.1) fun (r_11:Int)=>Option.bind (m26 (r_9,r_11)) fun (r:Int)=>some (Sum.inl (r,IntKind.wrap IntKind.i64 (s.2.1+(1:Int)),s.2.2.1,r_3,r_6)) else some (Sum.inr (s.1,s.2.2.1,s.2.2.2.1,s.2.2.2.2)))
theorem gB_ok {n:Nat} {M:Mx} {d:Int} (hn:n≤8) (hd:0<d) (hd2:big d) (hM:∀ i j,i<n→j<10→big (M i j)):loopM (gB (n:Int) (fl M)) (d,(0:Int),d,[],[])=some (gc d (fun i=>M i 8) (fun i=>M i 9) n,d,row n (fun i=>M i 8),row n fun i=>M i 9):=by
 refine loopM_fn (body:=gB (n:Int) (fl M)) (fun k=>(gc d (fun i=>M i 8) (fun i=>M i 9) k,(k:Int),d,row k (fun i=>M i 8),row k fun i=>M i 9)) n (fun k hk=>?_) ?_
 ·obtain ⟨g1,g2⟩:=gc_pos hd (fun i=>M i 8) (fun i=>M i 9) k
  have hg:big (gc d (fun i=>M i 8) (fun i=>M i 9) k):=by unfold big at *;omega
  have h8:=hM k 8 hk (by omega)
  have h9:=hM k 9 hk (by omega)
  obtain ⟨g3,g4⟩:=gI_pos g1 (M k 8)
  have hg2:big (gI (gc d (fun i=>M i 8) (fun i=>M i 9) k) (M k 8)):=by unfold big at *;omega
  have l1:lenM (row (k+1) fun i=>M i 8)=(k:Int)+1:=by rw [lenR];omega
  have l2:lenM (row (k+1) fun i=>M i 9)=(k:Int)+1:=by rw [lenR];omega
  unfold gB
  dsimp only
  rw [ltI (by omega),cond_true]
  refine bind_of (ck8 (by omega)) (bind_of (fl_idx (by omega) (by omega) (z8 k)) (bind_of (app_row (g:=fun i=>M i 8) (by show (k+1)*8≤140737488355328;omega)) (bind_of (ck8 (by omega)) (bind_of (fl_idx (by omega) (by omega) (z9 k)) (bind_of (app_row (g:=fun i=>M i 9) (by show (k+1)*8≤140737488355328;omega)) ?_)))))
  rw [l1,l2]
  refine bind_of (chkM_of (by omega) (by omega)) (bind_of (row_idx (by omega)) (bind_of (m26_eq hg h8) (bind_of (chkM_of (by omega) (by omega)) (bind_of (row_idx (by omega)) (bind_of (m26_eq hg2 h9) ?_)))))
  rw [wrap_in (by omega) (by omega)]
  rfl
 ·unfold gB
  dsimp only
  rw [geI (by omega),cond_false]
noncomputable def qB (n:Int) (g:Int):Int×List Int×List Int→Option ((Int×List Int×List Int)⊕(List Int×List Int)) :=
 (fun (s:Int×List Int×List Int)=>bif ltM s.1 n then Option.bind (chkM s.1 (lenM s.2.1)) fun (r_2:Unit)=>Option.bind (idxM s.2.1 s.1)
 fun (r_3:Int)=>Option.bind (divM IntKind.i64 r_3 g) fun (r_4:Int)=>Option.bind (chkM s.1 (lenM s.2.1)) fun (r_5:Unit)=>Option.bind (setM s.2.1 s.1
 fun (x:Int)=>some r_4) fun (r_6:List Int)=>Option.bind (chkM s.1 (lenM s.2.2)) fun (r_7:Unit)=>Option.bind (idxM s.2.2 s.1)
 fun (r_8:Int)=>Option.bind (divM IntKind.i64 r_8 g) fun (r_9:Int)=>Option.bind (chkM s.1 (lenM s.2.2)) fun (r_10:Unit)=>Option.bind (setM s.2.2 s.1
 fun (x:Int)=>some r_9) fun (r:List Int)=>some (Sum.inl (IntKind.wrap IntKind.i64 (s.1+(1:Int)),r_6,r)) else some (Sum.inr (s.2.1,s.2.2)))
theorem qB_ok {n:Nat} {X Y:Nat→Int} {g:Int} (hn:n≤8) (hg:0<g) (hX:∀ i,i<n→big (X i)) (hY:∀ i,i<n→big (Y i)):loopM (qB (n:Int) g) ((0:Int),row n X,row n Y)=some (row n (fun i=>(X i).tdiv g),row n fun i=>(Y i).tdiv g):=by
 have qq:∀ v:Int,big v→IntKind.wrap IntKind.i64 (v.tdiv g)=v.tdiv g:=fun v hv=>by
  have:=Int.natAbs_tdiv_le_natAbs v g
  unfold big at hv
  exact wrap_in (by omega) (by omega)
 have e0:∀ X:Nat→Int,row n X=row n fun i=>if i<0 then (X i).tdiv g else X i:=fun X=>row_congr fun i _=>by rw [if_neg (Nat.not_lt_zero _)]
 have e1:∀ X:Nat→Int,(row n fun i=>(X i).tdiv g)=row n fun i=>if i<n then (X i).tdiv g else X i:=fun X=>row_congr fun i hi=>by rw [if_pos hi]
 rw [e0 X,e0 Y,e1 X,e1 Y]
 refine loopM_fn (body:=qB (n:Int) g) (fun k=>((k:Int),row n (fun i=>if i<k then (X i).tdiv g else X i),row n fun i=>if i<k then (Y i).tdiv g else Y i)) n (fun k hk=>?_) ?_
 ·have st:∀ X:Nat→Int,big (X k)→(Option.bind (idxM (row n fun i=>if i<k then (X i).tdiv g else X i) (k:Int)) fun r=>divM IntKind.i64 r g)=some ((X k).tdiv g):=fun X hXk=>by
   rw [row_idx hk,Option.bind_some,if_neg (Nat.lt_irrefl k),divM_pos (by omega),qq _ hXk]
  have ss:∀ X:Nat→Int,setM (row n fun i=>if i<k then (X i).tdiv g else X i) (k:Int) (fun _=>some ((X k).tdiv g))=some (row n fun i=>if i<k+1 then (X i).tdiv g else X i):=fun X=>by
   rw [set_rowA hk]
   congr 1
   refine row_congr fun i _=>?_
   by_cases e:i=k
   ·rw [if_pos e,if_pos (by omega),e]
   ·rw [if_neg e]
    by_cases h:i<k
    ·rw [if_pos h,if_pos (by omega)]
    ·rw [if_neg h,if_neg (by omega)]
  obtain ⟨x1,y1,z1⟩:=Option.bind_eq_some_iff.1 (st X (hX k hk))
  obtain ⟨x2,y2,z2⟩:=Option.bind_eq_some_iff.1 (st Y (hY k hk))
  have l1:∀ g:Nat→Int,lenM (row n g)=(n:Int):=fun g=>lenR ..
  unfold qB
  dsimp only
  rw [ltI (by omega),cond_true,l1,l1]
  refine bind_of (chkM_of (by omega) (by omega)) (bind_of y1 (bind_of z1 (bind_of (chkM_of (by omega) (by omega)) (bind_of (ss X) (bind_of (chkM_of (by omega) (by omega)) (bind_of y2 (bind_of z2 (bind_of (chkM_of (by omega) (by omega)) (bind_of (ss Y) ?_)))))))))
  rw [wrap_in (by omega) (by omega)]
  rfl
 ·unfold qB
  dsimp only
  rw [geI (by omega),cond_false]
end Go.Proofs.YthdfmkpebafpoaaGreatDoor
namespace Go.Proofs.YthdfmkpebafpoaaGreatDoor
open Go Go.Abs Go.PE Go.Det
def xs8 (c:Net) (i:Nat):Int:=stt (nmA c) c.1.toNat c.1.toNat i 8
def xs9 (c:Net) (i:Nat):Int:=stt (nmA c) c.1.toNat c.1.toNat i 9
def gcN (c:Net):Int:=gc (del (nmA c) c.1.toNat) (xs8 c) (xs9 c) c.1.toNat
def lstN (c:Net):List Int×List Int×Int:=(row c.1.toNat (fun i=>(xs8 c i).tdiv (gcN c)),row c.1.toNat (fun i=>(xs9 c i).tdiv (gcN c)),(del (nmA c) c.1.toNat).tdiv (gcN c))
def regN (c:Net):Prop:=∀ k,k<c.1.toNat→del (nmA c) (k+1)≠0
theorem zero_fl:([(0:Int),(0:Int),(0:Int),(0:Int),(0:Int),(0:Int),(0:Int),(0:Int),(0:Int),(0:Int),(0:Int),(0:Int),(0:Int),(0:Int),(0:Int),(0:Int),(0:Int),(0:Int),(0:Int),(0:Int),(0:Int),(0:Int),(0:Int),(0:Int),(0:Int),(0:Int),(0:Int),(0:Int),(0:Int),(0:Int),(0:Int),(0:Int),(0:Int),(0:Int),(0:Int),(0:Int),(0:Int),(0:Int),(0:Int),(0:Int),(0:Int),(0:Int),(0:Int),(0:Int),(0:Int),(0:Int),(0:Int),(0:Int),(0:Int),(0:Int),(0:Int),(0:Int),(0:Int),(0:Int),(0:Int),(0:Int),(0:Int),(0:Int),(0:Int),(0:Int),(0:Int),(0:Int),(0:Int),(0:Int),(0:Int),(0:Int),(0:Int),(0:Int),(0:Int),(0:Int),(0:Int),(0:Int),(0:Int),(0:Int),(0:Int),(0:Int),(0:Int),(0:Int),(0:Int),(0:Int)]:List Int)=fl fun _ _=>0:=rfl
theorem m6_eq {c:Net} (h:NOK c) (hL:Lap (nmA c) c.1.toNat 10 50000 (dgN (nmA c))):(regN c∧0<del (nmA c) c.1.toNat∧m6 c=some (lstN c,0))∨(¬ regN c∧m6 c=some (([],[],0),100)):=by
 have h0:=h.n0
 have h8:=h.n8
 have hN:((c.1.toNat:Nat):Int)=c.1:=by omega
 have F:=nm_fix h
 rw [← zero_fl] at F
 rcases red_ok hL with ⟨hall,hr⟩ | ⟨⟨k,hk,hz⟩,l,hr⟩
 ·left
  obtain ⟨b,lb,z,d⟩:=run_ok hL c.1.toNat (Nat.le_refl _) hall
  obtain ⟨s1,s2,_,_⟩:=sizes hL b lb z d (Nat.le_refl _)
  refine ⟨hall,d,?_⟩
  have hbig:∀ i j,i<c.1.toNat→j<10→big (stt (nmA c) c.1.toNat c.1.toNat i j):=fun i j hi hj=>by
   have h1:=s2 i j hi hj
   have h2:=ab_le (stt (nmA c) c.1.toNat c.1.toNat i j)
   unfold big
   omega
  have G:=gB_ok (M:=stt (nmA c) c.1.toNat c.1.toNat) (n:=c.1.toNat) (d:=del (nmA c) c.1.toNat) (by omega) d (by unfold big;omega) hbig
  obtain ⟨g1,g2⟩:=gc_pos d (xs8 c) (xs9 c) c.1.toNat
  have Q:=qB_ok (n:=c.1.toNat) (X:=xs8 c) (Y:=xs9 c) (g:=gcN c) (by omega) g1 (fun i hi=>hbig i 8 hi (by omega)) (fun i hi=>hbig i 9 hi (by omega))
  rw [hN] at hr G Q
  unfold m6
  refine bind_of (m19_eq c) ?_
  rw [nval_iff.2 h,notT,cond_false]
  refine bind_of F (bind_of (nm_sgt h) (bind_of (bind_of hr rfl) ?_))
  dsimp only
  rw [neI (by omega),cond_false]
  refine bind_of G ?_
  dsimp only
  rw [geI (by omega),cond_false,Option.bind_some]
  have hq:divM IntKind.i64 (del (nmA c) c.1.toNat) (gcN c)=some ((del (nmA c) c.1.toNat).tdiv (gcN c)):=by
   have hg0:gcN c≠0:=by unfold gcN;omega
   have:=Int.natAbs_tdiv_le_natAbs (del (nmA c) c.1.toNat) (gcN c)
   rw [divM_pos hg0,wrap_in (by omega) (by omega)]
  refine bind_of hq ?_
  exact bind_of Q rfl
 ·right
  refine ⟨fun hall=>hall k hk hz,?_⟩
  rw [hN] at hr
  unfold m6
  refine bind_of (m19_eq c) ?_
  rw [nval_iff.2 h,notT,cond_false]
  exact bind_of F (bind_of (nm_sgt h) (bind_of (bind_of hr rfl) rfl))
end Go.Proofs.YthdfmkpebafpoaaGreatDoor
namespace Go.Proofs.YthdfmkpebafpoaaGreatDoor
open Go Go.Abs Go.PE Go.Det
structure Mad (c:Net):Prop where
 ok:NOK c
 fl:c.2.1.length≤6
 sl:c.2.2.length≤17
 fx:∀ f∈c.2.1,-511≤f.2.1∧f.2.1≤511∧-511≤f.2.2.1∧f.2.2.1≤511
 sg:∀ s∈c.2.2,-1071≤s.2.2.1∧s.2.2.1≤1071∧-1071≤s.2.2.2.1∧s.2.2.2.1≤1071
theorem made_mad (x:NNum):Mad (madeN x) where
 ok:=made_ok x
 fl:=by
  show (row (nF x) (fxf x)).length≤6
  rw [row_length]
  unfold nF
  split<;>omega
 sl:=by
  show (msg x).length≤17
  rw [msg_len]
  exact base_len x
 fx:=fun f hf=>by
  have:=fix_keeps hf
  unfold KF at this
  omega
 sg:=fun s hs=>by
  have hd1:=pk_lo (c:=x.2.2.2.2.2.2.tdiv 2) (n:=60) (by omega)
  have hd2:=pk_hi (c:=x.2.2.2.2.2.2.tdiv 2) (n:=60) (by omega)
  rcases msg_mem hs with h | ⟨s',h,rfl⟩
  ·have:=base_keeps h
   unfold KS at this
   omega
  ·have:=base_keeps h
   unfold KS at this
   unfold bent
   split
   ·dsimp only;omega
   ·dsimp only;omega
theorem lap_c {c:Net} (h:Mad c):Lap (nmA c) c.1.toNat 10 50000 (dgN (nmA c)):=by
 have h0:=h.ok.n0
 have h8:=h.ok.n8
 have hf:=h.fl
 have hs:=h.sl
 exact lap_of (by omega) (nmA_ni (VF:=511) (VS:=1071) ⟨h.ok,fun f hf=>by have:=h.fx f hf;omega,fun s hs=>by have:=h.sg s hs;omega⟩) (by omega) (by omega)
end Go.Proofs.YthdfmkpebafpoaaGreatDoor
namespace Go.Proofs.YthdfmkpebafpoaaGreatDoor
open Go Go.Abs Go.PE Go.Det
def gr (n:Nat) (u:Nat→Int) (p:Nat):Int:=if p<n then u p else 0
def rs (n:Nat) (u:Nat→Int) (d:Int) (o:Nat×Nat×Int):Int:=gr n u o.2.1-gr n u o.1-d*o.2.2
def suml {α:Type} (f:α→Int):List α→Int
 | []=>0
 | a::l=>f a+suml f l
def bal (n:Nat) (u:Nat→Int) (d:Int) (os:List (Nat×Nat×Int)) (p:Nat):Int:=suml (fun o=>(if o.2.1=p then rs n u d o else 0)-(if o.1=p then rs n u d o else 0)) os
def sqr (n:Nat) (u:Nat→Int) (d:Int) (os:List (Nat×Nat×Int)):Int:=suml (fun o=>rs n u d o*rs n u d o) os
theorem suml_congr {α:Type} {f g:α→Int}:∀ {l:List α},(∀ a∈l,f a=g a)→suml f l=suml g l
 | [],_=>rfl
 | a::l,h=>by show f a+suml f l=g a+suml g l;rw [h a (by simp),suml_congr fun a ha=>h a (by simp [ha])]
theorem suml_add {α:Type} (f g:α→Int):∀ l:List α,suml (fun a=>f a+g a) l=suml f l+suml g l
 | []=>rfl
 | a::l=>by show (f a+g a)+suml (fun a=>f a+g a) l=(f a+suml f l)+(g a+suml g l);rw [suml_add f g l];omega
theorem suml_mul {α:Type} (c:Int) (f:α→Int):∀ l:List α,suml (fun a=>c*f a) l=c*suml f l
 | []=>(Int.mul_zero c).symm
 | a::l=>by show c*f a+suml (fun a=>c*f a) l=c*(f a+suml f l);rw [suml_mul c f l,Int.mul_add]
theorem suml_nn {α:Type} {f:α→Int}:∀ {l:List α},(∀ a∈l,0≤f a)→0≤suml f l
 | [],_=>Int.le_refl _
 | a::l,h=>by have:=suml_nn (f:=f) (l:=l) fun a ha=>h a (by simp [ha]);have:=h a (by simp);show 0≤f a+suml f l;omega
theorem suml_zero {α:Type} {f:α→Int}:∀ {l:List α},(∀ a∈l,0≤f a)→suml f l=0→∀ a∈l,f a=0
 | a::l,h,h0,b,hb=>by
  have h1:=suml_nn (f:=f) (l:=l) fun a ha=>h a (by simp [ha])
  have h2:=h a (by simp)
  have h0:f a+suml f l=0:=h0
  rcases List.mem_cons.1 hb with rfl | hb
  ·omega
  ·exact suml_zero (fun a ha=>h a (by simp [ha])) (by omega) b hb
theorem suml_app {α:Type} (f:α→Int):∀ l m:List α,suml f (l++m)=suml f l+suml f m
 | [],m=>(Int.zero_add _).symm
 | a::l,m=>by show f a+suml f (l++m)=f a+suml f l+suml f m;rw [suml_app f l m];omega
theorem sm_pick (z:Nat→Int) (b:Nat) (r:Int):∀ n,sm n (fun p=>z p*(if b=p then r else 0))=gr n z b*r
 | 0=>by show (0:Int)=gr 0 z b*r;unfold gr;rw [if_neg (Nat.not_lt_zero _)];simp
 | n+1=>by
  show sm n (fun p=>z p*(if b=p then r else 0))+z n*(if b=n then r else 0)=gr (n+1) z b*r
  rw [sm_pick z b r n]
  unfold gr
  by_cases h1:b<n
  ·rw [if_pos h1,if_pos (show b<n+1 by omega),if_neg (show ¬ b=n by omega),Int.mul_zero,Int.add_zero]
  ·by_cases h2:b=n
   ·subst h2;rw [if_neg h1,if_pos (Nat.lt_succ_self _),if_pos rfl,Int.zero_mul,Int.zero_add]
   ·rw [if_neg h1,if_neg (show ¬ b<n+1 by omega),if_neg h2,Int.zero_mul,Int.mul_zero,Int.add_zero]
theorem sm_zz:∀ n,sm n (fun _=>(0:Int))=0
 | 0=>rfl
 | n+1=>by show sm n (fun _=>(0:Int))+0=0;rw [sm_zz n];rfl
theorem sum_bal (n:Nat) (z u:Nat→Int) (d:Int):∀ os:List (Nat×Nat×Int),sm n (fun p=>z p*bal n u d os p)=suml (fun o=>(gr n z o.2.1-gr n z o.1)*rs n u d o) os
 | []=>by
  show sm n (fun p=>z p*0)=0
  rw [sm_congr (g:=fun _=>(0:Int)) fun i _=>Int.mul_zero _,sm_zz]
 | o::os=>by
  show _=(gr n z o.2.1-gr n z o.1)*rs n u d o+suml (fun o=>(gr n z o.2.1-gr n z o.1)*rs n u d o) os
  rw [← sum_bal n z u d os]
  have e:∀ p,z p*bal n u d (o::os) p=(z p*(if o.2.1=p then rs n u d o else 0)+-(z p*(if o.1=p then rs n u d o else 0)))+z p*bal n u d os p:=fun p=>by
   show z p*(((if o.2.1=p then rs n u d o else 0)-(if o.1=p then rs n u d o else 0))+bal n u d os p)=_
   rw [Int.mul_add,Int.mul_sub];omega
  rw [sm_congr fun p _=>e p,sm_add,sm_add,sm_neg,sm_pick,sm_pick,Int.sub_mul];omega
theorem least_sq {n:Nat} {u q:Nat→Int} {d:Int} {os:List (Nat×Nat×Int)} (h:∀ p,p<n→bal n u d os p=0):sqr n u d os≤sqr n q 1 os*d*d:=by
 have hz:suml (fun o=>(gr n (fun p=>d*q p-u p) o.2.1-gr n (fun p=>d*q p-u p) o.1)*rs n u d o) os=0:=by
  rw [← sum_bal,sm_congr (g:=fun _=>(0:Int)) fun p hp=>by rw [h p hp,Int.mul_zero],sm_zz]
 have hg:∀ p,gr n (fun p=>d*q p-u p) p=d*gr n q p-gr n u p:=fun p=>by
  unfold gr;split
  ·rfl
  ·simp
 have e:sqr n q 1 os*d*d=sqr n u d os+(2*suml (fun o=>(gr n (fun p=>d*q p-u p) o.2.1-gr n (fun p=>d*q p-u p) o.1)*rs n u d o) os+suml (fun o=>(gr n (fun p=>d*q p-u p) o.2.1-gr n (fun p=>d*q p-u p) o.1)*(gr n (fun p=>d*q p-u p) o.2.1-gr n (fun p=>d*q p-u p) o.1)) os):=by
  unfold sqr
  rw [Int.mul_assoc,Int.mul_comm,← suml_mul,← suml_mul,← suml_add,← suml_add]
  refine suml_congr fun o _=>?_
  rw [hg,hg]
  unfold rs
  grind
 have hn:0≤suml (fun o=>(gr n (fun p=>d*q p-u p) o.2.1-gr n (fun p=>d*q p-u p) o.1)*(gr n (fun p=>d*q p-u p) o.2.1-gr n (fun p=>d*q p-u p) o.1)) os:=suml_nn fun o _=>by
  generalize gr n (fun p=>d*q p-u p) o.2.1-gr n (fun p=>d*q p-u p) o.1=x
  rcases Int.le_total 0 x with hx | hx
  ·exact Int.mul_nonneg hx hx
  ·exact Int.mul_nonneg_of_nonpos_of_nonpos hx hx
 rw [e,hz]
 omega
def lin (n:Nat) (M:Mx) (col:Nat) (u:Nat→Int) (d:Int) (x:Nat):Int:=sm n (fun j=>M x j*u j)-d*M x col
def cl (col:Nat) (vx vy:Int):Int:=if col=8 then vx else vy
theorem lin_ad {n p q x col:Nat} {vx vy d:Int} {u:Nat→Int} {M:Mx} (hn:n≤8) (hx:x<n) (hpq:p≠q) (hcol:col=8∨col=9) :
  lin n (adM n p q vx vy M) col u d x=lin n M col u d x+if p=x then gr n u p-gr n u q-d*cl col vx vy else 0:=by
 unfold lin
 by_cases hp:p=x
 ·subst hp
  rw [if_pos rfl]
  have e1:sm n (fun j=>adM n p q vx vy M p j*u j)=sm n (fun j=>(M p j*u j+(if j=p then u p else 0))+(if j=q then -gr n u q else 0)):=sm_congr fun j hj=>by
   unfold adM gr
   rw [if_pos ⟨hx,rfl⟩,if_neg (show ¬ j=8 by omega),if_neg (show ¬ j=9 by omega)]
   by_cases a:j=p
   ·subst a
    rw [if_pos rfl,if_pos rfl,if_neg (by omega),if_neg (by omega)]
    grind
   ·by_cases b:j=q
    ·subst b
     rw [if_neg a,if_neg a,if_pos ⟨rfl,hj⟩,if_pos rfl,if_pos hj]
     grind
    ·rw [if_neg a,if_neg a,if_neg (by omega),if_neg b]
     grind
  have e2:adM n p q vx vy M p col=M p col+cl col vx vy:=by
   unfold adM cl
   rw [if_pos ⟨hx,rfl⟩]
   rcases hcol with h | h
   ·subst h
    rw [if_neg (by omega),if_pos rfl,if_neg (by omega),if_neg (by omega),if_pos rfl];omega
   ·subst h
    rw [if_neg (by omega),if_neg (by omega),if_pos rfl,if_neg (by omega),if_neg (by omega)];omega
  rw [e1,e2,sm_ind,sm_ind,if_pos hx]
  have:(if q<n then -gr n u q else 0)=-gr n u q:=by
   unfold gr;split<;>simp
  rw [this,Int.mul_add]
  show _=_+(gr n u p-_-_)
  have:gr n u p=u p:=by unfold gr;rw [if_pos hx]
  omega
 ·rw [if_neg hp,Int.add_zero]
  have e1:∀ j,adM n p q vx vy M x j=M x j:=fun j=>by unfold adM;rw [if_neg (by omega)]
  rw [sm_congr fun j _=>by rw [e1 j],e1]
theorem lin_ob {n a b x col:Nat} {dx dy d:Int} {u:Nat→Int} {M:Mx} (hn:n≤8) (hx:x<n) (hab:a≠b) (hcol:col=8∨col=9) :
  lin n (obM n a b dx dy M) col u d x=lin n M col u d x+((if b=x then rs n u d (a,b,cl col dx dy) else 0)-(if a=x then rs n u d (a,b,cl col dx dy) else 0)):=by
 unfold obM
 rw [lin_ad hn hx hab hcol,lin_ad hn hx (Ne.symm hab) hcol]
 have:cl col (-dx) (-dy)=-cl col dx dy:=by unfold cl;split<;>rfl
 rw [this]
 unfold rs
 dsimp only
 grind
def obF (n col:Nat) (f:Fix):Nat×Nat×Int:=(n,f.1.toNat,cl col f.2.1 f.2.2.1)
def obS (col:Nat) (s:Sgt):Nat×Nat×Int:=(s.1.toNat,s.2.1.toNat,cl col s.2.2.1 s.2.2.2.1)
def obL (c:Net) (col:Nat):List (Nat×Nat×Int):=c.2.1.map (obF c.1.toNat col)++c.2.2.map (obS col)
theorem bal_app (n:Nat) (u:Nat→Int) (d:Int) (l m:List (Nat×Nat×Int)) (p:Nat):bal n u d (l++m) p=bal n u d l p+bal n u d m p:=suml_app _ l m
theorem lin_bal {c:Net} (h:NOK c) {col:Nat} (hcol:col=8∨col=9) (u:Nat→Int) (d:Int) {x:Nat} (hx:x<c.1.toNat):lin c.1.toNat (nmA c) col u d x=bal c.1.toNat u d (obL c col) x:=by
 have h0:=h.n0
 have h8:=h.n8
 have hn:c.1.toNat≤8:=by omega
 unfold nmA nmF obL
 rw [bal_app]
 have e1:lin c.1.toNat (c.2.1.foldl (fxM c.1.toNat) fun _ _=>0) col u d x=bal c.1.toNat u d (c.2.1.map (obF c.1.toNat col)) x:=by
  have key:∀ (l:List Fix) (M:Mx),(∀ f∈l,f∈c.2.1)→lin c.1.toNat (l.foldl (fxM c.1.toNat) M) col u d x=lin c.1.toNat M col u d x+bal c.1.toNat u d (l.map (obF c.1.toNat col)) x:=by
   intro l
   induction l with
   | nil=>intro M _;exact (Int.add_zero _).symm
   | cons f l ih =>
    intro M hl
    have hf:=h.fx f (hl f (by simp))
    rw [List.foldl_cons,ih _ fun f hf=>hl f (by simp [hf])]
    have e:lin c.1.toNat (fxM c.1.toNat M f) col u d x=lin c.1.toNat M col u d x+((if (obF c.1.toNat col f).2.1=x then rs c.1.toNat u d (obF c.1.toNat col f) else 0)-(if (obF c.1.toNat col f).1=x then rs c.1.toNat u d (obF c.1.toNat col f) else 0)):=lin_ob hn hx (by omega) hcol
    rw [e]
    exact Int.add_assoc _ _ _
  rw [key _ _ fun f hf=>hf]
  have:lin c.1.toNat (fun _ _=>0) col u d x=0:=by
   unfold lin
   rw [sm_congr (g:=fun _=>(0:Int)) fun j _=>Int.zero_mul _,sm_zz];simp
  omega
 rw [← e1]
 have key:∀ (l:List Sgt) (M:Mx),(∀ s∈l,s∈c.2.2)→lin c.1.toNat (l.foldl (sgM c.1.toNat) M) col u d x=lin c.1.toNat M col u d x+bal c.1.toNat u d (l.map (obS col)) x:=by
  intro l
  induction l with
  | nil=>intro M _;exact (Int.add_zero _).symm
  | cons s l ih =>
   intro M hl
   have hs:=h.sg s (hl s (by simp))
   rw [List.foldl_cons,ih _ fun s hs=>hl s (by simp [hs])]
   have e:lin c.1.toNat (sgM c.1.toNat M s) col u d x=lin c.1.toNat M col u d x+((if (obS col s).2.1=x then rs c.1.toNat u d (obS col s) else 0)-(if (obS col s).1=x then rs c.1.toNat u d (obS col s) else 0)):=lin_ob hn hx (by omega) hcol
   rw [e]
   exact Int.add_assoc _ _ _
 exact key _ _ fun s hs=>hs
end Go.Proofs.YthdfmkpebafpoaaGreatDoor
namespace Go.Proofs.YthdfmkpebafpoaaGreatDoor
open Go Go.Abs Go.PE Go.Det
theorem sweep_inv {Q:Nat→Prop}:∀ {ss:List Sgt},(∀ s∈ss,(Q s.1.toNat↔Q s.2.1.toNat))→∀ {t:Nat→Bool},(∀ i,t i=true→Q i)→∀ i,sweep ss t i=true→Q i
 | [],_,_,ht,i,hi=>ht i hi
 | s::r,hs,t,ht,i,hi=>by
  refine sweep_inv (fun s' h'=>hs s' (List.mem_cons_of_mem _ h')) (t:=stepT t s) (fun j hj=>?_) i hi
  unfold stepT at hj
  simp only [Bool.or_eq_true,Bool.and_eq_true,decide_eq_true_eq] at hj
  have hc:=hs s (List.mem_cons_self ..)
  rcases hj with hj | ⟨h1 | h1,rfl | rfl⟩
  ·exact ht j hj
  ·exact ht _ h1
  ·exact hc.1 (ht _ h1)
  ·exact hc.2 (ht _ h1)
  ·exact ht _ h1
theorem tdR_inv {c:Net} {Q:Nat→Prop} (h1:∀ f∈c.2.1,Q f.1.toNat) (h2:∀ s∈c.2.2,(Q s.1.toNat↔Q s.2.1.toNat)):∀ k i,tdR c k i=true→Q i
 | 0,i,hi=>by
  have hi:t0 c.2.1 i=true:=hi
  unfold t0 at hi
  obtain ⟨f,hf,e⟩:=List.any_eq_true.1 hi
  have e:=of_decide_eq_true e
  rw [e]
  exact h1 f hf
 | k+1,i,hi=>sweep_inv h2 (tdR_inv h1 h2 k) i hi
theorem sweep_congr {n:Nat}:∀ {ss:List Sgt},(∀ s∈ss,s.1.toNat<n∧s.2.1.toNat<n)→∀ {t t':Nat→Bool},(∀ i,i<n→t i=t' i)→∀ i,i<n→sweep ss t i=sweep ss t' i
 | [],_,_,_,ht,i,hi=>ht i hi
 | s::r,hs,t,t',ht,i,hi=>by
  refine sweep_congr (fun s' h'=>hs s' (List.mem_cons_of_mem _ h')) (t:=stepT t s) (t':=stepT t' s) (fun j hj=>?_) i hi
  have hc:=hs s (List.mem_cons_self ..)
  unfold stepT
  rw [ht j hj,ht _ hc.1,ht _ hc.2]
def cnt (t:Nat→Bool):Nat→Nat
 | 0=>0
 | n+1=>cnt t n+if t n=true then 1 else 0
theorem cnt_le {t t':Nat→Bool} (h:∀ i,t i=true→t' i=true):∀ n,cnt t n≤cnt t' n
 | 0=>Nat.le_refl _
 | n+1=>by
  have:=cnt_le h n
  have:=h n
  show cnt t n+_≤cnt t' n+_
  split
  ·rw [if_pos (this (by assumption))];omega
  ·split<;>omega
theorem cnt_lt {t t':Nat→Bool} (h:∀ i,t i=true→t' i=true) {j:Nat} (h1:t j=false) (h2:t' j=true):∀ n,j<n→cnt t n+1≤cnt t' n
 | n+1,hj=>by
  show cnt t n+_+1≤cnt t' n+_
  by_cases e:j=n
  ·subst e
   rw [if_neg (by rw [h1];decide),if_pos h2]
   have:=cnt_le h j
   omega
  ·have:=cnt_lt h h1 h2 n (by omega)
   have:=h n
   split
   ·rw [if_pos (this (by assumption))];omega
   ·split<;>omega
theorem cnt_max (t:Nat→Bool):∀ n,cnt t n≤n
 | 0=>Nat.le_refl _
 | n+1=>by
  have:=cnt_max t n
  show cnt t n+_≤_
  split<;>omega
theorem cnt_all {t:Nat→Bool}:∀ {n:Nat},cnt t n=n→∀ i,i<n→t i=true
 | n+1,h,i,hi=>by
  have h:cnt t n+(if t n=true then 1 else 0)=n+1:=h
  have:=cnt_max t n
  by_cases hn:t n=true
  ·rw [if_pos hn] at h
   by_cases e:i=n
   ·subst e;exact hn
   ·exact cnt_all (n:=n) (by omega) i (by omega)
  ·rw [if_neg hn] at h;omega
theorem sg_in {c:Net} (h:NOK c):∀ s∈c.2.2,s.1.toNat<c.1.toNat∧s.2.1.toNat<c.1.toNat:=fun s hs=>by
 have:=h.sg s hs
 omega
theorem stable_on {c:Net} (h:NOK c) {j:Nat} (hj:∀ i,i<c.1.toNat→tdR c (j+1) i=tdR c j i):∀ k,j≤k→∀ i,i<c.1.toNat→tdR c k i=tdR c j i:=by
 intro k
 induction k with
 | zero =>
  intro hk i hi
  have:j=0:=by omega
  subst this;rfl
 | succ k ih =>
  intro hk i hi
  by_cases e:j=k+1
  ·subst e;rfl
  ·have e1:tdR c (k+1) i=sweep c.2.2 (tdR c k) i:=rfl
   rw [e1,sweep_congr (sg_in h) (ih (by omega)) i hi]
   exact hj i hi
theorem td_closed {c:Net} (h:NOK c) {s:Sgt} (hs:s∈c.2.2):td c s.1.toNat=true↔td c s.2.1.toNat=true:=by
 by_cases hst:∃ j,j<c.1.toNat∧∀ i,i<c.1.toNat→tdR c (j+1) i=tdR c j i
 ·obtain ⟨j,hj,hst⟩:=hst
  have he:=stable_on h hst c.1.toNat (by omega)
  have hi:=sg_in h s hs
  have ha:∀ {i},i<c.1.toNat→tdR c (j+1) i=true→td c i=true:=fun hi h'=>by
   unfold td
   rw [he _ hi,← hst _ hi];exact h'
  constructor
  ·intro h1
   unfold td at h1
   rw [he _ hi.1] at h1
   exact ha hi.2 (sweep_adds hs (.inl h1)).2
  ·intro h1
   unfold td at h1
   rw [he _ hi.2] at h1
   exact ha hi.1 (sweep_adds hs (.inr h1)).1
 ·have hk:∀ k,k≤c.1.toNat→k≤cnt (tdR c k) c.1.toNat:=by
   intro k
   induction k with
   | zero=>intro _;omega
   | succ k ih =>
    intro hk
    have:=ih (by omega)
    obtain ⟨i,hi⟩:=Classical.not_forall.1 fun ha=>hst ⟨k,by omega,ha⟩
    obtain ⟨hi,hne⟩:=Classical.not_imp.1 hi
    have hm:∀ i,tdR c k i=true→tdR c (k+1) i=true:=fun i hi=>tdR_mono (by omega) hi
    have h1:tdR c k i=false:=by
     cases e:tdR c k i with
     | false=>rfl
     | true=>rw [e,hm i e] at hne;exact absurd rfl hne
    have h2:tdR c (k+1) i=true:=by
     cases e:tdR c (k+1) i with
     | true=>rfl
     | false=>rw [e,h1] at hne;exact absurd rfl hne
    have:=cnt_lt hm h1 h2 c.1.toNat hi
    omega
  have:=hk c.1.toNat (by omega)
  have hm:=cnt_max (tdR c c.1.toNat) c.1.toNat
  have hall:=cnt_all (t:=td c) (n:=c.1.toNat) (by unfold td;omega)
  have hi:=sg_in h s hs
  exact ⟨fun _=>hall _ hi.2,fun _=>hall _ hi.1⟩
theorem td_fix {c:Net} {f:Fix} (hf:f∈c.2.1):td c f.1.toNat=true:=by
 unfold td
 refine tdR_mono (Nat.zero_le _) ?_
 show t0 c.2.1 f.1.toNat=true
 unfold t0
 exact List.any_eq_true.2 ⟨f,hf,decide_eq_true rfl⟩
theorem mem_obL {c:Net} {col:Nat} {o:Nat×Nat×Int} (ho:o∈obL c col):(∃ f∈c.2.1,o=obF c.1.toNat col f)∨∃ s∈c.2.2,o=obS col s:=by
 rcases List.mem_append.1 ho with h | h
 ·obtain ⟨f,hf,rfl⟩:=List.mem_map.1 h;exact .inl ⟨f,hf,rfl⟩
 ·obtain ⟨s,hs,rfl⟩:=List.mem_map.1 h;exact .inr ⟨s,hs,rfl⟩
theorem gr_g (n:Nat) (u:Nat→Int):gr n u n=0:=by unfold gr;rw [if_neg (Nat.lt_irrefl _)]
theorem reg_of_tied {c:Net} (h:NOK c) (hL:Lap (nmA c) c.1.toNat 10 50000 (dgN (nmA c))) (ht:∀ i,i<c.1.toNat→td c i=true):regN c:=by
 intro k
 induction k using Nat.strongRecOn with
 | _ k ih =>
  intro hk hd
  obtain ⟨b,l,z,d⟩:=run_ok hL k (by omega) fun l hl=>ih l hl (by omega)
  have h8:=h.n8
  -- the kernel of the leading rows
  have hz:∀ r,r≤k→sm c.1.toNat (fun j=>nmA c r j*zv (nmA c) k k j)=0:=fun r hr=>by
   have e:=dot_zv_A (A:=nmA c) (W:=10) r (Nat.le_refl k) (by omega)
   have e0:mn (nmA c) k r k=0:=by
    by_cases hrk:r<k
    ·exact mn_zero hrk
    ·have:r=k:=by omega
     subst this
     have e1:mn (nmA c) r r r=del (nmA c) (r+1):=by
      unfold mn del
      congr 1
      funext i j
      congr 1<;>(split<;>omega)
     rw [e1];exact hd
   rw [e0] at e
   have hx:∀ j,k+1≤j→j<10→nmA c r j*zv (nmA c) k k j=0:=fun j h1 h2=>by
    unfold zv
    rw [if_neg (by omega),if_neg (by omega),Int.mul_zero]
   unfold dot at e
   rw [sm_ext 10 (by omega) hx] at e
   rw [sm_ext c.1.toNat (by omega) fun j h1 h2=>hx j h1 (by omega)]
   simpa using e
  have hb:sm c.1.toNat (fun p=>zv (nmA c) k k p*bal c.1.toNat (zv (nmA c) k k) 0 (obL c 8) p)=0:=by
   refine sm_zero fun p hp=>?_
   by_cases hpk:p≤k
   ·rw [← lin_bal h (.inl rfl) _ _ hp]
    unfold lin
    rw [hz p hpk];simp
   ·have:zv (nmA c) k k p=0:=by unfold zv;rw [if_neg (by omega),if_neg (by omega)]
    rw [this,Int.zero_mul]
  rw [sum_bal] at hb
  have hrs:∀ o,rs c.1.toNat (zv (nmA c) k k) 0 o=gr c.1.toNat (zv (nmA c) k k) o.2.1-gr c.1.toNat (zv (nmA c) k k) o.1:=fun o=>by unfold rs;omega
  have hall:=suml_zero (l:=obL c 8) (fun o _=>by
   rw [hrs]
   generalize gr c.1.toNat (zv (nmA c) k k) o.2.1-gr c.1.toNat (zv (nmA c) k k) o.1=x
   rcases Int.le_total 0 x with hx | hx
   ·exact Int.mul_nonneg hx hx
   ·exact Int.mul_nonneg_of_nonpos_of_nonpos hx hx) hb
  have heq:∀ o∈obL c 8,gr c.1.toNat (zv (nmA c) k k) o.2.1=gr c.1.toNat (zv (nmA c) k k) o.1:=fun o ho=>by
   have:=hall o ho
   rw [hrs] at this
   rcases Int.mul_eq_zero.1 this with h | h<;>omega
  have hQ:=tdR_inv (c:=c) (Q:=fun p=>gr c.1.toNat (zv (nmA c) k k) p=0) (fun f hf=>by
   have:=heq (obF c.1.toNat 8 f) (List.mem_append.2 (.inl (List.mem_map.2 ⟨f,hf,rfl⟩)))
   rw [show (obF c.1.toNat 8 f).1=c.1.toNat from rfl,gr_g] at this
   exact this) (fun s hs=>by
   have:=heq (obS 8 s) (List.mem_append.2 (.inr (List.mem_map.2 ⟨s,hs,rfl⟩)))
   have this:gr c.1.toNat (zv (nmA c) k k) s.2.1.toNat=gr c.1.toNat (zv (nmA c) k k) s.1.toNat:=this
   show gr c.1.toNat (zv (nmA c) k k) s.1.toNat=0↔gr c.1.toNat (zv (nmA c) k k) s.2.1.toNat=0
   rw [this]) c.1.toNat k (ht k hk)
  have hQ:gr c.1.toNat (zv (nmA c) k k) k=0:=hQ
  unfold gr zv at hQ
  rw [if_pos hk,if_neg (Nat.lt_irrefl _),if_pos rfl] at hQ
  omega
theorem tied_of_reg {c:Net} (h:NOK c) (hL:Lap (nmA c) c.1.toNat 10 50000 (dgN (nmA c))) (hr:regN c):∀ i,i<c.1.toNat→td c i=true:=by
 intro i hi
 have h8:=h.n8
 cases ht:td c i with
 | true=>rfl
 | false =>
  exfalso
  obtain ⟨b,l,z,d⟩:=run_ok hL c.1.toNat (Nat.le_refl _) hr
  have hu:∃ u:Nat→Int,u=fun p=>if td c p=true then 0 else 1:=⟨_,rfl⟩
  obtain ⟨u,hu⟩:=hu
  have hrs:∀ o∈obL c 8,rs c.1.toNat u 0 o=0:=fun o ho=>by
   rcases mem_obL ho with ⟨f,hf,rfl⟩ | ⟨s,hs,rfl⟩
   ·unfold rs
    have e1:gr c.1.toNat u (obF c.1.toNat 8 f).2.1=0:=by
     show gr c.1.toNat u f.1.toNat=0
     unfold gr
     rw [hu]
     simp only
     rw [if_pos (td_fix hf)];split<;>rfl
    rw [e1,show (obF c.1.toNat 8 f).1=c.1.toNat from rfl,gr_g];omega
   ·have hi:=sg_in h s hs
    have hc:=td_closed h hs
    unfold rs
    show gr c.1.toNat u s.2.1.toNat-gr c.1.toNat u s.1.toNat-0*_=0
    unfold gr
    rw [if_pos hi.1,if_pos hi.2,hu]
    simp only
    by_cases ha:td c s.1.toNat=true
    ·rw [if_pos ha,if_pos (hc.1 ha)];omega
    ·rw [if_neg ha,if_neg fun h'=>ha (hc.2 h')];omega
  have hbal:∀ p,bal c.1.toNat u 0 (obL c 8) p=0:=fun p=>by
   unfold bal
   rw [suml_congr (g:=fun _=>0*0) fun o ho=>by rw [hrs o ho];split<;>split<;>rfl,suml_mul];omega
  have hA:∀ r,r<c.1.toNat→dot 10 (nmA c r) (zz c.1.toNat 8 u 0)=0:=fun r hr=>by
   rw [dot_zz _ _ _ (by omega) (by omega)]
   have e:=lin_bal h (.inl rfl) u 0 hr
   rw [hbal] at e
   unfold lin at e
   omega
  have hm:=b.up _ hA i hi
  rw [dot_zz _ _ _ (by omega) (by omega)] at hm
  have e4:sm c.1.toNat (fun j=>stt (nmA c) c.1.toNat c.1.toNat i j*u j)=del (nmA c) c.1.toNat*u i:=by
   rw [← sm_one (k:=c.1.toNat) (d:=del (nmA c) c.1.toNat) (g:=u) hi]
   exact sm_congr fun j hj=>by rw [b.su i j hi hj]
  have hui:u i=1:=by rw [hu];simp only;rw [if_neg (by rw [ht];decide)]
  rw [e4,hui] at hm
  omega
theorem sol_bal {c:Net} (h:NOK c) (hL:Lap (nmA c) c.1.toNat 10 50000 (dgN (nmA c))) (hr:regN c) {col:Nat} (hcol:col=8∨col=9) {g:Int} (hg:0<g) (hd:g ∣ del (nmA c) c.1.toNat) (hx:∀ i,i<c.1.toNat→g ∣ stt (nmA c) c.1.toNat c.1.toNat i col) :
  ∀ p,p<c.1.toNat→bal c.1.toNat (fun i=>(stt (nmA c) c.1.toNat c.1.toNat i col).tdiv g) ((del (nmA c) c.1.toNat).tdiv g) (obL c col) p=0:=by
 intro p hp
 have h8:=h.n8
 have h0:=h.n0
 obtain ⟨b,l,z,d⟩:=run_ok hL c.1.toNat (Nat.le_refl _) hr
 have e2:=zv_ok (A:=nmA c) (k:=c.1.toNat) (j:=col) (W:=10) (by omega) (by omega) p hp
 rw [dot_zv _ (by omega) (by omega)] at e2
 have e3:sm c.1.toNat (fun j=>nmA c p j*stt (nmA c) c.1.toNat c.1.toNat j col)=sm c.1.toNat (fun j=>nmA c p j*-kap (nmA c) c.1.toNat col j):=sm_congr fun j hj=>by rw [b.val_up (by omega) hj (by omega) (by omega)]
 rw [← e3] at e2
 rw [← lin_bal h hcol _ _ hp]
 unfold lin
 refine Int.eq_of_mul_eq_mul_left (show g≠0 by omega) ?_
 rw [Int.mul_zero,Int.mul_sub,← sm_mul]
 have e4:sm c.1.toNat (fun i=>g*(nmA c p i*(stt (nmA c) c.1.toNat c.1.toNat i col).tdiv g))=sm c.1.toNat (fun j=>nmA c p j*stt (nmA c) c.1.toNat c.1.toNat j col):=sm_congr fun j hj=>by
  rw [Int.mul_left_comm,Int.mul_tdiv_cancel' (hx j hj)]
 have e5:g*((del (nmA c) c.1.toNat).tdiv g*nmA c p col)=del (nmA c) c.1.toNat*nmA c p col:=by
  rw [← Int.mul_assoc,Int.mul_tdiv_cancel' hd]
 rw [e4,e5]
 rw [Int.mul_neg,Int.mul_comm] at e2
 omega
end Go.Proofs.YthdfmkpebafpoaaGreatDoor
namespace Go.Num
open Go.Lib
def vl:List Int→Int
 | []=>0
 | d::l=>d+10000*vl l
def okd (l:List Int):Prop:=∀ d∈l,0≤d∧d≤9999
def grp (n:Nat):List Int:=if h:n=0 then [] else ((n % 10000:Nat):Int)::grp (n / 10000)
termination_by n
decreasing_by omega
theorem grp_zero:grp 0=[]:=by rw [grp];simp
theorem grp_pos {n:Nat} (h:n≠0):grp n=((n % 10000:Nat):Int)::grp (n / 10000):=by rw [grp];simp [h]
theorem okd_nil:okd []:=fun _ h=>absurd h (by simp)
theorem okd_cons {d:Int} {l:List Int}:okd (d::l)↔(0≤d∧d≤9999)∧okd l:=by unfold okd;simp
theorem okd_app {l m:List Int}:okd (l++m)↔okd l∧okd m:=by
 unfold okd;constructor
 ·exact fun h=>⟨fun d hd=>h d (by simp [hd]),fun d hd=>h d (by simp [hd])⟩
 ·rintro ⟨h1,h2⟩ d hd;rcases List.mem_append.1 hd with h | h
  ·exact h1 d h
  ·exact h2 d h
theorem vl_nn:∀ {l:List Int},okd l→0≤vl l
 | [],_=>by simp [vl]
 | d::l,h=>by have:=vl_nn (okd_cons.1 h).2;have:=(okd_cons.1 h).1;simp only [vl];omega
theorem grp_okd (n:Nat):okd (grp n):=by
 induction n using Nat.strongRecOn with
 | _ n ih =>
  by_cases h:n=0
  ·subst h;rw [grp_zero];exact okd_nil
  ·rw [grp_pos h,okd_cons];exact ⟨by omega,ih _ (by omega)⟩
theorem vl_grp (n:Nat):vl (grp n)=n:=by
 induction n using Nat.strongRecOn with
 | _ n ih =>
  by_cases h:n=0
  ·subst h;rw [grp_zero];rfl
  ·rw [grp_pos h,vl,ih _ (by omega)];omega
theorem vl_app:∀ (l m:List Int),vl (l++m)=vl l+10000 ^ l.length*vl m
 | [],m=>by simp [vl]
 | d::l,m=>by
  simp only [List.cons_append,vl,vl_app l m,List.length_cons,Int.pow_succ]
  rw [Int.mul_add,← Int.add_assoc,← Int.mul_assoc,Int.mul_comm 10000 (10000 ^ l.length)]
theorem grp_of:∀ {l:List Int},okd l→(∀ h:l≠[],l.getLast h≠0)→grp (vl l).toNat=l
 | [],_,_=>by simp [vl,grp_zero]
 | d::l,h,hl=>by
  obtain ⟨h1,h2⟩:=okd_cons.1 h
  have hn:=vl_nn h2
  have hl':∀ h:l≠[],l.getLast h≠0:=fun h=>by have:=hl (by simp);rwa [List.getLast_cons h] at this
  have hz:(vl (d::l)).toNat≠0:=by
   intro h0
   have h3:vl l=0∧d=0:=by simp only [vl] at h0;omega
   cases l with
   | nil=>have:=hl (by simp);simp at this;exact this h3.2
   | cons e l=>have:=grp_of h2 hl';rw [h3.1] at this;simp [grp_zero] at this
  rw [grp_pos hz]
  have e1:(((vl (d::l)).toNat % 10000:Nat):Int)=d:=by simp only [vl];omega
  have e2:(vl (d::l)).toNat / 10000=(vl l).toNat:=by simp only [vl];omega
  rw [e1,e2,grp_of h2 hl']
theorem grp_drop:∀ (i n:Nat),(grp n).drop i=grp (n / 10000 ^ i)
 | 0,n=>by simp
 | i+1,n=>by
  by_cases h:n=0
  ·subst h;simp [grp_zero]
  ·rw [grp_pos h,List.drop_succ_cons,grp_drop i,Nat.pow_succ,Nat.div_div_eq_div_mul,Nat.mul_comm]
theorem grp_nil {n:Nat}:grp n=[]↔n=0:=by
 constructor
 ·intro h;by_cases h0:n=0
  ·exact h0
  ·rw [grp_pos h0] at h;simp at h
 ·rintro rfl;exact grp_zero
theorem grp_get (n i:Nat):(grp n).getD i 0=((n / 10000 ^ i % 10000:Nat):Int):=by
 have h:(grp n).getD i 0=((grp n).drop i).getD 0 0:=by simp
 rw [h,grp_drop]
 by_cases h0:n / 10000 ^ i=0
 ·rw [h0];simp [grp_zero]
 ·rw [grp_pos h0];rfl
theorem grp_len_le {n k:Nat} (h:n<10000 ^ k):(grp n).length≤k:=by
 have h1:(grp n).drop k=[]:=by rw [grp_drop,Nat.div_eq_of_lt h,grp_zero]
 exact List.drop_eq_nil_iff.1 h1
theorem grp_lt (n:Nat):n<10000 ^ (grp n).length:=by
 have h1:(grp n).drop (grp n).length=[]:=List.drop_length
 rw [grp_drop,grp_nil] at h1
 rcases Nat.div_eq_zero_iff.1 h1 with h | h
 ·have:=Nat.pow_pos (n:=(grp n).length) (show 0<10000 by decide);omega
 ·exact h
theorem grp_len_pow {n:Nat} (h:n≠0):10000 ^ ((grp n).length-1)≤n:=by
 by_cases h2:10000 ^ ((grp n).length-1)≤n
 ·exact h2
 ·have h3:=grp_len_le (Nat.lt_of_not_le h2)
  have:(grp n).length≠0:=fun e=>h (grp_nil.1 (List.length_eq_zero_iff.1 e))
  omega

def dgt (c:UInt8):Nat:=c.toNat-48
def isD (c:UInt8):Prop:=48≤c.toNat∧c.toNat≤57
def dv (l:List UInt8):Nat:=l.foldl (fun a c=>a*10+dgt c) 0
theorem dig_toNat {u:Nat} (h:u<10):(UInt8.ofNat (48+u)).toNat=48+u:=by
 rw [UInt8.toNat_ofNat'];omega
theorem isD_dig {u:Nat} (h:u<10):isD (UInt8.ofNat (48+u)):=by unfold isD;rw [dig_toNat h];omega
theorem dgt_dig {u:Nat} (h:u<10):dgt (UInt8.ofNat (48+u))=u:=by unfold dgt;rw [dig_toNat h];omega
theorem dv_app1 (l:List UInt8) (c:UInt8):dv (l++[c])=dv l*10+dgt c:=by unfold dv;rw [List.foldl_append];rfl
theorem dv_from:∀ (l:List UInt8) (a:Nat),l.foldl (fun a c=>a*10+dgt c) a=a*10 ^ l.length+dv l
 | [],a=>by simp [dv]
 | c::l,a=>by
  have e:dv (c::l)=dgt c*10 ^ l.length+dv l:=by
   show l.foldl (fun a c=>a*10+dgt c) (0*10+dgt c)=_
   rw [dv_from l,Nat.zero_mul,Nat.zero_add]
  rw [List.foldl_cons,dv_from l,e,List.length_cons,Nat.pow_succ,Nat.add_mul,Nat.mul_assoc,Nat.mul_comm 10,Nat.add_assoc]
theorem dv_app (l m:List UInt8):dv (l++m)=dv l*10 ^ m.length+dv m:=by unfold dv;rw [List.foldl_append,dv_from];rfl
theorem dec_step {n:Nat} (h:10≤n):decDigits n=decDigits (n / 10)++[UInt8.ofNat (48+n % 10)]:=by rw [decDigits,dif_neg (by omega)]
theorem dv_dec (n:Nat):dv (decDigits n)=n:=by
 induction n using Nat.strongRecOn with
 | _ n ih =>
  by_cases h:n<10
  ·rw [decDigits_one h];simp only [dv,List.foldl_cons,List.foldl_nil,dgt_dig h];omega
  ·rw [dec_step (by omega),dv_app1,ih _ (by omega),dgt_dig (by omega)];omega
theorem dec_isD (n:Nat):∀ c∈decDigits n,isD c:=by
 induction n using Nat.strongRecOn with
 | _ n ih =>
  by_cases h:n<10
  ·rw [decDigits_one h];intro c hc;rw [List.mem_singleton.1 hc];exact isD_dig h
  ·rw [dec_step (by omega)];intro c hc
   rcases List.mem_append.1 hc with h1 | h1
   ·exact ih _ (by omega) c h1
   ·rw [List.mem_singleton.1 h1];exact isD_dig (by omega)
theorem dec_ne (n:Nat):decDigits n≠[]:=by
 intro h;have:=decDigits_length n;rw [h] at this;have:=nDigits_pos n;simp at *;omega
theorem nDig_le:∀ (k n:Nat),n<10 ^ (k+1)→nDigits n≤k+1
 | 0,n,h=>by rw [nDigits_small (by simpa using h)];omega
 | k+1,n,h=>by
  by_cases h1:n<10
  ·rw [nDigits_small h1];omega
  ·rw [nDigits_big h1];have:=nDig_le k (n / 10) (by rw [Nat.pow_succ] at h;omega);omega
theorem dec_len_le {k n:Nat} (h:n<10 ^ (k+1)):(decDigits n).length≤k+1:=by rw [decDigits_length];exact nDig_le k n h
theorem dec_len_lt (n:Nat):n<10 ^ (decDigits n).length:=by rw [decDigits_length];exact lt_pow_nDigits n
theorem dec_head {n:Nat} (h:n≠0):∃ c l,decDigits n=c::l∧c≠48:=by
 induction n using Nat.strongRecOn with
 | _ n ih =>
  by_cases h1:n<10
  ·refine ⟨_,[],decDigits_one h1,fun e=>?_⟩
   have:=congrArg UInt8.toNat e;rw [dig_toNat h1] at this;simp at this;omega
  ·obtain ⟨c,l,e,hc⟩:=ih (n / 10) (by omega) (by omega)
   exact ⟨c,l++[UInt8.ofNat (48+n % 10)],by rw [dec_step (by omega),e];rfl,hc⟩
theorem dec_zero:decDigits 0=[48]:=by rw [decDigits_one (by omega)];rfl
def pad (m:Nat):List UInt8:=[UInt8.ofNat (48+m / 1000 % 10),UInt8.ofNat (48+m / 100 % 10),UInt8.ofNat (48+m / 10 % 10),UInt8.ofNat (48+m % 10)]
theorem dec_pad {n:Nat} (h:10000≤n):decDigits n=decDigits (n / 10000)++pad (n % 10000):=by
 rw [dec_step (by omega),dec_step (by omega),dec_step (by omega),dec_step (by omega)]
 simp only [List.append_assoc,List.cons_append,List.nil_append,pad]
 rw [show n / 10 / 10 / 10 / 10=n / 10000 by omega,show n / 10 / 10 / 10 % 10=n % 10000 / 1000 % 10 by omega,show n / 10 / 10 % 10=n % 10000 / 100 % 10 by omega,show n / 10 % 10=n % 10000 / 10 % 10 by omega,show n % 10000 % 10=n % 10 by omega]
theorem pad_dec {m:Nat} (h:m<10000):repeatL [48] (4-(decDigits m).length)++decDigits m=pad m:=by
 by_cases h1:m<10
 ·rw [decDigits_one h1];unfold pad
  rw [show m / 1000 % 10=0 by omega,show m / 100 % 10=0 by omega,show m / 10 % 10=0 by omega,show m % 10=m by omega];rfl
 ·by_cases h2:m<100
  ·rw [dec_step (by omega),decDigits_one (by omega)];unfold pad
   rw [show m / 1000 % 10=0 by omega,show m / 100 % 10=0 by omega,show m / 10 % 10=m / 10 by omega];rfl
  ·by_cases h3:m<1000
   ·rw [dec_step (by omega),dec_step (by omega),decDigits_one (by omega)];unfold pad
    rw [show m / 1000 % 10=0 by omega,show m / 100 % 10=m / 10 / 10 by omega];rfl
   ·rw [dec_step (by omega),dec_step (by omega),dec_step (by omega),decDigits_one (by omega)];unfold pad
    rw [show m / 1000 % 10=m / 10 / 10 / 10 by omega,show m / 100 % 10=m / 10 / 10 % 10 by omega];rfl
theorem dec_len4 {m:Nat} (h:m<10000):(decDigits m).length≤4:=dec_len_le (k:=3) (by omega)

theorem pu_dv:∀ (l:List UInt8) (a:Nat),(∀ c∈l,isD c)→a*10 ^ l.length+dv l<1844674407370955162→parseUint10 a l=.ok (a*10 ^ l.length+dv l)
 | [],a,_,_=>by simp [parseUint10,dv]
 | c::l,a,h,hb=>by
  have hc:isD c:=h c (by simp)
  have e:a*10 ^ (c::l).length+dv (c::l)=(a*10+(c.toNat-48))*10 ^ l.length+dv l:=by
   rw [show dv (c::l)=dgt c*10 ^ l.length+dv l from by have:=dv_app [c] l;simp only [List.singleton_append] at this;rw [this];simp [dv]]
   rw [List.length_cons,Nat.pow_succ,Nat.add_mul,← Nat.add_assoc,Nat.mul_assoc,Nat.mul_comm 10 (10 ^ l.length)];rfl
  have hp:1≤10 ^ l.length:=Nat.one_le_pow _ _ (by decide)
  rw [e] at hb ⊢
  have hs:a*10+(c.toNat-48)≤(a*10+(c.toNat-48))*10 ^ l.length:=Nat.le_mul_of_pos_right _ hp
  unfold parseUint10
  unfold isD at hc
  rw [if_pos hc,if_neg (by omega),if_neg (by omega)]
  exact pu_dv l _ (fun c hc=>h c (by simp [hc])) hb
theorem atoi_dv {l:List UInt8} (h0:l≠[]) (h:∀ c∈l,isD c) (hb:dv l<1844674407370955162):atoiAll l=.ok (dv l:Int):=by
 cases l with
 | nil=>exact absurd rfl h0
 | cons c l =>
  have hc:isD c:=h c (by simp)
  unfold isD at hc
  have e:parseMag (c::l)=.ok (dv (c::l)):=by
   unfold parseMag;rw [if_neg (by simp),pu_dv _ 0 h (by simpa using hb)];simp
  unfold atoiAll
  simp only
  rw [if_neg (by omega),e]
  simp only
  rw [if_neg (by omega),if_neg (by omega),if_neg (by omega)]
theorem dropW {α:Type} {p:α→Bool}:∀ {l:List α},(∀ c∈l,p c=true)→l.dropWhile p=[]
 | [],_=>rfl
 | c::l,h=>by rw [List.dropWhile_cons,if_pos (h c (by simp))];exact dropW fun c hc=>h c (by simp [hc])
theorem trim_dig {l cs:List UInt8} (h:∀ c∈l,cs.contains c=true):trimS l cs=[]:=by
 have e:trimRightS l cs=[]:=by
  unfold trimRightS
  rw [dropW fun c hc=>h c (List.mem_reverse.1 hc)];rfl
 unfold trimS;rw [e];rfl
def cyph:List UInt8:=[48,49,50,51,52,53,54,55,56,57]
theorem cyph_in {c:UInt8} (h:isD c):cyph.contains c=true:=by
 have h1:c=UInt8.ofNat c.toNat:=(UInt8.ofNat_toNat (x:=c)).symm
 unfold isD at h
 rw [h1]
 generalize c.toNat=k at h
 obtain ⟨h1,h2⟩:=h
 have:k=48∨k=49∨k=50∨k=51∨k=52∨k=53∨k=54∨k=55∨k=56∨k=57:=by omega
 rcases this with rfl | rfl | rfl | rfl | rfl | rfl | rfl | rfl | rfl | rfl<;>decide
theorem itoa_nn {n:Nat}:itoa (n:Int)=decDigits n:=by unfold itoa;rw [if_neg (by omega)];simp
theorem itoa_ng {n:Nat} (h:n≠0):itoa (-(n:Int))=45::decDigits n:=by unfold itoa;rw [if_pos (by omega)];simp
theorem pref_dec (n:Nat):trimPrefix (decDigits n) [45]=decDigits n:=by
 unfold trimPrefix hasPrefix
 have h:=dec_isD n
 cases e:decDigits n with
 | nil=>rfl
 | cons c l =>
  have hc:isD c:=h c (by rw [e];simp)
  have:(45==c)=false:=by
   rw [beq_eq_false_iff_ne];rintro rfl;revert hc;unfold isD;decide
  simp [List.isPrefixOf,this]
theorem pref_neg (l:List UInt8):trimPrefix (45::l) [45]=l:=by
 unfold trimPrefix hasPrefix;simp [List.isPrefixOf]
theorem pref_itoa (z:Int):trimPrefix (itoa z) [45]=decDigits z.natAbs:=by
 by_cases h:z<0
 ·obtain ⟨n,rfl⟩:∃ n:Nat,z=-(n:Int):=⟨z.natAbs,by omega⟩
  rw [itoa_ng (by omega),pref_neg];congr 1;omega
 ·obtain ⟨n,rfl⟩:∃ n:Nat,z=(n:Int):=⟨z.toNat,by omega⟩
  rw [itoa_nn,pref_dec];congr 1
theorem itoa_len (z:Int):(itoa z).length=(decDigits z.natAbs).length+if z<0 then 1 else 0:=by
 by_cases h:z<0
 ·obtain ⟨n,rfl⟩:∃ n:Nat,z=-(n:Int):=⟨z.natAbs,by omega⟩
  rw [itoa_ng (by omega),if_pos h,List.length_cons];congr 3;omega
 ·obtain ⟨n,rfl⟩:∃ n:Nat,z=(n:Int):=⟨z.toNat,by omega⟩
  rw [itoa_nn,if_neg h];rfl
theorem itoa_ne (z:Int):itoa z≠[]:=by
 intro h
 have h2:=itoa_len z
 have h1:(decDigits z.natAbs).length≠0:=fun e=>dec_ne z.natAbs (List.length_eq_zero_iff.1 e)
 rw [h,List.length_nil] at h2
 omega
theorem itoa_inj {x y:Int} (h:itoa x=itoa y):x=y:=by
 have e:decDigits x.natAbs=decDigits y.natAbs:=by rw [← pref_itoa,h,pref_itoa]
 have e2:x.natAbs=y.natAbs:=by rw [← dv_dec x.natAbs,e,dv_dec]
 have e3:=itoa_len x
 rw [h,itoa_len y,e] at e3
 split at e3<;>split at e3<;>omega
end Go.Num
namespace Go.Num
open Go Go.Lib Go.PE
def seqL:Nat→(Nat→Int)→List Int
 | 0,_=>[]
 | n+1,g=>g 0::seqL n fun i=>g (i+1)
theorem seqL_len:∀ n g,(seqL n g).length=n
 | 0,_=>rfl
 | n+1,g=>by show (seqL n _).length+1=n+1;rw [seqL_len]
theorem seqL_get:∀ (n:Nat) (g:Nat→Int) (i:Nat),i<n→(seqL n g).getD i 0=g i
 | n+1,g,0,_=>rfl
 | n+1,g,i+1,h=>by
  show (seqL n fun i=>g (i+1)).getD i 0=_
  exact seqL_get n _ i (by omega)
theorem vl_add:∀ (n:Nat) (f g:Nat→Int),vl (seqL n fun i=>f i+g i)=vl (seqL n f)+vl (seqL n g)
 | 0,_,_=>rfl
 | n+1,f,g=>by
  show f 0+g 0+10000*vl (seqL n fun i=>f (i+1)+g (i+1))=f 0+10000*vl (seqL n fun i=>f (i+1))+(g 0+10000*vl (seqL n fun i=>g (i+1)))
  rw [vl_add n (fun i=>f (i+1)) fun i=>g (i+1)];omega
theorem vl_sub:∀ (n:Nat) (f g:Nat→Int),vl (seqL n fun i=>f i-g i)=vl (seqL n f)-vl (seqL n g)
 | 0,_,_=>rfl
 | n+1,f,g=>by
  show f 0-g 0+10000*vl (seqL n fun i=>f (i+1)-g (i+1))=f 0+10000*vl (seqL n fun i=>f (i+1))-(g 0+10000*vl (seqL n fun i=>g (i+1)))
  rw [vl_sub n (fun i=>f (i+1)) fun i=>g (i+1)];omega
theorem vl_mul (c:Int):∀ (n:Nat) (f:Nat→Int),vl (seqL n fun i=>f i*c)=vl (seqL n f)*c
 | 0,_=>by show (0:Int)=0*c;rw [Int.zero_mul]
 | n+1,f=>by
  show f 0*c+10000*vl (seqL n fun i=>f (i+1)*c)=(f 0+10000*vl (seqL n fun i=>f (i+1)))*c
  rw [vl_mul c n fun i=>f (i+1),Int.add_mul,Int.mul_assoc]
theorem vl_zero:∀ n,vl (seqL n fun _=>0)=0
 | 0=>rfl
 | n+1=>by show 0+10000*vl (seqL n fun _=>0)=0;rw [vl_zero n];rfl
theorem vl_of:∀ (n:Nat) (l:List Int),l.length≤n→vl (seqL n fun i=>l.getD i 0)=vl l
 | 0,[],_=>rfl
 | n+1,[],_=>by
  have:(fun i=>([]:List Int).getD i 0)=fun _=>0:=by funext i;simp
  rw [this,vl_zero];rfl
 | n+1,d::l,h=>by
  show d+10000*vl (seqL n fun i=>l.getD i 0)=d+10000*vl l
  rw [vl_of n l (by simpa using h)]
theorem getD_in {α:Type} (l:List α) (d:α) {i:Nat} (h:i<l.length):l.getD i d=l[i]:=by rw [List.getD_eq_getElem?_getD,List.getElem?_eq_getElem h];rfl
theorem getD_out {α:Type} (l:List α) (d:α) {i:Nat} (h:l.length≤i):l.getD i d=d:=by rw [List.getD_eq_getElem?_getD,List.getElem?_eq_none h];rfl
theorem vl_drop (l:List Int) (i:Nat):vl (l.drop i)=l.getD i 0+10000*vl (l.drop (i+1)):=by
 by_cases h:i<l.length
 ·rw [List.drop_eq_getElem_cons h,vl,getD_in _ _ h]
 ·rw [List.drop_eq_nil_of_le (by omega),List.drop_eq_nil_of_le (by omega),getD_out _ _ (by omega)];rfl
theorem pow_pos10 (k:Nat):(0:Int)<10000 ^ k:=Int.pow_pos (by omega)
theorem vl_lt:∀ {l:List Int},okd l→vl l<10000 ^ l.length
 | [],_=>by show (0:Int)<1;omega
 | d::l,h=>by
  have:=vl_lt (okd_cons.1 h).2
  have:=(okd_cons.1 h).1
  rw [List.length_cons,Int.pow_succ]
  simp only [vl]
  omega
theorem vl_snoc (l:List Int) (d:Int):vl (l++[d])=vl l+10000 ^ l.length*d:=by
 rw [vl_app];simp [vl]
theorem okd_get {l:List Int} (h:okd l) (i:Nat):0≤l.getD i 0∧l.getD i 0≤9999:=by
 by_cases hi:i<l.length
 ·rw [getD_in _ _ hi];exact h _ (List.getElem_mem hi)
 ·rw [getD_out _ _ (by omega)];omega
theorem carry_loop {body:Int×Int×List Int→Option ((Int×Int×List Int)⊕List Int)} {dl:List Int} (hd:∀ i,-9999≤dl.getD i 0∧dl.getD i 0≤99980001) (h0:0≤vl dl)
  (hb:∀ (i:Nat) (c:Int) (out:List Int),out.length=i→i≤dl.length→-1≤c→c≤9999→(i<dl.length∨c≠0)→body (c,(i:Int),out)=some (.inl ((dl.getD i 0+c) / 10000,(i:Int)+1,out++[(dl.getD i 0+c) % 10000])))
  (he:∀ (i:Nat) (out:List Int),dl.length≤i→body (0,(i:Int),out)=some (.inr out)):Ans (loopM body (0,0,[])) fun out=>okd out∧vl out=vl dl∧out.length≤dl.length+1:=by
 refine Ans.loop (fun k s=>s.2.1=(k:Int)∧s.2.2.length=k∧okd s.2.2∧(-1≤s.1∧s.1≤9999)∧(dl.length<k→s.1=0)∧vl s.2.2+10000 ^ k*(s.1+vl (dl.drop k))=vl dl) (dl.length+1)
  ⟨rfl,rfl,okd_nil,⟨by decide,by decide⟩,fun _=>rfl,by simp [vl]⟩ ?_
 rintro k ⟨c,i,out⟩ hk ⟨h1,h2,h3,h4,h5,h6⟩
 dsimp only at h1 h2 h3 h4 h5 h6
 subst h1
 have hout:=vl_lt h3
 rw [h2] at hout
 have hpk:=pow_pos10 k
 by_cases hend:dl.length≤k∧c=0
 ·obtain ⟨e1,e2⟩:=hend
  subst e2
  refine .of (he k out e1) ⟨h3,?_,by omega⟩
  rw [List.drop_eq_nil_of_le e1] at h6
  simp [vl] at h6
  exact h6
 ·have hkl:k≤dl.length:=by
   by_cases h:dl.length<k
   ·exact absurd ⟨by omega,h5 h⟩ hend
   ·omega
  have hD:=hd k
  refine .of (hb k c out h2 hkl h4.1 h4.2 (by omega)) ⟨by omega,rfl,by simp [h2],okd_app.2 ⟨h3,okd_cons.2 ⟨by omega,okd_nil⟩⟩,by dsimp only;omega,fun hl=>?_,?_⟩
  ·have hk2:k=dl.length:=by omega
   have e0:dl.getD k 0=0:=getD_out _ _ (by omega)
   dsimp only
   rw [e0,Int.zero_add]
   by_cases hc:0≤c
   ·omega
   ·exfalso
    rw [List.drop_eq_nil_of_le (by omega)] at h6
    have hc1:c=-1:=by omega
    rw [hc1] at h6
    simp only [vl] at h6
    omega
  ·dsimp only
   rw [vl_snoc,h2,← h6,vl_drop dl k,Int.pow_succ,Int.mul_assoc,Int.add_assoc,← Int.mul_add]
   congr 2
   have:=Int.emod_add_mul_ediv (dl.getD k 0+c) 10000
   omega
theorem step_digit {v:Int} (h:-10000≤v) (h2:v≤100000000):(bif ltM v 0 then some ((-1:Int),IntKind.wrap IntKind.i64 (v+10000)) else bif leM 10000 v then (divM IntKind.i64 v 10000).bind fun r_3=>(remM v 10000).bind fun r=>some (r_3,r) else some (0,v))=some (v / 10000,v % 10000):=by
 by_cases h1:v<0
 ·rw [ltI h1,cond_true,wrap_in (by omega) (by omega),show v / 10000=-1 by omega,show v % 10000=v+10000 by omega]
 ·rw [geI (by omega),cond_false]
  by_cases h3:10000≤v
  ·rw [leI h3,cond_true,divM_pos (by omega),remM_of (by omega) (by omega),Int.tdiv_eq_ediv_of_nonneg (by omega),wrap_in (by omega) (by omega)];rfl
  ·rw [gtI (by omega),cond_false,show v / 10000=0 by omega,show v % 10000=v by omega]
theorem dv_lt:∀ {l:List UInt8},(∀ c∈l,isD c)→dv l<10 ^ l.length
 | [],_=>by decide
 | c::l,h=>by
  have:=dv_lt fun c hc=>h c (List.mem_cons_of_mem _ hc)
  have hc:isD c:=h c (by simp)
  unfold isD at hc
  have e:dv (c::l)=dgt c*10 ^ l.length+dv l:=by have:=dv_app [c] l;simp only [List.singleton_append] at this;rw [this];simp [dv]
  have h9:dgt c*10 ^ l.length≤9*10 ^ l.length:=Nat.mul_le_mul_right _ (by unfold dgt;omega)
  rw [e,List.length_cons,Nat.pow_succ]
  omega
end Go.Num
namespace Go.Proofs.YthdfmkpebafpoaaGreatDoor
open Go Go.Lib Go.Abs Go.PE Go.Num
theorem itoa_zero:itoa 0=[48]:=by rw [show (0:Int)=((0:Nat):Int) from rfl,itoa_nn,dec_zero]
theorem itoa_eq0 {z:Int}:itoa z=[48]↔z=0:=⟨fun h=>itoa_inj (h.trans itoa_zero.symm),fun h=>h▸itoa_zero⟩
theorem eqsT {x y:List UInt8} (h:x=y):eqsM x y=true:=decide_eq_true h
theorem eqsF {x y:List UInt8} (h:x≠y):eqsM x y=false:=decide_eq_false h
theorem lenI {α:Type} (l:List α):lenM l=(l.length:Int):=rfl
theorem snoc_of {α:Type} {l:List α} (h:l≠[]):∃ t d,l=t++[d]:=⟨l.dropLast,l.getLast h,(List.dropLast_concat_getLast h).symm⟩
theorem strip_ok {l:List Int} (h:okd l) (hl:l.length≤100000):m81 l=some (grp (vl l).toNat):=by
 unfold m81
 refine bind_of (loopM_is (r:=grp (vl l).toNat) (fun k s=>okd s∧vl s=vl l∧s.length+k=l.length) l.length ⟨h,rfl,by omega⟩ ?_) rfl
 rintro k s hk ⟨h1,h2,h3⟩
 by_cases h0:s=[]
 ·subst h0
  right
  have e:vl l=0:=h2.symm
  rw [e,show (0:Int).toNat=0 from rfl,grp_zero];rfl
 ·obtain ⟨t,d,rfl⟩:=snoc_of h0
  have hlen:lenM (t++[d])=(t.length:Int)+1:=by rw [lenI];simp
  have hlen2:(t++[d]).length=t.length+1:=by simp
  have e:IntKind.wrap IntKind.i64 (lenM (t++[d])-1)=(t.length:Int):=by rw [hlen,wrap_in (by omega) (by omega)];omega
  have e1:idxM (t++[d]) (t.length:Int)=some d:=by rw [idxM_nat];simp
  have e2:sliceM (t++[d]) 0 (t.length:Int)=some t:=by rw [sliceM_of (by omega) (by omega) (by rw [hlen2];omega)];simp
  rw [e,ltI (show (0:Int)<lenM (t++[d]) by rw [hlen];omega),cond_true,e1,Option.bind_some,andT]
  by_cases hd:d=0
  ·left
   refine ⟨t,by omega,by rw [eqI hd,cond_true,e2];rfl,(okd_app.1 h1).1,?_,by omega⟩
   rw [← h2,vl_snoc,hd];omega
  ·right
   rw [neI hd,cond_false,← h2,grp_of h1 fun _=>by simpa using hd]
theorem valid_ok {z:Int} (h:z.natAbs<10 ^ 200):m53 (itoa z)=some true:=by
 unfold m53
 have e0:prefM (itoa z) [(45:UInt8)]=decDigits z.natAbs:=pref_itoa z
 have hl:(decDigits z.natAbs).length≤200:=dec_len_le (k:=199) h
 have e3:trimM (decDigits z.natAbs) [(48:UInt8),(49:UInt8),(50:UInt8),(51:UInt8),(52:UInt8),(53:UInt8),(54:UInt8),(55:UInt8),(56:UInt8),(57:UInt8)]=some []:=by
  have e:trimM (decDigits z.natAbs) cyph=some (trimS (decDigits z.natAbs) cyph):=rfl
  rw [trim_dig fun c hc=>cyph_in (dec_isD _ c hc)] at e
  exact e
 rw [e0,eqsF (dec_ne _),geI (show lenM (decDigits z.natAbs)≤200 by rw [lenI];omega),orF,notF,cond_true,e3,Option.bind_some,orF,eqsT rfl,notT,cond_false]
 by_cases hz:z=0
 ·subst hz;rw [itoa_zero];rfl
 ·obtain ⟨c,l,e,hc⟩:=dec_head (n:=z.natAbs) (by omega)
  rw [eqsF fun e=>hz (itoa_eq0.1 e),notF,cond_true,e]
  have e4:byteM (c::l) 0=some (c.toNat:Int):=rfl
  rw [e4,Option.bind_some,orF,neI fun h=>hc (UInt8.toNat_inj.1 (by rw [show (48:UInt8).toNat=48 from rfl];omega))];rfl
theorem atoi_ok {l:List UInt8} (h0:l≠[]) (h:∀ c∈l,isD c) (hl:l.length≤4):atoiM l=some (dv l:Int):=by
 have hd:=dv_lt h
 have hp:10 ^ l.length≤10 ^ 4:=Nat.pow_le_pow_right (by omega) hl
 unfold atoiM
 rw [atoi_dv h0 h (by omega),decide_eq_true (show l.length≤9223372036854775806 by omega)]
 dsimp only
 rw [decide_eq_true (show (-9223372036854775808:Int)≤dv l by omega),decide_eq_true (show (dv l:Int)≤9223372036854775807 by omega)]
theorem parse_ok {z:Int} (h:z.natAbs<10 ^ 200):m54 (itoa z)=some (decide (z<0),grp z.natAbs):=by
 unfold m54
 have e0:prefM (itoa z) [(45:UInt8)]=decDigits z.natAbs:=pref_itoa z
 have hl:(decDigits z.natAbs).length≤200:=dec_len_le (k:=199) h
 have hn:ltM (lenM (decDigits z.natAbs)) (lenM (itoa z))=decide (z<0):=by
  have:=itoa_len z
  by_cases hz:z<0
  ·rw [if_pos hz] at this;rw [decide_eq_true hz];exact ltI (by rw [lenI,lenI];omega)
  ·rw [if_neg hz] at this;rw [decide_eq_false hz];exact geI (by rw [lenI,lenI];omega)
 dsimp only
 rw [e0,hn]
 refine Ans.is (Ans.bind (P:=fun o=>o.1=decide (z<0)∧okd o.2∧vl o.2=z.natAbs∧o.2.length≤50) (Ans.loop (fun k s=>(∀ c∈s.1,isD c)∧s.1.length≤4*(50-k)∧s.2.1=decide (z<0)∧okd s.2.2∧s.2.2.length=k∧vl s.2.2+10000 ^ k*(dv s.1:Int)=z.natAbs) 50 ⟨dec_isD _,by omega,rfl,okd_nil,rfl,by rw [dv_dec];simp [vl]⟩ ?_) ?_)
 ·rintro k ⟨ds,ng,sz⟩ hk ⟨h1,h2,h3,h4,h5,h6⟩
  dsimp only at h1 h2 h3 h4 h5 h6
  dsimp only
  by_cases hd:ds=[]
  ·subst hd
   refine Ans.of (r:=.inr (ng,sz)) (by rfl) ?_
   refine show ng=decide (z<0)∧okd sz∧vl sz=z.natAbs∧sz.length≤50 from ⟨h3,h4,?_,by omega⟩
   rw [← h6];simp [dv]
  ·have hlp:0<ds.length:=List.length_pos_iff.2 hd
   have hf:max (0:Int) (IntKind.wrap IntKind.i64 (lenM ds-4))=((ds.length-4:Nat):Int):=by
    rw [wrap_in (by rw [lenI];omega) (by rw [lenI];omega),lenI];omega
   have e1:sliceM ds ((ds.length-4:Nat):Int) (lenM ds)=some (ds.drop (ds.length-4)):=by
    rw [sliceM_of (by omega) (by show ((ds.length-4:Nat):Int)≤(ds.length:Int);omega) (Int.le_refl _)]
    congr 1
    rw [List.take_of_length_le (by show ds.length≤(ds.length:Int).toNat;omega)];rfl
   have e2:sliceM ds 0 ((ds.length-4:Nat):Int)=some (ds.take (ds.length-4)):=by
    rw [sliceM_of (by omega) (by omega) (by omega)];rfl
   have hdl:(ds.drop (ds.length-4)).length=min 4 ds.length:=by rw [List.length_drop];omega
   have e3:atoiM (ds.drop (ds.length-4))=some (dv (ds.drop (ds.length-4)):Int):=atoi_ok (fun e=>by rw [e] at hdl;simp at hdl;omega) (fun c hc=>h1 c (List.mem_of_mem_drop hc)) (by omega)
   have e4:appM (nat_lit 8) sz [(dv (ds.drop (ds.length-4)):Int)]=some (sz++[(dv (ds.drop (ds.length-4)):Int)]):=appM_of (by simp;omega)
   have hlt:=dv_lt (l:=ds.drop (ds.length-4)) fun c hc=>h1 c (List.mem_of_mem_drop hc)
   have hpw:10 ^ (ds.drop (ds.length-4)).length≤10 ^ 4:=Nat.pow_le_pow_right (by omega) (by omega)
   have hv:(dv ds:Int)=dv (ds.drop (ds.length-4))+10000*dv (ds.take (ds.length-4)):=by
    have:=dv_app (ds.take (ds.length-4)) (ds.drop (ds.length-4))
    rw [List.take_append_drop] at this
    by_cases h4:4≤ds.length
    ·rw [hdl,show min 4 ds.length=4 by omega] at this;omega
    ·rw [show ds.length-4=0 by omega,List.take_zero,List.drop_zero] at this ⊢;simp [dv] at this ⊢
   refine Ans.of (r:=.inl (ds.take (ds.length-4),ng,sz++[(dv (ds.drop (ds.length-4)):Int)])) ?_ ?_
   ·rw [hf,e1,e2,Option.bind_some,e3,Option.bind_some,e4,Option.bind_some,Option.bind_some,ltI (by rw [lenI];omega),cond_true]
   ·refine show k<50∧(∀ c∈ds.take (ds.length-4),isD c)∧(ds.take (ds.length-4)).length≤4*(50-(k+1))∧ng=decide (z<0)∧okd (sz++[(dv (ds.drop (ds.length-4)):Int)])∧(sz++[(dv (ds.drop (ds.length-4)):Int)]).length=k+1∧vl (sz++[(dv (ds.drop (ds.length-4)):Int)])+10000 ^ (k+1)*(dv (ds.take (ds.length-4)):Int)=z.natAbs from ⟨by omega,fun c hc=>h1 c (List.mem_of_mem_take hc),by rw [List.length_take];omega,h3,okd_app.2 ⟨h4,okd_cons.2 ⟨by omega,okd_nil⟩⟩,by simp [h5],?_⟩
    rw [vl_snoc,h5,← h6,hv,Int.pow_succ,Int.mul_add,Int.mul_assoc];omega
 ·rintro ⟨ng,sz⟩ ⟨h1,h2,h3,h4⟩
  dsimp only at h1 h2 h3 h4
  have e:=strip_ok h2 (by omega)
  rw [h3] at e
  exact .of (r:=(ng,grp z.natAbs)) (by dsimp only;rw [e];rfl) (by rw [h1])
theorem both_ok {x y:Int} (hx:x.natAbs<10 ^ 200) (hy:y.natAbs<10 ^ 200):m30 (itoa x,itoa y)=some ((decide (x<0),grp x.natAbs),(decide (y<0),grp y.natAbs),true):=by
 unfold m30
 dsimp only
 rw [valid_ok hx,Option.bind_some,notT,notF,cond_true,valid_ok hy,Option.bind_some,notT,orF,cond_false,parse_ok hx,Option.bind_some,parse_ok hy];rfl
end Go.Proofs.YthdfmkpebafpoaaGreatDoor
namespace Go.Proofs.YthdfmkpebafpoaaGreatDoor
open Go Go.Lib Go.Abs Go.PE Go.Num
theorem catB_of {x y:List UInt8} (h:x.length+y.length≤140737488355328):catB x y=some (x++y):=by unfold catB;rw [Nat.ble_eq_true_of_le h]
theorem catM_of {x y:List UInt8} (h:x.length+y.length≤9223372036854775807):catM x y=some (x++y):=by unfold catM;rw [Nat.ble_eq_true_of_le h]
theorem rpt_of {n:Nat} (h:n≤1000):rptM [(48:UInt8)] (n:Int)=some (repeatL [48] n):=by
 unfold rptM
 rw [decide_eq_true (show (0:Int)≤n by omega),decide_eq_true (show ([(48:UInt8)]:List UInt8).length*(n:Int).toNat≤140737488355328 by simp;omega),decide_eq_true (show (n:Int)≤9223372036854775807 by omega)];rfl
theorem grp_idx {n i:Nat} (h:i<(grp n).length):idxM (grp n) (i:Int)=some ((n / 10000 ^ i % 10000:Nat):Int):=by
 rw [idxM_lt h,← getD_in _ 0 h,grp_get]
theorem pow10k (L:Nat):10000 ^ L=10 ^ (4*L):=by rw [Nat.pow_mul]
theorem dec_len_grp {m n:Nat} (h:n<10000 ^ (m+1)):(decDigits n).length≤4*(m+1):=by
 rw [pow10k] at h
 exact dec_len_le (k:=4*m+3) (by rw [show 4*m+3+1=4*(m+1) by omega];exact h)
theorem div_pow_succ (n j:Nat):n / 10000 ^ (j+1)=n / 10000 ^ j / 10000:=by rw [Nat.pow_succ,Nat.div_div_eq_div_mul]
theorem grp_top {n:Nat} (h:n≠0):n / 10000 ^ ((grp n).length-1)<10000:=by
 have h1:=grp_lt n
 have h2:(grp n).length≠0:=fun e=>h (grp_nil.1 (List.length_eq_zero_iff.1 e))
 rw [Nat.div_lt_iff_lt_mul (Nat.pow_pos (by omega)),Nat.mul_comm,← Nat.pow_succ,show ((grp n).length-1).succ=(grp n).length by omega]
 exact h1
theorem text_ok {ng:Bool} {n:Nat} (hn:(grp n).length≤400):m32 (ng,grp n)=some (if n<10 ^ 200 then (itoa (if ng then -(n:Int) else n),0) else ([],30)):=by
 unfold m32
 by_cases h0:n=0
 ·subst h0
  rw [grp_zero,if_pos (by decide)]
  cases ng
  ·show some (([48]:List UInt8),(0:Int))=some (itoa 0,0);rw [itoa_zero]
  ·show some (([48]:List UInt8),(0:Int))=some (itoa 0,0);rw [itoa_zero]
 ·have hL:(grp n).length≠0:=fun e=>h0 (grp_nil.1 (List.length_eq_zero_iff.1 e))
  obtain ⟨L,hLL⟩:∃ L,(grp n).length=L+1:=⟨(grp n).length-1,by omega⟩
  have hlen:lenM (grp n)=(L:Int)+1:=by rw [lenI,hLL];omega
  have htop:=grp_top h0
  rw [hLL,Nat.add_sub_cancel] at htop
  have hnl:n<10000 ^ (L+1):=by have:=grp_lt n;rwa [hLL] at this
  have hge:10000 ^ L≤n:=by have:=grp_len_pow h0;rwa [hLL,Nat.add_sub_cancel] at this
  have hw:IntKind.wrap IntKind.i64 (lenM (grp n)-1)=(L:Int):=by rw [hlen,wrap_in (by omega) (by omega)];omega
  dsimp only
  rw [neI (by rw [hlen];omega),cond_false,hw]
  refine bind_of (x:=decDigits n) ?_ ?_
  ·refine (loopM_fn (fun k=>((L:Int)-k,if k=0 then [] else decDigits (n / 10000 ^ (L+1-k)))) (L+1) (r:=decDigits n) (fun k hk=>?_) ?_)
   ·have hi:(L:Int)-k=((L-k:Nat):Int):=by omega
    have hq:n / 10000 ^ (L-k)≤n:=Nat.div_le_self _ _
    have hdl:(decDigits (n / 10000 ^ (L-k) % 10000)).length≤4:=dec_len4 (by omega)
    have e1:idxM (grp n) ((L-k:Nat):Int)=some ((n / 10000 ^ (L-k) % 10000:Nat):Int):=grp_idx (by omega)
    have e2:itoaM ((n / 10000 ^ (L-k) % 10000:Nat):Int)=decDigits (n / 10000 ^ (L-k) % 10000):=itoa_nn
    have e3:IntKind.wrap IntKind.i64 (4-lenM (decDigits (n / 10000 ^ (L-k) % 10000)))=((4-(decDigits (n / 10000 ^ (L-k) % 10000)).length:Nat):Int):=by
     rw [lenI,wrap_in (by omega) (by omega)];omega
    have e4:IntKind.wrap IntKind.i64 (((L-k:Nat):Int)-1)=(L:Int)-((k+1:Nat):Int):=by rw [wrap_in (by omega) (by omega)];omega
    dsimp only
    rw [hi,leI (by omega),cond_true,e1,Option.bind_some,e2,e4,if_neg (show ¬ k+1=0 by omega),show L+1-(k+1)=L-k by omega]
    by_cases hk0:k=0
    ·subst hk0
     rw [geI (by omega),cond_false,Option.bind_some,if_pos rfl,Nat.sub_zero]
     rw [Nat.mod_eq_of_lt htop,catB_of (by have:=dec_len4 htop;simp;omega)];rfl
    ·have hb:n / 10000 ^ (L+1-k)=n / 10000 ^ (L-k) / 10000:=by rw [show L+1-k=L-k+1 by omega,div_pow_succ]
     have hbig:10000≤n / 10000 ^ (L-k):=by
      rw [Nat.le_div_iff_mul_le (Nat.pow_pos (by omega)),Nat.mul_comm,← Nat.pow_succ]
      exact Nat.le_trans (Nat.pow_le_pow_right (by omega) (by omega)) hge
     have hlen2:(decDigits (n / 10000 ^ (L-k) / 10000)).length≤4*(L+1):=dec_len_grp (Nat.lt_of_le_of_lt (Nat.le_trans (Nat.div_le_self _ _) hq) hnl)
     have e5:(repeatL [(48:UInt8)] (4-(decDigits (n / 10000 ^ (L-k) % 10000)).length)++decDigits (n / 10000 ^ (L-k) % 10000)).length=4:=by rw [pad_dec (by omega)];rfl
     rw [List.length_append] at e5
     rw [ltI (by omega),cond_true,e3,rpt_of (by omega),Option.bind_some,catM_of (by omega),Option.bind_some,pad_dec (by omega),Option.bind_some,if_neg hk0,hb,
      catB_of (by show _+4≤_;omega),← dec_pad hbig];rfl
   ·have e:(L:Int)-((L+1:Nat):Int)=-1:=by omega
    dsimp only
    rw [e,if_neg (by omega),show L+1-(L+1)=0 by omega,Nat.pow_zero,Nat.div_one];rfl
  ·have hl2:=dec_len_grp hnl
   by_cases hs:n<10 ^ 200
   ·have h200:(decDigits n).length≤200:=dec_len_le (k:=199) hs
    rw [if_pos hs,geI (by rw [lenI];omega),cond_false]
    cases ng
    ·rw [cond_false,if_neg (by decide),itoa_nn]
    ·rw [cond_true,catM_of (by simp;omega),Option.bind_some,if_pos rfl,itoa_ng h0];rfl
   ·have h200:¬ (decDigits n).length≤200:=fun h=>hs (Nat.lt_of_lt_of_le (dec_len_lt n) (Nat.pow_le_pow_right (by omega) h))
    rw [if_neg hs,ltI (by rw [lenI];omega),cond_true]
def Sg (o:Bool×List Int) (z:Int):Prop:=o.2=grp z.natAbs∧(z≠0→o.1=decide (z<0))
theorem textZ {o:Bool×List Int} {z:Int} (h:Sg o z) (hn:(grp z.natAbs).length≤400):m32 o=some (if z.natAbs<10 ^ 200 then (itoa z,0) else ([],30)):=by
 obtain ⟨ng,l⟩:=o
 obtain ⟨h1,h2⟩:=h
 dsimp only at h1 h2
 subst h1
 rw [text_ok hn]
 have e:(if ng then -(z.natAbs:Int) else z.natAbs)=z:=by
  by_cases hz:z=0
  ·subst hz;cases ng<;>rfl
  ·rw [h2 hz]
   by_cases hneg:z<0
   ·rw [if_pos (by simpa using hneg)];omega
   ·rw [if_neg (by simpa using hneg)];omega
 rw [e]
theorem at_ok (l:List Int) (i:Nat):m85 (l,(i:Int))=some (l.getD i 0):=by
 unfold m85
 by_cases h:i<l.length
 ·dsimp only;rw [ltI (by rw [lenI];omega),cond_true,idxM_lt h,getD_in _ _ h];rfl
 ·dsimp only;rw [geI (by rw [lenI];omega),cond_false,getD_out _ _ (by omega)]
theorem mk0 {n:Int} (h0:0≤n) (h:n≤1000000):mkM 0 n (nat_lit 8) (0:Int)=some []:=by rw [mkM_of (by omega) (by omega) (by show n*8≤_;omega)];rfl
theorem app1 {l:List Int} {d:Int} (h:l.length≤1000000):appM (nat_lit 8) l [d]=some (l++[d]):=appM_of (by simp;omega)
theorem fold_end {o:Option (List Int)} {n k:Nat} (h:Ans o fun out=>okd out∧vl out=(n:Int)∧out.length≤k+1) (hk:k≤10000):(o.bind fun o=>(m81 o).bind fun r=>some r)=some (grp n):=by
 refine Ans.is (Ans.bind h ?_)
 rintro out ⟨h1,h2,h3⟩
 have e:=strip_ok h1 (by omega)
 rw [h2] at e
 exact .of (by rw [e];rfl) rfl
theorem seq_at (n:Nat) (g:Nat→Int) {i:Nat} (hz:∀ i,n≤i→g i=0):(seqL n g).getD i 0=g i:=by
 by_cases h:i<n
 ·exact seqL_get n g i h
 ·rw [getD_out _ _ (by rw [seqL_len];omega),hz i (by omega)]
theorem plus_ok {a b:Nat} (ha:(grp a).length≤1000) (hb:(grp b).length≤1000):m56 (grp a,grp b)=some (grp (a+b)):=by
 unfold m56
 dsimp only
 have hm:max (lenM (grp a)) (lenM (grp b))=((max (grp a).length (grp b).length:Nat):Int):=by rw [lenI,lenI];omega
 rw [hm,wrap_in (by omega) (by omega),mk0 (by omega) (by omega),Option.bind_some]
 have hs:∀ i,(seqL (max (grp a).length (grp b).length) fun i=>(grp a).getD i 0+(grp b).getD i 0).getD i 0=(grp a).getD i 0+(grp b).getD i 0:=fun i=>seq_at _ _ fun i hi=>by rw [getD_out _ _ (by omega),getD_out _ _ (by omega)];rfl
 have hA:=okd_get (grp_okd a)
 have hB:=okd_get (grp_okd b)
 have hv:vl (seqL (max (grp a).length (grp b).length) fun i=>(grp a).getD i 0+(grp b).getD i 0)=((a+b:Nat):Int):=by
  rw [vl_add,vl_of _ _ (by omega),vl_of _ _ (by omega),vl_grp,vl_grp];omega
 refine fold_end (k:=max (grp a).length (grp b).length) ?_ (by omega)
 have key:=carry_loop (dl:=seqL (max (grp a).length (grp b).length) fun i=>(grp a).getD i 0+(grp b).getD i 0) (fun i=>by rw [hs];have:=hA i;have:=hB i;omega) (by rw [hv];omega)
  (body:=fun (s:Int×Int×List Int)=>bif PE.orM (ltM s.2.1 ((max (grp a).length (grp b).length:Nat):Int))
 (PE.notM (eqM s.1 0)) then (m85 (grp a,s.2.1)).bind fun r_1=>(m85 (grp b,s.2.1)).bind fun r_2=>(bif ltM (IntKind.wrap IntKind.i64 (IntKind.wrap
 IntKind.i64 (r_1+r_2)+s.1)) 0 then some ((-1),IntKind.wrap IntKind.i64 (IntKind.wrap IntKind.i64 (IntKind.wrap IntKind.i64 (r_1+r_2)+s.1)+10000)) else bif leM 10000 (IntKind.wrap
 IntKind.i64 (IntKind.wrap IntKind.i64 (r_1+r_2)+s.1)) then (divM IntKind.i64 (IntKind.wrap IntKind.i64 (IntKind.wrap IntKind.i64 (r_1+r_2)+s.1)) 10000).bind fun r_3=>(remM
 (IntKind.wrap IntKind.i64 (IntKind.wrap IntKind.i64 (r_1+r_2)+s.1)) 10000).bind fun r=>some (r_3,r) else some (0,IntKind.wrap IntKind.i64 (IntKind.wrap IntKind.i64 (r_1+r_2) +
 s.1))).bind fun o=>(appM (nat_lit 8) s.2.2 [o.2]).bind fun r=>some (Sum.inl (o.1,IntKind.wrap IntKind.i64 (s.2.1+1),r)) else some (Sum.inr s.2.2))
  (fun i c out ho hi h1 h2 h3=>?_) (fun i out hi=>?_)
 ·rw [hv,seqL_len] at key
  exact key
 ·rw [seqL_len] at hi h3
  have hA:=hA i
  have hB:=hB i
  have hc:PE.orM (ltM (i:Int) ((max (grp a).length (grp b).length:Nat):Int)) (PE.notM (eqM c 0))=true:=by
   rcases h3 with h | h
   ·rw [ltI (by omega),orT]
   ·rw [neI h,notF];cases ltM (i:Int) _<;>rfl
  have e:IntKind.wrap IntKind.i64 (IntKind.wrap IntKind.i64 ((grp a).getD i 0+(grp b).getD i 0)+c)=(grp a).getD i 0+(grp b).getD i 0+c:=by rw [wrap_in (n:=_+_) (by rw [wrap_in (by omega) (by omega)];omega) (by rw [wrap_in (by omega) (by omega)];omega),wrap_in (by omega) (by omega)]
  dsimp only
  rw [hc,cond_true,at_ok,Option.bind_some,at_ok,Option.bind_some,e,step_digit (by omega) (by omega),Option.bind_some,app1 (by omega),Option.bind_some,wrap_in (by omega) (by omega),hs]
 ·rw [seqL_len] at hi
  dsimp only
  rw [geI (by omega)];rfl
end Go.Proofs.YthdfmkpebafpoaaGreatDoor
namespace Go.Proofs.YthdfmkpebafpoaaGreatDoor
open Go Go.Lib Go.Abs Go.PE Go.Num
theorem by_ok {a d:Nat} (ha:(grp a).length≤1000) (hd:d≤9999):m57 (grp a,(d:Int))=some (grp (a*d)):=by
 unfold m57
 dsimp only
 have hm:lenM (grp a)=((grp a).length:Int):=lenI _
 rw [hm,wrap_in (by omega) (by omega),mk0 (by omega) (by omega),Option.bind_some]
 have hs:∀ i,(seqL (grp a).length fun i=>(grp a).getD i 0*(d:Int)).getD i 0=(grp a).getD i 0*(d:Int):=fun i=>seq_at _ _ fun i hi=>by rw [getD_out _ _ (by omega),Int.zero_mul]
 have hA:=okd_get (grp_okd a)
 have hb:∀ i,0≤(grp a).getD i 0*(d:Int)∧(grp a).getD i 0*(d:Int)≤99980001:=fun i=>by
  have h1:=hA i
  refine ⟨Int.mul_nonneg h1.1 (by omega),?_⟩
  have:=Int.mul_le_mul h1.2 (show (d:Int)≤9999 by omega) (by omega) (by omega)
  omega
 have hv:vl (seqL (grp a).length fun i=>(grp a).getD i 0*(d:Int))=((a*d:Nat):Int):=by
  rw [vl_mul,vl_of _ _ (by omega),vl_grp];exact (Int.natCast_mul a d).symm
 refine fold_end (k:=(grp a).length) ?_ (by omega)
 have key:=carry_loop (dl:=seqL (grp a).length fun i=>(grp a).getD i 0*(d:Int)) (fun i=>by rw [hs];have:=hb i;omega) (by rw [hv];omega)
  (body:=fun (s:Int×Int×List Int)=>bif PE.orM (ltM s.2.1 ((grp a).length:Int))
 (PE.notM (eqM s.1 0)) then (m85 (grp a,s.2.1)).bind fun r_1=>(bif ltM (IntKind.wrap IntKind.i64 (IntKind.wrap
 IntKind.i64 (r_1*(d:Int))+s.1)) 0 then some ((-1),IntKind.wrap IntKind.i64 (IntKind.wrap IntKind.i64 (IntKind.wrap IntKind.i64 (r_1*(d:Int))+s.1)+10000)) else bif leM 10000 (IntKind.wrap
 IntKind.i64 (IntKind.wrap IntKind.i64 (r_1*(d:Int))+s.1)) then (divM IntKind.i64 (IntKind.wrap IntKind.i64 (IntKind.wrap IntKind.i64 (r_1*(d:Int))+s.1)) 10000).bind fun r_2=>(remM
 (IntKind.wrap IntKind.i64 (IntKind.wrap IntKind.i64 (r_1*(d:Int))+s.1)) 10000).bind fun r=>some (r_2,r) else some (0,IntKind.wrap IntKind.i64 (IntKind.wrap IntKind.i64 (r_1*(d:Int)) +
 s.1))).bind fun o=>(appM (nat_lit 8) s.2.2 [o.2]).bind fun r=>some (Sum.inl (o.1,IntKind.wrap IntKind.i64 (s.2.1+1),r)) else some (Sum.inr s.2.2))
  (fun i c out ho hi h1 h2 h3=>?_) (fun i out hi=>?_)
 ·rw [hv,seqL_len] at key
  exact key
 ·rw [seqL_len] at hi h3
  have hb:=hb i
  have hc:PE.orM (ltM (i:Int) ((grp a).length:Int)) (PE.notM (eqM c 0))=true:=by
   rcases h3 with h | h
   ·rw [ltI (by omega),orT]
   ·rw [neI h,notF];cases ltM (i:Int) _<;>rfl
  have e:IntKind.wrap IntKind.i64 (IntKind.wrap IntKind.i64 ((grp a).getD i 0*(d:Int))+c)=(grp a).getD i 0*(d:Int)+c:=by rw [wrap_in (n:=(grp a).getD i 0*(d:Int)) (by omega) (by omega),wrap_in (by omega) (by omega)]
  dsimp only
  rw [hc,cond_true,at_ok,Option.bind_some,e,step_digit (by omega) (by omega),Option.bind_some,app1 (by omega),Option.bind_some,wrap_in (by omega) (by omega),hs]
 ·rw [seqL_len] at hi
  dsimp only
  rw [geI (by omega)];rfl
theorem grp_len_mono {a b:Nat} (h:a≤b):(grp a).length≤(grp b).length:=grp_len_le (Nat.lt_of_le_of_lt h (grp_lt b))
theorem minus_ok {a b:Nat} (ha:(grp a).length≤1000) (hb:b≤a):m77 (grp a,grp b)=some (grp (a-b)):=by
 unfold m77
 dsimp only
 have hl:=grp_len_mono hb
 have hm:lenM (grp a)=((grp a).length:Int):=lenI _
 rw [hm,wrap_in (by omega) (by omega),mk0 (by omega) (by omega),Option.bind_some]
 have hs:∀ i,(seqL (grp a).length fun i=>(grp a).getD i 0-(grp b).getD i 0).getD i 0=(grp a).getD i 0-(grp b).getD i 0:=fun i=>seq_at _ _ fun i hi=>by rw [getD_out _ _ (by omega),getD_out _ _ (by omega)];rfl
 have hA:=okd_get (grp_okd a)
 have hB:=okd_get (grp_okd b)
 have hv:vl (seqL (grp a).length fun i=>(grp a).getD i 0-(grp b).getD i 0)=((a-b:Nat):Int):=by
  rw [vl_sub,vl_of _ _ (by omega),vl_of _ _ (by omega),vl_grp,vl_grp];omega
 refine fold_end (k:=(grp a).length) ?_ (by omega)
 have key:=carry_loop (dl:=seqL (grp a).length fun i=>(grp a).getD i 0-(grp b).getD i 0) (fun i=>by rw [hs];have:=hA i;have:=hB i;omega) (by rw [hv];omega)
  (body:=fun (s:Int×Int×List Int)=>bif PE.orM (ltM s.2.1 ((grp a).length:Int))
 (PE.notM (eqM s.1 0)) then (m85 (grp a,s.2.1)).bind fun r_1=>(m85 (grp b,s.2.1)).bind fun r_2=>(bif ltM (IntKind.wrap IntKind.i64 (IntKind.wrap
 IntKind.i64 (r_1-r_2)+s.1)) 0 then some ((-1),IntKind.wrap IntKind.i64 (IntKind.wrap IntKind.i64 (IntKind.wrap IntKind.i64 (r_1-r_2)+s.1)+10000)) else bif leM 10000 (IntKind.wrap
 IntKind.i64 (IntKind.wrap IntKind.i64 (r_1-r_2)+s.1)) then (divM IntKind.i64 (IntKind.wrap IntKind.i64 (IntKind.wrap IntKind.i64 (r_1-r_2)+s.1)) 10000).bind fun r_3=>(remM
 (IntKind.wrap IntKind.i64 (IntKind.wrap IntKind.i64 (r_1-r_2)+s.1)) 10000).bind fun r=>some (r_3,r) else some (0,IntKind.wrap IntKind.i64 (IntKind.wrap IntKind.i64 (r_1-r_2) +
 s.1))).bind fun o=>(appM (nat_lit 8) s.2.2 [o.2]).bind fun r=>some (Sum.inl (o.1,IntKind.wrap IntKind.i64 (s.2.1+1),r)) else some (Sum.inr s.2.2))
  (fun i c out ho hi h1 h2 h3=>?_) (fun i out hi=>?_)
 ·rw [hv,seqL_len] at key
  exact key
 ·rw [seqL_len] at hi h3
  have hA:=hA i
  have hB:=hB i
  have hc:PE.orM (ltM (i:Int) ((grp a).length:Int)) (PE.notM (eqM c 0))=true:=by
   rcases h3 with h | h
   ·rw [ltI (by omega),orT]
   ·rw [neI h,notF];cases ltM (i:Int) _<;>rfl
  have e:IntKind.wrap IntKind.i64 (IntKind.wrap IntKind.i64 ((grp a).getD i 0-(grp b).getD i 0)+c)=(grp a).getD i 0-(grp b).getD i 0+c:=by rw [wrap_in (n:=(grp a).getD i 0-(grp b).getD i 0) (by omega) (by omega),wrap_in (by omega) (by omega)]
  dsimp only
  rw [hc,cond_true,at_ok,Option.bind_some,at_ok,Option.bind_some,e,step_digit (by omega) (by omega),Option.bind_some,app1 (by omega),Option.bind_some,wrap_in (by omega) (by omega),hs]
 ·rw [seqL_len] at hi
  dsimp only
  rw [geI (by omega)];rfl
theorem grp_mul {a b:Nat}:(grp (a*b)).length≤(grp a).length+(grp b).length:=grp_len_le (by rw [Nat.pow_add];exact Nat.mul_lt_mul'' (grp_lt a) (grp_lt b))
theorem grp_add {a b:Nat}:(grp (a+b)).length≤max (grp a).length (grp b).length+1:=grp_len_le (by
 have h1:=grp_lt a
 have h2:=grp_lt b
 have h3:=Nat.pow_le_pow_right (show 0<10000 by omega) (Nat.le_max_left (grp a).length (grp b).length)
 have h4:=Nat.pow_le_pow_right (show 0<10000 by omega) (Nat.le_max_right (grp a).length (grp b).length)
 rw [Nat.pow_succ];omega)
theorem shift_ok {m:Nat} (h:(grp m).length≤10000):((bif ltM 0 (lenM (grp m)) then (appM (nat_lit 8) [0] (grp m)).bind fun r=>some r else some (grp m)):Option (List Int))=some (grp (10000*m)):=by
 by_cases h0:m=0
 ·subst h0;rw [Nat.mul_zero,grp_zero];rfl
 ·have hl:(grp m).length≠0:=fun e=>h0 (grp_nil.1 (List.length_eq_zero_iff.1 e))
  rw [ltI (by rw [lenI];omega),cond_true,appM_of (by simp;omega),Option.bind_some,grp_pos (show 10000*m≠0 by omega),show 10000*m / 10000=m by omega,show 10000*m % 10000=0 by omega];rfl
theorem grp_shift_len (m:Nat):(grp (10000*m)).length≤(grp m).length+1:=by
 by_cases h0:m=0
 ·subst h0;rw [Nat.mul_zero,grp_zero];simp
 ·rw [grp_pos (show 10000*m≠0 by omega),show 10000*m / 10000=m by omega,List.length_cons];omega
theorem times_ok {a b:Nat} (ha:(grp a).length≤400) (hb:(grp b).length≤400):m31 (grp a,grp b)=some (grp (a*b)):=by
 unfold m31
 have hw:IntKind.wrap IntKind.i64 (lenM (grp b)-1)=((grp b).length:Int)-((0:Nat):Int)-1:=by rw [lenI,wrap_in (by omega) (by omega)];omega
 have h0:([]:List Int)=grp (a*(b / 10000 ^ ((grp b).length-0))):=by rw [Nat.sub_zero,Nat.div_eq_of_lt (grp_lt b),Nat.mul_zero,grp_zero]
 refine bind_of (Eq.trans (congrArg (loopM _) (Prod.ext hw h0)) (loopM_fn (fun k=>(((grp b).length:Int)-(k:Int)-1,grp (a*(b / 10000 ^ ((grp b).length-k))))) (grp b).length (r:=grp (a*b)) (fun k hk=>?_) ?_)) rfl
 ·have hi:((grp b).length:Int)-(k:Int)-1=(((grp b).length-k-1:Nat):Int):=by omega
  have hq2:b / 10000 ^ ((grp b).length-k)≤b:=Nat.div_le_self _ _
  have hd:b / 10000 ^ ((grp b).length-k)=b / 10000 ^ ((grp b).length-k-1) / 10000:=by
   rw [← div_pow_succ,show (grp b).length-k-1+1=(grp b).length-k by omega]
  have l1:(grp (a*(b / 10000 ^ ((grp b).length-k)))).length≤800:=Nat.le_trans grp_mul (by have:=grp_len_mono hq2;omega)
  have hrec:a*(b / 10000 ^ ((grp b).length-k-1))=10000*(a*(b / 10000 ^ ((grp b).length-k)))+a*(b / 10000 ^ ((grp b).length-k-1) % 10000):=by
   rw [hd,Nat.mul_left_comm,← Nat.mul_add];congr 1;omega
  have l2:=grp_shift_len (a*(b / 10000 ^ ((grp b).length-k)))
  have l4:(grp (a*(b / 10000 ^ ((grp b).length-k-1) % 10000))).length≤1000:=Nat.le_trans grp_mul (by have:(grp (b / 10000 ^ ((grp b).length-k-1) % 10000)).length≤1:=grp_len_le (by omega);omega)
  dsimp only
  rw [hi,leI (by omega),cond_true,grp_idx (by omega),Option.bind_some,shift_ok (by omega),Option.bind_some,by_ok (by omega) (by omega),Option.bind_some,plus_ok (by omega) l4,Option.bind_some,← hrec,wrap_in (by omega) (by omega),show (grp b).length-(k+1)=(grp b).length-k-1 by omega]
  congr 3;omega
 ·have e:((grp b).length:Int)-((grp b).length:Int)-1=-1:=by omega
  dsimp only
  rw [e,gtI (by omega),cond_false,Nat.sub_self,Nat.pow_zero,Nat.div_one]
def cmp3 (x y:Int):Int:=if x<y then -1 else if y<x then 1 else 0
theorem cmp_ok1 (x y:Int):m61 (x,y)=some (cmp3 x y):=by
 unfold m61
 have e:∀ z:Int,m92 z=some false:=fun z=>by unfold m92;rw [eqI rfl];rfl
 dsimp only
 rw [e,Option.bind_some,e,Option.bind_some,cond_false,cond_false]
 unfold cmp3
 by_cases h1:x<y
 ·rw [ltI h1,cond_true,if_pos h1]
 ·rw [geI (by omega),cond_false,if_neg h1]
  by_cases h2:y<x
  ·rw [ltI h2,cond_true,if_pos h2]
  ·rw [geI (by omega),cond_false,if_neg h2]
theorem cmp3_div {a b j:Nat} (h:a / j<b / j):cmp3 (a:Int) b=-1:=by
 have:a<b:=by
  rcases Nat.lt_or_ge a b with h1 | h1
  ·exact h1
  ·exact absurd (Nat.div_le_div_right (c:=j) h1) (by omega)
 unfold cmp3;rw [if_pos (by omega)]
theorem cmp3_div' {a b j:Nat} (h:b / j<a / j):cmp3 (a:Int) b=1:=by
 have:b<a:=by
  rcases Nat.lt_or_ge b a with h1 | h1
  ·exact h1
  ·exact absurd (Nat.div_le_div_right (c:=j) h1) (by omega)
 unfold cmp3;rw [if_neg (by omega),if_pos (by omega)]
theorem compare_ok {a b:Nat} (ha:(grp a).length≤10000) (hb:(grp b).length≤10000):m33 (grp a,grp b)=some (cmp3 a b):=by
 unfold m33
 dsimp only
 by_cases hl:(grp a).length=(grp b).length
 ·rw [eqI (show lenM (grp a)=lenM (grp b) by rw [lenI,lenI,hl]),notT,cond_false]
  have hw:IntKind.wrap IntKind.i64 (lenM (grp a)-1)=((grp a).length:Int)-((0:Nat):Int)-1:=by rw [lenI,wrap_in (by omega) (by omega)];omega
  rw [hw]
  refine Ans.is (Ans.bind (P:=fun o=>Sum.elim (fun (_:Unit)=>some 0) (fun (t:Int)=>some t) o=some (cmp3 a b)) (Ans.loop (fun k s=>s=((grp a).length:Int)-(k:Int)-1∧a / 10000 ^ ((grp a).length-k)=b / 10000 ^ ((grp a).length-k)) (grp a).length ⟨rfl,?_⟩ ?_) ?_)
  ·rw [Nat.sub_zero,Nat.div_eq_of_lt (grp_lt a),hl,Nat.div_eq_of_lt (grp_lt b)]
  ·rintro k s hk ⟨rfl,he⟩
   by_cases hkl:k<(grp a).length
   ·have hi:((grp a).length:Int)-(k:Int)-1=(((grp a).length-k-1:Nat):Int):=by omega
    have hd:∀ n,n / 10000 ^ ((grp a).length-k)=n / 10000 ^ ((grp a).length-k-1) / 10000:=fun n=>by
     rw [← div_pow_succ,show (grp a).length-k-1+1=(grp a).length-k by omega]
    rw [hd a,hd b] at he
    rw [hi,leI (by omega),cond_true,grp_idx (by omega),Option.bind_some,grp_idx (by omega),Option.bind_some]
    by_cases hx:a / 10000 ^ ((grp a).length-k-1) % 10000=b / 10000 ^ ((grp a).length-k-1) % 10000
    ·rw [eqI (by omega),notT,cond_false]
     refine Ans.of (r:=.inl (((grp a).length:Int)-((k+1:Nat):Int)-1)) (by rw [wrap_in (by omega) (by omega)];congr 2;omega) ?_
     exact show k<(grp a).length∧_ from ⟨hkl,rfl,by rw [show (grp a).length-(k+1)=(grp a).length-k-1 by omega];omega⟩
    ·rw [neI (by omega),notF,cond_true,Option.bind_some,cmp_ok1]
     refine Ans.of (r:=.inr (.inr (cmp3 ((a / 10000 ^ ((grp a).length-k-1) % 10000:Nat):Int) ((b / 10000 ^ ((grp a).length-k-1) % 10000:Nat):Int)))) rfl ?_
     show some (cmp3 ((a / 10000 ^ ((grp a).length-k-1) % 10000:Nat):Int) ((b / 10000 ^ ((grp a).length-k-1) % 10000:Nat):Int))=some (cmp3 a b)
     congr 1
     rcases Nat.lt_or_gt_of_ne hx with h | h
     ·rw [cmp3_div (a:=a) (b:=b) (j:=10000 ^ ((grp a).length-k-1)) (by omega)];unfold cmp3;rw [if_pos (by omega)]
     ·rw [cmp3_div' (a:=a) (b:=b) (j:=10000 ^ ((grp a).length-k-1)) (by omega)];unfold cmp3;rw [if_neg (by omega),if_pos (by omega)]
   ·have:k=(grp a).length:=by omega
    subst this
    rw [Nat.sub_self,Nat.pow_zero,Nat.div_one,Nat.div_one] at he
    have e:((grp a).length:Int)-((grp a).length:Int)-1=-1:=by omega
    rw [e,gtI (by omega),cond_false]
    refine Ans.of (r:=.inr (.inl ())) rfl ?_
    show some (0:Int)=some (cmp3 a b)
    unfold cmp3;rw [if_neg (by omega),if_neg (by omega)]
  ·intro o ho
   exact .of ho rfl
 ·rw [neI (by rw [lenI,lenI];omega),notF,cond_true,cmp_ok1,Option.bind_some]
  have ka:=grp_lt a
  have kb:=grp_lt b
  congr 1
  rcases Nat.lt_or_gt_of_ne hl with h | h
  ·have hb0:b≠0:=fun e=>by subst e;rw [grp_zero] at h;simp at h
   have h1:=grp_len_pow hb0
   have h2:=Nat.pow_le_pow_right (show 0<10000 by omega) (show (grp a).length≤(grp b).length-1 by omega)
   unfold cmp3;rw [if_pos (by rw [lenI,lenI];omega),if_pos (by omega)]
  ·have ha0:a≠0:=fun e=>by subst e;rw [grp_zero] at h;simp at h
   have h1:=grp_len_pow ha0
   have h2:=Nat.pow_le_pow_right (show 0<10000 by omega) (show (grp b).length≤(grp a).length-1 by omega)
   unfold cmp3;rw [if_neg (by rw [lenI,lenI];omega),if_pos (by rw [lenI,lenI];omega),if_neg (by omega),if_pos (by omega)]
theorem cmp3_pos (x y:Int):leM 0 (cmp3 x y)=decide (y≤x):=by
 unfold cmp3
 by_cases h1:x<y
 ·rw [if_pos h1,gtI (by omega),decide_eq_false (by omega)]
 ·rw [if_neg h1,decide_eq_true (by omega)]
  by_cases h2:y<x
  ·rw [if_pos h2,leI (by omega)]
  ·rw [if_neg h2,leI (by omega)]
theorem splus_ok {x y:Int} (hx:(grp x.natAbs).length≤400) (hy:(grp y.natAbs).length≤400):Ans (m52 ((decide (x<0),grp x.natAbs),decide (y<0),grp y.natAbs)) fun o=>Sg o (x+y):=by
 unfold m52
 dsimp only
 by_cases hs:decide (x<0)=decide (y<0)
 ·have hs':=decide_eq_decide.1 hs
  rw [show eqbM (decide (x<0)) (decide (y<0))=true from decide_eq_true hs,cond_true,plus_ok (by omega) (by omega),Option.bind_some]
  refine .of rfl ⟨by show grp _=grp _;congr 1;omega,fun h=>?_⟩
  show decide (x<0)=decide (x+y<0)
  exact decide_eq_decide.2 (by omega)
 ·have hs':¬ (x<0↔y<0):=fun h=>hs (decide_eq_decide.2 h)
  rw [show eqbM (decide (x<0)) (decide (y<0))=false from decide_eq_false hs,cond_false,compare_ok (by omega) (by omega),Option.bind_some,cmp3_pos]
  by_cases hc:y.natAbs≤x.natAbs
  ·rw [decide_eq_true (by omega),cond_true,minus_ok (by omega) hc,Option.bind_some]
   refine .of rfl ⟨by show grp _=grp _;congr 1;omega,fun h=>?_⟩
   show decide (x<0)=decide (x+y<0)
   exact decide_eq_decide.2 (by omega)
  ·rw [decide_eq_false (by omega),cond_false,minus_ok (by omega) (by omega),Option.bind_some]
   refine .of rfl ⟨by show grp _=grp _;congr 1;omega,fun h=>?_⟩
   show decide (y<0)=decide (x+y<0)
   exact decide_eq_decide.2 (by omega)
def Fits (z:Int):Prop:=z.natAbs<10 ^ 200
instance (z:Int):Decidable (Fits z):=inferInstanceAs (Decidable (z.natAbs<10 ^ 200))
def sn (z:Int):List UInt8×Int:=if Fits z then (itoa z,0) else ([],30)
theorem fits_len {z:Int} (h:Fits z):(grp z.natAbs).length≤50:=grp_len_le (Nat.lt_of_lt_of_le h (by decide))
theorem sn_text {o:Bool×List Int} {z:Int} (h:Sg o z) (hn:(grp z.natAbs).length≤400):m32 o=some (sn z):=by
 rw [textZ h hn];rfl
theorem add_ok {x y:Int} (hx:Fits x) (hy:Fits y):m29 (itoa x,itoa y)=some (sn (x+y)):=by
 have h1:=fits_len hx
 have h2:=fits_len hy
 unfold m29
 dsimp only
 rw [both_ok hx hy,Option.bind_some,notT,cond_false]
 refine Ans.is (Ans.bind (splus_ok (by omega) (by omega)) fun o ho=>?_)
 rw [sn_text ho (Nat.le_trans (grp_len_mono (show (x+y).natAbs≤x.natAbs+y.natAbs by omega)) (Nat.le_trans grp_add (by omega)))]
 exact .of rfl rfl
theorem mul_ok {x y:Int} (hx:Fits x) (hy:Fits y):m11 (itoa x,itoa y)=some (sn (x*y)):=by
 have h1:=fits_len hx
 have h2:=fits_len hy
 unfold m11
 dsimp only
 rw [both_ok hx hy,Option.bind_some,notT,cond_false,times_ok (by omega) (by omega),Option.bind_some]
 rw [sn_text (z:=x*y) ⟨by show grp _=grp _;rw [Int.natAbs_mul],fun h=>?_⟩ (by rw [Int.natAbs_mul];exact Nat.le_trans grp_mul (by omega))]
 ·rfl
 ·show PE.notM (eqbM (decide (x<0)) (decide (y<0)))=decide (x*y<0)
  have hx0:x≠0:=fun e=>h (by rw [e,Int.zero_mul])
  have hy0:y≠0:=fun e=>h (by rw [e,Int.mul_zero])
  by_cases hx:x<0<;>by_cases hy:y<0
  ·rw [decide_eq_true hx,decide_eq_true hy,decide_eq_false (by have:=Int.mul_pos_of_neg_of_neg hx hy;omega)];rfl
  ·rw [decide_eq_true hx,decide_eq_false hy,decide_eq_true (Int.mul_neg_of_neg_of_pos hx (by omega))];rfl
  ·rw [decide_eq_false hx,decide_eq_true hy,decide_eq_true (Int.mul_neg_of_pos_of_neg (by omega) hy)];rfl
  ·rw [decide_eq_false hx,decide_eq_false hy,decide_eq_false (by have:=Int.mul_pos (show 0<x by omega) (show 0<y by omega);omega)];rfl
theorem cmp_ok {x y:Int} (hx:Fits x) (hy:Fits y):m12 (itoa x,itoa y)=some (cmp3 x y):=by
 have h1:=fits_len hx
 have h2:=fits_len hy
 unfold m12
 dsimp only
 rw [both_ok hx hy,Option.bind_some,notT,cond_false]
 by_cases hx:x<0
 ·rw [decide_eq_true hx]
  by_cases hy:y<0
  ·rw [decide_eq_true hy,andT,cond_true,compare_ok (by omega) (by omega),Option.bind_some]
   congr 1;unfold cmp3;grind
  ·rw [decide_eq_false hy,andT,cond_false,cond_true]
   congr 1;unfold cmp3;grind
 ·rw [decide_eq_false hx,andF,cond_false,cond_false]
  by_cases hy:y<0
  ·rw [decide_eq_true hy,cond_true]
   congr 1;unfold cmp3;grind
  ·rw [decide_eq_false hy,cond_false,compare_ok (by omega) (by omega),Option.bind_some]
   congr 1;unfold cmp3;grind
end Go.Proofs.YthdfmkpebafpoaaGreatDoor
namespace Go.Proofs.YthdfmkpebafpoaaGreatDoor
open Go Go.Lib Go.Abs Go.PE Go.Det Go.Num
theorem pick2 {s:Nat} (hs:s<2) (a b:Int):idxM [a,b] (s:Int)=some (cl (8+s) a b):=by
 rcases (show s=0∨s=1 by omega) with rfl | rfl<;>rfl
theorem cl_bd {k:Nat} {a b B:Int} (h1:-B≤a∧a≤B) (h2:-B≤b∧b≤B):-B≤cl k a b∧cl k a b≤B:=by unfold cl;split<;>assumption
structure Near (n:Nat) (u:Nat→Int) (d:Int):Prop where
 u:∀ i,i<n→-1000000000000≤u i∧u i≤1000000000000
 d0:0≤d
 d1:d≤1679616
theorem mul_bd {d v:Int} (h0:0≤d) (h1:d≤1679616) (h:-1071≤v∧v≤1071):-1798868736≤d*v∧d*v≤1798868736:=by
 have h2:=Int.mul_le_mul_of_nonneg_left h.1 h0
 have h3:=Int.mul_le_mul_of_nonneg_left h.2 h0
 omega
section
variable {c:Net} {s:Nat} {u:Nat→Int} {d:Int}
theorem obF_rs (h:Mad c) (hu:Near c.1.toNat u d) {f:Fix} (hf:f∈c.2.1) (k:Nat):(0≤f.1∧f.1.toNat<c.1.toNat)∧rs c.1.toNat u d (obF c.1.toNat k f)=u f.1.toNat-d*cl k f.2.1 f.2.2.1∧(-1000000000000≤u f.1.toNat∧u f.1.toNat≤1000000000000)∧(-1798868736≤d*cl k f.2.1 f.2.2.1∧d*cl k f.2.1 f.2.2.1≤1798868736):=by
 have h1:=h.ok.fx f hf
 have h2:=h.fx f hf
 have hi:f.1.toNat<c.1.toNat:=by omega
 refine ⟨⟨h1.1,hi⟩,?_,hu.u _ hi,mul_bd hu.d0 hu.d1 (cl_bd (by omega) (by omega))⟩
 unfold rs
 show gr c.1.toNat u f.1.toNat-gr c.1.toNat u c.1.toNat-d*cl k f.2.1 f.2.2.1=_
 rw [gr_g,Int.sub_zero]
 unfold gr
 rw [if_pos hi]
theorem obS_rs (h:Mad c) (hu:Near c.1.toNat u d) {t:Sgt} (ht:t∈c.2.2) (k:Nat):(0≤t.1∧t.1.toNat<c.1.toNat)∧(0≤t.2.1∧t.2.1.toNat<c.1.toNat)∧t.1.toNat≠t.2.1.toNat∧rs c.1.toNat u d (obS k t)=u t.2.1.toNat-u t.1.toNat-d*cl k t.2.2.1 t.2.2.2.1∧(-1000000000000≤u t.1.toNat∧u t.1.toNat≤1000000000000)∧(-1000000000000≤u t.2.1.toNat∧u t.2.1.toNat≤1000000000000)∧(-1798868736≤d*cl k t.2.2.1 t.2.2.2.1∧d*cl k t.2.2.1 t.2.2.2.1≤1798868736):=by
 have h1:=h.ok.sg t ht
 have h2:=h.sg t ht
 have hi:t.1.toNat<c.1.toNat:=by omega
 have hj:t.2.1.toNat<c.1.toNat:=by omega
 refine ⟨⟨h1.1,hi⟩,⟨by omega,hj⟩,by omega,?_,hu.u _ hi,hu.u _ hj,mul_bd hu.d0 hu.d1 (cl_bd (by omega) (by omega))⟩
 unfold rs
 show gr c.1.toNat u t.2.1.toNat-gr c.1.toNat u t.1.toNat-d*cl k t.2.2.1 t.2.2.2.1=_
 unfold gr
 rw [if_pos hi,if_pos hj]
theorem ob_bd (h:Mad c) (hu:Near c.1.toNat u d) (k:Nat):∀ o∈obL c k,-3000000000000≤rs c.1.toNat u d o∧rs c.1.toNat u d o≤3000000000000:=fun o ho=>by
 rcases mem_obL ho with ⟨f,hf,rfl⟩ | ⟨t,ht,rfl⟩
 ·obtain ⟨_,e,h1,h2⟩:=obF_rs h hu hf k
  rw [e];omega
 ·obtain ⟨_,_,_,e,h1,h2,h3⟩:=obS_rs h hu ht k
  rw [e];omega
theorem suml_bd {α:Type} {f:α→Int} {B:Int} (hB:0≤B):∀ {l:List α},(∀ a∈l,-B≤f a∧f a≤B)→-(B*l.length)≤suml f l∧suml f l≤B*l.length
 | [],_=>by simp [suml]
 | a::l,h=>by
  have h1:=suml_bd hB (l:=l) fun a ha=>h a (by simp [ha])
  have h2:=h a (by simp)
  have e:B*((a::l).length:Int)=B*l.length+B:=by rw [List.length_cons,Int.natCast_add,Int.mul_add,show ((1:Nat):Int)=1 from rfl,Int.mul_one]
  rw [e]
  show _≤f a+suml f l∧f a+suml f l≤_
  omega
theorem bal_bd (h:Mad c) (hu:Near c.1.toNat u d) (k p:Nat) {l:List (Nat×Nat×Int)} (hl:∀ o∈l,o∈obL c k) (hn:l.length≤23):-200000000000000≤bal c.1.toNat u d l p∧bal c.1.toNat u d l p≤200000000000000:=by
 have:=suml_bd (f:=fun o=>(if o.2.1=p then rs c.1.toNat u d o else 0)-(if o.1=p then rs c.1.toNat u d o else 0)) (B:=6000000000000) (by omega) (l:=l) fun o ho=>by
  have:=ob_bd h hu k o (hl o ho)
  split<;>split<;>omega
 unfold bal
 omega
theorem bal_snoc (n:Nat) (l:List (Nat×Nat×Int)) (o:Nat×Nat×Int) (p:Nat):bal n u d (l++[o]) p=bal n u d l p+((if o.2.1=p then rs n u d o else 0)-(if o.1=p then rs n u d o else 0)):=by
 rw [bal_app]
 congr 1
 show _+suml _ []=_
 exact Int.add_zero _
theorem fix_bal (h:Mad c) (hs:s<2) (hu:Near c.1.toNat u d):loopM (fun (s_1:Int×List Int)=>bif ltM s_1.1
 (lenM c.2.1) then (idxM c.2.1 s_1.1).bind fun r_6=>(chkM r_6.1 (lenM s_1.2)).bind fun r_7=>(idxM s_1.2 r_6.1).bind fun r_8=>(idxM (row c.1.toNat u) r_6.1).bind
 fun r_9=>(idxM [r_6.2.1,r_6.2.2.1] (s:Int)).bind fun r_10=>(chkM r_6.1 (lenM s_1.2)).bind fun r_11=>(setM s_1.2 r_6.1 fun (x:Int)=>some (IntKind.wrap IntKind.i64
 (IntKind.wrap IntKind.i64 (r_8+r_9)-IntKind.wrap IntKind.i64 (d*r_10)))).bind fun r=>some (Sum.inl (IntKind.wrap IntKind.i64 (s_1.1+1),r)) else some (Sum.inr
 s_1.2)) (0,row c.1.toNat fun _=>0)=some (row c.1.toNat (bal c.1.toNat u d (c.2.1.map (obF c.1.toNat (8+s))))):=by
 have hl:=h.fl
 have e0:(fun _=>0:Nat→Int)=bal c.1.toNat u d ((c.2.1.map (obF c.1.toNat (8+s))).take 0):=by funext p;rfl
 rw [e0]
 refine count_loop (fun k=>row c.1.toNat (bal c.1.toNat u d ((c.2.1.map (obF c.1.toNat (8+s))).take k))) c.2.1.length (fun k hk=>?_) ?_
 ·obtain ⟨⟨f0,hi⟩,e,b1,b2⟩:=obF_rs h hu (List.getElem_mem hk) (8+s)
  have hb:=fun p=>bal_bd h hu (8+s) p (l:=(c.2.1.map (obF c.1.toNat (8+s))).take k) (fun o ho=>List.mem_append_left _ (List.mem_of_mem_take ho)) (by simp;omega)
  have hk':k<(c.2.1.map (obF c.1.toNat (8+s))).length:=by simpa using hk
  have ef:c.2.1[k].1=(c.2.1[k].1.toNat:Int):=by omega
  generalize hg:c.2.1[k].1.toNat=i at *
  dsimp only
  rw [ltI (by show (k:Int)<(c.2.1.length:Int);omega),cond_true,idxM_lt hk,Option.bind_some,ef,lenR,chkM_of (by omega) (by omega),Option.bind_some,row_idx hi,Option.bind_some,row_idx hi,Option.bind_some,pick2 hs,Option.bind_some,Option.bind_some,set_rowA hi,Option.bind_some,wrap_in (n:=(k:Int)+1) (by omega) (by omega)]
  congr 3
  refine row_congr fun p hp=>?_
  have hb:=hb i
  rw [List.take_succ_eq_append_getElem hk',bal_snoc,List.getElem_map,wrap_in (n:=d*_) (by omega) (by omega),wrap_in (n:=_+u i) (by omega) (by omega),wrap_in (by omega) (by omega),e]
  have e1:(obF c.1.toNat (8+s) c.2.1[k]).1=c.1.toNat:=rfl
  have e2:(obF c.1.toNat (8+s) c.2.1[k]).2.1=i:=hg
  rw [e1,e2,if_neg (show ¬ c.1.toNat=p by omega)]
  by_cases hpi:p=i
  ·subst hpi
   rw [if_pos rfl,if_pos rfl];omega
  ·rw [if_neg hpi,if_neg (fun e=>hpi e.symm)];omega
 ·dsimp only
  rw [geI (by show (c.2.1.length:Int)≤(c.2.1.length:Int);omega),cond_false,List.take_of_length_le (by simp)]
theorem sgt_bal (h:Mad c) (hs:s<2) (hu:Near c.1.toNat u d):loopM (fun (s_1:Int×List Int)=>bif ltM s_1.1 (lenM c.2.2) then (idxM c.2.2 s_1.1).bind fun r_6=>(idxM (row c.1.toNat u)
 r_6.2.1).bind fun r_7=>(idxM (row c.1.toNat u) r_6.1).bind fun r_8=>(idxM [r_6.2.2.1,r_6.2.2.2.1] (s:Int)).bind fun r_9=>(chkM r_6.2.1 (lenM s_1.2)).bind fun r_10=>(idxM
 s_1.2 r_6.2.1).bind fun r_11=>(chkM r_6.2.1 (lenM s_1.2)).bind fun r_12=>(setM s_1.2 r_6.2.1 fun (x:Int)=>some (IntKind.wrap IntKind.i64 (r_11+IntKind.wrap
 IntKind.i64 (IntKind.wrap IntKind.i64 (r_7-r_8)-IntKind.wrap IntKind.i64 (d*r_9))))).bind fun r_13=>(chkM r_6.1 (lenM r_13)).bind fun r_14=>(idxM r_13
 r_6.1).bind fun r_15=>(chkM r_6.1 (lenM r_13)).bind fun r_16=>(setM r_13 r_6.1 fun (x:Int)=>some (IntKind.wrap IntKind.i64 (r_15-IntKind.wrap IntKind.i64 (IntKind.wrap
 IntKind.i64 (r_7-r_8)-IntKind.wrap IntKind.i64 (d*r_9))))).bind fun r=>some (Sum.inl (IntKind.wrap IntKind.i64 (s_1.1+1),r)) else some (Sum.inr s_1.2)) (0,
 row c.1.toNat (bal c.1.toNat u d (c.2.1.map (obF c.1.toNat (8+s)))))=some (row c.1.toNat (bal c.1.toNat u d (obL c (8+s)))):=by
 have hl:=h.fl
 have hl2:=h.sl
 have e0:bal c.1.toNat u d (c.2.1.map (obF c.1.toNat (8+s)))=bal c.1.toNat u d (c.2.1.map (obF c.1.toNat (8+s))++(c.2.2.map (obS (8+s))).take 0):=by rw [List.take_zero,List.append_nil]
 rw [e0]
 refine count_loop (fun k=>row c.1.toNat (bal c.1.toNat u d (c.2.1.map (obF c.1.toNat (8+s))++(c.2.2.map (obS (8+s))).take k))) c.2.2.length (fun k hk=>?_) ?_
 ·obtain ⟨⟨f0,hi⟩,⟨t0,hj⟩,hne,e,b1,b2,b3⟩:=obS_rs h hu (List.getElem_mem hk) (8+s)
  have hb:=fun p=>bal_bd h hu (8+s) p (l:=c.2.1.map (obF c.1.toNat (8+s))++(c.2.2.map (obS (8+s))).take k) (fun o ho=>by
   rcases List.mem_append.1 ho with ho | ho
   ·exact List.mem_append_left _ ho
   ·exact List.mem_append_right _ (List.mem_of_mem_take ho)) (by simp;omega)
  have hk':k<(c.2.2.map (obS (8+s))).length:=by simpa using hk
  have ef:c.2.2[k].1=(c.2.2[k].1.toNat:Int):=by omega
  have et:c.2.2[k].2.1=(c.2.2[k].2.1.toNat:Int):=by omega
  generalize hg:c.2.2[k].1.toNat=i at *
  generalize hg2:c.2.2[k].2.1.toNat=j at *
  have hbi:=hb i
  have hbj:=hb j
  dsimp only
  rw [ltI (by show (k:Int)<(c.2.2.length:Int);omega),cond_true,idxM_lt hk,Option.bind_some,ef,et,row_idx hj,Option.bind_some,row_idx hi,Option.bind_some,pick2 hs,Option.bind_some,lenR,chkM_of (by omega) (by omega),Option.bind_some,row_idx hj,Option.bind_some,Option.bind_some,set_rowA hj,Option.bind_some,lenR,chkM_of (by omega) (by omega),Option.bind_some,row_idx hi,Option.bind_some,Option.bind_some,set_rowA hi,Option.bind_some,wrap_in (n:=(k:Int)+1) (by omega) (by omega)]
  congr 3
  refine row_congr fun p hp=>?_
  rw [List.take_succ_eq_append_getElem hk',← List.append_assoc,bal_snoc,List.getElem_map,wrap_in (n:=d*_) (by omega) (by omega),wrap_in (n:=u j-u i) (by omega) (by omega),wrap_in (n:=u j-u i-_) (by omega) (by omega),wrap_in (n:=_+(u j-u i-_)) (by omega) (by omega),e]
  have e1:(obS (8+s) c.2.2[k]).1=i:=hg
  have e2:(obS (8+s) c.2.2[k]).2.1=j:=hg2
  rw [e1,e2,if_neg hne]
  by_cases hpi:p=i
  ·subst hpi
   rw [if_pos rfl,if_neg (show ¬ j=p from fun e=>hne e.symm),if_pos rfl,wrap_in (by omega) (by omega)];omega
  ·rw [if_neg hpi,if_neg (show ¬ i=p from fun e=>hpi e.symm)]
   by_cases hpj:p=j
   ·subst hpj
    rw [if_pos rfl,if_pos rfl];omega
   ·rw [if_neg hpj,if_neg (show ¬ j=p from fun e=>hpj e.symm)];omega
 ·dsimp only
  rw [geI (by show (c.2.2.length:Int)≤(c.2.2.length:Int);omega),cond_false,List.take_of_length_le (by simp)];rfl
end
end Go.Proofs.YthdfmkpebafpoaaGreatDoor
namespace Go.Proofs.YthdfmkpebafpoaaGreatDoor
open Go Go.Lib Go.Abs Go.PE Go.Det Go.Num
theorem fits_of {z:Int} (h:-10000000000000000000000000000000000000000000000≤z∧z≤10000000000000000000000000000000000000000000000):Fits z:=by
 have:z.natAbs≤10000000000000000000000000000000000000000000000:=by omega
 exact Nat.lt_of_le_of_lt this (by decide)
theorem sn_fits {z:Int} (h:Fits z):sn z=(itoa z,0):=if_pos h
section
variable {c:Net} {s:Nat} {u:Nat→Int} {d:Int}
theorem sq_bd (h:Mad c) (hu:Near c.1.toNat u d) (k:Nat) {l:List (Nat×Nat×Int)} (hl:∀ o∈l,o∈obL c k) (hn:l.length≤23):0≤sqr c.1.toNat u d l∧sqr c.1.toNat u d l≤1000000000000000000000000000:=by
 have hb:∀ o∈l,0≤rs c.1.toNat u d o*rs c.1.toNat u d o∧rs c.1.toNat u d o*rs c.1.toNat u d o≤9000000000000000000000000:=fun o ho=>by
  have:=ob_bd h hu k o (hl o ho)
  generalize rs c.1.toNat u d o=x at this
  rcases Int.le_total 0 x with hx | hx
  ·have:=Int.mul_le_mul this.2 this.2 hx (by omega)
   exact ⟨Int.mul_nonneg hx hx,by omega⟩
  ·have:=Int.mul_le_mul (show -x≤3000000000000 by omega) (show -x≤3000000000000 by omega) (by omega) (by omega)
   rw [Int.neg_mul_neg] at this
   exact ⟨Int.mul_nonneg_of_nonpos_of_nonpos hx hx,by omega⟩
 have h1:=suml_bd (f:=fun o=>rs c.1.toNat u d o*rs c.1.toNat u d o) (B:=9000000000000000000000000) (by omega) (l:=l) fun o ho=>by have:=hb o ho;omega
 have h2:=suml_nn (f:=fun o=>rs c.1.toNat u d o*rs c.1.toNat u d o) (l:=l) fun o ho=>(hb o ho).1
 unfold sqr
 omega
theorem rs_sq {x:Int} (h:-3000000000000≤x∧x≤3000000000000):0≤x*x∧x*x≤9000000000000000000000000:=by
 rcases Int.le_total 0 x with hx | hx
 ·have:=Int.mul_le_mul h.2 h.2 hx (by omega)
  exact ⟨Int.mul_nonneg hx hx,by omega⟩
 ·have:=Int.mul_le_mul (show -x≤3000000000000 by omega) (show -x≤3000000000000 by omega) (by omega) (by omega)
  rw [Int.neg_mul_neg] at this
  exact ⟨Int.mul_nonneg_of_nonpos_of_nonpos hx hx,by omega⟩
theorem m9_eq (x:Int):m9 x=some (itoa x):=rfl
theorem sq_ok (h:Mad c) (hs:s<2) (hu:Near c.1.toNat u d):m10 ((c.1,c.2.1,c.2.2),row c.1.toNat u,d,(s:Int))=some (itoa (sqr c.1.toNat u d (obL c (8+s)))):=by
 have hl:=h.fl
 have hl2:=h.sl
 have hlen:(obL c (8+s)).length=c.2.1.length+c.2.2.length:=by unfold obL;simp
 unfold m10
 have hw:IntKind.wrap IntKind.i64 (lenM c.2.1+lenM c.2.2)=((c.2.1.length+c.2.2.length:Nat):Int):=by rw [lenI,lenI,wrap_in (by omega) (by omega)];omega
 have e0:([48]:List UInt8)=itoa (sqr c.1.toNat u d ((obL c (8+s)).take 0)):=itoa_zero.symm
 dsimp only
 rw [hw]
 refine bind_of (x:=.inl (itoa (sqr c.1.toNat u d (obL c (8+s))))) ?_ rfl
 rw [e0]
 refine loopM_fn (fun k=>(itoa (sqr c.1.toNat u d ((obL c (8+s)).take k)),(k:Int))) (c.2.1.length+c.2.2.length) (fun k hk=>?_) ?_
 ·have hk':k<(obL c (8+s)).length:=by omega
  have hb:=ob_bd h hu (8+s) _ (List.getElem_mem hk')
  have hq:=rs_sq hb
  have hS:=sq_bd h hu (8+s) (l:=(obL c (8+s)).take k) (fun o ho=>List.mem_of_mem_take ho) (by simp;omega)
  have hnext:sqr c.1.toNat u d ((obL c (8+s)).take (k+1))=sqr c.1.toNat u d ((obL c (8+s)).take k)+rs c.1.toNat u d (obL c (8+s))[k]*rs c.1.toNat u d (obL c (8+s))[k]:=by
   rw [List.take_succ_eq_append_getElem hk']
   unfold sqr
   rw [suml_app]
   congr 1
   exact Int.add_zero _
  dsimp only
  rw [ltI (by omega),cond_true]
  refine bind_of (x:=rs c.1.toNat u d (obL c (8+s))[k]) ?_ ?_
  ·by_cases hf:k<c.2.1.length
   ·obtain ⟨⟨f0,hi⟩,e,b1,b2⟩:=obF_rs h hu (List.getElem_mem hf) (8+s)
    have eo:(obL c (8+s))[k]=obF c.1.toNat (8+s) c.2.1[k]:=by
     apply Option.some.inj;rw [← List.getElem?_eq_getElem hk'];unfold obL;rw [List.getElem?_append_left (by simpa using hf),List.getElem?_map,List.getElem?_eq_getElem hf];rfl
    have ef:c.2.1[k].1=(c.2.1[k].1.toNat:Int):=by omega
    rw [ltI (by rw [lenI];omega),cond_true,idxM_lt hf,Option.bind_some,ef,row_idx hi,Option.bind_some,pick2 hs,Option.bind_some,eo,e,wrap_in (n:=d*_) (by omega) (by omega),wrap_in (by omega) (by omega)]
   ·have hg:k-c.2.1.length<c.2.2.length:=by omega
    obtain ⟨⟨f0,hi⟩,⟨t0,hj⟩,hne,e,b1,b2,b3⟩:=obS_rs h hu (List.getElem_mem hg) (8+s)
    have eo:(obL c (8+s))[k]=obS (8+s) c.2.2[k-c.2.1.length]:=by
     apply Option.some.inj;rw [← List.getElem?_eq_getElem hk'];unfold obL;rw [List.getElem?_append_right (by simp;omega),List.getElem?_map,List.length_map,List.getElem?_eq_getElem hg];rfl
    have ef:c.2.2[k-c.2.1.length].1=(c.2.2[k-c.2.1.length].1.toNat:Int):=by omega
    have et:c.2.2[k-c.2.1.length].2.1=(c.2.2[k-c.2.1.length].2.1.toNat:Int):=by omega
    have ek:IntKind.wrap IntKind.i64 ((k:Int)-lenM c.2.1)=((k-c.2.1.length:Nat):Int):=by rw [lenI,wrap_in (by omega) (by omega)];omega
    rw [geI (by rw [lenI];omega),cond_false,ek,idxM_lt hg,Option.bind_some,ef,et,row_idx hj,Option.bind_some,row_idx hi,Option.bind_some,pick2 hs,Option.bind_some,eo,e,wrap_in (n:=d*_) (by omega) (by omega),wrap_in (n:=u _-u _) (by omega) (by omega),wrap_in (by omega) (by omega)]
  ·rw [m9_eq,Option.bind_some,Option.bind_some,mul_ok (fits_of (by omega)) (fits_of (by omega)),Option.bind_some,sn_fits (fits_of (by omega))]
   dsimp only
   rw [add_ok (fits_of (by omega)) (fits_of (by omega)),Option.bind_some,sn_fits (fits_of (by omega)),hnext,wrap_in (by omega) (by omega)];rfl
 ·have e1:(obL c (8+s)).take (c.2.1.length+c.2.2.length)=obL c (8+s):=List.take_of_length_le (by omega)
  dsimp only
  rw [geI (by omega),cond_false,e1]
theorem list_row {α:Type} (l:List α) (d:α):l=row l.length fun i=>l.getD i d:=by
 apply List.ext_getElem?
 intro k
 by_cases hk:k<l.length
 ·rw [row_get hk,List.getElem?_eq_getElem hk];simp [List.getD,hk]
 ·rw [List.getElem?_eq_none (by omega),List.getElem?_eq_none (by rw [row_length];omega)]
theorem tdiv_bd {x g B:Int} (h:-B≤x∧x≤B):-B≤x.tdiv g∧x.tdiv g≤B:=by
 have h1:=Int.natAbs_tdiv_le_natAbs x g
 omega
theorem other_ok (h:Mad c) (hs:s<2) {other:List (Int×Int)} (ho:∀ p∈other,i64 p.1∧i64 p.2) (near:Bool) (hd:1≤d) (hu:∀ i,i<c.1.toNat→-671846400000≤u i∧u i≤671846400000) :
  Ans (loopM (fun (s_1:Int×List Int)=>bif ltM s_1.1 c.1 then (chkM s_1.1 (lenM (row c.1.toNat fun _=>(0:Int)))).bind fun r_6=>(idxM (row c.1.toNat fun _=>(0:Int)) s_1.1).bind fun r_7 =>
 bif PE.notM (eqM r_7 0) then some (Sum.inr (Sum.inr false)) else (bif ltM s_1.1 (lenM other) then (idxM other s_1.1).bind fun r_8=>(idxM [r_8.1,r_8.2]
 (s:Int)).bind fun r_9=>(m8 (r_9,2001)).bind fun r=>some (IntKind.wrap IntKind.i64 (r-1000)) else some 0).bind fun o_2=>(bif near then (divM IntKind.i64 o_2
 400).bind fun r_8=>(idxM (row c.1.toNat u) s_1.1).bind fun r_9=>(divM IntKind.i64 r_9 d).bind fun r=>some (IntKind.wrap IntKind.i64 (r_8+r)) else some o_2).bind fun
 o_3=>(appM (nat_lit 8) s_1.2 [o_3]).bind fun r=>some (Sum.inl (IntKind.wrap IntKind.i64 (s_1.1+1),r)) else some (Sum.inr (Sum.inl s_1.2))) (0,[]))
  fun (o:List Int⊕Bool)=>∃ t:List Int,o=.inl t∧t.length=c.1.toNat∧∀ x∈t,-1000000000000≤x∧x≤1000000000000:=by
 have hn0:=h.ok.n0
 have hn8:=h.ok.n8
 refine Ans.loop (fun k q=>q.1=(k:Int)∧q.2.length=k∧∀ x∈q.2,-1000000000000≤x∧x≤1000000000000) c.1.toNat ⟨rfl,rfl,by simp⟩ ?_
 rintro k ⟨i,t⟩ hk ⟨h1,h2,h3⟩
 dsimp only at h1 h2 h3
 subst h1
 dsimp only
 by_cases hkn:k<c.1.toNat
 ·rw [ltI (by omega),cond_true,lenR,chkM_of (by omega) (by omega),Option.bind_some,row_idx hkn,Option.bind_some,eqI rfl,notT,cond_false]
  refine Ans.bind (P:=fun o=>-1000≤o∧o≤1000) ?_ fun o hoo=>?_
  ·by_cases hl:k<other.length
   ·have hp:=ho _ (List.getElem_mem hl)
    have hc:i64 (cl (8+s) other[k].1 other[k].2):=by 
     unfold cl
     by_cases h8:8+s=8
     ·rw [if_pos h8];exact hp.1
     ·rw [if_neg h8];exact hp.2
    have p1:=pk_lo (c:=cl (8+s) other[k].1 other[k].2) (n:=2001) (by omega)
    have p2:=pk_hi (c:=cl (8+s) other[k].1 other[k].2) (n:=2001) (by omega)
    rw [ltI (by rw [lenI];omega),cond_true,idxM_lt hl,Option.bind_some,pick2 hs,Option.bind_some,m8_eq hc (by omega),Option.bind_some,wrap_in (by omega) (by omega)]
    exact .of rfl (by omega)
   ·rw [geI (by rw [lenI];omega),cond_false]
    exact .of rfl (by omega)
  ·refine Ans.bind (P:=fun o=>-1000000000000≤o∧o≤1000000000000) ?_ fun o2 ho2=>?_
   ·cases near
    ·exact .of rfl (by omega)
    ·have hb:=hu k hkn
     have t1:=tdiv_bd (x:=o) (g:=400) (B:=1000) (by omega)
     have t2:=tdiv_bd (x:=u k) (g:=d) (B:=671846400000) hb
     rw [cond_true,divM_pos (by omega),Option.bind_some,row_idx hkn,Option.bind_some,divM_pos (by omega),Option.bind_some,wrap_in (n:=o.tdiv 400) (by omega) (by omega),wrap_in (n:=(u k).tdiv d) (by omega) (by omega),wrap_in (by omega) (by omega)]
     exact .of rfl (by omega)
   ·rw [app1 (by omega),Option.bind_some,wrap_in (by omega) (by omega)]
    refine Ans.of (r:=.inl ((k:Int)+1,t++[o2])) rfl ?_
    refine show k<c.1.toNat∧(k:Int)+1=((k+1:Nat):Int)∧(t++[o2]).length=k+1∧∀ x∈t++[o2],-1000000000000≤x∧x≤1000000000000 from ⟨hkn,by omega,by simp [h2],fun x hx=>?_⟩
    rcases List.mem_append.1 hx with hx | hx
    ·exact h3 x hx
    ·rw [List.mem_singleton.1 hx];exact ho2
 ·rw [geI (by omega),cond_false]
  refine Ans.of (r:=.inr (.inl t)) rfl ?_
  exact show ∃ t':List Int,(Sum.inl t:List Int⊕Bool)=.inl t'∧t'.length=c.1.toNat∧∀ x∈t',-1000000000000≤x∧x≤1000000000000 from ⟨t,rfl,by omega,h3⟩
end
end Go.Proofs.YthdfmkpebafpoaaGreatDoor
namespace Go.Proofs.YthdfmkpebafpoaaGreatDoor
open Go Go.Lib Go.Abs Go.PE Go.Det Go.Num
theorem all_ok {c:Net} (h:NOK c):m7 (c.1,c.2.1,c.2.2)=some (decide (∀ i,i<c.1.toNat→td c i=true)):=by
 have h0:=h.n0
 have h8:=h.n8
 unfold m7
 dsimp only
 rw [show m27 (c.1,c.2.1,c.2.2)=some (row c.1.toNat (td c)) from m27_eq h,Option.bind_some]
 refine Ans.is (Ans.bind (P:=fun o=>Sum.elim (fun (_:Unit)=>some true) (fun (t:Bool)=>some t) o=some (decide (∀ i,i<c.1.toNat→td c i=true))) (Ans.loop (fun k s=>s=(k:Int)∧∀ i,i<k→td c i=true) c.1.toNat ⟨rfl,fun i hi=>absurd hi (Nat.not_lt_zero _)⟩ ?_) fun o ho=>.of ho rfl)
 rintro k s hk ⟨rfl,hP⟩
 by_cases hkn:k<c.1.toNat
 ·rw [lenR,ltI (by omega),cond_true,row_idx hkn,Option.bind_some]
  cases ht:td c k with
  | true =>
   rw [notT,cond_false,wrap_in (by omega) (by omega)]
   refine Ans.of (r:=.inl ((k:Int)+1)) rfl ?_
   refine show k<c.1.toNat∧(k:Int)+1=((k+1:Nat):Int)∧∀ i,i<k+1→td c i=true from ⟨hkn,by omega,fun i hi=>?_⟩
   by_cases e:i=k
   ·rw [e,ht]
   ·exact hP i (by omega)
  | false =>
   rw [notF,cond_true]
   refine Ans.of (r:=.inr (.inr false)) rfl ?_
   show some false=some (decide (∀ i,i<c.1.toNat→td c i=true))
   rw [decide_eq_false fun h=>by rw [h k hkn] at ht;cases ht]
 ·rw [lenR,geI (by omega),cond_false]
  refine Ans.of (r:=.inr (.inl ())) rfl ?_
  show some true=some (decide (∀ i,i<c.1.toNat→td c i=true))
  rw [decide_eq_true fun i hi=>hP i (by omega)]
theorem own2 {n s:Nat} {X Y:Nat→Int} (hs:s<2):idxM [row n X,row n Y] (s:Int)=some (row n fun i=>if s=0 then X i else Y i):=by
 rcases (show s=0∨s=1 by omega) with rfl | rfl<;>rfl
theorem law3_ok (x:NNum×List (Int×Int)×Bool) (h:NN x.1) (ho:∀ p∈x.2.1,i64 p.1∧i64 p.2):m3 x=some true:=by
 obtain ⟨x,other,near⟩:=x
 dsimp only at h ho
 have hm:=made_mad x
 have hL:=lap_c hm
 have hn0:=hm.ok.n0
 have hn8:=hm.ok.n8
 have e5:=m5_eq h
 generalize madeN x=c at *
 unfold m3
 dsimp only
 rw [sane_ok,Option.bind_some,notT,cond_false,show m5 (x.1,x.2.1,x.2.2.1,x.2.2.2.1,x.2.2.2.2.1,x.2.2.2.2.2.1,x.2.2.2.2.2.2)=some c from e5,Option.bind_some]
 rcases m6_eq hm.ok hL with ⟨hr,hd,e6⟩ | ⟨hr,e6⟩
 ·rw [show m6 (c.1,c.2.1,c.2.2)=_ from e6,Option.bind_some,all_ok hm.ok,Option.bind_some,decide_eq_true (tied_of_reg hm.ok hL hr),notT,cond_false]
  obtain ⟨b,l,z,d⟩:=run_ok hL c.1.toNat (Nat.le_refl _) hr
  obtain ⟨s1,s2,_,_⟩:=sizes hL b l z d (Nat.le_refl _)
  have hg:=gc_pos d (xs8 c) (xs9 c) c.1.toNat
  obtain ⟨hgd,hgx⟩:=gc_dvd (del (nmA c) c.1.toNat) (xs8 c) (xs9 c) c.1.toNat
  have hq:∀ y:Int,ab y≤671846400000→-671846400000≤y.tdiv (gcN c)∧y.tdiv (gcN c)≤671846400000:=fun y hy=>by
   have h2:=ab_le y
   exact tdiv_bd (by omega)
  have hgp:0<gcN c:=hg.1
  have hden:1≤(del (nmA c) c.1.toNat).tdiv (gcN c)∧(del (nmA c) c.1.toNat).tdiv (gcN c)≤1679616:=by
   have h1:=tdiv_bd (x:=del (nmA c) c.1.toNat) (g:=gcN c) (B:=1679616) (by omega)
   have h2:del (nmA c) c.1.toNat=gcN c*(del (nmA c) c.1.toNat).tdiv (gcN c):=(Int.mul_tdiv_cancel' hgd).symm
   refine ⟨?_,h1.2⟩
   refine Int.not_lt.1 fun hlt=>?_
   have:=Int.mul_le_mul_of_nonneg_left (show (del (nmA c) c.1.toNat).tdiv (gcN c)≤0 by omega) (show 0≤gcN c by omega)
   rw [← h2] at this
   omega
  have hx8:∀ i,i<c.1.toNat→-671846400000≤(fun i=>(xs8 c i).tdiv (gcN c)) i∧(fun i=>(xs8 c i).tdiv (gcN c)) i≤671846400000:=fun i hi=>hq _ (s2 i 8 hi (by omega))
  have hx9:∀ i,i<c.1.toNat→-671846400000≤(fun i=>(xs9 c i).tdiv (gcN c)) i∧(fun i=>(xs9 c i).tdiv (gcN c)) i≤671846400000:=fun i hi=>hq _ (s2 i 9 hi (by omega))
  have hb8:=sol_bal hm.ok hL hr (.inl rfl) hgp hgd fun i hi=>(hgx i hi).1
  have hb9:=sol_bal hm.ok hL hr (.inr rfl) hgp hgd fun i hi=>(hgx i hi).2
  have hb8:∀ p,p<c.1.toNat→bal c.1.toNat (fun i=>(xs8 c i).tdiv (gcN c)) ((del (nmA c) c.1.toNat).tdiv (gcN c)) (obL c 8) p=0:=hb8
  have hb9:∀ p,p<c.1.toNat→bal c.1.toNat (fun i=>(xs9 c i).tdiv (gcN c)) ((del (nmA c) c.1.toNat).tdiv (gcN c)) (obL c 9) p=0:=hb9
  unfold lstN
  dsimp only
  generalize (del (nmA c) c.1.toNat).tdiv (gcN c)=D at *
  generalize (fun i=>(xs8 c i).tdiv (gcN c))=X at *
  generalize (fun i=>(xs9 c i).tdiv (gcN c))=Y at *
  rw [eqI rfl,notT,orF,geI (by omega),orF,lenR,lenR,eqI (by omega),notT,orF,cond_false]
  refine bind_of (x:=.inl ()) ?_ rfl
  refine loopM_fn (fun k=>(k:Int)) 2 (fun s hs=>?_) rfl
  have hU:∃ U:Nat→Int,U=fun i=>if s=0 then X i else Y i:=⟨_,rfl⟩
  obtain ⟨U,hU⟩:=hU
  have hub:∀ i,i<c.1.toNat→-671846400000≤U i∧U i≤671846400000:=fun i hi=>by
   rw [hU];dsimp only
   split
   ·exact hx8 i hi
   ·exact hx9 i hi
  have hu:Near c.1.toNat U D:=⟨fun i hi=>by have:=hub i hi;omega,by omega,hden.2⟩
  have hbal:∀ p,p<c.1.toNat→bal c.1.toNat U D (obL c (8+s)) p=0:=by
   rcases (show s=0∨s=1 by omega) with rfl | rfl
   ·rw [hU];exact hb8
   ·rw [hU];exact hb9
  rw [ltI (by omega),cond_true,own2 hs,← hU,Option.bind_some,mkM_of (by omega) (by omega) (by show c.1*8≤_;omega),Option.bind_some,replicate_row]
  refine bind_of (fix_bal hm hs hu) ?_
  refine bind_of (sgt_bal hm hs hu) ?_
  rw [row_congr (g':=fun _=>0) hbal]
  refine Ans.is (Ans.bind (other_ok hm hs ho near hden.1 hub) ?_)
  rintro o ⟨t,rfl,ht,hbt⟩
  have hn2:Near c.1.toNat (fun i=>t.getD i 0) 1:=⟨fun i hi=>by have:=hbt _ (memD (show i<t.length by omega) 0);exact this,by omega,by omega⟩
  have et:t=row c.1.toNat fun i=>t.getD i 0:=by have:=list_row t 0;rwa [ht] at this
  have hq1:=sq_bd hm hu (8+s) (l:=obL c (8+s)) (fun _ h=>h) (by have:=hm.fl;have:=hm.sl;unfold obL;simp;omega)
  have hq2:=sq_bd hm hn2 (8+s) (l:=obL c (8+s)) (fun _ h=>h) (by have:=hm.fl;have:=hm.sl;unfold obL;simp;omega)
  have hle:=least_sq (n:=c.1.toNat) (u:=U) (q:=fun i=>t.getD i 0) (d:=D) (os:=obL c (8+s)) hbal
  have hSq:=sq_ok hm hs hu
  have hsq:=sq_ok hm hs hn2
  rw [← et] at hsq
  generalize sqr c.1.toNat U D (obL c (8+s))=S1 at *
  generalize sqr c.1.toNat (fun i=>t.getD i 0) 1 (obL c (8+s))=S2 at *
  have hp1:0≤S2*D∧S2*D≤2000000000000000000000000000000000:=⟨Int.mul_nonneg hq2.1 (by omega),by have:=Int.mul_le_mul hq2.2 hden.2 (by omega) (by omega);omega⟩
  have hp2:0≤S2*D*D∧S2*D*D≤4000000000000000000000000000000000000000:=⟨Int.mul_nonneg hp1.1 (by omega),by have:=Int.mul_le_mul hp1.2 hden.2 (by omega) (by omega);omega⟩
  rw [Sum.elim_inl,m9_eq,Option.bind_some,hSq,Option.bind_some,hsq,Option.bind_some,mul_ok (fits_of (by omega)) (fits_of (by omega)),Option.bind_some,sn_fits (fits_of (by omega))]
  dsimp only
  rw [mul_ok (fits_of (by omega)) (fits_of (by omega)),Option.bind_some,sn_fits (fits_of (by omega))]
  dsimp only
  rw [eqI rfl,notT,orF,orF,eqsF (itoa_ne _),notF,cond_true,cmp_ok (fits_of (by omega)) (fits_of (by omega)),Option.bind_some,orF]
  have hc:ltM 0 (cmp3 S1 (S2*D*D))=false:=by
   unfold cmp3
   by_cases h1:S1<S2*D*D
   ·rw [if_pos h1];rfl
   ·rw [if_neg h1,if_neg (by omega)];rfl
  rw [hc,cond_false,wrap_in (by omega) (by omega)]
  exact .of rfl rfl
 ·have hnt:¬ ∀ i,i<c.1.toNat→td c i=true:=fun ht=>hr (reg_of_tied hm.ok hL ht)
  rw [show m6 (c.1,c.2.1,c.2.2)=_ from e6,Option.bind_some,all_ok hm.ok,Option.bind_some,decide_eq_false hnt,notF,cond_true]
  rfl
end Go.Proofs.YthdfmkpebafpoaaGreatDoor
namespace Go.Proofs.YthdfmkpebafpoaaGreatDoor
open Go Go.Abs Go.PE
theorem nn_ok {x:NNum} (h:InR (.pair (.list (.pair tI tI)) (.pair (.list tI) (.pair (.list (.pair tI (.pair tI (.pair tI tI)))) (.pair (.list (.pair tI (.pair tI (.pair tI (.pair tI tI))))) (.pair tI (.pair tI tI)))))) x):NN x:=by
 obtain ⟨⟨_,h1⟩,⟨_,h2⟩,⟨_,h3⟩,⟨_,h4⟩,h5,h6,h7⟩:=h
 refine ⟨fun p hp=>?_,fun v hv=>?_,fun f hf=>?_,fun s hs=>?_,h5,h6,h7⟩
 ·obtain ⟨i,hi,rfl⟩:=List.mem_iff_getElem.1 hp
  exact h1 i _ (List.getElem?_eq_getElem hi)
 ·obtain ⟨i,hi,rfl⟩:=List.mem_iff_getElem.1 hv
  exact h2 i _ (List.getElem?_eq_getElem hi)
 ·obtain ⟨i,hi,rfl⟩:=List.mem_iff_getElem.1 hf
  exact h3 i _ (List.getElem?_eq_getElem hi)
 ·obtain ⟨i,hi,rfl⟩:=List.mem_iff_getElem.1 hs
  exact h4 i _ (List.getElem?_eq_getElem hi)
end Go.Proofs.YthdfmkpebafpoaaGreatDoor
namespace Go.Proofs.YthdfmkpebafpoaaGreatDoor
open Go Go.Abs Go.PE
theorem law3:∀ (S:Cells) (w:World) (η:Eta) (vs:List Value) x,All2 (RM S w η) (rvs as3 x) vs→m3 x=some true :=
 law_of_ok fun x h=>law3_ok x (nn_ok h.1) fun p hp=>by
  obtain ⟨i,hi,rfl⟩:=List.mem_iff_getElem.1 hp
  exact h.2.1.2 i _ (List.getElem?_eq_getElem hi)
end Go.Proofs.YthdfmkpebafpoaaGreatDoor
