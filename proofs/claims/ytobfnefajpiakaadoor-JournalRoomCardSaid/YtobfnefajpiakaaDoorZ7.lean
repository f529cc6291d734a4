/-
 Texts of this proof, put together: Bc, Bd, Be, Bf, Bm, Da, Aj, Ca, Cb, Cc, Cd, Ce, Cf, Cg, Ch, Cn, Cm, Co, Cp, LawJournalRoom.
 No conditions.
-/
import Derived.Test.YtobfnefajpiakaaDoorZ6
set_option linter.all false
namespace Go.Proofs.YtobfnefajpiakaaDoor
open Go Go.Lib Go.Abs Go.PE Go.Ar
variable [EA]
theorem xorI (a b:Nat):bitM .xor .u32 (a:Int) (b:Int)=((xW a b:Nat):Int):=by
 unfold bitM xW mW
 dsimp only
 rw [BitVec.toNat_xor,bv32,bv32]
 have:=Nat.xor_lt_two_pow (n:=32) (x:=a % 4294967296) (y:=b % 4294967296) (Nat.mod_lt _ (by decide)) (Nat.mod_lt _ (by decide))
 exact wu32_in (by omega) (by omega)
theorem andI (a b:Nat):bitM .and .u32 (a:Int) (b:Int)=((aW a b:Nat):Int):=by
 unfold bitM aW mW
 dsimp only
 rw [BitVec.toNat_and,bv32,bv32]
 have:=Nat.and_lt_two_pow (n:=32) (a % 4294967296) (y:=b % 4294967296) (Nat.mod_lt _ (by decide))
 exact wu32_in (by omega) (by omega)
theorem orI (a b:Nat):bitM .or .u32 (a:Int) (b:Int)=((oW a b:Nat):Int):=by
 unfold bitM oW mW
 dsimp only
 rw [BitVec.toNat_or,bv32,bv32]
 have:=Nat.or_lt_two_pow (n:=32) (x:=a % 4294967296) (y:=b % 4294967296) (Nat.mod_lt _ (by decide)) (Nat.mod_lt _ (by decide))
 exact wu32_in (by omega) (by omega)
theorem cplI (a:Nat):cplM .u32 (a:Int)=((xW 4294967295 a:Nat):Int):=by
 unfold cplM
 rw [show (if IntKind.u32.signed then (-1:Int) else IntKind.u32.max)=((4294967295:Nat):Int) by decide,xorI]
theorem wrapI (a:Nat):IntKind.wrap .u32 (a:Int)=((mW a:Nat):Int):=by rw [wu32];rfl
theorem addI (a b:Nat):IntKind.wrap .u32 ((a:Int)+(b:Int))=((mW (a+b):Nat):Int):=by rw [wu32];rfl
theorem shlI (a:Nat) {n:Int} (k:Nat) (e:n=k) (h:k≤32):shlM .u32 (a:Int) n=some ((shl a k:Nat):Int):=by
 subst e
 rw [shlM_of (k:=.u32) h,wu32]
 unfold shl mW
 congr 1
theorem shrI {k:IntKind} (a:Nat) {n:Int} (j:Nat) (e:n=j) (h:j≤k.bits):shrM k (a:Int) n=some ((shr a j:Nat):Int):=by
 subst e
 rw [shrM_of h]
 unfold shr
 have:((2:Int) ^ j)=((2 ^ j:Nat):Int):=by rw [Int.natCast_pow];rfl
 rw [this,fdiv_nat]
theorem oW_comm (a b:Nat):oW a b=oW b a:=Nat.or_comm _ _
theorem xW_zero (a b:Nat):xW (xW 0 a) b=xW a b:=by
 unfold xW mW
 rw [Nat.zero_mod,Nat.zero_xor,Nat.mod_mod]
theorem loopM_at {σ β:Type} {body:σ→Option (σ⊕β)} {s:σ} (g:Nat→σ) (n:Nat) {r:β} (hs:s=g 0) (h:∀ k,k<n→body (g k)=some (.inl (g (k+1)))) (he:body (g n)=some (.inr r)):loopM body s=some r:=by
 subst hs;exact loopM_fn g n h he
theorem remM_nat' (a b:Nat) (hb:0<b):remM (a:Int) (b:Int)=some ((a % b:Nat):Int):=by rw [remM_of (by omega) (by omega)];rfl
theorem ofNat_mod (n:Nat):UInt8.ofNat ((n:Int) % 256).toNat=UInt8.ofNat n:=by
 rw [show ((n:Int) % 256).toNat=n % 256 by omega]
 apply u8eq;simp
theorem neg31:∀ k:Fin 32,0<k.val→bitM .and .u64 (IntKind.wrap .u64 (IntKind.wrap .i64 (negM (k.val:Int)))) 31=((32-k.val:Nat):Int)∧IntKind.wrap .u64 (32-((32-k.val:Nat):Int))=(k.val:Int):=by decide +kernel
theorem mixed_ok (x:Nat) {l:List Nat} (hl:∀ n∈l,0<n∧n<32) (hn:l.length≤10):m86 ((x:Int),l.map fun n:Nat=>(n:Int))=some ((l.foldl (fun o n=>xW o (rot x n)) 0:Nat):Int):=by
 unfold m86
 dsimp only
 refine bind_of (loopM_fn (fun k=>((((l.take k).foldl (fun o n=>xW o (rot x n)) 0:Nat):Int),(k:Int))) l.length (r:=((l.foldl (fun o n=>xW o (rot x n)) 0:Nat):Int)) (fun k hk=>?_) ?_) rfl
 ·dsimp only
  obtain ⟨h0,h1⟩:=hl l[k] (by simp)
  obtain ⟨e1,e2⟩:=neg31 ⟨l[k],h1⟩ h0
  dsimp only at e1 e2
  rw [lenI,ltI (by simp;omega),cT,idxM_nat,List.getElem?_map,gE hk,Option.map_some,oB,e1,shlI x (32-l[k]) rfl (by omega),oB,e2,shrI x l[k] rfl (by show l[k]≤32;omega),oB,orI,xorI,wrap_in (by omega) (by omega),List.take_add_one,gE hk,Option.toList_some,List.foldl_append,oW_comm]
  rfl
 ·dsimp only
  rw [lenI,geI (by simp),cF,List.take_length]
theorem mixed2 (x n m:Nat) (h1:0<n∧n<32) (h2:0<m∧m<32):m86 ((x:Int),[(n:Int),(m:Int)])=some ((xW (rot x n) (rot x m):Nat):Int):=by
 have:=mixed_ok x (l:=[n,m]) (by simp [h1,h2]) (by simp)
 simp only [List.map_cons,List.map_nil,List.foldl_cons,List.foldl_nil,xW_zero] at this
 exact this
theorem mixed3 (x n m k:Nat) (h1:0<n∧n<32) (h2:0<m∧m<32) (h3:0<k∧k<32):m86 ((x:Int),[(n:Int),(m:Int),(k:Int)])=some ((xW (xW (rot x n) (rot x m)) (rot x k):Nat):Int):=by
 have:=mixed_ok x (l:=[n,m,k]) (by simp [h1,h2,h3]) (by simp)
 simp only [List.map_cons,List.map_nil,List.foldl_cons,List.foldl_nil,xW_zero] at this
 exact this
abbrev iL (l:List Nat):List Int:=l.map fun n:Nat=>(n:Int)
theorem iL_len (l:List Nat):(iL l).length=l.length:=by simp
theorem iL_idx {l:List Nat} {i:Nat} (h:i<l.length):idxM (iL l) (i:Int)=some ((l.getD i 0:Nat):Int):=by
 rw [idxM_nat,List.getElem?_map,gE h];simp [h]
theorem z01 (i:Int):((nat_lit 0:Nat):Int)+i*((nat_lit 1:Nat):Int)=i:=by show 0+i*1=i;omega
theorem set_next {l:List Nat} {k n y:Nat} (h:l.length=k):(l++List.replicate (n+1) 0).set k y=(l++[y])++List.replicate n 0:=by
 subst h
 rw [List.set_append_right _ _ (nR _),Nat.sub_self,List.replicate_succ,List.set_cons_zero,aA];rfl
theorem iL_set {l:List Nat} {j:Int} (i:Nat) (e:j=i) (h:i<l.length) {f:Int→Option Int} {y:Nat} (hf:∀ x,f x=some (y:Int)):setM (iL l) j f=some (iL (l.set i y)):=by
 subst e
 rw [setM_of (by omega) (by rw [iL_len];omega) (hf _)]
 simp [iL]
theorem iL_slice {l:List Nat} {i j:Int} (a b:Nat) (ei:i=a) (ej:j=b) (h:a≤b) (hb:b≤l.length):sliceM (iL l) i j=some (iL ((l.drop a).take (b-a))):=by
 subst ei;subst ej
 rw [sliceM_of (by omega) (by omega) (by rw [iL_len];omega),Int.toNat_natCast,Int.toNat_natCast,List.drop_take,iL,← List.map_drop,← List.map_take]
theorem getD_app {l m:List Nat} {i:Nat} (h:i<l.length):(l++m).getD i 0=l.getD i 0:=by
 rw [List.getD_eq_getElem?_getD,xL h,← List.getD_eq_getElem?_getD]
theorem wMore_succ:∀ (j:Nat) (w:List Nat),wMore (j+1) w=wMore j w++[wNext (wMore j w)]
 | 0,w=>rfl
 | j+1,w=>by
  rw [wMore,wMore_succ j,← wMore]
theorem wMore_len:∀ (j:Nat) (w:List Nat),(wMore j w).length=w.length+j
 | 0,w=>rfl
 | j+1,w=>by rw [wMore,wMore_len j];simp;omega
theorem w16_succ (b:List Nat) (k:Nat):(List.range (k+1)).map (w4 b)=(List.range k).map (w4 b)++[w4 b k]:=by rw [List.range_succ,List.map_append];rfl
theorem rnds_take {l:List (Nat×Nat)} {k:Nat} (hk:k<l.length) (v:List Nat):(l.take (k+1)).foldl rnd v=rnd ((l.take k).foldl rnd v) l[k]:=by
 rw [List.take_add_one,gE hk,Option.toList_some,List.foldl_append];rfl
theorem eight {v:List Nat} (h:v.length=8):∃ a b c d e f g i,v=[a,b,c,d,e,f,g,i]:=by
 match v,h with
 | [a,b,c,d,e,f,g,i],_=>exact ⟨a,b,c,d,e,f,g,i,rfl⟩
variable [EA]
set_option maxRecDepth 100000
def rndsN (b h:List Nat) (k:Nat):List Nat:=((kSha.zip (wAll b)).take k).foldl rnd h
theorem wAll_len (b:List Nat):(wAll b).length=64:=by unfold wAll;rw [wMore_len];simp
theorem kz_len (b:List Nat):(kSha.zip (wAll b)).length=64:=by rw [List.length_zip,wAll_len];rfl
theorem kz_get (b:List Nat) {k:Nat} (h:k<64):(kSha.zip (wAll b))[k]'(by rw [kz_len];exact h)=(kSha.getD k 0,(wAll b).getD k 0):=by
 rw [List.getElem_zip]
 simp [List.getD_eq_getElem?_getD,gE (show k<kSha.length from h),gE (show k<(wAll b).length by rw [wAll_len];exact h)]
theorem rndsN_len (b:List Nat) {h:List Nat} (hh:h.length=8) (k:Nat):(rndsN b h k).length=8:=rnds_len _ _ hh
theorem rndsN_succ (b h:List Nat) {k:Nat} (hk:k<64):rndsN b h (k+1)=rnd (rndsN b h k) (kSha.getD k 0,(wAll b).getD k 0):=by
 unfold rndsN
 rw [rnds_take (by rw [kz_len];exact hk),kz_get b hk]
theorem blk_eq (h b:List Nat):blk h b=List.zipWith (fun x y=>mW (x+y)) h (rndsN b h 64):=by
 unfold blk rndsN
 rw [tkL (by rw [kz_len];exact nR _)]
theorem idx64 {o:List Int} {i:Int} (h:o.length=64):idxM ((List.range 64).map fun k=>nthD o k 0) i=idxM o i:=by
 congr 1
 apply List.ext_getElem?
 intro k
 by_cases hk:k<64
 ·rw [List.getElem?_map,List.getElem?_range hk,gE (by omega)]
  unfold nthD
  simp [List.getD_eq_getElem?_getD,gE (show k<o.length by omega)]
 ·rw [List.getElem?_eq_none (by simp;omega),List.getElem?_eq_none (by omega)]
theorem nth8 {h:List Nat} (hh:h.length=8):[nthD (iL h) (nat_lit 0) 0,nthD (iL h) (nat_lit 1) 0,nthD (iL h) (nat_lit 2) 0,nthD (iL h) (nat_lit 3) 0,nthD (iL h) (nat_lit 4) 0,nthD (iL h) (nat_lit 5) 0,nthD (iL h) (nat_lit 6) 0,nthD (iL h) (nat_lit 7) 0]=iL h:=by
 obtain ⟨a,b,c,d,e,f,g,i,rfl⟩:=eight hh
 rfl
theorem wk (i:Int) {j:Int} (h1:0≤j) (h2:j≤1000) (e:j=i):IntKind.wrap .i64 i=j:=by rw [wrap_in (by omega) (by omega),e]
theorem digest_ok {h:List Nat} (hh:h.length=8):m80 (nthD (iL h) (nat_lit 0) 0,nthD (iL h) (nat_lit 1) 0,nthD (iL h) (nat_lit 2) 0,nthD (iL h) (nat_lit 3) 0,nthD (iL h) (nat_lit 4) 0,nthD (iL h) (nat_lit 5) 0,nthD (iL h) (nat_lit 6) 0,nthD (iL h) (nat_lit 7) 0)=some (wBytes h):=by
 unfold m80
 dsimp only
 rw [nth8 hh]
 let B:Nat→List Nat:=fun x=>[shr x 24 % 256,shr x 16 % 256,shr x 8 % 256,x % 256]
 have hB:∀ l:List Nat,(l.flatMap B).length=4*l.length:=fun l=>by
  induction l with
  | nil=>rfl
  | cons a l ih=>rw [List.flatMap_cons,lA,ih];simp [B];omega
 refine bind_of (loopM_fn (fun k=>((k:Int),iL ((h.take k).flatMap B++List.replicate (32-4*k) 0))) 8 (r:=iL (h.flatMap B)) (fun k hk=>?_) ?_) ?_
 ·dsimp only
  have hP:((h.take k).flatMap B).length=4*k:=by rw [hB,lT];omega
  generalize hp:(h.take k).flatMap B=P at hP
  rw [ltI (by omega),cT,iL_idx (by omega),oB]
  generalize hx:h.getD k 0=x
  refine bind_of (loopM_at (fun j=>((j:Int),iL (P++(B x).take j++List.replicate (32-4*k-j) 0))) 4 (by simp) (r:=iL (P++B x++List.replicate (32-4*k-4) 0)) (fun j hj=>?_) ?_) ?_
  ·dsimp only
   rw [ltI (by omega),cT,wk (8*(j:Int)) (j:=8*(j:Int)) (by omega) (by omega) rfl,wk (24-8*(j:Int)) (j:=((24-8*j:Nat):Int)) (by omega) (by omega) (by omega),shrI x (24-8*j) rfl (by show _≤32;omega),oB,wk (4*(k:Int)) (j:=4*(k:Int)) (by omega) (by omega) rfl,wk (4*(k:Int)+(j:Int)) (j:=((4*k+j:Nat):Int)) (by omega) (by omega) (by omega),chkM_of (by omega) (by show ((4*k+j:Nat):Int)<32;omega),oB,z01]
   have hT:(P++(B x).take j).length=4*k+j:=by rw [lA,hP,lT];simp [B];omega
   rw [iL_set (4*k+j) rfl (by rw [lA,hT,List.length_replicate];omega) (y:=shr x (24-8*j) % 256) (fun _=>by rw [wu8];rfl),oB,wk ((j:Int)+1) (j:=((j+1:Nat):Int)) (by omega) (by omega) (by omega)]
   obtain ⟨m,hm⟩:∃ m,32-4*k-j=m+1:=⟨32-4*k-j-1,by omega⟩
   rw [hm,set_next hT,show 32-4*k-(j+1)=m by omega]
   have e:(B x).take j++[shr x (24-8*j) % 256]=(B x).take (j+1):=by
    match j,hj with
    | 0,_=>rfl
    | 1,_=>rfl
    | 2,_=>rfl
    | 3,_=>show _=B x;simp [B,shr]
   rw [aA P,e]
  ·dsimp only
   rw [geI (by omega),cF]
   rfl
  ·rw [wk ((k:Int)+1) (j:=((k+1:Nat):Int)) (by omega) (by omega) (by omega),List.take_add_one,gE (show k<h.length by omega),Option.toList_some,List.flatMap_append,hp]
   have:h[k]'(by omega)=x:=by rw [← hx,List.getD_eq_getElem?_getD,gE (by omega)];rfl
   rw [this,show 32-4*k-4=32-4*(k+1) by omega]
   simp only [List.flatMap_cons,List.flatMap_nil,List.append_nil]
 ·dsimp only
  rw [geI (by omega),cF,tkL (by omega)]
  simp
 ·have e:partV (iL (h.flatMap B)) (nat_lit 0) (nat_lit 32)=iL (h.flatMap B):=by
   show ((iL (h.flatMap B)).drop 0).take 32=_
   rw [List.drop_zero,tkL (by rw [iL_len,hB];omega)]
  rw [e]
  unfold strB wBytes iL
  rw [List.map_map]
  congr 1
  rw [List.map_flatMap]
  congr 1
  funext x
  simp [B,ofNat_mod]
variable [EA]
set_option maxRecDepth 100000
theorem blks_succ:∀ (k:Nat) (h b:List Nat),blks (k+1) h b=blk (blks k h b) ((b.drop (64*k)).take 64)
 | 0,h,b=>by simp [blks]
 | k+1,h,b=>by
  rw [blks,blks_succ k,← blks,List.drop_drop]
  congr 3
  omega
theorem nZ_lt {L k:Nat} (h:k<nZ L):(L+1+k) % 64≠56:=by unfold nZ at h;omega
theorem nZ_eq (L:Nat):(L+1+nZ L) % 64=56:=by unfold nZ;omega
theorem nZ_le (L:Nat):nZ L≤63:=by unfold nZ;omega
theorem pad_len (b:List Nat):(pad b).length=b.length+1+nZ b.length+8:=by unfold pad;simp;omega
theorem bytes_of (s:Bs):(s.map fun b=>(b.toNat:Int))=iL (s.map UInt8.toNat):=by rw [iL,List.map_map];rfl
theorem app_iL {l:List Nat} {c:Nat} {y:Nat} {d:Int} (e:d=y) (hc:c≤8) (h:l.length≤1000000):appM c (iL l) [d]=some (iL (l++[y])):=by
 subst e
 rw [appM_of]
 ·simp [iL]
 ·rw [iL_len]
  have:(l.length+[(y:Int)].length)*c≤(l.length+[(y:Int)].length)*8:=Nat.mul_le_mul_left _ hc
  simp only [List.length_singleton] at *
  omega
theorem w4_ok {b:List Nat} (hb:b.length=64) {k:Nat} (hk:k<16) {β:Type} {f:Int→Option β} {r:β} (h:f ((w4 b k:Nat):Int)=some r) :
  ((idxM (iL b) (IntKind.wrap .i64 (4*(k:Int)))).bind fun r_4=>(shlM .u32 (IntKind.wrap .u32 r_4) 24).bind fun r_5=>(idxM (iL b) (IntKind.wrap .i64 (IntKind.wrap .i64 (4*(k:Int))+1))).bind fun r_6=>(shlM .u32 (IntKind.wrap .u32 r_6) 16).bind fun r_7=>(idxM (iL b) (IntKind.wrap .i64 (IntKind.wrap .i64 (4*(k:Int))+2))).bind fun r_8=>(shlM .u32 (IntKind.wrap .u32 r_8) 8).bind fun r_9=>(idxM (iL b) (IntKind.wrap .i64 (IntKind.wrap .i64 (4*(k:Int))+3))).bind fun r_10=>f (bitM BinOp.or .u32 (bitM BinOp.or .u32 (bitM BinOp.or .u32 r_5 r_7) r_9) (IntKind.wrap .u32 r_10)))=some r:=by
 rw [wk (4*(k:Int)) (j:=((4*k:Nat):Int)) (by omega) (by omega) (by omega),iL_idx (by omega),oB,wrapI,shlI (n:=24) _ 24 rfl (by omega),oB,
  wk (((4*k:Nat):Int)+1) (j:=((4*k+1:Nat):Int)) (by omega) (by omega) (by omega),iL_idx (by omega),oB,wrapI,shlI (n:=16) _ 16 rfl (by omega),oB,
  wk (((4*k:Nat):Int)+2) (j:=((4*k+2:Nat):Int)) (by omega) (by omega) (by omega),iL_idx (by omega),oB,wrapI,shlI (n:=8) _ 8 rfl (by omega),oB,
  wk (((4*k:Nat):Int)+3) (j:=((4*k+3:Nat):Int)) (by omega) (by omega) (by omega),iL_idx (by omega),oB,wrapI,orI,orI,orI]
 exact h
theorem wSum_ok {s:Bs} (hs:s.length≤900000):m71 s=some (sha s):=by
 unfold m71
 generalize hb0:s.map UInt8.toNat=b0
 have hL:b0.length=s.length:=by rw [← hb0];simp
 refine bind_of (x:=iL b0) (by unfold bytesM;rw [Nat.ble_eq_true_of_le (by omega),bytes_of,hb0]) ?_
 refine bind_of (x:=iL (b0++[128])) (app_iL rfl (by decide) (by omega)) ?_
 refine bind_of (x:=iL (b0++[128]++List.replicate (nZ b0.length) 0)) (loopM_at (fun k=>iL (b0++[128]++List.replicate k 0)) (nZ b0.length) (by simp) (fun k hk=>?_) ?_) ?_
 ·have hz:=nZ_le b0.length
  have hl:lenM (iL (b0++[128]++List.replicate k 0))=((b0.length+1+k:Nat):Int):=by rw [lenI];simp;omega
  have:=nZ_lt hk
  dsimp only
  rw [hl,show (64:Int)=((64:Nat):Int) from rfl,remM_nat' _ _ (by decide),oB,neI (by omega),notF,cT,app_iL (d:=0) (c:=nat_lit 1) (y:=0) rfl (by decide) (by simp;omega),oB,aA _ _ [0],List.replicate_succ']
 ·have hl:lenM (iL (b0++[128]++List.replicate (nZ b0.length) 0))=((b0.length+1+nZ b0.length:Nat):Int):=by rw [lenI];simp;omega
  have:=nZ_eq b0.length
  dsimp only
  rw [hl,show (64:Int)=((64:Nat):Int) from rfl,remM_nat' _ _ (by decide),oB,eqI (by omega),notT,cF]
 generalize hP:b0++[128]++List.replicate (nZ b0.length) 0=P
 have hPl:P.length=b0.length+1+nZ b0.length:=by rw [← hP];simp;omega
 have hz:=nZ_le b0.length
 refine bind_of (x:=iL (P++(List.range 8).map fun i=>shr (8*b0.length) (8*(7-i)) % 256)) (loopM_at (fun k=>((7:Int)-(k:Int),iL (P++(List.range k).map fun i=>shr (8*b0.length) (8*(7-i)) % 256))) 8 (by simp) (fun k hk=>?_) ?_) ?_
 ·dsimp only
  rw [leI (by omega),cT,lenI,← hL,wrap_in (n:=8*(b0.length:Int)) (by omega) (by omega),show 8*(b0.length:Int)=((8*b0.length:Nat):Int) by omega,wk (8*(7-(k:Int))) (j:=((8*(7-k):Nat):Int)) (by omega) (by omega) (by omega),shrI _ (8*(7-k)) rfl (by show _≤64;omega),oB,app_iL (y:=shr (8*b0.length) (8*(7-k)) % 256) (by rw [wu8];rfl) (by decide) (by simp;omega),oB,wrap_in (by omega) (by omega),List.range_succ,List.map_append,aA]
  rw [show (7:Int)-(k:Int)-1=7-((k+1:Nat):Int) by omega];rfl
 ·dsimp only
  rw [gtI (by omega),cF]
 have hQ:P++(List.range 8).map (fun i=>shr (8*b0.length) (8*(7-i)) % 256)=pad b0:=by rw [← hP];unfold pad;simp
 rw [hQ]
 have hQl:=pad_len b0
 obtain ⟨n,hn⟩:∃ n,(pad b0).length=64*n:=⟨(pad b0).length / 64,by have:=nZ_eq b0.length;omega⟩
 refine bind_of (x:=(iL (blks n hSha (pad b0)),iL (pad b0))) (loopM_at (fun k=>(((64*k:Nat):Int),iL (blks k hSha (pad b0)),iL (pad b0))) n rfl (fun k hk=>?_) ?_) ?_
 ·dsimp only
  have hkl:64*k+64≤(pad b0).length:=by omega
  have hb2:(pad b0).length≤1000000:=by omega
  have hdl:(iL ((pad b0).drop (64*k))).length=(pad b0).length-64*k:=by simp
  generalize hB:((pad b0).drop (64*k)).take 64=B
  have hBl:B.length=64:=by rw [← hB,lT,List.length_drop];omega
  have hvl:(blks k hSha (pad b0)).length=8:=blks_len k rfl
  rw [blks_succ,hB,lenI,iL_len,ltI (by omega),cT]
  generalize blks k hSha (pad b0)=h at hvl
  refine bind_of (iL_slice (64*k) (pad b0).length rfl rfl (by omega) (nR _)) ?_
  rw [tkL (by simp)]
  refine bind_of (x:=iL B) ?_ ?_
  ·have e:IntKind.wrap .i64 (((64*k:Nat):Int)+min 64 (lenM (iL ((pad b0).drop (64*k)))))=((64*k+64:Nat):Int):=by
    rw [lenI,hdl,show min (64:Int) (((pad b0).length-64*k:Nat):Int)=64 by omega,wrap_in (by omega) (by omega)];rfl
   rw [e,sameM_self,oB,iL_slice (64*k) (64*k+64) rfl rfl (by omega) hkl,show 64*k+64-64*k=64 by omega,hB]
  refine bind_of (x:=iL ((List.range 16).map (w4 B)++List.replicate 48 0)) (loopM_at (fun j=>((j:Int),iL ((List.range j).map (w4 B)++List.replicate (64-j) 0))) 16 rfl (fun j hj=>?_) ?_) ?_
  ·dsimp only
   rw [ltI (by omega),cT]
   refine w4_ok hBl hj (f:=fun w=>(chkM (j:Int) ((nat_lit 64:Nat):Int)).bind fun _=>(setM (iL ((List.range j).map (w4 B)++List.replicate (64-j) 0)) (((nat_lit 0:Nat):Int)+(j:Int)*((nat_lit 1:Nat):Int)) fun _=>some w).bind fun r=>some (Sum.inl (IntKind.wrap .i64 ((j:Int)+1),r))) ?_
   dsimp only
   obtain ⟨m,hm⟩:∃ m,64-j=m+1:=⟨63-j,by omega⟩
   rw [chkM_of (by omega) (by show (j:Int)<64;omega),oB,z01,hm,iL_set j rfl (by simp) (y:=w4 B j) (fun _=>rfl),oB,set_next (by simp),wk ((j:Int)+1) (j:=((j+1:Nat):Int)) (by omega) (by omega) (by omega),w16_succ,show 64-(j+1)=m by omega]
  ·dsimp only
   rw [geI (by omega),cF]
  generalize hW:(List.range 16).map (w4 B)=W
  have hWl:W.length=16:=by rw [← hW];simp
  refine bind_of (x:=iL (wAll B)) (loopM_at (fun j=>(((16+j:Nat):Int),iL (wMore j W++List.replicate (48-j) 0))) 48 rfl (fun j hj=>?_) ?_) ?_
  ·have hl:(wMore j W).length=16+j:=by rw [wMore_len,hWl]
   obtain ⟨m,hm⟩:∃ m,48-j=m+1:=⟨47-j,by omega⟩
   have hwn:wNext (wMore j W)=nextW ((wMore j W).getD j 0) ((wMore j W).getD (j+1) 0) ((wMore j W).getD (j+9) 0) ((wMore j W).getD (j+14) 0):=by
    unfold wNext
    rw [hl,show 16+j-16=j by omega,show 16+j-15=j+1 by omega,show 16+j-7=j+9 by omega,show 16+j-2=j+14 by omega]
   dsimp only
   rw [wMore_succ,hwn]
   generalize wMore j W=l at hl
   have A:∀ n:Nat,n<16+j→idxM (iL (l++List.replicate (48-j) 0)) (n:Int)=some ((l.getD n 0:Nat):Int):=fun n hn=>by
    rw [iL_idx (by rw [lA];omega),getD_app (by omega)]
   have C:∀ n:Nat,n<64→chkM (n:Int) ((nat_lit 64:Nat):Int)=some ():=fun n hn=>chkM_of (by omega) (by show (n:Int)<64;omega)
   rw [ltI (by omega),cT,wk (((16+j:Nat):Int)-15) (j:=((j+1:Nat):Int)) (by omega) (by omega) (by omega),C _ (by omega),oB,z01,A _ (by omega),oB,
    wk (((16+j:Nat):Int)-2) (j:=((j+14:Nat):Int)) (by omega) (by omega) (by omega),C _ (by omega),oB,z01,A _ (by omega),oB,
    wk (((16+j:Nat):Int)-16) (j:=((j:Nat):Int)) (by omega) (by omega) (by omega),C _ (by omega),oB,z01,A _ (by omega),oB]
   refine bind_of (mixed2 _ 7 18 (by omega) (by omega)) ?_
   refine bind_of (shrI _ 3 rfl (by decide)) ?_
   refine bind_of (x:=()) (by rw [wk (((16+j:Nat):Int)-7) (j:=((j+9:Nat):Int)) (by omega) (by omega) (by omega)];exact C _ (by omega)) ?_
   refine bind_of (x:=((l.getD (j+9) 0:Nat):Int)) (by rw [wk (((16+j:Nat):Int)-7) (j:=((j+9:Nat):Int)) (by omega) (by omega) (by omega),z01];exact A _ (by omega)) ?_
   refine bind_of (mixed2 _ 17 19 (by omega) (by omega)) ?_
   refine bind_of (shrI _ 10 rfl (by decide)) ?_
   refine bind_of (x:=()) (C _ (by omega)) ?_
   rw [xorI,addI,addI,xorI,addI,z01]
   refine bind_of (iL_set (16+j) rfl (by rw [lA,List.length_replicate];omega) (y:=nextW (l.getD j 0) (l.getD (j+1) 0) (l.getD (j+9) 0) (l.getD (j+14) 0)) (fun _=>rfl)) ?_
   rw [hm,set_next hl,wk (((16+j:Nat):Int)+1) (j:=((16+(j+1):Nat):Int)) (by omega) (by omega) (by omega),show 48-(j+1)=m by omega]
  ·dsimp only
   rw [geI (by omega),cF]
   show some (Sum.inr (iL (wMore 48 W++[])))=_
   rw [List.append_nil,← hW];rfl
  refine bind_of (x:=iL (rndsN B h 64)) (loopM_at (fun j=>((j:Int),iL (rndsN B h j))) 64 (by rw [nth8 hvl];rfl) (fun j hj=>?_) ?_) ?_
  ·have hk1:idxM (iL kSha) (j:Int)=some ((kSha.getD j 0:Nat):Int):=iL_idx hj
   have hk2:idxM (iL (wAll B)) (((nat_lit 0:Nat):Int)+(j:Int)*((nat_lit 1:Nat):Int))=some (((wAll B).getD j 0:Nat):Int):=by rw [z01];exact iL_idx (by rw [wAll_len];exact hj)
   dsimp only
   rw [rndsN_succ B h hj]
   obtain ⟨a,b,c,d,e,f,g,i,hv⟩:=eight (rndsN_len B hvl j)
   rw [hv,ltI (by omega),cT]
   generalize kSha.getD j 0=kk at hk1
   generalize (wAll B).getD j 0=ww at hk2
   refine bind_of hk1 ?_
   refine bind_of (x:=(a:Int)) rfl ?_
   refine bind_of (x:=(e:Int)) rfl ?_
   refine bind_of (x:=(i:Int)) rfl ?_
   refine bind_of (mixed3 e 6 11 25 (by omega) (by omega) (by omega)) ?_
   refine bind_of (x:=(f:Int)) rfl ?_
   refine bind_of (x:=(g:Int)) rfl ?_
   refine bind_of (x:=()) (chkM_of (by omega) (by show (j:Int)<64;omega)) ?_
   refine bind_of ((idx64 (by rw [iL_len,wAll_len])).trans hk2) ?_
   refine bind_of (mixed3 a 2 13 22 (by omega) (by omega) (by omega)) ?_
   refine bind_of (x:=(b:Int)) rfl ?_
   refine bind_of (x:=(c:Int)) rfl ?_
   refine bind_of (x:=(b:Int)) rfl ?_
   refine bind_of (x:=(c:Int)) rfl ?_
   refine bind_of (x:=(d:Int)) rfl ?_
   refine bind_of (x:=[((mW (tW e f g i kk ww+uW a b c):Nat):Int),(a:Int),b,c,d,e,f,g]) ?_ ?_
   ·rw [addI,andI,cplI,andI,xorI,addI,addI,addI,andI,andI,andI,xorI,xorI,addI,addI];rfl
   refine bind_of (x:=[((mW (tW e f g i kk ww+uW a b c):Nat):Int),(a:Int),b,c,((mW (d+tW e f g i kk ww):Nat):Int),e,f,g]) ?_ ?_
   ·rw [addI,andI,cplI,andI,xorI,addI,addI,addI,addI];rfl
   rw [wk ((j:Int)+1) (j:=((j+1:Nat):Int)) (by omega) (by omega) (by omega)]
   rfl
  ·dsimp only
   rw [geI (by omega),cF]
  refine bind_of (x:=iL (blk h B)) (loopM_at (fun j=>((j:Int),iL ((blk h B).take j++h.drop j))) 8 (by simp) (fun j hj=>?_) ?_) ?_
  ·have hr:=rndsN_len B hvl 64
   have e1:(blk h B).length=8:=blk_len hvl
   have e2:(blk h B)[j]'(by omega)=mW (h.getD j 0+(rndsN B h 64).getD j 0):=by
    simp only [blk_eq,List.getElem_zipWith]
    rw [List.getD_eq_getElem?_getD,List.getD_eq_getElem?_getD,gE (by omega),gE (by omega)];rfl
   have e3:h.drop j=h.getD j 0::h.drop (j+1):=by
    rw [List.drop_eq_getElem_cons (by omega),List.getD_eq_getElem?_getD,gE (by omega)];rfl
   have e4:((blk h B).take j).length=j:=by rw [lT];omega
   have C:chkM (j:Int) ((nat_lit 8:Nat):Int)=some ():=chkM_of (by omega) (by show (j:Int)<8;omega)
   dsimp only
   rw [ltI (by omega),cT]
   refine bind_of C ?_
   refine bind_of (x:=((h.getD j 0:Nat):Int)) (by
    rw [z01,iL_idx (by rw [lA,e4,e3];simp),List.getD_eq_getElem?_getD,xR (by omega),e4,Nat.sub_self,e3];rfl) ?_
   refine bind_of C ?_
   refine bind_of (x:=(((rndsN B h 64).getD j 0:Nat):Int)) (by rw [z01];exact iL_idx (by omega)) ?_
   refine bind_of C ?_
   refine bind_of (x:=iL (((blk h B).take j++h.drop j).set j (mW (h.getD j 0+(rndsN B h 64).getD j 0)))) (by
    rw [z01,addI];exact iL_set j rfl (by rw [lA,e4,e3];simp) (fun _=>rfl)) ?_
   rw [wk ((j:Int)+1) (j:=((j+1:Nat):Int)) (by omega) (by omega) (by omega),List.set_append_right _ _ (by omega),e4,Nat.sub_self,e3,List.set_cons_zero,List.take_add_one,gE (by omega),Option.toList_some,e2,aA]
   rfl
  ·dsimp only
   rw [geI (by omega),cF,tkL (by rw [blk_len hvl];omega),List.drop_of_length_le (by omega),List.append_nil]
  rw [wrap_in (by omega) (by omega),show ((64*k:Nat):Int)+64=((64*(k+1):Nat):Int) by omega]
 ·dsimp only
  rw [lenI,geI (by rw [iL_len];omega),cF]
 ·refine bind_of (digest_ok (blks_len n rfl)) ?_
  unfold sha
  rw [hb0,hn,show 64*n / 64=n by omega]
variable [EA]
set_option maxRecDepth 100000
variable [EA]
theorem pow128 (i:Nat):128 ^ i=2 ^ (7*i):=by rw [Nat.pow_mul]
theorem take_snoc {s:Bs} {p i:Nat} {b:UInt8} (h:s[p+i]? = some b):(s.drop p).take (i+1)=(s.drop p).take i++[b]:=by
 rw [List.take_add_one,List.getElem?_drop,h];rfl
theorem sub_len {s:Bs} {p i:Nat} (h:p+i≤s.length):((s.drop p).take i).length=i:=by rw [lT,List.length_drop];omega
theorem pre_take (t:Bs) (i:Nat):t.take i <+: t:=List.take_prefix _ _
theorem grp_add {i:Nat} (hi:i<9) {z:Nat} (hz:z<128 ^ i) {d:Nat} (hd:d<128):z+d*128 ^ i<9223372036854775808:=by
 have h1:(d+1)*128 ^ i≤128*128 ^ i:=Nat.mul_le_mul_right _ (by omega)
 have h2:128*128 ^ i=128 ^ (i+1):=by rw [Nat.pow_succ,Nat.mul_comm]
 have h3:128 ^ (i+1)≤128 ^ 9:=Nat.pow_le_pow_right (by omega) (by omega)
 have h4:(128:Nat) ^ 9=9223372036854775808:=by decide
 rw [Nat.add_mul] at h1
 omega
theorem xorNeg (m:Nat) (hm:m<4611686018427387904) (o:Nat) (ho:o<2):bitM .xor .i64 (m:Int) (IntKind.wrap .i64 (negM (o:Int)))=if o=0 then (m:Int) else -(m:Int)-1:=by
 unfold negM
 rw [wrap_in (by omega) (by omega)]
 unfold bitM
 dsimp only
 have b1:(BitVec.ofInt IntKind.i64.bits (m:Int)).toNat=m % 18446744073709551616:=by rw [BitVec.ofInt_natCast];rfl
 rw [BitVec.toNat_xor,b1,Nat.mod_eq_of_lt (by omega)]
 by_cases h:o=0
 ·subst h
  rw [if_pos rfl,show (BitVec.ofInt IntKind.i64.bits (-((0:Nat):Int))).toNat=0 from rfl,Nat.xor_zero,wrap_in (by omega) (by omega)]
 ·have:o=1:=by omega
  subst this
  rw [if_neg (by omega),show (BitVec.ofInt IntKind.i64.bits (-((1:Nat):Int))).toNat=18446744073709551615 from rfl,xorAll64 (by omega),IntKind.wrap_i64]
  omega
theorem uz_eq (z:Nat):(if z % 2=0 then ((z / 2:Nat):Int) else -((z / 2:Nat):Int)-1)=uz z:=rfl
theorem wInt_ok {s:Bs} {p:Nat} (hp:p≤s.length) (hs:s.length≤1000000):Ans (m66 (s,(p:Int))) (IntR s p):=by
 unfold m66
 dsimp only
 rw [lenI,geI (by omega),geI (by omega),orF,cF]
 refine Ans.bind (P:=fun (o:Unit⊕Int×Int×Int)=>(o=.inl ()∧∀ n k,¬ IsI (s.drop p) n k)∨∃ r,o=.inr r∧IntR s p r) ?_ fun o ho=>?_
 ·refine Ans.loop (fun i z=>z=((gv ((s.drop p).take i):Int),(i:Int))∧i≤9∧p+i≤s.length∧∀ x∈(s.drop p).take i,128≤x.toNat) 9 ⟨by simp [gv],by omega,by omega,fun x hx=>by simp at hx⟩ ?_
  rintro i z hi ⟨rfl,h1,h2,h3⟩
  dsimp only
  by_cases h9:i=9
  ·rw [geI (by omega),cF]
   exact Ans.some (.inl ⟨rfl,isI_none h3 (.inl h9)⟩)
  rw [ltI (by omega),cT,wrap_in (n:=(p:Int)+(i:Int)) (by omega) (by omega),show (p:Int)+(i:Int)=((p+i:Nat):Int) by omega]
  by_cases hl:p+i<s.length
  ·obtain ⟨b,hb⟩:∃ b,s[p+i]? = some b:=⟨_,gE hl⟩
   have hbl:=u8lt b
   have hz:=gv_lt ((s.drop p).take i)
   rw [sub_len (by omega)] at hz
   have hlen:=sub_len (s:=s) (p:=p) (i:=i) (by omega)
   have hsn:=take_snoc hb
   have hadd:=grp_add (i:=i) (by omega) hz (show b.toNat % 128<128 by omega)
   have hgv:gv ((s.drop p).take (i+1))=gv ((s.drop p).take i)+b.toNat % 128*128 ^ i:=by rw [hsn,gv_snoc,hlen]
   have hlt2:b.toNat % 128*128 ^ i<9223372036854775808:=by omega
   rw [gtI (by omega),cF,byteM_of hb,oB,show (127:Int)=((127:Nat):Int) from rfl,and8 (by omega) (by omega),and127,wu64_in (n:=((b.toNat % 128:Nat):Int)) (by omega) (by omega),wrap_in (n:=7*(i:Int)) (by omega) (by omega),show 7*(i:Int)=((7*i:Nat):Int) by omega,shlM_of (k:=.u64) (by show 7*i≤64;omega),oB]
   have e1:IntKind.wrap .u64 (((b.toNat % 128:Nat):Int)*2 ^ (7*i))=((b.toNat % 128*128 ^ i:Nat):Int):=by
    rw [pow128,show (((b.toNat % 128:Nat):Int)*2 ^ (7*i))=((b.toNat % 128*2 ^ (7*i):Nat):Int) by rw [Int.natCast_mul,Int.natCast_pow];rfl]
    rw [pow128] at hlt2
    exact wu64_in (by omega) (by omega)
   have e2:bitM .or .u64 (gv ((s.drop p).take i):Int) ((b.toNat % 128*128 ^ i:Nat):Int)=(gv ((s.drop p).take (i+1)):Int):=by
    rw [or64 (by omega) (by omega),hgv,Nat.or_comm,pow128]
    rw [pow128] at hz
    have:=Nat.two_pow_add_eq_or_of_lt hz (b.toNat % 128)
    rw [Nat.mul_comm,← this,Nat.add_comm]
   rw [e1,e2]
   by_cases hc:128≤b.toNat
   ·rw [leI (by omega),cT,wrap_in (n:=(i:Int)+1) (by omega) (by omega)]
    refine Ans.some ⟨by omega,rfl,by omega,by omega,fun x hx=>?_⟩
    rw [hsn] at hx
    rcases List.mem_append.1 hx with q | q
    ·exact h3 x q
    ·rw [List.mem_singleton.1 q];exact hc
   ·have hsh:Sh ((s.drop p).take (i+1)) ((s.drop p).take i) b:=⟨hsn,h3,by omega⟩
    have hcan:=fun n k=>isI_canon (n:=n) (k:=k) hsh (pre_take _ _)
    have hZ:gv ((s.drop p).take (i+1))<9223372036854775808:=by rw [hgv];exact hadd
    have hlen1:((s.drop p).take (i+1)).length=i+1:=sub_len (by omega)
    have hc0:(s.drop p).take i=[]↔i=0:=by rw [← List.length_eq_zero_iff,hlen]
    generalize gv ((s.drop p).take (i+1))=Z at hcan hZ
    rw [gtI (by omega),cF,shrI (n:=1) (k:=.u64) Z 1 rfl (by decide),oB,show (1:Int)=((1:Nat):Int) from rfl,and64 (by omega) (by omega),and1,wrap_in (n:=((shr Z 1:Nat):Int)) (by show _≤((Z / 2:Nat):Int);omega) (by show ((Z / 2:Nat):Int)≤_;omega),wrap_in (n:=((Z % 2:Nat):Int)) (by omega) (by omega),show shr Z 1=Z / 2 from rfl,xorNeg (Z / 2) (by omega) (Z % 2) (by omega),uz_eq]
    have hub:uz Z≤4611686018427387903:=by unfold uz;split<;>omega
    by_cases hbad:(b.toNat=0∧0<i)∨uz Z < -4611686018427387903
    ·have:PE.orM (PE.andM (eqM (b.toNat:Int) 0) (ltM 0 (i:Int))) (ltM (uz Z) (-4611686018427387903))=true:=by
      unfold PE.orM PE.andM eqM ltM
      rw [← Bool.decide_and,← Bool.decide_or]
      exact dT (by omega)
     rw [this,cT]
     refine Ans.some (.inl ⟨rfl,fun n k h=>?_⟩)
     obtain ⟨g1,g2,g3,g4⟩:=(hcan n k).1 h
     rw [hc0] at g3
     unfold inR at g1
     omega
    ·have:PE.orM (PE.andM (eqM (b.toNat:Int) 0) (ltM 0 (i:Int))) (ltM (uz Z) (-4611686018427387903))=false:=by
      unfold PE.orM PE.andM eqM ltM
      rw [← Bool.decide_and,← Bool.decide_or]
      exact dF (by omega)
     rw [this,cF]
     have hin:IsI (s.drop p) (uz Z) (i+1):=(hcan _ _).2 ⟨by unfold inR;omega,rfl,by rw [hc0];omega,hlen1.symm⟩
     refine Ans.some (.inr ⟨_,rfl,fun n k h=>?_,fun h=>absurd hin (h _ _)⟩)
     obtain ⟨q1,q2⟩:=h.uniq hin
     rw [q1,q2,wrap_in (by omega) (by omega)]
     congr 1
  ·rw [leI (by omega),cT]
   exact Ans.some (.inl ⟨rfl,isI_none h3 (.inr (by rw [List.length_drop];omega))⟩)
 ·rcases ho with ⟨rfl,h⟩ | ⟨r,rfl,h⟩
  ·exact Ans.some ⟨fun n k q=>absurd q (h n k),fun _=>rfl⟩
  ·exact Ans.some h
theorem isS_of {t:Bs} {n:Int} {k:Nat} (h:IsI t n k) (h0:0≤n) (h1:n≤65536) (h2:k+n.toNat≤t.length):IsS t ((t.drop k).take n.toNat) (k+n.toNat):=by
 obtain ⟨hk,e⟩:=h.le
 obtain ⟨_,rfl,_⟩:=h
 have hl:((t.drop (pI n).length).take n.toNat).length=n.toNat:=by rw [lT,List.length_drop];omega
 have hl2:((((t.drop (pI n).length).take n.toNat).length:Nat):Int)=n:=by rw [hl];omega
 refine ⟨by omega,?_,?_⟩
 ·unfold pS
  rw [lA,hl2,hl]
 ·unfold pS
  rw [hl2]
  conv=>rhs;rw [e]
  exact List.prefix_append_right_inj _ |>.2 (List.take_prefix _ _)
theorem isI_of {t u:Bs} {k:Nat} (h:IsS t u k):IsI t u.length (k-u.length)∧u.length≤k∧(t.drop (k-u.length)).take u.length=u∧k≤t.length:=by
 obtain ⟨hk,e⟩:=h.le
 obtain ⟨h1,rfl,h3⟩:=h
 have hl:(pS u).length-u.length=(pI u.length).length:=by unfold pS;rw [lA];omega
 rw [hl]
 refine ⟨⟨inR_len h1,rfl,?_⟩,by unfold pS;rw [lA];omega,?_,hk⟩
 ·obtain ⟨x,hx⟩:=h3
  exact ⟨u++x,by rw [← hx];unfold pS;rw [aA]⟩
 ·rw [e]
  unfold pS
  rw [aA,List.drop_left,List.take_left]
theorem str_ok {s:Bs} {p:Nat} (hp:p≤s.length) (hs:s.length≤1000000) {r:Int×Int×Int} (hr:IntR s p r) :
  Ans (bif PE.notM (eqM r.2.2 0) then some ([],0,r.2.2) else bif PE.orM (PE.orM (ltM r.1 0) (ltM 65536 r.1)) (ltM (IntKind.wrap .i64 (lenM s-r.2.1)) r.1) then some ([],0,10) else (sliceM s r.2.1 (IntKind.wrap .i64 (r.2.1+r.1))).bind fun r_1=>some (r_1,IntKind.wrap .i64 (r.2.1+r.1),0)) (StrR s p):=by
 rcases hr.cases with ⟨n,k,h,rfl⟩ | ⟨h,rfl⟩
 ·dsimp only
  have hk:=h.le.1
  have hn:=h.1
  unfold inR at hn
  rw [List.length_drop] at hk
  rw [eqI rfl,notT,cF,lenI,wrap_in (n:=(s.length:Int)-((p+k:Nat):Int)) (by omega) (by omega)]
  by_cases hb:(n<0∨65536<n)∨(s.length:Int)-((p+k:Nat):Int)<n
  ·have:PE.orM (PE.orM (ltM n 0) (ltM 65536 n)) (ltM ((s.length:Int)-((p+k:Nat):Int)) n)=true:=by
    unfold PE.orM ltM
    rw [← Bool.decide_or,← Bool.decide_or];exact dT hb
   rw [this,cT]
   refine Ans.some ⟨fun u j g=>?_,fun _=>rfl⟩
   obtain ⟨g1,g2,g3,g4⟩:=isI_of g
   obtain ⟨q1,q2⟩:=g1.uniq h
   have:=g.1
   rw [List.length_drop] at g4
   omega
  ·have:PE.orM (PE.orM (ltM n 0) (ltM 65536 n)) (ltM ((s.length:Int)-((p+k:Nat):Int)) n)=false:=by
    unfold PE.orM ltM
    rw [← Bool.decide_or,← Bool.decide_or];exact dF hb
   have hS:=isS_of h (by omega) (by omega) (by rw [List.length_drop];omega)
   rw [this,cF,wrap_in (by omega) (by omega),sliceM_of (by omega) (by omega) (by omega),oB]
   have e:((s.take (((p+k:Nat):Int)+n).toNat).drop ((p+k:Nat):Int).toNat)=((s.drop p).drop k).take n.toNat:=by
    rw [List.drop_take,List.drop_drop,show (((p+k:Nat):Int)+n).toNat-((p+k:Nat):Int).toNat=n.toNat by omega,Int.toNat_natCast]
   rw [e]
   refine Ans.some ⟨fun u j g=>?_,fun g=>absurd hS (g _ _)⟩
   obtain ⟨q1,q2⟩:=g.uniq hS
   rw [q1,q2]
   congr 2
   omega
 ·dsimp only
  rw [neI (by decide),notF,cT]
  refine Ans.some ⟨fun u j g=>absurd (isI_of g).1 (h _ _),fun _=>rfl⟩
theorem wStr_ok {s:Bs} {p:Nat} (hp:p≤s.length) (hs:s.length≤1000000):Ans (m58 (s,(p:Int))) (StrR s p):=by
 unfold m58
 dsimp only
 exact Ans.bind (wInt_ok hp hs) fun r hr=>str_ok hp hs hr
variable [EA]
end Go.Proofs.YtobfnefajpiakaaDoor
namespace Go.Ar
def h0:Bs:=List.replicate 32 0
def sto (h r:Bs):Bs:=1::(pS r++chain h r)
def hd (h:Bs) (l:List Bs):Bs:=l.foldl chain h
def enc:Bs→List Bs→Bs
 | _,[]=>[]
 | h,r::l=>sto h r++enc (chain h r) l
def OkL (l:List Bs):Prop:=∀ r∈l,r.length≤65536
theorem chain_len (h r:Bs):(chain h r).length=32:=sha_len _
theorem h0_len:h0.length=32:=by decide
theorem hd_len {h:Bs} (hh:h.length=32):∀ l:List Bs,(hd h l).length=32
 | []=>hh
 | r::l=>hd_len (chain_len h r) l
theorem hd_app (h:Bs) (l m:List Bs):hd h (l++m)=hd (hd h l) m:=List.foldl_append
theorem hd_snoc (h:Bs) (l:List Bs) (r:Bs):hd h (l++[r])=chain (hd h l) r:=hd_app h l [r]
theorem enc_app:∀ (h:Bs) (l m:List Bs),enc h (l++m)=enc h l++enc (hd h l) m
 | _,[],_=>rfl
 | h,r::l,m=>by
  show sto h r++enc (chain h r) (l++m)=(sto h r++enc (chain h r) l)++enc (hd (chain h r) l) m
  rw [enc_app,aA]
theorem enc_snoc (h:Bs) (l:List Bs) (r:Bs):enc h (l++[r])=enc h l++sto (hd h l) r:=by
 rw [enc_app]
 show _++(sto (hd h l) r++[])=_
 rw [List.append_nil]
theorem sto_len (h r:Bs):(sto h r).length=(pS r).length+33:=by
 unfold sto
 rw [List.length_cons,lA,chain_len]
theorem enc_nil {h:Bs} {l:List Bs}:enc h l=[]↔l=[]:=by
 cases l with
 | nil=>exact ⟨fun _=>rfl,fun _=>rfl⟩
 | cons r l=>exact ⟨fun e=>by have:=congrArg List.length e;simp [enc,sto_len] at this,fun e=>by cases e⟩
theorem enc_head {h:Bs}:∀ {l:List Bs},l≠[]→∃ t,enc h l=1::t
 | [],e=>absurd rfl e
 | r::l,_=>⟨_,rfl⟩
def Stop (z:Bs):Prop:=∀ b,z.head? = some b→b=0
def Bad (h z:Bs):Prop:=(∃ b,z.head? = some b∧b≠0)∧∀ r:Bs,r.length≤65536→¬ sto h r <+: z
theorem Stop.bad {h z:Bs} (s:Stop z) (b:Bad h z):False:=by
 obtain ⟨⟨c,h1,h2⟩,_⟩:=b
 exact h2 (s c h1)
theorem stop_sto {h r z:Bs} (s:Stop (sto h r++z)):False:=by
 have:=s 1 rfl
 cases this
theorem sto_pre {h a b x y:Bs} (e:sto h a++x=sto h b++y):a=b∧x=y:=by
 unfold sto at e
 simp only [List.cons_append,aA,List.cons.injEq,true_and] at e
 obtain ⟨h1,h2⟩:=pS_pre e
 subst h1
 exact ⟨rfl,List.append_cancel_left h2⟩
theorem enc_uniq:∀ {h:Bs} {l l':List Bs} {z z':Bs},OkL l→OkL l'→enc h l++z=enc h l'++z'→Stop z∨Bad (hd h l) z→Stop z'∨Bad (hd h l') z'→l=l'∧z=z'
 | h,[],[],z,z',_,_,e,_,_=>⟨rfl,e⟩
 | h,[],r::l',z,z',_,o,e,s,_=>by
  exfalso
  have e:z=sto h r++(enc (chain h r) l'++z'):=by rw [← aA];exact e
  rcases s with s | s
  ·exact stop_sto (e▸s)
  ·exact s.2 r (o r (by simp)) ⟨_,e.symm⟩
 | h,r::l,[],z,z',o,_,e,_,s=>by
  exfalso
  have e:z'=sto h r++(enc (chain h r) l++z):=by rw [← aA];exact e.symm
  rcases s with s | s
  ·exact stop_sto (e▸s)
  ·exact s.2 r (o r (by simp)) ⟨_,e.symm⟩
 | h,r::l,r'::l',z,z',o,o',e,s,s'=>by
  have e:sto h r++(enc (chain h r) l++z)=sto h r'++(enc (chain h r') l'++z'):=by rw [← aA,← aA];exact e
  obtain ⟨rfl,e2⟩:=sto_pre e
  obtain ⟨rfl,rfl⟩:=enc_uniq (fun x hx=>o x (by simp [hx])) (fun x hx=>o' x (by simp [hx])) e2 s s'
  exact ⟨rfl,rfl⟩
def Rd (h t:Bs) (l:List Bs) (z:Bs):Prop:=OkL l∧t=enc h l++z∧(Stop z∨Bad (hd h l) z)
theorem Rd.uniq {h t:Bs} {l l':List Bs} {z z':Bs} (a:Rd h t l z) (b:Rd h t l' z'):l=l'∧z=z':=enc_uniq a.1 b.1 (a.2.1.symm.trans b.2.1) a.2.2 b.2.2
theorem stop_zeros (n:Nat):Stop (List.replicate n 0):=fun b h=>by
 cases n with
 | zero=>cases h
 | succ n=>exact (Option.some.inj h).symm
theorem stop_cons (z:Bs):Stop (0::z):=fun b h=>(Option.some.inj h).symm
theorem OkL.app {l m:List Bs} (h:OkL l) (h':OkL m):OkL (l++m):=fun x hx=>by
 rcases List.mem_append.1 hx with hx | hx
 ·exact h x hx
 ·exact h' x hx
theorem enc_le {h:Bs}:∀ (l:List Bs),l.length≤(enc h l).length
 | []=>nR 0
 | r::l=>by
  show l.length+1≤(sto h r++enc (chain h r) l).length
  have:=enc_le (h:=chain h r) l
  rw [lA,sto_len]
  omega
end Go.Ar
namespace Go.Proofs.YtobfnefajpiakaaDoor
open Go Go.Lib Go.Abs Go.PE Go.Ar
variable [EA]
theorem join_two (a b:Bs):Lib.join [a,b] []=a++b:=by rw [join_cons];simp [joinTail]
theorem wChain_ok {a b:Bs} (h:a.length+b.length≤800000):m53 (a,b)=some (chain a b):=by
 unfold m53 joinM
 dsimp only
 rw [join_two,dT (by rw [lA];omega),dT (by simp)]
 dsimp only
 rw [oB,catM_of (by simp;omega),oB,wSum_ok (by simp;omega)]
 rfl
theorem strB_zero (n:Nat):strB (List.replicate n 0)=List.replicate n 0:=by unfold strB;rw [List.map_replicate];rfl
theorem nB_zero (n:Nat):List.replicate n (0:Int)=nB (List.replicate n 0):=by unfold nB;rw [List.map_replicate];rfl
abbrev Dk:Type:=Bool×Int×List Int×List Int×List (Int×Bs)
def dk (o:Bool) (L:Int) (du vi:Bs) (pd:List (Int×Bs)):Dk:=(o,L,nB du,nB vi,pd)
def usd (L:Int):Bool×Int:=if L=0 then (false,0) else (decide (L-1=0),L-1)
def spl (b:Bs) (p:Nat) (s:Bs):Bs:=b.take p++(s++b.drop (p+s.length))
theorem spl_len {b:Bs} {p:Nat} {s:Bs} (h:p+s.length≤b.length):(spl b p s).length=b.length:=by
 unfold spl
 simp only [lA,lT,List.length_drop]
 omega
variable {o:Bool} {L:Int} {du vi:Bs} {pd:List (Int×Bs)}
theorem lenN (s:Bs):lenM (nB s)=(s.length:Int):=by rw [lenI,nB_len]
theorem size_ok:m21 (false,dk o L du vi pd)=some (du.length:Int):=by
 unfold m21 dk
 dsimp only [nonM,oB]
 rw [lenN]
theorem new_ok {n:Int} (h1:1≤n) (h2:n≤10000):m6 n=some (0,false,dk false 0 (List.replicate n.toNat 0) (List.replicate n.toNat 0) []):=by
 unfold m6 dk
 rw [geI (by omega),geI (by omega),orF,cF,mkM_of (by omega) (by omega) (by show n*1≤_;omega),oB,oB,nB_zero]
theorem ins_ok {p k n:Nat} (h:p+k≤n) (hn:n≤10000000):PE.notM (PE.andM (PE.andM (PE.andM (leM 0 (p:Int)) (leM 0 (k:Int))) (leM (p:Int) (n:Int))) (leM (k:Int) (IntKind.wrap .i64 ((n:Int)-(p:Int)))))=false:=by
 rw [wrap_in (by omega) (by omega),leI (by omega),leI (by omega),leI (by omega),leI (by omega)]
 rfl
theorem read_ok (h0:0<du.length) (hv:vi.length=du.length) (hn:du.length≤1000000):m20 (0,(du.length:Int),false,dk false L du vi pd)=some (vi,0):=by
 unfold m20 dk
 dsimp only [nonM,oB,cF]
 have hi:=ins_ok (p:=0) (k:=du.length) (n:=du.length) (by omega) (by omega)
 rw [show ((0:Nat):Int)=0 from rfl] at hi
 rw [eqI rfl,notT,cF,lenN,lenN,hi,cF,chkM_of (by omega) (by omega),oB,chkM_of (by omega) (by omega),oB]
 have:partV (nB vi) (0:Int).toNat (du.length:Int).toNat=nB vi:=by
  unfold partV
  rw [Int.toNat_natCast,show (0:Int).toNat=0 from rfl,List.drop_zero,← hv,← nB_len,List.take_length]
 rw [this,strB_nB]
theorem put_ok {b s:Bs} {p:Nat} (h:p+s.length≤b.length):putM (nB b) (p:Int) (byteI s)=some (nB (spl b p s)):=by
 unfold putM
 have h2:byteI s=nB s:=rfl
 rw [h2,dT (by omega),dT (by rw [nB_len,nB_len];omega)]
 dsimp only
 unfold spl
 rw [nB_app,nB_app,Int.toNat_natCast,nB_len]
 unfold nB
 rw [← List.map_take,← List.map_drop]
theorem write_ok {s:Bs} {p:Nat} (h1:p<du.length) (h:p+s.length≤du.length) (hv:vi.length=du.length) (hn:du.length≤1000000) (hp:pd.length≤1000) (hL:0≤L∧L≤1000) :
  m19 ((p:Int),s,false,dk false L du vi pd)=some (0,(usd L).1,(usd L).2,nB (spl vi p s),pd++[((p:Int),s)]):=by
 unfold m19 dk
 dsimp only [nonM,oB,cF]
 rw [eqI rfl,notT,cF,lenN,lenN,lenI,ins_ok (by omega) (by omega),cF,appM_of (by show (pd.length+1)*24≤_;omega),oB,chkM_of (by omega) (by omega)]
 by_cases h0:p+s.length≤vi.length
 ·rw [oB,put_ok h0,oB]
  unfold usd
  by_cases hz:L=0
  ·rw [eqI hz,cT,if_pos hz,oB,hz]
  ·rw [neI hz,cF,if_neg hz,oB,wrap_in (by omega) (by omega)]
   try rfl
 ·omega
theorem write_off {p:Int} {s:Bs}:m19 (p,s,false,dk true L du vi pd)=some (361,true,L,nB vi,pd):=by
 unfold m19 dk
 dsimp only [nonM,oB,cT]
 rw [neI (by decide),notF,cT]
theorem copy_eq {a b:Bs} (h:a.length=b.length):copyM (nB a) (nB b)=nB b:=by
 unfold copyM
 rw [nB_len,h,← nB_len b,List.take_length,List.drop_eq_nil_of_le (by rw [nB_len,nB_len];omega),List.append_nil]
theorem clear_ok {α:Type} (xs:List α) (d:α):sliceM (zerosL xs d) 0 0=some []:=by
 rw [sliceM_of (by omega) (by omega) (by omega)];rfl
theorem sync_ok (hv:vi.length=du.length):m26 (false,dk false L du vi pd)=some (0,false,L,nB vi,[]):=by
 unfold m26 dk
 dsimp only [nonM,oB,cF]
 rw [eqI rfl,cT,clear_ok,oB,oB,copy_eq hv.symm]
theorem sync_off:m26 (false,dk true L du vi pd)=some (361,true,L,nB du,pd):=by
 unfold m26 dk
 dsimp only [nonM,oB,cT]
 rw [neI (by decide),cF,oB]
theorem cut_ok {c:Int} (h:0≤c):m15 (c,false,dk false L du vi pd)=some (0,decide (c=0),c):=by
 unfold m15 dk
 dsimp only [nonM,oB,cF]
 rw [eqI rfl,notT,cF,geI h,cF]
 try rfl
variable [EA]
theorem sto_isS {h r t:Bs} (hr:r.length≤65536) (hp:sto h r <+: 1::t):IsS t r (pS r).length∧(1::t:Bs).take ((pS r).length+33)=sto h r∧(pS r).length+33≤(1::t:Bs).length:=by
 obtain ⟨z,hz⟩:=hp
 have hl:=sto_len h r
 refine ⟨⟨hr,rfl,chain h r++z,?_⟩,?_,?_⟩
 ·have:(1:UInt8)::(pS r++(chain h r++z))=1::t:=by rw [← hz];simp [sto]
  exact (List.cons.inj this).2
 ·rw [← hz,← hl,List.take_left'];rfl
 ·rw [← hz,lA];omega
theorem bad_none {h t:Bs} (hn:∀ u k,¬ IsS t u k):Bad h (1::t):=⟨⟨1,rfl,by decide⟩,fun r hr hp=>hn _ _ (sto_isS hr hp).1⟩
theorem bad_one {h t u:Bs} {k:Nat} (hu:IsS t u k) (hn:¬ sto h u <+: 1::t):Bad h (1::t):=⟨⟨1,rfl,by decide⟩,fun r hr hp=>by
 obtain ⟨rfl,_⟩:=hu.uniq (sto_isS hr hp).1
 exact hn hp⟩
theorem bad_byte {h t:Bs} {b:UInt8} (h0:b≠0) (h1:b≠1):Bad h (b::t):=⟨⟨b,rfl,h0⟩,fun r _ hp=>by
 obtain ⟨z,hz⟩:=hp
 exact h1 (List.cons.inj hz).1.symm⟩
def LdQ (s:Bs) (o:(Bs×Int×Bool×List Bs)⊕(Bs×Int×Bool×List Bs)):Prop:=∃ l z,Rd h0 s l z∧((Stop z∧o=.inl (hd h0 l,((enc h0 l).length:Int),false,l))∨(Bad (hd h0 l) z∧∃ y,o=.inr y))
theorem via_loop {β γ:Type} {o:Option β} {f:β→Option γ} {Q:β→Prop} (h:Ans o Q):∃ x,Q x∧Option.bind o f=f x:=by
 obtain ⟨x,h1,h2⟩:=h
 exact ⟨x,h2,by rw [h1];rfl⟩
theorem load_ok {s:Bs} (hs:s.length≤100000) (d:Dk):∃ l z,Rd h0 s l z∧((Stop z∧m22 (s,false,d)=some (0,false,hd h0 l,((enc h0 l).length:Int),false,l))∨(Bad (hd h0 l) z∧m22 (s,false,d)=some (372,true,[],0,false,[]))):=by
 suffices h:∃ o,LdQ s o∧m22 (s,false,d)=Sum.elim (fun (t:List UInt8×Int×Bool×List (List UInt8))=>some (0,false,t.1,t.2.1,t.2.2.1,t.2.2.2)) (fun (t:List UInt8×Int×Bool×List (List UInt8))=>some (372,true,[],0,false,[])) o by
  obtain ⟨o,⟨l,z,h1,h2⟩,h3⟩:=h
  refine ⟨l,z,h1,?_⟩
  rcases h2 with ⟨h2,rfl⟩ | ⟨h2,y,rfl⟩
  ·exact .inl ⟨h2,h3⟩
  ·exact .inr ⟨h2,h3⟩
 unfold m22
 dsimp only [nonM,oB]
 rw [mkM_of (by omega) (by omega) (by decide),oB,show (32:Int).toNat=32 from rfl,strB_zero]
 refine via_loop ?_
 refine Ans.loop (fun k st=>∃ l t,OkL l∧s=enc h0 l++t∧st=(hd h0 l,((enc h0 l).length:Int),false,l)∧l.length=k) s.length ⟨[],s,(fun r hr=>by simp at hr),rfl,rfl,rfl⟩ ?_
 rintro k st hk ⟨l,t,hl,hst,rfl,hlk⟩
 have hsl:s.length=(enc h0 l).length+t.length:=by rw [hst,lA]
 have hle:=enc_le (h:=h0) l
 have hdr:s.drop (enc h0 l).length=t:=by rw [hst,List.drop_left'];rfl
 dsimp only
 rw [lenI]
 cases t with
 | nil =>
  rw [geI (by simp at hsl;omega),cF,oB,andF,cF]
  exact Ans.some ⟨l,[],⟨hl,hst,.inl fun b hb=>by cases hb⟩,.inl ⟨fun b hb=>(by cases hb),rfl⟩⟩
 | cons b t =>
  simp only [List.length_cons] at hsl
  have hb:s[(enc h0 l).length]? = some b:=by
   have:=congrArg (fun x:Bs=>x[0]?) hdr
   simpa using this
  rw [ltI (by omega),cT,byteM_of hb,oB,andT]
  by_cases hb0:b=0
  ·subst hb0
   rw [show eqM ((0:UInt8).toNat:Int) 0=true from rfl,notT,cF]
   exact Ans.some ⟨l,_,⟨hl,hst,.inl (stop_cons t)⟩,.inl ⟨stop_cons t,rfl⟩⟩
  have hb0':(b.toNat:Int)≠0:=fun e=>hb0 (u8eq (show b.toNat=(0:UInt8).toNat by rw [show (0:UInt8).toNat=0 from rfl];omega))
  rw [neI hb0',notF,cT,oB]
  by_cases hb1:b=1
  ·subst hb1
   have hdr1:s.drop ((enc h0 l).length+1)=t:=by rw [← List.drop_drop,hdr];rfl
   rw [show eqM ((1:UInt8).toNat:Int) 1=true from rfl,notT,cF,wrap_in (by omega) (by omega)]
   obtain ⟨r3,e3,q3⟩:=wStr_ok (s:=s) (p:=(enc h0 l).length+1) (by omega) (by omega)
   rw [show (((enc h0 l).length:Int)+1)=(((enc h0 l).length+1:Nat):Int) by omega,e3,oB]
   rcases q3.cases with ⟨u,k2,hu,rfl⟩ | ⟨hu,rfl⟩
   ·rw [hdr1] at hu
    have hkt:=hu.le.1
    dsimp only
    have bad:(¬ sto (hd h0 l) u <+: 1::t)→LdQ s (.inr (hd h0 l,((enc h0 l).length:Int),false,l)):=fun hn=>⟨l,_,⟨hl,hst,.inr (bad_one hu hn)⟩,.inr ⟨bad_one hu hn,_,rfl⟩⟩
    by_cases hfit:(enc h0 l).length+1+k2+32≤s.length
    ·rw [eqI rfl,andT,wrap_in (by omega) (by omega),leI (by omega),notT,cF]
     have hk2:=hu.2.1
     have hu1:=hu.1
     have hps:=pS_len hu1
     have hhd:=hd_len h0_len l
     rw [wChain_ok (by omega),oB,appM_of (by show (l.length+1)*16≤_;omega),oB,wPutS_ok hu1,oB]
     dsimp only
     rw [catM_of (by rw [show strB [1]=([1]:Bs) from rfl];simp;omega),oB,catM_of (by rw [show strB [1]=([1]:Bs) from rfl];simp [chain_len];omega),oB]
     have hout:(strB [1]++pS u)++chain (hd h0 l) u=sto (hd h0 l) u:=rfl
     rw [hout,oB]
     dsimp only
     rw [sliceM_of (by omega) (by omega) (by omega),oB]
     have hsl2:(s.take (((((enc h0 l).length+1+k2:Nat):Int)+32).toNat)).drop (((enc h0 l).length:Int).toNat)=(1::t:Bs).take (k2+33):=by
      rw [List.drop_take,show ((enc h0 l).length:Int).toNat=(enc h0 l).length by omega,hdr]
      congr 1
      omega
     rw [hsl2]
     by_cases heq:sto (hd h0 l) u=(1::t:Bs).take (k2+33)
     ·rw [eqsT heq,notT,cF]
      have hlen:=congrArg List.length heq
      rw [sto_len,lT,List.length_cons] at hlen
      refine Ans.some ⟨by omega,l++[u],(1::t:Bs).drop (k2+33),hl.app fun x hx=>?_,?_,?_,?_⟩
      ·simp at hx;subst hx;exact hu1
      ·rw [enc_snoc,aA,heq,List.take_append_drop];exact hst
      ·rw [hd_snoc,enc_snoc,lA,lenI,wrap_in (by rw [sto_len];omega) (by rw [sto_len];omega)]
       refine Prod.ext rfl (Prod.ext ?_ rfl)
       exact (Int.natCast_add _ _).symm
      ·rw [lA];simp;omega
     ·rw [eqsF heq,notF,cT]
      refine Ans.some ⟨l,_,⟨hl,hst,.inr (bad_one hu fun hp=>?_)⟩,.inr ⟨bad_one hu fun hp=>?_,_,rfl⟩⟩
      all_goals
       obtain ⟨_,h2,_⟩:=sto_isS hu1 hp
       exact heq (by rw [hk2];exact h2.symm)
    ·rw [eqI rfl,andT,wrap_in (by omega) (by omega),gtI (by omega),notF,cT]
     refine Ans.some (bad fun hp=>?_)
     obtain ⟨h1,_,h2⟩:=sto_isS hu.1 hp
     have:=hu.2.1
     simp only [List.length_cons] at h2
     omega
   ·rw [hdr1] at hu
    rw [neI (by decide),andF,notF,cT]
    exact Ans.some ⟨l,_,⟨hl,hst,.inr (bad_none hu)⟩,.inr ⟨bad_none hu,_,rfl⟩⟩
  ·have hb1':(b.toNat:Int)≠1:=fun e=>hb1 (u8eq (show b.toNat=(1:UInt8).toNat by rw [show (1:UInt8).toNat=1 from rfl];omega))
   rw [neI hb1',notF,cT]
   exact Ans.some ⟨l,_,⟨hl,hst,.inr (bad_byte hb0 hb1)⟩,.inr ⟨bad_byte hb0 hb1,_,rfl⟩⟩
variable [EA]
def Zs (z:Bs):Prop:=z=List.replicate z.length 0
theorem zs_all {z:Bs} (h:∀ b∈z,b=0):Zs z:=List.eq_replicate_iff.2 ⟨rfl,h⟩
theorem Zs.mem {z:Bs} (h:Zs z):∀ b∈z,b=0:=(List.eq_replicate_iff.1 h).2
theorem mem_drop {p:UInt8→Bool} {b:UInt8} (hb:p b=false):∀ {l:Bs},b∈l→b∈l.dropWhile p
 | a::l,h=>by
  rw [List.dropWhile_cons]
  split
  ·rename_i ha
   rcases List.mem_cons.1 h with rfl | h
   ·rw [hb] at ha;cases ha
   ·exact mem_drop hb h
  ·exact h
theorem drop_all {p:UInt8→Bool}:∀ {l:Bs},(∀ b∈l,p b=true)→l.dropWhile p=[]
 | [],_=>rfl
 | a::l,h=>by
  rw [List.dropWhile_cons,if_pos (h a (by simp))]
  exact drop_all fun b hb=>h b (by simp [hb])
theorem trim_ok (z:Bs):∃ r,trimM z [(0:UInt8)]=some r∧(r=[]↔Zs z):=by
 refine ⟨Lib.trimS z [0],rfl,fun h=>zs_all fun b hb=>?_,fun h=>?_⟩
 ·apply Classical.byContradiction
  intro h0
  have hp:(([0]:List UInt8).contains b)=false:=by simp [h0]
  have h1:b∈Lib.trimS z [0]:=by
   unfold Lib.trimS Lib.trimLeftS Lib.trimRightS
   exact mem_drop hp (List.mem_reverse.2 (mem_drop hp (List.mem_reverse.2 hb)))
  rw [h] at h1
  cases h1
 ·unfold Lib.trimS Lib.trimLeftS Lib.trimRightS
  have h1:z.reverse.dropWhile (([0]:List UInt8).contains ·)=[]:=drop_all fun b hb=>by simp [h.mem b (List.mem_reverse.1 hb)]
  rw [h1]
  rfl
variable {L:Int} {du vi:Bs} {pd:List (Int×Bs)}
theorem spl_end {a z s:Bs} (h:s.length=z.length):spl (a++z) a.length s=a++s:=by
 unfold spl
 rw [List.take_left' rfl,h,List.drop_eq_nil_of_le (by simp),List.append_nil]
theorem open_ok (h0:0<du.length) (hv:vi.length=du.length) (hn:du.length≤100000) (hp:pd.length≤1000) (hL:0≤L∧L≤1000):∃ l z,Rd Ar.h0 vi l z ∧
  ((Bad (hd Ar.h0 l) z∧m8 (false,dk false L du vi pd)=some (372,false,L,nB du,nB vi,true,[],0,false,[],pd)) ∨
  (Stop z∧Zs z∧m8 (false,dk false L du vi pd)=some (0,false,L,nB du,nB vi,false,hd Ar.h0 l,((enc Ar.h0 l).length:Int),false,l,pd)) ∨
  (Stop z∧¬ Zs z∧(usd L).1=true∧m8 (false,dk false L du vi pd)=some (361,true,(usd L).2,nB du,nB (enc Ar.h0 l++List.replicate z.length 0),true,[],0,false,[],pd++[(((enc Ar.h0 l).length:Int),List.replicate z.length 0)])) ∨
  (Stop z∧¬ Zs z∧(usd L).1=false∧m8 (false,dk false L du vi pd)=some (0,false,(usd L).2,nB (enc Ar.h0 l++List.replicate z.length 0),nB (enc Ar.h0 l++List.replicate z.length 0),false,hd Ar.h0 l,((enc Ar.h0 l).length:Int),false,l,[]))):=by
 obtain ⟨l,z,hr,hm⟩:=load_ok (s:=vi) (by omega) (dk false L du vi pd)
 refine ⟨l,z,hr,?_⟩
 unfold m8
 rw [show (false,dk false L du vi pd)=(false,false,L,nB du,nB vi,pd) from rfl]
 dsimp only [nonM,oB]
 rw [show (false,false,L,nB du,nB vi,pd)=(false,dk false L du vi pd) from rfl,size_ok,oB,read_ok h0 hv (by omega),oB]
 dsimp only
 rw [eqI rfl,notT,cF]
 rcases hm with ⟨hs,hm⟩ | ⟨hb,hm⟩
 ·rw [hm,oB]
  have hvl:vi.length=(enc Ar.h0 l).length+z.length:=by rw [hr.2.1,lA]
  dsimp only [nonM,oB]
  have hsl:sliceM vi ((enc Ar.h0 l).length:Int) (lenM vi)=some z:=by
   rw [lenI,sliceM_of (by omega) (by omega) (by omega),Int.toNat_natCast,Int.toNat_natCast,List.take_length,hr.2.1,List.drop_left' rfl]
  rw [eqI rfl,notT,cF,hsl,oB]
  obtain ⟨r6,h6,h6'⟩:=trim_ok z
  rw [h6,oB]
  by_cases hz:Zs z
  ·refine .inr (.inl ⟨hs,hz,?_⟩)
   rw [eqsT (h6'.2 hz),notT,cF,oB]
   dsimp only
   rw [eqI rfl,notT,cF]
  ·have hzl:0<z.length:=by
    cases z with
    | nil=>exact absurd rfl hz
    | cons _ _=>simp
   rw [eqsF (fun e=>hz (h6'.1 e)),notF,cT,lenI,wrap_in (by omega) (by omega),mkM_of (by omega) (by omega) (by show _*1≤_;omega),oB,show ((vi.length:Int)-((enc Ar.h0 l).length:Int)).toNat=z.length by omega,strB_zero]
   have hw:=write_ok (L:=L) (du:=du) (vi:=vi) (pd:=pd) (s:=List.replicate z.length 0) (p:=(enc Ar.h0 l).length) (by omega) (by rw [List.length_replicate];omega) hv (by omega) hp hL
   rw [hw,oB]
   dsimp only
   rw [eqI rfl,notT,cF]
   have hspl:spl vi (enc Ar.h0 l).length (List.replicate z.length 0)=enc Ar.h0 l++List.replicate z.length 0:=by
    rw [hr.2.1];exact spl_end (by simp)
   rw [hspl]
   cases hu:(usd L).1 with
   | true =>
    refine .inr (.inr (.inl ⟨hs,hz,rfl,?_⟩))
    rw [show (false,true,(usd L).2,nB du,nB (enc Ar.h0 l++List.replicate z.length 0),pd++[(((enc Ar.h0 l).length:Int),(List.replicate z.length 0:Bs))])=(false,dk true (usd L).2 du (enc Ar.h0 l++List.replicate z.length 0) (pd++[(((enc Ar.h0 l).length:Int),(List.replicate z.length 0:Bs))])) from rfl,sync_off,oB]
    dsimp only
    rw [neI (by decide),notF,cT,oB]
    dsimp only
    rw [oB]
    dsimp only
    rw [neI (by decide),notF,cT]
   | false =>
    refine .inr (.inr (.inr ⟨hs,hz,rfl,?_⟩))
    rw [show (false,false,(usd L).2,nB du,nB (enc Ar.h0 l++List.replicate z.length 0),pd++[(((enc Ar.h0 l).length:Int),(List.replicate z.length 0:Bs))])=(false,dk false (usd L).2 du (enc Ar.h0 l++List.replicate z.length 0) (pd++[(((enc Ar.h0 l).length:Int),(List.replicate z.length 0:Bs))])) from rfl,sync_ok (by rw [lA,List.length_replicate];omega),oB]
    dsimp only
    rw [eqI rfl,notT,cF,oB]
    dsimp only
    rw [oB]
    dsimp only
    rw [eqI rfl,notT,cF]
 ·refine .inl ⟨hb,?_⟩
  rw [hm,oB]
  dsimp only
  rw [neI (by decide),notF,cT]
variable [EA]
variable {o:Bool} {L:Int} {du vi:Bs} {pd:List (Int×Bs)} {hh:Bs} {p:Nat} {br:Bool} {recs l:List Bs}
theorem both_self {α:Type} (a:Option α):PE.bothM a a=a:=by
 unfold PE.bothM
 split
 ·rfl
 ·rename_i h _
  exact absurd rfl h
theorem clone_ok {l:List Bs} (h:l.length≤1000000):mo30 l=some l:=by
 unfold mo30 nilM
 cases l with
 | nil =>
  show PE.bothM _ (Option.bind (appM _ [] []) _)=_
  rw [appM_of (by show (0+0)*16≤_;omega)]
  exact both_self (some [])
 | cons a l =>
  show (Option.bind (appM _ [] (a::l)) _)=_
  rw [appM_of (by show (0+(a::l).length)*16≤_;omega)]
  rfl
theorem room_ok (hp:p≤du.length) (hn:du.length≤100000):m12 (false,hh,(p:Int),br,recs,false,dk o L du vi pd)=some (((du.length-p:Nat):Int),dk o L du vi pd):=by
 unfold m12 dk
 dsimp only [nonM,oB]
 rw [show (false,o,L,nB du,nB vi,pd)=(false,dk o L du vi pd) from rfl,size_ok,oB,wrap_in (by omega) (by omega),show (du.length:Int)-(p:Int)=((du.length-p:Nat):Int) by omega]
theorem recs_ok (h:recs.length≤1000000) {n:Int}:m13 (false,hh,n,br,recs,false,dk o L du vi pd)=some recs:=by
 unfold m13
 dsimp only [nonM,oB]
 rw [clone_ok h,oB]
theorem app_broken:m11 (l,false,hh,(p:Int),true,recs,false,dk o L du vi pd)=some (370,false,hh,(p:Int),true,o,L,nB du,nB vi,recs,pd):=by
 unfold m11 dk
 dsimp only [nonM,oB]
 rw [cF,notT,cF,oB,orT,cT]
def apd (o:Bool) (L:Int) (du vi:Bs) (pd:List (Int×Bs)) (p:Nat) (out:Bs):Int×Bool×Int×Bs×Bs×List (Int×Bs) :=
 if o then (361,true,L,du,vi,pd) else
 if (usd L).1 then (361,true,(usd L).2,du,spl vi (p+1) out.tail,pd++[(((p+1:Nat):Int),out.tail)]) else
 if (usd (usd L).2).1 then (361,true,(usd (usd L).2).2,spl vi (p+1) out.tail,spl (spl vi (p+1) out.tail) p [1],[((p:Int),[1])]) else
 (0,false,(usd (usd L).2).2,spl (spl vi (p+1) out.tail) p [1],spl (spl vi (p+1) out.tail) p [1],[])
theorem enc_step {h:Bs} {l:List Bs} {k:Nat} (hk:k<l.length):enc h (l.take (k+1))=enc h (l.take k)++sto (hd h (l.take k)) l[k]∧hd h (l.take (k+1))=chain (hd h (l.take k)) l[k]:=by
 rw [List.take_succ_eq_append_getElem hk,enc_snoc,hd_snoc]
 exact ⟨rfl,rfl⟩
theorem enc_bound {h:Bs}:∀ {l:List Bs},OkL l→(enc h l).length≤l.length*65578
 | [],_=>nR 0
 | r::l,hl=>by
  show (sto h r++enc (chain h r) l).length≤_
  have h1:=enc_bound (h:=chain h r) (l:=l) fun x hx=>hl x (by simp [hx])
  have h2:=pS_len (hl r (by simp))
  have h3:=hl r (by simp)
  rw [lA,sto_len,List.length_cons]
  omega
theorem usd_in (hL:0≤L∧L≤1000):0≤(usd L).2∧(usd L).2≤1000:=by
 unfold usd
 split
 ·exact ⟨by decide,by decide⟩
 ·dsimp only;omega
theorem app_ok (hhl:hh.length=32) (hl:OkL l) (hll:l.length≤1000) (hr:recs.length≤100000) (hp:p≤du.length) (hv:vi.length=du.length) (hn:du.length≤100000) (hpd:pd.length≤100) (hL:0≤L∧L≤1000) :
  m11 (l,false,hh,(p:Int),false,recs,false,dk o L du vi pd) =
  some (if du.length<p+(enc hh l).length then (371,false,hh,(p:Int),false,o,L,nB du,nB vi,recs,pd) else
   if l=[] then (0,false,hh,(p:Int),false,o,L,nB du,nB vi,recs,pd) else
   if (apd o L du vi pd p (enc hh l)).1=0 then (0,false,hd hh l,((p+(enc hh l).length:Nat):Int),false,(apd o L du vi pd p (enc hh l)).2.1,(apd o L du vi pd p (enc hh l)).2.2.1,nB (apd o L du vi pd p (enc hh l)).2.2.2.1,nB (apd o L du vi pd p (enc hh l)).2.2.2.2.1,recs++l,(apd o L du vi pd p (enc hh l)).2.2.2.2.2) else
   ((apd o L du vi pd p (enc hh l)).1,false,hh,(p:Int),true,(apd o L du vi pd p (enc hh l)).2.1,(apd o L du vi pd p (enc hh l)).2.2.1,nB (apd o L du vi pd p (enc hh l)).2.2.2.1,nB (apd o L du vi pd p (enc hh l)).2.2.2.2.1,recs,(apd o L du vi pd p (enc hh l)).2.2.2.2.2)):=by
 unfold m11
 rw [show (l,false,hh,(p:Int),false,recs,false,dk o L du vi pd)=(l,false,hh,(p:Int),false,recs,false,o,L,nB du,nB vi,pd) from rfl]
 dsimp only [nonM,oB]
 rw [cF,notF,cT]
 have hbd:=enc_bound (h:=hh) hl
 have hlong:∃ t:Unit⊕Int,t=.inl ()∧loopM (fun (s:Int)=>bif ltM s (lenM l) then (idxM l s).bind fun r=>(m28 r).bind fun r=>bif r then some (Sum.inr (Sum.inr s)) else some (Sum.inl (IntKind.wrap .i64 (s+1))) else some (Sum.inr (Sum.inl ()))) 0=some t:=by
  refine ⟨_,rfl,?_⟩
  refine loopM_fn (fun k=>(k:Int)) l.length (fun k hk=>?_) ?_
  ·rw [lenI,ltI (by omega),cT,idxM_lt hk,oB,show m28 l[k]=some (ltM 65536 (lenM l[k])) from rfl,oB,lenI,geI (by have:=hl _ (List.getElem_mem hk);omega),cF,wrap_in (by omega) (by omega)]
   rfl
  ·rw [lenI,geI (by omega),cF]
 obtain ⟨_,rfl,hlong⟩:=hlong
 rw [hlong,oB]
 dsimp only [Sum.elim_inl,oB]
 rw [gtI (by decide),orF,cF,clone_ok (by omega),oB]
 have hloop:loopM (fun (s:Int×List UInt8×Int×List UInt8×List (List UInt8))=>bif ltM s.1 (lenM l) then (idxM l s.1).bind fun r_5=>(m53 (s.2.1,r_5)).bind fun r_6=>(appM (nat_lit 16) s.2.2.2.2 [r_5]).bind fun r_7=>(m54 r_5).bind fun r_8=>(catM (strB [1]) r_8.1).bind fun r_9=>(catM r_9 r_6).bind fun r_10=>(catB s.2.2.2.1 r_10).bind fun r=>some (Sum.inl (IntKind.wrap .i64 (s.1+1),r_6,IntKind.wrap .i64 (s.2.2.1+lenM r_10),r,r_7)) else some (Sum.inr (s.2.1,s.2.2.1,s.2.2.2.1,s.2.2.2.2))) (0,hh,(p:Int),[],recs)=some (hd hh l,((p+(enc hh l).length:Nat):Int),enc hh l,recs++l):=by
  refine loopM_at (fun k=>((k:Int),hd hh (l.take k),((p+(enc hh (l.take k)).length:Nat):Int),enc hh (l.take k),recs++l.take k)) l.length ?_ (fun k hk=>?_) ?_
  ·simp [hd,enc]
  ·have hkl:=hl _ (List.getElem_mem hk)
   have hps:=pS_len hkl
   have hb2:=enc_bound (h:=hh) (l:=l.take k) fun x hx=>hl x (List.mem_of_mem_take hx)
   have hb3:(l.take k).length≤1000:=by rw [lT];omega
   have hhd:=hd_len hhl (l.take k)
   dsimp only
   rw [lenI,ltI (by omega),cT,idxM_lt hk,oB,wChain_ok (by omega),oB,appM_of (by rw [lA];show (_+1)*16≤_;omega),oB,wPutS_ok hkl,oB]
   dsimp only
   rw [catM_of (by rw [show strB [1]=([1]:Bs) from rfl];simp;omega),oB,catM_of (by rw [show strB [1]=([1]:Bs) from rfl];simp [chain_len];omega),oB]
   have hout:(strB [1]++pS l[k])++chain (hd hh (l.take k)) l[k]=sto (hd hh (l.take k)) l[k]:=rfl
   rw [hout,catB_of (by rw [sto_len];omega),oB,lenI,wrap_in (by omega) (by omega),wrap_in (by rw [sto_len];omega) (by rw [sto_len];omega),(enc_step hk).1,(enc_step hk).2,lA,aA,List.take_succ_eq_append_getElem hk]
   rw [show ((p+(enc hh (l.take k)).length:Nat):Int)+((sto (hd hh (l.take k)) l[k]).length:Int)=((p+((enc hh (l.take k)).length+(sto (hd hh (l.take k)) l[k]).length):Nat):Int) by omega]
   rfl
  ·dsimp only
   rw [lenI,geI (by omega),cF,List.take_length]
 rw [hloop,oB]
 dsimp only
 rw [show (false,hh,(p:Int),false,recs,false,o,L,nB du,nB vi,pd)=(false,hh,(p:Int),false,recs,false,dk o L du vi pd) from rfl,room_ok hp hn,oB,lenI]
 by_cases hfit:du.length<p+(enc hh l).length
 ·rw [if_pos hfit,ltI (by omega),cT]
  rfl
 rw [if_neg hfit,geI (by omega),cF]
 by_cases hnil:l=[]
 ·subst hnil
  rw [if_pos rfl,show enc hh []=[] from rfl,eqsT rfl,cT]
  rfl
 rw [if_neg hnil,eqsF (fun e=>hnil (enc_nil.1 e)),cF]
 obtain ⟨t,ht⟩:=enc_head (h:=hh) hnil
 have h33:33≤(enc hh l).length:=by
  cases l with
  | nil=>exact absurd rfl hnil
  | cons r l =>
   show 33≤(sto hh r++_).length
   rw [lA,sto_len];omega
 rw [ht,List.length_cons] at h33
 rw [ht] at hfit ⊢
 rw [List.length_cons] at hfit
 rw [sliceM_of (by omega) (by rw [List.length_cons];omega) (by rw [List.length_cons];omega),oB,sliceM_of (by omega) (by omega) (by rw [List.length_cons];omega),oB,Int.toNat_natCast,List.take_length,show (1:Int).toNat=1 from rfl,show (0:Int).toNat=0 from rfl,List.drop_one,List.tail_cons,show ((1::t:Bs).take 1).drop 0=[1] from rfl,wrap_in (by omega) (by omega),show ((p:Int)+1)=((p+1:Nat):Int) by omega]
 dsimp only [dk]
 rw [show ((o,L,nB du,nB vi,pd):Dk)=dk o L du vi pd from rfl]
 have htl:(1::t:Bs).tail=t:=rfl
 cases o with
 | true =>
  have ha:apd true L du vi pd p (1::t)=(361,true,L,du,vi,pd):=rfl
  rw [write_off,oB,ha]
  dsimp only
  rw [neI (by decide),notF,cT,oB,if_neg (by decide)]
  dsimp only
  rw [neI (by decide),notF,cT]
 | false =>
  rw [write_ok (by omega) (by omega) hv (by omega) (by omega) hL,oB]
  dsimp only
  rw [eqI rfl,notT,cF]
  have hv1:(spl vi (p+1) t).length=du.length:=by rw [spl_len (by omega),hv]
  cases hu:(usd L).1 with
  | true =>
   have ha:apd false L du vi pd p (1::t)=(361,true,(usd L).2,du,spl vi (p+1) t,pd++[(((p+1:Nat):Int),t)]):=by
    unfold apd
    rw [if_neg (by decide),if_pos hu];rfl
   rw [ha,show ((true,(usd L).2,nB du,nB (spl vi (p+1) t),pd++[(((p+1:Nat):Int),t)]):Dk)=dk true (usd L).2 du (spl vi (p+1) t) (pd++[(((p+1:Nat):Int),t)]) from rfl,sync_off,oB]
   dsimp only
   rw [neI (by decide),notF,cT,oB,if_neg (by decide)]
   dsimp only
   rw [neI (by decide),notF,cT]
  | false =>
   rw [show ((false,(usd L).2,nB du,nB (spl vi (p+1) t),pd++[(((p+1:Nat):Int),t)]):Dk)=dk false (usd L).2 du (spl vi (p+1) t) (pd++[(((p+1:Nat):Int),t)]) from rfl,sync_ok hv1,oB]
   dsimp only
   rw [eqI rfl,notT,cF,show ((false,(usd L).2,nB (spl vi (p+1) t),nB (spl vi (p+1) t),([]:List (Int×Bs))):Dk)=dk false (usd L).2 (spl vi (p+1) t) (spl vi (p+1) t) [] from rfl,
    write_ok (by rw [hv1];omega) (by rw [hv1];show p+1≤_;omega) rfl (by omega) (by simp) (usd_in hL),oB]
   dsimp only
   rw [eqI rfl,notT,cF,List.nil_append]
   have hv2:(spl (spl vi (p+1) t) p [1]).length=(spl vi (p+1) t).length:=spl_len (by rw [hv1];show p+1≤_;omega)
   cases hu2:(usd (usd L).2).1 with
   | true =>
    have ha:apd false L du vi pd p (1::t)=(361,true,(usd (usd L).2).2,spl vi (p+1) t,spl (spl vi (p+1) t) p [1],[((p:Int),[1])]):=by
     unfold apd
     rw [if_neg (by decide),hu,if_neg (by decide),if_pos hu2];rfl
    rw [ha,show ((true,(usd (usd L).2).2,nB (spl vi (p+1) t),nB (spl (spl vi (p+1) t) p [1]),[((p:Int),([1]:Bs))]):Dk)=dk true (usd (usd L).2).2 (spl vi (p+1) t) (spl (spl vi (p+1) t) p [1]) [((p:Int),[1])] from rfl,sync_off,oB]
    dsimp only
    rw [neI (by decide),notF,cT,oB,if_neg (by decide)]
    dsimp only
    rw [neI (by decide),notF,cT]
   | false =>
    have ha:apd false L du vi pd p (1::t)=(0,false,(usd (usd L).2).2,spl (spl vi (p+1) t) p [1],spl (spl vi (p+1) t) p [1],[]):=by
     unfold apd
     rw [if_neg (by decide),hu,if_neg (by decide),hu2,if_neg (by decide)];rfl
    rw [ha,show ((false,(usd (usd L).2).2,nB (spl vi (p+1) t),nB (spl (spl vi (p+1) t) p [1]),[((p:Int),([1]:Bs))]):Dk)=dk false (usd (usd L).2).2 (spl vi (p+1) t) (spl (spl vi (p+1) t) p [1]) [((p:Int),[1])] from rfl,sync_ok hv2,oB]
    dsimp only
    rw [eqI rfl,notT,cF,oB,if_pos rfl]
    dsimp only
    rw [eqI rfl,notT,cF]
variable [EA]
variable [EA]
variable {o:Bool} {L:Int} {du vi:Bs} {pd:List (Int×Bs)}
def torn (t:Int) (s:Bs):Bs:=if 0≤t then s.take (min t s.length).toNat else s
def cr (keep:List Int) (t:Int) (du:Bs):List (Int×Bs)→Bs
 | [(q,s)]=>if (0:Int)∈keep then spl du q.toNat (torn t s) else du
 | _=>du
def PdOk (n:Nat) (pd:List (Int×Bs)):Prop:=pd.length≤1∧∀ q s,(q,s)∈pd→0≤q∧q<n∧q+s.length≤n
theorem torn_len (t:Int) (s:Bs):(torn t s).length≤s.length:=by
 unfold torn
 split
 ·rw [lT];omega
 ·exact nR _
theorem pick_ok {c:Int} {n:Nat} (hc:IntKind.i64.has c) (hn:0<n):∃ k:Nat,k<n∧m14 (c,(n:Int))=some (k:Int):=by
 have h1:=pk_lo (c:=c) (n:=(n:Int)) (by omega)
 have h2:=pk_hi (c:=c) (n:=(n:Int)) (by omega)
 exact ⟨(pk c n).toNat,by omega,(pk_text (n:=(n:Int)) hc (by omega)).trans (congrArg some (show pk c (n:Int)=_ by omega))⟩
theorem siz_ok {c:Int} (hc:IntKind.i64.has c):∃ n:Nat,1≤n∧n≤1500∧m7 c=some (n:Int):=by
 obtain ⟨k,h1,h2⟩:=pick_ok (n:=1500) hc (by omega)
 refine ⟨1+k,by omega,by omega,?_⟩
 unfold m7
 rw [show (1500:Int)=((1500:Nat):Int) from rfl,h2,oB,wrap_in (by omega) (by omega)]
 exact congrArg some (by omega)
def fw (l:List Bs):List Bs:=(l.take 6).map fun s=>s.take 100
theorem fw_ok (l:List Bs):OkL (fw l)∧(fw l).length≤6:=by
 unfold fw
 refine ⟨fun r hr=>?_,by rw [List.length_map,lT];omega⟩
 obtain ⟨s,_,rfl⟩:=List.mem_map.1 hr
 rw [lT]
 omega
theorem few_ok {l:List Bs} (hl:l.length≤9223372036854775807) (hs:∀ s∈l,s.length≤9223372036854775807):m9 l=some (fw l):=by
 unfold m9 fw
 refine bind_of (x:=(l.take 6).map fun s=>s.take 100) ?_ rfl
 refine loopM_at (fun k=>((k:Int),(l.take k).map fun s=>s.take 100)) (min l.length 6) rfl (fun k hk=>?_) ?_
 ·have hkl:k<l.length:=by omega
  have:=hs _ (List.getElem_mem hkl)
  dsimp only
  rw [lenI,ltI (by omega),andT,ltI (by omega),cT,idxM_lt hkl,oB,oB,lenI,sliceM_of (by omega) (by omega) (by omega),oB,appM_of (by rw [List.length_map,lT];show (_+1)*16≤_;omega),oB,wrap_in (by omega) (by omega),List.take_succ_eq_append_getElem hkl,List.map_append]
  have:(l[k].take (min (l[k].length:Int) 100).toNat).drop (0:Int).toNat=l[k].take 100:=by
   rw [show (0:Int).toNat=0 from rfl,List.drop_zero]
   by_cases h:l[k].length≤100
   ·rw [tkL (by omega),tkL h]
   ·congr 1;omega
  rw [this]
  rfl
 ·have hz:(l.take (min l.length 6))=l.take 6:=by
   by_cases h:l.length≤6
   ·rw [Nat.min_eq_left h,List.take_length,tkL h]
   ·rw [Nat.min_eq_right (by omega)]
  dsimp only
  rw [hz]
  by_cases h:l.length<6
  ·rw [lenI,geI (by omega),andF,cF]
  ·by_cases h2:ltM ((min l.length 6:Nat):Int) (lenM l)=true
   ·rw [h2,andT,geI (by omega),cF]
   ·rw [Bool.eq_false_iff.2 h2,andF,cF]
theorem same_ok {a b:List Bs} (ha:a.length≤1000000):m16 (a,b)=some (decide (a=b)):=by
 unfold m16
 dsimp only
 rw [lenI,lenI]
 by_cases hl:a.length=b.length
 ·rw [eqI (by omega),notT,cF]
  have key:Ans (loopM (fun (s:Int)=>bif ltM s (lenM a) then (idxM a s).bind fun r=>(idxM b s).bind fun r_1=>bif PE.notM (eqsM r r_1) then some (Sum.inr (Sum.inr false)) else some (Sum.inl (IntKind.wrap .i64 (s+1))) else some (Sum.inr (Sum.inl ()))) 0) (fun (o:Unit⊕Bool)=>(o=.inl ()∧a=b)∨(o=.inr false∧a≠b)):=by
   refine Ans.loop (fun k s=>s=(k:Int)∧k≤a.length∧∀ i,i<k→a[i]? = b[i]?) a.length ⟨rfl,by omega,fun i hi=>by omega⟩ ?_
   rintro k s hk ⟨rfl,h2,h3⟩
   rw [lenI]
   by_cases hkl:k<a.length
   ·rw [ltI (by omega),cT,idxM_lt hkl,oB,idxM_lt (by omega),oB]
    by_cases e:a[k]=b[k]'(by omega)
    ·rw [eqsT e,notT,cF,wrap_in (by omega) (by omega)]
     refine Ans.some ⟨by omega,rfl,by omega,fun i hi=>?_⟩
     by_cases f:i=k
     ·subst f;rw [gE hkl,gE (by omega),e]
     ·exact h3 i (by omega)
    ·rw [eqsF e,notF,cT]
     refine Ans.some (.inr ⟨rfl,fun h=>e ?_⟩)
     subst h;rfl
   ·rw [geI (by omega),cF]
    refine Ans.some (.inl ⟨rfl,List.ext_getElem? fun i=>?_⟩)
    by_cases f:i<a.length
    ·exact h3 i (by omega)
    ·rw [List.getElem?_eq_none (by omega),List.getElem?_eq_none (by omega)]
  obtain ⟨o,h1,h2⟩:=key
  rw [h1,oB]
  rcases h2 with ⟨rfl,h2⟩ | ⟨rfl,h2⟩
  ·rw [dT h2];rfl
  ·rw [dF h2];rfl
 ·rw [neI (by omega),notF,cT,dF (fun e=>hl (by rw [e]))]
variable [EA]
def ct (n:Nat) (l:List Bs):Bs:=enc h0 l++List.replicate (n-(enc h0 l).length) 0
theorem ct_len {n:Nat} {l:List Bs} (h:(enc h0 l).length≤n):(ct n l).length=n:=by
 unfold ct
 rw [lA,List.length_replicate];omega
def Semi (n:Nat) (l:List Bs) (c:Bs):Prop:=OkL l∧c.length=n∧∃ z,Stop z∧c=enc h0 l++z
theorem semi_ct {n:Nat} {l:List Bs} (hl:OkL l) (h:(enc h0 l).length≤n):Semi n l (ct n l):=⟨hl,ct_len h,_,stop_zeros _,rfl⟩
theorem open_ct {n:Nat} {l:List Bs} {L:Int} (hl:OkL l) (hf:(enc h0 l).length≤n) (h0n:0<n) (hn:n≤100000) (hL:0≤L∧L≤1000):m8 (false,dk false L (ct n l) (ct n l) [])=some (0,false,L,nB (ct n l),nB (ct n l),false,hd h0 l,((enc h0 l).length:Int),false,l,[]):=by
 have hc:=ct_len hf
 obtain ⟨l',z',hr,hm⟩:=open_ok (L:=L) (du:=ct n l) (vi:=ct n l) (pd:=[]) (by omega) rfl (by omega) (by simp) hL
 have hst:=stop_zeros (n-(enc h0 l).length)
 obtain ⟨rfl,rfl⟩:=Rd.uniq (⟨hl,rfl,.inl hst⟩:Rd h0 (ct n l) l _) hr
 have hzs:Zs (List.replicate (n-(enc h0 l).length) (0:UInt8)):=by unfold Zs;rw [List.length_replicate]
 rcases hm with ⟨hb,_⟩ | ⟨_,_,hm⟩ | ⟨_,hz,_⟩ | ⟨_,hz,_⟩
 ·exact (hst.bad hb).elim
 ·exact hm
 ·exact absurd hzs hz
 ·exact absurd hzs hz
theorem spl_mid {a m z s:Bs} (h:s.length=m.length):spl (a++(m++z)) a.length s=a++(s++z):=by
 have e:(a++(m++z)).drop (a.length+m.length)=z:=by rw [← aA,← lA,List.drop_left' rfl]
 unfold spl
 rw [List.take_left' rfl,h,e]
theorem spl_nil (b:Bs) (p:Nat):spl b p []=b:=by
 unfold spl
 simp
theorem zeros_split {m k:Nat} (h:k≤m):(List.replicate m 0:Bs)=List.replicate k 0++List.replicate (m-k) 0:=by
 rw [List.replicate_append_replicate];congr 1;omega
section
variable {n:Nat} {r l:List Bs} {t:Bs}
theorem first_write (ht:enc (hd h0 r) l=1::t) (hf:(enc h0 r).length+(1::t:Bs).length≤n) {s:Bs} (hs:s.length≤t.length) :
  spl (ct n r) ((enc h0 r).length+1) s=enc h0 r++(0::(s++List.replicate (n-(enc h0 r).length-1-s.length) 0)):=by
 rw [List.length_cons] at hf
 unfold ct
 have e:(List.replicate (n-(enc h0 r).length) 0:Bs)=[0]++(List.replicate s.length 0++List.replicate (n-(enc h0 r).length-1-s.length) 0):=by
  rw [zeros_split (m:=n-(enc h0 r).length) (k:=1) (by omega),zeros_split (m:=n-(enc h0 r).length-1) (k:=s.length) (by omega)]
  rfl
 rw [e,← aA,show (enc h0 r).length+1=(enc h0 r++[0]).length by simp,spl_mid (by simp),aA]
 rfl
theorem second_write (ht:enc (hd h0 r) l=1::t) (hf:(enc h0 r).length+(1::t:Bs).length≤n) :
  spl (spl (ct n r) ((enc h0 r).length+1) t) (enc h0 r).length [1]=ct n (r++l):=by
 rw [first_write ht hf (nR _)]
 have:=spl_mid (a:=enc h0 r) (m:=[0]) (z:=t++List.replicate (n-(enc h0 r).length-1-t.length) 0) (s:=[1]) rfl
 rw [show (0::(t++List.replicate (n-(enc h0 r).length-1-t.length) 0):Bs)=[0]++(t++List.replicate (n-(enc h0 r).length-1-t.length) 0) from rfl,this]
 unfold ct
 rw [enc_app,ht,lA,List.length_cons,aA,show n-((enc h0 r).length+(t.length+1))=n-(enc h0 r).length-1-t.length by omega]
 rfl
theorem semi_first (hr:OkL r) (ht:enc (hd h0 r) l=1::t) (hf:(enc h0 r).length+(1::t:Bs).length≤n) {s:Bs} (hs:s.length≤t.length):Semi n r (spl (ct n r) ((enc h0 r).length+1) s):=by
 refine ⟨hr,?_,_,stop_cons _,first_write ht hf hs⟩
 rw [List.length_cons] at hf
 rw [spl_len (by rw [ct_len (by omega)];omega),ct_len (by omega)]
end
structure Aft (n:Nat) (was want:List Bs) (du vi:Bs) (pd:List (Int×Bs)):Prop where
 hpd:PdOk n pd
 hdu:du.length=n
 hvi:vi.length=n
 hcr:∀ keep t,Semi n was (cr keep t du pd)∨Semi n want (cr keep t du pd)
theorem app_clean {n:Nat} {r l:List Bs} {L:Int} (hr:OkL r) (hf:(enc h0 r).length≤n) (hn:n≤100000) (hl:OkL l) (hll:l.length≤1000) (hL:0≤L∧L≤1000) :
  (n<(enc h0 (r++l)).length∧m11 (l,false,hd h0 r,((enc h0 r).length:Int),false,r,false,dk false L (ct n r) (ct n r) [])=some (371,false,hd h0 r,((enc h0 r).length:Int),false,false,L,nB (ct n r),nB (ct n r),r,[])) ∨
  ((enc h0 (r++l)).length≤n∧∃ L',0≤L'∧L'≤1000∧(L=0→L'=0)∧m11 (l,false,hd h0 r,((enc h0 r).length:Int),false,r,false,dk false L (ct n r) (ct n r) [])=some (0,false,hd h0 (r++l),((enc h0 (r++l)).length:Int),false,false,L',nB (ct n (r++l)),nB (ct n (r++l)),r++l,[])) ∨
  (L≠0∧∃ L' du vi pd,0≤L'∧L'≤1000∧Aft n r (r++l) du vi pd∧m11 (l,false,hd h0 r,((enc h0 r).length:Int),false,r,false,dk false L (ct n r) (ct n r) [])=some (361,false,hd h0 r,((enc h0 r).length:Int),true,true,L',nB du,nB vi,r,pd)):=by
 have hle:=enc_le (h:=h0) r
 have hea:(enc h0 (r++l)).length=(enc h0 r).length+(enc (hd h0 r) l).length:=by rw [enc_app,lA]
 have hcl:=ct_len hf
 rw [app_ok (o:=false) (L:=L) (du:=ct n r) (vi:=ct n r) (pd:=[]) (hh:=hd h0 r) (p:=(enc h0 r).length) (recs:=r) (l:=l) (hd_len h0_len r) hl hll (by omega) (by omega) rfl (by omega) (by simp) hL,hcl]
 by_cases h1:n<(enc h0 r).length+(enc (hd h0 r) l).length
 ·exact .inl ⟨by omega,by rw [if_pos h1]⟩
 rw [if_neg h1]
 by_cases h2:l=[]
 ·subst h2
  refine .inr (.inl ⟨by omega,L,hL.1,hL.2,fun h=>h,?_⟩)
  rw [if_pos rfl,List.append_nil]
 rw [if_neg h2]
 obtain ⟨t,ht⟩:=enc_head (h:=hd h0 r) h2
 rw [ht] at h1 hea ⊢
 have hfit:(enc h0 r).length+(1::t:Bs).length≤n:=by omega
 have hrl:OkL (r++l):=hr.app hl
 have htl:(1::t:Bs).tail=t:=rfl
 have hlc:(1::t:Bs).length=t.length+1:=rfl
 have h21:=usd_in hL
 have hL0:(usd L).1=true→L≠0:=fun h e=>by subst e;cases h
 cases hu:(usd L).1 with
 | true =>
  have ha:apd false L (ct n r) (ct n r) [] (enc h0 r).length (1::t)=(361,true,(usd L).2,ct n r,spl (ct n r) ((enc h0 r).length+1) t,[((((enc h0 r).length+1:Nat):Int),t)]):=by
   unfold apd
   rw [if_neg (by decide),if_pos hu];rfl
  refine .inr (.inr ⟨hL0 hu,(usd L).2,ct n r,spl (ct n r) ((enc h0 r).length+1) t,[((((enc h0 r).length+1:Nat):Int),t)],h21.1,h21.2,⟨⟨by simp,fun q s h=>?_⟩,hcl,?_,fun keep x=>?_⟩,?_⟩)
  ·simp only [List.mem_singleton,Prod.mk.injEq] at h
   obtain ⟨rfl,rfl⟩:=h
   have h33:1≤s.length:=by
    cases l with
    | nil=>exact absurd rfl h2
    | cons a l =>
     have:=congrArg List.length ht
     rw [List.length_cons,show enc (hd h0 r) (a::l)=sto (hd h0 r) a++enc (chain (hd h0 r) a) l from rfl,lA,sto_len] at this
     omega
   omega
  ·rw [spl_len (by rw [hcl];omega),hcl]
  ·unfold cr
   dsimp only
   split
   ·rw [Int.toNat_natCast]
    exact .inl (semi_first hr ht hfit (torn_len _ _))
   ·exact .inl (semi_ct hr hf)
  ·rw [ha,if_neg (show ¬ ((361:Int)=0) by decide)]
 | false =>
  have hv1:(spl (ct n r) ((enc h0 r).length+1) t).length=n:=by rw [spl_len (by rw [hcl];omega),hcl]
  cases hu2:(usd (usd L).2).1 with
  | true =>
   have ha:apd false L (ct n r) (ct n r) [] (enc h0 r).length (1::t)=(361,true,(usd (usd L).2).2,spl (ct n r) ((enc h0 r).length+1) t,spl (spl (ct n r) ((enc h0 r).length+1) t) (enc h0 r).length [1],[(((enc h0 r).length:Int),[1])]):=by
    unfold apd
    rw [if_neg (by decide),hu,if_neg (by decide),if_pos hu2];rfl
   have h22:=usd_in h21
   refine .inr (.inr ⟨(fun e=>by subst e;cases hu2),(usd (usd L).2).2,spl (ct n r) ((enc h0 r).length+1) t,spl (spl (ct n r) ((enc h0 r).length+1) t) (enc h0 r).length [1],[(((enc h0 r).length:Int),[1])],h22.1,h22.2,⟨⟨by simp,fun q s h=>?_⟩,hv1,?_,fun keep x=>?_⟩,?_⟩)
   ·simp only [List.mem_singleton,Prod.mk.injEq] at h
    obtain ⟨rfl,rfl⟩:=h
    rw [show ([1]:Bs).length=1 from rfl]
    omega
   ·rw [second_write ht hfit,ct_len (by omega)]
   ·unfold cr
    dsimp only
    split
    ·rw [Int.toNat_natCast]
     have:torn x [1]=[]∨torn x [1]=[1]:=by
      have h3:=torn_len x [1]
      unfold torn at h3 ⊢
      split
      ·rcases Nat.eq_zero_or_pos (min x (([1]:Bs).length:Int)).toNat with e | e
       ·rw [e];exact .inl rfl
       ·rw [tkL (show ([1]:Bs).length≤_ from e)];exact .inr rfl
      ·exact .inr rfl
     rcases this with e | e
     ·rw [e,spl_nil]
      exact .inl (semi_first hr ht hfit (nR _))
     ·rw [e,second_write ht hfit]
      exact .inr (semi_ct hrl (by omega))
    ·exact .inl (semi_first hr ht hfit (nR _))
   ·rw [ha,if_neg (show ¬ ((361:Int)=0) by decide)]
  | false =>
   have ha:apd false L (ct n r) (ct n r) [] (enc h0 r).length (1::t)=(0,false,(usd (usd L).2).2,spl (spl (ct n r) ((enc h0 r).length+1) t) (enc h0 r).length [1],spl (spl (ct n r) ((enc h0 r).length+1) t) (enc h0 r).length [1],[]):=by
    unfold apd
    rw [if_neg (by decide),hu,if_neg (by decide),hu2,if_neg (by decide)];rfl
   have h22:=usd_in h21
   refine .inr (.inl ⟨by omega,(usd (usd L).2).2,h22.1,h22.2,(fun e=>by subst e;rfl),?_⟩)
   rw [ha,if_pos rfl,second_write ht hfit,hea,hd_app]
variable [EA]
section
variable {o:Bool} {L:Int} {du vi:Bs} {pd:List (Int×Bs)} {hh:Bs} {p n:Nat} {br:Bool} {recs r l:List Bs}
theorem new_u {n:Nat} (h1:1≤n) (h2:n≤10000):m6 (n:Int)=some (0,false,false,0,nB (ct n []),nB (ct n []),[]):=(new_ok (n:=(n:Int)) (by omega) (by omega)).trans (by rw [Int.toNat_natCast];rfl)
theorem open_u (hl:OkL l) (hf:(enc h0 l).length≤n) (h0n:0<n) (hn:n≤100000) (hL:0≤L∧L≤1000):m8 (false,false,L,nB (ct n l),nB (ct n l),[])=some (0,false,L,nB (ct n l),nB (ct n l),false,hd h0 l,((enc h0 l).length:Int),false,l,[]):=open_ct hl hf h0n hn hL
theorem recs_u {x:Int} (h:recs.length≤1000000):m13 (false,hh,x,br,recs,false,o,L,nB du,nB vi,pd)=some recs:=recs_ok h
theorem room_u (hp:p≤du.length) (hn:du.length≤100000):m12 (false,hh,(p:Int),br,recs,false,o,L,nB du,nB vi,pd)=some (((du.length-p:Nat):Int),o,L,nB du,nB vi,pd):=room_ok hp hn
theorem cut_u {c:Int} (h:0≤c):m15 (c,false,false,L,nB du,nB vi,pd)=some (0,decide (c=0),c):=cut_ok h
theorem broken_u:m11 (l,false,hh,(p:Int),true,recs,false,o,L,nB du,nB vi,pd)=some (370,false,hh,(p:Int),true,o,L,nB du,nB vi,recs,pd):=app_broken
theorem app_u (hr:OkL r) (hf:(enc h0 r).length≤n) (hn:n≤100000) (hl:OkL l) (hll:l.length≤1000) (hL:0≤L∧L≤1000) :
  (n<(enc h0 (r++l)).length∧m11 (l,false,hd h0 r,((enc h0 r).length:Int),false,r,false,false,L,nB (ct n r),nB (ct n r),[])=some (371,false,hd h0 r,((enc h0 r).length:Int),false,false,L,nB (ct n r),nB (ct n r),r,[])) ∨
  ((enc h0 (r++l)).length≤n∧∃ L',0≤L'∧L'≤1000∧(L=0→L'=0)∧m11 (l,false,hd h0 r,((enc h0 r).length:Int),false,r,false,false,L,nB (ct n r),nB (ct n r),[])=some (0,false,hd h0 (r++l),((enc h0 (r++l)).length:Int),false,false,L',nB (ct n (r++l)),nB (ct n (r++l)),r++l,[])) ∨
  (L≠0∧∃ L' du vi pd,0≤L'∧L'≤1000∧Aft n r (r++l) du vi pd∧m11 (l,false,hd h0 r,((enc h0 r).length:Int),false,r,false,false,L,nB (ct n r),nB (ct n r),[])=some (361,false,hd h0 r,((enc h0 r).length:Int),true,true,L',nB du,nB vi,r,pd)):=app_clean hr hf hn hl hll hL
theorem fit_u (hr:OkL r) (hf:(enc h0 (r++l)).length≤n) (hn:n≤100000) (hl:OkL l) (hll:l.length≤1000):m11 (l,false,hd h0 r,((enc h0 r).length:Int),false,r,false,false,0,nB (ct n r),nB (ct n r),[])=some (0,false,hd h0 (r++l),((enc h0 (r++l)).length:Int),false,false,0,nB (ct n (r++l)),nB (ct n (r++l)),r++l,[]):=by
 have hf0:(enc h0 r).length≤n:=by rw [enc_app,lA] at hf;omega
 rcases app_u (n:=n) (L:=0) hr hf0 hn hl hll (by omega) with ⟨h,_⟩ | ⟨_,L',_,_,h,e⟩ | ⟨h,_⟩
 ·omega
 ·rw [e,h rfl]
 ·exact absurd rfl h
theorem full_u (hr:OkL r) (hf:(enc h0 r).length≤n) (hf2:n<(enc h0 (r++l)).length) (hn:n≤100000) (hl:OkL l) (hll:l.length≤1000):m11 (l,false,hd h0 r,((enc h0 r).length:Int),false,r,false,false,0,nB (ct n r),nB (ct n r),[])=some (371,false,hd h0 r,((enc h0 r).length:Int),false,false,0,nB (ct n r),nB (ct n r),r,[]):=by
 rcases app_u (n:=n) (L:=0) hr hf hn hl hll (by omega) with ⟨_,e⟩ | ⟨h,_⟩ | ⟨h,_⟩
 ·exact e
 ·omega
 ·exact absurd rfl h
end
theorem enc_sum:∀ (h:Bs) (l:List Bs),(enc h l).length=(l.map fun r=>(pS r).length+33).sum
 | _,[]=>rfl
 | h,r::l=>by
  show (sto h r++enc (chain h r) l).length=((pS r).length+33)+(l.map fun r=>(pS r).length+33).sum
  rw [lA,sto_len,enc_sum]
theorem pS_short {r:Bs} (h:r.length<64):(pS r).length=r.length+1:=by
 unfold pS pI zz
 rw [if_neg (by omega),lA,grp_lt (by omega)]
 simp;omega
theorem pS_mid {r:Bs} (h:64≤r.length) (h2:r.length<8192):(pS r).length=r.length+2:=by
 unfold pS pI zz
 rw [if_neg (by omega),lA,grp_ge (by omega),grp_lt (by omega)]
 simp;omega
theorem bad_two {z:Bs}:Bad h0 (2::z):=bad_byte (by decide) (by decide)
theorem open_two {L:Int} {du z:Bs} {pd:List (Int×Bs)} (h0n:0<du.length) (hv:(2::z:Bs).length=du.length) (hn:du.length≤100000) (hp:pd.length≤1000) (hL:0≤L∧L≤1000):m8 (false,false,L,nB du,nB (2::z),pd)=some (372,false,L,nB du,nB (2::z),true,[],0,false,[],pd):=by
 obtain ⟨l',z',hr,hm⟩:=open_ok h0n hv hn hp hL
 obtain ⟨rfl,rfl⟩:=Rd.uniq (⟨fun r h=>by simp at h,rfl,.inr bad_two⟩:Rd h0 (2::z) [] (2::z)) hr
 rcases hm with ⟨_,hm⟩ | ⟨hs,_⟩ | ⟨hs,_⟩ | ⟨hs,_⟩
 ·exact hm
 ·exact (hs.bad bad_two).elim
 ·exact (hs.bad bad_two).elim
 ·exact (hs.bad bad_two).elim
def zr (n:Nat):Bs:=List.replicate n 0
theorem sane_ok:m5 ()=some true:=by
 have ok1:OkL [([97,98]:Bs),[]]:=fun r h=>by simp at h;rcases h with rfl | rfl<;>decide
 have ok2:OkL [zr 95]:=fun r h=>by simp at h;subst h;rw [zr,List.length_replicate];omega
 have ok3:OkL [zr 96]:=fun r h=>by simp at h;subst h;rw [zr,List.length_replicate];omega
 have ok0:OkL ([]:List Bs):=fun r h=>by simp at h
 have p1:(enc h0 ([]++[([97,98]:Bs),[]])).length=70:=by
  rw [enc_sum,List.nil_append]
  simp only [List.map_cons,List.map_nil,List.sum_cons,List.sum_nil]
  rw [pS_short (by decide),pS_short (by decide)];rfl
 have p2:(enc h0 (([]++[([97,98]:Bs),[]])++[zr 95])).length=200:=by
  rw [enc_sum,List.nil_append]
  simp only [List.cons_append,List.nil_append,List.map_cons,List.map_nil,List.sum_cons,List.sum_nil]
  rw [pS_short (by decide),pS_short (by decide),pS_mid (by rw [zr,List.length_replicate];omega) (by rw [zr,List.length_replicate];omega),zr,List.length_replicate];rfl
 have p3:(enc h0 (([]++[([97,98]:Bs),[]])++[zr 96])).length=201:=by
  rw [enc_sum,List.nil_append]
  simp only [List.cons_append,List.nil_append,List.map_cons,List.map_nil,List.sum_cons,List.sum_nil]
  rw [pS_short (by decide),pS_short (by decide),pS_mid (by rw [zr,List.length_replicate];omega) (by rw [zr,List.length_replicate];omega),zr,List.length_replicate];rfl
 have z96:strB (List.replicate (96:Int).toNat 0)=zr 96:=strB_zero 96
 have z95:strB (List.replicate (95:Int).toNat 0)=zr 95:=strB_zero 95
 have hc1:(ct 200 ([]:List Bs)).length=200:=ct_len (by simp [enc])
 have hc2:(ct 200 ([]++[([97,98]:Bs),[]])).length=200:=ct_len (by omega)
 have hc3:(ct 200 (([]++[([97,98]:Bs),[]])++[zr 95])).length=200:=ct_len (by omega)
 have e0:(enc h0 ([]:List Bs)).length=0:=rfl
 have ok12:OkL (([]++[([97,98]:Bs),[]])++[zr 95]):=(ok0.app ok1).app ok2
 unfold m5
 rw [show (200:Int)=((200:Nat):Int) from rfl,new_u (by decide) (by decide),oB]
 dsimp only
 rw [open_u ok0 (by rw [e0];omega) (by omega) (by omega) (by omega),oB]
 dsimp only
 rw [notF,cT,eqI rfl,notT,orF,notF,cT,recs_u (by simp),oB,show eqM (lenM ([]:List Bs)) 0=true from rfl,notT,orF,notF,cT,room_u (by rw [e0];omega) (by rw [hc1];omega),oB,hc1,e0]
 dsimp only
 rw [show PE.orM false (PE.notM (eqM ((200-0:Nat):Int) ((200:Nat):Int)))=false from rfl,cF]
 have a1:=fit_u (n:=200) (r:=[]) (l:=[([97,98]:Bs),[]]) ok0 (by omega) (by omega) ok1 (by decide)
 rw [e0] at a1
 rw [a1,oB,mkM_of (by omega) (by omega) (by decide),oB,z96]
 dsimp only
 rw [full_u (n:=200) (r:=[]++[([97,98]:Bs),[]]) (l:=[zr 96]) (ok0.app ok1) (by omega) (by omega) (by omega) ok3 (by decide),oB]
 dsimp only
 rw [room_u (by rw [hc2];omega) (by rw [hc2];omega),oB,mkM_of (by omega) (by omega) (by decide),oB,z95,hc2]
 dsimp only
 rw [fit_u (n:=200) (r:=[]++[([97,98]:Bs),[]]) (l:=[zr 95]) (ok0.app ok1) (by omega) (by omega) ok2 (by decide),oB]
 dsimp only
 rw [open_u ok12 (by omega) (by omega) (by omega) (by omega),oB]
 dsimp only
 rw [cF]
 have w:=write_ok (L:=0) (du:=ct 200 (([]++[([97,98]:Bs),[]])++[zr 95])) (vi:=ct 200 (([]++[([97,98]:Bs),[]])++[zr 95])) (pd:=[]) (s:=[2]) (p:=0) (by omega) (by rw [hc3];decide) rfl (by omega) (by simp) (by omega)
 have hsp:spl (ct 200 (([]++[([97,98]:Bs),[]])++[zr 95])) 0 [2]=2::(ct 200 (([]++[([97,98]:Bs),[]])++[zr 95])).drop 1:=rfl
 rw [show m19 (0,[(2:UInt8)],false,false,0,nB (ct 200 (([]++[([97,98]:Bs),[]])++[zr 95])),nB (ct 200 (([]++[([97,98]:Bs),[]])++[zr 95])),[])=_ from w,hsp,oB]
 dsimp only
 rw [show (usd 0)=(false,0) from rfl]
 dsimp only
 rw [open_two (by omega) (by rw [List.length_cons,List.length_drop];omega) (by omega) (by simp) (by omega),oB]
 dsimp only
 rw [eqI rfl,cT,eqI rfl,andT,cT,p1,show eqM ((200-70:Nat):Int) 130=true from rfl,andT,cT,cT,room_u (by omega) (by omega),oB,hc3,p2]
 dsimp only
 rw [show eqM ((200-200:Nat):Int) 0=true from rfl,andT,cT,eqI rfl,cT,recs_u (by simp),oB,show PE.andM true (eqM (lenM (([]++[([97,98]:Bs),[]])++[zr 95])) 3)=true from rfl,cT]
 rfl
variable [EA]
variable [EA]
variable {o:Bool} {L:Int} {du vi:Bs} {pd:List (Int×Bs)} {hh:Bs} {x:Int} {recs l:List Bs}
theorem app_long (hll:l.length≤1000) (h:∃ r∈l,65536<r.length):m11 (l,false,hh,x,false,recs,false,o,L,nB du,nB vi,pd)=some (370,false,hh,x,false,o,L,nB du,nB vi,recs,pd):=by
 unfold m11
 dsimp only [nonM,oB]
 rw [cF,notF,cT]
 have hany:=any_loop (xs:=l) (fun r=>decide (65536<r.length)) (body:=(fun (s:Int)=>bif ltM s (lenM l) then (idxM l s).bind fun r=>(m28 r).bind fun r=>bif r then some (Sum.inr (Sum.inr s)) else some (Sum.inl (IntKind.wrap .i64 (s+1))) else some (Sum.inr (Sum.inl ())))) (fun k hk=>by
  rw [lenI,ltI (by omega),cT,idxM_lt hk,oB,show m28 l[k]=some (ltM 65536 (lenM l[k])) from rfl,oB,wrap_in (by omega) (by omega),lenI]
  have:ltM 65536 (l[k].length:Int)=decide (65536<l[k].length):=by
   unfold ltM
   exact decide_eq_decide.2 (by omega)
  rw [this]
  cases decide (65536<l[k].length)<;>rfl) (by
  rw [lenI,geI (by omega),cF])
 have ht:l.any (fun r=>decide (65536<r.length))=true:=by
  obtain ⟨r,h1,h2⟩:=h
  exact List.any_eq_true.2 ⟨r,h1,dT h2⟩
 rw [ht] at hany
 rw [hany,oB,orF,cT]
variable [EA]
theorem need_ok {l:List Bs} (hl:OkL l) (hll:l.length≤1000):loopM (fun (s:Int×Int)=>bif ltM s.2 (lenM l) then (idxM l s.2).bind fun r_5=>(m10 r_5).bind fun r=>some (Sum.inl (IntKind.wrap .i64 (IntKind.wrap .i64 (s.1+33)+lenM r.1),IntKind.wrap .i64 (s.2+1))) else some (Sum.inr s.1)) (0,0)=some ((enc h0 l).length:Int):=by
 refine loopM_at (fun k=>(((enc h0 (l.take k)).length:Int),(k:Int))) l.length rfl (fun k hk=>?_) ?_
 ·have hkl:=hl _ (List.getElem_mem hk)
  have hps:=pS_len hkl
  have hb2:=enc_bound (h:=h0) (l:=l.take k) fun x hx=>hl x (List.mem_of_mem_take hx)
  have hb3:(l.take k).length≤1000:=by rw [lT];omega
  dsimp only
  rw [lenI,ltI (by omega),cT,idxM_lt hk,oB,rPutS_ok hkl,oB]
  dsimp only
  rw [lenI,wrap_in (n:=((enc h0 (l.take k)).length:Int)+33) (by omega) (by omega),wrap_in (by omega) (by omega),wrap_in (by omega) (by omega),(enc_step hk).1,lA,sto_len]
  congr 3
  omega
 ·dsimp only
  rw [lenI,geI (by omega),cF,List.take_length]
variable [EA]
def st9 (n:Nat) (r:List Bs):Bool×Int×List Int×List Int×Bool×Bs×Int×Bool×List Bs×List (Int×Bs):=(false,0,nB (ct n r),nB (ct n r),false,hd h0 r,((enc h0 r).length:Int),false,r,[])
theorem law9_ok {c0:Int} {l:List Bs} {more:Int} (h1:InR (.int .i64) c0) (h2:InR (.list .str) l) (h3:InR (.int .i64) more):m3 (c0,l,more)=some true:=by
 have hll:l.length≤9223372036854775807:=Nat.le_trans h2.1 (by decide)
 have hls:∀ s∈l,s.length≤9223372036854775807:=fun s hs=>by
  obtain ⟨i,hi,rfl⟩:=List.mem_iff_getElem.1 hs
  exact Nat.le_trans (h2.2 i _ (gE hi)) (by decide)
 obtain ⟨n,hn1,hn2,hn⟩:=siz_ok h1
 have ok0:OkL ([]:List Bs):=fun r h=>by simp at h
 have e0:(enc h0 ([]:List Bs)).length=0:=rfl
 have hc0:(ct n ([]:List Bs)).length=n:=ct_len (by rw [e0];omega)
 obtain ⟨hfw,hfl⟩:=fw_ok l
 have hbd:=enc_bound (h:=h0) hfw
 unfold m3
 dsimp only
 rw [sane_ok,oB,hn,oB,new_u hn1 (by omega),oB]
 dsimp only
 rw [open_u ok0 (by rw [e0];omega) (by omega) (by omega) (by omega),oB]
 dsimp only
 rw [eqI rfl,notT,cF,few_ok hll hls,oB,need_ok hfw (by omega),oB]
 refine Ans.is ?_
 have hst:∃ r:List Bs,OkL r∧(enc h0 r).length≤n∧∃ f:Int,m11 (fw l,false,hd h0 [],((enc h0 ([]:List Bs)).length:Int),false,[],false,false,0,nB (ct n []),nB (ct n []),[])=some (f,false,hd h0 r,((enc h0 r).length:Int),false,false,0,nB (ct n r),nB (ct n r),r,[])∧(((enc h0 (fw l)).length≤n∧f=0∧r=fw l)∨(n<(enc h0 (fw l)).length∧f=371∧r=[])):=by
  by_cases hfit:(enc h0 (fw l)).length≤n
  ·exact ⟨fw l,hfw,hfit,0,fit_u (n:=n) (r:=[]) (l:=fw l) ok0 hfit (by omega) hfw (by omega),.inl ⟨hfit,rfl,rfl⟩⟩
  ·exact ⟨[],ok0,by rw [e0];omega,371,full_u (n:=n) (r:=[]) (l:=fw l) ok0 (by rw [e0];omega) (by show n<(enc h0 (fw l)).length;omega) (by omega) hfw (by omega),.inr ⟨by omega,rfl,rfl⟩⟩
 obtain ⟨r,hr,hf,f,ha,hcase⟩:=hst
 have hcl:=ct_len hf
 have hle:=enc_le (h:=h0) r
 rw [ha,oB,oB]
 dsimp only
 refine Ans.bind (P:=fun x=>x=.inr (st9 n r)) ?_ ?_
 ·rcases hcase with ⟨hfit,rfl,rfl⟩ | ⟨hfit,rfl,rfl⟩
  ·rw [leI (by omega),eqI rfl,show PE.notM (PE.notM (eqbM true true))=true from rfl,cT,notT,cF,cT,room_u (by omega) (by omega),oB,oB,wrap_in (by omega) (by omega),hcl,eqI (by omega),notT,andT,orF,notF,cT,cF]
   exact Ans.some rfl
  ·rw [gtI (by omega),neI (by decide),show PE.notM (PE.notM (eqbM false false))=true from rfl,cT,notF,cT,eqI rfl,notT,andT,orF,notF,cT,cF,cT,room_u (by omega) (by omega),oB,oB,hcl,e0,eqI (by omega),notT,andT,orF,cF]
   exact Ans.some rfl
 ·rintro _ rfl
  unfold st9
  dsimp only [Sum.elim_inr]
  obtain ⟨j,hj,hp⟩:=pick_ok (n:=100) h3 (by omega)
  rw [recs_u (by omega),oB,appM_of (by show (0+_)*16≤_;omega),oB,List.nil_append,show (100:Int)=((100:Nat):Int) from rfl,hp,oB,wrap_in (by omega) (by omega),mkM_of (by omega) (by omega) (by show _*1≤_;omega),oB,appM_of (by show (_+1)*16≤_;omega),oB,strB_zero,
   app_long (by rw [lA];simp;omega) ⟨List.replicate (65537+(j:Int)).toNat 0,by simp,by rw [List.length_replicate];omega⟩,oB]
  dsimp only
  have a:=fit_u (n:=n) (r:=r) (l:=[]) hr (by rw [List.append_nil];exact hf) (by omega) ok0 (by simp)
  rw [List.append_nil] at a
  rw [a,oB]
  dsimp only
  rw [cut_u (by omega),oB]
  dsimp only
  rw [show decide ((0:Int)=0)=true from rfl]
  have okx:OkL [([120]:Bs)]:=fun r h=>by simp at h;subst h;decide
  have h35:(enc (hd h0 r) [([120]:Bs)]).length=35:=by
   rw [enc_sum]
   simp only [List.map_cons,List.map_nil,List.sum_cons,List.sum_nil]
   rw [pS_short (by decide)];rfl
  have hapd:apd true 0 (ct n r) (ct n r) [] (enc h0 r).length (enc (hd h0 r) [([120]:Bs)])=(361,true,0,ct n r,ct n r,[]):=rfl
  have b:=app_ok (o:=true) (L:=0) (du:=ct n r) (vi:=ct n r) (pd:=[]) (hh:=hd h0 r) (p:=(enc h0 r).length) (recs:=r) (l:=[([120]:Bs)]) (hd_len h0_len r) okx (by simp) (by omega) (by omega) rfl (by omega) (by simp) (by omega)
  have b2:=app_ok (o:=true) (L:=0) (du:=ct n r) (vi:=ct n r) (pd:=[]) (hh:=hd h0 r) (p:=(enc h0 r).length) (recs:=r) (l:=[]) (hd_len h0_len r) ok0 (by simp) (by omega) (by omega) rfl (by omega) (by simp) (by omega)
  rw [if_neg (by rw [hcl];show ¬ n<(enc h0 r).length+0;omega),if_pos rfl] at b2
  rw [h35,hapd,if_neg (show ¬ ([([120]:Bs)]=[]) by simp),if_neg (show ¬ ((361:Int)=0) by decide),hcl] at b
  by_cases hsm:n<(enc h0 r).length+35
  ·rw [if_pos hsm] at b
   rw [show m11 ([[(120:UInt8)]],false,hd h0 r,((enc h0 r).length:Int),false,r,false,true,0,nB (ct n r),nB (ct n r),[])=_ from b,oB]
   dsimp only
   rw [room_u (by omega) (by omega),oB,hcl]
   dsimp only
   rw [show m11 ([],false,hd h0 r,((enc h0 r).length:Int),false,r,false,true,0,nB (ct n r),nB (ct n r),[])=_ from b2,oB]
   dsimp only
   rw [cT,eqI rfl,andT,cT,eqI rfl,andT,cT,ltI (by omega)]
   rw [show PE.andM true (PE.orM (PE.andM (PE.andM true (eqM (371:Int) 371)) true) (PE.andM (PE.andM (PE.notM true) (eqM (371:Int) 361)) (eqM (0:Int) 370)))=true from rfl,cT,recs_u (by omega),oB,same_ok (by omega),oB,dT rfl]
   exact Ans.some rfl
  ·rw [if_neg hsm] at b
   rw [show m11 ([[(120:UInt8)]],false,hd h0 r,((enc h0 r).length:Int),false,r,false,true,0,nB (ct n r),nB (ct n r),[])=_ from b,oB]
   dsimp only
   rw [room_u (by omega) (by omega),oB,hcl]
   dsimp only
   rw [broken_u,oB]
   dsimp only
   rw [cT,eqI rfl,andT,cT,eqI rfl,andT,cT,geI (by omega)]
   rw [show PE.andM true (PE.orM (PE.andM (PE.andM false (eqM (361:Int) 371)) (eqM (370:Int) 0)) (PE.andM (PE.andM (PE.notM false) (eqM (361:Int) 361)) true))=true from rfl,cT,recs_u (by omega),oB,same_ok (by omega),oB,dT rfl]
   exact Ans.some rfl
end Go.Proofs.YtobfnefajpiakaaDoor
namespace Go.Proofs.YtobfnefajpiakaaDoor
open Go Go.Abs Go.PE
theorem law3 [EA]:∀ (S:Cells) (w:World) (η:Eta) (vs:List Value) x,All2 (RM S w η) (rvs as3 x) vs→m3 x=some true :=
 law_of_ok fun x h=>law9_ok h.1 h.2.1 h.2.2
end Go.Proofs.YtobfnefajpiakaaDoor
