/-
  What boot does to states, plain.
  The reference's answers about manifests and states: Count, May, Params, MayManifest, SameManifest, sameSlot, maySlot, zero, MayState, SameState, Newer, walked.
  downpourref16.MayState, walked.
  boot.Start and boot.Confirm, and the reference's, walked.
  SHA-256 told on lists, plain.
  Four, Number and Join of the reference, walked.
  Small functions of the digest and of its reference, walked.
  digest.filled and digest.words64, walked.
  digest.words64, walked.
  takes, walked.
  digest.Sum and digest.Rows, walked.
  The reference's digest, walked.
  slot.Of, boot.First, the reference's, and awake of the laws of boot, walked.
  slot: first, Read, clear, Write, walked.
  sync.Once, one goroutine: the lock, the mark, walked.
  sync.Once, done for the first time, walked.
  Conditions: those that stand in each theorem.
-/
import Derived.Test.YtcblcmdikhllbaaGreatDoorQTopSwitch3
import Derived.Test.YtcblcmdikhllbaaGreatDoorQTopSwitch5
import Derived.Test.YtcblcmdikhllbaaGreatDoorQTopSwitch4
import Derived.Test.YtcblcmdikhllbaaGreatDoorQTopSwitch2
import Derived.RegionCalls
set_option linter.unusedVariables false
set_option linter.unusedSimpArgs false
namespace Go.Dp
open Go.RowKit Go.Proofs
def newSl (x:StD):SlotD:=⟨x.m.v,x.m.n,x.m.h⟩
def actS (x:StD):StD:=⟨1 - x.a,3,x.f,x.g,if x.a=0 then x.s0 else newSl x,if x.a=0 then newSl x else x.s1,false,zM⟩
theorem copy_may (x:StD) (r0 r1 r2:PA):(copyS x r0 r1 r2).may=x.may:=by
 have e1:(copyS x r0 r1 r2).cur.something=x.cur.something:=by
  unfold StD.cur
  by_cases ha:x.a=0
  ·rw [if_pos ha,if_pos (show (copyS x r0 r1 r2).a=0 from ha)];rfl
  ·rw [if_neg ha,if_neg (show ¬ (copyS x r0 r1 r2).a=0 from ha)];rfl
 have e2:(copyS x r0 r1 r2).oth.something=x.oth.something:=by
  unfold StD.oth
  by_cases ha:x.a=0
  ·rw [if_pos ha,if_pos (show (copyS x r0 r1 r2).a=0 from ha)];rfl
  ·rw [if_neg ha,if_neg (show ¬ (copyS x r0 r1 r2).a=0 from ha)];rfl
 have e3:(copyS x r0 r1 r2).oth.nothing=x.oth.nothing:=by
  unfold StD.oth
  by_cases ha:x.a=0
  ·rw [if_pos ha,if_pos (show (copyS x r0 r1 r2).a=0 from ha)];rfl
  ·rw [if_neg ha,if_neg (show ¬ (copyS x r0 r1 r2).a=0 from ha)];rfl
 unfold StD.may
 rw [e1,e2,e3]
 rfl
theorem may_light {x:StD} (h:x.may=true):x.light:=by
 rcases Classical.em x.light with hl|hl
 ·exact hl
 ·rw [StD.heavy hl] at h;cases h
structure MayF (x:StD):Prop where
 a:x.a=0∨x.a=1
 t:0≤x.t∧x.t≤3
 c:x.cur.something=true
 o:(x.oth.something=true)∨(x.oth.nothing=true∧x.t≤0)
 m:(if x.on then x.m.may else x.m.none)=true
theorem may_iff {x:StD}:x.may=true↔MayF x:=by
 simp only [StD.may,Bool.and_eq_true,Bool.or_eq_true,decide_eq_true_eq]
 constructor
 ·rintro ⟨⟨⟨⟨h1,h2⟩,h3⟩,h4⟩,h5⟩;exact ⟨h1,h2,h3,h4,h5⟩
 ·rintro ⟨h1,h2,h3,h4,h5⟩;exact ⟨⟨⟨⟨h1,h2⟩,h3⟩,h4⟩,h5⟩
theorem man_may {m:ManD} (h:m.may=true):1≤m.n∧m.n≤512∧m.h.l.length=32:=by
 simp only [ManD.may,mayP,Bool.and_eq_true,decide_eq_true_eq] at h
 refine ⟨?_,?_,h.2⟩
 ·have h1:=h.1.1
  unfold count at h1
  split at h1
  ·omega
  ·omega
 ·have h1:=h.1.1
  unfold count at h1
  split at h1
  ·omega
  ·omega
theorem act_cur (x:StD) (ha:x.a=0∨x.a=1):(actS x).cur=newSl x∧(actS x).oth=x.cur:=by
 unfold StD.cur StD.oth actS
 rcases ha with h|h
 ·simp [h]
 ·simp [h]
theorem act_may {x:StD} (h:x.may=true) (ho:x.on=true) (ht:x.t=0):(actS x).may=true:=by
 obtain ⟨h1,h2,h3,h4,h5⟩:=may_iff.1 h
 rw [if_pos ho] at h5
 obtain ⟨q1,q2,q3⟩:=man_may h5
 obtain ⟨e1,e2⟩:=act_cur x h1
 refine may_iff.2 ⟨by show 1 - x.a=0∨1 - x.a=1;omega,by show 0≤(3:Int)∧(3:Int)≤3;omega,?_,.inl ?_,by rfl⟩
 ·rw [e1];exact decide_eq_true (show x.m.h.l.length=32∧1≤x.m.n∧x.m.n≤512 from ⟨q3,q1,q2⟩)
 ·rw [e2];exact h3
theorem r7_Count (H:List Hl) (l s:Int):Spec Tryz.prog 11 [I l,I s] H (fun _:Unit=>True) (fun _=>I (count l s)) (fun _=>H):=by
 refine spec_pure (res:=fun _=>[]) H Tryz.func11 rfl Tryz.ntmps11 (by kernel_rfl) rfl (fun W=>?_)
 repeat' (first|intro _|refine cw ?_|refine cw2 ?_ ?_|(refine k_binOp .quo ?_;refine o1_quo rfl rfl (by omega) ?_)|refine ow ?_|refine ow2 ?_ ?_|fail)
 all_goals
  refine rt_tmp () rfl rfl ?_ trivial ?_
 all_goals first
  | (exact ent;done)
  | skip
 all_goals
  unfold count
  split <;> first|rfl|omega|(split <;> first|rfl|omega)
end Go.Dp
namespace Go.Dp
namespace Sha
def rr (x:BitVec 32) (n:Nat):BitVec 32:=(x >>> n) ||| (x <<< (32 - n))
def s0 (x:BitVec 32):BitVec 32:=rr x 7 ^^^ rr x 18 ^^^ (x >>> 3)
def s1 (x:BitVec 32):BitVec 32:=rr x 17 ^^^ rr x 19 ^^^ (x >>> 10)
def wstep (ws:List (BitVec 32)):BitVec 32:=s1 (ws.getD (ws.length - 2) 0)+ws.getD (ws.length - 7) 0+s0 (ws.getD (ws.length - 15) 0)+ws.getD (ws.length - 16) 0
def chunk (b:List (BitVec 8)) (j:Nat):BitVec 32:=num32 ((b.drop (4*j)).take 4)
def first (b:List (BitVec 8)):List (BitVec 32):=(List.range 16).map (chunk b)
def ext:Nat→List (BitVec 32)→List (BitVec 32)
 | 0,ws=>ws
 | n+1,ws=>let w:=ext n ws;w++[wstep w]
def wordsS (b:List (BitVec 8)):List (BitVec 32):=ext 48 (first b)
structure R8 where
 a:BitVec 32
 b:BitVec 32
 c:BitVec 32
 d:BitVec 32
 e:BitVec 32
 f:BitVec 32
 g:BitVec 32
 h:BitVec 32
def R8.l (x:R8):List (BitVec 32):=[x.a,x.b,x.c,x.d,x.e,x.f,x.g,x.h]
def one (x:R8) (k w:BitVec 32):BitVec 32:=x.h+(rr x.e 6 ^^^ rr x.e 11 ^^^ rr x.e 25)+((x.e &&& x.f) ||| (~~~x.e &&& x.g))+k+w
def two (x:R8):BitVec 32:=(rr x.a 2 ^^^ rr x.a 13 ^^^ rr x.a 22)+((x.a &&& x.b) ||| (x.a &&& x.c) ||| (x.b &&& x.c))
def rnd (k w:BitVec 32) (x:R8):R8:=⟨one x k w+two x,x.a,x.b,x.c,x.d+one x k w,x.e,x.f,x.g⟩
def K:List (BitVec 32):=[0x428a2f98,0x71374491,0xb5c0fbcf,0xe9b5dba5,0x3956c25b,0x59f111f1,0x923f82a4,0xab1c5ed5,
 0xd807aa98,0x12835b01,0x243185be,0x550c7dc3,0x72be5d74,0x80deb1fe,0x9bdc06a7,0xc19bf174,
 0xe49b69c1,0xefbe4786,0x0fc19dc6,0x240ca1cc,0x2de92c6f,0x4a7484aa,0x5cb0a9dc,0x76f988da,
 0x983e5152,0xa831c66d,0xb00327c8,0xbf597fc7,0xc6e00bf3,0xd5a79147,0x06ca6351,0x14292967,
 0x27b70a85,0x2e1b2138,0x4d2c6dfc,0x53380d13,0x650a7354,0x766a0abb,0x81c2c92e,0x92722c85,
 0xa2bfe8a1,0xa81a664b,0xc24b8b70,0xc76c51a3,0xd192e819,0xd6990624,0xf40e3585,0x106aa070,
 0x19a4c116,0x1e376c08,0x2748774c,0x34b0bcb5,0x391c0cb3,0x4ed8aa4a,0x5b9cca4f,0x682e6ff3,
 0x748f82ee,0x78a5636f,0x84c87814,0x8cc70208,0x90befffa,0xa4506ceb,0xbef9a3f7,0xc67178f2]
def H0:R8:=⟨0x6a09e667,0xbb67ae85,0x3c6ef372,0xa54ff53a,0x510e527f,0x9b05688c,0x1f83d9ab,0x5be0cd19⟩
def rds (ws:List (BitVec 32)):Nat→R8→R8
 | 0,x=>x
 | i+1,x=>rnd (K.getD i 0) (ws.getD i 0) (rds ws i x)
def R8.add (s x:R8):R8:=⟨s.a+x.a,s.b+x.b,s.c+x.c,s.d+x.d,s.e+x.e,s.f+x.f,s.g+x.g,s.h+x.h⟩
def comp (s:R8) (b:List (BitVec 8)):R8:=s.add (rds (wordsS b) 64 s)
def st (t:List (BitVec 8)):Nat→R8
 | 0=>H0
 | j+1=>comp (st t j) ((t.drop (64*j)).take 64)
def be8 (n:BitVec 64):List (BitVec 8):=[(n >>> 56).setWidth 8,(n >>> 48).setWidth 8,(n >>> 40).setWidth 8,(n >>> 32).setWidth 8,(n >>> 24).setWidth 8,(n >>> 16).setWidth 8,(n >>> 8).setWidth 8,n.setWidth 8]
def gap (n:Nat):Nat:=(119 - n % 64) % 64
def pad (b:List (BitVec 8)):List (BitVec 8):=b++[0x80#8]++List.replicate (gap b.length) 0#8++be8 (BitVec.ofNat 64 b.length <<< 3)
def out (x:R8):List (BitVec 8):=x.l.flatMap be4
def sha (b:List (BitVec 8)):List (BitVec 8):=out (st (pad b) ((pad b).length / 64))
theorem K_len:K.length=64:=rfl
theorem pad_len (b:List (BitVec 8)):(pad b).length=b.length+9+gap b.length:=by simp [pad,be8];omega
theorem pad_mod (b:List (BitVec 8)):(pad b).length % 64=0:=by rw [pad_len,gap];omega
theorem out_len (x:R8):(out x).length=32:=by simp [out,R8.l,be4]
theorem sha_len (b:List (BitVec 8)):(sha b).length=32:=out_len _
theorem ext_len:∀ (n:Nat) (ws:List (BitVec 32)),(ext n ws).length=ws.length+n
 | 0,ws=>rfl
 | n+1,ws=>by simp only [ext,List.length_append,List.length_singleton];rw [ext_len n ws];omega
theorem first_len (b:List (BitVec 8)):(first b).length=16:=by simp [first]
theorem wordsS_len (b:List (BitVec 8)):(wordsS b).length=64:=by rw [wordsS,ext_len,first_len]
theorem ext_take:∀ (n m:Nat) (ws:List (BitVec 32)),m≤n→(ext n ws).take (ws.length+m)=ext m ws
 | 0,m,ws,h=>by
  have:m=0:=by omega
  subst this
  simp [ext]
 | n+1,m,ws,h=>by
  by_cases hm:m=n+1
  ·subst hm
   rw [List.take_of_length_le]
   rw [ext_len];omega
  ·simp only [ext]
   rw [List.take_append_of_le_length (by rw [ext_len];omega),ext_take n m ws (by omega)]
theorem words_take (b:List (BitVec 8)) (i:Nat) (h1:16≤i) (h2:i≤64):(wordsS b).take i=ext (i - 16) (first b):=by
 have:=ext_take 48 (i - 16) (first b) (by omega)
 rw [first_len,show 16+(i - 16)=i from by omega] at this
 exact this
theorem words_lo (b:List (BitVec 8)) (i:Nat) (h:i<16):(wordsS b).getD i 0=chunk b i:=by
 have h1:(wordsS b).take 16=first b:=words_take b 16 (by omega) (by omega)
 have:((wordsS b).take 16).getD i 0=chunk b i:=by
  rw [h1];simp [first,List.getD_eq_getElem?_getD,h]
 rw [←this]
 simp [List.getD_eq_getElem?_getD,List.getElem?_take,h]
theorem words_hi (b:List (BitVec 8)) (i:Nat) (h1:16≤i) (h2:i<64):(wordsS b).getD i 0=s1 ((wordsS b).getD (i - 2) 0)+(wordsS b).getD (i - 7) 0+s0 ((wordsS b).getD (i - 15) 0)+(wordsS b).getD (i - 16) 0:=by
 have e:=words_take b (i+1) (by omega) (by omega)
 rw [show i+1 - 16=(i - 16)+1 from by omega] at e
 simp only [ext] at e
 have hl:(ext (i - 16) (first b)).length=i:=by rw [ext_len,first_len];omega
 rw [←words_take b i h1 (by omega)] at e hl
 have e2:=congrArg (fun l=>l.getD i 0) e
 have hg:∀ j,j<i→((wordsS b).take i).getD j 0=(wordsS b).getD j 0:=fun j hj=>by simp [List.getD_eq_getElem?_getD,List.getElem?_take,hj]
 simp only [wstep,hl] at e2
 rw [hg _ (by omega),hg _ (by omega),hg _ (by omega),hg _ (by omega)] at e2
 have e3:((wordsS b).take (i+1)).getD i 0=(wordsS b).getD i 0:=by simp [List.getD_eq_getElem?_getD,List.getElem?_take]
 rw [e3] at e2
 rw [e2]
 rw [List.getD_eq_getElem?_getD,List.getElem?_append_right (by omega),hl]
 simp
theorem most (a b c:BitVec 32):(a &&& b) ^^^ (a &&& c) ^^^ (b &&& c)=(a &&& b) ||| (a &&& c) ||| (b &&& c):=by
 apply BitVec.eq_of_getLsbD_eq
 intro i hi
 simp only [BitVec.getLsbD_xor,BitVec.getLsbD_and,BitVec.getLsbD_or]
 cases a.getLsbD i <;> cases b.getLsbD i <;> cases c.getLsbD i <;> rfl
end Sha
open Go.RowKit Go.Proofs
open Sha
theorem rotl32 (H:List Hl) (x:BitVec 32) (k:Int) (hk : -9223372036854775808≤k∧k≤9223372036854775807) :
  Spec Tryz.prog 192 [W4 x,I k] H (fun _:Unit=>True) (fun _=>W4 ((x <<< (BitVec.ofInt 64 k &&& 31#64).toNat) ||| (x >>> (32#64 - (BitVec.ofInt 64 k &&& 31#64)).toNat))) (fun _=>H):=by
 refine spec_pure (res:=fun _=>[]) H Tryz.func192 rfl Tryz.ntmps192 (by kernel_rfl) rfl (fun W=>?_)
 repeat' (first|intro _|refine cw ?_|refine cw2 ?_ ?_|(refine k_binOp .and ?_;refine o1_uand (v:=31#64) rfl rfl ?_)|(refine k_binOp .sub ?_;refine o1_usub (u:=32#64) rfl rfl ?_)|refine ow ?_|refine ow2 ?_ ?_|fail)
 refine rt_tmp () rfl rfl rfl trivial ?_
 exact ent
theorem dg_turned (H:List Hl) (x:BitVec 32) (n:Int) (h:(-9223372036854775808≤n∧n≤9223372036854775807)∧(BitVec.ofInt 64 (-n) &&& 31#64).toNat=32 - n.toNat∧(32#64 - (BitVec.ofInt 64 (-n) &&& 31#64)).toNat=n.toNat∧0<n) :
  Spec Tryz.prog 153 [W4 x,I n] H (fun _:Unit=>True) (fun _=>W4 (rr x n.toNat)) (fun _=>H):=by
 obtain ⟨h1,h2,h3,h4⟩:=h
 refine spec_pure (res:=fun _=>[]) H Tryz.func153 rfl Tryz.ntmps153 (by kernel_rfl) rfl (fun W=>?_)
 repeat' (first|intro _|refine cw ?_|refine cw2 ?_ ?_|(refine k_unOp ?_;refine o1_neg rfl (by omega) ?_)|(refine k_fn 192 ?_;refine o1_call (fun _=>rotl32 _ _ _ (by omega)) rfl (fun _ _=>?_))|refine ow ?_|refine ow2 ?_ ?_|fail)
 refine rt_tmp () rfl rfl ?_ trivial ?_
 ·rw [h2,h3,BitVec.or_comm];rfl
 ·exact ent
theorem dg_constants (H:List Hl):Spec Tryz.prog 152 [] H (fun _:Unit=>True) (fun _ => .agg (K.map W4).toArray) (fun _=>H):=by
 refine spec_pure (res:=fun _=>[]) H Tryz.func152 rfl Tryz.ntmps152 (by kernel_rfl) rfl (fun W=>?_)
 repeat' (first|intro _|refine cw ?_|refine cw2 ?_ ?_|(refine k_alloc ?_;refine o1_alloc (cs:=(List.replicate 64 0#32).map W4) rfl (fun _=>?_))|(refine k_build ?_;refine o1_buildx (vs:=K.map W4) rfl (by kernel_rfl) (fun _=>by kernel_rfl) ?_)|(refine k_store ?_;refine ox_store_full rfl rfl rfl rfl (fun _=>rfl) ?_)|refine ow ?_|refine ow2 ?_ ?_|fail)
 refine rt_cell () rfl rfl rfl rfl trivial ?_
 exact ent
theorem dg_begin (H:List Hl):Spec Tryz.prog 102 [] H (fun _:Unit=>True) (fun _ => .agg (H0.l.map W4).toArray) (fun _=>H):=by
 refine spec_pure (res:=fun _=>[]) H Tryz.func102 rfl Tryz.ntmps102 (by kernel_rfl) rfl (fun W=>?_)
 repeat' (first|intro _|refine cw ?_|refine cw2 ?_ ?_|(refine k_alloc ?_;refine o1_alloc (cs:=(List.replicate 8 0#32).map W4) rfl (fun _=>?_))|(refine k_build ?_;refine o1_buildx (vs:=H0.l.map W4) rfl (by kernel_rfl) (fun _=>by kernel_rfl) ?_)|(refine k_store ?_;refine ox_store_full rfl rfl rfl rfl (fun _=>rfl) ?_)|refine ow ?_|refine ow2 ?_ ?_|fail)
 refine rt_cell () rfl rfl rfl rfl trivial ?_
 exact ent
open Sha
def padz (b:List (BitVec 8)) (j:Nat):List (BitVec 8):=b++[0x80#8]++List.replicate j 0#8
theorem padz_succ (b:List (BitVec 8)) (j:Nat):padz b j++[0#8]=padz b (j+1):=by
 simp [padz,List.replicate_succ']
def tail8 (b:List (BitVec 8)) (i:Nat):List (BitVec 8):=(be8 (BitVec.ofNat 64 b.length <<< 3)).take i
theorem tail8_succ (b:List (BitVec 8)) (i:Nat) (h:i<8):tail8 b i++[((BitVec.ofNat 64 b.length <<< 3) >>> (56 - 8*(i:Int)).toNat).setWidth 8]=tail8 b (i+1):=by
 rw [show (56 - 8*(i:Int)).toNat=56 - 8*i from by omega]
 have:i=0∨i=1∨i=2∨i=3∨i=4∨i=5∨i=6∨i=7:=by omega
 rcases this with rfl|rfl|rfl|rfl|rfl|rfl|rfl|rfl <;> simp [tail8,be8]
set_option maxHeartbeats 1000000 in
theorem dg_filled (H:List Hl) (ad:Option Addr) (c:Nat) (b:List (BitVec 8)) (h:Rs (stars H) B ad c b) (hb:b.length≤70368744177664) :
  Spec Tryz.prog 103 [.slice ad b.length c] H (fun _:Option Addr × Nat=>True) (fun r => .slice r.1 (pad b).length r.2) (fun r => .row 5 1 (.slice r.1 (pad b).length r.2) (pad b).length ((pad b).map B)::H):=by
 refine spec_pure (res:=fun r:Option Addr × Nat=>[.row 5 1 (.slice r.1 (pad b).length r.2) (pad b).length ((pad b).map B)]) H Tryz.func103 rfl Tryz.ntmps103 (by kernel_rfl) rfl (fun W=>?_)
 refine st_ent (ent_nil 5 B) ?_
 have hg:gap b.length≤63:=by unfold gap;omega
 repeat' (first|intro _|refine cw ?_|refine cw2 ?_ ?_|(refine k_call ?_;first|refine ox_append rfl rfl (rx_any h) rfl rfl (fun _=>rfl) (by simp;omega) (by simp;omega) (fun a1 c1=>?_)|refine ox_append rfl rfl (rx_box rfl (by decide)) rfl rfl (fun _=>rfl) (by simp;omega) (by simp;omega) (fun a1 c1=>?_))|(refine k_buildSlice ?_;refine o1_lit_enc B [0x80#8] rfl rfl rfl (fun _=>rfl) rfl rfl rfl (fun _=>?_))|refine ow ?_|refine ow2 ?_ ?_|fail)
 refine st_loop (S:=Nat × Option Addr × Nat) (fun s=>[(0,.slice ad b.length c),(3,.slice s.2.1 (b.length+1+s.1) s.2.2)]) (fun s=>[.row 5 1 (.slice s.2.1 (b.length+1+s.1) s.2.2) (b.length+1+s.1) ((padz b s.1).map B),.any (stars H)]) (fun s=>s.1≤gap b.length) (fun s=>gap b.length - s.1) (0,a1,c1) (Nat.zero_le _)
  (cov_cons rfl rfl (cov_cons rfl (by simp) cov_nil)) (by simp only [padz,List.nil_append,List.replicate_zero,List.append_nil,Nat.zero_add,Nat.add_zero];exact ent) ?_
 rintro ⟨j,a1,c1⟩ hj
 dsimp only at hj ⊢
 by_cases hlt:j<gap b.length
 ·have hne:(((b.length+1+j:Nat):Int) % 64)≠56:=by unfold gap at hlt;omega
  repeat' (first|intro _|refine cw ?_|refine cw2 ?_ ?_|(refine k_binOp .rem ?_;refine o1_rem rfl rfl (by omega) ?_)|(refine k_call ?_;refine ox_append rfl rfl (rx_box rfl (by decide)) rfl rfl (fun _=>rfl) (by simp;omega) (by simp;omega) (fun a1 c1=>?_))|refine ow ?_|refine ow2 ?_ ?_|fail)
  refine nx_again (j+1,a1,c1) (by show j+1≤_;omega) (by show gap b.length - (j+1)<gap b.length - j;omega) cv ?_
  show Ent _ [.row 5 1 (.slice a1 (b.length+1+(j+1)) c1) (b.length+1+(j+1)) ((padz b (j+1)).map B),.any (stars H)]
  rw [←padz_succ,show b.length+1+(j+1)=b.length+1+j+1 from rfl]
  exact ent
 ·have:j=gap b.length:=by omega
  subst this
  have hne:(((b.length+1+gap b.length:Nat):Int) % 64)=56:=by unfold gap;omega
  repeat' (first|intro _|refine cw ?_|refine cw2 ?_ ?_|(refine k_binOp .rem ?_;refine o1_rem rfl rfl (by omega) ?_)|(refine k_convert ?_;refine o1_conv_iu (m':=64) rfl ?_)|refine ow ?_|refine ow2 ?_ ?_|fail)
  have hpl:(pad b).length=b.length+1+gap b.length+8:=by rw [pad_len];omega
  refine st_loop (S:=Nat × Option Addr × Nat) (fun s=>[(3,.slice s.2.1 (b.length+1+gap b.length+s.1) s.2.2),(4,W8 (BitVec.ofNat 64 b.length <<< 3)),(5,I (56 - 8*s.1))]) (fun s=>[.row 5 1 (.slice s.2.1 (b.length+1+gap b.length+s.1) s.2.2) (b.length+1+gap b.length+s.1) ((padz b (gap b.length)++tail8 b s.1).map B),.any (stars H)]) (fun s=>s.1≤8) (fun s=>8 - s.1) (0,a1,c1) (Nat.zero_le _)
   (cov_cons rfl rfl (cov_cons rfl (by simp) cv)) (by simp only [tail8,List.take_zero,List.append_nil,Nat.add_zero];exact ent) ?_
  rintro ⟨i,a1,c1⟩ hi
  dsimp only at hi ⊢
  by_cases hi8:i<8
  ·repeat' (first|intro _|refine cw ?_|refine cw2 ?_ ?_|(refine k_call ?_;refine ox_append rfl rfl (rx_box rfl (by decide)) rfl rfl (fun _=>rfl) (by simp;omega) (by simp;omega) (fun a1 c1=>?_))|refine ow ?_|refine ow2 ?_ ?_|fail)
   refine nx_again (i+1,a1,c1) (by show i+1≤8;omega) (by show 8 - (i+1)<8 - i;omega) (cov_cons rfl rfl (cov_cons rfl rfl (cov_cons rfl ?_ cov_nil))) ?_
   ·show I (56 - 8*(i:Int) - 8)=I (56 - 8*((i+1:Nat):Int))
    congr 1;omega
   show Ent _ [.row 5 1 (.slice a1 (b.length+1+gap b.length+(i+1)) c1) (b.length+1+gap b.length+(i+1)) ((padz b (gap b.length)++tail8 b (i+1)).map B),.any (stars H)]
   rw [←tail8_succ b i hi8,←List.append_assoc,←Nat.add_assoc]
   exact ent
  ·have:i=8:=by omega
   subst this
   repeat' (first|intro _|refine cw ?_|refine cw2 ?_ ?_|refine ow ?_|refine ow2 ?_ ?_|fail)
   have hp:padz b (gap b.length)++tail8 b 8=pad b:=by simp [padz,pad,tail8,be8]
   refine rt_tmp (a1,c1) rfl rfl (by rw [hpl]) trivial ?_
   rw [hp,hpl]
   exact ent
def rtS4_0:List Row:=[⟨some 32,[],[],none⟩,⟨some 33,[0],[0],none⟩,⟨some 34,[1],[0,1],none⟩,⟨some 35,[2],[0,1,2],none⟩,⟨some 36,[],[],none⟩,⟨some 37,[4],[4],none⟩,⟨some 38,[5],[4,5],none⟩,⟨some 39,[6],[4,5,6],none⟩,⟨some 7,[3,0,1,2,3],[0,1,2,3],none⟩,⟨some 8,[7,8,0,1,2,3,4,5,6,7,8],[0,1,2,3,4,5,6,7,8],none⟩]
def rtS4_1:List Row:=[⟨some 40,[],[],none⟩,⟨some 41,[],[],none⟩,⟨some 42,[1],[1],none⟩,⟨some 43,[],[],none⟩,⟨some 44,[3,2],[1,2,3],none⟩,⟨some 45,[2,4],[1,2,3,4],none⟩,⟨some 46,[],[],none⟩,⟨some 47,[6],[6],none⟩,⟨some 48,[5,7],[1,2,3,4,5,6,7],none⟩,⟨some 49,[],[],none⟩,⟨some 50,[9],[9],none⟩,⟨some 51,[10],[9,10],none⟩,⟨some 52,[11],[9,10,11],none⟩,⟨some 53,[8,12],[1,2,3,4,5,6,7,8,9,10,11,12],none⟩,⟨some 54,[],[],none⟩,⟨some 55,[14,4],[1,2,3,4,14],none⟩,⟨some 56,[],[],none⟩,⟨some 57,[16,15],[1,2,3,4,14,15,16],none⟩,⟨some 58,[15,17],[1,2,3,4,14,15,16,17],none⟩,⟨some 59,[],[],none⟩,⟨some 60,[19],[19],none⟩,⟨some 61,[18,20],[1,2,3,4,14,15,16,17,18,19,20],none⟩,⟨some 62,[13,21],[1,2,3,4,5,6,7,8,9,10,11,12,13,14,15,16,17,18,19,20,21],none⟩,⟨some 63,[],[],none⟩,⟨some 64,[23],[23],none⟩,⟨some 65,[24],[23,24],none⟩,⟨some 66,[25],[23,24,25],none⟩,⟨some 67,[22,26],[1,2,3,4,5,6,7,8,9,10,11,12,13,14,15,16,17,18,19,20,21,22,23,24,25,26],none⟩,⟨some 68,[0,0,1,2,3,4,5,6,7,8,9,10,11,12,13,14,15,16,17,18,19,20,21,22,23,24,25,26,27],[0,1,2,3,4,5,6,7,8,9,10,11,12,13,14,15,16,17,18,19,20,21,22,23,24,25,26,27],none⟩,⟨none,[28,27,17,0,1,2,3,4,5,6,7,8,9,10,11,12,13,14,15,16,17,18,19,20,21,22,23,24,25,26,27],[0,1,2,3,4,5,6,7,8,9,10,11,12,13,14,15,16,17,18,19,20,21,22,23,24,25,26,27,28],none⟩]
open Sha
def fst (b:List (BitVec 8)) (i:Nat):List (BitVec 32):=(List.range 64).map fun j=>num32 (((b.take i).drop (4*j)).take 4)
theorem fst_len (b:List (BitVec 8)) (i:Nat):(fst b i).length=64:=by simp [fst]
theorem fst_zero (b:List (BitVec 8)):fst b 0=List.replicate 64 0#32:=by
 simp only [fst,List.take_zero,List.drop_nil,List.take_nil];rfl
theorem fst_succ (b:List (BitVec 8)) (i:Nat) (hi:i<b.length) (h:i<64) :
  (fst b i).set (i / 4) (((fst b i)[i / 4]'(by rw [fst_len];omega)) <<< 8 ||| (b[i]).setWidth 32)=fst b (i+1):=by
 apply List.ext_getElem
 ·simp [fst]
 intro j h1 h2
 rw [List.length_set,fst_len] at h1
 rw [List.getElem_set]
 split
 ·rename_i hj
  subst hj
  simp only [fst,List.getElem_map,List.getElem_range]
  have e:((b.take (i+1)).drop (4*(i / 4))).take 4=((b.take i).drop (4*(i / 4))).take 4++[b[i]]:=by
   rw [List.take_succ_eq_append_getElem hi,List.drop_append_of_le_length (by simp;omega),List.take_append,List.take_of_length_le (l:=List.drop (4*(i / 4)) (List.take i b)) (by simp;omega)]
   congr 1
   rw [List.take_of_length_le]
   simp;omega
  rw [e]
  simp only [num32,List.foldl_append,List.foldl_cons,List.foldl_nil]
 ·rename_i hj
  simp only [fst,List.getElem_map,List.getElem_range]
  congr 1
  apply List.ext_getElem?
  intro k
  simp only [List.getElem?_take,List.getElem?_drop]
  repeat' split
  all_goals first|rfl|omega
theorem fst_all (b:List (BitVec 8)) (h:b.length=64):fst b 64=partL (wordsS b) (List.replicate 64 0#32) 16:=by
 apply List.ext_getElem
 ·rw [fst_len,partL_len (by rw [wordsS_len,List.length_replicate]),List.length_replicate]
 intro j h1 h2
 rw [fst_len] at h1
 by_cases hj:j<16
 ·rw [partL_lo (by rw [wordsS_len,List.length_replicate]) hj]
  have:=words_lo b j hj
  rw [List.getD_eq_getElem?_getD,List.getElem?_eq_getElem (by rw [wordsS_len];omega),Option.getD_some] at this
  rw [this]
  simp only [fst,List.getElem_map,List.getElem_range,chunk]
  rw [List.take_of_length_le (l:=b) (by omega)]
 ·rw [partL_at (by rw [wordsS_len,List.length_replicate]) (by omega)]
  simp only [fst,List.getElem_map,List.getElem_range]
  rw [List.take_of_length_le (l:=b) (by omega),List.drop_eq_nil_of_le (by omega)]
  rw [List.getElem_replicate]
  rfl
theorem words_get (b:List (BitVec 8)) (i:Nat) (h1:16≤i) (h2:i<64):(wordsS b)[i]'(by rw [wordsS_len];exact h2)=s1 ((wordsS b)[i - 2]'(by rw [wordsS_len];omega))+(wordsS b)[i - 7]'(by rw [wordsS_len];omega)+s0 ((wordsS b)[i - 15]'(by rw [wordsS_len];omega))+(wordsS b)[i - 16]'(by rw [wordsS_len];omega):=by
 have:=words_hi b i h1 h2
 simpa [List.getD_eq_getElem?_getD,List.getElem?_eq_getElem,wordsS_len,h2,show i - 2<64 by omega,show i - 7<64 by omega,show i - 15<64 by omega,show i - 16<64 by omega] using this
theorem hwz (b:List (BitVec 8)):(wordsS b).length=(List.replicate 64 0#32).length:=by rw [wordsS_len,List.length_replicate]
set_option maxHeartbeats 2000000 in
theorem dg_words64 (H:List Hl) (ad:Option Addr) (c:Nat) (b:List (BitVec 8)) (h:Rs (stars H) B ad c b) (hb:b.length=64) :
  Spec Tryz.prog 151 [.slice ad b.length c] H (fun _:Unit=>True) (fun _ => .agg ((wordsS b).map W4).toArray) (fun _=>H):=by
 refine spec_pure (res:=fun _=>[]) H Tryz.func151 rfl Tryz.ntmps151 (by kernel_rfl) rfl (fun W=>?_)
 repeat' (first|intro _|refine cw ?_|refine cw2 ?_ ?_|(refine k_alloc ?_;refine o1_alloc (cs:=(List.replicate 64 0#32).map W4) rfl (fun _=>?_))|refine ow ?_|refine ow2 ?_ ?_|fail)
 rename_i r w
 refine st_loop (S:=Nat) (fun i=>[(2,.pointer (some ⟨r,0,none⟩)),(3,.pointer (some ⟨w,0,none⟩)),(9,.slice ad b.length c),(10,I b.length),(11,I i)]) (fun i=>[.box w 227 ((fst b i).map W4),.box r 227 ((List.replicate 64 0#32).map W4),.any (stars H)]) (fun i=>i≤b.length) (fun i=>b.length - i) 0 (Nat.zero_le _)
  cv (by rw [fst_zero];exact ent) ?_
 intro i hi
 by_cases hlt:i<b.length
 ·have hl:=fst_len b i
  repeat' (first|intro _|refine cw ?_|refine cw2 ?_ ?_|(refine k_indexAddr ?_;first|refine o1_ia i rfl rfl h rfl rfl hlt ?_|refine ox_index_arr (i / 4) rfl rfl (by omega) (by omega) ?_)|(refine k_load ?_;refine o1_load_ia i rfl h hlt ?_)|(refine k_binOp .quo ?_;refine o1_quo rfl rfl (by omega) ?_)|(refine k_store ?_;refine ox_store_enc W4 rfl rfl (by omega) rfl ?_)|refine ow ?_|refine ow2 ?_ ?_|fail)
  refine nx_again (i+1) (by omega) (by omega) cv ?_
  rw [←fst_succ b i hlt (by omega)]
  exact ent
 ·have:i=b.length:=by omega
  subst this
  rw [hb,fst_all b hb]
  repeat' (first|intro _|refine cw ?_|refine cw2 ?_ ?_|refine ow ?_|refine ow2 ?_ ?_|fail)
  refine st_loop (S:=Nat) (fun i=>[(2,.pointer (some ⟨r,0,none⟩)),(3,.pointer (some ⟨w,0,none⟩)),(6,I (16+i:Nat))]) (fun i=>[.box w 227 ((partL (wordsS b) (List.replicate 64 0#32) (16+i)).map W4),.box r 227 ((List.replicate 64 0#32).map W4),.any (stars H)]) (fun i=>i≤48) (fun i=>48 - i) 0 (Nat.zero_le _)
   cv ent ?_
  intro i hi
  by_cases hlt:i<48
  ·have hl:=partL_len (hwz b) (16+i)
   rw [List.length_replicate] at hl
   repeat' (first|intro _|refine cw ?_|refine cw2 ?_ ?_|refine ow ?_|refine ow2 ?_ ?_|fail)
   refine st_stages' [(6,_),(3,_)] rtS4_0 [] [⟨[0,1,2,3,4,5,6,7,8,9],[],none⟩] mixed cv (by kernel_rfl) (by kernel_rfl) ?_
   repeat' (first|intro _|refine sg ?_|(refine p_indexAddr ?_;refine po (by first|refine ox_index_arr (16+i - 2) rfl rfl (by omega) (by omega) fz|refine ox_index_arr (16+i - 15) rfl rfl (by omega) (by omega) fz|fail) ?_)|refine pw ?_|refine pdd ?_|refine ow ?_|fail)
   all_goals dsimp only [List.cons_append,List.nil_append]
   repeat' (first|intro _|refine cw ?_|refine cw2 ?_ ?_|refine ow ?_|refine ow2 ?_ ?_|fail)
   refine st_stages' [(6,_),(7,_),(3,_),(8,_)] rtS4_1 [2,29] [⟨[0,1,3,6,7,9,10,11,12,14,16,19,20,23,24,25,26],[],some 2⟩,⟨[4,5,8,13,15,17,18,21,22,27,28],[0,3,6,7,9,10,11,12,14,16,19,20,23,24,25,26],some 29⟩,⟨[],[],none⟩] mixed cv (by kernel_rfl) (by kernel_rfl) ?_
   repeat' (first|intro _|refine sg ?_|(refine p_indexAddr ?_;refine po (by first|refine ox_index_arr (16+i - 7) rfl rfl (by omega) (by omega) fz|refine ox_index_arr (16+i - 16) rfl rfl (by omega) (by omega) fz|refine ox_index_arr (16+i) rfl rfl (by omega) (by omega) fz|fail) ?_)|(refine p_fn 153 ?_;refine po (by first|refine o1_call (fun _=>dg_turned _ _ _ (by decide)) rfl (fun _ _=>fz)|fail) ?_)|refine pw ?_|refine pdd ?_|(refine k_store ?_;refine ox_store_enc W4 rfl rfl (by omega) rfl ?_)|(refine k_fn 153 ?_;refine o1_call (fun _=>dg_turned _ _ _ (by decide)) rfl (fun _ _=>?_))|refine ow ?_|fail)
   all_goals dsimp only [List.cons_append,List.nil_append]
   repeat' (first|intro _|refine cw ?_|refine cw2 ?_ ?_|refine ow ?_|refine ow2 ?_ ?_|fail)
   refine nx_again (i+1) (by omega) (by omega) (cov_cons rfl rfl (cov_cons rfl rfl (cov_cons rfl ?_ cov_nil))) ?_
   ·show I (((16+i:Nat):Int)+1)=I ((16+(i+1):Nat):Int)
    congr 1
   ·have e:=partL_succ (hwz b) (i:=16+i) (by rw [wordsS_len];omega)
    rw [words_get b (16+i) (by omega) (by omega)] at e
    rw [show 16+(i+1)=16+i+1 from rfl,←e]
    simp only [partL_lo (hwz b) (show 16+i - 2<16+i by omega),partL_lo (hwz b) (show 16+i - 7<16+i by omega),partL_lo (hwz b) (show 16+i - 15<16+i by omega),partL_lo (hwz b) (show 16+i - 16<16+i by omega)]
    exact ent
  ·have:i=48:=by omega
   subst this
   rw [partL_full (hwz b) (by simp)]
   repeat' (first|intro _|refine cw ?_|refine cw2 ?_ ?_|(refine k_load ?_;refine ox_load_full rfl (wordsS_len b) ?_)|(refine k_store ?_;refine ox_store_full rfl rfl (wordsS_len b) rfl (fun _=>rfl) ?_)|refine ow ?_|refine ow2 ?_ ?_|fail)
   refine rt_cell () rfl rfl (by rw [List.length_map,wordsS_len]) rfl trivial ?_
   exact ent
def rtS5_0:List Row:=[⟨some 23,[],[],none⟩,⟨some 24,[0],[0],none⟩,⟨some 25,[],[],none⟩,⟨some 26,[2],[2],none⟩,⟨some 9,[1,0,1],[0,1],none⟩,⟨some 10,[3,4,0,1,2,3,4],[0,1,2,3,4],none⟩]
def rtS5_1:List Row:=[⟨some 52,[],[],none⟩,⟨some 53,[0],[0],none⟩,⟨some 54,[],[],none⟩,⟨some 55,[2],[2],none⟩,⟨some 56,[],[],none⟩,⟨some 57,[4,3],[2,3,4],none⟩,⟨some 58,[3,5],[2,3,4,5],none⟩,⟨some 59,[],[],none⟩,⟨some 60,[7,5],[2,3,4,5,7],none⟩,⟨some 61,[6,8],[2,3,4,5,6,7,8],none⟩,⟨some 62,[1,9],[0,1,2,3,4,5,6,7,8,9],none⟩,⟨some 63,[],[],none⟩,⟨some 64,[10,11],[0,1,2,3,4,5,6,7,8,9,10,11],none⟩,⟨some 65,[],[],none⟩,⟨some 66,[13],[13],none⟩,⟨some 67,[14],[13,14],none⟩,⟨some 68,[12,15],[0,1,2,3,4,5,6,7,8,9,10,11,12,13,14,15],none⟩,⟨some 69,[],[],none⟩,⟨some 70,[17],[17],none⟩,⟨some 71,[18],[17,18],none⟩,⟨some 72,[16,19],[0,1,2,3,4,5,6,7,8,9,10,11,12,13,14,15,16,17,18,19],none⟩,⟨some 13,[20,8,0,1,2,3,4,5,6,7,8,9,10,11,12,13,14,15,16,17,18,19,20],[0,1,2,3,4,5,6,7,8,9,10,11,12,13,14,15,16,17,18,19,20],none⟩]
def rtS5_2:List Row:=[⟨some 105,[],[],none⟩,⟨some 106,[0],[0],none⟩,⟨some 107,[1],[0,1],none⟩,⟨some 108,[],[],none⟩,⟨some 109,[3],[3],none⟩,⟨some 110,[4],[3,4],none⟩,⟨some 111,[2,5],[0,1,2,3,4,5],none⟩,⟨some 112,[0,0,1,2,3,4,5,6],[0,1,2,3,4,5,6],none⟩,⟨none,[7,6,0,1,2,3,4,5,6],[0,1,2,3,4,5,6,7],none⟩]
open Sha
theorem add_get (x y:R8) (i:Nat) (h:i<(x.add y).l.length) (h1:i<x.l.length) (h2:i<y.l.length):(x.add y).l[i]=x.l[i]+y.l[i]:=by
 have:i<8:=h
 have:i=0∨i=1∨i=2∨i=3∨i=4∨i=5∨i=6∨i=7:=by omega
 rcases this with rfl|rfl|rfl|rfl|rfl|rfl|rfl|rfl <;> rfl
theorem R8_len (x:R8):x.l.length=8:=rfl
theorem W_get (ws:List (BitVec 32)) (i:Nat) (h:i<ws.length):ws.getD i 0=ws[i]:=by rw [List.getD_eq_getElem?_getD,List.getElem?_eq_getElem h,Option.getD_some]
set_option maxHeartbeats 400000 in
theorem dg_takes (H:List Hl) (x:R8) (ad:Option Addr) (c:Nat) (b:List (BitVec 8)) (h:Rs (stars H) B ad c b) (hb:b.length=64) :
  Spec Tryz.prog 104 [.agg (x.l.map W4).toArray,.slice ad b.length c] H (fun _:Unit=>True) (fun _ => .agg ((comp x b).l.map W4).toArray) (fun _=>H):=by
 refine spec_pure (res:=fun _=>[]) H Tryz.func104 rfl Tryz.ntmps104 (by kernel_rfl) rfl (fun W=>?_)
 repeat' (first|intro _|refine cw ?_|refine cw2 ?_ ?_|(refine k_box ?_;refine o1_box (cs:=x.l.map W4) rfl rfl (fun _=>?_))|(refine k_alloc ?_;first|refine o1_alloc (T:=185) (cs:=(List.replicate 8 0#32).map W4) rfl (fun _=>?_)|refine o1_alloc (T:=227) (cs:=(List.replicate 64 0#32).map W4) rfl (fun _=>?_))|(refine k_fn 151 ?_;refine o1_call (fun _=>dg_words64 _ _ _ b h.up hb) rfl (fun _ _=>?_))|(refine k_fn 152 ?_;refine o1_call (fun _=>dg_constants _) rfl (fun _ _=>?_))|(refine k_store ?_;first|refine ox_store_full (T:=227) rfl rfl (by simp only [wordsS_len,K_len]) (by exact rfl) (fun _=>rfl) ?_|refine ox_store_full (T:=185) rfl rfl (by simp only [R8_len]) (by exact rfl) (fun _=>rfl) ?_)|(refine k_load ?_;refine ox_load_full (T:=185) rfl (by simp only [R8_len]) ?_)|refine ow ?_|refine ow2 ?_ ?_|fail)
 rename_i bs br _ _ _ _ bw bk bx
 rw [show comp x b=x.add (rds (wordsS b) 64 x) from rfl]
 have hwl:=wordsS_len b
 generalize wordsS b=ws at *
 obtain ⟨f,hf0,hfs,hf64⟩:∃ f:Nat→R8,f 0=x∧(∀ i,f (i+1)=rnd (K.getD i 0) (ws.getD i 0) (f i))∧f 64=rds ws 64 x:=⟨fun i=>rds ws i x,rfl,fun _=>rfl,rfl⟩
 rw [←hf64]
 clear hf64
 refine st_loop (S:=Nat) (fun i=>[(2,.pointer (some ⟨bs,0,none⟩)),(4,.pointer (some ⟨br,0,none⟩)),(5,.pointer (some ⟨bw,0,none⟩)),(6,.pointer (some ⟨bk,0,none⟩)),(7,.pointer (some ⟨bx,0,none⟩)),(20,I i)]) (fun i=>[.box bx 185 ((f i).l.map W4),.box bk 227 (K.map W4),.box bw 227 ((ws).map W4),.box br 185 ((List.replicate 8 0#32).map W4),.box bs 185 (x.l.map W4),.any (stars H)]) (fun i=>i≤64) (fun i=>64 - i) 0 (Nat.zero_le _)
  cv (by rw [hf0];exact ent) ?_
 intro i hi
 by_cases hlt:i<64
 ·have hWl:i<ws.length:=by rw [hwl];exact hlt
  have hW:=W_get ws i hWl
  have hKl:i<K.length:=hlt
  have hK:=W_get K i hKl
  generalize hy:f i=y
  dsimp only [R8.l,List.map_cons,List.map_nil]
  repeat' (first|intro _|refine cw ?_|refine cw2 ?_ ?_|refine ow ?_|refine ow2 ?_ ?_|fail)
  refine st_stages' [(7,_)] rtS5_0 [] [⟨[0,1,2,3,4,5],[],none⟩] mixed cv (by kernel_rfl) (by kernel_rfl) ?_
  repeat' (first|intro _|refine sg ?_|(refine p_indexAddr ?_;refine po (by first|refine ox_index_arr _ rfl rfl rfl (by decide) fz|fail) ?_)|refine pw ?_|refine pdd ?_|refine ow ?_|fail)
  all_goals dsimp only [List.cons_append,List.nil_append]
  repeat' (first|intro _|refine cw ?_|refine cw2 ?_ ?_|(refine k_indexAddr ?_;refine ox_index_arr _ rfl rfl rfl (by decide) ?_)|refine ow ?_|refine ow2 ?_ ?_|fail)
  refine st_stages' [(7,_),(10,_),(11,_),(8,_),(6,_),(5,_)] rtS5_1 [3] [⟨[0,1,2,4,7,11,13,14,15,17,18,19],[],some 3⟩,⟨[5,6,8,9,10,12,16,20,21],[0,1,4,7,11,13,14,15,17,18,19],none⟩] mixed cv (by kernel_rfl) (by kernel_rfl) ?_
  repeat' (first|intro _|refine sg ?_|(refine p_indexAddr ?_;refine po (by first|refine ox_index_arr i rfl rfl rfl hlt fz|refine ox_index_arr _ rfl rfl rfl (by decide) fz|fail) ?_)|(refine p_load ?_;refine po (by first|refine ox_load_enc (l:=K) rfl hKl fz|refine ox_load_enc (l:=ws) rfl hWl fz|fail) ?_)|(refine p_fn 153 ?_;refine po (by first|refine o1_call (fun _=>dg_turned _ _ _ (by decide)) rfl (fun _ _=>fz)|fail) ?_)|refine pw ?_|refine pdd ?_|(refine k_fn 153 ?_;refine o1_call (fun _=>dg_turned _ _ _ (by decide)) rfl (fun _ _=>?_))|refine ow ?_|fail)
  all_goals dsimp only [List.cons_append,List.nil_append]
  repeat' (first|intro _|refine cw ?_|refine cw2 ?_ ?_|(refine k_indexAddr ?_;refine ox_index_arr _ rfl rfl rfl (by decide) ?_)|(refine k_fn 153 ?_;refine o1_call (fun _=>dg_turned _ _ _ (by decide)) rfl (fun _ _=>?_))|refine ow ?_|refine ow2 ?_ ?_|fail)
  refine nx_again (i+1) (by omega) (by omega) cv ?_
  have hr:f (i+1)=rnd K[i] ws[i] y:=by rw [hfs,hK,hW,hy]
  rw [hr]
  dsimp only [rnd,one,two,List.map_cons,List.map_nil,List.set_cons_zero,List.set_cons_succ]
  exact ent
 ·have:i=64:=by omega
  subst this
  generalize f 64=y
  have hz:(x.add y).l.length=x.l.length:=rfl
  repeat' (first|intro _|refine cw ?_|refine cw2 ?_ ?_|refine ow ?_|refine ow2 ?_ ?_|fail)
  refine st_loop (S:=Nat) (fun i=>[(2,.pointer (some ⟨bs,0,none⟩)),(4,.pointer (some ⟨br,0,none⟩)),(7,.pointer (some ⟨bx,0,none⟩)),(102,I i)]) (fun i=>[.box bs 185 ((partL (x.add y).l x.l i).map W4),.box bx 185 (y.l.map W4),.box br 185 ((List.replicate 8 0#32).map W4),.any (stars H)]) (fun i=>i≤8) (fun i=>8 - i) 0 (Nat.zero_le _)
   cv ent ?_
  intro i hi
  by_cases hlt:i<8
  ·have hl:(partL (x.add y).l x.l i).length=8:=partL_len hz i
   have hil:i<(partL (x.add y).l x.l i).length:=by rw [hl];exact hlt
   have hx8:i<x.l.length:=hlt
   have hy8:i<y.l.length:=hlt
   have hxy8:i<(x.add y).l.length:=hlt
   repeat' (first|intro _|refine cw ?_|refine cw2 ?_ ?_|refine ow ?_|refine ow2 ?_ ?_|fail)
   refine st_stages' [(15,_),(2,_),(7,_)] rtS5_2 [8] [⟨[0,1,2,3,4,5,6,7],[],some 8⟩,⟨[],[],none⟩] mixed cv (by kernel_rfl) (by kernel_rfl) ?_
   repeat' (first|intro _|refine sg ?_|(refine p_indexAddr ?_;refine po (by first|refine ox_index_arr i rfl rfl rfl hlt fz|fail) ?_)|(refine p_load ?_;refine po (by first|refine ox_load_enc (l:=partL (x.add y).l x.l i) rfl hil fz|refine ox_load_enc (l:=y.l) rfl hy8 fz|fail) ?_)|refine pw ?_|refine pdd ?_|(refine k_store ?_;refine ox_store_enc W4 rfl rfl hil rfl ?_)|refine ow ?_|fail)
   all_goals dsimp only [List.cons_append,List.nil_append]
   repeat' (first|intro _|refine cw ?_|refine cw2 ?_ ?_|refine ow ?_|refine ow2 ?_ ?_|fail)
   refine nx_again (i+1) (by omega) (by omega) cv ?_
   have e:(partL (x.add y).l x.l i).set i (x.l[i]'hx8+y.l[i]'hy8)=partL (x.add y).l x.l (i+1):=by
    exact (congrArg (fun v=>(partL (x.add y).l x.l i).set i v) (add_get x y i hxy8 hx8 hy8)).symm.trans (partL_succ hz hxy8)
   rw [partL_at hz (Nat.le_refl i),←e]
   exact ent
  ·have:i=8:=by omega
   subst this
   rw [partL_full (i:=8) hz (by rfl)]
   repeat' (first|intro _|refine cw ?_|refine cw2 ?_ ?_|(refine k_load ?_;refine ox_load_full (T:=185) rfl (by simp only [R8_len]) ?_)|(refine k_store ?_;refine ox_store_full (T:=185) rfl rfl (by simp only [R8_len]) (by exact rfl) (fun _=>rfl) ?_)|refine ow ?_|refine ow2 ?_ ?_|fail)
   refine rt_cell () rfl rfl rfl rfl trivial ?_
   exact ent
def rtS6_0:List Row:=[⟨some 16,[],[],none⟩,⟨some 17,[],[],none⟩,⟨some 18,[1],[1],none⟩,⟨some 19,[0,2],[0,1,2],none⟩,⟨none,[3,3,0,1,2,3],[0,1,2,3],none⟩]
open Sha
theorem out_succ (l:List (BitVec 32)) (i:Nat) (h:i<l.length):(l.take (i+1)).flatMap be4=(l.take i).flatMap be4++be4 l[i]:=by
 rw [List.take_succ_eq_append_getElem h,List.flatMap_append];simp
set_option maxHeartbeats 1000000 in
theorem dg_Sum (H:List Hl) (ad:Option Addr) (c:Nat) (b d:List (BitVec 8)) (h:Rs (stars H) B ad c b) (hb:b.length≤70368744177664) (hd:sha b=d) :
  Spec Tryz.prog 56 [.slice ad b.length c] H (fun _:Option Addr × Nat=>True) (fun r => .slice r.1 d.length r.2) (fun r => .row 5 1 (.slice r.1 d.length r.2) d.length (d.map B)::H):=by
 refine spec_pure (res:=fun r:Option Addr × Nat=>[.row 5 1 (.slice r.1 d.length r.2) d.length (d.map B)]) H Tryz.func56 rfl Tryz.ntmps56 (by kernel_rfl) rfl (fun W=>?_)
 have hdl:d.length=32:=by rw [←hd];exact sha_len b
 repeat' (first|intro _|refine cw ?_|refine cw2 ?_ ?_|(refine k_fn 102 ?_;refine o1_call (fun _=>dg_begin _) rfl (fun _ _=>?_))|(refine k_alloc ?_;refine o1_alloc (T:=185) (cs:=(List.replicate 8 0#32).map W4) rfl (fun _=>?_))|(refine k_store ?_;refine ox_store_full (T:=185) rfl rfl (by simp only [R8_len]) (by exact rfl) (fun _=>rfl) ?_)|(refine k_fn 103 ?_;(refine o1_call (fun _=>dg_filled _ _ _ b h.up hb) rfl (fun ⟨a1,c1⟩ _=>?_);dsimp only))|refine ow ?_|refine ow2 ?_ ?_|fail)
 rename_i bs _ _
 have ht:∃ (t:List (BitVec 8)) (N:Nat) (f:Nat→R8),pad b=t∧t.length=64*N∧f 0=H0∧(∀ j,f (j+1)=comp (f j) ((t.drop (64*j)).take 64))∧out (f N)=d:=by
  refine ⟨pad b,(pad b).length / 64,fun j=>st (pad b) j,rfl,?_,rfl,fun _=>rfl,hd⟩
  have:=pad_mod b
  omega
 obtain ⟨t,N,f,e1,hN,hf0,hfs,hfd⟩:=ht
 rw [e1]
 clear hd e1
 refine st_ent (H2:=[.box bs 185 (H0.l.map W4)]++[.row 5 1 (.slice a1 t.length c1) t.length (t.map B),.any (stars H)]) (Ent.out ent) (st_has (fun hh=>?_))
 have hr:Rs (stars [.row 5 1 (.slice a1 t.length c1) t.length (t.map B),.any (stars H)]) B a1 c1 t:=rx_row (has_tail hh)
 refine st_shut [.box bs 185 (H0.l.map W4)] _ ?_
 generalize hA:stars [.row 5 1 (.slice a1 t.length c1) t.length (t.map B),.any (stars H)]=A at hr
 refine st_loop (S:=Nat × Option Addr × Nat) (fun s=>[(3,.pointer (some ⟨bs,0,none⟩)),(4,.slice s.2.1 (t.drop (64*s.1)).length s.2.2)]) (fun s=>[.box bs 185 ((f s.1).l.map W4),.any A]) (fun s=>s.1≤N∧Rs A B s.2.1 s.2.2 (t.drop (64*s.1))) (fun s=>N - s.1) (0,a1,c1) ⟨Nat.zero_le _,by simpa using hr⟩
  (cov_cons rfl rfl (cov_cons rfl (by simp) cov_nil)) (by rw [hf0];exact ent) ?_
 rintro ⟨j,a2,c2⟩ ⟨hj,hr2⟩
 dsimp only at hj hr2 ⊢
 have hle:=hr2.le
 have hdl2:(t.drop (64*j)).length=64*N - 64*j:=by rw [List.length_drop,hN]
 have hbig:=hr2.big
 by_cases hlt:j<N
 ·have h64:64≤(t.drop (64*j)).length:=by omega
  repeat' (first|intro _|refine cw ?_|refine cw2 ?_ ?_|refine ow ?_|refine ow2 ?_ ?_|fail)
  refine st_stages' [(3,_),(4,_)] rtS6_0 [3,4] [⟨[0,1,2],[],some 3⟩,⟨[],[],some 4⟩,⟨[],[],none⟩] mixed cv (by kernel_rfl) (by kernel_rfl) ?_
  repeat' (first|intro _|refine sg ?_|(refine p_load ?_;refine po (by first|refine ox_load_full (T:=185) rfl (by simp only [R8_len]) fz|fail) ?_)|(refine p_slice ?_;refine po (by first|refine o1_cs_h (xs:=t.drop (64*j)) 64 rfl rfl rfl rfl hle h64 fz|fail) ?_)|refine pw ?_|refine pdd ?_|(refine k_fn 104 ?_;refine o1_call (fun _=>dg_takes _ (f j) _ _ _ (Rs.up (hr2.cuth 64 h64)) (by rw [List.length_take];omega)) rfl (fun _ _=>?_))|(refine k_store ?_;refine ox_store_full (T:=185) rfl rfl (by simp only [R8_len]) (by simp only [List.length_map,R8_len]) (fun _=>rfl) ?_)|refine ow ?_|fail)
  all_goals dsimp only [List.cons_append,List.nil_append]
  repeat' (first|intro _|refine cw ?_|refine cw2 ?_ ?_|(refine k_slice ?_;refine o1_cs_l (xs:=t.drop (64*j)) 64 rfl rfl rfl rfl h64 ?_)|refine ow ?_|refine ow2 ?_ ?_|fail)
  have e3:(t.drop (64*j)).drop 64=t.drop (64*(j+1)):=by rw [List.drop_drop,Nat.mul_add,Nat.mul_one]
  refine nx_again (j+1,cutA a2 c2 64,c2 - 64) ⟨by show j+1≤N;omega,?_⟩ (by show N - (j+1)<N - j;omega) (cov_cons rfl rfl (cov_cons rfl ?_ cov_nil)) ?_
  ·show Rs A B (cutA a2 c2 64) (c2 - 64) (t.drop (64*(j+1)))
   rw [←e3]
   exact hr2.cutl 64 h64
  ·show _=Value.slice (cutA a2 c2 64) (t.drop (64*(j+1))).length (c2 - 64)
   rw [←e3]
  ·show Ent _ [.box bs 185 ((f (j+1)).l.map W4),.any A]
   rw [hfs]
   exact ent
 ·have:j=N:=by omega
  subst this
  subst hA
  generalize f j=x at *
  repeat' (first|intro _|refine cw ?_|refine cw2 ?_ ?_|(refine k_load ?_;refine ox_load_full (T:=185) rfl (by simp only [R8_len]) ?_)|refine ow ?_|refine ow2 ?_ ?_|fail)
  refine st_open [.box bs 185 (x.l.map W4)] _ ?_
  refine st_ent (ent_nil 5 B) ?_
  refine st_loop (S:=Nat × Option Addr × Nat) (fun s=>[(5,.slice s.2.1 (4*s.1) s.2.2),(20,.agg (x.l.map W4).toArray),(21,I s.1)]) (fun s=>[.row 5 1 (.slice s.2.1 (4*s.1) s.2.2) (4*s.1) (((x.l.take s.1).flatMap be4).map B),.any (stars H)]) (fun s=>s.1≤8) (fun s=>8 - s.1) (0,none,0) (Nat.zero_le _)
   cv ent ?_
  rintro ⟨i,a3,c3⟩ hi
  dsimp only at hi ⊢
  by_cases hlt8:i<8
  ·have hxl:i<x.l.length:=hlt8
   repeat' (first|intro _|refine cw ?_|refine cw2 ?_ ?_|(refine k_index ?_;refine o1_index_enc (l:=x.l) i rfl rfl rfl hlt8 hxl ?_)|refine ow ?_|refine ow2 ?_ ?_|fail)
   refine nx_again (i+1,_,_) (by show i+1≤8;omega) (by show 8 - (i+1)<8 - i;omega) cv ?_
   dsimp only
   rw [out_succ x.l i hxl]
   exact ent
  ·have:i=8:=by omega
   subst this
   repeat' (first|intro _|refine cw ?_|refine cw2 ?_ ?_|refine ow ?_|refine ow2 ?_ ?_|fail)
   have e4:(x.l.take 8).flatMap be4=d:=hfd
   rw [e4]
   refine rt_tmp (a3,c3) rfl rfl (by rw [hdl]) trivial ?_
   rw [hdl]
   exact ent
theorem dg_Rows (H:List Hl) (ad:Option Addr) (c:Nat) (ls:List (SlD (BitVec 8))) (d:List (BitVec 8)) (h:Rs (stars H) Bs ad c ls) (hs:∀ s∈ls,Rs (stars H) B s.ad s.cap s.l) (hb:(cat ls).length≤70368744177664) (hd:sha (cat ls)=d) :
  Spec Tryz.prog 128 [.slice ad ls.length c] H (fun _:Option Addr × Nat=>True) (fun r => .slice r.1 d.length r.2)
   (fun r => .row 5 1 (.slice r.1 d.length r.2) d.length (d.map B)::H):=by
 have b1:=h.le
 have b2:=h.big
 have hle:∀ i,(cat (ls.take i)).length≤(cat ls).length:=fun i=>by
  have:cat ls=cat (ls.take i)++cat (ls.drop i):=by simp only [cat];rw [←List.flatMap_append,List.take_append_drop]
  rw [this,List.length_append]
  omega
 refine spec_pure (res:=fun r:Option Addr × Nat=>[.row 5 1 (.slice r.1 d.length r.2) d.length (d.map B)]) H Tryz.func128 rfl Tryz.ntmps128 (by kernel_rfl) rfl (fun W=>?_)
 repeat' (first|intro _|refine cw ?_|refine cw2 ?_ ?_|refine ow ?_|refine ow2 ?_ ?_|fail)
 refine st_ent (ent_nil 5 B) ?_
 refine st_loop (S:=Nat × Option Addr × Nat) (fun s=>[(3,.slice s.2.1 (cat (ls.take s.1)).length s.2.2),(6,.slice ad ls.length c),(7,I ls.length),(8,I s.1)]) (fun s=>[.row 5 1 (.slice s.2.1 (cat (ls.take s.1)).length s.2.2) (cat (ls.take s.1)).length ((cat (ls.take s.1)).map B),.any (stars H)]) (fun s=>s.1≤ls.length) (fun s=>ls.length - s.1) (0,none,0) (Nat.zero_le _)
  cv (Ent.refl _) ?_
 rintro ⟨i,a1,c1⟩ hi
 dsimp only at hi ⊢
 have hi1:=hle (i+1)
 by_cases hlt:i<ls.length
 ·have hsi:=hs ls[i] (List.getElem_mem _)
  rw [cat_succ _ _ hlt,List.length_append] at hi1
  repeat' (first|intro _|refine cw ?_|refine cw2 ?_ ?_|(refine k_indexAddr ?_;refine o1_ia i rfl rfl h rfl rfl hlt ?_)|(refine k_load ?_;refine o1_load_ia i rfl h hlt ?_)|(refine k_call ?_;refine ox_append rfl rfl (rx_any hsi) rfl rfl (fun _=>rfl) (by omega) (by omega) (fun a2 c2=>?_))|refine ow ?_|refine ow2 ?_ ?_|fail)
  refine nx_again (i+1,a2,c2) ?_ ?_ (cov_cons rfl ?_ cv) ?_
  ·show i+1≤_;omega
  ·show ls.length - (i+1)<ls.length - i;omega
  ·show _=Value.slice a2 (cat (ls.take (i+1))).length c2
   rw [cat_succ _ _ hlt,List.length_append]
  ·show Ent _ [Hl.row 5 1 (.slice a2 (cat (ls.take (i+1))).length c2) (cat (ls.take (i+1))).length ((cat (ls.take (i+1))).map B),.any (stars H)]
   rw [cat_succ _ _ hlt,List.length_append]
   exact Ent.refl _
 ·have:i=ls.length:=by omega
  subst this
  rw [List.take_length]
  repeat' (first|intro _|refine cw ?_|refine cw2 ?_ ?_|(refine k_fn 56 ?_;(refine o1_call (fun hh=>dg_Sum _ _ _ (cat ls) d (rx_row hh) hb hd) rfl (fun ⟨_,_⟩ _=>?_);dsimp only))|refine ow ?_|refine ow2 ?_ ?_|fail)
  refine rt_tmp (_,_) rfl rfl rfl trivial ?_
  exact ent
open Sha
open Sha
theorem sl_may (H:List Hl) (ad:Option Addr) (n c:Nat):Spec Tryz.prog 62 [.slice ad n c] H (fun _:Unit=>True) (fun _ => .bool (decide (1≤n∧n≤512))) (fun r=>H):=by
 refine spec_pure (res:=fun _=>[]) H Tryz.func62 rfl Tryz.ntmps62 (by kernel_rfl) rfl (fun W=>?_)
 repeat' (first|intro _|refine cw ?_|refine cw2 ?_ ?_|refine ow ?_|refine ow2 ?_ ?_|fail)
 all_goals (refine rt_tmp () rfl rfl ?_ trivial ?_;· refine congrArg Value.bool (Bool.eq_iff_iff.2 ?_);simp only [decide_eq_true_eq,eq_self,true_iff,false_iff,reduceCtorEq];omega)
 all_goals exact ent
def slotOf (v:BitVec 32) (n:Nat) (r:PA) (d:List (BitVec 8)):SlotD:=⟨v,n,⟨r.1,r.2,d⟩⟩
theorem sl_Of (H:List Hl) (v:BitVec 32) (ad:Option Addr) (c:Nat) (b d:List (BitVec 8)) (h:Rs (stars H) B ad c b) (hb:1≤b.length∧b.length≤512) (hd:sha b=d) :
  Spec Tryz.prog 60 [W4 v,.slice ad b.length c] H (fun _:PA=>True) (fun r => .tuple #[(slotOf v b.length r d).V,.bool true]) (fun r=>rowL r d::H):=by
 refine spec_pure (res:=fun r:PA=>[rowL r d]) H Tryz.func60 rfl Tryz.ntmps60 (by kernel_rfl) rfl (fun W=>?_)
 repeat' (first|intro _|refine cw ?_|refine cw2 ?_ ?_|(refine k_fn 62 ?_;refine o1_call (fun _=>(sl_may _ _ _ _).bv (b:=true) (decide_eq_true hb)) rfl (fun _ _=>?_))|(refine k_fn 56 ?_;(refine o1_call (fun _=>dg_Sum _ _ _ b d h.up (by omega) hd) rfl (fun ⟨a5,c5⟩ _=>?_);dsimp only))|refine ow ?_|refine ow2 ?_ ?_|fail)
 refine rt_cell_tmp (a5,c5) rfl rfl rfl rfl rfl trivial ?_
 exact ent
def zSl:SlotD:=⟨0#32,0,⟨none,0,[]⟩⟩
def fstS (v:BitVec 32) (n:Nat) (r:PA) (d:List (BitVec 8)):StD:=⟨0,0,0#32,0#32,slotOf v n r d,zSl,false,zM⟩
theorem bt_First (H:List Hl) (v:BitVec 32) (ad:Option Addr) (c:Nat) (b d:List (BitVec 8)) (h:Rs (stars H) B ad c b) (hb:1≤b.length∧b.length≤512) (hd:sha b=d) :
  Spec Tryz.prog 28 [W4 v,.slice ad b.length c] H (fun _:PA=>True) (fun r => .tuple #[(fstS v b.length r d).V,.bool true]) (fun r=>rowL r d::H):=by
 refine spec_pure (res:=fun r:PA=>[rowL r d]) H Tryz.func28 rfl Tryz.ntmps28 (by kernel_rfl) rfl (fun W=>?_)
 repeat' (first|intro _|refine cw ?_|refine cw2 ?_ ?_|(refine k_fn 60 ?_;(refine o1_call (fun _=>sl_Of _ v _ _ b d h.up hb hd) rfl (fun ⟨a5,c5⟩ _=>?_);dsimp only [SlotD.V,SlotD.c,slotOf]))|refine ow ?_|refine ow2 ?_ ?_|fail)
 refine rt_cell_tmp (a5,c5) rfl rfl rfl rfl rfl trivial ?_
 exact ent
theorem fst_may (v:BitVec 32) (n:Nat) (r:PA) (d:List (BitVec 8)) (hn:1≤n∧n≤512) (hd:d.length=32):(fstS v n r d).may=true:=by
 refine may_iff.2 ⟨.inl rfl,by show 0≤(0:Int)∧(0:Int)≤3;omega,?_,.inr ⟨rfl,by show (0:Int)≤0;omega⟩,rfl⟩
 exact decide_eq_true (show d.length=32∧1≤(n:Int)∧(n:Int)≤512 from ⟨hd,by omega,by omega⟩)
theorem sl_first (H:List Hl) (s:Nat) (hs:s<2) :
  Spec Tryz.prog 65 [I s] H (fun _:Unit=>True) (fun _=>I (2+s*2:Nat)) (fun _=>H):=by
 refine spec_pure (res:=fun _=>[]) H Tryz.func65 rfl Tryz.ntmps65 (by kernel_rfl) rfl (fun W=>?_)
 have e:(2:Int)+(s:Int)*2=((2+s*2:Nat):Int):=by omega
 repeat' (first|intro _|refine cw ?_|refine cw2 ?_ ?_|(refine k_binOp .mul ?_;refine o1_mul rfl rfl (by omega) ?_)|(refine k_binOp .add ?_;(refine o1_add rfl rfl (by omega) ?_;rw [e]))|refine ow ?_|refine ow2 ?_ ?_|fail)
 refine rt_tmp () rfl rfl rfl trivial ?_
 exact ent
theorem sl_Read (H:List Hl) (b:Nat) (ad:Option Addr) (c:Nat) (f:Fl) (s n:Nat) (h:RdFl (stars H) b ad c f) (hs:s<2) (hn:n≤512) (hd:f.pw.isDown=false) :
  Spec Tryz.prog 48 [.pointer (some ⟨b,0,none⟩),I s,I n] H (fun _:Option Addr × Nat=>True) (fun r => .tuple #[.slice r.1 n r.2,I 0]) (fun r => .row 5 1 (.slice r.1 n r.2) n ((seg f.bs (slotA s) n).map B)::H):=by
 refine spec_pure (res:=fun r:Option Addr × Nat=>[.row 5 1 (.slice r.1 n r.2) n ((seg f.bs (slotA s) n).map B)]) H Tryz.func48 rfl Tryz.ntmps48 (by kernel_rfl) rfl (fun W=>?_)
 have e1:((2+s*2:Nat):Int)*256=(slotA s:Int):=by unfold slotA;omega
 have e2:slotA s≤1024:=by unfold slotA;omega
 have hx:s=0∨s=1:=by omega
 obtain ⟨a,ha⟩:∃ a,slotA s=a:=⟨_,rfl⟩
 rw [ha] at e1 e2 ⊢
 rcases hx with rfl|rfl
 ·repeat' (first|intro _|refine cw ?_|refine cw2 ?_ ?_|(refine k_fn 65 ?_;(refine o1_call (fun _=>sl_first _ 0 (by decide)) rfl (fun _ _=>?_)))|(refine k_binOp .mul ?_;(refine o1_mul rfl rfl (by omega) ?_;rw [e1]))|(refine k_fn 98 ?_;(refine o1_call (fun _=>fl_Read _ b ad c f a n h.up (by omega) hd) rfl (fun ⟨a27,c27⟩ _=>?_);(try dsimp only)))|refine ow ?_|refine ow2 ?_ ?_|fail)
  refine rt_tmp2 (a27,c27) rfl rfl rfl rfl trivial ?_
  exact ent
 ·repeat' (first|intro _|refine cw ?_|refine cw2 ?_ ?_|(refine k_fn 65 ?_;(refine o1_call (fun _=>sl_first _ 1 (by decide)) rfl (fun _ _=>?_)))|(refine k_binOp .mul ?_;(refine o1_mul rfl rfl (by omega) ?_;rw [e1]))|(refine k_fn 98 ?_;(refine o1_call (fun _=>fl_Read _ b ad c f a n h.up (by omega) hd) rfl (fun ⟨a27,c27⟩ _=>?_);(try dsimp only)))|refine ow ?_|refine ow2 ?_ ?_|fail)
  refine rt_tmp2 (a27,c27) rfl rfl rfl rfl trivial ?_
  exact ent
def clrF (f:Fl) (s:Nat):Fl × Int:=if (clr1 f (2+s*2)).2≠0 then clr1 f (2+s*2) else clr1 (clr1 f (2+s*2)).1 (2+s*2+1)
theorem slotW_down {f:Fl} {s:Nat} {x:List (BitVec 8)} (hd:f.pw.isDown=true):slotW f s x=(f,11):=by
 unfold slotW
 cases hp:f.pw with
 | down z=>rfl
 | on=>rw [hp] at hd;cases hd
 | fuse n=>rw [hp] at hd;cases hd
theorem slotW_up {f:Fl} {s:Nat} {x:List (BitVec 8)} (hd:f.pw.isDown=false):slotW f s x=if (clrF f s).2≠0 then clrF f s else if (progF (clrF f s).1 (slotA s) x).2≠0 then progF (clrF f s).1 (slotA s) x else ((progF (clrF f s).1 (slotA s) x).1,if seg (progF (clrF f s).1 (slotA s) x).1.bs (slotA s) x.length=x then 0 else 13):=by
 have e:slotW f s x=(let r1:=clr1 f (2+s*2);if r1.2≠0 then r1 else let r2:=clr1 r1.1 (2+s*2+1);if r2.2≠0 then r2 else let r3:=progF r2.1 (slotA s) x;if r3.2≠0 then r3 else (r3.1,if seg r3.1.bs (slotA s) x.length=x then 0 else 13)):=by
  unfold slotW
  cases hp:f.pw with
  | down z=>rw [hp] at hd;cases hd
  | on=>rfl
  | fuse n=>rfl
 rw [e]
 unfold clrF
 dsimp only
 by_cases h:(clr1 f (2+s*2)).2≠0
 ·simp only [if_pos h]
 ·simp only [if_neg h]
theorem eraseF_up {f f':Fl} {s:Nat} {v:Int} (h:eraseF f s=(f',v)) (hv:v=0):f'.pw.isDown=false:=by
 subst hv
 unfold eraseF at h
 cases hp:f.pw with
 | down z=>rw [hp] at h;cases h
 | on =>
  rw [hp] at h
  dsimp only at h
  split at h
  ·cases h
  ·obtain ⟨e,_⟩:=Prod.mk.inj h
   rw [←e];rfl
 | fuse n =>
  rw [hp] at h
  dsimp only at h
  split at h
  ·cases h
  ·cases n with
   | zero=>cases h
   | succ m =>
    obtain ⟨e,_⟩:=Prod.mk.inj h
    rw [←e];rfl
theorem progF_up {f f':Fl} {a:Nat} {x:List (BitVec 8)} {v:Int} (h:progF f a x=(f',v)) (hv:v=0):f'.pw.isDown=false:=by
 subst hv
 unfold progF at h
 cases hp:f.pw with
 | down z=>rw [hp] at h;cases h
 | on =>
  rw [hp] at h
  obtain ⟨e,_⟩:=Prod.mk.inj h
  rw [←e];rfl
 | fuse n =>
  rw [hp] at h
  dsimp only at h
  split at h
  ·obtain ⟨e,_⟩:=Prod.mk.inj h
   rw [←e];rfl
  ·cases h
set_option maxHeartbeats 4000000 in
theorem sl_clear (H:List Hl) (b:Nat) (ad:Option Addr) (c:Nat) (f:Fl) (h:Hid) (s:Nat) (hk:FlOk f h) (hs:s<2) (hd:f.pw.isDown=false) :
  Spec Tryz.prog 64 [.pointer (some ⟨b,0,none⟩),I s] (fB b ad c f h::fR ad c f::H) (fun h':Hid=>FlOk (clrF f s).1 h') (fun _=>I (clrF f s).2) (fun h'=>fB b ad c (clrF f s).1 h'::fR ad c (clrF f s).1::H):=by
 refine spec_fn (res:=fun h':Hid=>[fB b ad c (clrF f s).1 h',fR ad c (clrF f s).1]) [fB b ad c f h,fR ad c f] H Tryz.func64 rfl Tryz.ntmps64 (by kernel_rfl) rfl (fun W=>?_)
 dsimp only [List.cons_append,List.nil_append]
 unfold clrF
 obtain ⟨A,hA⟩:∃ A,2+s*2=A:=⟨_,rfl⟩
 have hA4:A≤4:=by omega
 rw [hA]
 have e0:(A:Int)+0=(A:Int):=by omega
 have e1:(A:Int)+(0+1)=((A+1:Nat):Int):=by omega
 obtain ⟨a0,ha0⟩:∃ a0,A*256=a0:=⟨_,rfl⟩
 obtain ⟨a1,ha1⟩:∃ a1,(A+1)*256=a1:=⟨_,rfl⟩
 have m0:(A:Int)*256=(a0:Int):=by omega
 have m1:((A+1:Nat):Int)*256=(a1:Int):=by omega
 obtain ⟨⟨f1,v1⟩,hr1⟩:∃ r,eraseF f A=r:=⟨_,rfl⟩
 have up1:=eraseF_up hr1
 obtain ⟨⟨f2,v2⟩,hr2⟩:∃ r,eraseF f (A+1)=r:=⟨_,rfl⟩
 obtain ⟨⟨f3,v3⟩,hr3⟩:∃ r,eraseF f1 (A+1)=r:=⟨_,rfl⟩
 cases q1:blankB (seg f.bs a0 256)
 ·have c1:clr1 f A=(f1,v1):=by rw [clr1,ha0,if_neg (by rw [q1];simp),hr1]
  rw [c1]
  dsimp only
  cases q2:blankB (seg f1.bs a1 256)
  ·have c2:clr1 f1 (A+1)=(f3,v3):=by rw [clr1,ha1,if_neg (by rw [q2];simp),hr3]
   rw [c2]
   repeat' (first|intro _|refine cw ?_|refine cw2 ?_ ?_|refine ow ?_|refine ow2 ?_ ?_|fail)
   refine st_rounds 3 ?_
   repeat' (first|intro _|refine cw ?_|refine cw2 ?_ ?_|(refine k_fn 65 ?_;(refine o1_call (fun _=>sl_first _ s hs) rfl (fun _ _=>?_);rw [hA]))|(refine k_binOp .add ?_;(refine o1_add rfl rfl (by omega) ?_;(try first|rw [e0]|rw [e1])))|(refine k_binOp .mul ?_;(refine o1_mul rfl rfl (by omega) ?_;first|rw [m0]|rw [m1]))|(refine k_fn 109 ?_;first|(refine o1_call (fun hh=>fl_Blank _ b ad c f a0 256 (RdFl.own hk hh) (by omega) hd) rfl (fun _ _=>?_);rw [q1])|(refine o1_call (fun hh=>fl_Blank _ b ad c f1 a1 256 (RdFl.own hk1 hh) (by omega) (up1 ‹v1=0›)) rfl (fun _ _=>?_);rw [q2]))|(refine k_fn 110 ?_;first|(refine o1_call_fl b ad c (fun _=>fl_Erase _ b ad c f h (A) hk (by omega)) rfl (fun h1 hk1=>?_);(rw [hr1] at hk1 ⊢;dsimp only at hk1 ⊢))|(refine o1_call_fl b ad c (fun _=>fl_Erase _ b ad c f1 h1 (A+1) hk1 (by omega)) rfl (fun h3 hk3=>?_);(rw [hr3] at hk3 ⊢;dsimp only at hk3 ⊢)))|refine ow ?_|refine ow2 ?_ ?_|fail)
   ·rename_i hv
    rw [if_pos hv]
    refine rt_tmp h1 rfl rfl rfl hk1 ?_
    exact ent
   ·have hv : ¬ v1≠0:=by omega
    rw [if_neg hv]
    refine rt_tmp h3 rfl rfl rfl hk3 ?_
    exact ent
   ·have hv : ¬ v1≠0:=by omega
    have hv3:v3=0:=by omega
    rw [if_neg hv]
    subst hv3
    refine rt_tmp h3 rfl rfl rfl hk3 ?_
    exact ent
  ·have c2:clr1 f1 (A+1)=(f1,0):=by rw [clr1,ha1,if_pos q2]
   rw [c2]
   repeat' (first|intro _|refine cw ?_|refine cw2 ?_ ?_|refine ow ?_|refine ow2 ?_ ?_|fail)
   refine st_rounds 3 ?_
   repeat' (first|intro _|refine cw ?_|refine cw2 ?_ ?_|(refine k_fn 65 ?_;(refine o1_call (fun _=>sl_first _ s hs) rfl (fun _ _=>?_);rw [hA]))|(refine k_binOp .add ?_;(refine o1_add rfl rfl (by omega) ?_;(try first|rw [e0]|rw [e1])))|(refine k_binOp .mul ?_;(refine o1_mul rfl rfl (by omega) ?_;first|rw [m0]|rw [m1]))|(refine k_fn 109 ?_;first|(refine o1_call (fun hh=>fl_Blank _ b ad c f a0 256 (RdFl.own hk hh) (by omega) hd) rfl (fun _ _=>?_);rw [q1])|(refine o1_call (fun hh=>fl_Blank _ b ad c f1 a1 256 (RdFl.own hk1 hh) (by omega) (up1 ‹v1=0›)) rfl (fun _ _=>?_);rw [q2]))|(refine k_fn 110 ?_;(refine o1_call_fl b ad c (fun _=>fl_Erase _ b ad c f h (A) hk (by omega)) rfl (fun h1 hk1=>?_);(rw [hr1] at hk1 ⊢;dsimp only at hk1 ⊢)))|refine ow ?_|refine ow2 ?_ ?_|fail)
   ·rename_i hv
    rw [if_pos hv]
    refine rt_tmp h1 rfl rfl rfl hk1 ?_
    exact ent
   ·have hv : ¬ v1≠0:=by omega
    rw [if_neg hv]
    refine rt_tmp h1 rfl rfl rfl hk1 ?_
    exact ent
 ·have c1:clr1 f A=(f,0):=by rw [clr1,ha0,if_pos q1]
  rw [c1]
  dsimp only
  rw [if_neg (by simp)]
  cases q2:blankB (seg f.bs a1 256)
  ·have c2:clr1 f (A+1)=(f2,v2):=by rw [clr1,ha1,if_neg (by rw [q2];simp),hr2]
   rw [c2]
   repeat' (first|intro _|refine cw ?_|refine cw2 ?_ ?_|refine ow ?_|refine ow2 ?_ ?_|fail)
   refine st_rounds 3 ?_
   repeat' (first|intro _|refine cw ?_|refine cw2 ?_ ?_|(refine k_fn 65 ?_;(refine o1_call (fun _=>sl_first _ s hs) rfl (fun _ _=>?_);rw [hA]))|(refine k_binOp .add ?_;(refine o1_add rfl rfl (by omega) ?_;(try first|rw [e0]|rw [e1])))|(refine k_binOp .mul ?_;(refine o1_mul rfl rfl (by omega) ?_;first|rw [m0]|rw [m1]))|(refine k_fn 109 ?_;first|(refine o1_call (fun hh=>fl_Blank _ b ad c f a0 256 (RdFl.own hk hh) (by omega) hd) rfl (fun _ _=>?_);rw [q1])|(refine o1_call (fun hh=>fl_Blank _ b ad c f a1 256 (RdFl.own hk hh) (by omega) hd) rfl (fun _ _=>?_);rw [q2]))|(refine k_fn 110 ?_;(refine o1_call_fl b ad c (fun _=>fl_Erase _ b ad c f h (A+1) hk (by omega)) rfl (fun h2 hk2=>?_);(rw [hr2] at hk2 ⊢;dsimp only at hk2 ⊢)))|refine ow ?_|refine ow2 ?_ ?_|fail)
   ·refine rt_tmp h2 rfl rfl rfl hk2 ?_
    exact ent
   ·have hv2:v2=0:=by omega
    subst hv2
    refine rt_tmp h2 rfl rfl rfl hk2 ?_
    exact ent
  ·have c2:clr1 f (A+1)=(f,0):=by rw [clr1,ha1,if_pos q2]
   rw [c2]
   repeat' (first|intro _|refine cw ?_|refine cw2 ?_ ?_|refine ow ?_|refine ow2 ?_ ?_|fail)
   refine st_rounds 3 ?_
   repeat' (first|intro _|refine cw ?_|refine cw2 ?_ ?_|(refine k_fn 65 ?_;(refine o1_call (fun _=>sl_first _ s hs) rfl (fun _ _=>?_);rw [hA]))|(refine k_binOp .add ?_;(refine o1_add rfl rfl (by omega) ?_;(try first|rw [e0]|rw [e1])))|(refine k_binOp .mul ?_;(refine o1_mul rfl rfl (by omega) ?_;first|rw [m0]|rw [m1]))|(refine k_fn 109 ?_;first|(refine o1_call (fun hh=>fl_Blank _ b ad c f a0 256 (RdFl.own hk hh) (by omega) hd) rfl (fun _ _=>?_);rw [q1])|(refine o1_call (fun hh=>fl_Blank _ b ad c f a1 256 (RdFl.own hk hh) (by omega) hd) rfl (fun _ _=>?_);rw [q2]))|refine ow ?_|refine ow2 ?_ ?_|fail)
   refine rt_tmp h rfl rfl rfl hk ?_
   exact ent
set_option maxHeartbeats 4000000 in
theorem sl_Write_0 (H:List Hl) (b:Nat) (ad:Option Addr) (c:Nat) (f:Fl) (h:Hid) (ad2:Option Addr) (c2:Nat) (x:List (BitVec 8)) (hk:FlOk f h) (hx:Rs (stars H) B ad2 c2 x) (hx1:1≤x.length) (hx2:x.length≤512) (hd:f.pw.isDown=false) :
  Spec Tryz.prog 31 [.pointer (some ⟨b,0,none⟩),I 0,.slice ad2 x.length c2] (fB b ad c f h::fR ad c f::H) (fun h':Hid=>FlOk (slotW f 0 x).1 h') (fun _=>I (slotW f 0 x).2) (fun h'=>fB b ad c (slotW f 0 x).1 h'::fR ad c (slotW f 0 x).1::H):=by
 rw [slotW_up hd]
 refine spec_fn (res:=fun h':Hid=>[fB b ad c _ h',fR ad c _]) [fB b ad c f h,fR ad c f] H Tryz.func31 rfl Tryz.ntmps31 (by kernel_rfl) rfl (fun W=>?_)
 dsimp only [List.cons_append,List.nil_append]
 have m0:((2+0*2:Nat):Int)*256=(slotA 0:Int):=by decide
 have a1:slotA 0+512≤3584:=by decide
 obtain ⟨a,ha⟩:∃ a,slotA 0=a:=⟨_,rfl⟩
 rw [ha] at m0 a1
 obtain ⟨⟨f1,v1⟩,hr1⟩:∃ r,clrF f 0=r:=⟨_,rfl⟩
 obtain ⟨⟨f2,v2⟩,hr2⟩:∃ r,progF f1 a x=r:=⟨_,rfl⟩
 have up2:=progF_up hr2
 obtain ⟨y,hy⟩:∃ y,decide (seg f2.bs a x.length=x)=y:=⟨_,rfl⟩
 have hyl:=seg_len (l:=f2.bs) (a:=a) (n:=x.length)
 rw [ha,hr1]
 dsimp only
 rw [hr2]
 dsimp only
 have emay:decide (1≤x.length∧x.length≤512)=true:=by simpa using ⟨hx1,hx2⟩
 have eq:=hx.le
 repeat' (first|intro _|refine cw ?_|refine cw2 ?_ ?_|refine o1_peql rfl rfl ?_|(refine k_fn 62 ?_;(refine o1_call (fun _=>sl_may _ ad2 x.length c2) rfl (fun _ _=>?_);rw [emay]))|(refine k_fn 63 ?_;(refine o1_call (fun hh=>fl_Down _ b f (cl_box (flC_down hk.er))) rfl (fun _ _=>?_);rw [hd]))|(refine k_fn 64 ?_;(refine o1_call_fl b ad c (fun _=>sl_clear _ b ad c f h 0 hk (by decide) hd) rfl (fun h1 hk1=>?_);(rw [hr1] at hk1 ⊢;dsimp only at hk1 ⊢)))|(refine k_fn 65 ?_;refine o1_call (fun _=>sl_first _ 0 (by decide)) rfl (fun _ _=>?_))|(refine k_binOp .mul ?_;(refine o1_mul rfl rfl (by omega) ?_;rw [m0]))|(refine k_fn 44 ?_;(refine o1_call_fl b ad c (fun hh=>fl_Program _ b ad c f1 h1 a ad2 x.length c2 x hk1 hx.up rfl (by omega)) rfl (fun h2 hk2=>?_);(rw [hr2] at hk2 ⊢;dsimp only at hk2 ⊢)))|(refine k_fn 48 ?_;(refine o1_call (fun hh=>sl_Read _ b ad c f2 0 x.length (RdFl.own hk2 hh) (by decide) hx2 (up2 ‹v2=0›)) rfl (fun ⟨a48,c48⟩ _=>?_);(try dsimp only);rw [ha]))|(refine k_fn 66 ?_;(refine o1_call (fun hh=>(slices_Equal _ a48 ad2 c48 c2 (seg f2.bs a x.length) x (rx_row hh) (Rs.up hx)).argE (args':=[.slice a48 x.length c48,.slice ad2 x.length c2]) (by rw [hyl (by have:=hk2.bs;omega)])) rfl (fun _ _=>?_);rw [hy]))|refine ow ?_|refine ow2 ?_ ?_|fail)
 ·rename_i hv
  rw [if_pos hv]
  refine rt_tmp h1 rfl rfl rfl hk1 ?_
  exact ent
 ·rename_i hv2
  have hv : ¬ v1≠0:=by omega
  rw [if_neg hv,if_pos hv2]
  refine rt_tmp h2 rfl rfl rfl hk2 ?_
  exact ent
 ·rename_i hb
  have hv : ¬ v1≠0:=by omega
  have hv2 : ¬ v2≠0:=by omega
  have hyn : ¬ seg f2.bs a x.length=x:=of_decide_eq_false (hy.trans (by simpa using hb))
  rw [if_neg hv,if_neg hv2,if_neg hyn]
  refine rt_tmp h2 rfl rfl rfl hk2 ?_
  exact ent
 ·rename_i hb
  have hv : ¬ v1≠0:=by omega
  have hv2 : ¬ v2≠0:=by omega
  have hyn:seg f2.bs a x.length=x:=of_decide_eq_true (hy.trans (by simpa using hb))
  rw [if_neg hv,if_neg hv2,if_pos hyn]
  refine rt_tmp h2 rfl rfl rfl hk2 ?_
  exact ent
set_option maxHeartbeats 4000000 in
theorem sl_Write_1 (H:List Hl) (b:Nat) (ad:Option Addr) (c:Nat) (f:Fl) (h:Hid) (ad2:Option Addr) (c2:Nat) (x:List (BitVec 8)) (hk:FlOk f h) (hx:Rs (stars H) B ad2 c2 x) (hx1:1≤x.length) (hx2:x.length≤512) (hd:f.pw.isDown=false) :
  Spec Tryz.prog 31 [.pointer (some ⟨b,0,none⟩),I 1,.slice ad2 x.length c2] (fB b ad c f h::fR ad c f::H) (fun h':Hid=>FlOk (slotW f 1 x).1 h') (fun _=>I (slotW f 1 x).2) (fun h'=>fB b ad c (slotW f 1 x).1 h'::fR ad c (slotW f 1 x).1::H):=by
 rw [slotW_up hd]
 refine spec_fn (res:=fun h':Hid=>[fB b ad c _ h',fR ad c _]) [fB b ad c f h,fR ad c f] H Tryz.func31 rfl Tryz.ntmps31 (by kernel_rfl) rfl (fun W=>?_)
 dsimp only [List.cons_append,List.nil_append]
 have m0:((2+1*2:Nat):Int)*256=(slotA 1:Int):=by decide
 have a1:slotA 1+512≤3584:=by decide
 obtain ⟨a,ha⟩:∃ a,slotA 1=a:=⟨_,rfl⟩
 rw [ha] at m0 a1
 obtain ⟨⟨f1,v1⟩,hr1⟩:∃ r,clrF f 1=r:=⟨_,rfl⟩
 obtain ⟨⟨f2,v2⟩,hr2⟩:∃ r,progF f1 a x=r:=⟨_,rfl⟩
 have up2:=progF_up hr2
 obtain ⟨y,hy⟩:∃ y,decide (seg f2.bs a x.length=x)=y:=⟨_,rfl⟩
 have hyl:=seg_len (l:=f2.bs) (a:=a) (n:=x.length)
 rw [ha,hr1]
 dsimp only
 rw [hr2]
 dsimp only
 have emay:decide (1≤x.length∧x.length≤512)=true:=by simpa using ⟨hx1,hx2⟩
 have eq:=hx.le
 repeat' (first|intro _|refine cw ?_|refine cw2 ?_ ?_|refine o1_peql rfl rfl ?_|(refine k_fn 62 ?_;(refine o1_call (fun _=>sl_may _ ad2 x.length c2) rfl (fun _ _=>?_);rw [emay]))|(refine k_fn 63 ?_;(refine o1_call (fun hh=>fl_Down _ b f (cl_box (flC_down hk.er))) rfl (fun _ _=>?_);rw [hd]))|(refine k_fn 64 ?_;(refine o1_call_fl b ad c (fun _=>sl_clear _ b ad c f h 1 hk (by decide) hd) rfl (fun h1 hk1=>?_);(rw [hr1] at hk1 ⊢;dsimp only at hk1 ⊢)))|(refine k_fn 65 ?_;refine o1_call (fun _=>sl_first _ 1 (by decide)) rfl (fun _ _=>?_))|(refine k_binOp .mul ?_;(refine o1_mul rfl rfl (by omega) ?_;rw [m0]))|(refine k_fn 44 ?_;(refine o1_call_fl b ad c (fun hh=>fl_Program _ b ad c f1 h1 a ad2 x.length c2 x hk1 hx.up rfl (by omega)) rfl (fun h2 hk2=>?_);(rw [hr2] at hk2 ⊢;dsimp only at hk2 ⊢)))|(refine k_fn 48 ?_;(refine o1_call (fun hh=>sl_Read _ b ad c f2 1 x.length (RdFl.own hk2 hh) (by decide) hx2 (up2 ‹v2=0›)) rfl (fun ⟨a48,c48⟩ _=>?_);(try dsimp only);rw [ha]))|(refine k_fn 66 ?_;(refine o1_call (fun hh=>(slices_Equal _ a48 ad2 c48 c2 (seg f2.bs a x.length) x (rx_row hh) (Rs.up hx)).argE (args':=[.slice a48 x.length c48,.slice ad2 x.length c2]) (by rw [hyl (by have:=hk2.bs;omega)])) rfl (fun _ _=>?_);rw [hy]))|refine ow ?_|refine ow2 ?_ ?_|fail)
 ·rename_i hv
  rw [if_pos hv]
  refine rt_tmp h1 rfl rfl rfl hk1 ?_
  exact ent
 ·rename_i hv2
  have hv : ¬ v1≠0:=by omega
  rw [if_neg hv,if_pos hv2]
  refine rt_tmp h2 rfl rfl rfl hk2 ?_
  exact ent
 ·rename_i hb
  have hv : ¬ v1≠0:=by omega
  have hv2 : ¬ v2≠0:=by omega
  have hyn : ¬ seg f2.bs a x.length=x:=of_decide_eq_false (hy.trans (by simpa using hb))
  rw [if_neg hv,if_neg hv2,if_neg hyn]
  refine rt_tmp h2 rfl rfl rfl hk2 ?_
  exact ent
 ·rename_i hb
  have hv : ¬ v1≠0:=by omega
  have hv2 : ¬ v2≠0:=by omega
  have hyn:seg f2.bs a x.length=x:=of_decide_eq_true (hy.trans (by simpa using hb))
  rw [if_neg hv,if_neg hv2,if_pos hyn]
  refine rt_tmp h2 rfl rfl rfl hk2 ?_
  exact ent
def rtD20_0:List Row:=[⟨some 4,[],[],none⟩,⟨some 5,[0],[0],none⟩,⟨some 6,[1],[0,1],none⟩,⟨some 7,[],[],none⟩,⟨some 8,[3],[3],none⟩,⟨some 9,[2,4,4],[0,1,2,3,4],none⟩]
theorem rc_disable (w:World):(callFunc 235 #[]).run Tryz.prog w = .ok (.value (.tuple #[])) w:=run_call_mark0 Tryz.func235 (by kernel_rfl) (by kernel_rfl) (by kernel_rfl) .disable (by kernel_rfl) w
theorem rc_enable (w:World):(callFunc 237 #[]).run Tryz.prog w = .ok (.value (.tuple #[])) w:=run_call_mark0 Tryz.func237 (by kernel_rfl) (by kernel_rfl) (by kernel_rfl) .enable (by kernel_rfl) w
theorem rc_acquire (a:Addr) (w:World):(callFunc 238 #[.pointer (some a)]).run Tryz.prog w = .ok (.value (.tuple #[])) w:=run_call_marked Tryz.func238 (by kernel_rfl) (by kernel_rfl) (by kernel_rfl) .acquire (by kernel_rfl) a w
theorem rc_merge (a:Addr) (w:World):(callFunc 240 #[.pointer (some a)]).run Tryz.prog w = .ok (.value (.tuple #[])) w:=run_call_marked Tryz.func240 (by kernel_rfl) (by kernel_rfl) (by kernel_rfl) .releaseMerge (by kernel_rfl) a w
set_option maxRecDepth 100000 in
theorem mx_lock (a:Addr) (w:World) (hc:w.cell? a=some (.int .i32 0)) (hz:w.frozen? a=false) :
  Calls Tryz.prog 218 #[.pointer (some a)] w fun e w'=>e = .returned (.tuple #[])∧w'=w.setCell a (.int .i32 1):=by
 have hd:=rc_disable
 have he:=rc_enable
 have ha:=rc_acquire
 have hcas:=run_call_cas_hit (P:=Tryz.prog) Tryz.func236 (by kernel_rfl) (by kernel_rfl) (by kernel_rfl) .i32 (by kernel_rfl) (y:=1) hc hz
 have hc':(w.setCell a (.int .i32 1)).cell? a=some (.int .i32 1):=World.cell?_setCell_same w a _ hc
 have hcv:=run_convert_to_unsafe (P:=Tryz.prog) (src:=313) (dst:=74) Tryz.underlying313 Tryz.underlying74 (by kernel_rfl) hc'
 go_enter Tryz.func218,Tryz.ntmps218
 go_wp2
 first|go_end0|(simp only [Exit.inBlock,Exit.then];refine bodyPost_ret (results_none rfl _ _ _) rfl ?_)|refine bodyPost_ret (results_none rfl _ _ _) rfl ?_
 go_wp2
 all_goals (try go_end0)
 all_goals exact ⟨rfl,rfl⟩
set_option maxRecDepth 100000 in
theorem mx_unlock (a:Addr) (w:World) (hc:w.cell? a=some (.int .i32 1)) (hz:w.frozen? a=false) :
  Calls Tryz.prog 219 #[.pointer (some a)] w fun e w'=>e = .returned (.tuple #[])∧w'=w.setCell a (.int .i32 0):=by
 have hd:=rc_disable
 have he:=rc_enable
 have hr:=rc_merge
 have hadd:=run_call_add (P:=Tryz.prog) Tryz.func241 (by kernel_rfl) (by kernel_rfl) (by kernel_rfl) .i32 (by kernel_rfl) (y := -1) (s:=0) hc hz (by simp [go_sem];rfl)
 have hcv:=run_convert_to_unsafe (P:=Tryz.prog) (src:=313) (dst:=74) Tryz.underlying313 Tryz.underlying74 (by kernel_rfl) hc
 go_enter Tryz.func219,Tryz.ntmps219
 go_wp2
 go_end0
 go_wp2
 all_goals (try go_end0)
 all_goals exact ⟨rfl,rfl⟩
abbrev K4 (n:Int):Value := .int .i32 n
theorem mx_Lock0 (H:List Hl) (b i:Nat) (T:TypeId) (cs:List Value) (hv:cs[i]?=some (K4 0)) :
  Spec Tryz.prog 218 [.pointer (some ⟨b,i,none⟩)] (.box b T cs::H) (fun _:Unit=>True) (fun _ => .tuple #[]) (fun _ => .box b T (cs.set i (K4 1))::H) :=
 ⟨by kernel_rfl,fun w hs=>(mx_lock ⟨b,i,none⟩ w (by rw [hs.cell .here i,hv]) (hs.free .here i)).mono fun e w' ⟨he,hw⟩=>⟨(),trivial,he,hw ▸ (Ext.refl w).setCell _ _,hw ▸ hs.set_ i (K4 1) .here⟩⟩
theorem mx_Unlock0 (H:List Hl) (b i:Nat) (T:TypeId) (cs:List Value) (hv:cs[i]?=some (K4 1)) :
  Spec Tryz.prog 219 [.pointer (some ⟨b,i,none⟩)] (.box b T cs::H) (fun _:Unit=>True) (fun _ => .tuple #[]) (fun _ => .box b T (cs.set i (K4 0))::H) :=
 ⟨by kernel_rfl,fun w hs=>(mx_unlock ⟨b,i,none⟩ w (by rw [hs.cell .here i,hv]) (hs.free .here i)).mono fun e w' ⟨he,hw⟩=>⟨(),trivial,he,hw ▸ (Ext.refl w).setCell _ _,hw ▸ hs.set_ i (K4 0) .here⟩⟩
theorem mx_Lock (H:List Hl) (b i:Nat) (T:TypeId) (cs:List Value) (hv:cs[i]?=some (K4 0)) :
  Spec Tryz.prog 204 [.pointer (some ⟨b,i,none⟩)] (.box b T cs::H) (fun _:Unit=>True) (fun _ => .tuple #[]) (fun _ => .box b T (cs.set i (K4 1))::H):=by
 refine spec_fn (res:=fun _:Unit=>[.box b T (cs.set i (K4 1))]) [.box b T cs] H Tryz.func204 rfl Tryz.ntmps204 (by kernel_rfl) rfl (fun W=>?_)
 dsimp only [List.cons_append,List.nil_append]
 repeat' (first|intro _|refine cw ?_|refine cw2 ?_ ?_|(refine k_fn 218 ?_;refine o1_call_box (b:=b) (fun _=>mx_Lock0 _ b i _ _ hv) rfl (fun _ _=>?_))|refine ow ?_|refine ow2 ?_ ?_|fail)
 refine rt_none () rfl rfl trivial ?_
 exact ent
theorem mx_UnlockD (H:List Hl) (b i:Nat) (T:TypeId) (cs:List Value) (hv:cs[i]?=some (K4 1)) :
  SpecD Tryz.prog 205 [.pointer (some ⟨b,i,none⟩)] (.box b T cs::H) (fun _:Unit=>True) (fun _ => .tuple #[]) (fun _ => .box b T (cs.set i (K4 0))::H):=by
 refine specd_fn (res:=fun _:Unit=>[.box b T (cs.set i (K4 0))]) [.box b T cs] H Tryz.func205 rfl Tryz.ntmps205 (by kernel_rfl) rfl (fun W=>?_)
 dsimp only [List.cons_append,List.nil_append]
 repeat' (first|intro _|refine cw ?_|refine cw2 ?_ ?_|(refine k_fn 219 ?_;refine o1_call_box (b:=b) (fun _=>mx_Unlock0 _ b i _ _ hv) rfl (fun _ _=>?_))|refine ow ?_|refine ow2 ?_ ?_|fail)
 refine rt_none () rfl rfl trivial ?_
 exact ent
theorem xf_loadu32:XFn Tryz.prog 203 (Extern.Atomic.loadT (.int .u32)):=⟨by kernel_rfl,by kernel_rfl⟩
theorem o1_xload_hc {P:Program} {n:Nat} {H:List Hl} {e:Ev} {C:Value→List Hl→Prop} {ty:TypeId} {f:FuncId} {xs:List Operand} {ats:Array TypeId} {a0:Addr} {k:IntKind} {p:Int} (x:XFn P f (Extern.Atomic.loadT (.int k))) (hxs:opds e xs=some [.pointer (some a0)]) (hc:Cl (stars H) a0 (.int k p)) (h:C (.int k p) H):O1 P (.call ⟨.value (.func f),xs.toArray,ats⟩) ty n e H C :=
 o1_xval _ hxs (fun a w ho=>by
  obtain ⟨fn,h1,h2,h3,h4,h5⟩:=x.of
  exact run_call_load h1 h2 h3 h4 k h5 (hc.cell w ho.sat)) h
theorem bl_Load (H:List Hl) (b i:Nat) (x:Nat) (h:Cl (stars H) ⟨b,i,none⟩ (.int .u32 (x:Int))) (y:Bool) (hy:decide ((x:Int)≠0)=y) :
  Spec Tryz.prog 172 [.pointer (some ⟨b,i,none⟩)] H (fun _:Unit=>True) (fun _ => .bool y) (fun _=>H):=by
 refine spec_pure (res:=fun _=>[]) H Tryz.func172 rfl Tryz.ntmps172 (by kernel_rfl) rfl (fun W=>?_)
 repeat' (first|intro _|refine cw ?_|refine cw2 ?_ ?_|refine ow ?_|refine ow2 ?_ ?_|fail)
 refine o1_xload_hc xf_loadu32 rfl (cl_up h) ?_
 repeat' (first|intro _|refine cw ?_|refine cw2 ?_ ?_|(refine k_binOp .neq ?_;(refine o1_neq_d rfl rfl ?_;rw [hy]))|refine ow ?_|refine ow2 ?_ ?_|fail)
 refine rt_tmp () rfl rfl rfl trivial ?_
 exact ent
theorem xf_storeu32:XFn Tryz.prog 208 Extern.Atomic.storeT:=⟨by kernel_rfl,by kernel_rfl⟩
theorem at_b32 (H:List Hl):Spec Tryz.prog 220 [.bool true] H (fun _:Unit=>True) (fun _=>W4 1#32) (fun _=>H):=by
 refine spec_pure (res:=fun _=>[]) H Tryz.func220 rfl Tryz.ntmps220 (by kernel_rfl) rfl (fun W=>?_)
 repeat' (first|intro _|refine cw ?_|refine cw2 ?_ ?_|refine ow ?_|refine ow2 ?_ ?_|fail)
 refine rt_tmp () rfl rfl rfl trivial ?_
 exact ent
theorem bl_StoreD (H:List Hl) (b i:Nat) (T:TypeId) (cs:List Value) (hi:i<cs.length) :
  SpecD Tryz.prog 206 [.pointer (some ⟨b,i,none⟩),.bool true] (.box b T cs::H) (fun _:Unit=>True) (fun _ => .tuple #[]) (fun _ => .box b T (cs.set i (W4 1#32))::H):=by
 refine specd_fn (res:=fun _:Unit=>[.box b T (cs.set i (W4 1#32))]) [.box b T cs] H Tryz.func206 rfl Tryz.ntmps206 (by kernel_rfl) rfl (fun W=>?_)
 dsimp only [List.cons_append,List.nil_append]
 repeat' (first|intro _|refine cw ?_|refine cw2 ?_ ?_|refine ow ?_|refine ow2 ?_ ?_|fail)
 refine st_stages' [(0,_),(1,_)] rtD20_0 [4,5] [⟨[0,1,2,3],[],some 4⟩,⟨[],[0,1,2],some 5⟩,⟨[],[],none⟩] mixed cv (by kernel_rfl) (by kernel_rfl) ?_
 repeat' (first|intro _|refine sg ?_|refine po (by first|refine o1_xstore xf_storeu32 rfl (b:=b) (i:=i) hi fz|fail) ?_|refine pw ?_|refine pdd ?_|(refine k_fn 220 ?_;refine o1_call (fun _=>at_b32 _) rfl (fun _ _=>?_))|refine o1_xstore xf_storeu32 rfl (b:=b) (i:=i) hi ?_|refine ow ?_|fail)
 all_goals dsimp only [List.cons_append,List.nil_append]
 repeat' (first|intro _|refine cw ?_|refine cw2 ?_ ?_|refine ow ?_|refine ow2 ?_ ?_|fail)
 refine rt_none () rfl rfl trivial ?_
 exact ent
set_option maxRecDepth 20000 in
theorem on_slow (H:List Hl) (b i:Nat) (T:TypeId) (cs:List Value) (g:FuncId) (caps:List Value) {X:Type} {good:X→Prop} {ds:X→List Value} {R:X→List Hl} (h0:cs[i]?=some (W4 0#32)) (h1:cs[i+1]?=some (K4 0))
  (hc:Spec Tryz.prog g caps (.box b T (cs.set (i+1) (K4 1))::H) good (fun _ => .tuple #[]) (fun r => .box b T (ds r)::R r)) (hd:∀ r,good r→(ds r)[i+1]?=some (K4 1)) :
  Spec Tryz.prog 173 [.pointer (some ⟨b,i,none⟩),.func (.func g) #[] caps.toArray] (.box b T cs::H) good (fun _ => .tuple #[]) (fun r => .box b T (((ds r).set i (W4 1#32)).set (i+1) (K4 0))::R r):=by
 refine spec_defers _ Tryz.func173 rfl Tryz.ntmps173 (by kernel_rfl) rfl (fun W=>?_)
 have hne:(cs.set (i+1) (K4 1))[i]?=some (W4 0#32):=by rw [List.getElem?_set_ne (by omega),h0]
 repeat' (first|refine sd_seq ?_|refine sd_region ?_|refine sd_cond_t rfl ?_|refine ld_defer rfl ?_|refine ld_of rfl ?_|refine ld_of_no ?_|refine ld_next ?_|refine o1_move rfl ?_|refine o1_nilCheck rfl ?_|refine o1_fieldAddr rfl ?_|refine o1_bnot rfl ?_|refine o1_call_box (b:=b) (fun _=>mx_Lock _ b (i+1) T cs h1) rfl (fun _ _=>?_)|refine o1_call (fun _=>bl_Load _ b i 0 (cl_box hne) false rfl) rfl (fun _ _=>?_)|refine o1_kall (args:=[]) (caps:=caps) rfl (fun _=>hc) rfl (fun r hg=>?_))
 refine ld_nil (fun a w ho hD=>?_)
 show Leaves _ _ _ _ a.defers .returning w
 rw [hD]
 have hd1:=hd r hg
 have hlt:i<(ds r).length:=by have:=(List.getElem?_eq_some_iff.1 hd1).1;omega
 refine leaves_spec (bl_StoreD _ b i T (ds r) hlt) ho.sat (fun _ w1 _ hx1 hs1=>leaves_spec (mx_UnlockD _ b (i+1) T _ (by rw [List.getElem?_set_ne (by omega),hd1])) hs1 (fun _ w2 _ hx2 hs2=>?_))
 exact ⟨.tuple #[],by simp [results],r,hg,rfl,(ho.ext.trans hx1).trans hx2,hs2⟩
theorem on_Do (H:List Hl) (b i:Nat) (T:TypeId) (cs:List Value) (g:FuncId) (caps:List Value) {X:Type} {good:X→Prop} {ds:X→List Value} {R:X→List Hl} (h0:cs[i]?=some (W4 0#32)) (h1:cs[i+1]?=some (K4 0))
  (hc:Spec Tryz.prog g caps (.box b T (cs.set (i+1) (K4 1))::H) good (fun _ => .tuple #[]) (fun r => .box b T (ds r)::R r)) (hd:∀ r,good r→(ds r)[i+1]?=some (K4 1)) :
  Spec Tryz.prog 131 [.pointer (some ⟨b,i,none⟩),.func (.func g) #[] caps.toArray] (.box b T cs::H) good (fun _ => .tuple #[]) (fun r => .box b T (((ds r).set i (W4 1#32)).set (i+1) (K4 0))::R r):=by
 refine spec_of _ Tryz.func131 rfl Tryz.ntmps131 (by kernel_rfl) rfl (fun W=>?_)
 repeat' (first|intro _|refine cw ?_|refine cw2 ?_ ?_|refine ow ?_|refine ow2 ?_ ?_|fail)
 refine o1_call (fun _=>bl_Load _ b i 0 (cl_box h0) false rfl) rfl (fun _ _=>?_)
 repeat' (first|intro _|refine cw ?_|refine cw2 ?_ ?_|refine ow ?_|refine ow2 ?_ ?_|fail)
 refine o1_call_box (b:=b) (fun _=>on_slow _ b i T cs g caps h0 h1 hc hd) rfl (fun r hg=>?_)
 repeat' (first|intro _|refine cw ?_|refine cw2 ?_ ?_|refine ow ?_|refine ow2 ?_ ?_|fail)
 refine rt_none r rfl rfl hg ?_
 exact Ent.refl _
theorem on_Do_done (H:List Hl) (b i:Nat) (g:FuncId) (caps:List Value) (h0:Cl (stars H) ⟨b,i,none⟩ (W4 1#32)) :
  Spec Tryz.prog 131 [.pointer (some ⟨b,i,none⟩),.func (.func g) #[] caps.toArray] H (fun _:Unit=>True) (fun _ => .tuple #[]) (fun _=>H):=by
 refine spec_pure (res:=fun _=>[]) H Tryz.func131 rfl Tryz.ntmps131 (by kernel_rfl) rfl (fun W=>?_)
 repeat' (first|intro _|refine cw ?_|refine cw2 ?_ ?_|refine ow ?_|refine ow2 ?_ ?_|fail)
 refine o1_call (fun _=>bl_Load _ b i 1 (cl_up h0) true rfl) rfl (fun _ _=>?_)
 repeat' (first|intro _|refine cw ?_|refine cw2 ?_ ?_|refine ow ?_|refine ow2 ?_ ?_|fail)
 refine rt_none () rfl rfl trivial ?_
 exact ent
end Go.Dp
