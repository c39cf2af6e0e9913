/-
  Downpour, walked and proved: part 6.
  Conditions: those that stand in each theorem.
-/
import Derived.Test.YtcblcmdikhllbaaGreatDoorQTopEnough3
import Derived.Test.YtcblcmdikhllbaaGreatDoorQTopEnough4
import Derived.Test.YtcblcmdikhllbaaGreatDoorQTopEnough5
import Derived.Test.YtcblcmdikhllbaaGreatDoorQTopEnough2
import Derived.RegionCalls
import Derived.Lib.TrailingZeros
set_option linter.unusedVariables false
set_option linter.unusedSimpArgs false
set_option maxHeartbeats 64000000
namespace Go.Dp
open Go.RowKit Go.Proofs
open Sha
theorem rotl32 (H:List Hl) (x:BitVec 32) (k:Int) (hk : -9223372036854775808≤k∧k≤9223372036854775807) :
  Spec Tryz.prog 192 [W4 x,I k] H (fun _:Unit=>True) (fun _=>W4 ((x <<< (BitVec.ofInt 64 k &&& 31#64).toNat) ||| (x >>> (32#64 - (BitVec.ofInt 64 k &&& 31#64)).toNat))) (fun _=>H):=by
 refine sP (res:=fun _=>[]) H Tryz.func192 Tryz.ntmps192 fun W=>?_
 repeat' (first|intro _|(refine a0D .and ?_;refine b0F (v:=31#64) rfl rfl ?_)|(refine a0D .sub ?_;refine b8V (u:=32#64) rfl rfl ?_)|refine wK ?_|refine wL ?_ ?_|fail)
 refine a0E () rfl rfl rfl trivial ?_
 exact ent
theorem b0N (H:List Hl) (x:BitVec 32) (n:Int) (h:(-9223372036854775808≤n∧n≤9223372036854775807)∧(BitVec.ofInt 64 (-n) &&& 31#64).toNat=32 - n.toNat∧(32#64 - (BitVec.ofInt 64 (-n) &&& 31#64)).toNat=n.toNat∧0<n) :
  Spec Tryz.prog 153 [W4 x,I n] H (fun _:Unit=>True) (fun _=>W4 (rr x n.toNat)) (fun _=>H):=by
 obtain ⟨h1,h2,h3,h4⟩:=h
 refine sP (res:=fun _=>[]) H Tryz.func153 Tryz.ntmps153 fun W=>?_
 repeat' (first|intro _|(refine c2J ?_;refine o1_neg rfl (by omega) ?_)|(refine k_fn 192 ?_;refine a0A (fun _=>rotl32 _ _ _ (by omega)) rfl (fun _ _=>?_))|refine wK ?_|refine wL ?_ ?_|fail)
 refine a0E () rfl rfl ?_ trivial ?_
 ·rw [h2,h3,BitVec.or_comm];rfl
 ·exact ent
theorem dg_constants (H:List Hl):Spec Tryz.prog 152 [] H (fun _:Unit=>True) (fun _ => .agg (K.map W4).toArray) (fun _=>H):=by
 refine sP (res:=fun _=>[]) H Tryz.func152 Tryz.ntmps152 fun W=>?_
 repeat' (first|intro _|(refine a1O ?_;refine a1D (cs:=(List.replicate 64 0#32).map W4) rfl (fun _=>?_))|(refine k_build ?_;refine b0H (vs:=K.map W4) rfl (by kernel_rfl) (fun _=>by kernel_rfl) ?_)|(refine a1N ?_;refine a3N rfl rfl rfl rfl (fun _=>rfl) ?_)|refine wK ?_|refine wL ?_ ?_|fail)
 refine a5U () rfl rfl rfl rfl trivial ?_
 exact ent
theorem dg_begin (H:List Hl):Spec Tryz.prog 102 [] H (fun _:Unit=>True) (fun _ => .agg (H0.l.map W4).toArray) (fun _=>H):=by
 refine sP (res:=fun _=>[]) H Tryz.func102 Tryz.ntmps102 fun W=>?_
 repeat' (first|intro _|(refine a1O ?_;refine a1D (cs:=(List.replicate 8 0#32).map W4) rfl (fun _=>?_))|(refine k_build ?_;refine b0H (vs:=H0.l.map W4) rfl (by kernel_rfl) (fun _=>by kernel_rfl) ?_)|(refine a1N ?_;refine a3N rfl rfl rfl rfl (fun _=>rfl) ?_)|refine wK ?_|refine wL ?_ ?_|fail)
 refine a5U () rfl rfl rfl rfl trivial ?_
 exact ent
open Sha
def padz (b:List (BitVec 8)) (j:Nat):List (BitVec 8):=b++[0x80#8]++List.replicate j 0#8
theorem padz_succ (b:List (BitVec 8)) (j:Nat):padz b j++[0#8]=padz b (j+1):=by
 simp [padz,List.replicate_succ']
def tail8 (b:List (BitVec 8)) (i:Nat):List (BitVec 8):=(be8 (BitVec.ofNat 64 b.length <<< 3)).take i
theorem tail8_succ (b:List (BitVec 8)) (i:Nat) (h:i<8):tail8 b i++[((BitVec.ofNat 64 b.length <<< 3) >>> (56 - 8*(i:Int)).toNat).setWidth 8]=tail8 b (i+1):=by
 rw [show (56 - 8*(i:Int)).toNat=56 - 8*i from by omega]
 have:i=0∨i=1∨i=2∨i=3∨i=4∨i=5∨i=6∨i=7:=by omega
 rcases this with rfl|rfl|rfl|rfl|rfl|rfl|rfl|rfl <;> simp [tail8,be8]
theorem dg_filled (H:List Hl) (ad:Option Addr) (c:Nat) (b:List (BitVec 8)) (h:Rs (stars H) B ad c b) (hb:b.length≤70368744177664) :
  Spec Tryz.prog 103 [.slice ad b.length c] H (fun _:Option Addr × Nat=>True) (fun r => .slice r.1 (pad b).length r.2) (fun r => .row 5 1 (.slice r.1 (pad b).length r.2) (pad b).length ((pad b).map B)::H):=by
 refine sP (res:=fun r:Option Addr × Nat=>[.row 5 1 (.slice r.1 (pad b).length r.2) (pad b).length ((pad b).map B)]) H Tryz.func103 Tryz.ntmps103 fun W=>?_
 refine a3J (a1A 5 B) ?_
 have hg:gap b.length≤63:=by unfold gap;omega
 repeat' (first|intro _|(refine a1S ?_;first|refine a1H rfl rfl (a3Q h) rfl rfl (fun _=>rfl) (by simp;omega) (by simp;omega) (fun a1 c1=>?_)|refine a1H rfl rfl (a2H rfl (by decide)) rfl rfl (fun _=>rfl) (by simp;omega) (by simp;omega) (fun a1 c1=>?_))|(refine a0P ?_;refine a0O B [0x80#8] rfl rfl rfl (fun _=>rfl) rfl rfl rfl (fun _=>?_))|refine wK ?_|refine wL ?_ ?_|fail)
 refine a0Y (S:=Nat × Option Addr × Nat) (fun s=>[(0,.slice ad b.length c),(3,.slice s.2.1 (b.length+1+s.1) s.2.2)]) (fun s=>[.row 5 1 (.slice s.2.1 (b.length+1+s.1) s.2.2) (b.length+1+s.1) ((padz b s.1).map B),.any (stars H)]) (fun s=>s.1≤gap b.length) (fun s=>gap b.length - s.1) (0,a1,c1) (Nat.zero_le _)
  (a0R rfl rfl (a0R rfl (by simp) a6A)) (by simp only [padz,List.nil_append,List.replicate_zero,List.append_nil,Nat.zero_add,Nat.add_zero];exact ent) ?_
 rintro ⟨j,a1,c1⟩ hj
 dsimp only at hj ⊢
 by_cases hlt:j<gap b.length
 ·have hne:(((b.length+1+j:Nat):Int) % 64)≠56:=by unfold gap at hlt;omega
  repeat' (first|intro _|(refine a0D .rem ?_;refine c2H rfl rfl (by omega) ?_)|(refine a1S ?_;refine a1H rfl rfl (a2H rfl (by decide)) rfl rfl (fun _=>rfl) (by simp;omega) (by simp;omega) (fun a1 c1=>?_))|refine wK ?_|refine wL ?_ ?_|fail)
  refine a0Q (j+1,a1,c1) (by show j+1≤_;omega) (by show gap b.length - (j+1)<gap b.length - j;omega) cv ?_
  show Ent _ [.row 5 1 (.slice a1 (b.length+1+(j+1)) c1) (b.length+1+(j+1)) ((padz b (j+1)).map B),.any (stars H)]
  rw [←padz_succ,show b.length+1+(j+1)=b.length+1+j+1 from rfl]
  exact ent
 ·have:j=gap b.length:=by omega
  subst this
  have hne:(((b.length+1+gap b.length:Nat):Int) % 64)=56:=by unfold gap;omega
  repeat' (first|intro _|(refine a0D .rem ?_;refine c2H rfl rfl (by omega) ?_)|(refine a1W ?_;refine a2I (m':=64) rfl ?_)|refine wK ?_|refine wL ?_ ?_|fail)
  have hpl:(pad b).length=b.length+1+gap b.length+8:=by rw [pad_len];omega
  refine a0Y (S:=Nat × Option Addr × Nat) (fun s=>[(3,.slice s.2.1 (b.length+1+gap b.length+s.1) s.2.2),(4,W8 (BitVec.ofNat 64 b.length <<< 3)),(5,I (56 - 8*s.1))]) (fun s=>[.row 5 1 (.slice s.2.1 (b.length+1+gap b.length+s.1) s.2.2) (b.length+1+gap b.length+s.1) ((padz b (gap b.length)++tail8 b s.1).map B),.any (stars H)]) (fun s=>s.1≤8) (fun s=>8 - s.1) (0,a1,c1) (Nat.zero_le _)
   (a0R rfl rfl (a0R rfl (by simp) cv)) (by simp only [tail8,List.take_zero,List.append_nil,Nat.add_zero];exact ent) ?_
  rintro ⟨i,a1,c1⟩ hi
  dsimp only at hi ⊢
  by_cases hi8:i<8
  ·repeat' (first|intro _|(refine a1S ?_;refine a1H rfl rfl (a2H rfl (by decide)) rfl rfl (fun _=>rfl) (by simp;omega) (by simp;omega) (fun a1 c1=>?_))|refine wK ?_|refine wL ?_ ?_|fail)
   refine a0Q (i+1,a1,c1) (by show i+1≤8;omega) (by show 8 - (i+1)<8 - i;omega) (a0R rfl rfl (a0R rfl rfl (a0R rfl ?_ a6A))) ?_
   ·show I (56 - 8*(i:Int) - 8)=I (56 - 8*((i+1:Nat):Int))
    congr 1;omega
   show Ent _ [.row 5 1 (.slice a1 (b.length+1+gap b.length+(i+1)) c1) (b.length+1+gap b.length+(i+1)) ((padz b (gap b.length)++tail8 b (i+1)).map B),.any (stars H)]
   rw [←tail8_succ b i hi8,←List.append_assoc,←Nat.add_assoc]
   exact ent
  ·have:i=8:=by omega
   subst this
   repeat' (first|intro _|refine wK ?_|refine wL ?_ ?_|fail)
   have hp:padz b (gap b.length)++tail8 b 8=pad b:=by simp [padz,pad,tail8,be8]
   refine a0E (a1,c1) rfl rfl (by rw [hpl]) trivial ?_
   rw [hp,hpl]
   exact ent
def rtS4_0:List Row:=[tR 32 [] [],tR 33 [0] [0],tR 34 [1] [0,1],tR 35 [2] [0,1,2],tR 36 [] [],tR 37 [4] [4],tR 38 [5] [4,5],tR 39 [6] [4,5,6],tR 7 [3,0,1,2,3] [0,1,2,3],tR 8 [7,8,0,1,2,3,4,5,6,7,8] (rG 9)]
def rtS4_1:List Row:=[tR 40 [] [],tR 41 [] [],tR 42 [1] [1],tR 43 [] [],tR 44 [3,2] [1,2,3],tR 45 [2,4] [1,2,3,4],tR 46 [] [],tR 47 [6] [6],tR 48 [5,7] [1,2,3,4,5,6,7],tR 49 [] [],tR 50 [9] [9],tR 51 [10] [9,10],tR 52 [11] [9,10,11],tR 53 [8,12] [1,2,3,4,5,6,7,8,9,10,11,12],tR 54 [] [],tR 55 [14,4] [1,2,3,4,14],tR 56 [] [],tR 57 [16,15] [1,2,3,4,14,15,16],tR 58 [15,17] [1,2,3,4,14,15,16,17],tR 59 [] [],tR 60 [19] [19],tR 61 [18,20] [1,2,3,4,14,15,16,17,18,19,20],tR 62 [13,21] [1,2,3,4,5,6,7,8,9,10,11,12,13,14,15,16,17,18,19,20,21],tR 63 [] [],tR 64 [23] [23],tR 65 [24] [23,24],tR 66 [25] [23,24,25],tR 67 [22,26] [1,2,3,4,5,6,7,8,9,10,11,12,13,14,15,16,17,18,19,20,21,22,23,24,25,26],tR 68 [0,0,1,2,3,4,5,6,7,8,9,10,11,12,13,14,15,16,17,18,19,20,21,22,23,24,25,26,27] (rG 28),⟨none,[28,27,17,0,1,2,3,4,5,6,7,8,9,10,11,12,13,14,15,16,17,18,19,20,21,22,23,24,25,26,27],[0,1,2,3,4,5,6,7,8,9,10,11,12,13,14,15,16,17,18,19,20,21,22,23,24,25,26,27,28],none⟩]
open Sha
def fst (b:List (BitVec 8)) (i:Nat):List (BitVec 32):=(List.range 64).map fun j=>num32 (((b.take i).drop (4*j)).take 4)
theorem b6T (b:List (BitVec 8)) (i:Nat):(fst b i).length=64:=by simp [fst]
theorem fst_zero (b:List (BitVec 8)):fst b 0=List.replicate 64 0#32:=by
 simp only [fst,List.take_zero,List.drop_nil,List.take_nil];rfl
theorem fst_succ (b:List (BitVec 8)) (i:Nat) (hi:i<b.length) (h:i<64) :
  (fst b i).set (i / 4) (((fst b i)[i / 4]'(by rw [b6T];omega)) <<< 8 ||| (b[i]).setWidth 32)=fst b (i+1):=by
 apply List.ext_getElem
 ·simp [fst]
 intro j h1 h2
 rw [List.length_set,b6T] at h1
 rw [List.getElem_set]
 split
 ·rename_i hj
  subst hj
  simp only [fst,List.getElem_map,List.getElem_range]
  have e:((b.take (i+1)).drop (4*(i / 4))).take 4=((b.take i).drop (4*(i / 4))).take 4++[b[i]]:=by
   rw [List.take_succ_eq_append_getElem hi,List.drop_append_of_le_length (by simp;omega),List.take_append,List.take_of_length_le (l:=List.drop (4*(i / 4)) (List.take i b)) (by simp;omega)]
   congr 1
   rw [List.take_of_length_le]
   simp;omega
  rw [e]
  simp only [num32,List.foldl_append,List.foldl_cons,List.foldl_nil]
 ·rename_i hj
  simp only [fst,List.getElem_map,List.getElem_range]
  congr 1
  apply List.ext_getElem?
  intro k
  simp only [List.getElem?_take,List.getElem?_drop]
  repeat' split
  all_goals first|rfl|omega
theorem fst_all (b:List (BitVec 8)) (h:b.length=64):fst b 64=partL (wordsS b) (List.replicate 64 0#32) 16:=by
 apply List.ext_getElem
 ·rw [b6T,a2X (by rw [a2G,List.length_replicate]),List.length_replicate]
 intro j h1 h2
 rw [b6T] at h1
 by_cases hj:j<16
 ·rw [b2V (by rw [a2G,List.length_replicate]) hj]
  have:=words_lo b j hj
  rw [List.getD_eq_getElem?_getD,List.getElem?_eq_getElem (by rw [a2G];omega),Option.getD_some] at this
  rw [this]
  simp only [fst,List.getElem_map,List.getElem_range,chunk]
  rw [List.take_of_length_le (l:=b) (by omega)]
 ·rw [a6L (by rw [a2G,List.length_replicate]) (by omega)]
  simp only [fst,List.getElem_map,List.getElem_range]
  rw [List.take_of_length_le (l:=b) (by omega),List.drop_eq_nil_of_le (by omega)]
  rw [List.getElem_replicate]
  rfl
theorem words_get (b:List (BitVec 8)) (i:Nat) (h1:16≤i) (h2:i<64):(wordsS b)[i]'(by rw [a2G];exact h2)=s1 ((wordsS b)[i - 2]'(by rw [a2G];omega))+(wordsS b)[i - 7]'(by rw [a2G];omega)+s0 ((wordsS b)[i - 15]'(by rw [a2G];omega))+(wordsS b)[i - 16]'(by rw [a2G];omega):=by
 have:=words_hi b i h1 h2
 simpa [List.getD_eq_getElem?_getD,List.getElem?_eq_getElem,a2G,h2,show i - 2<64 by omega,show i - 7<64 by omega,show i - 15<64 by omega,show i - 16<64 by omega] using this
theorem hwz (b:List (BitVec 8)):(wordsS b).length=(List.replicate 64 0#32).length:=by rw [a2G,List.length_replicate]
theorem dg_words64 (H:List Hl) (ad:Option Addr) (c:Nat) (b:List (BitVec 8)) (h:Rs (stars H) B ad c b) (hb:b.length=64) :
  Spec Tryz.prog 151 [.slice ad b.length c] H (fun _:Unit=>True) (fun _ => .agg ((wordsS b).map W4).toArray) (fun _=>H):=by
 refine sP (res:=fun _=>[]) H Tryz.func151 Tryz.ntmps151 fun W=>?_
 repeat' (first|intro _|(refine a1O ?_;refine a1D (cs:=(List.replicate 64 0#32).map W4) rfl (fun _=>?_))|refine wK ?_|refine wL ?_ ?_|fail)
 rename_i r w
 refine a0Y (S:=Nat) (fun i=>[(2,.pointer (some ⟨r,0,none⟩)),(3,.pointer (some ⟨w,0,none⟩)),(9,.slice ad b.length c),(10,I b.length),(11,I i)]) (fun i=>[.box w 227 ((fst b i).map W4),.box r 227 ((List.replicate 64 0#32).map W4),.any (stars H)]) (fun i=>i≤b.length) (fun i=>b.length - i) 0 (Nat.zero_le _)
  cv (by rw [fst_zero];exact ent) ?_
 intro i hi
 by_cases hlt:i<b.length
 ·have hl:=b6T b i
  repeat' (first|intro _|(refine a0J ?_;first|refine o1_ia i rfl rfl h rfl rfl hlt ?_|refine a2L (i / 4) rfl rfl (by omega) (by omega) ?_)|(refine a0K ?_;refine a1F i rfl h hlt ?_)|(refine a0D .quo ?_;refine a3A rfl rfl (by omega) ?_)|(refine a1N ?_;refine a4A W4 rfl rfl (by omega) rfl ?_)|refine wK ?_|refine wL ?_ ?_|fail)
  refine a0Q (i+1) (by omega) (by omega) cv ?_
  rw [←fst_succ b i hlt (by omega)]
  exact ent
 ·have:i=b.length:=by omega
  subst this
  rw [hb,fst_all b hb]
  repeat' (first|intro _|refine wK ?_|refine wL ?_ ?_|fail)
  refine a0Y (S:=Nat) (fun i=>[(2,.pointer (some ⟨r,0,none⟩)),(3,.pointer (some ⟨w,0,none⟩)),(6,I (16+i:Nat))]) (fun i=>[.box w 227 ((partL (wordsS b) (List.replicate 64 0#32) (16+i)).map W4),.box r 227 ((List.replicate 64 0#32).map W4),.any (stars H)]) (fun i=>i≤48) (fun i=>48 - i) 0 (Nat.zero_le _)
   cv ent ?_
  intro i hi
  by_cases hlt:i<48
  ·have hl:=a2X (hwz b) (16+i)
   rw [List.length_replicate] at hl
   repeat' (first|intro _|refine wK ?_|refine wL ?_ ?_|fail)
   refine a0H [(6,_),(3,_)] rtS4_0 [] [⟨[0,1,2,3,4,5,6,7,8,9],[],none⟩] mixed cv (by kernel_rfl) (by kernel_rfl) ?_
   repeat' (first|intro _|refine sg ?_|(refine a0Z ?_;refine po (by first|refine a2L (16+i - 2) rfl rfl (by omega) (by omega) fz|refine a2L (16+i - 15) rfl rfl (by omega) (by omega) fz|fail) ?_)|refine pw ?_|refine pdd ?_|refine ow ?_|fail)
   all_goals dsimp only [cA,nA]
   repeat' (first|intro _|refine wK ?_|refine wL ?_ ?_|fail)
   refine a0H [(6,_),(7,_),(3,_),(8,_)] rtS4_1 [2,29] [⟨[0,1,3,6,7,9,10,11,12,14,16,19,20,23,24,25,26],[],some 2⟩,⟨[4,5,8,13,15,17,18,21,22,27,28],[0,3,6,7,9,10,11,12,14,16,19,20,23,24,25,26],some 29⟩,⟨[],[],none⟩] mixed cv (by kernel_rfl) (by kernel_rfl) ?_
   repeat' (first|intro _|refine sg ?_|(refine a0Z ?_;refine po (by first|refine a2L (16+i - 7) rfl rfl (by omega) (by omega) fz|refine a2L (16+i - 16) rfl rfl (by omega) (by omega) fz|refine a2L (16+i) rfl rfl (by omega) (by omega) fz|fail) ?_)|(refine p_fn 153 ?_;refine po (by first|refine a0A (fun _=>b0N _ _ _ (by decide)) rfl (fun _ _=>fz)|fail) ?_)|refine pw ?_|refine pdd ?_|(refine a1N ?_;refine a4A W4 rfl rfl (by omega) rfl ?_)|(refine k_fn 153 ?_;refine a0A (fun _=>b0N _ _ _ (by decide)) rfl (fun _ _=>?_))|refine ow ?_|fail)
   all_goals dsimp only [cA,nA]
   repeat' (first|intro _|refine wK ?_|refine wL ?_ ?_|fail)
   refine a0Q (i+1) (by omega) (by omega) (a0R rfl rfl (a0R rfl rfl (a0R rfl ?_ a6A))) ?_
   ·show I (((16+i:Nat):Int)+1)=I ((16+(i+1):Nat):Int)
    congr 1
   ·have e:=a3V (hwz b) (i:=16+i) (by rw [a2G];omega)
    rw [words_get b (16+i) (by omega) (by omega)] at e
    rw [show 16+(i+1)=16+i+1 from rfl,←e]
    simp only [b2V (hwz b) (show 16+i - 2<16+i by omega),b2V (hwz b) (show 16+i - 7<16+i by omega),b2V (hwz b) (show 16+i - 15<16+i by omega),b2V (hwz b) (show 16+i - 16<16+i by omega)]
    exact ent
  ·have:i=48:=by omega
   subst this
   rw [a3W (hwz b) (by simp)]
   repeat' (first|intro _|(refine a0K ?_;refine a6P rfl (a2G b) ?_)|(refine a1N ?_;refine a3N rfl rfl (a2G b) rfl (fun _=>rfl) ?_)|refine wK ?_|refine wL ?_ ?_|fail)
   refine a5U () rfl rfl (by rw [List.length_map,a2G]) rfl trivial ?_
   exact ent
def rtS5_0:List Row:=[tR 23 [] [],tR 24 [0] [0],tR 25 [] [],tR 26 [2] [2],tR 9 [1,0,1] [0,1],tR 10 [3,4,0,1,2,3,4] (rG 5)]
def rtS5_1:List Row:=[tR 52 [] [],tR 53 [0] [0],tR 54 [] [],tR 55 [2] [2],tR 56 [] [],tR 57 [4,3] [2,3,4],tR 58 [3,5] [2,3,4,5],tR 59 [] [],tR 60 [7,5] [2,3,4,5,7],tR 61 [6,8] [2,3,4,5,6,7,8],tR 62 [1,9] (rG 10),tR 63 [] [],tR 64 [10,11] (rG 12),tR 65 [] [],tR 66 [13] [13],tR 67 [14] [13,14],tR 68 [12,15] (rG 16),tR 69 [] [],tR 70 [17] [17],tR 71 [18] [17,18],tR 72 [16,19] (rG 20),tR 13 [20,8,0,1,2,3,4,5,6,7,8,9,10,11,12,13,14,15,16,17,18,19,20] (rG 21)]
def rtS5_2:List Row:=[tR 105 [] [],tR 106 [0] [0],tR 107 [1] [0,1],tR 108 [] [],tR 109 [3] [3],tR 110 [4] [3,4],tR 111 [2,5] (rG 6),tR 112 [0,0,1,2,3,4,5,6] (rG 7),⟨none,[7,6,0,1,2,3,4,5,6],[0,1,2,3,4,5,6,7],none⟩]
open Sha
theorem add_get (x y:R8) (i:Nat) (h:i<(x.add y).l.length) (h1:i<x.l.length) (h2:i<y.l.length):(x.add y).l[i]=x.l[i]+y.l[i]:=by
 have:i<8:=h
 have:i=0∨i=1∨i=2∨i=3∨i=4∨i=5∨i=6∨i=7:=by omega
 rcases this with rfl|rfl|rfl|rfl|rfl|rfl|rfl|rfl <;> rfl
theorem b3U (x:R8):x.l.length=8:=rfl
theorem W_get (ws:List (BitVec 32)) (i:Nat) (h:i<ws.length):ws.getD i 0=ws[i]:=by rw [List.getD_eq_getElem?_getD,List.getElem?_eq_getElem h,Option.getD_some]
theorem dg_takes (H:List Hl) (x:R8) (ad:Option Addr) (c:Nat) (b:List (BitVec 8)) (h:Rs (stars H) B ad c b) (hb:b.length=64) :
  Spec Tryz.prog 104 [.agg (x.l.map W4).toArray,.slice ad b.length c] H (fun _:Unit=>True) (fun _ => .agg ((comp x b).l.map W4).toArray) (fun _=>H):=by
 refine sP (res:=fun _=>[]) H Tryz.func104 Tryz.ntmps104 fun W=>?_
 repeat' (first|intro _|(refine k_box ?_;refine a1V (cs:=x.l.map W4) rfl rfl (fun _=>?_))|(refine a1O ?_;first|refine a1D (T:=185) (cs:=(List.replicate 8 0#32).map W4) rfl (fun _=>?_)|refine a1D (T:=227) (cs:=(List.replicate 64 0#32).map W4) rfl (fun _=>?_))|(refine k_fn 151 ?_;refine a0A (fun _=>dg_words64 _ _ _ b h.up hb) rfl (fun _ _=>?_))|(refine k_fn 152 ?_;refine a0A (fun _=>dg_constants _) rfl (fun _ _=>?_))|(refine a1N ?_;first|refine a3N (T:=227) rfl rfl (by simp only [a2G,K_len]) (by exact rfl) (fun _=>rfl) ?_|refine a3N (T:=185) rfl rfl (by simp only [b3U]) (by exact rfl) (fun _=>rfl) ?_)|(refine a0K ?_;refine a6P (T:=185) rfl (by simp only [b3U]) ?_)|refine wK ?_|refine wL ?_ ?_|fail)
 rename_i bs br _ _ _ _ bw bk bx
 rw [show comp x b=x.add (rds (wordsS b) 64 x) from rfl]
 have hwl:=a2G b
 generalize wordsS b=ws at *
 obtain ⟨f,hf0,hfs,hf64⟩:∃ f:Nat→R8,f 0=x∧(∀ i,f (i+1)=rnd (K.getD i 0) (ws.getD i 0) (f i))∧f 64=rds ws 64 x:=⟨fun i=>rds ws i x,rfl,fun _=>rfl,rfl⟩
 rw [←hf64]
 clear hf64
 refine a0Y (S:=Nat) (fun i=>[(2,.pointer (some ⟨bs,0,none⟩)),(4,.pointer (some ⟨br,0,none⟩)),(5,.pointer (some ⟨bw,0,none⟩)),(6,.pointer (some ⟨bk,0,none⟩)),(7,.pointer (some ⟨bx,0,none⟩)),(20,I i)]) (fun i=>[.box bx 185 ((f i).l.map W4),.box bk 227 (K.map W4),.box bw 227 ((ws).map W4),.box br 185 ((List.replicate 8 0#32).map W4),.box bs 185 (x.l.map W4),.any (stars H)]) (fun i=>i≤64) (fun i=>64 - i) 0 (Nat.zero_le _)
  cv (by rw [hf0];exact ent) ?_
 intro i hi
 by_cases hlt:i<64
 ·have hWl:i<ws.length:=by rw [hwl];exact hlt
  have hW:=W_get ws i hWl
  have hKl:i<K.length:=hlt
  have hK:=W_get K i hKl
  generalize hy:f i=y
  dsimp only [R8.l,List.map_cons,List.map_nil]
  repeat' (first|intro _|refine wK ?_|refine wL ?_ ?_|fail)
  refine a0H [(7,_)] rtS5_0 [] [⟨[0,1,2,3,4,5],[],none⟩] mixed cv (by kernel_rfl) (by kernel_rfl) ?_
  repeat' (first|intro _|refine sg ?_|(refine a0Z ?_;refine po (by first|refine a2L _ rfl rfl rfl (by decide) fz|fail) ?_)|refine pw ?_|refine pdd ?_|refine ow ?_|fail)
  all_goals dsimp only [cA,nA]
  repeat' (first|intro _|(refine a0J ?_;refine a2L _ rfl rfl rfl (by decide) ?_)|refine wK ?_|refine wL ?_ ?_|fail)
  refine a0H [(7,_),(10,_),(11,_),(8,_),(6,_),(5,_)] rtS5_1 [3] [⟨[0,1,2,4,7,11,13,14,15,17,18,19],[],some 3⟩,⟨[5,6,8,9,10,12,16,20,21],[0,1,4,7,11,13,14,15,17,18,19],none⟩] mixed cv (by kernel_rfl) (by kernel_rfl) ?_
  repeat' (first|intro _|refine sg ?_|(refine a0Z ?_;refine po (by first|refine a2L i rfl rfl rfl hlt fz|refine a2L _ rfl rfl rfl (by decide) fz|fail) ?_)|(refine a1E ?_;refine po (by first|refine a2V (l:=K) rfl hKl fz|refine a2V (l:=ws) rfl hWl fz|fail) ?_)|(refine p_fn 153 ?_;refine po (by first|refine a0A (fun _=>b0N _ _ _ (by decide)) rfl (fun _ _=>fz)|fail) ?_)|refine pw ?_|refine pdd ?_|(refine k_fn 153 ?_;refine a0A (fun _=>b0N _ _ _ (by decide)) rfl (fun _ _=>?_))|refine ow ?_|fail)
  all_goals dsimp only [cA,nA]
  repeat' (first|intro _|(refine a0J ?_;refine a2L _ rfl rfl rfl (by decide) ?_)|(refine k_fn 153 ?_;refine a0A (fun _=>b0N _ _ _ (by decide)) rfl (fun _ _=>?_))|refine wK ?_|refine wL ?_ ?_|fail)
  refine a0Q (i+1) (by omega) (by omega) cv ?_
  have hr:f (i+1)=rnd K[i] ws[i] y:=by rw [hfs,hK,hW,hy]
  rw [hr]
  dsimp only [rnd,one,two,List.map_cons,List.map_nil,List.set_cons_zero,List.set_cons_succ]
  exact ent
 ·have:i=64:=by omega
  subst this
  generalize f 64=y
  have hz:(x.add y).l.length=x.l.length:=rfl
  repeat' (first|intro _|refine wK ?_|refine wL ?_ ?_|fail)
  refine a0Y (S:=Nat) (fun i=>[(2,.pointer (some ⟨bs,0,none⟩)),(4,.pointer (some ⟨br,0,none⟩)),(7,.pointer (some ⟨bx,0,none⟩)),(102,I i)]) (fun i=>[.box bs 185 ((partL (x.add y).l x.l i).map W4),.box bx 185 (y.l.map W4),.box br 185 ((List.replicate 8 0#32).map W4),.any (stars H)]) (fun i=>i≤8) (fun i=>8 - i) 0 (Nat.zero_le _)
   cv ent ?_
  intro i hi
  by_cases hlt:i<8
  ·have hl:(partL (x.add y).l x.l i).length=8:=a2X hz i
   have hil:i<(partL (x.add y).l x.l i).length:=by rw [hl];exact hlt
   have hx8:i<x.l.length:=hlt
   have hy8:i<y.l.length:=hlt
   have hxy8:i<(x.add y).l.length:=hlt
   repeat' (first|intro _|refine wK ?_|refine wL ?_ ?_|fail)
   refine a0H [(15,_),(2,_),(7,_)] rtS5_2 [8] [⟨[0,1,2,3,4,5,6,7],[],some 8⟩,⟨[],[],none⟩] mixed cv (by kernel_rfl) (by kernel_rfl) ?_
   repeat' (first|intro _|refine sg ?_|(refine a0Z ?_;refine po (by first|refine a2L i rfl rfl rfl hlt fz|fail) ?_)|(refine a1E ?_;refine po (by first|refine a2V (l:=partL (x.add y).l x.l i) rfl hil fz|refine a2V (l:=y.l) rfl hy8 fz|fail) ?_)|refine pw ?_|refine pdd ?_|(refine a1N ?_;refine a4A W4 rfl rfl hil rfl ?_)|refine ow ?_|fail)
   all_goals dsimp only [cA,nA]
   repeat' (first|intro _|refine wK ?_|refine wL ?_ ?_|fail)
   refine a0Q (i+1) (by omega) (by omega) cv ?_
   have e:(partL (x.add y).l x.l i).set i (x.l[i]'hx8+y.l[i]'hy8)=partL (x.add y).l x.l (i+1):=by
    exact (congrArg (fun v=>(partL (x.add y).l x.l i).set i v) (add_get x y i hxy8 hx8 hy8)).symm.trans (a3V hz hxy8)
   rw [a6L hz (Nat.le_refl i),←e]
   exact ent
  ·have:i=8:=by omega
   subst this
   rw [a3W (i:=8) hz (by rfl)]
   repeat' (first|intro _|(refine a0K ?_;refine a6P (T:=185) rfl (by simp only [b3U]) ?_)|(refine a1N ?_;refine a3N (T:=185) rfl rfl (by simp only [b3U]) (by exact rfl) (fun _=>rfl) ?_)|refine wK ?_|refine wL ?_ ?_|fail)
   refine a5U () rfl rfl rfl rfl trivial ?_
   exact ent
def rtS6_0:List Row:=[tR 16 [] [],tR 17 [] [],tR 18 [1] [1],tR 19 [0,2] [0,1,2],⟨none,[3,3,0,1,2,3],[0,1,2,3],none⟩]
open Sha
theorem out_succ (l:List (BitVec 32)) (i:Nat) (h:i<l.length):(l.take (i+1)).flatMap be4=(l.take i).flatMap be4++be4 l[i]:=by
 rw [List.take_succ_eq_append_getElem h,List.flatMap_append];simp
theorem b7T (H:List Hl) (ad:Option Addr) (c:Nat) (b d:List (BitVec 8)) (h:Rs (stars H) B ad c b) (hb:b.length≤70368744177664) (hd:sha b=d) :
  Spec Tryz.prog 56 [.slice ad b.length c] H (fun _:Option Addr × Nat=>True) (fun r => .slice r.1 d.length r.2) (fun r => .row 5 1 (.slice r.1 d.length r.2) d.length (d.map B)::H):=by
 refine sP (res:=fun r:Option Addr × Nat=>[.row 5 1 (.slice r.1 d.length r.2) d.length (d.map B)]) H Tryz.func56 Tryz.ntmps56 fun W=>?_
 have hdl:d.length=32:=by rw [←hd];exact b1V b
 repeat' (first|intro _|(refine k_fn 102 ?_;refine a0A (fun _=>dg_begin _) rfl (fun _ _=>?_))|(refine a1O ?_;refine a1D (T:=185) (cs:=(List.replicate 8 0#32).map W4) rfl (fun _=>?_))|(refine a1N ?_;refine a3N (T:=185) rfl rfl (by simp only [b3U]) (by exact rfl) (fun _=>rfl) ?_)|(refine k_fn 103 ?_;(refine a0A (fun _=>dg_filled _ _ _ b h.up hb) rfl (fun ⟨a1,c1⟩ _=>?_);dsimp only))|refine wK ?_|refine wL ?_ ?_|fail)
 rename_i bs _ _
 have ht:∃ (t:List (BitVec 8)) (N:Nat) (f:Nat→R8),pad b=t∧t.length=64*N∧f 0=H0∧(∀ j,f (j+1)=comp (f j) ((t.drop (64*j)).take 64))∧out (f N)=d:=by
  refine ⟨pad b,(pad b).length / 64,fun j=>st (pad b) j,rfl,?_,rfl,fun _=>rfl,hd⟩
  have:=pad_mod b
  omega
 obtain ⟨t,N,f,e1,hN,hf0,hfs,hfd⟩:=ht
 rw [e1]
 clear hd e1
 refine a3J (H2:=[.box bs 185 (H0.l.map W4)]++[.row 5 1 (.slice a1 t.length c1) t.length (t.map B),.any (stars H)]) (Ent.out ent) (st_has (fun hh=>?_))
 have hr:Rs (stars [.row 5 1 (.slice a1 t.length c1) t.length (t.map B),.any (stars H)]) B a1 c1 t:=a0I (a0B hh)
 refine st_shut [.box bs 185 (H0.l.map W4)] _ ?_
 generalize hA:stars [.row 5 1 (.slice a1 t.length c1) t.length (t.map B),.any (stars H)]=A at hr
 refine a0Y (S:=Nat × Option Addr × Nat) (fun s=>[(3,.pointer (some ⟨bs,0,none⟩)),(4,.slice s.2.1 (t.drop (64*s.1)).length s.2.2)]) (fun s=>[.box bs 185 ((f s.1).l.map W4),.any A]) (fun s=>s.1≤N∧Rs A B s.2.1 s.2.2 (t.drop (64*s.1))) (fun s=>N - s.1) (0,a1,c1) ⟨Nat.zero_le _,by simpa using hr⟩
  (a0R rfl rfl (a0R rfl (by simp) a6A)) (by rw [hf0];exact ent) ?_
 rintro ⟨j,a2,c2⟩ ⟨hj,hr2⟩
 dsimp only at hj hr2 ⊢
 have hle:=hr2.le
 have hdl2:(t.drop (64*j)).length=64*N - 64*j:=by rw [List.length_drop,hN]
 have hbig:=hr2.big
 by_cases hlt:j<N
 ·have h64:64≤(t.drop (64*j)).length:=by omega
  repeat' (first|intro _|refine wK ?_|refine wL ?_ ?_|fail)
  refine a0H [(3,_),(4,_)] rtS6_0 [3,4] [⟨[0,1,2],[],some 3⟩,⟨[],[],some 4⟩,⟨[],[],none⟩] mixed cv (by kernel_rfl) (by kernel_rfl) ?_
  repeat' (first|intro _|refine sg ?_|(refine a1E ?_;refine po (by first|refine a6P (T:=185) rfl (by simp only [b3U]) fz|fail) ?_)|(refine a6D ?_;refine po (by first|refine a5X (xs:=t.drop (64*j)) 64 rfl rfl rfl rfl hle h64 fz|fail) ?_)|refine pw ?_|refine pdd ?_|(refine k_fn 104 ?_;refine a0A (fun _=>dg_takes _ (f j) _ _ _ (Rs.up (hr2.cuth 64 h64)) (by rw [List.length_take];omega)) rfl (fun _ _=>?_))|(refine a1N ?_;refine a3N (T:=185) rfl rfl (by simp only [b3U]) (by simp only [List.length_map,b3U]) (fun _=>rfl) ?_)|refine ow ?_|fail)
  all_goals dsimp only [cA,nA]
  repeat' (first|intro _|(refine a3X ?_;refine b0G (xs:=t.drop (64*j)) 64 rfl rfl rfl rfl h64 ?_)|refine wK ?_|refine wL ?_ ?_|fail)
  have e3:(t.drop (64*j)).drop 64=t.drop (64*(j+1)):=by rw [List.drop_drop,Nat.mul_add,Nat.mul_one]
  refine a0Q (j+1,cutA a2 c2 64,c2 - 64) ⟨by show j+1≤N;omega,?_⟩ (by show N - (j+1)<N - j;omega) (a0R rfl rfl (a0R rfl ?_ a6A)) ?_
  ·show Rs A B (cutA a2 c2 64) (c2 - 64) (t.drop (64*(j+1)))
   rw [←e3]
   exact hr2.cutl 64 h64
  ·show _=Value.slice (cutA a2 c2 64) (t.drop (64*(j+1))).length (c2 - 64)
   rw [←e3]
  ·show Ent _ [.box bs 185 ((f (j+1)).l.map W4),.any A]
   rw [hfs]
   exact ent
 ·have:j=N:=by omega
  subst this
  subst hA
  generalize f j=x at *
  repeat' (first|intro _|(refine a0K ?_;refine a6P (T:=185) rfl (by simp only [b3U]) ?_)|refine wK ?_|refine wL ?_ ?_|fail)
  refine st_open [.box bs 185 (x.l.map W4)] _ ?_
  refine a3J (a1A 5 B) ?_
  refine a0Y (S:=Nat × Option Addr × Nat) (fun s=>[(5,.slice s.2.1 (4*s.1) s.2.2),(20,.agg (x.l.map W4).toArray),(21,I s.1)]) (fun s=>[.row 5 1 (.slice s.2.1 (4*s.1) s.2.2) (4*s.1) (((x.l.take s.1).flatMap be4).map B),.any (stars H)]) (fun s=>s.1≤8) (fun s=>8 - s.1) (0,none,0) (Nat.zero_le _)
   cv ent ?_
  rintro ⟨i,a3,c3⟩ hi
  dsimp only at hi ⊢
  by_cases hlt8:i<8
  ·have hxl:i<x.l.length:=hlt8
   repeat' (first|intro _|(refine b6Q ?_;refine o1_index_enc (l:=x.l) i rfl rfl rfl hlt8 hxl ?_)|refine wK ?_|refine wL ?_ ?_|fail)
   refine a0Q (i+1,_,_) (by show i+1≤8;omega) (by show 8 - (i+1)<8 - i;omega) cv ?_
   dsimp only
   rw [out_succ x.l i hxl]
   exact ent
  ·have:i=8:=by omega
   subst this
   repeat' (first|intro _|refine wK ?_|refine wL ?_ ?_|fail)
   have e4:(x.l.take 8).flatMap be4=d:=hfd
   rw [e4]
   refine a0E (a3,c3) rfl rfl (by rw [hdl]) trivial ?_
   rw [hdl]
   exact ent
theorem dg_Rows (H:List Hl) (ad:Option Addr) (c:Nat) (ls:List (SlD (BitVec 8))) (d:List (BitVec 8)) (h:Rs (stars H) Bs ad c ls) (hs:∀ s∈ls,Rs (stars H) B s.ad s.cap s.l) (hb:(cat ls).length≤70368744177664) (hd:sha (cat ls)=d) :
  Spec Tryz.prog 128 [.slice ad ls.length c] H (fun _:Option Addr × Nat=>True) (fun r => .slice r.1 d.length r.2)
   (fun r => .row 5 1 (.slice r.1 d.length r.2) d.length (d.map B)::H):=by
 have b1:=h.le
 have b2:=h.big
 have hle:∀ i,(cat (ls.take i)).length≤(cat ls).length:=fun i=>by
  have:cat ls=cat (ls.take i)++cat (ls.drop i):=by simp only [cat];rw [←List.flatMap_append,List.take_append_drop]
  rw [this,List.length_append]
  omega
 refine sP (res:=fun r:Option Addr × Nat=>[.row 5 1 (.slice r.1 d.length r.2) d.length (d.map B)]) H Tryz.func128 Tryz.ntmps128 fun W=>?_
 repeat' (first|intro _|refine wK ?_|refine wL ?_ ?_|fail)
 refine a3J (a1A 5 B) ?_
 refine a0Y (S:=Nat × Option Addr × Nat) (fun s=>[(3,.slice s.2.1 (cat (ls.take s.1)).length s.2.2),(6,.slice ad ls.length c),(7,I ls.length),(8,I s.1)]) (fun s=>[.row 5 1 (.slice s.2.1 (cat (ls.take s.1)).length s.2.2) (cat (ls.take s.1)).length ((cat (ls.take s.1)).map B),.any (stars H)]) (fun s=>s.1≤ls.length) (fun s=>ls.length - s.1) (0,none,0) (Nat.zero_le _)
  cv (Ent.refl _) ?_
 rintro ⟨i,a1,c1⟩ hi
 dsimp only at hi ⊢
 have hi1:=hle (i+1)
 by_cases hlt:i<ls.length
 ·have hsi:=hs ls[i] (List.getElem_mem _)
  rw [a7B _ _ hlt,List.length_append] at hi1
  repeat' (first|intro _|(refine a0J ?_;refine o1_ia i rfl rfl h rfl rfl hlt ?_)|(refine a0K ?_;refine a1F i rfl h hlt ?_)|(refine a1S ?_;refine a1H rfl rfl (a3Q hsi) rfl rfl (fun _=>rfl) (by omega) (by omega) (fun a2 c2=>?_))|refine wK ?_|refine wL ?_ ?_|fail)
  refine a0Q (i+1,a2,c2) ?_ ?_ (a0R rfl ?_ cv) ?_
  ·show i+1≤_;omega
  ·show ls.length - (i+1)<ls.length - i;omega
  ·show _=Value.slice a2 (cat (ls.take (i+1))).length c2
   rw [a7B _ _ hlt,List.length_append]
  ·show Ent _ [Hl.row 5 1 (.slice a2 (cat (ls.take (i+1))).length c2) (cat (ls.take (i+1))).length ((cat (ls.take (i+1))).map B),.any (stars H)]
   rw [a7B _ _ hlt,List.length_append]
   exact Ent.refl _
 ·have:i=ls.length:=by omega
  subst this
  rw [List.take_length]
  repeat' (first|intro _|(refine k_fn 56 ?_;(refine a0A (fun hh=>b7T _ _ _ (cat ls) d (a0I hh) hb hd) rfl (fun ⟨_,_⟩ _=>?_);dsimp only))|refine wK ?_|refine wL ?_ ?_|fail)
  refine a0E (_,_) rfl rfl rfl trivial ?_
  exact ent
open Sha
open Sha
theorem c1Y (H:List Hl) (ad:Option Addr) (n c:Nat):Spec Tryz.prog 62 [.slice ad n c] H (fun _:Unit=>True) (fun _ => .bool (decide (1≤n∧n≤512))) (fun r=>H):=by
 refine sP (res:=fun _=>[]) H Tryz.func62 Tryz.ntmps62 fun W=>?_
 repeat' (first|intro _|refine wK ?_|refine wL ?_ ?_|fail)
 all_goals (refine a0E () rfl rfl ?_ trivial ?_;· refine congrArg Value.bool (Bool.eq_iff_iff.2 ?_);simp only [decide_eq_true_eq,eq_self,true_iff,false_iff,reduceCtorEq];omega)
 all_goals exact ent
def slotOf (v:BitVec 32) (n:Nat) (r:PA) (d:List (BitVec 8)):SlotD:=⟨v,n,⟨r.1,r.2,d⟩⟩
theorem sl_Of (H:List Hl) (v:BitVec 32) (ad:Option Addr) (c:Nat) (b d:List (BitVec 8)) (h:Rs (stars H) B ad c b) (hb:1≤b.length∧b.length≤512) (hd:sha b=d) :
  Spec Tryz.prog 60 [W4 v,.slice ad b.length c] H (fun _:PA=>True) (fun r => .tuple #[(slotOf v b.length r d).V,.bool true]) (fun r=>rowL r d::H):=by
 refine sP (res:=fun r:PA=>[rowL r d]) H Tryz.func60 Tryz.ntmps60 fun W=>?_
 repeat' (first|intro _|(refine k_fn 62 ?_;refine a0A (fun _=>(c1Y _ _ _ _).bv (b:=true) (decide_eq_true hb)) rfl (fun _ _=>?_))|(refine k_fn 56 ?_;(refine a0A (fun _=>b7T _ _ _ b d h.up (by omega) hd) rfl (fun ⟨a5,c5⟩ _=>?_);dsimp only))|refine wK ?_|refine wL ?_ ?_|fail)
 refine a0N (a5,c5) rfl rfl rfl rfl rfl trivial ?_
 exact ent
def zSl:SlotD:=⟨0#32,0,⟨none,0,[]⟩⟩
def fstS (v:BitVec 32) (n:Nat) (r:PA) (d:List (BitVec 8)):StD:=⟨0,0,0#32,0#32,slotOf v n r d,zSl,false,zM⟩
theorem bt_First (H:List Hl) (v:BitVec 32) (ad:Option Addr) (c:Nat) (b d:List (BitVec 8)) (h:Rs (stars H) B ad c b) (hb:1≤b.length∧b.length≤512) (hd:sha b=d) :
  Spec Tryz.prog 28 [W4 v,.slice ad b.length c] H (fun _:PA=>True) (fun r => .tuple #[(fstS v b.length r d).V,.bool true]) (fun r=>rowL r d::H):=by
 refine sP (res:=fun r:PA=>[rowL r d]) H Tryz.func28 Tryz.ntmps28 fun W=>?_
 repeat' (first|intro _|(refine k_fn 60 ?_;(refine a0A (fun _=>sl_Of _ v _ _ b d h.up hb hd) rfl (fun ⟨a5,c5⟩ _=>?_);dsimp only [SlotD.V,SlotD.c,slotOf]))|refine wK ?_|refine wL ?_ ?_|fail)
 refine a0N (a5,c5) rfl rfl rfl rfl rfl trivial ?_
 exact ent
theorem c1D (v:BitVec 32) (n:Nat) (r:PA) (d:List (BitVec 8)) (hn:1≤n∧n≤512) (hd:d.length=32):(fstS v n r d).may=true:=by
 refine a5J.2 ⟨.inl rfl,by show 0≤(0:Int)∧(0:Int)≤3;omega,?_,.inr ⟨rfl,by show (0:Int)≤0;omega⟩,rfl⟩
 exact decide_eq_true (show d.length=32∧1≤(n:Int)∧(n:Int)≤512 from ⟨hd,by omega,by omega⟩)
theorem a7T (H:List Hl) (s:Nat) (hs:s<2) :
  Spec Tryz.prog 65 [I s] H (fun _:Unit=>True) (fun _=>I (2+s*2:Nat)) (fun _=>H):=by
 refine sP (res:=fun _=>[]) H Tryz.func65 Tryz.ntmps65 fun W=>?_
 have e:(2:Int)+(s:Int)*2=((2+s*2:Nat):Int):=by omega
 repeat' (first|intro _|(refine a0D .mul ?_;refine a2Y rfl rfl (by omega) ?_)|(refine a0D .add ?_;(refine a2F rfl rfl (by omega) ?_;rw [e]))|refine wK ?_|refine wL ?_ ?_|fail)
 refine a0E () rfl rfl rfl trivial ?_
 exact ent
theorem b8H (H:List Hl) (b:Nat) (ad:Option Addr) (c:Nat) (f:Fl) (s n:Nat) (h:RdFl (stars H) b ad c f) (hs:s<2) (hn:n≤512) (hd:f.pw.isDown=false) :
  Spec Tryz.prog 48 [.pointer (some ⟨b,0,none⟩),I s,I n] H (fun _:Option Addr × Nat=>True) (fun r => .tuple #[.slice r.1 n r.2,I 0]) (fun r => .row 5 1 (.slice r.1 n r.2) n ((seg f.bs (slotA s) n).map B)::H):=by
 refine sP (res:=fun r:Option Addr × Nat=>[.row 5 1 (.slice r.1 n r.2) n ((seg f.bs (slotA s) n).map B)]) H Tryz.func48 Tryz.ntmps48 fun W=>?_
 have e1:((2+s*2:Nat):Int)*256=(slotA s:Int):=by unfold slotA;omega
 have e2:slotA s≤1024:=by unfold slotA;omega
 have hx:s=0∨s=1:=by omega
 obtain ⟨a,ha⟩:∃ a,slotA s=a:=⟨_,rfl⟩
 rw [ha] at e1 e2 ⊢
 rcases hx with rfl|rfl
 ·repeat' (first|intro _|(refine k_fn 65 ?_;(refine a0A (fun _=>a7T _ 0 (by decide)) rfl (fun _ _=>?_)))|(refine a0D .mul ?_;(refine a2Y rfl rfl (by omega) ?_;rw [e1]))|(refine k_fn 98 ?_;(refine a0A (fun _=>a9Q _ b ad c f a n h.up (by omega) hd) rfl (fun ⟨a27,c27⟩ _=>?_);(try dsimp only)))|refine wK ?_|refine wL ?_ ?_|fail)
  refine a2U (a27,c27) rfl rfl rfl rfl trivial ?_
  exact ent
 ·repeat' (first|intro _|(refine k_fn 65 ?_;(refine a0A (fun _=>a7T _ 1 (by decide)) rfl (fun _ _=>?_)))|(refine a0D .mul ?_;(refine a2Y rfl rfl (by omega) ?_;rw [e1]))|(refine k_fn 98 ?_;(refine a0A (fun _=>a9Q _ b ad c f a n h.up (by omega) hd) rfl (fun ⟨a27,c27⟩ _=>?_);(try dsimp only)))|refine wK ?_|refine wL ?_ ?_|fail)
  refine a2U (a27,c27) rfl rfl rfl rfl trivial ?_
  exact ent
def clrF (f:Fl) (s:Nat):Fl × Int:=if (clr1 f (2+s*2)).2≠0 then clr1 f (2+s*2) else clr1 (clr1 f (2+s*2)).1 (2+s*2+1)
theorem slotW_down {f:Fl} {s:Nat} {x:List (BitVec 8)} (hd:f.pw.isDown=true):slotW f s x=(f,11):=by
 unfold slotW
 cases hp:f.pw with
 | down z=>rfl
 | on=>rw [hp] at hd;cases hd
 | fuse n=>rw [hp] at hd;cases hd
theorem b8E {f:Fl} {s:Nat} {x:List (BitVec 8)} (hd:f.pw.isDown=false):slotW f s x=if (clrF f s).2≠0 then clrF f s else if (progF (clrF f s).1 (slotA s) x).2≠0 then progF (clrF f s).1 (slotA s) x else ((progF (clrF f s).1 (slotA s) x).1,if seg (progF (clrF f s).1 (slotA s) x).1.bs (slotA s) x.length=x then 0 else 13):=by
 have e:slotW f s x=(let r1:=clr1 f (2+s*2);if r1.2≠0 then r1 else let r2:=clr1 r1.1 (2+s*2+1);if r2.2≠0 then r2 else let r3:=progF r2.1 (slotA s) x;if r3.2≠0 then r3 else (r3.1,if seg r3.1.bs (slotA s) x.length=x then 0 else 13)):=by
  unfold slotW
  cases hp:f.pw with
  | down z=>rw [hp] at hd;cases hd
  | on=>rfl
  | fuse n=>rfl
 rw [e]
 unfold clrF
 dsimp only
 by_cases h:(clr1 f (2+s*2)).2≠0
 ·simp only [if_pos h]
 ·simp only [if_neg h]
theorem eraseF_up {f f':Fl} {s:Nat} {v:Int} (h:eraseF f s=(f',v)) (hv:v=0):f'.pw.isDown=false:=by
 subst hv
 unfold eraseF at h
 cases hp:f.pw with
 | down z=>rw [hp] at h;cases h
 | on =>
  rw [hp] at h
  dsimp only at h
  split at h
  ·cases h
  ·obtain ⟨e,_⟩:=Prod.mk.inj h
   rw [←e];rfl
 | fuse n =>
  rw [hp] at h
  dsimp only at h
  split at h
  ·cases h
  ·cases n with
   | zero=>cases h
   | succ m =>
    obtain ⟨e,_⟩:=Prod.mk.inj h
    rw [←e];rfl
theorem b8O {f f':Fl} {a:Nat} {x:List (BitVec 8)} {v:Int} (h:progF f a x=(f',v)) (hv:v=0):f'.pw.isDown=false:=by
 subst hv
 unfold progF at h
 cases hp:f.pw with
 | down z=>rw [hp] at h;cases h
 | on =>
  rw [hp] at h
  obtain ⟨e,_⟩:=Prod.mk.inj h
  rw [←e];rfl
 | fuse n =>
  rw [hp] at h
  dsimp only at h
  split at h
  ·obtain ⟨e,_⟩:=Prod.mk.inj h
   rw [←e];rfl
  ·cases h
theorem sl_clear (H:List Hl) (b:Nat) (ad:Option Addr) (c:Nat) (f:Fl) (h:Hid) (s:Nat) (hk:FlOk f h) (hs:s<2) (hd:f.pw.isDown=false) :
  Spec Tryz.prog 64 [.pointer (some ⟨b,0,none⟩),I s] (fB b ad c f h::fR ad c f::H) (fun h':Hid=>FlOk (clrF f s).1 h') (fun _=>I (clrF f s).2) (fun h'=>fB b ad c (clrF f s).1 h'::fR ad c (clrF f s).1::H):=by
 refine sF (res:=fun h':Hid=>[fB b ad c (clrF f s).1 h',fR ad c (clrF f s).1]) [fB b ad c f h,fR ad c f] H Tryz.func64 Tryz.ntmps64 fun W=>?_
 dsimp only [cA,nA]
 unfold clrF
 obtain ⟨A,hA⟩:∃ A,2+s*2=A:=⟨_,rfl⟩
 have hA4:A≤4:=by omega
 rw [hA]
 have e0:(A:Int)+0=(A:Int):=by omega
 have e1:(A:Int)+(0+1)=((A+1:Nat):Int):=by omega
 obtain ⟨a0,ha0⟩:∃ a0,A*256=a0:=⟨_,rfl⟩
 obtain ⟨a1,ha1⟩:∃ a1,(A+1)*256=a1:=⟨_,rfl⟩
 have m0:(A:Int)*256=(a0:Int):=by omega
 have m1:((A+1:Nat):Int)*256=(a1:Int):=by omega
 obtain ⟨⟨f1,v1⟩,hr1⟩:∃ r,eraseF f A=r:=⟨_,rfl⟩
 have up1:=eraseF_up hr1
 obtain ⟨⟨f2,v2⟩,hr2⟩:∃ r,eraseF f (A+1)=r:=⟨_,rfl⟩
 obtain ⟨⟨f3,v3⟩,hr3⟩:∃ r,eraseF f1 (A+1)=r:=⟨_,rfl⟩
 cases q1:blankB (seg f.bs a0 256)
 ·have c1:clr1 f A=(f1,v1):=by rw [clr1,ha0,if_neg (by rw [q1];simp),hr1]
  rw [c1]
  dsimp only
  cases q2:blankB (seg f1.bs a1 256)
  ·have c2:clr1 f1 (A+1)=(f3,v3):=by rw [clr1,ha1,if_neg (by rw [q2];simp),hr3]
   rw [c2]
   repeat' (first|intro _|refine wK ?_|refine wL ?_ ?_|fail)
   refine a2O 3 ?_
   repeat' (first|intro _|(refine k_fn 65 ?_;(refine a0A (fun _=>a7T _ s hs) rfl (fun _ _=>?_);rw [hA]))|(refine a0D .add ?_;(refine a2F rfl rfl (by omega) ?_;(try first|rw [e0]|rw [e1])))|(refine a0D .mul ?_;(refine a2Y rfl rfl (by omega) ?_;first|rw [m0]|rw [m1]))|(refine k_fn 109 ?_;first|(refine a0A (fun hh=>a5E _ b ad c f a0 256 (RdFl.own hk hh) (by omega) hd) rfl (fun _ _=>?_);rw [q1])|(refine a0A (fun hh=>a5E _ b ad c f1 a1 256 (RdFl.own hk1 hh) (by omega) (up1 ‹v1=0›)) rfl (fun _ _=>?_);rw [q2]))|(refine k_fn 110 ?_;first|(refine a1J b ad c (fun _=>a8A _ b ad c f h (A) hk (by omega)) rfl (fun h1 hk1=>?_);(rw [hr1] at hk1 ⊢;dsimp only at hk1 ⊢))|(refine a1J b ad c (fun _=>a8A _ b ad c f1 h1 (A+1) hk1 (by omega)) rfl (fun h3 hk3=>?_);(rw [hr3] at hk3 ⊢;dsimp only at hk3 ⊢)))|refine wK ?_|refine wL ?_ ?_|fail)
   ·rename_i hv
    rw [if_pos hv]
    refine a0E h1 rfl rfl rfl hk1 ?_
    exact ent
   ·have hv : ¬ v1≠0:=by omega
    rw [if_neg hv]
    refine a0E h3 rfl rfl rfl hk3 ?_
    exact ent
   ·have hv : ¬ v1≠0:=by omega
    have hv3:v3=0:=by omega
    rw [if_neg hv]
    subst hv3
    refine a0E h3 rfl rfl rfl hk3 ?_
    exact ent
  ·have c2:clr1 f1 (A+1)=(f1,0):=by rw [clr1,ha1,if_pos q2]
   rw [c2]
   repeat' (first|intro _|refine wK ?_|refine wL ?_ ?_|fail)
   refine a2O 3 ?_
   repeat' (first|intro _|(refine k_fn 65 ?_;(refine a0A (fun _=>a7T _ s hs) rfl (fun _ _=>?_);rw [hA]))|(refine a0D .add ?_;(refine a2F rfl rfl (by omega) ?_;(try first|rw [e0]|rw [e1])))|(refine a0D .mul ?_;(refine a2Y rfl rfl (by omega) ?_;first|rw [m0]|rw [m1]))|(refine k_fn 109 ?_;first|(refine a0A (fun hh=>a5E _ b ad c f a0 256 (RdFl.own hk hh) (by omega) hd) rfl (fun _ _=>?_);rw [q1])|(refine a0A (fun hh=>a5E _ b ad c f1 a1 256 (RdFl.own hk1 hh) (by omega) (up1 ‹v1=0›)) rfl (fun _ _=>?_);rw [q2]))|(refine k_fn 110 ?_;(refine a1J b ad c (fun _=>a8A _ b ad c f h (A) hk (by omega)) rfl (fun h1 hk1=>?_);(rw [hr1] at hk1 ⊢;dsimp only at hk1 ⊢)))|refine wK ?_|refine wL ?_ ?_|fail)
   ·rename_i hv
    rw [if_pos hv]
    refine a0E h1 rfl rfl rfl hk1 ?_
    exact ent
   ·have hv : ¬ v1≠0:=by omega
    rw [if_neg hv]
    refine a0E h1 rfl rfl rfl hk1 ?_
    exact ent
 ·have c1:clr1 f A=(f,0):=by rw [clr1,ha0,if_pos q1]
  rw [c1]
  dsimp only
  rw [if_neg (by simp)]
  cases q2:blankB (seg f.bs a1 256)
  ·have c2:clr1 f (A+1)=(f2,v2):=by rw [clr1,ha1,if_neg (by rw [q2];simp),hr2]
   rw [c2]
   repeat' (first|intro _|refine wK ?_|refine wL ?_ ?_|fail)
   refine a2O 3 ?_
   repeat' (first|intro _|(refine k_fn 65 ?_;(refine a0A (fun _=>a7T _ s hs) rfl (fun _ _=>?_);rw [hA]))|(refine a0D .add ?_;(refine a2F rfl rfl (by omega) ?_;(try first|rw [e0]|rw [e1])))|(refine a0D .mul ?_;(refine a2Y rfl rfl (by omega) ?_;first|rw [m0]|rw [m1]))|(refine k_fn 109 ?_;first|(refine a0A (fun hh=>a5E _ b ad c f a0 256 (RdFl.own hk hh) (by omega) hd) rfl (fun _ _=>?_);rw [q1])|(refine a0A (fun hh=>a5E _ b ad c f a1 256 (RdFl.own hk hh) (by omega) hd) rfl (fun _ _=>?_);rw [q2]))|(refine k_fn 110 ?_;(refine a1J b ad c (fun _=>a8A _ b ad c f h (A+1) hk (by omega)) rfl (fun h2 hk2=>?_);(rw [hr2] at hk2 ⊢;dsimp only at hk2 ⊢)))|refine wK ?_|refine wL ?_ ?_|fail)
   ·refine a0E h2 rfl rfl rfl hk2 ?_
    exact ent
   ·have hv2:v2=0:=by omega
    subst hv2
    refine a0E h2 rfl rfl rfl hk2 ?_
    exact ent
  ·have c2:clr1 f (A+1)=(f,0):=by rw [clr1,ha1,if_pos q2]
   rw [c2]
   repeat' (first|intro _|refine wK ?_|refine wL ?_ ?_|fail)
   refine a2O 3 ?_
   repeat' (first|intro _|(refine k_fn 65 ?_;(refine a0A (fun _=>a7T _ s hs) rfl (fun _ _=>?_);rw [hA]))|(refine a0D .add ?_;(refine a2F rfl rfl (by omega) ?_;(try first|rw [e0]|rw [e1])))|(refine a0D .mul ?_;(refine a2Y rfl rfl (by omega) ?_;first|rw [m0]|rw [m1]))|(refine k_fn 109 ?_;first|(refine a0A (fun hh=>a5E _ b ad c f a0 256 (RdFl.own hk hh) (by omega) hd) rfl (fun _ _=>?_);rw [q1])|(refine a0A (fun hh=>a5E _ b ad c f a1 256 (RdFl.own hk hh) (by omega) hd) rfl (fun _ _=>?_);rw [q2]))|refine wK ?_|refine wL ?_ ?_|fail)
   refine a0E h rfl rfl rfl hk ?_
   exact ent
theorem sl_Write_0 (H:List Hl) (b:Nat) (ad:Option Addr) (c:Nat) (f:Fl) (h:Hid) (ad2:Option Addr) (c2:Nat) (x:List (BitVec 8)) (hk:FlOk f h) (hx:Rs (stars H) B ad2 c2 x) (hx1:1≤x.length) (hx2:x.length≤512) (hd:f.pw.isDown=false) :
  Spec Tryz.prog 31 [.pointer (some ⟨b,0,none⟩),I 0,.slice ad2 x.length c2] (fB b ad c f h::fR ad c f::H) (fun h':Hid=>FlOk (slotW f 0 x).1 h') (fun _=>I (slotW f 0 x).2) (fun h'=>fB b ad c (slotW f 0 x).1 h'::fR ad c (slotW f 0 x).1::H):=by
 rw [b8E hd]
 refine sF (res:=fun h':Hid=>[fB b ad c _ h',fR ad c _]) [fB b ad c f h,fR ad c f] H Tryz.func31 Tryz.ntmps31 fun W=>?_
 dsimp only [cA,nA]
 have m0:((2+0*2:Nat):Int)*256=(slotA 0:Int):=by decide
 have a1:slotA 0+512≤3584:=by decide
 obtain ⟨a,ha⟩:∃ a,slotA 0=a:=⟨_,rfl⟩
 rw [ha] at m0 a1
 obtain ⟨⟨f1,v1⟩,hr1⟩:∃ r,clrF f 0=r:=⟨_,rfl⟩
 obtain ⟨⟨f2,v2⟩,hr2⟩:∃ r,progF f1 a x=r:=⟨_,rfl⟩
 have up2:=b8O hr2
 obtain ⟨y,hy⟩:∃ y,decide (seg f2.bs a x.length=x)=y:=⟨_,rfl⟩
 have hyl:=a2Q (l:=f2.bs) (a:=a) (n:=x.length)
 rw [ha,hr1]
 dsimp only
 rw [hr2]
 dsimp only
 have emay:decide (1≤x.length∧x.length≤512)=true:=by simpa using ⟨hx1,hx2⟩
 have eq:=hx.le
 repeat' (first|intro _|refine a0S rfl rfl ?_|(refine k_fn 62 ?_;(refine a0A (fun _=>c1Y _ ad2 x.length c2) rfl (fun _ _=>?_);rw [emay]))|(refine k_fn 63 ?_;(refine a0A (fun hh=>c1F _ b f (a1M (a4C hk.er))) rfl (fun _ _=>?_);rw [hd]))|(refine k_fn 64 ?_;(refine a1J b ad c (fun _=>sl_clear _ b ad c f h 0 hk (by decide) hd) rfl (fun h1 hk1=>?_);(rw [hr1] at hk1 ⊢;dsimp only at hk1 ⊢)))|(refine k_fn 65 ?_;refine a0A (fun _=>a7T _ 0 (by decide)) rfl (fun _ _=>?_))|(refine a0D .mul ?_;(refine a2Y rfl rfl (by omega) ?_;rw [m0]))|(refine k_fn 44 ?_;(refine a1J b ad c (fun hh=>a3Z _ b ad c f1 h1 a ad2 x.length c2 x hk1 hx.up rfl (by omega)) rfl (fun h2 hk2=>?_);(rw [hr2] at hk2 ⊢;dsimp only at hk2 ⊢)))|(refine k_fn 48 ?_;(refine a0A (fun hh=>b8H _ b ad c f2 0 x.length (RdFl.own hk2 hh) (by decide) hx2 (up2 ‹v2=0›)) rfl (fun ⟨a48,c48⟩ _=>?_);(try dsimp only);rw [ha]))|(refine k_fn 66 ?_;(refine a0A (fun hh=>(a4K _ a48 ad2 c48 c2 (seg f2.bs a x.length) x (a0I hh) (Rs.up hx)).argE (args':=[.slice a48 x.length c48,.slice ad2 x.length c2]) (by rw [hyl (by have:=hk2.bs;omega)])) rfl (fun _ _=>?_);rw [hy]))|refine wK ?_|refine wL ?_ ?_|fail)
 ·rename_i hv
  rw [if_pos hv]
  refine a0E h1 rfl rfl rfl hk1 ?_
  exact ent
 ·rename_i hv2
  have hv : ¬ v1≠0:=by omega
  rw [if_neg hv,if_pos hv2]
  refine a0E h2 rfl rfl rfl hk2 ?_
  exact ent
 ·rename_i hb
  have hv : ¬ v1≠0:=by omega
  have hv2 : ¬ v2≠0:=by omega
  have hyn : ¬ seg f2.bs a x.length=x:=of_decide_eq_false (hy.trans (by simpa using hb))
  rw [if_neg hv,if_neg hv2,if_neg hyn]
  refine a0E h2 rfl rfl rfl hk2 ?_
  exact ent
 ·rename_i hb
  have hv : ¬ v1≠0:=by omega
  have hv2 : ¬ v2≠0:=by omega
  have hyn:seg f2.bs a x.length=x:=of_decide_eq_true (hy.trans (by simpa using hb))
  rw [if_neg hv,if_neg hv2,if_pos hyn]
  refine a0E h2 rfl rfl rfl hk2 ?_
  exact ent
theorem sl_Write_1 (H:List Hl) (b:Nat) (ad:Option Addr) (c:Nat) (f:Fl) (h:Hid) (ad2:Option Addr) (c2:Nat) (x:List (BitVec 8)) (hk:FlOk f h) (hx:Rs (stars H) B ad2 c2 x) (hx1:1≤x.length) (hx2:x.length≤512) (hd:f.pw.isDown=false) :
  Spec Tryz.prog 31 [.pointer (some ⟨b,0,none⟩),I 1,.slice ad2 x.length c2] (fB b ad c f h::fR ad c f::H) (fun h':Hid=>FlOk (slotW f 1 x).1 h') (fun _=>I (slotW f 1 x).2) (fun h'=>fB b ad c (slotW f 1 x).1 h'::fR ad c (slotW f 1 x).1::H):=by
 rw [b8E hd]
 refine sF (res:=fun h':Hid=>[fB b ad c _ h',fR ad c _]) [fB b ad c f h,fR ad c f] H Tryz.func31 Tryz.ntmps31 fun W=>?_
 dsimp only [cA,nA]
 have m0:((2+1*2:Nat):Int)*256=(slotA 1:Int):=by decide
 have a1:slotA 1+512≤3584:=by decide
 obtain ⟨a,ha⟩:∃ a,slotA 1=a:=⟨_,rfl⟩
 rw [ha] at m0 a1
 obtain ⟨⟨f1,v1⟩,hr1⟩:∃ r,clrF f 1=r:=⟨_,rfl⟩
 obtain ⟨⟨f2,v2⟩,hr2⟩:∃ r,progF f1 a x=r:=⟨_,rfl⟩
 have up2:=b8O hr2
 obtain ⟨y,hy⟩:∃ y,decide (seg f2.bs a x.length=x)=y:=⟨_,rfl⟩
 have hyl:=a2Q (l:=f2.bs) (a:=a) (n:=x.length)
 rw [ha,hr1]
 dsimp only
 rw [hr2]
 dsimp only
 have emay:decide (1≤x.length∧x.length≤512)=true:=by simpa using ⟨hx1,hx2⟩
 have eq:=hx.le
 repeat' (first|intro _|refine a0S rfl rfl ?_|(refine k_fn 62 ?_;(refine a0A (fun _=>c1Y _ ad2 x.length c2) rfl (fun _ _=>?_);rw [emay]))|(refine k_fn 63 ?_;(refine a0A (fun hh=>c1F _ b f (a1M (a4C hk.er))) rfl (fun _ _=>?_);rw [hd]))|(refine k_fn 64 ?_;(refine a1J b ad c (fun _=>sl_clear _ b ad c f h 1 hk (by decide) hd) rfl (fun h1 hk1=>?_);(rw [hr1] at hk1 ⊢;dsimp only at hk1 ⊢)))|(refine k_fn 65 ?_;refine a0A (fun _=>a7T _ 1 (by decide)) rfl (fun _ _=>?_))|(refine a0D .mul ?_;(refine a2Y rfl rfl (by omega) ?_;rw [m0]))|(refine k_fn 44 ?_;(refine a1J b ad c (fun hh=>a3Z _ b ad c f1 h1 a ad2 x.length c2 x hk1 hx.up rfl (by omega)) rfl (fun h2 hk2=>?_);(rw [hr2] at hk2 ⊢;dsimp only at hk2 ⊢)))|(refine k_fn 48 ?_;(refine a0A (fun hh=>b8H _ b ad c f2 1 x.length (RdFl.own hk2 hh) (by decide) hx2 (up2 ‹v2=0›)) rfl (fun ⟨a48,c48⟩ _=>?_);(try dsimp only);rw [ha]))|(refine k_fn 66 ?_;(refine a0A (fun hh=>(a4K _ a48 ad2 c48 c2 (seg f2.bs a x.length) x (a0I hh) (Rs.up hx)).argE (args':=[.slice a48 x.length c48,.slice ad2 x.length c2]) (by rw [hyl (by have:=hk2.bs;omega)])) rfl (fun _ _=>?_);rw [hy]))|refine wK ?_|refine wL ?_ ?_|fail)
 ·rename_i hv
  rw [if_pos hv]
  refine a0E h1 rfl rfl rfl hk1 ?_
  exact ent
 ·rename_i hv2
  have hv : ¬ v1≠0:=by omega
  rw [if_neg hv,if_pos hv2]
  refine a0E h2 rfl rfl rfl hk2 ?_
  exact ent
 ·rename_i hb
  have hv : ¬ v1≠0:=by omega
  have hv2 : ¬ v2≠0:=by omega
  have hyn : ¬ seg f2.bs a x.length=x:=of_decide_eq_false (hy.trans (by simpa using hb))
  rw [if_neg hv,if_neg hv2,if_neg hyn]
  refine a0E h2 rfl rfl rfl hk2 ?_
  exact ent
 ·rename_i hb
  have hv : ¬ v1≠0:=by omega
  have hv2 : ¬ v2≠0:=by omega
  have hyn:seg f2.bs a x.length=x:=of_decide_eq_true (hy.trans (by simpa using hb))
  rw [if_neg hv,if_neg hv2,if_pos hyn]
  refine a0E h2 rfl rfl rfl hk2 ?_
  exact ent
def rtD20_0:List Row:=[tR 4 [] [],tR 5 [0] [0],tR 6 [1] [0,1],tR 7 [] [],tR 8 [3] [3],tR 9 [2,4,4] (rG 5)]
theorem rc_disable (w:World):(callFunc 235 #[]).run Tryz.prog w = .ok (.value (.tuple #[])) w:=run_call_mark0 Tryz.func235 (by kernel_rfl) (by kernel_rfl) (by kernel_rfl) .disable (by kernel_rfl) w
theorem rc_enable (w:World):(callFunc 237 #[]).run Tryz.prog w = .ok (.value (.tuple #[])) w:=run_call_mark0 Tryz.func237 (by kernel_rfl) (by kernel_rfl) (by kernel_rfl) .enable (by kernel_rfl) w
theorem rc_acquire (a:Addr) (w:World):(callFunc 238 #[.pointer (some a)]).run Tryz.prog w = .ok (.value (.tuple #[])) w:=run_call_marked Tryz.func238 (by kernel_rfl) (by kernel_rfl) (by kernel_rfl) .acquire (by kernel_rfl) a w
theorem rc_merge (a:Addr) (w:World):(callFunc 240 #[.pointer (some a)]).run Tryz.prog w = .ok (.value (.tuple #[])) w:=run_call_marked Tryz.func240 (by kernel_rfl) (by kernel_rfl) (by kernel_rfl) .releaseMerge (by kernel_rfl) a w
set_option maxRecDepth 100000 in
theorem mx_lock (a:Addr) (w:World) (hc:w.cell? a=some (.int .i32 0)) (hz:w.frozen? a=false) :
  Calls Tryz.prog 218 #[.pointer (some a)] w fun e w'=>e = .returned (.tuple #[])∧w'=w.setCell a (.int .i32 1):=by
 have hd:=rc_disable
 have he:=rc_enable
 have ha:=rc_acquire
 have hcas:=run_call_cas_hit (P:=Tryz.prog) Tryz.func236 (by kernel_rfl) (by kernel_rfl) (by kernel_rfl) .i32 (by kernel_rfl) (y:=1) hc hz
 have hc':(w.setCell a (.int .i32 1)).cell? a=some (.int .i32 1):=World.cell?_setCell_same w a _ hc
 have hcv:=run_convert_to_unsafe (P:=Tryz.prog) (src:=313) (dst:=74) Tryz.underlying313 Tryz.underlying74 (by kernel_rfl) hc'
 go_enter Tryz.func218,Tryz.ntmps218
 go_wp2
 first|go_end0|(simp only [Exit.inBlock,Exit.then];refine bodyPost_ret (results_none rfl _ _ _) rfl ?_)|refine bodyPost_ret (results_none rfl _ _ _) rfl ?_
 go_wp2
 all_goals (try go_end0)
 all_goals exact ⟨rfl,rfl⟩
set_option maxRecDepth 100000 in
theorem mx_unlock (a:Addr) (w:World) (hc:w.cell? a=some (.int .i32 1)) (hz:w.frozen? a=false) :
  Calls Tryz.prog 219 #[.pointer (some a)] w fun e w'=>e = .returned (.tuple #[])∧w'=w.setCell a (.int .i32 0):=by
 have hd:=rc_disable
 have he:=rc_enable
 have hr:=rc_merge
 have hadd:=run_call_add (P:=Tryz.prog) Tryz.func241 (by kernel_rfl) (by kernel_rfl) (by kernel_rfl) .i32 (by kernel_rfl) (y := -1) (s:=0) hc hz (by simp [go_sem];rfl)
 have hcv:=run_convert_to_unsafe (P:=Tryz.prog) (src:=313) (dst:=74) Tryz.underlying313 Tryz.underlying74 (by kernel_rfl) hc
 go_enter Tryz.func219,Tryz.ntmps219
 go_wp2
 go_end0
 go_wp2
 all_goals (try go_end0)
 all_goals exact ⟨rfl,rfl⟩
abbrev K4 (n:Int):Value := .int .i32 n
theorem mx_Lock0 (H:List Hl) (b i:Nat) (T:TypeId) (cs:List Value) (hv:cs[i]?=some (K4 0)) :
  Spec Tryz.prog 218 [.pointer (some ⟨b,i,none⟩)] (.box b T cs::H) (fun _:Unit=>True) (fun _ => .tuple #[]) (fun _ => .box b T (cs.set i (K4 1))::H) :=
 ⟨by kernel_rfl,fun w hs=>(mx_lock ⟨b,i,none⟩ w (by rw [hs.cell .here i,hv]) (hs.free .here i)).mono fun e w' ⟨he,hw⟩=>⟨(),trivial,he,hw ▸ (Ext.refl w).setCell _ _,hw ▸ hs.set_ i (K4 1) .here⟩⟩
theorem mx_Unlock0 (H:List Hl) (b i:Nat) (T:TypeId) (cs:List Value) (hv:cs[i]?=some (K4 1)) :
  Spec Tryz.prog 219 [.pointer (some ⟨b,i,none⟩)] (.box b T cs::H) (fun _:Unit=>True) (fun _ => .tuple #[]) (fun _ => .box b T (cs.set i (K4 0))::H) :=
 ⟨by kernel_rfl,fun w hs=>(mx_unlock ⟨b,i,none⟩ w (by rw [hs.cell .here i,hv]) (hs.free .here i)).mono fun e w' ⟨he,hw⟩=>⟨(),trivial,he,hw ▸ (Ext.refl w).setCell _ _,hw ▸ hs.set_ i (K4 0) .here⟩⟩
theorem mx_Lock (H:List Hl) (b i:Nat) (T:TypeId) (cs:List Value) (hv:cs[i]?=some (K4 0)) :
  Spec Tryz.prog 204 [.pointer (some ⟨b,i,none⟩)] (.box b T cs::H) (fun _:Unit=>True) (fun _ => .tuple #[]) (fun _ => .box b T (cs.set i (K4 1))::H):=by
 refine sF (res:=fun _:Unit=>[.box b T (cs.set i (K4 1))]) [.box b T cs] H Tryz.func204 Tryz.ntmps204 fun W=>?_
 dsimp only [cA,nA]
 repeat' (first|intro _|(refine k_fn 218 ?_;refine a0G (b:=b) (fun _=>mx_Lock0 _ b i _ _ hv) rfl (fun _ _=>?_))|refine wK ?_|refine wL ?_ ?_|fail)
 refine a4I () rfl rfl trivial ?_
 exact ent
theorem mx_UnlockD (H:List Hl) (b i:Nat) (T:TypeId) (cs:List Value) (hv:cs[i]?=some (K4 1)) :
  SpecD Tryz.prog 205 [.pointer (some ⟨b,i,none⟩)] (.box b T cs::H) (fun _:Unit=>True) (fun _ => .tuple #[]) (fun _ => .box b T (cs.set i (K4 0))::H):=by
 refine specd_fn (res:=fun _:Unit=>[.box b T (cs.set i (K4 0))]) [.box b T cs] H Tryz.func205 rfl Tryz.ntmps205 (by kernel_rfl) rfl (fun W=>?_)
 dsimp only [cA,nA]
 repeat' (first|intro _|(refine k_fn 219 ?_;refine a0G (b:=b) (fun _=>mx_Unlock0 _ b i _ _ hv) rfl (fun _ _=>?_))|refine wK ?_|refine wL ?_ ?_|fail)
 refine a4I () rfl rfl trivial ?_
 exact ent
theorem xf_loadu32:XFn Tryz.prog 203 (Extern.Atomic.loadT (.int .u32)):=⟨by kernel_rfl,by kernel_rfl⟩
theorem o1_xload_hc {P:Program} {n:Nat} {H:List Hl} {e:Ev} {C:Value→List Hl→Prop} {ty:TypeId} {f:FuncId} {xs:List Operand} {ats:Array TypeId} {a0:Addr} {k:IntKind} {p:Int} (x:XFn P f (Extern.Atomic.loadT (.int k))) (hxs:opds e xs=some [.pointer (some a0)]) (hc:Cl (stars H) a0 (.int k p)) (h:C (.int k p) H):O1 P (.call ⟨.value (.func f),xs.toArray,ats⟩) ty n e H C :=
 b6F _ hxs (fun a w ho=>by
  obtain ⟨fn,h1,h2,h3,h4,h5⟩:=x.of
  exact run_call_load h1 h2 h3 h4 k h5 (hc.cell w ho.sat)) h
theorem b7K (H:List Hl) (b i:Nat) (x:Nat) (h:Cl (stars H) ⟨b,i,none⟩ (.int .u32 (x:Int))) (y:Bool) (hy:decide ((x:Int)≠0)=y) :
  Spec Tryz.prog 172 [.pointer (some ⟨b,i,none⟩)] H (fun _:Unit=>True) (fun _ => .bool y) (fun _=>H):=by
 refine sP (res:=fun _=>[]) H Tryz.func172 Tryz.ntmps172 fun W=>?_
 repeat' (first|intro _|refine wK ?_|refine wL ?_ ?_|fail)
 refine o1_xload_hc xf_loadu32 rfl (cl_up h) ?_
 repeat' (first|intro _|(refine a0D .neq ?_;(refine b8X rfl rfl ?_;rw [hy]))|refine wK ?_|refine wL ?_ ?_|fail)
 refine a0E () rfl rfl rfl trivial ?_
 exact ent
theorem xf_storeu32:XFn Tryz.prog 208 Extern.Atomic.storeT:=⟨by kernel_rfl,by kernel_rfl⟩
theorem at_b32 (H:List Hl):Spec Tryz.prog 220 [.bool true] H (fun _:Unit=>True) (fun _=>W4 1#32) (fun _=>H):=by
 refine sP (res:=fun _=>[]) H Tryz.func220 Tryz.ntmps220 fun W=>?_
 repeat' (first|intro _|refine wK ?_|refine wL ?_ ?_|fail)
 refine a0E () rfl rfl rfl trivial ?_
 exact ent
theorem bl_StoreD (H:List Hl) (b i:Nat) (T:TypeId) (cs:List Value) (hi:i<cs.length) :
  SpecD Tryz.prog 206 [.pointer (some ⟨b,i,none⟩),.bool true] (.box b T cs::H) (fun _:Unit=>True) (fun _ => .tuple #[]) (fun _ => .box b T (cs.set i (W4 1#32))::H):=by
 refine specd_fn (res:=fun _:Unit=>[.box b T (cs.set i (W4 1#32))]) [.box b T cs] H Tryz.func206 rfl Tryz.ntmps206 (by kernel_rfl) rfl (fun W=>?_)
 dsimp only [cA,nA]
 repeat' (first|intro _|refine wK ?_|refine wL ?_ ?_|fail)
 refine a0H [(0,_),(1,_)] rtD20_0 [4,5] [⟨[0,1,2,3],[],some 4⟩,⟨[],[0,1,2],some 5⟩,⟨[],[],none⟩] mixed cv (by kernel_rfl) (by kernel_rfl) ?_
 repeat' (first|intro _|refine sg ?_|refine po (by first|refine b6G xf_storeu32 rfl (b:=b) (i:=i) hi fz|fail) ?_|refine pw ?_|refine pdd ?_|(refine k_fn 220 ?_;refine a0A (fun _=>at_b32 _) rfl (fun _ _=>?_))|refine b6G xf_storeu32 rfl (b:=b) (i:=i) hi ?_|refine ow ?_|fail)
 all_goals dsimp only [cA,nA]
 repeat' (first|intro _|refine wK ?_|refine wL ?_ ?_|fail)
 refine a4I () rfl rfl trivial ?_
 exact ent
set_option maxRecDepth 20000 in
theorem on_slow (H:List Hl) (b i:Nat) (T:TypeId) (cs:List Value) (g:FuncId) (caps:List Value) {X:Type} {good:X→Prop} {ds:X→List Value} {R:X→List Hl} (h0:cs[i]?=some (W4 0#32)) (h1:cs[i+1]?=some (K4 0))
  (hc:Spec Tryz.prog g caps (.box b T (cs.set (i+1) (K4 1))::H) good (fun _ => .tuple #[]) (fun r => .box b T (ds r)::R r)) (hd:∀ r,good r→(ds r)[i+1]?=some (K4 1)) :
  Spec Tryz.prog 173 [.pointer (some ⟨b,i,none⟩),.func (.func g) #[] caps.toArray] (.box b T cs::H) good (fun _ => .tuple #[]) (fun r => .box b T (((ds r).set i (W4 1#32)).set (i+1) (K4 0))::R r):=by
 refine spec_defers _ Tryz.func173 rfl Tryz.ntmps173 (by kernel_rfl) rfl (fun W=>?_)
 have hne:(cs.set (i+1) (K4 1))[i]?=some (W4 0#32):=by rw [List.getElem?_set_ne (by omega),h0]
 repeat' (first|refine sd_seq ?_|refine sd_region ?_|refine sd_cond_t rfl ?_|refine ld_defer rfl ?_|refine ld_of rfl ?_|refine ld_of_no ?_|refine ld_next ?_|refine a6F rfl ?_|refine a7N rfl ?_|refine a6R rfl ?_|refine b4J rfl ?_|refine a0G (b:=b) (fun _=>mx_Lock _ b (i+1) T cs h1) rfl (fun _ _=>?_)|refine a0A (fun _=>b7K _ b i 0 (a1M hne) false rfl) rfl (fun _ _=>?_)|refine a6G (args:=[]) (caps:=caps) rfl (fun _=>hc) rfl (fun r hg=>?_))
 refine c2I (fun a w ho hD=>?_)
 show Leaves _ _ _ _ a.defers .returning w
 rw [hD]
 have hd1:=hd r hg
 have hlt:i<(ds r).length:=by have:=(List.getElem?_eq_some_iff.1 hd1).1;omega
 refine a9O (bl_StoreD _ b i T (ds r) hlt) ho.sat (fun _ w1 _ hx1 hs1=>a9O (mx_UnlockD _ b (i+1) T _ (by rw [List.getElem?_set_ne (by omega),hd1])) hs1 (fun _ w2 _ hx2 hs2=>?_))
 exact ⟨.tuple #[],by simp [results],r,hg,rfl,(ho.ext.trans hx1).trans hx2,hs2⟩
theorem on_Do (H:List Hl) (b i:Nat) (T:TypeId) (cs:List Value) (g:FuncId) (caps:List Value) {X:Type} {good:X→Prop} {ds:X→List Value} {R:X→List Hl} (h0:cs[i]?=some (W4 0#32)) (h1:cs[i+1]?=some (K4 0))
  (hc:Spec Tryz.prog g caps (.box b T (cs.set (i+1) (K4 1))::H) good (fun _ => .tuple #[]) (fun r => .box b T (ds r)::R r)) (hd:∀ r,good r→(ds r)[i+1]?=some (K4 1)) :
  Spec Tryz.prog 131 [.pointer (some ⟨b,i,none⟩),.func (.func g) #[] caps.toArray] (.box b T cs::H) good (fun _ => .tuple #[]) (fun r => .box b T (((ds r).set i (W4 1#32)).set (i+1) (K4 0))::R r):=by
 refine b1T _ Tryz.func131 rfl Tryz.ntmps131 (by kernel_rfl) rfl (fun W=>?_)
 repeat' (first|intro _|refine wK ?_|refine wL ?_ ?_|fail)
 refine a0A (fun _=>b7K _ b i 0 (a1M h0) false rfl) rfl (fun _ _=>?_)
 repeat' (first|intro _|refine wK ?_|refine wL ?_ ?_|fail)
 refine a0G (b:=b) (fun _=>on_slow _ b i T cs g caps h0 h1 hc hd) rfl (fun r hg=>?_)
 repeat' (first|intro _|refine wK ?_|refine wL ?_ ?_|fail)
 refine a4I r rfl rfl hg ?_
 exact Ent.refl _
theorem on_Do_done (H:List Hl) (b i:Nat) (g:FuncId) (caps:List Value) (h0:Cl (stars H) ⟨b,i,none⟩ (W4 1#32)) :
  Spec Tryz.prog 131 [.pointer (some ⟨b,i,none⟩),.func (.func g) #[] caps.toArray] H (fun _:Unit=>True) (fun _ => .tuple #[]) (fun _=>H):=by
 refine sP (res:=fun _=>[]) H Tryz.func131 Tryz.ntmps131 fun W=>?_
 repeat' (first|intro _|refine wK ?_|refine wL ?_ ?_|fail)
 refine a0A (fun _=>b7K _ b i 1 (cl_up h0) true rfl) rfl (fun _ _=>?_)
 repeat' (first|intro _|refine wK ?_|refine wL ?_ ?_|fail)
 refine a4I () rfl rfl trivial ?_
 exact ent
end Go.Dp
namespace Go.Dp
def wordOf (l:List Bool) (k:Nat):BitVec 64:=(BitVec.iunfoldr (fun (i:Fin 64) (_:Unit)=>((),l.getD (64*k+i.val) false)) ()).2
theorem a2S (l:List Bool) (k j:Nat) (hj:j<64):(wordOf l k).getLsbD j=l.getD (64*k+j) false :=
 BitVec.iunfoldr_getLsbD (f:=fun (i:Fin 64) (_:Unit)=>((),l.getD (64*k+i.val) false)) (fun _=>()) ⟨j,hj⟩ (fun _=>rfl)
def nw (n:Nat):Nat:=(n+63) / 64
def words (l:List Bool):List (BitVec 64):=(List.range (nw l.length)).map (wordOf l)
theorem a6N (l:List Bool):(words l).length=nw l.length:=by simp [words]
theorem b0U (l:List Bool) (k:Nat) (h:k<(words l).length):(words l)[k]=wordOf l k:=by simp [words]
theorem b2H (l:List Bool) (k:Nat) (h:k<nw l.length):(words l)[k]?=some (wordOf l k):=by simp [words,h]
theorem b0V {x y:BitVec 64} (h:∀ j,j<64→x.getLsbD j=y.getLsbD j):x=y:=BitVec.eq_of_getLsbD_eq h
theorem one_shl_bit (m j:Nat) (hj:j<64) (hm:m<64):(1#64 <<< m).getLsbD j=decide (j=m):=by
 rw [BitVec.getLsbD_shiftLeft]
 by_cases h:j=m
 ·subst h;simp [hj]
 ·by_cases h2:j<m
  ·simp [h,h2]
  ·have:(1#64).getLsbD (j - m)=false:=by
    rw [BitVec.getLsbD_one];simp;omega
   simp [h,this]
theorem b7P (l:List Bool) (i j:Nat) (b d:Bool):(l.set i b).getD j d=if i=j∧i<l.length then b else l.getD j d:=by
 simp only [List.getD_eq_getElem?_getD,List.getElem?_set]
 by_cases h:i=j
 ·subst h
  by_cases h2:i<l.length <;> simp [h2]
 ·simp [h]
theorem word_off (l:List Bool) (i:Nat):wordOf (l.set i false) (i / 64)=wordOf l (i / 64) &&& ~~~(1#64 <<< (i % 64)):=by
 refine b0V (fun j hj=>?_)
 rw [a2S _ _ _ hj,BitVec.getLsbD_and,BitVec.getLsbD_not,one_shl_bit _ _ hj (by omega),a2S _ _ _ hj,b7P]
 have hd:i=64*(i / 64)+i % 64:=by omega
 by_cases h:j=i % 64
 ·subst h
  rw [←hd]
  by_cases h2:i<l.length
  ·simp [h2]
  ·simp [h2,List.getD_eq_getElem?_getD]
 ·have : ¬ i=64*(i / 64)+j:=by omega
  simp [h,this,hj]
theorem word_on (l:List Bool) (i:Nat) (hi:i<l.length):wordOf (l.set i true) (i / 64)=wordOf l (i / 64) ||| (1#64 <<< (i % 64)):=by
 refine b0V (fun j hj=>?_)
 rw [a2S _ _ _ hj,BitVec.getLsbD_or,one_shl_bit _ _ hj (by omega),a2S _ _ _ hj,b7P]
 have hd:i=64*(i / 64)+i % 64:=by omega
 by_cases h:j=i % 64
 ·subst h
  rw [←hd];simp [hi]
 ·have : ¬ i=64*(i / 64)+j:=by omega
  simp [h,this]
theorem word_else (l:List Bool) (i k:Nat) (b:Bool) (h:k≠i / 64):wordOf (l.set i b) k=wordOf l k:=by
 refine b0V (fun j hj=>?_)
 rw [a2S _ _ _ hj,a2S _ _ _ hj,b7P,if_neg (by omega)]
theorem words_set (l:List Bool) (i:Nat) (b:Bool):words (l.set i b)=(words l).set (i / 64) (wordOf (l.set i b) (i / 64)):=by
 refine List.ext_getElem ?_ (fun k h1 h2=>?_)
 ·simp [a6N]
 ·rw [b0U,List.getElem_set]
  by_cases h:i / 64=k
  ·rw [if_pos h,h]
  ·rw [if_neg h,b0U,word_else _ _ _ _ (fun q=>h q.symm)]
theorem words_off (l:List Bool) (i:Nat):words (l.set i false)=(words l).set (i / 64) (wordOf l (i / 64) &&& ~~~(1#64 <<< (i % 64))):=by rw [words_set,word_off]
theorem words_on (l:List Bool) (i:Nat) (hi:i<l.length):words (l.set i true)=(words l).set (i / 64) (wordOf l (i / 64) ||| (1#64 <<< (i % 64))):=by rw [words_set,word_on _ _ hi]
def xorV (a b:List Bool):List Bool:=List.zipWith (· ^^ ·) a b
theorem a8Y {a b:List Bool} (h:a.length=b.length):(xorV a b).length=a.length:=by simp [xorV,h]
theorem a5S {a b:List Bool} (h:a.length=b.length) (j:Nat):(xorV a b).getD j false=(a.getD j false ^^ b.getD j false):=by
 simp only [xorV,List.getD_eq_getElem?_getD,List.getElem?_zipWith]
 by_cases hj:j<a.length
 ·have hj':j<b.length:=by omega
  simp [hj,hj']
 ·have hj' : ¬ j<b.length:=by omega
  simp [hj,hj']
theorem word_xor {a b:List Bool} (h:a.length=b.length) (k:Nat):wordOf (xorV a b) k=wordOf a k ^^^ wordOf b k:=by
 refine b0V (fun j hj=>?_)
 rw [a2S _ _ _ hj,BitVec.getLsbD_xor,a2S _ _ _ hj,a2S _ _ _ hj,a5S h]
theorem words_xor {a b:List Bool} (h:a.length=b.length):words (xorV a b)=List.zipWith (· ^^^ ·) (words a) (words b):=by
 refine List.ext_getElem ?_ (fun k h1 h2=>?_)
 ·simp [a6N,a8Y h,h]
 ·rw [b0U,List.getElem_zipWith,b0U,b0U,word_xor h]
theorem word_has (l:List Bool) (i:Nat):((wordOf l (i / 64) >>> (i % 64)) &&& 1#64).toNat=(l.getD i false).toNat:=by
 have hb:((wordOf l (i / 64) >>> (i % 64)) &&& 1#64)=if l.getD i false then 1#64 else 0#64:=by
  refine b0V (fun j hj=>?_)
  rw [BitVec.getLsbD_and,BitVec.getLsbD_ushiftRight,BitVec.getLsbD_one]
  by_cases h:j=0
  ·subst h
   rw [a2S _ _ _ (by omega),show 64*(i / 64)+(i % 64+0)=i by omega]
   cases l.getD i false <;> simp
  ·cases l.getD i false <;> simp [h]
 rw [hb];cases l.getD i false <;> rfl
theorem b3C {l:List Bool} {j:Nat} (h:l.length≤j):l.getD j false=false:=by simp [List.getD_eq_getElem?_getD,h]
theorem b9W {a b:List Bool} (h:a.length=b.length) (hb:∀ j,j<a.length→a.getD j false=b.getD j false):a=b:=by
 refine List.ext_getElem h (fun j h1 h2=>?_)
 have:=hb j h1
 simpa [List.getD_eq_getElem?_getD,h1,h2] using this
theorem words_zero (n:Nat):words (List.replicate n false)=List.replicate (nw n) 0#64:=by
 refine List.ext_getElem ?_ (fun k h1 h2=>?_)
 ·simp [a6N]
 ·rw [b0U,List.getElem_replicate]
  refine b0V (fun j hj=>?_)
  rw [a2S _ _ _ hj]
  by_cases h:64*k+j<n <;> simp [List.getD_eq_getElem?_getD,List.getElem?_replicate,h]
def cnt (f:Nat→Bool) (m:Nat):Nat:=((List.range m).filter f).length
theorem cnt_succ (f:Nat→Bool) (m:Nat):cnt f (m+1)=cnt f m+(f m).toNat:=by
 simp only [cnt,List.range_succ,List.filter_append,List.length_append]
 cases h:f m <;> simp [h]
theorem c2P (f:Nat→Bool) (m:Nat):cnt f m≤m:=by
 induction m with
 | zero=>exact Nat.le_refl _
 | succ m ih=>rw [cnt_succ];cases f m <;> simp <;> omega
def placesN (f:Nat→Bool) (m:Nat):List Nat:=(List.range m).filter f
theorem a7J (f:Nat→Bool) (m:Nat):placesN f (m+1)=placesN f m++if f m then [m] else []:=by
 simp only [placesN,List.range_succ,List.filter_append]
 cases h:f m <;> simp [h]
theorem places_len (f:Nat→Bool) (m:Nat):(placesN f m).length=cnt f m:=rfl
theorem places_mem {f:Nat→Bool} {m i:Nat}:i∈placesN f m↔i<m∧f i=true:=by simp [placesN]
def firstN (f:Nat→Bool):Nat→Nat
 | 0=>0
 | m+1=>if firstN f m<m then firstN f m else if f m then m else m+1
theorem firstN_le (f:Nat→Bool) (m:Nat):firstN f m≤m:=by
 induction m with
 | zero=>exact Nat.le_refl _
 | succ m ih=>rw [firstN];split;omega;split <;> omega
theorem b6X (f:Nat→Bool) (m:Nat):∀ j,j<firstN f m→f j=false:=by
 induction m with
 | zero=>intro j hj;simp [firstN] at hj
 | succ m ih =>
  intro j hj
  rw [firstN] at hj
  split at hj
  ·exact ih j hj
  ·have:firstN f m=m:=by have:=firstN_le f m;omega
   split at hj
   ·exact ih j (by omega)
   ·by_cases h:j<m
    ·exact ih j (by omega)
    ·have:j=m:=by omega
     subst this
     rename_i h1 h2
     simpa using h2
theorem b3F (f:Nat→Bool) (m:Nat) (h:firstN f m<m):f (firstN f m)=true:=by
 induction m with
 | zero=>omega
 | succ m ih =>
  rw [firstN] at h ⊢
  split
  ·rename_i h1;exact ih h1
  ·rename_i h1
   rw [if_neg h1] at h
   split
   ·assumption
   ·rename_i h2;rw [if_neg h2] at h;omega
theorem firstN_is {f:Nat→Bool} {m i:Nat} (hi:i<m) (h1:f i=true) (h:∀ j,j<i→f j=false):firstN f m=i:=by
 rcases Nat.lt_trichotomy (firstN f m) i with hl|he|hg
 ·have:=b3F f m (by omega)
  rw [h _ hl] at this;cases this
 ·exact he
 ·have:=b6X f m i hg
  rw [h1] at this;cases this
theorem firstN_none {f:Nat→Bool} {m:Nat} (h:∀ j,j<m→f j=false):firstN f m=m:=by
 have hle:=firstN_le f m
 rcases Nat.lt_or_ge (firstN f m) m with hl|hg
 ·have:=b3F f m hl
  rw [h _ hl] at this;cases this
 ·omega
theorem ctz_first (x:Nat) (h0:x≠0) (h:x<2 ^ 64):firstN x.testBit 64=Go.Lib.ctz 64 x:=by
 obtain ⟨m,hm,hk⟩:=Go.Lib.ctzFrom_spec 64 x (by omega) h
 have e:Go.Lib.ctz 64 x=Go.Lib.ctzFrom 64 x:=by simp [Go.Lib.ctz,h0]
 rw [e]
 generalize Go.Lib.ctzFrom 64 x=c at *
 refine firstN_is hk ?_ (fun j hj=>?_)
 ·rw [hm,Nat.testBit_two_pow_mul];simp
 ·rw [hm,Nat.testBit_two_pow_mul]
  have : ¬ c≤j:=by omega
  simp [this]
abbrev at_ (l:List Bool) (j:Nat):Bool:=l.getD j false
def setI (b:List Bool) (i:Int):List Bool:=if 0≤i∧i<b.length then b.set i.toNat true else b
def bitsOf (n:Nat) (l:List Int):List Bool:=l.foldl setI (List.replicate n false)
theorem setI_len (b:List Bool) (i:Int):(setI b i).length=b.length:=by unfold setI;split <;> simp
theorem foldI_len (l:List Int):∀ b:List Bool,(l.foldl setI b).length=b.length:=by
 induction l with
 | nil=>exact fun _=>rfl
 | cons i l ih=>intro b;rw [List.foldl_cons,ih,setI_len]
theorem a8T (n:Nat) (l:List Int):(bitsOf n l).length=n:=by rw [bitsOf,foldI_len,List.length_replicate]
theorem setI_at (b:List Bool) (i:Int) (j:Nat) (hj:j<b.length):(setI b i).getD j false=(b.getD j false || decide ((j:Int)=i)):=by
 unfold setI
 split
 ·rename_i h
  rw [b7P]
  by_cases h2:i.toNat=j
  ·have:(j:Int)=i:=by omega
   rw [if_pos ⟨h2,by omega⟩];simp [this]
  ·have : ¬ (j:Int)=i:=by omega
   rw [if_neg (fun q=>h2 q.1)];simp [this]
 ·rename_i h
  have : ¬ (j:Int)=i:=by omega
  simp [this]
theorem foldI_at (l:List Int):∀ (b:List Bool) (j:Nat),j<b.length→(l.foldl setI b).getD j false=(b.getD j false || decide ((j:Int)∈l)):=by
 induction l with
 | nil=>intro b j _;simp
 | cons i l ih =>
  intro b j hj
  rw [List.foldl_cons,ih _ _ (by rw [setI_len];exact hj),setI_at _ _ _ hj,Bool.or_assoc]
  congr 1
  simp [List.mem_cons,Bool.decide_or]
theorem rep_at (n j:Nat):(List.replicate n false).getD j false=false:=by
 by_cases h:j<n <;> simp [List.getD_eq_getElem?_getD,h]
theorem b7L (n:Nat) (l:List Int) (j:Nat) (hj:j<n):(bitsOf n l).getD j false=decide ((j:Int)∈l):=by
 rw [bitsOf,foldI_at _ _ _ (by simpa using hj),rep_at];simp
theorem bitsOf_snoc (n:Nat) (l:List Int) (i:Int):bitsOf n (l++[i])=setI (bitsOf n l) i:=by simp [bitsOf]
def listV (l:List Bool):List Int:=(placesN (at_ l) l.length).map Int.ofNat
theorem listV_len (l:List Bool):(listV l).length=cnt (at_ l) l.length:=by rw [listV,List.length_map,places_len]
theorem listV_mem {l:List Bool} {i:Int}:i∈listV l↔0≤i∧i<l.length∧at_ l i.toNat=true:=by
 simp only [listV,List.mem_map,places_mem]
 constructor
 ·rintro ⟨j,⟨h1,h2⟩,rfl⟩
  exact ⟨by simp,by simpa using h1,by simpa using h2⟩
 ·rintro ⟨h0,h1,h2⟩
  exact ⟨i.toNat,⟨by omega,h2⟩,by simp;omega⟩
def firstV (l:List Bool):Int:=if firstN (at_ l) l.length<l.length then firstN (at_ l) l.length else -1
theorem firstV_is {l:List Bool} {i:Nat} (hi:i<l.length) (h1:at_ l i=true) (h:∀ j,j<i→at_ l j=false):firstV l=i:=by
 rw [firstV,firstN_is hi h1 h,if_pos hi]
theorem firstV_none {l:List Bool} (h:∀ j,j<l.length→at_ l j=false):firstV l = -1:=by
 rw [firstV,firstN_none h,if_neg (Nat.lt_irrefl _)]
theorem word_eq_zero {l:List Bool} {k:Nat} (h:wordOf l k=0#64):∀ j,64*k≤j→j<64*(k+1)→at_ l j=false:=by
 intro j h1 h2
 have:=a2S l k (j - 64*k) (by omega)
 rw [h,show 64*k+(j - 64*k)=j by omega] at this
 simpa using this.symm
theorem first_word {l:List Bool} {k:Nat} (h0:wordOf l k≠0#64) (h:∀ j,j<64*k→at_ l j=false):firstV l=64*(k:Int)+Go.Lib.ctz 64 (wordOf l k).toNat∧Go.Lib.ctz 64 (wordOf l k).toNat<64:=by
 have hx0:(wordOf l k).toNat≠0:=fun e=>h0 (BitVec.eq_of_toNat_eq (by simpa using e))
 have hc:=ctz_first _ hx0 (wordOf l k).isLt
 have hlt:=(Go.Lib.lowest_bit 64 _ hx0 (wordOf l k).isLt).2
 rw [←hc] at hlt ⊢
 refine ⟨?_,hlt⟩
 have h1:(wordOf l k).getLsbD (firstN (wordOf l k).toNat.testBit 64)=true:=b3F _ 64 hlt
 rw [a2S _ _ _ hlt] at h1
 have hin:64*k+firstN (wordOf l k).toNat.testBit 64<l.length:=by
  rcases Nat.lt_or_ge (64*k+firstN (wordOf l k).toNat.testBit 64) l.length with q|q
  ·exact q
  ·rw [b3C q] at h1;cases h1
 rw [firstV_is hin h1 (fun j hj=>?_)]
 ·push_cast;rfl
 ·by_cases h2:j<64*k
  ·exact h j h2
  ·have h3:=b6X (wordOf l k).toNat.testBit 64 (j - 64*k) (by omega)
   have h4:=a2S l k (j - 64*k) (by omega)
   rw [show 64*k+(j - 64*k)=j by omega] at h4
   rw [at_,←h4];exact h3
end Go.Dp
