/-
  Downpour, walked and proved: part 10.
  Conditions: those that stand in each theorem.
-/
import Derived.Test.YtcblcmdikhllbaaGreatDoorQTopEnough3
import Derived.Test.YtcblcmdikhllbaaGreatDoorQTopEnough4
import Derived.Test.YtcblcmdikhllbaaGreatDoorQTopEnough2
import Derived.Test.YtcblcmdikhllbaaGreatDoorQTopEnough5
set_option linter.unusedVariables false
set_option linter.unusedSimpArgs false
set_option maxHeartbeats 64000000
namespace Go.Dp
open Go.RowKit Go.Proofs
def c2D:List Row:=[tR 8 [] [],tR 9 [0] [0],tR 10 [1] [0,1],tG 11 [2] [0,1,2] 2 false,tG 12 [2] [0,1,2] 2 false,tG 13 [3,4,2] (rG 5) 2 false,tG 14 [5,2,2] (rG 6) 2 false,tG 15 [6,2] (rG 7) 2 false,tG 16 [2] [0,1,2] 2 false,tG 17 [8,2] [0,1,2,8] 2 false,tG 18 [7,9,2] (rG 10) 2 false,tR 19 [2,10] (rG 11)]
theorem crc_Add (H:List Hl) (s:BitVec 32) (ad:Option Addr) (m c:Nat) (l:List (BitVec 8)) (h:Rs (stars H) B ad c l) (hm:m=l.length) :
  Spec Tryz.prog 171 [W4 s,.slice ad m c] H (fun _:Unit=>True) (fun _=>W4 (crcAdd s l)) (fun _=>H):=by
 subst hm
 have b1:=h.le
 have b2:=h.big
 refine sP (res:=fun _=>[]) H Tryz.func171 Tryz.ntmps171 fun W=>?_
 repeat' (first|intro _|refine wK ?_|refine wL ?_ ?_|fail)
 refine a0Y (S:=Nat) (fun i=>[(5,W4 (crcAll (~~~ s) (l.take i))),(11,.slice ad l.length c),(12,I l.length),(13,I i)]) (fun _=>[.any (stars H)]) (fun i=>i≤l.length) (fun i=>l.length - i) 0 (Nat.zero_le _) cv ent ?_
 intro i hi
 by_cases hlt:i<l.length
 ·obtain ⟨x,hx⟩:∃ x,l[i]=x:=⟨_,rfl⟩
  have hnx:=crcAll_take (c := ~~~ s) hlt
  obtain ⟨c0,hc0⟩:∃ c0,crcAll (~~~ s) (l.take i)=c0:=⟨_,rfl⟩
  rw [hc0,hx] at hnx
  rw [hc0]
  repeat' (first|intro _|(refine a0J ?_;refine o1_ia (ad:=ad) (c:=c) i rfl rfl h rfl rfl hlt ?_)|(refine a0K ?_;(refine a1F (ad:=ad) (c:=c) i rfl h hlt ?_;rw [hx]))|refine wK ?_|refine wL ?_ ?_|fail)
  refine a0Y (S:=Nat) (fun j=>[(5,W4 (crcBits j (c0 ^^^ x.setWidth 32))),(11,.slice ad l.length c),(12,I l.length),(13,I i),(21,I j)]) (fun _=>[.any (stars H)]) (fun j=>j≤8) (fun j=>8 - j) 0 (Nat.zero_le _) cv ent ?_
  intro j hj
  by_cases hjt:j<8
  ·repeat' (first|intro _|(refine a0D .and ?_;refine b0F (v:=1#32) rfl rfl ?_)|(refine a0D .mul ?_;refine a7M (u:=0xedb88320#32) rfl rfl ?_)|refine wK ?_|refine wL ?_ ?_|fail)
   refine a0Q (j+1) (by omega) (by omega) cv ?_
   exact ent
  ·have:j=8:=by omega
   subst this
   repeat' (first|intro _|refine wK ?_|refine wL ?_ ?_|fail)
   refine a0Q (i+1) (by omega) (by omega) (a0R rfl (by rw [hnx];rfl) cv) ?_
   exact ent
 ·have:i=l.length:=by omega
  subst this
  repeat' (first|intro _|refine wK ?_|refine wL ?_ ?_|fail)
  rw [List.take_length]
  refine a0E () rfl rfl rfl trivial ?_
  exact ent
theorem crc_Sum (H:List Hl) (ad:Option Addr) (m c:Nat) (l:List (BitVec 8)) (h:Rs (stars H) B ad c l) (hm:m=l.length) :
  Spec Tryz.prog 130 [.slice ad m c] H (fun _:Unit=>True) (fun _=>W4 (crcAdd 0#32 l)) (fun _=>H):=by
 refine sP (res:=fun _=>[]) H Tryz.func130 Tryz.ntmps130 fun W=>?_
 repeat' (first|intro _|(refine k_fn 171 ?_;refine a0A (fun _=>crc_Add _ 0#32 ad m c l h.up hm) rfl (fun _ _=>?_))|refine wK ?_|refine wL ?_ ?_|fail)
 refine a0E () rfl rfl rfl trivial ?_
 exact ent
theorem be4_at (x:BitVec 32) (j:Nat) (hj:j<4):(x >>> (24 - 8*(j:Int)).toNat).setWidth 8=(be4 x)[j]'(by rw [a4W];exact hj):=by
 rcases (by omega:j=0∨j=1∨j=2∨j=3) with rfl|rfl|rfl|rfl <;> rfl
theorem b2D (H:List Hl) (ad:Option Addr) (m c:Nat) (l:List (BitVec 8)) (h:Rs (stars H) B ad c l) (hm:m=l.length) (hb:m≤1000000) :
  Spec Tryz.prog 83 [.slice ad m c] H (fun _:Option Addr × Nat=>True) (fun r => .slice r.1 (l.length+4) r.2) (fun r => .row 5 1 (.slice r.1 (l.length+4) r.2) (l.length+4) ((crcPut l).map B)::H):=by
 subst hm
 have b1:=h.le
 have b2:=h.big
 refine sP (res:=fun r:Option Addr × Nat=>[.row 5 1 (.slice r.1 (l.length+4) r.2) (l.length+4) ((crcPut l).map B)]) H Tryz.func83 Tryz.ntmps83 fun W=>?_
 refine a3J (a1A 5 B) ?_
 obtain ⟨s,hs⟩:∃ s,crcAdd 0#32 l=s:=⟨_,rfl⟩
 have hp:crcPut l=l++be4 s:=by rw [←hs];rfl
 rw [hp]
 repeat' (first|intro _|(refine a1S ?_;refine a1H (ad:=none) (c:=0) (xs:=([]:List (BitVec 8))) (ys:=l) rfl rfl (a3Q h) rfl rfl (fun _=>rfl) (by simp;omega) (by simp;omega) (fun a7 c7=>?_))|(refine k_fn 130 ?_;(refine a0A (fun _=>crc_Sum _ ad l.length c l h.up rfl) rfl (fun _ _=>?_);rw [hs]))|refine wK ?_|refine wL ?_ ?_|fail)
 refine a0Y (S:=Nat × Option Addr × Nat) (fun q=>[(3,.slice q.2.1 (l.length+q.1) q.2.2),(4,W4 s),(5,I (24 - 8*(q.1:Int)))]) (fun q=>[.row 5 1 (.slice q.2.1 (l.length+q.1) q.2.2) (l.length+q.1) ((l++(be4 s).take q.1).map B),.any (stars H)]) (fun q=>q.1≤4) (fun q=>4 - q.1) (0,a7,c7) (Nat.zero_le _)
  (a0R rfl (by simp) cv) (by simp only [List.nil_append,List.take_zero,List.append_nil,Nat.add_zero,Nat.zero_add];exact ent) ?_
 rintro ⟨j,a3,c3⟩ hj
 dsimp only at hj ⊢
 by_cases hjt:j<4
 ·have hbj:=be4_at s j hjt
  have hl:(l++(be4 s).take j).length=l.length+j:=by rw [List.length_append,List.length_take,a4W,Nat.min_eq_left hj]
  have htk:l++(be4 s).take (j+1)=(l++(be4 s).take j)++[(be4 s)[j]'(by rw [a4W];exact hjt)]:=by
   rw [List.take_succ_eq_append_getElem (by rw [a4W];exact hjt),List.append_assoc]
  obtain ⟨y,hy⟩:∃ y,(be4 s)[j]'(by rw [a4W];exact hjt)=y:=⟨_,rfl⟩
  rw [hy] at hbj htk
  repeat' (first|intro _|(refine a0D .geq ?_;refine b1H rfl rfl (by omega) ?_)|(refine a1W ?_;(refine a6H rfl ?_;rw [hbj]))|(refine a0P ?_;refine a0O (T:=22) B [y] rfl rfl rfl (fun _=>rfl) rfl rfl rfl (fun b19=>?_))|(refine a1S ?_;refine a1H (ad:=a3) (c:=c3) (xs:=l++(be4 s).take j) (ys:=[y]) rfl rfl (a2H (b:=b19) rfl (by decide)) rfl rfl (fun _=>rfl) (by simp;omega) (by simp;omega) (fun a20 c20=>?_))|refine wK ?_|refine wL ?_ ?_|fail)
  refine a0Q (j+1,a20,c20) (by show j+1≤4;omega) (by show 4 - (j+1)<4 - j;omega) (a0R rfl rfl (a0R rfl rfl (a0R rfl (by show I _=I _;congr 1;push_cast;omega) cv))) ?_
  show Ent _ [.row 5 1 (.slice a20 (l.length+(j+1)) c20) (l.length+(j+1)) ((l++(be4 s).take (j+1)).map B),.any (stars H)]
  rw [htk]
  exact ent
 ·have:j=4:=by omega
  subst this
  have e4:(be4 s).take 4=be4 s:=List.take_of_length_le (by rw [a4W];exact Nat.le_refl _)
  rw [e4]
  repeat' (first|intro _|(refine a0D .geq ?_;refine a7Y rfl rfl (by omega) ?_)|refine wK ?_|refine wL ?_ ?_|fail)
  refine a0E (a3,c3) rfl rfl rfl trivial ?_
  exact ent
theorem b3L (H:List Hl) (ad:Option Addr) (m c:Nat) (l:List (BitVec 8)) (h:Rs (stars H) B ad c l) (hm:m=l.length) (hb:m≤100000) (hk:crcOk l=true) :
  Spec Tryz.prog 72 [.slice ad m c] H (fun _:Option Addr × Nat=>True) (fun r => .tuple #[.slice r.1 (l.length - 4) r.2,.bool true]) (fun r => .row 5 1 (.slice r.1 (l.length - 4) r.2) (l.length - 4) ((l.take (l.length - 4)).map B)::H):=by
 subst hm
 have b1:=h.le
 have b2:=h.big
 simp only [crcOk,Bool.and_eq_true,decide_eq_true_eq] at hk
 obtain ⟨k4,hk⟩:=hk
 refine sP (res:=fun r:Option Addr × Nat=>[.row 5 1 (.slice r.1 (l.length - 4) r.2) (l.length - 4) ((l.take (l.length - 4)).map B)]) H Tryz.func72 Tryz.ntmps72 fun W=>?_
 obtain ⟨p,hp⟩:∃ p,l.length - 4=p:=⟨_,rfl⟩
 have hpi:(l.length:Int) - 4=(p:Nat):=by omega
 rw [hp] at hk ⊢
 obtain ⟨q,hq⟩:∃ q,l.take p=q:=⟨_,rfl⟩
 have hql:q.length=p:=by rw [←hq,List.length_take];omega
 have hf:Rs (stars H) B (cutA ad c 0) (c - 0) q:=by have:=h.cuth p (by omega);rw [hq] at this;exact this
 rw [hq] at hk ⊢
 have hkl:q.length+4=l.length:=by omega
 refine a3J (a1A 5 B) ?_
 repeat' (first|intro _|(refine a0D .sub ?_;(refine a3D rfl rfl (by omega) ?_;rw [hpi]))|refine wK ?_|refine wL ?_ ?_|fail)
 refine a0H [(4,_),(0,_)] c2D [6] [⟨[0,1,2,3,4,5,8,9],[],some 6⟩,⟨[7,10,11],[8,9],none⟩] mixed cv (by kernel_rfl) (by kernel_rfl) ?_
 repeat' (first|intro _|refine sg ?_|(refine a1I .lss ?_;refine po (by first|refine a3S rfl rfl (by omega) fz|fail) ?_)|(refine a6D ?_;refine po (by first|((refine a5X (xs:=l) p rfl rfl rfl rfl (by omega) (by omega) ?_;rw [hq]);all_goals exact fz)|fail) ?_)|(refine b0E ?_;refine po (by first|refine a2M (ad:=a14) (c:=c14) (xs:=l) rfl rfl a0I fz|refine a2M (ad:=ad) (c:=c) (xs:=l) rfl rfl (a3Q h) fz|fail) ?_)|(refine a1I .neq ?_;refine po (by first|refine o1_strneq_r (a:=l) (b:=l) (r:=false) rfl rfl (by simp) fz|fail) ?_)|refine pw ?_|refine pdd ?_|(refine k_fn 83 ?_;(refine a0A (fun _=>b2D _ (cutA ad c 0) q.length (c - 0) q (Rs.up hf) rfl (by omega)) rfl (fun ⟨a14,c14⟩ _=>?_);(try dsimp only);rw [hk,hkl]))|refine ow ?_|fail)
 all_goals dsimp only [cA,nA]
 repeat' (first|intro _|(refine a3X ?_;(refine a5X (xs:=l) p rfl rfl rfl rfl (by omega) (by omega) ?_;rw [hq]))|(refine a1S ?_;(refine a1H (ad:=none) (c:=0) (xs:=([]:List (BitVec 8))) (ys:=q) rfl rfl (a3Q hf) rfl rfl (fun _=>rfl) (by simp;omega) (by simp;omega) (fun a7 c7=>?_);rw [List.nil_append,Nat.zero_add,hql]))|refine wK ?_|refine wL ?_ ?_|fail)
 refine a2U (a7,c7) rfl rfl rfl rfl trivial ?_
 exact ent
theorem crc_Right_no (H:List Hl) (ad:Option Addr) (m c:Nat) (l:List (BitVec 8)) (h:Rs (stars H) B ad c l) (hm:m=l.length) (hb:m≤100000) (hk:crcOk l=false) :
  Spec Tryz.prog 72 [.slice ad m c] H (fun _:Unit=>True) (fun _ => .tuple #[.slice none 0 0,.bool false]) (fun _=>H):=by
 subst hm
 have b1:=h.le
 have b2:=h.big
 refine sP (res:=fun _=>[]) H Tryz.func72 Tryz.ntmps72 fun W=>?_
 by_cases k4:l.length<4
 ·repeat' (first|intro _|refine wK ?_|refine wL ?_ ?_|fail)
  refine a0H [(4,_),(0,_)] c2D [6] [⟨[0,1,2,3,4,5,8,9],[],some 6⟩,⟨[7,10,11],[8,9],none⟩] mixed cv (by kernel_rfl) (by kernel_rfl) ?_
  repeat' (first|intro _|refine sg ?_|(refine a1I .lss ?_;refine po (by first|refine a6Z rfl rfl (by omega) fz|fail) ?_)|refine pw ?_|refine pdd ?_|refine ow ?_|fail)
  all_goals dsimp only [cA,nA]
  repeat' (first|intro _|refine wK ?_|refine wL ?_ ?_|fail)
  refine a2U () rfl rfl rfl rfl trivial ?_
  exact ent
 ·have hk:crcPut (l.take (l.length - 4))≠l:=fun e=>by
   simp [crcOk,e] at hk
   omega
  obtain ⟨p,hp⟩:∃ p,l.length - 4=p:=⟨_,rfl⟩
  have hpi:(l.length:Int) - 4=(p:Nat):=by omega
  rw [hp] at hk
  obtain ⟨q,hq⟩:∃ q,l.take p=q:=⟨_,rfl⟩
  have hql:q.length=p:=by rw [←hq,List.length_take];omega
  have hf:Rs (stars H) B (cutA ad c 0) (c - 0) q:=by have:=h.cuth p (by omega);rw [hq] at this;exact this
  rw [hq] at hk
  obtain ⟨R,hR⟩:∃ R,crcPut q=R:=⟨_,rfl⟩
  have hRl:q.length+4=R.length:=by rw [←hR,a3C]
  rw [hR] at hk
  repeat' (first|intro _|(refine a0D .sub ?_;(refine a3D rfl rfl (by omega) ?_;rw [hpi]))|refine wK ?_|refine wL ?_ ?_|fail)
  refine a0H [(4,_),(0,_)] c2D [6] [⟨[0,1,2,3,4,5,8,9],[],some 6⟩,⟨[7,10,11],[8,9],none⟩] mixed cv (by kernel_rfl) (by kernel_rfl) ?_
  repeat' (first|intro _|refine sg ?_|(refine a1I .lss ?_;refine po (by first|refine a3S rfl rfl (by omega) fz|fail) ?_)|(refine a6D ?_;refine po (by first|((refine a5X (xs:=l) p rfl rfl rfl rfl (by omega) (by omega) ?_;rw [hq]);all_goals exact fz)|fail) ?_)|(refine b0E ?_;refine po (by first|refine a2M (ad:=a14) (c:=c14) (xs:=R) rfl rfl a0I fz|refine a2M (ad:=ad) (c:=c) (xs:=l) rfl rfl (a3Q h) fz|fail) ?_)|(refine a1I .neq ?_;refine po (by first|refine o1_strneq_r (a:=R) (b:=l) (r:=true) rfl rfl (by simp [hk]) fz|fail) ?_)|refine pw ?_|refine pdd ?_|(refine k_fn 83 ?_;(refine a0A (fun _=>b2D _ (cutA ad c 0) q.length (c - 0) q (Rs.up hf) rfl (by omega)) rfl (fun ⟨a14,c14⟩ _=>?_);(try dsimp only);rw [hR,hRl]))|refine ow ?_|fail)
  all_goals dsimp only [cA,nA]
  repeat' (first|intro _|refine wK ?_|refine wL ?_ ?_|fail)
  refine a2U () rfl rfl rfl rfl trivial ?_
  exact ent
def rtD4_0:List Row:=[tR 3 [] [],tR 4 [0] [0],tR 5 [1] [0,1],tR 6 [2] [0,1,2],tR 7 [3] [0,1,2,3],tR 8 [4] (rG 5),tR 9 [] [],tR 10 [6] [6],tR 11 [7] [6,7],tR 12 [8] [6,7,8],tR 13 [5,9] (rG 10),tR 2 [10,0,1,2,3,4,5,6,7,8,9,10] (rG 11)]
def rtD4_1:List Row:=[tR 36 [] [],tR 37 [0] [0],tR 38 [1] [0,1],tR 39 [2] [0,1,2],tR 40 [] [],tR 41 [4] [4],tR 2 [3,0,1,2,3] [0,1,2,3],tR 3 [5,6,0,1,2,3,4,5,6] (rG 7),tR 4 [7,0,1,2,3,4,5,6,7] (rG 8)]
def innB (k:BitVec 8) (b:List (BitVec 8)):List (BitVec 8):=k::BitVec.ofInt 8 ((b.length:Int) / 256)::BitVec.ofInt 8 (b.length:Int)::b
def dpB:List (BitVec 8):=[68#8,80#8]
def frameB (k:BitVec 8) (b:List (BitVec 8)):List (BitVec 8):=dpB++crcPut (innB k b)
theorem a3T (k:BitVec 8) (b:List (BitVec 8)):(innB k b).length=b.length+3:=rfl
theorem frameB_len (k:BitVec 8) (b:List (BitVec 8)):(frameB k b).length=b.length+9:=by
 rw [frameB,List.length_append,a3C,a3T]
 show 2+_=_
 omega
theorem c1E (H:List Hl) (k:BitVec 8) (kk:Int) (ad:Option Addr) (m c:Nat) (b:List (BitVec 8)) (h:Rs (stars H) B ad c b) (hm:m=b.length) (hb:m≤291) (h0:1≤m) (hk:BitVec.ofInt 8 kk=k) (hk1:0≤kk∧kk≤255) :
  Spec Tryz.prog 39 [I kk,.slice ad m c] H (fun _:Option Addr × Nat=>True) (fun r => .tuple #[.slice r.1 (m+9) r.2,I 0]) (fun r => .row 5 1 (.slice r.1 (m+9) r.2) (m+9) ((frameB k b).map B)::H):=by
 subst hm
 refine sP (res:=fun r:Option Addr × Nat=>[.row 5 1 (.slice r.1 (b.length+9) r.2) (b.length+9) ((frameB k b).map B)]) H Tryz.func39 Tryz.ntmps39 fun W=>?_
 have b1:=h.le
 have b2:=h.big
 obtain ⟨h3,hh3⟩:∃ h3,[k,BitVec.ofInt 8 ((b.length:Int) / 256),BitVec.ofInt 8 (b.length:Int)]=h3:=⟨_,rfl⟩
 have h3l:h3.length=3:=by rw [←hh3];rfl
 have hin:h3++b=innB k b:=by rw [←hh3];rfl
 obtain ⟨Z,hZ⟩:∃ Z,innB k b=Z:=⟨_,rfl⟩
 have hZl:Z.length=3+b.length:=by rw [←hZ,a3T];omega
 obtain ⟨Q,hQ⟩:∃ Q,crcPut Z=Q:=⟨_,rfl⟩
 have hQl:Q.length=Z.length+4:=by rw [←hQ,a3C]
 have hF:frameB k b=dpB++Q:=by rw [frameB,hZ,hQ]
 rw [hF]
 rw [hZ] at hin
 repeat' (first|intro _|(refine a1W ?_;first|(refine a2I rfl ?_;(try rw [hk]))|refine a6I (b:=b30) rfl ?_)|(refine a0D .shr ?_;refine a9L rfl rfl ?_)|(refine a0P ?_;first|refine a0O (T:=22) B h3 rfl rfl (by rw [←hh3];rfl) (fun _=>rfl) rfl rfl rfl (fun b27=>?_)|refine a0O (T:=22) B dpB rfl rfl rfl (fun _=>rfl) rfl rfl rfl (fun b30=>?_))|(refine a1S ?_;first|(refine a2C (xs:=h3) (ys:=b) (b:=b27) rfl rfl h3l.symm h3l.symm (a3Q h) rfl rfl (fun _=>rfl) (by omega) (by omega) (fun a29 c29=>?_);rw [hin])|refine ox_append_full (ad:=some ⟨b30,0,none⟩) (ad':=a33) (c':=c33) (xs:=dpB) (ys:=Q) rfl rfl (a3Q (Rs.of_frz (T:=5) (l:=dpB) (enc:=B) (b:=b30) (by decide))) a0I rfl rfl (by decide) (by omega) rfl (by omega) (by omega) (fun a34 c34=>?_))|(refine k_fn 83 ?_;(refine a0A (fun hh=>b2D _ a29 (3+b.length) c29 Z (a0I hh) hZl.symm (by omega)) rfl (fun ⟨a33,c33⟩ _=>?_);(try dsimp only);rw [hQ,←hQl]))|refine wK ?_|refine wL ?_ ?_|fail)
 have hF9:2+Q.length=b.length+9:=by omega
 rw [hF9]
 refine a2U (a34,c34) rfl rfl rfl rfl trivial ?_
 exact ent
theorem bytes_Equal (H:List Hl) (ad ad':Option Addr) (m m' c c':Nat) (l l':List (BitVec 8)) (h:Rs (stars H) B ad c l) (h':Rs (stars H) B ad' c' l') (hm:m=l.length) (hm':m'=l'.length) :
  Spec Tryz.prog 115 [.slice ad m c,.slice ad' m' c'] H (fun _:Unit=>True) (fun _ => .bool (decide (l=l'))) (fun _=>H):=by
 refine sP (res:=fun _=>[]) H Tryz.func115 Tryz.ntmps115 fun W=>?_
 repeat' (first|intro _|(refine a1W ?_;first|refine a2M (ad:=ad) (c:=c) (xs:=l) rfl hm (a3Q h) ?_|refine a2M (ad:=ad') (c:=c') (xs:=l') rfl hm' (a3Q h') ?_)|(refine a0D .eql ?_;refine a8I (a:=l) (b:=l') rfl rfl rfl ?_)|refine wK ?_|refine wL ?_ ?_|fail)
 refine a0E () rfl rfl rfl trivial ?_
 exact ent
theorem bytes_HasPrefix (H:List Hl) (ad ad':Option Addr) (m m' c c':Nat) (l p:List (BitVec 8)) (h:Rs (stars H) B ad c l) (h':Rs (stars H) B ad' c' p) (hm:m=l.length) (hm':m'=p.length) (hp:l.take m'=p) (hle:m'≤m) :
  Spec Tryz.prog 70 [.slice ad m c,.slice ad' m' c'] H (fun _:Unit=>True) (fun _ => .bool true) (fun _=>H):=by
 refine sP (res:=fun _=>[]) H Tryz.func70 Tryz.ntmps70 fun W=>?_
 have b1:=h.le
 have b2:=h.big
 have hf:Rs (stars H) B (cutA ad c 0) (c - 0) p:=by have:=h.cuth m' (by omega);rw [hp] at this;exact this
 repeat' (first|intro _|(refine a3X ?_;(refine a5X (xs:=l) m' rfl rfl rfl hm (by omega) (by omega) ?_;rw [hp,←hm']))|(refine k_fn 115 ?_;refine a0A (fun _=>(bytes_Equal _ (cutA ad c 0) ad' m' m' (c - 0) c' p p (Rs.up hf) (Rs.up h') hm' hm').bv (b:=true) (by simp)) rfl (fun _ _=>?_))|refine wK ?_|refine wL ?_ ?_|fail)
 refine a0E () rfl rfl rfl trivial ?_
 exact ent
theorem fr_length (H:List Hl) (ad:Option Addr) (m c:Nat) (l:List (BitVec 8)) (x3 x4:BitVec 8) (h:Rs (stars H) B ad c l) (hm:m=l.length) (h3:l[3]?=some x3) (h4:l[4]?=some x4) :
  Spec Tryz.prog 71 [.slice ad m c] H (fun _:Unit=>True) (fun _=>I (9+(x3.toNat:Int)*256+(x4.toNat:Int))) (fun _=>H):=by
 refine sP (res:=fun _=>[]) H Tryz.func71 Tryz.ntmps71 fun W=>?_
 have l4:=(List.getElem?_eq_some_iff.1 h4).1
 have g3:=x3.isLt
 have g4:=x4.isLt
 repeat' (first|intro _|refine wK ?_|refine wL ?_ ?_|fail)
 refine a0H [(0,_)] rtD4_0 [] [⟨[0,1,2,3,4,5,6,7,8,9,10,11],[],none⟩] mixed cv (by kernel_rfl) (by kernel_rfl) ?_
 repeat' (first|intro _|refine sg ?_|(refine a0Z ?_;refine po (by first|refine o1_ia (ad:=ad) (c:=c) 3 rfl rfl h hm rfl (by omega) fz|refine o1_ia (ad:=ad) (c:=c) 4 rfl rfl h hm rfl l4 fz|fail) ?_)|(refine a1E ?_;refine po (by first|refine a4S (ad:=ad) (c:=c) 3 _ rfl h h3 fz|refine a4S (ad:=ad) (c:=c) 4 _ rfl h h4 fz|fail) ?_)|refine po (by first|refine b9B rfl rfl (by omega) fz|fail) ?_|refine pw ?_|refine pdd ?_|refine ow ?_|fail)
 all_goals dsimp only [cA,nA]
 repeat' (first|intro _|refine wK ?_|refine wL ?_ ?_|fail)
 refine a0E () rfl rfl rfl trivial ?_
 exact ent
theorem a3Y (H:List Hl) (k:BitVec 8) (ad:Option Addr) (m c:Nat) (b:List (BitVec 8)) (h:Rs (stars H) B ad c (frameB k b)) (hm:m=b.length+9) (hb:b.length≤291) (h0:1≤b.length) :
  Spec Tryz.prog 34 [.slice ad m c] H (fun _:Option Addr × Nat=>True) (fun r => .tuple #[I k.toNat,.slice (cutA r.1 r.2 3) b.length (r.2 - 3),I 0]) (fun r => .row 5 1 (.slice r.1 (b.length+3) r.2) (b.length+3) ((innB k b).map B)::H):=by
 refine sP (res:=fun r:Option Addr × Nat=>[.row 5 1 (.slice r.1 (b.length+3) r.2) (b.length+3) ((innB k b).map B)]) H Tryz.func34 Tryz.ntmps34 fun W=>?_
 have b1:=h.le
 have b2:=h.big
 have gk:=k.isLt
 have hFl:=frameB_len k b
 obtain ⟨F,hF⟩:∃ F,frameB k b=F:=⟨_,rfl⟩
 have h2:F.take 2=dpB:=by rw [←hF];rfl
 have h3:F[3]?=some (BitVec.ofInt 8 ((b.length:Int) / 256)):=by rw [←hF];rfl
 have h4:F[4]?=some (BitVec.ofInt 8 (b.length:Int)):=by rw [←hF];rfl
 have hlen:9+((BitVec.ofInt 8 ((b.length:Int) / 256)).toNat:Int)*256+((BitVec.ofInt 8 (b.length:Int)).toNat:Int)=(b.length:Int)+9:=by
  simp only [BitVec.toNat_ofInt]
  omega
 obtain ⟨Z,hZ⟩:∃ Z,innB k b=Z:=⟨_,rfl⟩
 have hZl:Z.length=b.length+3:=by rw [←hZ,a3T]
 have hd:F.drop 2=crcPut Z:=by rw [←hF,←hZ];rfl
 obtain ⟨Q,hQ⟩:∃ Q,crcPut Z=Q:=⟨_,rfl⟩
 have hQl:Q.length=Z.length+4:=by rw [←hQ,a3C]
 have hok:crcOk Q=true:=by rw [←hQ];exact b7E Z
 have hQt:Q.take (Q.length - 4)=Z:=by
  rw [←hQ,a3C,Nat.add_sub_cancel,crcPut,List.take_left']
  rfl
 have hQ4:Q.length - 4=b.length+3:=by omega
 rw [hQ] at hd
 have z0:Z[0]?=some k:=by rw [←hZ];rfl
 have zd:Z.drop 3=b:=by rw [←hZ];rfl
 rw [hF] at h hFl b1
 rw [hZ]
 rw [hQ4] at hQt
 have hf:Rs (stars H) B (cutA ad c 2) (c - 2) Q:=by have:=h.cutl 2 (by omega);rw [hd] at this;exact this
 repeat' (first|intro _|(refine a0P ?_;refine a0O (T:=22) B dpB rfl rfl rfl (fun _=>rfl) rfl rfl rfl (fun b17=>?_))|(refine a1W ?_;refine a6I (b:=b17) rfl ?_)|(refine k_fn 70 ?_;refine a0A (fun hh=>bytes_HasPrefix _ ad (some ⟨b17,0,none⟩) m 2 c 2 F dpB h.up (Rs.up (Rs.of_frz (T:=5) (l:=dpB) (enc:=B) (b:=b17) (by decide))) (by omega) rfl h2 (by omega)) rfl (fun _ _=>?_))|(refine k_fn 71 ?_;(refine a0A (fun _=>fr_length _ ad m c F _ _ h.up (by omega) h3 h4) rfl (fun _ _=>?_);rw [hlen]))|(refine a0D .neq ?_;refine a2E rfl rfl (by omega) ?_)|(refine a3X ?_;(refine b0G (xs:=F) 2 rfl rfl rfl (by omega) (by omega) ?_;rw [hd]))|(refine k_fn 72 ?_;(refine a0A (fun _=>b3L _ (cutA ad c 2) Q.length (c - 2) Q (Rs.up hf) rfl (by omega) hok) rfl (fun ⟨a31,c31⟩ _=>?_);(try dsimp only);rw [hQ4,hQt]))|refine wK ?_|refine wL ?_ ?_|fail)
 refine a0H [(5,_)] rtD4_1 [] [⟨[0,1,2,3,4,5,6,7,8],[],none⟩] mixed cv (by kernel_rfl) (by kernel_rfl) ?_
 repeat' (first|intro _|refine sg ?_|(refine a0Z ?_;refine po (by first|refine a2B (enc:=B) (ad:=a31) (c:=c31) (xs:=Z) 0 rfl rfl a0I hZl.symm rfl (by omega) fz|fail) ?_)|(refine a1E ?_;refine po (by first|refine a1T (enc:=B) (ad:=a31) (c:=c31) (xs:=Z) 0 k rfl a0I z0 fz|fail) ?_)|(refine a6D ?_;refine po (by first|((refine b0G (xs:=Z) 3 rfl rfl rfl hZl.symm (by omega) ?_;rw [zd]);all_goals exact fz)|fail) ?_)|refine pw ?_|refine pdd ?_|refine ow ?_|fail)
 all_goals dsimp only [cA,nA]
 repeat' (first|intro _|refine wK ?_|refine wL ?_ ?_|fail)
 refine rt_tri (a31,c31) rfl rfl rfl rfl rfl trivial ?_
 exact ent
theorem slices_Grow (H:List Hl) (m:Nat) (hb:m≤140737488355328) :
  Spec Tryz.prog 158 [.slice none 0 0,I m] H (fun _:Option Addr × Nat=>True) (fun r => .slice r.1 0 r.2)
   (fun r => .row 5 1 (.slice r.1 0 r.2) 0 (([]:List (BitVec 8)).map B)::H):=by
 refine sP (res:=fun r:Option Addr × Nat=>[.row 5 1 (.slice r.1 0 r.2) 0 (([]:List (BitVec 8)).map B)]) H Tryz.func158 Tryz.ntmps158 fun W=>?_
 refine a3J (a1A 5 B) ?_
 repeat' (first|intro _|(refine a1S ?_;first|refine o1_cap rfl ?_|(refine ox_append_zeros (enc:=B) 0#8 (k:=m) (xs:=([]:List (BitVec 8))) rfl rfl (by omega) rfl rfl (by omega) (by omega) (fun a1 c1=>?_)))|(refine a3X ?_;(refine a7V (enc:=B) (xs:=([]:List (BitVec 8))) 0 rfl rfl rfl rfl (Nat.le_refl _) ?_;rw [show Value.slice (cutA none 0 0) (List.take 0 ([]:List (BitVec 8))).length (0 - 0)=Value.slice none 0 0 from rfl]))|(refine o1_prefix (enc:=B) (xs:=([]:List (BitVec 8))++List.replicate m 0#8) 0 rfl rfl rfl (by omega) (by simp) ?_)|refine wK ?_|refine wL ?_ ?_|fail)
 all_goals
  refine a0E (_,_) rfl rfl rfl trivial ?_
  exact ent
theorem a4P (H:List Hl) (ad:Option Addr) (c:Nat) (ls:List (SlD (BitVec 8))) (h:Rs (stars H) Bs ad c ls) (hs:∀ s∈ls,Rs (stars H) B s.ad s.cap s.l) (hb:(cat ls).length≤140737488355328) :
  Spec Tryz.prog 111 [.slice ad ls.length c] H (fun _:Option Addr × Nat=>True) (fun r => .slice r.1 (cat ls).length r.2)
   (fun r => .row 5 1 (.slice r.1 (cat ls).length r.2) (cat ls).length ((cat ls).map B)::H):=by
 have b1:=h.le
 have b2:=h.big
 have hle:∀ i,(cat (ls.take i)).length≤(cat ls).length:=fun i=>by
  have:cat ls=cat (ls.take i)++cat (ls.drop i):=by simp only [cat];rw [←List.flatMap_append,List.take_append_drop]
  rw [this,List.length_append]
  omega
 refine sP (res:=fun r:Option Addr × Nat=>[.row 5 1 (.slice r.1 (cat ls).length r.2) (cat ls).length ((cat ls).map B)]) H Tryz.func111 Tryz.ntmps111 fun W=>?_
 repeat' (first|intro _|refine wK ?_|refine wL ?_ ?_|fail)
 refine a0Y (S:=Nat) (fun i=>[(0,.slice ad ls.length c),(3,I (cat (ls.take i)).length),(9,.slice ad ls.length c),(10,I ls.length),(11,I i)]) (fun _=>[.any (stars H)]) (fun i=>i≤ls.length) (fun i=>ls.length - i) 0 (by omega)
  cv (Ent.refl _) ?_
 intro i hi
 have hi1:=hle (i+1)
 by_cases hlt:i<ls.length
 ·rw [a7B _ _ hlt,List.length_append] at hi1
  repeat' (first|intro _|(refine a0J ?_;refine a3E rfl rfl h i rfl hlt (fun a ha=>?_))|refine wK ?_|refine wL ?_ ?_|fail)
  refine a0Q (i+1) (by omega) (by omega) (a0R rfl rfl (a0R rfl ?_ cv)) (Ent.refl _)
  rw [a7B _ _ hlt,List.length_append];simp
 ·have:i=ls.length:=by omega
  subst this
  rw [List.take_length]
  repeat' (first|intro _|(refine k_fn 158 ?_;(refine a0A (fun _=>slices_Grow _ (cat ls).length hb) rfl (fun ⟨a0,c0⟩ _=>?_);dsimp only))|refine wK ?_|refine wL ?_ ?_|fail)
  refine a0Y (S:=Nat × Option Addr × Nat) (fun s=>[(6,.slice s.2.1 (cat (ls.take s.1)).length s.2.2),(25,.slice ad ls.length c),(26,I ls.length),(27,I s.1)]) (fun s=>[.row 5 1 (.slice s.2.1 (cat (ls.take s.1)).length s.2.2) (cat (ls.take s.1)).length ((cat (ls.take s.1)).map B),.any (stars H)]) (fun s=>s.1≤ls.length) (fun s=>ls.length - s.1) (0,a0,c0) (by omega)
   cv (Ent.refl _) ?_
  rintro ⟨i,a1,c1⟩ hi
  dsimp only at hi ⊢
  have hi1:=hle (i+1)
  by_cases hlt:i<ls.length
  ·have hsi:=hs ls[i] (List.getElem_mem _)
   rw [a7B _ _ hlt,List.length_append] at hi1
   repeat' (first|intro _|(refine a0J ?_;refine a3E rfl rfl h i rfl hlt (fun a ha=>?_))|(refine a1S ?_;refine a1H rfl rfl (a3Q hsi) rfl rfl (fun _=>rfl) (by omega) (by omega) (fun a2 c2=>?_))|refine wK ?_|refine wL ?_ ?_|fail)
   refine a0Q (i+1,a2,c2) ?_ ?_ (a0R rfl ?_ cv) ?_
   ·show i+1≤_;omega
   ·show ls.length - (i+1)<ls.length - i;omega
   ·show _=Value.slice a2 (cat (ls.take (i+1))).length c2
    rw [a7B _ _ hlt,List.length_append]
   ·show Ent _ [Hl.row 5 1 (.slice a2 (cat (ls.take (i+1))).length c2) (cat (ls.take (i+1))).length ((cat (ls.take (i+1))).map B),.any (stars H)]
    rw [a7B _ _ hlt,List.length_append]
    exact Ent.refl _
  ·have:i=ls.length:=by omega
   subst this
   repeat' (first|intro _|refine wK ?_|refine wL ?_ ?_|fail)
   simp only [List.take_length]
   refine a0E (_,_) rfl rfl rfl trivial ?_
   exact ent
theorem mf_wide (H:List Hl) (x:BitVec 32):Spec Tryz.prog 127 [W4 x] H (fun _:Nat=>True) (fun b => .slice (some ⟨b,0,none⟩) 4 4) (fun b => .box b 5 ((be4 x).map B)::H):=by
 refine sP (res:=fun b:Nat=>[.box b 5 ((be4 x).map B)]) H Tryz.func127 Tryz.ntmps127 fun W=>?_
 repeat' (first|intro _|refine wK ?_|refine wL ?_ ?_|fail)
 refine a0E _ rfl rfl rfl trivial ?_
 exact ent
theorem a8K (H:List Hl) (ad:Option Addr) (c:Nat) (l:List (BitVec 8)) (h:Rs (stars H) B ad c l):Spec Tryz.prog 147 [.slice ad l.length c] H (fun _:Unit=>True) (fun _=>W4 (num32 l)) (fun _=>H):=by
 have b1:=h.le
 have b2:=h.big
 refine sP (res:=fun _=>[]) H Tryz.func147 Tryz.ntmps147 fun W=>?_
 repeat' (first|intro _|refine wK ?_|refine wL ?_ ?_|fail)
 refine a0Y (S:=Nat) (fun i=>[(3,W4 (num32 (l.take i))),(6,.slice ad l.length c),(7,I l.length),(8,I i)]) (fun _=>_) (fun i=>i≤l.length) (fun i=>l.length - i) 0 (by omega)
  cv (Ent.refl _) ?_
 intro i hi
 repeat' (first|intro _|(refine a0J ?_;refine a3E rfl rfl h i rfl (by omega) (fun a ha=>?_))|refine wK ?_|refine wL ?_ ?_|fail)
 ·refine a0Q (i+1) (by omega) (by omega) (a0R rfl ?_ cv) (Ent.refl _)
  rw [num32_succ _ _ (by omega)];rfl
 ·have:i=l.length:=by omega
  subst this
  refine a0E () rfl rfl ?_ trivial ?_
  ·rw [List.take_length]
  ·exact ent
def rtG2_0:List Row:=[tR 7 [] [],tR 8 [0] [0],tR 9 [1] [0,1],tR 10 [] [],tR 11 [3] [3],tR 12 [4,2] (rG 5),tR 13 [] [],tR 14 [6] [6],tR 15 [7] [6,7],tR 16 [8] [6,7,8],tR 17 [] [],tR 18 [10] [10],tR 19 [11] [10,11],tR 20 [] [],tR 21 [13] [13],tR 22 [14] [13,14],tR 23 [] [],tR 24 [16] [16],tR 25 [17] [16,17],tR 26 [9,12,15,18] [6,7,8,9,10,11,12,13,14,15,16,17,18],tR 27 [] [],tR 28 [20] [20],tR 29 [2,5,19,21] (rG 22),tR 30 [22,5] (rG 23),tR 2 [23,23,0,1,2,3,4,5,6,7,8,9,10,11,12,13,14,15,16,17,18,19,20,21,22,23] (rG 24),tR 3 [24,0,1,2,3,4,5,6,7,8,9,10,11,12,13,14,15,16,17,18,19,20,21,22,23,24] (rG 25)]
def rtG2_1:List Row:=[tR 9 [] [],tR 10 [0] [0],tR 11 [1] [0,1],tR 12 [] [],tR 13 [3] [3],tR 14 [4,2] (rG 5),tR 15 [] [],tR 16 [6] [6],tR 17 [7,5] (rG 8),tR 18 [8] (rG 9),tR 19 [] [],tR 20 [10] [10],tR 21 [11] [10,11],tR 22 [12] [10,11,12],tR 23 [] [],tR 24 [14] [14],tR 25 [15] [14,15],tR 26 [16] [14,15,16],tR 27 [] [],tR 28 [18] [18],tR 29 [19,8] [0,1,2,3,4,5,6,7,8,18,19],tR 30 [2,5,9,13,17,20] (rG 21),tR 4 [] [],⟨none,[22,21,20,0,1,2,3,4,5,6,7,8,9,10,11,12,13,14,15,16,17,18,19,20,21,22],[0,1,2,3,4,5,6,7,8,9,10,11,12,13,14,15,16,17,18,19,20,21,22],none⟩]
abbrev rowB (r:PA) (l:List (BitVec 8)):Hl := .row 5 1 (.slice r.1 l.length r.2) l.length (l.map B)
abbrev mid4 (x:ManD):List (BitVec 8):=[BitVec.ofInt 8 (x.n / 256),BitVec.ofInt 8 x.n,BitVec.ofInt 8 x.z,BitVec.ofInt 8 x.p]
def ManD.by (x:ManD):List (BitVec 8):=be4 x.s++(be4 x.v++(mid4 x++x.h.l))
theorem by_cat (x:ManD) (a1 a2 a3 a4:Option Addr) (c1 c2 c3 c4:Nat):cat [⟨a1,c1,be4 x.s⟩,⟨a2,c2,be4 x.v⟩,⟨a3,c3,mid4 x⟩,⟨a4,c4,x.h.l⟩]=x.by:=by simp [cat,ManD.by]
theorem b4S (x:ManD):x.by.length=12+x.h.l.length:=by simp [ManD.by,be4,mid4];omega
theorem b6O {x:ManD} (h:x.may=true):x.h.l.length=32:=by
 simp only [ManD.may,Bool.and_eq_true,decide_eq_true_eq] at h;exact h.2
theorem mf_Plain (H:List Hl) (x:ManD) (h:x.may=true) (hr:RdS (stars H) x.h):Spec Tryz.prog 81 [x.V] H (fun _:PA=>True) (fun r => .tuple #[.slice r.1 x.by.length r.2,I 0]) (fun r=>rowB r x.by::H):=by
 refine sP (res:=fun r:PA=>[rowB r x.by]) H Tryz.func81 Tryz.ntmps81 fun W=>?_
 have hl:=b6O h
 repeat' (first|intro _|(refine k_fn 57 ?_;refine a0A (fun _=>(a8M _ x).bv (b:=true) h) rfl (fun _ _=>?_))|refine wK ?_|refine wL ?_ ?_|fail)
 refine a5T [(1,_)] rtG2_0 [2,5,19,22,23] (.alt [0,1,3,4,6,7,8,9,10,11,12,13,14,15,16,17,18,20,21] [] 2 (.alt [] [3,4,6,7,8,9,10,11,12,13,14,15,16,17,18,20,21] 5 (.step [] [6,7,8,9,10,11,12,13,14,15,16,17,18,20,21] 19 (.step [] [20,21] 22 (.step [] [] 23 (.fin [24,25] [])))) 19 (.step [] [3,4,20,21] 5 (.step [] [20,21] 22 (.step [] [] 23 (.fin [24,25] []))))) 19 (.step [] [0,1,3,4,20,21] 2 (.step [] [3,4,20,21] 5 (.step [] [20,21] 22 (.step [] [] 23 (.fin [24,25] [])))))) mixed cv (by kernel_rfl) (by kernel_rfl) ?_
 repeat' (first|intro _|refine sg ?_|(refine a1I .shr ?_;refine po (by first|refine a9L rfl rfl fz|fail) ?_)|refine pw ?_|refine pdd ?_|(refine k_fn 127 ?_;first|refine a0A (fun _=>mf_wide _ x.s) rfl (fun b1 _=>?_)|refine a0A (fun _=>mf_wide _ x.v) rfl (fun b2 _=>?_))|(refine a0P ?_;first|refine b9A rfl rfl rfl rfl rfl (fun b3=>?_)|refine a0O Bs [⟨some ⟨b1,0,none⟩,4,be4 x.s⟩,⟨some ⟨b2,0,none⟩,4,be4 x.v⟩,⟨some ⟨b3,0,none⟩,4,mid4 x⟩,x.h] rfl rfl rfl (fun _=>rfl) rfl rfl rfl (fun b4=>?_))|(refine k_fn 111 ?_;(refine a0A (fun hh=>a4P _ _ _ [⟨some ⟨b1,0,none⟩,4,be4 x.s⟩,⟨some ⟨b2,0,none⟩,4,be4 x.v⟩,⟨some ⟨b3,0,none⟩,4,mid4 x⟩,x.h] (a4L rfl rfl hh) (a2N (a4L rfl rfl hh) (a2N (a4L rfl rfl hh) (a2N (a4L rfl rfl hh) (a2N (Rs.up hr) b4R)))) (by rw [by_cat,b4S];omega)) rfl (fun ⟨a5,c5⟩ _=>?_);dsimp only;rw [by_cat]))|refine ow ?_|refine And.intro ?_ ?_|fail)
 all_goals dsimp only [cA,nA]
 all_goals
  repeat' (first|intro _|refine wK ?_|refine wL ?_ ?_|fail)
  refine a2U (a5,c5) rfl rfl rfl rfl trivial ?_
  exact ent
def manO (l:List (BitVec 8)) (r:PA):ManD:=⟨num32 ((l.take 4).drop 0),num32 ((l.take 8).drop 4),((num32 ((l.take 10).drop 8)).toNat:Int),(((l.getD 10 0#8)).toNat:Int),(((l.getD 11 0#8)).toNat:Int),⟨r.1,r.2,l.drop 12⟩⟩
theorem b9M {l:List (BitVec 8)} {i:Nat} (h:i<l.length):l.getD i 0#8=l[i]:=by simp [List.getD_eq_getElem?_getD,h]
theorem mf_Read_len (H:List Hl) (ad:Option Addr) (c:Nat) (l:List (BitVec 8)) (h:l.length≠44):Spec Tryz.prog 96 [.slice ad l.length c] H (fun _:Unit=>True) (fun _ => .tuple #[zM.V,I 3]) (fun _=>H):=by
 refine sP (res:=fun _=>[]) H Tryz.func96 Tryz.ntmps96 fun W=>?_
 repeat' (first|intro _|refine wK ?_|refine wL ?_ ?_|fail)
 refine a0N () rfl rfl rfl rfl rfl trivial ?_
 exact ent
theorem b6N (H:List Hl) (ad:Option Addr) (c:Nat) (l:List (BitVec 8)) (h:Rs (stars H) B ad c l) (hl:l.length=44) (hm:(manO l (none,0)).may=true) :
  Spec Tryz.prog 96 [.slice ad l.length c] H (fun _:PA=>True) (fun r => .tuple #[(manO l r).V,I 0]) (fun r=>rowB r (l.drop 12)::H):=by
 refine sP (res:=fun r:PA=>[rowB r (l.drop 12)]) H Tryz.func96 Tryz.ntmps96 fun W=>?_
 repeat' (first|intro _|refine wK ?_|refine wL ?_ ?_|fail)
 have k10:l.getD 10 0#8=l[10]:=b9M (by omega)
 have k11:l.getD 11 0#8=l[11]:=b9M (by omega)
 refine a5T [(0,_)] rtG2_1 [20,22,23] (.alt [0,1,2,3,4,5,6,7,8,9,10,11,12,13,14,15,16,17,18,19] [] 20 (.step [21] [9,10,11,12,13,14,15,16,17] 22 (.step [] [9,10,11,12,13,14,15,16,17,21] 23 (.fin [] []))) 22 (.step [] [0,1,2,3,4,5,6,7,8,9,10,11,12,13,14,15,16,17,18,19] 20 (.step [21] [9,10,11,12,13,14,15,16,17] 23 (.fin [] [])))) mixed cv (by kernel_rfl) (by kernel_rfl) ?_
 repeat' (first|intro _|refine sg ?_|(refine a6D ?_;refine po (by first|refine b9E rfl rfl h rfl (by omega) (by omega) fz|refine o1_cv_lh rfl rfl rfl h rfl (by omega) (by omega) fz|refine b9D rfl rfl h rfl (by omega) (by omega) fz|fail) ?_)|(refine p_fn 147 ?_;refine po (by first|refine a0A (fun _=>a8K _ _ _ _ (Rs.up (h.cutv 0 4 (by omega) (by omega)))) rfl (fun _ _=>fz)|refine a0A (fun _=>a8K _ _ _ _ (Rs.up (h.cutv 4 8 (by omega) (by omega)))) rfl (fun _ _=>fz)|refine a0A (fun _=>a8K _ _ _ _ (Rs.up (h.cutv 8 10 (by omega) (by omega)))) rfl (fun _ _=>fz)|fail) ?_)|(refine a0Z ?_;refine po (by first|refine o1_ia 10 rfl rfl h rfl rfl (by omega) fz|refine o1_ia 11 rfl rfl h rfl rfl (by omega) fz|fail) ?_)|(refine a1E ?_;refine po (by first|refine a1F 10 rfl h (by omega) fz|refine a1F 11 rfl h (by omega) fz|fail) ?_)|refine pw ?_|refine pdd ?_|(refine k_fn 29 ?_;(refine a0A (fun _=>a1B _ _ _ (l.drop 12) (Rs.up (h.cutl 12 (by omega))) (by simp;omega)) rfl (fun ⟨a5,c5⟩ _=>?_);dsimp only))|refine ow ?_|refine And.intro ?_ ?_|fail)
 all_goals dsimp only [cA,nA]
 all_goals
  repeat' (first|intro _|(refine k_fn 57 ?_;refine a0A (fun _=>(a8M _ ⟨num32 ((l.take 4).drop 0),num32 ((l.take 8).drop 4),((num32 ((l.take 10).drop 8)).toNat:Int),(l[10].toNat:Int),(l[11].toNat:Int),⟨a5,c5,l.drop 12⟩⟩).bv (b:=true) (by rw [←k10,←k11];exact hm)) rfl (fun _ _=>?_))|refine wK ?_|refine wL ?_ ?_|fail)
  refine a0N (a5,c5) rfl rfl rfl rfl (by simp only [manO,k10,k11];rfl) trivial ?_
  exact ent
theorem a8L (H:List Hl) (ad:Option Addr) (c:Nat) (l:List (BitVec 8)) (h:Rs (stars H) B ad c l) (hl:l.length=44) (hm:(manO l (none,0)).may=false) :
  Spec Tryz.prog 96 [.slice ad l.length c] H (fun _:Unit=>True) (fun r => .tuple #[zM.V,I 3]) (fun r=>H):=by
 refine sP (res:=fun _:Unit=>[]) H Tryz.func96 Tryz.ntmps96 fun W=>?_
 repeat' (first|intro _|refine wK ?_|refine wL ?_ ?_|fail)
 have k10:l.getD 10 0#8=l[10]:=b9M (by omega)
 have k11:l.getD 11 0#8=l[11]:=b9M (by omega)
 refine a5T [(0,_)] rtG2_1 [20,22,23] (.alt [0,1,2,3,4,5,6,7,8,9,10,11,12,13,14,15,16,17,18,19] [] 20 (.step [21] [9,10,11,12,13,14,15,16,17] 22 (.step [] [9,10,11,12,13,14,15,16,17,21] 23 (.fin [] []))) 22 (.step [] [0,1,2,3,4,5,6,7,8,9,10,11,12,13,14,15,16,17,18,19] 20 (.step [21] [9,10,11,12,13,14,15,16,17] 23 (.fin [] [])))) mixed cv (by kernel_rfl) (by kernel_rfl) ?_
 repeat' (first|intro _|refine sg ?_|(refine a6D ?_;refine po (by first|refine b9E rfl rfl h rfl (by omega) (by omega) fz|refine o1_cv_lh rfl rfl rfl h rfl (by omega) (by omega) fz|refine b9D rfl rfl h rfl (by omega) (by omega) fz|fail) ?_)|(refine p_fn 147 ?_;refine po (by first|refine a0A (fun _=>a8K _ _ _ _ (Rs.up (h.cutv 0 4 (by omega) (by omega)))) rfl (fun _ _=>fz)|refine a0A (fun _=>a8K _ _ _ _ (Rs.up (h.cutv 4 8 (by omega) (by omega)))) rfl (fun _ _=>fz)|refine a0A (fun _=>a8K _ _ _ _ (Rs.up (h.cutv 8 10 (by omega) (by omega)))) rfl (fun _ _=>fz)|fail) ?_)|(refine a0Z ?_;refine po (by first|refine o1_ia 10 rfl rfl h rfl rfl (by omega) fz|refine o1_ia 11 rfl rfl h rfl rfl (by omega) fz|fail) ?_)|(refine a1E ?_;refine po (by first|refine a1F 10 rfl h (by omega) fz|refine a1F 11 rfl h (by omega) fz|fail) ?_)|refine pw ?_|refine pdd ?_|(refine k_fn 29 ?_;(refine a0A (fun _=>a1B _ _ _ (l.drop 12) (Rs.up (h.cutl 12 (by omega))) (by simp;omega)) rfl (fun ⟨a5,c5⟩ _=>?_);dsimp only))|refine ow ?_|refine And.intro ?_ ?_|fail)
 all_goals dsimp only [cA,nA]
 all_goals
  repeat' (first|intro _|(refine k_fn 57 ?_;refine a0A (fun _=>(a8M _ ⟨num32 ((l.take 4).drop 0),num32 ((l.take 8).drop 4),((num32 ((l.take 10).drop 8)).toNat:Int),(l[10].toNat:Int),(l[11].toNat:Int),⟨a5,c5,l.drop 12⟩⟩).bv (b:=false) (by rw [←k10,←k11];exact hm)) rfl (fun _ _=>?_))|refine wK ?_|refine wL ?_ ?_|fail)
  refine a0N () rfl rfl rfl rfl rfl trivial ?_
  exact ent
def rtG4_0:List Row:=[tR 12 [] [],tR 13 [0] [0],tR 14 [1] [0,1],tR 15 [] [],tR 16 [3] [3],tR 17 [4] [3,4],tR 18 [2,5] (rG 6),tR 19 [] [],tR 20 [7] [7],tR 21 [8] [7,8],tR 22 [] [],tR 23 [10] [10],tR 24 [11,9] [7,8,9,10,11],tR 25 [6,9,12] (rG 13),tR 26 [13,12] (rG 14),tR 4 [14,14,0,1,2,3,4,5,6,7,8,9,10,11,12,13,14] (rG 15)]
def rtG4_1:List Row:=[tR 37 [] [],tR 38 [] [],tR 39 [] [],tR 40 [2] [2],tR 41 [3] [2,3],tR 42 [] [],tR 43 [5] [5],tR 44 [6] [5,6],tR 45 [7] [5,6,7],tR 46 [] [],tR 47 [9] [9],tR 48 [10] [9,10],tR 49 [8,11] [5,6,7,8,9,10,11],tR 50 [] [],tR 51 [13] [13],tR 52 [0,1,4,12,14] (rG 15),tR 53 [15,4] (rG 16),tR 4 [16,16,0,1,2,3,4,5,6,7,8,9,10,11,12,13,14,15,16] (rG 17)]
theorem may_light' {x:StD} (h:x.may=true):x.light:=by
 rcases Classical.em x.light with hl|hl
 ·exact hl
 ·rw [StD.heavy hl] at h;cases h
theorem st_may_m {x:StD} (h:x.may=true):(if x.on then x.m.may else x.m.none)=true:=by
 simp only [StD.may,Bool.and_eq_true] at h
 exact h.2
def SlotD.by (x:SlotD):List (BitVec 8):=if x.nothing then [0#8] else 1#8::(be4 x.v++(be2 x.n++x.h.l))
def StD.head (x:StD):List (BitVec 8):=[BitVec.ofInt 8 x.a,BitVec.ofInt 8 x.t]++(be4 x.f++be4 x.g)
def StD.tail (x:StD):List (BitVec 8):=if x.on then 1#8::x.m.by else [0#8]
def StD.by (x:StD):List (BitVec 8):=((x.head++x.s0.by)++x.s1.by)++x.tail
theorem b1A {x:SlotD} (h:x.nothing=true):x.by=[0#8]:=if_pos h
theorem b1U {x:SlotD} (h:x.nothing=false):x.by=1#8::(be4 x.v++(be2 x.n++x.h.l)):=if_neg (by simp [h])
theorem slot_by_len (x:SlotD):x.by.length≤7+x.h.l.length:=by
 unfold SlotD.by
 split
 ·simp;omega
 ·simp [be4,be2];omega
theorem head_len (x:StD):x.head.length=10:=rfl
theorem head_cat (x:StD) (a1 a2 a3:Option Addr) (c1 c2 c3:Nat):cat [⟨a1,c1,[BitVec.ofInt 8 x.a,BitVec.ofInt 8 x.t]⟩,⟨a2,c2,be4 x.f⟩,⟨a3,c3,be4 x.g⟩]=x.head:=by simp [cat,StD.head]
theorem b4W {x:SlotD} (h:x.nothing=false) (p:List (BitVec 8)) (a1 a2 a3 a4 a5:Option Addr) (c1 c2 c3 c4 c5:Nat):cat [⟨a1,c1,p⟩,⟨a2,c2,[1#8]⟩,⟨a3,c3,be4 x.v⟩,⟨a4,c4,be2 x.n⟩,⟨a5,c5,x.h.l⟩]=p++x.by:=by rw [b1U h];simp [cat]
theorem tail_cat (m:ManD) (p:List (BitVec 8)) (a1 a2 a3:Option Addr) (c1 c2 c3:Nat):cat [⟨a1,c1,p⟩,⟨a2,c2,[1#8]⟩,⟨a3,c3,m.by⟩]=p++(1#8::m.by):=by simp [cat]
theorem b8A (H:List Hl) (x:BitVec 32):Spec Tryz.prog 112 [W4 x] H (fun _:Nat=>True) (fun b => .slice (some ⟨b,0,none⟩) 4 4) (fun b => .box b 5 ((be4 x).map B)::H):=by
 refine sP (res:=fun b:Nat=>[.box b 5 ((be4 x).map B)]) H Tryz.func112 Tryz.ntmps112 fun W=>?_
 repeat' (first|intro _|refine wK ?_|refine wL ?_ ?_|fail)
 refine a0E _ rfl rfl rfl trivial ?_
 exact ent
abbrev arrV (x:StD):Value := .agg #[W4 x.s0.v,I x.s0.n,Bs x.s0.h,W4 x.s1.v,I x.s1.n,Bs x.s1.h]
theorem st_Bytes (H:List Hl) (x:StD) (hm:x.may=true) (hx:x.Rd (stars H)):Spec Tryz.prog 67 [x.V] H (fun _:PA=>True) (fun r => .tuple #[.slice r.1 x.by.length r.2,I 0]) (fun r=>rowB r x.by::H):=by
 refine sP (res:=fun r:PA=>[rowB r x.by]) H Tryz.func67 Tryz.ntmps67 fun W=>?_
 have e0:=hx.s0
 have e1:=hx.s1
 have e2:=hx.m
 have hl:=may_light' hm
 have hl0:=slot_by_len x.s0
 have hl1:=slot_by_len x.s1
 have hlh:=head_len x
 obtain ⟨q0,q1,q2⟩:=hl
 have hl01:(x.head++x.s0.by).length≤117:=by rw [List.length_append];omega
 have hl02:((x.head++x.s0.by)++x.s1.by).length≤224:=by rw [List.length_append];omega
 repeat' (first|intro _|(refine k_fn 97 ?_;refine a0A (fun _=>(a4D _ x).bv (b:=true) hm) rfl (fun _ _=>?_))|refine wK ?_|refine wL ?_ ?_|fail)
 rename_i b1 _ _
 refine b5T (X:=PA) (fun r=>[(1,.pointer (some ⟨b1,0,none⟩)),(4,.slice r.1 x.head.length r.2)]) (fun r=>[.box b1 51 x.c,rowB r x.head,.any (stars H)]) ?rest ?walk
 case walk =>
  intro k' via
  refine a5T [(1,_)] rtG4_0 [6,9,12,13,14] (.alt [0,1,2,3,4,5,7,8,10,11] [] 6 (.step [] [7,8,10,11] 9 (.step [] [10,11] 12 (.step [] [] 13 (.step [] [] 14 (.fin [15] []))))) 9 (.alt [] [0,1,2,3,4,5,10,11] 6 (.step [] [10,11] 12 (.step [] [] 13 (.step [] [] 14 (.fin [15] [])))) 12 (.step [] [0,1,2,3,4,5] 6 (.step [] [] 13 (.step [] [] 14 (.fin [15] [])))))) mixed cv (by kernel_rfl) (by kernel_rfl) ?_
  repeat' (first|intro _|refine sg ?_|refine pw ?_|refine pdd ?_|(refine k_fn 112 ?_;first|refine a0A (fun _=>b8A _ x.f) rfl (fun b2 _=>?_)|refine a0A (fun _=>b8A _ x.g) rfl (fun b3 _=>?_))|(refine a0P ?_;first|refine a0O B [BitVec.ofInt 8 x.a,BitVec.ofInt 8 x.t] rfl rfl rfl (fun _=>rfl) rfl rfl rfl (fun b4=>?_)|refine a0O Bs [⟨some ⟨b4,0,none⟩,2,[BitVec.ofInt 8 x.a,BitVec.ofInt 8 x.t]⟩,⟨some ⟨b2,0,none⟩,4,be4 x.f⟩,⟨some ⟨b3,0,none⟩,4,be4 x.g⟩] rfl rfl rfl (fun _=>rfl) rfl rfl rfl (fun b5=>?_))|(refine k_fn 111 ?_;(refine a0A (fun hh=>a4P _ _ _ [⟨some ⟨b4,0,none⟩,2,[BitVec.ofInt 8 x.a,BitVec.ofInt 8 x.t]⟩,⟨some ⟨b2,0,none⟩,4,be4 x.f⟩,⟨some ⟨b3,0,none⟩,4,be4 x.g⟩] (a4L rfl rfl hh) (a2N (a4L rfl rfl hh) (a2N (a4L rfl rfl hh) (a2N (a4L rfl rfl hh) b4R))) (by rw [head_cat];omega)) rfl (fun ⟨a5,c5⟩ _=>?_);dsimp only;rw [head_cat]))|refine ow ?_|refine And.intro ?_ ?_|fail)
  all_goals dsimp only [cA,nA]
  all_goals exact via (a5,c5) _ _ cv ent
 case rest =>
  rintro ⟨a0,c0⟩
  dsimp only
  repeat' (first|intro _|refine cwb ?_|refine ow ?_|refine wL ?_ ?_|fail)
  refine b8B ?_
  refine a2O 2 ?_
  repeat' (first|intro _|refine cwb ?_|refine ow ?_|refine wL ?_ ?_|fail)
  refine b5T (X:=PA) (fun r=>[(1,.pointer (some ⟨b1,0,none⟩)),(4,.slice r.1 (x.head++x.s0.by).length r.2),(28,arrV x),(29,I 0)]) (fun r=>[.box b1 51 x.c,rowB r (x.head++x.s0.by),.any (stars H)]) ?restA ?walkA
  case walkA =>
   intro k' via
   cases hn:x.s0.nothing
   ·repeat' (first|intro _|(refine b6Q ?_;refine a7X 0 rfl rfl rfl (by decide) (by simp only [Nat.zero_mul,Nat.one_mul,Nat.reduceMul,List.drop_zero,List.drop_succ_cons,List.take_succ_cons,List.take_zero];rfl) ?_)|(refine k_fn 113 ?_;refine a0A (fun _=>(a7D _ x.s0).bv (b:=false) hn) rfl (fun _ _=>?_))|refine wK ?_|refine wL ?_ ?_|fail)
    refine a5T [(4,_),(6,_)] rtG4_1 [1,4,12,15,16] (.alt3 [0,2,3,5,6,7,8,9,10,11,13,14] [] 1 (.alt [] [0,2,3,5,6,7,8,9,10,11,13,14] 4 (.step [] [0,5,6,7,8,9,10,11,13,14] 12 (.step [] [0,13,14] 15 (.step [] [] 16 (.fin [17] [])))) 12 (.step [] [0,2,3,13,14] 4 (.step [] [0,13,14] 15 (.step [] [] 16 (.fin [17] []))))) 4 (.alt [] [0,5,6,7,8,9,10,11,13,14] 1 (.step [] [0,5,6,7,8,9,10,11,13,14] 12 (.step [] [0,13,14] 15 (.step [] [] 16 (.fin [17] [])))) 12 (.step [] [0,13,14] 1 (.step [] [0,13,14] 15 (.step [] [] 16 (.fin [17] []))))) 12 (.alt [] [0,2,3,13,14] 1 (.step [] [0,2,3,13,14] 4 (.step [] [0,13,14] 15 (.step [] [] 16 (.fin [17] [])))) 4 (.step [] [0,13,14] 1 (.step [] [0,13,14] 15 (.step [] [] 16 (.fin [17] [])))))) mixed cv (by kernel_rfl) (by kernel_rfl) ?_
    repeat' (first|intro _|refine sg ?_|(refine a1I .shr ?_;refine po (by first|refine a9L rfl rfl fz|fail) ?_)|refine pw ?_|refine pdd ?_|(refine k_fn 112 ?_;refine a0A (fun _=>b8A _ x.s0.v) rfl (fun b2 _=>?_))|(refine a0P ?_;first|refine a0O B [1#8] rfl rfl rfl (fun _=>rfl) rfl rfl rfl (fun b3=>?_)|refine a0O B (be2 x.s0.n) rfl rfl rfl (fun _=>rfl) rfl rfl rfl (fun b4=>?_)|refine a0O Bs [⟨a0,c0,x.head⟩,⟨some ⟨b3,0,none⟩,1,[1#8]⟩,⟨some ⟨b2,0,none⟩,4,be4 x.s0.v⟩,⟨some ⟨b4,0,none⟩,2,be2 x.s0.n⟩,x.s0.h] rfl rfl rfl (fun _=>rfl) rfl rfl rfl (fun b5=>?_))|(refine k_fn 111 ?_;(refine a0A (fun hh=>a4P _ _ _ [⟨a0,c0,x.head⟩,⟨some ⟨b3,0,none⟩,1,[1#8]⟩,⟨some ⟨b2,0,none⟩,4,be4 x.s0.v⟩,⟨some ⟨b4,0,none⟩,2,be2 x.s0.n⟩,x.s0.h] (a4L rfl rfl hh) (a2N (a0I (ad:=a0) (c:=c0) hh) (a2N (a4L rfl rfl hh) (a2N (a4L rfl rfl hh) (a2N (a4L rfl rfl hh) (a2N (Rs.up e0) b4R))))) (by rw [b4W hn];omega)) rfl (fun ⟨a5,c5⟩ _=>?_);dsimp only;rw [b4W hn]))|refine ow ?_|refine And.intro ?_ ?_|fail)
    all_goals dsimp only [cA,nA]
    all_goals (refine c0H ?_;exact via (a5,c5) _ _ cv ent)
   ·rw [b1A hn] at via
    repeat' (first|intro _|(refine b6Q ?_;refine a7X 0 rfl rfl rfl (by decide) (by simp only [Nat.zero_mul,Nat.one_mul,Nat.reduceMul,List.drop_zero,List.drop_succ_cons,List.take_succ_cons,List.take_zero];rfl) ?_)|(refine k_fn 113 ?_;refine a0A (fun _=>(a7D _ x.s0).bv (b:=true) hn) rfl (fun _ _=>?_))|(refine a0P ?_;refine a0O B [0#8] rfl rfl rfl (fun _=>rfl) rfl rfl rfl (fun b3=>?_))|(refine a1S ?_;refine b1D (xs:=x.head) (ys:=[0#8]) rfl rfl (a2H rfl (by decide)) rfl (fun _=>rfl) (by simp;omega) (by simp;omega) (fun a5 c5=>?_))|refine wK ?_|refine wL ?_ ?_|fail)
    exact via (a5,c5) _ _ cv ent
  case restA =>
   rintro ⟨a0,c0⟩
   dsimp only
   repeat' (first|intro _|refine cwb ?_|refine ow ?_|refine wL ?_ ?_|fail)
   refine b5T (X:=PA) (fun r=>[(1,.pointer (some ⟨b1,0,none⟩)),(4,.slice r.1 ((x.head++x.s0.by)++x.s1.by).length r.2),(28,arrV x),(29,I (0+1))]) (fun r=>[.box b1 51 x.c,rowB r ((x.head++x.s0.by)++x.s1.by),.any (stars H)]) ?restB ?walkB
   case walkB =>
    intro k' via
    cases hn:x.s1.nothing
    ·repeat' (first|intro _|(refine b6Q ?_;refine a7X 1 rfl rfl rfl (by decide) (by simp only [Nat.zero_mul,Nat.one_mul,Nat.reduceMul,List.drop_zero,List.drop_succ_cons,List.take_succ_cons,List.take_zero];rfl) ?_)|(refine k_fn 113 ?_;refine a0A (fun _=>(a7D _ x.s1).bv (b:=false) hn) rfl (fun _ _=>?_))|refine wK ?_|refine wL ?_ ?_|fail)
     refine a5T [(4,_),(6,_)] rtG4_1 [1,4,12,15,16] (.alt3 [0,2,3,5,6,7,8,9,10,11,13,14] [] 1 (.alt [] [0,2,3,5,6,7,8,9,10,11,13,14] 4 (.step [] [0,5,6,7,8,9,10,11,13,14] 12 (.step [] [0,13,14] 15 (.step [] [] 16 (.fin [17] [])))) 12 (.step [] [0,2,3,13,14] 4 (.step [] [0,13,14] 15 (.step [] [] 16 (.fin [17] []))))) 4 (.alt [] [0,5,6,7,8,9,10,11,13,14] 1 (.step [] [0,5,6,7,8,9,10,11,13,14] 12 (.step [] [0,13,14] 15 (.step [] [] 16 (.fin [17] [])))) 12 (.step [] [0,13,14] 1 (.step [] [0,13,14] 15 (.step [] [] 16 (.fin [17] []))))) 12 (.alt [] [0,2,3,13,14] 1 (.step [] [0,2,3,13,14] 4 (.step [] [0,13,14] 15 (.step [] [] 16 (.fin [17] [])))) 4 (.step [] [0,13,14] 1 (.step [] [0,13,14] 15 (.step [] [] 16 (.fin [17] [])))))) mixed cv (by kernel_rfl) (by kernel_rfl) ?_
     repeat' (first|intro _|refine sg ?_|(refine a1I .shr ?_;refine po (by first|refine a9L rfl rfl fz|fail) ?_)|refine pw ?_|refine pdd ?_|(refine k_fn 112 ?_;refine a0A (fun _=>b8A _ x.s1.v) rfl (fun b2 _=>?_))|(refine a0P ?_;first|refine a0O B [1#8] rfl rfl rfl (fun _=>rfl) rfl rfl rfl (fun b3=>?_)|refine a0O B (be2 x.s1.n) rfl rfl rfl (fun _=>rfl) rfl rfl rfl (fun b4=>?_)|refine a0O Bs [⟨a0,c0,x.head++x.s0.by⟩,⟨some ⟨b3,0,none⟩,1,[1#8]⟩,⟨some ⟨b2,0,none⟩,4,be4 x.s1.v⟩,⟨some ⟨b4,0,none⟩,2,be2 x.s1.n⟩,x.s1.h] rfl rfl rfl (fun _=>rfl) rfl rfl rfl (fun b5=>?_))|(refine k_fn 111 ?_;(refine a0A (fun hh=>a4P _ _ _ [⟨a0,c0,x.head++x.s0.by⟩,⟨some ⟨b3,0,none⟩,1,[1#8]⟩,⟨some ⟨b2,0,none⟩,4,be4 x.s1.v⟩,⟨some ⟨b4,0,none⟩,2,be2 x.s1.n⟩,x.s1.h] (a4L rfl rfl hh) (a2N (a0I (ad:=a0) (c:=c0) hh) (a2N (a4L rfl rfl hh) (a2N (a4L rfl rfl hh) (a2N (a4L rfl rfl hh) (a2N (Rs.up e1) b4R))))) (by rw [b4W hn];omega)) rfl (fun ⟨a5,c5⟩ _=>?_);dsimp only;rw [b4W hn]))|refine ow ?_|refine And.intro ?_ ?_|fail)
     all_goals dsimp only [cA,nA]
     all_goals (refine c0H ?_;exact via (a5,c5) _ _ cv ent)
    ·rw [b1A hn] at via
     repeat' (first|intro _|(refine b6Q ?_;refine a7X 1 rfl rfl rfl (by decide) (by simp only [Nat.zero_mul,Nat.one_mul,Nat.reduceMul,List.drop_zero,List.drop_succ_cons,List.take_succ_cons,List.take_zero];rfl) ?_)|(refine k_fn 113 ?_;refine a0A (fun _=>(a7D _ x.s1).bv (b:=true) hn) rfl (fun _ _=>?_))|(refine a0P ?_;refine a0O B [0#8] rfl rfl rfl (fun _=>rfl) rfl rfl rfl (fun b3=>?_))|(refine a1S ?_;refine b1D (xs:=x.head++x.s0.by) (ys:=[0#8]) rfl rfl (a2H rfl (by decide)) rfl (fun _=>rfl) (by simp only [List.length_cons,List.length_nil];omega) (by simp only [List.length_cons,List.length_nil];omega) (fun a5 c5=>?_))|refine wK ?_|refine wL ?_ ?_|fail)
     exact via (a5,c5) _ _ cv ent
   case restB =>
    rintro ⟨a0,c0⟩
    dsimp only
    obtain ⟨q,hq⟩:∃ q,(x.head++x.s0.by)++x.s1.by=q:=⟨_,rfl⟩
    have hby:x.by=q++x.tail:=by rw [←hq];rfl
    rw [hq] at hl02 ⊢
    rw [hby]
    cases hon:x.on
    ·have ht:x.tail=[0#8]:=if_neg (by simp [hon])
     rw [ht]
     obtain ⟨a,t,f,g,s0,s1,on,m⟩:=x
     dsimp only at hon
     subst hon
     repeat' (first|intro _|(refine a0P ?_;refine a0O B [0#8] rfl rfl rfl (fun _=>rfl) rfl rfl rfl (fun b3=>?_))|(refine a1S ?_;refine b1D (xs:=q) (ys:=[0#8]) rfl rfl (a2H rfl (by decide)) rfl (fun _=>rfl) (by simp only [List.length_cons,List.length_nil];omega) (by simp only [List.length_cons,List.length_nil];omega) (fun a5 c5=>?_))|refine wK ?_|refine wL ?_ ?_|fail)
     refine a2U (a5,c5) rfl rfl rfl rfl trivial ?_
     exact ent
    ·have ht:x.tail=1#8::x.m.by:=if_pos hon
     have hmm:x.m.may=true:=by
      have:=(st_may_m hm)
      rwa [if_pos hon] at this
     have hml:=b4S x.m
     rw [ht]
     obtain ⟨a,t,f,g,s0,s1,on,m⟩:=x
     dsimp only at hon e2 hmm hml q2
     subst hon
     repeat' (first|intro _|(refine k_fn 81 ?_;(refine a0A (fun _=>mf_Plain _ m hmm (Rs.up e2)) rfl (fun ⟨a6,c6⟩ _=>?_);dsimp only))|(refine a0P ?_;first|refine a0O B [1#8] rfl rfl rfl (fun _=>rfl) rfl rfl rfl (fun b3=>?_)|refine a0O Bs [⟨a0,c0,q⟩,⟨some ⟨b3,0,none⟩,1,[1#8]⟩,⟨a6,c6,m.by⟩] rfl rfl rfl (fun _=>rfl) rfl rfl rfl (fun b5=>?_))|(refine k_fn 111 ?_;(refine a0A (fun hh=>a4P _ _ _ [⟨a0,c0,q⟩,⟨some ⟨b3,0,none⟩,1,[1#8]⟩,⟨a6,c6,m.by⟩] (a4L rfl rfl hh) (a2N (a0I (ad:=a0) (c:=c0) hh) (a2N (a4L rfl rfl hh) (a2N (a0I (ad:=a6) (c:=c6) hh) b4R))) (by rw [tail_cat];simp only [List.length_append,List.length_cons];omega)) rfl (fun ⟨a5,c5⟩ _=>?_);dsimp only;rw [tail_cat]))|refine wK ?_|refine wL ?_ ?_|fail)
     refine a2U (a5,c5) rfl rfl rfl rfl trivial ?_
     exact ent
structure RDg where
 l:List (BitVec 8)
 e:Int
def RDg.nx (r:RDg) (n:Nat):RDg:=if r.e=0 then (if r.l.length<n then ⟨[],2⟩ else ⟨r.l.drop n,0⟩) else r
def RDg.tk (r:RDg) (n:Nat):List (BitVec 8):=if r.e=0∧n≤r.l.length then r.l.take n else List.replicate n 0#8
def RDg.fl (r:RDg):RDg:=if 1<(num32 (r.tk 1)).toNat∧(r.nx 1).e=0 then ⟨[],3⟩ else r.nx 1
def RDg.is (r:RDg):Bool:=decide (r.fl.e=0) && decide ((num32 (r.tk 1)).toNat=1)
theorem tk_len (r:RDg) (n:Nat):(r.tk n).length=n:=by
 unfold RDg.tk
 split
 ·rw [List.length_take];omega
 ·simp
theorem nx_bad {r:RDg} (h:r.e≠0) (n:Nat):r.nx n=r∧r.tk n=List.replicate n 0#8:=⟨if_neg h,if_neg (by omega)⟩
theorem nx_short {r:RDg} (h:r.e=0) {n:Nat} (hn:r.l.length<n):r.nx n=⟨[],2⟩∧r.tk n=List.replicate n 0#8:=⟨by rw [RDg.nx,if_pos h,if_pos hn],if_neg (by omega)⟩
theorem nx_ok {r:RDg} (h:r.e=0) {n:Nat} (hn:n≤r.l.length):r.nx n=⟨r.l.drop n,0⟩∧r.tk n=r.l.take n:=⟨by rw [RDg.nx,if_pos h,if_neg (by omega)],if_pos ⟨h,hn⟩⟩
structure RdOk (A:Hp→Prop) (s:SlD (BitVec 8)) (r:RDg):Prop where
 rd:RdS A s
 eq:r.e=0→s.l=r.l
abbrev rdBox (b:Nat) (s:SlD (BitVec 8)) (r:RDg):Hl := .box b 175 [Bs s,I r.e]
theorem a7H (H:List Hl) (A:Hp→Prop) (hA:∀ w,sat w (stars H)→sat w A) (b n:Nat) (s:SlD (BitVec 8)) (r r':RDg) (t:List (BitVec 8)) (hs:RdOk A s r) (hn:n≤100) (h1:r.nx n=r') (h2:r.tk n=t) :
  Spec Tryz.prog 95 [.pointer (some ⟨b,0,none⟩),I n] (rdBox b s r::H) (fun y:PA × SlD (BitVec 8)=>RdOk A y.2 r') (fun y => .slice y.1.1 t.length y.1.2) (fun y=>rdBox b y.2 r'::rowB y.1 t::H):=by
 refine sF (res:=fun y:PA × SlD (BitVec 8)=>[rdBox b y.2 r',rowB y.1 t]) [rdBox b s r] H Tryz.func95 Tryz.ntmps95 fun W=>?_
 dsimp only [rdBox,cA,nA]
 have hr:RdS (stars H) s:=hs.rd.mono hA
 by_cases he:r.e=0
 ·have hsl:=hs.eq he
  by_cases hlt:r.l.length<n
  ·obtain ⟨k1,k2⟩:=nx_short he hlt
   rw [k1] at h1
   rw [k2] at h2
   subst h1
   rw [←hsl] at hlt
   have htl:t.length=n:=by rw [←h2];simp
   subst htl
   repeat' (first|intro _|(refine a2W ?_;(refine a5D (enc:=B) 0#8 t.length rfl rfl rfl rfl rfl (by omega) (by omega) (fun b9=>?_);rw [h2]))|refine wK ?_|refine wL ?_ ?_|fail)
   refine c0E (T:=5) (b:=b9) (m:=t.length) (cp:=t.length) (cs:=t.map B) (by simp) rfl (by omega) ?_
   refine a0E ((some ⟨b9,0,none⟩,t.length),s) rfl rfl rfl ⟨hs.rd,fun h=>by cases h⟩ ?_
   exact ent
  ·obtain ⟨k1,k2⟩:=nx_ok he (n:=n) (by omega)
   rw [k1] at h1
   rw [k2] at h2
   subst h1 h2
   rw [←hsl] at hlt
   have hle:=hs.rd.le
   rw [he]
   repeat' (first|intro _|(refine a3X ?_;first|refine a5X (xs:=s.l) n rfl rfl rfl rfl hle (by omega) ?_|refine b0G (xs:=s.l) n rfl rfl rfl rfl (by omega) ?_)|(refine k_fn 29 ?_;(refine a0A (fun _=>a1B _ _ _ (s.l.take n) (Rs.up (hr.cuth n (by omega))) (by simp;omega)) rfl (fun ⟨a5,c5⟩ _=>?_);dsimp only))|refine wK ?_|refine wL ?_ ?_|fail)
   rw [←hsl]
   refine a0E ((a5,c5),⟨cutA s.ad s.cap n,s.cap - n,s.l.drop n⟩) rfl rfl rfl ⟨hs.rd.cutl n (by omega),fun _=>rfl⟩ ?_
   exact ent
 ·obtain ⟨k1,k2⟩:=nx_bad he n
  rw [k1] at h1
  rw [k2] at h2
  subst h1
  have htl:t.length=n:=by rw [←h2];simp
  subst htl
  repeat' (first|intro _|(refine a2W ?_;(refine a5D (enc:=B) 0#8 t.length rfl rfl rfl rfl rfl (by omega) (by omega) (fun b9=>?_);rw [h2]))|refine wK ?_|refine wL ?_ ?_|fail)
  refine c0E (T:=5) (b:=b9) (m:=t.length) (cp:=t.length) (cs:=t.map B) (by simp) rfl (by omega) ?_
  refine a0E ((some ⟨b9,0,none⟩,t.length),s) rfl rfl rfl ⟨hs.rd,fun h=>absurd h he⟩ ?_
  exact ent
theorem a4E (H:List Hl) (A:Hp→Prop) (hA:∀ w,sat w (stars H)→sat w A) (b n:Nat) (s:SlD (BitVec 8)) (r r':RDg) (v:BitVec 32) (hs:RdOk A s r) (hn:n≤100) (h1:r.nx n=r') (h2:num32 (r.tk n)=v) :
  Spec Tryz.prog 93 [.pointer (some ⟨b,0,none⟩),I n] (rdBox b s r::H) (fun y:SlD (BitVec 8)=>RdOk A y r') (fun y=>W4 v) (fun y=>rdBox b y r'::H):=by
 refine sF (res:=fun y:SlD (BitVec 8)=>[rdBox b y r']) [rdBox b s r] H Tryz.func93 Tryz.ntmps93 fun W=>?_
 dsimp only [rdBox,cA,nA]
 have hA':∀ w,sat w (stars [.any (stars H)])→sat w A:=fun w hw=>hA w (a6B .here w hw)
 obtain ⟨t,ht⟩:∃ t,r.tk n=t:=⟨_,rfl⟩
 have htl:t.length=n:=by rw [←ht];exact tk_len r n
 rw [ht] at h2
 subst h2
 repeat' (first|intro _|(refine k_fn 95 ?_;(refine a0A (fun _=>a7H [.any (stars H)] A hA' b n s r r' t hs hn h1 ht) rfl (fun ⟨⟨a5,c5⟩,s'⟩ hok=>?_);try dsimp only at hok ⊢))|refine wK ?_|refine wL ?_ ?_|fail)
 refine a0Y (S:=Nat) (fun i=>[(5,W4 (num32 (t.take i))),(10,.slice a5 t.length c5),(11,I t.length),(12,I i)]) (fun _=>[rdBox b s' r',rowB (a5,c5) t,.any (stars H)]) (fun i=>i≤t.length) (fun i=>t.length - i) 0 (by omega)
  cv (Ent.refl _) ?_
 intro i hi
 by_cases hlt:i<t.length
 ·repeat' (first|intro _|(refine a0J ?_;refine a2B (enc:=B) (c:=c5) (xs:=t) i rfl rfl a0I rfl rfl hlt ?_)|(refine a0K ?_;refine a1P (enc:=B) (c:=c5) (xs:=t) i rfl a0I hlt ?_)|refine wK ?_|refine wL ?_ ?_|fail)
  refine a0Q (i+1) (by omega) (by omega) (a0R rfl ?_ cv) (Ent.refl _)
  rw [num32_succ _ _ (by omega)];rfl
 ·have:i=t.length:=by omega
  subst this
  repeat' (first|intro _|refine wK ?_|refine wL ?_ ?_|fail)
  refine a0E s' rfl rfl ?_ hok ?_
  ·rw [List.take_length]
  ·exact ent
theorem tk1_bad {r:RDg} (h:(r.nx 1).e≠0):(num32 (r.tk 1)).toNat=0:=by
 by_cases he:r.e=0
 ·by_cases hl:r.l.length<1
  ·rw [(nx_short he hl).2];rfl
  ·rw [(nx_ok he (n:=1) (by omega)).1] at h;exact absurd rfl h
 ·rw [(nx_bad he 1).2];rfl
theorem rd_is (H:List Hl) (A:Hp→Prop) (hA:∀ w,sat w (stars H)→sat w A) (b:Nat) (s:SlD (BitVec 8)) (r r':RDg) (v:Bool) (hs:RdOk A s r) (h1:r.fl=r') (h2:r.is=v) :
  Spec Tryz.prog 94 [.pointer (some ⟨b,0,none⟩)] (rdBox b s r::H) (fun y:SlD (BitVec 8)=>RdOk A y r') (fun y => .bool v) (fun y=>rdBox b y r'::H):=by
 refine sF (res:=fun y:SlD (BitVec 8)=>[rdBox b y r']) [rdBox b s r] H Tryz.func94 Tryz.ntmps94 fun W=>?_
 dsimp only [rdBox,cA,nA]
 have hA':∀ w,sat w (stars [.any (stars H)])→sat w A:=fun w hw=>hA w (a6B .here w hw)
 obtain ⟨r1,hr1⟩:∃ t,r.nx 1=t:=⟨_,rfl⟩
 obtain ⟨u,hu⟩:∃ t,num32 (r.tk 1)=t:=⟨_,rfl⟩
 have hbad:r1.e≠0→u.toNat=0:=fun h=>by rw [←hu];exact tk1_bad (by rw [hr1];exact h)
 unfold RDg.is RDg.fl at h2
 unfold RDg.fl at h1
 rw [hr1,hu] at h1 h2
 by_cases hc:1<u.toNat∧r1.e=0
 ·rw [if_pos hc] at h1 h2
  subst h1
  have hv:v=false:=by rw [←h2];rfl
  subst hv
  obtain ⟨hc1,hc2⟩:=hc
  repeat' (first|intro _|(refine k_fn 93 ?_;(refine a0A (fun _=>a4E [.any (stars H)] A hA' b 1 s r r1 u hs (by omega) hr1 hu) rfl (fun s' hok=>?_);try dsimp only at hok ⊢))|(refine a0D .eql ?_;refine a1Y rfl rfl (by decide) ?_)|refine wK ?_|refine wL ?_ ?_|fail)
  all_goals (refine a0E s' rfl rfl rfl ⟨hok.rd,fun h=>by cases h⟩ ?_;exact ent)
 ·rw [if_neg hc] at h1 h2
  subst h1
  by_cases hr1e:r1.e=0
  ·have hv:v=decide (u.toNat=1):=by rw [←h2,decide_eq_true hr1e];rfl
   have hu1:u.toNat≤1:=by omega
   subst hv
   by_cases hu2:u.toNat=1
   ·rw [decide_eq_true hu2]
    repeat' (first|intro _|(refine k_fn 93 ?_;(refine a0A (fun _=>a4E [.any (stars H)] A hA' b 1 s r r1 u hs (by omega) hr1 hu) rfl (fun s' hok=>?_);try dsimp only at hok ⊢))|refine wK ?_|refine wL ?_ ?_|fail)
    all_goals (refine a0E s' rfl rfl rfl hok ?_;exact ent)
   ·rw [decide_eq_false hu2]
    repeat' (first|intro _|(refine k_fn 93 ?_;(refine a0A (fun _=>a4E [.any (stars H)] A hA' b 1 s r r1 u hs (by omega) hr1 hu) rfl (fun s' hok=>?_);try dsimp only at hok ⊢))|refine wK ?_|refine wL ?_ ?_|fail)
    all_goals (refine a0E s' rfl rfl rfl hok ?_;exact ent)
  ·have hv:v=false:=by rw [←h2,decide_eq_false hr1e];rfl
   have hu0:=hbad hr1e
   subst hv
   repeat' (first|intro _|(refine k_fn 93 ?_;(refine a0A (fun _=>a4E [.any (stars H)] A hA' b 1 s r r1 u hs (by omega) hr1 hu) rfl (fun s' hok=>?_);try dsimp only at hok ⊢))|refine wK ?_|refine wL ?_ ?_|fail)
   all_goals (refine a0E s' rfl rfl rfl hok ?_;exact ent)
end Go.Dp
