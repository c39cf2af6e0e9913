/-
  Downpour, walked and proved: part 9.
  Conditions: those that stand in each theorem.
-/
import Derived.Test.YtcblcmdikhllbaaGreatDoorQTopEnough3
import Derived.Test.YtcblcmdikhllbaaGreatDoorQTopEnough8
import Derived.Test.YtcblcmdikhllbaaGreatDoorQTopEnough2
import Derived.Test.YtcblcmdikhllbaaGreatDoorQTopEnough4
import Derived.Lib.MakeNoZero
import Derived.Test.YtcblcmdikhllbaaGreatDoorQTopEnough6
set_option linter.unusedVariables false
set_option linter.unusedSimpArgs false
set_option maxHeartbeats 64000000
namespace Go.Dp
open Go.RowKit Go.Proofs
def pieceL (image:List (BitVec 8)) (m z i:Nat):List (BitVec 8):=((full image m).take ((i+1)*z)).drop (i*z)
def piecesL (image:List (BitVec 8)) (n z:Nat):List (List (BitVec 8)):=(List.range n).map (pieceL image (n*z) z)
theorem copy_full (image:List (BitVec 8)) (m:Nat):image.take (List.replicate m (0#8)).length++(List.replicate m (0#8)).drop image.length=full image m:=by simp [full]
theorem block_Split (H:List Hl) (ad:Option Addr) (c:Nat) (image:List (BitVec 8)) (n z:Nat) (h:Rs (stars H) B ad c image) (hc:count image.length z=n) (hn:1≤n) :
  Spec Tryz.prog 134 [.slice ad image.length c,I z] H (fun r:Option Addr × Nat × List (SlD (BitVec 8))=>r.2.2.map (·.l)=piecesL image n z) (fun r => .slice r.1 r.2.2.length r.2.1)
   (fun r => .row 22 1 (.slice r.1 r.2.2.length r.2.1) r.2.2.length (r.2.2.map Bs) :: .any (pcs 5 r.2.2)::H):=by
 refine sP (res:=fun r:Option Addr × Nat × List (SlD (BitVec 8))=>[.row 22 1 (.slice r.1 r.2.2.length r.2.1) r.2.2.length (r.2.2.map Bs),.any (pcs 5 r.2.2)]) H Tryz.func134 Tryz.ntmps134 fun W=>?_
 obtain ⟨p1,p2,p3,p4,p5,p6,p7⟩:=a8R (l:=image.length) (s:=z) (by omega)
 have hb:n*z≤1024:=by
  have:=Nat.mul_le_mul (by omega:n≤64) (by omega:z≤16)
  omega
 have hbi:((n*z:Nat):Int)=(n:Int)*z:=by push_cast;rfl
 repeat' (first|intro _|(refine k_fn 105 ?_;refine a0A (fun _=>(a9W _ _ _).vv (b:=I n) (congrArg I hc)) rfl (fun _ _=>?_))|(refine a1S ?_;first|refine b6J (r:=(z:Int)) rfl rfl (by omega) ?_|(refine b8S rfl rfl (by simp) (a3Q h) rfl (fun _=>rfl) ?_;rw [copy_full]))|(refine a0D .mul ?_;refine a2Y rfl rfl (by omega) ?_)|(refine a2W ?_;refine a5D (enc:=B) 0#8 (n*z) rfl rfl rfl rfl (by omega) (by omega) (by omega) (fun _=>?_))|refine wK ?_|refine wL ?_ ?_|fail)
 refine a3J (a1A 22 Bs) (a3J (fun h hh=>b4Y h (c0U (T:=5) h hh)) ?_)
 rename_i b
 refine a0Y (S:=Nat × Option Addr × Nat × List (SlD (BitVec 8))) (fun s=>[(1,I z),(6,.slice (some ⟨b,0,none⟩) (n*z) (n*z)),(7,.slice s.2.1 s.2.2.2.length s.2.2.1),(21,I n),(22,I s.1)])
  (fun s=>[.row 22 1 (.slice s.2.1 s.2.2.2.length s.2.2.1) s.2.2.2.length (s.2.2.2.map Bs),.any (pcs 5 s.2.2.2),.box b 5 ((full image (n*z)).map B),.any (stars H)]) (fun s=>s.1≤n∧s.2.2.2.map (·.l)=(List.range s.1).map (pieceL image (n*z) z)) (fun s=>n - s.1) (0,none,0,[]) ⟨by omega,rfl⟩
  cv ent ?_
 rintro ⟨i,a1,c1,ls⟩ ⟨hi,hls⟩
 dsimp only at hi hls ⊢
 have hlen:ls.length=i:=by have:=congrArg List.length hls;simpa using this
 by_cases hlt:i<n
 ·have hm1:(i+1)*z≤n*z:=Nat.mul_le_mul_right z hlt
  have hm2:i*z≤(i+1)*z:=Nat.mul_le_mul_right z (Nat.le_succ i)
  have hfl:=b1K image (n*z)
  repeat' (first|intro _|(refine a0D .mul ?_;refine a2Y rfl rfl (by first|(have e:((i*z:Nat):Int)=(i:Int)*z:=by push_cast;rfl);omega|(have e:(((i+1)*z:Nat):Int)=((i:Int)+1)*z:=by push_cast;rfl);omega) ?_)|(refine a3X ?_;refine o1_cs_lh (xs:=full image (n*z)) (i*z) ((i+1)*z) rfl rfl rfl (by push_cast;rfl) (by push_cast;rfl) (by omega) (by omega) hm2 (by omega) ?_)|(refine k_fn 29 ?_;(refine a0A (fun hh=>a1B _ _ _ _ ((a2H (l:=full image (n*z)) (by omega) (by omega) hh).cutv (i*z) ((i+1)*z) hm2 (by omega)) (by simp;omega)) rfl (fun ⟨a3,c3⟩ _=>?_);dsimp only))|(refine a0P ?_;refine a0O Bs [⟨_,_,pieceL image (n*z) z i⟩] rfl rfl rfl (fun _=>rfl) rfl rfl rfl (fun _=>?_))|(refine a1S ?_;refine a1H (enc:=Bs) rfl rfl (a2H rfl (by first|decide|omega)) rfl rfl (fun _=>rfl) (by omega) (by omega) (fun a2 c2=>?_))|refine wK ?_|refine wL ?_ ?_|fail)
  refine b9G (T:=5) (ls:=ls) (s:=(⟨a3,c3,pieceL image (n*z) z i⟩:SlD (BitVec 8))) (R:=[.row 22 1 (.slice a2 (ls.length+1) c2) (ls.length+1) ((ls++[(⟨a3,c3,pieceL image (n*z) z i⟩:SlD (BitVec 8))]).map Bs),.box b 5 ((full image (n*z)).map B),.any (stars H)]) ent ?_
  refine a0Q (i+1,a2,c2,ls++[(⟨a3,c3,pieceL image (n*z) z i⟩:SlD (BitVec 8))]) ⟨?_,?_⟩ ?_ (a0R rfl rfl (a0R rfl rfl (a0R rfl ?_ cv))) ?_
  ·show i+1≤n;omega
  ·show (ls++[(⟨a3,c3,pieceL image (n*z) z i⟩:SlD (BitVec 8))]).map (·.l)=_
   rw [List.map_append,hls,List.range_succ,List.map_append];rfl
  ·show n - (i+1)<n - i;omega
  ·show Value.slice a2 (ls.length+1) c2=Value.slice a2 (ls++[(⟨a3,c3,pieceL image (n*z) z i⟩:SlD (BitVec 8))]).length c2
   simp
  ·show Ent _ [.row 22 1 (.slice a2 (ls++[(⟨a3,c3,pieceL image (n*z) z i⟩:SlD (BitVec 8))]).length c2) (ls++[(⟨a3,c3,pieceL image (n*z) z i⟩:SlD (BitVec 8))]).length ((ls++[(⟨a3,c3,pieceL image (n*z) z i⟩:SlD (BitVec 8))]).map Bs),.any (pcs 5 (ls++[(⟨a3,c3,pieceL image (n*z) z i⟩:SlD (BitVec 8))])),.box b 5 ((full image (n*z)).map B),.any (stars H)]
   rw [List.length_append,List.length_singleton]
   exact ent
 ·have:i=n:=by omega
  subst this
  repeat' (first|intro _|refine wK ?_|refine wL ?_ ?_|fail)
  refine a0E (a1,c1,ls) rfl rfl rfl hls ?_
  exact ent
theorem take_min {α:Type} (b:List α) (k:Nat):b.take (min b.length k)=b.take k:=by
 rcases Nat.le_total b.length k with h|h
 ·rw [Nat.min_eq_left h,List.take_length,List.take_of_length_le h]
 ·rw [Nat.min_eq_right h]
def joinL (b:List (BitVec 8)) (n:Int):List (BitVec 8):=if 1≤n∧n≤512∧n≤b.length then b.take n.toNat else []
theorem block_Join (H:List Hl) (ad:Option Addr) (c:Nat) (ls:List (SlD (BitVec 8))) (n:Int) (h:Rs (stars H) Bs ad c ls) (hs:∀ s∈ls,Rs (stars H) B s.ad s.cap s.l) :
  Spec Tryz.prog 202 [.slice ad ls.length c,I n] H (fun _:Option Addr × Nat=>True) (fun r => .slice r.1 (joinL (cat ls) n).length r.2)
   (fun r => .row 5 1 (.slice r.1 (joinL (cat ls) n).length r.2) (joinL (cat ls) n).length ((joinL (cat ls) n).map B)::H):=by
 have b1:=h.le
 have b2:=h.big
 refine sP (res:=fun r:Option Addr × Nat=>[.row 5 1 (.slice r.1 (joinL (cat ls) n).length r.2) (joinL (cat ls) n).length ((joinL (cat ls) n).map B)]) H Tryz.func202 Tryz.ntmps202 fun W=>?_
 by_cases hn:1≤n∧n≤512
 ·obtain ⟨m,rfl⟩:∃ m:Nat,n=m:=⟨n.toNat,by omega⟩
  repeat' (first|intro _|refine wK ?_|refine wL ?_ ?_|fail)
  refine a3J (a1A 5 B) ?_
  refine a0Y (S:=Nat × Option Addr × Nat) (fun s=>[(1,I m),(5,.slice s.2.1 ((cat (ls.take s.1)).take m).length s.2.2),(14,.slice ad ls.length c),(15,I ls.length),(16,I s.1)]) (fun s=>[.row 5 1 (.slice s.2.1 ((cat (ls.take s.1)).take m).length s.2.2) ((cat (ls.take s.1)).take m).length (((cat (ls.take s.1)).take m).map B),.any (stars H)]) (fun s=>s.1≤ls.length) (fun s=>ls.length - s.1) (0,none,0) (Nat.zero_le _)
   (a0R rfl rfl (a0R rfl (by simp [cat]) cv)) (by simp only [List.take_zero,cat,List.flatMap_nil,List.take_nil,List.length_nil];exact ent) ?_
  rintro ⟨i,a1,c1⟩ hi
  dsimp only at hi ⊢
  by_cases hlt:i<ls.length
  ·have hsi:=hs ls[i] (List.getElem_mem _)
   have hle:=hsi.le
   have hm:((cat (ls.take i)).take m).length≤m:=by simp;omega
   generalize hk:min ls[i].l.length (m - ((cat (ls.take i)).take m).length)=k
   have hk1:k≤ls[i].l.length:=by omega
   have hstep:(cat (ls.take (i+1))).take m=(cat (ls.take i)).take m++ls[i].l.take k:=by
    rw [a7B _ _ hlt,List.take_append,←hk,take_min]
    congr 2
    simp;omega
   have hlk:(ls[i].l.take k).length=k:=by simp;omega
   repeat' (first|intro _|(refine a0J ?_;refine a3E rfl rfl h i rfl hlt (fun a ha=>?_))|(refine a1S ?_;first|refine b2W (r:=(k:Int)) rfl rfl (by omega) ?_|refine a1H rfl rfl (a3Q (hsi.cuth k hk1)) rfl rfl (fun _=>rfl) (by omega) (by omega) (fun a2 c2=>?_))|(refine a3X ?_;refine a5X (xs:=ls[i].l) k rfl rfl rfl rfl hle hk1 ?_)|refine wK ?_|refine wL ?_ ?_|fail)
   refine a0Q (i+1,a2,c2) ?_ ?_ (a0R rfl rfl (a0R rfl ?_ cv)) ?_
   ·show i+1≤_;omega
   ·show ls.length - (i+1)<ls.length - i;omega
   ·show _=Value.slice a2 ((cat (ls.take (i+1))).take m).length c2
    rw [hstep,List.length_append]
   ·show Ent _ [Hl.row 5 1 (.slice a2 ((cat (ls.take (i+1))).take m).length c2) ((cat (ls.take (i+1))).take m).length (((cat (ls.take (i+1))).take m).map B),.any (stars H)]
    rw [hstep,List.length_append]
    exact ent
  ·have:i=ls.length:=by omega
   subst this
   rw [List.take_length]
   by_cases hj:m≤(cat ls).length
   ·have e1:joinL (cat ls) m=(cat ls).take m:=by rw [joinL,if_pos (by omega)];rfl
    have e2:((cat ls).take m).length=m:=by rw [List.length_take];omega
    rw [e1]
    repeat' (first|intro _|refine wK ?_|refine wL ?_ ?_|fail)
    refine a0E (_,_) rfl rfl rfl trivial ?_
    exact ent
   ·have e1:joinL (cat ls) m=[]:=by rw [joinL,if_neg (by omega)]
    have e2:((cat ls).take m).length<m:=by rw [List.length_take];omega
    rw [e1]
    repeat' (first|intro _|refine wK ?_|refine wL ?_ ?_|fail)
    refine a2A (a1A 5 B) ?_
    refine a0E (none,0) rfl rfl rfl trivial ?_
    exact ent
 ·have hj:joinL (cat ls) n=[]:=by rw [joinL,if_neg (by omega)]
  rw [hj]
  rcases (by omega:n<1∨512<n) with hn|hn
  all_goals
   repeat' (first|intro _|refine wK ?_|refine wL ?_ ?_|fail)
   refine a2A (a1A 5 B) ?_
   refine a0E (none,0) rfl rfl rfl trivial ?_
   exact ent
theorem b4P (image:List (BitVec 8)) (m z:Nat):∀ n,n*z≤m→((List.range n).map (pieceL image m z)).flatten=(full image m).take (n*z)
 | 0,_=>by simp
 | n+1,h=>by
  have h1:n*z≤(n+1)*z:=Nat.mul_le_mul_right z (Nat.le_succ n)
  rw [List.range_succ,List.map_append,List.flatten_append,b4P image m z n (by omega)]
  simp only [List.map_cons,List.map_nil,List.flatten_cons,List.flatten_nil,List.append_nil,pieceL]
  have:(full image m).take (n*z)=((full image m).take ((n+1)*z)).take (n*z):=by rw [List.take_take,Nat.min_eq_left h1]
  rw [this,List.take_append_drop]
theorem pieceL_len (image:List (BitVec 8)) (m z i:Nat) (h:(i+1)*z≤m):(pieceL image m z i).length=z:=by
 have h1:(i+1)*z=i*z+z:=by rw [Nat.add_mul,Nat.one_mul]
 simp only [pieceL,List.length_drop,List.length_take,b1K]
 omega
def accL (n:Nat) (ls:List (SlD (BitVec 8))) (i:Nat):List (BitVec 8):=(ls.take i).foldl (fun a s=>xorL a s.l) (List.replicate n 0#8)
theorem b3T (n:Nat) (ls:List (SlD (BitVec 8))):accL n ls 0=List.replicate n 0#8:=rfl
theorem a8W (n:Nat) (ls:List (SlD (BitVec 8))) (i:Nat) (h:i<ls.length):accL n ls (i+1)=xorL (accL n ls i) ls[i].l:=by
 simp only [accL]
 rw [List.take_succ_eq_append_getElem h,List.foldl_append]
 rfl
theorem c0B (n:Nat) (ls:List (SlD (BitVec 8))):∀ i,i≤ls.length→(∀ j (h:j<ls.length),j<i→ls[j].l.length=n)→(accL n ls i).length=n
 | 0,_,_=>by simp [accL]
 | i+1,h,hl=>by
  have h1:=c0B n ls i (by omega) (fun j hj hji=>hl j hj (by omega))
  rw [a8W n ls i (by omega),a6W _ _ (by rw [h1,hl i (by omega) (by omega)]),h1]
def sumB (ls:List (SlD (BitVec 8))):List (BitVec 8):=match ls with
 | []=>[]
 | x::_=>if ∀ s∈ls,s.l.length=x.l.length then accL x.l.length ls ls.length else []
theorem sumB_no {ls:List (SlD (BitVec 8))} {n i:Nat} (h0:∀ h:0<ls.length,ls[0].l.length=n) (hi:i<ls.length) (hne:ls[i].l.length≠n):sumB ls=[]:=by
 cases ls with
 | nil=>simp at hi
 | cons x l =>
  have h0:x.l.length=n:=h0 (by simp)
  show (if ∀ s∈x::l,s.l.length=x.l.length then accL x.l.length (x::l) (x::l).length else [])=[]
  rw [if_neg]
  intro h
  exact hne ((h _ (List.getElem_mem hi)).trans h0)
theorem b7Z {ls:List (SlD (BitVec 8))} {n:Nat} (hp:0<ls.length) (h:∀ j (h:j<ls.length),ls[j].l.length=n):sumB ls=accL n ls ls.length:=by
 cases ls with
 | nil=>simp at hp
 | cons x l =>
  have h0:x.l.length=n:=h 0 (by simp)
  show (if ∀ s∈x::l,s.l.length=x.l.length then accL x.l.length (x::l) (x::l).length else [])=_
  rw [if_pos,h0]
  intro s hs
  obtain ⟨j,hj,rfl⟩:=List.mem_iff_getElem.1 hs
  rw [h j hj,h0]
theorem block_Sum (H:List Hl) (ad:Option Addr) (c:Nat) (ls:List (SlD (BitVec 8))) (h:Rs (stars H) Bs ad c ls) (hs:∀ s∈ls,Rs (stars H) B s.ad s.cap s.l) (hb:∀ s∈ls,s.l.length≤281474976710656) :
  Spec Tryz.prog 87 [.slice ad ls.length c] H (fun _:Option Addr × Nat=>True) (fun r => .slice r.1 (sumB ls).length r.2)
   (fun r => .row 5 1 (.slice r.1 (sumB ls).length r.2) (sumB ls).length ((sumB ls).map B)::H):=by
 have b1:=h.le
 have b2:=h.big
 refine sP (res:=fun r:Option Addr × Nat=>[.row 5 1 (.slice r.1 (sumB ls).length r.2) (sumB ls).length ((sumB ls).map B)]) H Tryz.func87 Tryz.ntmps87 fun W=>?_
 obtain ⟨x0,hx0⟩:∃ x0:List (BitVec 8),∀ h:0<ls.length,ls[0].l=x0:=by
  by_cases h:0<ls.length
  ·exact ⟨ls[0].l,fun _=>rfl⟩
  ·exact ⟨[],fun h'=>absurd h' h⟩
 have hx1:x0.length≤281474976710656∨ls.length=0:=by
  by_cases h:0<ls.length
  ·left;rw [←hx0 h];exact hb _ (List.getElem_mem h)
  ·right;omega
 repeat' (first|intro _|refine wK ?_|refine wL ?_ ?_|fail)
 refine a0Y (S:=Nat × Nat) (fun s=>[(0,.slice ad ls.length c),(3,match s.1 with|0 => .slice none 0 0|_+1 => .slice (some ⟨s.2,0,none⟩) x0.length x0.length),(8,.slice ad ls.length c),(9,I ls.length),(10,I s.1)]) (fun s=>match s.1 with|0=>[.any (stars H)]|i+1=>[.box s.2 5 ((accL x0.length ls (i+1)).map B),.any (stars H)]) (fun s=>s.1≤ls.length∧∀ j (h:j<ls.length),j<s.1→ls[j].l.length=x0.length) (fun s=>ls.length - s.1) (0,0) ⟨Nat.zero_le _,fun j _ h=>absurd h (Nat.not_lt_zero j)⟩
  cv ent ?_
 rintro ⟨i,b⟩ ⟨hi,hall⟩
 dsimp only at hi hall
 by_cases hlt:i<ls.length
 ·have hsi:=hs ls[i] (List.getElem_mem _)
  have hbi:=hb ls[i] (List.getElem_mem _)
  have hle:=hsi.le
  have hbig:=hsi.big
  have hal:=c0B x0.length ls i (by omega) hall
  cases i with
  | zero =>
   have hli:(ls[0]'hlt).l.length=x0.length:=by rw [hx0 hlt]
   have hxl:(xorL (accL x0.length ls 0) (ls[0]'hlt).l).length=x0.length:=by rw [a6W _ _ (by rw [hal,hli]),hal]
   have hz:(xorL (accL x0.length ls 0) (ls[0]'hlt).l).length=(accL x0.length ls 0).length:=by rw [hxl,hal]
   have hal2:∀ (j:Nat) (h:j<ls.length),j<1→ls[j].l.length=x0.length:=fun j _ hj=>by
    have:j=0:=by omega
    subst this;exact hli
   dsimp only
   repeat' (first|intro _|(refine a0J ?_;refine o1_ia 0 rfl rfl h rfl rfl hlt ?_)|(refine a0K ?_;refine a1F 0 rfl h hlt ?_)|(refine a2W ?_;refine a5D (enc:=B) 0#8 x0.length rfl rfl rfl rfl (by omega) (by omega) (by omega) (fun b=>?_))|refine wK ?_|refine wL ?_ ?_|fail)
   refine a0Y (S:=Nat) (fun k=>[(0,.slice ad ls.length c),(3,.slice (some ⟨b,0,none⟩) x0.length x0.length),(8,.slice ad ls.length c),(9,I ls.length),(10,I ((0:Nat):Int)),(25,.slice (ls[0]'hlt).ad (ls[0]'hlt).l.length (ls[0]'hlt).cap),(26,I (ls[0]'hlt).l.length),(27,I k)]) (fun k=>[.box b 5 ((partL (xorL (accL x0.length ls (0)) (ls[0]'hlt).l) (accL x0.length ls (0)) k).map B),.any (stars H)]) (fun k=>k≤x0.length) (fun k=>x0.length - k) 0 (Nat.zero_le _)
    cv (by rw [a5O,b3T];exact ent) ?_
   intro k hk
   by_cases hk2:k<x0.length
   ·have hpl:=a2X hz k
    rw [hal] at hpl
    repeat' (first|intro _|(refine a0J ?_;first|refine c0F k rfl rfl rfl hk2 ?_|refine o1_ia k rfl rfl hsi rfl rfl (by omega) ?_)|(refine a0K ?_;refine a1F k rfl hsi (by omega) ?_)|refine wK ?_|refine wL ?_ ?_|fail)
    refine a0Q (k+1) (by omega) (by omega) cv ?_
    rw [a6L hz (Nat.le_refl k)]
    have hv:((accL x0.length ls (0))[k]'(by rw [hal];exact hk2) ^^^ (ls[0]'hlt).l[k]'(by omega))=(xorL (accL x0.length ls (0)) (ls[0]'hlt).l)[k]'(by rw [hxl];exact hk2):=by simp [xorL]
    rw [hv,a3V hz]
    exact ent
   ·have:k=x0.length:=by omega
    subst this
    repeat' (first|intro _|refine wK ?_|refine wL ?_ ?_|fail)
    refine a0Q (0+1,b) ⟨by show 0+1≤_;omega,hal2⟩ (by show ls.length - (0+1)<ls.length - (0);omega) cv ?_
    show Ent _ [.box b 5 ((accL x0.length ls (0+1)).map B),.any (stars H)]
    rw [a8W _ _ _ hlt,a3W hz (by rw [hal])]
    exact ent
  | succ i =>
   by_cases hli:(ls[i+1]'hlt).l.length=x0.length
   ·have hxl:(xorL (accL x0.length ls (i+1)) (ls[i+1]'hlt).l).length=x0.length:=by rw [a6W _ _ (by rw [hal,hli]),hal]
    have hal2:∀ (j:Nat) (h:j<ls.length),j<i+1+1→ls[j].l.length=x0.length:=fun j hj hji=>by
     by_cases he:j=i+1
     ·subst he;exact hli
     ·exact hall j hj (by omega)
    have hz:(xorL (accL x0.length ls (i+1)) (ls[i+1]'hlt).l).length=(accL x0.length ls (i+1)).length:=by rw [hxl,hal]
    dsimp only
    repeat' (first|intro _|(refine a0J ?_;refine o1_ia (i+1) rfl rfl h rfl rfl hlt ?_)|(refine a0K ?_;refine a1F (i+1) rfl h hlt ?_)|refine wK ?_|refine wL ?_ ?_|fail)
    refine a0Y (S:=Nat) (fun k=>[(0,.slice ad ls.length c),(3,.slice (some ⟨b,0,none⟩) x0.length x0.length),(8,.slice ad ls.length c),(9,I ls.length),(10,I ((i+1:Nat):Int)),(25,.slice (ls[i+1]'hlt).ad (ls[i+1]'hlt).l.length (ls[i+1]'hlt).cap),(26,I (ls[i+1]'hlt).l.length),(27,I k)]) (fun k=>[.box b 5 ((partL (xorL (accL x0.length ls (i+1)) (ls[i+1]'hlt).l) (accL x0.length ls (i+1)) k).map B),.any (stars H)]) (fun k=>k≤x0.length) (fun k=>x0.length - k) 0 (Nat.zero_le _)
     cv (by rw [a5O];exact ent) ?_
    intro k hk
    by_cases hk2:k<x0.length
    ·have hpl:=a2X hz k
     rw [hal] at hpl
     repeat' (first|intro _|(refine a0J ?_;first|refine c0F k rfl rfl rfl hk2 ?_|refine o1_ia k rfl rfl hsi rfl rfl (by omega) ?_)|(refine a0K ?_;refine a1F k rfl hsi (by omega) ?_)|refine wK ?_|refine wL ?_ ?_|fail)
     refine a0Q (k+1) (by omega) (by omega) cv ?_
     rw [a6L hz (Nat.le_refl k)]
     have hv:((accL x0.length ls (i+1))[k]'(by rw [hal];exact hk2) ^^^ (ls[i+1]'hlt).l[k]'(by omega))=(xorL (accL x0.length ls (i+1)) (ls[i+1]'hlt).l)[k]'(by rw [hxl];exact hk2):=by simp [xorL]
     rw [hv,a3V hz]
     exact ent
    ·have:k=x0.length:=by omega
     subst this
     repeat' (first|intro _|refine wK ?_|refine wL ?_ ?_|fail)
     refine a0Q (i+1+1,b) ⟨by show i+1+1≤_;omega,hal2⟩ (by show ls.length - (i+1+1)<ls.length - (i+1);omega) cv ?_
     show Ent _ [.box b 5 ((accL x0.length ls (i+1+1)).map B),.any (stars H)]
     rw [a8W _ _ _ hlt,a3W hz (by rw [hal])]
     exact ent
   ·rw [sumB_no (fun h0=>by rw [hx0 h0]) hlt hli]
    dsimp only
    repeat' (first|intro _|(refine a0J ?_;refine o1_ia (i+1) rfl rfl h rfl rfl hlt ?_)|(refine a0K ?_;refine a1F (i+1) rfl h hlt ?_)|refine wK ?_|refine wL ?_ ?_|fail)
    refine a2A (a1A 5 B) ?_
    refine a0E (none,0) rfl rfl rfl trivial ?_
    exact ent
 ·have:i=ls.length:=by omega
  cases i with
  | zero =>
   have hn:ls=[]:=List.eq_nil_of_length_eq_zero this.symm
   subst hn
   dsimp only
   repeat' (first|intro _|refine wK ?_|refine wL ?_ ?_|fail)
   refine a2A (a1A 5 B) ?_
   refine a0E (none,0) rfl rfl rfl trivial ?_
   exact ent
  | succ m =>
   have hy:=b7Z (ls:=ls) (n:=x0.length) (by omega) (fun j hj=>hall j hj (by omega))
   have hal:=c0B x0.length ls ls.length (Nat.le_refl _) (fun j hj _=>hall j hj (by omega))
   rw [←this] at hy hal
   rw [hy,hal]
   dsimp only
   repeat' (first|intro _|refine wK ?_|refine wL ?_ ?_|fail)
   refine c0E (T:=5) (b:=b) (m:=x0.length) (cp:=x0.length) (cs:=(accL x0.length ls (m+1)).map B) (by rw [List.length_map,hal]) rfl (by omega) ?_
   refine a0E (some ⟨b,0,none⟩,x0.length) rfl rfl rfl trivial ?_
   exact ent
def rtP2_0:List Row:=[tR 66 [] [],tR 67 [] [],tR 68 [0,1] [0,1],tR 69 [2] [0,1,2],tR 70 [] [],tR 71 [] [],tR 72 [4,5] [4,5],tR 73 [6] [4,5,6],tR 74 [3,7] (rG 8),tR 75 [0,1,0,1,2,3,4,5,6,7,8] (rG 9),⟨none,[9,8,0,1,2,3,4,5,6,7,8],[0,1,2,3,4,5,6,7,8,9],none⟩]
theorem clone_B (H:List Hl) (ad:Option Addr) (c:Nat) (l:List (BitVec 8)) (h:Rs (stars H) B ad c l) (hb:l.length≤140737488355328) :
  Spec Tryz.prog 29 [.slice ad l.length c] H (fun _:PA=>True) (fun r:PA => .slice r.1 l.length r.2) (fun r:PA => .row 5 1 (.slice r.1 l.length r.2) l.length (l.map B)::H):=by
 refine sP (res:=fun r:PA=>[.row 5 1 (.slice r.1 l.length r.2) l.length (l.map B)]) H Tryz.func29 Tryz.ntmps29 fun W=>?_
 cases ad with
 | none =>
  have hl:l=[]:=by
   cases l with
   | nil=>rfl
   | cons a l=>obtain ⟨x,hx⟩:=h.sm (by simp);cases hx
  subst hl
  repeat' (first|intro _|refine wK ?_|refine wL ?_ ?_|fail)
  refine (a2A (a1A 5 B) ?_)
  refine a0E (none,0) rfl rfl rfl trivial ?_
  exact ent
 | some a =>
  repeat' (first|intro _|(refine a1S ?_;refine a2C (xs:=([]:List (BitVec 8))) rfl rfl rfl rfl (a3Q h) rfl rfl (fun _=>rfl) (by omega) (by have:=h.le;have:=h.big;omega) (fun _ _=>?_))|refine wK ?_|refine wL ?_ ?_|fail)
  refine a0E (_,_) rfl rfl (by simp only [Nat.zero_add];rfl) trivial ?_
  simp only [Nat.zero_add,List.nil_append]
  exact ent
def oddB (z:Int) (s:SlD (BitVec 8)):Bool:=decide ((s.l.length:Int)≠z)
theorem pieces_odd (H:List Hl) (b:Nat) (z:Int) (s:SlD (BitVec 8)) (hb:Cl (stars H) ⟨b,3,none⟩ (I z)) :
  Spec Tryz.prog 175 [Bs s,.pointer (some ⟨b,0,none⟩)] H (fun _:Unit=>True) (fun _ => .bool (oddB z s)) (fun _=>H):=by
 refine sP (res:=fun _=>[]) H Tryz.func175 Tryz.ntmps175 fun W=>?_
 repeat' (first|intro _|(refine a0K ?_;refine a0L rfl hb ?_)|(refine a0D .neq ?_;refine b8X rfl rfl ?_)|refine wK ?_|refine wL ?_ ?_|fail)
 refine a0E () rfl rfl rfl trivial ?_
 exact ent
theorem slices_IndexFunc (H:List Hl) (ad:Option Addr) (c b:Nat) (z:Int) (ls:List (SlD (BitVec 8))) (h:Rs (stars H) Bs ad c ls) (hb:Cl (stars H) ⟨b,3,none⟩ (I z)) :
  Spec Tryz.prog 207 [.slice ad ls.length c,.func (.func 175) #[] #[.pointer (some ⟨b,0,none⟩)]] H (fun r:Int=>decide (0≤r)=ls.any (oddB z) ∧ -1≤r∧r≤9223372036854775807) (fun r=>I r) (fun _=>H):=by
 refine sP (res:=fun _:Int=>[]) H Tryz.func207 Tryz.ntmps207 fun W=>?_
 have hle:=h.le
 have hbg:=h.big
 repeat' (first|intro _|refine wK ?_|refine wL ?_ ?_|fail)
 refine a0Y (S:=Nat) (fun i=>[(0,.slice ad ls.length c),(1,.func (.func 175) #[] #[.pointer (some ⟨b,0,none⟩)]),(7,I ls.length),(8,I i)]) (fun i=>[.any (stars H)]) (fun i=>i≤ls.length∧(ls.take i).any (oddB z)=false) (fun i=>ls.length - i) 0 ⟨Nat.zero_le _,rfl⟩
  cv (Ent.refl _) ?_
 rintro i ⟨hi,hno⟩
 by_cases hlt:i<ls.length
 ·cases ho:oddB z ls[i]
  ·repeat' (first|intro _|(refine a0J ?_;refine o1_ia i rfl rfl h rfl rfl hlt ?_)|(refine a0K ?_;refine a1F i rfl h hlt ?_)|refine a6G (f:=175) (args:=[Bs ls[i]]) (caps:=[.pointer (some ⟨b,0,none⟩)]) rfl (fun _=>(pieces_odd _ b z ls[i] (cl_up hb)).bv (b:=false) ho) rfl (fun _ _=>?_)|refine wK ?_|refine wL ?_ ?_|fail)
   refine a0Q (i+1) ⟨by omega,?_⟩ (by omega) cv (Ent.refl _)
   rw [List.take_succ_eq_append_getElem hlt,List.any_append,hno]
   simp [ho]
  ·repeat' (first|intro _|(refine a0J ?_;refine o1_ia i rfl rfl h rfl rfl hlt ?_)|(refine a0K ?_;refine a1F i rfl h hlt ?_)|refine a6G (f:=175) (args:=[Bs ls[i]]) (caps:=[.pointer (some ⟨b,0,none⟩)]) rfl (fun _=>(pieces_odd _ b z ls[i] (cl_up hb)).bv (b:=true) ho) rfl (fun _ _=>?_)|refine wK ?_|refine wL ?_ ?_|fail)
   refine a0E (i:Int) rfl rfl rfl ⟨?_,by omega,by omega⟩ (Ent.refl _)
   have h1:ls.any (oddB z)=true:=List.any_eq_true.2 ⟨ls[i],List.getElem_mem _,ho⟩
   rw [h1];simp
 ·have:i=ls.length:=by omega
  subst this
  repeat' (first|intro _|refine wK ?_|refine wL ?_ ?_|fail)
  refine a0E (-1:Int) rfl rfl rfl ⟨?_,by omega,by omega⟩ (Ent.refl _)
  rw [List.take_length] at hno
  rw [hno];rfl
theorem slices_ContainsFunc (H:List Hl) (ad:Option Addr) (c b:Nat) (z:Int) (ls:List (SlD (BitVec 8))) (h:Rs (stars H) Bs ad c ls) (hb:Cl (stars H) ⟨b,3,none⟩ (I z)) :
  Spec Tryz.prog 174 [.slice ad ls.length c,.func (.func 175) #[] #[.pointer (some ⟨b,0,none⟩)]] H (fun _:Unit=>True) (fun _ => .bool (ls.any (oddB z))) (fun _=>H):=by
 refine sP (res:=fun _=>[]) H Tryz.func174 Tryz.ntmps174 fun W=>?_
 repeat' (first|intro _|(refine k_fn 207 ?_;refine a0A (fun _=>slices_IndexFunc _ ad c b z ls h.up (cl_up hb)) rfl (fun r hr=>?_))|(refine a0D .geq ?_;refine b2X rfl rfl ?_)|refine wK ?_|refine wL ?_ ?_|fail)
 refine a0E () rfl rfl (by rw [←hr.1]) trivial ?_
 exact ent
def okP (K:Int) (z:Int) (ls:List (SlD (BitVec 8))):Bool:=decide ((ls.length:Int)=K) && !ls.any (oddB z)
theorem okP_z {K z:Nat} {ls:List (SlD (BitVec 8))} (h:okP K z ls=true):ls.length=K∧ls.any (oddB z)=false∧∀ s∈ls,s.l.length=z:=by
 simp only [okP,Bool.and_eq_true,decide_eq_true_eq,Bool.not_eq_true'] at h
 refine ⟨by omega,h.2,fun s hs=>?_⟩
 have:=List.any_eq_false.1 h.2 s hs
 simp [oddB] at this
 omega
def sumT (f:Nat→Bool) (L:List (List (BitVec 8))) (z i:Nat):List (BitVec 8):=(List.range z).map (fun k=>xsum (fun m=>pickB (f m) (at8 L m k)) i)
theorem b2J (f:Nat→Bool) (L:List (List (BitVec 8))) (z i:Nat):(sumT f L z i).length=z:=by simp [sumT]
theorem sumT_zero (f:Nat→Bool) (L:List (List (BitVec 8))) (z:Nat):sumT f L z 0=List.replicate z 0#8:=by
 simp only [sumT,xsum]
 apply List.ext_getElem <;> simp
theorem sumT_all (f:Nat→Bool) (L:List (List (BitVec 8))) (z:Nat):sumT f L z L.length=parS f L z:=rfl
theorem sumT_off {f:Nat→Bool} {L:List (List (BitVec 8))} {z i:Nat} (h:f i=false):sumT f L z (i+1)=sumT f L z i:=by
 simp only [sumT,xsum,h,pickB]
 simp
theorem sumT_get (f:Nat→Bool) (L:List (List (BitVec 8))) (z i k:Nat) (h:k<(sumT f L z i).length):(sumT f L z i)[k]=xsum (fun m=>pickB (f m) (at8 L m k)) i:=by simp [sumT]
theorem sumT_on {f:Nat→Bool} {L:List (List (BitVec 8))} {z i k:Nat} (h:f i=true) (hk:k<z) (hi:i<L.length) (hz:k<L[i].length):(sumT f L z (i+1))[k]'(by rw [b2J];exact hk)=(sumT f L z i)[k]'(by rw [b2J];exact hk) ^^^ L[i][k]:=by
 rw [sumT_get,sumT_get,xsum]
 congr 1
 simp [pickB,h,at8,List.getD_eq_getElem?_getD,hi,hz]
def allP (s:BitVec 32) (K P z:Nat) (L:List (List (BitVec 8))):List (List (BitVec 8)):=L++(List.range P).map (fun j=>parS (parR s K j) L z)
theorem xsum_row {s:BitVec 32} {K P j i:Nat} {v:VD} (hv:v.l=rowR s (K+P) K j) (hi:i<K):at_ v.l i=parR s K j i:=by
 rw [hv];exact b8L _ _ _ _ _ (by omega)
theorem precode_Pieces (H:List Hl) (s:BitVec 32) (K P z:Nat) (ad:Option Addr) (c:Nat) (ls:List (SlD (BitVec 8))) (h:Rs (stars H) Bs ad c ls) (hs:∀ s∈ls,Rs (stars H) B s.ad s.cap s.l) (hm:mayP K P z=true) (hok:okP K z ls=true) :
  Spec Tryz.prog 133 [parV s K P z,.slice ad ls.length c] H (fun r:Option Addr × Nat × List (SlD (BitVec 8))=>r.2.2.map (·.l)=allP s K P z (ls.map (·.l))) (fun r => .slice r.1 r.2.2.length r.2.1)
   (fun r => .row 22 1 (.slice r.1 r.2.2.length r.2.1) r.2.2.length (r.2.2.map Bs) :: .any (pcs 5 r.2.2)::H):=by
 refine sP (res:=fun r:Option Addr × Nat × List (SlD (BitVec 8))=>[.row 22 1 (.slice r.1 r.2.2.length r.2.1) r.2.2.length (r.2.2.map Bs),.any (pcs 5 r.2.2)]) H Tryz.func133 Tryz.ntmps133 fun W=>?_
 obtain ⟨hlK,hno,hz⟩:=okP_z hok
 have hb:1≤(K:Int)∧(K:Int)≤64∧0≤(P:Int)∧(P:Int)≤16∧1≤(z:Int)∧(z:Int)≤16:=by simpa [mayP] using hm
 obtain ⟨b1,b2,b3,b4,b5,b6⟩:=hb
 repeat' (first|intro _|(refine k_box ?_;refine a1V rfl rfl (fun bp=>?_))|(refine k_fn 106 ?_;refine a0A (fun _=>(a5N _ _ _ _ _).bv (b:=true) hm) rfl (fun _ _=>?_))|(refine a0D .neq ?_;refine a2E rfl rfl (by omega) ?_)|refine b6K rfl ?_|(refine k_fn 174 ?_;refine a0A (fun _=>(slices_ContainsFunc _ ad c bp z ls h.up (a1M rfl)).bv (b:=false) hno) rfl (fun _ _=>?_))|refine wK ?_|refine wL ?_ ?_|fail)
 refine a3J (a1A 22 Bs) (a3J (fun h hh=>b4Y h (c0U (T:=5) h hh)) ?_)
 refine a0Y (S:=Nat × Option Addr × Nat × List (SlD (BitVec 8))) (fun q=>[(1,.slice ad ls.length c),(2,.pointer (some ⟨bp,0,none⟩)),(5,.slice q.2.1 q.2.2.2.length q.2.2.1),(29,.slice ad ls.length c),(30,I ls.length),(31,I q.1)])
  (fun q=>[.row 22 1 (.slice q.2.1 q.2.2.2.length q.2.2.1) q.2.2.2.length (q.2.2.2.map Bs),.any (pcs 5 q.2.2.2),.box bp 91 [W4 s,I K,I P,I z],.any (stars H)])
  (fun q=>q.1≤ls.length∧q.2.2.2.map (·.l)=(ls.map (·.l)).take q.1) (fun q=>ls.length - q.1) (0,none,0,[]) ⟨by omega,rfl⟩
  cv ent ?_
 rintro ⟨i,a1,c1,out⟩ ⟨hi,hout⟩
 dsimp only at hi hout ⊢
 have hol:out.length=i:=by have:=congrArg List.length hout;simp at this;omega
 by_cases hlt:i<ls.length
 ·have hsi:=hs ls[i] (List.getElem_mem _)
  have hzi:=hz ls[i] (List.getElem_mem _)
  obtain ⟨si,hsi0⟩:∃ si,ls[i]=si:=⟨_,rfl⟩
  rw [hsi0] at hsi hzi
  repeat' (first|intro _|(refine a0J ?_;refine o1_ia i rfl rfl h rfl rfl hlt ?_)|(refine a0K ?_;(refine a1F i rfl h hlt ?_;rw [hsi0]))|(refine k_fn 29 ?_;refine a0A (fun _=>clone_B _ _ _ si.l (Rs.up hsi) (by omega)) rfl (fun ⟨a5,c5⟩ _=>?_))|(refine a0P ?_;refine a0O Bs [(⟨a5,c5,si.l⟩:SlD (BitVec 8))] rfl rfl rfl (fun _=>rfl) rfl rfl rfl (fun _=>?_))|(refine a1S ?_;refine a1H (xs:=out) (ys:=[(⟨a5,c5,si.l⟩:SlD (BitVec 8))]) rfl rfl (a2H rfl (by decide)) rfl rfl (fun _=>rfl) (by omega) (by omega) (fun a9 c9=>?_))|refine wK ?_|refine wL ?_ ?_|fail)
  obtain ⟨u,hu⟩:∃ u:SlD (BitVec 8),u=⟨a5,c5,si.l⟩:=⟨_,rfl⟩
  refine b9G (T:=5) (ls:=out) (s:=u) (R:=[.row 22 1 (.slice a9 (out.length+1) c9) (out.length+1) ((out++[u]).map Bs),.box bp 91 [W4 s,I K,I P,I z],.any (stars H)]) (by rw [hu];exact ent) ?_
  refine a0Q (i+1,a9,c9,out++[u]) ⟨?_,?_⟩ ?_ (a0R rfl rfl (a0R rfl rfl (a0R rfl ?_ cv))) ?_
  ·show i+1≤ls.length;omega
  ·show (out++[u]).map (·.l)=_
   rw [List.map_append,hout,List.take_succ_eq_append_getElem (by rw [List.length_map];exact hlt),hu]
   simp [hsi0]
  ·show ls.length - (i+1)<ls.length - i;omega
  ·show Value.slice a9 _ c9=Value.slice a9 (out++[u]).length c9
   rw [List.length_append];rfl
  ·show Ent _ [.row 22 1 (.slice a9 (out++[u]).length c9) (out++[u]).length ((out++[u]).map Bs),.any (pcs 5 (out++[u])),.box bp 91 [W4 s,I K,I P,I z],.any (stars H)]
   rw [List.length_append,List.length_singleton]
   exact ent
 ·have:i=ls.length:=by omega
  subst this
  clear hlt
  repeat' (first|intro _|(refine k_fn 176 ?_;refine a0A (fun _=>precode_Rows _ s K P z hm) rfl (fun ⟨ar,cr,vs⟩ hr=>?_))|refine wK ?_|refine wL ?_ ?_|fail)
  obtain ⟨hvs,hvk⟩:=hr
  dsimp only at hvs hvk ⊢
  have hvl:vs.length=P:=by have:=congrArg List.length hvs;simpa [rowsL] using this
  obtain ⟨L,hL⟩:∃ L,ls.map (·.l)=L:=⟨_,rfl⟩
  have hLl:L.length=K:=by rw [←hL,List.length_map,hlK]
  rw [hL] at hout
  refine a0Y (S:=Nat × Option Addr × Nat × List (SlD (BitVec 8))) (fun q=>[(1,.slice ad ls.length c),(2,.pointer (some ⟨bp,0,none⟩)),(5,.slice q.2.1 q.2.2.2.length q.2.2.1),(42,.slice ar vs.length cr),(43,I vs.length),(44,I q.1)])
   (fun q=>[.row 22 1 (.slice q.2.1 q.2.2.2.length q.2.2.1) q.2.2.2.length (q.2.2.2.map Bs),.any (pcs 5 q.2.2.2),.row 148 1 (.slice ar vs.length cr) vs.length (vs.map Pv),.any (vecs vs),.box bp 91 [W4 s,I K,I P,I z],.any (stars H)])
   (fun q=>q.1≤vs.length∧q.2.2.2.map (·.l)=L++(List.range q.1).map (fun j=>parS (parR s K j) L z)) (fun q=>vs.length - q.1) (0,a1,c1,out) ⟨by omega,by rw [hout,List.take_of_length_le (by omega)];simp⟩
   cv ent ?_
  clear hout hol
  rintro ⟨j,a2,c2,out2⟩ ⟨hj,hout2⟩
  dsimp only at hj hout2 ⊢
  have hol2:out2.length=K+j:=by have:=congrArg List.length hout2;simp at this;omega
  by_cases hjt:j<vs.length
  ·have hvj:vs[j].l=rowR s (K+P) K j:=by
    have:(vs.map (·.l))[j]'(by simpa using hjt)=(rowsL s K P)[j]'(by rw [←hvs];simpa using hjt):=by simp only [hvs]
    simpa [rowsL] using this
   have hvo:=(hvk vs[j] (List.getElem_mem _)).1
   obtain ⟨f,hf⟩:∃ f,parR s K j=f:=⟨_,rfl⟩
   repeat' (first|intro _|(refine a0J ?_;refine a2B (enc:=Pv) (c:=cr) (xs:=vs) j rfl rfl a0I rfl rfl hjt ?_)|(refine a0K ?_;refine a1P (enc:=Pv) (c:=cr) (xs:=vs) j rfl a0I hjt ?_)|(refine a2W ?_;refine a5D (enc:=B) 0#8 z rfl rfl rfl rfl rfl (by omega) (by omega) (fun b10=>?_))|refine wK ?_|refine wL ?_ ?_|fail)
   rw [←sumT_zero f L z]
   refine a0Y (S:=Nat) (fun i=>[(1,.slice ad ls.length c),(2,.pointer (some ⟨bp,0,none⟩)),(5,.slice a2 out2.length c2),(9,Pv vs[j]),(10,.slice (some ⟨b10,0,none⟩) z z),(42,.slice ar vs.length cr),(43,I vs.length),(44,I j),(51,.slice ad ls.length c),(52,I ls.length),(53,I i)])
    (fun i=>[.box b10 5 ((sumT f L z i).map B),.row 22 1 (.slice a2 out2.length c2) out2.length (out2.map Bs),.any (pcs 5 out2),.row 148 1 (.slice ar vs.length cr) vs.length (vs.map Pv),.any (vecs vs),.box bp 91 [W4 s,I K,I P,I z],.any (stars H)])
    (fun i=>i≤ls.length) (fun i=>ls.length - i) 0 (Nat.zero_le _)
    cv ent ?_
   intro i hi
   by_cases hit:i<ls.length
   ·have hsi:=hs ls[i] (List.getElem_mem _)
    have hzi:=hz ls[i] (List.getElem_mem _)
    have hfi:hasV vs[j].l i=f i:=by rw [a7Z,xsum_row hvj (by omega),hf]
    have hLi:L[i]'(by omega)=ls[i].l:=by subst hL;simp
    obtain ⟨S0,hS0⟩:∃ S0,sumT f L z i=S0:=⟨_,rfl⟩
    obtain ⟨S1,hS1⟩:∃ S1,sumT f L z (i+1)=S1:=⟨_,rfl⟩
    have hS0l:S0.length=z:=by rw [←hS0,b2J]
    have hS1l:S1.length=z:=by rw [←hS1,b2J]
    have hSl:S1.length=S0.length:=by omega
    rw [hS0]
    repeat' (first|intro _|(refine a0J ?_;refine o1_ia i rfl rfl h rfl rfl hit ?_)|(refine a0K ?_;refine a1F i rfl h hit ?_)|refine wK ?_|refine wL ?_ ?_|fail)
    refine a0Y (S:=Nat) (fun k=>[(1,.slice ad ls.length c),(2,.pointer (some ⟨bp,0,none⟩)),(5,.slice a2 out2.length c2),(9,Pv vs[j]),(10,.slice (some ⟨b10,0,none⟩) z z),(11,I i),(12,Bs ls[i]),(42,.slice ar vs.length cr),(43,I vs.length),(44,I j),(51,.slice ad ls.length c),(52,I ls.length),(53,I i),(59,I ls[i].l.length),(60,I k)])
     (fun k=>[.box b10 5 ((partL S1 S0 k).map B),.row 22 1 (.slice a2 out2.length c2) out2.length (out2.map Bs),.any (pcs 5 out2),.row 148 1 (.slice ar vs.length cr) vs.length (vs.map Pv),.any (vecs vs),.box bp 91 [W4 s,I K,I P,I z],.any (stars H)])
     (fun k=>k≤z) (fun k=>z - k) 0 (Nat.zero_le _)
     cv (by show Ent _ (.box b10 5 ((partL S1 S0 0).map B)::_);rw [a5O];exact ent) ?_
    intro k hk
    by_cases hkz:k<z
    ·have hql:=a2X hSl k
     have hka:k<(partL S1 S0 k).length:=by omega
     have hpk:(partL S1 S0 k)[k]=S0[k]'(by omega):=a6L hSl (Nat.le_refl k) _
     have hset:(partL S1 S0 k).set k (S1[k]'(by omega))=partL S1 S0 (k+1):=a3V hSl (by omega)
     cases hon:f i
     ·have e1:S1=S0:=by rw [←hS1,←hS0,sumT_off hon]
      have e2:partL S1 S0 (k+1)=partL S1 S0 k:=by subst e1;simp [partL]
      repeat' (first|intro _|(refine k_fn 143 ?_;refine a0A (fun hh=>(a9Z _ vs[j] i (b5P (vs:=vs) (List.getElem_mem _) hvo hh)).bv (b:=false) (by rw [hfi,hon])) rfl (fun _ _=>?_))|refine wK ?_|refine wL ?_ ?_|fail)
      refine a0Q (k+1) (by omega) (by omega) cv ?_
      rw [e2]
      exact ent
     ·have e1:S0[k]'(by omega) ^^^ ls[i].l[k]'(by omega)=S1[k]'(by omega):=by
       subst hS0 hS1
       rw [sumT_on hon hkz (by omega) (by rw [hLi];omega)]
       simp only [hLi]
      have hkl:k<ls[i].l.length:=by omega
      repeat' (first|intro _|(refine k_fn 143 ?_;refine a0A (fun hh=>(a9Z _ vs[j] i (b5P (vs:=vs) (List.getElem_mem _) hvo hh)).bv (b:=true) (by rw [hfi,hon])) rfl (fun _ _=>?_))|refine wK ?_|refine wL ?_ ?_|fail)
      refine a0H [(10,_),(13,_),(12,_)] rtP2_0 [10] [⟨[0,1,2,3,4,5,6,7,8,9],[],some 10⟩,⟨[],[],none⟩] mixed cv (by kernel_rfl) (by kernel_rfl) ?_
      repeat' (first|intro _|refine sg ?_|(refine a0Z ?_;refine po (by first|refine c0F k rfl rfl rfl (by omega) fz|refine o1_ia k rfl rfl hsi rfl rfl hkl fz|fail) ?_)|(refine a1E ?_;refine po (by first|((refine a2V (enc:=B) (l:=partL S1 S0 k) rfl hka ?_;rw [hpk]);all_goals exact fz)|refine a1F k rfl hsi hkl fz|fail) ?_)|(refine a1I .xor ?_;refine po (by first|((refine a8E rfl rfl ?_;rw [e1]);all_goals exact fz)|fail) ?_)|refine pw ?_|refine pdd ?_|(refine a1N ?_;(refine a4A B (l:=partL S1 S0 k) rfl rfl hka rfl ?_;rw [hset]))|refine ow ?_|fail)
      all_goals dsimp only [cA,nA]
      repeat' (first|intro _|refine wK ?_|refine wL ?_ ?_|fail)
      refine a0Q (k+1) (by omega) (by omega) cv ?_
      exact ent
    ·have:k=z:=by omega
     subst this
     rw [a3W hSl hS0l.symm]
     repeat' (first|intro _|refine wK ?_|refine wL ?_ ?_|fail)
     refine a0Q (i+1) (by omega) (by omega) cv ?_
     rw [hS1]
     exact ent
   ·have:i=L.length:=by omega
    subst this
    have hpl:=parS_len f L z
    rw [sumT_all]
    obtain ⟨u,hu⟩:∃ u:SlD (BitVec 8),u=⟨some ⟨b10,0,none⟩,z,parS f L z⟩:=⟨_,rfl⟩
    have hul:u.l=parS f L z:=by rw [hu]
    have hBu:Bs u = .slice (some ⟨b10,0,none⟩) z z:=by rw [hu];show Value.slice _ _ _=_;rw [hpl]
    repeat' (first|intro _|(refine a0P ?_;refine a0O Bs [u] rfl rfl (by show _=[Bs u];rw [hBu];rfl) (fun _=>rfl) rfl rfl rfl (fun _=>?_))|(refine a1S ?_;refine a1H (xs:=out2) (ys:=[u]) rfl rfl (a2H rfl (by decide)) rfl rfl (fun _=>rfl) (by omega) (by omega) (fun a9 c9=>?_))|refine wK ?_|refine wL ?_ ?_|fail)
    refine nx_row (T:=5) (b:=b10) (m:=z) (cp:=z) (cs:=(parS f L z).map B) (by rw [List.length_map,hpl]) rfl (by omega) ?_
    refine b9G (T:=5) (ls:=out2) (s:=u) (R:=[.row 22 1 (.slice a9 (out2.length+1) c9) (out2.length+1) ((out2++[u]).map Bs),.row 148 1 (.slice ar vs.length cr) vs.length (vs.map Pv),.any (vecs vs),.box bp 91 [W4 s,I K,I P,I z],.any (stars H)]) (by rw [hBu,hul,hpl];exact ent) ?_
    refine a0Q (j+1,a9,c9,out2++[u]) ⟨?_,?_⟩ ?_ (a0R rfl rfl (a0R rfl rfl (a0R rfl ?_ cv))) ?_
    ·show j+1≤vs.length;omega
    ·show (out2++[u]).map (·.l)=_
     rw [List.map_append,hout2,List.range_succ,List.map_append]
     simp [hul,hf]
    ·show vs.length - (j+1)<vs.length - j;omega
    ·show Value.slice a9 _ c9=Value.slice a9 (out2++[u]).length c9
     rw [List.length_append];rfl
    ·show Ent _ [.row 22 1 (.slice a9 (out2++[u]).length c9) (out2++[u]).length ((out2++[u]).map Bs),.any (pcs 5 (out2++[u])),.row 148 1 (.slice ar vs.length cr) vs.length (vs.map Pv),.any (vecs vs),.box bp 91 [W4 s,I K,I P,I z],.any (stars H)]
     rw [List.length_append,List.length_singleton]
     exact ent
  ·have:j=vs.length:=by omega
   subst this
   repeat' (first|intro _|refine wK ?_|refine wL ?_ ?_|fail)
   refine a0E (a2,c2,out2) rfl rfl rfl ?_ ?_
   ·show out2.map (·.l)=_
    rw [hout2,hvl,allP,hL]
   exact ent
end Go.Dp
namespace Go.Dp
open Go.RowKit
theorem run_from_unsafe {P:Program} {src dst u:TypeId} (hs:P.underlying src=some .unsafePointer) (hd:P.underlying dst=some (.pointer u)) {a:Addr} {e:TypeId} {m:Nat} {w:World} {i:TypeInfo} (hi:P.info? u=some i) (hsh:w.shape? a.block=some (e,m)) (hl:liesAt P P.depth e (m / P.cellsOf e) a.off u 1=true):(convert src dst (.pointer (some a))).run P w = .ok (.pointer (some a)) w:=by
 simp [convert,run_underlying hs,run_underlying hd,Conv.unsafePointer,Conv.seenAt,viewAt,hsh,variablesAt,hl,sizeOf,typeInfo,hi]
theorem run_from_unsafe_nil {P:Program} {src dst u:TypeId} (hs:P.underlying src=some .unsafePointer) (hd:P.underlying dst=some (.pointer u)) {w:World}:(convert src dst (.pointer none)).run P w = .ok (.pointer none) w:=by
 simp [convert,run_underlying hs,run_underlying hd,Conv.unsafePointer]
theorem run_to_unsafe_nil {P:Program} {src dst u:TypeId} (hs:P.underlying src=some (.pointer u)) (hd:P.underlying dst=some .unsafePointer) {w:World}:(convert src dst (.pointer none)).run P w = .ok (.pointer none) w:=by
 simp [convert,run_underlying hs,run_underlying hd,Conv.unsafePointer]
theorem run_call_loadp {P:Program} {f:FuncId} {fn:Func} (hf:P.funcs[f]?=some fn) (hname:(fn.name == "runtime.NumGoroutine")=false) (hb:fn.body.isNone=true) (hn:Extern.findNext fn=none)
  (he:Extern.find fn=some (Extern.Atomic.loadT .ptr)) {a:Addr} {x:Option Addr} {w:World} (hc:w.cell? a=some (.pointer x)) :
  (callFunc f #[.pointer (some a)]).run P w = .ok (.value (.pointer x)) w:=by
 rw [run_callFunc_extern hf hname hb hn he]
 change (Sem.run P (do Extern.Atomic.read .ptr (← asAddr (.pointer (some a)))) w).andThen _=_
 simp [Extern.Atomic.read,asAddr,hc,Result.andThen]
theorem run_call_storep {P:Program} {f:FuncId} {fn:Func} (hf:P.funcs[f]?=some fn) (hname:(fn.name == "runtime.NumGoroutine")=false) (hb:fn.body.isNone=true) (hn:Extern.findNext fn=none)
  (he:Extern.find fn=some Extern.Atomic.storeT) {a:Addr} {y:Option Addr} {u:Value} {w:World} (hc:w.cell? a=some u) (hz:w.frozen? a=false) :
  (callFunc f #[.pointer (some a),.pointer y]).run P w = .ok (.value (.tuple #[])) (w.setCell a (.pointer y)):=by
 rw [run_callFunc_extern hf hname hb hn he]
 change (Sem.run P (do
  store (← asAddr (.pointer (some a))) (.pointer y) .atomic
  pure Extern.Atomic.none_) w).andThen _=_
 simp [asAddr,hc,hz,run_store P w a (.pointer y) .atomic rfl,Result.andThen,Extern.Atomic.none_]
section
variable {P:Program} {n:Nat} {H:List Hl} {e:Ev} {C:Value→List Hl→Prop} {ty:TypeId}
variable {f:FuncId} {xs:List Operand} {ats:Array TypeId} {b i:Nat} {T:TypeId} {cs:List Value} {H':List Hl} {y:Option Addr}
theorem o1_xloadp (x:XFn P f (Extern.Atomic.loadT .ptr)) (hxs:opds e xs=some [.pointer (some ⟨b,i,none⟩)]) [s:SBox H b T cs H'] (hv:cs[i]?=some (.pointer y)) (h:C (.pointer y) H):O1 P (.call ⟨.value (.func f),xs.toArray,ats⟩) ty n e H C :=
 b6F _ hxs (fun a w ho=>by
  obtain ⟨fn,h1,h2,h3,h4,h5⟩:=x.of
  have hc:=ho.sat.cell s.s i
  rw [hv] at hc
  exact run_call_loadp h1 h2 h3 h4 h5 hc) h
theorem o1_xstorep (x:XFn P f Extern.Atomic.storeT) (hxs:opds e xs=some [.pointer (some ⟨b,i,none⟩),.pointer y]) [s:SBox H b T cs H'] (hi:i<cs.length) (h:C (.tuple #[]) (.box b T (cs.set i (.pointer y))::H')):O1 P (.call ⟨.value (.func f),xs.toArray,ats⟩) ty n e H C :=
 b8U hxs hi (fun a w ho hc hz=>by
  obtain ⟨fn,h1,h2,h3,h4,h5⟩:=x.of
  exact run_call_storep h1 h2 h3 h4 h5 hc hz) h
theorem o1_to_unsafe {src dst u:TypeId} {x:Operand} (hs:P.underlying src=some (.pointer u)) (hd:P.underlying dst=some .unsafePointer) (hsz:(P.info? u).map (fun i=>decide (i.size=0))=some false) {v:Value} (hx:opd e x=some (.pointer (some ⟨b,i,none⟩))) [s:SBox H b T cs H'] (hv:cs[i]?=some v) (h:C (.pointer (some ⟨b,i,none⟩)) H):O1 P (.convert src dst x) ty n e H C :=
 a1U _ (fun a w ho=>by
  have hc:=ho.sat.cell s.s i
  rw [hv] at hc
  simp [execOp,ho.ev.eval hx,run_convert_to_unsafe hs hd hsz hc]) h
theorem o1_to_unsafe_nil {src dst u:TypeId} {x:Operand} (hs:P.underlying src=some (.pointer u)) (hd:P.underlying dst=some .unsafePointer) (hx:opd e x=some (.pointer none)) (h:C (.pointer none) H):O1 P (.convert src dst x) ty n e H C :=
 a1U _ (fun a w ho=>by simp [execOp,ho.ev.eval hx,run_to_unsafe_nil hs hd]) h
theorem o1_from_unsafe_nil {src dst u:TypeId} {x:Operand} (hs:P.underlying src=some .unsafePointer) (hd:P.underlying dst=some (.pointer u)) (hx:opd e x=some (.pointer none)) (h:C (.pointer none) H):O1 P (.convert src dst x) ty n e H C :=
 a1U _ (fun a w ho=>by simp [execOp,ho.ev.eval hx,run_from_unsafe_nil hs hd]) h
theorem shape_box {w:World} {T:TypeId} (h:w.heap[b]?=some (.cells cs.toArray T (0,0))):w.shape? b=some (T,cs.length):=by
 simp [World.shape?,h]
theorem o1_from_unsafe {src dst u:TypeId} {x:Operand} (hs:P.underlying src=some .unsafePointer) (hd:P.underlying dst=some (.pointer u)) (hi:(P.info? u).isSome=true) (hx:opd e x=some (.pointer (some ⟨b,0,none⟩))) [s:SBox H b T cs H'] (hl:liesAt P P.depth T (cs.length / P.cellsOf T) 0 u 1=true) (h:C (.pointer (some ⟨b,0,none⟩)) H):O1 P (.convert src dst x) ty n e H C :=
 a1U _ (fun a w ho=>by
  obtain ⟨inf,hinf⟩:=Option.isSome_iff_exists.1 hi
  have hsh:=shape_box (ho.sat.cells s.s)
  simp [execOp,ho.ev.eval hx,run_from_unsafe hs hd hinf (a:=⟨b,0,none⟩) hsh hl]) h
end
theorem digits_B:∀ (n t:Nat) (acc:Array Value),∃ ys:List (BitVec 8),ys.length=n∧(Extern.BytealgMakeNoZero.digits n t acc).toList=acc.toList++ys.map B
 | 0,_,acc=>⟨[],rfl,by simp [Extern.BytealgMakeNoZero.digits]⟩
 | n+1,t,acc=>by
  obtain ⟨ys,h1,h2⟩:=digits_B n (t / 256) (acc.push (.int .u8 (Int.ofNat (t % 256))))
  refine ⟨BitVec.ofNat 8 t::ys,by simp [h1],?_⟩
  rw [Extern.BytealgMakeNoZero.digits,h2]
  simp only [Array.toList_push,List.append_assoc,List.singleton_append,List.map_cons]
  congr 3
theorem run_mkz {P:Program} (w:World) (ps:Array TypeId) (t e:TypeId) (ht:P.underlying t=some (.slice e)) (n:Nat) (hn:n≤281474976710656) :
  ∃ ys:List (BitVec 8),(Extern.BytealgMakeNoZero.makeNoZero ps #[t] #[.int .i64 n]).run P w = .ok (.slice (some ⟨w.heap.size,0,none⟩) n ys.length) (w.drew.drew.alloc (.cells (ys.map B).toArray e))∧n≤ys.length∧ys.length≤9223372036854775807:=by
 have hdef:Extern.BytealgMakeNoZero.makeNoZero ps #[t] #[.int .i64 n] =
   (do
    let .slice elem ← underlying t|stuck "bytealg.MakeNoZero: slice type expected"
    if (n:Int)<0 || (n:Int) > 2 ^ 48 then runtimePanic (.error "makeslice: len out of range")
    let cap ← choose (.appendCap (n:Int).toNat 0 elem)
    askRoom cap
    let bytes ← choose (.extern "internal/bytealg.MakeNoZero.bytes" 0)
    let a ← newRow elem (Extern.BytealgMakeNoZero.digits cap bytes #[])
    pure (.slice (some a) (n:Int).toNat cap)):=rfl
 obtain ⟨ys,h1,h2⟩:=digits_B (grownCap w n 0 e) ((Question.extern "internal/bytealg.MakeNoZero.bytes" 0).cut (w.tape (w.drawn+1) (.extern "internal/bytealg.MakeNoZero.bytes" 0))) #[]
 refine ⟨ys,?_,?_,?_⟩
 ·have he:(ys.map B).toArray=Extern.BytealgMakeNoZero.digits (grownCap w n 0 e) ((Question.extern "internal/bytealg.MakeNoZero.bytes" 0).cut (w.tape (w.drawn+1) (.extern "internal/bytealg.MakeNoZero.bytes" 0))) #[]:=by
   apply Array.toList_inj.1
   simp only [List.nil_append] at h2
   rw [h2]
  rw [hdef,he,h1]
  have h3 : ¬ (n:Int)<0:=by omega
  have h4 : ¬ (281474976710656:Int)<(n:Int):=by omega
  simp [run_underlying ht,h3,h4,Question.forced,newRow,grownCap]
 ·rw [h1]
  exact grownCap_ge w n 0 e
 ·rw [h1]
  exact grownCap_le_maxLen w n 0 e (by show n≤9223372036854775807;omega)
section
variable {P:Program} {n:Nat} {H:List Hl} {e:Ev} {C:Value→List Hl→Prop} {ty:TypeId} {x y:Operand}
theorem o1_mkz {f:FuncId} {xs:List Operand} {ats:Array TypeId} {ps:Array TypeId} {t E:TypeId} {k:Nat} (xf:XFn P f (Extern.BytealgMakeNoZero.makeNoZero ps #[t])) [ht:TSl P t E] (hk:k≤281474976710656) (hxs:opds e xs=some [.int .i64 k])
  (h:∀ b (zs:List (BitVec 8)),k≤zs.length→zs.length≤9223372036854775807→C (.slice (some ⟨b,0,none⟩) k zs.length) (.box b E (zs.map B)::H)):O1 P (.call ⟨.value (.func f),xs.toArray,ats⟩) ty n e H C :=
 a6E fun a w ho=>by
  obtain ⟨fn,h1,h2,h3,h4,h5⟩:=xf.of
  obtain ⟨ys,hr,hl,hm⟩:=run_mkz (P:=P) w ps t E ht.u k hk
  have hargs:=ho.ev.evals hxs
  exact ⟨_,w.drew.drew.alloc (.cells (ys.map B).toArray E),by simp [execOp,resolve,invoke,Deferred.ofValue,Act.eval,hargs,run_callFunc_extern h1 h2 h3 h4 h5,hr,Result.andThen],_,h w.heap.size ys hl hm,(((Ext.refl w).drew).drew).alloc _,ho.sat.drew.drew.alloc E (ys.map B)⟩
theorem rx_boxk {α:Type} {H':List Hl} {T:TypeId} {enc:α→Value} {b c:Nat} {l xs:List α} [s:SBox H b T (l.map enc) H'] (k:Nat) (hk:k≤l.length) (hl:l.take k=xs) (hc:k≤c) (hb:c≤9223372036854775807):RsH H enc (some ⟨b,0,none⟩) c xs:=fun hh=>by
 subst hl
 refine ⟨by simp;omega,hb,fun _=>⟨_,rfl⟩,fun w hw a ha i x hx=>?_⟩
 obtain rfl:=Option.some.inj ha
 rw [List.getElem?_take] at hx
 split at hx
 ·have hv:(l.map enc)[i]?=some (enc x):=by rw [List.getElem?_map,hx];rfl
  have:=(a1M (H:=H) (b:=b) hv).cell w hw
  rw [show Addr.add ⟨b,0,none⟩ i=⟨b,i,none⟩ by by_cases h0:i=0 <;> simp [Addr.add,h0]]
  exact this
 ·cases hx
theorem putL_at {α:Type} (enc:α→Value) (xs ys:List α) (o:Nat) (h:o+ys.length≤xs.length):putL (xs.map enc) o (ys.map enc)=(xs.take o++(ys++xs.drop (o+ys.length))).map enc:=by
 have:=b8N enc ys (xs.drop o) (xs.take o) (by simp;omega)
 rw [List.take_append_drop,List.length_take,Nat.min_eq_left (by omega),List.drop_drop] at this
 exact this
theorem ox_copy_at {α:Type} {enc:α→Value} {T T2 E:TypeId} {z:Value} {by_:Nat} {b o m0 l0 c0 c:Nat} {ad:Option Addr} {xs ys:List α} {H':List Hl} [ht:TSl P T E] [hi:TInf P E z 1 by_] (hx:opd e x=some (.slice (some ⟨b,o,none⟩) m0 c0)) (hy:opd e y=some (.slice ad l0 c))
  [s:SBox H b E (xs.map enc) H'] (hm:o+m0≤xs.length) (hr:RsH H enc ad c ys) (hl:l0=ys.length) (henc:∀ x,(enc x).oneCell'=true)
  (h:C (.int .i64 (min ys.length m0:Nat)) (.box b E ((xs.take o++(ys.take m0++xs.drop (o+min ys.length m0))).map enc)::H')):O1 P (.call ⟨.builtin .copy, #[x,y], #[T,T2]⟩) ty n e H C :=
 a6E fun a w ho=>by
  subst hl
  obtain ⟨i,hi0,hiz,his,hib⟩:=hi.info
  have hr:=hr ho.has
  cases ad with
  | none =>
   have hn:ys=[]:=by
    rcases ys with _|⟨q,ys⟩
    ·rfl
    ·obtain ⟨a,ha⟩:=hr.sm (by simp);cases ha
   subst hn
   refine ⟨_,w,?_,_,h,.refl w,?_⟩
   ·simp [execOp,resolve,invoke,builtin,ho.ev.eval hx,ho.ev.eval hy,Builtin.copy_,run_underlying ht.u,Builtin.lenOf,Builtin.firstCells,sizeOf,typeInfo,hi0,storeCells,goInt]
   ·simpa using a7G ho.sat s.s
  | some p =>
   have hl:=run_loadCells_list (P:=P) w p ((ys.take m0).map enc) (fun j v hj=>by
    simp only [List.getElem?_map,Option.map_eq_some_iff] at hj
    obtain ⟨u,hu,rfl⟩:=hj
    rw [List.getElem?_take] at hu
    split at hu
    ·exact hr.cell w ho.sat p rfl j u hu
    ·cases hu)
   obtain ⟨w',hst,hx',hsat⟩:=a4J (P:=P) (i0:=o) ((ys.take m0).map enc) 0 (xs.map enc) w (a7G ho.sat s.s) (by simp;omega) (by
    intro v hv
    obtain ⟨u,_,rfl⟩:=List.mem_map.1 hv
    exact henc u)
   rw [Nat.add_zero,putL_at enc xs (ys.take m0) o (by simp;omega)] at hsat
   have hd:(ys.take m0).length=min ys.length m0:=by simp [Nat.min_comm]
   rw [hd] at hsat
   have hlen:((ys.take m0).map enc).length=min ys.length m0:=by simp [Nat.min_comm]
   rw [hlen] at hl
   rw [List.map_take] at hst
   refine ⟨_,w',?_,_,h,hx',hsat⟩
   simp [execOp,resolve,invoke,builtin,ho.ev.eval hx,ho.ev.eval hy,Builtin.copy_,run_underlying ht.u,Builtin.lenOf,Builtin.firstCells,sizeOf,typeInfo,hi0,his,hl,hst,goInt]
end
theorem Spec.imp {P:Program} {f:FuncId} {args:List Value} {H:List Hl} {X:Type} {good:X→Prop} {val:X→Value} {res res':X→List Hl} (h:Spec P f args H good val res) (g:∀ x,good x→∀ hp,stars (res x) hp→stars (res' x) hp):Spec P f args H good val res' :=
 ⟨h.enters,fun w hs=>(h.calls w hs).mono fun e w' ⟨x,hg,he,hx,hsat⟩=>⟨x,hg,he,hx,hsat.mono (g x hg)⟩⟩
open Go.RowKit Go.Proofs
def rtD34_0:List Row:=[tR 1 [] [],tR 2 [] [],tR 3 [1] [1],tR 4 [2] [1,2],tR 5 [3] [1,2,3],tR 6 [] [],tR 7 [5] [5],tR 8 [6] [5,6],tR 9 [7] [5,6,7],tR 10 [] [],tR 11 [9] [9],tR 12 [10] [9,10],tR 13 [11] [9,10,11],tR 14 [12] [9,10,11,12],tR 15 [8,13] [5,6,7,8,9,10,11,12,13],tR 16 [4,14,14] [1,2,3,4,5,6,7,8,9,10,11,12,13,14],tR 17 [0,0,1,2,3,4,5,6,7,8,9,10,11,12,13,14,15] (rG 16),tR 18 [16,0,1,2,3,4,5,6,7,8,9,10,11,12,13,14,15] (rG 17),⟨none,[17,15,15,0,1,2,3,4,5,6,7,8,9,10,11,12,13,14,15],[0,1,2,3,4,5,6,7,8,9,10,11,12,13,14,15,16,17],none⟩]
abbrev cdC (p:Prm) (ia:Option Addr) (il ic:Nat) (o:BitVec 32) (k:Int) (l:Value):List Value:=[W4 p.s,I p.k,I p.p,I p.z,.slice ia il ic,W4 o,K4 k,W4 0#32,l]
abbrev cdB (cb:Nat) (p:Prm) (ia:Option Addr) (il ic:Nat) (o:BitVec 32) (k:Int) (l:Value):Hl := .box cb 160 (cdC p ia il ic o k l)
theorem split_ok {ls:List (SlD (BitVec 8))} {im:List (BitVec 8)} {n z:Nat} (h:ls.map (·.l)=piecesL im n z):okP n z ls=true:=by
 have hl:ls.length=n:=by have:=congrArg List.length h;simpa [piecesL] using this
 have hz:∀ s∈ls,s.l.length=z:=fun s hs=>by
  have:s.l∈piecesL im n z:=by rw [←h];exact List.mem_map.2 ⟨s,hs,rfl⟩
  obtain ⟨i,hi,he⟩:=List.mem_map.1 this
  rw [←he]
  refine pieceL_len _ _ _ _ (Nat.mul_le_mul_right z ?_)
  have:=List.mem_range.1 hi
  omega
 unfold okP
 rw [Bool.and_eq_true,decide_eq_true_eq,Bool.not_eq_true',List.any_eq_false]
 refine ⟨by rw [hl],fun s hs=>?_⟩
 have:=hz s hs
 simp [oddB,this]
theorem cd_fill (H:List Hl) (cb v:Nat) (p:Prm) (ia:Option Addr) (ic:Nat) (im:List (BitVec 8)) (hp:p.ok) (hl:count im.length p.z=p.k) (hi:Rs (stars H) B ia ic im) :
  Spec Tryz.prog 132 [.pointer (some ⟨v,0,none⟩)] (cdB cb p ia im.length ic 0#32 1 (.slice none 0 0) :: .box v 92 [.pointer (some ⟨cb,0,none⟩)]::H) (fun r:Option Addr × Nat × List (SlD (BitVec 8))=>r.2.2.map (·.l)=allP p.s p.k p.p p.z (piecesL im p.k p.z)) (fun _ => .tuple #[])
   (fun r=>cdB cb p ia im.length ic 0#32 1 (.slice r.1 r.2.2.length r.2.1) :: .box v 92 [.pointer (some ⟨cb,0,none⟩)] :: .row 22 1 (.slice r.1 r.2.2.length r.2.1) r.2.2.length (r.2.2.map Bs) :: .any (pcs 5 r.2.2)::H):=by
 refine sF (res:=fun r:Option Addr × Nat × List (SlD (BitVec 8))=>[cdB cb p ia im.length ic 0#32 1 (.slice r.1 r.2.2.length r.2.1),.box v 92 [.pointer (some ⟨cb,0,none⟩)],.row 22 1 (.slice r.1 r.2.2.length r.2.1) r.2.2.length (r.2.2.map Bs),.any (pcs 5 r.2.2)]) [cdB cb p ia im.length ic 0#32 1 (.slice none 0 0),.box v 92 [.pointer (some ⟨cb,0,none⟩)]] H Tryz.func132 Tryz.ntmps132 fun W=>?_
 dsimp only [cA,nA]
 obtain ⟨p1,p2,p3,p4,p5⟩:=hp.out
 refine a0H [(0,_)] rtD34_0 [14,15,18] [⟨[0,1,2,3,4,5,6,7,8,9,10,11,12,13],[],some 14⟩,⟨[],[0,1,2,3,4],some 15⟩,⟨[16,17],[0],some 18⟩,⟨[],[],none⟩] mixed cv (by kernel_rfl) (by kernel_rfl) ?_
 repeat' (first|intro _|refine sg ?_|(refine a1E ?_;refine po (by first|refine a0F (b:=v) (i:=0) rfl rfl fz|refine a0F (b:=cb) (i:=4) rfl rfl fz|refine a0F (b:=cb) (i:=3) rfl rfl fz|fail) ?_)|refine pw ?_|refine pdd ?_|(refine k_fn 134 ?_;(refine a0A (fun _=>block_Split _ ia ic im p.k p.z hi.up hl (by omega)) rfl (fun ⟨a1,c1,ls⟩ hls=>?_);dsimp only at hls ⊢))|(refine k_fn 133 ?_;(refine a0A (fun hh=>precode_Pieces _ p.s p.k p.p p.z a1 c1 ls (a0I hh) (fun s hs=>b5D (T:=5) (ls:=ls) hs hh) hp (split_ok hls)) rfl (fun ⟨a2,c2,qs⟩ hqs=>?_);(dsimp only at hqs ⊢;rw [hls] at hqs)))|(refine a1N ?_;refine a1R (b:=cb) (i:=8) rfl rfl (by decide) rfl rfl ?_)|refine ow ?_|fail)
 all_goals dsimp only [cA,nA]
 repeat' (first|intro _|refine wK ?_|refine wL ?_ ?_|fail)
 refine a4I (a2,c2,qs) rfl rfl hqs ?_
 exact ent
def selS (qs:List (SlD (BitVec 8))) (v:List Bool):List (SlD (BitVec 8)):=(placesN (at_ v) v.length).map (fun k=>qs.getD k ⟨none,0,[]⟩)
theorem c1Z {qs:List (SlD (BitVec 8))} {v:List Bool} {n j:Nat} (hv:v.length=n) (hq:qs.length=n) (hj:j<(listV v).length):∃ k:Nat,(listV v)[j]=(k:Int)∧∃ hk:k<qs.length,qs[k]=(selS qs v)[j]'(by rw [selS,List.length_map];simpa [listV] using hj):=by
 have hj2:j<(placesN (at_ v) v.length).length:=by simpa [listV] using hj
 have hm:=(listV_mem (l:=v) (i:=(listV v)[j])).1 (List.getElem_mem _)
 have he:(listV v)[j]=((placesN (at_ v) v.length)[j]:Int):=by simp [listV]
 rw [he] at hm
 have hk:(placesN (at_ v) v.length)[j]<qs.length:=by omega
 refine ⟨_,he,hk,?_⟩
 simp [selS,hk]
theorem b4Z {qs:List (SlD (BitVec 8))} {v:List Bool} {n:Nat} (hv:v.length=n) (hq:qs.length=n):∀ s∈selS qs v,s∈qs:=fun s hs=>by
 obtain ⟨j,hj,rfl⟩:=List.mem_iff_getElem.1 hs
 have hj2:j<(listV v).length:=by simpa [listV,selS] using hj
 obtain ⟨k,hk,hkl,hks⟩:=c1Z hv hq hj2
 rw [←hks]
 exact List.getElem_mem _
def symD (L:List (List (BitVec 8))) (v:List Bool):List (BitVec 8):=sumB ((placesN (at_ v) v.length).map (fun k=>⟨none,0,L.getD k []⟩))
theorem accL_congr {n:Nat}:∀ (i:Nat) (ls ls':List (SlD (BitVec 8))),ls.map (·.l)=ls'.map (·.l)→accL n ls i=accL n ls' i:=fun i ls ls' h=>by
 unfold accL
 rw [←List.foldl_map (f:=fun s:SlD (BitVec 8)=>s.l),←List.foldl_map (f:=fun s:SlD (BitVec 8)=>s.l),List.map_take,List.map_take,h]
theorem sumB_congr {ls ls':List (SlD (BitVec 8))} (h:ls.map (·.l)=ls'.map (·.l)):sumB ls=sumB ls':=by
 have hlen:ls.length=ls'.length:=by have:=congrArg List.length h;simpa using this
 cases ls with
 | nil=>cases ls' with
  | nil=>rfl
  | cons x l=>simp at hlen
 | cons x l=>cases ls' with
  | nil=>simp at hlen
  | cons x' l' =>
   have hx:x.l=x'.l:=by have:=h;simp only [List.map_cons,List.cons.injEq] at this;exact this.1
   have hall:(∀ s∈x::l,s.l.length=x.l.length)↔(∀ s∈x'::l',s.l.length=x'.l.length):=by
    have e1:∀ (L:List (SlD (BitVec 8))) (m:Nat),(∀ s∈L,s.l.length=m)↔∀ y∈L.map (·.l),y.length=m:=fun L m=>⟨fun q y hy=>by obtain ⟨s,hs,rfl⟩:=List.mem_map.1 hy;exact q s hs,fun q s hs=>q _ (List.mem_map.2 ⟨s,hs,rfl⟩)⟩
    rw [e1,e1,h,hx]
   show (if ∀ s∈x::l,s.l.length=x.l.length then accL x.l.length (x::l) (x::l).length else [])=(if ∀ s∈x'::l',s.l.length=x'.l.length then accL x'.l.length (x'::l') (x'::l').length else [])
   rw [hx] at hall ⊢
   rw [hlen]
   by_cases q:∀ s∈x'::l',s.l.length=x'.l.length
   ·rw [if_pos q,if_pos (hall.2 q),accL_congr _ _ _ h]
   ·rw [if_neg q,if_neg (fun w=>q (hall.1 w))]
theorem symD_sel {qs:List (SlD (BitVec 8))} {v:List Bool} {n:Nat} (hv:v.length=n) (hq:qs.length=n):sumB (selS qs v)=symD (qs.map (·.l)) v:=by
 refine sumB_congr ?_
 rw [selS,List.map_map,List.map_map]
 refine List.map_congr_left fun k hk=>?_
 have hm:=(listV_mem (l:=v) (i:=(k:Int))).1 (by rw [listV];exact List.mem_map.2 ⟨k,hk,rfl⟩)
 have hkl:k<qs.length:=by omega
 simp [hkl]
theorem cd_pieces_0 (H:List Hl) (cb:Nat) (p:Prm) (ia:Option Addr) (ic:Nat) (im:List (BitVec 8)) (hp:p.ok) (hl:count im.length p.z=p.k) (hi:Rs (stars H) B ia ic im) :
  Spec Tryz.prog 84 [.pointer (some ⟨cb,0,none⟩)] (cdB cb p ia im.length ic 0#32 0 (.slice none 0 0)::H) (fun r:Option Addr × Nat × List (SlD (BitVec 8))=>r.2.2.map (·.l)=allP p.s p.k p.p p.z (piecesL im p.k p.z)) (fun r => .slice r.1 r.2.2.length r.2.1)
   (fun r=>cdB cb p ia im.length ic 1#32 0 (.slice r.1 r.2.2.length r.2.1) :: .row 22 1 (.slice r.1 r.2.2.length r.2.1) r.2.2.length (r.2.2.map Bs) :: .any (pcs 5 r.2.2)::H):=by
 refine sF (res:=fun r:Option Addr × Nat × List (SlD (BitVec 8))=>[cdB cb p ia im.length ic 1#32 0 (.slice r.1 r.2.2.length r.2.1),.row 22 1 (.slice r.1 r.2.2.length r.2.1) r.2.2.length (r.2.2.map Bs),.any (pcs 5 r.2.2)]) [cdB cb p ia im.length ic 0#32 0 (.slice none 0 0)] H Tryz.func84 Tryz.ntmps84 fun W=>?_
 dsimp only [cA,nA]
 repeat' (first|intro _|(refine k_box ?_;refine a1V rfl rfl (fun v=>?_))|(refine a0K ?_;first|refine a0F (b:=v) (i:=0) rfl rfl ?_|refine a0F (b:=cb) (i:=8) rfl rfl ?_)|(refine k_fn 131 ?_;refine a0G (b:=cb) (fun hh=>on_Do _ cb 5 _ (cdC p ia im.length ic 0#32 0 (.slice none 0 0)) 132 [.pointer (some ⟨v,0,none⟩)] rfl rfl (cd_fill _ cb v p ia ic im hp hl hi.up) (fun _ _=>rfl)) rfl (fun ⟨aq,cq,qs⟩ hqs=>?_))|refine b6K rfl ?_|refine wK ?_|refine wL ?_ ?_|fail)
 refine a0E (aq,cq,qs) rfl rfl rfl hqs ?_
 exact ent
theorem cd_pieces_1 (H:List Hl) (cb:Nat) (l:Value) (h5:Cl (stars H) ⟨cb,5,none⟩ (W4 1#32)) (h8:Cl (stars H) ⟨cb,8,none⟩ l) :
  Spec Tryz.prog 84 [.pointer (some ⟨cb,0,none⟩)] H (fun _:Unit=>True) (fun _=>l) (fun _=>H):=by
 refine sP (res:=fun _=>[]) H Tryz.func84 Tryz.ntmps84 fun W=>?_
 repeat' (first|intro _|(refine k_box ?_;refine a1V rfl rfl (fun v=>?_))|(refine a0K ?_;first|refine a0F (b:=v) (i:=0) rfl rfl ?_|refine a0L rfl h8 ?_)|(refine k_fn 131 ?_;refine a0A (fun hh=>on_Do_done _ cb 5 132 [.pointer (some ⟨v,0,none⟩)] (cl_up h5)) rfl (fun _ _=>?_))|refine b6K rfl ?_|refine wK ?_|refine wL ?_ ?_|fail)
 refine a0E () rfl rfl rfl trivial ?_
 exact ent
theorem b9Z {s:BitVec 32} {K P z:Nat} {im:List (BitVec 8)}:∀ y∈allP s K P z (piecesL im K z),y.length=z:=fun y hy=>by
 rcases List.mem_append.1 hy with h|h
 ·obtain ⟨i,hi,rfl⟩:=List.mem_map.1 h
  refine pieceL_len _ _ _ _ (Nat.mul_le_mul_right z ?_)
  have:=List.mem_range.1 hi
  omega
 ·obtain ⟨j,_,rfl⟩:=List.mem_map.1 h
  rw [←sumT_all,b2J]
theorem c2Q {s:BitVec 32} {K P z:Nat} {im:List (BitVec 8)}:(allP s K P z (piecesL im K z)).length=K+P:=by simp [allP,piecesL]
abbrev pieA (p:Prm) (im:List (BitVec 8)):List (List (BitVec 8)):=allP p.s p.k p.p p.z (piecesL im p.k p.z)
theorem cd_Symbol_0 (H:List Hl) (cb:Nat) (p:Prm) (ia:Option Addr) (ic:Nat) (im:List (BitVec 8)) (id:BitVec 32) (v:List Bool) (hp:p.ok) (hl:count im.length p.z=p.k) (hi:Rs (stars H) B ia ic im) (hv:SpRow p id v) (ht:TabF (stars H)) :
  Spec Tryz.prog 41 [.pointer (some ⟨cb,0,none⟩),W4 id] (cdB cb p ia im.length ic 0#32 0 (.slice none 0 0)::H) (fun r:(Option Addr × Nat) × (Option Addr × Nat × List (SlD (BitVec 8)))=>r.2.2.2.map (·.l)=pieA p im) (fun r => .slice r.1.1 (symD (pieA p im) v).length r.1.2) (fun r => .row 5 1 (.slice r.1.1 (symD (pieA p im) v).length r.1.2) (symD (pieA p im) v).length ((symD (pieA p im) v).map B)::cdB cb p ia im.length ic 1#32 0 (.slice r.2.1 r.2.2.2.length r.2.2.1) :: .row 22 1 (.slice r.2.1 r.2.2.2.length r.2.2.1) r.2.2.2.length (r.2.2.2.map Bs) :: .any (pcs 5 r.2.2.2)::H):=by
 refine sF (res:=fun r:(Option Addr × Nat) × (Option Addr × Nat × List (SlD (BitVec 8)))=>[.row 5 1 (.slice r.1.1 (symD (pieA p im) v).length r.1.2) (symD (pieA p im) v).length ((symD (pieA p im) v).map B),cdB cb p ia im.length ic 1#32 0 (.slice r.2.1 r.2.2.2.length r.2.2.1),.row 22 1 (.slice r.2.1 r.2.2.2.length r.2.2.1) r.2.2.2.length (r.2.2.2.map Bs),.any (pcs 5 r.2.2.2)]) [cdB cb p ia im.length ic 0#32 0 (.slice none 0 0)] H Tryz.func41 Tryz.ntmps41 fun W=>?_
 dsimp only [cA,nA]
 obtain ⟨p1,p2,p3,p4,p5⟩:=hp.out
 have hvn:=hv.1
 have hn2:p.n≤256:=by show p.k+p.p≤256;omega
 repeat' (first|intro _|refine a0S rfl rfl ?_|(refine a0A (fun _=>hv.2 _) rfl (fun ⟨vb,va,vc⟩ _=>?_);(try dsimp only))|(refine k_fn 84 ?_;(refine a0G (b:=cb) (fun _=>cd_pieces_0 _ cb p ia ic im hp hl hi.up) rfl (fun ⟨aq,cq,qs⟩ hqs=>?_);dsimp only at hqs ⊢))|(refine k_fn 86 ?_;(refine a0A (fun hh=>vec_List _ ⟨vb,p.n,va,vc,v⟩ (RdV.own hvn hn2 hh)) rfl (fun ⟨la,lc⟩ _=>?_);(try dsimp only)))|refine wK ?_|refine wL ?_ ?_|fail)
 have hqn:qs.length=p.n:=by have:=congrArg List.length hqs;rw [List.length_map,c2Q] at this;exact this
 have hsum:sumB (selS qs v)=symD (pieA p im) v:=by rw [symD_sel hvn hqn,hqs]
 have hsb:∀ s∈selS qs v,s.l.length≤281474976710656:=fun s hs=>by
  have h1:s.l∈pieA p im:=(show qs.map (·.l)=pieA p im from hqs) ▸ (List.mem_map.2 ⟨s,b4Z hvn hqn s hs,rfl⟩:s.l∈qs.map (·.l))
  rw [b9Z _ h1]
  omega
 have hsl:(selS qs v).length=(listV v).length:=by rw [selS,List.length_map,listV,List.length_map]
 refine a3J (a1A 22 Bs) ?_
 refine a0Y (S:=Nat × Option Addr × Nat) (fun q=>[(5,.slice aq qs.length cq),(6,.slice q.2.1 q.1 q.2.2),(19,.slice la (listV v).length lc),(20,I (listV v).length),(21,I q.1)])
  (fun q=>[.row 22 1 (.slice q.2.1 q.1 q.2.2) q.1 (((selS qs v).take q.1).map Bs),.row 3 1 (.slice la (listV v).length lc) (listV v).length ((listV v).map I),.row 22 1 (.slice aq qs.length cq) qs.length (qs.map Bs),.any (pcs 5 qs),cdB cb p ia im.length ic 1#32 0 (.slice aq qs.length cq),.any (stars H)]) (fun q=>q.1≤(listV v).length) (fun q=>(listV v).length - q.1) (0,none,0) (Nat.zero_le _) cv (by rw [List.take_zero];exact ent) ?_
 rintro ⟨j,a1,c1⟩ hj
 dsimp only at hj ⊢
 by_cases hjt:j<(listV v).length
 ·obtain ⟨k,hk,hkl,hks⟩:=c1Z (qs:=qs) (v:=v) hvn hqn hjt
  obtain ⟨u,hu⟩:∃ u,qs[k]=u:=⟨_,rfl⟩
  have hnx:(selS qs v).take j++[u]=(selS qs v).take (j+1):=by
   rw [List.take_succ_eq_append_getElem (by omega),←hu,hks]
  have htl:((selS qs v).take j).length=j:=by rw [List.length_take];omega
  have h256:(listV v).length≤256:=by rw [listV_len];exact Nat.le_trans (c2P _ _) (by omega)
  repeat' (first|intro _|(refine a0J ?_;first|refine a2B (enc:=I) (ad:=la) (c:=lc) (xs:=listV v) j rfl rfl (a0I (T:=3)) rfl rfl hjt ?_|refine a2B (enc:=Bs) (ad:=aq) (c:=cq) (xs:=qs) k rfl rfl (a0I (T:=22)) rfl rfl hkl ?_)|(refine a0K ?_;first|(refine a1P (enc:=I) (ad:=la) (c:=lc) (xs:=listV v) j rfl (a0I (T:=3)) hjt ?_;rw [hk])|(refine a1P (enc:=Bs) (ad:=aq) (c:=cq) (xs:=qs) k rfl (a0I (T:=22)) hkl ?_;rw [hu]))|(refine a0P ?_;refine a0O Bs [u] rfl rfl rfl (fun _=>rfl) rfl rfl rfl (fun _=>?_))|(refine a1S ?_;(refine a1H (ad:=a1) (c:=c1) (xs:=(selS qs v).take j) (ys:=[u]) rfl rfl (a2H rfl (by decide)) rfl rfl (fun _=>rfl) (by omega) (by omega) (fun a9 c9=>?_);rw [hnx]))|refine wK ?_|refine wL ?_ ?_|fail)
  refine a0Q (j+1,a9,c9) (by show j+1≤(listV v).length;omega) (by show (listV v).length - (j+1)<(listV v).length - j;omega) cv ?_
  exact ent
 ·have:j=(selS qs v).length:=by omega
  subst this
  rw [List.take_length]
  repeat' (first|intro _|(refine k_fn 87 ?_;(refine a0A (fun hh=>block_Sum _ a1 c1 (selS qs v) (a0I (T:=22) (ad:=a1) (c:=c1) (l:=selS qs v) hh) (fun s hs=>b5D (T:=5) (ls:=qs) (b4Z hvn hqn s hs) hh) (fun s hs=>hsb s hs)) rfl (fun ⟨a34,c34⟩ _=>?_);(try dsimp only);rw [hsum]))|refine wK ?_|refine wL ?_ ?_|fail)
  refine a0E ((a34,c34),aq,cq,qs) rfl rfl rfl hqs ?_
  exact ent
theorem cd_Symbol_1 (H:List Hl) (cb:Nat) (p:Prm) (ia:Option Addr) (il ic:Nat) (im:List (BitVec 8)) (id:BitVec 32) (v:List Bool) (aq:Option Addr) (cq:Nat) (qs:List (SlD (BitVec 8))) (hp:p.ok) (hv:SpRow p id v) (ht:TabF (stars H)) (hq:Rs (stars H) Bs aq cq qs) (hpc:∀ s∈qs,Rs (stars H) B s.ad s.cap s.l) (hqs:qs.map (·.l)=pieA p im) :
  Spec Tryz.prog 41 [.pointer (some ⟨cb,0,none⟩),W4 id] (cdB cb p ia il ic 1#32 0 (.slice aq qs.length cq)::H) (fun _:Option Addr × Nat=>True) (fun r => .slice r.1 (symD (pieA p im) v).length r.2) (fun r => .row 5 1 (.slice r.1 (symD (pieA p im) v).length r.2) (symD (pieA p im) v).length ((symD (pieA p im) v).map B)::cdB cb p ia il ic 1#32 0 (.slice aq qs.length cq)::H):=by
 refine sF (res:=fun r:Option Addr × Nat=>[.row 5 1 (.slice r.1 (symD (pieA p im) v).length r.2) (symD (pieA p im) v).length ((symD (pieA p im) v).map B),cdB cb p ia il ic 1#32 0 (.slice aq qs.length cq)]) [cdB cb p ia il ic 1#32 0 (.slice aq qs.length cq)] H Tryz.func41 Tryz.ntmps41 fun W=>?_
 dsimp only [cA,nA]
 obtain ⟨p1,p2,p3,p4,p5⟩:=hp.out
 have hvn:=hv.1
 have hn2:p.n≤256:=by show p.k+p.p≤256;omega
 have hqn:qs.length=p.n:=by have:=congrArg List.length hqs;rw [List.length_map,c2Q] at this;exact this
 have hsum:sumB (selS qs v)=symD (pieA p im) v:=by rw [symD_sel hvn hqn,hqs]
 have hsb:∀ s∈selS qs v,s.l.length≤281474976710656:=fun s hs=>by
  have h1:s.l∈pieA p im:=(show qs.map (·.l)=pieA p im from hqs) ▸ (List.mem_map.2 ⟨s,b4Z hvn hqn s hs,rfl⟩:s.l∈qs.map (·.l))
  rw [b9Z _ h1]
  omega
 repeat' (first|intro _|refine a0S rfl rfl ?_|(refine a0A (fun _=>hv.2 _) rfl (fun ⟨vb,va,vc⟩ _=>?_);(try dsimp only))|(refine k_fn 84 ?_;refine a0A (fun _=>cd_pieces_1 _ cb (.slice aq qs.length cq) (a1M rfl) (a1M rfl)) rfl (fun _ _=>?_))|(refine k_fn 86 ?_;(refine a0A (fun hh=>vec_List _ ⟨vb,p.n,va,vc,v⟩ (RdV.own hvn hn2 hh)) rfl (fun ⟨la,lc⟩ _=>?_);(try dsimp only)))|refine wK ?_|refine wL ?_ ?_|fail)
 have hsl:(selS qs v).length=(listV v).length:=by rw [selS,List.length_map,listV,List.length_map]
 refine a3J (a1A 22 Bs) ?_
 refine a0Y (S:=Nat × Option Addr × Nat) (fun q=>[(5,.slice aq qs.length cq),(6,.slice q.2.1 q.1 q.2.2),(19,.slice la (listV v).length lc),(20,I (listV v).length),(21,I q.1)])
  (fun q=>[.row 22 1 (.slice q.2.1 q.1 q.2.2) q.1 (((selS qs v).take q.1).map Bs),.row 3 1 (.slice la (listV v).length lc) (listV v).length ((listV v).map I),cdB cb p ia il ic 1#32 0 (.slice aq qs.length cq),.any (stars H)]) (fun q=>q.1≤(listV v).length) (fun q=>(listV v).length - q.1) (0,none,0) (Nat.zero_le _) cv (by rw [List.take_zero];exact ent) ?_
 rintro ⟨j,a1,c1⟩ hj
 dsimp only at hj ⊢
 by_cases hjt:j<(listV v).length
 ·obtain ⟨k,hk,hkl,hks⟩:=c1Z (qs:=qs) (v:=v) hvn hqn hjt
  obtain ⟨u,hu⟩:∃ u,qs[k]=u:=⟨_,rfl⟩
  have hnx:(selS qs v).take j++[u]=(selS qs v).take (j+1):=by
   rw [List.take_succ_eq_append_getElem (by omega),←hu,hks]
  have htl:((selS qs v).take j).length=j:=by rw [List.length_take];omega
  have h256:(listV v).length≤256:=by rw [listV_len];exact Nat.le_trans (c2P _ _) (by omega)
  repeat' (first|intro _|(refine a0J ?_;first|refine a2B (enc:=I) (ad:=la) (c:=lc) (xs:=listV v) j rfl rfl (a0I (T:=3)) rfl rfl hjt ?_|refine a2B (enc:=Bs) (ad:=aq) (c:=cq) (xs:=qs) k rfl rfl (fun _=>hq.up) rfl rfl hkl ?_)|(refine a0K ?_;first|(refine a1P (enc:=I) (ad:=la) (c:=lc) (xs:=listV v) j rfl (a0I (T:=3)) hjt ?_;rw [hk])|(refine a1P (enc:=Bs) (ad:=aq) (c:=cq) (xs:=qs) k rfl (fun _=>hq.up) hkl ?_;rw [hu]))|(refine a0P ?_;refine a0O Bs [u] rfl rfl rfl (fun _=>rfl) rfl rfl rfl (fun _=>?_))|(refine a1S ?_;(refine a1H (ad:=a1) (c:=c1) (xs:=(selS qs v).take j) (ys:=[u]) rfl rfl (a2H rfl (by decide)) rfl rfl (fun _=>rfl) (by omega) (by omega) (fun a9 c9=>?_);rw [hnx]))|refine wK ?_|refine wL ?_ ?_|fail)
  refine a0Q (j+1,a9,c9) (by show j+1≤(listV v).length;omega) (by show (listV v).length - (j+1)<(listV v).length - j;omega) cv ?_
  exact ent
 ·have:j=(selS qs v).length:=by omega
  subst this
  rw [List.take_length]
  repeat' (first|intro _|(refine k_fn 87 ?_;(refine a0A (fun hh=>block_Sum _ a1 c1 (selS qs v) (a0I (T:=22) (ad:=a1) (c:=c1) (l:=selS qs v) hh) (fun s hs=>(hpc s (b4Z hvn hqn s hs)).up) (fun s hs=>hsb s hs)) rfl (fun ⟨a34,c34⟩ _=>?_);(try dsimp only);rw [hsum]))|refine wK ?_|refine wL ?_ ?_|fail)
  refine a0E (a34,c34) rfl rfl rfl trivial ?_
  exact ent
end Go.Dp
