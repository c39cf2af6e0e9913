/-
  Downpour, walked and proved: part 14.
  Conditions: those that stand in each theorem.
-/
import Derived.Test.YtcblcmdikhllbaaGreatDoorQTopEnough3
import Derived.Test.YtcblcmdikhllbaaGreatDoorQTopEnough13
import Derived.Test.YtcblcmdikhllbaaGreatDoorQTopEnough10
import Derived.Test.YtcblcmdikhllbaaGreatDoorQTopEnough11
import Derived.Test.YtcblcmdikhllbaaGreatDoorQTopEnough5
import Derived.Test.YtcblcmdikhllbaaGreatDoorQTopEnough9
import Derived.Test.YtcblcmdikhllbaaGreatDoorQTopEnough6
import Derived.Test.YtcblcmdikhllbaaGreatDoorQTopEnough4
set_option linter.unusedVariables false
set_option linter.unusedSimpArgs false
set_option maxHeartbeats 64000000
namespace Go.Dp
theorem copyB_eq (k:BitVec 32) (q:List (BitVec 8)):copyB k q=be4 k++(be2 (q.length:Int)++(q++be4 (crcAdd 0#32 (be4 k++(be2 (q.length:Int)++q))))):=by
 simp [copyB,crcPut]
theorem b5X {l r:List (BitVec 8)} {a n:Nat} (h:l.length≤a):seg (l++r) a n=seg r (a - l.length) n:=by
 apply List.ext_getElem?
 intro i
 rw [a1X,a1X]
 split
 ·rw [List.getElem?_append_right (by omega)]
  congr 1;omega
 ·rfl
theorem b8I {l:List (BitVec 8)} {a n m:Nat} (h:a+n≤m):seg (l.take m) a n=seg l a n:=by
 apply List.ext_getElem?
 intro i
 rw [a1X,a1X]
 split
 ·rw [List.getElem?_take,if_pos (by omega)]
 ·rfl
theorem a4B (l:List (BitVec 8)) (n:Nat):seg l 0 n=l.take n:=by simp [seg]
theorem numN_be2 {n:Nat} (h:n<65536):numN (be2 (n:Int))=n:=by
 have:=b2Z (n:Int) (by omega) (by omega)
 rw [b1X _ (by simp [be2])] at this
 omega
theorem b3N (k:BitVec 32) (q:List (BitVec 8)):(copyB k q).take 4=be4 k∧seg (copyB k q) 4 2=be2 (q.length:Int)∧seg (copyB k q) 6 q.length=q:=by
 have e:=copyB_eq k q
 refine ⟨?_,?_,?_⟩
 ·rw [e];exact List.take_left' (a4W k)
 ·rw [e,b5X (by rw [a4W];exact Nat.le_refl _),a4W]
  show seg _ 0 2=_
  rw [a4B];exact List.take_left' rfl
 ·rw [e,b5X (by rw [a4W];omega),a4W]
  show seg _ 2 _=_
  rw [b5X (by simp [be2])]
  show seg _ 0 _=_
  rw [a4B];exact List.take_left' rfl
theorem copyC_whole {S q:List (BitVec 8)} {k:BitVec 32} (hq:q.length≤245) (h1:S.take (q.length+10)=copyB k q) (h2:S.getD (q.length+10) 0#8=0#8):copyC S=some (k,q):=by
 obtain ⟨c1,c2,c3⟩:=b3N k q
 have hn:numN (seg S 4 2)=q.length:=by
  rw [←b8I (m:=q.length+10) (by omega),h1,c2,numN_be2 (by omega)]
 unfold copyC
 simp only [hn]
 rw [if_neg (by omega),if_neg (by simpa using h2),h1,if_pos (show crcOk (copyB k q)=true from b7E _)]
 have e1:S.take 4=be4 k:=by rw [←c1,←h1,List.take_take,Nat.min_eq_left (by omega)]
 have e2:seg S 6 q.length=q:=by
  have:=c3
  rw [←h1,b8I (by omega)] at this
  exact this
 rw [e1,a3F,e2]
def Dead (S:List (BitVec 8)) (k:Nat):Prop:=∀ m,m≤256→∀ c,copyC (fillB S 0 m)=some c→c.1.toNat<k
theorem fill_fill {S:List (BitVec 8)} (a b:Nat) (hS:S.length=256) (ha:a≤256) (hb:b≤256):fillB (fillB S 0 a) 0 b=fillB S 0 (max a b):=by
 apply List.ext_getElem?
 intro i
 rw [a2Z (by rw [a4F (by omega)];omega),a2Z (by omega),a2Z (by omega)]
 by_cases h1:i<b
 ·rw [if_pos (by omega),if_pos (by omega)]
 ·rw [if_neg (by omega)]
  by_cases h2:i<a
  ·rw [if_pos (by omega),if_pos (by omega)]
  ·rw [if_neg (by omega),if_neg (by omega)]
theorem Dead.fill {S:List (BitVec 8)} {k:Nat} (h:Dead S k) (hS:S.length=256) {a:Nat} (ha:a≤256):Dead (fillB S 0 a) k:=fun m hm c hc=>by
 rw [fill_fill a m hS ha hm] at hc
 exact h _ (by omega) c hc
theorem c1I {S:List (BitVec 8)} (hS:S.length=256) (h:∀ m,m≤4→(let n:=numN (seg (fillB S 0 m) 4 2);245<n∨(fillB S 0 m).getD (n+10) 0#8≠0#8)) (k:Nat):Dead S k:=fun m hm c hc=>by
 exfalso
 by_cases hm4:m≤4
 ·rcases h m hm4 with hh|hh
  ·unfold copyC at hc
   dsimp only at hc
   rw [if_pos hh] at hc;cases hc
  ·unfold copyC at hc
   dsimp only at hc
   by_cases hx:245<numN (seg (fillB S 0 m) 4 2)
   ·rw [if_pos hx] at hc;cases hc
   ·rw [if_neg hx,if_pos hh] at hc;cases hc
 ·have g4:(fillB S 0 m)[4]?=some 0xff#8:=by rw [a2Z (by omega),if_pos (by omega)]
  have hlen:(fillB S 0 m).length=256:=by rw [a4F (by omega),hS]
  have g5:∃ x,(fillB S 0 m)[5]?=some x:=⟨_,List.getElem?_eq_getElem (by omega)⟩
  obtain ⟨x,g5⟩:=g5
  have hn:=b1I g4 g5
  have:245<numN (seg (fillB S 0 m) 4 2):=by rw [hn];have:=x.isLt;simp;omega
  unfold copyC at hc
  dsimp only at hc
  rw [if_pos this] at hc;cases hc
theorem copyC_some {S q:List (BitVec 8)} {k:BitVec 32} (h:copyC S=some (k,q)):numN (seg S 4 2)≤245∧S.getD (numN (seg S 4 2)+10) 0#8=0#8∧crcOk (S.take (numN (seg S 4 2)+10))=true∧num32 (S.take 4)=k∧seg S 6 (numN (seg S 4 2))=q:=by
 unfold copyC at h
 dsimp only at h
 split at h
 ·cases h
 rename_i h1
 split at h
 ·cases h
 rename_i h2
 split at h
 ·rename_i h3
  obtain ⟨e1,e2⟩:=Prod.mk.inj (Option.some.inj h)
  exact ⟨by omega,by simpa using h2,h3,e1,e2⟩
 ·cases h
theorem crcOk_eq {l:List (BitVec 8)} (h:crcOk l=true):4≤l.length∧crcPut (l.take (l.length - 4))=l:=by
 simpa [crcOk] using h
theorem crcOk_four {a b r:List (BitVec 8)} (ha:a.length=4) (hb:b.length=4) (hr:4≤r.length) (h1:crcOk (a++r)=true) (h2:crcOk (b++r)=true):a=b:=by
 obtain ⟨_,e1⟩:=crcOk_eq h1
 obtain ⟨_,e2⟩:=crcOk_eq h2
 have t:∀ x:List (BitVec 8),x.length=4→(x++r).take ((x++r).length - 4)=x++r.take (r.length - 4):=fun x hx=>by
  rw [List.take_append,List.take_of_length_le (by simp;omega)]
  congr 2;simp;omega
 rw [t a ha] at e1
 rw [t b hb] at e2
 have f:∀ x:List (BitVec 8),x.length=4→crcPut (x++r.take (r.length - 4))=x++r→be4 (crcAdd 0#32 (x++r.take (r.length - 4)))=r.drop (r.length - 4):=fun x hx e=>by
  have e3:=congrArg (fun z=>z.drop r.length) e
  simp only [crcPut] at e3
  rw [List.drop_left' (by simp;omega)] at e3
  rw [e3,List.drop_append,List.drop_eq_nil_of_le (by omega),hx]
  rfl
 have g:=be4_inj4 ((f a ha e1).trans (f b hb e2).symm)
 have g2:crcAll (~~~ 0#32) (a++r.take (r.length - 4))=crcAll (~~~ 0#32) (b++r.take (r.length - 4)):=by
  have:=congrArg (fun z => ~~~ z) g
  simpa [crcAdd] using this
 exact crc_tells ha hb g2
theorem dead_copy {S q:List (BitVec 8)} {k:BitVec 32} (hS:S.length=256) (h:copyC S=some (k,q)) (hk:k.toNat<16777216) {j:Nat} (hj:k.toNat<j):Dead S j:=fun m hm c hc=>by
 obtain ⟨c1,c2⟩:=c
 by_cases h0:m=0
 ·subst h0
  rw [a6J,h] at hc
  obtain ⟨e1,e2⟩:=Prod.mk.inj (Option.some.inj hc)
  dsimp only
  rw [←e1];exact hj
 ·exfalso
  obtain ⟨p1,p2,p3,p4,p5⟩:=copyC_some h
  obtain ⟨r1,r2,r3,r4,r5⟩:=copyC_some hc
  have hfl:(fillB S 0 m).length=256:=by rw [a4F (by omega),hS]
  by_cases hm4:m≤4
  ·have hs:∀ a n,4≤a→seg (fillB S 0 m) a n=seg S a n:=fun a n ha=>a3M (by omega) (by omega)
   rw [hs 4 2 (by omega)] at r3
   obtain ⟨n,hn⟩:∃ n,numN (seg S 4 2)=n:=⟨_,rfl⟩
   rw [hn] at p1 p3 r3
   have sp:∀ X:List (BitVec 8),X.take (n+10)=X.take 4++seg X 4 (n+6):=fun X=>by
    rw [←a4B,←a4B,show n+10=4+(n+6) by omega,b3X]
   rw [sp] at p3 r3
   rw [hs 4 _ (by omega)] at r3
   have e:=crcOk_four (by simp;omega) (by simp;omega) (by rw [a2Q (by omega)];omega) p3 r3
   have g0:(fillB S 0 m)[0]?=some 0xff#8:=by rw [a2Z (by omega),if_pos (by omega)]
   have g1:S[0]?=some 0xff#8:=by
    have:=congrArg (fun z=>z[0]?) e
    simp only [List.getElem?_take] at this
    rw [if_pos (by omega),if_pos (by omega),g0] at this
    exact this
   obtain ⟨a,b,c,d,he⟩:∃ a b c d,S.take 4=[a,b,c,d]:=list4 (by simp;omega)
   have ha:a=0xff#8:=by
    have:(S.take 4)[0]?=some 0xff#8:=by rw [List.getElem?_take,if_pos (by omega),g1]
    rw [he] at this
    simpa using this
   have hk2:k.toNat=numN (S.take 4):=by rw [←p4,b1X _ (by simp;omega)]
   rw [he,ha] at hk2
   have:=b.isLt;have:=c.isLt;have:=d.isLt
   simp only [numN,List.foldl_cons,List.foldl_nil] at hk2
   have:(0xff#8:BitVec 8).toNat=255:=rfl
   omega
  ·have g4:(fillB S 0 m)[4]?=some 0xff#8:=by rw [a2Z (by omega),if_pos (by omega)]
   obtain ⟨x,g5⟩:∃ x,(fillB S 0 m)[5]?=some x:=⟨_,List.getElem?_eq_getElem (by omega)⟩
   have hn:=b1I g4 g5
   have:(0xff#8:BitVec 8).toNat=255:=rfl
   omega
theorem dead_blank {S:List (BitVec 8)} (hS:S=List.replicate 256 0xff#8) (k:Nat):Dead S k:=by
 refine c1I (by rw [hS];exact List.length_replicate) (fun m hm=>?_) k
 have hl:S.length=256:=by rw [hS];exact List.length_replicate
 have g:∀ i,i<256→(fillB S 0 m)[i]?=some 0xff#8:=fun i hi=>by
  rw [a2Z (by omega)]
  split
  ·rfl
  ·rw [hS,List.getElem?_replicate,if_pos hi]
 have hn:=b1I (g 4 (by omega)) (g 5 (by omega))
 have:(0xff#8:BitVec 8).toNat=255:=rfl
 left
 omega
theorem prog_get {l xs:List (BitVec 8)} {A:Nat} (hb:Blank l A 256) (hA:A+256≤l.length) (hx:xs.length≤256) (i:Nat) (hi:i<256):(seg (progB l A xs) A 256)[i]?=if i<xs.length then xs[i]? else some 0xff#8:=by
 rw [a1X,if_pos hi,a4M (by omega),hb.at (by omega) (by omega)]
 by_cases h:i<xs.length
 ·rw [if_pos (by omega),if_pos h,show A+i - A=i by omega,List.getElem?_eq_getElem h]
  simp [c2L]
 ·rw [if_neg (by omega),if_neg h]
theorem or_ge (a b:BitVec 8):a.toNat≤(a ||| b).toNat:=by
 rw [BitVec.toNat_or];exact Nat.left_le_or
theorem dead_torn {S q:List (BitVec 8)} {k:BitVec 32} {j:Nat} {t:BitVec 8} (hS:S.length=256) (hq:q.length≤245) (hj:j<(copyB k q).length)
  (h:∀ i,i<256→S[i]?=if i<j+1 then ((copyB k q).take j++[(copyB k q).getD j 0#8 ||| t])[i]? else some 0xff#8) (n:Nat):Dead S n:=by
 rw [b7F] at hj
 have hcl:=b7F k q
 have g4:(copyB k q)[4]?=some 0#8:=by
  have:=congrArg (fun z=>z[0]?) (b3N k q).2.1
  simp only [a1X] at this
  rw [if_pos (by omega)] at this
  rw [show 4+0=4 from rfl] at this
  rw [this]
  have e0:(q.length:Int) / 256=0:=by omega
  simp only [be2,e0]
  rfl
 have g5:(copyB k q)[5]?=some (BitVec.ofNat 8 q.length):=by
  have:=congrArg (fun z=>z[1]?) (b3N k q).2.1
  simp only [a1X] at this
  rw [if_pos (by omega)] at this
  rw [show 4+1=5 from rfl] at this
  rw [this]
  simp [be2]
 have hc5:(BitVec.ofNat 8 q.length).toNat=q.length:=by rw [BitVec.toNat_ofNat];omega
 have at_:∀ i,i<256→i≤j→S[i]?=if i<j then (copyB k q)[i]? else some ((copyB k q).getD j 0#8 ||| t):=fun i hi hij=>by
  rw [h i hi,if_pos (by omega)]
  by_cases h1:i<j
  ·rw [if_pos h1,List.getElem?_append_left (by rw [List.length_take];omega),List.getElem?_take,if_pos h1]
  ·rw [if_neg h1,List.getElem?_append_right (by rw [List.length_take];omega)]
   have:i - ((copyB k q).take j).length=0:=by rw [List.length_take];omega
   rw [this];rfl
 have ff_:∀ i,i<256→j<i→S[i]?=some 0xff#8:=fun i hi hij=>by rw [h i hi,if_neg (by omega)]
 refine c1I hS (fun m hm=>?_) n
 have fg:∀ i,4≤i→(fillB S 0 m)[i]?=S[i]?:=fun i hi=>by rw [a2Z (by omega),if_neg (by omega)]
 have hff:(0xff#8:BitVec 8).toNat=255:=rfl
 obtain ⟨x4,h4⟩:∃ x,S[4]?=some x:=⟨_,List.getElem?_eq_getElem (by omega)⟩
 obtain ⟨x5,h5⟩:∃ x,S[5]?=some x:=⟨_,List.getElem?_eq_getElem (by omega)⟩
 have hn:=b1I ((fg 4 (by omega)).trans h4) ((fg 5 (by omega)).trans h5)
 dsimp only
 rw [hn]
 by_cases hj5:j<5
 ·have:x5=0xff#8:=by rw [ff_ 5 (by omega) (by omega)] at h5;exact (Option.some.inj h5).symm
  left
  rw [this]
  omega
 ·have e4:x4=0#8:=by rw [at_ 4 (by omega) (by omega),if_pos (by omega),g4] at h4;exact (Option.some.inj h4).symm
  have e5:q.length≤x5.toNat∧(j≠5→x5.toNat=q.length):=by
   rw [at_ 5 (by omega) (by omega)] at h5
   by_cases h6:5<j
   ·rw [if_pos h6,g5] at h5
    have:=Option.some.inj h5
    rw [←this,hc5]
    exact ⟨Nat.le_refl _,fun _=>rfl⟩
   ·have hj6:j=5:=by omega
    rw [if_neg h6,hj6,List.getD_eq_getElem?_getD,g5] at h5
    have:=Option.some.inj h5
    rw [←this]
    refine ⟨?_,fun hh=>absurd hj6 hh⟩
    have:=or_ge (BitVec.ofNat 8 q.length) t
    rw [hc5] at this
    exact this
  have e40:x4.toNat=0:=by rw [e4];rfl
  rw [e40]
  by_cases h245:245<0*256+x5.toNat
  ·exact .inl h245
  ·right
   have hjx:j<0*256+x5.toNat+10:=by
    by_cases h5j:j=5
    ·omega
    ·have:=e5.2 h5j;omega
   have:=ff_ (0*256+x5.toNat+10) (by omega) hjx
   rw [List.getD_eq_getElem?_getD,fg _ (by omega),this]
   decide
theorem dead_mark {S q:List (BitVec 8)} {k:BitVec 32} {y:BitVec 8} (hS:S.length=256) (hq:q.length≤245) (hy:y≠0#8) (h1:S.take (q.length+10)=copyB k q) (h2:S[q.length+10]?=some y) (n:Nat):Dead S n:=by
 refine c1I hS (fun m hm=>?_) n
 have fg:∀ i,4≤i→(fillB S 0 m)[i]?=S[i]?:=fun i hi=>by rw [a2Z (by omega),if_neg (by omega)]
 have hs:seg (fillB S 0 m) 4 2=be2 (q.length:Int):=by
  rw [a3M (by omega) (by omega),←b8I (m:=q.length+10) (by omega),h1]
  exact (b3N k q).2.1
 dsimp only
 rw [hs,numN_be2 (by omega)]
 right
 rw [List.getD_eq_getElem?_getD,fg _ (by omega),h2]
 exact hy
theorem seg_fill_same {l:List (BitVec 8)} {A m:Nat} (hA:A+256≤l.length) (hm:m≤256):seg (fillB l A m) A 256=fillB (seg l A 256) 0 m:=by
 apply List.ext_getElem?
 intro i
 rw [a1X,a2Z (l:=l) (by omega),a2Z (l:=seg l A 256) (by rw [a2Q hA];omega),a1X]
 by_cases hi:i<256
 ·rw [if_pos hi,if_pos hi]
  by_cases h:i<m
  ·rw [if_pos (by omega),if_pos (by omega)]
  ·rw [if_neg (by omega),if_neg (by omega)]
 ·rw [if_neg hi,if_neg hi,if_neg (by omega)]
theorem prog2_get {l xs:List (BitVec 8)} {y:BitVec 8} {A:Nat} (hb:Blank l A 256) (hA:A+256≤l.length) (hx:xs.length<256) (i:Nat) (hi:i<256):(seg (progB (progB l A xs) (A+xs.length) [y]) A 256)[i]?=if i<xs.length then xs[i]? else if i=xs.length then some y else some 0xff#8:=by
 have hl:=a8H (l:=l) (a:=A) (xs:=xs) (by omega)
 have g:=prog_get hb hA (Nat.le_of_lt hx) i hi
 rw [a1X,if_pos hi] at g ⊢
 rw [a4M (by rw [hl];simp;omega),g]
 by_cases h:i<xs.length
 ·rw [if_neg (by simp;omega),if_pos h,if_pos h]
 ·rw [if_neg h,if_neg h]
  by_cases he:i=xs.length
  ·rw [if_pos (by simp;omega),if_pos he,show A+i - (A+xs.length)=0 by omega]
   simp [c2L]
  ·rw [if_neg (by simp;omega),if_neg he]
theorem cellR_out {f:Fl} {n to:Nat} {k:BitVec 32} {q:List (BitVec 8)} (hf:Few f n) (hw:n<f.wear) (hd:f.pw.isDown=false) (ht:to<2) (hq:q.length≤245) (hk:k.toNat<16777215) :
  Stay f (cellR f k to q).1 (n+1)∧(∀ a m,a+m≤to*256∨to*256+256≤a→seg (cellR f k to q).1.bs a m=seg f.bs a m) ∧
  (((cellR f k to q).2=0∧(cellR f k to q).1.pw.isDown=false∧copyAt (cellR f k to q).1.bs to=some (k+1#32,q)) ∨
   ((cellR f k to q).2=11∧(cellR f k to q).1.pw = .down none∧(copyAt (cellR f k to q).1.bs to=some (k+1#32,q)∨∀ j,Dead (seg f.bs (to*256) 256) j→Dead (seg (cellR f k to q).1.bs (to*256) 256) j))):=by
 have hb:=hf.bs
 have hlen:=b7F (k+1#32) q
 obtain ⟨C,hC⟩:∃ C,copyB (k+1#32) q=C:=⟨_,rfl⟩
 unfold cellR
 rw [if_neg (by intro e;rw [e] at hk;exact absurd hk (by decide)),hC]
 rw [hC] at hlen
 obtain ⟨s1,c1⟩:=b1N (s:=to) hf (by omega) hw hd
 obtain ⟨⟨f1,v1⟩,hr1⟩:∃ r,eraseF f to=r:=⟨_,rfl⟩
 rw [hr1] at s1 c1 ⊢
 dsimp only at s1 c1 ⊢
 rcases c1 with ⟨q1,d1,b1⟩|⟨q1,d1,m,hm,b1⟩
 rotate_left
 ·subst q1
  rw [if_pos (by decide)]
  refine ⟨s1,fun a m2 hh=>?_,.inr ⟨rfl,d1,.inr fun j hj=>?_⟩⟩
  ·dsimp only
   rw [b1,a3M (by omega) (by omega)]
  ·dsimp only
   rw [b1,seg_fill_same (by omega) hm]
   exact hj.fill (a2Q (by omega)) hm
 subst q1
 rw [if_neg (by decide)]
 have hb1:=s1.few.bs
 have hbl:Blank f1.bs (to*256) 256:=by
  show seg _ _ _=_
  rw [b1,a9A (by omega) (Nat.le_refl _) (Nat.le_refl _)]
 have o1:∀ a m,a+m≤to*256∨to*256+256≤a→seg f1.bs a m=seg f.bs a m:=fun a m hh=>by rw [b1,a3M (by omega) (by omega)]
 obtain ⟨s2,c2⟩:=a7I (a:=to*256) (xs:=C) s1.few (by omega) d1
 obtain ⟨⟨f2,v2⟩,hr2⟩:∃ r,progF f1 (to*256) C=r:=⟨_,rfl⟩
 rw [hr2] at s2 c2 ⊢
 dsimp only at s2 c2 ⊢
 rcases c2 with ⟨q2,d2,b2⟩|⟨q2,d2,j,t,hj,b2⟩
 rotate_left
 ·subst q2
  rw [if_pos (by decide)]
  have hl:(C.take j++[C.getD j 0#8 ||| t]).length=j+1:=by simp;omega
  refine ⟨s1.trans s2,fun a m2 hh=>?_,.inr ⟨rfl,d2,.inr fun n2 _=>?_⟩⟩
  ·dsimp only
   rw [b2,a2P (by omega) (by omega),o1 a m2 hh]
  ·dsimp only
   refine dead_torn (k:=k+1#32) (q:=q) (j:=j) (t:=t) (a2Q (by rw [b2,a8H (by omega)];omega)) hq (by rw [hC];exact hj) (fun i hi=>?_) n2
   rw [hC,b2,prog_get hbl (by omega) (by omega) i hi,hl]
 subst q2
 rw [if_neg (by decide)]
 have hb2:=s2.few.bs
 have o2:∀ a m,a+m≤to*256∨to*256+256≤a→seg f2.bs a m=seg f.bs a m:=fun a m hh=>by rw [b2,a2P (by omega) (by omega),o1 a m hh]
 obtain ⟨s3,c3⟩:=a7I (a:=to*256+C.length) (xs:=[0#8]) s2.few (by simp;omega) d2
 obtain ⟨⟨f3,v3⟩,hr3⟩:∃ r,progF f2 (to*256+C.length) [0#8]=r:=⟨_,rfl⟩
 rw [hr3] at s3 c3 ⊢
 dsimp only at s3 c3 ⊢
 have fin:∀ y:BitVec 8,f3.bs=progB f2.bs (to*256+C.length) [y]→(∀ a m,a+m≤to*256∨to*256+256≤a→seg f3.bs a m=seg f.bs a m)∧(y=0#8→copyAt f3.bs to=some (k+1#32,q))∧(y≠0#8→∀ j,Dead (seg f3.bs (to*256) 256) j):=fun y b3=>by
  have g:∀ i,i<256→(seg f3.bs (to*256) 256)[i]?=if i<C.length then C[i]? else if i=C.length then some y else some 0xff#8:=fun i hi=>by
   rw [b3,b2]
   exact prog2_get hbl (by omega) (by omega) i hi
  have hS:(seg f3.bs (to*256) 256).length=256:=a2Q (by rw [s3.few.bs];omega)
  have ht:(seg f3.bs (to*256) 256).take (q.length+10)=C:=by
   apply List.ext_getElem?
   intro i
   rw [List.getElem?_take]
   by_cases hi:i<q.length+10
   ·rw [if_pos hi,g i (by omega),if_pos (by omega)]
   ·rw [if_neg hi,List.getElem?_eq_none (by omega)]
  have hy:(seg f3.bs (to*256) 256)[q.length+10]?=some y:=by
   rw [g _ (by omega),if_neg (by omega),if_pos (by omega)]
  refine ⟨fun a m hh=>?_,fun hy0=>?_,fun hy0 j=>?_⟩
  ·have hy1:([y]:List (BitVec 8)).length=1:=rfl
   have h255:C.length+1≤256:=by omega
   have h1:to*256+C.length+[y].length≤f2.bs.length:=by rw [hy1,hb2];omega
   have h2:a+m≤to*256+C.length∨to*256+C.length+[y].length≤a:=hh.imp (fun h=>Nat.le_trans h (Nat.le_add_right _ _)) (fun h=>Nat.le_trans (by rw [hy1,Nat.add_assoc];exact Nat.add_le_add_left h255 _) h)
   rw [b3,a2P h1 h2,o2 a m hh]
  ·exact copyC_whole hq (by rw [ht,hC]) (by rw [List.getD_eq_getElem?_getD,hy,hy0];rfl)
  ·exact dead_mark hS hq hy0 (by rw [ht,hC]) hy j
 rcases c3 with ⟨q3,d3,b3⟩|⟨q3,d3,j,t,hj,b3⟩
 ·obtain ⟨w1,w2,w3⟩:=fin 0#8 b3
  exact ⟨(s1.trans s2).trans s3,w1,.inl ⟨q3,d3,w2 rfl⟩⟩
 ·have hj0:j=0:=by simp at hj;omega
  subst hj0
  obtain ⟨w1,w2,w3⟩:=fin _ b3
  refine ⟨(s1.trans s2).trans s3,w1,.inr ⟨q3,d3,?_⟩⟩
  by_cases hy:([0#8].getD 0 0#8 ||| t)=0#8
  ·exact .inl (w2 hy)
  ·exact .inr fun j _=>w3 hy j
structure CellIs (l:List (BitVec 8)) (k:Nat) (q:List (BitVec 8)) (w:Nat):Prop where
 w2:w<2
 at_:∃ kk:BitVec 32,kk.toNat=k∧copyAt l w=some (kk,q)
 dead:Dead (seg l ((1 - w)*256) 256) k
theorem CellIs.found {l:List (BitVec 8)} {k w:Nat} {q:List (BitVec 8)} (h:CellIs l k q w) (hl:l.length=3584):∃ kk:BitVec 32,kk.toNat=k∧foundC l=some ((kk,q),w):=by
 obtain ⟨kk,hk,ha⟩:=h.at_
 have hS:(seg l ((1 - w)*256) 256).length=256:=a2Q (by omega)
 have hdead:∀ c,copyAt l (1 - w)=some c→c.1.toNat<k:=fun c hc=>h.dead 0 (Nat.zero_le _) c (by rw [a6J];exact hc)
 refine ⟨kk,hk,?_⟩
 have h2:=h.w2
 unfold foundC
 rcases (by omega:w=0∨w=1) with rfl|rfl
 ·rw [ha]
  cases h1:copyAt l 1 with
  | none=>rfl
  | some b =>
   have:=hdead b h1
   dsimp only
   rw [if_neg (by omega)]
 ·rw [ha]
  cases h1:copyAt l 0 with
  | none=>rfl
  | some b =>
   have:=hdead b h1
   dsimp only
   rw [if_pos (by omega)]
theorem CellIs.keep {l l':List (BitVec 8)} {k w:Nat} {q:List (BitVec 8)} (h:CellIs l k q w) (e:seg l' 0 512=seg l 0 512):CellIs l' k q w:=by
 have hs:∀ v,v<2→seg l' (v*256) 256=seg l (v*256) 256:=fun v hv=>by
  have:=congrArg (fun z=>seg z (v*256) 256) e
  rw [a5F (by omega),a5F (by omega),Nat.zero_add] at this
  exact this
 have h2:=h.w2
 obtain ⟨kk,hk,ha⟩:=h.at_
 refine ⟨h2,⟨kk,hk,?_⟩,?_⟩
 ·unfold copyAt at ha ⊢
  rw [hs w h2];exact ha
 ·rw [hs (1 - w) (by omega)];exact h.dead
theorem b7I {f:Fl} {n k w:Nat} {q q0:List (BitVec 8)} (hc:CellIs f.bs k q0 w) (hf:Few f n) (hw:n<f.wear) (hd:f.pw.isDown=false) (hq:q.length≤245) (hk:k<16777214) :
  Stay f (cellW f q).1 (n+1)∧(∀ a m,512≤a→seg (cellW f q).1.bs a m=seg f.bs a m) ∧
  (((cellW f q).2=0∧(cellW f q).1.pw.isDown=false∧CellIs (cellW f q).1.bs (k+1) q (1 - w)) ∨
   ((cellW f q).2=11∧(cellW f q).1.pw = .down none∧(CellIs (cellW f q).1.bs (k+1) q (1 - w)∨CellIs (cellW f q).1.bs k q0 w))):=by
 have hb:=hf.bs
 obtain ⟨kk,hkk,hfo⟩:=hc.found hb
 have h2:=hc.w2
 rw [cellW_some hq hd hfo,show (if w=0 then 1 else 0)=1 - w by split <;> omega]
 obtain ⟨st,so,sc⟩:=cellR_out (to:=1 - w) (k:=kk) (q:=q) hf hw hd (by omega) hq (by omega)
 have hk1:(kk+1#32).toNat=k+1:=by
  rw [BitVec.toNat_add]
  have:(1#32).toNat=1:=rfl
  omega
 have same:seg (cellR f kk (1 - w) q).1.bs (w*256) 256=seg f.bs (w*256) 256:=so _ _ (by omega)
 have new:copyAt (cellR f kk (1 - w) q).1.bs (1 - w)=some (kk+1#32,q)→CellIs (cellR f kk (1 - w) q).1.bs (k+1) q (1 - w):=fun h=>by
  refine ⟨by omega,⟨_,hk1,h⟩,?_⟩
  rw [show 1 - (1 - w)=w by omega,same]
  obtain ⟨k2,hk2,ha⟩:=hc.at_
  exact dead_copy (a2Q (by omega)) ha (by omega) (by omega)
 have old:(∀ j,Dead (seg f.bs ((1 - w)*256) 256) j→Dead (seg (cellR f kk (1 - w) q).1.bs ((1 - w)*256) 256) j)→CellIs (cellR f kk (1 - w) q).1.bs k q0 w:=fun h=>by
  obtain ⟨k2,hk2,ha⟩:=hc.at_
  refine ⟨h2,⟨k2,hk2,?_⟩,h _ hc.dead⟩
  unfold copyAt at ha ⊢
  rw [same];exact ha
 refine ⟨st,fun a m hh=>so a m (by omega),?_⟩
 rcases sc with ⟨e1,e2,e3⟩|⟨e1,e2,e3|e3⟩
 ·exact .inl ⟨e1,e2,new e3⟩
 ·exact .inr ⟨e1,e2,.inl (new e3)⟩
 ·exact .inr ⟨e1,e2,.inr (old e3)⟩
theorem cellW_first {f:Fl} {n:Nat} {q:List (BitVec 8)} (hc:Blank f.bs 0 512) (hf:Few f n) (hw:n<f.wear) (hp:f.pw = .on) (hq:q.length≤245) :
  Stay f (cellW f q).1 (n+1)∧(∀ a m,512≤a→seg (cellW f q).1.bs a m=seg f.bs a m)∧(cellW f q).2=0∧(cellW f q).1.pw = .on∧CellIs (cellW f q).1.bs 1 q 0:=by
 have hb:=hf.bs
 have hd:=on_up hp
 have hS:∀ v,v<2→seg f.bs (v*256) 256=List.replicate 256 0xff#8:=fun v hv=>hc.sub (by omega) (by omega)
 have hno:∀ v,v<2→copyAt f.bs v=none:=fun v hv=>by
  cases h:copyAt f.bs v with
  | none=>rfl
  | some c =>
   have:=dead_blank (hS v hv) 0 0 (by omega) c (by rw [a6J];exact h)
   omega
 have hfo:foundC f.bs=none:=by unfold foundC;rw [hno 0 (by omega),hno 1 (by omega)]
 rw [cellW_none hq hd hfo]
 obtain ⟨st,so,sc⟩:=cellR_out (to:=0) (k:=0#32) (q:=q) hf hw hd (by omega) hq (by decide)
 have hon:=st.on hp
 refine ⟨st,fun a m hh=>so a m (by omega),?_⟩
 rcases sc with ⟨e1,e2,e3⟩|⟨e1,e2,e3⟩
 ·refine ⟨e1,hon,by omega,⟨_,rfl,e3⟩,?_⟩
  rw [so _ _ (by omega)]
  exact dead_blank (hS 1 (by omega)) _
 ·rw [hon] at e2;cases e2
def HeadOk (S:List (BitVec 8)) (g:Nat):Prop:=(num32 (S.take 4)).toNat≤g∨S[0]?=some 0xff#8∨∀ i,4≤i→i<256→S[i]?=some 0xff#8
def WhOk (l:List (BitVec 8)) (g:Nat):Prop:=∀ s,s<8→HeadOk (seg l ((6+s)*256) 256) g
theorem HeadOk.mono {S:List (BitVec 8)} {g g':Nat} (h:HeadOk S g) (hg:g≤g'):HeadOk S g':=h.imp (fun h=>Nat.le_trans h hg) id
theorem WhOk.mono {l:List (BitVec 8)} {g g':Nat} (h:WhOk l g) (hg:g≤g'):WhOk l g':=fun s hs=>(h s hs).mono hg
theorem WhOk.keep {l l':List (BitVec 8)} {g:Nat} (h:WhOk l g) (e:seg l' 1536 2048=seg l 1536 2048):WhOk l' g:=fun s hs=>by
 have:seg l' ((6+s)*256) 256=seg l ((6+s)*256) 256:=by
  have:=congrArg (fun z=>seg z (s*256) 256) e
  rw [a5F (by omega),a5F (by omega),show 1536+s*256=(6+s)*256 by omega] at this
  exact this
 rw [this]
 exact h s hs
theorem head_blank {l:List (BitVec 8)} {A g:Nat} (h:Blank l A 256):HeadOk (seg l A 256) g := .inr (.inl (by rw [a1X,if_pos (by omega),h.at (by omega) (by omega)]))
theorem plW_b {z:Nat} (h1:1≤z) (h2:z≤16):8≤plW z∧plW z≤18∧plW z*(z+13)≤256:=by
 have h3:plW z*(z+13)≤256:=Nat.div_mul_le_self 256 (z+13)
 have h4:8≤plW z:=(Nat.le_div_iff_mul_le (by omega)).2 (by omega)
 have h5:plW z≤18:=by
  have:plW z<19:=(Nat.div_lt_iff_lt_mul (by omega)).2 (by omega)
  omega
 exact ⟨h4,h5,h3⟩
theorem b0R {z s:Nat} (h:0<plW z):atW z (s*plW z)=(6+s)*256:=by
 unfold atW
 rw [Nat.mul_div_cancel _ h,Nat.mul_mod_left,Nat.zero_mul,Nat.add_zero]
theorem head_off {l:List (BitVec 8)} {g z s:Nat} {g':BitVec 32} (hl:l.length=3584) (h:WhOk l g) (hs:s<8) (hg:g<g'.toNat) (hg2:g'.toNat<4278190080) (h1:1≤z) (h2:z≤16):secOn l g' z s=false:=by
 have hp:=(plW_b h1 h2).1
 unfold secOn recAt
 rw [b0R (by omega)]
 have hS:=h s hs
 have e:∀ i,i<z+13→(seg l ((6+s)*256) (z+13))[i]?=(seg l ((6+s)*256) 256)[i]?:=fun i hi=>by
  rw [a1X,a1X,if_pos hi,if_pos (by omega)]
 have e4:(seg l ((6+s)*256) (z+13)).take 4=(seg l ((6+s)*256) 256).take 4:=by
  rw [←a4B,←a4B,a5F (by omega),a5F (by omega)]
 have:recC g' z (seg l ((6+s)*256) (z+13))=none:=by
  unfold recC
  by_cases q1:(seg l ((6+s)*256) (z+13)).getD (z+12) 0#8≠0#8
  ·rw [if_pos q1]
  rw [if_neg q1]
  by_cases q2:crcOk ((seg l ((6+s)*256) (z+13)).take (z+12))=false
  ·rw [if_pos q2]
  rw [if_neg q2,if_pos]
  rw [e4]
  intro hc
  rcases hS with q|q|q
  ·rw [hc] at q
   omega
  ·have hlen:((seg l ((6+s)*256) 256).take 4).length=4:=by rw [List.length_take,a2Q (by omega)];omega
   obtain ⟨a,b,c,d,he⟩:∃ a b c d,(seg l ((6+s)*256) 256).take 4=[a,b,c,d]:=list4 hlen
   have ha:a=0xff#8:=by
    have:((seg l ((6+s)*256) 256).take 4)[0]?=some 0xff#8:=by rw [List.getElem?_take,if_pos (by omega),q]
    rw [he] at this
    simpa using this
   have hn:(num32 ((seg l ((6+s)*256) 256).take 4)).toNat=numN ((seg l ((6+s)*256) 256).take 4):=b1X _ (by rw [hlen];exact Nat.le_refl _)
   rw [hc,he,ha] at hn
   simp only [numN,List.foldl_cons,List.foldl_nil] at hn
   have:(0xff#8:BitVec 8).toNat=255:=rfl
   omega
  ·refine q1 ?_
   rw [List.getD_eq_getElem?_getD,e _ (by omega),q _ (by omega) (by omega)]
   decide
 rw [this]
 rfl
theorem wh_new {l:List (BitVec 8)} {g z:Nat} {g':BitVec 32} (hl:l.length=3584) (h:WhOk l g) (hg:g<g'.toNat) (hg2:g'.toNat<4278190080) (h1:1≤z) (h2:z≤16):recsW l g' z 8=[]∧rdyW l g' z 8 = -1∧nxtW l g' z=0:=by
 have ho:∀ s,s<8→secOn l g' z s=false:=fun s hs=>head_off hl h hs hg hg2 h1 h2
 have hr:∀ n,n≤8→recsW l g' z n=[]∧rdyW l g' z n = -1:=fun n=>by
  induction n with
  | zero=>intro _;exact ⟨rfl,rfl⟩
  | succ n ih =>
   intro hn
   have e:=ho n (by omega)
   have:=ih (by omega)
   unfold recsW rdyW
   rw [e]
   exact this
 refine ⟨(hr 8 (Nat.le_refl _)).1,(hr 8 (Nat.le_refl _)).2,?_⟩
 unfold nxtW
 rw [(hr 8 (Nat.le_refl _)).2]
 rfl
theorem b5C (g id:BitVec 32) (d:List (BitVec 8)):(recB g id d).length=d.length+12:=by
 simp [recB,a3C,be4]
theorem b2S (g id:BitVec 32) (d:List (BitVec 8)):(recB g id d).take 4=be4 g:=by
 unfold recB crcPut
 simp only [List.append_assoc]
 exact List.take_left' (a4W g)
structure LiveW (l:List (BitVec 8)) (g:BitVec 32) (z:Nat) (rdy:Int) (nxt:Nat):Prop where
 fresh:nxt % plW z=0→rdy≠((nxt / plW z:Nat):Int)
 mid:nxt % plW z≠0→rdy=((nxt / plW z:Nat):Int)∧(num32 (seg l ((6+nxt / plW z)*256) 4)).toNat≤g.toNat
theorem b9J (l:List (BitVec 8)) (g:BitVec 32) (z:Nat):LiveW l g z (-1) 0:=⟨fun _=>by rw [Nat.zero_div];decide,fun h=>absurd (Nat.zero_mod _) h⟩
theorem wh_set {l l':List (BitVec 8)} {s g:Nat} (h:WhOk l g) (hs:s<8) (ho:∀ a m,a+m≤(6+s)*256∨(6+s)*256+256≤a→seg l' a m=seg l a m) (hh:(num32 (seg l' ((6+s)*256) 4)).toNat≤g):WhOk l' g:=fun t ht=>by
 by_cases e:t=s
 ·subst e
  refine .inl ?_
  rw [←a4B,a5F (by omega),Nat.add_zero]
  exact hh
 ·rw [ho _ _ (by omega)]
  exact h t ht
theorem addW_on {f:Fl} {n nxt z:Nat} {g id:BitVec 32} {rdy:Int} {d:List (BitVec 8)} (hf:Few f n) (hw:n<f.wear) (hp:f.pw = .on) (hz:d.length=z) (h1:1≤z) (h2:z≤16) (hn:nxt<8*plW z) (hL:LiveW f.bs g z rdy nxt) (hW:WhOk f.bs g.toNat) :
  ∃ f',addW f g rdy nxt id d=(f',0)∧Stay f f' (n+1)∧f'.pw = .on∧(∀ a m,a+m≤1536→seg f'.bs a m=seg f.bs a m)∧WhOk f'.bs g.toNat∧LiveW f'.bs g z ((nxt / plW z:Nat):Int) (nxt+1):=by
 have hb:=hf.bs
 obtain ⟨w1,w2,w3⟩:=plW_b h1 h2
 obtain ⟨P,hP⟩:∃ P,plW z=P:=⟨_,rfl⟩
 obtain ⟨s,hs⟩:∃ s,nxt / P=s:=⟨_,rfl⟩
 obtain ⟨j,hj⟩:∃ j,nxt % P=j:=⟨_,rfl⟩
 rw [hP] at w1 w2 w3 hn
 have hdm:P*s+j=nxt:=by rw [←hs,←hj];exact Nat.div_add_mod nxt P
 have hjP:j<P:=by rw [←hj];exact Nat.mod_lt _ (by omega)
 have hs8:s<8:=by rw [←hs];exact (Nat.div_lt_iff_lt_mul (by omega)).2 hn
 obtain ⟨A,hA⟩:∃ A,(6+s)*256=A:=⟨_,rfl⟩
 have hA1:1536≤A∧A+256≤3584:=by omega
 obtain ⟨a,ha⟩:∃ a,A+j*(z+13)=a:=⟨_,rfl⟩
 have hjz:j*(z+13)+(z+13)≤256:=by
  have:(j+1)*(z+13)≤P*(z+13):=Nat.mul_le_mul_right _ hjP
  rw [Nat.succ_mul] at this
  omega
 have hat:atW z nxt=a:=by unfold atW;rw [hP,hs,hj,hA,ha]
 have hjz0:j≠0→13≤j*(z+13):=fun h=>by
  have:1*(z+13)≤j*(z+13):=Nat.mul_le_mul_right _ (by omega)
  omega
 have hfr:=hL.fresh
 have hmi:=hL.mid
 rw [hP,hs,hj] at hfr hmi
 rw [hA] at hmi
 have hent:∃ f1,entF f rdy s=(f1,0)∧Stay f f1 (n+1)∧f1.pw = .on∧(∀ b m,b+m≤A∨A+256≤b→seg f1.bs b m=seg f.bs b m)∧(j=0→Blank f1.bs A 256)∧(j≠0→f1=f):=by
  unfold entF
  by_cases e:(s:Int)=rdy
  ·rw [if_pos e]
   have hj0:j≠0:=fun e0=>hfr e0 e.symm
   exact ⟨f,rfl,(Stay.refl hf).mono (by omega),hp,fun _ _ _=>rfl,fun h=>absurd h hj0,fun _=>rfl⟩
  ·have hj0:j=0:=by
    by_cases h:j=0
    ·exact h
    ·exact absurd (hmi h).1.symm e
   rw [if_neg e,hA]
   by_cases hbl:blankB (seg f.bs A 256)=true
   ·rw [if_pos hbl]
    exact ⟨f,rfl,(Stay.refl hf).mono (by omega),hp,fun _ _ _=>rfl,fun _=>(a8S (by omega)).1 hbl,fun h=>absurd hj0 h⟩
   ·rw [if_neg hbl]
    obtain ⟨st,ho⟩:=b1N (s:=6+s) hf (by omega) hw (on_up hp)
    rcases ho with ⟨e0,e1,e2⟩|⟨e0,e1,_⟩
    ·rw [hA] at e2
     refine ⟨(eraseF f (6+s)).1,Prod.ext rfl e0,st,st.on hp,fun b m hh=>?_,fun _=>?_,fun h=>absurd hj0 h⟩
     ·rw [e2,a3M (by omega) (by omega)]
     ·show seg _ _ _=_
      rw [e2,a9A (by omega) (Nat.le_refl _) (Nat.le_refl _)]
    ·rw [st.on hp] at e1;cases e1
 obtain ⟨f1,q1,s1,p1,o1,b1,k1⟩:=hent
 have hb1:=s1.few.bs
 have hR:(recB g id d).length=z+12:=by rw [b5C,hz]
 obtain ⟨R,hRe⟩:∃ R,recB g id d=R:=⟨_,rfl⟩
 have hR4:R.take 4=be4 g:=by rw [←hRe];exact b2S g id d
 rw [hRe] at hR
 obtain ⟨s2,c2⟩:=a7I (a:=a) (xs:=R) s1.few (by omega) (on_up p1)
 have p2:=s2.on p1
 obtain ⟨⟨f2,v2⟩,hr2⟩:∃ r,progF f1 a R=r:=⟨_,rfl⟩
 rw [hr2] at s2 c2 p2
 dsimp only at s2 c2 p2
 rcases c2 with ⟨v20,_,b2⟩|⟨_,e1,_⟩
 rotate_left
 ·rw [p2] at e1;cases e1
 subst v20
 have hb2:=s2.few.bs
 have hone:([0#8]:List (BitVec 8)).length=1:=rfl
 obtain ⟨s3,c3⟩:=a7I (a:=a+(z+12)) (xs:=[0#8]) s2.few (by rw [hone];omega) (on_up p2)
 have p3:=s3.on p2
 obtain ⟨⟨f3,v3⟩,hr3⟩:∃ r,progF f2 (a+(z+12)) [0#8]=r:=⟨_,rfl⟩
 rw [hr3] at s3 c3 p3
 dsimp only at s3 c3 p3
 rcases c3 with ⟨v30,_,b3⟩|⟨_,e1,_⟩
 rotate_left
 ·rw [p3] at e1;cases e1
 subst v30
 have hadd:addW f g rdy nxt id d=(f3,0):=by
  unfold addW
  rw [hz,hP,if_neg (by omega),hs,hat,hp]
  simp only [q1,hRe,hr2,hr3]
  rfl
 have o3:∀ b m,b+m≤A∨A+256≤b→seg f3.bs b m=seg f.bs b m:=fun b m hh=>by
  rw [b3,a2P (by rw [hone];omega) (by rw [hone];omega),b2,a2P (by omega) (by omega),o1 b m hh]
 have hhead:(num32 (seg f3.bs A 4)).toNat≤g.toNat:=by
  rw [b3,a2P (by rw [hone];omega) (.inl (by omega)),b2]
  by_cases hj0:j=0
  ·have ha0:a=A:=by rw [←ha,hj0,Nat.zero_mul,Nat.add_zero]
   have hbl:=b1 hj0
   have:seg (progB f1.bs a R) A 4=be4 g:=by
    rw [ha0]
    have e:=a4Y (l:=f1.bs) (xs:=R) (a:=A) (by omega) (hbl.sub (Nat.le_refl _) (by omega))
    have e2:=congrArg (fun x=>x.take 4) e
    rw [←hR4]
    rw [←e2,←a4B,a5F (by omega),Nat.add_zero]
   rw [this,a3F]
   exact Nat.le_refl _
  ·rw [a2P (by omega) (.inl (by have:=hjz0 hj0;omega)),k1 hj0]
   exact (hmi hj0).2
 refine ⟨f3,hadd,((s1.trans s2).trans s3),p3,fun b m hh=>o3 b m (by omega),wh_set hW hs8 (by rw [hA];exact o3) (by rw [hA];exact hhead),?_⟩
 rw [hP,hs]
 have hnx:(nxt+1) / P=(if j+1=P then s+1 else s)∧(nxt+1) % P=(if j+1=P then 0 else j+1):=by
  by_cases e:j+1=P
  ·rw [if_pos e,if_pos e]
   have:nxt+1=P*(s+1):=by rw [Nat.mul_add,Nat.mul_one];omega
   rw [this,Nat.mul_div_cancel_left _ (by omega),Nat.mul_mod_right]
   exact ⟨rfl,rfl⟩
  ·rw [if_neg e,if_neg e]
   have:nxt+1=(j+1)+P*s:=by omega
   rw [this,Nat.add_mul_div_left _ _ (by omega),Nat.add_mul_mod_self_left,Nat.div_eq_of_lt (by omega),Nat.mod_eq_of_lt (by omega)]
   exact ⟨by omega,rfl⟩
 constructor
 ·rw [hP,hnx.1,hnx.2]
  intro h
  by_cases e:j+1=P
  ·rw [if_pos e];omega
  ·rw [if_neg e] at h;omega
 ·rw [hP,hnx.1,hnx.2]
  intro h
  by_cases e:j+1=P
  ·rw [if_pos e] at h;exact absurd rfl h
  ·rw [if_neg e,hA]
   exact ⟨rfl,hhead⟩
open Go.RowKit Go.Proofs
theorem slots_len {x:StD} (h:x.may=true):((x.s0.nothing=false∧x.s0.h.l.length=32)∨(x.s0.nothing=true∧x.s0.h.l.length=0))∧((x.s1.nothing=false∧x.s1.h.l.length=32)∨(x.s1.nothing=true∧x.s1.h.l.length=0)):=by
 have k1:∀ s:SlotD,s.something=true→s.nothing=false∧s.h.l.length=32:=fun s h=>by
  simp only [SlotD.something,decide_eq_true_eq] at h
  exact ⟨decide_eq_false (by omega),h.1⟩
 have k2:∀ s:SlotD,s.nothing=true→s.h.l.length=0:=fun s h=>by simp only [SlotD.nothing,decide_eq_true_eq] at h;exact h.2.2
 simp only [StD.may,Bool.and_eq_true,Bool.or_eq_true,decide_eq_true_eq] at h
 have hc:=h.1.1.2
 have ho:((x.oth.nothing=false∧x.oth.h.l.length=32)∨(x.oth.nothing=true∧x.oth.h.l.length=0)):=by
  rcases h.1.2 with h|h
  ·exact .inl (k1 _ h)
  ·exact .inr ⟨h.1,k2 _ h.1⟩
 have hc:=k1 _ hc
 unfold StD.cur at hc
 unfold StD.oth at ho
 by_cases ha:x.a=0
 ·rw [if_pos ha] at hc ho;exact ⟨.inl hc,ho⟩
 ·rw [if_neg ha] at hc ho;exact ⟨ho,.inl hc⟩
theorem slot_len_yes {x:SlotD} (h:x.nothing=false) (hl:x.h.l.length=32):x.by.length=39:=by
 rw [b1U h];simp [be4,be2,hl]
theorem slot_len_no {x:SlotD} (h:x.nothing=true):x.by.length=1:=by rw [b1A h];rfl
theorem tail_len_on {x:StD} (h:x.may=true) (ho:x.on=true):x.tail.length=45:=by
 have hm:=(a5J.1 h).m
 rw [if_pos ho] at hm
 rw [StD.tail,if_pos ho,List.length_cons,b4S,b6O hm]
theorem tail_len_off {x:StD} (ho:x.on=false):x.tail.length=1:=by rw [StD.tail,if_neg (by simp [ho])];rfl
theorem by_len4 (x:StD):x.by.length=10+x.s0.by.length+x.s1.by.length+x.tail.length:=by
 rw [StD.by,List.length_append,List.length_append,List.length_append,head_len]
theorem b7J {x:StD} (h:x.may=true):x.by.length≤245:=by
 obtain ⟨k0,k1⟩:=slots_len h
 rw [by_len4]
 have t:x.tail.length≤45:=by
  cases ho:x.on
  ·rw [tail_len_off ho];omega
  ·rw [tail_len_on h ho];omega
 have w0:x.s0.by.length≤39:=by
  rcases k0 with ⟨a,b⟩|⟨a,b⟩
  ·rw [slot_len_yes a b];omega
  ·rw [slot_len_no a];omega
 have w1:x.s1.by.length≤39:=by
  rcases k1 with ⟨a,b⟩|⟨a,b⟩
  ·rw [slot_len_yes a b];omega
  ·rw [slot_len_no a];omega
 omega
def rtD26_0:List Row:=[tR 24 [] [],tR 25 [0] [0],tR 26 [1] [0,1],tR 27 [] [],tR 28 [] [],tR 29 [3,4] [3,4],tR 30 [5] [3,4,5],tR 31 [2,6] (rG 7)]
theorem cl_Write (H:List Hl) (b:Nat) (ad:Option Addr) (c:Nat) (f:Fl) (h:Hid) (ad2:Option Addr) (c2:Nat) (q:List (BitVec 8)) (hk:FlOk f h) (hq:Rs (stars H) B ad2 c2 q) (hn:q.length≤245) (hd:f.pw.isDown=false) :
  Spec Tryz.prog 68 [.pointer (some ⟨b,0,none⟩),.slice ad2 q.length c2] (fB b ad c f h::fR ad c f::H) (fun h':Hid=>FlOk (cellW f q).1 h') (fun _=>I (cellW f q).2) (fun h'=>fB b ad c (cellW f q).1 h'::fR ad c (cellW f q).1::H):=by
 cases hf:foundC f.bs with
 | none =>
  obtain ⟨h0,h1⟩:=foundC_no hf
  rw [cellW_none hn hd hf]
  exact cl_Write_none H b ad c f h ad2 c2 q hk hq hn hd h0 h1
 | some x =>
  obtain ⟨⟨k,r⟩,w⟩:=x
  obtain ⟨_,hw⟩:=a1Z hf
  rw [cellW_some hn hd hf]
  rcases (by omega:w=0∨w=1) with rfl|rfl
  ·rw [if_pos rfl];exact cl_Write_0 H b ad c f h ad2 c2 q k r hk hq hn hd hf
  ·rw [if_neg (by decide)];exact cl_Write_1 H b ad c f h ad2 c2 q k r hk hq hn hd hf
theorem xf_loadp:XFn Tryz.prog 69 (Extern.Atomic.loadT .ptr):=⟨by kernel_rfl,by kernel_rfl⟩
theorem xf_storep:XFn Tryz.prog 99 Extern.Atomic.storeT:=⟨by kernel_rfl,by kernel_rfl⟩
theorem u_mem:Tryz.prog.underlying 70=some (.pointer 84):=by kernel_rfl
theorem u_uns:Tryz.prog.underlying 74=some .unsafePointer:=by kernel_rfl
theorem lies_mem:liesAt Tryz.prog Tryz.prog.depth 84 (18 / Tryz.prog.cellsOf 84) 0 84 1=true:=by kernel_rfl
theorem dp_Load (H H1 H2:List Hl) (db i:Nat) (T:TypeId) (cs:List Value) (mb:Nat) (ms:List Value) [s1:SBox H db T cs H1] [s2:SBox H mb 84 ms H2] (hv:cs[i]?=some (.pointer (some ⟨mb,0,none⟩))) (hl:ms.length=18) :
  Spec Tryz.prog 33 [.pointer (some ⟨db,i,none⟩)] H (fun _:Unit=>True) (fun _ => .pointer (some ⟨mb,0,none⟩)) (fun _=>H):=by
 refine b1T _ Tryz.func33 rfl Tryz.ntmps33 (by kernel_rfl) rfl (fun W=>?_)
 repeat' (first|intro _|refine wK ?_|refine wL ?_ ?_|fail)
 refine o1_xloadp xf_loadp rfl hv ?_
 repeat' (first|intro _|refine wK ?_|refine wL ?_ ?_|fail)
 refine o1_from_unsafe u_uns u_mem (by kernel_rfl) rfl (by rw [hl];exact lies_mem) ?_
 repeat' (first|intro _|refine wK ?_|refine wL ?_ ?_|fail)
 exact a0E () rfl rfl rfl trivial (Ent.refl _)
theorem dp_Load_nil (H H1:List Hl) (db i:Nat) (T:TypeId) (cs:List Value) [s1:SBox H db T cs H1] (hv:cs[i]?=some (.pointer none)) :
  Spec Tryz.prog 33 [.pointer (some ⟨db,i,none⟩)] H (fun _:Unit=>True) (fun _ => .pointer none) (fun _=>H):=by
 refine b1T _ Tryz.func33 rfl Tryz.ntmps33 (by kernel_rfl) rfl (fun W=>?_)
 repeat' (first|intro _|refine wK ?_|refine wL ?_ ?_|fail)
 refine o1_xloadp xf_loadp rfl hv ?_
 repeat' (first|intro _|refine wK ?_|refine wL ?_ ?_|fail)
 refine o1_from_unsafe_nil u_uns u_mem rfl ?_
 repeat' (first|intro _|refine wK ?_|refine wL ?_ ?_|fail)
 exact a0E () rfl rfl rfl trivial (Ent.refl _)
theorem dp_Store (H H1 H2:List Hl) (db i:Nat) (T:TypeId) (cs:List Value) (mb:Nat) (ms:List Value) [s1:SBox H db T cs H1] [s2:SBox H mb 84 ms H2] (hi:i<cs.length) (hm:0<ms.length) :
  Spec Tryz.prog 50 [.pointer (some ⟨db,i,none⟩),.pointer (some ⟨mb,0,none⟩)] H (fun _:Unit=>True) (fun _ => .tuple #[]) (fun _ => .box db T (cs.set i (.pointer (some ⟨mb,0,none⟩)))::H1):=by
 refine b1T _ Tryz.func50 rfl Tryz.ntmps50 (by kernel_rfl) rfl (fun W=>?_)
 repeat' (first|intro _|refine wK ?_|refine wL ?_ ?_|fail)
 refine o1_to_unsafe u_mem u_uns (by kernel_rfl) rfl (List.getElem?_eq_getElem hm) ?_
 repeat' (first|intro _|refine wK ?_|refine wL ?_ ?_|fail)
 refine o1_xstorep xf_storep rfl hi ?_
 repeat' (first|intro _|refine wK ?_|refine wL ?_ ?_|fail)
 exact a4I () rfl rfl trivial (Ent.refl _)
theorem dp_Store_nil (H H1:List Hl) (db i:Nat) (T:TypeId) (cs:List Value) [s1:SBox H db T cs H1] (hi:i<cs.length) :
  Spec Tryz.prog 50 [.pointer (some ⟨db,i,none⟩),.pointer none] H (fun _:Unit=>True) (fun _ => .tuple #[]) (fun _ => .box db T (cs.set i (.pointer none))::H1):=by
 refine b1T _ Tryz.func50 rfl Tryz.ntmps50 (by kernel_rfl) rfl (fun W=>?_)
 repeat' (first|intro _|refine wK ?_|refine wL ?_ ?_|fail)
 refine o1_to_unsafe_nil u_mem u_uns rfl ?_
 repeat' (first|intro _|refine wK ?_|refine wL ?_ ?_|fail)
 refine o1_xstorep xf_storep rfl hi ?_
 repeat' (first|intro _|refine wK ?_|refine wL ?_ ?_|fail)
 exact a4I () rfl rfl trivial (Ent.refl _)
abbrev dvB (db fb:Nat) (ka:Option Addr) (kn kc:Nat) (mp:Option Addr):Hl := .box db 78 [.slice ka kn kc,.pointer (some ⟨fb,0,none⟩),.pointer mp]
abbrev pM (mb:Nat):Option Addr:=some ⟨mb,0,none⟩
abbrev meB (mb:Nat) (x:StD) (lp:Option Addr):Hl := .box mb 84 [I x.a,I x.t,W4 x.f,W4 x.g,W4 x.s0.v,I x.s0.n,Bs x.s0.h,W4 x.s1.v,I x.s1.n,Bs x.s1.h,.bool x.on,W4 x.m.s,W4 x.m.v,I x.m.n,I x.m.z,I x.m.p,Bs x.m.h,.pointer lp]
theorem dv_Store_nil (H:List Hl) (db fb:Nat) (ka:Option Addr) (kn kc:Nat) (mp:Option Addr) :
  Spec Tryz.prog 50 [.pointer (some ⟨db,2,none⟩),.pointer none] (dvB db fb ka kn kc mp::H) (fun _:Unit=>True) (fun _ => .tuple #[]) (fun _=>dvB db fb ka kn kc none::H) :=
 dp_Store_nil _ H db 2 78 [.slice ka kn kc,.pointer (some ⟨fb,0,none⟩),.pointer mp] (by simp)
theorem b5J (H:List Hl) (db fb:Nat) (ka:Option Addr) (kn kc:Nat) (mp:Option Addr) (mb:Nat) (x:StD) (lp:Option Addr) :
  Spec Tryz.prog 50 [.pointer (some ⟨db,2,none⟩),.pointer (some ⟨mb,0,none⟩)] (dvB db fb ka kn kc mp::meB mb x lp::H) (fun _:Unit=>True) (fun _ => .tuple #[]) (fun _=>dvB db fb ka kn kc (pM mb)::meB mb x lp::H) :=
 dp_Store _ (meB mb x lp::H) (dvB db fb ka kn kc mp::H) db 2 78 [.slice ka kn kc,.pointer (some ⟨fb,0,none⟩),.pointer mp] mb _ (by simp) (by simp)
theorem dv_Load (H:List Hl) (db fb:Nat) (ka:Option Addr) (kn kc:Nat) (mb:Nat) (x:StD) (lp:Option Addr) :
  Spec Tryz.prog 33 [.pointer (some ⟨db,2,none⟩)] (dvB db fb ka kn kc (pM mb)::meB mb x lp::H) (fun _:Unit=>True) (fun _ => .pointer (some ⟨mb,0,none⟩)) (fun _=>dvB db fb ka kn kc (pM mb)::meB mb x lp::H) :=
 dp_Load _ (meB mb x lp::H) (dvB db fb ka kn kc (pM mb)::H) db 2 78 [.slice ka kn kc,.pointer (some ⟨fb,0,none⟩),.pointer (pM mb)] mb _ rfl rfl
theorem dv_Load_nil (H:List Hl) (db fb:Nat) (ka:Option Addr) (kn kc:Nat) :
  Spec Tryz.prog 33 [.pointer (some ⟨db,2,none⟩)] (dvB db fb ka kn kc none::H) (fun _:Unit=>True) (fun _ => .pointer none) (fun _=>dvB db fb ka kn kc none::H) :=
 dp_Load_nil _ H db 2 78 [.slice ka kn kc,.pointer (some ⟨fb,0,none⟩),.pointer none] rfl
section
variable {P:Program} {n:Nat} {H:List Hl} {e:Ev} {C:Value→List Hl→Prop} {ty:TypeId}
theorem a5Q (b b2:Nat) {f:FuncId} {xs:List Operand} {args:List Value} {ats:Array TypeId} {X:Type} {good:X→Prop} {val:X→Value} {res:X→List Hl} {T T2:TypeId} {cs cs2:List Value} {H' H2:List Hl} [s:SBox H b T cs H'] [s2:SBox H' b2 T2 cs2 H2]
  (hs:Has (.box b T cs :: .box b2 T2 cs2::H2)→Spec P f args (.box b T cs :: .box b2 T2 cs2::H2) good val res) (hxs:opds e xs=some args) (h:∀ r,good r→C (val r) (res r)):O1 P (.call ⟨.value (.func f),xs.toArray,ats⟩) ty n e H C :=
 O1.ent (H2 := .box b T cs :: .box b2 T2 cs2::H2) (fun h hh=>a0U (s.s.out h hh) (fun _ a=>a) (s2.s.out)) (a0A hs hxs h)
end
theorem a8P (H:List Hl) (db fb:Nat) (ka:Option Addr) (kn kc:Nat) (mp:Option Addr) (e:Int) (he:e≠11) :
  Spec Tryz.prog 35 [.pointer (some ⟨db,0,none⟩),I e] (dvB db fb ka kn kc mp::H) (fun _:Unit=>True) (fun _=>I e) (fun _=>dvB db fb ka kn kc mp::H):=by
 refine sF (res:=fun _:Unit=>[dvB db fb ka kn kc mp]) [dvB db fb ka kn kc mp] H Tryz.func35 Tryz.ntmps35 fun W=>?_
 dsimp only [cA,nA]
 repeat' (first|intro _|(refine a0D .eql ?_;refine a1Y rfl rfl he ?_)|refine wK ?_|refine wL ?_ ?_|fail)
 refine a0E () rfl rfl rfl trivial ?_
 exact ent
theorem a5M (H:List Hl) (db fb:Nat) (ka:Option Addr) (kn kc:Nat) (mp:Option Addr) :
  Spec Tryz.prog 35 [.pointer (some ⟨db,0,none⟩),I 11] (dvB db fb ka kn kc mp::H) (fun _:Unit=>True) (fun _=>I 11) (fun _=>dvB db fb ka kn kc none::H):=by
 refine sF (res:=fun _:Unit=>[dvB db fb ka kn kc none]) [dvB db fb ka kn kc mp] H Tryz.func35 Tryz.ntmps35 fun W=>?_
 dsimp only [cA,nA]
 repeat' (first|intro _|(refine k_fn 50 ?_;refine a0G (b:=db) (fun _=>dv_Store_nil _ db fb ka kn kc mp) rfl (fun _ _=>?_))|refine wK ?_|refine wL ?_ ?_|fail)
 refine a0E () rfl rfl rfl trivial ?_
 exact ent
theorem b1O (H:List Hl) (db fb:Nat) (ka:Option Addr) (kn kc:Nat) (mp:Option Addr) (ad:Option Addr) (c:Nat) (f f1:Fl) (h:Hid) (x:StD) (lp:Option Addr) (hm:x.may=true) (hx:x.Rd (stars H)) (hk:FlOk f h) (hd:f.pw.isDown=false) (hW:cellW f x.by=(f1,0)) :
  Spec Tryz.prog 32 [.pointer (some ⟨db,0,none⟩),x.V,.pointer lp] (dvB db fb ka kn kc mp::fB fb ad c f h::fR ad c f::H) (fun r:Hid × Nat=>FlOk f1 r.1) (fun _=>I 0) (fun r=>dvB db fb ka kn kc (pM r.2)::fB fb ad c f1 r.1::fR ad c f1::meB r.2 x lp::H):=by
 refine sF (res:=fun r:Hid × Nat=>[dvB db fb ka kn kc (pM r.2),fB fb ad c f1 r.1,fR ad c f1,meB r.2 x lp]) [dvB db fb ka kn kc mp,fB fb ad c f h,fR ad c f] H Tryz.func32 Tryz.ntmps32 fun W=>?_
 dsimp only [cA,nA]
 have hql:=b7J hm
 obtain ⟨q,hq⟩:∃ q,x.by=q:=⟨_,rfl⟩
 rw [hq] at hql hW
 repeat' (first|intro _|(refine k_box ?_;refine a1V rfl rfl (fun b4=>?_))|(refine k_fn 67 ?_;(refine a0A (fun _=>st_Bytes _ x hm ⟨hx.s0.up,hx.s1.up,hx.m.up⟩) rfl (fun ⟨a11,c11⟩ _=>?_);(try dsimp only);rw [hq]))|(refine a0K ?_;refine a0F (b:=db) (i:=1) rfl rfl ?_)|(refine k_fn 68 ?_;(refine a1J fb ad c (fun hh=>cl_Write _ fb ad c f h a11 c11 q hk (a0I (a0B (a0B hh))) hql hd) rfl (fun h1 hk1=>?_);(rw [hW] at hk1 ⊢;dsimp only at hk1 ⊢)))|refine wK ?_|refine wL ?_ ?_|fail)
 refine a0H [(0,_),(4,_),(2,_)] rtD26_0 [6,7] [⟨[0,1,2,3,4,5],[],some 6⟩,⟨[],[0,1,2],some 7⟩,⟨[],[],none⟩] mixed cv (by kernel_rfl) (by kernel_rfl) ?_
 repeat' (first|intro _|refine sg ?_|refine pw ?_|refine pdd ?_|(refine k_box ?_;refine a1V rfl rfl (fun mb=>?_))|(refine k_fn 50 ?_;refine a5Q db mb (fun _=>b5J _ db fb ka kn kc mp mb x lp) rfl (fun _ _=>?_))|refine ow ?_|fail)
 all_goals dsimp only [cA,nA]
 repeat' (first|intro _|refine wK ?_|refine wL ?_ ?_|fail)
 refine a0E (h1,mb) rfl rfl rfl hk1 ?_
 exact ent
theorem a7R (H:List Hl) (db fb:Nat) (ka:Option Addr) (kn kc:Nat) (mp:Option Addr) (ad:Option Addr) (c:Nat) (f f1:Fl) (e:Int) (h:Hid) (x:StD) (lp:Option Addr) (hm:x.may=true) (hx:x.Rd (stars H)) (hk:FlOk f h) (hd:f.pw.isDown=false) (hW:cellW f x.by=(f1,e)) (he:e≠0) :
  Spec Tryz.prog 32 [.pointer (some ⟨db,0,none⟩),x.V,.pointer lp] (dvB db fb ka kn kc mp::fB fb ad c f h::fR ad c f::H) (fun h':Hid=>FlOk f1 h') (fun _=>I e) (fun h'=>dvB db fb ka kn kc mp::fB fb ad c f1 h'::fR ad c f1::H):=by
 refine sF (res:=fun h':Hid=>[dvB db fb ka kn kc mp,fB fb ad c f1 h',fR ad c f1]) [dvB db fb ka kn kc mp,fB fb ad c f h,fR ad c f] H Tryz.func32 Tryz.ntmps32 fun W=>?_
 dsimp only [cA,nA]
 have hql:=b7J hm
 obtain ⟨q,hq⟩:∃ q,x.by=q:=⟨_,rfl⟩
 rw [hq] at hql hW
 repeat' (first|intro _|(refine k_box ?_;refine a1V rfl rfl (fun b4=>?_))|(refine k_fn 67 ?_;(refine a0A (fun _=>st_Bytes _ x hm ⟨hx.s0.up,hx.s1.up,hx.m.up⟩) rfl (fun ⟨a11,c11⟩ _=>?_);(try dsimp only);rw [hq]))|(refine a0K ?_;refine a0F (b:=db) (i:=1) rfl rfl ?_)|(refine k_fn 68 ?_;(refine a1J fb ad c (fun hh=>cl_Write _ fb ad c f h a11 c11 q hk (a0I (a0B (a0B hh))) hql hd) rfl (fun h1 hk1=>?_);(rw [hW] at hk1 ⊢;dsimp only at hk1 ⊢)))|(refine a0D .eql ?_;refine a1Y rfl rfl he ?_)|refine wK ?_|refine wL ?_ ?_|fail)
 refine a0E h1 rfl rfl rfl hk1 ?_
 exact ent
def rtF3_0:List Row:=[tR 29 [] [],tR 30 [0] [0],tR 31 [] [],tR 32 [2] [2],tR 33 [] [],tR 34 [4] [4],tR 35 [] [],tR 36 [6] [6],tR 37 [7] [6,7],tR 38 [3,5,8] [2,3,4,5,6,7,8],tR 39 [] [],tR 40 [10,1,0,1,2,3,4,5,6,7,8,9] (rG 11),⟨none,[11,9,8,0,1,2,3,4,5,6,7,8,9],[0,1,2,3,4,5,6,7,8,9,10,11],none⟩]
theorem act_0 {t:Int} {f g:BitVec 32} {s0 s1:SlotD} {on:Bool} {m:ManD}:actS ⟨0,t,f,g,s0,s1,on,m⟩=⟨1,3,f,g,s0,⟨m.v,m.n,m.h⟩,false,zM⟩:=by simp [actS,newSl]
theorem act_1 {t:Int} {f g:BitVec 32} {s0 s1:SlotD} {on:Bool} {m:ManD}:actS ⟨1,t,f,g,s0,s1,on,m⟩=⟨0,3,f,g,⟨m.v,m.n,m.h⟩,s1,false,zM⟩:=by simp [actS,newSl]
theorem bt_Activate (H:List Hl) (x:StD) (hx:x.Rd (stars H)) (hm:x.may=true) (ho:x.on=true) (ht:x.t=0) :
  Spec Tryz.prog 126 [x.V] H (fun _:PA × PA=>True) (fun r => .tuple #[(copyS (actS x) r.1 r.2 (none,0)).V,I 0]) (fun r=>rowL r.1 (actS x).s0.h.l::rowL r.2 (actS x).s1.h.l::H):=by
 have e0:=hx.s0
 have e1:=hx.s1
 have e2:=hx.m
 have hl:=a7P hm
 obtain ⟨ha,_,_,_,_⟩:=a5J.1 hm
 obtain ⟨a,t,f,g,s0,s1,on,m⟩:=x
 dsimp only at ha ht ho e0 e1 e2
 have hl2:m.h.l.length≤100:=hl.2.2
 subst ho ht
 rcases ha with rfl|rfl
 ·rw [act_0]
  refine sP (res:=fun r:PA × PA=>[rowL r.1 s0.h.l,rowL r.2 m.h.l]) H Tryz.func126 Tryz.ntmps126 fun W=>?_
  dsimp only [StD.V,StD.c]
  repeat' (first|intro _|(refine k_fn 97 ?_;refine a0A (fun _=>(a4D _ ⟨_,_,f,g,s0,s1,_,m⟩).bv (b:=true) hm) rfl (fun _ _=>?_))|(refine k_fn 125 ?_;(refine a0A (fun _=>bt_Drop _ ⟨_,_,f,g,s0,s1,_,m⟩ ⟨Rs.up e0,Rs.up e1,Rs.up e2⟩ hm) rfl (fun ⟨r0,r1⟩ _=>?_);dsimp only [StD.V,StD.c,dropS]))|refine wK ?_|refine wL ?_ ?_|fail)
  refine a0H [(1,_),(4,_)] rtF3_0 [8,12] [⟨[0,1,2,3,4,5,6,7,10],[],some 8⟩,⟨[9,11],[0,1,2,3,4,5,10],some 12⟩,⟨[],[],none⟩] mixed cv (by kernel_rfl) (by kernel_rfl) ?_
  repeat' (first|intro _|refine sg ?_|(refine a0Z ?_;refine po (by first|refine a1C 1 7 rfl rfl rfl (by decide) rfl fz|fail) ?_)|refine pw ?_|refine pdd ?_|(refine k_fn 29 ?_;(refine a0A (fun _=>a1B _ _ _ m.h.l (Rs.up e2) (by omega)) rfl (fun ⟨a5,c5⟩ _=>?_);dsimp only))|refine ow ?_|fail)
  all_goals dsimp only [cA,nA]
  repeat' (first|intro _|refine wK ?_|refine wL ?_ ?_|fail)
  refine a0N (r0,(a5,c5)) rfl rfl rfl rfl rfl trivial ?_
  exact ent
 ·rw [act_1]
  refine sP (res:=fun r:PA × PA=>[rowL r.1 m.h.l,rowL r.2 s1.h.l]) H Tryz.func126 Tryz.ntmps126 fun W=>?_
  dsimp only [StD.V,StD.c]
  repeat' (first|intro _|(refine k_fn 97 ?_;refine a0A (fun _=>(a4D _ ⟨_,_,f,g,s0,s1,_,m⟩).bv (b:=true) hm) rfl (fun _ _=>?_))|(refine k_fn 125 ?_;(refine a0A (fun _=>bt_Drop _ ⟨_,_,f,g,s0,s1,_,m⟩ ⟨Rs.up e0,Rs.up e1,Rs.up e2⟩ hm) rfl (fun ⟨r0,r1⟩ _=>?_);dsimp only [StD.V,StD.c,dropS]))|refine wK ?_|refine wL ?_ ?_|fail)
  refine a0H [(1,_),(4,_)] rtF3_0 [8,12] [⟨[0,1,2,3,4,5,6,7,10],[],some 8⟩,⟨[9,11],[0,1,2,3,4,5,10],some 12⟩,⟨[],[],none⟩] mixed cv (by kernel_rfl) (by kernel_rfl) ?_
  repeat' (first|intro _|refine sg ?_|(refine a0Z ?_;refine po (by first|refine a1C 0 4 rfl rfl rfl (by decide) rfl fz|fail) ?_)|refine pw ?_|refine pdd ?_|(refine k_fn 29 ?_;(refine a0A (fun _=>a1B _ _ _ m.h.l (Rs.up e2) (by omega)) rfl (fun ⟨a5,c5⟩ _=>?_);dsimp only))|refine ow ?_|fail)
  all_goals dsimp only [cA,nA]
  repeat' (first|intro _|refine wK ?_|refine wL ?_ ?_|fail)
  refine a0N ((a5,c5),r1) rfl rfl rfl rfl rfl trivial ?_
  exact ent
open Go.RowKit Go.Proofs Sha
def rtD27_0:List Row:=[tR 7 [] [],tR 8 [0] [0],tR 9 [1] [0,1],tR 10 [] [],tR 11 [3] [3],tR 12 [4] [3,4],tR 13 [2,5] (rG 6)]
def rtD27_2:List Row:=[tR 18 [] [],tR 19 [0] [0],tR 20 [1] [0,1],tR 21 [2] [0,1,2],tR 22 [] [],tR 23 [4] [4],tR 24 [] [],tR 25 [6] [6],tR 26 [3,5,7] (rG 8),tR 17 [8] (rG 9),tR 27 [9] (rG 10),tR 28 [9] (rG 10),tR 5 [10,8,0,1,2,3,4,5,6,7,8,9,10] (rG 11),tR 6 [11,12,0,1,2,3,4,5,6,7,8,9,10,11,12] (rG 13)]
def rtD27_3:List Row:=[tR 31 [] [],tR 32 [0] [0],tR 33 [1] [0,1],tR 34 [] [],tR 35 [] [],tR 36 [3,4] [3,4],tR 37 [5] [3,4,5],tR 38 [2,6] (rG 7)]
def rtD27_4:List Row:=[tR 22 [] [],tR 23 [0] [0],tR 24 [] [],tR 25 [2] [2],tR 26 [3] [2,3],tR 27 [4] [2,3,4],tR 28 [5] [2,3,4,5],tR 29 [6] [2,3,4,5,6],tR 30 [1,7,1] (rG 8),tR 31 [8] (rG 9)]
def rtD27_5:List Row:=[tR 42 [] [],tR 43 [0] [0],tR 44 [1] [0,1],tR 45 [2] [0,1,2],tR 46 [] [],tR 47 [4] [4],tR 48 [5] [4,5],tR 49 [6] [4,5,6],tR 50 [7] [4,5,6,7],tR 51 [8] [4,5,6,7,8],tR 52 [] [],tR 53 [3,9,10] (rG 11),tR 7 [11,11,0,1,2,3,4,5,6,7,8,9,10,11] (rG 12)]
theorem b8G (H:List Hl) (b:Nat) (ad:Option Addr) (c:Nat) (f:Fl) (h:Hid) (s:Nat) (ad2:Option Addr) (c2:Nat) (x:List (BitVec 8)) (hs:s<2) (hk:FlOk f h) (hx:Rs (stars H) B ad2 c2 x) (hx1:1≤x.length) (hx2:x.length≤512) (hd:f.pw.isDown=false) :
  Spec Tryz.prog 31 [.pointer (some ⟨b,0,none⟩),I s,.slice ad2 x.length c2] (fB b ad c f h::fR ad c f::H) (fun h':Hid=>FlOk (slotW f s x).1 h') (fun _=>I (slotW f s x).2) (fun h'=>fB b ad c (slotW f s x).1 h'::fR ad c (slotW f s x).1::H):=by
 rcases (by omega:s=0∨s=1) with rfl|rfl
 ·exact sl_Write_0 H b ad c f h ad2 c2 x hk hx hx1 hx2 hd
 ·exact sl_Write_1 H b ad c f h ad2 c2 x hk hx hx1 hx2 hd
structure IsP (m:ManD) (p:Prm) (len:Nat):Prop where
 ok:p.ok
 es:m.s=p.s
 en:m.n=len
 ez:m.z=p.z
 ep:m.p=p.p
 ec:count len p.z=p.k
theorem dv_opens_off (H:List Hl) (db fb:Nat) (ka:Option Addr) (kn kc:Nat) (mp:Option Addr) (x:StD) (ho:x.on=false) :
  Spec Tryz.prog 75 [.pointer (some ⟨db,0,none⟩),x.V] (dvB db fb ka kn kc mp::H) (fun _:Nat=>True) (fun _=>I 0) (fun mb=>dvB db fb ka kn kc (pM mb)::meB mb x none::H):=by
 refine sF (res:=fun mb:Nat=>[dvB db fb ka kn kc (pM mb),meB mb x none]) [dvB db fb ka kn kc mp] H Tryz.func75 Tryz.ntmps75 fun W=>?_
 dsimp only [cA,nA]
 repeat' (first|intro _|(refine k_box ?_;refine a1V rfl rfl (fun b3=>?_))|refine wK ?_|refine wL ?_ ?_|fail)
 refine a0H [(0,_),(3,_)] rtD27_0 [5,6] [⟨[0,1,2,3,4],[],some 5⟩,⟨[],[0,1,2],some 6⟩,⟨[],[],none⟩] mixed cv (by kernel_rfl) (by kernel_rfl) ?_
 repeat' (first|intro _|refine sg ?_|refine pw ?_|refine pdd ?_|(refine k_box ?_;refine a1V rfl rfl (fun mb=>?_))|(refine k_fn 50 ?_;refine a5Q db mb (fun _=>b5J _ db fb ka kn kc mp mb x none) rfl (fun _ _=>?_))|refine ow ?_|fail)
 all_goals dsimp only [cA,nA]
 repeat' (first|intro _|(refine a0K ?_;(refine a0F (b:=b3) (i:=10) rfl rfl ?_;rw [ho]))|refine wK ?_|refine wL ?_ ?_|fail)
 refine a0E mb rfl rfl rfl trivial ?_
 exact ent
theorem b3I (H:List Hl) (db fb:Nat) (ka:Option Addr) (kn kc:Nat) (mp:Option Addr) (ad:Option Addr) (c:Nat) (f:Fl) (x:StD) (p:Prm) (len:Nat) (V:BitVec 32→List Bool) (ho:x.on=true) (hp:IsP x.m p len) (hf:RdFl (stars H) fb ad c f) (hd:f.pw.isDown=false) (ht:TabF (stars H)) (hV:∀ r∈recsW f.bs x.g p.z 8,SpRow p r.1 (V r.1)) :
  Spec Tryz.prog 75 [.pointer (some ⟨db,0,none⟩),x.V] (dvB db fb ka kn kc mp::H) (fun _:Nat × Nat=>True) (fun _=>I 0) (fun r=>dvB db fb ka kn kc (pM r.1)::meB r.1 x (some ⟨r.2,0,none⟩) :: .any (stP (openS p x.g len V f.bs) fb r.2)::H):=by
 refine sF (res:=fun r:Nat × Nat=>[dvB db fb ka kn kc (pM r.1),meB r.1 x (some ⟨r.2,0,none⟩),.any (stP (openS p x.g len V f.bs) fb r.2)]) [dvB db fb ka kn kc mp] H Tryz.func75 Tryz.ntmps75 fun W=>?_
 dsimp only [cA,nA]
 repeat' (first|intro _|(refine k_box ?_;refine a1V rfl rfl (fun b3=>?_))|refine wK ?_|refine wL ?_ ?_|fail)
 refine a0H [(0,_),(3,_)] rtD27_0 [5,6] [⟨[0,1,2,3,4],[],some 5⟩,⟨[],[0,1,2],some 6⟩,⟨[],[],none⟩] mixed cv (by kernel_rfl) (by kernel_rfl) ?_
 repeat' (first|intro _|refine sg ?_|refine pw ?_|refine pdd ?_|(refine k_box ?_;refine a1V rfl rfl (fun mb=>?_))|(refine k_fn 50 ?_;refine a5Q db mb (fun _=>b5J _ db fb ka kn kc mp mb x none) rfl (fun _ _=>?_))|refine ow ?_|fail)
 all_goals dsimp only [cA,nA]
 repeat' (first|intro _|(refine a0K ?_;(refine a0F (b:=b3) (i:=10) rfl rfl ?_;rw [ho]))|refine wK ?_|refine wL ?_ ?_|fail)
 refine a0H [(0,_),(3,_)] rtD27_2 [8] [⟨[0,1,2,3,4,5,6,7],[],some 8⟩,⟨[9,10,11,12,13],[],none⟩] mixed cv (by kernel_rfl) (by kernel_rfl) ?_
 repeat' (first|intro _|refine sg ?_|(refine a1E ?_;refine po (by first|refine a0F (b:=db) (i:=1) rfl rfl fz|refine a0F (b:=b3) (i:=3) rfl rfl fz|fail) ?_)|refine pw ?_|refine pdd ?_|(refine k_fn 119 ?_;(refine a0A (fun _=>so_Open _ fb x.m p x.g len V ad c f hp.ok hp.es hp.en hp.ez hp.ep hp.ec hf.up hd ht.up hV) rfl (fun sb _=>?_);(try dsimp only)))|refine ow ?_|fail)
 all_goals dsimp only [cA,nA]
 repeat' (first|intro _|refine wK ?_|refine wL ?_ ?_|fail)
 refine a0H [(0,_),(3,_),(5,_)] rtD27_3 [6,7] [⟨[0,1,2,3,4,5],[],some 6⟩,⟨[],[0,1,2],some 7⟩,⟨[],[],none⟩] mixed cv (by kernel_rfl) (by kernel_rfl) ?_
 repeat' (first|intro _|refine sg ?_|refine pw ?_|refine pdd ?_|(refine k_box ?_;refine a1V rfl rfl (fun mb2=>?_))|(refine k_fn 50 ?_;refine a5Q db mb2 (fun _=>b5J _ db fb ka kn kc (pM mb) mb2 x (some ⟨sb,0,none⟩)) rfl (fun _ _=>?_))|refine ow ?_|fail)
 all_goals dsimp only [cA,nA]
 repeat' (first|intro _|refine wK ?_|refine wL ?_ ?_|fail)
 refine a0E (mb2,sb) rfl rfl rfl trivial ?_
 exact ent
def finF (f:Fl) (x:StD) (im:List (BitVec 8)):Fl × Int:=if (slotW f (1 - x.a).toNat im).2≠0 then slotW f (1 - x.a).toNat im else cellW (slotW f (1 - x.a).toNat im).1 (actS x).by
theorem slotW_ok {f:Fl} {s:Nat} {x:List (BitVec 8)} (h:(slotW f s x).2=0):(slotW f s x).1.pw.isDown=false:=by
 cases hd:f.pw.isDown
 ·rw [b8E hd] at h ⊢
  obtain ⟨⟨f1,v1⟩,hr1⟩:∃ r,clrF f s=r:=⟨_,rfl⟩
  rw [hr1] at h ⊢
  dsimp only at h ⊢
  by_cases h1:v1≠0
  ·rw [if_pos h1] at h;exact absurd h h1
  ·rw [if_neg h1] at h ⊢
   obtain ⟨⟨f2,v2⟩,hr2⟩:∃ r,progF f1 (slotA s) x=r:=⟨_,rfl⟩
   rw [hr2] at h ⊢
   dsimp only at h ⊢
   by_cases h2:v2≠0
   ·rw [if_pos h2] at h;exact absurd h h2
   ·rw [if_neg h2] at h ⊢
    exact b8O hr2 (Decidable.not_not.1 h2)
 ·rw [slotW_down hd] at h;cases h
theorem dv_fin (H:List Hl) (db fb:Nat) (ka:Option Addr) (kn kc:Nat) (mb sb:Nat) (ad:Option Addr) (c:Nat) (f f2:Fl) (h:Hid) (x:StD) (st:Sto) (im:List (BitVec 8)) (hm:x.may=true) (ho:x.on=true) (htr:x.t=0) (hx:x.Rd (stars H)) (hk:FlOk f h) (hd:f.pw.isDown=false)
  (hp:st.p.ok) (hR:RR st.p.n st.p.z st.d.M) (hf:cntS st.d.M=st.p.n) (hl:count st.len st.p.z=st.p.k) (him:imgB st.p st.d st.len=im) (hi1:1≤im.length) (hi2:im.length≤512) (hsh:sha im=x.m.h.l) (hF:finF f x im=(f2,0)) :
  Spec Tryz.prog 80 [.pointer (some ⟨db,0,none⟩)] (dvB db fb ka kn kc (pM mb)::meB mb x (some ⟨sb,0,none⟩) :: .any (stP st fb sb)::fB fb ad c f h::fR ad c f::H) (fun r:Hid × Nat × PA × PA=>FlOk f2 r.1) (fun _=>I 0)
   (fun r=>dvB db fb ka kn kc (pM r.2.1)::meB r.2.1 (copyS (actS x) r.2.2.1 r.2.2.2 (none,0)) none::fB fb ad c f2 r.1::fR ad c f2::rowL r.2.2.1 (actS x).s0.h.l::rowL r.2.2.2 (actS x).s1.h.l::H):=by
 refine sF (res:=fun r:Hid × Nat × PA × PA=>[dvB db fb ka kn kc (pM r.2.1),meB r.2.1 (copyS (actS x) r.2.2.1 r.2.2.2 (none,0)) none,fB fb ad c f2 r.1,fR ad c f2,rowL r.2.2.1 (actS x).s0.h.l,rowL r.2.2.2 (actS x).s1.h.l]) [dvB db fb ka kn kc (pM mb),meB mb x (some ⟨sb,0,none⟩),.any (stP st fb sb),fB fb ad c f h,fR ad c f] H Tryz.func80 Tryz.ntmps80 fun W=>?_
 dsimp only [cA,nA]
 have ha:=StD.may_a hm
 obtain ⟨sN,hsN⟩:∃ sN,(1 - x.a).toNat=sN:=⟨_,rfl⟩
 have hs2:sN<2:=by omega
 have hsub:(1:Int) - x.a=(sN:Int):=by omega
 unfold finF at hF
 rw [hsN] at hF
 have hup:=slotW_ok (f:=f) (s:=sN) (x:=im)
 obtain ⟨⟨f1,v1⟩,hr1⟩:∃ r,slotW f sN im=r:=⟨_,rfl⟩
 rw [hr1] at hF hup
 dsimp only at hF hup
 by_cases hv1:v1≠0
 ·rw [if_pos hv1] at hF
  exact absurd (Prod.mk.inj hF).2 hv1
 rw [if_neg hv1] at hF
 have hv1:v1=0:=Decidable.not_not.1 hv1
 subst hv1
 have hd1:=hup rfl
 have hmay2:(copyS (actS x) (none,0) (none,0) (none,0)).may=true:=by rw [a3P];exact b7Q hm ho htr
 have hact:∀ r0 r1 r2,(copyS (actS x) r0 r1 r2).may=true:=fun r0 r1 r2=>by rw [a3P];exact b7Q hm ho htr
 repeat' (first|intro _|(refine k_fn 33 ?_;refine a5Q db mb (fun _=>dv_Load _ db fb ka kn kc mb x (some ⟨sb,0,none⟩)) rfl (fun _ _=>?_))|(refine a0K ?_;refine a0F (b:=mb) (i:=17) rfl rfl ?_)|(refine k_fn 124 ?_;(refine a0T (stP st fb sb) (fun _=>so_Image _ st fb sb hp hR hf hl) rfl (fun ⟨a19,c19⟩ _=>?_);(try dsimp only);rw [him]))|refine wK ?_|refine wL ?_ ?_|fail)
 refine a0H [(4,_),(3,_)] rtD27_4 [1,8] [⟨[0,2,3,4,5,6,7],[],some 1⟩,⟨[],[2,3,4,5,6,7],some 8⟩,⟨[9],[],none⟩] mixed cv (by kernel_rfl) (by kernel_rfl) ?_
 repeat' (first|intro _|refine sg ?_|(refine a1E ?_;refine po (by first|refine a0F (b:=mb) (i:=16) rfl rfl fz|fail) ?_)|refine pw ?_|refine pdd ?_|(refine k_fn 56 ?_;(refine a0A (fun hh=>b7T _ a19 c19 im _ (a0I hh) (by omega) hsh) rfl (fun ⟨a23,c23⟩ _=>?_);(try dsimp only)))|(refine k_fn 66 ?_;refine a0A (fun hh=>(a4K _ a23 x.m.h.ad c23 x.m.h.cap x.m.h.l x.m.h.l (a0I hh) hx.m.up).bv (b:=true) (by simp)) rfl (fun _ _=>?_))|refine ow ?_|fail)
 all_goals dsimp only [cA,nA]
 repeat' (first|intro _|refine wK ?_|refine wL ?_ ?_|fail)
 refine a0H [(0,_),(3,_),(4,_)] rtD27_5 [11] [⟨[0,1,2,3,4,5,6,7,8,9,10],[],some 11⟩,⟨[12],[],none⟩] mixed cv (by kernel_rfl) (by kernel_rfl) ?_
 repeat' (first|intro _|refine sg ?_|(refine a1E ?_;refine po (by first|refine a0F (b:=db) (i:=1) rfl rfl fz|refine a0F (b:=mb) (i:=0) rfl rfl fz|fail) ?_)|(refine a1I .sub ?_;refine po (by first|((refine a3D rfl rfl (by omega) ?_;rw [hsub]);all_goals exact fz)|fail) ?_)|refine pw ?_|refine pdd ?_|(refine k_fn 31 ?_;(refine a1J fb ad c (fun hh=>b8G _ fb ad c f h sN a19 c19 im hs2 hk (a0I (a0B (a0B hh))) hi1 hi2 hd) rfl (fun h1 hk1=>?_);(rw [hr1] at hk1 ⊢;dsimp only at hk1 ⊢)))|refine ow ?_|fail)
 all_goals dsimp only [cA,nA]
 repeat' (first|intro _|(refine k_fn 126 ?_;(refine a0A (fun _=>bt_Activate _ x ⟨hx.s0.up,hx.s1.up,hx.m.up⟩ hm ho htr) rfl (fun ⟨q1,q2⟩ _=>?_);(try dsimp only)))|(refine a1O ?_;refine a1D rfl (fun b8=>?_))|refine wK ?_|refine wL ?_ ?_|fail)
 refine a0V (dvB db fb ka kn kc (pM mb)::fB fb ad c f1 h1::fR ad c f1::[rowL q1 (actS x).s0.h.l,rowL q2 (actS x).s1.h.l,.any (stars H)]) (Ent.out ent) (fun hh=>b1O _ db fb ka kn kc (pM mb) ad c f1 f2 h1 (copyS (actS x) q1 q2 (none,0)) none (hact _ _ _) ⟨a0I (T:=5) (ad:=q1.1) (c:=q1.2) (l:=(actS x).s0.h.l) (a0B (a0B (a0B hh))),a0I (T:=5) (ad:=q2.1) (c:=q2.2) (l:=(actS x).s1.h.l) (a0B (a0B (a0B hh))),rs00 (a0B (a0B (a0B hh)))⟩ hk1 hd1 hF) rfl (fun ⟨h2,mb2⟩ hk2=>?_)
 dsimp only at hk2 ⊢
 repeat' (first|intro _|refine wK ?_|refine wL ?_ ?_|fail)
 refine a0E (h2,mb2,q1,q2) rfl rfl rfl hk2 ?_
 exact ent
theorem dv_fin_no (H:List Hl) (db fb:Nat) (ka:Option Addr) (kn kc:Nat) (mb sb:Nat) (ad:Option Addr) (c:Nat) (f f2:Fl) (e:Int) (h:Hid) (x:StD) (st:Sto) (im:List (BitVec 8)) (hm:x.may=true) (ho:x.on=true) (htr:x.t=0) (hx:x.Rd (stars H)) (hk:FlOk f h) (hd:f.pw.isDown=false)
  (hp:st.p.ok) (hR:RR st.p.n st.p.z st.d.M) (hf:cntS st.d.M=st.p.n) (hl:count st.len st.p.z=st.p.k) (him:imgB st.p st.d st.len=im) (hi1:1≤im.length) (hi2:im.length≤512) (hsh:sha im=x.m.h.l) (hF:finF f x im=(f2,e)) (he:e≠0) :
  Spec Tryz.prog 80 [.pointer (some ⟨db,0,none⟩)] (dvB db fb ka kn kc (pM mb)::meB mb x (some ⟨sb,0,none⟩) :: .any (stP st fb sb)::fB fb ad c f h::fR ad c f::H) (fun h':Hid=>FlOk f2 h') (fun _=>I e)
   (fun h'=>dvB db fb ka kn kc (pM mb)::fB fb ad c f2 h'::fR ad c f2::H):=by
 refine sF (res:=fun h':Hid=>[dvB db fb ka kn kc (pM mb),fB fb ad c f2 h',fR ad c f2]) [dvB db fb ka kn kc (pM mb),meB mb x (some ⟨sb,0,none⟩),.any (stP st fb sb),fB fb ad c f h,fR ad c f] H Tryz.func80 Tryz.ntmps80 fun W=>?_
 dsimp only [cA,nA]
 have ha:=StD.may_a hm
 obtain ⟨sN,hsN⟩:∃ sN,(1 - x.a).toNat=sN:=⟨_,rfl⟩
 have hs2:sN<2:=by omega
 have hsub:(1:Int) - x.a=(sN:Int):=by omega
 unfold finF at hF
 rw [hsN] at hF
 have hup:=slotW_ok (f:=f) (s:=sN) (x:=im)
 obtain ⟨⟨f1,v1⟩,hr1⟩:∃ r,slotW f sN im=r:=⟨_,rfl⟩
 rw [hr1] at hF hup
 dsimp only at hF hup
 have hact:∀ r0 r1 r2,(copyS (actS x) r0 r1 r2).may=true:=fun r0 r1 r2=>by rw [a3P];exact b7Q hm ho htr
 repeat' (first|intro _|(refine k_fn 33 ?_;refine a5Q db mb (fun _=>dv_Load _ db fb ka kn kc mb x (some ⟨sb,0,none⟩)) rfl (fun _ _=>?_))|(refine a0K ?_;refine a0F (b:=mb) (i:=17) rfl rfl ?_)|(refine k_fn 124 ?_;(refine a0T (stP st fb sb) (fun _=>so_Image _ st fb sb hp hR hf hl) rfl (fun ⟨a19,c19⟩ _=>?_);(try dsimp only);rw [him]))|refine wK ?_|refine wL ?_ ?_|fail)
 refine a0H [(4,_),(3,_)] rtD27_4 [1,8] [⟨[0,2,3,4,5,6,7],[],some 1⟩,⟨[],[2,3,4,5,6,7],some 8⟩,⟨[9],[],none⟩] mixed cv (by kernel_rfl) (by kernel_rfl) ?_
 repeat' (first|intro _|refine sg ?_|(refine a1E ?_;refine po (by first|refine a0F (b:=mb) (i:=16) rfl rfl fz|fail) ?_)|refine pw ?_|refine pdd ?_|(refine k_fn 56 ?_;(refine a0A (fun hh=>b7T _ a19 c19 im _ (a0I hh) (by omega) hsh) rfl (fun ⟨a23,c23⟩ _=>?_);(try dsimp only)))|(refine k_fn 66 ?_;refine a0A (fun hh=>(a4K _ a23 x.m.h.ad c23 x.m.h.cap x.m.h.l x.m.h.l (a0I hh) hx.m.up).bv (b:=true) (by simp)) rfl (fun _ _=>?_))|refine ow ?_|fail)
 all_goals dsimp only [cA,nA]
 repeat' (first|intro _|refine wK ?_|refine wL ?_ ?_|fail)
 refine a0H [(0,_),(3,_),(4,_)] rtD27_5 [11] [⟨[0,1,2,3,4,5,6,7,8,9,10],[],some 11⟩,⟨[12],[],none⟩] mixed cv (by kernel_rfl) (by kernel_rfl) ?_
 repeat' (first|intro _|refine sg ?_|(refine a1E ?_;refine po (by first|refine a0F (b:=db) (i:=1) rfl rfl fz|refine a0F (b:=mb) (i:=0) rfl rfl fz|fail) ?_)|(refine a1I .sub ?_;refine po (by first|((refine a3D rfl rfl (by omega) ?_;rw [hsub]);all_goals exact fz)|fail) ?_)|refine pw ?_|refine pdd ?_|(refine k_fn 31 ?_;(refine a1J fb ad c (fun hh=>b8G _ fb ad c f h sN a19 c19 im hs2 hk (a0I (a0B (a0B hh))) hi1 hi2 hd) rfl (fun h1 hk1=>?_);(rw [hr1] at hk1 ⊢;dsimp only at hk1 ⊢)))|refine ow ?_|fail)
 all_goals dsimp only [cA,nA]
 by_cases hv1:v1≠0
 ·rw [if_pos hv1] at hF
  obtain ⟨e1,e2⟩:=Prod.mk.inj hF
  subst e1 e2
  repeat' (first|intro _|(refine a0D .neq ?_;refine a3R rfl rfl hv1 ?_)|refine wK ?_|refine wL ?_ ?_|fail)
  refine a0E h1 rfl rfl rfl hk1 ?_
  exact ent
 rw [if_neg hv1] at hF
 have hv1:v1=0:=Decidable.not_not.1 hv1
 subst hv1
 have hd1:=hup rfl
 repeat' (first|intro _|(refine k_fn 126 ?_;(refine a0A (fun _=>bt_Activate _ x ⟨hx.s0.up,hx.s1.up,hx.m.up⟩ hm ho htr) rfl (fun ⟨q1,q2⟩ _=>?_);(try dsimp only)))|(refine a1O ?_;refine a1D rfl (fun b8=>?_))|refine wK ?_|refine wL ?_ ?_|fail)
 refine a0V (dvB db fb ka kn kc (pM mb)::fB fb ad c f1 h1::fR ad c f1::[rowL q1 (actS x).s0.h.l,rowL q2 (actS x).s1.h.l,.any (stars H)]) (Ent.out ent) (fun hh=>a7R _ db fb ka kn kc (pM mb) ad c f1 f2 e h1 (copyS (actS x) q1 q2 (none,0)) none (hact _ _ _) ⟨a0I (T:=5) (ad:=q1.1) (c:=q1.2) (l:=(actS x).s0.h.l) (a0B (a0B (a0B hh))),a0I (T:=5) (ad:=q2.1) (c:=q2.2) (l:=(actS x).s1.h.l) (a0B (a0B (a0B hh))),rs00 (a0B (a0B (a0B hh)))⟩ hk1 hd1 hF he) rfl (fun h2 hk2=>?_)
 repeat' (first|intro _|refine wK ?_|refine wL ?_ ?_|fail)
 refine a0E h2 rfl rfl rfl hk2 ?_
 exact ent
end Go.Dp
namespace Go.Dp
open Go.RowKit Go.Proofs
theorem b2M (H:List Hl) (x:StD) (v:BitVec 32):Spec Tryz.prog 118 [x.V,W4 v] H (fun _:Unit=>True) (fun _ => .bool (x.newer v)) (fun _=>H):=by
 refine sP (res:=fun _=>[]) H Tryz.func118 Tryz.ntmps118 fun W=>?_
 cases hm:x.may
 ·obtain ⟨a,t,f,g,s0,s1,on,m⟩:=x
  dsimp only [StD.V,StD.c]
  repeat' (first|intro _|(refine k_fn 97 ?_;refine a0A (fun _=>(a4D _ ⟨a,t,f,g,s0,s1,on,m⟩).bv (b:=false) hm) rfl (fun _ _=>?_))|refine wK ?_|refine wL ?_ ?_|fail)
  refine a0E () rfl rfl ?_ trivial ?_
  ·simp [StD.newer,hm]
  ·exact ent
 ·have ha:=StD.may_a hm
  obtain ⟨a,t,f,g,s0,s1,on,m⟩:=x
  dsimp only at ha
  dsimp only [StD.V,StD.c]
  rcases ha with rfl|rfl
  all_goals
   repeat' (first|intro _|(refine k_fn 97 ?_;refine a0A (fun _=>(a4D _ ⟨_,t,f,g,s0,s1,on,m⟩).bv (b:=true) hm) rfl (fun _ _=>?_))|(refine a0J ?_;first|refine a1C 0 4 rfl rfl rfl (by decide) rfl ?_|refine a1C 1 7 rfl rfl rfl (by decide) rfl ?_)|(refine c2J ?_;(refine b4J rfl ?_;cases on))|refine wK ?_|refine wL ?_ ?_|fail)
  all_goals (refine a0E () rfl rfl ?_ trivial ?_;· simp only [StD.newer,hm,StD.cur];refine congrArg Value.bool ?_;first|(simp;done)|(simp;omega))
  all_goals exact ent
end Go.Dp
