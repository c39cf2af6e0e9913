/-
  Rows of bits, their words and their bytes, plain.
  Places that are set, counted; how the library counts them; plain.
  Rows of bits: places, first, count, xor, packed and unpacked; plain.
  vec.Vec: a row of bits as data; New, within, Len, Has, Set, Of, walked.
  vec.List, Count, walked; bits.OnesCount64.
  Rows of bits in any number.
  vec.Bytes, First, walked; bits.TrailingZeros64 with its table.
  vec.Same, walked; slices.Equal of words.
  vec.Copy, Xor, walked.
  downpourlaw5: awake, VecSets, VecOrder, walked.
  vec: rows that there aren't; vec.From; downpourlaw5: first, VecNil, VecTwice, walked.
  elim: rows and matrices as data; row.xor, New, walked.
  elim: reduced, Add, Rank, walked.
  Conditions: those that stand in each theorem.
-/
import Derived.Test.YtcblcmdikhllbaaGreatDoorQTopSwitch3
import Derived.Lib.TrailingZeros
import Derived.Test.YtcblcmdikhllbaaGreatDoorQTopSwitch4
import Derived.Test.YtcblcmdikhllbaaGreatDoorQTopSwitch5
set_option linter.unusedVariables false
set_option linter.unusedSimpArgs false
namespace Go.Dp
def wordOf (l:List Bool) (k:Nat):BitVec 64:=(BitVec.iunfoldr (fun (i:Fin 64) (_:Unit)=>((),l.getD (64*k+i.val) false)) ()).2
theorem wordOf_bit (l:List Bool) (k j:Nat) (hj:j<64):(wordOf l k).getLsbD j=l.getD (64*k+j) false :=
 BitVec.iunfoldr_getLsbD (f:=fun (i:Fin 64) (_:Unit)=>((),l.getD (64*k+i.val) false)) (fun _=>()) ⟨j,hj⟩ (fun _=>rfl)
def nw (n:Nat):Nat:=(n+63) / 64
def words (l:List Bool):List (BitVec 64):=(List.range (nw l.length)).map (wordOf l)
theorem words_len (l:List Bool):(words l).length=nw l.length:=by simp [words]
theorem words_at (l:List Bool) (k:Nat) (h:k<(words l).length):(words l)[k]=wordOf l k:=by simp [words]
theorem words_at? (l:List Bool) (k:Nat) (h:k<nw l.length):(words l)[k]?=some (wordOf l k):=by simp [words,h]
theorem word_ext {x y:BitVec 64} (h:∀ j,j<64→x.getLsbD j=y.getLsbD j):x=y:=BitVec.eq_of_getLsbD_eq h
theorem one_shl_bit (m j:Nat) (hj:j<64) (hm:m<64):(1#64 <<< m).getLsbD j=decide (j=m):=by
 rw [BitVec.getLsbD_shiftLeft]
 by_cases h:j=m
 ·subst h;simp [hj]
 ·by_cases h2:j<m
  ·simp [h,h2]
  ·have:(1#64).getLsbD (j - m)=false:=by
    rw [BitVec.getLsbD_one];simp;omega
   simp [h,this]
theorem atD_set (l:List Bool) (i j:Nat) (b d:Bool):(l.set i b).getD j d=if i=j∧i<l.length then b else l.getD j d:=by
 simp only [List.getD_eq_getElem?_getD,List.getElem?_set]
 by_cases h:i=j
 ·subst h
  by_cases h2:i<l.length <;> simp [h2]
 ·simp [h]
theorem word_off (l:List Bool) (i:Nat):wordOf (l.set i false) (i / 64)=wordOf l (i / 64) &&& ~~~(1#64 <<< (i % 64)):=by
 refine word_ext (fun j hj=>?_)
 rw [wordOf_bit _ _ _ hj,BitVec.getLsbD_and,BitVec.getLsbD_not,one_shl_bit _ _ hj (by omega),wordOf_bit _ _ _ hj,atD_set]
 have hd:i=64*(i / 64)+i % 64:=by omega
 by_cases h:j=i % 64
 ·subst h
  rw [←hd]
  by_cases h2:i<l.length
  ·simp [h2]
  ·simp [h2,List.getD_eq_getElem?_getD]
 ·have : ¬ i=64*(i / 64)+j:=by omega
  simp [h,this,hj]
theorem word_on (l:List Bool) (i:Nat) (hi:i<l.length):wordOf (l.set i true) (i / 64)=wordOf l (i / 64) ||| (1#64 <<< (i % 64)):=by
 refine word_ext (fun j hj=>?_)
 rw [wordOf_bit _ _ _ hj,BitVec.getLsbD_or,one_shl_bit _ _ hj (by omega),wordOf_bit _ _ _ hj,atD_set]
 have hd:i=64*(i / 64)+i % 64:=by omega
 by_cases h:j=i % 64
 ·subst h
  rw [←hd];simp [hi]
 ·have : ¬ i=64*(i / 64)+j:=by omega
  simp [h,this]
theorem word_else (l:List Bool) (i k:Nat) (b:Bool) (h:k≠i / 64):wordOf (l.set i b) k=wordOf l k:=by
 refine word_ext (fun j hj=>?_)
 rw [wordOf_bit _ _ _ hj,wordOf_bit _ _ _ hj,atD_set,if_neg (by omega)]
theorem words_set (l:List Bool) (i:Nat) (b:Bool):words (l.set i b)=(words l).set (i / 64) (wordOf (l.set i b) (i / 64)):=by
 refine List.ext_getElem ?_ (fun k h1 h2=>?_)
 ·simp [words_len]
 ·rw [words_at,List.getElem_set]
  by_cases h:i / 64=k
  ·rw [if_pos h,h]
  ·rw [if_neg h,words_at,word_else _ _ _ _ (fun q=>h q.symm)]
theorem words_off (l:List Bool) (i:Nat):words (l.set i false)=(words l).set (i / 64) (wordOf l (i / 64) &&& ~~~(1#64 <<< (i % 64))):=by rw [words_set,word_off]
theorem words_on (l:List Bool) (i:Nat) (hi:i<l.length):words (l.set i true)=(words l).set (i / 64) (wordOf l (i / 64) ||| (1#64 <<< (i % 64))):=by rw [words_set,word_on _ _ hi]
def xorV (a b:List Bool):List Bool:=List.zipWith (· ^^ ·) a b
theorem xorV_len {a b:List Bool} (h:a.length=b.length):(xorV a b).length=a.length:=by simp [xorV,h]
theorem xorV_getD {a b:List Bool} (h:a.length=b.length) (j:Nat):(xorV a b).getD j false=(a.getD j false ^^ b.getD j false):=by
 simp only [xorV,List.getD_eq_getElem?_getD,List.getElem?_zipWith]
 by_cases hj:j<a.length
 ·have hj':j<b.length:=by omega
  simp [hj,hj']
 ·have hj' : ¬ j<b.length:=by omega
  simp [hj,hj']
theorem word_xor {a b:List Bool} (h:a.length=b.length) (k:Nat):wordOf (xorV a b) k=wordOf a k ^^^ wordOf b k:=by
 refine word_ext (fun j hj=>?_)
 rw [wordOf_bit _ _ _ hj,BitVec.getLsbD_xor,wordOf_bit _ _ _ hj,wordOf_bit _ _ _ hj,xorV_getD h]
theorem words_xor {a b:List Bool} (h:a.length=b.length):words (xorV a b)=List.zipWith (· ^^^ ·) (words a) (words b):=by
 refine List.ext_getElem ?_ (fun k h1 h2=>?_)
 ·simp [words_len,xorV_len h,h]
 ·rw [words_at,List.getElem_zipWith,words_at,words_at,word_xor h]
theorem word_has (l:List Bool) (i:Nat):((wordOf l (i / 64) >>> (i % 64)) &&& 1#64).toNat=(l.getD i false).toNat:=by
 have hb:((wordOf l (i / 64) >>> (i % 64)) &&& 1#64)=if l.getD i false then 1#64 else 0#64:=by
  refine word_ext (fun j hj=>?_)
  rw [BitVec.getLsbD_and,BitVec.getLsbD_ushiftRight,BitVec.getLsbD_one]
  by_cases h:j=0
  ·subst h
   rw [wordOf_bit _ _ _ (by omega),show 64*(i / 64)+(i % 64+0)=i by omega]
   cases l.getD i false <;> simp
  ·cases l.getD i false <;> simp [h]
 rw [hb];cases l.getD i false <;> rfl
theorem getD_out {l:List Bool} {j:Nat} (h:l.length≤j):l.getD j false=false:=by simp [List.getD_eq_getElem?_getD,h]
theorem bits_ext {a b:List Bool} (h:a.length=b.length) (hb:∀ j,j<a.length→a.getD j false=b.getD j false):a=b:=by
 refine List.ext_getElem h (fun j h1 h2=>?_)
 have:=hb j h1
 simpa [List.getD_eq_getElem?_getD,h1,h2] using this
theorem words_zero (n:Nat):words (List.replicate n false)=List.replicate (nw n) 0#64:=by
 refine List.ext_getElem ?_ (fun k h1 h2=>?_)
 ·simp [words_len]
 ·rw [words_at,List.getElem_replicate]
  refine word_ext (fun j hj=>?_)
  rw [wordOf_bit _ _ _ hj]
  by_cases h:64*k+j<n <;> simp [List.getD_eq_getElem?_getD,List.getElem?_replicate,h]
def cnt (f:Nat→Bool) (m:Nat):Nat:=((List.range m).filter f).length
theorem cnt_succ (f:Nat→Bool) (m:Nat):cnt f (m+1)=cnt f m+(f m).toNat:=by
 simp only [cnt,List.range_succ,List.filter_append,List.length_append]
 cases h:f m <;> simp [h]
theorem cnt_le (f:Nat→Bool) (m:Nat):cnt f m≤m:=by
 induction m with
 | zero=>exact Nat.le_refl _
 | succ m ih=>rw [cnt_succ];cases f m <;> simp <;> omega
def placesN (f:Nat→Bool) (m:Nat):List Nat:=(List.range m).filter f
theorem places_succ (f:Nat→Bool) (m:Nat):placesN f (m+1)=placesN f m++if f m then [m] else []:=by
 simp only [placesN,List.range_succ,List.filter_append]
 cases h:f m <;> simp [h]
theorem places_len (f:Nat→Bool) (m:Nat):(placesN f m).length=cnt f m:=rfl
theorem places_mem {f:Nat→Bool} {m i:Nat}:i∈placesN f m↔i<m∧f i=true:=by simp [placesN]
def firstN (f:Nat→Bool):Nat→Nat
 | 0=>0
 | m+1=>if firstN f m<m then firstN f m else if f m then m else m+1
theorem firstN_le (f:Nat→Bool) (m:Nat):firstN f m≤m:=by
 induction m with
 | zero=>exact Nat.le_refl _
 | succ m ih=>rw [firstN];split;omega;split <;> omega
theorem firstN_lo (f:Nat→Bool) (m:Nat):∀ j,j<firstN f m→f j=false:=by
 induction m with
 | zero=>intro j hj;simp [firstN] at hj
 | succ m ih =>
  intro j hj
  rw [firstN] at hj
  split at hj
  ·exact ih j hj
  ·have:firstN f m=m:=by have:=firstN_le f m;omega
   split at hj
   ·exact ih j (by omega)
   ·by_cases h:j<m
    ·exact ih j (by omega)
    ·have:j=m:=by omega
     subst this
     rename_i h1 h2
     simpa using h2
theorem firstN_at (f:Nat→Bool) (m:Nat) (h:firstN f m<m):f (firstN f m)=true:=by
 induction m with
 | zero=>omega
 | succ m ih =>
  rw [firstN] at h ⊢
  split
  ·rename_i h1;exact ih h1
  ·rename_i h1
   rw [if_neg h1] at h
   split
   ·assumption
   ·rename_i h2;rw [if_neg h2] at h;omega
theorem firstN_is {f:Nat→Bool} {m i:Nat} (hi:i<m) (h1:f i=true) (h:∀ j,j<i→f j=false):firstN f m=i:=by
 rcases Nat.lt_trichotomy (firstN f m) i with hl|he|hg
 ·have:=firstN_at f m (by omega)
  rw [h _ hl] at this;cases this
 ·exact he
 ·have:=firstN_lo f m i hg
  rw [h1] at this;cases this
theorem firstN_none {f:Nat→Bool} {m:Nat} (h:∀ j,j<m→f j=false):firstN f m=m:=by
 have hle:=firstN_le f m
 rcases Nat.lt_or_ge (firstN f m) m with hl|hg
 ·have:=firstN_at f m hl
  rw [h _ hl] at this;cases this
 ·omega
def ds (w:Nat):Nat→Nat→Nat
 | 0,_=>0
 | n+1,y=>y % 2 ^ w+ds w n (y / 2 ^ w)
def alt (w:Nat):Nat→Nat
 | 0=>0
 | n+1=>(2 ^ w - 1)+2 ^ (2*w)*alt w n
theorem ctz_first (x:Nat) (h0:x≠0) (h:x<2 ^ 64):firstN x.testBit 64=Go.Lib.ctz 64 x:=by
 obtain ⟨m,hm,hk⟩:=Go.Lib.ctzFrom_spec 64 x (by omega) h
 have e:Go.Lib.ctz 64 x=Go.Lib.ctzFrom 64 x:=by simp [Go.Lib.ctz,h0]
 rw [e]
 generalize Go.Lib.ctzFrom 64 x=c at *
 refine firstN_is hk ?_ (fun j hj=>?_)
 ·rw [hm,Nat.testBit_two_pow_mul];simp
 ·rw [hm,Nat.testBit_two_pow_mul]
  have : ¬ c≤j:=by omega
  simp [this]
abbrev at_ (l:List Bool) (j:Nat):Bool:=l.getD j false
def setI (b:List Bool) (i:Int):List Bool:=if 0≤i∧i<b.length then b.set i.toNat true else b
def bitsOf (n:Nat) (l:List Int):List Bool:=l.foldl setI (List.replicate n false)
theorem setI_len (b:List Bool) (i:Int):(setI b i).length=b.length:=by unfold setI;split <;> simp
theorem foldI_len (l:List Int):∀ b:List Bool,(l.foldl setI b).length=b.length:=by
 induction l with
 | nil=>exact fun _=>rfl
 | cons i l ih=>intro b;rw [List.foldl_cons,ih,setI_len]
theorem bitsOf_len (n:Nat) (l:List Int):(bitsOf n l).length=n:=by rw [bitsOf,foldI_len,List.length_replicate]
theorem setI_at (b:List Bool) (i:Int) (j:Nat) (hj:j<b.length):(setI b i).getD j false=(b.getD j false || decide ((j:Int)=i)):=by
 unfold setI
 split
 ·rename_i h
  rw [atD_set]
  by_cases h2:i.toNat=j
  ·have:(j:Int)=i:=by omega
   rw [if_pos ⟨h2,by omega⟩];simp [this]
  ·have : ¬ (j:Int)=i:=by omega
   rw [if_neg (fun q=>h2 q.1)];simp [this]
 ·rename_i h
  have : ¬ (j:Int)=i:=by omega
  simp [this]
theorem foldI_at (l:List Int):∀ (b:List Bool) (j:Nat),j<b.length→(l.foldl setI b).getD j false=(b.getD j false || decide ((j:Int)∈l)):=by
 induction l with
 | nil=>intro b j _;simp
 | cons i l ih =>
  intro b j hj
  rw [List.foldl_cons,ih _ _ (by rw [setI_len];exact hj),setI_at _ _ _ hj,Bool.or_assoc]
  congr 1
  simp [List.mem_cons,Bool.decide_or]
theorem rep_at (n j:Nat):(List.replicate n false).getD j false=false:=by
 by_cases h:j<n <;> simp [List.getD_eq_getElem?_getD,h]
theorem bitsOf_at (n:Nat) (l:List Int) (j:Nat) (hj:j<n):(bitsOf n l).getD j false=decide ((j:Int)∈l):=by
 rw [bitsOf,foldI_at _ _ _ (by simpa using hj),rep_at];simp
theorem bitsOf_snoc (n:Nat) (l:List Int) (i:Int):bitsOf n (l++[i])=setI (bitsOf n l) i:=by simp [bitsOf]
def listV (l:List Bool):List Int:=(placesN (at_ l) l.length).map Int.ofNat
theorem listV_len (l:List Bool):(listV l).length=cnt (at_ l) l.length:=by rw [listV,List.length_map,places_len]
theorem listV_mem {l:List Bool} {i:Int}:i∈listV l↔0≤i∧i<l.length∧at_ l i.toNat=true:=by
 simp only [listV,List.mem_map,places_mem]
 constructor
 ·rintro ⟨j,⟨h1,h2⟩,rfl⟩
  exact ⟨by simp,by simpa using h1,by simpa using h2⟩
 ·rintro ⟨h0,h1,h2⟩
  exact ⟨i.toNat,⟨by omega,h2⟩,by simp;omega⟩
def firstV (l:List Bool):Int:=if firstN (at_ l) l.length<l.length then firstN (at_ l) l.length else -1
theorem firstV_is {l:List Bool} {i:Nat} (hi:i<l.length) (h1:at_ l i=true) (h:∀ j,j<i→at_ l j=false):firstV l=i:=by
 rw [firstV,firstN_is hi h1 h,if_pos hi]
theorem firstV_none {l:List Bool} (h:∀ j,j<l.length→at_ l j=false):firstV l = -1:=by
 rw [firstV,firstN_none h,if_neg (Nat.lt_irrefl _)]
theorem word_eq_zero {l:List Bool} {k:Nat} (h:wordOf l k=0#64):∀ j,64*k≤j→j<64*(k+1)→at_ l j=false:=by
 intro j h1 h2
 have:=wordOf_bit l k (j - 64*k) (by omega)
 rw [h,show 64*k+(j - 64*k)=j by omega] at this
 simpa using this.symm
theorem first_word {l:List Bool} {k:Nat} (h0:wordOf l k≠0#64) (h:∀ j,j<64*k→at_ l j=false):firstV l=64*(k:Int)+Go.Lib.ctz 64 (wordOf l k).toNat∧Go.Lib.ctz 64 (wordOf l k).toNat<64:=by
 have hx0:(wordOf l k).toNat≠0:=fun e=>h0 (BitVec.eq_of_toNat_eq (by simpa using e))
 have hc:=ctz_first _ hx0 (wordOf l k).isLt
 have hlt:=(Go.Lib.lowest_bit 64 _ hx0 (wordOf l k).isLt).2
 rw [←hc] at hlt ⊢
 refine ⟨?_,hlt⟩
 have h1:(wordOf l k).getLsbD (firstN (wordOf l k).toNat.testBit 64)=true:=firstN_at _ 64 hlt
 rw [wordOf_bit _ _ _ hlt] at h1
 have hin:64*k+firstN (wordOf l k).toNat.testBit 64<l.length:=by
  rcases Nat.lt_or_ge (64*k+firstN (wordOf l k).toNat.testBit 64) l.length with q|q
  ·exact q
  ·rw [getD_out q] at h1;cases h1
 rw [firstV_is hin h1 (fun j hj=>?_)]
 ·push_cast;rfl
 ·by_cases h2:j<64*k
  ·exact h j h2
  ·have h3:=firstN_lo (wordOf l k).toNat.testBit 64 (j - 64*k) (by omega)
   have h4:=wordOf_bit l k (j - 64*k) (by omega)
   rw [show 64*k+(j - 64*k)=j by omega] at h4
   rw [at_,←h4];exact h3
open Go.RowKit Go.Proofs
structure VD where
 b:Nat
 n:Nat
 a:Option Addr
 c:Nat
 l:List Bool
abbrev Pv (v:VD):Value := .pointer (some ⟨v.b,0,none⟩)
structure VD.ok (v:VD):Prop where
 len:v.l.length=v.n
 hi:v.n≤256
structure RdV (A:Hp→Prop) (v:VD):Prop where
 n:Cl A ⟨v.b,0,none⟩ (I v.n)
 s:Cl A ⟨v.b,1,none⟩ (.slice v.a (nw v.n) v.c)
 w:Rs A W8 v.a v.c (words v.l)
 ok:v.ok
theorem RdV.up {A:Hp→Prop} {v:VD} {H H':List Hl} (h:RdV A v) [s:SAny H A H']:RdV (stars H) v:=⟨cl_up h.n,cl_up h.s,h.w.up,h.ok⟩
abbrev vB (b n:Nat) (a:Option Addr) (c:Nat):Hl := .box b 269 [I n,.slice a (nw n) c]
abbrev vR (n:Nat) (a:Option Addr) (c:Nat) (l:List Bool):Hl := .row 35 1 (.slice a (nw n) c) (nw n) ((words l).map W8)
theorem RdV.own {b n:Nat} {a:Option Addr} {c:Nat} {l:List Bool} {H H1 H2:List Hl} {m:Nat} [s:SBox H b 269 [I n,.slice a (nw n) c] H1] [s2:SRow H a c m 35 ((words l).map W8) H2] (hl:l.length=n) (hn:n≤256) (hh:Has H):RdV (stars H) ⟨b,n,a,c,l⟩ :=
 ⟨cl_box rfl,cl_box rfl,rx_row hh,⟨hl,hn⟩⟩
theorem VD.ok.words {v:VD} (h:v.ok):(words v.l).length=nw v.n:=by rw [words_len,h.len]
theorem nw_at {n m:Nat} (h:m<n):m / 64<nw n:=by unfold nw;omega
theorem nw_4 {n:Nat} (h:n≤256):nw n≤4:=by unfold nw;omega
def hasV (l:List Bool) (i:Int):Bool:=decide (0≤i) && at_ l i.toNat
theorem hasV_nat (l:List Bool) (i:Nat):hasV l (i:Int)=at_ l i:=by simp [hasV]
def inV (n:Nat) (i:Int):Bool:=decide (0≤i∧i<n)
theorem inV_of {n:Nat} {i:Int} (h0:0≤i) (h1:i<n):inV n i=true:=by simp [inV];omega
theorem inV_not {n:Nat} {i:Int} (h : ¬ (0≤i∧i<n)):inV n i=false:=by simp [inV];omega
theorem vec_within (H:List Hl) (v:VD) (i:Int) (h:Cl (stars H) ⟨v.b,0,none⟩ (I v.n)) :
  Spec Tryz.prog 189 [Pv v,I i] H (fun _:Unit=>True) (fun _ => .bool (inV v.n i)) (fun _=>H):=by
 refine spec_pure (res:=fun _=>[]) H Tryz.func189 rfl Tryz.ntmps189 (by kernel_rfl) rfl (fun W=>?_)
 by_cases h0:0≤i
 ·repeat' (first|intro _|refine cw ?_|refine cw2 ?_ ?_|refine o1_pneq rfl rfl ?_|(refine k_load ?_;refine ox_load_any rfl h ?_)|(refine k_binOp .lss ?_;refine o1_lss_d rfl rfl ?_)|refine ow ?_|refine ow2 ?_ ?_|fail)
  refine rt_tmp () rfl rfl (by simp [inV,h0]) trivial ?_
  exact ent
 ·repeat' (first|intro _|refine cw ?_|refine cw2 ?_ ?_|refine o1_pneq rfl rfl ?_|(refine k_load ?_;refine ox_load_any rfl h ?_)|refine ow ?_|refine ow2 ?_ ?_|fail)
  refine rt_tmp () rfl rfl (by rw [inV_not (by omega)]) trivial ?_
  exact ent
theorem vec_Len (H:List Hl) (v:VD) (h:Cl (stars H) ⟨v.b,0,none⟩ (I v.n)) :
  Spec Tryz.prog 142 [Pv v] H (fun _:Unit=>True) (fun _=>I v.n) (fun _=>H):=by
 refine spec_pure (res:=fun _=>[]) H Tryz.func142 rfl Tryz.ntmps142 (by kernel_rfl) rfl (fun W=>?_)
 repeat' (first|intro _|refine cw ?_|refine cw2 ?_ ?_|refine o1_peql rfl rfl ?_|(refine k_load ?_;refine ox_load_any rfl h ?_)|refine ow ?_|refine ow2 ?_ ?_|fail)
 refine rt_tmp () rfl rfl rfl trivial ?_
 exact ent
theorem bit_of (b:Bool):decide (((b.toNat:Nat):Int)=1)=b:=by cases b <;> rfl
theorem vec_Has (H:List Hl) (v:VD) (i:Int) (h:RdV (stars H) v) :
  Spec Tryz.prog 143 [Pv v,I i] H (fun _:Unit=>True) (fun _ => .bool (hasV v.l i)) (fun _=>H):=by
 refine spec_pure (res:=fun _=>[]) H Tryz.func143 rfl Tryz.ntmps143 (by kernel_rfl) rfl (fun W=>?_)
 by_cases hi:0≤i∧i<v.n
 ·obtain ⟨m,rfl⟩:∃ m:Nat,i=m:=⟨i.toNat,by omega⟩
  have hm:m<v.n:=by omega
  have h256:=h.ok.hi
  have hwl:=h.ok.words
  have hlt:m / 64<(words v.l).length:=by rw [hwl];exact nw_at hm
  have hw:(words v.l)[m / 64]?=some (wordOf v.l (m / 64)):=words_at? _ _ (by rw [h.ok.len];exact nw_at hm)
  have hsh:((m:Int) % 64).toNat=m % 64:=by omega
  repeat' (first|intro _|refine cw ?_|refine cw2 ?_ ?_|(refine k_fn 189 ?_;refine o1_call (fun _=>(vec_within _ v m (cl_up h.n)).bv (b:=true) (inV_of hi.1 hi.2)) rfl (fun _ _=>?_))|(refine k_load ?_;first|refine ox_load_any rfl h.s ?_|refine o1_load_av (m / 64) _ rfl h.w hw ?_)|(refine k_binOp .quo ?_;refine o1_quo rfl rfl (by omega) ?_)|(refine k_indexAddr ?_;refine o1_ia (m / 64) rfl rfl h.w hwl.symm (by omega) hlt ?_)|(refine k_binOp .shr ?_;(refine o1_ushr rfl rfl (by omega) ?_;rw [hsh]))|(refine k_binOp .and ?_;refine o1_uand (v:=1#64) rfl rfl ?_)|(refine k_binOp .eql ?_;refine o1_eql_d rfl rfl ?_)|refine ow ?_|refine ow2 ?_ ?_|fail)
  refine rt_tmp () rfl rfl ?_ trivial ?_
  ·rw [hasV_nat,word_has,bit_of]
  exact ent
 ·repeat' (first|intro _|refine cw ?_|refine cw2 ?_ ?_|(refine k_fn 189 ?_;refine o1_call (fun _=>(vec_within _ v i (cl_up h.n)).bv (b:=false) (inV_not hi)) rfl (fun _ _=>?_))|refine ow ?_|refine ow2 ?_ ?_|fail)
  refine rt_tmp () rfl rfl ?_ trivial ?_
  ·congr 1
   simp only [hasV]
   by_cases h0:0≤i
   ·have:v.l.length≤i.toNat:=by rw [h.ok.len];omega
    have h3:at_ v.l i.toNat=false:=getD_out this
    rw [h3,Bool.and_false]
   ·simp [h0]
  exact ent
def setB (l:List Bool) (i:Int) (on:Bool):List Bool:=if 0≤i∧i<l.length then l.set i.toNat on else l
theorem setB_true (l:List Bool) (i:Int):setB l i true=setI l i:=rfl
theorem setB_nat (l:List Bool) (i:Nat) (on:Bool) (h:i<l.length):setB l i on=l.set i on:=by
 rw [setB,if_pos (by omega)];rfl
theorem setB_out (l:List Bool) (i:Int) (on:Bool) (h : ¬ (0≤i∧i<l.length)):setB l i on=l:=by rw [setB,if_neg h]
theorem vec_Set (H:List Hl) (b n:Nat) (a:Option Addr) (c:Nat) (l:List Bool) (i:Int) (on:Bool) (hl:l.length=n) (hn:n≤256) :
  Spec Tryz.prog 178 [.pointer (some ⟨b,0,none⟩),I i,.bool on] (vB b n a c::vR n a c l::H) (fun _:Unit=>True) (fun _ => .bool (inV n i)) (fun _=>vB b n a c::vR n a c (setB l i on)::H):=by
 refine spec_fn (res:=fun _:Unit=>[vB b n a c,vR n a c (setB l i on)]) [vB b n a c,vR n a c l] H Tryz.func178 rfl Tryz.ntmps178 (by kernel_rfl) rfl (fun W=>?_)
 dsimp only [List.cons_append,List.nil_append]
 by_cases hi:0≤i∧i<n
 ·obtain ⟨m,rfl⟩:∃ m:Nat,i=m:=⟨i.toNat,by omega⟩
  have hm:m<n:=by omega
  have hml:m<l.length:=by omega
  have hsh:((m:Int) % 64).toNat=m % 64:=by omega
  have hk:m / 64<nw n:=nw_at hm
  have k1:∀ l':List Bool,l'.length=n→(words l').length=nw n:=fun l' h=>by rw [words_len,h]
  have hl2:(l.set m false).length=n:=by rw [List.length_set];exact hl
  have w1:(words l)[m / 64]?=some (wordOf l (m / 64)):=words_at? _ _ (by rw [hl];exact hk)
  have w2:(words (l.set m false))[m / 64]?=some (wordOf (l.set m false) (m / 64)):=words_at? _ _ (by rw [hl2];exact hk)
  have hon:=words_on (l.set m false) m (by omega)
  rw [List.set_set] at hon
  rw [setB_nat _ _ _ hml]
  cases on
  all_goals
   repeat' (first|intro _|refine cw ?_|refine cw2 ?_ ?_|(refine k_fn 189 ?_;refine o1_call (fun _=>(vec_within _ ⟨b,n,a,c,l⟩ m (cl_box rfl)).bv (b:=true) (inV_of hi.1 hi.2)) rfl (fun _ _=>?_))|(refine k_binOp .quo ?_;refine o1_quo rfl rfl (by omega) ?_)|(refine k_binOp .shl ?_;(refine o1_ushl (u:=1#64) rfl rfl (by omega) ?_;rw [hsh]))|(refine k_indexAddr ?_;first|refine o1_iah (enc:=W8) (xs:=words l) (m / 64) rfl rfl rx_row (k1 _ hl).symm (by omega) (by rw [k1 _ hl];exact hk) ?_|refine o1_iah (enc:=W8) (xs:=words (l.set m false)) (m / 64) rfl rfl rx_row (k1 _ hl2).symm (by omega) (by rw [k1 _ hl2];exact hk) ?_)|(refine k_load ?_;first|refine o1_load_hv (enc:=W8) (c:=c) (m / 64) _ rfl rx_row w1 ?_|refine o1_load_hv (enc:=W8) (c:=c) (m / 64) _ rfl rx_row w2 ?_)|(refine k_store ?_;first|(refine ox_store_rowenc (c:=c) W8 (m / 64) rfl rfl hk rfl ?_;rw [←words_off])|(refine ox_store_rowenc (c:=c) W8 (m / 64) rfl rfl hk rfl ?_;rw [←hon]))|refine ow ?_|refine ow2 ?_ ?_|fail)
   refine rt_tmp () rfl rfl (by rw [inV_of hi.1 hi.2]) trivial ?_
   exact ent
 ·rw [setB_out _ _ _ (by rw [hl];exact hi)]
  repeat' (first|intro _|refine cw ?_|refine cw2 ?_ ?_|(refine k_fn 189 ?_;refine o1_call (fun _=>(vec_within _ ⟨b,n,a,c,l⟩ i (cl_box rfl)).bv (b:=false) (inV_not hi)) rfl (fun _ _=>?_))|refine ow ?_|refine ow2 ?_ ?_|fail)
  refine rt_tmp () rfl rfl (by rw [inV_not hi]) trivial ?_
  exact ent
theorem vec_New (H:List Hl) (n:Nat) (hn:n≤256) :
  Spec Tryz.prog 177 [I n] H (fun _:Nat × Option Addr × Nat=>True) (fun r => .pointer (some ⟨r.1,0,none⟩)) (fun r=>vB r.1 n r.2.1 r.2.2::vR n r.2.1 r.2.2 (List.replicate n false)::H):=by
 refine spec_pure (res:=fun r:Nat × Option Addr × Nat=>[vB r.1 n r.2.1 r.2.2,vR n r.2.1 r.2.2 (List.replicate n false)]) H Tryz.func177 rfl Tryz.ntmps177 (by kernel_rfl) rfl (fun W=>?_)
 have h4:=nw_4 hn
 have hq:((n:Int)+64 - 1) / 64=(nw n:Nat):=by unfold nw;omega
 repeat' (first|intro _|refine cw ?_|refine cw2 ?_ ?_|(refine k_binOp .quo ?_;(refine o1_quo rfl rfl (by omega) ?_;rw [hq]))|(refine k_makeSlice ?_;refine o1_maker (enc:=W8) 0#64 (nw n) rfl rfl rfl rfl rfl (by omega) (by omega) (fun b2=>?_))|(refine k_box ?_;refine o1_box rfl rfl (fun b1=>?_))|refine ow ?_|refine ow2 ?_ ?_|fail)
 rw [←words_zero]
 refine rt_row (T:=35) (b:=b2) (m:=nw n) (cp:=nw n) (cs:=(words (List.replicate n false)).map W8) (by rw [List.length_map,words_len,List.length_replicate]) rfl (by omega) ?_
 refine rt_tmp (b1,some ⟨b2,0,none⟩,nw n) rfl rfl rfl trivial ?_
 exact ent
theorem vec_Of (H:List Hl) (n:Nat) (ad:Option Addr) (c:Nat) (l:List Int) (hn:n≤256) (h:Rs (stars H) I ad c l) :
  Spec Tryz.prog 136 [I n,.slice ad l.length c] H (fun _:Nat × Option Addr × Nat=>True) (fun r => .pointer (some ⟨r.1,0,none⟩)) (fun r=>vB r.1 n r.2.1 r.2.2::vR n r.2.1 r.2.2 (bitsOf n l)::H):=by
 refine spec_pure (res:=fun r:Nat × Option Addr × Nat=>[vB r.1 n r.2.1 r.2.2,vR n r.2.1 r.2.2 (bitsOf n l)]) H Tryz.func136 rfl Tryz.ntmps136 (by kernel_rfl) rfl (fun W=>?_)
 have hle:=h.le
 have hbg:=h.big
 repeat' (first|intro _|refine cw ?_|refine cw2 ?_ ?_|(refine k_fn 177 ?_;(refine o1_call (fun _=>vec_New _ n hn) rfl (fun ⟨b1,a1,c1⟩ _=>?_);dsimp only))|refine ow ?_|refine ow2 ?_ ?_|fail)
 refine st_loop (S:=Nat) (fun i=>[(5,.pointer (some ⟨b1,0,none⟩)),(10,.slice ad l.length c),(11,I l.length),(12,I i)]) (fun i=>[vB b1 n a1 c1,vR n a1 c1 (bitsOf n (l.take i)),.any (stars H)]) (fun i=>i≤l.length) (fun i=>l.length - i) 0 (Nat.zero_le _)
  cv (by show Ent _ [vB b1 n a1 c1,vR n a1 c1 (bitsOf n (l.take 0)),.any (stars H)];rw [List.take_zero];show Ent _ [vB b1 n a1 c1,vR n a1 c1 (List.replicate n false),.any (stars H)];exact ent) ?_
 intro i hi
 by_cases hlt:i<l.length
 ·have e1:setB (bitsOf n (l.take i)) l[i] true=bitsOf n (l.take (i+1)):=by
   rw [setB_true,←bitsOf_snoc,List.take_succ_eq_append_getElem hlt]
  repeat' (first|intro _|refine cw ?_|refine cw2 ?_ ?_|(refine k_indexAddr ?_;refine o1_ia i rfl rfl h rfl rfl hlt ?_)|(refine k_load ?_;refine o1_load_ia i rfl h hlt ?_)|(refine k_fn 178 ?_;(refine o1_call_br b1 a1 c1 (fun _=>vec_Set _ b1 n a1 c1 (bitsOf n (l.take i)) l[i] true (bitsOf_len _ _) hn) rfl (fun _ _=>?_);rw [e1]))|refine ow ?_|refine ow2 ?_ ?_|fail)
  refine nx_again (i+1) (by omega) (by omega) cv ?_
  exact ent
 ·have:i=l.length:=by omega
  subst this
  repeat' (first|intro _|refine cw ?_|refine cw2 ?_ ?_|refine ow ?_|refine ow2 ?_ ?_|fail)
  refine rt_tmp (b1,a1,c1) rfl rfl rfl trivial ?_
  rw [List.take_length]
  exact ent
section
variable {P:Program} {n:Nat} {H:List Hl} {e:Ev} {C:Value→List Hl→Prop} {ty t t':TypeId} {x y:Operand} {p:Int}
end
def listT (l:List Bool) (i:Nat):List Int:=(placesN (at_ l) i).map Int.ofNat
theorem listT_on {l:List Bool} {i:Nat} (h:at_ l i=true):listT l (i+1)=listT l i++[(i:Int)]:=by rw [listT,places_succ,h];simp [listT]
theorem listT_off {l:List Bool} {i:Nat} (h:at_ l i=false):listT l (i+1)=listT l i:=by rw [listT,places_succ,h];simp [listT]
theorem listT_len (l:List Bool) (i:Nat):(listT l i).length≤i:=by rw [listT,List.length_map,places_len];exact cnt_le _ _
theorem vec_List (H:List Hl) (v:VD) (h:RdV (stars H) v) :
  Spec Tryz.prog 86 [Pv v] H (fun _:Option Addr × Nat=>True) (fun r => .slice r.1 (listV v.l).length r.2) (fun r => .row 3 1 (.slice r.1 (listV v.l).length r.2) (listV v.l).length ((listV v.l).map I)::H):=by
 refine spec_pure (res:=fun r:Option Addr × Nat=>[.row 3 1 (.slice r.1 (listV v.l).length r.2) (listV v.l).length ((listV v.l).map I)]) H Tryz.func86 rfl Tryz.ntmps86 (by kernel_rfl) rfl (fun W=>?_)
 have hn:=h.ok.hi
 repeat' (first|intro _|refine cw ?_|refine cw2 ?_ ?_|(refine k_fn 142 ?_;refine o1_call (fun _=>vec_Len _ v (cl_up h.n)) rfl (fun _ _=>?_))|refine ow ?_|refine ow2 ?_ ?_|fail)
 refine st_ent (ent_nil 3 I) ?_
 refine st_loop (S:=Nat × Option Addr × Nat) (fun s=>[(0,Pv v),(3,.slice s.2.1 (listT v.l s.1).length s.2.2),(6,I v.n),(7,I s.1)]) (fun s=>[.row 3 1 (.slice s.2.1 (listT v.l s.1).length s.2.2) (listT v.l s.1).length ((listT v.l s.1).map I),.any (stars H)]) (fun s=>s.1≤v.n) (fun s=>v.n - s.1) (0,none,0) (Nat.zero_le _)
  cv (by show Ent _ [.row 3 1 (.slice none 0 0) 0 [],.any (stars H)];exact ent) ?_
 rintro ⟨i,a1,c1⟩ hi
 dsimp only at hi ⊢
 have hll:=listT_len v.l i
 by_cases hlt:i<v.n
 ·cases hb:at_ v.l i
  ·repeat' (first|intro _|refine cw ?_|refine cw2 ?_ ?_|(refine k_fn 143 ?_;refine o1_call (fun _=>(vec_Has _ v i h.up).bv (b:=false) (by rw [hasV_nat,hb])) rfl (fun _ _=>?_))|refine ow ?_|refine ow2 ?_ ?_|fail)
   refine nx_again (i+1,a1,c1) (by show i+1≤v.n;omega) (by show v.n - (i+1)<v.n - i;omega) (cov_cons rfl rfl (cov_cons rfl ?_ cv)) ?_
   ·show Value.slice a1 _ c1=Value.slice a1 (listT v.l (i+1)).length c1
    rw [listT_off hb]
   ·show Ent _ [.row 3 1 (.slice a1 (listT v.l (i+1)).length c1) (listT v.l (i+1)).length ((listT v.l (i+1)).map I),.any (stars H)]
    rw [listT_off hb]
    exact ent
  ·repeat' (first|intro _|refine cw ?_|refine cw2 ?_ ?_|(refine k_fn 143 ?_;refine o1_call (fun _=>(vec_Has _ v i h.up).bv (b:=true) (by rw [hasV_nat,hb])) rfl (fun _ _=>?_))|(refine k_buildSlice ?_;refine o1_lit_enc I [(i:Int)] rfl rfl rfl (fun _=>rfl) rfl rfl rfl (fun b3=>?_))|(refine k_call ?_;refine ox_append (xs:=listT v.l i) (ys:=[(i:Int)]) rfl rfl (rx_box rfl (by decide)) rfl rfl (fun _=>rfl) (by omega) (by omega) (fun a4 c4=>?_))|refine ow ?_|refine ow2 ?_ ?_|fail)
   refine nx_again (i+1,a4,c4) (by show i+1≤v.n;omega) (by show v.n - (i+1)<v.n - i;omega) (cov_cons rfl rfl (cov_cons rfl ?_ cv)) ?_
   ·show _=Value.slice a4 (listT v.l (i+1)).length c4
    rw [listT_on hb,List.length_append]
    rfl
   ·show Ent _ [.row 3 1 (.slice a4 (listT v.l (i+1)).length c4) (listT v.l (i+1)).length ((listT v.l (i+1)).map I),.any (stars H)]
    rw [listT_on hb,List.length_append]
    exact ent
 ·have:i=v.n:=by omega
  subst this
  have e1:listT v.l v.n=listV v.l:=by rw [listT,listV,h.ok.len]
  rw [e1]
  repeat' (first|intro _|refine cw ?_|refine cw2 ?_ ?_|refine ow ?_|refine ow2 ?_ ?_|fail)
  refine rt_tmp (a1,c1) rfl rfl rfl trivial ?_
  exact ent
def vP (v:VD):List Hl:=[vB v.b v.n v.a v.c,vR v.n v.a v.c v.l]
def vecs (vs:List VD):Hp→Prop:=stars (vs.flatMap vP)
theorem vecs_nil {R:List Hl}:∀ h,stars R h→stars (.any (vecs [])::R) h:=fun h hh=>⟨fun _=>none,h,fun _ => .inl rfl,fun _ _ e=>(by cases e),.refl _,trivial,hh⟩
theorem vecs_push {vs:List VD} {v:VD} {R:List Hl}:∀ h,stars (vB v.b v.n v.a v.c::vR v.n v.a v.c v.l :: .any (vecs vs)::R) h→stars (.any (vecs (vs++[v]))::R) h:=fun h hh=>by
 have h1:=sep_assoc' (sep_mono hh (fun _ a=>a) (fun _ a=>sep_assoc' a))
 refine sep_mono h1 (fun h' x=>?_) (fun _ a=>a)
 show stars ((vs++[v]).flatMap vP) h'
 rw [List.flatMap_append]
 refine stars_append' _ _ _ (sep_mono (sep_comm (sep_assoc' x)) (fun _ a=>a) fun h2 y=>?_)
 show stars [vB v.b v.n v.a v.c,vR v.n v.a v.c v.l] h2
 exact sep_mono y (fun _ a=>a) (fun h3 z=>⟨h3,fun _=>none,fun _ => .inr rfl,.refl _,fun _ _ e=>(by cases e),z,trivial⟩)
theorem vecs_read {vs:List VD} {v:VD} {H H':List Hl} [sa:SAny H (vecs vs) H'] (hm:v∈vs) (hk:v.ok) (hh:Has H):RdV (stars H) v:=by
 have key:∀ w,sat w (stars H)→sat w (stars (vs.flatMap vP)):=fun w hw=>sel_sat sa.s w hw
 have m1:vB v.b v.n v.a v.c∈vs.flatMap vP:=List.mem_flatMap.2 ⟨v,hm,by simp [vP]⟩
 have m2:vR v.n v.a v.c v.l∈vs.flatMap vP:=List.mem_flatMap.2 ⟨v,hm,by simp [vP]⟩
 obtain ⟨L1,s1⟩:=sel_mem m1
 obtain ⟨L2,s2⟩:=sel_mem m2
 refine ⟨⟨fun w hw=>?_⟩,⟨fun w hw=>?_⟩,?_,hk⟩
 ·rw [(key w hw).cell s1 0];rfl
 ·rw [(key w hw).cell s1 1];rfl
 ·obtain ⟨w,hw⟩:=hh
  exact (Rs.of_row s2 w (key w hw)).unvals.mono key
theorem nx_vec {P:Program} {k:Kon} {n:Nat} {e:Ev} {W:World} {H:List Hl} {vs:List VD} (v:VD) {R:List Hl} (hE:Ent H (vB v.b v.n v.a v.c::vR v.n v.a v.c v.l :: .any (vecs vs)::R)) (h:Nx P k n e W (.any (vecs (vs++[v]))::R)):Nx P k n e W H:=nx_ent (fun h hh=>vecs_push h (hE.out h hh)) h
structure TabF (A:Hp→Prop):Prop where
 c:∀ j,j<64→Cl A ⟨1,j,none⟩ (.int .u8 ((Go.Lib.deBruijn64tab.getD j 0:Nat):Int))
theorem TabF.up {A:Hp→Prop} {H H':List Hl} (h:TabF A) [s:SAny H A H']:TabF (stars H):=⟨fun j hj=>cl_up (h.c j hj)⟩
section
variable {P:Program} {n:Nat} {H:List Hl} {e:Ev} {C:Value→List Hl→Prop} {ty t:TypeId} {x:Operand} {u:BitVec 64}
theorem o1_neg64 (hx:opd e x=some (.int .u64 u.toNat)) (h:C (.int .u64 (-u).toNat) H):O1 P (.unOp .neg t x) ty n e H C :=
 o1_val _ (fun a w ho=>by
  have hw:IntKind.u64.wrap (-(u.toNat:Int))=((-u).toNat:Int):=by
   rw [IntKind.wrap_u64,BitVec.toNat_neg]
   omega
  simp [execOp,ho.ev.eval hx,unary_neg,Op.intArith,hw]) h
end
theorem tz_key (x:BitVec 64) (h0:x≠0#64):∃ k idx:Nat,k<64∧idx<64∧k=Go.Lib.ctz 64 x.toNat∧(((x &&& -x)*285870213051353865#64) >>> 58).toNat=idx∧Go.Lib.deBruijn64tab.getD idx 0=k:=by
 have hx:x.toNat≠0:=fun e=>h0 (BitVec.eq_of_toNat_eq (by simpa using e))
 obtain ⟨hlow,hk⟩:=Go.Lib.lowest_bit 64 x.toNat hx x.isLt
 obtain ⟨hi,htab⟩:=Go.Lib.deBruijn64_at _ hk
 refine ⟨_,_,hk,hi,rfl,?_,htab⟩
 have e1:(-x).toNat=2 ^ 64 - x.toNat:=by
  rw [BitVec.toNat_neg]
  have:=x.isLt
  omega
 rw [BitVec.toNat_ushiftRight,BitVec.toNat_mul,BitVec.toNat_and,e1,hlow,Nat.shiftRight_eq_div_pow]
 rfl
theorem bits_TZ64 (H:List Hl) (x:BitVec 64) (h0:x≠0#64) (ht:TabF (stars H)) :
  Spec Tryz.prog 215 [W8 x] H (fun _:Unit=>True) (fun _=>I (Go.Lib.ctz 64 x.toNat)) (fun _=>H):=by
 refine spec_pure (res:=fun _=>[]) H Tryz.func215 rfl Tryz.ntmps215 (by kernel_rfl) rfl (fun W=>?_)
 have hx : ¬ (x.toNat:Int)=0:=fun e=>h0 (BitVec.eq_of_toNat_eq (by simp;omega))
 obtain ⟨k,idx,h1,h2,h3,h4,h5⟩:=tz_key x h0
 have hc:=ht.c idx h2
 rw [h5] at hc
 have h6:0+((((x &&& -x)*285870213051353865#64) >>> (58:Int).toNat).toNat:Int).toNat*1=idx:=by
  rw [show (58:Int).toNat=58 from rfl,h4];omega
 have h7:0≤((((x &&& -x)*285870213051353865#64) >>> (58:Int).toNat).toNat:Int)∧((((x &&& -x)*285870213051353865#64) >>> (58:Int).toNat).toNat:Int)<(64:Nat):=by
  rw [show (58:Int).toNat=58 from rfl,h4];omega
 repeat' (first|intro _|refine cw ?_|refine cw2 ?_ ?_|(refine k_binOp .eql ?_;refine o1_eql_f rfl rfl hx ?_)|(refine k_unOp ?_;refine o1_neg64 rfl ?_)|(refine k_binOp .mul ?_;refine o1_umul (v:=285870213051353865#64) rfl rfl ?_)|(refine k_indexAddr ?_;(refine o1_indexAddr_arr rfl rfl h7 ?_;rw [h6]))|(refine k_load ?_;refine ox_load_any rfl hc ?_)|refine ow ?_|refine ow2 ?_ ?_|fail)
 refine rt_tmp () rfl rfl ?_ trivial ?_
 ·rw [h3]
 exact ent
theorem vec_First (H:List Hl) (v:VD) (h:RdV (stars H) v) (ht:TabF (stars H)) :
  Spec Tryz.prog 198 [Pv v] H (fun _:Unit=>True) (fun _=>I (firstV v.l)) (fun _=>H):=by
 refine spec_pure (res:=fun _=>[]) H Tryz.func198 rfl Tryz.ntmps198 (by kernel_rfl) rfl (fun W=>?_)
 have h4:=nw_4 h.ok.hi
 have hwl:=h.ok.words
 have hle:=h.w.le
 have hbg:=h.w.big
 repeat' (first|intro _|refine cw ?_|refine cw2 ?_ ?_|refine o1_peql rfl rfl ?_|(refine k_load ?_;refine ox_load_any rfl h.s ?_)|refine ow ?_|refine ow2 ?_ ?_|fail)
 refine st_loop (S:=Nat) (fun i=>[(10,.slice v.a (nw v.n) v.c),(11,I (nw v.n)),(12,I i)]) (fun i=>[.any (stars H)]) (fun i=>i≤nw v.n∧∀ j,j<64*i→at_ v.l j=false) (fun i=>nw v.n - i) 0 ⟨Nat.zero_le _,by omega⟩
  cv (Ent.refl _) ?_
 rintro i ⟨hi,hno⟩
 by_cases hlt:i<nw v.n
 ·have hw:(words v.l)[i]?=some (wordOf v.l i):=words_at? _ _ (by rw [h.ok.len];exact hlt)
  by_cases hz:wordOf v.l i=0#64
  ·have hz0:((wordOf v.l i).toNat:Int)=0:=by rw [hz];rfl
   repeat' (first|intro _|refine cw ?_|refine cw2 ?_ ?_|(refine k_indexAddr ?_;refine o1_ia i rfl rfl h.w hwl.symm rfl (by omega) ?_)|(refine k_load ?_;refine o1_load_av i _ rfl h.w hw ?_)|(refine k_binOp .neq ?_;refine o1_neq_f rfl rfl hz0 ?_)|refine ow ?_|refine ow2 ?_ ?_|fail)
   refine nx_again (i+1) ⟨by omega,?_⟩ (by omega) cv (Ent.refl _)
   intro j hj
   by_cases hj2:j<64*i
   ·exact hno j hj2
   ·exact word_eq_zero hz j (by omega) hj
  ·have hz0:((wordOf v.l i).toNat:Int)≠0:=fun e=>hz (BitVec.eq_of_toNat_eq (by simp;omega))
   obtain ⟨f1,f2⟩:=first_word hz hno
   repeat' (first|intro _|refine cw ?_|refine cw2 ?_ ?_|(refine k_indexAddr ?_;refine o1_ia i rfl rfl h.w hwl.symm rfl (by omega) ?_)|(refine k_load ?_;refine o1_load_av i _ rfl h.w hw ?_)|(refine k_binOp .neq ?_;refine o1_neq_t rfl rfl hz0 ?_)|(refine k_binOp .mul ?_;refine o1_mul rfl rfl (by omega) ?_)|(refine k_fn 215 ?_;refine o1_call (fun _=>bits_TZ64 _ (wordOf v.l i) hz ht.up) rfl (fun _ _=>?_))|refine ow ?_|refine ow2 ?_ ?_|fail)
   refine rt_tmp () rfl rfl ?_ trivial ?_
   ·show I _=I _
    congr 1
    omega
   exact ent
 ·have:i=nw v.n:=by omega
  subst this
  repeat' (first|intro _|refine cw ?_|refine cw2 ?_ ?_|refine ow ?_|refine ow2 ?_ ?_|fail)
  refine rt_tmp () rfl rfl ?_ trivial ?_
  ·rw [firstV_none (l:=v.l) (fun j hj=>hno j (by rw [h.ok.len] at hj;unfold nw;omega))]
  exact ent
def rtV6c_0:List Row:=[⟨some 5,[],[],none⟩,⟨some 6,[0],[0],none⟩,⟨some 7,[1],[0,1],none⟩,⟨some 8,[2],[0,1,2],none⟩,⟨some 9,[],[],none⟩,⟨some 10,[4],[4],none⟩,⟨some 11,[5],[4,5],none⟩,⟨some 12,[6],[4,5,6],none⟩,⟨some 13,[7],[4,5,6,7],none⟩,⟨some 14,[3,8],[0,1,2,3,4,5,6,7,8],none⟩,⟨some 15,[9],[0,1,2,3,4,5,6,7,8,9],none⟩,⟨some 2,[10,8,0,1,2,3,4,5,6,7,8,9,10],[0,1,2,3,4,5,6,7,8,9,10],none⟩]
def rtV6c_1:List Row:=[⟨some 6,[],[],none⟩,⟨some 7,[0],[0],none⟩,⟨some 8,[1],[0,1],none⟩,⟨some 9,[2],[0,1,2],some (2,false)⟩,⟨some 10,[3,2],[0,1,2,3],some (2,false)⟩,⟨some 11,[2,4],[0,1,2,3,4],none⟩,⟨some 12,[5,2],[0,1,2,3,4,5],none⟩,⟨some 13,[6],[0,1,2,3,4,5,6],some (6,false)⟩,⟨some 14,[7,6],[0,1,2,3,4,5,6,7],some (6,false)⟩,⟨some 15,[8,6],[0,1,2,3,4,5,6,7,8],some (6,false)⟩,⟨some 16,[9,6],[0,1,2,3,4,5,6,7,8,9],some (6,false)⟩,⟨some 17,[6],[0,1,2,3,4,5,6],some (6,false)⟩,⟨some 18,[11,6],[0,1,2,3,4,5,6,11],some (6,false)⟩,⟨some 19,[12,6],[0,1,2,3,4,5,6,11,12],some (6,false)⟩,⟨some 20,[13,6],[0,1,2,3,4,5,6,11,12,13],some (6,false)⟩,⟨some 21,[10,14,6],[0,1,2,3,4,5,6,7,8,9,10,11,12,13,14],some (6,false)⟩,⟨some 22,[6,15],[0,1,2,3,4,5,6,7,8,9,10,11,12,13,14,15],none⟩]
def rtV6c_2:List Row:=[⟨some 31,[],[],none⟩,⟨some 32,[0],[0],none⟩,⟨some 33,[1],[0,1],none⟩,⟨some 34,[2],[0,1,2],none⟩,⟨some 35,[],[],none⟩,⟨some 36,[3,4],[0,1,2,3,4],none⟩,⟨some 37,[5],[0,1,2,3,4,5],none⟩,⟨some 38,[],[],none⟩,⟨some 39,[7],[7],none⟩,⟨some 40,[8],[7,8],none⟩,⟨some 41,[9],[7,8,9],none⟩,⟨some 42,[],[],none⟩,⟨some 43,[10,11],[7,8,9,10,11],none⟩,⟨some 44,[12],[7,8,9,10,11,12],none⟩,⟨some 45,[6,13],[0,1,2,3,4,5,6,7,8,9,10,11,12,13],none⟩,⟨some 46,[3,4,0,1,2,3,4,5,6,7,8,9,10,11,12,13,14],[0,1,2,3,4,5,6,7,8,9,10,11,12,13,14],none⟩,⟨none,[15,14,0,1,2,3,4,5,6,7,8,9,10,11,12,13,14],[0,1,2,3,4,5,6,7,8,9,10,11,12,13,14,15],none⟩]
theorem clone_W (H:List Hl) (ad:Option Addr) (c m:Nat) (l:List (BitVec 64)) (h:Rs (stars H) W8 ad c l) (hm:m=l.length) (hb:m≤1000) :
  Spec Tryz.prog 234 [.slice ad m c] H (fun _:Option Addr × Nat=>True) (fun r => .slice r.1 m r.2) (fun r => .row 35 1 (.slice r.1 m r.2) m (l.map W8)::H):=by
 refine spec_pure (res:=fun r:Option Addr × Nat=>[.row 35 1 (.slice r.1 m r.2) m (l.map W8)]) H Tryz.func234 rfl Tryz.ntmps234 (by kernel_rfl) rfl (fun W=>?_)
 cases ad with
 | none =>
  have hl:l=[]:=by
   cases l with
   | nil=>rfl
   | cons a l=>obtain ⟨x,hx⟩:=h.sm (by simp);cases hx
  subst hl
  subst hm
  repeat' (first|intro _|refine cw ?_|refine cw2 ?_ ?_|refine ow ?_|refine ow2 ?_ ?_|fail)
  refine (rt_ent (ent_nil 35 W8) ?_)
  refine rt_tmp (none,0) rfl rfl rfl trivial ?_
  exact ent
 | some a =>
  repeat' (first|intro _|refine cw ?_|refine cw2 ?_ ?_|(refine k_buildSlice ?_;refine o1_lit_enc W8 ([]:List (BitVec 64)) rfl rfl rfl (fun _=>rfl) rfl rfl rfl (fun _=>?_))|(refine k_call ?_;refine ox_append_box (enc:=W8) (xs:=([]:List (BitVec 64))) rfl rfl rfl rfl (rx_any h) hm rfl (fun _=>rfl) (by omega) (by omega) (fun _ _=>?_))|refine ow ?_|refine ow2 ?_ ?_|fail)
  refine rt_tmp (_,_) rfl rfl (by simp only [Nat.zero_add];rfl) trivial ?_
  simp only [Nat.zero_add,List.nil_append]
  exact ent
theorem vec_Copy (H:List Hl) (v:VD) (h:RdV (stars H) v) :
  Spec Tryz.prog 214 [Pv v] H (fun _:Nat × Option Addr × Nat=>True) (fun r => .pointer (some ⟨r.1,0,none⟩)) (fun r=>vB r.1 v.n r.2.1 r.2.2::vR v.n r.2.1 r.2.2 v.l::H):=by
 refine spec_pure (res:=fun r:Nat × Option Addr × Nat=>[vB r.1 v.n r.2.1 r.2.2,vR v.n r.2.1 r.2.2 v.l]) H Tryz.func214 rfl Tryz.ntmps214 (by kernel_rfl) rfl (fun W=>?_)
 have h4:=nw_4 h.ok.hi
 have hwl:=h.ok.words
 have e1:=h.n
 have e2:=h.s
 repeat' (first|intro _|refine cw ?_|refine cw2 ?_ ?_|refine o1_peql rfl rfl ?_|refine ow ?_|refine ow2 ?_ ?_|fail)
 refine st_stages' [(0,_)] rtV6c_0 [8,10] [⟨[0,1,2,3,4,5,6,7],[],some 8⟩,⟨[9],[0,1,2,3],some 10⟩,⟨[11],[],none⟩] mixed cv (by kernel_rfl) (by kernel_rfl) ?_
 repeat' (first|intro _|refine sg ?_|(refine p_load ?_;refine po (by first|refine ox_load_any rfl e1 fz|refine ox_load_any rfl e2 fz|fail) ?_)|refine pw ?_|refine pdd ?_|(refine k_fn 234 ?_;refine o1_call (fun _=>clone_W _ v.a v.c (nw v.n) (words v.l) (Rs.up h.w) hwl.symm (by omega)) rfl (fun ⟨a2,c2⟩ _=>?_))|(refine k_box ?_;refine o1_box rfl rfl (fun b2=>?_))|refine ow ?_|fail)
 all_goals dsimp only [List.cons_append,List.nil_append]
 repeat' (first|intro _|refine cw ?_|refine cw2 ?_ ?_|refine ow ?_|refine ow2 ?_ ?_|fail)
 refine rt_tmp (b2,a2,c2) rfl rfl rfl trivial ?_
 exact ent
theorem vec_Xor (H:List Hl) (b n:Nat) (a:Option Addr) (c:Nat) (l:List Bool) (w:VD) (hl:l.length=n) (hn:n≤256) (hw:RdV (stars H) w) (hwn:w.n=n) :
  Spec Tryz.prog 216 [.pointer (some ⟨b,0,none⟩),Pv w] (vB b n a c::vR n a c l::H) (fun _:Unit=>True) (fun _ => .bool true) (fun _=>vB b n a c::vR n a c (xorV l w.l)::H):=by
 refine spec_fn (res:=fun _:Unit=>[vB b n a c,vR n a c (xorV l w.l)]) [vB b n a c,vR n a c l] H Tryz.func216 rfl Tryz.ntmps216 (by kernel_rfl) rfl (fun W=>?_)
 dsimp only [List.cons_append,List.nil_append]
 have h4:=nw_4 hn
 have e1:=hw.n
 have e2:=hw.s
 have e3:=hw.w
 have hwl:=hw.ok.words
 rw [hwn] at e1 e2 hwl
 have hll:l.length=w.l.length:=by rw [hl,hw.ok.len,hwn]
 obtain ⟨L0,hL0⟩:∃ L0,words l=L0:=⟨_,rfl⟩
 obtain ⟨L1,hL1⟩:∃ L1,words (xorV l w.l)=L1:=⟨_,rfl⟩
 obtain ⟨M,hM⟩:∃ M,words w.l=M:=⟨_,rfl⟩
 rw [hM] at e3 hwl
 have hl0:L0.length=nw n:=by rw [←hL0,words_len,hl]
 have hl1:L1.length=nw n:=by rw [←hL1,words_len,xorV_len hll,hl]
 have hz:L1.length=L0.length:=by omega
 have hx:L1=List.zipWith (· ^^^ ·) L0 M:=by rw [←hL1,←hL0,←hM];exact words_xor hll
 dsimp only [vR]
 rw [hL0]
 repeat' (first|intro _|refine cw ?_|refine cw2 ?_ ?_|refine ow ?_|refine ow2 ?_ ?_|fail)
 refine st_stages' [(0,_),(1,_)] rtV6c_1 [] [⟨[0,1,2,3,4,5,6,7,8,9,10,11,12,13,14,15,16],[],none⟩] mixed cv (by kernel_rfl) (by kernel_rfl) ?_
 repeat' (first|intro _|refine sg ?_|refine po (by first|refine o1_peql rfl rfl fz|fail) ?_|(refine p_load ?_;refine po (by first|refine ox_load_any rfl e1 fz|fail) ?_)|(refine p_binOp .neq ?_;refine po (by first|refine o1_neq_f rfl rfl rfl fz|fail) ?_)|refine pw ?_|refine pdd ?_|refine ow ?_|fail)
 all_goals dsimp only [List.cons_append,List.nil_append]
 repeat' (first|intro _|refine cw ?_|refine cw2 ?_ ?_|refine ow ?_|refine ow2 ?_ ?_|fail)
 refine st_loop (S:=Nat) (fun i=>[(0,.pointer (some ⟨b,0,none⟩)),(1,Pv w),(27,I (nw n)),(28,I i)]) (fun i=>[vB b n a c,.row 35 1 (.slice a (nw n) c) (nw n) ((partL L1 L0 i).map W8),.any (stars H)]) (fun i=>i≤nw n) (fun i=>nw n - i) 0 (Nat.zero_le _)
  cv (by show Ent _ [vB b n a c,.row 35 1 (.slice a (nw n) c) (nw n) ((partL L1 L0 0).map W8),.any (stars H)];rw [partL_zero];exact ent) ?_
 intro i hi
 by_cases hlt:i<nw n
 ·have hql:=partL_len hz i
  have hka:i<(partL L1 L0 i).length:=by omega
  have hpk:(partL L1 L0 i)[i]=L0[i]'(by omega):=partL_at hz (Nat.le_refl i) _
  have hset:(partL L1 L0 i).set i (L1[i]'(by omega))=partL L1 L0 (i+1):=partL_succ hz (by omega)
  have hmi:i<M.length:=by omega
  have hxi:L0[i]'(by omega) ^^^ M[i]=L1[i]'(by omega):=by subst hx;simp
  repeat' (first|intro _|refine cw ?_|refine cw2 ?_ ?_|refine ow ?_|refine ow2 ?_ ?_|fail)
  refine st_stages' [(0,_),(5,_),(1,_)] rtV6c_2 [16] [⟨[0,1,2,3,4,5,6,7,8,9,10,11,12,13,14,15],[],some 16⟩,⟨[],[],none⟩] mixed cv (by kernel_rfl) (by kernel_rfl) ?_
  repeat' (first|intro _|refine sg ?_|(refine p_load ?_;refine po (by first|refine ox_load_any rfl e2 fz|((refine o1_load_iah (enc:=W8) (ad:=a) (c:=c) (xs:=partL L1 L0 i) i rfl rx_row hka ?_;rw [hpk]);all_goals exact fz)|refine o1_load_ia i rfl e3 hmi fz|fail) ?_)|(refine p_indexAddr ?_;refine po (by first|refine o1_iah (enc:=W8) (ad:=a) (c:=c) (xs:=partL L1 L0 i) i rfl rfl rx_row (by omega) rfl hka fz|refine o1_ia i rfl rfl e3 hwl.symm rfl hmi fz|fail) ?_)|(refine p_binOp .xor ?_;refine po (by first|((refine o1_uxor rfl rfl ?_;rw [hxi]);all_goals exact fz)|fail) ?_)|refine pw ?_|refine pdd ?_|(refine k_store ?_;(refine ox_store_rowenc (ad:=a) (c:=c) W8 i rfl rfl hlt rfl ?_;rw [hset]))|refine ow ?_|fail)
  all_goals dsimp only [List.cons_append,List.nil_append]
  repeat' (first|intro _|refine cw ?_|refine cw2 ?_ ?_|refine ow ?_|refine ow2 ?_ ?_|fail)
  refine nx_again (i+1) (by omega) (by omega) cv ?_
  exact ent
 ·have:i=nw n:=by omega
  subst this
  rw [partL_full hz hl0.symm]
  repeat' (first|intro _|refine cw ?_|refine cw2 ?_ ?_|refine ow ?_|refine ow2 ?_ ?_|fail)
  refine rt_tmp () rfl rfl rfl trivial ?_
  rw [hL1]
  exact ent
def rtW1_0:List Row:=[⟨some 6,[],[],none⟩,⟨some 7,[0],[0],none⟩,⟨some 8,[1],[0,1],none⟩,⟨some 9,[2],[0,1,2],none⟩,⟨some 10,[],[],none⟩,⟨some 11,[4],[4],none⟩,⟨some 12,[5],[4,5],none⟩,⟨some 13,[6],[4,5,6],none⟩,⟨some 14,[3,7],[0,1,2,3,4,5,6,7],none⟩]
structure RD where
 b:Nat
 v:VD
 ad:Option Addr
 z:Nat
 cd:Nat
 d:List (BitVec 8)
abbrev rX (b:Nat) (p:Value) (ad:Option Addr) (z cd:Nat):Hl := .box b 280 [p,.slice ad z cd]
abbrev rD (ad:Option Addr) (z cd:Nat) (d:List (BitVec 8)):Hl := .row 5 1 (.slice ad z cd) z (d.map B)
structure RD.ok (r:RD):Prop where
 v:r.v.ok
 d:r.d.length=r.z
structure RdR (A:Hp→Prop) (r:RD):Prop where
 p:Cl A ⟨r.b,0,none⟩ (Pv r.v)
 s:Cl A ⟨r.b,1,none⟩ (.slice r.ad r.z r.cd)
 v:RdV A r.v
 d:Rs A B r.ad r.cd r.d
 z:r.d.length=r.z
theorem RdR.up {A:Hp→Prop} {r:RD} {H H':List Hl} (h:RdR A r) [s:SAny H A H']:RdR (stars H) r:=⟨cl_up h.p,cl_up h.s,h.v.up,h.d.up,h.z⟩
theorem RdR.own {b vb n:Nat} {va:Option Addr} {vc:Nat} {l:List Bool} {ad:Option Addr} {z cd:Nat} {d:List (BitVec 8)} {H H0 H1 H2 H3:List Hl} {m m2:Nat} [s0:SBox H b 280 [.pointer (some ⟨vb,0,none⟩),.slice ad z cd] H0] [s:SBox H vb 269 [I n,.slice va (nw n) vc] H1] [s2:SRow H va vc m 35 ((words l).map W8) H2] [s3:SRow H ad cd m2 5 (d.map B) H3]
  (hl:l.length=n) (hn:n≤256) (hd:d.length=z) (hh:Has H):RdR (stars H) ⟨b,⟨vb,n,va,vc,l⟩,ad,z,cd,d⟩:=⟨cl_box rfl,cl_box rfl,RdV.own hl hn hh,rx_row hh,hd⟩
section
variable {P:Program} {n:Nat} {H:List Hl} {e:Ev} {C:Value→List Hl→Prop} {ty:TypeId}
theorem o1_call_bra (b:Nat) (ad:Option Addr) (c:Nat) (A:Hp→Prop) {f:FuncId} {xs:List Operand} {args:List Value} {ats:Array TypeId} {X:Type} {good:X→Prop} {val:X→Value} {res:X→List Hl} {m:Nat} {T T2:TypeId} {cs ys:List Value} {H' H2 H3:List Hl} [s:SBox H b T cs H'] [s2:SRow H' ad c m T2 ys H2] [s3:SAny H2 A H3]
  (hs:Has (.box b T cs :: .row T2 1 (.slice ad m c) m ys :: .any A::H3)→Spec P f args (.box b T cs :: .row T2 1 (.slice ad m c) m ys :: .any A::H3) good val res) (hxs:opds e xs=some args) (h:∀ r,good r→C (val r) (res r)):O1 P (.call ⟨.value (.func f),xs.toArray,ats⟩) ty n e H C :=
 O1.ent (H2 := .box b T cs :: .row T2 1 (.slice ad m c) m ys :: .any A::H3) (fun h hh=>sep_mono (s.s.out h hh) (fun _ a=>a) (fun h' hh'=>sep_mono (s2.s.out h' hh') (fun _ a=>a) s3.s.out)) (o1_call hs hxs h)
theorem o1_call_to (H2:List Hl) {f:FuncId} {xs:List Operand} {args:List Value} {ats:Array TypeId} {X:Type} {good:X→Prop} {val:X→Value} {res:X→List Hl} (hE:∀ h,stars H h→stars H2 h) (hs:Has H2→Spec P f args H2 good val res) (hxs:opds e xs=some args) (h:∀ r,good r→C (val r) (res r)):O1 P (.call ⟨.value (.func f),xs.toArray,ats⟩) ty n e H C :=
 O1.ent hE (o1_call hs hxs h)
end
set_option maxHeartbeats 2000000 in
theorem row_xor (H:List Hl) (b vb n:Nat) (va:Option Addr) (vc:Nat) (l:List Bool) (ad:Option Addr) (z cd:Nat) (d:List (BitVec 8)) (q:RD) (hl:l.length=n) (hn:n≤256) (hd:d.length=z) (hz16:z≤16) (hq:RdR (stars H) q) (hqn:q.v.n=n) (hqz:q.z=z) :
  Spec Tryz.prog 199 [.pointer (some ⟨b,0,none⟩),.pointer (some ⟨q.b,0,none⟩)] (rX b (.pointer (some ⟨vb,0,none⟩)) ad z cd::vB vb n va vc::vR n va vc l::rD ad z cd d::H) (fun _:Unit=>True) (fun _ => .tuple #[]) (fun _=>rX b (.pointer (some ⟨vb,0,none⟩)) ad z cd::vB vb n va vc::vR n va vc (xorV l q.v.l)::rD ad z cd (xorL d q.d)::H):=by
 refine spec_fn (res:=fun _:Unit=>[rX b (.pointer (some ⟨vb,0,none⟩)) ad z cd,vB vb n va vc,vR n va vc (xorV l q.v.l),rD ad z cd (xorL d q.d)]) [rX b (.pointer (some ⟨vb,0,none⟩)) ad z cd,vB vb n va vc,vR n va vc l,rD ad z cd d] H Tryz.func199 rfl Tryz.ntmps199 (by kernel_rfl) rfl (fun W=>?_)
 dsimp only [List.cons_append,List.nil_append]
 have e1:=hq.p
 have e2:=hq.s
 have e3:=hq.d
 have hqd:=hq.z
 rw [hqz] at e2 hqd
 obtain ⟨Q,hQ⟩:∃ Q,q.d=Q:=⟨_,rfl⟩
 rw [hQ] at e3 hqd
 have hxl:=xorL_len d Q (by omega)
 obtain ⟨X,hX⟩:∃ X,xorL d Q=X:=⟨_,rfl⟩
 rw [hX] at hxl
 have hz:X.length=d.length:=hxl
 obtain ⟨L1,hL1⟩:∃ L1,xorV l q.v.l=L1:=⟨_,rfl⟩
 rw [hQ,hX,hL1]
 repeat' (first|intro _|refine cw ?_|refine cw2 ?_ ?_|refine ow ?_|refine ow2 ?_ ?_|fail)
 refine st_stages' [(0,_),(1,_)] rtW1_0 [8] [⟨[0,1,2,3,4,5,6,7],[],some 8⟩,⟨[],[],none⟩] mixed cv (by kernel_rfl) (by kernel_rfl) ?_
 repeat' (first|intro _|refine sg ?_|(refine p_load ?_;refine po (by first|refine ox_load_any rfl e1 fz|fail) ?_)|refine pw ?_|refine pdd ?_|(refine k_fn 216 ?_;(refine o1_call_br vb va vc (fun _=>vec_Xor _ vb n va vc l q.v hl hn (RdV.up hq.v) hqn) rfl (fun _ _=>?_);rw [hL1]))|refine ow ?_|fail)
 all_goals dsimp only [List.cons_append,List.nil_append]
 repeat' (first|intro _|refine cw ?_|refine cw2 ?_ ?_|(refine k_load ?_;refine ox_load_any rfl e2 ?_)|refine ow ?_|refine ow2 ?_ ?_|fail)
 refine st_loop (S:=Nat) (fun i=>[(0,.pointer (some ⟨b,0,none⟩)),(1,.pointer (some ⟨q.b,0,none⟩)),(18,.slice q.ad z q.cd),(19,I z),(20,I i)])
  (fun i=>[rX b (.pointer (some ⟨vb,0,none⟩)) ad z cd,vB vb n va vc,vR n va vc L1,rD ad z cd (partL X d i),.any (stars H)]) (fun i=>i≤z) (fun i=>z - i) 0 (Nat.zero_le _)
  cv (by show Ent _ [rX b (.pointer (some ⟨vb,0,none⟩)) ad z cd,vB vb n va vc,vR n va vc L1,rD ad z cd (partL X d 0),.any (stars H)];rw [partL_zero];exact ent) ?_
 intro i hi
 by_cases hlt:i<z
 ·have hql:=partL_len hz i
  have hka:i<(partL X d i).length:=by omega
  have hpk:(partL X d i)[i]=d[i]'(by omega):=partL_at hz (Nat.le_refl i) _
  have hset:(partL X d i).set i (X[i]'(by omega))=partL X d (i+1):=partL_succ hz (by omega)
  have hqi:i<Q.length:=by omega
  have hxi:d[i]'(by omega) ^^^ Q[i]=X[i]'(by omega):=by subst hX;simp [xorL]
  repeat' (first|intro _|refine cw ?_|refine cw2 ?_ ?_|(refine k_indexAddr ?_;first|refine o1_ia (ad:=q.ad) (c:=q.cd) i rfl rfl e3 hqd.symm rfl hqi ?_|refine o1_iah (enc:=B) (ad:=ad) (c:=cd) (xs:=partL X d i) i rfl rfl rx_row (by omega) rfl hka ?_)|(refine k_load ?_;first|refine o1_load_ia (ad:=q.ad) (c:=q.cd) i rfl e3 hqi ?_|(refine o1_load_iah (enc:=B) (ad:=ad) (c:=cd) (xs:=partL X d i) i rfl rx_row hka ?_;rw [hpk]))|(refine k_binOp .xor ?_;(refine o1_uxor rfl rfl ?_;rw [hxi]))|(refine k_store ?_;(refine ox_store_rowenc (ad:=ad) (c:=cd) B i rfl rfl hlt rfl ?_;rw [hset]))|refine ow ?_|refine ow2 ?_ ?_|fail)
  refine nx_again (i+1) (by omega) (by omega) cv ?_
  exact ent
 ·have:i=z:=by omega
  subst this
  rw [partL_full hz hd.symm]
  repeat' (first|intro _|refine cw ?_|refine cw2 ?_ ?_|refine ow ?_|refine ow2 ?_ ?_|fail)
  refine rt_none () rfl rfl trivial ?_
  exact ent
abbrev PO (o:Option RD):Value:=match o with
 | none => .pointer none
 | some r => .pointer (some ⟨r.b,0,none⟩)
def rowP (r:RD):List Hl:=[rX r.b (Pv r.v) r.ad r.z r.cd,vB r.v.b r.v.n r.v.a r.v.c,vR r.v.n r.v.a r.v.c r.v.l,rD r.ad r.z r.cd r.d]
def oP (o:Option RD):List Hl:=match o with
 | none=>[]
 | some r=>rowP r
def mrows (M:List (Option RD)):Hp→Prop:=stars (M.flatMap oP)
abbrev mB (b n z:Nat) (ar:Option Addr) (cr k:Nat):Hl := .box b 283 [I n,I z,.slice ar n cr,I k]
abbrev mR (n:Nat) (ar:Option Addr) (cr:Nat) (M:List (Option RD)):Hl := .row 277 1 (.slice ar n cr) n (M.map PO)
structure MOk (n z:Nat) (M:List (Option RD)):Prop where
 len:M.length=n
 n1:1≤n
 n2:n≤256
 z1:1≤z
 z2:z≤16
 ok:∀ r,some r∈M→r.ok∧r.v.n=n∧r.z=z
theorem mrows_none (n:Nat) {R:List Hl}:∀ h,stars R h→stars (.any (mrows (List.replicate n none))::R) h:=fun h hh=>⟨fun _=>none,h,fun _ => .inl rfl,fun _ _ e=>(by cases e),.refl _,by
 have:(List.replicate n none:List (Option RD)).flatMap oP=[]:=by
  rw [List.flatMap_eq_nil_iff]
  intro x hx
  rw [List.eq_of_mem_replicate hx]
  rfl
 show stars ((List.replicate n none:List (Option RD)).flatMap oP) _
 rw [this]
 trivial,hh⟩
theorem mrows_read {M:List (Option RD)} {r:RD} {H H':List Hl} [sa:SAny H (mrows M) H'] (hm:some r∈M) (hk:r.ok) (hh:Has H):RdR (stars H) r:=by
 have key:∀ w,sat w (stars H)→sat w (stars (M.flatMap oP)):=fun w hw=>sel_sat sa.s w hw
 have mem:∀ x∈rowP r,x∈M.flatMap oP:=fun x hx=>List.mem_flatMap.2 ⟨some r,hm,hx⟩
 obtain ⟨L0,s0⟩:=sel_mem (mem (rX r.b (Pv r.v) r.ad r.z r.cd) (by simp [rowP]))
 obtain ⟨L1,s1⟩:=sel_mem (mem (vB r.v.b r.v.n r.v.a r.v.c) (by simp [rowP]))
 obtain ⟨L2,s2⟩:=sel_mem (mem (vR r.v.n r.v.a r.v.c r.v.l) (by simp [rowP]))
 obtain ⟨L3,s3⟩:=sel_mem (mem (rD r.ad r.z r.cd r.d) (by simp [rowP]))
 obtain ⟨w,hw⟩:=hh
 exact ⟨⟨fun w hw=>by rw [(key w hw).cell s0 0];rfl⟩,⟨fun w hw=>by rw [(key w hw).cell s0 1];rfl⟩,⟨⟨fun w hw=>by rw [(key w hw).cell s1 0];rfl⟩,⟨fun w hw=>by rw [(key w hw).cell s1 1];rfl⟩,(Rs.of_row s2 w (key w hw)).unvals.mono key,hk.v⟩,(Rs.of_row s3 w (key w hw)).unvals.mono key,hk.d⟩
theorem mrows_take {M:List (Option RD)} {r:RD} {i:Nat} {R:List Hl} (hi:i<M.length) (hr:M[i]=some r):∀ h,stars (.any (mrows M)::R) h→stars (rowP r++(.any (mrows (M.set i none))::R)) h:=fun h hh=>by
 have e1:M.flatMap oP=(M.take i).flatMap oP++(rowP r++(M.drop (i+1)).flatMap oP):=by
  conv=>lhs;rw [←List.take_append_drop i M,List.drop_eq_getElem_cons hi,hr]
  rw [List.flatMap_append,List.flatMap_cons]
  rfl
 have e2:(M.set i none).flatMap oP=(M.take i).flatMap oP++(M.drop (i+1)).flatMap oP:=by
  rw [List.set_eq_take_append_cons_drop,if_pos hi,List.flatMap_append,List.flatMap_cons]
  rfl
 have h1:sep (sep (stars (rowP r)) (mrows (M.set i none))) (stars R) h:=sep_mono hh (fun h' hx=>by
  have hx:stars (M.flatMap oP) h':=hx
  rw [e1] at hx
  have:=stars_append _ _ _ (stars_swap hx)
  refine sep_mono this (fun _ a=>a) (fun h2 a=>?_)
  show stars ((M.set i none).flatMap oP) h2
  rw [e2]
  exact a) (fun _ a=>a)
 exact stars_append' _ _ _ (sep_assoc h1)
theorem mrows_put {M:List (Option RD)} {r:RD} {i:Nat} {R:List Hl} (hi:i<M.length) (hr:M[i]=none):∀ h,stars (rowP r++(.any (mrows M)::R)) h→stars (.any (mrows (M.set i (some r)))::R) h:=fun h hh=>by
 have e1:(M.set i (some r)).flatMap oP=(M.take i).flatMap oP++(rowP r++(M.drop (i+1)).flatMap oP):=by
  rw [List.set_eq_take_append_cons_drop,if_pos hi,List.flatMap_append,List.flatMap_cons]
  rfl
 have e2:M.flatMap oP=(M.take i).flatMap oP++(M.drop (i+1)).flatMap oP:=by
  conv=>lhs;rw [←List.take_append_drop i M,List.drop_eq_getElem_cons hi,hr]
  rw [List.flatMap_append,List.flatMap_cons]
  rfl
 have h1:=sep_assoc' (stars_append _ _ _ hh)
 refine sep_mono h1 (fun h' hx=>?_) (fun _ a=>a)
 show stars ((M.set i (some r)).flatMap oP) h'
 rw [e1]
 have h2:stars (rowP r++((M.take i).flatMap oP++(M.drop (i+1)).flatMap oP)) h':=stars_append' _ _ _ (sep_mono hx (fun _ a=>a) (fun h3 a=>by
  have a:stars (M.flatMap oP) h3:=a
  rw [e2] at a
  exact a))
 exact stars_swap h2
structure RdM (A:Hp→Prop) (b n z:Nat) (ar:Option Addr) (cr k:Nat) (M:List (Option RD)):Prop where
 fn:Cl A ⟨b,0,none⟩ (I n)
 fz:Cl A ⟨b,1,none⟩ (I z)
 fs:Cl A ⟨b,2,none⟩ (.slice ar n cr)
 fk:Cl A ⟨b,3,none⟩ (I k)
 fr:Rs A PO ar cr M
 fm:∀ r,some r∈M→RdR A r
 ok:MOk n z M
theorem RdM.up {A:Hp→Prop} {b n z:Nat} {ar:Option Addr} {cr k:Nat} {M:List (Option RD)} {H H':List Hl} (h:RdM A b n z ar cr k M) [s:SAny H A H']:RdM (stars H) b n z ar cr k M:=⟨cl_up h.fn,cl_up h.fz,cl_up h.fs,cl_up h.fk,h.fr.up,fun r hr=>(h.fm r hr).up,h.ok⟩
theorem RdM.own {b n z:Nat} {ar:Option Addr} {cr k:Nat} {M:List (Option RD)} {H H1 H2 H3:List Hl} {m:Nat} [s:SBox H b 283 [I n,I z,.slice ar n cr,I k] H1] [s2:SRow H ar cr m 277 (M.map PO) H2] [s3:SAny H (mrows M) H3] (hk:MOk n z M) (hh:Has H):RdM (stars H) b n z ar cr k M :=
 ⟨cl_box rfl,cl_box rfl,cl_box rfl,cl_box rfl,rx_row hh,fun r hr=>mrows_read (M:=M) hr (hk.ok r hr).1 hh,hk⟩
theorem elim_New (H:List Hl) (n z:Nat) (h1:1≤n) (h2:n≤256) (h3:1≤z) (h4:z≤16) :
  Spec Tryz.prog 196 [I n,I z] H (fun _:Nat × Option Addr × Nat=>True) (fun r => .pointer (some ⟨r.1,0,none⟩)) (fun r=>mB r.1 n z r.2.1 r.2.2 0::mR n r.2.1 r.2.2 (List.replicate n none) :: .any (mrows (List.replicate n none))::H):=by
 refine spec_pure (res:=fun r:Nat × Option Addr × Nat=>[mB r.1 n z r.2.1 r.2.2 0,mR n r.2.1 r.2.2 (List.replicate n none),.any (mrows (List.replicate n none))]) H Tryz.func196 rfl Tryz.ntmps196 (by kernel_rfl) rfl (fun W=>?_)
 repeat' (first|intro _|refine cw ?_|refine cw2 ?_ ?_|(refine k_makeSlice ?_;refine o1_maker (enc:=PO) none n rfl rfl rfl rfl rfl (by omega) (by omega) (fun b2=>?_))|(refine k_box ?_;refine o1_box rfl rfl (fun b1=>?_))|refine ow ?_|refine ow2 ?_ ?_|fail)
 refine rt_row (T:=277) (b:=b2) (m:=n) (cp:=n) (cs:=(List.replicate n none).map PO) (by simp) rfl (by omega) ?_
 refine rt_ent (mrows_none n) ?_
 refine rt_tmp (b1,some ⟨b2,0,none⟩,n) rfl rfl rfl trivial ?_
 exact ent
def rtW2_0:List Row:=[⟨some 10,[],[],none⟩,⟨some 11,[0],[0],none⟩,⟨some 12,[1],[0,1],none⟩,⟨some 13,[2],[0,1,2],some (2,false)⟩,⟨some 14,[3,2,2],[0,1,2,3],some (2,false)⟩,⟨some 15,[2],[0,1,2],some (2,false)⟩,⟨some 16,[5,2],[0,1,2,5],some (2,false)⟩,⟨some 17,[6,2],[0,1,2,5,6],some (2,false)⟩,⟨some 18,[7,2],[0,1,2,5,6,7],some (2,false)⟩,⟨some 19,[4,8,2],[0,1,2,3,4,5,6,7,8],some (2,false)⟩,⟨some 20,[2,9],[0,1,2,3,4,5,6,7,8,9],none⟩]
def rtW2_1:List Row:=[⟨some 21,[],[],none⟩,⟨some 22,[0],[0],none⟩,⟨some 23,[],[],none⟩,⟨some 24,[2],[2],none⟩,⟨some 25,[3],[2,3],none⟩,⟨some 26,[4],[2,3,4],none⟩,⟨some 27,[5,5],[2,3,4,5],none⟩,⟨some 28,[1,6],[0,1,2,3,4,5,6],none⟩,⟨some 29,[7],[0,1,2,3,4,5,6,7],none⟩,⟨some 7,[8,1,0,1,2,3,4,5,6,7,8],[0,1,2,3,4,5,6,7,8],none⟩]
def rtW2_5:List Row:=[⟨some 3,[],[],none⟩,⟨some 4,[0],[0],none⟩,⟨some 5,[1],[0,1],none⟩,⟨some 6,[2],[0,1,2],some (2,true)⟩,⟨some 7,[3,2,2],[0,1,2,3],some (2,true)⟩,⟨some 8,[2],[0,1,2],some (2,true)⟩,⟨some 9,[5,2],[0,1,2,5],some (2,true)⟩,⟨some 10,[6,2],[0,1,2,5,6],some (2,true)⟩,⟨some 11,[7,2],[0,1,2,5,6,7],some (2,true)⟩,⟨some 12,[4,8,2],[0,1,2,3,4,5,6,7,8],some (2,true)⟩,⟨some 13,[2,9],[0,1,2,3,4,5,6,7,8,9],none⟩,⟨some 2,[10,4,0,1,2,3,4,5,6,7,8,9,10],[0,1,2,3,4,5,6,7,8,9,10],none⟩]
abbrev LN:=List Bool × List (BitVec 8)
def vw (o:Option RD):Option LN:=o.map (fun r=>(r.v.l,r.d))
def addL (x y:LN):LN:=(xorV x.1 y.1,xorL x.2 y.2)
def stepR (x:LN) (i:Nat) (o:Option LN):LN:=match o with
 | some y=>if at_ x.1 i then addL x y else x
 | none=>x
def redT (M:List (Option LN)) (x:LN):Nat→LN
 | 0=>x
 | i+1=>stepR (redT M x i) i (M.getD i none)
def red (M:List (Option LN)) (x:LN):LN:=redT M x M.length
structure LOk (n z:Nat) (M:List (Option LN)):Prop where
 len:M.length=n
 ok:∀ y,some y∈M→y.1.length=n∧y.2.length=z
theorem MOk.vw {n z:Nat} {M:List (Option RD)} (h:MOk n z M):LOk n z (M.map vw):=⟨by rw [List.length_map,h.len],fun y hy=>by
 obtain ⟨o,ho,e⟩:=List.mem_map.1 hy
 cases o with
 | none=>cases e
 | some r =>
  obtain ⟨h1,h2,h3⟩:=h.ok r ho
  simp only [Go.Dp.vw,Option.map_some,Option.some.injEq] at e
  subst e
  exact ⟨by rw [h1.v.len,h2],by rw [h1.d,h3]⟩⟩
theorem addL_len {x y:LN} {n z:Nat} (h1:x.1.length=n) (h2:x.2.length=z) (h3:y.1.length=n) (h4:y.2.length=z):(addL x y).1.length=n∧(addL x y).2.length=z :=
 ⟨by rw [addL,xorV_len (by omega),h1],by rw [addL,xorL_len _ _ (by omega),h2]⟩
theorem stepR_len {x:LN} {o:Option LN} {i n z:Nat} (h1:x.1.length=n) (h2:x.2.length=z) (ho:∀ y,o=some y→y.1.length=n∧y.2.length=z):(stepR x i o).1.length=n∧(stepR x i o).2.length=z:=by
 cases o with
 | none=>exact ⟨h1,h2⟩
 | some y =>
  obtain ⟨h3,h4⟩:=ho y rfl
  simp only [stepR]
  split
  ·exact addL_len h1 h2 h3 h4
  ·exact ⟨h1,h2⟩
theorem redT_len {M:List (Option LN)} {x:LN} {n z:Nat} (h:LOk n z M) (h1:x.1.length=n) (h2:x.2.length=z):∀ i,(redT M x i).1.length=n∧(redT M x i).2.length=z
 | 0=>⟨h1,h2⟩
 | i+1=>by
  obtain ⟨h3,h4⟩:=redT_len h h1 h2 i
  refine stepR_len h3 h4 (fun y hy=>h.ok y ?_)
  rw [List.getD_eq_getElem?_getD] at hy
  by_cases hi:i<M.length
  ·rw [List.getElem?_eq_getElem hi] at hy
   rw [←hy]
   exact List.getElem_mem hi
  ·rw [List.getElem?_eq_none (by omega)] at hy
   cases hy
def padD (z:Nat) (dd:List (BitVec 8)):List (BitVec 8):=dd.take (List.replicate z 0#8).length++(List.replicate z 0#8).drop dd.length
theorem padD_len (z:Nat) (dd:List (BitVec 8)) (h:dd.length≤z):(padD z dd).length=z:=by simp [padD];omega
theorem padD_full {z:Nat} {dd:List (BitVec 8)} (h:dd.length=z):padD z dd=dd:=by
 subst h;simp [padD]
theorem padD_nil (z:Nat):padD z []=List.replicate z 0#8:=by simp [padD]
set_option maxHeartbeats 4000000 in
theorem elim_reduced (H:List Hl) (bm n z:Nat) (ar:Option Addr) (cr k:Nat) (M:List (Option RD)) (v:VD) (ad0:Option Addr) (m0 c0:Nat) (dd:List (BitVec 8)) (hM:RdM (stars H) bm n z ar cr k M) (hv:RdV (stars H) v) (hvn:v.n=n) (hd:Rs (stars H) B ad0 c0 dd) (hm0:m0=dd.length) (hdl:dd.length≤z) :
  Spec Tryz.prog 197 [.pointer (some ⟨bm,0,none⟩),Pv v,.slice ad0 m0 c0] H (fun r:RD=>r.v.n=n∧r.z=z∧(r.v.l,r.d)=red (M.map vw) (v.l,padD z dd)) (fun r => .pointer (some ⟨r.b,0,none⟩)) (fun r=>rX r.b (Pv r.v) r.ad r.z r.cd::vB r.v.b r.v.n r.v.a r.v.c::vR r.v.n r.v.a r.v.c r.v.l::rD r.ad r.z r.cd r.d::H):=by
 refine spec_pure (res:=fun r:RD=>[rX r.b (Pv r.v) r.ad r.z r.cd,vB r.v.b r.v.n r.v.a r.v.c,vR r.v.n r.v.a r.v.c r.v.l,rD r.ad r.z r.cd r.d]) H Tryz.func197 rfl Tryz.ntmps197 (by kernel_rfl) rfl (fun W=>?_)
 obtain ⟨l1,l2,l3,l4,l5,l6⟩:=hM.ok
 have m1:=hM.fn
 have m2:=hM.fz
 have m3:=hM.fs
 have mle:=hM.fr.le
 have mbg:=hM.fr.big
 have hvl:v.l.length=n:=by rw [hv.ok.len,hvn]
 have hLk:=hM.ok.vw
 have hpl:=padD_len z dd hdl
 obtain ⟨ML,hML⟩:∃ ML,M.map vw=ML:=⟨_,rfl⟩
 rw [hML] at hLk ⊢
 repeat' (first|intro _|refine cw ?_|refine cw2 ?_ ?_|refine ow ?_|refine ow2 ?_ ?_|fail)
 refine st_stages' [(0,_),(1,_)] rtW2_0 [4] [⟨[0,1,2,3,5,6,7,8],[],some 4⟩,⟨[9,10],[5,6,7,8],none⟩] mixed cv (by kernel_rfl) (by kernel_rfl) ?_
 repeat' (first|intro _|refine sg ?_|refine po (by first|refine o1_peql rfl rfl fz|fail) ?_|(refine p_load ?_;refine po (by first|refine ox_load_any rfl m1 fz|fail) ?_)|(refine p_binOp .neq ?_;refine po (by first|refine o1_neq_f rfl rfl (by omega) fz|fail) ?_)|refine pw ?_|refine pdd ?_|refine o1_peql rfl rfl ?_|(refine k_fn 142 ?_;refine o1_call (fun _=>vec_Len _ v (cl_up hv.n)) rfl (fun _ _=>?_))|refine ow ?_|fail)
 all_goals dsimp only [List.cons_append,List.nil_append]
 repeat' (first|intro _|refine cw ?_|refine cw2 ?_ ?_|refine ow ?_|refine ow2 ?_ ?_|fail)
 refine st_via (X:=Nat × Option Addr × Nat × Nat × Nat) (fun x=>[(0,.pointer (some ⟨bm,0,none⟩)),(2,.slice ad0 m0 c0),(7,.pointer (some ⟨x.2.2.2.2,0,none⟩))]) (fun x=>[rX x.2.2.2.2 (.pointer (some ⟨x.1,0,none⟩)) (some ⟨x.2.2.2.1,0,none⟩) z z,vB x.1 n x.2.1 x.2.2.1,vR n x.2.1 x.2.2.1 v.l,.box x.2.2.2.1 5 ((List.replicate z 0#8).map B),.any (stars H)]) ?restS ?walkS
 case walkS =>
  intro via
  refine st_tree' [(1,_),(0,_)] rtW2_1 [1,6,8] (.alt [0,2,3,4,5] [] 1 (.step [] [2,3,4,5] 6 (.step [7] [] 8 (.fin [9] []))) 6 (.step [] [0] 1 (.step [7] [] 8 (.fin [9] [])))) mixed cv (by kernel_rfl) (by kernel_rfl) ?_
  repeat' (first|intro _|refine sg ?_|(refine p_load ?_;refine po (by first|refine ox_load_any rfl m2 fz|fail) ?_)|refine pw ?_|refine pdd ?_|(refine k_fn 214 ?_;(refine o1_call (fun _=>vec_Copy _ v hv.up) rfl (fun ⟨b20,a20,c20⟩ _=>?_);dsimp only;rw [hvn]))|(refine k_makeSlice ?_;refine o1_maker (enc:=B) 0#8 z rfl rfl rfl rfl rfl (by omega) (by omega) (fun b27=>?_))|(refine k_box ?_;refine o1_box rfl rfl (fun b29=>?_))|refine ow ?_|refine And.intro ?_ ?_|fail)
  all_goals dsimp only [List.cons_append,List.nil_append]
  all_goals exact via (_,_,_,_,_) _ _ cv ent
 case restS =>
  rintro ⟨vb,va,vc,bd,b⟩
  dsimp only
  repeat' (first|intro _|refine cw ?_|refine cw2 ?_ ?_|(refine k_call ?_;refine ox_copy (b:=bd) (xs:=List.replicate z 0#8) (ys:=dd) rfl rfl (by simp) (rx_any hd) hm0 (fun _=>rfl) ?_)|(refine k_load ?_;refine ox_load_any rfl m3 ?_)|refine ow ?_|refine ow2 ?_ ?_|fail)
  have hpd:dd.take (List.replicate z 0#8).length++(List.replicate z 0#8).drop dd.length=padD z dd:=rfl
  rw [hpd]
  refine st_row (T:=5) (b:=bd) (m:=z) (cp:=z) (cs:=(padD z dd).map B) (by rw [List.length_map,hpl]) rfl (by omega) ?_
  refine st_loop (S:=Nat) (fun i=>[(7,.pointer (some ⟨b,0,none⟩)),(39,.slice ar n cr),(40,I n),(41,I i)])
   (fun i=>[rX b (.pointer (some ⟨vb,0,none⟩)) (some ⟨bd,0,none⟩) z z,vB vb n va vc,vR n va vc (redT ML (v.l,padD z dd) i).1,rD (some ⟨bd,0,none⟩) z z (redT ML (v.l,padD z dd) i).2,.any (stars H)]) (fun i=>i≤n) (fun i=>n - i) 0 (Nat.zero_le _)
   cv ent ?_
  intro i hi
  obtain ⟨hxl,hxd⟩:=redT_len hLk (x:=(v.l,padD z dd)) hvl hpl i
  by_cases hlt:i<n
  ·have hiM:i<M.length:=by omega
   have hnx:redT ML (v.l,padD z dd) (i+1)=stepR (redT ML (v.l,padD z dd) i) i (vw M[i]):=by
    rw [redT]
    congr 1
    subst hML
    simp [List.getD_eq_getElem?_getD,hiM]
   obtain ⟨⟨xl,xd⟩,hX⟩:∃ X,redT ML (v.l,padD z dd) i=X:=⟨_,rfl⟩
   rw [hX] at hxl hxd hnx ⊢
   dsimp only at hxl hxd ⊢
   cases hMi:M[i] with
   | none =>
    rw [hMi] at hnx
    have hnx:redT ML (v.l,padD z dd) (i+1)=(xl,xd):=hnx
    repeat' (first|intro _|refine cw ?_|refine cw2 ?_ ?_|(refine k_indexAddr ?_;refine o1_ia (ad:=ar) (c:=cr) i rfl rfl hM.fr l1.symm rfl hiM ?_)|(refine k_load ?_;(refine o1_load_ia (ad:=ar) (c:=cr) i rfl hM.fr hiM ?_;rw [hMi]))|refine o1_pneq rfl rfl ?_|refine ow ?_|refine ow2 ?_ ?_|fail)
    refine nx_again (i+1) (by omega) (by omega) cv ?_
    rw [hnx]
    exact ent
   | some q =>
    rw [hMi] at hnx
    have hqm:some q∈M:=hMi ▸ List.getElem_mem hiM
    have hq:=hM.fm q hqm
    obtain ⟨hq1,hq2,hq3⟩:=l6 q hqm
    cases hat:at_ xl i
    ·have hnx:redT ML (v.l,padD z dd) (i+1)=(xl,xd):=by
      rw [hnx]
      show (if at_ xl i=true then _ else (xl,xd))=_
      rw [hat];rfl
     repeat' (first|intro _|refine cw ?_|refine cw2 ?_ ?_|(refine k_indexAddr ?_;refine o1_ia (ad:=ar) (c:=cr) i rfl rfl hM.fr l1.symm rfl hiM ?_)|(refine k_load ?_;(refine o1_load_ia (ad:=ar) (c:=cr) i rfl hM.fr hiM ?_;rw [hMi]))|refine o1_pneq rfl rfl ?_|(refine k_fn 143 ?_;refine o1_call (fun hh=>(vec_Has _ ⟨vb,n,va,vc,xl⟩ i (RdV.own hxl l3 hh)).bv (b:=false) (by rw [hasV_nat,hat])) rfl (fun _ _=>?_))|refine ow ?_|refine ow2 ?_ ?_|fail)
     refine nx_again (i+1) (by omega) (by omega) cv ?_
     rw [hnx]
     exact ent
    ·have hnx:redT ML (v.l,padD z dd) (i+1)=(xorV xl q.v.l,xorL xd q.d):=by
      rw [hnx]
      show (if at_ xl i=true then addL (xl,xd) (q.v.l,q.d) else (xl,xd))=_
      rw [hat];rfl
     repeat' (first|intro _|refine cw ?_|refine cw2 ?_ ?_|(refine k_indexAddr ?_;refine o1_ia (ad:=ar) (c:=cr) i rfl rfl hM.fr l1.symm rfl hiM ?_)|(refine k_load ?_;(refine o1_load_ia (ad:=ar) (c:=cr) i rfl hM.fr hiM ?_;rw [hMi]))|refine o1_pneq rfl rfl ?_|(refine k_fn 143 ?_;refine o1_call (fun hh=>(vec_Has _ ⟨vb,n,va,vc,xl⟩ i (RdV.own hxl l3 hh)).bv (b:=true) (by rw [hasV_nat,hat])) rfl (fun _ _=>?_))|(refine k_fn 199 ?_;refine o1_call_to [rX b (.pointer (some ⟨vb,0,none⟩)) (some ⟨bd,0,none⟩) z z,vB vb n va vc,vR n va vc xl,rD (some ⟨bd,0,none⟩) z z xd,.any (stars H)] (Ent.out ent) (fun _=>row_xor _ b vb n va vc xl (some ⟨bd,0,none⟩) z z xd q hxl l3 hxd l5 (RdR.up hq) hq2 hq3) rfl (fun _ _=>?_))|refine ow ?_|refine ow2 ?_ ?_|fail)
     refine nx_again (i+1) (by omega) (by omega) cv ?_
     rw [hnx]
     exact ent
  ·have:i=n:=by omega
   subst this
   repeat' (first|intro _|refine cw ?_|refine cw2 ?_ ?_|refine ow ?_|refine ow2 ?_ ?_|fail)
   refine rt_tmp (⟨b,⟨vb,i,va,vc,(redT ML (v.l,padD z dd) i).1⟩,some ⟨bd,0,none⟩,z,z,(redT ML (v.l,padD z dd) i).2⟩:RD) rfl rfl rfl ⟨rfl,rfl,?_⟩ ?_
   ·show ((redT ML (v.l,padD z dd) i).1,(redT ML (v.l,padD z dd) i).2)=red ML (v.l,padD z dd)
    rw [red,hLk.len]
   exact ent
theorem o1_xload_any {P:Program} {n:Nat} {H:List Hl} {e:Ev} {C:Value→List Hl→Prop} {ty:TypeId} {f:FuncId} {xs:List Operand} {ats:Array TypeId} {a0:Addr} {H':List Hl} {k:IntKind} {p:Int} {A:Hp→Prop} (x:XFn P f (Extern.Atomic.loadT (.int k))) (hxs:opds e xs=some [.pointer (some a0)]) (hc:Cl A a0 (.int k p)) [s:SAny H A H'] (h:C (.int k p) H):O1 P (.call ⟨.value (.func f),xs.toArray,ats⟩) ty n e H C :=
 o1_xval _ hxs (fun a w ho=>by
  obtain ⟨fn,h1,h2,h3,h4,h5⟩:=x.of
  exact run_call_load h1 h2 h3 h4 k h5 (hc.cell w (sel_sat s.s w ho.sat))) h
theorem at_Load64 (H:List Hl) (b i:Nat) (k:Int) (h:Cl (stars H) ⟨b,i,none⟩ (I k)) :
  Spec Tryz.prog 144 [.pointer (some ⟨b,i,none⟩)] H (fun _:Unit=>True) (fun _=>I k) (fun _=>H):=by
 refine spec_pure (res:=fun _=>[]) H Tryz.func144 rfl Tryz.ntmps144 (by kernel_rfl) rfl (fun W=>?_)
 repeat' (first|intro _|refine cw ?_|refine cw2 ?_ ?_|refine o1_xload_any xf_load64 rfl h ?_|refine ow ?_|refine ow2 ?_ ?_|fail)
 refine rt_tmp () rfl rfl rfl trivial ?_
 exact ent
theorem at_Add64 (H:List Hl) (b n z:Nat) (ar:Option Addr) (cr k:Nat) (hk:k≤1000) :
  Spec Tryz.prog 145 [.pointer (some ⟨b,3,none⟩),I 1] (mB b n z ar cr k::H) (fun _:Unit=>True) (fun _=>I (k+1:Nat)) (fun _=>mB b n z ar cr (k+1)::H):=by
 refine spec_fn (res:=fun _:Unit=>[mB b n z ar cr (k+1)]) [mB b n z ar cr k] H Tryz.func145 rfl Tryz.ntmps145 (by kernel_rfl) rfl (fun W=>?_)
 dsimp only [List.cons_append,List.nil_append]
 repeat' (first|intro _|refine cw ?_|refine cw2 ?_ ?_|refine o1_xadd xf_add64 rfl (b:=b) (i:=3) (r:=((k+1:Nat):Int)) rfl (by rw [wrap_in (by omega) (by omega)];push_cast;rfl) ?_|refine ow ?_|refine ow2 ?_ ?_|fail)
 refine rt_tmp () rfl rfl rfl trivial ?_
 exact ent
theorem elim_Rank (H:List Hl) (bm k:Nat) (h:Cl (stars H) ⟨bm,3,none⟩ (I k)) :
  Spec Tryz.prog 169 [.pointer (some ⟨bm,0,none⟩)] H (fun _:Unit=>True) (fun _=>I k) (fun _=>H):=by
 refine spec_pure (res:=fun _=>[]) H Tryz.func169 rfl Tryz.ntmps169 (by kernel_rfl) rfl (fun W=>?_)
 repeat' (first|intro _|refine cw ?_|refine cw2 ?_ ?_|refine o1_peql rfl rfl ?_|(refine k_fn 144 ?_;refine o1_call (fun _=>at_Load64 _ bm 3 k (cl_up h)) rfl (fun _ _=>?_))|refine ow ?_|refine ow2 ?_ ?_|fail)
 refine rt_tmp () rfl rfl rfl trivial ?_
 exact ent
theorem elim_Full (H:List Hl) (bm n k:Nat) (h:Cl (stars H) ⟨bm,3,none⟩ (I k)) (h0:Cl (stars H) ⟨bm,0,none⟩ (I n)) :
  Spec Tryz.prog 217 [.pointer (some ⟨bm,0,none⟩)] H (fun _:Unit=>True) (fun _ => .bool (decide ((k:Int)=n))) (fun _=>H):=by
 refine spec_pure (res:=fun _=>[]) H Tryz.func217 rfl Tryz.ntmps217 (by kernel_rfl) rfl (fun W=>?_)
 repeat' (first|intro _|refine cw ?_|refine cw2 ?_ ?_|refine ow ?_|refine ow2 ?_ ?_|fail)
 refine st_stages' [(0,_)] rtW2_5 [4] [⟨[0,1,2,3,5,6,7,8],[],some 4⟩,⟨[9,10,11],[5,6,7,8],none⟩] mixed cv (by kernel_rfl) (by kernel_rfl) ?_
 repeat' (first|intro _|refine sg ?_|refine po (by first|refine o1_pneq rfl rfl fz|fail) ?_|(refine p_load ?_;refine po (by first|refine ox_load_any rfl h0 fz|fail) ?_)|(refine p_binOp .eql ?_;refine po (by first|refine o1_eql_d rfl rfl fz|fail) ?_)|refine pw ?_|refine pdd ?_|refine o1_pneq rfl rfl ?_|(refine k_fn 169 ?_;refine o1_call (fun _=>elim_Rank _ bm k (cl_up h)) rfl (fun _ _=>?_))|refine ow ?_|fail)
 all_goals dsimp only [List.cons_append,List.nil_append]
 repeat' (first|intro _|refine cw ?_|refine cw2 ?_ ?_|refine ow ?_|refine ow2 ?_ ?_|fail)
 refine rt_tmp () rfl rfl rfl trivial ?_
 exact ent
end Go.Dp
