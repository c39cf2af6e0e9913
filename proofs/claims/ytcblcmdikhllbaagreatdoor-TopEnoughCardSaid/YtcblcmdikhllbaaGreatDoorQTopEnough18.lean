/-
  Downpour, walked and proved: part 18.
  Conditions: those that stand in each theorem.
-/
import Derived.Test.YtcblcmdikhllbaaGreatDoorQTopEnough3
import Derived.Test.YtcblcmdikhllbaaGreatDoorQTopEnough6
import Derived.Test.YtcblcmdikhllbaaGreatDoorQTopEnough17
import Derived.Test.YtcblcmdikhllbaaGreatDoorQTopEnough13
import Derived.Test.YtcblcmdikhllbaaGreatDoorQTopEnough16
set_option linter.unusedVariables false
set_option linter.unusedSimpArgs false
set_option maxHeartbeats 64000000
namespace Go.Dp
open Go.RowKit Go.Proofs
section
variable {P:Program} {n:Nat} {H:List Hl} {e:Ev} {C:Value→List Hl→Prop} {ty:TypeId} {x:Operand}
theorem o1_funcb {f:FuncId} {xs:List Operand} {vs:List Value} (hxs:opds e xs=some vs) (h:C (.func (.func f) vs.toArray #[]) H):O1 P (.makeFunc (.func f) xs.toArray #[]) ty n e H C :=
 a1U _ (fun a w ho=>by
  have hargs:=ho.ev.evals hxs
  simp [execOp,Instr.makeFunc,hargs]) h
theorem o1_kallb {f:FuncId} {xs:List Operand} {args bnd:List Value} {ats:Array TypeId} {X:Type} {good:X→Prop} {val:X→Value} {res:X→List Hl} (hx:opd e x=some (.func (.func f) bnd.toArray #[])) (hs:Has H→Spec P f (bnd++args) H good val res) (hxs:opds e xs=some args)
  (h:∀ r,good r→C (val r) (res r)):O1 P (.call ⟨.value x,xs.toArray,ats⟩) ty n e H C :=
 ⟨fun a w ho o h1 h2 K Q hK=>by
  have hs:=hs ho.has
  have hc:=hs.calls w ho.sat
  have hargs:=ho.ev.evals hxs
  have hr:(execOp a.eval ⟨none,.call ⟨.value x,xs.toArray,ats⟩,ty, "", #[],none⟩).run P w = .ok (.enter f (bnd++args).toArray) w:=by
   have h3:(callFunc f (bnd.toArray++args.toArray)).run P w = .ok (.enter f (bnd++args).toArray) w:=by
    rw [List.append_toArray];exact b2O hs.enters
   simp [execOp,resolve,invoke,Deferred.ofValue,ho.ev.eval hx,hargs]
   simpa using h3
  subst h2
  unfold Oper.wp
  rw [b0K,h1,hr]
  refine hc.mono ?_
  rintro x w' ⟨r,hg,rfl,hx,hsat⟩
  exact hK _ _ _ (h r hg) hx hsat⟩
end
set_option maxRecDepth 20000 in
theorem on_slowb (H:List Hl) (b i:Nat) (T:TypeId) (cs:List Value) (g:FuncId) (bnd:List Value) {X:Type} {good:X→Prop} {ds:X→List Value} {R:X→List Hl} (h0:cs[i]?=some (W4 0#32)) (h1:cs[i+1]?=some (K4 0))
  (hc:Spec Tryz.prog g (bnd++[]) (.box b T (cs.set (i+1) (K4 1))::H) good (fun _ => .tuple #[]) (fun r => .box b T (ds r)::R r)) (hd:∀ r,good r→(ds r)[i+1]?=some (K4 1)) :
  Spec Tryz.prog 173 [.pointer (some ⟨b,i,none⟩),.func (.func g) bnd.toArray #[]] (.box b T cs::H) good (fun _ => .tuple #[]) (fun r => .box b T (((ds r).set i (W4 1#32)).set (i+1) (K4 0))::R r):=by
 refine spec_defers _ Tryz.func173 rfl Tryz.ntmps173 (by kernel_rfl) rfl (fun W=>?_)
 have hne:(cs.set (i+1) (K4 1))[i]?=some (W4 0#32):=by rw [List.getElem?_set_ne (by omega),h0]
 repeat' (first|refine sd_seq ?_|refine sd_region ?_|refine sd_cond_t rfl ?_|refine ld_defer rfl ?_|refine ld_of rfl ?_|refine ld_of_no ?_|refine ld_next ?_|refine a6F rfl ?_|refine a7N rfl ?_|refine a6R rfl ?_|refine b4J rfl ?_|refine a0G (b:=b) (fun _=>mx_Lock _ b (i+1) T cs h1) rfl (fun _ _=>?_)|refine a0A (fun _=>b7K _ b i 0 (a1M hne) false rfl) rfl (fun _ _=>?_)|refine o1_kallb (args:=[]) (bnd:=bnd) rfl (fun _=>hc) rfl (fun r hg=>?_))
 refine c2I (fun a w ho hD=>?_)
 show Leaves _ _ _ _ a.defers .returning w
 rw [hD]
 have hd1:=hd r hg
 have hlt:i<(ds r).length:=by have:=(List.getElem?_eq_some_iff.1 hd1).1;omega
 refine a9O (bl_StoreD _ b i T (ds r) hlt) ho.sat (fun _ w1 _ hx1 hs1=>a9O (mx_UnlockD _ b (i+1) T _ (by rw [List.getElem?_set_ne (by omega),hd1])) hs1 (fun _ w2 _ hx2 hs2=>?_))
 exact ⟨.tuple #[],by simp [results],r,hg,rfl,(ho.ext.trans hx1).trans hx2,hs2⟩
theorem on_Dob (H:List Hl) (b i:Nat) (T:TypeId) (cs:List Value) (g:FuncId) (bnd:List Value) {X:Type} {good:X→Prop} {ds:X→List Value} {R:X→List Hl} (h0:cs[i]?=some (W4 0#32)) (h1:cs[i+1]?=some (K4 0))
  (hc:Spec Tryz.prog g (bnd++[]) (.box b T (cs.set (i+1) (K4 1))::H) good (fun _ => .tuple #[]) (fun r => .box b T (ds r)::R r)) (hd:∀ r,good r→(ds r)[i+1]?=some (K4 1)) :
  Spec Tryz.prog 131 [.pointer (some ⟨b,i,none⟩),.func (.func g) bnd.toArray #[]] (.box b T cs::H) good (fun _ => .tuple #[]) (fun r => .box b T (((ds r).set i (W4 1#32)).set (i+1) (K4 0))::R r):=by
 refine b1T _ Tryz.func131 rfl Tryz.ntmps131 (by kernel_rfl) rfl (fun W=>?_)
 repeat' (first|intro _|refine wK ?_|refine wL ?_ ?_|fail)
 refine a0A (fun _=>b7K _ b i 0 (a1M h0) false rfl) rfl (fun _ _=>?_)
 repeat' (first|intro _|refine wK ?_|refine wL ?_ ?_|fail)
 refine a0G (b:=b) (fun _=>on_slowb _ b i T cs g bnd h0 h1 hc hd) rfl (fun r hg=>?_)
 repeat' (first|intro _|refine wK ?_|refine wL ?_ ?_|fail)
 refine a4I r rfl rfl hg ?_
 exact Ent.refl _
def searchF (p:Nat→Bool):Nat→Nat→Nat→Nat
 | 0,i,_=>i
 | f+1,i,j=>if i<j then (if p ((i+j) / 2)=true then searchF p f i ((i+j) / 2) else searchF p f ((i+j) / 2+1) j) else i
theorem searchF_stop (p:Nat→Bool) (f i:Nat):searchF p f i i=i:=by
 cases f with
 | zero=>rfl
 | succ f=>unfold searchF;rw [if_neg (by omega)]
theorem b3Y (p:Nat→Bool):∀ f i j,i≤j→searchF p f i j≤j
 | 0,i,j,h=>h
 | f+1,i,j,h=>by
  unfold searchF
  split
  ·split
   ·have:=b3Y p f i ((i+j) / 2) (by omega);omega
   ·exact b3Y p f _ j (by omega)
  ·exact h
theorem sort_Search (H:List Hl) (n:Nat) (g:FuncId) (caps:List Value) (p:Nat→Bool) (hn:n≤1000) (hg:∀ i,i<n→Spec Tryz.prog g ([I i]++caps) [.any (stars H)] (fun _:Unit=>True) (fun _ => .bool (p i)) (fun _=>[.any (stars H)])) :
  Spec Tryz.prog 185 [I n,.func (.func g) #[] caps.toArray] H (fun _:Unit=>True) (fun _=>I (searchF p n 0 n)) (fun _=>H):=by
 refine sP (res:=fun _=>[]) H Tryz.func185 Tryz.ntmps185 fun W=>?_
 obtain ⟨R,hR⟩:∃ R,searchF p n 0 n=R:=⟨_,rfl⟩
 rw [hR]
 repeat' (first|intro _|refine wK ?_|refine wL ?_ ?_|fail)
 refine a0Y (S:=Nat × Nat × Nat) (fun q=>[(1,.func (.func g) #[] caps.toArray),(5,I q.1),(6,I q.2.1)]) (fun q=>[.any (stars H)]) (fun q=>q.1≤q.2.1∧q.2.1≤n∧q.2.1 - q.1≤q.2.2∧searchF p q.2.2 q.1 q.2.1=R) (fun q=>q.2.1 - q.1) (0,n,n) ⟨Nat.zero_le _,Nat.le_refl _,by simp,hR⟩ cv ent ?_
 rintro ⟨i,j,f⟩ ⟨hij,hjn,hf,hs⟩
 dsimp only at hij hjn hf hs ⊢
 by_cases hlt:i<j
 ·obtain ⟨f',rfl⟩:∃ f',f=f'+1:=⟨f - 1,by omega⟩
  obtain ⟨h,hh⟩:∃ h,(i+j) / 2=h:=⟨_,rfl⟩
  unfold searchF at hs
  rw [if_pos hlt,hh] at hs
  have hadd:(i:Int)+(j:Int)=((i+j:Nat):Int):=by push_cast;rfl
  have hsh:(BitVec.ofNat 64 (i+j) >>> (1:Int).toNat).toNat=h:=by
   rw [BitVec.toNat_ushiftRight,BitVec.toNat_ofNat,Nat.mod_eq_of_lt (by omega),Nat.shiftRight_eq_div_pow,←hh];rfl
  have hsuc:(h:Int)+1=((h+1:Nat):Int):=by push_cast;rfl
  cases hp:p h with
  | true =>
   rw [hp,if_pos rfl] at hs
   repeat' (first|intro _|(refine a0D .add ?_;(refine a2F rfl rfl (by omega) ?_;rw [hadd]))|(refine a1W ?_;first|(refine a2I (m':=64) rfl ?_;rw [BitVec.ofInt_natCast])|refine a5Y rfl (by omega) ?_)|(refine a0D .shr ?_;(refine a9K (m:=64) rfl rfl (by decide) ?_;rw [hsh]))|refine a6G (args:=[I h]) (caps:=caps) rfl (fun _=>(hg h (by omega)).bv (b:=true) hp) rfl (fun _ _=>?_)|refine wK ?_|refine wL ?_ ?_|fail)
   refine a0Q (i,h,f') ⟨by show i≤h;omega,by show h≤n;omega,by show h - i≤f';omega,hs⟩ (by show h - i<j - i;omega) cv ?_
   exact ent
  | false =>
   rw [hp,if_neg (by simp)] at hs
   repeat' (first|intro _|(refine a0D .add ?_;first|(refine a2F (p:=(i:Int)) rfl rfl (by omega) ?_;rw [hadd])|(refine a2F (p:=(h:Int)) rfl rfl (by omega) ?_;rw [hsuc]))|(refine a1W ?_;first|(refine a2I (m':=64) rfl ?_;rw [BitVec.ofInt_natCast])|refine a5Y rfl (by omega) ?_)|(refine a0D .shr ?_;(refine a9K (m:=64) rfl rfl (by decide) ?_;rw [hsh]))|refine a6G (args:=[I h]) (caps:=caps) rfl (fun _=>(hg h (by omega)).bv (b:=false) hp) rfl (fun _ _=>?_)|refine wK ?_|refine wL ?_ ?_|fail)
   refine a0Q (h+1,j,f') ⟨by show h+1≤j;omega,hjn,by show j - (h+1)≤f';omega,hs⟩ (by show j - (h+1)<j - i;omega) cv ?_
   exact ent
 ·have:i=j:=by omega
  subst this
  rw [searchF_stop] at hs
  subst hs
  repeat' (first|intro _|refine wK ?_|refine wL ?_ ?_|fail)
  refine a0E () rfl rfl rfl trivial ?_
  exact ent
def rootL (n:Nat):Nat→Nat→Nat→Nat
 | 0,low,_=>low
 | f+1,low,high=>if low<high then (if high - (high - low) / 2≤n / (high - (high - low) / 2) then rootL n f (high - (high - low) / 2) high else rootL n f low (high - (high - low) / 2 - 1)) else low
theorem rootL_stop (n f low:Nat):rootL n f low low=low:=by
 cases f with
 | zero=>rfl
 | succ f=>unfold rootL;rw [if_neg (by omega)]
theorem b8M (n:Nat):∀ f low high,1≤low→low≤high→low≤rootL n f low high∧rootL n f low high≤high
 | 0,low,high,_,h=>⟨Nat.le_refl _,h⟩
 | f+1,low,high,h1,h=>by
  unfold rootL
  split
  ·split
   ·have:=b8M n f (high - (high - low) / 2) high (by omega) (by omega);omega
   ·have:=b8M n f low (high - (high - low) / 2 - 1) h1 (by omega);omega
  ·exact ⟨Nat.le_refl _,h⟩
def rootN (n:Nat):Nat:=rootL n n 1 n
theorem rootN_in {n:Nat} (h:1≤n):1≤rootN n∧rootN n≤n:=b8M n n 1 n (Nat.le_refl _) h
theorem soliton_Root (H:List Hl) (n:Nat) (h1:1≤n) (h2:n≤80) :
  Spec Tryz.prog 249 [I n] H (fun _:Unit=>True) (fun _=>I (rootN n)) (fun _=>H):=by
 refine sP (res:=fun _=>[]) H Tryz.func249 Tryz.ntmps249 fun W=>?_
 obtain ⟨R,hR⟩:∃ R,rootN n=R:=⟨_,rfl⟩
 rw [hR]
 repeat' (first|intro _|(refine a0D .lss ?_;refine a3S rfl rfl (by omega) ?_)|(refine a1S ?_;refine b2W (r:=(n:Int)) rfl rfl (by omega) ?_)|refine wK ?_|refine wL ?_ ?_|fail)
 refine a0Y (S:=Nat × Nat × Nat) (fun q=>[(0,I n),(3,I q.1),(4,I q.2.1)]) (fun q=>[.any (stars H)]) (fun q=>1≤q.1∧q.1≤q.2.1∧q.2.1≤n∧q.2.1 - q.1≤q.2.2∧rootL n q.2.2 q.1 q.2.1=R) (fun q=>q.2.1 - q.1) (1,n,n) ⟨Nat.le_refl _,h1,Nat.le_refl _,by simp,hR⟩ cv ent ?_
 rintro ⟨i,j,f⟩ ⟨hi1,hij,hjn,hf,hs⟩
 dsimp only at hi1 hij hjn hf hs ⊢
 by_cases hlt:i<j
 ·obtain ⟨f',rfl⟩:∃ f',f=f'+1:=⟨f - 1,by omega⟩
  obtain ⟨h,hh⟩:∃ h,j - (j - i) / 2=h:=⟨_,rfl⟩
  unfold rootL at hs
  rw [if_pos hlt,hh] at hs
  have e1:(j:Int) - (i:Int)=((j - i:Nat):Int):=by omega
  have e2:((j - i:Nat):Int) / 2=(((j - i) / 2:Nat):Int):=by push_cast;rfl
  have e3:(j:Int) - (((j - i) / 2:Nat):Int)=(h:Int):=by omega
  have e4:(n:Int) / (h:Int)=((n / h:Nat):Int):=by push_cast;rfl
  have e5:(h:Int) - 1=((h - 1:Nat):Int):=by omega
  by_cases hp:h≤n / h
  ·rw [if_pos hp] at hs
   repeat' (first|intro _|(refine a0D .sub ?_;first|(refine a3D (p:=(j:Int)) (q:=(i:Int)) rfl rfl (by omega) ?_;rw [e1])|(refine a3D (p:=(j:Int)) rfl rfl (by omega) ?_;rw [e3]))|(refine a0D .quo ?_;first|(refine a3A (q:=2) rfl rfl (by omega) ?_;rw [e2])|(refine a3A (p:=(n:Int)) rfl rfl (by omega) ?_;rw [e4]))|(refine a0D .leq ?_;refine b1F rfl rfl (by omega) ?_)|refine wK ?_|refine wL ?_ ?_|fail)
   refine a0Q (h,j,f') ⟨by show 1≤h;omega,by show h≤j;omega,hjn,by show j - h≤f';omega,hs⟩ (by show j - h<j - i;omega) cv ?_
   exact ent
  ·rw [if_neg hp] at hs
   repeat' (first|intro _|(refine a0D .sub ?_;first|(refine a3D (p:=(j:Int)) (q:=(i:Int)) rfl rfl (by omega) ?_;rw [e1])|(refine a3D (p:=(j:Int)) rfl rfl (by omega) ?_;rw [e3])|(refine a3D (p:=(h:Int)) rfl rfl (by omega) ?_;rw [e5]))|(refine a0D .quo ?_;first|(refine a3A (q:=2) rfl rfl (by omega) ?_;rw [e2])|(refine a3A (p:=(n:Int)) rfl rfl (by omega) ?_;rw [e4]))|(refine a0D .leq ?_;refine b1G rfl rfl (by omega) ?_)|refine wK ?_|refine wL ?_ ?_|fail)
   refine a0Q (i,h - 1,f') ⟨hi1,by show i≤h - 1;omega,by show h - 1≤n;omega,by show h - 1 - i≤f';omega,hs⟩ (by show h - 1 - i<j - i;omega) cv ?_
   exact ent
 ·have:i=j:=by omega
  subst this
  rw [rootL_stop] at hs
  subst hs
  repeat' (first|intro _|refine wK ?_|refine wL ?_ ?_|fail)
  refine a0E () rfl rfl rfl trivial ?_
  exact ent
def wtA (n d:Nat):Int:=if 1<d then 1048576 / ((d:Int)*((d:Int) - 1)) else 1048576 / (n:Int)
def wtI (n d:Nat):Int:=if (d:Int)<(n:Int) / (rootN n:Int) then wtA n d+262144*(rootN n:Int) / ((d:Int)*(n:Int)) else if (d:Int)=(n:Int) / (rootN n:Int) then wtA n d+524288*(rootN n:Int) / (n:Int) else wtA n d
theorem wtA_in (n d:Nat):0≤wtA n d∧wtA n d≤1048576:=by
 unfold wtA
 have key:∀ k:Int,0≤k→0≤1048576 / k∧1048576 / k≤1048576:=fun k hk=>⟨Int.ediv_nonneg (by decide) hk,Int.ediv_le_self _ (by decide)⟩
 split
 ·exact key _ (Int.mul_nonneg (by omega) (by omega))
 ·exact key _ (by omega)
def tbC (n:Nat) (o:BitVec 32) (k:Int) (v:Value):List Value:=[I n,W4 o,K4 k,W4 0#32,v]
theorem tb_weight (H:List Hl) (t:Nat) (n d:Nat) (h1:1≤n) (h2:n≤80) (hd:1≤d) (hd2:d≤n) (hc:Cl (stars H) ⟨t,0,none⟩ (I n)) :
  Spec Tryz.prog 232 [.pointer (some ⟨t,0,none⟩),I d] H (fun _:Unit=>True) (fun _=>W4 (BitVec.ofInt 32 (wtI n d))) (fun _=>H):=by
 refine sP (res:=fun _=>[]) H Tryz.func232 Tryz.ntmps232 fun W=>?_
 have hr:=rootN_in h1
 have hroot:=fun (H':List Hl)=>soliton_Root H' n h1 h2
 have hwa:=wtA_in n d
 have hwI:∃ w,wtI n d=w:=⟨_,rfl⟩
 unfold wtI
 obtain ⟨r,hrr⟩:∃ r,rootN n=r:=⟨_,rfl⟩
 rw [hrr] at hr ⊢
 simp only [hrr] at hroot
 obtain ⟨top,htop⟩:∃ top,(n:Int) / (r:Int)=top:=⟨_,rfl⟩
 rw [htop]
 obtain ⟨w,hw⟩:∃ w,wtA n d=w:=⟨_,rfl⟩
 have hw1:1<d→1048576 / ((d:Int)*((d:Int) - 1))=w:=fun h=>by rw [←hw,wtA,if_pos h]
 have hw2 : ¬ 1<d→1048576 / (n:Int)=w:=fun h=>by rw [←hw,wtA,if_neg h]
 rw [hw] at hwa ⊢
 have hdd:1<d→0<(d:Int)*((d:Int) - 1):=fun h=>Int.mul_pos (by omega) (by omega)
 have hddu:(d:Int)*((d:Int) - 1)≤80*80:=Int.mul_le_mul (by omega) (by omega) (by omega) (by decide)
 have hdn:0<(d:Int)*(n:Int):=Int.mul_pos (by omega) (by omega)
 have hdnu:(d:Int)*(n:Int)≤80*80:=Int.mul_le_mul (by omega) (by omega) (by omega) (by decide)
 have hq1:0≤262144*(r:Int) / ((d:Int)*(n:Int))∧262144*(r:Int) / ((d:Int)*(n:Int))≤262144*(r:Int):=⟨Int.ediv_nonneg (by omega) (by omega),Int.ediv_le_self _ (by omega)⟩
 have hq2:0≤524288*(r:Int) / (n:Int)∧524288*(r:Int) / (n:Int)≤524288*(r:Int):=⟨Int.ediv_nonneg (by omega) (by omega),Int.ediv_le_self _ (by omega)⟩
 by_cases c1:1<d
 ·have hw1:=hw1 c1
  have hdd:=hdd c1
  by_cases c2:(d:Int)<top
  ·rw [if_pos c2]
   repeat' (first|intro _|(refine a0K ?_;refine a0L rfl hc ?_)|refine a0A (fun _=>hroot _) rfl (fun _ _=>?_)|(refine a0D .quo ?_;first|(refine a3A (p:=(n:Int)) rfl rfl (by omega) ?_;rw [htop])|refine a3A (p:=1048576) (q:=(n:Int)) rfl rfl (by omega) ?_|(refine a3A (p:=1048576) (q:=(d:Int)*((d:Int) - 1)) rfl rfl (by omega) ?_;rw [hw1])|refine a3A (p:=262144*(r:Int)) rfl rfl (by omega) ?_)|(refine a0D .gtr ?_;refine a4T rfl rfl (by omega) ?_)|(refine a0D .sub ?_;refine a3D rfl rfl (by omega) ?_)|(refine a0D .mul ?_;first|refine a2Y (p:=(d:Int)) (q:=(d:Int) - 1) rfl rfl (by omega) ?_|refine a2Y (p:=262144) rfl rfl (by omega) ?_|refine a2Y (p:=(d:Int)) (q:=(n:Int)) rfl rfl (by omega) ?_)|(refine a0D .lss ?_;refine a6Z rfl rfl c2 ?_)|(refine a0D .add ?_;refine a2F rfl rfl (by omega) ?_)|(refine a1W ?_;refine a2I rfl ?_)|refine wK ?_|refine wL ?_ ?_|fail)
   refine a0E () rfl rfl rfl trivial ?_
   exact ent
  ·rw [if_neg c2]
   by_cases c3:(d:Int)=top
   ·rw [if_pos c3]
    repeat' (first|intro _|(refine a0K ?_;refine a0L rfl hc ?_)|refine a0A (fun _=>hroot _) rfl (fun _ _=>?_)|(refine a0D .quo ?_;first|(refine a3A (p:=(n:Int)) rfl rfl (by omega) ?_;rw [htop])|refine a3A (p:=1048576) (q:=(n:Int)) rfl rfl (by omega) ?_|(refine a3A (p:=1048576) (q:=(d:Int)*((d:Int) - 1)) rfl rfl (by omega) ?_;rw [hw1])|refine a3A (p:=524288*(r:Int)) rfl rfl (by omega) ?_)|(refine a0D .gtr ?_;refine a4T rfl rfl (by omega) ?_)|(refine a0D .sub ?_;refine a3D rfl rfl (by omega) ?_)|(refine a0D .mul ?_;first|refine a2Y (p:=(d:Int)) (q:=(d:Int) - 1) rfl rfl (by omega) ?_|refine a2Y (p:=524288) rfl rfl (by omega) ?_)|(refine a0D .lss ?_;refine a3S rfl rfl (by omega) ?_)|(refine a0D .eql ?_;refine a3I rfl rfl c3 ?_)|(refine a0D .add ?_;refine a2F rfl rfl (by omega) ?_)|(refine a1W ?_;refine a2I rfl ?_)|refine wK ?_|refine wL ?_ ?_|fail)
    refine a0E () rfl rfl rfl trivial ?_
    exact ent
   ·rw [if_neg c3]
    repeat' (first|intro _|(refine a0K ?_;refine a0L rfl hc ?_)|refine a0A (fun _=>hroot _) rfl (fun _ _=>?_)|(refine a0D .quo ?_;first|(refine a3A (p:=(n:Int)) rfl rfl (by omega) ?_;rw [htop])|refine a3A (p:=1048576) (q:=(n:Int)) rfl rfl (by omega) ?_|(refine a3A (p:=1048576) (q:=(d:Int)*((d:Int) - 1)) rfl rfl (by omega) ?_;rw [hw1]))|(refine a0D .gtr ?_;refine a4T rfl rfl (by omega) ?_)|(refine a0D .sub ?_;refine a3D rfl rfl (by omega) ?_)|(refine a0D .mul ?_;refine a2Y (p:=(d:Int)) (q:=(d:Int) - 1) rfl rfl (by omega) ?_)|(refine a0D .lss ?_;refine a3S rfl rfl (by omega) ?_)|(refine a0D .eql ?_;refine a1Y rfl rfl c3 ?_)|(refine a1W ?_;refine a2I rfl ?_)|refine wK ?_|refine wL ?_ ?_|fail)
    refine a0E () rfl rfl rfl trivial ?_
    exact ent
 ·have hw2:=hw2 c1
  by_cases c2:(d:Int)<top
  ·rw [if_pos c2]
   repeat' (first|intro _|(refine a0K ?_;refine a0L rfl hc ?_)|refine a0A (fun _=>hroot _) rfl (fun _ _=>?_)|(refine a0D .quo ?_;first|(refine a3A (p:=(n:Int)) rfl rfl (by omega) ?_;rw [htop])|(refine a3A (p:=1048576) (q:=(n:Int)) rfl rfl (by omega) ?_;rw [hw2])|refine a3A (p:=262144*(r:Int)) rfl rfl (by omega) ?_)|(refine a0D .gtr ?_;refine a3H rfl rfl (by omega) ?_)|(refine a0D .lss ?_;refine a6Z rfl rfl c2 ?_)|(refine a0D .mul ?_;first|refine a2Y (p:=262144) rfl rfl (by omega) ?_|refine a2Y (p:=(d:Int)) (q:=(n:Int)) rfl rfl (by omega) ?_)|(refine a0D .add ?_;refine a2F rfl rfl (by omega) ?_)|(refine a1W ?_;refine a2I rfl ?_)|refine wK ?_|refine wL ?_ ?_|fail)
   refine a0E () rfl rfl rfl trivial ?_
   exact ent
  ·rw [if_neg c2]
   by_cases c3:(d:Int)=top
   ·rw [if_pos c3]
    repeat' (first|intro _|(refine a0K ?_;refine a0L rfl hc ?_)|refine a0A (fun _=>hroot _) rfl (fun _ _=>?_)|(refine a0D .quo ?_;first|(refine a3A (p:=(n:Int)) rfl rfl (by omega) ?_;rw [htop])|(refine a3A (p:=1048576) (q:=(n:Int)) rfl rfl (by omega) ?_;rw [hw2])|refine a3A (p:=524288*(r:Int)) rfl rfl (by omega) ?_)|(refine a0D .gtr ?_;refine a3H rfl rfl (by omega) ?_)|(refine a0D .lss ?_;refine a3S rfl rfl (by omega) ?_)|(refine a0D .eql ?_;refine a3I rfl rfl c3 ?_)|(refine a0D .mul ?_;refine a2Y (p:=524288) rfl rfl (by omega) ?_)|(refine a0D .add ?_;refine a2F rfl rfl (by omega) ?_)|(refine a1W ?_;refine a2I rfl ?_)|refine wK ?_|refine wL ?_ ?_|fail)
    refine a0E () rfl rfl rfl trivial ?_
    exact ent
   ·rw [if_neg c3]
    repeat' (first|intro _|(refine a0K ?_;refine a0L rfl hc ?_)|refine a0A (fun _=>hroot _) rfl (fun _ _=>?_)|(refine a0D .quo ?_;first|(refine a3A (p:=(n:Int)) rfl rfl (by omega) ?_;rw [htop])|(refine a3A (p:=1048576) (q:=(n:Int)) rfl rfl (by omega) ?_;rw [hw2]))|(refine a0D .gtr ?_;refine a3H rfl rfl (by omega) ?_)|(refine a0D .lss ?_;refine a3S rfl rfl (by omega) ?_)|(refine a0D .eql ?_;refine a1Y rfl rfl c3 ?_)|(refine a1W ?_;refine a2I rfl ?_)|refine wK ?_|refine wL ?_ ?_|fail)
    refine a0E () rfl rfl rfl trivial ?_
    exact ent
def rtL5_0:List Row:=[tR 5 [] [],tR 6 [0] [0],tR 7 [1] [0,1],tR 8 [2] [0,1,2],tR 9 [] [],tR 10 [3,4] (rG 5),tR 11 [5] (rG 6),tR 12 [] [],tR 13 [6,7] (rG 8),tR 4 [8,0,1,2,3,4,5,6,7,8] (rG 9)]
def rtL5_1:List Row:=[tR 8 [] [],tR 9 [0] [0],tR 10 [1] [0,1],tR 11 [] [],tR 12 [3] [3],tR 13 [2,4] (rG 5)]
def rtL5_2:List Row:=[tR 14 [] [],tR 15 [0] [0],tR 16 [] [],tR 17 [2] [2],tR 18 [3] [2,3],tR 19 [4] [2,3,4],tR 20 [] [],tR 21 [6] [6],tR 22 [7] [6,7],tR 23 [8] [6,7,8],tR 24 [9] [6,7,8,9],tR 25 [5,10] [2,3,4,5,6,7,8,9,10],tR 26 [11] [2,3,4,5,6,7,8,9,10,11],tR 27 [1,12] (rG 13),tR 28 [13] (rG 14),tR 5 [] [],⟨none,[15,14,0,1,2,3,4,5,6,7,8,9,10,11,12,13,14,15],[0,1,2,3,4,5,6,7,8,9,10,11,12,13,14,15],none⟩]
def wsL (n i:Nat):List (BitVec 32):=(List.range i).map (fun j=>BitVec.ofInt 32 (wtI n (j+1)))
theorem wsL_len (n i:Nat):(wsL n i).length=i:=by simp [wsL]
theorem wsL_succ (n i:Nat):wsL n (i+1)=wsL n i++[BitVec.ofInt 32 (wtI n (i+1))]:=by simp [wsL,List.range_succ]
def sumA (n:Nat):Nat→BitVec 64
 | 0=>0#64
 | i+1=>sumA n i+(BitVec.ofInt 32 (wtI n (i+1))).setWidth 64
def sumsL (n i:Nat):List (BitVec 64):=(List.range i).map (fun j=>sumA n (j+1))
theorem b5S (n i:Nat):(sumsL n i).length=i:=by simp [sumsL]
theorem sumsL_succ (n i:Nat):sumsL n (i+1)=sumsL n i++[sumA n (i+1)]:=by simp [sumsL,List.range_succ]
theorem tb_New (H:List Hl) (n:Nat) (h1:1≤n) (h2:n≤80) :
  Spec Tryz.prog 139 [I n] H (fun _:Nat=>True) (fun t => .pointer (some ⟨t,0,none⟩)) (fun t => .box t 265 (tbC n 0#32 0 (.slice none 0 0))::H):=by
 refine sP (res:=fun t:Nat=>[.box t 265 (tbC n 0#32 0 (.slice none 0 0))]) H Tryz.func139 Tryz.ntmps139 fun W=>?_
 repeat' (first|intro _|(refine a0D .lss ?_;refine a3S rfl rfl (by omega) ?_)|(refine a0D .gtr ?_;refine a3H rfl rfl (by omega) ?_)|(refine k_box ?_;refine a1V rfl rfl (fun t=>?_))|refine wK ?_|refine wL ?_ ?_|fail)
 refine a0E t rfl rfl rfl trivial ?_
 exact ent
theorem tb_Weights (H:List Hl) (t n:Nat) (h1:1≤n) (h2:n≤80) (hc:Cl (stars H) ⟨t,0,none⟩ (I n)) :
  Spec Tryz.prog 211 [.pointer (some ⟨t,0,none⟩)] H (fun _:Option Addr × Nat=>True) (fun r => .slice r.1 n r.2) (fun r => .row 31 1 (.slice r.1 n r.2) n ((wsL n n).map W4)::H):=by
 refine sP (res:=fun r:Option Addr × Nat=>[.row 31 1 (.slice r.1 n r.2) n ((wsL n n).map W4)]) H Tryz.func211 Tryz.ntmps211 fun W=>?_
 repeat' (first|intro _|refine a0S rfl rfl ?_|refine wK ?_|refine wL ?_ ?_|fail)
 refine a3J (a1A 31 W4) ?_
 refine a0Y (S:=Nat × Option Addr × Nat) (fun q=>[(0,.pointer (some ⟨t,0,none⟩)),(3,.slice q.2.1 q.1 q.2.2),(4,I (q.1+1:Nat))]) (fun q=>[.row 31 1 (.slice q.2.1 q.1 q.2.2) q.1 ((wsL n q.1).map W4),.any (stars H)]) (fun q=>q.1≤n) (fun q=>n - q.1) (0,none,0) (Nat.zero_le _) cv ent ?_
 rintro ⟨i,a,c⟩ hi
 dsimp only at hi ⊢
 have hl:=wsL_len n i
 by_cases hlt:i<n
 ·obtain ⟨x,hx⟩:∃ x,BitVec.ofInt 32 (wtI n (i+1))=x:=⟨_,rfl⟩
  have hs:=wsL_succ n i
  rw [hx] at hs
  have hw:=fun (H':List Hl) (h:Cl (stars H') ⟨t,0,none⟩ (I n))=>tb_weight H' t n (i+1) h1 h2 (by omega) (by omega) h
  simp only [hx] at hw
  have hsuc:((i+1:Nat):Int)+1=((i+1+1:Nat):Int):=by push_cast;rfl
  repeat' (first|intro _|(refine a0K ?_;refine a0L rfl hc ?_)|(refine a0D .leq ?_;refine b1F rfl rfl (by omega) ?_)|refine a0A (fun _=>hw _ (cl_up hc)) rfl (fun _ _=>?_)|(refine a0P ?_;refine a0O W4 [x] rfl rfl rfl (fun _=>rfl) rfl rfl rfl (fun b19=>?_))|(refine a1S ?_;(refine a1H (xs:=wsL n i) (ys:=[x]) rfl rfl (a2H rfl (by decide)) rfl rfl (fun _=>rfl) (by omega) (by omega) (fun a20 c20=>?_);rw [←hs]))|(refine a0D .add ?_;(refine a2F rfl rfl (by omega) ?_;rw [hsuc]))|refine wK ?_|refine wL ?_ ?_|fail)
  refine a0Q (i+1,a20,c20) (by show i+1≤n;omega) (by show n - (i+1)<n - i;omega) cv ?_
  exact ent
 ·have:i=n:=by omega
  subst this
  repeat' (first|intro _|(refine a0K ?_;refine a0L rfl hc ?_)|(refine a0D .leq ?_;refine b1G rfl rfl (by omega) ?_)|refine wK ?_|refine wL ?_ ?_|fail)
  refine a0E (a,c) rfl rfl rfl trivial ?_
  exact ent
theorem tb_fill (H:List Hl) (t n:Nat) (h1:1≤n) (h2:n≤80) :
  Spec Tryz.prog 184 [.pointer (some ⟨t,0,none⟩)] (.box t 265 (tbC n 0#32 1 (.slice none 0 0))::H) (fun _:Option Addr × Nat=>True) (fun _ => .tuple #[]) (fun r => .box t 265 (tbC n 0#32 1 (.slice r.1 n r.2)) :: .row 35 1 (.slice r.1 n r.2) n ((sumsL n n).map W8)::H):=by
 refine sF (res:=fun r:Option Addr × Nat=>[.box t 265 (tbC n 0#32 1 (.slice r.1 n r.2)),.row 35 1 (.slice r.1 n r.2) n ((sumsL n n).map W8)]) [.box t 265 (tbC n 0#32 1 (.slice none 0 0))] H Tryz.func184 Tryz.ntmps184 fun W=>?_
 dsimp only [cA,nA]
 repeat' (first|intro _|(refine k_fn 211 ?_;(refine a0A (fun _=>tb_Weights _ t n h1 h2 (a1M (T:=265) (cs:=tbC n 0#32 1 (.slice none 0 0)) rfl)) rfl (fun ⟨a6,c6⟩ _=>?_);(try dsimp only)))|refine wK ?_|refine wL ?_ ?_|fail)
 refine a3J (a1A 35 W8) ?_
 refine a0Y (S:=Nat × Option Addr × Nat) (fun q=>[(0,.pointer (some ⟨t,0,none⟩)),(2,W8 (sumA n q.1)),(6,.slice a6 n c6),(7,I n),(8,I q.1)]) (fun q=>[.box t 265 (tbC n 0#32 1 (.slice q.2.1 q.1 q.2.2)),.row 35 1 (.slice q.2.1 q.1 q.2.2) q.1 ((sumsL n q.1).map W8),.row 31 1 (.slice a6 n c6) n ((wsL n n).map W4),.any (stars H)]) (fun q=>q.1≤n) (fun q=>n - q.1) (0,none,0) (Nat.zero_le _) cv ent ?_
 rintro ⟨i,a,c⟩ hi
 dsimp only at hi ⊢
 have hl:=b5S n i
 have hwl:=wsL_len n n
 by_cases hlt:i<n
 ·have hil:i<(wsL n n).length:=by omega
  have hx:(wsL n n)[i]=BitVec.ofInt 32 (wtI n (i+1)):=by simp [wsL]
  obtain ⟨x,hxx⟩:∃ x,BitVec.ofInt 32 (wtI n (i+1))=x:=⟨_,rfl⟩
  rw [hxx] at hx
  have hs:=sumsL_succ n i
  have hsum:sumA n i+x.setWidth 64=sumA n (i+1):=by rw [←hxx];rfl
  obtain ⟨y,hy⟩:∃ y,sumA n (i+1)=y:=⟨_,rfl⟩
  rw [hy] at hs hsum
  repeat' (first|intro _|(refine a0J ?_;refine a2B (enc:=W4) (ad:=a6) (c:=c6) (xs:=wsL n n) i rfl rfl (a0I (T:=31)) hwl.symm rfl hil ?_)|(refine a0K ?_;first|(refine a1P (enc:=W4) (ad:=a6) (c:=c6) (xs:=wsL n n) i rfl (a0I (T:=31)) hil ?_;rw [hx])|refine a0F (b:=t) (i:=4) rfl rfl ?_)|(refine a1W ?_;refine a6H (m':=64) rfl ?_)|(refine a0D .add ?_;(refine a8F (m:=64) rfl rfl ?_;rw [hsum]))|(refine a0P ?_;refine a0O W8 [y] rfl rfl rfl (fun _=>rfl) rfl rfl rfl (fun b22=>?_))|(refine a1S ?_;(refine a1H (xs:=sumsL n i) (ys:=[y]) rfl rfl (a2H rfl (by decide)) rfl rfl (fun _=>rfl) (by omega) (by omega) (fun a23 c23=>?_);rw [←hs]))|(refine a1N ?_;refine a1R (b:=t) (i:=4) rfl rfl (by show 4<5;decide) rfl rfl ?_)|refine wK ?_|refine wL ?_ ?_|fail)
  refine a0Q (i+1,a23,c23) (by show i+1≤n;omega) (by show n - (i+1)<n - i;omega) (by dsimp only;rw [hy];exact cv) ?_
  exact ent
 ·have:i=n:=by omega
  subst this
  repeat' (first|intro _|refine wK ?_|refine wL ?_ ?_|fail)
  refine a4I (a,c) rfl rfl trivial ?_
  exact ent
theorem c1V {H:List Hl} {p:Addr} {v:Value} (h:Cl (stars H) p v):Cl (stars [.any (stars H)]) p v:=cl_up h
theorem c2E {α:Type} {H:List Hl} {enc:α→Value} {ad:Option Addr} {c:Nat} {l:List α} (h:Rs (stars H) enc ad c l):Rs (stars [.any (stars H)]) enc ad c l:=Rs.up h
def cmpF (n:Nat) (z:BitVec 64) (i:Nat):Bool:=decide ((z.toNat:Int)<(((sumsL n n).getD i 0#64).toNat:Int))
theorem tb_cmp (H:List Hl) (v b5 t n:Nat) (a:Option Addr) (c i:Nat) (z:BitVec 64) (k1:Cl (stars H) ⟨v,0,none⟩ (.pointer (some ⟨t,0,none⟩))) (k2:Cl (stars H) ⟨t,4,none⟩ (.slice a n c)) (k3:Rs (stars H) W8 a c (sumsL n n)) (k4:Cl (stars H) ⟨b5,0,none⟩ (W8 z)) (hi:i<n) :
  Spec Tryz.prog 186 [I i,.pointer (some ⟨v,0,none⟩),.pointer (some ⟨b5,0,none⟩)] H (fun _:Unit=>True) (fun _ => .bool (cmpF n z i)) (fun _=>H):=by
 refine sP (res:=fun _=>[]) H Tryz.func186 Tryz.ntmps186 fun W=>?_
 have hl:=b5S n n
 have hil:i<(sumsL n n).length:=by omega
 have e:decide ((z.toNat:Int)<((sumsL n n)[i].toNat:Int))=cmpF n z i:=by
  unfold cmpF
  rw [List.getD_eq_getElem?_getD,List.getElem?_eq_getElem hil]
  rfl
 repeat' (first|intro _|refine wK ?_|refine wL ?_ ?_|fail)
 refine a0H [(1,_),(0,_),(2,_)] rtL5_0 [] [⟨[0,1,2,3,4,5,6,7,8,9],[],none⟩] mixed cv (by kernel_rfl) (by kernel_rfl) ?_
 repeat' (first|intro _|refine sg ?_|(refine a1E ?_;refine po (by first|refine a0L rfl k1 fz|refine a0L rfl k2 fz|refine a1F (enc:=W8) (ad:=a) (c:=c) i rfl k3 hil fz|refine a0L rfl k4 fz|fail) ?_)|(refine a0Z ?_;refine po (by first|refine o1_ia (enc:=W8) (ad:=a) (c:=c) i rfl rfl k3 hl.symm rfl hil fz|fail) ?_)|(refine a1I .gtr ?_;refine po (by first|((refine o1_gtr_d rfl rfl ?_;rw [e]);all_goals exact fz)|fail) ?_)|refine pw ?_|refine pdd ?_|refine ow ?_|fail)
 all_goals dsimp only [cA,nA]
 repeat' (first|intro _|refine wK ?_|refine wL ?_ ?_|fail)
 refine a0E () rfl rfl rfl trivial ?_
 exact ent
def zedF (n:Nat) (x:BitVec 32):BitVec 64:=(x.setWidth 64*sumA n n) >>> 32
def degF (n:Nat) (x:BitVec 32):Nat:=1+searchF (cmpF n (zedF n x)) n 0 n
theorem c1H (n:Nat) (x:BitVec 32):1≤degF n x∧degF n x≤n+1:=by
 have:=b3Y (cmpF n (zedF n x)) n 0 n (Nat.zero_le _)
 unfold degF
 omega
theorem tb_Degree (H:List Hl) (t n:Nat) (x:BitVec 32) (h1:1≤n) (h2:n≤80) :
  Spec Tryz.prog 140 [.pointer (some ⟨t,0,none⟩),W4 x] (.box t 265 (tbC n 0#32 0 (.slice none 0 0))::H) (fun _:Unit=>True) (fun _=>I (degF n x)) (fun _=>H):=by
 refine sF (res:=fun _:Unit=>[]) [.box t 265 (tbC n 0#32 0 (.slice none 0 0))] H Tryz.func140 Tryz.ntmps140 fun W=>?_
 dsimp only [cA,nA]
 have hl:=b5S n n
 have hnl:n - 1<(sumsL n n).length:=by omega
 have hlast:(sumsL n n)[n - 1]=sumA n n:=by
  simp only [sumsL,List.getElem_map,List.getElem_range]
  congr 1
  omega
 have hsub:(n:Int) - 1=((n - 1:Nat):Int):=by omega
 have hz:(x.setWidth 64*sumA n n) >>> (32:Int).toNat=zedF n x:=rfl
 obtain ⟨R,hR⟩:∃ R,searchF (cmpF n (zedF n x)) n 0 n=R:=⟨_,rfl⟩
 have hdg:=c1H n x
 have hdR:degF n x=1+R:=by rw [←hR];rfl
 have hadd:(1:Int)+(R:Int)=((degF n x:Nat):Int):=by rw [hdR];push_cast;rfl
 have hse:=fun (H':List Hl) (g:FuncId) (caps:List Value) hg=>sort_Search H' n g caps (cmpF n (zedF n x)) (by omega) hg
 rw [hR] at hse
 obtain ⟨z,hzz⟩:∃ z,zedF n x=z:=⟨_,rfl⟩
 rw [hzz] at hz hse
 repeat' (first|intro _|(refine k_box ?_;refine a1V rfl rfl (fun v=>?_))|(refine a0K ?_;refine a0F (b:=v) (i:=0) rfl rfl ?_)|refine a0S rfl rfl ?_|refine wK ?_|refine wL ?_ ?_|fail)
 refine a0H [(2,_)] rtL5_1 [4,5] [⟨[0,1,2,3],[],some 4⟩,⟨[],[0,1,2],some 5⟩,⟨[],[],none⟩] mixed cv (by kernel_rfl) (by kernel_rfl) ?_
 repeat' (first|intro _|refine sg ?_|(refine a1E ?_;refine po (by first|refine a0F (b:=v) (i:=0) rfl rfl fz|fail) ?_)|refine po (by first|refine o1_funcb (vs:=[.pointer (some ⟨t,0,none⟩)]) rfl fz|fail) ?_|refine pw ?_|refine pdd ?_|refine o1_funcb (vs:=[.pointer (some ⟨t,0,none⟩)]) rfl ?_|(refine k_fn 131 ?_;(refine a0G (b:=t) (fun hh=>on_Dob _ t 1 _ (tbC n 0#32 0 (.slice none 0 0)) 184 [.pointer (some ⟨t,0,none⟩)] rfl rfl (tb_fill _ t n h1 h2) (fun _ _=>rfl)) rfl (fun ⟨a,c⟩ _=>?_);(try dsimp only)))|refine ow ?_|fail)
 all_goals dsimp only [cA,nA]
 repeat' (first|intro _|refine wK ?_|refine wL ?_ ?_|fail)
 refine a0H [(1,_),(2,_)] rtL5_2 [15,16] [⟨[0,1,2,3,4,5,6,7,8,9,10,11,12,13,14],[],some 15⟩,⟨[],[0,1,2,3,4,5,6,7,8,9,10,11,12,13,14],some 16⟩,⟨[],[],none⟩] mixed cv (by kernel_rfl) (by kernel_rfl) ?_
 repeat' (first|intro _|refine sg ?_|(refine b0E ?_;refine po (by first|refine a6H (m':=64) rfl fz|fail) ?_)|(refine a1E ?_;refine po (by first|refine a0F (b:=v) (i:=0) rfl rfl fz|refine a0F (b:=t) (i:=4) rfl rfl fz|refine a0F (b:=t) (i:=0) rfl rfl fz|((refine a1P (enc:=W8) (ad:=a) (c:=c) (xs:=sumsL n n) (n - 1) rfl (a0I (T:=35)) hnl ?_;rw [hlast]);all_goals exact fz)|fail) ?_)|(refine a1I .sub ?_;refine po (by first|((refine a3D rfl rfl (by omega) ?_;rw [hsub]);all_goals exact fz)|fail) ?_)|(refine a0Z ?_;refine po (by first|refine a2B (enc:=W8) (ad:=a) (c:=c) (xs:=sumsL n n) (n - 1) rfl rfl (a0I (T:=35)) hl.symm rfl hnl fz|fail) ?_)|(refine a1I .mul ?_;refine po (by first|refine a7M (m:=64) rfl rfl fz|fail) ?_)|(refine a1I .shr ?_;refine po (by first|((refine a9K (m:=64) rfl rfl (by decide) ?_;rw [hz]);all_goals exact fz)|fail) ?_)|refine pw ?_|refine pdd ?_|(refine a1O ?_;refine a1D rfl (fun b5=>?_))|refine ow ?_|fail)
 all_goals dsimp only [cA,nA]
 repeat' (first|intro _|(refine a0K ?_;first|refine a0F (b:=v) (i:=0) rfl rfl ?_|refine a0F (b:=t) (i:=0) rfl rfl ?_)|refine b6K (vs:=[.pointer (some ⟨v,0,none⟩),.pointer (some ⟨b5,0,none⟩)]) rfl ?_|refine a0A (fun hh=>hse _ 186 [.pointer (some ⟨v,0,none⟩),.pointer (some ⟨b5,0,none⟩)] (fun i hi=>tb_cmp _ v b5 t n a c i z (c1V (a1M (b:=v) rfl)) (c1V (a1M (b:=t) (i:=4) rfl)) (c2E (a0I (T:=35) (ad:=a) (c:=c) (l:=sumsL n n) hh)) (c1V (a1M (b:=b5) rfl)) hi)) rfl (fun _ _=>?_)|(refine a0D .add ?_;(refine a2F rfl rfl (by omega) ?_;rw [hadd]))|refine wK ?_|refine wL ?_ ?_|fail)
 refine a0E () rfl rfl rfl trivial ?_
 exact ent
def rowV (p:Prm) (id:BitVec 32):List Bool:=bitsOf p.n (sortI ((someF p.n (srcNx (srcNew p.s id)) (min (degF p.n (mixR (srcNx (srcNew p.s id)))) p.n)).1.take (min (degF p.n (mixR (srcNx (srcNew p.s id)))) p.n)))
theorem row_chance (p:Prm) (id:BitVec 32) (hp:p.ok) (h : ¬ id.toNat<p.k):SpRow p id (rowV p id):=by
 obtain ⟨p1,p2,p3,p4,p5⟩:=hp.out
 refine ⟨a8T _ _,fun H=>?_⟩
 refine sP (res:=fun r:Nat × Option Addr × Nat=>[vB r.1 p.n r.2.1 r.2.2,vR p.n r.2.1 r.2.2 (rowV p id)]) H Tryz.func85 Tryz.ntmps85 fun W=>?_
 have e:(if mayP (p.k:Int) p.p p.z=true then (p.k:Int)+p.p else 0)=(p.n:Int):=by rw [if_pos hp];push_cast;rfl
 have hn1 : ¬ (p.n:Int)=0:=by show ¬ ((p.k+p.p:Nat):Int)=0;omega
 have hn2:p.n≤80:=by show p.k+p.p≤80;omega
 have hn3:1≤p.n:=by show 1≤p.k+p.p;omega
 unfold rowV
 obtain ⟨s0,hs0⟩:∃ s0,srcNew p.s id=s0:=⟨_,rfl⟩
 obtain ⟨n,hn⟩:∃ n,p.n=n:=⟨_,rfl⟩
 have hnew:=fun (H':List Hl)=>rand_New H' p.s id
 simp only [hs0] at hnew
 rw [hs0,hn]
 rw [hn] at e hn1 hn2 hn3
 have hdg:=c1H n (mixR (srcNx s0))
 obtain ⟨k,hk⟩:∃ k,degF n (mixR (srcNx s0))=k:=⟨_,rfl⟩
 have hdeg:=fun (H':List Hl) (t:Nat)=>tb_Degree H' t n (mixR (srcNx s0)) hn3 hn2
 simp only [hk] at hdeg
 rw [hk] at hdg ⊢
 obtain ⟨m,hm⟩:∃ m,min k n=m:=⟨_,rfl⟩
 rw [hm]
 have hmm:(k≤n∧m=k)∨(n≤k∧m=n):=by omega
 have hll:m=(sortI ((someF n (srcNx s0) m).1.take m)).length:=by rw [b5W,List.length_take,b0A];omega
 obtain ⟨L,hL⟩:∃ L,sortI ((someF n (srcNx s0) m).1.take m)=L:=⟨_,rfl⟩
 have hsome:=fun (H':List Hl) (b:Nat)=>rand_Some H' b (srcNx s0) n k m hn3 (by omega) hmm hdg.1 (by omega)
 simp only [hL] at hsome
 rw [hL] at hll ⊢
 have hof:=fun (H':List Hl) (ad:Option Addr) (c:Nat) (h:Rs (stars H') I ad c L)=>c1W H' n ad c L (by omega) h
 rw [←hll] at hof
 repeat' (first|intro _|(refine k_fn 135 ?_;(refine a0A (fun _=>a4O _ p.s p.k p.p p.z) rfl (fun _ _=>?_);rw [e]))|(refine a0D .eql ?_;refine a1Y rfl rfl hn1 ?_)|(refine a1W ?_;refine a7O rfl (by omega) ?_)|(refine a0D .lss ?_;refine a3S rfl rfl (by omega) ?_)|refine a0A (fun _=>hnew _) rfl (fun b6 _=>?_)|refine a0G (b:=t30) (fun _=>hdeg _ t30) rfl (fun _ _=>?_)|(refine a0G (b:=b6) (fun _=>hsome _ b6) rfl (fun ⟨a34,c34⟩ _=>?_);(try dsimp only))|(refine a0A (fun hh=>hof _ a34 c34 (a0I (T:=3) (ad:=a34) (c:=c34) (l:=L) hh)) rfl (fun ⟨vb,va,vc⟩ _=>?_);(try dsimp only))|(refine k_fn 139 ?_;refine a0A (fun _=>tb_New _ n hn3 hn2) rfl (fun t30 _=>?_))|(refine k_fn 141 ?_;refine a0G (b:=b6) (fun _=>b6E _ b6 s0) rfl (fun _ _=>?_))|refine wK ?_|refine wL ?_ ?_|fail)
 refine a0E (vb,va,vc) rfl rfl rfl trivial ?_
 exact ent
def rowA (p:Prm) (id:BitVec 32):List Bool:=if id.toNat<p.k then unitV p id else rowV p id
theorem b5Z (p:Prm) (id:BitVec 32) (hp:p.ok):SpRow p id (rowA p id):=by
 unfold rowA
 by_cases h:id.toNat<p.k
 ·rw [if_pos h];exact b5B p id hp h
 ·rw [if_neg h];exact row_chance p id hp h
end Go.Dp
namespace Go.Dp
open Go.RowKit Sha
structure HdD where
 p:Prm
 v:BitVec 32
 im:List (BitVec 8)
structure Hds (hd:Bool→HdD):Prop where
 ok:∀ c,HdOk keyT (hd c).p (hd c).im (sha (hd c).im)
 v0:(hd false).v=10#32
 v1:(hd true).v=20#32
 k40:∀ c,(hd c).p.k≤40
 i1:∀ c,1≤(hd c).im.length
 sd:∀ c c',c≠c'→(hd c).p.s≠(hd c').p.s
def kv (hd:Bool→HdD):Option Bool→BitVec 32
 | none=>1#32
 | some c=>(hd c).v
def ki (hd:Bool→HdD):Option Bool→List (BitVec 8)
 | none=>sunL
 | some c=>(hd c).im
abbrev mH (h:HdD):ManD:=mOf h.p h.v h.im
def SlOk (hd:Bool→HdD) (l:List (BitVec 8)) (sl:Nat) (x:SlotD):Prop:=∃ q,x.v=kv hd q∧x.n=(ki hd q).length∧seg l (slotA sl) (ki hd q).length=ki hd q
def GoodR (h:HdD) (r:Rec):Prop:=r.2=datP h.p h.im (rowA h.p r.1)
structure EnvS (hd:Bool→HdD) (l:List (BitVec 8)) (s:StD):Prop where
 may:s.may=true
 nf:nf s=s
 cur:SlOk hd l s.a.toNat s.cur
 oth:0<s.t→SlOk hd l (1 - s.a).toNat s.oth
 fv:s.f.toNat≤s.cur.v.toNat
 fo:0<s.t→s.f.toNat≤s.oth.v.toNat
 wh:WhOk l s.g.toNat
 ses:s.on=true→s.t=0∧∃ c,s.m=mH (hd c)∧s.f.toNat<(hd c).v.toNat∧s.cur.v.toNat<(hd c).v.toNat∧WhG l s.g (hd c).p.z (GoodR (hd c))
structure EnvF (hd:Bool→HdD) (f:Fl) (n:Nat) (s:StD):Prop where
 few:Few f n
 wr:f.wear=5000
 cell:∃ k w,k≤n∧CellIs f.bs k s.by w
 gb:s.g.toNat≤n
 st:EnvS hd f.bs s
section
variable {hd:Bool→HdD} {l l':List (BitVec 8)} {s:StD} {f:Fl} {n:Nat}
theorem Hds.z (h:Hds hd) (c:Bool):1≤(hd c).p.z∧(hd c).p.z≤16:=by obtain ⟨p1,p2,p3,p4,p5⟩:=(h.ok c).ok.out;exact ⟨p4,p5⟩
theorem Hds.v (h:Hds hd) (c:Bool):(hd c).v.toNat=if c=true then 20 else 10:=by
 cases c with
 | false=>rw [h.v0];rfl
 | true=>rw [h.v1];rfl
theorem a8D {a m b k:Nat} (e:seg l' a m=seg l a m) (h1:a≤b) (h2:b+k≤a+m):seg l' b k=seg l b k:=a6C fun i i1 i2=>by
 have q1:=a1X l' a m (i - a)
 have q2:=a1X l a m (i - a)
 rw [if_pos (by omega),show a+(i - a)=i by omega] at q1 q2
 rw [←q1,←q2,e]
theorem ki_le (H:Hds hd):∀ q,(ki hd q).length≤512
 | none=>by show (3:Nat)≤512;decide
 | some c=>(H.ok c).le
theorem SlOk.keep {sl:Nat} {x:SlotD} (H:Hds hd) (h:SlOk hd l sl x) (hs:sl<2) (e:seg l' (slotA sl) 512=seg l (slotA sl) 512):SlOk hd l' sl x:=by
 obtain ⟨q,q1,q2,q3⟩:=h
 have:=ki_le H q
 exact ⟨q,q1,q2,by rw [a8D e (Nat.le_refl _) (by omega)];exact q3⟩
theorem EnvS.an (h:EnvS hd l s):s.a.toNat<2∧(1 - s.a).toNat<2∧(1 - s.a).toNat=1 - s.a.toNat:=by
 have:=StD.may_a h.may
 omega
theorem a7S {sl:Nat} (h:sl<2):512≤slotA sl∧slotA sl+512≤1536:=by unfold slotA;omega
theorem EnvS.keep (H:Hds hd) (h:EnvS hd l s) (e:seg l' 512 3072=seg l 512 3072):EnvS hd l' s:=by
 obtain ⟨a1,a2,_⟩:=h.an
 have w:=a8D (b:=1536) (k:=2048) e (by omega) (by omega)
 refine ⟨h.may,h.nf,h.cur.keep H a1 (a8D e (a7S a1).1 (by have:=(a7S a1).2;omega)),fun t=>(h.oth t).keep H a2 (a8D e (a7S a2).1 (by have:=(a7S a2).2;omega)),h.fv,h.fo,h.wh.keep w,fun o=>?_⟩
 obtain ⟨t,c,m,f1,f2,g⟩:=h.ses o
 exact ⟨t,c,m,f1,f2,g.keep (H.z c).1 (H.z c).2 w⟩
theorem EnvF.mono {m:Nat} (h:EnvF hd f n s) (hm:n≤m):EnvF hd f m s:=by
 obtain ⟨k,w,hk,hc⟩:=h.cell
 exact ⟨h.few.mono hm,h.wr,⟨k,w,by omega,hc⟩,Nat.le_trans h.gb hm,h.st⟩
theorem EnvF.same {f':Fl} (h:EnvF hd f n s) (e1:f'.bs=f.bs) (e2:f'.er=f.er) (e3:f'.wear=f.wear):EnvF hd f' n s:=by
 obtain ⟨⟨q1,q2,q3⟩,q4,q5,q6,q7⟩:=h
 exact ⟨⟨by rw [e2];exact q1,by rw [e1];exact q2,by rw [e2];exact q3⟩,by rw [e3];exact q4,by rw [e1];exact q5,q6,by rw [e1];exact q7⟩
theorem EnvF.found (h:EnvF hd f n s):∃ k w,foundC f.bs=some ((k,s.by),w):=by
 obtain ⟨k,w,hk,hc⟩:=h.cell
 obtain ⟨kk,_,hf⟩:=hc.found h.few.bs
 exact ⟨kk,w,hf⟩
theorem EnvF.run (H:Hds hd) (h:EnvF hd f n s):∃ q,s.cur.v=kv hd q∧Runs f s.a.toNat (ki hd q).length∧seg f.bs (slotA s.a.toNat) (ki hd q).length=ki hd q:=by
 obtain ⟨q,q1,q2,q3⟩:=h.st.cur
 obtain ⟨kk,w,hf⟩:=h.found
 have ha:=StD.may_a h.st.may
 refine ⟨q,q1,⟨⟨kk,s.by,w,s.plain,hf,b7R h.st.may,?_,?_⟩,h.st.an.1,ki_le H q⟩,q3⟩
 ·show s.a=_
  omega
 ·show (s.plain).cur.n=_
  rw [←q2]
  unfold StD.cur
  show (if s.a=0 then s.plain.s0 else s.plain.s1).n=_
  split <;> rfl
theorem a9S {s1:StD} (H:Hds hd) (h:EnvF hd f n s) (hn:n<4000) (hu:f.pw.isDown=false) (h1:EnvS hd f.bs s1) (hg:s1.g.toNat≤n+1) :
  ∃ f1 v,cellW f s1.by=(f1,v)∧seg f1.bs 512 3072=seg f.bs 512 3072∧((v=0∧f1.pw.isDown=false∧EnvF hd f1 (n+1) s1)∨(v=11∧f1.pw = .down none∧∃ s',EnvF hd f1 (n+1) s')):=by
 obtain ⟨k,w,hk,hcell⟩:=h.cell
 obtain ⟨st,so,sc⟩:=b7I (q:=s1.by) hcell h.few (by rw [h.wr];omega) hu (b7J h1.may) (by omega)
 obtain ⟨⟨f1,v1⟩,hr⟩:∃ r,cellW f s1.by=r:=⟨_,rfl⟩
 rw [hr] at st so sc ⊢
 dsimp only at st so sc ⊢
 have hs:=so 512 3072 (by omega)
 have hgb:=h.gb
 refine ⟨f1,v1,rfl,hs,?_⟩
 rcases sc with ⟨e0,e1,e2⟩|⟨e0,e1,e2⟩
 ·exact .inl ⟨e0,e1,st.few,st.wear.trans h.wr,⟨k+1,1 - w,by omega,e2⟩,hg,h1.keep H hs⟩
 ·refine .inr ⟨e0,e1,?_⟩
  rcases e2 with e2|e2
  ·exact ⟨s1,st.few,st.wear.trans h.wr,⟨k+1,1 - w,by omega,e2⟩,hg,h1.keep H hs⟩
  ·exact ⟨s,st.few,st.wear.trans h.wr,⟨k,w,by omega,e2⟩,by omega,h.st.keep H hs⟩
theorem SlOk.of {sl:Nat} {x y:SlotD} (h:SlOk hd l sl x) (e1:y.v=x.v) (e2:y.n=x.n):SlOk hd l sl y:=by
 obtain ⟨q,q1,q2,q3⟩:=h
 exact ⟨q,by rw [e1];exact q1,by rw [e2];exact q2,q3⟩
theorem envS_start (h:EnvS hd l s) (ht:s.t≠0):EnvS hd l (startS s):=by
 have htm:=(a5J.1 h.may).t
 have hof:s.on=false:=by
  cases ho:s.on with
  | false=>rfl
  | true=>exact absurd (h.ses ho).1 ht
 have hp:0<s.t:=by omega
 have ha:=StD.may_a h.may
 have hnf:Go.Dp.nf (startS s)=startS s:=by rw [b9H,h.nf]
 by_cases t1:s.t=1
 ·have ea:(startS s).a=1 - s.a:=if_pos t1
  have et:(startS s).t=0:=by show (if s.t=0 then 0 else s.t - 1)=0;rw [if_neg ht];omega
  have ec:(startS s).cur=s.oth:=by
   unfold StD.cur StD.oth
   rw [ea]
   rcases ha with h1|h1
   ·rw [if_neg (by omega),if_pos h1];rfl
   ·rw [if_pos (by omega),if_neg (by omega)];rfl
  refine ⟨b2K h.may,hnf,by rw [ea,ec];exact h.oth hp,fun q=>by omega,by rw [ec];exact h.fo hp,fun q=>by omega,h.wh,fun o=>?_⟩
  have:(startS s).on=s.on:=rfl
  rw [this,hof] at o;cases o
 ·have ea:(startS s).a=s.a:=if_neg t1
  have ec:(startS s).cur=s.cur:=by unfold StD.cur;rw [ea];rfl
  have eo:(startS s).oth=s.oth:=by unfold StD.oth;rw [ea];rfl
  refine ⟨b2K h.may,hnf,by rw [ea,ec];exact h.cur,fun q=>by rw [ea,eo];exact h.oth hp,by rw [ec];exact h.fv,fun q=>by rw [eo];exact h.fo hp,h.wh,fun o=>?_⟩
  have:(startS s).on=s.on:=rfl
  rw [this,hof] at o;cases o
theorem b3G (h:EnvS hd l s):EnvS hd l (confS s):=by
 have hm:=maxV_hr s.f s.cur.v
 have hfv:=h.fv
 have ec:(confS s).cur=s.cur:=rfl
 have ef:(confS s).f=maxV s.f s.cur.v:=rfl
 have hmx:(maxV s.f s.cur.v).toNat=s.cur.v.toNat:=by omega
 refine ⟨a9U h.may,by rw [b1Y,h.nf],h.cur,fun q=>absurd q (by show ¬ (0:Int)<0;omega),by rw [ec,ef,hmx];exact Nat.le_refl _,fun q=>absurd q (by show ¬ (0:Int)<0;omega),h.wh,fun o=>?_⟩
 obtain ⟨t,c,m,f1,f2,g⟩:=h.ses o
 exact ⟨rfl,c,m,by rw [ef,hmx];exact f2,f2,g⟩
theorem errOf_zero {x:StD} {m:ManD} (h:errOf x m=0):x.may=true∧m.may=true∧x.t≤0∧x.f.toNat<m.v.toNat∧x.cur.v.toNat<m.v.toNat ∧ ¬ (x.on=true∧x.m.same m=true):=by
 unfold errOf at h
 split at h
 ·cases h
 split at h
 ·cases h
 split at h
 ·cases h
 split at h
 ·cases h
 split at h
 ·cases h
 rename_i h1 h2 h3 h4 h5
 have h1:x.may=true:=by simpa using h1
 have h2:m.may=true:=by simpa using h2
 have h5:x.newer m.v=true:=by simpa using h5
 unfold StD.newer at h5
 simp only [Bool.and_eq_true,decide_eq_true_eq] at h5
 exact ⟨h1,h2,by omega,h5.2.1,h5.2.2.1,h4⟩
theorem b7A (H:Hds hd) (h:EnvS hd l s) {c:Bool} (he:errOf s (mH (hd c))=0) (hl:l.length=3584) (hg:s.g.toNat<4000000000):EnvS hd l (hearS s (hd c).p (hd c).v (hd c).im):=by
 obtain ⟨e1,e2,e3,e4,e5,e6⟩:=errOf_zero he
 have htm:=(a5J.1 h.may).t
 have hgs:(s.g+1#32).toNat=s.g.toNat+1:=by
  rw [BitVec.toNat_add]
  have:(1#32).toNat=1:=rfl
  omega
 have ec1:(hearS s (hd c).p (hd c).v (hd c).im).cur.v=s.cur.v:=by
  show (if s.a=0 then _ else _:SlotD).v=(if s.a=0 then s.s0 else s.s1).v
  split <;> rfl
 have ec2:(hearS s (hd c).p (hd c).v (hd c).im).cur.n=s.cur.n:=by
  show (if s.a=0 then _ else _:SlotD).n=(if s.a=0 then s.s0 else s.s1).n
  split <;> rfl
 refine ⟨b3P h.may ((H.ok c).may _ _),rfl,h.cur.of ec1 ec2,fun q=>absurd q (by show ¬ 0<s.t;omega),by rw [ec1];exact h.fv,fun q=>absurd q (by show ¬ 0<s.t;omega),h.wh.mono (by show s.g.toNat≤(s.g+1#32).toNat;omega),fun _=>⟨by show s.t=0;omega,c,rfl,e4,by rw [ec1];exact e5,?_⟩⟩
 exact WhG.newer (G:=fun _=>True) (g:=s.g) (z:=1) ⟨h.wh,fun _ _ _ _ _ _ _=>trivial⟩ hl (by show s.g.toNat<(s.g+1#32).toNat;omega) (by show (s.g+1#32).toNat<_;omega) (H.z c).1 (H.z c).2
theorem nf_cur_n (x:StD):(nf x).cur.n=x.cur.n:=by
 unfold StD.cur
 show (if x.a=0 then (nf x).s0 else (nf x).s1).n=_
 split <;> rfl
theorem nf_oth_v (x:StD):(nf x).oth.v=x.oth.v:=by
 unfold StD.oth
 show (if x.a=0 then (nf x).s1 else (nf x).s0).v=_
 split <;> rfl
theorem nf_oth_n (x:StD):(nf x).oth.n=x.oth.n:=by
 unfold StD.oth
 show (if x.a=0 then (nf x).s1 else (nf x).s0).n=_
 split <;> rfl
theorem envS_act (H:Hds hd) (h:EnvS hd l s) {c:Bool} (ho:s.on=true) (hm:s.m=mH (hd c)) (hs:seg l (slotA (1 - s.a).toNat) (hd c).im.length=(hd c).im):EnvS hd l (nf (actS s)):=by
 obtain ⟨t,c',m,f1,f2,g⟩:=h.ses ho
 have ha:=StD.may_a h.may
 obtain ⟨a1,a2⟩:=c1L s ha
 have hv:s.m.v=(hd c').v:=by rw [m];rfl
 have e1:(nf (actS s)).cur.v=s.m.v:=by rw [b3A,a1];rfl
 have e2:(nf (actS s)).cur.n=s.m.n:=by rw [nf_cur_n,a1];rfl
 have e3:(nf (actS s)).oth.v=s.cur.v:=by rw [nf_oth_v,a2]
 have e4:(nf (actS s)).oth.n=s.cur.n:=by rw [nf_oth_n,a2]
 refine ⟨by rw [a6T];exact b7Q h.may ho t,rfl,⟨some c,?_,?_,hs⟩,fun _=>?_,?_,fun _=>?_,h.wh,fun o=>by cases o⟩
 ·rw [e1,hm];rfl
 ·rw [e2,hm];rfl
 ·have:(1 - (nf (actS s)).a)=s.a:=by show (1:Int) - (1 - s.a)=s.a;omega
  rw [this]
  exact h.cur.of e3 e4
 ·rw [e1,hv];exact Nat.le_of_lt f1
 ·rw [e3];exact h.fv
end
theorem symD_datD {L:List (List (BitVec 8))} {z:Nat} {v:List Bool} (hL:∀ i (h:i<L.length),L[i].length=z) (hv:v.length=L.length) (h0:∃ i,i<v.length∧at_ v i=true):symD L v=datD L z v:=by
 obtain ⟨P,hP⟩:∃ P,placesN (at_ v) v.length=P:=⟨_,rfl⟩
 have hmem:∀ k∈P,k<L.length:=fun k hk=>by
  rw [←hP] at hk
  have:=List.mem_range.1 (List.mem_filter.1 hk).1
  omega
 have hPl:0<P.length:=by
  obtain ⟨i,i1,i2⟩:=h0
  have:i∈P:=by rw [←hP];exact List.mem_filter.2 ⟨List.mem_range.2 i1,i2⟩
  exact List.length_pos_of_mem this
 obtain ⟨Q,hQ⟩:∃ Q:List (SlD (BitVec 8)),P.map (fun k=>(⟨none,0,L.getD k []⟩:SlD (BitVec 8)))=Q:=⟨_,rfl⟩
 have hQl:Q.length=P.length:=by rw [←hQ];simp
 have hQz:∀ j (h:j<Q.length),Q[j].l.length=z:=fun j h=>by
  have hj:j<P.length:=by omega
  have hm:=hmem P[j] (List.getElem_mem hj)
  have:Q[j].l=L.getD P[j] []:=by simp [←hQ]
  rw [this,List.getD_eq_getElem?_getD,List.getElem?_eq_getElem hm]
  exact hL _ hm
 have hsum:symD L v=accL z Q Q.length:=by
  unfold symD
  rw [hP,hQ]
  exact b7Z (by omega) hQz
 have hlen:∀ i,i≤Q.length→(accL z Q i).length=z:=fun i=>by
  induction i with
  | zero=>intro _;simp [b3T]
  | succ i ih =>
   intro hi
   rw [a8W _ _ _ (by omega),a6W _ _ (by rw [ih (by omega),hQz i (by omega)]),ih (by omega)]
 have hbyte:∀ k,k<z→∀ i,i≤Q.length→(accL z Q i).getD k 0#8=((P.take i).map (fun j=>at8 L j k)).foldl (· ^^^ ·) 0#8:=fun k hk i=>by
  induction i with
  | zero=>intro _;simp [b3T,List.getD_eq_getElem?_getD,hk]
  | succ i ih =>
   intro hi
   have hiP:i<P.length:=by omega
   rw [List.take_succ_eq_append_getElem hiP,List.map_append,List.foldl_append,←ih (by omega),a8W _ _ _ (by omega)]
   have h1:=hlen i (by omega)
   have h2:=hQz i (by omega)
   have e:Q[i].l=L.getD P[i] []:=by simp [←hQ]
   have e2:(xorL (accL z Q i) Q[i].l)[k]?=some ((accL z Q i)[k]'(by omega) ^^^ (Q[i].l)[k]'(by omega)):=by
    rw [List.getElem?_eq_getElem (by rw [a6W _ _ (by omega)];omega)]
    simp [xorL]
   rw [List.getD_eq_getElem?_getD,e2]
   have e3:(accL z Q i).getD k 0#8=(accL z Q i)[k]'(by omega):=by rw [List.getD_eq_getElem?_getD,List.getElem?_eq_getElem (by omega)];rfl
   have e4:at8 L P[i] k=(Q[i].l)[k]'(by omega):=by
    unfold at8
    rw [←e,List.getD_eq_getElem?_getD,List.getElem?_eq_getElem (by omega)];rfl
   rw [e3]
   simp [e4]
 have hpl:∀ k m,((placesN (at_ v) m).map (fun j=>at8 L j k)).foldl (· ^^^ ·) 0#8=xsum (fun i=>pickB (at_ v i) (at8 L i k)) m:=fun k m=>by
  induction m with
  | zero=>rfl
  | succ m ih =>
   rw [a7J,List.map_append,List.foldl_append,ih]
   show _=xsum (fun i=>pickB (at_ v i) (at8 L i k)) m ^^^ pickB (at_ v m) (at8 L m k)
   cases at_ v m <;> simp [pickB]
 rw [hsum]
 apply List.ext_getElem
 ·rw [hlen _ (Nat.le_refl _),a1K]
 intro k k1 k2
 rw [hlen _ (Nat.le_refl _)] at k1
 have e:=hbyte k k1 Q.length (Nat.le_refl _)
 have e5:=hpl k v.length
 rw [hP] at e5
 rw [show P.take Q.length=P by rw [hQl,List.take_length],e5,hv,List.getD_eq_getElem?_getD,List.getElem?_eq_getElem (by rw [hlen _ (Nat.le_refl _)];exact k1)] at e
 simp only [datD,parS,List.getElem_map,List.getElem_range]
 exact e
theorem someF_mem (n:Nat) (s:BitVec 32) (hn:1≤n):∀ i,∀ x∈(someF n s i).1,0≤x∧x<(n:Int)
 | 0,x,hx=>by
  obtain ⟨j,hj,rfl⟩:=List.mem_map.1 hx
  have:=List.mem_range.1 hj
  omega
 | i+1,x,hx=>by
  have ih:=someF_mem n s hn i
  have hg:∀ k,0≤(someF n s i).1.getD k 0∧(someF n s i).1.getD k 0<(n:Int):=fun k=>by
   rw [List.getD_eq_getElem?_getD]
   cases h:(someF n s i).1[k]? with
   | none=>exact ⟨Int.le_refl _,by show (0:Int)<n;omega⟩
   | some y=>exact ih y (List.mem_of_getElem? h)
  simp only [someF,swapL] at hx
  rcases List.mem_or_eq_of_mem_set hx with h|h
  ·rcases List.mem_or_eq_of_mem_set h with h|h
   ·exact ih x h
   ·rw [h];exact hg _
  ·rw [h];exact hg _
theorem b2R (p:Prm) (id:BitVec 32) (hp:p.ok):(rowA p id).length=p.n:=(b5Z p id hp).1
theorem rowA_one (p:Prm) (id:BitVec 32) (hp:p.ok):∃ i,i<p.n∧at_ (rowA p id) i=true:=by
 obtain ⟨p1,p2,p3,p4,p5⟩:=hp.out
 have hpn:p.n=p.k+p.p:=rfl
 unfold rowA
 by_cases h:id.toNat<p.k
 ·rw [if_pos h]
  exact ⟨id.toNat,by omega,by rw [a6K p id _ (by omega)];simp⟩
 ·rw [if_neg h]
  unfold rowV
  obtain ⟨m,hm⟩:∃ m,min (degF p.n (mixR (srcNx (srcNew p.s id)))) p.n=m:=⟨_,rfl⟩
  rw [hm]
  have hdg:=c1H p.n (mixR (srcNx (srcNew p.s id)))
  have hm1:1≤m:=by omega
  obtain ⟨L,hL⟩:∃ L,(someF p.n (srcNx (srcNew p.s id)) m).1.take m=L:=⟨_,rfl⟩
  have hLl:0<L.length:=by rw [←hL,List.length_take,b0A];omega
  have hx:=List.getElem_mem hLl
  have hin:0≤L[0]∧L[0]<(p.n:Int):=by
   refine someF_mem p.n (srcNx (srcNew p.s id)) (by omega) m _ ?_
   have:L[0]∈(someF p.n (srcNx (srcNew p.s id)) m).1.take m:=by rw [hL];exact hx
   exact List.mem_of_mem_take this
  rw [hL]
  refine ⟨L[0].toNat,by omega,?_⟩
  have:=b7L p.n (sortI L) L[0].toNat (by omega)
  show (bitsOf p.n (sortI L)).getD L[0].toNat false=true
  rw [this]
  have h2:L[0]∈sortI L:=(sortI_perm L).mem_iff.2 hx
  have h3:((L[0].toNat:Nat):Int)=L[0]:=by omega
  simp [h3,h2]
theorem symD_any {p:Prm} {im:List (BitVec 8)} (id:BitVec 32) (hp:p.ok):symD (pieA p im) (rowA p id)=datP p im (rowA p id):=by
 have hl:=b2R p id hp
 obtain ⟨i,i1,i2⟩:=rowA_one p id hp
 exact symD_datD (fun j h=>b8Q (by rw [a4R] at h;exact h)) (by rw [hl,a4R]) ⟨i,by omega,i2⟩
theorem take_tc {p:Prm} {im:List (BitVec 8)} {d:Dec} {v:List Bool} (h:GoodD p im d) (hv:v.length=p.n) (ht:d.t≤cntS d.M):(takeD p d v (datP p im v)).t≤cntS (takeD p d v (datP p im v)).M:=by
 by_cases e:firstV (red d.M (v,datP p im v)).1 = -1
 ·have:takeD p d v (datP p im v)=d:=by unfold takeD;rw [if_pos e]
  rw [this];exact ht
 ·have hs : ¬ sp p.n d.M v:=fun q=>e ((b4V h.rr (v:=(v,datP p im v)) hv (a1K _ _ v)).2 q)
  have hc:=(b3D h.rr hv (a1K (pieA p im) p.z v) hs).2.2
  have e2:=b7Y p d v (datP p im v)
  have e3:(takeD p d v (datP p im v)).t=d.t+1:=by unfold takeD;rw [if_neg e]
  rw [e2,e3]
  have e4:cntS (addF d.M (v,datP p im v))=cntS d.M+1:=hc
  omega
theorem recD_good {h:HdD} (hp:h.p.ok):∀ L:List Rec,(∀ r∈L,GoodR h r)→GoodD h.p h.im (recD h.p (rowA h.p) L)∧(recD h.p (rowA h.p) L).t≤cntS (recD h.p (rowA h.p) L).M:=fun L=>a9F (P:=fun L=>(∀ r∈L,GoodR h r)→GoodD h.p h.im (recD h.p (rowA h.p) L)∧(recD h.p (rowA h.p) L).t≤cntS (recD h.p (rowA h.p) L).M) (fun _=>⟨good_new _ _,Nat.zero_le _⟩) (fun L r ih hg=>by
  obtain ⟨i1,i2⟩:=ih (fun x hx=>hg x (by simp [hx]))
  have hr:=hg r (by simp)
  have e:recD h.p (rowA h.p) (L++[r])=takeD h.p (recD h.p (rowA h.p) L) (rowA h.p r.1) r.2:=by
   unfold recD
   rw [List.foldl_append]
   rfl
  rw [e,hr]
  exact ⟨good_take i1 (b2R _ _ hp),take_tc i1 (b2R _ _ hp) i2⟩) L
structure LiveS (hd:Bool→HdD) (c:Bool) (f:Fl) (s:StD) (st:Sto):Prop where
 on:s.on=true
 m:s.m=mH (hd c)
 p:st.p=(hd c).p
 g:st.g=s.g
 len:st.len=(hd c).im.length
 gd:GoodD (hd c).p (hd c).im st.d
 tc:st.d.t≤cntS st.d.M
 lg:LiveG f.bs s.g (hd c).p.z st.rdy st.nxt
section
variable {hd:Bool→HdD} {l l':List (BitVec 8)} {s:StD} {f:Fl} {n:Nat} {c:Bool}
theorem LiveS.rr {st:Sto} (h:LiveS hd c f s st):RR st.p.n st.p.z st.d.M:=by rw [h.p];exact h.gd.rr
theorem LiveS.cnt {st:Sto} (h:LiveS hd c f s st):cntS st.d.M≤(hd c).p.n:=by
 have:=h.gd.rr.lok.len
 have h2:=b4O st.d.M
 omega
theorem envS_keep0 (H:Hds hd) (h:EnvS hd l s) (ht:s.t=0) (e1:seg l' (slotA s.a.toNat) 512=seg l (slotA s.a.toNat) 512) (e2:seg l' 1536 2048=seg l 1536 2048):EnvS hd l' s:=by
 refine ⟨h.may,h.nf,h.cur.keep H h.an.1 e1,fun q=>by omega,h.fv,fun q=>by omega,h.wh.keep e2,fun o=>?_⟩
 obtain ⟨t,c,m,f1,f2,g⟩:=h.ses o
 exact ⟨t,c,m,f1,f2,g.keep (H.z c).1 (H.z c).2 e2⟩
theorem mH_inj (H:Hds hd) {c c':Bool} (h:mH (hd c)=mH (hd c')):c=c':=by
 have h1:(hd c).v=(hd c').v:=congrArg ManD.v h
 have h2:=H.v c
 have h3:=H.v c'
 rw [h1] at h2
 cases c <;> cases c' <;> first|rfl|(simp at h2 h3;omega)
theorem EnvS.of (H:Hds hd) (h:EnvS hd l s) (ho:s.on=true) (hm:s.m=mH (hd c)):s.t=0∧s.f.toNat<(hd c).v.toNat∧s.cur.v.toNat<(hd c).v.toNat∧WhG l s.g (hd c).p.z (GoodR (hd c)):=by
 obtain ⟨t,c',m,f1,f2,g⟩:=h.ses ho
 have:c=c':=mH_inj H (hm.symm.trans m)
 subst this
 exact ⟨t,f1,f2,g⟩
theorem c2M (H:Hds hd) (h:EnvF hd f n s) (hn:n<3900) (hu:f.pw.isDown=false) (ho:s.on=true) (hm:s.m=mH (hd c)) :
  ∃ f2 v,finF f s (hd c).im=(f2,v)∧((v=0∧f2.pw.isDown=false∧EnvF hd f2 (n+3) (nf (actS s)))∨(v=11∧f2.pw = .down none∧∃ s',EnvF hd f2 (n+3) s')):=by
 obtain ⟨t,_,_,_⟩:=h.st.of H ho hm
 obtain ⟨a1,a2,a3⟩:=h.st.an
 have hle:=(H.ok c).le
 obtain ⟨st,so,sc⟩:=b2N (s:=(1 - s.a).toNat) (x:=(hd c).im) h.few a2 hle (by rw [h.wr];omega) hu
 obtain ⟨⟨f1,v1⟩,hr⟩:∃ r,slotW f (1 - s.a).toNat (hd c).im=r:=⟨_,rfl⟩
 rw [hr] at st so sc
 dsimp only at st so sc
 have b1:=a7S a1
 have b2:=a7S a2
 have hdj:slotA s.a.toNat+512≤slotA (1 - s.a).toNat∨slotA (1 - s.a).toNat+512≤slotA s.a.toNat:=by rw [a3];unfold slotA;omega
 obtain ⟨k,w,hk,hc⟩:=h.cell
 have hc1:CellIs f1.bs k s.by w:=hc.keep (so _ _ (by omega))
 have hS1:EnvS hd f1.bs s:=envS_keep0 H h.st t (so _ _ (by omega)) (so _ _ (by omega))
 have hgb:=h.gb
 have hE1:EnvF hd f1 (n+2) s:=⟨st.few,st.wear.trans h.wr,⟨k,w,by omega,hc1⟩,by omega,hS1⟩
 rcases sc with ⟨e0,d1,e2⟩|⟨e0,d1⟩
 ·subst e0
  have hSa:=envS_act H hS1 ho hm e2
  obtain ⟨f2,v2,q1,q2,q3⟩:=a9S (s1:=nf (actS s)) H hE1 (by omega) d1 hSa (by show s.g.toNat≤_;omega)
  refine ⟨f2,v2,?_,q3⟩
  unfold finF
  rw [hr]
  dsimp only
  rw [if_neg (by decide)]
  exact q1
 ·subst e0
  refine ⟨f1,11,?_,.inr ⟨rfl,d1,s,hE1.mono (by omega)⟩⟩
  unfold finF
  rw [hr]
  rfl
theorem ev_open (H:Hds hd) (h:EnvF hd f n s) (ho:s.on=true) :
  ∃ c st,openS (hd c).p s.g (hd c).im.length (rowA (hd c).p) f.bs=st∧LiveS hd c f s st∧∀ r∈recsW f.bs s.g (hd c).p.z 8,SpRow (hd c).p r.1 (rowA (hd c).p r.1):=by
 obtain ⟨t,c,m,f1,f2,g⟩:=h.st.ses ho
 obtain ⟨z1,z2⟩:=H.z c
 obtain ⟨g1,g2⟩:=g.opens z1 z2 h.few.bs
 obtain ⟨r1,r2⟩:=recD_good (h:=hd c) (H.ok c).ok _ g1
 exact ⟨c,_,rfl,⟨ho,m,rfl,rfl,rfl,r1,r2,g2⟩,fun r _=>b5Z _ _ (H.ok c).ok⟩
theorem ev_put (H:Hds hd) (h:EnvF hd f n s) {st:Sto} (hl:LiveS hd c f s st) (hn:n<4000) (hu:f.pw.isDown=false) (id:BitVec 32) :
  (putS st f id (rowA (hd c).p id) (datP (hd c).p (hd c).im (rowA (hd c).p id))=(st,f,8)∧sp (hd c).p.n st.d.M (rowA (hd c).p id)) ∨
  putS st f id (rowA (hd c).p id) (datP (hd c).p (hd c).im (rowA (hd c).p id))=(st,f,9) ∨
  (∃ f1,putS st f id (rowA (hd c).p id) (datP (hd c).p (hd c).im (rowA (hd c).p id))=(st,f1,11)∧f1.pw = .down none∧EnvF hd f1 (n+1) s∧f.pw ≠ .on) ∨
  (∃ f1 st1,putS st f id (rowA (hd c).p id) (datP (hd c).p (hd c).im (rowA (hd c).p id))=(st1,f1,0)∧f1.pw.isDown=false∧(f.pw = .on→f1.pw = .on)∧EnvF hd f1 (n+1) s∧LiveS hd c f1 s st1∧st1.d=takeD (hd c).p st.d (rowA (hd c).p id) (datP (hd c).p (hd c).im (rowA (hd c).p id))):=by
 obtain ⟨z1,z2⟩:=H.z c
 have hok:=(H.ok c).ok
 obtain ⟨t,f1',f2',wg⟩:=h.st.of H hl.on hl.m
 have hvl:=b2R (hd c).p id hok
 obtain ⟨v,hv⟩:∃ v,rowA (hd c).p id=v:=⟨_,rfl⟩
 have hG:GoodR (hd c) (id,datP (hd c).p (hd c).im v):=by rw [←hv];rfl
 rw [hv] at hvl ⊢
 have hdl:(datP (hd c).p (hd c).im v).length=(hd c).p.z:=a1K _ _ v
 obtain ⟨x,hx⟩:∃ x,datP (hd c).p (hd c).im v=x:=⟨_,rfl⟩
 have hgd:=hl.gd
 have htk:=good_take (v:=v) hgd hvl
 have htc:=take_tc (v:=v) hgd hvl hl.tc
 rw [hx] at hG hdl htk htc ⊢
 have hp:=hl.p
 have hg:=hl.g
 unfold putS
 rw [hp,hg]
 cases hs:saysD (hd c).p st.d v with
 | false=>exact .inl ⟨by rw [if_pos rfl],good_says hgd hvl hs⟩
 | true =>
  rw [if_neg (by simp)]
  have hlg:=hl.lg
  by_cases hfull:st.nxt=8*plW (hd c).p.z
  ·have:addW f s.g st.rdy st.nxt id x=(f,9):=by unfold addW;rw [hdl,if_pos hfull.symm]
   refine .inr (.inl ?_)
   rw [this,if_pos (show (9:Int)≠0 by decide)]
  ·have hlt:st.nxt<8*plW (hd c).p.z:=by have:=hlg.le;omega
   have hgb:=h.gb
   obtain ⟨q1,q2,q3,q4⟩:=addW_G (r:=(id,x)) h.few (by rw [h.wr];omega) hu hdl z1 z2 (by omega) hG wg hlg hlt
   obtain ⟨⟨f1,v1⟩,hr⟩:∃ y,addW f s.g st.rdy st.nxt id x=y:=⟨_,rfl⟩
   dsimp only at q1 q2 q3 q4
   rw [hr] at q1 q2 q3 q4 ⊢
   dsimp only at q1 q2 q3 q4 ⊢
   have hE:EnvF hd f1 (n+1) s:=by
    obtain ⟨k,w,hk,hc⟩:=h.cell
    obtain ⟨a1,a2,_⟩:=h.st.an
    have b1:=a7S a1
    have b2:=a7S a2
    refine ⟨q1.few,q1.wear.trans h.wr,⟨k,w,by omega,hc.keep (q2 _ _ (by omega))⟩,by omega,?_⟩
    exact ⟨h.st.may,h.st.nf,h.st.cur.keep H a1 (q2 _ _ (by omega)),fun tt=>(h.st.oth tt).keep H a2 (q2 _ _ (by omega)),h.st.fv,h.st.fo,q3.wh,fun _=>⟨t,c,hl.m,f1',f2',q3⟩⟩
   rcases q4 with ⟨e0,e1,e2⟩|⟨e0,e1⟩
   ·subst e0
    refine .inr (.inr (.inr ⟨f1,⟨(hd c).p,s.g,st.len,((st.nxt / plW (hd c).p.z:Nat):Int),st.nxt+1,takeD (hd c).p st.d v x⟩,by rw [if_neg (by simp)],e1,q1.on,hE,⟨hl.on,hl.m,rfl,rfl,hl.len,htk,htc,e2⟩,rfl⟩))
   ·subst e0
    exact .inr (.inr (.inl ⟨f1,by rw [if_pos (by decide)],e1,hE,fun hon=>by rw [q1.on hon] at e1;cases e1⟩))
end
open Go.RowKit Go.Proofs Sha
theorem Spec.pre {P:Program} {f:FuncId} {args:List Value} {H H':List Hl} {X:Type} {good:X→Prop} {val:X→Value} {res:X→List Hl} (h:Spec P f args H' good val res) (g:∀ x,stars H x→stars H' x):Spec P f args H good val res :=
 ⟨h.enters,fun w hs=>h.calls w (hs.mono g)⟩
theorem Spec.to {P:Program} {f:FuncId} {args:List Value} {H:List Hl} {X Y:Type} {good:X→Prop} {val:X→Value} {res:X→List Hl} {good':Y→Prop} {val':Y→Value} {res':Y→List Hl} (h:Spec P f args H good val res) (g:∀ x,good x→∃ y,good' y∧val x=val' y∧∀ hp,stars (res x) hp→stars (res' y) hp):Spec P f args H good' val' res' :=
 ⟨h.enters,fun w hs=>(h.calls w hs).mono fun e w' ⟨x,hg,he,hx,hsat⟩=>by
  obtain ⟨y,hy,hv,hE⟩:=g x hg
  exact ⟨y,hy,hv ▸ he,hx,hsat.mono hE⟩⟩
def dvP (key:List (BitVec 8)) (f:Fl) (db:Nat):Hp→Prop:=Som (fun q:Lay × Option Addr=>DvK key f q.1) (fun q=>[dvA db key q.1 q.2,flA f q.1,frA f q.1,.any q.1.A])
theorem c0J {key:List (BitVec 8)} {f:Fl} {db:Nat} {R:List Hl} (l:Lay) (mp:Option Addr) (hl:DvK key f l):∀ x,stars (dvA db key l mp::flA f l::frA f l :: .any l.A::R) x→stars (.any (dvP key f db)::R) x:=fun x hx =>
 b1Q (p:=fun q:Lay × Option Addr=>DvK key f q.1) (L:=fun q=>[dvA db key q.1 q.2,flA f q.1,frA f q.1,.any q.1.A]) (l,mp) hl x hx
theorem dvO_P {key:List (BitVec 8)} {f:Fl} {db:Nat} {R:List Hl}:∀ x,stars (.any (dvO key f db)::R) x→stars (.any (dvP key f db)::R) x:=fun x hx=>by
 obtain ⟨l,hl,hy⟩:=b8D hx
 exact c0J l none hl x hy
theorem dvI_P {key:List (BitVec 8)} {f:Fl} {s:StD} {db:Nat} {R:List Hl}:∀ x,stars (.any (dvI key f s db)::R) x→stars (.any (dvP key f db)::R) x:=fun x hx=>by
 obtain ⟨l,hl,hy⟩:=b8D hx
 have hz:stars ([meB l.mb l.x none,.any l.A]++(dvA db key l (pM l.mb)::flA f l::frA f l::R)) x:=Ent.out (by
  dsimp only [cA,nA]
  exact ent) x hy
 refine c0J ⟨l.fb,l.ad,l.c,l.h,l.mb,l.sb,l.ka,l.kc,l.x,stars [meB l.mb l.x none,.any l.A]⟩ (pM l.mb) ⟨hl.fl,rs_gr hl.key Gr.of⟩ x (Ent.out ent x (b3H _ _ x hz))
theorem dv_met_I (H:List Hl) (db:Nat) (key:List (BitVec 8)) (f:Fl) (s:StD) (e:Int) (he:e≠11) :
  Spec Tryz.prog 35 [.pointer (some ⟨db,0,none⟩),I e] (.any (dvI key f s db)::H) (fun _:Unit=>True) (fun _=>I e) (fun _ => .any (dvI key f s db)::H) :=
 Spec.som (by kernel_rfl) (fun l hl=>(a8P (meB l.mb l.x none::flA f l::frA f l :: .any l.A::H) db l.fb l.ka key.length l.kc (pM l.mb) e he).imp (fun _ _ hp hx=>b1Q (p:=DvX key f s) (L:=fun l=>[dvA db key l (pM l.mb),meB l.mb l.x none,flA f l,frA f l,.any l.A]) l hl hp hx))
theorem dv_starts_I (H:List Hl) (db:Nat) (key:List (BitVec 8)) (f:Fl) (s:StD) (k:BitVec 32) (w:Nat) (hf:foundC f.bs=some ((k,s.by),w)) (hm:s.may=true) (hn:nf s=s) (ho:s.on=false) (hd:f.pw.isDown=false) :
  Spec Tryz.prog 51 [.pointer (some ⟨db,0,none⟩)] (.any (dvP key f db)::H) (fun _:Unit=>True) (fun _=>I 0) (fun _ => .any (dvI key f s db)::H):=by
 refine Spec.som (by kernel_rfl) (fun ⟨⟨fb,ad,c,h,mb0,sb,ka,kc,x0,A⟩,mp⟩ hl0=>?_)
 obtain ⟨hk,hkey⟩:=hl0
 dsimp only at hk hkey
 show Spec _ _ _ ([dvB db fb ka key.length kc mp,fB fb ad c f h,fR ad c f,.any A]++H) _ _ _
 refine sF (res:=fun _:Unit=>[.any (dvI key f s db)]) [dvB db fb ka key.length kc mp,fB fb ad c f h,fR ad c f,.any A] H Tryz.func51 Tryz.ntmps51 fun W=>?_
 dsimp only [cA,nA]
 have hbl:=hk.bs
 have hp:prs s.by=(s,0):=by rw [b7R hm];exact congrArg (·,0) hn
 obtain ⟨q,hq⟩:∃ q,s.by=q:=⟨_,rfl⟩
 rw [hq] at hf hp
 obtain ⟨Z,hZ⟩:∃ Z,(seg f.bs (w*256) 256).take (q.length+6)=Z:=⟨_,rfl⟩
 have hmk:=(a3G (a1Z hf).1).1
 rw [hZ] at hmk
 have hZl:Z.length=q.length+6:=by
  have h245:=(a3G (a1Z hf).1).2
  have hw2:=(a1Z hf).2
  rw [←hZ,List.length_take,a2Q (by omega)]
  omega
 repeat' (first|intro _|(refine a0K ?_;first|refine a0F (b:=db) (i:=1) rfl rfl ?_|(refine a0F (b:=b5) (i:=10) rfl rfl ?_;rw [ho]))|(refine k_fn 46 ?_;(refine a0A (fun hh=>b7H _ fb ad c f k q Z w (RdFl.own hk hh) hd hf hZ) rfl (fun ⟨a21,c21⟩ _=>?_);(try dsimp only)))|(refine k_fn 47 ?_;(refine a0A (fun hh=>b2L _ (cutA a21 c21 6) (c21 - 6) q (a3U (T:=5) (ad:=a21) (c:=c21) (n:=q.length+6) (l:=Z) (enc:=B) 6 (by omega) hmk hh) (s,0) hp) rfl (fun ⟨r0,r1,r2⟩ _=>?_);dsimp only [StD.V,StD.c,SlotD.V,SlotD.c,copyS]))|(refine a1O ?_;refine a1D rfl (fun b5=>?_))|(refine k_fn 75 ?_;refine a0G (b:=db) (fun _=>dv_opens_off _ db fb ka key.length kc mp (copyS s r0 r1 r2) ho) rfl (fun mb _=>?_))|refine wK ?_|refine wL ?_ ?_|fail)
 refine a4H [rowL r0 s.s0.h.l,rowL r1 s.s1.h.l,rowL r2 s.m.h.l,.any A] [dvB db fb ka key.length kc (pM mb),meB mb (copyS s r0 r1 r2) none,fB fb ad c f h,fR ad c f,.any (stars H)] ent ?_
 refine b1R (fun hh=>?_)
 have hA:=a5L hh
 refine b1S (l:=⟨fb,ad,c,h,mb,sb,ka,kc,copyS s r0 r1 r2,stars [rowL r0 s.s0.h.l,rowL r1 s.s1.h.l,rowL r2 s.m.h.l,.any A]⟩) (R:=[.any (stars H)]) ⟨hk,rs_gr hkey Gr.of,⟨a0I (T:=5) (ad:=r0.1) (c:=r0.2) (l:=s.s0.h.l) hA,a0I (T:=5) (ad:=r1.1) (c:=r1.2) (l:=s.s1.h.l) hA,a0I (T:=5) (ad:=r2.1) (c:=r2.2) (l:=s.m.h.l) hA⟩,hn⟩ ent ?_
 refine a0E () rfl rfl rfl trivial ?_
 exact ent
theorem dv_met_L (H:List Hl) (db:Nat) (key:List (BitVec 8)) (f:Fl) (s:StD) (st:Sto) (e:Int) (he:e≠11) :
  Spec Tryz.prog 35 [.pointer (some ⟨db,0,none⟩),I e] (.any (dvL key f s st db)::H) (fun _:Unit=>True) (fun _=>I e) (fun _ => .any (dvL key f s st db)::H) :=
 Spec.som (by kernel_rfl) (fun l hl=>(a8P (meB l.mb l.x (some ⟨l.sb,0,none⟩) :: .any (stP st l.fb l.sb)::flA f l::frA f l :: .any l.A::H) db l.fb l.ka key.length l.kc (pM l.mb) e he).imp (fun _ _ hp hx=>b1Q (p:=DvX key f s) (L:=fun l=>[dvA db key l (pM l.mb),meB l.mb l.x (some ⟨l.sb,0,none⟩),.any (stP st l.fb l.sb),flA f l,frA f l,.any l.A]) l hl hp hx))
theorem dv_starts_L (H:List Hl) (db:Nat) (key:List (BitVec 8)) (f:Fl) (s:StD) (k:BitVec 32) (w:Nat) (hf:foundC f.bs=some ((k,s.by),w)) (hm:s.may=true) (hn:nf s=s) (ho:s.on=true) (hd:f.pw.isDown=false) (p:Prm) (len:Nat) (V:BitVec 32→List Bool) (hp:IsP s.m p len) (ht:TabF (stars H)) (hV:∀ r∈recsW f.bs s.g p.z 8,SpRow p r.1 (V r.1)) (ST:Sto) (hST:openS p s.g len V f.bs=ST) (hb:cntS ST.d.M≤1000) (hnd:((p.n:Int) - cntS ST.d.M)≠0) :
  Spec Tryz.prog 51 [.pointer (some ⟨db,0,none⟩)] (.any (dvP key f db)::H) (fun _:Unit=>True) (fun _=>I 0) (fun _ => .any (dvL key f s ST db)::H):=by
 refine Spec.som (by kernel_rfl) (fun ⟨⟨fb,ad,c,h,mb0,sb,ka,kc,x0,A⟩,mp⟩ hl0=>?_)
 obtain ⟨hk,hkey⟩:=hl0
 dsimp only at hk hkey
 show Spec _ _ _ ([dvB db fb ka key.length kc mp,fB fb ad c f h,fR ad c f,.any A]++H) _ _ _
 refine sF (res:=fun _:Unit=>[.any (dvL key f s ST db)]) [dvB db fb ka key.length kc mp,fB fb ad c f h,fR ad c f,.any A] H Tryz.func51 Tryz.ntmps51 fun W=>?_
 dsimp only [cA,nA]
 have hbl:=hk.bs
 have hpr:prs s.by=(s,0):=by rw [b7R hm];exact congrArg (·,0) hn
 obtain ⟨q,hq⟩:∃ q,s.by=q:=⟨_,rfl⟩
 rw [hq] at hf hpr
 obtain ⟨Z,hZ⟩:∃ Z,(seg f.bs (w*256) 256).take (q.length+6)=Z:=⟨_,rfl⟩
 have hmk:=(a3G (a1Z hf).1).1
 rw [hZ] at hmk
 have hZl:Z.length=q.length+6:=by
  have h245:=(a3G (a1Z hf).1).2
  have hw2:=(a1Z hf).2
  rw [←hZ,List.length_take,a2Q (by omega)]
  omega
 have hSp:ST.p=p:=by rw [←hST];rfl
 rw [←hSp] at hnd
 have hopen:=fun (H':List Hl) (r0 r1 r2:PA) (hh:RdFl (stars H') fb ad c f) (ht':TabF (stars H'))=>b3I H' db fb ka key.length kc mp ad c f (copyS s r0 r1 r2) p len V ho ⟨hp.ok,hp.es,hp.en,hp.ez,hp.ep,hp.ec⟩ hh hd ht' hV
 simp only [show ∀ r0 r1 r2,openS p (copyS s r0 r1 r2).g len V f.bs=ST from fun _ _ _=>hST] at hopen
 repeat' (first|intro _|(refine a0K ?_;first|refine a0F (b:=db) (i:=1) rfl rfl ?_|(refine a0F (b:=b5) (i:=10) rfl rfl ?_;rw [ho])|refine a0F (b:=mb) (i:=17) rfl rfl ?_)|(refine k_fn 46 ?_;(refine a0A (fun hh=>b7H _ fb ad c f k q Z w (RdFl.own hk hh) hd hf hZ) rfl (fun ⟨a21,c21⟩ _=>?_);(try dsimp only)))|(refine k_fn 47 ?_;(refine a0A (fun hh=>b2L _ (cutA a21 c21 6) (c21 - 6) q (a3U (T:=5) (ad:=a21) (c:=c21) (n:=q.length+6) (l:=Z) (enc:=B) 6 (by omega) hmk hh) (s,0) hpr) rfl (fun ⟨r0,r1,r2⟩ _=>?_);dsimp only [StD.V,StD.c,SlotD.V,SlotD.c,copyS]))|(refine a1O ?_;refine a1D rfl (fun b5=>?_))|(refine a0G (b:=db) (fun hh=>hopen _ r0 r1 r2 (RdFl.own hk (a0B hh)) ht.up) rfl (fun ⟨mb,sb2⟩ _=>?_);(try dsimp only))|(refine k_fn 33 ?_;refine a0A (fun _=>a1Q db fb ka key.length kc mb (copyS s r0 r1 r2) (some ⟨sb2,0,none⟩)) rfl (fun _ _=>?_))|(refine k_fn 79 ?_;refine a0T (stP ST fb sb2) (fun _=>b0Z _ ST fb sb2 (by rw [hSp];exact hp.ok) hb) rfl (fun _ _=>?_))|(refine a0D .eql ?_;refine a1Y rfl rfl hnd ?_)|refine wK ?_|refine wL ?_ ?_|fail)
 refine a4H [rowL r0 s.s0.h.l,rowL r1 s.s1.h.l,rowL r2 s.m.h.l,.any A] [dvB db fb ka key.length kc (pM mb),meB mb (copyS s r0 r1 r2) (some ⟨sb2,0,none⟩),.any (stP ST fb sb2),fB fb ad c f h,fR ad c f,.any (stars H)] ent ?_
 refine b1R (fun hh=>?_)
 have hA:=a5L hh
 refine b0C (l:=⟨fb,ad,c,h,mb,sb2,ka,kc,copyS s r0 r1 r2,stars [rowL r0 s.s0.h.l,rowL r1 s.s1.h.l,rowL r2 s.m.h.l,.any A]⟩) (R:=[.any (stars H)]) ⟨hk,rs_gr hkey Gr.of,⟨a0I (T:=5) (ad:=r0.1) (c:=r0.2) (l:=s.s0.h.l) hA,a0I (T:=5) (ad:=r1.1) (c:=r1.2) (l:=s.s1.h.l) hA,a0I (T:=5) (ad:=r2.1) (c:=r2.2) (l:=s.m.h.l) hA⟩,hn⟩ ent ?_
 refine a0E () rfl rfl rfl trivial ?_
 exact ent
theorem dv_starts_fin (H:List Hl) (db:Nat) (key:List (BitVec 8)) (f f2:Fl) (s:StD) (k:BitVec 32) (w:Nat) (hf:foundC f.bs=some ((k,s.by),w)) (hm:s.may=true) (hn:nf s=s) (ho:s.on=true) (htr:s.t=0) (hd:f.pw.isDown=false) (p:Prm) (len:Nat) (V:BitVec 32→List Bool) (hp:IsP s.m p len) (ht:TabF (stars H)) (hV:∀ r∈recsW f.bs s.g p.z 8,SpRow p r.1 (V r.1)) (ST:Sto) (hST:openS p s.g len V f.bs=ST) (hb:cntS ST.d.M≤1000) (hnd:cntS ST.d.M=p.n)
  (im:List (BitVec 8)) (hR:RR p.n p.z ST.d.M) (him:imgB p ST.d len=im) (hi1:1≤im.length) (hi2:im.length≤512) (hsh:sha im=s.m.h.l) (hF:finF f s im=(f2,0)) :
  Spec Tryz.prog 51 [.pointer (some ⟨db,0,none⟩)] (.any (dvP key f db)::H) (fun _:Unit=>True) (fun _=>I 0) (fun _ => .any (dvI key f2 (nf (actS s)) db)::H):=by
 refine Spec.som (by kernel_rfl) (fun ⟨⟨fb,ad,c,h,mb0,sb,ka,kc,x0,A⟩,mp⟩ hl0=>?_)
 obtain ⟨hk,hkey⟩:=hl0
 dsimp only at hk hkey
 show Spec _ _ _ ([dvB db fb ka key.length kc mp,fB fb ad c f h,fR ad c f,.any A]++H) _ _ _
 refine sF (res:=fun _:Unit=>[.any (dvI key f2 (nf (actS s)) db)]) [dvB db fb ka key.length kc mp,fB fb ad c f h,fR ad c f,.any A] H Tryz.func51 Tryz.ntmps51 fun W=>?_
 dsimp only [cA,nA]
 have hbl:=hk.bs
 have hpr:prs s.by=(s,0):=by rw [b7R hm];exact congrArg (·,0) hn
 obtain ⟨q,hq⟩:∃ q,s.by=q:=⟨_,rfl⟩
 rw [hq] at hf hpr
 obtain ⟨Z,hZ⟩:∃ Z,(seg f.bs (w*256) 256).take (q.length+6)=Z:=⟨_,rfl⟩
 have hmk:=(a3G (a1Z hf).1).1
 rw [hZ] at hmk
 have hZl:Z.length=q.length+6:=by
  have h245:=(a3G (a1Z hf).1).2
  have hw2:=(a1Z hf).2
  rw [←hZ,List.length_take,a2Q (by omega)]
  omega
 have hSp:ST.p=p:=by rw [←hST];rfl
 have hSl:ST.len=len:=by rw [←hST];rfl
 have hn0:((ST.p.n:Int) - cntS ST.d.M)=0:=by rw [hSp,hnd];omega
 have hopen:=fun (H':List Hl) (r0 r1 r2:PA) (hh:RdFl (stars H') fb ad c f) (ht':TabF (stars H'))=>b3I H' db fb ka key.length kc mp ad c f (copyS s r0 r1 r2) p len V ho ⟨hp.ok,hp.es,hp.en,hp.ez,hp.ep,hp.ec⟩ hh hd ht' hV
 simp only [show ∀ r0 r1 r2,openS p (copyS s r0 r1 r2).g len V f.bs=ST from fun _ _ _=>hST] at hopen
 have hF2:∀ r0 r1 r2,finF f (copyS s r0 r1 r2) im=(f2,0):=fun r0 r1 r2=>by rw [←c1S,show nf (copyS s r0 r1 r2)=s from hn];exact hF
 have hact:∀ r0 r1 r2 q1 q2,nf (copyS (actS (copyS s r0 r1 r2)) q1 q2 (none,0))=nf (actS s):=fun r0 r1 r2 q1 q2=>by rw [c1T,show nf (copyS s r0 r1 r2)=s from hn]
 have hmc:∀ r0 r1 r2,(copyS s r0 r1 r2).may=true:=fun r0 r1 r2=>by rw [a3P];exact hm
 repeat' (first|intro _|(refine a0K ?_;first|refine a0F (b:=db) (i:=1) rfl rfl ?_|(refine a0F (b:=b5) (i:=10) rfl rfl ?_;rw [ho])|refine a0F (b:=mb) (i:=17) rfl rfl ?_)|(refine k_fn 46 ?_;(refine a0A (fun hh=>b7H _ fb ad c f k q Z w (RdFl.own hk hh) hd hf hZ) rfl (fun ⟨a21,c21⟩ _=>?_);(try dsimp only)))|(refine k_fn 47 ?_;(refine a0A (fun hh=>b2L _ (cutA a21 c21 6) (c21 - 6) q (a3U (T:=5) (ad:=a21) (c:=c21) (n:=q.length+6) (l:=Z) (enc:=B) 6 (by omega) hmk hh) (s,0) hpr) rfl (fun ⟨r0,r1,r2⟩ _=>?_);dsimp only [StD.V,StD.c,SlotD.V,SlotD.c,copyS]))|(refine a1O ?_;refine a1D rfl (fun b5=>?_))|(refine a0G (b:=db) (fun hh=>hopen _ r0 r1 r2 (RdFl.own hk (a0B hh)) ht.up) rfl (fun ⟨mb,sb2⟩ _=>?_);(try dsimp only))|(refine k_fn 33 ?_;refine a0A (fun _=>a1Q db fb ka key.length kc mb (copyS s r0 r1 r2) (some ⟨sb2,0,none⟩)) rfl (fun _ _=>?_))|(refine k_fn 79 ?_;(refine a0T (stP ST fb sb2) (fun _=>b0Z _ ST fb sb2 (by rw [hSp];exact hp.ok) hb) rfl (fun _ _=>?_);rw [hn0]))|(refine k_fn 80 ?_;(refine a0V (dvB db fb ka key.length kc (pM mb)::meB mb (copyS s r0 r1 r2) (some ⟨sb2,0,none⟩) :: .any (stP ST fb sb2)::fB fb ad c f h::fR ad c f::[rowL r0 s.s0.h.l,rowL r1 s.s1.h.l,rowL r2 s.m.h.l,.any A,.any (stars H)]) (Ent.out ent) (fun hh=>dv_fin _ db fb ka key.length kc mb sb2 ad c f f2 h (copyS s r0 r1 r2) ST im (hmc r0 r1 r2) ho htr ⟨a0I (T:=5) (ad:=r0.1) (c:=r0.2) (l:=s.s0.h.l) (a0B (a0B (a0B (a0B (a0B hh))))),a0I (T:=5) (ad:=r1.1) (c:=r1.2) (l:=s.s1.h.l) (a0B (a0B (a0B (a0B (a0B hh))))),a0I (T:=5) (ad:=r2.1) (c:=r2.2) (l:=s.m.h.l) (a0B (a0B (a0B (a0B (a0B hh)))))⟩ hk hd (by rw [hSp];exact hp.ok) (by rw [hSp];exact hR) (by rw [hSp];exact hnd) (by rw [hSp,hSl];exact hp.ec) (by rw [hSp,hSl];exact him) hi1 hi2 hsh (hF2 r0 r1 r2)) rfl (fun ⟨h2,mb2,q1,q2⟩ hk2=>?_);(try dsimp only at hk2 ⊢)))|refine wK ?_|refine wL ?_ ?_|fail)
 refine a4H [rowL q1 (actS (copyS s r0 r1 r2)).s0.h.l,rowL q2 (actS (copyS s r0 r1 r2)).s1.h.l,.any A] [dvB db fb ka key.length kc (pM mb2),meB mb2 (copyS (actS (copyS s r0 r1 r2)) q1 q2 (none,0)) none,fB fb ad c f2 h2,fR ad c f2,.any (stars H)] ent ?_
 refine b1R (fun hh=>?_)
 have hA:=a5L hh
 refine b1S (l:=⟨fb,ad,c,h2,mb2,sb,ka,kc,copyS (actS (copyS s r0 r1 r2)) q1 q2 (none,0),stars [rowL q1 (actS (copyS s r0 r1 r2)).s0.h.l,rowL q2 (actS (copyS s r0 r1 r2)).s1.h.l,.any A]⟩) (R:=[.any (stars H)]) ⟨hk2,rs_gr hkey Gr.of,⟨a0I (T:=5) (ad:=q1.1) (c:=q1.2) (l:=(actS (copyS s r0 r1 r2)).s0.h.l) hA,a0I (T:=5) (ad:=q2.1) (c:=q2.2) (l:=(actS (copyS s r0 r1 r2)).s1.h.l) hA,rs00 hA⟩,hact r0 r1 r2 q1 q2⟩ ent ?_
 refine a0E () rfl rfl rfl trivial ?_
 exact ent
def dvPf (fb:Nat) (key:List (BitVec 8)) (f:Fl) (db:Nat):Hp→Prop:=Som (fun q:Lay × Option Addr=>DvK key f q.1∧q.1.fb=fb) (fun q=>[dvA db key q.1 q.2,flA f q.1,frA f q.1,.any q.1.A])
theorem dv_Flash_P (H:List Hl) (db:Nat) (key:List (BitVec 8)) (f:Fl) :
  Spec Tryz.prog 18 [.pointer (some ⟨db,0,none⟩)] (.any (dvP key f db)::H) (fun _:Nat=>True) (fun fb => .pointer (some ⟨fb,0,none⟩)) (fun fb => .any (dvPf fb key f db)::H) :=
 Spec.som (by kernel_rfl) (fun l hl=>(dv_Flash _ db l.1.fb (a1M (H:=dvA db key l.1 l.2::flA f l.1::frA f l.1 :: .any l.1.A::H) (b:=db) rfl)).to (fun _ _=>⟨l.1.fb,trivial,rfl,b1Q (p:=fun q:Lay × Option Addr=>DvK key f q.1∧q.1.fb=l.1.fb) (L:=fun q=>[dvA db key q.1 q.2,flA f q.1,frA f q.1,.any q.1.A]) l ⟨hl,rfl⟩⟩))
theorem dv_Fuse_P (H:List Hl) (db fb:Nat) (key:List (BitVec 8)) (f:Fl) (n:Option Nat) (t:Int) (hn:∀ k,n=some k→k≤1000000) :
  Spec Tryz.prog 19 [.pointer (some ⟨fb,0,none⟩),I (nO n),I t] (.any (dvPf fb key f db)::H) (fun _:Unit=>True) (fun _ => .tuple #[]) (fun _ => .any (dvP key (fuseF f n t) db)::H) :=
 Spec.som (by kernel_rfl) (fun ⟨l,mp⟩ ⟨hl,e⟩=>by
  dsimp only at hl e
  subst e
  refine ((b9P (dvA db key l mp::frA f l :: .any l.A::H) l.fb l.ad l.c f l.h n t hl.fl hn).pre (Ent.out (by
   dsimp only [cA,nA]
   exact ent))).to (fun h' hk=>⟨(),trivial,rfl,fun x hx=>c0J ⟨l.fb,l.ad,l.c,h',l.mb,l.sb,l.ka,l.kc,l.x,l.A⟩ mp ⟨hk,hl.key⟩ x (Ent.out (by
   dsimp only [cA,nA]
   exact ent) x hx)⟩))
theorem dv_State_I (H:List Hl) (db:Nat) (key:List (BitVec 8)) (f:Fl) (s:StD) (hm:s.may=true) :
  Spec Tryz.prog 21 [.pointer (some ⟨db,0,none⟩)] (.any (dvI key f s db)::H) (fun _:PA × PA × PA=>True) (fun r => .tuple #[(copyS s r.1 r.2.1 r.2.2).V,.bool true]) (fun r=>rowL r.1 s.s0.h.l::rowL r.2.1 s.s1.h.l::rowL r.2.2 s.m.h.l :: .any (dvI key f s db)::H):=by
 refine Spec.som (by kernel_rfl) (fun ⟨fb,ad,c,h,mb,sb,ka,kc,x,A⟩ hl0=>?_)
 obtain ⟨hk,hkey,hx,hnf⟩:=hl0
 dsimp only at hk hkey hx hnf
 subst hnf
 show Spec _ _ _ ([dvB db fb ka key.length kc (pM mb),meB mb x none,fB fb ad c f h,fR ad c f,.any A]++H) _ _ _
 refine sF (res:=fun r:PA × PA × PA=>[rowL r.1 x.s0.h.l,rowL r.2.1 x.s1.h.l,rowL r.2.2 x.m.h.l,.any (dvI key f (nf x) db)]) [dvB db fb ka key.length kc (pM mb),meB mb x none,fB fb ad c f h,fR ad c f,.any A] H Tryz.func21 Tryz.ntmps21 fun W=>?_
 dsimp only [cA,nA]
 have e0:=hx.s0
 have e1:=hx.s1
 have e2:=hx.m
 obtain ⟨q0,q1,q2⟩:=a7P (by rw [←a6T];exact hm:x.may=true)
 repeat' (first|intro _|(refine k_fn 42 ?_;refine a5Q db mb (fun _=>dv_now _ db fb ka key.length kc mb x none) rfl (fun _ _=>?_))|refine a0S rfl rfl ?_|refine wK ?_|refine wL ?_ ?_|fail)
 refine a2O 2 ?_
 repeat' (first|intro _|(refine a0J ?_;first|refine a1C 0 4 rfl rfl rfl (by decide) rfl ?_|refine a1C 1 7 rfl rfl rfl (by decide) rfl ?_)|(refine k_fn 29 ?_;first|(refine a0A (fun _=>a1B _ _ _ x.s0.h.l (Rs.up e0) (by omega)) rfl (fun ⟨a5,c5⟩ _=>?_);dsimp only)|(refine a0A (fun _=>a1B _ _ _ x.s1.h.l (Rs.up e1) (by omega)) rfl (fun ⟨a6,c6⟩ _=>?_);dsimp only)|(refine a0A (fun _=>a1B _ _ _ x.m.h.l (Rs.up e2) (by omega)) rfl (fun ⟨a7,c7⟩ _=>?_);dsimp only))|refine wK ?_|refine wL ?_ ?_|fail)
 rename_i b2 _ _ b5 _ _ _ _ _ _
 refine b1S (l:=⟨fb,ad,c,h,mb,sb,ka,kc,x,A⟩) (R:=[rowL (a5,c5) x.s0.h.l,rowL (a6,c6) x.s1.h.l,rowL (a7,c7) x.m.h.l,.box b2 51 (copyS x (a5,c5) (a6,c6) (a7,c7)).c,.any (stars H)]) ⟨hk,hkey,hx,rfl⟩ ent ?_
 refine a0N (⟨a5,c5⟩,⟨a6,c6⟩,⟨a7,c7⟩) rfl rfl rfl rfl rfl trivial ?_
 exact ent
end Go.Dp
