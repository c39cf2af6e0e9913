/-
  Downpour, walked and proved: part 7.
  Conditions: those that stand in each theorem.
-/
import Derived.Test.YtcblcmdikhllbaaGreatDoorQTopEnough3
import Derived.Test.YtcblcmdikhllbaaGreatDoorQTopEnough6
import Derived.Test.YtcblcmdikhllbaaGreatDoorQTopEnough4
import Derived.Lib.TrailingZeros
set_option linter.unusedVariables false
set_option linter.unusedSimpArgs false
set_option maxHeartbeats 64000000
namespace Go.Dp
open Go.RowKit Go.Proofs
structure VD where
 b:Nat
 n:Nat
 a:Option Addr
 c:Nat
 l:List Bool
abbrev Pv (v:VD):Value := .pointer (some ⟨v.b,0,none⟩)
structure VD.ok (v:VD):Prop where
 len:v.l.length=v.n
 hi:v.n≤256
structure RdV (A:Hp→Prop) (v:VD):Prop where
 n:Cl A ⟨v.b,0,none⟩ (I v.n)
 s:Cl A ⟨v.b,1,none⟩ (.slice v.a (nw v.n) v.c)
 w:Rs A W8 v.a v.c (words v.l)
 ok:v.ok
theorem RdV.up {A:Hp→Prop} {v:VD} {H H':List Hl} (h:RdV A v) [s:SAny H A H']:RdV (stars H) v:=⟨cl_up h.n,cl_up h.s,h.w.up,h.ok⟩
abbrev vB (b n:Nat) (a:Option Addr) (c:Nat):Hl := .box b 269 [I n,.slice a (nw n) c]
abbrev vR (n:Nat) (a:Option Addr) (c:Nat) (l:List Bool):Hl := .row 35 1 (.slice a (nw n) c) (nw n) ((words l).map W8)
theorem RdV.own {b n:Nat} {a:Option Addr} {c:Nat} {l:List Bool} {H H1 H2:List Hl} {m:Nat} [s:SBox H b 269 [I n,.slice a (nw n) c] H1] [s2:SRow H a c m 35 ((words l).map W8) H2] (hl:l.length=n) (hn:n≤256) (hh:Has H):RdV (stars H) ⟨b,n,a,c,l⟩ :=
 ⟨a1M rfl,a1M rfl,a0I hh,⟨hl,hn⟩⟩
theorem VD.ok.words {v:VD} (h:v.ok):(words v.l).length=nw v.n:=by rw [a6N,h.len]
theorem nw_at {n m:Nat} (h:m<n):m / 64<nw n:=by unfold nw;omega
theorem nw_4 {n:Nat} (h:n≤256):nw n≤4:=by unfold nw;omega
def hasV (l:List Bool) (i:Int):Bool:=decide (0≤i) && at_ l i.toNat
theorem a7Z (l:List Bool) (i:Nat):hasV l (i:Int)=at_ l i:=by simp [hasV]
def inV (n:Nat) (i:Int):Bool:=decide (0≤i∧i<n)
theorem c2K {n:Nat} {i:Int} (h0:0≤i) (h1:i<n):inV n i=true:=by simp [inV];omega
theorem b9K {n:Nat} {i:Int} (h : ¬ (0≤i∧i<n)):inV n i=false:=by simp [inV];omega
theorem b0W (H:List Hl) (v:VD) (i:Int) (h:Cl (stars H) ⟨v.b,0,none⟩ (I v.n)) :
  Spec Tryz.prog 189 [Pv v,I i] H (fun _:Unit=>True) (fun _ => .bool (inV v.n i)) (fun _=>H):=by
 refine sP (res:=fun _=>[]) H Tryz.func189 Tryz.ntmps189 fun W=>?_
 by_cases h0:0≤i
 ·repeat' (first|intro _|refine a4N rfl rfl ?_|(refine a0K ?_;refine a0L rfl h ?_)|(refine a0D .lss ?_;refine o1_lss_d rfl rfl ?_)|refine wK ?_|refine wL ?_ ?_|fail)
  refine a0E () rfl rfl (by simp [inV,h0]) trivial ?_
  exact ent
 ·repeat' (first|intro _|refine a4N rfl rfl ?_|(refine a0K ?_;refine a0L rfl h ?_)|refine wK ?_|refine wL ?_ ?_|fail)
  refine a0E () rfl rfl (by rw [b9K (by omega)]) trivial ?_
  exact ent
theorem vec_Len (H:List Hl) (v:VD) (h:Cl (stars H) ⟨v.b,0,none⟩ (I v.n)) :
  Spec Tryz.prog 142 [Pv v] H (fun _:Unit=>True) (fun _=>I v.n) (fun _=>H):=by
 refine sP (res:=fun _=>[]) H Tryz.func142 Tryz.ntmps142 fun W=>?_
 repeat' (first|intro _|refine a0S rfl rfl ?_|(refine a0K ?_;refine a0L rfl h ?_)|refine wK ?_|refine wL ?_ ?_|fail)
 refine a0E () rfl rfl rfl trivial ?_
 exact ent
theorem bit_of (b:Bool):decide (((b.toNat:Nat):Int)=1)=b:=by cases b <;> rfl
theorem a9Z (H:List Hl) (v:VD) (i:Int) (h:RdV (stars H) v) :
  Spec Tryz.prog 143 [Pv v,I i] H (fun _:Unit=>True) (fun _ => .bool (hasV v.l i)) (fun _=>H):=by
 refine sP (res:=fun _=>[]) H Tryz.func143 Tryz.ntmps143 fun W=>?_
 by_cases hi:0≤i∧i<v.n
 ·obtain ⟨m,rfl⟩:∃ m:Nat,i=m:=⟨i.toNat,by omega⟩
  have hm:m<v.n:=by omega
  have h256:=h.ok.hi
  have hwl:=h.ok.words
  have hlt:m / 64<(words v.l).length:=by rw [hwl];exact nw_at hm
  have hw:(words v.l)[m / 64]?=some (wordOf v.l (m / 64)):=b2H _ _ (by rw [h.ok.len];exact nw_at hm)
  have hsh:((m:Int) % 64).toNat=m % 64:=by omega
  repeat' (first|intro _|(refine k_fn 189 ?_;refine a0A (fun _=>(b0W _ v m (cl_up h.n)).bv (b:=true) (c2K hi.1 hi.2)) rfl (fun _ _=>?_))|(refine a0K ?_;first|refine a0L rfl h.s ?_|refine a4S (m / 64) _ rfl h.w hw ?_)|(refine a0D .quo ?_;refine a3A rfl rfl (by omega) ?_)|(refine a0J ?_;refine o1_ia (m / 64) rfl rfl h.w hwl.symm (by omega) hlt ?_)|(refine a0D .shr ?_;(refine a9K rfl rfl (by omega) ?_;rw [hsh]))|(refine a0D .and ?_;refine b0F (v:=1#64) rfl rfl ?_)|(refine a0D .eql ?_;refine b9C rfl rfl ?_)|refine wK ?_|refine wL ?_ ?_|fail)
  refine a0E () rfl rfl ?_ trivial ?_
  ·rw [a7Z,word_has,bit_of]
  exact ent
 ·repeat' (first|intro _|(refine k_fn 189 ?_;refine a0A (fun _=>(b0W _ v i (cl_up h.n)).bv (b:=false) (b9K hi)) rfl (fun _ _=>?_))|refine wK ?_|refine wL ?_ ?_|fail)
  refine a0E () rfl rfl ?_ trivial ?_
  ·congr 1
   simp only [hasV]
   by_cases h0:0≤i
   ·have:v.l.length≤i.toNat:=by rw [h.ok.len];omega
    have h3:at_ v.l i.toNat=false:=b3C this
    rw [h3,Bool.and_false]
   ·simp [h0]
  exact ent
def setB (l:List Bool) (i:Int) (on:Bool):List Bool:=if 0≤i∧i<l.length then l.set i.toNat on else l
theorem setB_true (l:List Bool) (i:Int):setB l i true=setI l i:=rfl
theorem setB_nat (l:List Bool) (i:Nat) (on:Bool) (h:i<l.length):setB l i on=l.set i on:=by
 rw [setB,if_pos (by omega)];rfl
theorem setB_out (l:List Bool) (i:Int) (on:Bool) (h : ¬ (0≤i∧i<l.length)):setB l i on=l:=by rw [setB,if_neg h]
theorem vec_Set (H:List Hl) (b n:Nat) (a:Option Addr) (c:Nat) (l:List Bool) (i:Int) (on:Bool) (hl:l.length=n) (hn:n≤256) :
  Spec Tryz.prog 178 [.pointer (some ⟨b,0,none⟩),I i,.bool on] (vB b n a c::vR n a c l::H) (fun _:Unit=>True) (fun _ => .bool (inV n i)) (fun _=>vB b n a c::vR n a c (setB l i on)::H):=by
 refine sF (res:=fun _:Unit=>[vB b n a c,vR n a c (setB l i on)]) [vB b n a c,vR n a c l] H Tryz.func178 Tryz.ntmps178 fun W=>?_
 dsimp only [cA,nA]
 by_cases hi:0≤i∧i<n
 ·obtain ⟨m,rfl⟩:∃ m:Nat,i=m:=⟨i.toNat,by omega⟩
  have hm:m<n:=by omega
  have hml:m<l.length:=by omega
  have hsh:((m:Int) % 64).toNat=m % 64:=by omega
  have hk:m / 64<nw n:=nw_at hm
  have k1:∀ l':List Bool,l'.length=n→(words l').length=nw n:=fun l' h=>by rw [a6N,h]
  have hl2:(l.set m false).length=n:=by rw [List.length_set];exact hl
  have w1:(words l)[m / 64]?=some (wordOf l (m / 64)):=b2H _ _ (by rw [hl];exact hk)
  have w2:(words (l.set m false))[m / 64]?=some (wordOf (l.set m false) (m / 64)):=b2H _ _ (by rw [hl2];exact hk)
  have hon:=words_on (l.set m false) m (by omega)
  rw [List.set_set] at hon
  rw [setB_nat _ _ _ hml]
  cases on
  all_goals
   repeat' (first|intro _|(refine k_fn 189 ?_;refine a0A (fun _=>(b0W _ ⟨b,n,a,c,l⟩ m (a1M rfl)).bv (b:=true) (c2K hi.1 hi.2)) rfl (fun _ _=>?_))|(refine a0D .quo ?_;refine a3A rfl rfl (by omega) ?_)|(refine a0D .shl ?_;(refine b8W (u:=1#64) rfl rfl (by omega) ?_;rw [hsh]))|(refine a0J ?_;first|refine a2B (enc:=W8) (xs:=words l) (m / 64) rfl rfl a0I (k1 _ hl).symm (by omega) (by rw [k1 _ hl];exact hk) ?_|refine a2B (enc:=W8) (xs:=words (l.set m false)) (m / 64) rfl rfl a0I (k1 _ hl2).symm (by omega) (by rw [k1 _ hl2];exact hk) ?_)|(refine a0K ?_;first|refine a1T (enc:=W8) (c:=c) (m / 64) _ rfl a0I w1 ?_|refine a1T (enc:=W8) (c:=c) (m / 64) _ rfl a0I w2 ?_)|(refine a1N ?_;first|(refine a2R (c:=c) W8 (m / 64) rfl rfl hk rfl ?_;rw [←words_off])|(refine a2R (c:=c) W8 (m / 64) rfl rfl hk rfl ?_;rw [←hon]))|refine wK ?_|refine wL ?_ ?_|fail)
   refine a0E () rfl rfl (by rw [c2K hi.1 hi.2]) trivial ?_
   exact ent
 ·rw [setB_out _ _ _ (by rw [hl];exact hi)]
  repeat' (first|intro _|(refine k_fn 189 ?_;refine a0A (fun _=>(b0W _ ⟨b,n,a,c,l⟩ i (a1M rfl)).bv (b:=false) (b9K hi)) rfl (fun _ _=>?_))|refine wK ?_|refine wL ?_ ?_|fail)
  refine a0E () rfl rfl (by rw [b9K hi]) trivial ?_
  exact ent
theorem vec_New (H:List Hl) (n:Nat) (hn:n≤256) :
  Spec Tryz.prog 177 [I n] H (fun _:Nat × Option Addr × Nat=>True) (fun r => .pointer (some ⟨r.1,0,none⟩)) (fun r=>vB r.1 n r.2.1 r.2.2::vR n r.2.1 r.2.2 (List.replicate n false)::H):=by
 refine sP (res:=fun r:Nat × Option Addr × Nat=>[vB r.1 n r.2.1 r.2.2,vR n r.2.1 r.2.2 (List.replicate n false)]) H Tryz.func177 Tryz.ntmps177 fun W=>?_
 have h4:=nw_4 hn
 have hq:((n:Int)+64 - 1) / 64=(nw n:Nat):=by unfold nw;omega
 repeat' (first|intro _|(refine a0D .quo ?_;(refine a3A rfl rfl (by omega) ?_;rw [hq]))|(refine a2W ?_;refine a5D (enc:=W8) 0#64 (nw n) rfl rfl rfl rfl rfl (by omega) (by omega) (fun b2=>?_))|(refine k_box ?_;refine a1V rfl rfl (fun b1=>?_))|refine wK ?_|refine wL ?_ ?_|fail)
 rw [←words_zero]
 refine c0E (T:=35) (b:=b2) (m:=nw n) (cp:=nw n) (cs:=(words (List.replicate n false)).map W8) (by rw [List.length_map,a6N,List.length_replicate]) rfl (by omega) ?_
 refine a0E (b1,some ⟨b2,0,none⟩,nw n) rfl rfl rfl trivial ?_
 exact ent
theorem c1W (H:List Hl) (n:Nat) (ad:Option Addr) (c:Nat) (l:List Int) (hn:n≤256) (h:Rs (stars H) I ad c l) :
  Spec Tryz.prog 136 [I n,.slice ad l.length c] H (fun _:Nat × Option Addr × Nat=>True) (fun r => .pointer (some ⟨r.1,0,none⟩)) (fun r=>vB r.1 n r.2.1 r.2.2::vR n r.2.1 r.2.2 (bitsOf n l)::H):=by
 refine sP (res:=fun r:Nat × Option Addr × Nat=>[vB r.1 n r.2.1 r.2.2,vR n r.2.1 r.2.2 (bitsOf n l)]) H Tryz.func136 Tryz.ntmps136 fun W=>?_
 have hle:=h.le
 have hbg:=h.big
 repeat' (first|intro _|(refine k_fn 177 ?_;(refine a0A (fun _=>vec_New _ n hn) rfl (fun ⟨b1,a1,c1⟩ _=>?_);dsimp only))|refine wK ?_|refine wL ?_ ?_|fail)
 refine a0Y (S:=Nat) (fun i=>[(5,.pointer (some ⟨b1,0,none⟩)),(10,.slice ad l.length c),(11,I l.length),(12,I i)]) (fun i=>[vB b1 n a1 c1,vR n a1 c1 (bitsOf n (l.take i)),.any (stars H)]) (fun i=>i≤l.length) (fun i=>l.length - i) 0 (Nat.zero_le _)
  cv (by show Ent _ [vB b1 n a1 c1,vR n a1 c1 (bitsOf n (l.take 0)),.any (stars H)];rw [List.take_zero];show Ent _ [vB b1 n a1 c1,vR n a1 c1 (List.replicate n false),.any (stars H)];exact ent) ?_
 intro i hi
 by_cases hlt:i<l.length
 ·have e1:setB (bitsOf n (l.take i)) l[i] true=bitsOf n (l.take (i+1)):=by
   rw [setB_true,←bitsOf_snoc,List.take_succ_eq_append_getElem hlt]
  repeat' (first|intro _|(refine a0J ?_;refine o1_ia i rfl rfl h rfl rfl hlt ?_)|(refine a0K ?_;refine a1F i rfl h hlt ?_)|(refine k_fn 178 ?_;(refine b4I b1 a1 c1 (fun _=>vec_Set _ b1 n a1 c1 (bitsOf n (l.take i)) l[i] true (a8T _ _) hn) rfl (fun _ _=>?_);rw [e1]))|refine wK ?_|refine wL ?_ ?_|fail)
  refine a0Q (i+1) (by omega) (by omega) cv ?_
  exact ent
 ·have:i=l.length:=by omega
  subst this
  repeat' (first|intro _|refine wK ?_|refine wL ?_ ?_|fail)
  refine a0E (b1,a1,c1) rfl rfl rfl trivial ?_
  rw [List.take_length]
  exact ent
section
variable {P:Program} {n:Nat} {H:List Hl} {e:Ev} {C:Value→List Hl→Prop} {ty t t':TypeId} {x y:Operand} {p:Int}
end
def listT (l:List Bool) (i:Nat):List Int:=(placesN (at_ l) i).map Int.ofNat
theorem listT_on {l:List Bool} {i:Nat} (h:at_ l i=true):listT l (i+1)=listT l i++[(i:Int)]:=by rw [listT,a7J,h];simp [listT]
theorem listT_off {l:List Bool} {i:Nat} (h:at_ l i=false):listT l (i+1)=listT l i:=by rw [listT,a7J,h];simp [listT]
theorem listT_len (l:List Bool) (i:Nat):(listT l i).length≤i:=by rw [listT,List.length_map,places_len];exact c2P _ _
theorem vec_List (H:List Hl) (v:VD) (h:RdV (stars H) v) :
  Spec Tryz.prog 86 [Pv v] H (fun _:Option Addr × Nat=>True) (fun r => .slice r.1 (listV v.l).length r.2) (fun r => .row 3 1 (.slice r.1 (listV v.l).length r.2) (listV v.l).length ((listV v.l).map I)::H):=by
 refine sP (res:=fun r:Option Addr × Nat=>[.row 3 1 (.slice r.1 (listV v.l).length r.2) (listV v.l).length ((listV v.l).map I)]) H Tryz.func86 Tryz.ntmps86 fun W=>?_
 have hn:=h.ok.hi
 repeat' (first|intro _|(refine k_fn 142 ?_;refine a0A (fun _=>vec_Len _ v (cl_up h.n)) rfl (fun _ _=>?_))|refine wK ?_|refine wL ?_ ?_|fail)
 refine a3J (a1A 3 I) ?_
 refine a0Y (S:=Nat × Option Addr × Nat) (fun s=>[(0,Pv v),(3,.slice s.2.1 (listT v.l s.1).length s.2.2),(6,I v.n),(7,I s.1)]) (fun s=>[.row 3 1 (.slice s.2.1 (listT v.l s.1).length s.2.2) (listT v.l s.1).length ((listT v.l s.1).map I),.any (stars H)]) (fun s=>s.1≤v.n) (fun s=>v.n - s.1) (0,none,0) (Nat.zero_le _)
  cv (by show Ent _ [.row 3 1 (.slice none 0 0) 0 [],.any (stars H)];exact ent) ?_
 rintro ⟨i,a1,c1⟩ hi
 dsimp only at hi ⊢
 have hll:=listT_len v.l i
 by_cases hlt:i<v.n
 ·cases hb:at_ v.l i
  ·repeat' (first|intro _|(refine k_fn 143 ?_;refine a0A (fun _=>(a9Z _ v i h.up).bv (b:=false) (by rw [a7Z,hb])) rfl (fun _ _=>?_))|refine wK ?_|refine wL ?_ ?_|fail)
   refine a0Q (i+1,a1,c1) (by show i+1≤v.n;omega) (by show v.n - (i+1)<v.n - i;omega) (a0R rfl rfl (a0R rfl ?_ cv)) ?_
   ·show Value.slice a1 _ c1=Value.slice a1 (listT v.l (i+1)).length c1
    rw [listT_off hb]
   ·show Ent _ [.row 3 1 (.slice a1 (listT v.l (i+1)).length c1) (listT v.l (i+1)).length ((listT v.l (i+1)).map I),.any (stars H)]
    rw [listT_off hb]
    exact ent
  ·repeat' (first|intro _|(refine k_fn 143 ?_;refine a0A (fun _=>(a9Z _ v i h.up).bv (b:=true) (by rw [a7Z,hb])) rfl (fun _ _=>?_))|(refine a0P ?_;refine a0O I [(i:Int)] rfl rfl rfl (fun _=>rfl) rfl rfl rfl (fun b3=>?_))|(refine a1S ?_;refine a1H (xs:=listT v.l i) (ys:=[(i:Int)]) rfl rfl (a2H rfl (by decide)) rfl rfl (fun _=>rfl) (by omega) (by omega) (fun a4 c4=>?_))|refine wK ?_|refine wL ?_ ?_|fail)
   refine a0Q (i+1,a4,c4) (by show i+1≤v.n;omega) (by show v.n - (i+1)<v.n - i;omega) (a0R rfl rfl (a0R rfl ?_ cv)) ?_
   ·show _=Value.slice a4 (listT v.l (i+1)).length c4
    rw [listT_on hb,List.length_append]
    rfl
   ·show Ent _ [.row 3 1 (.slice a4 (listT v.l (i+1)).length c4) (listT v.l (i+1)).length ((listT v.l (i+1)).map I),.any (stars H)]
    rw [listT_on hb,List.length_append]
    exact ent
 ·have:i=v.n:=by omega
  subst this
  have e1:listT v.l v.n=listV v.l:=by rw [listT,listV,h.ok.len]
  rw [e1]
  repeat' (first|intro _|refine wK ?_|refine wL ?_ ?_|fail)
  refine a0E (a1,c1) rfl rfl rfl trivial ?_
  exact ent
def vP (v:VD):List Hl:=[vB v.b v.n v.a v.c,vR v.n v.a v.c v.l]
def vecs (vs:List VD):Hp→Prop:=stars (vs.flatMap vP)
theorem vecs_nil {R:List Hl}:∀ h,stars R h→stars (.any (vecs [])::R) h:=fun h hh=>⟨fun _=>none,h,fun _ => .inl rfl,fun _ _ e=>(by cases e),.refl _,trivial,hh⟩
theorem vecs_push {vs:List VD} {v:VD} {R:List Hl}:∀ h,stars (vB v.b v.n v.a v.c::vR v.n v.a v.c v.l :: .any (vecs vs)::R) h→stars (.any (vecs (vs++[v]))::R) h:=fun h hh=>by
 have h1:=a3B (a0U hh (fun _ a=>a) (fun _ a=>a3B a))
 refine a0U h1 (fun h' x=>?_) (fun _ a=>a)
 show stars ((vs++[v]).flatMap vP) h'
 rw [List.flatMap_append]
 refine a0W _ _ _ (a0U (a3L (a3B x)) (fun _ a=>a) fun h2 y=>?_)
 show stars [vB v.b v.n v.a v.c,vR v.n v.a v.c v.l] h2
 exact a0U y (fun _ a=>a) (fun h3 z=>⟨h3,fun _=>none,fun _ => .inr rfl,.refl _,fun _ _ e=>(by cases e),z,trivial⟩)
theorem b5P {vs:List VD} {v:VD} {H H':List Hl} [sa:SAny H (vecs vs) H'] (hm:v∈vs) (hk:v.ok) (hh:Has H):RdV (stars H) v:=by
 have key:∀ w,sat w (stars H)→sat w (stars (vs.flatMap vP)):=fun w hw=>a6B sa.s w hw
 have m1:vB v.b v.n v.a v.c∈vs.flatMap vP:=List.mem_flatMap.2 ⟨v,hm,by simp [vP]⟩
 have m2:vR v.n v.a v.c v.l∈vs.flatMap vP:=List.mem_flatMap.2 ⟨v,hm,by simp [vP]⟩
 obtain ⟨L1,s1⟩:=b0B m1
 obtain ⟨L2,s2⟩:=b0B m2
 refine ⟨⟨fun w hw=>?_⟩,⟨fun w hw=>?_⟩,?_,hk⟩
 ·rw [(key w hw).cell s1 0];rfl
 ·rw [(key w hw).cell s1 1];rfl
 ·obtain ⟨w,hw⟩:=hh
  exact (Rs.of_row s2 w (key w hw)).unvals.mono key
theorem nx_vec {P:Program} {k:Kon} {n:Nat} {e:Ev} {W:World} {H:List Hl} {vs:List VD} (v:VD) {R:List Hl} (hE:Ent H (vB v.b v.n v.a v.c::vR v.n v.a v.c v.l :: .any (vecs vs)::R)) (h:Nx P k n e W (.any (vecs (vs++[v]))::R)):Nx P k n e W H:=b4Q (fun h hh=>vecs_push h (hE.out h hh)) h
structure TabF (A:Hp→Prop):Prop where
 c:∀ j,j<64→Cl A ⟨1,j,none⟩ (.int .u8 ((Go.Lib.deBruijn64tab.getD j 0:Nat):Int))
theorem TabF.up {A:Hp→Prop} {H H':List Hl} (h:TabF A) [s:SAny H A H']:TabF (stars H):=⟨fun j hj=>cl_up (h.c j hj)⟩
section
variable {P:Program} {n:Nat} {H:List Hl} {e:Ev} {C:Value→List Hl→Prop} {ty t:TypeId} {x:Operand} {u:BitVec 64}
theorem o1_neg64 (hx:opd e x=some (.int .u64 u.toNat)) (h:C (.int .u64 (-u).toNat) H):O1 P (.unOp .neg t x) ty n e H C :=
 a1U _ (fun a w ho=>by
  have hw:IntKind.u64.wrap (-(u.toNat:Int))=((-u).toNat:Int):=by
   rw [IntKind.wrap_u64,BitVec.toNat_neg]
   omega
  simp [execOp,ho.ev.eval hx,unary_neg,Op.intArith,hw]) h
end
theorem tz_key (x:BitVec 64) (h0:x≠0#64):∃ k idx:Nat,k<64∧idx<64∧k=Go.Lib.ctz 64 x.toNat∧(((x &&& -x)*285870213051353865#64) >>> 58).toNat=idx∧Go.Lib.deBruijn64tab.getD idx 0=k:=by
 have hx:x.toNat≠0:=fun e=>h0 (BitVec.eq_of_toNat_eq (by simpa using e))
 obtain ⟨hlow,hk⟩:=Go.Lib.lowest_bit 64 x.toNat hx x.isLt
 obtain ⟨hi,htab⟩:=Go.Lib.deBruijn64_at _ hk
 refine ⟨_,_,hk,hi,rfl,?_,htab⟩
 have e1:(-x).toNat=2 ^ 64 - x.toNat:=by
  rw [BitVec.toNat_neg]
  have:=x.isLt
  omega
 rw [BitVec.toNat_ushiftRight,BitVec.toNat_mul,BitVec.toNat_and,e1,hlow,Nat.shiftRight_eq_div_pow]
 rfl
theorem bits_TZ64 (H:List Hl) (x:BitVec 64) (h0:x≠0#64) (ht:TabF (stars H)) :
  Spec Tryz.prog 215 [W8 x] H (fun _:Unit=>True) (fun _=>I (Go.Lib.ctz 64 x.toNat)) (fun _=>H):=by
 refine sP (res:=fun _=>[]) H Tryz.func215 Tryz.ntmps215 fun W=>?_
 have hx : ¬ (x.toNat:Int)=0:=fun e=>h0 (BitVec.eq_of_toNat_eq (by simp;omega))
 obtain ⟨k,idx,h1,h2,h3,h4,h5⟩:=tz_key x h0
 have hc:=ht.c idx h2
 rw [h5] at hc
 have h6:0+((((x &&& -x)*285870213051353865#64) >>> (58:Int).toNat).toNat:Int).toNat*1=idx:=by
  rw [show (58:Int).toNat=58 from rfl,h4];omega
 have h7:0≤((((x &&& -x)*285870213051353865#64) >>> (58:Int).toNat).toNat:Int)∧((((x &&& -x)*285870213051353865#64) >>> (58:Int).toNat).toNat:Int)<(64:Nat):=by
  rw [show (58:Int).toNat=58 from rfl,h4];omega
 repeat' (first|intro _|(refine a0D .eql ?_;refine a1Y rfl rfl hx ?_)|(refine c2J ?_;refine o1_neg64 rfl ?_)|(refine a0D .mul ?_;refine a7M (v:=285870213051353865#64) rfl rfl ?_)|(refine a0J ?_;(refine a6V rfl rfl h7 ?_;rw [h6]))|(refine a0K ?_;refine a0L rfl hc ?_)|refine wK ?_|refine wL ?_ ?_|fail)
 refine a0E () rfl rfl ?_ trivial ?_
 ·rw [h3]
 exact ent
theorem b5Q (H:List Hl) (v:VD) (h:RdV (stars H) v) (ht:TabF (stars H)) :
  Spec Tryz.prog 198 [Pv v] H (fun _:Unit=>True) (fun _=>I (firstV v.l)) (fun _=>H):=by
 refine sP (res:=fun _=>[]) H Tryz.func198 Tryz.ntmps198 fun W=>?_
 have h4:=nw_4 h.ok.hi
 have hwl:=h.ok.words
 have hle:=h.w.le
 have hbg:=h.w.big
 repeat' (first|intro _|refine a0S rfl rfl ?_|(refine a0K ?_;refine a0L rfl h.s ?_)|refine wK ?_|refine wL ?_ ?_|fail)
 refine a0Y (S:=Nat) (fun i=>[(10,.slice v.a (nw v.n) v.c),(11,I (nw v.n)),(12,I i)]) (fun i=>[.any (stars H)]) (fun i=>i≤nw v.n∧∀ j,j<64*i→at_ v.l j=false) (fun i=>nw v.n - i) 0 ⟨Nat.zero_le _,by omega⟩
  cv (Ent.refl _) ?_
 rintro i ⟨hi,hno⟩
 by_cases hlt:i<nw v.n
 ·have hw:(words v.l)[i]?=some (wordOf v.l i):=b2H _ _ (by rw [h.ok.len];exact hlt)
  by_cases hz:wordOf v.l i=0#64
  ·have hz0:((wordOf v.l i).toNat:Int)=0:=by rw [hz];rfl
   repeat' (first|intro _|(refine a0J ?_;refine o1_ia i rfl rfl h.w hwl.symm rfl (by omega) ?_)|(refine a0K ?_;refine a4S i _ rfl h.w hw ?_)|(refine a0D .neq ?_;refine a2E rfl rfl hz0 ?_)|refine wK ?_|refine wL ?_ ?_|fail)
   refine a0Q (i+1) ⟨by omega,?_⟩ (by omega) cv (Ent.refl _)
   intro j hj
   by_cases hj2:j<64*i
   ·exact hno j hj2
   ·exact word_eq_zero hz j (by omega) hj
  ·have hz0:((wordOf v.l i).toNat:Int)≠0:=fun e=>hz (BitVec.eq_of_toNat_eq (by simp;omega))
   obtain ⟨f1,f2⟩:=first_word hz hno
   repeat' (first|intro _|(refine a0J ?_;refine o1_ia i rfl rfl h.w hwl.symm rfl (by omega) ?_)|(refine a0K ?_;refine a4S i _ rfl h.w hw ?_)|(refine a0D .neq ?_;refine a3R rfl rfl hz0 ?_)|(refine a0D .mul ?_;refine a2Y rfl rfl (by omega) ?_)|(refine k_fn 215 ?_;refine a0A (fun _=>bits_TZ64 _ (wordOf v.l i) hz ht.up) rfl (fun _ _=>?_))|refine wK ?_|refine wL ?_ ?_|fail)
   refine a0E () rfl rfl ?_ trivial ?_
   ·show I _=I _
    congr 1
    omega
   exact ent
 ·have:i=nw v.n:=by omega
  subst this
  repeat' (first|intro _|refine wK ?_|refine wL ?_ ?_|fail)
  refine a0E () rfl rfl ?_ trivial ?_
  ·rw [firstV_none (l:=v.l) (fun j hj=>hno j (by rw [h.ok.len] at hj;unfold nw;omega))]
  exact ent
def rtV6c_0:List Row:=[tR 5 [] [],tR 6 [0] [0],tR 7 [1] [0,1],tR 8 [2] [0,1,2],tR 9 [] [],tR 10 [4] [4],tR 11 [5] [4,5],tR 12 [6] [4,5,6],tR 13 [7] [4,5,6,7],tR 14 [3,8] (rG 9),tR 15 [9] (rG 10),tR 2 [10,8,0,1,2,3,4,5,6,7,8,9,10] (rG 11)]
def rtV6c_1:List Row:=[tR 6 [] [],tR 7 [0] [0],tR 8 [1] [0,1],tG 9 [2] [0,1,2] 2 false,tG 10 [3,2] [0,1,2,3] 2 false,tR 11 [2,4] (rG 5),tR 12 [5,2] (rG 6),tG 13 [6] (rG 7) 6 false,tG 14 [7,6] (rG 8) 6 false,tG 15 [8,6] (rG 9) 6 false,tG 16 [9,6] (rG 10) 6 false,tG 17 [6] (rG 7) 6 false,tG 18 [11,6] [0,1,2,3,4,5,6,11] 6 false,tG 19 [12,6] [0,1,2,3,4,5,6,11,12] 6 false,tG 20 [13,6] [0,1,2,3,4,5,6,11,12,13] 6 false,tG 21 [10,14,6] (rG 15) 6 false,tR 22 [6,15] (rG 16)]
def rtV6c_2:List Row:=[tR 31 [] [],tR 32 [0] [0],tR 33 [1] [0,1],tR 34 [2] [0,1,2],tR 35 [] [],tR 36 [3,4] (rG 5),tR 37 [5] (rG 6),tR 38 [] [],tR 39 [7] [7],tR 40 [8] [7,8],tR 41 [9] [7,8,9],tR 42 [] [],tR 43 [10,11] [7,8,9,10,11],tR 44 [12] [7,8,9,10,11,12],tR 45 [6,13] (rG 14),tR 46 [3,4,0,1,2,3,4,5,6,7,8,9,10,11,12,13,14] (rG 15),⟨none,[15,14,0,1,2,3,4,5,6,7,8,9,10,11,12,13,14],[0,1,2,3,4,5,6,7,8,9,10,11,12,13,14,15],none⟩]
theorem clone_W (H:List Hl) (ad:Option Addr) (c m:Nat) (l:List (BitVec 64)) (h:Rs (stars H) W8 ad c l) (hm:m=l.length) (hb:m≤1000) :
  Spec Tryz.prog 234 [.slice ad m c] H (fun _:Option Addr × Nat=>True) (fun r => .slice r.1 m r.2) (fun r => .row 35 1 (.slice r.1 m r.2) m (l.map W8)::H):=by
 refine sP (res:=fun r:Option Addr × Nat=>[.row 35 1 (.slice r.1 m r.2) m (l.map W8)]) H Tryz.func234 Tryz.ntmps234 fun W=>?_
 cases ad with
 | none =>
  have hl:l=[]:=by
   cases l with
   | nil=>rfl
   | cons a l=>obtain ⟨x,hx⟩:=h.sm (by simp);cases hx
  subst hl
  subst hm
  repeat' (first|intro _|refine wK ?_|refine wL ?_ ?_|fail)
  refine (a2A (a1A 35 W8) ?_)
  refine a0E (none,0) rfl rfl rfl trivial ?_
  exact ent
 | some a =>
  repeat' (first|intro _|(refine a0P ?_;refine a0O W8 ([]:List (BitVec 64)) rfl rfl rfl (fun _=>rfl) rfl rfl rfl (fun _=>?_))|(refine a1S ?_;refine a2C (enc:=W8) (xs:=([]:List (BitVec 64))) rfl rfl rfl rfl (a3Q h) hm rfl (fun _=>rfl) (by omega) (by omega) (fun _ _=>?_))|refine wK ?_|refine wL ?_ ?_|fail)
  refine a0E (_,_) rfl rfl (by simp only [Nat.zero_add];rfl) trivial ?_
  simp only [Nat.zero_add,List.nil_append]
  exact ent
theorem vec_Copy (H:List Hl) (v:VD) (h:RdV (stars H) v) :
  Spec Tryz.prog 214 [Pv v] H (fun _:Nat × Option Addr × Nat=>True) (fun r => .pointer (some ⟨r.1,0,none⟩)) (fun r=>vB r.1 v.n r.2.1 r.2.2::vR v.n r.2.1 r.2.2 v.l::H):=by
 refine sP (res:=fun r:Nat × Option Addr × Nat=>[vB r.1 v.n r.2.1 r.2.2,vR v.n r.2.1 r.2.2 v.l]) H Tryz.func214 Tryz.ntmps214 fun W=>?_
 have h4:=nw_4 h.ok.hi
 have hwl:=h.ok.words
 have e1:=h.n
 have e2:=h.s
 repeat' (first|intro _|refine a0S rfl rfl ?_|refine wK ?_|refine wL ?_ ?_|fail)
 refine a0H [(0,_)] rtV6c_0 [8,10] [⟨[0,1,2,3,4,5,6,7],[],some 8⟩,⟨[9],[0,1,2,3],some 10⟩,⟨[11],[],none⟩] mixed cv (by kernel_rfl) (by kernel_rfl) ?_
 repeat' (first|intro _|refine sg ?_|(refine a1E ?_;refine po (by first|refine a0L rfl e1 fz|refine a0L rfl e2 fz|fail) ?_)|refine pw ?_|refine pdd ?_|(refine k_fn 234 ?_;refine a0A (fun _=>clone_W _ v.a v.c (nw v.n) (words v.l) (Rs.up h.w) hwl.symm (by omega)) rfl (fun ⟨a2,c2⟩ _=>?_))|(refine k_box ?_;refine a1V rfl rfl (fun b2=>?_))|refine ow ?_|fail)
 all_goals dsimp only [cA,nA]
 repeat' (first|intro _|refine wK ?_|refine wL ?_ ?_|fail)
 refine a0E (b2,a2,c2) rfl rfl rfl trivial ?_
 exact ent
theorem vec_Xor (H:List Hl) (b n:Nat) (a:Option Addr) (c:Nat) (l:List Bool) (w:VD) (hl:l.length=n) (hn:n≤256) (hw:RdV (stars H) w) (hwn:w.n=n) :
  Spec Tryz.prog 216 [.pointer (some ⟨b,0,none⟩),Pv w] (vB b n a c::vR n a c l::H) (fun _:Unit=>True) (fun _ => .bool true) (fun _=>vB b n a c::vR n a c (xorV l w.l)::H):=by
 refine sF (res:=fun _:Unit=>[vB b n a c,vR n a c (xorV l w.l)]) [vB b n a c,vR n a c l] H Tryz.func216 Tryz.ntmps216 fun W=>?_
 dsimp only [cA,nA]
 have h4:=nw_4 hn
 have e1:=hw.n
 have e2:=hw.s
 have e3:=hw.w
 have hwl:=hw.ok.words
 rw [hwn] at e1 e2 hwl
 have hll:l.length=w.l.length:=by rw [hl,hw.ok.len,hwn]
 obtain ⟨L0,hL0⟩:∃ L0,words l=L0:=⟨_,rfl⟩
 obtain ⟨L1,hL1⟩:∃ L1,words (xorV l w.l)=L1:=⟨_,rfl⟩
 obtain ⟨M,hM⟩:∃ M,words w.l=M:=⟨_,rfl⟩
 rw [hM] at e3 hwl
 have hl0:L0.length=nw n:=by rw [←hL0,a6N,hl]
 have hl1:L1.length=nw n:=by rw [←hL1,a6N,a8Y hll,hl]
 have hz:L1.length=L0.length:=by omega
 have hx:L1=List.zipWith (· ^^^ ·) L0 M:=by rw [←hL1,←hL0,←hM];exact words_xor hll
 dsimp only [vR]
 rw [hL0]
 repeat' (first|intro _|refine wK ?_|refine wL ?_ ?_|fail)
 refine a0H [(0,_),(1,_)] rtV6c_1 [] [⟨[0,1,2,3,4,5,6,7,8,9,10,11,12,13,14,15,16],[],none⟩] mixed cv (by kernel_rfl) (by kernel_rfl) ?_
 repeat' (first|intro _|refine sg ?_|refine po (by first|refine a0S rfl rfl fz|fail) ?_|(refine a1E ?_;refine po (by first|refine a0L rfl e1 fz|fail) ?_)|(refine a1I .neq ?_;refine po (by first|refine a2E rfl rfl rfl fz|fail) ?_)|refine pw ?_|refine pdd ?_|refine ow ?_|fail)
 all_goals dsimp only [cA,nA]
 repeat' (first|intro _|refine wK ?_|refine wL ?_ ?_|fail)
 refine a0Y (S:=Nat) (fun i=>[(0,.pointer (some ⟨b,0,none⟩)),(1,Pv w),(27,I (nw n)),(28,I i)]) (fun i=>[vB b n a c,.row 35 1 (.slice a (nw n) c) (nw n) ((partL L1 L0 i).map W8),.any (stars H)]) (fun i=>i≤nw n) (fun i=>nw n - i) 0 (Nat.zero_le _)
  cv (by show Ent _ [vB b n a c,.row 35 1 (.slice a (nw n) c) (nw n) ((partL L1 L0 0).map W8),.any (stars H)];rw [a5O];exact ent) ?_
 intro i hi
 by_cases hlt:i<nw n
 ·have hql:=a2X hz i
  have hka:i<(partL L1 L0 i).length:=by omega
  have hpk:(partL L1 L0 i)[i]=L0[i]'(by omega):=a6L hz (Nat.le_refl i) _
  have hset:(partL L1 L0 i).set i (L1[i]'(by omega))=partL L1 L0 (i+1):=a3V hz (by omega)
  have hmi:i<M.length:=by omega
  have hxi:L0[i]'(by omega) ^^^ M[i]=L1[i]'(by omega):=by subst hx;simp
  repeat' (first|intro _|refine wK ?_|refine wL ?_ ?_|fail)
  refine a0H [(0,_),(5,_),(1,_)] rtV6c_2 [16] [⟨[0,1,2,3,4,5,6,7,8,9,10,11,12,13,14,15],[],some 16⟩,⟨[],[],none⟩] mixed cv (by kernel_rfl) (by kernel_rfl) ?_
  repeat' (first|intro _|refine sg ?_|(refine a1E ?_;refine po (by first|refine a0L rfl e2 fz|((refine a1P (enc:=W8) (ad:=a) (c:=c) (xs:=partL L1 L0 i) i rfl a0I hka ?_;rw [hpk]);all_goals exact fz)|refine a1F i rfl e3 hmi fz|fail) ?_)|(refine a0Z ?_;refine po (by first|refine a2B (enc:=W8) (ad:=a) (c:=c) (xs:=partL L1 L0 i) i rfl rfl a0I (by omega) rfl hka fz|refine o1_ia i rfl rfl e3 hwl.symm rfl hmi fz|fail) ?_)|(refine a1I .xor ?_;refine po (by first|((refine a8E rfl rfl ?_;rw [hxi]);all_goals exact fz)|fail) ?_)|refine pw ?_|refine pdd ?_|(refine a1N ?_;(refine a2R (ad:=a) (c:=c) W8 i rfl rfl hlt rfl ?_;rw [hset]))|refine ow ?_|fail)
  all_goals dsimp only [cA,nA]
  repeat' (first|intro _|refine wK ?_|refine wL ?_ ?_|fail)
  refine a0Q (i+1) (by omega) (by omega) cv ?_
  exact ent
 ·have:i=nw n:=by omega
  subst this
  rw [a3W hz hl0.symm]
  repeat' (first|intro _|refine wK ?_|refine wL ?_ ?_|fail)
  refine a0E () rfl rfl rfl trivial ?_
  rw [hL1]
  exact ent
def rtW1_0:List Row:=[tR 6 [] [],tR 7 [0] [0],tR 8 [1] [0,1],tR 9 [2] [0,1,2],tR 10 [] [],tR 11 [4] [4],tR 12 [5] [4,5],tR 13 [6] [4,5,6],tR 14 [3,7] (rG 8)]
structure RD where
 b:Nat
 v:VD
 ad:Option Addr
 z:Nat
 cd:Nat
 d:List (BitVec 8)
abbrev rX (b:Nat) (p:Value) (ad:Option Addr) (z cd:Nat):Hl := .box b 280 [p,.slice ad z cd]
abbrev rD (ad:Option Addr) (z cd:Nat) (d:List (BitVec 8)):Hl := .row 5 1 (.slice ad z cd) z (d.map B)
structure RD.ok (r:RD):Prop where
 v:r.v.ok
 d:r.d.length=r.z
structure RdR (A:Hp→Prop) (r:RD):Prop where
 p:Cl A ⟨r.b,0,none⟩ (Pv r.v)
 s:Cl A ⟨r.b,1,none⟩ (.slice r.ad r.z r.cd)
 v:RdV A r.v
 d:Rs A B r.ad r.cd r.d
 z:r.d.length=r.z
theorem RdR.up {A:Hp→Prop} {r:RD} {H H':List Hl} (h:RdR A r) [s:SAny H A H']:RdR (stars H) r:=⟨cl_up h.p,cl_up h.s,h.v.up,h.d.up,h.z⟩
theorem RdR.own {b vb n:Nat} {va:Option Addr} {vc:Nat} {l:List Bool} {ad:Option Addr} {z cd:Nat} {d:List (BitVec 8)} {H H0 H1 H2 H3:List Hl} {m m2:Nat} [s0:SBox H b 280 [.pointer (some ⟨vb,0,none⟩),.slice ad z cd] H0] [s:SBox H vb 269 [I n,.slice va (nw n) vc] H1] [s2:SRow H va vc m 35 ((words l).map W8) H2] [s3:SRow H ad cd m2 5 (d.map B) H3]
  (hl:l.length=n) (hn:n≤256) (hd:d.length=z) (hh:Has H):RdR (stars H) ⟨b,⟨vb,n,va,vc,l⟩,ad,z,cd,d⟩:=⟨a1M rfl,a1M rfl,RdV.own hl hn hh,a0I hh,hd⟩
section
variable {P:Program} {n:Nat} {H:List Hl} {e:Ev} {C:Value→List Hl→Prop} {ty:TypeId}
theorem o1_call_bra (b:Nat) (ad:Option Addr) (c:Nat) (A:Hp→Prop) {f:FuncId} {xs:List Operand} {args:List Value} {ats:Array TypeId} {X:Type} {good:X→Prop} {val:X→Value} {res:X→List Hl} {m:Nat} {T T2:TypeId} {cs ys:List Value} {H' H2 H3:List Hl} [s:SBox H b T cs H'] [s2:SRow H' ad c m T2 ys H2] [s3:SAny H2 A H3]
  (hs:Has (.box b T cs :: .row T2 1 (.slice ad m c) m ys :: .any A::H3)→Spec P f args (.box b T cs :: .row T2 1 (.slice ad m c) m ys :: .any A::H3) good val res) (hxs:opds e xs=some args) (h:∀ r,good r→C (val r) (res r)):O1 P (.call ⟨.value (.func f),xs.toArray,ats⟩) ty n e H C :=
 O1.ent (H2 := .box b T cs :: .row T2 1 (.slice ad m c) m ys :: .any A::H3) (fun h hh=>a0U (s.s.out h hh) (fun _ a=>a) (fun h' hh'=>a0U (s2.s.out h' hh') (fun _ a=>a) s3.s.out)) (a0A hs hxs h)
theorem a0V (H2:List Hl) {f:FuncId} {xs:List Operand} {args:List Value} {ats:Array TypeId} {X:Type} {good:X→Prop} {val:X→Value} {res:X→List Hl} (hE:∀ h,stars H h→stars H2 h) (hs:Has H2→Spec P f args H2 good val res) (hxs:opds e xs=some args) (h:∀ r,good r→C (val r) (res r)):O1 P (.call ⟨.value (.func f),xs.toArray,ats⟩) ty n e H C :=
 O1.ent hE (a0A hs hxs h)
end
theorem row_xor (H:List Hl) (b vb n:Nat) (va:Option Addr) (vc:Nat) (l:List Bool) (ad:Option Addr) (z cd:Nat) (d:List (BitVec 8)) (q:RD) (hl:l.length=n) (hn:n≤256) (hd:d.length=z) (hz16:z≤16) (hq:RdR (stars H) q) (hqn:q.v.n=n) (hqz:q.z=z) :
  Spec Tryz.prog 199 [.pointer (some ⟨b,0,none⟩),.pointer (some ⟨q.b,0,none⟩)] (rX b (.pointer (some ⟨vb,0,none⟩)) ad z cd::vB vb n va vc::vR n va vc l::rD ad z cd d::H) (fun _:Unit=>True) (fun _ => .tuple #[]) (fun _=>rX b (.pointer (some ⟨vb,0,none⟩)) ad z cd::vB vb n va vc::vR n va vc (xorV l q.v.l)::rD ad z cd (xorL d q.d)::H):=by
 refine sF (res:=fun _:Unit=>[rX b (.pointer (some ⟨vb,0,none⟩)) ad z cd,vB vb n va vc,vR n va vc (xorV l q.v.l),rD ad z cd (xorL d q.d)]) [rX b (.pointer (some ⟨vb,0,none⟩)) ad z cd,vB vb n va vc,vR n va vc l,rD ad z cd d] H Tryz.func199 Tryz.ntmps199 fun W=>?_
 dsimp only [cA,nA]
 have e1:=hq.p
 have e2:=hq.s
 have e3:=hq.d
 have hqd:=hq.z
 rw [hqz] at e2 hqd
 obtain ⟨Q,hQ⟩:∃ Q,q.d=Q:=⟨_,rfl⟩
 rw [hQ] at e3 hqd
 have hxl:=a6W d Q (by omega)
 obtain ⟨X,hX⟩:∃ X,xorL d Q=X:=⟨_,rfl⟩
 rw [hX] at hxl
 have hz:X.length=d.length:=hxl
 obtain ⟨L1,hL1⟩:∃ L1,xorV l q.v.l=L1:=⟨_,rfl⟩
 rw [hQ,hX,hL1]
 repeat' (first|intro _|refine wK ?_|refine wL ?_ ?_|fail)
 refine a0H [(0,_),(1,_)] rtW1_0 [8] [⟨[0,1,2,3,4,5,6,7],[],some 8⟩,⟨[],[],none⟩] mixed cv (by kernel_rfl) (by kernel_rfl) ?_
 repeat' (first|intro _|refine sg ?_|(refine a1E ?_;refine po (by first|refine a0L rfl e1 fz|fail) ?_)|refine pw ?_|refine pdd ?_|(refine k_fn 216 ?_;(refine b4I vb va vc (fun _=>vec_Xor _ vb n va vc l q.v hl hn (RdV.up hq.v) hqn) rfl (fun _ _=>?_);rw [hL1]))|refine ow ?_|fail)
 all_goals dsimp only [cA,nA]
 repeat' (first|intro _|(refine a0K ?_;refine a0L rfl e2 ?_)|refine wK ?_|refine wL ?_ ?_|fail)
 refine a0Y (S:=Nat) (fun i=>[(0,.pointer (some ⟨b,0,none⟩)),(1,.pointer (some ⟨q.b,0,none⟩)),(18,.slice q.ad z q.cd),(19,I z),(20,I i)])
  (fun i=>[rX b (.pointer (some ⟨vb,0,none⟩)) ad z cd,vB vb n va vc,vR n va vc L1,rD ad z cd (partL X d i),.any (stars H)]) (fun i=>i≤z) (fun i=>z - i) 0 (Nat.zero_le _)
  cv (by show Ent _ [rX b (.pointer (some ⟨vb,0,none⟩)) ad z cd,vB vb n va vc,vR n va vc L1,rD ad z cd (partL X d 0),.any (stars H)];rw [a5O];exact ent) ?_
 intro i hi
 by_cases hlt:i<z
 ·have hql:=a2X hz i
  have hka:i<(partL X d i).length:=by omega
  have hpk:(partL X d i)[i]=d[i]'(by omega):=a6L hz (Nat.le_refl i) _
  have hset:(partL X d i).set i (X[i]'(by omega))=partL X d (i+1):=a3V hz (by omega)
  have hqi:i<Q.length:=by omega
  have hxi:d[i]'(by omega) ^^^ Q[i]=X[i]'(by omega):=by subst hX;simp [xorL]
  repeat' (first|intro _|(refine a0J ?_;first|refine o1_ia (ad:=q.ad) (c:=q.cd) i rfl rfl e3 hqd.symm rfl hqi ?_|refine a2B (enc:=B) (ad:=ad) (c:=cd) (xs:=partL X d i) i rfl rfl a0I (by omega) rfl hka ?_)|(refine a0K ?_;first|refine a1F (ad:=q.ad) (c:=q.cd) i rfl e3 hqi ?_|(refine a1P (enc:=B) (ad:=ad) (c:=cd) (xs:=partL X d i) i rfl a0I hka ?_;rw [hpk]))|(refine a0D .xor ?_;(refine a8E rfl rfl ?_;rw [hxi]))|(refine a1N ?_;(refine a2R (ad:=ad) (c:=cd) B i rfl rfl hlt rfl ?_;rw [hset]))|refine wK ?_|refine wL ?_ ?_|fail)
  refine a0Q (i+1) (by omega) (by omega) cv ?_
  exact ent
 ·have:i=z:=by omega
  subst this
  rw [a3W hz hd.symm]
  repeat' (first|intro _|refine wK ?_|refine wL ?_ ?_|fail)
  refine a4I () rfl rfl trivial ?_
  exact ent
abbrev PO (o:Option RD):Value:=match o with
 | none => .pointer none
 | some r => .pointer (some ⟨r.b,0,none⟩)
def rowP (r:RD):List Hl:=[rX r.b (Pv r.v) r.ad r.z r.cd,vB r.v.b r.v.n r.v.a r.v.c,vR r.v.n r.v.a r.v.c r.v.l,rD r.ad r.z r.cd r.d]
def oP (o:Option RD):List Hl:=match o with
 | none=>[]
 | some r=>rowP r
def mrows (M:List (Option RD)):Hp→Prop:=stars (M.flatMap oP)
abbrev mB (b n z:Nat) (ar:Option Addr) (cr k:Nat):Hl := .box b 283 [I n,I z,.slice ar n cr,I k]
abbrev mR (n:Nat) (ar:Option Addr) (cr:Nat) (M:List (Option RD)):Hl := .row 277 1 (.slice ar n cr) n (M.map PO)
structure MOk (n z:Nat) (M:List (Option RD)):Prop where
 len:M.length=n
 n1:1≤n
 n2:n≤256
 z1:1≤z
 z2:z≤16
 ok:∀ r,some r∈M→r.ok∧r.v.n=n∧r.z=z
theorem mrows_none (n:Nat) {R:List Hl}:∀ h,stars R h→stars (.any (mrows (List.replicate n none))::R) h:=fun h hh=>⟨fun _=>none,h,fun _ => .inl rfl,fun _ _ e=>(by cases e),.refl _,by
 have:(List.replicate n none:List (Option RD)).flatMap oP=[]:=by
  rw [List.flatMap_eq_nil_iff]
  intro x hx
  rw [List.eq_of_mem_replicate hx]
  rfl
 show stars ((List.replicate n none:List (Option RD)).flatMap oP) _
 rw [this]
 trivial,hh⟩
theorem a8J {M:List (Option RD)} {r:RD} {H H':List Hl} [sa:SAny H (mrows M) H'] (hm:some r∈M) (hk:r.ok) (hh:Has H):RdR (stars H) r:=by
 have key:∀ w,sat w (stars H)→sat w (stars (M.flatMap oP)):=fun w hw=>a6B sa.s w hw
 have mem:∀ x∈rowP r,x∈M.flatMap oP:=fun x hx=>List.mem_flatMap.2 ⟨some r,hm,hx⟩
 obtain ⟨L0,s0⟩:=b0B (mem (rX r.b (Pv r.v) r.ad r.z r.cd) (by simp [rowP]))
 obtain ⟨L1,s1⟩:=b0B (mem (vB r.v.b r.v.n r.v.a r.v.c) (by simp [rowP]))
 obtain ⟨L2,s2⟩:=b0B (mem (vR r.v.n r.v.a r.v.c r.v.l) (by simp [rowP]))
 obtain ⟨L3,s3⟩:=b0B (mem (rD r.ad r.z r.cd r.d) (by simp [rowP]))
 obtain ⟨w,hw⟩:=hh
 exact ⟨⟨fun w hw=>by rw [(key w hw).cell s0 0];rfl⟩,⟨fun w hw=>by rw [(key w hw).cell s0 1];rfl⟩,⟨⟨fun w hw=>by rw [(key w hw).cell s1 0];rfl⟩,⟨fun w hw=>by rw [(key w hw).cell s1 1];rfl⟩,(Rs.of_row s2 w (key w hw)).unvals.mono key,hk.v⟩,(Rs.of_row s3 w (key w hw)).unvals.mono key,hk.d⟩
theorem mrows_take {M:List (Option RD)} {r:RD} {i:Nat} {R:List Hl} (hi:i<M.length) (hr:M[i]=some r):∀ h,stars (.any (mrows M)::R) h→stars (rowP r++(.any (mrows (M.set i none))::R)) h:=fun h hh=>by
 have e1:M.flatMap oP=(M.take i).flatMap oP++(rowP r++(M.drop (i+1)).flatMap oP):=by
  conv=>lhs;rw [←List.take_append_drop i M,List.drop_eq_getElem_cons hi,hr]
  rw [List.flatMap_append,List.flatMap_cons]
  rfl
 have e2:(M.set i none).flatMap oP=(M.take i).flatMap oP++(M.drop (i+1)).flatMap oP:=by
  rw [List.set_eq_take_append_cons_drop,if_pos hi,List.flatMap_append,List.flatMap_cons]
  rfl
 have h1:sep (sep (stars (rowP r)) (mrows (M.set i none))) (stars R) h:=a0U hh (fun h' hx=>by
  have hx:stars (M.flatMap oP) h':=hx
  rw [e1] at hx
  have:=a0X _ _ _ (a7C hx)
  refine a0U this (fun _ a=>a) (fun h2 a=>?_)
  show stars ((M.set i none).flatMap oP) h2
  rw [e2]
  exact a) (fun _ a=>a)
 exact a0W _ _ _ (a4X h1)
theorem mrows_put {M:List (Option RD)} {r:RD} {i:Nat} {R:List Hl} (hi:i<M.length) (hr:M[i]=none):∀ h,stars (rowP r++(.any (mrows M)::R)) h→stars (.any (mrows (M.set i (some r)))::R) h:=fun h hh=>by
 have e1:(M.set i (some r)).flatMap oP=(M.take i).flatMap oP++(rowP r++(M.drop (i+1)).flatMap oP):=by
  rw [List.set_eq_take_append_cons_drop,if_pos hi,List.flatMap_append,List.flatMap_cons]
  rfl
 have e2:M.flatMap oP=(M.take i).flatMap oP++(M.drop (i+1)).flatMap oP:=by
  conv=>lhs;rw [←List.take_append_drop i M,List.drop_eq_getElem_cons hi,hr]
  rw [List.flatMap_append,List.flatMap_cons]
  rfl
 have h1:=a3B (a0X _ _ _ hh)
 refine a0U h1 (fun h' hx=>?_) (fun _ a=>a)
 show stars ((M.set i (some r)).flatMap oP) h'
 rw [e1]
 have h2:stars (rowP r++((M.take i).flatMap oP++(M.drop (i+1)).flatMap oP)) h':=a0W _ _ _ (a0U hx (fun _ a=>a) (fun h3 a=>by
  have a:stars (M.flatMap oP) h3:=a
  rw [e2] at a
  exact a))
 exact a7C h2
structure RdM (A:Hp→Prop) (b n z:Nat) (ar:Option Addr) (cr k:Nat) (M:List (Option RD)):Prop where
 fn:Cl A ⟨b,0,none⟩ (I n)
 fz:Cl A ⟨b,1,none⟩ (I z)
 fs:Cl A ⟨b,2,none⟩ (.slice ar n cr)
 fk:Cl A ⟨b,3,none⟩ (I k)
 fr:Rs A PO ar cr M
 fm:∀ r,some r∈M→RdR A r
 ok:MOk n z M
theorem RdM.up {A:Hp→Prop} {b n z:Nat} {ar:Option Addr} {cr k:Nat} {M:List (Option RD)} {H H':List Hl} (h:RdM A b n z ar cr k M) [s:SAny H A H']:RdM (stars H) b n z ar cr k M:=⟨cl_up h.fn,cl_up h.fz,cl_up h.fs,cl_up h.fk,h.fr.up,fun r hr=>(h.fm r hr).up,h.ok⟩
theorem RdM.own {b n z:Nat} {ar:Option Addr} {cr k:Nat} {M:List (Option RD)} {H H1 H2 H3:List Hl} {m:Nat} [s:SBox H b 283 [I n,I z,.slice ar n cr,I k] H1] [s2:SRow H ar cr m 277 (M.map PO) H2] [s3:SAny H (mrows M) H3] (hk:MOk n z M) (hh:Has H):RdM (stars H) b n z ar cr k M :=
 ⟨a1M rfl,a1M rfl,a1M rfl,a1M rfl,a0I hh,fun r hr=>a8J (M:=M) hr (hk.ok r hr).1 hh,hk⟩
theorem elim_New (H:List Hl) (n z:Nat) (h1:1≤n) (h2:n≤256) (h3:1≤z) (h4:z≤16) :
  Spec Tryz.prog 196 [I n,I z] H (fun _:Nat × Option Addr × Nat=>True) (fun r => .pointer (some ⟨r.1,0,none⟩)) (fun r=>mB r.1 n z r.2.1 r.2.2 0::mR n r.2.1 r.2.2 (List.replicate n none) :: .any (mrows (List.replicate n none))::H):=by
 refine sP (res:=fun r:Nat × Option Addr × Nat=>[mB r.1 n z r.2.1 r.2.2 0,mR n r.2.1 r.2.2 (List.replicate n none),.any (mrows (List.replicate n none))]) H Tryz.func196 Tryz.ntmps196 fun W=>?_
 repeat' (first|intro _|(refine a2W ?_;refine a5D (enc:=PO) none n rfl rfl rfl rfl rfl (by omega) (by omega) (fun b2=>?_))|(refine k_box ?_;refine a1V rfl rfl (fun b1=>?_))|refine wK ?_|refine wL ?_ ?_|fail)
 refine c0E (T:=277) (b:=b2) (m:=n) (cp:=n) (cs:=(List.replicate n none).map PO) (by simp) rfl (by omega) ?_
 refine a2A (mrows_none n) ?_
 refine a0E (b1,some ⟨b2,0,none⟩,n) rfl rfl rfl trivial ?_
 exact ent
def rtW2_0:List Row:=[tR 10 [] [],tR 11 [0] [0],tR 12 [1] [0,1],tG 13 [2] [0,1,2] 2 false,tG 14 [3,2,2] [0,1,2,3] 2 false,tG 15 [2] [0,1,2] 2 false,tG 16 [5,2] [0,1,2,5] 2 false,tG 17 [6,2] [0,1,2,5,6] 2 false,tG 18 [7,2] [0,1,2,5,6,7] 2 false,tG 19 [4,8,2] (rG 9) 2 false,tR 20 [2,9] (rG 10)]
def rtW2_1:List Row:=[tR 21 [] [],tR 22 [0] [0],tR 23 [] [],tR 24 [2] [2],tR 25 [3] [2,3],tR 26 [4] [2,3,4],tR 27 [5,5] [2,3,4,5],tR 28 [1,6] (rG 7),tR 29 [7] (rG 8),tR 7 [8,1,0,1,2,3,4,5,6,7,8] (rG 9)]
def rtW2_5:List Row:=[tR 3 [] [],tR 4 [0] [0],tR 5 [1] [0,1],tG 6 [2] [0,1,2] 2 true,tG 7 [3,2,2] [0,1,2,3] 2 true,tG 8 [2] [0,1,2] 2 true,tG 9 [5,2] [0,1,2,5] 2 true,tG 10 [6,2] [0,1,2,5,6] 2 true,tG 11 [7,2] [0,1,2,5,6,7] 2 true,tG 12 [4,8,2] (rG 9) 2 true,tR 13 [2,9] (rG 10),tR 2 [10,4,0,1,2,3,4,5,6,7,8,9,10] (rG 11)]
abbrev LN:=List Bool × List (BitVec 8)
def vw (o:Option RD):Option LN:=o.map (fun r=>(r.v.l,r.d))
def addL (x y:LN):LN:=(xorV x.1 y.1,xorL x.2 y.2)
def stepR (x:LN) (i:Nat) (o:Option LN):LN:=match o with
 | some y=>if at_ x.1 i then addL x y else x
 | none=>x
def redT (M:List (Option LN)) (x:LN):Nat→LN
 | 0=>x
 | i+1=>stepR (redT M x i) i (M.getD i none)
def red (M:List (Option LN)) (x:LN):LN:=redT M x M.length
structure LOk (n z:Nat) (M:List (Option LN)):Prop where
 len:M.length=n
 ok:∀ y,some y∈M→y.1.length=n∧y.2.length=z
theorem MOk.vw {n z:Nat} {M:List (Option RD)} (h:MOk n z M):LOk n z (M.map vw):=⟨by rw [List.length_map,h.len],fun y hy=>by
 obtain ⟨o,ho,e⟩:=List.mem_map.1 hy
 cases o with
 | none=>cases e
 | some r =>
  obtain ⟨h1,h2,h3⟩:=h.ok r ho
  simp only [Go.Dp.vw,Option.map_some,Option.some.injEq] at e
  subst e
  exact ⟨by rw [h1.v.len,h2],by rw [h1.d,h3]⟩⟩
theorem addL_len {x y:LN} {n z:Nat} (h1:x.1.length=n) (h2:x.2.length=z) (h3:y.1.length=n) (h4:y.2.length=z):(addL x y).1.length=n∧(addL x y).2.length=z :=
 ⟨by rw [addL,a8Y (by omega),h1],by rw [addL,a6W _ _ (by omega),h2]⟩
theorem stepR_len {x:LN} {o:Option LN} {i n z:Nat} (h1:x.1.length=n) (h2:x.2.length=z) (ho:∀ y,o=some y→y.1.length=n∧y.2.length=z):(stepR x i o).1.length=n∧(stepR x i o).2.length=z:=by
 cases o with
 | none=>exact ⟨h1,h2⟩
 | some y =>
  obtain ⟨h3,h4⟩:=ho y rfl
  simp only [stepR]
  split
  ·exact addL_len h1 h2 h3 h4
  ·exact ⟨h1,h2⟩
theorem a5V {M:List (Option LN)} {x:LN} {n z:Nat} (h:LOk n z M) (h1:x.1.length=n) (h2:x.2.length=z):∀ i,(redT M x i).1.length=n∧(redT M x i).2.length=z
 | 0=>⟨h1,h2⟩
 | i+1=>by
  obtain ⟨h3,h4⟩:=a5V h h1 h2 i
  refine stepR_len h3 h4 (fun y hy=>h.ok y ?_)
  rw [List.getD_eq_getElem?_getD] at hy
  by_cases hi:i<M.length
  ·rw [List.getElem?_eq_getElem hi] at hy
   rw [←hy]
   exact List.getElem_mem hi
  ·rw [List.getElem?_eq_none (by omega)] at hy
   cases hy
def padD (z:Nat) (dd:List (BitVec 8)):List (BitVec 8):=dd.take (List.replicate z 0#8).length++(List.replicate z 0#8).drop dd.length
theorem padD_len (z:Nat) (dd:List (BitVec 8)) (h:dd.length≤z):(padD z dd).length=z:=by simp [padD];omega
theorem padD_full {z:Nat} {dd:List (BitVec 8)} (h:dd.length=z):padD z dd=dd:=by
 subst h;simp [padD]
theorem padD_nil (z:Nat):padD z []=List.replicate z 0#8:=by simp [padD]
theorem b0L (H:List Hl) (bm n z:Nat) (ar:Option Addr) (cr k:Nat) (M:List (Option RD)) (v:VD) (ad0:Option Addr) (m0 c0:Nat) (dd:List (BitVec 8)) (hM:RdM (stars H) bm n z ar cr k M) (hv:RdV (stars H) v) (hvn:v.n=n) (hd:Rs (stars H) B ad0 c0 dd) (hm0:m0=dd.length) (hdl:dd.length≤z) :
  Spec Tryz.prog 197 [.pointer (some ⟨bm,0,none⟩),Pv v,.slice ad0 m0 c0] H (fun r:RD=>r.v.n=n∧r.z=z∧(r.v.l,r.d)=red (M.map vw) (v.l,padD z dd)) (fun r => .pointer (some ⟨r.b,0,none⟩)) (fun r=>rX r.b (Pv r.v) r.ad r.z r.cd::vB r.v.b r.v.n r.v.a r.v.c::vR r.v.n r.v.a r.v.c r.v.l::rD r.ad r.z r.cd r.d::H):=by
 refine sP (res:=fun r:RD=>[rX r.b (Pv r.v) r.ad r.z r.cd,vB r.v.b r.v.n r.v.a r.v.c,vR r.v.n r.v.a r.v.c r.v.l,rD r.ad r.z r.cd r.d]) H Tryz.func197 Tryz.ntmps197 fun W=>?_
 obtain ⟨l1,l2,l3,l4,l5,l6⟩:=hM.ok
 have m1:=hM.fn
 have m2:=hM.fz
 have m3:=hM.fs
 have mle:=hM.fr.le
 have mbg:=hM.fr.big
 have hvl:v.l.length=n:=by rw [hv.ok.len,hvn]
 have hLk:=hM.ok.vw
 have hpl:=padD_len z dd hdl
 obtain ⟨ML,hML⟩:∃ ML,M.map vw=ML:=⟨_,rfl⟩
 rw [hML] at hLk ⊢
 repeat' (first|intro _|refine wK ?_|refine wL ?_ ?_|fail)
 refine a0H [(0,_),(1,_)] rtW2_0 [4] [⟨[0,1,2,3,5,6,7,8],[],some 4⟩,⟨[9,10],[5,6,7,8],none⟩] mixed cv (by kernel_rfl) (by kernel_rfl) ?_
 repeat' (first|intro _|refine sg ?_|refine po (by first|refine a0S rfl rfl fz|fail) ?_|(refine a1E ?_;refine po (by first|refine a0L rfl m1 fz|fail) ?_)|(refine a1I .neq ?_;refine po (by first|refine a2E rfl rfl (by omega) fz|fail) ?_)|refine pw ?_|refine pdd ?_|refine a0S rfl rfl ?_|(refine k_fn 142 ?_;refine a0A (fun _=>vec_Len _ v (cl_up hv.n)) rfl (fun _ _=>?_))|refine ow ?_|fail)
 all_goals dsimp only [cA,nA]
 repeat' (first|intro _|refine wK ?_|refine wL ?_ ?_|fail)
 refine c1X (X:=Nat × Option Addr × Nat × Nat × Nat) (fun x=>[(0,.pointer (some ⟨bm,0,none⟩)),(2,.slice ad0 m0 c0),(7,.pointer (some ⟨x.2.2.2.2,0,none⟩))]) (fun x=>[rX x.2.2.2.2 (.pointer (some ⟨x.1,0,none⟩)) (some ⟨x.2.2.2.1,0,none⟩) z z,vB x.1 n x.2.1 x.2.2.1,vR n x.2.1 x.2.2.1 v.l,.box x.2.2.2.1 5 ((List.replicate z 0#8).map B),.any (stars H)]) ?restS ?walkS
 case walkS =>
  intro via
  refine a5T [(1,_),(0,_)] rtW2_1 [1,6,8] (.alt [0,2,3,4,5] [] 1 (.step [] [2,3,4,5] 6 (.step [7] [] 8 (.fin [9] []))) 6 (.step [] [0] 1 (.step [7] [] 8 (.fin [9] [])))) mixed cv (by kernel_rfl) (by kernel_rfl) ?_
  repeat' (first|intro _|refine sg ?_|(refine a1E ?_;refine po (by first|refine a0L rfl m2 fz|fail) ?_)|refine pw ?_|refine pdd ?_|(refine k_fn 214 ?_;(refine a0A (fun _=>vec_Copy _ v hv.up) rfl (fun ⟨b20,a20,c20⟩ _=>?_);dsimp only;rw [hvn]))|(refine a2W ?_;refine a5D (enc:=B) 0#8 z rfl rfl rfl rfl rfl (by omega) (by omega) (fun b27=>?_))|(refine k_box ?_;refine a1V rfl rfl (fun b29=>?_))|refine ow ?_|refine And.intro ?_ ?_|fail)
  all_goals dsimp only [cA,nA]
  all_goals exact via (_,_,_,_,_) _ _ cv ent
 case restS =>
  rintro ⟨vb,va,vc,bd,b⟩
  dsimp only
  repeat' (first|intro _|(refine a1S ?_;refine b8S (b:=bd) (xs:=List.replicate z 0#8) (ys:=dd) rfl rfl (by simp) (a3Q hd) hm0 (fun _=>rfl) ?_)|(refine a0K ?_;refine a0L rfl m3 ?_)|refine wK ?_|refine wL ?_ ?_|fail)
  have hpd:dd.take (List.replicate z 0#8).length++(List.replicate z 0#8).drop dd.length=padD z dd:=rfl
  rw [hpd]
  refine st_row (T:=5) (b:=bd) (m:=z) (cp:=z) (cs:=(padD z dd).map B) (by rw [List.length_map,hpl]) rfl (by omega) ?_
  refine a0Y (S:=Nat) (fun i=>[(7,.pointer (some ⟨b,0,none⟩)),(39,.slice ar n cr),(40,I n),(41,I i)])
   (fun i=>[rX b (.pointer (some ⟨vb,0,none⟩)) (some ⟨bd,0,none⟩) z z,vB vb n va vc,vR n va vc (redT ML (v.l,padD z dd) i).1,rD (some ⟨bd,0,none⟩) z z (redT ML (v.l,padD z dd) i).2,.any (stars H)]) (fun i=>i≤n) (fun i=>n - i) 0 (Nat.zero_le _)
   cv ent ?_
  intro i hi
  obtain ⟨hxl,hxd⟩:=a5V hLk (x:=(v.l,padD z dd)) hvl hpl i
  by_cases hlt:i<n
  ·have hiM:i<M.length:=by omega
   have hnx:redT ML (v.l,padD z dd) (i+1)=stepR (redT ML (v.l,padD z dd) i) i (vw M[i]):=by
    rw [redT]
    congr 1
    subst hML
    simp [List.getD_eq_getElem?_getD,hiM]
   obtain ⟨⟨xl,xd⟩,hX⟩:∃ X,redT ML (v.l,padD z dd) i=X:=⟨_,rfl⟩
   rw [hX] at hxl hxd hnx ⊢
   dsimp only at hxl hxd ⊢
   cases hMi:M[i] with
   | none =>
    rw [hMi] at hnx
    have hnx:redT ML (v.l,padD z dd) (i+1)=(xl,xd):=hnx
    repeat' (first|intro _|(refine a0J ?_;refine o1_ia (ad:=ar) (c:=cr) i rfl rfl hM.fr l1.symm rfl hiM ?_)|(refine a0K ?_;(refine a1F (ad:=ar) (c:=cr) i rfl hM.fr hiM ?_;rw [hMi]))|refine a4N rfl rfl ?_|refine wK ?_|refine wL ?_ ?_|fail)
    refine a0Q (i+1) (by omega) (by omega) cv ?_
    rw [hnx]
    exact ent
   | some q =>
    rw [hMi] at hnx
    have hqm:some q∈M:=hMi ▸ List.getElem_mem hiM
    have hq:=hM.fm q hqm
    obtain ⟨hq1,hq2,hq3⟩:=l6 q hqm
    cases hat:at_ xl i
    ·have hnx:redT ML (v.l,padD z dd) (i+1)=(xl,xd):=by
      rw [hnx]
      show (if at_ xl i=true then _ else (xl,xd))=_
      rw [hat];rfl
     repeat' (first|intro _|(refine a0J ?_;refine o1_ia (ad:=ar) (c:=cr) i rfl rfl hM.fr l1.symm rfl hiM ?_)|(refine a0K ?_;(refine a1F (ad:=ar) (c:=cr) i rfl hM.fr hiM ?_;rw [hMi]))|refine a4N rfl rfl ?_|(refine k_fn 143 ?_;refine a0A (fun hh=>(a9Z _ ⟨vb,n,va,vc,xl⟩ i (RdV.own hxl l3 hh)).bv (b:=false) (by rw [a7Z,hat])) rfl (fun _ _=>?_))|refine wK ?_|refine wL ?_ ?_|fail)
     refine a0Q (i+1) (by omega) (by omega) cv ?_
     rw [hnx]
     exact ent
    ·have hnx:redT ML (v.l,padD z dd) (i+1)=(xorV xl q.v.l,xorL xd q.d):=by
      rw [hnx]
      show (if at_ xl i=true then addL (xl,xd) (q.v.l,q.d) else (xl,xd))=_
      rw [hat];rfl
     repeat' (first|intro _|(refine a0J ?_;refine o1_ia (ad:=ar) (c:=cr) i rfl rfl hM.fr l1.symm rfl hiM ?_)|(refine a0K ?_;(refine a1F (ad:=ar) (c:=cr) i rfl hM.fr hiM ?_;rw [hMi]))|refine a4N rfl rfl ?_|(refine k_fn 143 ?_;refine a0A (fun hh=>(a9Z _ ⟨vb,n,va,vc,xl⟩ i (RdV.own hxl l3 hh)).bv (b:=true) (by rw [a7Z,hat])) rfl (fun _ _=>?_))|(refine k_fn 199 ?_;refine a0V [rX b (.pointer (some ⟨vb,0,none⟩)) (some ⟨bd,0,none⟩) z z,vB vb n va vc,vR n va vc xl,rD (some ⟨bd,0,none⟩) z z xd,.any (stars H)] (Ent.out ent) (fun _=>row_xor _ b vb n va vc xl (some ⟨bd,0,none⟩) z z xd q hxl l3 hxd l5 (RdR.up hq) hq2 hq3) rfl (fun _ _=>?_))|refine wK ?_|refine wL ?_ ?_|fail)
     refine a0Q (i+1) (by omega) (by omega) cv ?_
     rw [hnx]
     exact ent
  ·have:i=n:=by omega
   subst this
   repeat' (first|intro _|refine wK ?_|refine wL ?_ ?_|fail)
   refine a0E (⟨b,⟨vb,i,va,vc,(redT ML (v.l,padD z dd) i).1⟩,some ⟨bd,0,none⟩,z,z,(redT ML (v.l,padD z dd) i).2⟩:RD) rfl rfl rfl ⟨rfl,rfl,?_⟩ ?_
   ·show ((redT ML (v.l,padD z dd) i).1,(redT ML (v.l,padD z dd) i).2)=red ML (v.l,padD z dd)
    rw [red,hLk.len]
   exact ent
theorem o1_xload_any {P:Program} {n:Nat} {H:List Hl} {e:Ev} {C:Value→List Hl→Prop} {ty:TypeId} {f:FuncId} {xs:List Operand} {ats:Array TypeId} {a0:Addr} {H':List Hl} {k:IntKind} {p:Int} {A:Hp→Prop} (x:XFn P f (Extern.Atomic.loadT (.int k))) (hxs:opds e xs=some [.pointer (some a0)]) (hc:Cl A a0 (.int k p)) [s:SAny H A H'] (h:C (.int k p) H):O1 P (.call ⟨.value (.func f),xs.toArray,ats⟩) ty n e H C :=
 b6F _ hxs (fun a w ho=>by
  obtain ⟨fn,h1,h2,h3,h4,h5⟩:=x.of
  exact run_call_load h1 h2 h3 h4 k h5 (hc.cell w (a6B s.s w ho.sat))) h
theorem at_Load64 (H:List Hl) (b i:Nat) (k:Int) (h:Cl (stars H) ⟨b,i,none⟩ (I k)) :
  Spec Tryz.prog 144 [.pointer (some ⟨b,i,none⟩)] H (fun _:Unit=>True) (fun _=>I k) (fun _=>H):=by
 refine sP (res:=fun _=>[]) H Tryz.func144 Tryz.ntmps144 fun W=>?_
 repeat' (first|intro _|refine o1_xload_any xf_load64 rfl h ?_|refine wK ?_|refine wL ?_ ?_|fail)
 refine a0E () rfl rfl rfl trivial ?_
 exact ent
theorem at_Add64 (H:List Hl) (b n z:Nat) (ar:Option Addr) (cr k:Nat) (hk:k≤1000) :
  Spec Tryz.prog 145 [.pointer (some ⟨b,3,none⟩),I 1] (mB b n z ar cr k::H) (fun _:Unit=>True) (fun _=>I (k+1:Nat)) (fun _=>mB b n z ar cr (k+1)::H):=by
 refine sF (res:=fun _:Unit=>[mB b n z ar cr (k+1)]) [mB b n z ar cr k] H Tryz.func145 Tryz.ntmps145 fun W=>?_
 dsimp only [cA,nA]
 repeat' (first|intro _|refine o1_xadd xf_add64 rfl (b:=b) (i:=3) (r:=((k+1:Nat):Int)) rfl (by rw [a8B (by omega) (by omega)];push_cast;rfl) ?_|refine wK ?_|refine wL ?_ ?_|fail)
 refine a0E () rfl rfl rfl trivial ?_
 exact ent
theorem b7B (H:List Hl) (bm k:Nat) (h:Cl (stars H) ⟨bm,3,none⟩ (I k)) :
  Spec Tryz.prog 169 [.pointer (some ⟨bm,0,none⟩)] H (fun _:Unit=>True) (fun _=>I k) (fun _=>H):=by
 refine sP (res:=fun _=>[]) H Tryz.func169 Tryz.ntmps169 fun W=>?_
 repeat' (first|intro _|refine a0S rfl rfl ?_|(refine k_fn 144 ?_;refine a0A (fun _=>at_Load64 _ bm 3 k (cl_up h)) rfl (fun _ _=>?_))|refine wK ?_|refine wL ?_ ?_|fail)
 refine a0E () rfl rfl rfl trivial ?_
 exact ent
theorem elim_Full (H:List Hl) (bm n k:Nat) (h:Cl (stars H) ⟨bm,3,none⟩ (I k)) (h0:Cl (stars H) ⟨bm,0,none⟩ (I n)) :
  Spec Tryz.prog 217 [.pointer (some ⟨bm,0,none⟩)] H (fun _:Unit=>True) (fun _ => .bool (decide ((k:Int)=n))) (fun _=>H):=by
 refine sP (res:=fun _=>[]) H Tryz.func217 Tryz.ntmps217 fun W=>?_
 repeat' (first|intro _|refine wK ?_|refine wL ?_ ?_|fail)
 refine a0H [(0,_)] rtW2_5 [4] [⟨[0,1,2,3,5,6,7,8],[],some 4⟩,⟨[9,10,11],[5,6,7,8],none⟩] mixed cv (by kernel_rfl) (by kernel_rfl) ?_
 repeat' (first|intro _|refine sg ?_|refine po (by first|refine a4N rfl rfl fz|fail) ?_|(refine a1E ?_;refine po (by first|refine a0L rfl h0 fz|fail) ?_)|(refine a1I .eql ?_;refine po (by first|refine b9C rfl rfl fz|fail) ?_)|refine pw ?_|refine pdd ?_|refine a4N rfl rfl ?_|(refine k_fn 169 ?_;refine a0A (fun _=>b7B _ bm k (cl_up h)) rfl (fun _ _=>?_))|refine ow ?_|fail)
 all_goals dsimp only [cA,nA]
 repeat' (first|intro _|refine wK ?_|refine wL ?_ ?_|fail)
 refine a0E () rfl rfl rfl trivial ?_
 exact ent
theorem o1_load_hc {P:Program} {n:Nat} {H:List Hl} {e:Ev} {C:Value→List Hl→Prop} {ty T:TypeId} {x:Operand} [TOne P T] {a:Addr} {v:Value} (hx:opd e x=some (.pointer (some a))) (hc:Has H→Cl (stars H) a v) (h:C v H):O1 P (.load T x) ty n e H C :=
 ⟨fun a w ho o h1 h2 K Q hK=>(o1_load_h hx (hc ho.has) h).out a w ho o h1 h2 K Q hK⟩
def clrL (a:Nat) (x:LN) (o:Option LN):Option LN:=o.map (fun y=>if at_ y.1 a then addL y x else y)
def addM (M:List (Option LN)) (a:Nat) (x:LN):List (Option LN):=(M.map (clrL a x)).set a (some x)
theorem map_get {α β:Type} {f:α→β} {A B:List α} (h:A.map f=B.map f) {i:Nat} (h1:i<A.length) (h2:i<B.length):f A[i]=f B[i]:=by
 have:=congrArg (·[i]?) h
 simpa [h1,h2] using this
theorem map_set_same {α β:Type} {f:α→β} {A:List α} {B:List β} {i:Nat} {y:α} (h:A.map f=B) (h1:i<A.length) (hy:f y=f A[i]):(A.set i y).map f=B:=by
 subst h
 rw [List.map_set,hy]
 apply List.ext_getElem
 ·simp
 ·intro j h2 h3
  rw [List.getElem_set]
  split
  ·rename_i e
   subst e
   simp
  ·rfl
theorem elim_Add (H:List Hl) (bm n z:Nat) (ar:Option Addr) (cr k:Nat) (M:List (Option RD)) (v:VD) (ad0:Option Addr) (m0 c0:Nat) (dd:List (BitVec 8)) (ML:List (Option LN)) (x:LN) (a:Nat) (hk:MOk n z M) (hML:M.map vw=ML) (hv:RdV (stars H) v) (hvn:v.n=n) (hd:Rs (stars H) B ad0 c0 dd) (hm0:m0=dd.length) (hdl:dd.length=z) (hx:red ML (v.l,dd)=x) (hfa:firstV x.1=a) (hfree:ML[a]?=some none) (hk1:k≤1000) (ht:TabF (stars H)) :
  Spec Tryz.prog 168 [.pointer (some ⟨bm,0,none⟩),Pv v,.slice ad0 m0 c0] (mB bm n z ar cr k::mR n ar cr M :: .any (mrows M)::H) (fun M':List (Option RD)=>M'.map vw=addM ML a x∧MOk n z M') (fun _ => .bool true) (fun M'=>mB bm n z ar cr (k+1)::mR n ar cr M' :: .any (mrows M')::H):=by
 refine sF (res:=fun M':List (Option RD)=>[mB bm n z ar cr (k+1),mR n ar cr M',.any (mrows M')]) [mB bm n z ar cr k,mR n ar cr M,.any (mrows M)] H Tryz.func168 Tryz.ntmps168 fun W=>?_
 dsimp only [cA,nA]
 obtain ⟨l1,l2,l3,l4,l5,l6⟩:=hk
 have hk:MOk n z M:=⟨l1,l2,l3,l4,l5,l6⟩
 have hLk:=hk.vw
 have hvl:v.l.length=n:=by rw [hv.ok.len,hvn]
 rw [hML] at hLk
 obtain ⟨hxl,hxd⟩:x.1.length=n∧x.2.length=z:=by rw [←hx];exact a5V hLk hvl hdl _
 have hax:a<x.1.length:=by
  unfold firstV at hfa
  split at hfa <;> omega
 have han:a<n:=by omega
 have haM:a<M.length:=by omega
 have hMLl:ML.length=n:=hLk.len
 have hMa:M[a]=none:=by
  have h1:=hfree
  rw [←hML,List.getElem?_map,List.getElem?_eq_getElem haM] at h1
  cases hq:M[a] with
  | none=>rfl
  | some q=>rw [hq] at h1;cases h1
 have hpadf:=padD_full hdl
 obtain ⟨xl,xd⟩:=x
 dsimp only at hxl hxd hfa hax
 repeat' (first|intro _|refine a0S rfl rfl ?_|(refine a0D .neq ?_;refine a2E rfl rfl (by omega) ?_)|(refine k_fn 197 ?_;(refine a0A (fun hh=>b0L _ bm n z ar cr k M v ad0 m0 c0 dd (RdM.own hk hh) hv.up hvn hd.up hm0 (by omega)) rfl (fun ⟨b7,⟨vb,vn,va,vc,vl⟩,ad7,z7,cd7,d7⟩ hr=>?_);dsimp only at hr ⊢;obtain ⟨rfl,rfl,hr3⟩:=hr;rw [hML,hpadf,hx] at hr3;obtain ⟨rfl,rfl⟩:=Prod.mk.inj hr3))|(refine k_fn 198 ?_;refine a0A (fun hh=>(b5Q _ ⟨vb,vn,va,vc,vl⟩ (RdV.own hxl l3 hh) ht.up).vv (b:=I a) (by rw [hfa])) rfl (fun _ _=>?_))|refine wK ?_|refine wL ?_ ?_|fail)
 refine a0Y (S:=Nat × List (Option RD)) (fun q=>[(0,.pointer (some ⟨bm,0,none⟩)),(7,.pointer (some ⟨b7,0,none⟩)),(8,I a),(44,.slice ar vn cr),(45,I vn),(46,I q.1)])
  (fun q=>[mB bm vn z7 ar cr k,mR vn ar cr M,.any (mrows q.2),rX b7 (.pointer (some ⟨vb,0,none⟩)) ad7 z7 cd7,vB vb vn va vc,vR vn va vc vl,rD ad7 z7 cd7 d7,.any (stars H)])
  (fun q=>q.1≤vn∧q.2.map PO=M.map PO∧q.2.map vw=partL (ML.map (clrL a (vl,d7))) ML q.1∧MOk vn z7 q.2) (fun q=>vn - q.1) (0,M) ⟨Nat.zero_le _,rfl,by rw [a5O,hML],hk⟩
  cv ent ?_
 rintro ⟨j,Q⟩ ⟨hj,hQp,hQv,hQk⟩
 dsimp only at hj hQp hQv hQk ⊢
 have hQl:=hQk.len
 have hcl:(ML.map (clrL a (vl,d7))).length=ML.length:=by rw [List.length_map]
 by_cases hjt:j<vn
 ·have hjM:j<M.length:=by omega
  have hjQ:j<Q.length:=by omega
  have hjL:j<ML.length:=by omega
  have hPO:PO M[j]=PO Q[j]:=(map_get hQp hjQ hjM).symm
  have hvj:vw Q[j]=ML[j]:=by
   have h1:=congrArg (·[j]?) hQv
   simp only [List.getElem?_map,List.getElem?_eq_getElem hjQ,Option.map_some] at h1
   rw [List.getElem?_eq_getElem (by rw [a2X hcl];exact hjL),a6L hcl (Nat.le_refl j)] at h1
   exact Option.some.inj h1
  have hnext:partL (ML.map (clrL a (vl,d7))) ML (j+1)=(partL (ML.map (clrL a (vl,d7))) ML j).set j (clrL a (vl,d7) (vw Q[j])):=by
   rw [←a3V hcl (by omega),hvj]
   simp
  cases hq0:Q[j] with
  | none =>
   rw [hq0] at hPO hnext hvj
   have hn2:partL (ML.map (clrL a (vl,d7))) ML (j+1)=Q.map vw:=by
    rw [hnext,←hQv]
    show (Q.map vw).set j none=_
    have e:(Q.map vw)[j]'(by simpa using hjQ)=none:=by simp [hq0,vw]
    rw [←e,List.set_getElem_self]
   repeat' (first|intro _|(refine a0J ?_;refine a2B (enc:=PO) (ad:=ar) (c:=cr) (xs:=M) j rfl rfl a0I l1.symm rfl hjM ?_)|(refine a0K ?_;(refine a1P (enc:=PO) (ad:=ar) (c:=cr) (xs:=M) j rfl a0I hjM ?_;rw [hPO]))|refine a4N rfl rfl ?_|refine wK ?_|refine wL ?_ ?_|fail)
   refine a0Q (j+1,Q) ⟨?_,hQp,hn2.symm,hQk⟩ ?_ cv ?_
   ·show j+1≤vn;omega
   ·show vn - (j+1)<vn - j;omega
   exact ent
  | some q =>
   rw [hq0] at hPO hnext hvj
   have hqm:some q∈Q:=hq0 ▸ List.getElem_mem hjQ
   obtain ⟨hq1,hq2,hq3⟩:=hQk.ok q hqm
   obtain ⟨qb,⟨qvb,qvn,qva,qvc,ql⟩,qad,qz,qcd,qd⟩:=q
   dsimp only at hq2 hq3
   subst hq2 hq3
   have hqll:ql.length=qvn:=hq1.v.len
   have hqdl:qd.length=qz:=hq1.d
   cases hat:at_ ql a
   ·have hn2:partL (ML.map (clrL a (vl,d7))) ML (j+1)=Q.map vw:=by
     rw [hnext,←hQv]
     have e:clrL a (vl,d7) (vw (some ⟨qb,⟨qvb,qvn,qva,qvc,ql⟩,qad,qz,qcd,qd⟩))=(Q.map vw)[j]'(by simpa using hjQ):=by
      simp only [List.getElem_map,hq0,vw,clrL,Option.map_some]
      rw [hat]
      rfl
     rw [e,List.set_getElem_self]
    repeat' (first|intro _|(refine a0J ?_;refine a2B (enc:=PO) (ad:=ar) (c:=cr) (xs:=M) j rfl rfl a0I l1.symm rfl hjM ?_)|(refine a0K ?_;first|(refine a1P (enc:=PO) (ad:=ar) (c:=cr) (xs:=M) j rfl a0I hjM ?_;rw [hPO])|refine o1_load_hc rfl (fun hh=>(a8J (M:=Q) hqm hq1 hh).p) ?_)|refine a4N rfl rfl ?_|(refine k_fn 143 ?_;refine a0A (fun hh=>(a9Z _ ⟨qvb,qvn,qva,qvc,ql⟩ a (a8J (M:=Q) hqm hq1 hh).v).bv (b:=false) (by rw [a7Z,hat])) rfl (fun _ _=>?_))|refine wK ?_|refine wL ?_ ?_|fail)
    refine a0Q (j+1,Q) ⟨?_,hQp,hn2.symm,hQk⟩ ?_ cv ?_
    ·show j+1≤qvn;omega
    ·show qvn - (j+1)<qvn - j;omega
    exact ent
   ·obtain ⟨q',hq'⟩:∃ q':RD,q'=⟨qb,⟨qvb,qvn,qva,qvc,xorV ql vl⟩,qad,qz,qcd,xorL qd d7⟩:=⟨_,rfl⟩
    have hn2:partL (ML.map (clrL a (vl,d7))) ML (j+1)=(Q.set j (some q')).map vw:=by
     rw [hnext,List.map_set,←hQv,hq']
     simp only [vw,clrL,Option.map_some]
     rw [hat]
     rfl
    have hPs:(Q.set j (some q')).map PO=M.map PO:=map_set_same hQp hjQ (by rw [hq0,hq'])
    have hQk':MOk qvn qz (Q.set j (some q')):=⟨by rw [List.length_set];exact hQl,l2,l3,l4,l5,fun r hr=>by
     rcases List.mem_or_eq_of_mem_set hr with h|h
     ·exact hQk.ok r h
     ·injection h with h
      subst h
      rw [hq']
      exact ⟨⟨⟨by show (xorV ql vl).length=qvn;rw [a8Y (by omega)];exact hqll,l3⟩,by show (xorL qd d7).length=qz;rw [a6W _ _ (by omega)];exact hqdl⟩,rfl,rfl⟩⟩
    repeat' (first|intro _|(refine a0J ?_;refine a2B (enc:=PO) (ad:=ar) (c:=cr) (xs:=M) j rfl rfl a0I l1.symm rfl hjM ?_)|(refine a0K ?_;first|(refine a1P (enc:=PO) (ad:=ar) (c:=cr) (xs:=M) j rfl a0I hjM ?_;rw [hPO])|refine o1_load_hc rfl (fun hh=>(a8J (M:=Q) hqm hq1 hh).p) ?_)|refine a4N rfl rfl ?_|refine a0V (rX qb (.pointer (some ⟨qvb,0,none⟩)) qad qz qcd::vB qvb qvn qva qvc::vR qvn qva qvc ql::rD qad qz qcd qd::[.any (mrows (Q.set j none)),mB bm qvn qz ar cr k,mR qvn ar cr M,rX b7 (.pointer (some ⟨vb,0,none⟩)) ad7 qz cd7,vB vb qvn va vc,vR qvn va vc vl,rD ad7 qz cd7 d7,.any (stars H)]) (fun h hh=>mrows_take (R:=[mB bm qvn qz ar cr k,mR qvn ar cr M,rX b7 (.pointer (some ⟨vb,0,none⟩)) ad7 qz cd7,vB vb qvn va vc,vR qvn va vc vl,rD ad7 qz cd7 d7,.any (stars H)]) hjQ hq0 h (Ent.out ent h hh)) (fun hh=>row_xor _ qb qvb qvn qva qvc ql qad qz qcd qd ⟨b7,⟨vb,qvn,va,vc,vl⟩,ad7,qz,cd7,d7⟩ hqll l3 hqdl l5 (RdR.own hxl l3 hxd (a0B (a0B (a0B (a0B hh))))) rfl rfl) rfl (fun _ _=>?_)|(refine k_fn 143 ?_;refine a0A (fun hh=>(a9Z _ ⟨qvb,qvn,qva,qvc,ql⟩ a (a8J (M:=Q) hqm hq1 hh).v).bv (b:=true) (by rw [a7Z,hat])) rfl (fun _ _=>?_))|refine wK ?_|refine wL ?_ ?_|fail)
    have hsn:(Q.set j none).set j (some q')=Q.set j (some q'):=List.set_set ..
    have hput:=mrows_put (M:=Q.set j none) (r:=q') (i:=j) (R:=[mB bm qvn qz ar cr k,mR qvn ar cr M,rX b7 (.pointer (some ⟨vb,0,none⟩)) ad7 qz cd7,vB vb qvn va vc,vR qvn va vc vl,rD ad7 qz cd7 d7,.any (stars H)]) (by rw [List.length_set];exact hjQ) (by simp)
    rw [hsn] at hput
    refine b4Q (H2 := .any (mrows (Q.set j (some q')))::[mB bm qvn qz ar cr k,mR qvn ar cr M,rX b7 (.pointer (some ⟨vb,0,none⟩)) ad7 qz cd7,vB vb qvn va vc,vR qvn va vc vl,rD ad7 qz cd7 d7,.any (stars H)]) (fun h hh=>hput h (by rw [hq'];exact Ent.out (by show Ent _ (rX qb (.pointer (some ⟨qvb,0,none⟩)) qad qz qcd::vB qvb qvn qva qvc::vR qvn qva qvc (xorV ql vl)::rD qad qz qcd (xorL qd d7)::[.any (mrows (Q.set j none)),mB bm qvn qz ar cr k,mR qvn ar cr M,rX b7 (.pointer (some ⟨vb,0,none⟩)) ad7 qz cd7,vB vb qvn va vc,vR qvn va vc vl,rD ad7 qz cd7 d7,.any (stars H)]);exact ent) h hh)) ?_
    refine a0Q (j+1,Q.set j (some q')) ⟨?_,hPs,hn2.symm,hQk'⟩ ?_ cv ?_
    ·show j+1≤qvn;omega
    ·show qvn - (j+1)<qvn - j;omega
    exact ent
 ·obtain rfl:j=vn:=by omega
  have haQ:a<Q.length:=by omega
  rw [a3W hcl (by omega)] at hQv
  obtain ⟨r,hr⟩:∃ r:RD,r=⟨b7,⟨vb,j,va,vc,vl⟩,ad7,z7,cd7,d7⟩:=⟨_,rfl⟩
  have hQa:Q[a]=none:=by
   have h1:=map_get hQp haQ haM
   rw [hMa] at h1
   cases hq:Q[a] with
   | none=>rfl
   | some q=>rw [hq] at h1;cases h1
  have hPs:(M.set a (some r)).map PO=(Q.set a (some r)).map PO:=by rw [List.map_set,List.map_set,hQp]
  have hQk':MOk j z7 (Q.set a (some r)):=⟨by rw [List.length_set];exact hQl,l2,l3,l4,l5,fun r0 hr0=>by
   rcases List.mem_or_eq_of_mem_set hr0 with h|h
   ·exact hQk.ok r0 h
   ·injection h with h
    subst h
    rw [hr]
    exact ⟨⟨⟨hxl,l3⟩,hxd⟩,rfl,rfl⟩⟩
  repeat' (first|intro _|(refine a0J ?_;refine a2B (enc:=PO) (ad:=ar) (c:=cr) (xs:=M) a rfl rfl a0I l1.symm rfl haM ?_)|(refine a1N ?_;(refine a2R (ad:=ar) (c:=cr) (v:=some r) PO a rfl (by rw [hr];rfl) han rfl ?_;rw [hPs]))|(refine k_fn 145 ?_;refine a0G (b:=bm) (fun _=>at_Add64 _ bm j z7 ar cr k hk1) rfl (fun _ _=>?_))|refine wK ?_|refine wL ?_ ?_|fail)
  have hput:=mrows_put (M:=Q) (r:=r) (i:=a) (R:=[mB bm j z7 ar cr (k+1),.row 277 1 (.slice ar j cr) j ((Q.set a (some r)).map PO),.any (stars H)]) haQ hQa
  refine a2A (H2 := .any (mrows (Q.set a (some r)))::[mB bm j z7 ar cr (k+1),.row 277 1 (.slice ar j cr) j ((Q.set a (some r)).map PO),.any (stars H)]) (fun h hh=>hput h (by rw [hr];exact Ent.out (by show Ent _ (rX b7 (.pointer (some ⟨vb,0,none⟩)) ad7 z7 cd7::vB vb j va vc::vR j va vc vl::rD ad7 z7 cd7 d7::[.any (mrows Q),mB bm j z7 ar cr (k+1),.row 277 1 (.slice ar j cr) j ((Q.set a (some ⟨b7,⟨vb,j,va,vc,vl⟩,ad7,z7,cd7,d7⟩)).map PO),.any (stars H)]);rw [←hr];exact ent) h hh)) ?_
  refine a0E (Q.set a (some r)) rfl rfl rfl ⟨?_,hQk'⟩ ?_
  ·rw [List.map_set,hQv,addM,hr]
   rfl
  exact ent
theorem elim_Add_old (H:List Hl) (bm n z:Nat) (ar:Option Addr) (cr k:Nat) (M:List (Option RD)) (v:VD) (ad0:Option Addr) (m0 c0:Nat) (dd:List (BitVec 8)) (ML:List (Option LN)) (x:LN) (hM:RdM (stars H) bm n z ar cr k M) (hML:M.map vw=ML) (hv:RdV (stars H) v) (hvn:v.n=n) (hd:Rs (stars H) B ad0 c0 dd) (hm0:m0=dd.length) (hdl:dd.length=z) (hx:red ML (v.l,dd)=x) (hfa:firstV x.1 = -1) (ht:TabF (stars H)) :
  Spec Tryz.prog 168 [.pointer (some ⟨bm,0,none⟩),Pv v,.slice ad0 m0 c0] H (fun _:Unit=>True) (fun _ => .bool false) (fun _=>H):=by
 refine sP (res:=fun _=>[]) H Tryz.func168 Tryz.ntmps168 fun W=>?_
 have hLk:=hM.ok.vw
 have hvl:v.l.length=n:=by rw [hv.ok.len,hvn]
 rw [hML] at hLk
 obtain ⟨hxl,hxd⟩:x.1.length=n∧x.2.length=z:=by rw [←hx];exact a5V hLk hvl hdl _
 have hpadf:=padD_full hdl
 have l3:=hM.ok.n2
 have m2:=hM.fz
 obtain ⟨xl,xd⟩:=x
 dsimp only at hxl hxd hfa
 repeat' (first|intro _|refine a0S rfl rfl ?_|(refine a0K ?_;refine a0L rfl m2 ?_)|(refine a0D .neq ?_;refine a2E rfl rfl (by omega) ?_)|(refine k_fn 197 ?_;(refine a0A (fun _=>b0L _ bm n z ar cr k M v ad0 m0 c0 dd hM.up hv.up hvn hd.up hm0 (by omega)) rfl (fun ⟨b7,⟨vb,vn,va,vc,vl⟩,ad7,z7,cd7,d7⟩ hr=>?_);dsimp only at hr ⊢;obtain ⟨rfl,rfl,hr3⟩:=hr;rw [hML,hpadf,hx] at hr3;obtain ⟨rfl,rfl⟩:=Prod.mk.inj hr3))|(refine k_fn 198 ?_;refine a0A (fun hh=>(b5Q _ ⟨vb,vn,va,vc,vl⟩ (RdV.own hxl l3 hh) ht.up).vv (b:=I (-1)) (by rw [hfa])) rfl (fun _ _=>?_))|refine wK ?_|refine wL ?_ ?_|fail)
 refine a0E () rfl rfl rfl trivial ?_
 exact ent
theorem clone_C (H:List Hl) (ad:Option Addr) (c m:Nat) (l:List (BitVec 8)) (h:Rs (stars H) B ad c l) (hm:m=l.length) (hb:m≤1000) :
  Spec Tryz.prog 29 [.slice ad m c] H (fun _:Option Addr × Nat=>True) (fun r => .slice r.1 m r.2) (fun r => .row 5 1 (.slice r.1 m r.2) m (l.map B)::H):=by
 refine sP (res:=fun r:Option Addr × Nat=>[.row 5 1 (.slice r.1 m r.2) m (l.map B)]) H Tryz.func29 Tryz.ntmps29 fun W=>?_
 cases ad with
 | none =>
  have hl:l=[]:=by
   cases l with
   | nil=>rfl
   | cons a l=>obtain ⟨x,hx⟩:=h.sm (by simp);cases hx
  subst hl
  subst hm
  repeat' (first|intro _|refine wK ?_|refine wL ?_ ?_|fail)
  refine (a2A (a1A 5 B) ?_)
  refine a0E (none,0) rfl rfl rfl trivial ?_
  exact ent
 | some a =>
  repeat' (first|intro _|(refine a0P ?_;refine a0O B ([]:List (BitVec 8)) rfl rfl rfl (fun _=>rfl) rfl rfl rfl (fun _=>?_))|(refine a1S ?_;refine a2C (enc:=B) (xs:=([]:List (BitVec 8))) rfl rfl rfl rfl (a3Q h) hm rfl (fun _=>rfl) (by omega) (by omega) (fun _ _=>?_))|refine wK ?_|refine wL ?_ ?_|fail)
  refine a0E (_,_) rfl rfl (by simp only [Nat.zero_add];rfl) trivial ?_
  simp only [Nat.zero_add,List.nil_append]
  exact ent
theorem elim_Solve (H:List Hl) (bm n z:Nat) (ar:Option Addr) (cr:Nat) (M:List (Option RD)) (R:List RD) (hM:RdM (stars H) bm n z ar cr n M) (hR:M=R.map some) :
  Spec Tryz.prog 201 [.pointer (some ⟨bm,0,none⟩)] H (fun r:Option Addr × Nat × List (SlD (BitVec 8))=>r.2.2.map (·.l)=R.map (·.d)) (fun r => .slice r.1 r.2.2.length r.2.1)
   (fun r => .row 22 1 (.slice r.1 r.2.2.length r.2.1) r.2.2.length (r.2.2.map Bs) :: .any (pcs 5 r.2.2)::H):=by
 refine sP (res:=fun r:Option Addr × Nat × List (SlD (BitVec 8))=>[.row 22 1 (.slice r.1 r.2.2.length r.2.1) r.2.2.length (r.2.2.map Bs),.any (pcs 5 r.2.2)]) H Tryz.func201 Tryz.ntmps201 fun W=>?_
 obtain ⟨l1,l2,l3,l4,l5,l6⟩:=hM.ok
 have m3:=hM.fs
 have hRl:R.length=n:=by rw [←l1,hR,List.length_map]
 repeat' (first|intro _|(refine k_fn 217 ?_;refine a0A (fun _=>(elim_Full _ bm n n (cl_up hM.fk) (cl_up hM.fn)).bv (b:=true) (by simp)) rfl (fun _ _=>?_))|(refine a0K ?_;refine a0L rfl m3 ?_)|refine wK ?_|refine wL ?_ ?_|fail)
 refine a3J (a1A 22 Bs) (a3J (fun h hh=>b4Y h (c0U (T:=5) h hh)) ?_)
 refine a0Y (S:=Nat × Option Addr × Nat × List (SlD (BitVec 8))) (fun q=>[(3,.slice q.2.1 q.2.2.2.length q.2.2.1),(12,.slice ar n cr),(13,I n),(14,I q.1)])
  (fun q=>[.row 22 1 (.slice q.2.1 q.2.2.2.length q.2.2.1) q.2.2.2.length (q.2.2.2.map Bs),.any (pcs 5 q.2.2.2),.any (stars H)])
  (fun q=>q.1≤n∧q.2.2.2.map (·.l)=(R.map (·.d)).take q.1) (fun q=>n - q.1) (0,none,0,[]) ⟨by omega,rfl⟩
  cv ent ?_
 rintro ⟨i,a1,c1,out⟩ ⟨hi,hout⟩
 dsimp only at hi hout ⊢
 have hol:out.length=i:=by have:=congrArg List.length hout;simp at this;omega
 by_cases hlt:i<n
 ·have hiM:i<M.length:=by omega
  have hiR:i<R.length:=by omega
  obtain ⟨r,hr⟩:∃ r,R[i]=r:=⟨_,rfl⟩
  have hMi:M[i]=some r:=by subst hR;simp [hr]
  have hrm:some r∈M:=hMi ▸ List.getElem_mem hiM
  have hrr:=hM.fm r hrm
  obtain ⟨hr1,hr2,hr3⟩:=l6 r hrm
  have hrs:=hrr.s
  have hrd:=hrr.d
  have hrz:r.z=r.d.length:=hrr.z.symm
  have hrz2:r.z≤16:=by omega
  repeat' (first|intro _|(refine a0J ?_;refine o1_ia (ad:=ar) (c:=cr) i rfl rfl hM.fr l1.symm rfl hiM ?_)|(refine a0K ?_;first|(refine a1F (ad:=ar) (c:=cr) i rfl hM.fr hiM ?_;rw [hMi])|refine a0L rfl hrs ?_)|(refine k_fn 29 ?_;(refine a0A (fun _=>clone_C _ r.ad r.cd r.z r.d (Rs.up hrd) hrz (by omega)) rfl (fun ⟨a5,c5⟩ _=>?_);dsimp only;rw [hrz]))|(refine a0P ?_;refine a0O Bs [(⟨a5,c5,r.d⟩:SlD (BitVec 8))] rfl rfl rfl (fun _=>rfl) rfl rfl rfl (fun _=>?_))|(refine a1S ?_;refine a1H (xs:=out) (ys:=[(⟨a5,c5,r.d⟩:SlD (BitVec 8))]) rfl rfl (a2H rfl (by decide)) rfl rfl (fun _=>rfl) (by omega) (by omega) (fun a9 c9=>?_))|refine wK ?_|refine wL ?_ ?_|fail)
  obtain ⟨u,hu⟩:∃ u:SlD (BitVec 8),u=⟨a5,c5,r.d⟩:=⟨_,rfl⟩
  refine b9G (T:=5) (ls:=out) (s:=u) (R:=[.row 22 1 (.slice a9 (out.length+1) c9) (out.length+1) ((out++[u]).map Bs),.any (stars H)]) (by rw [hu];exact ent) ?_
  refine a0Q (i+1,a9,c9,out++[u]) ⟨?_,?_⟩ ?_ (a0R rfl ?_ cv) ?_
  ·show i+1≤n;omega
  ·show (out++[u]).map (·.l)=_
   rw [List.map_append,hout,List.take_succ_eq_append_getElem (by rw [List.length_map];exact hiR),hu]
   simp [hr]
  ·show n - (i+1)<n - i;omega
  ·show Value.slice a9 _ c9=Value.slice a9 (out++[u]).length c9
   rw [List.length_append];rfl
  ·show Ent _ [.row 22 1 (.slice a9 (out++[u]).length c9) (out++[u]).length ((out++[u]).map Bs),.any (pcs 5 (out++[u])),.any (stars H)]
   rw [List.length_append,List.length_singleton]
   exact ent
 ·have:i=n:=by omega
  subst this
  repeat' (first|intro _|refine wK ?_|refine wL ?_ ?_|fail)
  refine a0E (a1,c1,out) rfl rfl rfl ?_ ?_
  ·show out.map (·.l)=_
   rw [hout,List.take_of_length_le (by rw [List.length_map];omega)]
  exact ent
end Go.Dp
