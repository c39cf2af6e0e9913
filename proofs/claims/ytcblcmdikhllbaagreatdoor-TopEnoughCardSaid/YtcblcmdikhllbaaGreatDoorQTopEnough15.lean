/-
  Downpour, walked and proved: part 15.
  Conditions: those that stand in each theorem.
-/
import Derived.Test.YtcblcmdikhllbaaGreatDoorQTopEnough3
import Derived.Test.YtcblcmdikhllbaaGreatDoorQTopEnough14
import Derived.Test.YtcblcmdikhllbaaGreatDoorQTopEnough5
import Derived.Test.YtcblcmdikhllbaaGreatDoorQTopEnough11
import Derived.Test.YtcblcmdikhllbaaGreatDoorQTopEnough8
set_option linter.unusedVariables false
set_option linter.unusedSimpArgs false
set_option maxHeartbeats 64000000
namespace Go.Dp
open Go.RowKit Go.Proofs
def rtE4_0:List Row:=[tR 62 [] [],tR 63 [] [],⟨none,[1],[1],none⟩,tR 64 [0,1,2] [0,1,2],⟨none,[3,0,2,0,1,2],[0,1,2,3],none⟩]
def errOf (x:StD) (m:ManD):Int :=
 if x.may=false then 1 else if m.may=false then 1 else if 0<x.t then 12 else if x.on=true∧x.m.same m=true then 8 else if x.newer m.v=false then 6 else if 4294967294≤x.g.toNat then 9 else 0
theorem ss_Admit_no (H:List Hl) (x:StD) (m:ManD) (hx:Rs (stars H) B x.m.h.ad x.m.h.cap x.m.h.l) (hm:Rs (stars H) B m.h.ad m.h.cap m.h.l) (hne:errOf x m≠0) :
  Spec Tryz.prog 74 [x.V,m.V] H (fun _:Unit=>True) (fun _ => .tuple #[zS.V,I (errOf x m)]) (fun _=>H):=by
 refine sP (res:=fun _=>[]) H Tryz.func74 Tryz.ntmps74 fun W=>?_
 obtain ⟨a,t,f,g,s0,s1,on,n⟩:=x
 have hn:Rs (stars H) B n.h.ad n.h.cap n.h.l:=hx
 cases h1:(StD.mk a t f g s0 s1 on n).may
 ·have he:errOf (StD.mk a t f g s0 s1 on n) m=1:=by simp [errOf,h1]
  rw [he]
  dsimp only [StD.V,StD.c]
  repeat' (first|intro _|(refine k_fn 97 ?_;refine a0A (fun _=>(a4D _ ⟨a,t,f,g,s0,s1,_,n⟩).bv (b:=false) h1) rfl (fun _ _=>?_))|refine wK ?_|refine wL ?_ ?_|fail)
  refine a0N () rfl rfl rfl rfl rfl trivial ?_
  exact ent
 cases h2:m.may
 ·have he:errOf (StD.mk a t f g s0 s1 on n) m=1:=by simp [errOf,h1,h2]
  rw [he]
  dsimp only [StD.V,StD.c]
  repeat' (first|intro _|(refine k_fn 97 ?_;refine a0A (fun _=>(a4D _ ⟨a,t,f,g,s0,s1,_,n⟩).bv (b:=true) h1) rfl (fun _ _=>?_))|(refine k_fn 57 ?_;refine a0A (fun _=>(a8M _ m).bv (b:=false) h2) rfl (fun _ _=>?_))|refine wK ?_|refine wL ?_ ?_|fail)
  refine a0N () rfl rfl rfl rfl rfl trivial ?_
  exact ent
 by_cases h3:0<t
 ·have he:errOf (StD.mk a t f g s0 s1 on n) m=12:=by simp [errOf,h1,h2,h3]
  rw [he]
  dsimp only [StD.V,StD.c]
  repeat' (first|intro _|(refine k_fn 97 ?_;refine a0A (fun _=>(a4D _ ⟨a,t,f,g,s0,s1,_,n⟩).bv (b:=true) h1) rfl (fun _ _=>?_))|(refine k_fn 57 ?_;refine a0A (fun _=>(a8M _ m).bv (b:=true) h2) rfl (fun _ _=>?_))|refine wK ?_|refine wL ?_ ?_|fail)
  refine a0N () rfl rfl rfl rfl rfl trivial ?_
  exact ent
 cases on with
 | true =>
  cases h4:n.same m with
  | true =>
   have he:errOf (StD.mk a t f g s0 s1 true n) m=8:=by simp [errOf,h1,h2,h3,h4]
   rw [he]
   dsimp only [StD.V,StD.c]
   repeat' (first|intro _|(refine k_fn 97 ?_;refine a0A (fun _=>(a4D _ ⟨a,t,f,g,s0,s1,_,n⟩).bv (b:=true) h1) rfl (fun _ _=>?_))|(refine k_fn 57 ?_;refine a0A (fun _=>(a8M _ m).bv (b:=true) h2) rfl (fun _ _=>?_))|(refine k_fn 117 ?_;refine a0A (fun _=>(b6M _ n m hn.up hm.up).bv (b:=true) h4) rfl (fun _ _=>?_))|refine wK ?_|refine wL ?_ ?_|fail)
   refine a0N () rfl rfl rfl rfl rfl trivial ?_
   exact ent
  | false =>
   cases h5:(StD.mk a t f g s0 s1 true n).newer m.v
   ·have he:errOf (StD.mk a t f g s0 s1 true n) m=6:=by simp [errOf,h1,h2,h3,h5,h4]
    rw [he]
    dsimp only [StD.V,StD.c]
    repeat' (first|intro _|(refine k_fn 97 ?_;refine a0A (fun _=>(a4D _ ⟨a,t,f,g,s0,s1,_,n⟩).bv (b:=true) h1) rfl (fun _ _=>?_))|(refine k_fn 57 ?_;refine a0A (fun _=>(a8M _ m).bv (b:=true) h2) rfl (fun _ _=>?_))|(refine k_fn 117 ?_;refine a0A (fun _=>(b6M _ n m hn.up hm.up).bv (b:=false) h4) rfl (fun _ _=>?_))|(refine k_fn 118 ?_;refine a0A (fun _=>(b2M _ ⟨a,t,f,g,s0,s1,_,n⟩ m.v).bv (b:=false) h5) rfl (fun _ _=>?_))|refine wK ?_|refine wL ?_ ?_|fail)
    refine a0N () rfl rfl rfl rfl rfl trivial ?_
    exact ent
   ·by_cases h6:4294967294≤g.toNat
    ·have he:errOf (StD.mk a t f g s0 s1 true n) m=9:=by simp [errOf,h1,h2,h3,h5,h6,h4]
     rw [he]
     dsimp only [StD.V,StD.c]
     repeat' (first|intro _|(refine k_fn 97 ?_;refine a0A (fun _=>(a4D _ ⟨a,t,f,g,s0,s1,_,n⟩).bv (b:=true) h1) rfl (fun _ _=>?_))|(refine k_fn 57 ?_;refine a0A (fun _=>(a8M _ m).bv (b:=true) h2) rfl (fun _ _=>?_))|(refine k_fn 117 ?_;refine a0A (fun _=>(b6M _ n m hn.up hm.up).bv (b:=false) h4) rfl (fun _ _=>?_))|(refine k_fn 118 ?_;refine a0A (fun _=>(b2M _ ⟨a,t,f,g,s0,s1,_,n⟩ m.v).bv (b:=true) h5) rfl (fun _ _=>?_))|refine wK ?_|refine wL ?_ ?_|fail)
     refine a0N () rfl rfl rfl rfl rfl trivial ?_
     exact ent
    ·exact absurd (by simp [errOf,h1,h2,h3,h5,h4];omega) hne
 | false =>
  cases h5:(StD.mk a t f g s0 s1 false n).newer m.v
  ·have he:errOf (StD.mk a t f g s0 s1 false n) m=6:=by simp [errOf,h1,h2,h3,h5]
   rw [he]
   dsimp only [StD.V,StD.c]
   repeat' (first|intro _|(refine k_fn 97 ?_;refine a0A (fun _=>(a4D _ ⟨a,t,f,g,s0,s1,_,n⟩).bv (b:=true) h1) rfl (fun _ _=>?_))|(refine k_fn 57 ?_;refine a0A (fun _=>(a8M _ m).bv (b:=true) h2) rfl (fun _ _=>?_))|(refine k_fn 118 ?_;refine a0A (fun _=>(b2M _ ⟨a,t,f,g,s0,s1,_,n⟩ m.v).bv (b:=false) h5) rfl (fun _ _=>?_))|refine wK ?_|refine wL ?_ ?_|fail)
   refine a0N () rfl rfl rfl rfl rfl trivial ?_
   exact ent
  ·by_cases h6:4294967294≤g.toNat
   ·have he:errOf (StD.mk a t f g s0 s1 false n) m=9:=by simp [errOf,h1,h2,h3,h5,h6]
    rw [he]
    dsimp only [StD.V,StD.c]
    repeat' (first|intro _|(refine k_fn 97 ?_;refine a0A (fun _=>(a4D _ ⟨a,t,f,g,s0,s1,_,n⟩).bv (b:=true) h1) rfl (fun _ _=>?_))|(refine k_fn 57 ?_;refine a0A (fun _=>(a8M _ m).bv (b:=true) h2) rfl (fun _ _=>?_))|(refine k_fn 118 ?_;refine a0A (fun _=>(b2M _ ⟨a,t,f,g,s0,s1,_,n⟩ m.v).bv (b:=true) h5) rfl (fun _ _=>?_))|refine wK ?_|refine wL ?_ ?_|fail)
    refine a0N () rfl rfl rfl rfl rfl trivial ?_
    exact ent
   ·exact absurd (by simp [errOf,h1,h2,h3,h5];omega) hne
def admitS (x:StD) (m:ManD) (r0 r1 r2:Option Addr × Nat):StD:=⟨x.a,x.t,x.f,x.g+1#32,⟨x.s0.v,x.s0.n,⟨r0.1,r0.2,x.s0.h.l⟩⟩,⟨x.s1.v,x.s1.n,⟨r1.1,r1.2,x.s1.h.l⟩⟩,true,⟨m.s,m.v,m.n,m.z,m.p,⟨r2.1,r2.2,m.h.l⟩⟩⟩
theorem ss_Admit_ok (H:List Hl) (x:StD) (m:ManD) (hx:Rs (stars H) B x.m.h.ad x.m.h.cap x.m.h.l) (hm:Rs (stars H) B m.h.ad m.h.cap m.h.l) (hx0:Rs (stars H) B x.s0.h.ad x.s0.h.cap x.s0.h.l) (hx1:Rs (stars H) B x.s1.h.ad x.s1.h.cap x.s1.h.l)
  (hl:x.light∧m.h.l.length≤100) (he:errOf x m=0) :
  Spec Tryz.prog 74 [x.V,m.V] H (fun _:(Option Addr × Nat) × (Option Addr × Nat) × (Option Addr × Nat)=>True) (fun r => .tuple #[(admitS x m r.1 r.2.1 r.2.2).V,I 0])
   (fun r => .row 5 1 (.slice r.1.1 x.s0.h.l.length r.1.2) x.s0.h.l.length (x.s0.h.l.map B) :: .row 5 1 (.slice r.2.1.1 x.s1.h.l.length r.2.1.2) x.s1.h.l.length (x.s1.h.l.map B) :: .row 5 1 (.slice r.2.2.1 m.h.l.length r.2.2.2) m.h.l.length (m.h.l.map B)::H):=by
 refine sP (res:=fun r:(Option Addr × Nat) × (Option Addr × Nat) × (Option Addr × Nat)=>[.row 5 1 (.slice r.1.1 x.s0.h.l.length r.1.2) x.s0.h.l.length (x.s0.h.l.map B),.row 5 1 (.slice r.2.1.1 x.s1.h.l.length r.2.1.2) x.s1.h.l.length (x.s1.h.l.map B),.row 5 1 (.slice r.2.2.1 m.h.l.length r.2.2.2) m.h.l.length (m.h.l.map B)]) H Tryz.func74 Tryz.ntmps74 fun W=>?_
 obtain ⟨a,t,f,g,s0,s1,on,n⟩:=x
 have hn:Rs (stars H) B n.h.ad n.h.cap n.h.l:=hx
 obtain ⟨⟨q0,q1,q2⟩,q3⟩:=hl
 dsimp only at hx0 hx1 q0 q1 q2
 cases h1:(StD.mk a t f g s0 s1 on n).may
 ·simp [errOf,h1] at he
 cases h2:m.may
 ·simp [errOf,h1,h2] at he
 by_cases h3:0<t
 ·simp [errOf,h1,h2,h3] at he
 cases h5:(StD.mk a t f g s0 s1 on n).newer m.v
 ·by_cases hc:on=true∧n.same m=true
  ·obtain ⟨rfl,hc⟩:=hc
   simp [errOf,h1,h2,h3,hc] at he
  ·simp only [errOf,h1,h2,h3,h5,hc] at he
   simp at he
 have h4:on=true→n.same m=false:=by
  intro ho
  subst ho
  cases h4:n.same m
  ·rfl
  ·simp [errOf,h1,h2,h3,h4] at he
 have h6 : ¬ 4294967294≤g.toNat:=by
  intro h6
  cases on
  ·simp [errOf,h1,h2,h3,h5,h6] at he
  ·simp [errOf,h1,h2,h3,h5,h6,h4 rfl] at he
 clear he
 dsimp only [StD.V,StD.c]
 cases on
 all_goals
  repeat' (first|intro _|(refine k_fn 97 ?_;refine a0A (fun _=>(a4D _ ⟨a,t,f,g,s0,s1,_,n⟩).bv (b:=true) h1) rfl (fun _ _=>?_))|(refine k_fn 57 ?_;refine a0A (fun _=>(a8M _ m).bv (b:=true) h2) rfl (fun _ _=>?_))|(refine k_fn 117 ?_;refine a0A (fun _=>(b6M _ n m hn.up hm.up).bv (b:=false) (h4 rfl)) rfl (fun _ _=>?_))|(refine k_fn 118 ?_;refine a0A (fun _=>(b2M _ ⟨a,t,f,g,s0,s1,_,n⟩ m.v).bv (b:=true) h5) rfl (fun _ _=>?_))|refine wK ?_|refine wL ?_ ?_|fail)
  refine a2O 2 ?_
  repeat' (first|intro _|(refine a0J ?_;first|refine a1C 0 4 rfl rfl rfl (by decide) rfl ?_|refine a1C 1 7 rfl rfl rfl (by decide) rfl ?_)|(refine k_fn 29 ?_;first|(refine a0A (fun _=>a1B _ _ _ s0.h.l hx0.up (by omega)) rfl (fun ⟨a5,c5⟩ _=>?_);dsimp only)|(refine a0A (fun _=>a1B _ _ _ s1.h.l hx1.up (by omega)) rfl (fun ⟨a6,c6⟩ _=>?_);dsimp only))|refine wK ?_|refine wL ?_ ?_|fail)
  all_goals
   repeat' (first|intro _|(refine a0D .add ?_;refine a8F (v:=1#32) rfl rfl ?_)|refine wK ?_|refine wL ?_ ?_|fail)
  refine a0H [(3,_),(2,_)] rtE4_0 [2,4] [⟨[0,1],[],some 2⟩,⟨[3],[0],some 4⟩,⟨[],[],none⟩] mixed cv (by kernel_rfl) (by kernel_rfl) ?_
  repeat' (first|intro _|refine sg ?_|refine pw ?_|refine pdd ?_|refine ow ?_|fail)
  all_goals dsimp only [cA,nA]
  repeat' (first|intro _|(refine k_fn 29 ?_;(refine a0A (fun _=>a1B _ _ _ m.h.l hm.up (by omega)) rfl (fun ⟨a7,c7⟩ _=>?_);dsimp only))|refine wK ?_|refine wL ?_ ?_|fail)
  refine a0N (⟨a5,c5⟩,⟨a6,c6⟩,⟨a7,c7⟩) rfl rfl rfl rfl rfl trivial ?_
  exact ent
theorem b3P {x:StD} {m:ManD} {r0 r1 r2:Option Addr × Nat} (h:x.may=true) (hm:m.may=true):(admitS x m r0 r1 r2).may=true:=by
 simp only [StD.may,Bool.and_eq_true,Bool.or_eq_true,decide_eq_true_eq] at h ⊢
 refine ⟨⟨⟨h.1.1.1,?_⟩,?_⟩,hm⟩
 ·have h1:=h.1.1.2
  unfold StD.cur at h1 ⊢
  by_cases ha:x.a=0
  ·rw [if_pos ha] at h1;rw [if_pos (show (admitS x m r0 r1 r2).a=0 from ha)];exact h1
  ·rw [if_neg ha] at h1;rw [if_neg (show ¬ (admitS x m r0 r1 r2).a=0 from ha)];exact h1
 ·have h1:=h.1.2
  unfold StD.oth at h1 ⊢
  by_cases ha:x.a=0
  ·rw [if_pos ha] at h1;rw [if_pos (show (admitS x m r0 r1 r2).a=0 from ha)];exact h1
  ·rw [if_neg ha] at h1;rw [if_neg (show ¬ (admitS x m r0 r1 r2).a=0 from ha)];exact h1
open Go.RowKit Go.Proofs Sha
def c0P:List Row:=[tR 22 [] [],tR 23 [0] [0],tR 24 [1] [0,1],tR 25 [2] [0,1,2],tR 26 [3] [0,1,2,3],tR 27 [4] (rG 5),tR 28 [5] (rG 6),tR 29 [] [],tR 30 [6,7,3] (rG 8),tR 21 [8] (rG 9),tR 31 [9] (rG 10),tR 32 [9] (rG 10),tR 7 [] [],⟨none,[12,10,8,0,1,2,3,4,5,6,7,8,9,10,12],[0,1,2,3,4,5,6,7,8,9,10,12],none⟩,tR 6 [11,13,0,1,2,3,4,5,6,7,8,9,10,11,12,13] (rG 14)]
theorem a1Q {H H1 H2:List Hl} (db fb:Nat) (ka:Option Addr) (kn kc:Nat) (mb:Nat) (x:StD) (lp:Option Addr) [s1:SBox H db 78 [.slice ka kn kc,.pointer (some ⟨fb,0,none⟩),.pointer (pM mb)] H1] [s2:SBox H mb 84 [I x.a,I x.t,W4 x.f,W4 x.g,W4 x.s0.v,I x.s0.n,Bs x.s0.h,W4 x.s1.v,I x.s1.n,Bs x.s1.h,.bool x.on,W4 x.m.s,W4 x.m.v,I x.m.n,I x.m.z,I x.m.p,Bs x.m.h,.pointer lp] H2] :
  Spec Tryz.prog 33 [.pointer (some ⟨db,2,none⟩)] H (fun _:Unit=>True) (fun _ => .pointer (some ⟨mb,0,none⟩)) (fun _=>H):=dp_Load H H1 H2 db 2 _ _ mb _ rfl rfl
theorem dv_hears_no (H:List Hl) (db fb:Nat) (ka:Option Addr) (key:List (BitVec 8)) (kc:Nat) (mb:Nat) (x:StD) (lp:Option Addr) (ad2:Option Addr) (m2 c2:Nat) (b:List (BitVec 8)) (m:ManD) (e:Int) (hkey:Rs (stars H) B ka kc key) (hkl:key.length≤300) (hb:Rs (stars H) B ad2 c2 b) (hm2:m2=b.length) (hpr:prM key b=(m,0)) (hx:x.Rd (stars H)) (he:errOf x m=e) (hne:e≠0) :
  Spec Tryz.prog 36 [.pointer (some ⟨db,0,none⟩),.slice ad2 m2 c2] (dvB db fb ka key.length kc (pM mb)::meB mb x lp::H) (fun _:Unit=>True) (fun _=>I e) (fun _=>dvB db fb ka key.length kc (pM mb)::meB mb x lp::H):=by
 subst hm2
 refine sF (res:=fun _:Unit=>[dvB db fb ka key.length kc (pM mb),meB mb x lp]) [dvB db fb ka key.length kc (pM mb),meB mb x lp] H Tryz.func36 Tryz.ntmps36 fun W=>?_
 dsimp only [cA,nA]
 have hk0:RdS (stars H) x.m.h:=hx.m
 repeat' (first|intro _|(refine a0K ?_;refine a0F (b:=db) (i:=0) rfl rfl ?_)|(refine k_fn 73 ?_;(refine a0A (fun _=>b9I _ ka ad2 kc c2 key b hkey.up hb.up hkl (m,0) hpr) rfl (fun r1 _=>?_);(try dsimp only)))|(refine a1O ?_;refine a1D rfl (fun b5=>?_))|refine wK ?_|refine wL ?_ ?_|fail)
 refine a0H [(0,_),(5,_)] c0P [12,13] [⟨[0,1,2,3,4,5,6,7,8,9,10,11],[],some 12⟩,⟨[],[0,1,2,3,4,5,6,7,8,9,10,11],some 13⟩,⟨[14],[11],none⟩] mixed cv (by kernel_rfl) (by kernel_rfl) ?_
 repeat' (first|intro _|refine sg ?_|(refine p_fn 33 ?_;refine po (by first|refine a0A (fun _=>a1Q db fb ka key.length kc mb x lp) rfl (fun _ _=>fz)|fail) ?_)|(refine p_fn 74 ?_;refine po (by first|((refine a0A (fun hh=>ss_Admit_no _ x (setM m r1) hk0.up (a0I (T:=5) (ad:=r1.1) (c:=r1.2) (l:=m.h.l) hh) (show errOf x m≠0 by rw [he];exact hne)) rfl (fun _ _=>?_);rw [show errOf x (setM m r1)=e from he]);all_goals exact fz)|fail) ?_)|refine pw ?_|refine pdd ?_|(refine a1O ?_;refine a1D rfl (fun b7=>?_))|refine ow ?_|fail)
 all_goals dsimp only [cA,nA]
 repeat' (first|intro _|(refine a0D .neq ?_;refine a3R rfl rfl hne ?_)|refine wK ?_|refine wL ?_ ?_|fail)
 refine a0E () rfl rfl rfl trivial ?_
 exact ent
theorem dv_hears (H:List Hl) (db fb:Nat) (ka:Option Addr) (key:List (BitVec 8)) (kc:Nat) (mb:Nat) (ad:Option Addr) (c:Nat) (f f1:Fl) (h:Hid) (x:StD) (lp:Option Addr) (ad2:Option Addr) (m2 c2:Nat) (b:List (BitVec 8)) (m:ManD) (p:Prm) (len:Nat) (V:BitVec 32→List Bool)
  (hkey:Rs (stars H) B ka kc key) (hkl:key.length≤300) (hb:Rs (stars H) B ad2 c2 b) (hm2:m2=b.length) (hpr:prM key b=(m,0)) (hx:x.Rd (stars H)) (hmx:x.may=true) (hmm:m.may=true) (he:errOf x m=0) (hk:FlOk f h) (hd:f.pw.isDown=false) (hp:IsP m p len) (ht:TabF (stars H)) (hW:cellW f (admitS x m (none,0) (none,0) (none,0)).by=(f1,0)) (hd1:f1.pw.isDown=false) (hV:∀ r∈recsW f1.bs (x.g+1#32) p.z 8,SpRow p r.1 (V r.1)) :
  Spec Tryz.prog 36 [.pointer (some ⟨db,0,none⟩),.slice ad2 m2 c2] (dvB db fb ka key.length kc (pM mb)::meB mb x lp::fB fb ad c f h::fR ad c f::H) (fun r:Hid × (Nat × Nat) × PA × PA × PA=>FlOk f1 r.1) (fun _=>I 0)
   (fun r=>dvB db fb ka key.length kc (pM r.2.1.1)::meB r.2.1.1 (admitS x m r.2.2.1 r.2.2.2.1 r.2.2.2.2) (some ⟨r.2.1.2,0,none⟩) :: .any (stP (openS p (x.g+1#32) len V f1.bs) fb r.2.1.2)::fB fb ad c f1 r.1::fR ad c f1::rowL r.2.2.1 x.s0.h.l::rowL r.2.2.2.1 x.s1.h.l::rowL r.2.2.2.2 m.h.l::H):=by
 subst hm2
 refine sF (res:=fun r:Hid × (Nat × Nat) × PA × PA × PA=>[dvB db fb ka key.length kc (pM r.2.1.1),meB r.2.1.1 (admitS x m r.2.2.1 r.2.2.2.1 r.2.2.2.2) (some ⟨r.2.1.2,0,none⟩),.any (stP (openS p (x.g+1#32) len V f1.bs) fb r.2.1.2),fB fb ad c f1 r.1,fR ad c f1,rowL r.2.2.1 x.s0.h.l,rowL r.2.2.2.1 x.s1.h.l,rowL r.2.2.2.2 m.h.l]) [dvB db fb ka key.length kc (pM mb),meB mb x lp,fB fb ad c f h,fR ad c f] H Tryz.func36 Tryz.ntmps36 fun W=>?_
 dsimp only [cA,nA]
 have hk0:RdS (stars H) x.m.h:=hx.m
 have hk1:RdS (stars H) x.s0.h:=hx.s0
 have hk2:RdS (stars H) x.s1.h:=hx.s1
 have hlt:x.light:=a7P hmx
 have hml:m.h.l.length≤100:=by have:=(man_mayM hmm).2.2;omega
 have hmay:∀ r0 r1 r2,(admitS x m r0 r1 r2).may=true:=fun _ _ _=>b3P hmx hmm
 repeat' (first|intro _|(refine a0K ?_;refine a0F (b:=db) (i:=0) rfl rfl ?_)|(refine k_fn 73 ?_;(refine a0A (fun _=>b9I _ ka ad2 kc c2 key b hkey.up hb.up hkl (m,0) hpr) rfl (fun r1 _=>?_);(try dsimp only)))|(refine a1O ?_;refine a1D rfl (fun b5=>?_))|refine wK ?_|refine wL ?_ ?_|fail)
 refine a5T [(0,_),(5,_)] c0P [8,12,13] (.alt [0,1,2,3,4,5,6,7] [] 8 (.step [9,10,11] [] 12 (.step [] [9,10,11] 13 (.fin [14] [11]))) 12 (.step [] [0,1,2,3,4,5,6,7] 8 (.step [9,10,11] [] 13 (.fin [14] [11])))) mixed cv (by kernel_rfl) (by kernel_rfl) ?_
 repeat' (first|intro _|refine sg ?_|(refine p_fn 33 ?_;refine po (by first|refine a0A (fun _=>a1Q db fb ka key.length kc mb x lp) rfl (fun _ _=>fz)|fail) ?_)|refine pw ?_|refine pdd ?_|(refine k_fn 74 ?_;(refine a0A (fun hh=>ss_Admit_ok _ x (setM m r1) hk0.up (a0I (T:=5) (ad:=r1.1) (c:=r1.2) (l:=m.h.l) hh) hk1.up hk2.up ⟨hlt,hml⟩ he) rfl (fun ⟨q0,q1,q2⟩ _=>?_);(try dsimp only)))|(refine a1O ?_;refine a1D rfl (fun b7=>?_))|refine ow ?_|refine And.intro ?_ ?_|fail)
 all_goals dsimp only [cA,nA]
 ·rw [show admitS x (setM m r1) q0 q1 q2=admitS x m q0 q1 q2 from rfl,show (setM m r1).h.l=m.h.l from rfl]
  repeat' (first|intro _|refine wK ?_|refine wL ?_ ?_|fail)
  refine a0V (dvB db fb ka key.length kc (pM mb)::fB fb ad c f h::fR ad c f::[rowL q0 x.s0.h.l,rowL q1 x.s1.h.l,rowL q2 m.h.l,.box b7 51 (admitS x m q0 q1 q2).c,.any (stars H)]) (Ent.out ent) (fun hh=>b1O _ db fb ka key.length kc (pM mb) ad c f f1 h (admitS x m q0 q1 q2) none (hmay _ _ _) ⟨a0I (T:=5) (ad:=q0.1) (c:=q0.2) (l:=x.s0.h.l) (a0B (a0B (a0B hh))),a0I (T:=5) (ad:=q1.1) (c:=q1.2) (l:=x.s1.h.l) (a0B (a0B (a0B hh))),a0I (T:=5) (ad:=q2.1) (c:=q2.2) (l:=m.h.l) (a0B (a0B (a0B hh)))⟩ hk hd hW) rfl (fun ⟨h1,mb1⟩ hk1=>?_)
  dsimp only at hk1 ⊢
  repeat' (first|intro _|refine wK ?_|refine wL ?_ ?_|fail)
  refine a0G (b:=db) (fun hh=>b3I _ db fb ka key.length kc (pM mb1) ad c f1 (admitS x m q0 q1 q2) p len V rfl ⟨hp.ok,hp.es,hp.en,hp.ez,hp.ep,hp.ec⟩ (RdFl.own hk1 (a0B hh)) hd1 ht.up hV) rfl (fun ⟨mb2,sb2⟩ _=>?_)
  dsimp only
  repeat' (first|intro _|refine wK ?_|refine wL ?_ ?_|fail)
  refine a0E (h1,(mb2,sb2),q0,q1,q2) rfl rfl rfl hk1 ?_
  exact ent
 ·rw [show admitS x (setM m r1) q0 q1 q2=admitS x m q0 q1 q2 from rfl,show (setM m r1).h.l=m.h.l from rfl]
  repeat' (first|intro _|refine wK ?_|refine wL ?_ ?_|fail)
  refine a0V (dvB db fb ka key.length kc (pM mb)::fB fb ad c f h::fR ad c f::[rowL q0 x.s0.h.l,rowL q1 x.s1.h.l,rowL q2 m.h.l,.box b7 51 (admitS x m q0 q1 q2).c,.any (stars H)]) (Ent.out ent) (fun hh=>b1O _ db fb ka key.length kc (pM mb) ad c f f1 h (admitS x m q0 q1 q2) none (hmay _ _ _) ⟨a0I (T:=5) (ad:=q0.1) (c:=q0.2) (l:=x.s0.h.l) (a0B (a0B (a0B hh))),a0I (T:=5) (ad:=q1.1) (c:=q1.2) (l:=x.s1.h.l) (a0B (a0B (a0B hh))),a0I (T:=5) (ad:=q2.1) (c:=q2.2) (l:=m.h.l) (a0B (a0B (a0B hh)))⟩ hk hd hW) rfl (fun ⟨h1,mb1⟩ hk1=>?_)
  dsimp only at hk1 ⊢
  repeat' (first|intro _|refine wK ?_|refine wL ?_ ?_|fail)
  refine a0G (b:=db) (fun hh=>b3I _ db fb ka key.length kc (pM mb1) ad c f1 (admitS x m q0 q1 q2) p len V rfl ⟨hp.ok,hp.es,hp.en,hp.ez,hp.ep,hp.ec⟩ (RdFl.own hk1 (a0B hh)) hd1 ht.up hV) rfl (fun ⟨mb2,sb2⟩ _=>?_)
  dsimp only
  repeat' (first|intro _|refine wK ?_|refine wL ?_ ?_|fail)
  refine a0E (h1,(mb2,sb2),q0,q1,q2) rfl rfl rfl hk1 ?_
  exact ent
def b8K:List Row:=[tR 45 [] [],tR 46 [0] [0],tR 47 [1] [0,1],tR 48 [2] [0,1,2],tR 49 [] [],tR 50 [4] [4],tR 51 [] [],tR 52 [6] [6],tR 53 [3,5,7] (rG 8),tR 11 [8,8,0,1,2,3,4,5,6,7,8] (rG 9)]
theorem a3K (H:List Hl) (ad:Option Addr) (c m:Nat) (s id:BitVec 32) (x:List (BitVec 8)) (h:Rs (stars H) B ad c (symB s id x)) (hm:m=x.length+8) (h1:1≤x.length) (h2:x.length≤16) :
  Spec Tryz.prog 76 [.slice ad m c] H (fun _:Option Addr × Nat=>True) (fun r => .tuple #[.agg #[W4 s,W4 id,.slice r.1 x.length r.2],I 0]) (fun r => .row 5 1 (.slice r.1 x.length r.2) x.length (x.map B)::H):=by
 have hl:(symB s id x).length=x.length+8:=by simp [symB,be4]
 have h8:(symB s id x).take 8=be4 s++be4 id:=by simp [symB,be4]
 have hd:(symB s id x).drop 8=x:=by simp [symB,be4]
 have:=packet_Parse_ok H ad c (symB s id x) h (by omega) (by omega)
 rw [hl,h8,sym64_hi,sym64_lo,hd] at this
 rw [hm]
 exact this
theorem b6R {m:ManD} {p:Prm} {len:Nat} (h:IsP m p len):m.parL=[W4 p.s,I p.k,I p.p,I p.z]∧mayP (count m.n m.z) m.p m.z=true:=by
 have hmay:mayP (count m.n m.z) m.p m.z=true:=by rw [h.en,h.ez,h.ep,h.ec];exact h.ok
 exact ⟨by rw [ManD.parL,if_pos hmay,h.es,h.en,h.ez,h.ep,h.ec],hmay⟩
theorem dv_takes_off (H:List Hl) (db fb:Nat) (ka:Option Addr) (kn kc:Nat) (mb:Nat) (x:StD) (lp:Option Addr) (ad2:Option Addr) (m2 c2:Nat) (s id:BitVec 32) (xs:List (BitVec 8)) (hb:Rs (stars H) B ad2 c2 (symB s id xs)) (hm2:m2=xs.length+8) (hx1:1≤xs.length) (hx2:xs.length≤16) (ho:x.on=false) :
  Spec Tryz.prog 37 [.pointer (some ⟨db,0,none⟩),.slice ad2 m2 c2] (dvB db fb ka kn kc (pM mb)::meB mb x lp::H) (fun _:Unit=>True) (fun _=>I 14) (fun r=>dvB db fb ka kn kc (pM mb)::meB mb x lp::H):=by
 refine sF (res:=fun r:Unit=>[dvB db fb ka kn kc (pM mb),meB mb x lp]) [dvB db fb ka kn kc (pM mb),meB mb x lp] H Tryz.func37 Tryz.ntmps37 fun W=>?_
 dsimp only [cA,nA]
 repeat' (first|intro _|(refine k_fn 33 ?_;refine a0A (fun _=>a1Q db fb ka kn kc mb x lp) rfl (fun _ _=>?_))|(refine k_fn 76 ?_;(refine a0A (fun _=>a3K _ ad2 c2 m2 s id xs hb.up hm2 hx1 hx2) rfl (fun ⟨a18,c18⟩ _=>?_);(try dsimp only)))|(refine a1O ?_;refine a1D rfl (fun b6=>?_))|(refine a0K ?_;(refine a0F (b:=mb) (i:=10) rfl rfl ?_;rw [ho]))|refine wK ?_|refine wL ?_ ?_|fail)
 refine a0E () rfl rfl rfl trivial ?_
 exact ent
theorem dv_takes_fit (H:List Hl) (db fb:Nat) (ka:Option Addr) (kn kc:Nat) (mb:Nat) (x:StD) (lp:Option Addr) (ad2:Option Addr) (m2 c2:Nat) (s id:BitVec 32) (xs:List (BitVec 8)) (hb:Rs (stars H) B ad2 c2 (symB s id xs)) (hm2:m2=xs.length+8) (hx1:1≤xs.length) (hx2:xs.length≤16) (p:Prm) (len:Nat) (e:Int) (ho:x.on=true) (hp:IsP x.m p len) (he:fitsP p.k p.p p.z s p.s xs.length=e) (hne:e≠0) :
  Spec Tryz.prog 37 [.pointer (some ⟨db,0,none⟩),.slice ad2 m2 c2] (dvB db fb ka kn kc (pM mb)::meB mb x lp::H) (fun _:Unit=>True) (fun _=>I e) (fun r=>dvB db fb ka kn kc (pM mb)::meB mb x lp::H):=by
 refine sF (res:=fun r:Unit=>[dvB db fb ka kn kc (pM mb),meB mb x lp]) [dvB db fb ka kn kc (pM mb),meB mb x lp] H Tryz.func37 Tryz.ntmps37 fun W=>?_
 dsimp only [cA,nA]
 obtain ⟨hpar,hmay⟩:=b6R hp
 repeat' (first|intro _|(refine k_fn 33 ?_;refine a0A (fun _=>a1Q db fb ka kn kc mb x lp) rfl (fun _ _=>?_))|(refine k_fn 76 ?_;(refine a0A (fun _=>a3K _ ad2 c2 m2 s id xs hb.up hm2 hx1 hx2) rfl (fun ⟨a18,c18⟩ _=>?_);(try dsimp only)))|(refine a1O ?_;refine a1D rfl (fun b6=>?_))|(refine a0K ?_;(refine a0F (b:=mb) (i:=10) rfl rfl ?_;rw [ho]))|(refine k_fn 58 ?_;(refine a0A (fun _=>b0O _ x.m) rfl (fun _ _=>?_);rw [hpar,hmay]))|(refine k_fn 77 ?_;(refine a0A (fun _=>a7L _ s id p.s p.k p.p p.z _ _ _) rfl (fun _ _=>?_);rw [he]))|(refine a0D .neq ?_;refine a3R rfl rfl hne ?_)|refine wK ?_|refine wL ?_ ?_|fail)
 refine a0E () rfl rfl rfl trivial ?_
 exact ent
theorem dv_takes_no (H:List Hl) (db fb:Nat) (ka:Option Addr) (kn kc:Nat) (mb:Nat) (x:StD) (sb:Nat) (ad2:Option Addr) (m2 c2:Nat) (s id:BitVec 32) (xs:List (BitVec 8)) (hb:Rs (stars H) B ad2 c2 (symB s id xs)) (hm2:m2=xs.length+8) (hx1:1≤xs.length) (hx2:xs.length≤16) (ad:Option Addr) (c:Nat) (f:Fl) (h:Hid) (st:Sto) (len:Nat) (v:List Bool) (ho:x.on=true) (hp:IsP x.m st.p len) (hs:s=st.p.s) (hz:xs.length=st.p.z) (hR:RR st.p.n st.p.z st.d.M) (htk:st.d.t≤1000) (hv:SpRow st.p id v) (hk:FlOk f h) (hd:f.pw.isDown=false) (hn:st.nxt≤8*plW st.p.z) (ht:TabF (stars H)) (f1:Fl) (e:Int) (hput:putS st f id v xs=(st,f1,e)) (hne:e≠0) :
  Spec Tryz.prog 37 [.pointer (some ⟨db,0,none⟩),.slice ad2 m2 c2] (dvB db fb ka kn kc (pM mb)::meB mb x (some ⟨sb,0,none⟩) :: .any (stP st fb sb)::fB fb ad c f h::fR ad c f::H) (fun h1:Hid=>FlOk f1 h1) (fun _=>I e) (fun r=>dvB db fb ka kn kc (pM mb)::meB mb x (some ⟨sb,0,none⟩) :: .any (stP st fb sb)::fB fb ad c f1 r::fR ad c f1::H):=by
 refine sF (res:=fun r:Hid=>[dvB db fb ka kn kc (pM mb),meB mb x (some ⟨sb,0,none⟩),.any (stP st fb sb),fB fb ad c f1 r,fR ad c f1]) [dvB db fb ka kn kc (pM mb),meB mb x (some ⟨sb,0,none⟩),.any (stP st fb sb),fB fb ad c f h,fR ad c f] H Tryz.func37 Tryz.ntmps37 fun W=>?_
 dsimp only [cA,nA]
 obtain ⟨hpar,hmay⟩:=b6R hp
 have hfit:fitsP st.p.k st.p.p st.p.z s st.p.s xs.length=0:=by rw [hs];exact c1U hp.ok (by rw [hz])
 repeat' (first|intro _|(refine k_fn 33 ?_;refine a0A (fun _=>a1Q db fb ka kn kc mb x (some ⟨sb,0,none⟩)) rfl (fun _ _=>?_))|(refine k_fn 76 ?_;(refine a0A (fun _=>a3K _ ad2 c2 m2 s id xs hb.up hm2 hx1 hx2) rfl (fun ⟨a18,c18⟩ _=>?_);(try dsimp only)))|(refine a1O ?_;refine a1D rfl (fun b6=>?_))|(refine a0K ?_;(refine a0F (b:=mb) (i:=10) rfl rfl ?_;rw [ho]))|(refine k_fn 58 ?_;(refine a0A (fun _=>b0O _ x.m) rfl (fun _ _=>?_);rw [hpar,hmay]))|(refine k_fn 77 ?_;(refine a0A (fun _=>a7L _ s id st.p.s st.p.k st.p.p st.p.z _ _ _) rfl (fun _ _=>?_);rw [hfit]))|refine wK ?_|refine wL ?_ ?_|fail)
 refine a0H [(5,_),(6,_)] b8K [8] [⟨[0,1,2,3,4,5,6,7],[],some 8⟩,⟨[9],[],none⟩] mixed cv (by kernel_rfl) (by kernel_rfl) ?_
 repeat' (first|intro _|refine sg ?_|(refine a1E ?_;refine po (by first|refine a0F (b:=mb) (i:=17) rfl rfl fz|refine a0F (b:=b6) (i:=1) rfl rfl fz|refine a0F (b:=b6) (i:=2) rfl rfl fz|fail) ?_)|refine pw ?_|refine pdd ?_|(refine k_fn 78 ?_;(refine a0V (.any (stP st fb sb)::fB fb ad c f h::fR ad c f::[dvB db fb ka kn kc (pM mb),meB mb x (some ⟨sb,0,none⟩),.row 5 1 (.slice a18 xs.length c18) xs.length (xs.map B),.any (stars H)]) (Ent.out ent) (fun hh=>c1M _ st fb sb ad c f h id v a18 xs.length c18 xs hp.ok hR htk hv (a0I (T:=5) (ad:=a18) (c:=c18) (l:=xs) (a0B (a0B (a0B hh)))) rfl hz hk hd hn ht.up) rfl (fun h1 hk1=>?_);(rw [hput] at hk1 ⊢;dsimp only at hk1 ⊢)))|refine ow ?_|fail)
 all_goals dsimp only [cA,nA]
 repeat' (first|intro _|(refine a0D .neq ?_;refine a3R rfl rfl hne ?_)|refine wK ?_|refine wL ?_ ?_|fail)
 refine a0E h1 rfl rfl rfl hk1 ?_
 exact ent
theorem dv_takes (H:List Hl) (db fb:Nat) (ka:Option Addr) (kn kc:Nat) (mb:Nat) (x:StD) (sb:Nat) (ad2:Option Addr) (m2 c2:Nat) (s id:BitVec 32) (xs:List (BitVec 8)) (hb:Rs (stars H) B ad2 c2 (symB s id xs)) (hm2:m2=xs.length+8) (hx1:1≤xs.length) (hx2:xs.length≤16) (ad:Option Addr) (c:Nat) (f:Fl) (h:Hid) (st:Sto) (len:Nat) (v:List Bool) (ho:x.on=true) (hp:IsP x.m st.p len) (hs:s=st.p.s) (hz:xs.length=st.p.z) (hR:RR st.p.n st.p.z st.d.M) (htk:st.d.t≤1000) (hv:SpRow st.p id v) (hk:FlOk f h) (hd:f.pw.isDown=false) (hn:st.nxt≤8*plW st.p.z) (ht:TabF (stars H)) (f1:Fl) (st1:Sto) (hput:putS st f id v xs=(st1,f1,0)) (hp1:st1.p.ok) (hb1:cntS st1.d.M≤1000) (hnd:((st1.p.n:Int) - cntS st1.d.M)≠0) :
  Spec Tryz.prog 37 [.pointer (some ⟨db,0,none⟩),.slice ad2 m2 c2] (dvB db fb ka kn kc (pM mb)::meB mb x (some ⟨sb,0,none⟩) :: .any (stP st fb sb)::fB fb ad c f h::fR ad c f::H) (fun h1:Hid=>FlOk f1 h1) (fun _=>I 0) (fun r=>dvB db fb ka kn kc (pM mb)::meB mb x (some ⟨sb,0,none⟩) :: .any (stP st1 fb sb)::fB fb ad c f1 r::fR ad c f1::H):=by
 refine sF (res:=fun r:Hid=>[dvB db fb ka kn kc (pM mb),meB mb x (some ⟨sb,0,none⟩),.any (stP st1 fb sb),fB fb ad c f1 r,fR ad c f1]) [dvB db fb ka kn kc (pM mb),meB mb x (some ⟨sb,0,none⟩),.any (stP st fb sb),fB fb ad c f h,fR ad c f] H Tryz.func37 Tryz.ntmps37 fun W=>?_
 dsimp only [cA,nA]
 obtain ⟨hpar,hmay⟩:=b6R hp
 have hfit:fitsP st.p.k st.p.p st.p.z s st.p.s xs.length=0:=by rw [hs];exact c1U hp.ok (by rw [hz])
 repeat' (first|intro _|(refine k_fn 33 ?_;refine a0A (fun _=>a1Q db fb ka kn kc mb x (some ⟨sb,0,none⟩)) rfl (fun _ _=>?_))|(refine k_fn 76 ?_;(refine a0A (fun _=>a3K _ ad2 c2 m2 s id xs hb.up hm2 hx1 hx2) rfl (fun ⟨a18,c18⟩ _=>?_);(try dsimp only)))|(refine a1O ?_;refine a1D rfl (fun b6=>?_))|(refine a0K ?_;(refine a0F (b:=mb) (i:=10) rfl rfl ?_;rw [ho]))|(refine k_fn 58 ?_;(refine a0A (fun _=>b0O _ x.m) rfl (fun _ _=>?_);rw [hpar,hmay]))|(refine k_fn 77 ?_;(refine a0A (fun _=>a7L _ s id st.p.s st.p.k st.p.p st.p.z _ _ _) rfl (fun _ _=>?_);rw [hfit]))|refine wK ?_|refine wL ?_ ?_|fail)
 refine a0H [(5,_),(6,_)] b8K [8] [⟨[0,1,2,3,4,5,6,7],[],some 8⟩,⟨[9],[],none⟩] mixed cv (by kernel_rfl) (by kernel_rfl) ?_
 repeat' (first|intro _|refine sg ?_|(refine a1E ?_;refine po (by first|refine a0F (b:=mb) (i:=17) rfl rfl fz|refine a0F (b:=b6) (i:=1) rfl rfl fz|refine a0F (b:=b6) (i:=2) rfl rfl fz|fail) ?_)|refine pw ?_|refine pdd ?_|(refine k_fn 78 ?_;(refine a0V (.any (stP st fb sb)::fB fb ad c f h::fR ad c f::[dvB db fb ka kn kc (pM mb),meB mb x (some ⟨sb,0,none⟩),.row 5 1 (.slice a18 xs.length c18) xs.length (xs.map B),.any (stars H)]) (Ent.out ent) (fun hh=>c1M _ st fb sb ad c f h id v a18 xs.length c18 xs hp.ok hR htk hv (a0I (T:=5) (ad:=a18) (c:=c18) (l:=xs) (a0B (a0B (a0B hh)))) rfl hz hk hd hn ht.up) rfl (fun h1 hk1=>?_);(rw [hput] at hk1 ⊢;dsimp only at hk1 ⊢)))|refine ow ?_|fail)
 all_goals dsimp only [cA,nA]
 repeat' (first|intro _|(refine a0K ?_;refine a0F (b:=mb) (i:=17) rfl rfl ?_)|(refine k_fn 79 ?_;(refine a0T (stP st1 fb sb) (fun _=>b0Z _ st1 fb sb hp1 hb1) rfl (fun _ _=>?_)))|(refine a0D .eql ?_;refine a1Y rfl rfl hnd ?_)|refine wK ?_|refine wL ?_ ?_|fail)
 refine a0E h1 rfl rfl rfl hk1 ?_
 exact ent
theorem dv_takes_fin (H:List Hl) (db fb:Nat) (ka:Option Addr) (kn kc:Nat) (mb:Nat) (x:StD) (sb:Nat) (ad2:Option Addr) (m2 c2:Nat) (s id:BitVec 32) (xs:List (BitVec 8)) (hb:Rs (stars H) B ad2 c2 (symB s id xs)) (hm2:m2=xs.length+8) (hx1:1≤xs.length) (hx2:xs.length≤16) (ad:Option Addr) (c:Nat) (f:Fl) (h:Hid) (st:Sto) (len:Nat) (v:List Bool) (ho:x.on=true) (hp:IsP x.m st.p len) (hs:s=st.p.s) (hz:xs.length=st.p.z) (hR:RR st.p.n st.p.z st.d.M) (htk:st.d.t≤1000) (hv:SpRow st.p id v) (hk:FlOk f h) (hd:f.pw.isDown=false) (hn:st.nxt≤8*plW st.p.z) (ht:TabF (stars H)) (f1:Fl) (st1:Sto) (hput:putS st f id v xs=(st1,f1,0)) (hp1:st1.p.ok) (hb1:cntS st1.d.M≤1000) (hnd:cntS st1.d.M=st1.p.n) (im:List (BitVec 8)) (hR1:RR st1.p.n st1.p.z st1.d.M) (hl:count st1.len st1.p.z=st1.p.k) (him:imgB st1.p st1.d st1.len=im) (hi1:1≤im.length) (hi2:im.length≤512) (hsh:sha im=x.m.h.l) (hd1:f1.pw.isDown=false) (hm:x.may=true) (htr:x.t=0) (hx:x.Rd (stars H)) (f2:Fl) (hF:finF f1 x im=(f2,0)) :
  Spec Tryz.prog 37 [.pointer (some ⟨db,0,none⟩),.slice ad2 m2 c2] (dvB db fb ka kn kc (pM mb)::meB mb x (some ⟨sb,0,none⟩) :: .any (stP st fb sb)::fB fb ad c f h::fR ad c f::H) (fun r:Hid × Nat × PA × PA=>FlOk f2 r.1) (fun _=>I 0) (fun r=>dvB db fb ka kn kc (pM r.2.1)::meB r.2.1 (copyS (actS x) r.2.2.1 r.2.2.2 (none,0)) none::fB fb ad c f2 r.1::fR ad c f2::rowL r.2.2.1 (actS x).s0.h.l::rowL r.2.2.2 (actS x).s1.h.l::H):=by
 refine sF (res:=fun r:Hid × Nat × PA × PA=>[dvB db fb ka kn kc (pM r.2.1),meB r.2.1 (copyS (actS x) r.2.2.1 r.2.2.2 (none,0)) none,fB fb ad c f2 r.1,fR ad c f2,rowL r.2.2.1 (actS x).s0.h.l,rowL r.2.2.2 (actS x).s1.h.l]) [dvB db fb ka kn kc (pM mb),meB mb x (some ⟨sb,0,none⟩),.any (stP st fb sb),fB fb ad c f h,fR ad c f] H Tryz.func37 Tryz.ntmps37 fun W=>?_
 dsimp only [cA,nA]
 obtain ⟨hpar,hmay⟩:=b6R hp
 have hfit:fitsP st.p.k st.p.p st.p.z s st.p.s xs.length=0:=by rw [hs];exact c1U hp.ok (by rw [hz])
 have hn0:((st1.p.n:Int) - cntS st1.d.M)=0:=by rw [hnd];omega
 repeat' (first|intro _|(refine k_fn 33 ?_;refine a0A (fun _=>a1Q db fb ka kn kc mb x (some ⟨sb,0,none⟩)) rfl (fun _ _=>?_))|(refine k_fn 76 ?_;(refine a0A (fun _=>a3K _ ad2 c2 m2 s id xs hb.up hm2 hx1 hx2) rfl (fun ⟨a18,c18⟩ _=>?_);(try dsimp only)))|(refine a1O ?_;refine a1D rfl (fun b6=>?_))|(refine a0K ?_;(refine a0F (b:=mb) (i:=10) rfl rfl ?_;rw [ho]))|(refine k_fn 58 ?_;(refine a0A (fun _=>b0O _ x.m) rfl (fun _ _=>?_);rw [hpar,hmay]))|(refine k_fn 77 ?_;(refine a0A (fun _=>a7L _ s id st.p.s st.p.k st.p.p st.p.z _ _ _) rfl (fun _ _=>?_);rw [hfit]))|refine wK ?_|refine wL ?_ ?_|fail)
 refine a0H [(5,_),(6,_)] b8K [8] [⟨[0,1,2,3,4,5,6,7],[],some 8⟩,⟨[9],[],none⟩] mixed cv (by kernel_rfl) (by kernel_rfl) ?_
 repeat' (first|intro _|refine sg ?_|(refine a1E ?_;refine po (by first|refine a0F (b:=mb) (i:=17) rfl rfl fz|refine a0F (b:=b6) (i:=1) rfl rfl fz|refine a0F (b:=b6) (i:=2) rfl rfl fz|fail) ?_)|refine pw ?_|refine pdd ?_|(refine k_fn 78 ?_;(refine a0V (.any (stP st fb sb)::fB fb ad c f h::fR ad c f::[dvB db fb ka kn kc (pM mb),meB mb x (some ⟨sb,0,none⟩),.row 5 1 (.slice a18 xs.length c18) xs.length (xs.map B),.any (stars H)]) (Ent.out ent) (fun hh=>c1M _ st fb sb ad c f h id v a18 xs.length c18 xs hp.ok hR htk hv (a0I (T:=5) (ad:=a18) (c:=c18) (l:=xs) (a0B (a0B (a0B hh)))) rfl hz hk hd hn ht.up) rfl (fun h1 hk1=>?_);(rw [hput] at hk1 ⊢;dsimp only at hk1 ⊢)))|refine ow ?_|fail)
 all_goals dsimp only [cA,nA]
 repeat' (first|intro _|(refine a0K ?_;refine a0F (b:=mb) (i:=17) rfl rfl ?_)|(refine k_fn 79 ?_;(refine a0T (stP st1 fb sb) (fun _=>b0Z _ st1 fb sb hp1 hb1) rfl (fun _ _=>?_);rw [hn0]))|(refine k_fn 80 ?_;(refine a0V (dvB db fb ka kn kc (pM mb)::meB mb x (some ⟨sb,0,none⟩) :: .any (stP st1 fb sb)::fB fb ad c f1 h1::fR ad c f1::[.any (stars H)]) (Ent.out ent) (fun _=>dv_fin _ db fb ka kn kc mb sb ad c f1 f2 h1 x st1 im hm ho htr ⟨hx.s0.up,hx.s1.up,hx.m.up⟩ hk1 hd1 hp1 hR1 hnd hl him hi1 hi2 hsh hF) rfl (fun ⟨h2,mb2,q1,q2⟩ hk2=>?_);(try dsimp only at hk2 ⊢)))|refine wK ?_|refine wL ?_ ?_|fail)
 refine a0E (h2,mb2,q1,q2) rfl rfl rfl hk2 ?_
 exact ent
theorem dv_takes_fin_no (H:List Hl) (db fb:Nat) (ka:Option Addr) (kn kc:Nat) (mb:Nat) (x:StD) (sb:Nat) (ad2:Option Addr) (m2 c2:Nat) (s id:BitVec 32) (xs:List (BitVec 8)) (hb:Rs (stars H) B ad2 c2 (symB s id xs)) (hm2:m2=xs.length+8) (hx1:1≤xs.length) (hx2:xs.length≤16) (ad:Option Addr) (c:Nat) (f:Fl) (h:Hid) (st:Sto) (len:Nat) (v:List Bool) (ho:x.on=true) (hp:IsP x.m st.p len) (hs:s=st.p.s) (hz:xs.length=st.p.z) (hR:RR st.p.n st.p.z st.d.M) (htk:st.d.t≤1000) (hv:SpRow st.p id v) (hk:FlOk f h) (hd:f.pw.isDown=false) (hn:st.nxt≤8*plW st.p.z) (ht:TabF (stars H)) (f1:Fl) (st1:Sto) (hput:putS st f id v xs=(st1,f1,0)) (hp1:st1.p.ok) (hb1:cntS st1.d.M≤1000) (hnd:cntS st1.d.M=st1.p.n) (im:List (BitVec 8)) (hR1:RR st1.p.n st1.p.z st1.d.M) (hl:count st1.len st1.p.z=st1.p.k) (him:imgB st1.p st1.d st1.len=im) (hi1:1≤im.length) (hi2:im.length≤512) (hsh:sha im=x.m.h.l) (hd1:f1.pw.isDown=false) (hm:x.may=true) (htr:x.t=0) (hx:x.Rd (stars H)) (f2:Fl) (e:Int) (hF:finF f1 x im=(f2,e)) (hne:e≠0) :
  Spec Tryz.prog 37 [.pointer (some ⟨db,0,none⟩),.slice ad2 m2 c2] (dvB db fb ka kn kc (pM mb)::meB mb x (some ⟨sb,0,none⟩) :: .any (stP st fb sb)::fB fb ad c f h::fR ad c f::H) (fun h2:Hid=>FlOk f2 h2) (fun _=>I e) (fun r=>dvB db fb ka kn kc (pM mb)::fB fb ad c f2 r::fR ad c f2::H):=by
 refine sF (res:=fun r:Hid=>[dvB db fb ka kn kc (pM mb),fB fb ad c f2 r,fR ad c f2]) [dvB db fb ka kn kc (pM mb),meB mb x (some ⟨sb,0,none⟩),.any (stP st fb sb),fB fb ad c f h,fR ad c f] H Tryz.func37 Tryz.ntmps37 fun W=>?_
 dsimp only [cA,nA]
 obtain ⟨hpar,hmay⟩:=b6R hp
 have hfit:fitsP st.p.k st.p.p st.p.z s st.p.s xs.length=0:=by rw [hs];exact c1U hp.ok (by rw [hz])
 have hn0:((st1.p.n:Int) - cntS st1.d.M)=0:=by rw [hnd];omega
 repeat' (first|intro _|(refine k_fn 33 ?_;refine a0A (fun _=>a1Q db fb ka kn kc mb x (some ⟨sb,0,none⟩)) rfl (fun _ _=>?_))|(refine k_fn 76 ?_;(refine a0A (fun _=>a3K _ ad2 c2 m2 s id xs hb.up hm2 hx1 hx2) rfl (fun ⟨a18,c18⟩ _=>?_);(try dsimp only)))|(refine a1O ?_;refine a1D rfl (fun b6=>?_))|(refine a0K ?_;(refine a0F (b:=mb) (i:=10) rfl rfl ?_;rw [ho]))|(refine k_fn 58 ?_;(refine a0A (fun _=>b0O _ x.m) rfl (fun _ _=>?_);rw [hpar,hmay]))|(refine k_fn 77 ?_;(refine a0A (fun _=>a7L _ s id st.p.s st.p.k st.p.p st.p.z _ _ _) rfl (fun _ _=>?_);rw [hfit]))|refine wK ?_|refine wL ?_ ?_|fail)
 refine a0H [(5,_),(6,_)] b8K [8] [⟨[0,1,2,3,4,5,6,7],[],some 8⟩,⟨[9],[],none⟩] mixed cv (by kernel_rfl) (by kernel_rfl) ?_
 repeat' (first|intro _|refine sg ?_|(refine a1E ?_;refine po (by first|refine a0F (b:=mb) (i:=17) rfl rfl fz|refine a0F (b:=b6) (i:=1) rfl rfl fz|refine a0F (b:=b6) (i:=2) rfl rfl fz|fail) ?_)|refine pw ?_|refine pdd ?_|(refine k_fn 78 ?_;(refine a0V (.any (stP st fb sb)::fB fb ad c f h::fR ad c f::[dvB db fb ka kn kc (pM mb),meB mb x (some ⟨sb,0,none⟩),.row 5 1 (.slice a18 xs.length c18) xs.length (xs.map B),.any (stars H)]) (Ent.out ent) (fun hh=>c1M _ st fb sb ad c f h id v a18 xs.length c18 xs hp.ok hR htk hv (a0I (T:=5) (ad:=a18) (c:=c18) (l:=xs) (a0B (a0B (a0B hh)))) rfl hz hk hd hn ht.up) rfl (fun h1 hk1=>?_);(rw [hput] at hk1 ⊢;dsimp only at hk1 ⊢)))|refine ow ?_|fail)
 all_goals dsimp only [cA,nA]
 repeat' (first|intro _|(refine a0K ?_;refine a0F (b:=mb) (i:=17) rfl rfl ?_)|(refine k_fn 79 ?_;(refine a0T (stP st1 fb sb) (fun _=>b0Z _ st1 fb sb hp1 hb1) rfl (fun _ _=>?_);rw [hn0]))|(refine k_fn 80 ?_;refine a0V (dvB db fb ka kn kc (pM mb)::meB mb x (some ⟨sb,0,none⟩) :: .any (stP st1 fb sb)::fB fb ad c f1 h1::fR ad c f1::[.any (stars H)]) (Ent.out ent) (fun _=>dv_fin_no _ db fb ka kn kc mb sb ad c f1 f2 e h1 x st1 im hm ho htr ⟨hx.s0.up,hx.s1.up,hx.m.up⟩ hk1 hd1 hp1 hR1 hnd hl him hi1 hi2 hsh hF hne) rfl (fun h2 hk2=>?_))|refine wK ?_|refine wL ?_ ?_|fail)
 refine a0E h2 rfl rfl rfl hk2 ?_
 exact ent
def nf (x:StD):StD:=copyS x (none,0) (none,0) (none,0)
theorem a6T (x:StD):(nf x).may=x.may:=a3P x _ _ _
theorem b3A (x:StD):(nf x).cur.v=x.cur.v:=by
 unfold StD.cur
 show (if x.a=0 then (nf x).s0 else (nf x).s1).v=_
 split <;> rfl
theorem b7S (x:StD) (m:ManD):errOf (nf x) m=errOf x m:=by
 have h1:=a6T x
 have h2:(nf x).newer m.v=x.newer m.v:=by
  unfold StD.newer
  rw [h1,b3A]
  rfl
 unfold errOf
 rw [h1,h2]
 rfl
theorem c1T (x:StD) (q1 q2:PA):nf (copyS (actS x) q1 q2 (none,0))=nf (actS (nf x)):=by
 obtain ⟨a,t,f,g,s0,s1,on,m⟩:=x
 by_cases ha:a=0
 ·simp [nf,copyS,actS,newSl,ha]
 ·simp [nf,copyS,actS,newSl,ha]
theorem nf_act2 (x:StD):nf (actS (nf x))=nf (actS x):=(c1T x (none,0) (none,0)).symm
theorem nf_act_by (x:StD):(actS (nf x)).by=(actS x).by:=by
 have h1:(actS (nf x)).by=(nf (actS (nf x))).by:=rfl
 have h2:(actS x).by=(nf (actS x)).by:=rfl
 rw [h1,h2,nf_act2]
theorem c1S (f:Fl) (x:StD) (im:List (BitVec 8)):finF f (nf x) im=finF f x im:=by
 unfold finF
 rw [nf_act_by]
 rfl
structure Lay where
 fb:Nat
 ad:Option Addr
 c:Nat
 h:Hid
 mb:Nat
 sb:Nat
 ka:Option Addr
 kc:Nat
 x:StD
 A:Hp→Prop
structure DvK (key:List (BitVec 8)) (f:Fl) (l:Lay):Prop where
 fl:FlOk f l.h
 key:Rs l.A B l.ka l.kc key
structure DvX (key:List (BitVec 8)) (f:Fl) (s:StD) (l:Lay):Prop where
 fl:FlOk f l.h
 key:Rs l.A B l.ka l.kc key
 rd:l.x.Rd l.A
 nf:nf l.x=s
abbrev dvA (db:Nat) (key:List (BitVec 8)) (l:Lay) (mp:Option Addr):Hl:=dvB db l.fb l.ka key.length l.kc mp
abbrev flA (f:Fl) (l:Lay):Hl:=fB l.fb l.ad l.c f l.h
abbrev frA (f:Fl) (l:Lay):Hl:=fR l.ad l.c f
def dvO (key:List (BitVec 8)) (f:Fl) (db:Nat):Hp→Prop:=Som (DvK key f) (fun l=>[dvA db key l none,flA f l,frA f l,.any l.A])
def dvI (key:List (BitVec 8)) (f:Fl) (s:StD) (db:Nat):Hp→Prop:=Som (DvX key f s) (fun l=>[dvA db key l (pM l.mb),meB l.mb l.x none,flA f l,frA f l,.any l.A])
def dvL (key:List (BitVec 8)) (f:Fl) (s:StD) (st:Sto) (db:Nat):Hp→Prop:=Som (DvX key f s) (fun l=>[dvA db key l (pM l.mb),meB l.mb l.x (some ⟨l.sb,0,none⟩),.any (stP st l.fb l.sb),flA f l,frA f l,.any l.A])
section
variable {P:Program} {k:Kon} {n:Nat} {e:Ev} {W:World} {H R:List Hl} {key:List (BitVec 8)} {f:Fl} {s:StD} {st:Sto} {db:Nat}
theorem b2Q (l:Lay) (hl:DvK key f l) (hE:Ent H (dvA db key l none::flA f l::frA f l :: .any l.A::R)) (h:Rt P k n e W (.any (dvO key f db)::R)):Rt P k n e W H:=a9C (p:=DvK key f) (L:=fun l=>[dvA db key l none,flA f l,frA f l,.any l.A]) l hl hE h
theorem b1S (l:Lay) (hl:DvX key f s l) (hE:Ent H (dvA db key l (pM l.mb)::meB l.mb l.x none::flA f l::frA f l :: .any l.A::R)) (h:Rt P k n e W (.any (dvI key f s db)::R)):Rt P k n e W H:=a9C (p:=DvX key f s) (L:=fun l=>[dvA db key l (pM l.mb),meB l.mb l.x none,flA f l,frA f l,.any l.A]) l hl hE h
theorem b0C (l:Lay) (hl:DvX key f s l) (hE:Ent H (dvA db key l (pM l.mb)::meB l.mb l.x (some ⟨l.sb,0,none⟩) :: .any (stP st l.fb l.sb)::flA f l::frA f l :: .any l.A::R)) (h:Rt P k n e W (.any (dvL key f s st db)::R)):Rt P k n e W H:=a9C (p:=DvX key f s) (L:=fun l=>[dvA db key l (pM l.mb),meB l.mb l.x (some ⟨l.sb,0,none⟩),.any (stP st l.fb l.sb),flA f l,frA f l,.any l.A]) l hl hE h
end
theorem a4U (k:BitVec 8) (b:List (BitVec 8)):(innB k b).drop 3=b:=rfl
theorem pk_hears_no_I (H:List Hl) (db:Nat) (key:List (BitVec 8)) (f:Fl) (s:StD) (ad2:Option Addr) (m2 c2:Nat) (b:List (BitVec 8)) (hb:Rs (stars H) B ad2 c2 (frameB 1#8 b)) (hm2:m2=b.length+9) (hbl:b.length≤291) (hb1:1≤b.length) (hkl:key.length≤64) (m:ManD) (e:Int) (hpr:prM key b=(m,0)) (he:errOf s m=e) (hne:e≠0) (h11:e≠11) :
  Spec Tryz.prog 12 [.pointer (some ⟨db,0,none⟩),.slice ad2 m2 c2] (.any (dvI key f s db)::H) (fun _:Unit=>True) (fun _=>I e) (fun _ => .any (dvI key f s db)::H):=by
 refine Spec.som (by kernel_rfl) (fun ⟨fb,ad,c,h,mb,sb,ka,kc,x,A⟩ hl0=>?_)
 obtain ⟨hk,hkey,hx,hnf⟩:=hl0
 dsimp only at hk hkey hx hnf
 subst hnf
 show Spec _ _ _ ([dvB db fb ka key.length kc (pM mb),meB mb x none,fB fb ad c f h,fR ad c f,.any A]++H) _ _ _
 refine sF (res:=fun _:Unit=>[.any (dvI key f (nf x) db)]) [dvB db fb ka key.length kc (pM mb),meB mb x none,fB fb ad c f h,fR ad c f,.any A] H Tryz.func12 Tryz.ntmps12 fun W=>?_
 dsimp only [cA,nA]
 have he2:errOf x m=e:=by rw [←he,b7S]
 repeat' (first|intro _|refine a0S rfl rfl ?_|(refine k_fn 33 ?_;refine a0A (fun _=>a1Q db fb ka key.length kc mb x none) rfl (fun _ _=>?_))|(refine k_fn 34 ?_;(refine a0A (fun _=>a3Y _ 1#8 ad2 m2 c2 b hb.up hm2 hbl hb1) rfl (fun ⟨a18,c18⟩ _=>?_);(try dsimp only);rw [show (((1#8:BitVec 8).toNat:Nat):Int)=1 from rfl]))|(refine k_fn 36 ?_;(refine a0V (dvB db fb ka key.length kc (pM mb)::meB mb x none::[.row 5 1 (.slice a18 (b.length+3) c18) (b.length+3) ((innB 1#8 b).map B),fB fb ad c f h,fR ad c f,.any A,.any (stars H)]) (Ent.out ent) (fun hh=>dv_hears_no _ db fb ka key kc mb x none (cutA a18 c18 3) b.length (c18 - 3) b m e hkey.up (by omega) (a3U (T:=5) (ad:=a18) (c:=c18) (n:=b.length+3) (l:=innB 1#8 b) (enc:=B) 3 (by rw [a3T];omega) (a4U _ _) (a0B (a0B hh))) rfl hpr ⟨hx.s0.up,hx.s1.up,hx.m.up⟩ he2 hne) rfl (fun _ _=>?_)))|(refine k_fn 35 ?_;refine a0G (b:=db) (fun _=>a8P _ db fb ka key.length kc (pM mb) e h11) rfl (fun _ _=>?_))|refine wK ?_|refine wL ?_ ?_|fail)
 refine b1S (l:=⟨fb,ad,c,h,mb,sb,ka,kc,x,A⟩) (R:=[.any (stars H)]) ⟨hk,hkey,hx,rfl⟩ ent ?_
 refine a0E () rfl rfl rfl trivial ?_
 exact ent
theorem b4E (H:List Hl) (db:Nat) (key:List (BitVec 8)) (f:Fl) (s:StD) (ad2:Option Addr) (m2 c2:Nat) (b:List (BitVec 8)) (hb:Rs (stars H) B ad2 c2 (frameB 1#8 b)) (hm2:m2=b.length+9) (hbl:b.length≤291) (hb1:1≤b.length) (hkl:key.length≤64) (m:ManD) (p:Prm) (len:Nat) (V:BitVec 32→List Bool) (f1:Fl) (hpr:prM key b=(m,0)) (hms:s.may=true) (hmm:m.may=true) (he:errOf s m=0) (hd:f.pw.isDown=false) (hp:IsP m p len) (ht:TabF (stars H)) (hW:cellW f (admitS s m (none,0) (none,0) (none,0)).by=(f1,0)) (hd1:f1.pw.isDown=false) (hV:∀ r∈recsW f1.bs (s.g+1#32) p.z 8,SpRow p r.1 (V r.1)) :
  Spec Tryz.prog 12 [.pointer (some ⟨db,0,none⟩),.slice ad2 m2 c2] (.any (dvI key f s db)::H) (fun _:Unit=>True) (fun _=>I 0) (fun _ => .any (dvL key f1 (admitS s m (none,0) (none,0) (none,0)) (openS p (s.g+1#32) len V f1.bs) db)::H):=by
 refine Spec.som (by kernel_rfl) (fun ⟨fb,ad,c,h,mb,sb,ka,kc,x,A⟩ hl0=>?_)
 obtain ⟨hk,hkey,hx,hnf⟩:=hl0
 dsimp only at hk hkey hx hnf
 subst hnf
 show Spec _ _ _ ([dvB db fb ka key.length kc (pM mb),meB mb x none,fB fb ad c f h,fR ad c f,.any A]++H) _ _ _
 refine sF (res:=fun _:Unit=>[.any (dvL key f1 (admitS (nf x) m (none,0) (none,0) (none,0)) (openS p ((nf x).g+1#32) len V f1.bs) db)]) [dvB db fb ka key.length kc (pM mb),meB mb x none,fB fb ad c f h,fR ad c f,.any A] H Tryz.func12 Tryz.ntmps12 fun W=>?_
 dsimp only [cA,nA]
 have he2:errOf x m=0:=by rw [←he,b7S]
 have hmx:x.may=true:=by rw [←hms,a6T]
 repeat' (first|intro _|refine a0S rfl rfl ?_|(refine k_fn 33 ?_;refine a0A (fun _=>a1Q db fb ka key.length kc mb x none) rfl (fun _ _=>?_))|(refine k_fn 34 ?_;(refine a0A (fun _=>a3Y _ 1#8 ad2 m2 c2 b hb.up hm2 hbl hb1) rfl (fun ⟨a18,c18⟩ _=>?_);(try dsimp only);rw [show (((1#8:BitVec 8).toNat:Nat):Int)=1 from rfl]))|(refine k_fn 36 ?_;(refine a0V (dvB db fb ka key.length kc (pM mb)::meB mb x none::fB fb ad c f h::fR ad c f::[.row 5 1 (.slice a18 (b.length+3) c18) (b.length+3) ((innB 1#8 b).map B),.any A,.any (stars H)]) (Ent.out ent) (fun hh=>dv_hears _ db fb ka key kc mb ad c f f1 h x none (cutA a18 c18 3) b.length (c18 - 3) b m p len V hkey.up (by omega) (a3U (T:=5) (ad:=a18) (c:=c18) (n:=b.length+3) (l:=innB 1#8 b) (enc:=B) 3 (by rw [a3T];omega) (a4U _ _) (a0B (a0B (a0B (a0B hh))))) rfl hpr ⟨hx.s0.up,hx.s1.up,hx.m.up⟩ hmx hmm he2 hk hd hp ht.up hW hd1 hV) rfl (fun ⟨h1,⟨mb2,sb2⟩,q0,q1,q2⟩ hk1=>?_);(try dsimp only at hk1 ⊢)))|(refine k_fn 35 ?_;refine a0G (b:=db) (fun _=>a8P _ db fb ka key.length kc (pM mb2) 0 (by decide)) rfl (fun _ _=>?_))|refine wK ?_|refine wL ?_ ?_|fail)
 refine a4H [rowL q0 x.s0.h.l,rowL q1 x.s1.h.l,rowL q2 m.h.l,.any A] [dvB db fb ka key.length kc (pM mb2),meB mb2 (admitS x m q0 q1 q2) (some ⟨sb2,0,none⟩),.any (stP (openS p (x.g+1#32) len V f1.bs) fb sb2),fB fb ad c f1 h1,fR ad c f1,.any (stars H)] ent ?_
 refine b1R (fun hh=>?_)
 have hA:=a5L hh
 refine b0C (l:=⟨fb,ad,c,h1,mb2,sb2,ka,kc,admitS x m q0 q1 q2,stars [rowL q0 x.s0.h.l,rowL q1 x.s1.h.l,rowL q2 m.h.l,.any A]⟩) (R:=[.any (stars H)]) ⟨hk1,rs_gr hkey Gr.of,⟨a0I (T:=5) (ad:=q0.1) (c:=q0.2) (l:=x.s0.h.l) hA,a0I (T:=5) (ad:=q1.1) (c:=q1.2) (l:=x.s1.h.l) hA,a0I (T:=5) (ad:=q2.1) (c:=q2.2) (l:=m.h.l) hA⟩,rfl⟩ ent ?_
 refine a0E () rfl rfl rfl trivial ?_
 exact ent
theorem a9H (H:List Hl) (db:Nat) (key:List (BitVec 8)) (f:Fl) (s:StD) (st:Sto) (ad2:Option Addr) (m2 c2:Nat) (b:List (BitVec 8)) (hb:Rs (stars H) B ad2 c2 (frameB 1#8 b)) (hm2:m2=b.length+9) (hbl:b.length≤291) (hb1:1≤b.length) (hkl:key.length≤64) (m:ManD) (e:Int) (hpr:prM key b=(m,0)) (he:errOf s m=e) (hne:e≠0) (h11:e≠11) :
  Spec Tryz.prog 12 [.pointer (some ⟨db,0,none⟩),.slice ad2 m2 c2] (.any (dvL key f s st db)::H) (fun _:Unit=>True) (fun _=>I e) (fun _ => .any (dvL key f s st db)::H):=by
 refine Spec.som (by kernel_rfl) (fun ⟨fb,ad,c,h,mb,sb,ka,kc,x,A⟩ hl0=>?_)
 obtain ⟨hk,hkey,hx,hnf⟩:=hl0
 dsimp only at hk hkey hx hnf
 subst hnf
 show Spec _ _ _ ([dvB db fb ka key.length kc (pM mb),meB mb x (some ⟨sb,0,none⟩),.any (stP st fb sb),fB fb ad c f h,fR ad c f,.any A]++H) _ _ _
 refine sF (res:=fun _:Unit=>[.any (dvL key f (nf x) st db)]) [dvB db fb ka key.length kc (pM mb),meB mb x (some ⟨sb,0,none⟩),.any (stP st fb sb),fB fb ad c f h,fR ad c f,.any A] H Tryz.func12 Tryz.ntmps12 fun W=>?_
 dsimp only [cA,nA]
 have he2:errOf x m=e:=by rw [←he,b7S]
 repeat' (first|intro _|refine a0S rfl rfl ?_|(refine k_fn 33 ?_;refine a0A (fun _=>a1Q db fb ka key.length kc mb x (some ⟨sb,0,none⟩)) rfl (fun _ _=>?_))|(refine k_fn 34 ?_;(refine a0A (fun _=>a3Y _ 1#8 ad2 m2 c2 b hb.up hm2 hbl hb1) rfl (fun ⟨a18,c18⟩ _=>?_);(try dsimp only);rw [show (((1#8:BitVec 8).toNat:Nat):Int)=1 from rfl]))|(refine k_fn 36 ?_;(refine a0V (dvB db fb ka key.length kc (pM mb)::meB mb x (some ⟨sb,0,none⟩)::[.row 5 1 (.slice a18 (b.length+3) c18) (b.length+3) ((innB 1#8 b).map B),.any (stP st fb sb),fB fb ad c f h,fR ad c f,.any A,.any (stars H)]) (Ent.out ent) (fun hh=>dv_hears_no _ db fb ka key kc mb x (some ⟨sb,0,none⟩) (cutA a18 c18 3) b.length (c18 - 3) b m e hkey.up (by omega) (a3U (T:=5) (ad:=a18) (c:=c18) (n:=b.length+3) (l:=innB 1#8 b) (enc:=B) 3 (by rw [a3T];omega) (a4U _ _) (a0B (a0B hh))) rfl hpr ⟨hx.s0.up,hx.s1.up,hx.m.up⟩ he2 hne) rfl (fun _ _=>?_)))|(refine k_fn 35 ?_;refine a0G (b:=db) (fun _=>a8P _ db fb ka key.length kc (pM mb) e h11) rfl (fun _ _=>?_))|refine wK ?_|refine wL ?_ ?_|fail)
 refine b0C (l:=⟨fb,ad,c,h,mb,sb,ka,kc,x,A⟩) (R:=[.any (stars H)]) ⟨hk,hkey,hx,rfl⟩ ent ?_
 refine a0E () rfl rfl rfl trivial ?_
 exact ent
theorem pk_hears_L (H:List Hl) (db:Nat) (key:List (BitVec 8)) (f:Fl) (s:StD) (st:Sto) (ad2:Option Addr) (m2 c2:Nat) (b:List (BitVec 8)) (hb:Rs (stars H) B ad2 c2 (frameB 1#8 b)) (hm2:m2=b.length+9) (hbl:b.length≤291) (hb1:1≤b.length) (hkl:key.length≤64) (m:ManD) (p:Prm) (len:Nat) (V:BitVec 32→List Bool) (f1:Fl) (hpr:prM key b=(m,0)) (hms:s.may=true) (hmm:m.may=true) (he:errOf s m=0) (hd:f.pw.isDown=false) (hp:IsP m p len) (ht:TabF (stars H)) (hW:cellW f (admitS s m (none,0) (none,0) (none,0)).by=(f1,0)) (hd1:f1.pw.isDown=false) (hV:∀ r∈recsW f1.bs (s.g+1#32) p.z 8,SpRow p r.1 (V r.1)) :
  Spec Tryz.prog 12 [.pointer (some ⟨db,0,none⟩),.slice ad2 m2 c2] (.any (dvL key f s st db)::H) (fun _:Unit=>True) (fun _=>I 0) (fun _ => .any (dvL key f1 (admitS s m (none,0) (none,0) (none,0)) (openS p (s.g+1#32) len V f1.bs) db)::H):=by
 refine Spec.som (by kernel_rfl) (fun ⟨fb,ad,c,h,mb,sb,ka,kc,x,A⟩ hl0=>?_)
 obtain ⟨hk,hkey,hx,hnf⟩:=hl0
 dsimp only at hk hkey hx hnf
 subst hnf
 show Spec _ _ _ ([dvB db fb ka key.length kc (pM mb),meB mb x (some ⟨sb,0,none⟩),.any (stP st fb sb),fB fb ad c f h,fR ad c f,.any A]++H) _ _ _
 refine sF (res:=fun _:Unit=>[.any (dvL key f1 (admitS (nf x) m (none,0) (none,0) (none,0)) (openS p ((nf x).g+1#32) len V f1.bs) db)]) [dvB db fb ka key.length kc (pM mb),meB mb x (some ⟨sb,0,none⟩),.any (stP st fb sb),fB fb ad c f h,fR ad c f,.any A] H Tryz.func12 Tryz.ntmps12 fun W=>?_
 dsimp only [cA,nA]
 have he2:errOf x m=0:=by rw [←he,b7S]
 have hmx:x.may=true:=by rw [←hms,a6T]
 repeat' (first|intro _|refine a0S rfl rfl ?_|(refine k_fn 33 ?_;refine a0A (fun _=>a1Q db fb ka key.length kc mb x (some ⟨sb,0,none⟩)) rfl (fun _ _=>?_))|(refine k_fn 34 ?_;(refine a0A (fun _=>a3Y _ 1#8 ad2 m2 c2 b hb.up hm2 hbl hb1) rfl (fun ⟨a18,c18⟩ _=>?_);(try dsimp only);rw [show (((1#8:BitVec 8).toNat:Nat):Int)=1 from rfl]))|(refine k_fn 36 ?_;(refine a0V (dvB db fb ka key.length kc (pM mb)::meB mb x (some ⟨sb,0,none⟩)::fB fb ad c f h::fR ad c f::[.row 5 1 (.slice a18 (b.length+3) c18) (b.length+3) ((innB 1#8 b).map B),.any (stP st fb sb),.any A,.any (stars H)]) (Ent.out ent) (fun hh=>dv_hears _ db fb ka key kc mb ad c f f1 h x (some ⟨sb,0,none⟩) (cutA a18 c18 3) b.length (c18 - 3) b m p len V hkey.up (by omega) (a3U (T:=5) (ad:=a18) (c:=c18) (n:=b.length+3) (l:=innB 1#8 b) (enc:=B) 3 (by rw [a3T];omega) (a4U _ _) (a0B (a0B (a0B (a0B hh))))) rfl hpr ⟨hx.s0.up,hx.s1.up,hx.m.up⟩ hmx hmm he2 hk hd hp ht.up hW hd1 hV) rfl (fun ⟨h1,⟨mb2,sb2⟩,q0,q1,q2⟩ hk1=>?_);(try dsimp only at hk1 ⊢)))|(refine k_fn 35 ?_;refine a0G (b:=db) (fun _=>a8P _ db fb ka key.length kc (pM mb2) 0 (by decide)) rfl (fun _ _=>?_))|refine wK ?_|refine wL ?_ ?_|fail)
 refine a4H [rowL q0 x.s0.h.l,rowL q1 x.s1.h.l,rowL q2 m.h.l,.any A] [dvB db fb ka key.length kc (pM mb2),meB mb2 (admitS x m q0 q1 q2) (some ⟨sb2,0,none⟩),.any (stP (openS p (x.g+1#32) len V f1.bs) fb sb2),fB fb ad c f1 h1,fR ad c f1,.any (stars H)] ent ?_
 refine b1R (fun hh=>?_)
 have hA:=a5L hh
 refine b0C (l:=⟨fb,ad,c,h1,mb2,sb2,ka,kc,admitS x m q0 q1 q2,stars [rowL q0 x.s0.h.l,rowL q1 x.s1.h.l,rowL q2 m.h.l,.any A]⟩) (R:=[.any (stars H)]) ⟨hk1,rs_gr hkey Gr.of,⟨a0I (T:=5) (ad:=q0.1) (c:=q0.2) (l:=x.s0.h.l) hA,a0I (T:=5) (ad:=q1.1) (c:=q1.2) (l:=x.s1.h.l) hA,a0I (T:=5) (ad:=q2.1) (c:=q2.2) (l:=m.h.l) hA⟩,rfl⟩ ent ?_
 refine a0E () rfl rfl rfl trivial ?_
 exact ent
theorem pk_takes_off (H:List Hl) (db:Nat) (key:List (BitVec 8)) (f:Fl) (s:StD) (ad2:Option Addr) (m2 c2:Nat) (b:List (BitVec 8)) (hb:Rs (stars H) B ad2 c2 (frameB 2#8 b)) (hm2:m2=b.length+9) (hbl:b.length≤291) (hb1:1≤b.length) (hkl:key.length≤64) (ss id:BitVec 32) (xs:List (BitVec 8)) (hsym:symB ss id xs=b) (hx1:1≤xs.length) (hx2:xs.length≤16) (ho:s.on=false) :
  Spec Tryz.prog 12 [.pointer (some ⟨db,0,none⟩),.slice ad2 m2 c2] (.any (dvI key f s db)::H) (fun _:Unit=>True) (fun _=>I 14) (fun _ => .any (dvI key f s db)::H):=by
 refine Spec.som (by kernel_rfl) (fun ⟨fb,ad,c,h,mb,sb,ka,kc,x,A⟩ hl0=>?_)
 obtain ⟨hk,hkey,hx,hnf⟩:=hl0
 dsimp only at hk hkey hx hnf
 subst hnf
 show Spec _ _ _ ([dvB db fb ka key.length kc (pM mb),meB mb x none,fB fb ad c f h,fR ad c f,.any A]++H) _ _ _
 refine sF (res:=fun _:Unit=>[.any (dvI key f (nf x) db)]) [dvB db fb ka key.length kc (pM mb),meB mb x none,fB fb ad c f h,fR ad c f,.any A] H Tryz.func12 Tryz.ntmps12 fun W=>?_
 dsimp only [cA,nA]
 have hml:b.length=xs.length+8:=by rw [←hsym];simp [symB,be4]
 repeat' (first|intro _|refine a0S rfl rfl ?_|(refine k_fn 33 ?_;refine a0A (fun _=>a1Q db fb ka key.length kc mb x none) rfl (fun _ _=>?_))|(refine k_fn 34 ?_;(refine a0A (fun _=>a3Y _ 2#8 ad2 m2 c2 b hb.up hm2 hbl hb1) rfl (fun ⟨a18,c18⟩ _=>?_);(try dsimp only);rw [show (((2#8:BitVec 8).toNat:Nat):Int)=2 from rfl]))|(refine k_fn 37 ?_;(refine a0V (dvB db fb ka key.length kc (pM mb)::meB mb x none::[.row 5 1 (.slice a18 (b.length+3) c18) (b.length+3) ((innB 2#8 b).map B),fB fb ad c f h,fR ad c f,.any A,.any (stars H)]) (Ent.out ent) (fun hh=>dv_takes_off _ db fb ka key.length kc mb x none (cutA a18 c18 3) b.length (c18 - 3) ss id xs (a3U (T:=5) (ad:=a18) (c:=c18) (n:=b.length+3) (l:=innB 2#8 b) (enc:=B) 3 (by rw [a3T];omega) ((a4U _ _).trans hsym.symm) (a0B (a0B hh))) hml hx1 hx2 ho) rfl (fun _ _=>?_);(try dsimp only)))|(refine k_fn 35 ?_;refine a0G (b:=db) (fun _=>a8P _ db fb ka key.length kc (pM mb) 14 (by decide)) rfl (fun _ _=>?_))|refine wK ?_|refine wL ?_ ?_|fail)
 refine b1S (l:=⟨fb,ad,c,h,mb,sb,ka,kc,x,A⟩) (R:=[.any (stars H)]) ⟨hk,hkey,hx,rfl⟩ ent ?_
 refine a0E () rfl rfl rfl trivial ?_
 exact ent
theorem pk_takes_fit (H:List Hl) (db:Nat) (key:List (BitVec 8)) (f:Fl) (s:StD) (st:Sto) (ad2:Option Addr) (m2 c2:Nat) (b:List (BitVec 8)) (hb:Rs (stars H) B ad2 c2 (frameB 2#8 b)) (hm2:m2=b.length+9) (hbl:b.length≤291) (hb1:1≤b.length) (hkl:key.length≤64) (ss id:BitVec 32) (xs:List (BitVec 8)) (hsym:symB ss id xs=b) (hx1:1≤xs.length) (hx2:xs.length≤16) (p:Prm) (len:Nat) (e:Int) (ho:s.on=true) (hp:IsP s.m p len) (he:fitsP p.k p.p p.z ss p.s xs.length=e) (hne:e≠0) (h11:e≠11) :
  Spec Tryz.prog 12 [.pointer (some ⟨db,0,none⟩),.slice ad2 m2 c2] (.any (dvL key f s st db)::H) (fun _:Unit=>True) (fun _=>I e) (fun _ => .any (dvL key f s st db)::H):=by
 refine Spec.som (by kernel_rfl) (fun ⟨fb,ad,c,h,mb,sb,ka,kc,x,A⟩ hl0=>?_)
 obtain ⟨hk,hkey,hx,hnf⟩:=hl0
 dsimp only at hk hkey hx hnf
 subst hnf
 show Spec _ _ _ ([dvB db fb ka key.length kc (pM mb),meB mb x (some ⟨sb,0,none⟩),.any (stP st fb sb),fB fb ad c f h,fR ad c f,.any A]++H) _ _ _
 refine sF (res:=fun _:Unit=>[.any (dvL key f (nf x) st db)]) [dvB db fb ka key.length kc (pM mb),meB mb x (some ⟨sb,0,none⟩),.any (stP st fb sb),fB fb ad c f h,fR ad c f,.any A] H Tryz.func12 Tryz.ntmps12 fun W=>?_
 dsimp only [cA,nA]
 have hml:b.length=xs.length+8:=by rw [←hsym];simp [symB,be4]
 repeat' (first|intro _|refine a0S rfl rfl ?_|(refine k_fn 33 ?_;refine a0A (fun _=>a1Q db fb ka key.length kc mb x (some ⟨sb,0,none⟩)) rfl (fun _ _=>?_))|(refine k_fn 34 ?_;(refine a0A (fun _=>a3Y _ 2#8 ad2 m2 c2 b hb.up hm2 hbl hb1) rfl (fun ⟨a18,c18⟩ _=>?_);(try dsimp only);rw [show (((2#8:BitVec 8).toNat:Nat):Int)=2 from rfl]))|(refine k_fn 37 ?_;(refine a0V (dvB db fb ka key.length kc (pM mb)::meB mb x (some ⟨sb,0,none⟩)::[.row 5 1 (.slice a18 (b.length+3) c18) (b.length+3) ((innB 2#8 b).map B),.any (stP st fb sb),fB fb ad c f h,fR ad c f,.any A,.any (stars H)]) (Ent.out ent) (fun hh=>dv_takes_fit _ db fb ka key.length kc mb x (some ⟨sb,0,none⟩) (cutA a18 c18 3) b.length (c18 - 3) ss id xs (a3U (T:=5) (ad:=a18) (c:=c18) (n:=b.length+3) (l:=innB 2#8 b) (enc:=B) 3 (by rw [a3T];omega) ((a4U _ _).trans hsym.symm) (a0B (a0B hh))) hml hx1 hx2 p len e ho ⟨hp.ok,hp.es,hp.en,hp.ez,hp.ep,hp.ec⟩ he hne) rfl (fun _ _=>?_);(try dsimp only)))|(refine k_fn 35 ?_;refine a0G (b:=db) (fun _=>a8P _ db fb ka key.length kc (pM mb) e h11) rfl (fun _ _=>?_))|refine wK ?_|refine wL ?_ ?_|fail)
 refine b0C (l:=⟨fb,ad,c,h,mb,sb,ka,kc,x,A⟩) (R:=[.any (stars H)]) ⟨hk,hkey,hx,rfl⟩ ent ?_
 refine a0E () rfl rfl rfl trivial ?_
 exact ent
theorem a9G (H:List Hl) (db:Nat) (key:List (BitVec 8)) (f:Fl) (s:StD) (st:Sto) (ad2:Option Addr) (m2 c2:Nat) (b:List (BitVec 8)) (hb:Rs (stars H) B ad2 c2 (frameB 2#8 b)) (hm2:m2=b.length+9) (hbl:b.length≤291) (hb1:1≤b.length) (hkl:key.length≤64) (ss id:BitVec 32) (xs:List (BitVec 8)) (hsym:symB ss id xs=b) (hx1:1≤xs.length) (hx2:xs.length≤16) (len:Nat) (v:List Bool) (ho:s.on=true) (hp:IsP s.m st.p len) (hss:ss=st.p.s) (hz:xs.length=st.p.z) (hR:RR st.p.n st.p.z st.d.M) (htk:st.d.t≤1000) (hv:SpRow st.p id v) (hd:f.pw.isDown=false) (hn:st.nxt≤8*plW st.p.z) (ht:TabF (stars H)) (f1:Fl) (e:Int) (hput:putS st f id v xs=(st,f1,e)) (hne:e≠0) (h11:e≠11) :
  Spec Tryz.prog 12 [.pointer (some ⟨db,0,none⟩),.slice ad2 m2 c2] (.any (dvL key f s st db)::H) (fun _:Unit=>True) (fun _=>I e) (fun _ => .any (dvL key f1 s st db)::H):=by
 refine Spec.som (by kernel_rfl) (fun ⟨fb,ad,c,h,mb,sb,ka,kc,x,A⟩ hl0=>?_)
 obtain ⟨hk,hkey,hx,hnf⟩:=hl0
 dsimp only at hk hkey hx hnf
 subst hnf
 show Spec _ _ _ ([dvB db fb ka key.length kc (pM mb),meB mb x (some ⟨sb,0,none⟩),.any (stP st fb sb),fB fb ad c f h,fR ad c f,.any A]++H) _ _ _
 refine sF (res:=fun _:Unit=>[.any (dvL key f1 (nf x) st db)]) [dvB db fb ka key.length kc (pM mb),meB mb x (some ⟨sb,0,none⟩),.any (stP st fb sb),fB fb ad c f h,fR ad c f,.any A] H Tryz.func12 Tryz.ntmps12 fun W=>?_
 dsimp only [cA,nA]
 have hml:b.length=xs.length+8:=by rw [←hsym];simp [symB,be4]
 repeat' (first|intro _|refine a0S rfl rfl ?_|(refine k_fn 33 ?_;refine a0A (fun _=>a1Q db fb ka key.length kc mb x (some ⟨sb,0,none⟩)) rfl (fun _ _=>?_))|(refine k_fn 34 ?_;(refine a0A (fun _=>a3Y _ 2#8 ad2 m2 c2 b hb.up hm2 hbl hb1) rfl (fun ⟨a18,c18⟩ _=>?_);(try dsimp only);rw [show (((2#8:BitVec 8).toNat:Nat):Int)=2 from rfl]))|(refine k_fn 37 ?_;(refine a0V (dvB db fb ka key.length kc (pM mb)::meB mb x (some ⟨sb,0,none⟩) :: .any (stP st fb sb)::fB fb ad c f h::fR ad c f::[.row 5 1 (.slice a18 (b.length+3) c18) (b.length+3) ((innB 2#8 b).map B),.any A,.any (stars H)]) (Ent.out ent) (fun hh=>dv_takes_no _ db fb ka key.length kc mb x sb (cutA a18 c18 3) b.length (c18 - 3) ss id xs (a3U (T:=5) (ad:=a18) (c:=c18) (n:=b.length+3) (l:=innB 2#8 b) (enc:=B) 3 (by rw [a3T];omega) ((a4U _ _).trans hsym.symm) (a0B (a0B (a0B (a0B (a0B hh)))))) hml hx1 hx2 ad c f h st len v ho ⟨hp.ok,hp.es,hp.en,hp.ez,hp.ep,hp.ec⟩ hss hz hR htk hv hk hd hn ht.up f1 e hput hne) rfl (fun h1 hk1=>?_);(try dsimp only)))|(refine k_fn 35 ?_;refine a0G (b:=db) (fun _=>a8P _ db fb ka key.length kc (pM mb) e h11) rfl (fun _ _=>?_))|refine wK ?_|refine wL ?_ ?_|fail)
 refine b0C (l:=⟨fb,ad,c,h1,mb,sb,ka,kc,x,A⟩) (R:=[.any (stars H)]) ⟨hk1,hkey,hx,rfl⟩ ent ?_
 refine a0E () rfl rfl rfl trivial ?_
 exact ent
theorem pk_takes_cut (H:List Hl) (db:Nat) (key:List (BitVec 8)) (f:Fl) (s:StD) (st:Sto) (ad2:Option Addr) (m2 c2:Nat) (b:List (BitVec 8)) (hb:Rs (stars H) B ad2 c2 (frameB 2#8 b)) (hm2:m2=b.length+9) (hbl:b.length≤291) (hb1:1≤b.length) (hkl:key.length≤64) (ss id:BitVec 32) (xs:List (BitVec 8)) (hsym:symB ss id xs=b) (hx1:1≤xs.length) (hx2:xs.length≤16) (len:Nat) (v:List Bool) (ho:s.on=true) (hp:IsP s.m st.p len) (hss:ss=st.p.s) (hz:xs.length=st.p.z) (hR:RR st.p.n st.p.z st.d.M) (htk:st.d.t≤1000) (hv:SpRow st.p id v) (hd:f.pw.isDown=false) (hn:st.nxt≤8*plW st.p.z) (ht:TabF (stars H)) (f1:Fl) (hput:putS st f id v xs=(st,f1,11)) :
  Spec Tryz.prog 12 [.pointer (some ⟨db,0,none⟩),.slice ad2 m2 c2] (.any (dvL key f s st db)::H) (fun _:Unit=>True) (fun _=>I 11) (fun _ => .any (dvO key f1 db)::H):=by
 refine Spec.som (by kernel_rfl) (fun ⟨fb,ad,c,h,mb,sb,ka,kc,x,A⟩ hl0=>?_)
 obtain ⟨hk,hkey,hx,hnf⟩:=hl0
 dsimp only at hk hkey hx hnf
 subst hnf
 show Spec _ _ _ ([dvB db fb ka key.length kc (pM mb),meB mb x (some ⟨sb,0,none⟩),.any (stP st fb sb),fB fb ad c f h,fR ad c f,.any A]++H) _ _ _
 refine sF (res:=fun _:Unit=>[.any (dvO key f1 db)]) [dvB db fb ka key.length kc (pM mb),meB mb x (some ⟨sb,0,none⟩),.any (stP st fb sb),fB fb ad c f h,fR ad c f,.any A] H Tryz.func12 Tryz.ntmps12 fun W=>?_
 dsimp only [cA,nA]
 have hml:b.length=xs.length+8:=by rw [←hsym];simp [symB,be4]
 repeat' (first|intro _|refine a0S rfl rfl ?_|(refine k_fn 33 ?_;refine a0A (fun _=>a1Q db fb ka key.length kc mb x (some ⟨sb,0,none⟩)) rfl (fun _ _=>?_))|(refine k_fn 34 ?_;(refine a0A (fun _=>a3Y _ 2#8 ad2 m2 c2 b hb.up hm2 hbl hb1) rfl (fun ⟨a18,c18⟩ _=>?_);(try dsimp only);rw [show (((2#8:BitVec 8).toNat:Nat):Int)=2 from rfl]))|(refine k_fn 37 ?_;(refine a0V (dvB db fb ka key.length kc (pM mb)::meB mb x (some ⟨sb,0,none⟩) :: .any (stP st fb sb)::fB fb ad c f h::fR ad c f::[.row 5 1 (.slice a18 (b.length+3) c18) (b.length+3) ((innB 2#8 b).map B),.any A,.any (stars H)]) (Ent.out ent) (fun hh=>dv_takes_no _ db fb ka key.length kc mb x sb (cutA a18 c18 3) b.length (c18 - 3) ss id xs (a3U (T:=5) (ad:=a18) (c:=c18) (n:=b.length+3) (l:=innB 2#8 b) (enc:=B) 3 (by rw [a3T];omega) ((a4U _ _).trans hsym.symm) (a0B (a0B (a0B (a0B (a0B hh)))))) hml hx1 hx2 ad c f h st len v ho ⟨hp.ok,hp.es,hp.en,hp.ez,hp.ep,hp.ec⟩ hss hz hR htk hv hk hd hn ht.up f1 11 hput (by decide)) rfl (fun h1 hk1=>?_);(try dsimp only)))|(refine k_fn 35 ?_;refine a0G (b:=db) (fun _=>a5M _ db fb ka key.length kc (pM mb)) rfl (fun _ _=>?_))|refine wK ?_|refine wL ?_ ?_|fail)
 refine b2Q (l:=⟨fb,ad,c,h1,mb,sb,ka,kc,x,A⟩) (R:=[.any (stars H)]) ⟨hk1,hkey⟩ ent ?_
 refine a0E () rfl rfl rfl trivial ?_
 exact ent
theorem b8P (H:List Hl) (db:Nat) (key:List (BitVec 8)) (f:Fl) (s:StD) (st:Sto) (ad2:Option Addr) (m2 c2:Nat) (b:List (BitVec 8)) (hb:Rs (stars H) B ad2 c2 (frameB 2#8 b)) (hm2:m2=b.length+9) (hbl:b.length≤291) (hb1:1≤b.length) (hkl:key.length≤64) (ss id:BitVec 32) (xs:List (BitVec 8)) (hsym:symB ss id xs=b) (hx1:1≤xs.length) (hx2:xs.length≤16) (len:Nat) (v:List Bool) (ho:s.on=true) (hp:IsP s.m st.p len) (hss:ss=st.p.s) (hz:xs.length=st.p.z) (hR:RR st.p.n st.p.z st.d.M) (htk:st.d.t≤1000) (hv:SpRow st.p id v) (hd:f.pw.isDown=false) (hn:st.nxt≤8*plW st.p.z) (ht:TabF (stars H)) (f1:Fl) (st1:Sto) (hput:putS st f id v xs=(st1,f1,0)) (hp1:st1.p.ok) (hb2:cntS st1.d.M≤1000) (hnd:((st1.p.n:Int) - cntS st1.d.M)≠0) :
  Spec Tryz.prog 12 [.pointer (some ⟨db,0,none⟩),.slice ad2 m2 c2] (.any (dvL key f s st db)::H) (fun _:Unit=>True) (fun _=>I 0) (fun _ => .any (dvL key f1 s st1 db)::H):=by
 refine Spec.som (by kernel_rfl) (fun ⟨fb,ad,c,h,mb,sb,ka,kc,x,A⟩ hl0=>?_)
 obtain ⟨hk,hkey,hx,hnf⟩:=hl0
 dsimp only at hk hkey hx hnf
 subst hnf
 show Spec _ _ _ ([dvB db fb ka key.length kc (pM mb),meB mb x (some ⟨sb,0,none⟩),.any (stP st fb sb),fB fb ad c f h,fR ad c f,.any A]++H) _ _ _
 refine sF (res:=fun _:Unit=>[.any (dvL key f1 (nf x) st1 db)]) [dvB db fb ka key.length kc (pM mb),meB mb x (some ⟨sb,0,none⟩),.any (stP st fb sb),fB fb ad c f h,fR ad c f,.any A] H Tryz.func12 Tryz.ntmps12 fun W=>?_
 dsimp only [cA,nA]
 have hml:b.length=xs.length+8:=by rw [←hsym];simp [symB,be4]
 repeat' (first|intro _|refine a0S rfl rfl ?_|(refine k_fn 33 ?_;refine a0A (fun _=>a1Q db fb ka key.length kc mb x (some ⟨sb,0,none⟩)) rfl (fun _ _=>?_))|(refine k_fn 34 ?_;(refine a0A (fun _=>a3Y _ 2#8 ad2 m2 c2 b hb.up hm2 hbl hb1) rfl (fun ⟨a18,c18⟩ _=>?_);(try dsimp only);rw [show (((2#8:BitVec 8).toNat:Nat):Int)=2 from rfl]))|(refine k_fn 37 ?_;(refine a0V (dvB db fb ka key.length kc (pM mb)::meB mb x (some ⟨sb,0,none⟩) :: .any (stP st fb sb)::fB fb ad c f h::fR ad c f::[.row 5 1 (.slice a18 (b.length+3) c18) (b.length+3) ((innB 2#8 b).map B),.any A,.any (stars H)]) (Ent.out ent) (fun hh=>dv_takes _ db fb ka key.length kc mb x sb (cutA a18 c18 3) b.length (c18 - 3) ss id xs (a3U (T:=5) (ad:=a18) (c:=c18) (n:=b.length+3) (l:=innB 2#8 b) (enc:=B) 3 (by rw [a3T];omega) ((a4U _ _).trans hsym.symm) (a0B (a0B (a0B (a0B (a0B hh)))))) hml hx1 hx2 ad c f h st len v ho ⟨hp.ok,hp.es,hp.en,hp.ez,hp.ep,hp.ec⟩ hss hz hR htk hv hk hd hn ht.up f1 st1 hput hp1 hb2 hnd) rfl (fun h1 hk1=>?_);(try dsimp only)))|(refine k_fn 35 ?_;refine a0G (b:=db) (fun _=>a8P _ db fb ka key.length kc (pM mb) 0 (by decide)) rfl (fun _ _=>?_))|refine wK ?_|refine wL ?_ ?_|fail)
 refine b0C (l:=⟨fb,ad,c,h1,mb,sb,ka,kc,x,A⟩) (R:=[.any (stars H)]) ⟨hk1,hkey,hx,rfl⟩ ent ?_
 refine a0E () rfl rfl rfl trivial ?_
 exact ent
theorem b0D (H:List Hl) (db:Nat) (key:List (BitVec 8)) (f:Fl) (s:StD) (st:Sto) (ad2:Option Addr) (m2 c2:Nat) (b:List (BitVec 8)) (hb:Rs (stars H) B ad2 c2 (frameB 2#8 b)) (hm2:m2=b.length+9) (hbl:b.length≤291) (hb1:1≤b.length) (hkl:key.length≤64) (ss id:BitVec 32) (xs:List (BitVec 8)) (hsym:symB ss id xs=b) (hx1:1≤xs.length) (hx2:xs.length≤16) (len:Nat) (v:List Bool) (ho:s.on=true) (hp:IsP s.m st.p len) (hss:ss=st.p.s) (hz:xs.length=st.p.z) (hR:RR st.p.n st.p.z st.d.M) (htk:st.d.t≤1000) (hv:SpRow st.p id v) (hd:f.pw.isDown=false) (hn:st.nxt≤8*plW st.p.z) (ht:TabF (stars H)) (f1:Fl) (st1:Sto) (hput:putS st f id v xs=(st1,f1,0)) (hp1:st1.p.ok) (hb2:cntS st1.d.M≤1000) (hnd:cntS st1.d.M=st1.p.n) (im:List (BitVec 8)) (hR1:RR st1.p.n st1.p.z st1.d.M) (hl:count st1.len st1.p.z=st1.p.k) (him:imgB st1.p st1.d st1.len=im) (hi1:1≤im.length) (hi2:im.length≤512) (hsh:sha im=s.m.h.l) (hd1:f1.pw.isDown=false) (hms:s.may=true) (htr:s.t=0) (f2:Fl) (hF:finF f1 s im=(f2,0)) :
  Spec Tryz.prog 12 [.pointer (some ⟨db,0,none⟩),.slice ad2 m2 c2] (.any (dvL key f s st db)::H) (fun _:Unit=>True) (fun _=>I 0) (fun _ => .any (dvI key f2 (Go.Dp.nf (actS s)) db)::H):=by
 refine Spec.som (by kernel_rfl) (fun ⟨fb,ad,c,h,mb,sb,ka,kc,x,A⟩ hl0=>?_)
 obtain ⟨hk,hkey,hx,hnf⟩:=hl0
 dsimp only at hk hkey hx hnf
 subst hnf
 show Spec _ _ _ ([dvB db fb ka key.length kc (pM mb),meB mb x (some ⟨sb,0,none⟩),.any (stP st fb sb),fB fb ad c f h,fR ad c f,.any A]++H) _ _ _
 refine sF (res:=fun _:Unit=>[.any (dvI key f2 (Go.Dp.nf (actS (nf x))) db)]) [dvB db fb ka key.length kc (pM mb),meB mb x (some ⟨sb,0,none⟩),.any (stP st fb sb),fB fb ad c f h,fR ad c f,.any A] H Tryz.func12 Tryz.ntmps12 fun W=>?_
 dsimp only [cA,nA]
 have hml:b.length=xs.length+8:=by rw [←hsym];simp [symB,be4]
 have hmx:x.may=true:=by rw [←hms,a6T]
 rw [c1S] at hF
 have hF2:finF f1 x im=(f2,0):=hF
 repeat' (first|intro _|refine a0S rfl rfl ?_|(refine k_fn 33 ?_;refine a0A (fun _=>a1Q db fb ka key.length kc mb x (some ⟨sb,0,none⟩)) rfl (fun _ _=>?_))|(refine k_fn 34 ?_;(refine a0A (fun _=>a3Y _ 2#8 ad2 m2 c2 b hb.up hm2 hbl hb1) rfl (fun ⟨a18,c18⟩ _=>?_);(try dsimp only);rw [show (((2#8:BitVec 8).toNat:Nat):Int)=2 from rfl]))|(refine k_fn 37 ?_;(refine a0V (dvB db fb ka key.length kc (pM mb)::meB mb x (some ⟨sb,0,none⟩) :: .any (stP st fb sb)::fB fb ad c f h::fR ad c f::[.row 5 1 (.slice a18 (b.length+3) c18) (b.length+3) ((innB 2#8 b).map B),.any A,.any (stars H)]) (Ent.out ent) (fun hh=>dv_takes_fin _ db fb ka key.length kc mb x sb (cutA a18 c18 3) b.length (c18 - 3) ss id xs (a3U (T:=5) (ad:=a18) (c:=c18) (n:=b.length+3) (l:=innB 2#8 b) (enc:=B) 3 (by rw [a3T];omega) ((a4U _ _).trans hsym.symm) (a0B (a0B (a0B (a0B (a0B hh)))))) hml hx1 hx2 ad c f h st len v ho ⟨hp.ok,hp.es,hp.en,hp.ez,hp.ep,hp.ec⟩ hss hz hR htk hv hk hd hn ht.up f1 st1 hput hp1 hb2 hnd im hR1 hl him hi1 hi2 hsh hd1 hmx htr ⟨hx.s0.up,hx.s1.up,hx.m.up⟩ f2 hF2) rfl (fun ⟨h2,mb2,q1,q2⟩ hk2=>?_);(try dsimp only at hk2 ⊢)))|(refine k_fn 35 ?_;refine a0G (b:=db) (fun _=>a8P _ db fb ka key.length kc (pM mb2) 0 (by decide)) rfl (fun _ _=>?_))|refine wK ?_|refine wL ?_ ?_|fail)
 refine a4H [rowL q1 (actS x).s0.h.l,rowL q2 (actS x).s1.h.l,.any A] [dvB db fb ka key.length kc (pM mb2),meB mb2 (copyS (actS x) q1 q2 (none,0)) none,fB fb ad c f2 h2,fR ad c f2,.any (stars H)] ent ?_
 refine b1R (fun hh=>?_)
 have hA:=a5L hh
 refine b1S (l:=⟨fb,ad,c,h2,mb2,sb,ka,kc,copyS (actS x) q1 q2 (none,0),stars [rowL q1 (actS x).s0.h.l,rowL q2 (actS x).s1.h.l,.any A]⟩) (R:=[.any (stars H)]) ⟨hk2,rs_gr hkey Gr.of,⟨a0I (T:=5) (ad:=q1.1) (c:=q1.2) (l:=(actS x).s0.h.l) hA,a0I (T:=5) (ad:=q2.1) (c:=q2.2) (l:=(actS x).s1.h.l) hA,rs00 hA⟩,c1T x q1 q2⟩ ent ?_
 refine a0E () rfl rfl rfl trivial ?_
 exact ent
theorem pk_takes_fin_no (H:List Hl) (db:Nat) (key:List (BitVec 8)) (f:Fl) (s:StD) (st:Sto) (ad2:Option Addr) (m2 c2:Nat) (b:List (BitVec 8)) (hb:Rs (stars H) B ad2 c2 (frameB 2#8 b)) (hm2:m2=b.length+9) (hbl:b.length≤291) (hb1:1≤b.length) (hkl:key.length≤64) (ss id:BitVec 32) (xs:List (BitVec 8)) (hsym:symB ss id xs=b) (hx1:1≤xs.length) (hx2:xs.length≤16) (len:Nat) (v:List Bool) (ho:s.on=true) (hp:IsP s.m st.p len) (hss:ss=st.p.s) (hz:xs.length=st.p.z) (hR:RR st.p.n st.p.z st.d.M) (htk:st.d.t≤1000) (hv:SpRow st.p id v) (hd:f.pw.isDown=false) (hn:st.nxt≤8*plW st.p.z) (ht:TabF (stars H)) (f1:Fl) (st1:Sto) (hput:putS st f id v xs=(st1,f1,0)) (hp1:st1.p.ok) (hb2:cntS st1.d.M≤1000) (hnd:cntS st1.d.M=st1.p.n) (im:List (BitVec 8)) (hR1:RR st1.p.n st1.p.z st1.d.M) (hl:count st1.len st1.p.z=st1.p.k) (him:imgB st1.p st1.d st1.len=im) (hi1:1≤im.length) (hi2:im.length≤512) (hsh:sha im=s.m.h.l) (hd1:f1.pw.isDown=false) (hms:s.may=true) (htr:s.t=0) (f2:Fl) (hF:finF f1 s im=(f2,11)) :
  Spec Tryz.prog 12 [.pointer (some ⟨db,0,none⟩),.slice ad2 m2 c2] (.any (dvL key f s st db)::H) (fun _:Unit=>True) (fun _=>I 11) (fun _ => .any (dvO key f2 db)::H):=by
 refine Spec.som (by kernel_rfl) (fun ⟨fb,ad,c,h,mb,sb,ka,kc,x,A⟩ hl0=>?_)
 obtain ⟨hk,hkey,hx,hnf⟩:=hl0
 dsimp only at hk hkey hx hnf
 subst hnf
 show Spec _ _ _ ([dvB db fb ka key.length kc (pM mb),meB mb x (some ⟨sb,0,none⟩),.any (stP st fb sb),fB fb ad c f h,fR ad c f,.any A]++H) _ _ _
 refine sF (res:=fun _:Unit=>[.any (dvO key f2 db)]) [dvB db fb ka key.length kc (pM mb),meB mb x (some ⟨sb,0,none⟩),.any (stP st fb sb),fB fb ad c f h,fR ad c f,.any A] H Tryz.func12 Tryz.ntmps12 fun W=>?_
 dsimp only [cA,nA]
 have hml:b.length=xs.length+8:=by rw [←hsym];simp [symB,be4]
 have hmx:x.may=true:=by rw [←hms,a6T]
 rw [c1S] at hF
 have hF2:finF f1 x im=(f2,11):=hF
 repeat' (first|intro _|refine a0S rfl rfl ?_|(refine k_fn 33 ?_;refine a0A (fun _=>a1Q db fb ka key.length kc mb x (some ⟨sb,0,none⟩)) rfl (fun _ _=>?_))|(refine k_fn 34 ?_;(refine a0A (fun _=>a3Y _ 2#8 ad2 m2 c2 b hb.up hm2 hbl hb1) rfl (fun ⟨a18,c18⟩ _=>?_);(try dsimp only);rw [show (((2#8:BitVec 8).toNat:Nat):Int)=2 from rfl]))|(refine k_fn 37 ?_;(refine a0V (dvB db fb ka key.length kc (pM mb)::meB mb x (some ⟨sb,0,none⟩) :: .any (stP st fb sb)::fB fb ad c f h::fR ad c f::[.row 5 1 (.slice a18 (b.length+3) c18) (b.length+3) ((innB 2#8 b).map B),.any A,.any (stars H)]) (Ent.out ent) (fun hh=>dv_takes_fin_no _ db fb ka key.length kc mb x sb (cutA a18 c18 3) b.length (c18 - 3) ss id xs (a3U (T:=5) (ad:=a18) (c:=c18) (n:=b.length+3) (l:=innB 2#8 b) (enc:=B) 3 (by rw [a3T];omega) ((a4U _ _).trans hsym.symm) (a0B (a0B (a0B (a0B (a0B hh)))))) hml hx1 hx2 ad c f h st len v ho ⟨hp.ok,hp.es,hp.en,hp.ez,hp.ep,hp.ec⟩ hss hz hR htk hv hk hd hn ht.up f1 st1 hput hp1 hb2 hnd im hR1 hl him hi1 hi2 hsh hd1 hmx htr ⟨hx.s0.up,hx.s1.up,hx.m.up⟩ f2 11 hF2 (by decide)) rfl (fun h2 hk2=>?_);(try dsimp only)))|(refine k_fn 35 ?_;refine a0G (b:=db) (fun _=>a5M _ db fb ka key.length kc (pM mb)) rfl (fun _ _=>?_))|refine wK ?_|refine wL ?_ ?_|fail)
 refine b2Q (l:=⟨fb,ad,c,h2,mb,sb,ka,kc,x,A⟩) (R:=[.any (stars H)]) ⟨hk2,hkey⟩ ent ?_
 refine a0E () rfl rfl rfl trivial ?_
 exact ent
end Go.Dp
