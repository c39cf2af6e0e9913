/-
  Downpour, walked and proved: part 20.
  Conditions: those that stand in each theorem.
-/
import Derived.Test.YtcblcmdikhllbaaGreatDoorQTopEnough3
import Derived.Test.YtcblcmdikhllbaaGreatDoorQTopEnough16
import Derived.Test.YtcblcmdikhllbaaGreatDoorQTopEnough19
import Derived.Test.YtcblcmdikhllbaaGreatDoorQTopEnough17
import Derived.Test.YtcblcmdikhllbaaGreatDoorQTopEnough7
import Derived.Test.YtcblcmdikhllbaaGreatDoorQTopEnough1
import Derived.Test.YtcblcmdikhllbaaGreatDoorRows
import Derived.LaidMore
import Derived.LaidHandle
import Derived.MakeChecks
import Derived.Test.YtcblcmdikhllbaaGreatDoorQTopEnough4
set_option linter.unusedVariables false
set_option linter.unusedSimpArgs false
set_option maxHeartbeats 64000000
namespace Go.Dp
open Go.RowKit Go.Proofs Sha
def hdT (a b:List (BitVec 8)) (c:Bool):HdD:=if c then ⟨twoP b,20#32,twoI b⟩ else ⟨oneP a,10#32,oneI a⟩
theorem hds_T (a b:List (BitVec 8)):Hds (hdT a b):=⟨fun c=>by cases c;exact (c1Q a).1;exact (c0C b).1,rfl,rfl,fun c=>by
 cases c
 ·have:=(c1Q a).2;show (oneP a).k≤40;omega
 ·have:=(c0C b).2;show (twoP b).k≤40;omega,fun c=>by cases c;exact (c0I a 1#8).1;exact (c0I b 2#8).1,fun c c' h=>by
 cases c <;> cases c'
 ·exact absurd rfl h
 ·show (7#32:BitVec 32)≠8#32;decide
 ·show (8#32:BitVec 32)≠7#32;decide
 ·exact absurd rfl h⟩
inductive EvK where
 | first (c:Bool)|sym (c:Bool) (id:BitVec 32)|fuse (m:Nat) (t:Int)|power|boot|confirm
def evVal (hd:Bool→HdD):EvK→PA→Value
 | .first c,r=>evV 1 r.1 85 r.2 0 0
 | .sym c id,r=>evV 1 r.1 (8+(hd c).p.z+9) r.2 0 0
 | .fuse m t,r=>evV 2 none 0 0 m t
 | .power,r=>evV 3 none 0 0 0 0
 | .boot,r=>evV 4 none 0 0 0 0
 | .confirm,r=>evV 5 none 0 0 0 0
def evRow (hd:Bool→HdD):EvK→PA→List Hl
 | .first c,r=>[.row 5 1 (.slice r.1 85 r.2) 85 ((frameB 1#8 (fstP (hd c).p (hd c).v (hd c).im)).map B)]
 | .sym c id,r=>[.row 5 1 (.slice r.1 (8+(hd c).p.z+9) r.2) (8+(hd c).p.z+9) ((frameB 2#8 (symA (hd c) id)).map B)]
 | _,_=>[]
def evOk:EvK→Prop
 | .fuse m _=>m≤1000000
 | _=>True
theorem TabF.any {A:Hp→Prop} {R:List Hl} (h:TabF (stars R)):TabF (stars [.any (stars (.any A::R))]) :=
 ⟨fun j hj=>c1V ⟨fun w hw=>(h.c j hj).cell w (sep_right hw)⟩⟩
theorem any_do {hd:Bool→HdD} {n db:Nat} {D:Hp→Prop} (Hh:Hds hd) (h:DevAny hd n db D) (hn:n<3700) (ek:EvK) (ho:evOk ek) :
  ∃ D' v,DevAny hd (n+6) db D'∧∀ (H:List Hl) (r:PA),TabF (stars H) →
   Spec Tryz.prog 25 [.pointer (some ⟨db,0,none⟩),evVal hd ek r] (.any D :: .any (stars (evRow hd ek r))::H) (fun _:Unit=>True) (fun _=>I v) (fun _ => .any D' :: .any (stars (evRow hd ek r))::H):=by
 cases ek with
 | first c =>
  obtain ⟨D',v,q1,q2⟩:=any_first Hh h (by omega) c
  refine ⟨D',v,q1,fun H r ht=>Spec.has (by kernel_rfl) (fun hh=>do_packet _ db D D' v r.1 85 r.2 0 0 (q2 _ r.1 r.2 (TabF.any ht) ?_))⟩
  have hA:Has [.row 5 1 (.slice r.1 85 r.2) 85 ((frameB 1#8 (fstP (hd c).p (hd c).v (hd c).im)).map B)]:=a5L (a0B hh)
  have:=a0I (T:=5) (enc:=B) (ad:=r.1) (c:=r.2) (n:=85) (l:=frameB 1#8 (fstP (hd c).p (hd c).v (hd c).im)) hA
  exact c2E (Rs.mono this (fun w hw=>b4X hw))
 | sym c id =>
  obtain ⟨D',v,q1,q2⟩:=any_sym Hh h (by omega) c id
  refine ⟨D',v,q1,fun H r ht=>Spec.has (by kernel_rfl) (fun hh=>do_packet _ db D D' v r.1 _ r.2 0 0 (q2 _ r.1 r.2 (TabF.any ht) ?_))⟩
  have hA:Has [.row 5 1 (.slice r.1 (8+(hd c).p.z+9) r.2) (8+(hd c).p.z+9) ((frameB 2#8 (symA (hd c) id)).map B)]:=a5L (a0B hh)
  have:=a0I (T:=5) (enc:=B) (ad:=r.1) (c:=r.2) (n:=8+(hd c).p.z+9) (l:=frameB 2#8 (symA (hd c) id)) hA
  exact c2E (Rs.mono this (fun w hw=>b4X hw))
 | fuse m t =>
  obtain ⟨D',q1,q2⟩:=any_fuse h m t ho
  exact ⟨D',0,q1.mono (by omega),fun H r ht=>q2 _ none 0 0⟩
 | power =>
  obtain ⟨f,s,E,q0⟩:=h.fl
  obtain ⟨D',v,q1,_,q2⟩:=any_power (db:=db) Hh E (by omega)
  exact ⟨D',v,q1,fun H r ht=>(do_power _ db (dvP keyT f db) D' v none 0 0 0 0 (q2 _ (TabF.any ht))).pre (q0 _)⟩
 | boot =>
  obtain ⟨D',v,q1,q2⟩:=any_boot Hh h (by omega)
  exact ⟨D',v,q1,fun H r ht=>do_boot _ db D D' v none 0 0 0 0 (q2 _)⟩
 | confirm =>
  obtain ⟨D',v,q1,q2⟩:=any_confirm Hh h (by omega)
  exact ⟨D',v,q1,fun H r ht=>do_confirm _ db D D' v none 0 0 0 0 (q2 _)⟩
theorem tp_light (H:List Hl) (ad:Option Addr) (n c:Nat) (hn:n≤4611686018427387904) :
  Spec Tryz.prog 24 [.slice ad n c] H (fun _:Unit=>True) (fun _ => .bool (decide (n≤100))) (fun _=>H):=by
 refine sP (res:=fun _=>[]) H Tryz.func24 Tryz.ntmps24 fun W=>?_
 repeat' (first|intro _|refine wK ?_|refine wL ?_ ?_|fail)
 refine a0Y (S:=Nat) (fun i=>[(0,.slice ad n c),(5,I n),(6,I i)]) (fun _=>[.any (stars H)]) (fun i=>i≤n∧i≤100) (fun i=>n - i) 0 ⟨Nat.zero_le _,Nat.zero_le _⟩ cv ent ?_
 rintro i ⟨h1,h2⟩
 by_cases hi:i<n
 ·by_cases h3:i=100
  ·repeat' (first|intro _|refine wK ?_|refine wL ?_ ?_|fail)
   refine a0E () rfl rfl (by rw [decide_eq_false (by omega)]) trivial ?_
   exact ent
  ·repeat' (first|intro _|refine wK ?_|refine wL ?_ ?_|fail)
   refine a0Q (i+1) ⟨by omega,by omega⟩ (by omega) cv ?_
   exact ent
 ·repeat' (first|intro _|refine wK ?_|refine wL ?_ ?_|fail)
  refine a0E () rfl rfl (by rw [decide_eq_true (by omega)]) trivial ?_
  exact ent
theorem c2N {p:Prm} {im:List (BitVec 8)} (hk:HdOk keyT p im (sha im)) (id:BitVec 32) (H:List Hl) (v:BitVec 32) (hb:Nat) (ht:TabF (stars H)) :
  Spec Tryz.prog 14 [.pointer (some ⟨hb,0,none⟩),W4 id] (.any (crP keyT p v im (sha im) hb)::H) (fun _:PA=>True) (fun q => .slice q.1 (8+p.z+9) q.2)
   (fun q => .row 5 1 (.slice q.1 (8+p.z+9) q.2) (8+p.z+9) ((frameB 2#8 (symB p.s id (datP p im (rowA p id)))).map B) :: .any (crP keyT p v im (sha im) hb)::H):=by
 obtain ⟨p1,p2,p3,p4,p5⟩:=hk.ok.out
 exact cr_Symbol H keyT p v im (sha im) hb hk id (rowA p id) _ p.z (b5Z p id hk.ok) (symD_any id hk.ok) (a1K _ _ _) p4 p5 ht
abbrev DeeD:=Int × Int × Int × BitVec 32 × Unit
abbrev deedC (u:DeeD):List Value:=[I u.1,I u.2.1,I u.2.2.1,W4 u.2.2.2.1]
theorem tp_event (a b:List (BitVec 8)) (u:DeeD):∃ ek:EvK,evOk ek∧∀ (H:List Hl) (h1 h2:Nat),TabF (stars H) →
  Spec Tryz.prog 26 [.agg (deedC u).toArray,.pointer (some ⟨h1,0,none⟩),.pointer (some ⟨h2,0,none⟩)] (oneC a h1::twoC b h2::H) (fun _:PA=>True) (fun r=>evVal (hdT a b) ek r) (fun r => .any (stars (evRow (hdT a b) ek r))::oneC a h1::twoC b h2::H):=by
 obtain ⟨d0,d1,d2,d3,d4⟩:=u
 obtain ⟨K,hK⟩:∃ K:Int,((BitVec.ofInt 64 d0).toNat:Int) % 12=K:=⟨_,rfl⟩
 obtain ⟨M,hM⟩:∃ M:Nat,((BitVec.ofInt 64 d1).toNat:Int) % 400=(M:Int):=⟨((BitVec.ofInt 64 d1).toNat % 400),by omega⟩
 obtain ⟨j,hj⟩:∃ j:BitVec 32,((d3.toNat:Nat):Int) % 40=(j.toNat:Int):=⟨BitVec.ofNat 32 (d3.toNat % 40),by
  rw [BitVec.toNat_ofNat,Nat.mod_eq_of_lt (by have:=Nat.mod_lt d3.toNat (show 0<40 by decide);omega)];omega⟩
 have hk1:=(c1Q a).1
 have hk2:=(c0C b).1
 have hC:K=0∨K=1∨(K=2∨K=3∨K=4)∨(K=5∨K=6)∨K=7∨(K=8∨K=9)∨K=10∨K=11:=by omega
 rcases hC with hC|hC|hC|hC|hC|hC|hC|hC
 ·refine ⟨.first false,trivial,fun H h1 h2 ht=>?_⟩
  refine sF (res:=fun r:PA=>[.any (stars (evRow (hdT a b) (.first false) r)),oneC a h1,twoC b h2]) [oneC a h1,twoC b h2] H Tryz.func26 Tryz.ntmps26 fun W=>?_
  dsimp only [cA,nA]
  subst hC
  repeat' (first|intro _|(refine k_box ?_;refine a1V rfl rfl (fun b3=>?_))|(refine a1O ?_;refine a1D rfl (fun b6=>?_))|(refine a0K ?_;refine a0F (b:=b3) (i:=0) rfl rfl ?_)|(refine a0D .rem ?_;(refine a2J rfl rfl (by omega) ?_;rw [hK]))|(refine k_fn 13 ?_;(refine a0T (crP keyT (oneP a) 10#32 (oneI a) (sha (oneI a)) h1) (fun hh=>b3M _ keyT (oneP a) 10#32 (oneI a) (sha (oneI a)) h1 hk1) rfl (fun ⟨ax,cx⟩ _=>?_);(try dsimp only)))|refine wK ?_|refine wL ?_ ?_|fail)
  refine a4H (evRow (hdT a b) (.first false) (ax,cx)) [oneC a h1,twoC b h2,.box b6 62 (evC 1 ax 85 cx 0 0),.any (stars H)] (by dsimp only [evRow,hdT,List.nil_append];exact ent) ?_
  refine a5U (b:=b6) (ax,cx) rfl rfl rfl rfl trivial ?_
  exact ent
 ·refine ⟨.first true,trivial,fun H h1 h2 ht=>?_⟩
  refine sF (res:=fun r:PA=>[.any (stars (evRow (hdT a b) (.first true) r)),oneC a h1,twoC b h2]) [oneC a h1,twoC b h2] H Tryz.func26 Tryz.ntmps26 fun W=>?_
  dsimp only [cA,nA]
  subst hC
  repeat' (first|intro _|(refine k_box ?_;refine a1V rfl rfl (fun b3=>?_))|(refine a1O ?_;refine a1D rfl (fun b6=>?_))|(refine a0K ?_;refine a0F (b:=b3) (i:=0) rfl rfl ?_)|(refine a0D .rem ?_;(refine a2J rfl rfl (by omega) ?_;rw [hK]))|(refine k_fn 13 ?_;(refine a0T (crP keyT (twoP b) 20#32 (twoI b) (sha (twoI b)) h2) (fun hh=>b3M _ keyT (twoP b) 20#32 (twoI b) (sha (twoI b)) h2 hk2) rfl (fun ⟨ax,cx⟩ _=>?_);(try dsimp only)))|refine wK ?_|refine wL ?_ ?_|fail)
  refine a4H (evRow (hdT a b) (.first true) (ax,cx)) [oneC a h1,twoC b h2,.box b6 62 (evC 1 ax 85 cx 0 0),.any (stars H)] (by dsimp only [evRow,hdT,List.nil_append];exact ent) ?_
  refine a5U (b:=b6) (ax,cx) rfl rfl rfl rfl trivial ?_
  exact ent
 ·refine ⟨.sym false j,trivial,fun H h1 h2 ht=>?_⟩
  refine sF (res:=fun r:PA=>[.any (stars (evRow (hdT a b) (.sym false j) r)),oneC a h1,twoC b h2]) [oneC a h1,twoC b h2] H Tryz.func26 Tryz.ntmps26 fun W=>?_
  dsimp only [cA,nA]
  rcases hC with hC|hC|hC
  all_goals
   subst hC
   repeat' (first|intro _|(refine k_box ?_;refine a1V rfl rfl (fun b3=>?_))|(refine a1O ?_;refine a1D rfl (fun b6=>?_))|(refine a0K ?_;first|refine a0F (b:=b3) (i:=0) rfl rfl ?_|refine a0F (b:=b3) (i:=3) rfl rfl ?_)|(refine a0D .rem ?_;first|(refine a2J rfl rfl (by omega) ?_;rw [hK])|(refine a2J rfl rfl (by omega) ?_;rw [hj]))|(refine k_fn 14 ?_;(refine a0T (crP keyT (oneP a) 10#32 (oneI a) (sha (oneI a)) h1) (fun hh=>c2N hk1 j _ 10#32 h1 ht.up) rfl (fun ⟨ax,cx⟩ _=>?_);(try dsimp only)))|refine wK ?_|refine wL ?_ ?_|fail)
   refine a4H (evRow (hdT a b) (.sym false j) (ax,cx)) [oneC a h1,twoC b h2,.box b6 62 (evC 1 ax (8+(oneP a).z+9) cx 0 0),.any (stars H)] (by dsimp only [evRow,hdT,List.nil_append];exact ent) ?_
   refine a5U (b:=b6) (ax,cx) rfl rfl rfl rfl trivial ?_
   exact ent
 ·refine ⟨.sym true j,trivial,fun H h1 h2 ht=>?_⟩
  refine sF (res:=fun r:PA=>[.any (stars (evRow (hdT a b) (.sym true j) r)),oneC a h1,twoC b h2]) [oneC a h1,twoC b h2] H Tryz.func26 Tryz.ntmps26 fun W=>?_
  dsimp only [cA,nA]
  rcases hC with hC|hC
  all_goals
   subst hC
   repeat' (first|intro _|(refine k_box ?_;refine a1V rfl rfl (fun b3=>?_))|(refine a1O ?_;refine a1D rfl (fun b6=>?_))|(refine a0K ?_;first|refine a0F (b:=b3) (i:=0) rfl rfl ?_|refine a0F (b:=b3) (i:=3) rfl rfl ?_)|(refine a0D .rem ?_;first|(refine a2J rfl rfl (by omega) ?_;rw [hK])|(refine a2J rfl rfl (by omega) ?_;rw [hj]))|(refine k_fn 14 ?_;(refine a0T (crP keyT (twoP b) 20#32 (twoI b) (sha (twoI b)) h2) (fun hh=>c2N hk2 j _ 20#32 h2 ht.up) rfl (fun ⟨ax,cx⟩ _=>?_);(try dsimp only)))|refine wK ?_|refine wL ?_ ?_|fail)
   refine a4H (evRow (hdT a b) (.sym true j) (ax,cx)) [oneC a h1,twoC b h2,.box b6 62 (evC 1 ax (8+(twoP b).z+9) cx 0 0),.any (stars H)] (by dsimp only [evRow,hdT,List.nil_append];exact ent) ?_
   refine a5U (b:=b6) (ax,cx) rfl rfl rfl rfl trivial ?_
   exact ent
 ·refine ⟨.fuse M d2,(by show M≤_;omega),fun H h1 h2 ht=>?_⟩
  refine sF (res:=fun r:PA=>[.any (stars (evRow (hdT a b) (.fuse M d2) r)),oneC a h1,twoC b h2]) [oneC a h1,twoC b h2] H Tryz.func26 Tryz.ntmps26 fun W=>?_
  dsimp only [cA,nA]
  subst hC
  repeat' (first|intro _|(refine k_box ?_;refine a1V rfl rfl (fun b3=>?_))|(refine a1O ?_;refine a1D rfl (fun b6=>?_))|(refine a0K ?_;first|refine a0F (b:=b3) (i:=0) rfl rfl ?_|refine a0F (b:=b3) (i:=1) rfl rfl ?_|refine a0F (b:=b3) (i:=2) rfl rfl ?_)|(refine a0D .rem ?_;first|(refine a2J rfl rfl (by omega) ?_;rw [hK])|(refine a2J rfl rfl (by omega) ?_;rw [hM]))|(refine a1W ?_;refine a5Y rfl (by omega) ?_)|refine wK ?_|refine wL ?_ ?_|fail)
  refine a4H (evRow (hdT a b) (.fuse M d2) (none,0)) [oneC a h1,twoC b h2,.box b6 62 (evC 2 none 0 0 M d2),.any (stars H)] (by dsimp only [evRow,hdT,List.nil_append];exact ent) ?_
  refine a5U (b:=b6) (none,0) rfl rfl rfl rfl trivial ?_
  exact ent
 ·refine ⟨.power,trivial,fun H h1 h2 ht=>?_⟩
  refine sF (res:=fun r:PA=>[.any (stars (evRow (hdT a b) (.power) r)),oneC a h1,twoC b h2]) [oneC a h1,twoC b h2] H Tryz.func26 Tryz.ntmps26 fun W=>?_
  dsimp only [cA,nA]
  rcases hC with hC|hC
  all_goals
   subst hC
   repeat' (first|intro _|(refine k_box ?_;refine a1V rfl rfl (fun b3=>?_))|(refine a1O ?_;refine a1D rfl (fun b6=>?_))|(refine a0K ?_;refine a0F (b:=b3) (i:=0) rfl rfl ?_)|(refine a0D .rem ?_;(refine a2J rfl rfl (by omega) ?_;rw [hK]))|refine wK ?_|refine wL ?_ ?_|fail)
   refine a4H (evRow (hdT a b) (.power) (none,0)) [oneC a h1,twoC b h2,.box b6 62 (evC 3 none 0 0 0 0),.any (stars H)] (by dsimp only [evRow,hdT,List.nil_append];exact ent) ?_
   refine a5U (b:=b6) (none,0) rfl rfl rfl rfl trivial ?_
   exact ent
 ·refine ⟨.boot,trivial,fun H h1 h2 ht=>?_⟩
  refine sF (res:=fun r:PA=>[.any (stars (evRow (hdT a b) (.boot) r)),oneC a h1,twoC b h2]) [oneC a h1,twoC b h2] H Tryz.func26 Tryz.ntmps26 fun W=>?_
  dsimp only [cA,nA]
  subst hC
  repeat' (first|intro _|(refine k_box ?_;refine a1V rfl rfl (fun b3=>?_))|(refine a1O ?_;refine a1D rfl (fun b6=>?_))|(refine a0K ?_;refine a0F (b:=b3) (i:=0) rfl rfl ?_)|(refine a0D .rem ?_;(refine a2J rfl rfl (by omega) ?_;rw [hK]))|refine wK ?_|refine wL ?_ ?_|fail)
  refine a4H (evRow (hdT a b) (.boot) (none,0)) [oneC a h1,twoC b h2,.box b6 62 (evC 4 none 0 0 0 0),.any (stars H)] (by dsimp only [evRow,hdT,List.nil_append];exact ent) ?_
  refine a5U (b:=b6) (none,0) rfl rfl rfl rfl trivial ?_
  exact ent
 ·refine ⟨.confirm,trivial,fun H h1 h2 ht=>?_⟩
  refine sF (res:=fun r:PA=>[.any (stars (evRow (hdT a b) (.confirm) r)),oneC a h1,twoC b h2]) [oneC a h1,twoC b h2] H Tryz.func26 Tryz.ntmps26 fun W=>?_
  dsimp only [cA,nA]
  subst hC
  repeat' (first|intro _|(refine k_box ?_;refine a1V rfl rfl (fun b3=>?_))|(refine a1O ?_;refine a1D rfl (fun b6=>?_))|(refine a0K ?_;refine a0F (b:=b3) (i:=0) rfl rfl ?_)|(refine a0D .rem ?_;(refine a2J rfl rfl (by omega) ?_;rw [hK]))|refine wK ?_|refine wL ?_ ?_|fail)
  refine a4H (evRow (hdT a b) (.confirm) (none,0)) [oneC a h1,twoC b h2,.box b6 62 (evC 5 none 0 0 0 0),.any (stars H)] (by dsimp only [evRow,hdT,List.nil_append];exact ent) ?_
  refine a5U (b:=b6) (none,0) rfl rfl rfl rfl trivial ?_
  exact ent
theorem fst_nf (v:BitVec 32) (n:Nat) (d:List (BitVec 8)):nf (fstS v n (none,0) d)=fstS v n (none,0) d:=rfl
theorem env_make {hd:Bool→HdD} :
  ∃ f1 f2,slotW (newF 5000) 0 sunL=(f1,0)∧f1.pw.isDown=false∧cellW f1 sunS.by=(f2,0)∧f2.pw.isDown=false∧EnvF hd f2 3 sunS:=by
 have hl3:sunL.length=3:=rfl
 obtain ⟨im,him⟩:∃ im,sunL=im:=⟨_,rfl⟩
 have hss:sunS=fstS 1#32 im.length (none,0) (sha im):=by rw [←him];rfl
 rw [hss,him]
 rw [him] at hl3
 have hfew:Few (newF 5000) 0:=⟨rfl,a8G _,fun x hx=>by simp [newF] at hx;omega⟩
 have hw:(newF 5000).wear=5000:=rfl
 have hbl:∀ a n,a+n≤3584→Blank (newF 5000).bs a n:=fun a n hh=>Blank.of fun i _ hi=>by
  show (ffL 3584)[i]?=_
  unfold ffL
  rw [List.getElem?_replicate,if_pos (by omega)]
 obtain ⟨st,so,sc⟩:=b2N (s:=0) (x:=im) hfew (by decide) (by omega) (by rw [hw];decide) (on_up rfl)
 obtain ⟨f0,hf0⟩:∃ f0,newF 5000=f0:=⟨_,rfl⟩
 have hon0:f0.pw = .on:=by rw [←hf0];rfl
 rw [hf0] at st so sc hbl hw ⊢
 obtain ⟨⟨f1,v1⟩,hr⟩:∃ r,slotW f0 0 im=r:=⟨_,rfl⟩
 rw [hr] at st so sc ⊢
 dsimp only at st so sc ⊢
 have hon:=st.on hon0
 rcases sc with ⟨e0,e1,e2⟩|⟨_,e1⟩
 rotate_left
 ·rw [hon] at e1;cases e1
 subst e0
 have hsl:slotA 0=512:=rfl
 rw [hsl] at so e2
 obtain ⟨d,hd2⟩:∃ d,sha im=d:=⟨_,rfl⟩
 have hdl:d.length=32:=by rw [←hd2];exact b1V _
 rw [hd2]
 have hmay:(fstS 1#32 im.length (none,0) d).may=true:=c1D _ _ _ _ (by omega) hdl
 have hc0:Blank f1.bs 0 512:=(hbl 0 512 (by omega)).keep (so _ _ (by omega))
 obtain ⟨st2,so2,e3,hon2,e4⟩:=cellW_first (q:=(fstS 1#32 im.length (none,0) d).by) hc0 st.few (by rw [st.wear,hw];decide) hon (b7J hmay)
 obtain ⟨⟨f2,v2⟩,hr2⟩:∃ r,cellW f1 (fstS 1#32 im.length (none,0) d).by=r:=⟨_,rfl⟩
 rw [hr2] at st2 so2 e3 hon2 e4
 dsimp only at st2 so2 e3 hon2 e4
 subst e3
 refine ⟨f1,f2,rfl,e1,hr2,on_up hon2,st2.few,st2.wear.trans (st.wear.trans hw),⟨1,0,by omega,e4⟩,by show (0#32).toNat≤3;decide,hmay,fst_nf _ _ _,⟨none,rfl,?_,?_⟩,fun q=>absurd q (by show ¬ (0:Int)<0;decide),by show (0#32).toNat≤_;exact Nat.zero_le _,fun q=>absurd q (by show ¬ (0:Int)<0;decide),?_,fun o=>by cases o⟩
 ·show ((im.length:Nat):Int)=((sunL.length:Nat):Int)
  rw [him]
 ·show seg f2.bs (slotA (Int.toNat 0)) sunL.length=sunL
  rw [show slotA (Int.toNat 0)=512 from rfl,him,so2 _ _ (by omega)]
  exact e2
 ·intro s hs
  refine head_blank ?_
  refine (hbl ((6+s)*256) 256 (by omega)).keep ?_
  rw [so2 _ _ (by omega),so _ _ (by omega)]
theorem errOf_gt {x:StD} {m:ManD} (h1:x.may=true) (h2:m.may=true) (ht:x.t=0) (h3:x.f.toNat<m.v.toNat) (h4:x.cur.v.toNat<m.v.toNat) (h5:x.on=true→x.m.v.toNat<m.v.toNat) (hg:x.g.toNat<4000000000):errOf x m=0:=by
 unfold errOf
 rw [if_neg (by rw [h1];simp),if_neg (by rw [h2];simp),if_neg (by omega),if_neg (fun h=>by
  have h6:=h5 h.1
  have h7:=h.2
  simp only [ManD.same,Bool.and_eq_true,decide_eq_true_eq] at h7
  omega),if_neg (fun h=>by
  have:x.newer m.v=true:=by
   unfold StD.newer
   rw [h1,decide_eq_true h3,decide_eq_true h4]
   cases ho:x.on with
   | false=>rfl
   | true=>rw [decide_eq_true (h5 ho)];rfl
  rw [this] at h;cases h),if_neg (by omega)]
def DevOn (hd:Bool→HdD) (n db:Nat) (D:Hp→Prop) (f:Fl) (s:StD):Prop :=
 ((D=dvI keyT f s db∧s.on=false)∨∃ c st,D=dvL keyT f s st db∧LiveS hd c f s st∧cntS st.d.M≠(hd c).p.n)∧f.pw = .on∧EnvF hd f n s
section
variable {hd:Bool→HdD} {n db:Nat} {D:Hp→Prop} {f:Fl} {s:StD}
theorem env_unfuse (E:EnvF hd f n s):EnvF hd (fuseF f none 0) n s:=by
 obtain ⟨_,a1,a2,a3⟩:=startF_fuse f
 obtain ⟨_,b1,b2,b3⟩:=startF_same (fuseF f none 0)
 exact E.same (b1.symm.trans a1) (b2.symm.trans a2) (b3.symm.trans a3)
theorem b2A {s1:StD} (H:Hds hd) (h:EnvF hd f n s) (hn:n<4000) (hon:f.pw = .on) (h1:EnvS hd f.bs s1) (hg:s1.g.toNat≤n+1) :
  ∃ f1,cellW f s1.by=(f1,0)∧seg f1.bs 512 3072=seg f.bs 512 3072∧f1.pw = .on∧EnvF hd f1 (n+1) s1:=by
 obtain ⟨f1,v,q1,q2,q3⟩:=a9S H h hn (on_up hon) h1 hg
 have ho:=cellW_on hon s1.by
 rw [q1] at ho
 dsimp only at ho
 rcases q3 with ⟨rfl,u1,E1⟩|⟨rfl,u1,s',E1⟩
 ·exact ⟨f1,q1,q2,ho,E1⟩
 ·rw [ho] at u1;cases u1
theorem on_confirm (Hh:Hds hd) (h:DevOn hd n db D f s) (hn:n<3800) :
  ∃ D' f' s',DevOn hd (n+6) db D' f' s'∧s'.t=0∧∀ (H:List Hl),Spec Tryz.prog 23 [.pointer (some ⟨db,0,none⟩)] (.any D::H) (fun _:Unit=>True) (fun _=>I 0) (fun _ => .any D'::H):=by
 obtain ⟨hc,hon,E⟩:=h
 have u:=on_up hon
 rcases hc with ⟨rfl,o⟩|⟨c',st,rfl,L,hnf⟩
 ·cases hc:confOn s with
  | false =>
   have ht:s.t=0:=by rw [b7G] at hc;simp at hc;exact hc.1
   exact ⟨_,f,s,⟨.inl ⟨rfl,o⟩,hon,E.mono (by omega)⟩,ht,fun H=>a2K H db _ _ 0 (b2C _ db keyT f s _ confS (fun x H' hs hx=>a5A hs hx E.st.may false hc))⟩
  | true =>
   obtain ⟨f1,q1,q2,o1,E1⟩:=b2A Hh E (by omega) hon (b3G E.st) (by have:=E.gb;show s.g.toNat≤_;omega)
   exact ⟨dvI keyT f1 (confS s) db,f1,confS s,⟨.inl ⟨rfl,o⟩,o1,E1.mono (by omega)⟩,rfl,fun H=>a2K H db _ _ 0 (b9R _ db keyT f f1 s (confS s) _ confS (fun x H' hs hx=>a5A hs hx E.st.may true hc) (fun x hs=>by rw [b1Y,hs]) (a9U E.st.may) u q1)⟩
 ·obtain ⟨t0,_⟩:=E.st.of Hh L.on L.m
  cases hc:confOn s with
  | false=>exact ⟨_,f,s,⟨.inr ⟨c',st,rfl,L,hnf⟩,hon,E.mono (by omega)⟩,t0,fun H=>a2K H db _ _ 0 (b3W _ db keyT f s st _ confS (fun x H' hs hx=>a5A hs hx E.st.may false hc))⟩
  | true =>
   obtain ⟨f1,q1,q2,o1,E1⟩:=b2A Hh E (by omega) hon (b3G E.st) (by have:=E.gb;show s.g.toNat≤_;omega)
   have L1:LiveS hd c' f1 (confS s) st:=⟨L.on,L.m,L.p,L.g,L.len,L.gd,L.tc,L.lg.keep (Hh.z c').1 (Hh.z c').2 (a8D q2 (by omega) (by omega))⟩
   exact ⟨_,f1,confS s,⟨.inr ⟨c',st,rfl,L1,hnf⟩,o1,E1.mono (by omega)⟩,rfl,fun H=>a2K H db _ _ 0 (turns_ok_L _ db keyT f f1 s (confS s) st _ confS (fun x H' hs hx=>a5A hs hx E.st.may true hc) (fun x hs=>by rw [b1Y,hs]) (a9U E.st.may) u q1)⟩
theorem on_first (Hh:Hds hd) (h:DevOn hd n db D f s) (hn:n<3800) (ht:s.t=0) :
  ∃ D' f' s' g,((g=6∧D'=dvI keyT f' s' db∧s'.on=false∧20≤s'.cur.v.toNat)∨((g=0∨g=8)∧s'.f.toNat<20∧s'.cur.v.toNat<20∧∃ st,D'=dvL keyT f' s' st db∧LiveS hd true f' s' st∧cntS st.d.M≠(hd true).p.n))∧f'.pw = .on∧EnvF hd f' (n+6) s' ∧
   ∀ (H:List Hl) (ad:Option Addr) (cc:Nat),TabF (stars H)→Rs (stars H) B ad cc (frameB 1#8 (fstP (hd true).p (hd true).v (hd true).im)) →
   Spec Tryz.prog 12 [.pointer (some ⟨db,0,none⟩),.slice ad 85 cc] (.any D::H) (fun _:Unit=>True) (fun _=>I g) (fun _ => .any D'::H):=by
 obtain ⟨hc,hon,E⟩:=h
 have u:=on_up hon
 have hk:=Hh.ok true
 have hl85:=a7A (v:=(hd true).v) hk
 have hv20:(hd true).v.toNat=20:=Hh.v true
 have hgb:=E.gb
 have hmm:=hk.may (hd true).v (none,0)
 have hgs:(s.g+1#32).toNat≤s.g.toNat+1:=by
  rw [BitVec.toNat_add]
  have:(1#32).toNat=1:=rfl
  omega
 by_cases he:errOf s (mH (hd true))=0
 ·have hS:=b7A Hh E.st he E.few.bs (by omega)
  obtain ⟨f1,q1,q2,o1,E1⟩:=b2A Hh E (by omega) hon hS (by show (s.g+1#32).toNat≤_;omega)
  have u1:=on_up o1
  obtain ⟨l1,l2,l3⟩:=b6P Hh E (by omega) q2 E1
  obtain ⟨_,f1',f2',_⟩:=E1.st.of Hh l2.on l2.m
  rw [hv20] at f1' f2'
  refine ⟨_,f1,_,0,.inr ⟨.inl rfl,f1',f2',_,rfl,l2,l3⟩,o1,E1.mono (by omega),fun H ad cc htt hb=>?_⟩
  rcases hc with ⟨rfl,o⟩|⟨c',st,rfl,L,hnf⟩
  ·exact b4E H db keyT f s ad 85 cc (fstP (hd true).p (hd true).v (hd true).im) hb (by rw [hl85]) (by rw [hl85];decide) (by rw [hl85];decide) hk.kl (mH (hd true)) (hd true).p (hd true).im.length (rowA (hd true).p) f1 (a9Y hk) E.st.may (hk.may _ _) he u (b3B hk) htt q1 u1 (fun r hr=>by rw [l1] at hr;cases hr)
  ·exact pk_hears_L H db keyT f s st ad 85 cc (fstP (hd true).p (hd true).v (hd true).im) hb (by rw [hl85]) (by rw [hl85];decide) (by rw [hl85];decide) hk.kl (mH (hd true)) (hd true).p (hd true).im.length (rowA (hd true).p) f1 (a9Y hk) E.st.may (hk.may _ _) he u (b3B hk) htt q1 u1 (fun r hr=>by rw [l1] at hr;cases hr)
 ·rcases hc with ⟨rfl,o⟩|⟨c',st,rfl,L,hnf⟩
  ·have hnw:s.newer (mH (hd true)).v=false:=by
    cases hq:s.newer (mH (hd true)).v with
    | false=>rfl
    | true =>
     exfalso
     apply he
     unfold errOf
     rw [if_neg (by rw [E.st.may];simp),if_neg (by rw [hmm];simp),if_neg (by omega),if_neg (fun h=>by rw [o] at h;cases h.1),if_neg (by rw [hq];simp),if_neg (by omega)]
   have he6:errOf s (mH (hd true))=6:=by
    unfold errOf
    rw [if_neg (by rw [E.st.may];simp),if_neg (by rw [hmm];simp),if_neg (by omega),if_neg (fun h=>by rw [o] at h;cases h.1),if_pos hnw]
   have hcv:20≤s.cur.v.toNat:=by
    have hfv:=E.st.fv
    unfold StD.newer at hnw
    rw [E.st.may,o] at hnw
    have e:(mH (hd true)).v.toNat=20:=hv20
    rw [e] at hnw
    rcases Nat.lt_or_ge s.cur.v.toNat 20 with q|q
    ·rw [decide_eq_true (show s.f.toNat<20 by omega),decide_eq_true q] at hnw
     cases hnw
    ·exact q
   exact ⟨_,f,s,6,.inl ⟨rfl,rfl,o,hcv⟩,hon,E.mono (by omega),fun H ad cc htt hb=>pk_hears_no_I H db keyT f s ad 85 cc (fstP (hd true).p (hd true).v (hd true).im) hb (by rw [hl85]) (by rw [hl85];decide) (by rw [hl85];decide) hk.kl (mH (hd true)) _ (a9Y hk) he6 (by decide) (by decide)⟩
  ·obtain ⟨_,g1,g2,_⟩:=E.st.of Hh L.on L.m
   have hvc:=Hh.v c'
   have hct:c'=true:=by
    cases c' with
    | true=>rfl
    | false =>
     exfalso
     apply he
     have hvc:(hd false).v.toNat=10:=hvc
     have hmv:s.m.v=(hd false).v:=by rw [L.m];rfl
     have e:(mH (hd true)).v.toNat=20:=hv20
     refine errOf_gt E.st.may hmm ht (by omega) (by omega) (fun _=>by rw [hmv];omega) (by omega)
   subst hct
   rw [hv20] at g1 g2
   have hdup:=errOf_dup E.st.may hmm ht L.on (by rw [L.m];exact same_self _)
   exact ⟨_,f,s,8,.inr ⟨.inr rfl,g1,g2,st,rfl,L,hnf⟩,hon,E.mono (by omega),fun H ad cc htt hb=>a9H H db keyT f s st ad 85 cc (fstP (hd true).p (hd true).v (hd true).im) hb (by rw [hl85]) (by rw [hl85];decide) (by rw [hl85];decide) hk.kl (mH (hd true)) _ (a9Y hk) hdup (by decide) (by decide)⟩
end
theorem dv_State_L (H:List Hl) (db:Nat) (key:List (BitVec 8)) (f:Fl) (s:StD) (st:Sto) (hm:s.may=true) :
  Spec Tryz.prog 21 [.pointer (some ⟨db,0,none⟩)] (.any (dvL key f s st db)::H) (fun _:PA × PA × PA=>True) (fun r => .tuple #[(copyS s r.1 r.2.1 r.2.2).V,.bool true]) (fun r=>rowL r.1 s.s0.h.l::rowL r.2.1 s.s1.h.l::rowL r.2.2 s.m.h.l :: .any (dvL key f s st db)::H):=by
 refine Spec.som (by kernel_rfl) (fun ⟨fb,ad,c,h,mb,sb,ka,kc,x,A⟩ hl0=>?_)
 obtain ⟨hk,hkey,hx,hnf⟩:=hl0
 dsimp only at hk hkey hx hnf
 subst hnf
 show Spec _ _ _ ([dvB db fb ka key.length kc (pM mb),meB mb x (some ⟨sb,0,none⟩),.any (stP st fb sb),fB fb ad c f h,fR ad c f,.any A]++H) _ _ _
 refine sF (res:=fun r:PA × PA × PA=>[rowL r.1 x.s0.h.l,rowL r.2.1 x.s1.h.l,rowL r.2.2 x.m.h.l,.any (dvL key f (nf x) st db)]) [dvB db fb ka key.length kc (pM mb),meB mb x (some ⟨sb,0,none⟩),.any (stP st fb sb),fB fb ad c f h,fR ad c f,.any A] H Tryz.func21 Tryz.ntmps21 fun W=>?_
 dsimp only [cA,nA]
 have e0:=hx.s0
 have e1:=hx.s1
 have e2:=hx.m
 obtain ⟨q0,q1,q2⟩:=a7P (by rw [←a6T];exact hm:x.may=true)
 repeat' (first|intro _|(refine k_fn 42 ?_;refine a5Q db mb (fun _=>dv_now _ db fb ka key.length kc mb x (some ⟨sb,0,none⟩)) rfl (fun _ _=>?_))|refine a0S rfl rfl ?_|refine wK ?_|refine wL ?_ ?_|fail)
 refine a2O 2 ?_
 repeat' (first|intro _|(refine a0J ?_;first|refine a1C 0 4 rfl rfl rfl (by decide) rfl ?_|refine a1C 1 7 rfl rfl rfl (by decide) rfl ?_)|(refine k_fn 29 ?_;first|(refine a0A (fun _=>a1B _ _ _ x.s0.h.l (Rs.up e0) (by omega)) rfl (fun ⟨a5,c5⟩ _=>?_);dsimp only)|(refine a0A (fun _=>a1B _ _ _ x.s1.h.l (Rs.up e1) (by omega)) rfl (fun ⟨a6,c6⟩ _=>?_);dsimp only)|(refine a0A (fun _=>a1B _ _ _ x.m.h.l (Rs.up e2) (by omega)) rfl (fun ⟨a7,c7⟩ _=>?_);dsimp only))|refine wK ?_|refine wL ?_ ?_|fail)
 rename_i b2 _ _ b5 _ _ _ _ _ _
 refine b0C (l:=⟨fb,ad,c,h,mb,sb,ka,kc,x,A⟩) (R:=[rowL (a5,c5) x.s0.h.l,rowL (a6,c6) x.s1.h.l,rowL (a7,c7) x.m.h.l,.box b2 51 (copyS x (a5,c5) (a6,c6) (a7,c7)).c,.any (stars H)]) ⟨hk,hkey,hx,rfl⟩ ent ?_
 refine a0N (⟨a5,c5⟩,⟨a6,c6⟩,⟨a7,c7⟩) rfl rfl rfl rfl rfl trivial ?_
 exact ent
abbrev idR (h:HdD) (r j:Nat):BitVec 32:=BitVec.ofNat 32 ((j+r) % h.p.k)
def InvP (hd:Bool→HdD) (n db r i:Nat) (D:Hp→Prop) (f:Fl) (s:StD) (full:Bool):Prop :=
 f.pw = .on∧EnvF hd f n s∧((∃ st,D=dvL keyT f s st db∧LiveS hd true f s st∧cntS st.d.M≠(hd true).p.n∧(full=true∨∀ j,j<i→sp (hd true).p.n st.d.M (unitV (hd true).p (idR (hd true) r j))))∨(D=dvI keyT f s db∧s.on=false∧20≤s.cur.v.toNat))
section
variable {hd:Bool→HdD} {n db r i:Nat} {D:Hp→Prop} {f:Fl} {s:StD} {full:Bool}
theorem idR_lt (Hh:Hds hd) (r j:Nat):(idR (hd true) r j).toNat=(j+r) % (hd true).p.k∧(idR (hd true) r j).toNat<(hd true).p.k:=by
 obtain ⟨p1,_⟩:=(Hh.ok true).ok.out
 have:=Hh.k40 true
 have h1:=Nat.mod_lt (j+r) (show 0<(hd true).p.k by omega)
 rw [BitVec.toNat_ofNat,Nat.mod_eq_of_lt (by omega)]
 exact ⟨rfl,h1⟩
theorem on_piece (Hh:Hds hd) (h:InvP hd n db r i D f s full) (hn:n<3800) :
  ∃ D' f' s' v,((v=9∧InvP hd (n+6) db r (i+1) D' f' s' true)∨(v≠9∧InvP hd (n+6) db r (i+1) D' f' s' full))∧∀ (H:List Hl) (ad:Option Addr) (cc:Nat),TabF (stars H)→Rs (stars H) B ad cc (frameB 2#8 (symA (hd true) (idR (hd true) r i))) →
   Spec Tryz.prog 12 [.pointer (some ⟨db,0,none⟩),.slice ad (8+(hd true).p.z+9) cc] (.any D::H) (fun _:Unit=>True) (fun _=>I v) (fun _ => .any D'::H):=by
 obtain ⟨hon,E,hc⟩:=h
 have u:=on_up hon
 have hk:=Hh.ok true
 obtain ⟨z1,z2⟩:=Hh.z true
 obtain ⟨id1,id2⟩:=idR_lt Hh r i
 have hun:rowA (hd true).p (idR (hd true) r i)=unitV (hd true).p (idR (hd true) r i):=if_pos id2
 obtain ⟨id,hid⟩:∃ id,idR (hd true) r i=id:=⟨_,rfl⟩
 rw [hid] at id1 id2 hun ⊢
 have hdl:(datP (hd true).p (hd true).im (rowA (hd true).p id)).length=(hd true).p.z:=a1K _ _ _
 rcases hc with ⟨st,rfl,L,hnf,hsp⟩|⟨rfl,o,hcv⟩
 rotate_left
 ·exact ⟨_,f,s,14,.inr ⟨by decide,hon,E.mono (by omega),.inr ⟨rfl,o,hcv⟩⟩,fun H ad cc ht hb=>pk_takes_off H db keyT f s ad (8+(hd true).p.z+9) cc (symA (hd true) id) hb (by rw [a1G]) (by rw [a1G];omega) (by rw [a1G];omega) hk.kl (hd true).p.s id (datP (hd true).p (hd true).im (rowA (hd true).p id)) rfl (by rw [hdl];exact z1) (by rw [hdl];exact z2) o⟩
 ·have hisp':IsP s.m (hd true).p (hd true).im.length:=by rw [L.m];exact b3B hk
  have hisp:IsP s.m st.p (hd true).im.length:=by rw [L.p];exact hisp'
  have hzz:(datP (hd true).p (hd true).im (rowA (hd true).p id)).length=st.p.z:=by rw [L.p];exact hdl
  have hcnt:=L.cnt
  have htc:=L.tc
  obtain ⟨p1,p2,p3,p4,p5⟩:=hk.ok.out
  have hpn:(hd true).p.n=(hd true).p.k+(hd true).p.p:=rfl
  have hspr:SpRow st.p id (rowA (hd true).p id):=by rw [L.p];exact b5Z _ _ hk.ok
  have hnx:st.nxt≤8*plW st.p.z:=by rw [L.p];exact L.lg.le
  have hss:(hd true).p.s=st.p.s:=by rw [L.p]
  have hvl:=b2R (hd true).p id hk.ok
  rcases ev_put Hh E L (by omega) u id with ⟨hput,hs8⟩|hput|⟨f1,hput,hdn,E1,hno⟩|⟨f1,st1,hput,u1,hon1,E1,L1,hd1⟩
  ·refine ⟨_,f,s,8,.inr ⟨by decide,hon,E.mono (by omega),.inl ⟨st,rfl,L,hnf,?_⟩⟩,fun H ad cc ht hb=>a9G H db keyT f s st ad (8+(hd true).p.z+9) cc (symA (hd true) id) hb (by rw [a1G]) (by rw [a1G];omega) (by rw [a1G];omega) hk.kl (hd true).p.s id (datP (hd true).p (hd true).im (rowA (hd true).p id)) rfl (by rw [hdl];exact z1) (by rw [hdl];exact z2) (hd true).im.length (rowA (hd true).p id) L.on hisp hss hzz L.rr (by omega) hspr u hnx ht f 8 hput (by decide) (by decide)⟩
   rcases hsp with q|q
   ·exact .inl q
   ·refine .inr fun j hj=>?_
    rcases Nat.lt_or_ge j i with e|e
    ·exact q j e
    ·obtain rfl:j=i:=by omega
     rw [hid,←hun];exact hs8
  ·exact ⟨_,f,s,9,.inl ⟨rfl,hon,E.mono (by omega),.inl ⟨st,rfl,L,hnf,.inl rfl⟩⟩,fun H ad cc ht hb=>a9G H db keyT f s st ad (8+(hd true).p.z+9) cc (symA (hd true) id) hb (by rw [a1G]) (by rw [a1G];omega) (by rw [a1G];omega) hk.kl (hd true).p.s id (datP (hd true).p (hd true).im (rowA (hd true).p id)) rfl (by rw [hdl];exact z1) (by rw [hdl];exact z2) (hd true).im.length (rowA (hd true).p id) L.on hisp hss hzz L.rr (by omega) hspr u hnx ht f 9 hput (by decide) (by decide)⟩
  ·exact absurd hon hno
  ·have hcnt1:=L1.cnt
   have hp1:st1.p.ok:=by rw [L1.p];exact hk.ok
   by_cases hfull:cntS st1.d.M=(hd true).p.n
   ·obtain ⟨f2,v2,g1,g2⟩:=c2M Hh E1 (by omega) u1 L.on L.m
    have hd1:cntS st1.d.M=st1.p.n:=by rw [L1.p];exact hfull
    have hR1:=L1.rr
    have hct:count st1.len st1.p.z=st1.p.k:=by rw [L1.p,L1.len];exact hk.ct
    have him:imgB st1.p st1.d st1.len=(hd true).im:=by rw [L1.p,L1.len];exact b6S L1.gd hfull hk.ct p1
    have hsh:sha (hd true).im=s.m.h.l:=by rw [L.m];rfl
    obtain ⟨t0,_⟩:=E.st.of Hh L.on L.m
    have hof:=c1G (f2:=f2) (s:=s) (x:=(hd true).im) (hon1 hon) (by rw [g1])
    rcases g2 with ⟨rfl,u2,E2⟩|⟨rfl,u2,s',E2⟩
    ·have hcv:20≤(nf (actS s)).cur.v.toNat:=by
      have ha:=StD.may_a E.st.may
      obtain ⟨a1,a2⟩:=c1L s ha
      have e1:(nf (actS s)).cur.v=s.m.v:=by rw [b3A,a1];rfl
      have e2:s.m.v=(hd true).v:=by rw [L.m];rfl
      have e3:(hd true).v.toNat=20:=Hh.v true
      rw [e1,e2,e3]
      exact Nat.le_refl _
     exact ⟨_,f2,nf (actS s),0,.inr ⟨by decide,hof,E2.mono (by omega),.inr ⟨rfl,rfl,hcv⟩⟩,fun H ad cc ht hb=>b0D H db keyT f s st ad (8+(hd true).p.z+9) cc (symA (hd true) id) hb (by rw [a1G]) (by rw [a1G];omega) (by rw [a1G];omega) hk.kl (hd true).p.s id (datP (hd true).p (hd true).im (rowA (hd true).p id)) rfl (by rw [hdl];exact z1) (by rw [hdl];exact z2) (hd true).im.length (rowA (hd true).p id) L.on hisp hss hzz L.rr (by omega) hspr u hnx ht f1 st1 hput hp1 (by omega) hd1 (hd true).im hR1 hct him (Hh.i1 true) hk.le hsh u1 E.st.may t0 f2 g1⟩
    ·rw [hof] at u2;cases u2
   ·refine ⟨_,f1,s,0,.inr ⟨by decide,hon1 hon,E1.mono (by omega),.inl ⟨st1,rfl,L1,hfull,?_⟩⟩,fun H ad cc ht hb=>b8P H db keyT f s st ad (8+(hd true).p.z+9) cc (symA (hd true) id) hb (by rw [a1G]) (by rw [a1G];omega) (by rw [a1G];omega) hk.kl (hd true).p.s id (datP (hd true).p (hd true).im (rowA (hd true).p id)) rfl (by rw [hdl];exact z1) (by rw [hdl];exact z2) (hd true).im.length (rowA (hd true).p id) L.on hisp hss hzz L.rr (by omega) hspr u hnx ht f1 st1 hput hp1 (by omega) (by rw [L1.p];omega)⟩
    rcases hsp with q|q
    ·exact .inl q
    ·refine .inr fun j hj=>?_
     rw [hd1]
     rcases Nat.lt_or_ge j i with e|e
     ·refine sp_take L.gd hvl ?_ (q j e)
      rw [a6O]
     ·obtain rfl:j=i:=by omega
      rw [hid,←hun];exact sp_took L.gd hvl
theorem on_all (Hh:Hds hd) (h:InvP hd n db r (hd true).p.k D f s false) (hr:r<(hd true).p.k):D=dvI keyT f s db∧s.on=false∧20≤s.cur.v.toNat:=by
 obtain ⟨hon,E,hc⟩:=h
 rcases hc with ⟨st,rfl,L,hnf,hsp⟩|q
 ·exfalso
  rcases hsp with q|q
  ·cases q
  ·have hk:=Hh.ok true
   have h40:=Hh.k40 true
   refine hnf (good_all L.gd (fun id hid=>?_) (by omega))
   have key:∃ j,j<(hd true).p.k∧(j+r) % (hd true).p.k=id.toNat:=by
    by_cases hle:r≤id.toNat
    ·exact ⟨id.toNat - r,by omega,by rw [show id.toNat - r+r=id.toNat by omega,Nat.mod_eq_of_lt hid]⟩
    ·exact ⟨id.toNat+(hd true).p.k - r,by omega,by rw [show id.toNat+(hd true).p.k - r+r=id.toNat+(hd true).p.k by omega,Nat.add_mod_right,Nat.mod_eq_of_lt hid]⟩
   obtain ⟨j,j1,j2⟩:=key
   have:=q j j1
   rw [idR,j2,BitVec.ofNat_toNat,BitVec.setWidth_eq] at this
   exact this
 ·exact q
theorem on_runs (Hh:Hds hd) (E:EnvF hd f n s) (h:20≤s.cur.v.toNat):Runs f s.a.toNat (hd true).im.length∧seg f.bs (slotA s.a.toNat) (hd true).im.length=(hd true).im:=by
 obtain ⟨q,q1,q2,q3⟩:=E.run Hh
 rw [q1] at h
 match q,q2,q3,h with
 | none,q2,q3,h=>exact absurd h (by show ¬ 20≤(1#32:BitVec 32).toNat;decide)
 | some false,q2,q3,h=>exact absurd h (by have:=Hh.v false;show ¬ 20≤(hd false).v.toNat;simp at this;omega)
 | some true,q2,q3,h=>exact ⟨q2,q3⟩
end
def rtD52_0:List Row:=[tR 111 [] [],tR 112 [0] [0],tG 113 [1] [0,1] 1 true,tG 114 [2,1,1] [0,1,2] 1 true,tG 115 [3,1] [0,1,2,3] 1 true,tG 116 [1] [0,1] 1 true,tG 117 [5,1] [0,1,5] 1 true,tG 118 [4,6,1] (rG 7) 1 true,tR 119 [1,7] (rG 8),tR 120 [8,3] (rG 9),tG 121 [9] (rG 10) 9 true,tG 122 [10,9] (rG 11) 9 true,tR 123 [9,11] (rG 12),tR 124 [12,9] (rG 13),tG 125 [13,13] (rG 14) 13 true,tR 126 [13,14] (rG 15),tR 8 [15,14,0,1,2,3,4,5,6,7,8,9,10,11,12,13,14,15] (rG 16)]
def rtD52_1:List Row:=[tR 151 [] [],tR 152 [0] [0],tG 153 [1] [0,1] 1 false,tG 154 [2,1,1] [0,1,2] 1 false,tG 155 [3,1] [0,1,2,3] 1 false,tG 156 [1] [0,1] 1 false,tG 157 [5,1] [0,1,5] 1 false,tG 158 [4,6,1] (rG 7) 1 false,tR 159 [1,7] (rG 8),tR 160 [8,3] (rG 9),tG 161 [9] (rG 10) 9 true,tG 162 [10,9] (rG 11) 9 true,tG 163 [11,9,9] (rG 12) 9 true,tG 164 [12] (rG 13) 12 false,tG 165 [13,12] (rG 14) 12 false,tG 166 [12,14,9] (rG 15) 9 true,tR 167 [9,15] (rG 16),tR 168 [16,12] (rG 17),tG 169 [17,17] (rG 18) 17 true,tR 170 [17,18] (rG 19),tR 8 [19,18,0,1,2,3,4,5,6,7,8,9,10,11,12,13,14,15,16,17,18,19] (rG 20)]
theorem TopEnough_law (H:List Hl) (aa ba da:Option Addr) (ac bc dc:Nat) (a b:List (BitVec 8)) (l:List DeeD) (turn:Int) (ha:Rs (stars H) B aa ac a) (hb:Rs (stars H) B ba bc b) (hl:Rm (stars H) 4 deedC da dc l) (hal:a.length≤4611686018427387904) (hbl:b.length≤4611686018427387904) (hll:l.length≤4611686018427387904) (ht:TabF (stars H)) :
  Spec Tryz.prog 6 [.slice aa a.length ac,.slice ba b.length bc,.slice da l.length dc,I turn] H (fun _:Unit=>True) (fun _ => .bool true) (fun _=>H):=by
 refine sP (res:=fun _=>[]) H Tryz.func6 Tryz.ntmps6 fun W=>?_
 have Hh:=hds_T a b
 obtain ⟨hk2,hk22⟩:=c0C b
 obtain ⟨q1,q2,q3,q4,q5⟩:=hk2.ok.out
 have hi2:=(c0I b 2#8).1
 have hct2:count ((twoI b).length:Int) 3=((twoP b).k:Int):=hk2.ct
 obtain ⟨f0,f1,hm1,hm2,hm3,hm4,E0⟩:=env_make (hd:=hdT a b)
 have hmake:=fun (H':List Hl) (ka:Option Addr) (kc:Nat) (ad:Option Addr) (c:Nat) (hk:Rs (stars H') B ka kc keyT) (hi:Rs (stars H') B ad c sunL)=>dv_Make H' 5000 1#32 ka kc keyT ad c sunL (sha sunL) f0 f1 hk (by decide) hi (by decide) (by decide) rfl hm1 hm2 hm3
 by_cases hln:l.length≤100
 rotate_left
 ·repeat' (first|intro _|(refine k_fn 7 ?_;(refine a0A (fun _=>tp_heads _ aa ba ac bc a b ha.up hb.up hal hbl) rfl (fun ⟨hb1,hb2⟩ _=>?_);(try dsimp only)))|(refine k_fn 9 ?_;refine a0A (fun _=>c0D _) rfl (fun bk _=>?_))|(refine a0P ?_;refine a0O (T:=22) B sunL rfl rfl rfl (fun _=>rfl) rfl rfl rfl (fun br=>?_))|(refine a1W ?_;refine a6I (b:=br) rfl ?_)|refine a0A (fun hh=>hmake _ (some ⟨bk,0,none⟩) 3 (some ⟨br,0,none⟩) 3 (Rs.up (Rs.of_frz (T:=5) (b:=bk) (l:=keyT) (by decide))) (Rs.up (Rs.of_frz (T:=5) (b:=br) (l:=sunL) (by decide)))) rfl (fun db _=>?_)|(refine k_fn 24 ?_;(refine a0A (fun _=>tp_light _ da l.length dc hll) rfl (fun _ _=>?_);rw [decide_eq_false hln]))|(refine k_fn 17 ?_;refine a0A (fun _=>b2I _ ht.up) rfl (fun _ _=>?_))|refine wK ?_|refine wL ?_ ?_|fail)
  refine a0E () rfl rfl rfl trivial ?_
  exact ent
 repeat' (first|intro _|(refine k_fn 7 ?_;(refine a0A (fun _=>tp_heads _ aa ba ac bc a b ha.up hb.up hal hbl) rfl (fun ⟨hb1,hb2⟩ _=>?_);(try dsimp only)))|(refine k_fn 9 ?_;refine a0A (fun _=>c0D _) rfl (fun bk _=>?_))|(refine a0P ?_;refine a0O (T:=22) B sunL rfl rfl rfl (fun _=>rfl) rfl rfl rfl (fun br=>?_))|(refine a1W ?_;refine a6I (b:=br) rfl ?_)|refine a0A (fun hh=>hmake _ (some ⟨bk,0,none⟩) 3 (some ⟨br,0,none⟩) 3 (Rs.up (Rs.of_frz (T:=5) (b:=bk) (l:=keyT) (by decide))) (Rs.up (Rs.of_frz (T:=5) (b:=br) (l:=sunL) (by decide)))) rfl (fun db _=>?_)|(refine k_fn 24 ?_;(refine a0A (fun _=>tp_light _ da l.length dc hll) rfl (fun _ _=>?_);rw [decide_eq_true hln]))|refine wK ?_|refine wL ?_ ?_|fail)
 have hD0:DevAny (hdT a b) 3 db (dvI keyT f1 sunS db) := .inr (.inl ⟨f1,sunS,rfl,hm4,rfl,E0⟩)
 refine a0Y (S:=Nat × (Hp→Prop)) (fun q=>[(0,.slice aa a.length ac),(1,.slice ba b.length bc),(3,I turn),(8,.bool false),(9,.pointer (some ⟨hb1,0,none⟩)),(10,.pointer (some ⟨hb2,0,none⟩)),(12,.pointer (some ⟨db,0,none⟩)),(57,.slice da l.length dc),(58,I l.length),(59,I q.1)]) (fun q=>[.any q.2,oneC a hb1,twoC b hb2,.any (stars H)])
  (fun q=>q.1≤l.length∧DevAny (hdT a b) (3+6*q.1) db q.2) (fun q=>l.length - q.1) (0,dvI keyT f1 sunS db) ⟨Nat.zero_le _,hD0⟩ cv ent ?_
 rintro ⟨i,D⟩ ⟨hi,hD⟩
 dsimp only at hi hD ⊢
 by_cases hit:i<l.length
 ·obtain ⟨u,hu⟩:∃ u,l[i]?=some u:=⟨_,List.getElem?_eq_getElem hit⟩
  obtain ⟨ek,hek,hev⟩:=tp_event a b u
  obtain ⟨D',v,hD',hdo⟩:=any_do Hh hD (by omega) ek hek
  repeat' (first|intro _|(refine a0J ?_;refine o1_iam (m:=4) i rfl rfl hl rfl rfl hit ?_)|(refine a0K ?_;refine o1_load_iam i u rfl hl hu rfl ?_)|(refine a1O ?_;refine a1D rfl (fun b15=>?_))|refine a0V (oneC a hb1::twoC b hb2::[.any D,.any (stars H)]) (Ent.out ent) (fun _=>hev _ hb1 hb2 ht.up) rfl (fun r _=>?_)|refine a0V (.any D :: .any (stars (evRow (hdT a b) ek r))::[oneC a hb1,twoC b hb2,.any (stars H)]) (Ent.out ent) (fun _=>hdo _ r ht.up) rfl (fun _ _=>?_)|refine wK ?_|refine wL ?_ ?_|fail)
  refine a0Q (i+1,D') ⟨by show i+1≤l.length;omega,hD'.mono (by omega)⟩ (by show l.length - (i+1)<l.length - i;omega) cv ?_
  exact ent
 ·obtain ⟨f2,s2,E2,hfl⟩:=hD.fl
  have E2:=env_unfuse E2
  obtain ⟨D1,v1, -,hpon,hpow⟩:=any_power (db:=db) Hh E2 (by omega)
  obtain ⟨rfl,f3,s3,hc3,o3,E3⟩:=hpon (startF_fuse f2).1
  have hfuse:=fun (H':List Hl) (fb:Nat)=>dv_Fuse_P H' db fb keyT f2 none 0 (fun k hk=>by cases hk)
  obtain ⟨D2,f4,s4,h4,t4,hconf⟩:=on_confirm Hh ⟨hc3,o3,E3⟩ (by omega)
  obtain ⟨D3,f5,s5,g,hcase,o5,E5,hfst⟩:=on_first Hh h4 (by omega) t4
  have hfst:∀ (H:List Hl) (ad:Option Addr) (cc:Nat),TabF (stars H)→Rs (stars H) B ad cc (frameB 1#8 (fstP (twoP b) 20#32 (twoI b)))→Spec Tryz.prog 12 [.pointer (some ⟨db,0,none⟩),.slice ad 85 cc] (.any D2::H) (fun _:Unit=>True) (fun _=>I g) (fun _ => .any D3::H):=hfst
  have hm5:=E5.st.may
  have ha5:=StD.may_a hm5
  obtain ⟨N,hN⟩:∃ N,3+6*i+6+6+6=N:=⟨_,rfl⟩
  rw [hN] at E5
  have hN2:N<700:=by omega
  rcases hcase with ⟨rfl,rfl,off5,hcv⟩|⟨hg,hf5,hcv,st,rfl,L5,hnf5⟩
  ·have hr5:=on_runs Hh E5 hcv
   have hrun:Runs f5 s5.a.toNat (twoI b).length:=hr5.1
   have hseg:seg f5.bs (slotA s5.a.toNat) (twoI b).length=twoI b:=hr5.2
   have hx:20≤s5.f.toNat∨(s5.f.toNat<20∧s5.a=0∧20≤s5.s0.v.toNat)∨(s5.f.toNat<20∧s5.a=1∧20≤s5.s1.v.toNat):=by
    unfold StD.cur at hcv
    rcases Nat.lt_or_ge s5.f.toNat 20 with q|q
    ·rcases ha5 with e|e
     ·rw [if_pos e] at hcv;exact .inr (.inl ⟨q,e,hcv⟩)
     ·rw [if_neg (by omega)] at hcv;exact .inr (.inr ⟨q,e,hcv⟩)
    ·exact .inl q
   rcases hx with hx|⟨hx,hxa,hxv⟩|⟨hx,hxa,hxv⟩
   all_goals
    repeat' (first|intro _|(refine k_fn 10 ?_;(refine a0A (fun _=>tp_images _ aa ba ac bc a b ha.up hb.up hal hbl) rfl (fun ⟨⟨ia,ic⟩,⟨ja,jc⟩⟩ _=>?_);(try dsimp only)))|refine a0V (.any (dvP keyT f2 db)::[rowB (ja,jc) (twoI b),twoC b hb2,.any (stars H)]) (fun x hx=>hfl [rowB (ja,jc) (twoI b),twoC b hb2,.any (stars H)] x (Ent.out ent x hx)) (fun _=>dv_Flash_P _ db keyT f2) rfl (fun fb2 _=>?_)|refine a0T (dvPf fb2 keyT f2 db) (fun _=>hfuse _ fb2) rfl (fun _ _=>?_)|refine a0T (dvP keyT (fuseF f2 none 0) db) (fun _=>hpow _ ht.up) rfl (fun _ _=>?_)|refine a0T D1 (fun _=>hconf _) rfl (fun _ _=>?_)|refine a0T D2 (fun hh=>hfst _ a54 ca54 ht.up (a0I (T:=5) (ad:=a54) (c:=ca54) (l:=frameB 1#8 (fstP (twoP b) 20#32 (twoI b))) (a0B hh))) rfl (fun _ _=>?_)|(refine k_fn 13 ?_;(refine a0T (crP keyT (twoP b) 20#32 (twoI b) (sha (twoI b)) hb2) (fun hh=>b3M _ keyT (twoP b) 20#32 (twoI b) (sha (twoI b)) hb2 hk2) rfl (fun ⟨a54,ca54⟩ _=>?_);(try dsimp only)))|(refine k_fn 11 ?_;(refine a0A (fun _=>r7_Count _ _ _) rfl (fun _ _=>?_);rw [hct2]))|(refine k_fn 21 ?_;(refine a0T (dvI keyT f5 s5 db) (fun _=>dv_State_I _ db keyT f5 s5 hm5) rfl (fun ⟨r0,r1,r2⟩ _=>?_);dsimp only [StD.V,StD.c,SlotD.V,SlotD.c,copyS]))|(refine a1O ?_;refine a1D rfl (fun b20=>?_))|(refine a0K ?_;first|(refine a0F (b:=b20) (i:=0) rfl rfl ?_;rw [hxa])|refine a0F (b:=b20) (i:=2) rfl rfl ?_|refine a0F (b:=b20) (i:=4) rfl rfl ?_|refine a0F (b:=b20) (i:=7) rfl rfl ?_)|(refine a0J ?_;first|refine a1C 0 4 rfl rfl rfl (by decide) rfl ?_|refine a1C 1 7 rfl rfl rfl (by decide) rfl ?_)|refine wK ?_|refine wL ?_ ?_|fail)
    refine a0H [(21,_),(12,_),(17,_),(18,_)] rtD52_0 [3,14] [⟨[0,1,2,5,6],[],some 3⟩,⟨[4,7,8,9,10,11,12,13],[5,6],some 14⟩,⟨[15,16],[],none⟩] mixed cv (by kernel_rfl) (by kernel_rfl) ?_
    repeat' (first|intro _|refine sg ?_|(refine b0E ?_;refine po (by first|refine a2M (ad:=a132) (c:=c132) (xs:=twoI b) rfl rfl (a0I (T:=5) (ad:=a132) (c:=c132) (l:=twoI b)) fz|refine a2M (ad:=ja) (c:=jc) (xs:=twoI b) rfl rfl (a0I (T:=5) (ad:=ja) (c:=jc) (l:=twoI b)) fz|fail) ?_)|(refine a1I .eql ?_;refine po (by first|refine a8I (a:=twoI b) (b:=twoI b) (r:=true) rfl rfl (decide_eq_true rfl) fz|refine a3I rfl rfl rfl fz|refine a1Y rfl rfl (by decide) fz|fail) ?_)|refine pw ?_|refine pdd ?_|(refine k_fn 16 ?_;(refine a0T (dvI keyT f5 s5 db) (fun hh=>b0M _ db keyT f5 s5 s5.a.toNat (twoI b).length hrun) rfl (fun ⟨a132,c132⟩ _=>?_);(try dsimp only);rw [hseg]))|(refine k_fn 17 ?_;refine a0A (fun _=>b2I _ ht.up) rfl (fun _ _=>?_))|refine ow ?_|fail)
    all_goals dsimp only [cA,nA]
    repeat' (first|intro _|refine wK ?_|refine wL ?_ ?_|fail)
    refine a0E () rfl rfl rfl trivial ?_
    exact ent
  ·obtain ⟨k,hkk⟩:∃ k,(twoP b).k=k:=⟨_,rfl⟩
   have hkd:(hdT a b true).p.k=k:=hkk
   obtain ⟨r,hr⟩:∃ r:Nat,((BitVec.ofInt 64 turn).toNat:Int) % (k:Int)=(r:Int):=⟨(BitVec.ofInt 64 turn).toNat % k,by omega⟩
   have hrk:r<k:=by have:=Int.emod_lt_of_pos ((BitVec.ofInt 64 turn).toNat:Int) (show (0:Int)<k by omega);omega
   have hk64:((BitVec.ofInt 64 (k:Int)).toNat:Int)=(k:Int):=by
    rw [BitVec.ofInt_natCast,BitVec.toNat_ofNat,Nat.mod_eq_of_lt (by omega)]
   have hx:(s5.a=0∧s5.s0.v.toNat<20)∨(s5.a=1∧s5.s1.v.toNat<20):=by
    unfold StD.cur at hcv
    rcases ha5 with e|e
    ·rw [if_pos e] at hcv;exact .inl ⟨e,hcv⟩
    ·rw [if_neg (by omega)] at hcv;exact .inr ⟨e,hcv⟩
   have hI0:InvP (hdT a b) N db r 0 (dvL keyT f5 s5 st db) f5 s5 false:=⟨o5,E5,.inl ⟨st,rfl,L5,hnf5,.inr fun j hj=>absurd hj (Nat.not_lt_zero j)⟩⟩
   rw [hkk] at hct2
   rcases hx with ⟨hxa,hxv⟩|⟨hxa,hxv⟩
   all_goals
    repeat' (first|intro _|(refine k_fn 10 ?_;(refine a0A (fun _=>tp_images _ aa ba ac bc a b ha.up hb.up hal hbl) rfl (fun ⟨⟨ia,ic⟩,⟨ja,jc⟩⟩ _=>?_);(try dsimp only)))|refine a0V (.any (dvP keyT f2 db)::[rowB (ja,jc) (twoI b),twoC b hb2,.any (stars H)]) (fun x hx=>hfl [rowB (ja,jc) (twoI b),twoC b hb2,.any (stars H)] x (Ent.out ent x hx)) (fun _=>dv_Flash_P _ db keyT f2) rfl (fun fb2 _=>?_)|refine a0T (dvPf fb2 keyT f2 db) (fun _=>hfuse _ fb2) rfl (fun _ _=>?_)|refine a0T (dvP keyT (fuseF f2 none 0) db) (fun _=>hpow _ ht.up) rfl (fun _ _=>?_)|refine a0T D1 (fun _=>hconf _) rfl (fun _ _=>?_)|refine a0T D2 (fun hh=>hfst _ a54 ca54 ht.up (a0I (T:=5) (ad:=a54) (c:=ca54) (l:=frameB 1#8 (fstP (twoP b) 20#32 (twoI b))) (a0B hh))) rfl (fun _ _=>?_)|(refine k_fn 13 ?_;(refine a0T (crP keyT (twoP b) 20#32 (twoI b) (sha (twoI b)) hb2) (fun hh=>b3M _ keyT (twoP b) 20#32 (twoI b) (sha (twoI b)) hb2 hk2) rfl (fun ⟨a54,ca54⟩ _=>?_);(try dsimp only)))|(refine k_fn 11 ?_;(refine a0A (fun _=>r7_Count _ _ _) rfl (fun _ _=>?_);rw [hct2]))|(refine k_fn 21 ?_;(refine a0T (dvL keyT f5 s5 st db) (fun _=>dv_State_L _ db keyT f5 s5 st hm5) rfl (fun ⟨r0,r1,r2⟩ _=>?_);dsimp only [StD.V,StD.c,SlotD.V,SlotD.c,copyS]))|(refine a1O ?_;refine a1D rfl (fun b20=>?_))|(refine a0K ?_;first|(refine a0F (b:=b20) (i:=0) rfl rfl ?_;rw [hxa])|refine a0F (b:=b20) (i:=2) rfl rfl ?_|refine a0F (b:=b20) (i:=4) rfl rfl ?_|refine a0F (b:=b20) (i:=7) rfl rfl ?_)|(refine a0J ?_;first|refine a1C 0 4 rfl rfl rfl (by decide) rfl ?_|refine a1C 1 7 rfl rfl rfl (by decide) rfl ?_)|refine wK ?_|refine wL ?_ ?_|fail)
    refine a0Y (S:=Nat × (Hp→Prop) × Fl × StD × Bool) (fun q=>[(3,I turn),(8,.bool false),(10,.pointer (some ⟨hb2,0,none⟩)),(12,.pointer (some ⟨db,0,none⟩)),(17,.slice ja (twoI b).length jc),(18,I g),(19,I k),(22,.bool q.2.2.2.2),(127,I k),(128,I q.1)]) (fun q=>[.any q.2.1,twoC b hb2,rowB (ja,jc) (twoI b),.any (stars H)])
     (fun q=>q.1≤k∧InvP (hdT a b) (N+6*q.1) db r q.1 q.2.1 q.2.2.1 q.2.2.2.1 q.2.2.2.2) (fun q=>k - q.1) (0,dvL keyT f5 s5 st db,f5,s5,false) ⟨Nat.zero_le _,hI0⟩ cv ent ?_
    rintro ⟨m,D6,f6,s6,full⟩ ⟨hm,hI⟩
    dsimp only at hm hI ⊢
    by_cases hmt:m<k
    ·obtain ⟨D7,f7,s7,v7,hv7,hpk⟩:=on_piece Hh hI (by omega)
     obtain ⟨idn,hidn⟩:∃ x,BitVec.ofNat 32 ((m+r) % k)=x:=⟨_,rfl⟩
     have hpk:∀ (H:List Hl) (ad:Option Addr) (cc:Nat),TabF (stars H)→Rs (stars H) B ad cc (frameB 2#8 (symB (twoP b).s idn (datP (twoP b) (twoI b) (rowA (twoP b) idn))))→Spec Tryz.prog 12 [.pointer (some ⟨db,0,none⟩),.slice ad (8+(twoP b).z+9) cc] (.any D6::H) (fun _:Unit=>True) (fun _=>I v7) (fun _ => .any D7::H):=by
      rw [←hidn,←hkk];exact hpk
     have hmr:((m:Int)+(r:Int)) % (k:Int)=(((m+r) % k:Nat):Int):=by rw [Int.natCast_emod,Int.natCast_add]
     rcases hv7 with ⟨hv9,hI7⟩|⟨hv9,hI7⟩
     all_goals
      repeat' (first|intro _|(refine a1W ?_;first|(refine a2I rfl ?_;rw [hk64])|(refine a2I rfl ?_;rw [BitVec.ofInt_natCast,hidn])|refine a2I rfl ?_|refine a5Y rfl (by omega) ?_)|(refine a0D .rem ?_;first|(refine a2J rfl rfl (by omega) ?_;rw [hr])|(refine a2J rfl rfl (by omega) ?_;rw [hmr]))|(refine a0D .add ?_;refine a2F rfl rfl (by omega) ?_)|(refine k_fn 14 ?_;(refine a0T (crP keyT (twoP b) 20#32 (twoI b) (sha (twoI b)) hb2) (fun hh=>c2N hk2 idn _ 20#32 hb2 ht.up) rfl (fun ⟨a109,c109⟩ _=>?_);(try dsimp only)))|refine a0T D6 (fun hh=>hpk _ a109 c109 ht.up (a0I (T:=5) (ad:=a109) (c:=c109) (l:=frameB 2#8 (symB (twoP b).s idn (datP (twoP b) (twoI b) (rowA (twoP b) idn)))) (a0B hh))) rfl (fun _ _=>?_)|(refine a0D .eql ?_;first|refine a3I rfl rfl hv9 ?_|refine a1Y rfl rfl hv9 ?_)|refine wK ?_|refine wL ?_ ?_|fail)
     ·refine a0Q (m+1,D7,f7,s7,true) ⟨by show m+1≤k;omega,hI7⟩ (by show k - (m+1)<k - m;omega) cv ?_
      exact ent
     ·refine a0Q (m+1,D7,f7,s7,full) ⟨by show m+1≤k;omega,hI7⟩ (by show k - (m+1)<k - m;omega) cv ?_
      exact ent
    ·obtain rfl:m=k:=by omega
     cases full with
     | true =>
      rcases hg with rfl|rfl
      all_goals
       repeat' (first|intro _|refine wK ?_|refine wL ?_ ?_|fail)
       refine a0H [(22,_),(12,_),(17,_),(18,_)] rtD52_1 [3,18] [⟨[0,1,2,5,6],[],some 3⟩,⟨[4,7,8,9,10,11,12,13,14,15,16,17],[5,6],some 18⟩,⟨[19,20],[],none⟩] mixed cv (by kernel_rfl) (by kernel_rfl) ?_
       repeat' (first|intro _|refine sg ?_|(refine a1I .eql ?_;refine po (by first|refine a3I rfl rfl rfl fz|refine a1Y rfl rfl (by decide) fz|fail) ?_)|refine pw ?_|refine pdd ?_|(refine k_fn 17 ?_;refine a0A (fun _=>b2I _ ht.up) rfl (fun _ _=>?_))|refine ow ?_|fail)
       all_goals dsimp only [cA,nA]
       repeat' (first|intro _|refine wK ?_|refine wL ?_ ?_|fail)
       refine a0E () rfl rfl rfl trivial ?_
       exact ent
     | false =>
      obtain ⟨rfl,off6,hcv6⟩:=on_all Hh (by rw [hkd];exact hI) (by rw [hkd];exact hrk)
      have hr6:=on_runs Hh hI.2.1 hcv6
      have hrun:Runs f6 s6.a.toNat (twoI b).length:=hr6.1
      have hseg:seg f6.bs (slotA s6.a.toNat) (twoI b).length=twoI b:=hr6.2
      rcases hg with rfl|rfl
      all_goals
       repeat' (first|intro _|refine wK ?_|refine wL ?_ ?_|fail)
       refine a0H [(22,_),(12,_),(17,_),(18,_)] rtD52_1 [3,18] [⟨[0,1,2,5,6],[],some 3⟩,⟨[4,7,8,9,10,11,12,13,14,15,16,17],[5,6],some 18⟩,⟨[19,20],[],none⟩] mixed cv (by kernel_rfl) (by kernel_rfl) ?_
       repeat' (first|intro _|refine sg ?_|(refine b0E ?_;refine po (by first|refine a2M (ad:=a132) (c:=c132) (xs:=twoI b) rfl rfl (a0I (T:=5) (ad:=a132) (c:=c132) (l:=twoI b)) fz|refine a2M (ad:=ja) (c:=jc) (xs:=twoI b) rfl rfl (a0I (T:=5) (ad:=ja) (c:=jc) (l:=twoI b)) fz|fail) ?_)|(refine a1I .eql ?_;refine po (by first|refine a8I (a:=twoI b) (b:=twoI b) (r:=true) rfl rfl (decide_eq_true rfl) fz|refine a3I rfl rfl rfl fz|refine a1Y rfl rfl (by decide) fz|fail) ?_)|refine pw ?_|refine pdd ?_|(refine k_fn 16 ?_;(refine a0T (dvI keyT f6 s6 db) (fun hh=>b0M _ db keyT f6 s6 s6.a.toNat (twoI b).length hrun) rfl (fun ⟨a132,c132⟩ _=>?_);(try dsimp only);rw [hseg]))|(refine k_fn 17 ?_;refine a0A (fun _=>b2I _ ht.up) rfl (fun _ _=>?_))|refine ow ?_|fail)
       all_goals dsimp only [cA,nA]
       repeat' (first|intro _|refine wK ?_|refine wL ?_ ?_|fail)
       refine a0E () rfl rfl rfl trivial ?_
       exact ent
end Go.Dp
namespace Go.Dp
open Go.RowKit Go.Proofs Go.Proofs.YtcblcmdikhllbaaGreatDoor
def laidC:List (String × DataW Unit):=[("math/bits.deBruijn64tab",Rows.laid_math_bits_deBruijn64tab)]
theorem laid_tab {H:Type}:(Rows.laid_math_bits_deBruijn64tab:DataW H) = .agg (Go.Lib.deBruijn64tab.map (fun k:Nat=>DataW.lit (.int .u8 (k:Int)))):=rfl
theorem gTab:Tryz.prog.globalNamed "math/bits.deBruijn64tab"=some 1:=by kernel_rfl
theorem tTab:(Tryz.prog.globals[1]?).map (·.type)=some 312:=by kernel_rfl
theorem of_laid {W:World} (h:laidMetH Tryz.prog laidC W) (j:Nat) (hj:j<64):W.cell? ⟨1,j,none⟩=some (.int .u8 ((Go.Lib.deBruijn64tab.getD j 0:Nat):Int)):=by
 rw [MakeChecks.laidMetH_plain _ _ _ (by kernel_rfl)] at h
 obtain ⟨ps,⟨g0,t0,cs0,f0,p0,q0,hg0,ht0,hv0,hd0,_⟩,_⟩:=h
 obtain rfl:=Option.some.inj (gTab.symm.trans hg0)
 obtain rfl:=Option.some.inj (tTab.symm.trans ht0)
 obtain ⟨xs,m1,rfl,hx1,hlen,hn,hel⟩:=DataW.trod_array (TArr.u (P:=Tryz.prog) (t:=312)) hd0
 rw [laid_tab] at hx1
 simp only [Prod.mk.injEq,DataW.agg.injEq] at hx1
 obtain ⟨x,hx⟩:∃ x,xs[j]?=some x:=⟨xs[j]'(by omega),List.getElem?_eq_getElem (by omega)⟩
 have h0:=hel j hj
 rw [hx] at h0
 obtain ⟨k,e1,e2,_⟩:=DataW.trod_int (TInt.u (P:=Tryz.prog) (t:=5)) h0
 have h1:=congrArg (·[j]?) hx1.1
 simp only [List.getElem?_map,hx,Option.map_some,e2] at h1
 have hl:j<Go.Lib.deBruijn64tab.length:=hj
 rw [List.getElem?_eq_getElem hl] at h1
 simp only [Option.map_some,Option.some.injEq,DataW.lit.injEq,Lit.int.injEq,true_and] at h1
 have hc:=World.var?_cell hg0 hv0 j
 rw [hc]
 have c1:Tryz.prog.cellsOf 5=1:=by kernel_rfl
 rw [c1,Nat.mul_one] at e1
 have e3:cs0.toList[j]?=some (.int .u8 k):=by
  have:=congrArg (·[0]?) e1
  simpa using this
 rw [List.getD_eq_getElem?_getD,List.getElem?_eq_getElem hl,Option.getD_some,h1]
 simpa using e3
theorem tab_base {W:World} (h:laidMetH Tryz.prog laidC W):TabF (stars (base W)):=⟨fun j hj=>⟨fun w hw=>b7M hw (of_laid h j hj)⟩⟩
theorem door_met (os:Os) (args:Array Value):laidMetH Tryz.prog laidC ((World.doorLaid Tryz.prog 400 os).forCall (fun _ _=>0) ⟨#[],args,[]⟩).memory :=
 laidMetH_of_parts3 (fuel:=8) (laidMet_of_run' 8 (by kernel_rfl) (by kernel_rfl)) (by kernel_rfl) (by kernel_rfl)
end Go.Dp
namespace Go.Dp
open Go.Proofs
instance :TSt Tryz.prog 59 [(0,3),(1,3),(2,3),(3,31)]:=⟨by kernel_rfl,by kernel_rfl⟩
end Go.Dp
