/-
  flash: Fuse, Start, Bytes, walked.
  state.sameSlot and state.Same, walked.
  What boot does to states, plain.
  boot.Start and boot.Confirm, and the reference's, walked.
  Pointers in an atomic cell: stored, loaded, seen as what they are.
  device: its memory's pointer; met, keeps, walked.
  device: opens, walked.
  device: what a device is; Packet, walked.
  device: turns, Boot, Confirm without a session, walked.
  device: a device whatever its memory is; Power without a session; Running, State, walked.
  Boots and a Confirm with the power on, plain: both slots hold their images.
  downpourtop: boots, Power and Confirm of a device without a session; TopTrial, walked.
  Conditions: those that stand in each theorem.
-/
import Derived.Test.YtcblcmdikhllbaaGreatDoorQTopSwitch0
import Derived.Test.YtcblcmdikhllbaaGreatDoorQTopSwitch1
import Derived.Test.YtcblcmdikhllbaaGreatDoorQTopSwitch10
import Derived.Test.YtcblcmdikhllbaaGreatDoorQTopSwitch11
import Derived.Test.YtcblcmdikhllbaaGreatDoorQTopSwitch12
import Derived.Test.YtcblcmdikhllbaaGreatDoorQTopSwitch13
import Derived.Test.YtcblcmdikhllbaaGreatDoorQTopSwitch14
import Derived.Test.YtcblcmdikhllbaaGreatDoorQTopSwitch15
import Derived.Test.YtcblcmdikhllbaaGreatDoorQTopSwitch16
import Derived.Test.YtcblcmdikhllbaaGreatDoorQTopSwitch17
import Derived.Test.YtcblcmdikhllbaaGreatDoorQTopSwitch2
import Derived.Test.YtcblcmdikhllbaaGreatDoorQTopSwitch3
import Derived.Test.YtcblcmdikhllbaaGreatDoorQTopSwitch4
import Derived.Test.YtcblcmdikhllbaaGreatDoorQTopSwitch5
import Derived.Test.YtcblcmdikhllbaaGreatDoorQTopSwitch6
import Derived.Test.YtcblcmdikhllbaaGreatDoorQTopSwitch7
import Derived.Test.YtcblcmdikhllbaaGreatDoorQTopSwitch8
import Derived.Test.YtcblcmdikhllbaaGreatDoorQTopSwitch9
set_option linter.unusedVariables false
set_option linter.unusedSimpArgs false
namespace Go.Dp
open Go.RowKit Go.Proofs
def startF (f:Fl):Fl:={ f with pw:=match f.pw with
  | .down none => .on
  | .down (some n) => .fuse n
  | p=>p }
theorem fl_Start (H:List Hl) (b:Nat) (ad:Option Addr) (c:Nat) (f:Fl) (h:Hid) (hk:FlOk f h) :
  Spec Tryz.prog 49 [.pointer (some ⟨b,0,none⟩)] (fB b ad c f h::H) (fun h':Hid=>FlOk (startF f) h') (fun _ => .tuple #[]) (fun h'=>fB b ad c (startF f) h'::H):=by
 refine spec_fn (res:=fun h':Hid=>[fB b ad c (startF f) h']) [fB b ad c f h] H Tryz.func49 rfl Tryz.ntmps49 (by kernel_rfl) rfl (fun W=>?_)
 dsimp only [List.cons_append,List.nil_append]
 have hE:=hk.er
 obtain ⟨v,hv⟩:∃ v,(h.fused && decide (0≤h.left))=v:=⟨_,rfl⟩
 have e:((flC ad c f h).set 16 (.bool false)).set 17 (.bool v)=flC ad c (startF f) { h with fused:=v }:=by
  have hp:=hk.pw
  obtain ⟨bs,er,wear,pwr,torn⟩:=f
  obtain ⟨l,st,fu⟩:=h
  match er,hE with
  | [a0,a1,a2,a3,a4,a5,a6,a7,a8,a9,a10,a11,a12,a13],_ =>
   cases pwr with
   | on=>rfl
   | fuse n=>rfl
   | down q=>cases q <;> rfl
 have hfin:FlOk (startF f) { h with fused:=v }:=by
  refine ⟨hE,hk.bs,hk.wr,hk.ers,?_⟩
  have hp:=hk.pw
  obtain ⟨bs,er,wear,pwr,torn⟩:=f
  obtain ⟨l,st,fu⟩:=h
  dsimp only at hp hv
  cases pwr with
  | on =>
   dsimp only at hp
   show v=false
   rw [←hv,hp];rfl
  | fuse n =>
   dsimp only at hp
   obtain ⟨p1,p2,p3⟩:=hp
   refine ⟨?_,p2,p3⟩
   rw [←hv,p1,p2]
   simp
  | down q =>
   cases q with
   | none =>
    dsimp only at hp
    show v=false
    rw [←hv]
    cases fu with
    | false=>rfl
    | true=>have:=hp rfl;simp;omega
   | some n =>
    dsimp only at hp
    obtain ⟨p1,p2,p3⟩:=hp
    refine ⟨?_,p2,p3⟩
    rw [←hv,p1,p2]
    simp
 cases hfu:h.fused
 ·have hvf:v=false:=by rw [←hv,hfu];rfl
  subst hvf
  repeat' (first|intro _|refine cw ?_|refine cw2 ?_ ?_|refine o1_pneq rfl rfl ?_|(refine k_load ?_;refine ox_load (v := .bool false) (b:=b) (i:=17) rfl (by rw [flC_fused hE,hfu]) ?_)|(refine k_store ?_;first|refine ox_stores (b:=b) (i:=16) rfl rfl (by rw [flC_len hE];decide) rfl rfl ?_|refine ox_stores (b:=b) (i:=17) rfl rfl (by rw [List.length_set,flC_len hE];decide) rfl e ?_)|refine ow ?_|refine ow2 ?_ ?_|fail)
  refine rt_none ({ h with fused:=false }:Hid) rfl rfl hfin ?_
  exact ent
 ·have hvf:decide (0≤h.left)=v:=by rw [←hv,hfu];rfl
  repeat' (first|intro _|refine cw ?_|refine cw2 ?_ ?_|refine o1_pneq rfl rfl ?_|(refine k_load ?_;first|refine ox_load (v := .bool true) (b:=b) (i:=17) rfl (by rw [flC_fused hE,hfu]) ?_|refine ox_load (b:=b) (i:=18) rfl (flC_left hE) ?_)|(refine k_binOp .geq ?_;(refine o1_geq_d rfl rfl ?_;rw [show decide (h.left ≥ 0)=v from hvf]))|(refine k_store ?_;first|refine ox_stores (b:=b) (i:=16) rfl rfl (by rw [flC_len hE];decide) rfl rfl ?_|refine ox_stores (b:=b) (i:=17) rfl rfl (by rw [List.length_set,flC_len hE];decide) rfl e ?_)|refine ow ?_|refine ow2 ?_ ?_|fail)
  refine rt_none ({ h with fused:=v }:Hid) rfl rfl hfin ?_
  exact ent
theorem st_sameSlot (H:List Hl) (x y:SlotD) (hx:RdS (stars H) x.h) (hy:RdS (stars H) y.h):Spec Tryz.prog 150 [x.V,y.V] H (fun _:Unit=>True) (fun _ => .bool (x.same y)) (fun _=>H):=by
 refine spec_pure (res:=fun _=>[]) H Tryz.func150 rfl Tryz.ntmps150 (by kernel_rfl) rfl (fun W=>?_)
 repeat' (first|intro _|refine cw ?_|refine cw2 ?_ ?_|(refine k_fn 66 ?_;refine o1_call (fun _=>slices_Equal _ _ _ _ _ x.h.l y.h.l (Rs.up hx) (Rs.up hy)) rfl (fun _ _=>?_))|refine ow ?_|refine ow2 ?_ ?_|fail)
 all_goals (refine rt_tmp () rfl rfl ?_ trivial ?_;· simp only [SlotD.same, *];first|rfl|simp|(simp;done))
 all_goals exact ent
set_option maxHeartbeats 2000000 in
theorem st_Same (H:List Hl) (x y:StD) (hx:x.Rd (stars H)) (hy:y.Rd (stars H)):Spec Tryz.prog 101 [x.V,y.V] H (fun _:Unit=>True) (fun _ => .bool (x.same y)) (fun _=>H):=by
 refine spec_pure (res:=fun _=>[]) H Tryz.func101 rfl Tryz.ntmps101 (by kernel_rfl) rfl (fun W=>?_)
 have e0:=hx.s0
 have e1:=hx.s1
 have e2:=hx.m
 have f0:=hy.s0
 have f1:=hy.s1
 have f2:=hy.m
 repeat' (first|intro _|refine cw ?_|refine cw2 ?_ ?_|(refine k_indexAddr ?_;first|refine ox_idx_arr 0 4 rfl rfl rfl (by decide) rfl ?_|refine ox_idx_arr 1 7 rfl rfl rfl (by decide) rfl ?_)|(refine k_binOp .eql ?_;(refine o1_eqb rfl rfl ?_;cases hon:(x.on == y.on)))|(refine k_fn 150 ?_;first|(refine o1_call (fun _=>st_sameSlot _ x.s0 y.s0 (Rs.up e0) (Rs.up f0)) rfl (fun _ _=>?_);cases hs0:x.s0.same y.s0)|(refine o1_call (fun _=>st_sameSlot _ x.s1 y.s1 (Rs.up e1) (Rs.up f1)) rfl (fun _ _=>?_);cases hs1:x.s1.same y.s1))|(refine k_fn 117 ?_;refine o1_call (fun _=>mf_Same _ x.m y.m (Rs.up e2) (Rs.up f2)) rfl (fun _ _=>?_))|refine ow ?_|refine ow2 ?_ ?_|fail)
 all_goals (refine rt_tmp () rfl rfl ?_ trivial ?_;· simp only [StD.same, *];first|rfl|simp|(simp;done))
 all_goals exact ent
def startS (x:StD):StD:=⟨if x.t=1 then 1 - x.a else x.a,if x.t=0 then 0 else x.t - 1,x.f,x.g,x.s0,x.s1,x.on,x.m⟩
def maxV (a b:BitVec 32):BitVec 32:=if a.toNat≤b.toNat then b else a
theorem maxV_hr (a b:BitVec 32):((a.toNat:Int)≤b.toNat∧((maxV a b).toNat:Int)=b.toNat)∨((b.toNat:Int)≤a.toNat∧((maxV a b).toNat:Int)=a.toNat):=by
 unfold maxV
 split
 ·left;omega
 ·right;omega
def confS (x:StD):StD:=⟨x.a,0,maxV x.f x.cur.v,x.g,x.s0,x.s1,x.on,x.m⟩
theorem start_may {x:StD} (h:x.may=true):(startS x).may=true:=by
 obtain ⟨h1,h2,h3,h4,h5⟩:=may_iff.1 h
 refine may_iff.2 ?_
 by_cases t0:x.t=0
 ·have e:startS x=x:=by
   obtain ⟨a,t,f,g,s0,s1,on,m⟩:=x
   dsimp only at t0
   subst t0
   simp [startS]
  rw [e];exact ⟨h1,h2,h3,h4,h5⟩
 ·have h4:x.oth.something=true:=by
   rcases h4 with h4|h4
   ·exact h4
   ·omega
  by_cases t1:x.t=1
  ·have ea:(startS x).a=1 - x.a:=if_pos t1
   have et:(startS x).t=0:=by show (if x.t=0 then 0 else x.t - 1)=0;rw [if_neg t0];omega
   have ec:(startS x).cur=x.oth:=by
    unfold StD.cur StD.oth
    rw [ea]
    rcases h1 with h1|h1
    ·rw [if_neg (by omega),if_pos h1];rfl
    ·rw [if_pos (by omega),if_neg (by omega)];rfl
   have eo:(startS x).oth=x.cur:=by
    unfold StD.cur StD.oth
    rw [ea]
    rcases h1 with h1|h1
    ·rw [if_neg (by omega),if_pos h1];rfl
    ·rw [if_pos (by omega),if_neg (by omega)];rfl
   exact ⟨by rw [ea];omega,by rw [et];omega,by rw [ec];exact h4,.inl (by rw [eo];exact h3),h5⟩
  ·have ea:(startS x).a=x.a:=if_neg t1
   have et:(startS x).t=x.t - 1:=if_neg t0
   have ec:(startS x).cur=x.cur:=by unfold StD.cur;rw [ea];rfl
   have eo:(startS x).oth=x.oth:=by unfold StD.oth;rw [ea];rfl
   exact ⟨by rw [ea];exact h1,by rw [et];omega,by rw [ec];exact h3,.inl (by rw [eo];exact h4),h5⟩
theorem conf_may {x:StD} (h:x.may=true):(confS x).may=true:=by
 obtain ⟨h1,h2,h3,h4,h5⟩:=may_iff.1 h
 refine may_iff.2 ⟨h1,by show 0≤(0:Int)∧(0:Int)≤3;omega,h3,?_,h5⟩
 rcases h4 with h4|h4
 ·exact .inl h4
 ·exact .inr ⟨h4.1,by show (0:Int)≤0;omega⟩
def confOn (x:StD):Bool := !((confS x).same x)
theorem confOn_eq (x:StD):confOn x = !(decide (x.t=0) && decide ((maxV x.f x.cur.v).toNat=x.f.toNat)):=by
 show (!(decide (x.a=x.a) && (decide ((0:Int)=x.t) && (decide (((maxV x.f x.cur.v).toNat:Int)=(x.f.toNat:Int)) && (decide ((x.g.toNat:Int)=x.g.toNat) && ((x.on == x.on) && (x.s0.same x.s0 && (x.s1.same x.s1 && x.m.same x.m))))))))=_
 rw [SlotD.same_self,SlotD.same_self,ManD.same_self]
 generalize maxV x.f x.cur.v=w
 congr 1
 rw [beq_self_eq_true]
 simp only [eq_self,decide_true,Bool.true_and,Bool.and_true]
 rw [Bool.eq_iff_iff]
 simp only [Bool.and_eq_true,decide_eq_true_eq]
 omega
def rtF2_0:List Row:=[⟨some 13,[],[],none⟩,⟨some 14,[0],[0],none⟩,⟨some 15,[],[],none⟩,⟨some 16,[2],[2],none⟩,⟨some 17,[],[],none⟩,⟨some 18,[4,3],[2,3,4],none⟩,⟨some 19,[5],[2,3,4,5],none⟩,⟨some 20,[6],[2,3,4,5,6],none⟩,⟨some 21,[1,7],[0,1,2,3,4,5,6,7],none⟩,⟨some 22,[0,1,2,3,4,5,6,7,8],[0,1,2,3,4,5,6,7,8],none⟩,⟨none,[9,8,0,1,2,3,4,5,6,7,8],[0,1,2,3,4,5,6,7,8,9],none⟩]
def rtF2_1:List Row:=[⟨some 23,[],[],none⟩,⟨some 24,[],[],none⟩,⟨some 25,[],[],none⟩,⟨some 26,[1,2],[1,2],none⟩,⟨some 27,[3],[1,2,3],none⟩,⟨none,[0,3,0],[0,1,2,3],none⟩,⟨some 3,[4,5,0,1,2,3,4,5],[0,1,2,3,4,5],none⟩]
theorem start_0 {x:StD} (h:x.t=0):startS x=x:=by
 obtain ⟨a,t,f,g,s0,s1,on,m⟩:=x
 dsimp only at h
 subst h
 simp [startS]
theorem start_1 {x:StD} (h:x.t=1):startS x=⟨1 - x.a,x.t - 1,x.f,x.g,x.s0,x.s1,x.on,x.m⟩:=by simp [startS,h]
theorem start_2 {x:StD} (h : ¬ x.t=0) (h1 : ¬ x.t=1):startS x=⟨x.a,x.t - 1,x.f,x.g,x.s0,x.s1,x.on,x.m⟩:=by simp [startS,h,h1]
abbrev rows3 (r:PA × PA × PA) (x:StD):List Hl:=[rowL r.1 x.s0.h.l,rowL r.2.1 x.s1.h.l,rowL r.2.2 x.m.h.l]
set_option maxHeartbeats 4000000 in
theorem bt_Start (H:List Hl) (x:StD) (hx:x.Rd (stars H)) (hm:x.may=true) :
  Spec Tryz.prog 53 [x.V] H (fun _:PA × PA × PA=>True) (fun r => .tuple #[(copyS (startS x) r.1 r.2.1 r.2.2).V,.bool (!decide (x.t=0))]) (fun r=>rowL r.1 x.s0.h.l::rowL r.2.1 x.s1.h.l::rowL r.2.2 x.m.h.l::H):=by
 refine spec_pure (res:=fun r:PA × PA × PA=>rows3 r x) H Tryz.func53 rfl Tryz.ntmps53 (by kernel_rfl) rfl (fun W=>?_)
 have e0:=hx.s0
 have e1:=hx.s1
 have e2:=hx.m
 have hl:=may_light hm
 obtain ⟨ha,ht,_,_,_⟩:=may_iff.1 hm
 by_cases t0:x.t=0
 ·rw [start_0 t0,decide_eq_true t0]
  repeat' (first|intro _|refine cw ?_|refine cw2 ?_ ?_|(refine k_fn 97 ?_;refine o1_call (fun _=>(st_May _ x).bv (b:=true) hm) rfl (fun _ _=>?_))|(refine k_fn 100 ?_;(refine o1_call (fun _=>bt_copied _ x ⟨Rs.up e0,Rs.up e1,Rs.up e2⟩ hl) rfl (fun ⟨r0,r1,r2⟩ _=>?_);dsimp only [StD.V,StD.c,copyS]))|refine ow ?_|refine ow2 ?_ ?_|fail)
  refine rt_cell_tmp (r0,r1,r2) rfl rfl rfl rfl rfl trivial ?_
  exact ent
 ·by_cases t1:x.t=1
  ·rw [start_1 t1,decide_eq_false t0]
   repeat' (first|intro _|refine cw ?_|refine cw2 ?_ ?_|(refine k_fn 97 ?_;refine o1_call (fun _=>(st_May _ x).bv (b:=true) hm) rfl (fun _ _=>?_))|(refine k_fn 100 ?_;(refine o1_call (fun _=>bt_copied _ x ⟨Rs.up e0,Rs.up e1,Rs.up e2⟩ hl) rfl (fun ⟨r0,r1,r2⟩ _=>?_);dsimp only [StD.V,StD.c,copyS]))|refine ow ?_|refine ow2 ?_ ?_|fail)
   refine rt_cell_tmp (r0,r1,r2) rfl rfl rfl rfl rfl trivial ?_
   exact ent
  ·rw [start_2 t0 t1,decide_eq_false t0]
   repeat' (first|intro _|refine cw ?_|refine cw2 ?_ ?_|(refine k_fn 97 ?_;refine o1_call (fun _=>(st_May _ x).bv (b:=true) hm) rfl (fun _ _=>?_))|(refine k_fn 100 ?_;(refine o1_call (fun _=>bt_copied _ x ⟨Rs.up e0,Rs.up e1,Rs.up e2⟩ hl) rfl (fun ⟨r0,r1,r2⟩ _=>?_);dsimp only [StD.V,StD.c,copyS]))|refine ow ?_|refine ow2 ?_ ?_|fail)
   refine rt_cell_tmp (r0,r1,r2) rfl rfl rfl rfl rfl trivial ?_
   exact ent
set_option maxHeartbeats 4000000 in
theorem bt_Confirm (H:List Hl) (x:StD) (hx:x.Rd (stars H)) (hm:x.may=true) :
  Spec Tryz.prog 54 [x.V] H (fun _:PA × PA × PA=>True) (fun r => .tuple #[(copyS (confS x) r.1 r.2.1 r.2.2).V,.bool (confOn x)]) (fun r=>rowL r.1 x.s0.h.l::rowL r.2.1 x.s1.h.l::rowL r.2.2 x.m.h.l::H):=by
 refine spec_pure (res:=fun r:PA × PA × PA=>rows3 r x) H Tryz.func54 rfl Tryz.ntmps54 (by kernel_rfl) rfl (fun W=>?_)
 have e0:=hx.s0
 have e1:=hx.s1
 have e2:=hx.m
 have hl:=may_light hm
 obtain ⟨ha,ht,_,_,_⟩:=may_iff.1 hm
 have hmx:=maxV_hr x.f x.cur.v
 obtain ⟨a,t,f,g,s0,s1,on,m⟩:=x
 dsimp only at ha ht e0 e1 e2 hmx
 rcases ha with rfl|rfl
 all_goals
  dsimp only [StD.V,StD.c,StD.cur] at *
  simp only [if_true,show ((1:Int)=0)=False from by simp,if_false] at hmx
  repeat' (first|intro _|refine cw ?_|refine cw2 ?_ ?_|(refine k_fn 97 ?_;refine o1_call (fun _=>(st_May _ ⟨_,t,f,g,s0,s1,on,m⟩).bv (b:=true) hm) rfl (fun _ _=>?_))|(refine k_fn 100 ?_;(refine o1_call (fun _=>bt_copied _ ⟨_,t,f,g,s0,s1,on,m⟩ ⟨Rs.up e0,Rs.up e1,Rs.up e2⟩ hl) rfl (fun ⟨r0,r1,r2⟩ _=>?_);dsimp only [StD.V,StD.c,copyS]))|refine ow ?_|refine ow2 ?_ ?_|fail)
  refine st_stages' [(1,_)] rtF2_0 [10] [⟨[0,1,2,3,4,5,6,7,8,9],[],some 10⟩,⟨[],[],none⟩] mixed cv (by kernel_rfl) (by kernel_rfl) ?_
  repeat' (first|intro _|refine sg ?_|(refine p_indexAddr ?_;refine po (by first|refine ox_idx_arr 0 4 rfl rfl rfl (by decide) rfl fz|refine ox_idx_arr 1 7 rfl rfl rfl (by decide) rfl fz|fail) ?_)|(refine p_call ?_;refine po (by first|refine o1_max rfl rfl hmx fz|fail) ?_)|refine pw ?_|refine pdd ?_|refine ow ?_|fail)
  all_goals dsimp only [List.cons_append,List.nil_append]
  repeat' (first|intro _|refine cw ?_|refine cw2 ?_ ?_|refine ow ?_|refine ow2 ?_ ?_|fail)
  refine st_stages' [(1,_),(4,_),(2,_)] rtF2_1 [5] [⟨[0,1,2,3,4],[],some 5⟩,⟨[6],[4],none⟩] mixed cv (by kernel_rfl) (by kernel_rfl) ?_
  repeat' (first|intro _|refine sg ?_|(refine p_fn 101 ?_;refine po (by first|refine o1_call (fun hh=>st_Same _ (copyS (confS ⟨_,t,f,g,s0,s1,on,m⟩) r0 r1 r2) ⟨_,t,f,g,s0,s1,on,m⟩ ⟨rx_row (ad:=r0.1) (c:=r0.2) (l:=s0.h.l) hh,rx_row (ad:=r1.1) (c:=r1.2) (l:=s1.h.l) hh,rx_row (ad:=r2.1) (c:=r2.2) (l:=m.h.l) hh⟩ ⟨Rs.up e0,Rs.up e1,Rs.up e2⟩) rfl (fun _ _=>fz)|fail) ?_)|refine pw ?_|refine pdd ?_|refine ow ?_|fail)
  all_goals dsimp only [List.cons_append,List.nil_append]
  repeat' (first|intro _|refine cw ?_|refine cw2 ?_ ?_|refine ow ?_|refine ow2 ?_ ?_|fail)
  refine rt_cell_tmp (r0,r1,r2) rfl rfl rfl rfl rfl trivial ?_
  exact ent
end Go.Dp
namespace Go.Dp
open Go.RowKit
theorem run_to_unsafe_nil {P:Program} {src dst u:TypeId} (hs:P.underlying src=some (.pointer u)) (hd:P.underlying dst=some .unsafePointer) {w:World}:(convert src dst (.pointer none)).run P w = .ok (.pointer none) w:=by
 simp [convert,run_underlying hs,run_underlying hd,Conv.unsafePointer]
section
variable {P:Program} {n:Nat} {H:List Hl} {e:Ev} {C:Value→List Hl→Prop} {ty:TypeId}
variable {f:FuncId} {xs:List Operand} {ats:Array TypeId} {b i:Nat} {T:TypeId} {cs:List Value} {H':List Hl} {y:Option Addr}
theorem o1_to_unsafe_nil {src dst u:TypeId} {x:Operand} (hs:P.underlying src=some (.pointer u)) (hd:P.underlying dst=some .unsafePointer) (hx:opd e x=some (.pointer none)) (h:C (.pointer none) H):O1 P (.convert src dst x) ty n e H C :=
 o1_val _ (fun a w ho=>by simp [execOp,ho.ev.eval hx,run_to_unsafe_nil hs hd]) h
end
open Go.RowKit Go.Proofs
theorem dp_Store_nil (H H1:List Hl) (db i:Nat) (T:TypeId) (cs:List Value) [s1:SBox H db T cs H1] (hi:i<cs.length) :
  Spec Tryz.prog 50 [.pointer (some ⟨db,i,none⟩),.pointer none] H (fun _:Unit=>True) (fun _ => .tuple #[]) (fun _ => .box db T (cs.set i (.pointer none))::H1):=by
 refine spec_of _ Tryz.func50 rfl Tryz.ntmps50 (by kernel_rfl) rfl (fun W=>?_)
 repeat' (first|intro _|refine cw ?_|refine cw2 ?_ ?_|refine ow ?_|refine ow2 ?_ ?_|fail)
 refine o1_to_unsafe_nil u_mem u_uns rfl ?_
 repeat' (first|intro _|refine cw ?_|refine cw2 ?_ ?_|refine ow ?_|refine ow2 ?_ ?_|fail)
 refine o1_xstorep xf_storep rfl hi ?_
 repeat' (first|intro _|refine cw ?_|refine cw2 ?_ ?_|refine ow ?_|refine ow2 ?_ ?_|fail)
 exact rt_none () rfl rfl trivial (Ent.refl _)
theorem dv_Store_nil (H:List Hl) (db fb:Nat) (ka:Option Addr) (kn kc:Nat) (mp:Option Addr) :
  Spec Tryz.prog 50 [.pointer (some ⟨db,2,none⟩),.pointer none] (dvB db fb ka kn kc mp::H) (fun _:Unit=>True) (fun _ => .tuple #[]) (fun _=>dvB db fb ka kn kc none::H) :=
 dp_Store_nil _ H db 2 78 [.slice ka kn kc,.pointer (some ⟨fb,0,none⟩),.pointer mp] (by simp)
section
variable {P:Program} {n:Nat} {H:List Hl} {e:Ev} {C:Value→List Hl→Prop} {ty:TypeId}
end
open Go.RowKit Go.Proofs Sha
def rtD27_0:List Row:=[⟨some 7,[],[],none⟩,⟨some 8,[0],[0],none⟩,⟨some 9,[1],[0,1],none⟩,⟨some 10,[],[],none⟩,⟨some 11,[3],[3],none⟩,⟨some 12,[4],[3,4],none⟩,⟨some 13,[2,5],[0,1,2,3,4,5],none⟩]
set_option maxHeartbeats 4000000 in
theorem dv_opens_off (H:List Hl) (db fb:Nat) (ka:Option Addr) (kn kc:Nat) (mp:Option Addr) (x:StD) (ho:x.on=false) :
  Spec Tryz.prog 75 [.pointer (some ⟨db,0,none⟩),x.V] (dvB db fb ka kn kc mp::H) (fun _:Nat=>True) (fun _=>I 0) (fun mb=>dvB db fb ka kn kc (pM mb)::meB mb x none::H):=by
 refine spec_fn (res:=fun mb:Nat=>[dvB db fb ka kn kc (pM mb),meB mb x none]) [dvB db fb ka kn kc mp] H Tryz.func75 rfl Tryz.ntmps75 (by kernel_rfl) rfl (fun W=>?_)
 dsimp only [List.cons_append,List.nil_append]
 repeat' (first|intro _|refine cw ?_|refine cw2 ?_ ?_|(refine k_box ?_;refine o1_box rfl rfl (fun b3=>?_))|refine ow ?_|refine ow2 ?_ ?_|fail)
 refine st_stages' [(0,_),(3,_)] rtD27_0 [5,6] [⟨[0,1,2,3,4],[],some 5⟩,⟨[],[0,1,2],some 6⟩,⟨[],[],none⟩] mixed cv (by kernel_rfl) (by kernel_rfl) ?_
 repeat' (first|intro _|refine sg ?_|refine pw ?_|refine pdd ?_|(refine k_box ?_;refine o1_box rfl rfl (fun mb=>?_))|(refine k_fn 50 ?_;refine o1_call_bb db mb (fun _=>dv_Store _ db fb ka kn kc mp mb x none) rfl (fun _ _=>?_))|refine ow ?_|fail)
 all_goals dsimp only [List.cons_append,List.nil_append]
 repeat' (first|intro _|refine cw ?_|refine cw2 ?_ ?_|(refine k_load ?_;(refine ox_load (b:=b3) (i:=10) rfl rfl ?_;rw [ho]))|refine ow ?_|refine ow2 ?_ ?_|fail)
 refine rt_tmp mb rfl rfl rfl trivial ?_
 exact ent
section
variable {P:Program} {k:Kon} {n:Nat} {e:Ev} {W:World} {H R:List Hl} {key:List (BitVec 8)} {f:Fl} {s:StD} {st:Sto} {db:Nat}
end
set_option maxHeartbeats 8000000 in
theorem pk_hears_no_I (H:List Hl) (db:Nat) (key:List (BitVec 8)) (f:Fl) (s:StD) (ad2:Option Addr) (m2 c2:Nat) (b:List (BitVec 8)) (hb:Rs (stars H) B ad2 c2 (frameB 1#8 b)) (hm2:m2=b.length+9) (hbl:b.length≤291) (hb1:1≤b.length) (hkl:key.length≤64) (m:ManD) (e:Int) (hpr:prM key b=(m,0)) (he:errOf s m=e) (hne:e≠0) (h11:e≠11) :
  Spec Tryz.prog 12 [.pointer (some ⟨db,0,none⟩),.slice ad2 m2 c2] (.any (dvI key f s db)::H) (fun _:Unit=>True) (fun _=>I e) (fun _ => .any (dvI key f s db)::H):=by
 refine Spec.som (by kernel_rfl) (fun ⟨fb,ad,c,h,mb,sb,ka,kc,x,A⟩ hl0=>?_)
 obtain ⟨hk,hkey,hx,hnf⟩:=hl0
 dsimp only at hk hkey hx hnf
 subst hnf
 show Spec _ _ _ ([dvB db fb ka key.length kc (pM mb),meB mb x none,fB fb ad c f h,fR ad c f,.any A]++H) _ _ _
 refine spec_fn (res:=fun _:Unit=>[.any (dvI key f (nf x) db)]) [dvB db fb ka key.length kc (pM mb),meB mb x none,fB fb ad c f h,fR ad c f,.any A] H Tryz.func12 rfl Tryz.ntmps12 (by kernel_rfl) rfl (fun W=>?_)
 dsimp only [List.cons_append,List.nil_append]
 have he2:errOf x m=e:=by rw [←he,nf_err]
 repeat' (first|intro _|refine cw ?_|refine cw2 ?_ ?_|refine o1_peql rfl rfl ?_|(refine k_fn 33 ?_;refine o1_call (fun _=>dv_LoadH db fb ka key.length kc mb x none) rfl (fun _ _=>?_))|(refine k_fn 34 ?_;(refine o1_call (fun _=>fr_Unwrap _ 1#8 ad2 m2 c2 b hb.up hm2 hbl hb1) rfl (fun ⟨a18,c18⟩ _=>?_);(try dsimp only);rw [show (((1#8:BitVec 8).toNat:Nat):Int)=1 from rfl]))|(refine k_fn 36 ?_;(refine o1_call_to (dvB db fb ka key.length kc (pM mb)::meB mb x none::[.row 5 1 (.slice a18 (b.length+3) c18) (b.length+3) ((innB 1#8 b).map B),fB fb ad c f h,fR ad c f,.any A,.any (stars H)]) (Ent.out ent) (fun hh=>dv_hears_no _ db fb ka key kc mb x none (cutA a18 c18 3) b.length (c18 - 3) b m e hkey.up (by omega) (rx_cutl (T:=5) (ad:=a18) (c:=c18) (n:=b.length+3) (l:=innB 1#8 b) (enc:=B) 3 (by rw [innB_len];omega) (inn_drop _ _) (has_tail (has_tail hh))) rfl hpr ⟨hx.s0.up,hx.s1.up,hx.m.up⟩ he2 hne) rfl (fun _ _=>?_)))|(refine k_fn 35 ?_;refine o1_call_box (b:=db) (fun _=>dv_met _ db fb ka key.length kc (pM mb) e h11) rfl (fun _ _=>?_))|refine ow ?_|refine ow2 ?_ ?_|fail)
 refine rt_dvI (l:=⟨fb,ad,c,h,mb,sb,ka,kc,x,A⟩) (R:=[.any (stars H)]) ⟨hk,hkey,hx,rfl⟩ ent ?_
 refine rt_tmp () rfl rfl rfl trivial ?_
 exact ent
def rtD42_0:List Row:=[⟨some 27,[],[],none⟩,⟨some 28,[],[],none⟩,⟨some 29,[],[],none⟩,⟨some 30,[],[],none⟩,⟨some 31,[3],[3],none⟩,⟨some 32,[4],[3,4],none⟩,⟨some 33,[5],[3,4,5],none⟩,⟨some 34,[1,2,6],[1,2,3,4,5,6],none⟩,⟨some 35,[0,7,7],[0,1,2,3,4,5,6,7],none⟩,⟨some 4,[8,8,0,1,2,3,4,5,6,7,8],[0,1,2,3,4,5,6,7,8],none⟩]
theorem nf_start (s:StD):nf (startS s)=startS (nf s):=rfl
theorem nf_conf (s:StD):nf (confS s)=confS (nf s):=by
 have h:=nf_cur_v s
 show StD.mk _ _ (maxV s.f s.cur.v) _ _ _ _ _=StD.mk _ _ (maxV s.f (nf s).cur.v) _ _ _ _ _
 rw [h]
 rfl
theorem nf_confOn (s:StD):confOn (nf s)=confOn s:=by rw [confOn_eq,confOn_eq,nf_cur_v];rfl
set_option maxHeartbeats 8000000 in
theorem dv_turns (H:List Hl) (db:Nat) (key:List (BitVec 8)) (f f1:Fl) (s y:StD) (fn:FuncId) (Y:StD→StD)
  (hto:∀ x H',nf x=s→x.Rd (stars H')→Spec Tryz.prog fn [x.V] H' (fun _:PA × PA × PA=>True) (fun r => .tuple #[(copyS (Y x) r.1 r.2.1 r.2.2).V,.bool true]) (fun r=>rowL r.1 (Y x).s0.h.l::rowL r.2.1 (Y x).s1.h.l::rowL r.2.2 (Y x).m.h.l::H'))
  (hY:∀ x,nf x=s→nf (Y x)=y) (hm:y.may=true) (hd:f.pw.isDown=false) (hW:cellW f y.by=(f1,0)) :
  Spec Tryz.prog 52 [.pointer (some ⟨db,0,none⟩),.func (.func fn) #[] #[]] (.any (dvI key f s db)::H) (fun _:Unit=>True) (fun _=>I 0) (fun _ => .any (dvI key f1 y db)::H):=by
 refine Spec.som (by kernel_rfl) (fun ⟨fb,ad,c,h,mb,sb,ka,kc,x,A⟩ hl0=>?_)
 obtain ⟨hk,hkey,hx,hnf⟩:=hl0
 dsimp only at hk hkey hx hnf
 show Spec _ _ _ ([dvB db fb ka key.length kc (pM mb),meB mb x none,fB fb ad c f h,fR ad c f,.any A]++H) _ _ _
 refine spec_fn (res:=fun _:Unit=>[.any (dvI key f1 y db)]) [dvB db fb ka key.length kc (pM mb),meB mb x none,fB fb ad c f h,fR ad c f,.any A] H Tryz.func52 rfl Tryz.ntmps52 (by kernel_rfl) rfl (fun W=>?_)
 dsimp only [List.cons_append,List.nil_append]
 have hyx:=hY x hnf
 obtain ⟨z,hz⟩:∃ z,Y x=z:=⟨_,rfl⟩
 have hcall:=fun (H':List Hl) (h:x.Rd (stars H'))=>hto x H' hnf h
 rw [hz] at hcall hyx
 have hmay:∀ r0 r1 r2,(copyS z r0 r1 r2).may=true:=fun r0 r1 r2=>by rw [copy_may,←nf_may,hyx];exact hm
 have hW2:∀ r0 r1 r2,cellW f (copyS z r0 r1 r2).by=(f1,0):=fun r0 r1 r2=>by rw [←hW,←hyx];rfl
 repeat' (first|intro _|refine cw ?_|refine cw2 ?_ ?_|refine o1_peql rfl rfl ?_|(refine o1_kall (args:=[x.V]) (caps:=[]) rfl (fun _=>hcall _ ⟨hx.s0.up,hx.s1.up,hx.m.up⟩) rfl (fun ⟨r0,r1,r2⟩ _=>?_);(try dsimp only))|(refine k_fn 33 ?_;refine o1_call (fun _=>dv_LoadH db fb ka key.length kc mb x none) rfl (fun _ _=>?_))|(refine k_alloc ?_;refine o1_alloc rfl (fun b6=>?_))|refine ow ?_|refine ow2 ?_ ?_|fail)
 refine st_stages' [(0,_),(6,_),(5,_)] rtD42_0 [7,8] [⟨[0,1,2,3,4,5,6],[],some 7⟩,⟨[],[0],some 8⟩,⟨[9],[],none⟩] mixed cv (by kernel_rfl) (by kernel_rfl) ?_
 repeat' (first|intro _|refine sg ?_|(refine p_load ?_;refine po (by first|refine ox_load (b:=mb) (i:=17) rfl rfl fz|fail) ?_)|refine pw ?_|refine pdd ?_|(refine k_fn 32 ?_;(refine o1_call_to (dvB db fb ka key.length kc (pM mb)::fB fb ad c f h::fR ad c f::[rowL r0 z.s0.h.l,rowL r1 z.s1.h.l,rowL r2 z.m.h.l,.any A,.any (stars H)]) (Ent.out ent) (fun hh=>dv_keeps _ db fb ka key.length kc (pM mb) ad c f f1 h (copyS z r0 r1 r2) none (hmay r0 r1 r2) ⟨rx_row (T:=5) (ad:=r0.1) (c:=r0.2) (l:=z.s0.h.l) (has_tail (has_tail (has_tail hh))),rx_row (T:=5) (ad:=r1.1) (c:=r1.2) (l:=z.s1.h.l) (has_tail (has_tail (has_tail hh))),rx_row (T:=5) (ad:=r2.1) (c:=r2.2) (l:=z.m.h.l) (has_tail (has_tail (has_tail hh)))⟩ hk hd (hW2 r0 r1 r2)) rfl (fun ⟨h1,mb2⟩ hk1=>?_);(try dsimp only at hk1 ⊢)))|(refine k_fn 35 ?_;refine o1_call_box (b:=db) (fun _=>dv_met _ db fb ka key.length kc (pM mb2) 0 (by decide)) rfl (fun _ _=>?_))|refine ow ?_|fail)
 all_goals dsimp only [List.cons_append,List.nil_append]
 repeat' (first|intro _|refine cw ?_|refine cw2 ?_ ?_|refine ow ?_|refine ow2 ?_ ?_|fail)
 refine rt_pack [rowL r0 z.s0.h.l,rowL r1 z.s1.h.l,rowL r2 z.m.h.l,.any A] [dvB db fb ka key.length kc (pM mb2),meB mb2 (copyS z r0 r1 r2) none,fB fb ad c f1 h1,fR ad c f1,.any (stars H)] ent ?_
 refine rt_has (fun hh=>?_)
 have hA:=has_any hh
 refine rt_dvI (l:=⟨fb,ad,c,h1,mb2,sb,ka,kc,copyS z r0 r1 r2,stars [rowL r0 z.s0.h.l,rowL r1 z.s1.h.l,rowL r2 z.m.h.l,.any A]⟩) (R:=[.any (stars H)]) ⟨hk1,rs_gr hkey Gr.of,⟨rx_row (T:=5) (ad:=r0.1) (c:=r0.2) (l:=z.s0.h.l) hA,rx_row (T:=5) (ad:=r1.1) (c:=r1.2) (l:=z.s1.h.l) hA,rx_row (T:=5) (ad:=r2.1) (c:=r2.2) (l:=z.m.h.l) hA⟩,hyx⟩ ent ?_
 refine rt_tmp () rfl rfl rfl trivial ?_
 exact ent
set_option maxHeartbeats 8000000 in
theorem dv_turns_no (H:List Hl) (db:Nat) (key:List (BitVec 8)) (f:Fl) (s:StD) (fn:FuncId) (Y:StD→StD)
  (hto:∀ x H',nf x=s→x.Rd (stars H')→Spec Tryz.prog fn [x.V] H' (fun _:PA × PA × PA=>True) (fun r => .tuple #[(copyS (Y x) r.1 r.2.1 r.2.2).V,.bool false]) (fun r=>rowL r.1 (Y x).s0.h.l::rowL r.2.1 (Y x).s1.h.l::rowL r.2.2 (Y x).m.h.l::H')) :
  Spec Tryz.prog 52 [.pointer (some ⟨db,0,none⟩),.func (.func fn) #[] #[]] (.any (dvI key f s db)::H) (fun _:Unit=>True) (fun _=>I 0) (fun _ => .any (dvI key f s db)::H):=by
 refine Spec.som (by kernel_rfl) (fun ⟨fb,ad,c,h,mb,sb,ka,kc,x,A⟩ hl0=>?_)
 obtain ⟨hk,hkey,hx,hnf⟩:=hl0
 dsimp only at hk hkey hx hnf
 show Spec _ _ _ ([dvB db fb ka key.length kc (pM mb),meB mb x none,fB fb ad c f h,fR ad c f,.any A]++H) _ _ _
 refine spec_fn (res:=fun _:Unit=>[.any (dvI key f s db)]) [dvB db fb ka key.length kc (pM mb),meB mb x none,fB fb ad c f h,fR ad c f,.any A] H Tryz.func52 rfl Tryz.ntmps52 (by kernel_rfl) rfl (fun W=>?_)
 dsimp only [List.cons_append,List.nil_append]
 obtain ⟨z,hz⟩:∃ z,Y x=z:=⟨_,rfl⟩
 have hcall:=fun (H':List Hl) (h:x.Rd (stars H'))=>hto x H' hnf h
 rw [hz] at hcall
 repeat' (first|intro _|refine cw ?_|refine cw2 ?_ ?_|refine o1_peql rfl rfl ?_|(refine o1_kall (args:=[x.V]) (caps:=[]) rfl (fun _=>hcall _ ⟨hx.s0.up,hx.s1.up,hx.m.up⟩) rfl (fun ⟨r0,r1,r2⟩ _=>?_);(try dsimp only))|(refine k_fn 33 ?_;refine o1_call (fun _=>dv_LoadH db fb ka key.length kc mb x none) rfl (fun _ _=>?_))|(refine k_alloc ?_;refine o1_alloc rfl (fun b6=>?_))|refine ow ?_|refine ow2 ?_ ?_|fail)
 refine rt_dvI (l:=⟨fb,ad,c,h,mb,sb,ka,kc,x,A⟩) (R:=[.any (stars H)]) ⟨hk,hkey,hx,hnf⟩ ent ?_
 refine rt_tmp () rfl rfl rfl trivial ?_
 exact ent
theorem start_call {x s:StD} {H:List Hl} (hs:nf x=s) (hx:x.Rd (stars H)) (hm:s.may=true) (b:Bool) (hb:(!decide (s.t=0))=b) :
  Spec Tryz.prog 53 [x.V] H (fun _:PA × PA × PA=>True) (fun r => .tuple #[(copyS (startS x) r.1 r.2.1 r.2.2).V,.bool b]) (fun r=>rowL r.1 (startS x).s0.h.l::rowL r.2.1 (startS x).s1.h.l::rowL r.2.2 (startS x).m.h.l::H):=by
 have hmx:x.may=true:=by rw [←nf_may,hs];exact hm
 have:(!decide (x.t=0))=b:=by rw [←hb,←hs];rfl
 rw [←this]
 exact bt_Start H x hx hmx
theorem conf_call {x s:StD} {H:List Hl} (hs:nf x=s) (hx:x.Rd (stars H)) (hm:s.may=true) (b:Bool) (hb:confOn s=b) :
  Spec Tryz.prog 54 [x.V] H (fun _:PA × PA × PA=>True) (fun r => .tuple #[(copyS (confS x) r.1 r.2.1 r.2.2).V,.bool b]) (fun r=>rowL r.1 (confS x).s0.h.l::rowL r.2.1 (confS x).s1.h.l::rowL r.2.2 (confS x).m.h.l::H):=by
 have hmx:x.may=true:=by rw [←nf_may,hs];exact hm
 have:confOn x=b:=by rw [←hb,←hs,nf_confOn]
 rw [←this]
 exact bt_Confirm H x hx hmx
theorem dv_Boot (H:List Hl) (db:Nat) (key:List (BitVec 8)) (f f1:Fl) (s:StD) (hm:s.may=true) (ht : ¬ s.t=0) (hd:f.pw.isDown=false) (hW:cellW f (startS s).by=(f1,0)) :
  Spec Tryz.prog 22 [.pointer (some ⟨db,0,none⟩)] (.any (dvI key f s db)::H) (fun _:Unit=>True) (fun _=>I 0) (fun _ => .any (dvI key f1 (startS s) db)::H):=by
 refine spec_fn (res:=fun _:Unit=>[.any (dvI key f1 (startS s) db)]) [.any (dvI key f s db)] H Tryz.func22 rfl Tryz.ntmps22 (by kernel_rfl) rfl (fun W=>?_)
 dsimp only [List.cons_append,List.nil_append]
 repeat' (first|intro _|refine cw ?_|refine cw2 ?_ ?_|(refine k_fn 52 ?_;refine o1_call_a (dvI key f s db) (fun _=>dv_turns _ db key f f1 s (startS s) _ startS (fun x H' hs hx=>start_call hs hx hm true (by rw [decide_eq_false ht];rfl)) (fun x hs=>by rw [nf_start,hs]) (start_may hm) hd hW) rfl (fun _ _=>?_))|refine ow ?_|refine ow2 ?_ ?_|fail)
 refine rt_tmp () rfl rfl rfl trivial ?_
 exact ent
theorem dv_Boot_no (H:List Hl) (db:Nat) (key:List (BitVec 8)) (f:Fl) (s:StD) (hm:s.may=true) (ht:s.t=0) :
  Spec Tryz.prog 22 [.pointer (some ⟨db,0,none⟩)] (.any (dvI key f s db)::H) (fun _:Unit=>True) (fun _=>I 0) (fun _ => .any (dvI key f s db)::H):=by
 refine spec_fn (res:=fun _:Unit=>[.any (dvI key f s db)]) [.any (dvI key f s db)] H Tryz.func22 rfl Tryz.ntmps22 (by kernel_rfl) rfl (fun W=>?_)
 dsimp only [List.cons_append,List.nil_append]
 repeat' (first|intro _|refine cw ?_|refine cw2 ?_ ?_|(refine k_fn 52 ?_;refine o1_call_a (dvI key f s db) (fun _=>dv_turns_no _ db key f s _ startS (fun x H' hs hx=>start_call hs hx hm false (by rw [decide_eq_true ht];rfl))) rfl (fun _ _=>?_))|refine ow ?_|refine ow2 ?_ ?_|fail)
 refine rt_tmp () rfl rfl rfl trivial ?_
 exact ent
theorem dv_Confirm (H:List Hl) (db:Nat) (key:List (BitVec 8)) (f f1:Fl) (s:StD) (hm:s.may=true) (hc:confOn s=true) (hd:f.pw.isDown=false) (hW:cellW f (confS s).by=(f1,0)) :
  Spec Tryz.prog 23 [.pointer (some ⟨db,0,none⟩)] (.any (dvI key f s db)::H) (fun _:Unit=>True) (fun _=>I 0) (fun _ => .any (dvI key f1 (confS s) db)::H):=by
 refine spec_fn (res:=fun _:Unit=>[.any (dvI key f1 (confS s) db)]) [.any (dvI key f s db)] H Tryz.func23 rfl Tryz.ntmps23 (by kernel_rfl) rfl (fun W=>?_)
 dsimp only [List.cons_append,List.nil_append]
 repeat' (first|intro _|refine cw ?_|refine cw2 ?_ ?_|(refine k_fn 52 ?_;refine o1_call_a (dvI key f s db) (fun _=>dv_turns _ db key f f1 s (confS s) _ confS (fun x H' hs hx=>conf_call hs hx hm true hc) (fun x hs=>by rw [nf_conf,hs]) (conf_may hm) hd hW) rfl (fun _ _=>?_))|refine ow ?_|refine ow2 ?_ ?_|fail)
 refine rt_tmp () rfl rfl rfl trivial ?_
 exact ent
theorem Spec.pre {P:Program} {f:FuncId} {args:List Value} {H H':List Hl} {X:Type} {good:X→Prop} {val:X→Value} {res:X→List Hl} (h:Spec P f args H' good val res) (g:∀ x,stars H x→stars H' x):Spec P f args H good val res :=
 ⟨h.enters,fun w hs=>h.calls w (hs.mono g)⟩
theorem Spec.to {P:Program} {f:FuncId} {args:List Value} {H:List Hl} {X Y:Type} {good:X→Prop} {val:X→Value} {res:X→List Hl} {good':Y→Prop} {val':Y→Value} {res':Y→List Hl} (h:Spec P f args H good val res) (g:∀ x,good x→∃ y,good' y∧val x=val' y∧∀ hp,stars (res x) hp→stars (res' y) hp):Spec P f args H good' val' res' :=
 ⟨h.enters,fun w hs=>(h.calls w hs).mono fun e w' ⟨x,hg,he,hx,hsat⟩=>by
  obtain ⟨y,hy,hv,hE⟩:=g x hg
  exact ⟨y,hy,hv ▸ he,hx,hsat.mono hE⟩⟩
def dvP (key:List (BitVec 8)) (f:Fl) (db:Nat):Hp→Prop:=Som (fun q:Lay × Option Addr=>DvK key f q.1) (fun q=>[dvA db key q.1 q.2,flA f q.1,frA f q.1,.any q.1.A])
theorem dvP_of {key:List (BitVec 8)} {f:Fl} {db:Nat} {R:List Hl} (l:Lay) (mp:Option Addr) (hl:DvK key f l):∀ x,stars (dvA db key l mp::flA f l::frA f l :: .any l.A::R) x→stars (.any (dvP key f db)::R) x:=fun x hx =>
 som_of (p:=fun q:Lay × Option Addr=>DvK key f q.1) (L:=fun q=>[dvA db key q.1 q.2,flA f q.1,frA f q.1,.any q.1.A]) (l,mp) hl x hx
theorem dvI_P {key:List (BitVec 8)} {f:Fl} {s:StD} {db:Nat} {R:List Hl}:∀ x,stars (.any (dvI key f s db)::R) x→stars (.any (dvP key f db)::R) x:=fun x hx=>by
 obtain ⟨l,hl,hy⟩:=som_out hx
 have hz:stars ([meB l.mb l.x none,.any l.A]++(dvA db key l (pM l.mb)::flA f l::frA f l::R)) x:=Ent.out (by
  dsimp only [List.cons_append,List.nil_append]
  exact ent) x hy
 refine dvP_of ⟨l.fb,l.ad,l.c,l.h,l.mb,l.sb,l.ka,l.kc,l.x,stars [meB l.mb l.x none,.any l.A]⟩ (pM l.mb) ⟨hl.fl,rs_gr hl.key Gr.of⟩ x (Ent.out ent x (ent_pack _ _ x hz))
theorem dv_met_I (H:List Hl) (db:Nat) (key:List (BitVec 8)) (f:Fl) (s:StD) (e:Int) (he:e≠11) :
  Spec Tryz.prog 35 [.pointer (some ⟨db,0,none⟩),I e] (.any (dvI key f s db)::H) (fun _:Unit=>True) (fun _=>I e) (fun _ => .any (dvI key f s db)::H) :=
 Spec.som (by kernel_rfl) (fun l hl=>(dv_met (meB l.mb l.x none::flA f l::frA f l :: .any l.A::H) db l.fb l.ka key.length l.kc (pM l.mb) e he).imp (fun _ _ hp hx=>som_of (p:=DvX key f s) (L:=fun l=>[dvA db key l (pM l.mb),meB l.mb l.x none,flA f l,frA f l,.any l.A]) l hl hp hx))
set_option maxHeartbeats 8000000 in
theorem dv_starts_I (H:List Hl) (db:Nat) (key:List (BitVec 8)) (f:Fl) (s:StD) (k:BitVec 32) (w:Nat) (hf:foundC f.bs=some ((k,s.by),w)) (hm:s.may=true) (hn:nf s=s) (ho:s.on=false) (hd:f.pw.isDown=false) :
  Spec Tryz.prog 51 [.pointer (some ⟨db,0,none⟩)] (.any (dvP key f db)::H) (fun _:Unit=>True) (fun _=>I 0) (fun _ => .any (dvI key f s db)::H):=by
 refine Spec.som (by kernel_rfl) (fun ⟨⟨fb,ad,c,h,mb0,sb,ka,kc,x0,A⟩,mp⟩ hl0=>?_)
 obtain ⟨hk,hkey⟩:=hl0
 dsimp only at hk hkey
 show Spec _ _ _ ([dvB db fb ka key.length kc mp,fB fb ad c f h,fR ad c f,.any A]++H) _ _ _
 refine spec_fn (res:=fun _:Unit=>[.any (dvI key f s db)]) [dvB db fb ka key.length kc mp,fB fb ad c f h,fR ad c f,.any A] H Tryz.func51 rfl Tryz.ntmps51 (by kernel_rfl) rfl (fun W=>?_)
 dsimp only [List.cons_append,List.nil_append]
 have hbl:=hk.bs
 have hp:prs s.by=(s,0):=by rw [prs_by hm];exact congrArg (·,0) hn
 obtain ⟨q,hq⟩:∃ q,s.by=q:=⟨_,rfl⟩
 rw [hq] at hf hp
 obtain ⟨Z,hZ⟩:∃ Z,(seg f.bs (w*256) 256).take (q.length+6)=Z:=⟨_,rfl⟩
 have hmk:=(copyAt_drop (foundC_copy hf).1).1
 rw [hZ] at hmk
 have hZl:Z.length=q.length+6:=by
  have h245:=(copyAt_drop (foundC_copy hf).1).2
  have hw2:=(foundC_copy hf).2
  rw [←hZ,List.length_take,seg_len (by omega)]
  omega
 repeat' (first|intro _|refine cw ?_|refine cw2 ?_ ?_|(refine k_load ?_;first|refine ox_load (b:=db) (i:=1) rfl rfl ?_|(refine ox_load (b:=b5) (i:=10) rfl rfl ?_;rw [ho]))|(refine k_fn 46 ?_;(refine o1_call (fun hh=>cl_Read _ fb ad c f k q Z w (RdFl.own hk hh) hd hf hZ) rfl (fun ⟨a21,c21⟩ _=>?_);(try dsimp only)))|(refine k_fn 47 ?_;(refine o1_call (fun hh=>st_Parse _ (cutA a21 c21 6) (c21 - 6) q (rx_cutl (T:=5) (ad:=a21) (c:=c21) (n:=q.length+6) (l:=Z) (enc:=B) 6 (by omega) hmk hh) (s,0) hp) rfl (fun ⟨r0,r1,r2⟩ _=>?_);dsimp only [StD.V,StD.c,SlotD.V,SlotD.c,copyS]))|(refine k_alloc ?_;refine o1_alloc rfl (fun b5=>?_))|(refine k_fn 75 ?_;refine o1_call_box (b:=db) (fun _=>dv_opens_off _ db fb ka key.length kc mp (copyS s r0 r1 r2) ho) rfl (fun mb _=>?_))|refine ow ?_|refine ow2 ?_ ?_|fail)
 refine rt_pack [rowL r0 s.s0.h.l,rowL r1 s.s1.h.l,rowL r2 s.m.h.l,.any A] [dvB db fb ka key.length kc (pM mb),meB mb (copyS s r0 r1 r2) none,fB fb ad c f h,fR ad c f,.any (stars H)] ent ?_
 refine rt_has (fun hh=>?_)
 have hA:=has_any hh
 refine rt_dvI (l:=⟨fb,ad,c,h,mb,sb,ka,kc,copyS s r0 r1 r2,stars [rowL r0 s.s0.h.l,rowL r1 s.s1.h.l,rowL r2 s.m.h.l,.any A]⟩) (R:=[.any (stars H)]) ⟨hk,rs_gr hkey Gr.of,⟨rx_row (T:=5) (ad:=r0.1) (c:=r0.2) (l:=s.s0.h.l) hA,rx_row (T:=5) (ad:=r1.1) (c:=r1.2) (l:=s.s1.h.l) hA,rx_row (T:=5) (ad:=r2.1) (c:=r2.2) (l:=s.m.h.l) hA⟩,hn⟩ ent ?_
 refine rt_tmp () rfl rfl rfl trivial ?_
 exact ent
set_option maxHeartbeats 8000000 in
theorem dv_Power (H:List Hl) (db:Nat) (key:List (BitVec 8)) (f:Fl) (D:Hp→Prop) (hst:Spec Tryz.prog 51 [.pointer (some ⟨db,0,none⟩)] (.any (dvP key (startF f) db)::[.any (stars H)]) (fun _:Unit=>True) (fun _=>I 0) (fun _ => .any D::[.any (stars H)]))
  (hmet:Spec Tryz.prog 35 [.pointer (some ⟨db,0,none⟩),I 0] (.any D::[.any (stars H)]) (fun _:Unit=>True) (fun _=>I 0) (fun _ => .any D::[.any (stars H)])) :
  Spec Tryz.prog 20 [.pointer (some ⟨db,0,none⟩)] (.any (dvP key f db)::H) (fun _:Unit=>True) (fun _=>I 0) (fun _ => .any D::H):=by
 refine Spec.som (by kernel_rfl) (fun ⟨⟨fb,ad,c,h,mb0,sb,ka,kc,x0,A⟩,mp⟩ hl0=>?_)
 obtain ⟨hk,hkey⟩:=hl0
 dsimp only at hk hkey
 show Spec _ _ _ ([dvB db fb ka key.length kc mp,fB fb ad c f h,fR ad c f,.any A]++H) _ _ _
 refine spec_fn (res:=fun _:Unit=>[.any D]) [dvB db fb ka key.length kc mp,fB fb ad c f h,fR ad c f,.any A] H Tryz.func20 rfl Tryz.ntmps20 (by kernel_rfl) rfl (fun W=>?_)
 dsimp only [List.cons_append,List.nil_append]
 repeat' (first|intro _|refine cw ?_|refine cw2 ?_ ?_|refine o1_peql rfl rfl ?_|refine o1_call_to (.any (dvP key (startF f) db)::[.any (stars H)]) (fun x hx=>dvP_of ⟨fb,ad,c,h1,mb0,sb,ka,kc,x0,A⟩ none ⟨hk1,hkey⟩ x (Ent.out ent x hx)) (fun _=>hst) rfl (fun _ _=>?_)|refine o1_call (fun _=>hmet) rfl (fun _ _=>?_)|(refine k_load ?_;refine ox_load (b:=db) (i:=1) rfl rfl ?_)|(refine k_fn 49 ?_;refine o1_call_box (b:=fb) (fun _=>fl_Start _ fb ad c f h hk) rfl (fun h1 hk1=>?_))|(refine k_fn 50 ?_;refine o1_call_box (b:=db) (fun _=>dv_Store_nil _ db fb ka key.length kc mp) rfl (fun _ _=>?_))|refine ow ?_|refine ow2 ?_ ?_|fail)
 refine rt_tmp () rfl rfl rfl trivial ?_
 exact ent
theorem dv_Power_I (H:List Hl) (db:Nat) (key:List (BitVec 8)) (f:Fl) (s:StD) (k:BitVec 32) (w:Nat) (hf:foundC f.bs=some ((k,s.by),w)) (hm:s.may=true) (hn:nf s=s) (ho:s.on=false) (hd:(startF f).pw.isDown=false) :
  Spec Tryz.prog 20 [.pointer (some ⟨db,0,none⟩)] (.any (dvP key f db)::H) (fun _:Unit=>True) (fun _=>I 0) (fun _ => .any (dvI key (startF f) s db)::H) :=
 dv_Power H db key f _ (dv_starts_I _ db key (startF f) s k w hf hm hn ho hd) (dv_met_I _ db key (startF f) s 0 (by decide))
end Go.Dp
namespace Go.Dp
open Go.RowKit Sha
theorem dev_cell {f:Fl} {n:Nat} {s s1:StD} {im:List (BitVec 8)} (h:DevF f n s im) (hn:n<90) (h1:s1.may=true) :
  ∃ f1,cellW f s1.by=(f1,0)∧Few f1 (n+1)∧f1.pw = .on∧f1.wear=100∧(∃ k w,k≤n+1∧CellIs f1.bs k s1.by w)∧(∀ a m,512≤a→seg f1.bs a m=seg f.bs a m):=by
 obtain ⟨k,w,hk,hcell⟩:=h.cell
 obtain ⟨st,so,sc⟩:=cellW_out (q:=s1.by) hcell h.few (by rw [h.wr];omega) h.up (by_245 h1) (by omega)
 obtain ⟨⟨f1,v1⟩,hr⟩:∃ r,cellW f s1.by=r:=⟨_,rfl⟩
 rw [hr] at st so sc ⊢
 dsimp only at st so sc ⊢
 have hon:=st.on h.on
 rcases sc with ⟨e0,_,e2⟩|⟨_,e1,_⟩
 ·subst e0
  exact ⟨f1,rfl,st.few,hon,st.wear.trans h.wr,⟨k+1,1 - w,by omega,e2⟩,so⟩
 ·rw [hon] at e1;cases e1
structure Dev2 (f:Fl) (n:Nat) (s:StD) (im im2:List (BitVec 8)):Prop where
 d:DevF f n s im
 n2:s.oth.n=im2.length
 s2:seg f.bs (slotA (1 - s.a).toNat) im2.length=im2
 b2:1≤im2.length∧im2.length≤512
 off:s.on=false
theorem dev_same {f:Fl} {n:Nat} {s s1:StD} {im im2:List (BitVec 8)} (h:Dev2 f n s im im2) (hn:n<90) (h1:s1.may=true) (ha:s1.a=s.a) (e0:s1.s0=s.s0) (e1:s1.s1=s.s1) (hg:s1.g=s.g) (ho:s1.on=s.on) :
  ∃ f1,cellW f s1.by=(f1,0)∧Dev2 f1 (n+1) s1 im im2:=by
 obtain ⟨f1,w1,w2,w3,w4,w5,w6⟩:=dev_cell h.d hn h1
 have hc:s1.cur=s.cur:=by unfold StD.cur;rw [ha,e0,e1]
 have hoo:s1.oth=s.oth:=by unfold StD.oth;rw [ha,e0,e1]
 have hgb:=h.d.gb
 refine ⟨f1,w1,⟨⟨w2,w3,w4,w5,h1,by rw [hc];exact h.d.cn,?_,?_,by rw [hg];omega⟩,by rw [hoo];exact h.n2,?_,h.b2,by rw [ho];exact h.off⟩⟩
 ·rw [ha,w6 _ _ (by unfold slotA;omega)];exact h.d.slot
 ·rw [hg];exact h.d.wh.keep (w6 _ _ (by omega))
 ·rw [ha,w6 _ _ (by unfold slotA;omega)];exact h.s2
theorem dev_flip {f:Fl} {n:Nat} {s s1:StD} {im im2:List (BitVec 8)} (h:Dev2 f n s im im2) (hn:n<90) (h1:s1.may=true) (ha:s1.a=1 - s.a) (e0:s1.s0=s.s0) (e1:s1.s1=s.s1) (hg:s1.g=s.g) (ho:s1.on=s.on) :
  ∃ f1,cellW f s1.by=(f1,0)∧Dev2 f1 (n+1) s1 im2 im:=by
 obtain ⟨f1,w1,w2,w3,w4,w5,w6⟩:=dev_cell h.d hn h1
 have haa:=StD.may_a h.d.may
 have hc:s1.cur=s.oth:=by
  unfold StD.cur StD.oth
  rw [ha,e0,e1]
  rcases haa with h0|h0
  ·rw [if_neg (by omega),if_pos h0]
  ·rw [if_pos (by omega),if_neg (by omega)]
 have hoo:s1.oth=s.cur:=by
  unfold StD.cur StD.oth
  rw [ha,e0,e1]
  rcases haa with h0|h0
  ·rw [if_neg (by omega),if_pos h0]
  ·rw [if_pos (by omega),if_neg (by omega)]
 have hgb:=h.d.gb
 have hb:=h.d.b
 refine ⟨f1,w1,⟨⟨w2,w3,w4,w5,h1,by rw [hc];exact h.n2,?_,?_,by rw [hg];omega⟩,by rw [hoo];exact h.d.cn,?_,hb,by rw [ho];exact h.off⟩⟩
 ·rw [ha,w6 _ _ (by unfold slotA;omega)];exact h.s2
 ·rw [hg];exact h.d.wh.keep (w6 _ _ (by omega))
 ·rw [ha,show (1:Int) - (1 - s.a)=s.a by omega,w6 _ _ (by unfold slotA;omega)];exact h.d.slot
structure Booted (j:Nat) (v0 v1:BitVec 32) (s:StD):Prop where
 t:s.t=if j<3 then 3 - (j:Int) else 0
 a:s.a=if j<3 then 1 else 0
 f:s.f=0#32
 c0:s.s0.v=v0
 c1:s.s1.v=v1
 nf:nf s=s
theorem Booted.succ {j:Nat} {v0 v1:BitVec 32} {s:StD} (h:Booted j v0 v1 s):Booted (j+1) v0 v1 (startS s):=by
 have ht:=h.t
 have ha:=h.a
 refine ⟨?_,?_,h.f,h.c0,h.c1,by rw [nf_start,h.nf]⟩
 ·show (if s.t=0 then 0 else s.t - 1)=_
  split at ht <;> split <;> split <;> omega
 ·show (if s.t=1 then 1 - s.a else s.a)=_
  split at ht <;> split at ha <;> split <;> split <;> omega
def Dev2B (j:Nat) (f:Fl) (n:Nat) (s:StD) (old new:List (BitVec 8)):Prop:=if j<3 then Dev2 f n s new old else Dev2 f n s old new
theorem Dev2B.dev {j:Nat} {f:Fl} {n:Nat} {s:StD} {old new:List (BitVec 8)} (h:Dev2B j f n s old new):DevF f n s (if j<3 then new else old)∧s.on=false:=by
 unfold Dev2B at h
 split at h
 ·rename_i hj;rw [if_pos hj];exact ⟨h.d,h.off⟩
 ·rename_i hj;rw [if_neg hj];exact ⟨h.d,h.off⟩
theorem dev_boot {j:Nat} {v0 v1:BitVec 32} {f:Fl} {n:Nat} {s:StD} {old new:List (BitVec 8)} (h:Dev2B j f n s old new) (hb:Booted j v0 v1 s) (hj:j<3) (hn:n<90) :
  ∃ f1,cellW f (startS s).by=(f1,0)∧Dev2B (j+1) f1 (n+1) (startS s) old new:=by
 unfold Dev2B at h ⊢
 rw [if_pos hj] at h
 have ht:=hb.t
 rw [if_pos hj] at ht
 have hm:=start_may h.d.may
 by_cases h3:j+1<3
 ·obtain ⟨f1,e1,e2⟩:=dev_same (s1:=startS s) h hn hm (if_neg (by omega)) rfl rfl rfl rfl
  exact ⟨f1,e1,by rw [if_pos h3];exact e2⟩
 ·obtain ⟨f1,e1,e2⟩:=dev_flip (s1:=startS s) h hn hm (if_pos (by omega)) rfl rfl rfl rfl
  exact ⟨f1,e1,by rw [if_neg h3];exact e2⟩
theorem boot_still {j:Nat} {v0 v1:BitVec 32} {f:Fl} {n:Nat} {s:StD} {old new:List (BitVec 8)} (h:Dev2B j f n s old new) (hb:Booted j v0 v1 s) (hj : ¬ j<3):s.t=0∧startS s=s∧Dev2B (j+1) f n (startS s) old new:=by
 have ht:=hb.t
 rw [if_neg hj] at ht
 have e:=start_0 ht
 unfold Dev2B at h ⊢
 rw [if_neg hj] at h
 rw [if_neg (by omega),e]
 exact ⟨ht,rfl,h⟩
theorem dev_conf {f:Fl} {n:Nat} {s:StD} {im im2:List (BitVec 8)} (h:Dev2 f n s im im2) (hn:n<90) :
  ∃ f1,cellW f (confS s).by=(f1,0)∧Dev2 f1 (n+1) (confS s) im im2:=dev_same h hn (conf_may h.d.may) rfl rfl rfl rfl rfl
theorem errOf_low {x:StD} {m:ManD} (h1:x.may=true) (h2:m.may=true) (ht:x.t=0) (ho:x.on=false) (hv:m.v.toNat≤x.f.toNat):errOf x m=6:=by
 unfold errOf
 rw [if_neg (by rw [h1];simp),if_neg (by rw [h2];simp),if_neg (by omega),if_neg (fun h=>by rw [ho] at h;exact absurd h.1 (by simp)),if_pos]
 unfold StD.newer
 have:decide (x.f.toNat<m.v.toNat)=false:=decide_eq_false (by omega)
 rw [this]
 simp
theorem errOf_trial {x:StD} {m:ManD} (h1:x.may=true) (h2:m.may=true) (ht:0<x.t):errOf x m=12:=by
 unfold errOf
 rw [if_neg (by rw [h1];simp),if_neg (by rw [h2];simp),if_pos ht]
open Go.RowKit Go.Proofs Sha
def rtD44_0:List Row:=[⟨some 60,[],[],none⟩,⟨some 61,[0],[0],none⟩,⟨some 62,[1],[0,1],none⟩,⟨some 63,[],[],none⟩,⟨some 64,[3],[3],none⟩,⟨some 65,[2,4],[0,1,2,3,4],none⟩,⟨some 66,[5,1],[0,1,2,3,4,5],none⟩,⟨some 67,[6],[0,1,2,3,4,5,6],some (6,false)⟩,⟨some 68,[6],[0,1,2,3,4,5,6],some (6,false)⟩,⟨some 69,[8,6,6],[0,1,2,3,4,5,6,8],some (6,false)⟩,⟨some 70,[7,9,9,6],[0,1,2,3,4,5,6,7,8,9],some (6,false)⟩,⟨some 71,[10,6],[0,1,2,3,4,5,6,7,8,9,10],some (6,false)⟩,⟨some 72,[6,11],[0,1,2,3,4,5,6,7,8,9,10,11],none⟩]
def rtD44_1:List Row:=[⟨some 92,[],[],none⟩,⟨some 93,[0],[0],none⟩,⟨some 94,[1],[0,1],none⟩,⟨some 95,[],[],none⟩,⟨some 96,[3],[3],none⟩,⟨some 97,[2,4],[0,1,2,3,4],none⟩,⟨some 98,[5,1],[0,1,2,3,4,5],none⟩,⟨some 99,[6],[0,1,2,3,4,5,6],some (6,true)⟩,⟨some 100,[6],[0,1,2,3,4,5,6],some (6,true)⟩,⟨some 101,[8,6,6],[0,1,2,3,4,5,6,8],some (6,true)⟩,⟨some 102,[7,9,9,6],[0,1,2,3,4,5,6,7,8,9],some (6,true)⟩,⟨some 103,[10,6],[0,1,2,3,4,5,6,7,8,9,10],some (6,true)⟩,⟨some 104,[6,11],[0,1,2,3,4,5,6,7,8,9,10,11],none⟩,⟨some 105,[12,10],[0,1,2,3,4,5,6,7,8,9,10,11,12],none⟩,⟨some 106,[13,13],[0,1,2,3,4,5,6,7,8,9,10,11,12,13],some (13,true)⟩,⟨some 107,[13,14],[0,1,2,3,4,5,6,7,8,9,10,11,12,13,14],none⟩,⟨some 8,[15,14,0,1,2,3,4,5,6,7,8,9,10,11,12,13,14,15],[0,1,2,3,4,5,6,7,8,9,10,11,12,13,14,15],none⟩]
theorem top_no_I {s:StD} {p:Prm} {v:BitVec 32} {im2:List (BitVec 8)} {e:Int} (hk:HdOk keyT p im2 (sha im2)) (he:errOf s (mOf p v im2)=e) (h0:e≠0) (h11:e≠11) (H:List Hl) (db:Nat) (f:Fl) (ad:Option Addr) (c:Nat) (hb:Rs (stars H) B ad c (frameB 1#8 (fstP p v im2))) :
  Spec Tryz.prog 12 [.pointer (some ⟨db,0,none⟩),.slice ad 85 c] (.any (dvI keyT f s db)::H) (fun _:Unit=>True) (fun _=>I e) (fun _ => .any (dvI keyT f s db)::H) :=
 pk_hears_no_I H db keyT f s ad 85 c (fstP p v im2) hb (by rw [fstB_len hk]) (by rw [fstB_len hk];decide) (by rw [fstB_len hk];decide) hk.kl (mOf p v im2) e (mOf_pr hk) he h0 h11
theorem startF_on {f:Fl} (h:f.pw = .on):startF f=f:=by
 obtain ⟨bs,er,wear,pwr,torn⟩:=f
 dsimp only at h
 subst h
 rfl
theorem top_power {f:Fl} {n:Nat} {s:StD} {im:List (BitVec 8)} (h:DevF f n s im) (hn:nf s=s) (ho:s.on=false) (H:List Hl) (db:Nat) :
  Spec Tryz.prog 20 [.pointer (some ⟨db,0,none⟩)] (.any (dvI keyT f s db)::H) (fun _:Unit=>True) (fun _=>I 0) (fun _ => .any (dvI keyT f s db)::H):=by
 obtain ⟨k,w,hk,hc⟩:=h.cell
 obtain ⟨kk,_,hf⟩:=hc.found h.few.bs
 have e:=startF_on h.on
 have:=dv_Power_I H db keyT f s kk w hf h.may hn ho (by rw [e];exact h.up)
 rw [e] at this
 exact this.pre dvI_P
theorem DevF.mono {f:Fl} {n m:Nat} {s:StD} {im:List (BitVec 8)} (h:DevF f n s im) (hm:n≤m):DevF f m s im:=by
 obtain ⟨k,w,hk,hc⟩:=h.cell
 exact ⟨h.few.mono hm,h.on,h.wr,⟨k,w,by omega,hc⟩,h.may,h.cn,h.slot,h.wh,Nat.le_trans h.gb hm⟩
theorem Dev2.mono {f:Fl} {n m:Nat} {s:StD} {im im2:List (BitVec 8)} (h:Dev2 f n s im im2) (hm:n≤m):Dev2 f m s im im2:=⟨h.d.mono hm,h.n2,h.s2,h.b2,h.off⟩
theorem Dev2B.mono {j:Nat} {f:Fl} {n m:Nat} {s:StD} {im im2:List (BitVec 8)} (h:Dev2B j f n s im im2) (hm:n≤m):Dev2B j f m s im im2:=by
 unfold Dev2B at h ⊢
 split
 ·rename_i hj;rw [if_pos hj] at h;exact h.mono hm
 ·rename_i hj;rw [if_neg hj] at h;exact h.mono hm
theorem top_boot {j:Nat} {v0 v1:BitVec 32} {f:Fl} {n:Nat} {s:StD} {old new:List (BitVec 8)} (h:Dev2B j f n s old new) (hb:Booted j v0 v1 s) (hn:n<90) :
  ∃ f1,Dev2B (j+1) f1 (n+1) (startS s) old new∧∀ (H:List Hl) (db:Nat),Spec Tryz.prog 22 [.pointer (some ⟨db,0,none⟩)] (.any (dvI keyT f s db)::H) (fun _:Unit=>True) (fun _=>I 0) (fun _ => .any (dvI keyT f1 (startS s) db)::H):=by
 have hd:=h.dev.1
 by_cases hj:j<3
 ·obtain ⟨f1,e1,e2⟩:=dev_boot h hb hj hn
  have ht:=hb.t
  rw [if_pos hj] at ht
  exact ⟨f1,e2,fun H db=>dv_Boot H db keyT f f1 s hd.may (by omega) hd.up e1⟩
 ·obtain ⟨e1,e2,e3⟩:=boot_still h hb hj
  refine ⟨f,e3.mono (by omega),fun H db=>?_⟩
  rw [e2]
  exact dv_Boot_no H db keyT f s hd.may e1
theorem top_conf {j:Nat} {v0 v1:BitVec 32} {f:Fl} {n:Nat} {s:StD} {old new:List (BitVec 8)} (h:Dev2B j f n s old new) (hb:Booted j v0 v1 s) (hn:n<90) (hv:v0.toNat≠0) :
  ∃ f1,Dev2B j f1 (n+1) (confS s) old new∧∀ (H:List Hl) (db:Nat),Spec Tryz.prog 23 [.pointer (some ⟨db,0,none⟩)] (.any (dvI keyT f s db)::H) (fun _:Unit=>True) (fun _=>I 0) (fun _ => .any (dvI keyT f1 (confS s) db)::H):=by
 have hd:=h.dev.1
 have ht:=hb.t
 have ha:=hb.a
 have hc:confOn s=true:=by
  rw [confOn_eq]
  by_cases hj:j<3
  ·rw [if_pos hj] at ht
   rw [decide_eq_false (by omega)];rfl
  ·rw [if_neg hj] at ha
   have hcv:s.cur.v=v0:=by unfold StD.cur;rw [if_pos ha];exact hb.c0
   have:=maxV_hr s.f s.cur.v
   rw [hb.f,hcv] at this ⊢
   have h0:(0#32:BitVec 32).toNat=0:=rfl
   rw [decide_eq_false (p:=(maxV 0#32 v0).toNat=(0#32:BitVec 32).toNat) (by omega),Bool.and_false];rfl
 unfold Dev2B at h ⊢
 by_cases hj:j<3
 ·rw [if_pos hj] at h
  obtain ⟨f1,e1,e2⟩:=dev_conf h hn
  exact ⟨f1,by rw [if_pos hj];exact e2,fun H db=>dv_Confirm H db keyT f f1 s hd.may hc hd.up e1⟩
 ·rw [if_neg hj] at h
  obtain ⟨f1,e1,e2⟩:=dev_conf h hn
  exact ⟨f1,by rw [if_neg hj];exact e2,fun H db=>dv_Confirm H db keyT f f1 s hd.may hc hd.up e1⟩
set_option maxHeartbeats 32000000 in
theorem TopTrial_law (H:List Hl) (aa ba:Option Addr) (ac bc:Nat) (a b:List (BitVec 8)) (boots:Int) (cut:Bool) (ha:Rs (stars H) B aa ac a) (hb:Rs (stars H) B ba bc b) (hal:a.length≤4611686018427387904) (hbl:b.length≤4611686018427387904) (ht:TabF (stars H)) :
  Spec Tryz.prog 5 [.slice aa a.length ac,.slice ba b.length bc,I boots,.bool cut] H (fun _:Unit=>True) (fun _ => .bool true) (fun _=>H):=by
 refine spec_pure (res:=fun _=>[]) H Tryz.func5 rfl Tryz.ntmps5 (by kernel_rfl) rfl (fun W=>?_)
 obtain ⟨hk1,hk21⟩:=one_ok a
 obtain ⟨hk2,hk22⟩:=two_ok b
 obtain ⟨q1,q2,q3,q4,q5⟩:=hk2.ok.out
 have hib:=imgL_b a 1#8
 have hi1:1≤(oneI a).length:=hib.1
 have hct2:count ((twoI b).length:Int) 3=((twoP b).k:Int):=hk2.ct
 obtain ⟨K,hK⟩:∃ K:Nat,K=(BitVec.ofInt 64 boots).toNat % 6:=⟨_,rfl⟩
 have hKl:K<6:=by rw [hK];exact Nat.mod_lt _ (by omega)
 have hKr:((BitVec.ofInt 64 boots).toNat:Int) % 6=(K:Int):=by rw [hK];rfl
 obtain ⟨f0,d0,hmake⟩:=top_make
 have he1:errOf sunS (mOf (twoP b) 20#32 (twoI b))=0:=errOf_new d0.may (hk2.may _ _) rfl (by show 0<20;decide) (by show 1<20;decide) (fun h=>by cases h) (by decide)
 obtain ⟨f1,d1,hh1⟩:=top_hear_I d0 (by decide) hk2 he1
 obtain ⟨S1,hS1⟩:∃ S1,hearS sunS (twoP b) 20#32 (twoI b)=S1:=⟨_,rfl⟩
 have son:S1.on=true:=by rw [←hS1];rfl
 have st_:S1.t=0:=by rw [←hS1];rfl
 have sa:S1.a=0:=by rw [←hS1];rfl
 have sm:S1.m=mOf (twoP b) 20#32 (twoI b):=by rw [←hS1];rfl
 have sgg:S1.g=sunS.g+1#32:=by rw [←hS1];rfl
 have sf:S1.f=0#32:=by rw [←hS1];rfl
 have sv0:S1.s0.v=1#32:=by rw [←hS1];rfl
 have sn0:S1.s0.n=3:=by rw [←hS1];rfl
 rw [hS1,←sgg] at hh1
 rw [hS1] at d1
 have hip2:IsP S1.m (twoP b) (twoI b).length:=by rw [sm];exact mOf_is hk2
 repeat' (first|intro _|refine cw ?_|refine cw2 ?_ ?_|(refine k_fn 7 ?_;(refine o1_call (fun _=>tp_heads _ aa ba ac bc a b ha.up hb.up hal hbl) rfl (fun ⟨hb1,hb2⟩ _=>?_);(try dsimp only)))|(refine k_fn 9 ?_;refine o1_call (fun _=>tp_key _) rfl (fun bk _=>?_))|(refine k_buildSlice ?_;refine o1_lit_enc (T:=22) B sunL rfl rfl rfl (fun _=>rfl) rfl rfl rfl (fun br=>?_))|(refine k_convert ?_;refine o1_conv_frz (b:=br) rfl ?_)|refine o1_call (fun hh=>hmake _ (some ⟨bk,0,none⟩) 3 (some ⟨br,0,none⟩) 3 (Rs.up (Rs.of_frz (T:=5) (b:=bk) (l:=keyT) (by decide))) (Rs.up (Rs.of_frz (T:=5) (b:=br) (l:=sunL) (by decide)))) rfl (fun db _=>?_)|refine o1_call_a (dvI keyT f0 sunS db) (fun hh=>hh1 _ db a54 ca54 ht.up (rx_row (T:=5) (ad:=a54) (c:=ca54) (l:=frameB 1#8 (fstP (twoP b) 20#32 (twoI b))) (has_tail hh))) rfl (fun _ _=>?_)|(refine k_fn 10 ?_;(refine o1_call (fun _=>tp_images _ aa ba ac bc a b ha.up hb.up hal hbl) rfl (fun ⟨⟨ia,ic⟩,⟨ja,jc⟩⟩ _=>?_);(try dsimp only)))|(refine k_fn 11 ?_;(refine o1_call (fun _=>r7_Count _ _ _) rfl (fun _ _=>?_);rw [hct2]))|(refine k_fn 13 ?_;(refine o1_call_a (crP keyT (twoP b) 20#32 (twoI b) (sha (twoI b)) hb2) (fun hh=>cr_First _ keyT (twoP b) 20#32 (twoI b) (sha (twoI b)) hb2 hk2) rfl (fun ⟨a54,ca54⟩ _=>?_);(try dsimp only)))|refine ow ?_|refine ow2 ?_ ?_|fail)
 refine st_loop (S:=Nat × Fl × Int) (fun q=>[(2,I boots),(3,.bool cut),(8,.bool false),(9,.pointer (some ⟨hb1,0,none⟩)),(10,.pointer (some ⟨hb2,0,none⟩)),(12,.pointer (some ⟨db,0,none⟩)),(14,.slice ia (oneI a).length ic),(15,.slice ja (twoI b).length jc),(49,I (twoP b).k),(50,I q.1)]) (fun q=>[(if q.1<(twoP b).k then .any (dvL keyT q.2.1 S1 (stoU (twoP b) S1.g (twoI b) q.2.2 (idsN q.1)) db) else .any (dvI keyT q.2.1 (nf (actS S1)) db)),oneC a hb1,twoC b hb2,rowB (ia,ic) (oneI a),rowB (ja,jc) (twoI b),.any (stars H)])
  (fun q=>q.1≤(twoP b).k∧(q.1<(twoP b).k→DevF q.2.1 (4+q.1) S1 sunL∧LiveW q.2.1.bs S1.g (twoP b).z q.2.2 (idsN q.1).length)∧(q.1=(twoP b).k→DevF q.2.1 (7+q.1) (nf (actS S1)) (twoI b)∧seg q.2.1.bs (slotA 0) sunL.length=sunL)) (fun q=>(twoP b).k - q.1) (0,f1, -1) ⟨Nat.zero_le _,fun _=>⟨d1,live_new _ _ _⟩,fun e=>by have e':0=(twoP b).k:=e;omega⟩ cv (by dsimp only;rw [if_pos (show 0<(twoP b).k by omega)];exact ent) ?_
 rintro ⟨j,g,rdy2⟩ ⟨hj,hlive,hdone⟩
 dsimp only at hj hlive hdone ⊢
 by_cases hjt:j<(twoP b).k
 ·obtain ⟨dg,lg⟩:=hlive hjt
  rw [if_pos hjt]
  have hidn:(BitVec.ofNat 32 j).toNat<(twoP b).k:=by rw [ofN_nat (by omega)];omega
  by_cases hlast:j+1<(twoP b).k
  ·obtain ⟨g1,e1,l1,hpk⟩:=top_take (id:=BitVec.ofNat 32 j) dg (by omega) hk2 son hip2 lg (idsN_lt (by omega) (by omega)) (idsN_nodup (by omega)) hidn (idsN_new (by omega)) (by rw [idsN_len];omega)
   rw [←idsN_succ] at l1 hpk
   repeat' (first|intro _|refine cw ?_|refine cw2 ?_ ?_|(refine k_convert ?_;(refine o1_conv_iu rfl ?_;rw [BitVec.ofInt_natCast]))|(refine k_fn 14 ?_;(refine o1_call_a (crP keyT (twoP b) 20#32 (twoI b) (sha (twoI b)) hb2) (fun hh=>top_sym hk2 hidn _ hb2 ht.up) rfl (fun ⟨a109,c109⟩ _=>?_);(try dsimp only)))|refine o1_call_a (dvL keyT g S1 (stoU (twoP b) S1.g (twoI b) rdy2 (idsN j)) db) (fun hh=>hpk _ db a109 c109 ht.up (rx_row (T:=5) (ad:=a109) (c:=c109) (l:=frameB 2#8 (symP (twoP b) (twoI b) (BitVec.ofNat 32 j))) (has_tail hh))) rfl (fun _ _=>?_)|refine ow ?_|refine ow2 ?_ ?_|fail)
   refine nx_again (j+1,g1,_) ⟨by show j+1≤(twoP b).k;omega,fun _=>⟨e1,l1⟩,fun e=>by have e':j+1=(twoP b).k:=e;omega⟩ (by show (twoP b).k - (j+1)<(twoP b).k - j;omega) cv ?_
   dsimp only
   rw [if_pos hlast]
   exact ent
  ·obtain ⟨g1,e1,e2,hpk⟩:=top_fin (id:=BitVec.ofNat 32 j) dg (by omega) hk2 son st_ hip2 (by rw [sm];rfl) lg (idsN_lt (by omega) (by omega)) (idsN_nodup (by omega)) hidn (idsN_new (by omega)) (by rw [idsN_len];omega) (imgL_b b 2#8).1
   rw [sa] at e2
   repeat' (first|intro _|refine cw ?_|refine cw2 ?_ ?_|(refine k_convert ?_;(refine o1_conv_iu rfl ?_;rw [BitVec.ofInt_natCast]))|(refine k_fn 14 ?_;(refine o1_call_a (crP keyT (twoP b) 20#32 (twoI b) (sha (twoI b)) hb2) (fun hh=>top_sym hk2 hidn _ hb2 ht.up) rfl (fun ⟨a109,c109⟩ _=>?_);(try dsimp only)))|refine o1_call_a (dvL keyT g S1 (stoU (twoP b) S1.g (twoI b) rdy2 (idsN j)) db) (fun hh=>hpk _ db a109 c109 ht.up (rx_row (T:=5) (ad:=a109) (c:=c109) (l:=frameB 2#8 (symP (twoP b) (twoI b) (BitVec.ofNat 32 j))) (has_tail hh))) rfl (fun _ _=>?_)|refine ow ?_|refine ow2 ?_ ?_|fail)
   refine nx_again (j+1,g1,0) ⟨by show j+1≤(twoP b).k;omega,fun e=>absurd e hlast,fun e=>⟨by rw [show 7+(j+1)=4+j+4 by omega];exact e1,e2⟩⟩ (by show (twoP b).k - (j+1)<(twoP b).k - j;omega) cv ?_
   dsimp only
   rw [if_neg hlast]
   exact ent
 ·have:j=(twoP b).k:=by omega
  subst this
  obtain ⟨dz,dsun⟩:=hdone rfl
  rw [if_neg hjt]
  have hact:(nf (actS S1)).a=1:=by show 1 - S1.a=1;rw [sa];rfl
  have hrun:=dz.runs
  have hseg:=dz.slot
  rw [hact] at hrun hseg
  have hrun:Runs g 1 (twoI b).length:=hrun
  have hseg:seg g.bs (slotA 1) (twoI b).length=twoI b:=hseg
  have hb0:Booted 0 1#32 20#32 (nf (actS S1)):=⟨rfl,by rw [hact];rfl,sf,by
   show (if S1.a=0 then S1.s0 else newSl S1).v=_
   rw [if_pos sa];exact sv0,by
   show (if S1.a=0 then newSl S1 else S1.s1).v=_
   rw [if_pos sa];show S1.m.v=_;rw [sm];rfl,rfl⟩
  have hd0:Dev2B 0 g (7+(twoP b).k) (nf (actS S1)) sunL (twoI b):=by
   unfold Dev2B
   rw [if_pos (by decide)]
   refine ⟨dz,?_,by rw [hact];exact dsun,by decide,rfl⟩
   show (if 1 - S1.a=0 then (nf (actS S1)).s1 else (nf (actS S1)).s0).n=_
   rw [sa,if_neg (by decide)]
   show (if S1.a=0 then S1.s0 else newSl S1).n=_
   rw [if_pos sa,sn0];rfl
  have he12:errOf (nf (actS S1)) (mOf (oneP a) 10#32 (oneI a))=12:=errOf_trial dz.may (hk1.may _ _) (by show (0:Int)<3;decide)
  obtain ⟨S2,hS2⟩:∃ S2,nf (actS S1)=S2:=⟨_,rfl⟩
  rw [hS2] at hb0 hd0 he12 ⊢
  repeat' (first|intro _|refine cw ?_|refine cw2 ?_ ?_|refine ow ?_|refine ow2 ?_ ?_|fail)
  refine st_stages' [(12,_),(15,_),(9,_)] rtD44_0 [1,9,10] [⟨[0,3,4],[],some 1⟩,⟨[2,5,6,7,8],[3,4],some 9⟩,⟨[],[7],some 10⟩,⟨[11,12],[],none⟩] mixed cv (by kernel_rfl) (by kernel_rfl) ?_
  repeat' (first|intro _|refine sg ?_|(refine p_convert ?_;refine po (by first|refine o1_string (ad:=a114) (c:=c114) (xs:=twoI b) rfl rfl (rx_row (T:=5) (ad:=a114) (c:=c114) (l:=twoI b)) fz|refine o1_string (ad:=ja) (c:=jc) (xs:=twoI b) rfl rfl (rx_row (T:=5) (ad:=ja) (c:=jc) (l:=twoI b)) fz|fail) ?_)|(refine p_binOp .neq ?_;refine po (by first|refine o1_strneq_r (a:=twoI b) (b:=twoI b) (r:=false) rfl rfl (decide_eq_false (fun h=>h rfl)) fz|refine o1_neq_f rfl rfl rfl fz|fail) ?_)|refine pw ?_|refine pdd ?_|(refine k_fn 16 ?_;(refine o1_call_a (dvI keyT g S2 db) (fun hh=>dv_Running_I _ db keyT g S2 1 (twoI b).length hrun) rfl (fun ⟨a114,c114⟩ _=>?_);(try dsimp only);rw [hseg]))|(refine k_fn 13 ?_;(refine o1_call_a (crP keyT (oneP a) 10#32 (oneI a) (sha (oneI a)) hb1) (fun hh=>cr_First _ keyT (oneP a) 10#32 (oneI a) (sha (oneI a)) hb1 hk1) rfl (fun ⟨a69,ca69⟩ _=>?_);(try dsimp only)))|(refine k_fn 12 ?_;refine o1_call_a (dvI keyT g S2 db) (fun hh=>top_no_I hk1 he12 (by decide) (by decide) _ db g a69 ca69 (rx_row (T:=5) (ad:=a69) (c:=ca69) (l:=frameB 1#8 (fstP (oneP a) 10#32 (oneI a))) (has_tail hh))) rfl (fun _ _=>?_))|refine ow ?_|fail)
  all_goals dsimp only [List.cons_append,List.nil_append]
  repeat' (first|intro _|refine cw ?_|refine cw2 ?_ ?_|(refine k_convert ?_;first|refine o1_conv_iu rfl ?_|refine o1_conv_i rfl (by omega) ?_)|(refine k_binOp .rem ?_;(refine o1_rem_nn rfl rfl (by omega) ?_;rw [hKr]))|refine ow ?_|refine ow2 ?_ ?_|fail)
  refine st_loop (S:=Nat × Fl × StD) (fun q=>[(2,I K),(3,.bool cut),(8,.bool false),(9,.pointer (some ⟨hb1,0,none⟩)),(10,.pointer (some ⟨hb2,0,none⟩)),(12,.pointer (some ⟨db,0,none⟩)),(14,.slice ia (oneI a).length ic),(15,.slice ja (twoI b).length jc),(77,I K),(78,I q.1)]) (fun q=>[.any (dvI keyT q.2.1 q.2.2 db),oneC a hb1,twoC b hb2,rowB (ia,ic) (oneI a),rowB (ja,jc) (twoI b),.any (stars H)])
   (fun q=>q.1≤K∧Booted q.1 1#32 20#32 q.2.2∧Dev2B q.1 q.2.1 (7+(twoP b).k+q.1) q.2.2 sunL (twoI b)) (fun q=>K - q.1) (0,g,S2) ⟨Nat.zero_le _,hb0,hd0⟩ cv ent ?_
  rintro ⟨i,g2,s2⟩ ⟨hi,hb2',hd2⟩
  dsimp only at hi hb2' hd2 ⊢
  by_cases hit:i<K
  ·obtain ⟨g3,hd3,hboot⟩:=top_boot hd2 hb2' (by omega)
   have hpow:=fun H'=>top_power hd2.dev.1 hb2'.nf hd2.dev.2 H' db
   cases cut
   all_goals
    repeat' (first|intro _|refine cw ?_|refine cw2 ?_ ?_|refine o1_call_a (dvI keyT g2 s2 db) (fun _=>hpow _) rfl (fun _ _=>?_)|refine o1_call_a (dvI keyT g2 s2 db) (fun _=>hboot _ db) rfl (fun _ _=>?_)|(refine k_binOp .neq ?_;refine o1_neq_f rfl rfl rfl ?_)|refine ow ?_|refine ow2 ?_ ?_|fail)
    refine nx_again (i+1,g3,startS s2) ⟨by show i+1≤K;omega,hb2'.succ,by rw [←Nat.add_assoc];exact hd3⟩ (by show K - (i+1)<K - i;omega) cv ?_
    exact ent
  ·have:i=K:=by omega
   subst this
   obtain ⟨g3,hd3,hconf⟩:=top_conf hd2 hb2' (by omega) (by decide)
   have hma:(confS s2).a=s2.a:=rfl
   have hmx:=maxV_hr s2.f s2.cur.v
   have ha2:=hb2'.a
   rw [hb2'.f] at hmx
   have h00:(0#32:BitVec 32).toNat=0:=rfl
   by_cases hi3:i<3
   ·rw [if_pos hi3] at ha2
    have hd4:Dev2 g3 (7+(twoP b).k+i+1) (confS s2) (twoI b) sunL:=by unfold Dev2B at hd3;rw [if_pos hi3] at hd3;exact hd3
    have hcv:s2.cur.v=20#32:=by unfold StD.cur;rw [if_neg (by omega)];exact hb2'.c1
    rw [hcv] at hmx
    have h20:(20#32:BitVec 32).toNat=20:=rfl
    have hold:errOf (confS s2) (mOf (oneP a) 10#32 (oneI a))=6:=errOf_low hd4.d.may (hk1.may _ _) rfl hd4.off (by show 10≤(maxV s2.f s2.cur.v).toNat;rw [hb2'.f,hcv];omega)
    have hrun2:=hd4.d.runs
    have hseg2:=hd4.d.slot
    rw [hma,ha2] at hrun2 hseg2
    have hrun2:Runs g3 1 (twoI b).length:=hrun2
    have hseg2:seg g3.bs (slotA 1) (twoI b).length=twoI b:=hseg2
    obtain ⟨S3,hS3⟩:∃ S3,confS s2=S3:=⟨_,rfl⟩
    rw [hS3] at hconf hold
    repeat' (first|intro _|refine cw ?_|refine cw2 ?_ ?_|refine o1_call_a (dvI keyT g2 s2 db) (fun _=>hconf _ db) rfl (fun _ _=>?_)|(refine k_binOp .neq ?_;refine o1_neq_f rfl rfl rfl ?_)|(refine k_binOp .lss ?_;refine o1_lss_t rfl rfl (by omega) ?_)|refine ow ?_|refine ow2 ?_ ?_|fail)
    refine st_stages' [(12,_),(15,_),(9,_)] rtD44_1 [1,9,10,14] [⟨[0,3,4],[],some 1⟩,⟨[2,5,6,7,8],[3,4],some 9⟩,⟨[],[7],some 10⟩,⟨[11,12,13],[],some 14⟩,⟨[15,16],[],none⟩] mixed cv (by kernel_rfl) (by kernel_rfl) ?_
    repeat' (first|intro _|refine sg ?_|(refine p_convert ?_;refine po (by first|refine o1_string (ad:=a93) (c:=c93) (xs:=twoI b) rfl rfl (rx_row (T:=5) (ad:=a93) (c:=c93) (l:=twoI b)) fz|refine o1_string (ad:=ja) (c:=jc) (xs:=twoI b) rfl rfl (rx_row (T:=5) (ad:=ja) (c:=jc) (l:=twoI b)) fz|fail) ?_)|(refine p_binOp .eql ?_;refine po (by first|refine o1_streq_r (a:=twoI b) (b:=twoI b) (r:=true) rfl rfl (decide_eq_true rfl) fz|refine o1_eql_t rfl rfl rfl fz|fail) ?_)|refine pw ?_|refine pdd ?_|(refine k_fn 16 ?_;(refine o1_call_a (dvI keyT g3 S3 db) (fun hh=>dv_Running_I _ db keyT g3 S3 1 (twoI b).length hrun2) rfl (fun ⟨a93,c93⟩ _=>?_);(try dsimp only);rw [hseg2]))|(refine k_fn 13 ?_;(refine o1_call_a (crP keyT (oneP a) 10#32 (oneI a) (sha (oneI a)) hb1) (fun hh=>cr_First _ keyT (oneP a) 10#32 (oneI a) (sha (oneI a)) hb1 hk1) rfl (fun ⟨a101,ca101⟩ _=>?_);(try dsimp only)))|(refine k_fn 12 ?_;refine o1_call_a (dvI keyT g3 S3 db) (fun hh=>top_no_I hk1 hold (by decide) (by decide) _ db g3 a101 ca101 (rx_row (T:=5) (ad:=a101) (c:=ca101) (l:=frameB 1#8 (fstP (oneP a) 10#32 (oneI a))) (has_tail hh))) rfl (fun _ _=>?_))|(refine k_fn 17 ?_;refine o1_call (fun _=>top_awake _ ht.up) rfl (fun _ _=>?_))|refine ow ?_|fail)
    all_goals dsimp only [List.cons_append,List.nil_append]
    repeat' (first|intro _|refine cw ?_|refine cw2 ?_ ?_|refine ow ?_|refine ow2 ?_ ?_|fail)
    refine rt_tmp () rfl rfl rfl trivial ?_
    exact ent
   ·rw [if_neg hi3] at ha2
    have hd4:Dev2 g3 (7+(twoP b).k+i+1) (confS s2) sunL (twoI b):=by unfold Dev2B at hd3;rw [if_neg hi3] at hd3;exact hd3
    have hcv:s2.cur.v=1#32:=by unfold StD.cur;rw [if_pos ha2];exact hb2'.c0
    rw [hcv] at hmx
    have h01:(1#32:BitVec 32).toNat=1:=rfl
    have h10:(10#32:BitVec 32).toNat=10:=rfl
    have hgb:=hd4.d.gb
    have hnew:errOf (confS s2) (mOf (oneP a) 10#32 (oneI a))=0:=errOf_new hd4.d.may (hk1.may _ _) rfl (by show (maxV s2.f s2.cur.v).toNat<(10#32:BitVec 32).toNat;rw [hb2'.f,hcv];omega) (by show s2.cur.v.toNat<(10#32:BitVec 32).toNat;rw [hcv];omega) (fun h=>by rw [hd4.off] at h;cases h) (by omega)
    have hrun2:=hd4.d.runs
    have hseg2:=hd4.d.slot
    rw [hma,ha2] at hrun2 hseg2
    have hrun2:Runs g3 0 3:=hrun2
    have hseg2:seg g3.bs (slotA 0) 3=sunL:=hseg2
    obtain ⟨g4,d4,hh4⟩:=top_hear_I hd4.d (by omega) hk1 hnew
    obtain ⟨S3,hS3⟩:∃ S3,confS s2=S3:=⟨_,rfl⟩
    rw [hS3] at hconf hh4
    obtain ⟨S4,hS4⟩:∃ S4,hearS S3 (oneP a) 10#32 (oneI a)=S4:=⟨_,rfl⟩
    rw [hS4] at hh4
    repeat' (first|intro _|refine cw ?_|refine cw2 ?_ ?_|refine o1_call_a (dvI keyT g2 s2 db) (fun _=>hconf _ db) rfl (fun _ _=>?_)|refine o1_call_a (dvI keyT g3 S3 db) (fun hh=>hh4 _ db a115 ca115 ht.up (rx_row (T:=5) (ad:=a115) (c:=ca115) (l:=frameB 1#8 (fstP (oneP a) 10#32 (oneI a))) (has_tail hh))) rfl (fun _ _=>?_)|(refine k_binOp .neq ?_;refine o1_neq_f rfl rfl rfl ?_)|(refine k_binOp .lss ?_;refine o1_lss_f rfl rfl (by omega) ?_)|(refine k_fn 16 ?_;(refine o1_call_a (dvI keyT g3 S3 db) (fun hh=>dv_Running_I _ db keyT g3 S3 0 3 hrun2) rfl (fun ⟨a109,c109⟩ _=>?_);(try dsimp only);rw [hseg2]))|(refine k_convert ?_;refine o1_string (ad:=a109) (c:=c109) (xs:=sunL) rfl rfl (rx_row (T:=5) (ad:=a109) (c:=c109) (l:=sunL)) ?_)|(refine k_binOp .eql ?_;first|refine o1_streq_r (a:=sunL) (b:=sunL) (r:=true) rfl rfl (by decide) ?_|refine o1_eql_t rfl rfl rfl ?_)|(refine k_fn 13 ?_;(refine o1_call_a (crP keyT (oneP a) 10#32 (oneI a) (sha (oneI a)) hb1) (fun hh=>cr_First _ keyT (oneP a) 10#32 (oneI a) (sha (oneI a)) hb1 hk1) rfl (fun ⟨a115,ca115⟩ _=>?_);(try dsimp only)))|(refine k_binOp .gtr ?_;refine o1_gtr_t rfl rfl (by omega) ?_)|(refine k_fn 17 ?_;refine o1_call (fun _=>top_awake _ ht.up) rfl (fun _ _=>?_))|refine ow ?_|refine ow2 ?_ ?_|fail)
    refine rt_tmp () rfl rfl rfl trivial ?_
    exact ent
end Go.Dp
