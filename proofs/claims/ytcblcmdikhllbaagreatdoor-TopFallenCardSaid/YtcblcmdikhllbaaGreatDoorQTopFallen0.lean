/-
  flash: its box; ready, Read, Blank, step, walked.
  flash: Fuse, Start, Bytes, walked.
  What boot does to states, plain.
  Pointers in an atomic cell: stored, loaded, seen as what they are.
  device: its memory's pointer; met, keeps, walked.
  device: opens, walked.
  device: takes, walked.
  device: what a device is; Packet, walked.
  device: Make, now, Kept, Flash, walked.
  device: turns, Boot, Confirm without a session, walked.
  Boots and a Confirm with the power on, plain: both slots hold their images.
  The wheel of one session: what was added is read again, whatever power does, plain.
  What a device does whatever power does within its last piece, plain.
  What stands on flash when power fell within the last piece, and what comes of it, plain.
  Conditions: those that stand in each theorem.
-/
import Derived.Test.YtcblcmdikhllbaaGreatDoorQTopSwitch0
import Derived.Test.YtcblcmdikhllbaaGreatDoorQTopSwitch1
import Derived.Test.YtcblcmdikhllbaaGreatDoorQTopSwitch10
import Derived.Test.YtcblcmdikhllbaaGreatDoorQTopSwitch11
import Derived.Test.YtcblcmdikhllbaaGreatDoorQTopSwitch12
import Derived.Test.YtcblcmdikhllbaaGreatDoorQTopSwitch13
import Derived.Test.YtcblcmdikhllbaaGreatDoorQTopSwitch14
import Derived.Test.YtcblcmdikhllbaaGreatDoorQTopSwitch15
import Derived.Test.YtcblcmdikhllbaaGreatDoorQTopSwitch16
import Derived.Test.YtcblcmdikhllbaaGreatDoorQTopSwitch17
import Derived.Test.YtcblcmdikhllbaaGreatDoorQTopSwitch2
import Derived.Test.YtcblcmdikhllbaaGreatDoorQTopSwitch3
import Derived.Test.YtcblcmdikhllbaaGreatDoorQTopSwitch4
import Derived.Test.YtcblcmdikhllbaaGreatDoorQTopSwitch5
import Derived.Test.YtcblcmdikhllbaaGreatDoorQTopSwitch6
import Derived.Test.YtcblcmdikhllbaaGreatDoorQTopSwitch7
import Derived.Test.YtcblcmdikhllbaaGreatDoorQTopSwitch8
import Derived.Test.YtcblcmdikhllbaaGreatDoorQTopSwitch9
set_option linter.unusedVariables false
set_option linter.unusedSimpArgs false
namespace Go.Dp
open Go.RowKit Go.Proofs
theorem flC_setfused {ad:Option Addr} {c:Nat} {f:Fl} {h:Hid} (v:Bool) (hE:f.er.length=14):(flC ad c f h).set 17 (.bool v)=flC ad c f { h with fused:=v }:=by
 obtain ⟨bs,er,wear,pw,torn⟩:=f
 match er,hE with
 | [a0,a1,a2,a3,a4,a5,a6,a7,a8,a9,a10,a11,a12,a13],_=>rfl
theorem flC_settorn {ad:Option Addr} {c:Nat} {f:Fl} {h:Hid} (v:Int) (hE:f.er.length=14):(flC ad c f h).set 19 (I v)=flC ad c { f with torn:=v } h:=by
 obtain ⟨bs,er,wear,pw,torn⟩:=f
 match er,hE with
 | [a0,a1,a2,a3,a4,a5,a6,a7,a8,a9,a10,a11,a12,a13],_=>rfl
section
variable {P:Program} {n:Nat} {e:Ev} {H:List Hl} {C:Value→List Hl→Prop} {ty:TypeId} {x y:Operand}
end
def fuseF (f:Fl) (n:Option Nat) (t:Int):Fl:={ f with torn:=t,pw:=match f.pw,n with
  | .down _,q => .down q
  | _,none => .on
  | _,some n => .fuse n }
def startF (f:Fl):Fl:={ f with pw:=match f.pw with
  | .down none => .on
  | .down (some n) => .fuse n
  | p=>p }
def nO (n:Option Nat):Int:=match n with
 | none => -1
 | some n=>n
theorem fl_Fuse (H:List Hl) (b:Nat) (ad:Option Addr) (c:Nat) (f:Fl) (h:Hid) (n:Option Nat) (t:Int) (hk:FlOk f h) (hn:∀ k,n=some k→k≤1000000) :
  Spec Tryz.prog 19 [.pointer (some ⟨b,0,none⟩),I (nO n),I t] (fB b ad c f h::H) (fun h':Hid=>FlOk (fuseF f n t) h') (fun _ => .tuple #[]) (fun h'=>fB b ad c (fuseF f n t) h'::H):=by
 refine spec_fn (res:=fun h':Hid=>[fB b ad c (fuseF f n t) h']) [fB b ad c f h] H Tryz.func19 rfl Tryz.ntmps19 (by kernel_rfl) rfl (fun W=>?_)
 dsimp only [List.cons_append,List.nil_append]
 have hE:=hk.er
 have hb:∀ f' h',(flC ad c { f with torn:=t } ⟨nO n,h.steps,decide (0≤nO n)⟩)=flC ad c f' h'→f'.er.length=14→True:=fun _ _ _ _=>trivial
 have e:flC ad c { f with torn:=t } ⟨nO n,h.steps,decide (0≤nO n)⟩=flC ad c (fuseF f n t) ⟨nO n,h.steps,decide (0≤nO n)⟩:=by
  obtain ⟨bs,er,wear,pwr,torn⟩:=f
  cases pwr <;> cases n <;> rfl
 repeat' (first|intro _|refine cw ?_|refine cw2 ?_ ?_|refine o1_pneq rfl rfl ?_|(refine k_binOp .geq ?_;refine o1_geq_d rfl rfl ?_)|(refine k_store ?_;first|refine ox_stores (b:=b) (i:=17) rfl rfl (by rw [flC_len hE];decide) rfl (flC_setfused _ hE) ?_|refine ox_stores (b:=b) (i:=18) rfl rfl (by rw [flC_len hE];decide) rfl (flC_setleft _ hE) ?_|refine ox_stores (b:=b) (i:=19) rfl rfl (by rw [flC_len hE];decide) rfl (flC_settorn _ hE) ?_)|refine ow ?_|refine ow2 ?_ ?_|fail)
 refine rt_none (⟨nO n,h.steps,decide (0≤nO n)⟩:Hid) rfl rfl ⟨hE,hk.bs,hk.wr,hk.ers,?_⟩ ?_
 ·obtain ⟨bs,er,wear,pwr,torn⟩:=f
  cases pwr <;> cases n <;> simp [fuseF,nO] <;> exact hn _ rfl
 show Ent _ [.box b 110 (flC ad c (fuseF f n t) ⟨nO n,h.steps,decide (0≤nO n)⟩),.any (stars H)]
 rw [←e]
 exact ent
theorem fl_Start (H:List Hl) (b:Nat) (ad:Option Addr) (c:Nat) (f:Fl) (h:Hid) (hk:FlOk f h) :
  Spec Tryz.prog 49 [.pointer (some ⟨b,0,none⟩)] (fB b ad c f h::H) (fun h':Hid=>FlOk (startF f) h') (fun _ => .tuple #[]) (fun h'=>fB b ad c (startF f) h'::H):=by
 refine spec_fn (res:=fun h':Hid=>[fB b ad c (startF f) h']) [fB b ad c f h] H Tryz.func49 rfl Tryz.ntmps49 (by kernel_rfl) rfl (fun W=>?_)
 dsimp only [List.cons_append,List.nil_append]
 have hE:=hk.er
 obtain ⟨v,hv⟩:∃ v,(h.fused && decide (0≤h.left))=v:=⟨_,rfl⟩
 have e:((flC ad c f h).set 16 (.bool false)).set 17 (.bool v)=flC ad c (startF f) { h with fused:=v }:=by
  have hp:=hk.pw
  obtain ⟨bs,er,wear,pwr,torn⟩:=f
  obtain ⟨l,st,fu⟩:=h
  match er,hE with
  | [a0,a1,a2,a3,a4,a5,a6,a7,a8,a9,a10,a11,a12,a13],_ =>
   cases pwr with
   | on=>rfl
   | fuse n=>rfl
   | down q=>cases q <;> rfl
 have hfin:FlOk (startF f) { h with fused:=v }:=by
  refine ⟨hE,hk.bs,hk.wr,hk.ers,?_⟩
  have hp:=hk.pw
  obtain ⟨bs,er,wear,pwr,torn⟩:=f
  obtain ⟨l,st,fu⟩:=h
  dsimp only at hp hv
  cases pwr with
  | on =>
   dsimp only at hp
   show v=false
   rw [←hv,hp];rfl
  | fuse n =>
   dsimp only at hp
   obtain ⟨p1,p2,p3⟩:=hp
   refine ⟨?_,p2,p3⟩
   rw [←hv,p1,p2]
   simp
  | down q =>
   cases q with
   | none =>
    dsimp only at hp
    show v=false
    rw [←hv]
    cases fu with
    | false=>rfl
    | true=>have:=hp rfl;simp;omega
   | some n =>
    dsimp only at hp
    obtain ⟨p1,p2,p3⟩:=hp
    refine ⟨?_,p2,p3⟩
    rw [←hv,p1,p2]
    simp
 cases hfu:h.fused
 ·have hvf:v=false:=by rw [←hv,hfu];rfl
  subst hvf
  repeat' (first|intro _|refine cw ?_|refine cw2 ?_ ?_|refine o1_pneq rfl rfl ?_|(refine k_load ?_;refine ox_load (v := .bool false) (b:=b) (i:=17) rfl (by rw [flC_fused hE,hfu]) ?_)|(refine k_store ?_;first|refine ox_stores (b:=b) (i:=16) rfl rfl (by rw [flC_len hE];decide) rfl rfl ?_|refine ox_stores (b:=b) (i:=17) rfl rfl (by rw [List.length_set,flC_len hE];decide) rfl e ?_)|refine ow ?_|refine ow2 ?_ ?_|fail)
  refine rt_none ({ h with fused:=false }:Hid) rfl rfl hfin ?_
  exact ent
 ·have hvf:decide (0≤h.left)=v:=by rw [←hv,hfu];rfl
  repeat' (first|intro _|refine cw ?_|refine cw2 ?_ ?_|refine o1_pneq rfl rfl ?_|(refine k_load ?_;first|refine ox_load (v := .bool true) (b:=b) (i:=17) rfl (by rw [flC_fused hE,hfu]) ?_|refine ox_load (b:=b) (i:=18) rfl (flC_left hE) ?_)|(refine k_binOp .geq ?_;(refine o1_geq_d rfl rfl ?_;rw [show decide (h.left ≥ 0)=v from hvf]))|(refine k_store ?_;first|refine ox_stores (b:=b) (i:=16) rfl rfl (by rw [flC_len hE];decide) rfl rfl ?_|refine ox_stores (b:=b) (i:=17) rfl rfl (by rw [List.length_set,flC_len hE];decide) rfl e ?_)|refine ow ?_|refine ow2 ?_ ?_|fail)
  refine rt_none ({ h with fused:=v }:Hid) rfl rfl hfin ?_
  exact ent
def startS (x:StD):StD:=⟨if x.t=1 then 1 - x.a else x.a,if x.t=0 then 0 else x.t - 1,x.f,x.g,x.s0,x.s1,x.on,x.m⟩
end Go.Dp
namespace Go.Dp
open Go.RowKit
theorem run_to_unsafe_nil {P:Program} {src dst u:TypeId} (hs:P.underlying src=some (.pointer u)) (hd:P.underlying dst=some .unsafePointer) {w:World}:(convert src dst (.pointer none)).run P w = .ok (.pointer none) w:=by
 simp [convert,run_underlying hs,run_underlying hd,Conv.unsafePointer]
section
variable {P:Program} {n:Nat} {H:List Hl} {e:Ev} {C:Value→List Hl→Prop} {ty:TypeId}
variable {f:FuncId} {xs:List Operand} {ats:Array TypeId} {b i:Nat} {T:TypeId} {cs:List Value} {H':List Hl} {y:Option Addr}
theorem o1_to_unsafe_nil {src dst u:TypeId} {x:Operand} (hs:P.underlying src=some (.pointer u)) (hd:P.underlying dst=some .unsafePointer) (hx:opd e x=some (.pointer none)) (h:C (.pointer none) H):O1 P (.convert src dst x) ty n e H C :=
 o1_val _ (fun a w ho=>by simp [execOp,ho.ev.eval hx,run_to_unsafe_nil hs hd]) h
end
open Go.RowKit Go.Proofs
theorem dp_Store_nil (H H1:List Hl) (db i:Nat) (T:TypeId) (cs:List Value) [s1:SBox H db T cs H1] (hi:i<cs.length) :
  Spec Tryz.prog 50 [.pointer (some ⟨db,i,none⟩),.pointer none] H (fun _:Unit=>True) (fun _ => .tuple #[]) (fun _ => .box db T (cs.set i (.pointer none))::H1):=by
 refine spec_of _ Tryz.func50 rfl Tryz.ntmps50 (by kernel_rfl) rfl (fun W=>?_)
 repeat' (first|intro _|refine cw ?_|refine cw2 ?_ ?_|refine ow ?_|refine ow2 ?_ ?_|fail)
 refine o1_to_unsafe_nil u_mem u_uns rfl ?_
 repeat' (first|intro _|refine cw ?_|refine cw2 ?_ ?_|refine ow ?_|refine ow2 ?_ ?_|fail)
 refine o1_xstorep xf_storep rfl hi ?_
 repeat' (first|intro _|refine cw ?_|refine cw2 ?_ ?_|refine ow ?_|refine ow2 ?_ ?_|fail)
 exact rt_none () rfl rfl trivial (Ent.refl _)
theorem dv_Store_nil (H:List Hl) (db fb:Nat) (ka:Option Addr) (kn kc:Nat) (mp:Option Addr) :
  Spec Tryz.prog 50 [.pointer (some ⟨db,2,none⟩),.pointer none] (dvB db fb ka kn kc mp::H) (fun _:Unit=>True) (fun _ => .tuple #[]) (fun _=>dvB db fb ka kn kc none::H) :=
 dp_Store_nil _ H db 2 78 [.slice ka kn kc,.pointer (some ⟨fb,0,none⟩),.pointer mp] (by simp)
section
variable {P:Program} {n:Nat} {H:List Hl} {e:Ev} {C:Value→List Hl→Prop} {ty:TypeId}
end
theorem dv_met_down (H:List Hl) (db fb:Nat) (ka:Option Addr) (kn kc:Nat) (mp:Option Addr) :
  Spec Tryz.prog 35 [.pointer (some ⟨db,0,none⟩),I 11] (dvB db fb ka kn kc mp::H) (fun _:Unit=>True) (fun _=>I 11) (fun _=>dvB db fb ka kn kc none::H):=by
 refine spec_fn (res:=fun _:Unit=>[dvB db fb ka kn kc none]) [dvB db fb ka kn kc mp] H Tryz.func35 rfl Tryz.ntmps35 (by kernel_rfl) rfl (fun W=>?_)
 dsimp only [List.cons_append,List.nil_append]
 repeat' (first|intro _|refine cw ?_|refine cw2 ?_ ?_|(refine k_fn 50 ?_;refine o1_call_box (b:=db) (fun _=>dv_Store_nil _ db fb ka kn kc mp) rfl (fun _ _=>?_))|refine ow ?_|refine ow2 ?_ ?_|fail)
 refine rt_tmp () rfl rfl rfl trivial ?_
 exact ent
set_option maxHeartbeats 4000000 in
theorem dv_keeps_no (H:List Hl) (db fb:Nat) (ka:Option Addr) (kn kc:Nat) (mp:Option Addr) (ad:Option Addr) (c:Nat) (f f1:Fl) (e:Int) (h:Hid) (x:StD) (lp:Option Addr) (hm:x.may=true) (hx:x.Rd (stars H)) (hk:FlOk f h) (hd:f.pw.isDown=false) (hW:cellW f x.by=(f1,e)) (he:e≠0) :
  Spec Tryz.prog 32 [.pointer (some ⟨db,0,none⟩),x.V,.pointer lp] (dvB db fb ka kn kc mp::fB fb ad c f h::fR ad c f::H) (fun h':Hid=>FlOk f1 h') (fun _=>I e) (fun h'=>dvB db fb ka kn kc mp::fB fb ad c f1 h'::fR ad c f1::H):=by
 refine spec_fn (res:=fun h':Hid=>[dvB db fb ka kn kc mp,fB fb ad c f1 h',fR ad c f1]) [dvB db fb ka kn kc mp,fB fb ad c f h,fR ad c f] H Tryz.func32 rfl Tryz.ntmps32 (by kernel_rfl) rfl (fun W=>?_)
 dsimp only [List.cons_append,List.nil_append]
 have hql:=by_245 hm
 obtain ⟨q,hq⟩:∃ q,x.by=q:=⟨_,rfl⟩
 rw [hq] at hql hW
 repeat' (first|intro _|refine cw ?_|refine cw2 ?_ ?_|(refine k_box ?_;refine o1_box rfl rfl (fun b4=>?_))|(refine k_fn 67 ?_;(refine o1_call (fun _=>st_Bytes _ x hm ⟨hx.s0.up,hx.s1.up,hx.m.up⟩) rfl (fun ⟨a11,c11⟩ _=>?_);(try dsimp only);rw [hq]))|(refine k_load ?_;refine ox_load (b:=db) (i:=1) rfl rfl ?_)|(refine k_fn 68 ?_;(refine o1_call_fl fb ad c (fun hh=>cl_Write _ fb ad c f h a11 c11 q hk (rx_row (has_tail (has_tail hh))) hql hd) rfl (fun h1 hk1=>?_);(rw [hW] at hk1 ⊢;dsimp only at hk1 ⊢)))|(refine k_binOp .eql ?_;refine o1_eql_f rfl rfl he ?_)|refine ow ?_|refine ow2 ?_ ?_|fail)
 refine rt_tmp h1 rfl rfl rfl hk1 ?_
 exact ent
open Go.RowKit Go.Proofs Sha
def rtD27_0:List Row:=[⟨some 7,[],[],none⟩,⟨some 8,[0],[0],none⟩,⟨some 9,[1],[0,1],none⟩,⟨some 10,[],[],none⟩,⟨some 11,[3],[3],none⟩,⟨some 12,[4],[3,4],none⟩,⟨some 13,[2,5],[0,1,2,3,4,5],none⟩]
def rtD27_6:List Row:=[⟨some 22,[],[],none⟩,⟨some 23,[0],[0],none⟩,⟨some 24,[],[],none⟩,⟨some 25,[2],[2],none⟩,⟨some 26,[3],[2,3],none⟩,⟨some 27,[4],[2,3,4],none⟩,⟨some 28,[5],[2,3,4,5],none⟩,⟨some 29,[6],[2,3,4,5,6],none⟩,⟨some 30,[1,7,1],[0,1,2,3,4,5,6,7],none⟩,⟨some 31,[8],[0,1,2,3,4,5,6,7,8],none⟩]
def rtD27_7:List Row:=[⟨some 42,[],[],none⟩,⟨some 43,[0],[0],none⟩,⟨some 44,[1],[0,1],none⟩,⟨some 45,[2],[0,1,2],none⟩,⟨some 46,[],[],none⟩,⟨some 47,[4],[4],none⟩,⟨some 48,[5],[4,5],none⟩,⟨some 49,[6],[4,5,6],none⟩,⟨some 50,[7],[4,5,6,7],none⟩,⟨some 51,[8],[4,5,6,7,8],none⟩,⟨some 52,[],[],none⟩,⟨some 53,[3,9,10],[0,1,2,3,4,5,6,7,8,9,10],none⟩,⟨some 7,[11,11,0,1,2,3,4,5,6,7,8,9,10,11],[0,1,2,3,4,5,6,7,8,9,10,11],none⟩]
set_option maxHeartbeats 4000000 in
theorem dv_opens_off (H:List Hl) (db fb:Nat) (ka:Option Addr) (kn kc:Nat) (mp:Option Addr) (x:StD) (ho:x.on=false) :
  Spec Tryz.prog 75 [.pointer (some ⟨db,0,none⟩),x.V] (dvB db fb ka kn kc mp::H) (fun _:Nat=>True) (fun _=>I 0) (fun mb=>dvB db fb ka kn kc (pM mb)::meB mb x none::H):=by
 refine spec_fn (res:=fun mb:Nat=>[dvB db fb ka kn kc (pM mb),meB mb x none]) [dvB db fb ka kn kc mp] H Tryz.func75 rfl Tryz.ntmps75 (by kernel_rfl) rfl (fun W=>?_)
 dsimp only [List.cons_append,List.nil_append]
 repeat' (first|intro _|refine cw ?_|refine cw2 ?_ ?_|(refine k_box ?_;refine o1_box rfl rfl (fun b3=>?_))|refine ow ?_|refine ow2 ?_ ?_|fail)
 refine st_stages' [(0,_),(3,_)] rtD27_0 [5,6] [⟨[0,1,2,3,4],[],some 5⟩,⟨[],[0,1,2],some 6⟩,⟨[],[],none⟩] mixed cv (by kernel_rfl) (by kernel_rfl) ?_
 repeat' (first|intro _|refine sg ?_|refine pw ?_|refine pdd ?_|(refine k_box ?_;refine o1_box rfl rfl (fun mb=>?_))|(refine k_fn 50 ?_;refine o1_call_bb db mb (fun _=>dv_Store _ db fb ka kn kc mp mb x none) rfl (fun _ _=>?_))|refine ow ?_|fail)
 all_goals dsimp only [List.cons_append,List.nil_append]
 repeat' (first|intro _|refine cw ?_|refine cw2 ?_ ?_|(refine k_load ?_;(refine ox_load (b:=b3) (i:=10) rfl rfl ?_;rw [ho]))|refine ow ?_|refine ow2 ?_ ?_|fail)
 refine rt_tmp mb rfl rfl rfl trivial ?_
 exact ent
set_option maxHeartbeats 8000000 in
theorem dv_fin_no (H:List Hl) (db fb:Nat) (ka:Option Addr) (kn kc:Nat) (mb sb:Nat) (ad:Option Addr) (c:Nat) (f f2:Fl) (e:Int) (h:Hid) (x:StD) (st:Sto) (im:List (BitVec 8)) (hm:x.may=true) (ho:x.on=true) (htr:x.t=0) (hx:x.Rd (stars H)) (hk:FlOk f h) (hd:f.pw.isDown=false)
  (hp:st.p.ok) (hR:RR st.p.n st.p.z st.d.M) (hf:cntS st.d.M=st.p.n) (hl:count st.len st.p.z=st.p.k) (him:imgB st.p st.d st.len=im) (hi1:1≤im.length) (hi2:im.length≤512) (hsh:sha im=x.m.h.l) (hF:finF f x im=(f2,e)) (he:e≠0) :
  Spec Tryz.prog 80 [.pointer (some ⟨db,0,none⟩)] (dvB db fb ka kn kc (pM mb)::meB mb x (some ⟨sb,0,none⟩) :: .any (stP st fb sb)::fB fb ad c f h::fR ad c f::H) (fun h':Hid=>FlOk f2 h') (fun _=>I e)
   (fun h'=>dvB db fb ka kn kc (pM mb)::fB fb ad c f2 h'::fR ad c f2::H):=by
 refine spec_fn (res:=fun h':Hid=>[dvB db fb ka kn kc (pM mb),fB fb ad c f2 h',fR ad c f2]) [dvB db fb ka kn kc (pM mb),meB mb x (some ⟨sb,0,none⟩),.any (stP st fb sb),fB fb ad c f h,fR ad c f] H Tryz.func80 rfl Tryz.ntmps80 (by kernel_rfl) rfl (fun W=>?_)
 dsimp only [List.cons_append,List.nil_append]
 have ha:=StD.may_a hm
 obtain ⟨sN,hsN⟩:∃ sN,(1 - x.a).toNat=sN:=⟨_,rfl⟩
 have hs2:sN<2:=by omega
 have hsub:(1:Int) - x.a=(sN:Int):=by omega
 unfold finF at hF
 rw [hsN] at hF
 have hup:=slotW_ok (f:=f) (s:=sN) (x:=im)
 obtain ⟨⟨f1,v1⟩,hr1⟩:∃ r,slotW f sN im=r:=⟨_,rfl⟩
 rw [hr1] at hF hup
 dsimp only at hF hup
 have hact:∀ r0 r1 r2,(copyS (actS x) r0 r1 r2).may=true:=fun r0 r1 r2=>by rw [copy_may];exact act_may hm ho htr
 repeat' (first|intro _|refine cw ?_|refine cw2 ?_ ?_|(refine k_fn 33 ?_;refine o1_call_bb db mb (fun _=>dv_Load _ db fb ka kn kc mb x (some ⟨sb,0,none⟩)) rfl (fun _ _=>?_))|(refine k_load ?_;refine ox_load (b:=mb) (i:=17) rfl rfl ?_)|(refine k_fn 124 ?_;(refine o1_call_a (stP st fb sb) (fun _=>so_Image _ st fb sb hp hR hf hl) rfl (fun ⟨a19,c19⟩ _=>?_);(try dsimp only);rw [him]))|refine ow ?_|refine ow2 ?_ ?_|fail)
 refine st_stages' [(4,_),(3,_)] rtD27_6 [1,8] [⟨[0,2,3,4,5,6,7],[],some 1⟩,⟨[],[2,3,4,5,6,7],some 8⟩,⟨[9],[],none⟩] mixed cv (by kernel_rfl) (by kernel_rfl) ?_
 repeat' (first|intro _|refine sg ?_|(refine p_load ?_;refine po (by first|refine ox_load (b:=mb) (i:=16) rfl rfl fz|fail) ?_)|refine pw ?_|refine pdd ?_|(refine k_fn 56 ?_;(refine o1_call (fun hh=>dg_Sum _ a19 c19 im _ (rx_row hh) (by omega) hsh) rfl (fun ⟨a23,c23⟩ _=>?_);(try dsimp only)))|(refine k_fn 66 ?_;refine o1_call (fun hh=>(slices_Equal _ a23 x.m.h.ad c23 x.m.h.cap x.m.h.l x.m.h.l (rx_row hh) hx.m.up).bv (b:=true) (by simp)) rfl (fun _ _=>?_))|refine ow ?_|fail)
 all_goals dsimp only [List.cons_append,List.nil_append]
 repeat' (first|intro _|refine cw ?_|refine cw2 ?_ ?_|refine ow ?_|refine ow2 ?_ ?_|fail)
 refine st_stages' [(0,_),(3,_),(4,_)] rtD27_7 [11] [⟨[0,1,2,3,4,5,6,7,8,9,10],[],some 11⟩,⟨[12],[],none⟩] mixed cv (by kernel_rfl) (by kernel_rfl) ?_
 repeat' (first|intro _|refine sg ?_|(refine p_load ?_;refine po (by first|refine ox_load (b:=db) (i:=1) rfl rfl fz|refine ox_load (b:=mb) (i:=0) rfl rfl fz|fail) ?_)|(refine p_binOp .sub ?_;refine po (by first|((refine o1_sub rfl rfl (by omega) ?_;rw [hsub]);all_goals exact fz)|fail) ?_)|refine pw ?_|refine pdd ?_|(refine k_fn 31 ?_;(refine o1_call_fl fb ad c (fun hh=>sl_Write _ fb ad c f h sN a19 c19 im hs2 hk (rx_row (has_tail (has_tail hh))) hi1 hi2 hd) rfl (fun h1 hk1=>?_);(rw [hr1] at hk1 ⊢;dsimp only at hk1 ⊢)))|refine ow ?_|fail)
 all_goals dsimp only [List.cons_append,List.nil_append]
 by_cases hv1:v1≠0
 ·rw [if_pos hv1] at hF
  obtain ⟨e1,e2⟩:=Prod.mk.inj hF
  subst e1 e2
  repeat' (first|intro _|refine cw ?_|refine cw2 ?_ ?_|(refine k_binOp .neq ?_;refine o1_neq_t rfl rfl hv1 ?_)|refine ow ?_|refine ow2 ?_ ?_|fail)
  refine rt_tmp h1 rfl rfl rfl hk1 ?_
  exact ent
 rw [if_neg hv1] at hF
 have hv1:v1=0:=Decidable.not_not.1 hv1
 subst hv1
 have hd1:=hup rfl
 repeat' (first|intro _|refine cw ?_|refine cw2 ?_ ?_|(refine k_fn 126 ?_;(refine o1_call (fun _=>bt_Activate _ x ⟨hx.s0.up,hx.s1.up,hx.m.up⟩ hm ho htr) rfl (fun ⟨q1,q2⟩ _=>?_);(try dsimp only)))|(refine k_alloc ?_;refine o1_alloc rfl (fun b8=>?_))|refine ow ?_|refine ow2 ?_ ?_|fail)
 refine o1_call_to (dvB db fb ka kn kc (pM mb)::fB fb ad c f1 h1::fR ad c f1::[rowL q1 (actS x).s0.h.l,rowL q2 (actS x).s1.h.l,.any (stars H)]) (Ent.out ent) (fun hh=>dv_keeps_no _ db fb ka kn kc (pM mb) ad c f1 f2 e h1 (copyS (actS x) q1 q2 (none,0)) none (hact _ _ _) ⟨rx_row (T:=5) (ad:=q1.1) (c:=q1.2) (l:=(actS x).s0.h.l) (has_tail (has_tail (has_tail hh))),rx_row (T:=5) (ad:=q2.1) (c:=q2.2) (l:=(actS x).s1.h.l) (has_tail (has_tail (has_tail hh))),rs00 (has_tail (has_tail (has_tail hh)))⟩ hk1 hd1 hF he) rfl (fun h2 hk2=>?_)
 repeat' (first|intro _|refine cw ?_|refine cw2 ?_ ?_|refine ow ?_|refine ow2 ?_ ?_|fail)
 refine rt_tmp h2 rfl rfl rfl hk2 ?_
 exact ent
def rtD29_0:List Row:=[⟨some 45,[],[],none⟩,⟨some 46,[0],[0],none⟩,⟨some 47,[1],[0,1],none⟩,⟨some 48,[2],[0,1,2],none⟩,⟨some 49,[],[],none⟩,⟨some 50,[4],[4],none⟩,⟨some 51,[],[],none⟩,⟨some 52,[6],[6],none⟩,⟨some 53,[3,5,7],[0,1,2,3,4,5,6,7],none⟩,⟨some 11,[8,8,0,1,2,3,4,5,6,7,8],[0,1,2,3,4,5,6,7,8],none⟩]
def rtD29_3:List Row:=[⟨some 45,[],[],none⟩,⟨some 46,[0],[0],none⟩,⟨some 47,[1],[0,1],none⟩,⟨some 48,[2],[0,1,2],none⟩,⟨some 49,[],[],none⟩,⟨some 50,[4],[4],none⟩,⟨some 51,[],[],none⟩,⟨some 52,[6],[6],none⟩,⟨some 53,[3,5,7],[0,1,2,3,4,5,6,7],none⟩,⟨some 11,[8,8,0,1,2,3,4,5,6,7,8],[0,1,2,3,4,5,6,7,8],none⟩]
set_option maxHeartbeats 8000000 in
theorem dv_takes_no (H:List Hl) (db fb:Nat) (ka:Option Addr) (kn kc:Nat) (mb:Nat) (x:StD) (sb:Nat) (ad2:Option Addr) (m2 c2:Nat) (s id:BitVec 32) (xs:List (BitVec 8)) (hb:Rs (stars H) B ad2 c2 (symB s id xs)) (hm2:m2=xs.length+8) (hx1:1≤xs.length) (hx2:xs.length≤16) (ad:Option Addr) (c:Nat) (f:Fl) (h:Hid) (st:Sto) (len:Nat) (v:List Bool) (ho:x.on=true) (hp:IsP x.m st.p len) (hs:s=st.p.s) (hz:xs.length=st.p.z) (hR:RR st.p.n st.p.z st.d.M) (htk:st.d.t≤1000) (hv:SpRow st.p id v) (hk:FlOk f h) (hd:f.pw.isDown=false) (hn:st.nxt≤8*plW st.p.z) (ht:TabF (stars H)) (f1:Fl) (e:Int) (hput:putS st f id v xs=(st,f1,e)) (hne:e≠0) :
  Spec Tryz.prog 37 [.pointer (some ⟨db,0,none⟩),.slice ad2 m2 c2] (dvB db fb ka kn kc (pM mb)::meB mb x (some ⟨sb,0,none⟩) :: .any (stP st fb sb)::fB fb ad c f h::fR ad c f::H) (fun h1:Hid=>FlOk f1 h1) (fun _=>I e) (fun r=>dvB db fb ka kn kc (pM mb)::meB mb x (some ⟨sb,0,none⟩) :: .any (stP st fb sb)::fB fb ad c f1 r::fR ad c f1::H):=by
 refine spec_fn (res:=fun r:Hid=>[dvB db fb ka kn kc (pM mb),meB mb x (some ⟨sb,0,none⟩),.any (stP st fb sb),fB fb ad c f1 r,fR ad c f1]) [dvB db fb ka kn kc (pM mb),meB mb x (some ⟨sb,0,none⟩),.any (stP st fb sb),fB fb ad c f h,fR ad c f] H Tryz.func37 rfl Tryz.ntmps37 (by kernel_rfl) rfl (fun W=>?_)
 dsimp only [List.cons_append,List.nil_append]
 obtain ⟨hpar,hmay⟩:=isP_par hp
 have hfit:fitsP st.p.k st.p.p st.p.z s st.p.s xs.length=0:=by rw [hs];exact fits_0 hp.ok (by rw [hz])
 repeat' (first|intro _|refine cw ?_|refine cw2 ?_ ?_|(refine k_fn 33 ?_;refine o1_call (fun _=>dv_LoadH db fb ka kn kc mb x (some ⟨sb,0,none⟩)) rfl (fun _ _=>?_))|(refine k_fn 76 ?_;(refine o1_call (fun _=>packet_Parse_sym _ ad2 c2 m2 s id xs hb.up hm2 hx1 hx2) rfl (fun ⟨a18,c18⟩ _=>?_);(try dsimp only)))|(refine k_alloc ?_;refine o1_alloc rfl (fun b6=>?_))|(refine k_load ?_;(refine ox_load (b:=mb) (i:=10) rfl rfl ?_;rw [ho]))|(refine k_fn 58 ?_;(refine o1_call (fun _=>code_Of _ x.m) rfl (fun _ _=>?_);rw [hpar,hmay]))|(refine k_fn 77 ?_;(refine o1_call (fun _=>packet_Fits _ s id st.p.s st.p.k st.p.p st.p.z _ _ _) rfl (fun _ _=>?_);rw [hfit]))|refine ow ?_|refine ow2 ?_ ?_|fail)
 refine st_stages' [(5,_),(6,_)] rtD29_0 [8] [⟨[0,1,2,3,4,5,6,7],[],some 8⟩,⟨[9],[],none⟩] mixed cv (by kernel_rfl) (by kernel_rfl) ?_
 repeat' (first|intro _|refine sg ?_|(refine p_load ?_;refine po (by first|refine ox_load (b:=mb) (i:=17) rfl rfl fz|refine ox_load (b:=b6) (i:=1) rfl rfl fz|refine ox_load (b:=b6) (i:=2) rfl rfl fz|fail) ?_)|refine pw ?_|refine pdd ?_|(refine k_fn 78 ?_;(refine o1_call_to (.any (stP st fb sb)::fB fb ad c f h::fR ad c f::[dvB db fb ka kn kc (pM mb),meB mb x (some ⟨sb,0,none⟩),.row 5 1 (.slice a18 xs.length c18) xs.length (xs.map B),.any (stars H)]) (Ent.out ent) (fun hh=>so_Put _ st fb sb ad c f h id v a18 xs.length c18 xs hp.ok hR htk hv (rx_row (T:=5) (ad:=a18) (c:=c18) (l:=xs) (has_tail (has_tail (has_tail hh)))) rfl hz hk hd hn ht.up) rfl (fun h1 hk1=>?_);(rw [hput] at hk1 ⊢;dsimp only at hk1 ⊢)))|refine ow ?_|fail)
 all_goals dsimp only [List.cons_append,List.nil_append]
 repeat' (first|intro _|refine cw ?_|refine cw2 ?_ ?_|(refine k_binOp .neq ?_;refine o1_neq_t rfl rfl hne ?_)|refine ow ?_|refine ow2 ?_ ?_|fail)
 refine rt_tmp h1 rfl rfl rfl hk1 ?_
 exact ent
set_option maxHeartbeats 8000000 in
theorem dv_takes_fin_no (H:List Hl) (db fb:Nat) (ka:Option Addr) (kn kc:Nat) (mb:Nat) (x:StD) (sb:Nat) (ad2:Option Addr) (m2 c2:Nat) (s id:BitVec 32) (xs:List (BitVec 8)) (hb:Rs (stars H) B ad2 c2 (symB s id xs)) (hm2:m2=xs.length+8) (hx1:1≤xs.length) (hx2:xs.length≤16) (ad:Option Addr) (c:Nat) (f:Fl) (h:Hid) (st:Sto) (len:Nat) (v:List Bool) (ho:x.on=true) (hp:IsP x.m st.p len) (hs:s=st.p.s) (hz:xs.length=st.p.z) (hR:RR st.p.n st.p.z st.d.M) (htk:st.d.t≤1000) (hv:SpRow st.p id v) (hk:FlOk f h) (hd:f.pw.isDown=false) (hn:st.nxt≤8*plW st.p.z) (ht:TabF (stars H)) (f1:Fl) (st1:Sto) (hput:putS st f id v xs=(st1,f1,0)) (hp1:st1.p.ok) (hb1:cntS st1.d.M≤1000) (hnd:cntS st1.d.M=st1.p.n) (im:List (BitVec 8)) (hR1:RR st1.p.n st1.p.z st1.d.M) (hl:count st1.len st1.p.z=st1.p.k) (him:imgB st1.p st1.d st1.len=im) (hi1:1≤im.length) (hi2:im.length≤512) (hsh:sha im=x.m.h.l) (hd1:f1.pw.isDown=false) (hm:x.may=true) (htr:x.t=0) (hx:x.Rd (stars H)) (f2:Fl) (e:Int) (hF:finF f1 x im=(f2,e)) (hne:e≠0) :
  Spec Tryz.prog 37 [.pointer (some ⟨db,0,none⟩),.slice ad2 m2 c2] (dvB db fb ka kn kc (pM mb)::meB mb x (some ⟨sb,0,none⟩) :: .any (stP st fb sb)::fB fb ad c f h::fR ad c f::H) (fun h2:Hid=>FlOk f2 h2) (fun _=>I e) (fun r=>dvB db fb ka kn kc (pM mb)::fB fb ad c f2 r::fR ad c f2::H):=by
 refine spec_fn (res:=fun r:Hid=>[dvB db fb ka kn kc (pM mb),fB fb ad c f2 r,fR ad c f2]) [dvB db fb ka kn kc (pM mb),meB mb x (some ⟨sb,0,none⟩),.any (stP st fb sb),fB fb ad c f h,fR ad c f] H Tryz.func37 rfl Tryz.ntmps37 (by kernel_rfl) rfl (fun W=>?_)
 dsimp only [List.cons_append,List.nil_append]
 obtain ⟨hpar,hmay⟩:=isP_par hp
 have hfit:fitsP st.p.k st.p.p st.p.z s st.p.s xs.length=0:=by rw [hs];exact fits_0 hp.ok (by rw [hz])
 have hn0:((st1.p.n:Int) - cntS st1.d.M)=0:=by rw [hnd];omega
 repeat' (first|intro _|refine cw ?_|refine cw2 ?_ ?_|(refine k_fn 33 ?_;refine o1_call (fun _=>dv_LoadH db fb ka kn kc mb x (some ⟨sb,0,none⟩)) rfl (fun _ _=>?_))|(refine k_fn 76 ?_;(refine o1_call (fun _=>packet_Parse_sym _ ad2 c2 m2 s id xs hb.up hm2 hx1 hx2) rfl (fun ⟨a18,c18⟩ _=>?_);(try dsimp only)))|(refine k_alloc ?_;refine o1_alloc rfl (fun b6=>?_))|(refine k_load ?_;(refine ox_load (b:=mb) (i:=10) rfl rfl ?_;rw [ho]))|(refine k_fn 58 ?_;(refine o1_call (fun _=>code_Of _ x.m) rfl (fun _ _=>?_);rw [hpar,hmay]))|(refine k_fn 77 ?_;(refine o1_call (fun _=>packet_Fits _ s id st.p.s st.p.k st.p.p st.p.z _ _ _) rfl (fun _ _=>?_);rw [hfit]))|refine ow ?_|refine ow2 ?_ ?_|fail)
 refine st_stages' [(5,_),(6,_)] rtD29_3 [8] [⟨[0,1,2,3,4,5,6,7],[],some 8⟩,⟨[9],[],none⟩] mixed cv (by kernel_rfl) (by kernel_rfl) ?_
 repeat' (first|intro _|refine sg ?_|(refine p_load ?_;refine po (by first|refine ox_load (b:=mb) (i:=17) rfl rfl fz|refine ox_load (b:=b6) (i:=1) rfl rfl fz|refine ox_load (b:=b6) (i:=2) rfl rfl fz|fail) ?_)|refine pw ?_|refine pdd ?_|(refine k_fn 78 ?_;(refine o1_call_to (.any (stP st fb sb)::fB fb ad c f h::fR ad c f::[dvB db fb ka kn kc (pM mb),meB mb x (some ⟨sb,0,none⟩),.row 5 1 (.slice a18 xs.length c18) xs.length (xs.map B),.any (stars H)]) (Ent.out ent) (fun hh=>so_Put _ st fb sb ad c f h id v a18 xs.length c18 xs hp.ok hR htk hv (rx_row (T:=5) (ad:=a18) (c:=c18) (l:=xs) (has_tail (has_tail (has_tail hh)))) rfl hz hk hd hn ht.up) rfl (fun h1 hk1=>?_);(rw [hput] at hk1 ⊢;dsimp only at hk1 ⊢)))|refine ow ?_|fail)
 all_goals dsimp only [List.cons_append,List.nil_append]
 repeat' (first|intro _|refine cw ?_|refine cw2 ?_ ?_|(refine k_load ?_;refine ox_load (b:=mb) (i:=17) rfl rfl ?_)|(refine k_fn 79 ?_;(refine o1_call_a (stP st1 fb sb) (fun _=>so_Needs _ st1 fb sb hp1 hb1) rfl (fun _ _=>?_);rw [hn0]))|(refine k_fn 80 ?_;refine o1_call_to (dvB db fb ka kn kc (pM mb)::meB mb x (some ⟨sb,0,none⟩) :: .any (stP st1 fb sb)::fB fb ad c f1 h1::fR ad c f1::[.any (stars H)]) (Ent.out ent) (fun _=>dv_fin_no _ db fb ka kn kc mb sb ad c f1 f2 e h1 x st1 im hm ho htr ⟨hx.s0.up,hx.s1.up,hx.m.up⟩ hk1 hd1 hp1 hR1 hnd hl him hi1 hi2 hsh hF hne) rfl (fun h2 hk2=>?_))|refine ow ?_|refine ow2 ?_ ?_|fail)
 refine rt_tmp h2 rfl rfl rfl hk2 ?_
 exact ent
def dvO (key:List (BitVec 8)) (f:Fl) (db:Nat):Hp→Prop:=Som (DvK key f) (fun l=>[dvA db key l none,flA f l,frA f l,.any l.A])
section
variable {P:Program} {k:Kon} {n:Nat} {e:Ev} {W:World} {H R:List Hl} {key:List (BitVec 8)} {f:Fl} {s:StD} {st:Sto} {db:Nat}
theorem rt_dvO (l:Lay) (hl:DvK key f l) (hE:Ent H (dvA db key l none::flA f l::frA f l :: .any l.A::R)) (h:Rt P k n e W (.any (dvO key f db)::R)):Rt P k n e W H:=rt_hide (p:=DvK key f) (L:=fun l=>[dvA db key l none,flA f l,frA f l,.any l.A]) l hl hE h
end
set_option maxHeartbeats 8000000 in
theorem pk_takes_cut (H:List Hl) (db:Nat) (key:List (BitVec 8)) (f:Fl) (s:StD) (st:Sto) (ad2:Option Addr) (m2 c2:Nat) (b:List (BitVec 8)) (hb:Rs (stars H) B ad2 c2 (frameB 2#8 b)) (hm2:m2=b.length+9) (hbl:b.length≤291) (hb1:1≤b.length) (hkl:key.length≤64) (ss id:BitVec 32) (xs:List (BitVec 8)) (hsym:symB ss id xs=b) (hx1:1≤xs.length) (hx2:xs.length≤16) (len:Nat) (v:List Bool) (ho:s.on=true) (hp:IsP s.m st.p len) (hss:ss=st.p.s) (hz:xs.length=st.p.z) (hR:RR st.p.n st.p.z st.d.M) (htk:st.d.t≤1000) (hv:SpRow st.p id v) (hd:f.pw.isDown=false) (hn:st.nxt≤8*plW st.p.z) (ht:TabF (stars H)) (f1:Fl) (hput:putS st f id v xs=(st,f1,11)) :
  Spec Tryz.prog 12 [.pointer (some ⟨db,0,none⟩),.slice ad2 m2 c2] (.any (dvL key f s st db)::H) (fun _:Unit=>True) (fun _=>I 11) (fun _ => .any (dvO key f1 db)::H):=by
 refine Spec.som (by kernel_rfl) (fun ⟨fb,ad,c,h,mb,sb,ka,kc,x,A⟩ hl0=>?_)
 obtain ⟨hk,hkey,hx,hnf⟩:=hl0
 dsimp only at hk hkey hx hnf
 subst hnf
 show Spec _ _ _ ([dvB db fb ka key.length kc (pM mb),meB mb x (some ⟨sb,0,none⟩),.any (stP st fb sb),fB fb ad c f h,fR ad c f,.any A]++H) _ _ _
 refine spec_fn (res:=fun _:Unit=>[.any (dvO key f1 db)]) [dvB db fb ka key.length kc (pM mb),meB mb x (some ⟨sb,0,none⟩),.any (stP st fb sb),fB fb ad c f h,fR ad c f,.any A] H Tryz.func12 rfl Tryz.ntmps12 (by kernel_rfl) rfl (fun W=>?_)
 dsimp only [List.cons_append,List.nil_append]
 have hml:b.length=xs.length+8:=by rw [←hsym];simp [symB,be4]
 repeat' (first|intro _|refine cw ?_|refine cw2 ?_ ?_|refine o1_peql rfl rfl ?_|(refine k_fn 33 ?_;refine o1_call (fun _=>dv_LoadH db fb ka key.length kc mb x (some ⟨sb,0,none⟩)) rfl (fun _ _=>?_))|(refine k_fn 34 ?_;(refine o1_call (fun _=>fr_Unwrap _ 2#8 ad2 m2 c2 b hb.up hm2 hbl hb1) rfl (fun ⟨a18,c18⟩ _=>?_);(try dsimp only);rw [show (((2#8:BitVec 8).toNat:Nat):Int)=2 from rfl]))|(refine k_fn 37 ?_;(refine o1_call_to (dvB db fb ka key.length kc (pM mb)::meB mb x (some ⟨sb,0,none⟩) :: .any (stP st fb sb)::fB fb ad c f h::fR ad c f::[.row 5 1 (.slice a18 (b.length+3) c18) (b.length+3) ((innB 2#8 b).map B),.any A,.any (stars H)]) (Ent.out ent) (fun hh=>dv_takes_no _ db fb ka key.length kc mb x sb (cutA a18 c18 3) b.length (c18 - 3) ss id xs (rx_cutl (T:=5) (ad:=a18) (c:=c18) (n:=b.length+3) (l:=innB 2#8 b) (enc:=B) 3 (by rw [innB_len];omega) ((inn_drop _ _).trans hsym.symm) (has_tail (has_tail (has_tail (has_tail (has_tail hh)))))) hml hx1 hx2 ad c f h st len v ho ⟨hp.ok,hp.es,hp.en,hp.ez,hp.ep,hp.ec⟩ hss hz hR htk hv hk hd hn ht.up f1 11 hput (by decide)) rfl (fun h1 hk1=>?_);(try dsimp only)))|(refine k_fn 35 ?_;refine o1_call_box (b:=db) (fun _=>dv_met_down _ db fb ka key.length kc (pM mb)) rfl (fun _ _=>?_))|refine ow ?_|refine ow2 ?_ ?_|fail)
 refine rt_dvO (l:=⟨fb,ad,c,h1,mb,sb,ka,kc,x,A⟩) (R:=[.any (stars H)]) ⟨hk1,hkey⟩ ent ?_
 refine rt_tmp () rfl rfl rfl trivial ?_
 exact ent
set_option maxHeartbeats 8000000 in
theorem pk_takes_fin_no (H:List Hl) (db:Nat) (key:List (BitVec 8)) (f:Fl) (s:StD) (st:Sto) (ad2:Option Addr) (m2 c2:Nat) (b:List (BitVec 8)) (hb:Rs (stars H) B ad2 c2 (frameB 2#8 b)) (hm2:m2=b.length+9) (hbl:b.length≤291) (hb1:1≤b.length) (hkl:key.length≤64) (ss id:BitVec 32) (xs:List (BitVec 8)) (hsym:symB ss id xs=b) (hx1:1≤xs.length) (hx2:xs.length≤16) (len:Nat) (v:List Bool) (ho:s.on=true) (hp:IsP s.m st.p len) (hss:ss=st.p.s) (hz:xs.length=st.p.z) (hR:RR st.p.n st.p.z st.d.M) (htk:st.d.t≤1000) (hv:SpRow st.p id v) (hd:f.pw.isDown=false) (hn:st.nxt≤8*plW st.p.z) (ht:TabF (stars H)) (f1:Fl) (st1:Sto) (hput:putS st f id v xs=(st1,f1,0)) (hp1:st1.p.ok) (hb2:cntS st1.d.M≤1000) (hnd:cntS st1.d.M=st1.p.n) (im:List (BitVec 8)) (hR1:RR st1.p.n st1.p.z st1.d.M) (hl:count st1.len st1.p.z=st1.p.k) (him:imgB st1.p st1.d st1.len=im) (hi1:1≤im.length) (hi2:im.length≤512) (hsh:sha im=s.m.h.l) (hd1:f1.pw.isDown=false) (hms:s.may=true) (htr:s.t=0) (f2:Fl) (hF:finF f1 s im=(f2,11)) :
  Spec Tryz.prog 12 [.pointer (some ⟨db,0,none⟩),.slice ad2 m2 c2] (.any (dvL key f s st db)::H) (fun _:Unit=>True) (fun _=>I 11) (fun _ => .any (dvO key f2 db)::H):=by
 refine Spec.som (by kernel_rfl) (fun ⟨fb,ad,c,h,mb,sb,ka,kc,x,A⟩ hl0=>?_)
 obtain ⟨hk,hkey,hx,hnf⟩:=hl0
 dsimp only at hk hkey hx hnf
 subst hnf
 show Spec _ _ _ ([dvB db fb ka key.length kc (pM mb),meB mb x (some ⟨sb,0,none⟩),.any (stP st fb sb),fB fb ad c f h,fR ad c f,.any A]++H) _ _ _
 refine spec_fn (res:=fun _:Unit=>[.any (dvO key f2 db)]) [dvB db fb ka key.length kc (pM mb),meB mb x (some ⟨sb,0,none⟩),.any (stP st fb sb),fB fb ad c f h,fR ad c f,.any A] H Tryz.func12 rfl Tryz.ntmps12 (by kernel_rfl) rfl (fun W=>?_)
 dsimp only [List.cons_append,List.nil_append]
 have hml:b.length=xs.length+8:=by rw [←hsym];simp [symB,be4]
 have hmx:x.may=true:=by rw [←hms,nf_may]
 rw [nf_fin] at hF
 have hF2:finF f1 x im=(f2,11):=hF
 repeat' (first|intro _|refine cw ?_|refine cw2 ?_ ?_|refine o1_peql rfl rfl ?_|(refine k_fn 33 ?_;refine o1_call (fun _=>dv_LoadH db fb ka key.length kc mb x (some ⟨sb,0,none⟩)) rfl (fun _ _=>?_))|(refine k_fn 34 ?_;(refine o1_call (fun _=>fr_Unwrap _ 2#8 ad2 m2 c2 b hb.up hm2 hbl hb1) rfl (fun ⟨a18,c18⟩ _=>?_);(try dsimp only);rw [show (((2#8:BitVec 8).toNat:Nat):Int)=2 from rfl]))|(refine k_fn 37 ?_;(refine o1_call_to (dvB db fb ka key.length kc (pM mb)::meB mb x (some ⟨sb,0,none⟩) :: .any (stP st fb sb)::fB fb ad c f h::fR ad c f::[.row 5 1 (.slice a18 (b.length+3) c18) (b.length+3) ((innB 2#8 b).map B),.any A,.any (stars H)]) (Ent.out ent) (fun hh=>dv_takes_fin_no _ db fb ka key.length kc mb x sb (cutA a18 c18 3) b.length (c18 - 3) ss id xs (rx_cutl (T:=5) (ad:=a18) (c:=c18) (n:=b.length+3) (l:=innB 2#8 b) (enc:=B) 3 (by rw [innB_len];omega) ((inn_drop _ _).trans hsym.symm) (has_tail (has_tail (has_tail (has_tail (has_tail hh)))))) hml hx1 hx2 ad c f h st len v ho ⟨hp.ok,hp.es,hp.en,hp.ez,hp.ep,hp.ec⟩ hss hz hR htk hv hk hd hn ht.up f1 st1 hput hp1 hb2 hnd im hR1 hl him hi1 hi2 hsh hd1 hmx htr ⟨hx.s0.up,hx.s1.up,hx.m.up⟩ f2 11 hF2 (by decide)) rfl (fun h2 hk2=>?_);(try dsimp only)))|(refine k_fn 35 ?_;refine o1_call_box (b:=db) (fun _=>dv_met_down _ db fb ka key.length kc (pM mb)) rfl (fun _ _=>?_))|refine ow ?_|refine ow2 ?_ ?_|fail)
 refine rt_dvO (l:=⟨fb,ad,c,h2,mb,sb,ka,kc,x,A⟩) (R:=[.any (stars H)]) ⟨hk2,hkey⟩ ent ?_
 refine rt_tmp () rfl rfl rfl trivial ?_
 exact ent
theorem dv_Flash (H:List Hl) (db fb:Nat) (hf:Cl (stars H) ⟨db,1,none⟩ (.pointer (some ⟨fb,0,none⟩))) :
  Spec Tryz.prog 18 [.pointer (some ⟨db,0,none⟩)] H (fun _:Unit=>True) (fun _ => .pointer (some ⟨fb,0,none⟩)) (fun _=>H):=by
 refine spec_pure (res:=fun _=>[]) H Tryz.func18 rfl Tryz.ntmps18 (by kernel_rfl) rfl (fun W=>?_)
 repeat' (first|intro _|refine cw ?_|refine cw2 ?_ ?_|refine o1_peql rfl rfl ?_|(refine k_load ?_;refine ox_load_any rfl hf ?_)|refine ow ?_|refine ow2 ?_ ?_|fail)
 refine rt_tmp () rfl rfl rfl trivial ?_
 exact ent
theorem nf_start (s:StD):nf (startS s)=startS (nf s):=rfl
end Go.Dp
namespace Go.Dp
open Go.RowKit Sha
theorem dev_cell {f:Fl} {n:Nat} {s s1:StD} {im:List (BitVec 8)} (h:DevF f n s im) (hn:n<90) (h1:s1.may=true) :
  ∃ f1,cellW f s1.by=(f1,0)∧Few f1 (n+1)∧f1.pw = .on∧f1.wear=100∧(∃ k w,k≤n+1∧CellIs f1.bs k s1.by w)∧(∀ a m,512≤a→seg f1.bs a m=seg f.bs a m):=by
 obtain ⟨k,w,hk,hcell⟩:=h.cell
 obtain ⟨st,so,sc⟩:=cellW_out (q:=s1.by) hcell h.few (by rw [h.wr];omega) h.up (by_245 h1) (by omega)
 obtain ⟨⟨f1,v1⟩,hr⟩:∃ r,cellW f s1.by=r:=⟨_,rfl⟩
 rw [hr] at st so sc ⊢
 dsimp only at st so sc ⊢
 have hon:=st.on h.on
 rcases sc with ⟨e0,_,e2⟩|⟨_,e1,_⟩
 ·subst e0
  exact ⟨f1,rfl,st.few,hon,st.wear.trans h.wr,⟨k+1,1 - w,by omega,e2⟩,so⟩
 ·rw [hon] at e1;cases e1
structure Dev2 (f:Fl) (n:Nat) (s:StD) (im im2:List (BitVec 8)):Prop where
 d:DevF f n s im
 n2:s.oth.n=im2.length
 s2:seg f.bs (slotA (1 - s.a).toNat) im2.length=im2
 b2:1≤im2.length∧im2.length≤512
 off:s.on=false
structure Booted (j:Nat) (v0 v1:BitVec 32) (s:StD):Prop where
 t:s.t=if j<3 then 3 - (j:Int) else 0
 a:s.a=if j<3 then 1 else 0
 f:s.f=0#32
 c0:s.s0.v=v0
 c1:s.s1.v=v1
 nf:nf s=s
theorem Booted.succ {j:Nat} {v0 v1:BitVec 32} {s:StD} (h:Booted j v0 v1 s):Booted (j+1) v0 v1 (startS s):=by
 have ht:=h.t
 have ha:=h.a
 refine ⟨?_,?_,h.f,h.c0,h.c1,by rw [nf_start,h.nf]⟩
 ·show (if s.t=0 then 0 else s.t - 1)=_
  split at ht <;> split <;> split <;> omega
 ·show (if s.t=1 then 1 - s.a else s.a)=_
  split at ht <;> split at ha <;> split <;> split <;> omega
def Dev2B (j:Nat) (f:Fl) (n:Nat) (s:StD) (old new:List (BitVec 8)):Prop:=if j<3 then Dev2 f n s new old else Dev2 f n s old new
theorem Dev2B.dev {j:Nat} {f:Fl} {n:Nat} {s:StD} {old new:List (BitVec 8)} (h:Dev2B j f n s old new):DevF f n s (if j<3 then new else old)∧s.on=false:=by
 unfold Dev2B at h
 split at h
 ·rename_i hj;rw [if_pos hj];exact ⟨h.d,h.off⟩
 ·rename_i hj;rw [if_neg hj];exact ⟨h.d,h.off⟩
end Go.Dp
namespace Go.Dp
def recF (g:BitVec 32) (r:Rec):List (BitVec 8):=recB g r.1 r.2++[0#8]
theorem recC_mark {g:BitVec 32} {z:Nat} {S:List (BitVec 8)} {y:BitVec 8} (h:S[z+12]?=some y) (hy:y≠0#8):recC g z S=none:=by
 unfold recC
 rw [if_pos (by rw [List.getD_eq_getElem?_getD,h];exact hy)]
theorem recC_whole {g:BitVec 32} {z:Nat} {r:Rec} (hz:r.2.length=z):recC g z (recF g r)=some r:=by
 have hR:(recB g r.1 r.2).length=z+12:=by rw [recB_len,hz]
 have e1:(recF g r).take (z+12)=recB g r.1 r.2:=List.take_left' hR
 have e0:(recF g r).getD (z+12) 0#8=0#8:=by
  rw [recF,List.getD_eq_getElem?_getD,List.getElem?_append_right (by omega),hR,Nat.sub_self];rfl
 have e4:(recF g r).take 4=be4 g:=by
  rw [←recB_take g r.1 r.2,←e1,List.take_take,Nat.min_eq_left (by omega)]
 have e8:seg (recF g r) 4 4=be4 r.1:=by
  unfold seg recF recB crcPut
  simp only [List.append_assoc]
  rw [List.drop_left' (be4_len g),List.take_left' (be4_len _)]
 have ed:seg (recF g r) 8 z=r.2:=by
  unfold seg recF recB crcPut
  simp only [List.append_assoc]
  rw [←List.append_assoc,List.drop_left' (by simp [be4_len]),List.take_left' hz]
 have hc:crcOk ((recF g r).take (z+12))=true:=by rw [e1];exact crcOk_put _
 unfold recC
 rw [if_neg (by rw [e0];simp),if_neg (by rw [hc];simp),if_neg (by rw [e4,num32_be4];simp),e8,num32_be4,ed]
theorem recF_take (g:BitVec 32) (r:Rec):(recF g r).take 4=be4 g:=by
 rw [←recB_take g r.1 r.2,recF,List.take_append_of_le_length (by rw [recB_len];omega)]
theorem recF_ink (g:BitVec 32) (r:Rec):blankB (recF g r)=false:=by
 unfold recF blankB
 rw [List.all_append]
 simp
theorem atW_eq {z s j:Nat} (hj:j<plW z):atW z (plW z*s+j)=(6+s)*256+j*(z+13):=by
 unfold atW
 rw [Nat.mul_add_div (by omega),Nat.div_eq_of_lt hj,Nat.mul_add_mod,Nat.mod_eq_of_lt hj,Nat.add_zero]
theorem pl_split (z p:Nat) (h:0<plW z):∃ s j,p=plW z*s+j∧j<plW z:=⟨p / plW z,p % plW z,(Nat.div_add_mod p _).symm,Nat.mod_lt _ h⟩
theorem atW_in {z j:Nat} (h1:1≤z) (h2:z≤16) (hj:j<plW z):j*(z+13)+(z+13)≤256:=by
 have w3:=(plW_b h1 h2).2.2
 have:(j+1)*(z+13)≤plW z*(z+13):=Nat.mul_le_mul_right _ hj
 rw [Nat.succ_mul] at this
 omega
theorem atW_step {z:Nat} (p:Nat) (h1:1≤z) (h2:z≤16):atW z p+(z+13)≤atW z (p+1):=by
 obtain ⟨w1,w2,w3⟩:=plW_b h1 h2
 obtain ⟨s,j,rfl,hj⟩:=pl_split z p (by omega)
 have hjz:=atW_in h1 h2 hj
 rw [atW_eq hj]
 by_cases e:j+1<plW z
 ·rw [Nat.add_assoc (plW z*s),atW_eq e,Nat.succ_mul];omega
 ·have:plW z*s+j+1=plW z*(s+1)+0:=by rw [Nat.mul_add];omega
  rw [this,atW_eq (by omega)];omega
theorem atW_lt {z p:Nat} (h1:1≤z) (h2:z≤16):∀ q,p<q→atW z p+(z+13)≤atW z q
 | 0,h=>absurd h (by omega)
 | q+1,h=>by
  have hs:=atW_step q h1 h2
  by_cases e:p=q
  ·rw [e];exact hs
  ·have:=atW_lt h1 h2 (p:=p) q (by omega)
   omega
theorem atW_le {z p q:Nat} (h1:1≤z) (h2:z≤16) (h:p≤q):atW z p≤atW z q:=by
 by_cases e:p=q
 ·rw [e];exact Nat.le_refl _
 ·have:=atW_lt h1 h2 (p:=p) q (by omega);omega
theorem atW_end {z p:Nat} (h1:1≤z) (h2:z≤16) (h:p<8*plW z):1536≤atW z p∧atW z p+(z+13)≤3584:=by
 obtain ⟨w1,w2,w3⟩:=plW_b h1 h2
 obtain ⟨s,j,rfl,hj⟩:=pl_split z p (by omega)
 have hjz:=atW_in h1 h2 hj
 have hs:s<8:=by
  rcases Nat.lt_or_ge s 8 with q|q
  ·exact q
  ·have:=Nat.mul_le_mul_left (plW z) q
   omega
 rw [atW_eq hj]
 omega
theorem recsP_take {l:List (BitVec 8)} {g:BitVec 32} {z p:Nat} {L:List Rec}:∀ n,(∀ i,i<n→recAt l g z (p+i)=L[p+i]?)→recsP l g z p n=(L.drop p).take n
 | 0,_=>by simp [recsP]
 | n+1,h=>by
  have ih:=recsP_take n (fun i hi=>h i (by omega))
  have e:=h n (by omega)
  rw [List.take_add_one,List.getElem?_drop]
  unfold recsP
  rw [e,ih]
  cases L[p+n]? with
  | none=>simp
  | some r=>simp
theorem recsW_take {l:List (BitVec 8)} {g:BitVec 32} {z:Nat} {L:List Rec} (h:∀ i,i<8*plW z→recAt l g z i=L[i]?):∀ n,n≤8→recsW l g z n=L.take (n*plW z)
 | 0,_=>by simp [recsW]
 | n+1,hn=>by
  have ih:=recsW_take h n (by omega)
  have hm:n*plW z+plW z≤8*plW z:=by
   have:=Nat.mul_le_mul_right (plW z) hn
   rw [Nat.succ_mul] at this
   exact this
  unfold recsW secOn
  by_cases hp:plW z=0
  ·rw [ih,hp,Nat.mul_zero,Nat.mul_zero]
   split <;> simp [recsP]
  rw [h _ (by omega),ih]
  by_cases hl:n*plW z<L.length
  ·rw [List.getElem?_eq_getElem hl,if_pos (by rfl),recsP_take (L:=L) _ (fun i hi=>h _ (by omega)),Nat.succ_mul,List.take_add]
  ·rw [List.getElem?_eq_none (by omega),if_neg (by simp),List.take_of_length_le (by omega),List.take_of_length_le (by rw [Nat.succ_mul];omega)]
theorem rdyW_at {l:List (BitVec 8)} {g:BitVec 32} {z:Nat} {L:List Rec} (h:∀ i,i<8*plW z→recAt l g z i=L[i]?) (hp:0<plW z):∀ n,n≤8→(L.length=0→rdyW l g z n = -1)∧∀ s,s*plW z<L.length→L.length≤(s+1)*plW z→s<n→rdyW l g z n=(s:Int)
 | 0,_=>⟨fun _=>rfl,fun s _ _ hs=>absurd hs (by omega)⟩
 | n+1,hn=>by
  obtain ⟨i1,i2⟩:=rdyW_at h hp n (by omega)
  have hm:n*plW z+plW z≤8*plW z:=by
   have:=Nat.mul_le_mul_right (plW z) hn
   rw [Nat.succ_mul] at this
   exact this
  unfold rdyW secOn
  rw [h _ (by omega)]
  by_cases hl:n*plW z<L.length
  ·rw [List.getElem?_eq_getElem hl,if_pos (by rfl)]
   refine ⟨fun e=>by omega,fun s h1 h2 h3=>?_⟩
   have:n<s+1:=by
    rcases Nat.lt_or_ge n (s+1) with q|q
    ·exact q
    ·have:=Nat.mul_le_mul_right (plW z) q;omega
   have:s=n:=by omega
   rw [this]
  ·rw [List.getElem?_eq_none (by omega),if_neg (by simp)]
   refine ⟨i1,fun s h1 h2 h3=>i2 s h1 h2 ?_⟩
   rcases Nat.lt_or_ge s n with q|q
   ·exact q
   ·have:=Nat.mul_le_mul_right (plW z) q;omega
theorem backW_at {l:List (BitVec 8)} {z p m:Nat} (hm:m=0∨blankB (seg l (atW z (p+(m - 1))) (z+13))=false):∀ n,m≤n→(∀ i,m≤i→i<n→blankB (seg l (atW z (p+i)) (z+13))=true)→backW l z p n=p+m
 | 0,h,_=>by
  have:m=0:=by omega
  rw [this];rfl
 | n+1,h,hb=>by
  unfold backW
  by_cases e:m=n+1
  ·subst e
   rcases hm with q|q
   ·omega
   ·rw [Nat.add_sub_cancel] at q
    rw [q,if_neg (by simp)]
  ·rw [hb n (by omega) (by omega),if_pos rfl]
   exact backW_at hm n (by omega) (fun i h1 h2=>hb i h1 (by omega))
structure WhC (l:List (BitVec 8)) (g:BitVec 32) (z:Nat) (L:List Rec) (e:Nat):Prop where
 len:l.length=3584
 rc:∀ i r,L[i]?=some r→seg l (atW z i) (z+13)=recF g r
 dz:∀ r∈L,r.2.length=z
 le:L.length≤e
 le2:e≤L.length+1
 no:L.length<e→recAt l g z L.length=none∧blankB (seg l (atW z L.length) (z+13))=false∧(L.length % plW z=0→HeadOk (seg l ((6+L.length / plW z)*256) 256) g.toNat)
 bl:Blank l (atW z e) (3584 - atW z e)
section
variable {l l':List (BitVec 8)} {g:BitVec 32} {z e:Nat} {L:List Rec}
theorem live_at {s m:Nat} (hm0:0<m) (hm:m≤plW z) (hh:num32 (seg l ((6+s)*256) 4)=g):LiveW l g z (s:Int) (s*plW z+m):=by
 refine ⟨fun hf=>?_,fun hf=>?_⟩
 ·by_cases c:m=plW z
  ·rw [c,←Nat.succ_mul,Nat.mul_div_cancel _ (by omega)]
   omega
  ·rw [Nat.add_comm,Nat.add_mul_mod_self_right,Nat.mod_eq_of_lt (by omega)] at hf
   omega
 ·by_cases c:m=plW z
  ·rw [c,←Nat.succ_mul,Nat.mul_mod_left] at hf
   exact absurd rfl hf
  ·have:(s*plW z+m) / plW z=s:=by
    rw [Nat.add_comm,Nat.add_mul_div_right _ _ (by omega),Nat.div_eq_of_lt (by omega),Nat.zero_add]
   rw [this,hh]
   exact ⟨rfl,Nat.le_refl _⟩
theorem WhC.blank (h:WhC l g z L e) (h1:1≤z) (h2:z≤16) {i:Nat} (hi:e≤i) (hi2:i<8*plW z):Blank l (atW z i) (z+13):=by
 have a1:=atW_end h1 h2 hi2
 have a2:=atW_le h1 h2 hi
 exact h.bl.sub a2 (by omega)
theorem WhC.at_ (h:WhC l g z L e) (h1:1≤z) (h2:z≤16):∀ i,i<8*plW z→recAt l g z i=L[i]?:=by
 intro i hi
 cases hr:L[i]? with
 | some r =>
  unfold recAt
  rw [h.rc i r hr,recC_whole (h.dz r (List.mem_of_getElem? hr))]
 | none =>
  have hge:L.length≤i:=List.getElem?_eq_none_iff.1 hr
  by_cases he:e≤i
  ·refine recC_mark (y:=0xff#8) ?_ (by decide)
   rw [seg_get,if_pos (by omega)]
   exact (h.blank h1 h2 he hi).at (by omega) (by omega)
  ·have h3:=h.le2
   have:i=L.length:=by omega
   rw [this]
   exact (h.no (by omega)).1
theorem WhC.head (h:WhC l g z L e) (h1:1≤z) (h2:z≤16) {s:Nat} (hs:s*plW z<L.length):num32 (seg l ((6+s)*256) 4)=g:=by
 have w1:=(plW_b h1 h2).1
 have:=h.rc _ _ (List.getElem?_eq_getElem hs)
 rw [atW_first (by omega)] at this
 have e4:=congrArg (fun x=>x.take 4) this
 rw [recF_take,←seg_zero,seg_seg (by omega),Nat.add_zero] at e4
 rw [e4,num32_be4]
theorem WhC.wh (h:WhC l g z L e) (h1:1≤z) (h2:z≤16):WhOk l g.toNat:=fun s hs=>by
 have w1:=(plW_b h1 h2).1
 have hl:=h.len
 by_cases c1:s*plW z<L.length
 ·refine .inl ?_
  rw [←seg_zero,seg_seg (by omega),Nat.add_zero,h.head h1 h2 c1]
  exact Nat.le_refl _
 ·by_cases c2:e≤s*plW z
  ·refine head_blank (h.bl.sub ?_ ?_)
   ·rw [←atW_first (s:=s) (z:=z) (by omega)]
    exact atW_le h1 h2 c2
   ·have:=atW_le h1 h2 c2
    rw [atW_first (by omega)] at this
    omega
  ·have h3:=h.le2
   have e0:L.length=s*plW z:=by omega
   have e1:=(h.no (by omega)).2.2 (by rw [e0];exact Nat.mul_mod_left _ _)
   rw [e0,Nat.mul_div_cancel _ (by omega)] at e1
   exact e1
theorem WhC.opens (h:WhC l g z L e) (h1:1≤z) (h2:z≤16) (hL:L.length≤40) :
  recsW l g z 8=L∧LiveW l g z (rdyW l g z 8) (nxtW l g z)∧nxtW l g z≤L.length+1:=by
 obtain ⟨w1,w2,w3⟩:=plW_b h1 h2
 have ha:=h.at_ h1 h2
 have hle:=h.le
 have hle2:=h.le2
 have hr:recsW l g z 8=L:=by rw [recsW_take ha 8 (by omega),List.take_of_length_le (by omega)]
 obtain ⟨r1,r2⟩:=rdyW_at ha (by omega) 8 (by omega)
 refine ⟨hr,?_⟩
 obtain ⟨P,hP⟩:∃ P,plW z=P:=⟨_,rfl⟩
 by_cases h0:L.length=0
 ·have e1:=r1 h0
  have e2:nxtW l g z=0:=by unfold nxtW;rw [e1];rfl
  rw [e1,e2]
  exact ⟨live_new _ _ _,by omega⟩
 obtain ⟨s,hs⟩:∃ s,(L.length - 1) / plW z=s:=⟨_,rfl⟩
 have hd:=Nat.div_add_mod (L.length - 1) (plW z)
 have hmo:=Nat.mod_lt (L.length - 1) (show 0<plW z by omega)
 rw [hs] at hd
 have q1:s*plW z<L.length:=by rw [Nat.mul_comm];omega
 have q2:L.length≤(s+1)*plW z:=by rw [Nat.succ_mul,Nat.mul_comm s];omega
 have s8:s<8:=by
  rcases Nat.lt_or_ge s 8 with q|q
  ·exact q
  ·have:=Nat.mul_le_mul_right (plW z) q;omega
 have e1:=r2 s q1 q2 s8
 have hsm:s*plW z+plW z≤8*plW z:=by
  have:=Nat.mul_le_mul_right (plW z) (show s+1≤8 from s8)
  rw [Nat.succ_mul] at this
  exact this
 have ink:∀ i,i<L.length→blankB (seg l (atW z i) (z+13))=false:=fun i hi=>by
  rw [h.rc i _ (List.getElem?_eq_getElem hi)];exact recF_ink _ _
 rw [Nat.succ_mul] at q2
 obtain ⟨m,hm⟩:∃ m,m=if L.length=s*plW z+plW z then plW z else e - s*plW z:=⟨_,rfl⟩
 have hmP:m≤plW z:=by rw [hm];split <;> omega
 have hm0:0<m:=by rw [hm];split <;> omega
 have hmL:s*plW z+m≤L.length+1:=by rw [hm];split <;> omega
 have e2:nxtW l g z=s*plW z+m:=by
  unfold nxtW
  rw [e1,if_neg (by omega),Int.toNat_natCast]
  refine backW_at (.inr ?_) _ hmP (fun i hi1 hi2=>?_)
  ·by_cases c:s*plW z+(m - 1)<L.length
   ·exact ink _ c
   ·have:s*plW z+(m - 1)=L.length:=by omega
    rw [this]
    refine (h.no ?_).2.1
    split at hm <;> omega
  ·rw [blankB_iff (by have:=(atW_end h1 h2 (z:=z) (p:=s*plW z+i) (by omega)).2;rw [h.len];exact this)]
   refine h.blank h1 h2 ?_ (by omega)
   split at hm <;> omega
 have hhead:=h.head h1 h2 q1
 rw [e1,e2]
 exact ⟨live_at hm0 hmP hhead,hmL⟩
theorem WhC.live (h:WhC l g z L e) (h1:1≤z) (h2:z≤16) {n:Nat} (hn:L.length=n+1):LiveW l g z ((n / plW z:Nat):Int) (n+1):=by
 have w1:=(plW_b h1 h2).1
 have hd:=Nat.div_add_mod n (plW z)
 have hm:=Nat.mod_lt n (show 0<plW z by omega)
 have:=live_at (l:=l) (g:=g) (z:=z) (s:=n / plW z) (m:=n % plW z+1) (by omega) (by omega) (h.head h1 h2 (by rw [Nat.mul_comm];omega))
 rw [Nat.mul_comm,show plW z*(n / plW z)+(n % plW z+1)=n+1 by omega] at this
 exact this
theorem WhC.push {r:Rec} (h:WhC l g z L L.length) (h1:1≤z) (h2:z≤16) (hl:l'.length=3584) (lo:∀ i,i<atW z L.length→l'[i]?=l[i]?) (hi:∀ i,atW z L.length+(z+13)≤i→l'[i]?=l[i]?) (hz:r.2.length=z) (hr:seg l' (atW z L.length) (z+13)=recF g r) :
  WhC l' g z (L++[r]) (L.length+1):=by
 have hst:=atW_step L.length h1 h2
 refine ⟨hl,fun i q hq=>?_,fun q hq=>?_,by simp,by simp,fun hh=>absurd hh (by simp),Blank.of fun i i1 i2=>?_⟩
 ·by_cases c:i<L.length
  ·rw [List.getElem?_append_left c] at hq
   rw [←h.rc i q hq]
   have:=atW_lt h1 h2 (p:=i) L.length c
   exact seg_ext fun k k1 k2=>lo k (by omega)
  ·rw [List.getElem?_append_right (by omega)] at hq
   have:i - L.length=0:=by
    rcases Nat.lt_or_ge (i - L.length) 1 with q|q
    ·omega
    ·rw [List.getElem?_eq_none (by simpa using q)] at hq;cases hq
   rw [this] at hq
   have e0:r=q:=by simpa using hq
   have:i=L.length:=by omega
   rw [this,←e0]
   exact hr
 ·rcases List.mem_append.1 hq with c|c
  ·exact h.dz q c
  ·obtain rfl:q=r:=by simpa using c
   exact hz
 ·rw [hi i (by omega)]
  exact h.bl.at (by omega) (by omega)
theorem WhC.torn (h:WhC l g z L L.length) (h1:1≤z) (h2:z≤16) (hL:L.length≤40) (hl:l'.length=3584) (lo:∀ i,i<atW z L.length→l'[i]?=l[i]?) (hi:∀ i,atW z L.length+(z+13)≤i→l'[i]?=l[i]?) (hr:recAt l' g z L.length=none) (hh:L.length % plW z=0→HeadOk (seg l' ((6+L.length / plW z)*256) 256) g.toNat) :
  ∃ e,WhC l' g z L e:=by
 have hst:=atW_step L.length h1 h2
 have w1:=(plW_b h1 h2).1
 have hen:=atW_end h1 h2 (z:=z) (p:=L.length) (by omega)
 have hrc:∀ i r,L[i]?=some r→seg l' (atW z i) (z+13)=recF g r:=fun i r hq=>by
  have c:=(List.getElem?_eq_some_iff.1 hq).1
  rw [←h.rc i r hq]
  have:=atW_lt h1 h2 (p:=i) L.length c
  exact seg_ext fun k k1 k2=>lo k (by omega)
 cases hb:blankB (seg l' (atW z L.length) (z+13)) with
 | true =>
  have hbl:=(blankB_iff (by omega)).1 hb
  refine ⟨L.length,hl,hrc,h.dz,Nat.le_refl _,by omega,fun q=>absurd q (by omega),Blank.of fun i i1 i2=>?_⟩
  by_cases c:i<atW z L.length+(z+13)
  ·exact hbl.at i1 c
  ·rw [hi i (by omega)]
   exact h.bl.at (by omega) (by omega)
 | false =>
  refine ⟨L.length+1,hl,hrc,h.dz,by omega,by omega,fun _=>⟨hr,hb,hh⟩,Blank.of fun i i1 i2=>?_⟩
  rw [hi i (by omega)]
  exact h.bl.at (by omega) (by omega)
end
theorem addW_cut {f:Fl} {n z:Nat} {g:BitVec 32} {rdy:Int} {L:List Rec} {r:Rec} (hf:Few f n) (hd:f.pw.isDown=false) (h:WhC f.bs g z L L.length) (hz:r.2.length=z) (h1:1≤z) (h2:z≤16) (hL:L.length≤40) (hr:LiveW f.bs g z rdy L.length) :
  Stay f (addW f g rdy L.length r.1 r.2).1 n∧(∀ a m,a+m≤1536→seg (addW f g rdy L.length r.1 r.2).1.bs a m=seg f.bs a m) ∧
   (((addW f g rdy L.length r.1 r.2).2=0∧(addW f g rdy L.length r.1 r.2).1.pw.isDown=false∧WhC (addW f g rdy L.length r.1 r.2).1.bs g z (L++[r]) (L.length+1)) ∨
    ((addW f g rdy L.length r.1 r.2).2=11∧(addW f g rdy L.length r.1 r.2).1.pw = .down none∧(WhC (addW f g rdy L.length r.1 r.2).1.bs g z (L++[r]) (L.length+1)∨∃ e,WhC (addW f g rdy L.length r.1 r.2).1.bs g z L e))):=by
 obtain ⟨w1,w2,w3⟩:=plW_b h1 h2
 have hb:=hf.bs
 obtain ⟨n0,hn0⟩:∃ n0,L.length=n0:=⟨_,rfl⟩
 obtain ⟨a,ha⟩:∃ a,atW z n0=a:=⟨_,rfl⟩
 have hen:=atW_end h1 h2 (z:=z) (p:=n0) (by omega)
 rw [ha] at hen
 have hbl0:=h.bl
 rw [hn0,ha] at hbl0
 have hbl:Blank f.bs a (z+13):=hbl0.sub (Nat.le_refl _) (by omega)
 have hfst:n0 % plW z=0→(6+n0 / plW z)*256=a∧Blank f.bs a 256:=fun e=>by
  have:n0=n0 / plW z*plW z:=by have:=Nat.div_add_mod n0 (plW z);rw [Nat.mul_comm];omega
  have e1:=atW_first (z:=z) (s:=n0 / plW z) (by omega)
  rw [←this,ha] at e1
  have s8:n0 / plW z<8:=(Nat.div_lt_iff_lt_mul (by omega)).2 (by omega)
  exact ⟨e1.symm,hbl0.sub (Nat.le_refl _) (by omega)⟩
 have hent:entF f rdy (n0 / plW z)=(f,0):=by
  unfold entF
  by_cases c:n0 % plW z=0
  ·obtain ⟨c1,c2⟩:=hfst c
   have hh:=hr.fresh
   rw [hn0] at hh
   have hne:=hh c
   rw [if_neg (fun e=>hne e.symm),c1,(blankB_iff (by omega)).2 c2,if_pos rfl]
  ·have hh:=hr.mid
   rw [hn0] at hh
   rw [if_pos (hh c).1.symm]
 have hR:(recB g r.1 r.2).length=z+12:=by rw [recB_len,hz]
 obtain ⟨R,hRe⟩:∃ R,recB g r.1 r.2=R:=⟨_,rfl⟩
 have hR4:R.take 4=be4 g:=by rw [←hRe];exact recB_take g r.1 r.2
 have hRF:recF g r=R++[0#8]:=by unfold recF;rw [hRe]
 rw [hRe] at hR
 have hadd:addW f g rdy n0 r.1 r.2=if (progF f a R).2≠0 then progF f a R else progF (progF f a R).1 (a+(z+12)) [0#8]:=by
  unfold addW
  rw [hz,if_neg (by omega),hent,ha,hRe]
  cases hp:f.pw with
  | down q=>rw [hp] at hd;cases hd
  | on=>rfl
  | fuse k=>rfl
 have hWa:∀ {l':List (BitVec 8)},l'.length=3584→(∀ i,i<a→l'[i]?=f.bs[i]?)→(∀ i,a+(z+13)≤i→l'[i]?=f.bs[i]?)→seg l' a (z+13)=recF g r→WhC l' g z (L++[r]) (n0+1):=fun {l'} q1 q2 q3 q4=>by
  have:=WhC.push (l':=l') (r:=r) h h1 h2 q1 (by rw [hn0,ha];exact q2) (by rw [hn0,ha];exact q3) hz (by rw [hn0,ha];exact q4)
  rw [hn0] at this
  exact this
 have hWt:∀ {l':List (BitVec 8)},l'.length=3584→(∀ i,i<a→l'[i]?=f.bs[i]?)→(∀ i,a+(z+13)≤i→l'[i]?=f.bs[i]?)→(∃ y,l'[a+(z+12)]?=some y∧y≠0#8)→((seg l' a 4=be4 g)∨∀ i,a+4≤i→l'[i]?=f.bs[i]?)→∃ e,WhC l' g z L e:=fun {l'} q1 q2 q3 q4 q5=>by
  obtain ⟨y,y1,y2⟩:=q4
  refine WhC.torn (l':=l') h h1 h2 hL q1 (by rw [hn0,ha];exact q2) (by rw [hn0,ha];exact q3) ?_ (fun c=>?_)
  ·rw [hn0]
   unfold recAt
   rw [ha]
   refine recC_mark (y:=y) ?_ y2
   rw [seg_get,if_pos (by omega)]
   exact y1
  ·rw [hn0] at c ⊢
   obtain ⟨c1,c2⟩:=hfst c
   rw [c1]
   rcases q5 with q|q
   ·refine .inl ?_
    rw [←seg_zero,seg_seg (by omega),Nat.add_zero,q,num32_be4]
    exact Nat.le_refl _
   ·refine .inr (.inr fun i i1 i2=>?_)
    rw [seg_get,if_pos i2,q _ (by omega)]
    exact c2.at (by omega) (by omega)
 rw [hn0,hadd]
 obtain ⟨s2,c2⟩:=progF_out (a:=a) (xs:=R) hf (by omega) hd
 obtain ⟨⟨f2,v2⟩,hr2⟩:∃ x,progF f a R=x:=⟨_,rfl⟩
 rw [hr2] at s2 c2 ⊢
 dsimp only at s2 c2 ⊢
 rcases c2 with ⟨v20,d2,b2⟩|⟨v20,d2,j,t,hj,b2⟩
 ·subst v20
  rw [if_neg (by simp)]
  have hb2:=s2.few.bs
  have hone:([0#8]:List (BitVec 8)).length=1:=rfl
  have hR2:seg f2.bs a (z+12)=R:=by
   rw [b2,←hR]
   exact seg_prog_blank (by omega) (hbl.sub (Nat.le_refl _) (by omega))
  have hm2:Blank f2.bs (a+(z+12)) 1:=by
   refine (hbl.sub (b:=a+(z+12)) (m:=1) (by omega) (by omega)).keep ?_
   rw [b2,seg_prog_out (by omega) (by omega)]
  obtain ⟨s3,c3⟩:=progF_out (a:=a+(z+12)) (xs:=[0#8]) s2.few (by rw [hone];omega) d2
  obtain ⟨⟨f3,v3⟩,hr3⟩:∃ x,progF f2 (a+(z+12)) [0#8]=x:=⟨_,rfl⟩
  rw [hr3] at s3 c3 ⊢
  dsimp only at s3 c3 ⊢
  have key:∃ y,f3.bs=progB f2.bs (a+(z+12)) [y]∧((v3=0∧f3.pw.isDown=false∧y=0#8)∨(v3=11∧f3.pw = .down none)):=by
   rcases c3 with ⟨k1,k2,k3⟩|⟨k1,k2,j,t,hj,k3⟩
   ·exact ⟨0#8,k3,.inl ⟨k1,k2,rfl⟩⟩
   ·have:j=0:=by rw [hone] at hj;omega
    subst this
    exact ⟨_,k3,.inr ⟨k1,k2⟩⟩
  obtain ⟨y,b3,ho⟩:=key
  have hy1:([y]:List (BitVec 8)).length=1:=rfl
  have g3:∀ i,f3.bs[i]?=if a≤i∧i<a+(z+13) then f3.bs[i]? else f.bs[i]?:=fun i=>by
   by_cases c:a≤i∧i<a+(z+13)
   ·rw [if_pos c]
   ·rw [if_neg c,b3,progB_get (by rw [hy1];omega),if_neg (by rw [hy1];omega),b2,progB_get (by omega),if_neg (by omega)]
  have lo:∀ i,i<a→f3.bs[i]?=f.bs[i]?:=fun i hi=>by rw [g3 i,if_neg (by omega)]
  have hi':∀ i,a+(z+13)≤i→f3.bs[i]?=f.bs[i]?:=fun i hi=>by rw [g3 i,if_neg (by omega)]
  have hseg:seg f3.bs a (z+13)=R++[y]:=by
   rw [show z+13=z+12+1 by omega,seg_append,b3,seg_prog_out (by rw [hy1];omega) (by omega),hR2]
   have:=seg_prog_blank (l:=f2.bs) (xs:=[y]) (a:=a+(z+12)) (by rw [hy1];omega) hm2
   rw [hy1] at this
   rw [this]
  have hmk:f3.bs[a+(z+12)]?=some y:=by
   have:=congrArg (fun x=>x[z+12]?) hseg
   rw [seg_get,if_pos (by omega),List.getElem?_append_right (by omega),hR,Nat.sub_self] at this
   exact this
  have h4:seg f3.bs a 4=be4 g:=by
   have:=congrArg (fun x=>x.take 4) hseg
   rw [←seg_zero,seg_seg (by omega),Nat.add_zero,List.take_append_of_le_length (by omega),hR4] at this
   exact this
  refine ⟨s2.trans s3,fun b m hm=>seg_ext fun k k1 k2=>lo k (by omega),?_⟩
  rcases ho with ⟨k1,k2,k3⟩|⟨k1,k2⟩
  ·subst k3
   exact .inl ⟨k1,k2,hWa s3.few.bs lo hi' (by rw [hseg,hRF])⟩
  ·refine .inr ⟨k1,k2,?_⟩
   by_cases c:y=0#8
   ·subst c
    exact .inl (hWa s3.few.bs lo hi' (by rw [hseg,hRF]))
   ·exact .inr (hWt s3.few.bs lo hi' ⟨y,hmk,c⟩ (.inl h4))
 ·subst v20
  rw [if_pos (by decide)]
  have hxl:(R.take j++[R.getD j 0#8 ||| t]).length=j+1:=by simp;omega
  obtain ⟨xs,hxs⟩:∃ xs,R.take j++[R.getD j 0#8 ||| t]=xs:=⟨_,rfl⟩
  rw [hxs] at b2 hxl
  have g3:∀ i, ¬ (a≤i∧i<a+(j+1))→f2.bs[i]?=f.bs[i]?:=fun i c=>by
   rw [b2,progB_get (by omega),if_neg (by omega)]
  have lo:∀ i,i<a→f2.bs[i]?=f.bs[i]?:=fun i hi=>g3 i (by omega)
  refine ⟨s2,fun b m hm=>seg_ext fun k k1 k2=>lo k (by omega),.inr ⟨rfl,d2,.inr ?_⟩⟩
  refine hWt s2.few.bs lo (fun i hi=>g3 i (by omega)) ⟨0xff#8,by rw [g3 _ (by omega)];exact hbl.at (by omega) (by omega),by decide⟩ ?_
  by_cases c:j<4
  ·exact .inr fun i hi=>g3 i (by omega)
  ·refine .inl ?_
   have e:=seg_prog_blank (l:=f.bs) (xs:=xs) (a:=a) (by omega) (hbl.sub (Nat.le_refl _) (by omega))
   rw [hxl] at e
   have e2:=congrArg (fun x=>x.take 4) e
   rw [←seg_zero,seg_seg (by omega),Nat.add_zero,←hxs,List.take_append_of_le_length (by rw [List.length_take];omega),List.take_take,Nat.min_eq_left (by omega),hR4] at e2
   rw [b2,←hxs]
   exact e2
open Go.RowKit Sha
structure DevC (f:Fl) (n:Nat) (s:StD) (im:List (BitVec 8)):Prop where
 few:Few f n
 wr:f.wear=100
 cell:∃ k w,k≤n∧CellIs f.bs k s.by w
 may:s.may=true
 cn:s.cur.n=im.length
 slot:seg f.bs (slotA s.a.toNat) im.length=im
 gb:s.g.toNat≤n
theorem DevF.c {f:Fl} {n:Nat} {s:StD} {im:List (BitVec 8)} (h:DevF f n s im):DevC f n s im:=⟨h.few,h.wr,h.cell,h.may,h.cn,h.slot,h.gb⟩
theorem DevC.dev {f:Fl} {n:Nat} {s:StD} {im:List (BitVec 8)} (h:DevC f n s im) (hp:f.pw = .on) (hw:WhOk f.bs s.g.toNat):DevF f n s im:=⟨h.few,hp,h.wr,h.cell,h.may,h.cn,h.slot,hw,h.gb⟩
theorem DevC.same {f f':Fl} {n:Nat} {s:StD} {im:List (BitVec 8)} (h:DevC f n s im) (e1:f'.bs=f.bs) (e2:f'.er=f.er) (e3:f'.wear=f.wear):DevC f' n s im:=by
 obtain ⟨⟨q1,q2,q3⟩,q4,q5,q6,q7,q8,q9⟩:=h
 exact ⟨⟨by rw [e2];exact q1,by rw [e1];exact q2,by rw [e2];exact q3⟩,by rw [e3];exact q4,by rw [e1];exact q5,q6,q7,by rw [e1];exact q8,q9⟩
theorem DevC.b {f:Fl} {n:Nat} {s:StD} {im:List (BitVec 8)} (h:DevC f n s im):1≤im.length∧im.length≤512:=by
 have:=StD.may_cn h.may
 simp only [SlotD.something,decide_eq_true_eq] at this
 have h2:=h.cn
 omega
theorem DevC.found {f:Fl} {n:Nat} {s:StD} {im:List (BitVec 8)} (h:DevC f n s im):∃ k w,foundC f.bs=some ((k,s.by),w):=by
 obtain ⟨k,w,hk,hc⟩:=h.cell
 obtain ⟨kk,_,hf⟩:=hc.found h.few.bs
 exact ⟨kk,w,hf⟩
theorem DevC.runs {f:Fl} {n:Nat} {s:StD} {im:List (BitVec 8)} (h:DevC f n s im):Runs f s.a.toNat im.length:=by
 obtain ⟨kk,w,hf⟩:=h.found
 have ha:=StD.may_a h.may
 refine ⟨⟨kk,s.by,w,s.plain,hf,prs_by h.may,?_,?_⟩,by omega,h.b.2⟩
 ·show s.a=_
  omega
 ·show (s.plain).cur.n=_
  rw [←h.cn]
  unfold StD.cur
  show (if s.a=0 then s.plain.s0 else s.plain.s1).n=_
  split <;> rfl
def recL (p:Prm) (im:List (BitVec 8)) (ids:List (BitVec 32)):List Rec:=ids.map (fun id=>(id,datP p im (unitV p id)))
theorem recL_len (p:Prm) (im:List (BitVec 8)) (ids:List (BitVec 32)):(recL p im ids).length=ids.length:=by simp [recL]
theorem recL_snoc (p:Prm) (im:List (BitVec 8)) (ids:List (BitVec 32)) (id:BitVec 32):recL p im (ids++[id])=recL p im ids++[(id,datP p im (unitV p id))]:=by simp [recL]
theorem whC_nil {l:List (BitVec 8)} {g:BitVec 32} {z:Nat} (hl:l.length=3584) (hz:0<plW z) (h:Blank l 1536 2048):WhC l g z [] 0:=by
 have e:atW z 0=1536:=by unfold atW;rw [Nat.zero_div,Nat.zero_mod];omega
 exact ⟨hl,fun i r q=>by simp at q,fun r hr=>by simp at hr,Nat.le_refl _,by simp,fun q=>absurd q (by simp),by rw [e];exact h⟩
theorem WhC.keep {l l':List (BitVec 8)} {g:BitVec 32} {z e:Nat} {L:List Rec} (h:WhC l g z L e) (h1:1≤z) (h2:z≤16) (hL:L.length≤40) (hl:l'.length=3584) (he:seg l' 1536 2048=seg l 1536 2048):WhC l' g z L e:=by
 have w1:=(plW_b h1 h2).1
 have hle:=h.le
 have hle2:=h.le2
 have hg:∀ i,1536≤i→i<3584→l'[i]?=l[i]?:=fun i i1 i2=>by
  have h1:=seg_get l' 1536 2048 (i - 1536)
  have h2:=seg_get l 1536 2048 (i - 1536)
  rw [if_pos (by omega),show 1536+(i - 1536)=i by omega] at h1 h2
  rw [←h1,←h2,he]
 have hs:∀ a m,1536≤a→a+m≤3584→seg l' a m=seg l a m:=fun a m a1 a2=>seg_ext fun i i1 i2=>hg i (by omega) (by omega)
 refine ⟨hl,fun i r q=>?_,h.dz,h.le,h.le2,fun q=>?_,?_⟩
 ·have:=(List.getElem?_eq_some_iff.1 q).1
  have hen:=atW_end h1 h2 (z:=z) (p:=i) (by omega)
  rw [hs _ _ hen.1 hen.2]
  exact h.rc i r q
 ·have hen:=atW_end h1 h2 (z:=z) (p:=L.length) (by omega)
  obtain ⟨q1,q2,q3⟩:=h.no q
  unfold recAt at q1 ⊢
  rw [hs _ _ hen.1 hen.2]
  refine ⟨q1,q2,fun c=>?_⟩
  have q4:=q3 c
  have h8:L.length / plW z<8:=(Nat.div_lt_iff_lt_mul (by omega)).2 (by omega)
  obtain ⟨d,hd⟩:∃ d,L.length / plW z=d:=⟨_,rfl⟩
  rw [hd] at q4 h8 ⊢
  rw [hs _ _ (by omega) (by omega)]
  exact q4
 ·have hen:=atW_end h1 h2 (z:=z) (p:=e) (by omega)
  exact h.bl.keep (hs _ _ hen.1 (by omega))
theorem dev_takeC {f:Fl} {n:Nat} {s:StD} {im im2:List (BitVec 8)} {p:Prm} {len:Nat} {rdy:Int} {ids:List (BitVec 32)} {id:BitVec 32} (h:DevC f n s im) (hd:f.pw.isDown=false) (hp:p.ok) (hW:WhC f.bs s.g p.z (recL p im2 ids) ids.length) (hL:LiveW f.bs s.g p.z rdy ids.length) (hids:∀ x∈ids,x.toNat<p.k) (hid:id.toNat<p.k) (hnew:id ∉ ids) (hk:ids.length<p.k) (hk2:p.k≤40) :
  ∃ f1,Stay f f1 n∧DevC f1 n s im ∧
   ((putS ⟨p,s.g,len,rdy,ids.length,decU p im2 ids⟩ f id (unitV p id) (datP p im2 (unitV p id))=(⟨p,s.g,len,((ids.length / plW p.z:Nat):Int),(ids++[id]).length,decU p im2 (ids++[id])⟩,f1,0)∧f1.pw.isDown=false∧WhC f1.bs s.g p.z (recL p im2 (ids++[id])) (ids++[id]).length∧LiveW f1.bs s.g p.z ((ids.length / plW p.z:Nat):Int) (ids++[id]).length) ∨
    (putS ⟨p,s.g,len,rdy,ids.length,decU p im2 ids⟩ f id (unitV p id) (datP p im2 (unitV p id))=(⟨p,s.g,len,rdy,ids.length,decU p im2 ids⟩,f1,11)∧f1.pw = .down none∧(WhC f1.bs s.g p.z (recL p im2 (ids++[id])) (ids++[id]).length∨∃ e,WhC f1.bs s.g p.z (recL p im2 ids) e))):=by
 obtain ⟨p1,p2,p3,p4,p5⟩:=hp.out
 obtain ⟨u1,u2,u3⟩:=decU_take (im:=im2) hids hid hnew
 have hwz:(datP p im2 (unitV p id)).length=p.z:=datD_len _ _ _
 have hl:=recL_len p im2 ids
 obtain ⟨st,so,sc⟩:=addW_cut (r:=(id,datP p im2 (unitV p id))) (rdy:=rdy) (L:=recL p im2 ids) h.few hd (by rw [hl];exact hW) hwz p4 p5 (by rw [hl];omega) (by rw [hl];exact hL)
 rw [hl,←recL_snoc] at sc
 rw [hl] at st so
 dsimp only at st so sc
 have hsn:(ids++[id]).length=ids.length+1:=by simp
 obtain ⟨⟨f1,v1⟩,hr⟩:∃ x,addW f s.g rdy ids.length id (datP p im2 (unitV p id))=x:=⟨_,rfl⟩
 rw [hr] at st so sc
 dsimp only at st so sc
 have ha2:=StD.may_a h.may
 have hb:=h.b
 have hDC:DevC f1 n s im:=by
  refine ⟨st.few,st.wear.trans h.wr,?_,h.may,h.cn,?_,h.gb⟩
  ·obtain ⟨k,w,hk,hc⟩:=h.cell
   exact ⟨k,w,hk,hc.keep (so _ _ (by omega))⟩
  ·rw [so _ _ (by unfold slotA;omega)]
   exact h.slot
 refine ⟨f1,st,hDC,?_⟩
 have hput:putS ⟨p,s.g,len,rdy,ids.length,decU p im2 ids⟩ f id (unitV p id) (datP p im2 (unitV p id))=if v1≠0 then (⟨p,s.g,len,rdy,ids.length,decU p im2 ids⟩,f1,v1) else (⟨p,s.g,len,((ids.length / plW p.z:Nat):Int),(ids++[id]).length,decU p im2 (ids++[id])⟩,f1,0):=by
  unfold putS
  dsimp only
  rw [u1,if_neg (by decide),hr,u2,hsn]
 rw [hput,hsn]
 rcases sc with ⟨e0,e1,e2⟩|⟨e0,e1,e2⟩
 ·subst e0
  rw [if_neg (by simp)]
  exact .inl ⟨rfl,e1,e2,e2.live p4 p5 (by rw [recL_len,hsn])⟩
 ·subst e0
  rw [if_pos (by decide)]
  exact .inr ⟨rfl,e1,e2⟩
theorem dev_finC {f:Fl} {n:Nat} {s:StD} {im im2:List (BitVec 8)} (h:DevC f n s im) (hd:f.pw.isDown=false) (hn:n<80) (ho:s.on=true) (ht:s.t=0) (hm:s.m.n=im2.length) (h1:1≤im2.length) (h2:im2.length≤512) :
  ∃ f2,Stay f f2 (n+3)∧(∀ a m,1536≤a→seg f2.bs a m=seg f.bs a m) ∧
   ((finF f s im2=(f2,0)∧f2.pw.isDown=false∧DevC f2 (n+3) (nf (actS s)) im2) ∨
    (finF f s im2=(f2,11)∧f2.pw = .down none∧(DevC f2 (n+3) (nf (actS s)) im2∨DevC f2 (n+3) s im))):=by
 have ha:=StD.may_a h.may
 have hb:=h.b
 have hs:(1 - s.a).toNat<2:=by omega
 obtain ⟨st,so,sc⟩:=slotW_out (s:=(1 - s.a).toNat) (x:=im2) h.few hs h2 (by rw [h.wr];omega) hd
 obtain ⟨⟨f1,v1⟩,hr⟩:∃ r,slotW f (1 - s.a).toNat im2=r:=⟨_,rfl⟩
 rw [hr] at st so sc
 dsimp only at st so sc
 have hsa:1024≤slotA (1 - s.a).toNat+512∧512≤slotA (1 - s.a).toNat∧slotA (1 - s.a).toNat+512≤1536:=by unfold slotA;omega
 obtain ⟨k,w,hk,hc⟩:=h.cell
 have hc1:CellIs f1.bs k s.by w:=hc.keep (so _ _ (by omega))
 have hgb:=h.gb
 have hsl1:seg f1.bs (slotA s.a.toNat) im.length=im:=by
  rw [so _ _ (by unfold slotA;omega)];exact h.slot
 rcases sc with ⟨e0,d1,e2⟩|⟨e0,d1⟩
 rotate_left
 ·subst e0
  refine ⟨f1,st.mono (by omega),fun a m q=>so a m (by omega),.inr ⟨?_,d1,.inr ⟨st.few.mono (by omega),st.wear.trans h.wr,⟨k,w,by omega,hc1⟩,h.may,h.cn,hsl1,by omega⟩⟩⟩
  unfold finF
  rw [hr]
  rfl
 subst e0
 have hmay:(actS s).may=true:=act_may h.may ho ht
 obtain ⟨st2,so2,sc2⟩:=cellW_out (q:=(actS s).by) hc1 st.few (by rw [st.wear,h.wr];omega) d1 (by_245 hmay) (by omega)
 obtain ⟨⟨f2,v2⟩,hr2⟩:∃ r,cellW f1 (actS s).by=r:=⟨_,rfl⟩
 rw [hr2] at st2 so2 sc2
 dsimp only at st2 so2 sc2
 have hfin:finF f s im2=(f2,v2):=by
  unfold finF
  rw [hr]
  dsimp only
  rw [if_neg (by decide),hr2]
 have hby:(nf (actS s)).by=(actS s).by:=rfl
 have hnew:(∃ k w,k≤n+3∧CellIs f2.bs k (actS s).by w)→DevC f2 (n+3) (nf (actS s)) im2:=fun hcc=>by
  refine ⟨st2.few,st2.wear.trans (st.wear.trans h.wr),by rw [hby];exact hcc,by rw [nf_may];exact hmay,?_,?_,by show s.g.toNat≤n+3;omega⟩
  ·have:(nf (actS s)).cur.n=s.m.n:=by
    show (if 1 - s.a=0 then (nf (actS s)).s0 else (nf (actS s)).s1).n=s.m.n
    rcases ha with h0|h0
    ·rw [if_neg (by omega)]
     show (if s.a=0 then newSl s else s.s1).n=s.m.n
     rw [if_pos h0];rfl
    ·rw [if_pos (by omega)]
     show (if s.a=0 then s.s0 else newSl s).n=s.m.n
     rw [if_neg (by omega)];rfl
   rw [this,hm]
  ·show seg f2.bs (slotA (1 - s.a).toNat) im2.length=im2
   rw [so2 _ _ (by omega)]
   exact e2
 refine ⟨f2,st.trans st2,fun a m q=>by rw [so2 a m (by omega),so a m (by omega)],?_⟩
 rw [hfin]
 rcases sc2 with ⟨e0,e1,e4⟩|⟨e0,e1,e4⟩
 ·subst e0
  exact .inl ⟨rfl,e1,hnew ⟨k+1,1 - w,by omega,e4⟩⟩
 ·subst e0
  refine .inr ⟨rfl,e1,?_⟩
  rcases e4 with e4|e4
  ·exact .inl (hnew ⟨k+1,1 - w,by omega,e4⟩)
  ·refine .inr ⟨st2.few,st2.wear.trans (st.wear.trans h.wr),⟨k,w,by omega,e4⟩,h.may,h.cn,?_,by omega⟩
   rw [so2 _ _ (by unfold slotA;omega)]
   exact hsl1
theorem recD_ids {p:Prm} {im:List (BitVec 8)} (hk:p.k≤100):∀ j,j≤p.k→recD p (unitV p) (recL p im (idsN j))=decU p im (idsN j)
 | 0,_=>(decU_nil p im).symm
 | j+1,hj=>by
  have u:=(decU_take (p:=p) (im:=im) (ids:=idsN j) (id:=BitVec.ofNat 32 j) (idsN_lt (by omega) hk) (by rw [ofN_nat (by omega)];omega) (idsN_new (by omega))).2.1
  have ih:=recD_ids (im:=im) hk j (by omega)
  rw [idsN_succ,recL_snoc,←u,←ih]
  unfold recD
  rw [List.foldl_append]
  rfl
theorem open_old {l:List (BitVec 8)} {g:BitVec 32} {p:Prm} {len j e:Nat} {im:List (BitVec 8)} (h:WhC l g p.z (recL p im (idsN j)) e) (hp:p.ok) (hj:j≤p.k) (hk:p.k≤40) :
  ∃ rdy nxt,openS p g len (unitV p) l=⟨p,g,len,rdy,nxt,decU p im (idsN j)⟩∧LiveW l g p.z rdy nxt∧nxt≤j+1∧recsW l g p.z 8=recL p im (idsN j):=by
 obtain ⟨p1,p2,p3,p4,p5⟩:=hp.out
 have hl:(recL p im (idsN j)).length=j:=by rw [recL_len,idsN_len]
 obtain ⟨o1,o2,o3⟩:=h.opens p4 p5 (by omega)
 refine ⟨_,_,?_,o2,by rw [hl] at o3;exact o3,o1⟩
 unfold openS
 rw [o1,recD_ids (by omega) j hj]
theorem dev_takeN {f:Fl} {n:Nat} {s:StD} {im im2:List (BitVec 8)} {p:Prm} {len nxt j:Nat} {rdy:Int} (h:DevF f n s im) (hn:n<90) (hp:p.ok) (hL:LiveW f.bs s.g p.z rdy nxt) (hx:nxt≤41) (hj:j<p.k) (hk:p.k≤40) :
  ∃ f1,putS ⟨p,s.g,len,rdy,nxt,decU p im2 (idsN j)⟩ f (BitVec.ofNat 32 j) (unitV p (BitVec.ofNat 32 j)) (datP p im2 (unitV p (BitVec.ofNat 32 j)))=(⟨p,s.g,len,((nxt / plW p.z:Nat):Int),nxt+1,decU p im2 (idsN (j+1))⟩,f1,0)∧DevF f1 (n+1) s im:=by
 obtain ⟨p1,p2,p3,p4,p5⟩:=hp.out
 obtain ⟨u1,u2,u3⟩:=decU_take (p:=p) (im:=im2) (ids:=idsN j) (id:=BitVec.ofNat 32 j) (idsN_lt (by omega) (by omega)) (by rw [ofN_nat (by omega)];omega) (idsN_new (by omega))
 have hw8:=(plW_b p4 p5).1
 have hwz:(datP p im2 (unitV p (BitVec.ofNat 32 j))).length=p.z:=datD_len _ _ _
 obtain ⟨f1,a1,a2,a3,a4,a5,a6⟩:=addW_on (g:=s.g) (id:=BitVec.ofNat 32 j) (d:=datP p im2 (unitV p (BitVec.ofNat 32 j))) h.few (by rw [h.wr];omega) h.on hwz p4 p5 (by omega) hL h.wh
 have hgb:=h.gb
 have ha2:=StD.may_a h.may
 have hb:=h.b
 refine ⟨f1,?_,⟨a2.few,a3,a2.wear.trans h.wr,?_,h.may,h.cn,?_,a5,by omega⟩⟩
 ·unfold putS
  dsimp only
  rw [u1,if_neg (by decide),a1,if_neg (fun h=>h rfl),u2,idsN_succ]
 ·obtain ⟨k,w,hk,hc⟩:=h.cell
  exact ⟨k,w,by omega,hc.keep (a4 _ _ (by omega))⟩
 ·rw [a4 _ _ (by unfold slotA;omega)]
  exact h.slot
def Fell (f:Fl) (n:Nat) (s:StD) (p:Prm) (im im2:List (BitVec 8)):Prop :=
 (DevC f n (nf (actS s)) im2∧WhOk f.bs s.g.toNat)∨∃ j e,(j+1=p.k∨j=p.k)∧DevC f n s im∧WhC f.bs s.g p.z (recL p im2 (idsN j)) e
theorem DevC.mono {f:Fl} {n m:Nat} {s:StD} {im:List (BitVec 8)} (h:DevC f n s im) (hm:n≤m):DevC f m s im:=by
 obtain ⟨k,w,hk,hc⟩:=h.cell
 exact ⟨h.few.mono hm,h.wr,⟨k,w,by omega,hc⟩,h.may,h.cn,h.slot,Nat.le_trans h.gb hm⟩
theorem fell_run {f:Fl} {n:Nat} {s:StD} {p:Prm} {im im2:List (BitVec 8)} {v:Int} (h:Fell f n s p im im2) (hv:(v=0∧DevC f n (nf (actS s)) im2)∨v=11) :
  ∃ sl run,Runs f sl run.length∧seg f.bs (slotA sl) run.length=run∧((v=0∧run=im2)∨(v=11∧run=im2)∨(v=11∧run=im)):=by
 rcases hv with ⟨e0,hd⟩|e0
 ·exact ⟨_,im2,hd.runs,hd.slot,.inl ⟨e0,rfl⟩⟩
 ·rcases h with ⟨hd,_⟩|⟨j,e,_,hd,_⟩
  ·exact ⟨_,im2,hd.runs,hd.slot,.inr (.inl ⟨e0,rfl⟩)⟩
  ·exact ⟨_,im,hd.runs,hd.slot,.inr (.inr ⟨e0,rfl⟩)⟩
theorem make_blank {im q:List (BitVec 8)} {f1 f2:Fl} (h2:im.length≤512) (hq:q.length≤245) (hS:slotW (newF 100) 0 im=(f1,0)) (hW:cellW f1 q=(f2,0)):Blank f2.bs 1536 2048:=by
 have hfew:Few (newF 100) 0:=⟨rfl,ffL_len _,fun x hx=>by simp [newF] at hx;omega⟩
 have hw:(newF 100).wear=100:=rfl
 have hbl:∀ a n,a+n≤3584→Blank (newF 100).bs a n:=fun a n hh=>Blank.of fun i _ hi=>by
  show (ffL 3584)[i]?=_
  unfold ffL
  rw [List.getElem?_replicate,if_pos (by omega)]
 obtain ⟨st,so,sc⟩:=slotW_out (s:=0) (x:=im) hfew (by decide) h2 (by rw [hw];decide) (on_up rfl)
 obtain ⟨f0,hf0⟩:∃ f0,newF 100=f0:=⟨_,rfl⟩
 have hon0:f0.pw = .on:=by rw [←hf0];rfl
 rw [hf0] at st so hbl hw hS
 rw [hS] at st so
 dsimp only at st so
 rw [show slotA 0=512 from rfl] at so
 have hc0:Blank f1.bs 0 512:=(hbl 0 512 (by omega)).keep (so _ _ (by omega))
 obtain ⟨st2,so2,_⟩:=cellW_first (q:=q) hc0 st.few (by rw [st.wear,hw];decide) (st.on hon0) hq
 rw [hW] at so2
 dsimp only at so2
 exact (hbl 1536 2048 (by omega)).keep (by rw [so2 _ _ (by omega),so _ _ (by omega)])
theorem startF_fuse (f:Fl):(startF (fuseF f none 0)).pw = .on∧(startF (fuseF f none 0)).bs=f.bs∧(startF (fuseF f none 0)).er=f.er∧(startF (fuseF f none 0)).wear=f.wear:=by
 obtain ⟨bs,er,wear,pwr,torn⟩:=f
 cases pwr <;> exact ⟨rfl,rfl,rfl,rfl⟩
theorem fuseF_up {f:Fl} (h:f.pw = .on) (m:Nat) (t:Int):(fuseF f (some m) t).pw.isDown=false∧(fuseF f (some m) t).bs=f.bs∧(fuseF f (some m) t).er=f.er∧(fuseF f (some m) t).wear=f.wear:=by
 obtain ⟨bs,er,wear,pwr,torn⟩:=f
 dsimp only at h
 subst h
 exact ⟨rfl,rfl,rfl,rfl⟩
end Go.Dp
