/-
  decode: what a decoder is; New, Says, Take, Taken, Needs, walked.
  Walks of functions that the laws of this seat reach, as contracts.
  packet.Same and the law PacketOne, walked.
  slices.Clone and packet.Parse, walked.
  Numbers and their bytes; the law PacketBack, walked.
  Functions of the reference: r1.Four, r1.Number, r1.Join, r7.SymbolBytes, r7.ParseSymbol, r7.SameSymbol, r7.May, r7.Fits, walked.
  block.Count, block.Split, block.Join, walked.
  block.Split and block.Join, walked.
  awake of the laws of block; the law BlockCounts, walked.
  r7.Count, r7.Split, r7.JoinPieces and same, walked.
  r7.Split, same, r1.XorBytes and block.Sum, walked.
  block.Sum, walked.
  precode.Pieces, walked.
  Pointers in an atomic cell: stored, loaded, seen as what they are.
  Conditions: those that stand in each theorem.
-/
import Derived.Test.YtcblcmdikhllbaaGreatDoorQTopSwitch3
import Derived.Test.YtcblcmdikhllbaaGreatDoorQTopSwitch6
import Derived.Test.YtcblcmdikhllbaaGreatDoorQTopSwitch8
import Derived.Test.YtcblcmdikhllbaaGreatDoorQTopSwitch4
import Derived.Test.YtcblcmdikhllbaaGreatDoorQTopSwitch5
import Derived.Test.YtcblcmdikhllbaaGreatDoorQTopSwitch1
import Derived.Test.YtcblcmdikhllbaaGreatDoorQTopSwitch2
set_option linter.unusedVariables false
set_option linter.unusedSimpArgs false
namespace Go.Dp
open Go.RowKit Go.Proofs
def rtD22_0:List Row:=[⟨some 5,[],[],none⟩,⟨some 6,[0],[0],none⟩,⟨some 7,[1],[0,1],none⟩,⟨some 8,[2],[0,1,2],some (2,true)⟩,⟨some 9,[3,2],[0,1,2,3],some (2,true)⟩,⟨some 10,[4,2],[0,1,2,3,4],some (2,true)⟩,⟨some 11,[5,2],[0,1,2,3,4,5],some (2,true)⟩,⟨some 12,[2],[0,1,2],some (2,true)⟩,⟨some 13,[7,2],[0,1,2,7],some (2,true)⟩,⟨some 14,[8,2],[0,1,2,7,8],some (2,true)⟩,⟨some 15,[9,2],[0,1,2,7,8,9],some (2,true)⟩,⟨some 16,[2],[0,1,2],some (2,true)⟩,⟨some 17,[10,11,2,2],[0,1,2,7,8,9,10,11],some (2,true)⟩,⟨some 18,[6,12,12,2],[0,1,2,3,4,5,6,7,8,9,10,11,12],some (2,true)⟩,⟨some 19,[2,13],[0,1,2,3,4,5,6,7,8,9,10,11,12,13],none⟩,⟨some 4,[14,13,0,1,2,3,4,5,6,7,8,9,10,11,12,13,14],[0,1,2,3,4,5,6,7,8,9,10,11,12,13,14],none⟩]
def rtD22_1:List Row:=[⟨some 7,[],[],none⟩,⟨some 8,[0],[0],none⟩,⟨some 9,[1],[0,1],none⟩,⟨some 10,[2],[0,1,2],some (2,false)⟩,⟨some 11,[3,2],[0,1,2,3],some (2,false)⟩,⟨some 12,[4,2],[0,1,2,3,4],some (2,false)⟩,⟨some 13,[5,2],[0,1,2,3,4,5],some (2,false)⟩,⟨some 14,[2],[0,1,2],some (2,false)⟩,⟨some 15,[7,2],[0,1,2,7],some (2,false)⟩,⟨some 16,[8,2],[0,1,2,7,8],some (2,false)⟩,⟨some 17,[9,2],[0,1,2,7,8,9],some (2,false)⟩,⟨some 18,[2],[0,1,2],some (2,false)⟩,⟨some 19,[10,11,2,2],[0,1,2,7,8,9,10,11],some (2,false)⟩,⟨some 20,[2],[0,1,2],some (2,false)⟩,⟨some 21,[6,12,13,12,2],[0,1,2,3,4,5,6,7,8,9,10,11,12,13],some (2,false)⟩,⟨some 22,[14,2],[0,1,2,3,4,5,6,7,8,9,10,11,12,13,14],some (2,false)⟩,⟨some 23,[2,15],[0,1,2,3,4,5,6,7,8,9,10,11,12,13,14,15],none⟩]
def rtD22_2:List Row:=[⟨some 5,[],[],none⟩,⟨some 6,[0],[0],none⟩,⟨some 7,[1],[0,1],none⟩,⟨some 8,[2],[0,1,2],none⟩,⟨some 9,[3],[0,1,2,3],none⟩,⟨some 10,[],[],none⟩,⟨some 11,[5],[5],none⟩,⟨some 12,[6],[5,6],none⟩,⟨some 13,[7],[5,6,7],none⟩,⟨some 14,[8,4],[0,1,2,3,4,5,6,7,8],none⟩,⟨some 15,[4,9],[0,1,2,3,4,5,6,7,8,9],none⟩,⟨some 2,[10,9,0,1,2,3,4,5,6,7,8,9,10],[0,1,2,3,4,5,6,7,8,9,10],none⟩]
def rtD22_3:List Row:=[⟨some 9,[],[],none⟩,⟨some 10,[],[],none⟩,⟨some 11,[1],[1],none⟩,⟨some 12,[],[],none⟩,⟨some 13,[3],[3],none⟩,⟨some 14,[2,4,2],[1,2,3,4],none⟩,⟨some 15,[0,5],[0,1,2,3,4,5],none⟩,⟨some 16,[6],[0,1,2,3,4,5,6],none⟩,⟨some 3,[7,5,0,1,2,3,4,5,6,7],[0,1,2,3,4,5,6,7],none⟩]
def rtD22_4:List Row:=[⟨some 24,[],[],none⟩,⟨some 25,[0],[0],none⟩,⟨some 26,[1],[0,1],none⟩,⟨some 27,[2],[0,1,2],none⟩,⟨some 28,[],[],none⟩,⟨some 29,[],[],none⟩,⟨some 30,[5],[5],none⟩,⟨some 31,[6,6],[5,6],none⟩,⟨some 32,[3,4,7],[0,1,2,3,4,5,6,7],none⟩]
theorem elim_AddF (H:List Hl) (bm n z:Nat) (ar:Option Addr) (cr:Nat) (M:List (Option RD)) (v:VD) (ad0:Option Addr) (m0 c0:Nat) (dd:List (BitVec 8)) (ML:List (Option LN)) (hk:MOk n z M) (hML:M.map vw=ML) (hR:RR n z ML) (hv:RdV (stars H) v) (hvn:v.n=n) (hd:Rs (stars H) B ad0 c0 dd) (hm0:m0=dd.length) (hdl:dd.length=z) (ht:TabF (stars H)) :
  Spec Tryz.prog 168 [.pointer (some ⟨bm,0,none⟩),Pv v,.slice ad0 m0 c0] (mB bm n z ar cr (cntS ML)::mR n ar cr M :: .any (mrows M)::H) (fun M':List (Option RD)=>M'.map vw=addF ML (v.l,dd)∧MOk n z M') (fun _ => .bool (decide (firstV (red ML (v.l,dd)).1 ≠ -1))) (fun M'=>mB bm n z ar cr (cntS (addF ML (v.l,dd)))::mR n ar cr M' :: .any (mrows M')::H):=by
 have hvl:v.l.length=n:=by rw [hv.ok.len,hvn]
 have hcn:cntS ML≤1000:=by have h1:=cntS_le ML;have h2:=hR.lok.len;have h3:=hk.n2;omega
 refine Spec.shut (res:=fun M':List (Option RD)=>[mB bm n z ar cr (cntS (addF ML (v.l,dd))),mR n ar cr M',.any (mrows M')]) [mB bm n z ar cr (cntS ML),mR n ar cr M,.any (mrows M)] H ?_
 dsimp only [List.cons_append,List.nil_append]
 rcases add_cases hR (v:=(v.l,dd)) hvl hdl with hold|⟨a,ha,hfree,hRR2,hcnt⟩
 ·rw [addF_old hold,show decide (firstV (red ML (v.l,dd)).1 ≠ -1)=false by rw [hold];simp]
  refine Spec.has (by kernel_rfl) (fun hh=>?_)
  exact (elim_Add_old _ bm n z ar cr (cntS ML) M v ad0 m0 c0 dd ML _ (RdM.own hk hh) hML hv.up hvn hd.up hm0 hdl rfl hold ht.up).mono (fun _ _=>⟨M,⟨hML,hk⟩,rfl,Ent.refl _⟩)
 ·have hne:decide (firstV (red ML (v.l,dd)).1 ≠ -1)=true:=by rw [ha,decide_eq_true_eq];omega
  rw [addF_new ha,hne,hcnt]
  exact elim_Add _ bm n z ar cr (cntS ML) M v ad0 m0 c0 dd ML _ a hk hML hv.up hvn hd.up hm0 hdl rfl ha hfree hcn ht.up
structure Prm where
 s:BitVec 32
 k:Nat
 p:Nat
 z:Nat
abbrev Prm.n (p:Prm):Nat:=p.k+p.p
abbrev Prm.ok (p:Prm):Prop:=mayP p.k p.p p.z=true
theorem Prm.ok.out {p:Prm} (h:p.ok):1≤p.k∧p.k≤64∧p.p≤16∧1≤p.z∧p.z≤16:=by
 have h:decide (1≤(p.k:Int)∧(p.k:Int)≤64∧0≤(p.p:Int)∧(p.p:Int)≤16∧1≤(p.z:Int)∧(p.z:Int)≤16)=true:=h
 rw [decide_eq_true_eq] at h
 omega
structure Dec where
 M:List (Option LN)
 t:Nat
abbrev deB (db mb:Nat) (p:Prm) (t:Nat):Hl := .box db 221 [W4 p.s,I p.k,I p.p,I p.z,.pointer (some ⟨mb,0,none⟩),I t,W4 0#32,K4 0,W4 0#32,.slice none 0 0]
def deL (p:Prm) (d:Dec) (db:Nat) (l:Nat × Option Addr × Nat × List (Option RD)):List Hl:=[deB db l.1 p d.t,mB l.1 p.n p.z l.2.1 l.2.2.1 (cntS d.M),mR p.n l.2.1 l.2.2.1 l.2.2.2,.any (mrows l.2.2.2)]
def deP (p:Prm) (d:Dec) (db:Nat):Hp→Prop:=Som (fun l:Nat × Option Addr × Nat × List (Option RD)=>MOk p.n p.z l.2.2.2∧l.2.2.2.map vw=d.M) (deL p d db)
theorem rt_de {P:Program} {k:Kon} {m:Nat} {e:Ev} {W:World} {H R:List Hl} {p:Prm} {d:Dec} {db mb:Nat} {ar:Option Addr} {cr:Nat} {M:List (Option RD)} (hk:MOk p.n p.z M) (hM:M.map vw=d.M) (hE:Ent H (deB db mb p d.t::mB mb p.n p.z ar cr (cntS d.M)::mR p.n ar cr M :: .any (mrows M)::R)) (h:Rt P k m e W (.any (deP p d db)::R)):Rt P k m e W H :=
 rt_hide (L:=deL p d db) (p:=fun l:Nat × Option Addr × Nat × List (Option RD)=>MOk p.n p.z l.2.2.2∧l.2.2.2.map vw=d.M) (mb,ar,cr,M) ⟨hk,hM⟩ hE h
def SpRow (p:Prm) (id:BitVec 32) (v:List Bool):Prop:=v.length=p.n∧∀ H,Spec Tryz.prog 85 [parV p.s p.k p.p p.z,W4 id] H (fun _:Nat × Option Addr × Nat=>True) (fun r => .pointer (some ⟨r.1,0,none⟩)) (fun r=>vB r.1 p.n r.2.1 r.2.2::vR p.n r.2.1 r.2.2 v::H)
def saysD (p:Prm) (d:Dec) (v:List Bool):Bool:=decide (0≤firstV (red d.M (v,List.replicate p.z 0#8)).1)
set_option maxHeartbeats 2000000 in
theorem de_Says (H:List Hl) (p:Prm) (d:Dec) (db:Nat) (id:BitVec 32) (v:List Bool) (hp:p.ok) (hv:SpRow p id v) (ht:TabF (stars H)) :
  Spec Tryz.prog 120 [.pointer (some ⟨db,0,none⟩),W4 id] (.any (deP p d db)::H) (fun _:Unit=>True) (fun _ => .bool (saysD p d v)) (fun _ => .any (deP p d db)::H):=by
 refine Spec.som (by kernel_rfl) (fun ⟨mb,ar,cr,M⟩ ⟨hk,hM⟩=>?_)
 dsimp only at hk hM
 refine spec_fn (res:=fun _:Unit=>[.any (deP p d db)]) [deB db mb p d.t,mB mb p.n p.z ar cr (cntS d.M),mR p.n ar cr M,.any (mrows M)] H Tryz.func120 rfl Tryz.ntmps120 (by kernel_rfl) rfl (fun W=>?_)
 dsimp only [List.cons_append,List.nil_append]
 obtain ⟨y,hy⟩:∃ y,saysD p d v=y:=⟨_,rfl⟩
 have hn2:=hk.n2
 rw [hy]
 repeat' (first|intro _|refine cw ?_|refine cw2 ?_ ?_|refine ow ?_|refine ow2 ?_ ?_|fail)
 refine st_stages' [(0,_),(1,_)] rtD22_0 [12,13] [⟨[0,1,2,3,4,5,6,7,8,9,10,11],[],some 12⟩,⟨[],[3,4,5,6],some 13⟩,⟨[14,15],[],none⟩] mixed cv (by kernel_rfl) (by kernel_rfl) ?_
 repeat' (first|intro _|refine sg ?_|refine po (by first|refine o1_pneq rfl rfl fz|fail) ?_|(refine p_load ?_;refine po (by first|refine ox_load (b:=db) (i:=4) rfl rfl fz|fail) ?_)|refine pw ?_|refine pdd ?_|refine o1_pneq rfl rfl ?_|(refine o1_call (fun _=>hv.2 _) rfl (fun ⟨vb,va,vc⟩ _=>?_);(try dsimp only))|(refine k_fn 162 ?_;refine o1_call (fun hh=>elim_Says _ mb p.n p.z ar cr (cntS d.M) M ⟨vb,p.n,va,vc,v⟩ d.M y (RdM.own hk hh) hM (RdV.own hv.1 hn2 hh) rfl hy ht.up) rfl (fun _ _=>?_))|refine ow ?_|fail)
 all_goals dsimp only [List.cons_append,List.nil_append]
 repeat' (first|intro _|refine cw ?_|refine cw2 ?_ ?_|refine ow ?_|refine ow2 ?_ ?_|fail)
 refine rt_de (mb:=mb) (ar:=ar) (cr:=cr) (M:=M) (R:=[.any (stars H)]) hk hM ent ?_
 refine rt_tmp () rfl rfl rfl trivial ?_
 exact ent
def takeD (p:Prm) (d:Dec) (v:List Bool) (x:List (BitVec 8)):Dec:=if firstV (red d.M (v,x)).1 = -1 then d else ⟨addF d.M (v,x),d.t+1⟩
set_option maxHeartbeats 2000000 in
theorem de_Take (H:List Hl) (p:Prm) (d:Dec) (db:Nat) (id:BitVec 32) (v:List Bool) (ad:Option Addr) (m c:Nat) (x:List (BitVec 8)) (hp:p.ok) (hv:SpRow p id v) (hR:RR p.n p.z d.M) (ht:TabF (stars H)) (hx:Rs (stars H) B ad c x) (hm:m=x.length) (hz:x.length=p.z) (hb:d.t≤1000) :
  Spec Tryz.prog 122 [.pointer (some ⟨db,0,none⟩),W4 id,.slice ad m c] (.any (deP p d db)::H) (fun _:Unit=>True) (fun _ => .bool (decide (firstV (red d.M (v,x)).1 ≠ -1))) (fun _ => .any (deP p (takeD p d v x) db)::H):=by
 refine Spec.som (by kernel_rfl) (fun ⟨mb,ar,cr,M⟩ ⟨hk,hM⟩=>?_)
 dsimp only at hk hM
 refine spec_fn (res:=fun _:Unit=>[.any (deP p (takeD p d v x) db)]) [deB db mb p d.t,mB mb p.n p.z ar cr (cntS d.M),mR p.n ar cr M,.any (mrows M)] H Tryz.func122 rfl Tryz.ntmps122 (by kernel_rfl) rfl (fun W=>?_)
 dsimp only [List.cons_append,List.nil_append]
 obtain ⟨y,hy⟩:∃ y,decide (firstV (red d.M (v,x)).1 ≠ -1)=y:=⟨_,rfl⟩
 have hn2:=hk.n2
 rw [hy]
 repeat' (first|intro _|refine cw ?_|refine cw2 ?_ ?_|refine ow ?_|refine ow2 ?_ ?_|fail)
 refine st_stages' [(0,_),(1,_),(2,_)] rtD22_1 [12,14] [⟨[0,1,2,3,4,5,6,7,8,9,10,11,13],[],some 12⟩,⟨[],[3,4,5,6,13],some 14⟩,⟨[15,16],[],none⟩] mixed cv (by kernel_rfl) (by kernel_rfl) ?_
 repeat' (first|intro _|refine sg ?_|refine po (by first|refine o1_peql rfl rfl fz|fail) ?_|(refine p_load ?_;refine po (by first|refine ox_load (b:=db) (i:=4) rfl rfl fz|fail) ?_)|refine pw ?_|refine pdd ?_|refine o1_peql rfl rfl ?_|(refine o1_call (fun _=>hv.2 _) rfl (fun ⟨vb,va,vc⟩ _=>?_);(try dsimp only))|(refine k_fn 168 ?_;(refine o1_call_bra mb ar cr (mrows M) (fun hh=>elim_AddF _ mb p.n p.z ar cr M ⟨vb,p.n,va,vc,v⟩ ad m c x d.M hk hM hR (RdV.own hv.1 hn2 (has_tail (has_tail (has_tail hh)))) rfl hx.up hm hz ht.up) rfl (fun M2 hM2=>?_);rw [hy];obtain ⟨hM2,hk2⟩:=hM2))|refine ow ?_|fail)
 all_goals dsimp only [List.cons_append,List.nil_append]
 dsimp only at hM2
 cases y
 ·have hold:firstV (red d.M (v,x)).1 = -1:=by
   have:=of_decide_eq_false hy
   exact Decidable.not_not.1 this
  have ht2:takeD p d v x=d:=if_pos hold
  rw [ht2]
  rw [addF_old hold] at hM2 ⊢
  repeat' (first|intro _|refine cw ?_|refine cw2 ?_ ?_|refine ow ?_|refine ow2 ?_ ?_|fail)
  refine rt_de (mb:=mb) (ar:=ar) (cr:=cr) (M:=M2) (R:=[.any (stars H)]) hk2 hM2 ent ?_
  refine rt_tmp () rfl rfl rfl trivial ?_
  exact ent
 ·have hnew:firstV (red d.M (v,x)).1 ≠ -1:=of_decide_eq_true hy
  have ht2:takeD p d v x=⟨addF d.M (v,x),d.t+1⟩:=if_neg hnew
  have hw:IntKind.i64.wrap ((d.t:Int)+1)=((d.t+1:Nat):Int):=by rw [wrap_in (by omega) (by omega)];push_cast;rfl
  rw [ht2]
  repeat' (first|intro _|refine cw ?_|refine cw2 ?_ ?_|(refine k_fn 145 ?_;(refine o1_call_box (b:=db) (fun _=>at_AddG _ db 5 _ _ d.t 1 rfl) rfl (fun _ _=>?_);rw [hw]))|refine ow ?_|refine ow2 ?_ ?_|fail)
  refine rt_de (d:=⟨addF d.M (v,x),d.t+1⟩) (mb:=mb) (ar:=ar) (cr:=cr) (M:=M2) (R:=[.any (stars H)]) hk2 hM2 ent ?_
  refine rt_tmp () rfl rfl rfl trivial ?_
  exact ent
theorem de_Taken (H:List Hl) (p:Prm) (d:Dec) (db:Nat) :
  Spec Tryz.prog 88 [.pointer (some ⟨db,0,none⟩)] (.any (deP p d db)::H) (fun _:Unit=>True) (fun _=>I d.t) (fun _ => .any (deP p d db)::H):=by
 refine Spec.som (by kernel_rfl) (fun ⟨mb,ar,cr,M⟩ ⟨hk,hM⟩=>?_)
 dsimp only at hk hM
 refine spec_fn (res:=fun _:Unit=>[.any (deP p d db)]) [deB db mb p d.t,mB mb p.n p.z ar cr (cntS d.M),mR p.n ar cr M,.any (mrows M)] H Tryz.func88 rfl Tryz.ntmps88 (by kernel_rfl) rfl (fun W=>?_)
 dsimp only [List.cons_append,List.nil_append]
 repeat' (first|intro _|refine cw ?_|refine cw2 ?_ ?_|refine o1_peql rfl rfl ?_|(refine k_fn 144 ?_;refine o1_call (fun _=>at_Load64 _ db 5 d.t (cl_box rfl)) rfl (fun _ _=>?_))|refine ow ?_|refine ow2 ?_ ?_|fail)
 refine rt_de (mb:=mb) (ar:=ar) (cr:=cr) (M:=M) (R:=[.any (stars H)]) hk hM ent ?_
 refine rt_tmp () rfl rfl rfl trivial ?_
 exact ent
theorem de_Needs (H:List Hl) (p:Prm) (d:Dec) (db:Nat) (hp:p.ok) (hb:cntS d.M≤1000) :
  Spec Tryz.prog 123 [.pointer (some ⟨db,0,none⟩)] (.any (deP p d db)::H) (fun _:Unit=>True) (fun _=>I ((p.n:Int) - cntS d.M)) (fun _ => .any (deP p d db)::H):=by
 refine Spec.som (by kernel_rfl) (fun ⟨mb,ar,cr,M⟩ ⟨hk,hM⟩=>?_)
 dsimp only at hk hM
 refine spec_fn (res:=fun _:Unit=>[.any (deP p d db)]) [deB db mb p d.t,mB mb p.n p.z ar cr (cntS d.M),mR p.n ar cr M,.any (mrows M)] H Tryz.func123 rfl Tryz.ntmps123 (by kernel_rfl) rfl (fun W=>?_)
 dsimp only [List.cons_append,List.nil_append]
 have hn2:=hk.n2
 have e:(if mayP (p.k:Int) p.p p.z=true then (p.k:Int)+p.p else 0)=(p.n:Int):=by rw [if_pos hp];push_cast;rfl
 repeat' (first|intro _|refine cw ?_|refine cw2 ?_ ?_|refine o1_peql rfl rfl ?_|refine ow ?_|refine ow2 ?_ ?_|fail)
 refine st_stages' [(0,_)] rtD22_2 [4,9] [⟨[0,1,2,3,5,6,7,8],[],some 4⟩,⟨[],[5,6,7,8],some 9⟩,⟨[10,11],[],none⟩] mixed cv (by kernel_rfl) (by kernel_rfl) ?_
 repeat' (first|intro _|refine sg ?_|(refine p_load ?_;refine po (by first|refine ox_load (b:=db) (i:=4) rfl rfl fz|fail) ?_)|(refine p_binOp .sub ?_;refine po (by first|refine o1_sub rfl rfl (by omega) fz|fail) ?_)|refine pw ?_|refine pdd ?_|(refine k_fn 135 ?_;(refine o1_call (fun _=>spread_Pieces _ p.s p.k p.p p.z) rfl (fun _ _=>?_);rw [e]))|(refine k_fn 169 ?_;refine o1_call (fun _=>elim_Rank _ mb (cntS d.M) (cl_box rfl)) rfl (fun _ _=>?_))|refine ow ?_|fail)
 all_goals dsimp only [List.cons_append,List.nil_append]
 repeat' (first|intro _|refine cw ?_|refine cw2 ?_ ?_|refine ow ?_|refine ow2 ?_ ?_|fail)
 refine rt_de (mb:=mb) (ar:=ar) (cr:=cr) (M:=M) (R:=[.any (stars H)]) hk hM ent ?_
 refine rt_tmp () rfl rfl rfl trivial ?_
 exact ent
def rowsM (p:Prm) (l:List (List Bool)):List (Option LN):=l.foldl (fun M v=>addF M (v,List.replicate p.z 0#8)) (List.replicate p.n none)
def newD (p:Prm):Dec:=⟨rowsM p (rowsL p.s p.k p.p),0⟩
theorem rowsM_RR (p:Prm):∀ l:List (List Bool),(∀ v∈l,v.length=p.n)→RR p.n p.z (rowsM p l):=fun l=>rev_ind (P:=fun l=>(∀ v∈l,v.length=p.n)→RR p.n p.z (rowsM p l)) (fun _=>RR_none) (fun l a ih h=>by
 have e:rowsM p (l++[a])=addF (rowsM p l) (a,List.replicate p.z 0#8):=by simp [rowsM]
 rw [e]
 exact addF_RR (ih (fun v hv=>h v (by simp [hv]))) (h a (by simp)) (by simp)) l
set_option maxHeartbeats 4000000 in
theorem de_New (H:List Hl) (p:Prm) (hp:p.ok) (ht:TabF (stars H)) :
  Spec Tryz.prog 160 [parV p.s p.k p.p p.z] H (fun _:Nat=>True) (fun db => .pointer (some ⟨db,0,none⟩)) (fun db => .any (deP p (newD p) db)::H):=by
 refine spec_pure (res:=fun db:Nat=>[.any (deP p (newD p) db)]) H Tryz.func160 rfl Tryz.ntmps160 (by kernel_rfl) rfl (fun W=>?_)
 obtain ⟨p1,p2,p3,p4,p5⟩:=hp.out
 have hm:mayP (p.k:Int) p.p p.z=true:=hp
 have e:(if mayP (p.k:Int) p.p p.z=true then (p.k:Int)+p.p else 0)=(p.n:Int):=by rw [if_pos hp];push_cast;rfl
 repeat' (first|intro _|refine cw ?_|refine cw2 ?_ ?_|(refine k_fn 106 ?_;(refine o1_call (fun _=>spread_May _ p.s.toNat p.k p.p p.z) rfl (fun _ _=>?_);rw [hm]))|(refine k_box ?_;refine o1_box rfl rfl (fun b1=>?_))|refine ow ?_|refine ow2 ?_ ?_|fail)
 refine st_stages' [(1,_)] rtD22_3 [2,5,7] [⟨[0,1,3,4],[],some 2⟩,⟨[],[0,3,4],some 5⟩,⟨[6],[0],some 7⟩,⟨[8],[],none⟩] mixed cv (by kernel_rfl) (by kernel_rfl) ?_
 repeat' (first|intro _|refine sg ?_|refine pw ?_|refine pdd ?_|(refine k_fn 135 ?_;(refine o1_call (fun _=>spread_Pieces _ p.s p.k p.p p.z) rfl (fun _ _=>?_);rw [e]))|(refine k_fn 196 ?_;(refine o1_call (fun _=>elim_New _ p.n p.z (by show 1≤p.k+p.p;omega) (by show p.k+p.p≤256;omega) p4 p5) rfl (fun ⟨mb,ar,cr⟩ _=>?_);(try dsimp only)))|(refine k_box ?_;refine o1_box rfl rfl (fun db=>?_))|refine ow ?_|fail)
 all_goals dsimp only [List.cons_append,List.nil_append]
 repeat' (first|intro _|refine cw ?_|refine cw2 ?_ ?_|(refine k_fn 176 ?_;(refine o1_call (fun _=>precode_Rows _ p.s p.k p.p p.z hm) rfl (fun ⟨av,kv,vs⟩ hvs0=>?_);obtain ⟨hvs,hvok⟩:=hvs0;(try dsimp only at hvs hvok ⊢)))|refine ow ?_|refine ow2 ?_ ?_|fail)
 have hlen:∀ v∈vs.map (·.l),v.length=p.n:=fun v hv=>by
  obtain ⟨y,hy,rfl⟩:=List.mem_map.1 hv
  obtain ⟨h1,h2⟩:=hvok y hy
  rw [h1.len,h2]
 have hpre:∀ i,∀ v∈(vs.map (·.l)).take i,v.length=p.n:=fun i v hv=>hlen v (List.mem_of_mem_take hv)
 have hvl:vs.length≤16:=by
  have:=congrArg List.length hvs
  simp only [List.length_map,rowsL,List.length_range] at this
  omega
 refine st_loop (S:=Nat × List (Option RD)) (fun q=>[(1,.pointer (some ⟨b1,0,none⟩)),(3,.pointer (some ⟨db,0,none⟩)),(18,.slice av vs.length kv),(19,I vs.length),(20,I q.1)])
  (fun q=>[deB db mb p 0,mB mb p.n p.z ar cr (cntS (rowsM p ((vs.map (·.l)).take q.1))),mR p.n ar cr q.2,.any (mrows q.2),.box b1 91 [W4 p.s,I p.k,I p.p,I p.z],.row 148 1 (.slice av vs.length kv) vs.length (vs.map Pv),.any (vecs vs),.any (stars H)])
  (fun q=>q.1≤vs.length∧MOk p.n p.z q.2∧q.2.map vw=rowsM p ((vs.map (·.l)).take q.1)) (fun q=>vs.length - q.1) (0,List.replicate p.n none) ⟨Nat.zero_le _,⟨by simp,by show 1≤p.k+p.p;omega,by show p.k+p.p≤256;omega,p4,p5,fun r hr=>by simp at hr⟩,by simp [rowsM,vw]⟩
  cv (by show Ent _ [deB db mb p 0,mB mb p.n p.z ar cr (cntS (List.replicate p.n none)),mR p.n ar cr (List.replicate p.n none),.any (mrows (List.replicate p.n none)),.box b1 91 [W4 p.s,I p.k,I p.p,I p.z],.row 148 1 (.slice av vs.length kv) vs.length (vs.map Pv),.any (vecs vs),.any (stars H)];rw [cntS_none];exact ent) ?_
 rintro ⟨i,M⟩ ⟨hi,hk,hM⟩
 dsimp only at hi hk hM ⊢
 have hRR:=rowsM_RR p _ (hpre i)
 by_cases hlt:i<vs.length
 ·obtain ⟨v,hv⟩:∃ v,vs[i]=v:=⟨_,rfl⟩
  have hvm:v∈vs:=hv ▸ List.getElem_mem hlt
  obtain ⟨hv1,hv2⟩:=hvok v hvm
  have hnext:rowsM p ((vs.map (·.l)).take (i+1))=addF (rowsM p ((vs.map (·.l)).take i)) (v.l,List.replicate p.z 0#8):=by
   rw [List.take_succ_eq_append_getElem (by simpa using hlt)]
   simp [rowsM,hv]
  repeat' (first|intro _|refine cw ?_|refine cw2 ?_ ?_|(refine k_indexAddr ?_;refine o1_iah (enc:=Pv) (ad:=av) (c:=kv) (xs:=vs) i rfl rfl rx_row rfl rfl hlt ?_)|(refine k_load ?_;(refine o1_load_iah (enc:=Pv) (ad:=av) (c:=kv) (xs:=vs) i rfl rx_row hlt ?_;rw [hv]))|refine ow ?_|refine ow2 ?_ ?_|fail)
  refine st_stages' [(3,_),(5,_),(1,_)] rtD22_4 [7,8] [⟨[0,1,2,3,4,5,6],[],some 7⟩,⟨[],[0,1,2,3,4],some 8⟩,⟨[],[],none⟩] mixed cv (by kernel_rfl) (by kernel_rfl) ?_
  repeat' (first|intro _|refine sg ?_|(refine p_load ?_;refine po (by first|refine ox_load (b:=db) (i:=4) rfl rfl fz|refine ox_load (b:=b1) (i:=3) rfl rfl fz|fail) ?_)|refine pw ?_|refine pdd ?_|(refine k_makeSlice ?_;refine o1_maker (enc:=B) 0#8 p.z rfl rfl rfl rfl rfl (by omega) (by omega) (fun b31=>?_))|(refine k_fn 168 ?_;(refine o1_call_bra mb ar cr (mrows M) (fun hh=>elim_AddF _ mb p.n p.z ar cr M v (some ⟨b31,0,none⟩) p.z p.z (List.replicate p.z 0#8) _ hk hM hRR (vecs_read (vs:=vs) hvm hv1 (has_tail (has_tail (has_tail hh)))) hv2 (rx_box (T:=5) (by simp) (by omega) (has_tail (has_tail (has_tail hh)))) (by simp) (by simp) ht.up) rfl (fun M2 hM2=>?_);obtain ⟨hM2,hk2⟩:=hM2;rw [←hnext] at hM2 ⊢))|refine ow ?_|fail)
  all_goals dsimp only [List.cons_append,List.nil_append]
  repeat' (first|intro _|refine cw ?_|refine cw2 ?_ ?_|refine ow ?_|refine ow2 ?_ ?_|fail)
  refine nx_again (i+1,M2) ⟨hlt,hk2,hM2⟩ (by show vs.length - (i+1)<vs.length - i;omega) cv ?_
  exact ent
 ·have:i=vs.length:=by omega
  subst this
  repeat' (first|intro _|refine cw ?_|refine cw2 ?_ ?_|refine ow ?_|refine ow2 ?_ ?_|fail)
  rw [List.take_of_length_le (by simp),hvs] at hM ⊢
  refine rt_de (d:=newD p) (mb:=mb) (ar:=ar) (cr:=cr) (M:=M) (R:=[.any (stars H)]) hk hM ent ?_
  refine rt_tmp db rfl rfl rfl trivial ?_
  exact ent
def symB (ses id:BitVec 32) (data:List (BitVec 8)):List (BitVec 8):=be4 ses++be4 id++data
theorem packet_Bytes_ok (H:List Hl) (ses id:BitVec 32) (ad:Option Addr) (c:Nat) (data:List (BitVec 8)) (h1:1≤data.length) (h2:data.length≤16) (hr:Rs (stars H) B ad c data) :
  Spec Tryz.prog 40 [.agg #[W4 ses,W4 id,.slice ad data.length c]] H (fun _:Option Addr × Nat=>True) (fun r:Option Addr × Nat => .tuple #[.slice r.1 (8+data.length) r.2,I 0])
   (fun r:Option Addr × Nat => .row 5 1 (.slice r.1 (8+data.length) r.2) (8+data.length) ((symB ses id data).map B)::H):=by
 refine spec_pure (res:=fun r:Option Addr × Nat=>[.row 5 1 (.slice r.1 (8+data.length) r.2) (8+data.length) ((symB ses id data).map B)]) H Tryz.func40 rfl Tryz.ntmps40 (by kernel_rfl) rfl (fun W=>?_)
 repeat' (first|intro _|refine cw ?_|refine cw2 ?_ ?_|refine ow ?_|refine ow2 ?_ ?_|fail)
 refine st_ent (ent_nil 5 B) (st_rounds 2 ?_)
 repeat' (first|intro _|refine cw ?_|refine cw2 ?_ ?_|refine ow ?_|refine ow2 ?_ ?_|fail)
 refine rt_tmp2 (_,_) rfl rfl rfl rfl trivial ?_
 exact ent
def fitsP (k p z:Int) (ses ses':BitVec 32) (l:Nat):Int:=if mayP k p z=false then 1 else if ses≠ses' then 7 else if (l:Int)≠z then 3 else 0
theorem fits_0 {k p z:Int} {s:BitVec 32} {l:Nat} (h:mayP k p z=true) (hl:(l:Int)=z):fitsP k p z s s l=0:=by simp [fitsP,h,hl]
theorem fits_7 {k p z:Int} {s s':BitVec 32} {l:Nat} (h:mayP k p z=true) (hs:s≠s'):fitsP k p z s s' l=7:=by simp [fitsP,h,hs]
theorem packet_Fits (H:List Hl) (ses id ses':BitVec 32) (k p z:Int) (ad:Option Addr) (l c:Nat) :
  Spec Tryz.prog 77 [.agg #[W4 ses,W4 id,.slice ad l c],.agg #[W4 ses',I k,I p,I z]] H (fun _:Unit=>True) (fun _=>I (fitsP k p z ses ses' l)) (fun _=>H):=by
 refine spec_pure (res:=fun _=>[]) H Tryz.func77 rfl Tryz.ntmps77 (by kernel_rfl) rfl (fun W=>?_)
 cases hm:mayP k p z
 all_goals
  repeat' (first|intro _|refine cw ?_|refine cw2 ?_ ?_|(refine k_fn 106 ?_;refine o1_call (fun _=>(spread_May _ _ _ _ _).bv hm) rfl (fun _ _=>?_))|refine ow ?_|refine ow2 ?_ ?_|fail)
 all_goals
  refine rt_tmp () rfl rfl ?_ trivial ?_
 all_goals first
  | (exact ent;done)
  | skip
 all_goals simp_all [fitsP,←BitVec.toNat_inj]
 all_goals (try intro _)
 all_goals omega
def sym64 (l:List (BitVec 8)):BitVec 64:=l.foldl (fun a x=>(a <<< 8) ||| x.setWidth 64) 0
theorem sym64_succ (l:List (BitVec 8)) (i:Nat) (h:i<l.length):sym64 (l.take (i+1))=(sym64 (l.take i) <<< 8) ||| (l[i]).setWidth 64:=by
 simp only [sym64]
 rw [List.take_succ_eq_append_getElem h,List.foldl_append]
 rfl
theorem packet_Parse_ok (H:List Hl) (ad:Option Addr) (c:Nat) (l:List (BitVec 8)) (h:Rs (stars H) B ad c l) (h1:8<l.length) (h2:l.length≤24) :
  Spec Tryz.prog 76 [.slice ad l.length c] H (fun _:Option Addr × Nat=>True) (fun r => .tuple #[.agg #[W4 ((sym64 (l.take 8) >>> 32).setWidth 32),W4 ((sym64 (l.take 8)).setWidth 32),.slice r.1 (l.drop 8).length r.2],I 0])
   (fun r => .row 5 1 (.slice r.1 (l.drop 8).length r.2) (l.drop 8).length ((l.drop 8).map B)::H):=by
 refine spec_pure (res:=fun r:Option Addr × Nat=>[.row 5 1 (.slice r.1 (l.drop 8).length r.2) (l.drop 8).length ((l.drop 8).map B)]) H Tryz.func76 rfl Tryz.ntmps76 (by kernel_rfl) rfl (fun W=>?_)
 repeat' (first|intro _|refine cw ?_|refine cw2 ?_ ?_|(refine k_slice ?_;refine o1_cut_h rfl rfl h rfl (by omega) (by omega) (fun ad2 c2 l2 e2 n2 h2=>?_))|refine ow ?_|refine ow2 ?_ ?_|fail)
 refine st_loop (S:=Nat) (fun i=>[(0,.slice ad l.length c),(2,_),(4,W8 (sym64 (l2.take i))),(18,.slice ad2 l2.length c2),(19,I l2.length),(20,I i)]) (fun _=>_) (fun i=>i≤l2.length) (fun i=>l2.length - i) 0 (by omega)
  cv (Ent.refl _) ?_
 intro i hi
 have n8:l2.length=8:=n2
 repeat' (first|intro _|refine cw ?_|refine cw2 ?_ ?_|(refine k_indexAddr ?_;refine o1_indexAddr_rd rfl rfl h2 i rfl (by omega) (fun a ha=>?_))|refine ow ?_|refine ow2 ?_ ?_|fail)
 ·refine nx_again (i+1) (by omega) (by omega) (cov_cons rfl rfl (cov_cons rfl rfl (cov_cons rfl ?_ cv))) (Ent.refl _)
  rw [sym64_succ _ _ (by omega)];rfl
 ·have:i=l2.length:=by omega
  subst this
  rw [List.take_length,e2]
  repeat' (first|intro _|refine cw ?_|refine cw2 ?_ ?_|(refine k_slice ?_;refine o1_cut_l rfl rfl h rfl (by omega) (by omega) (fun ad2 c2 l2 e2 n2 h2=>?_))|(refine k_fn 29 ?_;(refine o1_call (fun _=>slices_Clone _ _ _ _ h2.up (by omega)) rfl (fun ⟨_,_⟩ _=>?_);dsimp only))|refine ow ?_|refine ow2 ?_ ?_|fail)
  subst e2
  refine rt_cell_tmp (_,_) rfl rfl rfl rfl rfl trivial ?_
  exact ent
def num (l:List (BitVec 8)):Nat:=l.foldl (fun a x=>a*256+x.toNat) 0
theorem fold_num (w:Nat):∀ (l:List (BitVec 8)) (k:Nat) (a:BitVec w),a.toNat<256 ^ k→8*(k+l.length)≤w →
  (l.foldl (fun (a:BitVec w) (x:BitVec 8)=>(a <<< 8) ||| x.setWidth w) a).toNat=l.foldl (fun a x=>a*256+x.toNat) a.toNat
 | [],_,_,_,_=>rfl
 | x::l,k,a,h,hw=>by
  simp only [List.length_cons] at hw
  have hx:=x.isLt
  have hp:(256:Nat) ^ (k+1)≤2 ^ w:=by
   have:(256:Nat) ^ (k+1)=2 ^ (8*(k+1)):=by rw [Nat.pow_mul]
   rw [this]
   exact Nat.pow_le_pow_right (by omega) (by omega)
  have h256:(256:Nat) ^ (k+1)=256 ^ k*256:=Nat.pow_succ ..
  have hs:((a <<< 8) ||| x.setWidth w).toNat=a.toNat*256+x.toNat:=by
   rw [BitVec.toNat_or,BitVec.toNat_shiftLeft,BitVec.toNat_setWidth]
   have e1:x.toNat % 2 ^ w=x.toNat:=Nat.mod_eq_of_lt (by omega)
   have e2:a.toNat <<< 8 % 2 ^ w=a.toNat <<< 8:=Nat.mod_eq_of_lt (by rw [Nat.shiftLeft_eq];omega)
   rw [e1,e2,←Nat.shiftLeft_add_eq_or_of_lt (by omega:x.toNat<2 ^ 8),Nat.shiftLeft_eq]
  simp only [List.foldl_cons]
  rw [fold_num w l (k+1) _ (by rw [hs];omega) (by omega),hs]
theorem sym64_num (l:List (BitVec 8)) (h:l.length≤8):(sym64 l).toNat=num l:=fold_num 64 l 0 0 (by simp) (by omega)
theorem sym64_be (s i:BitVec 32):(sym64 (be4 s++be4 i)).toNat=s.toNat*4294967296+i.toNat:=by
 rw [sym64_num _ (by simp [be4])]
 have h1:=s.isLt
 have h2:=i.isLt
 simp only [be4,List.cons_append,List.nil_append,num,List.foldl_cons,List.foldl_nil,BitVec.toNat_setWidth,BitVec.toNat_ushiftRight,Nat.shiftRight_eq_div_pow]
 omega
theorem sym64_hi (s i:BitVec 32):(sym64 (be4 s++be4 i) >>> 32).setWidth 32=s:=by
 apply BitVec.eq_of_toNat_eq
 have h1:=s.isLt
 have h2:=i.isLt
 rw [BitVec.toNat_setWidth,BitVec.toNat_ushiftRight,sym64_be,Nat.shiftRight_eq_div_pow]
 omega
theorem sym64_lo (s i:BitVec 32):(sym64 (be4 s++be4 i)).setWidth 32=i:=by
 apply BitVec.eq_of_toNat_eq
 have h1:=s.isLt
 have h2:=i.isLt
 rw [BitVec.toNat_setWidth,sym64_be]
 omega
theorem symB_len (s i:BitVec 32) (l:List (BitVec 8)):8+l.length=(symB s i l).length:=by simp [symB,be4];omega
theorem packet_Bytes_sym (H:List Hl) (ses id:BitVec 32) (ad:Option Addr) (c:Nat) (data:List (BitVec 8)) (h1:1≤data.length) (h2:data.length≤16) (hr:Rs (stars H) B ad c data) :
  Spec Tryz.prog 40 [.agg #[W4 ses,W4 id,.slice ad data.length c]] H (fun _:Option Addr × Nat=>True) (fun r:Option Addr × Nat => .tuple #[.slice r.1 (symB ses id data).length r.2,I 0])
   (fun r:Option Addr × Nat => .row 5 1 (.slice r.1 (symB ses id data).length r.2) (symB ses id data).length ((symB ses id data).map B)::H):=by
 have:=packet_Bytes_ok H ses id ad c data h1 h2 hr
 rwa [symB_len ses id data] at this
def full (image:List (BitVec 8)) (m:Nat):List (BitVec 8):=image.take m++List.replicate (m - image.length) 0
def piece (image:List (BitVec 8)) (m s i:Nat):List (BitVec 8):=((full image m).drop (i*s)).take s
theorem full_len (image:List (BitVec 8)) (m:Nat):(full image m).length=m:=by simp [full];omega
theorem count_pos {l s:Int} (h:count l s≠0):1≤l∧l≤512∧1≤s∧s≤16∧count l s=(l+s - 1) / s∧count l s≤64∧1≤count l s:=by
 unfold count at h ⊢
 split at h
 ·exact absurd rfl h
 ·rename_i h1
  split at h
  ·exact absurd rfl h
  ·rename_i h2
   rw [if_neg h1,if_neg h2]
   have:1≤(l+s - 1) / s:=by
    rw [Int.le_ediv_iff_mul_le (by omega)]
    omega
   refine ⟨by omega,by omega,by omega,by omega,rfl,by omega,this⟩
def pieceL (image:List (BitVec 8)) (m z i:Nat):List (BitVec 8):=((full image m).take ((i+1)*z)).drop (i*z)
def piecesL (image:List (BitVec 8)) (n z:Nat):List (List (BitVec 8)):=(List.range n).map (pieceL image (n*z) z)
theorem copy_full (image:List (BitVec 8)) (m:Nat):image.take (List.replicate m (0#8)).length++(List.replicate m (0#8)).drop image.length=full image m:=by simp [full]
set_option maxHeartbeats 1000000 in
theorem block_Split (H:List Hl) (ad:Option Addr) (c:Nat) (image:List (BitVec 8)) (n z:Nat) (h:Rs (stars H) B ad c image) (hc:count image.length z=n) (hn:1≤n) :
  Spec Tryz.prog 134 [.slice ad image.length c,I z] H (fun r:Option Addr × Nat × List (SlD (BitVec 8))=>r.2.2.map (·.l)=piecesL image n z) (fun r => .slice r.1 r.2.2.length r.2.1)
   (fun r => .row 22 1 (.slice r.1 r.2.2.length r.2.1) r.2.2.length (r.2.2.map Bs) :: .any (pcs 5 r.2.2)::H):=by
 refine spec_pure (res:=fun r:Option Addr × Nat × List (SlD (BitVec 8))=>[.row 22 1 (.slice r.1 r.2.2.length r.2.1) r.2.2.length (r.2.2.map Bs),.any (pcs 5 r.2.2)]) H Tryz.func134 rfl Tryz.ntmps134 (by kernel_rfl) rfl (fun W=>?_)
 obtain ⟨p1,p2,p3,p4,p5,p6,p7⟩:=count_pos (l:=image.length) (s:=z) (by omega)
 have hb:n*z≤1024:=by
  have:=Nat.mul_le_mul (by omega:n≤64) (by omega:z≤16)
  omega
 have hbi:((n*z:Nat):Int)=(n:Int)*z:=by push_cast;rfl
 repeat' (first|intro _|refine cw ?_|refine cw2 ?_ ?_|(refine k_fn 105 ?_;refine o1_call (fun _=>(block_Count _ _ _).vv (b:=I n) (congrArg I hc)) rfl (fun _ _=>?_))|(refine k_call ?_;first|refine o1_max (r:=(z:Int)) rfl rfl (by omega) ?_|(refine ox_copy rfl rfl (by simp) (rx_any h) rfl (fun _=>rfl) ?_;rw [copy_full]))|(refine k_binOp .mul ?_;refine o1_mul rfl rfl (by omega) ?_)|(refine k_makeSlice ?_;refine o1_maker (enc:=B) 0#8 (n*z) rfl rfl rfl rfl (by omega) (by omega) (by omega) (fun _=>?_))|refine ow ?_|refine ow2 ?_ ?_|fail)
 refine st_ent (ent_nil 22 Bs) (st_ent (fun h hh=>sel_swap h (pcs_nil (T:=5) h hh)) ?_)
 rename_i b
 refine st_loop (S:=Nat × Option Addr × Nat × List (SlD (BitVec 8))) (fun s=>[(1,I z),(6,.slice (some ⟨b,0,none⟩) (n*z) (n*z)),(7,.slice s.2.1 s.2.2.2.length s.2.2.1),(21,I n),(22,I s.1)])
  (fun s=>[.row 22 1 (.slice s.2.1 s.2.2.2.length s.2.2.1) s.2.2.2.length (s.2.2.2.map Bs),.any (pcs 5 s.2.2.2),.box b 5 ((full image (n*z)).map B),.any (stars H)]) (fun s=>s.1≤n∧s.2.2.2.map (·.l)=(List.range s.1).map (pieceL image (n*z) z)) (fun s=>n - s.1) (0,none,0,[]) ⟨by omega,rfl⟩
  cv ent ?_
 rintro ⟨i,a1,c1,ls⟩ ⟨hi,hls⟩
 dsimp only at hi hls ⊢
 have hlen:ls.length=i:=by have:=congrArg List.length hls;simpa using this
 by_cases hlt:i<n
 ·have hm1:(i+1)*z≤n*z:=Nat.mul_le_mul_right z hlt
  have hm2:i*z≤(i+1)*z:=Nat.mul_le_mul_right z (Nat.le_succ i)
  have hfl:=full_len image (n*z)
  repeat' (first|intro _|refine cw ?_|refine cw2 ?_ ?_|(refine k_binOp .mul ?_;refine o1_mul rfl rfl (by first|(have e:((i*z:Nat):Int)=(i:Int)*z:=by push_cast;rfl);omega|(have e:(((i+1)*z:Nat):Int)=((i:Int)+1)*z:=by push_cast;rfl);omega) ?_)|(refine k_slice ?_;refine o1_cs_lh (xs:=full image (n*z)) (i*z) ((i+1)*z) rfl rfl rfl (by push_cast;rfl) (by push_cast;rfl) (by omega) (by omega) hm2 (by omega) ?_)|(refine k_fn 29 ?_;(refine o1_call (fun hh=>slices_Clone _ _ _ _ ((rx_box (l:=full image (n*z)) (by omega) (by omega) hh).cutv (i*z) ((i+1)*z) hm2 (by omega)) (by simp;omega)) rfl (fun ⟨a3,c3⟩ _=>?_);dsimp only))|(refine k_buildSlice ?_;refine o1_lit_enc Bs [⟨_,_,pieceL image (n*z) z i⟩] rfl rfl rfl (fun _=>rfl) rfl rfl rfl (fun _=>?_))|(refine k_call ?_;refine ox_append (enc:=Bs) rfl rfl (rx_box rfl (by first|decide|omega)) rfl rfl (fun _=>rfl) (by omega) (by omega) (fun a2 c2=>?_))|refine ow ?_|refine ow2 ?_ ?_|fail)
  refine nx_push (T:=5) (ls:=ls) (s:=(⟨a3,c3,pieceL image (n*z) z i⟩:SlD (BitVec 8))) (R:=[.row 22 1 (.slice a2 (ls.length+1) c2) (ls.length+1) ((ls++[(⟨a3,c3,pieceL image (n*z) z i⟩:SlD (BitVec 8))]).map Bs),.box b 5 ((full image (n*z)).map B),.any (stars H)]) ent ?_
  refine nx_again (i+1,a2,c2,ls++[(⟨a3,c3,pieceL image (n*z) z i⟩:SlD (BitVec 8))]) ⟨?_,?_⟩ ?_ (cov_cons rfl rfl (cov_cons rfl rfl (cov_cons rfl ?_ cv))) ?_
  ·show i+1≤n;omega
  ·show (ls++[(⟨a3,c3,pieceL image (n*z) z i⟩:SlD (BitVec 8))]).map (·.l)=_
   rw [List.map_append,hls,List.range_succ,List.map_append];rfl
  ·show n - (i+1)<n - i;omega
  ·show Value.slice a2 (ls.length+1) c2=Value.slice a2 (ls++[(⟨a3,c3,pieceL image (n*z) z i⟩:SlD (BitVec 8))]).length c2
   simp
  ·show Ent _ [.row 22 1 (.slice a2 (ls++[(⟨a3,c3,pieceL image (n*z) z i⟩:SlD (BitVec 8))]).length c2) (ls++[(⟨a3,c3,pieceL image (n*z) z i⟩:SlD (BitVec 8))]).length ((ls++[(⟨a3,c3,pieceL image (n*z) z i⟩:SlD (BitVec 8))]).map Bs),.any (pcs 5 (ls++[(⟨a3,c3,pieceL image (n*z) z i⟩:SlD (BitVec 8))])),.box b 5 ((full image (n*z)).map B),.any (stars H)]
   rw [List.length_append,List.length_singleton]
   exact ent
 ·have:i=n:=by omega
  subst this
  repeat' (first|intro _|refine cw ?_|refine cw2 ?_ ?_|refine ow ?_|refine ow2 ?_ ?_|fail)
  refine rt_tmp (a1,c1,ls) rfl rfl rfl hls ?_
  exact ent
theorem take_min {α:Type} (b:List α) (k:Nat):b.take (min b.length k)=b.take k:=by
 rcases Nat.le_total b.length k with h|h
 ·rw [Nat.min_eq_left h,List.take_length,List.take_of_length_le h]
 ·rw [Nat.min_eq_right h]
def joinL (b:List (BitVec 8)) (n:Int):List (BitVec 8):=if 1≤n∧n≤512∧n≤b.length then b.take n.toNat else []
theorem block_Join (H:List Hl) (ad:Option Addr) (c:Nat) (ls:List (SlD (BitVec 8))) (n:Int) (h:Rs (stars H) Bs ad c ls) (hs:∀ s∈ls,Rs (stars H) B s.ad s.cap s.l) :
  Spec Tryz.prog 202 [.slice ad ls.length c,I n] H (fun _:Option Addr × Nat=>True) (fun r => .slice r.1 (joinL (cat ls) n).length r.2)
   (fun r => .row 5 1 (.slice r.1 (joinL (cat ls) n).length r.2) (joinL (cat ls) n).length ((joinL (cat ls) n).map B)::H):=by
 have b1:=h.le
 have b2:=h.big
 refine spec_pure (res:=fun r:Option Addr × Nat=>[.row 5 1 (.slice r.1 (joinL (cat ls) n).length r.2) (joinL (cat ls) n).length ((joinL (cat ls) n).map B)]) H Tryz.func202 rfl Tryz.ntmps202 (by kernel_rfl) rfl (fun W=>?_)
 by_cases hn:1≤n∧n≤512
 ·obtain ⟨m,rfl⟩:∃ m:Nat,n=m:=⟨n.toNat,by omega⟩
  repeat' (first|intro _|refine cw ?_|refine cw2 ?_ ?_|refine ow ?_|refine ow2 ?_ ?_|fail)
  refine st_ent (ent_nil 5 B) ?_
  refine st_loop (S:=Nat × Option Addr × Nat) (fun s=>[(1,I m),(5,.slice s.2.1 ((cat (ls.take s.1)).take m).length s.2.2),(14,.slice ad ls.length c),(15,I ls.length),(16,I s.1)]) (fun s=>[.row 5 1 (.slice s.2.1 ((cat (ls.take s.1)).take m).length s.2.2) ((cat (ls.take s.1)).take m).length (((cat (ls.take s.1)).take m).map B),.any (stars H)]) (fun s=>s.1≤ls.length) (fun s=>ls.length - s.1) (0,none,0) (Nat.zero_le _)
   (cov_cons rfl rfl (cov_cons rfl (by simp [cat]) cv)) (by simp only [List.take_zero,cat,List.flatMap_nil,List.take_nil,List.length_nil];exact ent) ?_
  rintro ⟨i,a1,c1⟩ hi
  dsimp only at hi ⊢
  by_cases hlt:i<ls.length
  ·have hsi:=hs ls[i] (List.getElem_mem _)
   have hle:=hsi.le
   have hm:((cat (ls.take i)).take m).length≤m:=by simp;omega
   generalize hk:min ls[i].l.length (m - ((cat (ls.take i)).take m).length)=k
   have hk1:k≤ls[i].l.length:=by omega
   have hstep:(cat (ls.take (i+1))).take m=(cat (ls.take i)).take m++ls[i].l.take k:=by
    rw [cat_succ _ _ hlt,List.take_append,←hk,take_min]
    congr 2
    simp;omega
   have hlk:(ls[i].l.take k).length=k:=by simp;omega
   repeat' (first|intro _|refine cw ?_|refine cw2 ?_ ?_|(refine k_indexAddr ?_;refine o1_indexAddr_rd rfl rfl h i rfl hlt (fun a ha=>?_))|(refine k_call ?_;first|refine o1_min (r:=(k:Int)) rfl rfl (by omega) ?_|refine ox_append rfl rfl (rx_any (hsi.cuth k hk1)) rfl rfl (fun _=>rfl) (by omega) (by omega) (fun a2 c2=>?_))|(refine k_slice ?_;refine o1_cs_h (xs:=ls[i].l) k rfl rfl rfl rfl hle hk1 ?_)|refine ow ?_|refine ow2 ?_ ?_|fail)
   refine nx_again (i+1,a2,c2) ?_ ?_ (cov_cons rfl rfl (cov_cons rfl ?_ cv)) ?_
   ·show i+1≤_;omega
   ·show ls.length - (i+1)<ls.length - i;omega
   ·show _=Value.slice a2 ((cat (ls.take (i+1))).take m).length c2
    rw [hstep,List.length_append]
   ·show Ent _ [Hl.row 5 1 (.slice a2 ((cat (ls.take (i+1))).take m).length c2) ((cat (ls.take (i+1))).take m).length (((cat (ls.take (i+1))).take m).map B),.any (stars H)]
    rw [hstep,List.length_append]
    exact ent
  ·have:i=ls.length:=by omega
   subst this
   rw [List.take_length]
   by_cases hj:m≤(cat ls).length
   ·have e1:joinL (cat ls) m=(cat ls).take m:=by rw [joinL,if_pos (by omega)];rfl
    have e2:((cat ls).take m).length=m:=by rw [List.length_take];omega
    rw [e1]
    repeat' (first|intro _|refine cw ?_|refine cw2 ?_ ?_|refine ow ?_|refine ow2 ?_ ?_|fail)
    refine rt_tmp (_,_) rfl rfl rfl trivial ?_
    exact ent
   ·have e1:joinL (cat ls) m=[]:=by rw [joinL,if_neg (by omega)]
    have e2:((cat ls).take m).length<m:=by rw [List.length_take];omega
    rw [e1]
    repeat' (first|intro _|refine cw ?_|refine cw2 ?_ ?_|refine ow ?_|refine ow2 ?_ ?_|fail)
    refine rt_ent (ent_nil 5 B) ?_
    refine rt_tmp (none,0) rfl rfl rfl trivial ?_
    exact ent
 ·have hj:joinL (cat ls) n=[]:=by rw [joinL,if_neg (by omega)]
  rw [hj]
  rcases (by omega:n<1∨512<n) with hn|hn
  all_goals
   repeat' (first|intro _|refine cw ?_|refine cw2 ?_ ?_|refine ow ?_|refine ow2 ?_ ?_|fail)
   refine rt_ent (ent_nil 5 B) ?_
   refine rt_tmp (none,0) rfl rfl rfl trivial ?_
   exact ent
theorem cat_pieces (image:List (BitVec 8)) (m z:Nat):∀ n,n*z≤m→((List.range n).map (pieceL image m z)).flatten=(full image m).take (n*z)
 | 0,_=>by simp
 | n+1,h=>by
  have h1:n*z≤(n+1)*z:=Nat.mul_le_mul_right z (Nat.le_succ n)
  rw [List.range_succ,List.map_append,List.flatten_append,cat_pieces image m z n (by omega)]
  simp only [List.map_cons,List.map_nil,List.flatten_cons,List.flatten_nil,List.append_nil,pieceL]
  have:(full image m).take (n*z)=((full image m).take ((n+1)*z)).take (n*z):=by rw [List.take_take,Nat.min_eq_left h1]
  rw [this,List.take_append_drop]
theorem pieceL_len (image:List (BitVec 8)) (m z i:Nat) (h:(i+1)*z≤m):(pieceL image m z i).length=z:=by
 have h1:(i+1)*z=i*z+z:=by rw [Nat.add_mul,Nat.one_mul]
 simp only [pieceL,List.length_drop,List.length_take,full_len]
 omega
def accL (n:Nat) (ls:List (SlD (BitVec 8))) (i:Nat):List (BitVec 8):=(ls.take i).foldl (fun a s=>xorL a s.l) (List.replicate n 0#8)
theorem accL_zero (n:Nat) (ls:List (SlD (BitVec 8))):accL n ls 0=List.replicate n 0#8:=rfl
theorem accL_succ (n:Nat) (ls:List (SlD (BitVec 8))) (i:Nat) (h:i<ls.length):accL n ls (i+1)=xorL (accL n ls i) ls[i].l:=by
 simp only [accL]
 rw [List.take_succ_eq_append_getElem h,List.foldl_append]
 rfl
theorem accL_len (n:Nat) (ls:List (SlD (BitVec 8))):∀ i,i≤ls.length→(∀ j (h:j<ls.length),j<i→ls[j].l.length=n)→(accL n ls i).length=n
 | 0,_,_=>by simp [accL]
 | i+1,h,hl=>by
  have h1:=accL_len n ls i (by omega) (fun j hj hji=>hl j hj (by omega))
  rw [accL_succ n ls i (by omega),xorL_len _ _ (by rw [h1,hl i (by omega) (by omega)]),h1]
def sumB (ls:List (SlD (BitVec 8))):List (BitVec 8):=match ls with
 | []=>[]
 | x::_=>if ∀ s∈ls,s.l.length=x.l.length then accL x.l.length ls ls.length else []
theorem sumB_no {ls:List (SlD (BitVec 8))} {n i:Nat} (h0:∀ h:0<ls.length,ls[0].l.length=n) (hi:i<ls.length) (hne:ls[i].l.length≠n):sumB ls=[]:=by
 cases ls with
 | nil=>simp at hi
 | cons x l =>
  have h0:x.l.length=n:=h0 (by simp)
  show (if ∀ s∈x::l,s.l.length=x.l.length then accL x.l.length (x::l) (x::l).length else [])=[]
  rw [if_neg]
  intro h
  exact hne ((h _ (List.getElem_mem hi)).trans h0)
theorem sumB_yes {ls:List (SlD (BitVec 8))} {n:Nat} (hp:0<ls.length) (h:∀ j (h:j<ls.length),ls[j].l.length=n):sumB ls=accL n ls ls.length:=by
 cases ls with
 | nil=>simp at hp
 | cons x l =>
  have h0:x.l.length=n:=h 0 (by simp)
  show (if ∀ s∈x::l,s.l.length=x.l.length then accL x.l.length (x::l) (x::l).length else [])=_
  rw [if_pos,h0]
  intro s hs
  obtain ⟨j,hj,rfl⟩:=List.mem_iff_getElem.1 hs
  rw [h j hj,h0]
set_option maxHeartbeats 2000000 in
theorem block_Sum (H:List Hl) (ad:Option Addr) (c:Nat) (ls:List (SlD (BitVec 8))) (h:Rs (stars H) Bs ad c ls) (hs:∀ s∈ls,Rs (stars H) B s.ad s.cap s.l) (hb:∀ s∈ls,s.l.length≤281474976710656) :
  Spec Tryz.prog 87 [.slice ad ls.length c] H (fun _:Option Addr × Nat=>True) (fun r => .slice r.1 (sumB ls).length r.2)
   (fun r => .row 5 1 (.slice r.1 (sumB ls).length r.2) (sumB ls).length ((sumB ls).map B)::H):=by
 have b1:=h.le
 have b2:=h.big
 refine spec_pure (res:=fun r:Option Addr × Nat=>[.row 5 1 (.slice r.1 (sumB ls).length r.2) (sumB ls).length ((sumB ls).map B)]) H Tryz.func87 rfl Tryz.ntmps87 (by kernel_rfl) rfl (fun W=>?_)
 obtain ⟨x0,hx0⟩:∃ x0:List (BitVec 8),∀ h:0<ls.length,ls[0].l=x0:=by
  by_cases h:0<ls.length
  ·exact ⟨ls[0].l,fun _=>rfl⟩
  ·exact ⟨[],fun h'=>absurd h' h⟩
 have hx1:x0.length≤281474976710656∨ls.length=0:=by
  by_cases h:0<ls.length
  ·left;rw [←hx0 h];exact hb _ (List.getElem_mem h)
  ·right;omega
 repeat' (first|intro _|refine cw ?_|refine cw2 ?_ ?_|refine ow ?_|refine ow2 ?_ ?_|fail)
 refine st_loop (S:=Nat × Nat) (fun s=>[(0,.slice ad ls.length c),(3,match s.1 with|0 => .slice none 0 0|_+1 => .slice (some ⟨s.2,0,none⟩) x0.length x0.length),(8,.slice ad ls.length c),(9,I ls.length),(10,I s.1)]) (fun s=>match s.1 with|0=>[.any (stars H)]|i+1=>[.box s.2 5 ((accL x0.length ls (i+1)).map B),.any (stars H)]) (fun s=>s.1≤ls.length∧∀ j (h:j<ls.length),j<s.1→ls[j].l.length=x0.length) (fun s=>ls.length - s.1) (0,0) ⟨Nat.zero_le _,fun j _ h=>absurd h (Nat.not_lt_zero j)⟩
  cv ent ?_
 rintro ⟨i,b⟩ ⟨hi,hall⟩
 dsimp only at hi hall
 by_cases hlt:i<ls.length
 ·have hsi:=hs ls[i] (List.getElem_mem _)
  have hbi:=hb ls[i] (List.getElem_mem _)
  have hle:=hsi.le
  have hbig:=hsi.big
  have hal:=accL_len x0.length ls i (by omega) hall
  cases i with
  | zero =>
   have hli:(ls[0]'hlt).l.length=x0.length:=by rw [hx0 hlt]
   have hxl:(xorL (accL x0.length ls 0) (ls[0]'hlt).l).length=x0.length:=by rw [xorL_len _ _ (by rw [hal,hli]),hal]
   have hz:(xorL (accL x0.length ls 0) (ls[0]'hlt).l).length=(accL x0.length ls 0).length:=by rw [hxl,hal]
   have hal2:∀ (j:Nat) (h:j<ls.length),j<1→ls[j].l.length=x0.length:=fun j _ hj=>by
    have:j=0:=by omega
    subst this;exact hli
   dsimp only
   repeat' (first|intro _|refine cw ?_|refine cw2 ?_ ?_|(refine k_indexAddr ?_;refine o1_ia 0 rfl rfl h rfl rfl hlt ?_)|(refine k_load ?_;refine o1_load_ia 0 rfl h hlt ?_)|(refine k_makeSlice ?_;refine o1_maker (enc:=B) 0#8 x0.length rfl rfl rfl rfl (by omega) (by omega) (by omega) (fun b=>?_))|refine ow ?_|refine ow2 ?_ ?_|fail)
   refine st_loop (S:=Nat) (fun k=>[(0,.slice ad ls.length c),(3,.slice (some ⟨b,0,none⟩) x0.length x0.length),(8,.slice ad ls.length c),(9,I ls.length),(10,I ((0:Nat):Int)),(25,.slice (ls[0]'hlt).ad (ls[0]'hlt).l.length (ls[0]'hlt).cap),(26,I (ls[0]'hlt).l.length),(27,I k)]) (fun k=>[.box b 5 ((partL (xorL (accL x0.length ls (0)) (ls[0]'hlt).l) (accL x0.length ls (0)) k).map B),.any (stars H)]) (fun k=>k≤x0.length) (fun k=>x0.length - k) 0 (Nat.zero_le _)
    cv (by rw [partL_zero,accL_zero];exact ent) ?_
   intro k hk
   by_cases hk2:k<x0.length
   ·have hpl:=partL_len hz k
    rw [hal] at hpl
    repeat' (first|intro _|refine cw ?_|refine cw2 ?_ ?_|(refine k_indexAddr ?_;first|refine o1_own k rfl rfl rfl hk2 ?_|refine o1_ia k rfl rfl hsi rfl rfl (by omega) ?_)|(refine k_load ?_;refine o1_load_ia k rfl hsi (by omega) ?_)|refine ow ?_|refine ow2 ?_ ?_|fail)
    refine nx_again (k+1) (by omega) (by omega) cv ?_
    rw [partL_at hz (Nat.le_refl k)]
    have hv:((accL x0.length ls (0))[k]'(by rw [hal];exact hk2) ^^^ (ls[0]'hlt).l[k]'(by omega))=(xorL (accL x0.length ls (0)) (ls[0]'hlt).l)[k]'(by rw [hxl];exact hk2):=by simp [xorL]
    rw [hv,partL_succ hz]
    exact ent
   ·have:k=x0.length:=by omega
    subst this
    repeat' (first|intro _|refine cw ?_|refine cw2 ?_ ?_|refine ow ?_|refine ow2 ?_ ?_|fail)
    refine nx_again (0+1,b) ⟨by show 0+1≤_;omega,hal2⟩ (by show ls.length - (0+1)<ls.length - (0);omega) cv ?_
    show Ent _ [.box b 5 ((accL x0.length ls (0+1)).map B),.any (stars H)]
    rw [accL_succ _ _ _ hlt,partL_full hz (by rw [hal])]
    exact ent
  | succ i =>
   by_cases hli:(ls[i+1]'hlt).l.length=x0.length
   ·have hxl:(xorL (accL x0.length ls (i+1)) (ls[i+1]'hlt).l).length=x0.length:=by rw [xorL_len _ _ (by rw [hal,hli]),hal]
    have hal2:∀ (j:Nat) (h:j<ls.length),j<i+1+1→ls[j].l.length=x0.length:=fun j hj hji=>by
     by_cases he:j=i+1
     ·subst he;exact hli
     ·exact hall j hj (by omega)
    have hz:(xorL (accL x0.length ls (i+1)) (ls[i+1]'hlt).l).length=(accL x0.length ls (i+1)).length:=by rw [hxl,hal]
    dsimp only
    repeat' (first|intro _|refine cw ?_|refine cw2 ?_ ?_|(refine k_indexAddr ?_;refine o1_ia (i+1) rfl rfl h rfl rfl hlt ?_)|(refine k_load ?_;refine o1_load_ia (i+1) rfl h hlt ?_)|refine ow ?_|refine ow2 ?_ ?_|fail)
    refine st_loop (S:=Nat) (fun k=>[(0,.slice ad ls.length c),(3,.slice (some ⟨b,0,none⟩) x0.length x0.length),(8,.slice ad ls.length c),(9,I ls.length),(10,I ((i+1:Nat):Int)),(25,.slice (ls[i+1]'hlt).ad (ls[i+1]'hlt).l.length (ls[i+1]'hlt).cap),(26,I (ls[i+1]'hlt).l.length),(27,I k)]) (fun k=>[.box b 5 ((partL (xorL (accL x0.length ls (i+1)) (ls[i+1]'hlt).l) (accL x0.length ls (i+1)) k).map B),.any (stars H)]) (fun k=>k≤x0.length) (fun k=>x0.length - k) 0 (Nat.zero_le _)
     cv (by rw [partL_zero];exact ent) ?_
    intro k hk
    by_cases hk2:k<x0.length
    ·have hpl:=partL_len hz k
     rw [hal] at hpl
     repeat' (first|intro _|refine cw ?_|refine cw2 ?_ ?_|(refine k_indexAddr ?_;first|refine o1_own k rfl rfl rfl hk2 ?_|refine o1_ia k rfl rfl hsi rfl rfl (by omega) ?_)|(refine k_load ?_;refine o1_load_ia k rfl hsi (by omega) ?_)|refine ow ?_|refine ow2 ?_ ?_|fail)
     refine nx_again (k+1) (by omega) (by omega) cv ?_
     rw [partL_at hz (Nat.le_refl k)]
     have hv:((accL x0.length ls (i+1))[k]'(by rw [hal];exact hk2) ^^^ (ls[i+1]'hlt).l[k]'(by omega))=(xorL (accL x0.length ls (i+1)) (ls[i+1]'hlt).l)[k]'(by rw [hxl];exact hk2):=by simp [xorL]
     rw [hv,partL_succ hz]
     exact ent
    ·have:k=x0.length:=by omega
     subst this
     repeat' (first|intro _|refine cw ?_|refine cw2 ?_ ?_|refine ow ?_|refine ow2 ?_ ?_|fail)
     refine nx_again (i+1+1,b) ⟨by show i+1+1≤_;omega,hal2⟩ (by show ls.length - (i+1+1)<ls.length - (i+1);omega) cv ?_
     show Ent _ [.box b 5 ((accL x0.length ls (i+1+1)).map B),.any (stars H)]
     rw [accL_succ _ _ _ hlt,partL_full hz (by rw [hal])]
     exact ent
   ·rw [sumB_no (fun h0=>by rw [hx0 h0]) hlt hli]
    dsimp only
    repeat' (first|intro _|refine cw ?_|refine cw2 ?_ ?_|(refine k_indexAddr ?_;refine o1_ia (i+1) rfl rfl h rfl rfl hlt ?_)|(refine k_load ?_;refine o1_load_ia (i+1) rfl h hlt ?_)|refine ow ?_|refine ow2 ?_ ?_|fail)
    refine rt_ent (ent_nil 5 B) ?_
    refine rt_tmp (none,0) rfl rfl rfl trivial ?_
    exact ent
 ·have:i=ls.length:=by omega
  cases i with
  | zero =>
   have hn:ls=[]:=List.eq_nil_of_length_eq_zero this.symm
   subst hn
   dsimp only
   repeat' (first|intro _|refine cw ?_|refine cw2 ?_ ?_|refine ow ?_|refine ow2 ?_ ?_|fail)
   refine rt_ent (ent_nil 5 B) ?_
   refine rt_tmp (none,0) rfl rfl rfl trivial ?_
   exact ent
  | succ m =>
   have hy:=sumB_yes (ls:=ls) (n:=x0.length) (by omega) (fun j hj=>hall j hj (by omega))
   have hal:=accL_len x0.length ls ls.length (Nat.le_refl _) (fun j hj _=>hall j hj (by omega))
   rw [←this] at hy hal
   rw [hy,hal]
   dsimp only
   repeat' (first|intro _|refine cw ?_|refine cw2 ?_ ?_|refine ow ?_|refine ow2 ?_ ?_|fail)
   refine rt_row (T:=5) (b:=b) (m:=x0.length) (cp:=x0.length) (cs:=(accL x0.length ls (m+1)).map B) (by rw [List.length_map,hal]) rfl (by omega) ?_
   refine rt_tmp (some ⟨b,0,none⟩,x0.length) rfl rfl rfl trivial ?_
   exact ent
def rtP2_0:List Row:=[⟨some 66,[],[],none⟩,⟨some 67,[],[],none⟩,⟨some 68,[0,1],[0,1],none⟩,⟨some 69,[2],[0,1,2],none⟩,⟨some 70,[],[],none⟩,⟨some 71,[],[],none⟩,⟨some 72,[4,5],[4,5],none⟩,⟨some 73,[6],[4,5,6],none⟩,⟨some 74,[3,7],[0,1,2,3,4,5,6,7],none⟩,⟨some 75,[0,1,0,1,2,3,4,5,6,7,8],[0,1,2,3,4,5,6,7,8],none⟩,⟨none,[9,8,0,1,2,3,4,5,6,7,8],[0,1,2,3,4,5,6,7,8,9],none⟩]
theorem clone_B (H:List Hl) (ad:Option Addr) (c:Nat) (l:List (BitVec 8)) (h:Rs (stars H) B ad c l) (hb:l.length≤140737488355328) :
  Spec Tryz.prog 29 [.slice ad l.length c] H (fun _:PA=>True) (fun r:PA => .slice r.1 l.length r.2) (fun r:PA => .row 5 1 (.slice r.1 l.length r.2) l.length (l.map B)::H):=by
 refine spec_pure (res:=fun r:PA=>[.row 5 1 (.slice r.1 l.length r.2) l.length (l.map B)]) H Tryz.func29 rfl Tryz.ntmps29 (by kernel_rfl) rfl (fun W=>?_)
 cases ad with
 | none =>
  have hl:l=[]:=by
   cases l with
   | nil=>rfl
   | cons a l=>obtain ⟨x,hx⟩:=h.sm (by simp);cases hx
  subst hl
  repeat' (first|intro _|refine cw ?_|refine cw2 ?_ ?_|refine ow ?_|refine ow2 ?_ ?_|fail)
  refine (rt_ent (ent_nil 5 B) ?_)
  refine rt_tmp (none,0) rfl rfl rfl trivial ?_
  exact ent
 | some a =>
  repeat' (first|intro _|refine cw ?_|refine cw2 ?_ ?_|(refine k_call ?_;refine ox_append_box (xs:=([]:List (BitVec 8))) rfl rfl rfl rfl (rx_any h) rfl rfl (fun _=>rfl) (by omega) (by have:=h.le;have:=h.big;omega) (fun _ _=>?_))|refine ow ?_|refine ow2 ?_ ?_|fail)
  refine rt_tmp (_,_) rfl rfl (by simp only [Nat.zero_add];rfl) trivial ?_
  simp only [Nat.zero_add,List.nil_append]
  exact ent
def oddB (z:Int) (s:SlD (BitVec 8)):Bool:=decide ((s.l.length:Int)≠z)
theorem pieces_odd (H:List Hl) (b:Nat) (z:Int) (s:SlD (BitVec 8)) (hb:Cl (stars H) ⟨b,3,none⟩ (I z)) :
  Spec Tryz.prog 175 [Bs s,.pointer (some ⟨b,0,none⟩)] H (fun _:Unit=>True) (fun _ => .bool (oddB z s)) (fun _=>H):=by
 refine spec_pure (res:=fun _=>[]) H Tryz.func175 rfl Tryz.ntmps175 (by kernel_rfl) rfl (fun W=>?_)
 repeat' (first|intro _|refine cw ?_|refine cw2 ?_ ?_|(refine k_load ?_;refine ox_load_any rfl hb ?_)|(refine k_binOp .neq ?_;refine o1_neq_d rfl rfl ?_)|refine ow ?_|refine ow2 ?_ ?_|fail)
 refine rt_tmp () rfl rfl rfl trivial ?_
 exact ent
theorem slices_IndexFunc (H:List Hl) (ad:Option Addr) (c b:Nat) (z:Int) (ls:List (SlD (BitVec 8))) (h:Rs (stars H) Bs ad c ls) (hb:Cl (stars H) ⟨b,3,none⟩ (I z)) :
  Spec Tryz.prog 207 [.slice ad ls.length c,.func (.func 175) #[] #[.pointer (some ⟨b,0,none⟩)]] H (fun r:Int=>decide (0≤r)=ls.any (oddB z) ∧ -1≤r∧r≤9223372036854775807) (fun r=>I r) (fun _=>H):=by
 refine spec_pure (res:=fun _:Int=>[]) H Tryz.func207 rfl Tryz.ntmps207 (by kernel_rfl) rfl (fun W=>?_)
 have hle:=h.le
 have hbg:=h.big
 repeat' (first|intro _|refine cw ?_|refine cw2 ?_ ?_|refine ow ?_|refine ow2 ?_ ?_|fail)
 refine st_loop (S:=Nat) (fun i=>[(0,.slice ad ls.length c),(1,.func (.func 175) #[] #[.pointer (some ⟨b,0,none⟩)]),(7,I ls.length),(8,I i)]) (fun i=>[.any (stars H)]) (fun i=>i≤ls.length∧(ls.take i).any (oddB z)=false) (fun i=>ls.length - i) 0 ⟨Nat.zero_le _,rfl⟩
  cv (Ent.refl _) ?_
 rintro i ⟨hi,hno⟩
 by_cases hlt:i<ls.length
 ·cases ho:oddB z ls[i]
  ·repeat' (first|intro _|refine cw ?_|refine cw2 ?_ ?_|(refine k_indexAddr ?_;refine o1_ia i rfl rfl h rfl rfl hlt ?_)|(refine k_load ?_;refine o1_load_ia i rfl h hlt ?_)|refine o1_kall (f:=175) (args:=[Bs ls[i]]) (caps:=[.pointer (some ⟨b,0,none⟩)]) rfl (fun _=>(pieces_odd _ b z ls[i] (cl_up hb)).bv (b:=false) ho) rfl (fun _ _=>?_)|refine ow ?_|refine ow2 ?_ ?_|fail)
   refine nx_again (i+1) ⟨by omega,?_⟩ (by omega) cv (Ent.refl _)
   rw [List.take_succ_eq_append_getElem hlt,List.any_append,hno]
   simp [ho]
  ·repeat' (first|intro _|refine cw ?_|refine cw2 ?_ ?_|(refine k_indexAddr ?_;refine o1_ia i rfl rfl h rfl rfl hlt ?_)|(refine k_load ?_;refine o1_load_ia i rfl h hlt ?_)|refine o1_kall (f:=175) (args:=[Bs ls[i]]) (caps:=[.pointer (some ⟨b,0,none⟩)]) rfl (fun _=>(pieces_odd _ b z ls[i] (cl_up hb)).bv (b:=true) ho) rfl (fun _ _=>?_)|refine ow ?_|refine ow2 ?_ ?_|fail)
   refine rt_tmp (i:Int) rfl rfl rfl ⟨?_,by omega,by omega⟩ (Ent.refl _)
   have h1:ls.any (oddB z)=true:=List.any_eq_true.2 ⟨ls[i],List.getElem_mem _,ho⟩
   rw [h1];simp
 ·have:i=ls.length:=by omega
  subst this
  repeat' (first|intro _|refine cw ?_|refine cw2 ?_ ?_|refine ow ?_|refine ow2 ?_ ?_|fail)
  refine rt_tmp (-1:Int) rfl rfl rfl ⟨?_,by omega,by omega⟩ (Ent.refl _)
  rw [List.take_length] at hno
  rw [hno];rfl
theorem slices_ContainsFunc (H:List Hl) (ad:Option Addr) (c b:Nat) (z:Int) (ls:List (SlD (BitVec 8))) (h:Rs (stars H) Bs ad c ls) (hb:Cl (stars H) ⟨b,3,none⟩ (I z)) :
  Spec Tryz.prog 174 [.slice ad ls.length c,.func (.func 175) #[] #[.pointer (some ⟨b,0,none⟩)]] H (fun _:Unit=>True) (fun _ => .bool (ls.any (oddB z))) (fun _=>H):=by
 refine spec_pure (res:=fun _=>[]) H Tryz.func174 rfl Tryz.ntmps174 (by kernel_rfl) rfl (fun W=>?_)
 repeat' (first|intro _|refine cw ?_|refine cw2 ?_ ?_|(refine k_fn 207 ?_;refine o1_call (fun _=>slices_IndexFunc _ ad c b z ls h.up (cl_up hb)) rfl (fun r hr=>?_))|(refine k_binOp .geq ?_;refine o1_geq_d rfl rfl ?_)|refine ow ?_|refine ow2 ?_ ?_|fail)
 refine rt_tmp () rfl rfl (by rw [←hr.1]) trivial ?_
 exact ent
def okP (K:Int) (z:Int) (ls:List (SlD (BitVec 8))):Bool:=decide ((ls.length:Int)=K) && !ls.any (oddB z)
theorem okP_z {K z:Nat} {ls:List (SlD (BitVec 8))} (h:okP K z ls=true):ls.length=K∧ls.any (oddB z)=false∧∀ s∈ls,s.l.length=z:=by
 simp only [okP,Bool.and_eq_true,decide_eq_true_eq,Bool.not_eq_true'] at h
 refine ⟨by omega,h.2,fun s hs=>?_⟩
 have:=List.any_eq_false.1 h.2 s hs
 simp [oddB] at this
 omega
def sumT (f:Nat→Bool) (L:List (List (BitVec 8))) (z i:Nat):List (BitVec 8):=(List.range z).map (fun k=>xsum (fun m=>pickB (f m) (at8 L m k)) i)
theorem sumT_len (f:Nat→Bool) (L:List (List (BitVec 8))) (z i:Nat):(sumT f L z i).length=z:=by simp [sumT]
theorem sumT_zero (f:Nat→Bool) (L:List (List (BitVec 8))) (z:Nat):sumT f L z 0=List.replicate z 0#8:=by
 simp only [sumT,xsum]
 apply List.ext_getElem <;> simp
theorem sumT_all (f:Nat→Bool) (L:List (List (BitVec 8))) (z:Nat):sumT f L z L.length=parS f L z:=rfl
theorem sumT_off {f:Nat→Bool} {L:List (List (BitVec 8))} {z i:Nat} (h:f i=false):sumT f L z (i+1)=sumT f L z i:=by
 simp only [sumT,xsum,h,pickB]
 simp
theorem sumT_get (f:Nat→Bool) (L:List (List (BitVec 8))) (z i k:Nat) (h:k<(sumT f L z i).length):(sumT f L z i)[k]=xsum (fun m=>pickB (f m) (at8 L m k)) i:=by simp [sumT]
theorem sumT_on {f:Nat→Bool} {L:List (List (BitVec 8))} {z i k:Nat} (h:f i=true) (hk:k<z) (hi:i<L.length) (hz:k<L[i].length):(sumT f L z (i+1))[k]'(by rw [sumT_len];exact hk)=(sumT f L z i)[k]'(by rw [sumT_len];exact hk) ^^^ L[i][k]:=by
 rw [sumT_get,sumT_get,xsum]
 congr 1
 simp [pickB,h,at8,List.getD_eq_getElem?_getD,hi,hz]
def allP (s:BitVec 32) (K P z:Nat) (L:List (List (BitVec 8))):List (List (BitVec 8)):=L++(List.range P).map (fun j=>parS (parR s K j) L z)
theorem xsum_row {s:BitVec 32} {K P j i:Nat} {v:VD} (hv:v.l=rowR s (K+P) K j) (hi:i<K):at_ v.l i=parR s K j i:=by
 rw [hv];exact rowR_at _ _ _ _ _ (by omega)
set_option maxHeartbeats 4000000 in
theorem precode_Pieces (H:List Hl) (s:BitVec 32) (K P z:Nat) (ad:Option Addr) (c:Nat) (ls:List (SlD (BitVec 8))) (h:Rs (stars H) Bs ad c ls) (hs:∀ s∈ls,Rs (stars H) B s.ad s.cap s.l) (hm:mayP K P z=true) (hok:okP K z ls=true) :
  Spec Tryz.prog 133 [parV s K P z,.slice ad ls.length c] H (fun r:Option Addr × Nat × List (SlD (BitVec 8))=>r.2.2.map (·.l)=allP s K P z (ls.map (·.l))) (fun r => .slice r.1 r.2.2.length r.2.1)
   (fun r => .row 22 1 (.slice r.1 r.2.2.length r.2.1) r.2.2.length (r.2.2.map Bs) :: .any (pcs 5 r.2.2)::H):=by
 refine spec_pure (res:=fun r:Option Addr × Nat × List (SlD (BitVec 8))=>[.row 22 1 (.slice r.1 r.2.2.length r.2.1) r.2.2.length (r.2.2.map Bs),.any (pcs 5 r.2.2)]) H Tryz.func133 rfl Tryz.ntmps133 (by kernel_rfl) rfl (fun W=>?_)
 obtain ⟨hlK,hno,hz⟩:=okP_z hok
 have hb:1≤(K:Int)∧(K:Int)≤64∧0≤(P:Int)∧(P:Int)≤16∧1≤(z:Int)∧(z:Int)≤16:=by simpa [mayP] using hm
 obtain ⟨b1,b2,b3,b4,b5,b6⟩:=hb
 repeat' (first|intro _|refine cw ?_|refine cw2 ?_ ?_|(refine k_box ?_;refine o1_box rfl rfl (fun bp=>?_))|(refine k_fn 106 ?_;refine o1_call (fun _=>(spread_May _ _ _ _ _).bv (b:=true) hm) rfl (fun _ _=>?_))|(refine k_binOp .neq ?_;refine o1_neq_f rfl rfl (by omega) ?_)|refine o1_func rfl ?_|(refine k_fn 174 ?_;refine o1_call (fun _=>(slices_ContainsFunc _ ad c bp z ls h.up (cl_box rfl)).bv (b:=false) hno) rfl (fun _ _=>?_))|refine ow ?_|refine ow2 ?_ ?_|fail)
 refine st_ent (ent_nil 22 Bs) (st_ent (fun h hh=>sel_swap h (pcs_nil (T:=5) h hh)) ?_)
 refine st_loop (S:=Nat × Option Addr × Nat × List (SlD (BitVec 8))) (fun q=>[(1,.slice ad ls.length c),(2,.pointer (some ⟨bp,0,none⟩)),(5,.slice q.2.1 q.2.2.2.length q.2.2.1),(29,.slice ad ls.length c),(30,I ls.length),(31,I q.1)])
  (fun q=>[.row 22 1 (.slice q.2.1 q.2.2.2.length q.2.2.1) q.2.2.2.length (q.2.2.2.map Bs),.any (pcs 5 q.2.2.2),.box bp 91 [W4 s,I K,I P,I z],.any (stars H)])
  (fun q=>q.1≤ls.length∧q.2.2.2.map (·.l)=(ls.map (·.l)).take q.1) (fun q=>ls.length - q.1) (0,none,0,[]) ⟨by omega,rfl⟩
  cv ent ?_
 rintro ⟨i,a1,c1,out⟩ ⟨hi,hout⟩
 dsimp only at hi hout ⊢
 have hol:out.length=i:=by have:=congrArg List.length hout;simp at this;omega
 by_cases hlt:i<ls.length
 ·have hsi:=hs ls[i] (List.getElem_mem _)
  have hzi:=hz ls[i] (List.getElem_mem _)
  obtain ⟨si,hsi0⟩:∃ si,ls[i]=si:=⟨_,rfl⟩
  rw [hsi0] at hsi hzi
  repeat' (first|intro _|refine cw ?_|refine cw2 ?_ ?_|(refine k_indexAddr ?_;refine o1_ia i rfl rfl h rfl rfl hlt ?_)|(refine k_load ?_;(refine o1_load_ia i rfl h hlt ?_;rw [hsi0]))|(refine k_fn 29 ?_;refine o1_call (fun _=>clone_B _ _ _ si.l (Rs.up hsi) (by omega)) rfl (fun ⟨a5,c5⟩ _=>?_))|(refine k_buildSlice ?_;refine o1_lit_enc Bs [(⟨a5,c5,si.l⟩:SlD (BitVec 8))] rfl rfl rfl (fun _=>rfl) rfl rfl rfl (fun _=>?_))|(refine k_call ?_;refine ox_append (xs:=out) (ys:=[(⟨a5,c5,si.l⟩:SlD (BitVec 8))]) rfl rfl (rx_box rfl (by decide)) rfl rfl (fun _=>rfl) (by omega) (by omega) (fun a9 c9=>?_))|refine ow ?_|refine ow2 ?_ ?_|fail)
  obtain ⟨u,hu⟩:∃ u:SlD (BitVec 8),u=⟨a5,c5,si.l⟩:=⟨_,rfl⟩
  refine nx_push (T:=5) (ls:=out) (s:=u) (R:=[.row 22 1 (.slice a9 (out.length+1) c9) (out.length+1) ((out++[u]).map Bs),.box bp 91 [W4 s,I K,I P,I z],.any (stars H)]) (by rw [hu];exact ent) ?_
  refine nx_again (i+1,a9,c9,out++[u]) ⟨?_,?_⟩ ?_ (cov_cons rfl rfl (cov_cons rfl rfl (cov_cons rfl ?_ cv))) ?_
  ·show i+1≤ls.length;omega
  ·show (out++[u]).map (·.l)=_
   rw [List.map_append,hout,List.take_succ_eq_append_getElem (by rw [List.length_map];exact hlt),hu]
   simp [hsi0]
  ·show ls.length - (i+1)<ls.length - i;omega
  ·show Value.slice a9 _ c9=Value.slice a9 (out++[u]).length c9
   rw [List.length_append];rfl
  ·show Ent _ [.row 22 1 (.slice a9 (out++[u]).length c9) (out++[u]).length ((out++[u]).map Bs),.any (pcs 5 (out++[u])),.box bp 91 [W4 s,I K,I P,I z],.any (stars H)]
   rw [List.length_append,List.length_singleton]
   exact ent
 ·have:i=ls.length:=by omega
  subst this
  clear hlt
  repeat' (first|intro _|refine cw ?_|refine cw2 ?_ ?_|(refine k_fn 176 ?_;refine o1_call (fun _=>precode_Rows _ s K P z hm) rfl (fun ⟨ar,cr,vs⟩ hr=>?_))|refine ow ?_|refine ow2 ?_ ?_|fail)
  obtain ⟨hvs,hvk⟩:=hr
  dsimp only at hvs hvk ⊢
  have hvl:vs.length=P:=by have:=congrArg List.length hvs;simpa [rowsL] using this
  obtain ⟨L,hL⟩:∃ L,ls.map (·.l)=L:=⟨_,rfl⟩
  have hLl:L.length=K:=by rw [←hL,List.length_map,hlK]
  rw [hL] at hout
  refine st_loop (S:=Nat × Option Addr × Nat × List (SlD (BitVec 8))) (fun q=>[(1,.slice ad ls.length c),(2,.pointer (some ⟨bp,0,none⟩)),(5,.slice q.2.1 q.2.2.2.length q.2.2.1),(42,.slice ar vs.length cr),(43,I vs.length),(44,I q.1)])
   (fun q=>[.row 22 1 (.slice q.2.1 q.2.2.2.length q.2.2.1) q.2.2.2.length (q.2.2.2.map Bs),.any (pcs 5 q.2.2.2),.row 148 1 (.slice ar vs.length cr) vs.length (vs.map Pv),.any (vecs vs),.box bp 91 [W4 s,I K,I P,I z],.any (stars H)])
   (fun q=>q.1≤vs.length∧q.2.2.2.map (·.l)=L++(List.range q.1).map (fun j=>parS (parR s K j) L z)) (fun q=>vs.length - q.1) (0,a1,c1,out) ⟨by omega,by rw [hout,List.take_of_length_le (by omega)];simp⟩
   cv ent ?_
  clear hout hol
  rintro ⟨j,a2,c2,out2⟩ ⟨hj,hout2⟩
  dsimp only at hj hout2 ⊢
  have hol2:out2.length=K+j:=by have:=congrArg List.length hout2;simp at this;omega
  by_cases hjt:j<vs.length
  ·have hvj:vs[j].l=rowR s (K+P) K j:=by
    have:(vs.map (·.l))[j]'(by simpa using hjt)=(rowsL s K P)[j]'(by rw [←hvs];simpa using hjt):=by simp only [hvs]
    simpa [rowsL] using this
   have hvo:=(hvk vs[j] (List.getElem_mem _)).1
   obtain ⟨f,hf⟩:∃ f,parR s K j=f:=⟨_,rfl⟩
   repeat' (first|intro _|refine cw ?_|refine cw2 ?_ ?_|(refine k_indexAddr ?_;refine o1_iah (enc:=Pv) (c:=cr) (xs:=vs) j rfl rfl rx_row rfl rfl hjt ?_)|(refine k_load ?_;refine o1_load_iah (enc:=Pv) (c:=cr) (xs:=vs) j rfl rx_row hjt ?_)|(refine k_makeSlice ?_;refine o1_maker (enc:=B) 0#8 z rfl rfl rfl rfl rfl (by omega) (by omega) (fun b10=>?_))|refine ow ?_|refine ow2 ?_ ?_|fail)
   rw [←sumT_zero f L z]
   refine st_loop (S:=Nat) (fun i=>[(1,.slice ad ls.length c),(2,.pointer (some ⟨bp,0,none⟩)),(5,.slice a2 out2.length c2),(9,Pv vs[j]),(10,.slice (some ⟨b10,0,none⟩) z z),(42,.slice ar vs.length cr),(43,I vs.length),(44,I j),(51,.slice ad ls.length c),(52,I ls.length),(53,I i)])
    (fun i=>[.box b10 5 ((sumT f L z i).map B),.row 22 1 (.slice a2 out2.length c2) out2.length (out2.map Bs),.any (pcs 5 out2),.row 148 1 (.slice ar vs.length cr) vs.length (vs.map Pv),.any (vecs vs),.box bp 91 [W4 s,I K,I P,I z],.any (stars H)])
    (fun i=>i≤ls.length) (fun i=>ls.length - i) 0 (Nat.zero_le _)
    cv ent ?_
   intro i hi
   by_cases hit:i<ls.length
   ·have hsi:=hs ls[i] (List.getElem_mem _)
    have hzi:=hz ls[i] (List.getElem_mem _)
    have hfi:hasV vs[j].l i=f i:=by rw [hasV_nat,xsum_row hvj (by omega),hf]
    have hLi:L[i]'(by omega)=ls[i].l:=by subst hL;simp
    obtain ⟨S0,hS0⟩:∃ S0,sumT f L z i=S0:=⟨_,rfl⟩
    obtain ⟨S1,hS1⟩:∃ S1,sumT f L z (i+1)=S1:=⟨_,rfl⟩
    have hS0l:S0.length=z:=by rw [←hS0,sumT_len]
    have hS1l:S1.length=z:=by rw [←hS1,sumT_len]
    have hSl:S1.length=S0.length:=by omega
    rw [hS0]
    repeat' (first|intro _|refine cw ?_|refine cw2 ?_ ?_|(refine k_indexAddr ?_;refine o1_ia i rfl rfl h rfl rfl hit ?_)|(refine k_load ?_;refine o1_load_ia i rfl h hit ?_)|refine ow ?_|refine ow2 ?_ ?_|fail)
    refine st_loop (S:=Nat) (fun k=>[(1,.slice ad ls.length c),(2,.pointer (some ⟨bp,0,none⟩)),(5,.slice a2 out2.length c2),(9,Pv vs[j]),(10,.slice (some ⟨b10,0,none⟩) z z),(11,I i),(12,Bs ls[i]),(42,.slice ar vs.length cr),(43,I vs.length),(44,I j),(51,.slice ad ls.length c),(52,I ls.length),(53,I i),(59,I ls[i].l.length),(60,I k)])
     (fun k=>[.box b10 5 ((partL S1 S0 k).map B),.row 22 1 (.slice a2 out2.length c2) out2.length (out2.map Bs),.any (pcs 5 out2),.row 148 1 (.slice ar vs.length cr) vs.length (vs.map Pv),.any (vecs vs),.box bp 91 [W4 s,I K,I P,I z],.any (stars H)])
     (fun k=>k≤z) (fun k=>z - k) 0 (Nat.zero_le _)
     cv (by show Ent _ (.box b10 5 ((partL S1 S0 0).map B)::_);rw [partL_zero];exact ent) ?_
    intro k hk
    by_cases hkz:k<z
    ·have hql:=partL_len hSl k
     have hka:k<(partL S1 S0 k).length:=by omega
     have hpk:(partL S1 S0 k)[k]=S0[k]'(by omega):=partL_at hSl (Nat.le_refl k) _
     have hset:(partL S1 S0 k).set k (S1[k]'(by omega))=partL S1 S0 (k+1):=partL_succ hSl (by omega)
     cases hon:f i
     ·have e1:S1=S0:=by rw [←hS1,←hS0,sumT_off hon]
      have e2:partL S1 S0 (k+1)=partL S1 S0 k:=by subst e1;simp [partL]
      repeat' (first|intro _|refine cw ?_|refine cw2 ?_ ?_|(refine k_fn 143 ?_;refine o1_call (fun hh=>(vec_Has _ vs[j] i (vecs_read (vs:=vs) (List.getElem_mem _) hvo hh)).bv (b:=false) (by rw [hfi,hon])) rfl (fun _ _=>?_))|refine ow ?_|refine ow2 ?_ ?_|fail)
      refine nx_again (k+1) (by omega) (by omega) cv ?_
      rw [e2]
      exact ent
     ·have e1:S0[k]'(by omega) ^^^ ls[i].l[k]'(by omega)=S1[k]'(by omega):=by
       subst hS0 hS1
       rw [sumT_on hon hkz (by omega) (by rw [hLi];omega)]
       simp only [hLi]
      have hkl:k<ls[i].l.length:=by omega
      repeat' (first|intro _|refine cw ?_|refine cw2 ?_ ?_|(refine k_fn 143 ?_;refine o1_call (fun hh=>(vec_Has _ vs[j] i (vecs_read (vs:=vs) (List.getElem_mem _) hvo hh)).bv (b:=true) (by rw [hfi,hon])) rfl (fun _ _=>?_))|refine ow ?_|refine ow2 ?_ ?_|fail)
      refine st_stages' [(10,_),(13,_),(12,_)] rtP2_0 [10] [⟨[0,1,2,3,4,5,6,7,8,9],[],some 10⟩,⟨[],[],none⟩] mixed cv (by kernel_rfl) (by kernel_rfl) ?_
      repeat' (first|intro _|refine sg ?_|(refine p_indexAddr ?_;refine po (by first|refine o1_own k rfl rfl rfl (by omega) fz|refine o1_ia k rfl rfl hsi rfl rfl hkl fz|fail) ?_)|(refine p_load ?_;refine po (by first|((refine ox_load_enc (enc:=B) (l:=partL S1 S0 k) rfl hka ?_;rw [hpk]);all_goals exact fz)|refine o1_load_ia k rfl hsi hkl fz|fail) ?_)|(refine p_binOp .xor ?_;refine po (by first|((refine o1_uxor rfl rfl ?_;rw [e1]);all_goals exact fz)|fail) ?_)|refine pw ?_|refine pdd ?_|(refine k_store ?_;(refine ox_store_enc B (l:=partL S1 S0 k) rfl rfl hka rfl ?_;rw [hset]))|refine ow ?_|fail)
      all_goals dsimp only [List.cons_append,List.nil_append]
      repeat' (first|intro _|refine cw ?_|refine cw2 ?_ ?_|refine ow ?_|refine ow2 ?_ ?_|fail)
      refine nx_again (k+1) (by omega) (by omega) cv ?_
      exact ent
    ·have:k=z:=by omega
     subst this
     rw [partL_full hSl hS0l.symm]
     repeat' (first|intro _|refine cw ?_|refine cw2 ?_ ?_|refine ow ?_|refine ow2 ?_ ?_|fail)
     refine nx_again (i+1) (by omega) (by omega) cv ?_
     rw [hS1]
     exact ent
   ·have:i=L.length:=by omega
    subst this
    have hpl:=parS_len f L z
    rw [sumT_all]
    obtain ⟨u,hu⟩:∃ u:SlD (BitVec 8),u=⟨some ⟨b10,0,none⟩,z,parS f L z⟩:=⟨_,rfl⟩
    have hul:u.l=parS f L z:=by rw [hu]
    have hBu:Bs u = .slice (some ⟨b10,0,none⟩) z z:=by rw [hu];show Value.slice _ _ _=_;rw [hpl]
    repeat' (first|intro _|refine cw ?_|refine cw2 ?_ ?_|(refine k_buildSlice ?_;refine o1_lit_enc Bs [u] rfl rfl (by show _=[Bs u];rw [hBu];rfl) (fun _=>rfl) rfl rfl rfl (fun _=>?_))|(refine k_call ?_;refine ox_append (xs:=out2) (ys:=[u]) rfl rfl (rx_box rfl (by decide)) rfl rfl (fun _=>rfl) (by omega) (by omega) (fun a9 c9=>?_))|refine ow ?_|refine ow2 ?_ ?_|fail)
    refine nx_row (T:=5) (b:=b10) (m:=z) (cp:=z) (cs:=(parS f L z).map B) (by rw [List.length_map,hpl]) rfl (by omega) ?_
    refine nx_push (T:=5) (ls:=out2) (s:=u) (R:=[.row 22 1 (.slice a9 (out2.length+1) c9) (out2.length+1) ((out2++[u]).map Bs),.row 148 1 (.slice ar vs.length cr) vs.length (vs.map Pv),.any (vecs vs),.box bp 91 [W4 s,I K,I P,I z],.any (stars H)]) (by rw [hBu,hul,hpl];exact ent) ?_
    refine nx_again (j+1,a9,c9,out2++[u]) ⟨?_,?_⟩ ?_ (cov_cons rfl rfl (cov_cons rfl rfl (cov_cons rfl ?_ cv))) ?_
    ·show j+1≤vs.length;omega
    ·show (out2++[u]).map (·.l)=_
     rw [List.map_append,hout2,List.range_succ,List.map_append]
     simp [hul,hf]
    ·show vs.length - (j+1)<vs.length - j;omega
    ·show Value.slice a9 _ c9=Value.slice a9 (out2++[u]).length c9
     rw [List.length_append];rfl
    ·show Ent _ [.row 22 1 (.slice a9 (out2++[u]).length c9) (out2++[u]).length ((out2++[u]).map Bs),.any (pcs 5 (out2++[u])),.row 148 1 (.slice ar vs.length cr) vs.length (vs.map Pv),.any (vecs vs),.box bp 91 [W4 s,I K,I P,I z],.any (stars H)]
     rw [List.length_append,List.length_singleton]
     exact ent
  ·have:j=vs.length:=by omega
   subst this
   repeat' (first|intro _|refine cw ?_|refine cw2 ?_ ?_|refine ow ?_|refine ow2 ?_ ?_|fail)
   refine rt_tmp (a2,c2,out2) rfl rfl rfl ?_ ?_
   ·show out2.map (·.l)=_
    rw [hout2,hvl,allP,hL]
   exact ent
end Go.Dp
namespace Go.Dp
open Go.RowKit
theorem run_from_unsafe {P:Program} {src dst u:TypeId} (hs:P.underlying src=some .unsafePointer) (hd:P.underlying dst=some (.pointer u)) {a:Addr} {e:TypeId} {m:Nat} {w:World} {i:TypeInfo} (hi:P.info? u=some i) (hsh:w.shape? a.block=some (e,m)) (hl:liesAt P P.depth e (m / P.cellsOf e) a.off u 1=true):(convert src dst (.pointer (some a))).run P w = .ok (.pointer (some a)) w:=by
 simp [convert,run_underlying hs,run_underlying hd,Conv.unsafePointer,Conv.seenAt,viewAt,hsh,variablesAt,hl,sizeOf,typeInfo,hi]
theorem run_call_loadp {P:Program} {f:FuncId} {fn:Func} (hf:P.funcs[f]?=some fn) (hname:(fn.name == "runtime.NumGoroutine")=false) (hb:fn.body.isNone=true) (hn:Extern.findNext fn=none)
  (he:Extern.find fn=some (Extern.Atomic.loadT .ptr)) {a:Addr} {x:Option Addr} {w:World} (hc:w.cell? a=some (.pointer x)) :
  (callFunc f #[.pointer (some a)]).run P w = .ok (.value (.pointer x)) w:=by
 rw [run_callFunc_extern hf hname hb hn he]
 change (Sem.run P (do Extern.Atomic.read .ptr (← asAddr (.pointer (some a)))) w).andThen _=_
 simp [Extern.Atomic.read,asAddr,hc,Result.andThen]
theorem run_call_storep {P:Program} {f:FuncId} {fn:Func} (hf:P.funcs[f]?=some fn) (hname:(fn.name == "runtime.NumGoroutine")=false) (hb:fn.body.isNone=true) (hn:Extern.findNext fn=none)
  (he:Extern.find fn=some Extern.Atomic.storeT) {a:Addr} {y:Option Addr} {u:Value} {w:World} (hc:w.cell? a=some u) (hz:w.frozen? a=false) :
  (callFunc f #[.pointer (some a),.pointer y]).run P w = .ok (.value (.tuple #[])) (w.setCell a (.pointer y)):=by
 rw [run_callFunc_extern hf hname hb hn he]
 change (Sem.run P (do
  store (← asAddr (.pointer (some a))) (.pointer y) .atomic
  pure Extern.Atomic.none_) w).andThen _=_
 simp [asAddr,hc,hz,run_store P w a (.pointer y) .atomic rfl,Result.andThen,Extern.Atomic.none_]
section
variable {P:Program} {n:Nat} {H:List Hl} {e:Ev} {C:Value→List Hl→Prop} {ty:TypeId}
variable {f:FuncId} {xs:List Operand} {ats:Array TypeId} {b i:Nat} {T:TypeId} {cs:List Value} {H':List Hl} {y:Option Addr}
theorem o1_xloadp (x:XFn P f (Extern.Atomic.loadT .ptr)) (hxs:opds e xs=some [.pointer (some ⟨b,i,none⟩)]) [s:SBox H b T cs H'] (hv:cs[i]?=some (.pointer y)) (h:C (.pointer y) H):O1 P (.call ⟨.value (.func f),xs.toArray,ats⟩) ty n e H C :=
 o1_xval _ hxs (fun a w ho=>by
  obtain ⟨fn,h1,h2,h3,h4,h5⟩:=x.of
  have hc:=ho.sat.cell s.s i
  rw [hv] at hc
  exact run_call_loadp h1 h2 h3 h4 h5 hc) h
theorem o1_xstorep (x:XFn P f Extern.Atomic.storeT) (hxs:opds e xs=some [.pointer (some ⟨b,i,none⟩),.pointer y]) [s:SBox H b T cs H'] (hi:i<cs.length) (h:C (.tuple #[]) (.box b T (cs.set i (.pointer y))::H')):O1 P (.call ⟨.value (.func f),xs.toArray,ats⟩) ty n e H C :=
 o1_xput hxs hi (fun a w ho hc hz=>by
  obtain ⟨fn,h1,h2,h3,h4,h5⟩:=x.of
  exact run_call_storep h1 h2 h3 h4 h5 hc hz) h
theorem o1_to_unsafe {src dst u:TypeId} {x:Operand} (hs:P.underlying src=some (.pointer u)) (hd:P.underlying dst=some .unsafePointer) (hsz:(P.info? u).map (fun i=>decide (i.size=0))=some false) {v:Value} (hx:opd e x=some (.pointer (some ⟨b,i,none⟩))) [s:SBox H b T cs H'] (hv:cs[i]?=some v) (h:C (.pointer (some ⟨b,i,none⟩)) H):O1 P (.convert src dst x) ty n e H C :=
 o1_val _ (fun a w ho=>by
  have hc:=ho.sat.cell s.s i
  rw [hv] at hc
  simp [execOp,ho.ev.eval hx,run_convert_to_unsafe hs hd hsz hc]) h
theorem shape_box {w:World} {T:TypeId} (h:w.heap[b]?=some (.cells cs.toArray T (0,0))):w.shape? b=some (T,cs.length):=by
 simp [World.shape?,h]
theorem o1_from_unsafe {src dst u:TypeId} {x:Operand} (hs:P.underlying src=some .unsafePointer) (hd:P.underlying dst=some (.pointer u)) (hi:(P.info? u).isSome=true) (hx:opd e x=some (.pointer (some ⟨b,0,none⟩))) [s:SBox H b T cs H'] (hl:liesAt P P.depth T (cs.length / P.cellsOf T) 0 u 1=true) (h:C (.pointer (some ⟨b,0,none⟩)) H):O1 P (.convert src dst x) ty n e H C :=
 o1_val _ (fun a w ho=>by
  obtain ⟨inf,hinf⟩:=Option.isSome_iff_exists.1 hi
  have hsh:=shape_box (ho.sat.cells s.s)
  simp [execOp,ho.ev.eval hx,run_from_unsafe hs hd hinf (a:=⟨b,0,none⟩) hsh hl]) h
end
end Go.Dp
