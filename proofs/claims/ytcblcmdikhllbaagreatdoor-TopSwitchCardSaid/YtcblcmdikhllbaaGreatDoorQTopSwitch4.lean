/-
  wheel: a sector's records, walked.
  wheel: Open, walked.
  wheel: Records, Room, enters, Add, walked.
  wheel: Add, walked.
  decode: Image, walked; the row of a symbol of the image's own.
  store: Open, Put, Kept, Needs, Image, walked.
  store: Put, Kept, Needs, Image, walked.
  What is taken in, piece by piece, tells the image, plain.
  What programming and erasing come to, with and without power, plain.
  Sums tell every change of four bytes, plain.
  A cell is written: what cellW says. Found none, or one of both.
  The cell: what stands in it, whatever power does, plain.
  The cell is written, whatever power does, plain.
  The cell written: what comes of it, whatever power does, plain.
  The wheel, with the power on: what a newer generation reads, plain.
  StateBytes of the reference, walked.
  States as bytes, cut and spoilt, plain.
  device: its memory's pointer; met, keeps, walked.
  boot.Activate, and the reference's Start, Confirm, Activate, Drop, walked.
  device: opens, walked.
  session.Newer, First of the states' laws, good of the sessions' laws, walked.
  session.Admit, walked, and awake of the laws of session.
  awake of the laws of session, and the law SessionRises, walked.
  The law SessionNewer, walked.
  device: hears, walked.
  device: takes, walked.
  device: what a device is; Packet, walked.
  Conditions: those that stand in each theorem.
-/
import Derived.Test.YtcblcmdikhllbaaGreatDoorQTopSwitch1
import Derived.Test.YtcblcmdikhllbaaGreatDoorQTopSwitch3
import Derived.Test.YtcblcmdikhllbaaGreatDoorQTopSwitch2
set_option linter.unusedVariables false
set_option linter.unusedSimpArgs false
namespace Go.Dp
open Go.RowKit Go.Proofs
def rtD16_0:List Row:=[⟨some 40,[],[],none⟩,⟨some 41,[],[],none⟩,⟨some 42,[1],[1],none⟩,⟨some 43,[2],[1,2],none⟩,⟨some 44,[3],[1,2,3],none⟩,⟨some 45,[],[],none⟩,⟨some 46,[5],[5],none⟩,⟨some 47,[4,6],[1,2,3,4,5,6],none⟩,⟨some 48,[0,0,1,2,3,4,5,6,7],[0,1,2,3,4,5,6,7],none⟩,⟨some 49,[8,0,1,2,3,4,5,6,7],[0,1,2,3,4,5,6,7,8],none⟩,⟨none,[9,7,7,0,1,2,3,4,5,6,7],[0,1,2,3,4,5,6,7,8,9],none⟩]
structure RecD where
 id:BitVec 32
 ad:Option Addr
 n:Nat
 cap:Nat
 l:List (BitVec 8)
def RecD.p (r:RecD):Rec:=(r.id,r.l)
abbrev rF (r:RecD):Value:=W4 r.id
abbrev rG (r:RecD):Value := .slice r.ad r.n r.cap
def RdRs (A:Hp→Prop) (rs:List RecD):Prop:=∀ r∈rs,Rs A B r.ad r.cap r.l∧r.l.length=r.n
theorem RdRs.gr {A A':Hp→Prop} {rs:List RecD} (h:RdRs A rs) (g:Gr A A'):RdRs A' rs:=fun r hr=>⟨rs_gr (h r hr).1 g,(h r hr).2⟩
theorem RdRs.nil {A:Hp→Prop}:RdRs A []:=fun r hr=>by cases hr
theorem RdRs.snoc {A:Hp→Prop} {rs:List RecD} {r:RecD} (h:RdRs A rs) (hr:Rs A B r.ad r.cap r.l) (hl:r.l.length=r.n):RdRs A (rs++[r]):=fun q hq=>by
 rcases List.mem_append.1 hq with hq|hq
 ·exact h q hq
 ·obtain rfl:q=r:=by simpa using hq
  exact ⟨hr,hl⟩
abbrev rsR (la:Option Addr) (lc:Nat) (rs:List RecD):Hl := .row 243 2 (.slice la rs.length lc) rs.length (w2 rF rG rs)
theorem recAt_len {l:List (BitVec 8)} {g:BitVec 32} {z p:Nat} {id:BitVec 32} {d:List (BitVec 8)} (h:recAt l g z p=some (id,d)) (ha:atW z p+(z+13)≤l.length):(seg l (atW z p) (z+8)).drop 8=d∧d.length=z:=by
 unfold recAt recC at h
 split at h
 ·cases h
 split at h
 ·cases h
 split at h
 ·cases h
 obtain ⟨_,e2⟩:=Prod.mk.inj (Option.some.inj h)
 have e3:(seg l (atW z p) (z+8)).drop 8=d:=by
  rw [←e2]
  unfold seg
  rw [List.drop_take,List.drop_take,List.take_take]
  congr 1;omega
 refine ⟨e3,?_⟩
 rw [←e3,List.length_drop,seg_len (by omega)]
 omega
set_option maxHeartbeats 8000000 in
theorem wh_reads (H:List Hl) (A:Hp→Prop) (wb fb:Nat) (g:BitVec 32) (z:Nat) (ad:Option Addr) (c:Nat) (f:Fl) (la:Option Addr) (lc:Nat) (rs:List RecD) (rdy:Int) (s:Nat) (hz1:1≤z) (hz2:z≤16) (hf:RdFl (stars H) fb ad c f) (hd:f.pw.isDown=false) (hs:s<8) (hrs:RdRs A rs) (hrl:rs.length≤1000) :
  Spec Tryz.prog 194 [.pointer (some ⟨wb,0,none⟩),I s] (whB wb fb g z la rs.length lc rdy 0::rsR la lc rs :: .any A::H)
   (fun r:(Option Addr × Nat × List RecD) × (Hp→Prop)=>r.1.2.2.map RecD.p=rs.map RecD.p++(if secOn f.bs g z s=true then recsP f.bs g z (s*plW z) (plW z) else [])∧RdRs r.2 r.1.2.2∧Gr A r.2∧r.1.2.2.length≤rs.length+18) (fun _ => .tuple #[])
   (fun r=>whB wb fb g z r.1.1 r.1.2.2.length r.1.2.1 (if secOn f.bs g z s=true then (s:Int) else rdy) 0::rsR r.1.1 r.1.2.1 r.1.2.2 :: .any r.2::H):=by
 refine spec_fn (res:=fun r:(Option Addr × Nat × List RecD) × (Hp→Prop)=>[whB wb fb g z r.1.1 r.1.2.2.length r.1.2.1 (if secOn f.bs g z s=true then (s:Int) else rdy) 0,rsR r.1.1 r.1.2.1 r.1.2.2,.any r.2]) [whB wb fb g z la rs.length lc rdy 0,rsR la lc rs,.any A] H Tryz.func194 rfl Tryz.ntmps194 (by kernel_rfl) rfl (fun W=>?_)
 dsimp only [List.cons_append,List.nil_append]
 obtain ⟨b1,b2,b3⟩:=pl_bounds hz1 hz2
 have hfl:=hf.l
 obtain ⟨L,hL⟩:∃ L,plW z=L:=⟨_,rfl⟩
 have hat:∀ p,p<8*L→atW z p+(z+13)≤f.bs.length:=fun p hp=>by have:=(at_bounds hz1 hz2 (p:=p) (by rw [hL];exact hp)).1;omega
 rw [hL] at b1 b2 b3
 obtain ⟨q,hq⟩:∃ q,s*L=q:=⟨_,rfl⟩
 have hqb:q+L≤8*L:=by
  have:(s+1)*L≤8*L:=Nat.mul_le_mul_right _ (by omega)
  rw [Nat.add_mul,Nat.one_mul,hq] at this
  exact this
 have hmul:(s:Int)*(L:Int)=(q:Int):=by rw [←hq];push_cast;rfl
 unfold secOn
 rw [hL,hq]
 have hq0:q<8*plW z:=by rw [hL];omega
 cases hw:recAt f.bs g z q with
 | none =>
  repeat' (first|intro _|refine cw ?_|refine cw2 ?_ ?_|(refine k_fn 164 ?_;(refine o1_call (fun _=>wh_places _ wb z (cl_box rfl) hz2) rfl (fun _ _=>?_);rw [hL]))|(refine k_binOp .mul ?_;(refine o1_mul rfl rfl (by rw [hmul];omega) ?_;rw [hmul]))|(refine k_fn 213 ?_;(refine o1_call (fun _=>wh_whole_no _ wb fb g z ad c f q (RdWh.own hz1 hz2) hf.up hq0 hd hw) rfl (fun _ _=>?_)))|refine ow ?_|refine ow2 ?_ ?_|fail)
  refine rt_none ((la,lc,rs),A) rfl rfl ⟨by simp,hrs,Gr.refl A,by simp⟩ ?_
  exact ent
 | some r0 =>
  obtain ⟨id0,d0⟩:=r0
  repeat' (first|intro _|refine cw ?_|refine cw2 ?_ ?_|(refine k_fn 164 ?_;(refine o1_call (fun _=>wh_places _ wb z (cl_box rfl) hz2) rfl (fun _ _=>?_);rw [hL]))|(refine k_binOp .mul ?_;(refine o1_mul rfl rfl (by rw [hmul];omega) ?_;rw [hmul]))|(refine k_fn 213 ?_;(refine o1_call (fun _=>wh_whole _ wb fb g z ad c f q id0 d0 _ (RdWh.own hz1 hz2) hf.up hq0 hd hw rfl) rfl (fun ⟨a0,c0⟩ _=>?_);(try dsimp only)))|refine ow ?_|refine ow2 ?_ ?_|fail)
  refine st_loop (S:=Nat × (Option Addr × Nat × List RecD) × (Hp→Prop)) (fun q1=>[(0,.pointer (some ⟨wb,0,none⟩)),(4,I q),(27,I L),(28,I q1.1)])
   (fun q1=>[whB wb fb g z q1.2.1.1 q1.2.1.2.2.length q1.2.1.2.1 s 0,rsR q1.2.1.1 q1.2.1.2.1 q1.2.1.2.2,.any q1.2.2,.any (stars H)])
   (fun q1=>q1.1≤L∧q1.2.1.2.2.map RecD.p=rs.map RecD.p++recsP f.bs g z q q1.1∧RdRs q1.2.2 q1.2.1.2.2∧Gr A q1.2.2∧q1.2.1.2.2.length≤rs.length+q1.1) (fun q1=>L - q1.1) (0,(la,lc,rs),A) ⟨Nat.zero_le _,by simp [recsP],hrs,Gr.refl A,Nat.le_refl _⟩
   cv (by show Ent _ [whB wb fb g z la rs.length lc s 0,rsR la lc rs,.any A,.any (stars H)];exact ent) ?_
  rintro ⟨i,⟨la1,lc1,rs1⟩,A1⟩ ⟨hi,hm,hr1,hg,hlen⟩
  dsimp only at hi hm hr1 hg hlen ⊢
  by_cases hlt:i<L
  ·have hpi:(q:Int)+(i:Int)=((q+i:Nat):Int):=by omega
   have hpb:q+i<8*plW z:=by rw [hL];omega
   cases hwi:recAt f.bs g z (q+i) with
   | none =>
    repeat' (first|intro _|refine cw ?_|refine cw2 ?_ ?_|(refine k_binOp .add ?_;(refine o1_add rfl rfl (by omega) ?_;(try rw [hpi])))|(refine k_fn 213 ?_;(refine o1_call (fun _=>wh_whole_no _ wb fb g z ad c f (q+i) (RdWh.own hz1 hz2) hf.up hpb hd hwi) rfl (fun _ _=>?_)))|refine ow ?_|refine ow2 ?_ ?_|fail)
    refine nx_again (i+1,(la1,lc1,rs1),A1) ⟨hlt,?_,hr1,hg,by show rs1.length≤rs.length+(i+1);omega⟩ (by show L - (i+1)<L - i;omega) cv ?_
    ·show rs1.map RecD.p=_
     rw [hm]
     simp only [recsP,hwi]
    exact ent
   | some r1 =>
    obtain ⟨id,d⟩:=r1
    obtain ⟨hdr,hdl⟩:=recAt_len hwi (hat _ (by rw [←hL];exact hpb))
    obtain ⟨Z,hZ⟩:∃ Z,seg f.bs (atW z (q+i)) (z+8)=Z:=⟨_,rfl⟩
    have hZl:Z.length=z+8:=by rw [←hZ];exact seg_len (by have:=hat (q+i) (by rw [←hL];exact hpb);omega)
    rw [hZ] at hdr
    repeat' (first|intro _|refine cw ?_|refine cw2 ?_ ?_|(refine k_binOp .add ?_;(refine o1_add rfl rfl (by omega) ?_;(try rw [hpi])))|(refine k_fn 213 ?_;(refine o1_call (fun _=>wh_whole _ wb fb g z ad c f (q+i) id d Z (RdWh.own hz1 hz2) hf.up hpb hd hwi hZ) rfl (fun ⟨a8,c8⟩ _=>?_);(try dsimp only)))|refine ow ?_|refine ow2 ?_ ?_|fail)
    refine st_stages' [(0,_),(8,_)] rtD16_0 [6,7,10] [⟨[0,1,2,3,4,5],[],some 6⟩,⟨[],[0,1,2,3,4],some 7⟩,⟨[8,9],[0],some 10⟩,⟨[],[],none⟩] mixed cv (by kernel_rfl) (by kernel_rfl) ?_
    repeat' (first|intro _|refine sg ?_|(refine p_load ?_;refine po (by first|refine ox_load (b:=wb) (i:=3) rfl rfl fz|fail) ?_)|refine pw ?_|refine pdd ?_|(refine k_buildSlice ?_;refine o1_lit_w rfl rfl (fun b46=>?_))|(refine k_call ?_;refine ox_append_w (f:=rF) (g:=rG) (xs:=rs1) (b:=b46) (y0:=⟨id,cutA a8 c8 8,z,c8 - 8,d⟩) rfl rfl rfl rfl rfl (by omega) (by omega) (fun a47 c47=>?_))|(refine k_store ?_;refine ox_stores (b:=wb) (i:=3) rfl rfl (by decide) rfl rfl ?_)|refine ow ?_|fail)
    all_goals dsimp only [List.cons_append,List.nil_append]
    have hsn:rs1.length+1=(rs1++[(⟨id,cutA a8 c8 8,z,c8 - 8,d⟩:RecD)]).length:=by simp
    rw [hsn]
    refine nx_pack [.row 5 1 (.slice a8 (z+8) c8) (z+8) (Z.map B),.any A1] [whB wb fb g z a47 (rs1++[(⟨id,cutA a8 c8 8,z,c8 - 8,d⟩:RecD)]).length c47 s 0,rsR a47 c47 (rs1++[⟨id,cutA a8 c8 8,z,c8 - 8,d⟩]),.any (stars H)] ent ?_
    refine nx_has (fun hh=>?_)
    have hA:=has_any hh
    have u1:=rx_cutl (T:=5) (ad:=a8) (c:=c8) (n:=z+8) (l:=Z) (enc:=B) 8 (by omega) hdr hA
    obtain ⟨A2,hA2⟩:∃ A2,stars [.row 5 1 (.slice a8 (z+8) c8) (z+8) (Z.map B),.any A1]=A2:=⟨_,rfl⟩
    have hg2:Gr A1 A2:=by rw [←hA2];exact Gr.of
    rw [hA2] at u1 ⊢
    clear hh hA hA2
    repeat' (first|intro _|refine cw ?_|refine cw2 ?_ ?_|refine ow ?_|refine ow2 ?_ ?_|fail)
    refine nx_again (i+1,(a47,c47,rs1++[⟨id,cutA a8 c8 8,z,c8 - 8,d⟩]),A2) ⟨hlt,?_,(hr1.gr hg2).snoc u1 hdl,hg.trans hg2,by show (rs1++[_]).length≤rs.length+(i+1);simp;omega⟩ (by show L - (i+1)<L - i;omega) cv ?_
    ·show (rs1++[_]).map RecD.p=_
     rw [List.map_append,hm]
     simp [recsP,hwi,RecD.p]
    exact ent
  ·have:i=L:=by omega
   subst this
   repeat' (first|intro _|refine cw ?_|refine cw2 ?_ ?_|refine ow ?_|refine ow2 ?_ ?_|fail)
   refine rt_none ((la1,lc1,rs1),A1) rfl rfl ⟨hm,hr1,hg,by show rs1.length≤rs.length+18;omega⟩ ?_
   exact ent
def rtD17_0:List Row:=[⟨some 48,[],[],none⟩,⟨some 49,[0],[0],none⟩,⟨some 50,[1],[0,1],none⟩,⟨some 51,[2],[0,1,2],none⟩,⟨some 52,[],[],none⟩,⟨some 53,[4],[4],none⟩,⟨some 54,[3,5],[0,1,2,3,4,5],none⟩,⟨some 12,[6,5,0,1,2,3,4,5,6],[0,1,2,3,4,5,6],none⟩]
theorem rdyW_cases (l:List (BitVec 8)) (g:BitVec 32) (z:Nat):∀ n,rdyW l g z n = -1∨∃ s,s<n∧rdyW l g z n=(s:Int)
 | 0 => .inl rfl
 | n+1=>by
  unfold rdyW
  split
  ·exact .inr ⟨n,by omega,rfl⟩
  ·rcases rdyW_cases l g z n with h|⟨s,h1,h2⟩
   ·exact .inl h
   ·exact .inr ⟨s,by omega,h2⟩
theorem ent_none {R:List Hl}:∀ h,stars R h→stars (.any (stars [])::R) h:=fun h hh=>⟨fun _=>none,h,fun _ => .inl rfl,fun _ _ e=>(by cases e),.refl _,trivial,hh⟩
set_option maxHeartbeats 8000000 in
theorem wh_Open (H:List Hl) (fb:Nat) (g:BitVec 32) (z:Nat) (ad:Option Addr) (c:Nat) (f:Fl) (hz1:1≤z) (hz2:z≤16) (hf:RdFl (stars H) fb ad c f) (hd:f.pw.isDown=false) :
  Spec Tryz.prog 159 [.pointer (some ⟨fb,0,none⟩),W4 g,I z] H
   (fun r:Nat × (Option Addr × Nat × List RecD) × (Hp→Prop)=>r.2.1.2.2.map RecD.p=recsW f.bs g z 8∧RdRs r.2.2 r.2.1.2.2∧r.2.1.2.2.length≤144) (fun r => .tuple #[.pointer (some ⟨r.1,0,none⟩),I 0])
   (fun r=>whB r.1 fb g z r.2.1.1 r.2.1.2.2.length r.2.1.2.1 (rdyW f.bs g z 8) (nxtW f.bs g z)::rsR r.2.1.1 r.2.1.2.1 r.2.1.2.2 :: .any r.2.2::H):=by
 refine spec_pure (res:=fun r:Nat × (Option Addr × Nat × List RecD) × (Hp→Prop)=>[whB r.1 fb g z r.2.1.1 r.2.1.2.2.length r.2.1.2.1 (rdyW f.bs g z 8) (nxtW f.bs g z),rsR r.2.1.1 r.2.1.2.1 r.2.1.2.2,.any r.2.2]) H Tryz.func159 rfl Tryz.ntmps159 (by kernel_rfl) rfl (fun W=>?_)
 obtain ⟨b1,b2,b3⟩:=pl_bounds hz1 hz2
 have hfl:=hf.l
 repeat' (first|intro _|refine cw ?_|refine cw2 ?_ ?_|refine o1_peql rfl rfl ?_|(refine k_fn 98 ?_;(refine o1_call (fun _=>fl_Read _ fb ad c f 0 0 hf.up (by omega) hd) rfl (fun ⟨a25,c25⟩ _=>?_);(try dsimp only)))|(refine k_box ?_;refine o1_box rfl rfl (fun wb=>?_))|refine ow ?_|refine ow2 ?_ ?_|fail)
 refine st_ent (ent_nil2 243 rF rG) (st_ent ent_none ?_)
 refine st_loop (S:=Nat × (Option Addr × Nat × List RecD) × (Hp→Prop)) (fun q=>[(0,.pointer (some ⟨fb,0,none⟩)),(10,.pointer (some ⟨wb,0,none⟩)),(36,I q.1)])
  (fun q=>[whB wb fb g z q.2.1.1 q.2.1.2.2.length q.2.1.2.1 (rdyW f.bs g z q.1) 0,rsR q.2.1.1 q.2.1.2.1 q.2.1.2.2,.any q.2.2,.any (stars H)])
  (fun q=>q.1≤8∧q.2.1.2.2.map RecD.p=recsW f.bs g z q.1∧RdRs q.2.2 q.2.1.2.2∧q.2.1.2.2.length≤q.1*18) (fun q=>8 - q.1) (0,(none,0,[]),stars []) ⟨Nat.zero_le _,rfl,RdRs.nil,Nat.le_refl _⟩
  cv (by show Ent _ [whB wb fb g z none 0 0 (-1) 0,rsR none 0 [],.any (stars []),.any (stars H)];exact ent) ?_
 rintro ⟨i,⟨la,lc,rs⟩,A⟩ ⟨hi,hm,hr,hlen⟩
 dsimp only at hi hm hr hlen ⊢
 by_cases hlt:i<8
 ·repeat' (first|intro _|refine cw ?_|refine cw2 ?_ ?_|(refine k_fn 194 ?_;(refine o1_call (fun _=>wh_reads _ A wb fb g z ad c f la lc rs (rdyW f.bs g z i) i hz1 hz2 hf.up hd hlt hr (by omega)) rfl (fun ⟨⟨la2,lc2,rs2⟩,A2⟩ ⟨k1,k2,k3,k4⟩=>?_);(try dsimp only at k1 k2 k3 k4 ⊢)))|refine ow ?_|refine ow2 ?_ ?_|fail)
  refine nx_again (i+1,(la2,lc2,rs2),A2) ⟨hlt,?_,k2,by show rs2.length≤(i+1)*18;omega⟩ (by show 8 - (i+1)<8 - i;omega) cv ?_
  ·show rs2.map RecD.p=_
   rw [k1,hm,recsW]
   split
   ·rfl
   ·rw [List.append_nil]
  ·show Ent _ [whB wb fb g z la2 rs2.length lc2 (rdyW f.bs g z (i+1)) 0,rsR la2 lc2 rs2,.any A2,.any (stars H)]
   rw [rdyW]
   exact ent
 ·have:i=8:=by omega
  subst this
  obtain ⟨L,hL⟩:∃ L,plW z=L:=⟨_,rfl⟩
  rw [hL] at b1 b2 b3
  unfold nxtW
  rw [hL]
  obtain ⟨rd,hrd⟩:∃ rd,rdyW f.bs g z 8=rd:=⟨_,rfl⟩
  have hcs:=rdyW_cases f.bs g z 8
  rw [hrd] at hcs ⊢
  rcases hcs with hneg|⟨s,hs,hsr⟩
  ·subst hneg
   repeat' (first|intro _|refine cw ?_|refine cw2 ?_ ?_|(refine k_load ?_;refine ox_load (b:=wb) (i:=4) rfl rfl ?_)|refine ow ?_|refine ow2 ?_ ?_|fail)
   refine rt_tmp2 (wb,(la,lc,rs),A) rfl rfl rfl rfl ⟨hm,hr,by show rs.length≤144;omega⟩ ?_
   exact ent
  ·subst hsr
   obtain ⟨q,hq⟩:∃ q,s*L=q:=⟨_,rfl⟩
   have hqb:q+L≤8*L:=by
    have:(s+1)*L≤8*L:=Nat.mul_le_mul_right _ (by omega)
    rw [Nat.add_mul,Nat.one_mul,hq] at this
    exact this
   have hmul:(s:Int)*(L:Int)=(q:Int):=by rw [←hq];push_cast;rfl
   have hadd:(q:Int)+(L:Int)=((q+L:Nat):Int):=by omega
   have hif:(if (s:Int)<0 then 0 else backW f.bs z ((s:Int).toNat*L) L)=backW f.bs z q L:=by
    rw [if_neg (by omega),Int.toNat_natCast,hq]
   rw [hif]
   obtain ⟨r,hbk⟩:∃ r,backW f.bs z q L=r:=⟨_,rfl⟩
   rw [hbk]
   repeat' (first|intro _|refine cw ?_|refine cw2 ?_ ?_|(refine k_load ?_;refine ox_load (b:=wb) (i:=4) rfl rfl ?_)|refine ow ?_|refine ow2 ?_ ?_|fail)
   refine st_stages' [(10,_)] rtD17_0 [5] [⟨[0,1,2,3,4],[],some 5⟩,⟨[6,7],[0,1,2,3],none⟩] mixed cv (by kernel_rfl) (by kernel_rfl) ?_
   repeat' (first|intro _|refine sg ?_|(refine p_load ?_;refine po (by first|refine ox_load (b:=wb) (i:=4) rfl rfl fz|fail) ?_)|(refine p_binOp .mul ?_;refine po (by first|((refine o1_mul rfl rfl (by rw [hmul];omega) ?_;rw [hmul]);all_goals exact fz)|fail) ?_)|refine pw ?_|refine pdd ?_|(refine k_fn 164 ?_;(refine o1_call (fun _=>wh_places _ wb z (cl_box rfl) hz2) rfl (fun _ _=>?_);rw [hL]))|refine ow ?_|fail)
   all_goals dsimp only [List.cons_append,List.nil_append]
   repeat' (first|intro _|refine cw ?_|refine cw2 ?_ ?_|(refine k_fn 164 ?_;(refine o1_call (fun _=>wh_places _ wb z (cl_box rfl) hz2) rfl (fun _ _=>?_);rw [hL]))|(refine k_binOp .add ?_;(refine o1_add rfl rfl (by omega) ?_;rw [hadd]))|(refine k_store ?_;refine ox_stores (b:=wb) (i:=5) rfl rfl (by decide) rfl rfl ?_)|refine ow ?_|refine ow2 ?_ ?_|fail)
   refine st_loop (S:=Nat) (fun k=>[(0,.pointer (some ⟨fb,0,none⟩)),(10,.pointer (some ⟨wb,0,none⟩)),(12,I q)])
    (fun k=>[whB wb fb g z la rs.length lc s (q+k),rsR la lc rs,.any A,.any (stars H)]) (fun k=>k≤L∧backW f.bs z q k=r) (fun k=>k) L ⟨Nat.le_refl _,hbk⟩ cv ent ?_
   intro k ⟨hk,hkr⟩
   try dsimp only at hk hkr ⊢
   cases k with
   | zero =>
    repeat' (first|intro _|refine cw ?_|refine cw2 ?_ ?_|(refine k_load ?_;refine ox_load (b:=wb) (i:=5) rfl rfl ?_)|(refine k_binOp .gtr ?_;refine o1_gtr_f rfl rfl (by omega) ?_)|refine ow ?_|refine ow2 ?_ ?_|fail)
    have hkr:q+0=r:=hkr
    rw [←hkr]
    refine rt_tmp2 (wb,(la,lc,rs),A) rfl rfl rfl rfl ⟨hm,hr,by show rs.length≤144;omega⟩ ?_
    exact ent
   | succ k =>
    have hsub:((q+(k+1):Nat):Int) - 1=((q+k:Nat):Int):=by omega
    have hpb:q+k<8*plW z:=by rw [hL];omega
    have hab:=(at_bounds hz1 hz2 hpb).1
    rw [backW] at hkr
    obtain ⟨y,hy⟩:∃ y,blankB (seg f.bs (atW z (q+k)) (z+13))=y:=⟨_,rfl⟩
    rw [hy] at hkr
    cases y
    ·rw [if_neg (by simp)] at hkr
     repeat' (first|intro _|refine cw ?_|refine cw2 ?_ ?_|(refine k_load ?_;refine ox_load (b:=wb) (i:=5) rfl rfl ?_)|(refine k_binOp .gtr ?_;refine o1_gtr_t rfl rfl (by omega) ?_)|(refine k_binOp .sub ?_;(refine o1_sub rfl rfl (by omega) ?_;rw [hsub]))|(refine k_fn 167 ?_;refine o1_call (fun _=>wh_at _ wb z (q+k) (cl_box rfl) hz1 hz2 hpb) rfl (fun _ _=>?_))|(refine k_fn 195 ?_;refine o1_call (fun _=>wh_wide _ wb z (cl_box rfl) hz2) rfl (fun _ _=>?_))|(refine k_fn 109 ?_;(refine o1_call (fun _=>fl_Blank _ fb ad c f (atW z (q+k)) (z+13) hf.up hab hd) rfl (fun _ _=>?_);rw [hy]))|refine ow ?_|refine ow2 ?_ ?_|fail)
     rw [←hkr]
     refine rt_tmp2 (wb,(la,lc,rs),A) rfl rfl rfl rfl ⟨hm,hr,by show rs.length≤144;omega⟩ ?_
     exact ent
    ·rw [if_pos rfl] at hkr
     repeat' (first|intro _|refine cw ?_|refine cw2 ?_ ?_|(refine k_load ?_;refine ox_load (b:=wb) (i:=5) rfl rfl ?_)|(refine k_binOp .gtr ?_;refine o1_gtr_t rfl rfl (by omega) ?_)|(refine k_binOp .sub ?_;(refine o1_sub rfl rfl (by omega) ?_;rw [hsub]))|(refine k_fn 167 ?_;refine o1_call (fun _=>wh_at _ wb z (q+k) (cl_box rfl) hz1 hz2 hpb) rfl (fun _ _=>?_))|(refine k_fn 195 ?_;refine o1_call (fun _=>wh_wide _ wb z (cl_box rfl) hz2) rfl (fun _ _=>?_))|(refine k_fn 109 ?_;(refine o1_call (fun _=>fl_Blank _ fb ad c f (atW z (q+k)) (z+13) hf.up hab hd) rfl (fun _ _=>?_);rw [hy]))|(refine k_store ?_;refine ox_stores (b:=wb) (i:=5) rfl rfl (by decide) rfl rfl ?_)|refine ow ?_|refine ow2 ?_ ?_|fail)
     refine nx_again k ⟨by omega,hkr⟩ (by omega) cv ?_
     exact ent
def rtD18_0:List Row:=[⟨some 17,[],[],none⟩,⟨some 18,[],[],none⟩,⟨some 19,[1],[1],none⟩,⟨some 20,[],[],none⟩,⟨some 21,[3],[3],none⟩,⟨some 22,[4],[3,4],none⟩,⟨some 23,[2,5],[1,2,3,4,5],none⟩,⟨some 24,[6],[1,2,3,4,5,6],none⟩,⟨some 25,[0,7,5],[0,1,2,3,4,5,6,7],none⟩,⟨some 3,[8,8,0,1,2,3,4,5,6,7,8],[0,1,2,3,4,5,6,7,8],none⟩]
def rtD18_1:List Row:=[⟨some 5,[],[],none⟩,⟨some 6,[0],[0],none⟩,⟨some 7,[1],[0,1],none⟩,⟨some 8,[],[],none⟩,⟨some 9,[3],[3],none⟩,⟨some 10,[4],[3,4],none⟩,⟨some 11,[5],[3,4,5],none⟩,⟨some 12,[2,6],[0,1,2,3,4,5,6],none⟩,⟨some 2,[7,1,0,1,2,3,4,5,6,7],[0,1,2,3,4,5,6,7],none⟩]
set_option maxHeartbeats 4000000 in
theorem wh_Records (H:List Hl) (wb:Nat) (la:Option Addr) (lc:Nat) (rs:List RecD) (hw:Cl (stars H) ⟨wb,3,none⟩ (.slice la rs.length lc)) (h2:R2 (stars H) rF rG la lc rs) (hr:RdRs (stars H) rs) (hb:rs.length≤1000) (hz:∀ r∈rs,r.l.length≤1000) :
  Spec Tryz.prog 161 [.pointer (some ⟨wb,0,none⟩)] H (fun r:(Option Addr × Nat × List RecD) × (Hp→Prop)=>r.1.2.2.map RecD.p=rs.map RecD.p∧RdRs r.2 r.1.2.2) (fun r => .slice r.1.1 r.1.2.2.length r.1.2.1) (fun r=>rsR r.1.1 r.1.2.1 r.1.2.2 :: .any r.2::H):=by
 refine spec_pure (res:=fun r:(Option Addr × Nat × List RecD) × (Hp→Prop)=>[rsR r.1.1 r.1.2.1 r.1.2.2,.any r.2]) H Tryz.func161 rfl Tryz.ntmps161 (by kernel_rfl) rfl (fun W=>?_)
 repeat' (first|intro _|refine cw ?_|refine cw2 ?_ ?_|refine o1_peql rfl rfl ?_|(refine k_load ?_;refine ox_load_any rfl hw ?_)|refine ow ?_|refine ow2 ?_ ?_|fail)
 refine st_ent (ent_nil2 243 rF rG) (st_ent ent_none ?_)
 refine st_loop (S:=Nat × (Option Addr × Nat × List RecD) × (Hp→Prop)) (fun q=>[(3,.slice q.2.1.1 q.2.1.2.2.length q.2.1.2.1),(11,.slice la rs.length lc),(12,I rs.length),(13,I q.1)])
  (fun q=>[rsR q.2.1.1 q.2.1.2.1 q.2.1.2.2,.any q.2.2,.any (stars H)])
  (fun q=>q.1≤rs.length∧q.2.1.2.2.map RecD.p=(rs.take q.1).map RecD.p∧RdRs q.2.2 q.2.1.2.2∧q.2.1.2.2.length=q.1) (fun q=>rs.length - q.1) (0,(none,0,[]),stars []) ⟨Nat.zero_le _,by simp,RdRs.nil,rfl⟩
  cv (by show Ent _ [rsR none 0 [],.any (stars []),.any (stars H)];exact ent) ?_
 rintro ⟨i,⟨la1,lc1,rs1⟩,A1⟩ ⟨hi,hm,hr1,hlen⟩
 dsimp only at hi hm hr1 hlen ⊢
 by_cases hlt:i<rs.length
 ·obtain ⟨r,hri⟩:∃ r,rs[i]?=some r:=⟨_,List.getElem?_eq_getElem hlt⟩
  obtain ⟨hrr,hrn⟩:=hr r (List.mem_of_getElem? hri)
  have hz1:=hz r (List.mem_of_getElem? hri)
  repeat' (first|intro _|refine cw ?_|refine cw2 ?_ ?_|(refine k_indexAddr ?_;refine o1_iaw (f:=rF) (g:=rG) (ad:=la) (c:=lc) i rfl rfl h2 rfl rfl hlt ?_)|(refine k_load ?_;refine o1_load_iaw (f:=rF) (g:=rG) (ad:=la) (c:=lc) i r rfl h2 hri ?_)|refine ow ?_|refine ow2 ?_ ?_|fail)
  refine st_stages' [(3,_),(5,_)] rtD18_0 [5,7,8] [⟨[0,1,2,3,4],[],some 5⟩,⟨[6],[0,1,2],some 7⟩,⟨[],[0],some 8⟩,⟨[9],[],none⟩] mixed cv (by kernel_rfl) (by kernel_rfl) ?_
  repeat' (first|intro _|refine sg ?_|refine pw ?_|refine pdd ?_|(refine k_fn 29 ?_;(refine o1_call (fun _=>(slices_Clone _ r.ad r.cap r.l (Rs.up hrr) (by omega)).argE (args':=[.slice r.ad r.n r.cap]) (by rw [hrn])) rfl (fun ⟨a22,c22⟩ _=>?_);(try dsimp only);rw [hrn]))|(refine k_buildSlice ?_;refine o1_lit_w rfl rfl (fun b24=>?_))|(refine k_call ?_;refine ox_append_w (f:=rF) (g:=rG) (xs:=rs1) (b:=b24) (y0:=⟨r.id,a22,r.n,c22,r.l⟩) rfl rfl rfl rfl rfl (by omega) (by omega) (fun a47 c47=>?_))|refine ow ?_|fail)
  all_goals dsimp only [List.cons_append,List.nil_append]
  have hsn:rs1.length+1=(rs1++[(⟨r.id,a22,r.n,c22,r.l⟩:RecD)]).length:=by simp
  rw [hsn]
  refine nx_pack [.row 5 1 (.slice a22 r.n c22) r.n (r.l.map B),.any A1] [rsR a47 c47 (rs1++[⟨r.id,a22,r.n,c22,r.l⟩]),.any (stars H)] ent ?_
  refine nx_has (fun hh=>?_)
  have hA:=has_any hh
  have u1:=rx_row (T:=5) (ad:=a22) (c:=c22) (n:=r.n) (l:=r.l) (enc:=B) hA
  obtain ⟨A2,hA2⟩:∃ A2,stars [.row 5 1 (.slice a22 r.n c22) r.n (r.l.map B),.any A1]=A2:=⟨_,rfl⟩
  have hg2:Gr A1 A2:=by rw [←hA2];exact Gr.of
  rw [hA2] at u1 ⊢
  clear hh hA hA2
  repeat' (first|intro _|refine cw ?_|refine cw2 ?_ ?_|refine ow ?_|refine ow2 ?_ ?_|fail)
  refine nx_again (i+1,(a47,c47,rs1++[⟨r.id,a22,r.n,c22,r.l⟩]),A2) ⟨hlt,?_,(hr1.gr hg2).snoc u1 hrn,by show (rs1++[_]).length=i+1;simp;omega⟩ (by show rs.length - (i+1)<rs.length - i;omega) cv ?_
  ·show (rs1++[_]).map RecD.p=(rs.take (i+1)).map RecD.p
   obtain ⟨_,he⟩:=List.getElem?_eq_some_iff.1 hri
   rw [List.map_append,hm,List.take_succ_eq_append_getElem hlt,List.map_append,he]
   rfl
  exact ent
 ·have:i=rs.length:=by omega
  subst this
  repeat' (first|intro _|refine cw ?_|refine cw2 ?_ ?_|refine ow ?_|refine ow2 ?_ ?_|fail)
  refine rt_tmp ((la1,lc1,rs1),A1) rfl rfl rfl ⟨by rw [hm,List.take_length],hr1⟩ ?_
  exact ent
theorem wh_Room (H:List Hl) (wb z nxt:Nat) (hz:Cl (stars H) ⟨wb,2,none⟩ (I z)) (hn:Cl (stars H) ⟨wb,5,none⟩ (I nxt)) (h1:1≤z) (h2:z≤16) (hb:nxt≤1000) :
  Spec Tryz.prog 163 [.pointer (some ⟨wb,0,none⟩)] H (fun _:Unit=>True) (fun _=>I (8*(plW z:Int) - nxt)) (fun _=>H):=by
 refine spec_pure (res:=fun _=>[]) H Tryz.func163 rfl Tryz.ntmps163 (by kernel_rfl) rfl (fun W=>?_)
 obtain ⟨b1,b2,b3⟩:=pl_bounds h1 h2
 repeat' (first|intro _|refine cw ?_|refine cw2 ?_ ?_|refine o1_peql rfl rfl ?_|refine ow ?_|refine ow2 ?_ ?_|fail)
 refine st_stages' [(0,_)] rtD18_1 [1] [⟨[0,3,4,5,6],[],some 1⟩,⟨[2,7,8],[3,4,5,6],none⟩] mixed cv (by kernel_rfl) (by kernel_rfl) ?_
 repeat' (first|intro _|refine sg ?_|(refine p_load ?_;refine po (by first|refine ox_load_any rfl hn fz|fail) ?_)|(refine p_binOp .mul ?_;refine po (by first|refine o1_mul rfl rfl (by omega) fz|fail) ?_)|(refine p_binOp .sub ?_;refine po (by first|refine o1_sub rfl rfl (by omega) fz|fail) ?_)|refine pw ?_|refine pdd ?_|(refine k_fn 164 ?_;refine o1_call (fun _=>wh_places _ wb z (cl_up hz) h2) rfl (fun _ _=>?_))|refine ow ?_|fail)
 all_goals dsimp only [List.cons_append,List.nil_append]
 repeat' (first|intro _|refine cw ?_|refine cw2 ?_ ?_|refine ow ?_|refine ow2 ?_ ?_|fail)
 refine rt_tmp () rfl rfl rfl trivial ?_
 exact ent
set_option maxHeartbeats 4000000 in
theorem wh_enters (H:List Hl) (wb fb:Nat) (g:BitVec 32) (z:Nat) (ad:Option Addr) (c:Nat) (f:Fl) (h:Hid) (rdy:Int) (s:Nat) (hw:Cl (stars H) ⟨wb,0,none⟩ (.pointer (some ⟨fb,0,none⟩))) (hr:Cl (stars H) ⟨wb,4,none⟩ (I rdy)) (hk:FlOk f h) (hd:f.pw.isDown=false) (hs:s<8) :
  Spec Tryz.prog 165 [.pointer (some ⟨wb,0,none⟩),I s] (fB fb ad c f h::fR ad c f::H) (fun h':Hid=>FlOk (entF f rdy s).1 h') (fun _=>I (entF f rdy s).2) (fun h'=>fB fb ad c (entF f rdy s).1 h'::fR ad c (entF f rdy s).1::H):=by
 refine spec_fn (res:=fun h':Hid=>[fB fb ad c (entF f rdy s).1 h',fR ad c (entF f rdy s).1]) [fB fb ad c f h,fR ad c f] H Tryz.func165 rfl Tryz.ntmps165 (by kernel_rfl) rfl (fun W=>?_)
 dsimp only [List.cons_append,List.nil_append]
 have a6:(6:Int)+(s:Int)=((6+s:Nat):Int):=by omega
 obtain ⟨a,ha⟩:∃ a,(6+s)*256=a:=⟨_,rfl⟩
 have hm:((6+s:Nat):Int)*256=(a:Int):=by omega
 obtain ⟨⟨f1,v1⟩,hr1⟩:∃ r,eraseF f (6+s)=r:=⟨_,rfl⟩
 unfold entF
 rw [ha,hr1]
 by_cases hrs:(s:Int)=rdy
 ·rw [if_pos hrs]
  repeat' (first|intro _|refine cw ?_|refine cw2 ?_ ?_|(refine k_load ?_;refine ox_load_any rfl hr ?_)|(refine k_binOp .eql ?_;refine o1_eql_t rfl rfl hrs ?_)|refine ow ?_|refine ow2 ?_ ?_|fail)
  refine rt_tmp h rfl rfl rfl hk ?_
  exact ent
 ·rw [if_neg hrs]
  cases q:blankB (seg f.bs a 256)
  ·rw [if_neg (by simp)]
   repeat' (first|intro _|refine cw ?_|refine cw2 ?_ ?_|(refine k_load ?_;first|refine ox_load_any rfl hr ?_|refine ox_load_any rfl hw ?_)|(refine k_binOp .eql ?_;refine o1_eql_f rfl rfl hrs ?_)|(refine k_binOp .add ?_;(refine o1_add rfl rfl (by omega) ?_;rw [a6]))|(refine k_binOp .mul ?_;(refine o1_mul rfl rfl (by omega) ?_;rw [hm]))|(refine k_fn 109 ?_;(refine o1_call (fun hh=>fl_Blank _ fb ad c f a 256 (RdFl.own hk hh) (by omega) hd) rfl (fun _ _=>?_);rw [q]))|(refine k_fn 110 ?_;(refine o1_call_fl fb ad c (fun _=>fl_Erase _ fb ad c f h (6+s) hk (by omega)) rfl (fun h1 hk1=>?_);(rw [hr1] at hk1 ⊢;dsimp only at hk1 ⊢)))|refine ow ?_|refine ow2 ?_ ?_|fail)
   refine rt_tmp h1 rfl rfl rfl hk1 ?_
   exact ent
  ·rw [if_pos rfl]
   repeat' (first|intro _|refine cw ?_|refine cw2 ?_ ?_|(refine k_load ?_;first|refine ox_load_any rfl hr ?_|refine ox_load_any rfl hw ?_)|(refine k_binOp .eql ?_;refine o1_eql_f rfl rfl hrs ?_)|(refine k_binOp .add ?_;(refine o1_add rfl rfl (by omega) ?_;rw [a6]))|(refine k_binOp .mul ?_;(refine o1_mul rfl rfl (by omega) ?_;rw [hm]))|(refine k_fn 109 ?_;(refine o1_call (fun hh=>fl_Blank _ fb ad c f a 256 (RdFl.own hk hh) (by omega) hd) rfl (fun _ _=>?_);rw [q]))|refine ow ?_|refine ow2 ?_ ?_|fail)
   refine rt_tmp h rfl rfl rfl hk ?_
   exact ent
def rtD19_0:List Row:=[⟨some 34,[],[],none⟩,⟨some 35,[0],[0],none⟩,⟨some 36,[1],[0,1],none⟩,⟨some 37,[2],[0,1,2],none⟩,⟨some 38,[],[],none⟩,⟨some 39,[4],[4],none⟩,⟨some 40,[3,5],[0,1,2,3,4,5],none⟩,⟨some 7,[6,5,0,1,2,3,4,5,6],[0,1,2,3,4,5,6],none⟩]
def rtD19_1:List Row:=[⟨some 58,[],[],none⟩,⟨some 59,[0],[0],none⟩,⟨some 60,[1],[0,1],none⟩,⟨some 61,[2],[0,1,2],none⟩,⟨some 62,[],[],none⟩,⟨some 63,[],[],none⟩,⟨some 64,[5],[5],none⟩,⟨some 65,[6],[5,6],none⟩,⟨some 66,[7],[5,6,7],none⟩,⟨some 67,[4,8],[4,5,6,7,8],none⟩,⟨some 68,[],[],none⟩,⟨some 69,[3,9,10,9],[0,1,2,3,4,5,6,7,8,9,10],none⟩,⟨some 10,[11,11,0,1,2,3,4,5,6,7,8,9,10,11],[0,1,2,3,4,5,6,7,8,9,10,11],none⟩]
def rtD19_2:List Row:=[⟨some 73,[],[],none⟩,⟨some 74,[0],[0],none⟩,⟨some 75,[1],[0,1],none⟩,⟨some 76,[2],[0,1,2],none⟩,⟨some 77,[],[],none⟩,⟨some 78,[],[],none⟩,⟨some 79,[5],[5],none⟩,⟨some 80,[6],[5,6],none⟩,⟨some 81,[7],[5,6,7],none⟩,⟨some 82,[4,8],[4,5,6,7,8],none⟩,⟨some 83,[],[],none⟩,⟨some 84,[10],[10],none⟩,⟨some 85,[9,11],[4,5,6,7,8,9,10,11],none⟩,⟨some 86,[],[],none⟩,⟨some 87,[3,12,13,9],[0,1,2,3,4,5,6,7,8,9,10,11,12,13],none⟩,⟨some 11,[14,14,0,1,2,3,4,5,6,7,8,9,10,11,12,13,14],[0,1,2,3,4,5,6,7,8,9,10,11,12,13,14],none⟩]
def rtD19_3:List Row:=[⟨some 102,[],[],none⟩,⟨some 103,[],[],none⟩,⟨some 104,[1],[1],none⟩,⟨some 105,[2],[1,2],none⟩,⟨some 106,[3],[1,2,3],none⟩,⟨some 107,[],[],none⟩,⟨some 108,[],[],none⟩,⟨some 109,[6],[6],none⟩,⟨some 110,[5,7],[5,6,7],none⟩,⟨some 111,[8],[5,6,7,8],none⟩,⟨some 112,[4,9,7],[1,2,3,4,5,6,7,8,9],none⟩,⟨some 113,[0,0,1,2,3,4,5,6,7,8,9,10],[0,1,2,3,4,5,6,7,8,9,10],none⟩,⟨some 114,[11,0,1,2,3,4,5,6,7,8,9,10],[0,1,2,3,4,5,6,7,8,9,10,11],none⟩,⟨none,[12,10,10,0,1,2,3,4,5,6,7,8,9,10],[0,1,2,3,4,5,6,7,8,9,10,11,12],none⟩]
theorem addW_full {f:Fl} {g:BitVec 32} {rdy:Int} {nxt:Nat} {id:BitVec 32} {d:List (BitVec 8)} (h:8*plW d.length=nxt):addW f g rdy nxt id d=(f,9):=by
 unfold addW
 rw [if_pos h]
theorem addW_up {f:Fl} {g:BitVec 32} {rdy:Int} {nxt:Nat} {id:BitVec 32} {d:List (BitVec 8)} (h:8*plW d.length≠nxt) (hd:f.pw.isDown=false):addW f g rdy nxt id d =
  if (entF f rdy (nxt / plW d.length)).2≠0 then entF f rdy (nxt / plW d.length) else
  if (progF (entF f rdy (nxt / plW d.length)).1 (atW d.length nxt) (recB g id d)).2≠0 then progF (entF f rdy (nxt / plW d.length)).1 (atW d.length nxt) (recB g id d) else
  progF (progF (entF f rdy (nxt / plW d.length)).1 (atW d.length nxt) (recB g id d)).1 (atW d.length nxt+(d.length+12)) [0#8]:=by
 unfold addW
 rw [if_neg h]
 cases hp:f.pw with
 | down z=>rw [hp] at hd;cases hd
 | on=>rfl
 | fuse n=>rfl
def rdyA (v:Int) (z nxt:Nat) (rdy:Int):Int:=if v=0 then ((nxt / plW z:Nat):Int) else rdy
def nxtA (v:Int) (nxt:Nat):Nat:=if v=0 then nxt+1 else nxt
set_option maxHeartbeats 16000000 in
theorem wh_Add (H:List Hl) (wb fb:Nat) (g:BitVec 32) (z:Nat) (la:Option Addr) (lc:Nat) (rs:List RecD) (rdy:Int) (nxt:Nat) (id:BitVec 32) (ad2:Option Addr) (c2:Nat) (d:List (BitVec 8)) (ad:Option Addr) (c:Nat) (f:Fl) (h:Hid) (hz1:1≤z) (hz2:z≤16) (hk:FlOk f h) (hd:f.pw.isDown=false) (hn:nxt≤8*plW z) (hdl:d.length=z) (hq:Rs (stars H) B ad2 c2 d) (hrl:rs.length≤1000) :
  Spec Tryz.prog 121 [.pointer (some ⟨wb,0,none⟩),W4 id,.slice ad2 z c2] (whB wb fb g z la rs.length lc rdy nxt::rsR la lc rs::fB fb ad c f h::fR ad c f::H)
   (fun r:Hid × (Option Addr × Nat × List RecD)=>FlOk (addW f g rdy nxt id d).1 r.1∧r.2.2.2.length≤nxtA (addW f g rdy nxt id d).2 rs.length) (fun _=>I (addW f g rdy nxt id d).2)
   (fun r=>whB wb fb g z r.2.1 r.2.2.2.length r.2.2.1 (rdyA (addW f g rdy nxt id d).2 z nxt rdy) (nxtA (addW f g rdy nxt id d).2 nxt)::rsR r.2.1 r.2.2.1 r.2.2.2::fB fb ad c (addW f g rdy nxt id d).1 r.1::fR ad c (addW f g rdy nxt id d).1::H):=by
 refine spec_fn (res:=fun r:Hid × (Option Addr × Nat × List RecD)=>[whB wb fb g z r.2.1 r.2.2.2.length r.2.2.1 (rdyA (addW f g rdy nxt id d).2 z nxt rdy) (nxtA (addW f g rdy nxt id d).2 nxt),rsR r.2.1 r.2.2.1 r.2.2.2,fB fb ad c (addW f g rdy nxt id d).1 r.1,fR ad c (addW f g rdy nxt id d).1]) [whB wb fb g z la rs.length lc rdy nxt,rsR la lc rs,fB fb ad c f h,fR ad c f] H Tryz.func121 rfl Tryz.ntmps121 (by kernel_rfl) rfl (fun W=>?_)
 dsimp only [List.cons_append,List.nil_append]
 have hbs:=hk.bs
 have q1:=hq.le
 have q2:=hq.big
 rw [hdl] at q1
 obtain ⟨b1,b2,b3⟩:=pl_bounds hz1 hz2
 obtain ⟨L,hL⟩:∃ L,plW z=L:=⟨_,rfl⟩
 rw [hL] at b1 b2 b3 hn
 by_cases hfull:8*L=nxt
 ·rw [addW_full (by rw [hdl,hL];exact hfull)]
  have he:8*((plW z:Nat):Int) - (nxt:Int)=0:=by rw [hL];omega
  repeat' (first|intro _|refine cw ?_|refine cw2 ?_ ?_|refine o1_peql rfl rfl ?_|(refine k_load ?_;refine ox_load (b:=wb) (i:=2) rfl rfl ?_)|(refine k_binOp .neq ?_;refine o1_neq_f rfl rfl rfl ?_)|(refine k_fn 163 ?_;(refine o1_call (fun _=>wh_Room _ wb z nxt (cl_box rfl) (cl_box rfl) hz1 hz2 (by omega)) rfl (fun _ _=>?_);rw [he]))|refine ow ?_|refine ow2 ?_ ?_|fail)
  refine rt_tmp (h,(la,lc,rs)) rfl rfl rfl ⟨hk,by show rs.length≤nxtA 9 rs.length;rw [nxtA,if_neg (by decide)];exact Nat.le_refl _⟩ ?_
  exact ent
 have hfull2:8*plW d.length≠nxt:=by rw [hdl,hL];exact hfull
 have hwu:=addW_up (f:=f) (g:=g) (rdy:=rdy) (id:=id) hfull2 hd
 have he:8*((plW z:Nat):Int) - (nxt:Int)≠0:=by rw [hL];omega
 obtain ⟨ab1,ab2⟩:=at_bounds hz1 hz2 (p:=nxt) (by rw [hL];omega)
 rw [hdl,hL] at hwu
 have hpb:nxt<8*plW z:=by rw [hL];omega
 obtain ⟨s,hs⟩:∃ s,nxt / L=s:=⟨_,rfl⟩
 have hs8:s<8:=by rw [←hs];exact Nat.div_lt_of_lt_mul (by rw [Nat.mul_comm];omega)
 have hqd:(nxt:Int) / (L:Int)=(s:Int):=by rw [←hs];rfl
 obtain ⟨a,ha⟩:∃ a,atW z nxt=a:=⟨_,rfl⟩
 obtain ⟨X,hX⟩:∃ X,be4 g++(be4 id++d)=X:=⟨_,rfl⟩
 have hXl:X.length=z+8:=by rw [←hX];simp [be4_len,hdl];omega
 obtain ⟨Q,hQ⟩:∃ Q,crcPut X=Q:=⟨_,rfl⟩
 have hQl:Q.length=z+12:=by rw [←hQ,crcPut_len,hXl]
 have hrec:recB g id d=Q:=by rw [←hQ,←hX];rfl
 obtain ⟨⟨f1,v1⟩,hr1⟩:∃ r,entF f rdy s=r:=⟨_,rfl⟩
 obtain ⟨⟨f2,v2⟩,hr2⟩:∃ r,progF f1 a Q=r:=⟨_,rfl⟩
 obtain ⟨⟨f3,v3⟩,hr3⟩:∃ r,progF f2 (a+(z+12)) [0#8]=r:=⟨_,rfl⟩
 rw [hs,ha,hrec,hr1] at hwu
 dsimp only at hwu
 rw [hr2] at hwu
 dsimp only at hwu
 rw [hr3] at hwu
 rw [ha] at ab1 ab2
 have hnx:(nxt:Int)+1=((nxt+1:Nat):Int):=by omega
 have hap:(a:Int)+((z+12:Nat):Int)=((a+(z+12):Nat):Int):=by omega
 have hcat:∀ x1 x2:Option Addr,cat [⟨x1,4,be4 g⟩,⟨x2,4,be4 id⟩,⟨ad2,c2,d⟩]=X:=fun x1 x2=>by rw [←hX];simp [cat]
 obtain ⟨R,hR⟩:∃ R,addW f g rdy nxt id d=R:=⟨_,rfl⟩
 rw [hR] at hwu ⊢
 subst hdl
 repeat' (first|intro _|refine cw ?_|refine cw2 ?_ ?_|refine o1_peql rfl rfl ?_|(refine k_load ?_;first|refine ox_load (b:=wb) (i:=2) rfl rfl ?_|refine ox_load (b:=wb) (i:=0) rfl rfl ?_)|(refine k_binOp .neq ?_;refine o1_neq_f rfl rfl rfl ?_)|(refine k_fn 163 ?_;refine o1_call (fun _=>wh_Room _ wb d.length nxt (cl_box rfl) (cl_box rfl) hz1 hz2 (by omega)) rfl (fun _ _=>?_))|(refine k_binOp .eql ?_;refine o1_eql_f rfl rfl he ?_)|(refine k_fn 63 ?_;(refine o1_call (fun hh=>fl_Down _ fb f (cl_box (flC_down hk.er))) rfl (fun _ _=>?_);rw [hd]))|refine ow ?_|refine ow2 ?_ ?_|fail)
 refine st_stages' [(0,_)] rtD19_0 [5] [⟨[0,1,2,3,4],[],some 5⟩,⟨[6,7],[0,1,2,3],none⟩] mixed cv (by kernel_rfl) (by kernel_rfl) ?_
 repeat' (first|intro _|refine sg ?_|(refine p_load ?_;refine po (by first|refine ox_load (b:=wb) (i:=5) rfl rfl fz|fail) ?_)|(refine p_binOp .quo ?_;refine po (by first|((refine o1_quo rfl rfl (by omega) ?_;rw [hqd]);all_goals exact fz)|fail) ?_)|refine pw ?_|refine pdd ?_|(refine k_fn 164 ?_;(refine o1_call (fun _=>wh_places _ wb d.length (cl_box rfl) hz2) rfl (fun _ _=>?_);rw [hL]))|refine ow ?_|fail)
 all_goals dsimp only [List.cons_append,List.nil_append]
 repeat' (first|intro _|refine cw ?_|refine cw2 ?_ ?_|(refine k_fn 165 ?_;(refine o1_call_fl fb ad c (fun _=>wh_enters _ wb fb g d.length ad c f h rdy s (cl_box rfl) (cl_box rfl) hk hd hs8) rfl (fun h1 hk1=>?_);(rw [hr1] at hk1 ⊢;dsimp only at hk1 ⊢)))|refine ow ?_|refine ow2 ?_ ?_|fail)
 ·rename_i hv
  rw [if_pos hv] at hwu
  subst hwu
  have e1:rdyA v1 d.length nxt rdy=rdy:=if_neg hv
  have e2:nxtA v1 nxt=nxt:=if_neg hv
  dsimp only
  rw [e1,e2]
  refine rt_tmp (h1,(la,lc,rs)) rfl rfl rfl ⟨hk1,by show rs.length≤nxtA v1 rs.length;rw [nxtA,if_neg hv];exact Nat.le_refl _⟩ ?_
  exact ent
 have hv1 : ¬ v1≠0:=by omega
 rw [if_neg hv1] at hwu
 repeat' (first|intro _|refine cw ?_|refine cw2 ?_ ?_|(refine k_load ?_;refine ox_load (b:=wb) (i:=1) rfl rfl ?_)|(refine k_fn 166 ?_;refine o1_call (fun _=>wh_word _ g) rfl (fun b51 _=>?_))|refine ow ?_|refine ow2 ?_ ?_|fail)
 repeat' (first|intro _|refine cw ?_|refine cw2 ?_ ?_|(refine k_fn 166 ?_;refine o1_call (fun _=>wh_word _ id) rfl (fun b53 _=>?_))|(refine k_buildSlice ?_;refine o1_lit_enc Bs [⟨some ⟨b51,0,none⟩,4,be4 g⟩,⟨some ⟨b53,0,none⟩,4,be4 id⟩,⟨ad2,c2,d⟩] rfl rfl rfl (fun _=>rfl) rfl rfl rfl (fun b55=>?_))|(refine k_fn 111 ?_;(refine o1_call (fun hh=>slices_Concat _ _ _ [⟨some ⟨b51,0,none⟩,4,be4 g⟩,⟨some ⟨b53,0,none⟩,4,be4 id⟩,⟨ad2,c2,d⟩] (rx_lit rfl rfl hh) (fa_cons (rx_lit rfl rfl hh) (fa_cons (rx_lit rfl rfl hh) (fa_cons (Rs.up hq) fa_nil))) (by rw [hcat];omega)) rfl (fun ⟨a56,c56⟩ _=>?_);(try dsimp only);rw [hcat]))|(refine k_fn 83 ?_;(refine o1_call (fun hh=>crc_Put _ a56 X.length c56 X (rx_row hh) rfl (by omega)) rfl (fun ⟨a57,c57⟩ _=>?_);(try dsimp only);rw [hQ,show X.length+4=Q.length by omega]))|refine ow ?_|refine ow2 ?_ ?_|fail)
 refine st_stages' [(0,_),(9,_)] rtD19_1 [9,11] [⟨[0,1,2,3,4,5,6,7,8,10],[],some 9⟩,⟨[],[0,1,2,3,10],some 11⟩,⟨[12],[],none⟩] mixed cv (by kernel_rfl) (by kernel_rfl) ?_
 repeat' (first|intro _|refine sg ?_|(refine p_load ?_;refine po (by first|refine ox_load (b:=wb) (i:=0) rfl rfl fz|refine ox_load (b:=wb) (i:=5) rfl rfl fz|fail) ?_)|refine pw ?_|refine pdd ?_|(refine k_fn 167 ?_;(refine o1_call (fun _=>wh_at _ wb d.length nxt (cl_box rfl) hz1 hz2 hpb) rfl (fun _ _=>?_);rw [ha]))|(refine k_fn 44 ?_;(refine o1_call_fl fb ad c (fun hh=>fl_Program _ fb ad c f1 h1 a a57 Q.length c57 Q hk1 (rx_row (has_tail (has_tail hh))) rfl (by omega)) rfl (fun h2 hk2=>?_);(rw [hr2] at hk2 ⊢;dsimp only at hk2 ⊢)))|refine ow ?_|fail)
 all_goals dsimp only [List.cons_append,List.nil_append]
 repeat' (first|intro _|refine cw ?_|refine cw2 ?_ ?_|refine ow ?_|refine ow2 ?_ ?_|fail)
 ·rename_i hv
  rw [if_pos hv] at hwu
  subst hwu
  have e1:rdyA v2 d.length nxt rdy=rdy:=if_neg hv
  have e2:nxtA v2 nxt=nxt:=if_neg hv
  dsimp only
  rw [e1,e2]
  refine rt_tmp (h2,(la,lc,rs)) rfl rfl rfl ⟨hk2,by show rs.length≤nxtA v2 rs.length;rw [nxtA,if_neg hv];exact Nat.le_refl _⟩ ?_
  exact ent
 have hv2 : ¬ v2≠0:=by omega
 rw [if_neg hv2] at hwu
 have hap:(a:Int)+(Q.length:Int)=((a+(d.length+12):Nat):Int):=by omega
 refine st_stages' [(0,_),(9,_)] rtD19_2 [13,14] [⟨[0,1,2,3,4,5,6,7,8,9,10,11,12],[],some 13⟩,⟨[],[0,1,2,3,4,5,6,7,8,9,10,11,12],some 14⟩,⟨[15],[],none⟩] mixed cv (by kernel_rfl) (by kernel_rfl) ?_
 repeat' (first|intro _|refine sg ?_|(refine p_load ?_;refine po (by first|refine ox_load (b:=wb) (i:=0) rfl rfl fz|refine ox_load (b:=wb) (i:=5) rfl rfl fz|fail) ?_)|(refine p_fn 167 ?_;refine po (by first|((refine o1_call (fun _=>wh_at _ wb d.length nxt (cl_box rfl) hz1 hz2 hpb) rfl (fun _ _=>?_);rw [ha]);all_goals exact fz)|fail) ?_)|(refine p_binOp .add ?_;refine po (by first|((refine o1_add rfl rfl (by omega) ?_;rw [hap]);all_goals exact fz)|fail) ?_)|refine pw ?_|refine pdd ?_|(refine k_buildSlice ?_;refine o1_lit_enc (T:=22) B [0#8] rfl rfl rfl (fun _=>rfl) rfl rfl rfl (fun b86=>?_))|(refine k_fn 44 ?_;(refine o1_call_fl fb ad c (fun hh=>fl_Program _ fb ad c f2 h2 (a+(d.length+12)) (some ⟨b86,0,none⟩) 1 1 [0#8] hk2 (rx_box rfl (by decide) (has_tail (has_tail hh))) rfl (by omega)) rfl (fun h3 hk3=>?_);(rw [hr3] at hk3 ⊢;dsimp only at hk3 ⊢)))|refine ow ?_|fail)
 all_goals dsimp only [List.cons_append,List.nil_append]
 repeat' (first|intro _|refine cw ?_|refine cw2 ?_ ?_|(refine k_binOp .add ?_;(refine o1_add rfl rfl (by omega) ?_;rw [hnx]))|refine ow ?_|refine ow2 ?_ ?_|fail)
 ·rename_i hv
  subst hwu
  have e1:rdyA v3 d.length nxt rdy=rdy:=if_neg hv
  have e2:nxtA v3 nxt=nxt:=if_neg hv
  dsimp only
  rw [e1,e2]
  refine rt_tmp (h3,(la,lc,rs)) rfl rfl rfl ⟨hk3,by show rs.length≤nxtA v3 rs.length;rw [nxtA,if_neg hv];exact Nat.le_refl _⟩ ?_
  exact ent
 have hv3:v3=0:=by omega
 subst hwu
 subst hv3
 have e1:rdyA 0 d.length nxt rdy=s:=by rw [rdyA,if_pos rfl,hL,hs]
 have e2:nxtA 0 nxt=nxt+1:=rfl
 dsimp only
 rw [e1,e2]
 refine st_stages' [(0,_),(1,_),(2,_)] rtD19_3 [7,9,10,13] [⟨[0,1,2,3,4,5,6],[],some 7⟩,⟨[8],[0,1,2,3,4,5],some 9⟩,⟨[],[0,1,2,3,4],some 10⟩,⟨[11,12],[0],some 13⟩,⟨[],[],none⟩] mixed cv (by kernel_rfl) (by kernel_rfl) ?_
 repeat' (first|intro _|refine sg ?_|(refine p_load ?_;refine po (by first|refine ox_load (b:=wb) (i:=3) rfl rfl fz|fail) ?_)|refine pw ?_|refine pdd ?_|(refine k_fn 29 ?_;(refine o1_call (fun _=>slices_Clone _ ad2 c2 d (Rs.up hq) (by omega)) rfl (fun ⟨a109,c109⟩ _=>?_);(try dsimp only)))|(refine k_buildSlice ?_;refine o1_lit_w rfl rfl (fun b111=>?_))|(refine k_call ?_;refine ox_append_w (f:=rF) (g:=rG) (xs:=rs) (b:=b111) (y0:=⟨id,a109,d.length,c109,d⟩) rfl rfl rfl rfl rfl (by omega) (by omega) (fun a112 c112=>?_))|(refine k_store ?_;refine ox_stores (b:=wb) (i:=3) rfl rfl (by decide) rfl rfl ?_)|refine ow ?_|fail)
 all_goals dsimp only [List.cons_append,List.nil_append]
 have hsn:rs.length+1=(rs++[(⟨id,a109,d.length,c109,d⟩:RecD)]).length:=by simp
 rw [hsn]
 repeat' (first|intro _|refine cw ?_|refine cw2 ?_ ?_|refine ow ?_|refine ow2 ?_ ?_|fail)
 refine rt_tmp (h3,(a112,c112,rs++[⟨id,a109,d.length,c109,d⟩])) rfl rfl rfl ⟨hk3,by show (rs++[_]).length≤nxtA 0 rs.length;simp [nxtA]⟩ ?_
 exact ent
def rtD23_0:List Row:=[⟨some 1,[],[],none⟩,⟨some 2,[],[],none⟩,⟨some 3,[1],[1],none⟩,⟨some 4,[2],[1,2],none⟩,⟨some 5,[3],[1,2,3],none⟩,⟨some 6,[4],[1,2,3,4],none⟩,⟨some 7,[0,0,1,2,3,4,5],[0,1,2,3,4,5],none⟩,⟨some 8,[6,0,1,2,3,4,5],[0,1,2,3,4,5,6],none⟩,⟨none,[7,5,5,0,1,2,3,4,5],[0,1,2,3,4,5,6,7],none⟩]
def rtD23_1:List Row:=[⟨some 5,[],[],none⟩,⟨some 6,[0],[0],none⟩,⟨some 7,[1],[0,1],none⟩,⟨some 8,[2],[0,1,2],none⟩,⟨some 9,[3],[0,1,2,3],none⟩,⟨some 10,[],[],none⟩,⟨some 11,[5],[5],none⟩,⟨some 12,[6],[5,6],none⟩,⟨some 13,[7],[5,6,7],none⟩,⟨some 14,[8,4],[0,1,2,3,4,5,6,7,8],none⟩,⟨some 15,[4,9],[0,1,2,3,4,5,6,7,8,9],none⟩,⟨some 2,[10,9,0,1,2,3,4,5,6,7,8,9,10],[0,1,2,3,4,5,6,7,8,9,10],none⟩]
def rtD23_2:List Row:=[⟨some 6,[],[],none⟩,⟨some 7,[0],[0],none⟩,⟨some 8,[1],[0,1],none⟩,⟨some 9,[2],[0,1,2],some (2,false)⟩,⟨some 10,[3,2,2],[0,1,2,3],some (2,false)⟩,⟨some 11,[4,2],[0,1,2,3,4],some (2,false)⟩,⟨some 12,[2,5],[0,1,2,3,4,5],none⟩,⟨some 13,[6,4],[0,1,2,3,4,5,6],none⟩,⟨some 14,[7],[0,1,2,3,4,5,6,7],some (7,false)⟩,⟨some 15,[7],[0,1,2,3,4,5,6,7],some (7,false)⟩,⟨some 16,[9,7],[0,1,2,3,4,5,6,7,9],some (7,false)⟩,⟨some 17,[10,7],[0,1,2,3,4,5,6,7,9,10],some (7,false)⟩,⟨some 18,[11,7],[0,1,2,3,4,5,6,7,9,10,11],some (7,false)⟩,⟨some 19,[12,7],[0,1,2,3,4,5,6,7,9,10,11,12],some (7,false)⟩,⟨some 20,[8,13,7,7],[0,1,2,3,4,5,6,7,8,9,10,11,12,13],some (7,false)⟩,⟨some 21,[7],[0,1,2,3,4,5,6,7],some (7,false)⟩,⟨some 22,[15,7],[0,1,2,3,4,5,6,7,15],some (7,false)⟩,⟨some 23,[16,7],[0,1,2,3,4,5,6,7,15,16],some (7,false)⟩,⟨some 24,[17,7],[0,1,2,3,4,5,6,7,15,16,17],some (7,false)⟩,⟨some 25,[18,7],[0,1,2,3,4,5,6,7,15,16,17,18],some (7,false)⟩,⟨some 26,[14,19,7],[0,1,2,3,4,5,6,7,8,9,10,11,12,13,14,15,16,17,18,19],some (7,false)⟩,⟨some 27,[7,20],[0,1,2,3,4,5,6,7,8,9,10,11,12,13,14,15,16,17,18,19,20],none⟩]
def rtD23_3:List Row:=[⟨some 33,[],[],none⟩,⟨some 34,[0],[0],none⟩,⟨some 35,[1],[0,1],none⟩,⟨some 36,[2],[0,1,2],none⟩,⟨some 37,[],[],none⟩,⟨some 38,[4],[4],none⟩,⟨some 39,[5],[4,5],none⟩,⟨some 40,[6],[4,5,6],none⟩,⟨some 41,[7],[4,5,6,7],none⟩,⟨some 42,[3,8],[0,1,2,3,4,5,6,7,8],none⟩,⟨some 43,[],[],none⟩,⟨some 44,[9,10],[0,1,2,3,4,5,6,7,8,9,10],none⟩,⟨some 4,[11,11,0,1,2,3,4,5,6,7,8,9,10,11],[0,1,2,3,4,5,6,7,8,9,10,11],none⟩,⟨some 5,[12,0,1,2,3,4,5,6,7,8,9,10,11,12],[0,1,2,3,4,5,6,7,8,9,10,11,12],none⟩]
def unitV (p:Prm) (id:BitVec 32):List Bool:=bitsOf p.n [(id.toNat:Int)]
theorem row_unit (p:Prm) (id:BitVec 32) (hp:p.ok) (h:id.toNat<p.k):SpRow p id (unitV p id):=by
 obtain ⟨p1,p2,p3,p4,p5⟩:=hp.out
 refine ⟨bitsOf_len _ _,fun H=>?_⟩
 refine spec_pure (res:=fun r:Nat × Option Addr × Nat=>[vB r.1 p.n r.2.1 r.2.2,vR p.n r.2.1 r.2.2 (unitV p id)]) H Tryz.func85 rfl Tryz.ntmps85 (by kernel_rfl) rfl (fun W=>?_)
 have e:(if mayP (p.k:Int) p.p p.z=true then (p.k:Int)+p.p else 0)=(p.n:Int):=by rw [if_pos hp];push_cast;rfl
 have hn1 : ¬ (p.n:Int)=0:=by show ¬ ((p.k+p.p:Nat):Int)=0;omega
 have hn2:p.n≤256:=by show p.k+p.p≤256;omega
 repeat' (first|intro _|refine cw ?_|refine cw2 ?_ ?_|(refine k_fn 135 ?_;(refine o1_call (fun _=>spread_Pieces _ p.s p.k p.p p.z) rfl (fun _ _=>?_);rw [e]))|(refine k_binOp .eql ?_;refine o1_eql_f rfl rfl hn1 ?_)|(refine k_convert ?_;first|refine o1_conv_u64 rfl (by omega) ?_|refine o1_conv_i rfl (by omega) ?_)|(refine k_binOp .lss ?_;refine o1_lss_t rfl rfl (by omega) ?_)|(refine k_buildSlice ?_;refine o1_lit_enc (T:=147) I [(id.toNat:Int)] rfl rfl rfl (fun _=>rfl) rfl rfl rfl (fun b20=>?_))|(refine k_fn 136 ?_;(refine o1_call (fun hh=>vec_Of _ p.n (some ⟨b20,0,none⟩) 1 [(id.toNat:Int)] hn2 (rx_box rfl (by decide) hh)) rfl (fun ⟨vb,va,vc⟩ _=>?_);(try dsimp only)))|refine ow ?_|refine ow2 ?_ ?_|fail)
 refine rt_tmp (vb,va,vc) rfl rfl rfl trivial ?_
 exact ent
abbrev deC (p:Prm) (mb t:Nat) (o:BitVec 32) (k:Int) (l:Value):List Value:=[W4 p.s,I p.k,I p.p,I p.z,.pointer (some ⟨mb,0,none⟩),I t,W4 o,K4 k,W4 0#32,l]
theorem de_Image1 (H:List Hl) (p:Prm) (mb t db v:Nat) (ar:Option Addr) (cr:Nat) (M:List (Option RD)) (R:List RD) (hM:RdM (stars H) mb p.n p.z ar cr p.n M) (hR:M=R.map some) :
  Spec Tryz.prog 200 [.pointer (some ⟨v,0,none⟩)] (.box db 221 (deC p mb t 0#32 1 (.slice none 0 0)) :: .box v 164 [.pointer (some ⟨db,0,none⟩)]::H) (fun r:Option Addr × Nat × List (SlD (BitVec 8))=>r.2.2.map (·.l)=R.map (·.d)) (fun _ => .tuple #[])
   (fun r => .box db 221 (deC p mb t 0#32 1 (.slice r.1 r.2.2.length r.2.1)) :: .box v 164 [.pointer (some ⟨db,0,none⟩)] :: .row 22 1 (.slice r.1 r.2.2.length r.2.1) r.2.2.length (r.2.2.map Bs) :: .any (pcs 5 r.2.2)::H):=by
 refine spec_fn (res:=fun r:Option Addr × Nat × List (SlD (BitVec 8))=>[.box db 221 (deC p mb t 0#32 1 (.slice r.1 r.2.2.length r.2.1)),.box v 164 [.pointer (some ⟨db,0,none⟩)],.row 22 1 (.slice r.1 r.2.2.length r.2.1) r.2.2.length (r.2.2.map Bs),.any (pcs 5 r.2.2)]) [.box db 221 (deC p mb t 0#32 1 (.slice none 0 0)),.box v 164 [.pointer (some ⟨db,0,none⟩)]] H Tryz.func200 rfl Tryz.ntmps200 (by kernel_rfl) rfl (fun W=>?_)
 dsimp only [List.cons_append,List.nil_append]
 repeat' (first|intro _|refine cw ?_|refine cw2 ?_ ?_|refine ow ?_|refine ow2 ?_ ?_|fail)
 refine st_stages' [(0,_)] rtD23_0 [5,8] [⟨[0,1,2,3,4],[],some 5⟩,⟨[6,7],[0],some 8⟩,⟨[],[],none⟩] mixed cv (by kernel_rfl) (by kernel_rfl) ?_
 repeat' (first|intro _|refine sg ?_|(refine p_load ?_;refine po (by first|refine ox_load (b:=v) (i:=0) rfl rfl fz|refine ox_load (b:=db) (i:=4) rfl rfl fz|fail) ?_)|refine pw ?_|refine pdd ?_|(refine k_fn 201 ?_;(refine o1_call (fun _=>elim_Solve _ mb p.n p.z ar cr M R hM.up hR) rfl (fun ⟨a6,c6,qs⟩ hqs=>?_);dsimp only at hqs ⊢))|(refine k_store ?_;refine ox_stores (b:=db) (i:=9) rfl rfl (by decide) rfl rfl ?_)|refine ow ?_|fail)
 all_goals dsimp only [List.cons_append,List.nil_append]
 repeat' (first|intro _|refine cw ?_|refine cw2 ?_ ?_|refine ow ?_|refine ow2 ?_ ?_|fail)
 refine rt_none (a6,c6,qs) rfl rfl hqs ?_
 exact ent
theorem de_Needs0 (H:List Hl) (p:Prm) (mb t:Nat) (o:BitVec 32) (k:Int) (l:Value) (db c:Nat) (hp:p.ok) (hb:c≤1000) (hc:Cl (stars H) ⟨mb,3,none⟩ (I c)) :
  Spec Tryz.prog 123 [.pointer (some ⟨db,0,none⟩)] (.box db 221 (deC p mb t o k l)::H) (fun _:Unit=>True) (fun _=>I ((p.n:Int) - c)) (fun _ => .box db 221 (deC p mb t o k l)::H):=by
 refine spec_fn (res:=fun _:Unit=>[.box db 221 (deC p mb t o k l)]) [.box db 221 (deC p mb t o k l)] H Tryz.func123 rfl Tryz.ntmps123 (by kernel_rfl) rfl (fun W=>?_)
 dsimp only [List.cons_append,List.nil_append]
 obtain ⟨p1,p2,p3,p4,p5⟩:=hp.out
 have hn2:p.n≤256:=by show p.k+p.p≤256;omega
 have e:(if mayP (p.k:Int) p.p p.z=true then (p.k:Int)+p.p else 0)=(p.n:Int):=by rw [if_pos hp];push_cast;rfl
 repeat' (first|intro _|refine cw ?_|refine cw2 ?_ ?_|refine o1_peql rfl rfl ?_|refine ow ?_|refine ow2 ?_ ?_|fail)
 refine st_stages' [(0,_)] rtD23_1 [4,9] [⟨[0,1,2,3,5,6,7,8],[],some 4⟩,⟨[],[5,6,7,8],some 9⟩,⟨[10,11],[],none⟩] mixed cv (by kernel_rfl) (by kernel_rfl) ?_
 repeat' (first|intro _|refine sg ?_|(refine p_load ?_;refine po (by first|refine ox_load (b:=db) (i:=4) rfl rfl fz|fail) ?_)|(refine p_binOp .sub ?_;refine po (by first|refine o1_sub rfl rfl (by omega) fz|fail) ?_)|refine pw ?_|refine pdd ?_|(refine k_fn 135 ?_;(refine o1_call (fun _=>spread_Pieces _ p.s p.k p.p p.z) rfl (fun _ _=>?_);rw [e]))|(refine k_fn 169 ?_;refine o1_call (fun _=>elim_Rank _ mb c (cl_up hc)) rfl (fun _ _=>?_))|refine ow ?_|fail)
 all_goals dsimp only [List.cons_append,List.nil_append]
 repeat' (first|intro _|refine cw ?_|refine cw2 ?_ ?_|refine ow ?_|refine ow2 ?_ ?_|fail)
 refine rt_tmp () rfl rfl rfl trivial ?_
 exact ent
def solD (M:List (Option LN)):List (List (BitVec 8)):=M.map (fun o=>match o with|some y=>y.2|none=>[])
def imgB (p:Prm) (d:Dec) (len:Nat):List (BitVec 8):=joinL ((solD d.M).take p.k).flatten len
theorem full_rows {M:List (Option RD)} {ML:List (Option LN)} (hM:M.map vw=ML) (hf:cntS ML=ML.length):∃ R:List RD,M=R.map some∧R.map (·.d)=solD ML:=by
 subst hM
 have hs:=full_some hf
 induction M with
 | nil=>exact ⟨[],rfl,rfl⟩
 | cons o M ih =>
  obtain ⟨y,hy⟩:=hs 0 (by simp)
  cases o with
  | none=>simp [vw] at hy
  | some r =>
   have hf2:cntS (M.map vw)=(M.map vw).length:=by
    have h1:=cntS_le (M.map vw)
    simp only [List.map_cons,List.length_cons,vw,Option.map_some,cntS] at hf
    omega
   obtain ⟨R,h1,h2⟩:=ih hf2 (full_some hf2)
   refine ⟨r::R,by rw [h1];rfl,?_⟩
   show r.d::R.map (·.d)=r.d::solD (M.map vw)
   rw [h2]
set_option maxHeartbeats 4000000 in
theorem de_Image (H:List Hl) (p:Prm) (d:Dec) (db len:Nat) (hp:p.ok) (hR:RR p.n p.z d.M) (hf:cntS d.M=p.n) (hl:count len p.z=p.k) :
  Spec Tryz.prog 170 [.pointer (some ⟨db,0,none⟩),I len] (.any (deP p d db)::H) (fun _:Option Addr × Nat=>True) (fun r => .tuple #[.slice r.1 (imgB p d len).length r.2,.bool true]) (fun r => .row 5 1 (.slice r.1 (imgB p d len).length r.2) (imgB p d len).length ((imgB p d len).map B)::H):=by
 refine Spec.som (by kernel_rfl) (fun ⟨mb,ar,cr,M⟩ ⟨hk,hM⟩=>?_)
 dsimp only at hk hM
 show Spec _ _ _ (deB db mb p d.t::mB mb p.n p.z ar cr (cntS d.M)::mR p.n ar cr M :: .any (mrows M)::H) _ _ _
 have hlen:=hR.lok.len
 obtain ⟨R,hMR,hRd⟩:=full_rows hM (by rw [hf,hlen])
 obtain ⟨p1,p2,p3,p4,p5⟩:=hp.out
 refine spec_fn (res:=fun r:Option Addr × Nat=>[.row 5 1 (.slice r.1 (imgB p d len).length r.2) (imgB p d len).length ((imgB p d len).map B)]) [deB db mb p d.t,mB mb p.n p.z ar cr (cntS d.M),mR p.n ar cr M,.any (mrows M)] H Tryz.func170 rfl Tryz.ntmps170 (by kernel_rfl) rfl (fun W=>?_)
 dsimp only [List.cons_append,List.nil_append]
 have hcn:count (len:Int) p.z≠0:=by rw [hl];omega
 obtain ⟨c1,c2,c3,c4,c5,c6,c7⟩:=count_pos hcn
 have hcb:cntS d.M≤1000:=by rw [hf];show p.k+p.p≤1000;omega
 have hf0:((p.n:Int) - (cntS d.M:Int))=0:=by rw [hf];omega
 repeat' (first|intro _|refine cw ?_|refine cw2 ?_ ?_|(refine k_box ?_;refine o1_box rfl rfl (fun v=>?_))|refine ow ?_|refine ow2 ?_ ?_|fail)
 refine st_stages' [(2,_),(1,_)] rtD23_2 [4,14] [⟨[0,1,2,3],[],some 4⟩,⟨[5,6,7,8,9,10,11,12,13,15,16,17,18,19],[],some 14⟩,⟨[20,21],[15,16,17,18,19],none⟩] mixed cv (by kernel_rfl) (by kernel_rfl) ?_
 repeat' (first|intro _|refine sg ?_|(refine p_load ?_;refine po (by first|refine ox_load (b:=v) (i:=0) rfl rfl fz|refine ox_load (b:=db) (i:=3) rfl rfl fz|refine ox_load (b:=db) (i:=1) rfl rfl fz|fail) ?_)|refine po (by first|refine o1_peql rfl rfl fz|fail) ?_|(refine p_binOp .neq ?_;refine po (by first|refine o1_neq_f rfl rfl rfl fz|fail) ?_)|refine pw ?_|refine pdd ?_|refine o1_peql rfl rfl ?_|(refine k_fn 123 ?_;(refine o1_call_box (b:=db) (fun _=>de_Needs0 _ p mb d.t 0#32 0 (.slice none 0 0) db (cntS d.M) hp hcb (cl_box rfl)) rfl (fun _ _=>?_);rw [hf0]))|(refine k_fn 105 ?_;(refine o1_call (fun _=>block_Count _ _ _) rfl (fun _ _=>?_);rw [hl]))|refine ow ?_|fail)
 all_goals dsimp only [List.cons_append,List.nil_append]
 have hRn:R.length=p.n:=by rw [←hk.len,hMR,List.length_map]
 have hpk:p.k≤p.n:=by show p.k≤p.k+p.p;omega
 rw [hf]
 repeat' (first|intro _|refine cw ?_|refine cw2 ?_ ?_|(refine k_fn 131 ?_;refine o1_call_box (b:=db) (fun hh=>on_Do _ db 6 _ (deC p mb d.t 0#32 0 (.slice none 0 0)) 200 [.pointer (some ⟨v,0,none⟩)] rfl rfl (de_Image1 _ p mb d.t db v ar cr M R (RdM.own hk (has_tail (has_tail hh))) hMR) (fun _ _=>rfl)) rfl (fun ⟨aq,cq,qs⟩ hqs=>?_))|refine o1_func rfl ?_|refine ow ?_|refine ow2 ?_ ?_|fail)
 dsimp only at hqs ⊢
 have hql:qs.length=p.n:=by have:=congrArg List.length hqs;simp only [List.length_map] at this;omega
 obtain ⟨Lq,hLq⟩:∃ Lq,qs.take p.k=Lq:=⟨_,rfl⟩
 have hLl:Lq.length=p.k:=by rw [←hLq,List.length_take];omega
 have hsub:∀ s∈Lq,s∈qs:=fun s hs=>by rw [←hLq] at hs;exact List.mem_of_mem_take hs
 have himg:joinL (cat Lq) len=imgB p d len:=by
  unfold imgB
  rw [←hRd,←hqs,←hLq,←List.map_take]
  rfl
 refine st_stages' [(2,_),(1,_)] rtD23_3 [11] [⟨[0,1,2,3,4,5,6,7,8,9,10],[],some 11⟩,⟨[12,13],[],none⟩] mixed cv (by kernel_rfl) (by kernel_rfl) ?_
 repeat' (first|intro _|refine sg ?_|(refine p_load ?_;refine po (by first|refine ox_load (b:=v) (i:=0) rfl rfl fz|refine ox_load (b:=db) (i:=9) rfl rfl fz|refine ox_load (b:=db) (i:=1) rfl rfl fz|fail) ?_)|(refine p_slice ?_;refine po (by first|((refine ox_cs_hr (enc:=Bs) (xs:=qs) p.k rfl rfl rfl rfl (by omega) ?_;rw [hLq]);all_goals exact fz)|fail) ?_)|refine pw ?_|refine pdd ?_|(refine k_fn 202 ?_;(refine o1_call (fun hh=>block_Join _ (cutA aq cq 0) (cq - 0) Lq len (rx_cuth (l:=qs) (enc:=Bs) p.k (by omega) hLq hh) (fun s hs=>pcs_read (T:=5) (ls:=qs) (hsub s hs) hh)) rfl (fun ⟨a44,c44⟩ _=>?_);(try dsimp only);rw [himg]))|refine ow ?_|fail)
 all_goals dsimp only [List.cons_append,List.nil_append]
 repeat' (first|intro _|refine cw ?_|refine cw2 ?_ ?_|refine ow ?_|refine ow2 ?_ ?_|fail)
 refine rt_tmp2 (a44,c44) rfl rfl rfl rfl trivial ?_
 exact ent
def rtD24_0:List Row:=[⟨some 33,[],[],none⟩,⟨some 34,[0],[0],none⟩,⟨some 35,[],[],none⟩,⟨some 36,[2],[2],none⟩,⟨some 37,[1,3],[0,1,2,3],none⟩,⟨some 38,[],[],none⟩,⟨some 39,[],[],none⟩,⟨some 40,[6],[6],none⟩,⟨some 41,[4,5,7],[0,1,2,3,4,5,6,7],none⟩,⟨some 42,[8],[0,1,2,3,4,5,6,7,8],none⟩,⟨some 12,[9,7,0,1,2,3,4,5,6,7,8,9],[0,1,2,3,4,5,6,7,8,9],none⟩]
def rtD24_1:List Row:=[⟨some 50,[],[],none⟩,⟨some 51,[0],[0],none⟩,⟨some 52,[1],[0,1],none⟩,⟨some 53,[2],[0,1,2],none⟩,⟨some 54,[],[],none⟩,⟨some 55,[4],[4],none⟩,⟨some 56,[],[],none⟩,⟨some 57,[6],[6],none⟩,⟨some 58,[3,5,7],[0,1,2,3,4,5,6,7],none⟩]
theorem rx_w2 {α:Type} {H H':List Hl} {T:TypeId} {f g:α→Value} {ad:Option Addr} {n c:Nat} {l:List α} [s:SRw2 H ad c n T (w2 f g l) H'] (hh:Has H):R2 (stars H) f g ad c l:=R2.of_row s.s hh
theorem RdRs.up {A:Hp→Prop} {rs:List RecD} {H H':List Hl} (h:RdRs A rs) [s:SAny H A H']:RdRs (stars H) rs:=fun r hr=>⟨(h r hr).1.up,(h r hr).2⟩
structure Sto where
 p:Prm
 g:BitVec 32
 len:Nat
 rdy:Int
 nxt:Nat
 d:Dec
abbrev soB (sb wb db:Nat) (st:Sto):Hl := .box sb 166 [W4 0#32,W4 0#32,I st.len,I st.p.z,I 0,.slice none 0 0,.pointer (some ⟨wb,0,none⟩),.pointer (some ⟨db,0,none⟩)]
abbrev SLay:=Nat × Nat × Option Addr × Nat × List RecD
def stL (st:Sto) (fb sb:Nat) (l:SLay):List Hl:=[soB sb l.1 l.2.1 st,whB l.1 fb st.g st.p.z l.2.2.1 l.2.2.2.2.length l.2.2.2.1 st.rdy st.nxt,rsR l.2.2.1 l.2.2.2.1 l.2.2.2.2,.any (deP st.p st.d l.2.1)]
def stP (st:Sto) (fb sb:Nat):Hp→Prop:=Som (fun l:SLay=>l.2.2.2.2.length≤144+st.nxt) (stL st fb sb)
theorem rt_st {P:Program} {k:Kon} {m:Nat} {e:Ev} {W:World} {H R:List Hl} {st:Sto} {fb sb wb db:Nat} {la:Option Addr} {lc:Nat} {rs:List RecD} (hl:rs.length≤144+st.nxt) (hE:Ent H (soB sb wb db st::whB wb fb st.g st.p.z la rs.length lc st.rdy st.nxt::rsR la lc rs :: .any (deP st.p st.d db)::R)) (h:Rt P k m e W (.any (stP st fb sb)::R)):Rt P k m e W H :=
 rt_hide (L:=stL st fb sb) (p:=fun l:SLay=>l.2.2.2.2.length≤144+st.nxt) (wb,db,la,lc,rs) hl hE h
def recD (p:Prm) (V:BitVec 32→List Bool) (l:List Rec):Dec:=l.foldl (fun d r=>takeD p d (V r.1) r.2) (newD p)
def openS (p:Prm) (g:BitVec 32) (len:Nat) (V:BitVec 32→List Bool) (bs:List (BitVec 8)):Sto:=⟨p,g,len,rdyW bs g p.z 8,nxtW bs g p.z,recD p V (recsW bs g p.z 8)⟩
theorem takeD_RR {p:Prm} {d:Dec} {v:List Bool} {x:List (BitVec 8)} (h:RR p.n p.z d.M) (hv:v.length=p.n) (hx:x.length=p.z):RR p.n p.z (takeD p d v x).M:=by
 unfold takeD
 split
 ·exact h
 ·exact addF_RR h hv hx
theorem takeD_t (p:Prm) (d:Dec) (v:List Bool) (x:List (BitVec 8)):(takeD p d v x).t≤d.t+1:=by
 unfold takeD
 split
 ·omega
 ·exact Nat.le_refl _
theorem recD_ok (p:Prm) (V:BitVec 32→List Bool):∀ l:List Rec,(∀ r∈l,(V r.1).length=p.n∧r.2.length=p.z)→RR p.n p.z (recD p V l).M∧(recD p V l).t≤l.length:=fun l=>rev_ind (P:=fun l=>(∀ r∈l,(V r.1).length=p.n∧r.2.length=p.z)→RR p.n p.z (recD p V l).M∧(recD p V l).t≤l.length) (fun _=>⟨rowsM_RR p _ (fun v hv=>by
  obtain ⟨j,_,rfl⟩:=List.mem_map.1 hv
  exact rowR_len _ _ _ _),Nat.le_refl _⟩) (fun l a ih h=>by
 have e:recD p V (l++[a])=takeD p (recD p V l) (V a.1) a.2:=by simp [recD]
 obtain ⟨i1,i2⟩:=ih (fun r hr=>h r (by simp [hr]))
 obtain ⟨a1,a2⟩:=h a (by simp)
 rw [e]
 refine ⟨takeD_RR i1 a1 a2,?_⟩
 have:=takeD_t p (recD p V l) (V a.1) a.2
 simp only [List.length_append,List.length_singleton]
 omega) l
theorem recsP_len {l:List (BitVec 8)} {g:BitVec 32} {z p:Nat} (hz1:1≤z) (hz2:z≤16) (hl:l.length=3584):∀ n,p+n≤8*plW z→∀ r∈recsP l g z p n,r.2.length=z
 | 0,_,r,hr=>by cases hr
 | n+1,hn,r,hr=>by
  unfold recsP at hr
  cases hw:recAt l g z (p+n) with
  | none=>rw [hw] at hr;exact recsP_len hz1 hz2 hl n (by omega) r hr
  | some q =>
   rw [hw] at hr
   rcases List.mem_append.1 hr with h|h
   ·exact recsP_len hz1 hz2 hl n (by omega) r h
   ·obtain rfl:r=q:=by simpa using h
    obtain ⟨id,d⟩:=r
    have:=(at_bounds hz1 hz2 (p:=p+n) (by omega)).1
    exact (recAt_len hw (by omega)).2
theorem recsW_len {l:List (BitVec 8)} {g:BitVec 32} {z:Nat} (hz1:1≤z) (hz2:z≤16) (hl:l.length=3584):∀ n,n≤8→∀ r∈recsW l g z n,r.2.length=z
 | 0,_,r,hr=>by cases hr
 | n+1,hn,r,hr=>by
  unfold recsW at hr
  split at hr
  ·rcases List.mem_append.1 hr with h|h
   ·exact recsW_len hz1 hz2 hl n (by omega) r h
   ·refine recsP_len hz1 hz2 hl _ ?_ r h
    have:(n+1)*plW z≤8*plW z:=Nat.mul_le_mul_right _ (by omega)
    rw [Nat.add_mul,Nat.one_mul] at this
    exact this
  ·exact recsW_len hz1 hz2 hl n (by omega) r hr
set_option maxHeartbeats 8000000 in
theorem so_Open (H:List Hl) (fb:Nat) (m:ManD) (p:Prm) (g:BitVec 32) (len:Nat) (V:BitVec 32→List Bool) (ad:Option Addr) (c:Nat) (f:Fl) (hp:p.ok) (hs:m.s=p.s) (hn:m.n=len) (hz:m.z=p.z) (hpp:m.p=p.p) (hc:count len p.z=p.k) (hf:RdFl (stars H) fb ad c f) (hd:f.pw.isDown=false) (ht:TabF (stars H)) (hV:∀ r∈recsW f.bs g p.z 8,SpRow p r.1 (V r.1)) :
  Spec Tryz.prog 119 [.pointer (some ⟨fb,0,none⟩),m.V,W4 g] H (fun _:Nat=>True) (fun sb => .tuple #[.pointer (some ⟨sb,0,none⟩),I 0]) (fun sb => .any (stP (openS p g len V f.bs) fb sb)::H):=by
 refine spec_pure (res:=fun sb:Nat=>[.any (stP (openS p g len V f.bs) fb sb)]) H Tryz.func119 rfl Tryz.ntmps119 (by kernel_rfl) rfl (fun W=>?_)
 obtain ⟨p1,p2,p3,p4,p5⟩:=hp.out
 have hmay:mayP (count m.n m.z) m.p m.z=true:=by rw [hn,hz,hpp,hc];exact hp
 have hpar:m.parL=[W4 p.s,I p.k,I p.p,I p.z]:=by rw [ManD.parL,if_pos hmay,hs,hn,hz,hpp,hc]
 obtain ⟨ms,mv,mn,mz,mp,mh⟩:=m
 dsimp only at hs hn hz hpp hmay
 subst hs hn hz hpp
 obtain ⟨RW,hRW⟩:∃ RW,recsW f.bs g p.z 8=RW:=⟨_,rfl⟩
 have hlen:=recsW_len (g:=g) p4 p5 hf.l 8 (Nat.le_refl _)
 rw [hRW] at hV hlen
 repeat' (first|intro _|refine cw ?_|refine cw2 ?_ ?_|(refine k_fn 58 ?_;(refine o1_call (fun _=>code_Of _ ⟨p.s,mv,len,p.z,p.p,mh⟩) rfl (fun _ _=>?_);rw [hpar,hmay]))|(refine k_box ?_;refine o1_box rfl rfl (fun b4=>?_))|(refine k_alloc ?_;refine o1_alloc rfl (fun b8=>?_))|(refine k_fn 159 ?_;(refine o1_call (fun _=>wh_Open _ fb g p.z ad c f p4 p5 hf.up hd) rfl (fun ⟨wb,⟨la,lc,rs⟩,A⟩ hw0=>?_);obtain ⟨hw1,hw2,hw3⟩:=hw0;(try dsimp only at hw1 hw2 hw3 ⊢)))|refine ow ?_|refine ow2 ?_ ?_|fail)
 rw [hRW] at hw1
 have hr1000:∀ r∈rs,r.l.length≤1000:=fun r hr=>by
  have h1:r.p∈RW:=by rw [←hw1];exact List.mem_map_of_mem hr
  have h2:r.l.length=p.z:=hlen _ h1
  omega
 refine st_stages' [(4,_),(10,_),(8,_)] rtD24_0 [7,9] [⟨[0,1,2,3,4,5,6],[],some 7⟩,⟨[8],[0,1,2,3,4,5],some 9⟩,⟨[10],[],none⟩] mixed cv (by kernel_rfl) (by kernel_rfl) ?_
 repeat' (first|intro _|refine sg ?_|refine pw ?_|refine pdd ?_|(refine k_fn 160 ?_;(refine o1_call (fun _=>de_New _ p hp ht.up) rfl (fun db _=>?_);(try dsimp only)))|(refine k_box ?_;refine o1_box rfl rfl (fun sb=>?_))|refine ow ?_|fail)
 all_goals dsimp only [List.cons_append,List.nil_append]
 repeat' (first|intro _|refine cw ?_|refine cw2 ?_ ?_|(refine k_fn 161 ?_;(refine o1_call (fun hh=>wh_Records _ wb la lc rs (cl_box rfl) (rx_w2 (T:=243) hh) hw2.up (by omega) hr1000) rfl (fun ⟨⟨la2,lc2,rs2⟩,A2⟩ hr0=>?_);obtain ⟨hr1,hr2⟩:=hr0;(try dsimp only at hr1 hr2 ⊢)))|refine ow ?_|refine ow2 ?_ ?_|fail)
 have hrl:rs2.length=rs.length:=by have:=congrArg List.length hr1;simpa using this
 rw [hw1] at hr1
 refine st_pack [rsR la2 lc2 rs2,.any A2] [soB sb wb db ⟨p,g,len,rdyW f.bs g p.z 8,nxtW f.bs g p.z,newD p⟩,whB wb fb g p.z la rs.length lc (rdyW f.bs g p.z 8) (nxtW f.bs g p.z),rsR la lc rs,.any (deP p (newD p) db),.any (stars H)] ent ?_
 refine st_has (fun hh=>?_)
 have hA:=has_any hh
 have u1:R2 (stars [rsR la2 lc2 rs2,.any A2]) rF rG la2 lc2 rs2:=rx_w2 (T:=243) hA
 have u2:RdRs (stars [rsR la2 lc2 rs2,.any A2]) rs2:=hr2.gr Gr.of
 obtain ⟨A3,hA3⟩:∃ A3,stars [rsR la2 lc2 rs2,.any A2]=A3:=⟨_,rfl⟩
 rw [hA3] at u1 u2 ⊢
 clear hh hA hA3
 have hpre:∀ i,∀ r∈RW.take i,(V r.1).length=p.n∧r.2.length=p.z:=fun i r hr=>⟨(hV r (List.mem_of_mem_take hr)).1,hlen r (List.mem_of_mem_take hr)⟩
 have hRl:RW.length=rs2.length:=by rw [←hr1,List.length_map]
 refine st_loop (S:=Nat) (fun i=>[(12,.pointer (some ⟨sb,0,none⟩)),(44,.slice la2 rs2.length lc2),(45,I rs2.length),(46,I i)])
  (fun i=>[.any (deP p (recD p V (RW.take i)) db),.any A3,soB sb wb db ⟨p,g,len,rdyW f.bs g p.z 8,nxtW f.bs g p.z,newD p⟩,whB wb fb g p.z la rs.length lc (rdyW f.bs g p.z 8) (nxtW f.bs g p.z),rsR la lc rs,.any (stars H)])
  (fun i=>i≤rs2.length) (fun i=>rs2.length - i) 0 (Nat.zero_le _) cv (by show Ent _ [.any (deP p (newD p) db),.any A3,soB sb wb db ⟨p,g,len,rdyW f.bs g p.z 8,nxtW f.bs g p.z,newD p⟩,whB wb fb g p.z la rs.length lc (rdyW f.bs g p.z 8) (nxtW f.bs g p.z),rsR la lc rs,.any (stars H)];exact ent) ?_
 intro i hi
 by_cases hlt:i<rs2.length
 ·obtain ⟨r,hri⟩:∃ r,rs2[i]?=some r:=⟨_,List.getElem?_eq_getElem hlt⟩
  obtain ⟨hrr,hrn⟩:=u2 r (List.mem_of_getElem? hri)
  have hrp:RW[i]?=some r.p:=by rw [←hr1,List.getElem?_map,hri];rfl
  have hrm:=List.mem_of_getElem? hrp
  have hrz:r.l.length=p.z:=hlen _ hrm
  obtain ⟨ok1,ok2⟩:=recD_ok p V (RW.take i) (hpre i)
  have ok3:(recD p V (RW.take i)).t≤1000:=by
   have:=List.length_take_le i RW
   omega
  have hnext:recD p V (RW.take (i+1))=takeD p (recD p V (RW.take i)) (V r.id) r.l:=by
   obtain ⟨h1,h2⟩:=List.getElem?_eq_some_iff.1 hrp
   rw [List.take_succ_eq_append_getElem h1,h2]
   simp [recD,RecD.p]
  repeat' (first|intro _|refine cw ?_|refine cw2 ?_ ?_|(refine k_indexAddr ?_;refine o1_iaw (f:=rF) (g:=rG) (ad:=la2) (c:=lc2) i rfl rfl u1 rfl rfl hlt ?_)|(refine k_load ?_;refine o1_load_iaw (f:=rF) (g:=rG) (ad:=la2) (c:=lc2) i r rfl u1 hri ?_)|refine ow ?_|refine ow2 ?_ ?_|fail)
  refine st_stages' [(12,_),(14,_)] rtD24_1 [8] [⟨[0,1,2,3,4,5,6,7],[],some 8⟩,⟨[],[],none⟩] mixed cv (by kernel_rfl) (by kernel_rfl) ?_
  repeat' (first|intro _|refine sg ?_|(refine p_load ?_;refine po (by first|refine ox_load (b:=sb) (i:=7) rfl rfl fz|fail) ?_)|refine pw ?_|refine pdd ?_|(refine k_fn 122 ?_;(refine o1_call_a (deP p (recD p V (RW.take i)) db) (fun _=>de_Take _ p (recD p V (RW.take i)) db r.id (V r.id) r.ad r.n r.cap r.l hp (hV _ hrm) ok1 ht.up hrr.up hrn.symm hrz ok3) rfl (fun _ _=>?_);rw [←hnext]))|refine ow ?_|fail)
  all_goals dsimp only [List.cons_append,List.nil_append]
  repeat' (first|intro _|refine cw ?_|refine cw2 ?_ ?_|refine ow ?_|refine ow2 ?_ ?_|fail)
  refine nx_again (i+1) hlt (by omega) cv ?_
  exact ent
 ·have:i=rs2.length:=by omega
  subst this
  rw [List.take_of_length_le (by omega)]
  repeat' (first|intro _|refine cw ?_|refine cw2 ?_ ?_|refine ow ?_|refine ow2 ?_ ?_|fail)
  have hop:openS p g len V f.bs=⟨p,g,len,rdyW f.bs g p.z 8,nxtW f.bs g p.z,recD p V RW⟩:=by rw [openS,hRW]
  rw [hop]
  refine rt_st (st:=⟨p,g,len,rdyW f.bs g p.z 8,nxtW f.bs g p.z,recD p V RW⟩) (wb:=wb) (db:=db) (la:=la) (lc:=lc) (rs:=rs) (R:=[.any (stars H)]) (by show rs.length≤144+_;omega) ent ?_
  refine rt_tmp2 sb rfl rfl rfl rfl trivial ?_
  exact ent
def rtD25_0:List Row:=[⟨some 6,[],[],none⟩,⟨some 7,[0],[0],none⟩,⟨some 8,[1],[0,1],none⟩,⟨some 9,[2],[0,1,2],none⟩,⟨some 10,[],[],none⟩,⟨some 11,[4],[4],none⟩,⟨some 12,[5],[4,5],none⟩,⟨some 13,[6],[4,5,6],none⟩,⟨some 14,[7],[4,5,6,7],none⟩,⟨some 15,[3,8],[0,1,2,3,4,5,6,7,8],none⟩,⟨some 16,[9],[0,1,2,3,4,5,6,7,8,9],none⟩,⟨some 17,[9],[0,1,2,3,4,5,6,7,8,9],none⟩,⟨some 2,[10,9,0,1,2,3,4,5,6,7,8,9,10,11],[0,1,2,3,4,5,6,7,8,9,10,11],none⟩,⟨some 3,[11,12,0,1,2,3,4,5,6,7,8,9,10,11,12],[0,1,2,3,4,5,6,7,8,9,10,11,12],none⟩]
def putS (st:Sto) (f:Fl) (id:BitVec 32) (v:List Bool) (x:List (BitVec 8)):Sto × Fl × Int :=
 if saysD st.p st.d v=false then (st,f,8) else
 if (addW f st.g st.rdy st.nxt id x).2≠0 then (st,(addW f st.g st.rdy st.nxt id x).1,(addW f st.g st.rdy st.nxt id x).2) else
 (⟨st.p,st.g,st.len,((st.nxt / plW st.p.z:Nat):Int),st.nxt+1,takeD st.p st.d v x⟩,(addW f st.g st.rdy st.nxt id x).1,0)
set_option maxHeartbeats 8000000 in
theorem so_Put (H:List Hl) (st:Sto) (fb sb:Nat) (ad:Option Addr) (c:Nat) (f:Fl) (h:Hid) (id:BitVec 32) (v:List Bool) (ad2:Option Addr) (m c2:Nat) (x:List (BitVec 8)) (hp:st.p.ok) (hR:RR st.p.n st.p.z st.d.M) (htk:st.d.t≤1000) (hv:SpRow st.p id v) (hx:Rs (stars H) B ad2 c2 x) (hm:m=x.length) (hz:x.length=st.p.z) (hk:FlOk f h) (hd:f.pw.isDown=false) (hn:st.nxt≤8*plW st.p.z) (ht:TabF (stars H)) :
  Spec Tryz.prog 78 [.pointer (some ⟨sb,0,none⟩),W4 id,.slice ad2 m c2] (.any (stP st fb sb)::fB fb ad c f h::fR ad c f::H) (fun h':Hid=>FlOk (putS st f id v x).2.1 h') (fun _=>I (putS st f id v x).2.2) (fun h' => .any (stP (putS st f id v x).1 fb sb)::fB fb ad c (putS st f id v x).2.1 h'::fR ad c (putS st f id v x).2.1::H):=by
 refine Spec.som (by kernel_rfl) (fun ⟨wb,db,la,lc,rs⟩ hrl=>?_)
 have hrl:rs.length≤144+st.nxt:=hrl
 show Spec _ _ _ (soB sb wb db st::whB wb fb st.g st.p.z la rs.length lc st.rdy st.nxt::rsR la lc rs :: .any (deP st.p st.d db)::fB fb ad c f h::fR ad c f::H) _ _ _
 refine spec_fn (res:=fun h':Hid=>[.any (stP (putS st f id v x).1 fb sb),fB fb ad c (putS st f id v x).2.1 h',fR ad c (putS st f id v x).2.1]) [soB sb wb db st,whB wb fb st.g st.p.z la rs.length lc st.rdy st.nxt,rsR la lc rs,.any (deP st.p st.d db),fB fb ad c f h,fR ad c f] H Tryz.func78 rfl Tryz.ntmps78 (by kernel_rfl) rfl (fun W=>?_)
 dsimp only [List.cons_append,List.nil_append]
 obtain ⟨p1,p2,p3,p4,p5⟩:=hp.out
 obtain ⟨b1,b2,b3⟩:=pl_bounds p4 p5
 have hmz:(m:Int)=st.p.z:=by rw [hm,hz]
 have hm2:m=st.p.z:=by rw [hm,hz]
 subst hm2
 obtain ⟨y,hy⟩:∃ y,saysD st.p st.d v=y:=⟨_,rfl⟩
 cases y
 ·have hput:putS st f id v x=(st,f,8):=if_pos hy
  rw [hput]
  repeat' (first|intro _|refine cw ?_|refine cw2 ?_ ?_|refine o1_peql rfl rfl ?_|(refine k_load ?_;first|refine ox_load (b:=sb) (i:=3) rfl rfl ?_|refine ox_load (b:=sb) (i:=7) rfl rfl ?_)|(refine k_binOp .neq ?_;refine o1_neq_f rfl rfl rfl ?_)|(refine k_fn 120 ?_;(refine o1_call_a (deP st.p st.d db) (fun _=>de_Says _ st.p st.d db id v hp hv ht.up) rfl (fun _ _=>?_);rw [hy]))|refine ow ?_|refine ow2 ?_ ?_|fail)
  refine rt_st (st:=st) (wb:=wb) (db:=db) (la:=la) (lc:=lc) (rs:=rs) (R:=[fB fb ad c f h,fR ad c f,.any (stars H)]) hrl ent ?_
  refine rt_tmp h rfl rfl rfl hk ?_
  exact ent
 ·obtain ⟨⟨f1,v1⟩,hr1⟩:∃ r,addW f st.g st.rdy st.nxt id x=r:=⟨_,rfl⟩
  have hput:putS st f id v x=if v1≠0 then (st,f1,v1) else (⟨st.p,st.g,st.len,((st.nxt / plW st.p.z:Nat):Int),st.nxt+1,takeD st.p st.d v x⟩,f1,0):=by
   unfold putS
   rw [if_neg (by rw [hy];simp),hr1]
  rw [hput]
  repeat' (first|intro _|refine cw ?_|refine cw2 ?_ ?_|refine o1_peql rfl rfl ?_|(refine k_load ?_;first|refine ox_load (b:=sb) (i:=3) rfl rfl ?_|refine ox_load (b:=sb) (i:=7) rfl rfl ?_|refine ox_load (b:=sb) (i:=6) rfl rfl ?_)|(refine k_binOp .neq ?_;refine o1_neq_f rfl rfl rfl ?_)|(refine k_fn 120 ?_;(refine o1_call_a (deP st.p st.d db) (fun _=>de_Says _ st.p st.d db id v hp hv ht.up) rfl (fun _ _=>?_);rw [hy]))|(refine k_fn 121 ?_;(refine o1_call_to (whB wb fb st.g st.p.z la rs.length lc st.rdy st.nxt::rsR la lc rs::fB fb ad c f h::fR ad c f::[.any (deP st.p st.d db),soB sb wb db st,.any (stars H)]) (Ent.out ent) (fun _=>wh_Add _ wb fb st.g st.p.z la lc rs st.rdy st.nxt id ad2 c2 x ad c f h p4 p5 hk hd hn hz hx.up (by omega)) rfl (fun ⟨h1,la1,lc1,rs1⟩ hk0=>?_);obtain ⟨hk1,hrs1⟩:=hk0;rw [hr1] at hk1 ⊢;dsimp only at hk1 hrs1 ⊢))|(refine k_fn 122 ?_;refine o1_call_a (deP st.p st.d db) (fun _=>de_Take _ st.p st.d db id v ad2 st.p.z c2 x hp hv hR ht.up hx.up hm hz htk) rfl (fun _ _=>?_))|refine ow ?_|refine ow2 ?_ ?_|fail)
  ·rename_i hv1
   rw [if_pos hv1]
   have e1:rdyA v1 st.p.z st.nxt st.rdy=st.rdy:=if_neg hv1
   have e2:nxtA v1 st.nxt=st.nxt:=if_neg hv1
   rw [e1,e2]
   refine rt_st (st:=st) (wb:=wb) (db:=db) (la:=la1) (lc:=lc1) (rs:=rs1) (R:=[fB fb ad c f1 h1,fR ad c f1,.any (stars H)]) ?_ ent ?_
   ·rw [nxtA,hr1,if_neg (show ¬ (f1,v1).2=0 from hv1)] at hrs1
    omega
   refine rt_tmp h1 rfl rfl rfl hk1 ?_
   exact ent
  ·have hv1:v1=0:=by omega
   subst hv1
   rw [if_neg (by simp)]
   refine rt_st (st:=⟨st.p,st.g,st.len,((st.nxt / plW st.p.z:Nat):Int),st.nxt+1,takeD st.p st.d v x⟩) (wb:=wb) (db:=db) (la:=la1) (lc:=lc1) (rs:=rs1) (R:=[fB fb ad c f1 h1,fR ad c f1,.any (stars H)]) (by rw [nxtA,hr1,if_pos rfl] at hrs1;show rs1.length≤144+(st.nxt+1);omega) ent ?_
   refine rt_tmp h1 rfl rfl rfl hk1 ?_
   exact ent
theorem so_Kept (H:List Hl) (st:Sto) (fb sb:Nat) :
  Spec Tryz.prog 43 [.pointer (some ⟨sb,0,none⟩)] (.any (stP st fb sb)::H) (fun _:Unit=>True) (fun _=>I st.d.t) (fun _ => .any (stP st fb sb)::H):=by
 refine Spec.som (by kernel_rfl) (fun ⟨wb,db,la,lc,rs⟩ hrl=>?_)
 show Spec _ _ _ (soB sb wb db st::whB wb fb st.g st.p.z la rs.length lc st.rdy st.nxt::rsR la lc rs :: .any (deP st.p st.d db)::H) _ _ _
 refine spec_fn (res:=fun _:Unit=>[.any (stP st fb sb)]) [soB sb wb db st,whB wb fb st.g st.p.z la rs.length lc st.rdy st.nxt,rsR la lc rs,.any (deP st.p st.d db)] H Tryz.func43 rfl Tryz.ntmps43 (by kernel_rfl) rfl (fun W=>?_)
 dsimp only [List.cons_append,List.nil_append]
 repeat' (first|intro _|refine cw ?_|refine cw2 ?_ ?_|refine o1_peql rfl rfl ?_|(refine k_load ?_;refine ox_load (b:=sb) (i:=7) rfl rfl ?_)|(refine k_fn 88 ?_;refine o1_call_a (deP st.p st.d db) (fun _=>de_Taken _ st.p st.d db) rfl (fun _ _=>?_))|refine ow ?_|refine ow2 ?_ ?_|fail)
 refine rt_st (st:=st) (wb:=wb) (db:=db) (la:=la) (lc:=lc) (rs:=rs) (R:=[.any (stars H)]) hrl ent ?_
 refine rt_tmp () rfl rfl rfl trivial ?_
 exact ent
theorem so_Needs (H:List Hl) (st:Sto) (fb sb:Nat) (hp:st.p.ok) (hb:cntS st.d.M≤1000) :
  Spec Tryz.prog 79 [.pointer (some ⟨sb,0,none⟩)] (.any (stP st fb sb)::H) (fun _:Unit=>True) (fun _=>I ((st.p.n:Int) - cntS st.d.M)) (fun _ => .any (stP st fb sb)::H):=by
 refine Spec.som (by kernel_rfl) (fun ⟨wb,db,la,lc,rs⟩ hrl=>?_)
 show Spec _ _ _ (soB sb wb db st::whB wb fb st.g st.p.z la rs.length lc st.rdy st.nxt::rsR la lc rs :: .any (deP st.p st.d db)::H) _ _ _
 refine spec_fn (res:=fun _:Unit=>[.any (stP st fb sb)]) [soB sb wb db st,whB wb fb st.g st.p.z la rs.length lc st.rdy st.nxt,rsR la lc rs,.any (deP st.p st.d db)] H Tryz.func79 rfl Tryz.ntmps79 (by kernel_rfl) rfl (fun W=>?_)
 dsimp only [List.cons_append,List.nil_append]
 repeat' (first|intro _|refine cw ?_|refine cw2 ?_ ?_|refine o1_peql rfl rfl ?_|(refine k_load ?_;refine ox_load (b:=sb) (i:=7) rfl rfl ?_)|(refine k_fn 123 ?_;refine o1_call_a (deP st.p st.d db) (fun _=>de_Needs _ st.p st.d db hp hb) rfl (fun _ _=>?_))|refine ow ?_|refine ow2 ?_ ?_|fail)
 refine rt_st (st:=st) (wb:=wb) (db:=db) (la:=la) (lc:=lc) (rs:=rs) (R:=[.any (stars H)]) hrl ent ?_
 refine rt_tmp () rfl rfl rfl trivial ?_
 exact ent
theorem so_Image (H:List Hl) (st:Sto) (fb sb:Nat) (hp:st.p.ok) (hR:RR st.p.n st.p.z st.d.M) (hf:cntS st.d.M=st.p.n) (hl:count st.len st.p.z=st.p.k) :
  Spec Tryz.prog 124 [.pointer (some ⟨sb,0,none⟩)] (.any (stP st fb sb)::H) (fun _:Option Addr × Nat=>True) (fun r => .tuple #[.slice r.1 (imgB st.p st.d st.len).length r.2,.bool true]) (fun r => .row 5 1 (.slice r.1 (imgB st.p st.d st.len).length r.2) (imgB st.p st.d st.len).length ((imgB st.p st.d st.len).map B)::H):=by
 refine Spec.som (by kernel_rfl) (fun ⟨wb,db,la,lc,rs⟩ hrl=>?_)
 show Spec _ _ _ (soB sb wb db st::whB wb fb st.g st.p.z la rs.length lc st.rdy st.nxt::rsR la lc rs :: .any (deP st.p st.d db)::H) _ _ _
 refine spec_fn (res:=fun r:Option Addr × Nat=>[.row 5 1 (.slice r.1 (imgB st.p st.d st.len).length r.2) (imgB st.p st.d st.len).length ((imgB st.p st.d st.len).map B)]) [soB sb wb db st,whB wb fb st.g st.p.z la rs.length lc st.rdy st.nxt,rsR la lc rs,.any (deP st.p st.d db)] H Tryz.func124 rfl Tryz.ntmps124 (by kernel_rfl) rfl (fun W=>?_)
 dsimp only [List.cons_append,List.nil_append]
 repeat' (first|intro _|refine cw ?_|refine cw2 ?_ ?_|refine o1_peql rfl rfl ?_|refine ow ?_|refine ow2 ?_ ?_|fail)
 refine st_stages' [(0,_)] rtD25_0 [9] [⟨[0,1,2,3,4,5,6,7,8],[],some 9⟩,⟨[10,11,12,13],[],none⟩] mixed cv (by kernel_rfl) (by kernel_rfl) ?_
 repeat' (first|intro _|refine sg ?_|(refine p_load ?_;refine po (by first|refine ox_load (b:=sb) (i:=7) rfl rfl fz|refine ox_load (b:=sb) (i:=2) rfl rfl fz|fail) ?_)|refine pw ?_|refine pdd ?_|(refine k_fn 170 ?_;(refine o1_call_a (deP st.p st.d db) (fun _=>de_Image _ st.p st.d db st.len hp hR hf hl) rfl (fun ⟨a15,c15⟩ _=>?_);(try dsimp only)))|refine ow ?_|fail)
 all_goals dsimp only [List.cons_append,List.nil_append]
 repeat' (first|intro _|refine cw ?_|refine cw2 ?_ ?_|refine ow ?_|refine ow2 ?_ ?_|fail)
 refine rt_tmp2 (a15,c15) rfl rfl rfl rfl trivial ?_
 exact ent
end Go.Dp
namespace Go.Dp
def datD (L:List (List (BitVec 8))) (z:Nat) (v:List Bool):List (BitVec 8):=parS (at_ v) L z
theorem datD_len (L:List (List (BitVec 8))) (z:Nat) (v:List Bool):(datD L z v).length=z:=by simp [datD,parS]
theorem datD_lin (L:List (List (BitVec 8))) (z n:Nat):Lin n z (datD L z):=⟨fun v _=>datD_len L z v,fun a b ha hb=>by
 apply List.ext_getElem
 ·rw [xorL_len _ _ (by rw [datD_len,datD_len]),datD_len,datD_len]
 intro k h1 h2
 rw [datD_len] at h1
 have e:(xorL (datD L z a) (datD L z b))[k]=(datD L z a)[k]'(by rw [datD_len];exact h1) ^^^ (datD L z b)[k]'(by rw [datD_len];exact h1):=by simp [xorL]
 rw [e]
 simp only [datD,parS,List.getElem_map,List.getElem_range]
 rw [←xsum_xor]
 refine xsum_congr (fun i _=>?_)
 have:at_ (xorV a b) i=(at_ a i ^^ at_ b i):=xorV_getD (by omega) i
 rw [this]
 cases at_ a i <;> cases at_ b i <;> simp [pickB]⟩
theorem at8_lo' {s:BitVec 32} {K P z i k:Nat} {L:List (List (BitVec 8))} (hi:i<L.length):at8 (allP s K P z L) i k=at8 L i k:=by
 unfold at8 allP
 congr 1
 rw [List.getD_eq_getElem?_getD,List.getD_eq_getElem?_getD,List.getElem?_append_left hi]
theorem at8_hi' {s:BitVec 32} {K P z j k:Nat} {L:List (List (BitVec 8))} (hj:j<P):at8 (allP s K P z L) (L.length+j) k=(parS (parR s K j) L z).getD k 0#8:=by
 unfold at8 allP
 congr 1
 rw [List.getD_eq_getElem?_getD,List.getElem?_append_right (by omega),show L.length+j - L.length=j by omega]
 simp [hj]
theorem datD_par {s:BitVec 32} {K P Z j:Nat} {L:List (List (BitVec 8))} (hL:L.length=K) (hj:j<P):datD (allP s K P Z L) Z (rowR s (K+P) K j)=List.replicate Z 0#8:=by
 apply List.ext_getElem
 ·simp [datD_len]
 intro k h1 h2
 rw [datD_len] at h1
 rw [List.getElem_replicate]
 simp only [datD,parS,List.getElem_map,List.getElem_range]
 have hl:(allP s K P Z L).length=K+P:=by simp [allP,hL]
 rw [hl]
 have e1:=row_nothing K P j hj (fun i=>oddR (srcNew s (BitVec.ofNat 32 (2147483648+j))) i) (fun i=>at8 (allP s K P Z L) i k) (by
  have e2:=at8_hi' (s:=s) (K:=K) (z:=Z) (k:=k) (L:=L) hj
  rw [hL] at e2
  rw [e2,parS_at _ _ _ _ h1,hL]
  refine xsum_congr (fun i hi=>?_)
  rw [at8_lo' (by omega)]
  have : ¬ i=K+j:=by omega
  simp [parR,hi,this])
 rw [←e1]
 refine xsum_congr (fun i hi=>?_)
 congr 1
 exact rowR_at _ _ _ _ _ hi
theorem datD_unit {L:List (List (BitVec 8))} {z i:Nat} {v:List Bool} (hi:i<L.length) (hz:L[i].length=z) (h:∀ k,at_ v k=decide (k=i)):datD L z v=L[i]:=by
 apply List.ext_getElem
 ·rw [datD_len,hz]
 intro k h1 h2
 simp only [datD,parS,List.getElem_map,List.getElem_range]
 rw [xsum_one hi (fun j hj hne=>by rw [h j];simp [pickB,hne]),h i]
 simp [pickB,at8,List.getD_eq_getElem?_getD,hi,h2]
theorem full_app' {image:List (BitVec 8)} {m:Nat} (h:image.length≤m):full image m=image++List.replicate (m - image.length) 0#8:=by
 rw [full,List.take_of_length_le h];rfl
theorem count_ge' {l z n:Nat} (h:count l z=n) (hn:1≤n):l≤n*z:=by
 obtain ⟨p1,p2,p3,p4,p5,p6,p7⟩:=count_pos (l:=l) (s:=z) (by omega)
 have d1:(l:Int)+z - 1<((l+z - 1:Int) / z+1)*z:=Int.lt_ediv_add_one_mul_self _ (by omega)
 rw [←p5,h,Int.add_mul,Int.one_mul] at d1
 have hbi:((n*z:Nat):Int)=(n:Int)*z:=by push_cast;rfl
 omega
theorem pieA_len (p:Prm) (im:List (BitVec 8)):(pieA p im).length=p.n:=allP_n
theorem rowsL_len {s:BitVec 32} {K P:Nat}:∀ v∈rowsL s K P,v.length=K+P:=fun v hv=>by
 obtain ⟨j,_,rfl⟩:=List.mem_map.1 hv
 exact rowR_len _ _ _ _
theorem unitV_len (p:Prm) (id:BitVec 32):(unitV p id).length=p.n:=bitsOf_len _ _
theorem unitV_at (p:Prm) (id:BitVec 32) (k:Nat) (h:id.toNat<p.n):at_ (unitV p id) k=decide (k=id.toNat):=by
 by_cases hk:k<p.n
 ·have:=bitsOf_at p.n [(id.toNat:Int)] k hk
  show (bitsOf p.n [(id.toNat:Int)]).getD k false=_
  rw [this]
  simp
  omega
 ·have h1:at_ (unitV p id) k=false:=by
   unfold at_
   rw [List.getD_eq_getElem?_getD,List.getElem?_eq_none (by rw [unitV_len];omega)]
   rfl
  rw [h1]
  have : ¬ k=id.toNat:=by omega
  simp [this]
abbrev datP (p:Prm) (im:List (BitVec 8)):List Bool→List (BitVec 8):=datD (pieA p im) p.z
def rowsU (p:Prm) (ids:List (BitVec 32)):List (List Bool):=rowsL p.s p.k p.p++ids.map (unitV p)
def decU (p:Prm) (im:List (BitVec 8)) (ids:List (BitVec 32)):Dec:=⟨foldA p.n (datP p im) (rowsU p ids),ids.length⟩
theorem rowsU_len (p:Prm) (ids:List (BitVec 32)):∀ v∈rowsU p ids,v.length=p.n:=fun v hv=>by
 rcases List.mem_append.1 hv with h|h
 ·exact rowsL_len v h
 ·obtain ⟨id,_,rfl⟩:=List.mem_map.1 h
  exact unitV_len p id
theorem datP_par (p:Prm) (im:List (BitVec 8)):∀ v∈rowsL p.s p.k p.p,datP p im v=List.replicate p.z 0#8:=fun v hv=>by
 obtain ⟨j,hj,rfl⟩:=List.mem_map.1 hv
 exact datD_par (by simp [piecesL]) (List.mem_range.1 hj)
theorem rowsM_fold (p:Prm) (im:List (BitVec 8)):∀ l:List (List Bool),(∀ v∈l,datP p im v=List.replicate p.z 0#8)→rowsM p l=foldA p.n (datP p im) l:=fun l=>rev_ind (P:=fun l=>(∀ v∈l,datP p im v=List.replicate p.z 0#8)→rowsM p l=foldA p.n (datP p im) l) (fun _=>rfl) (fun l a ih h=>by
 rw [foldA_snoc,←ih (fun v hv=>h v (by simp [hv])),h a (by simp)]
 simp [rowsM]) l
theorem decU_nil (p:Prm) (im:List (BitVec 8)):decU p im []=newD p:=by
 unfold decU newD rowsU
 rw [List.map_nil,List.append_nil,rowsM_fold p im _ (datP_par p im)]
 rfl
theorem decU_RR (p:Prm) (im:List (BitVec 8)) (ids:List (BitVec 32)):RR p.n p.z (decU p im ids).M:=foldA_RR (fun v _=>datD_len _ _ v) _ (rowsU_len p ids)
theorem foldA_new {n z:Nat} {M:List (Option LN)} (h:RR n z M) {v:List Bool} {x:List (BitVec 8)} (hv:v.length=n) (hx:x.length=z) (hs : ¬ sp n M v):firstV (red M (v,x)).1 ≠ -1∧0≤firstV (red M (v,x)).1∧cntS (addF M (v,x))=cntS M+1:=by
 have h1:firstV (red M (v,x)).1 ≠ -1:=fun e=>hs ((sp_first h hv hx).1 e)
 rcases add_cases (v:=(v,x)) h hv hx with e|⟨a,e,_,_,e2⟩
 ·exact absurd e h1
 ·refine ⟨h1,by rw [e];omega,?_⟩
  rw [addF_new e,e2]
theorem at_zero (n k:Nat):at_ (List.replicate n false) k=false:=by
 unfold at_
 rw [List.getD_eq_getElem?_getD,List.getElem?_replicate]
 split <;> rfl
theorem at_xor {a b:List Bool} {n:Nat} (ha:a.length=n) (hb:b.length=n) (k:Nat):at_ (xorV a b) k=(at_ a k ^^ at_ b k):=xorV_getD (by omega) k
theorem rowR_par {s:BitVec 32} {K P j i:Nat} (hi:i<K+P):at_ (rowR s (K+P) K j) i=parR s K j i:=by
 show (rowR s (K+P) K j).getD i false=_
 rw [rowR_at _ _ _ _ _ hi]
theorem unit_new {p:Prm} {im:List (BitVec 8)} {ids:List (BitVec 32)} {id:BitVec 32} (hids:∀ x∈ids,x.toNat<p.k) (hid:id.toNat<p.k) (hn:id ∉ ids) : ¬ sp p.n (decU p im ids).M (unitV p id):=fun hs=>by
 have hnk:p.n=p.k+p.p:=rfl
 have:=foldA_sub (D:=datP p im) (n:=p.n) (z:=p.z) (fun v _=>datD_len _ _ v) (T:=fun w=>at_ w id.toNat=xsB (fun j=>at_ w (p.k+j) && parR p.s p.k j id.toNat) p.p)
  (by
   rw [at_zero,xsB_zero (fun j _=>by rw [at_zero];rfl)])
  (fun a b ha hb h1 h2=>by
   rw [at_xor ha hb,h1,h2,←xsB_xor]
   refine xsB_congr (fun j _=>?_)
   rw [at_xor ha hb]
   cases at_ a (p.k+j) <;> cases at_ b (p.k+j) <;> cases parR p.s p.k j id.toNat <;> rfl)
  (rowsU p ids) (fun v hv=>⟨rowsU_len p ids v hv,by
   rcases List.mem_append.1 hv with h|h
   ·obtain ⟨j,hj,rfl⟩:=List.mem_map.1 h
    have hj:=List.mem_range.1 hj
    rw [rowR_par (by omega),xsB_one hj (fun i hi hne=>?_),rowR_par (by omega)]
    ·have:parR p.s p.k j (p.k+j)=true:=by simp [parR]
     rw [this];rfl
    ·rw [rowR_par (by omega)]
     have:parR p.s p.k j (p.k+i)=false:=by
      have : ¬ (p.k+i=p.k+j):=by omega
      simp [parR]
      omega
     rw [this];rfl
   ·obtain ⟨u,hu,rfl⟩:=List.mem_map.1 h
    have hul:=hids u hu
    rw [unitV_at p u _ (by omega),xsB_zero (fun j hj=>by
     rw [unitV_at p u _ (by omega)]
     have : ¬ (p.k+j=u.toNat):=by omega
     simp [this])]
    have : ¬ (id.toNat=u.toNat):=fun e=>hn (by rw [BitVec.eq_of_toNat_eq e];exact hu)
    simp [this]⟩) (unitV p id) (unitV_len p id) hs
 rw [unitV_at p id _ (by omega),xsB_zero (fun j hj=>by
  rw [unitV_at p id _ (by omega)]
  have : ¬ (p.k+j=id.toNat):=by omega
  simp [this])] at this
 simp at this
theorem rowsU_snoc (p:Prm) (ids:List (BitVec 32)) (id:BitVec 32):rowsU p (ids++[id])=rowsU p ids++[unitV p id]:=by simp [rowsU]
theorem decU_take {p:Prm} {im:List (BitVec 8)} {ids:List (BitVec 32)} {id:BitVec 32} (hids:∀ x∈ids,x.toNat<p.k) (hid:id.toNat<p.k) (hn:id ∉ ids) :
  saysD p (decU p im ids) (unitV p id)=true∧takeD p (decU p im ids) (unitV p id) (datP p im (unitV p id))=decU p im (ids++[id])∧cntS (decU p im (ids++[id])).M=cntS (decU p im ids).M+1:=by
 have hs:=unit_new (im:=im) hids hid hn
 have hR:=decU_RR p im ids
 have h1:=foldA_new hR (unitV_len p id) (x:=List.replicate p.z 0#8) (by simp) hs
 have h2:=foldA_new hR (unitV_len p id) (x:=datP p im (unitV p id)) (datD_len _ _ _) hs
 have e:(decU p im (ids++[id])).M=addF (decU p im ids).M (unitV p id,datP p im (unitV p id)):=by
  unfold decU
  dsimp only
  rw [rowsU_snoc,foldA_snoc]
 refine ⟨?_,?_,?_⟩
 ·unfold saysD
  exact decide_eq_true h1.2.1
 ·unfold takeD
  rw [if_neg h2.1,←e]
  show (⟨(decU p im (ids++[id])).M,ids.length+1⟩:Dec)=decU p im (ids++[id])
  unfold decU
  rw [List.length_append]
  rfl
 ·rw [e];exact h2.2.2
theorem par_cnt (p:Prm) (im:List (BitVec 8)):∀ j,j≤p.p→cntS (foldA p.n (datP p im) ((List.range j).map (rowR p.s (p.k+p.p) p.k)))=j
 | 0,_=>by
  rw [List.range_zero,List.map_nil,foldA_nil,cntS_none]
 | j+1,hj=>by
  have hnk:p.n=p.k+p.p:=rfl
  have hrl:∀ v∈(List.range j).map (rowR p.s (p.k+p.p) p.k),v.length=p.n:=fun v hv=>by
   obtain ⟨i,_,rfl⟩:=List.mem_map.1 hv
   exact rowR_len _ _ _ _
  have hR:=foldA_RR (D:=datP p im) (z:=p.z) (fun v _=>datD_len _ _ v) _ hrl
  rw [List.range_succ,List.map_append,List.map_cons,List.map_nil,foldA_snoc]
  have hs : ¬ sp p.n (foldA p.n (datP p im) ((List.range j).map (rowR p.s (p.k+p.p) p.k))) (rowR p.s (p.k+p.p) p.k j):=fun hs=>by
   have:=foldA_sub (D:=datP p im) (n:=p.n) (z:=p.z) (fun v _=>datD_len _ _ v) (T:=fun w=>at_ w (p.k+j)=false) (at_zero _ _)
    (fun a b ha hb h1 h2=>by rw [at_xor ha hb,h1,h2];rfl)
    ((List.range j).map (rowR p.s (p.k+p.p) p.k)) (fun v hv=>⟨hrl v hv,by
     obtain ⟨i,hi,rfl⟩:=List.mem_map.1 hv
     have hi:=List.mem_range.1 hi
     rw [rowR_par (by omega)]
     simp [parR]
     omega⟩) _ (rowR_len _ _ _ _) hs
   rw [rowR_par (by omega)] at this
   simp [parR] at this
  have:=(foldA_new hR (rowR_len p.s (p.k+p.p) p.k j) (x:=datP p im (rowR p.s (p.k+p.p) p.k j)) (datD_len _ _ _) hs).2.2
  rw [this,par_cnt p im j (by omega)]
theorem decU_cnt {p:Prm} {im:List (BitVec 8)}:∀ ids:List (BitVec 32),(∀ x∈ids,x.toNat<p.k)→ids.Nodup→cntS (decU p im ids).M=p.p+ids.length:=fun ids=>rev_ind (P:=fun ids=>(∀ x∈ids,x.toNat<p.k)→ids.Nodup→cntS (decU p im ids).M=p.p+ids.length) (fun _ _=>by
  have:=par_cnt p im p.p (Nat.le_refl _)
  show cntS (foldA p.n (datP p im) (rowsU p []))=p.p+0
  rw [rowsU,List.map_nil,List.append_nil]
  exact this)
 (fun l a ih h hd=>by
  rw [List.nodup_append] at hd
  have hn:a ∉ l:=fun hm=>hd.2.2 a hm a (by simp) rfl
  have hl:∀ x∈l,x.toNat<p.k:=fun x hx=>h x (by simp [hx])
  rw [(decU_take (im:=im) hl (h a (by simp)) hn).2.2,ih hl hd.1,List.length_append]
  simp
  omega) ids
theorem piecesL_len {im:List (BitVec 8)} {n z:Nat}:(piecesL im n z).length=n:=by simp [piecesL]
theorem pieA_at {p:Prm} {im:List (BitVec 8)} {i:Nat} (h:i<p.n):((pieA p im)[i]'(by rw [pieA_len];exact h)).length=p.z:=allP_len _ (List.getElem_mem _)
theorem datP_unit {p:Prm} {im:List (BitVec 8)} {id:BitVec 32} (h:id.toNat<p.n):datP p im (unitV p id)=(pieA p im)[id.toNat]'(by rw [pieA_len];exact h) :=
 datD_unit (by rw [pieA_len];exact h) (pieA_at h) (fun k=>unitV_at p id k h)
theorem unit_places {f:Nat→Bool} {n i:Nat} (hi:i<n) (h:∀ k,f k=decide (k=i)):placesN f n=[i]:=by
 have h0:∀ m,m≤i→placesN f m=[]:=fun m=>by
  induction m with
  | zero=>intro _;rfl
  | succ m ih =>
   intro hm
   rw [places_succ,h m,ih (by omega)]
   have : ¬ m=i:=by omega
   simp [this]
 have h1:∀ m,i<m→placesN f m=[i]:=fun m=>by
  induction m with
  | zero=>intro hm;omega
  | succ m ih =>
   intro hm
   rw [places_succ,h m]
   by_cases e:m=i
   ·rw [h0 m (by omega)]
    simp [e]
   ·rw [ih (by omega)]
    simp [e]
 exact h1 n hi
theorem sumB_one (y:List (BitVec 8)):sumB [⟨none,0,y⟩]=y:=by
 rw [sumB_yes (n:=y.length) (by simp) (fun j hj=>by
  have:j=0:=by simp at hj;omega
  subst this;rfl)]
 show accL y.length [⟨none,0,y⟩] 1=y
 rw [accL_succ _ _ 0 (by simp),accL_zero]
 apply List.ext_getElem
 ·simp [xorL]
 intro k h1 h2
 simp [xorL]
theorem symD_unit {p:Prm} {im:List (BitVec 8)} {id:BitVec 32} (h:id.toNat<p.n):symD (pieA p im) (unitV p id)=datP p im (unitV p id):=by
 have e:placesN (at_ (unitV p id)) (unitV p id).length=[id.toNat]:=unit_places (by rw [unitV_len];exact h) (fun k=>unitV_at p id k h)
 rw [datP_unit h,symD,e]
 have hx:(pieA p im).getD id.toNat []=(pieA p im)[id.toNat]'(by rw [pieA_len];exact h):=by
  rw [List.getD_eq_getElem?_getD,List.getElem?_eq_getElem (by rw [pieA_len];exact h)];rfl
 rw [List.map_cons,List.map_nil,hx]
 exact sumB_one _
theorem decU_full {p:Prm} {im:List (BitVec 8)} {ids:List (BitVec 32)} (hids:∀ x∈ids,x.toNat<p.k) (hd:ids.Nodup) (hl:ids.length=p.k) (hc:count im.length p.z=p.k) (hk:1≤p.k):imgB p (decU p im ids) im.length=im:=by
 have hR:=decU_RR p im ids
 have hcnt:cntS (decU p im ids).M=p.n:=by rw [decU_cnt ids hids hd,hl,Nat.add_comm]
 have hML:(decU p im ids).M.length=p.n:=hR.lok.len
 have hD:=foldA_D (datD_lin (pieA p im) p.z p.n) (rowsU p ids) (rowsU_len p ids)
 have hsol:solD (decU p im ids).M=pieA p im:=by
  apply List.ext_getElem
  ·rw [solD,List.length_map,hML,pieA_len]
  intro i h1 h2
  rw [pieA_len] at h2
  obtain ⟨y,hy⟩:=full_some (by rw [hcnt,hML]) i (by rw [hML];exact h2)
  have hu:=full_unit hR hcnt hy
  have hyD:y.2=datP p im y.1:=hD y (List.mem_of_getElem? hy)
  have hg:(decU p im ids).M[i]'(by rw [hML];exact h2)=some y:=(List.getElem?_eq_some_iff.1 hy).2
  simp only [solD,List.getElem_map,hg]
  rw [hyD]
  exact datD_unit (by rw [pieA_len];exact h2) (pieA_at h2) hu
 have hcn:count (im.length:Int) p.z≠0:=by rw [hc];omega
 obtain ⟨c1,c2,c3,c4,c5,c6,c7⟩:=count_pos hcn
 have hge:=count_ge' hc hk
 unfold imgB
 rw [hsol]
 have ht:(pieA p im).take p.k=piecesL im p.k p.z:=List.take_left' piecesL_len
 rw [ht,piecesL,cat_pieces im (p.k*p.z) p.z p.k (Nat.le_refl _),List.take_of_length_le (by rw [full_len];exact Nat.le_refl _),joinL,if_pos ⟨c1,c2,by rw [full_len];exact_mod_cast hge⟩,full_app' hge]
 exact List.take_left' (by simp)
structure Few (f:Fl) (n:Nat):Prop where
 er:f.er.length=14
 bs:f.bs.length=3584
 le:∀ x∈f.er,x≤n
theorem Few.mono {f:Fl} {n m:Nat} (h:Few f n) (hm:n≤m):Few f m:=⟨h.er,h.bs,fun x hx=>Nat.le_trans (h.le x hx) hm⟩
theorem Few.get {f:Fl} {n:Nat} (h:Few f n) (s:Nat):f.er.getD s 0≤n:=by
 rw [List.getD_eq_getElem?_getD]
 cases hs:f.er[s]? with
 | none=>exact Nat.zero_le _
 | some x=>exact h.le x (List.mem_of_getElem? hs)
structure Stay (f f':Fl) (n:Nat):Prop where
 few:Few f' n
 wear:f'.wear=f.wear
 torn:f'.torn=f.torn
 on:f.pw = .on→f'.pw = .on
theorem Stay.refl {f:Fl} {n:Nat} (h:Few f n):Stay f f n:=⟨h,rfl,rfl,id⟩
theorem Stay.trans {f g h:Fl} {n m:Nat} (a:Stay f g n) (b:Stay g h m):Stay f h m:=⟨b.few,b.wear.trans a.wear,b.torn.trans a.torn,fun e=>b.on (a.on e)⟩
theorem Stay.mono {f g:Fl} {n m:Nat} (a:Stay f g n) (hm:n≤m):Stay f g m:=⟨a.few.mono hm,a.wear,a.torn,a.on⟩
theorem on_up {f:Fl} (h:f.pw = .on):f.pw.isDown=false:=by rw [h];rfl
theorem progF_out {f:Fl} {n a:Nat} {xs:List (BitVec 8)} (hf:Few f n) (ha:a+xs.length≤3584) (hd:f.pw.isDown=false) :
  Stay f (progF f a xs).1 n∧(((progF f a xs).2=0∧(progF f a xs).1.pw.isDown=false∧(progF f a xs).1.bs=progB f.bs a xs)∨((progF f a xs).2=11∧(progF f a xs).1.pw = .down none∧∃ j t,j<xs.length∧(progF f a xs).1.bs=progB f.bs a (xs.take j++[xs.getD j 0#8 ||| t]))):=by
 have hb:=hf.bs
 unfold progF
 cases hp:f.pw with
 | down q=>rw [hp] at hd;cases hd
 | on =>
  refine ⟨⟨⟨hf.er,?_,hf.le⟩,rfl,rfl,fun _=>rfl⟩,.inl ⟨rfl,rfl,rfl⟩⟩
  show (progB f.bs a xs).length=3584
  rw [progB_len (by omega),hb]
 | fuse k =>
  dsimp only
  by_cases hk:xs.length≤k
  ·rw [if_pos hk]
   refine ⟨⟨⟨hf.er,?_,hf.le⟩,rfl,rfl,fun e=>(by rw [hp] at e;cases e)⟩,.inl ⟨rfl,rfl,rfl⟩⟩
   show (progB f.bs a xs).length=3584
   rw [progB_len (by omega),hb]
  ·rw [if_neg hk]
   have hl:(xs.take k++[xs.getD k 0#8 ||| tornB f.torn]).length=k+1:=by simp;omega
   refine ⟨⟨⟨hf.er,?_,hf.le⟩,rfl,rfl,fun e=>(by rw [hp] at e;cases e)⟩,.inr ⟨rfl,rfl,k,tornB f.torn,by omega,rfl⟩⟩
   show (progB f.bs a (xs.take k++[xs.getD k 0#8 ||| tornB f.torn])).length=3584
   rw [progB_len (by omega),hb]
theorem eraseF_out {f:Fl} {n s:Nat} (hf:Few f n) (hs:s<14) (hw:n<f.wear) (hd:f.pw.isDown=false) :
  Stay f (eraseF f s).1 (n+1)∧(((eraseF f s).2=0∧(eraseF f s).1.pw.isDown=false∧(eraseF f s).1.bs=fillB f.bs (s*256) 256)∨((eraseF f s).2=11∧(eraseF f s).1.pw = .down none∧∃ m,m≤256∧(eraseF f s).1.bs=fillB f.bs (s*256) m)):=by
 have hb:=hf.bs
 have hg:=hf.get s
 have hler:∀ x∈f.er.set s (f.er.getD s 0+1),x≤n+1:=fun x hx=>by
  rcases List.mem_or_eq_of_mem_set hx with h|h
  ·exact Nat.le_succ_of_le (hf.le x h)
  ·omega
 have hlen:(f.er.set s (f.er.getD s 0+1)).length=14:=by rw [List.length_set,hf.er]
 have hfl:∀ m,m≤256→(fillB f.bs (s*256) m).length=3584:=fun m hm=>by rw [fillB_len (by omega),hb]
 unfold eraseF
 cases hp:f.pw with
 | down q=>rw [hp] at hd;cases hd
 | on =>
  dsimp only
  rw [if_neg (by omega)]
  refine ⟨⟨⟨hlen,hfl 256 (by omega),hler⟩,rfl,rfl,fun _=>rfl⟩,.inl ⟨rfl,rfl,rfl⟩⟩
 | fuse k =>
  dsimp only
  rw [if_neg (by omega)]
  cases k with
  | zero =>
   have hm:f.torn.toNat % 257≤256:=by omega
   exact ⟨⟨⟨hlen,hfl _ hm,hler⟩,rfl,rfl,fun e=>(by rw [hp] at e;cases e)⟩,.inr ⟨rfl,rfl,_,hm,rfl⟩⟩
  | succ k=>exact ⟨⟨⟨hlen,hfl 256 (by omega),hler⟩,rfl,rfl,fun e=>(by rw [hp] at e;cases e)⟩,.inl ⟨rfl,rfl,rfl⟩⟩
theorem clr1_out {f:Fl} {n s:Nat} (hf:Few f n) (hs:s<14) (hw:n<f.wear) (hd:f.pw.isDown=false) :
  Stay f (clr1 f s).1 (n+1)∧(∀ a m,a+m≤s*256∨s*256+256≤a→seg (clr1 f s).1.bs a m=seg f.bs a m)∧(((clr1 f s).2=0∧(clr1 f s).1.pw.isDown=false∧Blank (clr1 f s).1.bs (s*256) 256)∨((clr1 f s).2=11∧(clr1 f s).1.pw = .down none)):=by
 have hb:=hf.bs
 unfold clr1
 by_cases h:blankB (seg f.bs (s*256) 256)=true
 ·rw [if_pos h]
  exact ⟨(Stay.refl hf).mono (by omega),fun _ _ _=>rfl,.inl ⟨rfl,hd,(blankB_iff (l:=f.bs) (by omega)).1 h⟩⟩
 ·rw [if_neg h]
  obtain ⟨st,ho⟩:=eraseF_out hf hs hw hd
  rcases ho with ⟨e0,e1,e2⟩|⟨e0,e1,m,hm,e2⟩
  ·refine ⟨st,fun a m hh=>?_,.inl ⟨e0,e1,?_⟩⟩
   ·rw [e2,seg_fill_out (by omega) hh]
   ·show seg _ _ _=_
    rw [e2,seg_fill_in (by omega) (Nat.le_refl _) (Nat.le_refl _)]
  ·refine ⟨st,fun a m2 hh=>?_,.inr ⟨e0,e1⟩⟩
   rw [e2,seg_fill_out (by omega) (by omega)]
theorem Blank.keep {l l':List (BitVec 8)} {a n:Nat} (h:Blank l a n) (e:seg l' a n=seg l a n):Blank l' a n:=e.trans h
theorem Blank.join {l:List (BitVec 8)} {a n m:Nat} (h:Blank l a n) (k:Blank l (a+n) m):Blank l a (n+m):=by
 show seg _ _ _=_
 rw [seg_append,h,k,List.replicate_append_replicate]
theorem slotW_out {f:Fl} {n s:Nat} {x:List (BitVec 8)} (hf:Few f n) (hs:s<2) (hx:x.length≤512) (hw:n+1<f.wear) (hd:f.pw.isDown=false) :
  Stay f (slotW f s x).1 (n+2)∧(∀ a m,a+m≤slotA s∨slotA s+512≤a→seg (slotW f s x).1.bs a m=seg f.bs a m)∧(((slotW f s x).2=0∧(slotW f s x).1.pw.isDown=false∧seg (slotW f s x).1.bs (slotA s) x.length=x)∨((slotW f s x).2=11∧(slotW f s x).1.pw = .down none)):=by
 have hA:slotA s=(2+s*2)*256:=rfl
 obtain ⟨s1,o1,c1⟩:=clr1_out (s:=2+s*2) hf (by omega) (by omega) hd
 have e:slotW f s x=if (clr1 f (2+s*2)).2≠0 then clr1 f (2+s*2) else if (clr1 (clr1 f (2+s*2)).1 (2+s*2+1)).2≠0 then clr1 (clr1 f (2+s*2)).1 (2+s*2+1) else if (progF (clr1 (clr1 f (2+s*2)).1 (2+s*2+1)).1 (slotA s) x).2≠0 then progF (clr1 (clr1 f (2+s*2)).1 (2+s*2+1)).1 (slotA s) x else ((progF (clr1 (clr1 f (2+s*2)).1 (2+s*2+1)).1 (slotA s) x).1,if seg (progF (clr1 (clr1 f (2+s*2)).1 (2+s*2+1)).1 (slotA s) x).1.bs (slotA s) x.length=x then 0 else 13):=by
  unfold slotW
  cases hp:f.pw with
  | down q=>rw [hp] at hd;cases hd
  | on=>rfl
  | fuse k=>rfl
 rw [e]
 obtain ⟨⟨f1,v1⟩,hr1⟩:∃ r,clr1 f (2+s*2)=r:=⟨_,rfl⟩
 rw [hr1] at s1 o1 c1 ⊢
 dsimp only at s1 o1 c1 ⊢
 rcases c1 with ⟨q1,d1,b1⟩|⟨q1,d1⟩
 ·subst q1
  rw [if_neg (by simp)]
  obtain ⟨s2,o2,c2⟩:=clr1_out (s:=2+s*2+1) s1.few (by omega) (by rw [s1.wear];omega) d1
  obtain ⟨⟨f2,v2⟩,hr2⟩:∃ r,clr1 f1 (2+s*2+1)=r:=⟨_,rfl⟩
  rw [hr2] at s2 o2 c2 ⊢
  dsimp only at s2 o2 c2 ⊢
  have o12:∀ a m,a+m≤slotA s∨slotA s+512≤a→seg f2.bs a m=seg f.bs a m:=fun a m hh=>by rw [o2 a m (by omega),o1 a m (by omega)]
  rcases c2 with ⟨q2,d2,b2⟩|⟨q2,d2⟩
  ·subst q2
   rw [if_neg (by simp)]
   have hbl:Blank f2.bs (slotA s) 512:=by
    have k1:Blank f2.bs ((2+s*2)*256) 256:=b1.keep (o2 _ _ (by omega))
    rw [hA,show 512=256+256 from rfl]
    exact k1.join (by rw [show (2+s*2)*256+256=(2+s*2+1)*256 by omega];exact b2)
   have hb2:=s2.few.bs
   obtain ⟨s3,c3⟩:=progF_out (a:=slotA s) (xs:=x) s2.few (by omega) d2
   obtain ⟨⟨f3,v3⟩,hr3⟩:∃ r,progF f2 (slotA s) x=r:=⟨_,rfl⟩
   rw [hr3] at s3 c3 ⊢
   dsimp only at s3 c3 ⊢
   rcases c3 with ⟨q3,d3,b3⟩|⟨q3,d3,j,t,hj,b3⟩
   ·subst q3
    rw [if_neg (by simp)]
    have hin:seg f3.bs (slotA s) x.length=x:=by rw [b3,seg_prog_blank (by omega) (hbl.sub (Nat.le_refl _) (by omega))]
    refine ⟨(s1.trans s2).trans s3,fun a m hh=>?_,.inl ⟨if_pos hin,d3,hin⟩⟩
    dsimp only
    rw [b3,seg_prog_out (by omega) (by omega),o12 a m hh]
   ·subst q3
    rw [if_pos (by decide)]
    refine ⟨(s1.trans s2).trans s3,fun a m hh=>?_,.inr ⟨rfl,d3⟩⟩
    dsimp only
    have hl:(x.take j++[x.getD j 0#8 ||| t]).length=j+1:=by simp;omega
    rw [b3,seg_prog_out (by omega) (by omega),o12 a m hh]
  ·subst q2
   rw [if_pos (by decide)]
   exact ⟨s1.trans s2,o12,.inr ⟨rfl,d2⟩⟩
 ·subst q1
  rw [if_pos (by decide)]
  exact ⟨s1.mono (by omega),fun a m hh=>o1 a m (by omega),.inr ⟨rfl,d1⟩⟩
theorem crcMul (c:BitVec 32):0xedb88320#32*(c &&& 1#32)=if c.getLsbD 0=true then 0xedb88320#32 else 0#32:=by
 have e:c &&& 1#32=if c.getLsbD 0=true then 1#32 else 0#32:=by
  apply BitVec.eq_of_getLsbD_eq
  intro i hi
  cases h:c.getLsbD 0 <;> rcases Nat.eq_zero_or_pos i with rfl|hp <;> simp_all [BitVec.getLsbD_and,BitVec.getLsbD_one] <;> omega
 rw [e]
 split <;> simp
theorem crcBit_xor (a b:BitVec 32):crcBit (a ^^^ b)=crcBit a ^^^ crcBit b:=by
 unfold crcBit
 rw [crcMul,crcMul,crcMul,BitVec.ushiftRight_xor_distrib,BitVec.getLsbD_xor]
 have t:∀ (x y k:BitVec 32),x ^^^ y=x ^^^ k ^^^ (y ^^^ k):=fun x y k=>by
  rw [BitVec.xor_comm y k,←BitVec.xor_assoc,BitVec.xor_assoc x k k,BitVec.xor_self,BitVec.xor_zero]
 cases a.getLsbD 0 <;> cases b.getLsbD 0 <;> simp
 ·ac_rfl
 ·ac_rfl
 ·exact t _ _ _
theorem crcBits_xor (n:Nat) (a b:BitVec 32):crcBits n (a ^^^ b)=crcBits n a ^^^ crcBits n b:=by
 induction n with
 | zero=>rfl
 | succ n ih=>simp only [crcBits,ih,crcBit_xor]
theorem crcBit_inj0 {a:BitVec 32} (h:crcBit a=0#32):a=0#32:=by
 unfold crcBit at h
 rw [crcMul] at h
 have h0:a.getLsbD 0=false:=by
  have:=congrArg (fun z=>z.getLsbD 31) h
  cases h0:a.getLsbD 0
  ·rfl
  ·simp [BitVec.getLsbD_ushiftRight,h0] at this
 rw [h0] at h
 simp at h
 apply BitVec.eq_of_getLsbD_eq
 intro i hi
 cases i with
 | zero=>simpa using h0
 | succ i =>
  have:=congrArg (fun z=>z.getLsbD i) h
  simpa [BitVec.getLsbD_ushiftRight,Nat.add_comm] using this
theorem crcBits_inj0 (n:Nat) {a:BitVec 32} (h:crcBits n a=0#32):a=0#32:=by
 induction n with
 | zero=>exact h
 | succ n ih=>exact ih (crcBit_inj0 h)
theorem crcBits_inj {n:Nat} {a b:BitVec 32} (h:crcBits n a=crcBits n b):a=b:=by
 have:crcBits n (a ^^^ b)=0#32:=by rw [crcBits_xor,h,BitVec.xor_self]
 exact BitVec.xor_eq_zero_iff.1 (crcBits_inj0 n this)
theorem crcBit_up {y:BitVec 32} {k:Nat} (h:y.toNat*2 ^ (k+1)<4294967296):crcBit (y <<< (k+1))=y <<< k:=by
 unfold crcBit
 rw [crcMul]
 have h0:(y <<< (k+1)).getLsbD 0=false:=by simp
 rw [h0]
 apply BitVec.eq_of_toNat_eq
 have e:y.toNat*2 ^ (k+1)=y.toNat*2 ^ k*2:=by rw [Nat.pow_succ,Nat.mul_assoc]
 have e2:y.toNat*2 ^ k<4294967296:=by omega
 simp only [Bool.false_eq_true,if_false,BitVec.xor_zero,BitVec.toNat_ushiftRight,BitVec.toNat_shiftLeft,Nat.shiftLeft_eq,Nat.shiftRight_eq_div_pow]
 rw [Nat.mod_eq_of_lt h,Nat.mod_eq_of_lt e2,e]
 omega
theorem crcBits_up {y:BitVec 32} (h:y.toNat<16777216):crcBits 8 (y <<< 8)=y:=by
 have b:∀ k,k≤7→crcBit (y <<< (k+1))=y <<< k:=fun k hk=>crcBit_up (by
  have:2 ^ (k+1)≤2 ^ 8:=Nat.pow_le_pow_right (by decide) (by omega)
  calc y.toNat*2 ^ (k+1)≤y.toNat*2 ^ 8:=Nat.mul_le_mul_left _ this
   _<_:=by omega)
 simp only [crcBits]
 rw [b 7 (by omega),b 6 (by omega),b 5 (by omega),b 4 (by omega),b 3 (by omega),b 2 (by omega),b 1 (by omega),b 0 (by omega)]
 simp
theorem crcAll_inj {c d:BitVec 32}:∀ {l:List (BitVec 8)},crcAll c l=crcAll d l→c=d
 | [],h=>h
 | x::l,h=>by
  have h2:crcByte c x=crcByte d x:=crcAll_inj (l:=l) h
  have h3:=crcBits_inj h2
  have:(c ^^^ x.setWidth 32) ^^^ x.setWidth 32=(d ^^^ x.setWidth 32) ^^^ x.setWidth 32:=by rw [h3]
  simpa [BitVec.xor_assoc] using this
theorem crcByte_dif (c d:BitVec 32) (x y:BitVec 8):crcByte c x ^^^ crcByte d y=crcByte (c ^^^ d) (x ^^^ y):=by
 unfold crcByte
 rw [←crcBits_xor]
 congr 1
 rw [show (x ^^^ y).setWidth 32=x.setWidth 32 ^^^ y.setWidth 32 by simp]
 ac_rfl
theorem crc_step {e:BitVec 32} {x:BitVec 8} {y:BitVec 32} (hy:y.toNat<16777216) (h:crcByte e x=y):e=x.setWidth 32 ^^^ y <<< 8:=by
 have h2:=crcBits_inj (h.trans (crcBits_up hy).symm)
 rw [←h2,BitVec.xor_comm e,←BitVec.xor_assoc,BitVec.xor_self,BitVec.zero_xor]
theorem sw_lt (x:BitVec 8) (y:BitVec 32) (k:Nat) (hy:y.toNat*256<2 ^ k) (h8:8≤k) (hk:k≤32):(x.setWidth 32 ^^^ y <<< 8).toNat<2 ^ k:=by
 rw [BitVec.toNat_xor]
 refine Nat.xor_lt_two_pow ?_ ?_
 ·have:=x.isLt
  rw [BitVec.toNat_setWidth]
  have:2 ^ 8≤2 ^ k:=Nat.pow_le_pow_right (by decide) h8
  omega
 ·have:2 ^ k≤2 ^ 32:=Nat.pow_le_pow_right (by decide) hk
  rw [BitVec.toNat_shiftLeft,Nat.shiftLeft_eq]
  omega
theorem crc_four {a b c d:BitVec 8} (h:crcByte (crcByte (crcByte (crcByte 0#32 a) b) c) d=0#32):a=0#8∧b=0#8∧c=0#8∧d=0#8:=by
 have h4:=crc_step (y:=0#32) (by decide) h
 rw [show (0#32 <<< 8:BitVec 32)=0#32 by decide,BitVec.xor_zero] at h4
 have b4:(d.setWidth 32).toNat<2 ^ 8:=by have:=d.isLt;rw [BitVec.toNat_setWidth];omega
 have h3:=crc_step (by omega) h4
 have b3:=sw_lt c (d.setWidth 32) 16 (by omega) (by omega) (by omega)
 have h2:=crc_step (by omega) h3
 have b2:=sw_lt b _ 24 (show (c.setWidth 32 ^^^ d.setWidth 32 <<< 8).toNat*256<2 ^ 24 by omega) (by omega) (by omega)
 have h1:=crc_step (by omega) h2
 have bit:∀ i,i<32→(0#32).getLsbD i=(a.setWidth 32 ^^^ (b.setWidth 32 ^^^ (c.setWidth 32 ^^^ d.setWidth 32 <<< 8) <<< 8) <<< 8:BitVec 32).getLsbD i:=fun i _=>by rw [←h1]
 have z:∀ (x:BitVec 8) (j:Nat),8≤j→x.getLsbD j=false:=fun x j hj=>BitVec.getLsbD_of_ge x j hj
 have key:∀ (x:BitVec 8),(∀ i,i<8→x.getLsbD i=false)→x=0#8:=fun x hx=>BitVec.eq_of_getLsbD_eq (fun i hi=>by rw [hx i hi];simp)
 refine ⟨key a fun i hi=>?_,key b fun i hi=>?_,key c fun i hi=>?_,key d fun i hi=>?_⟩
 ·have:=bit i (by omega)
  simpa [BitVec.getLsbD_xor,BitVec.getLsbD_shiftLeft,hi,show i<32 by omega] using this.symm
 ·have:=bit (i+8) (by omega)
  simpa [BitVec.getLsbD_xor,BitVec.getLsbD_shiftLeft,hi,show i+8<32 by omega,show i<32 by omega,z a (i+8) (by omega)] using this.symm
 ·have:=bit (i+16) (by omega)
  simpa [BitVec.getLsbD_xor,BitVec.getLsbD_shiftLeft,hi,show i+16<32 by omega,show i+8<32 by omega,show i<32 by omega,show ¬ i+16<8 by omega,show i+16 - 8=i+8 by omega,z a (i+16) (by omega),z b (i+8) (by omega)] using this.symm
 ·have:=bit (i+24) (by omega)
  simpa [BitVec.getLsbD_xor,BitVec.getLsbD_shiftLeft,hi,show i+24<32 by omega,show i+16<32 by omega,show i+8<32 by omega,show i<32 by omega,show ¬ i+24<8 by omega,show i+24 - 8=i+16 by omega,show ¬ i+16<8 by omega,show i+16 - 8=i+8 by omega,z a (i+24) (by omega),z b (i+16) (by omega),z c (i+8) (by omega)] using this.symm
theorem crc_tells {s:BitVec 32} {l l' r:List (BitVec 8)} (h4:l.length=4) (h4':l'.length=4) (h:crcAll s (l++r)=crcAll s (l'++r)):l=l':=by
 have h1:crcAll (crcAll s l) r=crcAll (crcAll s l') r:=by simpa [crcAll] using h
 have h2:=crcAll_inj h1
 match l,l',h4,h4' with
 | [a,b,c,d],[a',b',c',d'],_,_ =>
  have h3:crcByte (crcByte (crcByte (crcByte s a) b) c) d ^^^ crcByte (crcByte (crcByte (crcByte s a') b') c') d'=0#32:=by
   have h2:crcByte (crcByte (crcByte (crcByte s a) b) c) d=crcByte (crcByte (crcByte (crcByte s a') b') c') d':=h2
   rw [h2,BitVec.xor_self]
  rw [crcByte_dif,crcByte_dif,crcByte_dif,crcByte_dif,BitVec.xor_self] at h3
  obtain ⟨e1,e2,e3,e4⟩:=crc_four h3
  rw [BitVec.xor_eq_zero_iff] at e1 e2 e3 e4
  rw [e1,e2,e3,e4]
open Go.RowKit Go.Proofs
def cellR (f:Fl) (k:BitVec 32) (to:Nat) (q:List (BitVec 8)):Fl × Int :=
 if k=4294967295#32 then (f,9) else
 if (eraseF f to).2≠0 then eraseF f to else
 if (progF (eraseF f to).1 (to*256) (copyB (k+1#32) q)).2≠0 then progF (eraseF f to).1 (to*256) (copyB (k+1#32) q) else
 progF (progF (eraseF f to).1 (to*256) (copyB (k+1#32) q)).1 (to*256+(copyB (k+1#32) q).length) [0#8]
theorem cellW_none {f:Fl} {q:List (BitVec 8)} (hq:q.length≤245) (hd:f.pw.isDown=false) (hf:foundC f.bs=none):cellW f q=cellR f 0#32 0 q:=by
 unfold cellW
 rw [if_neg (by omega)]
 cases hp:f.pw with
 | down z=>rw [hp] at hd;cases hd
 | on=>simp only [hf];rfl
 | fuse n=>simp only [hf];rfl
theorem cellW_some {f:Fl} {q r:List (BitVec 8)} {k:BitVec 32} {w:Nat} (hq:q.length≤245) (hd:f.pw.isDown=false) (hf:foundC f.bs=some ((k,r),w)):cellW f q=cellR f k (if w=0 then 1 else 0) q:=by
 have e:(if (some w:Option Nat)=some 0 then (1:Nat) else 0)=if w=0 then 1 else 0:=by
  by_cases h:w=0
  ·rw [if_pos h,if_pos (by rw [h])]
  ·rw [if_neg h,if_neg (fun h2=>h (Option.some.inj h2))]
 unfold cellW
 rw [if_neg (by omega)]
 cases hp:f.pw with
 | down z=>rw [hp] at hd;cases hd
 | on=>simp only [hf,Option.map_some,Option.getD_some,e];rfl
 | fuse n=>simp only [hf,Option.map_some,Option.getD_some,e];rfl
theorem copyB_len (k:BitVec 32) (q:List (BitVec 8)):(copyB k q).length=q.length+10:=by simp [copyB,crcPut_len,be4,be2]
theorem foundC_no {l:List (BitVec 8)} (h:foundC l=none):copyAt l 0=none∧copyAt l 1=none:=by
 unfold foundC at h
 cases h0:copyAt l 0 <;> cases h1:copyAt l 1 <;> rw [h0,h1] at h
 ·exact ⟨rfl,rfl⟩
 ·cases h
 ·cases h
 ·dsimp only at h
  split at h <;> cases h
set_option maxHeartbeats 8000000 in
theorem cl_Write_none (H:List Hl) (b:Nat) (ad:Option Addr) (c:Nat) (f:Fl) (h:Hid) (ad2:Option Addr) (c2:Nat) (q:List (BitVec 8)) (hk:FlOk f h) (hq:Rs (stars H) B ad2 c2 q) (hn:q.length≤245) (hd:f.pw.isDown=false) (h0:copyAt f.bs 0=none) (h1:copyAt f.bs 1=none) :
  Spec Tryz.prog 68 [.pointer (some ⟨b,0,none⟩),.slice ad2 q.length c2] (fB b ad c f h::fR ad c f::H) (fun h':Hid=>FlOk (cellR f 0#32 0 q).1 h') (fun _=>I (cellR f 0#32 0 q).2) (fun h'=>fB b ad c (cellR f 0#32 0 q).1 h'::fR ad c (cellR f 0#32 0 q).1::H):=by
 refine spec_fn (res:=fun h':Hid=>[fB b ad c (cellR f 0#32 0 q).1 h',fR ad c (cellR f 0#32 0 q).1]) [fB b ad c f h,fR ad c f] H Tryz.func68 rfl Tryz.ntmps68 (by kernel_rfl) rfl (fun W=>?_)
 dsimp only [List.cons_append,List.nil_append]
 have hbs:=hk.bs
 have b1:=hq.le
 have b2:=hq.big
 obtain ⟨k1,hk1⟩:∃ k1,0#32+1#32=k1:=⟨_,rfl⟩
 obtain ⟨h6,hh6⟩:∃ h6,[(k1 >>> 24).setWidth 8,(k1 >>> 16).setWidth 8,(k1 >>> 8).setWidth 8,k1.setWidth 8,BitVec.ofInt 8 ((q.length:Int) / 256),BitVec.ofInt 8 (q.length:Int)]=h6:=⟨_,rfl⟩
 have h6l:h6.length=6:=by rw [←hh6];rfl
 obtain ⟨Z,hZ⟩:∃ Z,h6++q=Z:=⟨_,rfl⟩
 have hZl:Z.length=6+q.length:=by rw [←hZ,List.length_append,h6l]
 obtain ⟨Q,hQ⟩:∃ Q,crcPut Z=Q:=⟨_,rfl⟩
 have hQl:Q.length=Z.length+4:=by rw [←hQ,crcPut_len]
 have hQc:copyB (0#32+1#32) q=Q:=by
  rw [←hQ,←hZ,←hh6,hk1]
  rfl
 have hQa:((0*256:Nat):Int)+(Q.length:Int)=((0*256+Q.length:Nat):Int):=by omega
 obtain ⟨⟨f1,e1⟩,hr1⟩:∃ r,eraseF f 0=r:=⟨_,rfl⟩
 obtain ⟨⟨f2,e2⟩,hr2⟩:∃ r,progF f1 (0*256) Q=r:=⟨_,rfl⟩
 obtain ⟨⟨f3,e3⟩,hr3⟩:∃ r,progF f2 (0*256+Q.length) [0#8]=r:=⟨_,rfl⟩
 repeat' (first|intro _|refine cw ?_|refine cw2 ?_ ?_|refine o1_peql rfl rfl ?_|(refine k_fn 91 ?_;(refine o1_call (fun hh=>cl_ready _ b ad c f (RdFl.own hk hh)) rfl (fun _ _=>?_);rw [hd,if_neg (by decide)]))|(refine k_fn 92 ?_;refine o1_call (fun hh=>cl_found_none _ b ad c f (RdFl.own hk hh) hd h0 h1) rfl (fun _ _=>?_))|(refine k_binOp .add ?_;first|(refine o1_add rfl rfl (by omega) ?_;(try rw [hQa]))|(refine o1_uadd (v:=1#32) rfl rfl ?_;rw [hk1]))|(refine k_fn 110 ?_;(refine o1_call_fl b ad c (fun _=>fl_Erase _ b ad c f h 0 hk (by decide)) rfl (fun h1 hk2=>?_);(rw [hr1] at hk2 ⊢;dsimp only at hk2 ⊢)))|(refine k_binOp .shr ?_;refine o1_ishr8 rfl rfl ?_)|(refine k_buildSlice ?_;first|refine o1_lit_enc (T:=22) B h6 rfl rfl (by rw [←hh6];rfl) (fun _=>rfl) rfl rfl rfl (fun b63=>?_)|refine o1_lit_enc (T:=22) B [0#8] rfl rfl rfl (fun _=>rfl) rfl rfl rfl (fun b81=>?_))|(refine k_call ?_;(refine ox_append_box (xs:=h6) (ys:=q) (b:=b63) rfl rfl h6l.symm h6l.symm (rx_any hq) rfl rfl (fun _=>rfl) (by omega) (by omega) (fun a65 c65=>?_);rw [hZ]))|(refine k_fn 83 ?_;(refine o1_call (fun hh=>crc_Put _ a65 (6+q.length) c65 Z (rx_row hh) hZl.symm (by omega)) rfl (fun ⟨a66,c66⟩ _=>?_);(try dsimp only);rw [hQ,←hQl]))|(refine k_fn 114 ?_;refine o1_call (fun _=>cl_at _ 0 (by decide)) rfl (fun _ _=>?_))|(refine k_fn 44 ?_;first|(refine o1_call_fl b ad c (fun hh=>fl_Program _ b ad c f2 h2 (0*256+Q.length) (some ⟨b81,0,none⟩) 1 1 [0#8] hk3 (rx_box rfl (by decide) (has_tail (has_tail hh))) rfl (by omega)) rfl (fun h3 hk4=>?_);(rw [hr3] at hk4 ⊢;dsimp only at hk4 ⊢))|(refine o1_call_fl b ad c (fun hh=>fl_Program _ b ad c f1 h1 (0*256) a66 Q.length c66 Q hk2 (rx_row (has_tail (has_tail hh))) rfl (by omega)) rfl (fun h2 hk3=>?_);(rw [hr2] at hk3 ⊢;dsimp only at hk3 ⊢)))|refine ow ?_|refine ow2 ?_ ?_|fail)
 ·rename_i hc
  have hkm:0#32=4294967295#32:=BitVec.eq_of_toNat_eq (by rw [show (4294967295#32).toNat=4294967295 from rfl];omega)
  have hR:cellR f 0#32 0 q=(f,9):=if_pos hkm
  rw [hR]
  refine rt_tmp h rfl rfl rfl hk ?_
  exact ent
 ·rename_i hc he
  have hkm : ¬ 0#32=4294967295#32:=fun h=>hc (by rw [h];rfl)
  have hR:cellR f 0#32 0 q=(f1,e1):=by
   rw [cellR,if_neg hkm,hr1,if_pos he]
  rw [hR]
  refine rt_tmp h1 rfl rfl rfl hk2 ?_
  exact ent
 ·rename_i hc he _ _ _ _ he2
  have hkm : ¬ 0#32=4294967295#32:=fun h=>hc (by rw [h];rfl)
  have hR:cellR f 0#32 0 q=(f2,e2):=by
   rw [cellR,if_neg hkm,hQc,hr1,if_neg (fun h=>h he)]
   dsimp only
   rw [hr2,if_pos he2]
  rw [hR]
  refine rt_tmp h2 rfl rfl rfl hk3 ?_
  exact ent
 ·rename_i hc he _ _ _ _ he2 _ _
  have hkm : ¬ 0#32=4294967295#32:=fun h=>hc (by rw [h];rfl)
  have hR:cellR f 0#32 0 q=(f3,e3):=by
   rw [cellR,if_neg hkm,hQc,hr1,if_neg (fun h=>h he)]
   dsimp only
   rw [hr2,if_neg (fun h=>h he2)]
   dsimp only
   rw [hr3]
  rw [hR]
  refine rt_tmp h3 rfl rfl rfl hk4 ?_
  exact ent
set_option maxHeartbeats 8000000 in
theorem cl_Write_0 (H:List Hl) (b:Nat) (ad:Option Addr) (c:Nat) (f:Fl) (h:Hid) (ad2:Option Addr) (c2:Nat) (q:List (BitVec 8)) (k:BitVec 32) (r:List (BitVec 8)) (hk:FlOk f h) (hq:Rs (stars H) B ad2 c2 q) (hn:q.length≤245) (hd:f.pw.isDown=false) (hf:foundC f.bs=some ((k,r),0)) :
  Spec Tryz.prog 68 [.pointer (some ⟨b,0,none⟩),.slice ad2 q.length c2] (fB b ad c f h::fR ad c f::H) (fun h':Hid=>FlOk (cellR f k 1 q).1 h') (fun _=>I (cellR f k 1 q).2) (fun h'=>fB b ad c (cellR f k 1 q).1 h'::fR ad c (cellR f k 1 q).1::H):=by
 refine spec_fn (res:=fun h':Hid=>[fB b ad c (cellR f k 1 q).1 h',fR ad c (cellR f k 1 q).1]) [fB b ad c f h,fR ad c f] H Tryz.func68 rfl Tryz.ntmps68 (by kernel_rfl) rfl (fun W=>?_)
 dsimp only [List.cons_append,List.nil_append]
 have hbs:=hk.bs
 have b1:=hq.le
 have b2:=hq.big
 obtain ⟨k1,hk1⟩:∃ k1,k+1#32=k1:=⟨_,rfl⟩
 obtain ⟨h6,hh6⟩:∃ h6,[(k1 >>> 24).setWidth 8,(k1 >>> 16).setWidth 8,(k1 >>> 8).setWidth 8,k1.setWidth 8,BitVec.ofInt 8 ((q.length:Int) / 256),BitVec.ofInt 8 (q.length:Int)]=h6:=⟨_,rfl⟩
 have h6l:h6.length=6:=by rw [←hh6];rfl
 obtain ⟨Z,hZ⟩:∃ Z,h6++q=Z:=⟨_,rfl⟩
 have hZl:Z.length=6+q.length:=by rw [←hZ,List.length_append,h6l]
 obtain ⟨Q,hQ⟩:∃ Q,crcPut Z=Q:=⟨_,rfl⟩
 have hQl:Q.length=Z.length+4:=by rw [←hQ,crcPut_len]
 have hQc:copyB (k+1#32) q=Q:=by
  rw [←hQ,←hZ,←hh6,hk1]
  rfl
 have hQa:((1*256:Nat):Int)+(Q.length:Int)=((1*256+Q.length:Nat):Int):=by omega
 obtain ⟨⟨f1,e1⟩,hr1⟩:∃ r,eraseF f 1=r:=⟨_,rfl⟩
 obtain ⟨⟨f2,e2⟩,hr2⟩:∃ r,progF f1 (1*256) Q=r:=⟨_,rfl⟩
 obtain ⟨⟨f3,e3⟩,hr3⟩:∃ r,progF f2 (1*256+Q.length) [0#8]=r:=⟨_,rfl⟩
 repeat' (first|intro _|refine cw ?_|refine cw2 ?_ ?_|refine o1_peql rfl rfl ?_|(refine k_fn 91 ?_;(refine o1_call (fun hh=>cl_ready _ b ad c f (RdFl.own hk hh)) rfl (fun _ _=>?_);rw [hd,if_neg (by decide)]))|(refine k_fn 92 ?_;(refine o1_call (fun hh=>cl_found _ b ad c f k r _ 0 (RdFl.own hk hh) hd hf rfl) rfl (fun ⟨a27,c27⟩ _=>?_);(try dsimp only)))|(refine k_binOp .add ?_;first|(refine o1_add rfl rfl (by omega) ?_;(try rw [hQa]))|(refine o1_uadd (v:=1#32) rfl rfl ?_;rw [hk1]))|(refine k_fn 110 ?_;(refine o1_call_fl b ad c (fun _=>fl_Erase _ b ad c f h 1 hk (by decide)) rfl (fun h1 hk2=>?_);(rw [hr1] at hk2 ⊢;dsimp only at hk2 ⊢)))|(refine k_binOp .shr ?_;refine o1_ishr8 rfl rfl ?_)|(refine k_buildSlice ?_;first|refine o1_lit_enc (T:=22) B h6 rfl rfl (by rw [←hh6];rfl) (fun _=>rfl) rfl rfl rfl (fun b63=>?_)|refine o1_lit_enc (T:=22) B [0#8] rfl rfl rfl (fun _=>rfl) rfl rfl rfl (fun b81=>?_))|(refine k_call ?_;(refine ox_append_box (xs:=h6) (ys:=q) (b:=b63) rfl rfl h6l.symm h6l.symm (rx_any hq) rfl rfl (fun _=>rfl) (by omega) (by omega) (fun a65 c65=>?_);rw [hZ]))|(refine k_fn 83 ?_;(refine o1_call (fun hh=>crc_Put _ a65 (6+q.length) c65 Z (rx_row hh) hZl.symm (by omega)) rfl (fun ⟨a66,c66⟩ _=>?_);(try dsimp only);rw [hQ,←hQl]))|(refine k_fn 114 ?_;refine o1_call (fun _=>cl_at _ 1 (by decide)) rfl (fun _ _=>?_))|(refine k_fn 44 ?_;first|(refine o1_call_fl b ad c (fun hh=>fl_Program _ b ad c f2 h2 (1*256+Q.length) (some ⟨b81,0,none⟩) 1 1 [0#8] hk3 (rx_box rfl (by decide) (has_tail (has_tail hh))) rfl (by omega)) rfl (fun h3 hk4=>?_);(rw [hr3] at hk4 ⊢;dsimp only at hk4 ⊢))|(refine o1_call_fl b ad c (fun hh=>fl_Program _ b ad c f1 h1 (1*256) a66 Q.length c66 Q hk2 (rx_row (has_tail (has_tail hh))) rfl (by omega)) rfl (fun h2 hk3=>?_);(rw [hr2] at hk3 ⊢;dsimp only at hk3 ⊢)))|refine ow ?_|refine ow2 ?_ ?_|fail)
 ·rename_i hc
  have hkm:k=4294967295#32:=BitVec.eq_of_toNat_eq (by rw [show (4294967295#32).toNat=4294967295 from rfl];omega)
  have hR:cellR f k 1 q=(f,9):=if_pos hkm
  rw [hR]
  refine rt_tmp h rfl rfl rfl hk ?_
  exact ent
 ·rename_i hc he
  have hkm : ¬ k=4294967295#32:=fun h=>hc (by rw [h];rfl)
  have hR:cellR f k 1 q=(f1,e1):=by
   rw [cellR,if_neg hkm,hr1,if_pos he]
  rw [hR]
  refine rt_tmp h1 rfl rfl rfl hk2 ?_
  exact ent
 ·rename_i hc he _ _ _ _ he2
  have hkm : ¬ k=4294967295#32:=fun h=>hc (by rw [h];rfl)
  have hR:cellR f k 1 q=(f2,e2):=by
   rw [cellR,if_neg hkm,hQc,hr1,if_neg (fun h=>h he)]
   dsimp only
   rw [hr2,if_pos he2]
  rw [hR]
  refine rt_tmp h2 rfl rfl rfl hk3 ?_
  exact ent
 ·rename_i hc he _ _ _ _ he2 _ _
  have hkm : ¬ k=4294967295#32:=fun h=>hc (by rw [h];rfl)
  have hR:cellR f k 1 q=(f3,e3):=by
   rw [cellR,if_neg hkm,hQc,hr1,if_neg (fun h=>h he)]
   dsimp only
   rw [hr2,if_neg (fun h=>h he2)]
   dsimp only
   rw [hr3]
  rw [hR]
  refine rt_tmp h3 rfl rfl rfl hk4 ?_
  exact ent
set_option maxHeartbeats 8000000 in
theorem cl_Write_1 (H:List Hl) (b:Nat) (ad:Option Addr) (c:Nat) (f:Fl) (h:Hid) (ad2:Option Addr) (c2:Nat) (q:List (BitVec 8)) (k:BitVec 32) (r:List (BitVec 8)) (hk:FlOk f h) (hq:Rs (stars H) B ad2 c2 q) (hn:q.length≤245) (hd:f.pw.isDown=false) (hf:foundC f.bs=some ((k,r),1)) :
  Spec Tryz.prog 68 [.pointer (some ⟨b,0,none⟩),.slice ad2 q.length c2] (fB b ad c f h::fR ad c f::H) (fun h':Hid=>FlOk (cellR f k 0 q).1 h') (fun _=>I (cellR f k 0 q).2) (fun h'=>fB b ad c (cellR f k 0 q).1 h'::fR ad c (cellR f k 0 q).1::H):=by
 refine spec_fn (res:=fun h':Hid=>[fB b ad c (cellR f k 0 q).1 h',fR ad c (cellR f k 0 q).1]) [fB b ad c f h,fR ad c f] H Tryz.func68 rfl Tryz.ntmps68 (by kernel_rfl) rfl (fun W=>?_)
 dsimp only [List.cons_append,List.nil_append]
 have hbs:=hk.bs
 have b1:=hq.le
 have b2:=hq.big
 obtain ⟨k1,hk1⟩:∃ k1,k+1#32=k1:=⟨_,rfl⟩
 obtain ⟨h6,hh6⟩:∃ h6,[(k1 >>> 24).setWidth 8,(k1 >>> 16).setWidth 8,(k1 >>> 8).setWidth 8,k1.setWidth 8,BitVec.ofInt 8 ((q.length:Int) / 256),BitVec.ofInt 8 (q.length:Int)]=h6:=⟨_,rfl⟩
 have h6l:h6.length=6:=by rw [←hh6];rfl
 obtain ⟨Z,hZ⟩:∃ Z,h6++q=Z:=⟨_,rfl⟩
 have hZl:Z.length=6+q.length:=by rw [←hZ,List.length_append,h6l]
 obtain ⟨Q,hQ⟩:∃ Q,crcPut Z=Q:=⟨_,rfl⟩
 have hQl:Q.length=Z.length+4:=by rw [←hQ,crcPut_len]
 have hQc:copyB (k+1#32) q=Q:=by
  rw [←hQ,←hZ,←hh6,hk1]
  rfl
 have hQa:((0*256:Nat):Int)+(Q.length:Int)=((0*256+Q.length:Nat):Int):=by omega
 obtain ⟨⟨f1,e1⟩,hr1⟩:∃ r,eraseF f 0=r:=⟨_,rfl⟩
 obtain ⟨⟨f2,e2⟩,hr2⟩:∃ r,progF f1 (0*256) Q=r:=⟨_,rfl⟩
 obtain ⟨⟨f3,e3⟩,hr3⟩:∃ r,progF f2 (0*256+Q.length) [0#8]=r:=⟨_,rfl⟩
 repeat' (first|intro _|refine cw ?_|refine cw2 ?_ ?_|refine o1_peql rfl rfl ?_|(refine k_fn 91 ?_;(refine o1_call (fun hh=>cl_ready _ b ad c f (RdFl.own hk hh)) rfl (fun _ _=>?_);rw [hd,if_neg (by decide)]))|(refine k_fn 92 ?_;(refine o1_call (fun hh=>cl_found _ b ad c f k r _ 1 (RdFl.own hk hh) hd hf rfl) rfl (fun ⟨a27,c27⟩ _=>?_);(try dsimp only)))|(refine k_binOp .add ?_;first|(refine o1_add rfl rfl (by omega) ?_;(try rw [hQa]))|(refine o1_uadd (v:=1#32) rfl rfl ?_;rw [hk1]))|(refine k_fn 110 ?_;(refine o1_call_fl b ad c (fun _=>fl_Erase _ b ad c f h 0 hk (by decide)) rfl (fun h1 hk2=>?_);(rw [hr1] at hk2 ⊢;dsimp only at hk2 ⊢)))|(refine k_binOp .shr ?_;refine o1_ishr8 rfl rfl ?_)|(refine k_buildSlice ?_;first|refine o1_lit_enc (T:=22) B h6 rfl rfl (by rw [←hh6];rfl) (fun _=>rfl) rfl rfl rfl (fun b63=>?_)|refine o1_lit_enc (T:=22) B [0#8] rfl rfl rfl (fun _=>rfl) rfl rfl rfl (fun b81=>?_))|(refine k_call ?_;(refine ox_append_box (xs:=h6) (ys:=q) (b:=b63) rfl rfl h6l.symm h6l.symm (rx_any hq) rfl rfl (fun _=>rfl) (by omega) (by omega) (fun a65 c65=>?_);rw [hZ]))|(refine k_fn 83 ?_;(refine o1_call (fun hh=>crc_Put _ a65 (6+q.length) c65 Z (rx_row hh) hZl.symm (by omega)) rfl (fun ⟨a66,c66⟩ _=>?_);(try dsimp only);rw [hQ,←hQl]))|(refine k_fn 114 ?_;refine o1_call (fun _=>cl_at _ 0 (by decide)) rfl (fun _ _=>?_))|(refine k_fn 44 ?_;first|(refine o1_call_fl b ad c (fun hh=>fl_Program _ b ad c f2 h2 (0*256+Q.length) (some ⟨b81,0,none⟩) 1 1 [0#8] hk3 (rx_box rfl (by decide) (has_tail (has_tail hh))) rfl (by omega)) rfl (fun h3 hk4=>?_);(rw [hr3] at hk4 ⊢;dsimp only at hk4 ⊢))|(refine o1_call_fl b ad c (fun hh=>fl_Program _ b ad c f1 h1 (0*256) a66 Q.length c66 Q hk2 (rx_row (has_tail (has_tail hh))) rfl (by omega)) rfl (fun h2 hk3=>?_);(rw [hr2] at hk3 ⊢;dsimp only at hk3 ⊢)))|refine ow ?_|refine ow2 ?_ ?_|fail)
 ·rename_i hc
  have hkm:k=4294967295#32:=BitVec.eq_of_toNat_eq (by rw [show (4294967295#32).toNat=4294967295 from rfl];omega)
  have hR:cellR f k 0 q=(f,9):=if_pos hkm
  rw [hR]
  refine rt_tmp h rfl rfl rfl hk ?_
  exact ent
 ·rename_i hc he
  have hkm : ¬ k=4294967295#32:=fun h=>hc (by rw [h];rfl)
  have hR:cellR f k 0 q=(f1,e1):=by
   rw [cellR,if_neg hkm,hr1,if_pos he]
  rw [hR]
  refine rt_tmp h1 rfl rfl rfl hk2 ?_
  exact ent
 ·rename_i hc he _ _ _ _ he2
  have hkm : ¬ k=4294967295#32:=fun h=>hc (by rw [h];rfl)
  have hR:cellR f k 0 q=(f2,e2):=by
   rw [cellR,if_neg hkm,hQc,hr1,if_neg (fun h=>h he)]
   dsimp only
   rw [hr2,if_pos he2]
  rw [hR]
  refine rt_tmp h2 rfl rfl rfl hk3 ?_
  exact ent
 ·rename_i hc he _ _ _ _ he2 _ _
  have hkm : ¬ k=4294967295#32:=fun h=>hc (by rw [h];rfl)
  have hR:cellR f k 0 q=(f3,e3):=by
   rw [cellR,if_neg hkm,hQc,hr1,if_neg (fun h=>h he)]
   dsimp only
   rw [hr2,if_neg (fun h=>h he2)]
   dsimp only
   rw [hr3]
  rw [hR]
  refine rt_tmp h3 rfl rfl rfl hk4 ?_
  exact ent
end Go.Dp
namespace Go.Dp
theorem copyB_eq (k:BitVec 32) (q:List (BitVec 8)):copyB k q=be4 k++(be2 (q.length:Int)++(q++be4 (crcAdd 0#32 (be4 k++(be2 (q.length:Int)++q))))):=by
 simp [copyB,crcPut]
theorem seg_app_r {l r:List (BitVec 8)} {a n:Nat} (h:l.length≤a):seg (l++r) a n=seg r (a - l.length) n:=by
 apply List.ext_getElem?
 intro i
 rw [seg_get,seg_get]
 split
 ·rw [List.getElem?_append_right (by omega)]
  congr 1;omega
 ·rfl
theorem seg_take {l:List (BitVec 8)} {a n m:Nat} (h:a+n≤m):seg (l.take m) a n=seg l a n:=by
 apply List.ext_getElem?
 intro i
 rw [seg_get,seg_get]
 split
 ·rw [List.getElem?_take,if_pos (by omega)]
 ·rfl
theorem seg_zero (l:List (BitVec 8)) (n:Nat):seg l 0 n=l.take n:=by simp [seg]
theorem numN_be2 {n:Nat} (h:n<65536):numN (be2 (n:Int))=n:=by
 have:=num32_be2 (n:Int) (by omega) (by omega)
 rw [num32_N _ (by simp [be2])] at this
 omega
theorem copyB_cut (k:BitVec 32) (q:List (BitVec 8)):(copyB k q).take 4=be4 k∧seg (copyB k q) 4 2=be2 (q.length:Int)∧seg (copyB k q) 6 q.length=q:=by
 have e:=copyB_eq k q
 refine ⟨?_,?_,?_⟩
 ·rw [e];exact List.take_left' (be4_len k)
 ·rw [e,seg_app_r (by rw [be4_len];exact Nat.le_refl _),be4_len]
  show seg _ 0 2=_
  rw [seg_zero];exact List.take_left' rfl
 ·rw [e,seg_app_r (by rw [be4_len];omega),be4_len]
  show seg _ 2 _=_
  rw [seg_app_r (by simp [be2])]
  show seg _ 0 _=_
  rw [seg_zero];exact List.take_left' rfl
theorem copyC_whole {S q:List (BitVec 8)} {k:BitVec 32} (hq:q.length≤245) (h1:S.take (q.length+10)=copyB k q) (h2:S.getD (q.length+10) 0#8=0#8):copyC S=some (k,q):=by
 obtain ⟨c1,c2,c3⟩:=copyB_cut k q
 have hn:numN (seg S 4 2)=q.length:=by
  rw [←seg_take (m:=q.length+10) (by omega),h1,c2,numN_be2 (by omega)]
 unfold copyC
 simp only [hn]
 rw [if_neg (by omega),if_neg (by simpa using h2),h1,if_pos (show crcOk (copyB k q)=true from crcOk_put _)]
 have e1:S.take 4=be4 k:=by rw [←c1,←h1,List.take_take,Nat.min_eq_left (by omega)]
 have e2:seg S 6 q.length=q:=by
  have:=c3
  rw [←h1,seg_take (by omega)] at this
  exact this
 rw [e1,num32_be4,e2]
def Dead (S:List (BitVec 8)) (k:Nat):Prop:=∀ m,m≤256→∀ c,copyC (fillB S 0 m)=some c→c.1.toNat<k
theorem fill_fill {S:List (BitVec 8)} (a b:Nat) (hS:S.length=256) (ha:a≤256) (hb:b≤256):fillB (fillB S 0 a) 0 b=fillB S 0 (max a b):=by
 apply List.ext_getElem?
 intro i
 rw [fillB_get (by rw [fillB_len (by omega)];omega),fillB_get (by omega),fillB_get (by omega)]
 by_cases h1:i<b
 ·rw [if_pos (by omega),if_pos (by omega)]
 ·rw [if_neg (by omega)]
  by_cases h2:i<a
  ·rw [if_pos (by omega),if_pos (by omega)]
  ·rw [if_neg (by omega),if_neg (by omega)]
theorem Dead.fill {S:List (BitVec 8)} {k:Nat} (h:Dead S k) (hS:S.length=256) {a:Nat} (ha:a≤256):Dead (fillB S 0 a) k:=fun m hm c hc=>by
 rw [fill_fill a m hS ha hm] at hc
 exact h _ (by omega) c hc
theorem Dead.mono {S:List (BitVec 8)} {k k':Nat} (h:Dead S k) (hk:k≤k'):Dead S k':=fun m hm c hc=>Nat.lt_of_lt_of_le (h m hm c hc) hk
theorem dead_of {S:List (BitVec 8)} (hS:S.length=256) (h:∀ m,m≤4→(let n:=numN (seg (fillB S 0 m) 4 2);245<n∨(fillB S 0 m).getD (n+10) 0#8≠0#8)) (k:Nat):Dead S k:=fun m hm c hc=>by
 exfalso
 by_cases hm4:m≤4
 ·rcases h m hm4 with hh|hh
  ·unfold copyC at hc
   dsimp only at hc
   rw [if_pos hh] at hc;cases hc
  ·unfold copyC at hc
   dsimp only at hc
   by_cases hx:245<numN (seg (fillB S 0 m) 4 2)
   ·rw [if_pos hx] at hc;cases hc
   ·rw [if_neg hx,if_pos hh] at hc;cases hc
 ·have g4:(fillB S 0 m)[4]?=some 0xff#8:=by rw [fillB_get (by omega),if_pos (by omega)]
  have hlen:(fillB S 0 m).length=256:=by rw [fillB_len (by omega),hS]
  have g5:∃ x,(fillB S 0 m)[5]?=some x:=⟨_,List.getElem?_eq_getElem (by omega)⟩
  obtain ⟨x,g5⟩:=g5
  have hn:=numN_two g4 g5
  have:245<numN (seg (fillB S 0 m) 4 2):=by rw [hn];have:=x.isLt;simp;omega
  unfold copyC at hc
  dsimp only at hc
  rw [if_pos this] at hc;cases hc
theorem copyC_some {S q:List (BitVec 8)} {k:BitVec 32} (h:copyC S=some (k,q)):numN (seg S 4 2)≤245∧S.getD (numN (seg S 4 2)+10) 0#8=0#8∧crcOk (S.take (numN (seg S 4 2)+10))=true∧num32 (S.take 4)=k∧seg S 6 (numN (seg S 4 2))=q:=by
 unfold copyC at h
 dsimp only at h
 split at h
 ·cases h
 rename_i h1
 split at h
 ·cases h
 rename_i h2
 split at h
 ·rename_i h3
  obtain ⟨e1,e2⟩:=Prod.mk.inj (Option.some.inj h)
  exact ⟨by omega,by simpa using h2,h3,e1,e2⟩
 ·cases h
theorem crcOk_eq {l:List (BitVec 8)} (h:crcOk l=true):4≤l.length∧crcPut (l.take (l.length - 4))=l:=by
 simpa [crcOk] using h
theorem crcOk_four {a b r:List (BitVec 8)} (ha:a.length=4) (hb:b.length=4) (hr:4≤r.length) (h1:crcOk (a++r)=true) (h2:crcOk (b++r)=true):a=b:=by
 obtain ⟨_,e1⟩:=crcOk_eq h1
 obtain ⟨_,e2⟩:=crcOk_eq h2
 have t:∀ x:List (BitVec 8),x.length=4→(x++r).take ((x++r).length - 4)=x++r.take (r.length - 4):=fun x hx=>by
  rw [List.take_append,List.take_of_length_le (by simp;omega)]
  congr 2;simp;omega
 rw [t a ha] at e1
 rw [t b hb] at e2
 have f:∀ x:List (BitVec 8),x.length=4→crcPut (x++r.take (r.length - 4))=x++r→be4 (crcAdd 0#32 (x++r.take (r.length - 4)))=r.drop (r.length - 4):=fun x hx e=>by
  have e3:=congrArg (fun z=>z.drop r.length) e
  simp only [crcPut] at e3
  rw [List.drop_left' (by simp;omega)] at e3
  rw [e3,List.drop_append,List.drop_eq_nil_of_le (by omega),hx]
  rfl
 have g:=be4_inj4 ((f a ha e1).trans (f b hb e2).symm)
 have g2:crcAll (~~~ 0#32) (a++r.take (r.length - 4))=crcAll (~~~ 0#32) (b++r.take (r.length - 4)):=by
  have:=congrArg (fun z => ~~~ z) g
  simpa [crcAdd] using this
 exact crc_tells ha hb g2
theorem dead_copy {S q:List (BitVec 8)} {k:BitVec 32} (hS:S.length=256) (h:copyC S=some (k,q)) (hk:k.toNat<16777216) {j:Nat} (hj:k.toNat<j):Dead S j:=fun m hm c hc=>by
 obtain ⟨c1,c2⟩:=c
 by_cases h0:m=0
 ·subst h0
  rw [fillB_zero,h] at hc
  obtain ⟨e1,e2⟩:=Prod.mk.inj (Option.some.inj hc)
  dsimp only
  rw [←e1];exact hj
 ·exfalso
  obtain ⟨p1,p2,p3,p4,p5⟩:=copyC_some h
  obtain ⟨r1,r2,r3,r4,r5⟩:=copyC_some hc
  have hfl:(fillB S 0 m).length=256:=by rw [fillB_len (by omega),hS]
  by_cases hm4:m≤4
  ·have hs:∀ a n,4≤a→seg (fillB S 0 m) a n=seg S a n:=fun a n ha=>seg_fill_out (by omega) (by omega)
   rw [hs 4 2 (by omega)] at r3
   obtain ⟨n,hn⟩:∃ n,numN (seg S 4 2)=n:=⟨_,rfl⟩
   rw [hn] at p1 p3 r3
   have sp:∀ X:List (BitVec 8),X.take (n+10)=X.take 4++seg X 4 (n+6):=fun X=>by
    rw [←seg_zero,←seg_zero,show n+10=4+(n+6) by omega,seg_append]
   rw [sp] at p3 r3
   rw [hs 4 _ (by omega)] at r3
   have e:=crcOk_four (by simp;omega) (by simp;omega) (by rw [seg_len (by omega)];omega) p3 r3
   have g0:(fillB S 0 m)[0]?=some 0xff#8:=by rw [fillB_get (by omega),if_pos (by omega)]
   have g1:S[0]?=some 0xff#8:=by
    have:=congrArg (fun z=>z[0]?) e
    simp only [List.getElem?_take] at this
    rw [if_pos (by omega),if_pos (by omega),g0] at this
    exact this
   obtain ⟨a,b,c,d,he⟩:∃ a b c d,S.take 4=[a,b,c,d]:=list4 (by simp;omega)
   have ha:a=0xff#8:=by
    have:(S.take 4)[0]?=some 0xff#8:=by rw [List.getElem?_take,if_pos (by omega),g1]
    rw [he] at this
    simpa using this
   have hk2:k.toNat=numN (S.take 4):=by rw [←p4,num32_N _ (by simp;omega)]
   rw [he,ha] at hk2
   have:=b.isLt;have:=c.isLt;have:=d.isLt
   simp only [numN,List.foldl_cons,List.foldl_nil] at hk2
   have:(0xff#8:BitVec 8).toNat=255:=rfl
   omega
  ·have g4:(fillB S 0 m)[4]?=some 0xff#8:=by rw [fillB_get (by omega),if_pos (by omega)]
   obtain ⟨x,g5⟩:∃ x,(fillB S 0 m)[5]?=some x:=⟨_,List.getElem?_eq_getElem (by omega)⟩
   have hn:=numN_two g4 g5
   have:(0xff#8:BitVec 8).toNat=255:=rfl
   omega
theorem dead_blank {S:List (BitVec 8)} (hS:S=List.replicate 256 0xff#8) (k:Nat):Dead S k:=by
 refine dead_of (by rw [hS];exact List.length_replicate) (fun m hm=>?_) k
 have hl:S.length=256:=by rw [hS];exact List.length_replicate
 have g:∀ i,i<256→(fillB S 0 m)[i]?=some 0xff#8:=fun i hi=>by
  rw [fillB_get (by omega)]
  split
  ·rfl
  ·rw [hS,List.getElem?_replicate,if_pos hi]
 have hn:=numN_two (g 4 (by omega)) (g 5 (by omega))
 have:(0xff#8:BitVec 8).toNat=255:=rfl
 left
 omega
theorem prog_get {l xs:List (BitVec 8)} {A:Nat} (hb:Blank l A 256) (hA:A+256≤l.length) (hx:xs.length≤256) (i:Nat) (hi:i<256):(seg (progB l A xs) A 256)[i]?=if i<xs.length then xs[i]? else some 0xff#8:=by
 rw [seg_get,if_pos hi,progB_get (by omega),hb.at (by omega) (by omega)]
 by_cases h:i<xs.length
 ·rw [if_pos (by omega),if_pos h,show A+i - A=i by omega,List.getElem?_eq_getElem h]
  simp [ff_and]
 ·rw [if_neg (by omega),if_neg h]
theorem or_ge (a b:BitVec 8):a.toNat≤(a ||| b).toNat:=by
 rw [BitVec.toNat_or];exact Nat.left_le_or
theorem dead_torn {S q:List (BitVec 8)} {k:BitVec 32} {j:Nat} {t:BitVec 8} (hS:S.length=256) (hq:q.length≤245) (hj:j<(copyB k q).length)
  (h:∀ i,i<256→S[i]?=if i<j+1 then ((copyB k q).take j++[(copyB k q).getD j 0#8 ||| t])[i]? else some 0xff#8) (n:Nat):Dead S n:=by
 rw [copyB_len] at hj
 have hcl:=copyB_len k q
 have g4:(copyB k q)[4]?=some 0#8:=by
  have:=congrArg (fun z=>z[0]?) (copyB_cut k q).2.1
  simp only [seg_get] at this
  rw [if_pos (by omega)] at this
  rw [show 4+0=4 from rfl] at this
  rw [this]
  have e0:(q.length:Int) / 256=0:=by omega
  simp only [be2,e0]
  rfl
 have g5:(copyB k q)[5]?=some (BitVec.ofNat 8 q.length):=by
  have:=congrArg (fun z=>z[1]?) (copyB_cut k q).2.1
  simp only [seg_get] at this
  rw [if_pos (by omega)] at this
  rw [show 4+1=5 from rfl] at this
  rw [this]
  simp [be2]
 have hc5:(BitVec.ofNat 8 q.length).toNat=q.length:=by rw [BitVec.toNat_ofNat];omega
 have at_:∀ i,i<256→i≤j→S[i]?=if i<j then (copyB k q)[i]? else some ((copyB k q).getD j 0#8 ||| t):=fun i hi hij=>by
  rw [h i hi,if_pos (by omega)]
  by_cases h1:i<j
  ·rw [if_pos h1,List.getElem?_append_left (by rw [List.length_take];omega),List.getElem?_take,if_pos h1]
  ·rw [if_neg h1,List.getElem?_append_right (by rw [List.length_take];omega)]
   have:i - ((copyB k q).take j).length=0:=by rw [List.length_take];omega
   rw [this];rfl
 have ff_:∀ i,i<256→j<i→S[i]?=some 0xff#8:=fun i hi hij=>by rw [h i hi,if_neg (by omega)]
 refine dead_of hS (fun m hm=>?_) n
 have fg:∀ i,4≤i→(fillB S 0 m)[i]?=S[i]?:=fun i hi=>by rw [fillB_get (by omega),if_neg (by omega)]
 have hff:(0xff#8:BitVec 8).toNat=255:=rfl
 obtain ⟨x4,h4⟩:∃ x,S[4]?=some x:=⟨_,List.getElem?_eq_getElem (by omega)⟩
 obtain ⟨x5,h5⟩:∃ x,S[5]?=some x:=⟨_,List.getElem?_eq_getElem (by omega)⟩
 have hn:=numN_two ((fg 4 (by omega)).trans h4) ((fg 5 (by omega)).trans h5)
 dsimp only
 rw [hn]
 by_cases hj5:j<5
 ·have:x5=0xff#8:=by rw [ff_ 5 (by omega) (by omega)] at h5;exact (Option.some.inj h5).symm
  left
  rw [this]
  omega
 ·have e4:x4=0#8:=by rw [at_ 4 (by omega) (by omega),if_pos (by omega),g4] at h4;exact (Option.some.inj h4).symm
  have e5:q.length≤x5.toNat∧(j≠5→x5.toNat=q.length):=by
   rw [at_ 5 (by omega) (by omega)] at h5
   by_cases h6:5<j
   ·rw [if_pos h6,g5] at h5
    have:=Option.some.inj h5
    rw [←this,hc5]
    exact ⟨Nat.le_refl _,fun _=>rfl⟩
   ·have hj6:j=5:=by omega
    rw [if_neg h6,hj6,List.getD_eq_getElem?_getD,g5] at h5
    have:=Option.some.inj h5
    rw [←this]
    refine ⟨?_,fun hh=>absurd hj6 hh⟩
    have:=or_ge (BitVec.ofNat 8 q.length) t
    rw [hc5] at this
    exact this
  have e40:x4.toNat=0:=by rw [e4];rfl
  rw [e40]
  by_cases h245:245<0*256+x5.toNat
  ·exact .inl h245
  ·right
   have hjx:j<0*256+x5.toNat+10:=by
    by_cases h5j:j=5
    ·omega
    ·have:=e5.2 h5j;omega
   have:=ff_ (0*256+x5.toNat+10) (by omega) hjx
   rw [List.getD_eq_getElem?_getD,fg _ (by omega),this]
   decide
theorem dead_mark {S q:List (BitVec 8)} {k:BitVec 32} {y:BitVec 8} (hS:S.length=256) (hq:q.length≤245) (hy:y≠0#8) (h1:S.take (q.length+10)=copyB k q) (h2:S[q.length+10]?=some y) (n:Nat):Dead S n:=by
 refine dead_of hS (fun m hm=>?_) n
 have fg:∀ i,4≤i→(fillB S 0 m)[i]?=S[i]?:=fun i hi=>by rw [fillB_get (by omega),if_neg (by omega)]
 have hs:seg (fillB S 0 m) 4 2=be2 (q.length:Int):=by
  rw [seg_fill_out (by omega) (by omega),←seg_take (m:=q.length+10) (by omega),h1]
  exact (copyB_cut k q).2.1
 dsimp only
 rw [hs,numN_be2 (by omega)]
 right
 rw [List.getD_eq_getElem?_getD,fg _ (by omega),h2]
 exact hy
theorem seg_fill_same {l:List (BitVec 8)} {A m:Nat} (hA:A+256≤l.length) (hm:m≤256):seg (fillB l A m) A 256=fillB (seg l A 256) 0 m:=by
 apply List.ext_getElem?
 intro i
 rw [seg_get,fillB_get (l:=l) (by omega),fillB_get (l:=seg l A 256) (by rw [seg_len hA];omega),seg_get]
 by_cases hi:i<256
 ·rw [if_pos hi,if_pos hi]
  by_cases h:i<m
  ·rw [if_pos (by omega),if_pos (by omega)]
  ·rw [if_neg (by omega),if_neg (by omega)]
 ·rw [if_neg hi,if_neg hi,if_neg (by omega)]
theorem prog2_get {l xs:List (BitVec 8)} {y:BitVec 8} {A:Nat} (hb:Blank l A 256) (hA:A+256≤l.length) (hx:xs.length<256) (i:Nat) (hi:i<256):(seg (progB (progB l A xs) (A+xs.length) [y]) A 256)[i]?=if i<xs.length then xs[i]? else if i=xs.length then some y else some 0xff#8:=by
 have hl:=progB_len (l:=l) (a:=A) (xs:=xs) (by omega)
 have g:=prog_get hb hA (Nat.le_of_lt hx) i hi
 rw [seg_get,if_pos hi] at g ⊢
 rw [progB_get (by rw [hl];simp;omega),g]
 by_cases h:i<xs.length
 ·rw [if_neg (by simp;omega),if_pos h,if_pos h]
 ·rw [if_neg h,if_neg h]
  by_cases he:i=xs.length
  ·rw [if_pos (by simp;omega),if_pos he,show A+i - (A+xs.length)=0 by omega]
   simp [ff_and]
  ·rw [if_neg (by simp;omega),if_neg he]
theorem cellR_out {f:Fl} {n to:Nat} {k:BitVec 32} {q:List (BitVec 8)} (hf:Few f n) (hw:n<f.wear) (hd:f.pw.isDown=false) (ht:to<2) (hq:q.length≤245) (hk:k.toNat<16777215) :
  Stay f (cellR f k to q).1 (n+1)∧(∀ a m,a+m≤to*256∨to*256+256≤a→seg (cellR f k to q).1.bs a m=seg f.bs a m) ∧
  (((cellR f k to q).2=0∧(cellR f k to q).1.pw.isDown=false∧copyAt (cellR f k to q).1.bs to=some (k+1#32,q)) ∨
   ((cellR f k to q).2=11∧(cellR f k to q).1.pw = .down none∧(copyAt (cellR f k to q).1.bs to=some (k+1#32,q)∨∀ j,Dead (seg f.bs (to*256) 256) j→Dead (seg (cellR f k to q).1.bs (to*256) 256) j))):=by
 have hb:=hf.bs
 have hlen:=copyB_len (k+1#32) q
 obtain ⟨C,hC⟩:∃ C,copyB (k+1#32) q=C:=⟨_,rfl⟩
 unfold cellR
 rw [if_neg (by intro e;rw [e] at hk;exact absurd hk (by decide)),hC]
 rw [hC] at hlen
 obtain ⟨s1,c1⟩:=eraseF_out (s:=to) hf (by omega) hw hd
 obtain ⟨⟨f1,v1⟩,hr1⟩:∃ r,eraseF f to=r:=⟨_,rfl⟩
 rw [hr1] at s1 c1 ⊢
 dsimp only at s1 c1 ⊢
 rcases c1 with ⟨q1,d1,b1⟩|⟨q1,d1,m,hm,b1⟩
 rotate_left
 ·subst q1
  rw [if_pos (by decide)]
  refine ⟨s1,fun a m2 hh=>?_,.inr ⟨rfl,d1,.inr fun j hj=>?_⟩⟩
  ·dsimp only
   rw [b1,seg_fill_out (by omega) (by omega)]
  ·dsimp only
   rw [b1,seg_fill_same (by omega) hm]
   exact hj.fill (seg_len (by omega)) hm
 subst q1
 rw [if_neg (by decide)]
 have hb1:=s1.few.bs
 have hbl:Blank f1.bs (to*256) 256:=by
  show seg _ _ _=_
  rw [b1,seg_fill_in (by omega) (Nat.le_refl _) (Nat.le_refl _)]
 have o1:∀ a m,a+m≤to*256∨to*256+256≤a→seg f1.bs a m=seg f.bs a m:=fun a m hh=>by rw [b1,seg_fill_out (by omega) (by omega)]
 obtain ⟨s2,c2⟩:=progF_out (a:=to*256) (xs:=C) s1.few (by omega) d1
 obtain ⟨⟨f2,v2⟩,hr2⟩:∃ r,progF f1 (to*256) C=r:=⟨_,rfl⟩
 rw [hr2] at s2 c2 ⊢
 dsimp only at s2 c2 ⊢
 rcases c2 with ⟨q2,d2,b2⟩|⟨q2,d2,j,t,hj,b2⟩
 rotate_left
 ·subst q2
  rw [if_pos (by decide)]
  have hl:(C.take j++[C.getD j 0#8 ||| t]).length=j+1:=by simp;omega
  refine ⟨s1.trans s2,fun a m2 hh=>?_,.inr ⟨rfl,d2,.inr fun n2 _=>?_⟩⟩
  ·dsimp only
   rw [b2,seg_prog_out (by omega) (by omega),o1 a m2 hh]
  ·dsimp only
   refine dead_torn (k:=k+1#32) (q:=q) (j:=j) (t:=t) (seg_len (by rw [b2,progB_len (by omega)];omega)) hq (by rw [hC];exact hj) (fun i hi=>?_) n2
   rw [hC,b2,prog_get hbl (by omega) (by omega) i hi,hl]
 subst q2
 rw [if_neg (by decide)]
 have hb2:=s2.few.bs
 have o2:∀ a m,a+m≤to*256∨to*256+256≤a→seg f2.bs a m=seg f.bs a m:=fun a m hh=>by rw [b2,seg_prog_out (by omega) (by omega),o1 a m hh]
 obtain ⟨s3,c3⟩:=progF_out (a:=to*256+C.length) (xs:=[0#8]) s2.few (by simp;omega) d2
 obtain ⟨⟨f3,v3⟩,hr3⟩:∃ r,progF f2 (to*256+C.length) [0#8]=r:=⟨_,rfl⟩
 rw [hr3] at s3 c3 ⊢
 dsimp only at s3 c3 ⊢
 have fin:∀ y:BitVec 8,f3.bs=progB f2.bs (to*256+C.length) [y]→(∀ a m,a+m≤to*256∨to*256+256≤a→seg f3.bs a m=seg f.bs a m)∧(y=0#8→copyAt f3.bs to=some (k+1#32,q))∧(y≠0#8→∀ j,Dead (seg f3.bs (to*256) 256) j):=fun y b3=>by
  have g:∀ i,i<256→(seg f3.bs (to*256) 256)[i]?=if i<C.length then C[i]? else if i=C.length then some y else some 0xff#8:=fun i hi=>by
   rw [b3,b2]
   exact prog2_get hbl (by omega) (by omega) i hi
  have hS:(seg f3.bs (to*256) 256).length=256:=seg_len (by rw [s3.few.bs];omega)
  have ht:(seg f3.bs (to*256) 256).take (q.length+10)=C:=by
   apply List.ext_getElem?
   intro i
   rw [List.getElem?_take]
   by_cases hi:i<q.length+10
   ·rw [if_pos hi,g i (by omega),if_pos (by omega)]
   ·rw [if_neg hi,List.getElem?_eq_none (by omega)]
  have hy:(seg f3.bs (to*256) 256)[q.length+10]?=some y:=by
   rw [g _ (by omega),if_neg (by omega),if_pos (by omega)]
  refine ⟨fun a m hh=>?_,fun hy0=>?_,fun hy0 j=>?_⟩
  ·have hy1:([y]:List (BitVec 8)).length=1:=rfl
   have h255:C.length+1≤256:=by omega
   have h1:to*256+C.length+[y].length≤f2.bs.length:=by rw [hy1,hb2];omega
   have h2:a+m≤to*256+C.length∨to*256+C.length+[y].length≤a:=hh.imp (fun h=>Nat.le_trans h (Nat.le_add_right _ _)) (fun h=>Nat.le_trans (by rw [hy1,Nat.add_assoc];exact Nat.add_le_add_left h255 _) h)
   rw [b3,seg_prog_out h1 h2,o2 a m hh]
  ·exact copyC_whole hq (by rw [ht,hC]) (by rw [List.getD_eq_getElem?_getD,hy,hy0];rfl)
  ·exact dead_mark hS hq hy0 (by rw [ht,hC]) hy j
 rcases c3 with ⟨q3,d3,b3⟩|⟨q3,d3,j,t,hj,b3⟩
 ·obtain ⟨w1,w2,w3⟩:=fin 0#8 b3
  exact ⟨(s1.trans s2).trans s3,w1,.inl ⟨q3,d3,w2 rfl⟩⟩
 ·have hj0:j=0:=by simp at hj;omega
  subst hj0
  obtain ⟨w1,w2,w3⟩:=fin _ b3
  refine ⟨(s1.trans s2).trans s3,w1,.inr ⟨q3,d3,?_⟩⟩
  by_cases hy:([0#8].getD 0 0#8 ||| t)=0#8
  ·exact .inl (w2 hy)
  ·exact .inr fun j _=>w3 hy j
structure CellIs (l:List (BitVec 8)) (k:Nat) (q:List (BitVec 8)) (w:Nat):Prop where
 w2:w<2
 at_:∃ kk:BitVec 32,kk.toNat=k∧copyAt l w=some (kk,q)
 dead:Dead (seg l ((1 - w)*256) 256) k
theorem CellIs.found {l:List (BitVec 8)} {k w:Nat} {q:List (BitVec 8)} (h:CellIs l k q w) (hl:l.length=3584):∃ kk:BitVec 32,kk.toNat=k∧foundC l=some ((kk,q),w):=by
 obtain ⟨kk,hk,ha⟩:=h.at_
 have hS:(seg l ((1 - w)*256) 256).length=256:=seg_len (by omega)
 have hdead:∀ c,copyAt l (1 - w)=some c→c.1.toNat<k:=fun c hc=>h.dead 0 (Nat.zero_le _) c (by rw [fillB_zero];exact hc)
 refine ⟨kk,hk,?_⟩
 have h2:=h.w2
 unfold foundC
 rcases (by omega:w=0∨w=1) with rfl|rfl
 ·rw [ha]
  cases h1:copyAt l 1 with
  | none=>rfl
  | some b =>
   have:=hdead b h1
   dsimp only
   rw [if_neg (by omega)]
 ·rw [ha]
  cases h1:copyAt l 0 with
  | none=>rfl
  | some b =>
   have:=hdead b h1
   dsimp only
   rw [if_pos (by omega)]
theorem CellIs.keep {l l':List (BitVec 8)} {k w:Nat} {q:List (BitVec 8)} (h:CellIs l k q w) (e:seg l' 0 512=seg l 0 512):CellIs l' k q w:=by
 have hs:∀ v,v<2→seg l' (v*256) 256=seg l (v*256) 256:=fun v hv=>by
  have:=congrArg (fun z=>seg z (v*256) 256) e
  rw [seg_seg (by omega),seg_seg (by omega),Nat.zero_add] at this
  exact this
 have h2:=h.w2
 obtain ⟨kk,hk,ha⟩:=h.at_
 refine ⟨h2,⟨kk,hk,?_⟩,?_⟩
 ·unfold copyAt at ha ⊢
  rw [hs w h2];exact ha
 ·rw [hs (1 - w) (by omega)];exact h.dead
theorem cellW_out {f:Fl} {n k w:Nat} {q q0:List (BitVec 8)} (hc:CellIs f.bs k q0 w) (hf:Few f n) (hw:n<f.wear) (hd:f.pw.isDown=false) (hq:q.length≤245) (hk:k<16777214) :
  Stay f (cellW f q).1 (n+1)∧(∀ a m,512≤a→seg (cellW f q).1.bs a m=seg f.bs a m) ∧
  (((cellW f q).2=0∧(cellW f q).1.pw.isDown=false∧CellIs (cellW f q).1.bs (k+1) q (1 - w)) ∨
   ((cellW f q).2=11∧(cellW f q).1.pw = .down none∧(CellIs (cellW f q).1.bs (k+1) q (1 - w)∨CellIs (cellW f q).1.bs k q0 w))):=by
 have hb:=hf.bs
 obtain ⟨kk,hkk,hfo⟩:=hc.found hb
 have h2:=hc.w2
 rw [cellW_some hq hd hfo,show (if w=0 then 1 else 0)=1 - w by split <;> omega]
 obtain ⟨st,so,sc⟩:=cellR_out (to:=1 - w) (k:=kk) (q:=q) hf hw hd (by omega) hq (by omega)
 have hk1:(kk+1#32).toNat=k+1:=by
  rw [BitVec.toNat_add]
  have:(1#32).toNat=1:=rfl
  omega
 have same:seg (cellR f kk (1 - w) q).1.bs (w*256) 256=seg f.bs (w*256) 256:=so _ _ (by omega)
 have new:copyAt (cellR f kk (1 - w) q).1.bs (1 - w)=some (kk+1#32,q)→CellIs (cellR f kk (1 - w) q).1.bs (k+1) q (1 - w):=fun h=>by
  refine ⟨by omega,⟨_,hk1,h⟩,?_⟩
  rw [show 1 - (1 - w)=w by omega,same]
  obtain ⟨k2,hk2,ha⟩:=hc.at_
  exact dead_copy (seg_len (by omega)) ha (by omega) (by omega)
 have old:(∀ j,Dead (seg f.bs ((1 - w)*256) 256) j→Dead (seg (cellR f kk (1 - w) q).1.bs ((1 - w)*256) 256) j)→CellIs (cellR f kk (1 - w) q).1.bs k q0 w:=fun h=>by
  obtain ⟨k2,hk2,ha⟩:=hc.at_
  refine ⟨h2,⟨k2,hk2,?_⟩,h _ hc.dead⟩
  unfold copyAt at ha ⊢
  rw [same];exact ha
 refine ⟨st,fun a m hh=>so a m (by omega),?_⟩
 rcases sc with ⟨e1,e2,e3⟩|⟨e1,e2,e3|e3⟩
 ·exact .inl ⟨e1,e2,new e3⟩
 ·exact .inr ⟨e1,e2,.inl (new e3)⟩
 ·exact .inr ⟨e1,e2,.inr (old e3)⟩
theorem cellW_first {f:Fl} {n:Nat} {q:List (BitVec 8)} (hc:Blank f.bs 0 512) (hf:Few f n) (hw:n<f.wear) (hp:f.pw = .on) (hq:q.length≤245) :
  Stay f (cellW f q).1 (n+1)∧(∀ a m,512≤a→seg (cellW f q).1.bs a m=seg f.bs a m)∧(cellW f q).2=0∧(cellW f q).1.pw = .on∧CellIs (cellW f q).1.bs 1 q 0:=by
 have hb:=hf.bs
 have hd:=on_up hp
 have hS:∀ v,v<2→seg f.bs (v*256) 256=List.replicate 256 0xff#8:=fun v hv=>hc.sub (by omega) (by omega)
 have hno:∀ v,v<2→copyAt f.bs v=none:=fun v hv=>by
  cases h:copyAt f.bs v with
  | none=>rfl
  | some c =>
   have:=dead_blank (hS v hv) 0 0 (by omega) c (by rw [fillB_zero];exact h)
   omega
 have hfo:foundC f.bs=none:=by unfold foundC;rw [hno 0 (by omega),hno 1 (by omega)]
 rw [cellW_none hq hd hfo]
 obtain ⟨st,so,sc⟩:=cellR_out (to:=0) (k:=0#32) (q:=q) hf hw hd (by omega) hq (by decide)
 have hon:=st.on hp
 refine ⟨st,fun a m hh=>so a m (by omega),?_⟩
 rcases sc with ⟨e1,e2,e3⟩|⟨e1,e2,e3⟩
 ·refine ⟨e1,hon,by omega,⟨_,rfl,e3⟩,?_⟩
  rw [so _ _ (by omega)]
  exact dead_blank (hS 1 (by omega)) _
 ·rw [hon] at e2;cases e2
def HeadOk (S:List (BitVec 8)) (g:Nat):Prop:=(num32 (S.take 4)).toNat≤g∨S[0]?=some 0xff#8∨∀ i,4≤i→i<256→S[i]?=some 0xff#8
def WhOk (l:List (BitVec 8)) (g:Nat):Prop:=∀ s,s<8→HeadOk (seg l ((6+s)*256) 256) g
theorem HeadOk.mono {S:List (BitVec 8)} {g g':Nat} (h:HeadOk S g) (hg:g≤g'):HeadOk S g':=h.imp (fun h=>Nat.le_trans h hg) id
theorem WhOk.mono {l:List (BitVec 8)} {g g':Nat} (h:WhOk l g) (hg:g≤g'):WhOk l g':=fun s hs=>(h s hs).mono hg
theorem WhOk.keep {l l':List (BitVec 8)} {g:Nat} (h:WhOk l g) (e:seg l' 1536 2048=seg l 1536 2048):WhOk l' g:=fun s hs=>by
 have:seg l' ((6+s)*256) 256=seg l ((6+s)*256) 256:=by
  have:=congrArg (fun z=>seg z (s*256) 256) e
  rw [seg_seg (by omega),seg_seg (by omega),show 1536+s*256=(6+s)*256 by omega] at this
  exact this
 rw [this]
 exact h s hs
theorem head_blank {l:List (BitVec 8)} {A g:Nat} (h:Blank l A 256):HeadOk (seg l A 256) g := .inr (.inl (by rw [seg_get,if_pos (by omega),h.at (by omega) (by omega)]))
theorem plW_b {z:Nat} (h1:1≤z) (h2:z≤16):8≤plW z∧plW z≤18∧plW z*(z+13)≤256:=by
 have h3:plW z*(z+13)≤256:=Nat.div_mul_le_self 256 (z+13)
 have h4:8≤plW z:=(Nat.le_div_iff_mul_le (by omega)).2 (by omega)
 have h5:plW z≤18:=by
  have:plW z<19:=(Nat.div_lt_iff_lt_mul (by omega)).2 (by omega)
  omega
 exact ⟨h4,h5,h3⟩
theorem atW_first {z s:Nat} (h:0<plW z):atW z (s*plW z)=(6+s)*256:=by
 unfold atW
 rw [Nat.mul_div_cancel _ h,Nat.mul_mod_left,Nat.zero_mul,Nat.add_zero]
theorem head_off {l:List (BitVec 8)} {g z s:Nat} {g':BitVec 32} (hl:l.length=3584) (h:WhOk l g) (hs:s<8) (hg:g<g'.toNat) (hg2:g'.toNat<4278190080) (h1:1≤z) (h2:z≤16):secOn l g' z s=false:=by
 have hp:=(plW_b h1 h2).1
 unfold secOn recAt
 rw [atW_first (by omega)]
 have hS:=h s hs
 have e:∀ i,i<z+13→(seg l ((6+s)*256) (z+13))[i]?=(seg l ((6+s)*256) 256)[i]?:=fun i hi=>by
  rw [seg_get,seg_get,if_pos hi,if_pos (by omega)]
 have e4:(seg l ((6+s)*256) (z+13)).take 4=(seg l ((6+s)*256) 256).take 4:=by
  rw [←seg_zero,←seg_zero,seg_seg (by omega),seg_seg (by omega)]
 have:recC g' z (seg l ((6+s)*256) (z+13))=none:=by
  unfold recC
  by_cases q1:(seg l ((6+s)*256) (z+13)).getD (z+12) 0#8≠0#8
  ·rw [if_pos q1]
  rw [if_neg q1]
  by_cases q2:crcOk ((seg l ((6+s)*256) (z+13)).take (z+12))=false
  ·rw [if_pos q2]
  rw [if_neg q2,if_pos]
  rw [e4]
  intro hc
  rcases hS with q|q|q
  ·rw [hc] at q
   omega
  ·have hlen:((seg l ((6+s)*256) 256).take 4).length=4:=by rw [List.length_take,seg_len (by omega)];omega
   obtain ⟨a,b,c,d,he⟩:∃ a b c d,(seg l ((6+s)*256) 256).take 4=[a,b,c,d]:=list4 hlen
   have ha:a=0xff#8:=by
    have:((seg l ((6+s)*256) 256).take 4)[0]?=some 0xff#8:=by rw [List.getElem?_take,if_pos (by omega),q]
    rw [he] at this
    simpa using this
   have hn:(num32 ((seg l ((6+s)*256) 256).take 4)).toNat=numN ((seg l ((6+s)*256) 256).take 4):=num32_N _ (by rw [hlen];exact Nat.le_refl _)
   rw [hc,he,ha] at hn
   simp only [numN,List.foldl_cons,List.foldl_nil] at hn
   have:(0xff#8:BitVec 8).toNat=255:=rfl
   omega
  ·refine q1 ?_
   rw [List.getD_eq_getElem?_getD,e _ (by omega),q _ (by omega) (by omega)]
   decide
 rw [this]
 rfl
theorem wh_new {l:List (BitVec 8)} {g z:Nat} {g':BitVec 32} (hl:l.length=3584) (h:WhOk l g) (hg:g<g'.toNat) (hg2:g'.toNat<4278190080) (h1:1≤z) (h2:z≤16):recsW l g' z 8=[]∧rdyW l g' z 8 = -1∧nxtW l g' z=0:=by
 have ho:∀ s,s<8→secOn l g' z s=false:=fun s hs=>head_off hl h hs hg hg2 h1 h2
 have hr:∀ n,n≤8→recsW l g' z n=[]∧rdyW l g' z n = -1:=fun n=>by
  induction n with
  | zero=>intro _;exact ⟨rfl,rfl⟩
  | succ n ih =>
   intro hn
   have e:=ho n (by omega)
   have:=ih (by omega)
   unfold recsW rdyW
   rw [e]
   exact this
 refine ⟨(hr 8 (Nat.le_refl _)).1,(hr 8 (Nat.le_refl _)).2,?_⟩
 unfold nxtW
 rw [(hr 8 (Nat.le_refl _)).2]
 rfl
theorem recB_len (g id:BitVec 32) (d:List (BitVec 8)):(recB g id d).length=d.length+12:=by
 simp [recB,crcPut_len,be4]
theorem recB_take (g id:BitVec 32) (d:List (BitVec 8)):(recB g id d).take 4=be4 g:=by
 unfold recB crcPut
 simp only [List.append_assoc]
 exact List.take_left' (be4_len g)
structure LiveW (l:List (BitVec 8)) (g:BitVec 32) (z:Nat) (rdy:Int) (nxt:Nat):Prop where
 fresh:nxt % plW z=0→rdy≠((nxt / plW z:Nat):Int)
 mid:nxt % plW z≠0→rdy=((nxt / plW z:Nat):Int)∧(num32 (seg l ((6+nxt / plW z)*256) 4)).toNat≤g.toNat
theorem live_new (l:List (BitVec 8)) (g:BitVec 32) (z:Nat):LiveW l g z (-1) 0:=⟨fun _=>by rw [Nat.zero_div];decide,fun h=>absurd (Nat.zero_mod _) h⟩
theorem wh_set {l l':List (BitVec 8)} {s g:Nat} (h:WhOk l g) (hs:s<8) (ho:∀ a m,a+m≤(6+s)*256∨(6+s)*256+256≤a→seg l' a m=seg l a m) (hh:(num32 (seg l' ((6+s)*256) 4)).toNat≤g):WhOk l' g:=fun t ht=>by
 by_cases e:t=s
 ·subst e
  refine .inl ?_
  rw [←seg_zero,seg_seg (by omega),Nat.add_zero]
  exact hh
 ·rw [ho _ _ (by omega)]
  exact h t ht
theorem addW_on {f:Fl} {n nxt z:Nat} {g id:BitVec 32} {rdy:Int} {d:List (BitVec 8)} (hf:Few f n) (hw:n<f.wear) (hp:f.pw = .on) (hz:d.length=z) (h1:1≤z) (h2:z≤16) (hn:nxt<8*plW z) (hL:LiveW f.bs g z rdy nxt) (hW:WhOk f.bs g.toNat) :
  ∃ f',addW f g rdy nxt id d=(f',0)∧Stay f f' (n+1)∧f'.pw = .on∧(∀ a m,a+m≤1536→seg f'.bs a m=seg f.bs a m)∧WhOk f'.bs g.toNat∧LiveW f'.bs g z ((nxt / plW z:Nat):Int) (nxt+1):=by
 have hb:=hf.bs
 obtain ⟨w1,w2,w3⟩:=plW_b h1 h2
 obtain ⟨P,hP⟩:∃ P,plW z=P:=⟨_,rfl⟩
 obtain ⟨s,hs⟩:∃ s,nxt / P=s:=⟨_,rfl⟩
 obtain ⟨j,hj⟩:∃ j,nxt % P=j:=⟨_,rfl⟩
 rw [hP] at w1 w2 w3 hn
 have hdm:P*s+j=nxt:=by rw [←hs,←hj];exact Nat.div_add_mod nxt P
 have hjP:j<P:=by rw [←hj];exact Nat.mod_lt _ (by omega)
 have hs8:s<8:=by rw [←hs];exact (Nat.div_lt_iff_lt_mul (by omega)).2 hn
 obtain ⟨A,hA⟩:∃ A,(6+s)*256=A:=⟨_,rfl⟩
 have hA1:1536≤A∧A+256≤3584:=by omega
 obtain ⟨a,ha⟩:∃ a,A+j*(z+13)=a:=⟨_,rfl⟩
 have hjz:j*(z+13)+(z+13)≤256:=by
  have:(j+1)*(z+13)≤P*(z+13):=Nat.mul_le_mul_right _ hjP
  rw [Nat.succ_mul] at this
  omega
 have hat:atW z nxt=a:=by unfold atW;rw [hP,hs,hj,hA,ha]
 have hjz0:j≠0→13≤j*(z+13):=fun h=>by
  have:1*(z+13)≤j*(z+13):=Nat.mul_le_mul_right _ (by omega)
  omega
 have hfr:=hL.fresh
 have hmi:=hL.mid
 rw [hP,hs,hj] at hfr hmi
 rw [hA] at hmi
 -- the sector,entered
 have hent:∃ f1,entF f rdy s=(f1,0)∧Stay f f1 (n+1)∧f1.pw = .on∧(∀ b m,b+m≤A∨A+256≤b→seg f1.bs b m=seg f.bs b m)∧(j=0→Blank f1.bs A 256)∧(j≠0→f1=f):=by
  unfold entF
  by_cases e:(s:Int)=rdy
  ·rw [if_pos e]
   have hj0:j≠0:=fun e0=>hfr e0 e.symm
   exact ⟨f,rfl,(Stay.refl hf).mono (by omega),hp,fun _ _ _=>rfl,fun h=>absurd h hj0,fun _=>rfl⟩
  ·have hj0:j=0:=by
    by_cases h:j=0
    ·exact h
    ·exact absurd (hmi h).1.symm e
   rw [if_neg e,hA]
   by_cases hbl:blankB (seg f.bs A 256)=true
   ·rw [if_pos hbl]
    exact ⟨f,rfl,(Stay.refl hf).mono (by omega),hp,fun _ _ _=>rfl,fun _=>(blankB_iff (by omega)).1 hbl,fun h=>absurd hj0 h⟩
   ·rw [if_neg hbl]
    obtain ⟨st,ho⟩:=eraseF_out (s:=6+s) hf (by omega) hw (on_up hp)
    rcases ho with ⟨e0,e1,e2⟩|⟨e0,e1,_⟩
    ·rw [hA] at e2
     refine ⟨(eraseF f (6+s)).1,Prod.ext rfl e0,st,st.on hp,fun b m hh=>?_,fun _=>?_,fun h=>absurd hj0 h⟩
     ·rw [e2,seg_fill_out (by omega) (by omega)]
     ·show seg _ _ _=_
      rw [e2,seg_fill_in (by omega) (Nat.le_refl _) (Nat.le_refl _)]
    ·rw [st.on hp] at e1;cases e1
 obtain ⟨f1,q1,s1,p1,o1,b1,k1⟩:=hent
 have hb1:=s1.few.bs
 have hR:(recB g id d).length=z+12:=by rw [recB_len,hz]
 obtain ⟨R,hRe⟩:∃ R,recB g id d=R:=⟨_,rfl⟩
 have hR4:R.take 4=be4 g:=by rw [←hRe];exact recB_take g id d
 rw [hRe] at hR
 obtain ⟨s2,c2⟩:=progF_out (a:=a) (xs:=R) s1.few (by omega) (on_up p1)
 have p2:=s2.on p1
 obtain ⟨⟨f2,v2⟩,hr2⟩:∃ r,progF f1 a R=r:=⟨_,rfl⟩
 rw [hr2] at s2 c2 p2
 dsimp only at s2 c2 p2
 rcases c2 with ⟨v20,_,b2⟩|⟨_,e1,_⟩
 rotate_left
 ·rw [p2] at e1;cases e1
 subst v20
 have hb2:=s2.few.bs
 have hone:([0#8]:List (BitVec 8)).length=1:=rfl
 obtain ⟨s3,c3⟩:=progF_out (a:=a+(z+12)) (xs:=[0#8]) s2.few (by rw [hone];omega) (on_up p2)
 have p3:=s3.on p2
 obtain ⟨⟨f3,v3⟩,hr3⟩:∃ r,progF f2 (a+(z+12)) [0#8]=r:=⟨_,rfl⟩
 rw [hr3] at s3 c3 p3
 dsimp only at s3 c3 p3
 rcases c3 with ⟨v30,_,b3⟩|⟨_,e1,_⟩
 rotate_left
 ·rw [p3] at e1;cases e1
 subst v30
 have hadd:addW f g rdy nxt id d=(f3,0):=by
  unfold addW
  rw [hz,hP,if_neg (by omega),hs,hat,hp]
  simp only [q1,hRe,hr2,hr3]
  rfl
 have o3:∀ b m,b+m≤A∨A+256≤b→seg f3.bs b m=seg f.bs b m:=fun b m hh=>by
  rw [b3,seg_prog_out (by rw [hone];omega) (by rw [hone];omega),b2,seg_prog_out (by omega) (by omega),o1 b m hh]
 have hhead:(num32 (seg f3.bs A 4)).toNat≤g.toNat:=by
  rw [b3,seg_prog_out (by rw [hone];omega) (.inl (by omega)),b2]
  by_cases hj0:j=0
  ·have ha0:a=A:=by rw [←ha,hj0,Nat.zero_mul,Nat.add_zero]
   have hbl:=b1 hj0
   have:seg (progB f1.bs a R) A 4=be4 g:=by
    rw [ha0]
    have e:=seg_prog_blank (l:=f1.bs) (xs:=R) (a:=A) (by omega) (hbl.sub (Nat.le_refl _) (by omega))
    have e2:=congrArg (fun x=>x.take 4) e
    rw [←hR4]
    rw [←e2,←seg_zero,seg_seg (by omega),Nat.add_zero]
   rw [this,num32_be4]
   exact Nat.le_refl _
  ·rw [seg_prog_out (by omega) (.inl (by have:=hjz0 hj0;omega)),k1 hj0]
   exact (hmi hj0).2
 refine ⟨f3,hadd,((s1.trans s2).trans s3),p3,fun b m hh=>o3 b m (by omega),wh_set hW hs8 (by rw [hA];exact o3) (by rw [hA];exact hhead),?_⟩
 rw [hP,hs]
 have hnx:(nxt+1) / P=(if j+1=P then s+1 else s)∧(nxt+1) % P=(if j+1=P then 0 else j+1):=by
  by_cases e:j+1=P
  ·rw [if_pos e,if_pos e]
   have:nxt+1=P*(s+1):=by rw [Nat.mul_add,Nat.mul_one];omega
   rw [this,Nat.mul_div_cancel_left _ (by omega),Nat.mul_mod_right]
   exact ⟨rfl,rfl⟩
  ·rw [if_neg e,if_neg e]
   have:nxt+1=(j+1)+P*s:=by omega
   rw [this,Nat.add_mul_div_left _ _ (by omega),Nat.add_mul_mod_self_left,Nat.div_eq_of_lt (by omega),Nat.mod_eq_of_lt (by omega)]
   exact ⟨by omega,rfl⟩
 constructor
 ·rw [hP,hnx.1,hnx.2]
  intro h
  by_cases e:j+1=P
  ·rw [if_pos e];omega
  ·rw [if_neg e] at h;omega
 ·rw [hP,hnx.1,hnx.2]
  intro h
  by_cases e:j+1=P
  ·rw [if_pos e] at h;exact absurd rfl h
  ·rw [if_neg e,hA]
   exact ⟨rfl,hhead⟩
open Go.RowKit Go.Proofs
theorem slots_len {x:StD} (h:x.may=true):((x.s0.nothing=false∧x.s0.h.l.length=32)∨(x.s0.nothing=true∧x.s0.h.l.length=0))∧((x.s1.nothing=false∧x.s1.h.l.length=32)∨(x.s1.nothing=true∧x.s1.h.l.length=0)):=by
 have k1:∀ s:SlotD,s.something=true→s.nothing=false∧s.h.l.length=32:=fun s h=>by
  simp only [SlotD.something,decide_eq_true_eq] at h
  exact ⟨decide_eq_false (by omega),h.1⟩
 have k2:∀ s:SlotD,s.nothing=true→s.h.l.length=0:=fun s h=>by simp only [SlotD.nothing,decide_eq_true_eq] at h;exact h.2.2
 simp only [StD.may,Bool.and_eq_true,Bool.or_eq_true,decide_eq_true_eq] at h
 have hc:=h.1.1.2
 have ho:((x.oth.nothing=false∧x.oth.h.l.length=32)∨(x.oth.nothing=true∧x.oth.h.l.length=0)):=by
  rcases h.1.2 with h|h
  ·exact .inl (k1 _ h)
  ·exact .inr ⟨h.1,k2 _ h.1⟩
 have hc:=k1 _ hc
 unfold StD.cur at hc
 unfold StD.oth at ho
 by_cases ha:x.a=0
 ·rw [if_pos ha] at hc ho;exact ⟨.inl hc,ho⟩
 ·rw [if_neg ha] at hc ho;exact ⟨ho,.inl hc⟩
theorem slot_len_yes {x:SlotD} (h:x.nothing=false) (hl:x.h.l.length=32):x.by.length=39:=by
 rw [slot_by_yes h];simp [be4,be2,hl]
theorem slot_len_no {x:SlotD} (h:x.nothing=true):x.by.length=1:=by rw [slot_by_no h];rfl
theorem tail_len_on {x:StD} (h:x.may=true) (ho:x.on=true):x.tail.length=45:=by
 have hm:=(may_iff.1 h).m
 rw [if_pos ho] at hm
 rw [StD.tail,if_pos ho,List.length_cons,by_len,may_len hm]
theorem tail_len_off {x:StD} (ho:x.on=false):x.tail.length=1:=by rw [StD.tail,if_neg (by simp [ho])];rfl
theorem by_len4 (x:StD):x.by.length=10+x.s0.by.length+x.s1.by.length+x.tail.length:=by
 rw [StD.by,List.length_append,List.length_append,List.length_append,head_len]
theorem by_245 {x:StD} (h:x.may=true):x.by.length≤245:=by
 obtain ⟨k0,k1⟩:=slots_len h
 rw [by_len4]
 have t:x.tail.length≤45:=by
  cases ho:x.on
  ·rw [tail_len_off ho];omega
  ·rw [tail_len_on h ho];omega
 have w0:x.s0.by.length≤39:=by
  rcases k0 with ⟨a,b⟩|⟨a,b⟩
  ·rw [slot_len_yes a b];omega
  ·rw [slot_len_no a];omega
 have w1:x.s1.by.length≤39:=by
  rcases k1 with ⟨a,b⟩|⟨a,b⟩
  ·rw [slot_len_yes a b];omega
  ·rw [slot_len_no a];omega
 omega
def rtD26_0:List Row:=[⟨some 24,[],[],none⟩,⟨some 25,[0],[0],none⟩,⟨some 26,[1],[0,1],none⟩,⟨some 27,[],[],none⟩,⟨some 28,[],[],none⟩,⟨some 29,[3,4],[3,4],none⟩,⟨some 30,[5],[3,4,5],none⟩,⟨some 31,[2,6],[0,1,2,3,4,5,6],none⟩]
theorem cl_Write (H:List Hl) (b:Nat) (ad:Option Addr) (c:Nat) (f:Fl) (h:Hid) (ad2:Option Addr) (c2:Nat) (q:List (BitVec 8)) (hk:FlOk f h) (hq:Rs (stars H) B ad2 c2 q) (hn:q.length≤245) (hd:f.pw.isDown=false) :
  Spec Tryz.prog 68 [.pointer (some ⟨b,0,none⟩),.slice ad2 q.length c2] (fB b ad c f h::fR ad c f::H) (fun h':Hid=>FlOk (cellW f q).1 h') (fun _=>I (cellW f q).2) (fun h'=>fB b ad c (cellW f q).1 h'::fR ad c (cellW f q).1::H):=by
 cases hf:foundC f.bs with
 | none =>
  obtain ⟨h0,h1⟩:=foundC_no hf
  rw [cellW_none hn hd hf]
  exact cl_Write_none H b ad c f h ad2 c2 q hk hq hn hd h0 h1
 | some x =>
  obtain ⟨⟨k,r⟩,w⟩:=x
  obtain ⟨_,hw⟩:=foundC_copy hf
  rw [cellW_some hn hd hf]
  rcases (by omega:w=0∨w=1) with rfl|rfl
  ·rw [if_pos rfl];exact cl_Write_0 H b ad c f h ad2 c2 q k r hk hq hn hd hf
  ·rw [if_neg (by decide)];exact cl_Write_1 H b ad c f h ad2 c2 q k r hk hq hn hd hf
theorem xf_loadp:XFn Tryz.prog 69 (Extern.Atomic.loadT .ptr):=⟨by kernel_rfl,by kernel_rfl⟩
theorem xf_storep:XFn Tryz.prog 99 Extern.Atomic.storeT:=⟨by kernel_rfl,by kernel_rfl⟩
theorem u_mem:Tryz.prog.underlying 70=some (.pointer 84):=by kernel_rfl
theorem u_uns:Tryz.prog.underlying 74=some .unsafePointer:=by kernel_rfl
theorem lies_mem:liesAt Tryz.prog Tryz.prog.depth 84 (18 / Tryz.prog.cellsOf 84) 0 84 1=true:=by kernel_rfl
theorem dp_Load (H H1 H2:List Hl) (db i:Nat) (T:TypeId) (cs:List Value) (mb:Nat) (ms:List Value) [s1:SBox H db T cs H1] [s2:SBox H mb 84 ms H2] (hv:cs[i]?=some (.pointer (some ⟨mb,0,none⟩))) (hl:ms.length=18) :
  Spec Tryz.prog 33 [.pointer (some ⟨db,i,none⟩)] H (fun _:Unit=>True) (fun _ => .pointer (some ⟨mb,0,none⟩)) (fun _=>H):=by
 refine spec_of _ Tryz.func33 rfl Tryz.ntmps33 (by kernel_rfl) rfl (fun W=>?_)
 repeat' (first|intro _|refine cw ?_|refine cw2 ?_ ?_|refine ow ?_|refine ow2 ?_ ?_|fail)
 refine o1_xloadp xf_loadp rfl hv ?_
 repeat' (first|intro _|refine cw ?_|refine cw2 ?_ ?_|refine ow ?_|refine ow2 ?_ ?_|fail)
 refine o1_from_unsafe u_uns u_mem (by kernel_rfl) rfl (by rw [hl];exact lies_mem) ?_
 repeat' (first|intro _|refine cw ?_|refine cw2 ?_ ?_|refine ow ?_|refine ow2 ?_ ?_|fail)
 exact rt_tmp () rfl rfl rfl trivial (Ent.refl _)
theorem dp_Store (H H1 H2:List Hl) (db i:Nat) (T:TypeId) (cs:List Value) (mb:Nat) (ms:List Value) [s1:SBox H db T cs H1] [s2:SBox H mb 84 ms H2] (hi:i<cs.length) (hm:0<ms.length) :
  Spec Tryz.prog 50 [.pointer (some ⟨db,i,none⟩),.pointer (some ⟨mb,0,none⟩)] H (fun _:Unit=>True) (fun _ => .tuple #[]) (fun _ => .box db T (cs.set i (.pointer (some ⟨mb,0,none⟩)))::H1):=by
 refine spec_of _ Tryz.func50 rfl Tryz.ntmps50 (by kernel_rfl) rfl (fun W=>?_)
 repeat' (first|intro _|refine cw ?_|refine cw2 ?_ ?_|refine ow ?_|refine ow2 ?_ ?_|fail)
 refine o1_to_unsafe u_mem u_uns (by kernel_rfl) rfl (List.getElem?_eq_getElem hm) ?_
 repeat' (first|intro _|refine cw ?_|refine cw2 ?_ ?_|refine ow ?_|refine ow2 ?_ ?_|fail)
 refine o1_xstorep xf_storep rfl hi ?_
 repeat' (first|intro _|refine cw ?_|refine cw2 ?_ ?_|refine ow ?_|refine ow2 ?_ ?_|fail)
 exact rt_none () rfl rfl trivial (Ent.refl _)
abbrev dvB (db fb:Nat) (ka:Option Addr) (kn kc:Nat) (mp:Option Addr):Hl := .box db 78 [.slice ka kn kc,.pointer (some ⟨fb,0,none⟩),.pointer mp]
abbrev pM (mb:Nat):Option Addr:=some ⟨mb,0,none⟩
abbrev meB (mb:Nat) (x:StD) (lp:Option Addr):Hl := .box mb 84 [I x.a,I x.t,W4 x.f,W4 x.g,W4 x.s0.v,I x.s0.n,Bs x.s0.h,W4 x.s1.v,I x.s1.n,Bs x.s1.h,.bool x.on,W4 x.m.s,W4 x.m.v,I x.m.n,I x.m.z,I x.m.p,Bs x.m.h,.pointer lp]
theorem dv_Store (H:List Hl) (db fb:Nat) (ka:Option Addr) (kn kc:Nat) (mp:Option Addr) (mb:Nat) (x:StD) (lp:Option Addr) :
  Spec Tryz.prog 50 [.pointer (some ⟨db,2,none⟩),.pointer (some ⟨mb,0,none⟩)] (dvB db fb ka kn kc mp::meB mb x lp::H) (fun _:Unit=>True) (fun _ => .tuple #[]) (fun _=>dvB db fb ka kn kc (pM mb)::meB mb x lp::H) :=
 dp_Store _ (meB mb x lp::H) (dvB db fb ka kn kc mp::H) db 2 78 [.slice ka kn kc,.pointer (some ⟨fb,0,none⟩),.pointer mp] mb _ (by simp) (by simp)
theorem dv_Load (H:List Hl) (db fb:Nat) (ka:Option Addr) (kn kc:Nat) (mb:Nat) (x:StD) (lp:Option Addr) :
  Spec Tryz.prog 33 [.pointer (some ⟨db,2,none⟩)] (dvB db fb ka kn kc (pM mb)::meB mb x lp::H) (fun _:Unit=>True) (fun _ => .pointer (some ⟨mb,0,none⟩)) (fun _=>dvB db fb ka kn kc (pM mb)::meB mb x lp::H) :=
 dp_Load _ (meB mb x lp::H) (dvB db fb ka kn kc (pM mb)::H) db 2 78 [.slice ka kn kc,.pointer (some ⟨fb,0,none⟩),.pointer (pM mb)] mb _ rfl rfl
section
variable {P:Program} {n:Nat} {H:List Hl} {e:Ev} {C:Value→List Hl→Prop} {ty:TypeId}
theorem o1_call_bb (b b2:Nat) {f:FuncId} {xs:List Operand} {args:List Value} {ats:Array TypeId} {X:Type} {good:X→Prop} {val:X→Value} {res:X→List Hl} {T T2:TypeId} {cs cs2:List Value} {H' H2:List Hl} [s:SBox H b T cs H'] [s2:SBox H' b2 T2 cs2 H2]
  (hs:Has (.box b T cs :: .box b2 T2 cs2::H2)→Spec P f args (.box b T cs :: .box b2 T2 cs2::H2) good val res) (hxs:opds e xs=some args) (h:∀ r,good r→C (val r) (res r)):O1 P (.call ⟨.value (.func f),xs.toArray,ats⟩) ty n e H C :=
 O1.ent (H2 := .box b T cs :: .box b2 T2 cs2::H2) (fun h hh=>sep_mono (s.s.out h hh) (fun _ a=>a) (s2.s.out)) (o1_call hs hxs h)
end
theorem dv_met (H:List Hl) (db fb:Nat) (ka:Option Addr) (kn kc:Nat) (mp:Option Addr) (e:Int) (he:e≠11) :
  Spec Tryz.prog 35 [.pointer (some ⟨db,0,none⟩),I e] (dvB db fb ka kn kc mp::H) (fun _:Unit=>True) (fun _=>I e) (fun _=>dvB db fb ka kn kc mp::H):=by
 refine spec_fn (res:=fun _:Unit=>[dvB db fb ka kn kc mp]) [dvB db fb ka kn kc mp] H Tryz.func35 rfl Tryz.ntmps35 (by kernel_rfl) rfl (fun W=>?_)
 dsimp only [List.cons_append,List.nil_append]
 repeat' (first|intro _|refine cw ?_|refine cw2 ?_ ?_|(refine k_binOp .eql ?_;refine o1_eql_f rfl rfl he ?_)|refine ow ?_|refine ow2 ?_ ?_|fail)
 refine rt_tmp () rfl rfl rfl trivial ?_
 exact ent
set_option maxHeartbeats 4000000 in
theorem dv_keeps (H:List Hl) (db fb:Nat) (ka:Option Addr) (kn kc:Nat) (mp:Option Addr) (ad:Option Addr) (c:Nat) (f f1:Fl) (h:Hid) (x:StD) (lp:Option Addr) (hm:x.may=true) (hx:x.Rd (stars H)) (hk:FlOk f h) (hd:f.pw.isDown=false) (hW:cellW f x.by=(f1,0)) :
  Spec Tryz.prog 32 [.pointer (some ⟨db,0,none⟩),x.V,.pointer lp] (dvB db fb ka kn kc mp::fB fb ad c f h::fR ad c f::H) (fun r:Hid × Nat=>FlOk f1 r.1) (fun _=>I 0) (fun r=>dvB db fb ka kn kc (pM r.2)::fB fb ad c f1 r.1::fR ad c f1::meB r.2 x lp::H):=by
 refine spec_fn (res:=fun r:Hid × Nat=>[dvB db fb ka kn kc (pM r.2),fB fb ad c f1 r.1,fR ad c f1,meB r.2 x lp]) [dvB db fb ka kn kc mp,fB fb ad c f h,fR ad c f] H Tryz.func32 rfl Tryz.ntmps32 (by kernel_rfl) rfl (fun W=>?_)
 dsimp only [List.cons_append,List.nil_append]
 have hql:=by_245 hm
 obtain ⟨q,hq⟩:∃ q,x.by=q:=⟨_,rfl⟩
 rw [hq] at hql hW
 repeat' (first|intro _|refine cw ?_|refine cw2 ?_ ?_|(refine k_box ?_;refine o1_box rfl rfl (fun b4=>?_))|(refine k_fn 67 ?_;(refine o1_call (fun _=>st_Bytes _ x hm ⟨hx.s0.up,hx.s1.up,hx.m.up⟩) rfl (fun ⟨a11,c11⟩ _=>?_);(try dsimp only);rw [hq]))|(refine k_load ?_;refine ox_load (b:=db) (i:=1) rfl rfl ?_)|(refine k_fn 68 ?_;(refine o1_call_fl fb ad c (fun hh=>cl_Write _ fb ad c f h a11 c11 q hk (rx_row (has_tail (has_tail hh))) hql hd) rfl (fun h1 hk1=>?_);(rw [hW] at hk1 ⊢;dsimp only at hk1 ⊢)))|refine ow ?_|refine ow2 ?_ ?_|fail)
 refine st_stages' [(0,_),(4,_),(2,_)] rtD26_0 [6,7] [⟨[0,1,2,3,4,5],[],some 6⟩,⟨[],[0,1,2],some 7⟩,⟨[],[],none⟩] mixed cv (by kernel_rfl) (by kernel_rfl) ?_
 repeat' (first|intro _|refine sg ?_|refine pw ?_|refine pdd ?_|(refine k_box ?_;refine o1_box rfl rfl (fun mb=>?_))|(refine k_fn 50 ?_;refine o1_call_bb db mb (fun _=>dv_Store _ db fb ka kn kc mp mb x lp) rfl (fun _ _=>?_))|refine ow ?_|fail)
 all_goals dsimp only [List.cons_append,List.nil_append]
 repeat' (first|intro _|refine cw ?_|refine cw2 ?_ ?_|refine ow ?_|refine ow2 ?_ ?_|fail)
 refine rt_tmp (h1,mb) rfl rfl rfl hk1 ?_
 exact ent
def rtF3_0:List Row:=[⟨some 29,[],[],none⟩,⟨some 30,[0],[0],none⟩,⟨some 31,[],[],none⟩,⟨some 32,[2],[2],none⟩,⟨some 33,[],[],none⟩,⟨some 34,[4],[4],none⟩,⟨some 35,[],[],none⟩,⟨some 36,[6],[6],none⟩,⟨some 37,[7],[6,7],none⟩,⟨some 38,[3,5,8],[2,3,4,5,6,7,8],none⟩,⟨some 39,[],[],none⟩,⟨some 40,[10,1,0,1,2,3,4,5,6,7,8,9],[0,1,2,3,4,5,6,7,8,9,10],none⟩,⟨none,[11,9,8,0,1,2,3,4,5,6,7,8,9],[0,1,2,3,4,5,6,7,8,9,10,11],none⟩]
def rtF3_1:List Row:=[⟨some 29,[],[],none⟩,⟨some 30,[0],[0],none⟩,⟨some 31,[],[],none⟩,⟨some 32,[2],[2],none⟩,⟨some 33,[],[],none⟩,⟨some 34,[4],[4],none⟩,⟨some 35,[],[],none⟩,⟨some 36,[6],[6],none⟩,⟨some 37,[7],[6,7],none⟩,⟨some 38,[3,5,8],[2,3,4,5,6,7,8],none⟩,⟨some 39,[],[],none⟩,⟨some 40,[10,1,0,1,2,3,4,5,6,7,8,9],[0,1,2,3,4,5,6,7,8,9,10],none⟩,⟨none,[11,9,8,0,1,2,3,4,5,6,7,8,9],[0,1,2,3,4,5,6,7,8,9,10,11],none⟩]
theorem act_0 {t:Int} {f g:BitVec 32} {s0 s1:SlotD} {on:Bool} {m:ManD}:actS ⟨0,t,f,g,s0,s1,on,m⟩=⟨1,3,f,g,s0,⟨m.v,m.n,m.h⟩,false,zM⟩:=by simp [actS,newSl]
theorem act_1 {t:Int} {f g:BitVec 32} {s0 s1:SlotD} {on:Bool} {m:ManD}:actS ⟨1,t,f,g,s0,s1,on,m⟩=⟨0,3,f,g,⟨m.v,m.n,m.h⟩,s1,false,zM⟩:=by simp [actS,newSl]
set_option maxHeartbeats 4000000 in
theorem bt_Activate (H:List Hl) (x:StD) (hx:x.Rd (stars H)) (hm:x.may=true) (ho:x.on=true) (ht:x.t=0) :
  Spec Tryz.prog 126 [x.V] H (fun _:PA × PA=>True) (fun r => .tuple #[(copyS (actS x) r.1 r.2 (none,0)).V,I 0]) (fun r=>rowL r.1 (actS x).s0.h.l::rowL r.2 (actS x).s1.h.l::H):=by
 have e0:=hx.s0
 have e1:=hx.s1
 have e2:=hx.m
 have hl:=may_light hm
 obtain ⟨ha,_,_,_,_⟩:=may_iff.1 hm
 obtain ⟨a,t,f,g,s0,s1,on,m⟩:=x
 dsimp only at ha ht ho e0 e1 e2
 have hl2:m.h.l.length≤100:=hl.2.2
 subst ho ht
 rcases ha with rfl|rfl
 ·rw [act_0]
  refine spec_pure (res:=fun r:PA × PA=>[rowL r.1 s0.h.l,rowL r.2 m.h.l]) H Tryz.func126 rfl Tryz.ntmps126 (by kernel_rfl) rfl (fun W=>?_)
  dsimp only [StD.V,StD.c]
  repeat' (first|intro _|refine cw ?_|refine cw2 ?_ ?_|(refine k_fn 97 ?_;refine o1_call (fun _=>(st_May _ ⟨_,_,f,g,s0,s1,_,m⟩).bv (b:=true) hm) rfl (fun _ _=>?_))|(refine k_fn 125 ?_;(refine o1_call (fun _=>bt_Drop _ ⟨_,_,f,g,s0,s1,_,m⟩ ⟨Rs.up e0,Rs.up e1,Rs.up e2⟩ hm) rfl (fun ⟨r0,r1⟩ _=>?_);dsimp only [StD.V,StD.c,dropS]))|refine ow ?_|refine ow2 ?_ ?_|fail)
  refine st_stages' [(1,_),(4,_)] rtF3_0 [8,12] [⟨[0,1,2,3,4,5,6,7,10],[],some 8⟩,⟨[9,11],[0,1,2,3,4,5,10],some 12⟩,⟨[],[],none⟩] mixed cv (by kernel_rfl) (by kernel_rfl) ?_
  repeat' (first|intro _|refine sg ?_|(refine p_indexAddr ?_;refine po (by first|refine ox_idx_arr 1 7 rfl rfl rfl (by decide) rfl fz|fail) ?_)|refine pw ?_|refine pdd ?_|(refine k_fn 29 ?_;(refine o1_call (fun _=>slices_Clone _ _ _ m.h.l (Rs.up e2) (by omega)) rfl (fun ⟨a5,c5⟩ _=>?_);dsimp only))|refine ow ?_|fail)
  all_goals dsimp only [List.cons_append,List.nil_append]
  repeat' (first|intro _|refine cw ?_|refine cw2 ?_ ?_|refine ow ?_|refine ow2 ?_ ?_|fail)
  refine rt_cell_tmp (r0,(a5,c5)) rfl rfl rfl rfl rfl trivial ?_
  exact ent
 ·rw [act_1]
  refine spec_pure (res:=fun r:PA × PA=>[rowL r.1 m.h.l,rowL r.2 s1.h.l]) H Tryz.func126 rfl Tryz.ntmps126 (by kernel_rfl) rfl (fun W=>?_)
  dsimp only [StD.V,StD.c]
  repeat' (first|intro _|refine cw ?_|refine cw2 ?_ ?_|(refine k_fn 97 ?_;refine o1_call (fun _=>(st_May _ ⟨_,_,f,g,s0,s1,_,m⟩).bv (b:=true) hm) rfl (fun _ _=>?_))|(refine k_fn 125 ?_;(refine o1_call (fun _=>bt_Drop _ ⟨_,_,f,g,s0,s1,_,m⟩ ⟨Rs.up e0,Rs.up e1,Rs.up e2⟩ hm) rfl (fun ⟨r0,r1⟩ _=>?_);dsimp only [StD.V,StD.c,dropS]))|refine ow ?_|refine ow2 ?_ ?_|fail)
  refine st_stages' [(1,_),(4,_)] rtF3_1 [8,12] [⟨[0,1,2,3,4,5,6,7,10],[],some 8⟩,⟨[9,11],[0,1,2,3,4,5,10],some 12⟩,⟨[],[],none⟩] mixed cv (by kernel_rfl) (by kernel_rfl) ?_
  repeat' (first|intro _|refine sg ?_|(refine p_indexAddr ?_;refine po (by first|refine ox_idx_arr 0 4 rfl rfl rfl (by decide) rfl fz|fail) ?_)|refine pw ?_|refine pdd ?_|(refine k_fn 29 ?_;(refine o1_call (fun _=>slices_Clone _ _ _ m.h.l (Rs.up e2) (by omega)) rfl (fun ⟨a5,c5⟩ _=>?_);dsimp only))|refine ow ?_|fail)
  all_goals dsimp only [List.cons_append,List.nil_append]
  repeat' (first|intro _|refine cw ?_|refine cw2 ?_ ?_|refine ow ?_|refine ow2 ?_ ?_|fail)
  refine rt_cell_tmp ((a5,c5),r1) rfl rfl rfl rfl rfl trivial ?_
  exact ent
open Go.RowKit Go.Proofs Sha
def rtD27_1:List Row:=[⟨some 7,[],[],none⟩,⟨some 8,[0],[0],none⟩,⟨some 9,[1],[0,1],none⟩,⟨some 10,[],[],none⟩,⟨some 11,[3],[3],none⟩,⟨some 12,[4],[3,4],none⟩,⟨some 13,[2,5],[0,1,2,3,4,5],none⟩]
def rtD27_2:List Row:=[⟨some 18,[],[],none⟩,⟨some 19,[0],[0],none⟩,⟨some 20,[1],[0,1],none⟩,⟨some 21,[2],[0,1,2],none⟩,⟨some 22,[],[],none⟩,⟨some 23,[4],[4],none⟩,⟨some 24,[],[],none⟩,⟨some 25,[6],[6],none⟩,⟨some 26,[3,5,7],[0,1,2,3,4,5,6,7],none⟩,⟨some 17,[8],[0,1,2,3,4,5,6,7,8],none⟩,⟨some 27,[9],[0,1,2,3,4,5,6,7,8,9],none⟩,⟨some 28,[9],[0,1,2,3,4,5,6,7,8,9],none⟩,⟨some 5,[10,8,0,1,2,3,4,5,6,7,8,9,10],[0,1,2,3,4,5,6,7,8,9,10],none⟩,⟨some 6,[11,12,0,1,2,3,4,5,6,7,8,9,10,11,12],[0,1,2,3,4,5,6,7,8,9,10,11,12],none⟩]
def rtD27_3:List Row:=[⟨some 31,[],[],none⟩,⟨some 32,[0],[0],none⟩,⟨some 33,[1],[0,1],none⟩,⟨some 34,[],[],none⟩,⟨some 35,[],[],none⟩,⟨some 36,[3,4],[3,4],none⟩,⟨some 37,[5],[3,4,5],none⟩,⟨some 38,[2,6],[0,1,2,3,4,5,6],none⟩]
def rtD27_4:List Row:=[⟨some 22,[],[],none⟩,⟨some 23,[0],[0],none⟩,⟨some 24,[],[],none⟩,⟨some 25,[2],[2],none⟩,⟨some 26,[3],[2,3],none⟩,⟨some 27,[4],[2,3,4],none⟩,⟨some 28,[5],[2,3,4,5],none⟩,⟨some 29,[6],[2,3,4,5,6],none⟩,⟨some 30,[1,7,1],[0,1,2,3,4,5,6,7],none⟩,⟨some 31,[8],[0,1,2,3,4,5,6,7,8],none⟩]
def rtD27_5:List Row:=[⟨some 42,[],[],none⟩,⟨some 43,[0],[0],none⟩,⟨some 44,[1],[0,1],none⟩,⟨some 45,[2],[0,1,2],none⟩,⟨some 46,[],[],none⟩,⟨some 47,[4],[4],none⟩,⟨some 48,[5],[4,5],none⟩,⟨some 49,[6],[4,5,6],none⟩,⟨some 50,[7],[4,5,6,7],none⟩,⟨some 51,[8],[4,5,6,7,8],none⟩,⟨some 52,[],[],none⟩,⟨some 53,[3,9,10],[0,1,2,3,4,5,6,7,8,9,10],none⟩,⟨some 7,[11,11,0,1,2,3,4,5,6,7,8,9,10,11],[0,1,2,3,4,5,6,7,8,9,10,11],none⟩]
theorem sl_Write (H:List Hl) (b:Nat) (ad:Option Addr) (c:Nat) (f:Fl) (h:Hid) (s:Nat) (ad2:Option Addr) (c2:Nat) (x:List (BitVec 8)) (hs:s<2) (hk:FlOk f h) (hx:Rs (stars H) B ad2 c2 x) (hx1:1≤x.length) (hx2:x.length≤512) (hd:f.pw.isDown=false) :
  Spec Tryz.prog 31 [.pointer (some ⟨b,0,none⟩),I s,.slice ad2 x.length c2] (fB b ad c f h::fR ad c f::H) (fun h':Hid=>FlOk (slotW f s x).1 h') (fun _=>I (slotW f s x).2) (fun h'=>fB b ad c (slotW f s x).1 h'::fR ad c (slotW f s x).1::H):=by
 rcases (by omega:s=0∨s=1) with rfl|rfl
 ·exact sl_Write_0 H b ad c f h ad2 c2 x hk hx hx1 hx2 hd
 ·exact sl_Write_1 H b ad c f h ad2 c2 x hk hx hx1 hx2 hd
structure IsP (m:ManD) (p:Prm) (len:Nat):Prop where
 ok:p.ok
 es:m.s=p.s
 en:m.n=len
 ez:m.z=p.z
 ep:m.p=p.p
 ec:count len p.z=p.k
set_option maxHeartbeats 4000000 in
theorem dv_opens (H:List Hl) (db fb:Nat) (ka:Option Addr) (kn kc:Nat) (mp:Option Addr) (ad:Option Addr) (c:Nat) (f:Fl) (x:StD) (p:Prm) (len:Nat) (V:BitVec 32→List Bool) (ho:x.on=true) (hp:IsP x.m p len) (hf:RdFl (stars H) fb ad c f) (hd:f.pw.isDown=false) (ht:TabF (stars H)) (hV:∀ r∈recsW f.bs x.g p.z 8,SpRow p r.1 (V r.1)) :
  Spec Tryz.prog 75 [.pointer (some ⟨db,0,none⟩),x.V] (dvB db fb ka kn kc mp::H) (fun _:Nat × Nat=>True) (fun _=>I 0) (fun r=>dvB db fb ka kn kc (pM r.1)::meB r.1 x (some ⟨r.2,0,none⟩) :: .any (stP (openS p x.g len V f.bs) fb r.2)::H):=by
 refine spec_fn (res:=fun r:Nat × Nat=>[dvB db fb ka kn kc (pM r.1),meB r.1 x (some ⟨r.2,0,none⟩),.any (stP (openS p x.g len V f.bs) fb r.2)]) [dvB db fb ka kn kc mp] H Tryz.func75 rfl Tryz.ntmps75 (by kernel_rfl) rfl (fun W=>?_)
 dsimp only [List.cons_append,List.nil_append]
 repeat' (first|intro _|refine cw ?_|refine cw2 ?_ ?_|(refine k_box ?_;refine o1_box rfl rfl (fun b3=>?_))|refine ow ?_|refine ow2 ?_ ?_|fail)
 refine st_stages' [(0,_),(3,_)] rtD27_1 [5,6] [⟨[0,1,2,3,4],[],some 5⟩,⟨[],[0,1,2],some 6⟩,⟨[],[],none⟩] mixed cv (by kernel_rfl) (by kernel_rfl) ?_
 repeat' (first|intro _|refine sg ?_|refine pw ?_|refine pdd ?_|(refine k_box ?_;refine o1_box rfl rfl (fun mb=>?_))|(refine k_fn 50 ?_;refine o1_call_bb db mb (fun _=>dv_Store _ db fb ka kn kc mp mb x none) rfl (fun _ _=>?_))|refine ow ?_|fail)
 all_goals dsimp only [List.cons_append,List.nil_append]
 repeat' (first|intro _|refine cw ?_|refine cw2 ?_ ?_|(refine k_load ?_;(refine ox_load (b:=b3) (i:=10) rfl rfl ?_;rw [ho]))|refine ow ?_|refine ow2 ?_ ?_|fail)
 refine st_stages' [(0,_),(3,_)] rtD27_2 [8] [⟨[0,1,2,3,4,5,6,7],[],some 8⟩,⟨[9,10,11,12,13],[],none⟩] mixed cv (by kernel_rfl) (by kernel_rfl) ?_
 repeat' (first|intro _|refine sg ?_|(refine p_load ?_;refine po (by first|refine ox_load (b:=db) (i:=1) rfl rfl fz|refine ox_load (b:=b3) (i:=3) rfl rfl fz|fail) ?_)|refine pw ?_|refine pdd ?_|(refine k_fn 119 ?_;(refine o1_call (fun _=>so_Open _ fb x.m p x.g len V ad c f hp.ok hp.es hp.en hp.ez hp.ep hp.ec hf.up hd ht.up hV) rfl (fun sb _=>?_);(try dsimp only)))|refine ow ?_|fail)
 all_goals dsimp only [List.cons_append,List.nil_append]
 repeat' (first|intro _|refine cw ?_|refine cw2 ?_ ?_|refine ow ?_|refine ow2 ?_ ?_|fail)
 refine st_stages' [(0,_),(3,_),(5,_)] rtD27_3 [6,7] [⟨[0,1,2,3,4,5],[],some 6⟩,⟨[],[0,1,2],some 7⟩,⟨[],[],none⟩] mixed cv (by kernel_rfl) (by kernel_rfl) ?_
 repeat' (first|intro _|refine sg ?_|refine pw ?_|refine pdd ?_|(refine k_box ?_;refine o1_box rfl rfl (fun mb2=>?_))|(refine k_fn 50 ?_;refine o1_call_bb db mb2 (fun _=>dv_Store _ db fb ka kn kc (pM mb) mb2 x (some ⟨sb,0,none⟩)) rfl (fun _ _=>?_))|refine ow ?_|fail)
 all_goals dsimp only [List.cons_append,List.nil_append]
 repeat' (first|intro _|refine cw ?_|refine cw2 ?_ ?_|refine ow ?_|refine ow2 ?_ ?_|fail)
 refine rt_tmp (mb2,sb) rfl rfl rfl trivial ?_
 exact ent
def finF (f:Fl) (x:StD) (im:List (BitVec 8)):Fl × Int:=if (slotW f (1 - x.a).toNat im).2≠0 then slotW f (1 - x.a).toNat im else cellW (slotW f (1 - x.a).toNat im).1 (actS x).by
theorem slotW_ok {f:Fl} {s:Nat} {x:List (BitVec 8)} (h:(slotW f s x).2=0):(slotW f s x).1.pw.isDown=false:=by
 cases hd:f.pw.isDown
 ·rw [slotW_up hd] at h ⊢
  obtain ⟨⟨f1,v1⟩,hr1⟩:∃ r,clrF f s=r:=⟨_,rfl⟩
  rw [hr1] at h ⊢
  dsimp only at h ⊢
  by_cases h1:v1≠0
  ·rw [if_pos h1] at h;exact absurd h h1
  ·rw [if_neg h1] at h ⊢
   obtain ⟨⟨f2,v2⟩,hr2⟩:∃ r,progF f1 (slotA s) x=r:=⟨_,rfl⟩
   rw [hr2] at h ⊢
   dsimp only at h ⊢
   by_cases h2:v2≠0
   ·rw [if_pos h2] at h;exact absurd h h2
   ·rw [if_neg h2] at h ⊢
    exact progF_up hr2 (Decidable.not_not.1 h2)
 ·rw [slotW_down hd] at h;cases h
set_option maxHeartbeats 8000000 in
theorem dv_fin (H:List Hl) (db fb:Nat) (ka:Option Addr) (kn kc:Nat) (mb sb:Nat) (ad:Option Addr) (c:Nat) (f f2:Fl) (h:Hid) (x:StD) (st:Sto) (im:List (BitVec 8)) (hm:x.may=true) (ho:x.on=true) (htr:x.t=0) (hx:x.Rd (stars H)) (hk:FlOk f h) (hd:f.pw.isDown=false)
  (hp:st.p.ok) (hR:RR st.p.n st.p.z st.d.M) (hf:cntS st.d.M=st.p.n) (hl:count st.len st.p.z=st.p.k) (him:imgB st.p st.d st.len=im) (hi1:1≤im.length) (hi2:im.length≤512) (hsh:sha im=x.m.h.l) (hF:finF f x im=(f2,0)) :
  Spec Tryz.prog 80 [.pointer (some ⟨db,0,none⟩)] (dvB db fb ka kn kc (pM mb)::meB mb x (some ⟨sb,0,none⟩) :: .any (stP st fb sb)::fB fb ad c f h::fR ad c f::H) (fun r:Hid × Nat × PA × PA=>FlOk f2 r.1) (fun _=>I 0)
   (fun r=>dvB db fb ka kn kc (pM r.2.1)::meB r.2.1 (copyS (actS x) r.2.2.1 r.2.2.2 (none,0)) none::fB fb ad c f2 r.1::fR ad c f2::rowL r.2.2.1 (actS x).s0.h.l::rowL r.2.2.2 (actS x).s1.h.l::H):=by
 refine spec_fn (res:=fun r:Hid × Nat × PA × PA=>[dvB db fb ka kn kc (pM r.2.1),meB r.2.1 (copyS (actS x) r.2.2.1 r.2.2.2 (none,0)) none,fB fb ad c f2 r.1,fR ad c f2,rowL r.2.2.1 (actS x).s0.h.l,rowL r.2.2.2 (actS x).s1.h.l]) [dvB db fb ka kn kc (pM mb),meB mb x (some ⟨sb,0,none⟩),.any (stP st fb sb),fB fb ad c f h,fR ad c f] H Tryz.func80 rfl Tryz.ntmps80 (by kernel_rfl) rfl (fun W=>?_)
 dsimp only [List.cons_append,List.nil_append]
 have ha:=StD.may_a hm
 obtain ⟨sN,hsN⟩:∃ sN,(1 - x.a).toNat=sN:=⟨_,rfl⟩
 have hs2:sN<2:=by omega
 have hsub:(1:Int) - x.a=(sN:Int):=by omega
 unfold finF at hF
 rw [hsN] at hF
 have hup:=slotW_ok (f:=f) (s:=sN) (x:=im)
 obtain ⟨⟨f1,v1⟩,hr1⟩:∃ r,slotW f sN im=r:=⟨_,rfl⟩
 rw [hr1] at hF hup
 dsimp only at hF hup
 by_cases hv1:v1≠0
 ·rw [if_pos hv1] at hF
  exact absurd (Prod.mk.inj hF).2 hv1
 rw [if_neg hv1] at hF
 have hv1:v1=0:=Decidable.not_not.1 hv1
 subst hv1
 have hd1:=hup rfl
 have hmay2:(copyS (actS x) (none,0) (none,0) (none,0)).may=true:=by rw [copy_may];exact act_may hm ho htr
 have hact:∀ r0 r1 r2,(copyS (actS x) r0 r1 r2).may=true:=fun r0 r1 r2=>by rw [copy_may];exact act_may hm ho htr
 repeat' (first|intro _|refine cw ?_|refine cw2 ?_ ?_|(refine k_fn 33 ?_;refine o1_call_bb db mb (fun _=>dv_Load _ db fb ka kn kc mb x (some ⟨sb,0,none⟩)) rfl (fun _ _=>?_))|(refine k_load ?_;refine ox_load (b:=mb) (i:=17) rfl rfl ?_)|(refine k_fn 124 ?_;(refine o1_call_a (stP st fb sb) (fun _=>so_Image _ st fb sb hp hR hf hl) rfl (fun ⟨a19,c19⟩ _=>?_);(try dsimp only);rw [him]))|refine ow ?_|refine ow2 ?_ ?_|fail)
 refine st_stages' [(4,_),(3,_)] rtD27_4 [1,8] [⟨[0,2,3,4,5,6,7],[],some 1⟩,⟨[],[2,3,4,5,6,7],some 8⟩,⟨[9],[],none⟩] mixed cv (by kernel_rfl) (by kernel_rfl) ?_
 repeat' (first|intro _|refine sg ?_|(refine p_load ?_;refine po (by first|refine ox_load (b:=mb) (i:=16) rfl rfl fz|fail) ?_)|refine pw ?_|refine pdd ?_|(refine k_fn 56 ?_;(refine o1_call (fun hh=>dg_Sum _ a19 c19 im _ (rx_row hh) (by omega) hsh) rfl (fun ⟨a23,c23⟩ _=>?_);(try dsimp only)))|(refine k_fn 66 ?_;refine o1_call (fun hh=>(slices_Equal _ a23 x.m.h.ad c23 x.m.h.cap x.m.h.l x.m.h.l (rx_row hh) hx.m.up).bv (b:=true) (by simp)) rfl (fun _ _=>?_))|refine ow ?_|fail)
 all_goals dsimp only [List.cons_append,List.nil_append]
 repeat' (first|intro _|refine cw ?_|refine cw2 ?_ ?_|refine ow ?_|refine ow2 ?_ ?_|fail)
 refine st_stages' [(0,_),(3,_),(4,_)] rtD27_5 [11] [⟨[0,1,2,3,4,5,6,7,8,9,10],[],some 11⟩,⟨[12],[],none⟩] mixed cv (by kernel_rfl) (by kernel_rfl) ?_
 repeat' (first|intro _|refine sg ?_|(refine p_load ?_;refine po (by first|refine ox_load (b:=db) (i:=1) rfl rfl fz|refine ox_load (b:=mb) (i:=0) rfl rfl fz|fail) ?_)|(refine p_binOp .sub ?_;refine po (by first|((refine o1_sub rfl rfl (by omega) ?_;rw [hsub]);all_goals exact fz)|fail) ?_)|refine pw ?_|refine pdd ?_|(refine k_fn 31 ?_;(refine o1_call_fl fb ad c (fun hh=>sl_Write _ fb ad c f h sN a19 c19 im hs2 hk (rx_row (has_tail (has_tail hh))) hi1 hi2 hd) rfl (fun h1 hk1=>?_);(rw [hr1] at hk1 ⊢;dsimp only at hk1 ⊢)))|refine ow ?_|fail)
 all_goals dsimp only [List.cons_append,List.nil_append]
 repeat' (first|intro _|refine cw ?_|refine cw2 ?_ ?_|(refine k_fn 126 ?_;(refine o1_call (fun _=>bt_Activate _ x ⟨hx.s0.up,hx.s1.up,hx.m.up⟩ hm ho htr) rfl (fun ⟨q1,q2⟩ _=>?_);(try dsimp only)))|(refine k_alloc ?_;refine o1_alloc rfl (fun b8=>?_))|refine ow ?_|refine ow2 ?_ ?_|fail)
 refine o1_call_to (dvB db fb ka kn kc (pM mb)::fB fb ad c f1 h1::fR ad c f1::[rowL q1 (actS x).s0.h.l,rowL q2 (actS x).s1.h.l,.any (stars H)]) (Ent.out ent) (fun hh=>dv_keeps _ db fb ka kn kc (pM mb) ad c f1 f2 h1 (copyS (actS x) q1 q2 (none,0)) none (hact _ _ _) ⟨rx_row (T:=5) (ad:=q1.1) (c:=q1.2) (l:=(actS x).s0.h.l) (has_tail (has_tail (has_tail hh))),rx_row (T:=5) (ad:=q2.1) (c:=q2.2) (l:=(actS x).s1.h.l) (has_tail (has_tail (has_tail hh))),rs00 (has_tail (has_tail (has_tail hh)))⟩ hk1 hd1 hF) rfl (fun ⟨h2,mb2⟩ hk2=>?_)
 dsimp only at hk2 ⊢
 repeat' (first|intro _|refine cw ?_|refine cw2 ?_ ?_|refine ow ?_|refine ow2 ?_ ?_|fail)
 refine rt_tmp (h2,mb2,q1,q2) rfl rfl rfl hk2 ?_
 exact ent
end Go.Dp
namespace Go.Dp
open Go.RowKit Go.Proofs
set_option maxHeartbeats 4000000 in
theorem ss_Newer (H:List Hl) (x:StD) (v:BitVec 32):Spec Tryz.prog 118 [x.V,W4 v] H (fun _:Unit=>True) (fun _ => .bool (x.newer v)) (fun _=>H):=by
 refine spec_pure (res:=fun _=>[]) H Tryz.func118 rfl Tryz.ntmps118 (by kernel_rfl) rfl (fun W=>?_)
 cases hm:x.may
 ·obtain ⟨a,t,f,g,s0,s1,on,m⟩:=x
  dsimp only [StD.V,StD.c]
  repeat' (first|intro _|refine cw ?_|refine cw2 ?_ ?_|(refine k_fn 97 ?_;refine o1_call (fun _=>(st_May _ ⟨a,t,f,g,s0,s1,on,m⟩).bv (b:=false) hm) rfl (fun _ _=>?_))|refine ow ?_|refine ow2 ?_ ?_|fail)
  refine rt_tmp () rfl rfl ?_ trivial ?_
  ·simp [StD.newer,hm]
  ·exact ent
 ·have ha:=StD.may_a hm
  obtain ⟨a,t,f,g,s0,s1,on,m⟩:=x
  dsimp only at ha
  dsimp only [StD.V,StD.c]
  rcases ha with rfl|rfl
  all_goals
   repeat' (first|intro _|refine cw ?_|refine cw2 ?_ ?_|(refine k_fn 97 ?_;refine o1_call (fun _=>(st_May _ ⟨_,t,f,g,s0,s1,on,m⟩).bv (b:=true) hm) rfl (fun _ _=>?_))|(refine k_indexAddr ?_;first|refine ox_idx_arr 0 4 rfl rfl rfl (by decide) rfl ?_|refine ox_idx_arr 1 7 rfl rfl rfl (by decide) rfl ?_)|(refine k_unOp ?_;(refine o1_bnot rfl ?_;cases on))|refine ow ?_|refine ow2 ?_ ?_|fail)
  all_goals (refine rt_tmp () rfl rfl ?_ trivial ?_;· simp only [StD.newer,hm,StD.cur];refine congrArg Value.bool ?_;first|(simp;done)|(simp;omega))
  all_goals exact ent
def rtE4_0:List Row:=[⟨some 62,[],[],none⟩,⟨some 63,[],[],none⟩,⟨none,[1],[1],none⟩,⟨some 64,[0,1,2],[0,1,2],none⟩,⟨none,[3,0,2,0,1,2],[0,1,2,3],none⟩]
def errOf (x:StD) (m:ManD):Int :=
 if x.may=false then 1 else if m.may=false then 1 else if 0<x.t then 12 else if x.on=true∧x.m.same m=true then 8 else if x.newer m.v=false then 6 else if 4294967294≤x.g.toNat then 9 else 0
set_option maxHeartbeats 4000000 in
theorem ss_Admit_no (H:List Hl) (x:StD) (m:ManD) (hx:Rs (stars H) B x.m.h.ad x.m.h.cap x.m.h.l) (hm:Rs (stars H) B m.h.ad m.h.cap m.h.l) (hne:errOf x m≠0) :
  Spec Tryz.prog 74 [x.V,m.V] H (fun _:Unit=>True) (fun _ => .tuple #[zS.V,I (errOf x m)]) (fun _=>H):=by
 refine spec_pure (res:=fun _=>[]) H Tryz.func74 rfl Tryz.ntmps74 (by kernel_rfl) rfl (fun W=>?_)
 obtain ⟨a,t,f,g,s0,s1,on,n⟩:=x
 have hn:Rs (stars H) B n.h.ad n.h.cap n.h.l:=hx
 cases h1:(StD.mk a t f g s0 s1 on n).may
 ·have he:errOf (StD.mk a t f g s0 s1 on n) m=1:=by simp [errOf,h1]
  rw [he]
  dsimp only [StD.V,StD.c]
  repeat' (first|intro _|refine cw ?_|refine cw2 ?_ ?_|(refine k_fn 97 ?_;refine o1_call (fun _=>(st_May _ ⟨a,t,f,g,s0,s1,_,n⟩).bv (b:=false) h1) rfl (fun _ _=>?_))|refine ow ?_|refine ow2 ?_ ?_|fail)
  refine rt_cell_tmp () rfl rfl rfl rfl rfl trivial ?_
  exact ent
 cases h2:m.may
 ·have he:errOf (StD.mk a t f g s0 s1 on n) m=1:=by simp [errOf,h1,h2]
  rw [he]
  dsimp only [StD.V,StD.c]
  repeat' (first|intro _|refine cw ?_|refine cw2 ?_ ?_|(refine k_fn 97 ?_;refine o1_call (fun _=>(st_May _ ⟨a,t,f,g,s0,s1,_,n⟩).bv (b:=true) h1) rfl (fun _ _=>?_))|(refine k_fn 57 ?_;refine o1_call (fun _=>(mf_May _ m).bv (b:=false) h2) rfl (fun _ _=>?_))|refine ow ?_|refine ow2 ?_ ?_|fail)
  refine rt_cell_tmp () rfl rfl rfl rfl rfl trivial ?_
  exact ent
 by_cases h3:0<t
 ·have he:errOf (StD.mk a t f g s0 s1 on n) m=12:=by simp [errOf,h1,h2,h3]
  rw [he]
  dsimp only [StD.V,StD.c]
  repeat' (first|intro _|refine cw ?_|refine cw2 ?_ ?_|(refine k_fn 97 ?_;refine o1_call (fun _=>(st_May _ ⟨a,t,f,g,s0,s1,_,n⟩).bv (b:=true) h1) rfl (fun _ _=>?_))|(refine k_fn 57 ?_;refine o1_call (fun _=>(mf_May _ m).bv (b:=true) h2) rfl (fun _ _=>?_))|refine ow ?_|refine ow2 ?_ ?_|fail)
  refine rt_cell_tmp () rfl rfl rfl rfl rfl trivial ?_
  exact ent
 cases on with
 | true =>
  cases h4:n.same m with
  | true =>
   have he:errOf (StD.mk a t f g s0 s1 true n) m=8:=by simp [errOf,h1,h2,h3,h4]
   rw [he]
   dsimp only [StD.V,StD.c]
   repeat' (first|intro _|refine cw ?_|refine cw2 ?_ ?_|(refine k_fn 97 ?_;refine o1_call (fun _=>(st_May _ ⟨a,t,f,g,s0,s1,_,n⟩).bv (b:=true) h1) rfl (fun _ _=>?_))|(refine k_fn 57 ?_;refine o1_call (fun _=>(mf_May _ m).bv (b:=true) h2) rfl (fun _ _=>?_))|(refine k_fn 117 ?_;refine o1_call (fun _=>(mf_Same _ n m hn.up hm.up).bv (b:=true) h4) rfl (fun _ _=>?_))|refine ow ?_|refine ow2 ?_ ?_|fail)
   refine rt_cell_tmp () rfl rfl rfl rfl rfl trivial ?_
   exact ent
  | false =>
   cases h5:(StD.mk a t f g s0 s1 true n).newer m.v
   ·have he:errOf (StD.mk a t f g s0 s1 true n) m=6:=by simp [errOf,h1,h2,h3,h5,h4]
    rw [he]
    dsimp only [StD.V,StD.c]
    repeat' (first|intro _|refine cw ?_|refine cw2 ?_ ?_|(refine k_fn 97 ?_;refine o1_call (fun _=>(st_May _ ⟨a,t,f,g,s0,s1,_,n⟩).bv (b:=true) h1) rfl (fun _ _=>?_))|(refine k_fn 57 ?_;refine o1_call (fun _=>(mf_May _ m).bv (b:=true) h2) rfl (fun _ _=>?_))|(refine k_fn 117 ?_;refine o1_call (fun _=>(mf_Same _ n m hn.up hm.up).bv (b:=false) h4) rfl (fun _ _=>?_))|(refine k_fn 118 ?_;refine o1_call (fun _=>(ss_Newer _ ⟨a,t,f,g,s0,s1,_,n⟩ m.v).bv (b:=false) h5) rfl (fun _ _=>?_))|refine ow ?_|refine ow2 ?_ ?_|fail)
    refine rt_cell_tmp () rfl rfl rfl rfl rfl trivial ?_
    exact ent
   ·by_cases h6:4294967294≤g.toNat
    ·have he:errOf (StD.mk a t f g s0 s1 true n) m=9:=by simp [errOf,h1,h2,h3,h5,h6,h4]
     rw [he]
     dsimp only [StD.V,StD.c]
     repeat' (first|intro _|refine cw ?_|refine cw2 ?_ ?_|(refine k_fn 97 ?_;refine o1_call (fun _=>(st_May _ ⟨a,t,f,g,s0,s1,_,n⟩).bv (b:=true) h1) rfl (fun _ _=>?_))|(refine k_fn 57 ?_;refine o1_call (fun _=>(mf_May _ m).bv (b:=true) h2) rfl (fun _ _=>?_))|(refine k_fn 117 ?_;refine o1_call (fun _=>(mf_Same _ n m hn.up hm.up).bv (b:=false) h4) rfl (fun _ _=>?_))|(refine k_fn 118 ?_;refine o1_call (fun _=>(ss_Newer _ ⟨a,t,f,g,s0,s1,_,n⟩ m.v).bv (b:=true) h5) rfl (fun _ _=>?_))|refine ow ?_|refine ow2 ?_ ?_|fail)
     refine rt_cell_tmp () rfl rfl rfl rfl rfl trivial ?_
     exact ent
    ·exact absurd (by simp [errOf,h1,h2,h3,h5,h4];omega) hne
 | false =>
  cases h5:(StD.mk a t f g s0 s1 false n).newer m.v
  ·have he:errOf (StD.mk a t f g s0 s1 false n) m=6:=by simp [errOf,h1,h2,h3,h5]
   rw [he]
   dsimp only [StD.V,StD.c]
   repeat' (first|intro _|refine cw ?_|refine cw2 ?_ ?_|(refine k_fn 97 ?_;refine o1_call (fun _=>(st_May _ ⟨a,t,f,g,s0,s1,_,n⟩).bv (b:=true) h1) rfl (fun _ _=>?_))|(refine k_fn 57 ?_;refine o1_call (fun _=>(mf_May _ m).bv (b:=true) h2) rfl (fun _ _=>?_))|(refine k_fn 118 ?_;refine o1_call (fun _=>(ss_Newer _ ⟨a,t,f,g,s0,s1,_,n⟩ m.v).bv (b:=false) h5) rfl (fun _ _=>?_))|refine ow ?_|refine ow2 ?_ ?_|fail)
   refine rt_cell_tmp () rfl rfl rfl rfl rfl trivial ?_
   exact ent
  ·by_cases h6:4294967294≤g.toNat
   ·have he:errOf (StD.mk a t f g s0 s1 false n) m=9:=by simp [errOf,h1,h2,h3,h5,h6]
    rw [he]
    dsimp only [StD.V,StD.c]
    repeat' (first|intro _|refine cw ?_|refine cw2 ?_ ?_|(refine k_fn 97 ?_;refine o1_call (fun _=>(st_May _ ⟨a,t,f,g,s0,s1,_,n⟩).bv (b:=true) h1) rfl (fun _ _=>?_))|(refine k_fn 57 ?_;refine o1_call (fun _=>(mf_May _ m).bv (b:=true) h2) rfl (fun _ _=>?_))|(refine k_fn 118 ?_;refine o1_call (fun _=>(ss_Newer _ ⟨a,t,f,g,s0,s1,_,n⟩ m.v).bv (b:=true) h5) rfl (fun _ _=>?_))|refine ow ?_|refine ow2 ?_ ?_|fail)
    refine rt_cell_tmp () rfl rfl rfl rfl rfl trivial ?_
    exact ent
   ·exact absurd (by simp [errOf,h1,h2,h3,h5];omega) hne
def admitS (x:StD) (m:ManD) (r0 r1 r2:Option Addr × Nat):StD:=⟨x.a,x.t,x.f,x.g+1#32,⟨x.s0.v,x.s0.n,⟨r0.1,r0.2,x.s0.h.l⟩⟩,⟨x.s1.v,x.s1.n,⟨r1.1,r1.2,x.s1.h.l⟩⟩,true,⟨m.s,m.v,m.n,m.z,m.p,⟨r2.1,r2.2,m.h.l⟩⟩⟩
set_option maxHeartbeats 4000000 in
theorem ss_Admit_ok (H:List Hl) (x:StD) (m:ManD) (hx:Rs (stars H) B x.m.h.ad x.m.h.cap x.m.h.l) (hm:Rs (stars H) B m.h.ad m.h.cap m.h.l) (hx0:Rs (stars H) B x.s0.h.ad x.s0.h.cap x.s0.h.l) (hx1:Rs (stars H) B x.s1.h.ad x.s1.h.cap x.s1.h.l)
  (hl:x.light∧m.h.l.length≤100) (he:errOf x m=0) :
  Spec Tryz.prog 74 [x.V,m.V] H (fun _:(Option Addr × Nat) × (Option Addr × Nat) × (Option Addr × Nat)=>True) (fun r => .tuple #[(admitS x m r.1 r.2.1 r.2.2).V,I 0])
   (fun r => .row 5 1 (.slice r.1.1 x.s0.h.l.length r.1.2) x.s0.h.l.length (x.s0.h.l.map B) :: .row 5 1 (.slice r.2.1.1 x.s1.h.l.length r.2.1.2) x.s1.h.l.length (x.s1.h.l.map B) :: .row 5 1 (.slice r.2.2.1 m.h.l.length r.2.2.2) m.h.l.length (m.h.l.map B)::H):=by
 refine spec_pure (res:=fun r:(Option Addr × Nat) × (Option Addr × Nat) × (Option Addr × Nat)=>[.row 5 1 (.slice r.1.1 x.s0.h.l.length r.1.2) x.s0.h.l.length (x.s0.h.l.map B),.row 5 1 (.slice r.2.1.1 x.s1.h.l.length r.2.1.2) x.s1.h.l.length (x.s1.h.l.map B),.row 5 1 (.slice r.2.2.1 m.h.l.length r.2.2.2) m.h.l.length (m.h.l.map B)]) H Tryz.func74 rfl Tryz.ntmps74 (by kernel_rfl) rfl (fun W=>?_)
 obtain ⟨a,t,f,g,s0,s1,on,n⟩:=x
 have hn:Rs (stars H) B n.h.ad n.h.cap n.h.l:=hx
 obtain ⟨⟨q0,q1,q2⟩,q3⟩:=hl
 dsimp only at hx0 hx1 q0 q1 q2
 cases h1:(StD.mk a t f g s0 s1 on n).may
 ·simp [errOf,h1] at he
 cases h2:m.may
 ·simp [errOf,h1,h2] at he
 by_cases h3:0<t
 ·simp [errOf,h1,h2,h3] at he
 cases h5:(StD.mk a t f g s0 s1 on n).newer m.v
 ·by_cases hc:on=true∧n.same m=true
  ·obtain ⟨rfl,hc⟩:=hc
   simp [errOf,h1,h2,h3,hc] at he
  ·simp only [errOf,h1,h2,h3,h5,hc] at he
   simp at he
 have h4:on=true→n.same m=false:=by
  intro ho
  subst ho
  cases h4:n.same m
  ·rfl
  ·simp [errOf,h1,h2,h3,h4] at he
 have h6 : ¬ 4294967294≤g.toNat:=by
  intro h6
  cases on
  ·simp [errOf,h1,h2,h3,h5,h6] at he
  ·simp [errOf,h1,h2,h3,h5,h6,h4 rfl] at he
 clear he
 dsimp only [StD.V,StD.c]
 cases on
 all_goals
  repeat' (first|intro _|refine cw ?_|refine cw2 ?_ ?_|(refine k_fn 97 ?_;refine o1_call (fun _=>(st_May _ ⟨a,t,f,g,s0,s1,_,n⟩).bv (b:=true) h1) rfl (fun _ _=>?_))|(refine k_fn 57 ?_;refine o1_call (fun _=>(mf_May _ m).bv (b:=true) h2) rfl (fun _ _=>?_))|(refine k_fn 117 ?_;refine o1_call (fun _=>(mf_Same _ n m hn.up hm.up).bv (b:=false) (h4 rfl)) rfl (fun _ _=>?_))|(refine k_fn 118 ?_;refine o1_call (fun _=>(ss_Newer _ ⟨a,t,f,g,s0,s1,_,n⟩ m.v).bv (b:=true) h5) rfl (fun _ _=>?_))|refine ow ?_|refine ow2 ?_ ?_|fail)
  refine st_rounds 2 ?_
  repeat' (first|intro _|refine cw ?_|refine cw2 ?_ ?_|(refine k_indexAddr ?_;first|refine ox_idx_arr 0 4 rfl rfl rfl (by decide) rfl ?_|refine ox_idx_arr 1 7 rfl rfl rfl (by decide) rfl ?_)|(refine k_fn 29 ?_;first|(refine o1_call (fun _=>slices_Clone _ _ _ s0.h.l hx0.up (by omega)) rfl (fun ⟨a5,c5⟩ _=>?_);dsimp only)|(refine o1_call (fun _=>slices_Clone _ _ _ s1.h.l hx1.up (by omega)) rfl (fun ⟨a6,c6⟩ _=>?_);dsimp only))|refine ow ?_|refine ow2 ?_ ?_|fail)
  all_goals
   repeat' (first|intro _|refine cw ?_|refine cw2 ?_ ?_|(refine k_binOp .add ?_;refine o1_uadd (v:=1#32) rfl rfl ?_)|refine ow ?_|refine ow2 ?_ ?_|fail)
  refine st_stages' [(3,_),(2,_)] rtE4_0 [2,4] [⟨[0,1],[],some 2⟩,⟨[3],[0],some 4⟩,⟨[],[],none⟩] mixed cv (by kernel_rfl) (by kernel_rfl) ?_
  repeat' (first|intro _|refine sg ?_|refine pw ?_|refine pdd ?_|refine ow ?_|fail)
  all_goals dsimp only [List.cons_append,List.nil_append]
  repeat' (first|intro _|refine cw ?_|refine cw2 ?_ ?_|(refine k_fn 29 ?_;(refine o1_call (fun _=>slices_Clone _ _ _ m.h.l hm.up (by omega)) rfl (fun ⟨a7,c7⟩ _=>?_);dsimp only))|refine ow ?_|refine ow2 ?_ ?_|fail)
  refine rt_cell_tmp (⟨a5,c5⟩,⟨a6,c6⟩,⟨a7,c7⟩) rfl rfl rfl rfl rfl trivial ?_
  exact ent
theorem admit_may {x:StD} {m:ManD} {r0 r1 r2:Option Addr × Nat} (h:x.may=true) (hm:m.may=true):(admitS x m r0 r1 r2).may=true:=by
 simp only [StD.may,Bool.and_eq_true,Bool.or_eq_true,decide_eq_true_eq] at h ⊢
 refine ⟨⟨⟨h.1.1.1,?_⟩,?_⟩,hm⟩
 ·have h1:=h.1.1.2
  unfold StD.cur at h1 ⊢
  by_cases ha:x.a=0
  ·rw [if_pos ha] at h1;rw [if_pos (show (admitS x m r0 r1 r2).a=0 from ha)];exact h1
  ·rw [if_neg ha] at h1;rw [if_neg (show ¬ (admitS x m r0 r1 r2).a=0 from ha)];exact h1
 ·have h1:=h.1.2
  unfold StD.oth at h1 ⊢
  by_cases ha:x.a=0
  ·rw [if_pos ha] at h1;rw [if_pos (show (admitS x m r0 r1 r2).a=0 from ha)];exact h1
  ·rw [if_neg ha] at h1;rw [if_neg (show ¬ (admitS x m r0 r1 r2).a=0 from ha)];exact h1
open Go.RowKit Go.Proofs Sha
def rtD28_0:List Row:=[⟨some 22,[],[],none⟩,⟨some 23,[0],[0],none⟩,⟨some 24,[1],[0,1],none⟩,⟨some 25,[2],[0,1,2],none⟩,⟨some 26,[3],[0,1,2,3],none⟩,⟨some 27,[4],[0,1,2,3,4],none⟩,⟨some 28,[5],[0,1,2,3,4,5],none⟩,⟨some 29,[],[],none⟩,⟨some 30,[6,7,3],[0,1,2,3,4,5,6,7],none⟩,⟨some 21,[8],[0,1,2,3,4,5,6,7,8],none⟩,⟨some 31,[9],[0,1,2,3,4,5,6,7,8,9],none⟩,⟨some 32,[9],[0,1,2,3,4,5,6,7,8,9],none⟩,⟨some 7,[],[],none⟩,⟨none,[12,10,8,0,1,2,3,4,5,6,7,8,9,10,12],[0,1,2,3,4,5,6,7,8,9,10,12],none⟩,⟨some 6,[11,13,0,1,2,3,4,5,6,7,8,9,10,11,12,13],[0,1,2,3,4,5,6,7,8,9,10,11,12,13],none⟩]
def rtD28_1:List Row:=[⟨some 22,[],[],none⟩,⟨some 23,[0],[0],none⟩,⟨some 24,[1],[0,1],none⟩,⟨some 25,[2],[0,1,2],none⟩,⟨some 26,[3],[0,1,2,3],none⟩,⟨some 27,[4],[0,1,2,3,4],none⟩,⟨some 28,[5],[0,1,2,3,4,5],none⟩,⟨some 29,[],[],none⟩,⟨some 30,[6,7,3],[0,1,2,3,4,5,6,7],none⟩,⟨some 21,[8],[0,1,2,3,4,5,6,7,8],none⟩,⟨some 31,[9],[0,1,2,3,4,5,6,7,8,9],none⟩,⟨some 32,[9],[0,1,2,3,4,5,6,7,8,9],none⟩,⟨some 7,[],[],none⟩,⟨none,[12,10,8,0,1,2,3,4,5,6,7,8,9,10,12],[0,1,2,3,4,5,6,7,8,9,10,12],none⟩,⟨some 6,[11,13,0,1,2,3,4,5,6,7,8,9,10,11,12,13],[0,1,2,3,4,5,6,7,8,9,10,11,12,13],none⟩]
theorem dv_LoadH {H H1 H2:List Hl} (db fb:Nat) (ka:Option Addr) (kn kc:Nat) (mb:Nat) (x:StD) (lp:Option Addr) [s1:SBox H db 78 [.slice ka kn kc,.pointer (some ⟨fb,0,none⟩),.pointer (pM mb)] H1] [s2:SBox H mb 84 [I x.a,I x.t,W4 x.f,W4 x.g,W4 x.s0.v,I x.s0.n,Bs x.s0.h,W4 x.s1.v,I x.s1.n,Bs x.s1.h,.bool x.on,W4 x.m.s,W4 x.m.v,I x.m.n,I x.m.z,I x.m.p,Bs x.m.h,.pointer lp] H2] :
  Spec Tryz.prog 33 [.pointer (some ⟨db,2,none⟩)] H (fun _:Unit=>True) (fun _ => .pointer (some ⟨mb,0,none⟩)) (fun _=>H):=dp_Load H H1 H2 db 2 _ _ mb _ rfl rfl
set_option maxHeartbeats 8000000 in
theorem dv_hears_no (H:List Hl) (db fb:Nat) (ka:Option Addr) (key:List (BitVec 8)) (kc:Nat) (mb:Nat) (x:StD) (lp:Option Addr) (ad2:Option Addr) (m2 c2:Nat) (b:List (BitVec 8)) (m:ManD) (e:Int) (hkey:Rs (stars H) B ka kc key) (hkl:key.length≤300) (hb:Rs (stars H) B ad2 c2 b) (hm2:m2=b.length) (hpr:prM key b=(m,0)) (hx:x.Rd (stars H)) (he:errOf x m=e) (hne:e≠0) :
  Spec Tryz.prog 36 [.pointer (some ⟨db,0,none⟩),.slice ad2 m2 c2] (dvB db fb ka key.length kc (pM mb)::meB mb x lp::H) (fun _:Unit=>True) (fun _=>I e) (fun _=>dvB db fb ka key.length kc (pM mb)::meB mb x lp::H):=by
 subst hm2
 refine spec_fn (res:=fun _:Unit=>[dvB db fb ka key.length kc (pM mb),meB mb x lp]) [dvB db fb ka key.length kc (pM mb),meB mb x lp] H Tryz.func36 rfl Tryz.ntmps36 (by kernel_rfl) rfl (fun W=>?_)
 dsimp only [List.cons_append,List.nil_append]
 have hk0:RdS (stars H) x.m.h:=hx.m
 repeat' (first|intro _|refine cw ?_|refine cw2 ?_ ?_|(refine k_load ?_;refine ox_load (b:=db) (i:=0) rfl rfl ?_)|(refine k_fn 73 ?_;(refine o1_call (fun _=>mf_Parse _ ka ad2 kc c2 key b hkey.up hb.up hkl (m,0) hpr) rfl (fun r1 _=>?_);(try dsimp only)))|(refine k_alloc ?_;refine o1_alloc rfl (fun b5=>?_))|refine ow ?_|refine ow2 ?_ ?_|fail)
 refine st_stages' [(0,_),(5,_)] rtD28_0 [12,13] [⟨[0,1,2,3,4,5,6,7,8,9,10,11],[],some 12⟩,⟨[],[0,1,2,3,4,5,6,7,8,9,10,11],some 13⟩,⟨[14],[11],none⟩] mixed cv (by kernel_rfl) (by kernel_rfl) ?_
 repeat' (first|intro _|refine sg ?_|(refine p_fn 33 ?_;refine po (by first|refine o1_call (fun _=>dv_LoadH db fb ka key.length kc mb x lp) rfl (fun _ _=>fz)|fail) ?_)|(refine p_fn 74 ?_;refine po (by first|((refine o1_call (fun hh=>ss_Admit_no _ x (setM m r1) hk0.up (rx_row (T:=5) (ad:=r1.1) (c:=r1.2) (l:=m.h.l) hh) (show errOf x m≠0 by rw [he];exact hne)) rfl (fun _ _=>?_);rw [show errOf x (setM m r1)=e from he]);all_goals exact fz)|fail) ?_)|refine pw ?_|refine pdd ?_|(refine k_alloc ?_;refine o1_alloc rfl (fun b7=>?_))|refine ow ?_|fail)
 all_goals dsimp only [List.cons_append,List.nil_append]
 repeat' (first|intro _|refine cw ?_|refine cw2 ?_ ?_|(refine k_binOp .neq ?_;refine o1_neq_t rfl rfl hne ?_)|refine ow ?_|refine ow2 ?_ ?_|fail)
 refine rt_tmp () rfl rfl rfl trivial ?_
 exact ent
set_option maxHeartbeats 16000000 in
theorem dv_hears (H:List Hl) (db fb:Nat) (ka:Option Addr) (key:List (BitVec 8)) (kc:Nat) (mb:Nat) (ad:Option Addr) (c:Nat) (f f1:Fl) (h:Hid) (x:StD) (lp:Option Addr) (ad2:Option Addr) (m2 c2:Nat) (b:List (BitVec 8)) (m:ManD) (p:Prm) (len:Nat) (V:BitVec 32→List Bool)
  (hkey:Rs (stars H) B ka kc key) (hkl:key.length≤300) (hb:Rs (stars H) B ad2 c2 b) (hm2:m2=b.length) (hpr:prM key b=(m,0)) (hx:x.Rd (stars H)) (hmx:x.may=true) (hmm:m.may=true) (he:errOf x m=0) (hk:FlOk f h) (hd:f.pw.isDown=false) (hp:IsP m p len) (ht:TabF (stars H)) (hW:cellW f (admitS x m (none,0) (none,0) (none,0)).by=(f1,0)) (hd1:f1.pw.isDown=false) (hV:∀ r∈recsW f1.bs (x.g+1#32) p.z 8,SpRow p r.1 (V r.1)) :
  Spec Tryz.prog 36 [.pointer (some ⟨db,0,none⟩),.slice ad2 m2 c2] (dvB db fb ka key.length kc (pM mb)::meB mb x lp::fB fb ad c f h::fR ad c f::H) (fun r:Hid × (Nat × Nat) × PA × PA × PA=>FlOk f1 r.1) (fun _=>I 0)
   (fun r=>dvB db fb ka key.length kc (pM r.2.1.1)::meB r.2.1.1 (admitS x m r.2.2.1 r.2.2.2.1 r.2.2.2.2) (some ⟨r.2.1.2,0,none⟩) :: .any (stP (openS p (x.g+1#32) len V f1.bs) fb r.2.1.2)::fB fb ad c f1 r.1::fR ad c f1::rowL r.2.2.1 x.s0.h.l::rowL r.2.2.2.1 x.s1.h.l::rowL r.2.2.2.2 m.h.l::H):=by
 subst hm2
 refine spec_fn (res:=fun r:Hid × (Nat × Nat) × PA × PA × PA=>[dvB db fb ka key.length kc (pM r.2.1.1),meB r.2.1.1 (admitS x m r.2.2.1 r.2.2.2.1 r.2.2.2.2) (some ⟨r.2.1.2,0,none⟩),.any (stP (openS p (x.g+1#32) len V f1.bs) fb r.2.1.2),fB fb ad c f1 r.1,fR ad c f1,rowL r.2.2.1 x.s0.h.l,rowL r.2.2.2.1 x.s1.h.l,rowL r.2.2.2.2 m.h.l]) [dvB db fb ka key.length kc (pM mb),meB mb x lp,fB fb ad c f h,fR ad c f] H Tryz.func36 rfl Tryz.ntmps36 (by kernel_rfl) rfl (fun W=>?_)
 dsimp only [List.cons_append,List.nil_append]
 have hk0:RdS (stars H) x.m.h:=hx.m
 have hk1:RdS (stars H) x.s0.h:=hx.s0
 have hk2:RdS (stars H) x.s1.h:=hx.s1
 have hlt:x.light:=may_light hmx
 have hml:m.h.l.length≤100:=by have:=(man_mayM hmm).2.2;omega
 have hmay:∀ r0 r1 r2,(admitS x m r0 r1 r2).may=true:=fun _ _ _=>admit_may hmx hmm
 repeat' (first|intro _|refine cw ?_|refine cw2 ?_ ?_|(refine k_load ?_;refine ox_load (b:=db) (i:=0) rfl rfl ?_)|(refine k_fn 73 ?_;(refine o1_call (fun _=>mf_Parse _ ka ad2 kc c2 key b hkey.up hb.up hkl (m,0) hpr) rfl (fun r1 _=>?_);(try dsimp only)))|(refine k_alloc ?_;refine o1_alloc rfl (fun b5=>?_))|refine ow ?_|refine ow2 ?_ ?_|fail)
 refine st_tree' [(0,_),(5,_)] rtD28_1 [8,12,13] (.alt [0,1,2,3,4,5,6,7] [] 8 (.step [9,10,11] [] 12 (.step [] [9,10,11] 13 (.fin [14] [11]))) 12 (.step [] [0,1,2,3,4,5,6,7] 8 (.step [9,10,11] [] 13 (.fin [14] [11])))) mixed cv (by kernel_rfl) (by kernel_rfl) ?_
 repeat' (first|intro _|refine sg ?_|(refine p_fn 33 ?_;refine po (by first|refine o1_call (fun _=>dv_LoadH db fb ka key.length kc mb x lp) rfl (fun _ _=>fz)|fail) ?_)|refine pw ?_|refine pdd ?_|(refine k_fn 74 ?_;(refine o1_call (fun hh=>ss_Admit_ok _ x (setM m r1) hk0.up (rx_row (T:=5) (ad:=r1.1) (c:=r1.2) (l:=m.h.l) hh) hk1.up hk2.up ⟨hlt,hml⟩ he) rfl (fun ⟨q0,q1,q2⟩ _=>?_);(try dsimp only)))|(refine k_alloc ?_;refine o1_alloc rfl (fun b7=>?_))|refine ow ?_|refine And.intro ?_ ?_|fail)
 all_goals dsimp only [List.cons_append,List.nil_append]
 ·rw [show admitS x (setM m r1) q0 q1 q2=admitS x m q0 q1 q2 from rfl,show (setM m r1).h.l=m.h.l from rfl]
  repeat' (first|intro _|refine cw ?_|refine cw2 ?_ ?_|refine ow ?_|refine ow2 ?_ ?_|fail)
  refine o1_call_to (dvB db fb ka key.length kc (pM mb)::fB fb ad c f h::fR ad c f::[rowL q0 x.s0.h.l,rowL q1 x.s1.h.l,rowL q2 m.h.l,.box b7 51 (admitS x m q0 q1 q2).c,.any (stars H)]) (Ent.out ent) (fun hh=>dv_keeps _ db fb ka key.length kc (pM mb) ad c f f1 h (admitS x m q0 q1 q2) none (hmay _ _ _) ⟨rx_row (T:=5) (ad:=q0.1) (c:=q0.2) (l:=x.s0.h.l) (has_tail (has_tail (has_tail hh))),rx_row (T:=5) (ad:=q1.1) (c:=q1.2) (l:=x.s1.h.l) (has_tail (has_tail (has_tail hh))),rx_row (T:=5) (ad:=q2.1) (c:=q2.2) (l:=m.h.l) (has_tail (has_tail (has_tail hh)))⟩ hk hd hW) rfl (fun ⟨h1,mb1⟩ hk1=>?_)
  dsimp only at hk1 ⊢
  repeat' (first|intro _|refine cw ?_|refine cw2 ?_ ?_|refine ow ?_|refine ow2 ?_ ?_|fail)
  refine o1_call_box (b:=db) (fun hh=>dv_opens _ db fb ka key.length kc (pM mb1) ad c f1 (admitS x m q0 q1 q2) p len V rfl ⟨hp.ok,hp.es,hp.en,hp.ez,hp.ep,hp.ec⟩ (RdFl.own hk1 (has_tail hh)) hd1 ht.up hV) rfl (fun ⟨mb2,sb2⟩ _=>?_)
  dsimp only
  repeat' (first|intro _|refine cw ?_|refine cw2 ?_ ?_|refine ow ?_|refine ow2 ?_ ?_|fail)
  refine rt_tmp (h1,(mb2,sb2),q0,q1,q2) rfl rfl rfl hk1 ?_
  exact ent
 ·rw [show admitS x (setM m r1) q0 q1 q2=admitS x m q0 q1 q2 from rfl,show (setM m r1).h.l=m.h.l from rfl]
  repeat' (first|intro _|refine cw ?_|refine cw2 ?_ ?_|refine ow ?_|refine ow2 ?_ ?_|fail)
  refine o1_call_to (dvB db fb ka key.length kc (pM mb)::fB fb ad c f h::fR ad c f::[rowL q0 x.s0.h.l,rowL q1 x.s1.h.l,rowL q2 m.h.l,.box b7 51 (admitS x m q0 q1 q2).c,.any (stars H)]) (Ent.out ent) (fun hh=>dv_keeps _ db fb ka key.length kc (pM mb) ad c f f1 h (admitS x m q0 q1 q2) none (hmay _ _ _) ⟨rx_row (T:=5) (ad:=q0.1) (c:=q0.2) (l:=x.s0.h.l) (has_tail (has_tail (has_tail hh))),rx_row (T:=5) (ad:=q1.1) (c:=q1.2) (l:=x.s1.h.l) (has_tail (has_tail (has_tail hh))),rx_row (T:=5) (ad:=q2.1) (c:=q2.2) (l:=m.h.l) (has_tail (has_tail (has_tail hh)))⟩ hk hd hW) rfl (fun ⟨h1,mb1⟩ hk1=>?_)
  dsimp only at hk1 ⊢
  repeat' (first|intro _|refine cw ?_|refine cw2 ?_ ?_|refine ow ?_|refine ow2 ?_ ?_|fail)
  refine o1_call_box (b:=db) (fun hh=>dv_opens _ db fb ka key.length kc (pM mb1) ad c f1 (admitS x m q0 q1 q2) p len V rfl ⟨hp.ok,hp.es,hp.en,hp.ez,hp.ep,hp.ec⟩ (RdFl.own hk1 (has_tail hh)) hd1 ht.up hV) rfl (fun ⟨mb2,sb2⟩ _=>?_)
  dsimp only
  repeat' (first|intro _|refine cw ?_|refine cw2 ?_ ?_|refine ow ?_|refine ow2 ?_ ?_|fail)
  refine rt_tmp (h1,(mb2,sb2),q0,q1,q2) rfl rfl rfl hk1 ?_
  exact ent
def rtD29_1:List Row:=[⟨some 45,[],[],none⟩,⟨some 46,[0],[0],none⟩,⟨some 47,[1],[0,1],none⟩,⟨some 48,[2],[0,1,2],none⟩,⟨some 49,[],[],none⟩,⟨some 50,[4],[4],none⟩,⟨some 51,[],[],none⟩,⟨some 52,[6],[6],none⟩,⟨some 53,[3,5,7],[0,1,2,3,4,5,6,7],none⟩,⟨some 11,[8,8,0,1,2,3,4,5,6,7,8],[0,1,2,3,4,5,6,7,8],none⟩]
def rtD29_2:List Row:=[⟨some 45,[],[],none⟩,⟨some 46,[0],[0],none⟩,⟨some 47,[1],[0,1],none⟩,⟨some 48,[2],[0,1,2],none⟩,⟨some 49,[],[],none⟩,⟨some 50,[4],[4],none⟩,⟨some 51,[],[],none⟩,⟨some 52,[6],[6],none⟩,⟨some 53,[3,5,7],[0,1,2,3,4,5,6,7],none⟩,⟨some 11,[8,8,0,1,2,3,4,5,6,7,8],[0,1,2,3,4,5,6,7,8],none⟩]
theorem packet_Parse_sym (H:List Hl) (ad:Option Addr) (c m:Nat) (s id:BitVec 32) (x:List (BitVec 8)) (h:Rs (stars H) B ad c (symB s id x)) (hm:m=x.length+8) (h1:1≤x.length) (h2:x.length≤16) :
  Spec Tryz.prog 76 [.slice ad m c] H (fun _:Option Addr × Nat=>True) (fun r => .tuple #[.agg #[W4 s,W4 id,.slice r.1 x.length r.2],I 0]) (fun r => .row 5 1 (.slice r.1 x.length r.2) x.length (x.map B)::H):=by
 have hl:(symB s id x).length=x.length+8:=by simp [symB,be4]
 have h8:(symB s id x).take 8=be4 s++be4 id:=by simp [symB,be4]
 have hd:(symB s id x).drop 8=x:=by simp [symB,be4]
 have:=packet_Parse_ok H ad c (symB s id x) h (by omega) (by omega)
 rw [hl,h8,sym64_hi,sym64_lo,hd] at this
 rw [hm]
 exact this
theorem isP_par {m:ManD} {p:Prm} {len:Nat} (h:IsP m p len):m.parL=[W4 p.s,I p.k,I p.p,I p.z]∧mayP (count m.n m.z) m.p m.z=true:=by
 have hmay:mayP (count m.n m.z) m.p m.z=true:=by rw [h.en,h.ez,h.ep,h.ec];exact h.ok
 exact ⟨by rw [ManD.parL,if_pos hmay,h.es,h.en,h.ez,h.ep,h.ec],hmay⟩
set_option maxHeartbeats 8000000 in
theorem dv_takes_off (H:List Hl) (db fb:Nat) (ka:Option Addr) (kn kc:Nat) (mb:Nat) (x:StD) (lp:Option Addr) (ad2:Option Addr) (m2 c2:Nat) (s id:BitVec 32) (xs:List (BitVec 8)) (hb:Rs (stars H) B ad2 c2 (symB s id xs)) (hm2:m2=xs.length+8) (hx1:1≤xs.length) (hx2:xs.length≤16) (ho:x.on=false) :
  Spec Tryz.prog 37 [.pointer (some ⟨db,0,none⟩),.slice ad2 m2 c2] (dvB db fb ka kn kc (pM mb)::meB mb x lp::H) (fun _:Unit=>True) (fun _=>I 14) (fun r=>dvB db fb ka kn kc (pM mb)::meB mb x lp::H):=by
 refine spec_fn (res:=fun r:Unit=>[dvB db fb ka kn kc (pM mb),meB mb x lp]) [dvB db fb ka kn kc (pM mb),meB mb x lp] H Tryz.func37 rfl Tryz.ntmps37 (by kernel_rfl) rfl (fun W=>?_)
 dsimp only [List.cons_append,List.nil_append]
 repeat' (first|intro _|refine cw ?_|refine cw2 ?_ ?_|(refine k_fn 33 ?_;refine o1_call (fun _=>dv_LoadH db fb ka kn kc mb x lp) rfl (fun _ _=>?_))|(refine k_fn 76 ?_;(refine o1_call (fun _=>packet_Parse_sym _ ad2 c2 m2 s id xs hb.up hm2 hx1 hx2) rfl (fun ⟨a18,c18⟩ _=>?_);(try dsimp only)))|(refine k_alloc ?_;refine o1_alloc rfl (fun b6=>?_))|(refine k_load ?_;(refine ox_load (b:=mb) (i:=10) rfl rfl ?_;rw [ho]))|refine ow ?_|refine ow2 ?_ ?_|fail)
 refine rt_tmp () rfl rfl rfl trivial ?_
 exact ent
set_option maxHeartbeats 8000000 in
theorem dv_takes_fit (H:List Hl) (db fb:Nat) (ka:Option Addr) (kn kc:Nat) (mb:Nat) (x:StD) (lp:Option Addr) (ad2:Option Addr) (m2 c2:Nat) (s id:BitVec 32) (xs:List (BitVec 8)) (hb:Rs (stars H) B ad2 c2 (symB s id xs)) (hm2:m2=xs.length+8) (hx1:1≤xs.length) (hx2:xs.length≤16) (p:Prm) (len:Nat) (e:Int) (ho:x.on=true) (hp:IsP x.m p len) (he:fitsP p.k p.p p.z s p.s xs.length=e) (hne:e≠0) :
  Spec Tryz.prog 37 [.pointer (some ⟨db,0,none⟩),.slice ad2 m2 c2] (dvB db fb ka kn kc (pM mb)::meB mb x lp::H) (fun _:Unit=>True) (fun _=>I e) (fun r=>dvB db fb ka kn kc (pM mb)::meB mb x lp::H):=by
 refine spec_fn (res:=fun r:Unit=>[dvB db fb ka kn kc (pM mb),meB mb x lp]) [dvB db fb ka kn kc (pM mb),meB mb x lp] H Tryz.func37 rfl Tryz.ntmps37 (by kernel_rfl) rfl (fun W=>?_)
 dsimp only [List.cons_append,List.nil_append]
 obtain ⟨hpar,hmay⟩:=isP_par hp
 repeat' (first|intro _|refine cw ?_|refine cw2 ?_ ?_|(refine k_fn 33 ?_;refine o1_call (fun _=>dv_LoadH db fb ka kn kc mb x lp) rfl (fun _ _=>?_))|(refine k_fn 76 ?_;(refine o1_call (fun _=>packet_Parse_sym _ ad2 c2 m2 s id xs hb.up hm2 hx1 hx2) rfl (fun ⟨a18,c18⟩ _=>?_);(try dsimp only)))|(refine k_alloc ?_;refine o1_alloc rfl (fun b6=>?_))|(refine k_load ?_;(refine ox_load (b:=mb) (i:=10) rfl rfl ?_;rw [ho]))|(refine k_fn 58 ?_;(refine o1_call (fun _=>code_Of _ x.m) rfl (fun _ _=>?_);rw [hpar,hmay]))|(refine k_fn 77 ?_;(refine o1_call (fun _=>packet_Fits _ s id p.s p.k p.p p.z _ _ _) rfl (fun _ _=>?_);rw [he]))|(refine k_binOp .neq ?_;refine o1_neq_t rfl rfl hne ?_)|refine ow ?_|refine ow2 ?_ ?_|fail)
 refine rt_tmp () rfl rfl rfl trivial ?_
 exact ent
set_option maxHeartbeats 8000000 in
theorem dv_takes (H:List Hl) (db fb:Nat) (ka:Option Addr) (kn kc:Nat) (mb:Nat) (x:StD) (sb:Nat) (ad2:Option Addr) (m2 c2:Nat) (s id:BitVec 32) (xs:List (BitVec 8)) (hb:Rs (stars H) B ad2 c2 (symB s id xs)) (hm2:m2=xs.length+8) (hx1:1≤xs.length) (hx2:xs.length≤16) (ad:Option Addr) (c:Nat) (f:Fl) (h:Hid) (st:Sto) (len:Nat) (v:List Bool) (ho:x.on=true) (hp:IsP x.m st.p len) (hs:s=st.p.s) (hz:xs.length=st.p.z) (hR:RR st.p.n st.p.z st.d.M) (htk:st.d.t≤1000) (hv:SpRow st.p id v) (hk:FlOk f h) (hd:f.pw.isDown=false) (hn:st.nxt≤8*plW st.p.z) (ht:TabF (stars H)) (f1:Fl) (st1:Sto) (hput:putS st f id v xs=(st1,f1,0)) (hp1:st1.p.ok) (hb1:cntS st1.d.M≤1000) (hnd:((st1.p.n:Int) - cntS st1.d.M)≠0) :
  Spec Tryz.prog 37 [.pointer (some ⟨db,0,none⟩),.slice ad2 m2 c2] (dvB db fb ka kn kc (pM mb)::meB mb x (some ⟨sb,0,none⟩) :: .any (stP st fb sb)::fB fb ad c f h::fR ad c f::H) (fun h1:Hid=>FlOk f1 h1) (fun _=>I 0) (fun r=>dvB db fb ka kn kc (pM mb)::meB mb x (some ⟨sb,0,none⟩) :: .any (stP st1 fb sb)::fB fb ad c f1 r::fR ad c f1::H):=by
 refine spec_fn (res:=fun r:Hid=>[dvB db fb ka kn kc (pM mb),meB mb x (some ⟨sb,0,none⟩),.any (stP st1 fb sb),fB fb ad c f1 r,fR ad c f1]) [dvB db fb ka kn kc (pM mb),meB mb x (some ⟨sb,0,none⟩),.any (stP st fb sb),fB fb ad c f h,fR ad c f] H Tryz.func37 rfl Tryz.ntmps37 (by kernel_rfl) rfl (fun W=>?_)
 dsimp only [List.cons_append,List.nil_append]
 obtain ⟨hpar,hmay⟩:=isP_par hp
 have hfit:fitsP st.p.k st.p.p st.p.z s st.p.s xs.length=0:=by rw [hs];exact fits_0 hp.ok (by rw [hz])
 repeat' (first|intro _|refine cw ?_|refine cw2 ?_ ?_|(refine k_fn 33 ?_;refine o1_call (fun _=>dv_LoadH db fb ka kn kc mb x (some ⟨sb,0,none⟩)) rfl (fun _ _=>?_))|(refine k_fn 76 ?_;(refine o1_call (fun _=>packet_Parse_sym _ ad2 c2 m2 s id xs hb.up hm2 hx1 hx2) rfl (fun ⟨a18,c18⟩ _=>?_);(try dsimp only)))|(refine k_alloc ?_;refine o1_alloc rfl (fun b6=>?_))|(refine k_load ?_;(refine ox_load (b:=mb) (i:=10) rfl rfl ?_;rw [ho]))|(refine k_fn 58 ?_;(refine o1_call (fun _=>code_Of _ x.m) rfl (fun _ _=>?_);rw [hpar,hmay]))|(refine k_fn 77 ?_;(refine o1_call (fun _=>packet_Fits _ s id st.p.s st.p.k st.p.p st.p.z _ _ _) rfl (fun _ _=>?_);rw [hfit]))|refine ow ?_|refine ow2 ?_ ?_|fail)
 refine st_stages' [(5,_),(6,_)] rtD29_1 [8] [⟨[0,1,2,3,4,5,6,7],[],some 8⟩,⟨[9],[],none⟩] mixed cv (by kernel_rfl) (by kernel_rfl) ?_
 repeat' (first|intro _|refine sg ?_|(refine p_load ?_;refine po (by first|refine ox_load (b:=mb) (i:=17) rfl rfl fz|refine ox_load (b:=b6) (i:=1) rfl rfl fz|refine ox_load (b:=b6) (i:=2) rfl rfl fz|fail) ?_)|refine pw ?_|refine pdd ?_|(refine k_fn 78 ?_;(refine o1_call_to (.any (stP st fb sb)::fB fb ad c f h::fR ad c f::[dvB db fb ka kn kc (pM mb),meB mb x (some ⟨sb,0,none⟩),.row 5 1 (.slice a18 xs.length c18) xs.length (xs.map B),.any (stars H)]) (Ent.out ent) (fun hh=>so_Put _ st fb sb ad c f h id v a18 xs.length c18 xs hp.ok hR htk hv (rx_row (T:=5) (ad:=a18) (c:=c18) (l:=xs) (has_tail (has_tail (has_tail hh)))) rfl hz hk hd hn ht.up) rfl (fun h1 hk1=>?_);(rw [hput] at hk1 ⊢;dsimp only at hk1 ⊢)))|refine ow ?_|fail)
 all_goals dsimp only [List.cons_append,List.nil_append]
 repeat' (first|intro _|refine cw ?_|refine cw2 ?_ ?_|(refine k_load ?_;refine ox_load (b:=mb) (i:=17) rfl rfl ?_)|(refine k_fn 79 ?_;(refine o1_call_a (stP st1 fb sb) (fun _=>so_Needs _ st1 fb sb hp1 hb1) rfl (fun _ _=>?_)))|(refine k_binOp .eql ?_;refine o1_eql_f rfl rfl hnd ?_)|refine ow ?_|refine ow2 ?_ ?_|fail)
 refine rt_tmp h1 rfl rfl rfl hk1 ?_
 exact ent
set_option maxHeartbeats 8000000 in
theorem dv_takes_fin (H:List Hl) (db fb:Nat) (ka:Option Addr) (kn kc:Nat) (mb:Nat) (x:StD) (sb:Nat) (ad2:Option Addr) (m2 c2:Nat) (s id:BitVec 32) (xs:List (BitVec 8)) (hb:Rs (stars H) B ad2 c2 (symB s id xs)) (hm2:m2=xs.length+8) (hx1:1≤xs.length) (hx2:xs.length≤16) (ad:Option Addr) (c:Nat) (f:Fl) (h:Hid) (st:Sto) (len:Nat) (v:List Bool) (ho:x.on=true) (hp:IsP x.m st.p len) (hs:s=st.p.s) (hz:xs.length=st.p.z) (hR:RR st.p.n st.p.z st.d.M) (htk:st.d.t≤1000) (hv:SpRow st.p id v) (hk:FlOk f h) (hd:f.pw.isDown=false) (hn:st.nxt≤8*plW st.p.z) (ht:TabF (stars H)) (f1:Fl) (st1:Sto) (hput:putS st f id v xs=(st1,f1,0)) (hp1:st1.p.ok) (hb1:cntS st1.d.M≤1000) (hnd:cntS st1.d.M=st1.p.n) (im:List (BitVec 8)) (hR1:RR st1.p.n st1.p.z st1.d.M) (hl:count st1.len st1.p.z=st1.p.k) (him:imgB st1.p st1.d st1.len=im) (hi1:1≤im.length) (hi2:im.length≤512) (hsh:sha im=x.m.h.l) (hd1:f1.pw.isDown=false) (hm:x.may=true) (htr:x.t=0) (hx:x.Rd (stars H)) (f2:Fl) (hF:finF f1 x im=(f2,0)) :
  Spec Tryz.prog 37 [.pointer (some ⟨db,0,none⟩),.slice ad2 m2 c2] (dvB db fb ka kn kc (pM mb)::meB mb x (some ⟨sb,0,none⟩) :: .any (stP st fb sb)::fB fb ad c f h::fR ad c f::H) (fun r:Hid × Nat × PA × PA=>FlOk f2 r.1) (fun _=>I 0) (fun r=>dvB db fb ka kn kc (pM r.2.1)::meB r.2.1 (copyS (actS x) r.2.2.1 r.2.2.2 (none,0)) none::fB fb ad c f2 r.1::fR ad c f2::rowL r.2.2.1 (actS x).s0.h.l::rowL r.2.2.2 (actS x).s1.h.l::H):=by
 refine spec_fn (res:=fun r:Hid × Nat × PA × PA=>[dvB db fb ka kn kc (pM r.2.1),meB r.2.1 (copyS (actS x) r.2.2.1 r.2.2.2 (none,0)) none,fB fb ad c f2 r.1,fR ad c f2,rowL r.2.2.1 (actS x).s0.h.l,rowL r.2.2.2 (actS x).s1.h.l]) [dvB db fb ka kn kc (pM mb),meB mb x (some ⟨sb,0,none⟩),.any (stP st fb sb),fB fb ad c f h,fR ad c f] H Tryz.func37 rfl Tryz.ntmps37 (by kernel_rfl) rfl (fun W=>?_)
 dsimp only [List.cons_append,List.nil_append]
 obtain ⟨hpar,hmay⟩:=isP_par hp
 have hfit:fitsP st.p.k st.p.p st.p.z s st.p.s xs.length=0:=by rw [hs];exact fits_0 hp.ok (by rw [hz])
 have hn0:((st1.p.n:Int) - cntS st1.d.M)=0:=by rw [hnd];omega
 repeat' (first|intro _|refine cw ?_|refine cw2 ?_ ?_|(refine k_fn 33 ?_;refine o1_call (fun _=>dv_LoadH db fb ka kn kc mb x (some ⟨sb,0,none⟩)) rfl (fun _ _=>?_))|(refine k_fn 76 ?_;(refine o1_call (fun _=>packet_Parse_sym _ ad2 c2 m2 s id xs hb.up hm2 hx1 hx2) rfl (fun ⟨a18,c18⟩ _=>?_);(try dsimp only)))|(refine k_alloc ?_;refine o1_alloc rfl (fun b6=>?_))|(refine k_load ?_;(refine ox_load (b:=mb) (i:=10) rfl rfl ?_;rw [ho]))|(refine k_fn 58 ?_;(refine o1_call (fun _=>code_Of _ x.m) rfl (fun _ _=>?_);rw [hpar,hmay]))|(refine k_fn 77 ?_;(refine o1_call (fun _=>packet_Fits _ s id st.p.s st.p.k st.p.p st.p.z _ _ _) rfl (fun _ _=>?_);rw [hfit]))|refine ow ?_|refine ow2 ?_ ?_|fail)
 refine st_stages' [(5,_),(6,_)] rtD29_2 [8] [⟨[0,1,2,3,4,5,6,7],[],some 8⟩,⟨[9],[],none⟩] mixed cv (by kernel_rfl) (by kernel_rfl) ?_
 repeat' (first|intro _|refine sg ?_|(refine p_load ?_;refine po (by first|refine ox_load (b:=mb) (i:=17) rfl rfl fz|refine ox_load (b:=b6) (i:=1) rfl rfl fz|refine ox_load (b:=b6) (i:=2) rfl rfl fz|fail) ?_)|refine pw ?_|refine pdd ?_|(refine k_fn 78 ?_;(refine o1_call_to (.any (stP st fb sb)::fB fb ad c f h::fR ad c f::[dvB db fb ka kn kc (pM mb),meB mb x (some ⟨sb,0,none⟩),.row 5 1 (.slice a18 xs.length c18) xs.length (xs.map B),.any (stars H)]) (Ent.out ent) (fun hh=>so_Put _ st fb sb ad c f h id v a18 xs.length c18 xs hp.ok hR htk hv (rx_row (T:=5) (ad:=a18) (c:=c18) (l:=xs) (has_tail (has_tail (has_tail hh)))) rfl hz hk hd hn ht.up) rfl (fun h1 hk1=>?_);(rw [hput] at hk1 ⊢;dsimp only at hk1 ⊢)))|refine ow ?_|fail)
 all_goals dsimp only [List.cons_append,List.nil_append]
 repeat' (first|intro _|refine cw ?_|refine cw2 ?_ ?_|(refine k_load ?_;refine ox_load (b:=mb) (i:=17) rfl rfl ?_)|(refine k_fn 79 ?_;(refine o1_call_a (stP st1 fb sb) (fun _=>so_Needs _ st1 fb sb hp1 hb1) rfl (fun _ _=>?_);rw [hn0]))|(refine k_fn 80 ?_;(refine o1_call_to (dvB db fb ka kn kc (pM mb)::meB mb x (some ⟨sb,0,none⟩) :: .any (stP st1 fb sb)::fB fb ad c f1 h1::fR ad c f1::[.any (stars H)]) (Ent.out ent) (fun _=>dv_fin _ db fb ka kn kc mb sb ad c f1 f2 h1 x st1 im hm ho htr ⟨hx.s0.up,hx.s1.up,hx.m.up⟩ hk1 hd1 hp1 hR1 hnd hl him hi1 hi2 hsh hF) rfl (fun ⟨h2,mb2,q1,q2⟩ hk2=>?_);(try dsimp only at hk2 ⊢)))|refine ow ?_|refine ow2 ?_ ?_|fail)
 refine rt_tmp (h2,mb2,q1,q2) rfl rfl rfl hk2 ?_
 exact ent
def nf (x:StD):StD:=copyS x (none,0) (none,0) (none,0)
theorem nf_may (x:StD):(nf x).may=x.may:=copy_may x _ _ _
theorem nf_cur_v (x:StD):(nf x).cur.v=x.cur.v:=by
 unfold StD.cur
 show (if x.a=0 then (nf x).s0 else (nf x).s1).v=_
 split <;> rfl
theorem nf_err (x:StD) (m:ManD):errOf (nf x) m=errOf x m:=by
 have h1:=nf_may x
 have h2:(nf x).newer m.v=x.newer m.v:=by
  unfold StD.newer
  rw [h1,nf_cur_v]
  rfl
 unfold errOf
 rw [h1,h2]
 rfl
theorem nf_act (x:StD) (q1 q2:PA):nf (copyS (actS x) q1 q2 (none,0))=nf (actS (nf x)):=by
 obtain ⟨a,t,f,g,s0,s1,on,m⟩:=x
 by_cases ha:a=0
 ·simp [nf,copyS,actS,newSl,ha]
 ·simp [nf,copyS,actS,newSl,ha]
theorem nf_act2 (x:StD):nf (actS (nf x))=nf (actS x):=(nf_act x (none,0) (none,0)).symm
theorem nf_act_by (x:StD):(actS (nf x)).by=(actS x).by:=by
 have h1:(actS (nf x)).by=(nf (actS (nf x))).by:=rfl
 have h2:(actS x).by=(nf (actS x)).by:=rfl
 rw [h1,h2,nf_act2]
theorem nf_fin (f:Fl) (x:StD) (im:List (BitVec 8)):finF f (nf x) im=finF f x im:=by
 unfold finF
 rw [nf_act_by]
 rfl
structure Lay where
 fb:Nat
 ad:Option Addr
 c:Nat
 h:Hid
 mb:Nat
 sb:Nat
 ka:Option Addr
 kc:Nat
 x:StD
 A:Hp→Prop
structure DvK (key:List (BitVec 8)) (f:Fl) (l:Lay):Prop where
 fl:FlOk f l.h
 key:Rs l.A B l.ka l.kc key
structure DvX (key:List (BitVec 8)) (f:Fl) (s:StD) (l:Lay):Prop where
 fl:FlOk f l.h
 key:Rs l.A B l.ka l.kc key
 rd:l.x.Rd l.A
 nf:nf l.x=s
abbrev dvA (db:Nat) (key:List (BitVec 8)) (l:Lay) (mp:Option Addr):Hl:=dvB db l.fb l.ka key.length l.kc mp
abbrev flA (f:Fl) (l:Lay):Hl:=fB l.fb l.ad l.c f l.h
abbrev frA (f:Fl) (l:Lay):Hl:=fR l.ad l.c f
def dvI (key:List (BitVec 8)) (f:Fl) (s:StD) (db:Nat):Hp→Prop:=Som (DvX key f s) (fun l=>[dvA db key l (pM l.mb),meB l.mb l.x none,flA f l,frA f l,.any l.A])
def dvL (key:List (BitVec 8)) (f:Fl) (s:StD) (st:Sto) (db:Nat):Hp→Prop:=Som (DvX key f s) (fun l=>[dvA db key l (pM l.mb),meB l.mb l.x (some ⟨l.sb,0,none⟩),.any (stP st l.fb l.sb),flA f l,frA f l,.any l.A])
section
variable {P:Program} {k:Kon} {n:Nat} {e:Ev} {W:World} {H R:List Hl} {key:List (BitVec 8)} {f:Fl} {s:StD} {st:Sto} {db:Nat}
theorem rt_dvI (l:Lay) (hl:DvX key f s l) (hE:Ent H (dvA db key l (pM l.mb)::meB l.mb l.x none::flA f l::frA f l :: .any l.A::R)) (h:Rt P k n e W (.any (dvI key f s db)::R)):Rt P k n e W H:=rt_hide (p:=DvX key f s) (L:=fun l=>[dvA db key l (pM l.mb),meB l.mb l.x none,flA f l,frA f l,.any l.A]) l hl hE h
theorem rt_dvL (l:Lay) (hl:DvX key f s l) (hE:Ent H (dvA db key l (pM l.mb)::meB l.mb l.x (some ⟨l.sb,0,none⟩) :: .any (stP st l.fb l.sb)::flA f l::frA f l :: .any l.A::R)) (h:Rt P k n e W (.any (dvL key f s st db)::R)):Rt P k n e W H:=rt_hide (p:=DvX key f s) (L:=fun l=>[dvA db key l (pM l.mb),meB l.mb l.x (some ⟨l.sb,0,none⟩),.any (stP st l.fb l.sb),flA f l,frA f l,.any l.A]) l hl hE h
end
theorem inn_drop (k:BitVec 8) (b:List (BitVec 8)):(innB k b).drop 3=b:=rfl
set_option maxHeartbeats 8000000 in
theorem pk_hears_I (H:List Hl) (db:Nat) (key:List (BitVec 8)) (f:Fl) (s:StD) (ad2:Option Addr) (m2 c2:Nat) (b:List (BitVec 8)) (hb:Rs (stars H) B ad2 c2 (frameB 1#8 b)) (hm2:m2=b.length+9) (hbl:b.length≤291) (hb1:1≤b.length) (hkl:key.length≤64) (m:ManD) (p:Prm) (len:Nat) (V:BitVec 32→List Bool) (f1:Fl) (hpr:prM key b=(m,0)) (hms:s.may=true) (hmm:m.may=true) (he:errOf s m=0) (hd:f.pw.isDown=false) (hp:IsP m p len) (ht:TabF (stars H)) (hW:cellW f (admitS s m (none,0) (none,0) (none,0)).by=(f1,0)) (hd1:f1.pw.isDown=false) (hV:∀ r∈recsW f1.bs (s.g+1#32) p.z 8,SpRow p r.1 (V r.1)) :
  Spec Tryz.prog 12 [.pointer (some ⟨db,0,none⟩),.slice ad2 m2 c2] (.any (dvI key f s db)::H) (fun _:Unit=>True) (fun _=>I 0) (fun _ => .any (dvL key f1 (admitS s m (none,0) (none,0) (none,0)) (openS p (s.g+1#32) len V f1.bs) db)::H):=by
 refine Spec.som (by kernel_rfl) (fun ⟨fb,ad,c,h,mb,sb,ka,kc,x,A⟩ hl0=>?_)
 obtain ⟨hk,hkey,hx,hnf⟩:=hl0
 dsimp only at hk hkey hx hnf
 subst hnf
 show Spec _ _ _ ([dvB db fb ka key.length kc (pM mb),meB mb x none,fB fb ad c f h,fR ad c f,.any A]++H) _ _ _
 refine spec_fn (res:=fun _:Unit=>[.any (dvL key f1 (admitS (nf x) m (none,0) (none,0) (none,0)) (openS p ((nf x).g+1#32) len V f1.bs) db)]) [dvB db fb ka key.length kc (pM mb),meB mb x none,fB fb ad c f h,fR ad c f,.any A] H Tryz.func12 rfl Tryz.ntmps12 (by kernel_rfl) rfl (fun W=>?_)
 dsimp only [List.cons_append,List.nil_append]
 have he2:errOf x m=0:=by rw [←he,nf_err]
 have hmx:x.may=true:=by rw [←hms,nf_may]
 repeat' (first|intro _|refine cw ?_|refine cw2 ?_ ?_|refine o1_peql rfl rfl ?_|(refine k_fn 33 ?_;refine o1_call (fun _=>dv_LoadH db fb ka key.length kc mb x none) rfl (fun _ _=>?_))|(refine k_fn 34 ?_;(refine o1_call (fun _=>fr_Unwrap _ 1#8 ad2 m2 c2 b hb.up hm2 hbl hb1) rfl (fun ⟨a18,c18⟩ _=>?_);(try dsimp only);rw [show (((1#8:BitVec 8).toNat:Nat):Int)=1 from rfl]))|(refine k_fn 36 ?_;(refine o1_call_to (dvB db fb ka key.length kc (pM mb)::meB mb x none::fB fb ad c f h::fR ad c f::[.row 5 1 (.slice a18 (b.length+3) c18) (b.length+3) ((innB 1#8 b).map B),.any A,.any (stars H)]) (Ent.out ent) (fun hh=>dv_hears _ db fb ka key kc mb ad c f f1 h x none (cutA a18 c18 3) b.length (c18 - 3) b m p len V hkey.up (by omega) (rx_cutl (T:=5) (ad:=a18) (c:=c18) (n:=b.length+3) (l:=innB 1#8 b) (enc:=B) 3 (by rw [innB_len];omega) (inn_drop _ _) (has_tail (has_tail (has_tail (has_tail hh))))) rfl hpr ⟨hx.s0.up,hx.s1.up,hx.m.up⟩ hmx hmm he2 hk hd hp ht.up hW hd1 hV) rfl (fun ⟨h1,⟨mb2,sb2⟩,q0,q1,q2⟩ hk1=>?_);(try dsimp only at hk1 ⊢)))|(refine k_fn 35 ?_;refine o1_call_box (b:=db) (fun _=>dv_met _ db fb ka key.length kc (pM mb2) 0 (by decide)) rfl (fun _ _=>?_))|refine ow ?_|refine ow2 ?_ ?_|fail)
 refine rt_pack [rowL q0 x.s0.h.l,rowL q1 x.s1.h.l,rowL q2 m.h.l,.any A] [dvB db fb ka key.length kc (pM mb2),meB mb2 (admitS x m q0 q1 q2) (some ⟨sb2,0,none⟩),.any (stP (openS p (x.g+1#32) len V f1.bs) fb sb2),fB fb ad c f1 h1,fR ad c f1,.any (stars H)] ent ?_
 refine rt_has (fun hh=>?_)
 have hA:=has_any hh
 refine rt_dvL (l:=⟨fb,ad,c,h1,mb2,sb2,ka,kc,admitS x m q0 q1 q2,stars [rowL q0 x.s0.h.l,rowL q1 x.s1.h.l,rowL q2 m.h.l,.any A]⟩) (R:=[.any (stars H)]) ⟨hk1,rs_gr hkey Gr.of,⟨rx_row (T:=5) (ad:=q0.1) (c:=q0.2) (l:=x.s0.h.l) hA,rx_row (T:=5) (ad:=q1.1) (c:=q1.2) (l:=x.s1.h.l) hA,rx_row (T:=5) (ad:=q2.1) (c:=q2.2) (l:=m.h.l) hA⟩,rfl⟩ ent ?_
 refine rt_tmp () rfl rfl rfl trivial ?_
 exact ent
set_option maxHeartbeats 8000000 in
theorem pk_hears_no_L (H:List Hl) (db:Nat) (key:List (BitVec 8)) (f:Fl) (s:StD) (st:Sto) (ad2:Option Addr) (m2 c2:Nat) (b:List (BitVec 8)) (hb:Rs (stars H) B ad2 c2 (frameB 1#8 b)) (hm2:m2=b.length+9) (hbl:b.length≤291) (hb1:1≤b.length) (hkl:key.length≤64) (m:ManD) (e:Int) (hpr:prM key b=(m,0)) (he:errOf s m=e) (hne:e≠0) (h11:e≠11) :
  Spec Tryz.prog 12 [.pointer (some ⟨db,0,none⟩),.slice ad2 m2 c2] (.any (dvL key f s st db)::H) (fun _:Unit=>True) (fun _=>I e) (fun _ => .any (dvL key f s st db)::H):=by
 refine Spec.som (by kernel_rfl) (fun ⟨fb,ad,c,h,mb,sb,ka,kc,x,A⟩ hl0=>?_)
 obtain ⟨hk,hkey,hx,hnf⟩:=hl0
 dsimp only at hk hkey hx hnf
 subst hnf
 show Spec _ _ _ ([dvB db fb ka key.length kc (pM mb),meB mb x (some ⟨sb,0,none⟩),.any (stP st fb sb),fB fb ad c f h,fR ad c f,.any A]++H) _ _ _
 refine spec_fn (res:=fun _:Unit=>[.any (dvL key f (nf x) st db)]) [dvB db fb ka key.length kc (pM mb),meB mb x (some ⟨sb,0,none⟩),.any (stP st fb sb),fB fb ad c f h,fR ad c f,.any A] H Tryz.func12 rfl Tryz.ntmps12 (by kernel_rfl) rfl (fun W=>?_)
 dsimp only [List.cons_append,List.nil_append]
 have he2:errOf x m=e:=by rw [←he,nf_err]
 repeat' (first|intro _|refine cw ?_|refine cw2 ?_ ?_|refine o1_peql rfl rfl ?_|(refine k_fn 33 ?_;refine o1_call (fun _=>dv_LoadH db fb ka key.length kc mb x (some ⟨sb,0,none⟩)) rfl (fun _ _=>?_))|(refine k_fn 34 ?_;(refine o1_call (fun _=>fr_Unwrap _ 1#8 ad2 m2 c2 b hb.up hm2 hbl hb1) rfl (fun ⟨a18,c18⟩ _=>?_);(try dsimp only);rw [show (((1#8:BitVec 8).toNat:Nat):Int)=1 from rfl]))|(refine k_fn 36 ?_;(refine o1_call_to (dvB db fb ka key.length kc (pM mb)::meB mb x (some ⟨sb,0,none⟩)::[.row 5 1 (.slice a18 (b.length+3) c18) (b.length+3) ((innB 1#8 b).map B),.any (stP st fb sb),fB fb ad c f h,fR ad c f,.any A,.any (stars H)]) (Ent.out ent) (fun hh=>dv_hears_no _ db fb ka key kc mb x (some ⟨sb,0,none⟩) (cutA a18 c18 3) b.length (c18 - 3) b m e hkey.up (by omega) (rx_cutl (T:=5) (ad:=a18) (c:=c18) (n:=b.length+3) (l:=innB 1#8 b) (enc:=B) 3 (by rw [innB_len];omega) (inn_drop _ _) (has_tail (has_tail hh))) rfl hpr ⟨hx.s0.up,hx.s1.up,hx.m.up⟩ he2 hne) rfl (fun _ _=>?_)))|(refine k_fn 35 ?_;refine o1_call_box (b:=db) (fun _=>dv_met _ db fb ka key.length kc (pM mb) e h11) rfl (fun _ _=>?_))|refine ow ?_|refine ow2 ?_ ?_|fail)
 refine rt_dvL (l:=⟨fb,ad,c,h,mb,sb,ka,kc,x,A⟩) (R:=[.any (stars H)]) ⟨hk,hkey,hx,rfl⟩ ent ?_
 refine rt_tmp () rfl rfl rfl trivial ?_
 exact ent
set_option maxHeartbeats 8000000 in
theorem pk_hears_L (H:List Hl) (db:Nat) (key:List (BitVec 8)) (f:Fl) (s:StD) (st:Sto) (ad2:Option Addr) (m2 c2:Nat) (b:List (BitVec 8)) (hb:Rs (stars H) B ad2 c2 (frameB 1#8 b)) (hm2:m2=b.length+9) (hbl:b.length≤291) (hb1:1≤b.length) (hkl:key.length≤64) (m:ManD) (p:Prm) (len:Nat) (V:BitVec 32→List Bool) (f1:Fl) (hpr:prM key b=(m,0)) (hms:s.may=true) (hmm:m.may=true) (he:errOf s m=0) (hd:f.pw.isDown=false) (hp:IsP m p len) (ht:TabF (stars H)) (hW:cellW f (admitS s m (none,0) (none,0) (none,0)).by=(f1,0)) (hd1:f1.pw.isDown=false) (hV:∀ r∈recsW f1.bs (s.g+1#32) p.z 8,SpRow p r.1 (V r.1)) :
  Spec Tryz.prog 12 [.pointer (some ⟨db,0,none⟩),.slice ad2 m2 c2] (.any (dvL key f s st db)::H) (fun _:Unit=>True) (fun _=>I 0) (fun _ => .any (dvL key f1 (admitS s m (none,0) (none,0) (none,0)) (openS p (s.g+1#32) len V f1.bs) db)::H):=by
 refine Spec.som (by kernel_rfl) (fun ⟨fb,ad,c,h,mb,sb,ka,kc,x,A⟩ hl0=>?_)
 obtain ⟨hk,hkey,hx,hnf⟩:=hl0
 dsimp only at hk hkey hx hnf
 subst hnf
 show Spec _ _ _ ([dvB db fb ka key.length kc (pM mb),meB mb x (some ⟨sb,0,none⟩),.any (stP st fb sb),fB fb ad c f h,fR ad c f,.any A]++H) _ _ _
 refine spec_fn (res:=fun _:Unit=>[.any (dvL key f1 (admitS (nf x) m (none,0) (none,0) (none,0)) (openS p ((nf x).g+1#32) len V f1.bs) db)]) [dvB db fb ka key.length kc (pM mb),meB mb x (some ⟨sb,0,none⟩),.any (stP st fb sb),fB fb ad c f h,fR ad c f,.any A] H Tryz.func12 rfl Tryz.ntmps12 (by kernel_rfl) rfl (fun W=>?_)
 dsimp only [List.cons_append,List.nil_append]
 have he2:errOf x m=0:=by rw [←he,nf_err]
 have hmx:x.may=true:=by rw [←hms,nf_may]
 repeat' (first|intro _|refine cw ?_|refine cw2 ?_ ?_|refine o1_peql rfl rfl ?_|(refine k_fn 33 ?_;refine o1_call (fun _=>dv_LoadH db fb ka key.length kc mb x (some ⟨sb,0,none⟩)) rfl (fun _ _=>?_))|(refine k_fn 34 ?_;(refine o1_call (fun _=>fr_Unwrap _ 1#8 ad2 m2 c2 b hb.up hm2 hbl hb1) rfl (fun ⟨a18,c18⟩ _=>?_);(try dsimp only);rw [show (((1#8:BitVec 8).toNat:Nat):Int)=1 from rfl]))|(refine k_fn 36 ?_;(refine o1_call_to (dvB db fb ka key.length kc (pM mb)::meB mb x (some ⟨sb,0,none⟩)::fB fb ad c f h::fR ad c f::[.row 5 1 (.slice a18 (b.length+3) c18) (b.length+3) ((innB 1#8 b).map B),.any (stP st fb sb),.any A,.any (stars H)]) (Ent.out ent) (fun hh=>dv_hears _ db fb ka key kc mb ad c f f1 h x (some ⟨sb,0,none⟩) (cutA a18 c18 3) b.length (c18 - 3) b m p len V hkey.up (by omega) (rx_cutl (T:=5) (ad:=a18) (c:=c18) (n:=b.length+3) (l:=innB 1#8 b) (enc:=B) 3 (by rw [innB_len];omega) (inn_drop _ _) (has_tail (has_tail (has_tail (has_tail hh))))) rfl hpr ⟨hx.s0.up,hx.s1.up,hx.m.up⟩ hmx hmm he2 hk hd hp ht.up hW hd1 hV) rfl (fun ⟨h1,⟨mb2,sb2⟩,q0,q1,q2⟩ hk1=>?_);(try dsimp only at hk1 ⊢)))|(refine k_fn 35 ?_;refine o1_call_box (b:=db) (fun _=>dv_met _ db fb ka key.length kc (pM mb2) 0 (by decide)) rfl (fun _ _=>?_))|refine ow ?_|refine ow2 ?_ ?_|fail)
 refine rt_pack [rowL q0 x.s0.h.l,rowL q1 x.s1.h.l,rowL q2 m.h.l,.any A] [dvB db fb ka key.length kc (pM mb2),meB mb2 (admitS x m q0 q1 q2) (some ⟨sb2,0,none⟩),.any (stP (openS p (x.g+1#32) len V f1.bs) fb sb2),fB fb ad c f1 h1,fR ad c f1,.any (stars H)] ent ?_
 refine rt_has (fun hh=>?_)
 have hA:=has_any hh
 refine rt_dvL (l:=⟨fb,ad,c,h1,mb2,sb2,ka,kc,admitS x m q0 q1 q2,stars [rowL q0 x.s0.h.l,rowL q1 x.s1.h.l,rowL q2 m.h.l,.any A]⟩) (R:=[.any (stars H)]) ⟨hk1,rs_gr hkey Gr.of,⟨rx_row (T:=5) (ad:=q0.1) (c:=q0.2) (l:=x.s0.h.l) hA,rx_row (T:=5) (ad:=q1.1) (c:=q1.2) (l:=x.s1.h.l) hA,rx_row (T:=5) (ad:=q2.1) (c:=q2.2) (l:=m.h.l) hA⟩,rfl⟩ ent ?_
 refine rt_tmp () rfl rfl rfl trivial ?_
 exact ent
set_option maxHeartbeats 8000000 in
theorem pk_takes_off (H:List Hl) (db:Nat) (key:List (BitVec 8)) (f:Fl) (s:StD) (ad2:Option Addr) (m2 c2:Nat) (b:List (BitVec 8)) (hb:Rs (stars H) B ad2 c2 (frameB 2#8 b)) (hm2:m2=b.length+9) (hbl:b.length≤291) (hb1:1≤b.length) (hkl:key.length≤64) (ss id:BitVec 32) (xs:List (BitVec 8)) (hsym:symB ss id xs=b) (hx1:1≤xs.length) (hx2:xs.length≤16) (ho:s.on=false) :
  Spec Tryz.prog 12 [.pointer (some ⟨db,0,none⟩),.slice ad2 m2 c2] (.any (dvI key f s db)::H) (fun _:Unit=>True) (fun _=>I 14) (fun _ => .any (dvI key f s db)::H):=by
 refine Spec.som (by kernel_rfl) (fun ⟨fb,ad,c,h,mb,sb,ka,kc,x,A⟩ hl0=>?_)
 obtain ⟨hk,hkey,hx,hnf⟩:=hl0
 dsimp only at hk hkey hx hnf
 subst hnf
 show Spec _ _ _ ([dvB db fb ka key.length kc (pM mb),meB mb x none,fB fb ad c f h,fR ad c f,.any A]++H) _ _ _
 refine spec_fn (res:=fun _:Unit=>[.any (dvI key f (nf x) db)]) [dvB db fb ka key.length kc (pM mb),meB mb x none,fB fb ad c f h,fR ad c f,.any A] H Tryz.func12 rfl Tryz.ntmps12 (by kernel_rfl) rfl (fun W=>?_)
 dsimp only [List.cons_append,List.nil_append]
 have hml:b.length=xs.length+8:=by rw [←hsym];simp [symB,be4]
 repeat' (first|intro _|refine cw ?_|refine cw2 ?_ ?_|refine o1_peql rfl rfl ?_|(refine k_fn 33 ?_;refine o1_call (fun _=>dv_LoadH db fb ka key.length kc mb x none) rfl (fun _ _=>?_))|(refine k_fn 34 ?_;(refine o1_call (fun _=>fr_Unwrap _ 2#8 ad2 m2 c2 b hb.up hm2 hbl hb1) rfl (fun ⟨a18,c18⟩ _=>?_);(try dsimp only);rw [show (((2#8:BitVec 8).toNat:Nat):Int)=2 from rfl]))|(refine k_fn 37 ?_;(refine o1_call_to (dvB db fb ka key.length kc (pM mb)::meB mb x none::[.row 5 1 (.slice a18 (b.length+3) c18) (b.length+3) ((innB 2#8 b).map B),fB fb ad c f h,fR ad c f,.any A,.any (stars H)]) (Ent.out ent) (fun hh=>dv_takes_off _ db fb ka key.length kc mb x none (cutA a18 c18 3) b.length (c18 - 3) ss id xs (rx_cutl (T:=5) (ad:=a18) (c:=c18) (n:=b.length+3) (l:=innB 2#8 b) (enc:=B) 3 (by rw [innB_len];omega) ((inn_drop _ _).trans hsym.symm) (has_tail (has_tail hh))) hml hx1 hx2 ho) rfl (fun _ _=>?_);(try dsimp only)))|(refine k_fn 35 ?_;refine o1_call_box (b:=db) (fun _=>dv_met _ db fb ka key.length kc (pM mb) 14 (by decide)) rfl (fun _ _=>?_))|refine ow ?_|refine ow2 ?_ ?_|fail)
 refine rt_dvI (l:=⟨fb,ad,c,h,mb,sb,ka,kc,x,A⟩) (R:=[.any (stars H)]) ⟨hk,hkey,hx,rfl⟩ ent ?_
 refine rt_tmp () rfl rfl rfl trivial ?_
 exact ent
set_option maxHeartbeats 8000000 in
theorem pk_takes_fit (H:List Hl) (db:Nat) (key:List (BitVec 8)) (f:Fl) (s:StD) (st:Sto) (ad2:Option Addr) (m2 c2:Nat) (b:List (BitVec 8)) (hb:Rs (stars H) B ad2 c2 (frameB 2#8 b)) (hm2:m2=b.length+9) (hbl:b.length≤291) (hb1:1≤b.length) (hkl:key.length≤64) (ss id:BitVec 32) (xs:List (BitVec 8)) (hsym:symB ss id xs=b) (hx1:1≤xs.length) (hx2:xs.length≤16) (p:Prm) (len:Nat) (e:Int) (ho:s.on=true) (hp:IsP s.m p len) (he:fitsP p.k p.p p.z ss p.s xs.length=e) (hne:e≠0) (h11:e≠11) :
  Spec Tryz.prog 12 [.pointer (some ⟨db,0,none⟩),.slice ad2 m2 c2] (.any (dvL key f s st db)::H) (fun _:Unit=>True) (fun _=>I e) (fun _ => .any (dvL key f s st db)::H):=by
 refine Spec.som (by kernel_rfl) (fun ⟨fb,ad,c,h,mb,sb,ka,kc,x,A⟩ hl0=>?_)
 obtain ⟨hk,hkey,hx,hnf⟩:=hl0
 dsimp only at hk hkey hx hnf
 subst hnf
 show Spec _ _ _ ([dvB db fb ka key.length kc (pM mb),meB mb x (some ⟨sb,0,none⟩),.any (stP st fb sb),fB fb ad c f h,fR ad c f,.any A]++H) _ _ _
 refine spec_fn (res:=fun _:Unit=>[.any (dvL key f (nf x) st db)]) [dvB db fb ka key.length kc (pM mb),meB mb x (some ⟨sb,0,none⟩),.any (stP st fb sb),fB fb ad c f h,fR ad c f,.any A] H Tryz.func12 rfl Tryz.ntmps12 (by kernel_rfl) rfl (fun W=>?_)
 dsimp only [List.cons_append,List.nil_append]
 have hml:b.length=xs.length+8:=by rw [←hsym];simp [symB,be4]
 repeat' (first|intro _|refine cw ?_|refine cw2 ?_ ?_|refine o1_peql rfl rfl ?_|(refine k_fn 33 ?_;refine o1_call (fun _=>dv_LoadH db fb ka key.length kc mb x (some ⟨sb,0,none⟩)) rfl (fun _ _=>?_))|(refine k_fn 34 ?_;(refine o1_call (fun _=>fr_Unwrap _ 2#8 ad2 m2 c2 b hb.up hm2 hbl hb1) rfl (fun ⟨a18,c18⟩ _=>?_);(try dsimp only);rw [show (((2#8:BitVec 8).toNat:Nat):Int)=2 from rfl]))|(refine k_fn 37 ?_;(refine o1_call_to (dvB db fb ka key.length kc (pM mb)::meB mb x (some ⟨sb,0,none⟩)::[.row 5 1 (.slice a18 (b.length+3) c18) (b.length+3) ((innB 2#8 b).map B),.any (stP st fb sb),fB fb ad c f h,fR ad c f,.any A,.any (stars H)]) (Ent.out ent) (fun hh=>dv_takes_fit _ db fb ka key.length kc mb x (some ⟨sb,0,none⟩) (cutA a18 c18 3) b.length (c18 - 3) ss id xs (rx_cutl (T:=5) (ad:=a18) (c:=c18) (n:=b.length+3) (l:=innB 2#8 b) (enc:=B) 3 (by rw [innB_len];omega) ((inn_drop _ _).trans hsym.symm) (has_tail (has_tail hh))) hml hx1 hx2 p len e ho ⟨hp.ok,hp.es,hp.en,hp.ez,hp.ep,hp.ec⟩ he hne) rfl (fun _ _=>?_);(try dsimp only)))|(refine k_fn 35 ?_;refine o1_call_box (b:=db) (fun _=>dv_met _ db fb ka key.length kc (pM mb) e h11) rfl (fun _ _=>?_))|refine ow ?_|refine ow2 ?_ ?_|fail)
 refine rt_dvL (l:=⟨fb,ad,c,h,mb,sb,ka,kc,x,A⟩) (R:=[.any (stars H)]) ⟨hk,hkey,hx,rfl⟩ ent ?_
 refine rt_tmp () rfl rfl rfl trivial ?_
 exact ent
set_option maxHeartbeats 8000000 in
theorem pk_takes (H:List Hl) (db:Nat) (key:List (BitVec 8)) (f:Fl) (s:StD) (st:Sto) (ad2:Option Addr) (m2 c2:Nat) (b:List (BitVec 8)) (hb:Rs (stars H) B ad2 c2 (frameB 2#8 b)) (hm2:m2=b.length+9) (hbl:b.length≤291) (hb1:1≤b.length) (hkl:key.length≤64) (ss id:BitVec 32) (xs:List (BitVec 8)) (hsym:symB ss id xs=b) (hx1:1≤xs.length) (hx2:xs.length≤16) (len:Nat) (v:List Bool) (ho:s.on=true) (hp:IsP s.m st.p len) (hss:ss=st.p.s) (hz:xs.length=st.p.z) (hR:RR st.p.n st.p.z st.d.M) (htk:st.d.t≤1000) (hv:SpRow st.p id v) (hd:f.pw.isDown=false) (hn:st.nxt≤8*plW st.p.z) (ht:TabF (stars H)) (f1:Fl) (st1:Sto) (hput:putS st f id v xs=(st1,f1,0)) (hp1:st1.p.ok) (hb2:cntS st1.d.M≤1000) (hnd:((st1.p.n:Int) - cntS st1.d.M)≠0) :
  Spec Tryz.prog 12 [.pointer (some ⟨db,0,none⟩),.slice ad2 m2 c2] (.any (dvL key f s st db)::H) (fun _:Unit=>True) (fun _=>I 0) (fun _ => .any (dvL key f1 s st1 db)::H):=by
 refine Spec.som (by kernel_rfl) (fun ⟨fb,ad,c,h,mb,sb,ka,kc,x,A⟩ hl0=>?_)
 obtain ⟨hk,hkey,hx,hnf⟩:=hl0
 dsimp only at hk hkey hx hnf
 subst hnf
 show Spec _ _ _ ([dvB db fb ka key.length kc (pM mb),meB mb x (some ⟨sb,0,none⟩),.any (stP st fb sb),fB fb ad c f h,fR ad c f,.any A]++H) _ _ _
 refine spec_fn (res:=fun _:Unit=>[.any (dvL key f1 (nf x) st1 db)]) [dvB db fb ka key.length kc (pM mb),meB mb x (some ⟨sb,0,none⟩),.any (stP st fb sb),fB fb ad c f h,fR ad c f,.any A] H Tryz.func12 rfl Tryz.ntmps12 (by kernel_rfl) rfl (fun W=>?_)
 dsimp only [List.cons_append,List.nil_append]
 have hml:b.length=xs.length+8:=by rw [←hsym];simp [symB,be4]
 repeat' (first|intro _|refine cw ?_|refine cw2 ?_ ?_|refine o1_peql rfl rfl ?_|(refine k_fn 33 ?_;refine o1_call (fun _=>dv_LoadH db fb ka key.length kc mb x (some ⟨sb,0,none⟩)) rfl (fun _ _=>?_))|(refine k_fn 34 ?_;(refine o1_call (fun _=>fr_Unwrap _ 2#8 ad2 m2 c2 b hb.up hm2 hbl hb1) rfl (fun ⟨a18,c18⟩ _=>?_);(try dsimp only);rw [show (((2#8:BitVec 8).toNat:Nat):Int)=2 from rfl]))|(refine k_fn 37 ?_;(refine o1_call_to (dvB db fb ka key.length kc (pM mb)::meB mb x (some ⟨sb,0,none⟩) :: .any (stP st fb sb)::fB fb ad c f h::fR ad c f::[.row 5 1 (.slice a18 (b.length+3) c18) (b.length+3) ((innB 2#8 b).map B),.any A,.any (stars H)]) (Ent.out ent) (fun hh=>dv_takes _ db fb ka key.length kc mb x sb (cutA a18 c18 3) b.length (c18 - 3) ss id xs (rx_cutl (T:=5) (ad:=a18) (c:=c18) (n:=b.length+3) (l:=innB 2#8 b) (enc:=B) 3 (by rw [innB_len];omega) ((inn_drop _ _).trans hsym.symm) (has_tail (has_tail (has_tail (has_tail (has_tail hh)))))) hml hx1 hx2 ad c f h st len v ho ⟨hp.ok,hp.es,hp.en,hp.ez,hp.ep,hp.ec⟩ hss hz hR htk hv hk hd hn ht.up f1 st1 hput hp1 hb2 hnd) rfl (fun h1 hk1=>?_);(try dsimp only)))|(refine k_fn 35 ?_;refine o1_call_box (b:=db) (fun _=>dv_met _ db fb ka key.length kc (pM mb) 0 (by decide)) rfl (fun _ _=>?_))|refine ow ?_|refine ow2 ?_ ?_|fail)
 refine rt_dvL (l:=⟨fb,ad,c,h1,mb,sb,ka,kc,x,A⟩) (R:=[.any (stars H)]) ⟨hk1,hkey,hx,rfl⟩ ent ?_
 refine rt_tmp () rfl rfl rfl trivial ?_
 exact ent
set_option maxHeartbeats 8000000 in
theorem pk_takes_fin (H:List Hl) (db:Nat) (key:List (BitVec 8)) (f:Fl) (s:StD) (st:Sto) (ad2:Option Addr) (m2 c2:Nat) (b:List (BitVec 8)) (hb:Rs (stars H) B ad2 c2 (frameB 2#8 b)) (hm2:m2=b.length+9) (hbl:b.length≤291) (hb1:1≤b.length) (hkl:key.length≤64) (ss id:BitVec 32) (xs:List (BitVec 8)) (hsym:symB ss id xs=b) (hx1:1≤xs.length) (hx2:xs.length≤16) (len:Nat) (v:List Bool) (ho:s.on=true) (hp:IsP s.m st.p len) (hss:ss=st.p.s) (hz:xs.length=st.p.z) (hR:RR st.p.n st.p.z st.d.M) (htk:st.d.t≤1000) (hv:SpRow st.p id v) (hd:f.pw.isDown=false) (hn:st.nxt≤8*plW st.p.z) (ht:TabF (stars H)) (f1:Fl) (st1:Sto) (hput:putS st f id v xs=(st1,f1,0)) (hp1:st1.p.ok) (hb2:cntS st1.d.M≤1000) (hnd:cntS st1.d.M=st1.p.n) (im:List (BitVec 8)) (hR1:RR st1.p.n st1.p.z st1.d.M) (hl:count st1.len st1.p.z=st1.p.k) (him:imgB st1.p st1.d st1.len=im) (hi1:1≤im.length) (hi2:im.length≤512) (hsh:sha im=s.m.h.l) (hd1:f1.pw.isDown=false) (hms:s.may=true) (htr:s.t=0) (f2:Fl) (hF:finF f1 s im=(f2,0)) :
  Spec Tryz.prog 12 [.pointer (some ⟨db,0,none⟩),.slice ad2 m2 c2] (.any (dvL key f s st db)::H) (fun _:Unit=>True) (fun _=>I 0) (fun _ => .any (dvI key f2 (Go.Dp.nf (actS s)) db)::H):=by
 refine Spec.som (by kernel_rfl) (fun ⟨fb,ad,c,h,mb,sb,ka,kc,x,A⟩ hl0=>?_)
 obtain ⟨hk,hkey,hx,hnf⟩:=hl0
 dsimp only at hk hkey hx hnf
 subst hnf
 show Spec _ _ _ ([dvB db fb ka key.length kc (pM mb),meB mb x (some ⟨sb,0,none⟩),.any (stP st fb sb),fB fb ad c f h,fR ad c f,.any A]++H) _ _ _
 refine spec_fn (res:=fun _:Unit=>[.any (dvI key f2 (Go.Dp.nf (actS (nf x))) db)]) [dvB db fb ka key.length kc (pM mb),meB mb x (some ⟨sb,0,none⟩),.any (stP st fb sb),fB fb ad c f h,fR ad c f,.any A] H Tryz.func12 rfl Tryz.ntmps12 (by kernel_rfl) rfl (fun W=>?_)
 dsimp only [List.cons_append,List.nil_append]
 have hml:b.length=xs.length+8:=by rw [←hsym];simp [symB,be4]
 have hmx:x.may=true:=by rw [←hms,nf_may]
 rw [nf_fin] at hF
 have hF2:finF f1 x im=(f2,0):=hF
 repeat' (first|intro _|refine cw ?_|refine cw2 ?_ ?_|refine o1_peql rfl rfl ?_|(refine k_fn 33 ?_;refine o1_call (fun _=>dv_LoadH db fb ka key.length kc mb x (some ⟨sb,0,none⟩)) rfl (fun _ _=>?_))|(refine k_fn 34 ?_;(refine o1_call (fun _=>fr_Unwrap _ 2#8 ad2 m2 c2 b hb.up hm2 hbl hb1) rfl (fun ⟨a18,c18⟩ _=>?_);(try dsimp only);rw [show (((2#8:BitVec 8).toNat:Nat):Int)=2 from rfl]))|(refine k_fn 37 ?_;(refine o1_call_to (dvB db fb ka key.length kc (pM mb)::meB mb x (some ⟨sb,0,none⟩) :: .any (stP st fb sb)::fB fb ad c f h::fR ad c f::[.row 5 1 (.slice a18 (b.length+3) c18) (b.length+3) ((innB 2#8 b).map B),.any A,.any (stars H)]) (Ent.out ent) (fun hh=>dv_takes_fin _ db fb ka key.length kc mb x sb (cutA a18 c18 3) b.length (c18 - 3) ss id xs (rx_cutl (T:=5) (ad:=a18) (c:=c18) (n:=b.length+3) (l:=innB 2#8 b) (enc:=B) 3 (by rw [innB_len];omega) ((inn_drop _ _).trans hsym.symm) (has_tail (has_tail (has_tail (has_tail (has_tail hh)))))) hml hx1 hx2 ad c f h st len v ho ⟨hp.ok,hp.es,hp.en,hp.ez,hp.ep,hp.ec⟩ hss hz hR htk hv hk hd hn ht.up f1 st1 hput hp1 hb2 hnd im hR1 hl him hi1 hi2 hsh hd1 hmx htr ⟨hx.s0.up,hx.s1.up,hx.m.up⟩ f2 hF2) rfl (fun ⟨h2,mb2,q1,q2⟩ hk2=>?_);(try dsimp only at hk2 ⊢)))|(refine k_fn 35 ?_;refine o1_call_box (b:=db) (fun _=>dv_met _ db fb ka key.length kc (pM mb2) 0 (by decide)) rfl (fun _ _=>?_))|refine ow ?_|refine ow2 ?_ ?_|fail)
 refine rt_pack [rowL q1 (actS x).s0.h.l,rowL q2 (actS x).s1.h.l,.any A] [dvB db fb ka key.length kc (pM mb2),meB mb2 (copyS (actS x) q1 q2 (none,0)) none,fB fb ad c f2 h2,fR ad c f2,.any (stars H)] ent ?_
 refine rt_has (fun hh=>?_)
 have hA:=has_any hh
 refine rt_dvI (l:=⟨fb,ad,c,h2,mb2,sb,ka,kc,copyS (actS x) q1 q2 (none,0),stars [rowL q1 (actS x).s0.h.l,rowL q2 (actS x).s1.h.l,.any A]⟩) (R:=[.any (stars H)]) ⟨hk2,rs_gr hkey Gr.of,⟨rx_row (T:=5) (ad:=q1.1) (c:=q1.2) (l:=(actS x).s0.h.l) hA,rx_row (T:=5) (ad:=q2.1) (c:=q2.2) (l:=(actS x).s1.h.l) hA,rs00 hA⟩,nf_act x q1 q2⟩ ent ?_
 refine rt_tmp () rfl rfl rfl trivial ?_
 exact ent
end Go.Dp
