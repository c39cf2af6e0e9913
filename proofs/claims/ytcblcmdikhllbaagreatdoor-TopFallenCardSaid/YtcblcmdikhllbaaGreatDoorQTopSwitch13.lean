/-
  wheel: a sector's records, walked.
  wheel: Open, walked.
  wheel: Records, Room, enters, Add, walked.
  wheel: Add, walked.
  decode: Image, walked; the row of a symbol of the image's own.
  store: Open, Put, Kept, Needs, Image, walked.
  store: Put, Kept, Needs, Image, walked.
  Conditions: those that stand in each theorem.
-/
import Derived.Test.YtcblcmdikhllbaaGreatDoorQTopSwitch3
import Derived.Test.YtcblcmdikhllbaaGreatDoorQTopSwitch12
import Derived.Test.YtcblcmdikhllbaaGreatDoorQTopSwitch4
import Derived.Test.YtcblcmdikhllbaaGreatDoorQTopSwitch6
import Derived.Test.YtcblcmdikhllbaaGreatDoorQTopSwitch10
import Derived.Test.YtcblcmdikhllbaaGreatDoorQTopSwitch9
set_option linter.unusedVariables false
set_option linter.unusedSimpArgs false
namespace Go.Dp
open Go.RowKit Go.Proofs
def rtD16_0:List Row:=[⟨some 40,[],[],none⟩,⟨some 41,[],[],none⟩,⟨some 42,[1],[1],none⟩,⟨some 43,[2],[1,2],none⟩,⟨some 44,[3],[1,2,3],none⟩,⟨some 45,[],[],none⟩,⟨some 46,[5],[5],none⟩,⟨some 47,[4,6],[1,2,3,4,5,6],none⟩,⟨some 48,[0,0,1,2,3,4,5,6,7],[0,1,2,3,4,5,6,7],none⟩,⟨some 49,[8,0,1,2,3,4,5,6,7],[0,1,2,3,4,5,6,7,8],none⟩,⟨none,[9,7,7,0,1,2,3,4,5,6,7],[0,1,2,3,4,5,6,7,8,9],none⟩]
structure RecD where
 id:BitVec 32
 ad:Option Addr
 n:Nat
 cap:Nat
 l:List (BitVec 8)
def RecD.p (r:RecD):Rec:=(r.id,r.l)
abbrev rF (r:RecD):Value:=W4 r.id
abbrev rG (r:RecD):Value := .slice r.ad r.n r.cap
def RdRs (A:Hp→Prop) (rs:List RecD):Prop:=∀ r∈rs,Rs A B r.ad r.cap r.l∧r.l.length=r.n
theorem RdRs.gr {A A':Hp→Prop} {rs:List RecD} (h:RdRs A rs) (g:Gr A A'):RdRs A' rs:=fun r hr=>⟨rs_gr (h r hr).1 g,(h r hr).2⟩
theorem RdRs.nil {A:Hp→Prop}:RdRs A []:=fun r hr=>by cases hr
theorem RdRs.snoc {A:Hp→Prop} {rs:List RecD} {r:RecD} (h:RdRs A rs) (hr:Rs A B r.ad r.cap r.l) (hl:r.l.length=r.n):RdRs A (rs++[r]):=fun q hq=>by
 rcases List.mem_append.1 hq with hq|hq
 ·exact h q hq
 ·obtain rfl:q=r:=by simpa using hq
  exact ⟨hr,hl⟩
abbrev rsR (la:Option Addr) (lc:Nat) (rs:List RecD):Hl := .row 243 2 (.slice la rs.length lc) rs.length (w2 rF rG rs)
theorem recAt_len {l:List (BitVec 8)} {g:BitVec 32} {z p:Nat} {id:BitVec 32} {d:List (BitVec 8)} (h:recAt l g z p=some (id,d)) (ha:atW z p+(z+13)≤l.length):(seg l (atW z p) (z+8)).drop 8=d∧d.length=z:=by
 unfold recAt recC at h
 split at h
 ·cases h
 split at h
 ·cases h
 split at h
 ·cases h
 obtain ⟨_,e2⟩:=Prod.mk.inj (Option.some.inj h)
 have e3:(seg l (atW z p) (z+8)).drop 8=d:=by
  rw [←e2]
  unfold seg
  rw [List.drop_take,List.drop_take,List.take_take]
  congr 1;omega
 refine ⟨e3,?_⟩
 rw [←e3,List.length_drop,seg_len (by omega)]
 omega
set_option maxHeartbeats 8000000 in
theorem wh_reads (H:List Hl) (A:Hp→Prop) (wb fb:Nat) (g:BitVec 32) (z:Nat) (ad:Option Addr) (c:Nat) (f:Fl) (la:Option Addr) (lc:Nat) (rs:List RecD) (rdy:Int) (s:Nat) (hz1:1≤z) (hz2:z≤16) (hf:RdFl (stars H) fb ad c f) (hd:f.pw.isDown=false) (hs:s<8) (hrs:RdRs A rs) (hrl:rs.length≤1000) :
  Spec Tryz.prog 194 [.pointer (some ⟨wb,0,none⟩),I s] (whB wb fb g z la rs.length lc rdy 0::rsR la lc rs :: .any A::H)
   (fun r:(Option Addr × Nat × List RecD) × (Hp→Prop)=>r.1.2.2.map RecD.p=rs.map RecD.p++(if secOn f.bs g z s=true then recsP f.bs g z (s*plW z) (plW z) else [])∧RdRs r.2 r.1.2.2∧Gr A r.2∧r.1.2.2.length≤rs.length+18) (fun _ => .tuple #[])
   (fun r=>whB wb fb g z r.1.1 r.1.2.2.length r.1.2.1 (if secOn f.bs g z s=true then (s:Int) else rdy) 0::rsR r.1.1 r.1.2.1 r.1.2.2 :: .any r.2::H):=by
 refine spec_fn (res:=fun r:(Option Addr × Nat × List RecD) × (Hp→Prop)=>[whB wb fb g z r.1.1 r.1.2.2.length r.1.2.1 (if secOn f.bs g z s=true then (s:Int) else rdy) 0,rsR r.1.1 r.1.2.1 r.1.2.2,.any r.2]) [whB wb fb g z la rs.length lc rdy 0,rsR la lc rs,.any A] H Tryz.func194 rfl Tryz.ntmps194 (by kernel_rfl) rfl (fun W=>?_)
 dsimp only [List.cons_append,List.nil_append]
 obtain ⟨b1,b2,b3⟩:=pl_bounds hz1 hz2
 have hfl:=hf.l
 obtain ⟨L,hL⟩:∃ L,plW z=L:=⟨_,rfl⟩
 have hat:∀ p,p<8*L→atW z p+(z+13)≤f.bs.length:=fun p hp=>by have:=(at_bounds hz1 hz2 (p:=p) (by rw [hL];exact hp)).1;omega
 rw [hL] at b1 b2 b3
 obtain ⟨q,hq⟩:∃ q,s*L=q:=⟨_,rfl⟩
 have hqb:q+L≤8*L:=by
  have:(s+1)*L≤8*L:=Nat.mul_le_mul_right _ (by omega)
  rw [Nat.add_mul,Nat.one_mul,hq] at this
  exact this
 have hmul:(s:Int)*(L:Int)=(q:Int):=by rw [←hq];push_cast;rfl
 unfold secOn
 rw [hL,hq]
 have hq0:q<8*plW z:=by rw [hL];omega
 cases hw:recAt f.bs g z q with
 | none =>
  repeat' (first|intro _|refine cw ?_|refine cw2 ?_ ?_|(refine k_fn 164 ?_;(refine o1_call (fun _=>wh_places _ wb z (cl_box rfl) hz2) rfl (fun _ _=>?_);rw [hL]))|(refine k_binOp .mul ?_;(refine o1_mul rfl rfl (by rw [hmul];omega) ?_;rw [hmul]))|(refine k_fn 213 ?_;(refine o1_call (fun _=>wh_whole_no _ wb fb g z ad c f q (RdWh.own hz1 hz2) hf.up hq0 hd hw) rfl (fun _ _=>?_)))|refine ow ?_|refine ow2 ?_ ?_|fail)
  refine rt_none ((la,lc,rs),A) rfl rfl ⟨by simp,hrs,Gr.refl A,by simp⟩ ?_
  exact ent
 | some r0 =>
  obtain ⟨id0,d0⟩:=r0
  repeat' (first|intro _|refine cw ?_|refine cw2 ?_ ?_|(refine k_fn 164 ?_;(refine o1_call (fun _=>wh_places _ wb z (cl_box rfl) hz2) rfl (fun _ _=>?_);rw [hL]))|(refine k_binOp .mul ?_;(refine o1_mul rfl rfl (by rw [hmul];omega) ?_;rw [hmul]))|(refine k_fn 213 ?_;(refine o1_call (fun _=>wh_whole _ wb fb g z ad c f q id0 d0 _ (RdWh.own hz1 hz2) hf.up hq0 hd hw rfl) rfl (fun ⟨a0,c0⟩ _=>?_);(try dsimp only)))|refine ow ?_|refine ow2 ?_ ?_|fail)
  refine st_loop (S:=Nat × (Option Addr × Nat × List RecD) × (Hp→Prop)) (fun q1=>[(0,.pointer (some ⟨wb,0,none⟩)),(4,I q),(27,I L),(28,I q1.1)])
   (fun q1=>[whB wb fb g z q1.2.1.1 q1.2.1.2.2.length q1.2.1.2.1 s 0,rsR q1.2.1.1 q1.2.1.2.1 q1.2.1.2.2,.any q1.2.2,.any (stars H)])
   (fun q1=>q1.1≤L∧q1.2.1.2.2.map RecD.p=rs.map RecD.p++recsP f.bs g z q q1.1∧RdRs q1.2.2 q1.2.1.2.2∧Gr A q1.2.2∧q1.2.1.2.2.length≤rs.length+q1.1) (fun q1=>L - q1.1) (0,(la,lc,rs),A) ⟨Nat.zero_le _,by simp [recsP],hrs,Gr.refl A,Nat.le_refl _⟩
   cv (by show Ent _ [whB wb fb g z la rs.length lc s 0,rsR la lc rs,.any A,.any (stars H)];exact ent) ?_
  rintro ⟨i,⟨la1,lc1,rs1⟩,A1⟩ ⟨hi,hm,hr1,hg,hlen⟩
  dsimp only at hi hm hr1 hg hlen ⊢
  by_cases hlt:i<L
  ·have hpi:(q:Int)+(i:Int)=((q+i:Nat):Int):=by omega
   have hpb:q+i<8*plW z:=by rw [hL];omega
   cases hwi:recAt f.bs g z (q+i) with
   | none =>
    repeat' (first|intro _|refine cw ?_|refine cw2 ?_ ?_|(refine k_binOp .add ?_;(refine o1_add rfl rfl (by omega) ?_;(try rw [hpi])))|(refine k_fn 213 ?_;(refine o1_call (fun _=>wh_whole_no _ wb fb g z ad c f (q+i) (RdWh.own hz1 hz2) hf.up hpb hd hwi) rfl (fun _ _=>?_)))|refine ow ?_|refine ow2 ?_ ?_|fail)
    refine nx_again (i+1,(la1,lc1,rs1),A1) ⟨hlt,?_,hr1,hg,by show rs1.length≤rs.length+(i+1);omega⟩ (by show L - (i+1)<L - i;omega) cv ?_
    ·show rs1.map RecD.p=_
     rw [hm]
     simp only [recsP,hwi]
    exact ent
   | some r1 =>
    obtain ⟨id,d⟩:=r1
    obtain ⟨hdr,hdl⟩:=recAt_len hwi (hat _ (by rw [←hL];exact hpb))
    obtain ⟨Z,hZ⟩:∃ Z,seg f.bs (atW z (q+i)) (z+8)=Z:=⟨_,rfl⟩
    have hZl:Z.length=z+8:=by rw [←hZ];exact seg_len (by have:=hat (q+i) (by rw [←hL];exact hpb);omega)
    rw [hZ] at hdr
    repeat' (first|intro _|refine cw ?_|refine cw2 ?_ ?_|(refine k_binOp .add ?_;(refine o1_add rfl rfl (by omega) ?_;(try rw [hpi])))|(refine k_fn 213 ?_;(refine o1_call (fun _=>wh_whole _ wb fb g z ad c f (q+i) id d Z (RdWh.own hz1 hz2) hf.up hpb hd hwi hZ) rfl (fun ⟨a8,c8⟩ _=>?_);(try dsimp only)))|refine ow ?_|refine ow2 ?_ ?_|fail)
    refine st_stages' [(0,_),(8,_)] rtD16_0 [6,7,10] [⟨[0,1,2,3,4,5],[],some 6⟩,⟨[],[0,1,2,3,4],some 7⟩,⟨[8,9],[0],some 10⟩,⟨[],[],none⟩] mixed cv (by kernel_rfl) (by kernel_rfl) ?_
    repeat' (first|intro _|refine sg ?_|(refine p_load ?_;refine po (by first|refine ox_load (b:=wb) (i:=3) rfl rfl fz|fail) ?_)|refine pw ?_|refine pdd ?_|(refine k_buildSlice ?_;refine o1_lit_w rfl rfl (fun b46=>?_))|(refine k_call ?_;refine ox_append_w (f:=rF) (g:=rG) (xs:=rs1) (b:=b46) (y0:=⟨id,cutA a8 c8 8,z,c8 - 8,d⟩) rfl rfl rfl rfl rfl (by omega) (by omega) (fun a47 c47=>?_))|(refine k_store ?_;refine ox_stores (b:=wb) (i:=3) rfl rfl (by decide) rfl rfl ?_)|refine ow ?_|fail)
    all_goals dsimp only [List.cons_append,List.nil_append]
    have hsn:rs1.length+1=(rs1++[(⟨id,cutA a8 c8 8,z,c8 - 8,d⟩:RecD)]).length:=by simp
    rw [hsn]
    refine nx_pack [.row 5 1 (.slice a8 (z+8) c8) (z+8) (Z.map B),.any A1] [whB wb fb g z a47 (rs1++[(⟨id,cutA a8 c8 8,z,c8 - 8,d⟩:RecD)]).length c47 s 0,rsR a47 c47 (rs1++[⟨id,cutA a8 c8 8,z,c8 - 8,d⟩]),.any (stars H)] ent ?_
    refine nx_has (fun hh=>?_)
    have hA:=has_any hh
    have u1:=rx_cutl (T:=5) (ad:=a8) (c:=c8) (n:=z+8) (l:=Z) (enc:=B) 8 (by omega) hdr hA
    obtain ⟨A2,hA2⟩:∃ A2,stars [.row 5 1 (.slice a8 (z+8) c8) (z+8) (Z.map B),.any A1]=A2:=⟨_,rfl⟩
    have hg2:Gr A1 A2:=by rw [←hA2];exact Gr.of
    rw [hA2] at u1 ⊢
    clear hh hA hA2
    repeat' (first|intro _|refine cw ?_|refine cw2 ?_ ?_|refine ow ?_|refine ow2 ?_ ?_|fail)
    refine nx_again (i+1,(a47,c47,rs1++[⟨id,cutA a8 c8 8,z,c8 - 8,d⟩]),A2) ⟨hlt,?_,(hr1.gr hg2).snoc u1 hdl,hg.trans hg2,by show (rs1++[_]).length≤rs.length+(i+1);simp;omega⟩ (by show L - (i+1)<L - i;omega) cv ?_
    ·show (rs1++[_]).map RecD.p=_
     rw [List.map_append,hm]
     simp [recsP,hwi,RecD.p]
    exact ent
  ·have:i=L:=by omega
   subst this
   repeat' (first|intro _|refine cw ?_|refine cw2 ?_ ?_|refine ow ?_|refine ow2 ?_ ?_|fail)
   refine rt_none ((la1,lc1,rs1),A1) rfl rfl ⟨hm,hr1,hg,by show rs1.length≤rs.length+18;omega⟩ ?_
   exact ent
def rtD17_0:List Row:=[⟨some 48,[],[],none⟩,⟨some 49,[0],[0],none⟩,⟨some 50,[1],[0,1],none⟩,⟨some 51,[2],[0,1,2],none⟩,⟨some 52,[],[],none⟩,⟨some 53,[4],[4],none⟩,⟨some 54,[3,5],[0,1,2,3,4,5],none⟩,⟨some 12,[6,5,0,1,2,3,4,5,6],[0,1,2,3,4,5,6],none⟩]
theorem rdyW_cases (l:List (BitVec 8)) (g:BitVec 32) (z:Nat):∀ n,rdyW l g z n = -1∨∃ s,s<n∧rdyW l g z n=(s:Int)
 | 0 => .inl rfl
 | n+1=>by
  unfold rdyW
  split
  ·exact .inr ⟨n,by omega,rfl⟩
  ·rcases rdyW_cases l g z n with h|⟨s,h1,h2⟩
   ·exact .inl h
   ·exact .inr ⟨s,by omega,h2⟩
theorem ent_none {R:List Hl}:∀ h,stars R h→stars (.any (stars [])::R) h:=fun h hh=>⟨fun _=>none,h,fun _ => .inl rfl,fun _ _ e=>(by cases e),.refl _,trivial,hh⟩
set_option maxHeartbeats 8000000 in
theorem wh_Open (H:List Hl) (fb:Nat) (g:BitVec 32) (z:Nat) (ad:Option Addr) (c:Nat) (f:Fl) (hz1:1≤z) (hz2:z≤16) (hf:RdFl (stars H) fb ad c f) (hd:f.pw.isDown=false) :
  Spec Tryz.prog 159 [.pointer (some ⟨fb,0,none⟩),W4 g,I z] H
   (fun r:Nat × (Option Addr × Nat × List RecD) × (Hp→Prop)=>r.2.1.2.2.map RecD.p=recsW f.bs g z 8∧RdRs r.2.2 r.2.1.2.2∧r.2.1.2.2.length≤144) (fun r => .tuple #[.pointer (some ⟨r.1,0,none⟩),I 0])
   (fun r=>whB r.1 fb g z r.2.1.1 r.2.1.2.2.length r.2.1.2.1 (rdyW f.bs g z 8) (nxtW f.bs g z)::rsR r.2.1.1 r.2.1.2.1 r.2.1.2.2 :: .any r.2.2::H):=by
 refine spec_pure (res:=fun r:Nat × (Option Addr × Nat × List RecD) × (Hp→Prop)=>[whB r.1 fb g z r.2.1.1 r.2.1.2.2.length r.2.1.2.1 (rdyW f.bs g z 8) (nxtW f.bs g z),rsR r.2.1.1 r.2.1.2.1 r.2.1.2.2,.any r.2.2]) H Tryz.func159 rfl Tryz.ntmps159 (by kernel_rfl) rfl (fun W=>?_)
 obtain ⟨b1,b2,b3⟩:=pl_bounds hz1 hz2
 have hfl:=hf.l
 repeat' (first|intro _|refine cw ?_|refine cw2 ?_ ?_|refine o1_peql rfl rfl ?_|(refine k_fn 98 ?_;(refine o1_call (fun _=>fl_Read _ fb ad c f 0 0 hf.up (by omega) hd) rfl (fun ⟨a25,c25⟩ _=>?_);(try dsimp only)))|(refine k_box ?_;refine o1_box rfl rfl (fun wb=>?_))|refine ow ?_|refine ow2 ?_ ?_|fail)
 refine st_ent (ent_nil2 243 rF rG) (st_ent ent_none ?_)
 refine st_loop (S:=Nat × (Option Addr × Nat × List RecD) × (Hp→Prop)) (fun q=>[(0,.pointer (some ⟨fb,0,none⟩)),(10,.pointer (some ⟨wb,0,none⟩)),(36,I q.1)])
  (fun q=>[whB wb fb g z q.2.1.1 q.2.1.2.2.length q.2.1.2.1 (rdyW f.bs g z q.1) 0,rsR q.2.1.1 q.2.1.2.1 q.2.1.2.2,.any q.2.2,.any (stars H)])
  (fun q=>q.1≤8∧q.2.1.2.2.map RecD.p=recsW f.bs g z q.1∧RdRs q.2.2 q.2.1.2.2∧q.2.1.2.2.length≤q.1*18) (fun q=>8 - q.1) (0,(none,0,[]),stars []) ⟨Nat.zero_le _,rfl,RdRs.nil,Nat.le_refl _⟩
  cv (by show Ent _ [whB wb fb g z none 0 0 (-1) 0,rsR none 0 [],.any (stars []),.any (stars H)];exact ent) ?_
 rintro ⟨i,⟨la,lc,rs⟩,A⟩ ⟨hi,hm,hr,hlen⟩
 dsimp only at hi hm hr hlen ⊢
 by_cases hlt:i<8
 ·repeat' (first|intro _|refine cw ?_|refine cw2 ?_ ?_|(refine k_fn 194 ?_;(refine o1_call (fun _=>wh_reads _ A wb fb g z ad c f la lc rs (rdyW f.bs g z i) i hz1 hz2 hf.up hd hlt hr (by omega)) rfl (fun ⟨⟨la2,lc2,rs2⟩,A2⟩ ⟨k1,k2,k3,k4⟩=>?_);(try dsimp only at k1 k2 k3 k4 ⊢)))|refine ow ?_|refine ow2 ?_ ?_|fail)
  refine nx_again (i+1,(la2,lc2,rs2),A2) ⟨hlt,?_,k2,by show rs2.length≤(i+1)*18;omega⟩ (by show 8 - (i+1)<8 - i;omega) cv ?_
  ·show rs2.map RecD.p=_
   rw [k1,hm,recsW]
   split
   ·rfl
   ·rw [List.append_nil]
  ·show Ent _ [whB wb fb g z la2 rs2.length lc2 (rdyW f.bs g z (i+1)) 0,rsR la2 lc2 rs2,.any A2,.any (stars H)]
   rw [rdyW]
   exact ent
 ·have:i=8:=by omega
  subst this
  obtain ⟨L,hL⟩:∃ L,plW z=L:=⟨_,rfl⟩
  rw [hL] at b1 b2 b3
  unfold nxtW
  rw [hL]
  obtain ⟨rd,hrd⟩:∃ rd,rdyW f.bs g z 8=rd:=⟨_,rfl⟩
  have hcs:=rdyW_cases f.bs g z 8
  rw [hrd] at hcs ⊢
  rcases hcs with hneg|⟨s,hs,hsr⟩
  ·subst hneg
   repeat' (first|intro _|refine cw ?_|refine cw2 ?_ ?_|(refine k_load ?_;refine ox_load (b:=wb) (i:=4) rfl rfl ?_)|refine ow ?_|refine ow2 ?_ ?_|fail)
   refine rt_tmp2 (wb,(la,lc,rs),A) rfl rfl rfl rfl ⟨hm,hr,by show rs.length≤144;omega⟩ ?_
   exact ent
  ·subst hsr
   obtain ⟨q,hq⟩:∃ q,s*L=q:=⟨_,rfl⟩
   have hqb:q+L≤8*L:=by
    have:(s+1)*L≤8*L:=Nat.mul_le_mul_right _ (by omega)
    rw [Nat.add_mul,Nat.one_mul,hq] at this
    exact this
   have hmul:(s:Int)*(L:Int)=(q:Int):=by rw [←hq];push_cast;rfl
   have hadd:(q:Int)+(L:Int)=((q+L:Nat):Int):=by omega
   have hif:(if (s:Int)<0 then 0 else backW f.bs z ((s:Int).toNat*L) L)=backW f.bs z q L:=by
    rw [if_neg (by omega),Int.toNat_natCast,hq]
   rw [hif]
   obtain ⟨r,hbk⟩:∃ r,backW f.bs z q L=r:=⟨_,rfl⟩
   rw [hbk]
   repeat' (first|intro _|refine cw ?_|refine cw2 ?_ ?_|(refine k_load ?_;refine ox_load (b:=wb) (i:=4) rfl rfl ?_)|refine ow ?_|refine ow2 ?_ ?_|fail)
   refine st_stages' [(10,_)] rtD17_0 [5] [⟨[0,1,2,3,4],[],some 5⟩,⟨[6,7],[0,1,2,3],none⟩] mixed cv (by kernel_rfl) (by kernel_rfl) ?_
   repeat' (first|intro _|refine sg ?_|(refine p_load ?_;refine po (by first|refine ox_load (b:=wb) (i:=4) rfl rfl fz|fail) ?_)|(refine p_binOp .mul ?_;refine po (by first|((refine o1_mul rfl rfl (by rw [hmul];omega) ?_;rw [hmul]);all_goals exact fz)|fail) ?_)|refine pw ?_|refine pdd ?_|(refine k_fn 164 ?_;(refine o1_call (fun _=>wh_places _ wb z (cl_box rfl) hz2) rfl (fun _ _=>?_);rw [hL]))|refine ow ?_|fail)
   all_goals dsimp only [List.cons_append,List.nil_append]
   repeat' (first|intro _|refine cw ?_|refine cw2 ?_ ?_|(refine k_fn 164 ?_;(refine o1_call (fun _=>wh_places _ wb z (cl_box rfl) hz2) rfl (fun _ _=>?_);rw [hL]))|(refine k_binOp .add ?_;(refine o1_add rfl rfl (by omega) ?_;rw [hadd]))|(refine k_store ?_;refine ox_stores (b:=wb) (i:=5) rfl rfl (by decide) rfl rfl ?_)|refine ow ?_|refine ow2 ?_ ?_|fail)
   refine st_loop (S:=Nat) (fun k=>[(0,.pointer (some ⟨fb,0,none⟩)),(10,.pointer (some ⟨wb,0,none⟩)),(12,I q)])
    (fun k=>[whB wb fb g z la rs.length lc s (q+k),rsR la lc rs,.any A,.any (stars H)]) (fun k=>k≤L∧backW f.bs z q k=r) (fun k=>k) L ⟨Nat.le_refl _,hbk⟩ cv ent ?_
   intro k ⟨hk,hkr⟩
   try dsimp only at hk hkr ⊢
   cases k with
   | zero =>
    repeat' (first|intro _|refine cw ?_|refine cw2 ?_ ?_|(refine k_load ?_;refine ox_load (b:=wb) (i:=5) rfl rfl ?_)|(refine k_binOp .gtr ?_;refine o1_gtr_f rfl rfl (by omega) ?_)|refine ow ?_|refine ow2 ?_ ?_|fail)
    have hkr:q+0=r:=hkr
    rw [←hkr]
    refine rt_tmp2 (wb,(la,lc,rs),A) rfl rfl rfl rfl ⟨hm,hr,by show rs.length≤144;omega⟩ ?_
    exact ent
   | succ k =>
    have hsub:((q+(k+1):Nat):Int) - 1=((q+k:Nat):Int):=by omega
    have hpb:q+k<8*plW z:=by rw [hL];omega
    have hab:=(at_bounds hz1 hz2 hpb).1
    rw [backW] at hkr
    obtain ⟨y,hy⟩:∃ y,blankB (seg f.bs (atW z (q+k)) (z+13))=y:=⟨_,rfl⟩
    rw [hy] at hkr
    cases y
    ·rw [if_neg (by simp)] at hkr
     repeat' (first|intro _|refine cw ?_|refine cw2 ?_ ?_|(refine k_load ?_;refine ox_load (b:=wb) (i:=5) rfl rfl ?_)|(refine k_binOp .gtr ?_;refine o1_gtr_t rfl rfl (by omega) ?_)|(refine k_binOp .sub ?_;(refine o1_sub rfl rfl (by omega) ?_;rw [hsub]))|(refine k_fn 167 ?_;refine o1_call (fun _=>wh_at _ wb z (q+k) (cl_box rfl) hz1 hz2 hpb) rfl (fun _ _=>?_))|(refine k_fn 195 ?_;refine o1_call (fun _=>wh_wide _ wb z (cl_box rfl) hz2) rfl (fun _ _=>?_))|(refine k_fn 109 ?_;(refine o1_call (fun _=>fl_Blank _ fb ad c f (atW z (q+k)) (z+13) hf.up hab hd) rfl (fun _ _=>?_);rw [hy]))|refine ow ?_|refine ow2 ?_ ?_|fail)
     rw [←hkr]
     refine rt_tmp2 (wb,(la,lc,rs),A) rfl rfl rfl rfl ⟨hm,hr,by show rs.length≤144;omega⟩ ?_
     exact ent
    ·rw [if_pos rfl] at hkr
     repeat' (first|intro _|refine cw ?_|refine cw2 ?_ ?_|(refine k_load ?_;refine ox_load (b:=wb) (i:=5) rfl rfl ?_)|(refine k_binOp .gtr ?_;refine o1_gtr_t rfl rfl (by omega) ?_)|(refine k_binOp .sub ?_;(refine o1_sub rfl rfl (by omega) ?_;rw [hsub]))|(refine k_fn 167 ?_;refine o1_call (fun _=>wh_at _ wb z (q+k) (cl_box rfl) hz1 hz2 hpb) rfl (fun _ _=>?_))|(refine k_fn 195 ?_;refine o1_call (fun _=>wh_wide _ wb z (cl_box rfl) hz2) rfl (fun _ _=>?_))|(refine k_fn 109 ?_;(refine o1_call (fun _=>fl_Blank _ fb ad c f (atW z (q+k)) (z+13) hf.up hab hd) rfl (fun _ _=>?_);rw [hy]))|(refine k_store ?_;refine ox_stores (b:=wb) (i:=5) rfl rfl (by decide) rfl rfl ?_)|refine ow ?_|refine ow2 ?_ ?_|fail)
     refine nx_again k ⟨by omega,hkr⟩ (by omega) cv ?_
     exact ent
def rtD18_0:List Row:=[⟨some 17,[],[],none⟩,⟨some 18,[],[],none⟩,⟨some 19,[1],[1],none⟩,⟨some 20,[],[],none⟩,⟨some 21,[3],[3],none⟩,⟨some 22,[4],[3,4],none⟩,⟨some 23,[2,5],[1,2,3,4,5],none⟩,⟨some 24,[6],[1,2,3,4,5,6],none⟩,⟨some 25,[0,7,5],[0,1,2,3,4,5,6,7],none⟩,⟨some 3,[8,8,0,1,2,3,4,5,6,7,8],[0,1,2,3,4,5,6,7,8],none⟩]
def rtD18_1:List Row:=[⟨some 5,[],[],none⟩,⟨some 6,[0],[0],none⟩,⟨some 7,[1],[0,1],none⟩,⟨some 8,[],[],none⟩,⟨some 9,[3],[3],none⟩,⟨some 10,[4],[3,4],none⟩,⟨some 11,[5],[3,4,5],none⟩,⟨some 12,[2,6],[0,1,2,3,4,5,6],none⟩,⟨some 2,[7,1,0,1,2,3,4,5,6,7],[0,1,2,3,4,5,6,7],none⟩]
set_option maxHeartbeats 4000000 in
theorem wh_Records (H:List Hl) (wb:Nat) (la:Option Addr) (lc:Nat) (rs:List RecD) (hw:Cl (stars H) ⟨wb,3,none⟩ (.slice la rs.length lc)) (h2:R2 (stars H) rF rG la lc rs) (hr:RdRs (stars H) rs) (hb:rs.length≤1000) (hz:∀ r∈rs,r.l.length≤1000) :
  Spec Tryz.prog 161 [.pointer (some ⟨wb,0,none⟩)] H (fun r:(Option Addr × Nat × List RecD) × (Hp→Prop)=>r.1.2.2.map RecD.p=rs.map RecD.p∧RdRs r.2 r.1.2.2) (fun r => .slice r.1.1 r.1.2.2.length r.1.2.1) (fun r=>rsR r.1.1 r.1.2.1 r.1.2.2 :: .any r.2::H):=by
 refine spec_pure (res:=fun r:(Option Addr × Nat × List RecD) × (Hp→Prop)=>[rsR r.1.1 r.1.2.1 r.1.2.2,.any r.2]) H Tryz.func161 rfl Tryz.ntmps161 (by kernel_rfl) rfl (fun W=>?_)
 repeat' (first|intro _|refine cw ?_|refine cw2 ?_ ?_|refine o1_peql rfl rfl ?_|(refine k_load ?_;refine ox_load_any rfl hw ?_)|refine ow ?_|refine ow2 ?_ ?_|fail)
 refine st_ent (ent_nil2 243 rF rG) (st_ent ent_none ?_)
 refine st_loop (S:=Nat × (Option Addr × Nat × List RecD) × (Hp→Prop)) (fun q=>[(3,.slice q.2.1.1 q.2.1.2.2.length q.2.1.2.1),(11,.slice la rs.length lc),(12,I rs.length),(13,I q.1)])
  (fun q=>[rsR q.2.1.1 q.2.1.2.1 q.2.1.2.2,.any q.2.2,.any (stars H)])
  (fun q=>q.1≤rs.length∧q.2.1.2.2.map RecD.p=(rs.take q.1).map RecD.p∧RdRs q.2.2 q.2.1.2.2∧q.2.1.2.2.length=q.1) (fun q=>rs.length - q.1) (0,(none,0,[]),stars []) ⟨Nat.zero_le _,by simp,RdRs.nil,rfl⟩
  cv (by show Ent _ [rsR none 0 [],.any (stars []),.any (stars H)];exact ent) ?_
 rintro ⟨i,⟨la1,lc1,rs1⟩,A1⟩ ⟨hi,hm,hr1,hlen⟩
 dsimp only at hi hm hr1 hlen ⊢
 by_cases hlt:i<rs.length
 ·obtain ⟨r,hri⟩:∃ r,rs[i]?=some r:=⟨_,List.getElem?_eq_getElem hlt⟩
  obtain ⟨hrr,hrn⟩:=hr r (List.mem_of_getElem? hri)
  have hz1:=hz r (List.mem_of_getElem? hri)
  repeat' (first|intro _|refine cw ?_|refine cw2 ?_ ?_|(refine k_indexAddr ?_;refine o1_iaw (f:=rF) (g:=rG) (ad:=la) (c:=lc) i rfl rfl h2 rfl rfl hlt ?_)|(refine k_load ?_;refine o1_load_iaw (f:=rF) (g:=rG) (ad:=la) (c:=lc) i r rfl h2 hri ?_)|refine ow ?_|refine ow2 ?_ ?_|fail)
  refine st_stages' [(3,_),(5,_)] rtD18_0 [5,7,8] [⟨[0,1,2,3,4],[],some 5⟩,⟨[6],[0,1,2],some 7⟩,⟨[],[0],some 8⟩,⟨[9],[],none⟩] mixed cv (by kernel_rfl) (by kernel_rfl) ?_
  repeat' (first|intro _|refine sg ?_|refine pw ?_|refine pdd ?_|(refine k_fn 29 ?_;(refine o1_call (fun _=>(slices_Clone _ r.ad r.cap r.l (Rs.up hrr) (by omega)).argE (args':=[.slice r.ad r.n r.cap]) (by rw [hrn])) rfl (fun ⟨a22,c22⟩ _=>?_);(try dsimp only);rw [hrn]))|(refine k_buildSlice ?_;refine o1_lit_w rfl rfl (fun b24=>?_))|(refine k_call ?_;refine ox_append_w (f:=rF) (g:=rG) (xs:=rs1) (b:=b24) (y0:=⟨r.id,a22,r.n,c22,r.l⟩) rfl rfl rfl rfl rfl (by omega) (by omega) (fun a47 c47=>?_))|refine ow ?_|fail)
  all_goals dsimp only [List.cons_append,List.nil_append]
  have hsn:rs1.length+1=(rs1++[(⟨r.id,a22,r.n,c22,r.l⟩:RecD)]).length:=by simp
  rw [hsn]
  refine nx_pack [.row 5 1 (.slice a22 r.n c22) r.n (r.l.map B),.any A1] [rsR a47 c47 (rs1++[⟨r.id,a22,r.n,c22,r.l⟩]),.any (stars H)] ent ?_
  refine nx_has (fun hh=>?_)
  have hA:=has_any hh
  have u1:=rx_row (T:=5) (ad:=a22) (c:=c22) (n:=r.n) (l:=r.l) (enc:=B) hA
  obtain ⟨A2,hA2⟩:∃ A2,stars [.row 5 1 (.slice a22 r.n c22) r.n (r.l.map B),.any A1]=A2:=⟨_,rfl⟩
  have hg2:Gr A1 A2:=by rw [←hA2];exact Gr.of
  rw [hA2] at u1 ⊢
  clear hh hA hA2
  repeat' (first|intro _|refine cw ?_|refine cw2 ?_ ?_|refine ow ?_|refine ow2 ?_ ?_|fail)
  refine nx_again (i+1,(a47,c47,rs1++[⟨r.id,a22,r.n,c22,r.l⟩]),A2) ⟨hlt,?_,(hr1.gr hg2).snoc u1 hrn,by show (rs1++[_]).length=i+1;simp;omega⟩ (by show rs.length - (i+1)<rs.length - i;omega) cv ?_
  ·show (rs1++[_]).map RecD.p=(rs.take (i+1)).map RecD.p
   obtain ⟨_,he⟩:=List.getElem?_eq_some_iff.1 hri
   rw [List.map_append,hm,List.take_succ_eq_append_getElem hlt,List.map_append,he]
   rfl
  exact ent
 ·have:i=rs.length:=by omega
  subst this
  repeat' (first|intro _|refine cw ?_|refine cw2 ?_ ?_|refine ow ?_|refine ow2 ?_ ?_|fail)
  refine rt_tmp ((la1,lc1,rs1),A1) rfl rfl rfl ⟨by rw [hm,List.take_length],hr1⟩ ?_
  exact ent
theorem wh_Room (H:List Hl) (wb z nxt:Nat) (hz:Cl (stars H) ⟨wb,2,none⟩ (I z)) (hn:Cl (stars H) ⟨wb,5,none⟩ (I nxt)) (h1:1≤z) (h2:z≤16) (hb:nxt≤1000) :
  Spec Tryz.prog 163 [.pointer (some ⟨wb,0,none⟩)] H (fun _:Unit=>True) (fun _=>I (8*(plW z:Int) - nxt)) (fun _=>H):=by
 refine spec_pure (res:=fun _=>[]) H Tryz.func163 rfl Tryz.ntmps163 (by kernel_rfl) rfl (fun W=>?_)
 obtain ⟨b1,b2,b3⟩:=pl_bounds h1 h2
 repeat' (first|intro _|refine cw ?_|refine cw2 ?_ ?_|refine o1_peql rfl rfl ?_|refine ow ?_|refine ow2 ?_ ?_|fail)
 refine st_stages' [(0,_)] rtD18_1 [1] [⟨[0,3,4,5,6],[],some 1⟩,⟨[2,7,8],[3,4,5,6],none⟩] mixed cv (by kernel_rfl) (by kernel_rfl) ?_
 repeat' (first|intro _|refine sg ?_|(refine p_load ?_;refine po (by first|refine ox_load_any rfl hn fz|fail) ?_)|(refine p_binOp .mul ?_;refine po (by first|refine o1_mul rfl rfl (by omega) fz|fail) ?_)|(refine p_binOp .sub ?_;refine po (by first|refine o1_sub rfl rfl (by omega) fz|fail) ?_)|refine pw ?_|refine pdd ?_|(refine k_fn 164 ?_;refine o1_call (fun _=>wh_places _ wb z (cl_up hz) h2) rfl (fun _ _=>?_))|refine ow ?_|fail)
 all_goals dsimp only [List.cons_append,List.nil_append]
 repeat' (first|intro _|refine cw ?_|refine cw2 ?_ ?_|refine ow ?_|refine ow2 ?_ ?_|fail)
 refine rt_tmp () rfl rfl rfl trivial ?_
 exact ent
set_option maxHeartbeats 4000000 in
theorem wh_enters (H:List Hl) (wb fb:Nat) (g:BitVec 32) (z:Nat) (ad:Option Addr) (c:Nat) (f:Fl) (h:Hid) (rdy:Int) (s:Nat) (hw:Cl (stars H) ⟨wb,0,none⟩ (.pointer (some ⟨fb,0,none⟩))) (hr:Cl (stars H) ⟨wb,4,none⟩ (I rdy)) (hk:FlOk f h) (hd:f.pw.isDown=false) (hs:s<8) :
  Spec Tryz.prog 165 [.pointer (some ⟨wb,0,none⟩),I s] (fB fb ad c f h::fR ad c f::H) (fun h':Hid=>FlOk (entF f rdy s).1 h') (fun _=>I (entF f rdy s).2) (fun h'=>fB fb ad c (entF f rdy s).1 h'::fR ad c (entF f rdy s).1::H):=by
 refine spec_fn (res:=fun h':Hid=>[fB fb ad c (entF f rdy s).1 h',fR ad c (entF f rdy s).1]) [fB fb ad c f h,fR ad c f] H Tryz.func165 rfl Tryz.ntmps165 (by kernel_rfl) rfl (fun W=>?_)
 dsimp only [List.cons_append,List.nil_append]
 have a6:(6:Int)+(s:Int)=((6+s:Nat):Int):=by omega
 obtain ⟨a,ha⟩:∃ a,(6+s)*256=a:=⟨_,rfl⟩
 have hm:((6+s:Nat):Int)*256=(a:Int):=by omega
 obtain ⟨⟨f1,v1⟩,hr1⟩:∃ r,eraseF f (6+s)=r:=⟨_,rfl⟩
 unfold entF
 rw [ha,hr1]
 by_cases hrs:(s:Int)=rdy
 ·rw [if_pos hrs]
  repeat' (first|intro _|refine cw ?_|refine cw2 ?_ ?_|(refine k_load ?_;refine ox_load_any rfl hr ?_)|(refine k_binOp .eql ?_;refine o1_eql_t rfl rfl hrs ?_)|refine ow ?_|refine ow2 ?_ ?_|fail)
  refine rt_tmp h rfl rfl rfl hk ?_
  exact ent
 ·rw [if_neg hrs]
  cases q:blankB (seg f.bs a 256)
  ·rw [if_neg (by simp)]
   repeat' (first|intro _|refine cw ?_|refine cw2 ?_ ?_|(refine k_load ?_;first|refine ox_load_any rfl hr ?_|refine ox_load_any rfl hw ?_)|(refine k_binOp .eql ?_;refine o1_eql_f rfl rfl hrs ?_)|(refine k_binOp .add ?_;(refine o1_add rfl rfl (by omega) ?_;rw [a6]))|(refine k_binOp .mul ?_;(refine o1_mul rfl rfl (by omega) ?_;rw [hm]))|(refine k_fn 109 ?_;(refine o1_call (fun hh=>fl_Blank _ fb ad c f a 256 (RdFl.own hk hh) (by omega) hd) rfl (fun _ _=>?_);rw [q]))|(refine k_fn 110 ?_;(refine o1_call_fl fb ad c (fun _=>fl_Erase _ fb ad c f h (6+s) hk (by omega)) rfl (fun h1 hk1=>?_);(rw [hr1] at hk1 ⊢;dsimp only at hk1 ⊢)))|refine ow ?_|refine ow2 ?_ ?_|fail)
   refine rt_tmp h1 rfl rfl rfl hk1 ?_
   exact ent
  ·rw [if_pos rfl]
   repeat' (first|intro _|refine cw ?_|refine cw2 ?_ ?_|(refine k_load ?_;first|refine ox_load_any rfl hr ?_|refine ox_load_any rfl hw ?_)|(refine k_binOp .eql ?_;refine o1_eql_f rfl rfl hrs ?_)|(refine k_binOp .add ?_;(refine o1_add rfl rfl (by omega) ?_;rw [a6]))|(refine k_binOp .mul ?_;(refine o1_mul rfl rfl (by omega) ?_;rw [hm]))|(refine k_fn 109 ?_;(refine o1_call (fun hh=>fl_Blank _ fb ad c f a 256 (RdFl.own hk hh) (by omega) hd) rfl (fun _ _=>?_);rw [q]))|refine ow ?_|refine ow2 ?_ ?_|fail)
   refine rt_tmp h rfl rfl rfl hk ?_
   exact ent
def rtD19_0:List Row:=[⟨some 34,[],[],none⟩,⟨some 35,[0],[0],none⟩,⟨some 36,[1],[0,1],none⟩,⟨some 37,[2],[0,1,2],none⟩,⟨some 38,[],[],none⟩,⟨some 39,[4],[4],none⟩,⟨some 40,[3,5],[0,1,2,3,4,5],none⟩,⟨some 7,[6,5,0,1,2,3,4,5,6],[0,1,2,3,4,5,6],none⟩]
def rtD19_1:List Row:=[⟨some 58,[],[],none⟩,⟨some 59,[0],[0],none⟩,⟨some 60,[1],[0,1],none⟩,⟨some 61,[2],[0,1,2],none⟩,⟨some 62,[],[],none⟩,⟨some 63,[],[],none⟩,⟨some 64,[5],[5],none⟩,⟨some 65,[6],[5,6],none⟩,⟨some 66,[7],[5,6,7],none⟩,⟨some 67,[4,8],[4,5,6,7,8],none⟩,⟨some 68,[],[],none⟩,⟨some 69,[3,9,10,9],[0,1,2,3,4,5,6,7,8,9,10],none⟩,⟨some 10,[11,11,0,1,2,3,4,5,6,7,8,9,10,11],[0,1,2,3,4,5,6,7,8,9,10,11],none⟩]
def rtD19_2:List Row:=[⟨some 73,[],[],none⟩,⟨some 74,[0],[0],none⟩,⟨some 75,[1],[0,1],none⟩,⟨some 76,[2],[0,1,2],none⟩,⟨some 77,[],[],none⟩,⟨some 78,[],[],none⟩,⟨some 79,[5],[5],none⟩,⟨some 80,[6],[5,6],none⟩,⟨some 81,[7],[5,6,7],none⟩,⟨some 82,[4,8],[4,5,6,7,8],none⟩,⟨some 83,[],[],none⟩,⟨some 84,[10],[10],none⟩,⟨some 85,[9,11],[4,5,6,7,8,9,10,11],none⟩,⟨some 86,[],[],none⟩,⟨some 87,[3,12,13,9],[0,1,2,3,4,5,6,7,8,9,10,11,12,13],none⟩,⟨some 11,[14,14,0,1,2,3,4,5,6,7,8,9,10,11,12,13,14],[0,1,2,3,4,5,6,7,8,9,10,11,12,13,14],none⟩]
def rtD19_3:List Row:=[⟨some 102,[],[],none⟩,⟨some 103,[],[],none⟩,⟨some 104,[1],[1],none⟩,⟨some 105,[2],[1,2],none⟩,⟨some 106,[3],[1,2,3],none⟩,⟨some 107,[],[],none⟩,⟨some 108,[],[],none⟩,⟨some 109,[6],[6],none⟩,⟨some 110,[5,7],[5,6,7],none⟩,⟨some 111,[8],[5,6,7,8],none⟩,⟨some 112,[4,9,7],[1,2,3,4,5,6,7,8,9],none⟩,⟨some 113,[0,0,1,2,3,4,5,6,7,8,9,10],[0,1,2,3,4,5,6,7,8,9,10],none⟩,⟨some 114,[11,0,1,2,3,4,5,6,7,8,9,10],[0,1,2,3,4,5,6,7,8,9,10,11],none⟩,⟨none,[12,10,10,0,1,2,3,4,5,6,7,8,9,10],[0,1,2,3,4,5,6,7,8,9,10,11,12],none⟩]
theorem addW_full {f:Fl} {g:BitVec 32} {rdy:Int} {nxt:Nat} {id:BitVec 32} {d:List (BitVec 8)} (h:8*plW d.length=nxt):addW f g rdy nxt id d=(f,9):=by
 unfold addW
 rw [if_pos h]
theorem addW_up {f:Fl} {g:BitVec 32} {rdy:Int} {nxt:Nat} {id:BitVec 32} {d:List (BitVec 8)} (h:8*plW d.length≠nxt) (hd:f.pw.isDown=false):addW f g rdy nxt id d =
  if (entF f rdy (nxt / plW d.length)).2≠0 then entF f rdy (nxt / plW d.length) else
  if (progF (entF f rdy (nxt / plW d.length)).1 (atW d.length nxt) (recB g id d)).2≠0 then progF (entF f rdy (nxt / plW d.length)).1 (atW d.length nxt) (recB g id d) else
  progF (progF (entF f rdy (nxt / plW d.length)).1 (atW d.length nxt) (recB g id d)).1 (atW d.length nxt+(d.length+12)) [0#8]:=by
 unfold addW
 rw [if_neg h]
 cases hp:f.pw with
 | down z=>rw [hp] at hd;cases hd
 | on=>rfl
 | fuse n=>rfl
def rdyA (v:Int) (z nxt:Nat) (rdy:Int):Int:=if v=0 then ((nxt / plW z:Nat):Int) else rdy
def nxtA (v:Int) (nxt:Nat):Nat:=if v=0 then nxt+1 else nxt
set_option maxHeartbeats 16000000 in
theorem wh_Add (H:List Hl) (wb fb:Nat) (g:BitVec 32) (z:Nat) (la:Option Addr) (lc:Nat) (rs:List RecD) (rdy:Int) (nxt:Nat) (id:BitVec 32) (ad2:Option Addr) (c2:Nat) (d:List (BitVec 8)) (ad:Option Addr) (c:Nat) (f:Fl) (h:Hid) (hz1:1≤z) (hz2:z≤16) (hk:FlOk f h) (hd:f.pw.isDown=false) (hn:nxt≤8*plW z) (hdl:d.length=z) (hq:Rs (stars H) B ad2 c2 d) (hrl:rs.length≤1000) :
  Spec Tryz.prog 121 [.pointer (some ⟨wb,0,none⟩),W4 id,.slice ad2 z c2] (whB wb fb g z la rs.length lc rdy nxt::rsR la lc rs::fB fb ad c f h::fR ad c f::H)
   (fun r:Hid × (Option Addr × Nat × List RecD)=>FlOk (addW f g rdy nxt id d).1 r.1∧r.2.2.2.length≤nxtA (addW f g rdy nxt id d).2 rs.length) (fun _=>I (addW f g rdy nxt id d).2)
   (fun r=>whB wb fb g z r.2.1 r.2.2.2.length r.2.2.1 (rdyA (addW f g rdy nxt id d).2 z nxt rdy) (nxtA (addW f g rdy nxt id d).2 nxt)::rsR r.2.1 r.2.2.1 r.2.2.2::fB fb ad c (addW f g rdy nxt id d).1 r.1::fR ad c (addW f g rdy nxt id d).1::H):=by
 refine spec_fn (res:=fun r:Hid × (Option Addr × Nat × List RecD)=>[whB wb fb g z r.2.1 r.2.2.2.length r.2.2.1 (rdyA (addW f g rdy nxt id d).2 z nxt rdy) (nxtA (addW f g rdy nxt id d).2 nxt),rsR r.2.1 r.2.2.1 r.2.2.2,fB fb ad c (addW f g rdy nxt id d).1 r.1,fR ad c (addW f g rdy nxt id d).1]) [whB wb fb g z la rs.length lc rdy nxt,rsR la lc rs,fB fb ad c f h,fR ad c f] H Tryz.func121 rfl Tryz.ntmps121 (by kernel_rfl) rfl (fun W=>?_)
 dsimp only [List.cons_append,List.nil_append]
 have hbs:=hk.bs
 have q1:=hq.le
 have q2:=hq.big
 rw [hdl] at q1
 obtain ⟨b1,b2,b3⟩:=pl_bounds hz1 hz2
 obtain ⟨L,hL⟩:∃ L,plW z=L:=⟨_,rfl⟩
 rw [hL] at b1 b2 b3 hn
 by_cases hfull:8*L=nxt
 ·rw [addW_full (by rw [hdl,hL];exact hfull)]
  have he:8*((plW z:Nat):Int) - (nxt:Int)=0:=by rw [hL];omega
  repeat' (first|intro _|refine cw ?_|refine cw2 ?_ ?_|refine o1_peql rfl rfl ?_|(refine k_load ?_;refine ox_load (b:=wb) (i:=2) rfl rfl ?_)|(refine k_binOp .neq ?_;refine o1_neq_f rfl rfl rfl ?_)|(refine k_fn 163 ?_;(refine o1_call (fun _=>wh_Room _ wb z nxt (cl_box rfl) (cl_box rfl) hz1 hz2 (by omega)) rfl (fun _ _=>?_);rw [he]))|refine ow ?_|refine ow2 ?_ ?_|fail)
  refine rt_tmp (h,(la,lc,rs)) rfl rfl rfl ⟨hk,by show rs.length≤nxtA 9 rs.length;rw [nxtA,if_neg (by decide)];exact Nat.le_refl _⟩ ?_
  exact ent
 have hfull2:8*plW d.length≠nxt:=by rw [hdl,hL];exact hfull
 have hwu:=addW_up (f:=f) (g:=g) (rdy:=rdy) (id:=id) hfull2 hd
 have he:8*((plW z:Nat):Int) - (nxt:Int)≠0:=by rw [hL];omega
 obtain ⟨ab1,ab2⟩:=at_bounds hz1 hz2 (p:=nxt) (by rw [hL];omega)
 rw [hdl,hL] at hwu
 have hpb:nxt<8*plW z:=by rw [hL];omega
 obtain ⟨s,hs⟩:∃ s,nxt / L=s:=⟨_,rfl⟩
 have hs8:s<8:=by rw [←hs];exact Nat.div_lt_of_lt_mul (by rw [Nat.mul_comm];omega)
 have hqd:(nxt:Int) / (L:Int)=(s:Int):=by rw [←hs];rfl
 obtain ⟨a,ha⟩:∃ a,atW z nxt=a:=⟨_,rfl⟩
 obtain ⟨X,hX⟩:∃ X,be4 g++(be4 id++d)=X:=⟨_,rfl⟩
 have hXl:X.length=z+8:=by rw [←hX];simp [be4_len,hdl];omega
 obtain ⟨Q,hQ⟩:∃ Q,crcPut X=Q:=⟨_,rfl⟩
 have hQl:Q.length=z+12:=by rw [←hQ,crcPut_len,hXl]
 have hrec:recB g id d=Q:=by rw [←hQ,←hX];rfl
 obtain ⟨⟨f1,v1⟩,hr1⟩:∃ r,entF f rdy s=r:=⟨_,rfl⟩
 obtain ⟨⟨f2,v2⟩,hr2⟩:∃ r,progF f1 a Q=r:=⟨_,rfl⟩
 obtain ⟨⟨f3,v3⟩,hr3⟩:∃ r,progF f2 (a+(z+12)) [0#8]=r:=⟨_,rfl⟩
 rw [hs,ha,hrec,hr1] at hwu
 dsimp only at hwu
 rw [hr2] at hwu
 dsimp only at hwu
 rw [hr3] at hwu
 rw [ha] at ab1 ab2
 have hnx:(nxt:Int)+1=((nxt+1:Nat):Int):=by omega
 have hap:(a:Int)+((z+12:Nat):Int)=((a+(z+12):Nat):Int):=by omega
 have hcat:∀ x1 x2:Option Addr,cat [⟨x1,4,be4 g⟩,⟨x2,4,be4 id⟩,⟨ad2,c2,d⟩]=X:=fun x1 x2=>by rw [←hX];simp [cat]
 obtain ⟨R,hR⟩:∃ R,addW f g rdy nxt id d=R:=⟨_,rfl⟩
 rw [hR] at hwu ⊢
 subst hdl
 repeat' (first|intro _|refine cw ?_|refine cw2 ?_ ?_|refine o1_peql rfl rfl ?_|(refine k_load ?_;first|refine ox_load (b:=wb) (i:=2) rfl rfl ?_|refine ox_load (b:=wb) (i:=0) rfl rfl ?_)|(refine k_binOp .neq ?_;refine o1_neq_f rfl rfl rfl ?_)|(refine k_fn 163 ?_;refine o1_call (fun _=>wh_Room _ wb d.length nxt (cl_box rfl) (cl_box rfl) hz1 hz2 (by omega)) rfl (fun _ _=>?_))|(refine k_binOp .eql ?_;refine o1_eql_f rfl rfl he ?_)|(refine k_fn 63 ?_;(refine o1_call (fun hh=>fl_Down _ fb f (cl_box (flC_down hk.er))) rfl (fun _ _=>?_);rw [hd]))|refine ow ?_|refine ow2 ?_ ?_|fail)
 refine st_stages' [(0,_)] rtD19_0 [5] [⟨[0,1,2,3,4],[],some 5⟩,⟨[6,7],[0,1,2,3],none⟩] mixed cv (by kernel_rfl) (by kernel_rfl) ?_
 repeat' (first|intro _|refine sg ?_|(refine p_load ?_;refine po (by first|refine ox_load (b:=wb) (i:=5) rfl rfl fz|fail) ?_)|(refine p_binOp .quo ?_;refine po (by first|((refine o1_quo rfl rfl (by omega) ?_;rw [hqd]);all_goals exact fz)|fail) ?_)|refine pw ?_|refine pdd ?_|(refine k_fn 164 ?_;(refine o1_call (fun _=>wh_places _ wb d.length (cl_box rfl) hz2) rfl (fun _ _=>?_);rw [hL]))|refine ow ?_|fail)
 all_goals dsimp only [List.cons_append,List.nil_append]
 repeat' (first|intro _|refine cw ?_|refine cw2 ?_ ?_|(refine k_fn 165 ?_;(refine o1_call_fl fb ad c (fun _=>wh_enters _ wb fb g d.length ad c f h rdy s (cl_box rfl) (cl_box rfl) hk hd hs8) rfl (fun h1 hk1=>?_);(rw [hr1] at hk1 ⊢;dsimp only at hk1 ⊢)))|refine ow ?_|refine ow2 ?_ ?_|fail)
 ·rename_i hv
  rw [if_pos hv] at hwu
  subst hwu
  have e1:rdyA v1 d.length nxt rdy=rdy:=if_neg hv
  have e2:nxtA v1 nxt=nxt:=if_neg hv
  dsimp only
  rw [e1,e2]
  refine rt_tmp (h1,(la,lc,rs)) rfl rfl rfl ⟨hk1,by show rs.length≤nxtA v1 rs.length;rw [nxtA,if_neg hv];exact Nat.le_refl _⟩ ?_
  exact ent
 have hv1 : ¬ v1≠0:=by omega
 rw [if_neg hv1] at hwu
 repeat' (first|intro _|refine cw ?_|refine cw2 ?_ ?_|(refine k_load ?_;refine ox_load (b:=wb) (i:=1) rfl rfl ?_)|(refine k_fn 166 ?_;refine o1_call (fun _=>wh_word _ g) rfl (fun b51 _=>?_))|refine ow ?_|refine ow2 ?_ ?_|fail)
 repeat' (first|intro _|refine cw ?_|refine cw2 ?_ ?_|(refine k_fn 166 ?_;refine o1_call (fun _=>wh_word _ id) rfl (fun b53 _=>?_))|(refine k_buildSlice ?_;refine o1_lit_enc Bs [⟨some ⟨b51,0,none⟩,4,be4 g⟩,⟨some ⟨b53,0,none⟩,4,be4 id⟩,⟨ad2,c2,d⟩] rfl rfl rfl (fun _=>rfl) rfl rfl rfl (fun b55=>?_))|(refine k_fn 111 ?_;(refine o1_call (fun hh=>slices_Concat _ _ _ [⟨some ⟨b51,0,none⟩,4,be4 g⟩,⟨some ⟨b53,0,none⟩,4,be4 id⟩,⟨ad2,c2,d⟩] (rx_lit rfl rfl hh) (fa_cons (rx_lit rfl rfl hh) (fa_cons (rx_lit rfl rfl hh) (fa_cons (Rs.up hq) fa_nil))) (by rw [hcat];omega)) rfl (fun ⟨a56,c56⟩ _=>?_);(try dsimp only);rw [hcat]))|(refine k_fn 83 ?_;(refine o1_call (fun hh=>crc_Put _ a56 X.length c56 X (rx_row hh) rfl (by omega)) rfl (fun ⟨a57,c57⟩ _=>?_);(try dsimp only);rw [hQ,show X.length+4=Q.length by omega]))|refine ow ?_|refine ow2 ?_ ?_|fail)
 refine st_stages' [(0,_),(9,_)] rtD19_1 [9,11] [⟨[0,1,2,3,4,5,6,7,8,10],[],some 9⟩,⟨[],[0,1,2,3,10],some 11⟩,⟨[12],[],none⟩] mixed cv (by kernel_rfl) (by kernel_rfl) ?_
 repeat' (first|intro _|refine sg ?_|(refine p_load ?_;refine po (by first|refine ox_load (b:=wb) (i:=0) rfl rfl fz|refine ox_load (b:=wb) (i:=5) rfl rfl fz|fail) ?_)|refine pw ?_|refine pdd ?_|(refine k_fn 167 ?_;(refine o1_call (fun _=>wh_at _ wb d.length nxt (cl_box rfl) hz1 hz2 hpb) rfl (fun _ _=>?_);rw [ha]))|(refine k_fn 44 ?_;(refine o1_call_fl fb ad c (fun hh=>fl_Program _ fb ad c f1 h1 a a57 Q.length c57 Q hk1 (rx_row (has_tail (has_tail hh))) rfl (by omega)) rfl (fun h2 hk2=>?_);(rw [hr2] at hk2 ⊢;dsimp only at hk2 ⊢)))|refine ow ?_|fail)
 all_goals dsimp only [List.cons_append,List.nil_append]
 repeat' (first|intro _|refine cw ?_|refine cw2 ?_ ?_|refine ow ?_|refine ow2 ?_ ?_|fail)
 ·rename_i hv
  rw [if_pos hv] at hwu
  subst hwu
  have e1:rdyA v2 d.length nxt rdy=rdy:=if_neg hv
  have e2:nxtA v2 nxt=nxt:=if_neg hv
  dsimp only
  rw [e1,e2]
  refine rt_tmp (h2,(la,lc,rs)) rfl rfl rfl ⟨hk2,by show rs.length≤nxtA v2 rs.length;rw [nxtA,if_neg hv];exact Nat.le_refl _⟩ ?_
  exact ent
 have hv2 : ¬ v2≠0:=by omega
 rw [if_neg hv2] at hwu
 have hap:(a:Int)+(Q.length:Int)=((a+(d.length+12):Nat):Int):=by omega
 refine st_stages' [(0,_),(9,_)] rtD19_2 [13,14] [⟨[0,1,2,3,4,5,6,7,8,9,10,11,12],[],some 13⟩,⟨[],[0,1,2,3,4,5,6,7,8,9,10,11,12],some 14⟩,⟨[15],[],none⟩] mixed cv (by kernel_rfl) (by kernel_rfl) ?_
 repeat' (first|intro _|refine sg ?_|(refine p_load ?_;refine po (by first|refine ox_load (b:=wb) (i:=0) rfl rfl fz|refine ox_load (b:=wb) (i:=5) rfl rfl fz|fail) ?_)|(refine p_fn 167 ?_;refine po (by first|((refine o1_call (fun _=>wh_at _ wb d.length nxt (cl_box rfl) hz1 hz2 hpb) rfl (fun _ _=>?_);rw [ha]);all_goals exact fz)|fail) ?_)|(refine p_binOp .add ?_;refine po (by first|((refine o1_add rfl rfl (by omega) ?_;rw [hap]);all_goals exact fz)|fail) ?_)|refine pw ?_|refine pdd ?_|(refine k_buildSlice ?_;refine o1_lit_enc (T:=22) B [0#8] rfl rfl rfl (fun _=>rfl) rfl rfl rfl (fun b86=>?_))|(refine k_fn 44 ?_;(refine o1_call_fl fb ad c (fun hh=>fl_Program _ fb ad c f2 h2 (a+(d.length+12)) (some ⟨b86,0,none⟩) 1 1 [0#8] hk2 (rx_box rfl (by decide) (has_tail (has_tail hh))) rfl (by omega)) rfl (fun h3 hk3=>?_);(rw [hr3] at hk3 ⊢;dsimp only at hk3 ⊢)))|refine ow ?_|fail)
 all_goals dsimp only [List.cons_append,List.nil_append]
 repeat' (first|intro _|refine cw ?_|refine cw2 ?_ ?_|(refine k_binOp .add ?_;(refine o1_add rfl rfl (by omega) ?_;rw [hnx]))|refine ow ?_|refine ow2 ?_ ?_|fail)
 ·rename_i hv
  subst hwu
  have e1:rdyA v3 d.length nxt rdy=rdy:=if_neg hv
  have e2:nxtA v3 nxt=nxt:=if_neg hv
  dsimp only
  rw [e1,e2]
  refine rt_tmp (h3,(la,lc,rs)) rfl rfl rfl ⟨hk3,by show rs.length≤nxtA v3 rs.length;rw [nxtA,if_neg hv];exact Nat.le_refl _⟩ ?_
  exact ent
 have hv3:v3=0:=by omega
 subst hwu
 subst hv3
 have e1:rdyA 0 d.length nxt rdy=s:=by rw [rdyA,if_pos rfl,hL,hs]
 have e2:nxtA 0 nxt=nxt+1:=rfl
 dsimp only
 rw [e1,e2]
 refine st_stages' [(0,_),(1,_),(2,_)] rtD19_3 [7,9,10,13] [⟨[0,1,2,3,4,5,6],[],some 7⟩,⟨[8],[0,1,2,3,4,5],some 9⟩,⟨[],[0,1,2,3,4],some 10⟩,⟨[11,12],[0],some 13⟩,⟨[],[],none⟩] mixed cv (by kernel_rfl) (by kernel_rfl) ?_
 repeat' (first|intro _|refine sg ?_|(refine p_load ?_;refine po (by first|refine ox_load (b:=wb) (i:=3) rfl rfl fz|fail) ?_)|refine pw ?_|refine pdd ?_|(refine k_fn 29 ?_;(refine o1_call (fun _=>slices_Clone _ ad2 c2 d (Rs.up hq) (by omega)) rfl (fun ⟨a109,c109⟩ _=>?_);(try dsimp only)))|(refine k_buildSlice ?_;refine o1_lit_w rfl rfl (fun b111=>?_))|(refine k_call ?_;refine ox_append_w (f:=rF) (g:=rG) (xs:=rs) (b:=b111) (y0:=⟨id,a109,d.length,c109,d⟩) rfl rfl rfl rfl rfl (by omega) (by omega) (fun a112 c112=>?_))|(refine k_store ?_;refine ox_stores (b:=wb) (i:=3) rfl rfl (by decide) rfl rfl ?_)|refine ow ?_|fail)
 all_goals dsimp only [List.cons_append,List.nil_append]
 have hsn:rs.length+1=(rs++[(⟨id,a109,d.length,c109,d⟩:RecD)]).length:=by simp
 rw [hsn]
 repeat' (first|intro _|refine cw ?_|refine cw2 ?_ ?_|refine ow ?_|refine ow2 ?_ ?_|fail)
 refine rt_tmp (h3,(a112,c112,rs++[⟨id,a109,d.length,c109,d⟩])) rfl rfl rfl ⟨hk3,by show (rs++[_]).length≤nxtA 0 rs.length;simp [nxtA]⟩ ?_
 exact ent
def rtD23_0:List Row:=[⟨some 1,[],[],none⟩,⟨some 2,[],[],none⟩,⟨some 3,[1],[1],none⟩,⟨some 4,[2],[1,2],none⟩,⟨some 5,[3],[1,2,3],none⟩,⟨some 6,[4],[1,2,3,4],none⟩,⟨some 7,[0,0,1,2,3,4,5],[0,1,2,3,4,5],none⟩,⟨some 8,[6,0,1,2,3,4,5],[0,1,2,3,4,5,6],none⟩,⟨none,[7,5,5,0,1,2,3,4,5],[0,1,2,3,4,5,6,7],none⟩]
def rtD23_1:List Row:=[⟨some 5,[],[],none⟩,⟨some 6,[0],[0],none⟩,⟨some 7,[1],[0,1],none⟩,⟨some 8,[2],[0,1,2],none⟩,⟨some 9,[3],[0,1,2,3],none⟩,⟨some 10,[],[],none⟩,⟨some 11,[5],[5],none⟩,⟨some 12,[6],[5,6],none⟩,⟨some 13,[7],[5,6,7],none⟩,⟨some 14,[8,4],[0,1,2,3,4,5,6,7,8],none⟩,⟨some 15,[4,9],[0,1,2,3,4,5,6,7,8,9],none⟩,⟨some 2,[10,9,0,1,2,3,4,5,6,7,8,9,10],[0,1,2,3,4,5,6,7,8,9,10],none⟩]
def rtD23_2:List Row:=[⟨some 6,[],[],none⟩,⟨some 7,[0],[0],none⟩,⟨some 8,[1],[0,1],none⟩,⟨some 9,[2],[0,1,2],some (2,false)⟩,⟨some 10,[3,2,2],[0,1,2,3],some (2,false)⟩,⟨some 11,[4,2],[0,1,2,3,4],some (2,false)⟩,⟨some 12,[2,5],[0,1,2,3,4,5],none⟩,⟨some 13,[6,4],[0,1,2,3,4,5,6],none⟩,⟨some 14,[7],[0,1,2,3,4,5,6,7],some (7,false)⟩,⟨some 15,[7],[0,1,2,3,4,5,6,7],some (7,false)⟩,⟨some 16,[9,7],[0,1,2,3,4,5,6,7,9],some (7,false)⟩,⟨some 17,[10,7],[0,1,2,3,4,5,6,7,9,10],some (7,false)⟩,⟨some 18,[11,7],[0,1,2,3,4,5,6,7,9,10,11],some (7,false)⟩,⟨some 19,[12,7],[0,1,2,3,4,5,6,7,9,10,11,12],some (7,false)⟩,⟨some 20,[8,13,7,7],[0,1,2,3,4,5,6,7,8,9,10,11,12,13],some (7,false)⟩,⟨some 21,[7],[0,1,2,3,4,5,6,7],some (7,false)⟩,⟨some 22,[15,7],[0,1,2,3,4,5,6,7,15],some (7,false)⟩,⟨some 23,[16,7],[0,1,2,3,4,5,6,7,15,16],some (7,false)⟩,⟨some 24,[17,7],[0,1,2,3,4,5,6,7,15,16,17],some (7,false)⟩,⟨some 25,[18,7],[0,1,2,3,4,5,6,7,15,16,17,18],some (7,false)⟩,⟨some 26,[14,19,7],[0,1,2,3,4,5,6,7,8,9,10,11,12,13,14,15,16,17,18,19],some (7,false)⟩,⟨some 27,[7,20],[0,1,2,3,4,5,6,7,8,9,10,11,12,13,14,15,16,17,18,19,20],none⟩]
def rtD23_3:List Row:=[⟨some 33,[],[],none⟩,⟨some 34,[0],[0],none⟩,⟨some 35,[1],[0,1],none⟩,⟨some 36,[2],[0,1,2],none⟩,⟨some 37,[],[],none⟩,⟨some 38,[4],[4],none⟩,⟨some 39,[5],[4,5],none⟩,⟨some 40,[6],[4,5,6],none⟩,⟨some 41,[7],[4,5,6,7],none⟩,⟨some 42,[3,8],[0,1,2,3,4,5,6,7,8],none⟩,⟨some 43,[],[],none⟩,⟨some 44,[9,10],[0,1,2,3,4,5,6,7,8,9,10],none⟩,⟨some 4,[11,11,0,1,2,3,4,5,6,7,8,9,10,11],[0,1,2,3,4,5,6,7,8,9,10,11],none⟩,⟨some 5,[12,0,1,2,3,4,5,6,7,8,9,10,11,12],[0,1,2,3,4,5,6,7,8,9,10,11,12],none⟩]
def unitV (p:Prm) (id:BitVec 32):List Bool:=bitsOf p.n [(id.toNat:Int)]
theorem row_unit (p:Prm) (id:BitVec 32) (hp:p.ok) (h:id.toNat<p.k):SpRow p id (unitV p id):=by
 obtain ⟨p1,p2,p3,p4,p5⟩:=hp.out
 refine ⟨bitsOf_len _ _,fun H=>?_⟩
 refine spec_pure (res:=fun r:Nat × Option Addr × Nat=>[vB r.1 p.n r.2.1 r.2.2,vR p.n r.2.1 r.2.2 (unitV p id)]) H Tryz.func85 rfl Tryz.ntmps85 (by kernel_rfl) rfl (fun W=>?_)
 have e:(if mayP (p.k:Int) p.p p.z=true then (p.k:Int)+p.p else 0)=(p.n:Int):=by rw [if_pos hp];push_cast;rfl
 have hn1 : ¬ (p.n:Int)=0:=by show ¬ ((p.k+p.p:Nat):Int)=0;omega
 have hn2:p.n≤256:=by show p.k+p.p≤256;omega
 repeat' (first|intro _|refine cw ?_|refine cw2 ?_ ?_|(refine k_fn 135 ?_;(refine o1_call (fun _=>spread_Pieces _ p.s p.k p.p p.z) rfl (fun _ _=>?_);rw [e]))|(refine k_binOp .eql ?_;refine o1_eql_f rfl rfl hn1 ?_)|(refine k_convert ?_;first|refine o1_conv_u64 rfl (by omega) ?_|refine o1_conv_i rfl (by omega) ?_)|(refine k_binOp .lss ?_;refine o1_lss_t rfl rfl (by omega) ?_)|(refine k_buildSlice ?_;refine o1_lit_enc (T:=147) I [(id.toNat:Int)] rfl rfl rfl (fun _=>rfl) rfl rfl rfl (fun b20=>?_))|(refine k_fn 136 ?_;(refine o1_call (fun hh=>vec_Of _ p.n (some ⟨b20,0,none⟩) 1 [(id.toNat:Int)] hn2 (rx_box rfl (by decide) hh)) rfl (fun ⟨vb,va,vc⟩ _=>?_);(try dsimp only)))|refine ow ?_|refine ow2 ?_ ?_|fail)
 refine rt_tmp (vb,va,vc) rfl rfl rfl trivial ?_
 exact ent
abbrev deC (p:Prm) (mb t:Nat) (o:BitVec 32) (k:Int) (l:Value):List Value:=[W4 p.s,I p.k,I p.p,I p.z,.pointer (some ⟨mb,0,none⟩),I t,W4 o,K4 k,W4 0#32,l]
theorem de_Image1 (H:List Hl) (p:Prm) (mb t db v:Nat) (ar:Option Addr) (cr:Nat) (M:List (Option RD)) (R:List RD) (hM:RdM (stars H) mb p.n p.z ar cr p.n M) (hR:M=R.map some) :
  Spec Tryz.prog 200 [.pointer (some ⟨v,0,none⟩)] (.box db 221 (deC p mb t 0#32 1 (.slice none 0 0)) :: .box v 164 [.pointer (some ⟨db,0,none⟩)]::H) (fun r:Option Addr × Nat × List (SlD (BitVec 8))=>r.2.2.map (·.l)=R.map (·.d)) (fun _ => .tuple #[])
   (fun r => .box db 221 (deC p mb t 0#32 1 (.slice r.1 r.2.2.length r.2.1)) :: .box v 164 [.pointer (some ⟨db,0,none⟩)] :: .row 22 1 (.slice r.1 r.2.2.length r.2.1) r.2.2.length (r.2.2.map Bs) :: .any (pcs 5 r.2.2)::H):=by
 refine spec_fn (res:=fun r:Option Addr × Nat × List (SlD (BitVec 8))=>[.box db 221 (deC p mb t 0#32 1 (.slice r.1 r.2.2.length r.2.1)),.box v 164 [.pointer (some ⟨db,0,none⟩)],.row 22 1 (.slice r.1 r.2.2.length r.2.1) r.2.2.length (r.2.2.map Bs),.any (pcs 5 r.2.2)]) [.box db 221 (deC p mb t 0#32 1 (.slice none 0 0)),.box v 164 [.pointer (some ⟨db,0,none⟩)]] H Tryz.func200 rfl Tryz.ntmps200 (by kernel_rfl) rfl (fun W=>?_)
 dsimp only [List.cons_append,List.nil_append]
 repeat' (first|intro _|refine cw ?_|refine cw2 ?_ ?_|refine ow ?_|refine ow2 ?_ ?_|fail)
 refine st_stages' [(0,_)] rtD23_0 [5,8] [⟨[0,1,2,3,4],[],some 5⟩,⟨[6,7],[0],some 8⟩,⟨[],[],none⟩] mixed cv (by kernel_rfl) (by kernel_rfl) ?_
 repeat' (first|intro _|refine sg ?_|(refine p_load ?_;refine po (by first|refine ox_load (b:=v) (i:=0) rfl rfl fz|refine ox_load (b:=db) (i:=4) rfl rfl fz|fail) ?_)|refine pw ?_|refine pdd ?_|(refine k_fn 201 ?_;(refine o1_call (fun _=>elim_Solve _ mb p.n p.z ar cr M R hM.up hR) rfl (fun ⟨a6,c6,qs⟩ hqs=>?_);dsimp only at hqs ⊢))|(refine k_store ?_;refine ox_stores (b:=db) (i:=9) rfl rfl (by decide) rfl rfl ?_)|refine ow ?_|fail)
 all_goals dsimp only [List.cons_append,List.nil_append]
 repeat' (first|intro _|refine cw ?_|refine cw2 ?_ ?_|refine ow ?_|refine ow2 ?_ ?_|fail)
 refine rt_none (a6,c6,qs) rfl rfl hqs ?_
 exact ent
theorem de_Needs0 (H:List Hl) (p:Prm) (mb t:Nat) (o:BitVec 32) (k:Int) (l:Value) (db c:Nat) (hp:p.ok) (hb:c≤1000) (hc:Cl (stars H) ⟨mb,3,none⟩ (I c)) :
  Spec Tryz.prog 123 [.pointer (some ⟨db,0,none⟩)] (.box db 221 (deC p mb t o k l)::H) (fun _:Unit=>True) (fun _=>I ((p.n:Int) - c)) (fun _ => .box db 221 (deC p mb t o k l)::H):=by
 refine spec_fn (res:=fun _:Unit=>[.box db 221 (deC p mb t o k l)]) [.box db 221 (deC p mb t o k l)] H Tryz.func123 rfl Tryz.ntmps123 (by kernel_rfl) rfl (fun W=>?_)
 dsimp only [List.cons_append,List.nil_append]
 obtain ⟨p1,p2,p3,p4,p5⟩:=hp.out
 have hn2:p.n≤256:=by show p.k+p.p≤256;omega
 have e:(if mayP (p.k:Int) p.p p.z=true then (p.k:Int)+p.p else 0)=(p.n:Int):=by rw [if_pos hp];push_cast;rfl
 repeat' (first|intro _|refine cw ?_|refine cw2 ?_ ?_|refine o1_peql rfl rfl ?_|refine ow ?_|refine ow2 ?_ ?_|fail)
 refine st_stages' [(0,_)] rtD23_1 [4,9] [⟨[0,1,2,3,5,6,7,8],[],some 4⟩,⟨[],[5,6,7,8],some 9⟩,⟨[10,11],[],none⟩] mixed cv (by kernel_rfl) (by kernel_rfl) ?_
 repeat' (first|intro _|refine sg ?_|(refine p_load ?_;refine po (by first|refine ox_load (b:=db) (i:=4) rfl rfl fz|fail) ?_)|(refine p_binOp .sub ?_;refine po (by first|refine o1_sub rfl rfl (by omega) fz|fail) ?_)|refine pw ?_|refine pdd ?_|(refine k_fn 135 ?_;(refine o1_call (fun _=>spread_Pieces _ p.s p.k p.p p.z) rfl (fun _ _=>?_);rw [e]))|(refine k_fn 169 ?_;refine o1_call (fun _=>elim_Rank _ mb c (cl_up hc)) rfl (fun _ _=>?_))|refine ow ?_|fail)
 all_goals dsimp only [List.cons_append,List.nil_append]
 repeat' (first|intro _|refine cw ?_|refine cw2 ?_ ?_|refine ow ?_|refine ow2 ?_ ?_|fail)
 refine rt_tmp () rfl rfl rfl trivial ?_
 exact ent
def solD (M:List (Option LN)):List (List (BitVec 8)):=M.map (fun o=>match o with|some y=>y.2|none=>[])
def imgB (p:Prm) (d:Dec) (len:Nat):List (BitVec 8):=joinL ((solD d.M).take p.k).flatten len
theorem full_rows {M:List (Option RD)} {ML:List (Option LN)} (hM:M.map vw=ML) (hf:cntS ML=ML.length):∃ R:List RD,M=R.map some∧R.map (·.d)=solD ML:=by
 subst hM
 have hs:=full_some hf
 induction M with
 | nil=>exact ⟨[],rfl,rfl⟩
 | cons o M ih =>
  obtain ⟨y,hy⟩:=hs 0 (by simp)
  cases o with
  | none=>simp [vw] at hy
  | some r =>
   have hf2:cntS (M.map vw)=(M.map vw).length:=by
    have h1:=cntS_le (M.map vw)
    simp only [List.map_cons,List.length_cons,vw,Option.map_some,cntS] at hf
    omega
   obtain ⟨R,h1,h2⟩:=ih hf2 (full_some hf2)
   refine ⟨r::R,by rw [h1];rfl,?_⟩
   show r.d::R.map (·.d)=r.d::solD (M.map vw)
   rw [h2]
set_option maxHeartbeats 4000000 in
theorem de_Image (H:List Hl) (p:Prm) (d:Dec) (db len:Nat) (hp:p.ok) (hR:RR p.n p.z d.M) (hf:cntS d.M=p.n) (hl:count len p.z=p.k) :
  Spec Tryz.prog 170 [.pointer (some ⟨db,0,none⟩),I len] (.any (deP p d db)::H) (fun _:Option Addr × Nat=>True) (fun r => .tuple #[.slice r.1 (imgB p d len).length r.2,.bool true]) (fun r => .row 5 1 (.slice r.1 (imgB p d len).length r.2) (imgB p d len).length ((imgB p d len).map B)::H):=by
 refine Spec.som (by kernel_rfl) (fun ⟨mb,ar,cr,M⟩ ⟨hk,hM⟩=>?_)
 dsimp only at hk hM
 show Spec _ _ _ (deB db mb p d.t::mB mb p.n p.z ar cr (cntS d.M)::mR p.n ar cr M :: .any (mrows M)::H) _ _ _
 have hlen:=hR.lok.len
 obtain ⟨R,hMR,hRd⟩:=full_rows hM (by rw [hf,hlen])
 obtain ⟨p1,p2,p3,p4,p5⟩:=hp.out
 refine spec_fn (res:=fun r:Option Addr × Nat=>[.row 5 1 (.slice r.1 (imgB p d len).length r.2) (imgB p d len).length ((imgB p d len).map B)]) [deB db mb p d.t,mB mb p.n p.z ar cr (cntS d.M),mR p.n ar cr M,.any (mrows M)] H Tryz.func170 rfl Tryz.ntmps170 (by kernel_rfl) rfl (fun W=>?_)
 dsimp only [List.cons_append,List.nil_append]
 have hcn:count (len:Int) p.z≠0:=by rw [hl];omega
 obtain ⟨c1,c2,c3,c4,c5,c6,c7⟩:=count_pos hcn
 have hcb:cntS d.M≤1000:=by rw [hf];show p.k+p.p≤1000;omega
 have hf0:((p.n:Int) - (cntS d.M:Int))=0:=by rw [hf];omega
 repeat' (first|intro _|refine cw ?_|refine cw2 ?_ ?_|(refine k_box ?_;refine o1_box rfl rfl (fun v=>?_))|refine ow ?_|refine ow2 ?_ ?_|fail)
 refine st_stages' [(2,_),(1,_)] rtD23_2 [4,14] [⟨[0,1,2,3],[],some 4⟩,⟨[5,6,7,8,9,10,11,12,13,15,16,17,18,19],[],some 14⟩,⟨[20,21],[15,16,17,18,19],none⟩] mixed cv (by kernel_rfl) (by kernel_rfl) ?_
 repeat' (first|intro _|refine sg ?_|(refine p_load ?_;refine po (by first|refine ox_load (b:=v) (i:=0) rfl rfl fz|refine ox_load (b:=db) (i:=3) rfl rfl fz|refine ox_load (b:=db) (i:=1) rfl rfl fz|fail) ?_)|refine po (by first|refine o1_peql rfl rfl fz|fail) ?_|(refine p_binOp .neq ?_;refine po (by first|refine o1_neq_f rfl rfl rfl fz|fail) ?_)|refine pw ?_|refine pdd ?_|refine o1_peql rfl rfl ?_|(refine k_fn 123 ?_;(refine o1_call_box (b:=db) (fun _=>de_Needs0 _ p mb d.t 0#32 0 (.slice none 0 0) db (cntS d.M) hp hcb (cl_box rfl)) rfl (fun _ _=>?_);rw [hf0]))|(refine k_fn 105 ?_;(refine o1_call (fun _=>block_Count _ _ _) rfl (fun _ _=>?_);rw [hl]))|refine ow ?_|fail)
 all_goals dsimp only [List.cons_append,List.nil_append]
 have hRn:R.length=p.n:=by rw [←hk.len,hMR,List.length_map]
 have hpk:p.k≤p.n:=by show p.k≤p.k+p.p;omega
 rw [hf]
 repeat' (first|intro _|refine cw ?_|refine cw2 ?_ ?_|(refine k_fn 131 ?_;refine o1_call_box (b:=db) (fun hh=>on_Do _ db 6 _ (deC p mb d.t 0#32 0 (.slice none 0 0)) 200 [.pointer (some ⟨v,0,none⟩)] rfl rfl (de_Image1 _ p mb d.t db v ar cr M R (RdM.own hk (has_tail (has_tail hh))) hMR) (fun _ _=>rfl)) rfl (fun ⟨aq,cq,qs⟩ hqs=>?_))|refine o1_func rfl ?_|refine ow ?_|refine ow2 ?_ ?_|fail)
 dsimp only at hqs ⊢
 have hql:qs.length=p.n:=by have:=congrArg List.length hqs;simp only [List.length_map] at this;omega
 obtain ⟨Lq,hLq⟩:∃ Lq,qs.take p.k=Lq:=⟨_,rfl⟩
 have hLl:Lq.length=p.k:=by rw [←hLq,List.length_take];omega
 have hsub:∀ s∈Lq,s∈qs:=fun s hs=>by rw [←hLq] at hs;exact List.mem_of_mem_take hs
 have himg:joinL (cat Lq) len=imgB p d len:=by
  unfold imgB
  rw [←hRd,←hqs,←hLq,←List.map_take]
  rfl
 refine st_stages' [(2,_),(1,_)] rtD23_3 [11] [⟨[0,1,2,3,4,5,6,7,8,9,10],[],some 11⟩,⟨[12,13],[],none⟩] mixed cv (by kernel_rfl) (by kernel_rfl) ?_
 repeat' (first|intro _|refine sg ?_|(refine p_load ?_;refine po (by first|refine ox_load (b:=v) (i:=0) rfl rfl fz|refine ox_load (b:=db) (i:=9) rfl rfl fz|refine ox_load (b:=db) (i:=1) rfl rfl fz|fail) ?_)|(refine p_slice ?_;refine po (by first|((refine ox_cs_hr (enc:=Bs) (xs:=qs) p.k rfl rfl rfl rfl (by omega) ?_;rw [hLq]);all_goals exact fz)|fail) ?_)|refine pw ?_|refine pdd ?_|(refine k_fn 202 ?_;(refine o1_call (fun hh=>block_Join _ (cutA aq cq 0) (cq - 0) Lq len (rx_cuth (l:=qs) (enc:=Bs) p.k (by omega) hLq hh) (fun s hs=>pcs_read (T:=5) (ls:=qs) (hsub s hs) hh)) rfl (fun ⟨a44,c44⟩ _=>?_);(try dsimp only);rw [himg]))|refine ow ?_|fail)
 all_goals dsimp only [List.cons_append,List.nil_append]
 repeat' (first|intro _|refine cw ?_|refine cw2 ?_ ?_|refine ow ?_|refine ow2 ?_ ?_|fail)
 refine rt_tmp2 (a44,c44) rfl rfl rfl rfl trivial ?_
 exact ent
def rtD24_0:List Row:=[⟨some 33,[],[],none⟩,⟨some 34,[0],[0],none⟩,⟨some 35,[],[],none⟩,⟨some 36,[2],[2],none⟩,⟨some 37,[1,3],[0,1,2,3],none⟩,⟨some 38,[],[],none⟩,⟨some 39,[],[],none⟩,⟨some 40,[6],[6],none⟩,⟨some 41,[4,5,7],[0,1,2,3,4,5,6,7],none⟩,⟨some 42,[8],[0,1,2,3,4,5,6,7,8],none⟩,⟨some 12,[9,7,0,1,2,3,4,5,6,7,8,9],[0,1,2,3,4,5,6,7,8,9],none⟩]
def rtD24_1:List Row:=[⟨some 50,[],[],none⟩,⟨some 51,[0],[0],none⟩,⟨some 52,[1],[0,1],none⟩,⟨some 53,[2],[0,1,2],none⟩,⟨some 54,[],[],none⟩,⟨some 55,[4],[4],none⟩,⟨some 56,[],[],none⟩,⟨some 57,[6],[6],none⟩,⟨some 58,[3,5,7],[0,1,2,3,4,5,6,7],none⟩]
theorem rx_w2 {α:Type} {H H':List Hl} {T:TypeId} {f g:α→Value} {ad:Option Addr} {n c:Nat} {l:List α} [s:SRw2 H ad c n T (w2 f g l) H'] (hh:Has H):R2 (stars H) f g ad c l:=R2.of_row s.s hh
theorem RdRs.up {A:Hp→Prop} {rs:List RecD} {H H':List Hl} (h:RdRs A rs) [s:SAny H A H']:RdRs (stars H) rs:=fun r hr=>⟨(h r hr).1.up,(h r hr).2⟩
structure Sto where
 p:Prm
 g:BitVec 32
 len:Nat
 rdy:Int
 nxt:Nat
 d:Dec
abbrev soB (sb wb db:Nat) (st:Sto):Hl := .box sb 166 [W4 0#32,W4 0#32,I st.len,I st.p.z,I 0,.slice none 0 0,.pointer (some ⟨wb,0,none⟩),.pointer (some ⟨db,0,none⟩)]
abbrev SLay:=Nat × Nat × Option Addr × Nat × List RecD
def stL (st:Sto) (fb sb:Nat) (l:SLay):List Hl:=[soB sb l.1 l.2.1 st,whB l.1 fb st.g st.p.z l.2.2.1 l.2.2.2.2.length l.2.2.2.1 st.rdy st.nxt,rsR l.2.2.1 l.2.2.2.1 l.2.2.2.2,.any (deP st.p st.d l.2.1)]
def stP (st:Sto) (fb sb:Nat):Hp→Prop:=Som (fun l:SLay=>l.2.2.2.2.length≤144+st.nxt) (stL st fb sb)
theorem rt_st {P:Program} {k:Kon} {m:Nat} {e:Ev} {W:World} {H R:List Hl} {st:Sto} {fb sb wb db:Nat} {la:Option Addr} {lc:Nat} {rs:List RecD} (hl:rs.length≤144+st.nxt) (hE:Ent H (soB sb wb db st::whB wb fb st.g st.p.z la rs.length lc st.rdy st.nxt::rsR la lc rs :: .any (deP st.p st.d db)::R)) (h:Rt P k m e W (.any (stP st fb sb)::R)):Rt P k m e W H :=
 rt_hide (L:=stL st fb sb) (p:=fun l:SLay=>l.2.2.2.2.length≤144+st.nxt) (wb,db,la,lc,rs) hl hE h
def recD (p:Prm) (V:BitVec 32→List Bool) (l:List Rec):Dec:=l.foldl (fun d r=>takeD p d (V r.1) r.2) (newD p)
def openS (p:Prm) (g:BitVec 32) (len:Nat) (V:BitVec 32→List Bool) (bs:List (BitVec 8)):Sto:=⟨p,g,len,rdyW bs g p.z 8,nxtW bs g p.z,recD p V (recsW bs g p.z 8)⟩
theorem takeD_RR {p:Prm} {d:Dec} {v:List Bool} {x:List (BitVec 8)} (h:RR p.n p.z d.M) (hv:v.length=p.n) (hx:x.length=p.z):RR p.n p.z (takeD p d v x).M:=by
 unfold takeD
 split
 ·exact h
 ·exact addF_RR h hv hx
theorem takeD_t (p:Prm) (d:Dec) (v:List Bool) (x:List (BitVec 8)):(takeD p d v x).t≤d.t+1:=by
 unfold takeD
 split
 ·omega
 ·exact Nat.le_refl _
theorem recD_ok (p:Prm) (V:BitVec 32→List Bool):∀ l:List Rec,(∀ r∈l,(V r.1).length=p.n∧r.2.length=p.z)→RR p.n p.z (recD p V l).M∧(recD p V l).t≤l.length:=fun l=>rev_ind (P:=fun l=>(∀ r∈l,(V r.1).length=p.n∧r.2.length=p.z)→RR p.n p.z (recD p V l).M∧(recD p V l).t≤l.length) (fun _=>⟨rowsM_RR p _ (fun v hv=>by
  obtain ⟨j,_,rfl⟩:=List.mem_map.1 hv
  exact rowR_len _ _ _ _),Nat.le_refl _⟩) (fun l a ih h=>by
 have e:recD p V (l++[a])=takeD p (recD p V l) (V a.1) a.2:=by simp [recD]
 obtain ⟨i1,i2⟩:=ih (fun r hr=>h r (by simp [hr]))
 obtain ⟨a1,a2⟩:=h a (by simp)
 rw [e]
 refine ⟨takeD_RR i1 a1 a2,?_⟩
 have:=takeD_t p (recD p V l) (V a.1) a.2
 simp only [List.length_append,List.length_singleton]
 omega) l
theorem recsP_len {l:List (BitVec 8)} {g:BitVec 32} {z p:Nat} (hz1:1≤z) (hz2:z≤16) (hl:l.length=3584):∀ n,p+n≤8*plW z→∀ r∈recsP l g z p n,r.2.length=z
 | 0,_,r,hr=>by cases hr
 | n+1,hn,r,hr=>by
  unfold recsP at hr
  cases hw:recAt l g z (p+n) with
  | none=>rw [hw] at hr;exact recsP_len hz1 hz2 hl n (by omega) r hr
  | some q =>
   rw [hw] at hr
   rcases List.mem_append.1 hr with h|h
   ·exact recsP_len hz1 hz2 hl n (by omega) r h
   ·obtain rfl:r=q:=by simpa using h
    obtain ⟨id,d⟩:=r
    have:=(at_bounds hz1 hz2 (p:=p+n) (by omega)).1
    exact (recAt_len hw (by omega)).2
theorem recsW_len {l:List (BitVec 8)} {g:BitVec 32} {z:Nat} (hz1:1≤z) (hz2:z≤16) (hl:l.length=3584):∀ n,n≤8→∀ r∈recsW l g z n,r.2.length=z
 | 0,_,r,hr=>by cases hr
 | n+1,hn,r,hr=>by
  unfold recsW at hr
  split at hr
  ·rcases List.mem_append.1 hr with h|h
   ·exact recsW_len hz1 hz2 hl n (by omega) r h
   ·refine recsP_len hz1 hz2 hl _ ?_ r h
    have:(n+1)*plW z≤8*plW z:=Nat.mul_le_mul_right _ (by omega)
    rw [Nat.add_mul,Nat.one_mul] at this
    exact this
  ·exact recsW_len hz1 hz2 hl n (by omega) r hr
set_option maxHeartbeats 8000000 in
theorem so_Open (H:List Hl) (fb:Nat) (m:ManD) (p:Prm) (g:BitVec 32) (len:Nat) (V:BitVec 32→List Bool) (ad:Option Addr) (c:Nat) (f:Fl) (hp:p.ok) (hs:m.s=p.s) (hn:m.n=len) (hz:m.z=p.z) (hpp:m.p=p.p) (hc:count len p.z=p.k) (hf:RdFl (stars H) fb ad c f) (hd:f.pw.isDown=false) (ht:TabF (stars H)) (hV:∀ r∈recsW f.bs g p.z 8,SpRow p r.1 (V r.1)) :
  Spec Tryz.prog 119 [.pointer (some ⟨fb,0,none⟩),m.V,W4 g] H (fun _:Nat=>True) (fun sb => .tuple #[.pointer (some ⟨sb,0,none⟩),I 0]) (fun sb => .any (stP (openS p g len V f.bs) fb sb)::H):=by
 refine spec_pure (res:=fun sb:Nat=>[.any (stP (openS p g len V f.bs) fb sb)]) H Tryz.func119 rfl Tryz.ntmps119 (by kernel_rfl) rfl (fun W=>?_)
 obtain ⟨p1,p2,p3,p4,p5⟩:=hp.out
 have hmay:mayP (count m.n m.z) m.p m.z=true:=by rw [hn,hz,hpp,hc];exact hp
 have hpar:m.parL=[W4 p.s,I p.k,I p.p,I p.z]:=by rw [ManD.parL,if_pos hmay,hs,hn,hz,hpp,hc]
 obtain ⟨ms,mv,mn,mz,mp,mh⟩:=m
 dsimp only at hs hn hz hpp hmay
 subst hs hn hz hpp
 obtain ⟨RW,hRW⟩:∃ RW,recsW f.bs g p.z 8=RW:=⟨_,rfl⟩
 have hlen:=recsW_len (g:=g) p4 p5 hf.l 8 (Nat.le_refl _)
 rw [hRW] at hV hlen
 repeat' (first|intro _|refine cw ?_|refine cw2 ?_ ?_|(refine k_fn 58 ?_;(refine o1_call (fun _=>code_Of _ ⟨p.s,mv,len,p.z,p.p,mh⟩) rfl (fun _ _=>?_);rw [hpar,hmay]))|(refine k_box ?_;refine o1_box rfl rfl (fun b4=>?_))|(refine k_alloc ?_;refine o1_alloc rfl (fun b8=>?_))|(refine k_fn 159 ?_;(refine o1_call (fun _=>wh_Open _ fb g p.z ad c f p4 p5 hf.up hd) rfl (fun ⟨wb,⟨la,lc,rs⟩,A⟩ hw0=>?_);obtain ⟨hw1,hw2,hw3⟩:=hw0;(try dsimp only at hw1 hw2 hw3 ⊢)))|refine ow ?_|refine ow2 ?_ ?_|fail)
 rw [hRW] at hw1
 have hr1000:∀ r∈rs,r.l.length≤1000:=fun r hr=>by
  have h1:r.p∈RW:=by rw [←hw1];exact List.mem_map_of_mem hr
  have h2:r.l.length=p.z:=hlen _ h1
  omega
 refine st_stages' [(4,_),(10,_),(8,_)] rtD24_0 [7,9] [⟨[0,1,2,3,4,5,6],[],some 7⟩,⟨[8],[0,1,2,3,4,5],some 9⟩,⟨[10],[],none⟩] mixed cv (by kernel_rfl) (by kernel_rfl) ?_
 repeat' (first|intro _|refine sg ?_|refine pw ?_|refine pdd ?_|(refine k_fn 160 ?_;(refine o1_call (fun _=>de_New _ p hp ht.up) rfl (fun db _=>?_);(try dsimp only)))|(refine k_box ?_;refine o1_box rfl rfl (fun sb=>?_))|refine ow ?_|fail)
 all_goals dsimp only [List.cons_append,List.nil_append]
 repeat' (first|intro _|refine cw ?_|refine cw2 ?_ ?_|(refine k_fn 161 ?_;(refine o1_call (fun hh=>wh_Records _ wb la lc rs (cl_box rfl) (rx_w2 (T:=243) hh) hw2.up (by omega) hr1000) rfl (fun ⟨⟨la2,lc2,rs2⟩,A2⟩ hr0=>?_);obtain ⟨hr1,hr2⟩:=hr0;(try dsimp only at hr1 hr2 ⊢)))|refine ow ?_|refine ow2 ?_ ?_|fail)
 have hrl:rs2.length=rs.length:=by have:=congrArg List.length hr1;simpa using this
 rw [hw1] at hr1
 refine st_pack [rsR la2 lc2 rs2,.any A2] [soB sb wb db ⟨p,g,len,rdyW f.bs g p.z 8,nxtW f.bs g p.z,newD p⟩,whB wb fb g p.z la rs.length lc (rdyW f.bs g p.z 8) (nxtW f.bs g p.z),rsR la lc rs,.any (deP p (newD p) db),.any (stars H)] ent ?_
 refine st_has (fun hh=>?_)
 have hA:=has_any hh
 have u1:R2 (stars [rsR la2 lc2 rs2,.any A2]) rF rG la2 lc2 rs2:=rx_w2 (T:=243) hA
 have u2:RdRs (stars [rsR la2 lc2 rs2,.any A2]) rs2:=hr2.gr Gr.of
 obtain ⟨A3,hA3⟩:∃ A3,stars [rsR la2 lc2 rs2,.any A2]=A3:=⟨_,rfl⟩
 rw [hA3] at u1 u2 ⊢
 clear hh hA hA3
 have hpre:∀ i,∀ r∈RW.take i,(V r.1).length=p.n∧r.2.length=p.z:=fun i r hr=>⟨(hV r (List.mem_of_mem_take hr)).1,hlen r (List.mem_of_mem_take hr)⟩
 have hRl:RW.length=rs2.length:=by rw [←hr1,List.length_map]
 refine st_loop (S:=Nat) (fun i=>[(12,.pointer (some ⟨sb,0,none⟩)),(44,.slice la2 rs2.length lc2),(45,I rs2.length),(46,I i)])
  (fun i=>[.any (deP p (recD p V (RW.take i)) db),.any A3,soB sb wb db ⟨p,g,len,rdyW f.bs g p.z 8,nxtW f.bs g p.z,newD p⟩,whB wb fb g p.z la rs.length lc (rdyW f.bs g p.z 8) (nxtW f.bs g p.z),rsR la lc rs,.any (stars H)])
  (fun i=>i≤rs2.length) (fun i=>rs2.length - i) 0 (Nat.zero_le _) cv (by show Ent _ [.any (deP p (newD p) db),.any A3,soB sb wb db ⟨p,g,len,rdyW f.bs g p.z 8,nxtW f.bs g p.z,newD p⟩,whB wb fb g p.z la rs.length lc (rdyW f.bs g p.z 8) (nxtW f.bs g p.z),rsR la lc rs,.any (stars H)];exact ent) ?_
 intro i hi
 by_cases hlt:i<rs2.length
 ·obtain ⟨r,hri⟩:∃ r,rs2[i]?=some r:=⟨_,List.getElem?_eq_getElem hlt⟩
  obtain ⟨hrr,hrn⟩:=u2 r (List.mem_of_getElem? hri)
  have hrp:RW[i]?=some r.p:=by rw [←hr1,List.getElem?_map,hri];rfl
  have hrm:=List.mem_of_getElem? hrp
  have hrz:r.l.length=p.z:=hlen _ hrm
  obtain ⟨ok1,ok2⟩:=recD_ok p V (RW.take i) (hpre i)
  have ok3:(recD p V (RW.take i)).t≤1000:=by
   have:=List.length_take_le i RW
   omega
  have hnext:recD p V (RW.take (i+1))=takeD p (recD p V (RW.take i)) (V r.id) r.l:=by
   obtain ⟨h1,h2⟩:=List.getElem?_eq_some_iff.1 hrp
   rw [List.take_succ_eq_append_getElem h1,h2]
   simp [recD,RecD.p]
  repeat' (first|intro _|refine cw ?_|refine cw2 ?_ ?_|(refine k_indexAddr ?_;refine o1_iaw (f:=rF) (g:=rG) (ad:=la2) (c:=lc2) i rfl rfl u1 rfl rfl hlt ?_)|(refine k_load ?_;refine o1_load_iaw (f:=rF) (g:=rG) (ad:=la2) (c:=lc2) i r rfl u1 hri ?_)|refine ow ?_|refine ow2 ?_ ?_|fail)
  refine st_stages' [(12,_),(14,_)] rtD24_1 [8] [⟨[0,1,2,3,4,5,6,7],[],some 8⟩,⟨[],[],none⟩] mixed cv (by kernel_rfl) (by kernel_rfl) ?_
  repeat' (first|intro _|refine sg ?_|(refine p_load ?_;refine po (by first|refine ox_load (b:=sb) (i:=7) rfl rfl fz|fail) ?_)|refine pw ?_|refine pdd ?_|(refine k_fn 122 ?_;(refine o1_call_a (deP p (recD p V (RW.take i)) db) (fun _=>de_Take _ p (recD p V (RW.take i)) db r.id (V r.id) r.ad r.n r.cap r.l hp (hV _ hrm) ok1 ht.up hrr.up hrn.symm hrz ok3) rfl (fun _ _=>?_);rw [←hnext]))|refine ow ?_|fail)
  all_goals dsimp only [List.cons_append,List.nil_append]
  repeat' (first|intro _|refine cw ?_|refine cw2 ?_ ?_|refine ow ?_|refine ow2 ?_ ?_|fail)
  refine nx_again (i+1) hlt (by omega) cv ?_
  exact ent
 ·have:i=rs2.length:=by omega
  subst this
  rw [List.take_of_length_le (by omega)]
  repeat' (first|intro _|refine cw ?_|refine cw2 ?_ ?_|refine ow ?_|refine ow2 ?_ ?_|fail)
  have hop:openS p g len V f.bs=⟨p,g,len,rdyW f.bs g p.z 8,nxtW f.bs g p.z,recD p V RW⟩:=by rw [openS,hRW]
  rw [hop]
  refine rt_st (st:=⟨p,g,len,rdyW f.bs g p.z 8,nxtW f.bs g p.z,recD p V RW⟩) (wb:=wb) (db:=db) (la:=la) (lc:=lc) (rs:=rs) (R:=[.any (stars H)]) (by show rs.length≤144+_;omega) ent ?_
  refine rt_tmp2 sb rfl rfl rfl rfl trivial ?_
  exact ent
def rtD25_0:List Row:=[⟨some 6,[],[],none⟩,⟨some 7,[0],[0],none⟩,⟨some 8,[1],[0,1],none⟩,⟨some 9,[2],[0,1,2],none⟩,⟨some 10,[],[],none⟩,⟨some 11,[4],[4],none⟩,⟨some 12,[5],[4,5],none⟩,⟨some 13,[6],[4,5,6],none⟩,⟨some 14,[7],[4,5,6,7],none⟩,⟨some 15,[3,8],[0,1,2,3,4,5,6,7,8],none⟩,⟨some 16,[9],[0,1,2,3,4,5,6,7,8,9],none⟩,⟨some 17,[9],[0,1,2,3,4,5,6,7,8,9],none⟩,⟨some 2,[10,9,0,1,2,3,4,5,6,7,8,9,10,11],[0,1,2,3,4,5,6,7,8,9,10,11],none⟩,⟨some 3,[11,12,0,1,2,3,4,5,6,7,8,9,10,11,12],[0,1,2,3,4,5,6,7,8,9,10,11,12],none⟩]
def putS (st:Sto) (f:Fl) (id:BitVec 32) (v:List Bool) (x:List (BitVec 8)):Sto × Fl × Int :=
 if saysD st.p st.d v=false then (st,f,8) else
 if (addW f st.g st.rdy st.nxt id x).2≠0 then (st,(addW f st.g st.rdy st.nxt id x).1,(addW f st.g st.rdy st.nxt id x).2) else
 (⟨st.p,st.g,st.len,((st.nxt / plW st.p.z:Nat):Int),st.nxt+1,takeD st.p st.d v x⟩,(addW f st.g st.rdy st.nxt id x).1,0)
set_option maxHeartbeats 8000000 in
theorem so_Put (H:List Hl) (st:Sto) (fb sb:Nat) (ad:Option Addr) (c:Nat) (f:Fl) (h:Hid) (id:BitVec 32) (v:List Bool) (ad2:Option Addr) (m c2:Nat) (x:List (BitVec 8)) (hp:st.p.ok) (hR:RR st.p.n st.p.z st.d.M) (htk:st.d.t≤1000) (hv:SpRow st.p id v) (hx:Rs (stars H) B ad2 c2 x) (hm:m=x.length) (hz:x.length=st.p.z) (hk:FlOk f h) (hd:f.pw.isDown=false) (hn:st.nxt≤8*plW st.p.z) (ht:TabF (stars H)) :
  Spec Tryz.prog 78 [.pointer (some ⟨sb,0,none⟩),W4 id,.slice ad2 m c2] (.any (stP st fb sb)::fB fb ad c f h::fR ad c f::H) (fun h':Hid=>FlOk (putS st f id v x).2.1 h') (fun _=>I (putS st f id v x).2.2) (fun h' => .any (stP (putS st f id v x).1 fb sb)::fB fb ad c (putS st f id v x).2.1 h'::fR ad c (putS st f id v x).2.1::H):=by
 refine Spec.som (by kernel_rfl) (fun ⟨wb,db,la,lc,rs⟩ hrl=>?_)
 have hrl:rs.length≤144+st.nxt:=hrl
 show Spec _ _ _ (soB sb wb db st::whB wb fb st.g st.p.z la rs.length lc st.rdy st.nxt::rsR la lc rs :: .any (deP st.p st.d db)::fB fb ad c f h::fR ad c f::H) _ _ _
 refine spec_fn (res:=fun h':Hid=>[.any (stP (putS st f id v x).1 fb sb),fB fb ad c (putS st f id v x).2.1 h',fR ad c (putS st f id v x).2.1]) [soB sb wb db st,whB wb fb st.g st.p.z la rs.length lc st.rdy st.nxt,rsR la lc rs,.any (deP st.p st.d db),fB fb ad c f h,fR ad c f] H Tryz.func78 rfl Tryz.ntmps78 (by kernel_rfl) rfl (fun W=>?_)
 dsimp only [List.cons_append,List.nil_append]
 obtain ⟨p1,p2,p3,p4,p5⟩:=hp.out
 obtain ⟨b1,b2,b3⟩:=pl_bounds p4 p5
 have hmz:(m:Int)=st.p.z:=by rw [hm,hz]
 have hm2:m=st.p.z:=by rw [hm,hz]
 subst hm2
 obtain ⟨y,hy⟩:∃ y,saysD st.p st.d v=y:=⟨_,rfl⟩
 cases y
 ·have hput:putS st f id v x=(st,f,8):=if_pos hy
  rw [hput]
  repeat' (first|intro _|refine cw ?_|refine cw2 ?_ ?_|refine o1_peql rfl rfl ?_|(refine k_load ?_;first|refine ox_load (b:=sb) (i:=3) rfl rfl ?_|refine ox_load (b:=sb) (i:=7) rfl rfl ?_)|(refine k_binOp .neq ?_;refine o1_neq_f rfl rfl rfl ?_)|(refine k_fn 120 ?_;(refine o1_call_a (deP st.p st.d db) (fun _=>de_Says _ st.p st.d db id v hp hv ht.up) rfl (fun _ _=>?_);rw [hy]))|refine ow ?_|refine ow2 ?_ ?_|fail)
  refine rt_st (st:=st) (wb:=wb) (db:=db) (la:=la) (lc:=lc) (rs:=rs) (R:=[fB fb ad c f h,fR ad c f,.any (stars H)]) hrl ent ?_
  refine rt_tmp h rfl rfl rfl hk ?_
  exact ent
 ·obtain ⟨⟨f1,v1⟩,hr1⟩:∃ r,addW f st.g st.rdy st.nxt id x=r:=⟨_,rfl⟩
  have hput:putS st f id v x=if v1≠0 then (st,f1,v1) else (⟨st.p,st.g,st.len,((st.nxt / plW st.p.z:Nat):Int),st.nxt+1,takeD st.p st.d v x⟩,f1,0):=by
   unfold putS
   rw [if_neg (by rw [hy];simp),hr1]
  rw [hput]
  repeat' (first|intro _|refine cw ?_|refine cw2 ?_ ?_|refine o1_peql rfl rfl ?_|(refine k_load ?_;first|refine ox_load (b:=sb) (i:=3) rfl rfl ?_|refine ox_load (b:=sb) (i:=7) rfl rfl ?_|refine ox_load (b:=sb) (i:=6) rfl rfl ?_)|(refine k_binOp .neq ?_;refine o1_neq_f rfl rfl rfl ?_)|(refine k_fn 120 ?_;(refine o1_call_a (deP st.p st.d db) (fun _=>de_Says _ st.p st.d db id v hp hv ht.up) rfl (fun _ _=>?_);rw [hy]))|(refine k_fn 121 ?_;(refine o1_call_to (whB wb fb st.g st.p.z la rs.length lc st.rdy st.nxt::rsR la lc rs::fB fb ad c f h::fR ad c f::[.any (deP st.p st.d db),soB sb wb db st,.any (stars H)]) (Ent.out ent) (fun _=>wh_Add _ wb fb st.g st.p.z la lc rs st.rdy st.nxt id ad2 c2 x ad c f h p4 p5 hk hd hn hz hx.up (by omega)) rfl (fun ⟨h1,la1,lc1,rs1⟩ hk0=>?_);obtain ⟨hk1,hrs1⟩:=hk0;rw [hr1] at hk1 ⊢;dsimp only at hk1 hrs1 ⊢))|(refine k_fn 122 ?_;refine o1_call_a (deP st.p st.d db) (fun _=>de_Take _ st.p st.d db id v ad2 st.p.z c2 x hp hv hR ht.up hx.up hm hz htk) rfl (fun _ _=>?_))|refine ow ?_|refine ow2 ?_ ?_|fail)
  ·rename_i hv1
   rw [if_pos hv1]
   have e1:rdyA v1 st.p.z st.nxt st.rdy=st.rdy:=if_neg hv1
   have e2:nxtA v1 st.nxt=st.nxt:=if_neg hv1
   rw [e1,e2]
   refine rt_st (st:=st) (wb:=wb) (db:=db) (la:=la1) (lc:=lc1) (rs:=rs1) (R:=[fB fb ad c f1 h1,fR ad c f1,.any (stars H)]) ?_ ent ?_
   ·rw [nxtA,hr1,if_neg (show ¬ (f1,v1).2=0 from hv1)] at hrs1
    omega
   refine rt_tmp h1 rfl rfl rfl hk1 ?_
   exact ent
  ·have hv1:v1=0:=by omega
   subst hv1
   rw [if_neg (by simp)]
   refine rt_st (st:=⟨st.p,st.g,st.len,((st.nxt / plW st.p.z:Nat):Int),st.nxt+1,takeD st.p st.d v x⟩) (wb:=wb) (db:=db) (la:=la1) (lc:=lc1) (rs:=rs1) (R:=[fB fb ad c f1 h1,fR ad c f1,.any (stars H)]) (by rw [nxtA,hr1,if_pos rfl] at hrs1;show rs1.length≤144+(st.nxt+1);omega) ent ?_
   refine rt_tmp h1 rfl rfl rfl hk1 ?_
   exact ent
theorem so_Kept (H:List Hl) (st:Sto) (fb sb:Nat) :
  Spec Tryz.prog 43 [.pointer (some ⟨sb,0,none⟩)] (.any (stP st fb sb)::H) (fun _:Unit=>True) (fun _=>I st.d.t) (fun _ => .any (stP st fb sb)::H):=by
 refine Spec.som (by kernel_rfl) (fun ⟨wb,db,la,lc,rs⟩ hrl=>?_)
 show Spec _ _ _ (soB sb wb db st::whB wb fb st.g st.p.z la rs.length lc st.rdy st.nxt::rsR la lc rs :: .any (deP st.p st.d db)::H) _ _ _
 refine spec_fn (res:=fun _:Unit=>[.any (stP st fb sb)]) [soB sb wb db st,whB wb fb st.g st.p.z la rs.length lc st.rdy st.nxt,rsR la lc rs,.any (deP st.p st.d db)] H Tryz.func43 rfl Tryz.ntmps43 (by kernel_rfl) rfl (fun W=>?_)
 dsimp only [List.cons_append,List.nil_append]
 repeat' (first|intro _|refine cw ?_|refine cw2 ?_ ?_|refine o1_peql rfl rfl ?_|(refine k_load ?_;refine ox_load (b:=sb) (i:=7) rfl rfl ?_)|(refine k_fn 88 ?_;refine o1_call_a (deP st.p st.d db) (fun _=>de_Taken _ st.p st.d db) rfl (fun _ _=>?_))|refine ow ?_|refine ow2 ?_ ?_|fail)
 refine rt_st (st:=st) (wb:=wb) (db:=db) (la:=la) (lc:=lc) (rs:=rs) (R:=[.any (stars H)]) hrl ent ?_
 refine rt_tmp () rfl rfl rfl trivial ?_
 exact ent
theorem so_Needs (H:List Hl) (st:Sto) (fb sb:Nat) (hp:st.p.ok) (hb:cntS st.d.M≤1000) :
  Spec Tryz.prog 79 [.pointer (some ⟨sb,0,none⟩)] (.any (stP st fb sb)::H) (fun _:Unit=>True) (fun _=>I ((st.p.n:Int) - cntS st.d.M)) (fun _ => .any (stP st fb sb)::H):=by
 refine Spec.som (by kernel_rfl) (fun ⟨wb,db,la,lc,rs⟩ hrl=>?_)
 show Spec _ _ _ (soB sb wb db st::whB wb fb st.g st.p.z la rs.length lc st.rdy st.nxt::rsR la lc rs :: .any (deP st.p st.d db)::H) _ _ _
 refine spec_fn (res:=fun _:Unit=>[.any (stP st fb sb)]) [soB sb wb db st,whB wb fb st.g st.p.z la rs.length lc st.rdy st.nxt,rsR la lc rs,.any (deP st.p st.d db)] H Tryz.func79 rfl Tryz.ntmps79 (by kernel_rfl) rfl (fun W=>?_)
 dsimp only [List.cons_append,List.nil_append]
 repeat' (first|intro _|refine cw ?_|refine cw2 ?_ ?_|refine o1_peql rfl rfl ?_|(refine k_load ?_;refine ox_load (b:=sb) (i:=7) rfl rfl ?_)|(refine k_fn 123 ?_;refine o1_call_a (deP st.p st.d db) (fun _=>de_Needs _ st.p st.d db hp hb) rfl (fun _ _=>?_))|refine ow ?_|refine ow2 ?_ ?_|fail)
 refine rt_st (st:=st) (wb:=wb) (db:=db) (la:=la) (lc:=lc) (rs:=rs) (R:=[.any (stars H)]) hrl ent ?_
 refine rt_tmp () rfl rfl rfl trivial ?_
 exact ent
theorem so_Image (H:List Hl) (st:Sto) (fb sb:Nat) (hp:st.p.ok) (hR:RR st.p.n st.p.z st.d.M) (hf:cntS st.d.M=st.p.n) (hl:count st.len st.p.z=st.p.k) :
  Spec Tryz.prog 124 [.pointer (some ⟨sb,0,none⟩)] (.any (stP st fb sb)::H) (fun _:Option Addr × Nat=>True) (fun r => .tuple #[.slice r.1 (imgB st.p st.d st.len).length r.2,.bool true]) (fun r => .row 5 1 (.slice r.1 (imgB st.p st.d st.len).length r.2) (imgB st.p st.d st.len).length ((imgB st.p st.d st.len).map B)::H):=by
 refine Spec.som (by kernel_rfl) (fun ⟨wb,db,la,lc,rs⟩ hrl=>?_)
 show Spec _ _ _ (soB sb wb db st::whB wb fb st.g st.p.z la rs.length lc st.rdy st.nxt::rsR la lc rs :: .any (deP st.p st.d db)::H) _ _ _
 refine spec_fn (res:=fun r:Option Addr × Nat=>[.row 5 1 (.slice r.1 (imgB st.p st.d st.len).length r.2) (imgB st.p st.d st.len).length ((imgB st.p st.d st.len).map B)]) [soB sb wb db st,whB wb fb st.g st.p.z la rs.length lc st.rdy st.nxt,rsR la lc rs,.any (deP st.p st.d db)] H Tryz.func124 rfl Tryz.ntmps124 (by kernel_rfl) rfl (fun W=>?_)
 dsimp only [List.cons_append,List.nil_append]
 repeat' (first|intro _|refine cw ?_|refine cw2 ?_ ?_|refine o1_peql rfl rfl ?_|refine ow ?_|refine ow2 ?_ ?_|fail)
 refine st_stages' [(0,_)] rtD25_0 [9] [⟨[0,1,2,3,4,5,6,7,8],[],some 9⟩,⟨[10,11,12,13],[],none⟩] mixed cv (by kernel_rfl) (by kernel_rfl) ?_
 repeat' (first|intro _|refine sg ?_|(refine p_load ?_;refine po (by first|refine ox_load (b:=sb) (i:=7) rfl rfl fz|refine ox_load (b:=sb) (i:=2) rfl rfl fz|fail) ?_)|refine pw ?_|refine pdd ?_|(refine k_fn 170 ?_;(refine o1_call_a (deP st.p st.d db) (fun _=>de_Image _ st.p st.d db st.len hp hR hf hl) rfl (fun ⟨a15,c15⟩ _=>?_);(try dsimp only)))|refine ow ?_|fail)
 all_goals dsimp only [List.cons_append,List.nil_append]
 repeat' (first|intro _|refine cw ?_|refine cw2 ?_ ?_|refine ow ?_|refine ow2 ?_ ?_|fail)
 refine rt_tmp2 (a15,c15) rfl rfl rfl rfl trivial ?_
 exact ent
end Go.Dp
