/-
  Downpour, walked and proved: part 12.
  Conditions: those that stand in each theorem.
-/
import Derived.Test.YtcblcmdikhllbaaGreatDoorQTopEnough3
import Derived.Test.YtcblcmdikhllbaaGreatDoorQTopEnough4
import Derived.Test.YtcblcmdikhllbaaGreatDoorQTopEnough11
import Derived.Test.YtcblcmdikhllbaaGreatDoorQTopEnough6
import Derived.Test.YtcblcmdikhllbaaGreatDoorQTopEnough10
set_option linter.unusedVariables false
set_option linter.unusedSimpArgs false
set_option maxHeartbeats 64000000
namespace Go.Dp
open Go.RowKit Go.Proofs
def rtD13_0:List Row:=[tR 5 [] [],tR 6 [] [],tR 7 [1] [1],tR 8 [0,2] [0,1,2],tR 9 [3] [0,1,2,3],tR 10 [4] (rG 5),tR 11 [] [],tR 12 [] [],tR 13 [7,2] [1,2,7],tR 14 [6,8] [1,2,6,7,8],tR 15 [] [],tR 16 [10,8] [1,2,7,8,10],tR 17 [9,11] [1,2,6,7,8,9,10,11],tR 18 [5,12] (rG 13),tR 4 [13,11,0,1,2,3,4,5,6,7,8,9,10,11,12,13] (rG 14)]
def rtD13_1:List Row:=[tR 3 [] [],tR 4 [0] [0],tR 5 [1] [0,1],tR 6 [2] [0,1,2],tR 7 [3] [0,1,2,3],tR 8 [] [],tR 9 [5] [5],tR 10 [6] [5,6],tR 11 [7] [5,6,7],tR 12 [8] [5,6,7,8],tR 13 [4,9] (rG 10),tR 14 [] [],tR 15 [11] [11],tR 16 [12] [11,12],tR 17 [13] [11,12,13],tR 18 [14] [11,12,13,14],tR 19 [10,15] (rG 16),tR 20 [] [],tR 21 [17] [17],tR 22 [18] [17,18],tR 23 [19] [17,18,19],tR 24 [16,20] (rG 21),tR 2 [21,0,1,2,3,4,5,6,7,8,9,10,11,12,13,14,15,16,17,18,19,20,21] (rG 22)]
theorem a7K {z:Nat} (h1:1≤z) (h2:z≤16):8≤plW z∧plW z≤18∧plW z*(z+13)≤256:=by
 have key:∀ z,z<17→1≤z→8≤plW z∧plW z≤18∧plW z*(z+13)≤256:=by decide
 exact key z (by omega) h1
theorem a8U {z p:Nat} (h1:1≤z) (h2:z≤16) (hp:p<8*plW z):atW z p+(z+13)≤3584∧1536≤atW z p:=by
 obtain ⟨b1,b2,b3⟩:=a7K h1 h2
 obtain ⟨L,hL⟩:∃ L,plW z=L:=⟨_,rfl⟩
 rw [hL] at b1 b2 b3 hp
 have e1:p / L<8:=Nat.div_lt_of_lt_mul (by rw [Nat.mul_comm];exact hp)
 have e2:p % L<L:=Nat.mod_lt _ (by omega)
 have e3:(p % L+1)*(z+13)≤L*(z+13):=Nat.mul_le_mul_right _ e2
 rw [Nat.add_mul,Nat.one_mul] at e3
 unfold atW
 rw [hL]
 obtain ⟨q,hq⟩:∃ q,p / L=q:=⟨_,rfl⟩
 obtain ⟨r,hr⟩:∃ r,p % L*(z+13)=r:=⟨_,rfl⟩
 rw [hq] at e1 ⊢
 rw [hr] at e3 ⊢
 omega
structure RdWh (A:Hp→Prop) (wb fb:Nat) (g:BitVec 32) (z:Nat):Prop where
 f:Cl A ⟨wb,0,none⟩ (.pointer (some ⟨fb,0,none⟩))
 gc:Cl A ⟨wb,1,none⟩ (W4 g)
 zc:Cl A ⟨wb,2,none⟩ (I z)
 z1:1≤z
 z2:z≤16
abbrev whB (wb fb:Nat) (g:BitVec 32) (z:Nat) (la:Option Addr) (ln lc:Nat) (rdy:Int) (nxt:Nat):Hl := .box wb 246 [.pointer (some ⟨fb,0,none⟩),W4 g,I z,.slice la ln lc,I rdy,I nxt]
theorem RdWh.own {wb fb:Nat} {g:BitVec 32} {z:Nat} {la:Option Addr} {ln lc:Nat} {rdy:Int} {nxt:Nat} {H H1:List Hl} [s:SBox H wb 246 [.pointer (some ⟨fb,0,none⟩),W4 g,I z,.slice la ln lc,I rdy,I nxt] H1] (h1:1≤z) (h2:z≤16):RdWh (stars H) wb fb g z :=
 ⟨a1M rfl,a1M rfl,a1M rfl,h1,h2⟩
theorem a8C (H:List Hl) (wb z:Nat) (h:Cl (stars H) ⟨wb,2,none⟩ (I z)) (hz:z≤16) :
  Spec Tryz.prog 195 [.pointer (some ⟨wb,0,none⟩)] H (fun _:Unit=>True) (fun _=>I (z+13:Nat)) (fun _=>H):=by
 refine sP (res:=fun _=>[]) H Tryz.func195 Tryz.ntmps195 fun W=>?_
 repeat' (first|intro _|(refine a0K ?_;refine a0L rfl h ?_)|refine wK ?_|refine wL ?_ ?_|fail)
 refine a0E () rfl rfl rfl trivial ?_
 exact ent
theorem a7E (H:List Hl) (wb z:Nat) (h:Cl (stars H) ⟨wb,2,none⟩ (I z)) (hz:z≤16) :
  Spec Tryz.prog 164 [.pointer (some ⟨wb,0,none⟩)] H (fun _:Unit=>True) (fun _=>I (plW z)) (fun _=>H):=by
 refine sP (res:=fun _=>[]) H Tryz.func164 Tryz.ntmps164 fun W=>?_
 have e:(256:Int) / ((z+13:Nat):Int)=((plW z:Nat):Int):=by unfold plW;rfl
 repeat' (first|intro _|(refine k_fn 195 ?_;refine a0A (fun _=>a8C _ wb z (cl_up h) hz) rfl (fun _ _=>?_))|(refine a0D .quo ?_;(refine a3A rfl rfl (by omega) ?_;rw [e]))|refine wK ?_|refine wL ?_ ?_|fail)
 refine a0E () rfl rfl rfl trivial ?_
 exact ent
theorem wh_at (H:List Hl) (wb z p:Nat) (h:Cl (stars H) ⟨wb,2,none⟩ (I z)) (h1:1≤z) (h2:z≤16) (hp:p<8*plW z) :
  Spec Tryz.prog 167 [.pointer (some ⟨wb,0,none⟩),I p] H (fun _:Unit=>True) (fun _=>I (atW z p)) (fun _=>H):=by
 refine sP (res:=fun _=>[]) H Tryz.func167 Tryz.ntmps167 fun W=>?_
 obtain ⟨b1,b2,b3⟩:=a7K h1 h2
 obtain ⟨L,hL⟩:∃ L,plW z=L:=⟨_,rfl⟩
 have ha:atW z p=(6+p / L)*256+p % L*(z+13):=by rw [atW,hL]
 rw [hL] at b1 b2 b3 hp
 rw [ha]
 have e1:p / L<8:=Nat.div_lt_of_lt_mul (by rw [Nat.mul_comm];exact hp)
 have e2:p % L<L:=Nat.mod_lt _ (by omega)
 have e3:(p % L)*(z+13)≤18*29:=Nat.mul_le_mul (by omega) (by omega)
 have d1:(p:Int) / (L:Int)=((p / L:Nat):Int):=rfl
 have d2:(p:Int) % (L:Int)=((p % L:Nat):Int):=rfl
 obtain ⟨q,hq⟩:∃ q,p / L=q:=⟨_,rfl⟩
 obtain ⟨r,hr⟩:∃ r,p % L=r:=⟨_,rfl⟩
 rw [hq] at e1 d1
 rw [hr] at e2 e3 d2
 rw [hq,hr]
 obtain ⟨s,hs⟩:∃ s,r*(z+13)=s:=⟨_,rfl⟩
 have d3:(r:Int)*((z+13:Nat):Int)=(s:Int):=by rw [←hs];push_cast;rfl
 rw [hs] at e3 ⊢
 have d4:((6:Int)+(q:Int))*256+(s:Int)=(((6+q)*256+s:Nat):Int):=by omega
 repeat' (first|intro _|refine wK ?_|refine wL ?_ ?_|fail)
 refine a0H [(1,_),(0,_)] rtD13_0 [2,8,11] [⟨[0,1,6,7,10],[],some 2⟩,⟨[3,4,5],[0,6,7,10],some 8⟩,⟨[9],[0,3,4,5,6,10],some 11⟩,⟨[12,13,14],[0,3,4,5,6,9],none⟩] mixed cv (by kernel_rfl) (by kernel_rfl) ?_
 repeat' (first|intro _|refine sg ?_|(refine a1I .quo ?_;refine po (by first|((refine a3A rfl rfl (by omega) ?_;rw [d1]);all_goals exact fz)|fail) ?_)|(refine a1I .rem ?_;refine po (by first|((refine c2H rfl rfl (by omega) ?_;rw [d2]);all_goals exact fz)|fail) ?_)|(refine a1I .mul ?_;refine po (by first|((refine a2Y rfl rfl (by rw [d3];omega) ?_;rw [d3]);all_goals exact fz)|refine a2Y rfl rfl (by omega) fz|fail) ?_)|(refine a1I .add ?_;refine po (by first|((refine a2F rfl rfl (by omega) ?_;(try rw [d4]));all_goals exact fz)|fail) ?_)|refine pw ?_|refine pdd ?_|(refine k_fn 164 ?_;(refine a0A (fun _=>a7E _ wb z (cl_up h) h2) rfl (fun _ _=>?_);rw [hL]))|(refine k_fn 195 ?_;refine a0A (fun _=>a8C _ wb z (cl_up h) h2) rfl (fun _ _=>?_))|refine ow ?_|fail)
 all_goals dsimp only [cA,nA]
 repeat' (first|intro _|refine wK ?_|refine wL ?_ ?_|fail)
 refine a0E () rfl rfl rfl trivial ?_
 exact ent
theorem wh_word (H:List Hl) (x:BitVec 32) :
  Spec Tryz.prog 166 [W4 x] H (fun _:Nat=>True) (fun b => .slice (some ⟨b,0,none⟩) 4 4) (fun b => .box b 5 ((be4 x).map B)::H):=by
 refine sP (res:=fun b:Nat=>[.box b 5 ((be4 x).map B)]) H Tryz.func166 Tryz.ntmps166 fun W=>?_
 repeat' (first|intro _|(refine a0P ?_;refine a0O (T:=22) B (be4 x) rfl rfl rfl (fun _=>rfl) rfl rfl rfl (fun b=>?_))|refine wK ?_|refine wL ?_ ?_|fail)
 refine a0E b rfl rfl rfl trivial ?_
 exact ent
theorem b5O (H:List Hl) (ad:Option Addr) (m c:Nat) (l:List (BitVec 8)) (k:BitVec 32) (h:Rs (stars H) B ad c l) (hm:m=l.length) (h4:4≤m) (hk:num32 (l.take 4)=k) :
  Spec Tryz.prog 233 [.slice ad m c] H (fun _:Unit=>True) (fun _=>W4 k) (fun _=>H):=by
 refine sP (res:=fun _=>[]) H Tryz.func233 Tryz.ntmps233 fun W=>?_
 obtain ⟨x0,x1,x2,x3,hx⟩:∃ x0 x1 x2 x3,l.take 4=[x0,x1,x2,x3]:=list4 (by rw [List.length_take];omega)
 have g:∀ i,i<4→l[i]?=[x0,x1,x2,x3][i]?:=fun i hi=>by rw [←hx,List.getElem?_take,if_pos hi]
 have g0:l[0]?=some x0:=g 0 (by decide)
 have g1:l[1]?=some x1:=g 1 (by decide)
 have g2:l[2]?=some x2:=g 2 (by decide)
 have g3:l[3]?=some x3:=g 3 (by decide)
 have hk:num4 x0 x1 x2 x3=k:=by rw [num4_32,←hx,hk]
 subst hm
 repeat' (first|intro _|refine wK ?_|refine wL ?_ ?_|fail)
 refine a0H [(0,_)] rtD13_1 [] [⟨[0,1,2,3,4,5,6,7,8,9,10,11,12,13,14,15,16,17,18,19,20,21,22],[],none⟩] mixed cv (by kernel_rfl) (by kernel_rfl) ?_
 repeat' (first|intro _|refine sg ?_|(refine a0Z ?_;refine po (by first|refine o1_ia (ad:=ad) (c:=c) 0 rfl rfl h rfl rfl (by omega) fz|refine o1_ia (ad:=ad) (c:=c) 1 rfl rfl h rfl rfl (by omega) fz|refine o1_ia (ad:=ad) (c:=c) 2 rfl rfl h rfl rfl (by omega) fz|refine o1_ia (ad:=ad) (c:=c) 3 rfl rfl h rfl rfl (by omega) fz|fail) ?_)|(refine a1E ?_;refine po (by first|refine a4S (ad:=ad) (c:=c) 0 x0 rfl h g0 fz|refine a4S (ad:=ad) (c:=c) 1 x1 rfl h g1 fz|refine a4S (ad:=ad) (c:=c) 2 x2 rfl h g2 fz|refine a4S (ad:=ad) (c:=c) 3 x3 rfl h g3 fz|fail) ?_)|refine pw ?_|refine pdd ?_|refine ow ?_|fail)
 all_goals dsimp only [cA,nA]
 repeat' (first|intro _|refine wK ?_|refine wL ?_ ?_|fail)
 refine a0E () rfl rfl (by rw [←hk];rfl) trivial ?_
 exact ent
theorem b5L (H:List Hl) (b:Nat) (ad:Option Addr) (c:Nat) (f:Fl) (h:RdFl (stars H) b ad c f) :
  Spec Tryz.prog 91 [.pointer (some ⟨b,0,none⟩)] H (fun _:Unit=>True) (fun _=>I (if f.pw.isDown=true then 11 else 0)) (fun _=>H):=by
 refine sP (res:=fun _=>[]) H Tryz.func91 Tryz.ntmps91 fun W=>?_
 cases hd:f.pw.isDown
 ·repeat' (first|intro _|(refine k_fn 98 ?_;(refine a0A (fun _=>a9Q _ b ad c f 0 0 h.up (by omega) hd) rfl (fun ⟨a6,c6⟩ _=>?_);(try dsimp only)))|refine wK ?_|refine wL ?_ ?_|fail)
  refine a0E () rfl rfl rfl trivial ?_
  exact ent
 ·repeat' (first|intro _|(refine k_fn 98 ?_;refine a0A (fun _=>fl_Read_down _ b f 0 0 (cl_up h.d) (by omega) hd) rfl (fun _ _=>?_))|refine wK ?_|refine wL ?_ ?_|fail)
  refine a0E () rfl rfl rfl trivial ?_
  exact ent
theorem cl_found_none (H:List Hl) (b:Nat) (ad:Option Addr) (c:Nat) (f:Fl) (h:RdFl (stars H) b ad c f) (hd:f.pw.isDown=false) (h0:copyAt f.bs 0=none) (h1:copyAt f.bs 1=none) :
  Spec Tryz.prog 92 [.pointer (some ⟨b,0,none⟩)] H (fun _:Unit=>True) (fun _ => .tuple #[cpZ,I (-1)]) (fun _=>H):=by
 refine sP (res:=fun _=>[]) H Tryz.func92 Tryz.ntmps92 fun W=>?_
 repeat' (first|intro _|refine wK ?_|refine wL ?_ ?_|fail)
 refine a2O 3 ?_
 repeat' (first|intro _|(refine k_fn 146 ?_;first|refine a0A (fun _=>a9V _ b ad c f 0 h.up (by decide) hd h0) rfl (fun _ _=>?_)|refine a0A (fun _=>a9V _ b ad c f 1 h.up (by decide) hd h1) rfl (fun _ _=>?_))|refine wK ?_|refine wL ?_ ?_|fail)
 refine a0N () rfl rfl rfl rfl rfl trivial ?_
 exact ent
theorem cl_found_0 (H:List Hl) (b:Nat) (ad:Option Addr) (c:Nat) (f:Fl) (k0:BitVec 32) (q0 Z0:List (BitVec 8)) (h:RdFl (stars H) b ad c f) (hd:f.pw.isDown=false) (h0:copyAt f.bs 0=some (k0,q0)) (hZ0:(seg f.bs (0*256) 256).take (q0.length+6)=Z0) (h1:copyAt f.bs 1=none) :
  Spec Tryz.prog 92 [.pointer (some ⟨b,0,none⟩)] H (fun _:Option Addr × Nat=>True) (fun r => .tuple #[.agg #[W4 k0,.slice (cutA r.1 r.2 6) q0.length (r.2 - 6)],I 0]) (fun r => .row 5 1 (.slice r.1 (q0.length+6) r.2) (q0.length+6) (Z0.map B)::H):=by
 refine sP (res:=fun r:Option Addr × Nat=>[.row 5 1 (.slice r.1 (q0.length+6) r.2) (q0.length+6) (Z0.map B)]) H Tryz.func92 Tryz.ntmps92 fun W=>?_
 repeat' (first|intro _|refine wK ?_|refine wL ?_ ?_|fail)
 refine a2O 3 ?_
 repeat' (first|intro _|(refine k_fn 146 ?_;first|(refine a0A (fun _=>b1P _ b ad c f 0 k0 q0 Z0 h.up (by decide) hd h0 hZ0) rfl (fun ⟨a0,c0⟩ _=>?_);(try dsimp only))|refine a0A (fun _=>a9V _ b ad c f 1 h.up (by decide) hd h1) rfl (fun _ _=>?_))|refine wK ?_|refine wL ?_ ?_|fail)
 refine a0N (a0,c0) rfl rfl rfl rfl rfl trivial ?_
 exact ent
theorem cl_found_1 (H:List Hl) (b:Nat) (ad:Option Addr) (c:Nat) (f:Fl) (k1:BitVec 32) (q1 Z1:List (BitVec 8)) (h:RdFl (stars H) b ad c f) (hd:f.pw.isDown=false) (h0:copyAt f.bs 0=none) (h1:copyAt f.bs 1=some (k1,q1)) (hZ1:(seg f.bs (1*256) 256).take (q1.length+6)=Z1) :
  Spec Tryz.prog 92 [.pointer (some ⟨b,0,none⟩)] H (fun _:Option Addr × Nat=>True) (fun r => .tuple #[.agg #[W4 k1,.slice (cutA r.1 r.2 6) q1.length (r.2 - 6)],I 1]) (fun r => .row 5 1 (.slice r.1 (q1.length+6) r.2) (q1.length+6) (Z1.map B)::H):=by
 refine sP (res:=fun r:Option Addr × Nat=>[.row 5 1 (.slice r.1 (q1.length+6) r.2) (q1.length+6) (Z1.map B)]) H Tryz.func92 Tryz.ntmps92 fun W=>?_
 repeat' (first|intro _|refine wK ?_|refine wL ?_ ?_|fail)
 refine a2O 3 ?_
 repeat' (first|intro _|(refine k_fn 146 ?_;first|refine a0A (fun _=>a9V _ b ad c f 0 h.up (by decide) hd h0) rfl (fun _ _=>?_)|(refine a0A (fun _=>b1P _ b ad c f 1 k1 q1 Z1 h.up (by decide) hd h1 hZ1) rfl (fun ⟨a1,c1⟩ _=>?_);(try dsimp only)))|refine wK ?_|refine wL ?_ ?_|fail)
 refine a0N (a1,c1) rfl rfl rfl rfl rfl trivial ?_
 exact ent
theorem cl_found_01 (H:List Hl) (b:Nat) (ad:Option Addr) (c:Nat) (f:Fl) (k0:BitVec 32) (q0 Z0:List (BitVec 8)) (k1:BitVec 32) (q1 Z1:List (BitVec 8)) (h:RdFl (stars H) b ad c f) (hd:f.pw.isDown=false) (h0:copyAt f.bs 0=some (k0,q0)) (hZ0:(seg f.bs (0*256) 256).take (q0.length+6)=Z0) (h1:copyAt f.bs 1=some (k1,q1)) (hZ1:(seg f.bs (1*256) 256).take (q1.length+6)=Z1) (hlt : ¬ k0.toNat<k1.toNat) :
  Spec Tryz.prog 92 [.pointer (some ⟨b,0,none⟩)] H (fun _:Option Addr × Nat=>True) (fun r => .tuple #[.agg #[W4 k0,.slice (cutA r.1 r.2 6) q0.length (r.2 - 6)],I 0]) (fun r => .row 5 1 (.slice r.1 (q0.length+6) r.2) (q0.length+6) (Z0.map B)::H):=by
 refine sP (res:=fun r:Option Addr × Nat=>[.row 5 1 (.slice r.1 (q0.length+6) r.2) (q0.length+6) (Z0.map B)]) H Tryz.func92 Tryz.ntmps92 fun W=>?_
 repeat' (first|intro _|refine wK ?_|refine wL ?_ ?_|fail)
 refine a2O 3 ?_
 repeat' (first|intro _|(refine k_fn 146 ?_;first|(refine a0A (fun _=>b1P _ b ad c f 0 k0 q0 Z0 h.up (by decide) hd h0 hZ0) rfl (fun ⟨a0,c0⟩ _=>?_);(try dsimp only))|(refine a0A (fun _=>b1P _ b ad c f 1 k1 q1 Z1 h.up (by decide) hd h1 hZ1) rfl (fun ⟨a1,c1⟩ _=>?_);(try dsimp only)))|(refine a0D .gtr ?_;refine a3H rfl rfl (by omega) ?_)|refine wK ?_|refine wL ?_ ?_|fail)
 refine a0N (a0,c0) rfl rfl rfl rfl rfl trivial ?_
 exact ent
theorem cl_found_10 (H:List Hl) (b:Nat) (ad:Option Addr) (c:Nat) (f:Fl) (k0:BitVec 32) (q0 Z0:List (BitVec 8)) (k1:BitVec 32) (q1 Z1:List (BitVec 8)) (h:RdFl (stars H) b ad c f) (hd:f.pw.isDown=false) (h0:copyAt f.bs 0=some (k0,q0)) (hZ0:(seg f.bs (0*256) 256).take (q0.length+6)=Z0) (h1:copyAt f.bs 1=some (k1,q1)) (hZ1:(seg f.bs (1*256) 256).take (q1.length+6)=Z1) (hlt:k0.toNat<k1.toNat) :
  Spec Tryz.prog 92 [.pointer (some ⟨b,0,none⟩)] H (fun _:Option Addr × Nat=>True) (fun r => .tuple #[.agg #[W4 k1,.slice (cutA r.1 r.2 6) q1.length (r.2 - 6)],I 1]) (fun r => .row 5 1 (.slice r.1 (q1.length+6) r.2) (q1.length+6) (Z1.map B)::H):=by
 refine sP (res:=fun r:Option Addr × Nat=>[.row 5 1 (.slice r.1 (q1.length+6) r.2) (q1.length+6) (Z1.map B)]) H Tryz.func92 Tryz.ntmps92 fun W=>?_
 repeat' (first|intro _|refine wK ?_|refine wL ?_ ?_|fail)
 refine a2O 3 ?_
 repeat' (first|intro _|(refine k_fn 146 ?_;first|(refine a0A (fun _=>b1P _ b ad c f 0 k0 q0 Z0 h.up (by decide) hd h0 hZ0) rfl (fun ⟨a0,c0⟩ _=>?_);(try dsimp only))|(refine a0A (fun _=>b1P _ b ad c f 1 k1 q1 Z1 h.up (by decide) hd h1 hZ1) rfl (fun ⟨a1,c1⟩ _=>?_);(try dsimp only)))|(refine a0D .gtr ?_;refine a4T rfl rfl (by omega) ?_)|refine wK ?_|refine wL ?_ ?_|fail)
 refine a0N (a1,c1) rfl rfl rfl rfl rfl trivial ?_
 exact ent
theorem a1Z {l:List (BitVec 8)} {k:BitVec 32} {q:List (BitVec 8)} {w:Nat} (h:foundC l=some ((k,q),w)):copyAt l w=some (k,q)∧w<2:=by
 unfold foundC at h
 cases h0:copyAt l 0 with
 | none =>
  cases h1:copyAt l 1 with
  | none=>rw [h0,h1] at h;cases h
  | some b =>
   rw [h0,h1] at h
   obtain ⟨e1,e2⟩:=Prod.mk.inj (Option.some.inj h)
   subst e1 e2
   exact ⟨h1,by decide⟩
 | some a =>
  cases h1:copyAt l 1 with
  | none =>
   rw [h0,h1] at h
   obtain ⟨e1,e2⟩:=Prod.mk.inj (Option.some.inj h)
   subst e1 e2
   exact ⟨h0,by decide⟩
  | some b =>
   rw [h0,h1] at h
   dsimp only at h
   split at h
   ·obtain ⟨e1,e2⟩:=Prod.mk.inj (Option.some.inj h)
    subst e1 e2
    exact ⟨h1,by decide⟩
   ·obtain ⟨e1,e2⟩:=Prod.mk.inj (Option.some.inj h)
    subst e1 e2
    exact ⟨h0,by decide⟩
theorem b9V (H:List Hl) (b:Nat) (ad:Option Addr) (c:Nat) (f:Fl) (k:BitVec 32) (q Z:List (BitVec 8)) (w:Nat) (h:RdFl (stars H) b ad c f) (hd:f.pw.isDown=false) (hf:foundC f.bs=some ((k,q),w)) (hZ:(seg f.bs (w*256) 256).take (q.length+6)=Z) :
  Spec Tryz.prog 92 [.pointer (some ⟨b,0,none⟩)] H (fun _:Option Addr × Nat=>True) (fun r => .tuple #[.agg #[W4 k,.slice (cutA r.1 r.2 6) q.length (r.2 - 6)],I w]) (fun r => .row 5 1 (.slice r.1 (q.length+6) r.2) (q.length+6) (Z.map B)::H):=by
 have hf0:=hf
 unfold foundC at hf
 cases h0:copyAt f.bs 0 with
 | none =>
  cases h1:copyAt f.bs 1 with
  | none=>rw [h0,h1] at hf;cases hf
  | some x =>
   rw [h0,h1] at hf
   obtain ⟨e1,e2⟩:=Prod.mk.inj (Option.some.inj hf)
   subst e1 e2
   exact cl_found_1 H b ad c f k q Z h hd h0 h1 hZ
 | some x =>
  cases h1:copyAt f.bs 1 with
  | none =>
   rw [h0,h1] at hf
   obtain ⟨e1,e2⟩:=Prod.mk.inj (Option.some.inj hf)
   subst e1 e2
   exact cl_found_0 H b ad c f k q Z h hd h0 hZ h1
  | some y =>
   rw [h0,h1] at hf
   dsimp only at hf
   obtain ⟨x1,x2⟩:=x
   obtain ⟨y1,y2⟩:=y
   split at hf
   ·rename_i hlt
    obtain ⟨e1,e2⟩:=Prod.mk.inj (Option.some.inj hf)
    obtain ⟨e3,e4⟩:=Prod.mk.inj e1
    subst e2 e3 e4
    exact cl_found_10 H b ad c f x1 x2 _ y1 y2 Z h hd h0 rfl h1 hZ hlt
   ·rename_i hlt
    obtain ⟨e1,e2⟩:=Prod.mk.inj (Option.some.inj hf)
    obtain ⟨e3,e4⟩:=Prod.mk.inj e1
    subst e2 e3 e4
    exact cl_found_01 H b ad c f x1 x2 Z y1 y2 _ h hd h0 hZ h1 rfl hlt
theorem b7H (H:List Hl) (b:Nat) (ad:Option Addr) (c:Nat) (f:Fl) (k:BitVec 32) (q Z:List (BitVec 8)) (w:Nat) (h:RdFl (stars H) b ad c f) (hd:f.pw.isDown=false) (hf:foundC f.bs=some ((k,q),w)) (hZ:(seg f.bs (w*256) 256).take (q.length+6)=Z) :
  Spec Tryz.prog 46 [.pointer (some ⟨b,0,none⟩)] H (fun _:Option Addr × Nat=>True) (fun r => .tuple #[.slice (cutA r.1 r.2 6) q.length (r.2 - 6),I 0]) (fun r => .row 5 1 (.slice r.1 (q.length+6) r.2) (q.length+6) (Z.map B)::H):=by
 refine sP (res:=fun r:Option Addr × Nat=>[.row 5 1 (.slice r.1 (q.length+6) r.2) (q.length+6) (Z.map B)]) H Tryz.func46 Tryz.ntmps46 fun W=>?_
 obtain ⟨_,hw2⟩:=a1Z hf
 repeat' (first|intro _|(refine k_fn 91 ?_;(refine a0A (fun _=>b5L _ b ad c f h.up) rfl (fun _ _=>?_);rw [hd,if_neg (by decide)]))|(refine k_fn 92 ?_;(refine a0A (fun _=>b9V _ b ad c f k q Z w h.up hd hf hZ) rfl (fun ⟨a5,c5⟩ _=>?_);(try dsimp only)))|refine wK ?_|refine wL ?_ ?_|fail)
 refine a2U (a5,c5) rfl rfl rfl rfl trivial ?_
 exact ent
def rtD14_0:List Row:=[tR 11 [] [],tR 12 [0] [0],tR 13 [1] [0,1],tR 14 [2] [0,1,2],tR 15 [] [],tR 16 [] [],tR 17 [4,5] [4,5],tR 18 [] [],tR 19 [7,6] [4,5,6,7],tR 20 [3,6,8,8] (rG 9),tR 10 [9] (rG 10),tR 21 [10] (rG 11),tR 22 [10] (rG 11),tR 6 [11,9,0,1,2,3,4,5,6,7,8,9,10,11] (rG 12),tR 7 [12,13,0,1,2,3,4,5,6,7,8,9,10,11,12,13] (rG 14)]
def c0Q:List Row:=[tR 44 [] [],tR 45 [0] [0],tR 46 [1] [0,1],tG 47 [2] [0,1,2] 2 false,tG 48 [3,2,2] [0,1,2,3] 2 false,tG 49 [2] [0,1,2] 2 false,tG 50 [5,2] [0,1,2,5] 2 false,tG 51 [6,2] [0,1,2,5,6] 2 false,tG 52 [7,2] [0,1,2,5,6,7] 2 false,tG 53 [4,8,2] (rG 9) 2 false,tR 54 [2,9] (rG 10)]
def rtD14_5:List Row:=[tR 56 [] [],tR 57 [0] [0],tR 58 [1] [0,1],tR 59 [] [],tR 60 [3] [3],tR 61 [2,4] (rG 5),⟨none,[5,2,0,1,2,3,4,5],[0,1,2,3,4,5],none⟩,tR 5 [6,0,1,2,3,4,5,6] (rG 7)]
theorem wh_whole_no (H:List Hl) (wb fb:Nat) (g:BitVec 32) (z:Nat) (ad:Option Addr) (c:Nat) (f:Fl) (p:Nat) (h:RdWh (stars H) wb fb g z) (hf:RdFl (stars H) fb ad c f) (hp:p<8*plW z) (hd:f.pw.isDown=false) (hw:recAt f.bs g z p=none) :
  Spec Tryz.prog 213 [.pointer (some ⟨wb,0,none⟩),I p] H (fun _:Unit=>True) (fun _ => .tuple #[cpZ,.bool false]) (fun _=>H):=by
 refine sP (res:=fun _=>[]) H Tryz.func213 Tryz.ntmps213 fun W=>?_
 have hl:=hf.l
 have z1:=h.z1
 have z2:=h.z2
 have hwf:=h.f
 have hwg:=h.gc
 obtain ⟨ab1,ab2⟩:=a8U z1 z2 hp
 unfold recAt at hw
 obtain ⟨a,ha⟩:∃ a,atW z p=a:=⟨_,rfl⟩
 rw [ha] at hw ab1 ab2
 obtain ⟨S,hS⟩:∃ S,seg f.bs a (z+13)=S:=⟨_,rfl⟩
 have hSl:S.length=z+13:=by rw [←hS];exact a2Q (by omega)
 rw [hS] at hw
 obtain ⟨y,hy⟩:∃ y,S[z+12]?=some y:=⟨_,List.getElem?_eq_getElem (by omega)⟩
 have hyd:S.getD (z+12) 0#8=y:=by rw [List.getD_eq_getElem?_getD,hy];rfl
 unfold recC at hw
 rw [hyd] at hw
 have hidx:((z+13:Nat):Int) - 1=((z+12:Nat):Int):=by omega
 repeat' (first|intro _|refine wK ?_|refine wL ?_ ?_|fail)
 refine a0H [(0,_),(1,_)] rtD14_0 [6,8,9] [⟨[0,1,2,3,4,5,7],[],some 6⟩,⟨[],[0,1,2,3,7],some 8⟩,⟨[],[0,1,2,3],some 9⟩,⟨[10,11,12,13,14],[],none⟩] mixed cv (by kernel_rfl) (by kernel_rfl) ?_
 repeat' (first|intro _|refine sg ?_|(refine a1E ?_;refine po (by first|refine a0L rfl hwf fz|fail) ?_)|refine pw ?_|refine pdd ?_|(refine k_fn 167 ?_;(refine a0A (fun _=>wh_at _ wb z p (cl_up h.zc) z1 z2 hp) rfl (fun _ _=>?_);rw [ha]))|(refine k_fn 195 ?_;refine a0A (fun _=>a8C _ wb z (cl_up h.zc) z2) rfl (fun _ _=>?_))|(refine k_fn 98 ?_;(refine a0A (fun _=>a9Q _ fb ad c f a (z+13) hf.up (by omega) hd) rfl (fun ⟨a6,c6⟩ _=>?_);(try dsimp only);rw [hS]))|refine ow ?_|fail)
 all_goals dsimp only [cA,nA]
 by_cases h2:y=0#8
 ·subst h2
  rw [if_neg (by simp)] at hw
  obtain ⟨Q,hQ⟩:∃ Q,S.take (z+12)=Q:=⟨_,rfl⟩
  have hQl:Q.length=z+12:=by rw [←hQ,List.length_take];omega
  rw [hQ] at hw
  have hQ4:Q.length - 4=z+8:=by omega
  obtain ⟨Z,hQZ⟩:∃ Z,Q.take (z+8)=Z:=⟨_,rfl⟩
  have hZl:Z.length=z+8:=by rw [←hQZ,List.length_take];omega
  have hZ4:Z.take 4=S.take 4:=by rw [←hQZ,←hQ,List.take_take,List.take_take] <;> (congr 1 <;> omega)
  obtain ⟨k,hk⟩:∃ k,num32 (S.take 4)=k:=⟨_,rfl⟩
  rw [hk] at hw
  cases hc:crcOk Q
  ·repeat' (first|intro _|(refine k_fn 195 ?_;refine a0A (fun _=>a8C _ wb z (cl_up h.zc) z2) rfl (fun _ _=>?_))|(refine a0D .sub ?_;(refine a3D rfl rfl (by omega) ?_;rw [hidx]))|(refine a0J ?_;refine a2B (enc:=B) (ad:=a6) (c:=c6) (xs:=S) (z+12) rfl rfl a0I hSl.symm rfl (by omega) ?_)|(refine a0K ?_;refine a1T (enc:=B) (ad:=a6) (c:=c6) (xs:=S) (z+12) 0#8 rfl a0I hy ?_)|(refine a0D .neq ?_;refine a2E rfl rfl rfl ?_)|(refine a3X ?_;(refine a7V (enc:=B) (xs:=S) (z+12) rfl rfl rfl hSl.symm (by omega) ?_;rw [hQ]))|(refine k_fn 72 ?_;refine a0A (fun hh=>crc_Right_no _ (cutA a6 c6 0) Q.length (c6 - 0) Q (b3Z (l:=S) (enc:=B) (z+12) (by omega) hQ hh) rfl (by omega) hc) rfl (fun _ _=>?_))|refine wK ?_|refine wL ?_ ?_|fail)
   refine a0H [(9,_),(8,_),(0,_)] c0Q [4] [⟨[0,1,2,3,5,6,7,8],[],some 4⟩,⟨[9,10],[5,6,7,8],none⟩] mixed cv (by kernel_rfl) (by kernel_rfl) ?_
   repeat' (first|intro _|refine sg ?_|refine pw ?_|refine pdd ?_|refine ow ?_|fail)
   all_goals dsimp only [cA,nA]
   repeat' (first|intro _|refine wK ?_|refine wL ?_ ?_|fail)
   refine a0N () rfl rfl rfl rfl rfl trivial ?_
   exact ent
  ·have hkg:k≠g:=fun e=>by
    rw [hc,if_neg (by simp),if_neg (by simpa using e)] at hw
    cases hw
   have hkg2:(k.toNat:Int)≠g.toNat:=fun e=>hkg (BitVec.eq_of_toNat_eq (by omega))
   repeat' (first|intro _|(refine k_fn 195 ?_;refine a0A (fun _=>a8C _ wb z (cl_up h.zc) z2) rfl (fun _ _=>?_))|(refine a0D .sub ?_;(refine a3D rfl rfl (by omega) ?_;rw [hidx]))|(refine a0J ?_;refine a2B (enc:=B) (ad:=a6) (c:=c6) (xs:=S) (z+12) rfl rfl a0I hSl.symm rfl (by omega) ?_)|(refine a0K ?_;refine a1T (enc:=B) (ad:=a6) (c:=c6) (xs:=S) (z+12) 0#8 rfl a0I hy ?_)|(refine a0D .neq ?_;refine a2E rfl rfl rfl ?_)|(refine a3X ?_;(refine a7V (enc:=B) (xs:=S) (z+12) rfl rfl rfl hSl.symm (by omega) ?_;rw [hQ]))|(refine k_fn 72 ?_;(refine a0A (fun hh=>b3L _ (cutA a6 c6 0) Q.length (c6 - 0) Q (b3Z (l:=S) (enc:=B) (z+12) (by omega) hQ hh) rfl (by omega) hc) rfl (fun ⟨a41,c41⟩ _=>?_);(try dsimp only);rw [hQ4,hQZ]))|refine wK ?_|refine wL ?_ ?_|fail)
   refine a0H [(9,_),(8,_),(0,_)] c0Q [4] [⟨[0,1,2,3,5,6,7,8],[],some 4⟩,⟨[9,10],[5,6,7,8],none⟩] mixed cv (by kernel_rfl) (by kernel_rfl) ?_
   repeat' (first|intro _|refine sg ?_|(refine a1E ?_;refine po (by first|refine a0L rfl hwg fz|fail) ?_)|(refine a1I .neq ?_;refine po (by first|refine a3R rfl rfl hkg2 fz|fail) ?_)|refine pw ?_|refine pdd ?_|(refine k_fn 233 ?_;refine a0A (fun hh=>b5O _ a41 (z+8) c41 Z k (a0I hh) hZl.symm (by omega) (by rw [hZ4,hk])) rfl (fun _ _=>?_))|refine ow ?_|fail)
   all_goals dsimp only [cA,nA]
   repeat' (first|intro _|refine wK ?_|refine wL ?_ ?_|fail)
   refine a0N () rfl rfl rfl rfl rfl trivial ?_
   exact ent
 ·have hy0:(y.toNat:Int)≠0:=fun e=>h2 (BitVec.eq_of_toNat_eq (by show y.toNat=0;omega))
  repeat' (first|intro _|(refine k_fn 195 ?_;refine a0A (fun _=>a8C _ wb z (cl_up h.zc) z2) rfl (fun _ _=>?_))|(refine a0D .sub ?_;(refine a3D rfl rfl (by omega) ?_;rw [hidx]))|(refine a0J ?_;refine a2B (enc:=B) (ad:=a6) (c:=c6) (xs:=S) (z+12) rfl rfl a0I hSl.symm rfl (by omega) ?_)|(refine a0K ?_;refine a1T (enc:=B) (ad:=a6) (c:=c6) (xs:=S) (z+12) y rfl a0I hy ?_)|(refine a0D .neq ?_;refine a3R rfl rfl hy0 ?_)|refine wK ?_|refine wL ?_ ?_|fail)
  refine a0N () rfl rfl rfl rfl rfl trivial ?_
  exact ent
theorem wh_whole (H:List Hl) (wb fb:Nat) (g:BitVec 32) (z:Nat) (ad:Option Addr) (c:Nat) (f:Fl) (p:Nat) (id:BitVec 32) (d Z:List (BitVec 8)) (h:RdWh (stars H) wb fb g z) (hf:RdFl (stars H) fb ad c f) (hp:p<8*plW z) (hd:f.pw.isDown=false) (hw:recAt f.bs g z p=some (id,d)) (hZ:seg f.bs (atW z p) (z+8)=Z) :
  Spec Tryz.prog 213 [.pointer (some ⟨wb,0,none⟩),I p] H (fun _:Option Addr × Nat=>True) (fun r => .tuple #[.agg #[W4 id,.slice (cutA r.1 r.2 8) z (r.2 - 8)],.bool true]) (fun r => .row 5 1 (.slice r.1 (z+8) r.2) (z+8) (Z.map B)::H):=by
 refine sP (res:=fun r:Option Addr × Nat=>[.row 5 1 (.slice r.1 (z+8) r.2) (z+8) (Z.map B)]) H Tryz.func213 Tryz.ntmps213 fun W=>?_
 have hl:=hf.l
 have z1:=h.z1
 have z2:=h.z2
 have hwf:=h.f
 have hwg:=h.gc
 obtain ⟨ab1,ab2⟩:=a8U z1 z2 hp
 unfold recAt at hw
 obtain ⟨a,ha⟩:∃ a,atW z p=a:=⟨_,rfl⟩
 rw [ha] at hw ab1 ab2 hZ
 obtain ⟨S,hS⟩:∃ S,seg f.bs a (z+13)=S:=⟨_,rfl⟩
 have hSl:S.length=z+13:=by rw [←hS];exact a2Q (by omega)
 rw [hS] at hw
 obtain ⟨y,hy⟩:∃ y,S[z+12]?=some y:=⟨_,List.getElem?_eq_getElem (by omega)⟩
 have hyd:S.getD (z+12) 0#8=y:=by rw [List.getD_eq_getElem?_getD,hy];rfl
 unfold recC at hw
 rw [hyd] at hw
 have hidx:((z+13:Nat):Int) - 1=((z+12:Nat):Int):=by omega
 by_cases h2 : ¬ y=0#8
 ·rw [if_pos (by simpa using h2)] at hw;cases hw
 have h2:y=0#8:=Decidable.not_not.1 h2
 subst h2
 rw [if_neg (by simp)] at hw
 obtain ⟨Q,hQ⟩:∃ Q,S.take (z+12)=Q:=⟨_,rfl⟩
 have hQl:Q.length=z+12:=by rw [←hQ,List.length_take];omega
 rw [hQ] at hw
 have hQ4:Q.length - 4=z+8:=by omega
 have hSZ:S.take (z+8)=Z:=by rw [←hZ,←hS];simp only [seg,List.take_take] <;> (congr 1 <;> omega)
 have hQZ:Q.take (z+8)=Z:=by rw [←hQ,List.take_take,Nat.min_eq_left (by omega),hSZ]
 have hZl:Z.length=z+8:=by rw [←hQZ,List.length_take];omega
 have hZ4:Z.take 4=S.take 4:=by rw [←hSZ,List.take_take] <;> (congr 1 <;> omega)
 obtain ⟨k,hk⟩:∃ k,num32 (S.take 4)=k:=⟨_,rfl⟩
 rw [hk] at hw
 cases hc:crcOk Q
 ·rw [hc] at hw;simp at hw
 rw [hc,if_neg (by simp)] at hw
 by_cases hkg : ¬ k=g
 ·rw [if_pos hkg] at hw;cases hw
 have hkg:k=g:=Decidable.not_not.1 hkg
 subst hkg
 rw [if_neg (by simp)] at hw
 obtain ⟨e1,e2⟩:=Prod.mk.inj (Option.some.inj hw)
 have hZ8:(Z.drop 4).take 4=seg S 4 4:=by rw [←hSZ,List.drop_take,List.take_take];unfold seg;congr 1 <;> omega
 obtain ⟨Z4,hZ4e⟩:∃ Z4,Z.drop 4=Z4:=⟨_,rfl⟩
 have hZ4l:Z4.length=z+4:=by rw [←hZ4e,List.length_drop];omega
 have hZ44:num32 (Z4.take 4)=id:=by rw [←hZ4e,hZ8,e1]
 have hZd:(Z.drop 8).length=z:=by rw [List.length_drop];omega
 repeat' (first|intro _|refine wK ?_|refine wL ?_ ?_|fail)
 refine a0H [(0,_),(1,_)] rtD14_0 [6,8,9] [⟨[0,1,2,3,4,5,7],[],some 6⟩,⟨[],[0,1,2,3,7],some 8⟩,⟨[],[0,1,2,3],some 9⟩,⟨[10,11,12,13,14],[],none⟩] mixed cv (by kernel_rfl) (by kernel_rfl) ?_
 repeat' (first|intro _|refine sg ?_|(refine a1E ?_;refine po (by first|refine a0L rfl hwf fz|fail) ?_)|refine pw ?_|refine pdd ?_|(refine k_fn 167 ?_;(refine a0A (fun _=>wh_at _ wb z p (cl_up h.zc) z1 z2 hp) rfl (fun _ _=>?_);rw [ha]))|(refine k_fn 195 ?_;refine a0A (fun _=>a8C _ wb z (cl_up h.zc) z2) rfl (fun _ _=>?_))|(refine k_fn 98 ?_;(refine a0A (fun _=>a9Q _ fb ad c f a (z+13) hf.up (by omega) hd) rfl (fun ⟨a6,c6⟩ _=>?_);(try dsimp only);rw [hS]))|refine ow ?_|fail)
 all_goals dsimp only [cA,nA]
 repeat' (first|intro _|(refine k_fn 195 ?_;refine a0A (fun _=>a8C _ wb z (cl_up h.zc) z2) rfl (fun _ _=>?_))|(refine a0D .sub ?_;(refine a3D rfl rfl (by omega) ?_;rw [hidx]))|(refine a0J ?_;refine a2B (enc:=B) (ad:=a6) (c:=c6) (xs:=S) (z+12) rfl rfl a0I hSl.symm rfl (by omega) ?_)|(refine a0K ?_;refine a1T (enc:=B) (ad:=a6) (c:=c6) (xs:=S) (z+12) 0#8 rfl a0I hy ?_)|(refine a0D .neq ?_;refine a2E rfl rfl rfl ?_)|(refine a3X ?_;(refine a7V (enc:=B) (xs:=S) (z+12) rfl rfl rfl hSl.symm (by omega) ?_;rw [hQ]))|(refine k_fn 72 ?_;(refine a0A (fun hh=>b3L _ (cutA a6 c6 0) Q.length (c6 - 0) Q (b3Z (l:=S) (enc:=B) (z+12) (by omega) hQ hh) rfl (by omega) hc) rfl (fun ⟨a41,c41⟩ _=>?_);(try dsimp only);rw [hQ4,hQZ]))|refine wK ?_|refine wL ?_ ?_|fail)
 refine a0H [(9,_),(8,_),(0,_)] c0Q [4] [⟨[0,1,2,3,5,6,7,8],[],some 4⟩,⟨[9,10],[5,6,7,8],none⟩] mixed cv (by kernel_rfl) (by kernel_rfl) ?_
 repeat' (first|intro _|refine sg ?_|(refine a1E ?_;refine po (by first|refine a0L rfl hwg fz|fail) ?_)|(refine a1I .neq ?_;refine po (by first|refine a2E rfl rfl rfl fz|fail) ?_)|refine pw ?_|refine pdd ?_|(refine k_fn 233 ?_;refine a0A (fun hh=>b5O _ a41 (z+8) c41 Z k (a0I hh) hZl.symm (by omega) (by rw [hZ4,hk])) rfl (fun _ _=>?_))|refine ow ?_|fail)
 all_goals dsimp only [cA,nA]
 repeat' (first|intro _|refine wK ?_|refine wL ?_ ?_|fail)
 refine a0H [(8,_),(4,_)] rtD14_5 [2,6] [⟨[0,1,3,4],[],some 2⟩,⟨[5],[3,4],some 6⟩,⟨[7],[],none⟩] mixed cv (by kernel_rfl) (by kernel_rfl) ?_
 repeat' (first|intro _|refine sg ?_|(refine a6D ?_;refine po (by first|((refine b0G (xs:=Z) 4 rfl rfl rfl hZl.symm (by omega) ?_;rw [hZ4e]);all_goals exact fz)|((refine b0G (xs:=Z) 8 rfl rfl rfl hZl.symm (by omega) ?_;rw [hZd]);all_goals exact fz)|fail) ?_)|refine pw ?_|refine pdd ?_|(refine k_fn 233 ?_;refine a0A (fun hh=>b5O _ (cutA a41 c41 4) Z4.length (c41 - 4) Z4 id (a3U (l:=Z) (enc:=B) 4 (by omega) hZ4e hh) rfl (by omega) hZ44) rfl (fun _ _=>?_))|refine ow ?_|fail)
 all_goals dsimp only [cA,nA]
 repeat' (first|intro _|refine wK ?_|refine wL ?_ ?_|fail)
 refine a0N (a41,c41) rfl rfl rfl rfl rfl trivial ?_
 exact ent
def rtD16_0:List Row:=[tR 40 [] [],tR 41 [] [],tR 42 [1] [1],tR 43 [2] [1,2],tR 44 [3] [1,2,3],tR 45 [] [],tR 46 [5] [5],tR 47 [4,6] [1,2,3,4,5,6],tR 48 [0,0,1,2,3,4,5,6,7] (rG 8),tR 49 [8,0,1,2,3,4,5,6,7] (rG 9),⟨none,[9,7,7,0,1,2,3,4,5,6,7],[0,1,2,3,4,5,6,7,8,9],none⟩]
structure RecD where
 id:BitVec 32
 ad:Option Addr
 n:Nat
 cap:Nat
 l:List (BitVec 8)
def RecD.p (r:RecD):Rec:=(r.id,r.l)
abbrev rF (r:RecD):Value:=W4 r.id
abbrev rGq (r:RecD):Value := .slice r.ad r.n r.cap
def RdRs (A:Hp→Prop) (rs:List RecD):Prop:=∀ r∈rs,Rs A B r.ad r.cap r.l∧r.l.length=r.n
theorem RdRs.gr {A A':Hp→Prop} {rs:List RecD} (h:RdRs A rs) (g:Gr A A'):RdRs A' rs:=fun r hr=>⟨rs_gr (h r hr).1 g,(h r hr).2⟩
theorem RdRs.nil {A:Hp→Prop}:RdRs A []:=fun r hr=>by cases hr
theorem RdRs.snoc {A:Hp→Prop} {rs:List RecD} {r:RecD} (h:RdRs A rs) (hr:Rs A B r.ad r.cap r.l) (hl:r.l.length=r.n):RdRs A (rs++[r]):=fun q hq=>by
 rcases List.mem_append.1 hq with hq|hq
 ·exact h q hq
 ·obtain rfl:q=r:=by simpa using hq
  exact ⟨hr,hl⟩
abbrev rsR (la:Option Addr) (lc:Nat) (rs:List RecD):Hl := .row 243 2 (.slice la rs.length lc) rs.length (w2 rF rGq rs)
theorem recAt_len {l:List (BitVec 8)} {g:BitVec 32} {z p:Nat} {id:BitVec 32} {d:List (BitVec 8)} (h:recAt l g z p=some (id,d)) (ha:atW z p+(z+13)≤l.length):(seg l (atW z p) (z+8)).drop 8=d∧d.length=z:=by
 unfold recAt recC at h
 split at h
 ·cases h
 split at h
 ·cases h
 split at h
 ·cases h
 obtain ⟨_,e2⟩:=Prod.mk.inj (Option.some.inj h)
 have e3:(seg l (atW z p) (z+8)).drop 8=d:=by
  rw [←e2]
  unfold seg
  rw [List.drop_take,List.drop_take,List.take_take]
  congr 1;omega
 refine ⟨e3,?_⟩
 rw [←e3,List.length_drop,a2Q (by omega)]
 omega
theorem wh_reads (H:List Hl) (A:Hp→Prop) (wb fb:Nat) (g:BitVec 32) (z:Nat) (ad:Option Addr) (c:Nat) (f:Fl) (la:Option Addr) (lc:Nat) (rs:List RecD) (rdy:Int) (s:Nat) (hz1:1≤z) (hz2:z≤16) (hf:RdFl (stars H) fb ad c f) (hd:f.pw.isDown=false) (hs:s<8) (hrs:RdRs A rs) (hrl:rs.length≤1000) :
  Spec Tryz.prog 194 [.pointer (some ⟨wb,0,none⟩),I s] (whB wb fb g z la rs.length lc rdy 0::rsR la lc rs :: .any A::H)
   (fun r:(Option Addr × Nat × List RecD) × (Hp→Prop)=>r.1.2.2.map RecD.p=rs.map RecD.p++(if secOn f.bs g z s=true then recsP f.bs g z (s*plW z) (plW z) else [])∧RdRs r.2 r.1.2.2∧Gr A r.2∧r.1.2.2.length≤rs.length+18) (fun _ => .tuple #[])
   (fun r=>whB wb fb g z r.1.1 r.1.2.2.length r.1.2.1 (if secOn f.bs g z s=true then (s:Int) else rdy) 0::rsR r.1.1 r.1.2.1 r.1.2.2 :: .any r.2::H):=by
 refine sF (res:=fun r:(Option Addr × Nat × List RecD) × (Hp→Prop)=>[whB wb fb g z r.1.1 r.1.2.2.length r.1.2.1 (if secOn f.bs g z s=true then (s:Int) else rdy) 0,rsR r.1.1 r.1.2.1 r.1.2.2,.any r.2]) [whB wb fb g z la rs.length lc rdy 0,rsR la lc rs,.any A] H Tryz.func194 Tryz.ntmps194 fun W=>?_
 dsimp only [cA,nA]
 obtain ⟨b1,b2,b3⟩:=a7K hz1 hz2
 have hfl:=hf.l
 obtain ⟨L,hL⟩:∃ L,plW z=L:=⟨_,rfl⟩
 have hat:∀ p,p<8*L→atW z p+(z+13)≤f.bs.length:=fun p hp=>by have:=(a8U hz1 hz2 (p:=p) (by rw [hL];exact hp)).1;omega
 rw [hL] at b1 b2 b3
 obtain ⟨q,hq⟩:∃ q,s*L=q:=⟨_,rfl⟩
 have hqb:q+L≤8*L:=by
  have:(s+1)*L≤8*L:=Nat.mul_le_mul_right _ (by omega)
  rw [Nat.add_mul,Nat.one_mul,hq] at this
  exact this
 have hmul:(s:Int)*(L:Int)=(q:Int):=by rw [←hq];push_cast;rfl
 unfold secOn
 rw [hL,hq]
 have hq0:q<8*plW z:=by rw [hL];omega
 cases hw:recAt f.bs g z q with
 | none =>
  repeat' (first|intro _|(refine k_fn 164 ?_;(refine a0A (fun _=>a7E _ wb z (a1M rfl) hz2) rfl (fun _ _=>?_);rw [hL]))|(refine a0D .mul ?_;(refine a2Y rfl rfl (by rw [hmul];omega) ?_;rw [hmul]))|(refine k_fn 213 ?_;(refine a0A (fun _=>wh_whole_no _ wb fb g z ad c f q (RdWh.own hz1 hz2) hf.up hq0 hd hw) rfl (fun _ _=>?_)))|refine wK ?_|refine wL ?_ ?_|fail)
  refine a4I ((la,lc,rs),A) rfl rfl ⟨by simp,hrs,Gr.refl A,by simp⟩ ?_
  exact ent
 | some r0 =>
  obtain ⟨id0,d0⟩:=r0
  repeat' (first|intro _|(refine k_fn 164 ?_;(refine a0A (fun _=>a7E _ wb z (a1M rfl) hz2) rfl (fun _ _=>?_);rw [hL]))|(refine a0D .mul ?_;(refine a2Y rfl rfl (by rw [hmul];omega) ?_;rw [hmul]))|(refine k_fn 213 ?_;(refine a0A (fun _=>wh_whole _ wb fb g z ad c f q id0 d0 _ (RdWh.own hz1 hz2) hf.up hq0 hd hw rfl) rfl (fun ⟨a0,c0⟩ _=>?_);(try dsimp only)))|refine wK ?_|refine wL ?_ ?_|fail)
  refine a0Y (S:=Nat × (Option Addr × Nat × List RecD) × (Hp→Prop)) (fun q1=>[(0,.pointer (some ⟨wb,0,none⟩)),(4,I q),(27,I L),(28,I q1.1)])
   (fun q1=>[whB wb fb g z q1.2.1.1 q1.2.1.2.2.length q1.2.1.2.1 s 0,rsR q1.2.1.1 q1.2.1.2.1 q1.2.1.2.2,.any q1.2.2,.any (stars H)])
   (fun q1=>q1.1≤L∧q1.2.1.2.2.map RecD.p=rs.map RecD.p++recsP f.bs g z q q1.1∧RdRs q1.2.2 q1.2.1.2.2∧Gr A q1.2.2∧q1.2.1.2.2.length≤rs.length+q1.1) (fun q1=>L - q1.1) (0,(la,lc,rs),A) ⟨Nat.zero_le _,by simp [recsP],hrs,Gr.refl A,Nat.le_refl _⟩
   cv (by show Ent _ [whB wb fb g z la rs.length lc s 0,rsR la lc rs,.any A,.any (stars H)];exact ent) ?_
  rintro ⟨i,⟨la1,lc1,rs1⟩,A1⟩ ⟨hi,hm,hr1,hg,hlen⟩
  dsimp only at hi hm hr1 hg hlen ⊢
  by_cases hlt:i<L
  ·have hpi:(q:Int)+(i:Int)=((q+i:Nat):Int):=by omega
   have hpb:q+i<8*plW z:=by rw [hL];omega
   cases hwi:recAt f.bs g z (q+i) with
   | none =>
    repeat' (first|intro _|(refine a0D .add ?_;(refine a2F rfl rfl (by omega) ?_;(try rw [hpi])))|(refine k_fn 213 ?_;(refine a0A (fun _=>wh_whole_no _ wb fb g z ad c f (q+i) (RdWh.own hz1 hz2) hf.up hpb hd hwi) rfl (fun _ _=>?_)))|refine wK ?_|refine wL ?_ ?_|fail)
    refine a0Q (i+1,(la1,lc1,rs1),A1) ⟨hlt,?_,hr1,hg,by show rs1.length≤rs.length+(i+1);omega⟩ (by show L - (i+1)<L - i;omega) cv ?_
    ·show rs1.map RecD.p=_
     rw [hm]
     simp only [recsP,hwi]
    exact ent
   | some r1 =>
    obtain ⟨id,d⟩:=r1
    obtain ⟨hdr,hdl⟩:=recAt_len hwi (hat _ (by rw [←hL];exact hpb))
    obtain ⟨Z,hZ⟩:∃ Z,seg f.bs (atW z (q+i)) (z+8)=Z:=⟨_,rfl⟩
    have hZl:Z.length=z+8:=by rw [←hZ];exact a2Q (by have:=hat (q+i) (by rw [←hL];exact hpb);omega)
    rw [hZ] at hdr
    repeat' (first|intro _|(refine a0D .add ?_;(refine a2F rfl rfl (by omega) ?_;(try rw [hpi])))|(refine k_fn 213 ?_;(refine a0A (fun _=>wh_whole _ wb fb g z ad c f (q+i) id d Z (RdWh.own hz1 hz2) hf.up hpb hd hwi hZ) rfl (fun ⟨a8,c8⟩ _=>?_);(try dsimp only)))|refine wK ?_|refine wL ?_ ?_|fail)
    refine a0H [(0,_),(8,_)] rtD16_0 [6,7,10] [⟨[0,1,2,3,4,5],[],some 6⟩,⟨[],[0,1,2,3,4],some 7⟩,⟨[8,9],[0],some 10⟩,⟨[],[],none⟩] mixed cv (by kernel_rfl) (by kernel_rfl) ?_
    repeat' (first|intro _|refine sg ?_|(refine a1E ?_;refine po (by first|refine a0F (b:=wb) (i:=3) rfl rfl fz|fail) ?_)|refine pw ?_|refine pdd ?_|(refine a0P ?_;refine b8Z rfl rfl (fun b46=>?_))|(refine a1S ?_;refine b1W (f:=rF) (g:=rGq) (xs:=rs1) (b:=b46) (y0:=⟨id,cutA a8 c8 8,z,c8 - 8,d⟩) rfl rfl rfl rfl rfl (by omega) (by omega) (fun a47 c47=>?_))|(refine a1N ?_;refine a1R (b:=wb) (i:=3) rfl rfl (by decide) rfl rfl ?_)|refine ow ?_|fail)
    all_goals dsimp only [cA,nA]
    have hsn:rs1.length+1=(rs1++[(⟨id,cutA a8 c8 8,z,c8 - 8,d⟩:RecD)]).length:=by simp
    rw [hsn]
    refine nx_pack [.row 5 1 (.slice a8 (z+8) c8) (z+8) (Z.map B),.any A1] [whB wb fb g z a47 (rs1++[(⟨id,cutA a8 c8 8,z,c8 - 8,d⟩:RecD)]).length c47 s 0,rsR a47 c47 (rs1++[⟨id,cutA a8 c8 8,z,c8 - 8,d⟩]),.any (stars H)] ent ?_
    refine nx_has (fun hh=>?_)
    have hA:=a5L hh
    have u1:=a3U (T:=5) (ad:=a8) (c:=c8) (n:=z+8) (l:=Z) (enc:=B) 8 (by omega) hdr hA
    obtain ⟨A2,hA2⟩:∃ A2,stars [.row 5 1 (.slice a8 (z+8) c8) (z+8) (Z.map B),.any A1]=A2:=⟨_,rfl⟩
    have hg2:Gr A1 A2:=by rw [←hA2];exact Gr.of
    rw [hA2] at u1 ⊢
    clear hh hA hA2
    repeat' (first|intro _|refine wK ?_|refine wL ?_ ?_|fail)
    refine a0Q (i+1,(a47,c47,rs1++[⟨id,cutA a8 c8 8,z,c8 - 8,d⟩]),A2) ⟨hlt,?_,(hr1.gr hg2).snoc u1 hdl,hg.trans hg2,by show (rs1++[_]).length≤rs.length+(i+1);simp;omega⟩ (by show L - (i+1)<L - i;omega) cv ?_
    ·show (rs1++[_]).map RecD.p=_
     rw [List.map_append,hm]
     simp [recsP,hwi,RecD.p]
    exact ent
  ·have:i=L:=by omega
   subst this
   repeat' (first|intro _|refine wK ?_|refine wL ?_ ?_|fail)
   refine a4I ((la1,lc1,rs1),A1) rfl rfl ⟨hm,hr1,hg,by show rs1.length≤rs.length+18;omega⟩ ?_
   exact ent
def rtD17_0:List Row:=[tR 48 [] [],tR 49 [0] [0],tR 50 [1] [0,1],tR 51 [2] [0,1,2],tR 52 [] [],tR 53 [4] [4],tR 54 [3,5] (rG 6),tR 12 [6,5,0,1,2,3,4,5,6] (rG 7)]
theorem rdyW_cases (l:List (BitVec 8)) (g:BitVec 32) (z:Nat):∀ n,rdyW l g z n = -1∨∃ s,s<n∧rdyW l g z n=(s:Int)
 | 0 => .inl rfl
 | n+1=>by
  unfold rdyW
  split
  ·exact .inr ⟨n,by omega,rfl⟩
  ·rcases rdyW_cases l g z n with h|⟨s,h1,h2⟩
   ·exact .inl h
   ·exact .inr ⟨s,by omega,h2⟩
theorem ent_none {R:List Hl}:∀ h,stars R h→stars (.any (stars [])::R) h:=fun h hh=>⟨fun _=>none,h,fun _ => .inl rfl,fun _ _ e=>(by cases e),.refl _,trivial,hh⟩
theorem wh_Open (H:List Hl) (fb:Nat) (g:BitVec 32) (z:Nat) (ad:Option Addr) (c:Nat) (f:Fl) (hz1:1≤z) (hz2:z≤16) (hf:RdFl (stars H) fb ad c f) (hd:f.pw.isDown=false) :
  Spec Tryz.prog 159 [.pointer (some ⟨fb,0,none⟩),W4 g,I z] H
   (fun r:Nat × (Option Addr × Nat × List RecD) × (Hp→Prop)=>r.2.1.2.2.map RecD.p=recsW f.bs g z 8∧RdRs r.2.2 r.2.1.2.2∧r.2.1.2.2.length≤144) (fun r => .tuple #[.pointer (some ⟨r.1,0,none⟩),I 0])
   (fun r=>whB r.1 fb g z r.2.1.1 r.2.1.2.2.length r.2.1.2.1 (rdyW f.bs g z 8) (nxtW f.bs g z)::rsR r.2.1.1 r.2.1.2.1 r.2.1.2.2 :: .any r.2.2::H):=by
 refine sP (res:=fun r:Nat × (Option Addr × Nat × List RecD) × (Hp→Prop)=>[whB r.1 fb g z r.2.1.1 r.2.1.2.2.length r.2.1.2.1 (rdyW f.bs g z 8) (nxtW f.bs g z),rsR r.2.1.1 r.2.1.2.1 r.2.1.2.2,.any r.2.2]) H Tryz.func159 Tryz.ntmps159 fun W=>?_
 obtain ⟨b1,b2,b3⟩:=a7K hz1 hz2
 have hfl:=hf.l
 repeat' (first|intro _|refine a0S rfl rfl ?_|(refine k_fn 98 ?_;(refine a0A (fun _=>a9Q _ fb ad c f 0 0 hf.up (by omega) hd) rfl (fun ⟨a25,c25⟩ _=>?_);(try dsimp only)))|(refine k_box ?_;refine a1V rfl rfl (fun wb=>?_))|refine wK ?_|refine wL ?_ ?_|fail)
 refine a3J (ent_nil2 243 rF rGq) (a3J ent_none ?_)
 refine a0Y (S:=Nat × (Option Addr × Nat × List RecD) × (Hp→Prop)) (fun q=>[(0,.pointer (some ⟨fb,0,none⟩)),(10,.pointer (some ⟨wb,0,none⟩)),(36,I q.1)])
  (fun q=>[whB wb fb g z q.2.1.1 q.2.1.2.2.length q.2.1.2.1 (rdyW f.bs g z q.1) 0,rsR q.2.1.1 q.2.1.2.1 q.2.1.2.2,.any q.2.2,.any (stars H)])
  (fun q=>q.1≤8∧q.2.1.2.2.map RecD.p=recsW f.bs g z q.1∧RdRs q.2.2 q.2.1.2.2∧q.2.1.2.2.length≤q.1*18) (fun q=>8 - q.1) (0,(none,0,[]),stars []) ⟨Nat.zero_le _,rfl,RdRs.nil,Nat.le_refl _⟩
  cv (by show Ent _ [whB wb fb g z none 0 0 (-1) 0,rsR none 0 [],.any (stars []),.any (stars H)];exact ent) ?_
 rintro ⟨i,⟨la,lc,rs⟩,A⟩ ⟨hi,hm,hr,hlen⟩
 dsimp only at hi hm hr hlen ⊢
 by_cases hlt:i<8
 ·repeat' (first|intro _|(refine k_fn 194 ?_;(refine a0A (fun _=>wh_reads _ A wb fb g z ad c f la lc rs (rdyW f.bs g z i) i hz1 hz2 hf.up hd hlt hr (by omega)) rfl (fun ⟨⟨la2,lc2,rs2⟩,A2⟩ ⟨k1,k2,k3,k4⟩=>?_);(try dsimp only at k1 k2 k3 k4 ⊢)))|refine wK ?_|refine wL ?_ ?_|fail)
  refine a0Q (i+1,(la2,lc2,rs2),A2) ⟨hlt,?_,k2,by show rs2.length≤(i+1)*18;omega⟩ (by show 8 - (i+1)<8 - i;omega) cv ?_
  ·show rs2.map RecD.p=_
   rw [k1,hm,recsW]
   split
   ·rfl
   ·rw [List.append_nil]
  ·show Ent _ [whB wb fb g z la2 rs2.length lc2 (rdyW f.bs g z (i+1)) 0,rsR la2 lc2 rs2,.any A2,.any (stars H)]
   rw [rdyW]
   exact ent
 ·have:i=8:=by omega
  subst this
  obtain ⟨L,hL⟩:∃ L,plW z=L:=⟨_,rfl⟩
  rw [hL] at b1 b2 b3
  unfold nxtW
  rw [hL]
  obtain ⟨rd,hrd⟩:∃ rd,rdyW f.bs g z 8=rd:=⟨_,rfl⟩
  have hcs:=rdyW_cases f.bs g z 8
  rw [hrd] at hcs ⊢
  rcases hcs with hneg|⟨s,hs,hsr⟩
  ·subst hneg
   repeat' (first|intro _|(refine a0K ?_;refine a0F (b:=wb) (i:=4) rfl rfl ?_)|refine wK ?_|refine wL ?_ ?_|fail)
   refine a2U (wb,(la,lc,rs),A) rfl rfl rfl rfl ⟨hm,hr,by show rs.length≤144;omega⟩ ?_
   exact ent
  ·subst hsr
   obtain ⟨q,hq⟩:∃ q,s*L=q:=⟨_,rfl⟩
   have hqb:q+L≤8*L:=by
    have:(s+1)*L≤8*L:=Nat.mul_le_mul_right _ (by omega)
    rw [Nat.add_mul,Nat.one_mul,hq] at this
    exact this
   have hmul:(s:Int)*(L:Int)=(q:Int):=by rw [←hq];push_cast;rfl
   have hadd:(q:Int)+(L:Int)=((q+L:Nat):Int):=by omega
   have hif:(if (s:Int)<0 then 0 else backW f.bs z ((s:Int).toNat*L) L)=backW f.bs z q L:=by
    rw [if_neg (by omega),Int.toNat_natCast,hq]
   rw [hif]
   obtain ⟨r,hbk⟩:∃ r,backW f.bs z q L=r:=⟨_,rfl⟩
   rw [hbk]
   repeat' (first|intro _|(refine a0K ?_;refine a0F (b:=wb) (i:=4) rfl rfl ?_)|refine wK ?_|refine wL ?_ ?_|fail)
   refine a0H [(10,_)] rtD17_0 [5] [⟨[0,1,2,3,4],[],some 5⟩,⟨[6,7],[0,1,2,3],none⟩] mixed cv (by kernel_rfl) (by kernel_rfl) ?_
   repeat' (first|intro _|refine sg ?_|(refine a1E ?_;refine po (by first|refine a0F (b:=wb) (i:=4) rfl rfl fz|fail) ?_)|(refine a1I .mul ?_;refine po (by first|((refine a2Y rfl rfl (by rw [hmul];omega) ?_;rw [hmul]);all_goals exact fz)|fail) ?_)|refine pw ?_|refine pdd ?_|(refine k_fn 164 ?_;(refine a0A (fun _=>a7E _ wb z (a1M rfl) hz2) rfl (fun _ _=>?_);rw [hL]))|refine ow ?_|fail)
   all_goals dsimp only [cA,nA]
   repeat' (first|intro _|(refine k_fn 164 ?_;(refine a0A (fun _=>a7E _ wb z (a1M rfl) hz2) rfl (fun _ _=>?_);rw [hL]))|(refine a0D .add ?_;(refine a2F rfl rfl (by omega) ?_;rw [hadd]))|(refine a1N ?_;refine a1R (b:=wb) (i:=5) rfl rfl (by decide) rfl rfl ?_)|refine wK ?_|refine wL ?_ ?_|fail)
   refine a0Y (S:=Nat) (fun k=>[(0,.pointer (some ⟨fb,0,none⟩)),(10,.pointer (some ⟨wb,0,none⟩)),(12,I q)])
    (fun k=>[whB wb fb g z la rs.length lc s (q+k),rsR la lc rs,.any A,.any (stars H)]) (fun k=>k≤L∧backW f.bs z q k=r) (fun k=>k) L ⟨Nat.le_refl _,hbk⟩ cv ent ?_
   intro k ⟨hk,hkr⟩
   try dsimp only at hk hkr ⊢
   cases k with
   | zero =>
    repeat' (first|intro _|(refine a0K ?_;refine a0F (b:=wb) (i:=5) rfl rfl ?_)|(refine a0D .gtr ?_;refine a3H rfl rfl (by omega) ?_)|refine wK ?_|refine wL ?_ ?_|fail)
    have hkr:q+0=r:=hkr
    rw [←hkr]
    refine a2U (wb,(la,lc,rs),A) rfl rfl rfl rfl ⟨hm,hr,by show rs.length≤144;omega⟩ ?_
    exact ent
   | succ k =>
    have hsub:((q+(k+1):Nat):Int) - 1=((q+k:Nat):Int):=by omega
    have hpb:q+k<8*plW z:=by rw [hL];omega
    have hab:=(a8U hz1 hz2 hpb).1
    rw [backW] at hkr
    obtain ⟨y,hy⟩:∃ y,blankB (seg f.bs (atW z (q+k)) (z+13))=y:=⟨_,rfl⟩
    rw [hy] at hkr
    cases y
    ·rw [if_neg (by simp)] at hkr
     repeat' (first|intro _|(refine a0K ?_;refine a0F (b:=wb) (i:=5) rfl rfl ?_)|(refine a0D .gtr ?_;refine a4T rfl rfl (by omega) ?_)|(refine a0D .sub ?_;(refine a3D rfl rfl (by omega) ?_;rw [hsub]))|(refine k_fn 167 ?_;refine a0A (fun _=>wh_at _ wb z (q+k) (a1M rfl) hz1 hz2 hpb) rfl (fun _ _=>?_))|(refine k_fn 195 ?_;refine a0A (fun _=>a8C _ wb z (a1M rfl) hz2) rfl (fun _ _=>?_))|(refine k_fn 109 ?_;(refine a0A (fun _=>a5E _ fb ad c f (atW z (q+k)) (z+13) hf.up hab hd) rfl (fun _ _=>?_);rw [hy]))|refine wK ?_|refine wL ?_ ?_|fail)
     rw [←hkr]
     refine a2U (wb,(la,lc,rs),A) rfl rfl rfl rfl ⟨hm,hr,by show rs.length≤144;omega⟩ ?_
     exact ent
    ·rw [if_pos rfl] at hkr
     repeat' (first|intro _|(refine a0K ?_;refine a0F (b:=wb) (i:=5) rfl rfl ?_)|(refine a0D .gtr ?_;refine a4T rfl rfl (by omega) ?_)|(refine a0D .sub ?_;(refine a3D rfl rfl (by omega) ?_;rw [hsub]))|(refine k_fn 167 ?_;refine a0A (fun _=>wh_at _ wb z (q+k) (a1M rfl) hz1 hz2 hpb) rfl (fun _ _=>?_))|(refine k_fn 195 ?_;refine a0A (fun _=>a8C _ wb z (a1M rfl) hz2) rfl (fun _ _=>?_))|(refine k_fn 109 ?_;(refine a0A (fun _=>a5E _ fb ad c f (atW z (q+k)) (z+13) hf.up hab hd) rfl (fun _ _=>?_);rw [hy]))|(refine a1N ?_;refine a1R (b:=wb) (i:=5) rfl rfl (by decide) rfl rfl ?_)|refine wK ?_|refine wL ?_ ?_|fail)
     refine a0Q k ⟨by omega,hkr⟩ (by omega) cv ?_
     exact ent
def rtD18_0:List Row:=[tR 17 [] [],tR 18 [] [],tR 19 [1] [1],tR 20 [] [],tR 21 [3] [3],tR 22 [4] [3,4],tR 23 [2,5] [1,2,3,4,5],tR 24 [6] [1,2,3,4,5,6],tR 25 [0,7,5] (rG 8),tR 3 [8,8,0,1,2,3,4,5,6,7,8] (rG 9)]
def rtD18_1:List Row:=[tR 5 [] [],tR 6 [0] [0],tR 7 [1] [0,1],tR 8 [] [],tR 9 [3] [3],tR 10 [4] [3,4],tR 11 [5] [3,4,5],tR 12 [2,6] (rG 7),tR 2 [7,1,0,1,2,3,4,5,6,7] (rG 8)]
theorem wh_Records (H:List Hl) (wb:Nat) (la:Option Addr) (lc:Nat) (rs:List RecD) (hw:Cl (stars H) ⟨wb,3,none⟩ (.slice la rs.length lc)) (h2:R2 (stars H) rF rGq la lc rs) (hr:RdRs (stars H) rs) (hb:rs.length≤1000) (hz:∀ r∈rs,r.l.length≤1000) :
  Spec Tryz.prog 161 [.pointer (some ⟨wb,0,none⟩)] H (fun r:(Option Addr × Nat × List RecD) × (Hp→Prop)=>r.1.2.2.map RecD.p=rs.map RecD.p∧RdRs r.2 r.1.2.2) (fun r => .slice r.1.1 r.1.2.2.length r.1.2.1) (fun r=>rsR r.1.1 r.1.2.1 r.1.2.2 :: .any r.2::H):=by
 refine sP (res:=fun r:(Option Addr × Nat × List RecD) × (Hp→Prop)=>[rsR r.1.1 r.1.2.1 r.1.2.2,.any r.2]) H Tryz.func161 Tryz.ntmps161 fun W=>?_
 repeat' (first|intro _|refine a0S rfl rfl ?_|(refine a0K ?_;refine a0L rfl hw ?_)|refine wK ?_|refine wL ?_ ?_|fail)
 refine a3J (ent_nil2 243 rF rGq) (a3J ent_none ?_)
 refine a0Y (S:=Nat × (Option Addr × Nat × List RecD) × (Hp→Prop)) (fun q=>[(3,.slice q.2.1.1 q.2.1.2.2.length q.2.1.2.1),(11,.slice la rs.length lc),(12,I rs.length),(13,I q.1)])
  (fun q=>[rsR q.2.1.1 q.2.1.2.1 q.2.1.2.2,.any q.2.2,.any (stars H)])
  (fun q=>q.1≤rs.length∧q.2.1.2.2.map RecD.p=(rs.take q.1).map RecD.p∧RdRs q.2.2 q.2.1.2.2∧q.2.1.2.2.length=q.1) (fun q=>rs.length - q.1) (0,(none,0,[]),stars []) ⟨Nat.zero_le _,by simp,RdRs.nil,rfl⟩
  cv (by show Ent _ [rsR none 0 [],.any (stars []),.any (stars H)];exact ent) ?_
 rintro ⟨i,⟨la1,lc1,rs1⟩,A1⟩ ⟨hi,hm,hr1,hlen⟩
 dsimp only at hi hm hr1 hlen ⊢
 by_cases hlt:i<rs.length
 ·obtain ⟨r,hri⟩:∃ r,rs[i]?=some r:=⟨_,List.getElem?_eq_getElem hlt⟩
  obtain ⟨hrr,hrn⟩:=hr r (List.mem_of_getElem? hri)
  have hz1:=hz r (List.mem_of_getElem? hri)
  repeat' (first|intro _|(refine a0J ?_;refine o1_iaw (f:=rF) (g:=rGq) (ad:=la) (c:=lc) i rfl rfl h2 rfl rfl hlt ?_)|(refine a0K ?_;refine o1_load_iaw (f:=rF) (g:=rGq) (ad:=la) (c:=lc) i r rfl h2 hri ?_)|refine wK ?_|refine wL ?_ ?_|fail)
  refine a0H [(3,_),(5,_)] rtD18_0 [5,7,8] [⟨[0,1,2,3,4],[],some 5⟩,⟨[6],[0,1,2],some 7⟩,⟨[],[0],some 8⟩,⟨[9],[],none⟩] mixed cv (by kernel_rfl) (by kernel_rfl) ?_
  repeat' (first|intro _|refine sg ?_|refine pw ?_|refine pdd ?_|(refine k_fn 29 ?_;(refine a0A (fun _=>(a1B _ r.ad r.cap r.l (Rs.up hrr) (by omega)).argE (args':=[.slice r.ad r.n r.cap]) (by rw [hrn])) rfl (fun ⟨a22,c22⟩ _=>?_);(try dsimp only);rw [hrn]))|(refine a0P ?_;refine b8Z rfl rfl (fun b24=>?_))|(refine a1S ?_;refine b1W (f:=rF) (g:=rGq) (xs:=rs1) (b:=b24) (y0:=⟨r.id,a22,r.n,c22,r.l⟩) rfl rfl rfl rfl rfl (by omega) (by omega) (fun a47 c47=>?_))|refine ow ?_|fail)
  all_goals dsimp only [cA,nA]
  have hsn:rs1.length+1=(rs1++[(⟨r.id,a22,r.n,c22,r.l⟩:RecD)]).length:=by simp
  rw [hsn]
  refine nx_pack [.row 5 1 (.slice a22 r.n c22) r.n (r.l.map B),.any A1] [rsR a47 c47 (rs1++[⟨r.id,a22,r.n,c22,r.l⟩]),.any (stars H)] ent ?_
  refine nx_has (fun hh=>?_)
  have hA:=a5L hh
  have u1:=a0I (T:=5) (ad:=a22) (c:=c22) (n:=r.n) (l:=r.l) (enc:=B) hA
  obtain ⟨A2,hA2⟩:∃ A2,stars [.row 5 1 (.slice a22 r.n c22) r.n (r.l.map B),.any A1]=A2:=⟨_,rfl⟩
  have hg2:Gr A1 A2:=by rw [←hA2];exact Gr.of
  rw [hA2] at u1 ⊢
  clear hh hA hA2
  repeat' (first|intro _|refine wK ?_|refine wL ?_ ?_|fail)
  refine a0Q (i+1,(a47,c47,rs1++[⟨r.id,a22,r.n,c22,r.l⟩]),A2) ⟨hlt,?_,(hr1.gr hg2).snoc u1 hrn,by show (rs1++[_]).length=i+1;simp;omega⟩ (by show rs.length - (i+1)<rs.length - i;omega) cv ?_
  ·show (rs1++[_]).map RecD.p=(rs.take (i+1)).map RecD.p
   obtain ⟨_,he⟩:=List.getElem?_eq_some_iff.1 hri
   rw [List.map_append,hm,List.take_succ_eq_append_getElem hlt,List.map_append,he]
   rfl
  exact ent
 ·have:i=rs.length:=by omega
  subst this
  repeat' (first|intro _|refine wK ?_|refine wL ?_ ?_|fail)
  refine a0E ((la1,lc1,rs1),A1) rfl rfl rfl ⟨by rw [hm,List.take_length],hr1⟩ ?_
  exact ent
theorem wh_Room (H:List Hl) (wb z nxt:Nat) (hz:Cl (stars H) ⟨wb,2,none⟩ (I z)) (hn:Cl (stars H) ⟨wb,5,none⟩ (I nxt)) (h1:1≤z) (h2:z≤16) (hb:nxt≤1000) :
  Spec Tryz.prog 163 [.pointer (some ⟨wb,0,none⟩)] H (fun _:Unit=>True) (fun _=>I (8*(plW z:Int) - nxt)) (fun _=>H):=by
 refine sP (res:=fun _=>[]) H Tryz.func163 Tryz.ntmps163 fun W=>?_
 obtain ⟨b1,b2,b3⟩:=a7K h1 h2
 repeat' (first|intro _|refine a0S rfl rfl ?_|refine wK ?_|refine wL ?_ ?_|fail)
 refine a0H [(0,_)] rtD18_1 [1] [⟨[0,3,4,5,6],[],some 1⟩,⟨[2,7,8],[3,4,5,6],none⟩] mixed cv (by kernel_rfl) (by kernel_rfl) ?_
 repeat' (first|intro _|refine sg ?_|(refine a1E ?_;refine po (by first|refine a0L rfl hn fz|fail) ?_)|(refine a1I .mul ?_;refine po (by first|refine a2Y rfl rfl (by omega) fz|fail) ?_)|(refine a1I .sub ?_;refine po (by first|refine a3D rfl rfl (by omega) fz|fail) ?_)|refine pw ?_|refine pdd ?_|(refine k_fn 164 ?_;refine a0A (fun _=>a7E _ wb z (cl_up hz) h2) rfl (fun _ _=>?_))|refine ow ?_|fail)
 all_goals dsimp only [cA,nA]
 repeat' (first|intro _|refine wK ?_|refine wL ?_ ?_|fail)
 refine a0E () rfl rfl rfl trivial ?_
 exact ent
theorem wh_enters (H:List Hl) (wb fb:Nat) (g:BitVec 32) (z:Nat) (ad:Option Addr) (c:Nat) (f:Fl) (h:Hid) (rdy:Int) (s:Nat) (hw:Cl (stars H) ⟨wb,0,none⟩ (.pointer (some ⟨fb,0,none⟩))) (hr:Cl (stars H) ⟨wb,4,none⟩ (I rdy)) (hk:FlOk f h) (hd:f.pw.isDown=false) (hs:s<8) :
  Spec Tryz.prog 165 [.pointer (some ⟨wb,0,none⟩),I s] (fB fb ad c f h::fR ad c f::H) (fun h':Hid=>FlOk (entF f rdy s).1 h') (fun _=>I (entF f rdy s).2) (fun h'=>fB fb ad c (entF f rdy s).1 h'::fR ad c (entF f rdy s).1::H):=by
 refine sF (res:=fun h':Hid=>[fB fb ad c (entF f rdy s).1 h',fR ad c (entF f rdy s).1]) [fB fb ad c f h,fR ad c f] H Tryz.func165 Tryz.ntmps165 fun W=>?_
 dsimp only [cA,nA]
 have a6:(6:Int)+(s:Int)=((6+s:Nat):Int):=by omega
 obtain ⟨a,ha⟩:∃ a,(6+s)*256=a:=⟨_,rfl⟩
 have hm:((6+s:Nat):Int)*256=(a:Int):=by omega
 obtain ⟨⟨f1,v1⟩,hr1⟩:∃ r,eraseF f (6+s)=r:=⟨_,rfl⟩
 unfold entF
 rw [ha,hr1]
 by_cases hrs:(s:Int)=rdy
 ·rw [if_pos hrs]
  repeat' (first|intro _|(refine a0K ?_;refine a0L rfl hr ?_)|(refine a0D .eql ?_;refine a3I rfl rfl hrs ?_)|refine wK ?_|refine wL ?_ ?_|fail)
  refine a0E h rfl rfl rfl hk ?_
  exact ent
 ·rw [if_neg hrs]
  cases q:blankB (seg f.bs a 256)
  ·rw [if_neg (by simp)]
   repeat' (first|intro _|(refine a0K ?_;first|refine a0L rfl hr ?_|refine a0L rfl hw ?_)|(refine a0D .eql ?_;refine a1Y rfl rfl hrs ?_)|(refine a0D .add ?_;(refine a2F rfl rfl (by omega) ?_;rw [a6]))|(refine a0D .mul ?_;(refine a2Y rfl rfl (by omega) ?_;rw [hm]))|(refine k_fn 109 ?_;(refine a0A (fun hh=>a5E _ fb ad c f a 256 (RdFl.own hk hh) (by omega) hd) rfl (fun _ _=>?_);rw [q]))|(refine k_fn 110 ?_;(refine a1J fb ad c (fun _=>a8A _ fb ad c f h (6+s) hk (by omega)) rfl (fun h1 hk1=>?_);(rw [hr1] at hk1 ⊢;dsimp only at hk1 ⊢)))|refine wK ?_|refine wL ?_ ?_|fail)
   refine a0E h1 rfl rfl rfl hk1 ?_
   exact ent
  ·rw [if_pos rfl]
   repeat' (first|intro _|(refine a0K ?_;first|refine a0L rfl hr ?_|refine a0L rfl hw ?_)|(refine a0D .eql ?_;refine a1Y rfl rfl hrs ?_)|(refine a0D .add ?_;(refine a2F rfl rfl (by omega) ?_;rw [a6]))|(refine a0D .mul ?_;(refine a2Y rfl rfl (by omega) ?_;rw [hm]))|(refine k_fn 109 ?_;(refine a0A (fun hh=>a5E _ fb ad c f a 256 (RdFl.own hk hh) (by omega) hd) rfl (fun _ _=>?_);rw [q]))|refine wK ?_|refine wL ?_ ?_|fail)
   refine a0E h rfl rfl rfl hk ?_
   exact ent
def rtD19_0:List Row:=[tR 34 [] [],tR 35 [0] [0],tR 36 [1] [0,1],tR 37 [2] [0,1,2],tR 38 [] [],tR 39 [4] [4],tR 40 [3,5] (rG 6),tR 7 [6,5,0,1,2,3,4,5,6] (rG 7)]
def rtD19_1:List Row:=[tR 58 [] [],tR 59 [0] [0],tR 60 [1] [0,1],tR 61 [2] [0,1,2],tR 62 [] [],tR 63 [] [],tR 64 [5] [5],tR 65 [6] [5,6],tR 66 [7] [5,6,7],tR 67 [4,8] [4,5,6,7,8],tR 68 [] [],tR 69 [3,9,10,9] (rG 11),tR 10 [11,11,0,1,2,3,4,5,6,7,8,9,10,11] (rG 12)]
def rtD19_2:List Row:=[tR 73 [] [],tR 74 [0] [0],tR 75 [1] [0,1],tR 76 [2] [0,1,2],tR 77 [] [],tR 78 [] [],tR 79 [5] [5],tR 80 [6] [5,6],tR 81 [7] [5,6,7],tR 82 [4,8] [4,5,6,7,8],tR 83 [] [],tR 84 [10] [10],tR 85 [9,11] [4,5,6,7,8,9,10,11],tR 86 [] [],tR 87 [3,12,13,9] (rG 14),tR 11 [14,14,0,1,2,3,4,5,6,7,8,9,10,11,12,13,14] (rG 15)]
def rtD19_3:List Row:=[tR 102 [] [],tR 103 [] [],tR 104 [1] [1],tR 105 [2] [1,2],tR 106 [3] [1,2,3],tR 107 [] [],tR 108 [] [],tR 109 [6] [6],tR 110 [5,7] [5,6,7],tR 111 [8] [5,6,7,8],tR 112 [4,9,7] [1,2,3,4,5,6,7,8,9],tR 113 [0,0,1,2,3,4,5,6,7,8,9,10] (rG 11),tR 114 [11,0,1,2,3,4,5,6,7,8,9,10] (rG 12),⟨none,[12,10,10,0,1,2,3,4,5,6,7,8,9,10],[0,1,2,3,4,5,6,7,8,9,10,11,12],none⟩]
theorem addW_full {f:Fl} {g:BitVec 32} {rdy:Int} {nxt:Nat} {id:BitVec 32} {d:List (BitVec 8)} (h:8*plW d.length=nxt):addW f g rdy nxt id d=(f,9):=by
 unfold addW
 rw [if_pos h]
theorem addW_up {f:Fl} {g:BitVec 32} {rdy:Int} {nxt:Nat} {id:BitVec 32} {d:List (BitVec 8)} (h:8*plW d.length≠nxt) (hd:f.pw.isDown=false):addW f g rdy nxt id d =
  if (entF f rdy (nxt / plW d.length)).2≠0 then entF f rdy (nxt / plW d.length) else
  if (progF (entF f rdy (nxt / plW d.length)).1 (atW d.length nxt) (recB g id d)).2≠0 then progF (entF f rdy (nxt / plW d.length)).1 (atW d.length nxt) (recB g id d) else
  progF (progF (entF f rdy (nxt / plW d.length)).1 (atW d.length nxt) (recB g id d)).1 (atW d.length nxt+(d.length+12)) [0#8]:=by
 unfold addW
 rw [if_neg h]
 cases hp:f.pw with
 | down z=>rw [hp] at hd;cases hd
 | on=>rfl
 | fuse n=>rfl
def rdyA (v:Int) (z nxt:Nat) (rdy:Int):Int:=if v=0 then ((nxt / plW z:Nat):Int) else rdy
def nxtA (v:Int) (nxt:Nat):Nat:=if v=0 then nxt+1 else nxt
theorem wh_Add (H:List Hl) (wb fb:Nat) (g:BitVec 32) (z:Nat) (la:Option Addr) (lc:Nat) (rs:List RecD) (rdy:Int) (nxt:Nat) (id:BitVec 32) (ad2:Option Addr) (c2:Nat) (d:List (BitVec 8)) (ad:Option Addr) (c:Nat) (f:Fl) (h:Hid) (hz1:1≤z) (hz2:z≤16) (hk:FlOk f h) (hd:f.pw.isDown=false) (hn:nxt≤8*plW z) (hdl:d.length=z) (hq:Rs (stars H) B ad2 c2 d) (hrl:rs.length≤1000) :
  Spec Tryz.prog 121 [.pointer (some ⟨wb,0,none⟩),W4 id,.slice ad2 z c2] (whB wb fb g z la rs.length lc rdy nxt::rsR la lc rs::fB fb ad c f h::fR ad c f::H)
   (fun r:Hid × (Option Addr × Nat × List RecD)=>FlOk (addW f g rdy nxt id d).1 r.1∧r.2.2.2.length≤nxtA (addW f g rdy nxt id d).2 rs.length) (fun _=>I (addW f g rdy nxt id d).2)
   (fun r=>whB wb fb g z r.2.1 r.2.2.2.length r.2.2.1 (rdyA (addW f g rdy nxt id d).2 z nxt rdy) (nxtA (addW f g rdy nxt id d).2 nxt)::rsR r.2.1 r.2.2.1 r.2.2.2::fB fb ad c (addW f g rdy nxt id d).1 r.1::fR ad c (addW f g rdy nxt id d).1::H):=by
 refine sF (res:=fun r:Hid × (Option Addr × Nat × List RecD)=>[whB wb fb g z r.2.1 r.2.2.2.length r.2.2.1 (rdyA (addW f g rdy nxt id d).2 z nxt rdy) (nxtA (addW f g rdy nxt id d).2 nxt),rsR r.2.1 r.2.2.1 r.2.2.2,fB fb ad c (addW f g rdy nxt id d).1 r.1,fR ad c (addW f g rdy nxt id d).1]) [whB wb fb g z la rs.length lc rdy nxt,rsR la lc rs,fB fb ad c f h,fR ad c f] H Tryz.func121 Tryz.ntmps121 fun W=>?_
 dsimp only [cA,nA]
 have hbs:=hk.bs
 have q1:=hq.le
 have q2:=hq.big
 rw [hdl] at q1
 obtain ⟨b1,b2,b3⟩:=a7K hz1 hz2
 obtain ⟨L,hL⟩:∃ L,plW z=L:=⟨_,rfl⟩
 rw [hL] at b1 b2 b3 hn
 by_cases hfull:8*L=nxt
 ·rw [addW_full (by rw [hdl,hL];exact hfull)]
  have he:8*((plW z:Nat):Int) - (nxt:Int)=0:=by rw [hL];omega
  repeat' (first|intro _|refine a0S rfl rfl ?_|(refine a0K ?_;refine a0F (b:=wb) (i:=2) rfl rfl ?_)|(refine a0D .neq ?_;refine a2E rfl rfl rfl ?_)|(refine k_fn 163 ?_;(refine a0A (fun _=>wh_Room _ wb z nxt (a1M rfl) (a1M rfl) hz1 hz2 (by omega)) rfl (fun _ _=>?_);rw [he]))|refine wK ?_|refine wL ?_ ?_|fail)
  refine a0E (h,(la,lc,rs)) rfl rfl rfl ⟨hk,by show rs.length≤nxtA 9 rs.length;rw [nxtA,if_neg (by decide)];exact Nat.le_refl _⟩ ?_
  exact ent
 have hfull2:8*plW d.length≠nxt:=by rw [hdl,hL];exact hfull
 have hwu:=addW_up (f:=f) (g:=g) (rdy:=rdy) (id:=id) hfull2 hd
 have he:8*((plW z:Nat):Int) - (nxt:Int)≠0:=by rw [hL];omega
 obtain ⟨ab1,ab2⟩:=a8U hz1 hz2 (p:=nxt) (by rw [hL];omega)
 rw [hdl,hL] at hwu
 have hpb:nxt<8*plW z:=by rw [hL];omega
 obtain ⟨s,hs⟩:∃ s,nxt / L=s:=⟨_,rfl⟩
 have hs8:s<8:=by rw [←hs];exact Nat.div_lt_of_lt_mul (by rw [Nat.mul_comm];omega)
 have hqd:(nxt:Int) / (L:Int)=(s:Int):=by rw [←hs];rfl
 obtain ⟨a,ha⟩:∃ a,atW z nxt=a:=⟨_,rfl⟩
 obtain ⟨X,hX⟩:∃ X,be4 g++(be4 id++d)=X:=⟨_,rfl⟩
 have hXl:X.length=z+8:=by rw [←hX];simp [a4W,hdl];omega
 obtain ⟨Q,hQ⟩:∃ Q,crcPut X=Q:=⟨_,rfl⟩
 have hQl:Q.length=z+12:=by rw [←hQ,a3C,hXl]
 have hrec:recB g id d=Q:=by rw [←hQ,←hX];rfl
 obtain ⟨⟨f1,v1⟩,hr1⟩:∃ r,entF f rdy s=r:=⟨_,rfl⟩
 obtain ⟨⟨f2,v2⟩,hr2⟩:∃ r,progF f1 a Q=r:=⟨_,rfl⟩
 obtain ⟨⟨f3,v3⟩,hr3⟩:∃ r,progF f2 (a+(z+12)) [0#8]=r:=⟨_,rfl⟩
 rw [hs,ha,hrec,hr1] at hwu
 dsimp only at hwu
 rw [hr2] at hwu
 dsimp only at hwu
 rw [hr3] at hwu
 rw [ha] at ab1 ab2
 have hnx:(nxt:Int)+1=((nxt+1:Nat):Int):=by omega
 have hap:(a:Int)+((z+12:Nat):Int)=((a+(z+12):Nat):Int):=by omega
 have hcat:∀ x1 x2:Option Addr,cat [⟨x1,4,be4 g⟩,⟨x2,4,be4 id⟩,⟨ad2,c2,d⟩]=X:=fun x1 x2=>by rw [←hX];simp [cat]
 obtain ⟨R,hR⟩:∃ R,addW f g rdy nxt id d=R:=⟨_,rfl⟩
 rw [hR] at hwu ⊢
 subst hdl
 repeat' (first|intro _|refine a0S rfl rfl ?_|(refine a0K ?_;first|refine a0F (b:=wb) (i:=2) rfl rfl ?_|refine a0F (b:=wb) (i:=0) rfl rfl ?_)|(refine a0D .neq ?_;refine a2E rfl rfl rfl ?_)|(refine k_fn 163 ?_;refine a0A (fun _=>wh_Room _ wb d.length nxt (a1M rfl) (a1M rfl) hz1 hz2 (by omega)) rfl (fun _ _=>?_))|(refine a0D .eql ?_;refine a1Y rfl rfl he ?_)|(refine k_fn 63 ?_;(refine a0A (fun hh=>c1F _ fb f (a1M (a4C hk.er))) rfl (fun _ _=>?_);rw [hd]))|refine wK ?_|refine wL ?_ ?_|fail)
 refine a0H [(0,_)] rtD19_0 [5] [⟨[0,1,2,3,4],[],some 5⟩,⟨[6,7],[0,1,2,3],none⟩] mixed cv (by kernel_rfl) (by kernel_rfl) ?_
 repeat' (first|intro _|refine sg ?_|(refine a1E ?_;refine po (by first|refine a0F (b:=wb) (i:=5) rfl rfl fz|fail) ?_)|(refine a1I .quo ?_;refine po (by first|((refine a3A rfl rfl (by omega) ?_;rw [hqd]);all_goals exact fz)|fail) ?_)|refine pw ?_|refine pdd ?_|(refine k_fn 164 ?_;(refine a0A (fun _=>a7E _ wb d.length (a1M rfl) hz2) rfl (fun _ _=>?_);rw [hL]))|refine ow ?_|fail)
 all_goals dsimp only [cA,nA]
 repeat' (first|intro _|(refine k_fn 165 ?_;(refine a1J fb ad c (fun _=>wh_enters _ wb fb g d.length ad c f h rdy s (a1M rfl) (a1M rfl) hk hd hs8) rfl (fun h1 hk1=>?_);(rw [hr1] at hk1 ⊢;dsimp only at hk1 ⊢)))|refine wK ?_|refine wL ?_ ?_|fail)
 ·rename_i hv
  rw [if_pos hv] at hwu
  subst hwu
  have e1:rdyA v1 d.length nxt rdy=rdy:=if_neg hv
  have e2:nxtA v1 nxt=nxt:=if_neg hv
  dsimp only
  rw [e1,e2]
  refine a0E (h1,(la,lc,rs)) rfl rfl rfl ⟨hk1,by show rs.length≤nxtA v1 rs.length;rw [nxtA,if_neg hv];exact Nat.le_refl _⟩ ?_
  exact ent
 have hv1 : ¬ v1≠0:=by omega
 rw [if_neg hv1] at hwu
 repeat' (first|intro _|(refine a0K ?_;refine a0F (b:=wb) (i:=1) rfl rfl ?_)|(refine k_fn 166 ?_;refine a0A (fun _=>wh_word _ g) rfl (fun b51 _=>?_))|refine wK ?_|refine wL ?_ ?_|fail)
 repeat' (first|intro _|(refine k_fn 166 ?_;refine a0A (fun _=>wh_word _ id) rfl (fun b53 _=>?_))|(refine a0P ?_;refine a0O Bs [⟨some ⟨b51,0,none⟩,4,be4 g⟩,⟨some ⟨b53,0,none⟩,4,be4 id⟩,⟨ad2,c2,d⟩] rfl rfl rfl (fun _=>rfl) rfl rfl rfl (fun b55=>?_))|(refine k_fn 111 ?_;(refine a0A (fun hh=>a4P _ _ _ [⟨some ⟨b51,0,none⟩,4,be4 g⟩,⟨some ⟨b53,0,none⟩,4,be4 id⟩,⟨ad2,c2,d⟩] (a4L rfl rfl hh) (a2N (a4L rfl rfl hh) (a2N (a4L rfl rfl hh) (a2N (Rs.up hq) b4R))) (by rw [hcat];omega)) rfl (fun ⟨a56,c56⟩ _=>?_);(try dsimp only);rw [hcat]))|(refine k_fn 83 ?_;(refine a0A (fun hh=>b2D _ a56 X.length c56 X (a0I hh) rfl (by omega)) rfl (fun ⟨a57,c57⟩ _=>?_);(try dsimp only);rw [hQ,show X.length+4=Q.length by omega]))|refine wK ?_|refine wL ?_ ?_|fail)
 refine a0H [(0,_),(9,_)] rtD19_1 [9,11] [⟨[0,1,2,3,4,5,6,7,8,10],[],some 9⟩,⟨[],[0,1,2,3,10],some 11⟩,⟨[12],[],none⟩] mixed cv (by kernel_rfl) (by kernel_rfl) ?_
 repeat' (first|intro _|refine sg ?_|(refine a1E ?_;refine po (by first|refine a0F (b:=wb) (i:=0) rfl rfl fz|refine a0F (b:=wb) (i:=5) rfl rfl fz|fail) ?_)|refine pw ?_|refine pdd ?_|(refine k_fn 167 ?_;(refine a0A (fun _=>wh_at _ wb d.length nxt (a1M rfl) hz1 hz2 hpb) rfl (fun _ _=>?_);rw [ha]))|(refine k_fn 44 ?_;(refine a1J fb ad c (fun hh=>a3Z _ fb ad c f1 h1 a a57 Q.length c57 Q hk1 (a0I (a0B (a0B hh))) rfl (by omega)) rfl (fun h2 hk2=>?_);(rw [hr2] at hk2 ⊢;dsimp only at hk2 ⊢)))|refine ow ?_|fail)
 all_goals dsimp only [cA,nA]
 repeat' (first|intro _|refine wK ?_|refine wL ?_ ?_|fail)
 ·rename_i hv
  rw [if_pos hv] at hwu
  subst hwu
  have e1:rdyA v2 d.length nxt rdy=rdy:=if_neg hv
  have e2:nxtA v2 nxt=nxt:=if_neg hv
  dsimp only
  rw [e1,e2]
  refine a0E (h2,(la,lc,rs)) rfl rfl rfl ⟨hk2,by show rs.length≤nxtA v2 rs.length;rw [nxtA,if_neg hv];exact Nat.le_refl _⟩ ?_
  exact ent
 have hv2 : ¬ v2≠0:=by omega
 rw [if_neg hv2] at hwu
 have hap:(a:Int)+(Q.length:Int)=((a+(d.length+12):Nat):Int):=by omega
 refine a0H [(0,_),(9,_)] rtD19_2 [13,14] [⟨[0,1,2,3,4,5,6,7,8,9,10,11,12],[],some 13⟩,⟨[],[0,1,2,3,4,5,6,7,8,9,10,11,12],some 14⟩,⟨[15],[],none⟩] mixed cv (by kernel_rfl) (by kernel_rfl) ?_
 repeat' (first|intro _|refine sg ?_|(refine a1E ?_;refine po (by first|refine a0F (b:=wb) (i:=0) rfl rfl fz|refine a0F (b:=wb) (i:=5) rfl rfl fz|fail) ?_)|(refine p_fn 167 ?_;refine po (by first|((refine a0A (fun _=>wh_at _ wb d.length nxt (a1M rfl) hz1 hz2 hpb) rfl (fun _ _=>?_);rw [ha]);all_goals exact fz)|fail) ?_)|(refine a1I .add ?_;refine po (by first|((refine a2F rfl rfl (by omega) ?_;rw [hap]);all_goals exact fz)|fail) ?_)|refine pw ?_|refine pdd ?_|(refine a0P ?_;refine a0O (T:=22) B [0#8] rfl rfl rfl (fun _=>rfl) rfl rfl rfl (fun b86=>?_))|(refine k_fn 44 ?_;(refine a1J fb ad c (fun hh=>a3Z _ fb ad c f2 h2 (a+(d.length+12)) (some ⟨b86,0,none⟩) 1 1 [0#8] hk2 (a2H rfl (by decide) (a0B (a0B hh))) rfl (by omega)) rfl (fun h3 hk3=>?_);(rw [hr3] at hk3 ⊢;dsimp only at hk3 ⊢)))|refine ow ?_|fail)
 all_goals dsimp only [cA,nA]
 repeat' (first|intro _|(refine a0D .add ?_;(refine a2F rfl rfl (by omega) ?_;rw [hnx]))|refine wK ?_|refine wL ?_ ?_|fail)
 ·rename_i hv
  subst hwu
  have e1:rdyA v3 d.length nxt rdy=rdy:=if_neg hv
  have e2:nxtA v3 nxt=nxt:=if_neg hv
  dsimp only
  rw [e1,e2]
  refine a0E (h3,(la,lc,rs)) rfl rfl rfl ⟨hk3,by show rs.length≤nxtA v3 rs.length;rw [nxtA,if_neg hv];exact Nat.le_refl _⟩ ?_
  exact ent
 have hv3:v3=0:=by omega
 subst hwu
 subst hv3
 have e1:rdyA 0 d.length nxt rdy=s:=by rw [rdyA,if_pos rfl,hL,hs]
 have e2:nxtA 0 nxt=nxt+1:=rfl
 dsimp only
 rw [e1,e2]
 refine a0H [(0,_),(1,_),(2,_)] rtD19_3 [7,9,10,13] [⟨[0,1,2,3,4,5,6],[],some 7⟩,⟨[8],[0,1,2,3,4,5],some 9⟩,⟨[],[0,1,2,3,4],some 10⟩,⟨[11,12],[0],some 13⟩,⟨[],[],none⟩] mixed cv (by kernel_rfl) (by kernel_rfl) ?_
 repeat' (first|intro _|refine sg ?_|(refine a1E ?_;refine po (by first|refine a0F (b:=wb) (i:=3) rfl rfl fz|fail) ?_)|refine pw ?_|refine pdd ?_|(refine k_fn 29 ?_;(refine a0A (fun _=>a1B _ ad2 c2 d (Rs.up hq) (by omega)) rfl (fun ⟨a109,c109⟩ _=>?_);(try dsimp only)))|(refine a0P ?_;refine b8Z rfl rfl (fun b111=>?_))|(refine a1S ?_;refine b1W (f:=rF) (g:=rGq) (xs:=rs) (b:=b111) (y0:=⟨id,a109,d.length,c109,d⟩) rfl rfl rfl rfl rfl (by omega) (by omega) (fun a112 c112=>?_))|(refine a1N ?_;refine a1R (b:=wb) (i:=3) rfl rfl (by decide) rfl rfl ?_)|refine ow ?_|fail)
 all_goals dsimp only [cA,nA]
 have hsn:rs.length+1=(rs++[(⟨id,a109,d.length,c109,d⟩:RecD)]).length:=by simp
 rw [hsn]
 repeat' (first|intro _|refine wK ?_|refine wL ?_ ?_|fail)
 refine a0E (h3,(a112,c112,rs++[⟨id,a109,d.length,c109,d⟩])) rfl rfl rfl ⟨hk3,by show (rs++[_]).length≤nxtA 0 rs.length;simp [nxtA]⟩ ?_
 exact ent
end Go.Dp
