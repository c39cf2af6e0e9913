/-
  digest.Sum and digest.Rows, walked.
  The reference's digest, walked.
  slot.Of, boot.First, the reference's, and awake of the laws of boot, walked.
  slot: first, Read, clear, Write, walked.
  sync.Once, one goroutine: the lock, the mark, walked.
  sync.Once, done for the first time, walked.
  Rows of bits, their words and their bytes, plain.
  Places that are set, counted; how the library counts them; plain.
  Rows of bits: places, first, count, xor, packed and unpacked; plain.
  vec.Vec: a row of bits as data; New, within, Len, Has, Set, Of, walked.
  vec.List, Count, walked; bits.OnesCount64.
  Rows of bits in any number.
  vec.Bytes, First, walked; bits.TrailingZeros64 with its table.
  vec.Same, walked; slices.Equal of words.
  vec.Copy, Xor, walked.
  downpourlaw5: awake, VecSets, VecOrder, walked.
  vec: rows that there aren't; vec.From; downpourlaw5: first, VecNil, VecTwice, walked.
  elim: rows and matrices as data; row.xor, New, walked.
  elim: reduced, Add, Rank, walked.
  elim: Add, Solve, walked; a matrix that there isn't.
  Matrices, reduced: what adding a row keeps, plain.
  elim: Row, Says, Bytes of a matrix that there isn't; downpourlaw6: awake, ElimNil, walked.
  elim.Bytes and From, walked.
  Matrices, reduced: what is spanned, the order of adding, sums of pieces; plain.
  Sums of pieces, plain.
  elim.Says, walked; sums of the pieces of ElimSpans, plain.
  Numbers by chance, plain.
  rand.mix, the atomic word, rand.New and Next, walked.
  spread.Pieces and precode.Rows, walked.
  decode: what a decoder is; New, Says, Take, Taken, Needs, walked.
  Walks of functions that the laws of this seat reach, as contracts.
  packet.Same and the law PacketOne, walked.
  slices.Clone and packet.Parse, walked.
  Numbers and their bytes; the law PacketBack, walked.
  Functions of the reference: r1.Four, r1.Number, r1.Join, r7.SymbolBytes, r7.ParseSymbol, r7.SameSymbol, r7.May, r7.Fits, walked.
  block.Count, block.Split, block.Join, walked.
  block.Split and block.Join, walked.
  awake of the laws of block; the law BlockCounts, walked.
  r7.Count, r7.Split, r7.JoinPieces and same, walked.
  r7.Split, same, r1.XorBytes and block.Sum, walked.
  block.Sum, walked.
  Conditions: those that stand in each theorem.
-/
import Derived.Test.YtcblcmdikhllbaaGreatDoorQTopSwitch1
import Derived.Test.YtcblcmdikhllbaaGreatDoorQTopSwitch0
import Derived.RegionCalls
import Derived.Lib.TrailingZeros
set_option linter.unusedVariables false
set_option linter.unusedSimpArgs false
namespace Go.Dp
open Go.RowKit Go.Proofs
def rtS6_0:List Row:=[⟨some 16,[],[],none⟩,⟨some 17,[],[],none⟩,⟨some 18,[1],[1],none⟩,⟨some 19,[0,2],[0,1,2],none⟩,⟨none,[3,3,0,1,2,3],[0,1,2,3],none⟩]
open Sha
theorem out_succ (l:List (BitVec 32)) (i:Nat) (h:i<l.length):(l.take (i+1)).flatMap be4=(l.take i).flatMap be4++be4 l[i]:=by
 rw [List.take_succ_eq_append_getElem h,List.flatMap_append];simp
set_option maxHeartbeats 1000000 in
theorem dg_Sum (H:List Hl) (ad:Option Addr) (c:Nat) (b d:List (BitVec 8)) (h:Rs (stars H) B ad c b) (hb:b.length≤70368744177664) (hd:sha b=d) :
  Spec Tryz.prog 56 [.slice ad b.length c] H (fun _:Option Addr × Nat=>True) (fun r => .slice r.1 d.length r.2) (fun r => .row 5 1 (.slice r.1 d.length r.2) d.length (d.map B)::H):=by
 refine spec_pure (res:=fun r:Option Addr × Nat=>[.row 5 1 (.slice r.1 d.length r.2) d.length (d.map B)]) H Tryz.func56 rfl Tryz.ntmps56 (by kernel_rfl) rfl (fun W=>?_)
 have hdl:d.length=32:=by rw [←hd];exact sha_len b
 repeat' (first|intro _|refine cw ?_|refine cw2 ?_ ?_|(refine k_fn 102 ?_;refine o1_call (fun _=>dg_begin _) rfl (fun _ _=>?_))|(refine k_alloc ?_;refine o1_alloc (T:=185) (cs:=(List.replicate 8 0#32).map W4) rfl (fun _=>?_))|(refine k_store ?_;refine ox_store_full (T:=185) rfl rfl (by simp only [R8_len]) (by exact rfl) (fun _=>rfl) ?_)|(refine k_fn 103 ?_;(refine o1_call (fun _=>dg_filled _ _ _ b h.up hb) rfl (fun ⟨a1,c1⟩ _=>?_);dsimp only))|refine ow ?_|refine ow2 ?_ ?_|fail)
 rename_i bs _ _
 have ht:∃ (t:List (BitVec 8)) (N:Nat) (f:Nat→R8),pad b=t∧t.length=64*N∧f 0=H0∧(∀ j,f (j+1)=comp (f j) ((t.drop (64*j)).take 64))∧out (f N)=d:=by
  refine ⟨pad b,(pad b).length / 64,fun j=>st (pad b) j,rfl,?_,rfl,fun _=>rfl,hd⟩
  have:=pad_mod b
  omega
 obtain ⟨t,N,f,e1,hN,hf0,hfs,hfd⟩:=ht
 rw [e1]
 clear hd e1
 refine st_ent (H2:=[.box bs 185 (H0.l.map W4)]++[.row 5 1 (.slice a1 t.length c1) t.length (t.map B),.any (stars H)]) (Ent.out ent) (st_has (fun hh=>?_))
 have hr:Rs (stars [.row 5 1 (.slice a1 t.length c1) t.length (t.map B),.any (stars H)]) B a1 c1 t:=rx_row (has_tail hh)
 refine st_shut [.box bs 185 (H0.l.map W4)] _ ?_
 generalize hA:stars [.row 5 1 (.slice a1 t.length c1) t.length (t.map B),.any (stars H)]=A at hr
 refine st_loop (S:=Nat × Option Addr × Nat) (fun s=>[(3,.pointer (some ⟨bs,0,none⟩)),(4,.slice s.2.1 (t.drop (64*s.1)).length s.2.2)]) (fun s=>[.box bs 185 ((f s.1).l.map W4),.any A]) (fun s=>s.1≤N∧Rs A B s.2.1 s.2.2 (t.drop (64*s.1))) (fun s=>N - s.1) (0,a1,c1) ⟨Nat.zero_le _,by simpa using hr⟩
  (cov_cons rfl rfl (cov_cons rfl (by simp) cov_nil)) (by rw [hf0];exact ent) ?_
 rintro ⟨j,a2,c2⟩ ⟨hj,hr2⟩
 dsimp only at hj hr2 ⊢
 have hle:=hr2.le
 have hdl2:(t.drop (64*j)).length=64*N - 64*j:=by rw [List.length_drop,hN]
 have hbig:=hr2.big
 by_cases hlt:j<N
 ·have h64:64≤(t.drop (64*j)).length:=by omega
  repeat' (first|intro _|refine cw ?_|refine cw2 ?_ ?_|refine ow ?_|refine ow2 ?_ ?_|fail)
  refine st_stages' [(3,_),(4,_)] rtS6_0 [3,4] [⟨[0,1,2],[],some 3⟩,⟨[],[],some 4⟩,⟨[],[],none⟩] mixed cv (by kernel_rfl) (by kernel_rfl) ?_
  repeat' (first|intro _|refine sg ?_|(refine p_load ?_;refine po (by first|refine ox_load_full (T:=185) rfl (by simp only [R8_len]) fz|fail) ?_)|(refine p_slice ?_;refine po (by first|refine o1_cs_h (xs:=t.drop (64*j)) 64 rfl rfl rfl rfl hle h64 fz|fail) ?_)|refine pw ?_|refine pdd ?_|(refine k_fn 104 ?_;refine o1_call (fun _=>dg_takes _ (f j) _ _ _ (Rs.up (hr2.cuth 64 h64)) (by rw [List.length_take];omega)) rfl (fun _ _=>?_))|(refine k_store ?_;refine ox_store_full (T:=185) rfl rfl (by simp only [R8_len]) (by simp only [List.length_map,R8_len]) (fun _=>rfl) ?_)|refine ow ?_|fail)
  all_goals dsimp only [List.cons_append,List.nil_append]
  repeat' (first|intro _|refine cw ?_|refine cw2 ?_ ?_|(refine k_slice ?_;refine o1_cs_l (xs:=t.drop (64*j)) 64 rfl rfl rfl rfl h64 ?_)|refine ow ?_|refine ow2 ?_ ?_|fail)
  have e3:(t.drop (64*j)).drop 64=t.drop (64*(j+1)):=by rw [List.drop_drop,Nat.mul_add,Nat.mul_one]
  refine nx_again (j+1,cutA a2 c2 64,c2 - 64) ⟨by show j+1≤N;omega,?_⟩ (by show N - (j+1)<N - j;omega) (cov_cons rfl rfl (cov_cons rfl ?_ cov_nil)) ?_
  ·show Rs A B (cutA a2 c2 64) (c2 - 64) (t.drop (64*(j+1)))
   rw [←e3]
   exact hr2.cutl 64 h64
  ·show _=Value.slice (cutA a2 c2 64) (t.drop (64*(j+1))).length (c2 - 64)
   rw [←e3]
  ·show Ent _ [.box bs 185 ((f (j+1)).l.map W4),.any A]
   rw [hfs]
   exact ent
 ·have:j=N:=by omega
  subst this
  subst hA
  generalize f j=x at *
  repeat' (first|intro _|refine cw ?_|refine cw2 ?_ ?_|(refine k_load ?_;refine ox_load_full (T:=185) rfl (by simp only [R8_len]) ?_)|refine ow ?_|refine ow2 ?_ ?_|fail)
  refine st_open [.box bs 185 (x.l.map W4)] _ ?_
  refine st_ent (ent_nil 5 B) ?_
  refine st_loop (S:=Nat × Option Addr × Nat) (fun s=>[(5,.slice s.2.1 (4*s.1) s.2.2),(20,.agg (x.l.map W4).toArray),(21,I s.1)]) (fun s=>[.row 5 1 (.slice s.2.1 (4*s.1) s.2.2) (4*s.1) (((x.l.take s.1).flatMap be4).map B),.any (stars H)]) (fun s=>s.1≤8) (fun s=>8 - s.1) (0,none,0) (Nat.zero_le _)
   cv ent ?_
  rintro ⟨i,a3,c3⟩ hi
  dsimp only at hi ⊢
  by_cases hlt8:i<8
  ·have hxl:i<x.l.length:=hlt8
   repeat' (first|intro _|refine cw ?_|refine cw2 ?_ ?_|(refine k_index ?_;refine o1_index_enc (l:=x.l) i rfl rfl rfl hlt8 hxl ?_)|refine ow ?_|refine ow2 ?_ ?_|fail)
   refine nx_again (i+1,_,_) (by show i+1≤8;omega) (by show 8 - (i+1)<8 - i;omega) cv ?_
   dsimp only
   rw [out_succ x.l i hxl]
   exact ent
  ·have:i=8:=by omega
   subst this
   repeat' (first|intro _|refine cw ?_|refine cw2 ?_ ?_|refine ow ?_|refine ow2 ?_ ?_|fail)
   have e4:(x.l.take 8).flatMap be4=d:=hfd
   rw [e4]
   refine rt_tmp (a3,c3) rfl rfl (by rw [hdl]) trivial ?_
   rw [hdl]
   exact ent
theorem dg_Rows (H:List Hl) (ad:Option Addr) (c:Nat) (ls:List (SlD (BitVec 8))) (d:List (BitVec 8)) (h:Rs (stars H) Bs ad c ls) (hs:∀ s∈ls,Rs (stars H) B s.ad s.cap s.l) (hb:(cat ls).length≤70368744177664) (hd:sha (cat ls)=d) :
  Spec Tryz.prog 128 [.slice ad ls.length c] H (fun _:Option Addr × Nat=>True) (fun r => .slice r.1 d.length r.2)
   (fun r => .row 5 1 (.slice r.1 d.length r.2) d.length (d.map B)::H):=by
 have b1:=h.le
 have b2:=h.big
 have hle:∀ i,(cat (ls.take i)).length≤(cat ls).length:=fun i=>by
  have:cat ls=cat (ls.take i)++cat (ls.drop i):=by simp only [cat];rw [←List.flatMap_append,List.take_append_drop]
  rw [this,List.length_append]
  omega
 refine spec_pure (res:=fun r:Option Addr × Nat=>[.row 5 1 (.slice r.1 d.length r.2) d.length (d.map B)]) H Tryz.func128 rfl Tryz.ntmps128 (by kernel_rfl) rfl (fun W=>?_)
 repeat' (first|intro _|refine cw ?_|refine cw2 ?_ ?_|refine ow ?_|refine ow2 ?_ ?_|fail)
 refine st_ent (ent_nil 5 B) ?_
 refine st_loop (S:=Nat × Option Addr × Nat) (fun s=>[(3,.slice s.2.1 (cat (ls.take s.1)).length s.2.2),(6,.slice ad ls.length c),(7,I ls.length),(8,I s.1)]) (fun s=>[.row 5 1 (.slice s.2.1 (cat (ls.take s.1)).length s.2.2) (cat (ls.take s.1)).length ((cat (ls.take s.1)).map B),.any (stars H)]) (fun s=>s.1≤ls.length) (fun s=>ls.length - s.1) (0,none,0) (Nat.zero_le _)
  cv (Ent.refl _) ?_
 rintro ⟨i,a1,c1⟩ hi
 dsimp only at hi ⊢
 have hi1:=hle (i+1)
 by_cases hlt:i<ls.length
 ·have hsi:=hs ls[i] (List.getElem_mem _)
  rw [cat_succ _ _ hlt,List.length_append] at hi1
  repeat' (first|intro _|refine cw ?_|refine cw2 ?_ ?_|(refine k_indexAddr ?_;refine o1_ia i rfl rfl h rfl rfl hlt ?_)|(refine k_load ?_;refine o1_load_ia i rfl h hlt ?_)|(refine k_call ?_;refine ox_append rfl rfl (rx_any hsi) rfl rfl (fun _=>rfl) (by omega) (by omega) (fun a2 c2=>?_))|refine ow ?_|refine ow2 ?_ ?_|fail)
  refine nx_again (i+1,a2,c2) ?_ ?_ (cov_cons rfl ?_ cv) ?_
  ·show i+1≤_;omega
  ·show ls.length - (i+1)<ls.length - i;omega
  ·show _=Value.slice a2 (cat (ls.take (i+1))).length c2
   rw [cat_succ _ _ hlt,List.length_append]
  ·show Ent _ [Hl.row 5 1 (.slice a2 (cat (ls.take (i+1))).length c2) (cat (ls.take (i+1))).length ((cat (ls.take (i+1))).map B),.any (stars H)]
   rw [cat_succ _ _ hlt,List.length_append]
   exact Ent.refl _
 ·have:i=ls.length:=by omega
  subst this
  rw [List.take_length]
  repeat' (first|intro _|refine cw ?_|refine cw2 ?_ ?_|(refine k_fn 56 ?_;(refine o1_call (fun hh=>dg_Sum _ _ _ (cat ls) d (rx_row hh) hb hd) rfl (fun ⟨_,_⟩ _=>?_);dsimp only))|refine ow ?_|refine ow2 ?_ ?_|fail)
  refine rt_tmp (_,_) rfl rfl rfl trivial ?_
  exact ent
open Sha
open Sha
theorem sl_may (H:List Hl) (ad:Option Addr) (n c:Nat):Spec Tryz.prog 62 [.slice ad n c] H (fun _:Unit=>True) (fun _ => .bool (decide (1≤n∧n≤512))) (fun r=>H):=by
 refine spec_pure (res:=fun _=>[]) H Tryz.func62 rfl Tryz.ntmps62 (by kernel_rfl) rfl (fun W=>?_)
 repeat' (first|intro _|refine cw ?_|refine cw2 ?_ ?_|refine ow ?_|refine ow2 ?_ ?_|fail)
 all_goals (refine rt_tmp () rfl rfl ?_ trivial ?_;· refine congrArg Value.bool (Bool.eq_iff_iff.2 ?_);simp only [decide_eq_true_eq,eq_self,true_iff,false_iff,reduceCtorEq];omega)
 all_goals exact ent
def slotOf (v:BitVec 32) (n:Nat) (r:PA) (d:List (BitVec 8)):SlotD:=⟨v,n,⟨r.1,r.2,d⟩⟩
theorem sl_Of (H:List Hl) (v:BitVec 32) (ad:Option Addr) (c:Nat) (b d:List (BitVec 8)) (h:Rs (stars H) B ad c b) (hb:1≤b.length∧b.length≤512) (hd:sha b=d) :
  Spec Tryz.prog 60 [W4 v,.slice ad b.length c] H (fun _:PA=>True) (fun r => .tuple #[(slotOf v b.length r d).V,.bool true]) (fun r=>rowL r d::H):=by
 refine spec_pure (res:=fun r:PA=>[rowL r d]) H Tryz.func60 rfl Tryz.ntmps60 (by kernel_rfl) rfl (fun W=>?_)
 repeat' (first|intro _|refine cw ?_|refine cw2 ?_ ?_|(refine k_fn 62 ?_;refine o1_call (fun _=>(sl_may _ _ _ _).bv (b:=true) (decide_eq_true hb)) rfl (fun _ _=>?_))|(refine k_fn 56 ?_;(refine o1_call (fun _=>dg_Sum _ _ _ b d h.up (by omega) hd) rfl (fun ⟨a5,c5⟩ _=>?_);dsimp only))|refine ow ?_|refine ow2 ?_ ?_|fail)
 refine rt_cell_tmp (a5,c5) rfl rfl rfl rfl rfl trivial ?_
 exact ent
def zSl:SlotD:=⟨0#32,0,⟨none,0,[]⟩⟩
def fstS (v:BitVec 32) (n:Nat) (r:PA) (d:List (BitVec 8)):StD:=⟨0,0,0#32,0#32,slotOf v n r d,zSl,false,zM⟩
theorem bt_First (H:List Hl) (v:BitVec 32) (ad:Option Addr) (c:Nat) (b d:List (BitVec 8)) (h:Rs (stars H) B ad c b) (hb:1≤b.length∧b.length≤512) (hd:sha b=d) :
  Spec Tryz.prog 28 [W4 v,.slice ad b.length c] H (fun _:PA=>True) (fun r => .tuple #[(fstS v b.length r d).V,.bool true]) (fun r=>rowL r d::H):=by
 refine spec_pure (res:=fun r:PA=>[rowL r d]) H Tryz.func28 rfl Tryz.ntmps28 (by kernel_rfl) rfl (fun W=>?_)
 repeat' (first|intro _|refine cw ?_|refine cw2 ?_ ?_|(refine k_fn 60 ?_;(refine o1_call (fun _=>sl_Of _ v _ _ b d h.up hb hd) rfl (fun ⟨a5,c5⟩ _=>?_);dsimp only [SlotD.V,SlotD.c,slotOf]))|refine ow ?_|refine ow2 ?_ ?_|fail)
 refine rt_cell_tmp (a5,c5) rfl rfl rfl rfl rfl trivial ?_
 exact ent
theorem fst_may (v:BitVec 32) (n:Nat) (r:PA) (d:List (BitVec 8)) (hn:1≤n∧n≤512) (hd:d.length=32):(fstS v n r d).may=true:=by
 refine may_iff.2 ⟨.inl rfl,by show 0≤(0:Int)∧(0:Int)≤3;omega,?_,.inr ⟨rfl,by show (0:Int)≤0;omega⟩,rfl⟩
 exact decide_eq_true (show d.length=32∧1≤(n:Int)∧(n:Int)≤512 from ⟨hd,by omega,by omega⟩)
theorem sl_first (H:List Hl) (s:Nat) (hs:s<2) :
  Spec Tryz.prog 65 [I s] H (fun _:Unit=>True) (fun _=>I (2+s*2:Nat)) (fun _=>H):=by
 refine spec_pure (res:=fun _=>[]) H Tryz.func65 rfl Tryz.ntmps65 (by kernel_rfl) rfl (fun W=>?_)
 have e:(2:Int)+(s:Int)*2=((2+s*2:Nat):Int):=by omega
 repeat' (first|intro _|refine cw ?_|refine cw2 ?_ ?_|(refine k_binOp .mul ?_;refine o1_mul rfl rfl (by omega) ?_)|(refine k_binOp .add ?_;(refine o1_add rfl rfl (by omega) ?_;rw [e]))|refine ow ?_|refine ow2 ?_ ?_|fail)
 refine rt_tmp () rfl rfl rfl trivial ?_
 exact ent
theorem sl_Read (H:List Hl) (b:Nat) (ad:Option Addr) (c:Nat) (f:Fl) (s n:Nat) (h:RdFl (stars H) b ad c f) (hs:s<2) (hn:n≤512) (hd:f.pw.isDown=false) :
  Spec Tryz.prog 48 [.pointer (some ⟨b,0,none⟩),I s,I n] H (fun _:Option Addr × Nat=>True) (fun r => .tuple #[.slice r.1 n r.2,I 0]) (fun r => .row 5 1 (.slice r.1 n r.2) n ((seg f.bs (slotA s) n).map B)::H):=by
 refine spec_pure (res:=fun r:Option Addr × Nat=>[.row 5 1 (.slice r.1 n r.2) n ((seg f.bs (slotA s) n).map B)]) H Tryz.func48 rfl Tryz.ntmps48 (by kernel_rfl) rfl (fun W=>?_)
 have e1:((2+s*2:Nat):Int)*256=(slotA s:Int):=by unfold slotA;omega
 have e2:slotA s≤1024:=by unfold slotA;omega
 have hx:s=0∨s=1:=by omega
 obtain ⟨a,ha⟩:∃ a,slotA s=a:=⟨_,rfl⟩
 rw [ha] at e1 e2 ⊢
 rcases hx with rfl|rfl
 ·repeat' (first|intro _|refine cw ?_|refine cw2 ?_ ?_|(refine k_fn 65 ?_;(refine o1_call (fun _=>sl_first _ 0 (by decide)) rfl (fun _ _=>?_)))|(refine k_binOp .mul ?_;(refine o1_mul rfl rfl (by omega) ?_;rw [e1]))|(refine k_fn 98 ?_;(refine o1_call (fun _=>fl_Read _ b ad c f a n h.up (by omega) hd) rfl (fun ⟨a27,c27⟩ _=>?_);(try dsimp only)))|refine ow ?_|refine ow2 ?_ ?_|fail)
  refine rt_tmp2 (a27,c27) rfl rfl rfl rfl trivial ?_
  exact ent
 ·repeat' (first|intro _|refine cw ?_|refine cw2 ?_ ?_|(refine k_fn 65 ?_;(refine o1_call (fun _=>sl_first _ 1 (by decide)) rfl (fun _ _=>?_)))|(refine k_binOp .mul ?_;(refine o1_mul rfl rfl (by omega) ?_;rw [e1]))|(refine k_fn 98 ?_;(refine o1_call (fun _=>fl_Read _ b ad c f a n h.up (by omega) hd) rfl (fun ⟨a27,c27⟩ _=>?_);(try dsimp only)))|refine ow ?_|refine ow2 ?_ ?_|fail)
  refine rt_tmp2 (a27,c27) rfl rfl rfl rfl trivial ?_
  exact ent
def clrF (f:Fl) (s:Nat):Fl × Int:=if (clr1 f (2+s*2)).2≠0 then clr1 f (2+s*2) else clr1 (clr1 f (2+s*2)).1 (2+s*2+1)
theorem slotW_down {f:Fl} {s:Nat} {x:List (BitVec 8)} (hd:f.pw.isDown=true):slotW f s x=(f,11):=by
 unfold slotW
 cases hp:f.pw with
 | down z=>rfl
 | on=>rw [hp] at hd;cases hd
 | fuse n=>rw [hp] at hd;cases hd
theorem slotW_up {f:Fl} {s:Nat} {x:List (BitVec 8)} (hd:f.pw.isDown=false):slotW f s x=if (clrF f s).2≠0 then clrF f s else if (progF (clrF f s).1 (slotA s) x).2≠0 then progF (clrF f s).1 (slotA s) x else ((progF (clrF f s).1 (slotA s) x).1,if seg (progF (clrF f s).1 (slotA s) x).1.bs (slotA s) x.length=x then 0 else 13):=by
 have e:slotW f s x=(let r1:=clr1 f (2+s*2);if r1.2≠0 then r1 else let r2:=clr1 r1.1 (2+s*2+1);if r2.2≠0 then r2 else let r3:=progF r2.1 (slotA s) x;if r3.2≠0 then r3 else (r3.1,if seg r3.1.bs (slotA s) x.length=x then 0 else 13)):=by
  unfold slotW
  cases hp:f.pw with
  | down z=>rw [hp] at hd;cases hd
  | on=>rfl
  | fuse n=>rfl
 rw [e]
 unfold clrF
 dsimp only
 by_cases h:(clr1 f (2+s*2)).2≠0
 ·simp only [if_pos h]
 ·simp only [if_neg h]
theorem eraseF_up {f f':Fl} {s:Nat} {v:Int} (h:eraseF f s=(f',v)) (hv:v=0):f'.pw.isDown=false:=by
 subst hv
 unfold eraseF at h
 cases hp:f.pw with
 | down z=>rw [hp] at h;cases h
 | on =>
  rw [hp] at h
  dsimp only at h
  split at h
  ·cases h
  ·obtain ⟨e,_⟩:=Prod.mk.inj h
   rw [←e];rfl
 | fuse n =>
  rw [hp] at h
  dsimp only at h
  split at h
  ·cases h
  ·cases n with
   | zero=>cases h
   | succ m =>
    obtain ⟨e,_⟩:=Prod.mk.inj h
    rw [←e];rfl
theorem progF_up {f f':Fl} {a:Nat} {x:List (BitVec 8)} {v:Int} (h:progF f a x=(f',v)) (hv:v=0):f'.pw.isDown=false:=by
 subst hv
 unfold progF at h
 cases hp:f.pw with
 | down z=>rw [hp] at h;cases h
 | on =>
  rw [hp] at h
  obtain ⟨e,_⟩:=Prod.mk.inj h
  rw [←e];rfl
 | fuse n =>
  rw [hp] at h
  dsimp only at h
  split at h
  ·obtain ⟨e,_⟩:=Prod.mk.inj h
   rw [←e];rfl
  ·cases h
set_option maxHeartbeats 4000000 in
theorem sl_clear (H:List Hl) (b:Nat) (ad:Option Addr) (c:Nat) (f:Fl) (h:Hid) (s:Nat) (hk:FlOk f h) (hs:s<2) (hd:f.pw.isDown=false) :
  Spec Tryz.prog 64 [.pointer (some ⟨b,0,none⟩),I s] (fB b ad c f h::fR ad c f::H) (fun h':Hid=>FlOk (clrF f s).1 h') (fun _=>I (clrF f s).2) (fun h'=>fB b ad c (clrF f s).1 h'::fR ad c (clrF f s).1::H):=by
 refine spec_fn (res:=fun h':Hid=>[fB b ad c (clrF f s).1 h',fR ad c (clrF f s).1]) [fB b ad c f h,fR ad c f] H Tryz.func64 rfl Tryz.ntmps64 (by kernel_rfl) rfl (fun W=>?_)
 dsimp only [List.cons_append,List.nil_append]
 unfold clrF
 obtain ⟨A,hA⟩:∃ A,2+s*2=A:=⟨_,rfl⟩
 have hA4:A≤4:=by omega
 rw [hA]
 have e0:(A:Int)+0=(A:Int):=by omega
 have e1:(A:Int)+(0+1)=((A+1:Nat):Int):=by omega
 obtain ⟨a0,ha0⟩:∃ a0,A*256=a0:=⟨_,rfl⟩
 obtain ⟨a1,ha1⟩:∃ a1,(A+1)*256=a1:=⟨_,rfl⟩
 have m0:(A:Int)*256=(a0:Int):=by omega
 have m1:((A+1:Nat):Int)*256=(a1:Int):=by omega
 obtain ⟨⟨f1,v1⟩,hr1⟩:∃ r,eraseF f A=r:=⟨_,rfl⟩
 have up1:=eraseF_up hr1
 obtain ⟨⟨f2,v2⟩,hr2⟩:∃ r,eraseF f (A+1)=r:=⟨_,rfl⟩
 obtain ⟨⟨f3,v3⟩,hr3⟩:∃ r,eraseF f1 (A+1)=r:=⟨_,rfl⟩
 cases q1:blankB (seg f.bs a0 256)
 ·have c1:clr1 f A=(f1,v1):=by rw [clr1,ha0,if_neg (by rw [q1];simp),hr1]
  rw [c1]
  dsimp only
  cases q2:blankB (seg f1.bs a1 256)
  ·have c2:clr1 f1 (A+1)=(f3,v3):=by rw [clr1,ha1,if_neg (by rw [q2];simp),hr3]
   rw [c2]
   repeat' (first|intro _|refine cw ?_|refine cw2 ?_ ?_|refine ow ?_|refine ow2 ?_ ?_|fail)
   refine st_rounds 3 ?_
   repeat' (first|intro _|refine cw ?_|refine cw2 ?_ ?_|(refine k_fn 65 ?_;(refine o1_call (fun _=>sl_first _ s hs) rfl (fun _ _=>?_);rw [hA]))|(refine k_binOp .add ?_;(refine o1_add rfl rfl (by omega) ?_;(try first|rw [e0]|rw [e1])))|(refine k_binOp .mul ?_;(refine o1_mul rfl rfl (by omega) ?_;first|rw [m0]|rw [m1]))|(refine k_fn 109 ?_;first|(refine o1_call (fun hh=>fl_Blank _ b ad c f a0 256 (RdFl.own hk hh) (by omega) hd) rfl (fun _ _=>?_);rw [q1])|(refine o1_call (fun hh=>fl_Blank _ b ad c f1 a1 256 (RdFl.own hk1 hh) (by omega) (up1 ‹v1=0›)) rfl (fun _ _=>?_);rw [q2]))|(refine k_fn 110 ?_;first|(refine o1_call_fl b ad c (fun _=>fl_Erase _ b ad c f h (A) hk (by omega)) rfl (fun h1 hk1=>?_);(rw [hr1] at hk1 ⊢;dsimp only at hk1 ⊢))|(refine o1_call_fl b ad c (fun _=>fl_Erase _ b ad c f1 h1 (A+1) hk1 (by omega)) rfl (fun h3 hk3=>?_);(rw [hr3] at hk3 ⊢;dsimp only at hk3 ⊢)))|refine ow ?_|refine ow2 ?_ ?_|fail)
   ·rename_i hv
    rw [if_pos hv]
    refine rt_tmp h1 rfl rfl rfl hk1 ?_
    exact ent
   ·have hv : ¬ v1≠0:=by omega
    rw [if_neg hv]
    refine rt_tmp h3 rfl rfl rfl hk3 ?_
    exact ent
   ·have hv : ¬ v1≠0:=by omega
    have hv3:v3=0:=by omega
    rw [if_neg hv]
    subst hv3
    refine rt_tmp h3 rfl rfl rfl hk3 ?_
    exact ent
  ·have c2:clr1 f1 (A+1)=(f1,0):=by rw [clr1,ha1,if_pos q2]
   rw [c2]
   repeat' (first|intro _|refine cw ?_|refine cw2 ?_ ?_|refine ow ?_|refine ow2 ?_ ?_|fail)
   refine st_rounds 3 ?_
   repeat' (first|intro _|refine cw ?_|refine cw2 ?_ ?_|(refine k_fn 65 ?_;(refine o1_call (fun _=>sl_first _ s hs) rfl (fun _ _=>?_);rw [hA]))|(refine k_binOp .add ?_;(refine o1_add rfl rfl (by omega) ?_;(try first|rw [e0]|rw [e1])))|(refine k_binOp .mul ?_;(refine o1_mul rfl rfl (by omega) ?_;first|rw [m0]|rw [m1]))|(refine k_fn 109 ?_;first|(refine o1_call (fun hh=>fl_Blank _ b ad c f a0 256 (RdFl.own hk hh) (by omega) hd) rfl (fun _ _=>?_);rw [q1])|(refine o1_call (fun hh=>fl_Blank _ b ad c f1 a1 256 (RdFl.own hk1 hh) (by omega) (up1 ‹v1=0›)) rfl (fun _ _=>?_);rw [q2]))|(refine k_fn 110 ?_;(refine o1_call_fl b ad c (fun _=>fl_Erase _ b ad c f h (A) hk (by omega)) rfl (fun h1 hk1=>?_);(rw [hr1] at hk1 ⊢;dsimp only at hk1 ⊢)))|refine ow ?_|refine ow2 ?_ ?_|fail)
   ·rename_i hv
    rw [if_pos hv]
    refine rt_tmp h1 rfl rfl rfl hk1 ?_
    exact ent
   ·have hv : ¬ v1≠0:=by omega
    rw [if_neg hv]
    refine rt_tmp h1 rfl rfl rfl hk1 ?_
    exact ent
 ·have c1:clr1 f A=(f,0):=by rw [clr1,ha0,if_pos q1]
  rw [c1]
  dsimp only
  rw [if_neg (by simp)]
  cases q2:blankB (seg f.bs a1 256)
  ·have c2:clr1 f (A+1)=(f2,v2):=by rw [clr1,ha1,if_neg (by rw [q2];simp),hr2]
   rw [c2]
   repeat' (first|intro _|refine cw ?_|refine cw2 ?_ ?_|refine ow ?_|refine ow2 ?_ ?_|fail)
   refine st_rounds 3 ?_
   repeat' (first|intro _|refine cw ?_|refine cw2 ?_ ?_|(refine k_fn 65 ?_;(refine o1_call (fun _=>sl_first _ s hs) rfl (fun _ _=>?_);rw [hA]))|(refine k_binOp .add ?_;(refine o1_add rfl rfl (by omega) ?_;(try first|rw [e0]|rw [e1])))|(refine k_binOp .mul ?_;(refine o1_mul rfl rfl (by omega) ?_;first|rw [m0]|rw [m1]))|(refine k_fn 109 ?_;first|(refine o1_call (fun hh=>fl_Blank _ b ad c f a0 256 (RdFl.own hk hh) (by omega) hd) rfl (fun _ _=>?_);rw [q1])|(refine o1_call (fun hh=>fl_Blank _ b ad c f a1 256 (RdFl.own hk hh) (by omega) hd) rfl (fun _ _=>?_);rw [q2]))|(refine k_fn 110 ?_;(refine o1_call_fl b ad c (fun _=>fl_Erase _ b ad c f h (A+1) hk (by omega)) rfl (fun h2 hk2=>?_);(rw [hr2] at hk2 ⊢;dsimp only at hk2 ⊢)))|refine ow ?_|refine ow2 ?_ ?_|fail)
   ·refine rt_tmp h2 rfl rfl rfl hk2 ?_
    exact ent
   ·have hv2:v2=0:=by omega
    subst hv2
    refine rt_tmp h2 rfl rfl rfl hk2 ?_
    exact ent
  ·have c2:clr1 f (A+1)=(f,0):=by rw [clr1,ha1,if_pos q2]
   rw [c2]
   repeat' (first|intro _|refine cw ?_|refine cw2 ?_ ?_|refine ow ?_|refine ow2 ?_ ?_|fail)
   refine st_rounds 3 ?_
   repeat' (first|intro _|refine cw ?_|refine cw2 ?_ ?_|(refine k_fn 65 ?_;(refine o1_call (fun _=>sl_first _ s hs) rfl (fun _ _=>?_);rw [hA]))|(refine k_binOp .add ?_;(refine o1_add rfl rfl (by omega) ?_;(try first|rw [e0]|rw [e1])))|(refine k_binOp .mul ?_;(refine o1_mul rfl rfl (by omega) ?_;first|rw [m0]|rw [m1]))|(refine k_fn 109 ?_;first|(refine o1_call (fun hh=>fl_Blank _ b ad c f a0 256 (RdFl.own hk hh) (by omega) hd) rfl (fun _ _=>?_);rw [q1])|(refine o1_call (fun hh=>fl_Blank _ b ad c f a1 256 (RdFl.own hk hh) (by omega) hd) rfl (fun _ _=>?_);rw [q2]))|refine ow ?_|refine ow2 ?_ ?_|fail)
   refine rt_tmp h rfl rfl rfl hk ?_
   exact ent
set_option maxHeartbeats 4000000 in
theorem sl_Write_0 (H:List Hl) (b:Nat) (ad:Option Addr) (c:Nat) (f:Fl) (h:Hid) (ad2:Option Addr) (c2:Nat) (x:List (BitVec 8)) (hk:FlOk f h) (hx:Rs (stars H) B ad2 c2 x) (hx1:1≤x.length) (hx2:x.length≤512) (hd:f.pw.isDown=false) :
  Spec Tryz.prog 31 [.pointer (some ⟨b,0,none⟩),I 0,.slice ad2 x.length c2] (fB b ad c f h::fR ad c f::H) (fun h':Hid=>FlOk (slotW f 0 x).1 h') (fun _=>I (slotW f 0 x).2) (fun h'=>fB b ad c (slotW f 0 x).1 h'::fR ad c (slotW f 0 x).1::H):=by
 rw [slotW_up hd]
 refine spec_fn (res:=fun h':Hid=>[fB b ad c _ h',fR ad c _]) [fB b ad c f h,fR ad c f] H Tryz.func31 rfl Tryz.ntmps31 (by kernel_rfl) rfl (fun W=>?_)
 dsimp only [List.cons_append,List.nil_append]
 have m0:((2+0*2:Nat):Int)*256=(slotA 0:Int):=by decide
 have a1:slotA 0+512≤3584:=by decide
 obtain ⟨a,ha⟩:∃ a,slotA 0=a:=⟨_,rfl⟩
 rw [ha] at m0 a1
 obtain ⟨⟨f1,v1⟩,hr1⟩:∃ r,clrF f 0=r:=⟨_,rfl⟩
 obtain ⟨⟨f2,v2⟩,hr2⟩:∃ r,progF f1 a x=r:=⟨_,rfl⟩
 have up2:=progF_up hr2
 obtain ⟨y,hy⟩:∃ y,decide (seg f2.bs a x.length=x)=y:=⟨_,rfl⟩
 have hyl:=seg_len (l:=f2.bs) (a:=a) (n:=x.length)
 rw [ha,hr1]
 dsimp only
 rw [hr2]
 dsimp only
 have emay:decide (1≤x.length∧x.length≤512)=true:=by simpa using ⟨hx1,hx2⟩
 have eq:=hx.le
 repeat' (first|intro _|refine cw ?_|refine cw2 ?_ ?_|refine o1_peql rfl rfl ?_|(refine k_fn 62 ?_;(refine o1_call (fun _=>sl_may _ ad2 x.length c2) rfl (fun _ _=>?_);rw [emay]))|(refine k_fn 63 ?_;(refine o1_call (fun hh=>fl_Down _ b f (cl_box (flC_down hk.er))) rfl (fun _ _=>?_);rw [hd]))|(refine k_fn 64 ?_;(refine o1_call_fl b ad c (fun _=>sl_clear _ b ad c f h 0 hk (by decide) hd) rfl (fun h1 hk1=>?_);(rw [hr1] at hk1 ⊢;dsimp only at hk1 ⊢)))|(refine k_fn 65 ?_;refine o1_call (fun _=>sl_first _ 0 (by decide)) rfl (fun _ _=>?_))|(refine k_binOp .mul ?_;(refine o1_mul rfl rfl (by omega) ?_;rw [m0]))|(refine k_fn 44 ?_;(refine o1_call_fl b ad c (fun hh=>fl_Program _ b ad c f1 h1 a ad2 x.length c2 x hk1 hx.up rfl (by omega)) rfl (fun h2 hk2=>?_);(rw [hr2] at hk2 ⊢;dsimp only at hk2 ⊢)))|(refine k_fn 48 ?_;(refine o1_call (fun hh=>sl_Read _ b ad c f2 0 x.length (RdFl.own hk2 hh) (by decide) hx2 (up2 ‹v2=0›)) rfl (fun ⟨a48,c48⟩ _=>?_);(try dsimp only);rw [ha]))|(refine k_fn 66 ?_;(refine o1_call (fun hh=>(slices_Equal _ a48 ad2 c48 c2 (seg f2.bs a x.length) x (rx_row hh) (Rs.up hx)).argE (args':=[.slice a48 x.length c48,.slice ad2 x.length c2]) (by rw [hyl (by have:=hk2.bs;omega)])) rfl (fun _ _=>?_);rw [hy]))|refine ow ?_|refine ow2 ?_ ?_|fail)
 ·rename_i hv
  rw [if_pos hv]
  refine rt_tmp h1 rfl rfl rfl hk1 ?_
  exact ent
 ·rename_i hv2
  have hv : ¬ v1≠0:=by omega
  rw [if_neg hv,if_pos hv2]
  refine rt_tmp h2 rfl rfl rfl hk2 ?_
  exact ent
 ·rename_i hb
  have hv : ¬ v1≠0:=by omega
  have hv2 : ¬ v2≠0:=by omega
  have hyn : ¬ seg f2.bs a x.length=x:=of_decide_eq_false (hy.trans (by simpa using hb))
  rw [if_neg hv,if_neg hv2,if_neg hyn]
  refine rt_tmp h2 rfl rfl rfl hk2 ?_
  exact ent
 ·rename_i hb
  have hv : ¬ v1≠0:=by omega
  have hv2 : ¬ v2≠0:=by omega
  have hyn:seg f2.bs a x.length=x:=of_decide_eq_true (hy.trans (by simpa using hb))
  rw [if_neg hv,if_neg hv2,if_pos hyn]
  refine rt_tmp h2 rfl rfl rfl hk2 ?_
  exact ent
set_option maxHeartbeats 4000000 in
theorem sl_Write_1 (H:List Hl) (b:Nat) (ad:Option Addr) (c:Nat) (f:Fl) (h:Hid) (ad2:Option Addr) (c2:Nat) (x:List (BitVec 8)) (hk:FlOk f h) (hx:Rs (stars H) B ad2 c2 x) (hx1:1≤x.length) (hx2:x.length≤512) (hd:f.pw.isDown=false) :
  Spec Tryz.prog 31 [.pointer (some ⟨b,0,none⟩),I 1,.slice ad2 x.length c2] (fB b ad c f h::fR ad c f::H) (fun h':Hid=>FlOk (slotW f 1 x).1 h') (fun _=>I (slotW f 1 x).2) (fun h'=>fB b ad c (slotW f 1 x).1 h'::fR ad c (slotW f 1 x).1::H):=by
 rw [slotW_up hd]
 refine spec_fn (res:=fun h':Hid=>[fB b ad c _ h',fR ad c _]) [fB b ad c f h,fR ad c f] H Tryz.func31 rfl Tryz.ntmps31 (by kernel_rfl) rfl (fun W=>?_)
 dsimp only [List.cons_append,List.nil_append]
 have m0:((2+1*2:Nat):Int)*256=(slotA 1:Int):=by decide
 have a1:slotA 1+512≤3584:=by decide
 obtain ⟨a,ha⟩:∃ a,slotA 1=a:=⟨_,rfl⟩
 rw [ha] at m0 a1
 obtain ⟨⟨f1,v1⟩,hr1⟩:∃ r,clrF f 1=r:=⟨_,rfl⟩
 obtain ⟨⟨f2,v2⟩,hr2⟩:∃ r,progF f1 a x=r:=⟨_,rfl⟩
 have up2:=progF_up hr2
 obtain ⟨y,hy⟩:∃ y,decide (seg f2.bs a x.length=x)=y:=⟨_,rfl⟩
 have hyl:=seg_len (l:=f2.bs) (a:=a) (n:=x.length)
 rw [ha,hr1]
 dsimp only
 rw [hr2]
 dsimp only
 have emay:decide (1≤x.length∧x.length≤512)=true:=by simpa using ⟨hx1,hx2⟩
 have eq:=hx.le
 repeat' (first|intro _|refine cw ?_|refine cw2 ?_ ?_|refine o1_peql rfl rfl ?_|(refine k_fn 62 ?_;(refine o1_call (fun _=>sl_may _ ad2 x.length c2) rfl (fun _ _=>?_);rw [emay]))|(refine k_fn 63 ?_;(refine o1_call (fun hh=>fl_Down _ b f (cl_box (flC_down hk.er))) rfl (fun _ _=>?_);rw [hd]))|(refine k_fn 64 ?_;(refine o1_call_fl b ad c (fun _=>sl_clear _ b ad c f h 1 hk (by decide) hd) rfl (fun h1 hk1=>?_);(rw [hr1] at hk1 ⊢;dsimp only at hk1 ⊢)))|(refine k_fn 65 ?_;refine o1_call (fun _=>sl_first _ 1 (by decide)) rfl (fun _ _=>?_))|(refine k_binOp .mul ?_;(refine o1_mul rfl rfl (by omega) ?_;rw [m0]))|(refine k_fn 44 ?_;(refine o1_call_fl b ad c (fun hh=>fl_Program _ b ad c f1 h1 a ad2 x.length c2 x hk1 hx.up rfl (by omega)) rfl (fun h2 hk2=>?_);(rw [hr2] at hk2 ⊢;dsimp only at hk2 ⊢)))|(refine k_fn 48 ?_;(refine o1_call (fun hh=>sl_Read _ b ad c f2 1 x.length (RdFl.own hk2 hh) (by decide) hx2 (up2 ‹v2=0›)) rfl (fun ⟨a48,c48⟩ _=>?_);(try dsimp only);rw [ha]))|(refine k_fn 66 ?_;(refine o1_call (fun hh=>(slices_Equal _ a48 ad2 c48 c2 (seg f2.bs a x.length) x (rx_row hh) (Rs.up hx)).argE (args':=[.slice a48 x.length c48,.slice ad2 x.length c2]) (by rw [hyl (by have:=hk2.bs;omega)])) rfl (fun _ _=>?_);rw [hy]))|refine ow ?_|refine ow2 ?_ ?_|fail)
 ·rename_i hv
  rw [if_pos hv]
  refine rt_tmp h1 rfl rfl rfl hk1 ?_
  exact ent
 ·rename_i hv2
  have hv : ¬ v1≠0:=by omega
  rw [if_neg hv,if_pos hv2]
  refine rt_tmp h2 rfl rfl rfl hk2 ?_
  exact ent
 ·rename_i hb
  have hv : ¬ v1≠0:=by omega
  have hv2 : ¬ v2≠0:=by omega
  have hyn : ¬ seg f2.bs a x.length=x:=of_decide_eq_false (hy.trans (by simpa using hb))
  rw [if_neg hv,if_neg hv2,if_neg hyn]
  refine rt_tmp h2 rfl rfl rfl hk2 ?_
  exact ent
 ·rename_i hb
  have hv : ¬ v1≠0:=by omega
  have hv2 : ¬ v2≠0:=by omega
  have hyn:seg f2.bs a x.length=x:=of_decide_eq_true (hy.trans (by simpa using hb))
  rw [if_neg hv,if_neg hv2,if_pos hyn]
  refine rt_tmp h2 rfl rfl rfl hk2 ?_
  exact ent
def rtD20_0:List Row:=[⟨some 4,[],[],none⟩,⟨some 5,[0],[0],none⟩,⟨some 6,[1],[0,1],none⟩,⟨some 7,[],[],none⟩,⟨some 8,[3],[3],none⟩,⟨some 9,[2,4,4],[0,1,2,3,4],none⟩]
theorem rc_disable (w:World):(callFunc 235 #[]).run Tryz.prog w = .ok (.value (.tuple #[])) w:=run_call_mark0 Tryz.func235 (by kernel_rfl) (by kernel_rfl) (by kernel_rfl) .disable (by kernel_rfl) w
theorem rc_enable (w:World):(callFunc 237 #[]).run Tryz.prog w = .ok (.value (.tuple #[])) w:=run_call_mark0 Tryz.func237 (by kernel_rfl) (by kernel_rfl) (by kernel_rfl) .enable (by kernel_rfl) w
theorem rc_acquire (a:Addr) (w:World):(callFunc 238 #[.pointer (some a)]).run Tryz.prog w = .ok (.value (.tuple #[])) w:=run_call_marked Tryz.func238 (by kernel_rfl) (by kernel_rfl) (by kernel_rfl) .acquire (by kernel_rfl) a w
theorem rc_merge (a:Addr) (w:World):(callFunc 240 #[.pointer (some a)]).run Tryz.prog w = .ok (.value (.tuple #[])) w:=run_call_marked Tryz.func240 (by kernel_rfl) (by kernel_rfl) (by kernel_rfl) .releaseMerge (by kernel_rfl) a w
set_option maxRecDepth 100000 in
theorem mx_lock (a:Addr) (w:World) (hc:w.cell? a=some (.int .i32 0)) (hz:w.frozen? a=false) :
  Calls Tryz.prog 218 #[.pointer (some a)] w fun e w'=>e = .returned (.tuple #[])∧w'=w.setCell a (.int .i32 1):=by
 have hd:=rc_disable
 have he:=rc_enable
 have ha:=rc_acquire
 have hcas:=run_call_cas_hit (P:=Tryz.prog) Tryz.func236 (by kernel_rfl) (by kernel_rfl) (by kernel_rfl) .i32 (by kernel_rfl) (y:=1) hc hz
 have hc':(w.setCell a (.int .i32 1)).cell? a=some (.int .i32 1):=World.cell?_setCell_same w a _ hc
 have hcv:=run_convert_to_unsafe (P:=Tryz.prog) (src:=313) (dst:=74) Tryz.underlying313 Tryz.underlying74 (by kernel_rfl) hc'
 go_enter Tryz.func218,Tryz.ntmps218
 go_wp2
 first|go_end0|(simp only [Exit.inBlock,Exit.then];refine bodyPost_ret (results_none rfl _ _ _) rfl ?_)|refine bodyPost_ret (results_none rfl _ _ _) rfl ?_
 go_wp2
 all_goals (try go_end0)
 all_goals exact ⟨rfl,rfl⟩
set_option maxRecDepth 100000 in
theorem mx_unlock (a:Addr) (w:World) (hc:w.cell? a=some (.int .i32 1)) (hz:w.frozen? a=false) :
  Calls Tryz.prog 219 #[.pointer (some a)] w fun e w'=>e = .returned (.tuple #[])∧w'=w.setCell a (.int .i32 0):=by
 have hd:=rc_disable
 have he:=rc_enable
 have hr:=rc_merge
 have hadd:=run_call_add (P:=Tryz.prog) Tryz.func241 (by kernel_rfl) (by kernel_rfl) (by kernel_rfl) .i32 (by kernel_rfl) (y := -1) (s:=0) hc hz (by simp [go_sem];rfl)
 have hcv:=run_convert_to_unsafe (P:=Tryz.prog) (src:=313) (dst:=74) Tryz.underlying313 Tryz.underlying74 (by kernel_rfl) hc
 go_enter Tryz.func219,Tryz.ntmps219
 go_wp2
 go_end0
 go_wp2
 all_goals (try go_end0)
 all_goals exact ⟨rfl,rfl⟩
abbrev K4 (n:Int):Value := .int .i32 n
theorem mx_Lock0 (H:List Hl) (b i:Nat) (T:TypeId) (cs:List Value) (hv:cs[i]?=some (K4 0)) :
  Spec Tryz.prog 218 [.pointer (some ⟨b,i,none⟩)] (.box b T cs::H) (fun _:Unit=>True) (fun _ => .tuple #[]) (fun _ => .box b T (cs.set i (K4 1))::H) :=
 ⟨by kernel_rfl,fun w hs=>(mx_lock ⟨b,i,none⟩ w (by rw [hs.cell .here i,hv]) (hs.free .here i)).mono fun e w' ⟨he,hw⟩=>⟨(),trivial,he,hw ▸ (Ext.refl w).setCell _ _,hw ▸ hs.set_ i (K4 1) .here⟩⟩
theorem mx_Unlock0 (H:List Hl) (b i:Nat) (T:TypeId) (cs:List Value) (hv:cs[i]?=some (K4 1)) :
  Spec Tryz.prog 219 [.pointer (some ⟨b,i,none⟩)] (.box b T cs::H) (fun _:Unit=>True) (fun _ => .tuple #[]) (fun _ => .box b T (cs.set i (K4 0))::H) :=
 ⟨by kernel_rfl,fun w hs=>(mx_unlock ⟨b,i,none⟩ w (by rw [hs.cell .here i,hv]) (hs.free .here i)).mono fun e w' ⟨he,hw⟩=>⟨(),trivial,he,hw ▸ (Ext.refl w).setCell _ _,hw ▸ hs.set_ i (K4 0) .here⟩⟩
theorem mx_Lock (H:List Hl) (b i:Nat) (T:TypeId) (cs:List Value) (hv:cs[i]?=some (K4 0)) :
  Spec Tryz.prog 204 [.pointer (some ⟨b,i,none⟩)] (.box b T cs::H) (fun _:Unit=>True) (fun _ => .tuple #[]) (fun _ => .box b T (cs.set i (K4 1))::H):=by
 refine spec_fn (res:=fun _:Unit=>[.box b T (cs.set i (K4 1))]) [.box b T cs] H Tryz.func204 rfl Tryz.ntmps204 (by kernel_rfl) rfl (fun W=>?_)
 dsimp only [List.cons_append,List.nil_append]
 repeat' (first|intro _|refine cw ?_|refine cw2 ?_ ?_|(refine k_fn 218 ?_;refine o1_call_box (b:=b) (fun _=>mx_Lock0 _ b i _ _ hv) rfl (fun _ _=>?_))|refine ow ?_|refine ow2 ?_ ?_|fail)
 refine rt_none () rfl rfl trivial ?_
 exact ent
theorem mx_UnlockD (H:List Hl) (b i:Nat) (T:TypeId) (cs:List Value) (hv:cs[i]?=some (K4 1)) :
  SpecD Tryz.prog 205 [.pointer (some ⟨b,i,none⟩)] (.box b T cs::H) (fun _:Unit=>True) (fun _ => .tuple #[]) (fun _ => .box b T (cs.set i (K4 0))::H):=by
 refine specd_fn (res:=fun _:Unit=>[.box b T (cs.set i (K4 0))]) [.box b T cs] H Tryz.func205 rfl Tryz.ntmps205 (by kernel_rfl) rfl (fun W=>?_)
 dsimp only [List.cons_append,List.nil_append]
 repeat' (first|intro _|refine cw ?_|refine cw2 ?_ ?_|(refine k_fn 219 ?_;refine o1_call_box (b:=b) (fun _=>mx_Unlock0 _ b i _ _ hv) rfl (fun _ _=>?_))|refine ow ?_|refine ow2 ?_ ?_|fail)
 refine rt_none () rfl rfl trivial ?_
 exact ent
theorem xf_loadu32:XFn Tryz.prog 203 (Extern.Atomic.loadT (.int .u32)):=⟨by kernel_rfl,by kernel_rfl⟩
theorem o1_xload_hc {P:Program} {n:Nat} {H:List Hl} {e:Ev} {C:Value→List Hl→Prop} {ty:TypeId} {f:FuncId} {xs:List Operand} {ats:Array TypeId} {a0:Addr} {k:IntKind} {p:Int} (x:XFn P f (Extern.Atomic.loadT (.int k))) (hxs:opds e xs=some [.pointer (some a0)]) (hc:Cl (stars H) a0 (.int k p)) (h:C (.int k p) H):O1 P (.call ⟨.value (.func f),xs.toArray,ats⟩) ty n e H C :=
 o1_xval _ hxs (fun a w ho=>by
  obtain ⟨fn,h1,h2,h3,h4,h5⟩:=x.of
  exact run_call_load h1 h2 h3 h4 k h5 (hc.cell w ho.sat)) h
theorem bl_Load (H:List Hl) (b i:Nat) (x:Nat) (h:Cl (stars H) ⟨b,i,none⟩ (.int .u32 (x:Int))) (y:Bool) (hy:decide ((x:Int)≠0)=y) :
  Spec Tryz.prog 172 [.pointer (some ⟨b,i,none⟩)] H (fun _:Unit=>True) (fun _ => .bool y) (fun _=>H):=by
 refine spec_pure (res:=fun _=>[]) H Tryz.func172 rfl Tryz.ntmps172 (by kernel_rfl) rfl (fun W=>?_)
 repeat' (first|intro _|refine cw ?_|refine cw2 ?_ ?_|refine ow ?_|refine ow2 ?_ ?_|fail)
 refine o1_xload_hc xf_loadu32 rfl (cl_up h) ?_
 repeat' (first|intro _|refine cw ?_|refine cw2 ?_ ?_|(refine k_binOp .neq ?_;(refine o1_neq_d rfl rfl ?_;rw [hy]))|refine ow ?_|refine ow2 ?_ ?_|fail)
 refine rt_tmp () rfl rfl rfl trivial ?_
 exact ent
theorem xf_storeu32:XFn Tryz.prog 208 Extern.Atomic.storeT:=⟨by kernel_rfl,by kernel_rfl⟩
theorem at_b32 (H:List Hl):Spec Tryz.prog 220 [.bool true] H (fun _:Unit=>True) (fun _=>W4 1#32) (fun _=>H):=by
 refine spec_pure (res:=fun _=>[]) H Tryz.func220 rfl Tryz.ntmps220 (by kernel_rfl) rfl (fun W=>?_)
 repeat' (first|intro _|refine cw ?_|refine cw2 ?_ ?_|refine ow ?_|refine ow2 ?_ ?_|fail)
 refine rt_tmp () rfl rfl rfl trivial ?_
 exact ent
theorem bl_StoreD (H:List Hl) (b i:Nat) (T:TypeId) (cs:List Value) (hi:i<cs.length) :
  SpecD Tryz.prog 206 [.pointer (some ⟨b,i,none⟩),.bool true] (.box b T cs::H) (fun _:Unit=>True) (fun _ => .tuple #[]) (fun _ => .box b T (cs.set i (W4 1#32))::H):=by
 refine specd_fn (res:=fun _:Unit=>[.box b T (cs.set i (W4 1#32))]) [.box b T cs] H Tryz.func206 rfl Tryz.ntmps206 (by kernel_rfl) rfl (fun W=>?_)
 dsimp only [List.cons_append,List.nil_append]
 repeat' (first|intro _|refine cw ?_|refine cw2 ?_ ?_|refine ow ?_|refine ow2 ?_ ?_|fail)
 refine st_stages' [(0,_),(1,_)] rtD20_0 [4,5] [⟨[0,1,2,3],[],some 4⟩,⟨[],[0,1,2],some 5⟩,⟨[],[],none⟩] mixed cv (by kernel_rfl) (by kernel_rfl) ?_
 repeat' (first|intro _|refine sg ?_|refine po (by first|refine o1_xstore xf_storeu32 rfl (b:=b) (i:=i) hi fz|fail) ?_|refine pw ?_|refine pdd ?_|(refine k_fn 220 ?_;refine o1_call (fun _=>at_b32 _) rfl (fun _ _=>?_))|refine o1_xstore xf_storeu32 rfl (b:=b) (i:=i) hi ?_|refine ow ?_|fail)
 all_goals dsimp only [List.cons_append,List.nil_append]
 repeat' (first|intro _|refine cw ?_|refine cw2 ?_ ?_|refine ow ?_|refine ow2 ?_ ?_|fail)
 refine rt_none () rfl rfl trivial ?_
 exact ent
set_option maxRecDepth 20000 in
theorem on_slow (H:List Hl) (b i:Nat) (T:TypeId) (cs:List Value) (g:FuncId) (caps:List Value) {X:Type} {good:X→Prop} {ds:X→List Value} {R:X→List Hl} (h0:cs[i]?=some (W4 0#32)) (h1:cs[i+1]?=some (K4 0))
  (hc:Spec Tryz.prog g caps (.box b T (cs.set (i+1) (K4 1))::H) good (fun _ => .tuple #[]) (fun r => .box b T (ds r)::R r)) (hd:∀ r,good r→(ds r)[i+1]?=some (K4 1)) :
  Spec Tryz.prog 173 [.pointer (some ⟨b,i,none⟩),.func (.func g) #[] caps.toArray] (.box b T cs::H) good (fun _ => .tuple #[]) (fun r => .box b T (((ds r).set i (W4 1#32)).set (i+1) (K4 0))::R r):=by
 refine spec_defers _ Tryz.func173 rfl Tryz.ntmps173 (by kernel_rfl) rfl (fun W=>?_)
 have hne:(cs.set (i+1) (K4 1))[i]?=some (W4 0#32):=by rw [List.getElem?_set_ne (by omega),h0]
 repeat' (first|refine sd_seq ?_|refine sd_region ?_|refine sd_cond_t rfl ?_|refine ld_defer rfl ?_|refine ld_of rfl ?_|refine ld_of_no ?_|refine ld_next ?_|refine o1_move rfl ?_|refine o1_nilCheck rfl ?_|refine o1_fieldAddr rfl ?_|refine o1_bnot rfl ?_|refine o1_call_box (b:=b) (fun _=>mx_Lock _ b (i+1) T cs h1) rfl (fun _ _=>?_)|refine o1_call (fun _=>bl_Load _ b i 0 (cl_box hne) false rfl) rfl (fun _ _=>?_)|refine o1_kall (args:=[]) (caps:=caps) rfl (fun _=>hc) rfl (fun r hg=>?_))
 refine ld_nil (fun a w ho hD=>?_)
 show Leaves _ _ _ _ a.defers .returning w
 rw [hD]
 have hd1:=hd r hg
 have hlt:i<(ds r).length:=by have:=(List.getElem?_eq_some_iff.1 hd1).1;omega
 refine leaves_spec (bl_StoreD _ b i T (ds r) hlt) ho.sat (fun _ w1 _ hx1 hs1=>leaves_spec (mx_UnlockD _ b (i+1) T _ (by rw [List.getElem?_set_ne (by omega),hd1])) hs1 (fun _ w2 _ hx2 hs2=>?_))
 exact ⟨.tuple #[],by simp [results],r,hg,rfl,(ho.ext.trans hx1).trans hx2,hs2⟩
theorem on_Do (H:List Hl) (b i:Nat) (T:TypeId) (cs:List Value) (g:FuncId) (caps:List Value) {X:Type} {good:X→Prop} {ds:X→List Value} {R:X→List Hl} (h0:cs[i]?=some (W4 0#32)) (h1:cs[i+1]?=some (K4 0))
  (hc:Spec Tryz.prog g caps (.box b T (cs.set (i+1) (K4 1))::H) good (fun _ => .tuple #[]) (fun r => .box b T (ds r)::R r)) (hd:∀ r,good r→(ds r)[i+1]?=some (K4 1)) :
  Spec Tryz.prog 131 [.pointer (some ⟨b,i,none⟩),.func (.func g) #[] caps.toArray] (.box b T cs::H) good (fun _ => .tuple #[]) (fun r => .box b T (((ds r).set i (W4 1#32)).set (i+1) (K4 0))::R r):=by
 refine spec_of _ Tryz.func131 rfl Tryz.ntmps131 (by kernel_rfl) rfl (fun W=>?_)
 repeat' (first|intro _|refine cw ?_|refine cw2 ?_ ?_|refine ow ?_|refine ow2 ?_ ?_|fail)
 refine o1_call (fun _=>bl_Load _ b i 0 (cl_box h0) false rfl) rfl (fun _ _=>?_)
 repeat' (first|intro _|refine cw ?_|refine cw2 ?_ ?_|refine ow ?_|refine ow2 ?_ ?_|fail)
 refine o1_call_box (b:=b) (fun _=>on_slow _ b i T cs g caps h0 h1 hc hd) rfl (fun r hg=>?_)
 repeat' (first|intro _|refine cw ?_|refine cw2 ?_ ?_|refine ow ?_|refine ow2 ?_ ?_|fail)
 refine rt_none r rfl rfl hg ?_
 exact Ent.refl _
theorem on_Do_done (H:List Hl) (b i:Nat) (g:FuncId) (caps:List Value) (h0:Cl (stars H) ⟨b,i,none⟩ (W4 1#32)) :
  Spec Tryz.prog 131 [.pointer (some ⟨b,i,none⟩),.func (.func g) #[] caps.toArray] H (fun _:Unit=>True) (fun _ => .tuple #[]) (fun _=>H):=by
 refine spec_pure (res:=fun _=>[]) H Tryz.func131 rfl Tryz.ntmps131 (by kernel_rfl) rfl (fun W=>?_)
 repeat' (first|intro _|refine cw ?_|refine cw2 ?_ ?_|refine ow ?_|refine ow2 ?_ ?_|fail)
 refine o1_call (fun _=>bl_Load _ b i 1 (cl_up h0) true rfl) rfl (fun _ _=>?_)
 repeat' (first|intro _|refine cw ?_|refine cw2 ?_ ?_|refine ow ?_|refine ow2 ?_ ?_|fail)
 refine rt_none () rfl rfl trivial ?_
 exact ent
end Go.Dp
namespace Go.Dp
def wordOf (l:List Bool) (k:Nat):BitVec 64:=(BitVec.iunfoldr (fun (i:Fin 64) (_:Unit)=>((),l.getD (64*k+i.val) false)) ()).2
theorem wordOf_bit (l:List Bool) (k j:Nat) (hj:j<64):(wordOf l k).getLsbD j=l.getD (64*k+j) false :=
 BitVec.iunfoldr_getLsbD (f:=fun (i:Fin 64) (_:Unit)=>((),l.getD (64*k+i.val) false)) (fun _=>()) ⟨j,hj⟩ (fun _=>rfl)
def nw (n:Nat):Nat:=(n+63) / 64
def words (l:List Bool):List (BitVec 64):=(List.range (nw l.length)).map (wordOf l)
theorem words_len (l:List Bool):(words l).length=nw l.length:=by simp [words]
theorem words_at (l:List Bool) (k:Nat) (h:k<(words l).length):(words l)[k]=wordOf l k:=by simp [words]
theorem words_at? (l:List Bool) (k:Nat) (h:k<nw l.length):(words l)[k]?=some (wordOf l k):=by simp [words,h]
theorem word_ext {x y:BitVec 64} (h:∀ j,j<64→x.getLsbD j=y.getLsbD j):x=y:=BitVec.eq_of_getLsbD_eq h
theorem one_shl_bit (m j:Nat) (hj:j<64) (hm:m<64):(1#64 <<< m).getLsbD j=decide (j=m):=by
 rw [BitVec.getLsbD_shiftLeft]
 by_cases h:j=m
 ·subst h;simp [hj]
 ·by_cases h2:j<m
  ·simp [h,h2]
  ·have:(1#64).getLsbD (j - m)=false:=by
    rw [BitVec.getLsbD_one];simp;omega
   simp [h,this]
theorem atD_set (l:List Bool) (i j:Nat) (b d:Bool):(l.set i b).getD j d=if i=j∧i<l.length then b else l.getD j d:=by
 simp only [List.getD_eq_getElem?_getD,List.getElem?_set]
 by_cases h:i=j
 ·subst h
  by_cases h2:i<l.length <;> simp [h2]
 ·simp [h]
theorem word_off (l:List Bool) (i:Nat):wordOf (l.set i false) (i / 64)=wordOf l (i / 64) &&& ~~~(1#64 <<< (i % 64)):=by
 refine word_ext (fun j hj=>?_)
 rw [wordOf_bit _ _ _ hj,BitVec.getLsbD_and,BitVec.getLsbD_not,one_shl_bit _ _ hj (by omega),wordOf_bit _ _ _ hj,atD_set]
 have hd:i=64*(i / 64)+i % 64:=by omega
 by_cases h:j=i % 64
 ·subst h
  rw [←hd]
  by_cases h2:i<l.length
  ·simp [h2]
  ·simp [h2,List.getD_eq_getElem?_getD]
 ·have : ¬ i=64*(i / 64)+j:=by omega
  simp [h,this,hj]
theorem word_on (l:List Bool) (i:Nat) (hi:i<l.length):wordOf (l.set i true) (i / 64)=wordOf l (i / 64) ||| (1#64 <<< (i % 64)):=by
 refine word_ext (fun j hj=>?_)
 rw [wordOf_bit _ _ _ hj,BitVec.getLsbD_or,one_shl_bit _ _ hj (by omega),wordOf_bit _ _ _ hj,atD_set]
 have hd:i=64*(i / 64)+i % 64:=by omega
 by_cases h:j=i % 64
 ·subst h
  rw [←hd];simp [hi]
 ·have : ¬ i=64*(i / 64)+j:=by omega
  simp [h,this]
theorem word_else (l:List Bool) (i k:Nat) (b:Bool) (h:k≠i / 64):wordOf (l.set i b) k=wordOf l k:=by
 refine word_ext (fun j hj=>?_)
 rw [wordOf_bit _ _ _ hj,wordOf_bit _ _ _ hj,atD_set,if_neg (by omega)]
theorem words_set (l:List Bool) (i:Nat) (b:Bool):words (l.set i b)=(words l).set (i / 64) (wordOf (l.set i b) (i / 64)):=by
 refine List.ext_getElem ?_ (fun k h1 h2=>?_)
 ·simp [words_len]
 ·rw [words_at,List.getElem_set]
  by_cases h:i / 64=k
  ·rw [if_pos h,h]
  ·rw [if_neg h,words_at,word_else _ _ _ _ (fun q=>h q.symm)]
theorem words_off (l:List Bool) (i:Nat):words (l.set i false)=(words l).set (i / 64) (wordOf l (i / 64) &&& ~~~(1#64 <<< (i % 64))):=by rw [words_set,word_off]
theorem words_on (l:List Bool) (i:Nat) (hi:i<l.length):words (l.set i true)=(words l).set (i / 64) (wordOf l (i / 64) ||| (1#64 <<< (i % 64))):=by rw [words_set,word_on _ _ hi]
def xorV (a b:List Bool):List Bool:=List.zipWith (· ^^ ·) a b
theorem xorV_len {a b:List Bool} (h:a.length=b.length):(xorV a b).length=a.length:=by simp [xorV,h]
theorem xorV_getD {a b:List Bool} (h:a.length=b.length) (j:Nat):(xorV a b).getD j false=(a.getD j false ^^ b.getD j false):=by
 simp only [xorV,List.getD_eq_getElem?_getD,List.getElem?_zipWith]
 by_cases hj:j<a.length
 ·have hj':j<b.length:=by omega
  simp [hj,hj']
 ·have hj' : ¬ j<b.length:=by omega
  simp [hj,hj']
theorem word_xor {a b:List Bool} (h:a.length=b.length) (k:Nat):wordOf (xorV a b) k=wordOf a k ^^^ wordOf b k:=by
 refine word_ext (fun j hj=>?_)
 rw [wordOf_bit _ _ _ hj,BitVec.getLsbD_xor,wordOf_bit _ _ _ hj,wordOf_bit _ _ _ hj,xorV_getD h]
theorem words_xor {a b:List Bool} (h:a.length=b.length):words (xorV a b)=List.zipWith (· ^^^ ·) (words a) (words b):=by
 refine List.ext_getElem ?_ (fun k h1 h2=>?_)
 ·simp [words_len,xorV_len h,h]
 ·rw [words_at,List.getElem_zipWith,words_at,words_at,word_xor h]
theorem word_has (l:List Bool) (i:Nat):((wordOf l (i / 64) >>> (i % 64)) &&& 1#64).toNat=(l.getD i false).toNat:=by
 have hb:((wordOf l (i / 64) >>> (i % 64)) &&& 1#64)=if l.getD i false then 1#64 else 0#64:=by
  refine word_ext (fun j hj=>?_)
  rw [BitVec.getLsbD_and,BitVec.getLsbD_ushiftRight,BitVec.getLsbD_one]
  by_cases h:j=0
  ·subst h
   rw [wordOf_bit _ _ _ (by omega),show 64*(i / 64)+(i % 64+0)=i by omega]
   cases l.getD i false <;> simp
  ·cases l.getD i false <;> simp [h]
 rw [hb];cases l.getD i false <;> rfl
theorem getD_out {l:List Bool} {j:Nat} (h:l.length≤j):l.getD j false=false:=by simp [List.getD_eq_getElem?_getD,h]
theorem bits_ext {a b:List Bool} (h:a.length=b.length) (hb:∀ j,j<a.length→a.getD j false=b.getD j false):a=b:=by
 refine List.ext_getElem h (fun j h1 h2=>?_)
 have:=hb j h1
 simpa [List.getD_eq_getElem?_getD,h1,h2] using this
theorem words_zero (n:Nat):words (List.replicate n false)=List.replicate (nw n) 0#64:=by
 refine List.ext_getElem ?_ (fun k h1 h2=>?_)
 ·simp [words_len]
 ·rw [words_at,List.getElem_replicate]
  refine word_ext (fun j hj=>?_)
  rw [wordOf_bit _ _ _ hj]
  by_cases h:64*k+j<n <;> simp [List.getD_eq_getElem?_getD,List.getElem?_replicate,h]
def cnt (f:Nat→Bool) (m:Nat):Nat:=((List.range m).filter f).length
theorem cnt_succ (f:Nat→Bool) (m:Nat):cnt f (m+1)=cnt f m+(f m).toNat:=by
 simp only [cnt,List.range_succ,List.filter_append,List.length_append]
 cases h:f m <;> simp [h]
theorem cnt_le (f:Nat→Bool) (m:Nat):cnt f m≤m:=by
 induction m with
 | zero=>exact Nat.le_refl _
 | succ m ih=>rw [cnt_succ];cases f m <;> simp <;> omega
def placesN (f:Nat→Bool) (m:Nat):List Nat:=(List.range m).filter f
theorem places_succ (f:Nat→Bool) (m:Nat):placesN f (m+1)=placesN f m++if f m then [m] else []:=by
 simp only [placesN,List.range_succ,List.filter_append]
 cases h:f m <;> simp [h]
theorem places_len (f:Nat→Bool) (m:Nat):(placesN f m).length=cnt f m:=rfl
theorem places_mem {f:Nat→Bool} {m i:Nat}:i∈placesN f m↔i<m∧f i=true:=by simp [placesN]
def firstN (f:Nat→Bool):Nat→Nat
 | 0=>0
 | m+1=>if firstN f m<m then firstN f m else if f m then m else m+1
theorem firstN_le (f:Nat→Bool) (m:Nat):firstN f m≤m:=by
 induction m with
 | zero=>exact Nat.le_refl _
 | succ m ih=>rw [firstN];split;omega;split <;> omega
theorem firstN_lo (f:Nat→Bool) (m:Nat):∀ j,j<firstN f m→f j=false:=by
 induction m with
 | zero=>intro j hj;simp [firstN] at hj
 | succ m ih =>
  intro j hj
  rw [firstN] at hj
  split at hj
  ·exact ih j hj
  ·have:firstN f m=m:=by have:=firstN_le f m;omega
   split at hj
   ·exact ih j (by omega)
   ·by_cases h:j<m
    ·exact ih j (by omega)
    ·have:j=m:=by omega
     subst this
     rename_i h1 h2
     simpa using h2
theorem firstN_at (f:Nat→Bool) (m:Nat) (h:firstN f m<m):f (firstN f m)=true:=by
 induction m with
 | zero=>omega
 | succ m ih =>
  rw [firstN] at h ⊢
  split
  ·rename_i h1;exact ih h1
  ·rename_i h1
   rw [if_neg h1] at h
   split
   ·assumption
   ·rename_i h2;rw [if_neg h2] at h;omega
theorem firstN_is {f:Nat→Bool} {m i:Nat} (hi:i<m) (h1:f i=true) (h:∀ j,j<i→f j=false):firstN f m=i:=by
 rcases Nat.lt_trichotomy (firstN f m) i with hl|he|hg
 ·have:=firstN_at f m (by omega)
  rw [h _ hl] at this;cases this
 ·exact he
 ·have:=firstN_lo f m i hg
  rw [h1] at this;cases this
theorem firstN_none {f:Nat→Bool} {m:Nat} (h:∀ j,j<m→f j=false):firstN f m=m:=by
 have hle:=firstN_le f m
 rcases Nat.lt_or_ge (firstN f m) m with hl|hg
 ·have:=firstN_at f m hl
  rw [h _ hl] at this;cases this
 ·omega
def ds (w:Nat):Nat→Nat→Nat
 | 0,_=>0
 | n+1,y=>y % 2 ^ w+ds w n (y / 2 ^ w)
def alt (w:Nat):Nat→Nat
 | 0=>0
 | n+1=>(2 ^ w - 1)+2 ^ (2*w)*alt w n
theorem ctz_first (x:Nat) (h0:x≠0) (h:x<2 ^ 64):firstN x.testBit 64=Go.Lib.ctz 64 x:=by
 obtain ⟨m,hm,hk⟩:=Go.Lib.ctzFrom_spec 64 x (by omega) h
 have e:Go.Lib.ctz 64 x=Go.Lib.ctzFrom 64 x:=by simp [Go.Lib.ctz,h0]
 rw [e]
 generalize Go.Lib.ctzFrom 64 x=c at *
 refine firstN_is hk ?_ (fun j hj=>?_)
 ·rw [hm,Nat.testBit_two_pow_mul];simp
 ·rw [hm,Nat.testBit_two_pow_mul]
  have : ¬ c≤j:=by omega
  simp [this]
abbrev at_ (l:List Bool) (j:Nat):Bool:=l.getD j false
def setI (b:List Bool) (i:Int):List Bool:=if 0≤i∧i<b.length then b.set i.toNat true else b
def bitsOf (n:Nat) (l:List Int):List Bool:=l.foldl setI (List.replicate n false)
theorem setI_len (b:List Bool) (i:Int):(setI b i).length=b.length:=by unfold setI;split <;> simp
theorem foldI_len (l:List Int):∀ b:List Bool,(l.foldl setI b).length=b.length:=by
 induction l with
 | nil=>exact fun _=>rfl
 | cons i l ih=>intro b;rw [List.foldl_cons,ih,setI_len]
theorem bitsOf_len (n:Nat) (l:List Int):(bitsOf n l).length=n:=by rw [bitsOf,foldI_len,List.length_replicate]
theorem setI_at (b:List Bool) (i:Int) (j:Nat) (hj:j<b.length):(setI b i).getD j false=(b.getD j false || decide ((j:Int)=i)):=by
 unfold setI
 split
 ·rename_i h
  rw [atD_set]
  by_cases h2:i.toNat=j
  ·have:(j:Int)=i:=by omega
   rw [if_pos ⟨h2,by omega⟩];simp [this]
  ·have : ¬ (j:Int)=i:=by omega
   rw [if_neg (fun q=>h2 q.1)];simp [this]
 ·rename_i h
  have : ¬ (j:Int)=i:=by omega
  simp [this]
theorem foldI_at (l:List Int):∀ (b:List Bool) (j:Nat),j<b.length→(l.foldl setI b).getD j false=(b.getD j false || decide ((j:Int)∈l)):=by
 induction l with
 | nil=>intro b j _;simp
 | cons i l ih =>
  intro b j hj
  rw [List.foldl_cons,ih _ _ (by rw [setI_len];exact hj),setI_at _ _ _ hj,Bool.or_assoc]
  congr 1
  simp [List.mem_cons,Bool.decide_or]
theorem rep_at (n j:Nat):(List.replicate n false).getD j false=false:=by
 by_cases h:j<n <;> simp [List.getD_eq_getElem?_getD,h]
theorem bitsOf_at (n:Nat) (l:List Int) (j:Nat) (hj:j<n):(bitsOf n l).getD j false=decide ((j:Int)∈l):=by
 rw [bitsOf,foldI_at _ _ _ (by simpa using hj),rep_at];simp
theorem bitsOf_snoc (n:Nat) (l:List Int) (i:Int):bitsOf n (l++[i])=setI (bitsOf n l) i:=by simp [bitsOf]
def listV (l:List Bool):List Int:=(placesN (at_ l) l.length).map Int.ofNat
theorem listV_len (l:List Bool):(listV l).length=cnt (at_ l) l.length:=by rw [listV,List.length_map,places_len]
theorem listV_mem {l:List Bool} {i:Int}:i∈listV l↔0≤i∧i<l.length∧at_ l i.toNat=true:=by
 simp only [listV,List.mem_map,places_mem]
 constructor
 ·rintro ⟨j,⟨h1,h2⟩,rfl⟩
  exact ⟨by simp,by simpa using h1,by simpa using h2⟩
 ·rintro ⟨h0,h1,h2⟩
  exact ⟨i.toNat,⟨by omega,h2⟩,by simp;omega⟩
def firstV (l:List Bool):Int:=if firstN (at_ l) l.length<l.length then firstN (at_ l) l.length else -1
theorem firstV_is {l:List Bool} {i:Nat} (hi:i<l.length) (h1:at_ l i=true) (h:∀ j,j<i→at_ l j=false):firstV l=i:=by
 rw [firstV,firstN_is hi h1 h,if_pos hi]
theorem firstV_none {l:List Bool} (h:∀ j,j<l.length→at_ l j=false):firstV l = -1:=by
 rw [firstV,firstN_none h,if_neg (Nat.lt_irrefl _)]
theorem word_eq_zero {l:List Bool} {k:Nat} (h:wordOf l k=0#64):∀ j,64*k≤j→j<64*(k+1)→at_ l j=false:=by
 intro j h1 h2
 have:=wordOf_bit l k (j - 64*k) (by omega)
 rw [h,show 64*k+(j - 64*k)=j by omega] at this
 simpa using this.symm
theorem first_word {l:List Bool} {k:Nat} (h0:wordOf l k≠0#64) (h:∀ j,j<64*k→at_ l j=false):firstV l=64*(k:Int)+Go.Lib.ctz 64 (wordOf l k).toNat∧Go.Lib.ctz 64 (wordOf l k).toNat<64:=by
 have hx0:(wordOf l k).toNat≠0:=fun e=>h0 (BitVec.eq_of_toNat_eq (by simpa using e))
 have hc:=ctz_first _ hx0 (wordOf l k).isLt
 have hlt:=(Go.Lib.lowest_bit 64 _ hx0 (wordOf l k).isLt).2
 rw [←hc] at hlt ⊢
 refine ⟨?_,hlt⟩
 have h1:(wordOf l k).getLsbD (firstN (wordOf l k).toNat.testBit 64)=true:=firstN_at _ 64 hlt
 rw [wordOf_bit _ _ _ hlt] at h1
 have hin:64*k+firstN (wordOf l k).toNat.testBit 64<l.length:=by
  rcases Nat.lt_or_ge (64*k+firstN (wordOf l k).toNat.testBit 64) l.length with q|q
  ·exact q
  ·rw [getD_out q] at h1;cases h1
 rw [firstV_is hin h1 (fun j hj=>?_)]
 ·push_cast;rfl
 ·by_cases h2:j<64*k
  ·exact h j h2
  ·have h3:=firstN_lo (wordOf l k).toNat.testBit 64 (j - 64*k) (by omega)
   have h4:=wordOf_bit l k (j - 64*k) (by omega)
   rw [show 64*k+(j - 64*k)=j by omega] at h4
   rw [at_,←h4];exact h3
open Go.RowKit Go.Proofs
structure VD where
 b:Nat
 n:Nat
 a:Option Addr
 c:Nat
 l:List Bool
abbrev Pv (v:VD):Value := .pointer (some ⟨v.b,0,none⟩)
structure VD.ok (v:VD):Prop where
 len:v.l.length=v.n
 hi:v.n≤256
structure RdV (A:Hp→Prop) (v:VD):Prop where
 n:Cl A ⟨v.b,0,none⟩ (I v.n)
 s:Cl A ⟨v.b,1,none⟩ (.slice v.a (nw v.n) v.c)
 w:Rs A W8 v.a v.c (words v.l)
 ok:v.ok
theorem RdV.up {A:Hp→Prop} {v:VD} {H H':List Hl} (h:RdV A v) [s:SAny H A H']:RdV (stars H) v:=⟨cl_up h.n,cl_up h.s,h.w.up,h.ok⟩
abbrev vB (b n:Nat) (a:Option Addr) (c:Nat):Hl := .box b 269 [I n,.slice a (nw n) c]
abbrev vR (n:Nat) (a:Option Addr) (c:Nat) (l:List Bool):Hl := .row 35 1 (.slice a (nw n) c) (nw n) ((words l).map W8)
theorem RdV.own {b n:Nat} {a:Option Addr} {c:Nat} {l:List Bool} {H H1 H2:List Hl} {m:Nat} [s:SBox H b 269 [I n,.slice a (nw n) c] H1] [s2:SRow H a c m 35 ((words l).map W8) H2] (hl:l.length=n) (hn:n≤256) (hh:Has H):RdV (stars H) ⟨b,n,a,c,l⟩ :=
 ⟨cl_box rfl,cl_box rfl,rx_row hh,⟨hl,hn⟩⟩
theorem VD.ok.words {v:VD} (h:v.ok):(words v.l).length=nw v.n:=by rw [words_len,h.len]
theorem nw_at {n m:Nat} (h:m<n):m / 64<nw n:=by unfold nw;omega
theorem nw_4 {n:Nat} (h:n≤256):nw n≤4:=by unfold nw;omega
def hasV (l:List Bool) (i:Int):Bool:=decide (0≤i) && at_ l i.toNat
theorem hasV_nat (l:List Bool) (i:Nat):hasV l (i:Int)=at_ l i:=by simp [hasV]
def inV (n:Nat) (i:Int):Bool:=decide (0≤i∧i<n)
theorem inV_of {n:Nat} {i:Int} (h0:0≤i) (h1:i<n):inV n i=true:=by simp [inV];omega
theorem inV_not {n:Nat} {i:Int} (h : ¬ (0≤i∧i<n)):inV n i=false:=by simp [inV];omega
theorem vec_within (H:List Hl) (v:VD) (i:Int) (h:Cl (stars H) ⟨v.b,0,none⟩ (I v.n)) :
  Spec Tryz.prog 189 [Pv v,I i] H (fun _:Unit=>True) (fun _ => .bool (inV v.n i)) (fun _=>H):=by
 refine spec_pure (res:=fun _=>[]) H Tryz.func189 rfl Tryz.ntmps189 (by kernel_rfl) rfl (fun W=>?_)
 by_cases h0:0≤i
 ·repeat' (first|intro _|refine cw ?_|refine cw2 ?_ ?_|refine o1_pneq rfl rfl ?_|(refine k_load ?_;refine ox_load_any rfl h ?_)|(refine k_binOp .lss ?_;refine o1_lss_d rfl rfl ?_)|refine ow ?_|refine ow2 ?_ ?_|fail)
  refine rt_tmp () rfl rfl (by simp [inV,h0]) trivial ?_
  exact ent
 ·repeat' (first|intro _|refine cw ?_|refine cw2 ?_ ?_|refine o1_pneq rfl rfl ?_|(refine k_load ?_;refine ox_load_any rfl h ?_)|refine ow ?_|refine ow2 ?_ ?_|fail)
  refine rt_tmp () rfl rfl (by rw [inV_not (by omega)]) trivial ?_
  exact ent
theorem vec_Len (H:List Hl) (v:VD) (h:Cl (stars H) ⟨v.b,0,none⟩ (I v.n)) :
  Spec Tryz.prog 142 [Pv v] H (fun _:Unit=>True) (fun _=>I v.n) (fun _=>H):=by
 refine spec_pure (res:=fun _=>[]) H Tryz.func142 rfl Tryz.ntmps142 (by kernel_rfl) rfl (fun W=>?_)
 repeat' (first|intro _|refine cw ?_|refine cw2 ?_ ?_|refine o1_peql rfl rfl ?_|(refine k_load ?_;refine ox_load_any rfl h ?_)|refine ow ?_|refine ow2 ?_ ?_|fail)
 refine rt_tmp () rfl rfl rfl trivial ?_
 exact ent
theorem bit_of (b:Bool):decide (((b.toNat:Nat):Int)=1)=b:=by cases b <;> rfl
theorem vec_Has (H:List Hl) (v:VD) (i:Int) (h:RdV (stars H) v) :
  Spec Tryz.prog 143 [Pv v,I i] H (fun _:Unit=>True) (fun _ => .bool (hasV v.l i)) (fun _=>H):=by
 refine spec_pure (res:=fun _=>[]) H Tryz.func143 rfl Tryz.ntmps143 (by kernel_rfl) rfl (fun W=>?_)
 by_cases hi:0≤i∧i<v.n
 ·obtain ⟨m,rfl⟩:∃ m:Nat,i=m:=⟨i.toNat,by omega⟩
  have hm:m<v.n:=by omega
  have h256:=h.ok.hi
  have hwl:=h.ok.words
  have hlt:m / 64<(words v.l).length:=by rw [hwl];exact nw_at hm
  have hw:(words v.l)[m / 64]?=some (wordOf v.l (m / 64)):=words_at? _ _ (by rw [h.ok.len];exact nw_at hm)
  have hsh:((m:Int) % 64).toNat=m % 64:=by omega
  repeat' (first|intro _|refine cw ?_|refine cw2 ?_ ?_|(refine k_fn 189 ?_;refine o1_call (fun _=>(vec_within _ v m (cl_up h.n)).bv (b:=true) (inV_of hi.1 hi.2)) rfl (fun _ _=>?_))|(refine k_load ?_;first|refine ox_load_any rfl h.s ?_|refine o1_load_av (m / 64) _ rfl h.w hw ?_)|(refine k_binOp .quo ?_;refine o1_quo rfl rfl (by omega) ?_)|(refine k_indexAddr ?_;refine o1_ia (m / 64) rfl rfl h.w hwl.symm (by omega) hlt ?_)|(refine k_binOp .shr ?_;(refine o1_ushr rfl rfl (by omega) ?_;rw [hsh]))|(refine k_binOp .and ?_;refine o1_uand (v:=1#64) rfl rfl ?_)|(refine k_binOp .eql ?_;refine o1_eql_d rfl rfl ?_)|refine ow ?_|refine ow2 ?_ ?_|fail)
  refine rt_tmp () rfl rfl ?_ trivial ?_
  ·rw [hasV_nat,word_has,bit_of]
  exact ent
 ·repeat' (first|intro _|refine cw ?_|refine cw2 ?_ ?_|(refine k_fn 189 ?_;refine o1_call (fun _=>(vec_within _ v i (cl_up h.n)).bv (b:=false) (inV_not hi)) rfl (fun _ _=>?_))|refine ow ?_|refine ow2 ?_ ?_|fail)
  refine rt_tmp () rfl rfl ?_ trivial ?_
  ·congr 1
   simp only [hasV]
   by_cases h0:0≤i
   ·have:v.l.length≤i.toNat:=by rw [h.ok.len];omega
    have h3:at_ v.l i.toNat=false:=getD_out this
    rw [h3,Bool.and_false]
   ·simp [h0]
  exact ent
def setB (l:List Bool) (i:Int) (on:Bool):List Bool:=if 0≤i∧i<l.length then l.set i.toNat on else l
theorem setB_true (l:List Bool) (i:Int):setB l i true=setI l i:=rfl
theorem setB_nat (l:List Bool) (i:Nat) (on:Bool) (h:i<l.length):setB l i on=l.set i on:=by
 rw [setB,if_pos (by omega)];rfl
theorem setB_out (l:List Bool) (i:Int) (on:Bool) (h : ¬ (0≤i∧i<l.length)):setB l i on=l:=by rw [setB,if_neg h]
theorem vec_Set (H:List Hl) (b n:Nat) (a:Option Addr) (c:Nat) (l:List Bool) (i:Int) (on:Bool) (hl:l.length=n) (hn:n≤256) :
  Spec Tryz.prog 178 [.pointer (some ⟨b,0,none⟩),I i,.bool on] (vB b n a c::vR n a c l::H) (fun _:Unit=>True) (fun _ => .bool (inV n i)) (fun _=>vB b n a c::vR n a c (setB l i on)::H):=by
 refine spec_fn (res:=fun _:Unit=>[vB b n a c,vR n a c (setB l i on)]) [vB b n a c,vR n a c l] H Tryz.func178 rfl Tryz.ntmps178 (by kernel_rfl) rfl (fun W=>?_)
 dsimp only [List.cons_append,List.nil_append]
 by_cases hi:0≤i∧i<n
 ·obtain ⟨m,rfl⟩:∃ m:Nat,i=m:=⟨i.toNat,by omega⟩
  have hm:m<n:=by omega
  have hml:m<l.length:=by omega
  have hsh:((m:Int) % 64).toNat=m % 64:=by omega
  have hk:m / 64<nw n:=nw_at hm
  have k1:∀ l':List Bool,l'.length=n→(words l').length=nw n:=fun l' h=>by rw [words_len,h]
  have hl2:(l.set m false).length=n:=by rw [List.length_set];exact hl
  have w1:(words l)[m / 64]?=some (wordOf l (m / 64)):=words_at? _ _ (by rw [hl];exact hk)
  have w2:(words (l.set m false))[m / 64]?=some (wordOf (l.set m false) (m / 64)):=words_at? _ _ (by rw [hl2];exact hk)
  have hon:=words_on (l.set m false) m (by omega)
  rw [List.set_set] at hon
  rw [setB_nat _ _ _ hml]
  cases on
  all_goals
   repeat' (first|intro _|refine cw ?_|refine cw2 ?_ ?_|(refine k_fn 189 ?_;refine o1_call (fun _=>(vec_within _ ⟨b,n,a,c,l⟩ m (cl_box rfl)).bv (b:=true) (inV_of hi.1 hi.2)) rfl (fun _ _=>?_))|(refine k_binOp .quo ?_;refine o1_quo rfl rfl (by omega) ?_)|(refine k_binOp .shl ?_;(refine o1_ushl (u:=1#64) rfl rfl (by omega) ?_;rw [hsh]))|(refine k_indexAddr ?_;first|refine o1_iah (enc:=W8) (xs:=words l) (m / 64) rfl rfl rx_row (k1 _ hl).symm (by omega) (by rw [k1 _ hl];exact hk) ?_|refine o1_iah (enc:=W8) (xs:=words (l.set m false)) (m / 64) rfl rfl rx_row (k1 _ hl2).symm (by omega) (by rw [k1 _ hl2];exact hk) ?_)|(refine k_load ?_;first|refine o1_load_hv (enc:=W8) (c:=c) (m / 64) _ rfl rx_row w1 ?_|refine o1_load_hv (enc:=W8) (c:=c) (m / 64) _ rfl rx_row w2 ?_)|(refine k_store ?_;first|(refine ox_store_rowenc (c:=c) W8 (m / 64) rfl rfl hk rfl ?_;rw [←words_off])|(refine ox_store_rowenc (c:=c) W8 (m / 64) rfl rfl hk rfl ?_;rw [←hon]))|refine ow ?_|refine ow2 ?_ ?_|fail)
   refine rt_tmp () rfl rfl (by rw [inV_of hi.1 hi.2]) trivial ?_
   exact ent
 ·rw [setB_out _ _ _ (by rw [hl];exact hi)]
  repeat' (first|intro _|refine cw ?_|refine cw2 ?_ ?_|(refine k_fn 189 ?_;refine o1_call (fun _=>(vec_within _ ⟨b,n,a,c,l⟩ i (cl_box rfl)).bv (b:=false) (inV_not hi)) rfl (fun _ _=>?_))|refine ow ?_|refine ow2 ?_ ?_|fail)
  refine rt_tmp () rfl rfl (by rw [inV_not hi]) trivial ?_
  exact ent
theorem vec_New (H:List Hl) (n:Nat) (hn:n≤256) :
  Spec Tryz.prog 177 [I n] H (fun _:Nat × Option Addr × Nat=>True) (fun r => .pointer (some ⟨r.1,0,none⟩)) (fun r=>vB r.1 n r.2.1 r.2.2::vR n r.2.1 r.2.2 (List.replicate n false)::H):=by
 refine spec_pure (res:=fun r:Nat × Option Addr × Nat=>[vB r.1 n r.2.1 r.2.2,vR n r.2.1 r.2.2 (List.replicate n false)]) H Tryz.func177 rfl Tryz.ntmps177 (by kernel_rfl) rfl (fun W=>?_)
 have h4:=nw_4 hn
 have hq:((n:Int)+64 - 1) / 64=(nw n:Nat):=by unfold nw;omega
 repeat' (first|intro _|refine cw ?_|refine cw2 ?_ ?_|(refine k_binOp .quo ?_;(refine o1_quo rfl rfl (by omega) ?_;rw [hq]))|(refine k_makeSlice ?_;refine o1_maker (enc:=W8) 0#64 (nw n) rfl rfl rfl rfl rfl (by omega) (by omega) (fun b2=>?_))|(refine k_box ?_;refine o1_box rfl rfl (fun b1=>?_))|refine ow ?_|refine ow2 ?_ ?_|fail)
 rw [←words_zero]
 refine rt_row (T:=35) (b:=b2) (m:=nw n) (cp:=nw n) (cs:=(words (List.replicate n false)).map W8) (by rw [List.length_map,words_len,List.length_replicate]) rfl (by omega) ?_
 refine rt_tmp (b1,some ⟨b2,0,none⟩,nw n) rfl rfl rfl trivial ?_
 exact ent
theorem vec_Of (H:List Hl) (n:Nat) (ad:Option Addr) (c:Nat) (l:List Int) (hn:n≤256) (h:Rs (stars H) I ad c l) :
  Spec Tryz.prog 136 [I n,.slice ad l.length c] H (fun _:Nat × Option Addr × Nat=>True) (fun r => .pointer (some ⟨r.1,0,none⟩)) (fun r=>vB r.1 n r.2.1 r.2.2::vR n r.2.1 r.2.2 (bitsOf n l)::H):=by
 refine spec_pure (res:=fun r:Nat × Option Addr × Nat=>[vB r.1 n r.2.1 r.2.2,vR n r.2.1 r.2.2 (bitsOf n l)]) H Tryz.func136 rfl Tryz.ntmps136 (by kernel_rfl) rfl (fun W=>?_)
 have hle:=h.le
 have hbg:=h.big
 repeat' (first|intro _|refine cw ?_|refine cw2 ?_ ?_|(refine k_fn 177 ?_;(refine o1_call (fun _=>vec_New _ n hn) rfl (fun ⟨b1,a1,c1⟩ _=>?_);dsimp only))|refine ow ?_|refine ow2 ?_ ?_|fail)
 refine st_loop (S:=Nat) (fun i=>[(5,.pointer (some ⟨b1,0,none⟩)),(10,.slice ad l.length c),(11,I l.length),(12,I i)]) (fun i=>[vB b1 n a1 c1,vR n a1 c1 (bitsOf n (l.take i)),.any (stars H)]) (fun i=>i≤l.length) (fun i=>l.length - i) 0 (Nat.zero_le _)
  cv (by show Ent _ [vB b1 n a1 c1,vR n a1 c1 (bitsOf n (l.take 0)),.any (stars H)];rw [List.take_zero];show Ent _ [vB b1 n a1 c1,vR n a1 c1 (List.replicate n false),.any (stars H)];exact ent) ?_
 intro i hi
 by_cases hlt:i<l.length
 ·have e1:setB (bitsOf n (l.take i)) l[i] true=bitsOf n (l.take (i+1)):=by
   rw [setB_true,←bitsOf_snoc,List.take_succ_eq_append_getElem hlt]
  repeat' (first|intro _|refine cw ?_|refine cw2 ?_ ?_|(refine k_indexAddr ?_;refine o1_ia i rfl rfl h rfl rfl hlt ?_)|(refine k_load ?_;refine o1_load_ia i rfl h hlt ?_)|(refine k_fn 178 ?_;(refine o1_call_br b1 a1 c1 (fun _=>vec_Set _ b1 n a1 c1 (bitsOf n (l.take i)) l[i] true (bitsOf_len _ _) hn) rfl (fun _ _=>?_);rw [e1]))|refine ow ?_|refine ow2 ?_ ?_|fail)
  refine nx_again (i+1) (by omega) (by omega) cv ?_
  exact ent
 ·have:i=l.length:=by omega
  subst this
  repeat' (first|intro _|refine cw ?_|refine cw2 ?_ ?_|refine ow ?_|refine ow2 ?_ ?_|fail)
  refine rt_tmp (b1,a1,c1) rfl rfl rfl trivial ?_
  rw [List.take_length]
  exact ent
section
variable {P:Program} {n:Nat} {H:List Hl} {e:Ev} {C:Value→List Hl→Prop} {ty t t':TypeId} {x y:Operand} {p:Int}
end
def listT (l:List Bool) (i:Nat):List Int:=(placesN (at_ l) i).map Int.ofNat
theorem listT_on {l:List Bool} {i:Nat} (h:at_ l i=true):listT l (i+1)=listT l i++[(i:Int)]:=by rw [listT,places_succ,h];simp [listT]
theorem listT_off {l:List Bool} {i:Nat} (h:at_ l i=false):listT l (i+1)=listT l i:=by rw [listT,places_succ,h];simp [listT]
theorem listT_len (l:List Bool) (i:Nat):(listT l i).length≤i:=by rw [listT,List.length_map,places_len];exact cnt_le _ _
theorem vec_List (H:List Hl) (v:VD) (h:RdV (stars H) v) :
  Spec Tryz.prog 86 [Pv v] H (fun _:Option Addr × Nat=>True) (fun r => .slice r.1 (listV v.l).length r.2) (fun r => .row 3 1 (.slice r.1 (listV v.l).length r.2) (listV v.l).length ((listV v.l).map I)::H):=by
 refine spec_pure (res:=fun r:Option Addr × Nat=>[.row 3 1 (.slice r.1 (listV v.l).length r.2) (listV v.l).length ((listV v.l).map I)]) H Tryz.func86 rfl Tryz.ntmps86 (by kernel_rfl) rfl (fun W=>?_)
 have hn:=h.ok.hi
 repeat' (first|intro _|refine cw ?_|refine cw2 ?_ ?_|(refine k_fn 142 ?_;refine o1_call (fun _=>vec_Len _ v (cl_up h.n)) rfl (fun _ _=>?_))|refine ow ?_|refine ow2 ?_ ?_|fail)
 refine st_ent (ent_nil 3 I) ?_
 refine st_loop (S:=Nat × Option Addr × Nat) (fun s=>[(0,Pv v),(3,.slice s.2.1 (listT v.l s.1).length s.2.2),(6,I v.n),(7,I s.1)]) (fun s=>[.row 3 1 (.slice s.2.1 (listT v.l s.1).length s.2.2) (listT v.l s.1).length ((listT v.l s.1).map I),.any (stars H)]) (fun s=>s.1≤v.n) (fun s=>v.n - s.1) (0,none,0) (Nat.zero_le _)
  cv (by show Ent _ [.row 3 1 (.slice none 0 0) 0 [],.any (stars H)];exact ent) ?_
 rintro ⟨i,a1,c1⟩ hi
 dsimp only at hi ⊢
 have hll:=listT_len v.l i
 by_cases hlt:i<v.n
 ·cases hb:at_ v.l i
  ·repeat' (first|intro _|refine cw ?_|refine cw2 ?_ ?_|(refine k_fn 143 ?_;refine o1_call (fun _=>(vec_Has _ v i h.up).bv (b:=false) (by rw [hasV_nat,hb])) rfl (fun _ _=>?_))|refine ow ?_|refine ow2 ?_ ?_|fail)
   refine nx_again (i+1,a1,c1) (by show i+1≤v.n;omega) (by show v.n - (i+1)<v.n - i;omega) (cov_cons rfl rfl (cov_cons rfl ?_ cv)) ?_
   ·show Value.slice a1 _ c1=Value.slice a1 (listT v.l (i+1)).length c1
    rw [listT_off hb]
   ·show Ent _ [.row 3 1 (.slice a1 (listT v.l (i+1)).length c1) (listT v.l (i+1)).length ((listT v.l (i+1)).map I),.any (stars H)]
    rw [listT_off hb]
    exact ent
  ·repeat' (first|intro _|refine cw ?_|refine cw2 ?_ ?_|(refine k_fn 143 ?_;refine o1_call (fun _=>(vec_Has _ v i h.up).bv (b:=true) (by rw [hasV_nat,hb])) rfl (fun _ _=>?_))|(refine k_buildSlice ?_;refine o1_lit_enc I [(i:Int)] rfl rfl rfl (fun _=>rfl) rfl rfl rfl (fun b3=>?_))|(refine k_call ?_;refine ox_append (xs:=listT v.l i) (ys:=[(i:Int)]) rfl rfl (rx_box rfl (by decide)) rfl rfl (fun _=>rfl) (by omega) (by omega) (fun a4 c4=>?_))|refine ow ?_|refine ow2 ?_ ?_|fail)
   refine nx_again (i+1,a4,c4) (by show i+1≤v.n;omega) (by show v.n - (i+1)<v.n - i;omega) (cov_cons rfl rfl (cov_cons rfl ?_ cv)) ?_
   ·show _=Value.slice a4 (listT v.l (i+1)).length c4
    rw [listT_on hb,List.length_append]
    rfl
   ·show Ent _ [.row 3 1 (.slice a4 (listT v.l (i+1)).length c4) (listT v.l (i+1)).length ((listT v.l (i+1)).map I),.any (stars H)]
    rw [listT_on hb,List.length_append]
    exact ent
 ·have:i=v.n:=by omega
  subst this
  have e1:listT v.l v.n=listV v.l:=by rw [listT,listV,h.ok.len]
  rw [e1]
  repeat' (first|intro _|refine cw ?_|refine cw2 ?_ ?_|refine ow ?_|refine ow2 ?_ ?_|fail)
  refine rt_tmp (a1,c1) rfl rfl rfl trivial ?_
  exact ent
def vP (v:VD):List Hl:=[vB v.b v.n v.a v.c,vR v.n v.a v.c v.l]
def vecs (vs:List VD):Hp→Prop:=stars (vs.flatMap vP)
theorem vecs_nil {R:List Hl}:∀ h,stars R h→stars (.any (vecs [])::R) h:=fun h hh=>⟨fun _=>none,h,fun _ => .inl rfl,fun _ _ e=>(by cases e),.refl _,trivial,hh⟩
theorem vecs_push {vs:List VD} {v:VD} {R:List Hl}:∀ h,stars (vB v.b v.n v.a v.c::vR v.n v.a v.c v.l :: .any (vecs vs)::R) h→stars (.any (vecs (vs++[v]))::R) h:=fun h hh=>by
 have h1:=sep_assoc' (sep_mono hh (fun _ a=>a) (fun _ a=>sep_assoc' a))
 refine sep_mono h1 (fun h' x=>?_) (fun _ a=>a)
 show stars ((vs++[v]).flatMap vP) h'
 rw [List.flatMap_append]
 refine stars_append' _ _ _ (sep_mono (sep_comm (sep_assoc' x)) (fun _ a=>a) fun h2 y=>?_)
 show stars [vB v.b v.n v.a v.c,vR v.n v.a v.c v.l] h2
 exact sep_mono y (fun _ a=>a) (fun h3 z=>⟨h3,fun _=>none,fun _ => .inr rfl,.refl _,fun _ _ e=>(by cases e),z,trivial⟩)
theorem vecs_read {vs:List VD} {v:VD} {H H':List Hl} [sa:SAny H (vecs vs) H'] (hm:v∈vs) (hk:v.ok) (hh:Has H):RdV (stars H) v:=by
 have key:∀ w,sat w (stars H)→sat w (stars (vs.flatMap vP)):=fun w hw=>sel_sat sa.s w hw
 have m1:vB v.b v.n v.a v.c∈vs.flatMap vP:=List.mem_flatMap.2 ⟨v,hm,by simp [vP]⟩
 have m2:vR v.n v.a v.c v.l∈vs.flatMap vP:=List.mem_flatMap.2 ⟨v,hm,by simp [vP]⟩
 obtain ⟨L1,s1⟩:=sel_mem m1
 obtain ⟨L2,s2⟩:=sel_mem m2
 refine ⟨⟨fun w hw=>?_⟩,⟨fun w hw=>?_⟩,?_,hk⟩
 ·rw [(key w hw).cell s1 0];rfl
 ·rw [(key w hw).cell s1 1];rfl
 ·obtain ⟨w,hw⟩:=hh
  exact (Rs.of_row s2 w (key w hw)).unvals.mono key
theorem nx_vec {P:Program} {k:Kon} {n:Nat} {e:Ev} {W:World} {H:List Hl} {vs:List VD} (v:VD) {R:List Hl} (hE:Ent H (vB v.b v.n v.a v.c::vR v.n v.a v.c v.l :: .any (vecs vs)::R)) (h:Nx P k n e W (.any (vecs (vs++[v]))::R)):Nx P k n e W H:=nx_ent (fun h hh=>vecs_push h (hE.out h hh)) h
structure TabF (A:Hp→Prop):Prop where
 c:∀ j,j<64→Cl A ⟨1,j,none⟩ (.int .u8 ((Go.Lib.deBruijn64tab.getD j 0:Nat):Int))
theorem TabF.up {A:Hp→Prop} {H H':List Hl} (h:TabF A) [s:SAny H A H']:TabF (stars H):=⟨fun j hj=>cl_up (h.c j hj)⟩
section
variable {P:Program} {n:Nat} {H:List Hl} {e:Ev} {C:Value→List Hl→Prop} {ty t:TypeId} {x:Operand} {u:BitVec 64}
theorem o1_neg64 (hx:opd e x=some (.int .u64 u.toNat)) (h:C (.int .u64 (-u).toNat) H):O1 P (.unOp .neg t x) ty n e H C :=
 o1_val _ (fun a w ho=>by
  have hw:IntKind.u64.wrap (-(u.toNat:Int))=((-u).toNat:Int):=by
   rw [IntKind.wrap_u64,BitVec.toNat_neg]
   omega
  simp [execOp,ho.ev.eval hx,unary_neg,Op.intArith,hw]) h
end
theorem tz_key (x:BitVec 64) (h0:x≠0#64):∃ k idx:Nat,k<64∧idx<64∧k=Go.Lib.ctz 64 x.toNat∧(((x &&& -x)*285870213051353865#64) >>> 58).toNat=idx∧Go.Lib.deBruijn64tab.getD idx 0=k:=by
 have hx:x.toNat≠0:=fun e=>h0 (BitVec.eq_of_toNat_eq (by simpa using e))
 obtain ⟨hlow,hk⟩:=Go.Lib.lowest_bit 64 x.toNat hx x.isLt
 obtain ⟨hi,htab⟩:=Go.Lib.deBruijn64_at _ hk
 refine ⟨_,_,hk,hi,rfl,?_,htab⟩
 have e1:(-x).toNat=2 ^ 64 - x.toNat:=by
  rw [BitVec.toNat_neg]
  have:=x.isLt
  omega
 rw [BitVec.toNat_ushiftRight,BitVec.toNat_mul,BitVec.toNat_and,e1,hlow,Nat.shiftRight_eq_div_pow]
 rfl
theorem bits_TZ64 (H:List Hl) (x:BitVec 64) (h0:x≠0#64) (ht:TabF (stars H)) :
  Spec Tryz.prog 215 [W8 x] H (fun _:Unit=>True) (fun _=>I (Go.Lib.ctz 64 x.toNat)) (fun _=>H):=by
 refine spec_pure (res:=fun _=>[]) H Tryz.func215 rfl Tryz.ntmps215 (by kernel_rfl) rfl (fun W=>?_)
 have hx : ¬ (x.toNat:Int)=0:=fun e=>h0 (BitVec.eq_of_toNat_eq (by simp;omega))
 obtain ⟨k,idx,h1,h2,h3,h4,h5⟩:=tz_key x h0
 have hc:=ht.c idx h2
 rw [h5] at hc
 have h6:0+((((x &&& -x)*285870213051353865#64) >>> (58:Int).toNat).toNat:Int).toNat*1=idx:=by
  rw [show (58:Int).toNat=58 from rfl,h4];omega
 have h7:0≤((((x &&& -x)*285870213051353865#64) >>> (58:Int).toNat).toNat:Int)∧((((x &&& -x)*285870213051353865#64) >>> (58:Int).toNat).toNat:Int)<(64:Nat):=by
  rw [show (58:Int).toNat=58 from rfl,h4];omega
 repeat' (first|intro _|refine cw ?_|refine cw2 ?_ ?_|(refine k_binOp .eql ?_;refine o1_eql_f rfl rfl hx ?_)|(refine k_unOp ?_;refine o1_neg64 rfl ?_)|(refine k_binOp .mul ?_;refine o1_umul (v:=285870213051353865#64) rfl rfl ?_)|(refine k_indexAddr ?_;(refine o1_indexAddr_arr rfl rfl h7 ?_;rw [h6]))|(refine k_load ?_;refine ox_load_any rfl hc ?_)|refine ow ?_|refine ow2 ?_ ?_|fail)
 refine rt_tmp () rfl rfl ?_ trivial ?_
 ·rw [h3]
 exact ent
theorem vec_First (H:List Hl) (v:VD) (h:RdV (stars H) v) (ht:TabF (stars H)) :
  Spec Tryz.prog 198 [Pv v] H (fun _:Unit=>True) (fun _=>I (firstV v.l)) (fun _=>H):=by
 refine spec_pure (res:=fun _=>[]) H Tryz.func198 rfl Tryz.ntmps198 (by kernel_rfl) rfl (fun W=>?_)
 have h4:=nw_4 h.ok.hi
 have hwl:=h.ok.words
 have hle:=h.w.le
 have hbg:=h.w.big
 repeat' (first|intro _|refine cw ?_|refine cw2 ?_ ?_|refine o1_peql rfl rfl ?_|(refine k_load ?_;refine ox_load_any rfl h.s ?_)|refine ow ?_|refine ow2 ?_ ?_|fail)
 refine st_loop (S:=Nat) (fun i=>[(10,.slice v.a (nw v.n) v.c),(11,I (nw v.n)),(12,I i)]) (fun i=>[.any (stars H)]) (fun i=>i≤nw v.n∧∀ j,j<64*i→at_ v.l j=false) (fun i=>nw v.n - i) 0 ⟨Nat.zero_le _,by omega⟩
  cv (Ent.refl _) ?_
 rintro i ⟨hi,hno⟩
 by_cases hlt:i<nw v.n
 ·have hw:(words v.l)[i]?=some (wordOf v.l i):=words_at? _ _ (by rw [h.ok.len];exact hlt)
  by_cases hz:wordOf v.l i=0#64
  ·have hz0:((wordOf v.l i).toNat:Int)=0:=by rw [hz];rfl
   repeat' (first|intro _|refine cw ?_|refine cw2 ?_ ?_|(refine k_indexAddr ?_;refine o1_ia i rfl rfl h.w hwl.symm rfl (by omega) ?_)|(refine k_load ?_;refine o1_load_av i _ rfl h.w hw ?_)|(refine k_binOp .neq ?_;refine o1_neq_f rfl rfl hz0 ?_)|refine ow ?_|refine ow2 ?_ ?_|fail)
   refine nx_again (i+1) ⟨by omega,?_⟩ (by omega) cv (Ent.refl _)
   intro j hj
   by_cases hj2:j<64*i
   ·exact hno j hj2
   ·exact word_eq_zero hz j (by omega) hj
  ·have hz0:((wordOf v.l i).toNat:Int)≠0:=fun e=>hz (BitVec.eq_of_toNat_eq (by simp;omega))
   obtain ⟨f1,f2⟩:=first_word hz hno
   repeat' (first|intro _|refine cw ?_|refine cw2 ?_ ?_|(refine k_indexAddr ?_;refine o1_ia i rfl rfl h.w hwl.symm rfl (by omega) ?_)|(refine k_load ?_;refine o1_load_av i _ rfl h.w hw ?_)|(refine k_binOp .neq ?_;refine o1_neq_t rfl rfl hz0 ?_)|(refine k_binOp .mul ?_;refine o1_mul rfl rfl (by omega) ?_)|(refine k_fn 215 ?_;refine o1_call (fun _=>bits_TZ64 _ (wordOf v.l i) hz ht.up) rfl (fun _ _=>?_))|refine ow ?_|refine ow2 ?_ ?_|fail)
   refine rt_tmp () rfl rfl ?_ trivial ?_
   ·show I _=I _
    congr 1
    omega
   exact ent
 ·have:i=nw v.n:=by omega
  subst this
  repeat' (first|intro _|refine cw ?_|refine cw2 ?_ ?_|refine ow ?_|refine ow2 ?_ ?_|fail)
  refine rt_tmp () rfl rfl ?_ trivial ?_
  ·rw [firstV_none (l:=v.l) (fun j hj=>hno j (by rw [h.ok.len] at hj;unfold nw;omega))]
  exact ent
def rtV6c_0:List Row:=[⟨some 5,[],[],none⟩,⟨some 6,[0],[0],none⟩,⟨some 7,[1],[0,1],none⟩,⟨some 8,[2],[0,1,2],none⟩,⟨some 9,[],[],none⟩,⟨some 10,[4],[4],none⟩,⟨some 11,[5],[4,5],none⟩,⟨some 12,[6],[4,5,6],none⟩,⟨some 13,[7],[4,5,6,7],none⟩,⟨some 14,[3,8],[0,1,2,3,4,5,6,7,8],none⟩,⟨some 15,[9],[0,1,2,3,4,5,6,7,8,9],none⟩,⟨some 2,[10,8,0,1,2,3,4,5,6,7,8,9,10],[0,1,2,3,4,5,6,7,8,9,10],none⟩]
def rtV6c_1:List Row:=[⟨some 6,[],[],none⟩,⟨some 7,[0],[0],none⟩,⟨some 8,[1],[0,1],none⟩,⟨some 9,[2],[0,1,2],some (2,false)⟩,⟨some 10,[3,2],[0,1,2,3],some (2,false)⟩,⟨some 11,[2,4],[0,1,2,3,4],none⟩,⟨some 12,[5,2],[0,1,2,3,4,5],none⟩,⟨some 13,[6],[0,1,2,3,4,5,6],some (6,false)⟩,⟨some 14,[7,6],[0,1,2,3,4,5,6,7],some (6,false)⟩,⟨some 15,[8,6],[0,1,2,3,4,5,6,7,8],some (6,false)⟩,⟨some 16,[9,6],[0,1,2,3,4,5,6,7,8,9],some (6,false)⟩,⟨some 17,[6],[0,1,2,3,4,5,6],some (6,false)⟩,⟨some 18,[11,6],[0,1,2,3,4,5,6,11],some (6,false)⟩,⟨some 19,[12,6],[0,1,2,3,4,5,6,11,12],some (6,false)⟩,⟨some 20,[13,6],[0,1,2,3,4,5,6,11,12,13],some (6,false)⟩,⟨some 21,[10,14,6],[0,1,2,3,4,5,6,7,8,9,10,11,12,13,14],some (6,false)⟩,⟨some 22,[6,15],[0,1,2,3,4,5,6,7,8,9,10,11,12,13,14,15],none⟩]
def rtV6c_2:List Row:=[⟨some 31,[],[],none⟩,⟨some 32,[0],[0],none⟩,⟨some 33,[1],[0,1],none⟩,⟨some 34,[2],[0,1,2],none⟩,⟨some 35,[],[],none⟩,⟨some 36,[3,4],[0,1,2,3,4],none⟩,⟨some 37,[5],[0,1,2,3,4,5],none⟩,⟨some 38,[],[],none⟩,⟨some 39,[7],[7],none⟩,⟨some 40,[8],[7,8],none⟩,⟨some 41,[9],[7,8,9],none⟩,⟨some 42,[],[],none⟩,⟨some 43,[10,11],[7,8,9,10,11],none⟩,⟨some 44,[12],[7,8,9,10,11,12],none⟩,⟨some 45,[6,13],[0,1,2,3,4,5,6,7,8,9,10,11,12,13],none⟩,⟨some 46,[3,4,0,1,2,3,4,5,6,7,8,9,10,11,12,13,14],[0,1,2,3,4,5,6,7,8,9,10,11,12,13,14],none⟩,⟨none,[15,14,0,1,2,3,4,5,6,7,8,9,10,11,12,13,14],[0,1,2,3,4,5,6,7,8,9,10,11,12,13,14,15],none⟩]
theorem clone_W (H:List Hl) (ad:Option Addr) (c m:Nat) (l:List (BitVec 64)) (h:Rs (stars H) W8 ad c l) (hm:m=l.length) (hb:m≤1000) :
  Spec Tryz.prog 234 [.slice ad m c] H (fun _:Option Addr × Nat=>True) (fun r => .slice r.1 m r.2) (fun r => .row 35 1 (.slice r.1 m r.2) m (l.map W8)::H):=by
 refine spec_pure (res:=fun r:Option Addr × Nat=>[.row 35 1 (.slice r.1 m r.2) m (l.map W8)]) H Tryz.func234 rfl Tryz.ntmps234 (by kernel_rfl) rfl (fun W=>?_)
 cases ad with
 | none =>
  have hl:l=[]:=by
   cases l with
   | nil=>rfl
   | cons a l=>obtain ⟨x,hx⟩:=h.sm (by simp);cases hx
  subst hl
  subst hm
  repeat' (first|intro _|refine cw ?_|refine cw2 ?_ ?_|refine ow ?_|refine ow2 ?_ ?_|fail)
  refine (rt_ent (ent_nil 35 W8) ?_)
  refine rt_tmp (none,0) rfl rfl rfl trivial ?_
  exact ent
 | some a =>
  repeat' (first|intro _|refine cw ?_|refine cw2 ?_ ?_|(refine k_buildSlice ?_;refine o1_lit_enc W8 ([]:List (BitVec 64)) rfl rfl rfl (fun _=>rfl) rfl rfl rfl (fun _=>?_))|(refine k_call ?_;refine ox_append_box (enc:=W8) (xs:=([]:List (BitVec 64))) rfl rfl rfl rfl (rx_any h) hm rfl (fun _=>rfl) (by omega) (by omega) (fun _ _=>?_))|refine ow ?_|refine ow2 ?_ ?_|fail)
  refine rt_tmp (_,_) rfl rfl (by simp only [Nat.zero_add];rfl) trivial ?_
  simp only [Nat.zero_add,List.nil_append]
  exact ent
theorem vec_Copy (H:List Hl) (v:VD) (h:RdV (stars H) v) :
  Spec Tryz.prog 214 [Pv v] H (fun _:Nat × Option Addr × Nat=>True) (fun r => .pointer (some ⟨r.1,0,none⟩)) (fun r=>vB r.1 v.n r.2.1 r.2.2::vR v.n r.2.1 r.2.2 v.l::H):=by
 refine spec_pure (res:=fun r:Nat × Option Addr × Nat=>[vB r.1 v.n r.2.1 r.2.2,vR v.n r.2.1 r.2.2 v.l]) H Tryz.func214 rfl Tryz.ntmps214 (by kernel_rfl) rfl (fun W=>?_)
 have h4:=nw_4 h.ok.hi
 have hwl:=h.ok.words
 have e1:=h.n
 have e2:=h.s
 repeat' (first|intro _|refine cw ?_|refine cw2 ?_ ?_|refine o1_peql rfl rfl ?_|refine ow ?_|refine ow2 ?_ ?_|fail)
 refine st_stages' [(0,_)] rtV6c_0 [8,10] [⟨[0,1,2,3,4,5,6,7],[],some 8⟩,⟨[9],[0,1,2,3],some 10⟩,⟨[11],[],none⟩] mixed cv (by kernel_rfl) (by kernel_rfl) ?_
 repeat' (first|intro _|refine sg ?_|(refine p_load ?_;refine po (by first|refine ox_load_any rfl e1 fz|refine ox_load_any rfl e2 fz|fail) ?_)|refine pw ?_|refine pdd ?_|(refine k_fn 234 ?_;refine o1_call (fun _=>clone_W _ v.a v.c (nw v.n) (words v.l) (Rs.up h.w) hwl.symm (by omega)) rfl (fun ⟨a2,c2⟩ _=>?_))|(refine k_box ?_;refine o1_box rfl rfl (fun b2=>?_))|refine ow ?_|fail)
 all_goals dsimp only [List.cons_append,List.nil_append]
 repeat' (first|intro _|refine cw ?_|refine cw2 ?_ ?_|refine ow ?_|refine ow2 ?_ ?_|fail)
 refine rt_tmp (b2,a2,c2) rfl rfl rfl trivial ?_
 exact ent
theorem vec_Xor (H:List Hl) (b n:Nat) (a:Option Addr) (c:Nat) (l:List Bool) (w:VD) (hl:l.length=n) (hn:n≤256) (hw:RdV (stars H) w) (hwn:w.n=n) :
  Spec Tryz.prog 216 [.pointer (some ⟨b,0,none⟩),Pv w] (vB b n a c::vR n a c l::H) (fun _:Unit=>True) (fun _ => .bool true) (fun _=>vB b n a c::vR n a c (xorV l w.l)::H):=by
 refine spec_fn (res:=fun _:Unit=>[vB b n a c,vR n a c (xorV l w.l)]) [vB b n a c,vR n a c l] H Tryz.func216 rfl Tryz.ntmps216 (by kernel_rfl) rfl (fun W=>?_)
 dsimp only [List.cons_append,List.nil_append]
 have h4:=nw_4 hn
 have e1:=hw.n
 have e2:=hw.s
 have e3:=hw.w
 have hwl:=hw.ok.words
 rw [hwn] at e1 e2 hwl
 have hll:l.length=w.l.length:=by rw [hl,hw.ok.len,hwn]
 obtain ⟨L0,hL0⟩:∃ L0,words l=L0:=⟨_,rfl⟩
 obtain ⟨L1,hL1⟩:∃ L1,words (xorV l w.l)=L1:=⟨_,rfl⟩
 obtain ⟨M,hM⟩:∃ M,words w.l=M:=⟨_,rfl⟩
 rw [hM] at e3 hwl
 have hl0:L0.length=nw n:=by rw [←hL0,words_len,hl]
 have hl1:L1.length=nw n:=by rw [←hL1,words_len,xorV_len hll,hl]
 have hz:L1.length=L0.length:=by omega
 have hx:L1=List.zipWith (· ^^^ ·) L0 M:=by rw [←hL1,←hL0,←hM];exact words_xor hll
 dsimp only [vR]
 rw [hL0]
 repeat' (first|intro _|refine cw ?_|refine cw2 ?_ ?_|refine ow ?_|refine ow2 ?_ ?_|fail)
 refine st_stages' [(0,_),(1,_)] rtV6c_1 [] [⟨[0,1,2,3,4,5,6,7,8,9,10,11,12,13,14,15,16],[],none⟩] mixed cv (by kernel_rfl) (by kernel_rfl) ?_
 repeat' (first|intro _|refine sg ?_|refine po (by first|refine o1_peql rfl rfl fz|fail) ?_|(refine p_load ?_;refine po (by first|refine ox_load_any rfl e1 fz|fail) ?_)|(refine p_binOp .neq ?_;refine po (by first|refine o1_neq_f rfl rfl rfl fz|fail) ?_)|refine pw ?_|refine pdd ?_|refine ow ?_|fail)
 all_goals dsimp only [List.cons_append,List.nil_append]
 repeat' (first|intro _|refine cw ?_|refine cw2 ?_ ?_|refine ow ?_|refine ow2 ?_ ?_|fail)
 refine st_loop (S:=Nat) (fun i=>[(0,.pointer (some ⟨b,0,none⟩)),(1,Pv w),(27,I (nw n)),(28,I i)]) (fun i=>[vB b n a c,.row 35 1 (.slice a (nw n) c) (nw n) ((partL L1 L0 i).map W8),.any (stars H)]) (fun i=>i≤nw n) (fun i=>nw n - i) 0 (Nat.zero_le _)
  cv (by show Ent _ [vB b n a c,.row 35 1 (.slice a (nw n) c) (nw n) ((partL L1 L0 0).map W8),.any (stars H)];rw [partL_zero];exact ent) ?_
 intro i hi
 by_cases hlt:i<nw n
 ·have hql:=partL_len hz i
  have hka:i<(partL L1 L0 i).length:=by omega
  have hpk:(partL L1 L0 i)[i]=L0[i]'(by omega):=partL_at hz (Nat.le_refl i) _
  have hset:(partL L1 L0 i).set i (L1[i]'(by omega))=partL L1 L0 (i+1):=partL_succ hz (by omega)
  have hmi:i<M.length:=by omega
  have hxi:L0[i]'(by omega) ^^^ M[i]=L1[i]'(by omega):=by subst hx;simp
  repeat' (first|intro _|refine cw ?_|refine cw2 ?_ ?_|refine ow ?_|refine ow2 ?_ ?_|fail)
  refine st_stages' [(0,_),(5,_),(1,_)] rtV6c_2 [16] [⟨[0,1,2,3,4,5,6,7,8,9,10,11,12,13,14,15],[],some 16⟩,⟨[],[],none⟩] mixed cv (by kernel_rfl) (by kernel_rfl) ?_
  repeat' (first|intro _|refine sg ?_|(refine p_load ?_;refine po (by first|refine ox_load_any rfl e2 fz|((refine o1_load_iah (enc:=W8) (ad:=a) (c:=c) (xs:=partL L1 L0 i) i rfl rx_row hka ?_;rw [hpk]);all_goals exact fz)|refine o1_load_ia i rfl e3 hmi fz|fail) ?_)|(refine p_indexAddr ?_;refine po (by first|refine o1_iah (enc:=W8) (ad:=a) (c:=c) (xs:=partL L1 L0 i) i rfl rfl rx_row (by omega) rfl hka fz|refine o1_ia i rfl rfl e3 hwl.symm rfl hmi fz|fail) ?_)|(refine p_binOp .xor ?_;refine po (by first|((refine o1_uxor rfl rfl ?_;rw [hxi]);all_goals exact fz)|fail) ?_)|refine pw ?_|refine pdd ?_|(refine k_store ?_;(refine ox_store_rowenc (ad:=a) (c:=c) W8 i rfl rfl hlt rfl ?_;rw [hset]))|refine ow ?_|fail)
  all_goals dsimp only [List.cons_append,List.nil_append]
  repeat' (first|intro _|refine cw ?_|refine cw2 ?_ ?_|refine ow ?_|refine ow2 ?_ ?_|fail)
  refine nx_again (i+1) (by omega) (by omega) cv ?_
  exact ent
 ·have:i=nw n:=by omega
  subst this
  rw [partL_full hz hl0.symm]
  repeat' (first|intro _|refine cw ?_|refine cw2 ?_ ?_|refine ow ?_|refine ow2 ?_ ?_|fail)
  refine rt_tmp () rfl rfl rfl trivial ?_
  rw [hL1]
  exact ent
def rtW1_0:List Row:=[⟨some 6,[],[],none⟩,⟨some 7,[0],[0],none⟩,⟨some 8,[1],[0,1],none⟩,⟨some 9,[2],[0,1,2],none⟩,⟨some 10,[],[],none⟩,⟨some 11,[4],[4],none⟩,⟨some 12,[5],[4,5],none⟩,⟨some 13,[6],[4,5,6],none⟩,⟨some 14,[3,7],[0,1,2,3,4,5,6,7],none⟩]
structure RD where
 b:Nat
 v:VD
 ad:Option Addr
 z:Nat
 cd:Nat
 d:List (BitVec 8)
abbrev rX (b:Nat) (p:Value) (ad:Option Addr) (z cd:Nat):Hl := .box b 280 [p,.slice ad z cd]
abbrev rD (ad:Option Addr) (z cd:Nat) (d:List (BitVec 8)):Hl := .row 5 1 (.slice ad z cd) z (d.map B)
structure RD.ok (r:RD):Prop where
 v:r.v.ok
 d:r.d.length=r.z
structure RdR (A:Hp→Prop) (r:RD):Prop where
 p:Cl A ⟨r.b,0,none⟩ (Pv r.v)
 s:Cl A ⟨r.b,1,none⟩ (.slice r.ad r.z r.cd)
 v:RdV A r.v
 d:Rs A B r.ad r.cd r.d
 z:r.d.length=r.z
theorem RdR.up {A:Hp→Prop} {r:RD} {H H':List Hl} (h:RdR A r) [s:SAny H A H']:RdR (stars H) r:=⟨cl_up h.p,cl_up h.s,h.v.up,h.d.up,h.z⟩
theorem RdR.own {b vb n:Nat} {va:Option Addr} {vc:Nat} {l:List Bool} {ad:Option Addr} {z cd:Nat} {d:List (BitVec 8)} {H H0 H1 H2 H3:List Hl} {m m2:Nat} [s0:SBox H b 280 [.pointer (some ⟨vb,0,none⟩),.slice ad z cd] H0] [s:SBox H vb 269 [I n,.slice va (nw n) vc] H1] [s2:SRow H va vc m 35 ((words l).map W8) H2] [s3:SRow H ad cd m2 5 (d.map B) H3]
  (hl:l.length=n) (hn:n≤256) (hd:d.length=z) (hh:Has H):RdR (stars H) ⟨b,⟨vb,n,va,vc,l⟩,ad,z,cd,d⟩:=⟨cl_box rfl,cl_box rfl,RdV.own hl hn hh,rx_row hh,hd⟩
section
variable {P:Program} {n:Nat} {H:List Hl} {e:Ev} {C:Value→List Hl→Prop} {ty:TypeId}
theorem o1_call_bra (b:Nat) (ad:Option Addr) (c:Nat) (A:Hp→Prop) {f:FuncId} {xs:List Operand} {args:List Value} {ats:Array TypeId} {X:Type} {good:X→Prop} {val:X→Value} {res:X→List Hl} {m:Nat} {T T2:TypeId} {cs ys:List Value} {H' H2 H3:List Hl} [s:SBox H b T cs H'] [s2:SRow H' ad c m T2 ys H2] [s3:SAny H2 A H3]
  (hs:Has (.box b T cs :: .row T2 1 (.slice ad m c) m ys :: .any A::H3)→Spec P f args (.box b T cs :: .row T2 1 (.slice ad m c) m ys :: .any A::H3) good val res) (hxs:opds e xs=some args) (h:∀ r,good r→C (val r) (res r)):O1 P (.call ⟨.value (.func f),xs.toArray,ats⟩) ty n e H C :=
 O1.ent (H2 := .box b T cs :: .row T2 1 (.slice ad m c) m ys :: .any A::H3) (fun h hh=>sep_mono (s.s.out h hh) (fun _ a=>a) (fun h' hh'=>sep_mono (s2.s.out h' hh') (fun _ a=>a) s3.s.out)) (o1_call hs hxs h)
theorem o1_call_to (H2:List Hl) {f:FuncId} {xs:List Operand} {args:List Value} {ats:Array TypeId} {X:Type} {good:X→Prop} {val:X→Value} {res:X→List Hl} (hE:∀ h,stars H h→stars H2 h) (hs:Has H2→Spec P f args H2 good val res) (hxs:opds e xs=some args) (h:∀ r,good r→C (val r) (res r)):O1 P (.call ⟨.value (.func f),xs.toArray,ats⟩) ty n e H C :=
 O1.ent hE (o1_call hs hxs h)
end
set_option maxHeartbeats 2000000 in
theorem row_xor (H:List Hl) (b vb n:Nat) (va:Option Addr) (vc:Nat) (l:List Bool) (ad:Option Addr) (z cd:Nat) (d:List (BitVec 8)) (q:RD) (hl:l.length=n) (hn:n≤256) (hd:d.length=z) (hz16:z≤16) (hq:RdR (stars H) q) (hqn:q.v.n=n) (hqz:q.z=z) :
  Spec Tryz.prog 199 [.pointer (some ⟨b,0,none⟩),.pointer (some ⟨q.b,0,none⟩)] (rX b (.pointer (some ⟨vb,0,none⟩)) ad z cd::vB vb n va vc::vR n va vc l::rD ad z cd d::H) (fun _:Unit=>True) (fun _ => .tuple #[]) (fun _=>rX b (.pointer (some ⟨vb,0,none⟩)) ad z cd::vB vb n va vc::vR n va vc (xorV l q.v.l)::rD ad z cd (xorL d q.d)::H):=by
 refine spec_fn (res:=fun _:Unit=>[rX b (.pointer (some ⟨vb,0,none⟩)) ad z cd,vB vb n va vc,vR n va vc (xorV l q.v.l),rD ad z cd (xorL d q.d)]) [rX b (.pointer (some ⟨vb,0,none⟩)) ad z cd,vB vb n va vc,vR n va vc l,rD ad z cd d] H Tryz.func199 rfl Tryz.ntmps199 (by kernel_rfl) rfl (fun W=>?_)
 dsimp only [List.cons_append,List.nil_append]
 have e1:=hq.p
 have e2:=hq.s
 have e3:=hq.d
 have hqd:=hq.z
 rw [hqz] at e2 hqd
 obtain ⟨Q,hQ⟩:∃ Q,q.d=Q:=⟨_,rfl⟩
 rw [hQ] at e3 hqd
 have hxl:=xorL_len d Q (by omega)
 obtain ⟨X,hX⟩:∃ X,xorL d Q=X:=⟨_,rfl⟩
 rw [hX] at hxl
 have hz:X.length=d.length:=hxl
 obtain ⟨L1,hL1⟩:∃ L1,xorV l q.v.l=L1:=⟨_,rfl⟩
 rw [hQ,hX,hL1]
 repeat' (first|intro _|refine cw ?_|refine cw2 ?_ ?_|refine ow ?_|refine ow2 ?_ ?_|fail)
 refine st_stages' [(0,_),(1,_)] rtW1_0 [8] [⟨[0,1,2,3,4,5,6,7],[],some 8⟩,⟨[],[],none⟩] mixed cv (by kernel_rfl) (by kernel_rfl) ?_
 repeat' (first|intro _|refine sg ?_|(refine p_load ?_;refine po (by first|refine ox_load_any rfl e1 fz|fail) ?_)|refine pw ?_|refine pdd ?_|(refine k_fn 216 ?_;(refine o1_call_br vb va vc (fun _=>vec_Xor _ vb n va vc l q.v hl hn (RdV.up hq.v) hqn) rfl (fun _ _=>?_);rw [hL1]))|refine ow ?_|fail)
 all_goals dsimp only [List.cons_append,List.nil_append]
 repeat' (first|intro _|refine cw ?_|refine cw2 ?_ ?_|(refine k_load ?_;refine ox_load_any rfl e2 ?_)|refine ow ?_|refine ow2 ?_ ?_|fail)
 refine st_loop (S:=Nat) (fun i=>[(0,.pointer (some ⟨b,0,none⟩)),(1,.pointer (some ⟨q.b,0,none⟩)),(18,.slice q.ad z q.cd),(19,I z),(20,I i)])
  (fun i=>[rX b (.pointer (some ⟨vb,0,none⟩)) ad z cd,vB vb n va vc,vR n va vc L1,rD ad z cd (partL X d i),.any (stars H)]) (fun i=>i≤z) (fun i=>z - i) 0 (Nat.zero_le _)
  cv (by show Ent _ [rX b (.pointer (some ⟨vb,0,none⟩)) ad z cd,vB vb n va vc,vR n va vc L1,rD ad z cd (partL X d 0),.any (stars H)];rw [partL_zero];exact ent) ?_
 intro i hi
 by_cases hlt:i<z
 ·have hql:=partL_len hz i
  have hka:i<(partL X d i).length:=by omega
  have hpk:(partL X d i)[i]=d[i]'(by omega):=partL_at hz (Nat.le_refl i) _
  have hset:(partL X d i).set i (X[i]'(by omega))=partL X d (i+1):=partL_succ hz (by omega)
  have hqi:i<Q.length:=by omega
  have hxi:d[i]'(by omega) ^^^ Q[i]=X[i]'(by omega):=by subst hX;simp [xorL]
  repeat' (first|intro _|refine cw ?_|refine cw2 ?_ ?_|(refine k_indexAddr ?_;first|refine o1_ia (ad:=q.ad) (c:=q.cd) i rfl rfl e3 hqd.symm rfl hqi ?_|refine o1_iah (enc:=B) (ad:=ad) (c:=cd) (xs:=partL X d i) i rfl rfl rx_row (by omega) rfl hka ?_)|(refine k_load ?_;first|refine o1_load_ia (ad:=q.ad) (c:=q.cd) i rfl e3 hqi ?_|(refine o1_load_iah (enc:=B) (ad:=ad) (c:=cd) (xs:=partL X d i) i rfl rx_row hka ?_;rw [hpk]))|(refine k_binOp .xor ?_;(refine o1_uxor rfl rfl ?_;rw [hxi]))|(refine k_store ?_;(refine ox_store_rowenc (ad:=ad) (c:=cd) B i rfl rfl hlt rfl ?_;rw [hset]))|refine ow ?_|refine ow2 ?_ ?_|fail)
  refine nx_again (i+1) (by omega) (by omega) cv ?_
  exact ent
 ·have:i=z:=by omega
  subst this
  rw [partL_full hz hd.symm]
  repeat' (first|intro _|refine cw ?_|refine cw2 ?_ ?_|refine ow ?_|refine ow2 ?_ ?_|fail)
  refine rt_none () rfl rfl trivial ?_
  exact ent
abbrev PO (o:Option RD):Value:=match o with
 | none => .pointer none
 | some r => .pointer (some ⟨r.b,0,none⟩)
def rowP (r:RD):List Hl:=[rX r.b (Pv r.v) r.ad r.z r.cd,vB r.v.b r.v.n r.v.a r.v.c,vR r.v.n r.v.a r.v.c r.v.l,rD r.ad r.z r.cd r.d]
def oP (o:Option RD):List Hl:=match o with
 | none=>[]
 | some r=>rowP r
def mrows (M:List (Option RD)):Hp→Prop:=stars (M.flatMap oP)
abbrev mB (b n z:Nat) (ar:Option Addr) (cr k:Nat):Hl := .box b 283 [I n,I z,.slice ar n cr,I k]
abbrev mR (n:Nat) (ar:Option Addr) (cr:Nat) (M:List (Option RD)):Hl := .row 277 1 (.slice ar n cr) n (M.map PO)
structure MOk (n z:Nat) (M:List (Option RD)):Prop where
 len:M.length=n
 n1:1≤n
 n2:n≤256
 z1:1≤z
 z2:z≤16
 ok:∀ r,some r∈M→r.ok∧r.v.n=n∧r.z=z
theorem mrows_none (n:Nat) {R:List Hl}:∀ h,stars R h→stars (.any (mrows (List.replicate n none))::R) h:=fun h hh=>⟨fun _=>none,h,fun _ => .inl rfl,fun _ _ e=>(by cases e),.refl _,by
 have:(List.replicate n none:List (Option RD)).flatMap oP=[]:=by
  rw [List.flatMap_eq_nil_iff]
  intro x hx
  rw [List.eq_of_mem_replicate hx]
  rfl
 show stars ((List.replicate n none:List (Option RD)).flatMap oP) _
 rw [this]
 trivial,hh⟩
theorem mrows_read {M:List (Option RD)} {r:RD} {H H':List Hl} [sa:SAny H (mrows M) H'] (hm:some r∈M) (hk:r.ok) (hh:Has H):RdR (stars H) r:=by
 have key:∀ w,sat w (stars H)→sat w (stars (M.flatMap oP)):=fun w hw=>sel_sat sa.s w hw
 have mem:∀ x∈rowP r,x∈M.flatMap oP:=fun x hx=>List.mem_flatMap.2 ⟨some r,hm,hx⟩
 obtain ⟨L0,s0⟩:=sel_mem (mem (rX r.b (Pv r.v) r.ad r.z r.cd) (by simp [rowP]))
 obtain ⟨L1,s1⟩:=sel_mem (mem (vB r.v.b r.v.n r.v.a r.v.c) (by simp [rowP]))
 obtain ⟨L2,s2⟩:=sel_mem (mem (vR r.v.n r.v.a r.v.c r.v.l) (by simp [rowP]))
 obtain ⟨L3,s3⟩:=sel_mem (mem (rD r.ad r.z r.cd r.d) (by simp [rowP]))
 obtain ⟨w,hw⟩:=hh
 exact ⟨⟨fun w hw=>by rw [(key w hw).cell s0 0];rfl⟩,⟨fun w hw=>by rw [(key w hw).cell s0 1];rfl⟩,⟨⟨fun w hw=>by rw [(key w hw).cell s1 0];rfl⟩,⟨fun w hw=>by rw [(key w hw).cell s1 1];rfl⟩,(Rs.of_row s2 w (key w hw)).unvals.mono key,hk.v⟩,(Rs.of_row s3 w (key w hw)).unvals.mono key,hk.d⟩
theorem mrows_take {M:List (Option RD)} {r:RD} {i:Nat} {R:List Hl} (hi:i<M.length) (hr:M[i]=some r):∀ h,stars (.any (mrows M)::R) h→stars (rowP r++(.any (mrows (M.set i none))::R)) h:=fun h hh=>by
 have e1:M.flatMap oP=(M.take i).flatMap oP++(rowP r++(M.drop (i+1)).flatMap oP):=by
  conv=>lhs;rw [←List.take_append_drop i M,List.drop_eq_getElem_cons hi,hr]
  rw [List.flatMap_append,List.flatMap_cons]
  rfl
 have e2:(M.set i none).flatMap oP=(M.take i).flatMap oP++(M.drop (i+1)).flatMap oP:=by
  rw [List.set_eq_take_append_cons_drop,if_pos hi,List.flatMap_append,List.flatMap_cons]
  rfl
 have h1:sep (sep (stars (rowP r)) (mrows (M.set i none))) (stars R) h:=sep_mono hh (fun h' hx=>by
  have hx:stars (M.flatMap oP) h':=hx
  rw [e1] at hx
  have:=stars_append _ _ _ (stars_swap hx)
  refine sep_mono this (fun _ a=>a) (fun h2 a=>?_)
  show stars ((M.set i none).flatMap oP) h2
  rw [e2]
  exact a) (fun _ a=>a)
 exact stars_append' _ _ _ (sep_assoc h1)
theorem mrows_put {M:List (Option RD)} {r:RD} {i:Nat} {R:List Hl} (hi:i<M.length) (hr:M[i]=none):∀ h,stars (rowP r++(.any (mrows M)::R)) h→stars (.any (mrows (M.set i (some r)))::R) h:=fun h hh=>by
 have e1:(M.set i (some r)).flatMap oP=(M.take i).flatMap oP++(rowP r++(M.drop (i+1)).flatMap oP):=by
  rw [List.set_eq_take_append_cons_drop,if_pos hi,List.flatMap_append,List.flatMap_cons]
  rfl
 have e2:M.flatMap oP=(M.take i).flatMap oP++(M.drop (i+1)).flatMap oP:=by
  conv=>lhs;rw [←List.take_append_drop i M,List.drop_eq_getElem_cons hi,hr]
  rw [List.flatMap_append,List.flatMap_cons]
  rfl
 have h1:=sep_assoc' (stars_append _ _ _ hh)
 refine sep_mono h1 (fun h' hx=>?_) (fun _ a=>a)
 show stars ((M.set i (some r)).flatMap oP) h'
 rw [e1]
 have h2:stars (rowP r++((M.take i).flatMap oP++(M.drop (i+1)).flatMap oP)) h':=stars_append' _ _ _ (sep_mono hx (fun _ a=>a) (fun h3 a=>by
  have a:stars (M.flatMap oP) h3:=a
  rw [e2] at a
  exact a))
 exact stars_swap h2
structure RdM (A:Hp→Prop) (b n z:Nat) (ar:Option Addr) (cr k:Nat) (M:List (Option RD)):Prop where
 fn:Cl A ⟨b,0,none⟩ (I n)
 fz:Cl A ⟨b,1,none⟩ (I z)
 fs:Cl A ⟨b,2,none⟩ (.slice ar n cr)
 fk:Cl A ⟨b,3,none⟩ (I k)
 fr:Rs A PO ar cr M
 fm:∀ r,some r∈M→RdR A r
 ok:MOk n z M
theorem RdM.up {A:Hp→Prop} {b n z:Nat} {ar:Option Addr} {cr k:Nat} {M:List (Option RD)} {H H':List Hl} (h:RdM A b n z ar cr k M) [s:SAny H A H']:RdM (stars H) b n z ar cr k M:=⟨cl_up h.fn,cl_up h.fz,cl_up h.fs,cl_up h.fk,h.fr.up,fun r hr=>(h.fm r hr).up,h.ok⟩
theorem RdM.own {b n z:Nat} {ar:Option Addr} {cr k:Nat} {M:List (Option RD)} {H H1 H2 H3:List Hl} {m:Nat} [s:SBox H b 283 [I n,I z,.slice ar n cr,I k] H1] [s2:SRow H ar cr m 277 (M.map PO) H2] [s3:SAny H (mrows M) H3] (hk:MOk n z M) (hh:Has H):RdM (stars H) b n z ar cr k M :=
 ⟨cl_box rfl,cl_box rfl,cl_box rfl,cl_box rfl,rx_row hh,fun r hr=>mrows_read (M:=M) hr (hk.ok r hr).1 hh,hk⟩
theorem elim_New (H:List Hl) (n z:Nat) (h1:1≤n) (h2:n≤256) (h3:1≤z) (h4:z≤16) :
  Spec Tryz.prog 196 [I n,I z] H (fun _:Nat × Option Addr × Nat=>True) (fun r => .pointer (some ⟨r.1,0,none⟩)) (fun r=>mB r.1 n z r.2.1 r.2.2 0::mR n r.2.1 r.2.2 (List.replicate n none) :: .any (mrows (List.replicate n none))::H):=by
 refine spec_pure (res:=fun r:Nat × Option Addr × Nat=>[mB r.1 n z r.2.1 r.2.2 0,mR n r.2.1 r.2.2 (List.replicate n none),.any (mrows (List.replicate n none))]) H Tryz.func196 rfl Tryz.ntmps196 (by kernel_rfl) rfl (fun W=>?_)
 repeat' (first|intro _|refine cw ?_|refine cw2 ?_ ?_|(refine k_makeSlice ?_;refine o1_maker (enc:=PO) none n rfl rfl rfl rfl rfl (by omega) (by omega) (fun b2=>?_))|(refine k_box ?_;refine o1_box rfl rfl (fun b1=>?_))|refine ow ?_|refine ow2 ?_ ?_|fail)
 refine rt_row (T:=277) (b:=b2) (m:=n) (cp:=n) (cs:=(List.replicate n none).map PO) (by simp) rfl (by omega) ?_
 refine rt_ent (mrows_none n) ?_
 refine rt_tmp (b1,some ⟨b2,0,none⟩,n) rfl rfl rfl trivial ?_
 exact ent
def rtW2_0:List Row:=[⟨some 10,[],[],none⟩,⟨some 11,[0],[0],none⟩,⟨some 12,[1],[0,1],none⟩,⟨some 13,[2],[0,1,2],some (2,false)⟩,⟨some 14,[3,2,2],[0,1,2,3],some (2,false)⟩,⟨some 15,[2],[0,1,2],some (2,false)⟩,⟨some 16,[5,2],[0,1,2,5],some (2,false)⟩,⟨some 17,[6,2],[0,1,2,5,6],some (2,false)⟩,⟨some 18,[7,2],[0,1,2,5,6,7],some (2,false)⟩,⟨some 19,[4,8,2],[0,1,2,3,4,5,6,7,8],some (2,false)⟩,⟨some 20,[2,9],[0,1,2,3,4,5,6,7,8,9],none⟩]
def rtW2_1:List Row:=[⟨some 21,[],[],none⟩,⟨some 22,[0],[0],none⟩,⟨some 23,[],[],none⟩,⟨some 24,[2],[2],none⟩,⟨some 25,[3],[2,3],none⟩,⟨some 26,[4],[2,3,4],none⟩,⟨some 27,[5,5],[2,3,4,5],none⟩,⟨some 28,[1,6],[0,1,2,3,4,5,6],none⟩,⟨some 29,[7],[0,1,2,3,4,5,6,7],none⟩,⟨some 7,[8,1,0,1,2,3,4,5,6,7,8],[0,1,2,3,4,5,6,7,8],none⟩]
def rtW2_5:List Row:=[⟨some 3,[],[],none⟩,⟨some 4,[0],[0],none⟩,⟨some 5,[1],[0,1],none⟩,⟨some 6,[2],[0,1,2],some (2,true)⟩,⟨some 7,[3,2,2],[0,1,2,3],some (2,true)⟩,⟨some 8,[2],[0,1,2],some (2,true)⟩,⟨some 9,[5,2],[0,1,2,5],some (2,true)⟩,⟨some 10,[6,2],[0,1,2,5,6],some (2,true)⟩,⟨some 11,[7,2],[0,1,2,5,6,7],some (2,true)⟩,⟨some 12,[4,8,2],[0,1,2,3,4,5,6,7,8],some (2,true)⟩,⟨some 13,[2,9],[0,1,2,3,4,5,6,7,8,9],none⟩,⟨some 2,[10,4,0,1,2,3,4,5,6,7,8,9,10],[0,1,2,3,4,5,6,7,8,9,10],none⟩]
abbrev LN:=List Bool × List (BitVec 8)
def vw (o:Option RD):Option LN:=o.map (fun r=>(r.v.l,r.d))
def addL (x y:LN):LN:=(xorV x.1 y.1,xorL x.2 y.2)
def stepR (x:LN) (i:Nat) (o:Option LN):LN:=match o with
 | some y=>if at_ x.1 i then addL x y else x
 | none=>x
def redT (M:List (Option LN)) (x:LN):Nat→LN
 | 0=>x
 | i+1=>stepR (redT M x i) i (M.getD i none)
def red (M:List (Option LN)) (x:LN):LN:=redT M x M.length
structure LOk (n z:Nat) (M:List (Option LN)):Prop where
 len:M.length=n
 ok:∀ y,some y∈M→y.1.length=n∧y.2.length=z
theorem MOk.vw {n z:Nat} {M:List (Option RD)} (h:MOk n z M):LOk n z (M.map vw):=⟨by rw [List.length_map,h.len],fun y hy=>by
 obtain ⟨o,ho,e⟩:=List.mem_map.1 hy
 cases o with
 | none=>cases e
 | some r =>
  obtain ⟨h1,h2,h3⟩:=h.ok r ho
  simp only [Go.Dp.vw,Option.map_some,Option.some.injEq] at e
  subst e
  exact ⟨by rw [h1.v.len,h2],by rw [h1.d,h3]⟩⟩
theorem addL_len {x y:LN} {n z:Nat} (h1:x.1.length=n) (h2:x.2.length=z) (h3:y.1.length=n) (h4:y.2.length=z):(addL x y).1.length=n∧(addL x y).2.length=z :=
 ⟨by rw [addL,xorV_len (by omega),h1],by rw [addL,xorL_len _ _ (by omega),h2]⟩
theorem stepR_len {x:LN} {o:Option LN} {i n z:Nat} (h1:x.1.length=n) (h2:x.2.length=z) (ho:∀ y,o=some y→y.1.length=n∧y.2.length=z):(stepR x i o).1.length=n∧(stepR x i o).2.length=z:=by
 cases o with
 | none=>exact ⟨h1,h2⟩
 | some y =>
  obtain ⟨h3,h4⟩:=ho y rfl
  simp only [stepR]
  split
  ·exact addL_len h1 h2 h3 h4
  ·exact ⟨h1,h2⟩
theorem redT_len {M:List (Option LN)} {x:LN} {n z:Nat} (h:LOk n z M) (h1:x.1.length=n) (h2:x.2.length=z):∀ i,(redT M x i).1.length=n∧(redT M x i).2.length=z
 | 0=>⟨h1,h2⟩
 | i+1=>by
  obtain ⟨h3,h4⟩:=redT_len h h1 h2 i
  refine stepR_len h3 h4 (fun y hy=>h.ok y ?_)
  rw [List.getD_eq_getElem?_getD] at hy
  by_cases hi:i<M.length
  ·rw [List.getElem?_eq_getElem hi] at hy
   rw [←hy]
   exact List.getElem_mem hi
  ·rw [List.getElem?_eq_none (by omega)] at hy
   cases hy
def padD (z:Nat) (dd:List (BitVec 8)):List (BitVec 8):=dd.take (List.replicate z 0#8).length++(List.replicate z 0#8).drop dd.length
theorem padD_len (z:Nat) (dd:List (BitVec 8)) (h:dd.length≤z):(padD z dd).length=z:=by simp [padD];omega
theorem padD_full {z:Nat} {dd:List (BitVec 8)} (h:dd.length=z):padD z dd=dd:=by
 subst h;simp [padD]
theorem padD_nil (z:Nat):padD z []=List.replicate z 0#8:=by simp [padD]
set_option maxHeartbeats 4000000 in
theorem elim_reduced (H:List Hl) (bm n z:Nat) (ar:Option Addr) (cr k:Nat) (M:List (Option RD)) (v:VD) (ad0:Option Addr) (m0 c0:Nat) (dd:List (BitVec 8)) (hM:RdM (stars H) bm n z ar cr k M) (hv:RdV (stars H) v) (hvn:v.n=n) (hd:Rs (stars H) B ad0 c0 dd) (hm0:m0=dd.length) (hdl:dd.length≤z) :
  Spec Tryz.prog 197 [.pointer (some ⟨bm,0,none⟩),Pv v,.slice ad0 m0 c0] H (fun r:RD=>r.v.n=n∧r.z=z∧(r.v.l,r.d)=red (M.map vw) (v.l,padD z dd)) (fun r => .pointer (some ⟨r.b,0,none⟩)) (fun r=>rX r.b (Pv r.v) r.ad r.z r.cd::vB r.v.b r.v.n r.v.a r.v.c::vR r.v.n r.v.a r.v.c r.v.l::rD r.ad r.z r.cd r.d::H):=by
 refine spec_pure (res:=fun r:RD=>[rX r.b (Pv r.v) r.ad r.z r.cd,vB r.v.b r.v.n r.v.a r.v.c,vR r.v.n r.v.a r.v.c r.v.l,rD r.ad r.z r.cd r.d]) H Tryz.func197 rfl Tryz.ntmps197 (by kernel_rfl) rfl (fun W=>?_)
 obtain ⟨l1,l2,l3,l4,l5,l6⟩:=hM.ok
 have m1:=hM.fn
 have m2:=hM.fz
 have m3:=hM.fs
 have mle:=hM.fr.le
 have mbg:=hM.fr.big
 have hvl:v.l.length=n:=by rw [hv.ok.len,hvn]
 have hLk:=hM.ok.vw
 have hpl:=padD_len z dd hdl
 obtain ⟨ML,hML⟩:∃ ML,M.map vw=ML:=⟨_,rfl⟩
 rw [hML] at hLk ⊢
 repeat' (first|intro _|refine cw ?_|refine cw2 ?_ ?_|refine ow ?_|refine ow2 ?_ ?_|fail)
 refine st_stages' [(0,_),(1,_)] rtW2_0 [4] [⟨[0,1,2,3,5,6,7,8],[],some 4⟩,⟨[9,10],[5,6,7,8],none⟩] mixed cv (by kernel_rfl) (by kernel_rfl) ?_
 repeat' (first|intro _|refine sg ?_|refine po (by first|refine o1_peql rfl rfl fz|fail) ?_|(refine p_load ?_;refine po (by first|refine ox_load_any rfl m1 fz|fail) ?_)|(refine p_binOp .neq ?_;refine po (by first|refine o1_neq_f rfl rfl (by omega) fz|fail) ?_)|refine pw ?_|refine pdd ?_|refine o1_peql rfl rfl ?_|(refine k_fn 142 ?_;refine o1_call (fun _=>vec_Len _ v (cl_up hv.n)) rfl (fun _ _=>?_))|refine ow ?_|fail)
 all_goals dsimp only [List.cons_append,List.nil_append]
 repeat' (first|intro _|refine cw ?_|refine cw2 ?_ ?_|refine ow ?_|refine ow2 ?_ ?_|fail)
 refine st_via (X:=Nat × Option Addr × Nat × Nat × Nat) (fun x=>[(0,.pointer (some ⟨bm,0,none⟩)),(2,.slice ad0 m0 c0),(7,.pointer (some ⟨x.2.2.2.2,0,none⟩))]) (fun x=>[rX x.2.2.2.2 (.pointer (some ⟨x.1,0,none⟩)) (some ⟨x.2.2.2.1,0,none⟩) z z,vB x.1 n x.2.1 x.2.2.1,vR n x.2.1 x.2.2.1 v.l,.box x.2.2.2.1 5 ((List.replicate z 0#8).map B),.any (stars H)]) ?restS ?walkS
 case walkS =>
  intro via
  refine st_tree' [(1,_),(0,_)] rtW2_1 [1,6,8] (.alt [0,2,3,4,5] [] 1 (.step [] [2,3,4,5] 6 (.step [7] [] 8 (.fin [9] []))) 6 (.step [] [0] 1 (.step [7] [] 8 (.fin [9] [])))) mixed cv (by kernel_rfl) (by kernel_rfl) ?_
  repeat' (first|intro _|refine sg ?_|(refine p_load ?_;refine po (by first|refine ox_load_any rfl m2 fz|fail) ?_)|refine pw ?_|refine pdd ?_|(refine k_fn 214 ?_;(refine o1_call (fun _=>vec_Copy _ v hv.up) rfl (fun ⟨b20,a20,c20⟩ _=>?_);dsimp only;rw [hvn]))|(refine k_makeSlice ?_;refine o1_maker (enc:=B) 0#8 z rfl rfl rfl rfl rfl (by omega) (by omega) (fun b27=>?_))|(refine k_box ?_;refine o1_box rfl rfl (fun b29=>?_))|refine ow ?_|refine And.intro ?_ ?_|fail)
  all_goals dsimp only [List.cons_append,List.nil_append]
  all_goals exact via (_,_,_,_,_) _ _ cv ent
 case restS =>
  rintro ⟨vb,va,vc,bd,b⟩
  dsimp only
  repeat' (first|intro _|refine cw ?_|refine cw2 ?_ ?_|(refine k_call ?_;refine ox_copy (b:=bd) (xs:=List.replicate z 0#8) (ys:=dd) rfl rfl (by simp) (rx_any hd) hm0 (fun _=>rfl) ?_)|(refine k_load ?_;refine ox_load_any rfl m3 ?_)|refine ow ?_|refine ow2 ?_ ?_|fail)
  have hpd:dd.take (List.replicate z 0#8).length++(List.replicate z 0#8).drop dd.length=padD z dd:=rfl
  rw [hpd]
  refine st_row (T:=5) (b:=bd) (m:=z) (cp:=z) (cs:=(padD z dd).map B) (by rw [List.length_map,hpl]) rfl (by omega) ?_
  refine st_loop (S:=Nat) (fun i=>[(7,.pointer (some ⟨b,0,none⟩)),(39,.slice ar n cr),(40,I n),(41,I i)])
   (fun i=>[rX b (.pointer (some ⟨vb,0,none⟩)) (some ⟨bd,0,none⟩) z z,vB vb n va vc,vR n va vc (redT ML (v.l,padD z dd) i).1,rD (some ⟨bd,0,none⟩) z z (redT ML (v.l,padD z dd) i).2,.any (stars H)]) (fun i=>i≤n) (fun i=>n - i) 0 (Nat.zero_le _)
   cv ent ?_
  intro i hi
  obtain ⟨hxl,hxd⟩:=redT_len hLk (x:=(v.l,padD z dd)) hvl hpl i
  by_cases hlt:i<n
  ·have hiM:i<M.length:=by omega
   have hnx:redT ML (v.l,padD z dd) (i+1)=stepR (redT ML (v.l,padD z dd) i) i (vw M[i]):=by
    rw [redT]
    congr 1
    subst hML
    simp [List.getD_eq_getElem?_getD,hiM]
   obtain ⟨⟨xl,xd⟩,hX⟩:∃ X,redT ML (v.l,padD z dd) i=X:=⟨_,rfl⟩
   rw [hX] at hxl hxd hnx ⊢
   dsimp only at hxl hxd ⊢
   cases hMi:M[i] with
   | none =>
    rw [hMi] at hnx
    have hnx:redT ML (v.l,padD z dd) (i+1)=(xl,xd):=hnx
    repeat' (first|intro _|refine cw ?_|refine cw2 ?_ ?_|(refine k_indexAddr ?_;refine o1_ia (ad:=ar) (c:=cr) i rfl rfl hM.fr l1.symm rfl hiM ?_)|(refine k_load ?_;(refine o1_load_ia (ad:=ar) (c:=cr) i rfl hM.fr hiM ?_;rw [hMi]))|refine o1_pneq rfl rfl ?_|refine ow ?_|refine ow2 ?_ ?_|fail)
    refine nx_again (i+1) (by omega) (by omega) cv ?_
    rw [hnx]
    exact ent
   | some q =>
    rw [hMi] at hnx
    have hqm:some q∈M:=hMi ▸ List.getElem_mem hiM
    have hq:=hM.fm q hqm
    obtain ⟨hq1,hq2,hq3⟩:=l6 q hqm
    cases hat:at_ xl i
    ·have hnx:redT ML (v.l,padD z dd) (i+1)=(xl,xd):=by
      rw [hnx]
      show (if at_ xl i=true then _ else (xl,xd))=_
      rw [hat];rfl
     repeat' (first|intro _|refine cw ?_|refine cw2 ?_ ?_|(refine k_indexAddr ?_;refine o1_ia (ad:=ar) (c:=cr) i rfl rfl hM.fr l1.symm rfl hiM ?_)|(refine k_load ?_;(refine o1_load_ia (ad:=ar) (c:=cr) i rfl hM.fr hiM ?_;rw [hMi]))|refine o1_pneq rfl rfl ?_|(refine k_fn 143 ?_;refine o1_call (fun hh=>(vec_Has _ ⟨vb,n,va,vc,xl⟩ i (RdV.own hxl l3 hh)).bv (b:=false) (by rw [hasV_nat,hat])) rfl (fun _ _=>?_))|refine ow ?_|refine ow2 ?_ ?_|fail)
     refine nx_again (i+1) (by omega) (by omega) cv ?_
     rw [hnx]
     exact ent
    ·have hnx:redT ML (v.l,padD z dd) (i+1)=(xorV xl q.v.l,xorL xd q.d):=by
      rw [hnx]
      show (if at_ xl i=true then addL (xl,xd) (q.v.l,q.d) else (xl,xd))=_
      rw [hat];rfl
     repeat' (first|intro _|refine cw ?_|refine cw2 ?_ ?_|(refine k_indexAddr ?_;refine o1_ia (ad:=ar) (c:=cr) i rfl rfl hM.fr l1.symm rfl hiM ?_)|(refine k_load ?_;(refine o1_load_ia (ad:=ar) (c:=cr) i rfl hM.fr hiM ?_;rw [hMi]))|refine o1_pneq rfl rfl ?_|(refine k_fn 143 ?_;refine o1_call (fun hh=>(vec_Has _ ⟨vb,n,va,vc,xl⟩ i (RdV.own hxl l3 hh)).bv (b:=true) (by rw [hasV_nat,hat])) rfl (fun _ _=>?_))|(refine k_fn 199 ?_;refine o1_call_to [rX b (.pointer (some ⟨vb,0,none⟩)) (some ⟨bd,0,none⟩) z z,vB vb n va vc,vR n va vc xl,rD (some ⟨bd,0,none⟩) z z xd,.any (stars H)] (Ent.out ent) (fun _=>row_xor _ b vb n va vc xl (some ⟨bd,0,none⟩) z z xd q hxl l3 hxd l5 (RdR.up hq) hq2 hq3) rfl (fun _ _=>?_))|refine ow ?_|refine ow2 ?_ ?_|fail)
     refine nx_again (i+1) (by omega) (by omega) cv ?_
     rw [hnx]
     exact ent
  ·have:i=n:=by omega
   subst this
   repeat' (first|intro _|refine cw ?_|refine cw2 ?_ ?_|refine ow ?_|refine ow2 ?_ ?_|fail)
   refine rt_tmp (⟨b,⟨vb,i,va,vc,(redT ML (v.l,padD z dd) i).1⟩,some ⟨bd,0,none⟩,z,z,(redT ML (v.l,padD z dd) i).2⟩:RD) rfl rfl rfl ⟨rfl,rfl,?_⟩ ?_
   ·show ((redT ML (v.l,padD z dd) i).1,(redT ML (v.l,padD z dd) i).2)=red ML (v.l,padD z dd)
    rw [red,hLk.len]
   exact ent
theorem xf_load64:XFn Tryz.prog 190 (Extern.Atomic.loadT (.int .i64)):=⟨by kernel_rfl,by kernel_rfl⟩
theorem xf_add64:XFn Tryz.prog 191 (Extern.Atomic.update (Op.intArith .add) .i64 true):=⟨by kernel_rfl,by kernel_rfl⟩
theorem o1_xload_any {P:Program} {n:Nat} {H:List Hl} {e:Ev} {C:Value→List Hl→Prop} {ty:TypeId} {f:FuncId} {xs:List Operand} {ats:Array TypeId} {a0:Addr} {H':List Hl} {k:IntKind} {p:Int} {A:Hp→Prop} (x:XFn P f (Extern.Atomic.loadT (.int k))) (hxs:opds e xs=some [.pointer (some a0)]) (hc:Cl A a0 (.int k p)) [s:SAny H A H'] (h:C (.int k p) H):O1 P (.call ⟨.value (.func f),xs.toArray,ats⟩) ty n e H C :=
 o1_xval _ hxs (fun a w ho=>by
  obtain ⟨fn,h1,h2,h3,h4,h5⟩:=x.of
  exact run_call_load h1 h2 h3 h4 k h5 (hc.cell w (sel_sat s.s w ho.sat))) h
theorem at_Load64 (H:List Hl) (b i:Nat) (k:Int) (h:Cl (stars H) ⟨b,i,none⟩ (I k)) :
  Spec Tryz.prog 144 [.pointer (some ⟨b,i,none⟩)] H (fun _:Unit=>True) (fun _=>I k) (fun _=>H):=by
 refine spec_pure (res:=fun _=>[]) H Tryz.func144 rfl Tryz.ntmps144 (by kernel_rfl) rfl (fun W=>?_)
 repeat' (first|intro _|refine cw ?_|refine cw2 ?_ ?_|refine o1_xload_any xf_load64 rfl h ?_|refine ow ?_|refine ow2 ?_ ?_|fail)
 refine rt_tmp () rfl rfl rfl trivial ?_
 exact ent
theorem at_Add64 (H:List Hl) (b n z:Nat) (ar:Option Addr) (cr k:Nat) (hk:k≤1000) :
  Spec Tryz.prog 145 [.pointer (some ⟨b,3,none⟩),I 1] (mB b n z ar cr k::H) (fun _:Unit=>True) (fun _=>I (k+1:Nat)) (fun _=>mB b n z ar cr (k+1)::H):=by
 refine spec_fn (res:=fun _:Unit=>[mB b n z ar cr (k+1)]) [mB b n z ar cr k] H Tryz.func145 rfl Tryz.ntmps145 (by kernel_rfl) rfl (fun W=>?_)
 dsimp only [List.cons_append,List.nil_append]
 repeat' (first|intro _|refine cw ?_|refine cw2 ?_ ?_|refine o1_xadd xf_add64 rfl (b:=b) (i:=3) (r:=((k+1:Nat):Int)) rfl (by rw [wrap_in (by omega) (by omega)];push_cast;rfl) ?_|refine ow ?_|refine ow2 ?_ ?_|fail)
 refine rt_tmp () rfl rfl rfl trivial ?_
 exact ent
theorem elim_Rank (H:List Hl) (bm k:Nat) (h:Cl (stars H) ⟨bm,3,none⟩ (I k)) :
  Spec Tryz.prog 169 [.pointer (some ⟨bm,0,none⟩)] H (fun _:Unit=>True) (fun _=>I k) (fun _=>H):=by
 refine spec_pure (res:=fun _=>[]) H Tryz.func169 rfl Tryz.ntmps169 (by kernel_rfl) rfl (fun W=>?_)
 repeat' (first|intro _|refine cw ?_|refine cw2 ?_ ?_|refine o1_peql rfl rfl ?_|(refine k_fn 144 ?_;refine o1_call (fun _=>at_Load64 _ bm 3 k (cl_up h)) rfl (fun _ _=>?_))|refine ow ?_|refine ow2 ?_ ?_|fail)
 refine rt_tmp () rfl rfl rfl trivial ?_
 exact ent
theorem elim_Full (H:List Hl) (bm n k:Nat) (h:Cl (stars H) ⟨bm,3,none⟩ (I k)) (h0:Cl (stars H) ⟨bm,0,none⟩ (I n)) :
  Spec Tryz.prog 217 [.pointer (some ⟨bm,0,none⟩)] H (fun _:Unit=>True) (fun _ => .bool (decide ((k:Int)=n))) (fun _=>H):=by
 refine spec_pure (res:=fun _=>[]) H Tryz.func217 rfl Tryz.ntmps217 (by kernel_rfl) rfl (fun W=>?_)
 repeat' (first|intro _|refine cw ?_|refine cw2 ?_ ?_|refine ow ?_|refine ow2 ?_ ?_|fail)
 refine st_stages' [(0,_)] rtW2_5 [4] [⟨[0,1,2,3,5,6,7,8],[],some 4⟩,⟨[9,10,11],[5,6,7,8],none⟩] mixed cv (by kernel_rfl) (by kernel_rfl) ?_
 repeat' (first|intro _|refine sg ?_|refine po (by first|refine o1_pneq rfl rfl fz|fail) ?_|(refine p_load ?_;refine po (by first|refine ox_load_any rfl h0 fz|fail) ?_)|(refine p_binOp .eql ?_;refine po (by first|refine o1_eql_d rfl rfl fz|fail) ?_)|refine pw ?_|refine pdd ?_|refine o1_pneq rfl rfl ?_|(refine k_fn 169 ?_;refine o1_call (fun _=>elim_Rank _ bm k (cl_up h)) rfl (fun _ _=>?_))|refine ow ?_|fail)
 all_goals dsimp only [List.cons_append,List.nil_append]
 repeat' (first|intro _|refine cw ?_|refine cw2 ?_ ?_|refine ow ?_|refine ow2 ?_ ?_|fail)
 refine rt_tmp () rfl rfl rfl trivial ?_
 exact ent
theorem o1_load_hc {P:Program} {n:Nat} {H:List Hl} {e:Ev} {C:Value→List Hl→Prop} {ty T:TypeId} {x:Operand} [TOne P T] {a:Addr} {v:Value} (hx:opd e x=some (.pointer (some a))) (hc:Has H→Cl (stars H) a v) (h:C v H):O1 P (.load T x) ty n e H C :=
 ⟨fun a w ho o h1 h2 K Q hK=>(o1_load_h hx (hc ho.has) h).out a w ho o h1 h2 K Q hK⟩
def clrL (a:Nat) (x:LN) (o:Option LN):Option LN:=o.map (fun y=>if at_ y.1 a then addL y x else y)
def addM (M:List (Option LN)) (a:Nat) (x:LN):List (Option LN):=(M.map (clrL a x)).set a (some x)
theorem map_get {α β:Type} {f:α→β} {A B:List α} (h:A.map f=B.map f) {i:Nat} (h1:i<A.length) (h2:i<B.length):f A[i]=f B[i]:=by
 have:=congrArg (·[i]?) h
 simpa [h1,h2] using this
theorem map_set_same {α β:Type} {f:α→β} {A:List α} {B:List β} {i:Nat} {y:α} (h:A.map f=B) (h1:i<A.length) (hy:f y=f A[i]):(A.set i y).map f=B:=by
 subst h
 rw [List.map_set,hy]
 apply List.ext_getElem
 ·simp
 ·intro j h2 h3
  rw [List.getElem_set]
  split
  ·rename_i e
   subst e
   simp
  ·rfl
set_option maxHeartbeats 8000000 in
theorem elim_Add (H:List Hl) (bm n z:Nat) (ar:Option Addr) (cr k:Nat) (M:List (Option RD)) (v:VD) (ad0:Option Addr) (m0 c0:Nat) (dd:List (BitVec 8)) (ML:List (Option LN)) (x:LN) (a:Nat) (hk:MOk n z M) (hML:M.map vw=ML) (hv:RdV (stars H) v) (hvn:v.n=n) (hd:Rs (stars H) B ad0 c0 dd) (hm0:m0=dd.length) (hdl:dd.length=z) (hx:red ML (v.l,dd)=x) (hfa:firstV x.1=a) (hfree:ML[a]?=some none) (hk1:k≤1000) (ht:TabF (stars H)) :
  Spec Tryz.prog 168 [.pointer (some ⟨bm,0,none⟩),Pv v,.slice ad0 m0 c0] (mB bm n z ar cr k::mR n ar cr M :: .any (mrows M)::H) (fun M':List (Option RD)=>M'.map vw=addM ML a x∧MOk n z M') (fun _ => .bool true) (fun M'=>mB bm n z ar cr (k+1)::mR n ar cr M' :: .any (mrows M')::H):=by
 refine spec_fn (res:=fun M':List (Option RD)=>[mB bm n z ar cr (k+1),mR n ar cr M',.any (mrows M')]) [mB bm n z ar cr k,mR n ar cr M,.any (mrows M)] H Tryz.func168 rfl Tryz.ntmps168 (by kernel_rfl) rfl (fun W=>?_)
 dsimp only [List.cons_append,List.nil_append]
 obtain ⟨l1,l2,l3,l4,l5,l6⟩:=hk
 have hk:MOk n z M:=⟨l1,l2,l3,l4,l5,l6⟩
 have hLk:=hk.vw
 have hvl:v.l.length=n:=by rw [hv.ok.len,hvn]
 rw [hML] at hLk
 obtain ⟨hxl,hxd⟩:x.1.length=n∧x.2.length=z:=by rw [←hx];exact redT_len hLk hvl hdl _
 have hax:a<x.1.length:=by
  unfold firstV at hfa
  split at hfa <;> omega
 have han:a<n:=by omega
 have haM:a<M.length:=by omega
 have hMLl:ML.length=n:=hLk.len
 have hMa:M[a]=none:=by
  have h1:=hfree
  rw [←hML,List.getElem?_map,List.getElem?_eq_getElem haM] at h1
  cases hq:M[a] with
  | none=>rfl
  | some q=>rw [hq] at h1;cases h1
 have hpadf:=padD_full hdl
 obtain ⟨xl,xd⟩:=x
 dsimp only at hxl hxd hfa hax
 repeat' (first|intro _|refine cw ?_|refine cw2 ?_ ?_|refine o1_peql rfl rfl ?_|(refine k_binOp .neq ?_;refine o1_neq_f rfl rfl (by omega) ?_)|(refine k_fn 197 ?_;(refine o1_call (fun hh=>elim_reduced _ bm n z ar cr k M v ad0 m0 c0 dd (RdM.own hk hh) hv.up hvn hd.up hm0 (by omega)) rfl (fun ⟨b7,⟨vb,vn,va,vc,vl⟩,ad7,z7,cd7,d7⟩ hr=>?_);dsimp only at hr ⊢;obtain ⟨rfl,rfl,hr3⟩:=hr;rw [hML,hpadf,hx] at hr3;obtain ⟨rfl,rfl⟩:=Prod.mk.inj hr3))|(refine k_fn 198 ?_;refine o1_call (fun hh=>(vec_First _ ⟨vb,vn,va,vc,vl⟩ (RdV.own hxl l3 hh) ht.up).vv (b:=I a) (by rw [hfa])) rfl (fun _ _=>?_))|refine ow ?_|refine ow2 ?_ ?_|fail)
 refine st_loop (S:=Nat × List (Option RD)) (fun q=>[(0,.pointer (some ⟨bm,0,none⟩)),(7,.pointer (some ⟨b7,0,none⟩)),(8,I a),(44,.slice ar vn cr),(45,I vn),(46,I q.1)])
  (fun q=>[mB bm vn z7 ar cr k,mR vn ar cr M,.any (mrows q.2),rX b7 (.pointer (some ⟨vb,0,none⟩)) ad7 z7 cd7,vB vb vn va vc,vR vn va vc vl,rD ad7 z7 cd7 d7,.any (stars H)])
  (fun q=>q.1≤vn∧q.2.map PO=M.map PO∧q.2.map vw=partL (ML.map (clrL a (vl,d7))) ML q.1∧MOk vn z7 q.2) (fun q=>vn - q.1) (0,M) ⟨Nat.zero_le _,rfl,by rw [partL_zero,hML],hk⟩
  cv ent ?_
 rintro ⟨j,Q⟩ ⟨hj,hQp,hQv,hQk⟩
 dsimp only at hj hQp hQv hQk ⊢
 have hQl:=hQk.len
 have hcl:(ML.map (clrL a (vl,d7))).length=ML.length:=by rw [List.length_map]
 by_cases hjt:j<vn
 ·have hjM:j<M.length:=by omega
  have hjQ:j<Q.length:=by omega
  have hjL:j<ML.length:=by omega
  have hPO:PO M[j]=PO Q[j]:=(map_get hQp hjQ hjM).symm
  have hvj:vw Q[j]=ML[j]:=by
   have h1:=congrArg (·[j]?) hQv
   simp only [List.getElem?_map,List.getElem?_eq_getElem hjQ,Option.map_some] at h1
   rw [List.getElem?_eq_getElem (by rw [partL_len hcl];exact hjL),partL_at hcl (Nat.le_refl j)] at h1
   exact Option.some.inj h1
  have hnext:partL (ML.map (clrL a (vl,d7))) ML (j+1)=(partL (ML.map (clrL a (vl,d7))) ML j).set j (clrL a (vl,d7) (vw Q[j])):=by
   rw [←partL_succ hcl (by omega),hvj]
   simp
  cases hq0:Q[j] with
  | none =>
   rw [hq0] at hPO hnext hvj
   have hn2:partL (ML.map (clrL a (vl,d7))) ML (j+1)=Q.map vw:=by
    rw [hnext,←hQv]
    show (Q.map vw).set j none=_
    have e:(Q.map vw)[j]'(by simpa using hjQ)=none:=by simp [hq0,vw]
    rw [←e,List.set_getElem_self]
   repeat' (first|intro _|refine cw ?_|refine cw2 ?_ ?_|(refine k_indexAddr ?_;refine o1_iah (enc:=PO) (ad:=ar) (c:=cr) (xs:=M) j rfl rfl rx_row l1.symm rfl hjM ?_)|(refine k_load ?_;(refine o1_load_iah (enc:=PO) (ad:=ar) (c:=cr) (xs:=M) j rfl rx_row hjM ?_;rw [hPO]))|refine o1_pneq rfl rfl ?_|refine ow ?_|refine ow2 ?_ ?_|fail)
   refine nx_again (j+1,Q) ⟨?_,hQp,hn2.symm,hQk⟩ ?_ cv ?_
   ·show j+1≤vn;omega
   ·show vn - (j+1)<vn - j;omega
   exact ent
  | some q =>
   rw [hq0] at hPO hnext hvj
   have hqm:some q∈Q:=hq0 ▸ List.getElem_mem hjQ
   obtain ⟨hq1,hq2,hq3⟩:=hQk.ok q hqm
   obtain ⟨qb,⟨qvb,qvn,qva,qvc,ql⟩,qad,qz,qcd,qd⟩:=q
   dsimp only at hq2 hq3
   subst hq2 hq3
   have hqll:ql.length=qvn:=hq1.v.len
   have hqdl:qd.length=qz:=hq1.d
   cases hat:at_ ql a
   ·have hn2:partL (ML.map (clrL a (vl,d7))) ML (j+1)=Q.map vw:=by
     rw [hnext,←hQv]
     have e:clrL a (vl,d7) (vw (some ⟨qb,⟨qvb,qvn,qva,qvc,ql⟩,qad,qz,qcd,qd⟩))=(Q.map vw)[j]'(by simpa using hjQ):=by
      simp only [List.getElem_map,hq0,vw,clrL,Option.map_some]
      rw [hat]
      rfl
     rw [e,List.set_getElem_self]
    repeat' (first|intro _|refine cw ?_|refine cw2 ?_ ?_|(refine k_indexAddr ?_;refine o1_iah (enc:=PO) (ad:=ar) (c:=cr) (xs:=M) j rfl rfl rx_row l1.symm rfl hjM ?_)|(refine k_load ?_;first|(refine o1_load_iah (enc:=PO) (ad:=ar) (c:=cr) (xs:=M) j rfl rx_row hjM ?_;rw [hPO])|refine o1_load_hc rfl (fun hh=>(mrows_read (M:=Q) hqm hq1 hh).p) ?_)|refine o1_pneq rfl rfl ?_|(refine k_fn 143 ?_;refine o1_call (fun hh=>(vec_Has _ ⟨qvb,qvn,qva,qvc,ql⟩ a (mrows_read (M:=Q) hqm hq1 hh).v).bv (b:=false) (by rw [hasV_nat,hat])) rfl (fun _ _=>?_))|refine ow ?_|refine ow2 ?_ ?_|fail)
    refine nx_again (j+1,Q) ⟨?_,hQp,hn2.symm,hQk⟩ ?_ cv ?_
    ·show j+1≤qvn;omega
    ·show qvn - (j+1)<qvn - j;omega
    exact ent
   ·obtain ⟨q',hq'⟩:∃ q':RD,q'=⟨qb,⟨qvb,qvn,qva,qvc,xorV ql vl⟩,qad,qz,qcd,xorL qd d7⟩:=⟨_,rfl⟩
    have hn2:partL (ML.map (clrL a (vl,d7))) ML (j+1)=(Q.set j (some q')).map vw:=by
     rw [hnext,List.map_set,←hQv,hq']
     simp only [vw,clrL,Option.map_some]
     rw [hat]
     rfl
    have hPs:(Q.set j (some q')).map PO=M.map PO:=map_set_same hQp hjQ (by rw [hq0,hq'])
    have hQk':MOk qvn qz (Q.set j (some q')):=⟨by rw [List.length_set];exact hQl,l2,l3,l4,l5,fun r hr=>by
     rcases List.mem_or_eq_of_mem_set hr with h|h
     ·exact hQk.ok r h
     ·injection h with h
      subst h
      rw [hq']
      exact ⟨⟨⟨by show (xorV ql vl).length=qvn;rw [xorV_len (by omega)];exact hqll,l3⟩,by show (xorL qd d7).length=qz;rw [xorL_len _ _ (by omega)];exact hqdl⟩,rfl,rfl⟩⟩
    repeat' (first|intro _|refine cw ?_|refine cw2 ?_ ?_|(refine k_indexAddr ?_;refine o1_iah (enc:=PO) (ad:=ar) (c:=cr) (xs:=M) j rfl rfl rx_row l1.symm rfl hjM ?_)|(refine k_load ?_;first|(refine o1_load_iah (enc:=PO) (ad:=ar) (c:=cr) (xs:=M) j rfl rx_row hjM ?_;rw [hPO])|refine o1_load_hc rfl (fun hh=>(mrows_read (M:=Q) hqm hq1 hh).p) ?_)|refine o1_pneq rfl rfl ?_|refine o1_call_to (rX qb (.pointer (some ⟨qvb,0,none⟩)) qad qz qcd::vB qvb qvn qva qvc::vR qvn qva qvc ql::rD qad qz qcd qd::[.any (mrows (Q.set j none)),mB bm qvn qz ar cr k,mR qvn ar cr M,rX b7 (.pointer (some ⟨vb,0,none⟩)) ad7 qz cd7,vB vb qvn va vc,vR qvn va vc vl,rD ad7 qz cd7 d7,.any (stars H)]) (fun h hh=>mrows_take (R:=[mB bm qvn qz ar cr k,mR qvn ar cr M,rX b7 (.pointer (some ⟨vb,0,none⟩)) ad7 qz cd7,vB vb qvn va vc,vR qvn va vc vl,rD ad7 qz cd7 d7,.any (stars H)]) hjQ hq0 h (Ent.out ent h hh)) (fun hh=>row_xor _ qb qvb qvn qva qvc ql qad qz qcd qd ⟨b7,⟨vb,qvn,va,vc,vl⟩,ad7,qz,cd7,d7⟩ hqll l3 hqdl l5 (RdR.own hxl l3 hxd (has_tail (has_tail (has_tail (has_tail hh))))) rfl rfl) rfl (fun _ _=>?_)|(refine k_fn 143 ?_;refine o1_call (fun hh=>(vec_Has _ ⟨qvb,qvn,qva,qvc,ql⟩ a (mrows_read (M:=Q) hqm hq1 hh).v).bv (b:=true) (by rw [hasV_nat,hat])) rfl (fun _ _=>?_))|refine ow ?_|refine ow2 ?_ ?_|fail)
    have hsn:(Q.set j none).set j (some q')=Q.set j (some q'):=List.set_set ..
    have hput:=mrows_put (M:=Q.set j none) (r:=q') (i:=j) (R:=[mB bm qvn qz ar cr k,mR qvn ar cr M,rX b7 (.pointer (some ⟨vb,0,none⟩)) ad7 qz cd7,vB vb qvn va vc,vR qvn va vc vl,rD ad7 qz cd7 d7,.any (stars H)]) (by rw [List.length_set];exact hjQ) (by simp)
    rw [hsn] at hput
    refine nx_ent (H2 := .any (mrows (Q.set j (some q')))::[mB bm qvn qz ar cr k,mR qvn ar cr M,rX b7 (.pointer (some ⟨vb,0,none⟩)) ad7 qz cd7,vB vb qvn va vc,vR qvn va vc vl,rD ad7 qz cd7 d7,.any (stars H)]) (fun h hh=>hput h (by rw [hq'];exact Ent.out (by show Ent _ (rX qb (.pointer (some ⟨qvb,0,none⟩)) qad qz qcd::vB qvb qvn qva qvc::vR qvn qva qvc (xorV ql vl)::rD qad qz qcd (xorL qd d7)::[.any (mrows (Q.set j none)),mB bm qvn qz ar cr k,mR qvn ar cr M,rX b7 (.pointer (some ⟨vb,0,none⟩)) ad7 qz cd7,vB vb qvn va vc,vR qvn va vc vl,rD ad7 qz cd7 d7,.any (stars H)]);exact ent) h hh)) ?_
    refine nx_again (j+1,Q.set j (some q')) ⟨?_,hPs,hn2.symm,hQk'⟩ ?_ cv ?_
    ·show j+1≤qvn;omega
    ·show qvn - (j+1)<qvn - j;omega
    exact ent
 ·obtain rfl:j=vn:=by omega
  have haQ:a<Q.length:=by omega
  rw [partL_full hcl (by omega)] at hQv
  obtain ⟨r,hr⟩:∃ r:RD,r=⟨b7,⟨vb,j,va,vc,vl⟩,ad7,z7,cd7,d7⟩:=⟨_,rfl⟩
  have hQa:Q[a]=none:=by
   have h1:=map_get hQp haQ haM
   rw [hMa] at h1
   cases hq:Q[a] with
   | none=>rfl
   | some q=>rw [hq] at h1;cases h1
  have hPs:(M.set a (some r)).map PO=(Q.set a (some r)).map PO:=by rw [List.map_set,List.map_set,hQp]
  have hQk':MOk j z7 (Q.set a (some r)):=⟨by rw [List.length_set];exact hQl,l2,l3,l4,l5,fun r0 hr0=>by
   rcases List.mem_or_eq_of_mem_set hr0 with h|h
   ·exact hQk.ok r0 h
   ·injection h with h
    subst h
    rw [hr]
    exact ⟨⟨⟨hxl,l3⟩,hxd⟩,rfl,rfl⟩⟩
  repeat' (first|intro _|refine cw ?_|refine cw2 ?_ ?_|(refine k_indexAddr ?_;refine o1_iah (enc:=PO) (ad:=ar) (c:=cr) (xs:=M) a rfl rfl rx_row l1.symm rfl haM ?_)|(refine k_store ?_;(refine ox_store_rowenc (ad:=ar) (c:=cr) (v:=some r) PO a rfl (by rw [hr];rfl) han rfl ?_;rw [hPs]))|(refine k_fn 145 ?_;refine o1_call_box (b:=bm) (fun _=>at_Add64 _ bm j z7 ar cr k hk1) rfl (fun _ _=>?_))|refine ow ?_|refine ow2 ?_ ?_|fail)
  have hput:=mrows_put (M:=Q) (r:=r) (i:=a) (R:=[mB bm j z7 ar cr (k+1),.row 277 1 (.slice ar j cr) j ((Q.set a (some r)).map PO),.any (stars H)]) haQ hQa
  refine rt_ent (H2 := .any (mrows (Q.set a (some r)))::[mB bm j z7 ar cr (k+1),.row 277 1 (.slice ar j cr) j ((Q.set a (some r)).map PO),.any (stars H)]) (fun h hh=>hput h (by rw [hr];exact Ent.out (by show Ent _ (rX b7 (.pointer (some ⟨vb,0,none⟩)) ad7 z7 cd7::vB vb j va vc::vR j va vc vl::rD ad7 z7 cd7 d7::[.any (mrows Q),mB bm j z7 ar cr (k+1),.row 277 1 (.slice ar j cr) j ((Q.set a (some ⟨b7,⟨vb,j,va,vc,vl⟩,ad7,z7,cd7,d7⟩)).map PO),.any (stars H)]);rw [←hr];exact ent) h hh)) ?_
  refine rt_tmp (Q.set a (some r)) rfl rfl rfl ⟨?_,hQk'⟩ ?_
  ·rw [List.map_set,hQv,addM,hr]
   rfl
  exact ent
set_option maxHeartbeats 2000000 in
theorem elim_Add_old (H:List Hl) (bm n z:Nat) (ar:Option Addr) (cr k:Nat) (M:List (Option RD)) (v:VD) (ad0:Option Addr) (m0 c0:Nat) (dd:List (BitVec 8)) (ML:List (Option LN)) (x:LN) (hM:RdM (stars H) bm n z ar cr k M) (hML:M.map vw=ML) (hv:RdV (stars H) v) (hvn:v.n=n) (hd:Rs (stars H) B ad0 c0 dd) (hm0:m0=dd.length) (hdl:dd.length=z) (hx:red ML (v.l,dd)=x) (hfa:firstV x.1 = -1) (ht:TabF (stars H)) :
  Spec Tryz.prog 168 [.pointer (some ⟨bm,0,none⟩),Pv v,.slice ad0 m0 c0] H (fun _:Unit=>True) (fun _ => .bool false) (fun _=>H):=by
 refine spec_pure (res:=fun _=>[]) H Tryz.func168 rfl Tryz.ntmps168 (by kernel_rfl) rfl (fun W=>?_)
 have hLk:=hM.ok.vw
 have hvl:v.l.length=n:=by rw [hv.ok.len,hvn]
 rw [hML] at hLk
 obtain ⟨hxl,hxd⟩:x.1.length=n∧x.2.length=z:=by rw [←hx];exact redT_len hLk hvl hdl _
 have hpadf:=padD_full hdl
 have l3:=hM.ok.n2
 have m2:=hM.fz
 obtain ⟨xl,xd⟩:=x
 dsimp only at hxl hxd hfa
 repeat' (first|intro _|refine cw ?_|refine cw2 ?_ ?_|refine o1_peql rfl rfl ?_|(refine k_load ?_;refine ox_load_any rfl m2 ?_)|(refine k_binOp .neq ?_;refine o1_neq_f rfl rfl (by omega) ?_)|(refine k_fn 197 ?_;(refine o1_call (fun _=>elim_reduced _ bm n z ar cr k M v ad0 m0 c0 dd hM.up hv.up hvn hd.up hm0 (by omega)) rfl (fun ⟨b7,⟨vb,vn,va,vc,vl⟩,ad7,z7,cd7,d7⟩ hr=>?_);dsimp only at hr ⊢;obtain ⟨rfl,rfl,hr3⟩:=hr;rw [hML,hpadf,hx] at hr3;obtain ⟨rfl,rfl⟩:=Prod.mk.inj hr3))|(refine k_fn 198 ?_;refine o1_call (fun hh=>(vec_First _ ⟨vb,vn,va,vc,vl⟩ (RdV.own hxl l3 hh) ht.up).vv (b:=I (-1)) (by rw [hfa])) rfl (fun _ _=>?_))|refine ow ?_|refine ow2 ?_ ?_|fail)
 refine rt_tmp () rfl rfl rfl trivial ?_
 exact ent
theorem clone_C (H:List Hl) (ad:Option Addr) (c m:Nat) (l:List (BitVec 8)) (h:Rs (stars H) B ad c l) (hm:m=l.length) (hb:m≤1000) :
  Spec Tryz.prog 29 [.slice ad m c] H (fun _:Option Addr × Nat=>True) (fun r => .slice r.1 m r.2) (fun r => .row 5 1 (.slice r.1 m r.2) m (l.map B)::H):=by
 refine spec_pure (res:=fun r:Option Addr × Nat=>[.row 5 1 (.slice r.1 m r.2) m (l.map B)]) H Tryz.func29 rfl Tryz.ntmps29 (by kernel_rfl) rfl (fun W=>?_)
 cases ad with
 | none =>
  have hl:l=[]:=by
   cases l with
   | nil=>rfl
   | cons a l=>obtain ⟨x,hx⟩:=h.sm (by simp);cases hx
  subst hl
  subst hm
  repeat' (first|intro _|refine cw ?_|refine cw2 ?_ ?_|refine ow ?_|refine ow2 ?_ ?_|fail)
  refine (rt_ent (ent_nil 5 B) ?_)
  refine rt_tmp (none,0) rfl rfl rfl trivial ?_
  exact ent
 | some a =>
  repeat' (first|intro _|refine cw ?_|refine cw2 ?_ ?_|(refine k_buildSlice ?_;refine o1_lit_enc B ([]:List (BitVec 8)) rfl rfl rfl (fun _=>rfl) rfl rfl rfl (fun _=>?_))|(refine k_call ?_;refine ox_append_box (enc:=B) (xs:=([]:List (BitVec 8))) rfl rfl rfl rfl (rx_any h) hm rfl (fun _=>rfl) (by omega) (by omega) (fun _ _=>?_))|refine ow ?_|refine ow2 ?_ ?_|fail)
  refine rt_tmp (_,_) rfl rfl (by simp only [Nat.zero_add];rfl) trivial ?_
  simp only [Nat.zero_add,List.nil_append]
  exact ent
set_option maxHeartbeats 2000000 in
theorem elim_Solve (H:List Hl) (bm n z:Nat) (ar:Option Addr) (cr:Nat) (M:List (Option RD)) (R:List RD) (hM:RdM (stars H) bm n z ar cr n M) (hR:M=R.map some) :
  Spec Tryz.prog 201 [.pointer (some ⟨bm,0,none⟩)] H (fun r:Option Addr × Nat × List (SlD (BitVec 8))=>r.2.2.map (·.l)=R.map (·.d)) (fun r => .slice r.1 r.2.2.length r.2.1)
   (fun r => .row 22 1 (.slice r.1 r.2.2.length r.2.1) r.2.2.length (r.2.2.map Bs) :: .any (pcs 5 r.2.2)::H):=by
 refine spec_pure (res:=fun r:Option Addr × Nat × List (SlD (BitVec 8))=>[.row 22 1 (.slice r.1 r.2.2.length r.2.1) r.2.2.length (r.2.2.map Bs),.any (pcs 5 r.2.2)]) H Tryz.func201 rfl Tryz.ntmps201 (by kernel_rfl) rfl (fun W=>?_)
 obtain ⟨l1,l2,l3,l4,l5,l6⟩:=hM.ok
 have m3:=hM.fs
 have hRl:R.length=n:=by rw [←l1,hR,List.length_map]
 repeat' (first|intro _|refine cw ?_|refine cw2 ?_ ?_|(refine k_fn 217 ?_;refine o1_call (fun _=>(elim_Full _ bm n n (cl_up hM.fk) (cl_up hM.fn)).bv (b:=true) (by simp)) rfl (fun _ _=>?_))|(refine k_load ?_;refine ox_load_any rfl m3 ?_)|refine ow ?_|refine ow2 ?_ ?_|fail)
 refine st_ent (ent_nil 22 Bs) (st_ent (fun h hh=>sel_swap h (pcs_nil (T:=5) h hh)) ?_)
 refine st_loop (S:=Nat × Option Addr × Nat × List (SlD (BitVec 8))) (fun q=>[(3,.slice q.2.1 q.2.2.2.length q.2.2.1),(12,.slice ar n cr),(13,I n),(14,I q.1)])
  (fun q=>[.row 22 1 (.slice q.2.1 q.2.2.2.length q.2.2.1) q.2.2.2.length (q.2.2.2.map Bs),.any (pcs 5 q.2.2.2),.any (stars H)])
  (fun q=>q.1≤n∧q.2.2.2.map (·.l)=(R.map (·.d)).take q.1) (fun q=>n - q.1) (0,none,0,[]) ⟨by omega,rfl⟩
  cv ent ?_
 rintro ⟨i,a1,c1,out⟩ ⟨hi,hout⟩
 dsimp only at hi hout ⊢
 have hol:out.length=i:=by have:=congrArg List.length hout;simp at this;omega
 by_cases hlt:i<n
 ·have hiM:i<M.length:=by omega
  have hiR:i<R.length:=by omega
  obtain ⟨r,hr⟩:∃ r,R[i]=r:=⟨_,rfl⟩
  have hMi:M[i]=some r:=by subst hR;simp [hr]
  have hrm:some r∈M:=hMi ▸ List.getElem_mem hiM
  have hrr:=hM.fm r hrm
  obtain ⟨hr1,hr2,hr3⟩:=l6 r hrm
  have hrs:=hrr.s
  have hrd:=hrr.d
  have hrz:r.z=r.d.length:=hrr.z.symm
  have hrz2:r.z≤16:=by omega
  repeat' (first|intro _|refine cw ?_|refine cw2 ?_ ?_|(refine k_indexAddr ?_;refine o1_ia (ad:=ar) (c:=cr) i rfl rfl hM.fr l1.symm rfl hiM ?_)|(refine k_load ?_;first|(refine o1_load_ia (ad:=ar) (c:=cr) i rfl hM.fr hiM ?_;rw [hMi])|refine ox_load_any rfl hrs ?_)|(refine k_fn 29 ?_;(refine o1_call (fun _=>clone_C _ r.ad r.cd r.z r.d (Rs.up hrd) hrz (by omega)) rfl (fun ⟨a5,c5⟩ _=>?_);dsimp only;rw [hrz]))|(refine k_buildSlice ?_;refine o1_lit_enc Bs [(⟨a5,c5,r.d⟩:SlD (BitVec 8))] rfl rfl rfl (fun _=>rfl) rfl rfl rfl (fun _=>?_))|(refine k_call ?_;refine ox_append (xs:=out) (ys:=[(⟨a5,c5,r.d⟩:SlD (BitVec 8))]) rfl rfl (rx_box rfl (by decide)) rfl rfl (fun _=>rfl) (by omega) (by omega) (fun a9 c9=>?_))|refine ow ?_|refine ow2 ?_ ?_|fail)
  obtain ⟨u,hu⟩:∃ u:SlD (BitVec 8),u=⟨a5,c5,r.d⟩:=⟨_,rfl⟩
  refine nx_push (T:=5) (ls:=out) (s:=u) (R:=[.row 22 1 (.slice a9 (out.length+1) c9) (out.length+1) ((out++[u]).map Bs),.any (stars H)]) (by rw [hu];exact ent) ?_
  refine nx_again (i+1,a9,c9,out++[u]) ⟨?_,?_⟩ ?_ (cov_cons rfl ?_ cv) ?_
  ·show i+1≤n;omega
  ·show (out++[u]).map (·.l)=_
   rw [List.map_append,hout,List.take_succ_eq_append_getElem (by rw [List.length_map];exact hiR),hu]
   simp [hr]
  ·show n - (i+1)<n - i;omega
  ·show Value.slice a9 _ c9=Value.slice a9 (out++[u]).length c9
   rw [List.length_append];rfl
  ·show Ent _ [.row 22 1 (.slice a9 (out++[u]).length c9) (out++[u]).length ((out++[u]).map Bs),.any (pcs 5 (out++[u])),.any (stars H)]
   rw [List.length_append,List.length_singleton]
   exact ent
 ·have:i=n:=by omega
  subst this
  repeat' (first|intro _|refine cw ?_|refine cw2 ?_ ?_|refine ow ?_|refine ow2 ?_ ?_|fail)
  refine rt_tmp (a1,c1,out) rfl rfl rfl ?_ ?_
  ·show out.map (·.l)=_
   rw [hout,List.take_of_length_le (by rw [List.length_map];omega)]
  exact ent
end Go.Dp
namespace Go.Dp
def xsB (g:Nat→Bool):Nat→Bool
 | 0=>false
 | n+1=>xsB g n ^^ g n
theorem xsB_zero {g:Nat→Bool} {n:Nat} (h:∀ i,i<n→g i=false):xsB g n=false:=by
 induction n with
 | zero=>rfl
 | succ n ih=>rw [xsB,ih (fun i hi=>h i (by omega)),h n (by omega)];rfl
theorem xsB_one {g:Nat→Bool} {n j:Nat} (hj:j<n) (h:∀ i,i<n→i≠j→g i=false):xsB g n=g j:=by
 induction n with
 | zero=>omega
 | succ n ih =>
  rw [xsB]
  by_cases e:j=n
  ·subst e
   rw [xsB_zero (fun i hi=>h i (by omega) (by omega))];simp
  ·rw [ih (by omega) (fun i hi hne=>h i (by omega) hne),h n (by omega) (fun q=>e q.symm)];simp
def rowAt (M:List (Option LN)) (i k:Nat):Bool:=match M.getD i none with
 | some y=>at_ y.1 k
 | none=>false
structure RR (n z:Nat) (M:List (Option LN)):Prop where
 lok:LOk n z M
 fst:∀ i y,M[i]?=some (some y)→at_ y.1 i=true
 lo:∀ i y j,M[i]?=some (some y)→j<i→at_ y.1 j=false
 piv:∀ i j y w,M[i]?=some (some y)→M[j]?=some (some w)→i≠j→at_ y.1 j=false
theorem getD_of {M:List (Option LN)} {i:Nat} {y:LN} (h:M[i]?=some (some y)):M.getD i none=some y:=by rw [List.getD_eq_getElem?_getD,h];rfl
theorem getD_some {M:List (Option LN)} {i:Nat} {y:LN} (h:M.getD i none=some y):M[i]?=some (some y):=by
 rw [List.getD_eq_getElem?_getD] at h
 cases hq:M[i]? with
 | none=>rw [hq] at h;cases h
 | some o=>rw [hq] at h;exact congrArg some h
theorem mem_of_get? {M:List (Option LN)} {i:Nat} {o:Option LN} (h:M[i]?=some o):o∈M:=List.mem_of_getElem? h
theorem redT_at {n z:Nat} {M:List (Option LN)} (h:RR n z M) {x:LN} (hx:x.1.length=n) (hd:x.2.length=z):∀ i,i≤n→∀ k,at_ (redT M x i).1 k=(at_ x.1 k ^^ xsB (fun j=>at_ x.1 j && rowAt M j k) i)
 | 0,_,k=>by simp [redT,xsB]
 | i+1,hi,k=>by
  have ih:=redT_at h hx hd i (by omega)
  obtain ⟨l1,l2⟩:=redT_len h.lok hx hd i
  rw [redT,xsB]
  cases ho:M.getD i none with
  | none =>
   have hr:rowAt M i k=false:=by unfold rowAt;rw [ho]
   rw [hr,Bool.and_false,Bool.xor_false]
   exact ih k
  | some y =>
   have hM:=getD_some ho
   have hr:rowAt M i k=at_ y.1 k:=by unfold rowAt;rw [ho]
   obtain ⟨y1,y2⟩:=h.lok.ok y (mem_of_get? hM)
   have hc:at_ (redT M x i).1 i=at_ x.1 i:=by
    rw [ih i,xsB_zero (fun j hj=>?_),Bool.xor_false]
    unfold rowAt
    cases hj2:M.getD j none with
    | none=>simp
    | some w =>
     show (at_ x.1 j && at_ w.1 i)=false
     rw [h.piv j i w y (getD_some hj2) hM (by omega),Bool.and_false]
   show at_ (if at_ (redT M x i).1 i=true then addL (redT M x i) y else redT M x i).1 k=_
   rw [hc,hr]
   cases hb:at_ x.1 i
   ·simpa using ih k
   ·simp only [if_true,Bool.true_and]
    show (xorV (redT M x i).1 y.1).getD k false=_
    rw [xorV_getD (by omega)]
    have:=ih k
    rw [←Bool.xor_assoc,←this]
theorem red_piv {n z:Nat} {M:List (Option LN)} (h:RR n z M) {x:LN} (hx:x.1.length=n) (hd:x.2.length=z) {j:Nat} {w:LN} (hj:M[j]?=some (some w)):at_ (red M x).1 j=false:=by
 have hjn:j<n:=by
  rw [←h.lok.len]
  exact (List.getElem?_eq_some_iff.1 hj).1
 rw [red,h.lok.len,redT_at h hx hd n (Nat.le_refl _),xsB_one hjn (fun i hi hne=>?_)]
 ·show (at_ x.1 j ^^ (at_ x.1 j && rowAt M j j))=false
  have:rowAt M j j=true:=by unfold rowAt;rw [getD_of hj];exact h.fst j w hj
  rw [this];simp
 ·unfold rowAt
  cases hi2:M.getD i none with
  | none=>simp
  | some y =>
   show (at_ x.1 i && at_ y.1 j)=false
   rw [h.piv i j y w (getD_some hi2) hj hne,Bool.and_false]
theorem first_cases (l:List Bool):firstV l = -1∨∃ a:Nat,firstV l=a∧a<l.length∧at_ l a=true∧∀ j,j<a→at_ l j=false:=by
 unfold firstV
 by_cases h:firstN (at_ l) l.length<l.length
 ·rw [if_pos h]
  exact .inr ⟨_,rfl,h,firstN_at _ _ h,firstN_lo _ _⟩
 ·rw [if_neg h];exact .inl rfl
theorem red_free {n z:Nat} {M:List (Option LN)} (h:RR n z M) {x:LN} (hx:x.1.length=n) (hd:x.2.length=z) {a:Nat} (ha:a<n) (h1:at_ (red M x).1 a=true):M[a]?=some none:=by
 have hl:a<M.length:=by rw [h.lok.len];exact ha
 rw [List.getElem?_eq_getElem hl]
 cases ho:M[a] with
 | none=>rfl
 | some w =>
  have:=red_piv h hx hd (j:=a) (w:=w) (by rw [List.getElem?_eq_getElem hl,ho])
  rw [this] at h1
  cases h1
theorem addM_get {M:List (Option LN)} {a i:Nat} {x y:LN} (ha:a<M.length) (h:(addM M a x)[i]?=some (some y)):(i=a∧y=x)∨(i≠a∧∃ w,M[i]?=some (some w)∧y=if at_ w.1 a=true then addL w x else w):=by
 unfold addM at h
 rw [List.getElem?_set] at h
 by_cases e:a=i
 ·subst e
  rw [if_pos rfl] at h
  simp only [List.length_map,ha,if_true,Option.some.injEq] at h
  exact .inl ⟨rfl,h.symm⟩
 ·rw [if_neg e,List.getElem?_map] at h
  refine .inr ⟨fun q=>e q.symm,?_⟩
  cases hM:M[i]? with
  | none=>rw [hM] at h;cases h
  | some o =>
   rw [hM] at h
   cases o with
   | none=>cases h
   | some w =>
    simp only [Option.map_some,clrL,Option.some.injEq] at h
    exact ⟨w,rfl,h.symm⟩
theorem at_addL {x y:LN} (h:x.1.length=y.1.length) (k:Nat):at_ (addL x y).1 k=(at_ x.1 k ^^ at_ y.1 k):=xorV_getD h k
theorem addM_RR {n z:Nat} {M:List (Option LN)} (h:RR n z M) {x:LN} {a:Nat} (hx:x.1.length=n) (hd:x.2.length=z) (ha:a<n) (h1:at_ x.1 a=true) (h2:∀ j,j<a→at_ x.1 j=false) (hp:∀ j w,M[j]?=some (some w)→at_ x.1 j=false) (hf:M[a]?=some none):RR n z (addM M a x):=by
 have hl:=h.lok.len
 have haM:a<M.length:=by omega
 have lens:∀ (i:Nat) (w:LN),M[i]?=some (some w)→w.1.length=n∧w.2.length=z:=fun i w hw=>h.lok.ok w (mem_of_get? hw)
 refine ⟨⟨by simp [addM,hl],fun y hy=>?_⟩,fun i y hy=>?_,fun i y j hy hj=>?_,fun i j y w hy hw hij=>?_⟩
 ·obtain ⟨i,hi⟩:=List.getElem?_of_mem hy
  rcases addM_get haM hi with ⟨_,rfl⟩|⟨_,w,hw,rfl⟩
  ·exact ⟨hx,hd⟩
  ·obtain ⟨w1,w2⟩:=lens i w hw
   split
   ·exact addL_len w1 w2 hx hd
   ·exact ⟨w1,w2⟩
 ·rcases addM_get haM hy with ⟨rfl,rfl⟩|⟨hne,w,hw,rfl⟩
  ·exact h1
  ·obtain ⟨w1,w2⟩:=lens i w hw
   split
   ·rw [at_addL (by omega),h.fst i w hw,hp i w hw];rfl
   ·exact h.fst i w hw
 ·rcases addM_get haM hy with ⟨rfl,rfl⟩|⟨hne,w,hw,rfl⟩
  ·exact h2 j hj
  ·obtain ⟨w1,w2⟩:=lens i w hw
   split
   ·rename_i hq
    have hai:i<a:=by
     rcases Nat.lt_trichotomy a i with q|q|q
     ·rw [h.lo i w a hw q] at hq;cases hq
     ·exact absurd q.symm hne
     ·exact q
    rw [at_addL (by omega),h.lo i w j hw hj,h2 j (by omega)];rfl
   ·exact h.lo i w j hw hj
 ·rcases addM_get haM hy with ⟨rfl,rfl⟩|⟨hne,u,hu,rfl⟩
  ·rcases addM_get haM hw with ⟨e,_⟩|⟨_,v,hv,_⟩
   ·exact absurd e.symm hij
   ·exact hp j v hv
  ·obtain ⟨w1,w2⟩:=lens i u hu
   rcases addM_get haM hw with ⟨rfl,_⟩|⟨_,v,hv,_⟩
   ·split
    ·rename_i hq
     rw [at_addL (by omega),hq,h1];rfl
    ·rename_i hq
     simpa using hq
   ·split
    ·rw [at_addL (by omega),h.piv i j u v hu hv hij,hp j v hv];rfl
    ·exact h.piv i j u v hu hv hij
theorem RR_none {n z:Nat}:RR n z (List.replicate n none):=by
 have hn:∀ i (y:LN),((List.replicate n none:List (Option LN))[i]?=some (some y))→False:=fun i y h=>by
  have:=mem_of_get? h
  cases List.eq_of_mem_replicate this
 exact ⟨⟨by simp,fun y hy=>by cases List.eq_of_mem_replicate hy⟩,fun i y h=>(hn i y h).elim,fun i y j h=>(hn i y h).elim,fun i j y w h=>(hn i y h).elim⟩
def cntS:List (Option LN)→Nat
 | []=>0
 | none::t=>cntS t
 | some _::t=>cntS t+1
theorem cntS_set:∀ {M:List (Option LN)} {i:Nat} {x:LN},M[i]?=some none→cntS (M.set i (some x))=cntS M+1
 | [],i,x,h=>by simp at h
 | o::M,0,x,h=>by
  simp at h
  subst h
  rfl
 | o::M,i+1,x,h=>by
  simp at h
  have:=cntS_set (x:=x) h
  cases o with
  | none=>simpa [cntS] using this
  | some y=>simp [cntS,this]
theorem cntS_clr (a:Nat) (x:LN):∀ M:List (Option LN),cntS (M.map (clrL a x))=cntS M
 | []=>rfl
 | none::M=>by simp only [List.map_cons,clrL,Option.map_none,cntS];exact cntS_clr a x M
 | some y::M=>by simp only [List.map_cons,clrL,Option.map_some,cntS];rw [cntS_clr a x M]
theorem cntS_addM {M:List (Option LN)} {a:Nat} {x:LN} (h:M[a]?=some none):cntS (addM M a x)=cntS M+1:=by
 rw [addM,cntS_set (by rw [List.getElem?_map,h];rfl),cntS_clr]
theorem cntS_le:∀ M:List (Option LN),cntS M≤M.length
 | []=>Nat.le_refl _
 | none::M=>by simp only [cntS,List.length_cons];have:=cntS_le M;omega
 | some y::M=>by simp only [cntS,List.length_cons];have:=cntS_le M;omega
theorem cntS_none (n:Nat):cntS (List.replicate n none)=0:=by
 induction n with
 | zero=>rfl
 | succ n ih=>rw [List.replicate_succ];exact ih
theorem add_cases {n z:Nat} {M:List (Option LN)} (h:RR n z M) {v:LN} (hx:v.1.length=n) (hd:v.2.length=z):firstV (red M v).1 = -1∨∃ a:Nat,firstV (red M v).1=a∧M[a]?=some none∧RR n z (addM M a (red M v))∧cntS (addM M a (red M v))=cntS M+1:=by
 obtain ⟨l1,l2⟩:=redT_len h.lok hx hd M.length
 rcases first_cases (red M v).1 with e|⟨a,e,ha,h1,h2⟩
 ·exact .inl e
 ·have ha:a<n:=by
   have l1:(red M v).1.length=n:=l1
   omega
  have hf:=red_free h hx hd ha h1
  exact .inr ⟨a,e,hf,addM_RR h l1 l2 ha h1 h2 (fun j w hw=>red_piv h hx hd hw) hf,cntS_addM hf⟩
open Go.RowKit Go.Proofs
theorem rt_tmp3 {P:Program} {n:Nat} {e:Ev} {W:World} {H:List Hl} {X:Type} {fn:Func} {good:X→Prop} {val:X→Value} {res:X→List Hl} {t t' t2:Nat} {v v' v2:Value} (r:X) (hres:fn.results = #[.tmp t,.tmp t',.tmp t2]) (hl:look e t=some v) (hl':look e t'=some v') (hl2:look e t2=some v2) (hv : .tuple #[v,v',v2]=val r) (hg:good r) (hE:Ent H (res r)) :
  Rt P (.fn fn fun x w'=>∃ r,good r∧x = .returned (val r)∧Ext W w'∧sat w' (stars (res r))) n e W H :=
 rt_fn (v := .tuple #[v,v',v2]) (fun a w ho=>by simp [results,hres,ho.ev.get t v hl,ho.ev.get t' v' hl',ho.ev.get t2 v2 hl2]) r hg hv hE
theorem MOk.none {n z:Nat} (h1:1≤n) (h2:n≤256) (h3:1≤z) (h4:z≤16):MOk n z (List.replicate n none):=⟨by simp,h1,h2,h3,h4,fun r hr=>by cases List.eq_of_mem_replicate hr⟩
end Go.Dp
namespace Go.Dp
theorem xsB_xor (f g:Nat→Bool):∀ n,xsB (fun j=>f j ^^ g j) n=(xsB f n ^^ xsB g n)
 | 0=>rfl
 | n+1=>by
  rw [xsB,xsB,xsB,xsB_xor f g n]
  cases xsB f n <;> cases xsB g n <;> cases f n <;> cases g n <;> rfl
theorem xsB_and (f:Nat→Bool) (c:Bool):∀ n,xsB (fun j=>f j && c) n=(xsB f n && c)
 | 0=>by simp [xsB]
 | n+1=>by
  rw [xsB,xsB,xsB_and f c n]
  cases xsB f n <;> cases f n <;> cases c <;> rfl
theorem xsB_congr {f g:Nat→Bool} {n:Nat} (h:∀ j,j<n→f j=g j):xsB f n=xsB g n:=by
 induction n with
 | zero=>rfl
 | succ n ih=>rw [xsB,xsB,ih (fun j hj=>h j (by omega)),h n (by omega)]
def rd (n:Nat) (M:List (Option LN)) (w:List Bool) (k:Nat):Bool:=at_ w k ^^ xsB (fun j=>at_ w j && rowAt M j k) n
theorem red_rd {n z:Nat} {M:List (Option LN)} (h:RR n z M) {x:LN} (hx:x.1.length=n) (hd:x.2.length=z) (k:Nat):at_ (red M x).1 k=rd n M x.1 k:=by
 rw [red,h.lok.len]
 exact redT_at h hx hd n (Nat.le_refl _) k
theorem rd_xor (n:Nat) (M:List (Option LN)) {w v:List Bool} (hl:w.length=v.length) (k:Nat):rd n M (xorV w v) k=(rd n M w k ^^ rd n M v k):=by
 have ha:∀ j,at_ (xorV w v) j=(at_ w j ^^ at_ v j):=fun j=>xorV_getD hl j
 unfold rd
 rw [ha k,xsB_congr (g:=fun j=>(at_ w j && rowAt M j k) ^^ (at_ v j && rowAt M j k)) (fun j _=>by
  rw [ha j]
  cases at_ w j <;> cases at_ v j <;> cases rowAt M j k <;> rfl),xsB_xor]
 cases at_ w k <;> cases at_ v k <;> simp
theorem rowAt_none {M:List (Option LN)} {a:Nat} (h:M[a]?=some none) (k:Nat):rowAt M a k=false:=by
 unfold rowAt
 rw [List.getD_eq_getElem?_getD,h]
 rfl
theorem rowAt_addM {n z:Nat} {M:List (Option LN)} (h:LOk n z M) {a:Nat} {x:LN} (ha:a<M.length) (hx:x.1.length=n) (j k:Nat):rowAt (addM M a x) j k=if j=a then at_ x.1 k else (rowAt M j k ^^ (rowAt M j a && at_ x.1 k)):=by
 unfold rowAt addM
 rw [List.getD_eq_getElem?_getD,List.getElem?_set]
 by_cases e:j=a
 ·subst e
  rw [if_pos rfl,if_pos rfl,List.length_map,if_pos ha]
  rfl
 ·rw [if_neg (fun q=>e q.symm),if_neg e,List.getElem?_map,List.getD_eq_getElem?_getD]
  cases ho:M[j]? with
  | none=>rfl
  | some o =>
   cases o with
   | none=>rfl
   | some y =>
    obtain ⟨y1,y2⟩:=h.ok y (mem_of_get? ho)
    show at_ (if at_ y.1 a=true then addL y x else y).1 k=(at_ y.1 k ^^ (at_ y.1 a && at_ x.1 k))
    cases at_ y.1 a
    ·simp
    ·simpa using at_addL (by omega) k
theorem rd_addM {n z:Nat} {M:List (Option LN)} (h:LOk n z M) {a:Nat} {x:LN} (ha:a<n) (hx:x.1.length=n) (hf:M[a]?=some none) (w:List Bool) (k:Nat):rd n (addM M a x) w k=(rd n M w k ^^ (rd n M w a && at_ x.1 k)):=by
 have haM:a<M.length:=by rw [h.len];exact ha
 unfold rd
 rw [xsB_congr (g:=fun j=>((at_ w j && rowAt M j k) ^^ ((at_ w j && rowAt M j a) && at_ x.1 k)) ^^ (decide (j=a) && (at_ w a && at_ x.1 k))) (fun j _=>by
  rw [rowAt_addM h haM hx]
  by_cases e:j=a
  ·subst e
   rw [if_pos rfl,rowAt_none hf,rowAt_none hf]
   cases at_ w j <;> simp
  ·rw [if_neg e]
   simp only [e,decide_false,Bool.false_and,Bool.xor_false]
   cases at_ w j <;> simp),xsB_xor,xsB_xor,xsB_and,xsB_and,xsB_one (g:=fun j=>decide (j=a)) (j:=a) ha (fun i _ hi=>by simp [hi])]
 simp only [decide_true,Bool.true_and]
 cases at_ w k <;> cases at_ w a <;> cases xsB (fun j=>at_ w j && rowAt M j k) n <;> cases xsB (fun j=>at_ w j && rowAt M j a) n <;> cases at_ x.1 k <;> rfl
def sp (n:Nat) (M:List (Option LN)) (w:List Bool):Prop:=∀ k,rd n M w k=false
def addF (M:List (Option LN)) (v:LN):List (Option LN):=if firstV (red M v).1 = -1 then M else addM M (firstV (red M v).1).toNat (red M v)
theorem addF_old {M:List (Option LN)} {v:LN} (h:firstV (red M v).1 = -1):addF M v=M:=if_pos h
theorem addF_new {M:List (Option LN)} {v:LN} {a:Nat} (h:firstV (red M v).1=a):addF M v=addM M a (red M v):=by
 unfold addF
 rw [if_neg (by omega),h]
 rfl
theorem sp_first {n z:Nat} {M:List (Option LN)} (h:RR n z M) {v:LN} (hx:v.1.length=n) (hd:v.2.length=z):firstV (red M v).1 = -1↔sp n M v.1:=by
 obtain ⟨l1,l2⟩:=redT_len h.lok hx hd M.length
 have l1:(red M v).1.length=n:=l1
 constructor
 ·intro e k
  rw [←red_rd h hx hd k]
  by_cases hk:k<n
  ·rcases hb:at_ (red M v).1 k with _|_
   ·rfl
   ·obtain ⟨m,hm,hmin⟩:=least (p:=fun i=>at_ (red M v).1 i=true) ⟨k,hb⟩
    have hmn:m<(red M v).1.length:=by
     by_cases q:m<(red M v).1.length
     ·exact q
     ·have:at_ (red M v).1 m=false:=getD_out (by omega)
      rw [this] at hm;cases hm
    have:=firstV_is (l:=(red M v).1) hmn hm (fun j hj=>by
     have:=hmin j hj
     simpa using this)
    omega
  ·exact getD_out (by omega)
 ·intro e
  exact firstV_none (fun j _=>by rw [red_rd h hx hd j];exact e j)
theorem addF_RR {n z:Nat} {M:List (Option LN)} (h:RR n z M) {v:LN} (hx:v.1.length=n) (hd:v.2.length=z):RR n z (addF M v):=by
 rcases add_cases h hx hd with e|⟨a,e,_,h1,_⟩
 ·rw [addF_old e];exact h
 ·rw [addF_new e];exact h1
theorem sp_addF {n z:Nat} {M:List (Option LN)} (h:RR n z M) {v:LN} (hx:v.1.length=n) (hd:v.2.length=z) {w:List Bool} (hw:w.length=n):sp n (addF M v) w↔sp n M w∨sp n M (xorV w v.1):=by
 obtain ⟨l1,l2⟩:=redT_len h.lok hx hd M.length
 have l1:(red M v).1.length=n:=l1
 have hl:w.length=v.1.length:=by omega
 rcases add_cases h hx hd with e|⟨a,e,hf,_,_⟩
 ·rw [addF_old e]
  have hv:=(sp_first h hx hd).1 e
  constructor
  ·exact .inl
  ·rintro (q|q)
   ·exact q
   ·intro k
    have:=q k
    rw [rd_xor n M hl,hv k] at this
    simpa using this
 ·rw [addF_new e]
  have ha:a<n:=by
   have:=(List.getElem?_eq_some_iff.1 hf).1
   rw [h.lok.len] at this
   exact this
  have hxa:at_ (red M v).1 a=true:=by
   rcases first_cases (red M v).1 with q|⟨a',q,_,q2,_⟩
   ·omega
   ·have:a=a':=by omega
    subst this;exact q2
  have hr:∀ k,rd n (addM M a (red M v)) w k=(rd n M w k ^^ (rd n M w a && rd n M v.1 k)):=fun k=>by rw [rd_addM h.lok ha l1 hf,red_rd h hx hd]
  rw [red_rd h hx hd] at hxa
  constructor
  ·intro q
   cases hb:rd n M w a
   ·refine .inl (fun k=>?_)
    have:=q k
    rw [hr,hb] at this
    simpa using this
   ·refine .inr (fun k=>?_)
    have:=q k
    rw [hr,hb] at this
    rw [rd_xor n M hl]
    simpa using this
  ·rintro (q|q)
   ·intro k
    rw [hr,q k,q a];rfl
   ·have hq:∀ k,rd n M w k=rd n M v.1 k:=fun k=>by
     have:=q k
     rw [rd_xor n M hl] at this
     simpa using this
    intro k
    rw [hr,hq a,hxa,hq k]
    simp
theorem at_ext {a b:List Bool} (hl:a.length=b.length) (h:∀ k,at_ a k=at_ b k):a=b:=by
 apply List.ext_getElem hl
 intro i h1 h2
 have:=h i
 unfold at_ at this
 rw [List.getD_eq_getElem?_getD,List.getD_eq_getElem?_getD,List.getElem?_eq_getElem h1,List.getElem?_eq_getElem h2] at this
 exact this
def DOk (D:List Bool→List (BitVec 8)) (M:List (Option LN)):Prop:=∀ y,some y∈M→y.2=D y.1
def foldA (n:Nat) (D:List Bool→List (BitVec 8)) (rs:List (List Bool)):List (Option LN):=rs.foldl (fun M v=>addF M (v,D v)) (List.replicate n none)
theorem foldA_nil (n:Nat) (D:List Bool→List (BitVec 8)):foldA n D []=List.replicate n none:=rfl
theorem foldA_snoc (n:Nat) (D:List Bool→List (BitVec 8)) (rs:List (List Bool)) (v:List Bool):foldA n D (rs++[v])=addF (foldA n D rs) (v,D v):=by simp [foldA]
theorem rev_ind {α:Type} {P:List α→Prop} (h0:P []) (hs:∀ l a,P l→P (l++[a])) (l:List α):P l:=by
 have:∀ m:List α,P m.reverse:=by
  intro m
  induction m with
  | nil=>exact h0
  | cons a m ih=>rw [List.reverse_cons];exact hs _ _ ih
 simpa using this l.reverse
theorem foldA_RR {n z:Nat} {D:List Bool→List (BitVec 8)} (hD:∀ v,v.length=n→(D v).length=z):∀ rs:List (List Bool),(∀ v∈rs,v.length=n)→RR n z (foldA n D rs) :=
 rev_ind (fun _=>RR_none) (fun l a ih h=>by
  rw [foldA_snoc]
  exact addF_RR (ih (fun v hv=>h v (by simp [hv]))) (h a (by simp)) (hD a (h a (by simp))))
theorem foldA_sub {n z:Nat} {D:List Bool→List (BitVec 8)} (hD:∀ v,v.length=n→(D v).length=z) {T:List Bool→Prop} (h0:T (List.replicate n false)) (hx:∀ a b,a.length=n→b.length=n→T a→T b→T (xorV a b)):∀ rs:List (List Bool),(∀ v∈rs,v.length=n∧T v)→∀ w,w.length=n→sp n (foldA n D rs) w→T w :=
 rev_ind (fun _ w hw hs=>by
  have:w=List.replicate n false:=at_ext (by simp [hw]) (fun k=>by
   have h1:=hs k
   unfold rd at h1
   rw [xsB_zero (fun j hj=>?_),Bool.xor_false] at h1
   ·rw [h1]
    unfold at_
    rw [List.getD_eq_getElem?_getD,List.getElem?_replicate]
    split <;> rfl
   ·rw [rowAt_none (by rw [foldA_nil,List.getElem?_replicate,if_pos hj]),Bool.and_false])
  rw [this];exact h0)
 (fun l a ih h w hw hs=>by
  rw [foldA_snoc] at hs
  obtain ⟨ha,hTa⟩:=h a (by simp)
  have hl:∀ v∈l,v.length=n∧T v:=fun v hv=>h v (by simp [hv])
  rcases (sp_addF (foldA_RR hD l (fun v hv=>(hl v hv).1)) ha (hD a ha) hw).1 hs with q|q
  ·exact ih hl w hw q
  ·have hwl:(xorV w a).length=n:=by rw [xorV_len (by omega)];exact hw
   have h1:=hx _ _ hwl ha (ih hl _ hwl q) hTa
   have e:xorV (xorV w a) a=w:=at_ext (by rw [xorV_len (by omega),hwl,hw]) (fun k=>by
    have e1:at_ (xorV (xorV w a) a) k=(at_ (xorV w a) k ^^ at_ a k):=xorV_getD (by omega) k
    have e2:at_ (xorV w a) k=(at_ w k ^^ at_ a k):=xorV_getD (by omega) k
    rw [e1,e2];simp)
   rw [e] at h1
   exact h1)
def Lin (n z:Nat) (D:List Bool→List (BitVec 8)):Prop:=(∀ v,v.length=n→(D v).length=z)∧∀ a b,a.length=n→b.length=n→D (xorV a b)=xorL (D a) (D b)
theorem redT_D {n z:Nat} {D:List Bool→List (BitVec 8)} (hD:Lin n z D) {M:List (Option LN)} (h:LOk n z M) (hM:DOk D M) {x:LN} (hx:x.1.length=n) (hxd:x.2=D x.1):∀ i,(redT M x i).2=D (redT M x i).1
 | 0=>hxd
 | i+1=>by
  have ih:=redT_D hD h hM hx hxd i
  have hd:x.2.length=z:=by rw [hxd];exact hD.1 _ hx
  obtain ⟨l1,l2⟩:=redT_len h hx hd i
  rw [redT]
  cases ho:M.getD i none with
  | none=>exact ih
  | some y =>
   have hy:=mem_of_get? (getD_some ho)
   show (if at_ (redT M x i).1 i=true then addL (redT M x i) y else redT M x i).2=D (if at_ (redT M x i).1 i=true then addL (redT M x i) y else redT M x i).1
   split
   ·show xorL (redT M x i).2 y.2=D (xorV (redT M x i).1 y.1)
    rw [hD.2 _ _ l1 (h.ok y hy).1,ih,hM y hy]
   ·exact ih
theorem addF_D {n z:Nat} {D:List Bool→List (BitVec 8)} (hD:Lin n z D) {M:List (Option LN)} (h:RR n z M) (hM:DOk D M) {v:List Bool} (hv:v.length=n):DOk D (addF M (v,D v)):=by
 rcases add_cases h (v:=(v,D v)) hv (hD.1 v hv) with e|⟨a,e,hf,_,_⟩
 ·rw [addF_old e];exact hM
 ·rw [addF_new e]
  obtain ⟨l1,l2⟩:=redT_len h.lok (x:=(v,D v)) hv (hD.1 v hv) M.length
  have l1:(red M (v,D v)).1.length=n:=l1
  have hx:(red M (v,D v)).2=D (red M (v,D v)).1:=redT_D hD h.lok hM (x:=(v,D v)) hv rfl M.length
  intro y hy
  obtain ⟨i,hi⟩:=List.getElem?_of_mem hy
  rcases addM_get (List.getElem?_eq_some_iff.1 hf).1 hi with ⟨_,rfl⟩|⟨_,w,hw,rfl⟩
  ·exact hx
  ·have hwm:=mem_of_get? hw
   split
   ·show xorL w.2 (red M (v,D v)).2=D (xorV w.1 (red M (v,D v)).1)
    rw [hD.2 _ _ (h.lok.ok w hwm).1 l1,hM w hwm,hx]
   ·exact hM w hwm
theorem foldA_D {n z:Nat} {D:List Bool→List (BitVec 8)} (hD:Lin n z D):∀ rs:List (List Bool),(∀ v∈rs,v.length=n)→DOk D (foldA n D rs) :=
 rev_ind (fun _ y hy=>by cases List.eq_of_mem_replicate hy) (fun l a ih h=>by
  rw [foldA_snoc]
  have hl:∀ v∈l,v.length=n:=fun v hv=>h v (by simp [hv])
  exact addF_D hD (foldA_RR hD.1 l hl) (ih hl) (h a (by simp)))
theorem full_some:∀ {M:List (Option LN)},cntS M=M.length→∀ i,i<M.length→∃ y,M[i]?=some (some y)
 | [],_,i,hi=>by cases hi
 | none::M,h,i,hi=>by
  have:=cntS_le M
  simp only [cntS,List.length_cons] at h
  omega
 | some y::M,h,0,hi=>⟨y,rfl⟩
 | some y::M,h,i+1,hi=>by
  simp only [cntS,List.length_cons] at h
  have hi:i+1<M.length+1:=hi
  obtain ⟨u,hu⟩:=full_some (M:=M) (by omega) i (by omega)
  exact ⟨u,by simpa using hu⟩
theorem full_unit {n z:Nat} {M:List (Option LN)} (h:RR n z M) (hc:cntS M=n) {i:Nat} {y:LN} (hy:M[i]?=some (some y)) (k:Nat):at_ y.1 k=decide (k=i):=by
 have hi:i<n:=by rw [←h.lok.len];exact (List.getElem?_eq_some_iff.1 hy).1
 by_cases e:k=i
 ·subst e
  rw [h.fst k y hy];simp
 ·by_cases hk:k<n
  ·obtain ⟨w,hw⟩:=full_some (M:=M) (by rw [hc,h.lok.len]) k (by rw [h.lok.len];exact hk)
   rw [h.piv i k y w hy hw (fun q=>e q.symm)];simp [e]
  ·have:at_ y.1 k=false:=getD_out (by have:=(h.lok.ok y (mem_of_get? hy)).1;omega)
   rw [this];simp [e]
def xsum (g:Nat→BitVec 8):Nat→BitVec 8
 | 0=>0#8
 | n+1=>xsum g n ^^^ g n
def pickB (on:Bool) (x:BitVec 8):BitVec 8:=if on then x else 0#8
theorem xsum_congr {g h:Nat→BitVec 8} {n:Nat} (e:∀ i,i<n→g i=h i):xsum g n=xsum h n:=by
 induction n with
 | zero=>rfl
 | succ n ih=>rw [xsum,xsum,ih (fun i hi=>e i (by omega)),e n (by omega)]
theorem xsum_xor (g h:Nat→BitVec 8) (n:Nat):xsum (fun i=>g i ^^^ h i) n=xsum g n ^^^ xsum h n:=by
 induction n with
 | zero=>simp [xsum]
 | succ n ih =>
  rw [xsum,xsum,xsum,ih]
  rw [BitVec.xor_assoc,BitVec.xor_assoc]
  congr 1
  rw [←BitVec.xor_assoc,←BitVec.xor_assoc,BitVec.xor_comm (xsum h n)]
theorem xsum_zero {g:Nat→BitVec 8} {n:Nat} (e:∀ i,i<n→g i=0#8):xsum g n=0#8:=by
 induction n with
 | zero=>rfl
 | succ n ih=>rw [xsum,ih (fun i hi=>e i (by omega)),e n (by omega)];rfl
theorem xsum_add (g:Nat→BitVec 8) (a b:Nat):xsum g (a+b)=xsum g a ^^^ xsum (fun i=>g (a+i)) b:=by
 induction b with
 | zero=>simp [xsum]
 | succ b ih=>rw [←Nat.add_assoc,xsum,xsum,ih,BitVec.xor_assoc]
theorem xsum_one {g:Nat→BitVec 8} {n j:Nat} (hj:j<n) (e:∀ i,i<n→i≠j→g i=0#8):xsum g n=g j:=by
 induction n with
 | zero=>omega
 | succ n ih =>
  rw [xsum]
  by_cases h:j=n
  ·subst h
   rw [xsum_zero (fun i hi=>e i (by omega) (by omega))];simp
  ·rw [ih (by omega) (fun i hi hne=>e i (by omega) hne),e n (by omega) (fun q=>h q.symm)];simp
def at8 (l:List (List (BitVec 8))) (i k:Nat):BitVec 8:=(l.getD i []).getD k 0#8
def parS (f:Nat→Bool) (l:List (List (BitVec 8))) (z:Nat):List (BitVec 8):=(List.range z).map (fun k=>xsum (fun i=>pickB (f i) (at8 l i k)) l.length)
theorem parS_len (f:Nat→Bool) (l:List (List (BitVec 8))) (z:Nat):(parS f l z).length=z:=by simp [parS]
theorem parS_at (f:Nat→Bool) (l:List (List (BitVec 8))) (z k:Nat) (h:k<z):(parS f l z).getD k 0#8=xsum (fun i=>pickB (f i) (at8 l i k)) l.length:=by
 simp [parS,List.getD_eq_getElem?_getD,h]
theorem row_nothing (K P j:Nat) (hj:j<P) (b:Nat→Bool) (g:Nat→BitVec 8) (hp:g (K+j)=xsum (fun i=>pickB (b i) (g i)) K) :
  xsum (fun i=>pickB ((decide (i<K) && b i) || decide (i=K+j)) (g i)) (K+P)=0#8:=by
 rw [xsum_add,xsum_one (j:=j) hj (fun i hi hne=>?_),xsum_congr (h:=fun i=>pickB (b i) (g i)) (fun i hi=>?_),←hp]
 ·simp [pickB]
 ·have : ¬ i=K+j:=by omega
  simp [hi,this]
 ·have h1 : ¬ (K+i<K):=by omega
  have h2 : ¬ (K+i=K+j):=by omega
  simp [h1,pickB,hne]
open Go.RowKit Go.Proofs
set_option maxHeartbeats 2000000 in
theorem elim_Says (H:List Hl) (bm n z:Nat) (ar:Option Addr) (cr k:Nat) (M:List (Option RD)) (v:VD) (ML:List (Option LN)) (b:Bool) (hM:RdM (stars H) bm n z ar cr k M) (hML:M.map vw=ML) (hv:RdV (stars H) v) (hvn:v.n=n) (hb:decide (0≤firstV (red ML (v.l,List.replicate z 0#8)).1)=b) (ht:TabF (stars H)) :
  Spec Tryz.prog 162 [.pointer (some ⟨bm,0,none⟩),Pv v] H (fun _:Unit=>True) (fun _ => .bool b) (fun _=>H):=by
 refine spec_pure (res:=fun _=>[]) H Tryz.func162 rfl Tryz.ntmps162 (by kernel_rfl) rfl (fun W=>?_)
 have hLk:=hM.ok.vw
 have hvl:v.l.length=n:=by rw [hv.ok.len,hvn]
 rw [hML] at hLk
 obtain ⟨x,hx⟩:∃ x,red ML (v.l,List.replicate z 0#8)=x:=⟨_,rfl⟩
 obtain ⟨hxl,hxd⟩:x.1.length=n∧x.2.length=z:=by rw [←hx];exact redT_len hLk hvl (by simp) _
 rw [hx] at hb
 have l3:=hM.ok.n2
 have hpn:=padD_nil z
 obtain ⟨xl,xd⟩:=x
 dsimp only at hxl hxd hb
 repeat' (first|intro _|refine cw ?_|refine cw2 ?_ ?_|refine o1_pneq rfl rfl ?_|(refine k_fn 197 ?_;(refine o1_call (fun _=>elim_reduced _ bm n z ar cr k M v none 0 0 [] hM.up hv.up hvn (Rs.nil (by decide)) rfl (Nat.zero_le _)) rfl (fun ⟨b7,⟨vb,vn,va,vc,vl⟩,ad7,z7,cd7,d7⟩ hr=>?_);dsimp only at hr ⊢;obtain ⟨rfl,rfl,hr3⟩:=hr;rw [hML,hpn,hx] at hr3;obtain ⟨rfl,rfl⟩:=Prod.mk.inj hr3))|(refine k_fn 198 ?_;refine o1_call (fun hh=>vec_First _ ⟨vb,vn,va,vc,vl⟩ (RdV.own hxl l3 hh) ht.up) rfl (fun _ _=>?_))|(refine k_binOp .geq ?_;refine o1_geq_d rfl rfl ?_)|refine ow ?_|refine ow2 ?_ ?_|fail)
 refine rt_tmp () rfl rfl ?_ trivial ?_
 ·show Value.bool _=Value.bool b
  rw [←hb]
 exact ent
def p0 (seed:BitVec 8) (i:Nat):BitVec 8:=BitVec.ofInt 8 (i:Int)*37#8+seed
def p1 (seed:BitVec 8) (i:Nat):BitVec 8:=BitVec.ofInt 8 (i:Int) ^^^ seed
end Go.Dp
namespace Go.Dp
def mixA (x:BitVec 32):BitVec 32:=(x ^^^ (x >>> 16))*0x7feb352d#32
def mixB (x:BitVec 32):BitVec 32:=(x ^^^ (x >>> 15))*0x846ca68b#32
def mixR (x:BitVec 32):BitVec 32:=mixB (mixA x) ^^^ (mixB (mixA x) >>> 16)
def srcNew (a b:BitVec 32):BitVec 32:=mixR a+b*0x9e3779b9#32+1#32
def nzR (s:BitVec 32):BitVec 32:=if s=0#32 then 1#32 else s
def stepA (x:BitVec 32):BitVec 32:=x ^^^ (x <<< 13)
def stepB (x:BitVec 32):BitVec 32:=x ^^^ (x >>> 17)
def stepC (x:BitVec 32):BitVec 32:=x ^^^ (x <<< 5)
def srcNx (s:BitVec 32):BitVec 32:=stepC (stepB (stepA (nzR s)))
def srcAt (s:BitVec 32):Nat→BitVec 32
 | 0=>s
 | n+1=>srcNx (srcAt s n)
def numR (s:BitVec 32) (n:Nat):BitVec 32:=mixR (srcAt s (n+1))
def oddR (s:BitVec 32) (n:Nat):Bool:=decide ((numR s n &&& 1#32)=1#32)
def parR (sess:BitVec 32) (K j:Nat) (i:Nat):Bool:=(decide (i<K) && oddR (srcNew sess (BitVec.ofNat 32 (2147483648+j))) i) || decide (i=K+j)
def rowR (sess:BitVec 32) (n K j:Nat):List Bool:=(List.range n).map (parR sess K j)
theorem rowR_len (sess:BitVec 32) (n K j:Nat):(rowR sess n K j).length=n:=by simp [rowR]
theorem rowR_at (sess:BitVec 32) (n K j i:Nat) (h:i<n):(rowR sess n K j).getD i false=parR sess K j i:=by simp [rowR,List.getD_eq_getElem?_getD,h]
def rowTill (sess:BitVec 32) (n K j i:Nat):List Bool:=(List.range n).map (fun m=>(decide (m<i) && (decide (m<K) && oddR (srcNew sess (BitVec.ofNat 32 (2147483648+j))) m)) || decide (m=K+j))
theorem rowTill_len (sess:BitVec 32) (n K j i:Nat):(rowTill sess n K j i).length=n:=by simp [rowTill]
theorem rowTill_at (sess:BitVec 32) (n K j i m:Nat) (h:m<n):(rowTill sess n K j i).getD m false=((decide (m<i) && (decide (m<K) && oddR (srcNew sess (BitVec.ofNat 32 (2147483648+j))) m)) || decide (m=K+j)):=by simp [rowTill,List.getD_eq_getElem?_getD,h]
theorem rowTill_all (sess:BitVec 32) (n K j:Nat):rowTill sess n K j K=rowR sess n K j:=by
 refine bits_ext (by simp [rowTill,rowR]) (fun m hm=>?_)
 rw [rowTill_len] at hm
 rw [rowTill_at _ _ _ _ _ _ hm,rowR_at _ _ _ _ _ hm,parR]
 by_cases h:m<K <;> simp [h]
theorem rowTill_zero (sess:BitVec 32) (n K j:Nat) (h:K+j<n):rowTill sess n K j 0=bitsOf n [((K+j:Nat):Int)]:=by
 refine bits_ext (by rw [rowTill_len,bitsOf_len]) (fun m hm=>?_)
 rw [rowTill_len] at hm
 rw [rowTill_at _ _ _ _ _ _ hm,bitsOf_at _ _ _ hm]
 simp only [Nat.not_lt_zero,decide_false,Bool.false_and,Bool.false_or,List.mem_singleton]
 by_cases q:m=K+j
 ·subst q;simp
 ·have : ¬ ((m:Int)=((K+j:Nat):Int)):=by omega
  rw [decide_eq_false q,decide_eq_false this]
theorem rowTill_succ (sess:BitVec 32) (n K j i:Nat) (hi:i<K) (hn:K≤n):rowTill sess n K j (i+1)=(rowTill sess n K j i).set i (oddR (srcNew sess (BitVec.ofNat 32 (2147483648+j))) i):=by
 refine bits_ext (by simp [rowTill]) (fun m hm=>?_)
 rw [rowTill_len] at hm
 rw [atD_set,rowTill_len,rowTill_at _ _ _ _ _ _ hm,rowTill_at _ _ _ _ _ _ hm]
 by_cases q:i=m
 ·subst q
  have h2 : ¬ i=K+j:=by omega
  simp [hi,hm,h2]
 ·rw [if_neg (fun h=>q h.1)]
  by_cases h3:m<i
  ·simp [h3,show m<i+1 by omega]
  ·simp [h3,show ¬ m<i+1 by omega]
open Go.RowKit Go.Proofs
def rtR1_0:List Row:=[⟨some 8,[],[],none⟩,⟨some 9,[0],[0],none⟩,⟨some 10,[1],[0,1],none⟩,⟨some 11,[],[],none⟩,⟨some 12,[3],[3],none⟩,⟨some 13,[],[],none⟩,⟨some 14,[5],[5],none⟩,⟨some 15,[4,6],[3,4,5,6],none⟩,⟨some 16,[7],[3,4,5,6,7],none⟩,⟨some 17,[2,8,4],[0,1,2,3,4,5,6,7,8],none⟩]
theorem xf_load:XFn Tryz.prog 203 (Extern.Atomic.loadT (.int .u32)):=⟨by kernel_rfl,by kernel_rfl⟩
theorem xf_store:XFn Tryz.prog 208 Extern.Atomic.storeT:=⟨by kernel_rfl,by kernel_rfl⟩
theorem xf_cas:XFn Tryz.prog 212 (Extern.Atomic.casT (.int .u32)):=⟨by kernel_rfl,by kernel_rfl⟩
abbrev rB (b:Nat) (s:BitVec 32):Hl := .box b 258 [W4 s]
theorem at_Load (H:List Hl) (b:Nat) (s:BitVec 32) :
  Spec Tryz.prog 188 [.pointer (some ⟨b,0,none⟩)] (rB b s::H) (fun _:Unit=>True) (fun _=>W4 s) (fun _=>rB b s::H):=by
 refine spec_fn (res:=fun _:Unit=>[rB b s]) [rB b s] H Tryz.func188 rfl Tryz.ntmps188 (by kernel_rfl) rfl (fun W=>?_)
 dsimp only [List.cons_append,List.nil_append]
 repeat' (first|intro _|refine cw ?_|refine cw2 ?_ ?_|refine o1_xload xf_load rfl (b:=b) (i:=0) rfl ?_|refine ow ?_|refine ow2 ?_ ?_|fail)
 refine rt_tmp () rfl rfl rfl trivial ?_
 exact ent
theorem at_Store (H:List Hl) (b:Nat) (s x:BitVec 32) :
  Spec Tryz.prog 179 [.pointer (some ⟨b,0,none⟩),W4 x] (rB b s::H) (fun _:Unit=>True) (fun _ => .tuple #[]) (fun _=>rB b x::H):=by
 refine spec_fn (res:=fun _:Unit=>[rB b x]) [rB b s] H Tryz.func179 rfl Tryz.ntmps179 (by kernel_rfl) rfl (fun W=>?_)
 dsimp only [List.cons_append,List.nil_append]
 repeat' (first|intro _|refine cw ?_|refine cw2 ?_ ?_|refine o1_xstore xf_store rfl (b:=b) (i:=0) (by simp) ?_|refine ow ?_|refine ow2 ?_ ?_|fail)
 refine rt_none () rfl rfl trivial ?_
 exact ent
theorem nzR_eq (s:BitVec 32):(s=0#32∧nzR s=1#32)∨(¬ (s.toNat:Int)=0∧s≠0#32∧nzR s=s):=by
 by_cases h:s=0#32
 ·exact .inl ⟨h,by simp [nzR,h]⟩
 ·refine .inr ⟨fun e=>h (BitVec.eq_of_toNat_eq ?_),h,by simp [nzR,h]⟩
  simp;omega
theorem at_CAS (H:List Hl) (b:Nat) (s:BitVec 32) :
  Spec Tryz.prog 187 [.pointer (some ⟨b,0,none⟩),.int .u32 0,.int .u32 1] (rB b s::H) (fun _:Unit=>True) (fun _ => .bool (decide (s=0#32))) (fun _=>rB b (nzR s)::H):=by
 refine spec_fn (res:=fun _:Unit=>[rB b (nzR s)]) [rB b s] H Tryz.func187 rfl Tryz.ntmps187 (by kernel_rfl) rfl (fun W=>?_)
 dsimp only [List.cons_append,List.nil_append]
 rcases nzR_eq s with ⟨h,e⟩|⟨h,h2,e⟩
 ·rw [e]
  subst h
  repeat' (first|intro _|refine cw ?_|refine cw2 ?_ ?_|refine o1_xcas_t xf_cas rfl (b:=b) (i:=0) rfl ?_|refine ow ?_|refine ow2 ?_ ?_|fail)
  refine rt_tmp () rfl rfl rfl trivial ?_
  exact ent
 ·rw [e]
  repeat' (first|intro _|refine cw ?_|refine cw2 ?_ ?_|refine o1_xcas_f xf_cas rfl (b:=b) (i:=0) rfl h ?_|refine ow ?_|refine ow2 ?_ ?_|fail)
  refine rt_tmp () rfl rfl (by simp [h2]) trivial ?_
  exact ent
theorem rand_mix (H:List Hl) (x:BitVec 32) :
  Spec Tryz.prog 180 [W4 x] H (fun _:Unit=>True) (fun _=>W4 (mixR x)) (fun _=>H):=by
 refine spec_pure (res:=fun _=>[]) H Tryz.func180 rfl Tryz.ntmps180 (by kernel_rfl) rfl (fun W=>?_)
 have k1:∀ x:BitVec 32,(x ^^^ (x >>> (16:Int).toNat))*0x7feb352d#32=mixA x:=fun _=>rfl
 have k2:∀ x:BitVec 32,(x ^^^ (x >>> (15:Int).toNat))*0x846ca68b#32=mixB x:=fun _=>rfl
 have k3:mixB (mixA x) ^^^ (mixB (mixA x) >>> (16:Int).toNat)=mixR x:=rfl
 repeat' (first|intro _|refine cw ?_|refine cw2 ?_ ?_|(refine k_binOp .mul ?_;first|(refine o1_umul (v:=0x7feb352d#32) rfl rfl ?_;rw [k1])|(refine o1_umul (v:=0x846ca68b#32) rfl rfl ?_;rw [k2]))|(refine k_binOp .xor ?_;(refine o1_uxor rfl rfl ?_;rw [k3]))|refine ow ?_|refine ow2 ?_ ?_|fail)
 refine rt_tmp () rfl rfl rfl trivial ?_
 exact ent
theorem rand_New (H:List Hl) (a c:BitVec 32) :
  Spec Tryz.prog 137 [W4 a,W4 c] H (fun _:Nat=>True) (fun b => .pointer (some ⟨b,0,none⟩)) (fun b=>rB b (srcNew a c)::H):=by
 refine spec_pure (res:=fun b:Nat=>[rB b (srcNew a c)]) H Tryz.func137 rfl Tryz.ntmps137 (by kernel_rfl) rfl (fun W=>?_)
 repeat' (first|intro _|refine cw ?_|refine cw2 ?_ ?_|(refine k_box ?_;refine o1_box rfl rfl (fun b1=>?_))|refine ow ?_|refine ow2 ?_ ?_|fail)
 refine st_stages' [(5,_),(0,_),(1,_)] rtR1_0 [9] [⟨[0,1,2,3,4,5,6,7,8],[],some 9⟩,⟨[],[],none⟩] mixed cv (by kernel_rfl) (by kernel_rfl) ?_
 repeat' (first|intro _|refine sg ?_|(refine p_fn 180 ?_;refine po (by first|refine o1_call (fun _=>rand_mix _ a) rfl (fun _ _=>fz)|fail) ?_)|(refine p_binOp .mul ?_;refine po (by first|refine o1_umul (v:=0x9e3779b9#32) rfl rfl fz|fail) ?_)|(refine p_binOp .add ?_;refine po (by first|refine o1_uadd (v:=1#32) rfl rfl fz|fail) ?_)|refine pw ?_|refine pdd ?_|(refine k_fn 179 ?_;refine o1_call_box (b:=b1) (fun _=>at_Store _ b1 0#32 (mixR a+c*0x9e3779b9#32+1#32)) rfl (fun _ _=>?_))|refine ow ?_|fail)
 all_goals dsimp only [List.cons_append,List.nil_append]
 repeat' (first|intro _|refine cw ?_|refine cw2 ?_ ?_|refine ow ?_|refine ow2 ?_ ?_|fail)
 refine rt_tmp b1 rfl rfl rfl trivial ?_
 exact ent
theorem rand_Next (H:List Hl) (b:Nat) (s:BitVec 32) :
  Spec Tryz.prog 141 [.pointer (some ⟨b,0,none⟩)] (rB b s::H) (fun _:Unit=>True) (fun _=>W4 (mixR (srcNx s))) (fun _=>rB b (srcNx s)::H):=by
 refine spec_fn (res:=fun _:Unit=>[rB b (srcNx s)]) [rB b s] H Tryz.func141 rfl Tryz.ntmps141 (by kernel_rfl) rfl (fun W=>?_)
 dsimp only [List.cons_append,List.nil_append]
 have k1:∀ x:BitVec 32,x ^^^ (x <<< (13:Int).toNat)=stepA x:=fun _=>rfl
 have k2:∀ x:BitVec 32,x ^^^ (x >>> (17:Int).toNat)=stepB x:=fun _=>rfl
 have k3:∀ x:BitVec 32,x ^^^ (x <<< (5:Int).toNat)=stepC x:=fun _=>rfl
 have k4:stepC (stepB (stepA (nzR s)))=srcNx s:=rfl
 repeat' (first|intro _|refine cw ?_|refine cw2 ?_ ?_|refine o1_peql rfl rfl ?_|(refine k_fn 187 ?_;refine o1_call_box (b:=b) (fun _=>at_CAS _ b s) rfl (fun _ _=>?_))|(refine k_fn 188 ?_;refine o1_call_box (b:=b) (fun _=>at_Load _ b (nzR s)) rfl (fun _ _=>?_))|(refine k_binOp .xor ?_;first|(refine o1_uxor rfl rfl ?_;rw [k1])|(refine o1_uxor rfl rfl ?_;rw [k2])|(refine o1_uxor rfl rfl ?_;rw [k3,k4]))|(refine k_fn 179 ?_;refine o1_call_box (b:=b) (fun _=>at_Store _ b (nzR s) (srcNx s)) rfl (fun _ _=>?_))|(refine k_fn 180 ?_;refine o1_call (fun _=>rand_mix _ (srcNx s)) rfl (fun _ _=>?_))|refine ow ?_|refine ow2 ?_ ?_|fail)
 refine rt_tmp () rfl rfl rfl trivial ?_
 exact ent
abbrev parV (s:BitVec 32) (k p z:Int):Value := .agg #[W4 s,I k,I p,I z]
theorem spread_Pieces (H:List Hl) (s:BitVec 32) (k p z:Int):Spec Tryz.prog 135 [parV s k p z] H (fun _:Unit=>True) (fun _=>I (if mayP k p z=true then k+p else 0)) (fun _=>H):=by
 refine spec_pure (res:=fun _=>[]) H Tryz.func135 rfl Tryz.ntmps135 (by kernel_rfl) rfl (fun W=>?_)
 cases hm:mayP k p z
 ·repeat' (first|intro _|refine cw ?_|refine cw2 ?_ ?_|(refine k_fn 106 ?_;refine o1_call (fun _=>(spread_May _ _ _ _ _).bv (b:=false) hm) rfl (fun _ _=>?_))|refine ow ?_|refine ow2 ?_ ?_|fail)
  refine rt_tmp () rfl rfl rfl trivial ?_
  exact ent
 ·have hb:1≤k∧k≤64∧0≤p∧p≤16∧1≤z∧z≤16:=by simpa [mayP] using hm
  repeat' (first|intro _|refine cw ?_|refine cw2 ?_ ?_|(refine k_fn 106 ?_;refine o1_call (fun _=>(spread_May _ _ _ _ _).bv (b:=true) hm) rfl (fun _ _=>?_))|refine ow ?_|refine ow2 ?_ ?_|fail)
  refine rt_tmp () rfl rfl rfl trivial ?_
  exact ent
theorem odd_of (x:BitVec 32):decide (((x &&& 1#32).toNat:Int)=1)=decide (x &&& 1#32=1#32):=by
 by_cases h:x &&& 1#32=1#32
 ·simp [h]
 ·have : ¬ (((x &&& 1#32).toNat:Int)=1):=fun e=>h (BitVec.eq_of_toNat_eq (by simp only [BitVec.toNat_ofNat];omega))
  rw [decide_eq_false this,decide_eq_false h]
theorem apart_of (j:Nat):BitVec.ofInt 32 (2147483648+(j:Int))=BitVec.ofNat 32 (2147483648+j):=by
 apply BitVec.eq_of_toNat_eq
 simp only [BitVec.toNat_ofInt,BitVec.toNat_ofNat]
 omega
def rowsL (s:BitVec 32) (K P:Nat):List (List Bool):=(List.range P).map (rowR s (K+P) K)
set_option maxHeartbeats 2000000 in
theorem precode_Rows (H:List Hl) (s:BitVec 32) (K P:Nat) (z:Int) (hm:mayP K P z=true) :
  Spec Tryz.prog 176 [parV s K P z] H (fun r:Option Addr × Nat × List VD=>r.2.2.map (·.l)=rowsL s K P∧∀ v∈r.2.2,v.ok∧v.n=K+P) (fun r => .slice r.1 r.2.2.length r.2.1)
   (fun r => .row 148 1 (.slice r.1 r.2.2.length r.2.1) r.2.2.length (r.2.2.map Pv) :: .any (vecs r.2.2)::H):=by
 refine spec_pure (res:=fun r:Option Addr × Nat × List VD=>[.row 148 1 (.slice r.1 r.2.2.length r.2.1) r.2.2.length (r.2.2.map Pv),.any (vecs r.2.2)]) H Tryz.func176 rfl Tryz.ntmps176 (by kernel_rfl) rfl (fun W=>?_)
 have hb:1≤(K:Int)∧(K:Int)≤64∧0≤(P:Int)∧(P:Int)≤16∧1≤z∧z≤16:=by simpa [mayP] using hm
 obtain ⟨b1,b2,b3,b4,b5,b6⟩:=hb
 have hnv:((K:Int)+P)=((K+P:Nat):Int):=by push_cast;rfl
 repeat' (first|intro _|refine cw ?_|refine cw2 ?_ ?_|(refine k_box ?_;refine o1_box rfl rfl (fun bp=>?_))|(refine k_fn 135 ?_;refine o1_call (fun _=>(spread_Pieces _ _ _ _ _).vv (b:=I (K+P:Nat)) (by rw [if_pos hm,hnv])) rfl (fun _ _=>?_))|refine ow ?_|refine ow2 ?_ ?_|fail)
 refine st_ent (ent_nil 148 Pv) (st_ent (fun h hh=>sel_swap h (vecs_nil h hh)) ?_)
 refine st_loop (S:=Nat × Option Addr × Nat × List VD) (fun q=>[(1,.pointer (some ⟨bp,0,none⟩)),(3,I (K+P:Nat)),(4,.slice q.2.1 q.2.2.2.length q.2.2.1),(14,I P),(15,I q.1)])
  (fun q=>[.row 148 1 (.slice q.2.1 q.2.2.2.length q.2.2.1) q.2.2.2.length (q.2.2.2.map Pv),.any (vecs q.2.2.2),.box bp 91 [W4 s,I K,I P,I z],.any (stars H)])
  (fun q=>q.1≤P∧q.2.2.2.map (·.l)=(List.range q.1).map (rowR s (K+P) K)∧∀ v∈q.2.2.2,v.ok∧v.n=K+P) (fun q=>P - q.1) (0,none,0,[]) ⟨by omega,rfl,by simp⟩
  cv ent ?_
 rintro ⟨j,a1,c1,vs⟩ ⟨hj,hvs,hok⟩
 dsimp only at hj hvs hok ⊢
 have hlen:vs.length=j:=by have:=congrArg List.length hvs;simpa using this
 by_cases hlt:j<P
 ·have e1:((K:Int)+j)=((K+j:Nat):Int):=by push_cast;rfl
  repeat' (first|intro _|refine cw ?_|refine cw2 ?_ ?_|(refine k_binOp .add ?_;(refine o1_add rfl rfl (by omega) ?_;rw [e1]))|(refine k_buildSlice ?_;refine o1_lit_enc I [((K+j:Nat):Int)] rfl rfl rfl (fun _=>rfl) rfl rfl rfl (fun b3=>?_))|(refine k_fn 136 ?_;(refine o1_call (fun hh=>vec_Of _ (K+P) (some ⟨b3,0,none⟩) 1 [((K+j:Nat):Int)] (by omega) (rx_box (T:=3) rfl (by decide) hh)) rfl (fun ⟨b4,a4,c4⟩ _=>?_);dsimp only;rw [←rowTill_zero s (K+P) K j (by omega)]))|(refine k_fn 137 ?_;refine o1_call (fun _=>rand_New _ s (BitVec.ofInt 32 (2147483648+(j:Int)))) rfl (fun b7 _=>?_))|refine ow ?_|refine ow2 ?_ ?_|fail)
  rw [apart_of]
  obtain ⟨s0,hs0⟩:∃ s0,srcNew s (BitVec.ofNat 32 (2147483648+j))=s0:=⟨_,rfl⟩
  rw [hs0]
  refine st_loop (S:=Nat) (fun i=>[(1,.pointer (some ⟨bp,0,none⟩)),(3,I (K+P:Nat)),(4,.slice a1 vs.length c1),(5,I j),(6,.pointer (some ⟨b4,0,none⟩)),(7,.pointer (some ⟨b7,0,none⟩)),(14,I P),(15,I j),(32,I K),(33,I i)])
   (fun i=>[vB b4 (K+P) a4 c4,vR (K+P) a4 c4 (rowTill s (K+P) K j i),rB b7 (srcAt s0 i),.row 148 1 (.slice a1 vs.length c1) vs.length (vs.map Pv),.any (vecs vs),.box bp 91 [W4 s,I K,I P,I z],.any (stars H)]) (fun i=>i≤K) (fun i=>K - i) 0 (Nat.zero_le _)
   cv (by show Ent _ [vB b4 (K+P) a4 c4,vR (K+P) a4 c4 (rowTill s (K+P) K j 0),rB b7 s0,.row 148 1 (.slice a1 vs.length c1) vs.length (vs.map Pv),.any (vecs vs),.box bp 91 [W4 s,I K,I P,I z],.any (stars H)];exact ent) ?_
  intro i hi
  by_cases hit:i<K
  ·have e2:setB (rowTill s (K+P) K j i) i (decide (((mixR (srcNx (srcAt s0 i)) &&& 1#32).toNat:Int)=1))=rowTill s (K+P) K j (i+1):=by
    rw [setB_nat _ _ _ (by rw [rowTill_len];omega),rowTill_succ _ _ _ _ _ hit (by omega),odd_of,hs0];rfl
   have e3:srcNx (srcAt s0 i)=srcAt s0 (i+1):=rfl
   repeat' (first|intro _|refine cw ?_|refine cw2 ?_ ?_|(refine k_fn 141 ?_;refine o1_call_box (b:=b7) (fun _=>rand_Next _ b7 (srcAt s0 i)) rfl (fun _ _=>?_))|(refine k_binOp .and ?_;refine o1_uand (v:=1#32) rfl rfl ?_)|(refine k_binOp .eql ?_;refine o1_eql_d rfl rfl ?_)|(refine k_fn 178 ?_;(refine o1_call_br b4 a4 c4 (fun _=>vec_Set _ b4 (K+P) a4 c4 (rowTill s (K+P) K j i) i (decide (((mixR (srcNx (srcAt s0 i)) &&& 1#32).toNat:Int)=1)) (rowTill_len _ _ _ _ _) (by omega)) rfl (fun _ _=>?_);rw [e2,e3]))|refine ow ?_|refine ow2 ?_ ?_|fail)
   refine nx_again (i+1) (by omega) (by omega) cv ?_
   exact ent
  ·have:i=K:=by omega
   subst this
   rw [rowTill_all]
   obtain ⟨v,hv⟩:∃ v:VD,v=⟨b4,i+P,a4,c4,rowR s (i+P) i j⟩:=⟨_,rfl⟩
   have hvl:v.l=rowR s (i+P) i j:=by rw [hv]
   have hvn:v.n=i+P:=by rw [hv]
   have hvk:v.ok:=⟨by rw [hvl,hvn,rowR_len],by rw [hvn];omega⟩
   have hvp:Pv v = .pointer (some ⟨b4,0,none⟩):=by rw [hv]
   repeat' (first|intro _|refine cw ?_|refine cw2 ?_ ?_|(refine k_buildSlice ?_;refine o1_lit_enc Pv [v] rfl rfl (by rw [hv];rfl) (fun _=>rfl) rfl rfl rfl (fun b8=>?_))|(refine k_call ?_;refine ox_append (xs:=vs) (ys:=[v]) rfl rfl (rx_box rfl (by decide)) rfl rfl (fun _=>rfl) (by omega) (by omega) (fun a9 c9=>?_))|refine ow ?_|refine ow2 ?_ ?_|fail)
   refine nx_vec (vs:=vs) v (R:=[.row 148 1 (.slice a9 (vs.length+1) c9) (vs.length+1) ((vs++[v]).map Pv),.box bp 91 [W4 s,I i,I P,I z],.any (stars H)]) (by rw [hv];exact ent) ?_
   refine nx_again (j+1,a9,c9,vs++[v]) ⟨?_,?_,?_⟩ ?_ (cov_cons rfl rfl (cov_cons rfl rfl (cov_cons rfl ?_ cv))) ?_
   ·show j+1≤P;omega
   ·show (vs++[v]).map (·.l)=_
    rw [List.map_append,hvs,List.range_succ,List.map_append]
    simp [hvl]
   ·intro u hu
    rcases List.mem_append.1 hu with hu|hu
    ·exact hok u hu
    ·obtain rfl:u=v:=by simpa using hu
     exact ⟨hvk,hvn⟩
   ·show P - (j+1)<P - j;omega
   ·show Value.slice a9 _ c9=Value.slice a9 (vs++[v]).length c9
    rw [List.length_append];rfl
   ·show Ent _ [.row 148 1 (.slice a9 (vs++[v]).length c9) (vs++[v]).length ((vs++[v]).map Pv),.any (vecs (vs++[v])),.box bp 91 [W4 s,I i,I P,I z],.any (stars H)]
    rw [List.length_append,List.length_singleton]
    exact ent
 ·have:j=P:=by omega
  subst this
  repeat' (first|intro _|refine cw ?_|refine cw2 ?_ ?_|refine ow ?_|refine ow2 ?_ ?_|fail)
  refine rt_tmp (a1,c1,vs) rfl rfl rfl ⟨hvs,hok⟩ ?_
  exact ent
def rtD22_0:List Row:=[⟨some 5,[],[],none⟩,⟨some 6,[0],[0],none⟩,⟨some 7,[1],[0,1],none⟩,⟨some 8,[2],[0,1,2],some (2,true)⟩,⟨some 9,[3,2],[0,1,2,3],some (2,true)⟩,⟨some 10,[4,2],[0,1,2,3,4],some (2,true)⟩,⟨some 11,[5,2],[0,1,2,3,4,5],some (2,true)⟩,⟨some 12,[2],[0,1,2],some (2,true)⟩,⟨some 13,[7,2],[0,1,2,7],some (2,true)⟩,⟨some 14,[8,2],[0,1,2,7,8],some (2,true)⟩,⟨some 15,[9,2],[0,1,2,7,8,9],some (2,true)⟩,⟨some 16,[2],[0,1,2],some (2,true)⟩,⟨some 17,[10,11,2,2],[0,1,2,7,8,9,10,11],some (2,true)⟩,⟨some 18,[6,12,12,2],[0,1,2,3,4,5,6,7,8,9,10,11,12],some (2,true)⟩,⟨some 19,[2,13],[0,1,2,3,4,5,6,7,8,9,10,11,12,13],none⟩,⟨some 4,[14,13,0,1,2,3,4,5,6,7,8,9,10,11,12,13,14],[0,1,2,3,4,5,6,7,8,9,10,11,12,13,14],none⟩]
def rtD22_1:List Row:=[⟨some 7,[],[],none⟩,⟨some 8,[0],[0],none⟩,⟨some 9,[1],[0,1],none⟩,⟨some 10,[2],[0,1,2],some (2,false)⟩,⟨some 11,[3,2],[0,1,2,3],some (2,false)⟩,⟨some 12,[4,2],[0,1,2,3,4],some (2,false)⟩,⟨some 13,[5,2],[0,1,2,3,4,5],some (2,false)⟩,⟨some 14,[2],[0,1,2],some (2,false)⟩,⟨some 15,[7,2],[0,1,2,7],some (2,false)⟩,⟨some 16,[8,2],[0,1,2,7,8],some (2,false)⟩,⟨some 17,[9,2],[0,1,2,7,8,9],some (2,false)⟩,⟨some 18,[2],[0,1,2],some (2,false)⟩,⟨some 19,[10,11,2,2],[0,1,2,7,8,9,10,11],some (2,false)⟩,⟨some 20,[2],[0,1,2],some (2,false)⟩,⟨some 21,[6,12,13,12,2],[0,1,2,3,4,5,6,7,8,9,10,11,12,13],some (2,false)⟩,⟨some 22,[14,2],[0,1,2,3,4,5,6,7,8,9,10,11,12,13,14],some (2,false)⟩,⟨some 23,[2,15],[0,1,2,3,4,5,6,7,8,9,10,11,12,13,14,15],none⟩]
def rtD22_2:List Row:=[⟨some 5,[],[],none⟩,⟨some 6,[0],[0],none⟩,⟨some 7,[1],[0,1],none⟩,⟨some 8,[2],[0,1,2],none⟩,⟨some 9,[3],[0,1,2,3],none⟩,⟨some 10,[],[],none⟩,⟨some 11,[5],[5],none⟩,⟨some 12,[6],[5,6],none⟩,⟨some 13,[7],[5,6,7],none⟩,⟨some 14,[8,4],[0,1,2,3,4,5,6,7,8],none⟩,⟨some 15,[4,9],[0,1,2,3,4,5,6,7,8,9],none⟩,⟨some 2,[10,9,0,1,2,3,4,5,6,7,8,9,10],[0,1,2,3,4,5,6,7,8,9,10],none⟩]
def rtD22_3:List Row:=[⟨some 9,[],[],none⟩,⟨some 10,[],[],none⟩,⟨some 11,[1],[1],none⟩,⟨some 12,[],[],none⟩,⟨some 13,[3],[3],none⟩,⟨some 14,[2,4,2],[1,2,3,4],none⟩,⟨some 15,[0,5],[0,1,2,3,4,5],none⟩,⟨some 16,[6],[0,1,2,3,4,5,6],none⟩,⟨some 3,[7,5,0,1,2,3,4,5,6,7],[0,1,2,3,4,5,6,7],none⟩]
def rtD22_4:List Row:=[⟨some 24,[],[],none⟩,⟨some 25,[0],[0],none⟩,⟨some 26,[1],[0,1],none⟩,⟨some 27,[2],[0,1,2],none⟩,⟨some 28,[],[],none⟩,⟨some 29,[],[],none⟩,⟨some 30,[5],[5],none⟩,⟨some 31,[6,6],[5,6],none⟩,⟨some 32,[3,4,7],[0,1,2,3,4,5,6,7],none⟩]
theorem elim_AddF (H:List Hl) (bm n z:Nat) (ar:Option Addr) (cr:Nat) (M:List (Option RD)) (v:VD) (ad0:Option Addr) (m0 c0:Nat) (dd:List (BitVec 8)) (ML:List (Option LN)) (hk:MOk n z M) (hML:M.map vw=ML) (hR:RR n z ML) (hv:RdV (stars H) v) (hvn:v.n=n) (hd:Rs (stars H) B ad0 c0 dd) (hm0:m0=dd.length) (hdl:dd.length=z) (ht:TabF (stars H)) :
  Spec Tryz.prog 168 [.pointer (some ⟨bm,0,none⟩),Pv v,.slice ad0 m0 c0] (mB bm n z ar cr (cntS ML)::mR n ar cr M :: .any (mrows M)::H) (fun M':List (Option RD)=>M'.map vw=addF ML (v.l,dd)∧MOk n z M') (fun _ => .bool (decide (firstV (red ML (v.l,dd)).1 ≠ -1))) (fun M'=>mB bm n z ar cr (cntS (addF ML (v.l,dd)))::mR n ar cr M' :: .any (mrows M')::H):=by
 have hvl:v.l.length=n:=by rw [hv.ok.len,hvn]
 have hcn:cntS ML≤1000:=by have h1:=cntS_le ML;have h2:=hR.lok.len;have h3:=hk.n2;omega
 refine Spec.shut (res:=fun M':List (Option RD)=>[mB bm n z ar cr (cntS (addF ML (v.l,dd))),mR n ar cr M',.any (mrows M')]) [mB bm n z ar cr (cntS ML),mR n ar cr M,.any (mrows M)] H ?_
 dsimp only [List.cons_append,List.nil_append]
 rcases add_cases hR (v:=(v.l,dd)) hvl hdl with hold|⟨a,ha,hfree,hRR2,hcnt⟩
 ·rw [addF_old hold,show decide (firstV (red ML (v.l,dd)).1 ≠ -1)=false by rw [hold];simp]
  refine Spec.has (by kernel_rfl) (fun hh=>?_)
  exact (elim_Add_old _ bm n z ar cr (cntS ML) M v ad0 m0 c0 dd ML _ (RdM.own hk hh) hML hv.up hvn hd.up hm0 hdl rfl hold ht.up).mono (fun _ _=>⟨M,⟨hML,hk⟩,rfl,Ent.refl _⟩)
 ·have hne:decide (firstV (red ML (v.l,dd)).1 ≠ -1)=true:=by rw [ha,decide_eq_true_eq];omega
  rw [addF_new ha,hne,hcnt]
  exact elim_Add _ bm n z ar cr (cntS ML) M v ad0 m0 c0 dd ML _ a hk hML hv.up hvn hd.up hm0 hdl rfl ha hfree hcn ht.up
structure Prm where
 s:BitVec 32
 k:Nat
 p:Nat
 z:Nat
abbrev Prm.n (p:Prm):Nat:=p.k+p.p
abbrev Prm.ok (p:Prm):Prop:=mayP p.k p.p p.z=true
theorem Prm.ok.out {p:Prm} (h:p.ok):1≤p.k∧p.k≤64∧p.p≤16∧1≤p.z∧p.z≤16:=by
 have h:decide (1≤(p.k:Int)∧(p.k:Int)≤64∧0≤(p.p:Int)∧(p.p:Int)≤16∧1≤(p.z:Int)∧(p.z:Int)≤16)=true:=h
 rw [decide_eq_true_eq] at h
 omega
structure Dec where
 M:List (Option LN)
 t:Nat
abbrev deB (db mb:Nat) (p:Prm) (t:Nat):Hl := .box db 221 [W4 p.s,I p.k,I p.p,I p.z,.pointer (some ⟨mb,0,none⟩),I t,W4 0#32,K4 0,W4 0#32,.slice none 0 0]
def deL (p:Prm) (d:Dec) (db:Nat) (l:Nat × Option Addr × Nat × List (Option RD)):List Hl:=[deB db l.1 p d.t,mB l.1 p.n p.z l.2.1 l.2.2.1 (cntS d.M),mR p.n l.2.1 l.2.2.1 l.2.2.2,.any (mrows l.2.2.2)]
def deP (p:Prm) (d:Dec) (db:Nat):Hp→Prop:=Som (fun l:Nat × Option Addr × Nat × List (Option RD)=>MOk p.n p.z l.2.2.2∧l.2.2.2.map vw=d.M) (deL p d db)
theorem rt_de {P:Program} {k:Kon} {m:Nat} {e:Ev} {W:World} {H R:List Hl} {p:Prm} {d:Dec} {db mb:Nat} {ar:Option Addr} {cr:Nat} {M:List (Option RD)} (hk:MOk p.n p.z M) (hM:M.map vw=d.M) (hE:Ent H (deB db mb p d.t::mB mb p.n p.z ar cr (cntS d.M)::mR p.n ar cr M :: .any (mrows M)::R)) (h:Rt P k m e W (.any (deP p d db)::R)):Rt P k m e W H :=
 rt_hide (L:=deL p d db) (p:=fun l:Nat × Option Addr × Nat × List (Option RD)=>MOk p.n p.z l.2.2.2∧l.2.2.2.map vw=d.M) (mb,ar,cr,M) ⟨hk,hM⟩ hE h
def SpRow (p:Prm) (id:BitVec 32) (v:List Bool):Prop:=v.length=p.n∧∀ H,Spec Tryz.prog 85 [parV p.s p.k p.p p.z,W4 id] H (fun _:Nat × Option Addr × Nat=>True) (fun r => .pointer (some ⟨r.1,0,none⟩)) (fun r=>vB r.1 p.n r.2.1 r.2.2::vR p.n r.2.1 r.2.2 v::H)
def saysD (p:Prm) (d:Dec) (v:List Bool):Bool:=decide (0≤firstV (red d.M (v,List.replicate p.z 0#8)).1)
set_option maxHeartbeats 2000000 in
theorem de_Says (H:List Hl) (p:Prm) (d:Dec) (db:Nat) (id:BitVec 32) (v:List Bool) (hp:p.ok) (hv:SpRow p id v) (ht:TabF (stars H)) :
  Spec Tryz.prog 120 [.pointer (some ⟨db,0,none⟩),W4 id] (.any (deP p d db)::H) (fun _:Unit=>True) (fun _ => .bool (saysD p d v)) (fun _ => .any (deP p d db)::H):=by
 refine Spec.som (by kernel_rfl) (fun ⟨mb,ar,cr,M⟩ ⟨hk,hM⟩=>?_)
 dsimp only at hk hM
 refine spec_fn (res:=fun _:Unit=>[.any (deP p d db)]) [deB db mb p d.t,mB mb p.n p.z ar cr (cntS d.M),mR p.n ar cr M,.any (mrows M)] H Tryz.func120 rfl Tryz.ntmps120 (by kernel_rfl) rfl (fun W=>?_)
 dsimp only [List.cons_append,List.nil_append]
 obtain ⟨y,hy⟩:∃ y,saysD p d v=y:=⟨_,rfl⟩
 have hn2:=hk.n2
 rw [hy]
 repeat' (first|intro _|refine cw ?_|refine cw2 ?_ ?_|refine ow ?_|refine ow2 ?_ ?_|fail)
 refine st_stages' [(0,_),(1,_)] rtD22_0 [12,13] [⟨[0,1,2,3,4,5,6,7,8,9,10,11],[],some 12⟩,⟨[],[3,4,5,6],some 13⟩,⟨[14,15],[],none⟩] mixed cv (by kernel_rfl) (by kernel_rfl) ?_
 repeat' (first|intro _|refine sg ?_|refine po (by first|refine o1_pneq rfl rfl fz|fail) ?_|(refine p_load ?_;refine po (by first|refine ox_load (b:=db) (i:=4) rfl rfl fz|fail) ?_)|refine pw ?_|refine pdd ?_|refine o1_pneq rfl rfl ?_|(refine o1_call (fun _=>hv.2 _) rfl (fun ⟨vb,va,vc⟩ _=>?_);(try dsimp only))|(refine k_fn 162 ?_;refine o1_call (fun hh=>elim_Says _ mb p.n p.z ar cr (cntS d.M) M ⟨vb,p.n,va,vc,v⟩ d.M y (RdM.own hk hh) hM (RdV.own hv.1 hn2 hh) rfl hy ht.up) rfl (fun _ _=>?_))|refine ow ?_|fail)
 all_goals dsimp only [List.cons_append,List.nil_append]
 repeat' (first|intro _|refine cw ?_|refine cw2 ?_ ?_|refine ow ?_|refine ow2 ?_ ?_|fail)
 refine rt_de (mb:=mb) (ar:=ar) (cr:=cr) (M:=M) (R:=[.any (stars H)]) hk hM ent ?_
 refine rt_tmp () rfl rfl rfl trivial ?_
 exact ent
def takeD (p:Prm) (d:Dec) (v:List Bool) (x:List (BitVec 8)):Dec:=if firstV (red d.M (v,x)).1 = -1 then d else ⟨addF d.M (v,x),d.t+1⟩
set_option maxHeartbeats 2000000 in
theorem de_Take (H:List Hl) (p:Prm) (d:Dec) (db:Nat) (id:BitVec 32) (v:List Bool) (ad:Option Addr) (m c:Nat) (x:List (BitVec 8)) (hp:p.ok) (hv:SpRow p id v) (hR:RR p.n p.z d.M) (ht:TabF (stars H)) (hx:Rs (stars H) B ad c x) (hm:m=x.length) (hz:x.length=p.z) (hb:d.t≤1000) :
  Spec Tryz.prog 122 [.pointer (some ⟨db,0,none⟩),W4 id,.slice ad m c] (.any (deP p d db)::H) (fun _:Unit=>True) (fun _ => .bool (decide (firstV (red d.M (v,x)).1 ≠ -1))) (fun _ => .any (deP p (takeD p d v x) db)::H):=by
 refine Spec.som (by kernel_rfl) (fun ⟨mb,ar,cr,M⟩ ⟨hk,hM⟩=>?_)
 dsimp only at hk hM
 refine spec_fn (res:=fun _:Unit=>[.any (deP p (takeD p d v x) db)]) [deB db mb p d.t,mB mb p.n p.z ar cr (cntS d.M),mR p.n ar cr M,.any (mrows M)] H Tryz.func122 rfl Tryz.ntmps122 (by kernel_rfl) rfl (fun W=>?_)
 dsimp only [List.cons_append,List.nil_append]
 obtain ⟨y,hy⟩:∃ y,decide (firstV (red d.M (v,x)).1 ≠ -1)=y:=⟨_,rfl⟩
 have hn2:=hk.n2
 rw [hy]
 repeat' (first|intro _|refine cw ?_|refine cw2 ?_ ?_|refine ow ?_|refine ow2 ?_ ?_|fail)
 refine st_stages' [(0,_),(1,_),(2,_)] rtD22_1 [12,14] [⟨[0,1,2,3,4,5,6,7,8,9,10,11,13],[],some 12⟩,⟨[],[3,4,5,6,13],some 14⟩,⟨[15,16],[],none⟩] mixed cv (by kernel_rfl) (by kernel_rfl) ?_
 repeat' (first|intro _|refine sg ?_|refine po (by first|refine o1_peql rfl rfl fz|fail) ?_|(refine p_load ?_;refine po (by first|refine ox_load (b:=db) (i:=4) rfl rfl fz|fail) ?_)|refine pw ?_|refine pdd ?_|refine o1_peql rfl rfl ?_|(refine o1_call (fun _=>hv.2 _) rfl (fun ⟨vb,va,vc⟩ _=>?_);(try dsimp only))|(refine k_fn 168 ?_;(refine o1_call_bra mb ar cr (mrows M) (fun hh=>elim_AddF _ mb p.n p.z ar cr M ⟨vb,p.n,va,vc,v⟩ ad m c x d.M hk hM hR (RdV.own hv.1 hn2 (has_tail (has_tail (has_tail hh)))) rfl hx.up hm hz ht.up) rfl (fun M2 hM2=>?_);rw [hy];obtain ⟨hM2,hk2⟩:=hM2))|refine ow ?_|fail)
 all_goals dsimp only [List.cons_append,List.nil_append]
 dsimp only at hM2
 cases y
 ·have hold:firstV (red d.M (v,x)).1 = -1:=by
   have:=of_decide_eq_false hy
   exact Decidable.not_not.1 this
  have ht2:takeD p d v x=d:=if_pos hold
  rw [ht2]
  rw [addF_old hold] at hM2 ⊢
  repeat' (first|intro _|refine cw ?_|refine cw2 ?_ ?_|refine ow ?_|refine ow2 ?_ ?_|fail)
  refine rt_de (mb:=mb) (ar:=ar) (cr:=cr) (M:=M2) (R:=[.any (stars H)]) hk2 hM2 ent ?_
  refine rt_tmp () rfl rfl rfl trivial ?_
  exact ent
 ·have hnew:firstV (red d.M (v,x)).1 ≠ -1:=of_decide_eq_true hy
  have ht2:takeD p d v x=⟨addF d.M (v,x),d.t+1⟩:=if_neg hnew
  have hw:IntKind.i64.wrap ((d.t:Int)+1)=((d.t+1:Nat):Int):=by rw [wrap_in (by omega) (by omega)];push_cast;rfl
  rw [ht2]
  repeat' (first|intro _|refine cw ?_|refine cw2 ?_ ?_|(refine k_fn 145 ?_;(refine o1_call_box (b:=db) (fun _=>at_AddG _ db 5 _ _ d.t 1 rfl) rfl (fun _ _=>?_);rw [hw]))|refine ow ?_|refine ow2 ?_ ?_|fail)
  refine rt_de (d:=⟨addF d.M (v,x),d.t+1⟩) (mb:=mb) (ar:=ar) (cr:=cr) (M:=M2) (R:=[.any (stars H)]) hk2 hM2 ent ?_
  refine rt_tmp () rfl rfl rfl trivial ?_
  exact ent
theorem de_Taken (H:List Hl) (p:Prm) (d:Dec) (db:Nat) :
  Spec Tryz.prog 88 [.pointer (some ⟨db,0,none⟩)] (.any (deP p d db)::H) (fun _:Unit=>True) (fun _=>I d.t) (fun _ => .any (deP p d db)::H):=by
 refine Spec.som (by kernel_rfl) (fun ⟨mb,ar,cr,M⟩ ⟨hk,hM⟩=>?_)
 dsimp only at hk hM
 refine spec_fn (res:=fun _:Unit=>[.any (deP p d db)]) [deB db mb p d.t,mB mb p.n p.z ar cr (cntS d.M),mR p.n ar cr M,.any (mrows M)] H Tryz.func88 rfl Tryz.ntmps88 (by kernel_rfl) rfl (fun W=>?_)
 dsimp only [List.cons_append,List.nil_append]
 repeat' (first|intro _|refine cw ?_|refine cw2 ?_ ?_|refine o1_peql rfl rfl ?_|(refine k_fn 144 ?_;refine o1_call (fun _=>at_Load64 _ db 5 d.t (cl_box rfl)) rfl (fun _ _=>?_))|refine ow ?_|refine ow2 ?_ ?_|fail)
 refine rt_de (mb:=mb) (ar:=ar) (cr:=cr) (M:=M) (R:=[.any (stars H)]) hk hM ent ?_
 refine rt_tmp () rfl rfl rfl trivial ?_
 exact ent
theorem de_Needs (H:List Hl) (p:Prm) (d:Dec) (db:Nat) (hp:p.ok) (hb:cntS d.M≤1000) :
  Spec Tryz.prog 123 [.pointer (some ⟨db,0,none⟩)] (.any (deP p d db)::H) (fun _:Unit=>True) (fun _=>I ((p.n:Int) - cntS d.M)) (fun _ => .any (deP p d db)::H):=by
 refine Spec.som (by kernel_rfl) (fun ⟨mb,ar,cr,M⟩ ⟨hk,hM⟩=>?_)
 dsimp only at hk hM
 refine spec_fn (res:=fun _:Unit=>[.any (deP p d db)]) [deB db mb p d.t,mB mb p.n p.z ar cr (cntS d.M),mR p.n ar cr M,.any (mrows M)] H Tryz.func123 rfl Tryz.ntmps123 (by kernel_rfl) rfl (fun W=>?_)
 dsimp only [List.cons_append,List.nil_append]
 have hn2:=hk.n2
 have e:(if mayP (p.k:Int) p.p p.z=true then (p.k:Int)+p.p else 0)=(p.n:Int):=by rw [if_pos hp];push_cast;rfl
 repeat' (first|intro _|refine cw ?_|refine cw2 ?_ ?_|refine o1_peql rfl rfl ?_|refine ow ?_|refine ow2 ?_ ?_|fail)
 refine st_stages' [(0,_)] rtD22_2 [4,9] [⟨[0,1,2,3,5,6,7,8],[],some 4⟩,⟨[],[5,6,7,8],some 9⟩,⟨[10,11],[],none⟩] mixed cv (by kernel_rfl) (by kernel_rfl) ?_
 repeat' (first|intro _|refine sg ?_|(refine p_load ?_;refine po (by first|refine ox_load (b:=db) (i:=4) rfl rfl fz|fail) ?_)|(refine p_binOp .sub ?_;refine po (by first|refine o1_sub rfl rfl (by omega) fz|fail) ?_)|refine pw ?_|refine pdd ?_|(refine k_fn 135 ?_;(refine o1_call (fun _=>spread_Pieces _ p.s p.k p.p p.z) rfl (fun _ _=>?_);rw [e]))|(refine k_fn 169 ?_;refine o1_call (fun _=>elim_Rank _ mb (cntS d.M) (cl_box rfl)) rfl (fun _ _=>?_))|refine ow ?_|fail)
 all_goals dsimp only [List.cons_append,List.nil_append]
 repeat' (first|intro _|refine cw ?_|refine cw2 ?_ ?_|refine ow ?_|refine ow2 ?_ ?_|fail)
 refine rt_de (mb:=mb) (ar:=ar) (cr:=cr) (M:=M) (R:=[.any (stars H)]) hk hM ent ?_
 refine rt_tmp () rfl rfl rfl trivial ?_
 exact ent
def rowsM (p:Prm) (l:List (List Bool)):List (Option LN):=l.foldl (fun M v=>addF M (v,List.replicate p.z 0#8)) (List.replicate p.n none)
def newD (p:Prm):Dec:=⟨rowsM p (rowsL p.s p.k p.p),0⟩
theorem rowsM_RR (p:Prm):∀ l:List (List Bool),(∀ v∈l,v.length=p.n)→RR p.n p.z (rowsM p l):=fun l=>rev_ind (P:=fun l=>(∀ v∈l,v.length=p.n)→RR p.n p.z (rowsM p l)) (fun _=>RR_none) (fun l a ih h=>by
 have e:rowsM p (l++[a])=addF (rowsM p l) (a,List.replicate p.z 0#8):=by simp [rowsM]
 rw [e]
 exact addF_RR (ih (fun v hv=>h v (by simp [hv]))) (h a (by simp)) (by simp)) l
set_option maxHeartbeats 4000000 in
theorem de_New (H:List Hl) (p:Prm) (hp:p.ok) (ht:TabF (stars H)) :
  Spec Tryz.prog 160 [parV p.s p.k p.p p.z] H (fun _:Nat=>True) (fun db => .pointer (some ⟨db,0,none⟩)) (fun db => .any (deP p (newD p) db)::H):=by
 refine spec_pure (res:=fun db:Nat=>[.any (deP p (newD p) db)]) H Tryz.func160 rfl Tryz.ntmps160 (by kernel_rfl) rfl (fun W=>?_)
 obtain ⟨p1,p2,p3,p4,p5⟩:=hp.out
 have hm:mayP (p.k:Int) p.p p.z=true:=hp
 have e:(if mayP (p.k:Int) p.p p.z=true then (p.k:Int)+p.p else 0)=(p.n:Int):=by rw [if_pos hp];push_cast;rfl
 repeat' (first|intro _|refine cw ?_|refine cw2 ?_ ?_|(refine k_fn 106 ?_;(refine o1_call (fun _=>spread_May _ p.s.toNat p.k p.p p.z) rfl (fun _ _=>?_);rw [hm]))|(refine k_box ?_;refine o1_box rfl rfl (fun b1=>?_))|refine ow ?_|refine ow2 ?_ ?_|fail)
 refine st_stages' [(1,_)] rtD22_3 [2,5,7] [⟨[0,1,3,4],[],some 2⟩,⟨[],[0,3,4],some 5⟩,⟨[6],[0],some 7⟩,⟨[8],[],none⟩] mixed cv (by kernel_rfl) (by kernel_rfl) ?_
 repeat' (first|intro _|refine sg ?_|refine pw ?_|refine pdd ?_|(refine k_fn 135 ?_;(refine o1_call (fun _=>spread_Pieces _ p.s p.k p.p p.z) rfl (fun _ _=>?_);rw [e]))|(refine k_fn 196 ?_;(refine o1_call (fun _=>elim_New _ p.n p.z (by show 1≤p.k+p.p;omega) (by show p.k+p.p≤256;omega) p4 p5) rfl (fun ⟨mb,ar,cr⟩ _=>?_);(try dsimp only)))|(refine k_box ?_;refine o1_box rfl rfl (fun db=>?_))|refine ow ?_|fail)
 all_goals dsimp only [List.cons_append,List.nil_append]
 repeat' (first|intro _|refine cw ?_|refine cw2 ?_ ?_|(refine k_fn 176 ?_;(refine o1_call (fun _=>precode_Rows _ p.s p.k p.p p.z hm) rfl (fun ⟨av,kv,vs⟩ hvs0=>?_);obtain ⟨hvs,hvok⟩:=hvs0;(try dsimp only at hvs hvok ⊢)))|refine ow ?_|refine ow2 ?_ ?_|fail)
 have hlen:∀ v∈vs.map (·.l),v.length=p.n:=fun v hv=>by
  obtain ⟨y,hy,rfl⟩:=List.mem_map.1 hv
  obtain ⟨h1,h2⟩:=hvok y hy
  rw [h1.len,h2]
 have hpre:∀ i,∀ v∈(vs.map (·.l)).take i,v.length=p.n:=fun i v hv=>hlen v (List.mem_of_mem_take hv)
 have hvl:vs.length≤16:=by
  have:=congrArg List.length hvs
  simp only [List.length_map,rowsL,List.length_range] at this
  omega
 refine st_loop (S:=Nat × List (Option RD)) (fun q=>[(1,.pointer (some ⟨b1,0,none⟩)),(3,.pointer (some ⟨db,0,none⟩)),(18,.slice av vs.length kv),(19,I vs.length),(20,I q.1)])
  (fun q=>[deB db mb p 0,mB mb p.n p.z ar cr (cntS (rowsM p ((vs.map (·.l)).take q.1))),mR p.n ar cr q.2,.any (mrows q.2),.box b1 91 [W4 p.s,I p.k,I p.p,I p.z],.row 148 1 (.slice av vs.length kv) vs.length (vs.map Pv),.any (vecs vs),.any (stars H)])
  (fun q=>q.1≤vs.length∧MOk p.n p.z q.2∧q.2.map vw=rowsM p ((vs.map (·.l)).take q.1)) (fun q=>vs.length - q.1) (0,List.replicate p.n none) ⟨Nat.zero_le _,⟨by simp,by show 1≤p.k+p.p;omega,by show p.k+p.p≤256;omega,p4,p5,fun r hr=>by simp at hr⟩,by simp [rowsM,vw]⟩
  cv (by show Ent _ [deB db mb p 0,mB mb p.n p.z ar cr (cntS (List.replicate p.n none)),mR p.n ar cr (List.replicate p.n none),.any (mrows (List.replicate p.n none)),.box b1 91 [W4 p.s,I p.k,I p.p,I p.z],.row 148 1 (.slice av vs.length kv) vs.length (vs.map Pv),.any (vecs vs),.any (stars H)];rw [cntS_none];exact ent) ?_
 rintro ⟨i,M⟩ ⟨hi,hk,hM⟩
 dsimp only at hi hk hM ⊢
 have hRR:=rowsM_RR p _ (hpre i)
 by_cases hlt:i<vs.length
 ·obtain ⟨v,hv⟩:∃ v,vs[i]=v:=⟨_,rfl⟩
  have hvm:v∈vs:=hv ▸ List.getElem_mem hlt
  obtain ⟨hv1,hv2⟩:=hvok v hvm
  have hnext:rowsM p ((vs.map (·.l)).take (i+1))=addF (rowsM p ((vs.map (·.l)).take i)) (v.l,List.replicate p.z 0#8):=by
   rw [List.take_succ_eq_append_getElem (by simpa using hlt)]
   simp [rowsM,hv]
  repeat' (first|intro _|refine cw ?_|refine cw2 ?_ ?_|(refine k_indexAddr ?_;refine o1_iah (enc:=Pv) (ad:=av) (c:=kv) (xs:=vs) i rfl rfl rx_row rfl rfl hlt ?_)|(refine k_load ?_;(refine o1_load_iah (enc:=Pv) (ad:=av) (c:=kv) (xs:=vs) i rfl rx_row hlt ?_;rw [hv]))|refine ow ?_|refine ow2 ?_ ?_|fail)
  refine st_stages' [(3,_),(5,_),(1,_)] rtD22_4 [7,8] [⟨[0,1,2,3,4,5,6],[],some 7⟩,⟨[],[0,1,2,3,4],some 8⟩,⟨[],[],none⟩] mixed cv (by kernel_rfl) (by kernel_rfl) ?_
  repeat' (first|intro _|refine sg ?_|(refine p_load ?_;refine po (by first|refine ox_load (b:=db) (i:=4) rfl rfl fz|refine ox_load (b:=b1) (i:=3) rfl rfl fz|fail) ?_)|refine pw ?_|refine pdd ?_|(refine k_makeSlice ?_;refine o1_maker (enc:=B) 0#8 p.z rfl rfl rfl rfl rfl (by omega) (by omega) (fun b31=>?_))|(refine k_fn 168 ?_;(refine o1_call_bra mb ar cr (mrows M) (fun hh=>elim_AddF _ mb p.n p.z ar cr M v (some ⟨b31,0,none⟩) p.z p.z (List.replicate p.z 0#8) _ hk hM hRR (vecs_read (vs:=vs) hvm hv1 (has_tail (has_tail (has_tail hh)))) hv2 (rx_box (T:=5) (by simp) (by omega) (has_tail (has_tail (has_tail hh)))) (by simp) (by simp) ht.up) rfl (fun M2 hM2=>?_);obtain ⟨hM2,hk2⟩:=hM2;rw [←hnext] at hM2 ⊢))|refine ow ?_|fail)
  all_goals dsimp only [List.cons_append,List.nil_append]
  repeat' (first|intro _|refine cw ?_|refine cw2 ?_ ?_|refine ow ?_|refine ow2 ?_ ?_|fail)
  refine nx_again (i+1,M2) ⟨hlt,hk2,hM2⟩ (by show vs.length - (i+1)<vs.length - i;omega) cv ?_
  exact ent
 ·have:i=vs.length:=by omega
  subst this
  repeat' (first|intro _|refine cw ?_|refine cw2 ?_ ?_|refine ow ?_|refine ow2 ?_ ?_|fail)
  rw [List.take_of_length_le (by simp),hvs] at hM ⊢
  refine rt_de (d:=newD p) (mb:=mb) (ar:=ar) (cr:=cr) (M:=M) (R:=[.any (stars H)]) hk hM ent ?_
  refine rt_tmp db rfl rfl rfl trivial ?_
  exact ent
def symB (ses id:BitVec 32) (data:List (BitVec 8)):List (BitVec 8):=be4 ses++be4 id++data
theorem packet_Bytes_ok (H:List Hl) (ses id:BitVec 32) (ad:Option Addr) (c:Nat) (data:List (BitVec 8)) (h1:1≤data.length) (h2:data.length≤16) (hr:Rs (stars H) B ad c data) :
  Spec Tryz.prog 40 [.agg #[W4 ses,W4 id,.slice ad data.length c]] H (fun _:Option Addr × Nat=>True) (fun r:Option Addr × Nat => .tuple #[.slice r.1 (8+data.length) r.2,I 0])
   (fun r:Option Addr × Nat => .row 5 1 (.slice r.1 (8+data.length) r.2) (8+data.length) ((symB ses id data).map B)::H):=by
 refine spec_pure (res:=fun r:Option Addr × Nat=>[.row 5 1 (.slice r.1 (8+data.length) r.2) (8+data.length) ((symB ses id data).map B)]) H Tryz.func40 rfl Tryz.ntmps40 (by kernel_rfl) rfl (fun W=>?_)
 repeat' (first|intro _|refine cw ?_|refine cw2 ?_ ?_|refine ow ?_|refine ow2 ?_ ?_|fail)
 refine st_ent (ent_nil 5 B) (st_rounds 2 ?_)
 repeat' (first|intro _|refine cw ?_|refine cw2 ?_ ?_|refine ow ?_|refine ow2 ?_ ?_|fail)
 refine rt_tmp2 (_,_) rfl rfl rfl rfl trivial ?_
 exact ent
def fitsP (k p z:Int) (ses ses':BitVec 32) (l:Nat):Int:=if mayP k p z=false then 1 else if ses≠ses' then 7 else if (l:Int)≠z then 3 else 0
theorem fits_0 {k p z:Int} {s:BitVec 32} {l:Nat} (h:mayP k p z=true) (hl:(l:Int)=z):fitsP k p z s s l=0:=by simp [fitsP,h,hl]
theorem fits_7 {k p z:Int} {s s':BitVec 32} {l:Nat} (h:mayP k p z=true) (hs:s≠s'):fitsP k p z s s' l=7:=by simp [fitsP,h,hs]
theorem packet_Fits (H:List Hl) (ses id ses':BitVec 32) (k p z:Int) (ad:Option Addr) (l c:Nat) :
  Spec Tryz.prog 77 [.agg #[W4 ses,W4 id,.slice ad l c],.agg #[W4 ses',I k,I p,I z]] H (fun _:Unit=>True) (fun _=>I (fitsP k p z ses ses' l)) (fun _=>H):=by
 refine spec_pure (res:=fun _=>[]) H Tryz.func77 rfl Tryz.ntmps77 (by kernel_rfl) rfl (fun W=>?_)
 cases hm:mayP k p z
 all_goals
  repeat' (first|intro _|refine cw ?_|refine cw2 ?_ ?_|(refine k_fn 106 ?_;refine o1_call (fun _=>(spread_May _ _ _ _ _).bv hm) rfl (fun _ _=>?_))|refine ow ?_|refine ow2 ?_ ?_|fail)
 all_goals
  refine rt_tmp () rfl rfl ?_ trivial ?_
 all_goals first
  | (exact ent;done)
  | skip
 all_goals simp_all [fitsP,←BitVec.toNat_inj]
 all_goals (try intro _)
 all_goals omega
def sym64 (l:List (BitVec 8)):BitVec 64:=l.foldl (fun a x=>(a <<< 8) ||| x.setWidth 64) 0
theorem sym64_succ (l:List (BitVec 8)) (i:Nat) (h:i<l.length):sym64 (l.take (i+1))=(sym64 (l.take i) <<< 8) ||| (l[i]).setWidth 64:=by
 simp only [sym64]
 rw [List.take_succ_eq_append_getElem h,List.foldl_append]
 rfl
theorem packet_Parse_ok (H:List Hl) (ad:Option Addr) (c:Nat) (l:List (BitVec 8)) (h:Rs (stars H) B ad c l) (h1:8<l.length) (h2:l.length≤24) :
  Spec Tryz.prog 76 [.slice ad l.length c] H (fun _:Option Addr × Nat=>True) (fun r => .tuple #[.agg #[W4 ((sym64 (l.take 8) >>> 32).setWidth 32),W4 ((sym64 (l.take 8)).setWidth 32),.slice r.1 (l.drop 8).length r.2],I 0])
   (fun r => .row 5 1 (.slice r.1 (l.drop 8).length r.2) (l.drop 8).length ((l.drop 8).map B)::H):=by
 refine spec_pure (res:=fun r:Option Addr × Nat=>[.row 5 1 (.slice r.1 (l.drop 8).length r.2) (l.drop 8).length ((l.drop 8).map B)]) H Tryz.func76 rfl Tryz.ntmps76 (by kernel_rfl) rfl (fun W=>?_)
 repeat' (first|intro _|refine cw ?_|refine cw2 ?_ ?_|(refine k_slice ?_;refine o1_cut_h rfl rfl h rfl (by omega) (by omega) (fun ad2 c2 l2 e2 n2 h2=>?_))|refine ow ?_|refine ow2 ?_ ?_|fail)
 refine st_loop (S:=Nat) (fun i=>[(0,.slice ad l.length c),(2,_),(4,W8 (sym64 (l2.take i))),(18,.slice ad2 l2.length c2),(19,I l2.length),(20,I i)]) (fun _=>_) (fun i=>i≤l2.length) (fun i=>l2.length - i) 0 (by omega)
  cv (Ent.refl _) ?_
 intro i hi
 have n8:l2.length=8:=n2
 repeat' (first|intro _|refine cw ?_|refine cw2 ?_ ?_|(refine k_indexAddr ?_;refine o1_indexAddr_rd rfl rfl h2 i rfl (by omega) (fun a ha=>?_))|refine ow ?_|refine ow2 ?_ ?_|fail)
 ·refine nx_again (i+1) (by omega) (by omega) (cov_cons rfl rfl (cov_cons rfl rfl (cov_cons rfl ?_ cv))) (Ent.refl _)
  rw [sym64_succ _ _ (by omega)];rfl
 ·have:i=l2.length:=by omega
  subst this
  rw [List.take_length,e2]
  repeat' (first|intro _|refine cw ?_|refine cw2 ?_ ?_|(refine k_slice ?_;refine o1_cut_l rfl rfl h rfl (by omega) (by omega) (fun ad2 c2 l2 e2 n2 h2=>?_))|(refine k_fn 29 ?_;(refine o1_call (fun _=>slices_Clone _ _ _ _ h2.up (by omega)) rfl (fun ⟨_,_⟩ _=>?_);dsimp only))|refine ow ?_|refine ow2 ?_ ?_|fail)
  subst e2
  refine rt_cell_tmp (_,_) rfl rfl rfl rfl rfl trivial ?_
  exact ent
def num (l:List (BitVec 8)):Nat:=l.foldl (fun a x=>a*256+x.toNat) 0
theorem fold_num (w:Nat):∀ (l:List (BitVec 8)) (k:Nat) (a:BitVec w),a.toNat<256 ^ k→8*(k+l.length)≤w →
  (l.foldl (fun (a:BitVec w) (x:BitVec 8)=>(a <<< 8) ||| x.setWidth w) a).toNat=l.foldl (fun a x=>a*256+x.toNat) a.toNat
 | [],_,_,_,_=>rfl
 | x::l,k,a,h,hw=>by
  simp only [List.length_cons] at hw
  have hx:=x.isLt
  have hp:(256:Nat) ^ (k+1)≤2 ^ w:=by
   have:(256:Nat) ^ (k+1)=2 ^ (8*(k+1)):=by rw [Nat.pow_mul]
   rw [this]
   exact Nat.pow_le_pow_right (by omega) (by omega)
  have h256:(256:Nat) ^ (k+1)=256 ^ k*256:=Nat.pow_succ ..
  have hs:((a <<< 8) ||| x.setWidth w).toNat=a.toNat*256+x.toNat:=by
   rw [BitVec.toNat_or,BitVec.toNat_shiftLeft,BitVec.toNat_setWidth]
   have e1:x.toNat % 2 ^ w=x.toNat:=Nat.mod_eq_of_lt (by omega)
   have e2:a.toNat <<< 8 % 2 ^ w=a.toNat <<< 8:=Nat.mod_eq_of_lt (by rw [Nat.shiftLeft_eq];omega)
   rw [e1,e2,←Nat.shiftLeft_add_eq_or_of_lt (by omega:x.toNat<2 ^ 8),Nat.shiftLeft_eq]
  simp only [List.foldl_cons]
  rw [fold_num w l (k+1) _ (by rw [hs];omega) (by omega),hs]
theorem sym64_num (l:List (BitVec 8)) (h:l.length≤8):(sym64 l).toNat=num l:=fold_num 64 l 0 0 (by simp) (by omega)
theorem sym64_be (s i:BitVec 32):(sym64 (be4 s++be4 i)).toNat=s.toNat*4294967296+i.toNat:=by
 rw [sym64_num _ (by simp [be4])]
 have h1:=s.isLt
 have h2:=i.isLt
 simp only [be4,List.cons_append,List.nil_append,num,List.foldl_cons,List.foldl_nil,BitVec.toNat_setWidth,BitVec.toNat_ushiftRight,Nat.shiftRight_eq_div_pow]
 omega
theorem sym64_hi (s i:BitVec 32):(sym64 (be4 s++be4 i) >>> 32).setWidth 32=s:=by
 apply BitVec.eq_of_toNat_eq
 have h1:=s.isLt
 have h2:=i.isLt
 rw [BitVec.toNat_setWidth,BitVec.toNat_ushiftRight,sym64_be,Nat.shiftRight_eq_div_pow]
 omega
theorem sym64_lo (s i:BitVec 32):(sym64 (be4 s++be4 i)).setWidth 32=i:=by
 apply BitVec.eq_of_toNat_eq
 have h1:=s.isLt
 have h2:=i.isLt
 rw [BitVec.toNat_setWidth,sym64_be]
 omega
theorem symB_len (s i:BitVec 32) (l:List (BitVec 8)):8+l.length=(symB s i l).length:=by simp [symB,be4];omega
theorem packet_Bytes_sym (H:List Hl) (ses id:BitVec 32) (ad:Option Addr) (c:Nat) (data:List (BitVec 8)) (h1:1≤data.length) (h2:data.length≤16) (hr:Rs (stars H) B ad c data) :
  Spec Tryz.prog 40 [.agg #[W4 ses,W4 id,.slice ad data.length c]] H (fun _:Option Addr × Nat=>True) (fun r:Option Addr × Nat => .tuple #[.slice r.1 (symB ses id data).length r.2,I 0])
   (fun r:Option Addr × Nat => .row 5 1 (.slice r.1 (symB ses id data).length r.2) (symB ses id data).length ((symB ses id data).map B)::H):=by
 have:=packet_Bytes_ok H ses id ad c data h1 h2 hr
 rwa [symB_len ses id data] at this
def full (image:List (BitVec 8)) (m:Nat):List (BitVec 8):=image.take m++List.replicate (m - image.length) 0
def piece (image:List (BitVec 8)) (m s i:Nat):List (BitVec 8):=((full image m).drop (i*s)).take s
theorem full_len (image:List (BitVec 8)) (m:Nat):(full image m).length=m:=by simp [full];omega
theorem count_pos {l s:Int} (h:count l s≠0):1≤l∧l≤512∧1≤s∧s≤16∧count l s=(l+s - 1) / s∧count l s≤64∧1≤count l s:=by
 unfold count at h ⊢
 split at h
 ·exact absurd rfl h
 ·rename_i h1
  split at h
  ·exact absurd rfl h
  ·rename_i h2
   rw [if_neg h1,if_neg h2]
   have:1≤(l+s - 1) / s:=by
    rw [Int.le_ediv_iff_mul_le (by omega)]
    omega
   refine ⟨by omega,by omega,by omega,by omega,rfl,by omega,this⟩
def pieceL (image:List (BitVec 8)) (m z i:Nat):List (BitVec 8):=((full image m).take ((i+1)*z)).drop (i*z)
def piecesL (image:List (BitVec 8)) (n z:Nat):List (List (BitVec 8)):=(List.range n).map (pieceL image (n*z) z)
theorem copy_full (image:List (BitVec 8)) (m:Nat):image.take (List.replicate m (0#8)).length++(List.replicate m (0#8)).drop image.length=full image m:=by simp [full]
set_option maxHeartbeats 1000000 in
theorem block_Split (H:List Hl) (ad:Option Addr) (c:Nat) (image:List (BitVec 8)) (n z:Nat) (h:Rs (stars H) B ad c image) (hc:count image.length z=n) (hn:1≤n) :
  Spec Tryz.prog 134 [.slice ad image.length c,I z] H (fun r:Option Addr × Nat × List (SlD (BitVec 8))=>r.2.2.map (·.l)=piecesL image n z) (fun r => .slice r.1 r.2.2.length r.2.1)
   (fun r => .row 22 1 (.slice r.1 r.2.2.length r.2.1) r.2.2.length (r.2.2.map Bs) :: .any (pcs 5 r.2.2)::H):=by
 refine spec_pure (res:=fun r:Option Addr × Nat × List (SlD (BitVec 8))=>[.row 22 1 (.slice r.1 r.2.2.length r.2.1) r.2.2.length (r.2.2.map Bs),.any (pcs 5 r.2.2)]) H Tryz.func134 rfl Tryz.ntmps134 (by kernel_rfl) rfl (fun W=>?_)
 obtain ⟨p1,p2,p3,p4,p5,p6,p7⟩:=count_pos (l:=image.length) (s:=z) (by omega)
 have hb:n*z≤1024:=by
  have:=Nat.mul_le_mul (by omega:n≤64) (by omega:z≤16)
  omega
 have hbi:((n*z:Nat):Int)=(n:Int)*z:=by push_cast;rfl
 repeat' (first|intro _|refine cw ?_|refine cw2 ?_ ?_|(refine k_fn 105 ?_;refine o1_call (fun _=>(block_Count _ _ _).vv (b:=I n) (congrArg I hc)) rfl (fun _ _=>?_))|(refine k_call ?_;first|refine o1_max (r:=(z:Int)) rfl rfl (by omega) ?_|(refine ox_copy rfl rfl (by simp) (rx_any h) rfl (fun _=>rfl) ?_;rw [copy_full]))|(refine k_binOp .mul ?_;refine o1_mul rfl rfl (by omega) ?_)|(refine k_makeSlice ?_;refine o1_maker (enc:=B) 0#8 (n*z) rfl rfl rfl rfl (by omega) (by omega) (by omega) (fun _=>?_))|refine ow ?_|refine ow2 ?_ ?_|fail)
 refine st_ent (ent_nil 22 Bs) (st_ent (fun h hh=>sel_swap h (pcs_nil (T:=5) h hh)) ?_)
 rename_i b
 refine st_loop (S:=Nat × Option Addr × Nat × List (SlD (BitVec 8))) (fun s=>[(1,I z),(6,.slice (some ⟨b,0,none⟩) (n*z) (n*z)),(7,.slice s.2.1 s.2.2.2.length s.2.2.1),(21,I n),(22,I s.1)])
  (fun s=>[.row 22 1 (.slice s.2.1 s.2.2.2.length s.2.2.1) s.2.2.2.length (s.2.2.2.map Bs),.any (pcs 5 s.2.2.2),.box b 5 ((full image (n*z)).map B),.any (stars H)]) (fun s=>s.1≤n∧s.2.2.2.map (·.l)=(List.range s.1).map (pieceL image (n*z) z)) (fun s=>n - s.1) (0,none,0,[]) ⟨by omega,rfl⟩
  cv ent ?_
 rintro ⟨i,a1,c1,ls⟩ ⟨hi,hls⟩
 dsimp only at hi hls ⊢
 have hlen:ls.length=i:=by have:=congrArg List.length hls;simpa using this
 by_cases hlt:i<n
 ·have hm1:(i+1)*z≤n*z:=Nat.mul_le_mul_right z hlt
  have hm2:i*z≤(i+1)*z:=Nat.mul_le_mul_right z (Nat.le_succ i)
  have hfl:=full_len image (n*z)
  repeat' (first|intro _|refine cw ?_|refine cw2 ?_ ?_|(refine k_binOp .mul ?_;refine o1_mul rfl rfl (by first|(have e:((i*z:Nat):Int)=(i:Int)*z:=by push_cast;rfl);omega|(have e:(((i+1)*z:Nat):Int)=((i:Int)+1)*z:=by push_cast;rfl);omega) ?_)|(refine k_slice ?_;refine o1_cs_lh (xs:=full image (n*z)) (i*z) ((i+1)*z) rfl rfl rfl (by push_cast;rfl) (by push_cast;rfl) (by omega) (by omega) hm2 (by omega) ?_)|(refine k_fn 29 ?_;(refine o1_call (fun hh=>slices_Clone _ _ _ _ ((rx_box (l:=full image (n*z)) (by omega) (by omega) hh).cutv (i*z) ((i+1)*z) hm2 (by omega)) (by simp;omega)) rfl (fun ⟨a3,c3⟩ _=>?_);dsimp only))|(refine k_buildSlice ?_;refine o1_lit_enc Bs [⟨_,_,pieceL image (n*z) z i⟩] rfl rfl rfl (fun _=>rfl) rfl rfl rfl (fun _=>?_))|(refine k_call ?_;refine ox_append (enc:=Bs) rfl rfl (rx_box rfl (by first|decide|omega)) rfl rfl (fun _=>rfl) (by omega) (by omega) (fun a2 c2=>?_))|refine ow ?_|refine ow2 ?_ ?_|fail)
  refine nx_push (T:=5) (ls:=ls) (s:=(⟨a3,c3,pieceL image (n*z) z i⟩:SlD (BitVec 8))) (R:=[.row 22 1 (.slice a2 (ls.length+1) c2) (ls.length+1) ((ls++[(⟨a3,c3,pieceL image (n*z) z i⟩:SlD (BitVec 8))]).map Bs),.box b 5 ((full image (n*z)).map B),.any (stars H)]) ent ?_
  refine nx_again (i+1,a2,c2,ls++[(⟨a3,c3,pieceL image (n*z) z i⟩:SlD (BitVec 8))]) ⟨?_,?_⟩ ?_ (cov_cons rfl rfl (cov_cons rfl rfl (cov_cons rfl ?_ cv))) ?_
  ·show i+1≤n;omega
  ·show (ls++[(⟨a3,c3,pieceL image (n*z) z i⟩:SlD (BitVec 8))]).map (·.l)=_
   rw [List.map_append,hls,List.range_succ,List.map_append];rfl
  ·show n - (i+1)<n - i;omega
  ·show Value.slice a2 (ls.length+1) c2=Value.slice a2 (ls++[(⟨a3,c3,pieceL image (n*z) z i⟩:SlD (BitVec 8))]).length c2
   simp
  ·show Ent _ [.row 22 1 (.slice a2 (ls++[(⟨a3,c3,pieceL image (n*z) z i⟩:SlD (BitVec 8))]).length c2) (ls++[(⟨a3,c3,pieceL image (n*z) z i⟩:SlD (BitVec 8))]).length ((ls++[(⟨a3,c3,pieceL image (n*z) z i⟩:SlD (BitVec 8))]).map Bs),.any (pcs 5 (ls++[(⟨a3,c3,pieceL image (n*z) z i⟩:SlD (BitVec 8))])),.box b 5 ((full image (n*z)).map B),.any (stars H)]
   rw [List.length_append,List.length_singleton]
   exact ent
 ·have:i=n:=by omega
  subst this
  repeat' (first|intro _|refine cw ?_|refine cw2 ?_ ?_|refine ow ?_|refine ow2 ?_ ?_|fail)
  refine rt_tmp (a1,c1,ls) rfl rfl rfl hls ?_
  exact ent
theorem take_min {α:Type} (b:List α) (k:Nat):b.take (min b.length k)=b.take k:=by
 rcases Nat.le_total b.length k with h|h
 ·rw [Nat.min_eq_left h,List.take_length,List.take_of_length_le h]
 ·rw [Nat.min_eq_right h]
def joinL (b:List (BitVec 8)) (n:Int):List (BitVec 8):=if 1≤n∧n≤512∧n≤b.length then b.take n.toNat else []
theorem block_Join (H:List Hl) (ad:Option Addr) (c:Nat) (ls:List (SlD (BitVec 8))) (n:Int) (h:Rs (stars H) Bs ad c ls) (hs:∀ s∈ls,Rs (stars H) B s.ad s.cap s.l) :
  Spec Tryz.prog 202 [.slice ad ls.length c,I n] H (fun _:Option Addr × Nat=>True) (fun r => .slice r.1 (joinL (cat ls) n).length r.2)
   (fun r => .row 5 1 (.slice r.1 (joinL (cat ls) n).length r.2) (joinL (cat ls) n).length ((joinL (cat ls) n).map B)::H):=by
 have b1:=h.le
 have b2:=h.big
 refine spec_pure (res:=fun r:Option Addr × Nat=>[.row 5 1 (.slice r.1 (joinL (cat ls) n).length r.2) (joinL (cat ls) n).length ((joinL (cat ls) n).map B)]) H Tryz.func202 rfl Tryz.ntmps202 (by kernel_rfl) rfl (fun W=>?_)
 by_cases hn:1≤n∧n≤512
 ·obtain ⟨m,rfl⟩:∃ m:Nat,n=m:=⟨n.toNat,by omega⟩
  repeat' (first|intro _|refine cw ?_|refine cw2 ?_ ?_|refine ow ?_|refine ow2 ?_ ?_|fail)
  refine st_ent (ent_nil 5 B) ?_
  refine st_loop (S:=Nat × Option Addr × Nat) (fun s=>[(1,I m),(5,.slice s.2.1 ((cat (ls.take s.1)).take m).length s.2.2),(14,.slice ad ls.length c),(15,I ls.length),(16,I s.1)]) (fun s=>[.row 5 1 (.slice s.2.1 ((cat (ls.take s.1)).take m).length s.2.2) ((cat (ls.take s.1)).take m).length (((cat (ls.take s.1)).take m).map B),.any (stars H)]) (fun s=>s.1≤ls.length) (fun s=>ls.length - s.1) (0,none,0) (Nat.zero_le _)
   (cov_cons rfl rfl (cov_cons rfl (by simp [cat]) cv)) (by simp only [List.take_zero,cat,List.flatMap_nil,List.take_nil,List.length_nil];exact ent) ?_
  rintro ⟨i,a1,c1⟩ hi
  dsimp only at hi ⊢
  by_cases hlt:i<ls.length
  ·have hsi:=hs ls[i] (List.getElem_mem _)
   have hle:=hsi.le
   have hm:((cat (ls.take i)).take m).length≤m:=by simp;omega
   generalize hk:min ls[i].l.length (m - ((cat (ls.take i)).take m).length)=k
   have hk1:k≤ls[i].l.length:=by omega
   have hstep:(cat (ls.take (i+1))).take m=(cat (ls.take i)).take m++ls[i].l.take k:=by
    rw [cat_succ _ _ hlt,List.take_append,←hk,take_min]
    congr 2
    simp;omega
   have hlk:(ls[i].l.take k).length=k:=by simp;omega
   repeat' (first|intro _|refine cw ?_|refine cw2 ?_ ?_|(refine k_indexAddr ?_;refine o1_indexAddr_rd rfl rfl h i rfl hlt (fun a ha=>?_))|(refine k_call ?_;first|refine o1_min (r:=(k:Int)) rfl rfl (by omega) ?_|refine ox_append rfl rfl (rx_any (hsi.cuth k hk1)) rfl rfl (fun _=>rfl) (by omega) (by omega) (fun a2 c2=>?_))|(refine k_slice ?_;refine o1_cs_h (xs:=ls[i].l) k rfl rfl rfl rfl hle hk1 ?_)|refine ow ?_|refine ow2 ?_ ?_|fail)
   refine nx_again (i+1,a2,c2) ?_ ?_ (cov_cons rfl rfl (cov_cons rfl ?_ cv)) ?_
   ·show i+1≤_;omega
   ·show ls.length - (i+1)<ls.length - i;omega
   ·show _=Value.slice a2 ((cat (ls.take (i+1))).take m).length c2
    rw [hstep,List.length_append]
   ·show Ent _ [Hl.row 5 1 (.slice a2 ((cat (ls.take (i+1))).take m).length c2) ((cat (ls.take (i+1))).take m).length (((cat (ls.take (i+1))).take m).map B),.any (stars H)]
    rw [hstep,List.length_append]
    exact ent
  ·have:i=ls.length:=by omega
   subst this
   rw [List.take_length]
   by_cases hj:m≤(cat ls).length
   ·have e1:joinL (cat ls) m=(cat ls).take m:=by rw [joinL,if_pos (by omega)];rfl
    have e2:((cat ls).take m).length=m:=by rw [List.length_take];omega
    rw [e1]
    repeat' (first|intro _|refine cw ?_|refine cw2 ?_ ?_|refine ow ?_|refine ow2 ?_ ?_|fail)
    refine rt_tmp (_,_) rfl rfl rfl trivial ?_
    exact ent
   ·have e1:joinL (cat ls) m=[]:=by rw [joinL,if_neg (by omega)]
    have e2:((cat ls).take m).length<m:=by rw [List.length_take];omega
    rw [e1]
    repeat' (first|intro _|refine cw ?_|refine cw2 ?_ ?_|refine ow ?_|refine ow2 ?_ ?_|fail)
    refine rt_ent (ent_nil 5 B) ?_
    refine rt_tmp (none,0) rfl rfl rfl trivial ?_
    exact ent
 ·have hj:joinL (cat ls) n=[]:=by rw [joinL,if_neg (by omega)]
  rw [hj]
  rcases (by omega:n<1∨512<n) with hn|hn
  all_goals
   repeat' (first|intro _|refine cw ?_|refine cw2 ?_ ?_|refine ow ?_|refine ow2 ?_ ?_|fail)
   refine rt_ent (ent_nil 5 B) ?_
   refine rt_tmp (none,0) rfl rfl rfl trivial ?_
   exact ent
theorem r7_Count (H:List Hl) (l s:Int):Spec Tryz.prog 11 [I l,I s] H (fun _:Unit=>True) (fun _=>I (count l s)) (fun _=>H):=by
 refine spec_pure (res:=fun _=>[]) H Tryz.func11 rfl Tryz.ntmps11 (by kernel_rfl) rfl (fun W=>?_)
 repeat' (first|intro _|refine cw ?_|refine cw2 ?_ ?_|(refine k_binOp .quo ?_;refine o1_quo rfl rfl (by omega) ?_)|refine ow ?_|refine ow2 ?_ ?_|fail)
 all_goals
  refine rt_tmp () rfl rfl ?_ trivial ?_
 all_goals first
  | (exact ent;done)
  | skip
 all_goals
  unfold count
  split <;> first|rfl|omega|(split <;> first|rfl|omega)
theorem cat_pieces (image:List (BitVec 8)) (m z:Nat):∀ n,n*z≤m→((List.range n).map (pieceL image m z)).flatten=(full image m).take (n*z)
 | 0,_=>by simp
 | n+1,h=>by
  have h1:n*z≤(n+1)*z:=Nat.mul_le_mul_right z (Nat.le_succ n)
  rw [List.range_succ,List.map_append,List.flatten_append,cat_pieces image m z n (by omega)]
  simp only [List.map_cons,List.map_nil,List.flatten_cons,List.flatten_nil,List.append_nil,pieceL]
  have:(full image m).take (n*z)=((full image m).take ((n+1)*z)).take (n*z):=by rw [List.take_take,Nat.min_eq_left h1]
  rw [this,List.take_append_drop]
theorem pieceL_len (image:List (BitVec 8)) (m z i:Nat) (h:(i+1)*z≤m):(pieceL image m z i).length=z:=by
 have h1:(i+1)*z=i*z+z:=by rw [Nat.add_mul,Nat.one_mul]
 simp only [pieceL,List.length_drop,List.length_take,full_len]
 omega
def accL (n:Nat) (ls:List (SlD (BitVec 8))) (i:Nat):List (BitVec 8):=(ls.take i).foldl (fun a s=>xorL a s.l) (List.replicate n 0#8)
theorem accL_zero (n:Nat) (ls:List (SlD (BitVec 8))):accL n ls 0=List.replicate n 0#8:=rfl
theorem accL_succ (n:Nat) (ls:List (SlD (BitVec 8))) (i:Nat) (h:i<ls.length):accL n ls (i+1)=xorL (accL n ls i) ls[i].l:=by
 simp only [accL]
 rw [List.take_succ_eq_append_getElem h,List.foldl_append]
 rfl
theorem accL_len (n:Nat) (ls:List (SlD (BitVec 8))):∀ i,i≤ls.length→(∀ j (h:j<ls.length),j<i→ls[j].l.length=n)→(accL n ls i).length=n
 | 0,_,_=>by simp [accL]
 | i+1,h,hl=>by
  have h1:=accL_len n ls i (by omega) (fun j hj hji=>hl j hj (by omega))
  rw [accL_succ n ls i (by omega),xorL_len _ _ (by rw [h1,hl i (by omega) (by omega)]),h1]
def sumB (ls:List (SlD (BitVec 8))):List (BitVec 8):=match ls with
 | []=>[]
 | x::_=>if ∀ s∈ls,s.l.length=x.l.length then accL x.l.length ls ls.length else []
theorem sumB_no {ls:List (SlD (BitVec 8))} {n i:Nat} (h0:∀ h:0<ls.length,ls[0].l.length=n) (hi:i<ls.length) (hne:ls[i].l.length≠n):sumB ls=[]:=by
 cases ls with
 | nil=>simp at hi
 | cons x l =>
  have h0:x.l.length=n:=h0 (by simp)
  show (if ∀ s∈x::l,s.l.length=x.l.length then accL x.l.length (x::l) (x::l).length else [])=[]
  rw [if_neg]
  intro h
  exact hne ((h _ (List.getElem_mem hi)).trans h0)
theorem sumB_yes {ls:List (SlD (BitVec 8))} {n:Nat} (hp:0<ls.length) (h:∀ j (h:j<ls.length),ls[j].l.length=n):sumB ls=accL n ls ls.length:=by
 cases ls with
 | nil=>simp at hp
 | cons x l =>
  have h0:x.l.length=n:=h 0 (by simp)
  show (if ∀ s∈x::l,s.l.length=x.l.length then accL x.l.length (x::l) (x::l).length else [])=_
  rw [if_pos,h0]
  intro s hs
  obtain ⟨j,hj,rfl⟩:=List.mem_iff_getElem.1 hs
  rw [h j hj,h0]
set_option maxHeartbeats 2000000 in
theorem block_Sum (H:List Hl) (ad:Option Addr) (c:Nat) (ls:List (SlD (BitVec 8))) (h:Rs (stars H) Bs ad c ls) (hs:∀ s∈ls,Rs (stars H) B s.ad s.cap s.l) (hb:∀ s∈ls,s.l.length≤281474976710656) :
  Spec Tryz.prog 87 [.slice ad ls.length c] H (fun _:Option Addr × Nat=>True) (fun r => .slice r.1 (sumB ls).length r.2)
   (fun r => .row 5 1 (.slice r.1 (sumB ls).length r.2) (sumB ls).length ((sumB ls).map B)::H):=by
 have b1:=h.le
 have b2:=h.big
 refine spec_pure (res:=fun r:Option Addr × Nat=>[.row 5 1 (.slice r.1 (sumB ls).length r.2) (sumB ls).length ((sumB ls).map B)]) H Tryz.func87 rfl Tryz.ntmps87 (by kernel_rfl) rfl (fun W=>?_)
 obtain ⟨x0,hx0⟩:∃ x0:List (BitVec 8),∀ h:0<ls.length,ls[0].l=x0:=by
  by_cases h:0<ls.length
  ·exact ⟨ls[0].l,fun _=>rfl⟩
  ·exact ⟨[],fun h'=>absurd h' h⟩
 have hx1:x0.length≤281474976710656∨ls.length=0:=by
  by_cases h:0<ls.length
  ·left;rw [←hx0 h];exact hb _ (List.getElem_mem h)
  ·right;omega
 repeat' (first|intro _|refine cw ?_|refine cw2 ?_ ?_|refine ow ?_|refine ow2 ?_ ?_|fail)
 refine st_loop (S:=Nat × Nat) (fun s=>[(0,.slice ad ls.length c),(3,match s.1 with|0 => .slice none 0 0|_+1 => .slice (some ⟨s.2,0,none⟩) x0.length x0.length),(8,.slice ad ls.length c),(9,I ls.length),(10,I s.1)]) (fun s=>match s.1 with|0=>[.any (stars H)]|i+1=>[.box s.2 5 ((accL x0.length ls (i+1)).map B),.any (stars H)]) (fun s=>s.1≤ls.length∧∀ j (h:j<ls.length),j<s.1→ls[j].l.length=x0.length) (fun s=>ls.length - s.1) (0,0) ⟨Nat.zero_le _,fun j _ h=>absurd h (Nat.not_lt_zero j)⟩
  cv ent ?_
 rintro ⟨i,b⟩ ⟨hi,hall⟩
 dsimp only at hi hall
 by_cases hlt:i<ls.length
 ·have hsi:=hs ls[i] (List.getElem_mem _)
  have hbi:=hb ls[i] (List.getElem_mem _)
  have hle:=hsi.le
  have hbig:=hsi.big
  have hal:=accL_len x0.length ls i (by omega) hall
  cases i with
  | zero =>
   have hli:(ls[0]'hlt).l.length=x0.length:=by rw [hx0 hlt]
   have hxl:(xorL (accL x0.length ls 0) (ls[0]'hlt).l).length=x0.length:=by rw [xorL_len _ _ (by rw [hal,hli]),hal]
   have hz:(xorL (accL x0.length ls 0) (ls[0]'hlt).l).length=(accL x0.length ls 0).length:=by rw [hxl,hal]
   have hal2:∀ (j:Nat) (h:j<ls.length),j<1→ls[j].l.length=x0.length:=fun j _ hj=>by
    have:j=0:=by omega
    subst this;exact hli
   dsimp only
   repeat' (first|intro _|refine cw ?_|refine cw2 ?_ ?_|(refine k_indexAddr ?_;refine o1_ia 0 rfl rfl h rfl rfl hlt ?_)|(refine k_load ?_;refine o1_load_ia 0 rfl h hlt ?_)|(refine k_makeSlice ?_;refine o1_maker (enc:=B) 0#8 x0.length rfl rfl rfl rfl (by omega) (by omega) (by omega) (fun b=>?_))|refine ow ?_|refine ow2 ?_ ?_|fail)
   refine st_loop (S:=Nat) (fun k=>[(0,.slice ad ls.length c),(3,.slice (some ⟨b,0,none⟩) x0.length x0.length),(8,.slice ad ls.length c),(9,I ls.length),(10,I ((0:Nat):Int)),(25,.slice (ls[0]'hlt).ad (ls[0]'hlt).l.length (ls[0]'hlt).cap),(26,I (ls[0]'hlt).l.length),(27,I k)]) (fun k=>[.box b 5 ((partL (xorL (accL x0.length ls (0)) (ls[0]'hlt).l) (accL x0.length ls (0)) k).map B),.any (stars H)]) (fun k=>k≤x0.length) (fun k=>x0.length - k) 0 (Nat.zero_le _)
    cv (by rw [partL_zero,accL_zero];exact ent) ?_
   intro k hk
   by_cases hk2:k<x0.length
   ·have hpl:=partL_len hz k
    rw [hal] at hpl
    repeat' (first|intro _|refine cw ?_|refine cw2 ?_ ?_|(refine k_indexAddr ?_;first|refine o1_own k rfl rfl rfl hk2 ?_|refine o1_ia k rfl rfl hsi rfl rfl (by omega) ?_)|(refine k_load ?_;refine o1_load_ia k rfl hsi (by omega) ?_)|refine ow ?_|refine ow2 ?_ ?_|fail)
    refine nx_again (k+1) (by omega) (by omega) cv ?_
    rw [partL_at hz (Nat.le_refl k)]
    have hv:((accL x0.length ls (0))[k]'(by rw [hal];exact hk2) ^^^ (ls[0]'hlt).l[k]'(by omega))=(xorL (accL x0.length ls (0)) (ls[0]'hlt).l)[k]'(by rw [hxl];exact hk2):=by simp [xorL]
    rw [hv,partL_succ hz]
    exact ent
   ·have:k=x0.length:=by omega
    subst this
    repeat' (first|intro _|refine cw ?_|refine cw2 ?_ ?_|refine ow ?_|refine ow2 ?_ ?_|fail)
    refine nx_again (0+1,b) ⟨by show 0+1≤_;omega,hal2⟩ (by show ls.length - (0+1)<ls.length - (0);omega) cv ?_
    show Ent _ [.box b 5 ((accL x0.length ls (0+1)).map B),.any (stars H)]
    rw [accL_succ _ _ _ hlt,partL_full hz (by rw [hal])]
    exact ent
  | succ i =>
   by_cases hli:(ls[i+1]'hlt).l.length=x0.length
   ·have hxl:(xorL (accL x0.length ls (i+1)) (ls[i+1]'hlt).l).length=x0.length:=by rw [xorL_len _ _ (by rw [hal,hli]),hal]
    have hal2:∀ (j:Nat) (h:j<ls.length),j<i+1+1→ls[j].l.length=x0.length:=fun j hj hji=>by
     by_cases he:j=i+1
     ·subst he;exact hli
     ·exact hall j hj (by omega)
    have hz:(xorL (accL x0.length ls (i+1)) (ls[i+1]'hlt).l).length=(accL x0.length ls (i+1)).length:=by rw [hxl,hal]
    dsimp only
    repeat' (first|intro _|refine cw ?_|refine cw2 ?_ ?_|(refine k_indexAddr ?_;refine o1_ia (i+1) rfl rfl h rfl rfl hlt ?_)|(refine k_load ?_;refine o1_load_ia (i+1) rfl h hlt ?_)|refine ow ?_|refine ow2 ?_ ?_|fail)
    refine st_loop (S:=Nat) (fun k=>[(0,.slice ad ls.length c),(3,.slice (some ⟨b,0,none⟩) x0.length x0.length),(8,.slice ad ls.length c),(9,I ls.length),(10,I ((i+1:Nat):Int)),(25,.slice (ls[i+1]'hlt).ad (ls[i+1]'hlt).l.length (ls[i+1]'hlt).cap),(26,I (ls[i+1]'hlt).l.length),(27,I k)]) (fun k=>[.box b 5 ((partL (xorL (accL x0.length ls (i+1)) (ls[i+1]'hlt).l) (accL x0.length ls (i+1)) k).map B),.any (stars H)]) (fun k=>k≤x0.length) (fun k=>x0.length - k) 0 (Nat.zero_le _)
     cv (by rw [partL_zero];exact ent) ?_
    intro k hk
    by_cases hk2:k<x0.length
    ·have hpl:=partL_len hz k
     rw [hal] at hpl
     repeat' (first|intro _|refine cw ?_|refine cw2 ?_ ?_|(refine k_indexAddr ?_;first|refine o1_own k rfl rfl rfl hk2 ?_|refine o1_ia k rfl rfl hsi rfl rfl (by omega) ?_)|(refine k_load ?_;refine o1_load_ia k rfl hsi (by omega) ?_)|refine ow ?_|refine ow2 ?_ ?_|fail)
     refine nx_again (k+1) (by omega) (by omega) cv ?_
     rw [partL_at hz (Nat.le_refl k)]
     have hv:((accL x0.length ls (i+1))[k]'(by rw [hal];exact hk2) ^^^ (ls[i+1]'hlt).l[k]'(by omega))=(xorL (accL x0.length ls (i+1)) (ls[i+1]'hlt).l)[k]'(by rw [hxl];exact hk2):=by simp [xorL]
     rw [hv,partL_succ hz]
     exact ent
    ·have:k=x0.length:=by omega
     subst this
     repeat' (first|intro _|refine cw ?_|refine cw2 ?_ ?_|refine ow ?_|refine ow2 ?_ ?_|fail)
     refine nx_again (i+1+1,b) ⟨by show i+1+1≤_;omega,hal2⟩ (by show ls.length - (i+1+1)<ls.length - (i+1);omega) cv ?_
     show Ent _ [.box b 5 ((accL x0.length ls (i+1+1)).map B),.any (stars H)]
     rw [accL_succ _ _ _ hlt,partL_full hz (by rw [hal])]
     exact ent
   ·rw [sumB_no (fun h0=>by rw [hx0 h0]) hlt hli]
    dsimp only
    repeat' (first|intro _|refine cw ?_|refine cw2 ?_ ?_|(refine k_indexAddr ?_;refine o1_ia (i+1) rfl rfl h rfl rfl hlt ?_)|(refine k_load ?_;refine o1_load_ia (i+1) rfl h hlt ?_)|refine ow ?_|refine ow2 ?_ ?_|fail)
    refine rt_ent (ent_nil 5 B) ?_
    refine rt_tmp (none,0) rfl rfl rfl trivial ?_
    exact ent
 ·have:i=ls.length:=by omega
  cases i with
  | zero =>
   have hn:ls=[]:=List.eq_nil_of_length_eq_zero this.symm
   subst hn
   dsimp only
   repeat' (first|intro _|refine cw ?_|refine cw2 ?_ ?_|refine ow ?_|refine ow2 ?_ ?_|fail)
   refine rt_ent (ent_nil 5 B) ?_
   refine rt_tmp (none,0) rfl rfl rfl trivial ?_
   exact ent
  | succ m =>
   have hy:=sumB_yes (ls:=ls) (n:=x0.length) (by omega) (fun j hj=>hall j hj (by omega))
   have hal:=accL_len x0.length ls ls.length (Nat.le_refl _) (fun j hj _=>hall j hj (by omega))
   rw [←this] at hy hal
   rw [hy,hal]
   dsimp only
   repeat' (first|intro _|refine cw ?_|refine cw2 ?_ ?_|refine ow ?_|refine ow2 ?_ ?_|fail)
   refine rt_row (T:=5) (b:=b) (m:=x0.length) (cp:=x0.length) (cs:=(accL x0.length ls (m+1)).map B) (by rw [List.length_map,hal]) rfl (by omega) ?_
   refine rt_tmp (some ⟨b,0,none⟩,x0.length) rfl rfl rfl trivial ?_
   exact ent
end Go.Dp
