/-
  state.Bytes, walked.
  The reader of state, walked.
  The reader of the reference, walked; readings one behind the other.
  state.Parse, walked.
  Plain and ReadManifest of the reference, walked.
  ParseState of the reference, walked.
  What is written of a state is read as it was, plain.
  Tags, told on lists; mac.masked, mac.Tag, mac.Right, and the reference's Tag, walked.
  The reference's Tag, walked.
  manifest.Bytes and Parse, the reference's, and awake of the laws of manifest, walked.
  Conditions: those that stand in each theorem.
-/
import Derived.Test.YtcblcmdikhllbaaGreatDoorQTopSwitch3
import Derived.Test.YtcblcmdikhllbaaGreatDoorQTopSwitch10
import Derived.Test.YtcblcmdikhllbaaGreatDoorQTopSwitch5
import Derived.Test.YtcblcmdikhllbaaGreatDoorQTopSwitch6
import Derived.Test.YtcblcmdikhllbaaGreatDoorQTopSwitch2
set_option linter.unusedVariables false
set_option linter.unusedSimpArgs false
namespace Go.Dp
open Go.RowKit Go.Proofs
def rtG4_0:List Row:=[⟨some 12,[],[],none⟩,⟨some 13,[0],[0],none⟩,⟨some 14,[1],[0,1],none⟩,⟨some 15,[],[],none⟩,⟨some 16,[3],[3],none⟩,⟨some 17,[4],[3,4],none⟩,⟨some 18,[2,5],[0,1,2,3,4,5],none⟩,⟨some 19,[],[],none⟩,⟨some 20,[7],[7],none⟩,⟨some 21,[8],[7,8],none⟩,⟨some 22,[],[],none⟩,⟨some 23,[10],[10],none⟩,⟨some 24,[11,9],[7,8,9,10,11],none⟩,⟨some 25,[6,9,12],[0,1,2,3,4,5,6,7,8,9,10,11,12],none⟩,⟨some 26,[13,12],[0,1,2,3,4,5,6,7,8,9,10,11,12,13],none⟩,⟨some 4,[14,14,0,1,2,3,4,5,6,7,8,9,10,11,12,13,14],[0,1,2,3,4,5,6,7,8,9,10,11,12,13,14],none⟩]
def rtG4_1:List Row:=[⟨some 37,[],[],none⟩,⟨some 38,[],[],none⟩,⟨some 39,[],[],none⟩,⟨some 40,[2],[2],none⟩,⟨some 41,[3],[2,3],none⟩,⟨some 42,[],[],none⟩,⟨some 43,[5],[5],none⟩,⟨some 44,[6],[5,6],none⟩,⟨some 45,[7],[5,6,7],none⟩,⟨some 46,[],[],none⟩,⟨some 47,[9],[9],none⟩,⟨some 48,[10],[9,10],none⟩,⟨some 49,[8,11],[5,6,7,8,9,10,11],none⟩,⟨some 50,[],[],none⟩,⟨some 51,[13],[13],none⟩,⟨some 52,[0,1,4,12,14],[0,1,2,3,4,5,6,7,8,9,10,11,12,13,14],none⟩,⟨some 53,[15,4],[0,1,2,3,4,5,6,7,8,9,10,11,12,13,14,15],none⟩,⟨some 4,[16,16,0,1,2,3,4,5,6,7,8,9,10,11,12,13,14,15,16],[0,1,2,3,4,5,6,7,8,9,10,11,12,13,14,15,16],none⟩]
def rtG4_2:List Row:=[⟨some 37,[],[],none⟩,⟨some 38,[],[],none⟩,⟨some 39,[],[],none⟩,⟨some 40,[2],[2],none⟩,⟨some 41,[3],[2,3],none⟩,⟨some 42,[],[],none⟩,⟨some 43,[5],[5],none⟩,⟨some 44,[6],[5,6],none⟩,⟨some 45,[7],[5,6,7],none⟩,⟨some 46,[],[],none⟩,⟨some 47,[9],[9],none⟩,⟨some 48,[10],[9,10],none⟩,⟨some 49,[8,11],[5,6,7,8,9,10,11],none⟩,⟨some 50,[],[],none⟩,⟨some 51,[13],[13],none⟩,⟨some 52,[0,1,4,12,14],[0,1,2,3,4,5,6,7,8,9,10,11,12,13,14],none⟩,⟨some 53,[15,4],[0,1,2,3,4,5,6,7,8,9,10,11,12,13,14,15],none⟩,⟨some 4,[16,16,0,1,2,3,4,5,6,7,8,9,10,11,12,13,14,15,16],[0,1,2,3,4,5,6,7,8,9,10,11,12,13,14,15,16],none⟩]
theorem may_light' {x:StD} (h:x.may=true):x.light:=by
 rcases Classical.em x.light with hl|hl
 ·exact hl
 ·rw [StD.heavy hl] at h;cases h
theorem st_may_m {x:StD} (h:x.may=true):(if x.on then x.m.may else x.m.none)=true:=by
 simp only [StD.may,Bool.and_eq_true] at h
 exact h.2
def SlotD.by (x:SlotD):List (BitVec 8):=if x.nothing then [0#8] else 1#8::(be4 x.v++(be2 x.n++x.h.l))
def StD.head (x:StD):List (BitVec 8):=[BitVec.ofInt 8 x.a,BitVec.ofInt 8 x.t]++(be4 x.f++be4 x.g)
def StD.tail (x:StD):List (BitVec 8):=if x.on then 1#8::x.m.by else [0#8]
def StD.by (x:StD):List (BitVec 8):=((x.head++x.s0.by)++x.s1.by)++x.tail
theorem slot_by_no {x:SlotD} (h:x.nothing=true):x.by=[0#8]:=if_pos h
theorem slot_by_yes {x:SlotD} (h:x.nothing=false):x.by=1#8::(be4 x.v++(be2 x.n++x.h.l)):=if_neg (by simp [h])
theorem slot_by_len (x:SlotD):x.by.length≤7+x.h.l.length:=by
 unfold SlotD.by
 split
 ·simp;omega
 ·simp [be4,be2];omega
theorem head_len (x:StD):x.head.length=10:=rfl
theorem head_cat (x:StD) (a1 a2 a3:Option Addr) (c1 c2 c3:Nat):cat [⟨a1,c1,[BitVec.ofInt 8 x.a,BitVec.ofInt 8 x.t]⟩,⟨a2,c2,be4 x.f⟩,⟨a3,c3,be4 x.g⟩]=x.head:=by simp [cat,StD.head]
theorem slot_cat {x:SlotD} (h:x.nothing=false) (p:List (BitVec 8)) (a1 a2 a3 a4 a5:Option Addr) (c1 c2 c3 c4 c5:Nat):cat [⟨a1,c1,p⟩,⟨a2,c2,[1#8]⟩,⟨a3,c3,be4 x.v⟩,⟨a4,c4,be2 x.n⟩,⟨a5,c5,x.h.l⟩]=p++x.by:=by rw [slot_by_yes h];simp [cat]
theorem tail_cat (m:ManD) (p:List (BitVec 8)) (a1 a2 a3:Option Addr) (c1 c2 c3:Nat):cat [⟨a1,c1,p⟩,⟨a2,c2,[1#8]⟩,⟨a3,c3,m.by⟩]=p++(1#8::m.by):=by simp [cat]
theorem st_word (H:List Hl) (x:BitVec 32):Spec Tryz.prog 112 [W4 x] H (fun _:Nat=>True) (fun b => .slice (some ⟨b,0,none⟩) 4 4) (fun b => .box b 5 ((be4 x).map B)::H):=by
 refine spec_pure (res:=fun b:Nat=>[.box b 5 ((be4 x).map B)]) H Tryz.func112 rfl Tryz.ntmps112 (by kernel_rfl) rfl (fun W=>?_)
 repeat' (first|intro _|refine cw ?_|refine cw2 ?_ ?_|refine ow ?_|refine ow2 ?_ ?_|fail)
 refine rt_tmp _ rfl rfl rfl trivial ?_
 exact ent
abbrev arrV (x:StD):Value := .agg #[W4 x.s0.v,I x.s0.n,Bs x.s0.h,W4 x.s1.v,I x.s1.n,Bs x.s1.h]
set_option maxHeartbeats 8000000 in
theorem st_Bytes (H:List Hl) (x:StD) (hm:x.may=true) (hx:x.Rd (stars H)):Spec Tryz.prog 67 [x.V] H (fun _:PA=>True) (fun r => .tuple #[.slice r.1 x.by.length r.2,I 0]) (fun r=>rowB r x.by::H):=by
 refine spec_pure (res:=fun r:PA=>[rowB r x.by]) H Tryz.func67 rfl Tryz.ntmps67 (by kernel_rfl) rfl (fun W=>?_)
 have e0:=hx.s0
 have e1:=hx.s1
 have e2:=hx.m
 have hl:=may_light' hm
 have hl0:=slot_by_len x.s0
 have hl1:=slot_by_len x.s1
 have hlh:=head_len x
 obtain ⟨q0,q1,q2⟩:=hl
 have hl01:(x.head++x.s0.by).length≤117:=by rw [List.length_append];omega
 have hl02:((x.head++x.s0.by)++x.s1.by).length≤224:=by rw [List.length_append];omega
 repeat' (first|intro _|refine cw ?_|refine cw2 ?_ ?_|(refine k_fn 97 ?_;refine o1_call (fun _=>(st_May _ x).bv (b:=true) hm) rfl (fun _ _=>?_))|refine ow ?_|refine ow2 ?_ ?_|fail)
 rename_i b1 _ _
 refine st_viaK (X:=PA) (fun r=>[(1,.pointer (some ⟨b1,0,none⟩)),(4,.slice r.1 x.head.length r.2)]) (fun r=>[.box b1 51 x.c,rowB r x.head,.any (stars H)]) ?rest ?walk
 case walk =>
  intro k' via
  refine st_tree' [(1,_)] rtG4_0 [6,9,12,13,14] (.alt [0,1,2,3,4,5,7,8,10,11] [] 6 (.step [] [7,8,10,11] 9 (.step [] [10,11] 12 (.step [] [] 13 (.step [] [] 14 (.fin [15] []))))) 9 (.alt [] [0,1,2,3,4,5,10,11] 6 (.step [] [10,11] 12 (.step [] [] 13 (.step [] [] 14 (.fin [15] [])))) 12 (.step [] [0,1,2,3,4,5] 6 (.step [] [] 13 (.step [] [] 14 (.fin [15] [])))))) mixed cv (by kernel_rfl) (by kernel_rfl) ?_
  repeat' (first|intro _|refine sg ?_|refine pw ?_|refine pdd ?_|(refine k_fn 112 ?_;first|refine o1_call (fun _=>st_word _ x.f) rfl (fun b2 _=>?_)|refine o1_call (fun _=>st_word _ x.g) rfl (fun b3 _=>?_))|(refine k_buildSlice ?_;first|refine o1_lit_enc B [BitVec.ofInt 8 x.a,BitVec.ofInt 8 x.t] rfl rfl rfl (fun _=>rfl) rfl rfl rfl (fun b4=>?_)|refine o1_lit_enc Bs [⟨some ⟨b4,0,none⟩,2,[BitVec.ofInt 8 x.a,BitVec.ofInt 8 x.t]⟩,⟨some ⟨b2,0,none⟩,4,be4 x.f⟩,⟨some ⟨b3,0,none⟩,4,be4 x.g⟩] rfl rfl rfl (fun _=>rfl) rfl rfl rfl (fun b5=>?_))|(refine k_fn 111 ?_;(refine o1_call (fun hh=>slices_Concat _ _ _ [⟨some ⟨b4,0,none⟩,2,[BitVec.ofInt 8 x.a,BitVec.ofInt 8 x.t]⟩,⟨some ⟨b2,0,none⟩,4,be4 x.f⟩,⟨some ⟨b3,0,none⟩,4,be4 x.g⟩] (rx_lit rfl rfl hh) (fa_cons (rx_lit rfl rfl hh) (fa_cons (rx_lit rfl rfl hh) (fa_cons (rx_lit rfl rfl hh) fa_nil))) (by rw [head_cat];omega)) rfl (fun ⟨a5,c5⟩ _=>?_);dsimp only;rw [head_cat]))|refine ow ?_|refine And.intro ?_ ?_|fail)
  all_goals dsimp only [List.cons_append,List.nil_append]
  all_goals exact via (a5,c5) _ _ cv ent
 case rest =>
  rintro ⟨a0,c0⟩
  dsimp only
  repeat' (first|intro _|refine cwb ?_|refine cw2 ?_ ?_|refine ow ?_|refine ow2 ?_ ?_|fail)
  refine st_block ?_
  refine st_rounds 2 ?_
  repeat' (first|intro _|refine cwb ?_|refine cw2 ?_ ?_|refine ow ?_|refine ow2 ?_ ?_|fail)
  refine st_viaK (X:=PA) (fun r=>[(1,.pointer (some ⟨b1,0,none⟩)),(4,.slice r.1 (x.head++x.s0.by).length r.2),(28,arrV x),(29,I 0)]) (fun r=>[.box b1 51 x.c,rowB r (x.head++x.s0.by),.any (stars H)]) ?restA ?walkA
  case walkA =>
   intro k' via
   cases hn:x.s0.nothing
   ·repeat' (first|intro _|refine cw ?_|refine cw2 ?_ ?_|(refine k_index ?_;refine o1_index_agg 0 rfl rfl rfl (by decide) (by simp only [Nat.zero_mul,Nat.one_mul,Nat.reduceMul,List.drop_zero,List.drop_succ_cons,List.take_succ_cons,List.take_zero];rfl) ?_)|(refine k_fn 113 ?_;refine o1_call (fun _=>(st_nothing _ x.s0).bv (b:=false) hn) rfl (fun _ _=>?_))|refine ow ?_|refine ow2 ?_ ?_|fail)
    refine st_tree' [(4,_),(6,_)] rtG4_1 [1,4,12,15,16] (.alt3 [0,2,3,5,6,7,8,9,10,11,13,14] [] 1 (.alt [] [0,2,3,5,6,7,8,9,10,11,13,14] 4 (.step [] [0,5,6,7,8,9,10,11,13,14] 12 (.step [] [0,13,14] 15 (.step [] [] 16 (.fin [17] [])))) 12 (.step [] [0,2,3,13,14] 4 (.step [] [0,13,14] 15 (.step [] [] 16 (.fin [17] []))))) 4 (.alt [] [0,5,6,7,8,9,10,11,13,14] 1 (.step [] [0,5,6,7,8,9,10,11,13,14] 12 (.step [] [0,13,14] 15 (.step [] [] 16 (.fin [17] [])))) 12 (.step [] [0,13,14] 1 (.step [] [0,13,14] 15 (.step [] [] 16 (.fin [17] []))))) 12 (.alt [] [0,2,3,13,14] 1 (.step [] [0,2,3,13,14] 4 (.step [] [0,13,14] 15 (.step [] [] 16 (.fin [17] [])))) 4 (.step [] [0,13,14] 1 (.step [] [0,13,14] 15 (.step [] [] 16 (.fin [17] [])))))) mixed cv (by kernel_rfl) (by kernel_rfl) ?_
    repeat' (first|intro _|refine sg ?_|(refine p_binOp .shr ?_;refine po (by first|refine o1_ishr8 rfl rfl fz|fail) ?_)|refine pw ?_|refine pdd ?_|(refine k_fn 112 ?_;refine o1_call (fun _=>st_word _ x.s0.v) rfl (fun b2 _=>?_))|(refine k_buildSlice ?_;first|refine o1_lit_enc B [1#8] rfl rfl rfl (fun _=>rfl) rfl rfl rfl (fun b3=>?_)|refine o1_lit_enc B (be2 x.s0.n) rfl rfl rfl (fun _=>rfl) rfl rfl rfl (fun b4=>?_)|refine o1_lit_enc Bs [⟨a0,c0,x.head⟩,⟨some ⟨b3,0,none⟩,1,[1#8]⟩,⟨some ⟨b2,0,none⟩,4,be4 x.s0.v⟩,⟨some ⟨b4,0,none⟩,2,be2 x.s0.n⟩,x.s0.h] rfl rfl rfl (fun _=>rfl) rfl rfl rfl (fun b5=>?_))|(refine k_fn 111 ?_;(refine o1_call (fun hh=>slices_Concat _ _ _ [⟨a0,c0,x.head⟩,⟨some ⟨b3,0,none⟩,1,[1#8]⟩,⟨some ⟨b2,0,none⟩,4,be4 x.s0.v⟩,⟨some ⟨b4,0,none⟩,2,be2 x.s0.n⟩,x.s0.h] (rx_lit rfl rfl hh) (fa_cons (rx_row (ad:=a0) (c:=c0) hh) (fa_cons (rx_lit rfl rfl hh) (fa_cons (rx_lit rfl rfl hh) (fa_cons (rx_lit rfl rfl hh) (fa_cons (Rs.up e0) fa_nil))))) (by rw [slot_cat hn];omega)) rfl (fun ⟨a5,c5⟩ _=>?_);dsimp only;rw [slot_cat hn]))|refine ow ?_|refine And.intro ?_ ?_|fail)
    all_goals dsimp only [List.cons_append,List.nil_append]
    all_goals (refine nx_blk ?_;exact via (a5,c5) _ _ cv ent)
   ·rw [slot_by_no hn] at via
    repeat' (first|intro _|refine cw ?_|refine cw2 ?_ ?_|(refine k_index ?_;refine o1_index_agg 0 rfl rfl rfl (by decide) (by simp only [Nat.zero_mul,Nat.one_mul,Nat.reduceMul,List.drop_zero,List.drop_succ_cons,List.take_succ_cons,List.take_zero];rfl) ?_)|(refine k_fn 113 ?_;refine o1_call (fun _=>(st_nothing _ x.s0).bv (b:=true) hn) rfl (fun _ _=>?_))|(refine k_buildSlice ?_;refine o1_lit_enc B [0#8] rfl rfl rfl (fun _=>rfl) rfl rfl rfl (fun b3=>?_))|(refine k_call ?_;refine ox_appendL (xs:=x.head) (ys:=[0#8]) rfl rfl (rx_box rfl (by decide)) rfl (fun _=>rfl) (by simp;omega) (by simp;omega) (fun a5 c5=>?_))|refine ow ?_|refine ow2 ?_ ?_|fail)
    exact via (a5,c5) _ _ cv ent
  case restA =>
   rintro ⟨a0,c0⟩
   dsimp only
   repeat' (first|intro _|refine cwb ?_|refine cw2 ?_ ?_|refine ow ?_|refine ow2 ?_ ?_|fail)
   refine st_viaK (X:=PA) (fun r=>[(1,.pointer (some ⟨b1,0,none⟩)),(4,.slice r.1 ((x.head++x.s0.by)++x.s1.by).length r.2),(28,arrV x),(29,I (0+1))]) (fun r=>[.box b1 51 x.c,rowB r ((x.head++x.s0.by)++x.s1.by),.any (stars H)]) ?restB ?walkB
   case walkB =>
    intro k' via
    cases hn:x.s1.nothing
    ·repeat' (first|intro _|refine cw ?_|refine cw2 ?_ ?_|(refine k_index ?_;refine o1_index_agg 1 rfl rfl rfl (by decide) (by simp only [Nat.zero_mul,Nat.one_mul,Nat.reduceMul,List.drop_zero,List.drop_succ_cons,List.take_succ_cons,List.take_zero];rfl) ?_)|(refine k_fn 113 ?_;refine o1_call (fun _=>(st_nothing _ x.s1).bv (b:=false) hn) rfl (fun _ _=>?_))|refine ow ?_|refine ow2 ?_ ?_|fail)
     refine st_tree' [(4,_),(6,_)] rtG4_2 [1,4,12,15,16] (.alt3 [0,2,3,5,6,7,8,9,10,11,13,14] [] 1 (.alt [] [0,2,3,5,6,7,8,9,10,11,13,14] 4 (.step [] [0,5,6,7,8,9,10,11,13,14] 12 (.step [] [0,13,14] 15 (.step [] [] 16 (.fin [17] [])))) 12 (.step [] [0,2,3,13,14] 4 (.step [] [0,13,14] 15 (.step [] [] 16 (.fin [17] []))))) 4 (.alt [] [0,5,6,7,8,9,10,11,13,14] 1 (.step [] [0,5,6,7,8,9,10,11,13,14] 12 (.step [] [0,13,14] 15 (.step [] [] 16 (.fin [17] [])))) 12 (.step [] [0,13,14] 1 (.step [] [0,13,14] 15 (.step [] [] 16 (.fin [17] []))))) 12 (.alt [] [0,2,3,13,14] 1 (.step [] [0,2,3,13,14] 4 (.step [] [0,13,14] 15 (.step [] [] 16 (.fin [17] [])))) 4 (.step [] [0,13,14] 1 (.step [] [0,13,14] 15 (.step [] [] 16 (.fin [17] [])))))) mixed cv (by kernel_rfl) (by kernel_rfl) ?_
     repeat' (first|intro _|refine sg ?_|(refine p_binOp .shr ?_;refine po (by first|refine o1_ishr8 rfl rfl fz|fail) ?_)|refine pw ?_|refine pdd ?_|(refine k_fn 112 ?_;refine o1_call (fun _=>st_word _ x.s1.v) rfl (fun b2 _=>?_))|(refine k_buildSlice ?_;first|refine o1_lit_enc B [1#8] rfl rfl rfl (fun _=>rfl) rfl rfl rfl (fun b3=>?_)|refine o1_lit_enc B (be2 x.s1.n) rfl rfl rfl (fun _=>rfl) rfl rfl rfl (fun b4=>?_)|refine o1_lit_enc Bs [⟨a0,c0,x.head++x.s0.by⟩,⟨some ⟨b3,0,none⟩,1,[1#8]⟩,⟨some ⟨b2,0,none⟩,4,be4 x.s1.v⟩,⟨some ⟨b4,0,none⟩,2,be2 x.s1.n⟩,x.s1.h] rfl rfl rfl (fun _=>rfl) rfl rfl rfl (fun b5=>?_))|(refine k_fn 111 ?_;(refine o1_call (fun hh=>slices_Concat _ _ _ [⟨a0,c0,x.head++x.s0.by⟩,⟨some ⟨b3,0,none⟩,1,[1#8]⟩,⟨some ⟨b2,0,none⟩,4,be4 x.s1.v⟩,⟨some ⟨b4,0,none⟩,2,be2 x.s1.n⟩,x.s1.h] (rx_lit rfl rfl hh) (fa_cons (rx_row (ad:=a0) (c:=c0) hh) (fa_cons (rx_lit rfl rfl hh) (fa_cons (rx_lit rfl rfl hh) (fa_cons (rx_lit rfl rfl hh) (fa_cons (Rs.up e1) fa_nil))))) (by rw [slot_cat hn];omega)) rfl (fun ⟨a5,c5⟩ _=>?_);dsimp only;rw [slot_cat hn]))|refine ow ?_|refine And.intro ?_ ?_|fail)
     all_goals dsimp only [List.cons_append,List.nil_append]
     all_goals (refine nx_blk ?_;exact via (a5,c5) _ _ cv ent)
    ·rw [slot_by_no hn] at via
     repeat' (first|intro _|refine cw ?_|refine cw2 ?_ ?_|(refine k_index ?_;refine o1_index_agg 1 rfl rfl rfl (by decide) (by simp only [Nat.zero_mul,Nat.one_mul,Nat.reduceMul,List.drop_zero,List.drop_succ_cons,List.take_succ_cons,List.take_zero];rfl) ?_)|(refine k_fn 113 ?_;refine o1_call (fun _=>(st_nothing _ x.s1).bv (b:=true) hn) rfl (fun _ _=>?_))|(refine k_buildSlice ?_;refine o1_lit_enc B [0#8] rfl rfl rfl (fun _=>rfl) rfl rfl rfl (fun b3=>?_))|(refine k_call ?_;refine ox_appendL (xs:=x.head++x.s0.by) (ys:=[0#8]) rfl rfl (rx_box rfl (by decide)) rfl (fun _=>rfl) (by simp only [List.length_cons,List.length_nil];omega) (by simp only [List.length_cons,List.length_nil];omega) (fun a5 c5=>?_))|refine ow ?_|refine ow2 ?_ ?_|fail)
     exact via (a5,c5) _ _ cv ent
   case restB =>
    rintro ⟨a0,c0⟩
    dsimp only
    obtain ⟨q,hq⟩:∃ q,(x.head++x.s0.by)++x.s1.by=q:=⟨_,rfl⟩
    have hby:x.by=q++x.tail:=by rw [←hq];rfl
    rw [hq] at hl02 ⊢
    rw [hby]
    cases hon:x.on
    ·have ht:x.tail=[0#8]:=if_neg (by simp [hon])
     rw [ht]
     obtain ⟨a,t,f,g,s0,s1,on,m⟩:=x
     dsimp only at hon
     subst hon
     repeat' (first|intro _|refine cw ?_|refine cw2 ?_ ?_|(refine k_buildSlice ?_;refine o1_lit_enc B [0#8] rfl rfl rfl (fun _=>rfl) rfl rfl rfl (fun b3=>?_))|(refine k_call ?_;refine ox_appendL (xs:=q) (ys:=[0#8]) rfl rfl (rx_box rfl (by decide)) rfl (fun _=>rfl) (by simp only [List.length_cons,List.length_nil];omega) (by simp only [List.length_cons,List.length_nil];omega) (fun a5 c5=>?_))|refine ow ?_|refine ow2 ?_ ?_|fail)
     refine rt_tmp2 (a5,c5) rfl rfl rfl rfl trivial ?_
     exact ent
    ·have ht:x.tail=1#8::x.m.by:=if_pos hon
     have hmm:x.m.may=true:=by
      have:=(st_may_m hm)
      rwa [if_pos hon] at this
     have hml:=by_len x.m
     rw [ht]
     obtain ⟨a,t,f,g,s0,s1,on,m⟩:=x
     dsimp only at hon e2 hmm hml q2
     subst hon
     repeat' (first|intro _|refine cw ?_|refine cw2 ?_ ?_|(refine k_fn 81 ?_;(refine o1_call (fun _=>mf_Plain _ m hmm (Rs.up e2)) rfl (fun ⟨a6,c6⟩ _=>?_);dsimp only))|(refine k_buildSlice ?_;first|refine o1_lit_enc B [1#8] rfl rfl rfl (fun _=>rfl) rfl rfl rfl (fun b3=>?_)|refine o1_lit_enc Bs [⟨a0,c0,q⟩,⟨some ⟨b3,0,none⟩,1,[1#8]⟩,⟨a6,c6,m.by⟩] rfl rfl rfl (fun _=>rfl) rfl rfl rfl (fun b5=>?_))|(refine k_fn 111 ?_;(refine o1_call (fun hh=>slices_Concat _ _ _ [⟨a0,c0,q⟩,⟨some ⟨b3,0,none⟩,1,[1#8]⟩,⟨a6,c6,m.by⟩] (rx_lit rfl rfl hh) (fa_cons (rx_row (ad:=a0) (c:=c0) hh) (fa_cons (rx_lit rfl rfl hh) (fa_cons (rx_row (ad:=a6) (c:=c6) hh) fa_nil))) (by rw [tail_cat];simp only [List.length_append,List.length_cons];omega)) rfl (fun ⟨a5,c5⟩ _=>?_);dsimp only;rw [tail_cat]))|refine ow ?_|refine ow2 ?_ ?_|fail)
     refine rt_tmp2 (a5,c5) rfl rfl rfl rfl trivial ?_
     exact ent
structure RDg where
 l:List (BitVec 8)
 e:Int
def RDg.nx (r:RDg) (n:Nat):RDg:=if r.e=0 then (if r.l.length<n then ⟨[],2⟩ else ⟨r.l.drop n,0⟩) else r
def RDg.tk (r:RDg) (n:Nat):List (BitVec 8):=if r.e=0∧n≤r.l.length then r.l.take n else List.replicate n 0#8
def RDg.fl (r:RDg):RDg:=if 1<(num32 (r.tk 1)).toNat∧(r.nx 1).e=0 then ⟨[],3⟩ else r.nx 1
def RDg.is (r:RDg):Bool:=decide (r.fl.e=0) && decide ((num32 (r.tk 1)).toNat=1)
theorem tk_len (r:RDg) (n:Nat):(r.tk n).length=n:=by
 unfold RDg.tk
 split
 ·rw [List.length_take];omega
 ·simp
theorem nx_bad {r:RDg} (h:r.e≠0) (n:Nat):r.nx n=r∧r.tk n=List.replicate n 0#8:=⟨if_neg h,if_neg (by omega)⟩
theorem nx_short {r:RDg} (h:r.e=0) {n:Nat} (hn:r.l.length<n):r.nx n=⟨[],2⟩∧r.tk n=List.replicate n 0#8:=⟨by rw [RDg.nx,if_pos h,if_pos hn],if_neg (by omega)⟩
theorem nx_ok {r:RDg} (h:r.e=0) {n:Nat} (hn:n≤r.l.length):r.nx n=⟨r.l.drop n,0⟩∧r.tk n=r.l.take n:=⟨by rw [RDg.nx,if_pos h,if_neg (by omega)],if_pos ⟨h,hn⟩⟩
structure RdOk (A:Hp→Prop) (s:SlD (BitVec 8)) (r:RDg):Prop where
 rd:RdS A s
 eq:r.e=0→s.l=r.l
abbrev rdBox (b:Nat) (s:SlD (BitVec 8)) (r:RDg):Hl := .box b 175 [Bs s,I r.e]
set_option maxHeartbeats 2000000 in
theorem rd_some (H:List Hl) (A:Hp→Prop) (hA:∀ w,sat w (stars H)→sat w A) (b n:Nat) (s:SlD (BitVec 8)) (r r':RDg) (t:List (BitVec 8)) (hs:RdOk A s r) (hn:n≤100) (h1:r.nx n=r') (h2:r.tk n=t) :
  Spec Tryz.prog 95 [.pointer (some ⟨b,0,none⟩),I n] (rdBox b s r::H) (fun y:PA × SlD (BitVec 8)=>RdOk A y.2 r') (fun y => .slice y.1.1 t.length y.1.2) (fun y=>rdBox b y.2 r'::rowB y.1 t::H):=by
 refine spec_fn (res:=fun y:PA × SlD (BitVec 8)=>[rdBox b y.2 r',rowB y.1 t]) [rdBox b s r] H Tryz.func95 rfl Tryz.ntmps95 (by kernel_rfl) rfl (fun W=>?_)
 dsimp only [rdBox,List.cons_append,List.nil_append]
 have hr:RdS (stars H) s:=hs.rd.mono hA
 by_cases he:r.e=0
 ·have hsl:=hs.eq he
  by_cases hlt:r.l.length<n
  ·obtain ⟨k1,k2⟩:=nx_short he hlt
   rw [k1] at h1
   rw [k2] at h2
   subst h1
   rw [←hsl] at hlt
   have htl:t.length=n:=by rw [←h2];simp
   subst htl
   repeat' (first|intro _|refine cw ?_|refine cw2 ?_ ?_|(refine k_makeSlice ?_;(refine o1_maker (enc:=B) 0#8 t.length rfl rfl rfl rfl rfl (by omega) (by omega) (fun b9=>?_);rw [h2]))|refine ow ?_|refine ow2 ?_ ?_|fail)
   refine rt_row (T:=5) (b:=b9) (m:=t.length) (cp:=t.length) (cs:=t.map B) (by simp) rfl (by omega) ?_
   refine rt_tmp ((some ⟨b9,0,none⟩,t.length),s) rfl rfl rfl ⟨hs.rd,fun h=>by cases h⟩ ?_
   exact ent
  ·obtain ⟨k1,k2⟩:=nx_ok he (n:=n) (by omega)
   rw [k1] at h1
   rw [k2] at h2
   subst h1 h2
   rw [←hsl] at hlt
   have hle:=hs.rd.le
   rw [he]
   repeat' (first|intro _|refine cw ?_|refine cw2 ?_ ?_|(refine k_slice ?_;first|refine o1_cs_h (xs:=s.l) n rfl rfl rfl rfl hle (by omega) ?_|refine o1_cs_l (xs:=s.l) n rfl rfl rfl rfl (by omega) ?_)|(refine k_fn 29 ?_;(refine o1_call (fun _=>slices_Clone _ _ _ (s.l.take n) (Rs.up (hr.cuth n (by omega))) (by simp;omega)) rfl (fun ⟨a5,c5⟩ _=>?_);dsimp only))|refine ow ?_|refine ow2 ?_ ?_|fail)
   rw [←hsl]
   refine rt_tmp ((a5,c5),⟨cutA s.ad s.cap n,s.cap - n,s.l.drop n⟩) rfl rfl rfl ⟨hs.rd.cutl n (by omega),fun _=>rfl⟩ ?_
   exact ent
 ·obtain ⟨k1,k2⟩:=nx_bad he n
  rw [k1] at h1
  rw [k2] at h2
  subst h1
  have htl:t.length=n:=by rw [←h2];simp
  subst htl
  repeat' (first|intro _|refine cw ?_|refine cw2 ?_ ?_|(refine k_makeSlice ?_;(refine o1_maker (enc:=B) 0#8 t.length rfl rfl rfl rfl rfl (by omega) (by omega) (fun b9=>?_);rw [h2]))|refine ow ?_|refine ow2 ?_ ?_|fail)
  refine rt_row (T:=5) (b:=b9) (m:=t.length) (cp:=t.length) (cs:=t.map B) (by simp) rfl (by omega) ?_
  refine rt_tmp ((some ⟨b9,0,none⟩,t.length),s) rfl rfl rfl ⟨hs.rd,fun h=>absurd h he⟩ ?_
  exact ent
set_option maxHeartbeats 2000000 in
theorem rd_number (H:List Hl) (A:Hp→Prop) (hA:∀ w,sat w (stars H)→sat w A) (b n:Nat) (s:SlD (BitVec 8)) (r r':RDg) (v:BitVec 32) (hs:RdOk A s r) (hn:n≤100) (h1:r.nx n=r') (h2:num32 (r.tk n)=v) :
  Spec Tryz.prog 93 [.pointer (some ⟨b,0,none⟩),I n] (rdBox b s r::H) (fun y:SlD (BitVec 8)=>RdOk A y r') (fun y=>W4 v) (fun y=>rdBox b y r'::H):=by
 refine spec_fn (res:=fun y:SlD (BitVec 8)=>[rdBox b y r']) [rdBox b s r] H Tryz.func93 rfl Tryz.ntmps93 (by kernel_rfl) rfl (fun W=>?_)
 dsimp only [rdBox,List.cons_append,List.nil_append]
 have hA':∀ w,sat w (stars [.any (stars H)])→sat w A:=fun w hw=>hA w (sel_sat .here w hw)
 obtain ⟨t,ht⟩:∃ t,r.tk n=t:=⟨_,rfl⟩
 have htl:t.length=n:=by rw [←ht];exact tk_len r n
 rw [ht] at h2
 subst h2
 repeat' (first|intro _|refine cw ?_|refine cw2 ?_ ?_|(refine k_fn 95 ?_;(refine o1_call (fun _=>rd_some [.any (stars H)] A hA' b n s r r' t hs hn h1 ht) rfl (fun ⟨⟨a5,c5⟩,s'⟩ hok=>?_);try dsimp only at hok ⊢))|refine ow ?_|refine ow2 ?_ ?_|fail)
 refine st_loop (S:=Nat) (fun i=>[(5,W4 (num32 (t.take i))),(10,.slice a5 t.length c5),(11,I t.length),(12,I i)]) (fun _=>[rdBox b s' r',rowB (a5,c5) t,.any (stars H)]) (fun i=>i≤t.length) (fun i=>t.length - i) 0 (by omega)
  cv (Ent.refl _) ?_
 intro i hi
 by_cases hlt:i<t.length
 ·repeat' (first|intro _|refine cw ?_|refine cw2 ?_ ?_|(refine k_indexAddr ?_;refine o1_iah (enc:=B) (c:=c5) (xs:=t) i rfl rfl rx_row rfl rfl hlt ?_)|(refine k_load ?_;refine o1_load_iah (enc:=B) (c:=c5) (xs:=t) i rfl rx_row hlt ?_)|refine ow ?_|refine ow2 ?_ ?_|fail)
  refine nx_again (i+1) (by omega) (by omega) (cov_cons rfl ?_ cv) (Ent.refl _)
  rw [num32_succ _ _ (by omega)];rfl
 ·have:i=t.length:=by omega
  subst this
  repeat' (first|intro _|refine cw ?_|refine cw2 ?_ ?_|refine ow ?_|refine ow2 ?_ ?_|fail)
  refine rt_tmp s' rfl rfl ?_ hok ?_
  ·rw [List.take_length]
  ·exact ent
theorem tk1_bad {r:RDg} (h:(r.nx 1).e≠0):(num32 (r.tk 1)).toNat=0:=by
 by_cases he:r.e=0
 ·by_cases hl:r.l.length<1
  ·rw [(nx_short he hl).2];rfl
  ·rw [(nx_ok he (n:=1) (by omega)).1] at h;exact absurd rfl h
 ·rw [(nx_bad he 1).2];rfl
set_option maxHeartbeats 2000000 in
theorem rd_is (H:List Hl) (A:Hp→Prop) (hA:∀ w,sat w (stars H)→sat w A) (b:Nat) (s:SlD (BitVec 8)) (r r':RDg) (v:Bool) (hs:RdOk A s r) (h1:r.fl=r') (h2:r.is=v) :
  Spec Tryz.prog 94 [.pointer (some ⟨b,0,none⟩)] (rdBox b s r::H) (fun y:SlD (BitVec 8)=>RdOk A y r') (fun y => .bool v) (fun y=>rdBox b y r'::H):=by
 refine spec_fn (res:=fun y:SlD (BitVec 8)=>[rdBox b y r']) [rdBox b s r] H Tryz.func94 rfl Tryz.ntmps94 (by kernel_rfl) rfl (fun W=>?_)
 dsimp only [rdBox,List.cons_append,List.nil_append]
 have hA':∀ w,sat w (stars [.any (stars H)])→sat w A:=fun w hw=>hA w (sel_sat .here w hw)
 obtain ⟨r1,hr1⟩:∃ t,r.nx 1=t:=⟨_,rfl⟩
 obtain ⟨u,hu⟩:∃ t,num32 (r.tk 1)=t:=⟨_,rfl⟩
 have hbad:r1.e≠0→u.toNat=0:=fun h=>by rw [←hu];exact tk1_bad (by rw [hr1];exact h)
 unfold RDg.is RDg.fl at h2
 unfold RDg.fl at h1
 rw [hr1,hu] at h1 h2
 by_cases hc:1<u.toNat∧r1.e=0
 ·rw [if_pos hc] at h1 h2
  subst h1
  have hv:v=false:=by rw [←h2];rfl
  subst hv
  obtain ⟨hc1,hc2⟩:=hc
  repeat' (first|intro _|refine cw ?_|refine cw2 ?_ ?_|(refine k_fn 93 ?_;(refine o1_call (fun _=>rd_number [.any (stars H)] A hA' b 1 s r r1 u hs (by omega) hr1 hu) rfl (fun s' hok=>?_);try dsimp only at hok ⊢))|(refine k_binOp .eql ?_;refine o1_eql_f rfl rfl (by decide) ?_)|refine ow ?_|refine ow2 ?_ ?_|fail)
  all_goals (refine rt_tmp s' rfl rfl rfl ⟨hok.rd,fun h=>by cases h⟩ ?_;exact ent)
 ·rw [if_neg hc] at h1 h2
  subst h1
  by_cases hr1e:r1.e=0
  ·have hv:v=decide (u.toNat=1):=by rw [←h2,decide_eq_true hr1e];rfl
   have hu1:u.toNat≤1:=by omega
   subst hv
   by_cases hu2:u.toNat=1
   ·rw [decide_eq_true hu2]
    repeat' (first|intro _|refine cw ?_|refine cw2 ?_ ?_|(refine k_fn 93 ?_;(refine o1_call (fun _=>rd_number [.any (stars H)] A hA' b 1 s r r1 u hs (by omega) hr1 hu) rfl (fun s' hok=>?_);try dsimp only at hok ⊢))|refine ow ?_|refine ow2 ?_ ?_|fail)
    all_goals (refine rt_tmp s' rfl rfl rfl hok ?_;exact ent)
   ·rw [decide_eq_false hu2]
    repeat' (first|intro _|refine cw ?_|refine cw2 ?_ ?_|(refine k_fn 93 ?_;(refine o1_call (fun _=>rd_number [.any (stars H)] A hA' b 1 s r r1 u hs (by omega) hr1 hu) rfl (fun s' hok=>?_);try dsimp only at hok ⊢))|refine ow ?_|refine ow2 ?_ ?_|fail)
    all_goals (refine rt_tmp s' rfl rfl rfl hok ?_;exact ent)
  ·have hv:v=false:=by rw [←h2,decide_eq_false hr1e];rfl
   have hu0:=hbad hr1e
   subst hv
   repeat' (first|intro _|refine cw ?_|refine cw2 ?_ ?_|(refine k_fn 93 ?_;(refine o1_call (fun _=>rd_number [.any (stars H)] A hA' b 1 s r r1 u hs (by omega) hr1 hu) rfl (fun s' hok=>?_);try dsimp only at hok ⊢))|refine ow ?_|refine ow2 ?_ ?_|fail)
   all_goals (refine rt_tmp s' rfl rfl rfl hok ?_;exact ent)
theorem up2 {Z A:Hp→Prop} {H H1 H2:List Hl} [s1:SAny H Z H1] [s2:SAny H1 A H2]:∀ w,sat w (stars H)→sat w (stars [.any Z,.any A]):=fun w h=>h.mono (Ent.out (.cons s1.s (.cons s2.s .nil)))
def rtG7_0:List Row:=[⟨some 63,[],[],none⟩,⟨some 64,[],[],none⟩,⟨some 65,[1],[1],none⟩,⟨some 66,[2],[1,2],none⟩,⟨some 67,[3],[1,2,3],none⟩,⟨none,[0,0],[0],none⟩,⟨some 3,[4,5,0,1,2,3,4,5],[0,1,2,3,4,5],none⟩]
def rtG7_1:List Row:=[⟨some 63,[],[],none⟩,⟨some 64,[],[],none⟩,⟨some 65,[1],[1],none⟩,⟨some 66,[2],[1,2],none⟩,⟨some 67,[3],[1,2,3],none⟩,⟨none,[0,0],[0],none⟩,⟨some 3,[4,5,0,1,2,3,4,5],[0,1,2,3,4,5],none⟩]
def rtG7_2:List Row:=[⟨some 63,[],[],none⟩,⟨some 64,[],[],none⟩,⟨some 65,[1],[1],none⟩,⟨some 66,[2],[1,2],none⟩,⟨some 67,[3],[1,2,3],none⟩,⟨none,[0,0],[0],none⟩,⟨some 3,[4,5,0,1,2,3,4,5],[0,1,2,3,4,5],none⟩]
def RDg.sl (r:RDg):SlotD:=if r.is then ⟨num32 (r.fl.tk 4),((num32 ((r.fl.nx 4).tk 2)).toNat:Int),⟨none,0,((r.fl.nx 4).nx 2).tk 32⟩⟩ else ⟨0#32,0,⟨none,0,[]⟩⟩
def RDg.ns (r:RDg):RDg:=if r.is then ((r.fl.nx 4).nx 2).nx 32 else r.fl
def RDg.mn (r:RDg):ManD:=if r.is then (if (manO (r.fl.tk 44) (none,0)).may then manO (r.fl.tk 44) (none,0) else zM) else zM
def RDg.nm (r:RDg):RDg:=if r.is then r.fl.nx 44 else r.fl
def rd2 (l:List (BitVec 8)):RDg:=(RDg.mk l 0).nx 1
def rd3 (l:List (BitVec 8)):RDg:=(rd2 l).nx 1
def rd4 (l:List (BitVec 8)):RDg:=(rd3 l).nx 4
def rd5 (l:List (BitVec 8)):RDg:=(rd4 l).nx 4
def stO (l:List (BitVec 8)):StD:=⟨((num32 ((RDg.mk l 0).tk 1)).toNat:Int),((num32 ((rd2 l).tk 1)).toNat:Int),num32 ((rd3 l).tk 4),num32 ((rd4 l).tk 4),(rd5 l).sl,(rd5 l).ns.sl,(rd5 l).ns.ns.is,(rd5 l).ns.ns.mn⟩
def endO (l:List (BitVec 8)):RDg:=(rd5 l).ns.ns.nm
def prs (l:List (BitVec 8)):StD × Int:=if (endO l).e≠0 then (zS,(endO l).e) else if 0<(endO l).l.length∨(stO l).may=false then (zS,3) else (stO l,0)
theorem up_sat {A:Hp→Prop} {H H':List Hl} [s:SAny H A H']:∀ w,sat w (stars H)→sat w A:=sel_sat s.s
set_option maxHeartbeats 8000000 in
theorem st_Parse (H:List Hl) (ad:Option Addr) (c:Nat) (l:List (BitVec 8)) (h:Rs (stars H) B ad c l) (p:StD × Int) (hp:prs l=p) :
  Spec Tryz.prog 47 [.slice ad l.length c] H (fun _:PA × PA × PA=>True) (fun r => .tuple #[(copyS p.1 r.1 r.2.1 r.2.2).V,I p.2]) (fun r=>rowL r.1 p.1.s0.h.l::rowL r.2.1 p.1.s1.h.l::rowL r.2.2 p.1.m.h.l::H):=by
 refine spec_pure (res:=fun r:PA × PA × PA=>[rowL r.1 p.1.s0.h.l,rowL r.2.1 p.1.s1.h.l,rowL r.2.2 p.1.m.h.l]) H Tryz.func47 rfl Tryz.ntmps47 (by kernel_rfl) rfl (fun W=>?_)
 have hs0:RdOk (stars H) ⟨ad,c,l⟩ ⟨l,0⟩:=⟨h,fun _=>rfl⟩
 obtain ⟨va,hva⟩:∃ v,num32 ((RDg.mk l 0).tk 1)=v:=⟨_,rfl⟩
 obtain ⟨vt,hvt⟩:∃ v,num32 ((rd2 l).tk 1)=v:=⟨_,rfl⟩
 obtain ⟨vf,hvf⟩:∃ v,num32 ((rd3 l).tk 4)=v:=⟨_,rfl⟩
 obtain ⟨vg,hvg⟩:∃ v,num32 ((rd4 l).tk 4)=v:=⟨_,rfl⟩
 repeat' (first|intro _|refine cwb ?_|refine cw2 ?_ ?_|(refine k_fn 93 ?_;first|(refine o1_call_box (fun _=>rd_number _ (stars H) up_sat br 1 ⟨ad,c,l⟩ ⟨l,0⟩ (rd2 l) va hs0 (by omega) rfl hva) rfl (fun s1 hk1=>?_))|(refine o1_call_box (fun _=>rd_number _ (stars H) up_sat br 1 s1 (rd2 l) (rd3 l) vt hk1 (by omega) rfl hvt) rfl (fun s2 hk2=>?_))|(refine o1_call_box (fun _=>rd_number _ (stars H) up_sat br 4 s2 (rd3 l) (rd4 l) vf hk2 (by omega) rfl hvf) rfl (fun s3 hk3=>?_))|(refine o1_call_box (fun _=>rd_number _ (stars H) up_sat br 4 s3 (rd4 l) (rd5 l) vg hk3 (by omega) rfl hvg) rfl (fun s4 hk4=>?_)))|(refine k_box ?_;refine o1_box (T:=175) rfl rfl (fun br=>?_))|refine ow ?_|refine ow2 ?_ ?_|fail)
 rename_i b2 b5
 obtain ⟨r6,hr6⟩:∃ t,(rd5 l).ns=t:=⟨_,rfl⟩
 obtain ⟨x0,hx0⟩:∃ t,(rd5 l).sl=t:=⟨_,rfl⟩
 obtain ⟨r7,hr7⟩:∃ t,r6.ns=t:=⟨_,rfl⟩
 obtain ⟨x1,hx1⟩:∃ t,r6.sl=t:=⟨_,rfl⟩
 obtain ⟨r9,hr9⟩:∃ t,r7.nm=t:=⟨_,rfl⟩
 obtain ⟨m,hm⟩:∃ t,r7.mn=t:=⟨_,rfl⟩
 obtain ⟨on,hon⟩:∃ t,r7.is=t:=⟨_,rfl⟩
 have hend:endO l=r9:=by rw [endO,hr6,hr7,hr9]
 have hst:stO l=⟨(va.toNat:Int),(vt.toNat:Int),vf,vg,x0,x1,on,m⟩:=by rw [stO,hva,hvt,hvf,hvg,hx0,hr6,hx1,hr7,hon,hm]
 rw [prs,hend,hst] at hp
 clear hst hend
 refine st_block ?_
 refine st_rounds 2 ?_
 repeat' (first|intro _|refine cwb ?_|refine cw2 ?_ ?_|refine ow ?_|refine ow2 ?_ ?_|fail)
 refine st_viaK (X:={y:PA × SlD (BitVec 8) // RdOk (stars H) y.2 r6}) (fun y=>[(2,.pointer (some ⟨b2,0,none⟩)),(4,.pointer (some ⟨br,0,none⟩)),(5,.pointer (some ⟨b5,0,none⟩)),(24,I 0)]) (fun y=>[.box b5 51 [I va.toNat,I vt.toNat,W4 vf,W4 vg,W4 x0.v,I x0.n,.slice y.1.1.1 x0.h.l.length y.1.1.2,W4 0#32,I 0,.slice none 0 0,.bool false,W4 0#32,W4 0#32,I 0,I 0,I 0,.slice none 0 0],rdBox br y.1.2 r6,.box b2 51 zS.c,rowL y.1.1 x0.h.l,.any (stars H)]) ?restA ?walkA
 case walkA =>
  intro k' via
  cases hi:(rd5 l).is
  ·have hf:(rd5 l).fl=r6:=by rw [←hr6,RDg.ns,if_neg (by simp [hi])]
   have hx:x0=⟨0#32,0,⟨none,0,[]⟩⟩:=by rw [←hx0,RDg.sl,if_neg (by simp [hi])]
   clear hr6 hx0
   subst hx
   repeat' (first|intro _|refine cw ?_|refine cw2 ?_ ?_|(refine k_fn 94 ?_;(refine o1_call_box (fun _=>rd_is _ (stars H) up_sat br s4 (rd5 l) r6 false hk4 hf hi) rfl (fun s9 hk9=>?_)))|refine ow ?_|refine ow2 ?_ ?_|fail)
   refine nx_ent (ent_nil 5 B) ?_
   exact via ⟨((none,0),s9),hk9⟩ _ _ cv ent
  ·obtain ⟨ra,hra⟩:∃ t,(rd5 l).fl=t:=⟨_,rfl⟩
   obtain ⟨rb,hrb⟩:∃ t,ra.nx 4=t:=⟨_,rfl⟩
   obtain ⟨rc,hrc⟩:∃ t,rb.nx 2=t:=⟨_,rfl⟩
   obtain ⟨v0,hv0⟩:∃ t,num32 (ra.tk 4)=t:=⟨_,rfl⟩
   obtain ⟨n0,hn0⟩:∃ t,num32 (rb.tk 2)=t:=⟨_,rfl⟩
   obtain ⟨t0,ht0⟩:∃ t,rc.tk 32=t:=⟨_,rfl⟩
   have hf:rc.nx 32=r6:=by rw [←hr6,RDg.ns,if_pos hi,hra,hrb,hrc]
   have hx:x0=⟨v0,(n0.toNat:Int),⟨none,0,t0⟩⟩:=by rw [←hx0,RDg.sl,if_pos hi,hra,hrb,hrc,hv0,hn0,ht0]
   clear hr6 hx0
   subst hx
   repeat' (first|intro _|refine cw ?_|refine cw2 ?_ ?_|(refine k_fn 94 ?_;(refine o1_call_box (fun _=>rd_is _ (stars H) up_sat br s4 (rd5 l) ra true hk4 hra hi) rfl (fun s6 hk6=>?_)))|(refine k_fn 93 ?_;first|(refine o1_call_box (fun _=>rd_number _ (stars H) up_sat br 4 s6 ra rb v0 hk6 (by omega) hrb hv0) rfl (fun s7 hk7=>?_))|(refine o1_call_box (fun _=>rd_number _ (stars H) up_sat br 2 s7 rb rc n0 hk7 (by omega) hrc hn0) rfl (fun s8 hk8=>?_)))|(refine k_fn 95 ?_;(refine o1_call_box (fun _=>rd_some _ (stars H) up_sat br 32 s8 rc r6 t0 hk8 (by omega) hf ht0) rfl (fun ⟨⟨a9,c9⟩,s9⟩ hk9=>?_);dsimp only at hk9 ⊢))|(refine k_indexAddr ?_;refine ox_idx_arr 0 4 rfl rfl rfl (by decide) rfl ?_)|refine ow ?_|refine ow2 ?_ ?_|fail)
   exact via ⟨((a9,c9),s9),hk9⟩ _ _ cv ent
 case restA =>
  rintro ⟨⟨⟨a0,c0⟩,s5⟩,hk5⟩
  dsimp only at hk5 ⊢
  clear hr6 hx0
  repeat' (first|intro _|refine cwb ?_|refine cw2 ?_ ?_|refine ow ?_|refine ow2 ?_ ?_|fail)
  refine st_viaK (X:={y:PA × SlD (BitVec 8) // RdOk (stars H) y.2 r7}) (fun y=>[(2,.pointer (some ⟨b2,0,none⟩)),(4,.pointer (some ⟨br,0,none⟩)),(5,.pointer (some ⟨b5,0,none⟩)),(24,I (0+1))]) (fun y=>[.box b5 51 [I va.toNat,I vt.toNat,W4 vf,W4 vg,W4 x0.v,I x0.n,.slice a0 x0.h.l.length c0,W4 x1.v,I x1.n,.slice y.1.1.1 x1.h.l.length y.1.1.2,.bool false,W4 0#32,W4 0#32,I 0,I 0,I 0,.slice none 0 0],rdBox br y.1.2 r7,.box b2 51 zS.c,rowL (a0,c0) x0.h.l,rowL y.1.1 x1.h.l,.any (stars H)]) ?restB ?walkB
  case walkB =>
   intro k' via
   cases hi:(r6).is
   ·have hf:(r6).fl=r7:=by rw [←hr7,RDg.ns,if_neg (by simp [hi])]
    have hx:x1=⟨0#32,0,⟨none,0,[]⟩⟩:=by rw [←hx1,RDg.sl,if_neg (by simp [hi])]
    clear hr7 hx1
    subst hx
    repeat' (first|intro _|refine cw ?_|refine cw2 ?_ ?_|(refine k_fn 94 ?_;(refine o1_call_box (fun _=>rd_is _ (stars H) up_sat br s5 (r6) r7 false hk5 hf hi) rfl (fun s9 hk9=>?_)))|refine ow ?_|refine ow2 ?_ ?_|fail)
    refine nx_ent (ent_nil 5 B) ?_
    exact via ⟨((none,0),s9),hk9⟩ _ _ cv ent
   ·obtain ⟨ra,hra⟩:∃ t,(r6).fl=t:=⟨_,rfl⟩
    obtain ⟨rb,hrb⟩:∃ t,ra.nx 4=t:=⟨_,rfl⟩
    obtain ⟨rc,hrc⟩:∃ t,rb.nx 2=t:=⟨_,rfl⟩
    obtain ⟨v0,hv0⟩:∃ t,num32 (ra.tk 4)=t:=⟨_,rfl⟩
    obtain ⟨n0,hn0⟩:∃ t,num32 (rb.tk 2)=t:=⟨_,rfl⟩
    obtain ⟨t0,ht0⟩:∃ t,rc.tk 32=t:=⟨_,rfl⟩
    have hf:rc.nx 32=r7:=by rw [←hr7,RDg.ns,if_pos hi,hra,hrb,hrc]
    have hx:x1=⟨v0,(n0.toNat:Int),⟨none,0,t0⟩⟩:=by rw [←hx1,RDg.sl,if_pos hi,hra,hrb,hrc,hv0,hn0,ht0]
    clear hr7 hx1
    subst hx
    repeat' (first|intro _|refine cw ?_|refine cw2 ?_ ?_|(refine k_fn 94 ?_;(refine o1_call_box (fun _=>rd_is _ (stars H) up_sat br s5 (r6) ra true hk5 hra hi) rfl (fun s6 hk6=>?_)))|(refine k_fn 93 ?_;first|(refine o1_call_box (fun _=>rd_number _ (stars H) up_sat br 4 s6 ra rb v0 hk6 (by omega) hrb hv0) rfl (fun s7 hk7=>?_))|(refine o1_call_box (fun _=>rd_number _ (stars H) up_sat br 2 s7 rb rc n0 hk7 (by omega) hrc hn0) rfl (fun s8 hk8=>?_)))|(refine k_fn 95 ?_;(refine o1_call_box (fun _=>rd_some _ (stars H) up_sat br 32 s8 rc r7 t0 hk8 (by omega) hf ht0) rfl (fun ⟨⟨a9,c9⟩,s9⟩ hk9=>?_);dsimp only at hk9 ⊢))|(refine k_indexAddr ?_;refine ox_idx_arr 1 7 rfl rfl rfl (by decide) rfl ?_)|refine ow ?_|refine ow2 ?_ ?_|fail)
    exact via ⟨((a9,c9),s9),hk9⟩ _ _ cv ent
  case restB =>
   rintro ⟨⟨⟨a1,c1⟩,s6⟩,hk6⟩
   dsimp only at hk6 ⊢
   clear hr7 hx1
   cases on with
   | false =>
    have hf:r7.fl=r9:=by rw [←hr9,RDg.nm,if_neg (by simp [hon])]
    have hz:m=zM:=by rw [←hm,RDg.mn,if_neg (by simp [hon])]
    clear hr9 hm
    subst hz
    by_cases he:r9.e=0
    ·rw [if_neg (by simp [he])] at hp
     by_cases hlen:0<r9.l.length
     ·rw [if_pos (.inl hlen)] at hp
      subst hp
      repeat' (first|intro _|refine cw ?_|refine cw2 ?_ ?_|(refine k_fn 94 ?_;(refine o1_call_box (fun _=>rd_is _ (stars H) up_sat br s6 r7 r9 false hk6 hf hon) rfl (fun s9 hk9=>?_)))|(refine k_binOp .gtr ?_;refine o1_gtr_t rfl rfl (by have:=hk9.eq he;rw [this];omega) ?_)|refine ow ?_|refine ow2 ?_ ?_|fail)
      refine rt_ent (ent_nil 5 B) ?_
      refine rt_ent (ent_nil 5 B) ?_
      refine rt_ent (ent_nil 5 B) ?_
      refine rt_cell_tmp ((none,0),(none,0),(none,0)) rfl rfl rfl rfl rfl trivial ?_
      exact ent
     ·cases hmay:StD.may ⟨(va.toNat:Int),(vt.toNat:Int),vf,vg,x0,x1,false,zM⟩
      ·rw [if_pos (.inr hmay)] at hp
       subst hp
       repeat' (first|intro _|refine cw ?_|refine cw2 ?_ ?_|(refine k_fn 94 ?_;(refine o1_call_box (fun _=>rd_is _ (stars H) up_sat br s6 r7 r9 false hk6 hf hon) rfl (fun s9 hk9=>?_)))|(refine k_binOp .gtr ?_;refine o1_gtr_f rfl rfl (by have:=hk9.eq he;rw [this];omega) ?_)|(refine k_fn 97 ?_;(refine o1_call (fun _=>(st_May _ (copyS ⟨(va.toNat:Int),(vt.toNat:Int),vf,vg,x0,x1,false,zM⟩ (a0,c0) (a1,c1) (none,0))).bv (b:=false) (by rw [copy_may];exact hmay)) rfl (fun _ _=>?_)))|refine ow ?_|refine ow2 ?_ ?_|fail)
       refine rt_ent (ent_nil 5 B) ?_
       refine rt_ent (ent_nil 5 B) ?_
       refine rt_ent (ent_nil 5 B) ?_
       refine rt_cell_tmp ((none,0),(none,0),(none,0)) rfl rfl rfl rfl rfl trivial ?_
       exact ent
      ·have hng : ¬ (0<r9.l.length∨StD.may ⟨(va.toNat:Int),(vt.toNat:Int),vf,vg,x0,x1,false,zM⟩=false):=fun h=>by
        rcases h with h|h
        ·exact hlen h
        ·rw [hmay] at h;cases h
       rw [if_neg hng] at hp
       subst hp
       repeat' (first|intro _|refine cw ?_|refine cw2 ?_ ?_|(refine k_fn 94 ?_;(refine o1_call_box (fun _=>rd_is _ (stars H) up_sat br s6 r7 r9 false hk6 hf hon) rfl (fun s9 hk9=>?_)))|(refine k_binOp .gtr ?_;refine o1_gtr_f rfl rfl (by have:=hk9.eq he;rw [this];omega) ?_)|(refine k_fn 97 ?_;(refine o1_call (fun _=>(st_May _ (copyS ⟨(va.toNat:Int),(vt.toNat:Int),vf,vg,x0,x1,false,zM⟩ (a0,c0) (a1,c1) (none,0))).bv (b:=true) (by rw [copy_may];exact hmay)) rfl (fun _ _=>?_)))|refine ow ?_|refine ow2 ?_ ?_|fail)
       refine rt_ent (ent_nil 5 B) ?_
       refine rt_cell_tmp ((a0,c0),(a1,c1),(none,0)) rfl rfl rfl rfl rfl trivial ?_
       exact ent
    ·rw [if_pos he] at hp
     subst hp
     repeat' (first|intro _|refine cw ?_|refine cw2 ?_ ?_|(refine k_fn 94 ?_;(refine o1_call_box (fun _=>rd_is _ (stars H) up_sat br s6 r7 r9 false hk6 hf hon) rfl (fun s9 hk9=>?_)))|refine ow ?_|refine ow2 ?_ ?_|fail)
     refine st_stages' [(4,_),(2,_)] rtG7_0 [5] [⟨[0,1,2,3,4],[],some 5⟩,⟨[6],[1,2,3,4],none⟩] mixed cv (by kernel_rfl) (by kernel_rfl) ?_
     repeat' (first|intro _|refine sg ?_|refine pw ?_|refine pdd ?_|refine ow ?_|fail)
     all_goals dsimp only [List.cons_append,List.nil_append]
     repeat' (first|intro _|refine cw ?_|refine cw2 ?_ ?_|refine ow ?_|refine ow2 ?_ ?_|fail)
     refine rt_ent (ent_nil 5 B) ?_
     refine rt_ent (ent_nil 5 B) ?_
     refine rt_ent (ent_nil 5 B) ?_
     refine rt_cell_tmp ((none,0),(none,0),(none,0)) rfl rfl rfl rfl rfl trivial ?_
     exact ent
   | true =>
    obtain ⟨ra,hra⟩:∃ t,r7.fl=t:=⟨_,rfl⟩
    obtain ⟨t0,ht0⟩:∃ t,ra.tk 44=t:=⟨_,rfl⟩
    have htl:t0.length=44:=by rw [←ht0];exact tk_len _ _
    have hf:ra.nx 44=r9:=by rw [←hr9,RDg.nm,if_pos hon,hra]
    cases hq:(manO t0 (none,0)).may with
    | true =>
     have hz:m=manO t0 (none,0):=by rw [←hm,RDg.mn,if_pos hon,hra,ht0,if_pos hq]
     clear hr9 hm
     subst hz
     by_cases he:r9.e=0
     ·rw [if_neg (by simp [he])] at hp
      by_cases hlen:0<r9.l.length
      ·rw [if_pos (.inl hlen)] at hp
       subst hp
       repeat' (first|intro _|refine cw ?_|refine cw2 ?_ ?_|(refine k_fn 94 ?_;(refine o1_call_box (fun _=>rd_is _ (stars H) up_sat br s6 r7 ra true hk6 hra hon) rfl (fun s7 hk7=>?_)))|(refine k_fn 95 ?_;(refine o1_call_box (fun _=>rd_some _ (stars H) up_sat br 44 s7 ra r9 t0 hk7 (by omega) hf ht0) rfl (fun ⟨⟨a8,c8⟩,s9⟩ hk9=>?_);dsimp only at hk9 ⊢))|(refine k_fn 96 ?_;(refine o1_call (fun hh=>mf_Read _ _ _ t0 (rx_row (ad:=a8) (c:=c8) hh) htl hq) rfl (fun ⟨a9,c9⟩ _=>?_);dsimp only [manO,ManD.V,ManD.c]))|(refine k_binOp .gtr ?_;refine o1_gtr_t rfl rfl (by have:=hk9.eq he;rw [this];omega) ?_)|refine ow ?_|refine ow2 ?_ ?_|fail)
       refine rt_ent (ent_nil 5 B) ?_
       refine rt_ent (ent_nil 5 B) ?_
       refine rt_ent (ent_nil 5 B) ?_
       refine rt_cell_tmp ((none,0),(none,0),(none,0)) rfl rfl rfl rfl rfl trivial ?_
       exact ent
      ·cases hmay:StD.may ⟨(va.toNat:Int),(vt.toNat:Int),vf,vg,x0,x1,true,manO t0 (none,0)⟩
       ·rw [if_pos (.inr hmay)] at hp
        subst hp
        repeat' (first|intro _|refine cw ?_|refine cw2 ?_ ?_|(refine k_fn 94 ?_;(refine o1_call_box (fun _=>rd_is _ (stars H) up_sat br s6 r7 ra true hk6 hra hon) rfl (fun s7 hk7=>?_)))|(refine k_fn 95 ?_;(refine o1_call_box (fun _=>rd_some _ (stars H) up_sat br 44 s7 ra r9 t0 hk7 (by omega) hf ht0) rfl (fun ⟨⟨a8,c8⟩,s9⟩ hk9=>?_);dsimp only at hk9 ⊢))|(refine k_fn 96 ?_;(refine o1_call (fun hh=>mf_Read _ _ _ t0 (rx_row (ad:=a8) (c:=c8) hh) htl hq) rfl (fun ⟨a9,c9⟩ _=>?_);dsimp only [manO,ManD.V,ManD.c]))|(refine k_binOp .gtr ?_;refine o1_gtr_f rfl rfl (by have:=hk9.eq he;rw [this];omega) ?_)|(refine k_fn 97 ?_;(refine o1_call (fun _=>(st_May _ (copyS ⟨(va.toNat:Int),(vt.toNat:Int),vf,vg,x0,x1,true,manO t0 (none,0)⟩ (a0,c0) (a1,c1) (a9,c9))).bv (b:=false) (by rw [copy_may];exact hmay)) rfl (fun _ _=>?_)))|refine ow ?_|refine ow2 ?_ ?_|fail)
        refine rt_ent (ent_nil 5 B) ?_
        refine rt_ent (ent_nil 5 B) ?_
        refine rt_ent (ent_nil 5 B) ?_
        refine rt_cell_tmp ((none,0),(none,0),(none,0)) rfl rfl rfl rfl rfl trivial ?_
        exact ent
       ·have hng : ¬ (0<r9.l.length∨StD.may ⟨(va.toNat:Int),(vt.toNat:Int),vf,vg,x0,x1,true,manO t0 (none,0)⟩=false):=fun h=>by
         rcases h with h|h
         ·exact hlen h
         ·rw [hmay] at h;cases h
        rw [if_neg hng] at hp
        subst hp
        repeat' (first|intro _|refine cw ?_|refine cw2 ?_ ?_|(refine k_fn 94 ?_;(refine o1_call_box (fun _=>rd_is _ (stars H) up_sat br s6 r7 ra true hk6 hra hon) rfl (fun s7 hk7=>?_)))|(refine k_fn 95 ?_;(refine o1_call_box (fun _=>rd_some _ (stars H) up_sat br 44 s7 ra r9 t0 hk7 (by omega) hf ht0) rfl (fun ⟨⟨a8,c8⟩,s9⟩ hk9=>?_);dsimp only at hk9 ⊢))|(refine k_fn 96 ?_;(refine o1_call (fun hh=>mf_Read _ _ _ t0 (rx_row (ad:=a8) (c:=c8) hh) htl hq) rfl (fun ⟨a9,c9⟩ _=>?_);dsimp only [manO,ManD.V,ManD.c]))|(refine k_binOp .gtr ?_;refine o1_gtr_f rfl rfl (by have:=hk9.eq he;rw [this];omega) ?_)|(refine k_fn 97 ?_;(refine o1_call (fun _=>(st_May _ (copyS ⟨(va.toNat:Int),(vt.toNat:Int),vf,vg,x0,x1,true,manO t0 (none,0)⟩ (a0,c0) (a1,c1) (a9,c9))).bv (b:=true) (by rw [copy_may];exact hmay)) rfl (fun _ _=>?_)))|refine ow ?_|refine ow2 ?_ ?_|fail)
        refine rt_cell_tmp ((a0,c0),(a1,c1),(a9,c9)) rfl rfl rfl rfl rfl trivial ?_
        exact ent
     ·rw [if_pos he] at hp
      subst hp
      repeat' (first|intro _|refine cw ?_|refine cw2 ?_ ?_|(refine k_fn 94 ?_;(refine o1_call_box (fun _=>rd_is _ (stars H) up_sat br s6 r7 ra true hk6 hra hon) rfl (fun s7 hk7=>?_)))|(refine k_fn 95 ?_;(refine o1_call_box (fun _=>rd_some _ (stars H) up_sat br 44 s7 ra r9 t0 hk7 (by omega) hf ht0) rfl (fun ⟨⟨a8,c8⟩,s9⟩ hk9=>?_);dsimp only at hk9 ⊢))|(refine k_fn 96 ?_;(refine o1_call (fun hh=>mf_Read _ _ _ t0 (rx_row (ad:=a8) (c:=c8) hh) htl hq) rfl (fun ⟨a9,c9⟩ _=>?_);dsimp only [manO,ManD.V,ManD.c]))|refine ow ?_|refine ow2 ?_ ?_|fail)
      refine st_stages' [(4,_),(2,_)] rtG7_1 [5] [⟨[0,1,2,3,4],[],some 5⟩,⟨[6],[1,2,3,4],none⟩] mixed cv (by kernel_rfl) (by kernel_rfl) ?_
      repeat' (first|intro _|refine sg ?_|refine pw ?_|refine pdd ?_|refine ow ?_|fail)
      all_goals dsimp only [List.cons_append,List.nil_append]
      repeat' (first|intro _|refine cw ?_|refine cw2 ?_ ?_|refine ow ?_|refine ow2 ?_ ?_|fail)
      refine rt_ent (ent_nil 5 B) ?_
      refine rt_ent (ent_nil 5 B) ?_
      refine rt_ent (ent_nil 5 B) ?_
      refine rt_cell_tmp ((none,0),(none,0),(none,0)) rfl rfl rfl rfl rfl trivial ?_
      exact ent
    | false =>
     have hz:m=zM:=by rw [←hm,RDg.mn,if_pos hon,hra,ht0,if_neg (by simp [hq])]
     clear hr9 hm
     subst hz
     by_cases he:r9.e=0
     ·rw [if_neg (by simp [he])] at hp
      by_cases hlen:0<r9.l.length
      ·rw [if_pos (.inl hlen)] at hp
       subst hp
       repeat' (first|intro _|refine cw ?_|refine cw2 ?_ ?_|(refine k_fn 94 ?_;(refine o1_call_box (fun _=>rd_is _ (stars H) up_sat br s6 r7 ra true hk6 hra hon) rfl (fun s7 hk7=>?_)))|(refine k_fn 95 ?_;(refine o1_call_box (fun _=>rd_some _ (stars H) up_sat br 44 s7 ra r9 t0 hk7 (by omega) hf ht0) rfl (fun ⟨⟨a8,c8⟩,s9⟩ hk9=>?_);dsimp only at hk9 ⊢))|(refine k_fn 96 ?_;(refine o1_call (fun hh=>mf_Read_no _ _ _ t0 (rx_row (ad:=a8) (c:=c8) hh) htl hq) rfl (fun _ _=>?_);dsimp only [zM,ManD.V,ManD.c]))|(refine k_binOp .gtr ?_;refine o1_gtr_t rfl rfl (by have:=hk9.eq he;rw [this];omega) ?_)|refine ow ?_|refine ow2 ?_ ?_|fail)
       refine rt_ent (ent_nil 5 B) ?_
       refine rt_ent (ent_nil 5 B) ?_
       refine rt_ent (ent_nil 5 B) ?_
       refine rt_cell_tmp ((none,0),(none,0),(none,0)) rfl rfl rfl rfl rfl trivial ?_
       exact ent
      ·cases hmay:StD.may ⟨(va.toNat:Int),(vt.toNat:Int),vf,vg,x0,x1,true,zM⟩
       ·rw [if_pos (.inr hmay)] at hp
        subst hp
        repeat' (first|intro _|refine cw ?_|refine cw2 ?_ ?_|(refine k_fn 94 ?_;(refine o1_call_box (fun _=>rd_is _ (stars H) up_sat br s6 r7 ra true hk6 hra hon) rfl (fun s7 hk7=>?_)))|(refine k_fn 95 ?_;(refine o1_call_box (fun _=>rd_some _ (stars H) up_sat br 44 s7 ra r9 t0 hk7 (by omega) hf ht0) rfl (fun ⟨⟨a8,c8⟩,s9⟩ hk9=>?_);dsimp only at hk9 ⊢))|(refine k_fn 96 ?_;(refine o1_call (fun hh=>mf_Read_no _ _ _ t0 (rx_row (ad:=a8) (c:=c8) hh) htl hq) rfl (fun _ _=>?_);dsimp only [zM,ManD.V,ManD.c]))|(refine k_binOp .gtr ?_;refine o1_gtr_f rfl rfl (by have:=hk9.eq he;rw [this];omega) ?_)|(refine k_fn 97 ?_;(refine o1_call (fun _=>(st_May _ (copyS ⟨(va.toNat:Int),(vt.toNat:Int),vf,vg,x0,x1,true,zM⟩ (a0,c0) (a1,c1) (none,0))).bv (b:=false) (by rw [copy_may];exact hmay)) rfl (fun _ _=>?_)))|refine ow ?_|refine ow2 ?_ ?_|fail)
        refine rt_ent (ent_nil 5 B) ?_
        refine rt_ent (ent_nil 5 B) ?_
        refine rt_ent (ent_nil 5 B) ?_
        refine rt_cell_tmp ((none,0),(none,0),(none,0)) rfl rfl rfl rfl rfl trivial ?_
        exact ent
       ·have hng : ¬ (0<r9.l.length∨StD.may ⟨(va.toNat:Int),(vt.toNat:Int),vf,vg,x0,x1,true,zM⟩=false):=fun h=>by
         rcases h with h|h
         ·exact hlen h
         ·rw [hmay] at h;cases h
        rw [if_neg hng] at hp
        subst hp
        repeat' (first|intro _|refine cw ?_|refine cw2 ?_ ?_|(refine k_fn 94 ?_;(refine o1_call_box (fun _=>rd_is _ (stars H) up_sat br s6 r7 ra true hk6 hra hon) rfl (fun s7 hk7=>?_)))|(refine k_fn 95 ?_;(refine o1_call_box (fun _=>rd_some _ (stars H) up_sat br 44 s7 ra r9 t0 hk7 (by omega) hf ht0) rfl (fun ⟨⟨a8,c8⟩,s9⟩ hk9=>?_);dsimp only at hk9 ⊢))|(refine k_fn 96 ?_;(refine o1_call (fun hh=>mf_Read_no _ _ _ t0 (rx_row (ad:=a8) (c:=c8) hh) htl hq) rfl (fun _ _=>?_);dsimp only [zM,ManD.V,ManD.c]))|(refine k_binOp .gtr ?_;refine o1_gtr_f rfl rfl (by have:=hk9.eq he;rw [this];omega) ?_)|(refine k_fn 97 ?_;(refine o1_call (fun _=>(st_May _ (copyS ⟨(va.toNat:Int),(vt.toNat:Int),vf,vg,x0,x1,true,zM⟩ (a0,c0) (a1,c1) (none,0))).bv (b:=true) (by rw [copy_may];exact hmay)) rfl (fun _ _=>?_)))|refine ow ?_|refine ow2 ?_ ?_|fail)
        refine rt_ent (ent_nil 5 B) ?_
        refine rt_cell_tmp ((a0,c0),(a1,c1),(none,0)) rfl rfl rfl rfl rfl trivial ?_
        exact ent
     ·rw [if_pos he] at hp
      subst hp
      repeat' (first|intro _|refine cw ?_|refine cw2 ?_ ?_|(refine k_fn 94 ?_;(refine o1_call_box (fun _=>rd_is _ (stars H) up_sat br s6 r7 ra true hk6 hra hon) rfl (fun s7 hk7=>?_)))|(refine k_fn 95 ?_;(refine o1_call_box (fun _=>rd_some _ (stars H) up_sat br 44 s7 ra r9 t0 hk7 (by omega) hf ht0) rfl (fun ⟨⟨a8,c8⟩,s9⟩ hk9=>?_);dsimp only at hk9 ⊢))|(refine k_fn 96 ?_;(refine o1_call (fun hh=>mf_Read_no _ _ _ t0 (rx_row (ad:=a8) (c:=c8) hh) htl hq) rfl (fun _ _=>?_);dsimp only [zM,ManD.V,ManD.c]))|refine ow ?_|refine ow2 ?_ ?_|fail)
      refine st_stages' [(4,_),(2,_)] rtG7_2 [5] [⟨[0,1,2,3,4],[],some 5⟩,⟨[6],[1,2,3,4],none⟩] mixed cv (by kernel_rfl) (by kernel_rfl) ?_
      repeat' (first|intro _|refine sg ?_|refine pw ?_|refine pdd ?_|refine ow ?_|fail)
      all_goals dsimp only [List.cons_append,List.nil_append]
      repeat' (first|intro _|refine cw ?_|refine cw2 ?_ ?_|refine ow ?_|refine ow2 ?_ ?_|fail)
      refine rt_ent (ent_nil 5 B) ?_
      refine rt_ent (ent_nil 5 B) ?_
      refine rt_ent (ent_nil 5 B) ?_
      refine rt_cell_tmp ((none,0),(none,0),(none,0)) rfl rfl rfl rfl rfl trivial ?_
      exact ent
theorem nx_app (p q:List (BitVec 8)):(RDg.mk (p++q) 0).nx p.length=⟨q,0⟩∧(RDg.mk (p++q) 0).tk p.length=p:=by
 obtain ⟨h1,h2⟩:=nx_ok (r:=⟨p++q,0⟩) rfl (n:=p.length) (by simp)
 rw [h1,h2]
 simp
theorem nx_app' {p:List (BitVec 8)} {n:Nat} (h:p.length=n) (q:List (BitVec 8)):(RDg.mk (p++q) 0).nx n=⟨q,0⟩∧(RDg.mk (p++q) 0).tk n=p:=by
 subst h;exact nx_app p q
theorem fl_cons (b:BitVec 8) (q:List (BitVec 8)):(RDg.mk (b::q) 0).fl=(if 1<b.toNat then ⟨[],3⟩ else ⟨q,0⟩)∧(RDg.mk (b::q) 0).is=decide (b.toNat=1):=by
 obtain ⟨h1,h2⟩:=nx_app' (p:=[b]) (n:=1) rfl q
 simp only [List.singleton_append] at h1 h2
 have hf:(RDg.mk (b::q) 0).fl=(if 1<b.toNat then ⟨[],3⟩ else ⟨q,0⟩):=by
  unfold RDg.fl
  rw [h1,h2,num32_one]
  by_cases hb:1<b.toNat
  ·rw [if_pos ⟨hb,rfl⟩,if_pos hb]
  ·rw [if_neg (fun h=>hb h.1),if_neg hb]
 refine ⟨hf,?_⟩
 unfold RDg.is
 rw [hf,h2,num32_one]
 by_cases hb:1<b.toNat
 ·rw [if_pos hb,decide_eq_false (by decide),decide_eq_false (by omega)];rfl
 ·rw [if_neg hb,decide_eq_true (by rfl)];rfl
def SlotD.plain (x:SlotD):SlotD:=⟨x.v,x.n,⟨none,0,x.h.l⟩⟩
theorem toNat_0 {v:BitVec 32} (h:v.toNat=0):v=0#32:=BitVec.eq_of_toNat_eq (by simpa using h)
theorem sl_by {x:SlotD} (hx:x.something=true∨x.nothing=true) (q:List (BitVec 8)):(RDg.mk (x.by++q) 0).sl=x.plain∧(RDg.mk (x.by++q) 0).ns=⟨q,0⟩:=by
 cases hn:x.nothing
 ·have hs:x.something=true:=by
   rcases hx with h|h
   ·exact h
   ·rw [hn] at h;cases h
  simp only [SlotD.something,decide_eq_true_eq] at hs
  have e:x.by++q=1#8::(be4 x.v++(be2 x.n++(x.h.l++q))):=by rw [slot_by_yes hn];simp
  rw [e]
  obtain ⟨f1,f2⟩:=fl_cons 1#8 (be4 x.v++(be2 x.n++(x.h.l++q)))
  have f1:(RDg.mk (1#8::(be4 x.v++(be2 x.n++(x.h.l++q)))) 0).fl=⟨be4 x.v++(be2 x.n++(x.h.l++q)),0⟩:=by rw [f1];rfl
  have f2:(RDg.mk (1#8::(be4 x.v++(be2 x.n++(x.h.l++q)))) 0).is=true:=by rw [f2];rfl
  obtain ⟨a1,a2⟩:=nx_app' (p:=be4 x.v) (n:=4) rfl (be2 x.n++(x.h.l++q))
  obtain ⟨b1,b2⟩:=nx_app' (p:=be2 x.n) (n:=2) rfl (x.h.l++q)
  obtain ⟨c1,c2⟩:=nx_app' (p:=x.h.l) (n:=32) hs.1 q
  rw [RDg.sl,RDg.ns,if_pos f2,if_pos f2,f1,a1,a2,b1,b2,c1,c2,num32_be4,num32_be2 x.n (by omega) (by omega)]
  exact ⟨rfl,rfl⟩
 ·have e:x.by++q=0#8::q:=by rw [slot_by_no hn];rfl
  rw [e]
  obtain ⟨f1,f2⟩:=fl_cons 0#8 q
  have f1:(RDg.mk (0#8::q) 0).fl=⟨q,0⟩:=by rw [f1];rfl
  have f2:(RDg.mk (0#8::q) 0).is=false:=by rw [f2];rfl
  rw [RDg.sl,RDg.ns,if_neg (by simp [f2]),if_neg (by simp [f2]),f1]
  simp only [SlotD.nothing,decide_eq_true_eq] at hn
  refine ⟨?_,rfl⟩
  rw [SlotD.plain,toNat_0 hn.1,hn.2.1,List.length_eq_zero_iff.1 hn.2.2]
theorem may_nums {m:ManD} (h:m.may=true):1≤m.n∧m.n≤512∧1≤m.z∧m.z≤16∧0≤m.p∧m.p≤16∧m.h.l.length=32:=by
 have hn:=man_may h
 simp only [ManD.may,mayP,Bool.and_eq_true,decide_eq_true_eq] at h
 omega
theorem manO_by' {m:ManD} (h:m.may=true):m.by.length=44∧manO m.by (none,0)=⟨m.s,m.v,m.n,m.z,m.p,⟨none,0,m.h.l⟩⟩:=by
 obtain ⟨q1,q2,q3,q4,q5,q6,q7⟩:=may_nums h
 refine ⟨by rw [by_len,q7],?_⟩
 have e:m.by=be4 m.s++(be4 m.v++(be2 m.n++([BitVec.ofInt 8 m.z,BitVec.ofInt 8 m.p]++m.h.l))):=by simp [ManD.by,mid4,be2]
 have t4:(m.by.take 4).drop 0=be4 m.s:=by rw [e];rfl
 have t8:(m.by.take 8).drop 4=be4 m.v:=by rw [e];rfl
 have t10:(m.by.take 10).drop 8=be2 m.n:=by rw [e];rfl
 have g10:m.by.getD 10 0#8=BitVec.ofInt 8 m.z:=by rw [e];rfl
 have g11:m.by.getD 11 0#8=BitVec.ofInt 8 m.p:=by rw [e];rfl
 have d12:m.by.drop 12=m.h.l:=by rw [e];rfl
 rw [manO,t4,t8,t10,g10,g11,d12,num32_be4,num32_be4,num32_be2 m.n (by omega) (by omega),byte_N m.z (by omega) (by omega),byte_N m.p (by omega) (by omega)]
def ManD.plain (m:ManD):ManD:=⟨m.s,m.v,m.n,m.z,m.p,⟨Option.none,0,m.h.l⟩⟩
def StD.plain (x:StD):StD:=copyS x (none,0) (none,0) (none,0)
theorem tail_nm {x:StD} (h:(if x.on then x.m.may else x.m.none)=true) (q:List (BitVec 8)):(RDg.mk (x.tail++q) 0).is=x.on∧(RDg.mk (x.tail++q) 0).mn=x.m.plain∧(RDg.mk (x.tail++q) 0).nm=⟨q,0⟩:=by
 cases hon:x.on
 ·rw [if_neg (by simp [hon])] at h
  have ht:x.tail++q=0#8::q:=by rw [StD.tail,if_neg (by simp [hon])];rfl
  rw [ht]
  obtain ⟨f1,f2⟩:=fl_cons 0#8 q
  have f1:(RDg.mk (0#8::q) 0).fl=⟨q,0⟩:=by rw [f1];rfl
  have f2:(RDg.mk (0#8::q) 0).is=false:=by rw [f2];rfl
  rw [RDg.mn,RDg.nm,f2]
  refine ⟨rfl,?_,by rw [if_neg (by simp)];exact f1⟩
  rw [if_neg (by simp)]
  simp only [ManD.none,decide_eq_true_eq] at h
  rw [ManD.plain,toNat_0 h.1,toNat_0 h.2.1,h.2.2.1,h.2.2.2.1,h.2.2.2.2.1,List.length_eq_zero_iff.1 h.2.2.2.2.2]
  rfl
 ·rw [if_pos hon] at h
  obtain ⟨k1,k2⟩:=manO_by' h
  have ht:x.tail++q=1#8::(x.m.by++q):=by rw [StD.tail,if_pos hon];rfl
  rw [ht]
  obtain ⟨f1,f2⟩:=fl_cons 1#8 (x.m.by++q)
  have f1:(RDg.mk (1#8::(x.m.by++q)) 0).fl=⟨x.m.by++q,0⟩:=by rw [f1];rfl
  have f2:(RDg.mk (1#8::(x.m.by++q)) 0).is=true:=by rw [f2];rfl
  obtain ⟨a1,a2⟩:=nx_app' (p:=x.m.by) (n:=44) k1 q
  have hmm:(ManD.mk x.m.s x.m.v x.m.n x.m.z x.m.p ⟨none,0,x.m.h.l⟩).may=true:=h
  rw [RDg.mn,RDg.nm,f2,f1,a1,a2,k2,if_pos rfl,if_pos hmm,if_pos rfl]
  exact ⟨rfl,rfl,rfl⟩
theorem slots_ok {x:StD} (h:x.may=true):(x.s0.something=true∨x.s0.nothing=true)∧(x.s1.something=true∨x.s1.nothing=true):=by
 obtain ⟨h1,h2,h3,h4,h5⟩:=may_iff.1 h
 unfold StD.cur at h3
 unfold StD.oth at h4
 have h4:(if x.a=0 then x.s1 else x.s0).something=true∨(if x.a=0 then x.s1 else x.s0).nothing=true:=by
  rcases h4 with h4|h4
  ·exact .inl h4
  ·exact .inr h4.1
 by_cases ha:x.a=0
 ·rw [if_pos ha] at h3 h4;exact ⟨.inl h3,h4⟩
 ·rw [if_neg ha] at h3 h4;exact ⟨h4,.inl h3⟩
theorem by_parts {x:StD} (h:x.may=true) (q:List (BitVec 8)):stO (x.by++q)=x.plain∧endO (x.by++q)=⟨q,0⟩:=by
 obtain ⟨h1,h2,h3,h4,h5⟩:=may_iff.1 h
 obtain ⟨k0,k1⟩:=slots_ok h
 have e:x.by++q=[BitVec.ofInt 8 x.a]++([BitVec.ofInt 8 x.t]++(be4 x.f++(be4 x.g++(x.s0.by++(x.s1.by++(x.tail++q)))))):=by simp [StD.by,StD.head]
 obtain ⟨a1,a2⟩:=nx_app' (p:=[BitVec.ofInt 8 x.a]) (n:=1) rfl ([BitVec.ofInt 8 x.t]++(be4 x.f++(be4 x.g++(x.s0.by++(x.s1.by++(x.tail++q))))))
 obtain ⟨b1,b2⟩:=nx_app' (p:=[BitVec.ofInt 8 x.t]) (n:=1) rfl (be4 x.f++(be4 x.g++(x.s0.by++(x.s1.by++(x.tail++q)))))
 obtain ⟨c1,c2⟩:=nx_app' (p:=be4 x.f) (n:=4) rfl (be4 x.g++(x.s0.by++(x.s1.by++(x.tail++q))))
 obtain ⟨d1,d2⟩:=nx_app' (p:=be4 x.g) (n:=4) rfl (x.s0.by++(x.s1.by++(x.tail++q)))
 obtain ⟨s1,s2⟩:=sl_by k0 (x.s1.by++(x.tail++q))
 obtain ⟨u1,u2⟩:=sl_by k1 (x.tail++q)
 obtain ⟨w1,w2,w3⟩:=tail_nm h5 q
 rw [←e] at a1 a2
 have r2:rd2 (x.by++q)=_:=a1
 have r3:rd3 (x.by++q)=_:=(congrArg (fun r=>RDg.nx r 1) r2).trans b1
 have r4:rd4 (x.by++q)=_:=(congrArg (fun r=>RDg.nx r 4) r3).trans c1
 have r5:rd5 (x.by++q)=_:=(congrArg (fun r=>RDg.nx r 4) r4).trans d1
 refine ⟨?_,by rw [endO,r5,s2,u2,w3]⟩
 rw [stO,a2,r2,b2,r3,c2,r4,d2,r5,s1,s2,u1,u2,w1,w2,num32_one,num32_one,num32_be4,num32_be4,byte_N x.a (by omega) (by omega),byte_N x.t (by omega) (by omega)]
 rfl
theorem prs_by {x:StD} (h:x.may=true):prs x.by=(x.plain,0):=by
 obtain ⟨e1,e2⟩:=by_parts h []
 rw [List.append_nil] at e1 e2
 rw [prs,e1,e2,if_neg (by simp),if_neg (fun hc=>by
  rcases hc with hc|hc
  ·cases hc
  ·rw [StD.plain,copy_may,h] at hc;cases hc)]
open Sha
def keyL (key:List (BitVec 8)):List (BitVec 8):=if 64<key.length then sha key else key
def padK (k:List (BitVec 8)):List (BitVec 8):=k.take 64++(List.replicate 64 0#8).drop k.length
def masked (key:List (BitVec 8)) (y:BitVec 8):List (BitVec 8):=(padK (keyL key)).map (· ^^^ y)
def tag (key b:List (BitVec 8)):List (BitVec 8):=sha (masked key 0x5c#8++sha (masked key 0x36#8++b))
theorem padK_len (k:List (BitVec 8)):(padK k).length=64:=by simp [padK];omega
theorem masked_len (key:List (BitVec 8)) (y:BitVec 8):(masked key y).length=64:=by simp [masked,padK_len]
theorem tag_len (key b:List (BitVec 8)):(tag key b).length=32:=sha_len _
theorem keyL_long {key:List (BitVec 8)} (h:64<key.length):keyL key=sha key:=if_pos h
theorem keyL_short {key:List (BitVec 8)} (h:key.length≤64):keyL key=key:=if_neg (by omega)
set_option maxHeartbeats 1000000 in
theorem mac_masked (H:List Hl) (ad:Option Addr) (c:Nat) (key m:List (BitVec 8)) (y:BitVec 8) (h:Rs (stars H) B ad c key) (hb:key.length≤70368744177664) (hm:masked key y=m) :
  Spec Tryz.prog 129 [.slice ad key.length c,B y] H (fun _:Nat=>True) (fun b => .slice (some ⟨b,0,none⟩) m.length m.length) (fun b => .box b 5 (m.map B)::H):=by
 refine spec_pure (res:=fun b:Nat=>[.box b 5 (m.map B)]) H Tryz.func129 rfl Tryz.ntmps129 (by kernel_rfl) rfl (fun W=>?_)
 have hml:m.length=64:=by rw [←hm];exact masked_len key y
 by_cases hk:64<key.length
 ·obtain ⟨kk,hkk⟩:∃ d,sha key=d:=⟨_,rfl⟩
  have hpk:m=(padK kk).map (· ^^^ y):=by rw [←hm,masked,keyL_long hk,hkk]
  obtain ⟨p,hp⟩:∃ p,padK kk=p:=⟨_,rfl⟩
  have hpl:p.length=64:=by rw [←hp];exact padK_len kk
  rw [hp] at hpk
  have hcp:kk.take (List.replicate 64 0#8).length++(List.replicate 64 0#8).drop kk.length=p:=hp
  have hz:m.length=p.length:=by rw [hml,hpl]
  repeat' (first|intro _|refine cw ?_|refine cw2 ?_ ?_|(refine k_fn 56 ?_;(refine o1_call (fun hh=>dg_Sum _ _ _ key kk h.up hb hkk) rfl (fun ⟨_,_⟩ _=>?_);dsimp only))|(refine k_makeSlice ?_;refine o1_maker (enc:=B) 0#8 64 rfl rfl rfl rfl rfl (by decide) (by decide) (fun b=>?_))|(refine k_call ?_;(refine ox_copy (xs:=List.replicate 64 0#8) (ys:=kk) rfl rfl (by simp) rx_row rfl (fun _=>rfl) ?_;rw [hcp]))|refine ow ?_|refine ow2 ?_ ?_|fail)
  refine st_loop (S:=Nat) (fun i=>[(1,B y),(5,.slice (some ⟨b,0,none⟩) 64 64),(17,I 64),(18,I i)]) (fun i=>[.box b 5 ((partL m p i).map B),.any (stars H)]) (fun i=>i≤64) (fun i=>64 - i) 0 (Nat.zero_le _)
   cv (by rw [partL_zero];exact ent) ?_
  intro i hi
  by_cases hlt:i<64
  ·have hql:(partL m p i).length=64:=by rw [partL_len hz,hpl]
   repeat' (first|intro _|refine cw ?_|refine cw2 ?_ ?_|(refine k_indexAddr ?_;refine o1_own i rfl rfl rfl hlt ?_)|(refine k_load ?_;refine ox_load_enc (l:=partL m p i) rfl (by omega) ?_)|(refine k_store ?_;refine ox_store_enc B (l:=partL m p i) rfl rfl (by omega) rfl ?_)|refine ow ?_|refine ow2 ?_ ?_|fail)
   refine nx_again (i+1) (by omega) (by omega) cv ?_
   have e:p[i]'(by omega) ^^^ y=m[i]'(by omega):=by simp [hpk]
   rw [partL_at hz (Nat.le_refl i),e,partL_succ hz]
   exact ent
  ·have:i=64:=by omega
   subst this
   rw [partL_full hz hpl.symm]
   repeat' (first|intro _|refine cw ?_|refine cw2 ?_ ?_|refine ow ?_|refine ow2 ?_ ?_|fail)
   refine rt_tmp b rfl rfl (by rw [hml]) trivial ?_
   exact ent
 ·obtain ⟨kk,hkk⟩:∃ d,key=d:=⟨_,rfl⟩
  have hpk:m=(padK kk).map (· ^^^ y):=by rw [←hm,masked,keyL_short (by omega),hkk]
  obtain ⟨p,hp⟩:∃ p,padK kk=p:=⟨_,rfl⟩
  have hpl:p.length=64:=by rw [←hp];exact padK_len kk
  rw [hp] at hpk
  have hcp:kk.take (List.replicate 64 0#8).length++(List.replicate 64 0#8).drop kk.length=p:=hp
  have hz:m.length=p.length:=by rw [hml,hpl]
  subst hkk
  repeat' (first|intro _|refine cw ?_|refine cw2 ?_ ?_|(refine k_makeSlice ?_;refine o1_maker (enc:=B) 0#8 64 rfl rfl rfl rfl rfl (by decide) (by decide) (fun b=>?_))|(refine k_call ?_;(refine ox_copy (xs:=List.replicate 64 0#8) (ys:=key) rfl rfl (by simp) (rx_any h) rfl (fun _=>rfl) ?_;rw [hcp]))|refine ow ?_|refine ow2 ?_ ?_|fail)
  refine st_loop (S:=Nat) (fun i=>[(1,B y),(5,.slice (some ⟨b,0,none⟩) 64 64),(17,I 64),(18,I i)]) (fun i=>[.box b 5 ((partL m p i).map B),.any (stars H)]) (fun i=>i≤64) (fun i=>64 - i) 0 (Nat.zero_le _)
   cv (by rw [partL_zero];exact ent) ?_
  intro i hi
  by_cases hlt:i<64
  ·have hql:(partL m p i).length=64:=by rw [partL_len hz,hpl]
   repeat' (first|intro _|refine cw ?_|refine cw2 ?_ ?_|(refine k_indexAddr ?_;refine o1_own i rfl rfl rfl hlt ?_)|(refine k_load ?_;refine ox_load_enc (l:=partL m p i) rfl (by omega) ?_)|(refine k_store ?_;refine ox_store_enc B (l:=partL m p i) rfl rfl (by omega) rfl ?_)|refine ow ?_|refine ow2 ?_ ?_|fail)
   refine nx_again (i+1) (by omega) (by omega) cv ?_
   have e:p[i]'(by omega) ^^^ y=m[i]'(by omega):=by simp [hpk]
   rw [partL_at hz (Nat.le_refl i),e,partL_succ hz]
   exact ent
  ·have:i=64:=by omega
   subst this
   rw [partL_full hz hpl.symm]
   repeat' (first|intro _|refine cw ?_|refine cw2 ?_ ?_|refine ow ?_|refine ow2 ?_ ?_|fail)
   refine rt_tmp b rfl rfl (by rw [hml]) trivial ?_
   exact ent
theorem mac_Tag (H:List Hl) (ad ad2:Option Addr) (c c2:Nat) (key b d:List (BitVec 8)) (h:Rs (stars H) B ad c key) (h2:Rs (stars H) B ad2 c2 b) (hb:key.length≤70368744177664) (hb2:b.length≤70368744177000) (hd:tag key b=d) :
  Spec Tryz.prog 82 [.slice ad key.length c,.slice ad2 b.length c2] H (fun _:Option Addr × Nat=>True) (fun r => .slice r.1 d.length r.2) (fun r => .row 5 1 (.slice r.1 d.length r.2) d.length (d.map B)::H):=by
 refine spec_pure (res:=fun r:Option Addr × Nat=>[.row 5 1 (.slice r.1 d.length r.2) d.length (d.map B)]) H Tryz.func82 rfl Tryz.ntmps82 (by kernel_rfl) rfl (fun W=>?_)
 obtain ⟨o,ho⟩:∃ m,masked key 0x5c#8=m:=⟨_,rfl⟩
 obtain ⟨i,hi⟩:∃ m,masked key 0x36#8=m:=⟨_,rfl⟩
 have hol:o.length=64:=by rw [←ho];exact masked_len _ _
 have hil:i.length=64:=by rw [←hi];exact masked_len _ _
 obtain ⟨d1,hd1⟩:∃ d,sha (i++b)=d:=⟨_,rfl⟩
 have hdl:d1.length=32:=by rw [←hd1];exact sha_len _
 have hd2:sha (o++d1)=d:=by rw [←hd,tag,ho,hi,hd1]
 repeat' (first|intro _|refine cw ?_|refine cw2 ?_ ?_|(refine k_fn 129 ?_;first|refine o1_call (fun _=>mac_masked _ _ _ key o 0x5c#8 h.up hb ho) rfl (fun _ _=>?_)|refine o1_call (fun _=>mac_masked _ _ _ key i 0x36#8 h.up hb hi) rfl (fun _ _=>?_))|(refine k_buildSlice ?_;first|refine o1_lit_enc Bs [⟨_,_,i⟩,⟨_,_,b⟩] rfl rfl rfl (fun _=>rfl) rfl rfl rfl (fun _=>?_)|refine o1_lit_enc Bs [⟨_,_,o⟩,⟨_,_,d1⟩] rfl rfl rfl (fun _=>rfl) rfl rfl rfl (fun _=>?_))|(refine k_fn 128 ?_;first|(refine o1_call (fun hh=>dg_Rows _ _ _ [⟨_,_,i⟩,⟨_,_,b⟩] d1 (rx_lit rfl rfl hh) (fa_cons (rx_box rfl (by dsimp only;omega) hh) (fa_cons h2.up fa_nil)) (by simp only [cat,List.flatMap_cons,List.flatMap_nil,List.append_nil,List.length_append];omega) (by simp only [cat,List.flatMap_cons,List.flatMap_nil,List.append_nil];exact hd1)) rfl (fun ⟨_,_⟩ _=>?_);dsimp only)|(refine o1_call (fun hh=>dg_Rows _ _ _ [⟨_,_,o⟩,⟨_,_,d1⟩] d (rx_lit rfl rfl hh) (fa_cons (rx_box rfl (by dsimp only;omega) hh) (fa_cons (rx_row hh) fa_nil)) (by simp only [cat,List.flatMap_cons,List.flatMap_nil,List.append_nil,List.length_append];omega) (by simp only [cat,List.flatMap_cons,List.flatMap_nil,List.append_nil];exact hd2)) rfl (fun ⟨_,_⟩ _=>?_);dsimp only))|refine ow ?_|refine ow2 ?_ ?_|fail)
 refine rt_tmp (_,_) rfl rfl rfl trivial ?_
 exact ent
theorem mac_Right (H:List Hl) (ad ad2 ad3:Option Addr) (c c2 c3:Nat) (key b d t:List (BitVec 8)) (h:Rs (stars H) B ad c key) (h2:Rs (stars H) B ad2 c2 b) (h3:Rs (stars H) B ad3 c3 t) (hb:key.length≤70368744177664) (hb2:b.length≤70368744177000) (hd:tag key b=d) :
  Spec Tryz.prog 116 [.slice ad key.length c,.slice ad2 b.length c2,.slice ad3 t.length c3] H (fun _:Unit=>True) (fun _ => .bool (decide (d=t))) (fun _=>H):=by
 refine spec_pure (res:=fun _=>[]) H Tryz.func116 rfl Tryz.ntmps116 (by kernel_rfl) rfl (fun W=>?_)
 repeat' (first|intro _|refine cw ?_|refine cw2 ?_ ?_|(refine k_fn 82 ?_;(refine o1_call (fun hh=>mac_Tag _ _ _ _ _ key b d h.up h2.up hb hb2 hd) rfl (fun ⟨_,_⟩ _=>?_);dsimp only))|(refine k_fn 66 ?_;refine o1_call (fun hh=>slices_Equal _ _ _ _ _ d t (rx_row hh) h3.up) rfl (fun _ _=>?_))|refine ow ?_|refine ow2 ?_ ?_|fail)
 refine rt_tmp () rfl rfl rfl trivial ?_
 exact ent
open Sha
def rtM1_0:List Row:=[⟨some 12,[],[],none⟩,⟨some 13,[],[],none⟩,⟨some 14,[1],[1],none⟩,⟨some 15,[],[],none⟩,⟨some 16,[3],[3],none⟩,⟨some 17,[0,2,4],[0,1,2,3,4],none⟩,⟨some 18,[5],[0,1,2,3,4,5],none⟩,⟨some 11,[6,5],[0,1,2,3,4,5,6],none⟩]
def rtM1_1:List Row:=[⟨some 12,[],[],none⟩,⟨some 13,[],[],none⟩,⟨some 14,[1],[1],none⟩,⟨some 15,[],[],none⟩,⟨some 16,[3],[3],none⟩,⟨some 17,[0,2,4],[0,1,2,3,4],none⟩,⟨some 18,[5],[0,1,2,3,4,5],none⟩,⟨some 11,[6,5],[0,1,2,3,4,5,6],none⟩]
open Sha
set_option maxHeartbeats 1000000 in
theorem mf_Bytes (H:List Hl) (ad:Option Addr) (c:Nat) (key d q:List (BitVec 8)) (x:ManD) (h:x.may=true) (hr:RdS (stars H) x.h) (hk:Rs (stars H) B ad c key) (hb:key.length≤300) (hq:x.by=q) (hd:tag key q=d) :
  Spec Tryz.prog 38 [.slice ad key.length c,x.V] H (fun _:PA=>True) (fun r => .tuple #[.slice r.1 (q++d).length r.2,I 0]) (fun r=>rowB r (q++d)::H):=by
 refine spec_pure (res:=fun r:PA=>[rowB r (q++d)]) H Tryz.func38 rfl Tryz.ntmps38 (by kernel_rfl) rfl (fun W=>?_)
 have hql:q.length=44:=by rw [←hq,by_len,may_len h]
 have hdl:d.length=32:=by rw [←hd];exact tag_len _ _
 repeat' (first|intro _|refine cw ?_|refine cw2 ?_ ?_|(refine k_fn 81 ?_;(refine o1_call (fun _=>mf_Plain _ x h (Rs.up hr)) rfl (fun ⟨a1,c1⟩ _=>?_);dsimp only;rw [hq]))|(refine k_fn 82 ?_;(refine o1_call (fun hh=>mac_Tag _ _ _ _ _ key q d hk.up (rx_row (ad:=a1) (c:=c1) hh) (by omega) (by omega) hd) rfl (fun ⟨a2,c2⟩ _=>?_);dsimp only))|(refine k_call ?_;refine ox_appendL (xs:=q) (ys:=d) rfl rfl (rx_row (ad:=a2) (c:=c2)) rfl (fun _=>rfl) (by omega) (by omega) (fun a3 c3=>?_))|refine ow ?_|refine ow2 ?_ ?_|fail)
 refine rt_tmp2 (a3,c3) rfl rfl rfl rfl trivial ?_
 exact ent
def setM (m:ManD) (r:PA):ManD:=⟨m.s,m.v,m.n,m.z,m.p,⟨r.1,r.2,m.h.l⟩⟩
def rdM (l:List (BitVec 8)):ManD × Int:=if l.length=44 then (if (manO l (none,0)).may then (manO l (none,0),0) else (zM,3)) else (zM,3)
def prM (key l:List (BitVec 8)):ManD × Int:=if l.length=76 then (if tag key (l.take 44)=l.drop 44 then rdM (l.take 44) else (zM,5)) else (zM,3)
theorem mf_ReadA (H:List Hl) (ad:Option Addr) (c:Nat) (l:List (BitVec 8)) (h:Rs (stars H) B ad c l) (p:ManD × Int) (hp:rdM l=p) :
  Spec Tryz.prog 96 [.slice ad l.length c] H (fun _:PA=>True) (fun r => .tuple #[(setM p.1 r).V,I p.2]) (fun r=>rowB r p.1.h.l::H):=by
 unfold rdM at hp
 have nilr:∀ h',stars H h'→stars (rowB (none,0) []::H) h':=ent_nil 5 B
 by_cases hl:l.length=44
 ·rw [if_pos hl] at hp
  cases hm:(manO l (none,0)).may
  ·rw [if_neg (by simp [hm])] at hp
   subst hp
   have k:=mf_Read_no H ad c l h hl hm
   exact ⟨k.enters,fun w hs=>(k.calls w hs).mono fun x w' ⟨r,hg,he,hx,hsat⟩=>⟨(none,0),trivial,he,hx,hsat.mono nilr⟩⟩
  ·rw [if_pos hm] at hp
   subst hp
   exact mf_Read H ad c l h hl hm
 ·rw [if_neg hl] at hp
  subst hp
  have k:=mf_Read_len H ad c l hl
  exact ⟨k.enters,fun w hs=>(k.calls w hs).mono fun x w' ⟨r,hg,he,hx,hsat⟩=>⟨(none,0),trivial,he,hx,hsat.mono nilr⟩⟩
set_option maxHeartbeats 1000000 in
theorem mf_Parse (H:List Hl) (ad ad2:Option Addr) (c c2:Nat) (key l:List (BitVec 8)) (hk:Rs (stars H) B ad c key) (h:Rs (stars H) B ad2 c2 l) (hb:key.length≤300) (p:ManD × Int) (hp:prM key l=p) :
  Spec Tryz.prog 73 [.slice ad key.length c,.slice ad2 l.length c2] H (fun _:PA=>True) (fun r => .tuple #[(setM p.1 r).V,I p.2]) (fun r=>rowB r p.1.h.l::H):=by
 refine spec_pure (res:=fun r:PA=>[rowB r p.1.h.l]) H Tryz.func73 rfl Tryz.ntmps73 (by kernel_rfl) rfl (fun W=>?_)
 unfold prM at hp
 by_cases hl:l.length=76
 ·rw [if_pos hl] at hp
  obtain ⟨d,hd⟩:∃ d,tag key (l.take 44)=d:=⟨_,rfl⟩
  rw [hd] at hp
  by_cases ht:d=l.drop 44
  ·rw [if_pos ht] at hp
   repeat' (first|intro _|refine cw ?_|refine cw2 ?_ ?_|refine ow ?_|refine ow2 ?_ ?_|fail)
   refine st_stages' [(0,_),(1,_)] rtM1_0 [] [⟨[0,1,2,3,4,5,6,7],[],none⟩] mixed cv (by kernel_rfl) (by kernel_rfl) ?_
   repeat' (first|intro _|refine sg ?_|(refine p_slice ?_;refine po (by first|refine o1_cv_h rfl rfl h rfl (by omega) (by omega) fz|refine o1_cv_l rfl rfl h rfl (by omega) (by omega) fz|fail) ?_)|(refine p_fn 116 ?_;refine po (by first|refine o1_call (fun _=>(mac_Right _ _ _ _ _ _ _ key _ d _ hk.up (Rs.up (h.cutv 0 44 (by omega) (by omega))) (Rs.up (h.cutl 44 (by omega))) (by omega) (by simp;omega) hd).bv (b:=true) (decide_eq_true ht)) rfl (fun _ _=>fz)|fail) ?_)|refine pw ?_|refine pdd ?_|refine ow ?_|fail)
   all_goals dsimp only [List.cons_append,List.nil_append]
   repeat' (first|intro _|refine cw ?_|refine cw2 ?_ ?_|(refine k_slice ?_;refine o1_cs_h (xs:=l) 44 rfl rfl rfl rfl h.le (by omega) ?_)|(refine k_fn 96 ?_;(refine o1_call (fun _=>mf_ReadA _ _ _ (l.take 44) (Rs.up (h.cuth 44 (by omega))) p hp) rfl (fun r _=>?_);dsimp only [ManD.V,ManD.c,setM]))|refine ow ?_|refine ow2 ?_ ?_|fail)
   refine rt_cell_tmp r rfl rfl rfl rfl rfl trivial ?_
   exact ent
  ·rw [if_neg ht] at hp
   subst hp
   repeat' (first|intro _|refine cw ?_|refine cw2 ?_ ?_|refine ow ?_|refine ow2 ?_ ?_|fail)
   refine st_stages' [(0,_),(1,_)] rtM1_1 [] [⟨[0,1,2,3,4,5,6,7],[],none⟩] mixed cv (by kernel_rfl) (by kernel_rfl) ?_
   repeat' (first|intro _|refine sg ?_|(refine p_slice ?_;refine po (by first|refine o1_cv_h rfl rfl h rfl (by omega) (by omega) fz|refine o1_cv_l rfl rfl h rfl (by omega) (by omega) fz|fail) ?_)|(refine p_fn 116 ?_;refine po (by first|refine o1_call (fun _=>(mac_Right _ _ _ _ _ _ _ key _ d _ hk.up (Rs.up (h.cutv 0 44 (by omega) (by omega))) (Rs.up (h.cutl 44 (by omega))) (by omega) (by simp;omega) hd).bv (b:=false) (decide_eq_false ht)) rfl (fun _ _=>fz)|fail) ?_)|refine pw ?_|refine pdd ?_|refine ow ?_|fail)
   all_goals dsimp only [List.cons_append,List.nil_append]
   repeat' (first|intro _|refine cw ?_|refine cw2 ?_ ?_|refine ow ?_|refine ow2 ?_ ?_|fail)
   refine rt_ent (ent_nil 5 B) ?_
   refine rt_cell_tmp (none,0) rfl rfl rfl rfl rfl trivial ?_
   exact ent
 ·rw [if_neg hl] at hp
  subst hp
  repeat' (first|intro _|refine cw ?_|refine cw2 ?_ ?_|refine ow ?_|refine ow2 ?_ ?_|fail)
  refine rt_ent (ent_nil 5 B) ?_
  refine rt_cell_tmp (none,0) rfl rfl rfl rfl rfl trivial ?_
  exact ent
theorem man_mayM {m:ManD} (h:m.may=true):1≤m.n∧m.n≤512∧m.h.l.length=32:=by
 simp only [ManD.may,mayP,Bool.and_eq_true,decide_eq_true_eq] at h
 refine ⟨?_,?_,h.2⟩
 ·have h1:=h.1.1
  unfold count at h1
  split at h1
  ·omega
  ·omega
 ·have h1:=h.1.1
  unfold count at h1
  split at h1
  ·omega
  ·omega
theorem manO_byM {m:ManD} (h:m.may=true):m.by.length=44∧manO m.by (none,0)=⟨m.s,m.v,m.n,m.z,m.p,⟨none,0,m.h.l⟩⟩:=by
 obtain ⟨q1,q2,q3,q4,q5,q6,q7⟩:=may_nums h
 refine ⟨by rw [by_len,q7],?_⟩
 have e:m.by=be4 m.s++(be4 m.v++(be2 m.n++([BitVec.ofInt 8 m.z,BitVec.ofInt 8 m.p]++m.h.l))):=by simp [ManD.by,mid4,be2]
 have t4:(m.by.take 4).drop 0=be4 m.s:=by rw [e];rfl
 have t8:(m.by.take 8).drop 4=be4 m.v:=by rw [e];rfl
 have t10:(m.by.take 10).drop 8=be2 m.n:=by rw [e];rfl
 have g10:m.by.getD 10 0#8=BitVec.ofInt 8 m.z:=by rw [e];rfl
 have g11:m.by.getD 11 0#8=BitVec.ofInt 8 m.p:=by rw [e];rfl
 have d12:m.by.drop 12=m.h.l:=by rw [e];rfl
 rw [manO,t4,t8,t10,g10,g11,d12,num32_be4,num32_be4,num32_be2 m.n (by omega) (by omega),byte_N m.z (by omega) (by omega),byte_N m.p (by omega) (by omega)]
theorem prM_by {m:ManD} {key d q:List (BitVec 8)} (h:m.may=true) (hq:m.by=q) (hd:tag key q=d):prM key (q++d)=(manO q (none,0),0)∧(manO q (none,0)).may=true∧rdM q=(manO q (none,0),0):=by
 have hql:q.length=44:=by rw [←hq,by_len,may_len h]
 have hdl:d.length=32:=by rw [←hd];exact tag_len _ _
 have hmm:(manO q (none,0)).may=true:=by
  rw [←hq,(manO_byM h).2];exact h
 have hrd:rdM q=(manO q (none,0),0):=by rw [rdM,if_pos hql,if_pos hmm]
 have e1:(q++d).take 44=q:=by rw [←hql];simp
 have e2:(q++d).drop 44=d:=by rw [←hql];simp
 refine ⟨?_,hmm,hrd⟩
 rw [prM,if_pos (by rw [List.length_append];omega),e1,e2,if_pos hd,hrd]
end Go.Dp
