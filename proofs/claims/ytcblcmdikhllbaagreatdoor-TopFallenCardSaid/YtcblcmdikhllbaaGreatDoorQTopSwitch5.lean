/-
  States and manifests that may be, walked.
  code.Of, manifest.May, state.May, session.Newer, Heavy, walked.
  Walks of functions that the laws of this seat reach, as contracts.
  session.Newer, Heavy, manifest.Same, slices.Clone, First, good, walked.
  flash: its box; ready, Read, Blank, step, walked.
  flash: Program, walked.
  flash: Erase, Blank, Fuse, Start, Bytes, walked.
  flash: Fuse, Start, Bytes, walked.
  state.sameSlot and state.Same, walked.
  boot.copied and boot.Drop, walked.
  Conditions: those that stand in each theorem.
-/
import Derived.Test.YtcblcmdikhllbaaGreatDoorQTopSwitch3
import Derived.Test.YtcblcmdikhllbaaGreatDoorQTopSwitch4
set_option linter.unusedVariables false
set_option linter.unusedSimpArgs false
namespace Go.Dp
open Go.RowKit Go.Proofs
structure SlotD where
 v:BitVec 32
 n:Int
 h:SlD (BitVec 8)
structure ManD where
 s:BitVec 32
 v:BitVec 32
 n:Int
 z:Int
 p:Int
 h:SlD (BitVec 8)
structure StD where
 a:Int
 t:Int
 f:BitVec 32
 g:BitVec 32
 s0:SlotD
 s1:SlotD
 on:Bool
 m:ManD
abbrev SlotD.c (x:SlotD):List Value:=[W4 x.v,I x.n,Bs x.h]
abbrev ManD.c (x:ManD):List Value:=[W4 x.s,W4 x.v,I x.n,I x.z,I x.p,Bs x.h]
abbrev StD.c (x:StD):List Value:=[I x.a,I x.t,W4 x.f,W4 x.g,W4 x.s0.v,I x.s0.n,Bs x.s0.h,W4 x.s1.v,I x.s1.n,Bs x.s1.h,.bool x.on,W4 x.m.s,W4 x.m.v,I x.m.n,I x.m.z,I x.m.p,Bs x.m.h]
abbrev SlotD.V (x:SlotD):Value := .agg x.c.toArray
abbrev ManD.V (x:ManD):Value := .agg x.c.toArray
abbrev StD.V (x:StD):Value := .agg x.c.toArray
def SlotD.something (x:SlotD):Bool:=decide (x.h.l.length=32∧1≤x.n∧x.n≤512)
def SlotD.nothing (x:SlotD):Bool:=decide (x.v.toNat=0∧x.n=0∧x.h.l.length=0)
def ManD.none (x:ManD):Bool:=decide (x.s.toNat=0∧x.v.toNat=0∧x.n=0∧x.z=0∧x.p=0∧x.h.l.length=0)
def count (l s:Int):Int:=if l<1∨512<l∨s<1∨16<s then 0 else if 64<(l+s - 1) / s then 0 else (l+s - 1) / s
theorem block_Count (H:List Hl) (l s:Int):Spec Tryz.prog 105 [I l,I s] H (fun _:Unit=>True) (fun _=>I (count l s)) (fun _=>H):=by
 refine spec_pure (res:=fun _=>[]) H Tryz.func105 rfl Tryz.ntmps105 (by kernel_rfl) rfl (fun W=>?_)
 repeat' (first|intro _|refine cw ?_|refine cw2 ?_ ?_|(refine k_binOp .quo ?_;refine o1_quo rfl rfl (by omega) ?_)|refine ow ?_|refine ow2 ?_ ?_|fail)
 all_goals
  refine rt_tmp () rfl rfl ?_ trivial ?_
 all_goals first
  | (exact ent;done)
  | skip
 all_goals
  unfold count
  split <;> first|rfl|omega|(split <;> first|rfl|omega)
def ManD.may (x:ManD):Bool:=mayP (count x.n x.z) x.p x.z && decide (x.h.l.length=32)
def StD.cur (x:StD):SlotD:=if x.a=0 then x.s0 else x.s1
def StD.oth (x:StD):SlotD:=if x.a=0 then x.s1 else x.s0
def StD.may (x:StD):Bool:=decide ((x.a=0∨x.a=1)∧0≤x.t∧x.t≤3) && x.cur.something && (x.oth.something || x.oth.nothing && decide (x.t≤0)) && (if x.on then x.m.may else x.m.none)
theorem st_something (H:List Hl) (x:SlotD):Spec Tryz.prog 148 [x.V] H (fun _:Unit=>True) (fun _ => .bool x.something) (fun _=>H):=by
 refine spec_pure (res:=fun _=>[]) H Tryz.func148 rfl Tryz.ntmps148 (by kernel_rfl) rfl (fun W=>?_)
 repeat' (first|intro _|refine cw ?_|refine cw2 ?_ ?_|refine ow ?_|refine ow2 ?_ ?_|fail)
 all_goals (refine rt_tmp () rfl rfl ?_ trivial (.cons (.there .here) .nil);simp only [SlotD.something];congr 1;simp;omega)
theorem st_nothing (H:List Hl) (x:SlotD):Spec Tryz.prog 113 [x.V] H (fun _:Unit=>True) (fun _ => .bool x.nothing) (fun _=>H):=by
 refine spec_pure (res:=fun _=>[]) H Tryz.func113 rfl Tryz.ntmps113 (by kernel_rfl) rfl (fun W=>?_)
 repeat' (first|intro _|refine cw ?_|refine cw2 ?_ ?_|refine ow ?_|refine ow2 ?_ ?_|fail)
 all_goals (refine rt_tmp () rfl rfl ?_ trivial (.cons (.there .here) .nil);simp only [SlotD.nothing];congr 1;simp only [eq_comm (a:=true),eq_comm (a:=false),decide_eq_true_eq,decide_eq_false_iff_not];omega)
theorem st_none (H:List Hl) (x:ManD):Spec Tryz.prog 149 [x.V] H (fun _:Unit=>True) (fun _ => .bool x.none) (fun _=>H):=by
 refine spec_pure (res:=fun _=>[]) H Tryz.func149 rfl Tryz.ntmps149 (by kernel_rfl) rfl (fun W=>?_)
 repeat' (first|intro _|refine cw ?_|refine cw2 ?_ ?_|refine ow ?_|refine ow2 ?_ ?_|fail)
 all_goals (refine rt_tmp () rfl rfl ?_ trivial (.cons (.there .here) .nil);simp only [ManD.none];congr 1;simp only [eq_comm (a:=true),eq_comm (a:=false),decide_eq_true_eq,decide_eq_false_iff_not];omega)
def rtE2_0:List Row:=[⟨some 5,[],[],none⟩,⟨some 6,[0],[0],none⟩,⟨some 7,[],[],none⟩,⟨some 8,[2],[2],none⟩,⟨some 9,[],[],none⟩,⟨some 10,[4],[4],none⟩,⟨some 11,[3,5],[2,3,4,5],none⟩,⟨some 12,[],[],none⟩,⟨some 13,[7],[7],none⟩,⟨some 14,[],[],none⟩,⟨some 15,[9],[9],none⟩,⟨some 16,[1,6,8,10],[0,1,2,3,4,5,6,7,8,9,10],none⟩,⟨some 4,[],[],none⟩,⟨none,[12,11,6,0,1,2,3,4,5,6,7,8,9,10,11,12],[0,1,2,3,4,5,6,7,8,9,10,11,12],none⟩]
def ManD.parL (x:ManD):List Value:=if mayP (count x.n x.z) x.p x.z then [W4 x.s,I (count x.n x.z),I x.p,I x.z] else [W4 0#32,I 0,I 0,I 0]
theorem code_Of (H:List Hl) (x:ManD):Spec Tryz.prog 58 [x.V] H (fun _:Unit=>True) (fun _ => .tuple #[.agg x.parL.toArray,.bool (mayP (count x.n x.z) x.p x.z)]) (fun _=>H):=by
 refine spec_pure (res:=fun _=>[]) H Tryz.func58 rfl Tryz.ntmps58 (by kernel_rfl) rfl (fun W=>?_)
 repeat' (first|intro _|refine cw ?_|refine cw2 ?_ ?_|refine ow ?_|refine ow2 ?_ ?_|fail)
 refine st_stages' [(1,_)] rtE2_0 [12,13] [⟨[0,1,2,3,4,5,6,7,8,9,10,11],[],some 12⟩,⟨[],[0,1,2,3,4,5,6,7,8,9,10,11],some 13⟩,⟨[],[],none⟩] mixed cv (by kernel_rfl) (by kernel_rfl) ?_
 repeat' (first|intro _|refine sg ?_|(refine p_fn 105 ?_;refine po (by first|refine o1_call (fun _=>block_Count _ _ _) rfl (fun _ _=>fz)|fail) ?_)|refine pw ?_|refine pdd ?_|refine ow ?_|fail)
 all_goals dsimp only [List.cons_append,List.nil_append]
 cases hm:mayP (count x.n x.z) x.p x.z
 ·have hp:x.parL=[W4 0#32,I 0,I 0,I 0]:=by rw [ManD.parL,hm];rfl
  rw [hp]
  repeat' (first|intro _|refine cw ?_|refine cw2 ?_ ?_|(refine k_fn 106 ?_;refine o1_call (fun _=>(spread_May _ _ _ _ _).bv hm) rfl (fun _ _=>?_))|refine ow ?_|refine ow2 ?_ ?_|fail)
  refine rt_cell_tmp () rfl rfl rfl rfl rfl trivial ?_
  exact ent
 ·have hp:x.parL=[W4 x.s,I (count x.n x.z),I x.p,I x.z]:=by rw [ManD.parL,hm];rfl
  rw [hp]
  repeat' (first|intro _|refine cw ?_|refine cw2 ?_ ?_|(refine k_fn 106 ?_;refine o1_call (fun _=>(spread_May _ _ _ _ _).bv hm) rfl (fun _ _=>?_))|refine ow ?_|refine ow2 ?_ ?_|fail)
  refine rt_cell_tmp () rfl rfl rfl rfl rfl trivial ?_
  exact ent
theorem mf_May (H:List Hl) (x:ManD):Spec Tryz.prog 57 [x.V] H (fun _:Unit=>True) (fun _ => .bool x.may) (fun _=>H):=by
 refine spec_pure (res:=fun _=>[]) H Tryz.func57 rfl Tryz.ntmps57 (by kernel_rfl) rfl (fun W=>?_)
 have hpl:∃ p0 p1 p2 p3,x.parL=[p0,p1,p2,p3]∧(∀ v∈[p0,p1,p2,p3],v.oneCell'=true):=by
  unfold ManD.parL
  split
  ·exact ⟨_,_,_,_,rfl,by simp [Value.oneCell']⟩
  ·exact ⟨_,_,_,_,rfl,by simp [Value.oneCell']⟩
 obtain ⟨p0,p1,p2,p3,hp,hp1⟩:=hpl
 cases hm:mayP (count x.n x.z) x.p x.z
 all_goals
  repeat' (first|intro _|refine cw ?_|refine cw2 ?_ ?_|(refine k_fn 58 ?_;(refine o1_call (fun _=>code_Of _ x) rfl (fun _ _=>?_);rw [hp,hm]))|(refine k_store ?_;refine ox_store_agg rfl rfl rfl (by simp) hp1 (by simp only [putL,List.set_cons_zero,List.set_cons_succ,Nat.zero_add,Nat.reduceAdd];rfl) ?_)|refine ow ?_|refine ow2 ?_ ?_|fail)
 all_goals (refine rt_tmp () rfl rfl ?_ trivial ?_;· simp only [ManD.may,hm];refine congrArg Value.bool ?_;first|(simp;done)|(simp;omega))
 all_goals exact ent
set_option maxHeartbeats 4000000 in
theorem st_May (H:List Hl) (x:StD):Spec Tryz.prog 97 [x.V] H (fun _:Unit=>True) (fun _ => .bool x.may) (fun _=>H):=by
 obtain ⟨a,t,f,g,s0,s1,on,m⟩:=x
 refine spec_pure (res:=fun _=>[]) H Tryz.func97 rfl Tryz.ntmps97 (by kernel_rfl) rfl (fun W=>?_)
 dsimp only [StD.V,StD.c]
 by_cases h01:a=0∨a=1
 ·rcases h01 with rfl|rfl
  all_goals
   repeat' (first|intro _|refine cw ?_|refine cw2 ?_ ?_|(refine k_indexAddr ?_;first|refine ox_idx_arr 0 4 rfl rfl rfl (by decide) rfl ?_|refine ox_idx_arr 1 7 rfl rfl rfl (by decide) rfl ?_)|(refine k_fn 148 ?_;first|(refine o1_call (fun _=>st_something _ s0) rfl (fun _ _=>?_);cases h1:s0.something)|(refine o1_call (fun _=>st_something _ s1) rfl (fun _ _=>?_);cases h2:s1.something))|(refine k_fn 113 ?_;first|(refine o1_call (fun _=>st_nothing _ s0) rfl (fun _ _=>?_);cases h3:s0.nothing)|(refine o1_call (fun _=>st_nothing _ s1) rfl (fun _ _=>?_);cases h4:s1.nothing))|(refine k_fn 57 ?_;refine o1_call (fun _=>mf_May _ m) rfl (fun _ _=>?_))|(refine k_fn 149 ?_;refine o1_call (fun _=>st_none _ m) rfl (fun _ _=>?_))|refine ow ?_|refine ow2 ?_ ?_|fail)
  all_goals (refine rt_tmp () rfl rfl ?_ trivial ?_;· simp_all [StD.may,StD.cur,StD.oth];try omega)
  all_goals exact ent
 ·repeat' (first|intro _|refine cw ?_|refine cw2 ?_ ?_|refine ow ?_|refine ow2 ?_ ?_|fail)
  all_goals (refine rt_tmp () rfl rfl ?_ trivial ?_;· simp only [StD.may];refine congrArg Value.bool ?_;simp;omega)
  all_goals exact ent
theorem slices_Equal (H:List Hl) (ad ad':Option Addr) (c c':Nat) (l m:List (BitVec 8)) (h1:Rs (stars H) B ad c l) (h2:Rs (stars H) B ad' c' m) :
  Spec Tryz.prog 66 [.slice ad l.length c,.slice ad' m.length c'] H (fun _:Unit=>True) (fun _ => .bool (decide (l=m))) (fun _=>H):=by
 have b1:=h1.le
 have b2:=h1.big
 refine spec_pure (res:=fun _=>[]) H Tryz.func66 rfl Tryz.ntmps66 (by kernel_rfl) rfl (fun W=>?_)
 repeat' (first|intro _|refine cw ?_|refine cw2 ?_ ?_|refine ow ?_|refine ow2 ?_ ?_|fail)
 ·rename_i hlen
  refine rt_tmp () rfl rfl ?_ trivial (Ent.refl _)
  simp;intro e;subst e;omega
 rename_i hlen
 have hlen:l.length=m.length:=by omega
 refine st_loop (S:=Nat) (fun i=>[(0,.slice ad l.length c),(1,.slice ad' m.length c'),(12,.int .i64 l.length),(13,.int .i64 i)]) (fun _=>[.any (stars H)]) (fun i=>i≤l.length∧l.take i=m.take i) (fun i=>l.length - i) 0 ⟨by omega,by simp⟩
  cv (Ent.refl _) ?_
 rintro i ⟨hi,hpre⟩
 repeat' (first|intro _|refine cw ?_|refine cw2 ?_ ?_|refine ow ?_|refine ow2 ?_ ?_|fail)
 ·rename_i hlt
  have hlt:i<l.length:=by omega
  apply st_draw [(0,_),(5,_),(1,_)] [.c _,.c _,.p (fun v=>∃ a,v = .pointer (some a)∧Cl (stars H) a (B l[i])) (fun _=>[]),.c _,.c _,.c _,.p (fun v=>∃ a,v = .pointer (some a)∧Cl (stars H) a (B m[i])) (fun _=>[]),.c _,.c _] [⟨some 16,[],[],none⟩,⟨some 17,[],[],none⟩,⟨some 18,[0,1],[0,1],none⟩,⟨some 19,[2],[0,1,2],none⟩,⟨some 20,[],[],none⟩,⟨some 21,[],[],none⟩,⟨some 22,[4,5],[4,5],none⟩,⟨some 23,[6],[4,5,6],none⟩,⟨some 24,[3,7],[0,1,2,3,4,5,6,7],none⟩] mixed (cov_cons rfl rfl (cov_cons rfl rfl (cov_cons rfl rfl cov_nil))) (by kernel_rfl) (by kernel_rfl) (by kernel_rfl) (obl_cons ?d6_o0 (obl_cons ?d6_o1 (obl_cons ?d6_o2 (obl_cons ?d6_o3 (obl_cons ?d6_o4 (obl_cons ?d6_o5 (obl_cons ?d6_o6 (obl_cons ?d6_o7 (obl_cons ?d6_o8 obl_nil))))))))) ?d6_nx
  case d6_o0=>refine obl_run rfl (gd_none rfl) (fun _=>?_);refine allv_nil ?_;dsimp only [List.cons_append,List.nil_append,List.singleton_append,List.append_nil,blk];(first|refine o1_move rfl ?_);all_goals (exact ⟨rfl,fun _ h=>h⟩)
  case d6_o1=>refine obl_run rfl (gd_none rfl) (fun _=>?_);refine allv_nil ?_;dsimp only [List.cons_append,List.nil_append,List.singleton_append,List.append_nil,blk];(first|refine o1_move rfl ?_);all_goals (exact ⟨rfl,fun _ h=>h⟩)
  case d6_o2=>refine obl_run rfl (gd_none rfl) (fun _=>?_);refine allv_c rfl rfl ?_;refine allv_c rfl rfl ?_;refine allv_nil ?_;dsimp only [List.cons_append,List.nil_append,List.singleton_append,List.append_nil,blk];(refine o1_indexAddr_rd rfl rfl h1 i rfl hlt (fun a ha=>⟨⟨a,rfl,ha⟩,fun _ h=>h⟩));all_goals (first|exact ⟨⟨rfl⟩,fun _ h=>h⟩|exact ⟨⟨_,rfl⟩,fun _ h=>h⟩|exact ⟨⟨_,_,rfl⟩,fun _ h=>h⟩|exact ⟨⟨_,_,_,rfl⟩,fun _ h=>h⟩)
  case d6_o3=>refine obl_run rfl (gd_none rfl) (fun _=>?_);refine allv_c rfl rfl ?_;refine allv_c rfl rfl ?_;refine allv_p rfl rfl ?_;rintro _ ⟨_,rfl,_⟩;refine allv_nil ?_;dsimp only [List.cons_append,List.nil_append,List.singleton_append,List.append_nil,blk];(first|refine ox_load rfl (by rfl) ?_|refine ox_load_enc rfl (by first|omega|(simp;omega)) ?_|refine ox_load_any rfl (by assumption) ?_);all_goals (exact ⟨rfl,fun _ h=>h⟩)
  case d6_o4=>refine obl_run rfl (gd_none rfl) (fun _=>?_);refine allv_nil ?_;dsimp only [List.cons_append,List.nil_append,List.singleton_append,List.append_nil,blk];(first|refine o1_move rfl ?_);all_goals (exact ⟨rfl,fun _ h=>h⟩)
  case d6_o5=>refine obl_run rfl (gd_none rfl) (fun _=>?_);refine allv_nil ?_;dsimp only [List.cons_append,List.nil_append,List.singleton_append,List.append_nil,blk];(first|refine o1_move rfl ?_);all_goals (exact ⟨rfl,fun _ h=>h⟩)
  case d6_o6=>refine obl_run rfl (gd_none rfl) (fun _=>?_);refine allv_c rfl rfl ?_;refine allv_c rfl rfl ?_;refine allv_nil ?_;dsimp only [List.cons_append,List.nil_append,List.singleton_append,List.append_nil,blk];(refine o1_indexAddr_rd rfl rfl h2 i rfl (by omega) (fun a ha=>⟨⟨a,rfl,ha⟩,fun _ h=>h⟩));all_goals (first|exact ⟨⟨rfl⟩,fun _ h=>h⟩|exact ⟨⟨_,rfl⟩,fun _ h=>h⟩|exact ⟨⟨_,_,rfl⟩,fun _ h=>h⟩|exact ⟨⟨_,_,_,rfl⟩,fun _ h=>h⟩)
  case d6_o7=>refine obl_run rfl (gd_none rfl) (fun _=>?_);refine allv_c rfl rfl ?_;refine allv_c rfl rfl ?_;refine allv_p rfl rfl ?_;rintro _ ⟨_,rfl,_⟩;refine allv_nil ?_;dsimp only [List.cons_append,List.nil_append,List.singleton_append,List.append_nil,blk];(first|refine ox_load rfl (by rfl) ?_|refine ox_load_enc rfl (by first|omega|(simp;omega)) ?_|refine ox_load_any rfl (by assumption) ?_);all_goals (exact ⟨rfl,fun _ h=>h⟩)
  case d6_o8=>refine obl_run rfl (gd_none rfl) (fun _=>?_);refine allv_c rfl rfl ?_;refine allv_c rfl rfl ?_;refine allv_p rfl rfl ?_;rintro _ ⟨_,rfl,_⟩;refine allv_c rfl rfl ?_;refine allv_c rfl rfl ?_;refine allv_c rfl rfl ?_;refine allv_p rfl rfl ?_;rintro _ ⟨_,rfl,_⟩;refine allv_c rfl rfl ?_;refine allv_nil ?_;dsimp only [List.cons_append,List.nil_append,List.singleton_append,List.append_nil,blk];(first|refine o1_neq_t rfl rfl (by omega) ?_|refine o1_neq_f rfl rfl (by omega) ?_|refine o1_neq_d rfl rfl ?_);all_goals (exact ⟨rfl,fun _ h=>h⟩)
  case d6_nx =>
   refine allv_c rfl rfl ?_;refine allv_c rfl rfl ?_;refine allv_p rfl rfl ?_;rintro _ ⟨_,rfl,_⟩;refine allv_c rfl rfl ?_;refine allv_c rfl rfl ?_;refine allv_c rfl rfl ?_;refine allv_p rfl rfl ?_;rintro _ ⟨_,rfl,_⟩;refine allv_c rfl rfl ?_;refine allv_c rfl rfl ?_;refine allv_nil ?_;dsimp only [List.cons_append,List.nil_append,List.singleton_append,List.append_nil,blk]
   repeat' (first|intro _|refine cw ?_|refine cw2 ?_ ?_|refine ow ?_|refine ow2 ?_ ?_|fail)
   ·rename_i hne
    refine rt_tmp () rfl rfl ?_ trivial (Ent.refl _)
    simp at hne ⊢
    rintro rfl
    exact hne rfl
   ·rename_i heq
    simp at heq
    refine nx_again (i+1) ⟨by omega,?_⟩ (by omega) cv (Ent.refl _)
    rw [List.take_succ_eq_append_getElem hlt,List.take_succ_eq_append_getElem (by omega:i<m.length),hpre,BitVec.eq_of_toNat_eq (by omega:l[i].toNat=m[i].toNat)]
 ·refine rt_tmp () rfl rfl ?_ trivial (Ent.refl _)
  have:i=l.length:=by omega
  subst this
  rw [List.take_length,List.take_of_length_le (by omega)] at hpre
  simp [hpre]
theorem slices_Clone (H:List Hl) (ad:Option Addr) (c:Nat) (l:List (BitVec 8)) (h:Rs (stars H) B ad c l) (hb:l.length≤140737488355328) :
  Spec Tryz.prog 29 [.slice ad l.length c] H (fun _:Option Addr × Nat=>True) (fun r:Option Addr × Nat => .slice r.1 l.length r.2)
   (fun r:Option Addr × Nat => .row 5 1 (.slice r.1 l.length r.2) l.length (l.map B)::H):=by
 refine spec_pure (res:=fun r:Option Addr × Nat=>[.row 5 1 (.slice r.1 l.length r.2) l.length (l.map B)]) H Tryz.func29 rfl Tryz.ntmps29 (by kernel_rfl) rfl (fun W=>?_)
 cases ad with
 | none =>
  have hl:l=[]:=by
   cases l with
   | nil=>rfl
   | cons a l=>obtain ⟨x,hx⟩:=h.sm (by simp);cases hx
  subst hl
  repeat' (first|intro _|refine cw ?_|refine cw2 ?_ ?_|refine ow ?_|refine ow2 ?_ ?_|fail)
  refine (rt_ent (ent_nil 5 B) ?_)
  refine rt_tmp (none,0) rfl rfl rfl trivial ?_
  exact ent
 | some a =>
  repeat' (first|intro _|refine cw ?_|refine cw2 ?_ ?_|(refine k_call ?_;refine ox_append_box (xs:=([]:List (BitVec 8))) rfl rfl rfl rfl (rx_any h) rfl rfl (fun _=>rfl) (by omega) (by have:=h.le;have:=h.big;omega) (fun _ _=>?_))|refine ow ?_|refine ow2 ?_ ?_|fail)
  refine rt_tmp (_,_) rfl rfl (by simp only [Nat.zero_add];rfl) trivial ?_
  simp only [Nat.zero_add,List.nil_append]
  exact ent
def StD.newer (x:StD) (v:BitVec 32):Bool:=x.may && (decide (x.f.toNat<v.toNat) && (decide (x.cur.v.toNat<v.toNat) && (!x.on || decide (x.m.v.toNat<v.toNat))))
theorem StD.may_a {x:StD} (h:x.may=true):x.a=0∨x.a=1:=by
 simp only [StD.may,Bool.and_eq_true,decide_eq_true_eq] at h
 exact h.1.1.1.1
def StD.light (x:StD):Prop:=x.s0.h.l.length≤100∧x.s1.h.l.length≤100∧x.m.h.l.length≤100
def ManD.same (x y:ManD):Bool:=decide ((x.s.toNat:Int)=(y.s.toNat:Int)) && (decide ((x.v.toNat:Int)=(y.v.toNat:Int)) && (decide (x.n=y.n) && (decide (x.z=y.z) && (decide (x.p=y.p) && decide (x.h.l=y.h.l)))))
theorem mf_Same (H:List Hl) (x y:ManD) (hx:Rs (stars H) B x.h.ad x.h.cap x.h.l) (hy:Rs (stars H) B y.h.ad y.h.cap y.h.l):Spec Tryz.prog 117 [x.V,y.V] H (fun _:Unit=>True) (fun _ => .bool (x.same y)) (fun _=>H):=by
 refine spec_pure (res:=fun _=>[]) H Tryz.func117 rfl Tryz.ntmps117 (by kernel_rfl) rfl (fun W=>?_)
 repeat' (first|intro _|refine cw ?_|refine cw2 ?_ ?_|(refine k_fn 66 ?_;refine o1_call (fun _=>slices_Equal _ _ _ _ _ x.h.l y.h.l hx.up hy.up) rfl (fun _ _=>?_))|refine ow ?_|refine ow2 ?_ ?_|fail)
 all_goals (refine rt_tmp () rfl rfl ?_ trivial ?_;· simp only [ManD.same, *];first|rfl|simp|(simp;done))
 all_goals exact ent
def zS:StD:=⟨0,0,0#32,0#32,⟨0#32,0,⟨none,0,[]⟩⟩,⟨0#32,0,⟨none,0,[]⟩⟩,false,⟨0#32,0#32,0,0,0,⟨none,0,[]⟩⟩⟩
theorem rs00 {H:List Hl}:RsH H B none 0 ([]:List (BitVec 8)):=rs_nil (by decide)
abbrev PA:=Option Addr × Nat
theorem StD.heavy {x:StD} (h : ¬ x.light):x.may=false:=by
 cases hm:x.may
 ·rfl
 ·exfalso
  apply h
  simp only [StD.may,Bool.and_eq_true,Bool.or_eq_true,decide_eq_true_eq] at hm
  obtain ⟨⟨⟨⟨ha,_⟩,h1⟩,h2⟩,h3⟩:=hm
  have h3':x.m.h.l.length≤32:=by
   split at h3
   ·simp only [ManD.may,Bool.and_eq_true,decide_eq_true_eq] at h3;omega
   ·simp only [ManD.none,decide_eq_true_eq] at h3;omega
  have k1:∀ y:SlotD,y.something=true→y.h.l.length≤100:=fun y hy=>by simp only [SlotD.something,decide_eq_true_eq] at hy;omega
  have k2:∀ y:SlotD,y.nothing=true→y.h.l.length≤100:=fun y hy=>by simp only [SlotD.nothing,decide_eq_true_eq] at hy;omega
  have h4:=k1 _ h1
  have h5:x.oth.h.l.length≤100:=by
   rcases h2 with h2|h2
   ·exact k1 _ h2
   ·exact k2 _ h2.1
  rcases ha with ha|ha
  ·rw [show x.cur=x.s0 from if_pos ha] at h4
   rw [show x.oth=x.s1 from if_pos ha] at h5
   exact ⟨h4,h5,by omega⟩
  ·rw [show x.cur=x.s1 from if_neg (by omega)] at h4
   rw [show x.oth=x.s0 from if_neg (by omega)] at h5
   exact ⟨h5,h4,by omega⟩
def zM:ManD:=⟨0#32,0#32,0,0,0,⟨none,0,[]⟩⟩
def StD.off (x:StD):StD:=⟨x.a,x.t,x.f,x.g,x.s0,x.s1,false,zM⟩
structure Hid where
 left:Int
 steps:Int
 fused:Bool
abbrev nI (k:Nat):Value:=I (k:Int)
def Pw.isDown:Pw→Bool
 | .down _=>true
 | _=>false
def flC (ad:Option Addr) (c:Nat) (f:Fl) (h:Hid):List Value:=Value.slice ad 3584 c::(f.er.map nI++[I f.wear,.bool f.pw.isDown,.bool h.fused,I h.left,I f.torn,I h.steps])
structure FlOk (f:Fl) (h:Hid):Prop where
 er:f.er.length=14
 bs:f.bs.length=3584
 wr:f.wear≤10000
 ers:∀ x∈f.er,x≤1000000
 pw:match f.pw with
  | .on=>h.fused=false
  | .fuse n=>h.fused=true∧h.left=n∧n≤1000000
  | .down none=>h.fused=true→h.left<0
  | .down (some n)=>h.fused=true∧h.left=n∧n≤1000000
theorem flC_len {ad:Option Addr} {c:Nat} {f:Fl} {h:Hid} (hE:f.er.length=14):(flC ad c f h).length=21:=by simp [flC,hE]
theorem flC_slice {ad:Option Addr} {c:Nat} {f:Fl} {h:Hid}:(flC ad c f h)[0]?=some (.slice ad 3584 c):=rfl
theorem flC_wear {ad:Option Addr} {c:Nat} {f:Fl} {h:Hid} (hE:f.er.length=14):(flC ad c f h)[15]?=some (I f.wear):=by
 obtain ⟨bs,er,wear,pw,torn⟩:=f
 match er,hE with
 | [a0,a1,a2,a3,a4,a5,a6,a7,a8,a9,a10,a11,a12,a13],_=>rfl
theorem flC_down {ad:Option Addr} {c:Nat} {f:Fl} {h:Hid} (hE:f.er.length=14):(flC ad c f h)[16]?=some (.bool f.pw.isDown):=by
 obtain ⟨bs,er,wear,pw,torn⟩:=f
 match er,hE with
 | [a0,a1,a2,a3,a4,a5,a6,a7,a8,a9,a10,a11,a12,a13],_=>rfl
theorem flC_fused {ad:Option Addr} {c:Nat} {f:Fl} {h:Hid} (hE:f.er.length=14):(flC ad c f h)[17]?=some (.bool h.fused):=by
 obtain ⟨bs,er,wear,pw,torn⟩:=f
 match er,hE with
 | [a0,a1,a2,a3,a4,a5,a6,a7,a8,a9,a10,a11,a12,a13],_=>rfl
theorem flC_left {ad:Option Addr} {c:Nat} {f:Fl} {h:Hid} (hE:f.er.length=14):(flC ad c f h)[18]?=some (I h.left):=by
 obtain ⟨bs,er,wear,pw,torn⟩:=f
 match er,hE with
 | [a0,a1,a2,a3,a4,a5,a6,a7,a8,a9,a10,a11,a12,a13],_=>rfl
theorem flC_torn {ad:Option Addr} {c:Nat} {f:Fl} {h:Hid} (hE:f.er.length=14):(flC ad c f h)[19]?=some (I f.torn):=by
 obtain ⟨bs,er,wear,pw,torn⟩:=f
 match er,hE with
 | [a0,a1,a2,a3,a4,a5,a6,a7,a8,a9,a10,a11,a12,a13],_=>rfl
theorem flC_steps {ad:Option Addr} {c:Nat} {f:Fl} {h:Hid} (hE:f.er.length=14):(flC ad c f h)[20]?=some (I h.steps):=by
 obtain ⟨bs,er,wear,pw,torn⟩:=f
 match er,hE with
 | [a0,a1,a2,a3,a4,a5,a6,a7,a8,a9,a10,a11,a12,a13],_=>rfl
theorem flC_setdown {ad:Option Addr} {c:Nat} {f:Fl} {h:Hid} (hE:f.er.length=14):(flC ad c f h).set 16 (.bool true)=flC ad c { f with pw := .down none } h:=by
 obtain ⟨bs,er,wear,pw,torn⟩:=f
 match er,hE with
 | [a0,a1,a2,a3,a4,a5,a6,a7,a8,a9,a10,a11,a12,a13],_=>rfl
theorem flC_setleft {ad:Option Addr} {c:Nat} {f:Fl} {h:Hid} (v:Int) (hE:f.er.length=14):(flC ad c f h).set 18 (I v)=flC ad c f { h with left:=v }:=by
 obtain ⟨bs,er,wear,pw,torn⟩:=f
 match er,hE with
 | [a0,a1,a2,a3,a4,a5,a6,a7,a8,a9,a10,a11,a12,a13],_=>rfl
theorem flC_setsteps {ad:Option Addr} {c:Nat} {f:Fl} {h:Hid} (v:Int) (hE:f.er.length=14):(flC ad c f h).set 20 (I v)=flC ad c f { h with steps:=v }:=by
 obtain ⟨bs,er,wear,pw,torn⟩:=f
 match er,hE with
 | [a0,a1,a2,a3,a4,a5,a6,a7,a8,a9,a10,a11,a12,a13],_=>rfl
theorem flC_er {ad:Option Addr} {c:Nat} {f:Fl} {h:Hid} {s:Nat} (hs:s<f.er.length):(flC ad c f h)[1+s]?=some (nI f.er[s]):=by
 rw [flC,Nat.add_comm,List.getElem?_cons_succ,List.getElem?_append_left (by simpa using hs)]
 simp [hs]
theorem flC_setEr {ad:Option Addr} {c:Nat} {f:Fl} {h:Hid} {s v:Nat} (hs:s<f.er.length):(flC ad c f h).set (1+s) (nI v)=flC ad c { f with er:=f.er.set s v } h:=by
 rw [flC,Nat.add_comm,List.set_cons_succ,List.set_append_left _ _ (by simpa using hs),←List.map_set]
 rfl
abbrev fB (b:Nat) (ad:Option Addr) (c:Nat) (f:Fl) (h:Hid):Hl := .box b 110 (flC ad c f h)
def slk (ad:Option Addr) (c:Nat) (bs:List (BitVec 8)):Hp→Prop:=Som (fun q:Nat × List Value=>ad=some ⟨q.1,0,none⟩∧bs.length≤c∧c≤9223372036854775807) (fun q=>[.box q.1 5 (bs.map B++q.2)])
class SFl (H:List Hl) (ad:Option Addr) (c:Nat) (bs:outParam (List (BitVec 8))) (H':outParam (List Hl)):Prop where s:Sel H (.any (slk ad c bs)) H'
instance sfl_here {ad:Option Addr} {c:Nat} {bs:List (BitVec 8)} {H:List Hl}:SFl (.any (slk ad c bs)::H) ad c bs H:=⟨.here⟩
instance (priority:=low) sfl_there {ad:Option Addr} {c:Nat} {bs:List (BitVec 8)} {y:Hl} {H H':List Hl} [h:SFl H ad c bs H']:SFl (y::H) ad c bs (y::H'):=⟨.there h.s⟩
theorem slk_open {ad:Option Addr} {c:Nat} {bs:List (BitVec 8)} {H H':List Hl} (s:Sel H (.any (slk ad c bs)) H') {w:World} (hw:sat w (stars H)):∃ g zs,ad=some ⟨g,0,none⟩∧bs.length≤c∧c≤9223372036854775807∧sat w (stars (.box g 5 (bs.map B++zs)::H')):=by
 obtain ⟨⟨g,zs⟩,⟨e1,e2,e3⟩,hx⟩:=sat_som (hw.mono s.out)
 exact ⟨g,zs,e1,e2,e3,hx⟩
theorem slk_of {ad:Option Addr} {c:Nat} {bs:List (BitVec 8)} {R:List Hl} (g:Nat) (zs:List Value) (e1:ad=some ⟨g,0,none⟩) (e2:bs.length≤c) (e3:c≤9223372036854775807):∀ h,stars (.box g 5 (bs.map B++zs)::R) h→stars (.any (slk ad c bs)::R) h:=fun h hh=>som_of (ι:=Nat × List Value) (L:=fun q=>[.box q.1 5 (bs.map B++q.2)]) (g,zs) ⟨e1,e2,e3⟩ h hh
theorem slk_rs {ad:Option Addr} {c:Nat} {bs:List (BitVec 8)} {H H':List Hl} (s:Sel H (.any (slk ad c bs)) H'):RsH H B ad c bs:=fun ⟨w,hw⟩=>by
 obtain ⟨g,zs,e1,e2,e3, -⟩:=slk_open s hw
 refine ⟨e2,e3,fun _=>⟨_,e1⟩,fun w2 hw2 a ha i x hx=>?_⟩
 obtain ⟨g2,zs2,f1, -, -,hs⟩:=slk_open s hw2
 rw [ha] at f1
 obtain rfl:=Option.some.inj f1
 have hv:(bs.map B++zs2)[i]?=some (B x):=by
  obtain ⟨hl,_⟩:=List.getElem?_eq_some_iff.mp hx
  rw [List.getElem?_append_left (by simpa using hl),List.getElem?_map,hx]
  rfl
 have:=(cl_box (b:=g2) (H := .box g2 5 (bs.map B++zs2)::H') hv).cell w2 hs
 rw [show Addr.add ⟨g2,0,none⟩ i=⟨g2,i,none⟩ by by_cases h0:i=0 <;> simp [Addr.add,h0]]
 exact this
theorem rx_fl {ad:Option Addr} {c:Nat} {bs:List (BitVec 8)} {H H':List Hl} [s:SFl H ad c bs H']:RsH H B ad c bs:=slk_rs s.s
section
variable {P:Program} {n:Nat} {e:Ev} {H:List Hl} {C:Value→List Hl→Prop} {ty:TypeId} {x y:Operand}
theorem ox_store_flenc (k:Nat) {T2:TypeId} {z:Value} {by_:Nat} [TInf P T2 z 1 by_] {ad:Option Addr} {c:Nat} {l:List (BitVec 8)} {v:BitVec 8} {H':List Hl} (hx:opd e x=some (.pointer (some (idxA ad k)))) (hy:opd e y=some (B v))
  [s:SFl H ad c l H'] (hk:k<l.length) (h:C undef (.any (slk ad c (l.set k v))::H')):O1 P (.store T2 x y) ty n e H C:=⟨fun a w ho=>by
 obtain ⟨g,zs,e1,e2,e3,hs⟩:=slk_open s.s ho.sat
 have hx':opd e x=some (.pointer (some ⟨g,k,none⟩)):=by
  rw [hx,e1]
  by_cases h0:k=0 <;> simp [idxA,Addr.add,h0]
 have hq:(l.map B++zs).set k (B v)=(l.set k v).map B++zs:=by
  rw [List.set_append_left _ _ (by simpa using hk),List.map_set]
 refine ((ox_stores (C:=fun v2 K=>v2=undef∧K = .box g 5 ((l.set k v).map B++zs)::H') (b:=g) (i:=k) (H := .box g 5 (l.map B++zs)::H') hx' hy (by simp;omega) rfl hq ⟨rfl,rfl⟩).post (C:=C) fun v2 K hK=>⟨.any (slk ad c (l.set k v))::H',?_,?_⟩).out a w ⟨ho.ev,hs⟩
 ·exact hK.1 ▸ h
 ·rw [hK.2]
  exact slk_of g zs e1 (by rw [List.length_set];exact e2) e3⟩
theorem o1_call_fl (b:Nat) (ad:Option Addr) (c:Nat) {f:FuncId} {xs:List Operand} {args:List Value} {ats:Array TypeId} {X:Type} {good:X→Prop} {val:X→Value} {res:X→List Hl} {T:TypeId} {cs:List Value} {bs:List (BitVec 8)} {H' H2:List Hl} [s:SBox H b T cs H'] [s2:SFl H' ad c bs H2]
  (hs:Has (.box b T cs :: .any (slk ad c bs)::H2)→Spec P f args (.box b T cs :: .any (slk ad c bs)::H2) good val res) (hxs:opds e xs=some args) (h:∀ r,good r→C (val r) (res r)):O1 P (.call ⟨.value (.func f),xs.toArray,ats⟩) ty n e H C :=
 O1.ent (H2 := .box b T cs :: .any (slk ad c bs)::H2) (fun h hh=>sep_mono (s.s.out h hh) (fun _ a=>a) (s2.s.out)) (o1_call hs hxs h)
end
attribute [irreducible] slk
abbrev fR (ad:Option Addr) (c:Nat) (f:Fl):Hl := .any (slk ad c f.bs)
structure RdFl (A:Hp→Prop) (b:Nat) (ad:Option Addr) (c:Nat) (f:Fl):Prop where
 s:Cl A ⟨b,0,none⟩ (.slice ad 3584 c)
 d:Cl A ⟨b,16,none⟩ (.bool f.pw.isDown)
 r:Rs A B ad c f.bs
 l:f.bs.length=3584
theorem RdFl.up {A:Hp→Prop} {b:Nat} {ad:Option Addr} {c:Nat} {f:Fl} {H H':List Hl} (h:RdFl A b ad c f) [s:SAny H A H']:RdFl (stars H) b ad c f:=⟨cl_up h.s,cl_up h.d,h.r.up,h.l⟩
theorem RdFl.own {b:Nat} {ad:Option Addr} {c:Nat} {f:Fl} {hd:Hid} {H H1 H2:List Hl} [s:SBox H b 110 (flC ad c f hd) H1] [s2:SFl H ad c f.bs H2] (hk:FlOk f hd) (hh:Has H):RdFl (stars H) b ad c f :=
 ⟨cl_box rfl,cl_box (flC_down hk.er),rx_fl hh,hk.bs⟩
theorem fl_ready (H:List Hl) (b:Nat) (f:Fl) (p n:Nat) (h:Cl (stars H) ⟨b,16,none⟩ (.bool f.pw.isDown)) (hp:p+n≤3584) :
  Spec Tryz.prog 89 [.pointer (some ⟨b,0,none⟩),I p,I n] H (fun _:Unit=>True) (fun _=>I (if f.pw.isDown=true then 11 else 0)) (fun _=>H):=by
 refine spec_pure (res:=fun _=>[]) H Tryz.func89 rfl Tryz.ntmps89 (by kernel_rfl) rfl (fun W=>?_)
 obtain ⟨d,hd⟩:∃ d,f.pw.isDown=d:=⟨_,rfl⟩
 rw [hd] at h ⊢
 cases d
 ·repeat' (first|intro _|refine cw ?_|refine cw2 ?_ ?_|refine o1_peql rfl rfl ?_|(refine k_load ?_;refine ox_load_any rfl h ?_)|refine ow ?_|refine ow2 ?_ ?_|fail)
  refine rt_tmp () rfl rfl rfl trivial ?_
  exact ent
 ·repeat' (first|intro _|refine cw ?_|refine cw2 ?_ ?_|refine o1_peql rfl rfl ?_|(refine k_load ?_;refine ox_load_any rfl h ?_)|refine ow ?_|refine ow2 ?_ ?_|fail)
  refine rt_tmp () rfl rfl rfl trivial ?_
  exact ent
theorem seg_cut (l:List (BitVec 8)) (p n:Nat):(l.take (p+n)).drop p=seg l p n:=by
 unfold seg
 rw [List.drop_take]
 congr 1
 omega
set_option maxHeartbeats 1000000 in
theorem fl_Read (H:List Hl) (b:Nat) (ad:Option Addr) (c:Nat) (f:Fl) (p n:Nat) (h:RdFl (stars H) b ad c f) (hp:p+n≤3584) (hd:f.pw.isDown=false) :
  Spec Tryz.prog 98 [.pointer (some ⟨b,0,none⟩),I p,I n] H (fun _:Option Addr × Nat=>True) (fun r => .tuple #[.slice r.1 n r.2,I 0]) (fun r => .row 5 1 (.slice r.1 n r.2) n ((seg f.bs p n).map B)::H):=by
 refine spec_pure (res:=fun r:Option Addr × Nat=>[.row 5 1 (.slice r.1 n r.2) n ((seg f.bs p n).map B)]) H Tryz.func98 rfl Tryz.ntmps98 (by kernel_rfl) rfl (fun W=>?_)
 have hs:=h.s
 have hle:=h.r.le
 have hl:=h.l
 have hcut:=seg_cut f.bs p n
 have hsl:(seg f.bs p n).length=n:=seg_len (by omega)
 have hpn:(p:Int)+n=((p+n:Nat):Int):=by push_cast;rfl
 have hf:=h.r.cutv p (p+n) (by omega) (by omega)
 rw [hcut] at hf
 repeat' (first|intro _|refine cw ?_|refine cw2 ?_ ?_|(refine k_fn 89 ?_;(refine o1_call (fun _=>fl_ready _ b f p n (cl_up h.d) hp) rfl (fun _ _=>?_);rw [hd,if_neg (by decide)]))|(refine k_binOp .add ?_;(refine o1_add rfl rfl (by omega) ?_;rw [hpn]))|(refine k_load ?_;refine ox_load_any rfl hs ?_)|(refine k_slice ?_;(refine o1_cs_lh (xs:=f.bs) p (p+n) rfl rfl rfl rfl rfl hl.symm (by omega) (by omega) (by omega) ?_;rw [hcut]))|(refine k_fn 29 ?_;(refine o1_call (fun _=>slices_Clone _ _ _ (seg f.bs p n) (Rs.up hf) (by omega)) rfl (fun ⟨a25,c25⟩ _=>?_);(try dsimp only);rw [hsl]))|refine ow ?_|refine ow2 ?_ ?_|fail)
 refine rt_tmp2 (a25,c25) rfl rfl rfl rfl trivial ?_
 exact ent
theorem fl_Read_down (H:List Hl) (b:Nat) (f:Fl) (p n:Nat) (h:Cl (stars H) ⟨b,16,none⟩ (.bool f.pw.isDown)) (hp:p+n≤3584) (hd:f.pw.isDown=true) :
  Spec Tryz.prog 98 [.pointer (some ⟨b,0,none⟩),I p,I n] H (fun _:Unit=>True) (fun _ => .tuple #[.slice none 0 0,I 11]) (fun _=>H):=by
 refine spec_pure (res:=fun _=>[]) H Tryz.func98 rfl Tryz.ntmps98 (by kernel_rfl) rfl (fun W=>?_)
 repeat' (first|intro _|refine cw ?_|refine cw2 ?_ ?_|(refine k_fn 89 ?_;(refine o1_call (fun _=>fl_ready _ b f p n (cl_up h) hp) rfl (fun _ _=>?_);rw [hd,if_pos rfl]))|refine ow ?_|refine ow2 ?_ ?_|fail)
 refine rt_tmp2 () rfl rfl rfl rfl trivial ?_
 exact ent
theorem fl_Down (H:List Hl) (b:Nat) (f:Fl) (h:Cl (stars H) ⟨b,16,none⟩ (.bool f.pw.isDown)) :
  Spec Tryz.prog 63 [.pointer (some ⟨b,0,none⟩)] H (fun _:Unit=>True) (fun _ => .bool f.pw.isDown) (fun _=>H):=by
 refine spec_pure (res:=fun _=>[]) H Tryz.func63 rfl Tryz.ntmps63 (by kernel_rfl) rfl (fun W=>?_)
 repeat' (first|intro _|refine cw ?_|refine cw2 ?_ ?_|refine o1_pneq rfl rfl ?_|(refine k_load ?_;refine ox_load_any rfl h ?_)|refine ow ?_|refine ow2 ?_ ?_|fail)
 refine rt_tmp () rfl rfl rfl trivial ?_
 exact ent
theorem xf_load64:XFn Tryz.prog 190 (Extern.Atomic.loadT (.int .i64)):=⟨by kernel_rfl,by kernel_rfl⟩
theorem xf_add64:XFn Tryz.prog 191 (Extern.Atomic.update (Op.intArith .add) .i64 true):=⟨by kernel_rfl,by kernel_rfl⟩
theorem at_AddG (H:List Hl) (b i:Nat) (T:TypeId) (cs:List Value) (k q:Int) (hv:cs[i]?=some (I k)) :
  Spec Tryz.prog 145 [.pointer (some ⟨b,i,none⟩),I q] (.box b T cs::H) (fun _:Unit=>True) (fun _=>I (IntKind.i64.wrap (k+q))) (fun _ => .box b T (cs.set i (I (IntKind.i64.wrap (k+q))))::H):=by
 refine spec_fn (res:=fun _:Unit=>[.box b T (cs.set i (I (IntKind.i64.wrap (k+q))))]) [.box b T cs] H Tryz.func145 rfl Tryz.ntmps145 (by kernel_rfl) rfl (fun W=>?_)
 dsimp only [List.cons_append,List.nil_append]
 repeat' (first|intro _|refine cw ?_|refine cw2 ?_ ?_|refine o1_xadd xf_add64 rfl (b:=b) (i:=i) (k := .i64) (p:=k) (r:=IntKind.i64.wrap (k+q)) hv rfl ?_|refine ow ?_|refine ow2 ?_ ?_|fail)
 refine rt_tmp () rfl rfl rfl trivial ?_
 exact ent
def Fl.stepped (f:Fl):Fl:={ f with pw:=match f.pw with
  | .on => .on
  | .fuse 0 => .down none
  | .fuse (n+1) => .fuse n
  | .down q => .down q }
def Fl.goes (f:Fl):Bool:=match f.pw with
 | .on=>true
 | .fuse 0=>false
 | .fuse (_+1)=>true
 | .down _=>false
set_option maxHeartbeats 1000000 in
theorem fl_step (H:List Hl) (b:Nat) (ad:Option Addr) (c:Nat) (f:Fl) (h:Hid) (hk:FlOk f h) (hd:f.pw.isDown=false) :
  Spec Tryz.prog 90 [.pointer (some ⟨b,0,none⟩)] (fB b ad c f h::H) (fun h':Hid=>FlOk f.stepped h') (fun _ => .bool f.goes) (fun h'=>fB b ad c f.stepped h'::H):=by
 refine spec_fn (res:=fun h':Hid=>[fB b ad c f.stepped h']) [fB b ad c f h] H Tryz.func90 rfl Tryz.ntmps90 (by kernel_rfl) rfl (fun W=>?_)
 dsimp only [List.cons_append,List.nil_append]
 have hE:=hk.er
 have e20:=flC_steps (ad:=ad) (c:=c) (h:=h) hE
 have hs1:=flC_setsteps (ad:=ad) (c:=c) (h:=h) (IntKind.i64.wrap (h.steps+1)) hE
 obtain ⟨h1,hh1⟩:∃ h1:Hid,{ h with steps:=IntKind.i64.wrap (h.steps+1) }=h1:=⟨_,rfl⟩
 have g1:h1.left=h.left:=by rw [←hh1]
 have g2:h1.fused=h.fused:=by rw [←hh1]
 rw [hh1] at hs1
 have e18:=flC_left (ad:=ad) (c:=c) (h:=h1) hE
 obtain ⟨bs,er,wear,pw,torn⟩:=f
 have hpw:=hk.pw
 dsimp only at hE hd hpw
 cases pw with
 | down q=>cases hd
 | on =>
  dsimp only at hpw
  repeat' (first|intro _|refine cw ?_|refine cw2 ?_ ?_|(refine k_fn 145 ?_;(refine o1_call_box (b:=b) (fun _=>at_AddG _ b 20 _ _ h.steps 1 e20) rfl (fun _ _=>?_);rw [hs1]))|(refine k_load ?_;first|refine ox_load (b:=b) (i:=18) rfl e18 ?_|refine ox_load (b:=b) (i:=17) rfl (by rw [flC_fused hE,g2,hpw]) ?_|refine ox_load (b:=b) (i:=16) rfl (flC_down hE) ?_)|(refine k_binOp .sub ?_;refine o1_sub_any rfl rfl (fun v=>?_))|(refine k_store ?_;(refine ox_stores (b:=b) (i:=18) rfl rfl (by rw [flC_len hE];decide) rfl (flC_setleft v hE) ?_))|refine ow ?_|refine ow2 ?_ ?_|fail)
  refine rt_tmp { h1 with left:=v } rfl rfl rfl ⟨hE,hk.bs,hk.wr,hk.ers,?_⟩ ?_
  ·show h1.fused=false
   rw [g2,hpw]
  exact ent
 | fuse n =>
  obtain ⟨p1,p2,p3⟩:=hpw
  cases n with
  | zero =>
   repeat' (first|intro _|refine cw ?_|refine cw2 ?_ ?_|(refine k_fn 145 ?_;(refine o1_call_box (b:=b) (fun _=>at_AddG _ b 20 _ _ h.steps 1 e20) rfl (fun _ _=>?_);rw [hs1]))|(refine k_load ?_;first|(refine ox_load (b:=b) (i:=18) rfl e18 ?_;rw [g1,p2])|refine ox_load (v := .bool true) (b:=b) (i:=17) rfl (by rw [flC_fused hE];exact congrArg (fun q=>some (Value.bool q)) (g2.trans p1)) ?_|refine ox_load (b:=b) (i:=18) rfl (flC_left hE) ?_|refine ox_load (b:=b) (i:=16) rfl (flC_down hE) ?_)|(refine k_binOp .sub ?_;refine o1_sub rfl rfl (by omega) ?_)|(refine k_store ?_;first|(refine ox_stores (b:=b) (i:=18) rfl rfl (by rw [flC_len hE];decide) rfl (flC_setleft _ hE) ?_)|(refine ox_stores (b:=b) (i:=16) rfl rfl (by rw [flC_len hE];decide) rfl (flC_setdown hE) ?_))|(refine k_binOp .lss ?_;refine o1_lss_t rfl rfl (by dsimp only;omega) ?_)|refine ow ?_|refine ow2 ?_ ?_|fail)
   refine rt_tmp { h1 with left := -1 } rfl rfl rfl ⟨hE,hk.bs,hk.wr,hk.ers,?_⟩ ?_
   ·show h1.fused=true→(-1:Int)<0
    intro _
    decide
   exact ent
  | succ n =>
   repeat' (first|intro _|refine cw ?_|refine cw2 ?_ ?_|(refine k_fn 145 ?_;(refine o1_call_box (b:=b) (fun _=>at_AddG _ b 20 _ _ h.steps 1 e20) rfl (fun _ _=>?_);rw [hs1]))|(refine k_load ?_;first|(refine ox_load (b:=b) (i:=18) rfl e18 ?_;rw [g1,p2])|refine ox_load (v := .bool true) (b:=b) (i:=17) rfl (by rw [flC_fused hE];exact congrArg (fun q=>some (Value.bool q)) (g2.trans p1)) ?_|refine ox_load (b:=b) (i:=18) rfl (flC_left hE) ?_|refine ox_load (b:=b) (i:=16) rfl (flC_down hE) ?_)|(refine k_binOp .sub ?_;refine o1_sub rfl rfl (by omega) ?_)|(refine k_store ?_;(refine ox_stores (b:=b) (i:=18) rfl rfl (by rw [flC_len hE];decide) rfl (flC_setleft _ hE) ?_))|(refine k_binOp .lss ?_;refine o1_lss_f rfl rfl (by dsimp only;omega) ?_)|refine ow ?_|refine ow2 ?_ ?_|fail)
   refine rt_tmp { h1 with left:=((n+1:Nat):Int) - 1 } rfl rfl rfl ⟨hE,hk.bs,hk.wr,hk.ers,?_⟩ ?_
   ·show h1.fused=true∧((n+1:Nat):Int) - 1=n∧n≤1000000
    exact ⟨by rw [g2,p1],by omega,by omega⟩
   exact ent
def rtD6_0:List Row:=[⟨some 28,[],[],none⟩,⟨some 29,[0],[0],none⟩,⟨some 30,[1],[0,1],none⟩,⟨some 31,[2],[0,1,2],none⟩,⟨some 32,[],[],none⟩,⟨some 33,[],[],none⟩,⟨some 34,[4,5],[4,5],none⟩,⟨some 35,[3,6],[0,1,2,3,4,5,6],none⟩,⟨some 36,[7],[0,1,2,3,4,5,6,7],none⟩,⟨some 37,[],[],none⟩,⟨some 38,[],[],none⟩,⟨some 39,[10],[10],none⟩,⟨some 40,[11],[10,11],none⟩,⟨some 41,[12],[10,11,12],none⟩,⟨some 42,[13],[10,11,12,13],none⟩,⟨some 43,[9,14],[9,10,11,12,13,14],none⟩,⟨some 44,[8,15],[0,1,2,3,4,5,6,7,8,9,10,11,12,13,14,15],none⟩,⟨some 45,[3,6,0,1,2,3,4,5,6,7,8,9,10,11,12,13,14,15,16],[0,1,2,3,4,5,6,7,8,9,10,11,12,13,14,15,16],none⟩,⟨none,[17,16,0,1,2,3,4,5,6,7,8,9,10,11,12,13,14,15,16],[0,1,2,3,4,5,6,7,8,9,10,11,12,13,14,15,16,17],none⟩]
theorem progB_torn {l:List (BitVec 8)} {a n:Nat} {xs:List (BitVec 8)} (t:BitVec 8) (h:a+xs.length≤l.length) (hn:n<xs.length):(progB l a (xs.take n)).set (a+n) ((l[a+n]'(by omega)) &&& (xs[n] ||| t))=progB l a (xs.take n++[xs.getD n 0#8 ||| t]):=by
 have e1:(xs.take n++[xs.getD n 0#8 ||| t]).length=n+1:=by rw [List.length_append,List.length_take];simp;omega
 have e2:(xs.take n++[xs.getD n 0#8 ||| t]).take n=xs.take n:=by rw [List.take_left'];rw [List.length_take];omega
 have e3:(xs.take n++[xs.getD n 0#8 ||| t]).take (n+1)=xs.take n++[xs.getD n 0#8 ||| t]:=List.take_of_length_le (by omega)
 have e4:(xs.take n++[xs.getD n 0#8 ||| t])[n]'(by omega)=xs[n] ||| t:=by
  rw [List.getElem_append_right (by rw [List.length_take];omega)]
  simp [List.getD_eq_getElem?_getD,hn]
 have:=progB_next (l:=l) (a:=a) (i:=n) (xs:=xs.take n++[xs.getD n 0#8 ||| t]) (by omega) (by omega)
 rw [e2,e3,e4] at this
 exact this
theorem progB_at' {l:List (BitVec 8)} {a i:Nat} {xs:List (BitVec 8)} (h:a+xs.length≤l.length) (hi:i<xs.length) (hl:a+i<(progB l a (xs.take i)).length):(progB l a (xs.take i))[a+i]=l[a+i]'(by omega):=by
 have:=progB_at h hi
 rw [List.getElem?_eq_getElem hl] at this
 exact Option.some.inj this
set_option maxHeartbeats 4000000 in
theorem fl_Program (H:List Hl) (b:Nat) (ad:Option Addr) (c:Nat) (f:Fl) (h:Hid) (p:Nat) (ad2:Option Addr) (m c2:Nat) (xs:List (BitVec 8)) (hk:FlOk f h) (hx2:Rs (stars H) B ad2 c2 xs) (hm:m=xs.length) (hp:p+m≤3584) :
  Spec Tryz.prog 44 [.pointer (some ⟨b,0,none⟩),I p,.slice ad2 m c2] (fB b ad c f h::fR ad c f::H) (fun h':Hid=>FlOk (progF f p xs).1 h') (fun _=>I (progF f p xs).2) (fun h'=>fB b ad c (progF f p xs).1 h'::fR ad c (progF f p xs).1::H):=by
 subst hm
 refine spec_fn (res:=fun h':Hid=>[fB b ad c (progF f p xs).1 h',fR ad c (progF f p xs).1]) [fB b ad c f h,fR ad c f] H Tryz.func44 rfl Tryz.ntmps44 (by kernel_rfl) rfl (fun W=>?_)
 dsimp only [List.cons_append,List.nil_append]
 have b3:=hx2.le
 have b4:=hx2.big
 obtain ⟨f0,hf0⟩:∃ f0,f0=f:=⟨_,rfl⟩
 obtain ⟨bs,er,wear,pw,torn⟩:=f
 have hE:er.length=14:=hk.er
 have hbl:bs.length=3584:=hk.bs
 have hpx:p+xs.length≤bs.length:=by omega
 cases pw with
 | down q =>
  have hdn:f0.pw.isDown=true:=by rw [hf0];rfl
  rw [←hf0] at hk
  rw [show (progF ⟨bs,er,wear,.down q,torn⟩ p xs)=(f0,11) by rw [hf0];rfl,←hf0]
  repeat' (first|intro _|refine cw ?_|refine cw2 ?_ ?_|(refine k_fn 89 ?_;(refine o1_call (fun hh=>fl_ready _ b f0 p xs.length (cl_box (flC_down hk.er)) (by omega)) rfl (fun _ _=>?_);rw [hdn,if_pos rfl]))|refine ow ?_|refine ow2 ?_ ?_|fail)
  refine rt_tmp h rfl rfl rfl hk ?_
  exact ent
 | on =>
  have hdn:f0.pw.isDown=false:=by rw [hf0];rfl
  have hcl:Cl (stars [fB b ad c ⟨bs,er,wear,.on,torn⟩ h,fR ad c ⟨bs,er,wear,.on,torn⟩,.any (stars H)]) ⟨b,16,none⟩ (.bool f0.pw.isDown):=by rw [hf0];exact cl_box (flC_down hk.er)
  repeat' (first|intro _|refine cw ?_|refine cw2 ?_ ?_|(refine k_fn 89 ?_;(refine o1_call (fun hh=>fl_ready _ b f0 p xs.length hcl (by omega)) rfl (fun _ _=>?_);rw [hdn,if_neg (by decide)]))|refine ow ?_|refine ow2 ?_ ?_|fail)
  refine st_loop (S:=Nat × Hid) (fun q=>[(0,.pointer (some ⟨b,0,none⟩)),(1,I p),(18,.slice ad2 xs.length c2),(19,I xs.length),(20,I q.1)])
   (fun q=>[fB b ad c ⟨progB bs p (xs.take q.1),er,wear,.on,torn⟩ q.2,fR ad c ⟨progB bs p (xs.take q.1),er,wear,.on,torn⟩,.any (stars H)]) (fun q=>q.1≤xs.length∧True∧FlOk ⟨progB bs p (xs.take q.1),er,wear,.on,torn⟩ q.2) (fun q=>xs.length - q.1) (0,h) ⟨Nat.zero_le _,trivial,by rw [List.take_zero,progB_nil];exact hk⟩
   cv (by rw [List.take_zero,progB_nil];exact ent) ?_
  rintro ⟨i,hi⟩ ⟨hil,hbd,hki⟩
  dsimp only at hil hbd hki ⊢
  have hBl:(progB bs p (xs.take i)).length=3584:=hki.bs
  by_cases hlt:i<xs.length
  ·obtain ⟨x,hx⟩:∃ x,xs[i]=x:=⟨_,rfl⟩
   have hpi:p+i<(progB bs p (xs.take i)).length:=by omega
   have hpn:(p:Int)+i=((p+i:Nat):Int):=by push_cast;rfl
   have hat:=progB_at' (l:=bs) (a:=p) hpx hlt hpi
   have hnext:=progB_next (l:=bs) (a:=p) hpx hlt
   rw [hx] at hnext
   obtain ⟨y,hy⟩:∃ y,bs[p+i]'(by omega)=y:=⟨_,rfl⟩
   rw [hy] at hat hnext
   repeat' (first|intro _|refine cw ?_|refine cw2 ?_ ?_|(refine k_indexAddr ?_;first|refine o1_ia (ad:=ad2) (c:=c2) i rfl rfl hx2 rfl rfl hlt ?_|refine o1_iah (enc:=B) (ad:=ad) (c:=c) (xs:=progB bs p (xs.take i)) (p+i) rfl rfl rx_fl hBl.symm rfl hpi ?_)|(refine k_load ?_;first|(refine o1_load_ia (ad:=ad2) (c:=c2) i rfl hx2 hlt ?_;rw [hx])|refine ox_load (b:=b) (i:=0) rfl flC_slice ?_|(refine o1_load_iah (enc:=B) (ad:=ad) (c:=c) (xs:=progB bs p (xs.take i)) (p+i) rfl rx_fl hpi ?_;rw [hat]))|(refine k_fn 90 ?_;(refine o1_call_box (b:=b) (fun _=>fl_step _ b ad c ⟨progB bs p (xs.take i),er,wear,.on,torn⟩ hi hki rfl) rfl (fun h2 hk2=>?_);(try dsimp only [Fl.stepped,Fl.goes] at hk2 ⊢)))|(refine k_binOp .add ?_;(refine o1_add rfl rfl (by omega) ?_;rw [hpn]))|(refine k_store ?_;(refine ox_store_flenc (p+i) (ad:=ad) (c:=c) (l:=progB bs p (xs.take i)) rfl rfl (by omega) ?_;rw [hnext]))|refine ow ?_|refine ow2 ?_ ?_|fail)
   refine nx_again (i+1,h2) ⟨by show i+1≤xs.length;omega,trivial,⟨hE,by show (progB bs p (xs.take (i+1))).length=3584;rw [←hnext,List.length_set,hBl],hk2.wr,hk2.ers,hk2.pw⟩⟩ (by show xs.length - (i+1)<xs.length - i;omega) cv ?_
   exact ent
  ·have:i=xs.length:=by omega
   subst this
   repeat' (first|intro _|refine cw ?_|refine cw2 ?_ ?_|refine ow ?_|refine ow2 ?_ ?_|fail)
   rw [List.take_length] at hki ⊢
   refine rt_tmp hi rfl rfl (by simp only [progF]) hki ?_
   exact ent
 | fuse n =>
  have hdn:f0.pw.isDown=false:=by rw [hf0];rfl
  have hcl:Cl (stars [fB b ad c ⟨bs,er,wear,.fuse n,torn⟩ h,fR ad c ⟨bs,er,wear,.fuse n,torn⟩,.any (stars H)]) ⟨b,16,none⟩ (.bool f0.pw.isDown):=by rw [hf0];exact cl_box (flC_down hk.er)
  repeat' (first|intro _|refine cw ?_|refine cw2 ?_ ?_|(refine k_fn 89 ?_;(refine o1_call (fun hh=>fl_ready _ b f0 p xs.length hcl (by omega)) rfl (fun _ _=>?_);rw [hdn,if_neg (by decide)]))|refine ow ?_|refine ow2 ?_ ?_|fail)
  refine st_loop (S:=Nat × Hid) (fun q=>[(0,.pointer (some ⟨b,0,none⟩)),(1,I p),(18,.slice ad2 xs.length c2),(19,I xs.length),(20,I q.1)])
   (fun q=>[fB b ad c ⟨progB bs p (xs.take q.1),er,wear,.fuse (n - q.1),torn⟩ q.2,fR ad c ⟨progB bs p (xs.take q.1),er,wear,.fuse (n - q.1),torn⟩,.any (stars H)]) (fun q=>q.1≤xs.length∧q.1≤n∧FlOk ⟨progB bs p (xs.take q.1),er,wear,.fuse (n - q.1),torn⟩ q.2) (fun q=>xs.length - q.1) (0,h) ⟨Nat.zero_le _,Nat.zero_le _,by rw [List.take_zero,progB_nil];exact hk⟩
   cv (by rw [List.take_zero,progB_nil];exact ent) ?_
  rintro ⟨i,hi⟩ ⟨hil,hbd,hki⟩
  dsimp only at hil hbd hki ⊢
  have hBl:(progB bs p (xs.take i)).length=3584:=hki.bs
  by_cases hlt:i<xs.length
  ·obtain ⟨x,hx⟩:∃ x,xs[i]=x:=⟨_,rfl⟩
   have hpi:p+i<(progB bs p (xs.take i)).length:=by omega
   have hpn:(p:Int)+i=((p+i:Nat):Int):=by push_cast;rfl
   have hat:=progB_at' (l:=bs) (a:=p) hpx hlt hpi
   have hnext:=progB_next (l:=bs) (a:=p) hpx hlt
   rw [hx] at hnext
   obtain ⟨y,hy⟩:∃ y,bs[p+i]'(by omega)=y:=⟨_,rfl⟩
   rw [hy] at hat hnext
   by_cases hin:i<n
   ·obtain ⟨k,hkn,hk1⟩:∃ k,n - i=k+1∧n - (i+1)=k:=⟨n - i - 1,by omega,by omega⟩
    rw [hkn] at hki ⊢
    repeat' (first|intro _|refine cw ?_|refine cw2 ?_ ?_|(refine k_indexAddr ?_;first|refine o1_ia (ad:=ad2) (c:=c2) i rfl rfl hx2 rfl rfl hlt ?_|refine o1_iah (enc:=B) (ad:=ad) (c:=c) (xs:=progB bs p (xs.take i)) (p+i) rfl rfl rx_fl hBl.symm rfl hpi ?_)|(refine k_load ?_;first|(refine o1_load_ia (ad:=ad2) (c:=c2) i rfl hx2 hlt ?_;rw [hx])|refine ox_load (b:=b) (i:=0) rfl flC_slice ?_|(refine o1_load_iah (enc:=B) (ad:=ad) (c:=c) (xs:=progB bs p (xs.take i)) (p+i) rfl rx_fl hpi ?_;rw [hat]))|(refine k_fn 90 ?_;(refine o1_call_box (b:=b) (fun _=>fl_step _ b ad c ⟨progB bs p (xs.take i),er,wear,.fuse (k+1),torn⟩ hi hki rfl) rfl (fun h2 hk2=>?_);(try dsimp only [Fl.stepped,Fl.goes] at hk2 ⊢)))|(refine k_binOp .add ?_;(refine o1_add rfl rfl (by omega) ?_;rw [hpn]))|(refine k_store ?_;(refine ox_store_flenc (p+i) (ad:=ad) (c:=c) (l:=progB bs p (xs.take i)) rfl rfl (by omega) ?_;rw [hnext]))|refine ow ?_|refine ow2 ?_ ?_|fail)
    refine nx_again (i+1,h2) ⟨by show i+1≤xs.length;omega,by show i+1≤n;omega,?_⟩ (by show xs.length - (i+1)<xs.length - i;omega) cv ?_
    ·show FlOk ⟨progB bs p (xs.take (i+1)),er,wear,.fuse (n - (i+1)),torn⟩ h2
     rw [hk1]
     exact ⟨hE,by show (progB bs p (xs.take (i+1))).length=3584;rw [←hnext,List.length_set,hBl],hk2.wr,hk2.ers,hk2.pw⟩
    show Ent _ [fB b ad c ⟨progB bs p (xs.take (i+1)),er,wear,.fuse (n - (i+1)),torn⟩ h2,fR ad c ⟨progB bs p (xs.take (i+1)),er,wear,.fuse (n - (i+1)),torn⟩,.any (stars H)]
    rw [hk1]
    exact ent
   ·have:i=n:=by omega
    subst this
    have htn:=progB_torn (l:=bs) (a:=p) (BitVec.ofInt 8 torn) hpx hlt
    rw [hx,hy] at htn
    rw [Nat.sub_self] at hki ⊢
    have hpF:progF ⟨bs,er,wear,.fuse i,torn⟩ p xs=(⟨progB bs p (xs.take i++[xs.getD i 0#8 ||| BitVec.ofInt 8 torn]),er,wear,.down none,torn⟩,11):=by
     simp only [progF,tornB]
     rw [if_neg (by omega)]
    rw [hpF]
    have e19:∀ h2,(flC ad c ⟨progB bs p (xs.take i),er,wear,.down none,torn⟩ h2)[19]?=some (I torn):=fun h2=>flC_torn hE
    repeat' (first|intro _|refine cw ?_|refine cw2 ?_ ?_|(refine k_indexAddr ?_;refine o1_ia (ad:=ad2) (c:=c2) i rfl rfl hx2 rfl rfl hlt ?_)|(refine k_load ?_;(refine o1_load_ia (ad:=ad2) (c:=c2) i rfl hx2 hlt ?_;rw [hx]))|(refine k_fn 90 ?_;(refine o1_call_box (b:=b) (fun _=>fl_step _ b ad c ⟨progB bs p (xs.take i),er,wear,.fuse 0,torn⟩ hi hki rfl) rfl (fun h2 hk2=>?_);(try dsimp only [Fl.stepped,Fl.goes] at hk2 ⊢)))|refine ow ?_|refine ow2 ?_ ?_|fail)
    refine st_stages' [(0,_),(1,_),(8,_),(9,_)] rtD6_0 [18] [⟨[0,1,2,3,4,5,6,7,8,9,10,11,12,13,14,15,16,17],[],some 18⟩,⟨[],[],none⟩] mixed cv (by kernel_rfl) (by kernel_rfl) ?_
    repeat' (first|intro _|refine sg ?_|(refine p_load ?_;refine po (by first|refine ox_load (b:=b) (i:=0) rfl flC_slice fz|refine ox_load (b:=b) (i:=19) rfl (e19 _) fz|((refine o1_load_iah (enc:=B) (ad:=ad) (c:=c) (xs:=progB bs p (xs.take i)) (p+i) rfl rx_fl hpi ?_;rw [hat]);all_goals exact fz)|fail) ?_)|(refine p_binOp .add ?_;refine po (by first|((refine o1_add rfl rfl (by omega) ?_;rw [hpn]);all_goals exact fz)|fail) ?_)|(refine p_indexAddr ?_;refine po (by first|refine o1_iah (enc:=B) (ad:=ad) (c:=c) (xs:=progB bs p (xs.take i)) (p+i) rfl rfl rx_fl hBl.symm rfl hpi fz|fail) ?_)|refine pw ?_|refine pdd ?_|(refine k_store ?_;(refine ox_store_flenc (p+i) (ad:=ad) (c:=c) (l:=progB bs p (xs.take i)) rfl rfl (by omega) ?_;rw [htn]))|refine ow ?_|fail)
    all_goals dsimp only [List.cons_append,List.nil_append]
    repeat' (first|intro _|refine cw ?_|refine cw2 ?_ ?_|refine ow ?_|refine ow2 ?_ ?_|fail)
    refine rt_tmp h2 rfl rfl rfl ⟨hE,by show (progB bs p (xs.take i++[xs.getD i 0#8 ||| BitVec.ofInt 8 torn])).length=3584;rw [←htn,List.length_set,hBl],hk2.wr,hk2.ers,hk2.pw⟩ ?_
    exact ent
  ·have:i=xs.length:=by omega
   subst this
   repeat' (first|intro _|refine cw ?_|refine cw2 ?_ ?_|refine ow ?_|refine ow2 ?_ ?_|fail)
   rw [List.take_length] at hki ⊢
   have hpF:progF ⟨bs,er,wear,.fuse n,torn⟩ p xs=(⟨progB bs p xs,er,wear,.fuse (n - xs.length),torn⟩,0):=by
    simp only [progF]
    rw [if_pos hbd]
   rw [hpF]
   refine rt_tmp hi rfl rfl rfl hki ?_
   exact ent
def rtD7_0:List Row:=[⟨some 24,[],[],none⟩,⟨some 25,[],[],none⟩,⟨some 26,[0],[0],none⟩,⟨some 27,[2],[0,2],none⟩,⟨some 28,[3,1],[0,1,2,3],none⟩,⟨some 29,[4],[0,1,2,3,4],none⟩,⟨some 30,[],[],none⟩,⟨some 31,[6],[6],none⟩,⟨some 32,[7],[6,7],none⟩,⟨some 33,[8],[6,7,8],none⟩,⟨some 34,[5,9],[0,1,2,3,4,5,6,7,8,9],none⟩,⟨some 23,[10],[0,1,2,3,4,5,6,7,8,9,10],none⟩]
def rtD7_1:List Row:=[⟨some 24,[],[],none⟩,⟨some 25,[],[],none⟩,⟨some 26,[0],[0],none⟩,⟨some 27,[2],[0,2],none⟩,⟨some 28,[3,1],[0,1,2,3],none⟩,⟨some 29,[4],[0,1,2,3,4],none⟩,⟨some 30,[],[],none⟩,⟨some 31,[6],[6],none⟩,⟨some 32,[7],[6,7],none⟩,⟨some 33,[8],[6,7,8],none⟩,⟨some 34,[5,9],[0,1,2,3,4,5,6,7,8,9],none⟩,⟨some 23,[10],[0,1,2,3,4,5,6,7,8,9,10],none⟩]
def rtD7_2:List Row:=[⟨some 45,[],[],none⟩,⟨some 46,[],[],none⟩,⟨some 47,[0],[0],none⟩,⟨some 48,[2],[0,2],none⟩,⟨some 49,[3,1],[0,1,2,3],none⟩,⟨some 50,[4],[0,1,2,3,4],none⟩,⟨some 51,[5],[0,1,2,3,4,5],none⟩,⟨some 52,[0],[0],none⟩,⟨some 53,[7],[0,7],none⟩,⟨some 54,[8,1,0,1,2,3,4,5,6],[0,1,2,3,4,5,6,7,8],none⟩,⟨none,[9,6,0,1,2,3,4,5,6],[0,1,2,3,4,5,6,7,8,9],none⟩]
def rtD7_3:List Row:=[⟨some 24,[],[],none⟩,⟨some 25,[],[],none⟩,⟨some 26,[0],[0],none⟩,⟨some 27,[2],[0,2],none⟩,⟨some 28,[3,1],[0,1,2,3],none⟩,⟨some 29,[4],[0,1,2,3,4],none⟩,⟨some 30,[],[],none⟩,⟨some 31,[6],[6],none⟩,⟨some 32,[7],[6,7],none⟩,⟨some 33,[8],[6,7,8],none⟩,⟨some 34,[5,9],[0,1,2,3,4,5,6,7,8,9],none⟩,⟨some 23,[10],[0,1,2,3,4,5,6,7,8,9,10],none⟩]
def rtD7_4:List Row:=[⟨some 45,[],[],none⟩,⟨some 46,[],[],none⟩,⟨some 47,[0],[0],none⟩,⟨some 48,[2],[0,2],none⟩,⟨some 49,[3,1],[0,1,2,3],none⟩,⟨some 50,[4],[0,1,2,3,4],none⟩,⟨some 51,[5],[0,1,2,3,4,5],none⟩,⟨some 52,[0],[0],none⟩,⟨some 53,[7],[0,7],none⟩,⟨some 54,[8,1,0,1,2,3,4,5,6],[0,1,2,3,4,5,6,7,8],none⟩,⟨none,[9,6,0,1,2,3,4,5,6],[0,1,2,3,4,5,6,7,8,9],none⟩]
def rtD7_5:List Row:=[⟨some 24,[],[],none⟩,⟨some 25,[],[],none⟩,⟨some 26,[0],[0],none⟩,⟨some 27,[2],[0,2],none⟩,⟨some 28,[3,1],[0,1,2,3],none⟩,⟨some 29,[4],[0,1,2,3,4],none⟩,⟨some 30,[],[],none⟩,⟨some 31,[6],[6],none⟩,⟨some 32,[7],[6,7],none⟩,⟨some 33,[8],[6,7,8],none⟩,⟨some 34,[5,9],[0,1,2,3,4,5,6,7,8,9],none⟩,⟨some 23,[10],[0,1,2,3,4,5,6,7,8,9,10],none⟩]
def rtD7_6:List Row:=[⟨some 45,[],[],none⟩,⟨some 46,[],[],none⟩,⟨some 47,[0],[0],none⟩,⟨some 48,[2],[0,2],none⟩,⟨some 49,[3,1],[0,1,2,3],none⟩,⟨some 50,[4],[0,1,2,3,4],none⟩,⟨some 51,[5],[0,1,2,3,4,5],none⟩,⟨some 52,[0],[0],none⟩,⟨some 53,[7],[0,7],none⟩,⟨some 54,[8,1,0,1,2,3,4,5,6],[0,1,2,3,4,5,6,7,8],none⟩,⟨none,[9,6,0,1,2,3,4,5,6],[0,1,2,3,4,5,6,7,8,9],none⟩]
theorem fl_Blank1 (H:List Hl) (x:BitVec 8) :
  Spec Tryz.prog 157 [B x] H (fun _:Unit=>True) (fun _ => .bool (decide (x≠0xff#8))) (fun _=>H):=by
 refine spec_pure (res:=fun _=>[]) H Tryz.func157 rfl Tryz.ntmps157 (by kernel_rfl) rfl (fun W=>?_)
 by_cases h:x=0xff#8
 ·subst h
  repeat' (first|intro _|refine cw ?_|refine cw2 ?_ ?_|(refine k_binOp .neq ?_;refine o1_neq_f rfl rfl rfl ?_)|refine ow ?_|refine ow2 ?_ ?_|fail)
  refine rt_tmp () rfl rfl rfl trivial ?_
  exact ent
 ·have h1:(x.toNat:Int)≠255:=fun e=>h (BitVec.eq_of_toNat_eq (by show x.toNat=255;omega))
  repeat' (first|intro _|refine cw ?_|refine cw2 ?_ ?_|(refine k_binOp .neq ?_;refine o1_neq_t rfl rfl h1 ?_)|refine ow ?_|refine ow2 ?_ ?_|fail)
  refine rt_tmp () rfl rfl (by simp [h]) trivial ?_
  exact ent
def oddB1 (l:List (BitVec 8)):Bool:=l.any (fun x=>decide (x≠0xff#8))
theorem oddB1_not (l:List (BitVec 8)):(!oddB1 l)=blankB l:=by
 simp only [oddB1,blankB,List.any_eq_not_all_not,Bool.not_not]
 congr 1
 funext x
 by_cases h:x=0xff#8 <;> simp [h]
theorem fl_Index (H:List Hl) (ad:Option Addr) (c:Nat) (l:List (BitVec 8)) (h:Rs (stars H) B ad c l) :
  Spec Tryz.prog 193 [.slice ad l.length c,.func (.func 157) #[] #[]] H (fun r:Int=>decide (0≤r)=oddB1 l ∧ -1≤r∧r≤9223372036854775807) (fun r=>I r) (fun _=>H):=by
 refine spec_pure (res:=fun _=>[]) H Tryz.func193 rfl Tryz.ntmps193 (by kernel_rfl) rfl (fun W=>?_)
 have b1:=h.le
 have b2:=h.big
 repeat' (first|intro _|refine cw ?_|refine cw2 ?_ ?_|refine ow ?_|refine ow2 ?_ ?_|fail)
 refine st_loop (S:=Nat) (fun i=>[(0,.slice ad l.length c),(1,.func (.func 157) #[] #[]),(7,I l.length),(8,I i)]) (fun _=>[.any (stars H)]) (fun i=>i≤l.length∧oddB1 (l.take i)=false) (fun i=>l.length - i) 0 ⟨Nat.zero_le _,rfl⟩ cv ent ?_
 rintro i ⟨hi,hno⟩
 by_cases hlt:i<l.length
 ·obtain ⟨x,hx⟩:∃ x,l[i]=x:=⟨_,rfl⟩
  by_cases hf:x=0xff#8
  ·repeat' (first|intro _|refine cw ?_|refine cw2 ?_ ?_|(refine k_indexAddr ?_;refine o1_ia (ad:=ad) (c:=c) i rfl rfl h rfl rfl hlt ?_)|(refine k_load ?_;(refine o1_load_ia (ad:=ad) (c:=c) i rfl h hlt ?_;rw [hx]))|refine o1_kall (args:=[B x]) (caps:=[]) rfl (fun _=>(fl_Blank1 _ x).bv (b:=false) (by simp [hf])) rfl (fun _ _=>?_)|refine ow ?_|refine ow2 ?_ ?_|fail)
   refine nx_again (i+1) ⟨by omega,?_⟩ (by omega) cv ?_
   ·rw [List.take_succ_eq_append_getElem hlt,hx]
    unfold oddB1 at hno ⊢
    rw [List.any_append,hno]
    simp [hf]
   exact ent
  ·have hany:oddB1 l=true:=by
    unfold oddB1
    rw [List.any_eq_true]
    exact ⟨x,hx ▸ List.getElem_mem hlt,by simpa using hf⟩
   repeat' (first|intro _|refine cw ?_|refine cw2 ?_ ?_|(refine k_indexAddr ?_;refine o1_ia (ad:=ad) (c:=c) i rfl rfl h rfl rfl hlt ?_)|(refine k_load ?_;(refine o1_load_ia (ad:=ad) (c:=c) i rfl h hlt ?_;rw [hx]))|refine o1_kall (args:=[B x]) (caps:=[]) rfl (fun _=>(fl_Blank1 _ x).bv (b:=true) (by simp [hf])) rfl (fun _ _=>?_)|refine ow ?_|refine ow2 ?_ ?_|fail)
   refine rt_tmp (i:Int) rfl rfl rfl ⟨by rw [hany];simp,by omega,by omega⟩ ?_
   exact ent
 ·have:i=l.length:=by omega
  subst this
  rw [List.take_length] at hno
  repeat' (first|intro _|refine cw ?_|refine cw2 ?_ ?_|refine ow ?_|refine ow2 ?_ ?_|fail)
  refine rt_tmp (-1:Int) rfl rfl rfl ⟨by rw [hno];decide,by decide,by decide⟩ ?_
  exact ent
theorem fl_Contains (H:List Hl) (ad:Option Addr) (m c:Nat) (l:List (BitVec 8)) (h:Rs (stars H) B ad c l) (hm:m=l.length) :
  Spec Tryz.prog 156 [.slice ad m c,.func (.func 157) #[] #[]] H (fun _:Unit=>True) (fun _ => .bool (oddB1 l)) (fun _=>H):=by
 subst hm
 refine spec_pure (res:=fun _=>[]) H Tryz.func156 rfl Tryz.ntmps156 (by kernel_rfl) rfl (fun W=>?_)
 repeat' (first|intro _|refine cw ?_|refine cw2 ?_ ?_|(refine k_fn 193 ?_;refine o1_call (fun _=>fl_Index _ ad c l h.up) rfl (fun r hr=>?_))|(refine k_binOp .geq ?_;refine o1_geq_d rfl rfl ?_)|refine ow ?_|refine ow2 ?_ ?_|fail)
 refine rt_tmp () rfl rfl (by rw [←hr.1]) trivial ?_
 exact ent
theorem fl_Blank (H:List Hl) (b:Nat) (ad:Option Addr) (c:Nat) (f:Fl) (p n:Nat) (h:RdFl (stars H) b ad c f) (hp:p+n≤3584) (hd:f.pw.isDown=false) :
  Spec Tryz.prog 109 [.pointer (some ⟨b,0,none⟩),I p,I n] H (fun _:Unit=>True) (fun _ => .bool (blankB (seg f.bs p n))) (fun _=>H):=by
 refine spec_pure (res:=fun _=>[]) H Tryz.func109 rfl Tryz.ntmps109 (by kernel_rfl) rfl (fun W=>?_)
 have hl:=h.l
 have hsl:n=(seg f.bs p n).length:=(seg_len (by omega)).symm
 repeat' (first|intro _|refine cw ?_|refine cw2 ?_ ?_|(refine k_fn 98 ?_;(refine o1_call (fun _=>fl_Read _ b ad c f p n h.up hp hd) rfl (fun ⟨a13,c13⟩ _=>?_);(try dsimp only)))|(refine k_fn 156 ?_;refine o1_call (fun hh=>fl_Contains _ a13 n c13 (seg f.bs p n) (rx_row hh) hsl) rfl (fun _ _=>?_))|refine ow ?_|refine ow2 ?_ ?_|fail)
 refine rt_tmp () rfl rfl (by rw [oddB1_not]) trivial ?_
 exact ent
set_option maxHeartbeats 4000000 in
theorem fl_Erase (H:List Hl) (b:Nat) (ad:Option Addr) (c:Nat) (f:Fl) (h:Hid) (s:Nat) (hk:FlOk f h) (hs:s<14) :
  Spec Tryz.prog 110 [.pointer (some ⟨b,0,none⟩),I s] (fB b ad c f h::fR ad c f::H) (fun h':Hid=>FlOk (eraseF f s).1 h') (fun _=>I (eraseF f s).2) (fun h'=>fB b ad c (eraseF f s).1 h'::fR ad c (eraseF f s).1::H):=by
 refine spec_fn (res:=fun h':Hid=>[fB b ad c (eraseF f s).1 h',fR ad c (eraseF f s).1]) [fB b ad c f h,fR ad c f] H Tryz.func110 rfl Tryz.ntmps110 (by kernel_rfl) rfl (fun W=>?_)
 dsimp only [List.cons_append,List.nil_append]
 obtain ⟨bs,er,wear,pwr,torn⟩:=f
 have hE:er.length=14:=hk.er
 have hbl:bs.length=3584:=hk.bs
 have hwr:wear≤10000:=hk.wr
 have hs2:s<er.length:=by omega
 have hs14:s<14:=hs
 have hgd:er.getD s 0=er[s]:=by rw [List.getD_eq_getElem?_getD,List.getElem?_eq_getElem hs2];rfl
 have hcast:(er[s]:Int)+1=((er[s]+1:Nat):Int):=by push_cast;rfl
 have hsm:er[s]≤1000000:=hk.ers _ (List.getElem_mem hs2)
 obtain ⟨tr,htr0⟩:∃ tr,torn.toNat % 257=tr:=⟨_,rfl⟩
 have htrl:tr<257:=by rw [←htr0];exact Nat.mod_lt _ (by decide)
 have htr:(max 0 torn) % 257=(tr:Int):=by omega
 by_cases hdn:∃ q,pwr = .down q
 ·obtain ⟨q,rfl⟩:=hdn
  repeat' (first|intro _|refine cw ?_|refine cw2 ?_ ?_|refine o1_peql rfl rfl ?_|(refine k_load ?_;refine ox_load (b:=b) (i:=16) rfl (flC_down hE) ?_)|refine ow ?_|refine ow2 ?_ ?_|fail)
  refine rt_tmp h rfl rfl rfl hk ?_
  exact ent
 by_cases hw:wear≤er[s]
 ·have hef:eraseF ⟨bs,er,wear,pwr,torn⟩ s=(⟨bs,er,wear,pwr,torn⟩,10):=by
   cases pwr with
   | down q=>exact absurd ⟨q,rfl⟩ hdn
   | on=>simp only [eraseF];rw [hgd,if_pos hw]
   | fuse n=>simp only [eraseF];rw [hgd,if_pos hw]
  have e16:(flC ad c ⟨bs,er,wear,pwr,torn⟩ h)[16]?=some (.bool false):=by
   rw [flC_down hE]
   cases pwr with
   | down q=>exact absurd ⟨q,rfl⟩ hdn
   | on=>rfl
   | fuse n=>rfl
  rw [hef]
  repeat' (first|intro _|refine cw ?_|refine cw2 ?_ ?_|refine o1_peql rfl rfl ?_|(refine k_load ?_;refine ox_load (b:=b) (i:=16) rfl e16 ?_)|refine ow ?_|refine ow2 ?_ ?_|fail)
  refine st_stages' [(0,_),(1,_)] rtD7_0 [] [⟨[0,1,2,3,4,5,6,7,8,9,10,11],[],none⟩] mixed cv (by kernel_rfl) (by kernel_rfl) ?_
  repeat' (first|intro _|refine sg ?_|(refine p_indexAddr ?_;refine po (by first|refine ox_idx_arr s (1+s) rfl rfl rfl hs14 (by omega) fz|fail) ?_)|(refine p_load ?_;refine po (by first|refine ox_load (v:=nI er[s]) (b:=b) (i:=1+s) rfl (flC_er hs2) fz|refine ox_load (v:=I wear) (b:=b) (i:=15) rfl (flC_wear hE) fz|fail) ?_)|(refine p_binOp .geq ?_;refine po (by first|refine o1_geq_t rfl rfl (by omega) fz|fail) ?_)|refine pw ?_|refine pdd ?_|refine ow ?_|fail)
  all_goals dsimp only [List.cons_append,List.nil_append]
  repeat' (first|intro _|refine cw ?_|refine cw2 ?_ ?_|refine ow ?_|refine ow2 ?_ ?_|fail)
  refine rt_tmp h rfl rfl rfl hk ?_
  exact ent
 have hers:∀ x∈er.set s (er[s]+1),x≤1000000:=fun x hx=>by
  rcases List.mem_or_eq_of_mem_set hx with q|q
  ·exact hk.ers x q
  ·omega
 cases pwr with
 | down q=>exact absurd ⟨q,rfl⟩ hdn
 | on =>
  rw [show eraseF ⟨bs,er,wear,.on,torn⟩ s=(⟨fillB bs (s*256) 256,er.set s (er[s]+1),wear,.on,torn⟩,0) by simp only [eraseF];rw [hgd,if_neg hw]]
  repeat' (first|intro _|refine cw ?_|refine cw2 ?_ ?_|refine o1_peql rfl rfl ?_|(refine k_load ?_;refine ox_load (b:=b) (i:=16) rfl (flC_down hE) ?_)|refine ow ?_|refine ow2 ?_ ?_|fail)
  refine st_stages' [(0,_),(1,_)] rtD7_1 [] [⟨[0,1,2,3,4,5,6,7,8,9,10,11],[],none⟩] mixed cv (by kernel_rfl) (by kernel_rfl) ?_
  repeat' (first|intro _|refine sg ?_|(refine p_indexAddr ?_;refine po (by first|refine ox_idx_arr s (1+s) rfl rfl rfl hs14 (by omega) fz|fail) ?_)|(refine p_load ?_;refine po (by first|refine ox_load (v:=nI er[s]) (b:=b) (i:=1+s) rfl (flC_er hs2) fz|refine ox_load (v:=I wear) (b:=b) (i:=15) rfl (flC_wear hE) fz|fail) ?_)|(refine p_binOp .geq ?_;refine po (by first|refine o1_geq_f rfl rfl (by omega) fz|fail) ?_)|refine pw ?_|refine pdd ?_|refine ow ?_|fail)
  all_goals dsimp only [List.cons_append,List.nil_append]
  repeat' (first|intro _|refine cw ?_|refine cw2 ?_ ?_|(refine k_fn 90 ?_;(refine o1_call_box (b:=b) (fun _=>fl_step _ b ad c ⟨bs,er,wear,.on,torn⟩ h hk rfl) rfl (fun h2 hk2=>?_);(try dsimp only [Fl.stepped,Fl.goes] at hk2 ⊢)))|(refine k_load ?_;refine ox_load (v:=I torn) (b:=b) (i:=19) rfl (flC_torn hE) ?_)|(refine k_call ?_;refine o1_max (r:=max 0 torn) rfl rfl (by omega) ?_)|(refine k_binOp .rem ?_;(refine o1_rem_nn rfl rfl (by omega) ?_;rw [htr]))|refine ow ?_|refine ow2 ?_ ?_|fail)
  refine st_stages' [(0,_),(1,_)] rtD7_2 [10] [⟨[0,1,2,3,4,5,6,7,8,9],[],some 10⟩,⟨[],[],none⟩] mixed cv (by kernel_rfl) (by kernel_rfl) ?_
  repeat' (first|intro _|refine sg ?_|(refine p_indexAddr ?_;refine po (by first|refine ox_idx_arr s (1+s) rfl rfl rfl hs14 (by omega) fz|fail) ?_)|(refine p_load ?_;refine po (by first|refine ox_load (v:=nI er[s]) (b:=b) (i:=1+s) rfl (flC_er hs2) fz|fail) ?_)|(refine p_binOp .add ?_;refine po (by first|((refine o1_add rfl rfl (by omega) ?_;rw [hcast]);all_goals exact fz)|fail) ?_)|refine pw ?_|refine pdd ?_|(refine k_store ?_;refine ox_stores (b:=b) (i:=1+s) rfl rfl (by rw [flC_len hE];omega) rfl (flC_setEr (v:=er[s]+1) hs2) ?_)|refine ow ?_|fail)
  all_goals dsimp only [List.cons_append,List.nil_append]
  repeat' (first|intro _|refine cw ?_|refine cw2 ?_ ?_|refine ow ?_|refine ow2 ?_ ?_|fail)
  refine st_loop (S:=Nat) (fun j=>[(0,.pointer (some ⟨b,0,none⟩)),(1,I s),(6,.bool true),(55,I 256),(56,I j)]) (fun j=>[fB b ad c ⟨bs,er.set s (er[s]+1),wear,.on,torn⟩ h2,.any (slk ad c (fillB bs (s*256) j)),.any (stars H)]) (fun j=>j≤256) (fun j=>256 - j) 0 (Nat.zero_le _) cv (by rw [fillB_zero];exact ent) ?_
  intro j hj
  by_cases hjt:j<256
  ·have hpn:(s:Int)*256+(j:Int)=((s*256+j:Nat):Int):=by omega
   have hBl:(fillB bs (s*256) j).length=3584:=by rw [fillB_len (by omega)];exact hbl
   have hnx:=fillB_next (l:=bs) (a:=s*256) (i:=j) (by omega)
   repeat' (first|intro _|refine cw ?_|refine cw2 ?_ ?_|(refine k_binOp .mul ?_;refine o1_mul rfl rfl (by omega) ?_)|(refine k_binOp .add ?_;(refine o1_add rfl rfl (by omega) ?_;rw [hpn]))|(refine k_load ?_;refine ox_load (b:=b) (i:=0) rfl flC_slice ?_)|(refine k_indexAddr ?_;refine o1_iah (enc:=B) (ad:=ad) (c:=c) (xs:=fillB bs (s*256) j) (s*256+j) rfl rfl rx_fl hBl.symm rfl (by omega) ?_)|(refine k_store ?_;(refine ox_store_flenc (v:=0xff#8) (s*256+j) (ad:=ad) (c:=c) (l:=fillB bs (s*256) j) rfl rfl (by omega) ?_;rw [hnx]))|refine ow ?_|refine ow2 ?_ ?_|fail)
   refine nx_again (j+1) (by omega) (by omega) cv ?_
   exact ent
  ·have:j=256:=by omega
   rw [this]
   repeat' (first|intro _|refine cw ?_|refine cw2 ?_ ?_|refine ow ?_|refine ow2 ?_ ?_|fail)
   refine rt_tmp h2 rfl rfl rfl ⟨by show (er.set s (er[s]+1)).length=14;rw [List.length_set];exact hE,by show (fillB bs (s*256) 256).length=3584;rw [fillB_len (by omega)];exact hbl,hk2.wr,hers,hk2.pw⟩ ?_
   exact ent
 | fuse n =>
  cases n with
  | zero =>
   rw [show eraseF ⟨bs,er,wear,.fuse 0,torn⟩ s=(⟨fillB bs (s*256) tr,er.set s (er[s]+1),wear,.down none,torn⟩,11) by simp only [eraseF];rw [hgd,if_neg hw,htr0]]
   repeat' (first|intro _|refine cw ?_|refine cw2 ?_ ?_|refine o1_peql rfl rfl ?_|(refine k_load ?_;refine ox_load (b:=b) (i:=16) rfl (flC_down hE) ?_)|refine ow ?_|refine ow2 ?_ ?_|fail)
   refine st_stages' [(0,_),(1,_)] rtD7_3 [] [⟨[0,1,2,3,4,5,6,7,8,9,10,11],[],none⟩] mixed cv (by kernel_rfl) (by kernel_rfl) ?_
   repeat' (first|intro _|refine sg ?_|(refine p_indexAddr ?_;refine po (by first|refine ox_idx_arr s (1+s) rfl rfl rfl hs14 (by omega) fz|fail) ?_)|(refine p_load ?_;refine po (by first|refine ox_load (v:=nI er[s]) (b:=b) (i:=1+s) rfl (flC_er hs2) fz|refine ox_load (v:=I wear) (b:=b) (i:=15) rfl (flC_wear hE) fz|fail) ?_)|(refine p_binOp .geq ?_;refine po (by first|refine o1_geq_f rfl rfl (by omega) fz|fail) ?_)|refine pw ?_|refine pdd ?_|refine ow ?_|fail)
   all_goals dsimp only [List.cons_append,List.nil_append]
   repeat' (first|intro _|refine cw ?_|refine cw2 ?_ ?_|(refine k_fn 90 ?_;(refine o1_call_box (b:=b) (fun _=>fl_step _ b ad c ⟨bs,er,wear,.fuse 0,torn⟩ h hk rfl) rfl (fun h2 hk2=>?_);(try dsimp only [Fl.stepped,Fl.goes] at hk2 ⊢)))|(refine k_load ?_;refine ox_load (v:=I torn) (b:=b) (i:=19) rfl (flC_torn hE) ?_)|(refine k_call ?_;refine o1_max (r:=max 0 torn) rfl rfl (by omega) ?_)|(refine k_binOp .rem ?_;(refine o1_rem_nn rfl rfl (by omega) ?_;rw [htr]))|refine ow ?_|refine ow2 ?_ ?_|fail)
   refine st_stages' [(0,_),(1,_)] rtD7_4 [10] [⟨[0,1,2,3,4,5,6,7,8,9],[],some 10⟩,⟨[],[],none⟩] mixed cv (by kernel_rfl) (by kernel_rfl) ?_
   repeat' (first|intro _|refine sg ?_|(refine p_indexAddr ?_;refine po (by first|refine ox_idx_arr s (1+s) rfl rfl rfl hs14 (by omega) fz|fail) ?_)|(refine p_load ?_;refine po (by first|refine ox_load (v:=nI er[s]) (b:=b) (i:=1+s) rfl (flC_er hs2) fz|fail) ?_)|(refine p_binOp .add ?_;refine po (by first|((refine o1_add rfl rfl (by omega) ?_;rw [hcast]);all_goals exact fz)|fail) ?_)|refine pw ?_|refine pdd ?_|(refine k_store ?_;refine ox_stores (b:=b) (i:=1+s) rfl rfl (by rw [flC_len hE];omega) rfl (flC_setEr (v:=er[s]+1) hs2) ?_)|refine ow ?_|fail)
   all_goals dsimp only [List.cons_append,List.nil_append]
   repeat' (first|intro _|refine cw ?_|refine cw2 ?_ ?_|refine ow ?_|refine ow2 ?_ ?_|fail)
   refine st_loop (S:=Nat) (fun j=>[(0,.pointer (some ⟨b,0,none⟩)),(1,I s),(6,.bool false),(55,I tr),(56,I j)]) (fun j=>[fB b ad c ⟨bs,er.set s (er[s]+1),wear,.down none,torn⟩ h2,.any (slk ad c (fillB bs (s*256) j)),.any (stars H)]) (fun j=>j≤tr) (fun j=>tr - j) 0 (Nat.zero_le _) cv (by rw [fillB_zero];exact ent) ?_
   intro j hj
   by_cases hjt:j<tr
   ·have hpn:(s:Int)*256+(j:Int)=((s*256+j:Nat):Int):=by omega
    have hBl:(fillB bs (s*256) j).length=3584:=by rw [fillB_len (by omega)];exact hbl
    have hnx:=fillB_next (l:=bs) (a:=s*256) (i:=j) (by omega)
    repeat' (first|intro _|refine cw ?_|refine cw2 ?_ ?_|(refine k_binOp .mul ?_;refine o1_mul rfl rfl (by omega) ?_)|(refine k_binOp .add ?_;(refine o1_add rfl rfl (by omega) ?_;rw [hpn]))|(refine k_load ?_;refine ox_load (b:=b) (i:=0) rfl flC_slice ?_)|(refine k_indexAddr ?_;refine o1_iah (enc:=B) (ad:=ad) (c:=c) (xs:=fillB bs (s*256) j) (s*256+j) rfl rfl rx_fl hBl.symm rfl (by omega) ?_)|(refine k_store ?_;(refine ox_store_flenc (v:=0xff#8) (s*256+j) (ad:=ad) (c:=c) (l:=fillB bs (s*256) j) rfl rfl (by omega) ?_;rw [hnx]))|refine ow ?_|refine ow2 ?_ ?_|fail)
    refine nx_again (j+1) (by omega) (by omega) cv ?_
    exact ent
   ·have:j=tr:=by omega
    rw [this]
    repeat' (first|intro _|refine cw ?_|refine cw2 ?_ ?_|refine ow ?_|refine ow2 ?_ ?_|fail)
    refine rt_tmp h2 rfl rfl rfl ⟨by show (er.set s (er[s]+1)).length=14;rw [List.length_set];exact hE,by show (fillB bs (s*256) tr).length=3584;rw [fillB_len (by omega)];exact hbl,hk2.wr,hers,hk2.pw⟩ ?_
    exact ent
  | succ n =>
   rw [show eraseF ⟨bs,er,wear,.fuse (n+1),torn⟩ s=(⟨fillB bs (s*256) 256,er.set s (er[s]+1),wear,.fuse n,torn⟩,0) by simp only [eraseF];rw [hgd,if_neg hw]]
   repeat' (first|intro _|refine cw ?_|refine cw2 ?_ ?_|refine o1_peql rfl rfl ?_|(refine k_load ?_;refine ox_load (b:=b) (i:=16) rfl (flC_down hE) ?_)|refine ow ?_|refine ow2 ?_ ?_|fail)
   refine st_stages' [(0,_),(1,_)] rtD7_5 [] [⟨[0,1,2,3,4,5,6,7,8,9,10,11],[],none⟩] mixed cv (by kernel_rfl) (by kernel_rfl) ?_
   repeat' (first|intro _|refine sg ?_|(refine p_indexAddr ?_;refine po (by first|refine ox_idx_arr s (1+s) rfl rfl rfl hs14 (by omega) fz|fail) ?_)|(refine p_load ?_;refine po (by first|refine ox_load (v:=nI er[s]) (b:=b) (i:=1+s) rfl (flC_er hs2) fz|refine ox_load (v:=I wear) (b:=b) (i:=15) rfl (flC_wear hE) fz|fail) ?_)|(refine p_binOp .geq ?_;refine po (by first|refine o1_geq_f rfl rfl (by omega) fz|fail) ?_)|refine pw ?_|refine pdd ?_|refine ow ?_|fail)
   all_goals dsimp only [List.cons_append,List.nil_append]
   repeat' (first|intro _|refine cw ?_|refine cw2 ?_ ?_|(refine k_fn 90 ?_;(refine o1_call_box (b:=b) (fun _=>fl_step _ b ad c ⟨bs,er,wear,.fuse (n+1),torn⟩ h hk rfl) rfl (fun h2 hk2=>?_);(try dsimp only [Fl.stepped,Fl.goes] at hk2 ⊢)))|(refine k_load ?_;refine ox_load (v:=I torn) (b:=b) (i:=19) rfl (flC_torn hE) ?_)|(refine k_call ?_;refine o1_max (r:=max 0 torn) rfl rfl (by omega) ?_)|(refine k_binOp .rem ?_;(refine o1_rem_nn rfl rfl (by omega) ?_;rw [htr]))|refine ow ?_|refine ow2 ?_ ?_|fail)
   refine st_stages' [(0,_),(1,_)] rtD7_6 [10] [⟨[0,1,2,3,4,5,6,7,8,9],[],some 10⟩,⟨[],[],none⟩] mixed cv (by kernel_rfl) (by kernel_rfl) ?_
   repeat' (first|intro _|refine sg ?_|(refine p_indexAddr ?_;refine po (by first|refine ox_idx_arr s (1+s) rfl rfl rfl hs14 (by omega) fz|fail) ?_)|(refine p_load ?_;refine po (by first|refine ox_load (v:=nI er[s]) (b:=b) (i:=1+s) rfl (flC_er hs2) fz|fail) ?_)|(refine p_binOp .add ?_;refine po (by first|((refine o1_add rfl rfl (by omega) ?_;rw [hcast]);all_goals exact fz)|fail) ?_)|refine pw ?_|refine pdd ?_|(refine k_store ?_;refine ox_stores (b:=b) (i:=1+s) rfl rfl (by rw [flC_len hE];omega) rfl (flC_setEr (v:=er[s]+1) hs2) ?_)|refine ow ?_|fail)
   all_goals dsimp only [List.cons_append,List.nil_append]
   repeat' (first|intro _|refine cw ?_|refine cw2 ?_ ?_|refine ow ?_|refine ow2 ?_ ?_|fail)
   refine st_loop (S:=Nat) (fun j=>[(0,.pointer (some ⟨b,0,none⟩)),(1,I s),(6,.bool true),(55,I 256),(56,I j)]) (fun j=>[fB b ad c ⟨bs,er.set s (er[s]+1),wear,.fuse n,torn⟩ h2,.any (slk ad c (fillB bs (s*256) j)),.any (stars H)]) (fun j=>j≤256) (fun j=>256 - j) 0 (Nat.zero_le _) cv (by rw [fillB_zero];exact ent) ?_
   intro j hj
   by_cases hjt:j<256
   ·have hpn:(s:Int)*256+(j:Int)=((s*256+j:Nat):Int):=by omega
    have hBl:(fillB bs (s*256) j).length=3584:=by rw [fillB_len (by omega)];exact hbl
    have hnx:=fillB_next (l:=bs) (a:=s*256) (i:=j) (by omega)
    repeat' (first|intro _|refine cw ?_|refine cw2 ?_ ?_|(refine k_binOp .mul ?_;refine o1_mul rfl rfl (by omega) ?_)|(refine k_binOp .add ?_;(refine o1_add rfl rfl (by omega) ?_;rw [hpn]))|(refine k_load ?_;refine ox_load (b:=b) (i:=0) rfl flC_slice ?_)|(refine k_indexAddr ?_;refine o1_iah (enc:=B) (ad:=ad) (c:=c) (xs:=fillB bs (s*256) j) (s*256+j) rfl rfl rx_fl hBl.symm rfl (by omega) ?_)|(refine k_store ?_;(refine ox_store_flenc (v:=0xff#8) (s*256+j) (ad:=ad) (c:=c) (l:=fillB bs (s*256) j) rfl rfl (by omega) ?_;rw [hnx]))|refine ow ?_|refine ow2 ?_ ?_|fail)
    refine nx_again (j+1) (by omega) (by omega) cv ?_
    exact ent
   ·have:j=256:=by omega
    rw [this]
    repeat' (first|intro _|refine cw ?_|refine cw2 ?_ ?_|refine ow ?_|refine ow2 ?_ ?_|fail)
    refine rt_tmp h2 rfl rfl rfl ⟨by show (er.set s (er[s]+1)).length=14;rw [List.length_set];exact hE,by show (fillB bs (s*256) 256).length=3584;rw [fillB_len (by omega)];exact hbl,hk2.wr,hers,hk2.pw⟩ ?_
    exact ent
theorem fl_Bytes (H:List Hl) (b:Nat) (ad:Option Addr) (c:Nat) (f:Fl) (h:RdFl (stars H) b ad c f) :
  Spec Tryz.prog 45 [.pointer (some ⟨b,0,none⟩)] H (fun _:Option Addr × Nat=>True) (fun r => .slice r.1 3584 r.2) (fun r => .row 5 1 (.slice r.1 3584 r.2) 3584 (f.bs.map B)::H):=by
 refine spec_pure (res:=fun r:Option Addr × Nat=>[.row 5 1 (.slice r.1 3584 r.2) 3584 (f.bs.map B)]) H Tryz.func45 rfl Tryz.ntmps45 (by kernel_rfl) rfl (fun W=>?_)
 have hs:=h.s
 have hl:=h.l
 repeat' (first|intro _|refine cw ?_|refine cw2 ?_ ?_|refine o1_peql rfl rfl ?_|(refine k_load ?_;refine ox_load_any rfl hs ?_)|(refine k_fn 29 ?_;(refine o1_call (fun _=>(slices_Clone _ ad c f.bs h.r.up (by omega)).argE (args':=[.slice ad 3584 c]) (by rw [hl])) rfl (fun ⟨a9,c9⟩ _=>?_);(try dsimp only);rw [hl]))|refine ow ?_|refine ow2 ?_ ?_|fail)
 refine rt_tmp (a9,c9) rfl rfl rfl trivial ?_
 exact ent
def SlotD.same (x y:SlotD):Bool:=decide ((x.v.toNat:Int)=(y.v.toNat:Int)) && (decide (x.n=y.n) && decide (x.h.l=y.h.l))
abbrev RdS (A:Hp→Prop) (h:SlD (BitVec 8)):Prop:=Rs A B h.ad h.cap h.l
structure StD.Rd (A:Hp→Prop) (x:StD):Prop where
 s0:RdS A x.s0.h
 s1:RdS A x.s1.h
 m:RdS A x.m.h
def StD.same (x y:StD):Bool:=decide (x.a=y.a) && (decide (x.t=y.t) && (decide ((x.f.toNat:Int)=(y.f.toNat:Int)) && (decide ((x.g.toNat:Int)=(y.g.toNat:Int)) && ((x.on == y.on) && (x.s0.same y.s0 && (x.s1.same y.s1 && x.m.same y.m))))))
theorem SlotD.same_self (x:SlotD):x.same x=true:=by simp [SlotD.same]
theorem ManD.same_self (x:ManD):x.same x=true:=by simp [ManD.same]
theorem StD.same_self (x:StD):x.same x=true:=by simp [StD.same,SlotD.same_self,ManD.same_self]
def copyS (x:StD) (r0 r1 r2:PA):StD:=⟨x.a,x.t,x.f,x.g,⟨x.s0.v,x.s0.n,⟨r0.1,r0.2,x.s0.h.l⟩⟩,⟨x.s1.v,x.s1.n,⟨r1.1,r1.2,x.s1.h.l⟩⟩,x.on,⟨x.m.s,x.m.v,x.m.n,x.m.z,x.m.p,⟨r2.1,r2.2,x.m.h.l⟩⟩⟩
def dropS (x:StD) (r0 r1:PA):StD:=⟨x.a,x.t,x.f,x.g,⟨x.s0.v,x.s0.n,⟨r0.1,r0.2,x.s0.h.l⟩⟩,⟨x.s1.v,x.s1.n,⟨r1.1,r1.2,x.s1.h.l⟩⟩,false,zM⟩
abbrev rowL (r:PA) (l:List (BitVec 8)):Hl := .row 5 1 (.slice r.1 l.length r.2) l.length (l.map B)
set_option maxHeartbeats 2000000 in
theorem bt_copied (H:List Hl) (x:StD) (hx:x.Rd (stars H)) (hl:x.light) :
  Spec Tryz.prog 100 [x.V] H (fun _:PA × PA × PA=>True) (fun r=>(copyS x r.1 r.2.1 r.2.2).V) (fun r=>rowL r.1 x.s0.h.l::rowL r.2.1 x.s1.h.l::rowL r.2.2 x.m.h.l::H):=by
 refine spec_pure (res:=fun r:PA × PA × PA=>[rowL r.1 x.s0.h.l,rowL r.2.1 x.s1.h.l,rowL r.2.2 x.m.h.l]) H Tryz.func100 rfl Tryz.ntmps100 (by kernel_rfl) rfl (fun W=>?_)
 have e0:=hx.s0
 have e1:=hx.s1
 have e2:=hx.m
 obtain ⟨q0,q1,q2⟩:=hl
 repeat' (first|intro _|refine cw ?_|refine cw2 ?_ ?_|refine ow ?_|refine ow2 ?_ ?_|fail)
 refine st_rounds 2 ?_
 repeat' (first|intro _|refine cw ?_|refine cw2 ?_ ?_|(refine k_indexAddr ?_;first|refine ox_idx_arr 0 4 rfl rfl rfl (by decide) rfl ?_|refine ox_idx_arr 1 7 rfl rfl rfl (by decide) rfl ?_)|(refine k_fn 29 ?_;first|(refine o1_call (fun _=>slices_Clone _ _ _ x.s0.h.l (Rs.up e0) (by omega)) rfl (fun ⟨a5,c5⟩ _=>?_);dsimp only)|(refine o1_call (fun _=>slices_Clone _ _ _ x.s1.h.l (Rs.up e1) (by omega)) rfl (fun ⟨a6,c6⟩ _=>?_);dsimp only)|(refine o1_call (fun _=>slices_Clone _ _ _ x.m.h.l (Rs.up e2) (by omega)) rfl (fun ⟨a7,c7⟩ _=>?_);dsimp only))|refine ow ?_|refine ow2 ?_ ?_|fail)
 refine rt_cell (⟨a5,c5⟩,⟨a6,c6⟩,⟨a7,c7⟩) rfl rfl rfl rfl trivial ?_
 exact ent
set_option maxHeartbeats 2000000 in
theorem bt_Drop (H:List Hl) (x:StD) (hx:x.Rd (stars H)) (hm:x.may=true) :
  Spec Tryz.prog 125 [x.V] H (fun _:PA × PA=>True) (fun r=>(dropS x r.1 r.2).V) (fun r=>rowL r.1 x.s0.h.l::rowL r.2 x.s1.h.l::H):=by
 refine spec_pure (res:=fun r:PA × PA=>[rowL r.1 x.s0.h.l,rowL r.2 x.s1.h.l]) H Tryz.func125 rfl Tryz.ntmps125 (by kernel_rfl) rfl (fun W=>?_)
 have e0:=hx.s0
 have e1:=hx.s1
 have e2:=hx.m
 have hl:x.light:=by
  rcases Classical.em x.light with h|h
  ·exact h
  ·rw [StD.heavy h] at hm;cases hm
 repeat' (first|intro _|refine cw ?_|refine cw2 ?_ ?_|(refine k_fn 97 ?_;refine o1_call (fun _=>(st_May _ x).bv (b:=true) hm) rfl (fun _ _=>?_))|(refine k_fn 100 ?_;(refine o1_call (fun _=>bt_copied _ x ⟨Rs.up e0,Rs.up e1,Rs.up e2⟩ hl) rfl (fun ⟨r0,r1,r2⟩ _=>?_);dsimp only [StD.V,StD.c,copyS]))|refine ow ?_|refine ow2 ?_ ?_|fail)
 refine rt_cell (r0,r1) rfl rfl rfl rfl trivial ?_
 exact ent
end Go.Dp
