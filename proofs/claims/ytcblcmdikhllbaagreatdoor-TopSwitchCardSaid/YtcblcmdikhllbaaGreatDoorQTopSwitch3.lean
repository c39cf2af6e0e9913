/-
  precode.Pieces, walked.
  Pointers in an atomic cell: stored, loaded, seen as what they are.
  MakeNoZero; the builtin copy into a part of a box; a box that holds more than what is read.
  code.Head: pieces, Symbol, New, walked.
  code.Head: Symbol, walked.
  crc: Add, Sum, Put, Right, walked.
  frame: Wrap, Unwrap of what was wrapped, walked.
  slices.Grow, slices.Concat, the words of state and manifest, walked.
  manifest.Plain and Read, and the reference's, walked.
  state.Bytes, walked.
  The reader of state, walked.
  The reader of the reference, walked; readings one behind the other.
  state.Parse, walked.
  Plain and ReadManifest of the reference, walked.
  ParseState of the reference, walked.
  What is written of a state is read as it was, plain.
  Tags, told on lists; mac.masked, mac.Tag, mac.Right, and the reference's Tag, walked.
  The reference's Tag, walked.
  manifest.Bytes and Parse, the reference's, and awake of the laws of manifest, walked.
  code.New; carousel.New, First, Symbol, walked.
  cell: a copy that is whole, walked.
  wheel: word, number, wide, places, at, walked.
  cell: the copy that counts, walked.
  cell: found, Read, walked.
  wheel: a record that is whole, walked.
  Conditions: those that stand in each theorem.
-/
import Derived.Test.YtcblcmdikhllbaaGreatDoorQTopSwitch1
import Derived.Test.YtcblcmdikhllbaaGreatDoorQTopSwitch2
import Derived.Lib.MakeNoZero
import Derived.Test.YtcblcmdikhllbaaGreatDoorQTopSwitch0
set_option linter.unusedVariables false
set_option linter.unusedSimpArgs false
namespace Go.Dp
open Go.RowKit Go.Proofs
def rtP2_0:List Row:=[⟨some 66,[],[],none⟩,⟨some 67,[],[],none⟩,⟨some 68,[0,1],[0,1],none⟩,⟨some 69,[2],[0,1,2],none⟩,⟨some 70,[],[],none⟩,⟨some 71,[],[],none⟩,⟨some 72,[4,5],[4,5],none⟩,⟨some 73,[6],[4,5,6],none⟩,⟨some 74,[3,7],[0,1,2,3,4,5,6,7],none⟩,⟨some 75,[0,1,0,1,2,3,4,5,6,7,8],[0,1,2,3,4,5,6,7,8],none⟩,⟨none,[9,8,0,1,2,3,4,5,6,7,8],[0,1,2,3,4,5,6,7,8,9],none⟩]
theorem clone_B (H:List Hl) (ad:Option Addr) (c:Nat) (l:List (BitVec 8)) (h:Rs (stars H) B ad c l) (hb:l.length≤140737488355328) :
  Spec Tryz.prog 29 [.slice ad l.length c] H (fun _:PA=>True) (fun r:PA => .slice r.1 l.length r.2) (fun r:PA => .row 5 1 (.slice r.1 l.length r.2) l.length (l.map B)::H):=by
 refine spec_pure (res:=fun r:PA=>[.row 5 1 (.slice r.1 l.length r.2) l.length (l.map B)]) H Tryz.func29 rfl Tryz.ntmps29 (by kernel_rfl) rfl (fun W=>?_)
 cases ad with
 | none =>
  have hl:l=[]:=by
   cases l with
   | nil=>rfl
   | cons a l=>obtain ⟨x,hx⟩:=h.sm (by simp);cases hx
  subst hl
  repeat' (first|intro _|refine cw ?_|refine cw2 ?_ ?_|refine ow ?_|refine ow2 ?_ ?_|fail)
  refine (rt_ent (ent_nil 5 B) ?_)
  refine rt_tmp (none,0) rfl rfl rfl trivial ?_
  exact ent
 | some a =>
  repeat' (first|intro _|refine cw ?_|refine cw2 ?_ ?_|(refine k_call ?_;refine ox_append_box (xs:=([]:List (BitVec 8))) rfl rfl rfl rfl (rx_any h) rfl rfl (fun _=>rfl) (by omega) (by have:=h.le;have:=h.big;omega) (fun _ _=>?_))|refine ow ?_|refine ow2 ?_ ?_|fail)
  refine rt_tmp (_,_) rfl rfl (by simp only [Nat.zero_add];rfl) trivial ?_
  simp only [Nat.zero_add,List.nil_append]
  exact ent
def oddB (z:Int) (s:SlD (BitVec 8)):Bool:=decide ((s.l.length:Int)≠z)
theorem pieces_odd (H:List Hl) (b:Nat) (z:Int) (s:SlD (BitVec 8)) (hb:Cl (stars H) ⟨b,3,none⟩ (I z)) :
  Spec Tryz.prog 175 [Bs s,.pointer (some ⟨b,0,none⟩)] H (fun _:Unit=>True) (fun _ => .bool (oddB z s)) (fun _=>H):=by
 refine spec_pure (res:=fun _=>[]) H Tryz.func175 rfl Tryz.ntmps175 (by kernel_rfl) rfl (fun W=>?_)
 repeat' (first|intro _|refine cw ?_|refine cw2 ?_ ?_|(refine k_load ?_;refine ox_load_any rfl hb ?_)|(refine k_binOp .neq ?_;refine o1_neq_d rfl rfl ?_)|refine ow ?_|refine ow2 ?_ ?_|fail)
 refine rt_tmp () rfl rfl rfl trivial ?_
 exact ent
theorem slices_IndexFunc (H:List Hl) (ad:Option Addr) (c b:Nat) (z:Int) (ls:List (SlD (BitVec 8))) (h:Rs (stars H) Bs ad c ls) (hb:Cl (stars H) ⟨b,3,none⟩ (I z)) :
  Spec Tryz.prog 207 [.slice ad ls.length c,.func (.func 175) #[] #[.pointer (some ⟨b,0,none⟩)]] H (fun r:Int=>decide (0≤r)=ls.any (oddB z) ∧ -1≤r∧r≤9223372036854775807) (fun r=>I r) (fun _=>H):=by
 refine spec_pure (res:=fun _:Int=>[]) H Tryz.func207 rfl Tryz.ntmps207 (by kernel_rfl) rfl (fun W=>?_)
 have hle:=h.le
 have hbg:=h.big
 repeat' (first|intro _|refine cw ?_|refine cw2 ?_ ?_|refine ow ?_|refine ow2 ?_ ?_|fail)
 refine st_loop (S:=Nat) (fun i=>[(0,.slice ad ls.length c),(1,.func (.func 175) #[] #[.pointer (some ⟨b,0,none⟩)]),(7,I ls.length),(8,I i)]) (fun i=>[.any (stars H)]) (fun i=>i≤ls.length∧(ls.take i).any (oddB z)=false) (fun i=>ls.length - i) 0 ⟨Nat.zero_le _,rfl⟩
  cv (Ent.refl _) ?_
 rintro i ⟨hi,hno⟩
 by_cases hlt:i<ls.length
 ·cases ho:oddB z ls[i]
  ·repeat' (first|intro _|refine cw ?_|refine cw2 ?_ ?_|(refine k_indexAddr ?_;refine o1_ia i rfl rfl h rfl rfl hlt ?_)|(refine k_load ?_;refine o1_load_ia i rfl h hlt ?_)|refine o1_kall (f:=175) (args:=[Bs ls[i]]) (caps:=[.pointer (some ⟨b,0,none⟩)]) rfl (fun _=>(pieces_odd _ b z ls[i] (cl_up hb)).bv (b:=false) ho) rfl (fun _ _=>?_)|refine ow ?_|refine ow2 ?_ ?_|fail)
   refine nx_again (i+1) ⟨by omega,?_⟩ (by omega) cv (Ent.refl _)
   rw [List.take_succ_eq_append_getElem hlt,List.any_append,hno]
   simp [ho]
  ·repeat' (first|intro _|refine cw ?_|refine cw2 ?_ ?_|(refine k_indexAddr ?_;refine o1_ia i rfl rfl h rfl rfl hlt ?_)|(refine k_load ?_;refine o1_load_ia i rfl h hlt ?_)|refine o1_kall (f:=175) (args:=[Bs ls[i]]) (caps:=[.pointer (some ⟨b,0,none⟩)]) rfl (fun _=>(pieces_odd _ b z ls[i] (cl_up hb)).bv (b:=true) ho) rfl (fun _ _=>?_)|refine ow ?_|refine ow2 ?_ ?_|fail)
   refine rt_tmp (i:Int) rfl rfl rfl ⟨?_,by omega,by omega⟩ (Ent.refl _)
   have h1:ls.any (oddB z)=true:=List.any_eq_true.2 ⟨ls[i],List.getElem_mem _,ho⟩
   rw [h1];simp
 ·have:i=ls.length:=by omega
  subst this
  repeat' (first|intro _|refine cw ?_|refine cw2 ?_ ?_|refine ow ?_|refine ow2 ?_ ?_|fail)
  refine rt_tmp (-1:Int) rfl rfl rfl ⟨?_,by omega,by omega⟩ (Ent.refl _)
  rw [List.take_length] at hno
  rw [hno];rfl
theorem slices_ContainsFunc (H:List Hl) (ad:Option Addr) (c b:Nat) (z:Int) (ls:List (SlD (BitVec 8))) (h:Rs (stars H) Bs ad c ls) (hb:Cl (stars H) ⟨b,3,none⟩ (I z)) :
  Spec Tryz.prog 174 [.slice ad ls.length c,.func (.func 175) #[] #[.pointer (some ⟨b,0,none⟩)]] H (fun _:Unit=>True) (fun _ => .bool (ls.any (oddB z))) (fun _=>H):=by
 refine spec_pure (res:=fun _=>[]) H Tryz.func174 rfl Tryz.ntmps174 (by kernel_rfl) rfl (fun W=>?_)
 repeat' (first|intro _|refine cw ?_|refine cw2 ?_ ?_|(refine k_fn 207 ?_;refine o1_call (fun _=>slices_IndexFunc _ ad c b z ls h.up (cl_up hb)) rfl (fun r hr=>?_))|(refine k_binOp .geq ?_;refine o1_geq_d rfl rfl ?_)|refine ow ?_|refine ow2 ?_ ?_|fail)
 refine rt_tmp () rfl rfl (by rw [←hr.1]) trivial ?_
 exact ent
def okP (K:Int) (z:Int) (ls:List (SlD (BitVec 8))):Bool:=decide ((ls.length:Int)=K) && !ls.any (oddB z)
theorem okP_z {K z:Nat} {ls:List (SlD (BitVec 8))} (h:okP K z ls=true):ls.length=K∧ls.any (oddB z)=false∧∀ s∈ls,s.l.length=z:=by
 simp only [okP,Bool.and_eq_true,decide_eq_true_eq,Bool.not_eq_true'] at h
 refine ⟨by omega,h.2,fun s hs=>?_⟩
 have:=List.any_eq_false.1 h.2 s hs
 simp [oddB] at this
 omega
def sumT (f:Nat→Bool) (L:List (List (BitVec 8))) (z i:Nat):List (BitVec 8):=(List.range z).map (fun k=>xsum (fun m=>pickB (f m) (at8 L m k)) i)
theorem sumT_len (f:Nat→Bool) (L:List (List (BitVec 8))) (z i:Nat):(sumT f L z i).length=z:=by simp [sumT]
theorem sumT_zero (f:Nat→Bool) (L:List (List (BitVec 8))) (z:Nat):sumT f L z 0=List.replicate z 0#8:=by
 simp only [sumT,xsum]
 apply List.ext_getElem <;> simp
theorem sumT_all (f:Nat→Bool) (L:List (List (BitVec 8))) (z:Nat):sumT f L z L.length=parS f L z:=rfl
theorem sumT_off {f:Nat→Bool} {L:List (List (BitVec 8))} {z i:Nat} (h:f i=false):sumT f L z (i+1)=sumT f L z i:=by
 simp only [sumT,xsum,h,pickB]
 simp
theorem sumT_get (f:Nat→Bool) (L:List (List (BitVec 8))) (z i k:Nat) (h:k<(sumT f L z i).length):(sumT f L z i)[k]=xsum (fun m=>pickB (f m) (at8 L m k)) i:=by simp [sumT]
theorem sumT_on {f:Nat→Bool} {L:List (List (BitVec 8))} {z i k:Nat} (h:f i=true) (hk:k<z) (hi:i<L.length) (hz:k<L[i].length):(sumT f L z (i+1))[k]'(by rw [sumT_len];exact hk)=(sumT f L z i)[k]'(by rw [sumT_len];exact hk) ^^^ L[i][k]:=by
 rw [sumT_get,sumT_get,xsum]
 congr 1
 simp [pickB,h,at8,List.getD_eq_getElem?_getD,hi,hz]
def allP (s:BitVec 32) (K P z:Nat) (L:List (List (BitVec 8))):List (List (BitVec 8)):=L++(List.range P).map (fun j=>parS (parR s K j) L z)
theorem xsum_row {s:BitVec 32} {K P j i:Nat} {v:VD} (hv:v.l=rowR s (K+P) K j) (hi:i<K):at_ v.l i=parR s K j i:=by
 rw [hv];exact rowR_at _ _ _ _ _ (by omega)
set_option maxHeartbeats 4000000 in
theorem precode_Pieces (H:List Hl) (s:BitVec 32) (K P z:Nat) (ad:Option Addr) (c:Nat) (ls:List (SlD (BitVec 8))) (h:Rs (stars H) Bs ad c ls) (hs:∀ s∈ls,Rs (stars H) B s.ad s.cap s.l) (hm:mayP K P z=true) (hok:okP K z ls=true) :
  Spec Tryz.prog 133 [parV s K P z,.slice ad ls.length c] H (fun r:Option Addr × Nat × List (SlD (BitVec 8))=>r.2.2.map (·.l)=allP s K P z (ls.map (·.l))) (fun r => .slice r.1 r.2.2.length r.2.1)
   (fun r => .row 22 1 (.slice r.1 r.2.2.length r.2.1) r.2.2.length (r.2.2.map Bs) :: .any (pcs 5 r.2.2)::H):=by
 refine spec_pure (res:=fun r:Option Addr × Nat × List (SlD (BitVec 8))=>[.row 22 1 (.slice r.1 r.2.2.length r.2.1) r.2.2.length (r.2.2.map Bs),.any (pcs 5 r.2.2)]) H Tryz.func133 rfl Tryz.ntmps133 (by kernel_rfl) rfl (fun W=>?_)
 obtain ⟨hlK,hno,hz⟩:=okP_z hok
 have hb:1≤(K:Int)∧(K:Int)≤64∧0≤(P:Int)∧(P:Int)≤16∧1≤(z:Int)∧(z:Int)≤16:=by simpa [mayP] using hm
 obtain ⟨b1,b2,b3,b4,b5,b6⟩:=hb
 repeat' (first|intro _|refine cw ?_|refine cw2 ?_ ?_|(refine k_box ?_;refine o1_box rfl rfl (fun bp=>?_))|(refine k_fn 106 ?_;refine o1_call (fun _=>(spread_May _ _ _ _ _).bv (b:=true) hm) rfl (fun _ _=>?_))|(refine k_binOp .neq ?_;refine o1_neq_f rfl rfl (by omega) ?_)|refine o1_func rfl ?_|(refine k_fn 174 ?_;refine o1_call (fun _=>(slices_ContainsFunc _ ad c bp z ls h.up (cl_box rfl)).bv (b:=false) hno) rfl (fun _ _=>?_))|refine ow ?_|refine ow2 ?_ ?_|fail)
 refine st_ent (ent_nil 22 Bs) (st_ent (fun h hh=>sel_swap h (pcs_nil (T:=5) h hh)) ?_)
 refine st_loop (S:=Nat × Option Addr × Nat × List (SlD (BitVec 8))) (fun q=>[(1,.slice ad ls.length c),(2,.pointer (some ⟨bp,0,none⟩)),(5,.slice q.2.1 q.2.2.2.length q.2.2.1),(29,.slice ad ls.length c),(30,I ls.length),(31,I q.1)])
  (fun q=>[.row 22 1 (.slice q.2.1 q.2.2.2.length q.2.2.1) q.2.2.2.length (q.2.2.2.map Bs),.any (pcs 5 q.2.2.2),.box bp 91 [W4 s,I K,I P,I z],.any (stars H)])
  (fun q=>q.1≤ls.length∧q.2.2.2.map (·.l)=(ls.map (·.l)).take q.1) (fun q=>ls.length - q.1) (0,none,0,[]) ⟨by omega,rfl⟩
  cv ent ?_
 rintro ⟨i,a1,c1,out⟩ ⟨hi,hout⟩
 dsimp only at hi hout ⊢
 have hol:out.length=i:=by have:=congrArg List.length hout;simp at this;omega
 by_cases hlt:i<ls.length
 ·have hsi:=hs ls[i] (List.getElem_mem _)
  have hzi:=hz ls[i] (List.getElem_mem _)
  obtain ⟨si,hsi0⟩:∃ si,ls[i]=si:=⟨_,rfl⟩
  rw [hsi0] at hsi hzi
  repeat' (first|intro _|refine cw ?_|refine cw2 ?_ ?_|(refine k_indexAddr ?_;refine o1_ia i rfl rfl h rfl rfl hlt ?_)|(refine k_load ?_;(refine o1_load_ia i rfl h hlt ?_;rw [hsi0]))|(refine k_fn 29 ?_;refine o1_call (fun _=>clone_B _ _ _ si.l (Rs.up hsi) (by omega)) rfl (fun ⟨a5,c5⟩ _=>?_))|(refine k_buildSlice ?_;refine o1_lit_enc Bs [(⟨a5,c5,si.l⟩:SlD (BitVec 8))] rfl rfl rfl (fun _=>rfl) rfl rfl rfl (fun _=>?_))|(refine k_call ?_;refine ox_append (xs:=out) (ys:=[(⟨a5,c5,si.l⟩:SlD (BitVec 8))]) rfl rfl (rx_box rfl (by decide)) rfl rfl (fun _=>rfl) (by omega) (by omega) (fun a9 c9=>?_))|refine ow ?_|refine ow2 ?_ ?_|fail)
  obtain ⟨u,hu⟩:∃ u:SlD (BitVec 8),u=⟨a5,c5,si.l⟩:=⟨_,rfl⟩
  refine nx_push (T:=5) (ls:=out) (s:=u) (R:=[.row 22 1 (.slice a9 (out.length+1) c9) (out.length+1) ((out++[u]).map Bs),.box bp 91 [W4 s,I K,I P,I z],.any (stars H)]) (by rw [hu];exact ent) ?_
  refine nx_again (i+1,a9,c9,out++[u]) ⟨?_,?_⟩ ?_ (cov_cons rfl rfl (cov_cons rfl rfl (cov_cons rfl ?_ cv))) ?_
  ·show i+1≤ls.length;omega
  ·show (out++[u]).map (·.l)=_
   rw [List.map_append,hout,List.take_succ_eq_append_getElem (by rw [List.length_map];exact hlt),hu]
   simp [hsi0]
  ·show ls.length - (i+1)<ls.length - i;omega
  ·show Value.slice a9 _ c9=Value.slice a9 (out++[u]).length c9
   rw [List.length_append];rfl
  ·show Ent _ [.row 22 1 (.slice a9 (out++[u]).length c9) (out++[u]).length ((out++[u]).map Bs),.any (pcs 5 (out++[u])),.box bp 91 [W4 s,I K,I P,I z],.any (stars H)]
   rw [List.length_append,List.length_singleton]
   exact ent
 ·have:i=ls.length:=by omega
  subst this
  clear hlt
  repeat' (first|intro _|refine cw ?_|refine cw2 ?_ ?_|(refine k_fn 176 ?_;refine o1_call (fun _=>precode_Rows _ s K P z hm) rfl (fun ⟨ar,cr,vs⟩ hr=>?_))|refine ow ?_|refine ow2 ?_ ?_|fail)
  obtain ⟨hvs,hvk⟩:=hr
  dsimp only at hvs hvk ⊢
  have hvl:vs.length=P:=by have:=congrArg List.length hvs;simpa [rowsL] using this
  obtain ⟨L,hL⟩:∃ L,ls.map (·.l)=L:=⟨_,rfl⟩
  have hLl:L.length=K:=by rw [←hL,List.length_map,hlK]
  rw [hL] at hout
  refine st_loop (S:=Nat × Option Addr × Nat × List (SlD (BitVec 8))) (fun q=>[(1,.slice ad ls.length c),(2,.pointer (some ⟨bp,0,none⟩)),(5,.slice q.2.1 q.2.2.2.length q.2.2.1),(42,.slice ar vs.length cr),(43,I vs.length),(44,I q.1)])
   (fun q=>[.row 22 1 (.slice q.2.1 q.2.2.2.length q.2.2.1) q.2.2.2.length (q.2.2.2.map Bs),.any (pcs 5 q.2.2.2),.row 148 1 (.slice ar vs.length cr) vs.length (vs.map Pv),.any (vecs vs),.box bp 91 [W4 s,I K,I P,I z],.any (stars H)])
   (fun q=>q.1≤vs.length∧q.2.2.2.map (·.l)=L++(List.range q.1).map (fun j=>parS (parR s K j) L z)) (fun q=>vs.length - q.1) (0,a1,c1,out) ⟨by omega,by rw [hout,List.take_of_length_le (by omega)];simp⟩
   cv ent ?_
  clear hout hol
  rintro ⟨j,a2,c2,out2⟩ ⟨hj,hout2⟩
  dsimp only at hj hout2 ⊢
  have hol2:out2.length=K+j:=by have:=congrArg List.length hout2;simp at this;omega
  by_cases hjt:j<vs.length
  ·have hvj:vs[j].l=rowR s (K+P) K j:=by
    have:(vs.map (·.l))[j]'(by simpa using hjt)=(rowsL s K P)[j]'(by rw [←hvs];simpa using hjt):=by simp only [hvs]
    simpa [rowsL] using this
   have hvo:=(hvk vs[j] (List.getElem_mem _)).1
   obtain ⟨f,hf⟩:∃ f,parR s K j=f:=⟨_,rfl⟩
   repeat' (first|intro _|refine cw ?_|refine cw2 ?_ ?_|(refine k_indexAddr ?_;refine o1_iah (enc:=Pv) (c:=cr) (xs:=vs) j rfl rfl rx_row rfl rfl hjt ?_)|(refine k_load ?_;refine o1_load_iah (enc:=Pv) (c:=cr) (xs:=vs) j rfl rx_row hjt ?_)|(refine k_makeSlice ?_;refine o1_maker (enc:=B) 0#8 z rfl rfl rfl rfl rfl (by omega) (by omega) (fun b10=>?_))|refine ow ?_|refine ow2 ?_ ?_|fail)
   rw [←sumT_zero f L z]
   refine st_loop (S:=Nat) (fun i=>[(1,.slice ad ls.length c),(2,.pointer (some ⟨bp,0,none⟩)),(5,.slice a2 out2.length c2),(9,Pv vs[j]),(10,.slice (some ⟨b10,0,none⟩) z z),(42,.slice ar vs.length cr),(43,I vs.length),(44,I j),(51,.slice ad ls.length c),(52,I ls.length),(53,I i)])
    (fun i=>[.box b10 5 ((sumT f L z i).map B),.row 22 1 (.slice a2 out2.length c2) out2.length (out2.map Bs),.any (pcs 5 out2),.row 148 1 (.slice ar vs.length cr) vs.length (vs.map Pv),.any (vecs vs),.box bp 91 [W4 s,I K,I P,I z],.any (stars H)])
    (fun i=>i≤ls.length) (fun i=>ls.length - i) 0 (Nat.zero_le _)
    cv ent ?_
   intro i hi
   by_cases hit:i<ls.length
   ·have hsi:=hs ls[i] (List.getElem_mem _)
    have hzi:=hz ls[i] (List.getElem_mem _)
    have hfi:hasV vs[j].l i=f i:=by rw [hasV_nat,xsum_row hvj (by omega),hf]
    have hLi:L[i]'(by omega)=ls[i].l:=by subst hL;simp
    obtain ⟨S0,hS0⟩:∃ S0,sumT f L z i=S0:=⟨_,rfl⟩
    obtain ⟨S1,hS1⟩:∃ S1,sumT f L z (i+1)=S1:=⟨_,rfl⟩
    have hS0l:S0.length=z:=by rw [←hS0,sumT_len]
    have hS1l:S1.length=z:=by rw [←hS1,sumT_len]
    have hSl:S1.length=S0.length:=by omega
    rw [hS0]
    repeat' (first|intro _|refine cw ?_|refine cw2 ?_ ?_|(refine k_indexAddr ?_;refine o1_ia i rfl rfl h rfl rfl hit ?_)|(refine k_load ?_;refine o1_load_ia i rfl h hit ?_)|refine ow ?_|refine ow2 ?_ ?_|fail)
    refine st_loop (S:=Nat) (fun k=>[(1,.slice ad ls.length c),(2,.pointer (some ⟨bp,0,none⟩)),(5,.slice a2 out2.length c2),(9,Pv vs[j]),(10,.slice (some ⟨b10,0,none⟩) z z),(11,I i),(12,Bs ls[i]),(42,.slice ar vs.length cr),(43,I vs.length),(44,I j),(51,.slice ad ls.length c),(52,I ls.length),(53,I i),(59,I ls[i].l.length),(60,I k)])
     (fun k=>[.box b10 5 ((partL S1 S0 k).map B),.row 22 1 (.slice a2 out2.length c2) out2.length (out2.map Bs),.any (pcs 5 out2),.row 148 1 (.slice ar vs.length cr) vs.length (vs.map Pv),.any (vecs vs),.box bp 91 [W4 s,I K,I P,I z],.any (stars H)])
     (fun k=>k≤z) (fun k=>z - k) 0 (Nat.zero_le _)
     cv (by show Ent _ (.box b10 5 ((partL S1 S0 0).map B)::_);rw [partL_zero];exact ent) ?_
    intro k hk
    by_cases hkz:k<z
    ·have hql:=partL_len hSl k
     have hka:k<(partL S1 S0 k).length:=by omega
     have hpk:(partL S1 S0 k)[k]=S0[k]'(by omega):=partL_at hSl (Nat.le_refl k) _
     have hset:(partL S1 S0 k).set k (S1[k]'(by omega))=partL S1 S0 (k+1):=partL_succ hSl (by omega)
     cases hon:f i
     ·have e1:S1=S0:=by rw [←hS1,←hS0,sumT_off hon]
      have e2:partL S1 S0 (k+1)=partL S1 S0 k:=by subst e1;simp [partL]
      repeat' (first|intro _|refine cw ?_|refine cw2 ?_ ?_|(refine k_fn 143 ?_;refine o1_call (fun hh=>(vec_Has _ vs[j] i (vecs_read (vs:=vs) (List.getElem_mem _) hvo hh)).bv (b:=false) (by rw [hfi,hon])) rfl (fun _ _=>?_))|refine ow ?_|refine ow2 ?_ ?_|fail)
      refine nx_again (k+1) (by omega) (by omega) cv ?_
      rw [e2]
      exact ent
     ·have e1:S0[k]'(by omega) ^^^ ls[i].l[k]'(by omega)=S1[k]'(by omega):=by
       subst hS0 hS1
       rw [sumT_on hon hkz (by omega) (by rw [hLi];omega)]
       simp only [hLi]
      have hkl:k<ls[i].l.length:=by omega
      repeat' (first|intro _|refine cw ?_|refine cw2 ?_ ?_|(refine k_fn 143 ?_;refine o1_call (fun hh=>(vec_Has _ vs[j] i (vecs_read (vs:=vs) (List.getElem_mem _) hvo hh)).bv (b:=true) (by rw [hfi,hon])) rfl (fun _ _=>?_))|refine ow ?_|refine ow2 ?_ ?_|fail)
      refine st_stages' [(10,_),(13,_),(12,_)] rtP2_0 [10] [⟨[0,1,2,3,4,5,6,7,8,9],[],some 10⟩,⟨[],[],none⟩] mixed cv (by kernel_rfl) (by kernel_rfl) ?_
      repeat' (first|intro _|refine sg ?_|(refine p_indexAddr ?_;refine po (by first|refine o1_own k rfl rfl rfl (by omega) fz|refine o1_ia k rfl rfl hsi rfl rfl hkl fz|fail) ?_)|(refine p_load ?_;refine po (by first|((refine ox_load_enc (enc:=B) (l:=partL S1 S0 k) rfl hka ?_;rw [hpk]);all_goals exact fz)|refine o1_load_ia k rfl hsi hkl fz|fail) ?_)|(refine p_binOp .xor ?_;refine po (by first|((refine o1_uxor rfl rfl ?_;rw [e1]);all_goals exact fz)|fail) ?_)|refine pw ?_|refine pdd ?_|(refine k_store ?_;(refine ox_store_enc B (l:=partL S1 S0 k) rfl rfl hka rfl ?_;rw [hset]))|refine ow ?_|fail)
      all_goals dsimp only [List.cons_append,List.nil_append]
      repeat' (first|intro _|refine cw ?_|refine cw2 ?_ ?_|refine ow ?_|refine ow2 ?_ ?_|fail)
      refine nx_again (k+1) (by omega) (by omega) cv ?_
      exact ent
    ·have:k=z:=by omega
     subst this
     rw [partL_full hSl hS0l.symm]
     repeat' (first|intro _|refine cw ?_|refine cw2 ?_ ?_|refine ow ?_|refine ow2 ?_ ?_|fail)
     refine nx_again (i+1) (by omega) (by omega) cv ?_
     rw [hS1]
     exact ent
   ·have:i=L.length:=by omega
    subst this
    have hpl:=parS_len f L z
    rw [sumT_all]
    obtain ⟨u,hu⟩:∃ u:SlD (BitVec 8),u=⟨some ⟨b10,0,none⟩,z,parS f L z⟩:=⟨_,rfl⟩
    have hul:u.l=parS f L z:=by rw [hu]
    have hBu:Bs u = .slice (some ⟨b10,0,none⟩) z z:=by rw [hu];show Value.slice _ _ _=_;rw [hpl]
    repeat' (first|intro _|refine cw ?_|refine cw2 ?_ ?_|(refine k_buildSlice ?_;refine o1_lit_enc Bs [u] rfl rfl (by show _=[Bs u];rw [hBu];rfl) (fun _=>rfl) rfl rfl rfl (fun _=>?_))|(refine k_call ?_;refine ox_append (xs:=out2) (ys:=[u]) rfl rfl (rx_box rfl (by decide)) rfl rfl (fun _=>rfl) (by omega) (by omega) (fun a9 c9=>?_))|refine ow ?_|refine ow2 ?_ ?_|fail)
    refine nx_row (T:=5) (b:=b10) (m:=z) (cp:=z) (cs:=(parS f L z).map B) (by rw [List.length_map,hpl]) rfl (by omega) ?_
    refine nx_push (T:=5) (ls:=out2) (s:=u) (R:=[.row 22 1 (.slice a9 (out2.length+1) c9) (out2.length+1) ((out2++[u]).map Bs),.row 148 1 (.slice ar vs.length cr) vs.length (vs.map Pv),.any (vecs vs),.box bp 91 [W4 s,I K,I P,I z],.any (stars H)]) (by rw [hBu,hul,hpl];exact ent) ?_
    refine nx_again (j+1,a9,c9,out2++[u]) ⟨?_,?_⟩ ?_ (cov_cons rfl rfl (cov_cons rfl rfl (cov_cons rfl ?_ cv))) ?_
    ·show j+1≤vs.length;omega
    ·show (out2++[u]).map (·.l)=_
     rw [List.map_append,hout2,List.range_succ,List.map_append]
     simp [hul,hf]
    ·show vs.length - (j+1)<vs.length - j;omega
    ·show Value.slice a9 _ c9=Value.slice a9 (out2++[u]).length c9
     rw [List.length_append];rfl
    ·show Ent _ [.row 22 1 (.slice a9 (out2++[u]).length c9) (out2++[u]).length ((out2++[u]).map Bs),.any (pcs 5 (out2++[u])),.row 148 1 (.slice ar vs.length cr) vs.length (vs.map Pv),.any (vecs vs),.box bp 91 [W4 s,I K,I P,I z],.any (stars H)]
     rw [List.length_append,List.length_singleton]
     exact ent
  ·have:j=vs.length:=by omega
   subst this
   repeat' (first|intro _|refine cw ?_|refine cw2 ?_ ?_|refine ow ?_|refine ow2 ?_ ?_|fail)
   refine rt_tmp (a2,c2,out2) rfl rfl rfl ?_ ?_
   ·show out2.map (·.l)=_
    rw [hout2,hvl,allP,hL]
   exact ent
end Go.Dp
namespace Go.Dp
open Go.RowKit
theorem run_from_unsafe {P:Program} {src dst u:TypeId} (hs:P.underlying src=some .unsafePointer) (hd:P.underlying dst=some (.pointer u)) {a:Addr} {e:TypeId} {m:Nat} {w:World} {i:TypeInfo} (hi:P.info? u=some i) (hsh:w.shape? a.block=some (e,m)) (hl:liesAt P P.depth e (m / P.cellsOf e) a.off u 1=true):(convert src dst (.pointer (some a))).run P w = .ok (.pointer (some a)) w:=by
 simp [convert,run_underlying hs,run_underlying hd,Conv.unsafePointer,Conv.seenAt,viewAt,hsh,variablesAt,hl,sizeOf,typeInfo,hi]
theorem run_call_loadp {P:Program} {f:FuncId} {fn:Func} (hf:P.funcs[f]?=some fn) (hname:(fn.name == "runtime.NumGoroutine")=false) (hb:fn.body.isNone=true) (hn:Extern.findNext fn=none)
  (he:Extern.find fn=some (Extern.Atomic.loadT .ptr)) {a:Addr} {x:Option Addr} {w:World} (hc:w.cell? a=some (.pointer x)) :
  (callFunc f #[.pointer (some a)]).run P w = .ok (.value (.pointer x)) w:=by
 rw [run_callFunc_extern hf hname hb hn he]
 change (Sem.run P (do Extern.Atomic.read .ptr (← asAddr (.pointer (some a)))) w).andThen _=_
 simp [Extern.Atomic.read,asAddr,hc,Result.andThen]
theorem run_call_storep {P:Program} {f:FuncId} {fn:Func} (hf:P.funcs[f]?=some fn) (hname:(fn.name == "runtime.NumGoroutine")=false) (hb:fn.body.isNone=true) (hn:Extern.findNext fn=none)
  (he:Extern.find fn=some Extern.Atomic.storeT) {a:Addr} {y:Option Addr} {u:Value} {w:World} (hc:w.cell? a=some u) (hz:w.frozen? a=false) :
  (callFunc f #[.pointer (some a),.pointer y]).run P w = .ok (.value (.tuple #[])) (w.setCell a (.pointer y)):=by
 rw [run_callFunc_extern hf hname hb hn he]
 change (Sem.run P (do
  store (← asAddr (.pointer (some a))) (.pointer y) .atomic
  pure Extern.Atomic.none_) w).andThen _=_
 simp [asAddr,hc,hz,run_store P w a (.pointer y) .atomic rfl,Result.andThen,Extern.Atomic.none_]
section
variable {P:Program} {n:Nat} {H:List Hl} {e:Ev} {C:Value→List Hl→Prop} {ty:TypeId}
variable {f:FuncId} {xs:List Operand} {ats:Array TypeId} {b i:Nat} {T:TypeId} {cs:List Value} {H':List Hl} {y:Option Addr}
theorem o1_xloadp (x:XFn P f (Extern.Atomic.loadT .ptr)) (hxs:opds e xs=some [.pointer (some ⟨b,i,none⟩)]) [s:SBox H b T cs H'] (hv:cs[i]?=some (.pointer y)) (h:C (.pointer y) H):O1 P (.call ⟨.value (.func f),xs.toArray,ats⟩) ty n e H C :=
 o1_xval _ hxs (fun a w ho=>by
  obtain ⟨fn,h1,h2,h3,h4,h5⟩:=x.of
  have hc:=ho.sat.cell s.s i
  rw [hv] at hc
  exact run_call_loadp h1 h2 h3 h4 h5 hc) h
theorem o1_xstorep (x:XFn P f Extern.Atomic.storeT) (hxs:opds e xs=some [.pointer (some ⟨b,i,none⟩),.pointer y]) [s:SBox H b T cs H'] (hi:i<cs.length) (h:C (.tuple #[]) (.box b T (cs.set i (.pointer y))::H')):O1 P (.call ⟨.value (.func f),xs.toArray,ats⟩) ty n e H C :=
 o1_xput hxs hi (fun a w ho hc hz=>by
  obtain ⟨fn,h1,h2,h3,h4,h5⟩:=x.of
  exact run_call_storep h1 h2 h3 h4 h5 hc hz) h
theorem o1_to_unsafe {src dst u:TypeId} {x:Operand} (hs:P.underlying src=some (.pointer u)) (hd:P.underlying dst=some .unsafePointer) (hsz:(P.info? u).map (fun i=>decide (i.size=0))=some false) {v:Value} (hx:opd e x=some (.pointer (some ⟨b,i,none⟩))) [s:SBox H b T cs H'] (hv:cs[i]?=some v) (h:C (.pointer (some ⟨b,i,none⟩)) H):O1 P (.convert src dst x) ty n e H C :=
 o1_val _ (fun a w ho=>by
  have hc:=ho.sat.cell s.s i
  rw [hv] at hc
  simp [execOp,ho.ev.eval hx,run_convert_to_unsafe hs hd hsz hc]) h
theorem shape_box {w:World} {T:TypeId} (h:w.heap[b]?=some (.cells cs.toArray T (0,0))):w.shape? b=some (T,cs.length):=by
 simp [World.shape?,h]
theorem o1_from_unsafe {src dst u:TypeId} {x:Operand} (hs:P.underlying src=some .unsafePointer) (hd:P.underlying dst=some (.pointer u)) (hi:(P.info? u).isSome=true) (hx:opd e x=some (.pointer (some ⟨b,0,none⟩))) [s:SBox H b T cs H'] (hl:liesAt P P.depth T (cs.length / P.cellsOf T) 0 u 1=true) (h:C (.pointer (some ⟨b,0,none⟩)) H):O1 P (.convert src dst x) ty n e H C :=
 o1_val _ (fun a w ho=>by
  obtain ⟨inf,hinf⟩:=Option.isSome_iff_exists.1 hi
  have hsh:=shape_box (ho.sat.cells s.s)
  simp [execOp,ho.ev.eval hx,run_from_unsafe hs hd hinf (a:=⟨b,0,none⟩) hsh hl]) h
end
theorem digits_B:∀ (n t:Nat) (acc:Array Value),∃ ys:List (BitVec 8),ys.length=n∧(Extern.BytealgMakeNoZero.digits n t acc).toList=acc.toList++ys.map B
 | 0,_,acc=>⟨[],rfl,by simp [Extern.BytealgMakeNoZero.digits]⟩
 | n+1,t,acc=>by
  obtain ⟨ys,h1,h2⟩:=digits_B n (t / 256) (acc.push (.int .u8 (Int.ofNat (t % 256))))
  refine ⟨BitVec.ofNat 8 t::ys,by simp [h1],?_⟩
  rw [Extern.BytealgMakeNoZero.digits,h2]
  simp only [Array.toList_push,List.append_assoc,List.singleton_append,List.map_cons]
  congr 3
theorem run_mkz {P:Program} (w:World) (ps:Array TypeId) (t e:TypeId) (ht:P.underlying t=some (.slice e)) (n:Nat) (hn:n≤281474976710656) :
  ∃ ys:List (BitVec 8),(Extern.BytealgMakeNoZero.makeNoZero ps #[t] #[.int .i64 n]).run P w = .ok (.slice (some ⟨w.heap.size,0,none⟩) n ys.length) (w.drew.drew.alloc (.cells (ys.map B).toArray e))∧n≤ys.length∧ys.length≤9223372036854775807:=by
 have hdef:Extern.BytealgMakeNoZero.makeNoZero ps #[t] #[.int .i64 n] =
   (do
    let .slice elem ← underlying t|stuck "bytealg.MakeNoZero: slice type expected"
    if (n:Int)<0 || (n:Int) > 2 ^ 48 then runtimePanic (.error "makeslice: len out of range")
    let cap ← choose (.appendCap (n:Int).toNat 0 elem)
    askRoom cap
    let bytes ← choose (.extern "internal/bytealg.MakeNoZero.bytes" 0)
    let a ← newRow elem (Extern.BytealgMakeNoZero.digits cap bytes #[])
    pure (.slice (some a) (n:Int).toNat cap)):=rfl
 obtain ⟨ys,h1,h2⟩:=digits_B (grownCap w n 0 e) ((Question.extern "internal/bytealg.MakeNoZero.bytes" 0).cut (w.tape (w.drawn+1) (.extern "internal/bytealg.MakeNoZero.bytes" 0))) #[]
 refine ⟨ys,?_,?_,?_⟩
 ·have he:(ys.map B).toArray=Extern.BytealgMakeNoZero.digits (grownCap w n 0 e) ((Question.extern "internal/bytealg.MakeNoZero.bytes" 0).cut (w.tape (w.drawn+1) (.extern "internal/bytealg.MakeNoZero.bytes" 0))) #[]:=by
   apply Array.toList_inj.1
   simp only [List.nil_append] at h2
   rw [h2]
  rw [hdef,he,h1]
  have h3 : ¬ (n:Int)<0:=by omega
  have h4 : ¬ (281474976710656:Int)<(n:Int):=by omega
  simp [run_underlying ht,h3,h4,Question.forced,newRow,grownCap]
 ·rw [h1]
  exact grownCap_ge w n 0 e
 ·rw [h1]
  exact grownCap_le_maxLen w n 0 e (by show n≤9223372036854775807;omega)
section
variable {P:Program} {n:Nat} {H:List Hl} {e:Ev} {C:Value→List Hl→Prop} {ty:TypeId} {x y:Operand}
theorem o1_mkz {f:FuncId} {xs:List Operand} {ats:Array TypeId} {ps:Array TypeId} {t E:TypeId} {k:Nat} (xf:XFn P f (Extern.BytealgMakeNoZero.makeNoZero ps #[t])) [ht:TSl P t E] (hk:k≤281474976710656) (hxs:opds e xs=some [.int .i64 k])
  (h:∀ b (zs:List (BitVec 8)),k≤zs.length→zs.length≤9223372036854775807→C (.slice (some ⟨b,0,none⟩) k zs.length) (.box b E (zs.map B)::H)):O1 P (.call ⟨.value (.func f),xs.toArray,ats⟩) ty n e H C :=
 o1_step fun a w ho=>by
  obtain ⟨fn,h1,h2,h3,h4,h5⟩:=xf.of
  obtain ⟨ys,hr,hl,hm⟩:=run_mkz (P:=P) w ps t E ht.u k hk
  have hargs:=ho.ev.evals hxs
  exact ⟨_,w.drew.drew.alloc (.cells (ys.map B).toArray E),by simp [execOp,resolve,invoke,Deferred.ofValue,Act.eval,hargs,run_callFunc_extern h1 h2 h3 h4 h5,hr,Result.andThen],_,h w.heap.size ys hl hm,(((Ext.refl w).drew).drew).alloc _,ho.sat.drew.drew.alloc E (ys.map B)⟩
theorem rx_boxk {α:Type} {H':List Hl} {T:TypeId} {enc:α→Value} {b c:Nat} {l xs:List α} [s:SBox H b T (l.map enc) H'] (k:Nat) (hk:k≤l.length) (hl:l.take k=xs) (hc:k≤c) (hb:c≤9223372036854775807):RsH H enc (some ⟨b,0,none⟩) c xs:=fun hh=>by
 subst hl
 refine ⟨by simp;omega,hb,fun _=>⟨_,rfl⟩,fun w hw a ha i x hx=>?_⟩
 obtain rfl:=Option.some.inj ha
 rw [List.getElem?_take] at hx
 split at hx
 ·have hv:(l.map enc)[i]?=some (enc x):=by rw [List.getElem?_map,hx];rfl
  have:=(cl_box (H:=H) (b:=b) hv).cell w hw
  rw [show Addr.add ⟨b,0,none⟩ i=⟨b,i,none⟩ by by_cases h0:i=0 <;> simp [Addr.add,h0]]
  exact this
 ·cases hx
theorem putL_at {α:Type} (enc:α→Value) (xs ys:List α) (o:Nat) (h:o+ys.length≤xs.length):putL (xs.map enc) o (ys.map enc)=(xs.take o++(ys++xs.drop (o+ys.length))).map enc:=by
 have:=putL_map enc ys (xs.drop o) (xs.take o) (by simp;omega)
 rw [List.take_append_drop,List.length_take,Nat.min_eq_left (by omega),List.drop_drop] at this
 exact this
theorem ox_copy_at {α:Type} {enc:α→Value} {T T2 E:TypeId} {z:Value} {by_:Nat} {b o m0 l0 c0 c:Nat} {ad:Option Addr} {xs ys:List α} {H':List Hl} [ht:TSl P T E] [hi:TInf P E z 1 by_] (hx:opd e x=some (.slice (some ⟨b,o,none⟩) m0 c0)) (hy:opd e y=some (.slice ad l0 c))
  [s:SBox H b E (xs.map enc) H'] (hm:o+m0≤xs.length) (hr:RsH H enc ad c ys) (hl:l0=ys.length) (henc:∀ x,(enc x).oneCell'=true)
  (h:C (.int .i64 (min ys.length m0:Nat)) (.box b E ((xs.take o++(ys.take m0++xs.drop (o+min ys.length m0))).map enc)::H')):O1 P (.call ⟨.builtin .copy, #[x,y], #[T,T2]⟩) ty n e H C :=
 o1_step fun a w ho=>by
  subst hl
  obtain ⟨i,hi0,hiz,his,hib⟩:=hi.info
  have hr:=hr ho.has
  cases ad with
  | none =>
   have hn:ys=[]:=by
    rcases ys with _|⟨q,ys⟩
    ·rfl
    ·obtain ⟨a,ha⟩:=hr.sm (by simp);cases ha
   subst hn
   refine ⟨_,w,?_,_,h,.refl w,?_⟩
   ·simp [execOp,resolve,invoke,builtin,ho.ev.eval hx,ho.ev.eval hy,Builtin.copy_,run_underlying ht.u,Builtin.lenOf,Builtin.firstCells,sizeOf,typeInfo,hi0,storeCells,goInt]
   ·simpa using sat_front ho.sat s.s
  | some p =>
   have hl:=run_loadCells_list (P:=P) w p ((ys.take m0).map enc) (fun j v hj=>by
    simp only [List.getElem?_map,Option.map_eq_some_iff] at hj
    obtain ⟨u,hu,rfl⟩:=hj
    rw [List.getElem?_take] at hu
    split at hu
    ·exact hr.cell w ho.sat p rfl j u hu
    ·cases hu)
   obtain ⟨w',hst,hx',hsat⟩:=run_storeCells_sat (P:=P) (i0:=o) ((ys.take m0).map enc) 0 (xs.map enc) w (sat_front ho.sat s.s) (by simp;omega) (by
    intro v hv
    obtain ⟨u,_,rfl⟩:=List.mem_map.1 hv
    exact henc u)
   rw [Nat.add_zero,putL_at enc xs (ys.take m0) o (by simp;omega)] at hsat
   have hd:(ys.take m0).length=min ys.length m0:=by simp [Nat.min_comm]
   rw [hd] at hsat
   have hlen:((ys.take m0).map enc).length=min ys.length m0:=by simp [Nat.min_comm]
   rw [hlen] at hl
   rw [List.map_take] at hst
   refine ⟨_,w',?_,_,h,hx',hsat⟩
   simp [execOp,resolve,invoke,builtin,ho.ev.eval hx,ho.ev.eval hy,Builtin.copy_,run_underlying ht.u,Builtin.lenOf,Builtin.firstCells,sizeOf,typeInfo,hi0,his,hl,hst,goInt]
end
theorem Spec.imp {P:Program} {f:FuncId} {args:List Value} {H:List Hl} {X:Type} {good:X→Prop} {val:X→Value} {res res':X→List Hl} (h:Spec P f args H good val res) (g:∀ x,good x→∀ hp,stars (res x) hp→stars (res' x) hp):Spec P f args H good val res' :=
 ⟨h.enters,fun w hs=>(h.calls w hs).mono fun e w' ⟨x,hg,he,hx,hsat⟩=>⟨x,hg,he,hx,hsat.mono (g x hg)⟩⟩
open Go.RowKit Go.Proofs
def rtD34_0:List Row:=[⟨some 1,[],[],none⟩,⟨some 2,[],[],none⟩,⟨some 3,[1],[1],none⟩,⟨some 4,[2],[1,2],none⟩,⟨some 5,[3],[1,2,3],none⟩,⟨some 6,[],[],none⟩,⟨some 7,[5],[5],none⟩,⟨some 8,[6],[5,6],none⟩,⟨some 9,[7],[5,6,7],none⟩,⟨some 10,[],[],none⟩,⟨some 11,[9],[9],none⟩,⟨some 12,[10],[9,10],none⟩,⟨some 13,[11],[9,10,11],none⟩,⟨some 14,[12],[9,10,11,12],none⟩,⟨some 15,[8,13],[5,6,7,8,9,10,11,12,13],none⟩,⟨some 16,[4,14,14],[1,2,3,4,5,6,7,8,9,10,11,12,13,14],none⟩,⟨some 17,[0,0,1,2,3,4,5,6,7,8,9,10,11,12,13,14,15],[0,1,2,3,4,5,6,7,8,9,10,11,12,13,14,15],none⟩,⟨some 18,[16,0,1,2,3,4,5,6,7,8,9,10,11,12,13,14,15],[0,1,2,3,4,5,6,7,8,9,10,11,12,13,14,15,16],none⟩,⟨none,[17,15,15,0,1,2,3,4,5,6,7,8,9,10,11,12,13,14,15],[0,1,2,3,4,5,6,7,8,9,10,11,12,13,14,15,16,17],none⟩]
abbrev cdC (p:Prm) (ia:Option Addr) (il ic:Nat) (o:BitVec 32) (k:Int) (l:Value):List Value:=[W4 p.s,I p.k,I p.p,I p.z,.slice ia il ic,W4 o,K4 k,W4 0#32,l]
abbrev cdB (cb:Nat) (p:Prm) (ia:Option Addr) (il ic:Nat) (o:BitVec 32) (k:Int) (l:Value):Hl := .box cb 160 (cdC p ia il ic o k l)
theorem split_ok {ls:List (SlD (BitVec 8))} {im:List (BitVec 8)} {n z:Nat} (h:ls.map (·.l)=piecesL im n z):okP n z ls=true:=by
 have hl:ls.length=n:=by have:=congrArg List.length h;simpa [piecesL] using this
 have hz:∀ s∈ls,s.l.length=z:=fun s hs=>by
  have:s.l∈piecesL im n z:=by rw [←h];exact List.mem_map.2 ⟨s,hs,rfl⟩
  obtain ⟨i,hi,he⟩:=List.mem_map.1 this
  rw [←he]
  refine pieceL_len _ _ _ _ (Nat.mul_le_mul_right z ?_)
  have:=List.mem_range.1 hi
  omega
 unfold okP
 rw [Bool.and_eq_true,decide_eq_true_eq,Bool.not_eq_true',List.any_eq_false]
 refine ⟨by rw [hl],fun s hs=>?_⟩
 have:=hz s hs
 simp [oddB,this]
theorem cd_fill (H:List Hl) (cb v:Nat) (p:Prm) (ia:Option Addr) (ic:Nat) (im:List (BitVec 8)) (hp:p.ok) (hl:count im.length p.z=p.k) (hi:Rs (stars H) B ia ic im) :
  Spec Tryz.prog 132 [.pointer (some ⟨v,0,none⟩)] (cdB cb p ia im.length ic 0#32 1 (.slice none 0 0) :: .box v 92 [.pointer (some ⟨cb,0,none⟩)]::H) (fun r:Option Addr × Nat × List (SlD (BitVec 8))=>r.2.2.map (·.l)=allP p.s p.k p.p p.z (piecesL im p.k p.z)) (fun _ => .tuple #[])
   (fun r=>cdB cb p ia im.length ic 0#32 1 (.slice r.1 r.2.2.length r.2.1) :: .box v 92 [.pointer (some ⟨cb,0,none⟩)] :: .row 22 1 (.slice r.1 r.2.2.length r.2.1) r.2.2.length (r.2.2.map Bs) :: .any (pcs 5 r.2.2)::H):=by
 refine spec_fn (res:=fun r:Option Addr × Nat × List (SlD (BitVec 8))=>[cdB cb p ia im.length ic 0#32 1 (.slice r.1 r.2.2.length r.2.1),.box v 92 [.pointer (some ⟨cb,0,none⟩)],.row 22 1 (.slice r.1 r.2.2.length r.2.1) r.2.2.length (r.2.2.map Bs),.any (pcs 5 r.2.2)]) [cdB cb p ia im.length ic 0#32 1 (.slice none 0 0),.box v 92 [.pointer (some ⟨cb,0,none⟩)]] H Tryz.func132 rfl Tryz.ntmps132 (by kernel_rfl) rfl (fun W=>?_)
 dsimp only [List.cons_append,List.nil_append]
 obtain ⟨p1,p2,p3,p4,p5⟩:=hp.out
 refine st_stages' [(0,_)] rtD34_0 [14,15,18] [⟨[0,1,2,3,4,5,6,7,8,9,10,11,12,13],[],some 14⟩,⟨[],[0,1,2,3,4],some 15⟩,⟨[16,17],[0],some 18⟩,⟨[],[],none⟩] mixed cv (by kernel_rfl) (by kernel_rfl) ?_
 repeat' (first|intro _|refine sg ?_|(refine p_load ?_;refine po (by first|refine ox_load (b:=v) (i:=0) rfl rfl fz|refine ox_load (b:=cb) (i:=4) rfl rfl fz|refine ox_load (b:=cb) (i:=3) rfl rfl fz|fail) ?_)|refine pw ?_|refine pdd ?_|(refine k_fn 134 ?_;(refine o1_call (fun _=>block_Split _ ia ic im p.k p.z hi.up hl (by omega)) rfl (fun ⟨a1,c1,ls⟩ hls=>?_);dsimp only at hls ⊢))|(refine k_fn 133 ?_;(refine o1_call (fun hh=>precode_Pieces _ p.s p.k p.p p.z a1 c1 ls (rx_row hh) (fun s hs=>pcs_read (T:=5) (ls:=ls) hs hh) hp (split_ok hls)) rfl (fun ⟨a2,c2,qs⟩ hqs=>?_);(dsimp only at hqs ⊢;rw [hls] at hqs)))|(refine k_store ?_;refine ox_stores (b:=cb) (i:=8) rfl rfl (by decide) rfl rfl ?_)|refine ow ?_|fail)
 all_goals dsimp only [List.cons_append,List.nil_append]
 repeat' (first|intro _|refine cw ?_|refine cw2 ?_ ?_|refine ow ?_|refine ow2 ?_ ?_|fail)
 refine rt_none (a2,c2,qs) rfl rfl hqs ?_
 exact ent
def selS (qs:List (SlD (BitVec 8))) (v:List Bool):List (SlD (BitVec 8)):=(placesN (at_ v) v.length).map (fun k=>qs.getD k ⟨none,0,[]⟩)
theorem sel_at {qs:List (SlD (BitVec 8))} {v:List Bool} {n j:Nat} (hv:v.length=n) (hq:qs.length=n) (hj:j<(listV v).length):∃ k:Nat,(listV v)[j]=(k:Int)∧∃ hk:k<qs.length,qs[k]=(selS qs v)[j]'(by rw [selS,List.length_map];simpa [listV] using hj):=by
 have hj2:j<(placesN (at_ v) v.length).length:=by simpa [listV] using hj
 have hm:=(listV_mem (l:=v) (i:=(listV v)[j])).1 (List.getElem_mem _)
 have he:(listV v)[j]=((placesN (at_ v) v.length)[j]:Int):=by simp [listV]
 rw [he] at hm
 have hk:(placesN (at_ v) v.length)[j]<qs.length:=by omega
 refine ⟨_,he,hk,?_⟩
 simp [selS,hk]
theorem selS_mem {qs:List (SlD (BitVec 8))} {v:List Bool} {n:Nat} (hv:v.length=n) (hq:qs.length=n):∀ s∈selS qs v,s∈qs:=fun s hs=>by
 obtain ⟨j,hj,rfl⟩:=List.mem_iff_getElem.1 hs
 have hj2:j<(listV v).length:=by simpa [listV,selS] using hj
 obtain ⟨k,hk,hkl,hks⟩:=sel_at hv hq hj2
 rw [←hks]
 exact List.getElem_mem _
def symD (L:List (List (BitVec 8))) (v:List Bool):List (BitVec 8):=sumB ((placesN (at_ v) v.length).map (fun k=>⟨none,0,L.getD k []⟩))
theorem accL_congr {n:Nat}:∀ (i:Nat) (ls ls':List (SlD (BitVec 8))),ls.map (·.l)=ls'.map (·.l)→accL n ls i=accL n ls' i:=fun i ls ls' h=>by
 unfold accL
 rw [←List.foldl_map (f:=fun s:SlD (BitVec 8)=>s.l),←List.foldl_map (f:=fun s:SlD (BitVec 8)=>s.l),List.map_take,List.map_take,h]
theorem sumB_congr {ls ls':List (SlD (BitVec 8))} (h:ls.map (·.l)=ls'.map (·.l)):sumB ls=sumB ls':=by
 have hlen:ls.length=ls'.length:=by have:=congrArg List.length h;simpa using this
 cases ls with
 | nil=>cases ls' with
  | nil=>rfl
  | cons x l=>simp at hlen
 | cons x l=>cases ls' with
  | nil=>simp at hlen
  | cons x' l' =>
   have hx:x.l=x'.l:=by have:=h;simp only [List.map_cons,List.cons.injEq] at this;exact this.1
   have hall:(∀ s∈x::l,s.l.length=x.l.length)↔(∀ s∈x'::l',s.l.length=x'.l.length):=by
    have e1:∀ (L:List (SlD (BitVec 8))) (m:Nat),(∀ s∈L,s.l.length=m)↔∀ y∈L.map (·.l),y.length=m:=fun L m=>⟨fun q y hy=>by obtain ⟨s,hs,rfl⟩:=List.mem_map.1 hy;exact q s hs,fun q s hs=>q _ (List.mem_map.2 ⟨s,hs,rfl⟩)⟩
    rw [e1,e1,h,hx]
   show (if ∀ s∈x::l,s.l.length=x.l.length then accL x.l.length (x::l) (x::l).length else [])=(if ∀ s∈x'::l',s.l.length=x'.l.length then accL x'.l.length (x'::l') (x'::l').length else [])
   rw [hx] at hall ⊢
   rw [hlen]
   by_cases q:∀ s∈x'::l',s.l.length=x'.l.length
   ·rw [if_pos q,if_pos (hall.2 q),accL_congr _ _ _ h]
   ·rw [if_neg q,if_neg (fun w=>q (hall.1 w))]
theorem symD_sel {qs:List (SlD (BitVec 8))} {v:List Bool} {n:Nat} (hv:v.length=n) (hq:qs.length=n):sumB (selS qs v)=symD (qs.map (·.l)) v:=by
 refine sumB_congr ?_
 rw [selS,List.map_map,List.map_map]
 refine List.map_congr_left fun k hk=>?_
 have hm:=(listV_mem (l:=v) (i:=(k:Int))).1 (by rw [listV];exact List.mem_map.2 ⟨k,hk,rfl⟩)
 have hkl:k<qs.length:=by omega
 simp [hkl]
theorem cd_pieces_0 (H:List Hl) (cb:Nat) (p:Prm) (ia:Option Addr) (ic:Nat) (im:List (BitVec 8)) (hp:p.ok) (hl:count im.length p.z=p.k) (hi:Rs (stars H) B ia ic im) :
  Spec Tryz.prog 84 [.pointer (some ⟨cb,0,none⟩)] (cdB cb p ia im.length ic 0#32 0 (.slice none 0 0)::H) (fun r:Option Addr × Nat × List (SlD (BitVec 8))=>r.2.2.map (·.l)=allP p.s p.k p.p p.z (piecesL im p.k p.z)) (fun r => .slice r.1 r.2.2.length r.2.1)
   (fun r=>cdB cb p ia im.length ic 1#32 0 (.slice r.1 r.2.2.length r.2.1) :: .row 22 1 (.slice r.1 r.2.2.length r.2.1) r.2.2.length (r.2.2.map Bs) :: .any (pcs 5 r.2.2)::H):=by
 refine spec_fn (res:=fun r:Option Addr × Nat × List (SlD (BitVec 8))=>[cdB cb p ia im.length ic 1#32 0 (.slice r.1 r.2.2.length r.2.1),.row 22 1 (.slice r.1 r.2.2.length r.2.1) r.2.2.length (r.2.2.map Bs),.any (pcs 5 r.2.2)]) [cdB cb p ia im.length ic 0#32 0 (.slice none 0 0)] H Tryz.func84 rfl Tryz.ntmps84 (by kernel_rfl) rfl (fun W=>?_)
 dsimp only [List.cons_append,List.nil_append]
 repeat' (first|intro _|refine cw ?_|refine cw2 ?_ ?_|(refine k_box ?_;refine o1_box rfl rfl (fun v=>?_))|(refine k_load ?_;first|refine ox_load (b:=v) (i:=0) rfl rfl ?_|refine ox_load (b:=cb) (i:=8) rfl rfl ?_)|(refine k_fn 131 ?_;refine o1_call_box (b:=cb) (fun hh=>on_Do _ cb 5 _ (cdC p ia im.length ic 0#32 0 (.slice none 0 0)) 132 [.pointer (some ⟨v,0,none⟩)] rfl rfl (cd_fill _ cb v p ia ic im hp hl hi.up) (fun _ _=>rfl)) rfl (fun ⟨aq,cq,qs⟩ hqs=>?_))|refine o1_func rfl ?_|refine ow ?_|refine ow2 ?_ ?_|fail)
 refine rt_tmp (aq,cq,qs) rfl rfl rfl hqs ?_
 exact ent
theorem cd_pieces_1 (H:List Hl) (cb:Nat) (l:Value) (h5:Cl (stars H) ⟨cb,5,none⟩ (W4 1#32)) (h8:Cl (stars H) ⟨cb,8,none⟩ l) :
  Spec Tryz.prog 84 [.pointer (some ⟨cb,0,none⟩)] H (fun _:Unit=>True) (fun _=>l) (fun _=>H):=by
 refine spec_pure (res:=fun _=>[]) H Tryz.func84 rfl Tryz.ntmps84 (by kernel_rfl) rfl (fun W=>?_)
 repeat' (first|intro _|refine cw ?_|refine cw2 ?_ ?_|(refine k_box ?_;refine o1_box rfl rfl (fun v=>?_))|(refine k_load ?_;first|refine ox_load (b:=v) (i:=0) rfl rfl ?_|refine ox_load_any rfl h8 ?_)|(refine k_fn 131 ?_;refine o1_call (fun hh=>on_Do_done _ cb 5 132 [.pointer (some ⟨v,0,none⟩)] (cl_up h5)) rfl (fun _ _=>?_))|refine o1_func rfl ?_|refine ow ?_|refine ow2 ?_ ?_|fail)
 refine rt_tmp () rfl rfl rfl trivial ?_
 exact ent
theorem allP_len {s:BitVec 32} {K P z:Nat} {im:List (BitVec 8)}:∀ y∈allP s K P z (piecesL im K z),y.length=z:=fun y hy=>by
 rcases List.mem_append.1 hy with h|h
 ·obtain ⟨i,hi,rfl⟩:=List.mem_map.1 h
  refine pieceL_len _ _ _ _ (Nat.mul_le_mul_right z ?_)
  have:=List.mem_range.1 hi
  omega
 ·obtain ⟨j,_,rfl⟩:=List.mem_map.1 h
  rw [←sumT_all,sumT_len]
theorem allP_n {s:BitVec 32} {K P z:Nat} {im:List (BitVec 8)}:(allP s K P z (piecesL im K z)).length=K+P:=by simp [allP,piecesL]
abbrev pieA (p:Prm) (im:List (BitVec 8)):List (List (BitVec 8)):=allP p.s p.k p.p p.z (piecesL im p.k p.z)
set_option maxHeartbeats 4000000 in
theorem cd_Symbol_0 (H:List Hl) (cb:Nat) (p:Prm) (ia:Option Addr) (ic:Nat) (im:List (BitVec 8)) (id:BitVec 32) (v:List Bool) (hp:p.ok) (hl:count im.length p.z=p.k) (hi:Rs (stars H) B ia ic im) (hv:SpRow p id v) (ht:TabF (stars H)) :
  Spec Tryz.prog 41 [.pointer (some ⟨cb,0,none⟩),W4 id] (cdB cb p ia im.length ic 0#32 0 (.slice none 0 0)::H) (fun r:(Option Addr × Nat) × (Option Addr × Nat × List (SlD (BitVec 8)))=>r.2.2.2.map (·.l)=pieA p im) (fun r => .slice r.1.1 (symD (pieA p im) v).length r.1.2) (fun r => .row 5 1 (.slice r.1.1 (symD (pieA p im) v).length r.1.2) (symD (pieA p im) v).length ((symD (pieA p im) v).map B)::cdB cb p ia im.length ic 1#32 0 (.slice r.2.1 r.2.2.2.length r.2.2.1) :: .row 22 1 (.slice r.2.1 r.2.2.2.length r.2.2.1) r.2.2.2.length (r.2.2.2.map Bs) :: .any (pcs 5 r.2.2.2)::H):=by
 refine spec_fn (res:=fun r:(Option Addr × Nat) × (Option Addr × Nat × List (SlD (BitVec 8)))=>[.row 5 1 (.slice r.1.1 (symD (pieA p im) v).length r.1.2) (symD (pieA p im) v).length ((symD (pieA p im) v).map B),cdB cb p ia im.length ic 1#32 0 (.slice r.2.1 r.2.2.2.length r.2.2.1),.row 22 1 (.slice r.2.1 r.2.2.2.length r.2.2.1) r.2.2.2.length (r.2.2.2.map Bs),.any (pcs 5 r.2.2.2)]) [cdB cb p ia im.length ic 0#32 0 (.slice none 0 0)] H Tryz.func41 rfl Tryz.ntmps41 (by kernel_rfl) rfl (fun W=>?_)
 dsimp only [List.cons_append,List.nil_append]
 obtain ⟨p1,p2,p3,p4,p5⟩:=hp.out
 have hvn:=hv.1
 have hn2:p.n≤256:=by show p.k+p.p≤256;omega
 repeat' (first|intro _|refine cw ?_|refine cw2 ?_ ?_|refine o1_peql rfl rfl ?_|(refine o1_call (fun _=>hv.2 _) rfl (fun ⟨vb,va,vc⟩ _=>?_);(try dsimp only))|(refine k_fn 84 ?_;(refine o1_call_box (b:=cb) (fun _=>cd_pieces_0 _ cb p ia ic im hp hl hi.up) rfl (fun ⟨aq,cq,qs⟩ hqs=>?_);dsimp only at hqs ⊢))|(refine k_fn 86 ?_;(refine o1_call (fun hh=>vec_List _ ⟨vb,p.n,va,vc,v⟩ (RdV.own hvn hn2 hh)) rfl (fun ⟨la,lc⟩ _=>?_);(try dsimp only)))|refine ow ?_|refine ow2 ?_ ?_|fail)
 have hqn:qs.length=p.n:=by have:=congrArg List.length hqs;rw [List.length_map,allP_n] at this;exact this
 have hsum:sumB (selS qs v)=symD (pieA p im) v:=by rw [symD_sel hvn hqn,hqs]
 have hsb:∀ s∈selS qs v,s.l.length≤281474976710656:=fun s hs=>by
  have h1:s.l∈pieA p im:=(show qs.map (·.l)=pieA p im from hqs) ▸ (List.mem_map.2 ⟨s,selS_mem hvn hqn s hs,rfl⟩:s.l∈qs.map (·.l))
  rw [allP_len _ h1]
  omega
 have hsl:(selS qs v).length=(listV v).length:=by rw [selS,List.length_map,listV,List.length_map]
 refine st_ent (ent_nil 22 Bs) ?_
 refine st_loop (S:=Nat × Option Addr × Nat) (fun q=>[(5,.slice aq qs.length cq),(6,.slice q.2.1 q.1 q.2.2),(19,.slice la (listV v).length lc),(20,I (listV v).length),(21,I q.1)])
  (fun q=>[.row 22 1 (.slice q.2.1 q.1 q.2.2) q.1 (((selS qs v).take q.1).map Bs),.row 3 1 (.slice la (listV v).length lc) (listV v).length ((listV v).map I),.row 22 1 (.slice aq qs.length cq) qs.length (qs.map Bs),.any (pcs 5 qs),cdB cb p ia im.length ic 1#32 0 (.slice aq qs.length cq),.any (stars H)]) (fun q=>q.1≤(listV v).length) (fun q=>(listV v).length - q.1) (0,none,0) (Nat.zero_le _) cv (by rw [List.take_zero];exact ent) ?_
 rintro ⟨j,a1,c1⟩ hj
 dsimp only at hj ⊢
 by_cases hjt:j<(listV v).length
 ·obtain ⟨k,hk,hkl,hks⟩:=sel_at (qs:=qs) (v:=v) hvn hqn hjt
  obtain ⟨u,hu⟩:∃ u,qs[k]=u:=⟨_,rfl⟩
  have hnx:(selS qs v).take j++[u]=(selS qs v).take (j+1):=by
   rw [List.take_succ_eq_append_getElem (by omega),←hu,hks]
  have htl:((selS qs v).take j).length=j:=by rw [List.length_take];omega
  have h256:(listV v).length≤256:=by rw [listV_len];exact Nat.le_trans (cnt_le _ _) (by omega)
  repeat' (first|intro _|refine cw ?_|refine cw2 ?_ ?_|(refine k_indexAddr ?_;first|refine o1_iah (enc:=I) (ad:=la) (c:=lc) (xs:=listV v) j rfl rfl (rx_row (T:=3)) rfl rfl hjt ?_|refine o1_iah (enc:=Bs) (ad:=aq) (c:=cq) (xs:=qs) k rfl rfl (rx_row (T:=22)) rfl rfl hkl ?_)|(refine k_load ?_;first|(refine o1_load_iah (enc:=I) (ad:=la) (c:=lc) (xs:=listV v) j rfl (rx_row (T:=3)) hjt ?_;rw [hk])|(refine o1_load_iah (enc:=Bs) (ad:=aq) (c:=cq) (xs:=qs) k rfl (rx_row (T:=22)) hkl ?_;rw [hu]))|(refine k_buildSlice ?_;refine o1_lit_enc Bs [u] rfl rfl rfl (fun _=>rfl) rfl rfl rfl (fun _=>?_))|(refine k_call ?_;(refine ox_append (ad:=a1) (c:=c1) (xs:=(selS qs v).take j) (ys:=[u]) rfl rfl (rx_box rfl (by decide)) rfl rfl (fun _=>rfl) (by omega) (by omega) (fun a9 c9=>?_);rw [hnx]))|refine ow ?_|refine ow2 ?_ ?_|fail)
  refine nx_again (j+1,a9,c9) (by show j+1≤(listV v).length;omega) (by show (listV v).length - (j+1)<(listV v).length - j;omega) cv ?_
  exact ent
 ·have:j=(selS qs v).length:=by omega
  subst this
  rw [List.take_length]
  repeat' (first|intro _|refine cw ?_|refine cw2 ?_ ?_|(refine k_fn 87 ?_;(refine o1_call (fun hh=>block_Sum _ a1 c1 (selS qs v) (rx_row (T:=22) (ad:=a1) (c:=c1) (l:=selS qs v) hh) (fun s hs=>pcs_read (T:=5) (ls:=qs) (selS_mem hvn hqn s hs) hh) (fun s hs=>hsb s hs)) rfl (fun ⟨a34,c34⟩ _=>?_);(try dsimp only);rw [hsum]))|refine ow ?_|refine ow2 ?_ ?_|fail)
  refine rt_tmp ((a34,c34),aq,cq,qs) rfl rfl rfl hqs ?_
  exact ent
set_option maxHeartbeats 4000000 in
theorem cd_Symbol_1 (H:List Hl) (cb:Nat) (p:Prm) (ia:Option Addr) (il ic:Nat) (im:List (BitVec 8)) (id:BitVec 32) (v:List Bool) (aq:Option Addr) (cq:Nat) (qs:List (SlD (BitVec 8))) (hp:p.ok) (hv:SpRow p id v) (ht:TabF (stars H)) (hq:Rs (stars H) Bs aq cq qs) (hpc:∀ s∈qs,Rs (stars H) B s.ad s.cap s.l) (hqs:qs.map (·.l)=pieA p im) :
  Spec Tryz.prog 41 [.pointer (some ⟨cb,0,none⟩),W4 id] (cdB cb p ia il ic 1#32 0 (.slice aq qs.length cq)::H) (fun _:Option Addr × Nat=>True) (fun r => .slice r.1 (symD (pieA p im) v).length r.2) (fun r => .row 5 1 (.slice r.1 (symD (pieA p im) v).length r.2) (symD (pieA p im) v).length ((symD (pieA p im) v).map B)::cdB cb p ia il ic 1#32 0 (.slice aq qs.length cq)::H):=by
 refine spec_fn (res:=fun r:Option Addr × Nat=>[.row 5 1 (.slice r.1 (symD (pieA p im) v).length r.2) (symD (pieA p im) v).length ((symD (pieA p im) v).map B),cdB cb p ia il ic 1#32 0 (.slice aq qs.length cq)]) [cdB cb p ia il ic 1#32 0 (.slice aq qs.length cq)] H Tryz.func41 rfl Tryz.ntmps41 (by kernel_rfl) rfl (fun W=>?_)
 dsimp only [List.cons_append,List.nil_append]
 obtain ⟨p1,p2,p3,p4,p5⟩:=hp.out
 have hvn:=hv.1
 have hn2:p.n≤256:=by show p.k+p.p≤256;omega
 have hqn:qs.length=p.n:=by have:=congrArg List.length hqs;rw [List.length_map,allP_n] at this;exact this
 have hsum:sumB (selS qs v)=symD (pieA p im) v:=by rw [symD_sel hvn hqn,hqs]
 have hsb:∀ s∈selS qs v,s.l.length≤281474976710656:=fun s hs=>by
  have h1:s.l∈pieA p im:=(show qs.map (·.l)=pieA p im from hqs) ▸ (List.mem_map.2 ⟨s,selS_mem hvn hqn s hs,rfl⟩:s.l∈qs.map (·.l))
  rw [allP_len _ h1]
  omega
 repeat' (first|intro _|refine cw ?_|refine cw2 ?_ ?_|refine o1_peql rfl rfl ?_|(refine o1_call (fun _=>hv.2 _) rfl (fun ⟨vb,va,vc⟩ _=>?_);(try dsimp only))|(refine k_fn 84 ?_;refine o1_call (fun _=>cd_pieces_1 _ cb (.slice aq qs.length cq) (cl_box rfl) (cl_box rfl)) rfl (fun _ _=>?_))|(refine k_fn 86 ?_;(refine o1_call (fun hh=>vec_List _ ⟨vb,p.n,va,vc,v⟩ (RdV.own hvn hn2 hh)) rfl (fun ⟨la,lc⟩ _=>?_);(try dsimp only)))|refine ow ?_|refine ow2 ?_ ?_|fail)
 have hsl:(selS qs v).length=(listV v).length:=by rw [selS,List.length_map,listV,List.length_map]
 refine st_ent (ent_nil 22 Bs) ?_
 refine st_loop (S:=Nat × Option Addr × Nat) (fun q=>[(5,.slice aq qs.length cq),(6,.slice q.2.1 q.1 q.2.2),(19,.slice la (listV v).length lc),(20,I (listV v).length),(21,I q.1)])
  (fun q=>[.row 22 1 (.slice q.2.1 q.1 q.2.2) q.1 (((selS qs v).take q.1).map Bs),.row 3 1 (.slice la (listV v).length lc) (listV v).length ((listV v).map I),cdB cb p ia il ic 1#32 0 (.slice aq qs.length cq),.any (stars H)]) (fun q=>q.1≤(listV v).length) (fun q=>(listV v).length - q.1) (0,none,0) (Nat.zero_le _) cv (by rw [List.take_zero];exact ent) ?_
 rintro ⟨j,a1,c1⟩ hj
 dsimp only at hj ⊢
 by_cases hjt:j<(listV v).length
 ·obtain ⟨k,hk,hkl,hks⟩:=sel_at (qs:=qs) (v:=v) hvn hqn hjt
  obtain ⟨u,hu⟩:∃ u,qs[k]=u:=⟨_,rfl⟩
  have hnx:(selS qs v).take j++[u]=(selS qs v).take (j+1):=by
   rw [List.take_succ_eq_append_getElem (by omega),←hu,hks]
  have htl:((selS qs v).take j).length=j:=by rw [List.length_take];omega
  have h256:(listV v).length≤256:=by rw [listV_len];exact Nat.le_trans (cnt_le _ _) (by omega)
  repeat' (first|intro _|refine cw ?_|refine cw2 ?_ ?_|(refine k_indexAddr ?_;first|refine o1_iah (enc:=I) (ad:=la) (c:=lc) (xs:=listV v) j rfl rfl (rx_row (T:=3)) rfl rfl hjt ?_|refine o1_iah (enc:=Bs) (ad:=aq) (c:=cq) (xs:=qs) k rfl rfl (fun _=>hq.up) rfl rfl hkl ?_)|(refine k_load ?_;first|(refine o1_load_iah (enc:=I) (ad:=la) (c:=lc) (xs:=listV v) j rfl (rx_row (T:=3)) hjt ?_;rw [hk])|(refine o1_load_iah (enc:=Bs) (ad:=aq) (c:=cq) (xs:=qs) k rfl (fun _=>hq.up) hkl ?_;rw [hu]))|(refine k_buildSlice ?_;refine o1_lit_enc Bs [u] rfl rfl rfl (fun _=>rfl) rfl rfl rfl (fun _=>?_))|(refine k_call ?_;(refine ox_append (ad:=a1) (c:=c1) (xs:=(selS qs v).take j) (ys:=[u]) rfl rfl (rx_box rfl (by decide)) rfl rfl (fun _=>rfl) (by omega) (by omega) (fun a9 c9=>?_);rw [hnx]))|refine ow ?_|refine ow2 ?_ ?_|fail)
  refine nx_again (j+1,a9,c9) (by show j+1≤(listV v).length;omega) (by show (listV v).length - (j+1)<(listV v).length - j;omega) cv ?_
  exact ent
 ·have:j=(selS qs v).length:=by omega
  subst this
  rw [List.take_length]
  repeat' (first|intro _|refine cw ?_|refine cw2 ?_ ?_|(refine k_fn 87 ?_;(refine o1_call (fun hh=>block_Sum _ a1 c1 (selS qs v) (rx_row (T:=22) (ad:=a1) (c:=c1) (l:=selS qs v) hh) (fun s hs=>(hpc s (selS_mem hvn hqn s hs)).up) (fun s hs=>hsb s hs)) rfl (fun ⟨a34,c34⟩ _=>?_);(try dsimp only);rw [hsum]))|refine ow ?_|refine ow2 ?_ ?_|fail)
  refine rt_tmp (a34,c34) rfl rfl rfl trivial ?_
  exact ent
def rtD3_0:List Row:=[⟨some 8,[],[],none⟩,⟨some 9,[0],[0],none⟩,⟨some 10,[1],[0,1],none⟩,⟨some 11,[2],[0,1,2],some (2,false)⟩,⟨some 12,[2],[0,1,2],some (2,false)⟩,⟨some 13,[3,4,2],[0,1,2,3,4],some (2,false)⟩,⟨some 14,[5,2,2],[0,1,2,3,4,5],some (2,false)⟩,⟨some 15,[6,2],[0,1,2,3,4,5,6],some (2,false)⟩,⟨some 16,[2],[0,1,2],some (2,false)⟩,⟨some 17,[8,2],[0,1,2,8],some (2,false)⟩,⟨some 18,[7,9,2],[0,1,2,3,4,5,6,7,8,9],some (2,false)⟩,⟨some 19,[2,10],[0,1,2,3,4,5,6,7,8,9,10],none⟩]
def rtD3_1:List Row:=[⟨some 8,[],[],none⟩,⟨some 9,[0],[0],none⟩,⟨some 10,[1],[0,1],none⟩,⟨some 11,[2],[0,1,2],some (2,false)⟩,⟨some 12,[2],[0,1,2],some (2,false)⟩,⟨some 13,[3,4,2],[0,1,2,3,4],some (2,false)⟩,⟨some 14,[5,2,2],[0,1,2,3,4,5],some (2,false)⟩,⟨some 15,[6,2],[0,1,2,3,4,5,6],some (2,false)⟩,⟨some 16,[2],[0,1,2],some (2,false)⟩,⟨some 17,[8,2],[0,1,2,8],some (2,false)⟩,⟨some 18,[7,9,2],[0,1,2,3,4,5,6,7,8,9],some (2,false)⟩,⟨some 19,[2,10],[0,1,2,3,4,5,6,7,8,9,10],none⟩]
def rtD3_2:List Row:=[⟨some 8,[],[],none⟩,⟨some 9,[0],[0],none⟩,⟨some 10,[1],[0,1],none⟩,⟨some 11,[2],[0,1,2],some (2,false)⟩,⟨some 12,[2],[0,1,2],some (2,false)⟩,⟨some 13,[3,4,2],[0,1,2,3,4],some (2,false)⟩,⟨some 14,[5,2,2],[0,1,2,3,4,5],some (2,false)⟩,⟨some 15,[6,2],[0,1,2,3,4,5,6],some (2,false)⟩,⟨some 16,[2],[0,1,2],some (2,false)⟩,⟨some 17,[8,2],[0,1,2,8],some (2,false)⟩,⟨some 18,[7,9,2],[0,1,2,3,4,5,6,7,8,9],some (2,false)⟩,⟨some 19,[2,10],[0,1,2,3,4,5,6,7,8,9,10],none⟩]
theorem crc_Add (H:List Hl) (s:BitVec 32) (ad:Option Addr) (m c:Nat) (l:List (BitVec 8)) (h:Rs (stars H) B ad c l) (hm:m=l.length) :
  Spec Tryz.prog 171 [W4 s,.slice ad m c] H (fun _:Unit=>True) (fun _=>W4 (crcAdd s l)) (fun _=>H):=by
 subst hm
 have b1:=h.le
 have b2:=h.big
 refine spec_pure (res:=fun _=>[]) H Tryz.func171 rfl Tryz.ntmps171 (by kernel_rfl) rfl (fun W=>?_)
 repeat' (first|intro _|refine cw ?_|refine cw2 ?_ ?_|refine ow ?_|refine ow2 ?_ ?_|fail)
 refine st_loop (S:=Nat) (fun i=>[(5,W4 (crcAll (~~~ s) (l.take i))),(11,.slice ad l.length c),(12,I l.length),(13,I i)]) (fun _=>[.any (stars H)]) (fun i=>i≤l.length) (fun i=>l.length - i) 0 (Nat.zero_le _) cv ent ?_
 intro i hi
 by_cases hlt:i<l.length
 ·obtain ⟨x,hx⟩:∃ x,l[i]=x:=⟨_,rfl⟩
  have hnx:=crcAll_take (c := ~~~ s) hlt
  obtain ⟨c0,hc0⟩:∃ c0,crcAll (~~~ s) (l.take i)=c0:=⟨_,rfl⟩
  rw [hc0,hx] at hnx
  rw [hc0]
  repeat' (first|intro _|refine cw ?_|refine cw2 ?_ ?_|(refine k_indexAddr ?_;refine o1_ia (ad:=ad) (c:=c) i rfl rfl h rfl rfl hlt ?_)|(refine k_load ?_;(refine o1_load_ia (ad:=ad) (c:=c) i rfl h hlt ?_;rw [hx]))|refine ow ?_|refine ow2 ?_ ?_|fail)
  refine st_loop (S:=Nat) (fun j=>[(5,W4 (crcBits j (c0 ^^^ x.setWidth 32))),(11,.slice ad l.length c),(12,I l.length),(13,I i),(21,I j)]) (fun _=>[.any (stars H)]) (fun j=>j≤8) (fun j=>8 - j) 0 (Nat.zero_le _) cv ent ?_
  intro j hj
  by_cases hjt:j<8
  ·repeat' (first|intro _|refine cw ?_|refine cw2 ?_ ?_|(refine k_binOp .and ?_;refine o1_uand (v:=1#32) rfl rfl ?_)|(refine k_binOp .mul ?_;refine o1_umul (u:=0xedb88320#32) rfl rfl ?_)|refine ow ?_|refine ow2 ?_ ?_|fail)
   refine nx_again (j+1) (by omega) (by omega) cv ?_
   exact ent
  ·have:j=8:=by omega
   subst this
   repeat' (first|intro _|refine cw ?_|refine cw2 ?_ ?_|refine ow ?_|refine ow2 ?_ ?_|fail)
   refine nx_again (i+1) (by omega) (by omega) (cov_cons rfl (by rw [hnx];rfl) cv) ?_
   exact ent
 ·have:i=l.length:=by omega
  subst this
  repeat' (first|intro _|refine cw ?_|refine cw2 ?_ ?_|refine ow ?_|refine ow2 ?_ ?_|fail)
  rw [List.take_length]
  refine rt_tmp () rfl rfl rfl trivial ?_
  exact ent
theorem crc_Sum (H:List Hl) (ad:Option Addr) (m c:Nat) (l:List (BitVec 8)) (h:Rs (stars H) B ad c l) (hm:m=l.length) :
  Spec Tryz.prog 130 [.slice ad m c] H (fun _:Unit=>True) (fun _=>W4 (crcAdd 0#32 l)) (fun _=>H):=by
 refine spec_pure (res:=fun _=>[]) H Tryz.func130 rfl Tryz.ntmps130 (by kernel_rfl) rfl (fun W=>?_)
 repeat' (first|intro _|refine cw ?_|refine cw2 ?_ ?_|(refine k_fn 171 ?_;refine o1_call (fun _=>crc_Add _ 0#32 ad m c l h.up hm) rfl (fun _ _=>?_))|refine ow ?_|refine ow2 ?_ ?_|fail)
 refine rt_tmp () rfl rfl rfl trivial ?_
 exact ent
theorem be4_at (x:BitVec 32) (j:Nat) (hj:j<4):(x >>> (24 - 8*(j:Int)).toNat).setWidth 8=(be4 x)[j]'(by rw [be4_len];exact hj):=by
 rcases (by omega:j=0∨j=1∨j=2∨j=3) with rfl|rfl|rfl|rfl <;> rfl
set_option maxHeartbeats 1000000 in
theorem crc_Put (H:List Hl) (ad:Option Addr) (m c:Nat) (l:List (BitVec 8)) (h:Rs (stars H) B ad c l) (hm:m=l.length) (hb:m≤1000000) :
  Spec Tryz.prog 83 [.slice ad m c] H (fun _:Option Addr × Nat=>True) (fun r => .slice r.1 (l.length+4) r.2) (fun r => .row 5 1 (.slice r.1 (l.length+4) r.2) (l.length+4) ((crcPut l).map B)::H):=by
 subst hm
 have b1:=h.le
 have b2:=h.big
 refine spec_pure (res:=fun r:Option Addr × Nat=>[.row 5 1 (.slice r.1 (l.length+4) r.2) (l.length+4) ((crcPut l).map B)]) H Tryz.func83 rfl Tryz.ntmps83 (by kernel_rfl) rfl (fun W=>?_)
 refine st_ent (ent_nil 5 B) ?_
 obtain ⟨s,hs⟩:∃ s,crcAdd 0#32 l=s:=⟨_,rfl⟩
 have hp:crcPut l=l++be4 s:=by rw [←hs];rfl
 rw [hp]
 repeat' (first|intro _|refine cw ?_|refine cw2 ?_ ?_|(refine k_call ?_;refine ox_append (ad:=none) (c:=0) (xs:=([]:List (BitVec 8))) (ys:=l) rfl rfl (rx_any h) rfl rfl (fun _=>rfl) (by simp;omega) (by simp;omega) (fun a7 c7=>?_))|(refine k_fn 130 ?_;(refine o1_call (fun _=>crc_Sum _ ad l.length c l h.up rfl) rfl (fun _ _=>?_);rw [hs]))|refine ow ?_|refine ow2 ?_ ?_|fail)
 refine st_loop (S:=Nat × Option Addr × Nat) (fun q=>[(3,.slice q.2.1 (l.length+q.1) q.2.2),(4,W4 s),(5,I (24 - 8*(q.1:Int)))]) (fun q=>[.row 5 1 (.slice q.2.1 (l.length+q.1) q.2.2) (l.length+q.1) ((l++(be4 s).take q.1).map B),.any (stars H)]) (fun q=>q.1≤4) (fun q=>4 - q.1) (0,a7,c7) (Nat.zero_le _)
  (cov_cons rfl (by simp) cv) (by simp only [List.nil_append,List.take_zero,List.append_nil,Nat.add_zero,Nat.zero_add];exact ent) ?_
 rintro ⟨j,a3,c3⟩ hj
 dsimp only at hj ⊢
 by_cases hjt:j<4
 ·have hbj:=be4_at s j hjt
  have hl:(l++(be4 s).take j).length=l.length+j:=by rw [List.length_append,List.length_take,be4_len,Nat.min_eq_left hj]
  have htk:l++(be4 s).take (j+1)=(l++(be4 s).take j)++[(be4 s)[j]'(by rw [be4_len];exact hjt)]:=by
   rw [List.take_succ_eq_append_getElem (by rw [be4_len];exact hjt),List.append_assoc]
  obtain ⟨y,hy⟩:∃ y,(be4 s)[j]'(by rw [be4_len];exact hjt)=y:=⟨_,rfl⟩
  rw [hy] at hbj htk
  repeat' (first|intro _|refine cw ?_|refine cw2 ?_ ?_|(refine k_binOp .geq ?_;refine o1_geq_t rfl rfl (by omega) ?_)|(refine k_convert ?_;(refine o1_conv_uu rfl ?_;rw [hbj]))|(refine k_buildSlice ?_;refine o1_lit_enc (T:=22) B [y] rfl rfl rfl (fun _=>rfl) rfl rfl rfl (fun b19=>?_))|(refine k_call ?_;refine ox_append (ad:=a3) (c:=c3) (xs:=l++(be4 s).take j) (ys:=[y]) rfl rfl (rx_box (b:=b19) rfl (by decide)) rfl rfl (fun _=>rfl) (by simp;omega) (by simp;omega) (fun a20 c20=>?_))|refine ow ?_|refine ow2 ?_ ?_|fail)
  refine nx_again (j+1,a20,c20) (by show j+1≤4;omega) (by show 4 - (j+1)<4 - j;omega) (cov_cons rfl rfl (cov_cons rfl rfl (cov_cons rfl (by show I _=I _;congr 1;push_cast;omega) cv))) ?_
  show Ent _ [.row 5 1 (.slice a20 (l.length+(j+1)) c20) (l.length+(j+1)) ((l++(be4 s).take (j+1)).map B),.any (stars H)]
  rw [htk]
  exact ent
 ·have:j=4:=by omega
  subst this
  have e4:(be4 s).take 4=be4 s:=List.take_of_length_le (by rw [be4_len];exact Nat.le_refl _)
  rw [e4]
  repeat' (first|intro _|refine cw ?_|refine cw2 ?_ ?_|(refine k_binOp .geq ?_;refine o1_geq_f rfl rfl (by omega) ?_)|refine ow ?_|refine ow2 ?_ ?_|fail)
  refine rt_tmp (a3,c3) rfl rfl rfl trivial ?_
  exact ent
set_option maxHeartbeats 1000000 in
theorem crc_Right (H:List Hl) (ad:Option Addr) (m c:Nat) (l:List (BitVec 8)) (h:Rs (stars H) B ad c l) (hm:m=l.length) (hb:m≤100000) (hk:crcOk l=true) :
  Spec Tryz.prog 72 [.slice ad m c] H (fun _:Option Addr × Nat=>True) (fun r => .tuple #[.slice r.1 (l.length - 4) r.2,.bool true]) (fun r => .row 5 1 (.slice r.1 (l.length - 4) r.2) (l.length - 4) ((l.take (l.length - 4)).map B)::H):=by
 subst hm
 have b1:=h.le
 have b2:=h.big
 simp only [crcOk,Bool.and_eq_true,decide_eq_true_eq] at hk
 obtain ⟨k4,hk⟩:=hk
 refine spec_pure (res:=fun r:Option Addr × Nat=>[.row 5 1 (.slice r.1 (l.length - 4) r.2) (l.length - 4) ((l.take (l.length - 4)).map B)]) H Tryz.func72 rfl Tryz.ntmps72 (by kernel_rfl) rfl (fun W=>?_)
 obtain ⟨p,hp⟩:∃ p,l.length - 4=p:=⟨_,rfl⟩
 have hpi:(l.length:Int) - 4=(p:Nat):=by omega
 rw [hp] at hk ⊢
 obtain ⟨q,hq⟩:∃ q,l.take p=q:=⟨_,rfl⟩
 have hql:q.length=p:=by rw [←hq,List.length_take];omega
 have hf:Rs (stars H) B (cutA ad c 0) (c - 0) q:=by have:=h.cuth p (by omega);rw [hq] at this;exact this
 rw [hq] at hk ⊢
 have hkl:q.length+4=l.length:=by omega
 refine st_ent (ent_nil 5 B) ?_
 repeat' (first|intro _|refine cw ?_|refine cw2 ?_ ?_|(refine k_binOp .sub ?_;(refine o1_sub rfl rfl (by omega) ?_;rw [hpi]))|refine ow ?_|refine ow2 ?_ ?_|fail)
 refine st_stages' [(4,_),(0,_)] rtD3_0 [6] [⟨[0,1,2,3,4,5,8,9],[],some 6⟩,⟨[7,10,11],[8,9],none⟩] mixed cv (by kernel_rfl) (by kernel_rfl) ?_
 repeat' (first|intro _|refine sg ?_|(refine p_binOp .lss ?_;refine po (by first|refine o1_lss_f rfl rfl (by omega) fz|fail) ?_)|(refine p_slice ?_;refine po (by first|((refine o1_cs_h (xs:=l) p rfl rfl rfl rfl (by omega) (by omega) ?_;rw [hq]);all_goals exact fz)|fail) ?_)|(refine p_convert ?_;refine po (by first|refine o1_string (ad:=a14) (c:=c14) (xs:=l) rfl rfl rx_row fz|refine o1_string (ad:=ad) (c:=c) (xs:=l) rfl rfl (rx_any h) fz|fail) ?_)|(refine p_binOp .neq ?_;refine po (by first|refine o1_strneq_r (a:=l) (b:=l) (r:=false) rfl rfl (by simp) fz|fail) ?_)|refine pw ?_|refine pdd ?_|(refine k_fn 83 ?_;(refine o1_call (fun _=>crc_Put _ (cutA ad c 0) q.length (c - 0) q (Rs.up hf) rfl (by omega)) rfl (fun ⟨a14,c14⟩ _=>?_);(try dsimp only);rw [hk,hkl]))|refine ow ?_|fail)
 all_goals dsimp only [List.cons_append,List.nil_append]
 repeat' (first|intro _|refine cw ?_|refine cw2 ?_ ?_|(refine k_slice ?_;(refine o1_cs_h (xs:=l) p rfl rfl rfl rfl (by omega) (by omega) ?_;rw [hq]))|(refine k_call ?_;(refine ox_append (ad:=none) (c:=0) (xs:=([]:List (BitVec 8))) (ys:=q) rfl rfl (rx_any hf) rfl rfl (fun _=>rfl) (by simp;omega) (by simp;omega) (fun a7 c7=>?_);rw [List.nil_append,Nat.zero_add,hql]))|refine ow ?_|refine ow2 ?_ ?_|fail)
 refine rt_tmp2 (a7,c7) rfl rfl rfl rfl trivial ?_
 exact ent
set_option maxHeartbeats 1000000 in
theorem crc_Right_no (H:List Hl) (ad:Option Addr) (m c:Nat) (l:List (BitVec 8)) (h:Rs (stars H) B ad c l) (hm:m=l.length) (hb:m≤100000) (hk:crcOk l=false) :
  Spec Tryz.prog 72 [.slice ad m c] H (fun _:Unit=>True) (fun _ => .tuple #[.slice none 0 0,.bool false]) (fun _=>H):=by
 subst hm
 have b1:=h.le
 have b2:=h.big
 refine spec_pure (res:=fun _=>[]) H Tryz.func72 rfl Tryz.ntmps72 (by kernel_rfl) rfl (fun W=>?_)
 by_cases k4:l.length<4
 ·repeat' (first|intro _|refine cw ?_|refine cw2 ?_ ?_|refine ow ?_|refine ow2 ?_ ?_|fail)
  refine st_stages' [(4,_),(0,_)] rtD3_1 [6] [⟨[0,1,2,3,4,5,8,9],[],some 6⟩,⟨[7,10,11],[8,9],none⟩] mixed cv (by kernel_rfl) (by kernel_rfl) ?_
  repeat' (first|intro _|refine sg ?_|(refine p_binOp .lss ?_;refine po (by first|refine o1_lss_t rfl rfl (by omega) fz|fail) ?_)|refine pw ?_|refine pdd ?_|refine ow ?_|fail)
  all_goals dsimp only [List.cons_append,List.nil_append]
  repeat' (first|intro _|refine cw ?_|refine cw2 ?_ ?_|refine ow ?_|refine ow2 ?_ ?_|fail)
  refine rt_tmp2 () rfl rfl rfl rfl trivial ?_
  exact ent
 ·have hk:crcPut (l.take (l.length - 4))≠l:=fun e=>by
   simp [crcOk,e] at hk
   omega
  obtain ⟨p,hp⟩:∃ p,l.length - 4=p:=⟨_,rfl⟩
  have hpi:(l.length:Int) - 4=(p:Nat):=by omega
  rw [hp] at hk
  obtain ⟨q,hq⟩:∃ q,l.take p=q:=⟨_,rfl⟩
  have hql:q.length=p:=by rw [←hq,List.length_take];omega
  have hf:Rs (stars H) B (cutA ad c 0) (c - 0) q:=by have:=h.cuth p (by omega);rw [hq] at this;exact this
  rw [hq] at hk
  obtain ⟨R,hR⟩:∃ R,crcPut q=R:=⟨_,rfl⟩
  have hRl:q.length+4=R.length:=by rw [←hR,crcPut_len]
  rw [hR] at hk
  repeat' (first|intro _|refine cw ?_|refine cw2 ?_ ?_|(refine k_binOp .sub ?_;(refine o1_sub rfl rfl (by omega) ?_;rw [hpi]))|refine ow ?_|refine ow2 ?_ ?_|fail)
  refine st_stages' [(4,_),(0,_)] rtD3_2 [6] [⟨[0,1,2,3,4,5,8,9],[],some 6⟩,⟨[7,10,11],[8,9],none⟩] mixed cv (by kernel_rfl) (by kernel_rfl) ?_
  repeat' (first|intro _|refine sg ?_|(refine p_binOp .lss ?_;refine po (by first|refine o1_lss_f rfl rfl (by omega) fz|fail) ?_)|(refine p_slice ?_;refine po (by first|((refine o1_cs_h (xs:=l) p rfl rfl rfl rfl (by omega) (by omega) ?_;rw [hq]);all_goals exact fz)|fail) ?_)|(refine p_convert ?_;refine po (by first|refine o1_string (ad:=a14) (c:=c14) (xs:=R) rfl rfl rx_row fz|refine o1_string (ad:=ad) (c:=c) (xs:=l) rfl rfl (rx_any h) fz|fail) ?_)|(refine p_binOp .neq ?_;refine po (by first|refine o1_strneq_r (a:=R) (b:=l) (r:=true) rfl rfl (by simp [hk]) fz|fail) ?_)|refine pw ?_|refine pdd ?_|(refine k_fn 83 ?_;(refine o1_call (fun _=>crc_Put _ (cutA ad c 0) q.length (c - 0) q (Rs.up hf) rfl (by omega)) rfl (fun ⟨a14,c14⟩ _=>?_);(try dsimp only);rw [hR,hRl]))|refine ow ?_|fail)
  all_goals dsimp only [List.cons_append,List.nil_append]
  repeat' (first|intro _|refine cw ?_|refine cw2 ?_ ?_|refine ow ?_|refine ow2 ?_ ?_|fail)
  refine rt_tmp2 () rfl rfl rfl rfl trivial ?_
  exact ent
def rtD4_0:List Row:=[⟨some 3,[],[],none⟩,⟨some 4,[0],[0],none⟩,⟨some 5,[1],[0,1],none⟩,⟨some 6,[2],[0,1,2],none⟩,⟨some 7,[3],[0,1,2,3],none⟩,⟨some 8,[4],[0,1,2,3,4],none⟩,⟨some 9,[],[],none⟩,⟨some 10,[6],[6],none⟩,⟨some 11,[7],[6,7],none⟩,⟨some 12,[8],[6,7,8],none⟩,⟨some 13,[5,9],[0,1,2,3,4,5,6,7,8,9],none⟩,⟨some 2,[10,0,1,2,3,4,5,6,7,8,9,10],[0,1,2,3,4,5,6,7,8,9,10],none⟩]
def rtD4_1:List Row:=[⟨some 36,[],[],none⟩,⟨some 37,[0],[0],none⟩,⟨some 38,[1],[0,1],none⟩,⟨some 39,[2],[0,1,2],none⟩,⟨some 40,[],[],none⟩,⟨some 41,[4],[4],none⟩,⟨some 2,[3,0,1,2,3],[0,1,2,3],none⟩,⟨some 3,[5,6,0,1,2,3,4,5,6],[0,1,2,3,4,5,6],none⟩,⟨some 4,[7,0,1,2,3,4,5,6,7],[0,1,2,3,4,5,6,7],none⟩]
def innB (k:BitVec 8) (b:List (BitVec 8)):List (BitVec 8):=k::BitVec.ofInt 8 ((b.length:Int) / 256)::BitVec.ofInt 8 (b.length:Int)::b
def dpB:List (BitVec 8):=[68#8,80#8]
def frameB (k:BitVec 8) (b:List (BitVec 8)):List (BitVec 8):=dpB++crcPut (innB k b)
theorem innB_len (k:BitVec 8) (b:List (BitVec 8)):(innB k b).length=b.length+3:=rfl
theorem frameB_len (k:BitVec 8) (b:List (BitVec 8)):(frameB k b).length=b.length+9:=by
 rw [frameB,List.length_append,crcPut_len,innB_len]
 show 2+_=_
 omega
set_option maxHeartbeats 1000000 in
theorem fr_Wrap (H:List Hl) (k:BitVec 8) (kk:Int) (ad:Option Addr) (m c:Nat) (b:List (BitVec 8)) (h:Rs (stars H) B ad c b) (hm:m=b.length) (hb:m≤291) (h0:1≤m) (hk:BitVec.ofInt 8 kk=k) (hk1:0≤kk∧kk≤255) :
  Spec Tryz.prog 39 [I kk,.slice ad m c] H (fun _:Option Addr × Nat=>True) (fun r => .tuple #[.slice r.1 (m+9) r.2,I 0]) (fun r => .row 5 1 (.slice r.1 (m+9) r.2) (m+9) ((frameB k b).map B)::H):=by
 subst hm
 refine spec_pure (res:=fun r:Option Addr × Nat=>[.row 5 1 (.slice r.1 (b.length+9) r.2) (b.length+9) ((frameB k b).map B)]) H Tryz.func39 rfl Tryz.ntmps39 (by kernel_rfl) rfl (fun W=>?_)
 have b1:=h.le
 have b2:=h.big
 obtain ⟨h3,hh3⟩:∃ h3,[k,BitVec.ofInt 8 ((b.length:Int) / 256),BitVec.ofInt 8 (b.length:Int)]=h3:=⟨_,rfl⟩
 have h3l:h3.length=3:=by rw [←hh3];rfl
 have hin:h3++b=innB k b:=by rw [←hh3];rfl
 obtain ⟨Z,hZ⟩:∃ Z,innB k b=Z:=⟨_,rfl⟩
 have hZl:Z.length=3+b.length:=by rw [←hZ,innB_len];omega
 obtain ⟨Q,hQ⟩:∃ Q,crcPut Z=Q:=⟨_,rfl⟩
 have hQl:Q.length=Z.length+4:=by rw [←hQ,crcPut_len]
 have hF:frameB k b=dpB++Q:=by rw [frameB,hZ,hQ]
 rw [hF]
 rw [hZ] at hin
 repeat' (first|intro _|refine cw ?_|refine cw2 ?_ ?_|(refine k_convert ?_;first|(refine o1_conv_iu rfl ?_;(try rw [hk]))|refine o1_conv_frz (b:=b30) rfl ?_)|(refine k_binOp .shr ?_;refine o1_ishr8 rfl rfl ?_)|(refine k_buildSlice ?_;first|refine o1_lit_enc (T:=22) B h3 rfl rfl (by rw [←hh3];rfl) (fun _=>rfl) rfl rfl rfl (fun b27=>?_)|refine o1_lit_enc (T:=22) B dpB rfl rfl rfl (fun _=>rfl) rfl rfl rfl (fun b30=>?_))|(refine k_call ?_;first|(refine ox_append_box (xs:=h3) (ys:=b) (b:=b27) rfl rfl h3l.symm h3l.symm (rx_any h) rfl rfl (fun _=>rfl) (by omega) (by omega) (fun a29 c29=>?_);rw [hin])|refine ox_append_full (ad:=some ⟨b30,0,none⟩) (ad':=a33) (c':=c33) (xs:=dpB) (ys:=Q) rfl rfl (rx_any (Rs.of_frz (T:=5) (l:=dpB) (enc:=B) (b:=b30) (by decide))) rx_row rfl rfl (by decide) (by omega) rfl (by omega) (by omega) (fun a34 c34=>?_))|(refine k_fn 83 ?_;(refine o1_call (fun hh=>crc_Put _ a29 (3+b.length) c29 Z (rx_row hh) hZl.symm (by omega)) rfl (fun ⟨a33,c33⟩ _=>?_);(try dsimp only);rw [hQ,←hQl]))|refine ow ?_|refine ow2 ?_ ?_|fail)
 have hF9:2+Q.length=b.length+9:=by omega
 rw [hF9]
 refine rt_tmp2 (a34,c34) rfl rfl rfl rfl trivial ?_
 exact ent
theorem bytes_Equal (H:List Hl) (ad ad':Option Addr) (m m' c c':Nat) (l l':List (BitVec 8)) (h:Rs (stars H) B ad c l) (h':Rs (stars H) B ad' c' l') (hm:m=l.length) (hm':m'=l'.length) :
  Spec Tryz.prog 115 [.slice ad m c,.slice ad' m' c'] H (fun _:Unit=>True) (fun _ => .bool (decide (l=l'))) (fun _=>H):=by
 refine spec_pure (res:=fun _=>[]) H Tryz.func115 rfl Tryz.ntmps115 (by kernel_rfl) rfl (fun W=>?_)
 repeat' (first|intro _|refine cw ?_|refine cw2 ?_ ?_|(refine k_convert ?_;first|refine o1_string (ad:=ad) (c:=c) (xs:=l) rfl hm (rx_any h) ?_|refine o1_string (ad:=ad') (c:=c') (xs:=l') rfl hm' (rx_any h') ?_)|(refine k_binOp .eql ?_;refine o1_streq_r (a:=l) (b:=l') rfl rfl rfl ?_)|refine ow ?_|refine ow2 ?_ ?_|fail)
 refine rt_tmp () rfl rfl rfl trivial ?_
 exact ent
theorem bytes_HasPrefix (H:List Hl) (ad ad':Option Addr) (m m' c c':Nat) (l p:List (BitVec 8)) (h:Rs (stars H) B ad c l) (h':Rs (stars H) B ad' c' p) (hm:m=l.length) (hm':m'=p.length) (hp:l.take m'=p) (hle:m'≤m) :
  Spec Tryz.prog 70 [.slice ad m c,.slice ad' m' c'] H (fun _:Unit=>True) (fun _ => .bool true) (fun _=>H):=by
 refine spec_pure (res:=fun _=>[]) H Tryz.func70 rfl Tryz.ntmps70 (by kernel_rfl) rfl (fun W=>?_)
 have b1:=h.le
 have b2:=h.big
 have hf:Rs (stars H) B (cutA ad c 0) (c - 0) p:=by have:=h.cuth m' (by omega);rw [hp] at this;exact this
 repeat' (first|intro _|refine cw ?_|refine cw2 ?_ ?_|(refine k_slice ?_;(refine o1_cs_h (xs:=l) m' rfl rfl rfl hm (by omega) (by omega) ?_;rw [hp,←hm']))|(refine k_fn 115 ?_;refine o1_call (fun _=>(bytes_Equal _ (cutA ad c 0) ad' m' m' (c - 0) c' p p (Rs.up hf) (Rs.up h') hm' hm').bv (b:=true) (by simp)) rfl (fun _ _=>?_))|refine ow ?_|refine ow2 ?_ ?_|fail)
 refine rt_tmp () rfl rfl rfl trivial ?_
 exact ent
theorem fr_length (H:List Hl) (ad:Option Addr) (m c:Nat) (l:List (BitVec 8)) (x3 x4:BitVec 8) (h:Rs (stars H) B ad c l) (hm:m=l.length) (h3:l[3]?=some x3) (h4:l[4]?=some x4) :
  Spec Tryz.prog 71 [.slice ad m c] H (fun _:Unit=>True) (fun _=>I (9+(x3.toNat:Int)*256+(x4.toNat:Int))) (fun _=>H):=by
 refine spec_pure (res:=fun _=>[]) H Tryz.func71 rfl Tryz.ntmps71 (by kernel_rfl) rfl (fun W=>?_)
 have l4:=(List.getElem?_eq_some_iff.1 h4).1
 have g3:=x3.isLt
 have g4:=x4.isLt
 repeat' (first|intro _|refine cw ?_|refine cw2 ?_ ?_|refine ow ?_|refine ow2 ?_ ?_|fail)
 refine st_stages' [(0,_)] rtD4_0 [] [⟨[0,1,2,3,4,5,6,7,8,9,10,11],[],none⟩] mixed cv (by kernel_rfl) (by kernel_rfl) ?_
 repeat' (first|intro _|refine sg ?_|(refine p_indexAddr ?_;refine po (by first|refine o1_ia (ad:=ad) (c:=c) 3 rfl rfl h hm rfl (by omega) fz|refine o1_ia (ad:=ad) (c:=c) 4 rfl rfl h hm rfl l4 fz|fail) ?_)|(refine p_load ?_;refine po (by first|refine o1_load_av (ad:=ad) (c:=c) 3 _ rfl h h3 fz|refine o1_load_av (ad:=ad) (c:=c) 4 _ rfl h h4 fz|fail) ?_)|refine po (by first|refine o1_ishl8 rfl rfl (by omega) fz|fail) ?_|refine pw ?_|refine pdd ?_|refine ow ?_|fail)
 all_goals dsimp only [List.cons_append,List.nil_append]
 repeat' (first|intro _|refine cw ?_|refine cw2 ?_ ?_|refine ow ?_|refine ow2 ?_ ?_|fail)
 refine rt_tmp () rfl rfl rfl trivial ?_
 exact ent
set_option maxHeartbeats 2000000 in
theorem fr_Unwrap (H:List Hl) (k:BitVec 8) (ad:Option Addr) (m c:Nat) (b:List (BitVec 8)) (h:Rs (stars H) B ad c (frameB k b)) (hm:m=b.length+9) (hb:b.length≤291) (h0:1≤b.length) :
  Spec Tryz.prog 34 [.slice ad m c] H (fun _:Option Addr × Nat=>True) (fun r => .tuple #[I k.toNat,.slice (cutA r.1 r.2 3) b.length (r.2 - 3),I 0]) (fun r => .row 5 1 (.slice r.1 (b.length+3) r.2) (b.length+3) ((innB k b).map B)::H):=by
 refine spec_pure (res:=fun r:Option Addr × Nat=>[.row 5 1 (.slice r.1 (b.length+3) r.2) (b.length+3) ((innB k b).map B)]) H Tryz.func34 rfl Tryz.ntmps34 (by kernel_rfl) rfl (fun W=>?_)
 have b1:=h.le
 have b2:=h.big
 have gk:=k.isLt
 have hFl:=frameB_len k b
 obtain ⟨F,hF⟩:∃ F,frameB k b=F:=⟨_,rfl⟩
 have h2:F.take 2=dpB:=by rw [←hF];rfl
 have h3:F[3]?=some (BitVec.ofInt 8 ((b.length:Int) / 256)):=by rw [←hF];rfl
 have h4:F[4]?=some (BitVec.ofInt 8 (b.length:Int)):=by rw [←hF];rfl
 have hlen:9+((BitVec.ofInt 8 ((b.length:Int) / 256)).toNat:Int)*256+((BitVec.ofInt 8 (b.length:Int)).toNat:Int)=(b.length:Int)+9:=by
  simp only [BitVec.toNat_ofInt]
  omega
 obtain ⟨Z,hZ⟩:∃ Z,innB k b=Z:=⟨_,rfl⟩
 have hZl:Z.length=b.length+3:=by rw [←hZ,innB_len]
 have hd:F.drop 2=crcPut Z:=by rw [←hF,←hZ];rfl
 obtain ⟨Q,hQ⟩:∃ Q,crcPut Z=Q:=⟨_,rfl⟩
 have hQl:Q.length=Z.length+4:=by rw [←hQ,crcPut_len]
 have hok:crcOk Q=true:=by rw [←hQ];exact crcOk_put Z
 have hQt:Q.take (Q.length - 4)=Z:=by
  rw [←hQ,crcPut_len,Nat.add_sub_cancel,crcPut,List.take_left']
  rfl
 have hQ4:Q.length - 4=b.length+3:=by omega
 rw [hQ] at hd
 have z0:Z[0]?=some k:=by rw [←hZ];rfl
 have zd:Z.drop 3=b:=by rw [←hZ];rfl
 rw [hF] at h hFl b1
 rw [hZ]
 rw [hQ4] at hQt
 have hf:Rs (stars H) B (cutA ad c 2) (c - 2) Q:=by have:=h.cutl 2 (by omega);rw [hd] at this;exact this
 repeat' (first|intro _|refine cw ?_|refine cw2 ?_ ?_|(refine k_buildSlice ?_;refine o1_lit_enc (T:=22) B dpB rfl rfl rfl (fun _=>rfl) rfl rfl rfl (fun b17=>?_))|(refine k_convert ?_;refine o1_conv_frz (b:=b17) rfl ?_)|(refine k_fn 70 ?_;refine o1_call (fun hh=>bytes_HasPrefix _ ad (some ⟨b17,0,none⟩) m 2 c 2 F dpB h.up (Rs.up (Rs.of_frz (T:=5) (l:=dpB) (enc:=B) (b:=b17) (by decide))) (by omega) rfl h2 (by omega)) rfl (fun _ _=>?_))|(refine k_fn 71 ?_;(refine o1_call (fun _=>fr_length _ ad m c F _ _ h.up (by omega) h3 h4) rfl (fun _ _=>?_);rw [hlen]))|(refine k_binOp .neq ?_;refine o1_neq_f rfl rfl (by omega) ?_)|(refine k_slice ?_;(refine o1_cs_l (xs:=F) 2 rfl rfl rfl (by omega) (by omega) ?_;rw [hd]))|(refine k_fn 72 ?_;(refine o1_call (fun _=>crc_Right _ (cutA ad c 2) Q.length (c - 2) Q (Rs.up hf) rfl (by omega) hok) rfl (fun ⟨a31,c31⟩ _=>?_);(try dsimp only);rw [hQ4,hQt]))|refine ow ?_|refine ow2 ?_ ?_|fail)
 refine st_stages' [(5,_)] rtD4_1 [] [⟨[0,1,2,3,4,5,6,7,8],[],none⟩] mixed cv (by kernel_rfl) (by kernel_rfl) ?_
 repeat' (first|intro _|refine sg ?_|(refine p_indexAddr ?_;refine po (by first|refine o1_iah (enc:=B) (ad:=a31) (c:=c31) (xs:=Z) 0 rfl rfl rx_row hZl.symm rfl (by omega) fz|fail) ?_)|(refine p_load ?_;refine po (by first|refine o1_load_hv (enc:=B) (ad:=a31) (c:=c31) (xs:=Z) 0 k rfl rx_row z0 fz|fail) ?_)|(refine p_slice ?_;refine po (by first|((refine o1_cs_l (xs:=Z) 3 rfl rfl rfl hZl.symm (by omega) ?_;rw [zd]);all_goals exact fz)|fail) ?_)|refine pw ?_|refine pdd ?_|refine ow ?_|fail)
 all_goals dsimp only [List.cons_append,List.nil_append]
 repeat' (first|intro _|refine cw ?_|refine cw2 ?_ ?_|refine ow ?_|refine ow2 ?_ ?_|fail)
 refine rt_tri (a31,c31) rfl rfl rfl rfl rfl trivial ?_
 exact ent
theorem slices_Grow (H:List Hl) (m:Nat) (hb:m≤140737488355328) :
  Spec Tryz.prog 158 [.slice none 0 0,I m] H (fun _:Option Addr × Nat=>True) (fun r => .slice r.1 0 r.2)
   (fun r => .row 5 1 (.slice r.1 0 r.2) 0 (([]:List (BitVec 8)).map B)::H):=by
 refine spec_pure (res:=fun r:Option Addr × Nat=>[.row 5 1 (.slice r.1 0 r.2) 0 (([]:List (BitVec 8)).map B)]) H Tryz.func158 rfl Tryz.ntmps158 (by kernel_rfl) rfl (fun W=>?_)
 refine st_ent (ent_nil 5 B) ?_
 repeat' (first|intro _|refine cw ?_|refine cw2 ?_ ?_|(refine k_call ?_;first|refine o1_cap rfl ?_|(refine ox_append_zeros (enc:=B) 0#8 (k:=m) (xs:=([]:List (BitVec 8))) rfl rfl (by omega) rfl rfl (by omega) (by omega) (fun a1 c1=>?_)))|(refine k_slice ?_;(refine ox_cs_hr (enc:=B) (xs:=([]:List (BitVec 8))) 0 rfl rfl rfl rfl (Nat.le_refl _) ?_;rw [show Value.slice (cutA none 0 0) (List.take 0 ([]:List (BitVec 8))).length (0 - 0)=Value.slice none 0 0 from rfl]))|(refine o1_prefix (enc:=B) (xs:=([]:List (BitVec 8))++List.replicate m 0#8) 0 rfl rfl rfl (by omega) (by simp) ?_)|refine ow ?_|refine ow2 ?_ ?_|fail)
 all_goals
  refine rt_tmp (_,_) rfl rfl rfl trivial ?_
  exact ent
theorem slices_Concat (H:List Hl) (ad:Option Addr) (c:Nat) (ls:List (SlD (BitVec 8))) (h:Rs (stars H) Bs ad c ls) (hs:∀ s∈ls,Rs (stars H) B s.ad s.cap s.l) (hb:(cat ls).length≤140737488355328) :
  Spec Tryz.prog 111 [.slice ad ls.length c] H (fun _:Option Addr × Nat=>True) (fun r => .slice r.1 (cat ls).length r.2)
   (fun r => .row 5 1 (.slice r.1 (cat ls).length r.2) (cat ls).length ((cat ls).map B)::H):=by
 have b1:=h.le
 have b2:=h.big
 have hle:∀ i,(cat (ls.take i)).length≤(cat ls).length:=fun i=>by
  have:cat ls=cat (ls.take i)++cat (ls.drop i):=by simp only [cat];rw [←List.flatMap_append,List.take_append_drop]
  rw [this,List.length_append]
  omega
 refine spec_pure (res:=fun r:Option Addr × Nat=>[.row 5 1 (.slice r.1 (cat ls).length r.2) (cat ls).length ((cat ls).map B)]) H Tryz.func111 rfl Tryz.ntmps111 (by kernel_rfl) rfl (fun W=>?_)
 repeat' (first|intro _|refine cw ?_|refine cw2 ?_ ?_|refine ow ?_|refine ow2 ?_ ?_|fail)
 refine st_loop (S:=Nat) (fun i=>[(0,.slice ad ls.length c),(3,I (cat (ls.take i)).length),(9,.slice ad ls.length c),(10,I ls.length),(11,I i)]) (fun _=>[.any (stars H)]) (fun i=>i≤ls.length) (fun i=>ls.length - i) 0 (by omega)
  cv (Ent.refl _) ?_
 intro i hi
 have hi1:=hle (i+1)
 by_cases hlt:i<ls.length
 ·rw [cat_succ _ _ hlt,List.length_append] at hi1
  repeat' (first|intro _|refine cw ?_|refine cw2 ?_ ?_|(refine k_indexAddr ?_;refine o1_indexAddr_rd rfl rfl h i rfl hlt (fun a ha=>?_))|refine ow ?_|refine ow2 ?_ ?_|fail)
  refine nx_again (i+1) (by omega) (by omega) (cov_cons rfl rfl (cov_cons rfl ?_ cv)) (Ent.refl _)
  rw [cat_succ _ _ hlt,List.length_append];simp
 ·have:i=ls.length:=by omega
  subst this
  rw [List.take_length]
  repeat' (first|intro _|refine cw ?_|refine cw2 ?_ ?_|(refine k_fn 158 ?_;(refine o1_call (fun _=>slices_Grow _ (cat ls).length hb) rfl (fun ⟨a0,c0⟩ _=>?_);dsimp only))|refine ow ?_|refine ow2 ?_ ?_|fail)
  refine st_loop (S:=Nat × Option Addr × Nat) (fun s=>[(6,.slice s.2.1 (cat (ls.take s.1)).length s.2.2),(25,.slice ad ls.length c),(26,I ls.length),(27,I s.1)]) (fun s=>[.row 5 1 (.slice s.2.1 (cat (ls.take s.1)).length s.2.2) (cat (ls.take s.1)).length ((cat (ls.take s.1)).map B),.any (stars H)]) (fun s=>s.1≤ls.length) (fun s=>ls.length - s.1) (0,a0,c0) (by omega)
   cv (Ent.refl _) ?_
  rintro ⟨i,a1,c1⟩ hi
  dsimp only at hi ⊢
  have hi1:=hle (i+1)
  by_cases hlt:i<ls.length
  ·have hsi:=hs ls[i] (List.getElem_mem _)
   rw [cat_succ _ _ hlt,List.length_append] at hi1
   repeat' (first|intro _|refine cw ?_|refine cw2 ?_ ?_|(refine k_indexAddr ?_;refine o1_indexAddr_rd rfl rfl h i rfl hlt (fun a ha=>?_))|(refine k_call ?_;refine ox_append rfl rfl (rx_any hsi) rfl rfl (fun _=>rfl) (by omega) (by omega) (fun a2 c2=>?_))|refine ow ?_|refine ow2 ?_ ?_|fail)
   refine nx_again (i+1,a2,c2) ?_ ?_ (cov_cons rfl ?_ cv) ?_
   ·show i+1≤_;omega
   ·show ls.length - (i+1)<ls.length - i;omega
   ·show _=Value.slice a2 (cat (ls.take (i+1))).length c2
    rw [cat_succ _ _ hlt,List.length_append]
   ·show Ent _ [Hl.row 5 1 (.slice a2 (cat (ls.take (i+1))).length c2) (cat (ls.take (i+1))).length ((cat (ls.take (i+1))).map B),.any (stars H)]
    rw [cat_succ _ _ hlt,List.length_append]
    exact Ent.refl _
  ·have:i=ls.length:=by omega
   subst this
   repeat' (first|intro _|refine cw ?_|refine cw2 ?_ ?_|refine ow ?_|refine ow2 ?_ ?_|fail)
   simp only [List.take_length]
   refine rt_tmp (_,_) rfl rfl rfl trivial ?_
   exact ent
theorem mf_wide (H:List Hl) (x:BitVec 32):Spec Tryz.prog 127 [W4 x] H (fun _:Nat=>True) (fun b => .slice (some ⟨b,0,none⟩) 4 4) (fun b => .box b 5 ((be4 x).map B)::H):=by
 refine spec_pure (res:=fun b:Nat=>[.box b 5 ((be4 x).map B)]) H Tryz.func127 rfl Tryz.ntmps127 (by kernel_rfl) rfl (fun W=>?_)
 repeat' (first|intro _|refine cw ?_|refine cw2 ?_ ?_|refine ow ?_|refine ow2 ?_ ?_|fail)
 refine rt_tmp _ rfl rfl rfl trivial ?_
 exact ent
theorem mf_number (H:List Hl) (ad:Option Addr) (c:Nat) (l:List (BitVec 8)) (h:Rs (stars H) B ad c l):Spec Tryz.prog 147 [.slice ad l.length c] H (fun _:Unit=>True) (fun _=>W4 (num32 l)) (fun _=>H):=by
 have b1:=h.le
 have b2:=h.big
 refine spec_pure (res:=fun _=>[]) H Tryz.func147 rfl Tryz.ntmps147 (by kernel_rfl) rfl (fun W=>?_)
 repeat' (first|intro _|refine cw ?_|refine cw2 ?_ ?_|refine ow ?_|refine ow2 ?_ ?_|fail)
 refine st_loop (S:=Nat) (fun i=>[(3,W4 (num32 (l.take i))),(6,.slice ad l.length c),(7,I l.length),(8,I i)]) (fun _=>_) (fun i=>i≤l.length) (fun i=>l.length - i) 0 (by omega)
  cv (Ent.refl _) ?_
 intro i hi
 repeat' (first|intro _|refine cw ?_|refine cw2 ?_ ?_|(refine k_indexAddr ?_;refine o1_indexAddr_rd rfl rfl h i rfl (by omega) (fun a ha=>?_))|refine ow ?_|refine ow2 ?_ ?_|fail)
 ·refine nx_again (i+1) (by omega) (by omega) (cov_cons rfl ?_ cv) (Ent.refl _)
  rw [num32_succ _ _ (by omega)];rfl
 ·have:i=l.length:=by omega
  subst this
  refine rt_tmp () rfl rfl ?_ trivial ?_
  ·rw [List.take_length]
  ·exact ent
def rtG2_0:List Row:=[⟨some 7,[],[],none⟩,⟨some 8,[0],[0],none⟩,⟨some 9,[1],[0,1],none⟩,⟨some 10,[],[],none⟩,⟨some 11,[3],[3],none⟩,⟨some 12,[4,2],[0,1,2,3,4],none⟩,⟨some 13,[],[],none⟩,⟨some 14,[6],[6],none⟩,⟨some 15,[7],[6,7],none⟩,⟨some 16,[8],[6,7,8],none⟩,⟨some 17,[],[],none⟩,⟨some 18,[10],[10],none⟩,⟨some 19,[11],[10,11],none⟩,⟨some 20,[],[],none⟩,⟨some 21,[13],[13],none⟩,⟨some 22,[14],[13,14],none⟩,⟨some 23,[],[],none⟩,⟨some 24,[16],[16],none⟩,⟨some 25,[17],[16,17],none⟩,⟨some 26,[9,12,15,18],[6,7,8,9,10,11,12,13,14,15,16,17,18],none⟩,⟨some 27,[],[],none⟩,⟨some 28,[20],[20],none⟩,⟨some 29,[2,5,19,21],[0,1,2,3,4,5,6,7,8,9,10,11,12,13,14,15,16,17,18,19,20,21],none⟩,⟨some 30,[22,5],[0,1,2,3,4,5,6,7,8,9,10,11,12,13,14,15,16,17,18,19,20,21,22],none⟩,⟨some 2,[23,23,0,1,2,3,4,5,6,7,8,9,10,11,12,13,14,15,16,17,18,19,20,21,22,23],[0,1,2,3,4,5,6,7,8,9,10,11,12,13,14,15,16,17,18,19,20,21,22,23],none⟩,⟨some 3,[24,0,1,2,3,4,5,6,7,8,9,10,11,12,13,14,15,16,17,18,19,20,21,22,23,24],[0,1,2,3,4,5,6,7,8,9,10,11,12,13,14,15,16,17,18,19,20,21,22,23,24],none⟩]
def rtG2_1:List Row:=[⟨some 9,[],[],none⟩,⟨some 10,[0],[0],none⟩,⟨some 11,[1],[0,1],none⟩,⟨some 12,[],[],none⟩,⟨some 13,[3],[3],none⟩,⟨some 14,[4,2],[0,1,2,3,4],none⟩,⟨some 15,[],[],none⟩,⟨some 16,[6],[6],none⟩,⟨some 17,[7,5],[0,1,2,3,4,5,6,7],none⟩,⟨some 18,[8],[0,1,2,3,4,5,6,7,8],none⟩,⟨some 19,[],[],none⟩,⟨some 20,[10],[10],none⟩,⟨some 21,[11],[10,11],none⟩,⟨some 22,[12],[10,11,12],none⟩,⟨some 23,[],[],none⟩,⟨some 24,[14],[14],none⟩,⟨some 25,[15],[14,15],none⟩,⟨some 26,[16],[14,15,16],none⟩,⟨some 27,[],[],none⟩,⟨some 28,[18],[18],none⟩,⟨some 29,[19,8],[0,1,2,3,4,5,6,7,8,18,19],none⟩,⟨some 30,[2,5,9,13,17,20],[0,1,2,3,4,5,6,7,8,9,10,11,12,13,14,15,16,17,18,19,20],none⟩,⟨some 4,[],[],none⟩,⟨none,[22,21,20,0,1,2,3,4,5,6,7,8,9,10,11,12,13,14,15,16,17,18,19,20,21,22],[0,1,2,3,4,5,6,7,8,9,10,11,12,13,14,15,16,17,18,19,20,21,22],none⟩]
def rtG2_2:List Row:=[⟨some 9,[],[],none⟩,⟨some 10,[0],[0],none⟩,⟨some 11,[1],[0,1],none⟩,⟨some 12,[],[],none⟩,⟨some 13,[3],[3],none⟩,⟨some 14,[4,2],[0,1,2,3,4],none⟩,⟨some 15,[],[],none⟩,⟨some 16,[6],[6],none⟩,⟨some 17,[7,5],[0,1,2,3,4,5,6,7],none⟩,⟨some 18,[8],[0,1,2,3,4,5,6,7,8],none⟩,⟨some 19,[],[],none⟩,⟨some 20,[10],[10],none⟩,⟨some 21,[11],[10,11],none⟩,⟨some 22,[12],[10,11,12],none⟩,⟨some 23,[],[],none⟩,⟨some 24,[14],[14],none⟩,⟨some 25,[15],[14,15],none⟩,⟨some 26,[16],[14,15,16],none⟩,⟨some 27,[],[],none⟩,⟨some 28,[18],[18],none⟩,⟨some 29,[19,8],[0,1,2,3,4,5,6,7,8,18,19],none⟩,⟨some 30,[2,5,9,13,17,20],[0,1,2,3,4,5,6,7,8,9,10,11,12,13,14,15,16,17,18,19,20],none⟩,⟨some 4,[],[],none⟩,⟨none,[22,21,20,0,1,2,3,4,5,6,7,8,9,10,11,12,13,14,15,16,17,18,19,20,21,22],[0,1,2,3,4,5,6,7,8,9,10,11,12,13,14,15,16,17,18,19,20,21,22],none⟩]
abbrev rowB (r:PA) (l:List (BitVec 8)):Hl := .row 5 1 (.slice r.1 l.length r.2) l.length (l.map B)
abbrev mid4 (x:ManD):List (BitVec 8):=[BitVec.ofInt 8 (x.n / 256),BitVec.ofInt 8 x.n,BitVec.ofInt 8 x.z,BitVec.ofInt 8 x.p]
def ManD.by (x:ManD):List (BitVec 8):=be4 x.s++(be4 x.v++(mid4 x++x.h.l))
theorem by_cat (x:ManD) (a1 a2 a3 a4:Option Addr) (c1 c2 c3 c4:Nat):cat [⟨a1,c1,be4 x.s⟩,⟨a2,c2,be4 x.v⟩,⟨a3,c3,mid4 x⟩,⟨a4,c4,x.h.l⟩]=x.by:=by simp [cat,ManD.by]
theorem by_len (x:ManD):x.by.length=12+x.h.l.length:=by simp [ManD.by,be4,mid4];omega
theorem may_len {x:ManD} (h:x.may=true):x.h.l.length=32:=by
 simp only [ManD.may,Bool.and_eq_true,decide_eq_true_eq] at h;exact h.2
set_option maxHeartbeats 2000000 in
theorem mf_Plain (H:List Hl) (x:ManD) (h:x.may=true) (hr:RdS (stars H) x.h):Spec Tryz.prog 81 [x.V] H (fun _:PA=>True) (fun r => .tuple #[.slice r.1 x.by.length r.2,I 0]) (fun r=>rowB r x.by::H):=by
 refine spec_pure (res:=fun r:PA=>[rowB r x.by]) H Tryz.func81 rfl Tryz.ntmps81 (by kernel_rfl) rfl (fun W=>?_)
 have hl:=may_len h
 repeat' (first|intro _|refine cw ?_|refine cw2 ?_ ?_|(refine k_fn 57 ?_;refine o1_call (fun _=>(mf_May _ x).bv (b:=true) h) rfl (fun _ _=>?_))|refine ow ?_|refine ow2 ?_ ?_|fail)
 refine st_tree' [(1,_)] rtG2_0 [2,5,19,22,23] (.alt [0,1,3,4,6,7,8,9,10,11,12,13,14,15,16,17,18,20,21] [] 2 (.alt [] [3,4,6,7,8,9,10,11,12,13,14,15,16,17,18,20,21] 5 (.step [] [6,7,8,9,10,11,12,13,14,15,16,17,18,20,21] 19 (.step [] [20,21] 22 (.step [] [] 23 (.fin [24,25] [])))) 19 (.step [] [3,4,20,21] 5 (.step [] [20,21] 22 (.step [] [] 23 (.fin [24,25] []))))) 19 (.step [] [0,1,3,4,20,21] 2 (.step [] [3,4,20,21] 5 (.step [] [20,21] 22 (.step [] [] 23 (.fin [24,25] [])))))) mixed cv (by kernel_rfl) (by kernel_rfl) ?_
 repeat' (first|intro _|refine sg ?_|(refine p_binOp .shr ?_;refine po (by first|refine o1_ishr8 rfl rfl fz|fail) ?_)|refine pw ?_|refine pdd ?_|(refine k_fn 127 ?_;first|refine o1_call (fun _=>mf_wide _ x.s) rfl (fun b1 _=>?_)|refine o1_call (fun _=>mf_wide _ x.v) rfl (fun b2 _=>?_))|(refine k_buildSlice ?_;first|refine o1_lit_B rfl rfl rfl rfl rfl (fun b3=>?_)|refine o1_lit_enc Bs [⟨some ⟨b1,0,none⟩,4,be4 x.s⟩,⟨some ⟨b2,0,none⟩,4,be4 x.v⟩,⟨some ⟨b3,0,none⟩,4,mid4 x⟩,x.h] rfl rfl rfl (fun _=>rfl) rfl rfl rfl (fun b4=>?_))|(refine k_fn 111 ?_;(refine o1_call (fun hh=>slices_Concat _ _ _ [⟨some ⟨b1,0,none⟩,4,be4 x.s⟩,⟨some ⟨b2,0,none⟩,4,be4 x.v⟩,⟨some ⟨b3,0,none⟩,4,mid4 x⟩,x.h] (rx_lit rfl rfl hh) (fa_cons (rx_lit rfl rfl hh) (fa_cons (rx_lit rfl rfl hh) (fa_cons (rx_lit rfl rfl hh) (fa_cons (Rs.up hr) fa_nil)))) (by rw [by_cat,by_len];omega)) rfl (fun ⟨a5,c5⟩ _=>?_);dsimp only;rw [by_cat]))|refine ow ?_|refine And.intro ?_ ?_|fail)
 all_goals dsimp only [List.cons_append,List.nil_append]
 all_goals
  repeat' (first|intro _|refine cw ?_|refine cw2 ?_ ?_|refine ow ?_|refine ow2 ?_ ?_|fail)
  refine rt_tmp2 (a5,c5) rfl rfl rfl rfl trivial ?_
  exact ent
def manO (l:List (BitVec 8)) (r:PA):ManD:=⟨num32 ((l.take 4).drop 0),num32 ((l.take 8).drop 4),((num32 ((l.take 10).drop 8)).toNat:Int),(((l.getD 10 0#8)).toNat:Int),(((l.getD 11 0#8)).toNat:Int),⟨r.1,r.2,l.drop 12⟩⟩
theorem getD_at {l:List (BitVec 8)} {i:Nat} (h:i<l.length):l.getD i 0#8=l[i]:=by simp [List.getD_eq_getElem?_getD,h]
theorem mf_Read_len (H:List Hl) (ad:Option Addr) (c:Nat) (l:List (BitVec 8)) (h:l.length≠44):Spec Tryz.prog 96 [.slice ad l.length c] H (fun _:Unit=>True) (fun _ => .tuple #[zM.V,I 3]) (fun _=>H):=by
 refine spec_pure (res:=fun _=>[]) H Tryz.func96 rfl Tryz.ntmps96 (by kernel_rfl) rfl (fun W=>?_)
 repeat' (first|intro _|refine cw ?_|refine cw2 ?_ ?_|refine ow ?_|refine ow2 ?_ ?_|fail)
 refine rt_cell_tmp () rfl rfl rfl rfl rfl trivial ?_
 exact ent
set_option maxHeartbeats 4000000 in
theorem mf_Read (H:List Hl) (ad:Option Addr) (c:Nat) (l:List (BitVec 8)) (h:Rs (stars H) B ad c l) (hl:l.length=44) (hm:(manO l (none,0)).may=true) :
  Spec Tryz.prog 96 [.slice ad l.length c] H (fun _:PA=>True) (fun r => .tuple #[(manO l r).V,I 0]) (fun r=>rowB r (l.drop 12)::H):=by
 refine spec_pure (res:=fun r:PA=>[rowB r (l.drop 12)]) H Tryz.func96 rfl Tryz.ntmps96 (by kernel_rfl) rfl (fun W=>?_)
 repeat' (first|intro _|refine cw ?_|refine cw2 ?_ ?_|refine ow ?_|refine ow2 ?_ ?_|fail)
 have k10:l.getD 10 0#8=l[10]:=getD_at (by omega)
 have k11:l.getD 11 0#8=l[11]:=getD_at (by omega)
 refine st_tree' [(0,_)] rtG2_1 [20,22,23] (.alt [0,1,2,3,4,5,6,7,8,9,10,11,12,13,14,15,16,17,18,19] [] 20 (.step [21] [9,10,11,12,13,14,15,16,17] 22 (.step [] [9,10,11,12,13,14,15,16,17,21] 23 (.fin [] []))) 22 (.step [] [0,1,2,3,4,5,6,7,8,9,10,11,12,13,14,15,16,17,18,19] 20 (.step [21] [9,10,11,12,13,14,15,16,17] 23 (.fin [] [])))) mixed cv (by kernel_rfl) (by kernel_rfl) ?_
 repeat' (first|intro _|refine sg ?_|(refine p_slice ?_;refine po (by first|refine o1_cv_h rfl rfl h rfl (by omega) (by omega) fz|refine o1_cv_lh rfl rfl rfl h rfl (by omega) (by omega) fz|refine o1_cv_l rfl rfl h rfl (by omega) (by omega) fz|fail) ?_)|(refine p_fn 147 ?_;refine po (by first|refine o1_call (fun _=>mf_number _ _ _ _ (Rs.up (h.cutv 0 4 (by omega) (by omega)))) rfl (fun _ _=>fz)|refine o1_call (fun _=>mf_number _ _ _ _ (Rs.up (h.cutv 4 8 (by omega) (by omega)))) rfl (fun _ _=>fz)|refine o1_call (fun _=>mf_number _ _ _ _ (Rs.up (h.cutv 8 10 (by omega) (by omega)))) rfl (fun _ _=>fz)|fail) ?_)|(refine p_indexAddr ?_;refine po (by first|refine o1_ia 10 rfl rfl h rfl rfl (by omega) fz|refine o1_ia 11 rfl rfl h rfl rfl (by omega) fz|fail) ?_)|(refine p_load ?_;refine po (by first|refine o1_load_ia 10 rfl h (by omega) fz|refine o1_load_ia 11 rfl h (by omega) fz|fail) ?_)|refine pw ?_|refine pdd ?_|(refine k_fn 29 ?_;(refine o1_call (fun _=>slices_Clone _ _ _ (l.drop 12) (Rs.up (h.cutl 12 (by omega))) (by simp;omega)) rfl (fun ⟨a5,c5⟩ _=>?_);dsimp only))|refine ow ?_|refine And.intro ?_ ?_|fail)
 all_goals dsimp only [List.cons_append,List.nil_append]
 all_goals
  repeat' (first|intro _|refine cw ?_|refine cw2 ?_ ?_|(refine k_fn 57 ?_;refine o1_call (fun _=>(mf_May _ ⟨num32 ((l.take 4).drop 0),num32 ((l.take 8).drop 4),((num32 ((l.take 10).drop 8)).toNat:Int),(l[10].toNat:Int),(l[11].toNat:Int),⟨a5,c5,l.drop 12⟩⟩).bv (b:=true) (by rw [←k10,←k11];exact hm)) rfl (fun _ _=>?_))|refine ow ?_|refine ow2 ?_ ?_|fail)
  refine rt_cell_tmp (a5,c5) rfl rfl rfl rfl (by simp only [manO,k10,k11];rfl) trivial ?_
  exact ent
set_option maxHeartbeats 4000000 in
theorem mf_Read_no (H:List Hl) (ad:Option Addr) (c:Nat) (l:List (BitVec 8)) (h:Rs (stars H) B ad c l) (hl:l.length=44) (hm:(manO l (none,0)).may=false) :
  Spec Tryz.prog 96 [.slice ad l.length c] H (fun _:Unit=>True) (fun r => .tuple #[zM.V,I 3]) (fun r=>H):=by
 refine spec_pure (res:=fun _:Unit=>[]) H Tryz.func96 rfl Tryz.ntmps96 (by kernel_rfl) rfl (fun W=>?_)
 repeat' (first|intro _|refine cw ?_|refine cw2 ?_ ?_|refine ow ?_|refine ow2 ?_ ?_|fail)
 have k10:l.getD 10 0#8=l[10]:=getD_at (by omega)
 have k11:l.getD 11 0#8=l[11]:=getD_at (by omega)
 refine st_tree' [(0,_)] rtG2_2 [20,22,23] (.alt [0,1,2,3,4,5,6,7,8,9,10,11,12,13,14,15,16,17,18,19] [] 20 (.step [21] [9,10,11,12,13,14,15,16,17] 22 (.step [] [9,10,11,12,13,14,15,16,17,21] 23 (.fin [] []))) 22 (.step [] [0,1,2,3,4,5,6,7,8,9,10,11,12,13,14,15,16,17,18,19] 20 (.step [21] [9,10,11,12,13,14,15,16,17] 23 (.fin [] [])))) mixed cv (by kernel_rfl) (by kernel_rfl) ?_
 repeat' (first|intro _|refine sg ?_|(refine p_slice ?_;refine po (by first|refine o1_cv_h rfl rfl h rfl (by omega) (by omega) fz|refine o1_cv_lh rfl rfl rfl h rfl (by omega) (by omega) fz|refine o1_cv_l rfl rfl h rfl (by omega) (by omega) fz|fail) ?_)|(refine p_fn 147 ?_;refine po (by first|refine o1_call (fun _=>mf_number _ _ _ _ (Rs.up (h.cutv 0 4 (by omega) (by omega)))) rfl (fun _ _=>fz)|refine o1_call (fun _=>mf_number _ _ _ _ (Rs.up (h.cutv 4 8 (by omega) (by omega)))) rfl (fun _ _=>fz)|refine o1_call (fun _=>mf_number _ _ _ _ (Rs.up (h.cutv 8 10 (by omega) (by omega)))) rfl (fun _ _=>fz)|fail) ?_)|(refine p_indexAddr ?_;refine po (by first|refine o1_ia 10 rfl rfl h rfl rfl (by omega) fz|refine o1_ia 11 rfl rfl h rfl rfl (by omega) fz|fail) ?_)|(refine p_load ?_;refine po (by first|refine o1_load_ia 10 rfl h (by omega) fz|refine o1_load_ia 11 rfl h (by omega) fz|fail) ?_)|refine pw ?_|refine pdd ?_|(refine k_fn 29 ?_;(refine o1_call (fun _=>slices_Clone _ _ _ (l.drop 12) (Rs.up (h.cutl 12 (by omega))) (by simp;omega)) rfl (fun ⟨a5,c5⟩ _=>?_);dsimp only))|refine ow ?_|refine And.intro ?_ ?_|fail)
 all_goals dsimp only [List.cons_append,List.nil_append]
 all_goals
  repeat' (first|intro _|refine cw ?_|refine cw2 ?_ ?_|(refine k_fn 57 ?_;refine o1_call (fun _=>(mf_May _ ⟨num32 ((l.take 4).drop 0),num32 ((l.take 8).drop 4),((num32 ((l.take 10).drop 8)).toNat:Int),(l[10].toNat:Int),(l[11].toNat:Int),⟨a5,c5,l.drop 12⟩⟩).bv (b:=false) (by rw [←k10,←k11];exact hm)) rfl (fun _ _=>?_))|refine ow ?_|refine ow2 ?_ ?_|fail)
  refine rt_cell_tmp () rfl rfl rfl rfl rfl trivial ?_
  exact ent
def rtG4_0:List Row:=[⟨some 12,[],[],none⟩,⟨some 13,[0],[0],none⟩,⟨some 14,[1],[0,1],none⟩,⟨some 15,[],[],none⟩,⟨some 16,[3],[3],none⟩,⟨some 17,[4],[3,4],none⟩,⟨some 18,[2,5],[0,1,2,3,4,5],none⟩,⟨some 19,[],[],none⟩,⟨some 20,[7],[7],none⟩,⟨some 21,[8],[7,8],none⟩,⟨some 22,[],[],none⟩,⟨some 23,[10],[10],none⟩,⟨some 24,[11,9],[7,8,9,10,11],none⟩,⟨some 25,[6,9,12],[0,1,2,3,4,5,6,7,8,9,10,11,12],none⟩,⟨some 26,[13,12],[0,1,2,3,4,5,6,7,8,9,10,11,12,13],none⟩,⟨some 4,[14,14,0,1,2,3,4,5,6,7,8,9,10,11,12,13,14],[0,1,2,3,4,5,6,7,8,9,10,11,12,13,14],none⟩]
def rtG4_1:List Row:=[⟨some 37,[],[],none⟩,⟨some 38,[],[],none⟩,⟨some 39,[],[],none⟩,⟨some 40,[2],[2],none⟩,⟨some 41,[3],[2,3],none⟩,⟨some 42,[],[],none⟩,⟨some 43,[5],[5],none⟩,⟨some 44,[6],[5,6],none⟩,⟨some 45,[7],[5,6,7],none⟩,⟨some 46,[],[],none⟩,⟨some 47,[9],[9],none⟩,⟨some 48,[10],[9,10],none⟩,⟨some 49,[8,11],[5,6,7,8,9,10,11],none⟩,⟨some 50,[],[],none⟩,⟨some 51,[13],[13],none⟩,⟨some 52,[0,1,4,12,14],[0,1,2,3,4,5,6,7,8,9,10,11,12,13,14],none⟩,⟨some 53,[15,4],[0,1,2,3,4,5,6,7,8,9,10,11,12,13,14,15],none⟩,⟨some 4,[16,16,0,1,2,3,4,5,6,7,8,9,10,11,12,13,14,15,16],[0,1,2,3,4,5,6,7,8,9,10,11,12,13,14,15,16],none⟩]
def rtG4_2:List Row:=[⟨some 37,[],[],none⟩,⟨some 38,[],[],none⟩,⟨some 39,[],[],none⟩,⟨some 40,[2],[2],none⟩,⟨some 41,[3],[2,3],none⟩,⟨some 42,[],[],none⟩,⟨some 43,[5],[5],none⟩,⟨some 44,[6],[5,6],none⟩,⟨some 45,[7],[5,6,7],none⟩,⟨some 46,[],[],none⟩,⟨some 47,[9],[9],none⟩,⟨some 48,[10],[9,10],none⟩,⟨some 49,[8,11],[5,6,7,8,9,10,11],none⟩,⟨some 50,[],[],none⟩,⟨some 51,[13],[13],none⟩,⟨some 52,[0,1,4,12,14],[0,1,2,3,4,5,6,7,8,9,10,11,12,13,14],none⟩,⟨some 53,[15,4],[0,1,2,3,4,5,6,7,8,9,10,11,12,13,14,15],none⟩,⟨some 4,[16,16,0,1,2,3,4,5,6,7,8,9,10,11,12,13,14,15,16],[0,1,2,3,4,5,6,7,8,9,10,11,12,13,14,15,16],none⟩]
theorem may_light' {x:StD} (h:x.may=true):x.light:=by
 rcases Classical.em x.light with hl|hl
 ·exact hl
 ·rw [StD.heavy hl] at h;cases h
theorem st_may_m {x:StD} (h:x.may=true):(if x.on then x.m.may else x.m.none)=true:=by
 simp only [StD.may,Bool.and_eq_true] at h
 exact h.2
def SlotD.by (x:SlotD):List (BitVec 8):=if x.nothing then [0#8] else 1#8::(be4 x.v++(be2 x.n++x.h.l))
def StD.head (x:StD):List (BitVec 8):=[BitVec.ofInt 8 x.a,BitVec.ofInt 8 x.t]++(be4 x.f++be4 x.g)
def StD.tail (x:StD):List (BitVec 8):=if x.on then 1#8::x.m.by else [0#8]
def StD.by (x:StD):List (BitVec 8):=((x.head++x.s0.by)++x.s1.by)++x.tail
theorem slot_by_no {x:SlotD} (h:x.nothing=true):x.by=[0#8]:=if_pos h
theorem slot_by_yes {x:SlotD} (h:x.nothing=false):x.by=1#8::(be4 x.v++(be2 x.n++x.h.l)):=if_neg (by simp [h])
theorem slot_by_len (x:SlotD):x.by.length≤7+x.h.l.length:=by
 unfold SlotD.by
 split
 ·simp;omega
 ·simp [be4,be2];omega
theorem head_len (x:StD):x.head.length=10:=rfl
theorem head_cat (x:StD) (a1 a2 a3:Option Addr) (c1 c2 c3:Nat):cat [⟨a1,c1,[BitVec.ofInt 8 x.a,BitVec.ofInt 8 x.t]⟩,⟨a2,c2,be4 x.f⟩,⟨a3,c3,be4 x.g⟩]=x.head:=by simp [cat,StD.head]
theorem slot_cat {x:SlotD} (h:x.nothing=false) (p:List (BitVec 8)) (a1 a2 a3 a4 a5:Option Addr) (c1 c2 c3 c4 c5:Nat):cat [⟨a1,c1,p⟩,⟨a2,c2,[1#8]⟩,⟨a3,c3,be4 x.v⟩,⟨a4,c4,be2 x.n⟩,⟨a5,c5,x.h.l⟩]=p++x.by:=by rw [slot_by_yes h];simp [cat]
theorem tail_cat (m:ManD) (p:List (BitVec 8)) (a1 a2 a3:Option Addr) (c1 c2 c3:Nat):cat [⟨a1,c1,p⟩,⟨a2,c2,[1#8]⟩,⟨a3,c3,m.by⟩]=p++(1#8::m.by):=by simp [cat]
theorem st_word (H:List Hl) (x:BitVec 32):Spec Tryz.prog 112 [W4 x] H (fun _:Nat=>True) (fun b => .slice (some ⟨b,0,none⟩) 4 4) (fun b => .box b 5 ((be4 x).map B)::H):=by
 refine spec_pure (res:=fun b:Nat=>[.box b 5 ((be4 x).map B)]) H Tryz.func112 rfl Tryz.ntmps112 (by kernel_rfl) rfl (fun W=>?_)
 repeat' (first|intro _|refine cw ?_|refine cw2 ?_ ?_|refine ow ?_|refine ow2 ?_ ?_|fail)
 refine rt_tmp _ rfl rfl rfl trivial ?_
 exact ent
abbrev arrV (x:StD):Value := .agg #[W4 x.s0.v,I x.s0.n,Bs x.s0.h,W4 x.s1.v,I x.s1.n,Bs x.s1.h]
set_option maxHeartbeats 8000000 in
theorem st_Bytes (H:List Hl) (x:StD) (hm:x.may=true) (hx:x.Rd (stars H)):Spec Tryz.prog 67 [x.V] H (fun _:PA=>True) (fun r => .tuple #[.slice r.1 x.by.length r.2,I 0]) (fun r=>rowB r x.by::H):=by
 refine spec_pure (res:=fun r:PA=>[rowB r x.by]) H Tryz.func67 rfl Tryz.ntmps67 (by kernel_rfl) rfl (fun W=>?_)
 have e0:=hx.s0
 have e1:=hx.s1
 have e2:=hx.m
 have hl:=may_light' hm
 have hl0:=slot_by_len x.s0
 have hl1:=slot_by_len x.s1
 have hlh:=head_len x
 obtain ⟨q0,q1,q2⟩:=hl
 have hl01:(x.head++x.s0.by).length≤117:=by rw [List.length_append];omega
 have hl02:((x.head++x.s0.by)++x.s1.by).length≤224:=by rw [List.length_append];omega
 repeat' (first|intro _|refine cw ?_|refine cw2 ?_ ?_|(refine k_fn 97 ?_;refine o1_call (fun _=>(st_May _ x).bv (b:=true) hm) rfl (fun _ _=>?_))|refine ow ?_|refine ow2 ?_ ?_|fail)
 rename_i b1 _ _
 refine st_viaK (X:=PA) (fun r=>[(1,.pointer (some ⟨b1,0,none⟩)),(4,.slice r.1 x.head.length r.2)]) (fun r=>[.box b1 51 x.c,rowB r x.head,.any (stars H)]) ?rest ?walk
 case walk =>
  intro k' via
  refine st_tree' [(1,_)] rtG4_0 [6,9,12,13,14] (.alt [0,1,2,3,4,5,7,8,10,11] [] 6 (.step [] [7,8,10,11] 9 (.step [] [10,11] 12 (.step [] [] 13 (.step [] [] 14 (.fin [15] []))))) 9 (.alt [] [0,1,2,3,4,5,10,11] 6 (.step [] [10,11] 12 (.step [] [] 13 (.step [] [] 14 (.fin [15] [])))) 12 (.step [] [0,1,2,3,4,5] 6 (.step [] [] 13 (.step [] [] 14 (.fin [15] [])))))) mixed cv (by kernel_rfl) (by kernel_rfl) ?_
  repeat' (first|intro _|refine sg ?_|refine pw ?_|refine pdd ?_|(refine k_fn 112 ?_;first|refine o1_call (fun _=>st_word _ x.f) rfl (fun b2 _=>?_)|refine o1_call (fun _=>st_word _ x.g) rfl (fun b3 _=>?_))|(refine k_buildSlice ?_;first|refine o1_lit_enc B [BitVec.ofInt 8 x.a,BitVec.ofInt 8 x.t] rfl rfl rfl (fun _=>rfl) rfl rfl rfl (fun b4=>?_)|refine o1_lit_enc Bs [⟨some ⟨b4,0,none⟩,2,[BitVec.ofInt 8 x.a,BitVec.ofInt 8 x.t]⟩,⟨some ⟨b2,0,none⟩,4,be4 x.f⟩,⟨some ⟨b3,0,none⟩,4,be4 x.g⟩] rfl rfl rfl (fun _=>rfl) rfl rfl rfl (fun b5=>?_))|(refine k_fn 111 ?_;(refine o1_call (fun hh=>slices_Concat _ _ _ [⟨some ⟨b4,0,none⟩,2,[BitVec.ofInt 8 x.a,BitVec.ofInt 8 x.t]⟩,⟨some ⟨b2,0,none⟩,4,be4 x.f⟩,⟨some ⟨b3,0,none⟩,4,be4 x.g⟩] (rx_lit rfl rfl hh) (fa_cons (rx_lit rfl rfl hh) (fa_cons (rx_lit rfl rfl hh) (fa_cons (rx_lit rfl rfl hh) fa_nil))) (by rw [head_cat];omega)) rfl (fun ⟨a5,c5⟩ _=>?_);dsimp only;rw [head_cat]))|refine ow ?_|refine And.intro ?_ ?_|fail)
  all_goals dsimp only [List.cons_append,List.nil_append]
  all_goals exact via (a5,c5) _ _ cv ent
 case rest =>
  rintro ⟨a0,c0⟩
  dsimp only
  repeat' (first|intro _|refine cwb ?_|refine cw2 ?_ ?_|refine ow ?_|refine ow2 ?_ ?_|fail)
  refine st_block ?_
  refine st_rounds 2 ?_
  repeat' (first|intro _|refine cwb ?_|refine cw2 ?_ ?_|refine ow ?_|refine ow2 ?_ ?_|fail)
  refine st_viaK (X:=PA) (fun r=>[(1,.pointer (some ⟨b1,0,none⟩)),(4,.slice r.1 (x.head++x.s0.by).length r.2),(28,arrV x),(29,I 0)]) (fun r=>[.box b1 51 x.c,rowB r (x.head++x.s0.by),.any (stars H)]) ?restA ?walkA
  case walkA =>
   intro k' via
   cases hn:x.s0.nothing
   ·repeat' (first|intro _|refine cw ?_|refine cw2 ?_ ?_|(refine k_index ?_;refine o1_index_agg 0 rfl rfl rfl (by decide) (by simp only [Nat.zero_mul,Nat.one_mul,Nat.reduceMul,List.drop_zero,List.drop_succ_cons,List.take_succ_cons,List.take_zero];rfl) ?_)|(refine k_fn 113 ?_;refine o1_call (fun _=>(st_nothing _ x.s0).bv (b:=false) hn) rfl (fun _ _=>?_))|refine ow ?_|refine ow2 ?_ ?_|fail)
    refine st_tree' [(4,_),(6,_)] rtG4_1 [1,4,12,15,16] (.alt3 [0,2,3,5,6,7,8,9,10,11,13,14] [] 1 (.alt [] [0,2,3,5,6,7,8,9,10,11,13,14] 4 (.step [] [0,5,6,7,8,9,10,11,13,14] 12 (.step [] [0,13,14] 15 (.step [] [] 16 (.fin [17] [])))) 12 (.step [] [0,2,3,13,14] 4 (.step [] [0,13,14] 15 (.step [] [] 16 (.fin [17] []))))) 4 (.alt [] [0,5,6,7,8,9,10,11,13,14] 1 (.step [] [0,5,6,7,8,9,10,11,13,14] 12 (.step [] [0,13,14] 15 (.step [] [] 16 (.fin [17] [])))) 12 (.step [] [0,13,14] 1 (.step [] [0,13,14] 15 (.step [] [] 16 (.fin [17] []))))) 12 (.alt [] [0,2,3,13,14] 1 (.step [] [0,2,3,13,14] 4 (.step [] [0,13,14] 15 (.step [] [] 16 (.fin [17] [])))) 4 (.step [] [0,13,14] 1 (.step [] [0,13,14] 15 (.step [] [] 16 (.fin [17] [])))))) mixed cv (by kernel_rfl) (by kernel_rfl) ?_
    repeat' (first|intro _|refine sg ?_|(refine p_binOp .shr ?_;refine po (by first|refine o1_ishr8 rfl rfl fz|fail) ?_)|refine pw ?_|refine pdd ?_|(refine k_fn 112 ?_;refine o1_call (fun _=>st_word _ x.s0.v) rfl (fun b2 _=>?_))|(refine k_buildSlice ?_;first|refine o1_lit_enc B [1#8] rfl rfl rfl (fun _=>rfl) rfl rfl rfl (fun b3=>?_)|refine o1_lit_enc B (be2 x.s0.n) rfl rfl rfl (fun _=>rfl) rfl rfl rfl (fun b4=>?_)|refine o1_lit_enc Bs [⟨a0,c0,x.head⟩,⟨some ⟨b3,0,none⟩,1,[1#8]⟩,⟨some ⟨b2,0,none⟩,4,be4 x.s0.v⟩,⟨some ⟨b4,0,none⟩,2,be2 x.s0.n⟩,x.s0.h] rfl rfl rfl (fun _=>rfl) rfl rfl rfl (fun b5=>?_))|(refine k_fn 111 ?_;(refine o1_call (fun hh=>slices_Concat _ _ _ [⟨a0,c0,x.head⟩,⟨some ⟨b3,0,none⟩,1,[1#8]⟩,⟨some ⟨b2,0,none⟩,4,be4 x.s0.v⟩,⟨some ⟨b4,0,none⟩,2,be2 x.s0.n⟩,x.s0.h] (rx_lit rfl rfl hh) (fa_cons (rx_row (ad:=a0) (c:=c0) hh) (fa_cons (rx_lit rfl rfl hh) (fa_cons (rx_lit rfl rfl hh) (fa_cons (rx_lit rfl rfl hh) (fa_cons (Rs.up e0) fa_nil))))) (by rw [slot_cat hn];omega)) rfl (fun ⟨a5,c5⟩ _=>?_);dsimp only;rw [slot_cat hn]))|refine ow ?_|refine And.intro ?_ ?_|fail)
    all_goals dsimp only [List.cons_append,List.nil_append]
    all_goals (refine nx_blk ?_;exact via (a5,c5) _ _ cv ent)
   ·rw [slot_by_no hn] at via
    repeat' (first|intro _|refine cw ?_|refine cw2 ?_ ?_|(refine k_index ?_;refine o1_index_agg 0 rfl rfl rfl (by decide) (by simp only [Nat.zero_mul,Nat.one_mul,Nat.reduceMul,List.drop_zero,List.drop_succ_cons,List.take_succ_cons,List.take_zero];rfl) ?_)|(refine k_fn 113 ?_;refine o1_call (fun _=>(st_nothing _ x.s0).bv (b:=true) hn) rfl (fun _ _=>?_))|(refine k_buildSlice ?_;refine o1_lit_enc B [0#8] rfl rfl rfl (fun _=>rfl) rfl rfl rfl (fun b3=>?_))|(refine k_call ?_;refine ox_appendL (xs:=x.head) (ys:=[0#8]) rfl rfl (rx_box rfl (by decide)) rfl (fun _=>rfl) (by simp;omega) (by simp;omega) (fun a5 c5=>?_))|refine ow ?_|refine ow2 ?_ ?_|fail)
    exact via (a5,c5) _ _ cv ent
  case restA =>
   rintro ⟨a0,c0⟩
   dsimp only
   repeat' (first|intro _|refine cwb ?_|refine cw2 ?_ ?_|refine ow ?_|refine ow2 ?_ ?_|fail)
   refine st_viaK (X:=PA) (fun r=>[(1,.pointer (some ⟨b1,0,none⟩)),(4,.slice r.1 ((x.head++x.s0.by)++x.s1.by).length r.2),(28,arrV x),(29,I (0+1))]) (fun r=>[.box b1 51 x.c,rowB r ((x.head++x.s0.by)++x.s1.by),.any (stars H)]) ?restB ?walkB
   case walkB =>
    intro k' via
    cases hn:x.s1.nothing
    ·repeat' (first|intro _|refine cw ?_|refine cw2 ?_ ?_|(refine k_index ?_;refine o1_index_agg 1 rfl rfl rfl (by decide) (by simp only [Nat.zero_mul,Nat.one_mul,Nat.reduceMul,List.drop_zero,List.drop_succ_cons,List.take_succ_cons,List.take_zero];rfl) ?_)|(refine k_fn 113 ?_;refine o1_call (fun _=>(st_nothing _ x.s1).bv (b:=false) hn) rfl (fun _ _=>?_))|refine ow ?_|refine ow2 ?_ ?_|fail)
     refine st_tree' [(4,_),(6,_)] rtG4_2 [1,4,12,15,16] (.alt3 [0,2,3,5,6,7,8,9,10,11,13,14] [] 1 (.alt [] [0,2,3,5,6,7,8,9,10,11,13,14] 4 (.step [] [0,5,6,7,8,9,10,11,13,14] 12 (.step [] [0,13,14] 15 (.step [] [] 16 (.fin [17] [])))) 12 (.step [] [0,2,3,13,14] 4 (.step [] [0,13,14] 15 (.step [] [] 16 (.fin [17] []))))) 4 (.alt [] [0,5,6,7,8,9,10,11,13,14] 1 (.step [] [0,5,6,7,8,9,10,11,13,14] 12 (.step [] [0,13,14] 15 (.step [] [] 16 (.fin [17] [])))) 12 (.step [] [0,13,14] 1 (.step [] [0,13,14] 15 (.step [] [] 16 (.fin [17] []))))) 12 (.alt [] [0,2,3,13,14] 1 (.step [] [0,2,3,13,14] 4 (.step [] [0,13,14] 15 (.step [] [] 16 (.fin [17] [])))) 4 (.step [] [0,13,14] 1 (.step [] [0,13,14] 15 (.step [] [] 16 (.fin [17] [])))))) mixed cv (by kernel_rfl) (by kernel_rfl) ?_
     repeat' (first|intro _|refine sg ?_|(refine p_binOp .shr ?_;refine po (by first|refine o1_ishr8 rfl rfl fz|fail) ?_)|refine pw ?_|refine pdd ?_|(refine k_fn 112 ?_;refine o1_call (fun _=>st_word _ x.s1.v) rfl (fun b2 _=>?_))|(refine k_buildSlice ?_;first|refine o1_lit_enc B [1#8] rfl rfl rfl (fun _=>rfl) rfl rfl rfl (fun b3=>?_)|refine o1_lit_enc B (be2 x.s1.n) rfl rfl rfl (fun _=>rfl) rfl rfl rfl (fun b4=>?_)|refine o1_lit_enc Bs [⟨a0,c0,x.head++x.s0.by⟩,⟨some ⟨b3,0,none⟩,1,[1#8]⟩,⟨some ⟨b2,0,none⟩,4,be4 x.s1.v⟩,⟨some ⟨b4,0,none⟩,2,be2 x.s1.n⟩,x.s1.h] rfl rfl rfl (fun _=>rfl) rfl rfl rfl (fun b5=>?_))|(refine k_fn 111 ?_;(refine o1_call (fun hh=>slices_Concat _ _ _ [⟨a0,c0,x.head++x.s0.by⟩,⟨some ⟨b3,0,none⟩,1,[1#8]⟩,⟨some ⟨b2,0,none⟩,4,be4 x.s1.v⟩,⟨some ⟨b4,0,none⟩,2,be2 x.s1.n⟩,x.s1.h] (rx_lit rfl rfl hh) (fa_cons (rx_row (ad:=a0) (c:=c0) hh) (fa_cons (rx_lit rfl rfl hh) (fa_cons (rx_lit rfl rfl hh) (fa_cons (rx_lit rfl rfl hh) (fa_cons (Rs.up e1) fa_nil))))) (by rw [slot_cat hn];omega)) rfl (fun ⟨a5,c5⟩ _=>?_);dsimp only;rw [slot_cat hn]))|refine ow ?_|refine And.intro ?_ ?_|fail)
     all_goals dsimp only [List.cons_append,List.nil_append]
     all_goals (refine nx_blk ?_;exact via (a5,c5) _ _ cv ent)
    ·rw [slot_by_no hn] at via
     repeat' (first|intro _|refine cw ?_|refine cw2 ?_ ?_|(refine k_index ?_;refine o1_index_agg 1 rfl rfl rfl (by decide) (by simp only [Nat.zero_mul,Nat.one_mul,Nat.reduceMul,List.drop_zero,List.drop_succ_cons,List.take_succ_cons,List.take_zero];rfl) ?_)|(refine k_fn 113 ?_;refine o1_call (fun _=>(st_nothing _ x.s1).bv (b:=true) hn) rfl (fun _ _=>?_))|(refine k_buildSlice ?_;refine o1_lit_enc B [0#8] rfl rfl rfl (fun _=>rfl) rfl rfl rfl (fun b3=>?_))|(refine k_call ?_;refine ox_appendL (xs:=x.head++x.s0.by) (ys:=[0#8]) rfl rfl (rx_box rfl (by decide)) rfl (fun _=>rfl) (by simp only [List.length_cons,List.length_nil];omega) (by simp only [List.length_cons,List.length_nil];omega) (fun a5 c5=>?_))|refine ow ?_|refine ow2 ?_ ?_|fail)
     exact via (a5,c5) _ _ cv ent
   case restB =>
    rintro ⟨a0,c0⟩
    dsimp only
    obtain ⟨q,hq⟩:∃ q,(x.head++x.s0.by)++x.s1.by=q:=⟨_,rfl⟩
    have hby:x.by=q++x.tail:=by rw [←hq];rfl
    rw [hq] at hl02 ⊢
    rw [hby]
    cases hon:x.on
    ·have ht:x.tail=[0#8]:=if_neg (by simp [hon])
     rw [ht]
     obtain ⟨a,t,f,g,s0,s1,on,m⟩:=x
     dsimp only at hon
     subst hon
     repeat' (first|intro _|refine cw ?_|refine cw2 ?_ ?_|(refine k_buildSlice ?_;refine o1_lit_enc B [0#8] rfl rfl rfl (fun _=>rfl) rfl rfl rfl (fun b3=>?_))|(refine k_call ?_;refine ox_appendL (xs:=q) (ys:=[0#8]) rfl rfl (rx_box rfl (by decide)) rfl (fun _=>rfl) (by simp only [List.length_cons,List.length_nil];omega) (by simp only [List.length_cons,List.length_nil];omega) (fun a5 c5=>?_))|refine ow ?_|refine ow2 ?_ ?_|fail)
     refine rt_tmp2 (a5,c5) rfl rfl rfl rfl trivial ?_
     exact ent
    ·have ht:x.tail=1#8::x.m.by:=if_pos hon
     have hmm:x.m.may=true:=by
      have:=(st_may_m hm)
      rwa [if_pos hon] at this
     have hml:=by_len x.m
     rw [ht]
     obtain ⟨a,t,f,g,s0,s1,on,m⟩:=x
     dsimp only at hon e2 hmm hml q2
     subst hon
     repeat' (first|intro _|refine cw ?_|refine cw2 ?_ ?_|(refine k_fn 81 ?_;(refine o1_call (fun _=>mf_Plain _ m hmm (Rs.up e2)) rfl (fun ⟨a6,c6⟩ _=>?_);dsimp only))|(refine k_buildSlice ?_;first|refine o1_lit_enc B [1#8] rfl rfl rfl (fun _=>rfl) rfl rfl rfl (fun b3=>?_)|refine o1_lit_enc Bs [⟨a0,c0,q⟩,⟨some ⟨b3,0,none⟩,1,[1#8]⟩,⟨a6,c6,m.by⟩] rfl rfl rfl (fun _=>rfl) rfl rfl rfl (fun b5=>?_))|(refine k_fn 111 ?_;(refine o1_call (fun hh=>slices_Concat _ _ _ [⟨a0,c0,q⟩,⟨some ⟨b3,0,none⟩,1,[1#8]⟩,⟨a6,c6,m.by⟩] (rx_lit rfl rfl hh) (fa_cons (rx_row (ad:=a0) (c:=c0) hh) (fa_cons (rx_lit rfl rfl hh) (fa_cons (rx_row (ad:=a6) (c:=c6) hh) fa_nil))) (by rw [tail_cat];simp only [List.length_append,List.length_cons];omega)) rfl (fun ⟨a5,c5⟩ _=>?_);dsimp only;rw [tail_cat]))|refine ow ?_|refine ow2 ?_ ?_|fail)
     refine rt_tmp2 (a5,c5) rfl rfl rfl rfl trivial ?_
     exact ent
structure RDg where
 l:List (BitVec 8)
 e:Int
def RDg.nx (r:RDg) (n:Nat):RDg:=if r.e=0 then (if r.l.length<n then ⟨[],2⟩ else ⟨r.l.drop n,0⟩) else r
def RDg.tk (r:RDg) (n:Nat):List (BitVec 8):=if r.e=0∧n≤r.l.length then r.l.take n else List.replicate n 0#8
def RDg.fl (r:RDg):RDg:=if 1<(num32 (r.tk 1)).toNat∧(r.nx 1).e=0 then ⟨[],3⟩ else r.nx 1
def RDg.is (r:RDg):Bool:=decide (r.fl.e=0) && decide ((num32 (r.tk 1)).toNat=1)
theorem tk_len (r:RDg) (n:Nat):(r.tk n).length=n:=by
 unfold RDg.tk
 split
 ·rw [List.length_take];omega
 ·simp
theorem nx_bad {r:RDg} (h:r.e≠0) (n:Nat):r.nx n=r∧r.tk n=List.replicate n 0#8:=⟨if_neg h,if_neg (by omega)⟩
theorem nx_short {r:RDg} (h:r.e=0) {n:Nat} (hn:r.l.length<n):r.nx n=⟨[],2⟩∧r.tk n=List.replicate n 0#8:=⟨by rw [RDg.nx,if_pos h,if_pos hn],if_neg (by omega)⟩
theorem nx_ok {r:RDg} (h:r.e=0) {n:Nat} (hn:n≤r.l.length):r.nx n=⟨r.l.drop n,0⟩∧r.tk n=r.l.take n:=⟨by rw [RDg.nx,if_pos h,if_neg (by omega)],if_pos ⟨h,hn⟩⟩
structure RdOk (A:Hp→Prop) (s:SlD (BitVec 8)) (r:RDg):Prop where
 rd:RdS A s
 eq:r.e=0→s.l=r.l
abbrev rdBox (b:Nat) (s:SlD (BitVec 8)) (r:RDg):Hl := .box b 175 [Bs s,I r.e]
set_option maxHeartbeats 2000000 in
theorem rd_some (H:List Hl) (A:Hp→Prop) (hA:∀ w,sat w (stars H)→sat w A) (b n:Nat) (s:SlD (BitVec 8)) (r r':RDg) (t:List (BitVec 8)) (hs:RdOk A s r) (hn:n≤100) (h1:r.nx n=r') (h2:r.tk n=t) :
  Spec Tryz.prog 95 [.pointer (some ⟨b,0,none⟩),I n] (rdBox b s r::H) (fun y:PA × SlD (BitVec 8)=>RdOk A y.2 r') (fun y => .slice y.1.1 t.length y.1.2) (fun y=>rdBox b y.2 r'::rowB y.1 t::H):=by
 refine spec_fn (res:=fun y:PA × SlD (BitVec 8)=>[rdBox b y.2 r',rowB y.1 t]) [rdBox b s r] H Tryz.func95 rfl Tryz.ntmps95 (by kernel_rfl) rfl (fun W=>?_)
 dsimp only [rdBox,List.cons_append,List.nil_append]
 have hr:RdS (stars H) s:=hs.rd.mono hA
 by_cases he:r.e=0
 ·have hsl:=hs.eq he
  by_cases hlt:r.l.length<n
  ·obtain ⟨k1,k2⟩:=nx_short he hlt
   rw [k1] at h1
   rw [k2] at h2
   subst h1
   rw [←hsl] at hlt
   have htl:t.length=n:=by rw [←h2];simp
   subst htl
   repeat' (first|intro _|refine cw ?_|refine cw2 ?_ ?_|(refine k_makeSlice ?_;(refine o1_maker (enc:=B) 0#8 t.length rfl rfl rfl rfl rfl (by omega) (by omega) (fun b9=>?_);rw [h2]))|refine ow ?_|refine ow2 ?_ ?_|fail)
   refine rt_row (T:=5) (b:=b9) (m:=t.length) (cp:=t.length) (cs:=t.map B) (by simp) rfl (by omega) ?_
   refine rt_tmp ((some ⟨b9,0,none⟩,t.length),s) rfl rfl rfl ⟨hs.rd,fun h=>by cases h⟩ ?_
   exact ent
  ·obtain ⟨k1,k2⟩:=nx_ok he (n:=n) (by omega)
   rw [k1] at h1
   rw [k2] at h2
   subst h1 h2
   rw [←hsl] at hlt
   have hle:=hs.rd.le
   rw [he]
   repeat' (first|intro _|refine cw ?_|refine cw2 ?_ ?_|(refine k_slice ?_;first|refine o1_cs_h (xs:=s.l) n rfl rfl rfl rfl hle (by omega) ?_|refine o1_cs_l (xs:=s.l) n rfl rfl rfl rfl (by omega) ?_)|(refine k_fn 29 ?_;(refine o1_call (fun _=>slices_Clone _ _ _ (s.l.take n) (Rs.up (hr.cuth n (by omega))) (by simp;omega)) rfl (fun ⟨a5,c5⟩ _=>?_);dsimp only))|refine ow ?_|refine ow2 ?_ ?_|fail)
   rw [←hsl]
   refine rt_tmp ((a5,c5),⟨cutA s.ad s.cap n,s.cap - n,s.l.drop n⟩) rfl rfl rfl ⟨hs.rd.cutl n (by omega),fun _=>rfl⟩ ?_
   exact ent
 ·obtain ⟨k1,k2⟩:=nx_bad he n
  rw [k1] at h1
  rw [k2] at h2
  subst h1
  have htl:t.length=n:=by rw [←h2];simp
  subst htl
  repeat' (first|intro _|refine cw ?_|refine cw2 ?_ ?_|(refine k_makeSlice ?_;(refine o1_maker (enc:=B) 0#8 t.length rfl rfl rfl rfl rfl (by omega) (by omega) (fun b9=>?_);rw [h2]))|refine ow ?_|refine ow2 ?_ ?_|fail)
  refine rt_row (T:=5) (b:=b9) (m:=t.length) (cp:=t.length) (cs:=t.map B) (by simp) rfl (by omega) ?_
  refine rt_tmp ((some ⟨b9,0,none⟩,t.length),s) rfl rfl rfl ⟨hs.rd,fun h=>absurd h he⟩ ?_
  exact ent
set_option maxHeartbeats 2000000 in
theorem rd_number (H:List Hl) (A:Hp→Prop) (hA:∀ w,sat w (stars H)→sat w A) (b n:Nat) (s:SlD (BitVec 8)) (r r':RDg) (v:BitVec 32) (hs:RdOk A s r) (hn:n≤100) (h1:r.nx n=r') (h2:num32 (r.tk n)=v) :
  Spec Tryz.prog 93 [.pointer (some ⟨b,0,none⟩),I n] (rdBox b s r::H) (fun y:SlD (BitVec 8)=>RdOk A y r') (fun y=>W4 v) (fun y=>rdBox b y r'::H):=by
 refine spec_fn (res:=fun y:SlD (BitVec 8)=>[rdBox b y r']) [rdBox b s r] H Tryz.func93 rfl Tryz.ntmps93 (by kernel_rfl) rfl (fun W=>?_)
 dsimp only [rdBox,List.cons_append,List.nil_append]
 have hA':∀ w,sat w (stars [.any (stars H)])→sat w A:=fun w hw=>hA w (sel_sat .here w hw)
 obtain ⟨t,ht⟩:∃ t,r.tk n=t:=⟨_,rfl⟩
 have htl:t.length=n:=by rw [←ht];exact tk_len r n
 rw [ht] at h2
 subst h2
 repeat' (first|intro _|refine cw ?_|refine cw2 ?_ ?_|(refine k_fn 95 ?_;(refine o1_call (fun _=>rd_some [.any (stars H)] A hA' b n s r r' t hs hn h1 ht) rfl (fun ⟨⟨a5,c5⟩,s'⟩ hok=>?_);try dsimp only at hok ⊢))|refine ow ?_|refine ow2 ?_ ?_|fail)
 refine st_loop (S:=Nat) (fun i=>[(5,W4 (num32 (t.take i))),(10,.slice a5 t.length c5),(11,I t.length),(12,I i)]) (fun _=>[rdBox b s' r',rowB (a5,c5) t,.any (stars H)]) (fun i=>i≤t.length) (fun i=>t.length - i) 0 (by omega)
  cv (Ent.refl _) ?_
 intro i hi
 by_cases hlt:i<t.length
 ·repeat' (first|intro _|refine cw ?_|refine cw2 ?_ ?_|(refine k_indexAddr ?_;refine o1_iah (enc:=B) (c:=c5) (xs:=t) i rfl rfl rx_row rfl rfl hlt ?_)|(refine k_load ?_;refine o1_load_iah (enc:=B) (c:=c5) (xs:=t) i rfl rx_row hlt ?_)|refine ow ?_|refine ow2 ?_ ?_|fail)
  refine nx_again (i+1) (by omega) (by omega) (cov_cons rfl ?_ cv) (Ent.refl _)
  rw [num32_succ _ _ (by omega)];rfl
 ·have:i=t.length:=by omega
  subst this
  repeat' (first|intro _|refine cw ?_|refine cw2 ?_ ?_|refine ow ?_|refine ow2 ?_ ?_|fail)
  refine rt_tmp s' rfl rfl ?_ hok ?_
  ·rw [List.take_length]
  ·exact ent
theorem tk1_bad {r:RDg} (h:(r.nx 1).e≠0):(num32 (r.tk 1)).toNat=0:=by
 by_cases he:r.e=0
 ·by_cases hl:r.l.length<1
  ·rw [(nx_short he hl).2];rfl
  ·rw [(nx_ok he (n:=1) (by omega)).1] at h;exact absurd rfl h
 ·rw [(nx_bad he 1).2];rfl
set_option maxHeartbeats 2000000 in
theorem rd_is (H:List Hl) (A:Hp→Prop) (hA:∀ w,sat w (stars H)→sat w A) (b:Nat) (s:SlD (BitVec 8)) (r r':RDg) (v:Bool) (hs:RdOk A s r) (h1:r.fl=r') (h2:r.is=v) :
  Spec Tryz.prog 94 [.pointer (some ⟨b,0,none⟩)] (rdBox b s r::H) (fun y:SlD (BitVec 8)=>RdOk A y r') (fun y => .bool v) (fun y=>rdBox b y r'::H):=by
 refine spec_fn (res:=fun y:SlD (BitVec 8)=>[rdBox b y r']) [rdBox b s r] H Tryz.func94 rfl Tryz.ntmps94 (by kernel_rfl) rfl (fun W=>?_)
 dsimp only [rdBox,List.cons_append,List.nil_append]
 have hA':∀ w,sat w (stars [.any (stars H)])→sat w A:=fun w hw=>hA w (sel_sat .here w hw)
 obtain ⟨r1,hr1⟩:∃ t,r.nx 1=t:=⟨_,rfl⟩
 obtain ⟨u,hu⟩:∃ t,num32 (r.tk 1)=t:=⟨_,rfl⟩
 have hbad:r1.e≠0→u.toNat=0:=fun h=>by rw [←hu];exact tk1_bad (by rw [hr1];exact h)
 unfold RDg.is RDg.fl at h2
 unfold RDg.fl at h1
 rw [hr1,hu] at h1 h2
 by_cases hc:1<u.toNat∧r1.e=0
 ·rw [if_pos hc] at h1 h2
  subst h1
  have hv:v=false:=by rw [←h2];rfl
  subst hv
  obtain ⟨hc1,hc2⟩:=hc
  repeat' (first|intro _|refine cw ?_|refine cw2 ?_ ?_|(refine k_fn 93 ?_;(refine o1_call (fun _=>rd_number [.any (stars H)] A hA' b 1 s r r1 u hs (by omega) hr1 hu) rfl (fun s' hok=>?_);try dsimp only at hok ⊢))|(refine k_binOp .eql ?_;refine o1_eql_f rfl rfl (by decide) ?_)|refine ow ?_|refine ow2 ?_ ?_|fail)
  all_goals (refine rt_tmp s' rfl rfl rfl ⟨hok.rd,fun h=>by cases h⟩ ?_;exact ent)
 ·rw [if_neg hc] at h1 h2
  subst h1
  by_cases hr1e:r1.e=0
  ·have hv:v=decide (u.toNat=1):=by rw [←h2,decide_eq_true hr1e];rfl
   have hu1:u.toNat≤1:=by omega
   subst hv
   by_cases hu2:u.toNat=1
   ·rw [decide_eq_true hu2]
    repeat' (first|intro _|refine cw ?_|refine cw2 ?_ ?_|(refine k_fn 93 ?_;(refine o1_call (fun _=>rd_number [.any (stars H)] A hA' b 1 s r r1 u hs (by omega) hr1 hu) rfl (fun s' hok=>?_);try dsimp only at hok ⊢))|refine ow ?_|refine ow2 ?_ ?_|fail)
    all_goals (refine rt_tmp s' rfl rfl rfl hok ?_;exact ent)
   ·rw [decide_eq_false hu2]
    repeat' (first|intro _|refine cw ?_|refine cw2 ?_ ?_|(refine k_fn 93 ?_;(refine o1_call (fun _=>rd_number [.any (stars H)] A hA' b 1 s r r1 u hs (by omega) hr1 hu) rfl (fun s' hok=>?_);try dsimp only at hok ⊢))|refine ow ?_|refine ow2 ?_ ?_|fail)
    all_goals (refine rt_tmp s' rfl rfl rfl hok ?_;exact ent)
  ·have hv:v=false:=by rw [←h2,decide_eq_false hr1e];rfl
   have hu0:=hbad hr1e
   subst hv
   repeat' (first|intro _|refine cw ?_|refine cw2 ?_ ?_|(refine k_fn 93 ?_;(refine o1_call (fun _=>rd_number [.any (stars H)] A hA' b 1 s r r1 u hs (by omega) hr1 hu) rfl (fun s' hok=>?_);try dsimp only at hok ⊢))|refine ow ?_|refine ow2 ?_ ?_|fail)
   all_goals (refine rt_tmp s' rfl rfl rfl hok ?_;exact ent)
theorem up2 {Z A:Hp→Prop} {H H1 H2:List Hl} [s1:SAny H Z H1] [s2:SAny H1 A H2]:∀ w,sat w (stars H)→sat w (stars [.any Z,.any A]):=fun w h=>h.mono (Ent.out (.cons s1.s (.cons s2.s .nil)))
def rtG7_0:List Row:=[⟨some 63,[],[],none⟩,⟨some 64,[],[],none⟩,⟨some 65,[1],[1],none⟩,⟨some 66,[2],[1,2],none⟩,⟨some 67,[3],[1,2,3],none⟩,⟨none,[0,0],[0],none⟩,⟨some 3,[4,5,0,1,2,3,4,5],[0,1,2,3,4,5],none⟩]
def rtG7_1:List Row:=[⟨some 63,[],[],none⟩,⟨some 64,[],[],none⟩,⟨some 65,[1],[1],none⟩,⟨some 66,[2],[1,2],none⟩,⟨some 67,[3],[1,2,3],none⟩,⟨none,[0,0],[0],none⟩,⟨some 3,[4,5,0,1,2,3,4,5],[0,1,2,3,4,5],none⟩]
def rtG7_2:List Row:=[⟨some 63,[],[],none⟩,⟨some 64,[],[],none⟩,⟨some 65,[1],[1],none⟩,⟨some 66,[2],[1,2],none⟩,⟨some 67,[3],[1,2,3],none⟩,⟨none,[0,0],[0],none⟩,⟨some 3,[4,5,0,1,2,3,4,5],[0,1,2,3,4,5],none⟩]
def RDg.sl (r:RDg):SlotD:=if r.is then ⟨num32 (r.fl.tk 4),((num32 ((r.fl.nx 4).tk 2)).toNat:Int),⟨none,0,((r.fl.nx 4).nx 2).tk 32⟩⟩ else ⟨0#32,0,⟨none,0,[]⟩⟩
def RDg.ns (r:RDg):RDg:=if r.is then ((r.fl.nx 4).nx 2).nx 32 else r.fl
def RDg.mn (r:RDg):ManD:=if r.is then (if (manO (r.fl.tk 44) (none,0)).may then manO (r.fl.tk 44) (none,0) else zM) else zM
def RDg.nm (r:RDg):RDg:=if r.is then r.fl.nx 44 else r.fl
def rd2 (l:List (BitVec 8)):RDg:=(RDg.mk l 0).nx 1
def rd3 (l:List (BitVec 8)):RDg:=(rd2 l).nx 1
def rd4 (l:List (BitVec 8)):RDg:=(rd3 l).nx 4
def rd5 (l:List (BitVec 8)):RDg:=(rd4 l).nx 4
def stO (l:List (BitVec 8)):StD:=⟨((num32 ((RDg.mk l 0).tk 1)).toNat:Int),((num32 ((rd2 l).tk 1)).toNat:Int),num32 ((rd3 l).tk 4),num32 ((rd4 l).tk 4),(rd5 l).sl,(rd5 l).ns.sl,(rd5 l).ns.ns.is,(rd5 l).ns.ns.mn⟩
def endO (l:List (BitVec 8)):RDg:=(rd5 l).ns.ns.nm
def prs (l:List (BitVec 8)):StD × Int:=if (endO l).e≠0 then (zS,(endO l).e) else if 0<(endO l).l.length∨(stO l).may=false then (zS,3) else (stO l,0)
theorem up_sat {A:Hp→Prop} {H H':List Hl} [s:SAny H A H']:∀ w,sat w (stars H)→sat w A:=sel_sat s.s
set_option maxHeartbeats 8000000 in
theorem st_Parse (H:List Hl) (ad:Option Addr) (c:Nat) (l:List (BitVec 8)) (h:Rs (stars H) B ad c l) (p:StD × Int) (hp:prs l=p) :
  Spec Tryz.prog 47 [.slice ad l.length c] H (fun _:PA × PA × PA=>True) (fun r => .tuple #[(copyS p.1 r.1 r.2.1 r.2.2).V,I p.2]) (fun r=>rowL r.1 p.1.s0.h.l::rowL r.2.1 p.1.s1.h.l::rowL r.2.2 p.1.m.h.l::H):=by
 refine spec_pure (res:=fun r:PA × PA × PA=>[rowL r.1 p.1.s0.h.l,rowL r.2.1 p.1.s1.h.l,rowL r.2.2 p.1.m.h.l]) H Tryz.func47 rfl Tryz.ntmps47 (by kernel_rfl) rfl (fun W=>?_)
 have hs0:RdOk (stars H) ⟨ad,c,l⟩ ⟨l,0⟩:=⟨h,fun _=>rfl⟩
 obtain ⟨va,hva⟩:∃ v,num32 ((RDg.mk l 0).tk 1)=v:=⟨_,rfl⟩
 obtain ⟨vt,hvt⟩:∃ v,num32 ((rd2 l).tk 1)=v:=⟨_,rfl⟩
 obtain ⟨vf,hvf⟩:∃ v,num32 ((rd3 l).tk 4)=v:=⟨_,rfl⟩
 obtain ⟨vg,hvg⟩:∃ v,num32 ((rd4 l).tk 4)=v:=⟨_,rfl⟩
 repeat' (first|intro _|refine cwb ?_|refine cw2 ?_ ?_|(refine k_fn 93 ?_;first|(refine o1_call_box (fun _=>rd_number _ (stars H) up_sat br 1 ⟨ad,c,l⟩ ⟨l,0⟩ (rd2 l) va hs0 (by omega) rfl hva) rfl (fun s1 hk1=>?_))|(refine o1_call_box (fun _=>rd_number _ (stars H) up_sat br 1 s1 (rd2 l) (rd3 l) vt hk1 (by omega) rfl hvt) rfl (fun s2 hk2=>?_))|(refine o1_call_box (fun _=>rd_number _ (stars H) up_sat br 4 s2 (rd3 l) (rd4 l) vf hk2 (by omega) rfl hvf) rfl (fun s3 hk3=>?_))|(refine o1_call_box (fun _=>rd_number _ (stars H) up_sat br 4 s3 (rd4 l) (rd5 l) vg hk3 (by omega) rfl hvg) rfl (fun s4 hk4=>?_)))|(refine k_box ?_;refine o1_box (T:=175) rfl rfl (fun br=>?_))|refine ow ?_|refine ow2 ?_ ?_|fail)
 rename_i b2 b5
 obtain ⟨r6,hr6⟩:∃ t,(rd5 l).ns=t:=⟨_,rfl⟩
 obtain ⟨x0,hx0⟩:∃ t,(rd5 l).sl=t:=⟨_,rfl⟩
 obtain ⟨r7,hr7⟩:∃ t,r6.ns=t:=⟨_,rfl⟩
 obtain ⟨x1,hx1⟩:∃ t,r6.sl=t:=⟨_,rfl⟩
 obtain ⟨r9,hr9⟩:∃ t,r7.nm=t:=⟨_,rfl⟩
 obtain ⟨m,hm⟩:∃ t,r7.mn=t:=⟨_,rfl⟩
 obtain ⟨on,hon⟩:∃ t,r7.is=t:=⟨_,rfl⟩
 have hend:endO l=r9:=by rw [endO,hr6,hr7,hr9]
 have hst:stO l=⟨(va.toNat:Int),(vt.toNat:Int),vf,vg,x0,x1,on,m⟩:=by rw [stO,hva,hvt,hvf,hvg,hx0,hr6,hx1,hr7,hon,hm]
 rw [prs,hend,hst] at hp
 clear hst hend
 refine st_block ?_
 refine st_rounds 2 ?_
 repeat' (first|intro _|refine cwb ?_|refine cw2 ?_ ?_|refine ow ?_|refine ow2 ?_ ?_|fail)
 refine st_viaK (X:={y:PA × SlD (BitVec 8) // RdOk (stars H) y.2 r6}) (fun y=>[(2,.pointer (some ⟨b2,0,none⟩)),(4,.pointer (some ⟨br,0,none⟩)),(5,.pointer (some ⟨b5,0,none⟩)),(24,I 0)]) (fun y=>[.box b5 51 [I va.toNat,I vt.toNat,W4 vf,W4 vg,W4 x0.v,I x0.n,.slice y.1.1.1 x0.h.l.length y.1.1.2,W4 0#32,I 0,.slice none 0 0,.bool false,W4 0#32,W4 0#32,I 0,I 0,I 0,.slice none 0 0],rdBox br y.1.2 r6,.box b2 51 zS.c,rowL y.1.1 x0.h.l,.any (stars H)]) ?restA ?walkA
 case walkA =>
  intro k' via
  cases hi:(rd5 l).is
  ·have hf:(rd5 l).fl=r6:=by rw [←hr6,RDg.ns,if_neg (by simp [hi])]
   have hx:x0=⟨0#32,0,⟨none,0,[]⟩⟩:=by rw [←hx0,RDg.sl,if_neg (by simp [hi])]
   clear hr6 hx0
   subst hx
   repeat' (first|intro _|refine cw ?_|refine cw2 ?_ ?_|(refine k_fn 94 ?_;(refine o1_call_box (fun _=>rd_is _ (stars H) up_sat br s4 (rd5 l) r6 false hk4 hf hi) rfl (fun s9 hk9=>?_)))|refine ow ?_|refine ow2 ?_ ?_|fail)
   refine nx_ent (ent_nil 5 B) ?_
   exact via ⟨((none,0),s9),hk9⟩ _ _ cv ent
  ·obtain ⟨ra,hra⟩:∃ t,(rd5 l).fl=t:=⟨_,rfl⟩
   obtain ⟨rb,hrb⟩:∃ t,ra.nx 4=t:=⟨_,rfl⟩
   obtain ⟨rc,hrc⟩:∃ t,rb.nx 2=t:=⟨_,rfl⟩
   obtain ⟨v0,hv0⟩:∃ t,num32 (ra.tk 4)=t:=⟨_,rfl⟩
   obtain ⟨n0,hn0⟩:∃ t,num32 (rb.tk 2)=t:=⟨_,rfl⟩
   obtain ⟨t0,ht0⟩:∃ t,rc.tk 32=t:=⟨_,rfl⟩
   have hf:rc.nx 32=r6:=by rw [←hr6,RDg.ns,if_pos hi,hra,hrb,hrc]
   have hx:x0=⟨v0,(n0.toNat:Int),⟨none,0,t0⟩⟩:=by rw [←hx0,RDg.sl,if_pos hi,hra,hrb,hrc,hv0,hn0,ht0]
   clear hr6 hx0
   subst hx
   repeat' (first|intro _|refine cw ?_|refine cw2 ?_ ?_|(refine k_fn 94 ?_;(refine o1_call_box (fun _=>rd_is _ (stars H) up_sat br s4 (rd5 l) ra true hk4 hra hi) rfl (fun s6 hk6=>?_)))|(refine k_fn 93 ?_;first|(refine o1_call_box (fun _=>rd_number _ (stars H) up_sat br 4 s6 ra rb v0 hk6 (by omega) hrb hv0) rfl (fun s7 hk7=>?_))|(refine o1_call_box (fun _=>rd_number _ (stars H) up_sat br 2 s7 rb rc n0 hk7 (by omega) hrc hn0) rfl (fun s8 hk8=>?_)))|(refine k_fn 95 ?_;(refine o1_call_box (fun _=>rd_some _ (stars H) up_sat br 32 s8 rc r6 t0 hk8 (by omega) hf ht0) rfl (fun ⟨⟨a9,c9⟩,s9⟩ hk9=>?_);dsimp only at hk9 ⊢))|(refine k_indexAddr ?_;refine ox_idx_arr 0 4 rfl rfl rfl (by decide) rfl ?_)|refine ow ?_|refine ow2 ?_ ?_|fail)
   exact via ⟨((a9,c9),s9),hk9⟩ _ _ cv ent
 case restA =>
  rintro ⟨⟨⟨a0,c0⟩,s5⟩,hk5⟩
  dsimp only at hk5 ⊢
  clear hr6 hx0
  repeat' (first|intro _|refine cwb ?_|refine cw2 ?_ ?_|refine ow ?_|refine ow2 ?_ ?_|fail)
  refine st_viaK (X:={y:PA × SlD (BitVec 8) // RdOk (stars H) y.2 r7}) (fun y=>[(2,.pointer (some ⟨b2,0,none⟩)),(4,.pointer (some ⟨br,0,none⟩)),(5,.pointer (some ⟨b5,0,none⟩)),(24,I (0+1))]) (fun y=>[.box b5 51 [I va.toNat,I vt.toNat,W4 vf,W4 vg,W4 x0.v,I x0.n,.slice a0 x0.h.l.length c0,W4 x1.v,I x1.n,.slice y.1.1.1 x1.h.l.length y.1.1.2,.bool false,W4 0#32,W4 0#32,I 0,I 0,I 0,.slice none 0 0],rdBox br y.1.2 r7,.box b2 51 zS.c,rowL (a0,c0) x0.h.l,rowL y.1.1 x1.h.l,.any (stars H)]) ?restB ?walkB
  case walkB =>
   intro k' via
   cases hi:(r6).is
   ·have hf:(r6).fl=r7:=by rw [←hr7,RDg.ns,if_neg (by simp [hi])]
    have hx:x1=⟨0#32,0,⟨none,0,[]⟩⟩:=by rw [←hx1,RDg.sl,if_neg (by simp [hi])]
    clear hr7 hx1
    subst hx
    repeat' (first|intro _|refine cw ?_|refine cw2 ?_ ?_|(refine k_fn 94 ?_;(refine o1_call_box (fun _=>rd_is _ (stars H) up_sat br s5 (r6) r7 false hk5 hf hi) rfl (fun s9 hk9=>?_)))|refine ow ?_|refine ow2 ?_ ?_|fail)
    refine nx_ent (ent_nil 5 B) ?_
    exact via ⟨((none,0),s9),hk9⟩ _ _ cv ent
   ·obtain ⟨ra,hra⟩:∃ t,(r6).fl=t:=⟨_,rfl⟩
    obtain ⟨rb,hrb⟩:∃ t,ra.nx 4=t:=⟨_,rfl⟩
    obtain ⟨rc,hrc⟩:∃ t,rb.nx 2=t:=⟨_,rfl⟩
    obtain ⟨v0,hv0⟩:∃ t,num32 (ra.tk 4)=t:=⟨_,rfl⟩
    obtain ⟨n0,hn0⟩:∃ t,num32 (rb.tk 2)=t:=⟨_,rfl⟩
    obtain ⟨t0,ht0⟩:∃ t,rc.tk 32=t:=⟨_,rfl⟩
    have hf:rc.nx 32=r7:=by rw [←hr7,RDg.ns,if_pos hi,hra,hrb,hrc]
    have hx:x1=⟨v0,(n0.toNat:Int),⟨none,0,t0⟩⟩:=by rw [←hx1,RDg.sl,if_pos hi,hra,hrb,hrc,hv0,hn0,ht0]
    clear hr7 hx1
    subst hx
    repeat' (first|intro _|refine cw ?_|refine cw2 ?_ ?_|(refine k_fn 94 ?_;(refine o1_call_box (fun _=>rd_is _ (stars H) up_sat br s5 (r6) ra true hk5 hra hi) rfl (fun s6 hk6=>?_)))|(refine k_fn 93 ?_;first|(refine o1_call_box (fun _=>rd_number _ (stars H) up_sat br 4 s6 ra rb v0 hk6 (by omega) hrb hv0) rfl (fun s7 hk7=>?_))|(refine o1_call_box (fun _=>rd_number _ (stars H) up_sat br 2 s7 rb rc n0 hk7 (by omega) hrc hn0) rfl (fun s8 hk8=>?_)))|(refine k_fn 95 ?_;(refine o1_call_box (fun _=>rd_some _ (stars H) up_sat br 32 s8 rc r7 t0 hk8 (by omega) hf ht0) rfl (fun ⟨⟨a9,c9⟩,s9⟩ hk9=>?_);dsimp only at hk9 ⊢))|(refine k_indexAddr ?_;refine ox_idx_arr 1 7 rfl rfl rfl (by decide) rfl ?_)|refine ow ?_|refine ow2 ?_ ?_|fail)
    exact via ⟨((a9,c9),s9),hk9⟩ _ _ cv ent
  case restB =>
   rintro ⟨⟨⟨a1,c1⟩,s6⟩,hk6⟩
   dsimp only at hk6 ⊢
   clear hr7 hx1
   cases on with
   | false =>
    have hf:r7.fl=r9:=by rw [←hr9,RDg.nm,if_neg (by simp [hon])]
    have hz:m=zM:=by rw [←hm,RDg.mn,if_neg (by simp [hon])]
    clear hr9 hm
    subst hz
    by_cases he:r9.e=0
    ·rw [if_neg (by simp [he])] at hp
     by_cases hlen:0<r9.l.length
     ·rw [if_pos (.inl hlen)] at hp
      subst hp
      repeat' (first|intro _|refine cw ?_|refine cw2 ?_ ?_|(refine k_fn 94 ?_;(refine o1_call_box (fun _=>rd_is _ (stars H) up_sat br s6 r7 r9 false hk6 hf hon) rfl (fun s9 hk9=>?_)))|(refine k_binOp .gtr ?_;refine o1_gtr_t rfl rfl (by have:=hk9.eq he;rw [this];omega) ?_)|refine ow ?_|refine ow2 ?_ ?_|fail)
      refine rt_ent (ent_nil 5 B) ?_
      refine rt_ent (ent_nil 5 B) ?_
      refine rt_ent (ent_nil 5 B) ?_
      refine rt_cell_tmp ((none,0),(none,0),(none,0)) rfl rfl rfl rfl rfl trivial ?_
      exact ent
     ·cases hmay:StD.may ⟨(va.toNat:Int),(vt.toNat:Int),vf,vg,x0,x1,false,zM⟩
      ·rw [if_pos (.inr hmay)] at hp
       subst hp
       repeat' (first|intro _|refine cw ?_|refine cw2 ?_ ?_|(refine k_fn 94 ?_;(refine o1_call_box (fun _=>rd_is _ (stars H) up_sat br s6 r7 r9 false hk6 hf hon) rfl (fun s9 hk9=>?_)))|(refine k_binOp .gtr ?_;refine o1_gtr_f rfl rfl (by have:=hk9.eq he;rw [this];omega) ?_)|(refine k_fn 97 ?_;(refine o1_call (fun _=>(st_May _ (copyS ⟨(va.toNat:Int),(vt.toNat:Int),vf,vg,x0,x1,false,zM⟩ (a0,c0) (a1,c1) (none,0))).bv (b:=false) (by rw [copy_may];exact hmay)) rfl (fun _ _=>?_)))|refine ow ?_|refine ow2 ?_ ?_|fail)
       refine rt_ent (ent_nil 5 B) ?_
       refine rt_ent (ent_nil 5 B) ?_
       refine rt_ent (ent_nil 5 B) ?_
       refine rt_cell_tmp ((none,0),(none,0),(none,0)) rfl rfl rfl rfl rfl trivial ?_
       exact ent
      ·have hng : ¬ (0<r9.l.length∨StD.may ⟨(va.toNat:Int),(vt.toNat:Int),vf,vg,x0,x1,false,zM⟩=false):=fun h=>by
        rcases h with h|h
        ·exact hlen h
        ·rw [hmay] at h;cases h
       rw [if_neg hng] at hp
       subst hp
       repeat' (first|intro _|refine cw ?_|refine cw2 ?_ ?_|(refine k_fn 94 ?_;(refine o1_call_box (fun _=>rd_is _ (stars H) up_sat br s6 r7 r9 false hk6 hf hon) rfl (fun s9 hk9=>?_)))|(refine k_binOp .gtr ?_;refine o1_gtr_f rfl rfl (by have:=hk9.eq he;rw [this];omega) ?_)|(refine k_fn 97 ?_;(refine o1_call (fun _=>(st_May _ (copyS ⟨(va.toNat:Int),(vt.toNat:Int),vf,vg,x0,x1,false,zM⟩ (a0,c0) (a1,c1) (none,0))).bv (b:=true) (by rw [copy_may];exact hmay)) rfl (fun _ _=>?_)))|refine ow ?_|refine ow2 ?_ ?_|fail)
       refine rt_ent (ent_nil 5 B) ?_
       refine rt_cell_tmp ((a0,c0),(a1,c1),(none,0)) rfl rfl rfl rfl rfl trivial ?_
       exact ent
    ·rw [if_pos he] at hp
     subst hp
     repeat' (first|intro _|refine cw ?_|refine cw2 ?_ ?_|(refine k_fn 94 ?_;(refine o1_call_box (fun _=>rd_is _ (stars H) up_sat br s6 r7 r9 false hk6 hf hon) rfl (fun s9 hk9=>?_)))|refine ow ?_|refine ow2 ?_ ?_|fail)
     refine st_stages' [(4,_),(2,_)] rtG7_0 [5] [⟨[0,1,2,3,4],[],some 5⟩,⟨[6],[1,2,3,4],none⟩] mixed cv (by kernel_rfl) (by kernel_rfl) ?_
     repeat' (first|intro _|refine sg ?_|refine pw ?_|refine pdd ?_|refine ow ?_|fail)
     all_goals dsimp only [List.cons_append,List.nil_append]
     repeat' (first|intro _|refine cw ?_|refine cw2 ?_ ?_|refine ow ?_|refine ow2 ?_ ?_|fail)
     refine rt_ent (ent_nil 5 B) ?_
     refine rt_ent (ent_nil 5 B) ?_
     refine rt_ent (ent_nil 5 B) ?_
     refine rt_cell_tmp ((none,0),(none,0),(none,0)) rfl rfl rfl rfl rfl trivial ?_
     exact ent
   | true =>
    obtain ⟨ra,hra⟩:∃ t,r7.fl=t:=⟨_,rfl⟩
    obtain ⟨t0,ht0⟩:∃ t,ra.tk 44=t:=⟨_,rfl⟩
    have htl:t0.length=44:=by rw [←ht0];exact tk_len _ _
    have hf:ra.nx 44=r9:=by rw [←hr9,RDg.nm,if_pos hon,hra]
    cases hq:(manO t0 (none,0)).may with
    | true =>
     have hz:m=manO t0 (none,0):=by rw [←hm,RDg.mn,if_pos hon,hra,ht0,if_pos hq]
     clear hr9 hm
     subst hz
     by_cases he:r9.e=0
     ·rw [if_neg (by simp [he])] at hp
      by_cases hlen:0<r9.l.length
      ·rw [if_pos (.inl hlen)] at hp
       subst hp
       repeat' (first|intro _|refine cw ?_|refine cw2 ?_ ?_|(refine k_fn 94 ?_;(refine o1_call_box (fun _=>rd_is _ (stars H) up_sat br s6 r7 ra true hk6 hra hon) rfl (fun s7 hk7=>?_)))|(refine k_fn 95 ?_;(refine o1_call_box (fun _=>rd_some _ (stars H) up_sat br 44 s7 ra r9 t0 hk7 (by omega) hf ht0) rfl (fun ⟨⟨a8,c8⟩,s9⟩ hk9=>?_);dsimp only at hk9 ⊢))|(refine k_fn 96 ?_;(refine o1_call (fun hh=>mf_Read _ _ _ t0 (rx_row (ad:=a8) (c:=c8) hh) htl hq) rfl (fun ⟨a9,c9⟩ _=>?_);dsimp only [manO,ManD.V,ManD.c]))|(refine k_binOp .gtr ?_;refine o1_gtr_t rfl rfl (by have:=hk9.eq he;rw [this];omega) ?_)|refine ow ?_|refine ow2 ?_ ?_|fail)
       refine rt_ent (ent_nil 5 B) ?_
       refine rt_ent (ent_nil 5 B) ?_
       refine rt_ent (ent_nil 5 B) ?_
       refine rt_cell_tmp ((none,0),(none,0),(none,0)) rfl rfl rfl rfl rfl trivial ?_
       exact ent
      ·cases hmay:StD.may ⟨(va.toNat:Int),(vt.toNat:Int),vf,vg,x0,x1,true,manO t0 (none,0)⟩
       ·rw [if_pos (.inr hmay)] at hp
        subst hp
        repeat' (first|intro _|refine cw ?_|refine cw2 ?_ ?_|(refine k_fn 94 ?_;(refine o1_call_box (fun _=>rd_is _ (stars H) up_sat br s6 r7 ra true hk6 hra hon) rfl (fun s7 hk7=>?_)))|(refine k_fn 95 ?_;(refine o1_call_box (fun _=>rd_some _ (stars H) up_sat br 44 s7 ra r9 t0 hk7 (by omega) hf ht0) rfl (fun ⟨⟨a8,c8⟩,s9⟩ hk9=>?_);dsimp only at hk9 ⊢))|(refine k_fn 96 ?_;(refine o1_call (fun hh=>mf_Read _ _ _ t0 (rx_row (ad:=a8) (c:=c8) hh) htl hq) rfl (fun ⟨a9,c9⟩ _=>?_);dsimp only [manO,ManD.V,ManD.c]))|(refine k_binOp .gtr ?_;refine o1_gtr_f rfl rfl (by have:=hk9.eq he;rw [this];omega) ?_)|(refine k_fn 97 ?_;(refine o1_call (fun _=>(st_May _ (copyS ⟨(va.toNat:Int),(vt.toNat:Int),vf,vg,x0,x1,true,manO t0 (none,0)⟩ (a0,c0) (a1,c1) (a9,c9))).bv (b:=false) (by rw [copy_may];exact hmay)) rfl (fun _ _=>?_)))|refine ow ?_|refine ow2 ?_ ?_|fail)
        refine rt_ent (ent_nil 5 B) ?_
        refine rt_ent (ent_nil 5 B) ?_
        refine rt_ent (ent_nil 5 B) ?_
        refine rt_cell_tmp ((none,0),(none,0),(none,0)) rfl rfl rfl rfl rfl trivial ?_
        exact ent
       ·have hng : ¬ (0<r9.l.length∨StD.may ⟨(va.toNat:Int),(vt.toNat:Int),vf,vg,x0,x1,true,manO t0 (none,0)⟩=false):=fun h=>by
         rcases h with h|h
         ·exact hlen h
         ·rw [hmay] at h;cases h
        rw [if_neg hng] at hp
        subst hp
        repeat' (first|intro _|refine cw ?_|refine cw2 ?_ ?_|(refine k_fn 94 ?_;(refine o1_call_box (fun _=>rd_is _ (stars H) up_sat br s6 r7 ra true hk6 hra hon) rfl (fun s7 hk7=>?_)))|(refine k_fn 95 ?_;(refine o1_call_box (fun _=>rd_some _ (stars H) up_sat br 44 s7 ra r9 t0 hk7 (by omega) hf ht0) rfl (fun ⟨⟨a8,c8⟩,s9⟩ hk9=>?_);dsimp only at hk9 ⊢))|(refine k_fn 96 ?_;(refine o1_call (fun hh=>mf_Read _ _ _ t0 (rx_row (ad:=a8) (c:=c8) hh) htl hq) rfl (fun ⟨a9,c9⟩ _=>?_);dsimp only [manO,ManD.V,ManD.c]))|(refine k_binOp .gtr ?_;refine o1_gtr_f rfl rfl (by have:=hk9.eq he;rw [this];omega) ?_)|(refine k_fn 97 ?_;(refine o1_call (fun _=>(st_May _ (copyS ⟨(va.toNat:Int),(vt.toNat:Int),vf,vg,x0,x1,true,manO t0 (none,0)⟩ (a0,c0) (a1,c1) (a9,c9))).bv (b:=true) (by rw [copy_may];exact hmay)) rfl (fun _ _=>?_)))|refine ow ?_|refine ow2 ?_ ?_|fail)
        refine rt_cell_tmp ((a0,c0),(a1,c1),(a9,c9)) rfl rfl rfl rfl rfl trivial ?_
        exact ent
     ·rw [if_pos he] at hp
      subst hp
      repeat' (first|intro _|refine cw ?_|refine cw2 ?_ ?_|(refine k_fn 94 ?_;(refine o1_call_box (fun _=>rd_is _ (stars H) up_sat br s6 r7 ra true hk6 hra hon) rfl (fun s7 hk7=>?_)))|(refine k_fn 95 ?_;(refine o1_call_box (fun _=>rd_some _ (stars H) up_sat br 44 s7 ra r9 t0 hk7 (by omega) hf ht0) rfl (fun ⟨⟨a8,c8⟩,s9⟩ hk9=>?_);dsimp only at hk9 ⊢))|(refine k_fn 96 ?_;(refine o1_call (fun hh=>mf_Read _ _ _ t0 (rx_row (ad:=a8) (c:=c8) hh) htl hq) rfl (fun ⟨a9,c9⟩ _=>?_);dsimp only [manO,ManD.V,ManD.c]))|refine ow ?_|refine ow2 ?_ ?_|fail)
      refine st_stages' [(4,_),(2,_)] rtG7_1 [5] [⟨[0,1,2,3,4],[],some 5⟩,⟨[6],[1,2,3,4],none⟩] mixed cv (by kernel_rfl) (by kernel_rfl) ?_
      repeat' (first|intro _|refine sg ?_|refine pw ?_|refine pdd ?_|refine ow ?_|fail)
      all_goals dsimp only [List.cons_append,List.nil_append]
      repeat' (first|intro _|refine cw ?_|refine cw2 ?_ ?_|refine ow ?_|refine ow2 ?_ ?_|fail)
      refine rt_ent (ent_nil 5 B) ?_
      refine rt_ent (ent_nil 5 B) ?_
      refine rt_ent (ent_nil 5 B) ?_
      refine rt_cell_tmp ((none,0),(none,0),(none,0)) rfl rfl rfl rfl rfl trivial ?_
      exact ent
    | false =>
     have hz:m=zM:=by rw [←hm,RDg.mn,if_pos hon,hra,ht0,if_neg (by simp [hq])]
     clear hr9 hm
     subst hz
     by_cases he:r9.e=0
     ·rw [if_neg (by simp [he])] at hp
      by_cases hlen:0<r9.l.length
      ·rw [if_pos (.inl hlen)] at hp
       subst hp
       repeat' (first|intro _|refine cw ?_|refine cw2 ?_ ?_|(refine k_fn 94 ?_;(refine o1_call_box (fun _=>rd_is _ (stars H) up_sat br s6 r7 ra true hk6 hra hon) rfl (fun s7 hk7=>?_)))|(refine k_fn 95 ?_;(refine o1_call_box (fun _=>rd_some _ (stars H) up_sat br 44 s7 ra r9 t0 hk7 (by omega) hf ht0) rfl (fun ⟨⟨a8,c8⟩,s9⟩ hk9=>?_);dsimp only at hk9 ⊢))|(refine k_fn 96 ?_;(refine o1_call (fun hh=>mf_Read_no _ _ _ t0 (rx_row (ad:=a8) (c:=c8) hh) htl hq) rfl (fun _ _=>?_);dsimp only [zM,ManD.V,ManD.c]))|(refine k_binOp .gtr ?_;refine o1_gtr_t rfl rfl (by have:=hk9.eq he;rw [this];omega) ?_)|refine ow ?_|refine ow2 ?_ ?_|fail)
       refine rt_ent (ent_nil 5 B) ?_
       refine rt_ent (ent_nil 5 B) ?_
       refine rt_ent (ent_nil 5 B) ?_
       refine rt_cell_tmp ((none,0),(none,0),(none,0)) rfl rfl rfl rfl rfl trivial ?_
       exact ent
      ·cases hmay:StD.may ⟨(va.toNat:Int),(vt.toNat:Int),vf,vg,x0,x1,true,zM⟩
       ·rw [if_pos (.inr hmay)] at hp
        subst hp
        repeat' (first|intro _|refine cw ?_|refine cw2 ?_ ?_|(refine k_fn 94 ?_;(refine o1_call_box (fun _=>rd_is _ (stars H) up_sat br s6 r7 ra true hk6 hra hon) rfl (fun s7 hk7=>?_)))|(refine k_fn 95 ?_;(refine o1_call_box (fun _=>rd_some _ (stars H) up_sat br 44 s7 ra r9 t0 hk7 (by omega) hf ht0) rfl (fun ⟨⟨a8,c8⟩,s9⟩ hk9=>?_);dsimp only at hk9 ⊢))|(refine k_fn 96 ?_;(refine o1_call (fun hh=>mf_Read_no _ _ _ t0 (rx_row (ad:=a8) (c:=c8) hh) htl hq) rfl (fun _ _=>?_);dsimp only [zM,ManD.V,ManD.c]))|(refine k_binOp .gtr ?_;refine o1_gtr_f rfl rfl (by have:=hk9.eq he;rw [this];omega) ?_)|(refine k_fn 97 ?_;(refine o1_call (fun _=>(st_May _ (copyS ⟨(va.toNat:Int),(vt.toNat:Int),vf,vg,x0,x1,true,zM⟩ (a0,c0) (a1,c1) (none,0))).bv (b:=false) (by rw [copy_may];exact hmay)) rfl (fun _ _=>?_)))|refine ow ?_|refine ow2 ?_ ?_|fail)
        refine rt_ent (ent_nil 5 B) ?_
        refine rt_ent (ent_nil 5 B) ?_
        refine rt_ent (ent_nil 5 B) ?_
        refine rt_cell_tmp ((none,0),(none,0),(none,0)) rfl rfl rfl rfl rfl trivial ?_
        exact ent
       ·have hng : ¬ (0<r9.l.length∨StD.may ⟨(va.toNat:Int),(vt.toNat:Int),vf,vg,x0,x1,true,zM⟩=false):=fun h=>by
         rcases h with h|h
         ·exact hlen h
         ·rw [hmay] at h;cases h
        rw [if_neg hng] at hp
        subst hp
        repeat' (first|intro _|refine cw ?_|refine cw2 ?_ ?_|(refine k_fn 94 ?_;(refine o1_call_box (fun _=>rd_is _ (stars H) up_sat br s6 r7 ra true hk6 hra hon) rfl (fun s7 hk7=>?_)))|(refine k_fn 95 ?_;(refine o1_call_box (fun _=>rd_some _ (stars H) up_sat br 44 s7 ra r9 t0 hk7 (by omega) hf ht0) rfl (fun ⟨⟨a8,c8⟩,s9⟩ hk9=>?_);dsimp only at hk9 ⊢))|(refine k_fn 96 ?_;(refine o1_call (fun hh=>mf_Read_no _ _ _ t0 (rx_row (ad:=a8) (c:=c8) hh) htl hq) rfl (fun _ _=>?_);dsimp only [zM,ManD.V,ManD.c]))|(refine k_binOp .gtr ?_;refine o1_gtr_f rfl rfl (by have:=hk9.eq he;rw [this];omega) ?_)|(refine k_fn 97 ?_;(refine o1_call (fun _=>(st_May _ (copyS ⟨(va.toNat:Int),(vt.toNat:Int),vf,vg,x0,x1,true,zM⟩ (a0,c0) (a1,c1) (none,0))).bv (b:=true) (by rw [copy_may];exact hmay)) rfl (fun _ _=>?_)))|refine ow ?_|refine ow2 ?_ ?_|fail)
        refine rt_ent (ent_nil 5 B) ?_
        refine rt_cell_tmp ((a0,c0),(a1,c1),(none,0)) rfl rfl rfl rfl rfl trivial ?_
        exact ent
     ·rw [if_pos he] at hp
      subst hp
      repeat' (first|intro _|refine cw ?_|refine cw2 ?_ ?_|(refine k_fn 94 ?_;(refine o1_call_box (fun _=>rd_is _ (stars H) up_sat br s6 r7 ra true hk6 hra hon) rfl (fun s7 hk7=>?_)))|(refine k_fn 95 ?_;(refine o1_call_box (fun _=>rd_some _ (stars H) up_sat br 44 s7 ra r9 t0 hk7 (by omega) hf ht0) rfl (fun ⟨⟨a8,c8⟩,s9⟩ hk9=>?_);dsimp only at hk9 ⊢))|(refine k_fn 96 ?_;(refine o1_call (fun hh=>mf_Read_no _ _ _ t0 (rx_row (ad:=a8) (c:=c8) hh) htl hq) rfl (fun _ _=>?_);dsimp only [zM,ManD.V,ManD.c]))|refine ow ?_|refine ow2 ?_ ?_|fail)
      refine st_stages' [(4,_),(2,_)] rtG7_2 [5] [⟨[0,1,2,3,4],[],some 5⟩,⟨[6],[1,2,3,4],none⟩] mixed cv (by kernel_rfl) (by kernel_rfl) ?_
      repeat' (first|intro _|refine sg ?_|refine pw ?_|refine pdd ?_|refine ow ?_|fail)
      all_goals dsimp only [List.cons_append,List.nil_append]
      repeat' (first|intro _|refine cw ?_|refine cw2 ?_ ?_|refine ow ?_|refine ow2 ?_ ?_|fail)
      refine rt_ent (ent_nil 5 B) ?_
      refine rt_ent (ent_nil 5 B) ?_
      refine rt_ent (ent_nil 5 B) ?_
      refine rt_cell_tmp ((none,0),(none,0),(none,0)) rfl rfl rfl rfl rfl trivial ?_
      exact ent
theorem nx_app (p q:List (BitVec 8)):(RDg.mk (p++q) 0).nx p.length=⟨q,0⟩∧(RDg.mk (p++q) 0).tk p.length=p:=by
 obtain ⟨h1,h2⟩:=nx_ok (r:=⟨p++q,0⟩) rfl (n:=p.length) (by simp)
 rw [h1,h2]
 simp
theorem nx_app' {p:List (BitVec 8)} {n:Nat} (h:p.length=n) (q:List (BitVec 8)):(RDg.mk (p++q) 0).nx n=⟨q,0⟩∧(RDg.mk (p++q) 0).tk n=p:=by
 subst h;exact nx_app p q
theorem fl_cons (b:BitVec 8) (q:List (BitVec 8)):(RDg.mk (b::q) 0).fl=(if 1<b.toNat then ⟨[],3⟩ else ⟨q,0⟩)∧(RDg.mk (b::q) 0).is=decide (b.toNat=1):=by
 obtain ⟨h1,h2⟩:=nx_app' (p:=[b]) (n:=1) rfl q
 simp only [List.singleton_append] at h1 h2
 have hf:(RDg.mk (b::q) 0).fl=(if 1<b.toNat then ⟨[],3⟩ else ⟨q,0⟩):=by
  unfold RDg.fl
  rw [h1,h2,num32_one]
  by_cases hb:1<b.toNat
  ·rw [if_pos ⟨hb,rfl⟩,if_pos hb]
  ·rw [if_neg (fun h=>hb h.1),if_neg hb]
 refine ⟨hf,?_⟩
 unfold RDg.is
 rw [hf,h2,num32_one]
 by_cases hb:1<b.toNat
 ·rw [if_pos hb,decide_eq_false (by decide),decide_eq_false (by omega)];rfl
 ·rw [if_neg hb,decide_eq_true (by rfl)];rfl
def SlotD.plain (x:SlotD):SlotD:=⟨x.v,x.n,⟨none,0,x.h.l⟩⟩
theorem toNat_0 {v:BitVec 32} (h:v.toNat=0):v=0#32:=BitVec.eq_of_toNat_eq (by simpa using h)
theorem sl_by {x:SlotD} (hx:x.something=true∨x.nothing=true) (q:List (BitVec 8)):(RDg.mk (x.by++q) 0).sl=x.plain∧(RDg.mk (x.by++q) 0).ns=⟨q,0⟩:=by
 cases hn:x.nothing
 ·have hs:x.something=true:=by
   rcases hx with h|h
   ·exact h
   ·rw [hn] at h;cases h
  simp only [SlotD.something,decide_eq_true_eq] at hs
  have e:x.by++q=1#8::(be4 x.v++(be2 x.n++(x.h.l++q))):=by rw [slot_by_yes hn];simp
  rw [e]
  obtain ⟨f1,f2⟩:=fl_cons 1#8 (be4 x.v++(be2 x.n++(x.h.l++q)))
  have f1:(RDg.mk (1#8::(be4 x.v++(be2 x.n++(x.h.l++q)))) 0).fl=⟨be4 x.v++(be2 x.n++(x.h.l++q)),0⟩:=by rw [f1];rfl
  have f2:(RDg.mk (1#8::(be4 x.v++(be2 x.n++(x.h.l++q)))) 0).is=true:=by rw [f2];rfl
  obtain ⟨a1,a2⟩:=nx_app' (p:=be4 x.v) (n:=4) rfl (be2 x.n++(x.h.l++q))
  obtain ⟨b1,b2⟩:=nx_app' (p:=be2 x.n) (n:=2) rfl (x.h.l++q)
  obtain ⟨c1,c2⟩:=nx_app' (p:=x.h.l) (n:=32) hs.1 q
  rw [RDg.sl,RDg.ns,if_pos f2,if_pos f2,f1,a1,a2,b1,b2,c1,c2,num32_be4,num32_be2 x.n (by omega) (by omega)]
  exact ⟨rfl,rfl⟩
 ·have e:x.by++q=0#8::q:=by rw [slot_by_no hn];rfl
  rw [e]
  obtain ⟨f1,f2⟩:=fl_cons 0#8 q
  have f1:(RDg.mk (0#8::q) 0).fl=⟨q,0⟩:=by rw [f1];rfl
  have f2:(RDg.mk (0#8::q) 0).is=false:=by rw [f2];rfl
  rw [RDg.sl,RDg.ns,if_neg (by simp [f2]),if_neg (by simp [f2]),f1]
  simp only [SlotD.nothing,decide_eq_true_eq] at hn
  refine ⟨?_,rfl⟩
  rw [SlotD.plain,toNat_0 hn.1,hn.2.1,List.length_eq_zero_iff.1 hn.2.2]
theorem may_nums {m:ManD} (h:m.may=true):1≤m.n∧m.n≤512∧1≤m.z∧m.z≤16∧0≤m.p∧m.p≤16∧m.h.l.length=32:=by
 have hn:=man_may h
 simp only [ManD.may,mayP,Bool.and_eq_true,decide_eq_true_eq] at h
 omega
theorem manO_by' {m:ManD} (h:m.may=true):m.by.length=44∧manO m.by (none,0)=⟨m.s,m.v,m.n,m.z,m.p,⟨none,0,m.h.l⟩⟩:=by
 obtain ⟨q1,q2,q3,q4,q5,q6,q7⟩:=may_nums h
 refine ⟨by rw [by_len,q7],?_⟩
 have e:m.by=be4 m.s++(be4 m.v++(be2 m.n++([BitVec.ofInt 8 m.z,BitVec.ofInt 8 m.p]++m.h.l))):=by simp [ManD.by,mid4,be2]
 have t4:(m.by.take 4).drop 0=be4 m.s:=by rw [e];rfl
 have t8:(m.by.take 8).drop 4=be4 m.v:=by rw [e];rfl
 have t10:(m.by.take 10).drop 8=be2 m.n:=by rw [e];rfl
 have g10:m.by.getD 10 0#8=BitVec.ofInt 8 m.z:=by rw [e];rfl
 have g11:m.by.getD 11 0#8=BitVec.ofInt 8 m.p:=by rw [e];rfl
 have d12:m.by.drop 12=m.h.l:=by rw [e];rfl
 rw [manO,t4,t8,t10,g10,g11,d12,num32_be4,num32_be4,num32_be2 m.n (by omega) (by omega),byte_N m.z (by omega) (by omega),byte_N m.p (by omega) (by omega)]
def ManD.plain (m:ManD):ManD:=⟨m.s,m.v,m.n,m.z,m.p,⟨Option.none,0,m.h.l⟩⟩
def StD.plain (x:StD):StD:=copyS x (none,0) (none,0) (none,0)
theorem tail_nm {x:StD} (h:(if x.on then x.m.may else x.m.none)=true) (q:List (BitVec 8)):(RDg.mk (x.tail++q) 0).is=x.on∧(RDg.mk (x.tail++q) 0).mn=x.m.plain∧(RDg.mk (x.tail++q) 0).nm=⟨q,0⟩:=by
 cases hon:x.on
 ·rw [if_neg (by simp [hon])] at h
  have ht:x.tail++q=0#8::q:=by rw [StD.tail,if_neg (by simp [hon])];rfl
  rw [ht]
  obtain ⟨f1,f2⟩:=fl_cons 0#8 q
  have f1:(RDg.mk (0#8::q) 0).fl=⟨q,0⟩:=by rw [f1];rfl
  have f2:(RDg.mk (0#8::q) 0).is=false:=by rw [f2];rfl
  rw [RDg.mn,RDg.nm,f2]
  refine ⟨rfl,?_,by rw [if_neg (by simp)];exact f1⟩
  rw [if_neg (by simp)]
  simp only [ManD.none,decide_eq_true_eq] at h
  rw [ManD.plain,toNat_0 h.1,toNat_0 h.2.1,h.2.2.1,h.2.2.2.1,h.2.2.2.2.1,List.length_eq_zero_iff.1 h.2.2.2.2.2]
  rfl
 ·rw [if_pos hon] at h
  obtain ⟨k1,k2⟩:=manO_by' h
  have ht:x.tail++q=1#8::(x.m.by++q):=by rw [StD.tail,if_pos hon];rfl
  rw [ht]
  obtain ⟨f1,f2⟩:=fl_cons 1#8 (x.m.by++q)
  have f1:(RDg.mk (1#8::(x.m.by++q)) 0).fl=⟨x.m.by++q,0⟩:=by rw [f1];rfl
  have f2:(RDg.mk (1#8::(x.m.by++q)) 0).is=true:=by rw [f2];rfl
  obtain ⟨a1,a2⟩:=nx_app' (p:=x.m.by) (n:=44) k1 q
  have hmm:(ManD.mk x.m.s x.m.v x.m.n x.m.z x.m.p ⟨none,0,x.m.h.l⟩).may=true:=h
  rw [RDg.mn,RDg.nm,f2,f1,a1,a2,k2,if_pos rfl,if_pos hmm,if_pos rfl]
  exact ⟨rfl,rfl,rfl⟩
theorem slots_ok {x:StD} (h:x.may=true):(x.s0.something=true∨x.s0.nothing=true)∧(x.s1.something=true∨x.s1.nothing=true):=by
 obtain ⟨h1,h2,h3,h4,h5⟩:=may_iff.1 h
 unfold StD.cur at h3
 unfold StD.oth at h4
 have h4:(if x.a=0 then x.s1 else x.s0).something=true∨(if x.a=0 then x.s1 else x.s0).nothing=true:=by
  rcases h4 with h4|h4
  ·exact .inl h4
  ·exact .inr h4.1
 by_cases ha:x.a=0
 ·rw [if_pos ha] at h3 h4;exact ⟨.inl h3,h4⟩
 ·rw [if_neg ha] at h3 h4;exact ⟨h4,.inl h3⟩
theorem by_parts {x:StD} (h:x.may=true) (q:List (BitVec 8)):stO (x.by++q)=x.plain∧endO (x.by++q)=⟨q,0⟩:=by
 obtain ⟨h1,h2,h3,h4,h5⟩:=may_iff.1 h
 obtain ⟨k0,k1⟩:=slots_ok h
 have e:x.by++q=[BitVec.ofInt 8 x.a]++([BitVec.ofInt 8 x.t]++(be4 x.f++(be4 x.g++(x.s0.by++(x.s1.by++(x.tail++q)))))):=by simp [StD.by,StD.head]
 obtain ⟨a1,a2⟩:=nx_app' (p:=[BitVec.ofInt 8 x.a]) (n:=1) rfl ([BitVec.ofInt 8 x.t]++(be4 x.f++(be4 x.g++(x.s0.by++(x.s1.by++(x.tail++q))))))
 obtain ⟨b1,b2⟩:=nx_app' (p:=[BitVec.ofInt 8 x.t]) (n:=1) rfl (be4 x.f++(be4 x.g++(x.s0.by++(x.s1.by++(x.tail++q)))))
 obtain ⟨c1,c2⟩:=nx_app' (p:=be4 x.f) (n:=4) rfl (be4 x.g++(x.s0.by++(x.s1.by++(x.tail++q))))
 obtain ⟨d1,d2⟩:=nx_app' (p:=be4 x.g) (n:=4) rfl (x.s0.by++(x.s1.by++(x.tail++q)))
 obtain ⟨s1,s2⟩:=sl_by k0 (x.s1.by++(x.tail++q))
 obtain ⟨u1,u2⟩:=sl_by k1 (x.tail++q)
 obtain ⟨w1,w2,w3⟩:=tail_nm h5 q
 rw [←e] at a1 a2
 have r2:rd2 (x.by++q)=_:=a1
 have r3:rd3 (x.by++q)=_:=(congrArg (fun r=>RDg.nx r 1) r2).trans b1
 have r4:rd4 (x.by++q)=_:=(congrArg (fun r=>RDg.nx r 4) r3).trans c1
 have r5:rd5 (x.by++q)=_:=(congrArg (fun r=>RDg.nx r 4) r4).trans d1
 refine ⟨?_,by rw [endO,r5,s2,u2,w3]⟩
 rw [stO,a2,r2,b2,r3,c2,r4,d2,r5,s1,s2,u1,u2,w1,w2,num32_one,num32_one,num32_be4,num32_be4,byte_N x.a (by omega) (by omega),byte_N x.t (by omega) (by omega)]
 rfl
theorem prs_by {x:StD} (h:x.may=true):prs x.by=(x.plain,0):=by
 obtain ⟨e1,e2⟩:=by_parts h []
 rw [List.append_nil] at e1 e2
 rw [prs,e1,e2,if_neg (by simp),if_neg (fun hc=>by
  rcases hc with hc|hc
  ·cases hc
  ·rw [StD.plain,copy_may,h] at hc;cases hc)]
open Sha
def keyL (key:List (BitVec 8)):List (BitVec 8):=if 64<key.length then sha key else key
def padK (k:List (BitVec 8)):List (BitVec 8):=k.take 64++(List.replicate 64 0#8).drop k.length
def masked (key:List (BitVec 8)) (y:BitVec 8):List (BitVec 8):=(padK (keyL key)).map (· ^^^ y)
def tag (key b:List (BitVec 8)):List (BitVec 8):=sha (masked key 0x5c#8++sha (masked key 0x36#8++b))
theorem padK_len (k:List (BitVec 8)):(padK k).length=64:=by simp [padK];omega
theorem masked_len (key:List (BitVec 8)) (y:BitVec 8):(masked key y).length=64:=by simp [masked,padK_len]
theorem tag_len (key b:List (BitVec 8)):(tag key b).length=32:=sha_len _
theorem keyL_long {key:List (BitVec 8)} (h:64<key.length):keyL key=sha key:=if_pos h
theorem keyL_short {key:List (BitVec 8)} (h:key.length≤64):keyL key=key:=if_neg (by omega)
set_option maxHeartbeats 1000000 in
theorem mac_masked (H:List Hl) (ad:Option Addr) (c:Nat) (key m:List (BitVec 8)) (y:BitVec 8) (h:Rs (stars H) B ad c key) (hb:key.length≤70368744177664) (hm:masked key y=m) :
  Spec Tryz.prog 129 [.slice ad key.length c,B y] H (fun _:Nat=>True) (fun b => .slice (some ⟨b,0,none⟩) m.length m.length) (fun b => .box b 5 (m.map B)::H):=by
 refine spec_pure (res:=fun b:Nat=>[.box b 5 (m.map B)]) H Tryz.func129 rfl Tryz.ntmps129 (by kernel_rfl) rfl (fun W=>?_)
 have hml:m.length=64:=by rw [←hm];exact masked_len key y
 by_cases hk:64<key.length
 ·obtain ⟨kk,hkk⟩:∃ d,sha key=d:=⟨_,rfl⟩
  have hpk:m=(padK kk).map (· ^^^ y):=by rw [←hm,masked,keyL_long hk,hkk]
  obtain ⟨p,hp⟩:∃ p,padK kk=p:=⟨_,rfl⟩
  have hpl:p.length=64:=by rw [←hp];exact padK_len kk
  rw [hp] at hpk
  have hcp:kk.take (List.replicate 64 0#8).length++(List.replicate 64 0#8).drop kk.length=p:=hp
  have hz:m.length=p.length:=by rw [hml,hpl]
  repeat' (first|intro _|refine cw ?_|refine cw2 ?_ ?_|(refine k_fn 56 ?_;(refine o1_call (fun hh=>dg_Sum _ _ _ key kk h.up hb hkk) rfl (fun ⟨_,_⟩ _=>?_);dsimp only))|(refine k_makeSlice ?_;refine o1_maker (enc:=B) 0#8 64 rfl rfl rfl rfl rfl (by decide) (by decide) (fun b=>?_))|(refine k_call ?_;(refine ox_copy (xs:=List.replicate 64 0#8) (ys:=kk) rfl rfl (by simp) rx_row rfl (fun _=>rfl) ?_;rw [hcp]))|refine ow ?_|refine ow2 ?_ ?_|fail)
  refine st_loop (S:=Nat) (fun i=>[(1,B y),(5,.slice (some ⟨b,0,none⟩) 64 64),(17,I 64),(18,I i)]) (fun i=>[.box b 5 ((partL m p i).map B),.any (stars H)]) (fun i=>i≤64) (fun i=>64 - i) 0 (Nat.zero_le _)
   cv (by rw [partL_zero];exact ent) ?_
  intro i hi
  by_cases hlt:i<64
  ·have hql:(partL m p i).length=64:=by rw [partL_len hz,hpl]
   repeat' (first|intro _|refine cw ?_|refine cw2 ?_ ?_|(refine k_indexAddr ?_;refine o1_own i rfl rfl rfl hlt ?_)|(refine k_load ?_;refine ox_load_enc (l:=partL m p i) rfl (by omega) ?_)|(refine k_store ?_;refine ox_store_enc B (l:=partL m p i) rfl rfl (by omega) rfl ?_)|refine ow ?_|refine ow2 ?_ ?_|fail)
   refine nx_again (i+1) (by omega) (by omega) cv ?_
   have e:p[i]'(by omega) ^^^ y=m[i]'(by omega):=by simp [hpk]
   rw [partL_at hz (Nat.le_refl i),e,partL_succ hz]
   exact ent
  ·have:i=64:=by omega
   subst this
   rw [partL_full hz hpl.symm]
   repeat' (first|intro _|refine cw ?_|refine cw2 ?_ ?_|refine ow ?_|refine ow2 ?_ ?_|fail)
   refine rt_tmp b rfl rfl (by rw [hml]) trivial ?_
   exact ent
 ·obtain ⟨kk,hkk⟩:∃ d,key=d:=⟨_,rfl⟩
  have hpk:m=(padK kk).map (· ^^^ y):=by rw [←hm,masked,keyL_short (by omega),hkk]
  obtain ⟨p,hp⟩:∃ p,padK kk=p:=⟨_,rfl⟩
  have hpl:p.length=64:=by rw [←hp];exact padK_len kk
  rw [hp] at hpk
  have hcp:kk.take (List.replicate 64 0#8).length++(List.replicate 64 0#8).drop kk.length=p:=hp
  have hz:m.length=p.length:=by rw [hml,hpl]
  subst hkk
  repeat' (first|intro _|refine cw ?_|refine cw2 ?_ ?_|(refine k_makeSlice ?_;refine o1_maker (enc:=B) 0#8 64 rfl rfl rfl rfl rfl (by decide) (by decide) (fun b=>?_))|(refine k_call ?_;(refine ox_copy (xs:=List.replicate 64 0#8) (ys:=key) rfl rfl (by simp) (rx_any h) rfl (fun _=>rfl) ?_;rw [hcp]))|refine ow ?_|refine ow2 ?_ ?_|fail)
  refine st_loop (S:=Nat) (fun i=>[(1,B y),(5,.slice (some ⟨b,0,none⟩) 64 64),(17,I 64),(18,I i)]) (fun i=>[.box b 5 ((partL m p i).map B),.any (stars H)]) (fun i=>i≤64) (fun i=>64 - i) 0 (Nat.zero_le _)
   cv (by rw [partL_zero];exact ent) ?_
  intro i hi
  by_cases hlt:i<64
  ·have hql:(partL m p i).length=64:=by rw [partL_len hz,hpl]
   repeat' (first|intro _|refine cw ?_|refine cw2 ?_ ?_|(refine k_indexAddr ?_;refine o1_own i rfl rfl rfl hlt ?_)|(refine k_load ?_;refine ox_load_enc (l:=partL m p i) rfl (by omega) ?_)|(refine k_store ?_;refine ox_store_enc B (l:=partL m p i) rfl rfl (by omega) rfl ?_)|refine ow ?_|refine ow2 ?_ ?_|fail)
   refine nx_again (i+1) (by omega) (by omega) cv ?_
   have e:p[i]'(by omega) ^^^ y=m[i]'(by omega):=by simp [hpk]
   rw [partL_at hz (Nat.le_refl i),e,partL_succ hz]
   exact ent
  ·have:i=64:=by omega
   subst this
   rw [partL_full hz hpl.symm]
   repeat' (first|intro _|refine cw ?_|refine cw2 ?_ ?_|refine ow ?_|refine ow2 ?_ ?_|fail)
   refine rt_tmp b rfl rfl (by rw [hml]) trivial ?_
   exact ent
theorem mac_Tag (H:List Hl) (ad ad2:Option Addr) (c c2:Nat) (key b d:List (BitVec 8)) (h:Rs (stars H) B ad c key) (h2:Rs (stars H) B ad2 c2 b) (hb:key.length≤70368744177664) (hb2:b.length≤70368744177000) (hd:tag key b=d) :
  Spec Tryz.prog 82 [.slice ad key.length c,.slice ad2 b.length c2] H (fun _:Option Addr × Nat=>True) (fun r => .slice r.1 d.length r.2) (fun r => .row 5 1 (.slice r.1 d.length r.2) d.length (d.map B)::H):=by
 refine spec_pure (res:=fun r:Option Addr × Nat=>[.row 5 1 (.slice r.1 d.length r.2) d.length (d.map B)]) H Tryz.func82 rfl Tryz.ntmps82 (by kernel_rfl) rfl (fun W=>?_)
 obtain ⟨o,ho⟩:∃ m,masked key 0x5c#8=m:=⟨_,rfl⟩
 obtain ⟨i,hi⟩:∃ m,masked key 0x36#8=m:=⟨_,rfl⟩
 have hol:o.length=64:=by rw [←ho];exact masked_len _ _
 have hil:i.length=64:=by rw [←hi];exact masked_len _ _
 obtain ⟨d1,hd1⟩:∃ d,sha (i++b)=d:=⟨_,rfl⟩
 have hdl:d1.length=32:=by rw [←hd1];exact sha_len _
 have hd2:sha (o++d1)=d:=by rw [←hd,tag,ho,hi,hd1]
 repeat' (first|intro _|refine cw ?_|refine cw2 ?_ ?_|(refine k_fn 129 ?_;first|refine o1_call (fun _=>mac_masked _ _ _ key o 0x5c#8 h.up hb ho) rfl (fun _ _=>?_)|refine o1_call (fun _=>mac_masked _ _ _ key i 0x36#8 h.up hb hi) rfl (fun _ _=>?_))|(refine k_buildSlice ?_;first|refine o1_lit_enc Bs [⟨_,_,i⟩,⟨_,_,b⟩] rfl rfl rfl (fun _=>rfl) rfl rfl rfl (fun _=>?_)|refine o1_lit_enc Bs [⟨_,_,o⟩,⟨_,_,d1⟩] rfl rfl rfl (fun _=>rfl) rfl rfl rfl (fun _=>?_))|(refine k_fn 128 ?_;first|(refine o1_call (fun hh=>dg_Rows _ _ _ [⟨_,_,i⟩,⟨_,_,b⟩] d1 (rx_lit rfl rfl hh) (fa_cons (rx_box rfl (by dsimp only;omega) hh) (fa_cons h2.up fa_nil)) (by simp only [cat,List.flatMap_cons,List.flatMap_nil,List.append_nil,List.length_append];omega) (by simp only [cat,List.flatMap_cons,List.flatMap_nil,List.append_nil];exact hd1)) rfl (fun ⟨_,_⟩ _=>?_);dsimp only)|(refine o1_call (fun hh=>dg_Rows _ _ _ [⟨_,_,o⟩,⟨_,_,d1⟩] d (rx_lit rfl rfl hh) (fa_cons (rx_box rfl (by dsimp only;omega) hh) (fa_cons (rx_row hh) fa_nil)) (by simp only [cat,List.flatMap_cons,List.flatMap_nil,List.append_nil,List.length_append];omega) (by simp only [cat,List.flatMap_cons,List.flatMap_nil,List.append_nil];exact hd2)) rfl (fun ⟨_,_⟩ _=>?_);dsimp only))|refine ow ?_|refine ow2 ?_ ?_|fail)
 refine rt_tmp (_,_) rfl rfl rfl trivial ?_
 exact ent
theorem mac_Right (H:List Hl) (ad ad2 ad3:Option Addr) (c c2 c3:Nat) (key b d t:List (BitVec 8)) (h:Rs (stars H) B ad c key) (h2:Rs (stars H) B ad2 c2 b) (h3:Rs (stars H) B ad3 c3 t) (hb:key.length≤70368744177664) (hb2:b.length≤70368744177000) (hd:tag key b=d) :
  Spec Tryz.prog 116 [.slice ad key.length c,.slice ad2 b.length c2,.slice ad3 t.length c3] H (fun _:Unit=>True) (fun _ => .bool (decide (d=t))) (fun _=>H):=by
 refine spec_pure (res:=fun _=>[]) H Tryz.func116 rfl Tryz.ntmps116 (by kernel_rfl) rfl (fun W=>?_)
 repeat' (first|intro _|refine cw ?_|refine cw2 ?_ ?_|(refine k_fn 82 ?_;(refine o1_call (fun hh=>mac_Tag _ _ _ _ _ key b d h.up h2.up hb hb2 hd) rfl (fun ⟨_,_⟩ _=>?_);dsimp only))|(refine k_fn 66 ?_;refine o1_call (fun hh=>slices_Equal _ _ _ _ _ d t (rx_row hh) h3.up) rfl (fun _ _=>?_))|refine ow ?_|refine ow2 ?_ ?_|fail)
 refine rt_tmp () rfl rfl rfl trivial ?_
 exact ent
open Sha
def rtM1_0:List Row:=[⟨some 12,[],[],none⟩,⟨some 13,[],[],none⟩,⟨some 14,[1],[1],none⟩,⟨some 15,[],[],none⟩,⟨some 16,[3],[3],none⟩,⟨some 17,[0,2,4],[0,1,2,3,4],none⟩,⟨some 18,[5],[0,1,2,3,4,5],none⟩,⟨some 11,[6,5],[0,1,2,3,4,5,6],none⟩]
def rtM1_1:List Row:=[⟨some 12,[],[],none⟩,⟨some 13,[],[],none⟩,⟨some 14,[1],[1],none⟩,⟨some 15,[],[],none⟩,⟨some 16,[3],[3],none⟩,⟨some 17,[0,2,4],[0,1,2,3,4],none⟩,⟨some 18,[5],[0,1,2,3,4,5],none⟩,⟨some 11,[6,5],[0,1,2,3,4,5,6],none⟩]
open Sha
set_option maxHeartbeats 1000000 in
theorem mf_Bytes (H:List Hl) (ad:Option Addr) (c:Nat) (key d q:List (BitVec 8)) (x:ManD) (h:x.may=true) (hr:RdS (stars H) x.h) (hk:Rs (stars H) B ad c key) (hb:key.length≤300) (hq:x.by=q) (hd:tag key q=d) :
  Spec Tryz.prog 38 [.slice ad key.length c,x.V] H (fun _:PA=>True) (fun r => .tuple #[.slice r.1 (q++d).length r.2,I 0]) (fun r=>rowB r (q++d)::H):=by
 refine spec_pure (res:=fun r:PA=>[rowB r (q++d)]) H Tryz.func38 rfl Tryz.ntmps38 (by kernel_rfl) rfl (fun W=>?_)
 have hql:q.length=44:=by rw [←hq,by_len,may_len h]
 have hdl:d.length=32:=by rw [←hd];exact tag_len _ _
 repeat' (first|intro _|refine cw ?_|refine cw2 ?_ ?_|(refine k_fn 81 ?_;(refine o1_call (fun _=>mf_Plain _ x h (Rs.up hr)) rfl (fun ⟨a1,c1⟩ _=>?_);dsimp only;rw [hq]))|(refine k_fn 82 ?_;(refine o1_call (fun hh=>mac_Tag _ _ _ _ _ key q d hk.up (rx_row (ad:=a1) (c:=c1) hh) (by omega) (by omega) hd) rfl (fun ⟨a2,c2⟩ _=>?_);dsimp only))|(refine k_call ?_;refine ox_appendL (xs:=q) (ys:=d) rfl rfl (rx_row (ad:=a2) (c:=c2)) rfl (fun _=>rfl) (by omega) (by omega) (fun a3 c3=>?_))|refine ow ?_|refine ow2 ?_ ?_|fail)
 refine rt_tmp2 (a3,c3) rfl rfl rfl rfl trivial ?_
 exact ent
def setM (m:ManD) (r:PA):ManD:=⟨m.s,m.v,m.n,m.z,m.p,⟨r.1,r.2,m.h.l⟩⟩
def rdM (l:List (BitVec 8)):ManD × Int:=if l.length=44 then (if (manO l (none,0)).may then (manO l (none,0),0) else (zM,3)) else (zM,3)
def prM (key l:List (BitVec 8)):ManD × Int:=if l.length=76 then (if tag key (l.take 44)=l.drop 44 then rdM (l.take 44) else (zM,5)) else (zM,3)
theorem mf_ReadA (H:List Hl) (ad:Option Addr) (c:Nat) (l:List (BitVec 8)) (h:Rs (stars H) B ad c l) (p:ManD × Int) (hp:rdM l=p) :
  Spec Tryz.prog 96 [.slice ad l.length c] H (fun _:PA=>True) (fun r => .tuple #[(setM p.1 r).V,I p.2]) (fun r=>rowB r p.1.h.l::H):=by
 unfold rdM at hp
 have nilr:∀ h',stars H h'→stars (rowB (none,0) []::H) h':=ent_nil 5 B
 by_cases hl:l.length=44
 ·rw [if_pos hl] at hp
  cases hm:(manO l (none,0)).may
  ·rw [if_neg (by simp [hm])] at hp
   subst hp
   have k:=mf_Read_no H ad c l h hl hm
   exact ⟨k.enters,fun w hs=>(k.calls w hs).mono fun x w' ⟨r,hg,he,hx,hsat⟩=>⟨(none,0),trivial,he,hx,hsat.mono nilr⟩⟩
  ·rw [if_pos hm] at hp
   subst hp
   exact mf_Read H ad c l h hl hm
 ·rw [if_neg hl] at hp
  subst hp
  have k:=mf_Read_len H ad c l hl
  exact ⟨k.enters,fun w hs=>(k.calls w hs).mono fun x w' ⟨r,hg,he,hx,hsat⟩=>⟨(none,0),trivial,he,hx,hsat.mono nilr⟩⟩
set_option maxHeartbeats 1000000 in
theorem mf_Parse (H:List Hl) (ad ad2:Option Addr) (c c2:Nat) (key l:List (BitVec 8)) (hk:Rs (stars H) B ad c key) (h:Rs (stars H) B ad2 c2 l) (hb:key.length≤300) (p:ManD × Int) (hp:prM key l=p) :
  Spec Tryz.prog 73 [.slice ad key.length c,.slice ad2 l.length c2] H (fun _:PA=>True) (fun r => .tuple #[(setM p.1 r).V,I p.2]) (fun r=>rowB r p.1.h.l::H):=by
 refine spec_pure (res:=fun r:PA=>[rowB r p.1.h.l]) H Tryz.func73 rfl Tryz.ntmps73 (by kernel_rfl) rfl (fun W=>?_)
 unfold prM at hp
 by_cases hl:l.length=76
 ·rw [if_pos hl] at hp
  obtain ⟨d,hd⟩:∃ d,tag key (l.take 44)=d:=⟨_,rfl⟩
  rw [hd] at hp
  by_cases ht:d=l.drop 44
  ·rw [if_pos ht] at hp
   repeat' (first|intro _|refine cw ?_|refine cw2 ?_ ?_|refine ow ?_|refine ow2 ?_ ?_|fail)
   refine st_stages' [(0,_),(1,_)] rtM1_0 [] [⟨[0,1,2,3,4,5,6,7],[],none⟩] mixed cv (by kernel_rfl) (by kernel_rfl) ?_
   repeat' (first|intro _|refine sg ?_|(refine p_slice ?_;refine po (by first|refine o1_cv_h rfl rfl h rfl (by omega) (by omega) fz|refine o1_cv_l rfl rfl h rfl (by omega) (by omega) fz|fail) ?_)|(refine p_fn 116 ?_;refine po (by first|refine o1_call (fun _=>(mac_Right _ _ _ _ _ _ _ key _ d _ hk.up (Rs.up (h.cutv 0 44 (by omega) (by omega))) (Rs.up (h.cutl 44 (by omega))) (by omega) (by simp;omega) hd).bv (b:=true) (decide_eq_true ht)) rfl (fun _ _=>fz)|fail) ?_)|refine pw ?_|refine pdd ?_|refine ow ?_|fail)
   all_goals dsimp only [List.cons_append,List.nil_append]
   repeat' (first|intro _|refine cw ?_|refine cw2 ?_ ?_|(refine k_slice ?_;refine o1_cs_h (xs:=l) 44 rfl rfl rfl rfl h.le (by omega) ?_)|(refine k_fn 96 ?_;(refine o1_call (fun _=>mf_ReadA _ _ _ (l.take 44) (Rs.up (h.cuth 44 (by omega))) p hp) rfl (fun r _=>?_);dsimp only [ManD.V,ManD.c,setM]))|refine ow ?_|refine ow2 ?_ ?_|fail)
   refine rt_cell_tmp r rfl rfl rfl rfl rfl trivial ?_
   exact ent
  ·rw [if_neg ht] at hp
   subst hp
   repeat' (first|intro _|refine cw ?_|refine cw2 ?_ ?_|refine ow ?_|refine ow2 ?_ ?_|fail)
   refine st_stages' [(0,_),(1,_)] rtM1_1 [] [⟨[0,1,2,3,4,5,6,7],[],none⟩] mixed cv (by kernel_rfl) (by kernel_rfl) ?_
   repeat' (first|intro _|refine sg ?_|(refine p_slice ?_;refine po (by first|refine o1_cv_h rfl rfl h rfl (by omega) (by omega) fz|refine o1_cv_l rfl rfl h rfl (by omega) (by omega) fz|fail) ?_)|(refine p_fn 116 ?_;refine po (by first|refine o1_call (fun _=>(mac_Right _ _ _ _ _ _ _ key _ d _ hk.up (Rs.up (h.cutv 0 44 (by omega) (by omega))) (Rs.up (h.cutl 44 (by omega))) (by omega) (by simp;omega) hd).bv (b:=false) (decide_eq_false ht)) rfl (fun _ _=>fz)|fail) ?_)|refine pw ?_|refine pdd ?_|refine ow ?_|fail)
   all_goals dsimp only [List.cons_append,List.nil_append]
   repeat' (first|intro _|refine cw ?_|refine cw2 ?_ ?_|refine ow ?_|refine ow2 ?_ ?_|fail)
   refine rt_ent (ent_nil 5 B) ?_
   refine rt_cell_tmp (none,0) rfl rfl rfl rfl rfl trivial ?_
   exact ent
 ·rw [if_neg hl] at hp
  subst hp
  repeat' (first|intro _|refine cw ?_|refine cw2 ?_ ?_|refine ow ?_|refine ow2 ?_ ?_|fail)
  refine rt_ent (ent_nil 5 B) ?_
  refine rt_cell_tmp (none,0) rfl rfl rfl rfl rfl trivial ?_
  exact ent
theorem man_mayM {m:ManD} (h:m.may=true):1≤m.n∧m.n≤512∧m.h.l.length=32:=by
 simp only [ManD.may,mayP,Bool.and_eq_true,decide_eq_true_eq] at h
 refine ⟨?_,?_,h.2⟩
 ·have h1:=h.1.1
  unfold count at h1
  split at h1
  ·omega
  ·omega
 ·have h1:=h.1.1
  unfold count at h1
  split at h1
  ·omega
  ·omega
theorem manO_byM {m:ManD} (h:m.may=true):m.by.length=44∧manO m.by (none,0)=⟨m.s,m.v,m.n,m.z,m.p,⟨none,0,m.h.l⟩⟩:=by
 obtain ⟨q1,q2,q3,q4,q5,q6,q7⟩:=may_nums h
 refine ⟨by rw [by_len,q7],?_⟩
 have e:m.by=be4 m.s++(be4 m.v++(be2 m.n++([BitVec.ofInt 8 m.z,BitVec.ofInt 8 m.p]++m.h.l))):=by simp [ManD.by,mid4,be2]
 have t4:(m.by.take 4).drop 0=be4 m.s:=by rw [e];rfl
 have t8:(m.by.take 8).drop 4=be4 m.v:=by rw [e];rfl
 have t10:(m.by.take 10).drop 8=be2 m.n:=by rw [e];rfl
 have g10:m.by.getD 10 0#8=BitVec.ofInt 8 m.z:=by rw [e];rfl
 have g11:m.by.getD 11 0#8=BitVec.ofInt 8 m.p:=by rw [e];rfl
 have d12:m.by.drop 12=m.h.l:=by rw [e];rfl
 rw [manO,t4,t8,t10,g10,g11,d12,num32_be4,num32_be4,num32_be2 m.n (by omega) (by omega),byte_N m.z (by omega) (by omega),byte_N m.p (by omega) (by omega)]
theorem prM_by {m:ManD} {key d q:List (BitVec 8)} (h:m.may=true) (hq:m.by=q) (hd:tag key q=d):prM key (q++d)=(manO q (none,0),0)∧(manO q (none,0)).may=true∧rdM q=(manO q (none,0),0):=by
 have hql:q.length=44:=by rw [←hq,by_len,may_len h]
 have hdl:d.length=32:=by rw [←hd];exact tag_len _ _
 have hmm:(manO q (none,0)).may=true:=by
  rw [←hq,(manO_byM h).2];exact h
 have hrd:rdM q=(manO q (none,0),0):=by rw [rdM,if_pos hql,if_pos hmm]
 have e1:(q++d).take 44=q:=by rw [←hql];simp
 have e2:(q++d).drop 44=d:=by rw [←hql];simp
 refine ⟨?_,hmm,hrd⟩
 rw [prM,if_pos (by rw [List.length_append];omega),e1,e2,if_pos hd,hrd]
open Go.RowKit Go.Proofs Sha
def rtD36_0:List Row:=[⟨some 5,[],[],none⟩,⟨some 6,[0],[0],none⟩,⟨some 7,[1],[0,1],none⟩,⟨some 8,[2,1],[0,1,2],none⟩,⟨some 9,[3],[0,1,2,3],some (3,false)⟩,⟨some 10,[4,3],[0,1,2,3,4],some (3,false)⟩,⟨some 11,[3],[0,1,2,3],some (3,false)⟩,⟨some 12,[6,3],[0,1,2,3,6],some (3,false)⟩,⟨some 13,[5,7,3,3],[0,1,2,3,4,5,6,7],some (3,false)⟩,⟨some 14,[3],[0,1,2,3],some (3,false)⟩,⟨some 15,[9,3],[0,1,2,3,9],some (3,false)⟩,⟨some 16,[8,10,3],[0,1,2,3,4,5,6,7,8,9,10],some (3,false)⟩,⟨some 17,[3,11],[0,1,2,3,4,5,6,7,8,9,10,11],none⟩]
def rtD36_1:List Row:=[⟨some 18,[],[],none⟩,⟨some 19,[],[],none⟩,⟨some 20,[1],[1],none⟩,⟨some 21,[0,2],[0,1,2],none⟩,⟨some 22,[3],[0,1,2,3],none⟩,⟨some 4,[4,2,0,1,2,3,4],[0,1,2,3,4],none⟩]
def rtD36_2:List Row:=[⟨some 39,[],[],none⟩,⟨some 40,[0],[0],none⟩,⟨some 41,[],[],none⟩,⟨some 42,[],[],none⟩,⟨some 43,[],[],none⟩,⟨some 44,[],[],none⟩,⟨some 45,[4,5,1],[0,1,4,5],none⟩,⟨some 46,[1,2,3,6],[0,1,2,3,4,5,6],none⟩,⟨some 47,[7],[0,1,2,3,4,5,6,7],none⟩,⟨some 12,[8,6,0,1,2,3,4,5,6,7,8],[0,1,2,3,4,5,6,7,8],none⟩,⟨some 13,[9,0,1,2,3,4,5,6,7,8,9],[0,1,2,3,4,5,6,7,8,9],none⟩]
def rtD36_3:List Row:=[⟨some 10,[],[],none⟩,⟨some 11,[0],[0],none⟩,⟨some 12,[1],[0,1],none⟩,⟨some 13,[2],[0,1,2],none⟩,⟨some 14,[],[],none⟩,⟨some 15,[4],[4],none⟩,⟨some 16,[5],[4,5],none⟩,⟨some 17,[6],[4,5,6],none⟩,⟨some 18,[3,7],[0,1,2,3,4,5,6,7],none⟩,⟨some 9,[8],[0,1,2,3,4,5,6,7,8],none⟩,⟨some 19,[9],[0,1,2,3,4,5,6,7,8,9],none⟩,⟨some 20,[9],[0,1,2,3,4,5,6,7,8,9],none⟩,⟨some 3,[10,8,0,1,2,3,4,5,6,7,8,9,10],[0,1,2,3,4,5,6,7,8,9,10],none⟩,⟨some 4,[11,12,0,1,2,3,4,5,6,7,8,9,10,11,12],[0,1,2,3,4,5,6,7,8,9,10,11,12],none⟩]
def rtD36_4:List Row:=[⟨some 12,[],[],none⟩,⟨some 13,[0],[0],none⟩,⟨some 14,[1],[0,1],none⟩,⟨some 15,[2],[0,1,2],none⟩,⟨some 16,[3],[0,1,2,3],none⟩,⟨some 17,[],[],none⟩,⟨some 18,[],[],none⟩,⟨some 19,[6],[6],none⟩,⟨some 20,[7],[6,7],none⟩,⟨some 21,[8],[6,7,8],none⟩,⟨some 22,[],[],none⟩,⟨some 23,[9,10],[6,7,8,9,10],none⟩,⟨some 24,[4,5,11],[0,1,2,3,4,5,6,7,8,9,10,11],none⟩,⟨some 25,[12,11],[0,1,2,3,4,5,6,7,8,9,10,11,12],none⟩,⟨some 11,[13],[0,1,2,3,4,5,6,7,8,9,10,11,12,13],none⟩,⟨some 26,[14],[0,1,2,3,4,5,6,7,8,9,10,11,12,13,14],none⟩,⟨some 27,[14],[0,1,2,3,4,5,6,7,8,9,10,11,12,13,14],none⟩,⟨some 5,[15,13,0,1,2,3,4,5,6,7,8,9,10,11,12,13,14,15],[0,1,2,3,4,5,6,7,8,9,10,11,12,13,14,15],none⟩,⟨some 6,[16,17,0,1,2,3,4,5,6,7,8,9,10,11,12,13,14,15,16,17],[0,1,2,3,4,5,6,7,8,9,10,11,12,13,14,15,16,17],none⟩]
def rtD36_5:List Row:=[⟨some 12,[],[],none⟩,⟨some 13,[0],[0],none⟩,⟨some 14,[1],[0,1],none⟩,⟨some 15,[2],[0,1,2],none⟩,⟨some 16,[3],[0,1,2,3],none⟩,⟨some 17,[],[],none⟩,⟨some 18,[],[],none⟩,⟨some 19,[6],[6],none⟩,⟨some 20,[7],[6,7],none⟩,⟨some 21,[8],[6,7,8],none⟩,⟨some 22,[],[],none⟩,⟨some 23,[9,10],[6,7,8,9,10],none⟩,⟨some 24,[4,5,11],[0,1,2,3,4,5,6,7,8,9,10,11],none⟩,⟨some 25,[12,11],[0,1,2,3,4,5,6,7,8,9,10,11,12],none⟩,⟨some 11,[13],[0,1,2,3,4,5,6,7,8,9,10,11,12,13],none⟩,⟨some 26,[14],[0,1,2,3,4,5,6,7,8,9,10,11,12,13,14],none⟩,⟨some 27,[14],[0,1,2,3,4,5,6,7,8,9,10,11,12,13,14],none⟩,⟨some 5,[15,13,0,1,2,3,4,5,6,7,8,9,10,11,12,13,14,15],[0,1,2,3,4,5,6,7,8,9,10,11,12,13,14,15],none⟩,⟨some 6,[16,17,0,1,2,3,4,5,6,7,8,9,10,11,12,13,14,15,16,17],[0,1,2,3,4,5,6,7,8,9,10,11,12,13,14,15,16,17],none⟩]
theorem cd_New (H:List Hl) (p:Prm) (ad:Option Addr) (c:Nat) (im:List (BitVec 8)) (hp:p.ok) (hl:count im.length p.z=p.k) (hi:Rs (stars H) B ad c im) (hn:im.length≤512) :
  Spec Tryz.prog 59 [parV p.s p.k p.p p.z,.slice ad im.length c] H (fun _:Nat × PA=>True) (fun r => .pointer (some ⟨r.1,0,none⟩)) (fun r=>cdB r.1 p r.2.1 im.length r.2.2 0#32 0 (.slice none 0 0)::rowB r.2 im::H):=by
 refine spec_pure (res:=fun r:Nat × PA=>[cdB r.1 p r.2.1 im.length r.2.2 0#32 0 (.slice none 0 0),rowB r.2 im]) H Tryz.func59 rfl Tryz.ntmps59 (by kernel_rfl) rfl (fun W=>?_)
 repeat' (first|intro _|refine cw ?_|refine cw2 ?_ ?_|(refine k_box ?_;refine o1_box rfl rfl (fun b2=>?_))|refine ow ?_|refine ow2 ?_ ?_|fail)
 refine st_stages' [(2,_),(1,_)] rtD36_0 [1,8] [⟨[0],[],some 1⟩,⟨[2,3,4,5,6,7,9,10],[],some 8⟩,⟨[11,12],[9,10],none⟩] mixed cv (by kernel_rfl) (by kernel_rfl) ?_
 repeat' (first|intro _|refine sg ?_|(refine p_load ?_;refine po (by first|refine ox_load (b:=b2) (i:=3) rfl rfl fz|refine ox_load (b:=b2) (i:=1) rfl rfl fz|fail) ?_)|(refine p_binOp .neq ?_;refine po (by first|refine o1_neq_f rfl rfl rfl fz|fail) ?_)|refine pw ?_|refine pdd ?_|(refine k_fn 106 ?_;refine o1_call (fun _=>(spread_May _ _ _ _ _).bv (b:=true) hp) rfl (fun _ _=>?_))|(refine k_fn 105 ?_;(refine o1_call (fun _=>block_Count _ _ _) rfl (fun _ _=>?_);rw [hl]))|refine ow ?_|fail)
 all_goals dsimp only [List.cons_append,List.nil_append]
 repeat' (first|intro _|refine cw ?_|refine cw2 ?_ ?_|refine ow ?_|refine ow2 ?_ ?_|fail)
 refine st_stages' [(2,_),(1,_)] rtD36_1 [2,4] [⟨[0,1],[],some 2⟩,⟨[3],[0],some 4⟩,⟨[5],[],none⟩] mixed cv (by kernel_rfl) (by kernel_rfl) ?_
 repeat' (first|intro _|refine sg ?_|refine pw ?_|refine pdd ?_|(refine k_fn 29 ?_;(refine o1_call (fun _=>slices_Clone _ _ _ im hi.up (by omega)) rfl (fun ⟨a20,c20⟩ _=>?_);(try dsimp only)))|(refine k_box ?_;refine o1_box rfl rfl (fun cb=>?_))|refine ow ?_|fail)
 all_goals dsimp only [List.cons_append,List.nil_append]
 repeat' (first|intro _|refine cw ?_|refine cw2 ?_ ?_|refine ow ?_|refine ow2 ?_ ?_|fail)
 refine rt_tmp (cb,a20,c20) rfl rfl rfl trivial ?_
 exact ent
def hdM (p:Prm) (v:BitVec 32) (n:Nat) (d:List (BitVec 8)) (r:PA):ManD:=⟨p.s,v,n,p.z,p.p,⟨r.1,r.2,d⟩⟩
abbrev crB (hb:Nat) (ka:Option Addr) (kn kc:Nat) (p:Prm) (v:BitVec 32) (n:Nat) (d:List (BitVec 8)) (r:PA) (cb:Nat):Hl := .box hb 94 [.slice ka kn kc,W4 p.s,W4 v,I n,I p.z,I p.p,Bs ⟨r.1,r.2,d⟩,W4 p.s,I p.k,I p.p,I p.z,.pointer (some ⟨cb,0,none⟩)]
structure CrL where
 ka:Option Addr
 kc:Nat
 r:PA
 cb:Nat
 ia:Option Addr
 ic:Nat
 A:Hp→Prop
 cd:Option (Option Addr × Nat × List (SlD (BitVec 8)))
structure CrK (key:List (BitVec 8)) (p:Prm) (im d:List (BitVec 8)) (l:CrL):Prop where
 ky:Rs l.A B l.ka l.kc key
 hi:Rs l.A B l.ia l.ic im
 hh:Rs l.A B l.r.1 l.r.2 d
 cd:∀ q,l.cd=some q→q.2.2.map (·.l)=pieA p im
abbrev crL (key:List (BitVec 8)) (p:Prm) (v:BitVec 32) (im d:List (BitVec 8)) (hb:Nat) (l:CrL):List Hl:=match l.cd with
 | none=>[crB hb l.ka key.length l.kc p v im.length d l.r l.cb,cdB l.cb p l.ia im.length l.ic 0#32 0 (.slice none 0 0),.any l.A]
 | some q=>[crB hb l.ka key.length l.kc p v im.length d l.r l.cb,cdB l.cb p l.ia im.length l.ic 1#32 0 (.slice q.1 q.2.2.length q.2.1),.row 22 1 (.slice q.1 q.2.2.length q.2.1) q.2.2.length (q.2.2.map Bs),.any (pcs 5 q.2.2),.any l.A]
def crP (key:List (BitVec 8)) (p:Prm) (v:BitVec 32) (im d:List (BitVec 8)) (hb:Nat):Hp→Prop:=Som (CrK key p im d) (crL key p v im d hb)
structure HdOk (key:List (BitVec 8)) (p:Prm) (im d:List (BitVec 8)):Prop where
 ok:p.ok
 ct:count im.length p.z=p.k
 le:im.length≤512
 hd:sha im=d
 kl:key.length≤64
theorem HdOk.may {key:List (BitVec 8)} {p:Prm} {im d:List (BitVec 8)} (h:HdOk key p im d) (v:BitVec 32) (r:PA):(hdM p v im.length d r).may=true:=by
 have hd:d.length=32:=by rw [←h.hd];exact sha_len _
 have h1:=h.ok
 unfold ManD.may hdM
 dsimp only
 rw [h.ct,hd]
 simpa [Prm.ok] using h1
theorem HdOk.par {key:List (BitVec 8)} {p:Prm} {im d:List (BitVec 8)} (h:HdOk key p im d) (v:BitVec 32) (r:PA):(hdM p v im.length d r).parL=[W4 p.s,I p.k,I p.p,I p.z]∧mayP (count (hdM p v im.length d r).n (hdM p v im.length d r).z) (hdM p v im.length d r).p (hdM p v im.length d r).z=true:=by
 have h2:mayP (count (hdM p v im.length d r).n (hdM p v im.length d r).z) (hdM p v im.length d r).p (hdM p v im.length d r).z=true:=by
  show mayP (count im.length p.z) p.p p.z=true
  rw [h.ct]
  exact h.ok
 refine ⟨?_,h2⟩
 unfold ManD.parL
 rw [if_pos h2]
 show [W4 p.s,I (count im.length p.z),I p.p,I p.z]=_
 rw [h.ct]
set_option maxHeartbeats 4000000 in
theorem cr_New (H:List Hl) (key:List (BitVec 8)) (p:Prm) (v:BitVec 32) (im d:List (BitVec 8)) (ka:Option Addr) (kc:Nat) (ad:Option Addr) (c:Nat) (h:HdOk key p im d) (hk:Rs (stars H) B ka kc key) (hi:Rs (stars H) B ad c im) :
  Spec Tryz.prog 27 [.slice ka key.length kc,W4 p.s,W4 v,.slice ad im.length c,I p.z,I p.p] H (fun _:Nat=>True) (fun hb => .tuple #[.pointer (some ⟨hb,0,none⟩),I 0]) (fun hb => .any (crP key p v im d hb)::H):=by
 refine spec_pure (res:=fun hb:Nat=>[.any (crP key p v im d hb)]) H Tryz.func27 rfl Tryz.ntmps27 (by kernel_rfl) rfl (fun W=>?_)
 have hn:=h.le
 have hkl:=h.kl
 have hmay:=fun r=>h.may v r
 have hpar:=fun r=>h.par v r
 have hof:∀ (H':List Hl) (r:PA),Spec Tryz.prog 58 [(hdM p v im.length d r).V] H' (fun _:Unit=>True) (fun _ => .tuple #[.agg #[W4 p.s,I p.k,I p.p,I p.z],.bool true]) (fun _=>H'):=fun H' r=>by
  have:=code_Of H' (hdM p v im.length d r)
  rw [(hpar r).1,(hpar r).2] at this
  exact this
 repeat' (first|intro _|refine cw ?_|refine cw2 ?_ ?_|(refine k_fn 56 ?_;(refine o1_call (fun _=>dg_Sum _ ad c im d hi.up (by omega) h.hd) rfl (fun ⟨a24,c24⟩ _=>?_);(try dsimp only)))|(refine k_fn 57 ?_;refine o1_call (fun _=>(mf_May _ (hdM p v im.length d (a24,c24))).bv (hmay (a24,c24))) rfl (fun _ _=>?_))|refine o1_call (fun _=>hof _ (a24,c24)) rfl (fun _ _=>?_)|refine ow ?_|refine ow2 ?_ ?_|fail)
 refine st_stages' [(0,_),(14,_),(15,_),(3,_)] rtD36_2 [1,6,8] [⟨[0,2,3,4,5],[],some 1⟩,⟨[],[2,3,4,5],some 6⟩,⟨[7],[2,3],some 8⟩,⟨[9,10],[],none⟩] mixed cv (by kernel_rfl) (by kernel_rfl) ?_
 repeat' (first|intro _|refine sg ?_|refine pw ?_|refine pdd ?_|(refine k_fn 29 ?_;(refine o1_call (fun _=>slices_Clone _ _ _ key hk.up (by omega)) rfl (fun ⟨a40,c40⟩ _=>?_);(try dsimp only)))|(refine k_fn 59 ?_;(refine o1_call (fun _=>cd_New _ p ad c im h.ok h.ct hi.up h.le) rfl (fun ⟨cb,a45,c45⟩ _=>?_);(try dsimp only)))|(refine k_box ?_;refine o1_box rfl rfl (fun hb=>?_))|refine ow ?_|fail)
 all_goals dsimp only [List.cons_append,List.nil_append]
 repeat' (first|intro _|refine cw ?_|refine cw2 ?_ ?_|refine ow ?_|refine ow2 ?_ ?_|fail)
 refine rt_pack [rowB (a24,c24) d,rowB (a40,c40) key,rowB (a45,c45) im] [crB hb a40 key.length c40 p v im.length d (a24,c24) cb,cdB cb p a45 im.length c45 0#32 0 (.slice none 0 0),.any (stars H)] ent ?_
 refine rt_has (fun hh=>?_)
 have hA:=has_any hh
 refine rt_hide (p:=CrK key p im d) (L:=crL key p v im d hb) (R:=[.any (stars H)]) ⟨a40,c40,(a24,c24),cb,a45,c45,stars [rowB (a24,c24) d,rowB (a40,c40) key,rowB (a45,c45) im],none⟩ ⟨rx_row (T:=5) (ad:=a40) (c:=c40) (l:=key) hA,rx_row (T:=5) (ad:=a45) (c:=c45) (l:=im) hA,rx_row (T:=5) (ad:=a24) (c:=c24) (l:=d) hA,fun q e=>nomatch e⟩ ent ?_
 refine rt_tmp2 hb rfl rfl rfl rfl trivial ?_
 exact ent
def fstB (key:List (BitVec 8)) (p:Prm) (v:BitVec 32) (n:Nat) (d:List (BitVec 8)):List (BitVec 8):=(hdM p v n d (none,0)).by++tag key (hdM p v n d (none,0)).by
theorem fstB_len {key:List (BitVec 8)} {p:Prm} {im d:List (BitVec 8)} (h:HdOk key p im d) (v:BitVec 32):(fstB key p v im.length d).length=76:=by
 rw [fstB,List.length_append,by_len,may_len (h.may v (none,0)),tag_len]
set_option maxHeartbeats 4000000 in
theorem cr_First0 (H:List Hl) (key:List (BitVec 8)) (p:Prm) (v:BitVec 32) (im d:List (BitVec 8)) (hb:Nat) (ka:Option Addr) (kc:Nat) (r:PA) (cb:Nat) (h:HdOk key p im d) (hk:Rs (stars H) B ka kc key) (hd:Rs (stars H) B r.1 r.2 d) :
  Spec Tryz.prog 13 [.pointer (some ⟨hb,0,none⟩)] (crB hb ka key.length kc p v im.length d r cb::H) (fun _:Option Addr × Nat=>True) (fun q => .slice q.1 85 q.2)
   (fun q => .row 5 1 (.slice q.1 85 q.2) 85 ((frameB 1#8 (fstB key p v im.length d)).map B)::crB hb ka key.length kc p v im.length d r cb::H):=by
 refine spec_fn (res:=fun q:Option Addr × Nat=>[.row 5 1 (.slice q.1 85 q.2) 85 ((frameB 1#8 (fstB key p v im.length d)).map B),crB hb ka key.length kc p v im.length d r cb]) [crB hb ka key.length kc p v im.length d r cb] H Tryz.func13 rfl Tryz.ntmps13 (by kernel_rfl) rfl (fun W=>?_)
 dsimp only [List.cons_append,List.nil_append]
 have hl:=fstB_len h v
 have hkl:=h.kl
 have hmay:=h.may v r
 obtain ⟨b,hbb⟩:∃ b,fstB key p v im.length d=b:=⟨_,rfl⟩
 have hq:(hdM p v im.length d r).by++tag key (hdM p v im.length d r).by=b:=hbb
 have hmf:=fun (H':List Hl) (hr:Rs (stars H') B r.1 r.2 d) (hk:Rs (stars H') B ka kc key)=>mf_Bytes H' ka kc key _ _ (hdM p v im.length d r) hmay hr hk (by omega) rfl rfl
 rw [hq] at hmf
 rw [hbb] at hl ⊢
 rw [hl] at hmf
 have hrow:∀ q:PA,rowB q b = .row 5 1 (.slice q.1 76 q.2) 76 (b.map B):=fun q=>by show Hl.row 5 1 (.slice q.1 b.length q.2) b.length _=_;rw [hl]
 repeat' (first|intro _|refine cw ?_|refine cw2 ?_ ?_|refine o1_peql rfl rfl ?_|refine ow ?_|refine ow2 ?_ ?_|fail)
 refine st_stages' [(0,_)] rtD36_3 [8] [⟨[0,1,2,3,4,5,6,7],[],some 8⟩,⟨[9,10,11,12,13],[],none⟩] mixed cv (by kernel_rfl) (by kernel_rfl) ?_
 repeat' (first|intro _|refine sg ?_|refine pw ?_|refine pdd ?_|(refine o1_call (fun _=>hmf _ hd.up hk.up) rfl (fun ⟨a18,c18⟩ _=>?_);(try dsimp only);rw [hrow])|refine ow ?_|fail)
 all_goals dsimp only [List.cons_append,List.nil_append]
 repeat' (first|intro _|refine cw ?_|refine cw2 ?_ ?_|(refine k_fn 39 ?_;(refine o1_call (fun hh=>fr_Wrap _ 1#8 1 a18 76 c18 b (rx_row (T:=5) (ad:=a18) (c:=c18) (l:=b) hh) hl.symm (by decide) (by decide) rfl (by decide)) rfl (fun ⟨a23,c23⟩ _=>?_);(try dsimp only)))|refine ow ?_|refine ow2 ?_ ?_|fail)
 refine rt_tmp (a23,c23) rfl rfl rfl trivial ?_
 exact ent
theorem cr_First (H:List Hl) (key:List (BitVec 8)) (p:Prm) (v:BitVec 32) (im d:List (BitVec 8)) (hb:Nat) (h:HdOk key p im d) :
  Spec Tryz.prog 13 [.pointer (some ⟨hb,0,none⟩)] (.any (crP key p v im d hb)::H) (fun _:Option Addr × Nat=>True) (fun q => .slice q.1 85 q.2)
   (fun q => .row 5 1 (.slice q.1 85 q.2) 85 ((frameB 1#8 (fstB key p v im.length d)).map B) :: .any (crP key p v im d hb)::H):=by
 refine Spec.som (by kernel_rfl) (fun l hl=>?_)
 have hso:=som_of (p:=CrK key p im d) (L:=crL key p v im d hb) (R:=H) l hl
 obtain ⟨ka,kc,r,cb,ia,ic,A,cd⟩:=l
 have h1:=hl.ky
 have h2:=hl.hh
 cases cd with
 | none=>exact (cr_First0 (cdB cb p ia im.length ic 0#32 0 (.slice none 0 0) :: .any A::H) key p v im d hb ka kc r cb h h1.up h2.up).imp (fun q _ hp hx=>sep_mono hx (fun _ a=>a) hso)
 | some q=>exact (cr_First0 (cdB cb p ia im.length ic 1#32 0 (.slice q.1 q.2.2.length q.2.1) :: .row 22 1 (.slice q.1 q.2.2.length q.2.1) q.2.2.length (q.2.2.map Bs) :: .any (pcs 5 q.2.2) :: .any A::H) key p v im d hb ka kc r cb h h1.up h2.up).imp (fun q _ hp hx=>sep_mono hx (fun _ a=>a) hso)
set_option maxHeartbeats 4000000 in
theorem cr_Symbol (H:List Hl) (key:List (BitVec 8)) (p:Prm) (v:BitVec 32) (im d:List (BitVec 8)) (hb:Nat) (h:HdOk key p im d) (id:BitVec 32) (V:List Bool) (D:List (BitVec 8)) (n:Nat) (hV:SpRow p id V) (hD:symD (pieA p im) V=D) (hn:D.length=n) (hn1:1≤n) (hn2:n≤16) (ht:TabF (stars H)) :
  Spec Tryz.prog 14 [.pointer (some ⟨hb,0,none⟩),W4 id] (.any (crP key p v im d hb)::H) (fun _:Option Addr × Nat=>True) (fun q => .slice q.1 (8+n+9) q.2)
   (fun q => .row 5 1 (.slice q.1 (8+n+9) q.2) (8+n+9) ((frameB 2#8 (symB p.s id D)).map B) :: .any (crP key p v im d hb)::H):=by
 refine Spec.som (by kernel_rfl) (fun l hl=>?_)
 obtain ⟨ka,kc,r,cb,ia,ic,A,cd⟩:=l
 obtain ⟨h1,h3,h2,h4⟩:=hl
 dsimp only at h1 h2 h3 h4
 have hsb:(symB p.s id D).length=8+n:=by rw [←symB_len,hn]
 obtain ⟨b,hbb⟩:∃ b,symB p.s id D=b:=⟨_,rfl⟩
 have hpk:=fun (H':List Hl) (a:Option Addr) (c:Nat) (hr:Rs (stars H') B a c D)=>packet_Bytes_sym H' p.s id a c D (by omega) (by omega) hr
 rw [hbb,hn] at hpk
 rw [hbb] at hsb ⊢
 rw [hsb] at hpk
 cases cd with
 | none =>
  have hcd:=fun (H':List Hl) (hi:Rs (stars H') B ia ic im) (ht:TabF (stars H'))=>cd_Symbol_0 H' cb p ia ic im id V h.ok h.ct hi hV ht
  rw [hD,hn] at hcd
  show Spec _ _ _ ([crB hb ka key.length kc p v im.length d r cb,cdB cb p ia im.length ic 0#32 0 (.slice none 0 0),.any A]++H) _ _ _
  refine spec_fn (res:=fun q:Option Addr × Nat=>[.row 5 1 (.slice q.1 (8+n+9) q.2) (8+n+9) ((frameB 2#8 b).map B),.any (crP key p v im d hb)]) [crB hb ka key.length kc p v im.length d r cb,cdB cb p ia im.length ic 0#32 0 (.slice none 0 0),.any A] H Tryz.func14 rfl Tryz.ntmps14 (by kernel_rfl) rfl (fun W=>?_)
  dsimp only [List.cons_append,List.nil_append]
  repeat' (first|intro _|refine cw ?_|refine cw2 ?_ ?_|refine o1_peql rfl rfl ?_|refine ow ?_|refine ow2 ?_ ?_|fail)
  refine st_stages' [(0,_),(1,_)] rtD36_4 [11,13] [⟨[0,1,2,3,4,5,6,7,8,9,10],[],some 11⟩,⟨[12],[0,1,2,3,4,5],some 13⟩,⟨[14,15,16,17,18],[],none⟩] mixed cv (by kernel_rfl) (by kernel_rfl) ?_
  repeat' (first|intro _|refine sg ?_|(refine p_load ?_;refine po (by first|refine ox_load (b:=hb) (i:=1) rfl rfl fz|refine ox_load (b:=hb) (i:=11) rfl rfl fz|fail) ?_)|refine pw ?_|refine pdd ?_|(refine o1_call_box (b:=cb) (fun _=>hcd _ h3.up ht.up) rfl (fun ⟨⟨a23,c23⟩,aq,cq,qs⟩ hqs=>?_);dsimp only at hqs ⊢)|(refine o1_call (fun hh=>hpk _ a23 c23 (rx_row (T:=5) (ad:=a23) (c:=c23) (l:=D) hh)) rfl (fun ⟨a25,c25⟩ _=>?_);(try dsimp only))|refine ow ?_|fail)
  all_goals dsimp only [List.cons_append,List.nil_append]
  repeat' (first|intro _|refine cw ?_|refine cw2 ?_ ?_|(refine k_fn 39 ?_;(refine o1_call (fun hh=>fr_Wrap _ 2#8 2 a25 (8+n) c25 b (rx_row (T:=5) (ad:=a25) (c:=c25) (l:=b) hh) hsb.symm (by omega) (by omega) rfl (by decide)) rfl (fun ⟨a30,c30⟩ _=>?_);(try dsimp only)))|refine ow ?_|refine ow2 ?_ ?_|fail)
  refine rt_hide (p:=CrK key p im d) (L:=crL key p v im d hb) (R:=[.row 5 1 (.slice a30 (8+n+9) c30) (8+n+9) ((frameB 2#8 b).map B),.any (stars H)]) ⟨ka,kc,r,cb,ia,ic,A,some (aq,cq,qs)⟩ ⟨h1,h3,h2,fun q e=>by cases e;exact hqs⟩ ent ?_
  refine rt_tmp (a30,c30) rfl rfl rfl trivial ?_
  exact ent
 | some q =>
  obtain ⟨aq,cq,qs⟩:=q
  have hqs:=h4 _ rfl
  dsimp only at hqs
  have hcd:=fun (H':List Hl) (ht:TabF (stars H')) (hq:Rs (stars H') Bs aq cq qs) (hpc:∀ s∈qs,Rs (stars H') B s.ad s.cap s.l)=>cd_Symbol_1 H' cb p ia im.length ic im id V aq cq qs h.ok hV ht hq hpc hqs
  rw [hD,hn] at hcd
  show Spec _ _ _ ([crB hb ka key.length kc p v im.length d r cb,cdB cb p ia im.length ic 1#32 0 (.slice aq qs.length cq),.row 22 1 (.slice aq qs.length cq) qs.length (qs.map Bs),.any (pcs 5 qs),.any A]++H) _ _ _
  refine spec_fn (res:=fun q:Option Addr × Nat=>[.row 5 1 (.slice q.1 (8+n+9) q.2) (8+n+9) ((frameB 2#8 b).map B),.any (crP key p v im d hb)]) [crB hb ka key.length kc p v im.length d r cb,cdB cb p ia im.length ic 1#32 0 (.slice aq qs.length cq),.row 22 1 (.slice aq qs.length cq) qs.length (qs.map Bs),.any (pcs 5 qs),.any A] H Tryz.func14 rfl Tryz.ntmps14 (by kernel_rfl) rfl (fun W=>?_)
  dsimp only [List.cons_append,List.nil_append]
  repeat' (first|intro _|refine cw ?_|refine cw2 ?_ ?_|refine o1_peql rfl rfl ?_|refine ow ?_|refine ow2 ?_ ?_|fail)
  refine st_stages' [(0,_),(1,_)] rtD36_5 [11,13] [⟨[0,1,2,3,4,5,6,7,8,9,10],[],some 11⟩,⟨[12],[0,1,2,3,4,5],some 13⟩,⟨[14,15,16,17,18],[],none⟩] mixed cv (by kernel_rfl) (by kernel_rfl) ?_
  repeat' (first|intro _|refine sg ?_|(refine p_load ?_;refine po (by first|refine ox_load (b:=hb) (i:=1) rfl rfl fz|refine ox_load (b:=hb) (i:=11) rfl rfl fz|fail) ?_)|refine pw ?_|refine pdd ?_|(refine o1_call_box (b:=cb) (fun hh=>hcd _ ht.up (rx_row (T:=22) (ad:=aq) (c:=cq) (l:=qs) (has_tail hh)) (fun s hs=>pcs_read (T:=5) (ls:=qs) hs (has_tail hh))) rfl (fun ⟨a23,c23⟩ _=>?_);(try dsimp only))|(refine o1_call (fun hh=>hpk _ a23 c23 (rx_row (T:=5) (ad:=a23) (c:=c23) (l:=D) hh)) rfl (fun ⟨a25,c25⟩ _=>?_);(try dsimp only))|refine ow ?_|fail)
  all_goals dsimp only [List.cons_append,List.nil_append]
  repeat' (first|intro _|refine cw ?_|refine cw2 ?_ ?_|(refine k_fn 39 ?_;(refine o1_call (fun hh=>fr_Wrap _ 2#8 2 a25 (8+n) c25 b (rx_row (T:=5) (ad:=a25) (c:=c25) (l:=b) hh) hsb.symm (by omega) (by omega) rfl (by decide)) rfl (fun ⟨a30,c30⟩ _=>?_);(try dsimp only)))|refine ow ?_|refine ow2 ?_ ?_|fail)
  refine rt_hide (p:=CrK key p im d) (L:=crL key p v im d hb) (R:=[.row 5 1 (.slice a30 (8+n+9) c30) (8+n+9) ((frameB 2#8 b).map B),.any (stars H)]) ⟨ka,kc,r,cb,ia,ic,A,some (aq,cq,qs)⟩ ⟨h1,h3,h2,h4⟩ ent ?_
  refine rt_tmp (a30,c30) rfl rfl rfl trivial ?_
  exact ent
end Go.Dp
namespace Go.Dp
open Go.RowKit Go.Proofs
def rtD9_0:List Row:=[⟨some 22,[],[],none⟩,⟨some 23,[0],[0],none⟩,⟨some 24,[1],[0,1],none⟩,⟨some 25,[2],[0,1,2],none⟩,⟨some 26,[3],[0,1,2,3],none⟩,⟨some 27,[],[],none⟩,⟨some 28,[5],[5],none⟩,⟨some 29,[6],[5,6],none⟩,⟨some 30,[7],[5,6,7],none⟩,⟨some 31,[4,8],[0,1,2,3,4,5,6,7,8],none⟩,⟨some 8,[9,0,1,2,3,4,5,6,7,8,9],[0,1,2,3,4,5,6,7,8,9],none⟩]
def rtD9_1:List Row:=[⟨some 22,[],[],none⟩,⟨some 23,[0],[0],none⟩,⟨some 24,[1],[0,1],none⟩,⟨some 25,[2],[0,1,2],none⟩,⟨some 26,[3],[0,1,2,3],none⟩,⟨some 27,[],[],none⟩,⟨some 28,[5],[5],none⟩,⟨some 29,[6],[5,6],none⟩,⟨some 30,[7],[5,6,7],none⟩,⟨some 31,[4,8],[0,1,2,3,4,5,6,7,8],none⟩,⟨some 8,[9,0,1,2,3,4,5,6,7,8,9],[0,1,2,3,4,5,6,7,8,9],none⟩]
def rtD9_2:List Row:=[⟨some 58,[],[],none⟩,⟨some 59,[0],[0],none⟩,⟨some 60,[1],[0,1],none⟩,⟨some 61,[2],[0,1,2],none⟩,⟨some 62,[3],[0,1,2,3],none⟩,⟨some 63,[],[],none⟩,⟨some 64,[5],[5],none⟩,⟨some 65,[6],[5,6],none⟩,⟨some 66,[7],[5,6,7],none⟩,⟨some 67,[8],[5,6,7,8],none⟩,⟨some 68,[4,9],[0,1,2,3,4,5,6,7,8,9],none⟩,⟨some 69,[],[],none⟩,⟨some 70,[11],[11],none⟩,⟨some 71,[12],[11,12],none⟩,⟨some 72,[13],[11,12,13],none⟩,⟨some 73,[14],[11,12,13,14],none⟩,⟨some 74,[10,15],[0,1,2,3,4,5,6,7,8,9,10,11,12,13,14,15],none⟩,⟨some 75,[],[],none⟩,⟨some 76,[17],[17],none⟩,⟨some 77,[18],[17,18],none⟩,⟨some 78,[19],[17,18,19],none⟩,⟨some 79,[16,20],[0,1,2,3,4,5,6,7,8,9,10,11,12,13,14,15,16,17,18,19,20],none⟩,⟨some 11,[21,0,1,2,3,4,5,6,7,8,9,10,11,12,13,14,15,16,17,18,19,20,21],[0,1,2,3,4,5,6,7,8,9,10,11,12,13,14,15,16,17,18,19,20,21],none⟩]
theorem or_byte (a b:Nat) (hb:b<256):a*256 ||| b=a*256+b:=by
 have:=Nat.shiftLeft_add_eq_or_of_lt (show b<2 ^ 8 from hb) a
 rw [Nat.shiftLeft_eq] at this
 exact this.symm
def num4 (x0 x1 x2 x3:BitVec 8):BitVec 32:=(((x0.setWidth 32 <<< 24) ||| (x1.setWidth 32 <<< 16)) ||| (x2.setWidth 32 <<< 8)) ||| x3.setWidth 32
theorem num4_32 (x0 x1 x2 x3:BitVec 8):num4 x0 x1 x2 x3=num32 [x0,x1,x2,x3]:=by
 apply BitVec.eq_of_getLsbD_eq
 intro i hi
 simp only [num4,num32,List.foldl_cons,List.foldl_nil,BitVec.getLsbD_or,BitVec.getLsbD_shiftLeft,BitVec.getLsbD_setWidth,BitVec.getLsbD_zero]
 have z:∀ (x:BitVec 8) (j:Nat),8≤j→x.getLsbD j=false:=fun x j hj=>BitVec.getLsbD_of_ge x j hj
 rcases (by omega:i<8∨(8≤i∧i<16)∨(16≤i∧i<24)∨(24≤i∧i<32)) with q|q|q|q
 ·simp [hi,show i<24 by omega,show i<16 by omega,q]
 ·have e1:=z x3 i (by omega)
  simp [hi,e1,show i<24 by omega,show i<16 by omega,show ¬ i<8 by omega,show i - 8<8 by omega,show i - 8<32 by omega]
 ·have e1:=z x3 i (by omega)
  have e2:=z x2 (i - 8) (by omega)
  simp [hi,e1,e2,show i<24 by omega,show ¬ i<16 by omega,show ¬ i<8 by omega,show ¬ i - 8<8 by omega,show i - 8<32 by omega,show i - 8 - 8=i - 16 by omega,show i - 16<8 by omega,show i - 16<32 by omega]
 ·have e1:=z x3 i (by omega)
  have e2:=z x2 (i - 8) (by omega)
  have e3:=z x1 (i - 16) (by omega)
  simp [hi,e1,e2,e3,show ¬ i<24 by omega,show ¬ i<16 by omega,show ¬ i<8 by omega,show ¬ i - 8<8 by omega,show i - 8<32 by omega,show i - 8 - 8=i - 16 by omega,show ¬ i - 16<8 by omega,show i - 16<32 by omega,show i - 16 - 8=i - 24 by omega,show i - 24<8 by omega,show i - 24<32 by omega]
theorem rx_cuth {α:Type} {H H':List Hl} {T:TypeId} {ad:Option Addr} {n c:Nat} {enc:α→Value} {l q:List α} [s:SRow H ad c n T (l.map enc) H'] (k:Nat) (hk:k≤l.length) (e:l.take k=q) (hh:Has H):Rs (stars H) enc (cutA ad c 0) (c - 0) q:=e ▸ (rx_row (T:=T) (n:=n) (ad:=ad) (c:=c) (l:=l) (enc:=enc) hh).cuth k hk
theorem rx_cutl {α:Type} {H H':List Hl} {T:TypeId} {ad:Option Addr} {n c:Nat} {enc:α→Value} {l q:List α} [s:SRow H ad c n T (l.map enc) H'] (k:Nat) (hk:k≤l.length) (e:l.drop k=q) (hh:Has H):Rs (stars H) enc (cutA ad c k) (c - k) q:=e ▸ (rx_row (T:=T) (n:=n) (ad:=ad) (c:=c) (l:=l) (enc:=enc) hh).cutl k hk
theorem numN_two {S:List (BitVec 8)} {x4 x5:BitVec 8} (g4:S[4]?=some x4) (g5:S[5]?=some x5):numN (seg S 4 2)=x4.toNat*256+x5.toNat:=by
 have e:seg S 4 2=[x4,x5]:=by
  apply List.ext_getElem?
  intro i
  rw [seg_get]
  rcases (by omega:i=0∨i=1∨2≤i) with rfl|rfl|hi
  ·rw [if_pos (by omega),g4];rfl
  ·rw [if_pos (by omega),g5];rfl
  ·rw [if_neg (by omega),List.getElem?_eq_none (by simpa using hi)]
 rw [e]
 simp [numN]
theorem cl_at (H:List Hl) (s:Nat) (hs:s<14) :
  Spec Tryz.prog 114 [I s] H (fun _:Unit=>True) (fun _=>I (s*256:Nat)) (fun _=>H):=by
 refine spec_pure (res:=fun _=>[]) H Tryz.func114 rfl Tryz.ntmps114 (by kernel_rfl) rfl (fun W=>?_)
 have hm:(0+(s:Int))*256=((s*256:Nat):Int):=by omega
 repeat' (first|intro _|refine cw ?_|refine cw2 ?_ ?_|(refine k_binOp .mul ?_;(refine o1_mul rfl rfl (by omega) ?_;rw [hm]))|refine ow ?_|refine ow2 ?_ ?_|fail)
 refine rt_tmp () rfl rfl rfl trivial ?_
 exact ent
abbrev cpZ:Value := .agg #[W4 0#32,.slice none 0 0]
set_option maxHeartbeats 2000000 in
theorem cl_whole_no (H:List Hl) (b:Nat) (ad:Option Addr) (c:Nat) (f:Fl) (s:Nat) (h:RdFl (stars H) b ad c f) (hs:s<14) (hd:f.pw.isDown=false) (hw:copyAt f.bs s=none) :
  Spec Tryz.prog 146 [.pointer (some ⟨b,0,none⟩),I s] H (fun _:Unit=>True) (fun _ => .tuple #[cpZ,.bool false]) (fun _=>H):=by
 refine spec_pure (res:=fun _=>[]) H Tryz.func146 rfl Tryz.ntmps146 (by kernel_rfl) rfl (fun W=>?_)
 have hl:=h.l
 unfold copyAt at hw
 obtain ⟨S,hS⟩:∃ S,seg f.bs (s*256) 256=S:=⟨_,rfl⟩
 have hSl:S.length=256:=by rw [←hS];exact seg_len (by omega)
 rw [hS] at hw
 obtain ⟨x4,g4⟩:∃ x,S[4]?=some x:=⟨_,List.getElem?_eq_getElem (by omega)⟩
 obtain ⟨x5,g5⟩:∃ x,S[5]?=some x:=⟨_,List.getElem?_eq_getElem (by omega)⟩
 have b4:=x4.isLt
 have b5:=x5.isLt
 have hn:=numN_two g4 g5
 obtain ⟨n,hnn⟩:∃ n,x4.toNat*256+x5.toNat=n:=⟨_,rfl⟩
 have hor:x4.toNat*256 ||| x5.toNat=n:=by rw [or_byte _ _ b5,hnn]
 have hmul:(x4.toNat:Int)*256=((x4.toNat*256:Nat):Int):=by omega
 rw [hnn] at hn
 unfold copyC at hw
 simp only [hn] at hw
 have hidx:(6:Int)+n+5 - 1=((n+10:Nat):Int):=by omega
 repeat' (first|intro _|refine cw ?_|refine cw2 ?_ ?_|(refine k_fn 114 ?_;(refine o1_call (fun _=>cl_at _ s hs) rfl (fun _ _=>?_)))|(refine k_fn 98 ?_;(refine o1_call (fun _=>fl_Read _ b ad c f (s*256) 256 h.up (by omega) hd) rfl (fun ⟨a6,c6⟩ _=>?_);(try dsimp only);rw [hS]))|refine ow ?_|refine ow2 ?_ ?_|fail)
 refine st_stages' [(6,_)] rtD9_0 [] [⟨[0,1,2,3,4,5,6,7,8,9,10],[],none⟩] mixed cv (by kernel_rfl) (by kernel_rfl) ?_
 repeat' (first|intro _|refine sg ?_|(refine p_indexAddr ?_;refine po (by first|refine o1_iah (enc:=B) (ad:=a6) (c:=c6) (xs:=S) 4 rfl rfl rx_row hSl.symm rfl (by omega) fz|refine o1_iah (enc:=B) (ad:=a6) (c:=c6) (xs:=S) 5 rfl rfl rx_row hSl.symm rfl (by omega) fz|fail) ?_)|(refine p_load ?_;refine po (by first|refine o1_load_hv (enc:=B) (ad:=a6) (c:=c6) (xs:=S) 4 x4 rfl rx_row g4 fz|refine o1_load_hv (enc:=B) (ad:=a6) (c:=c6) (xs:=S) 5 x5 rfl rx_row g5 fz|fail) ?_)|refine po (by first|((refine o1_ishl8 rfl rfl (by omega) ?_;rw [hmul]);all_goals exact fz)|fail) ?_|refine po (by first|((refine o1_ior (x4.toNat*256) x5.toNat rfl rfl rfl rfl (by omega) (by omega) ?_;rw [hor]);all_goals exact fz)|fail) ?_|refine pw ?_|refine pdd ?_|refine ow ?_|fail)
 all_goals dsimp only [List.cons_append,List.nil_append]
 by_cases h1:245<n
 ·repeat' (first|intro _|refine cw ?_|refine cw2 ?_ ?_|refine ow ?_|refine ow2 ?_ ?_|fail)
  refine rt_cell_tmp () rfl rfl rfl rfl rfl trivial ?_
  exact ent
 rw [if_neg h1] at hw
 obtain ⟨y,hy⟩:∃ y,S[n+10]?=some y:=⟨_,List.getElem?_eq_getElem (by omega)⟩
 have hyd:S.getD (n+10) 0#8=y:=by rw [List.getD_eq_getElem?_getD,hy];rfl
 rw [hyd] at hw
 by_cases h2:y=0#8
 ·rw [if_neg (by simpa using h2)] at hw
  subst h2
  obtain ⟨Q,hQ⟩:∃ Q,S.take (n+10)=Q:=⟨_,rfl⟩
  have hQl:Q.length=n+10:=by rw [←hQ,List.length_take];omega
  rw [hQ] at hw
  have hc:crcOk Q=false:=by
   cases hc:crcOk Q
   ·rfl
   ·rw [hc] at hw;simp at hw
  repeat' (first|intro _|refine cw ?_|refine cw2 ?_ ?_|(refine k_binOp .sub ?_;(refine o1_sub rfl rfl (by omega) ?_;rw [hidx]))|(refine k_indexAddr ?_;refine o1_iah (enc:=B) (ad:=a6) (c:=c6) (xs:=S) (n+10) rfl rfl rx_row hSl.symm rfl (by omega) ?_)|(refine k_load ?_;refine o1_load_hv (enc:=B) (ad:=a6) (c:=c6) (xs:=S) (n+10) 0#8 rfl rx_row hy ?_)|(refine k_binOp .neq ?_;refine o1_neq_f rfl rfl rfl ?_)|(refine k_slice ?_;(refine ox_cs_hr (enc:=B) (xs:=S) (n+10) rfl rfl rfl hSl.symm (by omega) ?_;rw [hQ]))|(refine k_fn 72 ?_;refine o1_call (fun hh=>crc_Right_no _ (cutA a6 c6 0) Q.length (c6 - 0) Q (rx_cuth (l:=S) (enc:=B) (n+10) (by omega) hQ hh) rfl (by omega) hc) rfl (fun _ _=>?_))|refine ow ?_|refine ow2 ?_ ?_|fail)
  refine rt_cell_tmp () rfl rfl rfl rfl rfl trivial ?_
  exact ent
 ·have hy0:(y.toNat:Int)≠0:=fun e=>h2 (BitVec.eq_of_toNat_eq (by show y.toNat=0;omega))
  repeat' (first|intro _|refine cw ?_|refine cw2 ?_ ?_|(refine k_binOp .sub ?_;(refine o1_sub rfl rfl (by omega) ?_;rw [hidx]))|(refine k_indexAddr ?_;refine o1_iah (enc:=B) (ad:=a6) (c:=c6) (xs:=S) (n+10) rfl rfl rx_row hSl.symm rfl (by omega) ?_)|(refine k_load ?_;refine o1_load_hv (enc:=B) (ad:=a6) (c:=c6) (xs:=S) (n+10) y rfl rx_row hy ?_)|(refine k_binOp .neq ?_;refine o1_neq_t rfl rfl hy0 ?_)|refine ow ?_|refine ow2 ?_ ?_|fail)
  refine rt_cell_tmp () rfl rfl rfl rfl rfl trivial ?_
  exact ent
theorem copyAt_drop {l:List (BitVec 8)} {s:Nat} {k:BitVec 32} {q:List (BitVec 8)} (hw:copyAt l s=some (k,q)):((seg l (s*256) 256).take (q.length+6)).drop 6=q∧q.length≤245:=by
 unfold copyAt copyC at hw
 dsimp only at hw
 split at hw
 ·cases hw
 split at hw
 ·cases hw
 split at hw
 ·rename_i h1 h2 h3
  obtain ⟨e1,e2⟩:=Prod.mk.inj (Option.some.inj hw)
  have hl:q.length≤numN (seg (seg l (s*256) 256) 4 2):=by rw [←e2,seg,List.length_take];omega
  refine ⟨?_,by omega⟩
  rw [List.drop_take,←e2]
  simp only [seg,Nat.add_sub_cancel,List.length_take]
  rw [List.take_eq_take_iff]
  omega
 ·cases hw
set_option maxHeartbeats 4000000 in
theorem cl_whole (H:List Hl) (b:Nat) (ad:Option Addr) (c:Nat) (f:Fl) (s:Nat) (k:BitVec 32) (q Z:List (BitVec 8)) (h:RdFl (stars H) b ad c f) (hs:s<14) (hd:f.pw.isDown=false) (hw:copyAt f.bs s=some (k,q)) (hZ:(seg f.bs (s*256) 256).take (q.length+6)=Z) :
  Spec Tryz.prog 146 [.pointer (some ⟨b,0,none⟩),I s] H (fun _:Option Addr × Nat=>True) (fun r => .tuple #[.agg #[W4 k,.slice (cutA r.1 r.2 6) q.length (r.2 - 6)],.bool true]) (fun r => .row 5 1 (.slice r.1 (q.length+6) r.2) (q.length+6) (Z.map B)::H):=by
 refine spec_pure (res:=fun r:Option Addr × Nat=>[.row 5 1 (.slice r.1 (q.length+6) r.2) (q.length+6) (Z.map B)]) H Tryz.func146 rfl Tryz.ntmps146 (by kernel_rfl) rfl (fun W=>?_)
 obtain ⟨hZd,hq245⟩:=copyAt_drop hw
 rw [hZ] at hZd
 have hl:=h.l
 unfold copyAt at hw
 obtain ⟨S,hS⟩:∃ S,seg f.bs (s*256) 256=S:=⟨_,rfl⟩
 have hSl:S.length=256:=by rw [←hS];exact seg_len (by omega)
 rw [hS] at hw hZ
 obtain ⟨x4,g4⟩:∃ x,S[4]?=some x:=⟨_,List.getElem?_eq_getElem (by omega)⟩
 obtain ⟨x5,g5⟩:∃ x,S[5]?=some x:=⟨_,List.getElem?_eq_getElem (by omega)⟩
 have b4:=x4.isLt
 have b5:=x5.isLt
 have hn:=numN_two g4 g5
 obtain ⟨n,hnn⟩:∃ n,x4.toNat*256+x5.toNat=n:=⟨_,rfl⟩
 have hor:x4.toNat*256 ||| x5.toNat=n:=by rw [or_byte _ _ b5,hnn]
 have hmul:(x4.toNat:Int)*256=((x4.toNat*256:Nat):Int):=by omega
 rw [hnn] at hn
 unfold copyC at hw
 simp only [hn] at hw
 have hidx:(6:Int)+n+5 - 1=((n+10:Nat):Int):=by omega
 by_cases h1:245<n
 ·rw [if_pos h1] at hw;cases hw
 rw [if_neg h1] at hw
 obtain ⟨y,hy⟩:∃ y,S[n+10]?=some y:=⟨_,List.getElem?_eq_getElem (by omega)⟩
 have hyd:S.getD (n+10) 0#8=y:=by rw [List.getD_eq_getElem?_getD,hy];rfl
 rw [hyd] at hw
 by_cases h2 : ¬ y=0#8
 ·rw [if_pos (by simpa using h2)] at hw;cases hw
 have h2:y=0#8:=Decidable.not_not.1 h2
 rw [if_neg (by simpa using h2)] at hw
 subst h2
 obtain ⟨Q,hQ⟩:∃ Q,S.take (n+10)=Q:=⟨_,rfl⟩
 have hQl:Q.length=n+10:=by rw [←hQ,List.length_take];omega
 rw [hQ] at hw
 by_cases hc : ¬ crcOk Q=true
 ·rw [if_neg hc] at hw;cases hw
 have hc:crcOk Q=true:=Decidable.not_not.1 hc
 rw [if_pos hc] at hw
 obtain ⟨e1,e2⟩:=Prod.mk.inj (Option.some.inj hw)
 have hql:q.length=n:=by rw [←e2];exact seg_len (by omega)
 have hQ4:Q.length - 4=n+6:=by omega
 have hQZ:Q.take (n+6)=Z:=by rw [←hQ,List.take_take,Nat.min_eq_left (by omega),←hZ,hql]
 have hZl:Z.length=n+6:=by rw [←hQZ,List.length_take];omega
 rw [hql]
 obtain ⟨x0,x1,x2,x3,hx⟩:∃ x0 x1 x2 x3,S.take 4=[x0,x1,x2,x3]:=list4 (by rw [List.length_take];omega)
 have g:∀ i,i<4→S[i]?=[x0,x1,x2,x3][i]?:=fun i hi=>by rw [←hx,List.getElem?_take,if_pos hi]
 have g0:S[0]?=some x0:=g 0 (by decide)
 have g1:S[1]?=some x1:=g 1 (by decide)
 have g2:S[2]?=some x2:=g 2 (by decide)
 have g3:S[3]?=some x3:=g 3 (by decide)
 have hk:num4 x0 x1 x2 x3=k:=by rw [num4_32,←hx,e1]
 repeat' (first|intro _|refine cw ?_|refine cw2 ?_ ?_|(refine k_fn 114 ?_;(refine o1_call (fun _=>cl_at _ s hs) rfl (fun _ _=>?_)))|(refine k_fn 98 ?_;(refine o1_call (fun _=>fl_Read _ b ad c f (s*256) 256 h.up (by omega) hd) rfl (fun ⟨a6,c6⟩ _=>?_);(try dsimp only);rw [hS]))|refine ow ?_|refine ow2 ?_ ?_|fail)
 refine st_stages' [(6,_)] rtD9_1 [] [⟨[0,1,2,3,4,5,6,7,8,9,10],[],none⟩] mixed cv (by kernel_rfl) (by kernel_rfl) ?_
 repeat' (first|intro _|refine sg ?_|(refine p_indexAddr ?_;refine po (by first|refine o1_iah (enc:=B) (ad:=a6) (c:=c6) (xs:=S) 4 rfl rfl rx_row hSl.symm rfl (by omega) fz|refine o1_iah (enc:=B) (ad:=a6) (c:=c6) (xs:=S) 5 rfl rfl rx_row hSl.symm rfl (by omega) fz|fail) ?_)|(refine p_load ?_;refine po (by first|refine o1_load_hv (enc:=B) (ad:=a6) (c:=c6) (xs:=S) 4 x4 rfl rx_row g4 fz|refine o1_load_hv (enc:=B) (ad:=a6) (c:=c6) (xs:=S) 5 x5 rfl rx_row g5 fz|fail) ?_)|refine po (by first|((refine o1_ishl8 rfl rfl (by omega) ?_;rw [hmul]);all_goals exact fz)|fail) ?_|refine po (by first|((refine o1_ior (x4.toNat*256) x5.toNat rfl rfl rfl rfl (by omega) (by omega) ?_;rw [hor]);all_goals exact fz)|fail) ?_|refine pw ?_|refine pdd ?_|refine ow ?_|fail)
 all_goals dsimp only [List.cons_append,List.nil_append]
 repeat' (first|intro _|refine cw ?_|refine cw2 ?_ ?_|(refine k_binOp .sub ?_;(refine o1_sub rfl rfl (by omega) ?_;rw [hidx]))|(refine k_indexAddr ?_;refine o1_iah (enc:=B) (ad:=a6) (c:=c6) (xs:=S) (n+10) rfl rfl rx_row hSl.symm rfl (by omega) ?_)|(refine k_load ?_;refine o1_load_hv (enc:=B) (ad:=a6) (c:=c6) (xs:=S) (n+10) 0#8 rfl rx_row hy ?_)|(refine k_binOp .neq ?_;refine o1_neq_f rfl rfl rfl ?_)|(refine k_slice ?_;(refine ox_cs_hr (enc:=B) (xs:=S) (n+10) rfl rfl rfl hSl.symm (by omega) ?_;rw [hQ]))|(refine k_fn 72 ?_;(refine o1_call (fun hh=>crc_Right _ (cutA a6 c6 0) Q.length (c6 - 0) Q (rx_cuth (l:=S) (enc:=B) (n+10) (by omega) hQ hh) rfl (by omega) hc) rfl (fun ⟨a53,c53⟩ _=>?_);(try dsimp only);rw [hQ4,hQZ]))|refine ow ?_|refine ow2 ?_ ?_|fail)
 refine st_stages' [(6,_)] rtD9_2 [] [⟨[0,1,2,3,4,5,6,7,8,9,10,11,12,13,14,15,16,17,18,19,20,21,22],[],none⟩] mixed cv (by kernel_rfl) (by kernel_rfl) ?_
 repeat' (first|intro _|refine sg ?_|(refine p_indexAddr ?_;refine po (by first|refine o1_iah (enc:=B) (ad:=a6) (c:=c6) (xs:=S) 0 rfl rfl rx_row hSl.symm rfl (by omega) fz|refine o1_iah (enc:=B) (ad:=a6) (c:=c6) (xs:=S) 1 rfl rfl rx_row hSl.symm rfl (by omega) fz|refine o1_iah (enc:=B) (ad:=a6) (c:=c6) (xs:=S) 2 rfl rfl rx_row hSl.symm rfl (by omega) fz|refine o1_iah (enc:=B) (ad:=a6) (c:=c6) (xs:=S) 3 rfl rfl rx_row hSl.symm rfl (by omega) fz|fail) ?_)|(refine p_load ?_;refine po (by first|refine o1_load_hv (enc:=B) (ad:=a6) (c:=c6) (xs:=S) 0 x0 rfl rx_row g0 fz|refine o1_load_hv (enc:=B) (ad:=a6) (c:=c6) (xs:=S) 1 x1 rfl rx_row g1 fz|refine o1_load_hv (enc:=B) (ad:=a6) (c:=c6) (xs:=S) 2 x2 rfl rx_row g2 fz|refine o1_load_hv (enc:=B) (ad:=a6) (c:=c6) (xs:=S) 3 x3 rfl rx_row g3 fz|fail) ?_)|refine pw ?_|refine pdd ?_|refine ow ?_|fail)
 all_goals dsimp only [List.cons_append,List.nil_append]
 repeat' (first|intro _|refine cw ?_|refine cw2 ?_ ?_|(refine k_slice ?_;(refine o1_cs_l (xs:=Z) 6 rfl rfl rfl hZl.symm (by omega) ?_;rw [hZd,hql]))|refine ow ?_|refine ow2 ?_ ?_|fail)
 refine rt_cell_tmp (a53,c53) rfl rfl rfl rfl (by rw [←hk];rfl) trivial ?_
 exact ent
def rtD13_0:List Row:=[⟨some 5,[],[],none⟩,⟨some 6,[],[],none⟩,⟨some 7,[1],[1],none⟩,⟨some 8,[0,2],[0,1,2],none⟩,⟨some 9,[3],[0,1,2,3],none⟩,⟨some 10,[4],[0,1,2,3,4],none⟩,⟨some 11,[],[],none⟩,⟨some 12,[],[],none⟩,⟨some 13,[7,2],[1,2,7],none⟩,⟨some 14,[6,8],[1,2,6,7,8],none⟩,⟨some 15,[],[],none⟩,⟨some 16,[10,8],[1,2,7,8,10],none⟩,⟨some 17,[9,11],[1,2,6,7,8,9,10,11],none⟩,⟨some 18,[5,12],[0,1,2,3,4,5,6,7,8,9,10,11,12],none⟩,⟨some 4,[13,11,0,1,2,3,4,5,6,7,8,9,10,11,12,13],[0,1,2,3,4,5,6,7,8,9,10,11,12,13],none⟩]
def rtD13_1:List Row:=[⟨some 3,[],[],none⟩,⟨some 4,[0],[0],none⟩,⟨some 5,[1],[0,1],none⟩,⟨some 6,[2],[0,1,2],none⟩,⟨some 7,[3],[0,1,2,3],none⟩,⟨some 8,[],[],none⟩,⟨some 9,[5],[5],none⟩,⟨some 10,[6],[5,6],none⟩,⟨some 11,[7],[5,6,7],none⟩,⟨some 12,[8],[5,6,7,8],none⟩,⟨some 13,[4,9],[0,1,2,3,4,5,6,7,8,9],none⟩,⟨some 14,[],[],none⟩,⟨some 15,[11],[11],none⟩,⟨some 16,[12],[11,12],none⟩,⟨some 17,[13],[11,12,13],none⟩,⟨some 18,[14],[11,12,13,14],none⟩,⟨some 19,[10,15],[0,1,2,3,4,5,6,7,8,9,10,11,12,13,14,15],none⟩,⟨some 20,[],[],none⟩,⟨some 21,[17],[17],none⟩,⟨some 22,[18],[17,18],none⟩,⟨some 23,[19],[17,18,19],none⟩,⟨some 24,[16,20],[0,1,2,3,4,5,6,7,8,9,10,11,12,13,14,15,16,17,18,19,20],none⟩,⟨some 2,[21,0,1,2,3,4,5,6,7,8,9,10,11,12,13,14,15,16,17,18,19,20,21],[0,1,2,3,4,5,6,7,8,9,10,11,12,13,14,15,16,17,18,19,20,21],none⟩]
theorem pl_bounds {z:Nat} (h1:1≤z) (h2:z≤16):8≤plW z∧plW z≤18∧plW z*(z+13)≤256:=by
 have key:∀ z,z<17→1≤z→8≤plW z∧plW z≤18∧plW z*(z+13)≤256:=by decide
 exact key z (by omega) h1
theorem at_bounds {z p:Nat} (h1:1≤z) (h2:z≤16) (hp:p<8*plW z):atW z p+(z+13)≤3584∧1536≤atW z p:=by
 obtain ⟨b1,b2,b3⟩:=pl_bounds h1 h2
 obtain ⟨L,hL⟩:∃ L,plW z=L:=⟨_,rfl⟩
 rw [hL] at b1 b2 b3 hp
 have e1:p / L<8:=Nat.div_lt_of_lt_mul (by rw [Nat.mul_comm];exact hp)
 have e2:p % L<L:=Nat.mod_lt _ (by omega)
 have e3:(p % L+1)*(z+13)≤L*(z+13):=Nat.mul_le_mul_right _ e2
 rw [Nat.add_mul,Nat.one_mul] at e3
 unfold atW
 rw [hL]
 obtain ⟨q,hq⟩:∃ q,p / L=q:=⟨_,rfl⟩
 obtain ⟨r,hr⟩:∃ r,p % L*(z+13)=r:=⟨_,rfl⟩
 rw [hq] at e1 ⊢
 rw [hr] at e3 ⊢
 omega
structure RdWh (A:Hp→Prop) (wb fb:Nat) (g:BitVec 32) (z:Nat):Prop where
 f:Cl A ⟨wb,0,none⟩ (.pointer (some ⟨fb,0,none⟩))
 gc:Cl A ⟨wb,1,none⟩ (W4 g)
 zc:Cl A ⟨wb,2,none⟩ (I z)
 z1:1≤z
 z2:z≤16
abbrev whB (wb fb:Nat) (g:BitVec 32) (z:Nat) (la:Option Addr) (ln lc:Nat) (rdy:Int) (nxt:Nat):Hl := .box wb 246 [.pointer (some ⟨fb,0,none⟩),W4 g,I z,.slice la ln lc,I rdy,I nxt]
theorem RdWh.up {A:Hp→Prop} {wb fb:Nat} {g:BitVec 32} {z:Nat} {H H':List Hl} (h:RdWh A wb fb g z) [s:SAny H A H']:RdWh (stars H) wb fb g z:=⟨cl_up h.f,cl_up h.gc,cl_up h.zc,h.z1,h.z2⟩
theorem RdWh.own {wb fb:Nat} {g:BitVec 32} {z:Nat} {la:Option Addr} {ln lc:Nat} {rdy:Int} {nxt:Nat} {H H1:List Hl} [s:SBox H wb 246 [.pointer (some ⟨fb,0,none⟩),W4 g,I z,.slice la ln lc,I rdy,I nxt] H1] (h1:1≤z) (h2:z≤16):RdWh (stars H) wb fb g z :=
 ⟨cl_box rfl,cl_box rfl,cl_box rfl,h1,h2⟩
theorem wh_wide (H:List Hl) (wb z:Nat) (h:Cl (stars H) ⟨wb,2,none⟩ (I z)) (hz:z≤16) :
  Spec Tryz.prog 195 [.pointer (some ⟨wb,0,none⟩)] H (fun _:Unit=>True) (fun _=>I (z+13:Nat)) (fun _=>H):=by
 refine spec_pure (res:=fun _=>[]) H Tryz.func195 rfl Tryz.ntmps195 (by kernel_rfl) rfl (fun W=>?_)
 repeat' (first|intro _|refine cw ?_|refine cw2 ?_ ?_|(refine k_load ?_;refine ox_load_any rfl h ?_)|refine ow ?_|refine ow2 ?_ ?_|fail)
 refine rt_tmp () rfl rfl rfl trivial ?_
 exact ent
theorem wh_places (H:List Hl) (wb z:Nat) (h:Cl (stars H) ⟨wb,2,none⟩ (I z)) (hz:z≤16) :
  Spec Tryz.prog 164 [.pointer (some ⟨wb,0,none⟩)] H (fun _:Unit=>True) (fun _=>I (plW z)) (fun _=>H):=by
 refine spec_pure (res:=fun _=>[]) H Tryz.func164 rfl Tryz.ntmps164 (by kernel_rfl) rfl (fun W=>?_)
 have e:(256:Int) / ((z+13:Nat):Int)=((plW z:Nat):Int):=by unfold plW;rfl
 repeat' (first|intro _|refine cw ?_|refine cw2 ?_ ?_|(refine k_fn 195 ?_;refine o1_call (fun _=>wh_wide _ wb z (cl_up h) hz) rfl (fun _ _=>?_))|(refine k_binOp .quo ?_;(refine o1_quo rfl rfl (by omega) ?_;rw [e]))|refine ow ?_|refine ow2 ?_ ?_|fail)
 refine rt_tmp () rfl rfl rfl trivial ?_
 exact ent
theorem wh_at (H:List Hl) (wb z p:Nat) (h:Cl (stars H) ⟨wb,2,none⟩ (I z)) (h1:1≤z) (h2:z≤16) (hp:p<8*plW z) :
  Spec Tryz.prog 167 [.pointer (some ⟨wb,0,none⟩),I p] H (fun _:Unit=>True) (fun _=>I (atW z p)) (fun _=>H):=by
 refine spec_pure (res:=fun _=>[]) H Tryz.func167 rfl Tryz.ntmps167 (by kernel_rfl) rfl (fun W=>?_)
 obtain ⟨b1,b2,b3⟩:=pl_bounds h1 h2
 obtain ⟨L,hL⟩:∃ L,plW z=L:=⟨_,rfl⟩
 have ha:atW z p=(6+p / L)*256+p % L*(z+13):=by rw [atW,hL]
 rw [hL] at b1 b2 b3 hp
 rw [ha]
 have e1:p / L<8:=Nat.div_lt_of_lt_mul (by rw [Nat.mul_comm];exact hp)
 have e2:p % L<L:=Nat.mod_lt _ (by omega)
 have e3:(p % L)*(z+13)≤18*29:=Nat.mul_le_mul (by omega) (by omega)
 have d1:(p:Int) / (L:Int)=((p / L:Nat):Int):=rfl
 have d2:(p:Int) % (L:Int)=((p % L:Nat):Int):=rfl
 obtain ⟨q,hq⟩:∃ q,p / L=q:=⟨_,rfl⟩
 obtain ⟨r,hr⟩:∃ r,p % L=r:=⟨_,rfl⟩
 rw [hq] at e1 d1
 rw [hr] at e2 e3 d2
 rw [hq,hr]
 obtain ⟨s,hs⟩:∃ s,r*(z+13)=s:=⟨_,rfl⟩
 have d3:(r:Int)*((z+13:Nat):Int)=(s:Int):=by rw [←hs];push_cast;rfl
 rw [hs] at e3 ⊢
 have d4:((6:Int)+(q:Int))*256+(s:Int)=(((6+q)*256+s:Nat):Int):=by omega
 repeat' (first|intro _|refine cw ?_|refine cw2 ?_ ?_|refine ow ?_|refine ow2 ?_ ?_|fail)
 refine st_stages' [(1,_),(0,_)] rtD13_0 [2,8,11] [⟨[0,1,6,7,10],[],some 2⟩,⟨[3,4,5],[0,6,7,10],some 8⟩,⟨[9],[0,3,4,5,6,10],some 11⟩,⟨[12,13,14],[0,3,4,5,6,9],none⟩] mixed cv (by kernel_rfl) (by kernel_rfl) ?_
 repeat' (first|intro _|refine sg ?_|(refine p_binOp .quo ?_;refine po (by first|((refine o1_quo rfl rfl (by omega) ?_;rw [d1]);all_goals exact fz)|fail) ?_)|(refine p_binOp .rem ?_;refine po (by first|((refine o1_rem rfl rfl (by omega) ?_;rw [d2]);all_goals exact fz)|fail) ?_)|(refine p_binOp .mul ?_;refine po (by first|((refine o1_mul rfl rfl (by rw [d3];omega) ?_;rw [d3]);all_goals exact fz)|refine o1_mul rfl rfl (by omega) fz|fail) ?_)|(refine p_binOp .add ?_;refine po (by first|((refine o1_add rfl rfl (by omega) ?_;(try rw [d4]));all_goals exact fz)|fail) ?_)|refine pw ?_|refine pdd ?_|(refine k_fn 164 ?_;(refine o1_call (fun _=>wh_places _ wb z (cl_up h) h2) rfl (fun _ _=>?_);rw [hL]))|(refine k_fn 195 ?_;refine o1_call (fun _=>wh_wide _ wb z (cl_up h) h2) rfl (fun _ _=>?_))|refine ow ?_|fail)
 all_goals dsimp only [List.cons_append,List.nil_append]
 repeat' (first|intro _|refine cw ?_|refine cw2 ?_ ?_|refine ow ?_|refine ow2 ?_ ?_|fail)
 refine rt_tmp () rfl rfl rfl trivial ?_
 exact ent
theorem wh_word (H:List Hl) (x:BitVec 32) :
  Spec Tryz.prog 166 [W4 x] H (fun _:Nat=>True) (fun b => .slice (some ⟨b,0,none⟩) 4 4) (fun b => .box b 5 ((be4 x).map B)::H):=by
 refine spec_pure (res:=fun b:Nat=>[.box b 5 ((be4 x).map B)]) H Tryz.func166 rfl Tryz.ntmps166 (by kernel_rfl) rfl (fun W=>?_)
 repeat' (first|intro _|refine cw ?_|refine cw2 ?_ ?_|(refine k_buildSlice ?_;refine o1_lit_enc (T:=22) B (be4 x) rfl rfl rfl (fun _=>rfl) rfl rfl rfl (fun b=>?_))|refine ow ?_|refine ow2 ?_ ?_|fail)
 refine rt_tmp b rfl rfl rfl trivial ?_
 exact ent
theorem wh_number (H:List Hl) (ad:Option Addr) (m c:Nat) (l:List (BitVec 8)) (k:BitVec 32) (h:Rs (stars H) B ad c l) (hm:m=l.length) (h4:4≤m) (hk:num32 (l.take 4)=k) :
  Spec Tryz.prog 233 [.slice ad m c] H (fun _:Unit=>True) (fun _=>W4 k) (fun _=>H):=by
 refine spec_pure (res:=fun _=>[]) H Tryz.func233 rfl Tryz.ntmps233 (by kernel_rfl) rfl (fun W=>?_)
 obtain ⟨x0,x1,x2,x3,hx⟩:∃ x0 x1 x2 x3,l.take 4=[x0,x1,x2,x3]:=list4 (by rw [List.length_take];omega)
 have g:∀ i,i<4→l[i]?=[x0,x1,x2,x3][i]?:=fun i hi=>by rw [←hx,List.getElem?_take,if_pos hi]
 have g0:l[0]?=some x0:=g 0 (by decide)
 have g1:l[1]?=some x1:=g 1 (by decide)
 have g2:l[2]?=some x2:=g 2 (by decide)
 have g3:l[3]?=some x3:=g 3 (by decide)
 have hk:num4 x0 x1 x2 x3=k:=by rw [num4_32,←hx,hk]
 subst hm
 repeat' (first|intro _|refine cw ?_|refine cw2 ?_ ?_|refine ow ?_|refine ow2 ?_ ?_|fail)
 refine st_stages' [(0,_)] rtD13_1 [] [⟨[0,1,2,3,4,5,6,7,8,9,10,11,12,13,14,15,16,17,18,19,20,21,22],[],none⟩] mixed cv (by kernel_rfl) (by kernel_rfl) ?_
 repeat' (first|intro _|refine sg ?_|(refine p_indexAddr ?_;refine po (by first|refine o1_ia (ad:=ad) (c:=c) 0 rfl rfl h rfl rfl (by omega) fz|refine o1_ia (ad:=ad) (c:=c) 1 rfl rfl h rfl rfl (by omega) fz|refine o1_ia (ad:=ad) (c:=c) 2 rfl rfl h rfl rfl (by omega) fz|refine o1_ia (ad:=ad) (c:=c) 3 rfl rfl h rfl rfl (by omega) fz|fail) ?_)|(refine p_load ?_;refine po (by first|refine o1_load_av (ad:=ad) (c:=c) 0 x0 rfl h g0 fz|refine o1_load_av (ad:=ad) (c:=c) 1 x1 rfl h g1 fz|refine o1_load_av (ad:=ad) (c:=c) 2 x2 rfl h g2 fz|refine o1_load_av (ad:=ad) (c:=c) 3 x3 rfl h g3 fz|fail) ?_)|refine pw ?_|refine pdd ?_|refine ow ?_|fail)
 all_goals dsimp only [List.cons_append,List.nil_append]
 repeat' (first|intro _|refine cw ?_|refine cw2 ?_ ?_|refine ow ?_|refine ow2 ?_ ?_|fail)
 refine rt_tmp () rfl rfl (by rw [←hk];rfl) trivial ?_
 exact ent
theorem cl_ready (H:List Hl) (b:Nat) (ad:Option Addr) (c:Nat) (f:Fl) (h:RdFl (stars H) b ad c f) :
  Spec Tryz.prog 91 [.pointer (some ⟨b,0,none⟩)] H (fun _:Unit=>True) (fun _=>I (if f.pw.isDown=true then 11 else 0)) (fun _=>H):=by
 refine spec_pure (res:=fun _=>[]) H Tryz.func91 rfl Tryz.ntmps91 (by kernel_rfl) rfl (fun W=>?_)
 cases hd:f.pw.isDown
 ·repeat' (first|intro _|refine cw ?_|refine cw2 ?_ ?_|(refine k_fn 98 ?_;(refine o1_call (fun _=>fl_Read _ b ad c f 0 0 h.up (by omega) hd) rfl (fun ⟨a6,c6⟩ _=>?_);(try dsimp only)))|refine ow ?_|refine ow2 ?_ ?_|fail)
  refine rt_tmp () rfl rfl rfl trivial ?_
  exact ent
 ·repeat' (first|intro _|refine cw ?_|refine cw2 ?_ ?_|(refine k_fn 98 ?_;refine o1_call (fun _=>fl_Read_down _ b f 0 0 (cl_up h.d) (by omega) hd) rfl (fun _ _=>?_))|refine ow ?_|refine ow2 ?_ ?_|fail)
  refine rt_tmp () rfl rfl rfl trivial ?_
  exact ent
set_option maxHeartbeats 4000000 in
theorem cl_found_none (H:List Hl) (b:Nat) (ad:Option Addr) (c:Nat) (f:Fl) (h:RdFl (stars H) b ad c f) (hd:f.pw.isDown=false) (h0:copyAt f.bs 0=none) (h1:copyAt f.bs 1=none) :
  Spec Tryz.prog 92 [.pointer (some ⟨b,0,none⟩)] H (fun _:Unit=>True) (fun _ => .tuple #[cpZ,I (-1)]) (fun _=>H):=by
 refine spec_pure (res:=fun _=>[]) H Tryz.func92 rfl Tryz.ntmps92 (by kernel_rfl) rfl (fun W=>?_)
 repeat' (first|intro _|refine cw ?_|refine cw2 ?_ ?_|refine ow ?_|refine ow2 ?_ ?_|fail)
 refine st_rounds 3 ?_
 repeat' (first|intro _|refine cw ?_|refine cw2 ?_ ?_|(refine k_fn 146 ?_;first|refine o1_call (fun _=>cl_whole_no _ b ad c f 0 h.up (by decide) hd h0) rfl (fun _ _=>?_)|refine o1_call (fun _=>cl_whole_no _ b ad c f 1 h.up (by decide) hd h1) rfl (fun _ _=>?_))|refine ow ?_|refine ow2 ?_ ?_|fail)
 refine rt_cell_tmp () rfl rfl rfl rfl rfl trivial ?_
 exact ent
set_option maxHeartbeats 4000000 in
theorem cl_found_0 (H:List Hl) (b:Nat) (ad:Option Addr) (c:Nat) (f:Fl) (k0:BitVec 32) (q0 Z0:List (BitVec 8)) (h:RdFl (stars H) b ad c f) (hd:f.pw.isDown=false) (h0:copyAt f.bs 0=some (k0,q0)) (hZ0:(seg f.bs (0*256) 256).take (q0.length+6)=Z0) (h1:copyAt f.bs 1=none) :
  Spec Tryz.prog 92 [.pointer (some ⟨b,0,none⟩)] H (fun _:Option Addr × Nat=>True) (fun r => .tuple #[.agg #[W4 k0,.slice (cutA r.1 r.2 6) q0.length (r.2 - 6)],I 0]) (fun r => .row 5 1 (.slice r.1 (q0.length+6) r.2) (q0.length+6) (Z0.map B)::H):=by
 refine spec_pure (res:=fun r:Option Addr × Nat=>[.row 5 1 (.slice r.1 (q0.length+6) r.2) (q0.length+6) (Z0.map B)]) H Tryz.func92 rfl Tryz.ntmps92 (by kernel_rfl) rfl (fun W=>?_)
 repeat' (first|intro _|refine cw ?_|refine cw2 ?_ ?_|refine ow ?_|refine ow2 ?_ ?_|fail)
 refine st_rounds 3 ?_
 repeat' (first|intro _|refine cw ?_|refine cw2 ?_ ?_|(refine k_fn 146 ?_;first|(refine o1_call (fun _=>cl_whole _ b ad c f 0 k0 q0 Z0 h.up (by decide) hd h0 hZ0) rfl (fun ⟨a0,c0⟩ _=>?_);(try dsimp only))|refine o1_call (fun _=>cl_whole_no _ b ad c f 1 h.up (by decide) hd h1) rfl (fun _ _=>?_))|refine ow ?_|refine ow2 ?_ ?_|fail)
 refine rt_cell_tmp (a0,c0) rfl rfl rfl rfl rfl trivial ?_
 exact ent
set_option maxHeartbeats 4000000 in
theorem cl_found_1 (H:List Hl) (b:Nat) (ad:Option Addr) (c:Nat) (f:Fl) (k1:BitVec 32) (q1 Z1:List (BitVec 8)) (h:RdFl (stars H) b ad c f) (hd:f.pw.isDown=false) (h0:copyAt f.bs 0=none) (h1:copyAt f.bs 1=some (k1,q1)) (hZ1:(seg f.bs (1*256) 256).take (q1.length+6)=Z1) :
  Spec Tryz.prog 92 [.pointer (some ⟨b,0,none⟩)] H (fun _:Option Addr × Nat=>True) (fun r => .tuple #[.agg #[W4 k1,.slice (cutA r.1 r.2 6) q1.length (r.2 - 6)],I 1]) (fun r => .row 5 1 (.slice r.1 (q1.length+6) r.2) (q1.length+6) (Z1.map B)::H):=by
 refine spec_pure (res:=fun r:Option Addr × Nat=>[.row 5 1 (.slice r.1 (q1.length+6) r.2) (q1.length+6) (Z1.map B)]) H Tryz.func92 rfl Tryz.ntmps92 (by kernel_rfl) rfl (fun W=>?_)
 repeat' (first|intro _|refine cw ?_|refine cw2 ?_ ?_|refine ow ?_|refine ow2 ?_ ?_|fail)
 refine st_rounds 3 ?_
 repeat' (first|intro _|refine cw ?_|refine cw2 ?_ ?_|(refine k_fn 146 ?_;first|refine o1_call (fun _=>cl_whole_no _ b ad c f 0 h.up (by decide) hd h0) rfl (fun _ _=>?_)|(refine o1_call (fun _=>cl_whole _ b ad c f 1 k1 q1 Z1 h.up (by decide) hd h1 hZ1) rfl (fun ⟨a1,c1⟩ _=>?_);(try dsimp only)))|refine ow ?_|refine ow2 ?_ ?_|fail)
 refine rt_cell_tmp (a1,c1) rfl rfl rfl rfl rfl trivial ?_
 exact ent
set_option maxHeartbeats 4000000 in
theorem cl_found_01 (H:List Hl) (b:Nat) (ad:Option Addr) (c:Nat) (f:Fl) (k0:BitVec 32) (q0 Z0:List (BitVec 8)) (k1:BitVec 32) (q1 Z1:List (BitVec 8)) (h:RdFl (stars H) b ad c f) (hd:f.pw.isDown=false) (h0:copyAt f.bs 0=some (k0,q0)) (hZ0:(seg f.bs (0*256) 256).take (q0.length+6)=Z0) (h1:copyAt f.bs 1=some (k1,q1)) (hZ1:(seg f.bs (1*256) 256).take (q1.length+6)=Z1) (hlt : ¬ k0.toNat<k1.toNat) :
  Spec Tryz.prog 92 [.pointer (some ⟨b,0,none⟩)] H (fun _:Option Addr × Nat=>True) (fun r => .tuple #[.agg #[W4 k0,.slice (cutA r.1 r.2 6) q0.length (r.2 - 6)],I 0]) (fun r => .row 5 1 (.slice r.1 (q0.length+6) r.2) (q0.length+6) (Z0.map B)::H):=by
 refine spec_pure (res:=fun r:Option Addr × Nat=>[.row 5 1 (.slice r.1 (q0.length+6) r.2) (q0.length+6) (Z0.map B)]) H Tryz.func92 rfl Tryz.ntmps92 (by kernel_rfl) rfl (fun W=>?_)
 repeat' (first|intro _|refine cw ?_|refine cw2 ?_ ?_|refine ow ?_|refine ow2 ?_ ?_|fail)
 refine st_rounds 3 ?_
 repeat' (first|intro _|refine cw ?_|refine cw2 ?_ ?_|(refine k_fn 146 ?_;first|(refine o1_call (fun _=>cl_whole _ b ad c f 0 k0 q0 Z0 h.up (by decide) hd h0 hZ0) rfl (fun ⟨a0,c0⟩ _=>?_);(try dsimp only))|(refine o1_call (fun _=>cl_whole _ b ad c f 1 k1 q1 Z1 h.up (by decide) hd h1 hZ1) rfl (fun ⟨a1,c1⟩ _=>?_);(try dsimp only)))|(refine k_binOp .gtr ?_;refine o1_gtr_f rfl rfl (by omega) ?_)|refine ow ?_|refine ow2 ?_ ?_|fail)
 refine rt_cell_tmp (a0,c0) rfl rfl rfl rfl rfl trivial ?_
 exact ent
set_option maxHeartbeats 4000000 in
theorem cl_found_10 (H:List Hl) (b:Nat) (ad:Option Addr) (c:Nat) (f:Fl) (k0:BitVec 32) (q0 Z0:List (BitVec 8)) (k1:BitVec 32) (q1 Z1:List (BitVec 8)) (h:RdFl (stars H) b ad c f) (hd:f.pw.isDown=false) (h0:copyAt f.bs 0=some (k0,q0)) (hZ0:(seg f.bs (0*256) 256).take (q0.length+6)=Z0) (h1:copyAt f.bs 1=some (k1,q1)) (hZ1:(seg f.bs (1*256) 256).take (q1.length+6)=Z1) (hlt:k0.toNat<k1.toNat) :
  Spec Tryz.prog 92 [.pointer (some ⟨b,0,none⟩)] H (fun _:Option Addr × Nat=>True) (fun r => .tuple #[.agg #[W4 k1,.slice (cutA r.1 r.2 6) q1.length (r.2 - 6)],I 1]) (fun r => .row 5 1 (.slice r.1 (q1.length+6) r.2) (q1.length+6) (Z1.map B)::H):=by
 refine spec_pure (res:=fun r:Option Addr × Nat=>[.row 5 1 (.slice r.1 (q1.length+6) r.2) (q1.length+6) (Z1.map B)]) H Tryz.func92 rfl Tryz.ntmps92 (by kernel_rfl) rfl (fun W=>?_)
 repeat' (first|intro _|refine cw ?_|refine cw2 ?_ ?_|refine ow ?_|refine ow2 ?_ ?_|fail)
 refine st_rounds 3 ?_
 repeat' (first|intro _|refine cw ?_|refine cw2 ?_ ?_|(refine k_fn 146 ?_;first|(refine o1_call (fun _=>cl_whole _ b ad c f 0 k0 q0 Z0 h.up (by decide) hd h0 hZ0) rfl (fun ⟨a0,c0⟩ _=>?_);(try dsimp only))|(refine o1_call (fun _=>cl_whole _ b ad c f 1 k1 q1 Z1 h.up (by decide) hd h1 hZ1) rfl (fun ⟨a1,c1⟩ _=>?_);(try dsimp only)))|(refine k_binOp .gtr ?_;refine o1_gtr_t rfl rfl (by omega) ?_)|refine ow ?_|refine ow2 ?_ ?_|fail)
 refine rt_cell_tmp (a1,c1) rfl rfl rfl rfl rfl trivial ?_
 exact ent
theorem foundC_copy {l:List (BitVec 8)} {k:BitVec 32} {q:List (BitVec 8)} {w:Nat} (h:foundC l=some ((k,q),w)):copyAt l w=some (k,q)∧w<2:=by
 unfold foundC at h
 cases h0:copyAt l 0 with
 | none =>
  cases h1:copyAt l 1 with
  | none=>rw [h0,h1] at h;cases h
  | some b =>
   rw [h0,h1] at h
   obtain ⟨e1,e2⟩:=Prod.mk.inj (Option.some.inj h)
   subst e1 e2
   exact ⟨h1,by decide⟩
 | some a =>
  cases h1:copyAt l 1 with
  | none =>
   rw [h0,h1] at h
   obtain ⟨e1,e2⟩:=Prod.mk.inj (Option.some.inj h)
   subst e1 e2
   exact ⟨h0,by decide⟩
  | some b =>
   rw [h0,h1] at h
   dsimp only at h
   split at h
   ·obtain ⟨e1,e2⟩:=Prod.mk.inj (Option.some.inj h)
    subst e1 e2
    exact ⟨h1,by decide⟩
   ·obtain ⟨e1,e2⟩:=Prod.mk.inj (Option.some.inj h)
    subst e1 e2
    exact ⟨h0,by decide⟩
theorem cl_found (H:List Hl) (b:Nat) (ad:Option Addr) (c:Nat) (f:Fl) (k:BitVec 32) (q Z:List (BitVec 8)) (w:Nat) (h:RdFl (stars H) b ad c f) (hd:f.pw.isDown=false) (hf:foundC f.bs=some ((k,q),w)) (hZ:(seg f.bs (w*256) 256).take (q.length+6)=Z) :
  Spec Tryz.prog 92 [.pointer (some ⟨b,0,none⟩)] H (fun _:Option Addr × Nat=>True) (fun r => .tuple #[.agg #[W4 k,.slice (cutA r.1 r.2 6) q.length (r.2 - 6)],I w]) (fun r => .row 5 1 (.slice r.1 (q.length+6) r.2) (q.length+6) (Z.map B)::H):=by
 have hf0:=hf
 unfold foundC at hf
 cases h0:copyAt f.bs 0 with
 | none =>
  cases h1:copyAt f.bs 1 with
  | none=>rw [h0,h1] at hf;cases hf
  | some x =>
   rw [h0,h1] at hf
   obtain ⟨e1,e2⟩:=Prod.mk.inj (Option.some.inj hf)
   subst e1 e2
   exact cl_found_1 H b ad c f k q Z h hd h0 h1 hZ
 | some x =>
  cases h1:copyAt f.bs 1 with
  | none =>
   rw [h0,h1] at hf
   obtain ⟨e1,e2⟩:=Prod.mk.inj (Option.some.inj hf)
   subst e1 e2
   exact cl_found_0 H b ad c f k q Z h hd h0 hZ h1
  | some y =>
   rw [h0,h1] at hf
   dsimp only at hf
   obtain ⟨x1,x2⟩:=x
   obtain ⟨y1,y2⟩:=y
   split at hf
   ·rename_i hlt
    obtain ⟨e1,e2⟩:=Prod.mk.inj (Option.some.inj hf)
    obtain ⟨e3,e4⟩:=Prod.mk.inj e1
    subst e2 e3 e4
    exact cl_found_10 H b ad c f x1 x2 _ y1 y2 Z h hd h0 rfl h1 hZ hlt
   ·rename_i hlt
    obtain ⟨e1,e2⟩:=Prod.mk.inj (Option.some.inj hf)
    obtain ⟨e3,e4⟩:=Prod.mk.inj e1
    subst e2 e3 e4
    exact cl_found_01 H b ad c f x1 x2 Z y1 y2 _ h hd h0 hZ h1 rfl hlt
set_option maxHeartbeats 1000000 in
theorem cl_Read (H:List Hl) (b:Nat) (ad:Option Addr) (c:Nat) (f:Fl) (k:BitVec 32) (q Z:List (BitVec 8)) (w:Nat) (h:RdFl (stars H) b ad c f) (hd:f.pw.isDown=false) (hf:foundC f.bs=some ((k,q),w)) (hZ:(seg f.bs (w*256) 256).take (q.length+6)=Z) :
  Spec Tryz.prog 46 [.pointer (some ⟨b,0,none⟩)] H (fun _:Option Addr × Nat=>True) (fun r => .tuple #[.slice (cutA r.1 r.2 6) q.length (r.2 - 6),I 0]) (fun r => .row 5 1 (.slice r.1 (q.length+6) r.2) (q.length+6) (Z.map B)::H):=by
 refine spec_pure (res:=fun r:Option Addr × Nat=>[.row 5 1 (.slice r.1 (q.length+6) r.2) (q.length+6) (Z.map B)]) H Tryz.func46 rfl Tryz.ntmps46 (by kernel_rfl) rfl (fun W=>?_)
 obtain ⟨_,hw2⟩:=foundC_copy hf
 repeat' (first|intro _|refine cw ?_|refine cw2 ?_ ?_|(refine k_fn 91 ?_;(refine o1_call (fun _=>cl_ready _ b ad c f h.up) rfl (fun _ _=>?_);rw [hd,if_neg (by decide)]))|(refine k_fn 92 ?_;(refine o1_call (fun _=>cl_found _ b ad c f k q Z w h.up hd hf hZ) rfl (fun ⟨a5,c5⟩ _=>?_);(try dsimp only)))|refine ow ?_|refine ow2 ?_ ?_|fail)
 refine rt_tmp2 (a5,c5) rfl rfl rfl rfl trivial ?_
 exact ent
def rtD14_0:List Row:=[⟨some 11,[],[],none⟩,⟨some 12,[0],[0],none⟩,⟨some 13,[1],[0,1],none⟩,⟨some 14,[2],[0,1,2],none⟩,⟨some 15,[],[],none⟩,⟨some 16,[],[],none⟩,⟨some 17,[4,5],[4,5],none⟩,⟨some 18,[],[],none⟩,⟨some 19,[7,6],[4,5,6,7],none⟩,⟨some 20,[3,6,8,8],[0,1,2,3,4,5,6,7,8],none⟩,⟨some 10,[9],[0,1,2,3,4,5,6,7,8,9],none⟩,⟨some 21,[10],[0,1,2,3,4,5,6,7,8,9,10],none⟩,⟨some 22,[10],[0,1,2,3,4,5,6,7,8,9,10],none⟩,⟨some 6,[11,9,0,1,2,3,4,5,6,7,8,9,10,11],[0,1,2,3,4,5,6,7,8,9,10,11],none⟩,⟨some 7,[12,13,0,1,2,3,4,5,6,7,8,9,10,11,12,13],[0,1,2,3,4,5,6,7,8,9,10,11,12,13],none⟩]
def rtD14_1:List Row:=[⟨some 44,[],[],none⟩,⟨some 45,[0],[0],none⟩,⟨some 46,[1],[0,1],none⟩,⟨some 47,[2],[0,1,2],some (2,false)⟩,⟨some 48,[3,2,2],[0,1,2,3],some (2,false)⟩,⟨some 49,[2],[0,1,2],some (2,false)⟩,⟨some 50,[5,2],[0,1,2,5],some (2,false)⟩,⟨some 51,[6,2],[0,1,2,5,6],some (2,false)⟩,⟨some 52,[7,2],[0,1,2,5,6,7],some (2,false)⟩,⟨some 53,[4,8,2],[0,1,2,3,4,5,6,7,8],some (2,false)⟩,⟨some 54,[2,9],[0,1,2,3,4,5,6,7,8,9],none⟩]
def rtD14_2:List Row:=[⟨some 44,[],[],none⟩,⟨some 45,[0],[0],none⟩,⟨some 46,[1],[0,1],none⟩,⟨some 47,[2],[0,1,2],some (2,false)⟩,⟨some 48,[3,2,2],[0,1,2,3],some (2,false)⟩,⟨some 49,[2],[0,1,2],some (2,false)⟩,⟨some 50,[5,2],[0,1,2,5],some (2,false)⟩,⟨some 51,[6,2],[0,1,2,5,6],some (2,false)⟩,⟨some 52,[7,2],[0,1,2,5,6,7],some (2,false)⟩,⟨some 53,[4,8,2],[0,1,2,3,4,5,6,7,8],some (2,false)⟩,⟨some 54,[2,9],[0,1,2,3,4,5,6,7,8,9],none⟩]
def rtD14_3:List Row:=[⟨some 11,[],[],none⟩,⟨some 12,[0],[0],none⟩,⟨some 13,[1],[0,1],none⟩,⟨some 14,[2],[0,1,2],none⟩,⟨some 15,[],[],none⟩,⟨some 16,[],[],none⟩,⟨some 17,[4,5],[4,5],none⟩,⟨some 18,[],[],none⟩,⟨some 19,[7,6],[4,5,6,7],none⟩,⟨some 20,[3,6,8,8],[0,1,2,3,4,5,6,7,8],none⟩,⟨some 10,[9],[0,1,2,3,4,5,6,7,8,9],none⟩,⟨some 21,[10],[0,1,2,3,4,5,6,7,8,9,10],none⟩,⟨some 22,[10],[0,1,2,3,4,5,6,7,8,9,10],none⟩,⟨some 6,[11,9,0,1,2,3,4,5,6,7,8,9,10,11],[0,1,2,3,4,5,6,7,8,9,10,11],none⟩,⟨some 7,[12,13,0,1,2,3,4,5,6,7,8,9,10,11,12,13],[0,1,2,3,4,5,6,7,8,9,10,11,12,13],none⟩]
def rtD14_4:List Row:=[⟨some 44,[],[],none⟩,⟨some 45,[0],[0],none⟩,⟨some 46,[1],[0,1],none⟩,⟨some 47,[2],[0,1,2],some (2,false)⟩,⟨some 48,[3,2,2],[0,1,2,3],some (2,false)⟩,⟨some 49,[2],[0,1,2],some (2,false)⟩,⟨some 50,[5,2],[0,1,2,5],some (2,false)⟩,⟨some 51,[6,2],[0,1,2,5,6],some (2,false)⟩,⟨some 52,[7,2],[0,1,2,5,6,7],some (2,false)⟩,⟨some 53,[4,8,2],[0,1,2,3,4,5,6,7,8],some (2,false)⟩,⟨some 54,[2,9],[0,1,2,3,4,5,6,7,8,9],none⟩]
def rtD14_5:List Row:=[⟨some 56,[],[],none⟩,⟨some 57,[0],[0],none⟩,⟨some 58,[1],[0,1],none⟩,⟨some 59,[],[],none⟩,⟨some 60,[3],[3],none⟩,⟨some 61,[2,4],[0,1,2,3,4],none⟩,⟨none,[5,2,0,1,2,3,4,5],[0,1,2,3,4,5],none⟩,⟨some 5,[6,0,1,2,3,4,5,6],[0,1,2,3,4,5,6],none⟩]
set_option maxHeartbeats 4000000 in
theorem wh_whole_no (H:List Hl) (wb fb:Nat) (g:BitVec 32) (z:Nat) (ad:Option Addr) (c:Nat) (f:Fl) (p:Nat) (h:RdWh (stars H) wb fb g z) (hf:RdFl (stars H) fb ad c f) (hp:p<8*plW z) (hd:f.pw.isDown=false) (hw:recAt f.bs g z p=none) :
  Spec Tryz.prog 213 [.pointer (some ⟨wb,0,none⟩),I p] H (fun _:Unit=>True) (fun _ => .tuple #[cpZ,.bool false]) (fun _=>H):=by
 refine spec_pure (res:=fun _=>[]) H Tryz.func213 rfl Tryz.ntmps213 (by kernel_rfl) rfl (fun W=>?_)
 have hl:=hf.l
 have z1:=h.z1
 have z2:=h.z2
 have hwf:=h.f
 have hwg:=h.gc
 obtain ⟨ab1,ab2⟩:=at_bounds z1 z2 hp
 unfold recAt at hw
 obtain ⟨a,ha⟩:∃ a,atW z p=a:=⟨_,rfl⟩
 rw [ha] at hw ab1 ab2
 obtain ⟨S,hS⟩:∃ S,seg f.bs a (z+13)=S:=⟨_,rfl⟩
 have hSl:S.length=z+13:=by rw [←hS];exact seg_len (by omega)
 rw [hS] at hw
 obtain ⟨y,hy⟩:∃ y,S[z+12]?=some y:=⟨_,List.getElem?_eq_getElem (by omega)⟩
 have hyd:S.getD (z+12) 0#8=y:=by rw [List.getD_eq_getElem?_getD,hy];rfl
 unfold recC at hw
 rw [hyd] at hw
 have hidx:((z+13:Nat):Int) - 1=((z+12:Nat):Int):=by omega
 repeat' (first|intro _|refine cw ?_|refine cw2 ?_ ?_|refine ow ?_|refine ow2 ?_ ?_|fail)
 refine st_stages' [(0,_),(1,_)] rtD14_0 [6,8,9] [⟨[0,1,2,3,4,5,7],[],some 6⟩,⟨[],[0,1,2,3,7],some 8⟩,⟨[],[0,1,2,3],some 9⟩,⟨[10,11,12,13,14],[],none⟩] mixed cv (by kernel_rfl) (by kernel_rfl) ?_
 repeat' (first|intro _|refine sg ?_|(refine p_load ?_;refine po (by first|refine ox_load_any rfl hwf fz|fail) ?_)|refine pw ?_|refine pdd ?_|(refine k_fn 167 ?_;(refine o1_call (fun _=>wh_at _ wb z p (cl_up h.zc) z1 z2 hp) rfl (fun _ _=>?_);rw [ha]))|(refine k_fn 195 ?_;refine o1_call (fun _=>wh_wide _ wb z (cl_up h.zc) z2) rfl (fun _ _=>?_))|(refine k_fn 98 ?_;(refine o1_call (fun _=>fl_Read _ fb ad c f a (z+13) hf.up (by omega) hd) rfl (fun ⟨a6,c6⟩ _=>?_);(try dsimp only);rw [hS]))|refine ow ?_|fail)
 all_goals dsimp only [List.cons_append,List.nil_append]
 by_cases h2:y=0#8
 ·subst h2
  rw [if_neg (by simp)] at hw
  obtain ⟨Q,hQ⟩:∃ Q,S.take (z+12)=Q:=⟨_,rfl⟩
  have hQl:Q.length=z+12:=by rw [←hQ,List.length_take];omega
  rw [hQ] at hw
  have hQ4:Q.length - 4=z+8:=by omega
  obtain ⟨Z,hQZ⟩:∃ Z,Q.take (z+8)=Z:=⟨_,rfl⟩
  have hZl:Z.length=z+8:=by rw [←hQZ,List.length_take];omega
  have hZ4:Z.take 4=S.take 4:=by rw [←hQZ,←hQ,List.take_take,List.take_take] <;> (congr 1 <;> omega)
  obtain ⟨k,hk⟩:∃ k,num32 (S.take 4)=k:=⟨_,rfl⟩
  rw [hk] at hw
  cases hc:crcOk Q
  ·repeat' (first|intro _|refine cw ?_|refine cw2 ?_ ?_|(refine k_fn 195 ?_;refine o1_call (fun _=>wh_wide _ wb z (cl_up h.zc) z2) rfl (fun _ _=>?_))|(refine k_binOp .sub ?_;(refine o1_sub rfl rfl (by omega) ?_;rw [hidx]))|(refine k_indexAddr ?_;refine o1_iah (enc:=B) (ad:=a6) (c:=c6) (xs:=S) (z+12) rfl rfl rx_row hSl.symm rfl (by omega) ?_)|(refine k_load ?_;refine o1_load_hv (enc:=B) (ad:=a6) (c:=c6) (xs:=S) (z+12) 0#8 rfl rx_row hy ?_)|(refine k_binOp .neq ?_;refine o1_neq_f rfl rfl rfl ?_)|(refine k_slice ?_;(refine ox_cs_hr (enc:=B) (xs:=S) (z+12) rfl rfl rfl hSl.symm (by omega) ?_;rw [hQ]))|(refine k_fn 72 ?_;refine o1_call (fun hh=>crc_Right_no _ (cutA a6 c6 0) Q.length (c6 - 0) Q (rx_cuth (l:=S) (enc:=B) (z+12) (by omega) hQ hh) rfl (by omega) hc) rfl (fun _ _=>?_))|refine ow ?_|refine ow2 ?_ ?_|fail)
   refine st_stages' [(9,_),(8,_),(0,_)] rtD14_1 [4] [⟨[0,1,2,3,5,6,7,8],[],some 4⟩,⟨[9,10],[5,6,7,8],none⟩] mixed cv (by kernel_rfl) (by kernel_rfl) ?_
   repeat' (first|intro _|refine sg ?_|refine pw ?_|refine pdd ?_|refine ow ?_|fail)
   all_goals dsimp only [List.cons_append,List.nil_append]
   repeat' (first|intro _|refine cw ?_|refine cw2 ?_ ?_|refine ow ?_|refine ow2 ?_ ?_|fail)
   refine rt_cell_tmp () rfl rfl rfl rfl rfl trivial ?_
   exact ent
  ·have hkg:k≠g:=fun e=>by
    rw [hc,if_neg (by simp),if_neg (by simpa using e)] at hw
    cases hw
   have hkg2:(k.toNat:Int)≠g.toNat:=fun e=>hkg (BitVec.eq_of_toNat_eq (by omega))
   repeat' (first|intro _|refine cw ?_|refine cw2 ?_ ?_|(refine k_fn 195 ?_;refine o1_call (fun _=>wh_wide _ wb z (cl_up h.zc) z2) rfl (fun _ _=>?_))|(refine k_binOp .sub ?_;(refine o1_sub rfl rfl (by omega) ?_;rw [hidx]))|(refine k_indexAddr ?_;refine o1_iah (enc:=B) (ad:=a6) (c:=c6) (xs:=S) (z+12) rfl rfl rx_row hSl.symm rfl (by omega) ?_)|(refine k_load ?_;refine o1_load_hv (enc:=B) (ad:=a6) (c:=c6) (xs:=S) (z+12) 0#8 rfl rx_row hy ?_)|(refine k_binOp .neq ?_;refine o1_neq_f rfl rfl rfl ?_)|(refine k_slice ?_;(refine ox_cs_hr (enc:=B) (xs:=S) (z+12) rfl rfl rfl hSl.symm (by omega) ?_;rw [hQ]))|(refine k_fn 72 ?_;(refine o1_call (fun hh=>crc_Right _ (cutA a6 c6 0) Q.length (c6 - 0) Q (rx_cuth (l:=S) (enc:=B) (z+12) (by omega) hQ hh) rfl (by omega) hc) rfl (fun ⟨a41,c41⟩ _=>?_);(try dsimp only);rw [hQ4,hQZ]))|refine ow ?_|refine ow2 ?_ ?_|fail)
   refine st_stages' [(9,_),(8,_),(0,_)] rtD14_2 [4] [⟨[0,1,2,3,5,6,7,8],[],some 4⟩,⟨[9,10],[5,6,7,8],none⟩] mixed cv (by kernel_rfl) (by kernel_rfl) ?_
   repeat' (first|intro _|refine sg ?_|(refine p_load ?_;refine po (by first|refine ox_load_any rfl hwg fz|fail) ?_)|(refine p_binOp .neq ?_;refine po (by first|refine o1_neq_t rfl rfl hkg2 fz|fail) ?_)|refine pw ?_|refine pdd ?_|(refine k_fn 233 ?_;refine o1_call (fun hh=>wh_number _ a41 (z+8) c41 Z k (rx_row hh) hZl.symm (by omega) (by rw [hZ4,hk])) rfl (fun _ _=>?_))|refine ow ?_|fail)
   all_goals dsimp only [List.cons_append,List.nil_append]
   repeat' (first|intro _|refine cw ?_|refine cw2 ?_ ?_|refine ow ?_|refine ow2 ?_ ?_|fail)
   refine rt_cell_tmp () rfl rfl rfl rfl rfl trivial ?_
   exact ent
 ·have hy0:(y.toNat:Int)≠0:=fun e=>h2 (BitVec.eq_of_toNat_eq (by show y.toNat=0;omega))
  repeat' (first|intro _|refine cw ?_|refine cw2 ?_ ?_|(refine k_fn 195 ?_;refine o1_call (fun _=>wh_wide _ wb z (cl_up h.zc) z2) rfl (fun _ _=>?_))|(refine k_binOp .sub ?_;(refine o1_sub rfl rfl (by omega) ?_;rw [hidx]))|(refine k_indexAddr ?_;refine o1_iah (enc:=B) (ad:=a6) (c:=c6) (xs:=S) (z+12) rfl rfl rx_row hSl.symm rfl (by omega) ?_)|(refine k_load ?_;refine o1_load_hv (enc:=B) (ad:=a6) (c:=c6) (xs:=S) (z+12) y rfl rx_row hy ?_)|(refine k_binOp .neq ?_;refine o1_neq_t rfl rfl hy0 ?_)|refine ow ?_|refine ow2 ?_ ?_|fail)
  refine rt_cell_tmp () rfl rfl rfl rfl rfl trivial ?_
  exact ent
set_option maxHeartbeats 4000000 in
theorem wh_whole (H:List Hl) (wb fb:Nat) (g:BitVec 32) (z:Nat) (ad:Option Addr) (c:Nat) (f:Fl) (p:Nat) (id:BitVec 32) (d Z:List (BitVec 8)) (h:RdWh (stars H) wb fb g z) (hf:RdFl (stars H) fb ad c f) (hp:p<8*plW z) (hd:f.pw.isDown=false) (hw:recAt f.bs g z p=some (id,d)) (hZ:seg f.bs (atW z p) (z+8)=Z) :
  Spec Tryz.prog 213 [.pointer (some ⟨wb,0,none⟩),I p] H (fun _:Option Addr × Nat=>True) (fun r => .tuple #[.agg #[W4 id,.slice (cutA r.1 r.2 8) z (r.2 - 8)],.bool true]) (fun r => .row 5 1 (.slice r.1 (z+8) r.2) (z+8) (Z.map B)::H):=by
 refine spec_pure (res:=fun r:Option Addr × Nat=>[.row 5 1 (.slice r.1 (z+8) r.2) (z+8) (Z.map B)]) H Tryz.func213 rfl Tryz.ntmps213 (by kernel_rfl) rfl (fun W=>?_)
 have hl:=hf.l
 have z1:=h.z1
 have z2:=h.z2
 have hwf:=h.f
 have hwg:=h.gc
 obtain ⟨ab1,ab2⟩:=at_bounds z1 z2 hp
 unfold recAt at hw
 obtain ⟨a,ha⟩:∃ a,atW z p=a:=⟨_,rfl⟩
 rw [ha] at hw ab1 ab2 hZ
 obtain ⟨S,hS⟩:∃ S,seg f.bs a (z+13)=S:=⟨_,rfl⟩
 have hSl:S.length=z+13:=by rw [←hS];exact seg_len (by omega)
 rw [hS] at hw
 obtain ⟨y,hy⟩:∃ y,S[z+12]?=some y:=⟨_,List.getElem?_eq_getElem (by omega)⟩
 have hyd:S.getD (z+12) 0#8=y:=by rw [List.getD_eq_getElem?_getD,hy];rfl
 unfold recC at hw
 rw [hyd] at hw
 have hidx:((z+13:Nat):Int) - 1=((z+12:Nat):Int):=by omega
 by_cases h2 : ¬ y=0#8
 ·rw [if_pos (by simpa using h2)] at hw;cases hw
 have h2:y=0#8:=Decidable.not_not.1 h2
 subst h2
 rw [if_neg (by simp)] at hw
 obtain ⟨Q,hQ⟩:∃ Q,S.take (z+12)=Q:=⟨_,rfl⟩
 have hQl:Q.length=z+12:=by rw [←hQ,List.length_take];omega
 rw [hQ] at hw
 have hQ4:Q.length - 4=z+8:=by omega
 have hSZ:S.take (z+8)=Z:=by rw [←hZ,←hS];simp only [seg,List.take_take] <;> (congr 1 <;> omega)
 have hQZ:Q.take (z+8)=Z:=by rw [←hQ,List.take_take,Nat.min_eq_left (by omega),hSZ]
 have hZl:Z.length=z+8:=by rw [←hQZ,List.length_take];omega
 have hZ4:Z.take 4=S.take 4:=by rw [←hSZ,List.take_take] <;> (congr 1 <;> omega)
 obtain ⟨k,hk⟩:∃ k,num32 (S.take 4)=k:=⟨_,rfl⟩
 rw [hk] at hw
 cases hc:crcOk Q
 ·rw [hc] at hw;simp at hw
 rw [hc,if_neg (by simp)] at hw
 by_cases hkg : ¬ k=g
 ·rw [if_pos hkg] at hw;cases hw
 have hkg:k=g:=Decidable.not_not.1 hkg
 subst hkg
 rw [if_neg (by simp)] at hw
 obtain ⟨e1,e2⟩:=Prod.mk.inj (Option.some.inj hw)
 have hZ8:(Z.drop 4).take 4=seg S 4 4:=by rw [←hSZ,List.drop_take,List.take_take];unfold seg;congr 1 <;> omega
 obtain ⟨Z4,hZ4e⟩:∃ Z4,Z.drop 4=Z4:=⟨_,rfl⟩
 have hZ4l:Z4.length=z+4:=by rw [←hZ4e,List.length_drop];omega
 have hZ44:num32 (Z4.take 4)=id:=by rw [←hZ4e,hZ8,e1]
 have hZd:(Z.drop 8).length=z:=by rw [List.length_drop];omega
 repeat' (first|intro _|refine cw ?_|refine cw2 ?_ ?_|refine ow ?_|refine ow2 ?_ ?_|fail)
 refine st_stages' [(0,_),(1,_)] rtD14_3 [6,8,9] [⟨[0,1,2,3,4,5,7],[],some 6⟩,⟨[],[0,1,2,3,7],some 8⟩,⟨[],[0,1,2,3],some 9⟩,⟨[10,11,12,13,14],[],none⟩] mixed cv (by kernel_rfl) (by kernel_rfl) ?_
 repeat' (first|intro _|refine sg ?_|(refine p_load ?_;refine po (by first|refine ox_load_any rfl hwf fz|fail) ?_)|refine pw ?_|refine pdd ?_|(refine k_fn 167 ?_;(refine o1_call (fun _=>wh_at _ wb z p (cl_up h.zc) z1 z2 hp) rfl (fun _ _=>?_);rw [ha]))|(refine k_fn 195 ?_;refine o1_call (fun _=>wh_wide _ wb z (cl_up h.zc) z2) rfl (fun _ _=>?_))|(refine k_fn 98 ?_;(refine o1_call (fun _=>fl_Read _ fb ad c f a (z+13) hf.up (by omega) hd) rfl (fun ⟨a6,c6⟩ _=>?_);(try dsimp only);rw [hS]))|refine ow ?_|fail)
 all_goals dsimp only [List.cons_append,List.nil_append]
 repeat' (first|intro _|refine cw ?_|refine cw2 ?_ ?_|(refine k_fn 195 ?_;refine o1_call (fun _=>wh_wide _ wb z (cl_up h.zc) z2) rfl (fun _ _=>?_))|(refine k_binOp .sub ?_;(refine o1_sub rfl rfl (by omega) ?_;rw [hidx]))|(refine k_indexAddr ?_;refine o1_iah (enc:=B) (ad:=a6) (c:=c6) (xs:=S) (z+12) rfl rfl rx_row hSl.symm rfl (by omega) ?_)|(refine k_load ?_;refine o1_load_hv (enc:=B) (ad:=a6) (c:=c6) (xs:=S) (z+12) 0#8 rfl rx_row hy ?_)|(refine k_binOp .neq ?_;refine o1_neq_f rfl rfl rfl ?_)|(refine k_slice ?_;(refine ox_cs_hr (enc:=B) (xs:=S) (z+12) rfl rfl rfl hSl.symm (by omega) ?_;rw [hQ]))|(refine k_fn 72 ?_;(refine o1_call (fun hh=>crc_Right _ (cutA a6 c6 0) Q.length (c6 - 0) Q (rx_cuth (l:=S) (enc:=B) (z+12) (by omega) hQ hh) rfl (by omega) hc) rfl (fun ⟨a41,c41⟩ _=>?_);(try dsimp only);rw [hQ4,hQZ]))|refine ow ?_|refine ow2 ?_ ?_|fail)
 refine st_stages' [(9,_),(8,_),(0,_)] rtD14_4 [4] [⟨[0,1,2,3,5,6,7,8],[],some 4⟩,⟨[9,10],[5,6,7,8],none⟩] mixed cv (by kernel_rfl) (by kernel_rfl) ?_
 repeat' (first|intro _|refine sg ?_|(refine p_load ?_;refine po (by first|refine ox_load_any rfl hwg fz|fail) ?_)|(refine p_binOp .neq ?_;refine po (by first|refine o1_neq_f rfl rfl rfl fz|fail) ?_)|refine pw ?_|refine pdd ?_|(refine k_fn 233 ?_;refine o1_call (fun hh=>wh_number _ a41 (z+8) c41 Z k (rx_row hh) hZl.symm (by omega) (by rw [hZ4,hk])) rfl (fun _ _=>?_))|refine ow ?_|fail)
 all_goals dsimp only [List.cons_append,List.nil_append]
 repeat' (first|intro _|refine cw ?_|refine cw2 ?_ ?_|refine ow ?_|refine ow2 ?_ ?_|fail)
 refine st_stages' [(8,_),(4,_)] rtD14_5 [2,6] [⟨[0,1,3,4],[],some 2⟩,⟨[5],[3,4],some 6⟩,⟨[7],[],none⟩] mixed cv (by kernel_rfl) (by kernel_rfl) ?_
 repeat' (first|intro _|refine sg ?_|(refine p_slice ?_;refine po (by first|((refine o1_cs_l (xs:=Z) 4 rfl rfl rfl hZl.symm (by omega) ?_;rw [hZ4e]);all_goals exact fz)|((refine o1_cs_l (xs:=Z) 8 rfl rfl rfl hZl.symm (by omega) ?_;rw [hZd]);all_goals exact fz)|fail) ?_)|refine pw ?_|refine pdd ?_|(refine k_fn 233 ?_;refine o1_call (fun hh=>wh_number _ (cutA a41 c41 4) Z4.length (c41 - 4) Z4 id (rx_cutl (l:=Z) (enc:=B) 4 (by omega) hZ4e hh) rfl (by omega) hZ44) rfl (fun _ _=>?_))|refine ow ?_|fail)
 all_goals dsimp only [List.cons_append,List.nil_append]
 repeat' (first|intro _|refine cw ?_|refine cw2 ?_ ?_|refine ow ?_|refine ow2 ?_ ?_|fail)
 refine rt_cell_tmp (a41,c41) rfl rfl rfl rfl rfl trivial ?_
 exact ent
end Go.Dp
