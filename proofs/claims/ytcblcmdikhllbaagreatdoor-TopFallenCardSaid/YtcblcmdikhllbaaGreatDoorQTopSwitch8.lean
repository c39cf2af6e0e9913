/-
  elim: Add, Solve, walked; a matrix that there isn't.
  Matrices, reduced: what adding a row keeps, plain.
  elim: Row, Says, Bytes of a matrix that there isn't; downpourlaw6: awake, ElimNil, walked.
  elim.Bytes and From, walked.
  Matrices, reduced: what is spanned, the order of adding, sums of pieces; plain.
  Sums of pieces, plain.
  elim.Says, walked; sums of the pieces of ElimSpans, plain.
  Numbers by chance, plain.
  rand.mix, the atomic word, rand.New and Next, walked.
  spread.Pieces and precode.Rows, walked.
  Conditions: those that stand in each theorem.
-/
import Derived.Test.YtcblcmdikhllbaaGreatDoorQTopSwitch3
import Derived.Test.YtcblcmdikhllbaaGreatDoorQTopSwitch7
import Derived.Test.YtcblcmdikhllbaaGreatDoorQTopSwitch4
import Derived.Test.YtcblcmdikhllbaaGreatDoorQTopSwitch5
set_option linter.unusedVariables false
set_option linter.unusedSimpArgs false
namespace Go.Dp
open Go.RowKit Go.Proofs
theorem o1_load_hc {P:Program} {n:Nat} {H:List Hl} {e:Ev} {C:Value→List Hl→Prop} {ty T:TypeId} {x:Operand} [TOne P T] {a:Addr} {v:Value} (hx:opd e x=some (.pointer (some a))) (hc:Has H→Cl (stars H) a v) (h:C v H):O1 P (.load T x) ty n e H C :=
 ⟨fun a w ho o h1 h2 K Q hK=>(o1_load_h hx (hc ho.has) h).out a w ho o h1 h2 K Q hK⟩
def clrL (a:Nat) (x:LN) (o:Option LN):Option LN:=o.map (fun y=>if at_ y.1 a then addL y x else y)
def addM (M:List (Option LN)) (a:Nat) (x:LN):List (Option LN):=(M.map (clrL a x)).set a (some x)
theorem map_get {α β:Type} {f:α→β} {A B:List α} (h:A.map f=B.map f) {i:Nat} (h1:i<A.length) (h2:i<B.length):f A[i]=f B[i]:=by
 have:=congrArg (·[i]?) h
 simpa [h1,h2] using this
theorem map_set_same {α β:Type} {f:α→β} {A:List α} {B:List β} {i:Nat} {y:α} (h:A.map f=B) (h1:i<A.length) (hy:f y=f A[i]):(A.set i y).map f=B:=by
 subst h
 rw [List.map_set,hy]
 apply List.ext_getElem
 ·simp
 ·intro j h2 h3
  rw [List.getElem_set]
  split
  ·rename_i e
   subst e
   simp
  ·rfl
set_option maxHeartbeats 8000000 in
theorem elim_Add (H:List Hl) (bm n z:Nat) (ar:Option Addr) (cr k:Nat) (M:List (Option RD)) (v:VD) (ad0:Option Addr) (m0 c0:Nat) (dd:List (BitVec 8)) (ML:List (Option LN)) (x:LN) (a:Nat) (hk:MOk n z M) (hML:M.map vw=ML) (hv:RdV (stars H) v) (hvn:v.n=n) (hd:Rs (stars H) B ad0 c0 dd) (hm0:m0=dd.length) (hdl:dd.length=z) (hx:red ML (v.l,dd)=x) (hfa:firstV x.1=a) (hfree:ML[a]?=some none) (hk1:k≤1000) (ht:TabF (stars H)) :
  Spec Tryz.prog 168 [.pointer (some ⟨bm,0,none⟩),Pv v,.slice ad0 m0 c0] (mB bm n z ar cr k::mR n ar cr M :: .any (mrows M)::H) (fun M':List (Option RD)=>M'.map vw=addM ML a x∧MOk n z M') (fun _ => .bool true) (fun M'=>mB bm n z ar cr (k+1)::mR n ar cr M' :: .any (mrows M')::H):=by
 refine spec_fn (res:=fun M':List (Option RD)=>[mB bm n z ar cr (k+1),mR n ar cr M',.any (mrows M')]) [mB bm n z ar cr k,mR n ar cr M,.any (mrows M)] H Tryz.func168 rfl Tryz.ntmps168 (by kernel_rfl) rfl (fun W=>?_)
 dsimp only [List.cons_append,List.nil_append]
 obtain ⟨l1,l2,l3,l4,l5,l6⟩:=hk
 have hk:MOk n z M:=⟨l1,l2,l3,l4,l5,l6⟩
 have hLk:=hk.vw
 have hvl:v.l.length=n:=by rw [hv.ok.len,hvn]
 rw [hML] at hLk
 obtain ⟨hxl,hxd⟩:x.1.length=n∧x.2.length=z:=by rw [←hx];exact redT_len hLk hvl hdl _
 have hax:a<x.1.length:=by
  unfold firstV at hfa
  split at hfa <;> omega
 have han:a<n:=by omega
 have haM:a<M.length:=by omega
 have hMLl:ML.length=n:=hLk.len
 have hMa:M[a]=none:=by
  have h1:=hfree
  rw [←hML,List.getElem?_map,List.getElem?_eq_getElem haM] at h1
  cases hq:M[a] with
  | none=>rfl
  | some q=>rw [hq] at h1;cases h1
 have hpadf:=padD_full hdl
 obtain ⟨xl,xd⟩:=x
 dsimp only at hxl hxd hfa hax
 repeat' (first|intro _|refine cw ?_|refine cw2 ?_ ?_|refine o1_peql rfl rfl ?_|(refine k_binOp .neq ?_;refine o1_neq_f rfl rfl (by omega) ?_)|(refine k_fn 197 ?_;(refine o1_call (fun hh=>elim_reduced _ bm n z ar cr k M v ad0 m0 c0 dd (RdM.own hk hh) hv.up hvn hd.up hm0 (by omega)) rfl (fun ⟨b7,⟨vb,vn,va,vc,vl⟩,ad7,z7,cd7,d7⟩ hr=>?_);dsimp only at hr ⊢;obtain ⟨rfl,rfl,hr3⟩:=hr;rw [hML,hpadf,hx] at hr3;obtain ⟨rfl,rfl⟩:=Prod.mk.inj hr3))|(refine k_fn 198 ?_;refine o1_call (fun hh=>(vec_First _ ⟨vb,vn,va,vc,vl⟩ (RdV.own hxl l3 hh) ht.up).vv (b:=I a) (by rw [hfa])) rfl (fun _ _=>?_))|refine ow ?_|refine ow2 ?_ ?_|fail)
 refine st_loop (S:=Nat × List (Option RD)) (fun q=>[(0,.pointer (some ⟨bm,0,none⟩)),(7,.pointer (some ⟨b7,0,none⟩)),(8,I a),(44,.slice ar vn cr),(45,I vn),(46,I q.1)])
  (fun q=>[mB bm vn z7 ar cr k,mR vn ar cr M,.any (mrows q.2),rX b7 (.pointer (some ⟨vb,0,none⟩)) ad7 z7 cd7,vB vb vn va vc,vR vn va vc vl,rD ad7 z7 cd7 d7,.any (stars H)])
  (fun q=>q.1≤vn∧q.2.map PO=M.map PO∧q.2.map vw=partL (ML.map (clrL a (vl,d7))) ML q.1∧MOk vn z7 q.2) (fun q=>vn - q.1) (0,M) ⟨Nat.zero_le _,rfl,by rw [partL_zero,hML],hk⟩
  cv ent ?_
 rintro ⟨j,Q⟩ ⟨hj,hQp,hQv,hQk⟩
 dsimp only at hj hQp hQv hQk ⊢
 have hQl:=hQk.len
 have hcl:(ML.map (clrL a (vl,d7))).length=ML.length:=by rw [List.length_map]
 by_cases hjt:j<vn
 ·have hjM:j<M.length:=by omega
  have hjQ:j<Q.length:=by omega
  have hjL:j<ML.length:=by omega
  have hPO:PO M[j]=PO Q[j]:=(map_get hQp hjQ hjM).symm
  have hvj:vw Q[j]=ML[j]:=by
   have h1:=congrArg (·[j]?) hQv
   simp only [List.getElem?_map,List.getElem?_eq_getElem hjQ,Option.map_some] at h1
   rw [List.getElem?_eq_getElem (by rw [partL_len hcl];exact hjL),partL_at hcl (Nat.le_refl j)] at h1
   exact Option.some.inj h1
  have hnext:partL (ML.map (clrL a (vl,d7))) ML (j+1)=(partL (ML.map (clrL a (vl,d7))) ML j).set j (clrL a (vl,d7) (vw Q[j])):=by
   rw [←partL_succ hcl (by omega),hvj]
   simp
  cases hq0:Q[j] with
  | none =>
   rw [hq0] at hPO hnext hvj
   have hn2:partL (ML.map (clrL a (vl,d7))) ML (j+1)=Q.map vw:=by
    rw [hnext,←hQv]
    show (Q.map vw).set j none=_
    have e:(Q.map vw)[j]'(by simpa using hjQ)=none:=by simp [hq0,vw]
    rw [←e,List.set_getElem_self]
   repeat' (first|intro _|refine cw ?_|refine cw2 ?_ ?_|(refine k_indexAddr ?_;refine o1_iah (enc:=PO) (ad:=ar) (c:=cr) (xs:=M) j rfl rfl rx_row l1.symm rfl hjM ?_)|(refine k_load ?_;(refine o1_load_iah (enc:=PO) (ad:=ar) (c:=cr) (xs:=M) j rfl rx_row hjM ?_;rw [hPO]))|refine o1_pneq rfl rfl ?_|refine ow ?_|refine ow2 ?_ ?_|fail)
   refine nx_again (j+1,Q) ⟨?_,hQp,hn2.symm,hQk⟩ ?_ cv ?_
   ·show j+1≤vn;omega
   ·show vn - (j+1)<vn - j;omega
   exact ent
  | some q =>
   rw [hq0] at hPO hnext hvj
   have hqm:some q∈Q:=hq0 ▸ List.getElem_mem hjQ
   obtain ⟨hq1,hq2,hq3⟩:=hQk.ok q hqm
   obtain ⟨qb,⟨qvb,qvn,qva,qvc,ql⟩,qad,qz,qcd,qd⟩:=q
   dsimp only at hq2 hq3
   subst hq2 hq3
   have hqll:ql.length=qvn:=hq1.v.len
   have hqdl:qd.length=qz:=hq1.d
   cases hat:at_ ql a
   ·have hn2:partL (ML.map (clrL a (vl,d7))) ML (j+1)=Q.map vw:=by
     rw [hnext,←hQv]
     have e:clrL a (vl,d7) (vw (some ⟨qb,⟨qvb,qvn,qva,qvc,ql⟩,qad,qz,qcd,qd⟩))=(Q.map vw)[j]'(by simpa using hjQ):=by
      simp only [List.getElem_map,hq0,vw,clrL,Option.map_some]
      rw [hat]
      rfl
     rw [e,List.set_getElem_self]
    repeat' (first|intro _|refine cw ?_|refine cw2 ?_ ?_|(refine k_indexAddr ?_;refine o1_iah (enc:=PO) (ad:=ar) (c:=cr) (xs:=M) j rfl rfl rx_row l1.symm rfl hjM ?_)|(refine k_load ?_;first|(refine o1_load_iah (enc:=PO) (ad:=ar) (c:=cr) (xs:=M) j rfl rx_row hjM ?_;rw [hPO])|refine o1_load_hc rfl (fun hh=>(mrows_read (M:=Q) hqm hq1 hh).p) ?_)|refine o1_pneq rfl rfl ?_|(refine k_fn 143 ?_;refine o1_call (fun hh=>(vec_Has _ ⟨qvb,qvn,qva,qvc,ql⟩ a (mrows_read (M:=Q) hqm hq1 hh).v).bv (b:=false) (by rw [hasV_nat,hat])) rfl (fun _ _=>?_))|refine ow ?_|refine ow2 ?_ ?_|fail)
    refine nx_again (j+1,Q) ⟨?_,hQp,hn2.symm,hQk⟩ ?_ cv ?_
    ·show j+1≤qvn;omega
    ·show qvn - (j+1)<qvn - j;omega
    exact ent
   ·obtain ⟨q',hq'⟩:∃ q':RD,q'=⟨qb,⟨qvb,qvn,qva,qvc,xorV ql vl⟩,qad,qz,qcd,xorL qd d7⟩:=⟨_,rfl⟩
    have hn2:partL (ML.map (clrL a (vl,d7))) ML (j+1)=(Q.set j (some q')).map vw:=by
     rw [hnext,List.map_set,←hQv,hq']
     simp only [vw,clrL,Option.map_some]
     rw [hat]
     rfl
    have hPs:(Q.set j (some q')).map PO=M.map PO:=map_set_same hQp hjQ (by rw [hq0,hq'])
    have hQk':MOk qvn qz (Q.set j (some q')):=⟨by rw [List.length_set];exact hQl,l2,l3,l4,l5,fun r hr=>by
     rcases List.mem_or_eq_of_mem_set hr with h|h
     ·exact hQk.ok r h
     ·injection h with h
      subst h
      rw [hq']
      exact ⟨⟨⟨by show (xorV ql vl).length=qvn;rw [xorV_len (by omega)];exact hqll,l3⟩,by show (xorL qd d7).length=qz;rw [xorL_len _ _ (by omega)];exact hqdl⟩,rfl,rfl⟩⟩
    repeat' (first|intro _|refine cw ?_|refine cw2 ?_ ?_|(refine k_indexAddr ?_;refine o1_iah (enc:=PO) (ad:=ar) (c:=cr) (xs:=M) j rfl rfl rx_row l1.symm rfl hjM ?_)|(refine k_load ?_;first|(refine o1_load_iah (enc:=PO) (ad:=ar) (c:=cr) (xs:=M) j rfl rx_row hjM ?_;rw [hPO])|refine o1_load_hc rfl (fun hh=>(mrows_read (M:=Q) hqm hq1 hh).p) ?_)|refine o1_pneq rfl rfl ?_|refine o1_call_to (rX qb (.pointer (some ⟨qvb,0,none⟩)) qad qz qcd::vB qvb qvn qva qvc::vR qvn qva qvc ql::rD qad qz qcd qd::[.any (mrows (Q.set j none)),mB bm qvn qz ar cr k,mR qvn ar cr M,rX b7 (.pointer (some ⟨vb,0,none⟩)) ad7 qz cd7,vB vb qvn va vc,vR qvn va vc vl,rD ad7 qz cd7 d7,.any (stars H)]) (fun h hh=>mrows_take (R:=[mB bm qvn qz ar cr k,mR qvn ar cr M,rX b7 (.pointer (some ⟨vb,0,none⟩)) ad7 qz cd7,vB vb qvn va vc,vR qvn va vc vl,rD ad7 qz cd7 d7,.any (stars H)]) hjQ hq0 h (Ent.out ent h hh)) (fun hh=>row_xor _ qb qvb qvn qva qvc ql qad qz qcd qd ⟨b7,⟨vb,qvn,va,vc,vl⟩,ad7,qz,cd7,d7⟩ hqll l3 hqdl l5 (RdR.own hxl l3 hxd (has_tail (has_tail (has_tail (has_tail hh))))) rfl rfl) rfl (fun _ _=>?_)|(refine k_fn 143 ?_;refine o1_call (fun hh=>(vec_Has _ ⟨qvb,qvn,qva,qvc,ql⟩ a (mrows_read (M:=Q) hqm hq1 hh).v).bv (b:=true) (by rw [hasV_nat,hat])) rfl (fun _ _=>?_))|refine ow ?_|refine ow2 ?_ ?_|fail)
    have hsn:(Q.set j none).set j (some q')=Q.set j (some q'):=List.set_set ..
    have hput:=mrows_put (M:=Q.set j none) (r:=q') (i:=j) (R:=[mB bm qvn qz ar cr k,mR qvn ar cr M,rX b7 (.pointer (some ⟨vb,0,none⟩)) ad7 qz cd7,vB vb qvn va vc,vR qvn va vc vl,rD ad7 qz cd7 d7,.any (stars H)]) (by rw [List.length_set];exact hjQ) (by simp)
    rw [hsn] at hput
    refine nx_ent (H2 := .any (mrows (Q.set j (some q')))::[mB bm qvn qz ar cr k,mR qvn ar cr M,rX b7 (.pointer (some ⟨vb,0,none⟩)) ad7 qz cd7,vB vb qvn va vc,vR qvn va vc vl,rD ad7 qz cd7 d7,.any (stars H)]) (fun h hh=>hput h (by rw [hq'];exact Ent.out (by show Ent _ (rX qb (.pointer (some ⟨qvb,0,none⟩)) qad qz qcd::vB qvb qvn qva qvc::vR qvn qva qvc (xorV ql vl)::rD qad qz qcd (xorL qd d7)::[.any (mrows (Q.set j none)),mB bm qvn qz ar cr k,mR qvn ar cr M,rX b7 (.pointer (some ⟨vb,0,none⟩)) ad7 qz cd7,vB vb qvn va vc,vR qvn va vc vl,rD ad7 qz cd7 d7,.any (stars H)]);exact ent) h hh)) ?_
    refine nx_again (j+1,Q.set j (some q')) ⟨?_,hPs,hn2.symm,hQk'⟩ ?_ cv ?_
    ·show j+1≤qvn;omega
    ·show qvn - (j+1)<qvn - j;omega
    exact ent
 ·obtain rfl:j=vn:=by omega
  have haQ:a<Q.length:=by omega
  rw [partL_full hcl (by omega)] at hQv
  obtain ⟨r,hr⟩:∃ r:RD,r=⟨b7,⟨vb,j,va,vc,vl⟩,ad7,z7,cd7,d7⟩:=⟨_,rfl⟩
  have hQa:Q[a]=none:=by
   have h1:=map_get hQp haQ haM
   rw [hMa] at h1
   cases hq:Q[a] with
   | none=>rfl
   | some q=>rw [hq] at h1;cases h1
  have hPs:(M.set a (some r)).map PO=(Q.set a (some r)).map PO:=by rw [List.map_set,List.map_set,hQp]
  have hQk':MOk j z7 (Q.set a (some r)):=⟨by rw [List.length_set];exact hQl,l2,l3,l4,l5,fun r0 hr0=>by
   rcases List.mem_or_eq_of_mem_set hr0 with h|h
   ·exact hQk.ok r0 h
   ·injection h with h
    subst h
    rw [hr]
    exact ⟨⟨⟨hxl,l3⟩,hxd⟩,rfl,rfl⟩⟩
  repeat' (first|intro _|refine cw ?_|refine cw2 ?_ ?_|(refine k_indexAddr ?_;refine o1_iah (enc:=PO) (ad:=ar) (c:=cr) (xs:=M) a rfl rfl rx_row l1.symm rfl haM ?_)|(refine k_store ?_;(refine ox_store_rowenc (ad:=ar) (c:=cr) (v:=some r) PO a rfl (by rw [hr];rfl) han rfl ?_;rw [hPs]))|(refine k_fn 145 ?_;refine o1_call_box (b:=bm) (fun _=>at_Add64 _ bm j z7 ar cr k hk1) rfl (fun _ _=>?_))|refine ow ?_|refine ow2 ?_ ?_|fail)
  have hput:=mrows_put (M:=Q) (r:=r) (i:=a) (R:=[mB bm j z7 ar cr (k+1),.row 277 1 (.slice ar j cr) j ((Q.set a (some r)).map PO),.any (stars H)]) haQ hQa
  refine rt_ent (H2 := .any (mrows (Q.set a (some r)))::[mB bm j z7 ar cr (k+1),.row 277 1 (.slice ar j cr) j ((Q.set a (some r)).map PO),.any (stars H)]) (fun h hh=>hput h (by rw [hr];exact Ent.out (by show Ent _ (rX b7 (.pointer (some ⟨vb,0,none⟩)) ad7 z7 cd7::vB vb j va vc::vR j va vc vl::rD ad7 z7 cd7 d7::[.any (mrows Q),mB bm j z7 ar cr (k+1),.row 277 1 (.slice ar j cr) j ((Q.set a (some ⟨b7,⟨vb,j,va,vc,vl⟩,ad7,z7,cd7,d7⟩)).map PO),.any (stars H)]);rw [←hr];exact ent) h hh)) ?_
  refine rt_tmp (Q.set a (some r)) rfl rfl rfl ⟨?_,hQk'⟩ ?_
  ·rw [List.map_set,hQv,addM,hr]
   rfl
  exact ent
set_option maxHeartbeats 2000000 in
theorem elim_Add_old (H:List Hl) (bm n z:Nat) (ar:Option Addr) (cr k:Nat) (M:List (Option RD)) (v:VD) (ad0:Option Addr) (m0 c0:Nat) (dd:List (BitVec 8)) (ML:List (Option LN)) (x:LN) (hM:RdM (stars H) bm n z ar cr k M) (hML:M.map vw=ML) (hv:RdV (stars H) v) (hvn:v.n=n) (hd:Rs (stars H) B ad0 c0 dd) (hm0:m0=dd.length) (hdl:dd.length=z) (hx:red ML (v.l,dd)=x) (hfa:firstV x.1 = -1) (ht:TabF (stars H)) :
  Spec Tryz.prog 168 [.pointer (some ⟨bm,0,none⟩),Pv v,.slice ad0 m0 c0] H (fun _:Unit=>True) (fun _ => .bool false) (fun _=>H):=by
 refine spec_pure (res:=fun _=>[]) H Tryz.func168 rfl Tryz.ntmps168 (by kernel_rfl) rfl (fun W=>?_)
 have hLk:=hM.ok.vw
 have hvl:v.l.length=n:=by rw [hv.ok.len,hvn]
 rw [hML] at hLk
 obtain ⟨hxl,hxd⟩:x.1.length=n∧x.2.length=z:=by rw [←hx];exact redT_len hLk hvl hdl _
 have hpadf:=padD_full hdl
 have l3:=hM.ok.n2
 have m2:=hM.fz
 obtain ⟨xl,xd⟩:=x
 dsimp only at hxl hxd hfa
 repeat' (first|intro _|refine cw ?_|refine cw2 ?_ ?_|refine o1_peql rfl rfl ?_|(refine k_load ?_;refine ox_load_any rfl m2 ?_)|(refine k_binOp .neq ?_;refine o1_neq_f rfl rfl (by omega) ?_)|(refine k_fn 197 ?_;(refine o1_call (fun _=>elim_reduced _ bm n z ar cr k M v ad0 m0 c0 dd hM.up hv.up hvn hd.up hm0 (by omega)) rfl (fun ⟨b7,⟨vb,vn,va,vc,vl⟩,ad7,z7,cd7,d7⟩ hr=>?_);dsimp only at hr ⊢;obtain ⟨rfl,rfl,hr3⟩:=hr;rw [hML,hpadf,hx] at hr3;obtain ⟨rfl,rfl⟩:=Prod.mk.inj hr3))|(refine k_fn 198 ?_;refine o1_call (fun hh=>(vec_First _ ⟨vb,vn,va,vc,vl⟩ (RdV.own hxl l3 hh) ht.up).vv (b:=I (-1)) (by rw [hfa])) rfl (fun _ _=>?_))|refine ow ?_|refine ow2 ?_ ?_|fail)
 refine rt_tmp () rfl rfl rfl trivial ?_
 exact ent
theorem clone_C (H:List Hl) (ad:Option Addr) (c m:Nat) (l:List (BitVec 8)) (h:Rs (stars H) B ad c l) (hm:m=l.length) (hb:m≤1000) :
  Spec Tryz.prog 29 [.slice ad m c] H (fun _:Option Addr × Nat=>True) (fun r => .slice r.1 m r.2) (fun r => .row 5 1 (.slice r.1 m r.2) m (l.map B)::H):=by
 refine spec_pure (res:=fun r:Option Addr × Nat=>[.row 5 1 (.slice r.1 m r.2) m (l.map B)]) H Tryz.func29 rfl Tryz.ntmps29 (by kernel_rfl) rfl (fun W=>?_)
 cases ad with
 | none =>
  have hl:l=[]:=by
   cases l with
   | nil=>rfl
   | cons a l=>obtain ⟨x,hx⟩:=h.sm (by simp);cases hx
  subst hl
  subst hm
  repeat' (first|intro _|refine cw ?_|refine cw2 ?_ ?_|refine ow ?_|refine ow2 ?_ ?_|fail)
  refine (rt_ent (ent_nil 5 B) ?_)
  refine rt_tmp (none,0) rfl rfl rfl trivial ?_
  exact ent
 | some a =>
  repeat' (first|intro _|refine cw ?_|refine cw2 ?_ ?_|(refine k_buildSlice ?_;refine o1_lit_enc B ([]:List (BitVec 8)) rfl rfl rfl (fun _=>rfl) rfl rfl rfl (fun _=>?_))|(refine k_call ?_;refine ox_append_box (enc:=B) (xs:=([]:List (BitVec 8))) rfl rfl rfl rfl (rx_any h) hm rfl (fun _=>rfl) (by omega) (by omega) (fun _ _=>?_))|refine ow ?_|refine ow2 ?_ ?_|fail)
  refine rt_tmp (_,_) rfl rfl (by simp only [Nat.zero_add];rfl) trivial ?_
  simp only [Nat.zero_add,List.nil_append]
  exact ent
set_option maxHeartbeats 2000000 in
theorem elim_Solve (H:List Hl) (bm n z:Nat) (ar:Option Addr) (cr:Nat) (M:List (Option RD)) (R:List RD) (hM:RdM (stars H) bm n z ar cr n M) (hR:M=R.map some) :
  Spec Tryz.prog 201 [.pointer (some ⟨bm,0,none⟩)] H (fun r:Option Addr × Nat × List (SlD (BitVec 8))=>r.2.2.map (·.l)=R.map (·.d)) (fun r => .slice r.1 r.2.2.length r.2.1)
   (fun r => .row 22 1 (.slice r.1 r.2.2.length r.2.1) r.2.2.length (r.2.2.map Bs) :: .any (pcs 5 r.2.2)::H):=by
 refine spec_pure (res:=fun r:Option Addr × Nat × List (SlD (BitVec 8))=>[.row 22 1 (.slice r.1 r.2.2.length r.2.1) r.2.2.length (r.2.2.map Bs),.any (pcs 5 r.2.2)]) H Tryz.func201 rfl Tryz.ntmps201 (by kernel_rfl) rfl (fun W=>?_)
 obtain ⟨l1,l2,l3,l4,l5,l6⟩:=hM.ok
 have m3:=hM.fs
 have hRl:R.length=n:=by rw [←l1,hR,List.length_map]
 repeat' (first|intro _|refine cw ?_|refine cw2 ?_ ?_|(refine k_fn 217 ?_;refine o1_call (fun _=>(elim_Full _ bm n n (cl_up hM.fk) (cl_up hM.fn)).bv (b:=true) (by simp)) rfl (fun _ _=>?_))|(refine k_load ?_;refine ox_load_any rfl m3 ?_)|refine ow ?_|refine ow2 ?_ ?_|fail)
 refine st_ent (ent_nil 22 Bs) (st_ent (fun h hh=>sel_swap h (pcs_nil (T:=5) h hh)) ?_)
 refine st_loop (S:=Nat × Option Addr × Nat × List (SlD (BitVec 8))) (fun q=>[(3,.slice q.2.1 q.2.2.2.length q.2.2.1),(12,.slice ar n cr),(13,I n),(14,I q.1)])
  (fun q=>[.row 22 1 (.slice q.2.1 q.2.2.2.length q.2.2.1) q.2.2.2.length (q.2.2.2.map Bs),.any (pcs 5 q.2.2.2),.any (stars H)])
  (fun q=>q.1≤n∧q.2.2.2.map (·.l)=(R.map (·.d)).take q.1) (fun q=>n - q.1) (0,none,0,[]) ⟨by omega,rfl⟩
  cv ent ?_
 rintro ⟨i,a1,c1,out⟩ ⟨hi,hout⟩
 dsimp only at hi hout ⊢
 have hol:out.length=i:=by have:=congrArg List.length hout;simp at this;omega
 by_cases hlt:i<n
 ·have hiM:i<M.length:=by omega
  have hiR:i<R.length:=by omega
  obtain ⟨r,hr⟩:∃ r,R[i]=r:=⟨_,rfl⟩
  have hMi:M[i]=some r:=by subst hR;simp [hr]
  have hrm:some r∈M:=hMi ▸ List.getElem_mem hiM
  have hrr:=hM.fm r hrm
  obtain ⟨hr1,hr2,hr3⟩:=l6 r hrm
  have hrs:=hrr.s
  have hrd:=hrr.d
  have hrz:r.z=r.d.length:=hrr.z.symm
  have hrz2:r.z≤16:=by omega
  repeat' (first|intro _|refine cw ?_|refine cw2 ?_ ?_|(refine k_indexAddr ?_;refine o1_ia (ad:=ar) (c:=cr) i rfl rfl hM.fr l1.symm rfl hiM ?_)|(refine k_load ?_;first|(refine o1_load_ia (ad:=ar) (c:=cr) i rfl hM.fr hiM ?_;rw [hMi])|refine ox_load_any rfl hrs ?_)|(refine k_fn 29 ?_;(refine o1_call (fun _=>clone_C _ r.ad r.cd r.z r.d (Rs.up hrd) hrz (by omega)) rfl (fun ⟨a5,c5⟩ _=>?_);dsimp only;rw [hrz]))|(refine k_buildSlice ?_;refine o1_lit_enc Bs [(⟨a5,c5,r.d⟩:SlD (BitVec 8))] rfl rfl rfl (fun _=>rfl) rfl rfl rfl (fun _=>?_))|(refine k_call ?_;refine ox_append (xs:=out) (ys:=[(⟨a5,c5,r.d⟩:SlD (BitVec 8))]) rfl rfl (rx_box rfl (by decide)) rfl rfl (fun _=>rfl) (by omega) (by omega) (fun a9 c9=>?_))|refine ow ?_|refine ow2 ?_ ?_|fail)
  obtain ⟨u,hu⟩:∃ u:SlD (BitVec 8),u=⟨a5,c5,r.d⟩:=⟨_,rfl⟩
  refine nx_push (T:=5) (ls:=out) (s:=u) (R:=[.row 22 1 (.slice a9 (out.length+1) c9) (out.length+1) ((out++[u]).map Bs),.any (stars H)]) (by rw [hu];exact ent) ?_
  refine nx_again (i+1,a9,c9,out++[u]) ⟨?_,?_⟩ ?_ (cov_cons rfl ?_ cv) ?_
  ·show i+1≤n;omega
  ·show (out++[u]).map (·.l)=_
   rw [List.map_append,hout,List.take_succ_eq_append_getElem (by rw [List.length_map];exact hiR),hu]
   simp [hr]
  ·show n - (i+1)<n - i;omega
  ·show Value.slice a9 _ c9=Value.slice a9 (out++[u]).length c9
   rw [List.length_append];rfl
  ·show Ent _ [.row 22 1 (.slice a9 (out++[u]).length c9) (out++[u]).length ((out++[u]).map Bs),.any (pcs 5 (out++[u])),.any (stars H)]
   rw [List.length_append,List.length_singleton]
   exact ent
 ·have:i=n:=by omega
  subst this
  repeat' (first|intro _|refine cw ?_|refine cw2 ?_ ?_|refine ow ?_|refine ow2 ?_ ?_|fail)
  refine rt_tmp (a1,c1,out) rfl rfl rfl ?_ ?_
  ·show out.map (·.l)=_
   rw [hout,List.take_of_length_le (by rw [List.length_map];omega)]
  exact ent
end Go.Dp
namespace Go.Dp
def xsB (g:Nat→Bool):Nat→Bool
 | 0=>false
 | n+1=>xsB g n ^^ g n
theorem xsB_zero {g:Nat→Bool} {n:Nat} (h:∀ i,i<n→g i=false):xsB g n=false:=by
 induction n with
 | zero=>rfl
 | succ n ih=>rw [xsB,ih (fun i hi=>h i (by omega)),h n (by omega)];rfl
theorem xsB_one {g:Nat→Bool} {n j:Nat} (hj:j<n) (h:∀ i,i<n→i≠j→g i=false):xsB g n=g j:=by
 induction n with
 | zero=>omega
 | succ n ih =>
  rw [xsB]
  by_cases e:j=n
  ·subst e
   rw [xsB_zero (fun i hi=>h i (by omega) (by omega))];simp
  ·rw [ih (by omega) (fun i hi hne=>h i (by omega) hne),h n (by omega) (fun q=>e q.symm)];simp
def rowAt (M:List (Option LN)) (i k:Nat):Bool:=match M.getD i none with
 | some y=>at_ y.1 k
 | none=>false
structure RR (n z:Nat) (M:List (Option LN)):Prop where
 lok:LOk n z M
 fst:∀ i y,M[i]?=some (some y)→at_ y.1 i=true
 lo:∀ i y j,M[i]?=some (some y)→j<i→at_ y.1 j=false
 piv:∀ i j y w,M[i]?=some (some y)→M[j]?=some (some w)→i≠j→at_ y.1 j=false
theorem getD_of {M:List (Option LN)} {i:Nat} {y:LN} (h:M[i]?=some (some y)):M.getD i none=some y:=by rw [List.getD_eq_getElem?_getD,h];rfl
theorem getD_some {M:List (Option LN)} {i:Nat} {y:LN} (h:M.getD i none=some y):M[i]?=some (some y):=by
 rw [List.getD_eq_getElem?_getD] at h
 cases hq:M[i]? with
 | none=>rw [hq] at h;cases h
 | some o=>rw [hq] at h;exact congrArg some h
theorem mem_of_get? {M:List (Option LN)} {i:Nat} {o:Option LN} (h:M[i]?=some o):o∈M:=List.mem_of_getElem? h
theorem redT_at {n z:Nat} {M:List (Option LN)} (h:RR n z M) {x:LN} (hx:x.1.length=n) (hd:x.2.length=z):∀ i,i≤n→∀ k,at_ (redT M x i).1 k=(at_ x.1 k ^^ xsB (fun j=>at_ x.1 j && rowAt M j k) i)
 | 0,_,k=>by simp [redT,xsB]
 | i+1,hi,k=>by
  have ih:=redT_at h hx hd i (by omega)
  obtain ⟨l1,l2⟩:=redT_len h.lok hx hd i
  rw [redT,xsB]
  cases ho:M.getD i none with
  | none =>
   have hr:rowAt M i k=false:=by unfold rowAt;rw [ho]
   rw [hr,Bool.and_false,Bool.xor_false]
   exact ih k
  | some y =>
   have hM:=getD_some ho
   have hr:rowAt M i k=at_ y.1 k:=by unfold rowAt;rw [ho]
   obtain ⟨y1,y2⟩:=h.lok.ok y (mem_of_get? hM)
   have hc:at_ (redT M x i).1 i=at_ x.1 i:=by
    rw [ih i,xsB_zero (fun j hj=>?_),Bool.xor_false]
    unfold rowAt
    cases hj2:M.getD j none with
    | none=>simp
    | some w =>
     show (at_ x.1 j && at_ w.1 i)=false
     rw [h.piv j i w y (getD_some hj2) hM (by omega),Bool.and_false]
   show at_ (if at_ (redT M x i).1 i=true then addL (redT M x i) y else redT M x i).1 k=_
   rw [hc,hr]
   cases hb:at_ x.1 i
   ·simpa using ih k
   ·simp only [if_true,Bool.true_and]
    show (xorV (redT M x i).1 y.1).getD k false=_
    rw [xorV_getD (by omega)]
    have:=ih k
    rw [←Bool.xor_assoc,←this]
theorem red_piv {n z:Nat} {M:List (Option LN)} (h:RR n z M) {x:LN} (hx:x.1.length=n) (hd:x.2.length=z) {j:Nat} {w:LN} (hj:M[j]?=some (some w)):at_ (red M x).1 j=false:=by
 have hjn:j<n:=by
  rw [←h.lok.len]
  exact (List.getElem?_eq_some_iff.1 hj).1
 rw [red,h.lok.len,redT_at h hx hd n (Nat.le_refl _),xsB_one hjn (fun i hi hne=>?_)]
 ·show (at_ x.1 j ^^ (at_ x.1 j && rowAt M j j))=false
  have:rowAt M j j=true:=by unfold rowAt;rw [getD_of hj];exact h.fst j w hj
  rw [this];simp
 ·unfold rowAt
  cases hi2:M.getD i none with
  | none=>simp
  | some y =>
   show (at_ x.1 i && at_ y.1 j)=false
   rw [h.piv i j y w (getD_some hi2) hj hne,Bool.and_false]
theorem first_cases (l:List Bool):firstV l = -1∨∃ a:Nat,firstV l=a∧a<l.length∧at_ l a=true∧∀ j,j<a→at_ l j=false:=by
 unfold firstV
 by_cases h:firstN (at_ l) l.length<l.length
 ·rw [if_pos h]
  exact .inr ⟨_,rfl,h,firstN_at _ _ h,firstN_lo _ _⟩
 ·rw [if_neg h];exact .inl rfl
theorem red_free {n z:Nat} {M:List (Option LN)} (h:RR n z M) {x:LN} (hx:x.1.length=n) (hd:x.2.length=z) {a:Nat} (ha:a<n) (h1:at_ (red M x).1 a=true):M[a]?=some none:=by
 have hl:a<M.length:=by rw [h.lok.len];exact ha
 rw [List.getElem?_eq_getElem hl]
 cases ho:M[a] with
 | none=>rfl
 | some w =>
  have:=red_piv h hx hd (j:=a) (w:=w) (by rw [List.getElem?_eq_getElem hl,ho])
  rw [this] at h1
  cases h1
theorem addM_get {M:List (Option LN)} {a i:Nat} {x y:LN} (ha:a<M.length) (h:(addM M a x)[i]?=some (some y)):(i=a∧y=x)∨(i≠a∧∃ w,M[i]?=some (some w)∧y=if at_ w.1 a=true then addL w x else w):=by
 unfold addM at h
 rw [List.getElem?_set] at h
 by_cases e:a=i
 ·subst e
  rw [if_pos rfl] at h
  simp only [List.length_map,ha,if_true,Option.some.injEq] at h
  exact .inl ⟨rfl,h.symm⟩
 ·rw [if_neg e,List.getElem?_map] at h
  refine .inr ⟨fun q=>e q.symm,?_⟩
  cases hM:M[i]? with
  | none=>rw [hM] at h;cases h
  | some o =>
   rw [hM] at h
   cases o with
   | none=>cases h
   | some w =>
    simp only [Option.map_some,clrL,Option.some.injEq] at h
    exact ⟨w,rfl,h.symm⟩
theorem at_addL {x y:LN} (h:x.1.length=y.1.length) (k:Nat):at_ (addL x y).1 k=(at_ x.1 k ^^ at_ y.1 k):=xorV_getD h k
theorem addM_RR {n z:Nat} {M:List (Option LN)} (h:RR n z M) {x:LN} {a:Nat} (hx:x.1.length=n) (hd:x.2.length=z) (ha:a<n) (h1:at_ x.1 a=true) (h2:∀ j,j<a→at_ x.1 j=false) (hp:∀ j w,M[j]?=some (some w)→at_ x.1 j=false) (hf:M[a]?=some none):RR n z (addM M a x):=by
 have hl:=h.lok.len
 have haM:a<M.length:=by omega
 have lens:∀ (i:Nat) (w:LN),M[i]?=some (some w)→w.1.length=n∧w.2.length=z:=fun i w hw=>h.lok.ok w (mem_of_get? hw)
 refine ⟨⟨by simp [addM,hl],fun y hy=>?_⟩,fun i y hy=>?_,fun i y j hy hj=>?_,fun i j y w hy hw hij=>?_⟩
 ·obtain ⟨i,hi⟩:=List.getElem?_of_mem hy
  rcases addM_get haM hi with ⟨_,rfl⟩|⟨_,w,hw,rfl⟩
  ·exact ⟨hx,hd⟩
  ·obtain ⟨w1,w2⟩:=lens i w hw
   split
   ·exact addL_len w1 w2 hx hd
   ·exact ⟨w1,w2⟩
 ·rcases addM_get haM hy with ⟨rfl,rfl⟩|⟨hne,w,hw,rfl⟩
  ·exact h1
  ·obtain ⟨w1,w2⟩:=lens i w hw
   split
   ·rw [at_addL (by omega),h.fst i w hw,hp i w hw];rfl
   ·exact h.fst i w hw
 ·rcases addM_get haM hy with ⟨rfl,rfl⟩|⟨hne,w,hw,rfl⟩
  ·exact h2 j hj
  ·obtain ⟨w1,w2⟩:=lens i w hw
   split
   ·rename_i hq
    have hai:i<a:=by
     rcases Nat.lt_trichotomy a i with q|q|q
     ·rw [h.lo i w a hw q] at hq;cases hq
     ·exact absurd q.symm hne
     ·exact q
    rw [at_addL (by omega),h.lo i w j hw hj,h2 j (by omega)];rfl
   ·exact h.lo i w j hw hj
 ·rcases addM_get haM hy with ⟨rfl,rfl⟩|⟨hne,u,hu,rfl⟩
  ·rcases addM_get haM hw with ⟨e,_⟩|⟨_,v,hv,_⟩
   ·exact absurd e.symm hij
   ·exact hp j v hv
  ·obtain ⟨w1,w2⟩:=lens i u hu
   rcases addM_get haM hw with ⟨rfl,_⟩|⟨_,v,hv,_⟩
   ·split
    ·rename_i hq
     rw [at_addL (by omega),hq,h1];rfl
    ·rename_i hq
     simpa using hq
   ·split
    ·rw [at_addL (by omega),h.piv i j u v hu hv hij,hp j v hv];rfl
    ·exact h.piv i j u v hu hv hij
theorem RR_none {n z:Nat}:RR n z (List.replicate n none):=by
 have hn:∀ i (y:LN),((List.replicate n none:List (Option LN))[i]?=some (some y))→False:=fun i y h=>by
  have:=mem_of_get? h
  cases List.eq_of_mem_replicate this
 exact ⟨⟨by simp,fun y hy=>by cases List.eq_of_mem_replicate hy⟩,fun i y h=>(hn i y h).elim,fun i y j h=>(hn i y h).elim,fun i j y w h=>(hn i y h).elim⟩
def cntS:List (Option LN)→Nat
 | []=>0
 | none::t=>cntS t
 | some _::t=>cntS t+1
theorem cntS_set:∀ {M:List (Option LN)} {i:Nat} {x:LN},M[i]?=some none→cntS (M.set i (some x))=cntS M+1
 | [],i,x,h=>by simp at h
 | o::M,0,x,h=>by
  simp at h
  subst h
  rfl
 | o::M,i+1,x,h=>by
  simp at h
  have:=cntS_set (x:=x) h
  cases o with
  | none=>simpa [cntS] using this
  | some y=>simp [cntS,this]
theorem cntS_clr (a:Nat) (x:LN):∀ M:List (Option LN),cntS (M.map (clrL a x))=cntS M
 | []=>rfl
 | none::M=>by simp only [List.map_cons,clrL,Option.map_none,cntS];exact cntS_clr a x M
 | some y::M=>by simp only [List.map_cons,clrL,Option.map_some,cntS];rw [cntS_clr a x M]
theorem cntS_addM {M:List (Option LN)} {a:Nat} {x:LN} (h:M[a]?=some none):cntS (addM M a x)=cntS M+1:=by
 rw [addM,cntS_set (by rw [List.getElem?_map,h];rfl),cntS_clr]
theorem cntS_le:∀ M:List (Option LN),cntS M≤M.length
 | []=>Nat.le_refl _
 | none::M=>by simp only [cntS,List.length_cons];have:=cntS_le M;omega
 | some y::M=>by simp only [cntS,List.length_cons];have:=cntS_le M;omega
theorem cntS_none (n:Nat):cntS (List.replicate n none)=0:=by
 induction n with
 | zero=>rfl
 | succ n ih=>rw [List.replicate_succ];exact ih
theorem add_cases {n z:Nat} {M:List (Option LN)} (h:RR n z M) {v:LN} (hx:v.1.length=n) (hd:v.2.length=z):firstV (red M v).1 = -1∨∃ a:Nat,firstV (red M v).1=a∧M[a]?=some none∧RR n z (addM M a (red M v))∧cntS (addM M a (red M v))=cntS M+1:=by
 obtain ⟨l1,l2⟩:=redT_len h.lok hx hd M.length
 rcases first_cases (red M v).1 with e|⟨a,e,ha,h1,h2⟩
 ·exact .inl e
 ·have ha:a<n:=by
   have l1:(red M v).1.length=n:=l1
   omega
  have hf:=red_free h hx hd ha h1
  exact .inr ⟨a,e,hf,addM_RR h l1 l2 ha h1 h2 (fun j w hw=>red_piv h hx hd hw) hf,cntS_addM hf⟩
open Go.RowKit Go.Proofs
theorem rt_tmp3 {P:Program} {n:Nat} {e:Ev} {W:World} {H:List Hl} {X:Type} {fn:Func} {good:X→Prop} {val:X→Value} {res:X→List Hl} {t t' t2:Nat} {v v' v2:Value} (r:X) (hres:fn.results = #[.tmp t,.tmp t',.tmp t2]) (hl:look e t=some v) (hl':look e t'=some v') (hl2:look e t2=some v2) (hv : .tuple #[v,v',v2]=val r) (hg:good r) (hE:Ent H (res r)) :
  Rt P (.fn fn fun x w'=>∃ r,good r∧x = .returned (val r)∧Ext W w'∧sat w' (stars (res r))) n e W H :=
 rt_fn (v := .tuple #[v,v',v2]) (fun a w ho=>by simp [results,hres,ho.ev.get t v hl,ho.ev.get t' v' hl',ho.ev.get t2 v2 hl2]) r hg hv hE
theorem MOk.none {n z:Nat} (h1:1≤n) (h2:n≤256) (h3:1≤z) (h4:z≤16):MOk n z (List.replicate n none):=⟨by simp,h1,h2,h3,h4,fun r hr=>by cases List.eq_of_mem_replicate hr⟩
end Go.Dp
namespace Go.Dp
theorem xsB_xor (f g:Nat→Bool):∀ n,xsB (fun j=>f j ^^ g j) n=(xsB f n ^^ xsB g n)
 | 0=>rfl
 | n+1=>by
  rw [xsB,xsB,xsB,xsB_xor f g n]
  cases xsB f n <;> cases xsB g n <;> cases f n <;> cases g n <;> rfl
theorem xsB_and (f:Nat→Bool) (c:Bool):∀ n,xsB (fun j=>f j && c) n=(xsB f n && c)
 | 0=>by simp [xsB]
 | n+1=>by
  rw [xsB,xsB,xsB_and f c n]
  cases xsB f n <;> cases f n <;> cases c <;> rfl
theorem xsB_congr {f g:Nat→Bool} {n:Nat} (h:∀ j,j<n→f j=g j):xsB f n=xsB g n:=by
 induction n with
 | zero=>rfl
 | succ n ih=>rw [xsB,xsB,ih (fun j hj=>h j (by omega)),h n (by omega)]
def rd (n:Nat) (M:List (Option LN)) (w:List Bool) (k:Nat):Bool:=at_ w k ^^ xsB (fun j=>at_ w j && rowAt M j k) n
theorem red_rd {n z:Nat} {M:List (Option LN)} (h:RR n z M) {x:LN} (hx:x.1.length=n) (hd:x.2.length=z) (k:Nat):at_ (red M x).1 k=rd n M x.1 k:=by
 rw [red,h.lok.len]
 exact redT_at h hx hd n (Nat.le_refl _) k
theorem rd_xor (n:Nat) (M:List (Option LN)) {w v:List Bool} (hl:w.length=v.length) (k:Nat):rd n M (xorV w v) k=(rd n M w k ^^ rd n M v k):=by
 have ha:∀ j,at_ (xorV w v) j=(at_ w j ^^ at_ v j):=fun j=>xorV_getD hl j
 unfold rd
 rw [ha k,xsB_congr (g:=fun j=>(at_ w j && rowAt M j k) ^^ (at_ v j && rowAt M j k)) (fun j _=>by
  rw [ha j]
  cases at_ w j <;> cases at_ v j <;> cases rowAt M j k <;> rfl),xsB_xor]
 cases at_ w k <;> cases at_ v k <;> simp
theorem rowAt_none {M:List (Option LN)} {a:Nat} (h:M[a]?=some none) (k:Nat):rowAt M a k=false:=by
 unfold rowAt
 rw [List.getD_eq_getElem?_getD,h]
 rfl
theorem rowAt_addM {n z:Nat} {M:List (Option LN)} (h:LOk n z M) {a:Nat} {x:LN} (ha:a<M.length) (hx:x.1.length=n) (j k:Nat):rowAt (addM M a x) j k=if j=a then at_ x.1 k else (rowAt M j k ^^ (rowAt M j a && at_ x.1 k)):=by
 unfold rowAt addM
 rw [List.getD_eq_getElem?_getD,List.getElem?_set]
 by_cases e:j=a
 ·subst e
  rw [if_pos rfl,if_pos rfl,List.length_map,if_pos ha]
  rfl
 ·rw [if_neg (fun q=>e q.symm),if_neg e,List.getElem?_map,List.getD_eq_getElem?_getD]
  cases ho:M[j]? with
  | none=>rfl
  | some o =>
   cases o with
   | none=>rfl
   | some y =>
    obtain ⟨y1,y2⟩:=h.ok y (mem_of_get? ho)
    show at_ (if at_ y.1 a=true then addL y x else y).1 k=(at_ y.1 k ^^ (at_ y.1 a && at_ x.1 k))
    cases at_ y.1 a
    ·simp
    ·simpa using at_addL (by omega) k
theorem rd_addM {n z:Nat} {M:List (Option LN)} (h:LOk n z M) {a:Nat} {x:LN} (ha:a<n) (hx:x.1.length=n) (hf:M[a]?=some none) (w:List Bool) (k:Nat):rd n (addM M a x) w k=(rd n M w k ^^ (rd n M w a && at_ x.1 k)):=by
 have haM:a<M.length:=by rw [h.len];exact ha
 unfold rd
 rw [xsB_congr (g:=fun j=>((at_ w j && rowAt M j k) ^^ ((at_ w j && rowAt M j a) && at_ x.1 k)) ^^ (decide (j=a) && (at_ w a && at_ x.1 k))) (fun j _=>by
  rw [rowAt_addM h haM hx]
  by_cases e:j=a
  ·subst e
   rw [if_pos rfl,rowAt_none hf,rowAt_none hf]
   cases at_ w j <;> simp
  ·rw [if_neg e]
   simp only [e,decide_false,Bool.false_and,Bool.xor_false]
   cases at_ w j <;> simp),xsB_xor,xsB_xor,xsB_and,xsB_and,xsB_one (g:=fun j=>decide (j=a)) (j:=a) ha (fun i _ hi=>by simp [hi])]
 simp only [decide_true,Bool.true_and]
 cases at_ w k <;> cases at_ w a <;> cases xsB (fun j=>at_ w j && rowAt M j k) n <;> cases xsB (fun j=>at_ w j && rowAt M j a) n <;> cases at_ x.1 k <;> rfl
def sp (n:Nat) (M:List (Option LN)) (w:List Bool):Prop:=∀ k,rd n M w k=false
def addF (M:List (Option LN)) (v:LN):List (Option LN):=if firstV (red M v).1 = -1 then M else addM M (firstV (red M v).1).toNat (red M v)
theorem addF_old {M:List (Option LN)} {v:LN} (h:firstV (red M v).1 = -1):addF M v=M:=if_pos h
theorem addF_new {M:List (Option LN)} {v:LN} {a:Nat} (h:firstV (red M v).1=a):addF M v=addM M a (red M v):=by
 unfold addF
 rw [if_neg (by omega),h]
 rfl
theorem sp_first {n z:Nat} {M:List (Option LN)} (h:RR n z M) {v:LN} (hx:v.1.length=n) (hd:v.2.length=z):firstV (red M v).1 = -1↔sp n M v.1:=by
 obtain ⟨l1,l2⟩:=redT_len h.lok hx hd M.length
 have l1:(red M v).1.length=n:=l1
 constructor
 ·intro e k
  rw [←red_rd h hx hd k]
  by_cases hk:k<n
  ·rcases hb:at_ (red M v).1 k with _|_
   ·rfl
   ·obtain ⟨m,hm,hmin⟩:=least (p:=fun i=>at_ (red M v).1 i=true) ⟨k,hb⟩
    have hmn:m<(red M v).1.length:=by
     by_cases q:m<(red M v).1.length
     ·exact q
     ·have:at_ (red M v).1 m=false:=getD_out (by omega)
      rw [this] at hm;cases hm
    have:=firstV_is (l:=(red M v).1) hmn hm (fun j hj=>by
     have:=hmin j hj
     simpa using this)
    omega
  ·exact getD_out (by omega)
 ·intro e
  exact firstV_none (fun j _=>by rw [red_rd h hx hd j];exact e j)
theorem addF_RR {n z:Nat} {M:List (Option LN)} (h:RR n z M) {v:LN} (hx:v.1.length=n) (hd:v.2.length=z):RR n z (addF M v):=by
 rcases add_cases h hx hd with e|⟨a,e,_,h1,_⟩
 ·rw [addF_old e];exact h
 ·rw [addF_new e];exact h1
theorem sp_addF {n z:Nat} {M:List (Option LN)} (h:RR n z M) {v:LN} (hx:v.1.length=n) (hd:v.2.length=z) {w:List Bool} (hw:w.length=n):sp n (addF M v) w↔sp n M w∨sp n M (xorV w v.1):=by
 obtain ⟨l1,l2⟩:=redT_len h.lok hx hd M.length
 have l1:(red M v).1.length=n:=l1
 have hl:w.length=v.1.length:=by omega
 rcases add_cases h hx hd with e|⟨a,e,hf,_,_⟩
 ·rw [addF_old e]
  have hv:=(sp_first h hx hd).1 e
  constructor
  ·exact .inl
  ·rintro (q|q)
   ·exact q
   ·intro k
    have:=q k
    rw [rd_xor n M hl,hv k] at this
    simpa using this
 ·rw [addF_new e]
  have ha:a<n:=by
   have:=(List.getElem?_eq_some_iff.1 hf).1
   rw [h.lok.len] at this
   exact this
  have hxa:at_ (red M v).1 a=true:=by
   rcases first_cases (red M v).1 with q|⟨a',q,_,q2,_⟩
   ·omega
   ·have:a=a':=by omega
    subst this;exact q2
  have hr:∀ k,rd n (addM M a (red M v)) w k=(rd n M w k ^^ (rd n M w a && rd n M v.1 k)):=fun k=>by rw [rd_addM h.lok ha l1 hf,red_rd h hx hd]
  rw [red_rd h hx hd] at hxa
  constructor
  ·intro q
   cases hb:rd n M w a
   ·refine .inl (fun k=>?_)
    have:=q k
    rw [hr,hb] at this
    simpa using this
   ·refine .inr (fun k=>?_)
    have:=q k
    rw [hr,hb] at this
    rw [rd_xor n M hl]
    simpa using this
  ·rintro (q|q)
   ·intro k
    rw [hr,q k,q a];rfl
   ·have hq:∀ k,rd n M w k=rd n M v.1 k:=fun k=>by
     have:=q k
     rw [rd_xor n M hl] at this
     simpa using this
    intro k
    rw [hr,hq a,hxa,hq k]
    simp
theorem at_ext {a b:List Bool} (hl:a.length=b.length) (h:∀ k,at_ a k=at_ b k):a=b:=by
 apply List.ext_getElem hl
 intro i h1 h2
 have:=h i
 unfold at_ at this
 rw [List.getD_eq_getElem?_getD,List.getD_eq_getElem?_getD,List.getElem?_eq_getElem h1,List.getElem?_eq_getElem h2] at this
 exact this
def DOk (D:List Bool→List (BitVec 8)) (M:List (Option LN)):Prop:=∀ y,some y∈M→y.2=D y.1
def foldA (n:Nat) (D:List Bool→List (BitVec 8)) (rs:List (List Bool)):List (Option LN):=rs.foldl (fun M v=>addF M (v,D v)) (List.replicate n none)
theorem foldA_nil (n:Nat) (D:List Bool→List (BitVec 8)):foldA n D []=List.replicate n none:=rfl
theorem foldA_snoc (n:Nat) (D:List Bool→List (BitVec 8)) (rs:List (List Bool)) (v:List Bool):foldA n D (rs++[v])=addF (foldA n D rs) (v,D v):=by simp [foldA]
theorem rev_ind {α:Type} {P:List α→Prop} (h0:P []) (hs:∀ l a,P l→P (l++[a])) (l:List α):P l:=by
 have:∀ m:List α,P m.reverse:=by
  intro m
  induction m with
  | nil=>exact h0
  | cons a m ih=>rw [List.reverse_cons];exact hs _ _ ih
 simpa using this l.reverse
theorem foldA_RR {n z:Nat} {D:List Bool→List (BitVec 8)} (hD:∀ v,v.length=n→(D v).length=z):∀ rs:List (List Bool),(∀ v∈rs,v.length=n)→RR n z (foldA n D rs) :=
 rev_ind (fun _=>RR_none) (fun l a ih h=>by
  rw [foldA_snoc]
  exact addF_RR (ih (fun v hv=>h v (by simp [hv]))) (h a (by simp)) (hD a (h a (by simp))))
theorem foldA_sub {n z:Nat} {D:List Bool→List (BitVec 8)} (hD:∀ v,v.length=n→(D v).length=z) {T:List Bool→Prop} (h0:T (List.replicate n false)) (hx:∀ a b,a.length=n→b.length=n→T a→T b→T (xorV a b)):∀ rs:List (List Bool),(∀ v∈rs,v.length=n∧T v)→∀ w,w.length=n→sp n (foldA n D rs) w→T w :=
 rev_ind (fun _ w hw hs=>by
  have:w=List.replicate n false:=at_ext (by simp [hw]) (fun k=>by
   have h1:=hs k
   unfold rd at h1
   rw [xsB_zero (fun j hj=>?_),Bool.xor_false] at h1
   ·rw [h1]
    unfold at_
    rw [List.getD_eq_getElem?_getD,List.getElem?_replicate]
    split <;> rfl
   ·rw [rowAt_none (by rw [foldA_nil,List.getElem?_replicate,if_pos hj]),Bool.and_false])
  rw [this];exact h0)
 (fun l a ih h w hw hs=>by
  rw [foldA_snoc] at hs
  obtain ⟨ha,hTa⟩:=h a (by simp)
  have hl:∀ v∈l,v.length=n∧T v:=fun v hv=>h v (by simp [hv])
  rcases (sp_addF (foldA_RR hD l (fun v hv=>(hl v hv).1)) ha (hD a ha) hw).1 hs with q|q
  ·exact ih hl w hw q
  ·have hwl:(xorV w a).length=n:=by rw [xorV_len (by omega)];exact hw
   have h1:=hx _ _ hwl ha (ih hl _ hwl q) hTa
   have e:xorV (xorV w a) a=w:=at_ext (by rw [xorV_len (by omega),hwl,hw]) (fun k=>by
    have e1:at_ (xorV (xorV w a) a) k=(at_ (xorV w a) k ^^ at_ a k):=xorV_getD (by omega) k
    have e2:at_ (xorV w a) k=(at_ w k ^^ at_ a k):=xorV_getD (by omega) k
    rw [e1,e2];simp)
   rw [e] at h1
   exact h1)
def Lin (n z:Nat) (D:List Bool→List (BitVec 8)):Prop:=(∀ v,v.length=n→(D v).length=z)∧∀ a b,a.length=n→b.length=n→D (xorV a b)=xorL (D a) (D b)
theorem redT_D {n z:Nat} {D:List Bool→List (BitVec 8)} (hD:Lin n z D) {M:List (Option LN)} (h:LOk n z M) (hM:DOk D M) {x:LN} (hx:x.1.length=n) (hxd:x.2=D x.1):∀ i,(redT M x i).2=D (redT M x i).1
 | 0=>hxd
 | i+1=>by
  have ih:=redT_D hD h hM hx hxd i
  have hd:x.2.length=z:=by rw [hxd];exact hD.1 _ hx
  obtain ⟨l1,l2⟩:=redT_len h hx hd i
  rw [redT]
  cases ho:M.getD i none with
  | none=>exact ih
  | some y =>
   have hy:=mem_of_get? (getD_some ho)
   show (if at_ (redT M x i).1 i=true then addL (redT M x i) y else redT M x i).2=D (if at_ (redT M x i).1 i=true then addL (redT M x i) y else redT M x i).1
   split
   ·show xorL (redT M x i).2 y.2=D (xorV (redT M x i).1 y.1)
    rw [hD.2 _ _ l1 (h.ok y hy).1,ih,hM y hy]
   ·exact ih
theorem addF_D {n z:Nat} {D:List Bool→List (BitVec 8)} (hD:Lin n z D) {M:List (Option LN)} (h:RR n z M) (hM:DOk D M) {v:List Bool} (hv:v.length=n):DOk D (addF M (v,D v)):=by
 rcases add_cases h (v:=(v,D v)) hv (hD.1 v hv) with e|⟨a,e,hf,_,_⟩
 ·rw [addF_old e];exact hM
 ·rw [addF_new e]
  obtain ⟨l1,l2⟩:=redT_len h.lok (x:=(v,D v)) hv (hD.1 v hv) M.length
  have l1:(red M (v,D v)).1.length=n:=l1
  have hx:(red M (v,D v)).2=D (red M (v,D v)).1:=redT_D hD h.lok hM (x:=(v,D v)) hv rfl M.length
  intro y hy
  obtain ⟨i,hi⟩:=List.getElem?_of_mem hy
  rcases addM_get (List.getElem?_eq_some_iff.1 hf).1 hi with ⟨_,rfl⟩|⟨_,w,hw,rfl⟩
  ·exact hx
  ·have hwm:=mem_of_get? hw
   split
   ·show xorL w.2 (red M (v,D v)).2=D (xorV w.1 (red M (v,D v)).1)
    rw [hD.2 _ _ (h.lok.ok w hwm).1 l1,hM w hwm,hx]
   ·exact hM w hwm
theorem foldA_D {n z:Nat} {D:List Bool→List (BitVec 8)} (hD:Lin n z D):∀ rs:List (List Bool),(∀ v∈rs,v.length=n)→DOk D (foldA n D rs) :=
 rev_ind (fun _ y hy=>by cases List.eq_of_mem_replicate hy) (fun l a ih h=>by
  rw [foldA_snoc]
  have hl:∀ v∈l,v.length=n:=fun v hv=>h v (by simp [hv])
  exact addF_D hD (foldA_RR hD.1 l hl) (ih hl) (h a (by simp)))
theorem full_some:∀ {M:List (Option LN)},cntS M=M.length→∀ i,i<M.length→∃ y,M[i]?=some (some y)
 | [],_,i,hi=>by cases hi
 | none::M,h,i,hi=>by
  have:=cntS_le M
  simp only [cntS,List.length_cons] at h
  omega
 | some y::M,h,0,hi=>⟨y,rfl⟩
 | some y::M,h,i+1,hi=>by
  simp only [cntS,List.length_cons] at h
  have hi:i+1<M.length+1:=hi
  obtain ⟨u,hu⟩:=full_some (M:=M) (by omega) i (by omega)
  exact ⟨u,by simpa using hu⟩
theorem full_unit {n z:Nat} {M:List (Option LN)} (h:RR n z M) (hc:cntS M=n) {i:Nat} {y:LN} (hy:M[i]?=some (some y)) (k:Nat):at_ y.1 k=decide (k=i):=by
 have hi:i<n:=by rw [←h.lok.len];exact (List.getElem?_eq_some_iff.1 hy).1
 by_cases e:k=i
 ·subst e
  rw [h.fst k y hy];simp
 ·by_cases hk:k<n
  ·obtain ⟨w,hw⟩:=full_some (M:=M) (by rw [hc,h.lok.len]) k (by rw [h.lok.len];exact hk)
   rw [h.piv i k y w hy hw (fun q=>e q.symm)];simp [e]
  ·have:at_ y.1 k=false:=getD_out (by have:=(h.lok.ok y (mem_of_get? hy)).1;omega)
   rw [this];simp [e]
def xsum (g:Nat→BitVec 8):Nat→BitVec 8
 | 0=>0#8
 | n+1=>xsum g n ^^^ g n
def pickB (on:Bool) (x:BitVec 8):BitVec 8:=if on then x else 0#8
theorem xsum_congr {g h:Nat→BitVec 8} {n:Nat} (e:∀ i,i<n→g i=h i):xsum g n=xsum h n:=by
 induction n with
 | zero=>rfl
 | succ n ih=>rw [xsum,xsum,ih (fun i hi=>e i (by omega)),e n (by omega)]
theorem xsum_xor (g h:Nat→BitVec 8) (n:Nat):xsum (fun i=>g i ^^^ h i) n=xsum g n ^^^ xsum h n:=by
 induction n with
 | zero=>simp [xsum]
 | succ n ih =>
  rw [xsum,xsum,xsum,ih]
  rw [BitVec.xor_assoc,BitVec.xor_assoc]
  congr 1
  rw [←BitVec.xor_assoc,←BitVec.xor_assoc,BitVec.xor_comm (xsum h n)]
theorem xsum_zero {g:Nat→BitVec 8} {n:Nat} (e:∀ i,i<n→g i=0#8):xsum g n=0#8:=by
 induction n with
 | zero=>rfl
 | succ n ih=>rw [xsum,ih (fun i hi=>e i (by omega)),e n (by omega)];rfl
theorem xsum_add (g:Nat→BitVec 8) (a b:Nat):xsum g (a+b)=xsum g a ^^^ xsum (fun i=>g (a+i)) b:=by
 induction b with
 | zero=>simp [xsum]
 | succ b ih=>rw [←Nat.add_assoc,xsum,xsum,ih,BitVec.xor_assoc]
theorem xsum_one {g:Nat→BitVec 8} {n j:Nat} (hj:j<n) (e:∀ i,i<n→i≠j→g i=0#8):xsum g n=g j:=by
 induction n with
 | zero=>omega
 | succ n ih =>
  rw [xsum]
  by_cases h:j=n
  ·subst h
   rw [xsum_zero (fun i hi=>e i (by omega) (by omega))];simp
  ·rw [ih (by omega) (fun i hi hne=>e i (by omega) hne),e n (by omega) (fun q=>h q.symm)];simp
def at8 (l:List (List (BitVec 8))) (i k:Nat):BitVec 8:=(l.getD i []).getD k 0#8
def parS (f:Nat→Bool) (l:List (List (BitVec 8))) (z:Nat):List (BitVec 8):=(List.range z).map (fun k=>xsum (fun i=>pickB (f i) (at8 l i k)) l.length)
theorem parS_len (f:Nat→Bool) (l:List (List (BitVec 8))) (z:Nat):(parS f l z).length=z:=by simp [parS]
theorem parS_at (f:Nat→Bool) (l:List (List (BitVec 8))) (z k:Nat) (h:k<z):(parS f l z).getD k 0#8=xsum (fun i=>pickB (f i) (at8 l i k)) l.length:=by
 simp [parS,List.getD_eq_getElem?_getD,h]
theorem row_nothing (K P j:Nat) (hj:j<P) (b:Nat→Bool) (g:Nat→BitVec 8) (hp:g (K+j)=xsum (fun i=>pickB (b i) (g i)) K) :
  xsum (fun i=>pickB ((decide (i<K) && b i) || decide (i=K+j)) (g i)) (K+P)=0#8:=by
 rw [xsum_add,xsum_one (j:=j) hj (fun i hi hne=>?_),xsum_congr (h:=fun i=>pickB (b i) (g i)) (fun i hi=>?_),←hp]
 ·simp [pickB]
 ·have : ¬ i=K+j:=by omega
  simp [hi,this]
 ·have h1 : ¬ (K+i<K):=by omega
  have h2 : ¬ (K+i=K+j):=by omega
  simp [h1,pickB,hne]
open Go.RowKit Go.Proofs
set_option maxHeartbeats 2000000 in
theorem elim_Says (H:List Hl) (bm n z:Nat) (ar:Option Addr) (cr k:Nat) (M:List (Option RD)) (v:VD) (ML:List (Option LN)) (b:Bool) (hM:RdM (stars H) bm n z ar cr k M) (hML:M.map vw=ML) (hv:RdV (stars H) v) (hvn:v.n=n) (hb:decide (0≤firstV (red ML (v.l,List.replicate z 0#8)).1)=b) (ht:TabF (stars H)) :
  Spec Tryz.prog 162 [.pointer (some ⟨bm,0,none⟩),Pv v] H (fun _:Unit=>True) (fun _ => .bool b) (fun _=>H):=by
 refine spec_pure (res:=fun _=>[]) H Tryz.func162 rfl Tryz.ntmps162 (by kernel_rfl) rfl (fun W=>?_)
 have hLk:=hM.ok.vw
 have hvl:v.l.length=n:=by rw [hv.ok.len,hvn]
 rw [hML] at hLk
 obtain ⟨x,hx⟩:∃ x,red ML (v.l,List.replicate z 0#8)=x:=⟨_,rfl⟩
 obtain ⟨hxl,hxd⟩:x.1.length=n∧x.2.length=z:=by rw [←hx];exact redT_len hLk hvl (by simp) _
 rw [hx] at hb
 have l3:=hM.ok.n2
 have hpn:=padD_nil z
 obtain ⟨xl,xd⟩:=x
 dsimp only at hxl hxd hb
 repeat' (first|intro _|refine cw ?_|refine cw2 ?_ ?_|refine o1_pneq rfl rfl ?_|(refine k_fn 197 ?_;(refine o1_call (fun _=>elim_reduced _ bm n z ar cr k M v none 0 0 [] hM.up hv.up hvn (Rs.nil (by decide)) rfl (Nat.zero_le _)) rfl (fun ⟨b7,⟨vb,vn,va,vc,vl⟩,ad7,z7,cd7,d7⟩ hr=>?_);dsimp only at hr ⊢;obtain ⟨rfl,rfl,hr3⟩:=hr;rw [hML,hpn,hx] at hr3;obtain ⟨rfl,rfl⟩:=Prod.mk.inj hr3))|(refine k_fn 198 ?_;refine o1_call (fun hh=>vec_First _ ⟨vb,vn,va,vc,vl⟩ (RdV.own hxl l3 hh) ht.up) rfl (fun _ _=>?_))|(refine k_binOp .geq ?_;refine o1_geq_d rfl rfl ?_)|refine ow ?_|refine ow2 ?_ ?_|fail)
 refine rt_tmp () rfl rfl ?_ trivial ?_
 ·show Value.bool _=Value.bool b
  rw [←hb]
 exact ent
def p0 (seed:BitVec 8) (i:Nat):BitVec 8:=BitVec.ofInt 8 (i:Int)*37#8+seed
def p1 (seed:BitVec 8) (i:Nat):BitVec 8:=BitVec.ofInt 8 (i:Int) ^^^ seed
end Go.Dp
namespace Go.Dp
def mixA (x:BitVec 32):BitVec 32:=(x ^^^ (x >>> 16))*0x7feb352d#32
def mixB (x:BitVec 32):BitVec 32:=(x ^^^ (x >>> 15))*0x846ca68b#32
def mixR (x:BitVec 32):BitVec 32:=mixB (mixA x) ^^^ (mixB (mixA x) >>> 16)
def srcNew (a b:BitVec 32):BitVec 32:=mixR a+b*0x9e3779b9#32+1#32
def nzR (s:BitVec 32):BitVec 32:=if s=0#32 then 1#32 else s
def stepA (x:BitVec 32):BitVec 32:=x ^^^ (x <<< 13)
def stepB (x:BitVec 32):BitVec 32:=x ^^^ (x >>> 17)
def stepC (x:BitVec 32):BitVec 32:=x ^^^ (x <<< 5)
def srcNx (s:BitVec 32):BitVec 32:=stepC (stepB (stepA (nzR s)))
def srcAt (s:BitVec 32):Nat→BitVec 32
 | 0=>s
 | n+1=>srcNx (srcAt s n)
def numR (s:BitVec 32) (n:Nat):BitVec 32:=mixR (srcAt s (n+1))
def oddR (s:BitVec 32) (n:Nat):Bool:=decide ((numR s n &&& 1#32)=1#32)
def parR (sess:BitVec 32) (K j:Nat) (i:Nat):Bool:=(decide (i<K) && oddR (srcNew sess (BitVec.ofNat 32 (2147483648+j))) i) || decide (i=K+j)
def rowR (sess:BitVec 32) (n K j:Nat):List Bool:=(List.range n).map (parR sess K j)
theorem rowR_len (sess:BitVec 32) (n K j:Nat):(rowR sess n K j).length=n:=by simp [rowR]
theorem rowR_at (sess:BitVec 32) (n K j i:Nat) (h:i<n):(rowR sess n K j).getD i false=parR sess K j i:=by simp [rowR,List.getD_eq_getElem?_getD,h]
def rowTill (sess:BitVec 32) (n K j i:Nat):List Bool:=(List.range n).map (fun m=>(decide (m<i) && (decide (m<K) && oddR (srcNew sess (BitVec.ofNat 32 (2147483648+j))) m)) || decide (m=K+j))
theorem rowTill_len (sess:BitVec 32) (n K j i:Nat):(rowTill sess n K j i).length=n:=by simp [rowTill]
theorem rowTill_at (sess:BitVec 32) (n K j i m:Nat) (h:m<n):(rowTill sess n K j i).getD m false=((decide (m<i) && (decide (m<K) && oddR (srcNew sess (BitVec.ofNat 32 (2147483648+j))) m)) || decide (m=K+j)):=by simp [rowTill,List.getD_eq_getElem?_getD,h]
theorem rowTill_all (sess:BitVec 32) (n K j:Nat):rowTill sess n K j K=rowR sess n K j:=by
 refine bits_ext (by simp [rowTill,rowR]) (fun m hm=>?_)
 rw [rowTill_len] at hm
 rw [rowTill_at _ _ _ _ _ _ hm,rowR_at _ _ _ _ _ hm,parR]
 by_cases h:m<K <;> simp [h]
theorem rowTill_zero (sess:BitVec 32) (n K j:Nat) (h:K+j<n):rowTill sess n K j 0=bitsOf n [((K+j:Nat):Int)]:=by
 refine bits_ext (by rw [rowTill_len,bitsOf_len]) (fun m hm=>?_)
 rw [rowTill_len] at hm
 rw [rowTill_at _ _ _ _ _ _ hm,bitsOf_at _ _ _ hm]
 simp only [Nat.not_lt_zero,decide_false,Bool.false_and,Bool.false_or,List.mem_singleton]
 by_cases q:m=K+j
 ·subst q;simp
 ·have : ¬ ((m:Int)=((K+j:Nat):Int)):=by omega
  rw [decide_eq_false q,decide_eq_false this]
theorem rowTill_succ (sess:BitVec 32) (n K j i:Nat) (hi:i<K) (hn:K≤n):rowTill sess n K j (i+1)=(rowTill sess n K j i).set i (oddR (srcNew sess (BitVec.ofNat 32 (2147483648+j))) i):=by
 refine bits_ext (by simp [rowTill]) (fun m hm=>?_)
 rw [rowTill_len] at hm
 rw [atD_set,rowTill_len,rowTill_at _ _ _ _ _ _ hm,rowTill_at _ _ _ _ _ _ hm]
 by_cases q:i=m
 ·subst q
  have h2 : ¬ i=K+j:=by omega
  simp [hi,hm,h2]
 ·rw [if_neg (fun h=>q h.1)]
  by_cases h3:m<i
  ·simp [h3,show m<i+1 by omega]
  ·simp [h3,show ¬ m<i+1 by omega]
open Go.RowKit Go.Proofs
def rtR1_0:List Row:=[⟨some 8,[],[],none⟩,⟨some 9,[0],[0],none⟩,⟨some 10,[1],[0,1],none⟩,⟨some 11,[],[],none⟩,⟨some 12,[3],[3],none⟩,⟨some 13,[],[],none⟩,⟨some 14,[5],[5],none⟩,⟨some 15,[4,6],[3,4,5,6],none⟩,⟨some 16,[7],[3,4,5,6,7],none⟩,⟨some 17,[2,8,4],[0,1,2,3,4,5,6,7,8],none⟩]
theorem xf_load:XFn Tryz.prog 203 (Extern.Atomic.loadT (.int .u32)):=⟨by kernel_rfl,by kernel_rfl⟩
theorem xf_store:XFn Tryz.prog 208 Extern.Atomic.storeT:=⟨by kernel_rfl,by kernel_rfl⟩
theorem xf_cas:XFn Tryz.prog 212 (Extern.Atomic.casT (.int .u32)):=⟨by kernel_rfl,by kernel_rfl⟩
abbrev rB (b:Nat) (s:BitVec 32):Hl := .box b 258 [W4 s]
theorem at_Load (H:List Hl) (b:Nat) (s:BitVec 32) :
  Spec Tryz.prog 188 [.pointer (some ⟨b,0,none⟩)] (rB b s::H) (fun _:Unit=>True) (fun _=>W4 s) (fun _=>rB b s::H):=by
 refine spec_fn (res:=fun _:Unit=>[rB b s]) [rB b s] H Tryz.func188 rfl Tryz.ntmps188 (by kernel_rfl) rfl (fun W=>?_)
 dsimp only [List.cons_append,List.nil_append]
 repeat' (first|intro _|refine cw ?_|refine cw2 ?_ ?_|refine o1_xload xf_load rfl (b:=b) (i:=0) rfl ?_|refine ow ?_|refine ow2 ?_ ?_|fail)
 refine rt_tmp () rfl rfl rfl trivial ?_
 exact ent
theorem at_Store (H:List Hl) (b:Nat) (s x:BitVec 32) :
  Spec Tryz.prog 179 [.pointer (some ⟨b,0,none⟩),W4 x] (rB b s::H) (fun _:Unit=>True) (fun _ => .tuple #[]) (fun _=>rB b x::H):=by
 refine spec_fn (res:=fun _:Unit=>[rB b x]) [rB b s] H Tryz.func179 rfl Tryz.ntmps179 (by kernel_rfl) rfl (fun W=>?_)
 dsimp only [List.cons_append,List.nil_append]
 repeat' (first|intro _|refine cw ?_|refine cw2 ?_ ?_|refine o1_xstore xf_store rfl (b:=b) (i:=0) (by simp) ?_|refine ow ?_|refine ow2 ?_ ?_|fail)
 refine rt_none () rfl rfl trivial ?_
 exact ent
theorem nzR_eq (s:BitVec 32):(s=0#32∧nzR s=1#32)∨(¬ (s.toNat:Int)=0∧s≠0#32∧nzR s=s):=by
 by_cases h:s=0#32
 ·exact .inl ⟨h,by simp [nzR,h]⟩
 ·refine .inr ⟨fun e=>h (BitVec.eq_of_toNat_eq ?_),h,by simp [nzR,h]⟩
  simp;omega
theorem at_CAS (H:List Hl) (b:Nat) (s:BitVec 32) :
  Spec Tryz.prog 187 [.pointer (some ⟨b,0,none⟩),.int .u32 0,.int .u32 1] (rB b s::H) (fun _:Unit=>True) (fun _ => .bool (decide (s=0#32))) (fun _=>rB b (nzR s)::H):=by
 refine spec_fn (res:=fun _:Unit=>[rB b (nzR s)]) [rB b s] H Tryz.func187 rfl Tryz.ntmps187 (by kernel_rfl) rfl (fun W=>?_)
 dsimp only [List.cons_append,List.nil_append]
 rcases nzR_eq s with ⟨h,e⟩|⟨h,h2,e⟩
 ·rw [e]
  subst h
  repeat' (first|intro _|refine cw ?_|refine cw2 ?_ ?_|refine o1_xcas_t xf_cas rfl (b:=b) (i:=0) rfl ?_|refine ow ?_|refine ow2 ?_ ?_|fail)
  refine rt_tmp () rfl rfl rfl trivial ?_
  exact ent
 ·rw [e]
  repeat' (first|intro _|refine cw ?_|refine cw2 ?_ ?_|refine o1_xcas_f xf_cas rfl (b:=b) (i:=0) rfl h ?_|refine ow ?_|refine ow2 ?_ ?_|fail)
  refine rt_tmp () rfl rfl (by simp [h2]) trivial ?_
  exact ent
theorem rand_mix (H:List Hl) (x:BitVec 32) :
  Spec Tryz.prog 180 [W4 x] H (fun _:Unit=>True) (fun _=>W4 (mixR x)) (fun _=>H):=by
 refine spec_pure (res:=fun _=>[]) H Tryz.func180 rfl Tryz.ntmps180 (by kernel_rfl) rfl (fun W=>?_)
 have k1:∀ x:BitVec 32,(x ^^^ (x >>> (16:Int).toNat))*0x7feb352d#32=mixA x:=fun _=>rfl
 have k2:∀ x:BitVec 32,(x ^^^ (x >>> (15:Int).toNat))*0x846ca68b#32=mixB x:=fun _=>rfl
 have k3:mixB (mixA x) ^^^ (mixB (mixA x) >>> (16:Int).toNat)=mixR x:=rfl
 repeat' (first|intro _|refine cw ?_|refine cw2 ?_ ?_|(refine k_binOp .mul ?_;first|(refine o1_umul (v:=0x7feb352d#32) rfl rfl ?_;rw [k1])|(refine o1_umul (v:=0x846ca68b#32) rfl rfl ?_;rw [k2]))|(refine k_binOp .xor ?_;(refine o1_uxor rfl rfl ?_;rw [k3]))|refine ow ?_|refine ow2 ?_ ?_|fail)
 refine rt_tmp () rfl rfl rfl trivial ?_
 exact ent
theorem rand_New (H:List Hl) (a c:BitVec 32) :
  Spec Tryz.prog 137 [W4 a,W4 c] H (fun _:Nat=>True) (fun b => .pointer (some ⟨b,0,none⟩)) (fun b=>rB b (srcNew a c)::H):=by
 refine spec_pure (res:=fun b:Nat=>[rB b (srcNew a c)]) H Tryz.func137 rfl Tryz.ntmps137 (by kernel_rfl) rfl (fun W=>?_)
 repeat' (first|intro _|refine cw ?_|refine cw2 ?_ ?_|(refine k_box ?_;refine o1_box rfl rfl (fun b1=>?_))|refine ow ?_|refine ow2 ?_ ?_|fail)
 refine st_stages' [(5,_),(0,_),(1,_)] rtR1_0 [9] [⟨[0,1,2,3,4,5,6,7,8],[],some 9⟩,⟨[],[],none⟩] mixed cv (by kernel_rfl) (by kernel_rfl) ?_
 repeat' (first|intro _|refine sg ?_|(refine p_fn 180 ?_;refine po (by first|refine o1_call (fun _=>rand_mix _ a) rfl (fun _ _=>fz)|fail) ?_)|(refine p_binOp .mul ?_;refine po (by first|refine o1_umul (v:=0x9e3779b9#32) rfl rfl fz|fail) ?_)|(refine p_binOp .add ?_;refine po (by first|refine o1_uadd (v:=1#32) rfl rfl fz|fail) ?_)|refine pw ?_|refine pdd ?_|(refine k_fn 179 ?_;refine o1_call_box (b:=b1) (fun _=>at_Store _ b1 0#32 (mixR a+c*0x9e3779b9#32+1#32)) rfl (fun _ _=>?_))|refine ow ?_|fail)
 all_goals dsimp only [List.cons_append,List.nil_append]
 repeat' (first|intro _|refine cw ?_|refine cw2 ?_ ?_|refine ow ?_|refine ow2 ?_ ?_|fail)
 refine rt_tmp b1 rfl rfl rfl trivial ?_
 exact ent
theorem rand_Next (H:List Hl) (b:Nat) (s:BitVec 32) :
  Spec Tryz.prog 141 [.pointer (some ⟨b,0,none⟩)] (rB b s::H) (fun _:Unit=>True) (fun _=>W4 (mixR (srcNx s))) (fun _=>rB b (srcNx s)::H):=by
 refine spec_fn (res:=fun _:Unit=>[rB b (srcNx s)]) [rB b s] H Tryz.func141 rfl Tryz.ntmps141 (by kernel_rfl) rfl (fun W=>?_)
 dsimp only [List.cons_append,List.nil_append]
 have k1:∀ x:BitVec 32,x ^^^ (x <<< (13:Int).toNat)=stepA x:=fun _=>rfl
 have k2:∀ x:BitVec 32,x ^^^ (x >>> (17:Int).toNat)=stepB x:=fun _=>rfl
 have k3:∀ x:BitVec 32,x ^^^ (x <<< (5:Int).toNat)=stepC x:=fun _=>rfl
 have k4:stepC (stepB (stepA (nzR s)))=srcNx s:=rfl
 repeat' (first|intro _|refine cw ?_|refine cw2 ?_ ?_|refine o1_peql rfl rfl ?_|(refine k_fn 187 ?_;refine o1_call_box (b:=b) (fun _=>at_CAS _ b s) rfl (fun _ _=>?_))|(refine k_fn 188 ?_;refine o1_call_box (b:=b) (fun _=>at_Load _ b (nzR s)) rfl (fun _ _=>?_))|(refine k_binOp .xor ?_;first|(refine o1_uxor rfl rfl ?_;rw [k1])|(refine o1_uxor rfl rfl ?_;rw [k2])|(refine o1_uxor rfl rfl ?_;rw [k3,k4]))|(refine k_fn 179 ?_;refine o1_call_box (b:=b) (fun _=>at_Store _ b (nzR s) (srcNx s)) rfl (fun _ _=>?_))|(refine k_fn 180 ?_;refine o1_call (fun _=>rand_mix _ (srcNx s)) rfl (fun _ _=>?_))|refine ow ?_|refine ow2 ?_ ?_|fail)
 refine rt_tmp () rfl rfl rfl trivial ?_
 exact ent
abbrev parV (s:BitVec 32) (k p z:Int):Value := .agg #[W4 s,I k,I p,I z]
theorem spread_Pieces (H:List Hl) (s:BitVec 32) (k p z:Int):Spec Tryz.prog 135 [parV s k p z] H (fun _:Unit=>True) (fun _=>I (if mayP k p z=true then k+p else 0)) (fun _=>H):=by
 refine spec_pure (res:=fun _=>[]) H Tryz.func135 rfl Tryz.ntmps135 (by kernel_rfl) rfl (fun W=>?_)
 cases hm:mayP k p z
 ·repeat' (first|intro _|refine cw ?_|refine cw2 ?_ ?_|(refine k_fn 106 ?_;refine o1_call (fun _=>(spread_May _ _ _ _ _).bv (b:=false) hm) rfl (fun _ _=>?_))|refine ow ?_|refine ow2 ?_ ?_|fail)
  refine rt_tmp () rfl rfl rfl trivial ?_
  exact ent
 ·have hb:1≤k∧k≤64∧0≤p∧p≤16∧1≤z∧z≤16:=by simpa [mayP] using hm
  repeat' (first|intro _|refine cw ?_|refine cw2 ?_ ?_|(refine k_fn 106 ?_;refine o1_call (fun _=>(spread_May _ _ _ _ _).bv (b:=true) hm) rfl (fun _ _=>?_))|refine ow ?_|refine ow2 ?_ ?_|fail)
  refine rt_tmp () rfl rfl rfl trivial ?_
  exact ent
theorem odd_of (x:BitVec 32):decide (((x &&& 1#32).toNat:Int)=1)=decide (x &&& 1#32=1#32):=by
 by_cases h:x &&& 1#32=1#32
 ·simp [h]
 ·have : ¬ (((x &&& 1#32).toNat:Int)=1):=fun e=>h (BitVec.eq_of_toNat_eq (by simp only [BitVec.toNat_ofNat];omega))
  rw [decide_eq_false this,decide_eq_false h]
theorem apart_of (j:Nat):BitVec.ofInt 32 (2147483648+(j:Int))=BitVec.ofNat 32 (2147483648+j):=by
 apply BitVec.eq_of_toNat_eq
 simp only [BitVec.toNat_ofInt,BitVec.toNat_ofNat]
 omega
def rowsL (s:BitVec 32) (K P:Nat):List (List Bool):=(List.range P).map (rowR s (K+P) K)
set_option maxHeartbeats 2000000 in
theorem precode_Rows (H:List Hl) (s:BitVec 32) (K P:Nat) (z:Int) (hm:mayP K P z=true) :
  Spec Tryz.prog 176 [parV s K P z] H (fun r:Option Addr × Nat × List VD=>r.2.2.map (·.l)=rowsL s K P∧∀ v∈r.2.2,v.ok∧v.n=K+P) (fun r => .slice r.1 r.2.2.length r.2.1)
   (fun r => .row 148 1 (.slice r.1 r.2.2.length r.2.1) r.2.2.length (r.2.2.map Pv) :: .any (vecs r.2.2)::H):=by
 refine spec_pure (res:=fun r:Option Addr × Nat × List VD=>[.row 148 1 (.slice r.1 r.2.2.length r.2.1) r.2.2.length (r.2.2.map Pv),.any (vecs r.2.2)]) H Tryz.func176 rfl Tryz.ntmps176 (by kernel_rfl) rfl (fun W=>?_)
 have hb:1≤(K:Int)∧(K:Int)≤64∧0≤(P:Int)∧(P:Int)≤16∧1≤z∧z≤16:=by simpa [mayP] using hm
 obtain ⟨b1,b2,b3,b4,b5,b6⟩:=hb
 have hnv:((K:Int)+P)=((K+P:Nat):Int):=by push_cast;rfl
 repeat' (first|intro _|refine cw ?_|refine cw2 ?_ ?_|(refine k_box ?_;refine o1_box rfl rfl (fun bp=>?_))|(refine k_fn 135 ?_;refine o1_call (fun _=>(spread_Pieces _ _ _ _ _).vv (b:=I (K+P:Nat)) (by rw [if_pos hm,hnv])) rfl (fun _ _=>?_))|refine ow ?_|refine ow2 ?_ ?_|fail)
 refine st_ent (ent_nil 148 Pv) (st_ent (fun h hh=>sel_swap h (vecs_nil h hh)) ?_)
 refine st_loop (S:=Nat × Option Addr × Nat × List VD) (fun q=>[(1,.pointer (some ⟨bp,0,none⟩)),(3,I (K+P:Nat)),(4,.slice q.2.1 q.2.2.2.length q.2.2.1),(14,I P),(15,I q.1)])
  (fun q=>[.row 148 1 (.slice q.2.1 q.2.2.2.length q.2.2.1) q.2.2.2.length (q.2.2.2.map Pv),.any (vecs q.2.2.2),.box bp 91 [W4 s,I K,I P,I z],.any (stars H)])
  (fun q=>q.1≤P∧q.2.2.2.map (·.l)=(List.range q.1).map (rowR s (K+P) K)∧∀ v∈q.2.2.2,v.ok∧v.n=K+P) (fun q=>P - q.1) (0,none,0,[]) ⟨by omega,rfl,by simp⟩
  cv ent ?_
 rintro ⟨j,a1,c1,vs⟩ ⟨hj,hvs,hok⟩
 dsimp only at hj hvs hok ⊢
 have hlen:vs.length=j:=by have:=congrArg List.length hvs;simpa using this
 by_cases hlt:j<P
 ·have e1:((K:Int)+j)=((K+j:Nat):Int):=by push_cast;rfl
  repeat' (first|intro _|refine cw ?_|refine cw2 ?_ ?_|(refine k_binOp .add ?_;(refine o1_add rfl rfl (by omega) ?_;rw [e1]))|(refine k_buildSlice ?_;refine o1_lit_enc I [((K+j:Nat):Int)] rfl rfl rfl (fun _=>rfl) rfl rfl rfl (fun b3=>?_))|(refine k_fn 136 ?_;(refine o1_call (fun hh=>vec_Of _ (K+P) (some ⟨b3,0,none⟩) 1 [((K+j:Nat):Int)] (by omega) (rx_box (T:=3) rfl (by decide) hh)) rfl (fun ⟨b4,a4,c4⟩ _=>?_);dsimp only;rw [←rowTill_zero s (K+P) K j (by omega)]))|(refine k_fn 137 ?_;refine o1_call (fun _=>rand_New _ s (BitVec.ofInt 32 (2147483648+(j:Int)))) rfl (fun b7 _=>?_))|refine ow ?_|refine ow2 ?_ ?_|fail)
  rw [apart_of]
  obtain ⟨s0,hs0⟩:∃ s0,srcNew s (BitVec.ofNat 32 (2147483648+j))=s0:=⟨_,rfl⟩
  rw [hs0]
  refine st_loop (S:=Nat) (fun i=>[(1,.pointer (some ⟨bp,0,none⟩)),(3,I (K+P:Nat)),(4,.slice a1 vs.length c1),(5,I j),(6,.pointer (some ⟨b4,0,none⟩)),(7,.pointer (some ⟨b7,0,none⟩)),(14,I P),(15,I j),(32,I K),(33,I i)])
   (fun i=>[vB b4 (K+P) a4 c4,vR (K+P) a4 c4 (rowTill s (K+P) K j i),rB b7 (srcAt s0 i),.row 148 1 (.slice a1 vs.length c1) vs.length (vs.map Pv),.any (vecs vs),.box bp 91 [W4 s,I K,I P,I z],.any (stars H)]) (fun i=>i≤K) (fun i=>K - i) 0 (Nat.zero_le _)
   cv (by show Ent _ [vB b4 (K+P) a4 c4,vR (K+P) a4 c4 (rowTill s (K+P) K j 0),rB b7 s0,.row 148 1 (.slice a1 vs.length c1) vs.length (vs.map Pv),.any (vecs vs),.box bp 91 [W4 s,I K,I P,I z],.any (stars H)];exact ent) ?_
  intro i hi
  by_cases hit:i<K
  ·have e2:setB (rowTill s (K+P) K j i) i (decide (((mixR (srcNx (srcAt s0 i)) &&& 1#32).toNat:Int)=1))=rowTill s (K+P) K j (i+1):=by
    rw [setB_nat _ _ _ (by rw [rowTill_len];omega),rowTill_succ _ _ _ _ _ hit (by omega),odd_of,hs0];rfl
   have e3:srcNx (srcAt s0 i)=srcAt s0 (i+1):=rfl
   repeat' (first|intro _|refine cw ?_|refine cw2 ?_ ?_|(refine k_fn 141 ?_;refine o1_call_box (b:=b7) (fun _=>rand_Next _ b7 (srcAt s0 i)) rfl (fun _ _=>?_))|(refine k_binOp .and ?_;refine o1_uand (v:=1#32) rfl rfl ?_)|(refine k_binOp .eql ?_;refine o1_eql_d rfl rfl ?_)|(refine k_fn 178 ?_;(refine o1_call_br b4 a4 c4 (fun _=>vec_Set _ b4 (K+P) a4 c4 (rowTill s (K+P) K j i) i (decide (((mixR (srcNx (srcAt s0 i)) &&& 1#32).toNat:Int)=1)) (rowTill_len _ _ _ _ _) (by omega)) rfl (fun _ _=>?_);rw [e2,e3]))|refine ow ?_|refine ow2 ?_ ?_|fail)
   refine nx_again (i+1) (by omega) (by omega) cv ?_
   exact ent
  ·have:i=K:=by omega
   subst this
   rw [rowTill_all]
   obtain ⟨v,hv⟩:∃ v:VD,v=⟨b4,i+P,a4,c4,rowR s (i+P) i j⟩:=⟨_,rfl⟩
   have hvl:v.l=rowR s (i+P) i j:=by rw [hv]
   have hvn:v.n=i+P:=by rw [hv]
   have hvk:v.ok:=⟨by rw [hvl,hvn,rowR_len],by rw [hvn];omega⟩
   have hvp:Pv v = .pointer (some ⟨b4,0,none⟩):=by rw [hv]
   repeat' (first|intro _|refine cw ?_|refine cw2 ?_ ?_|(refine k_buildSlice ?_;refine o1_lit_enc Pv [v] rfl rfl (by rw [hv];rfl) (fun _=>rfl) rfl rfl rfl (fun b8=>?_))|(refine k_call ?_;refine ox_append (xs:=vs) (ys:=[v]) rfl rfl (rx_box rfl (by decide)) rfl rfl (fun _=>rfl) (by omega) (by omega) (fun a9 c9=>?_))|refine ow ?_|refine ow2 ?_ ?_|fail)
   refine nx_vec (vs:=vs) v (R:=[.row 148 1 (.slice a9 (vs.length+1) c9) (vs.length+1) ((vs++[v]).map Pv),.box bp 91 [W4 s,I i,I P,I z],.any (stars H)]) (by rw [hv];exact ent) ?_
   refine nx_again (j+1,a9,c9,vs++[v]) ⟨?_,?_,?_⟩ ?_ (cov_cons rfl rfl (cov_cons rfl rfl (cov_cons rfl ?_ cv))) ?_
   ·show j+1≤P;omega
   ·show (vs++[v]).map (·.l)=_
    rw [List.map_append,hvs,List.range_succ,List.map_append]
    simp [hvl]
   ·intro u hu
    rcases List.mem_append.1 hu with hu|hu
    ·exact hok u hu
    ·obtain rfl:u=v:=by simpa using hu
     exact ⟨hvk,hvn⟩
   ·show P - (j+1)<P - j;omega
   ·show Value.slice a9 _ c9=Value.slice a9 (vs++[v]).length c9
    rw [List.length_append];rfl
   ·show Ent _ [.row 148 1 (.slice a9 (vs++[v]).length c9) (vs++[v]).length ((vs++[v]).map Pv),.any (vecs (vs++[v])),.box bp 91 [W4 s,I i,I P,I z],.any (stars H)]
    rw [List.length_append,List.length_singleton]
    exact ent
 ·have:j=P:=by omega
  subst this
  repeat' (first|intro _|refine cw ?_|refine cw2 ?_ ?_|refine ow ?_|refine ow2 ?_ ?_|fail)
  refine rt_tmp (a1,c1,vs) rfl rfl rfl ⟨hvs,hok⟩ ?_
  exact ent
end Go.Dp
