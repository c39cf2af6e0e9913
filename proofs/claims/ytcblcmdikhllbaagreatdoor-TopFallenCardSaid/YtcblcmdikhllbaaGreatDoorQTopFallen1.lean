/-
  device: a device whatever its memory is; Power without a session; Running, State, walked.
  device: Power with a session; its flash's fuse; State, walked.
  downpourtop: the last piece, whatever power does; the power on again; TopFallen, walked.
  Conditions: those that stand in each theorem.
-/
import Derived.Test.YtcblcmdikhllbaaGreatDoorQTopSwitch0
import Derived.Test.YtcblcmdikhllbaaGreatDoorQTopSwitch1
import Derived.Test.YtcblcmdikhllbaaGreatDoorQTopSwitch10
import Derived.Test.YtcblcmdikhllbaaGreatDoorQTopSwitch11
import Derived.Test.YtcblcmdikhllbaaGreatDoorQTopSwitch12
import Derived.Test.YtcblcmdikhllbaaGreatDoorQTopSwitch13
import Derived.Test.YtcblcmdikhllbaaGreatDoorQTopSwitch14
import Derived.Test.YtcblcmdikhllbaaGreatDoorQTopSwitch15
import Derived.Test.YtcblcmdikhllbaaGreatDoorQTopSwitch16
import Derived.Test.YtcblcmdikhllbaaGreatDoorQTopSwitch17
import Derived.Test.YtcblcmdikhllbaaGreatDoorQTopSwitch2
import Derived.Test.YtcblcmdikhllbaaGreatDoorQTopSwitch3
import Derived.Test.YtcblcmdikhllbaaGreatDoorQTopSwitch4
import Derived.Test.YtcblcmdikhllbaaGreatDoorQTopSwitch5
import Derived.Test.YtcblcmdikhllbaaGreatDoorQTopSwitch6
import Derived.Test.YtcblcmdikhllbaaGreatDoorQTopSwitch7
import Derived.Test.YtcblcmdikhllbaaGreatDoorQTopSwitch8
import Derived.Test.YtcblcmdikhllbaaGreatDoorQTopSwitch9
import Derived.Test.YtcblcmdikhllbaaGreatDoorQTopFallen0
set_option linter.unusedVariables false
set_option linter.unusedSimpArgs false
namespace Go.Dp
open Go.RowKit Go.Proofs Sha
theorem Spec.pre {P:Program} {f:FuncId} {args:List Value} {H H':List Hl} {X:Type} {good:X→Prop} {val:X→Value} {res:X→List Hl} (h:Spec P f args H' good val res) (g:∀ x,stars H x→stars H' x):Spec P f args H good val res :=
 ⟨h.enters,fun w hs=>h.calls w (hs.mono g)⟩
theorem Spec.to {P:Program} {f:FuncId} {args:List Value} {H:List Hl} {X Y:Type} {good:X→Prop} {val:X→Value} {res:X→List Hl} {good':Y→Prop} {val':Y→Value} {res':Y→List Hl} (h:Spec P f args H good val res) (g:∀ x,good x→∃ y,good' y∧val x=val' y∧∀ hp,stars (res x) hp→stars (res' y) hp):Spec P f args H good' val' res' :=
 ⟨h.enters,fun w hs=>(h.calls w hs).mono fun e w' ⟨x,hg,he,hx,hsat⟩=>by
  obtain ⟨y,hy,hv,hE⟩:=g x hg
  exact ⟨y,hy,hv ▸ he,hx,hsat.mono hE⟩⟩
def dvP (key:List (BitVec 8)) (f:Fl) (db:Nat):Hp→Prop:=Som (fun q:Lay × Option Addr=>DvK key f q.1) (fun q=>[dvA db key q.1 q.2,flA f q.1,frA f q.1,.any q.1.A])
theorem dvP_of {key:List (BitVec 8)} {f:Fl} {db:Nat} {R:List Hl} (l:Lay) (mp:Option Addr) (hl:DvK key f l):∀ x,stars (dvA db key l mp::flA f l::frA f l :: .any l.A::R) x→stars (.any (dvP key f db)::R) x:=fun x hx =>
 som_of (p:=fun q:Lay × Option Addr=>DvK key f q.1) (L:=fun q=>[dvA db key q.1 q.2,flA f q.1,frA f q.1,.any q.1.A]) (l,mp) hl x hx
theorem dvO_P {key:List (BitVec 8)} {f:Fl} {db:Nat} {R:List Hl}:∀ x,stars (.any (dvO key f db)::R) x→stars (.any (dvP key f db)::R) x:=fun x hx=>by
 obtain ⟨l,hl,hy⟩:=som_out hx
 exact dvP_of l none hl x hy
theorem dvI_P {key:List (BitVec 8)} {f:Fl} {s:StD} {db:Nat} {R:List Hl}:∀ x,stars (.any (dvI key f s db)::R) x→stars (.any (dvP key f db)::R) x:=fun x hx=>by
 obtain ⟨l,hl,hy⟩:=som_out hx
 have hz:stars ([meB l.mb l.x none,.any l.A]++(dvA db key l (pM l.mb)::flA f l::frA f l::R)) x:=Ent.out (by
  dsimp only [List.cons_append,List.nil_append]
  exact ent) x hy
 refine dvP_of ⟨l.fb,l.ad,l.c,l.h,l.mb,l.sb,l.ka,l.kc,l.x,stars [meB l.mb l.x none,.any l.A]⟩ (pM l.mb) ⟨hl.fl,rs_gr hl.key Gr.of⟩ x (Ent.out ent x (ent_pack _ _ x hz))
theorem dv_met_I (H:List Hl) (db:Nat) (key:List (BitVec 8)) (f:Fl) (s:StD) (e:Int) (he:e≠11) :
  Spec Tryz.prog 35 [.pointer (some ⟨db,0,none⟩),I e] (.any (dvI key f s db)::H) (fun _:Unit=>True) (fun _=>I e) (fun _ => .any (dvI key f s db)::H) :=
 Spec.som (by kernel_rfl) (fun l hl=>(dv_met (meB l.mb l.x none::flA f l::frA f l :: .any l.A::H) db l.fb l.ka key.length l.kc (pM l.mb) e he).imp (fun _ _ hp hx=>som_of (p:=DvX key f s) (L:=fun l=>[dvA db key l (pM l.mb),meB l.mb l.x none,flA f l,frA f l,.any l.A]) l hl hp hx))
set_option maxHeartbeats 8000000 in
theorem dv_starts_I (H:List Hl) (db:Nat) (key:List (BitVec 8)) (f:Fl) (s:StD) (k:BitVec 32) (w:Nat) (hf:foundC f.bs=some ((k,s.by),w)) (hm:s.may=true) (hn:nf s=s) (ho:s.on=false) (hd:f.pw.isDown=false) :
  Spec Tryz.prog 51 [.pointer (some ⟨db,0,none⟩)] (.any (dvP key f db)::H) (fun _:Unit=>True) (fun _=>I 0) (fun _ => .any (dvI key f s db)::H):=by
 refine Spec.som (by kernel_rfl) (fun ⟨⟨fb,ad,c,h,mb0,sb,ka,kc,x0,A⟩,mp⟩ hl0=>?_)
 obtain ⟨hk,hkey⟩:=hl0
 dsimp only at hk hkey
 show Spec _ _ _ ([dvB db fb ka key.length kc mp,fB fb ad c f h,fR ad c f,.any A]++H) _ _ _
 refine spec_fn (res:=fun _:Unit=>[.any (dvI key f s db)]) [dvB db fb ka key.length kc mp,fB fb ad c f h,fR ad c f,.any A] H Tryz.func51 rfl Tryz.ntmps51 (by kernel_rfl) rfl (fun W=>?_)
 dsimp only [List.cons_append,List.nil_append]
 have hbl:=hk.bs
 have hp:prs s.by=(s,0):=by rw [prs_by hm];exact congrArg (·,0) hn
 obtain ⟨q,hq⟩:∃ q,s.by=q:=⟨_,rfl⟩
 rw [hq] at hf hp
 obtain ⟨Z,hZ⟩:∃ Z,(seg f.bs (w*256) 256).take (q.length+6)=Z:=⟨_,rfl⟩
 have hmk:=(copyAt_drop (foundC_copy hf).1).1
 rw [hZ] at hmk
 have hZl:Z.length=q.length+6:=by
  have h245:=(copyAt_drop (foundC_copy hf).1).2
  have hw2:=(foundC_copy hf).2
  rw [←hZ,List.length_take,seg_len (by omega)]
  omega
 repeat' (first|intro _|refine cw ?_|refine cw2 ?_ ?_|(refine k_load ?_;first|refine ox_load (b:=db) (i:=1) rfl rfl ?_|(refine ox_load (b:=b5) (i:=10) rfl rfl ?_;rw [ho]))|(refine k_fn 46 ?_;(refine o1_call (fun hh=>cl_Read _ fb ad c f k q Z w (RdFl.own hk hh) hd hf hZ) rfl (fun ⟨a21,c21⟩ _=>?_);(try dsimp only)))|(refine k_fn 47 ?_;(refine o1_call (fun hh=>st_Parse _ (cutA a21 c21 6) (c21 - 6) q (rx_cutl (T:=5) (ad:=a21) (c:=c21) (n:=q.length+6) (l:=Z) (enc:=B) 6 (by omega) hmk hh) (s,0) hp) rfl (fun ⟨r0,r1,r2⟩ _=>?_);dsimp only [StD.V,StD.c,SlotD.V,SlotD.c,copyS]))|(refine k_alloc ?_;refine o1_alloc rfl (fun b5=>?_))|(refine k_fn 75 ?_;refine o1_call_box (b:=db) (fun _=>dv_opens_off _ db fb ka key.length kc mp (copyS s r0 r1 r2) ho) rfl (fun mb _=>?_))|refine ow ?_|refine ow2 ?_ ?_|fail)
 refine rt_pack [rowL r0 s.s0.h.l,rowL r1 s.s1.h.l,rowL r2 s.m.h.l,.any A] [dvB db fb ka key.length kc (pM mb),meB mb (copyS s r0 r1 r2) none,fB fb ad c f h,fR ad c f,.any (stars H)] ent ?_
 refine rt_has (fun hh=>?_)
 have hA:=has_any hh
 refine rt_dvI (l:=⟨fb,ad,c,h,mb,sb,ka,kc,copyS s r0 r1 r2,stars [rowL r0 s.s0.h.l,rowL r1 s.s1.h.l,rowL r2 s.m.h.l,.any A]⟩) (R:=[.any (stars H)]) ⟨hk,rs_gr hkey Gr.of,⟨rx_row (T:=5) (ad:=r0.1) (c:=r0.2) (l:=s.s0.h.l) hA,rx_row (T:=5) (ad:=r1.1) (c:=r1.2) (l:=s.s1.h.l) hA,rx_row (T:=5) (ad:=r2.1) (c:=r2.2) (l:=s.m.h.l) hA⟩,hn⟩ ent ?_
 refine rt_tmp () rfl rfl rfl trivial ?_
 exact ent
set_option maxHeartbeats 8000000 in
theorem dv_Power (H:List Hl) (db:Nat) (key:List (BitVec 8)) (f:Fl) (D:Hp→Prop) (hst:Spec Tryz.prog 51 [.pointer (some ⟨db,0,none⟩)] (.any (dvP key (startF f) db)::[.any (stars H)]) (fun _:Unit=>True) (fun _=>I 0) (fun _ => .any D::[.any (stars H)]))
  (hmet:Spec Tryz.prog 35 [.pointer (some ⟨db,0,none⟩),I 0] (.any D::[.any (stars H)]) (fun _:Unit=>True) (fun _=>I 0) (fun _ => .any D::[.any (stars H)])) :
  Spec Tryz.prog 20 [.pointer (some ⟨db,0,none⟩)] (.any (dvP key f db)::H) (fun _:Unit=>True) (fun _=>I 0) (fun _ => .any D::H):=by
 refine Spec.som (by kernel_rfl) (fun ⟨⟨fb,ad,c,h,mb0,sb,ka,kc,x0,A⟩,mp⟩ hl0=>?_)
 obtain ⟨hk,hkey⟩:=hl0
 dsimp only at hk hkey
 show Spec _ _ _ ([dvB db fb ka key.length kc mp,fB fb ad c f h,fR ad c f,.any A]++H) _ _ _
 refine spec_fn (res:=fun _:Unit=>[.any D]) [dvB db fb ka key.length kc mp,fB fb ad c f h,fR ad c f,.any A] H Tryz.func20 rfl Tryz.ntmps20 (by kernel_rfl) rfl (fun W=>?_)
 dsimp only [List.cons_append,List.nil_append]
 repeat' (first|intro _|refine cw ?_|refine cw2 ?_ ?_|refine o1_peql rfl rfl ?_|refine o1_call_to (.any (dvP key (startF f) db)::[.any (stars H)]) (fun x hx=>dvP_of ⟨fb,ad,c,h1,mb0,sb,ka,kc,x0,A⟩ none ⟨hk1,hkey⟩ x (Ent.out ent x hx)) (fun _=>hst) rfl (fun _ _=>?_)|refine o1_call (fun _=>hmet) rfl (fun _ _=>?_)|(refine k_load ?_;refine ox_load (b:=db) (i:=1) rfl rfl ?_)|(refine k_fn 49 ?_;refine o1_call_box (b:=fb) (fun _=>fl_Start _ fb ad c f h hk) rfl (fun h1 hk1=>?_))|(refine k_fn 50 ?_;refine o1_call_box (b:=db) (fun _=>dv_Store_nil _ db fb ka key.length kc mp) rfl (fun _ _=>?_))|refine ow ?_|refine ow2 ?_ ?_|fail)
 refine rt_tmp () rfl rfl rfl trivial ?_
 exact ent
theorem dv_Power_I (H:List Hl) (db:Nat) (key:List (BitVec 8)) (f:Fl) (s:StD) (k:BitVec 32) (w:Nat) (hf:foundC f.bs=some ((k,s.by),w)) (hm:s.may=true) (hn:nf s=s) (ho:s.on=false) (hd:(startF f).pw.isDown=false) :
  Spec Tryz.prog 20 [.pointer (some ⟨db,0,none⟩)] (.any (dvP key f db)::H) (fun _:Unit=>True) (fun _=>I 0) (fun _ => .any (dvI key (startF f) s db)::H) :=
 dv_Power H db key f _ (dv_starts_I _ db key (startF f) s k w hf hm hn ho hd) (dv_met_I _ db key (startF f) s 0 (by decide))
theorem dv_Running_P (H:List Hl) (db:Nat) (key:List (BitVec 8)) (f:Fl) (s n:Nat) (hR:Runs f s n) :
  Spec Tryz.prog 16 [.pointer (some ⟨db,0,none⟩)] (.any (dvP key f db)::H) (fun _:Option Addr × Nat=>True) (fun r => .slice r.1 n r.2) (fun r => .row 5 1 (.slice r.1 n r.2) n ((seg f.bs (slotA s) n).map B) :: .any (dvP key f db)::H):=by
 refine Spec.som (by kernel_rfl) (fun l hl=>Spec.has (by kernel_rfl) (fun hh=>?_))
 refine (dv_Running _ db l.1.fb l.1.ad l.1.c f s n ?_ ?_ hR).imp (fun r _ hp hx=>sep_mono hx (fun _ a=>a) (som_of (p:=fun q:Lay × Option Addr=>DvK key f q.1) (L:=fun q=>[dvA db key q.1 q.2,flA f q.1,frA f q.1,.any q.1.A]) l hl))
 ·exact cl_box (H:=dvA db key l.1 l.2::flA f l.1::frA f l.1 :: .any l.1.A::H) (b:=db) rfl
 ·exact RdFl.own (H:=dvA db key l.1 l.2::flA f l.1::frA f l.1 :: .any l.1.A::H) hl.fl hh
theorem dv_met_L (H:List Hl) (db:Nat) (key:List (BitVec 8)) (f:Fl) (s:StD) (st:Sto) (e:Int) (he:e≠11) :
  Spec Tryz.prog 35 [.pointer (some ⟨db,0,none⟩),I e] (.any (dvL key f s st db)::H) (fun _:Unit=>True) (fun _=>I e) (fun _ => .any (dvL key f s st db)::H) :=
 Spec.som (by kernel_rfl) (fun l hl=>(dv_met (meB l.mb l.x (some ⟨l.sb,0,none⟩) :: .any (stP st l.fb l.sb)::flA f l::frA f l :: .any l.A::H) db l.fb l.ka key.length l.kc (pM l.mb) e he).imp (fun _ _ hp hx=>som_of (p:=DvX key f s) (L:=fun l=>[dvA db key l (pM l.mb),meB l.mb l.x (some ⟨l.sb,0,none⟩),.any (stP st l.fb l.sb),flA f l,frA f l,.any l.A]) l hl hp hx))
set_option maxHeartbeats 8000000 in
theorem dv_starts_L (H:List Hl) (db:Nat) (key:List (BitVec 8)) (f:Fl) (s:StD) (k:BitVec 32) (w:Nat) (hf:foundC f.bs=some ((k,s.by),w)) (hm:s.may=true) (hn:nf s=s) (ho:s.on=true) (hd:f.pw.isDown=false) (p:Prm) (len:Nat) (V:BitVec 32→List Bool) (hp:IsP s.m p len) (ht:TabF (stars H)) (hV:∀ r∈recsW f.bs s.g p.z 8,SpRow p r.1 (V r.1)) (ST:Sto) (hST:openS p s.g len V f.bs=ST) (hb:cntS ST.d.M≤1000) (hnd:((p.n:Int) - cntS ST.d.M)≠0) :
  Spec Tryz.prog 51 [.pointer (some ⟨db,0,none⟩)] (.any (dvP key f db)::H) (fun _:Unit=>True) (fun _=>I 0) (fun _ => .any (dvL key f s ST db)::H):=by
 refine Spec.som (by kernel_rfl) (fun ⟨⟨fb,ad,c,h,mb0,sb,ka,kc,x0,A⟩,mp⟩ hl0=>?_)
 obtain ⟨hk,hkey⟩:=hl0
 dsimp only at hk hkey
 show Spec _ _ _ ([dvB db fb ka key.length kc mp,fB fb ad c f h,fR ad c f,.any A]++H) _ _ _
 refine spec_fn (res:=fun _:Unit=>[.any (dvL key f s ST db)]) [dvB db fb ka key.length kc mp,fB fb ad c f h,fR ad c f,.any A] H Tryz.func51 rfl Tryz.ntmps51 (by kernel_rfl) rfl (fun W=>?_)
 dsimp only [List.cons_append,List.nil_append]
 have hbl:=hk.bs
 have hpr:prs s.by=(s,0):=by rw [prs_by hm];exact congrArg (·,0) hn
 obtain ⟨q,hq⟩:∃ q,s.by=q:=⟨_,rfl⟩
 rw [hq] at hf hpr
 obtain ⟨Z,hZ⟩:∃ Z,(seg f.bs (w*256) 256).take (q.length+6)=Z:=⟨_,rfl⟩
 have hmk:=(copyAt_drop (foundC_copy hf).1).1
 rw [hZ] at hmk
 have hZl:Z.length=q.length+6:=by
  have h245:=(copyAt_drop (foundC_copy hf).1).2
  have hw2:=(foundC_copy hf).2
  rw [←hZ,List.length_take,seg_len (by omega)]
  omega
 have hSp:ST.p=p:=by rw [←hST];rfl
 rw [←hSp] at hnd
 have hopen:=fun (H':List Hl) (r0 r1 r2:PA) (hh:RdFl (stars H') fb ad c f) (ht':TabF (stars H'))=>dv_opens H' db fb ka key.length kc mp ad c f (copyS s r0 r1 r2) p len V ho ⟨hp.ok,hp.es,hp.en,hp.ez,hp.ep,hp.ec⟩ hh hd ht' hV
 simp only [show ∀ r0 r1 r2,openS p (copyS s r0 r1 r2).g len V f.bs=ST from fun _ _ _=>hST] at hopen
 repeat' (first|intro _|refine cw ?_|refine cw2 ?_ ?_|(refine k_load ?_;first|refine ox_load (b:=db) (i:=1) rfl rfl ?_|(refine ox_load (b:=b5) (i:=10) rfl rfl ?_;rw [ho])|refine ox_load (b:=mb) (i:=17) rfl rfl ?_)|(refine k_fn 46 ?_;(refine o1_call (fun hh=>cl_Read _ fb ad c f k q Z w (RdFl.own hk hh) hd hf hZ) rfl (fun ⟨a21,c21⟩ _=>?_);(try dsimp only)))|(refine k_fn 47 ?_;(refine o1_call (fun hh=>st_Parse _ (cutA a21 c21 6) (c21 - 6) q (rx_cutl (T:=5) (ad:=a21) (c:=c21) (n:=q.length+6) (l:=Z) (enc:=B) 6 (by omega) hmk hh) (s,0) hpr) rfl (fun ⟨r0,r1,r2⟩ _=>?_);dsimp only [StD.V,StD.c,SlotD.V,SlotD.c,copyS]))|(refine k_alloc ?_;refine o1_alloc rfl (fun b5=>?_))|(refine o1_call_box (b:=db) (fun hh=>hopen _ r0 r1 r2 (RdFl.own hk (has_tail hh)) ht.up) rfl (fun ⟨mb,sb2⟩ _=>?_);(try dsimp only))|(refine k_fn 33 ?_;refine o1_call (fun _=>dv_LoadH db fb ka key.length kc mb (copyS s r0 r1 r2) (some ⟨sb2,0,none⟩)) rfl (fun _ _=>?_))|(refine k_fn 79 ?_;refine o1_call_a (stP ST fb sb2) (fun _=>so_Needs _ ST fb sb2 (by rw [hSp];exact hp.ok) hb) rfl (fun _ _=>?_))|(refine k_binOp .eql ?_;refine o1_eql_f rfl rfl hnd ?_)|refine ow ?_|refine ow2 ?_ ?_|fail)
 refine rt_pack [rowL r0 s.s0.h.l,rowL r1 s.s1.h.l,rowL r2 s.m.h.l,.any A] [dvB db fb ka key.length kc (pM mb),meB mb (copyS s r0 r1 r2) (some ⟨sb2,0,none⟩),.any (stP ST fb sb2),fB fb ad c f h,fR ad c f,.any (stars H)] ent ?_
 refine rt_has (fun hh=>?_)
 have hA:=has_any hh
 refine rt_dvL (l:=⟨fb,ad,c,h,mb,sb2,ka,kc,copyS s r0 r1 r2,stars [rowL r0 s.s0.h.l,rowL r1 s.s1.h.l,rowL r2 s.m.h.l,.any A]⟩) (R:=[.any (stars H)]) ⟨hk,rs_gr hkey Gr.of,⟨rx_row (T:=5) (ad:=r0.1) (c:=r0.2) (l:=s.s0.h.l) hA,rx_row (T:=5) (ad:=r1.1) (c:=r1.2) (l:=s.s1.h.l) hA,rx_row (T:=5) (ad:=r2.1) (c:=r2.2) (l:=s.m.h.l) hA⟩,hn⟩ ent ?_
 refine rt_tmp () rfl rfl rfl trivial ?_
 exact ent
set_option maxHeartbeats 8000000 in
theorem dv_starts_fin (H:List Hl) (db:Nat) (key:List (BitVec 8)) (f f2:Fl) (s:StD) (k:BitVec 32) (w:Nat) (hf:foundC f.bs=some ((k,s.by),w)) (hm:s.may=true) (hn:nf s=s) (ho:s.on=true) (htr:s.t=0) (hd:f.pw.isDown=false) (p:Prm) (len:Nat) (V:BitVec 32→List Bool) (hp:IsP s.m p len) (ht:TabF (stars H)) (hV:∀ r∈recsW f.bs s.g p.z 8,SpRow p r.1 (V r.1)) (ST:Sto) (hST:openS p s.g len V f.bs=ST) (hb:cntS ST.d.M≤1000) (hnd:cntS ST.d.M=p.n)
  (im:List (BitVec 8)) (hR:RR p.n p.z ST.d.M) (him:imgB p ST.d len=im) (hi1:1≤im.length) (hi2:im.length≤512) (hsh:sha im=s.m.h.l) (hF:finF f s im=(f2,0)) :
  Spec Tryz.prog 51 [.pointer (some ⟨db,0,none⟩)] (.any (dvP key f db)::H) (fun _:Unit=>True) (fun _=>I 0) (fun _ => .any (dvI key f2 (nf (actS s)) db)::H):=by
 refine Spec.som (by kernel_rfl) (fun ⟨⟨fb,ad,c,h,mb0,sb,ka,kc,x0,A⟩,mp⟩ hl0=>?_)
 obtain ⟨hk,hkey⟩:=hl0
 dsimp only at hk hkey
 show Spec _ _ _ ([dvB db fb ka key.length kc mp,fB fb ad c f h,fR ad c f,.any A]++H) _ _ _
 refine spec_fn (res:=fun _:Unit=>[.any (dvI key f2 (nf (actS s)) db)]) [dvB db fb ka key.length kc mp,fB fb ad c f h,fR ad c f,.any A] H Tryz.func51 rfl Tryz.ntmps51 (by kernel_rfl) rfl (fun W=>?_)
 dsimp only [List.cons_append,List.nil_append]
 have hbl:=hk.bs
 have hpr:prs s.by=(s,0):=by rw [prs_by hm];exact congrArg (·,0) hn
 obtain ⟨q,hq⟩:∃ q,s.by=q:=⟨_,rfl⟩
 rw [hq] at hf hpr
 obtain ⟨Z,hZ⟩:∃ Z,(seg f.bs (w*256) 256).take (q.length+6)=Z:=⟨_,rfl⟩
 have hmk:=(copyAt_drop (foundC_copy hf).1).1
 rw [hZ] at hmk
 have hZl:Z.length=q.length+6:=by
  have h245:=(copyAt_drop (foundC_copy hf).1).2
  have hw2:=(foundC_copy hf).2
  rw [←hZ,List.length_take,seg_len (by omega)]
  omega
 have hSp:ST.p=p:=by rw [←hST];rfl
 have hSl:ST.len=len:=by rw [←hST];rfl
 have hn0:((ST.p.n:Int) - cntS ST.d.M)=0:=by rw [hSp,hnd];omega
 have hopen:=fun (H':List Hl) (r0 r1 r2:PA) (hh:RdFl (stars H') fb ad c f) (ht':TabF (stars H'))=>dv_opens H' db fb ka key.length kc mp ad c f (copyS s r0 r1 r2) p len V ho ⟨hp.ok,hp.es,hp.en,hp.ez,hp.ep,hp.ec⟩ hh hd ht' hV
 simp only [show ∀ r0 r1 r2,openS p (copyS s r0 r1 r2).g len V f.bs=ST from fun _ _ _=>hST] at hopen
 have hF2:∀ r0 r1 r2,finF f (copyS s r0 r1 r2) im=(f2,0):=fun r0 r1 r2=>by rw [←nf_fin,show nf (copyS s r0 r1 r2)=s from hn];exact hF
 have hact:∀ r0 r1 r2 q1 q2,nf (copyS (actS (copyS s r0 r1 r2)) q1 q2 (none,0))=nf (actS s):=fun r0 r1 r2 q1 q2=>by rw [nf_act,show nf (copyS s r0 r1 r2)=s from hn]
 have hmc:∀ r0 r1 r2,(copyS s r0 r1 r2).may=true:=fun r0 r1 r2=>by rw [copy_may];exact hm
 repeat' (first|intro _|refine cw ?_|refine cw2 ?_ ?_|(refine k_load ?_;first|refine ox_load (b:=db) (i:=1) rfl rfl ?_|(refine ox_load (b:=b5) (i:=10) rfl rfl ?_;rw [ho])|refine ox_load (b:=mb) (i:=17) rfl rfl ?_)|(refine k_fn 46 ?_;(refine o1_call (fun hh=>cl_Read _ fb ad c f k q Z w (RdFl.own hk hh) hd hf hZ) rfl (fun ⟨a21,c21⟩ _=>?_);(try dsimp only)))|(refine k_fn 47 ?_;(refine o1_call (fun hh=>st_Parse _ (cutA a21 c21 6) (c21 - 6) q (rx_cutl (T:=5) (ad:=a21) (c:=c21) (n:=q.length+6) (l:=Z) (enc:=B) 6 (by omega) hmk hh) (s,0) hpr) rfl (fun ⟨r0,r1,r2⟩ _=>?_);dsimp only [StD.V,StD.c,SlotD.V,SlotD.c,copyS]))|(refine k_alloc ?_;refine o1_alloc rfl (fun b5=>?_))|(refine o1_call_box (b:=db) (fun hh=>hopen _ r0 r1 r2 (RdFl.own hk (has_tail hh)) ht.up) rfl (fun ⟨mb,sb2⟩ _=>?_);(try dsimp only))|(refine k_fn 33 ?_;refine o1_call (fun _=>dv_LoadH db fb ka key.length kc mb (copyS s r0 r1 r2) (some ⟨sb2,0,none⟩)) rfl (fun _ _=>?_))|(refine k_fn 79 ?_;(refine o1_call_a (stP ST fb sb2) (fun _=>so_Needs _ ST fb sb2 (by rw [hSp];exact hp.ok) hb) rfl (fun _ _=>?_);rw [hn0]))|(refine k_fn 80 ?_;(refine o1_call_to (dvB db fb ka key.length kc (pM mb)::meB mb (copyS s r0 r1 r2) (some ⟨sb2,0,none⟩) :: .any (stP ST fb sb2)::fB fb ad c f h::fR ad c f::[rowL r0 s.s0.h.l,rowL r1 s.s1.h.l,rowL r2 s.m.h.l,.any A,.any (stars H)]) (Ent.out ent) (fun hh=>dv_fin _ db fb ka key.length kc mb sb2 ad c f f2 h (copyS s r0 r1 r2) ST im (hmc r0 r1 r2) ho htr ⟨rx_row (T:=5) (ad:=r0.1) (c:=r0.2) (l:=s.s0.h.l) (has_tail (has_tail (has_tail (has_tail (has_tail hh))))),rx_row (T:=5) (ad:=r1.1) (c:=r1.2) (l:=s.s1.h.l) (has_tail (has_tail (has_tail (has_tail (has_tail hh))))),rx_row (T:=5) (ad:=r2.1) (c:=r2.2) (l:=s.m.h.l) (has_tail (has_tail (has_tail (has_tail (has_tail hh)))))⟩ hk hd (by rw [hSp];exact hp.ok) (by rw [hSp];exact hR) (by rw [hSp];exact hnd) (by rw [hSp,hSl];exact hp.ec) (by rw [hSp,hSl];exact him) hi1 hi2 hsh (hF2 r0 r1 r2)) rfl (fun ⟨h2,mb2,q1,q2⟩ hk2=>?_);(try dsimp only at hk2 ⊢)))|refine ow ?_|refine ow2 ?_ ?_|fail)
 refine rt_pack [rowL q1 (actS (copyS s r0 r1 r2)).s0.h.l,rowL q2 (actS (copyS s r0 r1 r2)).s1.h.l,.any A] [dvB db fb ka key.length kc (pM mb2),meB mb2 (copyS (actS (copyS s r0 r1 r2)) q1 q2 (none,0)) none,fB fb ad c f2 h2,fR ad c f2,.any (stars H)] ent ?_
 refine rt_has (fun hh=>?_)
 have hA:=has_any hh
 refine rt_dvI (l:=⟨fb,ad,c,h2,mb2,sb,ka,kc,copyS (actS (copyS s r0 r1 r2)) q1 q2 (none,0),stars [rowL q1 (actS (copyS s r0 r1 r2)).s0.h.l,rowL q2 (actS (copyS s r0 r1 r2)).s1.h.l,.any A]⟩) (R:=[.any (stars H)]) ⟨hk2,rs_gr hkey Gr.of,⟨rx_row (T:=5) (ad:=q1.1) (c:=q1.2) (l:=(actS (copyS s r0 r1 r2)).s0.h.l) hA,rx_row (T:=5) (ad:=q2.1) (c:=q2.2) (l:=(actS (copyS s r0 r1 r2)).s1.h.l) hA,rs00 hA⟩,hact r0 r1 r2 q1 q2⟩ ent ?_
 refine rt_tmp () rfl rfl rfl trivial ?_
 exact ent
def dvLf (fb:Nat) (key:List (BitVec 8)) (f:Fl) (s:StD) (st:Sto) (db:Nat):Hp→Prop:=Som (fun l:Lay=>DvX key f s l∧l.fb=fb) (fun l=>[dvA db key l (pM l.mb),meB l.mb l.x (some ⟨l.sb,0,none⟩),.any (stP st l.fb l.sb),flA f l,frA f l,.any l.A])
def dvPf (fb:Nat) (key:List (BitVec 8)) (f:Fl) (db:Nat):Hp→Prop:=Som (fun q:Lay × Option Addr=>DvK key f q.1∧q.1.fb=fb) (fun q=>[dvA db key q.1 q.2,flA f q.1,frA f q.1,.any q.1.A])
theorem dv_Flash_L (H:List Hl) (db:Nat) (key:List (BitVec 8)) (f:Fl) (s:StD) (st:Sto) :
  Spec Tryz.prog 18 [.pointer (some ⟨db,0,none⟩)] (.any (dvL key f s st db)::H) (fun _:Nat=>True) (fun fb => .pointer (some ⟨fb,0,none⟩)) (fun fb => .any (dvLf fb key f s st db)::H) :=
 Spec.som (by kernel_rfl) (fun l hl=>(dv_Flash _ db l.fb (cl_box (H:=dvA db key l (pM l.mb)::meB l.mb l.x (some ⟨l.sb,0,none⟩) :: .any (stP st l.fb l.sb)::flA f l::frA f l :: .any l.A::H) (b:=db) rfl)).to (fun _ _=>⟨l.fb,trivial,rfl,som_of (p:=fun l':Lay=>DvX key f s l'∧l'.fb=l.fb) (L:=fun l=>[dvA db key l (pM l.mb),meB l.mb l.x (some ⟨l.sb,0,none⟩),.any (stP st l.fb l.sb),flA f l,frA f l,.any l.A]) l ⟨hl,rfl⟩⟩))
theorem dv_Flash_P (H:List Hl) (db:Nat) (key:List (BitVec 8)) (f:Fl) :
  Spec Tryz.prog 18 [.pointer (some ⟨db,0,none⟩)] (.any (dvP key f db)::H) (fun _:Nat=>True) (fun fb => .pointer (some ⟨fb,0,none⟩)) (fun fb => .any (dvPf fb key f db)::H) :=
 Spec.som (by kernel_rfl) (fun l hl=>(dv_Flash _ db l.1.fb (cl_box (H:=dvA db key l.1 l.2::flA f l.1::frA f l.1 :: .any l.1.A::H) (b:=db) rfl)).to (fun _ _=>⟨l.1.fb,trivial,rfl,som_of (p:=fun q:Lay × Option Addr=>DvK key f q.1∧q.1.fb=l.1.fb) (L:=fun q=>[dvA db key q.1 q.2,flA f q.1,frA f q.1,.any q.1.A]) l ⟨hl,rfl⟩⟩))
theorem dv_Fuse_L (H:List Hl) (db fb:Nat) (key:List (BitVec 8)) (f:Fl) (s:StD) (st:Sto) (n:Option Nat) (t:Int) (hn:∀ k,n=some k→k≤1000000) :
  Spec Tryz.prog 19 [.pointer (some ⟨fb,0,none⟩),I (nO n),I t] (.any (dvLf fb key f s st db)::H) (fun _:Unit=>True) (fun _ => .tuple #[]) (fun _ => .any (dvL key (fuseF f n t) s st db)::H) :=
 Spec.som (by kernel_rfl) (fun l ⟨hl,e⟩=>by
  subst e
  refine ((fl_Fuse (dvA db key l (pM l.mb)::meB l.mb l.x (some ⟨l.sb,0,none⟩) :: .any (stP st l.fb l.sb)::frA f l :: .any l.A::H) l.fb l.ad l.c f l.h n t hl.fl hn).pre (Ent.out (by
   dsimp only [List.cons_append,List.nil_append]
   exact ent))).to (fun h' hk=>⟨(),trivial,rfl,fun x hx=>som_of (p:=DvX key (fuseF f n t) s) (L:=fun l=>[dvA db key l (pM l.mb),meB l.mb l.x (some ⟨l.sb,0,none⟩),.any (stP st l.fb l.sb),flA (fuseF f n t) l,frA (fuseF f n t) l,.any l.A]) ⟨l.fb,l.ad,l.c,h',l.mb,l.sb,l.ka,l.kc,l.x,l.A⟩ ⟨hk,hl.key,hl.rd,hl.nf⟩ x (Ent.out (by
   dsimp only [List.cons_append,List.nil_append]
   exact ent) x hx)⟩))
theorem dv_Fuse_P (H:List Hl) (db fb:Nat) (key:List (BitVec 8)) (f:Fl) (n:Option Nat) (t:Int) (hn:∀ k,n=some k→k≤1000000) :
  Spec Tryz.prog 19 [.pointer (some ⟨fb,0,none⟩),I (nO n),I t] (.any (dvPf fb key f db)::H) (fun _:Unit=>True) (fun _ => .tuple #[]) (fun _ => .any (dvP key (fuseF f n t) db)::H) :=
 Spec.som (by kernel_rfl) (fun ⟨l,mp⟩ ⟨hl,e⟩=>by
  dsimp only at hl e
  subst e
  refine ((fl_Fuse (dvA db key l mp::frA f l :: .any l.A::H) l.fb l.ad l.c f l.h n t hl.fl hn).pre (Ent.out (by
   dsimp only [List.cons_append,List.nil_append]
   exact ent))).to (fun h' hk=>⟨(),trivial,rfl,fun x hx=>dvP_of ⟨l.fb,l.ad,l.c,h',l.mb,l.sb,l.ka,l.kc,l.x,l.A⟩ mp ⟨hk,hl.key⟩ x (Ent.out (by
   dsimp only [List.cons_append,List.nil_append]
   exact ent) x hx)⟩))
set_option maxHeartbeats 8000000 in
theorem dv_State_I (H:List Hl) (db:Nat) (key:List (BitVec 8)) (f:Fl) (s:StD) (hm:s.may=true) :
  Spec Tryz.prog 21 [.pointer (some ⟨db,0,none⟩)] (.any (dvI key f s db)::H) (fun _:PA × PA × PA=>True) (fun r => .tuple #[(copyS s r.1 r.2.1 r.2.2).V,.bool true]) (fun r=>rowL r.1 s.s0.h.l::rowL r.2.1 s.s1.h.l::rowL r.2.2 s.m.h.l :: .any (dvI key f s db)::H):=by
 refine Spec.som (by kernel_rfl) (fun ⟨fb,ad,c,h,mb,sb,ka,kc,x,A⟩ hl0=>?_)
 obtain ⟨hk,hkey,hx,hnf⟩:=hl0
 dsimp only at hk hkey hx hnf
 subst hnf
 show Spec _ _ _ ([dvB db fb ka key.length kc (pM mb),meB mb x none,fB fb ad c f h,fR ad c f,.any A]++H) _ _ _
 refine spec_fn (res:=fun r:PA × PA × PA=>[rowL r.1 x.s0.h.l,rowL r.2.1 x.s1.h.l,rowL r.2.2 x.m.h.l,.any (dvI key f (nf x) db)]) [dvB db fb ka key.length kc (pM mb),meB mb x none,fB fb ad c f h,fR ad c f,.any A] H Tryz.func21 rfl Tryz.ntmps21 (by kernel_rfl) rfl (fun W=>?_)
 dsimp only [List.cons_append,List.nil_append]
 have e0:=hx.s0
 have e1:=hx.s1
 have e2:=hx.m
 obtain ⟨q0,q1,q2⟩:=may_light (by rw [←nf_may];exact hm:x.may=true)
 repeat' (first|intro _|refine cw ?_|refine cw2 ?_ ?_|(refine k_fn 42 ?_;refine o1_call_bb db mb (fun _=>dv_now _ db fb ka key.length kc mb x none) rfl (fun _ _=>?_))|refine o1_peql rfl rfl ?_|refine ow ?_|refine ow2 ?_ ?_|fail)
 refine st_rounds 2 ?_
 repeat' (first|intro _|refine cw ?_|refine cw2 ?_ ?_|(refine k_indexAddr ?_;first|refine ox_idx_arr 0 4 rfl rfl rfl (by decide) rfl ?_|refine ox_idx_arr 1 7 rfl rfl rfl (by decide) rfl ?_)|(refine k_fn 29 ?_;first|(refine o1_call (fun _=>slices_Clone _ _ _ x.s0.h.l (Rs.up e0) (by omega)) rfl (fun ⟨a5,c5⟩ _=>?_);dsimp only)|(refine o1_call (fun _=>slices_Clone _ _ _ x.s1.h.l (Rs.up e1) (by omega)) rfl (fun ⟨a6,c6⟩ _=>?_);dsimp only)|(refine o1_call (fun _=>slices_Clone _ _ _ x.m.h.l (Rs.up e2) (by omega)) rfl (fun ⟨a7,c7⟩ _=>?_);dsimp only))|refine ow ?_|refine ow2 ?_ ?_|fail)
 rename_i b2 _ _ b5 _ _ _ _ _ _
 refine rt_dvI (l:=⟨fb,ad,c,h,mb,sb,ka,kc,x,A⟩) (R:=[rowL (a5,c5) x.s0.h.l,rowL (a6,c6) x.s1.h.l,rowL (a7,c7) x.m.h.l,.box b2 51 (copyS x (a5,c5) (a6,c6) (a7,c7)).c,.any (stars H)]) ⟨hk,hkey,hx,rfl⟩ ent ?_
 refine rt_cell_tmp (⟨a5,c5⟩,⟨a6,c6⟩,⟨a7,c7⟩) rfl rfl rfl rfl rfl trivial ?_
 exact ent
def rtD46_0:List Row:=[⟨some 129,[],[],none⟩,⟨some 130,[0],[0],none⟩,⟨some 131,[1],[0,1],some (1,true)⟩,⟨some 132,[2,1,1],[0,1,2],some (1,true)⟩,⟨some 133,[3,1],[0,1,2,3],some (1,true)⟩,⟨some 134,[1],[0,1],some (1,true)⟩,⟨some 135,[5,1],[0,1,5],some (1,true)⟩,⟨some 136,[4,6,1],[0,1,2,3,4,5,6],some (1,true)⟩,⟨some 137,[1,7],[0,1,2,3,4,5,6,7],none⟩,⟨some 138,[8,3],[0,1,2,3,4,5,6,7,8],none⟩,⟨some 139,[9],[0,1,2,3,4,5,6,7,8,9],some (9,true)⟩,⟨some 140,[10,9],[0,1,2,3,4,5,6,7,8,9,10],some (9,true)⟩,⟨some 141,[11,9],[0,1,2,3,4,5,6,7,8,9,10,11],some (9,true)⟩,⟨some 142,[9,12],[0,1,2,3,4,5,6,7,8,9,10,11,12],none⟩,⟨some 143,[13,9],[0,1,2,3,4,5,6,7,8,9,10,11,12,13],none⟩,⟨some 144,[14],[0,1,2,3,4,5,6,7,8,9,10,11,12,13,14],some (14,true)⟩,⟨some 145,[15,14],[0,1,2,3,4,5,6,7,8,9,10,11,12,13,14,15],some (14,true)⟩,⟨some 146,[16,14],[0,1,2,3,4,5,6,7,8,9,10,11,12,13,14,15,16],some (14,true)⟩,⟨some 147,[14,17],[0,1,2,3,4,5,6,7,8,9,10,11,12,13,14,15,16,17],none⟩,⟨some 148,[18,14],[0,1,2,3,4,5,6,7,8,9,10,11,12,13,14,15,16,17,18],none⟩,⟨some 149,[19,19],[0,1,2,3,4,5,6,7,8,9,10,11,12,13,14,15,16,17,18,19],some (19,true)⟩,⟨some 150,[19,20],[0,1,2,3,4,5,6,7,8,9,10,11,12,13,14,15,16,17,18,19,20],none⟩,⟨some 8,[21,20,0,1,2,3,4,5,6,7,8,9,10,11,12,13,14,15,16,17,18,19,20,21],[0,1,2,3,4,5,6,7,8,9,10,11,12,13,14,15,16,17,18,19,20,21],none⟩]
theorem top_makeC:∃ f,DevF f 3 sunS sunL∧Blank f.bs 1536 2048∧∀ (H:List Hl) (ka:Option Addr) (kc:Nat) (ad:Option Addr) (c:Nat),Rs (stars H) B ka kc keyT→Rs (stars H) B ad c sunL →
  Spec Tryz.prog 8 [.slice ka 3 kc,W4 1#32,.slice ad 3 c,I 100] H (fun _:Nat=>True) (fun db => .tuple #[.pointer (some ⟨db,0,none⟩),I 0]) (fun db => .any (dvI keyT f sunS db)::H):=by
 obtain ⟨f1,f2,h1,h2,h3,h4⟩:=dev_make (v:=1#32) (im:=sunL) (by decide) (by decide)
 exact ⟨f2,h4,make_blank (by decide) (by_245 h4.may) h1 h3,fun H ka kc ad c hk hi=>dv_Make H 100 1#32 ka kc keyT ad c sunL (sha sunL) f1 f2 hk (by decide) hi (by decide) (by decide) rfl h1 h2 h3⟩
theorem top_hearC {f:Fl} {n:Nat} {s:StD} {im:List (BitVec 8)} {p:Prm} {v:BitVec 32} {im2:List (BitVec 8)} (h:DevF f n s im) (hn:n<90) (hk:HdOk keyT p im2 (sha im2)) (he:errOf s (mOf p v im2)=0) :
  ∃ f1,DevF f1 (n+1) (hearS s p v im2) im∧seg f1.bs 1536 2048=seg f.bs 1536 2048∧∀ (H:List Hl) (db:Nat) (ad:Option Addr) (c:Nat),TabF (stars H)→Rs (stars H) B ad c (frameB 1#8 (fstP p v im2)) →
   Spec Tryz.prog 12 [.pointer (some ⟨db,0,none⟩),.slice ad 85 c] (.any (dvI keyT f s db)::H) (fun _:Unit=>True) (fun _=>I 0) (fun _ => .any (dvL keyT f1 (hearS s p v im2) (stoU p (s.g+1#32) im2 (-1) []) db)::H):=by
 obtain ⟨f1,h1,h2,h3,h4⟩:=dev_hear (m:=mOf p v im2) (len:=im2.length) h hn (hk.may v (none,0)) hk.ok (fun _=>[])
 obtain ⟨f1',w1,_,_,_,_,w6⟩:=dev_cell (s1:=admitS s (mOf p v im2) (none,0) (none,0) (none,0)) h hn h2.may
 have e:f1'=f1:=(Prod.mk.inj (w1.symm.trans h1)).1
 subst e
 refine ⟨f1',h2,w6 _ _ (by omega),fun H db ad c ht hb=>?_⟩
 have:=pk_hears_I H db keyT f s ad 85 c (fstP p v im2) hb (by rw [fstB_len hk]) (by rw [fstB_len hk];decide) (by rw [fstB_len hk];decide) hk.kl (mOf p v im2) p im2.length (fun _=>[]) f1' (mOf_pr hk) h.may (hk.may v (none,0)) he h.up (mOf_is hk) ht h1 h2.up (fun r hr=>by rw [h3] at hr;cases hr)
 rw [h4,←decU_nil p im2] at this
 exact this
theorem top_takeC {f:Fl} {n:Nat} {s:StD} {im im2:List (BitVec 8)} {p:Prm} {rdy:Int} {ids:List (BitVec 32)} {id:BitVec 32} (h:DevF f n s im) (hk:HdOk keyT p im2 (sha im2)) (ho:s.on=true) (hp:IsP s.m p im2.length) (hL:LiveW f.bs s.g p.z rdy ids.length) (hW:WhC f.bs s.g p.z (recL p im2 ids) ids.length) (hids:∀ x∈ids,x.toNat<p.k) (hnd:ids.Nodup) (hid:id.toNat<p.k) (hnew:id ∉ ids) (hlt:ids.length+1<p.k) (hk2:p.k≤40) :
  ∃ f1,DevF f1 n s im∧LiveW f1.bs s.g p.z ((ids.length / plW p.z:Nat):Int) (ids++[id]).length∧WhC f1.bs s.g p.z (recL p im2 (ids++[id])) (ids++[id]).length∧∀ (H:List Hl) (db:Nat) (ad:Option Addr) (c:Nat),TabF (stars H)→Rs (stars H) B ad c (frameB 2#8 (symP p im2 id)) →
   Spec Tryz.prog 12 [.pointer (some ⟨db,0,none⟩),.slice ad (8+p.z+9) c] (.any (dvL keyT f s (stoU p s.g im2 rdy ids) db)::H) (fun _:Unit=>True) (fun _=>I 0) (fun _ => .any (dvL keyT f1 s (stoU p s.g im2 ((ids.length / plW p.z:Nat):Int) (ids++[id])) db)::H):=by
 obtain ⟨p1,p2,p3,p4,p5⟩:=hk.ok.out
 obtain ⟨f1,h1,h2,h3⟩:=dev_takeC (im2:=im2) (len:=im2.length) h.c h.up hk.ok hW hL hids hid hnew (by omega) hk2
 have hon:=h1.on h.on
 rcases h3 with ⟨e1,e2,e3,e4⟩|⟨e1,e2,_⟩
 rotate_left
 ·rw [hon] at e2;cases e2
 refine ⟨f1,h2.dev hon (e3.wh p4 p5),e4,e3,fun H db ad c ht hb=>?_⟩
 have hdl:(datP p im2 (unitV p id)).length=p.z:=datD_len _ _ _
 have hc:cntS (decU p im2 ids).M=p.p+ids.length:=decU_cnt ids hids hnd
 have hc1:cntS (decU p im2 (ids++[id])).M=p.p+ids.length+1:=by rw [(decU_take (im:=im2) hids hid hnew).2.2,hc]
 have hpn:p.n=p.k+p.p:=rfl
 have hw8:=(plW_b p4 p5).1
 exact pk_takes H db keyT f s (stoU p s.g im2 rdy ids) ad (8+p.z+9) c (symP p im2 id) hb (by rw [symP_len]) (by rw [symP_len];omega) (by rw [symP_len];omega) hk.kl p.s id (datP p im2 (unitV p id)) rfl (by omega) (by omega) im2.length (unitV p id) ho hp rfl hdl (decU_RR p im2 ids) (by show ids.length≤1000;omega) (row_unit p id hk.ok hid) h.up (by show ids.length≤8*plW p.z;omega) ht f1 _ e1 hk.ok (by show cntS (decU p im2 (ids++[id])).M≤1000;omega) (by show ((p.n:Nat):Int) - (cntS (decU p im2 (ids++[id])).M:Nat)≠0;omega)
theorem top_last {f:Fl} {n:Nat} {s:StD} {im im2:List (BitVec 8)} {p:Prm} {rdy:Int} {j:Nat} (h:DevC f n s im) (hn:n<70) (hd:f.pw.isDown=false) (hk:HdOk keyT p im2 (sha im2)) (ho:s.on=true) (htr:s.t=0) (hp:IsP s.m p im2.length) (hsh:s.m.h.l=sha im2) (hL:LiveW f.bs s.g p.z rdy (idsN j).length) (hW:WhC f.bs s.g p.z (recL p im2 (idsN j)) (idsN j).length) (hj:j+1=p.k) (hk2:p.k≤40) (h1i:1≤im2.length) :
  ∃ (v:Int) (f2:Fl),Fell f2 (n+3) s p im im2∧((v=0∧DevC f2 (n+3) (nf (actS s)) im2)∨v=11)∧∀ (H:List Hl) (db:Nat) (ad:Option Addr) (c:Nat),TabF (stars H)→Rs (stars H) B ad c (frameB 2#8 (symP p im2 (BitVec.ofNat 32 j))) →
   Spec Tryz.prog 12 [.pointer (some ⟨db,0,none⟩),.slice ad (8+p.z+9) c] (.any (dvL keyT f s (stoU p s.g im2 rdy (idsN j)) db)::H) (fun _:Unit=>True) (fun _=>I v) (fun _ => .any (dvP keyT f2 db)::H):=by
 obtain ⟨p1,p2,p3,p4,p5⟩:=hk.ok.out
 obtain ⟨id,hidd⟩:∃ id,BitVec.ofNat 32 j=id:=⟨_,rfl⟩
 have hid:id.toNat<p.k:=by rw [←hidd,ofN_nat (by omega)];omega
 have hnew:id ∉ idsN j:=by rw [←hidd];exact idsN_new (by omega)
 have hids:∀ x∈idsN j,x.toNat<p.k:=idsN_lt (by omega) (by omega)
 have hnd:=idsN_nodup (i:=j) (by omega)
 have hjl:=idsN_len j
 have hs1:idsN j++[id]=idsN (j+1):=by rw [idsN_succ,hidd]
 rw [hidd]
 obtain ⟨f1,h1,h2,h3⟩:=dev_takeC (im2:=im2) (len:=im2.length) h hd hk.ok hW hL hids hid hnew (by omega) hk2
 have hdl:(datP p im2 (unitV p id)).length=p.z:=datD_len _ _ _
 have hc:cntS (decU p im2 (idsN j)).M=p.p+(idsN j).length:=decU_cnt _ hids hnd
 have hc1:cntS (decU p im2 (idsN j++[id])).M=p.p+(idsN j).length+1:=by rw [(decU_take (im:=im2) hids hid hnew).2.2,hc]
 have hpn:p.n=p.k+p.p:=rfl
 have hw8:=(plW_b p4 p5).1
 rcases h3 with ⟨e1,e2,e3,e4⟩|⟨e1,e2,e3⟩
 rotate_left
 ·refine ⟨11,f1,.inr ?_,.inr rfl,fun H db ad c ht hb=>?_⟩
  ·rcases e3 with e3|⟨e,e3⟩
   ·exact ⟨j+1,(idsN j++[id]).length,.inr hj,h2.mono (by omega),by rw [←hs1];exact e3⟩
   ·exact ⟨j,e,.inl hj,h2.mono (by omega),e3⟩
  ·exact (pk_takes_cut H db keyT f s (stoU p s.g im2 rdy (idsN j)) ad (8+p.z+9) c (symP p im2 id) hb (by rw [symP_len]) (by rw [symP_len];omega) (by rw [symP_len];omega) hk.kl p.s id (datP p im2 (unitV p id)) rfl (by omega) (by omega) im2.length (unitV p id) ho hp rfl hdl (decU_RR p im2 _) (by show (idsN j).length≤1000;omega) (row_unit p id hk.ok hid) hd (by show (idsN j).length≤8*plW p.z;omega) ht f1 e1).imp (fun _ _=>dvO_P)
 have hids2:∀ x∈idsN j++[id],x.toNat<p.k:=by rw [hs1];exact idsN_lt (by omega) (by omega)
 have hnd2:(idsN j++[id]).Nodup:=by rw [hs1];exact idsN_nodup (by omega)
 have hl2:(idsN j++[id]).length=p.k:=by rw [hs1,idsN_len];exact hj
 obtain ⟨f2,g1,g2,g3⟩:=dev_finC (im2:=im2) h2 e2 (by omega) ho htr hp.en h1i hk.le
 have hW2:WhC f2.bs s.g p.z (recL p im2 (idsN (j+1))) (idsN (j+1)).length:=by
  rw [hs1] at e3
  exact e3.keep p4 p5 (by rw [recL_len,idsN_len];omega) g1.few.bs (g2 _ _ (by omega))
 have hWo:WhOk f2.bs s.g.toNat:=hW2.wh p4 p5
 have hfull:=decU_full hids2 hnd2 hl2 hk.ct p1
 rcases g3 with ⟨k1,k2,k3⟩|⟨k1,k2,k3⟩
 ·refine ⟨0,f2,.inl ⟨k3,hWo⟩,.inl ⟨rfl,k3⟩,fun H db ad c ht hb=>?_⟩
  exact (pk_takes_fin H db keyT f s (stoU p s.g im2 rdy (idsN j)) ad (8+p.z+9) c (symP p im2 id) hb (by rw [symP_len]) (by rw [symP_len];omega) (by rw [symP_len];omega) hk.kl p.s id (datP p im2 (unitV p id)) rfl (by omega) (by omega) im2.length (unitV p id) ho hp rfl hdl (decU_RR p im2 _) (by show (idsN j).length≤1000;omega) (row_unit p id hk.ok hid) hd (by show (idsN j).length≤8*plW p.z;omega) ht f1 _ e1 hk.ok (by show cntS (decU p im2 (idsN j++[id])).M≤1000;omega) (by show cntS (decU p im2 (idsN j++[id])).M=p.n;omega) im2 (decU_RR p im2 _) hk.ct hfull h1i hk.le hsh.symm e2 h.may htr f2 k1).imp (fun _ _=>dvI_P)
 ·refine ⟨11,f2,?_,.inr rfl,fun H db ad c ht hb=>?_⟩
  ·rcases k3 with k3|k3
   ·exact .inl ⟨k3,hWo⟩
   ·exact .inr ⟨j+1,_,.inr hj,k3,hW2⟩
  ·exact (pk_takes_fin_no H db keyT f s (stoU p s.g im2 rdy (idsN j)) ad (8+p.z+9) c (symP p im2 id) hb (by rw [symP_len]) (by rw [symP_len];omega) (by rw [symP_len];omega) hk.kl p.s id (datP p im2 (unitV p id)) rfl (by omega) (by omega) im2.length (unitV p id) ho hp rfl hdl (decU_RR p im2 _) (by show (idsN j).length≤1000;omega) (row_unit p id hk.ok hid) hd (by show (idsN j).length≤8*plW p.z;omega) ht f1 _ e1 hk.ok (by show cntS (decU p im2 (idsN j++[id])).M≤1000;omega) (by show cntS (decU p im2 (idsN j++[id])).M=p.n;omega) im2 (decU_RR p im2 _) hk.ct hfull h1i hk.le hsh.symm e2 h.may htr f2 k1).imp (fun _ _=>dvO_P)
theorem top_off {p:Prm} {im2:List (BitVec 8)} (hk:HdOk keyT p im2 (sha im2)) (id:BitVec 32) (g:Fl) (s:StD) (ho:s.on=false) (H:List Hl) (db:Nat) (ad:Option Addr) (c:Nat) (hr:Rs (stars H) B ad c (frameB 2#8 (symP p im2 id))) :
  Spec Tryz.prog 12 [.pointer (some ⟨db,0,none⟩),.slice ad (8+p.z+9) c] (.any (dvI keyT g s db)::H) (fun _:Unit=>True) (fun _=>I 14) (fun _ => .any (dvI keyT g s db)::H):=by
 obtain ⟨p1,p2,p3,p4,p5⟩:=hk.ok.out
 exact pk_takes_off H db keyT g s ad (8+p.z+9) c (symP p im2 id) hr (by rw [symP_len]) (by rw [symP_len];omega) (by rw [symP_len];omega) hk.kl p.s id (datP p im2 (unitV p id)) rfl (by rw [datD_len];exact p4) (by rw [datD_len];exact p5) ho
theorem top_again {f:Fl} {n:Nat} {s:StD} {im im2:List (BitVec 8)} {p:Prm} {j:Nat} (h:Fell f n s p im im2) (hn:n<75) (hsn:nf s=s) (hk:HdOk keyT p im2 (sha im2)) (ho:s.on=true) (htr:s.t=0) (hp:IsP s.m p im2.length) (hsh:s.m.h.l=sha im2) (hj:j+1=p.k) (hk2:p.k≤40) (h1i:1≤im2.length) :
  ∃ (D:Nat→Hp→Prop) (gz:Fl) (nz:Nat) (v:Int),DevF gz nz (nf (actS s)) im2 ∧
   (∀ (H:List Hl) (db:Nat),TabF (stars H)→Spec Tryz.prog 20 [.pointer (some ⟨db,0,none⟩)] (.any (dvP keyT (fuseF f none 0) db)::H) (fun _:Unit=>True) (fun _=>I 0) (fun _ => .any (D db)::H)) ∧
   (∀ (H:List Hl) (db:Nat) (ad:Option Addr) (c:Nat),TabF (stars H)→Rs (stars H) B ad c (frameB 2#8 (symP p im2 (BitVec.ofNat 32 j))) →
    Spec Tryz.prog 12 [.pointer (some ⟨db,0,none⟩),.slice ad (8+p.z+9) c] (.any (D db)::H) (fun _:Unit=>True) (fun _=>I v) (fun _ => .any (dvI keyT gz (nf (actS s)) db)::H)):=by
 obtain ⟨p1,p2,p3,p4,p5⟩:=hk.ok.out
 obtain ⟨s1,s2,s3,s4⟩:=startF_fuse f
 obtain ⟨F,hF⟩:∃ F,startF (fuseF f none 0)=F:=⟨_,rfl⟩
 rw [hF] at s1 s2 s3 s4
 have hup:F.pw.isDown=false:=on_up s1
 have hw8:=(plW_b p4 p5).1
 have hpn:p.n=p.k+p.p:=rfl
 rcases h with ⟨hd,hw⟩|⟨i,e,hi,hd,hw⟩
 ·have hD:=hd.same s2 s3 s4
  obtain ⟨k,w,hf⟩:=hD.found
  refine ⟨dvI keyT F (nf (actS s)),F,n,14,hD.dev s1 (by rw [s2];exact hw),fun H db ht=>?_,fun H db ad c ht hb=>top_off hk _ F _ rfl H db ad c hb⟩
  have:=dv_Power_I H db keyT (fuseF f none 0) (nf (actS s)) k w (by rw [s2] at hf;exact hf) hD.may rfl rfl (by rw [hF];exact hup)
  rw [hF] at this
  exact this
 ·have hD:=hd.same s2 s3 s4
  have hW:WhC F.bs s.g p.z (recL p im2 (idsN i)) e:=by rw [s2];exact hw
  have hDF:DevF F n s im:=hD.dev s1 (hW.wh p4 p5)
  obtain ⟨k,w,hf⟩:=hD.found
  obtain ⟨rdy,nxt,o1,o2,o3,o4⟩:=open_old (len:=im2.length) hW hk.ok (by omega) hk2
  have hids:∀ x∈idsN i,x.toNat<p.k:=idsN_lt (by omega) (by omega)
  have hil:=idsN_len i
  have hc:cntS (decU p im2 (idsN i)).M=p.p+(idsN i).length:=decU_cnt _ hids (idsN_nodup (i:=i) (by omega))
  have hV:∀ r∈recsW F.bs s.g p.z 8,SpRow p r.1 (unitV p r.1):=fun r hr=>by
   rw [o4] at hr
   obtain ⟨x,hx,rfl⟩:=List.mem_map.1 hr
   exact row_unit p x hk.ok (hids x hx)
  rcases hi with hi|hi
  ·have:i=j:=by omega
   subst this
   obtain ⟨f1,e1,e2⟩:=dev_takeN (im2:=im2) (p:=p) (j:=i) (len:=im2.length) hDF (by omega) hk.ok o2 (by omega) (by omega) hk2
   obtain ⟨f2,g1,g2,g3⟩:=dev_fin (im2:=im2) e2 (by omega) ho htr hp.en h1i hk.le
   obtain ⟨id,hidd⟩:∃ id,BitVec.ofNat 32 i=id:=⟨_,rfl⟩
   have hid:id.toNat<p.k:=by rw [←hidd,ofN_nat (by omega)];omega
   have hc1:cntS (decU p im2 (idsN (i+1))).M=p.p+(i+1):=by rw [decU_cnt _ (idsN_lt (by omega) (by omega)) (idsN_nodup (by omega)),idsN_len]
   have hfull:=decU_full (p:=p) (im:=im2) (ids:=idsN (i+1)) (idsN_lt (by omega) (by omega)) (idsN_nodup (by omega)) (by rw [idsN_len];exact hj) hk.ct p1
   have hdl:(datP p im2 (unitV p id)).length=p.z:=datD_len _ _ _
   rw [hidd] at e1 ⊢
   refine ⟨dvL keyT F s ⟨p,s.g,im2.length,rdy,nxt,decU p im2 (idsN i)⟩,f2,_,0,g2,fun H db ht=>?_,fun H db ad c ht hb=>?_⟩
   ·have:=dv_Power H db keyT (fuseF f none 0) (dvL keyT F s ⟨p,s.g,im2.length,rdy,nxt,decU p im2 (idsN i)⟩ db) (by
     rw [hF]
     exact dv_starts_L _ db keyT F s k w hf hD.may hsn ho hup p im2.length (unitV p) hp ht.up hV _ o1 (by show cntS (decU p im2 (idsN i)).M≤1000;omega) (by show ((p.n:Nat):Int) - (cntS (decU p im2 (idsN i)).M:Nat)≠0;omega)) (dv_met_L _ db keyT F s _ 0 (by decide))
    exact this
   ·exact pk_takes_fin H db keyT F s ⟨p,s.g,im2.length,rdy,nxt,decU p im2 (idsN i)⟩ ad (8+p.z+9) c (symP p im2 id) hb (by rw [symP_len]) (by rw [symP_len];omega) (by rw [symP_len];omega) hk.kl p.s id (datP p im2 (unitV p id)) rfl (by omega) (by omega) im2.length (unitV p id) ho hp rfl hdl (decU_RR p im2 _) (by show (idsN i).length≤1000;omega) (row_unit p id hk.ok hid) hup (by show nxt≤8*plW p.z;omega) ht f1 _ e1 hk.ok (by show cntS (decU p im2 (idsN (i+1))).M≤1000;omega) (by show cntS (decU p im2 (idsN (i+1))).M=p.n;omega) im2 (decU_RR p im2 _) hk.ct hfull h1i hk.le hsh.symm e2.up hD.may htr f2 g1
  ·subst hi
   obtain ⟨f2,g1,g2,g3⟩:=dev_fin (im2:=im2) hDF (by omega) ho htr hp.en h1i hk.le
   have hfull:=decU_full (p:=p) (im:=im2) (ids:=idsN p.k) hids (idsN_nodup (by omega)) hil hk.ct p1
   refine ⟨dvI keyT f2 (nf (actS s)),f2,_,14,g2,fun H db ht=>?_,fun H db ad c ht hb=>top_off hk _ f2 _ rfl H db ad c hb⟩
   have:=dv_Power H db keyT (fuseF f none 0) (dvI keyT f2 (nf (actS s)) db) (by
    rw [hF]
    exact dv_starts_fin _ db keyT F f2 s k w hf hD.may hsn ho htr hup p im2.length (unitV p) hp ht.up hV _ o1 (by show cntS (decU p im2 (idsN p.k)).M≤1000;omega) (by show cntS (decU p im2 (idsN p.k)).M=p.n;omega) im2 (decU_RR p im2 _) hfull h1i hk.le hsh.symm g1) (dv_met_I _ db keyT f2 _ 0 (by decide))
   exact this
theorem two_ne_sun (b:List (BitVec 8)):twoI b≠sunL:=fun h=>by
 have h1:(imgL b 2#8).getLast?=sunL.getLast?:=congrArg List.getLast? h
 rw [imgL,List.getLast?_append] at h1
 simp [sunL] at h1
set_option maxHeartbeats 64000000 in
theorem TopFallen_law (H:List Hl) (aa ba:Option Addr) (ac bc:Nat) (a b:List (BitVec 8)) (fuse torn:Int) (ha:Rs (stars H) B aa ac a) (hb:Rs (stars H) B ba bc b) (hal:a.length≤4611686018427387904) (hbl:b.length≤4611686018427387904) (ht:TabF (stars H)) :
  Spec Tryz.prog 4 [.slice aa a.length ac,.slice ba b.length bc,I fuse,I torn] H (fun _:Unit=>True) (fun _ => .bool true) (fun _=>H):=by
 refine spec_pure (res:=fun _=>[]) H Tryz.func4 rfl Tryz.ntmps4 (by kernel_rfl) rfl (fun W=>?_)
 obtain ⟨hk2,hk22⟩:=two_ok b
 obtain ⟨q1,q2,q3,q4,q5⟩:=hk2.ok.out
 have hi2:=(imgL_b b 2#8).1
 have hct2:count ((twoI b).length:Int) 3=((twoP b).k:Int):=hk2.ct
 obtain ⟨M,hM⟩:∃ M:Nat,M=(BitVec.ofInt 64 fuse).toNat % 600:=⟨_,rfl⟩
 have hMl:M<600:=by rw [hM];exact Nat.mod_lt _ (by omega)
 have hMr:((BitVec.ofInt 64 fuse).toNat:Int) % 600=(M:Int):=by rw [hM];rfl
 obtain ⟨n,hn⟩:∃ n,(twoP b).k=n+1:=⟨(twoP b).k - 1,by omega⟩
 have hsub:((twoP b).k:Int) - 1=(n:Int):=by omega
 have hidn:(BitVec.ofNat 32 n).toNat<(twoP b).k:=by rw [ofN_nat (by omega)];omega
 obtain ⟨f0,d0,hw0,hmake⟩:=top_makeC
 have he1:errOf sunS (mOf (twoP b) 20#32 (twoI b))=0:=errOf_new d0.may (hk2.may _ _) rfl (by show 0<20;decide) (by show 1<20;decide) (fun h=>by cases h) (by decide)
 obtain ⟨f1,d1,hw1,hh1⟩:=top_hearC d0 (by decide) hk2 he1
 have hw1:Blank f1.bs 1536 2048:=hw0.keep hw1
 obtain ⟨S1,hS1⟩:∃ S1,hearS sunS (twoP b) 20#32 (twoI b)=S1:=⟨_,rfl⟩
 have son:S1.on=true:=by rw [←hS1];rfl
 have st_:S1.t=0:=by rw [←hS1];rfl
 have sa:S1.a=0:=by rw [←hS1];rfl
 have sm:S1.m=mOf (twoP b) 20#32 (twoI b):=by rw [←hS1];rfl
 have sgg:S1.g=sunS.g+1#32:=by rw [←hS1];rfl
 have snf:nf S1=S1:=by rw [←hS1];rfl
 rw [hS1,←sgg] at hh1
 rw [hS1] at d1
 have hip2:IsP S1.m (twoP b) (twoI b).length:=by rw [sm];exact mOf_is hk2
 have hsh2:S1.m.h.l=sha (twoI b):=by rw [sm];rfl
 have hW0:WhC f1.bs S1.g (twoP b).z (recL (twoP b) (twoI b) (idsN 0)) (idsN 0).length:=whC_nil d1.few.bs (by have:=(plW_b q4 q5).1;omega) hw1
 repeat' (first|intro _|refine cw ?_|refine cw2 ?_ ?_|(refine k_fn 7 ?_;(refine o1_call (fun _=>tp_heads _ aa ba ac bc a b ha.up hb.up hal hbl) rfl (fun ⟨hb1,hb2⟩ _=>?_);(try dsimp only)))|(refine k_fn 9 ?_;refine o1_call (fun _=>tp_key _) rfl (fun bk _=>?_))|(refine k_buildSlice ?_;refine o1_lit_enc (T:=22) B sunL rfl rfl rfl (fun _=>rfl) rfl rfl rfl (fun br=>?_))|(refine k_convert ?_;refine o1_conv_frz (b:=br) rfl ?_)|refine o1_call (fun hh=>hmake _ (some ⟨bk,0,none⟩) 3 (some ⟨br,0,none⟩) 3 (Rs.up (Rs.of_frz (T:=5) (b:=bk) (l:=keyT) (by decide))) (Rs.up (Rs.of_frz (T:=5) (b:=br) (l:=sunL) (by decide)))) rfl (fun db _=>?_)|refine o1_call_a (dvI keyT f0 sunS db) (fun hh=>hh1 _ db a54 ca54 ht.up (rx_row (T:=5) (ad:=a54) (c:=ca54) (l:=frameB 1#8 (fstP (twoP b) 20#32 (twoI b))) (has_tail hh))) rfl (fun _ _=>?_)|(refine k_fn 10 ?_;(refine o1_call (fun _=>tp_images _ aa ba ac bc a b ha.up hb.up hal hbl) rfl (fun ⟨⟨ia,ic⟩,⟨ja,jc⟩⟩ _=>?_);(try dsimp only)))|(refine k_fn 11 ?_;(refine o1_call (fun _=>r7_Count _ _ _) rfl (fun _ _=>?_);rw [hct2]))|(refine k_fn 13 ?_;(refine o1_call_a (crP keyT (twoP b) 20#32 (twoI b) (sha (twoI b)) hb2) (fun hh=>cr_First _ keyT (twoP b) 20#32 (twoI b) (sha (twoI b)) hb2 hk2) rfl (fun ⟨a54,ca54⟩ _=>?_);(try dsimp only)))|(refine k_binOp .sub ?_;(refine o1_sub rfl rfl (by omega) ?_;rw [hsub]))|refine ow ?_|refine ow2 ?_ ?_|fail)
 refine st_loop (S:=Nat × Fl × Int) (fun q=>[(2,I fuse),(3,I torn),(8,.bool false),(10,.pointer (some ⟨hb2,0,none⟩)),(12,.pointer (some ⟨db,0,none⟩)),(15,.slice ja (twoI b).length jc),(16,I (twoP b).k),(56,I n),(57,I q.1)]) (fun q=>[.any (dvL keyT q.2.1 S1 (stoU (twoP b) S1.g (twoI b) q.2.2 (idsN q.1)) db),twoC b hb2,rowB (ja,jc) (twoI b),.any (stars H)])
  (fun q=>q.1≤n∧DevF q.2.1 4 S1 sunL∧LiveW q.2.1.bs S1.g (twoP b).z q.2.2 (idsN q.1).length∧WhC q.2.1.bs S1.g (twoP b).z (recL (twoP b) (twoI b) (idsN q.1)) (idsN q.1).length) (fun q=>n - q.1) (0,f1, -1) ⟨Nat.zero_le _,d1,live_new _ _ _,hW0⟩ cv ent ?_
 rintro ⟨j,g,rdy⟩ ⟨hj,dg,lg,wg⟩
 dsimp only at hj dg lg wg ⊢
 by_cases hjt:j<n
 ·have hidj:(BitVec.ofNat 32 j).toNat<(twoP b).k:=by rw [ofN_nat (by omega)];omega
  obtain ⟨g1,e1,l1,w1,hpk⟩:=top_takeC (id:=BitVec.ofNat 32 j) dg hk2 son hip2 lg wg (idsN_lt (by omega) (by omega)) (idsN_nodup (by omega)) hidj (idsN_new (by omega)) (by rw [idsN_len];omega) (by omega)
  rw [←idsN_succ] at l1 w1 hpk
  repeat' (first|intro _|refine cw ?_|refine cw2 ?_ ?_|(refine k_convert ?_;(refine o1_conv_iu rfl ?_;rw [BitVec.ofInt_natCast]))|(refine k_fn 14 ?_;(refine o1_call_a (crP keyT (twoP b) 20#32 (twoI b) (sha (twoI b)) hb2) (fun hh=>top_sym hk2 hidj _ hb2 ht.up) rfl (fun ⟨a109,c109⟩ _=>?_);(try dsimp only)))|refine o1_call_a (dvL keyT g S1 (stoU (twoP b) S1.g (twoI b) rdy (idsN j)) db) (fun hh=>hpk _ db a109 c109 ht.up (rx_row (T:=5) (ad:=a109) (c:=c109) (l:=frameB 2#8 (symP (twoP b) (twoI b) (BitVec.ofNat 32 j))) (has_tail hh))) rfl (fun _ _=>?_)|refine ow ?_|refine ow2 ?_ ?_|fail)
  refine nx_again (j+1,g1,_) ⟨by show j+1≤n;omega,e1,l1,w1⟩ (by show n - (j+1)<n - j;omega) cv ?_
  exact ent
 ·have:j=n:=by omega
  subst this
  obtain ⟨u1,u2,u3,u4⟩:=fuseF_up dg.on M torn
  obtain ⟨g1,hg1⟩:∃ g1,fuseF g (some M) torn=g1:=⟨_,rfl⟩
  rw [hg1] at u1 u2 u3 u4
  have hfuse:=fun (H':List Hl) (fb:Nat)=>dv_Fuse_L H' db fb keyT g S1 (stoU (twoP b) S1.g (twoI b) rdy (idsN j)) (some M) torn (fun k hk=>by cases hk;omega)
  rw [hg1] at hfuse
  obtain ⟨v,f2,hfell,hv,hlast⟩:=top_last (dg.c.same u2 u3 u4) (by decide) u1 hk2 son st_ hip2 hsh2 (by rw [u2];exact lg) (by rw [u2];exact wg) hn.symm (by omega) hi2
  obtain ⟨sl,run,hR,hseg,hcase⟩:=fell_run hfell hv
  obtain ⟨D,gz,nz,v3,dz,hpow,hpk3⟩:=top_again hfell (by decide) snf hk2 son st_ hip2 hsh2 hn.symm (by omega) hi2
  have hact:(nf (actS S1)).a=1:=by show 1 - S1.a=1;rw [sa];rfl
  have hrun:=dz.runs
  have hseg3:=dz.slot
  rw [hact] at hrun hseg3
  have hrun:Runs gz 1 (twoI b).length:=hrun
  have hseg3:seg gz.bs (slotA 1) (twoI b).length=twoI b:=hseg3
  have hmz:=dz.may
  obtain ⟨S2,hS2⟩:∃ S2,nf (actS S1)=S2:=⟨_,rfl⟩
  have hS2t:S2.t=3:=by rw [←hS2];rfl
  have hS2o:S2.on=false:=by rw [←hS2];rfl
  rw [hS2] at hpk3 hmz
  have hfuse2:=fun (H':List Hl) (fb:Nat)=>dv_Fuse_P H' db fb keyT f2 none 0 (fun k hk=>by cases hk)
  have hne:=two_ne_sun b
  rcases hcase with ⟨e1,e2⟩|⟨e1,e2⟩|⟨e1,e2⟩
  all_goals
   subst e1
   subst e2
   repeat' (first|intro _|refine cw ?_|refine cw2 ?_ ?_|(refine k_convert ?_;first|(refine o1_conv_iu rfl ?_;rw [BitVec.ofInt_natCast])|refine o1_conv_iu rfl ?_|refine o1_conv_i rfl (by omega) ?_|refine o1_string (ad:=a83) (c:=c83) (xs:=sunL) rfl rfl (rx_row (T:=5) (ad:=a83) (c:=c83) (l:=sunL)) ?_|refine o1_string (ad:=a83) (c:=c83) (xs:=twoI b) rfl rfl (rx_row (T:=5) (ad:=a83) (c:=c83) (l:=twoI b)) ?_|refine o1_string (ad:=ja) (c:=jc) (xs:=twoI b) rfl rfl (rx_row (T:=5) (ad:=ja) (c:=jc) (l:=twoI b)) ?_)|(refine k_binOp .sub ?_;(refine o1_sub rfl rfl (by omega) ?_;rw [hsub]))|(refine k_binOp .rem ?_;(refine o1_rem_nn rfl rfl (by omega) ?_;rw [hMr]))|(refine k_fn 18 ?_;first|refine o1_call_a (dvL keyT g S1 (stoU (twoP b) S1.g (twoI b) rdy (idsN j)) db) (fun _=>dv_Flash_L _ db keyT g S1 (stoU (twoP b) S1.g (twoI b) rdy (idsN j))) rfl (fun fb _=>?_)|refine o1_call_a (dvP keyT f2 db) (fun _=>dv_Flash_P _ db keyT f2) rfl (fun fb2 _=>?_))|refine o1_call_a (dvLf fb keyT g S1 (stoU (twoP b) S1.g (twoI b) rdy (idsN j)) db) (fun _=>hfuse _ fb) rfl (fun _ _=>?_)|refine o1_call_a (dvL keyT g1 S1 (stoU (twoP b) S1.g (twoI b) rdy (idsN j)) db) (fun hh=>hlast _ db a80 c80 ht.up (rx_row (T:=5) (ad:=a80) (c:=c80) (l:=frameB 2#8 (symP (twoP b) (twoI b) (BitVec.ofNat 32 j))) (has_tail hh))) rfl (fun _ _=>?_)|refine o1_call_a (dvPf fb2 keyT f2 db) (fun _=>hfuse2 _ fb2) rfl (fun _ _=>?_)|refine o1_call_a (dvP keyT (fuseF f2 none 0) db) (fun _=>hpow _ db ht.up) rfl (fun _ _=>?_)|refine o1_call_a (D db) (fun hh=>hpk3 _ db a80 c80 ht.up (rx_row (T:=5) (ad:=a80) (c:=c80) (l:=frameB 2#8 (symP (twoP b) (twoI b) (BitVec.ofNat 32 j))) (has_tail hh))) rfl (fun _ _=>?_)|(refine k_fn 14 ?_;(refine o1_call_a (crP keyT (twoP b) 20#32 (twoI b) (sha (twoI b)) hb2) (fun hh=>top_sym hk2 hidn _ hb2 ht.up) rfl (fun ⟨a80,c80⟩ _=>?_);(try dsimp only)))|(refine k_fn 16 ?_;(refine o1_call_a (dvP keyT f2 db) (fun _=>dv_Running_P _ db keyT f2 sl _ hR) rfl (fun ⟨a83,c83⟩ _=>?_);(try dsimp only);rw [hseg]))|(refine k_binOp .neq ?_;first|refine o1_strneq_r (a:=twoI b) (b:=twoI b) (r:=false) rfl rfl (decide_eq_false (fun h=>h rfl)) ?_|refine o1_strneq_r (a:=sunL) (b:=sunL) (r:=false) rfl rfl (by decide) ?_|refine o1_strneq_r (a:=twoI b) (b:=sunL) (r:=true) rfl rfl (decide_eq_true hne) ?_|refine o1_neq_t rfl rfl (by decide) ?_|refine o1_neq_f rfl rfl rfl ?_)|(refine k_binOp .eql ?_;first|refine o1_eql_t rfl rfl rfl ?_|refine o1_eql_f rfl rfl (by decide) ?_)|(refine k_fn 21 ?_;(refine o1_call_a (dvI keyT gz S2 db) (fun _=>dv_State_I _ db keyT gz S2 hmz) rfl (fun ⟨r0,r1,r2⟩ _=>?_);dsimp only [StD.V,StD.c,SlotD.V,SlotD.c,copyS]))|(refine k_alloc ?_;refine o1_alloc rfl (fun b20=>?_))|refine ow ?_|refine ow2 ?_ ?_|fail)
   refine st_stages' [(21,_),(12,_),(15,_),(20,_)] rtD46_0 [3,20] [⟨[0,1,2,5,6],[],some 3⟩,⟨[4,7,8,9,10,11,12,13,14,15,16,17,18,19],[5,6],some 20⟩,⟨[21,22],[],none⟩] mixed cv (by kernel_rfl) (by kernel_rfl) ?_
   repeat' (first|intro _|refine sg ?_|(refine p_convert ?_;refine po (by first|refine o1_string (ad:=a132) (c:=c132) (xs:=twoI b) rfl rfl (rx_row (T:=5) (ad:=a132) (c:=c132) (l:=twoI b)) fz|refine o1_string (ad:=ja) (c:=jc) (xs:=twoI b) rfl rfl (rx_row (T:=5) (ad:=ja) (c:=jc) (l:=twoI b)) fz|fail) ?_)|(refine p_binOp .eql ?_;refine po (by first|refine o1_streq_r (a:=twoI b) (b:=twoI b) (r:=true) rfl rfl (decide_eq_true rfl) fz|refine o1_eql_t rfl rfl rfl fz|fail) ?_)|(refine p_load ?_;refine po (by first|((refine ox_load (b:=b20) (i:=1) rfl rfl ?_;rw [hS2t]);all_goals exact fz)|((refine ox_load (b:=b20) (i:=10) rfl rfl ?_;rw [hS2o]);all_goals exact fz)|fail) ?_)|refine pw ?_|refine pdd ?_|(refine k_fn 16 ?_;(refine o1_call_a (dvI keyT gz S2 db) (fun hh=>dv_Running_I _ db keyT gz S2 1 (twoI b).length hrun) rfl (fun ⟨a132,c132⟩ _=>?_);(try dsimp only);rw [hseg3]))|(refine k_fn 17 ?_;refine o1_call (fun _=>top_awake _ ht.up) rfl (fun _ _=>?_))|refine ow ?_|fail)
   all_goals dsimp only [List.cons_append,List.nil_append]
   repeat' (first|intro _|refine cw ?_|refine cw2 ?_ ?_|refine ow ?_|refine ow2 ?_ ?_|fail)
   refine rt_tmp () rfl rfl rfl trivial ?_
   exact ent
end Go.Dp
