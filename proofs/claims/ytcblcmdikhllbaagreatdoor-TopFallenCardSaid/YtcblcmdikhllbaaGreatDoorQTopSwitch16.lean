/-
  device: what a device is; Packet, walked.
  flash.New: bytes.Repeat of one byte ff, walked.
  device: Make, now, Kept, Flash, walked.
  device: Running, walked.
  What a device does with the power on, plain: made, told of a session, given a piece, finished.
  downpourtop: key, heads, images, walked.
  Conditions: those that stand in each theorem.
-/
import Derived.Test.YtcblcmdikhllbaaGreatDoorQTopSwitch3
import Derived.Test.YtcblcmdikhllbaaGreatDoorQTopSwitch15
import Derived.Test.YtcblcmdikhllbaaGreatDoorQTopSwitch5
import Derived.Test.YtcblcmdikhllbaaGreatDoorQTopSwitch10
import Derived.Test.YtcblcmdikhllbaaGreatDoorQTopSwitch14
import Derived.Test.YtcblcmdikhllbaaGreatDoorQTopSwitch11
import Derived.Test.YtcblcmdikhllbaaGreatDoorQTopSwitch12
import Derived.Test.YtcblcmdikhllbaaGreatDoorQTopSwitch8
set_option linter.unusedVariables false
set_option linter.unusedSimpArgs false
namespace Go.Dp
open Go.RowKit Go.Proofs Sha
def nf (x:StD):StD:=copyS x (none,0) (none,0) (none,0)
theorem nf_may (x:StD):(nf x).may=x.may:=copy_may x _ _ _
theorem nf_cur_v (x:StD):(nf x).cur.v=x.cur.v:=by
 unfold StD.cur
 show (if x.a=0 then (nf x).s0 else (nf x).s1).v=_
 split <;> rfl
theorem nf_err (x:StD) (m:ManD):errOf (nf x) m=errOf x m:=by
 have h1:=nf_may x
 have h2:(nf x).newer m.v=x.newer m.v:=by
  unfold StD.newer
  rw [h1,nf_cur_v]
  rfl
 unfold errOf
 rw [h1,h2]
 rfl
theorem nf_act (x:StD) (q1 q2:PA):nf (copyS (actS x) q1 q2 (none,0))=nf (actS (nf x)):=by
 obtain ⟨a,t,f,g,s0,s1,on,m⟩:=x
 by_cases ha:a=0
 ·simp [nf,copyS,actS,newSl,ha]
 ·simp [nf,copyS,actS,newSl,ha]
theorem nf_act2 (x:StD):nf (actS (nf x))=nf (actS x):=(nf_act x (none,0) (none,0)).symm
theorem nf_act_by (x:StD):(actS (nf x)).by=(actS x).by:=by
 have h1:(actS (nf x)).by=(nf (actS (nf x))).by:=rfl
 have h2:(actS x).by=(nf (actS x)).by:=rfl
 rw [h1,h2,nf_act2]
theorem nf_fin (f:Fl) (x:StD) (im:List (BitVec 8)):finF f (nf x) im=finF f x im:=by
 unfold finF
 rw [nf_act_by]
 rfl
structure Lay where
 fb:Nat
 ad:Option Addr
 c:Nat
 h:Hid
 mb:Nat
 sb:Nat
 ka:Option Addr
 kc:Nat
 x:StD
 A:Hp→Prop
structure DvK (key:List (BitVec 8)) (f:Fl) (l:Lay):Prop where
 fl:FlOk f l.h
 key:Rs l.A B l.ka l.kc key
structure DvX (key:List (BitVec 8)) (f:Fl) (s:StD) (l:Lay):Prop where
 fl:FlOk f l.h
 key:Rs l.A B l.ka l.kc key
 rd:l.x.Rd l.A
 nf:nf l.x=s
abbrev dvA (db:Nat) (key:List (BitVec 8)) (l:Lay) (mp:Option Addr):Hl:=dvB db l.fb l.ka key.length l.kc mp
abbrev flA (f:Fl) (l:Lay):Hl:=fB l.fb l.ad l.c f l.h
abbrev frA (f:Fl) (l:Lay):Hl:=fR l.ad l.c f
def dvI (key:List (BitVec 8)) (f:Fl) (s:StD) (db:Nat):Hp→Prop:=Som (DvX key f s) (fun l=>[dvA db key l (pM l.mb),meB l.mb l.x none,flA f l,frA f l,.any l.A])
def dvL (key:List (BitVec 8)) (f:Fl) (s:StD) (st:Sto) (db:Nat):Hp→Prop:=Som (DvX key f s) (fun l=>[dvA db key l (pM l.mb),meB l.mb l.x (some ⟨l.sb,0,none⟩),.any (stP st l.fb l.sb),flA f l,frA f l,.any l.A])
section
variable {P:Program} {k:Kon} {n:Nat} {e:Ev} {W:World} {H R:List Hl} {key:List (BitVec 8)} {f:Fl} {s:StD} {st:Sto} {db:Nat}
theorem rt_dvI (l:Lay) (hl:DvX key f s l) (hE:Ent H (dvA db key l (pM l.mb)::meB l.mb l.x none::flA f l::frA f l :: .any l.A::R)) (h:Rt P k n e W (.any (dvI key f s db)::R)):Rt P k n e W H:=rt_hide (p:=DvX key f s) (L:=fun l=>[dvA db key l (pM l.mb),meB l.mb l.x none,flA f l,frA f l,.any l.A]) l hl hE h
theorem rt_dvL (l:Lay) (hl:DvX key f s l) (hE:Ent H (dvA db key l (pM l.mb)::meB l.mb l.x (some ⟨l.sb,0,none⟩) :: .any (stP st l.fb l.sb)::flA f l::frA f l :: .any l.A::R)) (h:Rt P k n e W (.any (dvL key f s st db)::R)):Rt P k n e W H:=rt_hide (p:=DvX key f s) (L:=fun l=>[dvA db key l (pM l.mb),meB l.mb l.x (some ⟨l.sb,0,none⟩),.any (stP st l.fb l.sb),flA f l,frA f l,.any l.A]) l hl hE h
end
theorem inn_drop (k:BitVec 8) (b:List (BitVec 8)):(innB k b).drop 3=b:=rfl
set_option maxHeartbeats 8000000 in
theorem pk_hears_I (H:List Hl) (db:Nat) (key:List (BitVec 8)) (f:Fl) (s:StD) (ad2:Option Addr) (m2 c2:Nat) (b:List (BitVec 8)) (hb:Rs (stars H) B ad2 c2 (frameB 1#8 b)) (hm2:m2=b.length+9) (hbl:b.length≤291) (hb1:1≤b.length) (hkl:key.length≤64) (m:ManD) (p:Prm) (len:Nat) (V:BitVec 32→List Bool) (f1:Fl) (hpr:prM key b=(m,0)) (hms:s.may=true) (hmm:m.may=true) (he:errOf s m=0) (hd:f.pw.isDown=false) (hp:IsP m p len) (ht:TabF (stars H)) (hW:cellW f (admitS s m (none,0) (none,0) (none,0)).by=(f1,0)) (hd1:f1.pw.isDown=false) (hV:∀ r∈recsW f1.bs (s.g+1#32) p.z 8,SpRow p r.1 (V r.1)) :
  Spec Tryz.prog 12 [.pointer (some ⟨db,0,none⟩),.slice ad2 m2 c2] (.any (dvI key f s db)::H) (fun _:Unit=>True) (fun _=>I 0) (fun _ => .any (dvL key f1 (admitS s m (none,0) (none,0) (none,0)) (openS p (s.g+1#32) len V f1.bs) db)::H):=by
 refine Spec.som (by kernel_rfl) (fun ⟨fb,ad,c,h,mb,sb,ka,kc,x,A⟩ hl0=>?_)
 obtain ⟨hk,hkey,hx,hnf⟩:=hl0
 dsimp only at hk hkey hx hnf
 subst hnf
 show Spec _ _ _ ([dvB db fb ka key.length kc (pM mb),meB mb x none,fB fb ad c f h,fR ad c f,.any A]++H) _ _ _
 refine spec_fn (res:=fun _:Unit=>[.any (dvL key f1 (admitS (nf x) m (none,0) (none,0) (none,0)) (openS p ((nf x).g+1#32) len V f1.bs) db)]) [dvB db fb ka key.length kc (pM mb),meB mb x none,fB fb ad c f h,fR ad c f,.any A] H Tryz.func12 rfl Tryz.ntmps12 (by kernel_rfl) rfl (fun W=>?_)
 dsimp only [List.cons_append,List.nil_append]
 have he2:errOf x m=0:=by rw [←he,nf_err]
 have hmx:x.may=true:=by rw [←hms,nf_may]
 repeat' (first|intro _|refine cw ?_|refine cw2 ?_ ?_|refine o1_peql rfl rfl ?_|(refine k_fn 33 ?_;refine o1_call (fun _=>dv_LoadH db fb ka key.length kc mb x none) rfl (fun _ _=>?_))|(refine k_fn 34 ?_;(refine o1_call (fun _=>fr_Unwrap _ 1#8 ad2 m2 c2 b hb.up hm2 hbl hb1) rfl (fun ⟨a18,c18⟩ _=>?_);(try dsimp only);rw [show (((1#8:BitVec 8).toNat:Nat):Int)=1 from rfl]))|(refine k_fn 36 ?_;(refine o1_call_to (dvB db fb ka key.length kc (pM mb)::meB mb x none::fB fb ad c f h::fR ad c f::[.row 5 1 (.slice a18 (b.length+3) c18) (b.length+3) ((innB 1#8 b).map B),.any A,.any (stars H)]) (Ent.out ent) (fun hh=>dv_hears _ db fb ka key kc mb ad c f f1 h x none (cutA a18 c18 3) b.length (c18 - 3) b m p len V hkey.up (by omega) (rx_cutl (T:=5) (ad:=a18) (c:=c18) (n:=b.length+3) (l:=innB 1#8 b) (enc:=B) 3 (by rw [innB_len];omega) (inn_drop _ _) (has_tail (has_tail (has_tail (has_tail hh))))) rfl hpr ⟨hx.s0.up,hx.s1.up,hx.m.up⟩ hmx hmm he2 hk hd hp ht.up hW hd1 hV) rfl (fun ⟨h1,⟨mb2,sb2⟩,q0,q1,q2⟩ hk1=>?_);(try dsimp only at hk1 ⊢)))|(refine k_fn 35 ?_;refine o1_call_box (b:=db) (fun _=>dv_met _ db fb ka key.length kc (pM mb2) 0 (by decide)) rfl (fun _ _=>?_))|refine ow ?_|refine ow2 ?_ ?_|fail)
 refine rt_pack [rowL q0 x.s0.h.l,rowL q1 x.s1.h.l,rowL q2 m.h.l,.any A] [dvB db fb ka key.length kc (pM mb2),meB mb2 (admitS x m q0 q1 q2) (some ⟨sb2,0,none⟩),.any (stP (openS p (x.g+1#32) len V f1.bs) fb sb2),fB fb ad c f1 h1,fR ad c f1,.any (stars H)] ent ?_
 refine rt_has (fun hh=>?_)
 have hA:=has_any hh
 refine rt_dvL (l:=⟨fb,ad,c,h1,mb2,sb2,ka,kc,admitS x m q0 q1 q2,stars [rowL q0 x.s0.h.l,rowL q1 x.s1.h.l,rowL q2 m.h.l,.any A]⟩) (R:=[.any (stars H)]) ⟨hk1,rs_gr hkey Gr.of,⟨rx_row (T:=5) (ad:=q0.1) (c:=q0.2) (l:=x.s0.h.l) hA,rx_row (T:=5) (ad:=q1.1) (c:=q1.2) (l:=x.s1.h.l) hA,rx_row (T:=5) (ad:=q2.1) (c:=q2.2) (l:=m.h.l) hA⟩,rfl⟩ ent ?_
 refine rt_tmp () rfl rfl rfl trivial ?_
 exact ent
set_option maxHeartbeats 8000000 in
theorem pk_hears_no_L (H:List Hl) (db:Nat) (key:List (BitVec 8)) (f:Fl) (s:StD) (st:Sto) (ad2:Option Addr) (m2 c2:Nat) (b:List (BitVec 8)) (hb:Rs (stars H) B ad2 c2 (frameB 1#8 b)) (hm2:m2=b.length+9) (hbl:b.length≤291) (hb1:1≤b.length) (hkl:key.length≤64) (m:ManD) (e:Int) (hpr:prM key b=(m,0)) (he:errOf s m=e) (hne:e≠0) (h11:e≠11) :
  Spec Tryz.prog 12 [.pointer (some ⟨db,0,none⟩),.slice ad2 m2 c2] (.any (dvL key f s st db)::H) (fun _:Unit=>True) (fun _=>I e) (fun _ => .any (dvL key f s st db)::H):=by
 refine Spec.som (by kernel_rfl) (fun ⟨fb,ad,c,h,mb,sb,ka,kc,x,A⟩ hl0=>?_)
 obtain ⟨hk,hkey,hx,hnf⟩:=hl0
 dsimp only at hk hkey hx hnf
 subst hnf
 show Spec _ _ _ ([dvB db fb ka key.length kc (pM mb),meB mb x (some ⟨sb,0,none⟩),.any (stP st fb sb),fB fb ad c f h,fR ad c f,.any A]++H) _ _ _
 refine spec_fn (res:=fun _:Unit=>[.any (dvL key f (nf x) st db)]) [dvB db fb ka key.length kc (pM mb),meB mb x (some ⟨sb,0,none⟩),.any (stP st fb sb),fB fb ad c f h,fR ad c f,.any A] H Tryz.func12 rfl Tryz.ntmps12 (by kernel_rfl) rfl (fun W=>?_)
 dsimp only [List.cons_append,List.nil_append]
 have he2:errOf x m=e:=by rw [←he,nf_err]
 repeat' (first|intro _|refine cw ?_|refine cw2 ?_ ?_|refine o1_peql rfl rfl ?_|(refine k_fn 33 ?_;refine o1_call (fun _=>dv_LoadH db fb ka key.length kc mb x (some ⟨sb,0,none⟩)) rfl (fun _ _=>?_))|(refine k_fn 34 ?_;(refine o1_call (fun _=>fr_Unwrap _ 1#8 ad2 m2 c2 b hb.up hm2 hbl hb1) rfl (fun ⟨a18,c18⟩ _=>?_);(try dsimp only);rw [show (((1#8:BitVec 8).toNat:Nat):Int)=1 from rfl]))|(refine k_fn 36 ?_;(refine o1_call_to (dvB db fb ka key.length kc (pM mb)::meB mb x (some ⟨sb,0,none⟩)::[.row 5 1 (.slice a18 (b.length+3) c18) (b.length+3) ((innB 1#8 b).map B),.any (stP st fb sb),fB fb ad c f h,fR ad c f,.any A,.any (stars H)]) (Ent.out ent) (fun hh=>dv_hears_no _ db fb ka key kc mb x (some ⟨sb,0,none⟩) (cutA a18 c18 3) b.length (c18 - 3) b m e hkey.up (by omega) (rx_cutl (T:=5) (ad:=a18) (c:=c18) (n:=b.length+3) (l:=innB 1#8 b) (enc:=B) 3 (by rw [innB_len];omega) (inn_drop _ _) (has_tail (has_tail hh))) rfl hpr ⟨hx.s0.up,hx.s1.up,hx.m.up⟩ he2 hne) rfl (fun _ _=>?_)))|(refine k_fn 35 ?_;refine o1_call_box (b:=db) (fun _=>dv_met _ db fb ka key.length kc (pM mb) e h11) rfl (fun _ _=>?_))|refine ow ?_|refine ow2 ?_ ?_|fail)
 refine rt_dvL (l:=⟨fb,ad,c,h,mb,sb,ka,kc,x,A⟩) (R:=[.any (stars H)]) ⟨hk,hkey,hx,rfl⟩ ent ?_
 refine rt_tmp () rfl rfl rfl trivial ?_
 exact ent
set_option maxHeartbeats 8000000 in
theorem pk_hears_L (H:List Hl) (db:Nat) (key:List (BitVec 8)) (f:Fl) (s:StD) (st:Sto) (ad2:Option Addr) (m2 c2:Nat) (b:List (BitVec 8)) (hb:Rs (stars H) B ad2 c2 (frameB 1#8 b)) (hm2:m2=b.length+9) (hbl:b.length≤291) (hb1:1≤b.length) (hkl:key.length≤64) (m:ManD) (p:Prm) (len:Nat) (V:BitVec 32→List Bool) (f1:Fl) (hpr:prM key b=(m,0)) (hms:s.may=true) (hmm:m.may=true) (he:errOf s m=0) (hd:f.pw.isDown=false) (hp:IsP m p len) (ht:TabF (stars H)) (hW:cellW f (admitS s m (none,0) (none,0) (none,0)).by=(f1,0)) (hd1:f1.pw.isDown=false) (hV:∀ r∈recsW f1.bs (s.g+1#32) p.z 8,SpRow p r.1 (V r.1)) :
  Spec Tryz.prog 12 [.pointer (some ⟨db,0,none⟩),.slice ad2 m2 c2] (.any (dvL key f s st db)::H) (fun _:Unit=>True) (fun _=>I 0) (fun _ => .any (dvL key f1 (admitS s m (none,0) (none,0) (none,0)) (openS p (s.g+1#32) len V f1.bs) db)::H):=by
 refine Spec.som (by kernel_rfl) (fun ⟨fb,ad,c,h,mb,sb,ka,kc,x,A⟩ hl0=>?_)
 obtain ⟨hk,hkey,hx,hnf⟩:=hl0
 dsimp only at hk hkey hx hnf
 subst hnf
 show Spec _ _ _ ([dvB db fb ka key.length kc (pM mb),meB mb x (some ⟨sb,0,none⟩),.any (stP st fb sb),fB fb ad c f h,fR ad c f,.any A]++H) _ _ _
 refine spec_fn (res:=fun _:Unit=>[.any (dvL key f1 (admitS (nf x) m (none,0) (none,0) (none,0)) (openS p ((nf x).g+1#32) len V f1.bs) db)]) [dvB db fb ka key.length kc (pM mb),meB mb x (some ⟨sb,0,none⟩),.any (stP st fb sb),fB fb ad c f h,fR ad c f,.any A] H Tryz.func12 rfl Tryz.ntmps12 (by kernel_rfl) rfl (fun W=>?_)
 dsimp only [List.cons_append,List.nil_append]
 have he2:errOf x m=0:=by rw [←he,nf_err]
 have hmx:x.may=true:=by rw [←hms,nf_may]
 repeat' (first|intro _|refine cw ?_|refine cw2 ?_ ?_|refine o1_peql rfl rfl ?_|(refine k_fn 33 ?_;refine o1_call (fun _=>dv_LoadH db fb ka key.length kc mb x (some ⟨sb,0,none⟩)) rfl (fun _ _=>?_))|(refine k_fn 34 ?_;(refine o1_call (fun _=>fr_Unwrap _ 1#8 ad2 m2 c2 b hb.up hm2 hbl hb1) rfl (fun ⟨a18,c18⟩ _=>?_);(try dsimp only);rw [show (((1#8:BitVec 8).toNat:Nat):Int)=1 from rfl]))|(refine k_fn 36 ?_;(refine o1_call_to (dvB db fb ka key.length kc (pM mb)::meB mb x (some ⟨sb,0,none⟩)::fB fb ad c f h::fR ad c f::[.row 5 1 (.slice a18 (b.length+3) c18) (b.length+3) ((innB 1#8 b).map B),.any (stP st fb sb),.any A,.any (stars H)]) (Ent.out ent) (fun hh=>dv_hears _ db fb ka key kc mb ad c f f1 h x (some ⟨sb,0,none⟩) (cutA a18 c18 3) b.length (c18 - 3) b m p len V hkey.up (by omega) (rx_cutl (T:=5) (ad:=a18) (c:=c18) (n:=b.length+3) (l:=innB 1#8 b) (enc:=B) 3 (by rw [innB_len];omega) (inn_drop _ _) (has_tail (has_tail (has_tail (has_tail hh))))) rfl hpr ⟨hx.s0.up,hx.s1.up,hx.m.up⟩ hmx hmm he2 hk hd hp ht.up hW hd1 hV) rfl (fun ⟨h1,⟨mb2,sb2⟩,q0,q1,q2⟩ hk1=>?_);(try dsimp only at hk1 ⊢)))|(refine k_fn 35 ?_;refine o1_call_box (b:=db) (fun _=>dv_met _ db fb ka key.length kc (pM mb2) 0 (by decide)) rfl (fun _ _=>?_))|refine ow ?_|refine ow2 ?_ ?_|fail)
 refine rt_pack [rowL q0 x.s0.h.l,rowL q1 x.s1.h.l,rowL q2 m.h.l,.any A] [dvB db fb ka key.length kc (pM mb2),meB mb2 (admitS x m q0 q1 q2) (some ⟨sb2,0,none⟩),.any (stP (openS p (x.g+1#32) len V f1.bs) fb sb2),fB fb ad c f1 h1,fR ad c f1,.any (stars H)] ent ?_
 refine rt_has (fun hh=>?_)
 have hA:=has_any hh
 refine rt_dvL (l:=⟨fb,ad,c,h1,mb2,sb2,ka,kc,admitS x m q0 q1 q2,stars [rowL q0 x.s0.h.l,rowL q1 x.s1.h.l,rowL q2 m.h.l,.any A]⟩) (R:=[.any (stars H)]) ⟨hk1,rs_gr hkey Gr.of,⟨rx_row (T:=5) (ad:=q0.1) (c:=q0.2) (l:=x.s0.h.l) hA,rx_row (T:=5) (ad:=q1.1) (c:=q1.2) (l:=x.s1.h.l) hA,rx_row (T:=5) (ad:=q2.1) (c:=q2.2) (l:=m.h.l) hA⟩,rfl⟩ ent ?_
 refine rt_tmp () rfl rfl rfl trivial ?_
 exact ent
set_option maxHeartbeats 8000000 in
theorem pk_takes_off (H:List Hl) (db:Nat) (key:List (BitVec 8)) (f:Fl) (s:StD) (ad2:Option Addr) (m2 c2:Nat) (b:List (BitVec 8)) (hb:Rs (stars H) B ad2 c2 (frameB 2#8 b)) (hm2:m2=b.length+9) (hbl:b.length≤291) (hb1:1≤b.length) (hkl:key.length≤64) (ss id:BitVec 32) (xs:List (BitVec 8)) (hsym:symB ss id xs=b) (hx1:1≤xs.length) (hx2:xs.length≤16) (ho:s.on=false) :
  Spec Tryz.prog 12 [.pointer (some ⟨db,0,none⟩),.slice ad2 m2 c2] (.any (dvI key f s db)::H) (fun _:Unit=>True) (fun _=>I 14) (fun _ => .any (dvI key f s db)::H):=by
 refine Spec.som (by kernel_rfl) (fun ⟨fb,ad,c,h,mb,sb,ka,kc,x,A⟩ hl0=>?_)
 obtain ⟨hk,hkey,hx,hnf⟩:=hl0
 dsimp only at hk hkey hx hnf
 subst hnf
 show Spec _ _ _ ([dvB db fb ka key.length kc (pM mb),meB mb x none,fB fb ad c f h,fR ad c f,.any A]++H) _ _ _
 refine spec_fn (res:=fun _:Unit=>[.any (dvI key f (nf x) db)]) [dvB db fb ka key.length kc (pM mb),meB mb x none,fB fb ad c f h,fR ad c f,.any A] H Tryz.func12 rfl Tryz.ntmps12 (by kernel_rfl) rfl (fun W=>?_)
 dsimp only [List.cons_append,List.nil_append]
 have hml:b.length=xs.length+8:=by rw [←hsym];simp [symB,be4]
 repeat' (first|intro _|refine cw ?_|refine cw2 ?_ ?_|refine o1_peql rfl rfl ?_|(refine k_fn 33 ?_;refine o1_call (fun _=>dv_LoadH db fb ka key.length kc mb x none) rfl (fun _ _=>?_))|(refine k_fn 34 ?_;(refine o1_call (fun _=>fr_Unwrap _ 2#8 ad2 m2 c2 b hb.up hm2 hbl hb1) rfl (fun ⟨a18,c18⟩ _=>?_);(try dsimp only);rw [show (((2#8:BitVec 8).toNat:Nat):Int)=2 from rfl]))|(refine k_fn 37 ?_;(refine o1_call_to (dvB db fb ka key.length kc (pM mb)::meB mb x none::[.row 5 1 (.slice a18 (b.length+3) c18) (b.length+3) ((innB 2#8 b).map B),fB fb ad c f h,fR ad c f,.any A,.any (stars H)]) (Ent.out ent) (fun hh=>dv_takes_off _ db fb ka key.length kc mb x none (cutA a18 c18 3) b.length (c18 - 3) ss id xs (rx_cutl (T:=5) (ad:=a18) (c:=c18) (n:=b.length+3) (l:=innB 2#8 b) (enc:=B) 3 (by rw [innB_len];omega) ((inn_drop _ _).trans hsym.symm) (has_tail (has_tail hh))) hml hx1 hx2 ho) rfl (fun _ _=>?_);(try dsimp only)))|(refine k_fn 35 ?_;refine o1_call_box (b:=db) (fun _=>dv_met _ db fb ka key.length kc (pM mb) 14 (by decide)) rfl (fun _ _=>?_))|refine ow ?_|refine ow2 ?_ ?_|fail)
 refine rt_dvI (l:=⟨fb,ad,c,h,mb,sb,ka,kc,x,A⟩) (R:=[.any (stars H)]) ⟨hk,hkey,hx,rfl⟩ ent ?_
 refine rt_tmp () rfl rfl rfl trivial ?_
 exact ent
set_option maxHeartbeats 8000000 in
theorem pk_takes_fit (H:List Hl) (db:Nat) (key:List (BitVec 8)) (f:Fl) (s:StD) (st:Sto) (ad2:Option Addr) (m2 c2:Nat) (b:List (BitVec 8)) (hb:Rs (stars H) B ad2 c2 (frameB 2#8 b)) (hm2:m2=b.length+9) (hbl:b.length≤291) (hb1:1≤b.length) (hkl:key.length≤64) (ss id:BitVec 32) (xs:List (BitVec 8)) (hsym:symB ss id xs=b) (hx1:1≤xs.length) (hx2:xs.length≤16) (p:Prm) (len:Nat) (e:Int) (ho:s.on=true) (hp:IsP s.m p len) (he:fitsP p.k p.p p.z ss p.s xs.length=e) (hne:e≠0) (h11:e≠11) :
  Spec Tryz.prog 12 [.pointer (some ⟨db,0,none⟩),.slice ad2 m2 c2] (.any (dvL key f s st db)::H) (fun _:Unit=>True) (fun _=>I e) (fun _ => .any (dvL key f s st db)::H):=by
 refine Spec.som (by kernel_rfl) (fun ⟨fb,ad,c,h,mb,sb,ka,kc,x,A⟩ hl0=>?_)
 obtain ⟨hk,hkey,hx,hnf⟩:=hl0
 dsimp only at hk hkey hx hnf
 subst hnf
 show Spec _ _ _ ([dvB db fb ka key.length kc (pM mb),meB mb x (some ⟨sb,0,none⟩),.any (stP st fb sb),fB fb ad c f h,fR ad c f,.any A]++H) _ _ _
 refine spec_fn (res:=fun _:Unit=>[.any (dvL key f (nf x) st db)]) [dvB db fb ka key.length kc (pM mb),meB mb x (some ⟨sb,0,none⟩),.any (stP st fb sb),fB fb ad c f h,fR ad c f,.any A] H Tryz.func12 rfl Tryz.ntmps12 (by kernel_rfl) rfl (fun W=>?_)
 dsimp only [List.cons_append,List.nil_append]
 have hml:b.length=xs.length+8:=by rw [←hsym];simp [symB,be4]
 repeat' (first|intro _|refine cw ?_|refine cw2 ?_ ?_|refine o1_peql rfl rfl ?_|(refine k_fn 33 ?_;refine o1_call (fun _=>dv_LoadH db fb ka key.length kc mb x (some ⟨sb,0,none⟩)) rfl (fun _ _=>?_))|(refine k_fn 34 ?_;(refine o1_call (fun _=>fr_Unwrap _ 2#8 ad2 m2 c2 b hb.up hm2 hbl hb1) rfl (fun ⟨a18,c18⟩ _=>?_);(try dsimp only);rw [show (((2#8:BitVec 8).toNat:Nat):Int)=2 from rfl]))|(refine k_fn 37 ?_;(refine o1_call_to (dvB db fb ka key.length kc (pM mb)::meB mb x (some ⟨sb,0,none⟩)::[.row 5 1 (.slice a18 (b.length+3) c18) (b.length+3) ((innB 2#8 b).map B),.any (stP st fb sb),fB fb ad c f h,fR ad c f,.any A,.any (stars H)]) (Ent.out ent) (fun hh=>dv_takes_fit _ db fb ka key.length kc mb x (some ⟨sb,0,none⟩) (cutA a18 c18 3) b.length (c18 - 3) ss id xs (rx_cutl (T:=5) (ad:=a18) (c:=c18) (n:=b.length+3) (l:=innB 2#8 b) (enc:=B) 3 (by rw [innB_len];omega) ((inn_drop _ _).trans hsym.symm) (has_tail (has_tail hh))) hml hx1 hx2 p len e ho ⟨hp.ok,hp.es,hp.en,hp.ez,hp.ep,hp.ec⟩ he hne) rfl (fun _ _=>?_);(try dsimp only)))|(refine k_fn 35 ?_;refine o1_call_box (b:=db) (fun _=>dv_met _ db fb ka key.length kc (pM mb) e h11) rfl (fun _ _=>?_))|refine ow ?_|refine ow2 ?_ ?_|fail)
 refine rt_dvL (l:=⟨fb,ad,c,h,mb,sb,ka,kc,x,A⟩) (R:=[.any (stars H)]) ⟨hk,hkey,hx,rfl⟩ ent ?_
 refine rt_tmp () rfl rfl rfl trivial ?_
 exact ent
set_option maxHeartbeats 8000000 in
theorem pk_takes (H:List Hl) (db:Nat) (key:List (BitVec 8)) (f:Fl) (s:StD) (st:Sto) (ad2:Option Addr) (m2 c2:Nat) (b:List (BitVec 8)) (hb:Rs (stars H) B ad2 c2 (frameB 2#8 b)) (hm2:m2=b.length+9) (hbl:b.length≤291) (hb1:1≤b.length) (hkl:key.length≤64) (ss id:BitVec 32) (xs:List (BitVec 8)) (hsym:symB ss id xs=b) (hx1:1≤xs.length) (hx2:xs.length≤16) (len:Nat) (v:List Bool) (ho:s.on=true) (hp:IsP s.m st.p len) (hss:ss=st.p.s) (hz:xs.length=st.p.z) (hR:RR st.p.n st.p.z st.d.M) (htk:st.d.t≤1000) (hv:SpRow st.p id v) (hd:f.pw.isDown=false) (hn:st.nxt≤8*plW st.p.z) (ht:TabF (stars H)) (f1:Fl) (st1:Sto) (hput:putS st f id v xs=(st1,f1,0)) (hp1:st1.p.ok) (hb2:cntS st1.d.M≤1000) (hnd:((st1.p.n:Int) - cntS st1.d.M)≠0) :
  Spec Tryz.prog 12 [.pointer (some ⟨db,0,none⟩),.slice ad2 m2 c2] (.any (dvL key f s st db)::H) (fun _:Unit=>True) (fun _=>I 0) (fun _ => .any (dvL key f1 s st1 db)::H):=by
 refine Spec.som (by kernel_rfl) (fun ⟨fb,ad,c,h,mb,sb,ka,kc,x,A⟩ hl0=>?_)
 obtain ⟨hk,hkey,hx,hnf⟩:=hl0
 dsimp only at hk hkey hx hnf
 subst hnf
 show Spec _ _ _ ([dvB db fb ka key.length kc (pM mb),meB mb x (some ⟨sb,0,none⟩),.any (stP st fb sb),fB fb ad c f h,fR ad c f,.any A]++H) _ _ _
 refine spec_fn (res:=fun _:Unit=>[.any (dvL key f1 (nf x) st1 db)]) [dvB db fb ka key.length kc (pM mb),meB mb x (some ⟨sb,0,none⟩),.any (stP st fb sb),fB fb ad c f h,fR ad c f,.any A] H Tryz.func12 rfl Tryz.ntmps12 (by kernel_rfl) rfl (fun W=>?_)
 dsimp only [List.cons_append,List.nil_append]
 have hml:b.length=xs.length+8:=by rw [←hsym];simp [symB,be4]
 repeat' (first|intro _|refine cw ?_|refine cw2 ?_ ?_|refine o1_peql rfl rfl ?_|(refine k_fn 33 ?_;refine o1_call (fun _=>dv_LoadH db fb ka key.length kc mb x (some ⟨sb,0,none⟩)) rfl (fun _ _=>?_))|(refine k_fn 34 ?_;(refine o1_call (fun _=>fr_Unwrap _ 2#8 ad2 m2 c2 b hb.up hm2 hbl hb1) rfl (fun ⟨a18,c18⟩ _=>?_);(try dsimp only);rw [show (((2#8:BitVec 8).toNat:Nat):Int)=2 from rfl]))|(refine k_fn 37 ?_;(refine o1_call_to (dvB db fb ka key.length kc (pM mb)::meB mb x (some ⟨sb,0,none⟩) :: .any (stP st fb sb)::fB fb ad c f h::fR ad c f::[.row 5 1 (.slice a18 (b.length+3) c18) (b.length+3) ((innB 2#8 b).map B),.any A,.any (stars H)]) (Ent.out ent) (fun hh=>dv_takes _ db fb ka key.length kc mb x sb (cutA a18 c18 3) b.length (c18 - 3) ss id xs (rx_cutl (T:=5) (ad:=a18) (c:=c18) (n:=b.length+3) (l:=innB 2#8 b) (enc:=B) 3 (by rw [innB_len];omega) ((inn_drop _ _).trans hsym.symm) (has_tail (has_tail (has_tail (has_tail (has_tail hh)))))) hml hx1 hx2 ad c f h st len v ho ⟨hp.ok,hp.es,hp.en,hp.ez,hp.ep,hp.ec⟩ hss hz hR htk hv hk hd hn ht.up f1 st1 hput hp1 hb2 hnd) rfl (fun h1 hk1=>?_);(try dsimp only)))|(refine k_fn 35 ?_;refine o1_call_box (b:=db) (fun _=>dv_met _ db fb ka key.length kc (pM mb) 0 (by decide)) rfl (fun _ _=>?_))|refine ow ?_|refine ow2 ?_ ?_|fail)
 refine rt_dvL (l:=⟨fb,ad,c,h1,mb,sb,ka,kc,x,A⟩) (R:=[.any (stars H)]) ⟨hk1,hkey,hx,rfl⟩ ent ?_
 refine rt_tmp () rfl rfl rfl trivial ?_
 exact ent
set_option maxHeartbeats 8000000 in
theorem pk_takes_fin (H:List Hl) (db:Nat) (key:List (BitVec 8)) (f:Fl) (s:StD) (st:Sto) (ad2:Option Addr) (m2 c2:Nat) (b:List (BitVec 8)) (hb:Rs (stars H) B ad2 c2 (frameB 2#8 b)) (hm2:m2=b.length+9) (hbl:b.length≤291) (hb1:1≤b.length) (hkl:key.length≤64) (ss id:BitVec 32) (xs:List (BitVec 8)) (hsym:symB ss id xs=b) (hx1:1≤xs.length) (hx2:xs.length≤16) (len:Nat) (v:List Bool) (ho:s.on=true) (hp:IsP s.m st.p len) (hss:ss=st.p.s) (hz:xs.length=st.p.z) (hR:RR st.p.n st.p.z st.d.M) (htk:st.d.t≤1000) (hv:SpRow st.p id v) (hd:f.pw.isDown=false) (hn:st.nxt≤8*plW st.p.z) (ht:TabF (stars H)) (f1:Fl) (st1:Sto) (hput:putS st f id v xs=(st1,f1,0)) (hp1:st1.p.ok) (hb2:cntS st1.d.M≤1000) (hnd:cntS st1.d.M=st1.p.n) (im:List (BitVec 8)) (hR1:RR st1.p.n st1.p.z st1.d.M) (hl:count st1.len st1.p.z=st1.p.k) (him:imgB st1.p st1.d st1.len=im) (hi1:1≤im.length) (hi2:im.length≤512) (hsh:sha im=s.m.h.l) (hd1:f1.pw.isDown=false) (hms:s.may=true) (htr:s.t=0) (f2:Fl) (hF:finF f1 s im=(f2,0)) :
  Spec Tryz.prog 12 [.pointer (some ⟨db,0,none⟩),.slice ad2 m2 c2] (.any (dvL key f s st db)::H) (fun _:Unit=>True) (fun _=>I 0) (fun _ => .any (dvI key f2 (Go.Dp.nf (actS s)) db)::H):=by
 refine Spec.som (by kernel_rfl) (fun ⟨fb,ad,c,h,mb,sb,ka,kc,x,A⟩ hl0=>?_)
 obtain ⟨hk,hkey,hx,hnf⟩:=hl0
 dsimp only at hk hkey hx hnf
 subst hnf
 show Spec _ _ _ ([dvB db fb ka key.length kc (pM mb),meB mb x (some ⟨sb,0,none⟩),.any (stP st fb sb),fB fb ad c f h,fR ad c f,.any A]++H) _ _ _
 refine spec_fn (res:=fun _:Unit=>[.any (dvI key f2 (Go.Dp.nf (actS (nf x))) db)]) [dvB db fb ka key.length kc (pM mb),meB mb x (some ⟨sb,0,none⟩),.any (stP st fb sb),fB fb ad c f h,fR ad c f,.any A] H Tryz.func12 rfl Tryz.ntmps12 (by kernel_rfl) rfl (fun W=>?_)
 dsimp only [List.cons_append,List.nil_append]
 have hml:b.length=xs.length+8:=by rw [←hsym];simp [symB,be4]
 have hmx:x.may=true:=by rw [←hms,nf_may]
 rw [nf_fin] at hF
 have hF2:finF f1 x im=(f2,0):=hF
 repeat' (first|intro _|refine cw ?_|refine cw2 ?_ ?_|refine o1_peql rfl rfl ?_|(refine k_fn 33 ?_;refine o1_call (fun _=>dv_LoadH db fb ka key.length kc mb x (some ⟨sb,0,none⟩)) rfl (fun _ _=>?_))|(refine k_fn 34 ?_;(refine o1_call (fun _=>fr_Unwrap _ 2#8 ad2 m2 c2 b hb.up hm2 hbl hb1) rfl (fun ⟨a18,c18⟩ _=>?_);(try dsimp only);rw [show (((2#8:BitVec 8).toNat:Nat):Int)=2 from rfl]))|(refine k_fn 37 ?_;(refine o1_call_to (dvB db fb ka key.length kc (pM mb)::meB mb x (some ⟨sb,0,none⟩) :: .any (stP st fb sb)::fB fb ad c f h::fR ad c f::[.row 5 1 (.slice a18 (b.length+3) c18) (b.length+3) ((innB 2#8 b).map B),.any A,.any (stars H)]) (Ent.out ent) (fun hh=>dv_takes_fin _ db fb ka key.length kc mb x sb (cutA a18 c18 3) b.length (c18 - 3) ss id xs (rx_cutl (T:=5) (ad:=a18) (c:=c18) (n:=b.length+3) (l:=innB 2#8 b) (enc:=B) 3 (by rw [innB_len];omega) ((inn_drop _ _).trans hsym.symm) (has_tail (has_tail (has_tail (has_tail (has_tail hh)))))) hml hx1 hx2 ad c f h st len v ho ⟨hp.ok,hp.es,hp.en,hp.ez,hp.ep,hp.ec⟩ hss hz hR htk hv hk hd hn ht.up f1 st1 hput hp1 hb2 hnd im hR1 hl him hi1 hi2 hsh hd1 hmx htr ⟨hx.s0.up,hx.s1.up,hx.m.up⟩ f2 hF2) rfl (fun ⟨h2,mb2,q1,q2⟩ hk2=>?_);(try dsimp only at hk2 ⊢)))|(refine k_fn 35 ?_;refine o1_call_box (b:=db) (fun _=>dv_met _ db fb ka key.length kc (pM mb2) 0 (by decide)) rfl (fun _ _=>?_))|refine ow ?_|refine ow2 ?_ ?_|fail)
 refine rt_pack [rowL q1 (actS x).s0.h.l,rowL q2 (actS x).s1.h.l,.any A] [dvB db fb ka key.length kc (pM mb2),meB mb2 (copyS (actS x) q1 q2 (none,0)) none,fB fb ad c f2 h2,fR ad c f2,.any (stars H)] ent ?_
 refine rt_has (fun hh=>?_)
 have hA:=has_any hh
 refine rt_dvI (l:=⟨fb,ad,c,h2,mb2,sb,ka,kc,copyS (actS x) q1 q2 (none,0),stars [rowL q1 (actS x).s0.h.l,rowL q2 (actS x).s1.h.l,.any A]⟩) (R:=[.any (stars H)]) ⟨hk2,rs_gr hkey Gr.of,⟨rx_row (T:=5) (ad:=q1.1) (c:=q1.2) (l:=(actS x).s0.h.l) hA,rx_row (T:=5) (ad:=q2.1) (c:=q2.2) (l:=(actS x).s1.h.l) hA,rs00 hA⟩,nf_act x q1 q2⟩ ent ?_
 refine rt_tmp () rfl rfl rfl trivial ?_
 exact ent
end Go.Dp
namespace Go.Dp
open Go.RowKit Go.Proofs
def rtD31_0:List Row:=[⟨some 67,[],[],none⟩,⟨some 68,[],[],none⟩,⟨some 69,[],[],none⟩,⟨some 70,[1,2],[1,2],none⟩,⟨some 71,[],[],none⟩,⟨some 72,[],[],none⟩,⟨some 73,[4,5],[4,5],none⟩,⟨some 74,[3,6],[1,2,3,4,5,6],none⟩,⟨some 75,[0,7],[0,1,2,3,4,5,6,7],none⟩,⟨some 10,[8,7,0,1,2,3,4,5,6,7,8],[0,1,2,3,4,5,6,7,8],none⟩]
section
variable {P:Program} {n:Nat} {H:List Hl} {e:Ev} {C:Value→List Hl→Prop} {ty t t':TypeId} {x y:Operand} {p q r:Int} {kd':IntKind}
abbrev in64 (p:Int):Prop:=0≤p∧p<((2 ^ 64:Nat):Int)
theorem o1_kand (hx:opd e x=some (.int .u64 p)) (hy:opd e y=some (.int .u64 q)) (hr:in64 p∧in64 q∧((BitVec.ofInt 64 p &&& BitVec.ofInt 64 q).toNat:Int)=r) (h:C (.int .u64 r) H):O1 P (.binOp .and t x y t') ty n e H C :=
 o1_uand (u:=BitVec.ofInt 64 p) (v:=BitVec.ofInt 64 q) (by rw [hx,bv_of hr.1.1 hr.1.2]) (by rw [hy,bv_of hr.2.1.1 hr.2.1.2]) (by rw [hr.2.2];exact h)
theorem o1_kmul (hx:opd e x=some (.int .u64 p)) (hy:opd e y=some (.int .u64 q)) (hr:in64 p∧in64 q∧((BitVec.ofInt 64 p*BitVec.ofInt 64 q).toNat:Int)=r) (h:C (.int .u64 r) H):O1 P (.binOp .mul t x y t') ty n e H C :=
 o1_umul (u:=BitVec.ofInt 64 p) (v:=BitVec.ofInt 64 q) (by rw [hx,bv_of hr.1.1 hr.1.2]) (by rw [hy,bv_of hr.2.1.1 hr.2.1.2]) (by rw [hr.2.2];exact h)
theorem o1_kadd (hx:opd e x=some (.int .u64 p)) (hy:opd e y=some (.int .u64 q)) (hr:in64 p∧in64 q∧((BitVec.ofInt 64 p+BitVec.ofInt 64 q).toNat:Int)=r) (h:C (.int .u64 r) H):O1 P (.binOp .add t x y t') ty n e H C :=
 o1_uadd (u:=BitVec.ofInt 64 p) (v:=BitVec.ofInt 64 q) (by rw [hx,bv_of hr.1.1 hr.1.2]) (by rw [hy,bv_of hr.2.1.1 hr.2.1.2]) (by rw [hr.2.2];exact h)
theorem o1_kshr (hx:opd e x=some (.int .u64 p)) (hy:opd e y=some (.int kd' q)) (hr:in64 p∧0≤q∧((BitVec.ofInt 64 p >>> q.toNat).toNat:Int)=r) (h:C (.int .u64 r) H):O1 P (.binOp .shr t x y t') ty n e H C :=
 o1_ushr (u:=BitVec.ofInt 64 p) (by rw [hx,bv_of hr.1.1 hr.1.2]) hy hr.2.1 (by rw [hr.2.2];exact h)
end
theorem bits_Mul64_c (H:List Hl) :
  Spec Tryz.prog 155 [.int .u64 1,.int .u64 3584] H (fun _:Unit=>True) (fun _ => .tuple #[.int .u64 0,.int .u64 3584]) (fun _=>H):=by
 refine spec_pure (res:=fun _=>[]) H Tryz.func155 rfl Tryz.ntmps155 (by kernel_rfl) rfl (fun W=>?_)
 repeat' (first|intro _|refine cw ?_|refine cw2 ?_ ?_|refine o1_kand (r:=0) rfl rfl (by decide) ?_|refine o1_kand (r:=1) rfl rfl (by decide) ?_|refine o1_kand (r:=3584) rfl rfl (by decide) ?_|refine o1_kshr (r:=0) rfl rfl (by decide) ?_|refine o1_kshr (r:=1) rfl rfl (by decide) ?_|refine o1_kshr (r:=3584) rfl rfl (by decide) ?_|refine o1_kmul (r:=0) rfl rfl (by decide) ?_|refine o1_kmul (r:=1) rfl rfl (by decide) ?_|refine o1_kmul (r:=3584) rfl rfl (by decide) ?_|refine o1_kadd (r:=0) rfl rfl (by decide) ?_|refine o1_kadd (r:=1) rfl rfl (by decide) ?_|refine o1_kadd (r:=3584) rfl rfl (by decide) ?_|refine ow ?_|refine ow2 ?_ ?_|fail)
 refine rt_tmp2 () rfl rfl rfl rfl trivial ?_
 exact ent
theorem bits_Mul_c (H:List Hl) :
  Spec Tryz.prog 107 [.int .u64 1,.int .u64 3584] H (fun _:Unit=>True) (fun _ => .tuple #[.int .u64 0,.int .u64 3584]) (fun _=>H):=by
 refine spec_pure (res:=fun _=>[]) H Tryz.func107 rfl Tryz.ntmps107 (by kernel_rfl) rfl (fun W=>?_)
 repeat' (first|intro _|refine cw ?_|refine cw2 ?_ ?_|(refine k_fn 155 ?_;refine o1_call (fun _=>bits_Mul64_c _) rfl (fun _ _=>?_))|refine ow ?_|refine ow2 ?_ ?_|fail)
 refine rt_tmp2 () rfl rfl rfl rfl trivial ?_
 exact ent
def ffL (n:Nat):List (BitVec 8):=List.replicate n 0xff#8
theorem ffL_len (n:Nat):(ffL n).length=n:=List.length_replicate
theorem ffL_take (n k:Nat):(ffL n).take k=ffL (min k n):=List.take_replicate ..
theorem ffL_add (n k:Nat):ffL n++ffL k=ffL (n+k):=List.replicate_append_replicate ..
def ffR (n:Nat) (zs:List (BitVec 8)):List (BitVec 8):=ffL n++zs.drop n
theorem ffR_len {n:Nat} {zs:List (BitVec 8)} (h:n≤zs.length):(ffR n zs).length=zs.length:=by
 simp [ffR,ffL_len]
 omega
theorem ffR_take {n:Nat} {zs:List (BitVec 8)}:(ffR n zs).take n=ffL n:=by rw [ffR,List.take_left' (ffL_len n)]
theorem ffR_next {n k m:Nat} {zs:List (BitVec 8)} (h:k=min n m):(ffR n zs).take n++((ffL n).take m++(ffR n zs).drop (n+k))=ffR (n+k) zs:=by
 rw [ffR_take,ffL_take,←List.append_assoc,ffL_add,show min m n=k by omega,ffR,ffR,List.drop_append,ffL_len,show n+k - n=k by omega,List.drop_drop]
 rw [List.drop_eq_nil_of_le (by rw [ffL_len];omega),List.nil_append]
theorem ffR_first {zs:List (BitVec 8)} {m:Nat} (h:0<m):zs.take 0++([0xff#8].take m++zs.drop (0+1))=ffR 1 zs:=by
 rw [List.take_zero,List.nil_append,List.take_of_length_le (l:=[0xff#8]) (by simp;omega)]
 rfl
theorem cut_at {b c n:Nat} (h:n<c):cutA (some ⟨b,0,none⟩) c n=some ⟨b,n,none⟩:=by
 rw [cutA,if_neg (by omega)]
 by_cases h0:n=0 <;> simp [Addr.add,h0]
theorem o1_cs_hm {P:Program} {n:Nat} {H:List Hl} {e:Ev} {C:Value→List Hl→Prop} {ty T E:TypeId} {z:Value} {by_ b l c:Nat} {p q:Int} {kd kd':IntKind} {x oh om:Operand} (hi:Nat) [ht:TSl P T E] [hi':TInf P E z 1 by_] (hx:opd e x=some (.slice (some ⟨b,0,none⟩) l c)) (hh:opd e oh=some (.int kd p)) (hm:opd e om=some (.int kd' q)) (hp:p=hi) (hq:q=hi) (h2:hi≤c) (h:C (.slice (some ⟨b,0,none⟩) hi hi) H):O1 P (.slice T x none (some oh) (some om)) ty n e H C:=by
 subst hp hq
 refine o1_slice_hm (hi:=hi) (mx:=hi) hx hh hm (Nat.le_refl _) h2 ?_
 have e1:(if hi=0 then some (⟨b,0,none⟩:Addr) else (some (⟨b,0,none⟩:Addr)).map (·.add (0*1)))=some ⟨b,0,none⟩:=by
  split
  ·rfl
  ·simp [Addr.add]
 rw [e1]
 exact h
theorem xf_mkz:XFn Tryz.prog 108 (Extern.BytealgMakeNoZero.makeNoZero #[3] #[22]):=⟨by kernel_rfl,by kernel_rfl⟩
set_option maxHeartbeats 1000000 in
theorem by_Repeat (H:List Hl) (ad:Option Addr) (c:Nat) (h:Rs (stars H) B ad c [0xff#8]) :
  Spec Tryz.prog 61 [.slice ad 1 c,I 3584] H (fun _:Option Addr=>True) (fun r => .slice r 3584 3584) (fun r => .any (slk r 3584 (ffL 3584))::H):=by
 refine spec_pure (res:=fun r:Option Addr=>[.any (slk r 3584 (ffL 3584))]) H Tryz.func61 rfl Tryz.ntmps61 (by kernel_rfl) rfl (fun W=>?_)
 have hN:(ffL 3584).length=3584:=ffL_len _
 obtain ⟨Z,hZ⟩:∃ Z,ffL 3584=Z:=⟨_,rfl⟩
 rw [hZ] at hN ⊢
 repeat' (first|intro _|refine cw ?_|refine cw2 ?_ ?_|(refine k_fn 107 ?_;refine o1_call (fun _=>bits_Mul_c _) rfl (fun _ _=>?_))|refine o1_mkz xf_mkz (k:=3584) (by decide) rfl (fun b zs hz1 hz2=>?_)|(refine k_slice ?_;refine o1_cs_hm 3584 rfl rfl rfl rfl rfl hz1 ?_)|(refine k_call ?_;(refine ox_copy_at (o:=0) (b:=b) (xs:=zs) (ys:=[0xff#8]) rfl rfl (by omega) (fun _=>h.up) rfl (fun _=>rfl) ?_;rw [show min [0xff#8].length 3584=1 from rfl,ffR_first (by decide)]))|refine ow ?_|refine ow2 ?_ ?_|fail)
 refine st_loop (S:=Nat) (fun n=>[(0,.slice ad 1 c),(1,I 3584),(4,.slice none 0 0),(7,I 3584),(8,I 3584),(9,.slice (some ⟨b,0,none⟩) 3584 3584),(10,I n)]) (fun n=>[.box b 5 ((ffR n zs).map B),.any (stars H)]) (fun n=>1≤n∧n≤3584) (fun n=>3584 - n) 1 ⟨by decide,by decide⟩ cv ent ?_
 rintro n ⟨hn1,hn2⟩
 have hL:=ffR_len (n:=n) (zs:=zs) (by omega)
 by_cases hn:n<3584
 ·obtain ⟨q,hq⟩:∃ q,q=min n (3584 - n):=⟨_,rfl⟩
  have hnx:=ffR_next (n:=n) (k:=q) (m:=3584 - n) (zs:=zs) hq
  have c1:=cut_at (b:=b) hn
  have c2:=cut_at (b:=b) (n:=0) (show 0<3584 by decide)
  have l1:(Z.drop n).length=3584 - n:=by rw [List.length_drop,hN]
  have l2:(Z.take n).length=n:=by rw [List.length_take,hN];omega
  have hlf:=ffL_len n
  have hadd:(n:Int)+(q:Int)=((n+q:Nat):Int):=by push_cast;rfl
  repeat' (first|intro _|refine cw ?_|refine cw2 ?_ ?_|(refine k_call ?_;refine o1_min (r:=(n:Int)) rfl rfl (by omega) ?_)|refine ow ?_|refine ow2 ?_ ?_|fail)
  refine st_stages' [(10,_),(9,_),(11,_)] rtD31_0 [7] [⟨[0,1,2,3,4,5,6],[],some 7⟩,⟨[8,9],[0],none⟩] mixed cv (by kernel_rfl) (by kernel_rfl) ?_
  repeat' (first|intro _|refine sg ?_|(refine p_binOp .add ?_;refine po (by first|((refine o1_add rfl rfl (by omega) ?_;rw [hadd]);all_goals exact fz)|fail) ?_)|(refine p_slice ?_;refine po (by first|((refine o1_cs_l (xs:=Z) n rfl rfl rfl hN.symm (by omega) ?_;rw [c1,l1]);all_goals exact fz)|((refine o1_cs_h (xs:=Z) n rfl rfl rfl hN.symm (by omega) (by omega) ?_;rw [c2,l2]);all_goals exact fz)|fail) ?_)|refine pw ?_|refine pdd ?_|(refine k_call ?_;(refine ox_copy_at (o:=n) (b:=b) (xs:=ffR n zs) (ys:=ffL n) rfl rfl (by omega) (rx_boxk n (by omega) ffR_take (by omega) (by decide)) hlf.symm (fun _=>rfl) ?_;rw [hlf,←hq,hnx]))|refine ow ?_|fail)
  all_goals dsimp only [List.cons_append,List.nil_append]
  refine nx_blk ?_
  refine nx_again (n+q) ⟨by omega,by omega⟩ (by omega) cv ?_
  exact ent
 ·have:n=3584:=by omega
  subst this
  repeat' (first|intro _|refine cw ?_|refine cw2 ?_ ?_|refine ow ?_|refine ow2 ?_ ?_|fail)
  refine rt_ent (H2 := .any (slk (some ⟨b,0,none⟩) 3584 Z)::[.any (stars H)]) (fun hh hx=>slk_of b ((zs.drop 3584).map B) rfl (by omega) (by decide) hh (by rw [←hZ,←List.map_append];exact hx)) ?_
  refine rt_tmp (some ⟨b,0,none⟩) rfl rfl rfl trivial ?_
  exact ent
def wearN (w:Int):Nat:=(max 1 (min w 10000)).toNat
def newF (w:Int):Fl:=⟨ffL 3584,[0,0,0,0,0,0,0,0,0,0,0,0,0,0],wearN w,.on,0⟩
def newH:Hid:=⟨0,0,false⟩
theorem newF_ok (w:Int):FlOk (newF w) newH:=by
 refine ⟨rfl,ffL_len _,?_,?_,rfl⟩
 ·show (max 1 (min w 10000)).toNat≤10000
  omega
 ·intro x hx
  simp [newF] at hx
  omega
theorem fl_New (H:List Hl) (w:Int) :
  Spec Tryz.prog 30 [I w] H (fun _:Nat × Option Addr=>True) (fun r => .pointer (some ⟨r.1,0,none⟩)) (fun r=>fB r.1 r.2 3584 (newF w) newH::fR r.2 3584 (newF w)::H):=by
 refine spec_pure (res:=fun r:Nat × Option Addr=>[fB r.1 r.2 3584 (newF w) newH,fR r.2 3584 (newF w)]) H Tryz.func30 rfl Tryz.ntmps30 (by kernel_rfl) rfl (fun W=>?_)
 have hw:max 1 (min w 10000)=(wearN w:Int):=by show _=((max 1 (min w 10000)).toNat:Int);omega
 repeat' (first|intro _|refine cw ?_|refine cw2 ?_ ?_|(refine k_buildSlice ?_;refine o1_lit_enc B [0xff#8] rfl rfl rfl (fun _=>rfl) rfl rfl rfl (fun b3=>?_))|(refine k_fn 61 ?_;refine o1_call (fun hh=>by_Repeat _ (some ⟨b3,0,none⟩) 1 (rx_box rfl (by decide) hh)) rfl (fun a4 _=>?_))|(refine k_call ?_;first|refine o1_min (r:=min w 10000) rfl rfl (by omega) ?_|(refine o1_max (r:=max 1 (min w 10000)) rfl rfl (by omega) ?_;rw [hw]))|(refine k_box ?_;refine o1_box rfl rfl (fun b9=>?_))|refine ow ?_|refine ow2 ?_ ?_|fail)
 refine rt_tmp (b9,a4) rfl rfl rfl trivial ?_
 exact ent
open Go.RowKit Go.Proofs Sha
set_option maxHeartbeats 4000000 in
theorem dv_Make (H:List Hl) (w:Int) (v:BitVec 32) (ka:Option Addr) (kc:Nat) (key:List (BitVec 8)) (ad:Option Addr) (c:Nat) (im d:List (BitVec 8)) (f1 f2:Fl) (hkey:Rs (stars H) B ka kc key) (hkl:key.length≤64) (him:Rs (stars H) B ad c im) (hi1:1≤im.length) (hi2:im.length≤512) (hd:sha im=d)
  (hS:slotW (newF w) 0 im=(f1,0)) (hdn:f1.pw.isDown=false) (hW:cellW f1 (fstS v im.length (none,0) d).by=(f2,0)) :
  Spec Tryz.prog 8 [.slice ka key.length kc,W4 v,.slice ad im.length c,I w] H (fun _:Nat=>True) (fun db => .tuple #[.pointer (some ⟨db,0,none⟩),I 0]) (fun db => .any (dvI key f2 (fstS v im.length (none,0) d) db)::H):=by
 refine spec_pure (res:=fun db:Nat=>[.any (dvI key f2 (fstS v im.length (none,0) d) db)]) H Tryz.func8 rfl Tryz.ntmps8 (by kernel_rfl) rfl (fun W=>?_)
 have hdl:d.length=32:=by rw [←hd];exact sha_len _
 obtain ⟨n,hn⟩:∃ n,im.length=n:=⟨_,rfl⟩
 have hmay:∀ r,(fstS v n r d).may=true:=fun r=>fst_may _ _ _ _ (by omega) hdl
 have hW2:∀ r,cellW f1 (fstS v n r d).by=(f2,0):=fun r=>by rw [←hW,hn];rfl
 have hfirst:=fun (H':List Hl) (h:Rs (stars H') B ad c im)=>bt_First H' v ad c im d h ⟨hi1,hi2⟩ hd
 have hslot:=fun (H':List Hl) (b:Nat) (ad':Option Addr) (h:Rs (stars H') B ad c im)=>sl_Write H' b ad' 3584 (newF w) newH 0 ad c im (by decide) (newF_ok w) h hi1 hi2 rfl
 rw [hS] at hslot
 have hnew:=fun (H':List Hl)=>fl_New H' w
 obtain ⟨f0,hf0⟩:∃ f0,newF w=f0:=⟨_,rfl⟩
 rw [hf0] at hslot hnew
 rw [hn] at hi1 hi2 hfirst hslot ⊢
 dsimp only at hslot
 repeat' (first|intro _|refine cw ?_|refine cw2 ?_ ?_|(refine o1_call (fun _=>hfirst _ him.up) rfl (fun r5 _=>?_);dsimp only [StD.V,StD.c,SlotD.V,SlotD.c,slotOf,fstS,zSl,zM,List.length_nil])|(refine o1_call (fun _=>hnew _) rfl (fun ⟨fb,fa⟩ _=>?_);(try dsimp only))|refine o1_call_fl fb fa 3584 (fun _=>hslot _ fb fa him.up) rfl (fun h1 hk1=>?_)|(refine k_fn 29 ?_;(refine o1_call (fun _=>slices_Clone _ _ _ key hkey.up (by omega)) rfl (fun ⟨a29,c29⟩ _=>?_);(try dsimp only)))|(refine k_box ?_;refine o1_box rfl rfl (fun db=>?_))|(refine k_load ?_;refine ox_load (b:=db) (i:=1) rfl rfl ?_)|(refine k_fn 32 ?_;(refine o1_call_to (dvB db fb a29 key.length c29 none::fB fb fa 3584 f1 h1::fR fa 3584 f1::[rowL r5 d,.row 5 1 (.slice a29 key.length c29) key.length (key.map B),.any (stars H)]) (Ent.out ent) (fun hh=>dv_keeps _ db fb a29 key.length c29 none fa 3584 f1 f2 h1 (fstS v n r5 d) none (hmay r5) ⟨rx_row (ad:=r5.1) (c:=r5.2) (l:=d) (has_tail (has_tail (has_tail hh))),rs00 (has_tail (has_tail (has_tail hh))),rs00 (has_tail (has_tail (has_tail hh)))⟩ hk1 hdn (hW2 r5)) rfl (fun ⟨h2,mb⟩ hk2=>?_);(try dsimp only at hk2 ⊢)))|refine ow ?_|refine ow2 ?_ ?_|fail)
 refine rt_pack [rowL r5 d,.row 5 1 (.slice a29 key.length c29) key.length (key.map B)] [dvB db fb a29 key.length c29 (pM mb),fB fb fa 3584 f2 h2,fR fa 3584 f2,meB mb (fstS v n r5 d) none,.any (stars H)] ent ?_
 refine rt_has (fun hh=>?_)
 have hA:=has_any hh
 refine rt_dvI (l:=⟨fb,fa,3584,h2,mb,0,a29,c29,fstS v n r5 d,stars [rowL r5 d,.row 5 1 (.slice a29 key.length c29) key.length (key.map B)]⟩) (R:=[.any (stars H)]) ⟨hk2,rx_row (T:=5) (ad:=a29) (c:=c29) (l:=key) hA,⟨rx_row (T:=5) (ad:=r5.1) (c:=r5.2) (l:=d) hA,rs00 hA,rs00 hA⟩,rfl⟩ ent ?_
 refine rt_tmp2 db rfl rfl rfl rfl trivial ?_
 exact ent
theorem dv_now (H:List Hl) (db fb:Nat) (ka:Option Addr) (kn kc mb:Nat) (x:StD) (lp:Option Addr) :
  Spec Tryz.prog 42 [.pointer (some ⟨db,0,none⟩)] (dvB db fb ka kn kc (pM mb)::meB mb x lp::H) (fun _:Unit=>True) (fun _ => .pointer (some ⟨mb,0,none⟩)) (fun _=>dvB db fb ka kn kc (pM mb)::meB mb x lp::H):=by
 refine spec_fn (res:=fun _:Unit=>[dvB db fb ka kn kc (pM mb),meB mb x lp]) [dvB db fb ka kn kc (pM mb),meB mb x lp] H Tryz.func42 rfl Tryz.ntmps42 (by kernel_rfl) rfl (fun W=>?_)
 dsimp only [List.cons_append,List.nil_append]
 repeat' (first|intro _|refine cw ?_|refine cw2 ?_ ?_|refine o1_peql rfl rfl ?_|(refine k_fn 33 ?_;refine o1_call (fun _=>dv_LoadH db fb ka kn kc mb x lp) rfl (fun _ _=>?_))|refine ow ?_|refine ow2 ?_ ?_|fail)
 refine rt_tmp () rfl rfl rfl trivial ?_
 exact ent
theorem dv_Kept_L (H:List Hl) (db:Nat) (key:List (BitVec 8)) (f:Fl) (s:StD) (st:Sto) :
  Spec Tryz.prog 15 [.pointer (some ⟨db,0,none⟩)] (.any (dvL key f s st db)::H) (fun _:Unit=>True) (fun _=>I st.d.t) (fun _ => .any (dvL key f s st db)::H):=by
 refine Spec.som (by kernel_rfl) (fun ⟨fb,ad,c,h,mb,sb,ka,kc,x,A⟩ hl0=>?_)
 obtain ⟨hk,hkey,hx,hnf⟩:=hl0
 dsimp only at hk hkey hx hnf
 subst hnf
 show Spec _ _ _ ([dvB db fb ka key.length kc (pM mb),meB mb x (some ⟨sb,0,none⟩),.any (stP st fb sb),fB fb ad c f h,fR ad c f,.any A]++H) _ _ _
 refine spec_fn (res:=fun _:Unit=>[.any (dvL key f (nf x) st db)]) [dvB db fb ka key.length kc (pM mb),meB mb x (some ⟨sb,0,none⟩),.any (stP st fb sb),fB fb ad c f h,fR ad c f,.any A] H Tryz.func15 rfl Tryz.ntmps15 (by kernel_rfl) rfl (fun W=>?_)
 dsimp only [List.cons_append,List.nil_append]
 repeat' (first|intro _|refine cw ?_|refine cw2 ?_ ?_|refine o1_peql rfl rfl ?_|(refine k_fn 42 ?_;refine o1_call_bb db mb (fun _=>dv_now _ db fb ka key.length kc mb x (some ⟨sb,0,none⟩)) rfl (fun _ _=>?_))|(refine k_load ?_;refine ox_load (b:=mb) (i:=17) rfl rfl ?_)|(refine k_fn 43 ?_;refine o1_call_a (stP st fb sb) (fun _=>so_Kept _ st fb sb) rfl (fun _ _=>?_))|refine ow ?_|refine ow2 ?_ ?_|fail)
 refine rt_dvL (l:=⟨fb,ad,c,h,mb,sb,ka,kc,x,A⟩) (R:=[.any (stars H)]) ⟨hk,hkey,hx,rfl⟩ ent ?_
 refine rt_tmp () rfl rfl rfl trivial ?_
 exact ent
def rtD33_0:List Row:=[⟨some 34,[],[],none⟩,⟨some 35,[],[],none⟩,⟨some 36,[1],[1],none⟩,⟨some 37,[],[],none⟩,⟨some 38,[3],[3],none⟩,⟨some 39,[],[],none⟩,⟨some 40,[5,4],[3,4,5],none⟩,⟨some 41,[6],[3,4,5,6],none⟩,⟨some 42,[7],[3,4,5,6,7],none⟩,⟨some 43,[0,2,8],[0,1,2,3,4,5,6,7,8],none⟩,⟨some 33,[9],[0,1,2,3,4,5,6,7,8,9],none⟩,⟨some 44,[10],[0,1,2,3,4,5,6,7,8,9,10],none⟩,⟨some 45,[10],[0,1,2,3,4,5,6,7,8,9,10],none⟩,⟨some 7,[11,9,0,1,2,3,4,5,6,7,8,9,10,11],[0,1,2,3,4,5,6,7,8,9,10,11],none⟩,⟨some 8,[12,13,0,1,2,3,4,5,6,7,8,9,10,11,12,13],[0,1,2,3,4,5,6,7,8,9,10,11,12,13],none⟩]
def rtD33_1:List Row:=[⟨some 34,[],[],none⟩,⟨some 35,[],[],none⟩,⟨some 36,[1],[1],none⟩,⟨some 37,[],[],none⟩,⟨some 38,[3],[3],none⟩,⟨some 39,[],[],none⟩,⟨some 40,[5,4],[3,4,5],none⟩,⟨some 41,[6],[3,4,5,6],none⟩,⟨some 42,[7],[3,4,5,6,7],none⟩,⟨some 43,[0,2,8],[0,1,2,3,4,5,6,7,8],none⟩,⟨some 33,[9],[0,1,2,3,4,5,6,7,8,9],none⟩,⟨some 44,[10],[0,1,2,3,4,5,6,7,8,9,10],none⟩,⟨some 45,[10],[0,1,2,3,4,5,6,7,8,9,10],none⟩,⟨some 7,[11,9,0,1,2,3,4,5,6,7,8,9,10,11],[0,1,2,3,4,5,6,7,8,9,10,11],none⟩,⟨some 8,[12,13,0,1,2,3,4,5,6,7,8,9,10,11,12,13],[0,1,2,3,4,5,6,7,8,9,10,11,12,13],none⟩]
theorem progB_ff {xs:List (BitVec 8)} (h:xs.length=3584):progB (ffL 3584) 0 xs=xs:=by
 have hl:(ffL 3584).length=3584:=ffL_len _
 apply List.ext_getElem?
 intro i
 rw [progB_get (by omega)]
 by_cases hi:i<3584
 ·rw [if_pos (by omega),List.getElem?_eq_getElem (by omega),List.getElem?_eq_getElem (by omega)]
  have:(ffL 3584)[i]'(by omega)=0xff#8:=List.getElem_replicate ..
  rw [this]
  simp only [Option.bind_some,Option.map_some,Nat.sub_zero,List.getElem?_eq_getElem (show i<xs.length by omega)]
  congr 1
  exact BitVec.allOnes_and
 ·rw [if_neg (by omega),List.getElem?_eq_none (by omega),List.getElem?_eq_none (by omega)]
structure Runs (f:Fl) (s n:Nat):Prop where
 fo:∃ k q w x,foundC f.bs=some ((k,q),w)∧prs q=(x,0)∧x.a=(s:Int)∧x.cur.n=(n:Int)
 s2:s<2
 n2:n≤512
set_option maxHeartbeats 8000000 in
theorem dv_Running (H:List Hl) (db fb:Nat) (ad:Option Addr) (c:Nat) (f:Fl) (s n:Nat) (hc:Cl (stars H) ⟨db,1,none⟩ (.pointer (some ⟨fb,0,none⟩))) (hr:RdFl (stars H) fb ad c f) (hR:Runs f s n) :
  Spec Tryz.prog 16 [.pointer (some ⟨db,0,none⟩)] H (fun _:Option Addr × Nat=>True) (fun r => .slice r.1 n r.2) (fun r => .row 5 1 (.slice r.1 n r.2) n ((seg f.bs (slotA s) n).map B)::H):=by
 refine spec_pure (res:=fun r:Option Addr × Nat=>[.row 5 1 (.slice r.1 n r.2) n ((seg f.bs (slotA s) n).map B)]) H Tryz.func16 rfl Tryz.ntmps16 (by kernel_rfl) rfl (fun W=>?_)
 obtain ⟨⟨k,q,w,x,hf,hp,ha,hn⟩,hs2,hn2⟩:=hR
 have hl:=hr.l
 have hnew:=fun (H':List Hl)=>fl_New H' 1
 have hok:=newF_ok 1
 obtain ⟨f0,hf0⟩:∃ f0,newF 1=f0:=⟨_,rfl⟩
 have hpg:progF f0 0 f.bs=({ f0 with bs:=f.bs },0):=by
  rw [←hf0]
  show ((⟨progB (ffL 3584) 0 f.bs,_,_,_,_⟩:Fl),(0:Int))=_
  rw [progB_ff hl]
 have hd0:f0.pw.isDown=false:=by rw [←hf0];rfl
 rw [hf0] at hnew hok
 obtain ⟨bs,hbs⟩:∃ bs,f.bs=bs:=⟨_,rfl⟩
 obtain ⟨f1,hf1⟩:∃ f1:Fl,{ f0 with bs:=f.bs }=f1:=⟨_,rfl⟩
 have hd1:f1.pw.isDown=false:=by rw [←hf1];exact hd0
 have hb1:f1.bs=bs:=by rw [←hf1];exact hbs
 rw [hf1] at hpg
 have hprog:=fun (H':List Hl) (b:Nat) (a1 a2:Option Addr) (c2:Nat) (hx:Rs (stars H') B a2 c2 f.bs)=>fl_Program H' b a1 3584 f0 newH 0 a2 3584 c2 f.bs hok hx hl.symm (by omega)
 rw [hpg] at hprog
 dsimp only at hprog
 rw [hbs] at hf hprog ⊢
 obtain ⟨Z,hZ⟩:∃ Z,(seg f1.bs (w*256) 256).take (q.length+6)=Z:=⟨_,rfl⟩
 have hf1':foundC f1.bs=some ((k,q),w):=by rw [hb1];exact hf
 have hmk:=(copyAt_drop (foundC_copy hf1').1).1
 rw [hZ] at hmk
 have hZl:Z.length=q.length+6:=by
  have h245:=(copyAt_drop (foundC_copy hf1').1).2
  have hw2:=(foundC_copy hf1').2
  rw [←hZ,List.length_take,seg_len (by rw [hb1,←hbs];omega)]
  omega
 repeat' (first|intro _|refine cw ?_|refine cw2 ?_ ?_|refine o1_peql rfl rfl ?_|(refine o1_call (fun _=>hnew _) rfl (fun ⟨fb2,fa⟩ _=>?_);(try dsimp only))|refine o1_call_fl fb2 fa 3584 (fun hh=>hprog _ fb2 fa a17 c17 (rx_row (T:=5) (ad:=a17) (c:=c17) (l:=bs) (has_tail (has_tail hh)))) rfl (fun h1 hk1=>?_)|(refine k_load ?_;refine ox_load_any rfl hc ?_)|(refine k_fn 45 ?_;(refine o1_call (fun _=>fl_Bytes _ fb ad c f hr.up) rfl (fun ⟨a17,c17⟩ _=>?_);(try dsimp only);rw [hbs]))|(refine k_fn 46 ?_;(refine o1_call (fun hh=>cl_Read _ fb2 fa 3584 f1 k q Z w (RdFl.own hk1 hh) hd1 hf1' hZ) rfl (fun ⟨a21,c21⟩ _=>?_);(try dsimp only)))|(refine k_fn 47 ?_;(refine o1_call (fun hh=>st_Parse _ (cutA a21 c21 6) (c21 - 6) q (rx_cutl (T:=5) (ad:=a21) (c:=c21) (n:=q.length+6) (l:=Z) (enc:=B) 6 (by omega) hmk hh) (x,0) hp) rfl (fun ⟨r0,r1,r2⟩ _=>?_);dsimp only [StD.V,StD.c,SlotD.V,SlotD.c,copyS]))|refine ow ?_|refine ow2 ?_ ?_|fail)
 rcases (by omega:s=0∨s=1) with rfl|rfl
 ·rename_i b6
  have ha2:x.a=0:=ha
  have hcn:x.s0.n=(n:Int):=by rw [←hn,StD.cur,if_pos ha2]
  refine st_stages' [(3,_),(6,_)] rtD33_0 [9] [⟨[0,1,2,3,4,5,6,7,8],[],some 9⟩,⟨[10,11,12,13,14],[],none⟩] mixed cv (by kernel_rfl) (by kernel_rfl) ?_
  repeat' (first|intro _|refine sg ?_|(refine p_load ?_;refine po (by first|((refine ox_load (b:=b6) (i:=0) rfl rfl ?_;rw [ha2]);all_goals exact fz)|((refine ox_load (b:=b6) (i:=5) rfl rfl ?_;rw [hcn]);all_goals exact fz)|fail) ?_)|(refine p_indexAddr ?_;refine po (by first|refine ox_idx_arr 0 4 rfl rfl rfl (by decide) rfl fz|fail) ?_)|refine pw ?_|refine pdd ?_|(refine k_fn 48 ?_;(refine o1_call (fun hh=>sl_Read _ fb2 fa 3584 f1 0 n (RdFl.own hk1 hh) (by decide) hn2 hd1) rfl (fun ⟨a43,c43⟩ _=>?_);(try dsimp only)))|refine ow ?_|fail)
  all_goals dsimp only [List.cons_append,List.nil_append]
  repeat' (first|intro _|refine cw ?_|refine cw2 ?_ ?_|refine ow ?_|refine ow2 ?_ ?_|fail)
  rw [hb1]
  refine rt_tmp (a43,c43) rfl rfl rfl trivial ?_
  exact ent
 ·rename_i b6
  have ha2:x.a=1:=ha
  have hcn:x.s1.n=(n:Int):=by rw [←hn,StD.cur,if_neg (by omega)]
  refine st_stages' [(3,_),(6,_)] rtD33_1 [9] [⟨[0,1,2,3,4,5,6,7,8],[],some 9⟩,⟨[10,11,12,13,14],[],none⟩] mixed cv (by kernel_rfl) (by kernel_rfl) ?_
  repeat' (first|intro _|refine sg ?_|(refine p_load ?_;refine po (by first|((refine ox_load (b:=b6) (i:=0) rfl rfl ?_;rw [ha2]);all_goals exact fz)|((refine ox_load (b:=b6) (i:=8) rfl rfl ?_;rw [hcn]);all_goals exact fz)|fail) ?_)|(refine p_indexAddr ?_;refine po (by first|refine ox_idx_arr 1 7 rfl rfl rfl (by decide) rfl fz|fail) ?_)|refine pw ?_|refine pdd ?_|(refine k_fn 48 ?_;(refine o1_call (fun hh=>sl_Read _ fb2 fa 3584 f1 1 n (RdFl.own hk1 hh) (by decide) hn2 hd1) rfl (fun ⟨a43,c43⟩ _=>?_);(try dsimp only)))|refine ow ?_|fail)
  all_goals dsimp only [List.cons_append,List.nil_append]
  repeat' (first|intro _|refine cw ?_|refine cw2 ?_ ?_|refine ow ?_|refine ow2 ?_ ?_|fail)
  rw [hb1]
  refine rt_tmp (a43,c43) rfl rfl rfl trivial ?_
  exact ent
theorem dv_Running_I (H:List Hl) (db:Nat) (key:List (BitVec 8)) (f:Fl) (x:StD) (s n:Nat) (hR:Runs f s n) :
  Spec Tryz.prog 16 [.pointer (some ⟨db,0,none⟩)] (.any (dvI key f x db)::H) (fun _:Option Addr × Nat=>True) (fun r => .slice r.1 n r.2) (fun r => .row 5 1 (.slice r.1 n r.2) n ((seg f.bs (slotA s) n).map B) :: .any (dvI key f x db)::H):=by
 refine Spec.som (by kernel_rfl) (fun l hl=>Spec.has (by kernel_rfl) (fun hh=>?_))
 refine (dv_Running _ db l.fb l.ad l.c f s n ?_ ?_ hR).imp (fun r _ hp hx=>sep_mono hx (fun _ a=>a) (som_of (p:=DvX key f x) (L:=fun l=>[dvA db key l (pM l.mb),meB l.mb l.x none,flA f l,frA f l,.any l.A]) l hl))
 ·exact cl_box (H:=dvA db key l (pM l.mb)::meB l.mb l.x none::flA f l::frA f l :: .any l.A::H) (b:=db) rfl
 ·exact RdFl.own (H:=dvA db key l (pM l.mb)::meB l.mb l.x none::flA f l::frA f l :: .any l.A::H) hl.fl hh
theorem dv_Running_L (H:List Hl) (db:Nat) (key:List (BitVec 8)) (f:Fl) (x:StD) (st:Sto) (s n:Nat) (hR:Runs f s n) :
  Spec Tryz.prog 16 [.pointer (some ⟨db,0,none⟩)] (.any (dvL key f x st db)::H) (fun _:Option Addr × Nat=>True) (fun r => .slice r.1 n r.2) (fun r => .row 5 1 (.slice r.1 n r.2) n ((seg f.bs (slotA s) n).map B) :: .any (dvL key f x st db)::H):=by
 refine Spec.som (by kernel_rfl) (fun l hl=>Spec.has (by kernel_rfl) (fun hh=>?_))
 refine (dv_Running _ db l.fb l.ad l.c f s n ?_ ?_ hR).imp (fun r _ hp hx=>sep_mono hx (fun _ a=>a) (som_of (p:=DvX key f x) (L:=fun l=>[dvA db key l (pM l.mb),meB l.mb l.x (some ⟨l.sb,0,none⟩),.any (stP st l.fb l.sb),flA f l,frA f l,.any l.A]) l hl))
 ·exact cl_box (H:=dvA db key l (pM l.mb)::meB l.mb l.x (some ⟨l.sb,0,none⟩) :: .any (stP st l.fb l.sb)::flA f l::frA f l :: .any l.A::H) (b:=db) rfl
 ·exact RdFl.own (H:=dvA db key l (pM l.mb)::meB l.mb l.x (some ⟨l.sb,0,none⟩) :: .any (stP st l.fb l.sb)::flA f l::frA f l :: .any l.A::H) hl.fl hh
end Go.Dp
namespace Go.Dp
open Go.RowKit Sha
structure DevF (f:Fl) (n:Nat) (s:StD) (im:List (BitVec 8)):Prop where
 few:Few f n
 on:f.pw = .on
 wr:f.wear=100
 cell:∃ k w,k≤n∧CellIs f.bs k s.by w
 may:s.may=true
 cn:s.cur.n=im.length
 slot:seg f.bs (slotA s.a.toNat) im.length=im
 wh:WhOk f.bs s.g.toNat
 gb:s.g.toNat≤n
theorem DevF.up {f:Fl} {n:Nat} {s:StD} {im:List (BitVec 8)} (h:DevF f n s im):f.pw.isDown=false:=on_up h.on
theorem StD.may_cn {s:StD} (h:s.may=true):s.cur.something=true:=by
 simp only [StD.may,Bool.and_eq_true] at h
 exact h.1.1.2
theorem DevF.b {f:Fl} {n:Nat} {s:StD} {im:List (BitVec 8)} (h:DevF f n s im):1≤im.length∧im.length≤512:=by
 have:=StD.may_cn h.may
 simp only [SlotD.something,decide_eq_true_eq] at this
 have h2:=h.cn
 omega
theorem DevF.runs {f:Fl} {n:Nat} {s:StD} {im:List (BitVec 8)} (h:DevF f n s im):Runs f s.a.toNat im.length:=by
 obtain ⟨k,w,hk,hc⟩:=h.cell
 obtain ⟨kk,_,hf⟩:=hc.found h.few.bs
 have ha:=StD.may_a h.may
 refine ⟨⟨kk,s.by,w,s.plain,hf,prs_by h.may,?_,?_⟩,by omega,h.b.2⟩
 ·show s.a=_
  omega
 ·show (s.plain).cur.n=_
  rw [←h.cn]
  unfold StD.cur
  show (if s.a=0 then s.plain.s0 else s.plain.s1).n=_
  split <;> rfl
theorem dev_state {f:Fl} {n:Nat} {s s1:StD} {im:List (BitVec 8)} (h:DevF f n s im) (hn:n<90) (h1:s1.may=true) (ha:s1.a=s.a) (hc:s1.cur.n=s.cur.n) (hg:s.g.toNat≤s1.g.toNat) (hg2:s1.g.toNat≤n+1) :
  ∃ f1,cellW f s1.by=(f1,0)∧DevF f1 (n+1) s1 im∧WhOk f1.bs s.g.toNat:=by
 obtain ⟨k,w,hk,hcell⟩:=h.cell
 obtain ⟨st,so,sc⟩:=cellW_out (q:=s1.by) hcell h.few (by rw [h.wr];omega) h.up (by_245 h1) (by omega)
 obtain ⟨⟨f1,v1⟩,hr⟩:∃ r,cellW f s1.by=r:=⟨_,rfl⟩
 rw [hr] at st so sc ⊢
 dsimp only at st so sc ⊢
 have hon:=st.on h.on
 rcases sc with ⟨e0,_,e2⟩|⟨_,e1,_⟩
 ·subst e0
  have ha2:=StD.may_a h.may
  have hb:=h.b
  have hwh:WhOk f1.bs s.g.toNat:=h.wh.keep (so _ _ (by omega))
  refine ⟨f1,rfl,⟨st.few,hon,st.wear.trans h.wr,⟨k+1,1 - w,by omega,e2⟩,h1,hc.trans h.cn,?_,hwh.mono hg,hg2⟩,hwh⟩
  rw [ha,so _ _ (by unfold slotA;omega)]
  exact h.slot
 ·rw [hon] at e1;cases e1
theorem dev_hear {f:Fl} {n:Nat} {s:StD} {im:List (BitVec 8)} {m:ManD} {p:Prm} {len:Nat} (h:DevF f n s im) (hn:n<90) (hm:m.may=true) (hp:p.ok) (V:BitVec 32→List Bool) :
  ∃ f1,cellW f (admitS s m (none,0) (none,0) (none,0)).by=(f1,0)∧DevF f1 (n+1) (admitS s m (none,0) (none,0) (none,0)) im∧recsW f1.bs (s.g+1#32) p.z 8=[]∧openS p (s.g+1#32) len V f1.bs=⟨p,s.g+1#32,len, -1,0,newD p⟩:=by
 have hgb:=h.gb
 have hg:(s.g+1#32).toNat=s.g.toNat+1:=by
  rw [BitVec.toNat_add]
  have:(1#32).toNat=1:=rfl
  omega
 have hcur:(admitS s m (none,0) (none,0) (none,0)).cur.n=s.cur.n:=by
  show (if s.a=0 then (admitS s m (none,0) (none,0) (none,0)).s0 else (admitS s m (none,0) (none,0) (none,0)).s1).n=(if s.a=0 then s.s0 else s.s1).n
  split <;> rfl
 obtain ⟨f1,h1,h2,h3⟩:=dev_state (s1:=admitS s m (none,0) (none,0) (none,0)) h hn (admit_may h.may hm) rfl hcur (by show s.g.toNat≤(s.g+1#32).toNat;omega) (by show (s.g+1#32).toNat≤n+1;omega)
 obtain ⟨p1,p2,p3,p4,p5⟩:=hp.out
 obtain ⟨w1,w2,w3⟩:=wh_new (g':=s.g+1#32) (z:=p.z) h2.few.bs h3 (by omega) (by omega) p4 p5
 refine ⟨f1,h1,h2,w1,?_⟩
 unfold openS
 rw [w1,w2,w3]
 rfl
theorem dev_take {f:Fl} {n:Nat} {s:StD} {im im2:List (BitVec 8)} {p:Prm} {g:BitVec 32} {len:Nat} {rdy:Int} {ids:List (BitVec 32)} {id:BitVec 32} (h:DevF f n s im) (hn:n<90) (hp:p.ok) (hg:s.g=g) (hL:LiveW f.bs g p.z rdy ids.length) (hids:∀ x∈ids,x.toNat<p.k) (hid:id.toNat<p.k) (hnew:id ∉ ids) (hk:ids.length<p.k) :
  ∃ f1,putS ⟨p,g,len,rdy,ids.length,decU p im2 ids⟩ f id (unitV p id) (datP p im2 (unitV p id))=(⟨p,g,len,((ids.length / plW p.z:Nat):Int),(ids++[id]).length,decU p im2 (ids++[id])⟩,f1,0)∧DevF f1 (n+1) s im∧LiveW f1.bs g p.z ((ids.length / plW p.z:Nat):Int) (ids++[id]).length:=by
 obtain ⟨p1,p2,p3,p4,p5⟩:=hp.out
 obtain ⟨u1,u2,u3⟩:=decU_take (im:=im2) hids hid hnew
 have hw8:=(plW_b p4 p5).1
 have hwz:(datP p im2 (unitV p id)).length=p.z:=datD_len _ _ _
 subst hg
 obtain ⟨f1,a1,a2,a3,a4,a5,a6⟩:=addW_on (g:=s.g) (id:=id) (d:=datP p im2 (unitV p id)) h.few (by rw [h.wr];omega) h.on hwz p4 p5 (by omega) hL h.wh
 have hgb:=h.gb
 have ha2:=StD.may_a h.may
 have hb:=h.b
 refine ⟨f1,?_,⟨a2.few,a3,a2.wear.trans h.wr,?_,h.may,h.cn,?_,a5,by omega⟩,?_⟩
 ·unfold putS
  dsimp only
  rw [u1,if_neg (by decide),a1,if_neg (fun h=>h rfl),u2,List.length_append]
  rfl
 ·obtain ⟨k,w,hk,hc⟩:=h.cell
  exact ⟨k,w,by omega,hc.keep (a4 _ _ (by omega))⟩
 ·rw [a4 _ _ (by unfold slotA;omega)]
  exact h.slot
 ·rw [List.length_append]
  exact a6
theorem dev_fin {f:Fl} {n:Nat} {s:StD} {im im2:List (BitVec 8)} (h:DevF f n s im) (hn:n<80) (ho:s.on=true) (ht:s.t=0) (hm:s.m.n=im2.length) (h1:1≤im2.length) (h2:im2.length≤512) :
  ∃ f2,finF f s im2=(f2,0)∧DevF f2 (n+3) (nf (actS s)) im2∧seg f2.bs (slotA s.a.toNat) im.length=im:=by
 have ha:=StD.may_a h.may
 have hs:(1 - s.a).toNat<2:=by omega
 obtain ⟨st,so,sc⟩:=slotW_out (s:=(1 - s.a).toNat) (x:=im2) h.few hs h2 (by rw [h.wr];omega) h.up
 obtain ⟨⟨f1,v1⟩,hr⟩:∃ r,slotW f (1 - s.a).toNat im2=r:=⟨_,rfl⟩
 rw [hr] at st so sc
 dsimp only at st so sc
 have hon:=st.on h.on
 rcases sc with ⟨e0,_,e2⟩|⟨_,e1⟩
 rotate_left
 ·rw [hon] at e1;cases e1
 subst e0
 have hsa:1024≤slotA (1 - s.a).toNat+512∧512≤slotA (1 - s.a).toNat∧slotA (1 - s.a).toNat+512≤1536:=by unfold slotA;omega
 obtain ⟨k,w,hk,hc⟩:=h.cell
 have hc1:CellIs f1.bs k s.by w:=hc.keep (so _ _ (by omega))
 have hmay:(actS s).may=true:=act_may h.may ho ht
 obtain ⟨st2,so2,sc2⟩:=cellW_out (q:=(actS s).by) hc1 st.few (by rw [st.wear,h.wr];omega) (on_up hon) (by_245 hmay) (by omega)
 obtain ⟨⟨f2,v2⟩,hr2⟩:∃ r,cellW f1 (actS s).by=r:=⟨_,rfl⟩
 rw [hr2] at st2 so2 sc2
 dsimp only at st2 so2 sc2
 have hon2:=st2.on hon
 rcases sc2 with ⟨e0,_,e4⟩|⟨_,e1,_⟩
 rotate_left
 ·rw [hon2] at e1;cases e1
 subst e0
 have hfin:finF f s im2=(f2,0):=by
  unfold finF
  rw [hr]
  dsimp only
  rw [if_neg (by decide),hr2]
 have hby:(nf (actS s)).by=(actS s).by:=rfl
 have hgb:=h.gb
 have hb:=h.b
 have hkeep:seg f2.bs (slotA s.a.toNat) im.length=im:=by
  rw [so2 _ _ (by unfold slotA;omega),so _ _ (by unfold slotA;omega)]
  exact h.slot
 refine ⟨f2,hfin,⟨st2.few,hon2,st2.wear.trans (st.wear.trans h.wr),⟨k+1,1 - w,by omega,by rw [hby];exact e4⟩,by rw [nf_may];exact hmay,?_,?_,?_,by show s.g.toNat≤n+3;omega⟩,hkeep⟩
 ·have:(nf (actS s)).cur.n=s.m.n:=by
   show (if 1 - s.a=0 then (nf (actS s)).s0 else (nf (actS s)).s1).n=s.m.n
   rcases ha with h0|h0
   ·rw [if_neg (by omega)]
    show (if s.a=0 then newSl s else s.s1).n=s.m.n
    rw [if_pos h0];rfl
   ·rw [if_pos (by omega)]
    show (if s.a=0 then s.s0 else newSl s).n=s.m.n
    rw [if_neg (by omega)];rfl
  rw [this,hm]
 ·show seg f2.bs (slotA (1 - s.a).toNat) im2.length=im2
  rw [so2 _ _ (by omega)]
  exact e2
 ·show WhOk f2.bs s.g.toNat
  refine h.wh.keep ?_
  rw [so2 _ _ (by omega),so _ _ (by omega)]
theorem dev_make {v:BitVec 32} {im:List (BitVec 8)} (h1:1≤im.length) (h2:im.length≤512) :
  ∃ f1 f2,slotW (newF 100) 0 im=(f1,0)∧f1.pw.isDown=false∧cellW f1 (fstS v im.length (none,0) (sha im)).by=(f2,0)∧DevF f2 3 (fstS v im.length (none,0) (sha im)) im:=by
 have hok:=newF_ok 100
 have hfew:Few (newF 100) 0:=⟨rfl,ffL_len _,fun x hx=>by simp [newF] at hx;omega⟩
 have hw:(newF 100).wear=100:=rfl
 have hbl:∀ a n,a+n≤3584→Blank (newF 100).bs a n:=fun a n hh=>Blank.of fun i _ hi=>by
  show (ffL 3584)[i]?=_
  unfold ffL
  rw [List.getElem?_replicate,if_pos (by omega)]
 obtain ⟨st,so,sc⟩:=slotW_out (s:=0) (x:=im) hfew (by decide) h2 (by rw [hw];decide) (on_up rfl)
 obtain ⟨f0,hf0⟩:∃ f0,newF 100=f0:=⟨_,rfl⟩
 have hon0:f0.pw = .on:=by rw [←hf0];rfl
 rw [hf0] at st so sc hbl hw ⊢
 obtain ⟨⟨f1,v1⟩,hr⟩:∃ r,slotW f0 0 im=r:=⟨_,rfl⟩
 rw [hr] at st so sc ⊢
 dsimp only at st so sc ⊢
 have hon:=st.on hon0
 rcases sc with ⟨e0,e1,e2⟩|⟨_,e1⟩
 rotate_left
 ·rw [hon] at e1;cases e1
 subst e0
 have hsl:slotA 0=512:=rfl
 rw [hsl] at so e2
 have hmay:(fstS v im.length (none,0) (sha im)).may=true:=fst_may _ _ _ _ ⟨h1,h2⟩ (sha_len _)
 have hc0:Blank f1.bs 0 512:=(hbl 0 512 (by omega)).keep (so _ _ (by omega))
 obtain ⟨st2,so2,e3,hon2,e4⟩:=cellW_first (q:=(fstS v im.length (none,0) (sha im)).by) hc0 st.few (by rw [st.wear,hw];decide) hon (by_245 hmay)
 obtain ⟨⟨f2,v2⟩,hr2⟩:∃ r,cellW f1 (fstS v im.length (none,0) (sha im)).by=r:=⟨_,rfl⟩
 rw [hr2] at st2 so2 e3 hon2 e4
 dsimp only at st2 so2 e3 hon2 e4
 subst e3
 refine ⟨f1,f2,rfl,e1,hr2,⟨st2.few,hon2,st2.wear.trans (st.wear.trans hw),⟨1,0,by omega,e4⟩,hmay,rfl,?_,?_,by show (0#32).toNat≤3;decide⟩⟩
 ·show seg f2.bs (slotA (Int.toNat 0)) im.length=im
  rw [show slotA (Int.toNat 0)=512 from rfl,so2 _ _ (by omega)]
  exact e2
 ·intro s hs
  refine head_blank ?_
  refine (hbl ((6+s)*256) 256 (by omega)).keep ?_
  rw [so2 _ _ (by omega),so _ _ (by omega)]
open Go.RowKit Go.Proofs Sha
def rtD37_0:List Row:=[⟨some 12,[],[],none⟩,⟨some 13,[],[],none⟩,⟨some 14,[],[],none⟩,⟨some 15,[],[],none⟩,⟨some 16,[3],[3],none⟩,⟨some 17,[4],[3,4],none⟩,⟨some 18,[2,5],[2,3,4,5],none⟩,⟨some 19,[1,6,0],[0,1,2,3,4,5,6],none⟩,⟨some 20,[],[],none⟩,⟨some 21,[7,8,7],[0,1,2,3,4,5,6,7,8],none⟩,⟨some 22,[0,9,9],[0,1,2,3,4,5,6,7,8,9],none⟩,⟨some 11,[10],[0,1,2,3,4,5,6,7,8,9,10],none⟩,⟨some 23,[11],[0,1,2,3,4,5,6,7,8,9,10,11],none⟩,⟨some 24,[11],[0,1,2,3,4,5,6,7,8,9,10,11],none⟩,⟨some 7,[12,10,0,1,2,3,4,5,6,7,8,9,10,11,12],[0,1,2,3,4,5,6,7,8,9,10,11,12],none⟩,⟨some 8,[13,14,0,1,2,3,4,5,6,7,8,9,10,11,12,13,14],[0,1,2,3,4,5,6,7,8,9,10,11,12,13,14],none⟩]
def rtD37_1:List Row:=[⟨some 26,[],[],none⟩,⟨some 27,[],[],none⟩,⟨some 28,[],[],none⟩,⟨some 29,[],[],none⟩,⟨some 30,[3],[3],none⟩,⟨some 31,[4],[3,4],none⟩,⟨some 32,[2,5],[2,3,4,5],none⟩,⟨some 33,[1,6,0],[0,1,2,3,4,5,6],none⟩,⟨some 34,[],[],none⟩,⟨some 35,[7,8,7],[0,1,2,3,4,5,6,7,8],none⟩,⟨some 36,[0,9,9],[0,1,2,3,4,5,6,7,8,9],none⟩,⟨some 25,[10],[0,1,2,3,4,5,6,7,8,9,10],none⟩,⟨some 37,[11],[0,1,2,3,4,5,6,7,8,9,10,11],none⟩,⟨some 38,[11],[0,1,2,3,4,5,6,7,8,9,10,11],none⟩,⟨some 9,[12,10,0,1,2,3,4,5,6,7,8,9,10,11,12],[0,1,2,3,4,5,6,7,8,9,10,11,12],none⟩,⟨some 10,[13,14,0,1,2,3,4,5,6,7,8,9,10,11,12,13,14],[0,1,2,3,4,5,6,7,8,9,10,11,12,13,14],none⟩]
def keyT:List (BitVec 8):=[107#8,101#8,121#8]
abbrev keyH (b:Nat):Hl := .any (frz b 5 (keyT.map B))
theorem tp_key (H:List Hl) :
  Spec Tryz.prog 9 [] H (fun _:Nat=>True) (fun b => .slice (some ⟨b,0,none⟩) 3 3) (fun b=>keyH b::H):=by
 refine spec_pure (res:=fun b:Nat=>[keyH b]) H Tryz.func9 rfl Tryz.ntmps9 (by kernel_rfl) rfl (fun W=>?_)
 repeat' (first|intro _|refine cw ?_|refine cw2 ?_ ?_|(refine k_buildSlice ?_;refine o1_lit_enc B keyT rfl rfl rfl (fun _=>rfl) rfl rfl rfl (fun b1=>?_))|(refine k_convert ?_;refine o1_conv_frz (b:=b1) rfl ?_)|refine ow ?_|refine ow2 ?_ ?_|fail)
 refine rt_tmp b1 rfl rfl rfl trivial ?_
 exact ent
def imgL (a:List (BitVec 8)) (x:BitVec 8):List (BitVec 8):=a.take 60++[x]
theorem imgL_b (a:List (BitVec 8)) (x:BitVec 8):1≤(imgL a x).length∧(imgL a x).length≤61:=by
 rw [imgL,List.length_append,List.length_take,List.length_singleton]
 omega
def prmH (s:BitVec 32) (n z p:Nat):Prm:=⟨s,(count n z).toNat,p,z⟩
theorem prmH_ok {s:BitVec 32} {n z p:Nat} (h:count n z≠0) (hp:p≤16):(prmH s n z p).ok∧count n z=((prmH s n z p).k:Int):=by
 obtain ⟨c1,c2,c3,c4,c5,c6,c7⟩:=count_pos h
 have hk:((count n z).toNat:Int)=count n z:=by omega
 refine ⟨?_,hk.symm⟩
 show mayP ((count n z).toNat:Int) p z=true
 rw [hk]
 unfold mayP
 exact decide_eq_true ⟨c7,c6,by omega,by omega,c3,c4⟩
theorem count_34 {n z:Nat} (h1:1≤n) (h2:n≤61) (hz:z=3∨z=4):count n z≠0∧(count n z).toNat≤21:=by
 unfold count
 rcases hz with rfl|rfl
 ·have e:((n:Int)+(3:Nat) - 1) / (3:Nat)=((n:Int)+2) / 3:=by congr 1;omega
  rw [if_neg (by omega),e,if_neg (by omega)]
  constructor <;> omega
 ·have e:((n:Int)+(4:Nat) - 1) / (4:Nat)=((n:Int)+3) / 4:=by congr 1;omega
  rw [if_neg (by omega),e,if_neg (by omega)]
  constructor <;> omega
def oneI (a:List (BitVec 8)):List (BitVec 8):=imgL a 1#8
def twoI (b:List (BitVec 8)):List (BitVec 8):=imgL b 2#8
def oneP (a:List (BitVec 8)):Prm:=prmH 7#32 (oneI a).length 4 2
def twoP (b:List (BitVec 8)):Prm:=prmH 8#32 (twoI b).length 3 1
theorem one_ok (a:List (BitVec 8)):HdOk keyT (oneP a) (oneI a) (sha (oneI a))∧(oneP a).k≤21:=by
 obtain ⟨h1,h2⟩:=imgL_b a 1#8
 obtain ⟨c1,c2⟩:=count_34 (z:=4) h1 h2 (.inr rfl)
 obtain ⟨q1,q2⟩:=prmH_ok (s:=7#32) (p:=2) c1 (by decide)
 exact ⟨⟨q1,q2,Nat.le_trans h2 (by decide),rfl,by decide⟩,c2⟩
theorem two_ok (b:List (BitVec 8)):HdOk keyT (twoP b) (twoI b) (sha (twoI b))∧(twoP b).k≤21:=by
 obtain ⟨h1,h2⟩:=imgL_b b 2#8
 obtain ⟨c1,c2⟩:=count_34 (z:=3) h1 h2 (.inl rfl)
 obtain ⟨q1,q2⟩:=prmH_ok (s:=8#32) (p:=1) c1 (by decide)
 exact ⟨⟨q1,q2,Nat.le_trans h2 (by decide),rfl,by decide⟩,c2⟩
abbrev oneC (a:List (BitVec 8)) (hb:Nat):Hl := .any (crP keyT (oneP a) 10#32 (oneI a) (sha (oneI a)) hb)
abbrev twoC (b:List (BitVec 8)) (hb:Nat):Hl := .any (crP keyT (twoP b) 20#32 (twoI b) (sha (twoI b)) hb)
set_option maxHeartbeats 8000000 in
theorem tp_heads (H:List Hl) (aa ba:Option Addr) (ac bc:Nat) (a b:List (BitVec 8)) (ha:Rs (stars H) B aa ac a) (hb:Rs (stars H) B ba bc b) (hal:a.length≤4611686018427387904) (hbl:b.length≤4611686018427387904) :
  Spec Tryz.prog 7 [.slice aa a.length ac,.slice ba b.length bc] H (fun _:Nat × Nat=>True) (fun r => .tuple #[.pointer (some ⟨r.1,0,none⟩),.pointer (some ⟨r.2,0,none⟩),.bool true]) (fun r=>oneC a r.1::twoC b r.2::H):=by
 refine spec_pure (res:=fun r:Nat × Nat=>[oneC a r.1,twoC b r.2]) H Tryz.func7 rfl Tryz.ntmps7 (by kernel_rfl) rfl (fun W=>?_)
 have hale:=ha.le
 have hble:=hb.le
 have hok1:=(one_ok a).1
 have hok2:=(two_ok b).1
 obtain ⟨k1,hk1⟩:∃ k,k=min a.length 60:=⟨_,rfl⟩
 obtain ⟨k2,hk2⟩:∃ k,k=min b.length 60:=⟨_,rfl⟩
 have et1:a.take k1=a.take 60:=by rw [hk1,Nat.min_comm,←List.take_take,List.take_length]
 have et2:b.take k2=b.take 60:=by rw [hk2,Nat.min_comm,←List.take_take,List.take_length]
 obtain ⟨P1,hP1⟩:∃ P,a.take 60=P:=⟨_,rfl⟩
 obtain ⟨P2,hP2⟩:∃ P,b.take 60=P:=⟨_,rfl⟩
 rw [hP1] at et1
 rw [hP2] at et2
 have hl1:P1.length≤60:=by rw [←hP1,List.length_take];omega
 have hl2:P2.length≤60:=by rw [←hP2,List.length_take];omega
 have hr1:=ha.cutv 0 k1 (Nat.zero_le _) (by omega)
 have hr2:=hb.cutv 0 k2 (Nat.zero_le _) (by omega)
 rw [et1,List.drop_zero] at hr1
 rw [et2,List.drop_zero] at hr2
 have ho1:([]++P1)++[1#8]=oneI a:=by rw [←hP1];rfl
 have ho2:([]++P2)++[2#8]=twoI b:=by rw [←hP2];rfl
 obtain ⟨d1,hd1⟩:∃ d,sha (oneI a)=d:=⟨_,rfl⟩
 obtain ⟨d2,hd2⟩:∃ d,sha (twoI b)=d:=⟨_,rfl⟩
 have hol1:0+P1.length+1=(oneI a).length:=by rw [←ho1];simp
 have hol2:0+P2.length+1=(twoI b).length:=by rw [←ho2];simp
 repeat' (first|intro _|refine cw ?_|refine cw2 ?_ ?_|refine ow ?_|refine ow2 ?_ ?_|fail)
 refine st_via (X:=Nat) (fun hb=>[(1,.slice ba b.length bc),(7,.pointer (some ⟨hb,0,none⟩)),(8,I 0)]) (fun hb=>[oneC a hb,.any (stars H)]) ?rest ?walk
 case walk =>
  intro via
  refine st_tree' [(0,_)] rtD37_0 [0,1,7,8,9,10] (.alt3 [2,3,4,5,6] [] 0 (.alt [] [2,3,4,5,6] 1 (.alt [] [2,3,4,5,6] 7 (.step [] [] 8 (.step [] [] 9 (.step [] [] 10 (.fin [11,12,13,14,15] [])))) 8 (.step [] [2,3,4,5,6] 7 (.step [] [] 9 (.step [] [] 10 (.fin [11,12,13,14,15] []))))) 8 (.step [] [2,3,4,5,6] 1 (.step [] [2,3,4,5,6] 7 (.step [] [] 9 (.step [] [] 10 (.fin [11,12,13,14,15] [])))))) 1 (.alt [] [2,3,4,5,6] 0 (.alt [] [2,3,4,5,6] 7 (.step [] [] 8 (.step [] [] 9 (.step [] [] 10 (.fin [11,12,13,14,15] [])))) 8 (.step [] [2,3,4,5,6] 7 (.step [] [] 9 (.step [] [] 10 (.fin [11,12,13,14,15] []))))) 8 (.step [] [2,3,4,5,6] 0 (.step [] [2,3,4,5,6] 7 (.step [] [] 9 (.step [] [] 10 (.fin [11,12,13,14,15] [])))))) 8 (.alt [] [2,3,4,5,6] 0 (.step [] [2,3,4,5,6] 1 (.step [] [2,3,4,5,6] 7 (.step [] [] 9 (.step [] [] 10 (.fin [11,12,13,14,15] []))))) 1 (.step [] [2,3,4,5,6] 0 (.step [] [2,3,4,5,6] 7 (.step [] [] 9 (.step [] [] 10 (.fin [11,12,13,14,15] []))))))) mixed cv (by kernel_rfl) (by kernel_rfl) ?_
  repeat' (first|intro _|refine sg ?_|(refine p_call ?_;refine po (by first|refine o1_min (r:=(k1:Int)) rfl rfl (by omega) fz|fail) ?_)|(refine p_slice ?_;refine po (by first|((refine o1_cs_h (xs:=a) k1 rfl rfl rfl rfl hale (by omega) ?_;rw [et1]);all_goals exact fz)|fail) ?_)|refine pw ?_|refine pdd ?_|(refine k_fn 9 ?_;refine o1_call (fun _=>tp_key _) rfl (fun bk _=>?_))|(refine k_buildSlice ?_;first|refine o1_lit_enc (T:=22) B ([]:List (BitVec 8)) rfl rfl rfl (fun _=>rfl) rfl rfl rfl (fun b0=>?_)|refine o1_lit_enc B [1#8] rfl rfl rfl (fun _=>rfl) rfl rfl rfl (fun b20=>?_))|(refine k_call ?_;first|refine ox_append_box (b:=b0) (xs:=[]) (ys:=P1) rfl rfl rfl rfl (fun _=>hr1.up) rfl rfl (fun _=>rfl) (by simp;omega) (by simp;omega) (fun a19 c19=>?_)|(refine ox_append (ad:=a19) (c:=c19) (xs:=[]++P1) (ys:=[1#8]) rfl rfl (rx_box rfl (by decide)) rfl rfl (fun _=>rfl) (by simp;omega) (by simp;omega) (fun a21 c21=>?_);rw [ho1,hol1]))|(refine k_fn 27 ?_;(refine o1_call (fun hh=>cr_New _ keyT (oneP a) 10#32 (oneI a) (sha (oneI a)) (some ⟨bk,0,none⟩) 3 a21 c21 hok1 (Rs.up (Rs.of_frz (T:=5) (b:=bk) (l:=keyT) (by decide))) (rx_row (T:=5) (ad:=a21) (c:=c21) (l:=oneI a) hh)) rfl (fun hb _=>?_)))|refine ow ?_|refine And.intro ?_ ?_|fail)
  all_goals dsimp only [List.cons_append,List.nil_append]
  all_goals exact via _ _ _ cv ent
 case rest =>
  intro hb
  repeat' (first|intro _|refine cw ?_|refine cw2 ?_ ?_|refine ow ?_|refine ow2 ?_ ?_|fail)
  refine st_via (X:=Nat) (fun hb2=>[(7,.pointer (some ⟨hb,0,none⟩)),(8,I 0),(9,.pointer (some ⟨hb2,0,none⟩)),(10,I 0)]) (fun hb2=>[twoC b hb2,oneC a hb,.any (stars H)]) ?rest2 ?walk2
  case walk2 =>
   intro via
   refine st_tree' [(1,_)] rtD37_1 [0,1,7,8,9,10] (.alt3 [2,3,4,5,6] [] 0 (.alt [] [2,3,4,5,6] 1 (.alt [] [2,3,4,5,6] 7 (.step [] [] 8 (.step [] [] 9 (.step [] [] 10 (.fin [11,12,13,14,15] [])))) 8 (.step [] [2,3,4,5,6] 7 (.step [] [] 9 (.step [] [] 10 (.fin [11,12,13,14,15] []))))) 8 (.step [] [2,3,4,5,6] 1 (.step [] [2,3,4,5,6] 7 (.step [] [] 9 (.step [] [] 10 (.fin [11,12,13,14,15] [])))))) 1 (.alt [] [2,3,4,5,6] 0 (.alt [] [2,3,4,5,6] 7 (.step [] [] 8 (.step [] [] 9 (.step [] [] 10 (.fin [11,12,13,14,15] [])))) 8 (.step [] [2,3,4,5,6] 7 (.step [] [] 9 (.step [] [] 10 (.fin [11,12,13,14,15] []))))) 8 (.step [] [2,3,4,5,6] 0 (.step [] [2,3,4,5,6] 7 (.step [] [] 9 (.step [] [] 10 (.fin [11,12,13,14,15] [])))))) 8 (.alt [] [2,3,4,5,6] 0 (.step [] [2,3,4,5,6] 1 (.step [] [2,3,4,5,6] 7 (.step [] [] 9 (.step [] [] 10 (.fin [11,12,13,14,15] []))))) 1 (.step [] [2,3,4,5,6] 0 (.step [] [2,3,4,5,6] 7 (.step [] [] 9 (.step [] [] 10 (.fin [11,12,13,14,15] []))))))) mixed cv (by kernel_rfl) (by kernel_rfl) ?_
   repeat' (first|intro _|refine sg ?_|(refine p_call ?_;refine po (by first|refine o1_min (r:=(k2:Int)) rfl rfl (by omega) fz|fail) ?_)|(refine p_slice ?_;refine po (by first|((refine o1_cs_h (xs:=b) k2 rfl rfl rfl rfl hble (by omega) ?_;rw [et2]);all_goals exact fz)|fail) ?_)|refine pw ?_|refine pdd ?_|(refine k_fn 9 ?_;refine o1_call (fun _=>tp_key _) rfl (fun bk _=>?_))|(refine k_buildSlice ?_;first|refine o1_lit_enc (T:=22) B ([]:List (BitVec 8)) rfl rfl rfl (fun _=>rfl) rfl rfl rfl (fun b0=>?_)|refine o1_lit_enc B [2#8] rfl rfl rfl (fun _=>rfl) rfl rfl rfl (fun b20=>?_))|(refine k_call ?_;first|refine ox_append_box (b:=b0) (xs:=[]) (ys:=P2) rfl rfl rfl rfl (fun _=>hr2.up) rfl rfl (fun _=>rfl) (by simp;omega) (by simp;omega) (fun a19 c19=>?_)|(refine ox_append (ad:=a19) (c:=c19) (xs:=[]++P2) (ys:=[2#8]) rfl rfl (rx_box rfl (by decide)) rfl rfl (fun _=>rfl) (by simp;omega) (by simp;omega) (fun a21 c21=>?_);rw [ho2,hol2]))|(refine k_fn 27 ?_;(refine o1_call (fun hh=>cr_New _ keyT (twoP b) 20#32 (twoI b) (sha (twoI b)) (some ⟨bk,0,none⟩) 3 a21 c21 hok2 (Rs.up (Rs.of_frz (T:=5) (b:=bk) (l:=keyT) (by decide))) (rx_row (T:=5) (ad:=a21) (c:=c21) (l:=twoI b) hh)) rfl (fun hb2 _=>?_)))|refine ow ?_|refine And.intro ?_ ?_|fail)
   all_goals dsimp only [List.cons_append,List.nil_append]
   all_goals exact via _ _ _ cv ent
  case rest2 =>
   intro hb2
   repeat' (first|intro _|refine cw ?_|refine cw2 ?_ ?_|refine ow ?_|refine ow2 ?_ ?_|fail)
   refine rt_tmp3 (hb,hb2) rfl rfl rfl rfl rfl trivial ?_
   exact ent
end Go.Dp
