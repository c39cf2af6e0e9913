/-
  Downpour, walked and proved: part 19.
  Conditions: those that stand in each theorem.
-/
import Derived.Test.YtcblcmdikhllbaaGreatDoorQTopEnough3
import Derived.Test.YtcblcmdikhllbaaGreatDoorQTopEnough17
import Derived.Test.YtcblcmdikhllbaaGreatDoorQTopEnough18
import Derived.Test.YtcblcmdikhllbaaGreatDoorQTopEnough15
import Derived.Test.YtcblcmdikhllbaaGreatDoorQTopEnough1
set_option linter.unusedVariables false
set_option linter.unusedSimpArgs false
set_option maxHeartbeats 64000000
namespace Go.Dp
open Go.RowKit Go.Proofs Sha
def c0O:List Row:=[tR 17 [] [],tR 18 [0] [0],tR 19 [1] [0,1],tR 20 [2] [0,1,2],tR 21 [] [],tR 22 [4] [4],tR 23 [] [],tR 24 [6] [6],tR 25 [3,5,7] (rG 8)]
theorem pk_off (H:List Hl) (db:Nat) (key:List (BitVec 8)) (f:Fl) (ad2:Option Addr) (m2 c2:Nat) :
  Spec Tryz.prog 12 [.pointer (some ⟨db,0,none⟩),.slice ad2 m2 c2] (.any (dvO key f db)::H) (fun _:Unit=>True) (fun _=>I 11) (fun _ => .any (dvO key f db)::H):=by
 refine Spec.som (by kernel_rfl) (fun ⟨fb,ad,c,h,mb,sb,ka,kc,x,A⟩ hl0=>?_)
 obtain ⟨hk,hkey⟩:=hl0
 dsimp only at hk hkey
 show Spec _ _ _ ([dvB db fb ka key.length kc none,fB fb ad c f h,fR ad c f,.any A]++H) _ _ _
 refine sF (res:=fun _:Unit=>[.any (dvO key f db)]) [dvB db fb ka key.length kc none,fB fb ad c f h,fR ad c f,.any A] H Tryz.func12 Tryz.ntmps12 fun W=>?_
 dsimp only [cA,nA]
 repeat' (first|intro _|refine a0S rfl rfl ?_|(refine k_fn 33 ?_;refine a0G (b:=db) (fun _=>dv_Load_nil _ db fb ka key.length kc) rfl (fun _ _=>?_))|refine wK ?_|refine wL ?_ ?_|fail)
 refine b2Q (l:=⟨fb,ad,c,h,mb,sb,ka,kc,x,A⟩) (R:=[.any (stars H)]) ⟨hk,hkey⟩ ent ?_
 refine a0E () rfl rfl rfl trivial ?_
 exact ent
theorem dv_hears_cut (H:List Hl) (db fb:Nat) (ka:Option Addr) (key:List (BitVec 8)) (kc:Nat) (mb:Nat) (ad:Option Addr) (c:Nat) (f f1:Fl) (h:Hid) (x:StD) (lp:Option Addr) (ad2:Option Addr) (m2 c2:Nat) (b:List (BitVec 8)) (m:ManD)
  (hkey:Rs (stars H) B ka kc key) (hkl:key.length≤300) (hb:Rs (stars H) B ad2 c2 b) (hm2:m2=b.length) (hpr:prM key b=(m,0)) (hx:x.Rd (stars H)) (hmx:x.may=true) (hmm:m.may=true) (he:errOf x m=0) (hk:FlOk f h) (hd:f.pw.isDown=false) (hW:cellW f (admitS x m (none,0) (none,0) (none,0)).by=(f1,11)) :
  Spec Tryz.prog 36 [.pointer (some ⟨db,0,none⟩),.slice ad2 m2 c2] (dvB db fb ka key.length kc (pM mb)::meB mb x lp::fB fb ad c f h::fR ad c f::H) (fun h':Hid=>FlOk f1 h') (fun _=>I 11) (fun h'=>dvB db fb ka key.length kc (pM mb)::fB fb ad c f1 h'::fR ad c f1::H):=by
 subst hm2
 refine sF (res:=fun h':Hid=>[dvB db fb ka key.length kc (pM mb),fB fb ad c f1 h',fR ad c f1]) [dvB db fb ka key.length kc (pM mb),meB mb x lp,fB fb ad c f h,fR ad c f] H Tryz.func36 Tryz.ntmps36 fun W=>?_
 dsimp only [cA,nA]
 have hk0:RdS (stars H) x.m.h:=hx.m
 have hk1:RdS (stars H) x.s0.h:=hx.s0
 have hk2:RdS (stars H) x.s1.h:=hx.s1
 have hlt:x.light:=a7P hmx
 have hml:m.h.l.length≤100:=by have:=(man_mayM hmm).2.2;omega
 have hmay:∀ r0 r1 r2,(admitS x m r0 r1 r2).may=true:=fun _ _ _=>b3P hmx hmm
 repeat' (first|intro _|(refine a0K ?_;refine a0F (b:=db) (i:=0) rfl rfl ?_)|(refine k_fn 73 ?_;(refine a0A (fun _=>b9I _ ka ad2 kc c2 key b hkey.up hb.up hkl (m,0) hpr) rfl (fun r1 _=>?_);(try dsimp only)))|(refine a1O ?_;refine a1D rfl (fun b5=>?_))|refine wK ?_|refine wL ?_ ?_|fail)
 refine a5T [(0,_),(5,_)] c0P [8,12,13] (.alt [0,1,2,3,4,5,6,7] [] 8 (.step [9,10,11] [] 12 (.step [] [9,10,11] 13 (.fin [14] [11]))) 12 (.step [] [0,1,2,3,4,5,6,7] 8 (.step [9,10,11] [] 13 (.fin [14] [11])))) mixed cv (by kernel_rfl) (by kernel_rfl) ?_
 repeat' (first|intro _|refine sg ?_|(refine p_fn 33 ?_;refine po (by first|refine a0A (fun _=>a1Q db fb ka key.length kc mb x lp) rfl (fun _ _=>fz)|fail) ?_)|refine pw ?_|refine pdd ?_|(refine k_fn 74 ?_;(refine a0A (fun hh=>ss_Admit_ok _ x (setM m r1) hk0.up (a0I (T:=5) (ad:=r1.1) (c:=r1.2) (l:=m.h.l) hh) hk1.up hk2.up ⟨hlt,hml⟩ he) rfl (fun ⟨q0,q1,q2⟩ _=>?_);(try dsimp only)))|(refine a1O ?_;refine a1D rfl (fun b7=>?_))|refine ow ?_|refine And.intro ?_ ?_|fail)
 all_goals dsimp only [cA,nA]
 ·rw [show admitS x (setM m r1) q0 q1 q2=admitS x m q0 q1 q2 from rfl,show (setM m r1).h.l=m.h.l from rfl]
  repeat' (first|intro _|refine wK ?_|refine wL ?_ ?_|fail)
  refine a0V (dvB db fb ka key.length kc (pM mb)::fB fb ad c f h::fR ad c f::[rowL q0 x.s0.h.l,rowL q1 x.s1.h.l,rowL q2 m.h.l,.box b7 51 (admitS x m q0 q1 q2).c,.any (stars H)]) (Ent.out ent) (fun hh=>a7R _ db fb ka key.length kc (pM mb) ad c f f1 11 h (admitS x m q0 q1 q2) none (hmay _ _ _) ⟨a0I (T:=5) (ad:=q0.1) (c:=q0.2) (l:=x.s0.h.l) (a0B (a0B (a0B hh))),a0I (T:=5) (ad:=q1.1) (c:=q1.2) (l:=x.s1.h.l) (a0B (a0B (a0B hh))),a0I (T:=5) (ad:=q2.1) (c:=q2.2) (l:=m.h.l) (a0B (a0B (a0B hh)))⟩ hk hd hW (by decide)) rfl (fun h1 hk1=>?_)
  repeat' (first|intro _|(refine a0D .neq ?_;refine a3R rfl rfl (by decide) ?_)|refine wK ?_|refine wL ?_ ?_|fail)
  refine a0E h1 rfl rfl rfl hk1 ?_
  exact ent
 ·rw [show admitS x (setM m r1) q0 q1 q2=admitS x m q0 q1 q2 from rfl,show (setM m r1).h.l=m.h.l from rfl]
  repeat' (first|intro _|refine wK ?_|refine wL ?_ ?_|fail)
  refine a0V (dvB db fb ka key.length kc (pM mb)::fB fb ad c f h::fR ad c f::[rowL q0 x.s0.h.l,rowL q1 x.s1.h.l,rowL q2 m.h.l,.box b7 51 (admitS x m q0 q1 q2).c,.any (stars H)]) (Ent.out ent) (fun hh=>a7R _ db fb ka key.length kc (pM mb) ad c f f1 11 h (admitS x m q0 q1 q2) none (hmay _ _ _) ⟨a0I (T:=5) (ad:=q0.1) (c:=q0.2) (l:=x.s0.h.l) (a0B (a0B (a0B hh))),a0I (T:=5) (ad:=q1.1) (c:=q1.2) (l:=x.s1.h.l) (a0B (a0B (a0B hh))),a0I (T:=5) (ad:=q2.1) (c:=q2.2) (l:=m.h.l) (a0B (a0B (a0B hh)))⟩ hk hd hW (by decide)) rfl (fun h1 hk1=>?_)
  repeat' (first|intro _|(refine a0D .neq ?_;refine a3R rfl rfl (by decide) ?_)|refine wK ?_|refine wL ?_ ?_|fail)
  refine a0E h1 rfl rfl rfl hk1 ?_
  exact ent
theorem pk_hears_cut_I (H:List Hl) (db:Nat) (key:List (BitVec 8)) (f:Fl) (s:StD) (ad2:Option Addr) (m2 c2:Nat) (b:List (BitVec 8)) (hb:Rs (stars H) B ad2 c2 (frameB 1#8 b)) (hm2:m2=b.length+9) (hbl:b.length≤291) (hb1:1≤b.length) (hkl:key.length≤64) (m:ManD) (f1:Fl) (hpr:prM key b=(m,0)) (hms:s.may=true) (hmm:m.may=true) (he:errOf s m=0) (hd:f.pw.isDown=false) (hW:cellW f (admitS s m (none,0) (none,0) (none,0)).by=(f1,11)) :
  Spec Tryz.prog 12 [.pointer (some ⟨db,0,none⟩),.slice ad2 m2 c2] (.any (dvI key f s db)::H) (fun _:Unit=>True) (fun _=>I 11) (fun _ => .any (dvO key f1 db)::H):=by
 refine Spec.som (by kernel_rfl) (fun ⟨fb,ad,c,h,mb,sb,ka,kc,x,A⟩ hl0=>?_)
 obtain ⟨hk,hkey,hx,hnf⟩:=hl0
 dsimp only at hk hkey hx hnf
 subst hnf
 show Spec _ _ _ ([dvB db fb ka key.length kc (pM mb),meB mb x none,fB fb ad c f h,fR ad c f,.any A]++H) _ _ _
 refine sF (res:=fun _:Unit=>[.any (dvO key f1 db)]) [dvB db fb ka key.length kc (pM mb),meB mb x none,fB fb ad c f h,fR ad c f,.any A] H Tryz.func12 Tryz.ntmps12 fun W=>?_
 dsimp only [cA,nA]
 have he2:errOf x m=0:=by rw [←he,b7S]
 have hmx:x.may=true:=by rw [←hms,a6T]
 repeat' (first|intro _|refine a0S rfl rfl ?_|(refine k_fn 33 ?_;refine a0A (fun _=>a1Q db fb ka key.length kc mb x none) rfl (fun _ _=>?_))|(refine k_fn 34 ?_;(refine a0A (fun _=>a3Y _ 1#8 ad2 m2 c2 b hb.up hm2 hbl hb1) rfl (fun ⟨a18,c18⟩ _=>?_);(try dsimp only);rw [show (((1#8:BitVec 8).toNat:Nat):Int)=1 from rfl]))|(refine k_fn 36 ?_;refine a0V (dvB db fb ka key.length kc (pM mb)::meB mb x none::fB fb ad c f h::fR ad c f::[.row 5 1 (.slice a18 (b.length+3) c18) (b.length+3) ((innB 1#8 b).map B),.any A,.any (stars H)]) (Ent.out ent) (fun hh=>dv_hears_cut _ db fb ka key kc mb ad c f f1 h x none (cutA a18 c18 3) b.length (c18 - 3) b m hkey.up (by omega) (a3U (T:=5) (ad:=a18) (c:=c18) (n:=b.length+3) (l:=innB 1#8 b) (enc:=B) 3 (by rw [a3T];omega) (a4U _ _) (a0B (a0B (a0B (a0B hh))))) rfl hpr ⟨hx.s0.up,hx.s1.up,hx.m.up⟩ hmx hmm he2 hk hd hW) rfl (fun h1 hk1=>?_))|(refine k_fn 35 ?_;refine a0G (b:=db) (fun _=>a5M _ db fb ka key.length kc (pM mb)) rfl (fun _ _=>?_))|refine wK ?_|refine wL ?_ ?_|fail)
 refine b2Q (l:=⟨fb,ad,c,h1,mb,sb,ka,kc,x,A⟩) (R:=[.any (stars H)]) ⟨hk1,hkey⟩ ent ?_
 refine a0E () rfl rfl rfl trivial ?_
 exact ent
theorem pk_hears_cut_L (H:List Hl) (db:Nat) (key:List (BitVec 8)) (f:Fl) (s:StD) (st:Sto) (ad2:Option Addr) (m2 c2:Nat) (b:List (BitVec 8)) (hb:Rs (stars H) B ad2 c2 (frameB 1#8 b)) (hm2:m2=b.length+9) (hbl:b.length≤291) (hb1:1≤b.length) (hkl:key.length≤64) (m:ManD) (f1:Fl) (hpr:prM key b=(m,0)) (hms:s.may=true) (hmm:m.may=true) (he:errOf s m=0) (hd:f.pw.isDown=false) (hW:cellW f (admitS s m (none,0) (none,0) (none,0)).by=(f1,11)) :
  Spec Tryz.prog 12 [.pointer (some ⟨db,0,none⟩),.slice ad2 m2 c2] (.any (dvL key f s st db)::H) (fun _:Unit=>True) (fun _=>I 11) (fun _ => .any (dvO key f1 db)::H):=by
 refine Spec.som (by kernel_rfl) (fun ⟨fb,ad,c,h,mb,sb,ka,kc,x,A⟩ hl0=>?_)
 obtain ⟨hk,hkey,hx,hnf⟩:=hl0
 dsimp only at hk hkey hx hnf
 subst hnf
 show Spec _ _ _ ([dvB db fb ka key.length kc (pM mb),meB mb x (some ⟨sb,0,none⟩),.any (stP st fb sb),fB fb ad c f h,fR ad c f,.any A]++H) _ _ _
 refine sF (res:=fun _:Unit=>[.any (dvO key f1 db)]) [dvB db fb ka key.length kc (pM mb),meB mb x (some ⟨sb,0,none⟩),.any (stP st fb sb),fB fb ad c f h,fR ad c f,.any A] H Tryz.func12 Tryz.ntmps12 fun W=>?_
 dsimp only [cA,nA]
 have he2:errOf x m=0:=by rw [←he,b7S]
 have hmx:x.may=true:=by rw [←hms,a6T]
 repeat' (first|intro _|refine a0S rfl rfl ?_|(refine k_fn 33 ?_;refine a0A (fun _=>a1Q db fb ka key.length kc mb x (some ⟨sb,0,none⟩)) rfl (fun _ _=>?_))|(refine k_fn 34 ?_;(refine a0A (fun _=>a3Y _ 1#8 ad2 m2 c2 b hb.up hm2 hbl hb1) rfl (fun ⟨a18,c18⟩ _=>?_);(try dsimp only);rw [show (((1#8:BitVec 8).toNat:Nat):Int)=1 from rfl]))|(refine k_fn 36 ?_;refine a0V (dvB db fb ka key.length kc (pM mb)::meB mb x (some ⟨sb,0,none⟩)::fB fb ad c f h::fR ad c f::[.row 5 1 (.slice a18 (b.length+3) c18) (b.length+3) ((innB 1#8 b).map B),.any (stP st fb sb),.any A,.any (stars H)]) (Ent.out ent) (fun hh=>dv_hears_cut _ db fb ka key kc mb ad c f f1 h x (some ⟨sb,0,none⟩) (cutA a18 c18 3) b.length (c18 - 3) b m hkey.up (by omega) (a3U (T:=5) (ad:=a18) (c:=c18) (n:=b.length+3) (l:=innB 1#8 b) (enc:=B) 3 (by rw [a3T];omega) (a4U _ _) (a0B (a0B (a0B (a0B hh))))) rfl hpr ⟨hx.s0.up,hx.s1.up,hx.m.up⟩ hmx hmm he2 hk hd hW) rfl (fun h1 hk1=>?_))|(refine k_fn 35 ?_;refine a0G (b:=db) (fun _=>a5M _ db fb ka key.length kc (pM mb)) rfl (fun _ _=>?_))|refine wK ?_|refine wL ?_ ?_|fail)
 refine b2Q (l:=⟨fb,ad,c,h1,mb,sb,ka,kc,x,A⟩) (R:=[.any (stars H)]) ⟨hk1,hkey⟩ ent ?_
 refine a0E () rfl rfl rfl trivial ?_
 exact ent
theorem turns_O (H:List Hl) (db:Nat) (key:List (BitVec 8)) (f:Fl) (fn:FuncId) :
  Spec Tryz.prog 52 [.pointer (some ⟨db,0,none⟩),.func (.func fn) #[] #[]] (.any (dvO key f db)::H) (fun _:Unit=>True) (fun _=>I 11) (fun _ => .any (dvO key f db)::H):=by
 refine Spec.som (by kernel_rfl) (fun ⟨fb,ad,c,h,mb,sb,ka,kc,x,A⟩ hl0=>?_)
 obtain ⟨hk,hkey⟩:=hl0
 dsimp only at hk hkey
 show Spec _ _ _ ([dvB db fb ka key.length kc none,fB fb ad c f h,fR ad c f,.any A]++H) _ _ _
 refine sF (res:=fun _:Unit=>[.any (dvO key f db)]) [dvB db fb ka key.length kc none,fB fb ad c f h,fR ad c f,.any A] H Tryz.func52 Tryz.ntmps52 fun W=>?_
 dsimp only [cA,nA]
 repeat' (first|intro _|refine a0S rfl rfl ?_|(refine k_fn 33 ?_;refine a0G (b:=db) (fun _=>dv_Load_nil _ db fb ka key.length kc) rfl (fun _ _=>?_))|refine wK ?_|refine wL ?_ ?_|fail)
 refine b2Q (l:=⟨fb,ad,c,h,mb,sb,ka,kc,x,A⟩) (R:=[.any (stars H)]) ⟨hk,hkey⟩ ent ?_
 refine a0E () rfl rfl rfl trivial ?_
 exact ent
theorem turns_cut_I (H:List Hl) (db:Nat) (key:List (BitVec 8)) (f f1:Fl) (s y:StD) (fn:FuncId) (Y:StD→StD)
  (hto:∀ x H',nf x=s→x.Rd (stars H')→Spec Tryz.prog fn [x.V] H' (fun _:PA × PA × PA=>True) (fun r => .tuple #[(copyS (Y x) r.1 r.2.1 r.2.2).V,.bool true]) (fun r=>rowL r.1 (Y x).s0.h.l::rowL r.2.1 (Y x).s1.h.l::rowL r.2.2 (Y x).m.h.l::H'))
  (hY:∀ x,nf x=s→nf (Y x)=y) (hm:y.may=true) (hd:f.pw.isDown=false) (hW:cellW f y.by=(f1,11)) :
  Spec Tryz.prog 52 [.pointer (some ⟨db,0,none⟩),.func (.func fn) #[] #[]] (.any (dvI key f s db)::H) (fun _:Unit=>True) (fun _=>I 11) (fun _ => .any (dvO key f1 db)::H):=by
 refine Spec.som (by kernel_rfl) (fun ⟨fb,ad,c,h,mb,sb,ka,kc,x,A⟩ hl0=>?_)
 obtain ⟨hk,hkey,hx,hnf⟩:=hl0
 dsimp only at hk hkey hx hnf
 show Spec _ _ _ ([dvB db fb ka key.length kc (pM mb),meB mb x none,fB fb ad c f h,fR ad c f,.any A]++H) _ _ _
 refine sF (res:=fun _:Unit=>[.any (dvO key f1 db)]) [dvB db fb ka key.length kc (pM mb),meB mb x none,fB fb ad c f h,fR ad c f,.any A] H Tryz.func52 Tryz.ntmps52 fun W=>?_
 dsimp only [cA,nA]
 have hyx:=hY x hnf
 obtain ⟨z,hz⟩:∃ z,Y x=z:=⟨_,rfl⟩
 have hcall:=fun (H':List Hl) (h:x.Rd (stars H'))=>hto x H' hnf h
 rw [hz] at hcall hyx
 have hmay:∀ r0 r1 r2,(copyS z r0 r1 r2).may=true:=fun r0 r1 r2=>by rw [a3P,←a6T,hyx];exact hm
 have hW2:∀ r0 r1 r2,cellW f (copyS z r0 r1 r2).by=(f1,11):=fun r0 r1 r2=>by rw [←hW,←hyx];rfl
 repeat' (first|intro _|refine a0S rfl rfl ?_|(refine a6G (args:=[x.V]) (caps:=[]) rfl (fun _=>hcall _ ⟨hx.s0.up,hx.s1.up,hx.m.up⟩) rfl (fun ⟨r0,r1,r2⟩ _=>?_);(try dsimp only))|(refine k_fn 33 ?_;refine a0A (fun _=>a1Q db fb ka key.length kc mb x none) rfl (fun _ _=>?_))|(refine a1O ?_;refine a1D rfl (fun b6=>?_))|refine wK ?_|refine wL ?_ ?_|fail)
 refine a0H [(0,_),(6,_),(5,_)] b8J [7,8] [⟨[0,1,2,3,4,5,6],[],some 7⟩,⟨[],[0],some 8⟩,⟨[9],[],none⟩] mixed cv (by kernel_rfl) (by kernel_rfl) ?_
 repeat' (first|intro _|refine sg ?_|(refine a1E ?_;refine po (by first|refine a0F (b:=mb) (i:=17) rfl rfl fz|fail) ?_)|refine pw ?_|refine pdd ?_|(refine k_fn 32 ?_;refine a0V (dvB db fb ka key.length kc (pM mb)::fB fb ad c f h::fR ad c f::[rowL r0 z.s0.h.l,rowL r1 z.s1.h.l,rowL r2 z.m.h.l,.any A,.any (stars H)]) (Ent.out ent) (fun hh=>a7R _ db fb ka key.length kc (pM mb) ad c f f1 11 h (copyS z r0 r1 r2) none (hmay r0 r1 r2) ⟨a0I (T:=5) (ad:=r0.1) (c:=r0.2) (l:=z.s0.h.l) (a0B (a0B (a0B hh))),a0I (T:=5) (ad:=r1.1) (c:=r1.2) (l:=z.s1.h.l) (a0B (a0B (a0B hh))),a0I (T:=5) (ad:=r2.1) (c:=r2.2) (l:=z.m.h.l) (a0B (a0B (a0B hh)))⟩ hk hd (hW2 r0 r1 r2) (by decide)) rfl (fun h1 hk1=>?_))|(refine k_fn 35 ?_;refine a0G (b:=db) (fun _=>a5M _ db fb ka key.length kc (pM mb)) rfl (fun _ _=>?_))|refine ow ?_|fail)
 all_goals dsimp only [cA,nA]
 repeat' (first|intro _|refine wK ?_|refine wL ?_ ?_|fail)
 refine b2Q (l:=⟨fb,ad,c,h1,mb,sb,ka,kc,x,A⟩) (R:=[.any (stars H)]) ⟨hk1,hkey⟩ ent ?_
 refine a0E () rfl rfl rfl trivial ?_
 exact ent
theorem turns_ok_L (H:List Hl) (db:Nat) (key:List (BitVec 8)) (f f1:Fl) (s y:StD) (st:Sto) (fn:FuncId) (Y:StD→StD)
  (hto:∀ x H',nf x=s→x.Rd (stars H')→Spec Tryz.prog fn [x.V] H' (fun _:PA × PA × PA=>True) (fun r => .tuple #[(copyS (Y x) r.1 r.2.1 r.2.2).V,.bool true]) (fun r=>rowL r.1 (Y x).s0.h.l::rowL r.2.1 (Y x).s1.h.l::rowL r.2.2 (Y x).m.h.l::H'))
  (hY:∀ x,nf x=s→nf (Y x)=y) (hm:y.may=true) (hd:f.pw.isDown=false) (hW:cellW f y.by=(f1,0)) :
  Spec Tryz.prog 52 [.pointer (some ⟨db,0,none⟩),.func (.func fn) #[] #[]] (.any (dvL key f s st db)::H) (fun _:Unit=>True) (fun _=>I 0) (fun _ => .any (dvL key f1 y st db)::H):=by
 refine Spec.som (by kernel_rfl) (fun ⟨fb,ad,c,h,mb,sb,ka,kc,x,A⟩ hl0=>?_)
 obtain ⟨hk,hkey,hx,hnf⟩:=hl0
 dsimp only at hk hkey hx hnf
 show Spec _ _ _ ([dvB db fb ka key.length kc (pM mb),meB mb x (some ⟨sb,0,none⟩),.any (stP st fb sb),fB fb ad c f h,fR ad c f,.any A]++H) _ _ _
 refine sF (res:=fun _:Unit=>[.any (dvL key f1 y st db)]) [dvB db fb ka key.length kc (pM mb),meB mb x (some ⟨sb,0,none⟩),.any (stP st fb sb),fB fb ad c f h,fR ad c f,.any A] H Tryz.func52 Tryz.ntmps52 fun W=>?_
 dsimp only [cA,nA]
 have hyx:=hY x hnf
 obtain ⟨z,hz⟩:∃ z,Y x=z:=⟨_,rfl⟩
 have hcall:=fun (H':List Hl) (h:x.Rd (stars H'))=>hto x H' hnf h
 rw [hz] at hcall hyx
 have hmay:∀ r0 r1 r2,(copyS z r0 r1 r2).may=true:=fun r0 r1 r2=>by rw [a3P,←a6T,hyx];exact hm
 have hW2:∀ r0 r1 r2,cellW f (copyS z r0 r1 r2).by=(f1,0):=fun r0 r1 r2=>by rw [←hW,←hyx];rfl
 repeat' (first|intro _|refine a0S rfl rfl ?_|(refine a6G (args:=[x.V]) (caps:=[]) rfl (fun _=>hcall _ ⟨hx.s0.up,hx.s1.up,hx.m.up⟩) rfl (fun ⟨r0,r1,r2⟩ _=>?_);(try dsimp only))|(refine k_fn 33 ?_;refine a0A (fun _=>a1Q db fb ka key.length kc mb x (some ⟨sb,0,none⟩)) rfl (fun _ _=>?_))|(refine a1O ?_;refine a1D rfl (fun b6=>?_))|refine wK ?_|refine wL ?_ ?_|fail)
 refine a0H [(0,_),(6,_),(5,_)] b8J [7,8] [⟨[0,1,2,3,4,5,6],[],some 7⟩,⟨[],[0],some 8⟩,⟨[9],[],none⟩] mixed cv (by kernel_rfl) (by kernel_rfl) ?_
 repeat' (first|intro _|refine sg ?_|(refine a1E ?_;refine po (by first|refine a0F (b:=mb) (i:=17) rfl rfl fz|fail) ?_)|refine pw ?_|refine pdd ?_|(refine k_fn 32 ?_;(refine a0V (dvB db fb ka key.length kc (pM mb)::fB fb ad c f h::fR ad c f::[rowL r0 z.s0.h.l,rowL r1 z.s1.h.l,rowL r2 z.m.h.l,.any (stP st fb sb),.any A,.any (stars H)]) (Ent.out ent) (fun hh=>b1O _ db fb ka key.length kc (pM mb) ad c f f1 h (copyS z r0 r1 r2) (some ⟨sb,0,none⟩) (hmay r0 r1 r2) ⟨a0I (T:=5) (ad:=r0.1) (c:=r0.2) (l:=z.s0.h.l) (a0B (a0B (a0B hh))),a0I (T:=5) (ad:=r1.1) (c:=r1.2) (l:=z.s1.h.l) (a0B (a0B (a0B hh))),a0I (T:=5) (ad:=r2.1) (c:=r2.2) (l:=z.m.h.l) (a0B (a0B (a0B hh)))⟩ hk hd (hW2 r0 r1 r2)) rfl (fun ⟨h1,mb2⟩ hk1=>?_);(try dsimp only at hk1 ⊢)))|(refine k_fn 35 ?_;refine a0G (b:=db) (fun _=>a8P _ db fb ka key.length kc (pM mb2) 0 (by decide)) rfl (fun _ _=>?_))|refine ow ?_|fail)
 all_goals dsimp only [cA,nA]
 repeat' (first|intro _|refine wK ?_|refine wL ?_ ?_|fail)
 refine a4H [rowL r0 z.s0.h.l,rowL r1 z.s1.h.l,rowL r2 z.m.h.l,.any A] [dvB db fb ka key.length kc (pM mb2),meB mb2 (copyS z r0 r1 r2) (some ⟨sb,0,none⟩),.any (stP st fb sb),fB fb ad c f1 h1,fR ad c f1,.any (stars H)] ent ?_
 refine b1R (fun hh=>?_)
 have hA:=a5L hh
 refine b0C (l:=⟨fb,ad,c,h1,mb2,sb,ka,kc,copyS z r0 r1 r2,stars [rowL r0 z.s0.h.l,rowL r1 z.s1.h.l,rowL r2 z.m.h.l,.any A]⟩) (R:=[.any (stars H)]) ⟨hk1,rs_gr hkey Gr.of,⟨a0I (T:=5) (ad:=r0.1) (c:=r0.2) (l:=z.s0.h.l) hA,a0I (T:=5) (ad:=r1.1) (c:=r1.2) (l:=z.s1.h.l) hA,a0I (T:=5) (ad:=r2.1) (c:=r2.2) (l:=z.m.h.l) hA⟩,hyx⟩ ent ?_
 refine a0E () rfl rfl rfl trivial ?_
 exact ent
theorem turns_cut_L (H:List Hl) (db:Nat) (key:List (BitVec 8)) (f f1:Fl) (s y:StD) (st:Sto) (fn:FuncId) (Y:StD→StD)
  (hto:∀ x H',nf x=s→x.Rd (stars H')→Spec Tryz.prog fn [x.V] H' (fun _:PA × PA × PA=>True) (fun r => .tuple #[(copyS (Y x) r.1 r.2.1 r.2.2).V,.bool true]) (fun r=>rowL r.1 (Y x).s0.h.l::rowL r.2.1 (Y x).s1.h.l::rowL r.2.2 (Y x).m.h.l::H'))
  (hY:∀ x,nf x=s→nf (Y x)=y) (hm:y.may=true) (hd:f.pw.isDown=false) (hW:cellW f y.by=(f1,11)) :
  Spec Tryz.prog 52 [.pointer (some ⟨db,0,none⟩),.func (.func fn) #[] #[]] (.any (dvL key f s st db)::H) (fun _:Unit=>True) (fun _=>I 11) (fun _ => .any (dvO key f1 db)::H):=by
 refine Spec.som (by kernel_rfl) (fun ⟨fb,ad,c,h,mb,sb,ka,kc,x,A⟩ hl0=>?_)
 obtain ⟨hk,hkey,hx,hnf⟩:=hl0
 dsimp only at hk hkey hx hnf
 show Spec _ _ _ ([dvB db fb ka key.length kc (pM mb),meB mb x (some ⟨sb,0,none⟩),.any (stP st fb sb),fB fb ad c f h,fR ad c f,.any A]++H) _ _ _
 refine sF (res:=fun _:Unit=>[.any (dvO key f1 db)]) [dvB db fb ka key.length kc (pM mb),meB mb x (some ⟨sb,0,none⟩),.any (stP st fb sb),fB fb ad c f h,fR ad c f,.any A] H Tryz.func52 Tryz.ntmps52 fun W=>?_
 dsimp only [cA,nA]
 have hyx:=hY x hnf
 obtain ⟨z,hz⟩:∃ z,Y x=z:=⟨_,rfl⟩
 have hcall:=fun (H':List Hl) (h:x.Rd (stars H'))=>hto x H' hnf h
 rw [hz] at hcall hyx
 have hmay:∀ r0 r1 r2,(copyS z r0 r1 r2).may=true:=fun r0 r1 r2=>by rw [a3P,←a6T,hyx];exact hm
 have hW2:∀ r0 r1 r2,cellW f (copyS z r0 r1 r2).by=(f1,11):=fun r0 r1 r2=>by rw [←hW,←hyx];rfl
 repeat' (first|intro _|refine a0S rfl rfl ?_|(refine a6G (args:=[x.V]) (caps:=[]) rfl (fun _=>hcall _ ⟨hx.s0.up,hx.s1.up,hx.m.up⟩) rfl (fun ⟨r0,r1,r2⟩ _=>?_);(try dsimp only))|(refine k_fn 33 ?_;refine a0A (fun _=>a1Q db fb ka key.length kc mb x (some ⟨sb,0,none⟩)) rfl (fun _ _=>?_))|(refine a1O ?_;refine a1D rfl (fun b6=>?_))|refine wK ?_|refine wL ?_ ?_|fail)
 refine a0H [(0,_),(6,_),(5,_)] b8J [7,8] [⟨[0,1,2,3,4,5,6],[],some 7⟩,⟨[],[0],some 8⟩,⟨[9],[],none⟩] mixed cv (by kernel_rfl) (by kernel_rfl) ?_
 repeat' (first|intro _|refine sg ?_|(refine a1E ?_;refine po (by first|refine a0F (b:=mb) (i:=17) rfl rfl fz|fail) ?_)|refine pw ?_|refine pdd ?_|(refine k_fn 32 ?_;refine a0V (dvB db fb ka key.length kc (pM mb)::fB fb ad c f h::fR ad c f::[rowL r0 z.s0.h.l,rowL r1 z.s1.h.l,rowL r2 z.m.h.l,.any (stP st fb sb),.any A,.any (stars H)]) (Ent.out ent) (fun hh=>a7R _ db fb ka key.length kc (pM mb) ad c f f1 11 h (copyS z r0 r1 r2) (some ⟨sb,0,none⟩) (hmay r0 r1 r2) ⟨a0I (T:=5) (ad:=r0.1) (c:=r0.2) (l:=z.s0.h.l) (a0B (a0B (a0B hh))),a0I (T:=5) (ad:=r1.1) (c:=r1.2) (l:=z.s1.h.l) (a0B (a0B (a0B hh))),a0I (T:=5) (ad:=r2.1) (c:=r2.2) (l:=z.m.h.l) (a0B (a0B (a0B hh)))⟩ hk hd (hW2 r0 r1 r2) (by decide)) rfl (fun h1 hk1=>?_))|(refine k_fn 35 ?_;refine a0G (b:=db) (fun _=>a5M _ db fb ka key.length kc (pM mb)) rfl (fun _ _=>?_))|refine ow ?_|fail)
 all_goals dsimp only [cA,nA]
 repeat' (first|intro _|refine wK ?_|refine wL ?_ ?_|fail)
 refine b2Q (l:=⟨fb,ad,c,h1,mb,sb,ka,kc,x,A⟩) (R:=[.any (stars H)]) ⟨hk1,hkey⟩ ent ?_
 refine a0E () rfl rfl rfl trivial ?_
 exact ent
theorem b3W (H:List Hl) (db:Nat) (key:List (BitVec 8)) (f:Fl) (s:StD) (st:Sto) (fn:FuncId) (Y:StD→StD)
  (hto:∀ x H',nf x=s→x.Rd (stars H')→Spec Tryz.prog fn [x.V] H' (fun _:PA × PA × PA=>True) (fun r => .tuple #[(copyS (Y x) r.1 r.2.1 r.2.2).V,.bool false]) (fun r=>rowL r.1 (Y x).s0.h.l::rowL r.2.1 (Y x).s1.h.l::rowL r.2.2 (Y x).m.h.l::H')) :
  Spec Tryz.prog 52 [.pointer (some ⟨db,0,none⟩),.func (.func fn) #[] #[]] (.any (dvL key f s st db)::H) (fun _:Unit=>True) (fun _=>I 0) (fun _ => .any (dvL key f s st db)::H):=by
 refine Spec.som (by kernel_rfl) (fun ⟨fb,ad,c,h,mb,sb,ka,kc,x,A⟩ hl0=>?_)
 obtain ⟨hk,hkey,hx,hnf⟩:=hl0
 dsimp only at hk hkey hx hnf
 show Spec _ _ _ ([dvB db fb ka key.length kc (pM mb),meB mb x (some ⟨sb,0,none⟩),.any (stP st fb sb),fB fb ad c f h,fR ad c f,.any A]++H) _ _ _
 refine sF (res:=fun _:Unit=>[.any (dvL key f s st db)]) [dvB db fb ka key.length kc (pM mb),meB mb x (some ⟨sb,0,none⟩),.any (stP st fb sb),fB fb ad c f h,fR ad c f,.any A] H Tryz.func52 Tryz.ntmps52 fun W=>?_
 dsimp only [cA,nA]
 obtain ⟨z,hz⟩:∃ z,Y x=z:=⟨_,rfl⟩
 have hcall:=fun (H':List Hl) (h:x.Rd (stars H'))=>hto x H' hnf h
 rw [hz] at hcall
 repeat' (first|intro _|refine a0S rfl rfl ?_|(refine a6G (args:=[x.V]) (caps:=[]) rfl (fun _=>hcall _ ⟨hx.s0.up,hx.s1.up,hx.m.up⟩) rfl (fun ⟨r0,r1,r2⟩ _=>?_);(try dsimp only))|(refine k_fn 33 ?_;refine a0A (fun _=>a1Q db fb ka key.length kc mb x (some ⟨sb,0,none⟩)) rfl (fun _ _=>?_))|(refine a1O ?_;refine a1D rfl (fun b6=>?_))|refine wK ?_|refine wL ?_ ?_|fail)
 refine b0C (l:=⟨fb,ad,c,h,mb,sb,ka,kc,x,A⟩) (R:=[.any (stars H)]) ⟨hk,hkey,hx,hnf⟩ ent ?_
 refine a0E () rfl rfl rfl trivial ?_
 exact ent
theorem a8Q (H:List Hl) (db:Nat) (D D':Hp→Prop) (v:Int) (h:Spec Tryz.prog 52 [.pointer (some ⟨db,0,none⟩),.func (.func 53) #[] #[]] (.any D::[.any (stars H)]) (fun _:Unit=>True) (fun _=>I v) (fun _ => .any D'::[.any (stars H)])) :
  Spec Tryz.prog 22 [.pointer (some ⟨db,0,none⟩)] (.any D::H) (fun _:Unit=>True) (fun _=>I v) (fun _ => .any D'::H):=by
 refine sF (res:=fun _:Unit=>[.any D']) [.any D] H Tryz.func22 Tryz.ntmps22 fun W=>?_
 dsimp only [cA,nA]
 repeat' (first|intro _|refine a0A (fun _=>h) rfl (fun _ _=>?_)|refine wK ?_|refine wL ?_ ?_|fail)
 refine a0E () rfl rfl rfl trivial ?_
 exact ent
theorem a2K (H:List Hl) (db:Nat) (D D':Hp→Prop) (v:Int) (h:Spec Tryz.prog 52 [.pointer (some ⟨db,0,none⟩),.func (.func 54) #[] #[]] (.any D::[.any (stars H)]) (fun _:Unit=>True) (fun _=>I v) (fun _ => .any D'::[.any (stars H)])) :
  Spec Tryz.prog 23 [.pointer (some ⟨db,0,none⟩)] (.any D::H) (fun _:Unit=>True) (fun _=>I v) (fun _ => .any D'::H):=by
 refine sF (res:=fun _:Unit=>[.any D']) [.any D] H Tryz.func23 Tryz.ntmps23 fun W=>?_
 dsimp only [cA,nA]
 repeat' (first|intro _|refine a0A (fun _=>h) rfl (fun _ _=>?_)|refine wK ?_|refine wL ?_ ?_|fail)
 refine a0E () rfl rfl rfl trivial ?_
 exact ent
theorem dv_starts_cut (H:List Hl) (db:Nat) (key:List (BitVec 8)) (f f2:Fl) (s:StD) (k:BitVec 32) (w:Nat) (hf:foundC f.bs=some ((k,s.by),w)) (hm:s.may=true) (hn:nf s=s) (ho:s.on=true) (htr:s.t=0) (hd:f.pw.isDown=false) (p:Prm) (len:Nat) (V:BitVec 32→List Bool) (hp:IsP s.m p len) (ht:TabF (stars H)) (hV:∀ r∈recsW f.bs s.g p.z 8,SpRow p r.1 (V r.1)) (ST:Sto) (hST:openS p s.g len V f.bs=ST) (hb:cntS ST.d.M≤1000) (hnd:cntS ST.d.M=p.n)
  (im:List (BitVec 8)) (hR:RR p.n p.z ST.d.M) (him:imgB p ST.d len=im) (hi1:1≤im.length) (hi2:im.length≤512) (hsh:sha im=s.m.h.l) (hF:finF f s im=(f2,11)) :
  Spec Tryz.prog 51 [.pointer (some ⟨db,0,none⟩)] (.any (dvP key f db)::H) (fun _:Unit=>True) (fun _=>I 11) (fun _ => .any (dvP key f2 db)::H):=by
 refine Spec.som (by kernel_rfl) (fun ⟨⟨fb,ad,c,h,mb0,sb,ka,kc,x0,A⟩,mp⟩ hl0=>?_)
 obtain ⟨hk,hkey⟩:=hl0
 dsimp only at hk hkey
 show Spec _ _ _ ([dvB db fb ka key.length kc mp,fB fb ad c f h,fR ad c f,.any A]++H) _ _ _
 refine sF (res:=fun _:Unit=>[.any (dvP key f2 db)]) [dvB db fb ka key.length kc mp,fB fb ad c f h,fR ad c f,.any A] H Tryz.func51 Tryz.ntmps51 fun W=>?_
 dsimp only [cA,nA]
 have hbl:=hk.bs
 have hpr:prs s.by=(s,0):=by rw [b7R hm];exact congrArg (·,0) hn
 obtain ⟨q,hq⟩:∃ q,s.by=q:=⟨_,rfl⟩
 rw [hq] at hf hpr
 obtain ⟨Z,hZ⟩:∃ Z,(seg f.bs (w*256) 256).take (q.length+6)=Z:=⟨_,rfl⟩
 have hmk:=(a3G (a1Z hf).1).1
 rw [hZ] at hmk
 have hZl:Z.length=q.length+6:=by
  have h245:=(a3G (a1Z hf).1).2
  have hw2:=(a1Z hf).2
  rw [←hZ,List.length_take,a2Q (by omega)]
  omega
 have hSp:ST.p=p:=by rw [←hST];rfl
 have hSl:ST.len=len:=by rw [←hST];rfl
 have hn0:((ST.p.n:Int) - cntS ST.d.M)=0:=by rw [hSp,hnd];omega
 have hopen:=fun (H':List Hl) (r0 r1 r2:PA) (hh:RdFl (stars H') fb ad c f) (ht':TabF (stars H'))=>b3I H' db fb ka key.length kc mp ad c f (copyS s r0 r1 r2) p len V ho ⟨hp.ok,hp.es,hp.en,hp.ez,hp.ep,hp.ec⟩ hh hd ht' hV
 simp only [show ∀ r0 r1 r2,openS p (copyS s r0 r1 r2).g len V f.bs=ST from fun _ _ _=>hST] at hopen
 have hF2:∀ r0 r1 r2,finF f (copyS s r0 r1 r2) im=(f2,11):=fun r0 r1 r2=>by rw [←c1S,show nf (copyS s r0 r1 r2)=s from hn];exact hF
 have hact:∀ r0 r1 r2 q1 q2,nf (copyS (actS (copyS s r0 r1 r2)) q1 q2 (none,0))=nf (actS s):=fun r0 r1 r2 q1 q2=>by rw [c1T,show nf (copyS s r0 r1 r2)=s from hn]
 have hmc:∀ r0 r1 r2,(copyS s r0 r1 r2).may=true:=fun r0 r1 r2=>by rw [a3P];exact hm
 repeat' (first|intro _|(refine a0K ?_;first|refine a0F (b:=db) (i:=1) rfl rfl ?_|(refine a0F (b:=b5) (i:=10) rfl rfl ?_;rw [ho])|refine a0F (b:=mb) (i:=17) rfl rfl ?_)|(refine k_fn 46 ?_;(refine a0A (fun hh=>b7H _ fb ad c f k q Z w (RdFl.own hk hh) hd hf hZ) rfl (fun ⟨a21,c21⟩ _=>?_);(try dsimp only)))|(refine k_fn 47 ?_;(refine a0A (fun hh=>b2L _ (cutA a21 c21 6) (c21 - 6) q (a3U (T:=5) (ad:=a21) (c:=c21) (n:=q.length+6) (l:=Z) (enc:=B) 6 (by omega) hmk hh) (s,0) hpr) rfl (fun ⟨r0,r1,r2⟩ _=>?_);dsimp only [StD.V,StD.c,SlotD.V,SlotD.c,copyS]))|(refine a1O ?_;refine a1D rfl (fun b5=>?_))|(refine a0G (b:=db) (fun hh=>hopen _ r0 r1 r2 (RdFl.own hk (a0B hh)) ht.up) rfl (fun ⟨mb,sb2⟩ _=>?_);(try dsimp only))|(refine k_fn 33 ?_;refine a0A (fun _=>a1Q db fb ka key.length kc mb (copyS s r0 r1 r2) (some ⟨sb2,0,none⟩)) rfl (fun _ _=>?_))|(refine k_fn 79 ?_;(refine a0T (stP ST fb sb2) (fun _=>b0Z _ ST fb sb2 (by rw [hSp];exact hp.ok) hb) rfl (fun _ _=>?_);rw [hn0]))|(refine k_fn 80 ?_;(refine a0V (dvB db fb ka key.length kc (pM mb)::meB mb (copyS s r0 r1 r2) (some ⟨sb2,0,none⟩) :: .any (stP ST fb sb2)::fB fb ad c f h::fR ad c f::[rowL r0 s.s0.h.l,rowL r1 s.s1.h.l,rowL r2 s.m.h.l,.any A,.any (stars H)]) (Ent.out ent) (fun hh=>dv_fin_no _ db fb ka key.length kc mb sb2 ad c f f2 11 h (copyS s r0 r1 r2) ST im (hmc r0 r1 r2) ho htr ⟨a0I (T:=5) (ad:=r0.1) (c:=r0.2) (l:=s.s0.h.l) (a0B (a0B (a0B (a0B (a0B hh))))),a0I (T:=5) (ad:=r1.1) (c:=r1.2) (l:=s.s1.h.l) (a0B (a0B (a0B (a0B (a0B hh))))),a0I (T:=5) (ad:=r2.1) (c:=r2.2) (l:=s.m.h.l) (a0B (a0B (a0B (a0B (a0B hh)))))⟩ hk hd (by rw [hSp];exact hp.ok) (by rw [hSp];exact hR) (by rw [hSp];exact hnd) (by rw [hSp,hSl];exact hp.ec) (by rw [hSp,hSl];exact him) hi1 hi2 hsh (hF2 r0 r1 r2) (by decide)) rfl (fun h2 hk2=>?_);(try dsimp only at hk2 ⊢)))|refine wK ?_|refine wL ?_ ?_|fail)
 refine a9C (p:=fun q:Lay × Option Addr=>DvK key f2 q.1) (L:=fun q=>[dvA db key q.1 q.2,flA f2 q.1,frA f2 q.1,.any q.1.A]) (R:=[.any (stars H)]) (⟨fb,ad,c,h2,mb,sb,ka,kc,s,A⟩,pM mb) ⟨hk2,hkey⟩ (by dsimp only [cA,nA];exact ent) ?_
 refine a0E () rfl rfl rfl trivial ?_
 exact ent
theorem dv_met_P (H:List Hl) (db:Nat) (key:List (BitVec 8)) (f:Fl) :
  Spec Tryz.prog 35 [.pointer (some ⟨db,0,none⟩),I 11] (.any (dvP key f db)::H) (fun _:Unit=>True) (fun _=>I 11) (fun _ => .any (dvO key f db)::H) :=
 Spec.som (by kernel_rfl) (fun ⟨l,mp⟩ hl=>(a5M (flA f l::frA f l :: .any l.A::H) db l.fb l.ka key.length l.kc mp).imp (fun _ _ hp hx=>b1Q (p:=DvK key f) (L:=fun l=>[dvA db key l none,flA f l,frA f l,.any l.A]) l hl hp hx))
theorem b3J (H:List Hl) (db:Nat) (key:List (BitVec 8)) (f:Fl) (D D':Hp→Prop) (v:Int) (hst:Spec Tryz.prog 51 [.pointer (some ⟨db,0,none⟩)] (.any (dvP key (startF f) db)::[.any (stars H)]) (fun _:Unit=>True) (fun _=>I v) (fun _ => .any D::[.any (stars H)]))
  (hmet:Spec Tryz.prog 35 [.pointer (some ⟨db,0,none⟩),I v] (.any D::[.any (stars H)]) (fun _:Unit=>True) (fun _=>I v) (fun _ => .any D'::[.any (stars H)])) :
  Spec Tryz.prog 20 [.pointer (some ⟨db,0,none⟩)] (.any (dvP key f db)::H) (fun _:Unit=>True) (fun _=>I v) (fun _ => .any D'::H):=by
 refine Spec.som (by kernel_rfl) (fun ⟨⟨fb,ad,c,h,mb0,sb,ka,kc,x0,A⟩,mp⟩ hl0=>?_)
 obtain ⟨hk,hkey⟩:=hl0
 dsimp only at hk hkey
 show Spec _ _ _ ([dvB db fb ka key.length kc mp,fB fb ad c f h,fR ad c f,.any A]++H) _ _ _
 refine sF (res:=fun _:Unit=>[.any D']) [dvB db fb ka key.length kc mp,fB fb ad c f h,fR ad c f,.any A] H Tryz.func20 Tryz.ntmps20 fun W=>?_
 dsimp only [cA,nA]
 repeat' (first|intro _|refine a0S rfl rfl ?_|refine a0V (.any (dvP key (startF f) db)::[.any (stars H)]) (fun x hx=>c0J ⟨fb,ad,c,h1,mb0,sb,ka,kc,x0,A⟩ none ⟨hk1,hkey⟩ x (Ent.out ent x hx)) (fun _=>hst) rfl (fun _ _=>?_)|refine a0A (fun _=>hmet) rfl (fun _ _=>?_)|(refine a0K ?_;refine a0F (b:=db) (i:=1) rfl rfl ?_)|(refine k_fn 49 ?_;refine a0G (b:=fb) (fun _=>fl_Start _ fb ad c f h hk) rfl (fun h1 hk1=>?_))|(refine k_fn 50 ?_;refine a0G (b:=db) (fun _=>dv_Store_nil _ db fb ka key.length kc mp) rfl (fun _ _=>?_))|refine wK ?_|refine wL ?_ ?_|fail)
 refine a0E () rfl rfl rfl trivial ?_
 exact ent
theorem dvL_P {key:List (BitVec 8)} {f:Fl} {s:StD} {st:Sto} {db:Nat} {R:List Hl}:∀ x,stars (.any (dvL key f s st db)::R) x→stars (.any (dvP key f db)::R) x:=fun x hx=>by
 obtain ⟨l,hl,hy⟩:=b8D hx
 have hz:stars ([meB l.mb l.x (some ⟨l.sb,0,none⟩),.any (stP st l.fb l.sb),.any l.A]++(dvA db key l (pM l.mb)::flA f l::frA f l::R)) x:=Ent.out (by
  dsimp only [cA,nA]
  exact ent) x hy
 refine c0J ⟨l.fb,l.ad,l.c,l.h,l.mb,l.sb,l.ka,l.kc,l.x,stars [meB l.mb l.x (some ⟨l.sb,0,none⟩),.any (stP st l.fb l.sb),.any l.A]⟩ (pM l.mb) ⟨hl.fl,rs_gr hl.key Gr.of⟩ x (Ent.out ent x (b3H _ _ x hz))
abbrev evC (k:Int) (ad:Option Addr) (m c:Nat) (n t:Int):List Value:=[I k,.slice ad m c,I n,I t]
abbrev evV (k:Int) (ad:Option Addr) (m c:Nat) (n t:Int):Value := .agg (evC k ad m c n t).toArray
theorem do_packet (H:List Hl) (db:Nat) (D D':Hp→Prop) (v:Int) (ad:Option Addr) (m c:Nat) (n t:Int) (h:Spec Tryz.prog 12 [.pointer (some ⟨db,0,none⟩),.slice ad m c] (.any D::[.any (stars H)]) (fun _:Unit=>True) (fun _=>I v) (fun _ => .any D'::[.any (stars H)])) :
  Spec Tryz.prog 25 [.pointer (some ⟨db,0,none⟩),evV 1 ad m c n t] (.any D::H) (fun _:Unit=>True) (fun _=>I v) (fun _ => .any D'::H):=by
 refine sF (res:=fun _:Unit=>[.any D']) [.any D] H Tryz.func25 Tryz.ntmps25 fun W=>?_
 dsimp only [cA,nA]
 repeat' (first|intro _|refine a0S rfl rfl ?_|refine a0T D (fun _=>h.pre (Ent.out ent)) rfl (fun _ _=>?_)|(refine k_box ?_;refine a1V rfl rfl (fun b3=>?_))|(refine a0K ?_;first|refine a0F (b:=b3) (i:=0) rfl rfl ?_|refine a0F (b:=b3) (i:=1) rfl rfl ?_)|(refine a0D .eql ?_;first|refine a3I rfl rfl rfl ?_|refine a1Y rfl rfl (by decide) ?_)|refine wK ?_|refine wL ?_ ?_|fail)
 refine a0E () rfl rfl rfl trivial ?_
 exact ent
theorem do_power (H:List Hl) (db:Nat) (D D':Hp→Prop) (v:Int) (ad:Option Addr) (m c:Nat) (n t:Int) (h:Spec Tryz.prog 20 [.pointer (some ⟨db,0,none⟩)] (.any D::[.any (stars H)]) (fun _:Unit=>True) (fun _=>I v) (fun _ => .any D'::[.any (stars H)])) :
  Spec Tryz.prog 25 [.pointer (some ⟨db,0,none⟩),evV 3 ad m c n t] (.any D::H) (fun _:Unit=>True) (fun _=>I v) (fun _ => .any D'::H):=by
 refine sF (res:=fun _:Unit=>[.any D']) [.any D] H Tryz.func25 Tryz.ntmps25 fun W=>?_
 dsimp only [cA,nA]
 repeat' (first|intro _|refine a0S rfl rfl ?_|refine a0T D (fun _=>h.pre (Ent.out ent)) rfl (fun _ _=>?_)|(refine k_box ?_;refine a1V rfl rfl (fun b3=>?_))|(refine a0K ?_;first|refine a0F (b:=b3) (i:=0) rfl rfl ?_|refine a0F (b:=b3) (i:=1) rfl rfl ?_)|(refine a0D .eql ?_;first|refine a3I rfl rfl rfl ?_|refine a1Y rfl rfl (by decide) ?_)|refine wK ?_|refine wL ?_ ?_|fail)
 refine a0E () rfl rfl rfl trivial ?_
 exact ent
theorem do_boot (H:List Hl) (db:Nat) (D D':Hp→Prop) (v:Int) (ad:Option Addr) (m c:Nat) (n t:Int) (h:Spec Tryz.prog 22 [.pointer (some ⟨db,0,none⟩)] (.any D::[.any (stars H)]) (fun _:Unit=>True) (fun _=>I v) (fun _ => .any D'::[.any (stars H)])) :
  Spec Tryz.prog 25 [.pointer (some ⟨db,0,none⟩),evV 4 ad m c n t] (.any D::H) (fun _:Unit=>True) (fun _=>I v) (fun _ => .any D'::H):=by
 refine sF (res:=fun _:Unit=>[.any D']) [.any D] H Tryz.func25 Tryz.ntmps25 fun W=>?_
 dsimp only [cA,nA]
 repeat' (first|intro _|refine a0S rfl rfl ?_|refine a0T D (fun _=>h.pre (Ent.out ent)) rfl (fun _ _=>?_)|(refine k_box ?_;refine a1V rfl rfl (fun b3=>?_))|(refine a0K ?_;first|refine a0F (b:=b3) (i:=0) rfl rfl ?_|refine a0F (b:=b3) (i:=1) rfl rfl ?_)|(refine a0D .eql ?_;first|refine a3I rfl rfl rfl ?_|refine a1Y rfl rfl (by decide) ?_)|refine wK ?_|refine wL ?_ ?_|fail)
 refine a0E () rfl rfl rfl trivial ?_
 exact ent
theorem do_confirm (H:List Hl) (db:Nat) (D D':Hp→Prop) (v:Int) (ad:Option Addr) (m c:Nat) (n t:Int) (h:Spec Tryz.prog 23 [.pointer (some ⟨db,0,none⟩)] (.any D::[.any (stars H)]) (fun _:Unit=>True) (fun _=>I v) (fun _ => .any D'::[.any (stars H)])) :
  Spec Tryz.prog 25 [.pointer (some ⟨db,0,none⟩),evV 5 ad m c n t] (.any D::H) (fun _:Unit=>True) (fun _=>I v) (fun _ => .any D'::H):=by
 refine sF (res:=fun _:Unit=>[.any D']) [.any D] H Tryz.func25 Tryz.ntmps25 fun W=>?_
 dsimp only [cA,nA]
 repeat' (first|intro _|refine a0S rfl rfl ?_|refine a0T D (fun _=>h.pre (Ent.out ent)) rfl (fun _ _=>?_)|(refine k_box ?_;refine a1V rfl rfl (fun b3=>?_))|(refine a0K ?_;first|refine a0F (b:=b3) (i:=0) rfl rfl ?_|refine a0F (b:=b3) (i:=1) rfl rfl ?_)|(refine a0D .eql ?_;first|refine a3I rfl rfl rfl ?_|refine a1Y rfl rfl (by decide) ?_)|refine wK ?_|refine wL ?_ ?_|fail)
 refine a0E () rfl rfl rfl trivial ?_
 exact ent
theorem do_fuse_O (H:List Hl) (db:Nat) (key:List (BitVec 8)) (f:Fl) (ad2:Option Addr) (m2 c2:Nat) (n:Nat) (t:Int) (hn:n≤1000000) :
  Spec Tryz.prog 25 [.pointer (some ⟨db,0,none⟩),evV 2 ad2 m2 c2 n t] (.any (dvO key f db)::H) (fun _:Unit=>True) (fun _=>I 0) (fun _ => .any (dvO key (fuseF f (some n) t) db)::H):=by
 refine Spec.som (by kernel_rfl) (fun ⟨fb,ad,c,h,mb,sb,ka,kc,x,A⟩ hl0=>?_)
 obtain ⟨hk,hkey⟩:=hl0
 dsimp only at hk hkey
 show Spec _ _ _ ([dvB db fb ka key.length kc none,fB fb ad c f h,fR ad c f,.any A]++H) _ _ _
 refine sF (res:=fun _:Unit=>[.any (dvO key (fuseF f (some n) t) db)]) [dvB db fb ka key.length kc none,fB fb ad c f h,fR ad c f,.any A] H Tryz.func25 Tryz.ntmps25 fun W=>?_
 dsimp only [cA,nA]
 repeat' (first|intro _|refine a0S rfl rfl ?_|(refine k_box ?_;refine a1V rfl rfl (fun b3=>?_))|(refine a0K ?_;refine a0F (b:=b3) (i:=0) rfl rfl ?_)|(refine a0D .eql ?_;first|refine a3I rfl rfl rfl ?_|refine a1Y rfl rfl (by decide) ?_)|refine wK ?_|refine wL ?_ ?_|fail)
 refine a0H [(0,_),(3,_)] c0O [8] [⟨[0,1,2,3,4,5,6,7],[],some 8⟩,⟨[],[],none⟩] mixed cv (by kernel_rfl) (by kernel_rfl) ?_
 repeat' (first|intro _|refine sg ?_|(refine a1E ?_;refine po (by first|refine a0F (b:=db) (i:=1) rfl rfl fz|refine a0F (b:=b3) (i:=2) rfl rfl fz|refine a0F (b:=b3) (i:=3) rfl rfl fz|fail) ?_)|refine pw ?_|refine pdd ?_|(refine k_fn 19 ?_;refine a0G (b:=fb) (fun _=>b9P _ fb ad c f h (some n) t hk (fun k e=>by cases e;exact hn)) rfl (fun h1 hk1=>?_))|refine ow ?_|fail)
 all_goals dsimp only [cA,nA]
 repeat' (first|intro _|refine wK ?_|refine wL ?_ ?_|fail)
 refine b2Q (l:=⟨fb,ad,c,h1,mb,sb,ka,kc,x,A⟩) (R:=[.any (stars H)]) ⟨hk1,hkey⟩ ent ?_
 refine a0E () rfl rfl rfl trivial ?_
 exact ent
theorem do_fuse_I (H:List Hl) (db:Nat) (key:List (BitVec 8)) (f:Fl) (s:StD) (ad2:Option Addr) (m2 c2:Nat) (n:Nat) (t:Int) (hn:n≤1000000) :
  Spec Tryz.prog 25 [.pointer (some ⟨db,0,none⟩),evV 2 ad2 m2 c2 n t] (.any (dvI key f s db)::H) (fun _:Unit=>True) (fun _=>I 0) (fun _ => .any (dvI key (fuseF f (some n) t) s db)::H):=by
 refine Spec.som (by kernel_rfl) (fun ⟨fb,ad,c,h,mb,sb,ka,kc,x,A⟩ hl0=>?_)
 obtain ⟨hk,hkey,hx,hnf⟩:=hl0
 dsimp only at hk hkey hx hnf
 show Spec _ _ _ ([dvB db fb ka key.length kc (pM mb),meB mb x none,fB fb ad c f h,fR ad c f,.any A]++H) _ _ _
 refine sF (res:=fun _:Unit=>[.any (dvI key (fuseF f (some n) t) s db)]) [dvB db fb ka key.length kc (pM mb),meB mb x none,fB fb ad c f h,fR ad c f,.any A] H Tryz.func25 Tryz.ntmps25 fun W=>?_
 dsimp only [cA,nA]
 repeat' (first|intro _|refine a0S rfl rfl ?_|(refine k_box ?_;refine a1V rfl rfl (fun b3=>?_))|(refine a0K ?_;refine a0F (b:=b3) (i:=0) rfl rfl ?_)|(refine a0D .eql ?_;first|refine a3I rfl rfl rfl ?_|refine a1Y rfl rfl (by decide) ?_)|refine wK ?_|refine wL ?_ ?_|fail)
 refine a0H [(0,_),(3,_)] c0O [8] [⟨[0,1,2,3,4,5,6,7],[],some 8⟩,⟨[],[],none⟩] mixed cv (by kernel_rfl) (by kernel_rfl) ?_
 repeat' (first|intro _|refine sg ?_|(refine a1E ?_;refine po (by first|refine a0F (b:=db) (i:=1) rfl rfl fz|refine a0F (b:=b3) (i:=2) rfl rfl fz|refine a0F (b:=b3) (i:=3) rfl rfl fz|fail) ?_)|refine pw ?_|refine pdd ?_|(refine k_fn 19 ?_;refine a0G (b:=fb) (fun _=>b9P _ fb ad c f h (some n) t hk (fun k e=>by cases e;exact hn)) rfl (fun h1 hk1=>?_))|refine ow ?_|fail)
 all_goals dsimp only [cA,nA]
 repeat' (first|intro _|refine wK ?_|refine wL ?_ ?_|fail)
 refine b1S (l:=⟨fb,ad,c,h1,mb,sb,ka,kc,x,A⟩) (R:=[.any (stars H)]) ⟨hk1,hkey,hx,hnf⟩ ent ?_
 refine a0E () rfl rfl rfl trivial ?_
 exact ent
theorem do_fuse_L (H:List Hl) (db:Nat) (key:List (BitVec 8)) (f:Fl) (s:StD) (st:Sto) (ad2:Option Addr) (m2 c2:Nat) (n:Nat) (t:Int) (hn:n≤1000000) :
  Spec Tryz.prog 25 [.pointer (some ⟨db,0,none⟩),evV 2 ad2 m2 c2 n t] (.any (dvL key f s st db)::H) (fun _:Unit=>True) (fun _=>I 0) (fun _ => .any (dvL key (fuseF f (some n) t) s st db)::H):=by
 refine Spec.som (by kernel_rfl) (fun ⟨fb,ad,c,h,mb,sb,ka,kc,x,A⟩ hl0=>?_)
 obtain ⟨hk,hkey,hx,hnf⟩:=hl0
 dsimp only at hk hkey hx hnf
 show Spec _ _ _ ([dvB db fb ka key.length kc (pM mb),meB mb x (some ⟨sb,0,none⟩),.any (stP st fb sb),fB fb ad c f h,fR ad c f,.any A]++H) _ _ _
 refine sF (res:=fun _:Unit=>[.any (dvL key (fuseF f (some n) t) s st db)]) [dvB db fb ka key.length kc (pM mb),meB mb x (some ⟨sb,0,none⟩),.any (stP st fb sb),fB fb ad c f h,fR ad c f,.any A] H Tryz.func25 Tryz.ntmps25 fun W=>?_
 dsimp only [cA,nA]
 repeat' (first|intro _|refine a0S rfl rfl ?_|(refine k_box ?_;refine a1V rfl rfl (fun b3=>?_))|(refine a0K ?_;refine a0F (b:=b3) (i:=0) rfl rfl ?_)|(refine a0D .eql ?_;first|refine a3I rfl rfl rfl ?_|refine a1Y rfl rfl (by decide) ?_)|refine wK ?_|refine wL ?_ ?_|fail)
 refine a0H [(0,_),(3,_)] c0O [8] [⟨[0,1,2,3,4,5,6,7],[],some 8⟩,⟨[],[],none⟩] mixed cv (by kernel_rfl) (by kernel_rfl) ?_
 repeat' (first|intro _|refine sg ?_|(refine a1E ?_;refine po (by first|refine a0F (b:=db) (i:=1) rfl rfl fz|refine a0F (b:=b3) (i:=2) rfl rfl fz|refine a0F (b:=b3) (i:=3) rfl rfl fz|fail) ?_)|refine pw ?_|refine pdd ?_|(refine k_fn 19 ?_;refine a0G (b:=fb) (fun _=>b9P _ fb ad c f h (some n) t hk (fun k e=>by cases e;exact hn)) rfl (fun h1 hk1=>?_))|refine ow ?_|fail)
 all_goals dsimp only [cA,nA]
 repeat' (first|intro _|refine wK ?_|refine wL ?_ ?_|fail)
 refine b0C (l:=⟨fb,ad,c,h1,mb,sb,ka,kc,x,A⟩) (R:=[.any (stars H)]) ⟨hk1,hkey,hx,hnf⟩ ent ?_
 refine a0E () rfl rfl rfl trivial ?_
 exact ent
theorem LiveG.keep {l l':List (BitVec 8)} {g:BitVec 32} {z:Nat} {rdy:Int} {nxt:Nat} (h:LiveG l g z rdy nxt) (h1:1≤z) (h2:z≤16) (e:seg l' 1536 2048=seg l 1536 2048):LiveG l' g z rdy nxt:=by
 obtain ⟨w1,w2,w3⟩:=plW_b h1 h2
 have hle:=h.le
 have hmod:=Nat.mod_lt nxt (show 0<plW z by omega)
 have hdm:=Nat.div_add_mod nxt (plW z)
 have hin:nxt % plW z≠0→nxt / plW z<8:=fun q=>(Nat.div_lt_iff_lt_mul (by omega)).2 (by
  rcases Nat.lt_or_ge nxt (8*plW z) with q2|q2
  ·exact q2
  ·have:nxt=8*plW z:=by omega
   rw [this,Nat.mul_mod_left] at q
   exact absurd rfl q)
 refine ⟨hle,⟨h.lv.fresh,fun q=>?_⟩,fun q=>?_,fun q j j1 j2=>?_⟩
 ·obtain ⟨m1,m2⟩:=h.lv.mid q
  obtain ⟨s,hs⟩:∃ s,nxt / plW z=s:=⟨_,rfl⟩
  have h8:=hin q
  rw [hs] at m1 m2 h8 ⊢
  exact ⟨m1,by rw [a8D e (by omega) (by omega)];exact m2⟩
 ·have:=h.on q
  obtain ⟨s,hs⟩:∃ s,nxt / plW z=s:=⟨_,rfl⟩
  have h8:=hin q
  rw [hs] at this h8 ⊢
  unfold secOn recAt at this ⊢
  rw [b0R (by omega)] at this ⊢
  rw [a8D e (by omega) (by omega)]
  exact this
 ·have hb:=h.bl q j j1 j2
  obtain ⟨s,hs⟩:∃ s,nxt / plW z=s:=⟨_,rfl⟩
  have h8:=hin q
  have hji:=b4T h1 h2 j2
  rw [hs] at hb h8 ⊢
  rw [b0Q j2] at hb ⊢
  exact hb.keep (a8D e (by omega) (by omega))
theorem startF_same (f:Fl):(startF f).pw.isDown=false∧(startF f).bs=f.bs∧(startF f).er=f.er∧(startF f).wear=f.wear:=by
 obtain ⟨bs,er,wear,pwr,torn⟩:=f
 cases pwr with
 | down q=>cases q <;> exact ⟨rfl,rfl,rfl,rfl⟩
 | _=>exact ⟨rfl,rfl,rfl,rfl⟩
theorem b4L {f:Fl} (m:Nat) (t:Int):(f.pw.isDown=false→(fuseF f (some m) t).pw.isDown=false)∧(fuseF f (some m) t).bs=f.bs∧(fuseF f (some m) t).er=f.er∧(fuseF f (some m) t).wear=f.wear:=by
 obtain ⟨bs,er,wear,pwr,torn⟩:=f
 cases pwr with
 | down q=>exact ⟨(fun h=>by cases h),rfl,rfl,rfl⟩
 | _=>exact ⟨fun _=>rfl,rfl,rfl,rfl⟩
theorem errOf_11 (x:StD) (m:ManD):errOf x m≠11:=by
 unfold errOf
 repeat' split
 all_goals decide
theorem b2T {f:Fl} (h:f.pw = .on) (a:Nat) (x:List (BitVec 8)):(progF f a x).1.pw = .on:=by unfold progF;rw [h]
theorem eraseF_on {f:Fl} (h:f.pw = .on) (s:Nat):(eraseF f s).1.pw = .on:=by
 unfold eraseF
 rw [h]
 dsimp only
 split
 ·exact h
 ·rfl
theorem clr1_on {f:Fl} (h:f.pw = .on) (s:Nat):(clr1 f s).1.pw = .on:=by
 unfold clr1
 split
 ·exact h
 ·exact eraseF_on h s
theorem slotW_on {f:Fl} (h:f.pw = .on) (s:Nat) (x:List (BitVec 8)):(slotW f s x).1.pw = .on:=by
 unfold slotW
 rw [h]
 dsimp only
 have h1:=clr1_on h (2+s*2)
 have h2:=clr1_on h1 (2+s*2+1)
 split
 ·exact h1
 split
 ·exact h2
 split
 ·exact b2T h2 _ _
 ·exact b2T h2 _ _
theorem cellW_on {f:Fl} (h:f.pw = .on) (q:List (BitVec 8)):(cellW f q).1.pw = .on:=by
 unfold cellW
 split
 ·exact h
 rw [h]
 dsimp only
 have h1:∀ s,(eraseF f s).1.pw = .on:=fun s=>eraseF_on h s
 repeat' split
 all_goals first
  | exact h
  | exact h1 _
  | exact b2T (h1 _) _ _
  | exact b2T (b2T (h1 _) _ _) _ _
theorem c1G {f f2:Fl} {s:StD} {x:List (BitVec 8)} (h:f.pw = .on) (e:(finF f s x).1=f2):f2.pw = .on:=by
 rw [←e]
 unfold finF
 split
 ·exact slotW_on h _ _
 ·exact cellW_on (slotW_on h _ _) _
def DevAny (hd:Bool→HdD) (n db:Nat) (D:Hp→Prop):Prop :=
 (∃ f s,D=dvO keyT f db∧EnvF hd f n s)∨(∃ f s,D=dvI keyT f s db∧f.pw.isDown=false∧s.on=false∧EnvF hd f n s) ∨
 (∃ f s c st,D=dvL keyT f s st db∧f.pw.isDown=false∧EnvF hd f n s∧LiveS hd c f s st∧cntS st.d.M≠(hd c).p.n)
theorem DevAny.mono {hd:Bool→HdD} {n m db:Nat} {D:Hp→Prop} (h:DevAny hd n db D) (hm:n≤m):DevAny hd m db D:=by
 rcases h with ⟨f,s,e,E⟩|⟨f,s,e,u,o,E⟩|⟨f,s,c,st,e,u,E,L⟩
 ·exact .inl ⟨f,s,e,E.mono hm⟩
 ·exact .inr (.inl ⟨f,s,e,u,o,E.mono hm⟩)
 ·exact .inr (.inr ⟨f,s,c,st,e,u,E.mono hm,L⟩)
section
variable {hd:Bool→HdD} {n db:Nat} {D:Hp→Prop}
theorem b6P {f f1:Fl} {s:StD} (Hh:Hds hd) (h:EnvF hd f n s) (hn:n<3900) {c:Bool} (hs:seg f1.bs 512 3072=seg f.bs 512 3072) (hE:EnvF hd f1 (n+1) (hearS s (hd c).p (hd c).v (hd c).im)) :
  recsW f1.bs (s.g+1#32) (hd c).p.z 8=[]∧LiveS hd c f1 (hearS s (hd c).p (hd c).v (hd c).im) (openS (hd c).p (s.g+1#32) (hd c).im.length (rowA (hd c).p) f1.bs)∧cntS (openS (hd c).p (s.g+1#32) (hd c).im.length (rowA (hd c).p) f1.bs).d.M≠(hd c).p.n:=by
 obtain ⟨z1,z2⟩:=Hh.z c
 obtain ⟨p1,p2,p3,p4,p5⟩:=(Hh.ok c).ok.out
 have hgb:=h.gb
 have hgs:(s.g+1#32).toNat=s.g.toNat+1:=by
  rw [BitVec.toNat_add]
  have:(1#32).toNat=1:=rfl
  omega
 have hwh:WhOk f1.bs s.g.toNat:=h.st.wh.keep (a8D hs (by omega) (by omega))
 obtain ⟨w1,w2,w3⟩:=wh_new (g':=s.g+1#32) (z:=(hd c).p.z) hE.few.bs hwh (by omega) (by omega) z1 z2
 have e:openS (hd c).p (s.g+1#32) (hd c).im.length (rowA (hd c).p) f1.bs=⟨(hd c).p,s.g+1#32,(hd c).im.length, -1,0,newD (hd c).p⟩:=by
  unfold openS
  rw [w1,w2,w3]
  rfl
 refine ⟨w1,?_⟩
 rw [e]
 have hcn:cntS (newD (hd c).p).M=(hd c).p.p:=by
  have:=c0V (hd c).p (hd c).im (hd c).p.p (Nat.le_refl _)
  have e2:(newD (hd c).p).M=foldA (hd c).p.n (datP (hd c).p (hd c).im) ((List.range (hd c).p.p).map (rowR (hd c).p.s ((hd c).p.k+(hd c).p.p) (hd c).p.k)):=by
   rw [←b9S (hd c).p (hd c).im]
   show foldA _ _ (rowsU (hd c).p [])=_
   rw [rowsU,List.map_nil,List.append_nil]
   rfl
  rw [e2];exact this
 refine ⟨⟨rfl,rfl,rfl,rfl,rfl,good_new _ _,Nat.zero_le _,⟨Nat.zero_le _,b9J _ _ _,fun q=>absurd (Nat.zero_mod _) q,fun q=>absurd (Nat.zero_mod _) q⟩⟩,?_⟩
 show cntS (newD (hd c).p).M≠(hd c).p.k+(hd c).p.p
 omega
theorem any_first (Hh:Hds hd) (h:DevAny hd n db D) (hn:n<3900) (c:Bool) :
  ∃ D' v,DevAny hd (n+6) db D'∧∀ (H:List Hl) (ad:Option Addr) (cc:Nat),TabF (stars H)→Rs (stars H) B ad cc (frameB 1#8 (fstP (hd c).p (hd c).v (hd c).im)) →
   Spec Tryz.prog 12 [.pointer (some ⟨db,0,none⟩),.slice ad 85 cc] (.any D::H) (fun _:Unit=>True) (fun _=>I v) (fun _ => .any D'::H):=by
 have hk:=Hh.ok c
 have hl85:=a7A (v:=(hd c).v) hk
 rcases h with ⟨f,s,rfl,E⟩|⟨f,s,rfl,u,o,E⟩|⟨f,s,c',st,rfl,u,E,L,hnf⟩
 ·exact ⟨_,11,.inl ⟨f,s,rfl,E.mono (by omega)⟩,fun H ad cc ht hb=>pk_off H db keyT f ad 85 cc⟩
 ·by_cases he:errOf s (mH (hd c))=0
  ·have hS:=b7A Hh E.st he E.few.bs (by have:=E.gb;omega)
   have hgs:(s.g+1#32).toNat≤s.g.toNat+1:=by
    rw [BitVec.toNat_add]
    have:(1#32).toNat=1:=rfl
    omega
   obtain ⟨f1,v,q1,q2,q3⟩:=a9S Hh E (by omega) u hS (by have:=E.gb;show (s.g+1#32).toNat≤_;omega)
   rcases q3 with ⟨rfl,u1,E1⟩|⟨rfl,u1,s',E1⟩
   ·obtain ⟨l1,l2,l3⟩:=b6P Hh E hn q2 E1
    refine ⟨_,0,.inr (.inr ⟨f1,_,c,_,rfl,u1,E1.mono (by omega),l2,l3⟩),fun H ad cc ht hb=>?_⟩
    exact b4E H db keyT f s ad 85 cc (fstP (hd c).p (hd c).v (hd c).im) hb (by rw [hl85]) (by rw [hl85];decide) (by rw [hl85];decide) hk.kl (mH (hd c)) (hd c).p (hd c).im.length (rowA (hd c).p) f1 (a9Y hk) E.st.may (hk.may _ _) he u (b3B hk) ht q1 u1 (fun r hr=>by rw [l1] at hr;cases hr)
   ·refine ⟨_,11,.inl ⟨f1,s',rfl,E1.mono (by omega)⟩,fun H ad cc ht hb=>?_⟩
    exact pk_hears_cut_I H db keyT f s ad 85 cc (fstP (hd c).p (hd c).v (hd c).im) hb (by rw [hl85]) (by rw [hl85];decide) (by rw [hl85];decide) hk.kl (mH (hd c)) f1 (a9Y hk) E.st.may (hk.may _ _) he u q1
  ·exact ⟨_,_,.inr (.inl ⟨f,s,rfl,u,o,E.mono (by omega)⟩),fun H ad cc ht hb=>pk_hears_no_I H db keyT f s ad 85 cc (fstP (hd c).p (hd c).v (hd c).im) hb (by rw [hl85]) (by rw [hl85];decide) (by rw [hl85];decide) hk.kl (mH (hd c)) _ (a9Y hk) rfl he (errOf_11 _ _)⟩
 ·by_cases he:errOf s (mH (hd c))=0
  ·have hS:=b7A Hh E.st he E.few.bs (by have:=E.gb;omega)
   have hgs:(s.g+1#32).toNat≤s.g.toNat+1:=by
    rw [BitVec.toNat_add]
    have:(1#32).toNat=1:=rfl
    omega
   obtain ⟨f1,v,q1,q2,q3⟩:=a9S Hh E (by omega) u hS (by have:=E.gb;show (s.g+1#32).toNat≤_;omega)
   rcases q3 with ⟨rfl,u1,E1⟩|⟨rfl,u1,s',E1⟩
   ·obtain ⟨l1,l2,l3⟩:=b6P Hh E hn q2 E1
    refine ⟨_,0,.inr (.inr ⟨f1,_,c,_,rfl,u1,E1.mono (by omega),l2,l3⟩),fun H ad cc ht hb=>?_⟩
    exact pk_hears_L H db keyT f s st ad 85 cc (fstP (hd c).p (hd c).v (hd c).im) hb (by rw [hl85]) (by rw [hl85];decide) (by rw [hl85];decide) hk.kl (mH (hd c)) (hd c).p (hd c).im.length (rowA (hd c).p) f1 (a9Y hk) E.st.may (hk.may _ _) he u (b3B hk) ht q1 u1 (fun r hr=>by rw [l1] at hr;cases hr)
   ·refine ⟨_,11,.inl ⟨f1,s',rfl,E1.mono (by omega)⟩,fun H ad cc ht hb=>?_⟩
    exact pk_hears_cut_L H db keyT f s st ad 85 cc (fstP (hd c).p (hd c).v (hd c).im) hb (by rw [hl85]) (by rw [hl85];decide) (by rw [hl85];decide) hk.kl (mH (hd c)) f1 (a9Y hk) E.st.may (hk.may _ _) he u q1
  ·exact ⟨_,_,.inr (.inr ⟨f,s,c',st,rfl,u,E.mono (by omega),L,hnf⟩),fun H ad cc ht hb=>a9H H db keyT f s st ad 85 cc (fstP (hd c).p (hd c).v (hd c).im) hb (by rw [hl85]) (by rw [hl85];decide) (by rw [hl85];decide) hk.kl (mH (hd c)) _ (a9Y hk) rfl he (errOf_11 _ _)⟩
abbrev symA (h:HdD) (id:BitVec 32):List (BitVec 8):=symB h.p.s id (datP h.p h.im (rowA h.p id))
theorem a1G (h:HdD) (id:BitVec 32):(symA h id).length=8+h.p.z:=by rw [symA,←b4U,a1K]
theorem any_sym (Hh:Hds hd) (h:DevAny hd n db D) (hn:n<3800) (c:Bool) (id:BitVec 32) :
  ∃ D' v,DevAny hd (n+6) db D'∧∀ (H:List Hl) (ad:Option Addr) (cc:Nat),TabF (stars H)→Rs (stars H) B ad cc (frameB 2#8 (symA (hd c) id)) →
   Spec Tryz.prog 12 [.pointer (some ⟨db,0,none⟩),.slice ad (8+(hd c).p.z+9) cc] (.any D::H) (fun _:Unit=>True) (fun _=>I v) (fun _ => .any D'::H):=by
 have hk:=Hh.ok c
 obtain ⟨z1,z2⟩:=Hh.z c
 have hdl:(datP (hd c).p (hd c).im (rowA (hd c).p id)).length=(hd c).p.z:=a1K _ _ _
 rcases h with ⟨f,s,rfl,E⟩|⟨f,s,rfl,u,o,E⟩|⟨f,s,c',st,rfl,u,E,L,hnf⟩
 ·exact ⟨_,11,.inl ⟨f,s,rfl,E.mono (by omega)⟩,fun H ad cc ht hb=>pk_off H db keyT f ad _ cc⟩
 ·exact ⟨_,14,.inr (.inl ⟨f,s,rfl,u,o,E.mono (by omega)⟩),fun H ad cc ht hb=>pk_takes_off H db keyT f s ad (8+(hd c).p.z+9) cc (symA (hd c) id) hb (by rw [a1G]) (by rw [a1G];omega) (by rw [a1G];omega) hk.kl (hd c).p.s id (datP (hd c).p (hd c).im (rowA (hd c).p id)) rfl (by rw [hdl];exact z1) (by rw [hdl];exact z2) o⟩
 ·have hisp':IsP s.m (hd c').p (hd c').im.length:=by rw [L.m];exact b3B (Hh.ok c')
  by_cases hcc:c=c'
  ·subst hcc
   have hisp:IsP s.m st.p (hd c).im.length:=by rw [L.p];exact hisp'
   have hzz:(datP (hd c).p (hd c).im (rowA (hd c).p id)).length=st.p.z:=by rw [L.p];exact hdl
   have hcnt:=L.cnt
   have htc:=L.tc
   obtain ⟨p1,p2,p3,p4,p5⟩:=hk.ok.out
   have hpn:(hd c).p.n=(hd c).p.k+(hd c).p.p:=rfl
   have hspr:SpRow st.p id (rowA (hd c).p id):=by rw [L.p];exact b5Z _ _ hk.ok
   have hnx:st.nxt≤8*plW st.p.z:=by rw [L.p];exact L.lg.le
   have hss:(hd c).p.s=st.p.s:=by rw [L.p]
   rcases ev_put Hh E L (by omega) u id with ⟨hput, -⟩|hput|⟨f1,hput,hdn,E1, -⟩|⟨f1,st1,hput,u1, -,E1,L1, -⟩
   ·exact ⟨_,8,.inr (.inr ⟨f,s,c,st,rfl,u,E.mono (by omega),L,hnf⟩),fun H ad cc ht hb=>a9G H db keyT f s st ad (8+(hd c).p.z+9) cc (symA (hd c) id) hb (by rw [a1G]) (by rw [a1G];omega) (by rw [a1G];omega) hk.kl (hd c).p.s id (datP (hd c).p (hd c).im (rowA (hd c).p id)) rfl (by rw [hdl];exact z1) (by rw [hdl];exact z2) (hd c).im.length (rowA (hd c).p id) L.on hisp hss hzz L.rr (by omega) hspr u hnx ht f 8 hput (by decide) (by decide)⟩
   ·exact ⟨_,9,.inr (.inr ⟨f,s,c,st,rfl,u,E.mono (by omega),L,hnf⟩),fun H ad cc ht hb=>a9G H db keyT f s st ad (8+(hd c).p.z+9) cc (symA (hd c) id) hb (by rw [a1G]) (by rw [a1G];omega) (by rw [a1G];omega) hk.kl (hd c).p.s id (datP (hd c).p (hd c).im (rowA (hd c).p id)) rfl (by rw [hdl];exact z1) (by rw [hdl];exact z2) (hd c).im.length (rowA (hd c).p id) L.on hisp hss hzz L.rr (by omega) hspr u hnx ht f 9 hput (by decide) (by decide)⟩
   ·exact ⟨_,11,.inl ⟨f1,s,rfl,E1.mono (by omega)⟩,fun H ad cc ht hb=>pk_takes_cut H db keyT f s st ad (8+(hd c).p.z+9) cc (symA (hd c) id) hb (by rw [a1G]) (by rw [a1G];omega) (by rw [a1G];omega) hk.kl (hd c).p.s id (datP (hd c).p (hd c).im (rowA (hd c).p id)) rfl (by rw [hdl];exact z1) (by rw [hdl];exact z2) (hd c).im.length (rowA (hd c).p id) L.on hisp hss hzz L.rr (by omega) hspr u hnx ht f1 hput⟩
   ·have hcnt1:=L1.cnt
    have hp1:st1.p.ok:=by rw [L1.p];exact hk.ok
    by_cases hfull:cntS st1.d.M=(hd c).p.n
    ·obtain ⟨f2,v2,g1,g2⟩:=c2M Hh E1 (by omega) u1 L.on L.m
     have hd1:cntS st1.d.M=st1.p.n:=by rw [L1.p];exact hfull
     have hR1:=L1.rr
     have hct:count st1.len st1.p.z=st1.p.k:=by rw [L1.p,L1.len];exact hk.ct
     have him:imgB st1.p st1.d st1.len=(hd c).im:=by rw [L1.p,L1.len];exact b6S L1.gd hfull hk.ct p1
     have hsh:sha (hd c).im=s.m.h.l:=by rw [L.m];rfl
     obtain ⟨t0,_⟩:=E.st.of Hh L.on L.m
     rcases g2 with ⟨rfl,u2,E2⟩|⟨rfl,u2,s',E2⟩
     ·exact ⟨_,0,.inr (.inl ⟨f2,_,rfl,u2,rfl,E2.mono (by omega)⟩),fun H ad cc ht hb=>b0D H db keyT f s st ad (8+(hd c).p.z+9) cc (symA (hd c) id) hb (by rw [a1G]) (by rw [a1G];omega) (by rw [a1G];omega) hk.kl (hd c).p.s id (datP (hd c).p (hd c).im (rowA (hd c).p id)) rfl (by rw [hdl];exact z1) (by rw [hdl];exact z2) (hd c).im.length (rowA (hd c).p id) L.on hisp hss hzz L.rr (by omega) hspr u hnx ht f1 st1 hput hp1 (by omega) hd1 (hd c).im hR1 hct him (Hh.i1 c) hk.le hsh u1 E.st.may t0 f2 g1⟩
     ·exact ⟨_,11,.inl ⟨f2,s',rfl,E2.mono (by omega)⟩,fun H ad cc ht hb=>pk_takes_fin_no H db keyT f s st ad (8+(hd c).p.z+9) cc (symA (hd c) id) hb (by rw [a1G]) (by rw [a1G];omega) (by rw [a1G];omega) hk.kl (hd c).p.s id (datP (hd c).p (hd c).im (rowA (hd c).p id)) rfl (by rw [hdl];exact z1) (by rw [hdl];exact z2) (hd c).im.length (rowA (hd c).p id) L.on hisp hss hzz L.rr (by omega) hspr u hnx ht f1 st1 hput hp1 (by omega) hd1 (hd c).im hR1 hct him (Hh.i1 c) hk.le hsh u1 E.st.may t0 f2 g1⟩
    ·exact ⟨_,0,.inr (.inr ⟨f1,s,c,st1,rfl,u1,E1.mono (by omega),L1,hfull⟩),fun H ad cc ht hb=>b8P H db keyT f s st ad (8+(hd c).p.z+9) cc (symA (hd c) id) hb (by rw [a1G]) (by rw [a1G];omega) (by rw [a1G];omega) hk.kl (hd c).p.s id (datP (hd c).p (hd c).im (rowA (hd c).p id)) rfl (by rw [hdl];exact z1) (by rw [hdl];exact z2) (hd c).im.length (rowA (hd c).p id) L.on hisp hss hzz L.rr (by omega) hspr u hnx ht f1 st1 hput hp1 (by omega) (by rw [L1.p];omega)⟩
  ·exact ⟨_,7,.inr (.inr ⟨f,s,c',st,rfl,u,E.mono (by omega),L,hnf⟩),fun H ad cc ht hb=>pk_takes_fit H db keyT f s st ad (8+(hd c).p.z+9) cc (symA (hd c) id) hb (by rw [a1G]) (by rw [a1G];omega) (by rw [a1G];omega) hk.kl (hd c).p.s id (datP (hd c).p (hd c).im (rowA (hd c).p id)) rfl (by rw [hdl];exact z1) (by rw [hdl];exact z2) (hd c').p (hd c').im.length 7 L.on hisp' (fits_7 (Hh.ok c').ok (Hh.sd c c' hcc)) (by decide) (by decide)⟩
theorem any_power (Hh:Hds hd) {f:Fl} {s:StD} (E:EnvF hd f n s) (hn:n<3800) :
  ∃ D' v,DevAny hd (n+6) db D'∧((startF f).pw = .on→v=0∧∃ f' s',(D'=dvI keyT f' s' db∧s'.on=false∨∃ c st,D'=dvL keyT f' s' st db∧LiveS hd c f' s' st∧cntS st.d.M≠(hd c).p.n)∧f'.pw = .on∧EnvF hd f' (n+6) s')∧∀ (H:List Hl),TabF (stars H) →
   Spec Tryz.prog 20 [.pointer (some ⟨db,0,none⟩)] (.any (dvP keyT f db)::H) (fun _:Unit=>True) (fun _=>I v) (fun _ => .any D'::H):=by
 obtain ⟨u,s2,s3,s4⟩:=startF_same f
 have hE:=E.same s2 s3 s4
 obtain ⟨k,w,hf⟩:=hE.found
 obtain ⟨F,hF⟩:∃ F,startF f=F:=⟨_,rfl⟩
 rw [hF] at u hE hf ⊢
 cases ho:s.on with
 | false =>
  refine ⟨_,0,.inr (.inl ⟨F,s,rfl,u,ho,hE.mono (by omega)⟩),fun hon=>⟨rfl,F,s,.inl ⟨rfl,ho⟩,hon,hE.mono (by omega)⟩,fun H ht=>?_⟩
  exact b3J H db keyT f (dvI keyT F s db) (dvI keyT F s db) 0 (by rw [hF];exact dv_starts_I _ db keyT F s k w hf hE.st.may hE.st.nf ho u) (dv_met_I _ db keyT F s 0 (by decide))
 | true =>
  obtain ⟨c,st,e1,L,hV⟩:=ev_open Hh hE ho
  have hk:=Hh.ok c
  obtain ⟨p1,p2,p3,p4,p5⟩:=hk.ok.out
  have hpn:(hd c).p.n=(hd c).p.k+(hd c).p.p:=rfl
  have hcnt:=L.cnt
  have hisp:IsP s.m (hd c).p (hd c).im.length:=by rw [L.m];exact b3B hk
  obtain ⟨t0,_⟩:=hE.st.of Hh ho L.m
  by_cases hfull:cntS st.d.M=(hd c).p.n
  ·obtain ⟨f2,v2,g1,g2⟩:=c2M Hh hE (by omega) u ho L.m
   have hsh:sha (hd c).im=s.m.h.l:=by rw [L.m];rfl
   have him:=b6S L.gd hfull hk.ct p1
   rcases g2 with ⟨rfl,u2,E2⟩|⟨rfl,u2,s',E2⟩
   ·refine ⟨_,0,.inr (.inl ⟨f2,nf (actS s),rfl,u2,rfl,E2.mono (by omega)⟩),fun hon=>⟨rfl,f2,nf (actS s),.inl ⟨rfl,rfl⟩,?_,E2.mono (by omega)⟩,fun H ht=>?_⟩
    ·exact c1G hon (by rw [g1])
    ·exact b3J H db keyT f (dvI keyT f2 (nf (actS s)) db) (dvI keyT f2 (nf (actS s)) db) 0 (by rw [hF];exact dv_starts_fin _ db keyT F f2 s k w hf hE.st.may hE.st.nf ho t0 u (hd c).p (hd c).im.length (rowA (hd c).p) hisp ht.up hV st e1 (by omega) hfull (hd c).im L.gd.rr him (Hh.i1 c) hk.le hsh g1) (dv_met_I _ db keyT f2 _ 0 (by decide))
   ·refine ⟨_,11,.inl ⟨f2,s',rfl,E2.mono (by omega)⟩,fun hon=>?_,fun H ht=>?_⟩
    ·have:=c1G (f2:=f2) (s:=s) (x:=(hd c).im) hon (by rw [g1])
     rw [this] at u2;cases u2
    ·exact b3J H db keyT f (dvP keyT f2 db) (dvO keyT f2 db) 11 (by rw [hF];exact dv_starts_cut _ db keyT F f2 s k w hf hE.st.may hE.st.nf ho t0 u (hd c).p (hd c).im.length (rowA (hd c).p) hisp ht.up hV st e1 (by omega) hfull (hd c).im L.gd.rr him (Hh.i1 c) hk.le hsh g1) (dv_met_P _ db keyT f2)
  ·refine ⟨_,0,.inr (.inr ⟨F,s,c,st,rfl,u,hE.mono (by omega),L,hfull⟩),fun hon=>⟨rfl,F,s,.inr ⟨c,st,rfl,L,hfull⟩,hon,hE.mono (by omega)⟩,fun H ht=>?_⟩
   exact b3J H db keyT f (dvL keyT F s st db) (dvL keyT F s st db) 0 (by rw [hF];exact dv_starts_L _ db keyT F s k w hf hE.st.may hE.st.nf ho u (hd c).p (hd c).im.length (rowA (hd c).p) hisp ht.up hV st e1 (by omega) (by omega)) (dv_met_L _ db keyT F s st 0 (by decide))
theorem DevAny.fl (h:DevAny hd n db D):∃ f s,EnvF hd f n s∧∀ R x,stars (.any D::R) x→stars (.any (dvP keyT f db)::R) x:=by
 rcases h with ⟨f,s,rfl,E⟩|⟨f,s,rfl,u,o,E⟩|⟨f,s,c,st,rfl,u,E,L,hnf⟩
 ·exact ⟨f,s,E,fun R x hx=>dvO_P x hx⟩
 ·exact ⟨f,s,E,fun R x hx=>dvI_P x hx⟩
 ·exact ⟨f,s,E,fun R x hx=>dvL_P x hx⟩
theorem any_boot (Hh:Hds hd) (h:DevAny hd n db D) (hn:n<3800) :
  ∃ D' v,DevAny hd (n+6) db D'∧∀ (H:List Hl),Spec Tryz.prog 22 [.pointer (some ⟨db,0,none⟩)] (.any D::H) (fun _:Unit=>True) (fun _=>I v) (fun _ => .any D'::H):=by
 rcases h with ⟨f,s,rfl,E⟩|⟨f,s,rfl,u,o,E⟩|⟨f,s,c',st,rfl,u,E,L,hnf⟩
 ·exact ⟨_,11,.inl ⟨f,s,rfl,E.mono (by omega)⟩,fun H=>a8Q H db _ _ 11 (turns_O _ db keyT f _)⟩
 ·by_cases ht:s.t=0
  ·exact ⟨_,0,.inr (.inl ⟨f,s,rfl,u,o,E.mono (by omega)⟩),fun H=>a8Q H db _ _ 0 (b2C _ db keyT f s _ startS (fun x H' hs hx=>b0Y hs hx E.st.may false (by rw [decide_eq_true ht];rfl)))⟩
  ·obtain ⟨f1,v,q1,q2,q3⟩:=a9S Hh E (by omega) u (envS_start E.st ht) (by have:=E.gb;show s.g.toNat≤_;omega)
   rcases q3 with ⟨rfl,u1,E1⟩|⟨rfl,u1,s',E1⟩
   ·exact ⟨dvI keyT f1 (startS s) db,0,.inr (.inl ⟨f1,startS s,rfl,u1,o,E1.mono (by omega)⟩),fun H=>a8Q H db _ _ 0 (b9R _ db keyT f f1 s (startS s) _ startS (fun x H' hs hx=>b0Y hs hx E.st.may true (by rw [decide_eq_false ht];rfl)) (fun x hs=>by rw [b9H,hs]) (b2K E.st.may) u q1)⟩
   ·exact ⟨_,11,.inl ⟨f1,s',rfl,E1.mono (by omega)⟩,fun H=>a8Q H db _ _ 11 (turns_cut_I _ db keyT f f1 s (startS s) _ startS (fun x H' hs hx=>b0Y hs hx E.st.may true (by rw [decide_eq_false ht];rfl)) (fun x hs=>by rw [b9H,hs]) (b2K E.st.may) u q1)⟩
 ·obtain ⟨t0,_⟩:=E.st.of Hh L.on L.m
  exact ⟨_,0,.inr (.inr ⟨f,s,c',st,rfl,u,E.mono (by omega),L,hnf⟩),fun H=>a8Q H db _ _ 0 (b3W _ db keyT f s st _ startS (fun x H' hs hx=>b0Y hs hx E.st.may false (by rw [decide_eq_true t0];rfl)))⟩
theorem any_confirm (Hh:Hds hd) (h:DevAny hd n db D) (hn:n<3800) :
  ∃ D' v,DevAny hd (n+6) db D'∧∀ (H:List Hl),Spec Tryz.prog 23 [.pointer (some ⟨db,0,none⟩)] (.any D::H) (fun _:Unit=>True) (fun _=>I v) (fun _ => .any D'::H):=by
 rcases h with ⟨f,s,rfl,E⟩|⟨f,s,rfl,u,o,E⟩|⟨f,s,c',st,rfl,u,E,L,hnf⟩
 ·exact ⟨_,11,.inl ⟨f,s,rfl,E.mono (by omega)⟩,fun H=>a2K H db _ _ 11 (turns_O _ db keyT f _)⟩
 ·cases hc:confOn s with
  | false=>exact ⟨_,0,.inr (.inl ⟨f,s,rfl,u,o,E.mono (by omega)⟩),fun H=>a2K H db _ _ 0 (b2C _ db keyT f s _ confS (fun x H' hs hx=>a5A hs hx E.st.may false hc))⟩
  | true =>
   obtain ⟨f1,v,q1,q2,q3⟩:=a9S Hh E (by omega) u (b3G E.st) (by have:=E.gb;show s.g.toNat≤_;omega)
   rcases q3 with ⟨rfl,u1,E1⟩|⟨rfl,u1,s',E1⟩
   ·exact ⟨dvI keyT f1 (confS s) db,0,.inr (.inl ⟨f1,confS s,rfl,u1,o,E1.mono (by omega)⟩),fun H=>a2K H db _ _ 0 (b9R _ db keyT f f1 s (confS s) _ confS (fun x H' hs hx=>a5A hs hx E.st.may true hc) (fun x hs=>by rw [b1Y,hs]) (a9U E.st.may) u q1)⟩
   ·exact ⟨_,11,.inl ⟨f1,s',rfl,E1.mono (by omega)⟩,fun H=>a2K H db _ _ 11 (turns_cut_I _ db keyT f f1 s (confS s) _ confS (fun x H' hs hx=>a5A hs hx E.st.may true hc) (fun x hs=>by rw [b1Y,hs]) (a9U E.st.may) u q1)⟩
 ·cases hc:confOn s with
  | false=>exact ⟨_,0,.inr (.inr ⟨f,s,c',st,rfl,u,E.mono (by omega),L,hnf⟩),fun H=>a2K H db _ _ 0 (b3W _ db keyT f s st _ confS (fun x H' hs hx=>a5A hs hx E.st.may false hc))⟩
  | true =>
   obtain ⟨f1,v,q1,q2,q3⟩:=a9S Hh E (by omega) u (b3G E.st) (by have:=E.gb;show s.g.toNat≤_;omega)
   rcases q3 with ⟨rfl,u1,E1⟩|⟨rfl,u1,s',E1⟩
   ·have L1:LiveS hd c' f1 (confS s) st:=⟨L.on,L.m,L.p,L.g,L.len,L.gd,L.tc,L.lg.keep (Hh.z c').1 (Hh.z c').2 (a8D q2 (by omega) (by omega))⟩
    exact ⟨_,0,.inr (.inr ⟨f1,_,c',st,rfl,u1,E1.mono (by omega),L1,hnf⟩),fun H=>a2K H db _ _ 0 (turns_ok_L _ db keyT f f1 s (confS s) st _ confS (fun x H' hs hx=>a5A hs hx E.st.may true hc) (fun x hs=>by rw [b1Y,hs]) (a9U E.st.may) u q1)⟩
   ·exact ⟨_,11,.inl ⟨f1,s',rfl,E1.mono (by omega)⟩,fun H=>a2K H db _ _ 11 (turns_cut_L _ db keyT f f1 s (confS s) st _ confS (fun x H' hs hx=>a5A hs hx E.st.may true hc) (fun x hs=>by rw [b1Y,hs]) (a9U E.st.may) u q1)⟩
theorem any_fuse (h:DevAny hd n db D) (m:Nat) (t:Int) (hm:m≤1000000) :
  ∃ D',DevAny hd n db D'∧∀ (H:List Hl) (ad:Option Addr) (m2 c2:Nat),Spec Tryz.prog 25 [.pointer (some ⟨db,0,none⟩),evV 2 ad m2 c2 m t] (.any D::H) (fun _:Unit=>True) (fun _=>I 0) (fun _ => .any D'::H):=by
 rcases h with ⟨f,s,rfl,E⟩|⟨f,s,rfl,u,o,E⟩|⟨f,s,c',st,rfl,u,E,L,hnf⟩
 ·obtain ⟨q1,q2,q3,q4⟩:=b4L (f:=f) m t
  exact ⟨_,.inl ⟨_,s,rfl,E.same q2 q3 q4⟩,fun H ad m2 c2=>do_fuse_O H db keyT f ad m2 c2 m t hm⟩
 ·obtain ⟨q1,q2,q3,q4⟩:=b4L (f:=f) m t
  exact ⟨_,.inr (.inl ⟨_,s,rfl,q1 u,o,E.same q2 q3 q4⟩),fun H ad m2 c2=>do_fuse_I H db keyT f s ad m2 c2 m t hm⟩
 ·obtain ⟨q1,q2,q3,q4⟩:=b4L (f:=f) m t
  exact ⟨_,.inr (.inr ⟨_,s,c',st,rfl,q1 u,E.same q2 q3 q4,⟨L.on,L.m,L.p,L.g,L.len,L.gd,L.tc,by rw [q2];exact L.lg⟩,hnf⟩),fun H ad m2 c2=>do_fuse_L H db keyT f s st ad m2 c2 m t hm⟩
end
end Go.Dp
namespace Go.Dp
open Go.RowKit
section
variable {P:Program} {n:Nat} {H:List Hl} {e:Ev} {C:Value→List Hl→Prop} {ty:TypeId} {x y:Operand} {α:Type} {A:Hp→Prop} {m:Nat} {cs:α→List Value} {T E:TypeId} {z:Value} {by_:Nat} {p:Int} {kd:IntKind} {ad:Option Addr} {c l0:Nat} {xs:List α}
theorem o1_iam (i:Nat) [ht:TSl P T E] [hi:TInf P E z m by_] (hx:opd e x=some (.slice ad l0 c)) (hy:opd e y=some (.int kd p)) (hr:Rm A m cs ad c xs) (h0:l0=xs.length) (hp:p=i) (hl:i<xs.length)
  (h:C (.pointer (some (idxA ad (i*m)))) H):O1 P (.indexAddr T x y) ty n e H C:=by
 obtain ⟨a0,rfl⟩:=hr.sm (by omega)
 subst hp h0
 refine a1U _ (fun a w ho=>?_) h
 simp [execOp,ho.ev.eval hx,ho.ev.eval hy,Instr.indexAt,asIntOf,run_underlying ht.u,hl,a1L,idxA]
theorem o1_load_iam (i:Nat) (v:α) {T:TypeId} {z:Value} {by_:Nat} [TAgg P T] [TInf P T z m by_] {H':List Hl} (hx:opd e x=some (.pointer (some (idxA ad (i*m))))) (hr:Rm A m cs ad c xs) (hv:xs[i]?=some v) (hm:(cs v).length=m) [s:SAny H A H'] (h:C (.agg (cs v).toArray) H):O1 P (.load T x) ty n e H C:=by
 have hl:i<xs.length:=(List.getElem?_eq_some_iff.1 hv).1
 obtain ⟨a0,rfl⟩:=hr.sm (by omega)
 refine a1U _ (fun a w ho=>?_) h
 have hload:=run_loadCells_list (P:=P) w (idxA (some a0) (i*m)) (cs v) (fun j u hj=>by
  have hadd:(idxA (some a0) (i*m)).add j=a0.add (i*m+j):=c0A a0 (i*m) j
  rw [hadd]
  exact hr.cell w (a6B s.s w ho.sat) a0 rfl i v hv j u hj)
 rw [hm] at hload
 simp [execOp,ho.ev.eval hx,Instr.loadAt,Instr.sureAddr,loadVar,a4Q,a1L,hload]
end
end Go.Dp
