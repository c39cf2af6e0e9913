/-
  Downpour, walked and proved: part 17.
  Conditions: those that stand in each theorem.
-/
import Derived.Test.YtcblcmdikhllbaaGreatDoorQTopEnough3
import Derived.Test.YtcblcmdikhllbaaGreatDoorQTopEnough16
import Derived.Test.YtcblcmdikhllbaaGreatDoorQTopEnough5
import Derived.Test.YtcblcmdikhllbaaGreatDoorQTopEnough14
import Derived.Test.YtcblcmdikhllbaaGreatDoorQTopEnough13
import Derived.Shelf.Sort.Plain
import Derived.Test.YtcblcmdikhllbaaGreatDoorQTopEnough8
import Derived.Test.YtcblcmdikhllbaaGreatDoorQTopEnough7
set_option linter.unusedVariables false
set_option linter.unusedSimpArgs false
set_option maxHeartbeats 64000000
namespace Go.Dp
open Go.RowKit Go.Proofs Sha
def sunL:List (BitVec 8):=[115#8,117#8,110#8]
def rainL:List (BitVec 8):=[114#8,97#8,105#8,110#8]
def rainP:Prm:=prmH 9#32 4 1 2
theorem rain_ok:HdOk keyT rainP rainL (sha rainL):=by
 obtain ⟨q1,q2⟩:=c0T (s:=9#32) (n:=4) (z:=1) (p:=2) (by decide) (by decide)
 exact ⟨q1,q2,by decide,rfl,by decide⟩
def sunS:StD:=fstS 1#32 3 (none,0) (sha sunL)
theorem errOf_new {x:StD} {m:ManD} (h1:x.may=true) (h2:m.may=true) (ht:x.t=0) (h3:x.f.toNat<m.v.toNat) (h4:x.cur.v.toNat<m.v.toNat) (h5:x.on=true→x.m.v.toNat<m.v.toNat) (hg:x.g.toNat<100):errOf x m=0:=by
 unfold errOf
 rw [if_neg (by rw [h1];simp),if_neg (by rw [h2];simp),if_neg (by omega),if_neg (fun h=>by
  have h6:=h5 h.1
  have h7:=h.2
  simp only [ManD.same,Bool.and_eq_true,decide_eq_true_eq] at h7
  omega),if_neg (fun h=>by
  have:x.newer m.v=true:=by
   unfold StD.newer
   rw [h1,decide_eq_true h3,decide_eq_true h4]
   cases ho:x.on with
   | false=>rfl
   | true=>rw [decide_eq_true (h5 ho)];rfl
  rw [this] at h;cases h),if_neg (by omega)]
theorem errOf_dup {x:StD} {m:ManD} (h1:x.may=true) (h2:m.may=true) (ht:x.t=0) (ho:x.on=true) (hs:x.m.same m=true):errOf x m=8:=by
 unfold errOf
 rw [if_neg (by rw [h1];simp),if_neg (by rw [h2];simp),if_neg (by omega),if_pos ⟨ho,hs⟩]
theorem same_self (m:ManD):m.same m=true:=by simp [ManD.same]
theorem top_make:∃ f,DevF f 3 sunS sunL∧∀ (H:List Hl) (ka:Option Addr) (kc:Nat) (ad:Option Addr) (c:Nat),Rs (stars H) B ka kc keyT→Rs (stars H) B ad c sunL →
  Spec Tryz.prog 8 [.slice ka 3 kc,W4 1#32,.slice ad 3 c,I 100] H (fun _:Nat=>True) (fun db => .tuple #[.pointer (some ⟨db,0,none⟩),I 0]) (fun db => .any (dvI keyT f sunS db)::H):=by
 obtain ⟨f1,f2,h1,h2,h3,h4⟩:=dev_make (v:=1#32) (im:=sunL) (by decide) (by decide)
 exact ⟨f2,h4,fun H ka kc ad c hk hi=>dv_Make H 100 1#32 ka kc keyT ad c sunL (sha sunL) f1 f2 hk (by decide) hi (by decide) (by decide) rfl h1 h2 h3⟩
theorem b2I (H:List Hl) (ht:TabF (stars H)):Spec Tryz.prog 17 [] H (fun _:Unit=>True) (fun _ => .bool true) (fun _=>H):=by
 refine sP (res:=fun _=>[]) H Tryz.func17 Tryz.ntmps17 fun W=>?_
 have hk:=rain_ok
 have hkk:rainP.k=4:=by decide
 obtain ⟨f0,d0,hmake⟩:=top_make
 have he1:errOf sunS (mOf rainP 4#32 rainL)=0:=errOf_new d0.may (hk.may _ _) rfl (by decide) (by decide) (fun h=>by cases h) (by decide)
 obtain ⟨f1,d1,hh1⟩:=top_hear_I d0 (by decide) hk he1
 obtain ⟨S1,hS1⟩:∃ S1,hearS sunS rainP 4#32 rainL=S1:=⟨_,rfl⟩
 have son:S1.on=true:=by rw [←hS1];rfl
 have st_:S1.t=0:=by rw [←hS1];rfl
 have sa:S1.a=0:=by rw [←hS1];rfl
 have sm:S1.m=mOf rainP 4#32 rainL:=by rw [←hS1];rfl
 have sg:S1.g=sunS.g+1#32:=by rw [←hS1];rfl
 rw [hS1] at d1 hh1
 have hdup:errOf S1 (mOf rainP 4#32 rainL)=8:=errOf_dup d1.may (hk.may _ _) st_ son (by rw [sm];exact same_self _)
 have hip:IsP S1.m rainP rainL.length:=by rw [sm];exact b3B hk
 obtain ⟨f2,d2,l2,hp3⟩:=b7X (id:=3#32) (ids:=[]) d1 (by decide) hk son hip (b9J _ _ _) (by simp) (by simp) (by rw [hkk];decide) (by simp) (by rw [hkk];decide)
 obtain ⟨f3,d3,l3,hp1⟩:=b7X (id:=1#32) d2 (by decide) hk son hip l2 (by rw [hkk];simp) (by simp) (by rw [hkk];decide) (by simp) (by rw [hkk];decide)
 obtain ⟨f4,d4,l4,hp0⟩:=b7X (id:=0#32) d3 (by decide) hk son hip l3 (by rw [hkk];simp) (by simp) (by rw [hkk];decide) (by simp) (by rw [hkk];decide)
 obtain ⟨f5,d5, -,hp2⟩:=top_fin (id:=2#32) d4 (by decide) hk son st_ hip (by rw [sm];rfl) l4 (by rw [hkk];simp) (by simp) (by rw [hkk];decide) (by simp) (by rw [hkk];decide) (by decide)
 rw [←sg] at hh1
 have hrun1:=d4.runs
 rw [sa] at hrun1
 have hseg1:seg f4.bs (slotA 0) 3=sunL:=by have:=d4.slot;rw [sa] at this;exact this
 have hact:(nf (actS S1)).a=1:=by show 1 - S1.a=1;rw [sa];rfl
 have hrun2:=d5.runs
 rw [hact] at hrun2
 have hseg2:seg f5.bs (slotA 1) 4=rainL:=by have:=d5.slot;rw [hact] at this;exact this
 have hsym:∀ (H':List Hl) (hb:Nat) (id:BitVec 32),id.toNat<4→TabF (stars H')→Spec Tryz.prog 14 [.pointer (some ⟨hb,0,none⟩),W4 id] (.any (crP keyT rainP 4#32 rainL (sha rainL) hb)::H') (fun _:Option Addr × Nat=>True) (fun q => .slice q.1 (8+rainP.z+9) q.2)
   (fun q => .row 5 1 (.slice q.1 (8+rainP.z+9) q.2) (8+rainP.z+9) ((frameB 2#8 (symP rainP rainL id)).map B) :: .any (crP keyT rainP 4#32 rainL (sha rainL) hb)::H'):=fun H' hb id hid ht' =>
  cr_Symbol H' keyT rainP 4#32 rainL (sha rainL) hb hk id (unitV rainP id) _ rainP.z (b5B rainP id hk.ok (by rw [hkk];exact hid)) (symD_unit (by show id.toNat<rainP.k+rainP.p;omega)) (a1K _ _ _) (by decide) (by decide) ht'
 obtain ⟨R1,hR1⟩:∃ R1,(((([]:List (BitVec 32)).length / plW rainP.z:Nat)):Int)=R1:=⟨_,rfl⟩
 obtain ⟨R2,hR2⟩:∃ R2,(((([]:List (BitVec 32))++[3#32]).length / plW rainP.z:Nat):Int)=R2:=⟨_,rfl⟩
 obtain ⟨R3,hR3⟩:∃ R3,((((([]:List (BitVec 32))++[3#32])++[1#32]).length / plW rainP.z:Nat):Int)=R3:=⟨_,rfl⟩
 rw [hR1] at hp3 hp1
 rw [hR2] at hp1 hp0
 rw [hR3] at hp0 hp2
 repeat' (first|intro _|(refine k_fn 9 ?_;refine a0A (fun _=>c0D _) rfl (fun bk _=>?_))|(refine a0P ?_;first|refine a0O (T:=22) B rainL rfl rfl rfl (fun _=>rfl) rfl rfl rfl (fun br=>?_)|refine a0O (T:=22) B sunL rfl rfl rfl (fun _=>rfl) rfl rfl rfl (fun br=>?_)|refine a0O W4 [3#32,1#32,0#32] rfl rfl rfl (fun _=>rfl) rfl rfl rfl (fun bi=>?_))|(refine a1W ?_;refine a6I (b:=br) rfl ?_)|(refine k_fn 27 ?_;refine a0A (fun hh=>c2O _ keyT rainP 4#32 rainL (sha rainL) (some ⟨bk,0,none⟩) 3 (some ⟨br,0,none⟩) 4 hk (Rs.up (Rs.of_frz (T:=5) (b:=bk) (l:=keyT) (by decide))) (Rs.up (Rs.of_frz (T:=5) (b:=br) (l:=rainL) (by decide)))) rfl (fun hb _=>?_))|refine a0A (fun hh=>hmake _ (some ⟨bk,0,none⟩) 3 (some ⟨br,0,none⟩) 3 (Rs.up (Rs.of_frz (T:=5) (b:=bk) (l:=keyT) (by decide))) (Rs.up (Rs.of_frz (T:=5) (b:=br) (l:=sunL) (by decide)))) rfl (fun db _=>?_)|refine wK ?_|refine wL ?_ ?_|fail)
 refine a2O 4 ?_
 repeat' (first|intro _|(refine a0J ?_;first|refine a2B (enc:=W4) (ad:=some ⟨bi,0,none⟩) (c:=3) (xs:=[3#32,1#32,0#32]) 0 rfl rfl (a2H rfl (by decide)) rfl rfl (by decide) ?_|refine a2B (enc:=W4) (ad:=some ⟨bi,0,none⟩) (c:=3) (xs:=[3#32,1#32,0#32]) 1 rfl rfl (a2H rfl (by decide)) rfl rfl (by decide) ?_|refine a2B (enc:=W4) (ad:=some ⟨bi,0,none⟩) (c:=3) (xs:=[3#32,1#32,0#32]) 2 rfl rfl (a2H rfl (by decide)) rfl rfl (by decide) ?_)|(refine a0K ?_;first|refine a1T (enc:=W4) (ad:=some ⟨bi,0,none⟩) (c:=3) (xs:=[3#32,1#32,0#32]) 0 3#32 rfl (a2H rfl (by decide)) rfl ?_|refine a1T (enc:=W4) (ad:=some ⟨bi,0,none⟩) (c:=3) (xs:=[3#32,1#32,0#32]) 1 1#32 rfl (a2H rfl (by decide)) rfl ?_|refine a1T (enc:=W4) (ad:=some ⟨bi,0,none⟩) (c:=3) (xs:=[3#32,1#32,0#32]) 2 0#32 rfl (a2H rfl (by decide)) rfl ?_)|(refine k_fn 13 ?_;(refine a0T (crP keyT rainP 4#32 rainL (sha rainL) hb) (fun hh=>b3M _ keyT rainP 4#32 rainL (sha rainL) hb hk) rfl (fun ⟨a36,c36⟩ _=>?_);(try dsimp only)))|refine a0T (dvI keyT f0 sunS db) (fun hh=>hh1 _ db a36 c36 ht.up (a0I (T:=5) (ad:=a36) (c:=c36) (l:=frameB 1#8 (fstP rainP 4#32 rainL)) (a0B hh))) rfl (fun _ _=>?_)|(refine a0T (crP keyT rainP 4#32 rainL (sha rainL) hb) (fun hh=>hsym _ hb 3#32 (by decide) ht.up) rfl (fun ⟨a3,ca3⟩ _=>?_);(try dsimp only))|refine a0T (dvL keyT f1 S1 (stoU rainP S1.g rainL (-1) []) db) (fun hh=>hp3 _ db a3 ca3 ht.up (a0I (T:=5) (ad:=a3) (c:=ca3) (l:=frameB 2#8 (symP rainP rainL 3#32)) (a0B hh))) rfl (fun _ _=>?_)|(refine a0T (crP keyT rainP 4#32 rainL (sha rainL) hb) (fun hh=>hsym _ hb 1#32 (by decide) ht.up) rfl (fun ⟨a1,ca1⟩ _=>?_);(try dsimp only))|refine a0T (dvL keyT f2 S1 (stoU rainP S1.g rainL R1 ([]++[3#32])) db) (fun hh=>hp1 _ db a1 ca1 ht.up (a0I (T:=5) (ad:=a1) (c:=ca1) (l:=frameB 2#8 (symP rainP rainL 1#32)) (a0B hh))) rfl (fun _ _=>?_)|(refine a0T (crP keyT rainP 4#32 rainL (sha rainL) hb) (fun hh=>hsym _ hb 0#32 (by decide) ht.up) rfl (fun ⟨a0,ca0⟩ _=>?_);(try dsimp only))|refine a0T (dvL keyT f3 S1 (stoU rainP S1.g rainL R2 (([]++[3#32])++[1#32])) db) (fun hh=>hp0 _ db a0 ca0 ht.up (a0I (T:=5) (ad:=a0) (c:=ca0) (l:=frameB 2#8 (symP rainP rainL 0#32)) (a0B hh))) rfl (fun _ _=>?_)|(refine k_fn 12 ?_;first|refine a0T (dvL keyT f2 S1 (stoU rainP S1.g rainL R1 ([]++[3#32])) db) (fun hh=>top_no_L hk hdup (by decide) (by decide) _ db f2 (stoU rainP S1.g rainL R1 ([]++[3#32])) a36 c36 (a0I (T:=5) (ad:=a36) (c:=c36) (l:=frameB 1#8 (fstP rainP 4#32 rainL)) (a0B hh))) rfl (fun _ _=>?_)|refine a0T (dvL keyT f3 S1 (stoU rainP S1.g rainL R2 (([]++[3#32])++[1#32])) db) (fun hh=>top_no_L hk hdup (by decide) (by decide) _ db f3 (stoU rainP S1.g rainL R2 (([]++[3#32])++[1#32])) a36 c36 (a0I (T:=5) (ad:=a36) (c:=c36) (l:=frameB 1#8 (fstP rainP 4#32 rainL)) (a0B hh))) rfl (fun _ _=>?_))|refine wK ?_|refine wL ?_ ?_|fail)
 repeat' (first|intro _|(refine k_fn 16 ?_;first|(refine a0T (dvL keyT f4 S1 (stoU rainP S1.g rainL R3 ((([]++[3#32])++[1#32])++[0#32])) db) (fun hh=>dv_Running_L _ db keyT f4 S1 (stoU rainP S1.g rainL R3 ((([]++[3#32])++[1#32])++[0#32])) 0 3 hrun1) rfl (fun ⟨a45,c45⟩ _=>?_);(try dsimp only);rw [hseg1])|(refine a0T (dvI keyT f5 (nf (actS S1)) db) (fun hh=>b0M _ db keyT f5 (nf (actS S1)) 1 4 hrun2) rfl (fun ⟨a55,c55⟩ _=>?_);(try dsimp only);rw [hseg2]))|(refine a1W ?_;first|refine a2M (ad:=a45) (c:=c45) (xs:=sunL) rfl rfl (a0I (T:=5) (ad:=a45) (c:=c45) (l:=sunL)) ?_|refine a2M (ad:=a55) (c:=c55) (xs:=rainL) rfl rfl (a0I (T:=5) (ad:=a55) (c:=c55) (l:=rainL)) ?_)|(refine a0T (crP keyT rainP 4#32 rainL (sha rainL) hb) (fun hh=>hsym _ hb 2#32 (by decide) ht.up) rfl (fun ⟨a2,ca2⟩ _=>?_);(try dsimp only))|refine a0T (dvL keyT f4 S1 (stoU rainP S1.g rainL R3 ((([]++[3#32])++[1#32])++[0#32])) db) (fun hh=>hp2 _ db a2 ca2 ht.up (a0I (T:=5) (ad:=a2) (c:=ca2) (l:=frameB 2#8 (symP rainP rainL 2#32)) (a0B hh))) rfl (fun _ _=>?_)|(refine a0D .eql ?_;first|refine a8I (a:=sunL) (b:=sunL) (r:=true) rfl rfl (by decide) ?_|refine a8I (a:=rainL) (b:=rainL) (r:=true) rfl rfl (by decide) ?_)|refine wK ?_|refine wL ?_ ?_|fail)
 refine a0E () rfl rfl rfl trivial ?_
 exact ent
def b8J:List Row:=[tR 27 [] [],tR 28 [] [],tR 29 [] [],tR 30 [] [],tR 31 [3] [3],tR 32 [4] [3,4],tR 33 [5] [3,4,5],tR 34 [1,2,6] [1,2,3,4,5,6],tR 35 [0,7,7] (rG 8),tR 4 [8,8,0,1,2,3,4,5,6,7,8] (rG 9)]
theorem b9H (s:StD):nf (startS s)=startS (nf s):=rfl
theorem b1Y (s:StD):nf (confS s)=confS (nf s):=by
 have h:=b3A s
 show StD.mk _ _ (maxV s.f s.cur.v) _ _ _ _ _=StD.mk _ _ (maxV s.f (nf s).cur.v) _ _ _ _ _
 rw [h]
 rfl
theorem nf_confOn (s:StD):confOn (nf s)=confOn s:=by rw [b7G,b7G,b3A];rfl
theorem b9R (H:List Hl) (db:Nat) (key:List (BitVec 8)) (f f1:Fl) (s y:StD) (fn:FuncId) (Y:StD→StD)
  (hto:∀ x H',nf x=s→x.Rd (stars H')→Spec Tryz.prog fn [x.V] H' (fun _:PA × PA × PA=>True) (fun r => .tuple #[(copyS (Y x) r.1 r.2.1 r.2.2).V,.bool true]) (fun r=>rowL r.1 (Y x).s0.h.l::rowL r.2.1 (Y x).s1.h.l::rowL r.2.2 (Y x).m.h.l::H'))
  (hY:∀ x,nf x=s→nf (Y x)=y) (hm:y.may=true) (hd:f.pw.isDown=false) (hW:cellW f y.by=(f1,0)) :
  Spec Tryz.prog 52 [.pointer (some ⟨db,0,none⟩),.func (.func fn) #[] #[]] (.any (dvI key f s db)::H) (fun _:Unit=>True) (fun _=>I 0) (fun _ => .any (dvI key f1 y db)::H):=by
 refine Spec.som (by kernel_rfl) (fun ⟨fb,ad,c,h,mb,sb,ka,kc,x,A⟩ hl0=>?_)
 obtain ⟨hk,hkey,hx,hnf⟩:=hl0
 dsimp only at hk hkey hx hnf
 show Spec _ _ _ ([dvB db fb ka key.length kc (pM mb),meB mb x none,fB fb ad c f h,fR ad c f,.any A]++H) _ _ _
 refine sF (res:=fun _:Unit=>[.any (dvI key f1 y db)]) [dvB db fb ka key.length kc (pM mb),meB mb x none,fB fb ad c f h,fR ad c f,.any A] H Tryz.func52 Tryz.ntmps52 fun W=>?_
 dsimp only [cA,nA]
 have hyx:=hY x hnf
 obtain ⟨z,hz⟩:∃ z,Y x=z:=⟨_,rfl⟩
 have hcall:=fun (H':List Hl) (h:x.Rd (stars H'))=>hto x H' hnf h
 rw [hz] at hcall hyx
 have hmay:∀ r0 r1 r2,(copyS z r0 r1 r2).may=true:=fun r0 r1 r2=>by rw [a3P,←a6T,hyx];exact hm
 have hW2:∀ r0 r1 r2,cellW f (copyS z r0 r1 r2).by=(f1,0):=fun r0 r1 r2=>by rw [←hW,←hyx];rfl
 repeat' (first|intro _|refine a0S rfl rfl ?_|(refine a6G (args:=[x.V]) (caps:=[]) rfl (fun _=>hcall _ ⟨hx.s0.up,hx.s1.up,hx.m.up⟩) rfl (fun ⟨r0,r1,r2⟩ _=>?_);(try dsimp only))|(refine k_fn 33 ?_;refine a0A (fun _=>a1Q db fb ka key.length kc mb x none) rfl (fun _ _=>?_))|(refine a1O ?_;refine a1D rfl (fun b6=>?_))|refine wK ?_|refine wL ?_ ?_|fail)
 refine a0H [(0,_),(6,_),(5,_)] b8J [7,8] [⟨[0,1,2,3,4,5,6],[],some 7⟩,⟨[],[0],some 8⟩,⟨[9],[],none⟩] mixed cv (by kernel_rfl) (by kernel_rfl) ?_
 repeat' (first|intro _|refine sg ?_|(refine a1E ?_;refine po (by first|refine a0F (b:=mb) (i:=17) rfl rfl fz|fail) ?_)|refine pw ?_|refine pdd ?_|(refine k_fn 32 ?_;(refine a0V (dvB db fb ka key.length kc (pM mb)::fB fb ad c f h::fR ad c f::[rowL r0 z.s0.h.l,rowL r1 z.s1.h.l,rowL r2 z.m.h.l,.any A,.any (stars H)]) (Ent.out ent) (fun hh=>b1O _ db fb ka key.length kc (pM mb) ad c f f1 h (copyS z r0 r1 r2) none (hmay r0 r1 r2) ⟨a0I (T:=5) (ad:=r0.1) (c:=r0.2) (l:=z.s0.h.l) (a0B (a0B (a0B hh))),a0I (T:=5) (ad:=r1.1) (c:=r1.2) (l:=z.s1.h.l) (a0B (a0B (a0B hh))),a0I (T:=5) (ad:=r2.1) (c:=r2.2) (l:=z.m.h.l) (a0B (a0B (a0B hh)))⟩ hk hd (hW2 r0 r1 r2)) rfl (fun ⟨h1,mb2⟩ hk1=>?_);(try dsimp only at hk1 ⊢)))|(refine k_fn 35 ?_;refine a0G (b:=db) (fun _=>a8P _ db fb ka key.length kc (pM mb2) 0 (by decide)) rfl (fun _ _=>?_))|refine ow ?_|fail)
 all_goals dsimp only [cA,nA]
 repeat' (first|intro _|refine wK ?_|refine wL ?_ ?_|fail)
 refine a4H [rowL r0 z.s0.h.l,rowL r1 z.s1.h.l,rowL r2 z.m.h.l,.any A] [dvB db fb ka key.length kc (pM mb2),meB mb2 (copyS z r0 r1 r2) none,fB fb ad c f1 h1,fR ad c f1,.any (stars H)] ent ?_
 refine b1R (fun hh=>?_)
 have hA:=a5L hh
 refine b1S (l:=⟨fb,ad,c,h1,mb2,sb,ka,kc,copyS z r0 r1 r2,stars [rowL r0 z.s0.h.l,rowL r1 z.s1.h.l,rowL r2 z.m.h.l,.any A]⟩) (R:=[.any (stars H)]) ⟨hk1,rs_gr hkey Gr.of,⟨a0I (T:=5) (ad:=r0.1) (c:=r0.2) (l:=z.s0.h.l) hA,a0I (T:=5) (ad:=r1.1) (c:=r1.2) (l:=z.s1.h.l) hA,a0I (T:=5) (ad:=r2.1) (c:=r2.2) (l:=z.m.h.l) hA⟩,hyx⟩ ent ?_
 refine a0E () rfl rfl rfl trivial ?_
 exact ent
theorem b2C (H:List Hl) (db:Nat) (key:List (BitVec 8)) (f:Fl) (s:StD) (fn:FuncId) (Y:StD→StD)
  (hto:∀ x H',nf x=s→x.Rd (stars H')→Spec Tryz.prog fn [x.V] H' (fun _:PA × PA × PA=>True) (fun r => .tuple #[(copyS (Y x) r.1 r.2.1 r.2.2).V,.bool false]) (fun r=>rowL r.1 (Y x).s0.h.l::rowL r.2.1 (Y x).s1.h.l::rowL r.2.2 (Y x).m.h.l::H')) :
  Spec Tryz.prog 52 [.pointer (some ⟨db,0,none⟩),.func (.func fn) #[] #[]] (.any (dvI key f s db)::H) (fun _:Unit=>True) (fun _=>I 0) (fun _ => .any (dvI key f s db)::H):=by
 refine Spec.som (by kernel_rfl) (fun ⟨fb,ad,c,h,mb,sb,ka,kc,x,A⟩ hl0=>?_)
 obtain ⟨hk,hkey,hx,hnf⟩:=hl0
 dsimp only at hk hkey hx hnf
 show Spec _ _ _ ([dvB db fb ka key.length kc (pM mb),meB mb x none,fB fb ad c f h,fR ad c f,.any A]++H) _ _ _
 refine sF (res:=fun _:Unit=>[.any (dvI key f s db)]) [dvB db fb ka key.length kc (pM mb),meB mb x none,fB fb ad c f h,fR ad c f,.any A] H Tryz.func52 Tryz.ntmps52 fun W=>?_
 dsimp only [cA,nA]
 obtain ⟨z,hz⟩:∃ z,Y x=z:=⟨_,rfl⟩
 have hcall:=fun (H':List Hl) (h:x.Rd (stars H'))=>hto x H' hnf h
 rw [hz] at hcall
 repeat' (first|intro _|refine a0S rfl rfl ?_|(refine a6G (args:=[x.V]) (caps:=[]) rfl (fun _=>hcall _ ⟨hx.s0.up,hx.s1.up,hx.m.up⟩) rfl (fun ⟨r0,r1,r2⟩ _=>?_);(try dsimp only))|(refine k_fn 33 ?_;refine a0A (fun _=>a1Q db fb ka key.length kc mb x none) rfl (fun _ _=>?_))|(refine a1O ?_;refine a1D rfl (fun b6=>?_))|refine wK ?_|refine wL ?_ ?_|fail)
 refine b1S (l:=⟨fb,ad,c,h,mb,sb,ka,kc,x,A⟩) (R:=[.any (stars H)]) ⟨hk,hkey,hx,hnf⟩ ent ?_
 refine a0E () rfl rfl rfl trivial ?_
 exact ent
theorem b0Y {x s:StD} {H:List Hl} (hs:nf x=s) (hx:x.Rd (stars H)) (hm:s.may=true) (b:Bool) (hb:(!decide (s.t=0))=b) :
  Spec Tryz.prog 53 [x.V] H (fun _:PA × PA × PA=>True) (fun r => .tuple #[(copyS (startS x) r.1 r.2.1 r.2.2).V,.bool b]) (fun r=>rowL r.1 (startS x).s0.h.l::rowL r.2.1 (startS x).s1.h.l::rowL r.2.2 (startS x).m.h.l::H):=by
 have hmx:x.may=true:=by rw [←a6T,hs];exact hm
 have:(!decide (x.t=0))=b:=by rw [←hb,←hs];rfl
 rw [←this]
 exact bt_Start H x hx hmx
theorem a5A {x s:StD} {H:List Hl} (hs:nf x=s) (hx:x.Rd (stars H)) (hm:s.may=true) (b:Bool) (hb:confOn s=b) :
  Spec Tryz.prog 54 [x.V] H (fun _:PA × PA × PA=>True) (fun r => .tuple #[(copyS (confS x) r.1 r.2.1 r.2.2).V,.bool b]) (fun r=>rowL r.1 (confS x).s0.h.l::rowL r.2.1 (confS x).s1.h.l::rowL r.2.2 (confS x).m.h.l::H):=by
 have hmx:x.may=true:=by rw [←a6T,hs];exact hm
 have:confOn x=b:=by rw [←hb,←hs,nf_confOn]
 rw [←this]
 exact bt_Confirm H x hx hmx
end Go.Dp
namespace Go.Dp
open Go.RowKit Sha
end Go.Dp
namespace Go.Dp
def recF (g:BitVec 32) (r:Rec):List (BitVec 8):=recB g r.1 r.2++[0#8]
theorem b6D {g:BitVec 32} {z:Nat} {S:List (BitVec 8)} {y:BitVec 8} (h:S[z+12]?=some y) (hy:y≠0#8):recC g z S=none:=by
 unfold recC
 rw [if_pos (by rw [List.getD_eq_getElem?_getD,h];exact hy)]
theorem b4B {g:BitVec 32} {z:Nat} {r:Rec} (hz:r.2.length=z):recC g z (recF g r)=some r:=by
 have hR:(recB g r.1 r.2).length=z+12:=by rw [b5C,hz]
 have e1:(recF g r).take (z+12)=recB g r.1 r.2:=List.take_left' hR
 have e0:(recF g r).getD (z+12) 0#8=0#8:=by
  rw [recF,List.getD_eq_getElem?_getD,List.getElem?_append_right (by omega),hR,Nat.sub_self];rfl
 have e4:(recF g r).take 4=be4 g:=by
  rw [←b2S g r.1 r.2,←e1,List.take_take,Nat.min_eq_left (by omega)]
 have e8:seg (recF g r) 4 4=be4 r.1:=by
  unfold seg recF recB crcPut
  simp only [List.append_assoc]
  rw [List.drop_left' (a4W g),List.take_left' (a4W _)]
 have ed:seg (recF g r) 8 z=r.2:=by
  unfold seg recF recB crcPut
  simp only [List.append_assoc]
  rw [←List.append_assoc,List.drop_left' (by simp [a4W]),List.take_left' hz]
 have hc:crcOk ((recF g r).take (z+12))=true:=by rw [e1];exact b7E _
 unfold recC
 rw [if_neg (by rw [e0];simp),if_neg (by rw [hc];simp),if_neg (by rw [e4,a3F];simp),e8,a3F,ed]
theorem recF_take (g:BitVec 32) (r:Rec):(recF g r).take 4=be4 g:=by
 rw [←b2S g r.1 r.2,recF,List.take_append_of_le_length (by rw [b5C];omega)]
theorem atW_eq {z s j:Nat} (hj:j<plW z):atW z (plW z*s+j)=(6+s)*256+j*(z+13):=by
 unfold atW
 rw [Nat.mul_add_div (by omega),Nat.div_eq_of_lt hj,Nat.mul_add_mod,Nat.mod_eq_of_lt hj,Nat.add_zero]
theorem pl_split (z p:Nat) (h:0<plW z):∃ s j,p=plW z*s+j∧j<plW z:=⟨p / plW z,p % plW z,(Nat.div_add_mod p _).symm,Nat.mod_lt _ h⟩
theorem b4T {z j:Nat} (h1:1≤z) (h2:z≤16) (hj:j<plW z):j*(z+13)+(z+13)≤256:=by
 have w3:=(plW_b h1 h2).2.2
 have:(j+1)*(z+13)≤plW z*(z+13):=Nat.mul_le_mul_right _ hj
 rw [Nat.succ_mul] at this
 omega
theorem b7O {z p:Nat} (h1:1≤z) (h2:z≤16) (h:p<8*plW z):1536≤atW z p∧atW z p+(z+13)≤3584:=by
 obtain ⟨w1,w2,w3⟩:=plW_b h1 h2
 obtain ⟨s,j,rfl,hj⟩:=pl_split z p (by omega)
 have hjz:=b4T h1 h2 hj
 have hs:s<8:=by
  rcases Nat.lt_or_ge s 8 with q|q
  ·exact q
  ·have:=Nat.mul_le_mul_left (plW z) q
   omega
 rw [atW_eq hj]
 omega
section
variable {l l':List (BitVec 8)} {g:BitVec 32} {z e:Nat} {L:List Rec}
theorem live_at {s m:Nat} (hm0:0<m) (hm:m≤plW z) (hh:num32 (seg l ((6+s)*256) 4)=g):LiveW l g z (s:Int) (s*plW z+m):=by
 refine ⟨fun hf=>?_,fun hf=>?_⟩
 ·by_cases c:m=plW z
  ·rw [c,←Nat.succ_mul,Nat.mul_div_cancel _ (by omega)]
   omega
  ·rw [Nat.add_comm,Nat.add_mul_mod_self_right,Nat.mod_eq_of_lt (by omega)] at hf
   omega
 ·by_cases c:m=plW z
  ·rw [c,←Nat.succ_mul,Nat.mul_mod_left] at hf
   exact absurd rfl hf
  ·have:(s*plW z+m) / plW z=s:=by
    rw [Nat.add_comm,Nat.add_mul_div_right _ _ (by omega),Nat.div_eq_of_lt (by omega),Nat.zero_add]
   rw [this,hh]
   exact ⟨rfl,Nat.le_refl _⟩
end
open Go.RowKit Sha
open Go.RowKit Go.Proofs Sha
end Go.Dp
namespace Go.Dp
open Go.RowKit Sha
theorem startF_fuse (f:Fl):(startF (fuseF f none 0)).pw = .on∧(startF (fuseF f none 0)).bs=f.bs∧(startF (fuseF f none 0)).er=f.er∧(startF (fuseF f none 0)).wear=f.wear:=by
 obtain ⟨bs,er,wear,pwr,torn⟩:=f
 cases pwr <;> exact ⟨rfl,rfl,rfl,rfl⟩
end Go.Dp
namespace Go.Dp
def GoodD (p:Prm) (im:List (BitVec 8)) (d:Dec):Prop:=∃ V:List (List Bool),(∀ v∈V,v.length=p.n)∧d.M=foldA p.n (datP p im) (rowsL p.s p.k p.p++V)
theorem b9L {p:Prm} {V:List (List Bool)} (h:∀ v∈V,v.length=p.n):∀ v∈rowsL p.s p.k p.p++V,v.length=p.n:=fun v hv=>by
 rcases List.mem_append.1 hv with q|q
 ·exact rowsL_len v q
 ·exact h v q
theorem good_new (p:Prm) (im:List (BitVec 8)):GoodD p im (newD p):=⟨[],by simp,by rw [←b9S p im];rfl⟩
theorem GoodD.rr {p:Prm} {im:List (BitVec 8)} {d:Dec} (h:GoodD p im d):RR p.n p.z d.M:=by
 obtain ⟨V,h1,h2⟩:=h
 rw [h2]
 exact b1L (fun v _=>a1K _ _ v) _ (b9L h1)
theorem b7Y (p:Prm) (d:Dec) (v:List Bool) (x:List (BitVec 8)):(takeD p d v x).M=addF d.M (v,x):=by
 unfold takeD
 split
 ·rename_i h
  unfold addF
  rw [if_pos h]
 ·rfl
theorem good_take {p:Prm} {im:List (BitVec 8)} {d:Dec} {v:List Bool} (h:GoodD p im d) (hv:v.length=p.n):GoodD p im (takeD p d v (datP p im v)):=by
 obtain ⟨V,h1,h2⟩:=h
 refine ⟨V++[v],fun u hu=>?_,?_⟩
 ·rcases List.mem_append.1 hu with q|q
  ·exact h1 u q
  ·obtain rfl:u=v:=by simpa using q
   exact hv
 ·rw [b7Y,h2,←List.append_assoc,a5R]
theorem good_says {p:Prm} {im:List (BitVec 8)} {d:Dec} {v:List Bool} (h:GoodD p im d) (hv:v.length=p.n) (hs:saysD p d v=false):sp p.n d.M v:=by
 have hR:=h.rr
 have hz:(List.replicate p.z 0#8).length=p.z:=by simp
 have h1 : ¬ 0≤firstV (red d.M (v,List.replicate p.z 0#8)).1:=of_decide_eq_false hs
 rcases a8V (v:=(v,List.replicate p.z 0#8)) hR hv hz with e|⟨a,e,_⟩
 ·exact (b4V hR hv hz).1 e
 ·rw [e] at h1;exact absurd (Int.natCast_nonneg a) h1
theorem sp_take {p:Prm} {im:List (BitVec 8)} {d:Dec} {v w:List Bool} (h:GoodD p im d) (hv:v.length=p.n) (hw:w.length=p.n) (hs:sp p.n d.M w):sp p.n (takeD p d v (datP p im v)).M w:=by
 rw [b7Y]
 exact (b8C h.rr (v:=(v,datP p im v)) hv (a1K _ _ v) hw).2 (.inl hs)
theorem sp_took {p:Prm} {im:List (BitVec 8)} {d:Dec} {v:List Bool} (h:GoodD p im d) (hv:v.length=p.n):sp p.n (takeD p d v (datP p im v)).M v:=by
 rw [b7Y]
 exact sp_self h.rr (v:=(v,datP p im v)) hv (a1K _ _ v)
theorem b6S {p:Prm} {im:List (BitVec 8)} {d:Dec} (h:GoodD p im d) (hf:cntS d.M=p.n) (hc:count im.length p.z=p.k) (hk:1≤p.k):imgB p d im.length=im:=by
 have hR:=h.rr
 have hML:d.M.length=p.n:=hR.lok.len
 obtain ⟨V,h1,h2⟩:=h
 have hD:=foldA_D (datD_lin (pieA p im) p.z p.n) (rowsL p.s p.k p.p++V) (b9L h1)
 rw [←h2] at hD
 have hsol:solD d.M=pieA p im:=by
  apply List.ext_getElem
  ·rw [solD,List.length_map,hML,a4R]
  intro i h1 h2
  rw [a4R] at h2
  obtain ⟨y,hy⟩:=a8N (by rw [hf,hML]) i (by rw [hML];exact h2)
  have hu:=full_unit hR hf hy
  have hyD:y.2=datP p im y.1:=hD y (List.mem_of_getElem? hy)
  have hg:d.M[i]'(by rw [hML];exact h2)=some y:=(List.getElem?_eq_some_iff.1 hy).2
  simp only [solD,List.getElem_map,hg]
  rw [hyD]
  exact b7D (by rw [a4R];exact h2) (b8Q h2) hu
 have hcn:count (im.length:Int) p.z≠0:=by rw [hc];omega
 obtain ⟨c1,c2,c3,c4,c5,c6,c7⟩:=a8R hcn
 have hge:=count_ge' hc hk
 unfold imgB
 rw [hsol]
 have ht:(pieA p im).take p.k=piecesL im p.k p.z:=List.take_left' piecesL_len
 rw [ht,piecesL,b4P im (p.k*p.z) p.z p.k (Nat.le_refl _),List.take_of_length_le (by rw [b1K];exact Nat.le_refl _),joinL,if_pos ⟨c1,c2,by rw [b1K];exact_mod_cast hge⟩,full_app' hge]
 exact List.take_left' (by simp)
theorem sp_fold {p:Prm} {im:List (BitVec 8)}:∀ rs:List (List Bool),(∀ v∈rs,v.length=p.n)→∀ v∈rs,sp p.n (foldA p.n (datP p im) rs) v:=fun rs=>a9F (P:=fun rs=>(∀ v∈rs,v.length=p.n)→∀ v∈rs,sp p.n (foldA p.n (datP p im) rs) v) (fun _ v hv=>by cases hv) (fun l a ih h v hv=>by
 have hl:∀ u∈l,u.length=p.n:=fun u hu=>h u (by simp [hu])
 have hR:=b1L (D:=datP p im) (z:=p.z) (fun v _=>a1K _ _ v) l hl
 have ha:=h a (by simp)
 rw [a5R]
 rcases List.mem_append.1 hv with q|q
 ·exact (b8C hR (v:=(a,datP p im a)) ha (a1K _ _ a) (hl v q)).2 (.inl (ih hl v q))
 ·obtain rfl:v=a:=by simpa using q
  exact sp_self hR (v:=(v,datP p im v)) ha (a1K _ _ v)) rs
theorem cntS_all:∀ {M:List (Option LN)},(∀ i,i<M.length→∃ y,M[i]?=some (some y))→cntS M=M.length
 | [],_=>rfl
 | x::M,h=>by
  obtain ⟨y,hy⟩:=h 0 (by simp)
  have hx:x=some y:=by simpa using hy
  have ih:=cntS_all (M:=M) (fun i hi=>by
   have:=h (i+1) (by simpa using hi)
   simpa using this)
  subst hx
  have:=b2E [some y] M
  have e1:cntS [some y]=1:=rfl
  rw [e1,ih] at this
  rw [List.length_cons,show some y::M=[some y]++M from rfl,this]
  omega
theorem good_all {p:Prm} {im:List (BitVec 8)} {d:Dec} (h:GoodD p im d) (hu:∀ id:BitVec 32,id.toNat<p.k→sp p.n d.M (unitV p id)) (hk:p.k≤64):cntS d.M=p.n:=by
 have hR:=h.rr
 have hML:d.M.length=p.n:=hR.lok.len
 have hnk:p.n=p.k+p.p:=rfl
 rw [←hML]
 refine cntS_all (fun i hi=>?_)
 rw [hML] at hi
 by_cases hik:i<p.k
 ·have ho:(BitVec.ofNat 32 i).toNat=i:=by rw [BitVec.toNat_ofNat];omega
  refine sp_pivot hR (hu (BitVec.ofNat 32 i) (by omega)) hi ?_ (fun j hj=>?_)
  ·rw [a6K p _ i (by omega)];simp [ho]
  ·rw [a6K p _ j (by omega),ho];exact decide_eq_false (by omega)
 ·obtain ⟨j,hj⟩:∃ j,i=p.k+j:=⟨i - p.k,by omega⟩
  have hjp:j<p.p:=by omega
  have hrow:sp p.n d.M (rowR p.s (p.k+p.p) p.k j):=by
   obtain ⟨V,h1,h2⟩:=h
   rw [h2]
   exact sp_fold _ (b9L h1) _ (List.mem_append.2 (.inl (List.mem_map.2 ⟨j,List.mem_range.2 hjp,rfl⟩)))
  have clear:∀ m,m≤p.k→∃ w,sp p.n d.M w∧w.length=p.n∧(∀ q,q<m→at_ w q=false)∧∀ q,m≤q→at_ w q=at_ (rowR p.s (p.k+p.p) p.k j) q:=fun m=>by
   induction m with
   | zero=>intro _;exact ⟨_,hrow,a9E _ _ _ _,fun q hq=>by omega,fun q _=>rfl⟩
   | succ m ih =>
    intro hm
    obtain ⟨w,w1,w2,w3,w4⟩:=ih (by omega)
    have ho:(BitVec.ofNat 32 m).toNat=m:=by rw [BitVec.toNat_ofNat];omega
    have ul:=a6O p (BitVec.ofNat 32 m)
    have ua:∀ q,at_ (unitV p (BitVec.ofNat 32 m)) q=decide (q=m):=fun q=>by rw [a6K p _ q (by omega),ho]
    cases hw:at_ w m with
    | false =>
     refine ⟨w,w1,w2,fun q hq=>?_,fun q hq=>w4 q (by omega)⟩
     by_cases e:q=m
     ·rw [e];exact hw
     ·exact w3 q (by omega)
    | true =>
     refine ⟨xorV w (unitV p (BitVec.ofNat 32 m)),sp_xor (by omega) w1 (hu _ (by omega)),by rw [a8Y,w2];omega,fun q hq=>?_,fun q hq=>?_⟩
     ·rw [c0K w2 ul,ua]
      by_cases e:q=m
      ·rw [e,hw];simp
      ·rw [w3 q (by omega)];simp [e]
     ·rw [c0K w2 ul,ua,w4 q (by omega)]
      have : ¬ q=m:=by omega
      simp [this]
  obtain ⟨w,w1,w2,w3,w4⟩:=clear p.k (Nat.le_refl _)
  refine sp_pivot hR w1 hi ?_ (fun q hq=>?_)
  ·rw [w4 i (by omega),a9D (by omega),hj];simp [parR]
  ·by_cases hqk:q<p.k
   ·exact w3 q hqk
   ·rw [w4 q (by omega),a9D (by omega)]
    simp [parR]
    omega
theorem b1C {l l':List (BitVec 8)} {g:BitVec 32} {z p:Nat} (h:∀ i,atW z p≤i→i<atW z p+(z+13)→l'[i]?=l[i]?):recAt l' g z p=recAt l g z p:=by
 unfold recAt
 rw [a6C (l:=l') (l':=l) h]
theorem blank_none {l:List (BitVec 8)} {g:BitVec 32} {z p:Nat} (h:Blank l (atW z p) (z+13)):recAt l g z p=none:=by
 refine b6D (y:=0xff#8) ?_ (by decide)
 rw [a1X,if_pos (by omega)]
 exact h.at (by omega) (by omega)
theorem b0Q {z s j:Nat} (hj:j<plW z):atW z (s*plW z+j)=(6+s)*256+j*(z+13):=by rw [Nat.mul_comm,atW_eq hj]
theorem b6L {z j k:Nat} (h:j<k):j*(z+13)+(z+13)≤k*(z+13):=by
 have:=Nat.mul_le_mul_right (z+13) (show j+1≤k from h)
 rw [Nat.succ_mul] at this
 exact this
theorem b5A {l:List (BitVec 8)} {g:BitVec 32} {z s:Nat} (hp:0<plW z) (h:secOn l g z s=true):num32 (seg l ((6+s)*256) 4)=g:=by
 unfold secOn recAt at h
 rw [b0R hp] at h
 unfold recC at h
 split at h
 ·cases h
 split at h
 ·cases h
 split at h
 ·cases h
 ·rename_i q
  have q:=Decidable.not_not.1 q
  rw [←a4B,a5F (by omega),Nat.add_zero] at q
  exact q
theorem sec_off {l:List (BitVec 8)} {g:BitVec 32} {z s:Nat} (hp:0<plW z) (hg:g.toNat<4278190080) (hl:(6+s)*256+4≤l.length) (h:l[(6+s)*256]?=some 0xff#8):secOn l g z s=false:=by
 cases hs:secOn l g z s with
 | false=>rfl
 | true =>
  have hh:=b5A hp hs
  have hlen:(seg l ((6+s)*256) 4).length=4:=a2Q hl
  obtain ⟨a,b,c,d,he⟩:∃ a b c d,seg l ((6+s)*256) 4=[a,b,c,d]:=list4 hlen
  have ha:a=0xff#8:=by
   have:(seg l ((6+s)*256) 4)[0]?=some 0xff#8:=by rw [a1X,if_pos (by omega),Nat.add_zero,h]
   rw [he] at this
   simpa using this
  have hn:(num32 (seg l ((6+s)*256) 4)).toNat=numN (seg l ((6+s)*256) 4):=b1X _ (by rw [hlen];exact Nat.le_refl _)
  rw [hh,he,ha] at hn
  simp only [numN,List.foldl_cons,List.foldl_nil] at hn
  have:(0xff#8:BitVec 8).toNat=255:=rfl
  omega
structure WhG (l:List (BitVec 8)) (g:BitVec 32) (z:Nat) (G:Rec→Prop):Prop where
 wh:WhOk l g.toNat
 good:∀ s,s<8→secOn l g z s=true→∀ j,j<plW z→∀ r,recAt l g z (s*plW z+j)=some r→G r
structure LiveG (l:List (BitVec 8)) (g:BitVec 32) (z:Nat) (rdy:Int) (nxt:Nat):Prop where
 le:nxt≤8*plW z
 lv:LiveW l g z rdy nxt
 on:nxt % plW z≠0→secOn l g z (nxt / plW z)=true
 bl:nxt % plW z≠0→∀ j,nxt % plW z≤j→j<plW z→Blank l (atW z (nxt / plW z*plW z+j)) (z+13)
section
variable {l l':List (BitVec 8)} {g:BitVec 32} {z:Nat} {G:Rec→Prop}
theorem WhG.keep (h:WhG l g z G) (h1:1≤z) (h2:z≤16) (e:seg l' 1536 2048=seg l 1536 2048):WhG l' g z G:=by
 have w1:=(plW_b h1 h2).1
 have hs:∀ p,p<8*plW z→recAt l' g z p=recAt l g z p:=fun p hp=>by
  obtain ⟨a1,a2⟩:=b7O h1 h2 hp
  refine b1C (fun i i1 i2=>?_)
  have q1:=a1X l' 1536 2048 (i - 1536)
  have q2:=a1X l 1536 2048 (i - 1536)
  rw [if_pos (by omega),show 1536+(i - 1536)=i by omega] at q1 q2
  rw [←q1,←q2,e]
 have hb:∀ s j,s<8→j<plW z→s*plW z+j<8*plW z:=fun s j hs hj=>by
  have:=Nat.mul_le_mul_right (plW z) (show s+1≤8 from hs)
  rw [Nat.succ_mul] at this
  omega
 refine ⟨h.wh.keep e,fun s s8 hon j hj r hr=>?_⟩
 rw [hs _ (hb s j s8 hj)] at hr
 refine h.good s s8 ?_ j hj r hr
 unfold secOn at hon ⊢
 rw [←hs _ (by have:=hb s 0 s8 (by omega);omega)]
 exact hon
theorem WhG.newer (h:WhG l g z G) {g':BitVec 32} {z':Nat} {G':Rec→Prop} (hl:l.length=3584) (hg:g.toNat<g'.toNat) (hg2:g'.toNat<4278190080) (h1:1≤z') (h2:z'≤16):WhG l g' z' G' :=
 ⟨h.wh.mono (by omega),fun s hs hon=>by
  have:=head_off (g':=g') (z:=z') hl h.wh hs hg hg2 h1 h2
  rw [this] at hon;cases hon⟩
theorem b6B {p:Nat} {r:Rec}:∀ n,r∈recsP l g z p n→∃ i,i<n∧recAt l g z (p+i)=some r
 | 0,h=>by cases h
 | n+1,h=>by
  unfold recsP at h
  cases hr:recAt l g z (p+n) with
  | none =>
   rw [hr] at h
   obtain ⟨i,i1,i2⟩:=b6B n h
   exact ⟨i,by omega,i2⟩
  | some q =>
   rw [hr] at h
   rcases List.mem_append.1 h with h|h
   ·obtain ⟨i,i1,i2⟩:=b6B n h
    exact ⟨i,by omega,i2⟩
   ·obtain rfl:r=q:=by simpa using h
    exact ⟨n,by omega,hr⟩
theorem WhG.recs (h:WhG l g z G):∀ n,n≤8→∀ r∈recsW l g z n,G r
 | 0,_,r,hr=>by cases hr
 | n+1,hn,r,hr=>by
  unfold recsW at hr
  split at hr
  ·rename_i hon
   rcases List.mem_append.1 hr with q|q
   ·exact h.recs n (by omega) r q
   ·obtain ⟨i,i1,i2⟩:=b6B _ q
    exact h.good n (by omega) hon i i1 r i2
  ·exact h.recs n (by omega) r hr
theorem rdyG_cases:∀ n,rdyW l g z n = -1∨∃ s,s<n∧rdyW l g z n=(s:Int)∧secOn l g z s=true
 | 0 => .inl rfl
 | n+1=>by
  unfold rdyW
  split
  ·rename_i h;exact .inr ⟨n,by omega,rfl,h⟩
  ·rcases rdyG_cases n with q|⟨s,s1,s2,s3⟩
   ·exact .inl q
   ·exact .inr ⟨s,by omega,s2,s3⟩
theorem backG_cases (l:List (BitVec 8)) (z p:Nat):∀ n,∃ m,m≤n∧backW l z p n=p+m∧∀ i,m≤i→i<n→blankB (seg l (atW z (p+i)) (z+13))=true
 | 0=>⟨0,Nat.le_refl _,rfl,fun i _ hi=>by omega⟩
 | n+1=>by
  unfold backW
  cases hb:blankB (seg l (atW z (p+n)) (z+13)) with
  | true =>
   obtain ⟨m,m1,m2,m3⟩:=backG_cases l z p n
   rw [if_pos rfl]
   refine ⟨m,by omega,m2,fun i i1 i2=>?_⟩
   by_cases e:i=n
   ·rw [e];exact hb
   ·exact m3 i i1 (by omega)
  | false =>
   rw [if_neg (by simp)]
   exact ⟨n+1,Nat.le_refl _,rfl,fun i i1 i2=>by omega⟩
theorem WhG.opens (h:WhG l g z G) (h1:1≤z) (h2:z≤16) (hl:l.length=3584):(∀ r∈recsW l g z 8,G r)∧LiveG l g z (rdyW l g z 8) (nxtW l g z):=by
 obtain ⟨w1,w2,w3⟩:=plW_b h1 h2
 refine ⟨h.recs 8 (by omega),?_⟩
 rcases rdyG_cases (l:=l) (g:=g) (z:=z) 8 with e|⟨s,s8,e,hon⟩
 ·have e2:nxtW l g z=0:=by unfold nxtW;rw [e];rfl
  rw [e,e2]
  exact ⟨by omega,b9J _ _ _,fun q=>absurd (Nat.zero_mod _) q,fun q=>absurd (Nat.zero_mod _) q⟩
 ·obtain ⟨m,m1,m2,m3⟩:=backG_cases l z (s*plW z) (plW z)
  have e2:nxtW l g z=s*plW z+m:=by
   unfold nxtW
   rw [e,if_neg (by omega),Int.toNat_natCast]
   exact m2
  have hbl:∀ i,m≤i→i<plW z→Blank l (atW z (s*plW z+i)) (z+13):=fun i i1 i2=>by
   have hb:=m3 i i1 i2
   have hji:=b4T h1 h2 i2
   rwa [a8S (by rw [b0Q i2,hl];omega)] at hb
  have m0:0<m:=by
   rcases Nat.lt_or_ge 0 m with q|q
   ·exact q
   ·have:=hbl 0 (by omega) (by omega)
    have h0:recAt l g z (s*plW z)=none:=by
     have:=blank_none (g:=g) this
     simpa using this
    unfold secOn at hon
    rw [h0] at hon
    cases hon
  have hsP:s*plW z+plW z≤8*plW z:=by
   have:=Nat.mul_le_mul_right (plW z) (show s+1≤8 from s8)
   rw [Nat.succ_mul] at this
   exact this
  rw [e,e2]
  have hdm:m≠plW z→(s*plW z+m) / plW z=s∧(s*plW z+m) % plW z=m:=fun c=>by
   rw [Nat.add_comm]
   exact ⟨by rw [Nat.add_mul_div_right _ _ (by omega),Nat.div_eq_of_lt (by omega),Nat.zero_add],by rw [Nat.add_mul_mod_self_right,Nat.mod_eq_of_lt (by omega)]⟩
  have hdM:m=plW z→(s*plW z+m) % plW z=0:=fun c=>by rw [c,←Nat.succ_mul,Nat.mul_mod_left]
  refine ⟨by omega,live_at m0 m1 (b5A (by omega) hon),fun q=>?_,fun q j j1 j2=>?_⟩
  ·by_cases c:m=plW z
   ·exact absurd (hdM c) q
   ·rw [(hdm c).1];exact hon
  ·by_cases c:m=plW z
   ·exact absurd (hdM c) q
   ·rw [(hdm c).2] at j1
    rw [(hdm c).1]
    exact hbl j j1 j2
theorem WhG.fill (h:WhG l g z G) (h1:1≤z) (h2:z≤16) (hl:l.length=3584) (hg:g.toNat<4278190080) {s m:Nat} (hs:s<8) (hm:m≤256):WhG (fillB l ((6+s)*256) m) g z G:=by
 obtain ⟨w1,w2,w3⟩:=plW_b h1 h2
 have hg':∀ i,(fillB l ((6+s)*256) m)[i]?=if (6+s)*256≤i∧i<(6+s)*256+m then some 0xff#8 else l[i]?:=a2Z (by omega)
 have hlen:(fillB l ((6+s)*256) m).length=3584:=by rw [a4F (by omega),hl]
 have hoth:∀ t j,t<8→t≠s→j<plW z→recAt (fillB l ((6+s)*256) m) g z (t*plW z+j)=recAt l g z (t*plW z+j):=fun t j ht hne hj=>by
  have hji:=b4T h1 h2 hj
  refine b1C (fun i i1 i2=>?_)
  rw [b0Q hj] at i1 i2
  rw [hg' i,if_neg (by omega)]
 by_cases m0:m=0
 ·subst m0
  have e:fillB l ((6+s)*256) 0=l:=a6J _ _
  rw [e];exact h
 have hff:(fillB l ((6+s)*256) m)[(6+s)*256]?=some 0xff#8:=by rw [hg',if_pos (by omega)]
 refine ⟨fun t ht=>?_,fun t ht hon j hj r hr=>?_⟩
 ·by_cases e:t=s
  ·subst e
   refine .inr (.inl ?_)
   rw [a1X,if_pos (by omega),Nat.add_zero]
   exact hff
  ·have:seg (fillB l ((6+s)*256) m) ((6+t)*256) 256=seg l ((6+t)*256) 256:=a6C fun i i1 i2=>by rw [hg' i,if_neg (by omega)]
   rw [this]
   exact h.wh t ht
 ·by_cases e:t=s
  ·subst e
   have:=sec_off (z:=z) (by omega) hg (by omega) hff
   rw [this] at hon;cases hon
  ·rw [hoth t j ht e hj] at hr
   refine h.good t ht ?_ j hj r hr
   have e0:=hoth t 0 ht e (by omega)
   rw [Nat.add_zero] at e0
   unfold secOn at hon ⊢
   rw [←e0]
   exact hon
theorem WhG.place (h:WhG l g z G) (h1:1≤z) (h2:z≤16) {s j:Nat} (hs:s<8) (hj:j<plW z) (ho:∀ i, ¬ ((6+s)*256+j*(z+13)≤i∧i<(6+s)*256+j*(z+13)+(z+13))→l'[i]?=l[i]?) (hr:∀ r,recAt l' g z (s*plW z+j)=some r→G r)
  (hj0:j≠0→secOn l g z s=true) (hz0:j=0→HeadOk (seg l' ((6+s)*256) 256) g.toNat∧∀ k,k≠0→k<plW z→Blank l (atW z (s*plW z+k)) (z+13)) :
  WhG l' g z G:=by
 obtain ⟨w1,w2,w3⟩:=plW_b h1 h2
 have hji:=b4T h1 h2 hj
 have hoth:∀ t k,t<8→k<plW z→(t≠s∨k≠j)→recAt l' g z (t*plW z+k)=recAt l g z (t*plW z+k):=fun t k ht hk hne=>by
  have hki:=b4T h1 h2 hk
  refine b1C (fun i i1 i2=>?_)
  rw [b0Q hk] at i1 i2
  refine ho i ?_
  by_cases e:t=s
  ·have hkj:k≠j:=hne.resolve_left (fun q=>q e)
   subst e
   rcases Nat.lt_or_ge k j with q|q
   ·have:=b6L (z:=z) q;omega
   ·have:=b6L (z:=z) (show j<k by omega);omega
  ·omega
 have hfirst:∀ t,t<8→(t≠s∨j≠0)→secOn l' g z t=secOn l g z t:=fun t ht hne=>by
  have:=hoth t 0 ht (by omega) (hne.imp id (fun q=>q.symm))
  rw [Nat.add_zero] at this
  unfold secOn
  rw [this]
 refine ⟨fun t ht=>?_,fun t ht hon k hk r hrr=>?_⟩
 ·by_cases e:t=s
  ·subst e
   by_cases e0:j=0
   ·exact (hz0 e0).1
   ·refine .inl ?_
    have hh:=b5A (by omega) (hj0 e0)
    have hj13:=b6L (z:=z) (show 0<j by omega)
    rw [Nat.zero_mul,Nat.zero_add] at hj13
    have:seg l' ((6+t)*256) 4=seg l ((6+t)*256) 4:=a6C fun i i1 i2=>ho i (by omega)
    rw [←a4B,a5F (by omega),Nat.add_zero,this,hh]
    exact Nat.le_refl _
  ·have:seg l' ((6+t)*256) 256=seg l ((6+t)*256) 256:=a6C fun i i1 i2=>ho i (by omega)
   rw [this]
   exact h.wh t ht
 ·by_cases e:t=s
  ·subst e
   by_cases ek:k=j
   ·subst ek;exact hr r hrr
   ·rw [hoth t k ht hk (.inr ek)] at hrr
    by_cases e0:j=0
    ·have:=blank_none (g:=g) ((hz0 e0).2 k (by omega) hk)
     rw [this] at hrr;cases hrr
    ·exact h.good t ht (hj0 e0) k hk r hrr
  ·rw [hoth t k ht hk (.inl e)] at hrr
   refine h.good t ht ?_ k hk r hrr
   rw [←hfirst t ht (.inl e)]
   exact hon
end
theorem addW_G {f:Fl} {n z nxt:Nat} {g:BitVec 32} {rdy:Int} {r:Rec} {G:Rec→Prop} (hf:Few f n) (hw:n<f.wear) (hd:f.pw.isDown=false) (hz:r.2.length=z) (h1:1≤z) (h2:z≤16) (hg:g.toNat<4278190080) (hG:G r) (hW:WhG f.bs g z G) (hL:LiveG f.bs g z rdy nxt) (hn:nxt<8*plW z) :
  Stay f (addW f g rdy nxt r.1 r.2).1 (n+1)∧(∀ a m,a+m≤1536→seg (addW f g rdy nxt r.1 r.2).1.bs a m=seg f.bs a m)∧WhG (addW f g rdy nxt r.1 r.2).1.bs g z G ∧
   (((addW f g rdy nxt r.1 r.2).2=0∧(addW f g rdy nxt r.1 r.2).1.pw.isDown=false∧LiveG (addW f g rdy nxt r.1 r.2).1.bs g z ((nxt / plW z:Nat):Int) (nxt+1)) ∨
    ((addW f g rdy nxt r.1 r.2).2=11∧(addW f g rdy nxt r.1 r.2).1.pw = .down none)):=by
 obtain ⟨w1,w2,w3⟩:=plW_b h1 h2
 have hb:=hf.bs
 have hdm:=Nat.div_add_mod nxt (plW z)
 have hjP:=Nat.mod_lt nxt (show 0<plW z by omega)
 have hs8:nxt / plW z<8:=(Nat.div_lt_iff_lt_mul (by omega)).2 hn
 have hfr:=hL.lv.fresh
 have hmi:=hL.lv.mid
 have hon:=hL.on
 have hbl:=hL.bl
 obtain ⟨s,hs⟩:∃ s,nxt / plW z=s:=⟨_,rfl⟩
 obtain ⟨j,hj⟩:∃ j,nxt % plW z=j:=⟨_,rfl⟩
 rw [hs,hj] at hdm hfr hmi hon hbl
 rw [hs] at hs8
 rw [hj] at hjP
 have hnx:nxt=s*plW z+j:=by rw [Nat.mul_comm];exact hdm.symm
 obtain ⟨A,hA⟩:∃ A,(6+s)*256=A:=⟨_,rfl⟩
 have hA1:1536≤A∧A+256≤3584:=by omega
 have hji:=b4T h1 h2 hjP
 obtain ⟨a,ha⟩:∃ a,A+j*(z+13)=a:=⟨_,rfl⟩
 have hat:atW z nxt=a:=by rw [hnx,b0Q hjP,hA,ha]
 have hadd0:addW f g rdy nxt r.1 r.2=if (entF f rdy s).2≠0 then entF f rdy s else if (progF (entF f rdy s).1 a (recB g r.1 r.2)).2≠0 then progF (entF f rdy s).1 a (recB g r.1 r.2) else progF (progF (entF f rdy s).1 a (recB g r.1 r.2)).1 (a+(z+12)) [0#8]:=by
  unfold addW
  rw [hz,if_neg (by omega),hs,hat]
  cases hp:f.pw with
  | down q=>rw [hp] at hd;cases hd
  | on=>rfl
  | fuse k=>rfl
 have hent:Stay f (entF f rdy s).1 (n+1)∧(∀ b m,b+m≤1536→seg (entF f rdy s).1.bs b m=seg f.bs b m)∧WhG (entF f rdy s).1.bs g z G ∧
   (((entF f rdy s).2=0∧(entF f rdy s).1.pw.isDown=false∧(j≠0→(entF f rdy s).1=f)∧(j=0→Blank (entF f rdy s).1.bs A 256))∨((entF f rdy s).2=11∧(entF f rdy s).1.pw = .down none)):=by
  unfold entF
  by_cases e:(s:Int)=rdy
  ·rw [if_pos e]
   have hj0:j≠0:=fun e0=>hfr e0 e.symm
   exact ⟨(Stay.refl hf).mono (by omega),fun _ _ _=>rfl,hW,.inl ⟨rfl,hd,fun _=>rfl,fun q=>absurd q hj0⟩⟩
  ·have hj0:j=0:=by
    by_cases h:j=0
    ·exact h
    ·exact absurd (hmi h).1.symm e
   rw [if_neg e,hA]
   by_cases hbl:blankB (seg f.bs A 256)=true
   ·rw [if_pos hbl]
    exact ⟨(Stay.refl hf).mono (by omega),fun _ _ _=>rfl,hW,.inl ⟨rfl,hd,fun q=>absurd hj0 q,fun _=>(a8S (l:=f.bs) (by omega)).1 hbl⟩⟩
   ·rw [if_neg hbl]
    obtain ⟨st,hoc⟩:=b1N (s:=6+s) hf (by omega) hw hd
    rcases hoc with ⟨e0,e1,e2⟩|⟨e0,e1,m,hm,e2⟩
    ·refine ⟨st,fun b m hh=>?_,by rw [e2];exact hW.fill h1 h2 hb hg hs8 (Nat.le_refl _),.inl ⟨e0,e1,fun q=>absurd hj0 q,fun _=>?_⟩⟩
     ·rw [e2,hA,a3M (by omega) (by omega)]
     ·show seg _ _ _=_
      rw [e2,hA,a9A (by omega) (Nat.le_refl _) (Nat.le_refl _)]
    ·refine ⟨st,fun b m' hh=>?_,by rw [e2];exact hW.fill h1 h2 hb hg hs8 hm,.inr ⟨e0,e1⟩⟩
     rw [e2,hA,a3M (by omega) (by omega)]
 rw [hadd0]
 obtain ⟨⟨f1,v1⟩,hr1⟩:∃ x,entF f rdy s=x:=⟨_,rfl⟩
 rw [hr1] at hent ⊢
 dsimp only at hent ⊢
 obtain ⟨s1,o1,W1,hc1⟩:=hent
 rcases hc1 with ⟨v10,d1,k1,b1⟩|⟨v10,d1⟩
 rotate_left
 ·subst v10
  rw [if_pos (by decide)]
  exact ⟨s1,o1,W1,.inr ⟨rfl,d1⟩⟩
 subst v10
 rw [if_neg (by simp)]
 have hb1:=s1.few.bs
 have hpl:∀ k,j≤k→k<plW z→Blank f1.bs (atW z (s*plW z+k)) (z+13):=fun k k1' k2=>by
  have hki:=b4T h1 h2 k2
  by_cases hj0:j=0
  ·have:=b1 hj0
   exact this.sub (by rw [b0Q k2];omega) (by rw [b0Q k2];omega)
  ·rw [k1 hj0]
   exact hbl hj0 k k1' k2
 have hblk:Blank f1.bs a (z+13):=by
  have:=hpl j (Nat.le_refl _) hjP
  rw [b0Q hjP,hA,ha] at this
  exact this
 have hon1:j≠0→secOn f1.bs g z s=true:=fun h=>by rw [k1 h];exact hon h
 have hR:(recB g r.1 r.2).length=z+12:=by rw [b5C,hz]
 obtain ⟨R,hRe⟩:∃ R,recB g r.1 r.2=R:=⟨_,rfl⟩
 have hR4:R.take 4=be4 g:=by rw [←hRe];exact b2S g r.1 r.2
 have hRF:recF g r=R++[0#8]:=by unfold recF;rw [hRe]
 rw [hRe] at hR ⊢
 have hplace:∀ {l':List (BitVec 8)},(∀ i, ¬ (a≤i∧i<a+(z+13))→l'[i]?=f1.bs[i]?)→(seg l' a (z+13)=recF g r∨((∃ y,l'[a+(z+12)]?=some y∧y≠0#8)∧(seg l' a 4=be4 g∨∀ i,a+4≤i→l'[i]?=f1.bs[i]?)))→WhG l' g z G:=fun {l'} ho hc=>by
  refine W1.place h1 h2 hs8 hjP (by rw [hA,ha];exact ho) (fun q hq=>?_) hon1 (fun e0=>⟨?_,fun k k0 k2=>hpl k (by omega) k2⟩)
  ·unfold recAt at hq
   rw [b0Q hjP,hA,ha] at hq
   rcases hc with e|⟨⟨y,y1,y2⟩,_⟩
   ·rw [e,b4B hz] at hq
    have:=Option.some.inj hq
    rw [←this];exact hG
   ·rw [b6D (y:=y) (by rw [a1X,if_pos (by omega)];exact y1) y2] at hq
    cases hq
  ·have haA:a=A:=by rw [←ha,e0,Nat.zero_mul,Nat.add_zero]
   have h4:seg l' a 4=be4 g→HeadOk (seg l' A 256) g.toNat:=fun q=>by
    refine .inl ?_
    rw [←a4B,a5F (by omega),Nat.add_zero,←haA,q,a3F]
    exact Nat.le_refl _
   rw [hA]
   rcases hc with e|⟨_,e|e⟩
   ·refine h4 ?_
    have:=congrArg (fun x=>x.take 4) e
    rw [recF_take,←a4B,a5F (by omega),Nat.add_zero] at this
    exact this
   ·exact h4 e
   ·refine .inr (.inr fun i i1 i2=>?_)
    rw [a1X,if_pos i2,e _ (by omega)]
    exact (b1 e0).at (by omega) (by omega)
 obtain ⟨s2,c2⟩:=a7I (a:=a) (xs:=R) s1.few (by omega) d1
 obtain ⟨⟨f2,v2⟩,hr2⟩:∃ x,progF f1 a R=x:=⟨_,rfl⟩
 rw [hr2] at s2 c2 ⊢
 dsimp only at s2 c2 ⊢
 rcases c2 with ⟨v20,d2,b2⟩|⟨v20,d2,jj,t,hjj,b2⟩
 ·subst v20
  rw [if_neg (by simp)]
  have hb2:=s2.few.bs
  have hone:([0#8]:List (BitVec 8)).length=1:=rfl
  have hR2:seg f2.bs a (z+12)=R:=by
   rw [b2,←hR]
   exact a4Y (by omega) (hblk.sub (Nat.le_refl _) (by omega))
  have hm2:Blank f2.bs (a+(z+12)) 1:=by
   refine (hblk.sub (b:=a+(z+12)) (m:=1) (by omega) (by omega)).keep ?_
   rw [b2,a2P (by omega) (by omega)]
  obtain ⟨s3,c3⟩:=a7I (a:=a+(z+12)) (xs:=[0#8]) s2.few (by rw [hone];omega) d2
  obtain ⟨⟨f3,v3⟩,hr3⟩:∃ x,progF f2 (a+(z+12)) [0#8]=x:=⟨_,rfl⟩
  rw [hr3] at s3 c3 ⊢
  dsimp only at s3 c3 ⊢
  have key:∃ y,f3.bs=progB f2.bs (a+(z+12)) [y]∧((v3=0∧f3.pw.isDown=false∧y=0#8)∨(v3=11∧f3.pw = .down none)):=by
   rcases c3 with ⟨k1,k2,k3⟩|⟨k1,k2,j,t,hj,k3⟩
   ·exact ⟨0#8,k3,.inl ⟨k1,k2,rfl⟩⟩
   ·have:j=0:=by rw [hone] at hj;omega
    subst this
    exact ⟨_,k3,.inr ⟨k1,k2⟩⟩
  obtain ⟨y,b3,ho⟩:=key
  have hy1:([y]:List (BitVec 8)).length=1:=rfl
  have g3:∀ i, ¬ (a≤i∧i<a+(z+13))→f3.bs[i]?=f1.bs[i]?:=fun i c=>by
   rw [b3,a4M (by rw [hy1];omega),if_neg (by rw [hy1];omega),b2,a4M (by omega),if_neg (by omega)]
  have hseg:seg f3.bs a (z+13)=R++[y]:=by
   rw [show z+13=z+12+1 by omega,b3X,b3,a2P (by rw [hy1];omega) (by omega),hR2]
   have:=a4Y (l:=f2.bs) (xs:=[y]) (a:=a+(z+12)) (by rw [hy1];omega) hm2
   rw [hy1] at this
   rw [this]
  have hmk:f3.bs[a+(z+12)]?=some y:=by
   have:=congrArg (fun x=>x[z+12]?) hseg
   rw [a1X,if_pos (by omega),List.getElem?_append_right (by omega),hR,Nat.sub_self] at this
   exact this
  have h4:seg f3.bs a 4=be4 g:=by
   have:=congrArg (fun x=>x.take 4) hseg
   rw [←a4B,a5F (by omega),Nat.add_zero,List.take_append_of_le_length (by omega),hR4] at this
   exact this
  have hWG:WhG f3.bs g z G:=hplace g3 (by
   by_cases c:y=0#8
   ·left;rw [hseg,c,hRF]
   ·exact .inr ⟨⟨y,hmk,c⟩,.inl h4⟩)
  refine ⟨(s1.trans s2).trans s3,fun b m hm=>?_,hWG,?_⟩
  ·rw [←o1 b m hm]
   exact a6C fun k k1 k2=>g3 k (by omega)
  rcases ho with ⟨q1,q2,q3⟩|⟨q1,q2⟩
  ·subst q3
   refine .inl ⟨q1,q2,?_⟩
   have hrec:recAt f3.bs g z (s*plW z+j)=some r:=by
    unfold recAt
    rw [b0Q hjP,hA,ha,hseg,←hRF,b4B hz]
   have hon3:secOn f3.bs g z s=true:=by
    by_cases e0:j=0
    ·unfold secOn
     rw [e0,Nat.add_zero] at hrec
     rw [hrec];rfl
    ·have hj13:=b6L (z:=z) (show 0<j by omega)
     rw [Nat.zero_mul,Nat.zero_add] at hj13
     have e:=b1C (l:=f1.bs) (l':=f3.bs) (g:=g) (z:=z) (p:=s*plW z) (fun i i1 i2=>by
      rw [b0R (by omega),hA] at i1 i2
      exact g3 i (by omega))
     unfold secOn
     rw [e]
     exact hon1 e0
   have hdM:j+1=plW z→(nxt+1) % plW z=0:=fun c=>by rw [hnx,Nat.add_assoc,c,←Nat.succ_mul,Nat.mul_mod_left]
   have hdm':j+1≠plW z→(nxt+1) / plW z=s∧(nxt+1) % plW z=j+1:=fun c=>by
    have e:nxt+1=(j+1)+s*plW z:=by omega
    rw [e]
    exact ⟨by rw [Nat.add_mul_div_right _ _ (by omega),Nat.div_eq_of_lt (by omega),Nat.zero_add],by rw [Nat.add_mul_mod_self_right,Nat.mod_eq_of_lt (by omega)]⟩
   rw [hs]
   refine ⟨by omega,?_,fun q=>?_,fun q k k1' k2=>?_⟩
   ·have:=live_at (l:=f3.bs) (g:=g) (z:=z) (s:=s) (m:=j+1) (by omega) (by omega) (b5A (by omega) hon3)
    rw [←Nat.add_assoc,←hnx] at this
    exact this
   ·by_cases c:j+1=plW z
    ·exact absurd (hdM c) q
    ·rw [(hdm' c).1];exact hon3
   ·by_cases c:j+1=plW z
    ·exact absurd (hdM c) q
    ·rw [(hdm' c).2] at k1'
     rw [(hdm' c).1]
     have hgap:=b6L (z:=z) (show j<k by omega)
     refine (hpl k (by omega) k2).keep (a6C fun i i1 i2=>g3 i ?_)
     rw [b0Q k2] at i1
     omega
  ·exact .inr ⟨q1,q2⟩
 ·subst v20
  rw [if_pos (by decide)]
  have hxl:(R.take jj++[R.getD jj 0#8 ||| t]).length=jj+1:=by simp;omega
  obtain ⟨xs,hxs⟩:∃ xs,R.take jj++[R.getD jj 0#8 ||| t]=xs:=⟨_,rfl⟩
  rw [hxs] at b2 hxl
  have g3:∀ i, ¬ (a≤i∧i<a+(jj+1))→f2.bs[i]?=f1.bs[i]?:=fun i c=>by
   rw [b2,a4M (by omega),if_neg (by omega)]
  refine ⟨s1.trans s2,fun b m hm=>?_,hplace (fun i c=>g3 i (by omega)) (.inr ⟨⟨0xff#8,by rw [g3 _ (by omega)];exact hblk.at (by omega) (by omega),by decide⟩,?_⟩),.inr ⟨rfl,d2⟩⟩
  ·rw [←o1 b m hm]
   exact a6C fun k k1 k2=>g3 k (by omega)
  by_cases c:jj<4
  ·exact .inr fun i hi=>g3 i (by omega)
  ·refine .inl ?_
   have e:=a4Y (l:=f1.bs) (xs:=xs) (a:=a) (by omega) (hblk.sub (Nat.le_refl _) (by omega))
   rw [hxl] at e
   have e2:=congrArg (fun x=>x.take 4) e
   rw [←a4B,a5F (by omega),Nat.add_zero,←hxs,List.take_append_of_le_length (by rw [List.length_take];omega),List.take_take,Nat.min_eq_left (by omega),hR4] at e2
   rw [b2,←hxs]
   exact e2
open Go.RowKit Go.Proofs
def laysSort_ren:Go.Shelf.Ren:=⟨fun|189=>183|125=>210|257=>209|128=>230|129=>231|294=>221|295=>222|296=>223|297=>224|298=>225|299=>226|216=>227|300=>228|301=>229|328=>243|329=>244|330=>245|331=>246|332=>247|215=>248|343=>257|n=>n,fun|28=>147|3=>3|46=>143|0=>0|51=>31|53=>35|4=>4|183=>305|182=>304|131=>309|5=>5|9=>9|218=>319|222=>323|228=>327|229=>328|n=>n,fun|n=>n⟩
theorem laysSort:Go.Proofs.Lays.n189 Tryz.prog laysSort_ren:={
 mixed:=by kernel_rfl,
 f125:=Tryz.func210.trans (congrArg some (by kernel_rfl)),
 f128:=Tryz.func230.trans (congrArg some (by kernel_rfl)),
 f129:=Tryz.func231.trans (congrArg some (by kernel_rfl)),
 f189:=Tryz.func183.trans (congrArg some (by kernel_rfl)),
 f215:=Tryz.func248.trans (congrArg some (by kernel_rfl)),
 f216:=Tryz.func227.trans (congrArg some (by kernel_rfl)),
 f257:=Tryz.func209.trans (congrArg some (by kernel_rfl)),
 f294:=Tryz.func221.trans (congrArg some (by kernel_rfl)),
 f295:=Tryz.func222.trans (congrArg some (by kernel_rfl)),
 f296:=Tryz.func223.trans (congrArg some (by kernel_rfl)),
 f297:=Tryz.func224.trans (congrArg some (by kernel_rfl)),
 f298:=Tryz.func225.trans (congrArg some (by kernel_rfl)),
 f299:=Tryz.func226.trans (congrArg some (by kernel_rfl)),
 f300:=Tryz.func228.trans (congrArg some (by kernel_rfl)),
 f301:=Tryz.func229.trans (congrArg some (by kernel_rfl)),
 f328:=Tryz.func243.trans (congrArg some (by kernel_rfl)),
 f329:=Tryz.func244.trans (congrArg some (by kernel_rfl)),
 f330:=Tryz.func245.trans (congrArg some (by kernel_rfl)),
 f331:=Tryz.func246.trans (congrArg some (by kernel_rfl)),
 f332:=Tryz.func247.trans (congrArg some (by kernel_rfl)),
 f343:=Tryz.func257.trans (congrArg some (by kernel_rfl)),
 t0:=Tryz.underlying0,
 a0:=Tryz.isAgg0,
 z0:=Tryz.sizeOf0,
 v0:=Tryz.zeroValue0,
 t3:=Tryz.underlying3,
 a3:=Tryz.isAgg3,
 z3:=Tryz.sizeOf3,
 v3:=Tryz.zeroValue3,
 t4:=Tryz.underlying4,
 a4:=Tryz.isAgg4,
 z4:=Tryz.sizeOf4,
 v4:=Tryz.zeroValue4,
 t5:=Tryz.underlying5,
 a5:=Tryz.isAgg5,
 z5:=Tryz.sizeOf5,
 v5:=Tryz.zeroValue5,
 t9:=Tryz.underlying9,
 a9:=Tryz.isAgg9,
 z9:=Tryz.sizeOf9,
 v9:=Tryz.zeroValue9,
 t28:=Tryz.underlying147,
 a28:=Tryz.isAgg147,
 z28:=Tryz.sizeOf147,
 v28:=Tryz.zeroValue147,
 t46:=Tryz.underlying143,
 a46:=Tryz.isAgg143,
 z46:=Tryz.sizeOf143,
 v46:=Tryz.zeroValue143,
 t51:=Tryz.underlying31,
 a51:=Tryz.isAgg31,
 z51:=Tryz.sizeOf31,
 v51:=Tryz.zeroValue31,
 t53:=Tryz.underlying35,
 a53:=Tryz.isAgg35,
 z53:=Tryz.sizeOf35,
 v53:=Tryz.zeroValue35,
 t131:=Tryz.underlying309,
 a131:=Tryz.isAgg309,
 z131:=Tryz.sizeOf309,
 v131:=Tryz.zeroValue309,
 t182:=Tryz.underlying304,
 a182:=Tryz.isAgg304,
 z182:=Tryz.sizeOf304,
 v182:=Tryz.zeroValue304,
 t183:=Tryz.underlying305,
 a183:=Tryz.isAgg305,
 z183:=Tryz.sizeOf305,
 v183:=Tryz.zeroValue305,
 t218:=Tryz.underlying319,
 a218:=Tryz.isAgg319,
 z218:=Tryz.sizeOf319,
 v218:=Tryz.zeroValue319,
 t222:=Tryz.underlying323,
 a222:=Tryz.isAgg323,
 z222:=Tryz.sizeOf323,
 v222:=Tryz.zeroValue323,
 t228:=Tryz.underlying327,
 a228:=Tryz.isAgg327,
 z228:=Tryz.sizeOf327,
 v228:=Tryz.zeroValue327,
 t229:=Tryz.underlying328,
 a229:=Tryz.isAgg328,
 z229:=Tryz.sizeOf328,
 v229:=Tryz.zeroValue328 }
open Go.RowKit Go.Proofs Go.Sort
def sortI (zs:List Int):List Int:=zs.mergeSort fun x y=>decide (x≤y)
theorem sortI_perm (zs:List Int):(sortI zs).Perm zs:=List.mergeSort_perm zs _
theorem b5W (zs:List Int):(sortI zs).length=zs.length:=(sortI_perm zs).length_eq
theorem putCells_get {cur:Array Value} {d:Array Int} {i:Nat}:(putCells (Value.int .i64) 0 d cur)[i]?=if i<d.size then cur[i]?.map (fun _=>Value.int .i64 d[i]!) else cur[i]?:=by
 unfold putCells
 rw [Array.getElem?_mapIdx]
 by_cases h:i<d.size
 ·rw [if_pos h]
  cases cur[i]? with
  | none=>rfl
  | some v=>simp [h]
 ·rw [if_neg h]
  cases cur[i]? with
  | none=>rfl
  | some v=>simp [h]
theorem slices_Sort (H:List Hl) (T:TypeId) (ad:Option Addr) (c:Nat) (zs:List Int) (h1:1≤zs.length) (h2:zs.length<1000000) :
  Spec Tryz.prog 183 [.slice ad zs.length c] (.row T 1 (.slice ad zs.length c) zs.length (zs.map I)::H) (fun _:Unit=>True) (fun _ => .tuple #[]) (fun _ => .row T 1 (.slice ad zs.length c) zs.length ((sortI zs).map I)::H):=by
 refine ⟨by kernel_rfl,fun w hs=>?_⟩
 obtain ⟨x,hw,y1,y2,hd,s1,s2,hrow,hrest⟩:=hs
 obtain ⟨hl,hcase⟩:=hrow
 rcases hcase with ⟨_,hn,_⟩|⟨g,cap,cur,hv,hh,hn,hc,hcs,htk⟩
 ·omega
 obtain ⟨rfl,_,rfl⟩:=Value.slice.inj hv
 rw [Nat.mul_one] at htk hcs
 have hg1:y1 g=some (.cells cur T (0,0)):=by rw [hh];simp [one]
 have hg:w.heap[g]?=some (.cells cur T (0,0)):=hw g _ (s1 g _ hg1)
 have hgs:g<w.heap.size:=by
  rcases Nat.lt_or_ge g w.heap.size with q|q
  ·exact q
  ·rw [Array.getElem?_eq_none q] at hg;cases hg
 have hcur:∀ j,j<zs.length→cur[j]?=some (I (zs.getD j 0)):=fun j hj=>by
  have:=congrArg (fun l=>l[j]?) htk
  rw [List.getElem?_take,if_pos hj,Array.getElem?_toList,List.getElem?_map,List.getElem?_eq_getElem hj] at this
  rw [this,List.getD_eq_getElem?_getD,List.getElem?_eq_getElem hj]
  rfl
 have hH:Holds (Value.int .i64) w g 0 zs.toArray:=fun j hj=>by
  have hj':j<zs.length:=by simpa using hj
  have hc':=hcur j hj'
  refine ⟨?_,?_⟩
  ·rw [Nat.zero_add]
   unfold World.cell?
   dsimp only
   rw [hg]
   simp only [hc']
   simp [hj',List.getD_eq_getElem?_getD]
  ·unfold World.frozen?
   dsimp only
   rw [hg]
   simp
 have hS:=Any.slices_Sort_int laysSort g 0 c zs w hH hgs (by omega)
 refine Calls.mono hS ?_
 rintro e w' ⟨he,n,os,rfl⟩
 obtain ⟨d,hdd⟩:∃ d,(zs.mergeSort fun x y=>decide (x≤y)).toArray=d:=⟨_,rfl⟩
 have hds:d.size=zs.length:=by rw [←hdd];simp
 have hdl:d.toList=sortI zs:=by rw [←hdd];rfl
 rw [hdd]
 refine ⟨(),trivial,he,⟨rfl,rfl,rfl,by simp [grow,putRow,mapBlock,ahead]⟩,?_⟩
 refine ⟨fun i=>if i=g then some (.cells (putCells (Value.int .i64) 0 d cur) T (0,0)) else x i,fun i o hi=>?_,one g (.cells (putCells (Value.int .i64) 0 d cur) T (0,0)),y2,fun i=>?_,fun i o hi=>?_,fun i o hi=>?_,?_,hrest⟩
 ·dsimp only at hi
  show (w.heap.modify g (onCells (putCells (Value.int .i64) 0 d))++os)[i]?=some o
  have key:(w.heap.modify g (onCells (putCells (Value.int .i64) 0 d)))[i]?=some o:=by
   rw [Array.getElem?_modify]
   by_cases hig:i=g
   ·subst hig
    rw [if_pos rfl] at hi ⊢
    rw [hg,←hi]
    rfl
   ·rw [if_neg hig] at hi
    rw [if_neg (fun e=>hig e.symm)]
    exact hw i o hi
  rw [Array.getElem?_append_left]
  ·exact key
  ·rcases Nat.lt_or_ge i (w.heap.modify g (onCells (putCells (Value.int .i64) 0 d))).size with q|q
   ·exact q
   ·rw [Array.getElem?_eq_none q] at key;cases key
 ·by_cases hig:i=g
  ·subst hig
   rcases hd i with q|q
   ·rw [hg1] at q;cases q
   ·exact .inr q
  ·exact .inl (by simp [one,hig])
 ·have:i=g∧some (Obj.cells (putCells (Value.int .i64) 0 d cur) T (0,0))=some o:=by
   unfold one at hi
   split at hi
   ·rename_i q;exact ⟨q,hi⟩
   ·cases hi
  dsimp only
  rw [if_pos this.1]
  exact this.2
 ·have hig:i≠g:=fun e=>by
   subst e
   rcases hd i with q|q
   ·rw [hg1] at q;cases q
   ·rw [q] at hi;cases hi
  dsimp only
  rw [if_neg hig]
  exact s2 i o hi
 ·refine ⟨by simp [b5W],.inr ⟨g,c,_,rfl,rfl,hn,hc,?_,?_⟩⟩
  ·rw [Nat.mul_one,←hcs];simp [putCells]
  ·rw [Nat.mul_one]
   apply List.ext_getElem?
   intro i
   rw [List.getElem?_take,List.getElem?_map]
   by_cases hi:i<zs.length
   ·rw [if_pos hi,Array.getElem?_toList,putCells_get,if_pos (by omega),hcur i hi,←hdl,Array.getElem?_toList,Array.getElem?_eq_getElem (by omega)]
    simp [hds,hi]
   ·rw [if_neg hi,List.getElem?_eq_none (by rw [b5W];omega)]
    rfl
end Go.Dp
namespace Go.Dp
open Go.RowKit Go.Proofs
def rtL3_0:List Row:=[tR 48 [] [],tR 49 [] [],tR 50 [] [],tR 51 [] [],tR 52 [] [],tR 53 [] [],tR 54 [4,5] [4,5],tR 55 [6] [4,5,6],tR 56 [] [],tR 57 [] [],tR 58 [8,9] [8,9],tR 59 [10] [8,9,10],tR 60 [0,1,0,1,4,5,6,7,11] [0,1,4,5,6,7,8,9,10,11],⟨none,[12,7,0,1,4,5,6,7,11],[0,1,4,5,6,7,8,9,10,11,12],none⟩,tR 61 [2,3,0,1,2,3,4,5,6,7,8,9,10,11,12,13] (rG 14),⟨none,[14,11,13,0,1,2,3,4,5,6,7,8,9,10,11,12,13],[0,1,2,3,4,5,6,7,8,9,10,11,12,13,14],none⟩]
theorem slices_SortN (H:List Hl) (ad:Option Addr) (c m:Nat) (zs:List Int) (hm:m=zs.length) (h1:1≤m) (h2:m<1000000) :
  Spec Tryz.prog 183 [.slice ad m c] (.row 3 1 (.slice ad m c) m (zs.map I)::H) (fun _:Unit=>True) (fun _ => .tuple #[]) (fun _ => .row 3 1 (.slice ad m c) m ((sortI zs).map I)::H):=by
 subst hm
 exact slices_Sort H _ ad c zs h1 h2
theorem clone_I (H:List Hl) (ad:Option Addr) (c m:Nat) (l:List Int) (h:Rs (stars H) I ad c l) (hm:m=l.length) (hb:m≤1000) :
  Spec Tryz.prog 182 [.slice ad m c] H (fun _:Option Addr × Nat=>True) (fun r => .slice r.1 m r.2) (fun r => .row 3 1 (.slice r.1 m r.2) m (l.map I)::H):=by
 refine sP (res:=fun r:Option Addr × Nat=>[.row 3 1 (.slice r.1 m r.2) m (l.map I)]) H Tryz.func182 Tryz.ntmps182 fun W=>?_
 cases ad with
 | none =>
  have hl:l=[]:=by
   cases l with
   | nil=>rfl
   | cons a l=>obtain ⟨x,hx⟩:=h.sm (by simp);cases hx
  subst hl
  subst hm
  repeat' (first|intro _|refine wK ?_|refine wL ?_ ?_|fail)
  refine (a2A (a1A 3 I) ?_)
  refine a0E (none,0) rfl rfl rfl trivial ?_
  exact ent
 | some a =>
  repeat' (first|intro _|(refine a0P ?_;refine a0O I ([]:List Int) rfl rfl rfl (fun _=>rfl) rfl rfl rfl (fun _=>?_))|(refine a1S ?_;refine a2C (enc:=I) (xs:=([]:List Int)) rfl rfl rfl rfl (a3Q h) hm rfl (fun _=>rfl) (by omega) (by omega) (fun _ _=>?_))|refine wK ?_|refine wL ?_ ?_|fail)
  refine a0E (_,_) rfl rfl (by simp only [Nat.zero_add];rfl) trivial ?_
  simp only [Nat.zero_add,List.nil_append]
  exact ent
def belR (x:BitVec 32) (n:Nat):Nat:=((x.setWidth 64*BitVec.ofNat 64 n) >>> 32).toNat
theorem belR_lt (x:BitVec 32) {n:Nat} (h1:1≤n) (h2:n≤256):belR x n<n:=by
 have hx:=x.isLt
 have e:belR x n=x.toNat*n / 4294967296:=by
  unfold belR
  rw [BitVec.toNat_ushiftRight,BitVec.toNat_mul,BitVec.toNat_setWidth,BitVec.toNat_ofNat,Nat.shiftRight_eq_div_pow]
  rw [Nat.mod_eq_of_lt (show x.toNat<2 ^ 64 by omega),Nat.mod_eq_of_lt (show n<2 ^ 64 by omega),Nat.mod_eq_of_lt]
  exact Nat.lt_of_le_of_lt (Nat.mul_le_mul (show x.toNat≤4294967296 by omega) h2) (by decide)
 rw [e]
 apply Nat.div_lt_of_lt_mul
 exact Nat.mul_lt_mul_of_pos_right (by omega) h1
theorem rand_Below (H:List Hl) (b:Nat) (s:BitVec 32) (n:Nat) (h1:1≤n) (h2:n≤256) :
  Spec Tryz.prog 181 [.pointer (some ⟨b,0,none⟩),I n] (rB b s::H) (fun _:Unit=>True) (fun _=>I (belR (mixR (srcNx s)) n)) (fun _=>rB b (srcNx s)::H):=by
 refine sF (res:=fun _:Unit=>[rB b (srcNx s)]) [rB b s] H Tryz.func181 Tryz.ntmps181 fun W=>?_
 dsimp only [cA,nA]
 have hlt:=belR_lt (mixR (srcNx s)) h1 h2
 have k1:(((mixR (srcNx s)).setWidth 64*BitVec.ofNat 64 n) >>> (32:Int).toNat).toNat=belR (mixR (srcNx s)) n:=rfl
 repeat' (first|intro _|refine a0S rfl rfl ?_|(refine a0D .lss ?_;refine a3S rfl rfl (by omega) ?_)|(refine a0D .gtr ?_;refine a3H rfl rfl (by omega) ?_)|(refine k_fn 141 ?_;refine a0G (b:=b) (fun _=>b6E _ b s) rfl (fun _ _=>?_))|(refine a1W ?_;first|refine a6H (m':=64) rfl ?_|(refine a2I rfl ?_;rw [BitVec.ofInt_natCast])|refine o1_conv_ui rfl (by omega) ?_|refine a5Y rfl (by omega) ?_)|(refine a0D .mul ?_;refine a7M rfl rfl ?_)|(refine a0D .shr ?_;(refine a9K rfl rfl (by decide) ?_;rw [k1]))|refine wK ?_|refine wL ?_ ?_|fail)
 refine a0E () rfl rfl rfl trivial ?_
 exact ent
def swapL (l:List Int) (i j:Nat):List Int:=(l.set i (l.getD j 0)).set j (l.getD i 0)
def someF (n:Nat) (s:BitVec 32):Nat→List Int × BitVec 32
 | 0=>((List.range n).map (fun j:Nat=>(j:Int)),s)
 | i+1=>(swapL (someF n s i).1 i (i+belR (mixR (srcNx (someF n s i).2)) (n - i)),srcNx (someF n s i).2)
theorem b0A (n:Nat) (s:BitVec 32):∀ i,(someF n s i).1.length=n
 | 0=>by simp [someF]
 | i+1=>by simp [someF,swapL,b0A n s i]
def rngI (n:Nat):List Int:=(List.range n).map (fun j:Nat=>(j:Int))
theorem rand_Some (H:List Hl) (b:Nat) (s:BitVec 32) (n k m:Nat) (h1:1≤n) (h2:n≤256) (hm:(k≤n∧m=k)∨(n≤k∧m=n)) (hk:1≤k) (hkb:k≤1000) :
  Spec Tryz.prog 138 [.pointer (some ⟨b,0,none⟩),I n,I k] (rB b s::H) (fun _:Option Addr × Nat=>True) (fun r => .slice r.1 m r.2) (fun r => .row 3 1 (.slice r.1 m r.2) m ((sortI ((someF n s m).1.take m)).map I)::rB b (someF n s m).2::H):=by
 refine sF (res:=fun r:Option Addr × Nat=>[.row 3 1 (.slice r.1 m r.2) m ((sortI ((someF n s m).1.take m)).map I),rB b (someF n s m).2]) [rB b s] H Tryz.func138 Tryz.ntmps138 fun W=>?_
 dsimp only [cA,nA]
 have hrl:(rngI n).length=n:=by simp [rngI]
 have hrp:(List.replicate n (0:Int)).length=n:=by simp
 repeat' (first|intro _|refine a0S rfl rfl ?_|(refine a0D .lss ?_;refine a3S rfl rfl (by omega) ?_)|(refine a0D .gtr ?_;refine a3H rfl rfl (by omega) ?_)|(refine a2W ?_;refine a5D (enc:=I) (0:Int) n rfl rfl rfl rfl rfl (by omega) (by omega) (fun b7=>?_))|refine wK ?_|refine wL ?_ ?_|fail)
 refine st_row (T:=3) (b:=b7) (m:=n) (cp:=n) (cs:=(List.replicate n (0:Int)).map I) (by simp) rfl (by omega) ?_
 refine a0Y (S:=Nat) (fun i=>[(0,.pointer (some ⟨b,0,none⟩)),(1,I n),(2,I k),(7,.slice (some ⟨b7,0,none⟩) n n),(24,I n),(25,I i)]) (fun i=>[.row 3 1 (.slice (some ⟨b7,0,none⟩) n n) n ((partL (rngI n) (List.replicate n (0:Int)) i).map I),rB b s,.any (stars H)]) (fun i=>i≤n) (fun i=>n - i) 0 (Nat.zero_le _) cv (by show Ent _ [.row 3 1 (.slice (some ⟨b7,0,none⟩) n n) n ((List.replicate n (0:Int)).map I),rB b s,.any (stars H)];exact ent) ?_
 intro i hi
 by_cases hlt:i<n
 ·obtain ⟨L,hL⟩:∃ L,partL (rngI n) (List.replicate n (0:Int)) i=L:=⟨_,rfl⟩
  have hLl:L.length=n:=by rw [←hL];simp [partL,rngI];omega
  have hst:L.set i (i:Int)=partL (rngI n) (List.replicate n (0:Int)) (i+1):=by
   rw [←hL]
   have:=a3V (a:=rngI n) (b:=List.replicate n (0:Int)) (i:=i) (by omega) (by omega)
   rw [←this]
   congr 1
   simp [rngI]
  rw [hL]
  repeat' (first|intro _|(refine a0J ?_;refine a2B (enc:=I) (ad:=some ⟨b7,0,none⟩) (c:=n) (xs:=L) i rfl rfl (a0I (T:=3)) hLl.symm rfl (by omega) ?_)|(refine a1N ?_;(refine a2R (ad:=some ⟨b7,0,none⟩) (c:=n) (m:=n) (l:=L) (v:=(i:Int)) I i rfl rfl hlt rfl ?_;rw [hst]))|refine wK ?_|refine wL ?_ ?_|fail)
  refine a0Q (i+1) (by show i+1≤n;omega) (by show n - (i+1)<n - i;omega) cv ?_
  exact ent
 ·have:i=n:=by omega
  subst this
  have hfull:partL (rngI i) (List.replicate i (0:Int)) i=(someF i s 0).1:=by
   show _=rngI i
   exact a3W (by omega) (by omega)
  rw [hfull]
  repeat' (first|intro _|(refine a1S ?_;first|refine b2W (r:=(m:Int)) rfl rfl (by omega) ?_|refine b6J (r:=(m:Int)) rfl rfl (by omega) ?_)|refine wK ?_|refine wL ?_ ?_|fail)
  refine a0Y (S:=Nat) (fun j=>[(0,.pointer (some ⟨b,0,none⟩)),(1,I i),(2,I m),(7,.slice (some ⟨b7,0,none⟩) i i),(37,I m),(38,I j)]) (fun j=>[.row 3 1 (.slice (some ⟨b7,0,none⟩) i i) i ((someF i s j).1.map I),rB b (someF i s j).2,.any (stars H)]) (fun j=>j≤m) (fun j=>m - j) 0 (Nat.zero_le _) cv ent ?_
  intro j hj
  by_cases hjt:j<m
  ·have hLl:=b0A i s j
   have hnx:someF i s (j+1)=(swapL (someF i s j).1 j (j+belR (mixR (srcNx (someF i s j).2)) (i - j)),srcNx (someF i s j).2):=rfl
   obtain ⟨L,hL⟩:∃ L,(someF i s j).1=L:=⟨_,rfl⟩
   obtain ⟨S,hS⟩:∃ S,(someF i s j).2=S:=⟨_,rfl⟩
   rw [hL,hS] at hnx
   rw [hL] at hLl
   rw [hL,hS]
   have hbl:=belR_lt (mixR (srcNx S)) (n:=i - j) (by omega) (by omega)
   obtain ⟨K,hK⟩:∃ K,belR (mixR (srcNx S)) (i - j)=K:=⟨_,rfl⟩
   have hbel:=fun (H':List Hl)=>rand_Below H' b S (i - j) (by omega) (by omega)
   rw [hK] at hnx hbl
   simp only [hK] at hbel
   have hsub:(i:Int) - (j:Int)=((i - j:Nat):Int):=by omega
   have hadd:(j:Int)+(K:Int)=((j+K:Nat):Int):=by omega
   obtain ⟨A,hA⟩:∃ A,j+K=A:=⟨_,rfl⟩
   rw [hA] at hnx hadd
   have hjl:j<L.length:=by omega
   have hAl:A<L.length:=by omega
   have hsw:(L.set j L[A]).set A L[j]=swapL L j A:=by
    unfold swapL
    rw [List.getD_eq_getElem?_getD,List.getD_eq_getElem?_getD,List.getElem?_eq_getElem hjl,List.getElem?_eq_getElem hAl]
    rfl
   repeat' (first|intro _|(refine a0D .sub ?_;(refine a3D rfl rfl (by omega) ?_;rw [hsub]))|refine a0G (b:=b) (fun _=>hbel _) rfl (fun _ _=>?_)|(refine a0D .add ?_;(refine a2F rfl rfl (by omega) ?_;rw [hadd]))|refine wK ?_|refine wL ?_ ?_|fail)
   refine a0H [(7,_),(9,_),(10,_)] rtL3_0 [13,15] [⟨[0,1,2,3,4,5,6,7,8,9,10,11,12],[],some 13⟩,⟨[14],[2,3],some 15⟩,⟨[],[],none⟩] mixed cv (by kernel_rfl) (by kernel_rfl) ?_
   repeat' (first|intro _|refine sg ?_|(refine a0Z ?_;refine po (by first|refine a2B (enc:=I) (ad:=some ⟨b7,0,none⟩) (c:=i) (xs:=L) j rfl rfl (a0I (T:=3)) hLl.symm rfl hjl fz|refine a2B (enc:=I) (ad:=some ⟨b7,0,none⟩) (c:=i) (xs:=L) A rfl rfl (a0I (T:=3)) hLl.symm rfl hAl fz|refine a2B (enc:=I) (ad:=some ⟨b7,0,none⟩) (c:=i) (xs:=L.set j L[A]) A rfl rfl (a0I (T:=3)) (by rw [List.length_set];exact hLl.symm) rfl (by rw [List.length_set];exact hAl) fz|fail) ?_)|(refine a1E ?_;refine po (by first|refine a1P (enc:=I) (ad:=some ⟨b7,0,none⟩) (c:=i) (xs:=L) j rfl (a0I (T:=3)) hjl fz|refine a1P (enc:=I) (ad:=some ⟨b7,0,none⟩) (c:=i) (xs:=L) A rfl (a0I (T:=3)) hAl fz|fail) ?_)|refine pw ?_|refine pdd ?_|(refine a1N ?_;first|refine a2R (ad:=some ⟨b7,0,none⟩) (c:=i) (m:=i) (l:=L) (v:=L[A]) I j rfl rfl (by omega) rfl ?_|(refine a2R (ad:=some ⟨b7,0,none⟩) (c:=i) (m:=i) (l:=L.set j L[A]) (v:=L[j]) I A rfl rfl (by omega) rfl ?_;rw [hsw]))|refine ow ?_|fail)
   all_goals dsimp only [cA,nA]
   repeat' (first|intro _|refine wK ?_|refine wL ?_ ?_|fail)
   refine a0Q (j+1) (by show j+1≤m;omega) (by show m - (j+1)<m - j;omega) cv ?_
   rw [hnx]
   exact ent
  ·have:j=m:=by omega
   subst this
   have hLl:=b0A i s j
   obtain ⟨L,hL⟩:∃ L,(someF i s j).1=L:=⟨_,rfl⟩
   rw [hL] at hLl ⊢
   have htk:j=(L.take j).length:=by rw [List.length_take];omega
   repeat' (first|intro _|(refine a3X ?_;(refine a7V (enc:=I) (xs:=L) j rfl rfl rfl hLl.symm (by omega) ?_;rw [←htk]))|(refine k_fn 182 ?_;(refine a0A (fun hh=>clone_I _ _ _ j (L.take j) ((a0I (T:=3) (ad:=some ⟨b7,0,none⟩) (c:=i) (l:=L) hh).cuth j (by omega)) htk (by omega)) rfl (fun ⟨a66,c66⟩ _=>?_);(try dsimp only)))|refine wK ?_|refine wL ?_ ?_|fail)
   refine a0V (.row 3 1 (.slice a66 j c66) j ((L.take j).map I)::[rB b (someF i s j).2,.any (stars H)]) (Ent.out ent) (fun _=>slices_SortN _ a66 c66 j (L.take j) htk (by omega) (by omega)) rfl (fun _ _=>?_)
   repeat' (first|intro _|refine wK ?_|refine wL ?_ ?_|fail)
   refine a0E (a66,c66) rfl rfl rfl trivial ?_
   exact ent
end Go.Dp
