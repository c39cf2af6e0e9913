/-
  Downpour, walked and proved: part 11.
  Conditions: those that stand in each theorem.
-/
import Derived.Test.YtcblcmdikhllbaaGreatDoorQTopEnough3
import Derived.Test.YtcblcmdikhllbaaGreatDoorQTopEnough10
import Derived.Test.YtcblcmdikhllbaaGreatDoorQTopEnough5
import Derived.Test.YtcblcmdikhllbaaGreatDoorQTopEnough6
import Derived.Test.YtcblcmdikhllbaaGreatDoorQTopEnough4
import Derived.Test.YtcblcmdikhllbaaGreatDoorQTopEnough2
import Derived.Test.YtcblcmdikhllbaaGreatDoorQTopEnough9
import Derived.Test.YtcblcmdikhllbaaGreatDoorQTopEnough8
set_option linter.unusedVariables false
set_option linter.unusedSimpArgs false
set_option maxHeartbeats 64000000
namespace Go.Dp
open Go.RowKit Go.Proofs
def c2B:List Row:=[tR 63 [] [],tR 64 [] [],tR 65 [1] [1],tR 66 [2] [1,2],tR 67 [3] [1,2,3],⟨none,[0,0],[0],none⟩,tR 3 [4,5,0,1,2,3,4,5] (rG 6)]
def RDg.sl (r:RDg):SlotD:=if r.is then ⟨num32 (r.fl.tk 4),((num32 ((r.fl.nx 4).tk 2)).toNat:Int),⟨none,0,((r.fl.nx 4).nx 2).tk 32⟩⟩ else ⟨0#32,0,⟨none,0,[]⟩⟩
def RDg.ns (r:RDg):RDg:=if r.is then ((r.fl.nx 4).nx 2).nx 32 else r.fl
def RDg.mn (r:RDg):ManD:=if r.is then (if (manO (r.fl.tk 44) (none,0)).may then manO (r.fl.tk 44) (none,0) else zM) else zM
def RDg.nm (r:RDg):RDg:=if r.is then r.fl.nx 44 else r.fl
def rd2 (l:List (BitVec 8)):RDg:=(RDg.mk l 0).nx 1
def rd3 (l:List (BitVec 8)):RDg:=(rd2 l).nx 1
def rd4 (l:List (BitVec 8)):RDg:=(rd3 l).nx 4
def rd5 (l:List (BitVec 8)):RDg:=(rd4 l).nx 4
def stO (l:List (BitVec 8)):StD:=⟨((num32 ((RDg.mk l 0).tk 1)).toNat:Int),((num32 ((rd2 l).tk 1)).toNat:Int),num32 ((rd3 l).tk 4),num32 ((rd4 l).tk 4),(rd5 l).sl,(rd5 l).ns.sl,(rd5 l).ns.ns.is,(rd5 l).ns.ns.mn⟩
def endO (l:List (BitVec 8)):RDg:=(rd5 l).ns.ns.nm
def prs (l:List (BitVec 8)):StD × Int:=if (endO l).e≠0 then (zS,(endO l).e) else if 0<(endO l).l.length∨(stO l).may=false then (zS,3) else (stO l,0)
theorem a2T {A:Hp→Prop} {H H':List Hl} [s:SAny H A H']:∀ w,sat w (stars H)→sat w A:=a6B s.s
theorem b2L (H:List Hl) (ad:Option Addr) (c:Nat) (l:List (BitVec 8)) (h:Rs (stars H) B ad c l) (p:StD × Int) (hp:prs l=p) :
  Spec Tryz.prog 47 [.slice ad l.length c] H (fun _:PA × PA × PA=>True) (fun r => .tuple #[(copyS p.1 r.1 r.2.1 r.2.2).V,I p.2]) (fun r=>rowL r.1 p.1.s0.h.l::rowL r.2.1 p.1.s1.h.l::rowL r.2.2 p.1.m.h.l::H):=by
 refine sP (res:=fun r:PA × PA × PA=>[rowL r.1 p.1.s0.h.l,rowL r.2.1 p.1.s1.h.l,rowL r.2.2 p.1.m.h.l]) H Tryz.func47 Tryz.ntmps47 fun W=>?_
 have hs0:RdOk (stars H) ⟨ad,c,l⟩ ⟨l,0⟩:=⟨h,fun _=>rfl⟩
 obtain ⟨va,hva⟩:∃ v,num32 ((RDg.mk l 0).tk 1)=v:=⟨_,rfl⟩
 obtain ⟨vt,hvt⟩:∃ v,num32 ((rd2 l).tk 1)=v:=⟨_,rfl⟩
 obtain ⟨vf,hvf⟩:∃ v,num32 ((rd3 l).tk 4)=v:=⟨_,rfl⟩
 obtain ⟨vg,hvg⟩:∃ v,num32 ((rd4 l).tk 4)=v:=⟨_,rfl⟩
 repeat' (first|intro _|refine cwb ?_|(refine k_fn 93 ?_;first|(refine a0G (fun _=>a4E _ (stars H) a2T br 1 ⟨ad,c,l⟩ ⟨l,0⟩ (rd2 l) va hs0 (by omega) rfl hva) rfl (fun s1 hk1=>?_))|(refine a0G (fun _=>a4E _ (stars H) a2T br 1 s1 (rd2 l) (rd3 l) vt hk1 (by omega) rfl hvt) rfl (fun s2 hk2=>?_))|(refine a0G (fun _=>a4E _ (stars H) a2T br 4 s2 (rd3 l) (rd4 l) vf hk2 (by omega) rfl hvf) rfl (fun s3 hk3=>?_))|(refine a0G (fun _=>a4E _ (stars H) a2T br 4 s3 (rd4 l) (rd5 l) vg hk3 (by omega) rfl hvg) rfl (fun s4 hk4=>?_)))|(refine k_box ?_;refine a1V (T:=175) rfl rfl (fun br=>?_))|refine ow ?_|refine wL ?_ ?_|fail)
 rename_i b2 b5
 obtain ⟨r6,hr6⟩:∃ t,(rd5 l).ns=t:=⟨_,rfl⟩
 obtain ⟨x0,hx0⟩:∃ t,(rd5 l).sl=t:=⟨_,rfl⟩
 obtain ⟨r7,hr7⟩:∃ t,r6.ns=t:=⟨_,rfl⟩
 obtain ⟨x1,hx1⟩:∃ t,r6.sl=t:=⟨_,rfl⟩
 obtain ⟨r9,hr9⟩:∃ t,r7.nm=t:=⟨_,rfl⟩
 obtain ⟨m,hm⟩:∃ t,r7.mn=t:=⟨_,rfl⟩
 obtain ⟨on,hon⟩:∃ t,r7.is=t:=⟨_,rfl⟩
 have hend:endO l=r9:=by rw [endO,hr6,hr7,hr9]
 have hst:stO l=⟨(va.toNat:Int),(vt.toNat:Int),vf,vg,x0,x1,on,m⟩:=by rw [stO,hva,hvt,hvf,hvg,hx0,hr6,hx1,hr7,hon,hm]
 rw [prs,hend,hst] at hp
 clear hst hend
 refine b8B ?_
 refine a2O 2 ?_
 repeat' (first|intro _|refine cwb ?_|refine ow ?_|refine wL ?_ ?_|fail)
 refine b5T (X:={y:PA × SlD (BitVec 8) // RdOk (stars H) y.2 r6}) (fun y=>[(2,.pointer (some ⟨b2,0,none⟩)),(4,.pointer (some ⟨br,0,none⟩)),(5,.pointer (some ⟨b5,0,none⟩)),(24,I 0)]) (fun y=>[.box b5 51 [I va.toNat,I vt.toNat,W4 vf,W4 vg,W4 x0.v,I x0.n,.slice y.1.1.1 x0.h.l.length y.1.1.2,W4 0#32,I 0,.slice none 0 0,.bool false,W4 0#32,W4 0#32,I 0,I 0,I 0,.slice none 0 0],rdBox br y.1.2 r6,.box b2 51 zS.c,rowL y.1.1 x0.h.l,.any (stars H)]) ?restA ?walkA
 case walkA =>
  intro k' via
  cases hi:(rd5 l).is
  ·have hf:(rd5 l).fl=r6:=by rw [←hr6,RDg.ns,if_neg (by simp [hi])]
   have hx:x0=⟨0#32,0,⟨none,0,[]⟩⟩:=by rw [←hx0,RDg.sl,if_neg (by simp [hi])]
   clear hr6 hx0
   subst hx
   repeat' (first|intro _|(refine k_fn 94 ?_;(refine a0G (fun _=>rd_is _ (stars H) a2T br s4 (rd5 l) r6 false hk4 hf hi) rfl (fun s9 hk9=>?_)))|refine wK ?_|refine wL ?_ ?_|fail)
   refine b4Q (a1A 5 B) ?_
   exact via ⟨((none,0),s9),hk9⟩ _ _ cv ent
  ·obtain ⟨ra,hra⟩:∃ t,(rd5 l).fl=t:=⟨_,rfl⟩
   obtain ⟨rb,hrb⟩:∃ t,ra.nx 4=t:=⟨_,rfl⟩
   obtain ⟨rc,hrc⟩:∃ t,rb.nx 2=t:=⟨_,rfl⟩
   obtain ⟨v0,hv0⟩:∃ t,num32 (ra.tk 4)=t:=⟨_,rfl⟩
   obtain ⟨n0,hn0⟩:∃ t,num32 (rb.tk 2)=t:=⟨_,rfl⟩
   obtain ⟨t0,ht0⟩:∃ t,rc.tk 32=t:=⟨_,rfl⟩
   have hf:rc.nx 32=r6:=by rw [←hr6,RDg.ns,if_pos hi,hra,hrb,hrc]
   have hx:x0=⟨v0,(n0.toNat:Int),⟨none,0,t0⟩⟩:=by rw [←hx0,RDg.sl,if_pos hi,hra,hrb,hrc,hv0,hn0,ht0]
   clear hr6 hx0
   subst hx
   repeat' (first|intro _|(refine k_fn 94 ?_;(refine a0G (fun _=>rd_is _ (stars H) a2T br s4 (rd5 l) ra true hk4 hra hi) rfl (fun s6 hk6=>?_)))|(refine k_fn 93 ?_;first|(refine a0G (fun _=>a4E _ (stars H) a2T br 4 s6 ra rb v0 hk6 (by omega) hrb hv0) rfl (fun s7 hk7=>?_))|(refine a0G (fun _=>a4E _ (stars H) a2T br 2 s7 rb rc n0 hk7 (by omega) hrc hn0) rfl (fun s8 hk8=>?_)))|(refine k_fn 95 ?_;(refine a0G (fun _=>a7H _ (stars H) a2T br 32 s8 rc r6 t0 hk8 (by omega) hf ht0) rfl (fun ⟨⟨a9,c9⟩,s9⟩ hk9=>?_);dsimp only at hk9 ⊢))|(refine a0J ?_;refine a1C 0 4 rfl rfl rfl (by decide) rfl ?_)|refine wK ?_|refine wL ?_ ?_|fail)
   exact via ⟨((a9,c9),s9),hk9⟩ _ _ cv ent
 case restA =>
  rintro ⟨⟨⟨a0,c0⟩,s5⟩,hk5⟩
  dsimp only at hk5 ⊢
  clear hr6 hx0
  repeat' (first|intro _|refine cwb ?_|refine ow ?_|refine wL ?_ ?_|fail)
  refine b5T (X:={y:PA × SlD (BitVec 8) // RdOk (stars H) y.2 r7}) (fun y=>[(2,.pointer (some ⟨b2,0,none⟩)),(4,.pointer (some ⟨br,0,none⟩)),(5,.pointer (some ⟨b5,0,none⟩)),(24,I (0+1))]) (fun y=>[.box b5 51 [I va.toNat,I vt.toNat,W4 vf,W4 vg,W4 x0.v,I x0.n,.slice a0 x0.h.l.length c0,W4 x1.v,I x1.n,.slice y.1.1.1 x1.h.l.length y.1.1.2,.bool false,W4 0#32,W4 0#32,I 0,I 0,I 0,.slice none 0 0],rdBox br y.1.2 r7,.box b2 51 zS.c,rowL (a0,c0) x0.h.l,rowL y.1.1 x1.h.l,.any (stars H)]) ?restB ?walkB
  case walkB =>
   intro k' via
   cases hi:(r6).is
   ·have hf:(r6).fl=r7:=by rw [←hr7,RDg.ns,if_neg (by simp [hi])]
    have hx:x1=⟨0#32,0,⟨none,0,[]⟩⟩:=by rw [←hx1,RDg.sl,if_neg (by simp [hi])]
    clear hr7 hx1
    subst hx
    repeat' (first|intro _|(refine k_fn 94 ?_;(refine a0G (fun _=>rd_is _ (stars H) a2T br s5 (r6) r7 false hk5 hf hi) rfl (fun s9 hk9=>?_)))|refine wK ?_|refine wL ?_ ?_|fail)
    refine b4Q (a1A 5 B) ?_
    exact via ⟨((none,0),s9),hk9⟩ _ _ cv ent
   ·obtain ⟨ra,hra⟩:∃ t,(r6).fl=t:=⟨_,rfl⟩
    obtain ⟨rb,hrb⟩:∃ t,ra.nx 4=t:=⟨_,rfl⟩
    obtain ⟨rc,hrc⟩:∃ t,rb.nx 2=t:=⟨_,rfl⟩
    obtain ⟨v0,hv0⟩:∃ t,num32 (ra.tk 4)=t:=⟨_,rfl⟩
    obtain ⟨n0,hn0⟩:∃ t,num32 (rb.tk 2)=t:=⟨_,rfl⟩
    obtain ⟨t0,ht0⟩:∃ t,rc.tk 32=t:=⟨_,rfl⟩
    have hf:rc.nx 32=r7:=by rw [←hr7,RDg.ns,if_pos hi,hra,hrb,hrc]
    have hx:x1=⟨v0,(n0.toNat:Int),⟨none,0,t0⟩⟩:=by rw [←hx1,RDg.sl,if_pos hi,hra,hrb,hrc,hv0,hn0,ht0]
    clear hr7 hx1
    subst hx
    repeat' (first|intro _|(refine k_fn 94 ?_;(refine a0G (fun _=>rd_is _ (stars H) a2T br s5 (r6) ra true hk5 hra hi) rfl (fun s6 hk6=>?_)))|(refine k_fn 93 ?_;first|(refine a0G (fun _=>a4E _ (stars H) a2T br 4 s6 ra rb v0 hk6 (by omega) hrb hv0) rfl (fun s7 hk7=>?_))|(refine a0G (fun _=>a4E _ (stars H) a2T br 2 s7 rb rc n0 hk7 (by omega) hrc hn0) rfl (fun s8 hk8=>?_)))|(refine k_fn 95 ?_;(refine a0G (fun _=>a7H _ (stars H) a2T br 32 s8 rc r7 t0 hk8 (by omega) hf ht0) rfl (fun ⟨⟨a9,c9⟩,s9⟩ hk9=>?_);dsimp only at hk9 ⊢))|(refine a0J ?_;refine a1C 1 7 rfl rfl rfl (by decide) rfl ?_)|refine wK ?_|refine wL ?_ ?_|fail)
    exact via ⟨((a9,c9),s9),hk9⟩ _ _ cv ent
  case restB =>
   rintro ⟨⟨⟨a1,c1⟩,s6⟩,hk6⟩
   dsimp only at hk6 ⊢
   clear hr7 hx1
   cases on with
   | false =>
    have hf:r7.fl=r9:=by rw [←hr9,RDg.nm,if_neg (by simp [hon])]
    have hz:m=zM:=by rw [←hm,RDg.mn,if_neg (by simp [hon])]
    clear hr9 hm
    subst hz
    by_cases he:r9.e=0
    ·rw [if_neg (by simp [he])] at hp
     by_cases hlen:0<r9.l.length
     ·rw [if_pos (.inl hlen)] at hp
      subst hp
      repeat' (first|intro _|(refine k_fn 94 ?_;(refine a0G (fun _=>rd_is _ (stars H) a2T br s6 r7 r9 false hk6 hf hon) rfl (fun s9 hk9=>?_)))|(refine a0D .gtr ?_;refine a4T rfl rfl (by have:=hk9.eq he;rw [this];omega) ?_)|refine wK ?_|refine wL ?_ ?_|fail)
      refine a2A (a1A 5 B) ?_
      refine a2A (a1A 5 B) ?_
      refine a2A (a1A 5 B) ?_
      refine a0N ((none,0),(none,0),(none,0)) rfl rfl rfl rfl rfl trivial ?_
      exact ent
     ·cases hmay:StD.may ⟨(va.toNat:Int),(vt.toNat:Int),vf,vg,x0,x1,false,zM⟩
      ·rw [if_pos (.inr hmay)] at hp
       subst hp
       repeat' (first|intro _|(refine k_fn 94 ?_;(refine a0G (fun _=>rd_is _ (stars H) a2T br s6 r7 r9 false hk6 hf hon) rfl (fun s9 hk9=>?_)))|(refine a0D .gtr ?_;refine a3H rfl rfl (by have:=hk9.eq he;rw [this];omega) ?_)|(refine k_fn 97 ?_;(refine a0A (fun _=>(a4D _ (copyS ⟨(va.toNat:Int),(vt.toNat:Int),vf,vg,x0,x1,false,zM⟩ (a0,c0) (a1,c1) (none,0))).bv (b:=false) (by rw [a3P];exact hmay)) rfl (fun _ _=>?_)))|refine wK ?_|refine wL ?_ ?_|fail)
       refine a2A (a1A 5 B) ?_
       refine a2A (a1A 5 B) ?_
       refine a2A (a1A 5 B) ?_
       refine a0N ((none,0),(none,0),(none,0)) rfl rfl rfl rfl rfl trivial ?_
       exact ent
      ·have hng : ¬ (0<r9.l.length∨StD.may ⟨(va.toNat:Int),(vt.toNat:Int),vf,vg,x0,x1,false,zM⟩=false):=fun h=>by
        rcases h with h|h
        ·exact hlen h
        ·rw [hmay] at h;cases h
       rw [if_neg hng] at hp
       subst hp
       repeat' (first|intro _|(refine k_fn 94 ?_;(refine a0G (fun _=>rd_is _ (stars H) a2T br s6 r7 r9 false hk6 hf hon) rfl (fun s9 hk9=>?_)))|(refine a0D .gtr ?_;refine a3H rfl rfl (by have:=hk9.eq he;rw [this];omega) ?_)|(refine k_fn 97 ?_;(refine a0A (fun _=>(a4D _ (copyS ⟨(va.toNat:Int),(vt.toNat:Int),vf,vg,x0,x1,false,zM⟩ (a0,c0) (a1,c1) (none,0))).bv (b:=true) (by rw [a3P];exact hmay)) rfl (fun _ _=>?_)))|refine wK ?_|refine wL ?_ ?_|fail)
       refine a2A (a1A 5 B) ?_
       refine a0N ((a0,c0),(a1,c1),(none,0)) rfl rfl rfl rfl rfl trivial ?_
       exact ent
    ·rw [if_pos he] at hp
     subst hp
     repeat' (first|intro _|(refine k_fn 94 ?_;(refine a0G (fun _=>rd_is _ (stars H) a2T br s6 r7 r9 false hk6 hf hon) rfl (fun s9 hk9=>?_)))|refine wK ?_|refine wL ?_ ?_|fail)
     refine a0H [(4,_),(2,_)] c2B [5] [⟨[0,1,2,3,4],[],some 5⟩,⟨[6],[1,2,3,4],none⟩] mixed cv (by kernel_rfl) (by kernel_rfl) ?_
     repeat' (first|intro _|refine sg ?_|refine pw ?_|refine pdd ?_|refine ow ?_|fail)
     all_goals dsimp only [cA,nA]
     repeat' (first|intro _|refine wK ?_|refine wL ?_ ?_|fail)
     refine a2A (a1A 5 B) ?_
     refine a2A (a1A 5 B) ?_
     refine a2A (a1A 5 B) ?_
     refine a0N ((none,0),(none,0),(none,0)) rfl rfl rfl rfl rfl trivial ?_
     exact ent
   | true =>
    obtain ⟨ra,hra⟩:∃ t,r7.fl=t:=⟨_,rfl⟩
    obtain ⟨t0,ht0⟩:∃ t,ra.tk 44=t:=⟨_,rfl⟩
    have htl:t0.length=44:=by rw [←ht0];exact tk_len _ _
    have hf:ra.nx 44=r9:=by rw [←hr9,RDg.nm,if_pos hon,hra]
    cases hq:(manO t0 (none,0)).may with
    | true =>
     have hz:m=manO t0 (none,0):=by rw [←hm,RDg.mn,if_pos hon,hra,ht0,if_pos hq]
     clear hr9 hm
     subst hz
     by_cases he:r9.e=0
     ·rw [if_neg (by simp [he])] at hp
      by_cases hlen:0<r9.l.length
      ·rw [if_pos (.inl hlen)] at hp
       subst hp
       repeat' (first|intro _|(refine k_fn 94 ?_;(refine a0G (fun _=>rd_is _ (stars H) a2T br s6 r7 ra true hk6 hra hon) rfl (fun s7 hk7=>?_)))|(refine k_fn 95 ?_;(refine a0G (fun _=>a7H _ (stars H) a2T br 44 s7 ra r9 t0 hk7 (by omega) hf ht0) rfl (fun ⟨⟨a8,c8⟩,s9⟩ hk9=>?_);dsimp only at hk9 ⊢))|(refine k_fn 96 ?_;(refine a0A (fun hh=>b6N _ _ _ t0 (a0I (ad:=a8) (c:=c8) hh) htl hq) rfl (fun ⟨a9,c9⟩ _=>?_);dsimp only [manO,ManD.V,ManD.c]))|(refine a0D .gtr ?_;refine a4T rfl rfl (by have:=hk9.eq he;rw [this];omega) ?_)|refine wK ?_|refine wL ?_ ?_|fail)
       refine a2A (a1A 5 B) ?_
       refine a2A (a1A 5 B) ?_
       refine a2A (a1A 5 B) ?_
       refine a0N ((none,0),(none,0),(none,0)) rfl rfl rfl rfl rfl trivial ?_
       exact ent
      ·cases hmay:StD.may ⟨(va.toNat:Int),(vt.toNat:Int),vf,vg,x0,x1,true,manO t0 (none,0)⟩
       ·rw [if_pos (.inr hmay)] at hp
        subst hp
        repeat' (first|intro _|(refine k_fn 94 ?_;(refine a0G (fun _=>rd_is _ (stars H) a2T br s6 r7 ra true hk6 hra hon) rfl (fun s7 hk7=>?_)))|(refine k_fn 95 ?_;(refine a0G (fun _=>a7H _ (stars H) a2T br 44 s7 ra r9 t0 hk7 (by omega) hf ht0) rfl (fun ⟨⟨a8,c8⟩,s9⟩ hk9=>?_);dsimp only at hk9 ⊢))|(refine k_fn 96 ?_;(refine a0A (fun hh=>b6N _ _ _ t0 (a0I (ad:=a8) (c:=c8) hh) htl hq) rfl (fun ⟨a9,c9⟩ _=>?_);dsimp only [manO,ManD.V,ManD.c]))|(refine a0D .gtr ?_;refine a3H rfl rfl (by have:=hk9.eq he;rw [this];omega) ?_)|(refine k_fn 97 ?_;(refine a0A (fun _=>(a4D _ (copyS ⟨(va.toNat:Int),(vt.toNat:Int),vf,vg,x0,x1,true,manO t0 (none,0)⟩ (a0,c0) (a1,c1) (a9,c9))).bv (b:=false) (by rw [a3P];exact hmay)) rfl (fun _ _=>?_)))|refine wK ?_|refine wL ?_ ?_|fail)
        refine a2A (a1A 5 B) ?_
        refine a2A (a1A 5 B) ?_
        refine a2A (a1A 5 B) ?_
        refine a0N ((none,0),(none,0),(none,0)) rfl rfl rfl rfl rfl trivial ?_
        exact ent
       ·have hng : ¬ (0<r9.l.length∨StD.may ⟨(va.toNat:Int),(vt.toNat:Int),vf,vg,x0,x1,true,manO t0 (none,0)⟩=false):=fun h=>by
         rcases h with h|h
         ·exact hlen h
         ·rw [hmay] at h;cases h
        rw [if_neg hng] at hp
        subst hp
        repeat' (first|intro _|(refine k_fn 94 ?_;(refine a0G (fun _=>rd_is _ (stars H) a2T br s6 r7 ra true hk6 hra hon) rfl (fun s7 hk7=>?_)))|(refine k_fn 95 ?_;(refine a0G (fun _=>a7H _ (stars H) a2T br 44 s7 ra r9 t0 hk7 (by omega) hf ht0) rfl (fun ⟨⟨a8,c8⟩,s9⟩ hk9=>?_);dsimp only at hk9 ⊢))|(refine k_fn 96 ?_;(refine a0A (fun hh=>b6N _ _ _ t0 (a0I (ad:=a8) (c:=c8) hh) htl hq) rfl (fun ⟨a9,c9⟩ _=>?_);dsimp only [manO,ManD.V,ManD.c]))|(refine a0D .gtr ?_;refine a3H rfl rfl (by have:=hk9.eq he;rw [this];omega) ?_)|(refine k_fn 97 ?_;(refine a0A (fun _=>(a4D _ (copyS ⟨(va.toNat:Int),(vt.toNat:Int),vf,vg,x0,x1,true,manO t0 (none,0)⟩ (a0,c0) (a1,c1) (a9,c9))).bv (b:=true) (by rw [a3P];exact hmay)) rfl (fun _ _=>?_)))|refine wK ?_|refine wL ?_ ?_|fail)
        refine a0N ((a0,c0),(a1,c1),(a9,c9)) rfl rfl rfl rfl rfl trivial ?_
        exact ent
     ·rw [if_pos he] at hp
      subst hp
      repeat' (first|intro _|(refine k_fn 94 ?_;(refine a0G (fun _=>rd_is _ (stars H) a2T br s6 r7 ra true hk6 hra hon) rfl (fun s7 hk7=>?_)))|(refine k_fn 95 ?_;(refine a0G (fun _=>a7H _ (stars H) a2T br 44 s7 ra r9 t0 hk7 (by omega) hf ht0) rfl (fun ⟨⟨a8,c8⟩,s9⟩ hk9=>?_);dsimp only at hk9 ⊢))|(refine k_fn 96 ?_;(refine a0A (fun hh=>b6N _ _ _ t0 (a0I (ad:=a8) (c:=c8) hh) htl hq) rfl (fun ⟨a9,c9⟩ _=>?_);dsimp only [manO,ManD.V,ManD.c]))|refine wK ?_|refine wL ?_ ?_|fail)
      refine a0H [(4,_),(2,_)] c2B [5] [⟨[0,1,2,3,4],[],some 5⟩,⟨[6],[1,2,3,4],none⟩] mixed cv (by kernel_rfl) (by kernel_rfl) ?_
      repeat' (first|intro _|refine sg ?_|refine pw ?_|refine pdd ?_|refine ow ?_|fail)
      all_goals dsimp only [cA,nA]
      repeat' (first|intro _|refine wK ?_|refine wL ?_ ?_|fail)
      refine a2A (a1A 5 B) ?_
      refine a2A (a1A 5 B) ?_
      refine a2A (a1A 5 B) ?_
      refine a0N ((none,0),(none,0),(none,0)) rfl rfl rfl rfl rfl trivial ?_
      exact ent
    | false =>
     have hz:m=zM:=by rw [←hm,RDg.mn,if_pos hon,hra,ht0,if_neg (by simp [hq])]
     clear hr9 hm
     subst hz
     by_cases he:r9.e=0
     ·rw [if_neg (by simp [he])] at hp
      by_cases hlen:0<r9.l.length
      ·rw [if_pos (.inl hlen)] at hp
       subst hp
       repeat' (first|intro _|(refine k_fn 94 ?_;(refine a0G (fun _=>rd_is _ (stars H) a2T br s6 r7 ra true hk6 hra hon) rfl (fun s7 hk7=>?_)))|(refine k_fn 95 ?_;(refine a0G (fun _=>a7H _ (stars H) a2T br 44 s7 ra r9 t0 hk7 (by omega) hf ht0) rfl (fun ⟨⟨a8,c8⟩,s9⟩ hk9=>?_);dsimp only at hk9 ⊢))|(refine k_fn 96 ?_;(refine a0A (fun hh=>a8L _ _ _ t0 (a0I (ad:=a8) (c:=c8) hh) htl hq) rfl (fun _ _=>?_);dsimp only [zM,ManD.V,ManD.c]))|(refine a0D .gtr ?_;refine a4T rfl rfl (by have:=hk9.eq he;rw [this];omega) ?_)|refine wK ?_|refine wL ?_ ?_|fail)
       refine a2A (a1A 5 B) ?_
       refine a2A (a1A 5 B) ?_
       refine a2A (a1A 5 B) ?_
       refine a0N ((none,0),(none,0),(none,0)) rfl rfl rfl rfl rfl trivial ?_
       exact ent
      ·cases hmay:StD.may ⟨(va.toNat:Int),(vt.toNat:Int),vf,vg,x0,x1,true,zM⟩
       ·rw [if_pos (.inr hmay)] at hp
        subst hp
        repeat' (first|intro _|(refine k_fn 94 ?_;(refine a0G (fun _=>rd_is _ (stars H) a2T br s6 r7 ra true hk6 hra hon) rfl (fun s7 hk7=>?_)))|(refine k_fn 95 ?_;(refine a0G (fun _=>a7H _ (stars H) a2T br 44 s7 ra r9 t0 hk7 (by omega) hf ht0) rfl (fun ⟨⟨a8,c8⟩,s9⟩ hk9=>?_);dsimp only at hk9 ⊢))|(refine k_fn 96 ?_;(refine a0A (fun hh=>a8L _ _ _ t0 (a0I (ad:=a8) (c:=c8) hh) htl hq) rfl (fun _ _=>?_);dsimp only [zM,ManD.V,ManD.c]))|(refine a0D .gtr ?_;refine a3H rfl rfl (by have:=hk9.eq he;rw [this];omega) ?_)|(refine k_fn 97 ?_;(refine a0A (fun _=>(a4D _ (copyS ⟨(va.toNat:Int),(vt.toNat:Int),vf,vg,x0,x1,true,zM⟩ (a0,c0) (a1,c1) (none,0))).bv (b:=false) (by rw [a3P];exact hmay)) rfl (fun _ _=>?_)))|refine wK ?_|refine wL ?_ ?_|fail)
        refine a2A (a1A 5 B) ?_
        refine a2A (a1A 5 B) ?_
        refine a2A (a1A 5 B) ?_
        refine a0N ((none,0),(none,0),(none,0)) rfl rfl rfl rfl rfl trivial ?_
        exact ent
       ·have hng : ¬ (0<r9.l.length∨StD.may ⟨(va.toNat:Int),(vt.toNat:Int),vf,vg,x0,x1,true,zM⟩=false):=fun h=>by
         rcases h with h|h
         ·exact hlen h
         ·rw [hmay] at h;cases h
        rw [if_neg hng] at hp
        subst hp
        repeat' (first|intro _|(refine k_fn 94 ?_;(refine a0G (fun _=>rd_is _ (stars H) a2T br s6 r7 ra true hk6 hra hon) rfl (fun s7 hk7=>?_)))|(refine k_fn 95 ?_;(refine a0G (fun _=>a7H _ (stars H) a2T br 44 s7 ra r9 t0 hk7 (by omega) hf ht0) rfl (fun ⟨⟨a8,c8⟩,s9⟩ hk9=>?_);dsimp only at hk9 ⊢))|(refine k_fn 96 ?_;(refine a0A (fun hh=>a8L _ _ _ t0 (a0I (ad:=a8) (c:=c8) hh) htl hq) rfl (fun _ _=>?_);dsimp only [zM,ManD.V,ManD.c]))|(refine a0D .gtr ?_;refine a3H rfl rfl (by have:=hk9.eq he;rw [this];omega) ?_)|(refine k_fn 97 ?_;(refine a0A (fun _=>(a4D _ (copyS ⟨(va.toNat:Int),(vt.toNat:Int),vf,vg,x0,x1,true,zM⟩ (a0,c0) (a1,c1) (none,0))).bv (b:=true) (by rw [a3P];exact hmay)) rfl (fun _ _=>?_)))|refine wK ?_|refine wL ?_ ?_|fail)
        refine a2A (a1A 5 B) ?_
        refine a0N ((a0,c0),(a1,c1),(none,0)) rfl rfl rfl rfl rfl trivial ?_
        exact ent
     ·rw [if_pos he] at hp
      subst hp
      repeat' (first|intro _|(refine k_fn 94 ?_;(refine a0G (fun _=>rd_is _ (stars H) a2T br s6 r7 ra true hk6 hra hon) rfl (fun s7 hk7=>?_)))|(refine k_fn 95 ?_;(refine a0G (fun _=>a7H _ (stars H) a2T br 44 s7 ra r9 t0 hk7 (by omega) hf ht0) rfl (fun ⟨⟨a8,c8⟩,s9⟩ hk9=>?_);dsimp only at hk9 ⊢))|(refine k_fn 96 ?_;(refine a0A (fun hh=>a8L _ _ _ t0 (a0I (ad:=a8) (c:=c8) hh) htl hq) rfl (fun _ _=>?_);dsimp only [zM,ManD.V,ManD.c]))|refine wK ?_|refine wL ?_ ?_|fail)
      refine a0H [(4,_),(2,_)] c2B [5] [⟨[0,1,2,3,4],[],some 5⟩,⟨[6],[1,2,3,4],none⟩] mixed cv (by kernel_rfl) (by kernel_rfl) ?_
      repeat' (first|intro _|refine sg ?_|refine pw ?_|refine pdd ?_|refine ow ?_|fail)
      all_goals dsimp only [cA,nA]
      repeat' (first|intro _|refine wK ?_|refine wL ?_ ?_|fail)
      refine a2A (a1A 5 B) ?_
      refine a2A (a1A 5 B) ?_
      refine a2A (a1A 5 B) ?_
      refine a0N ((none,0),(none,0),(none,0)) rfl rfl rfl rfl rfl trivial ?_
      exact ent
theorem nx_app (p q:List (BitVec 8)):(RDg.mk (p++q) 0).nx p.length=⟨q,0⟩∧(RDg.mk (p++q) 0).tk p.length=p:=by
 obtain ⟨h1,h2⟩:=nx_ok (r:=⟨p++q,0⟩) rfl (n:=p.length) (by simp)
 rw [h1,h2]
 simp
theorem a9M {p:List (BitVec 8)} {n:Nat} (h:p.length=n) (q:List (BitVec 8)):(RDg.mk (p++q) 0).nx n=⟨q,0⟩∧(RDg.mk (p++q) 0).tk n=p:=by
 subst h;exact nx_app p q
theorem b9O (b:BitVec 8) (q:List (BitVec 8)):(RDg.mk (b::q) 0).fl=(if 1<b.toNat then ⟨[],3⟩ else ⟨q,0⟩)∧(RDg.mk (b::q) 0).is=decide (b.toNat=1):=by
 obtain ⟨h1,h2⟩:=a9M (p:=[b]) (n:=1) rfl q
 simp only [List.singleton_append] at h1 h2
 have hf:(RDg.mk (b::q) 0).fl=(if 1<b.toNat then ⟨[],3⟩ else ⟨q,0⟩):=by
  unfold RDg.fl
  rw [h1,h2,b2Y]
  by_cases hb:1<b.toNat
  ·rw [if_pos ⟨hb,rfl⟩,if_pos hb]
  ·rw [if_neg (fun h=>hb h.1),if_neg hb]
 refine ⟨hf,?_⟩
 unfold RDg.is
 rw [hf,h2,b2Y]
 by_cases hb:1<b.toNat
 ·rw [if_pos hb,decide_eq_false (by decide),decide_eq_false (by omega)];rfl
 ·rw [if_neg hb,decide_eq_true (by rfl)];rfl
def SlotD.plain (x:SlotD):SlotD:=⟨x.v,x.n,⟨none,0,x.h.l⟩⟩
theorem c0M {v:BitVec 32} (h:v.toNat=0):v=0#32:=BitVec.eq_of_toNat_eq (by simpa using h)
theorem sl_by {x:SlotD} (hx:x.something=true∨x.nothing=true) (q:List (BitVec 8)):(RDg.mk (x.by++q) 0).sl=x.plain∧(RDg.mk (x.by++q) 0).ns=⟨q,0⟩:=by
 cases hn:x.nothing
 ·have hs:x.something=true:=by
   rcases hx with h|h
   ·exact h
   ·rw [hn] at h;cases h
  simp only [SlotD.something,decide_eq_true_eq] at hs
  have e:x.by++q=1#8::(be4 x.v++(be2 x.n++(x.h.l++q))):=by rw [b1U hn];simp
  rw [e]
  obtain ⟨f1,f2⟩:=b9O 1#8 (be4 x.v++(be2 x.n++(x.h.l++q)))
  have f1:(RDg.mk (1#8::(be4 x.v++(be2 x.n++(x.h.l++q)))) 0).fl=⟨be4 x.v++(be2 x.n++(x.h.l++q)),0⟩:=by rw [f1];rfl
  have f2:(RDg.mk (1#8::(be4 x.v++(be2 x.n++(x.h.l++q)))) 0).is=true:=by rw [f2];rfl
  obtain ⟨a1,a2⟩:=a9M (p:=be4 x.v) (n:=4) rfl (be2 x.n++(x.h.l++q))
  obtain ⟨b1,b2⟩:=a9M (p:=be2 x.n) (n:=2) rfl (x.h.l++q)
  obtain ⟨c1,c2⟩:=a9M (p:=x.h.l) (n:=32) hs.1 q
  rw [RDg.sl,RDg.ns,if_pos f2,if_pos f2,f1,a1,a2,b1,b2,c1,c2,a3F,b2Z x.n (by omega) (by omega)]
  exact ⟨rfl,rfl⟩
 ·have e:x.by++q=0#8::q:=by rw [b1A hn];rfl
  rw [e]
  obtain ⟨f1,f2⟩:=b9O 0#8 q
  have f1:(RDg.mk (0#8::q) 0).fl=⟨q,0⟩:=by rw [f1];rfl
  have f2:(RDg.mk (0#8::q) 0).is=false:=by rw [f2];rfl
  rw [RDg.sl,RDg.ns,if_neg (by simp [f2]),if_neg (by simp [f2]),f1]
  simp only [SlotD.nothing,decide_eq_true_eq] at hn
  refine ⟨?_,rfl⟩
  rw [SlotD.plain,c0M hn.1,hn.2.1,List.length_eq_zero_iff.1 hn.2.2]
theorem may_nums {m:ManD} (h:m.may=true):1≤m.n∧m.n≤512∧1≤m.z∧m.z≤16∧0≤m.p∧m.p≤16∧m.h.l.length=32:=by
 have hn:=man_may h
 simp only [ManD.may,mayP,Bool.and_eq_true,decide_eq_true_eq] at h
 omega
theorem manO_by' {m:ManD} (h:m.may=true):m.by.length=44∧manO m.by (none,0)=⟨m.s,m.v,m.n,m.z,m.p,⟨none,0,m.h.l⟩⟩:=by
 obtain ⟨q1,q2,q3,q4,q5,q6,q7⟩:=may_nums h
 refine ⟨by rw [b4S,q7],?_⟩
 have e:m.by=be4 m.s++(be4 m.v++(be2 m.n++([BitVec.ofInt 8 m.z,BitVec.ofInt 8 m.p]++m.h.l))):=by simp [ManD.by,mid4,be2]
 have t4:(m.by.take 4).drop 0=be4 m.s:=by rw [e];rfl
 have t8:(m.by.take 8).drop 4=be4 m.v:=by rw [e];rfl
 have t10:(m.by.take 10).drop 8=be2 m.n:=by rw [e];rfl
 have g10:m.by.getD 10 0#8=BitVec.ofInt 8 m.z:=by rw [e];rfl
 have g11:m.by.getD 11 0#8=BitVec.ofInt 8 m.p:=by rw [e];rfl
 have d12:m.by.drop 12=m.h.l:=by rw [e];rfl
 rw [manO,t4,t8,t10,g10,g11,d12,a3F,a3F,b2Z m.n (by omega) (by omega),b7U m.z (by omega) (by omega),b7U m.p (by omega) (by omega)]
def ManD.plain (m:ManD):ManD:=⟨m.s,m.v,m.n,m.z,m.p,⟨Option.none,0,m.h.l⟩⟩
def StD.plain (x:StD):StD:=copyS x (none,0) (none,0) (none,0)
theorem tail_nm {x:StD} (h:(if x.on then x.m.may else x.m.none)=true) (q:List (BitVec 8)):(RDg.mk (x.tail++q) 0).is=x.on∧(RDg.mk (x.tail++q) 0).mn=x.m.plain∧(RDg.mk (x.tail++q) 0).nm=⟨q,0⟩:=by
 cases hon:x.on
 ·rw [if_neg (by simp [hon])] at h
  have ht:x.tail++q=0#8::q:=by rw [StD.tail,if_neg (by simp [hon])];rfl
  rw [ht]
  obtain ⟨f1,f2⟩:=b9O 0#8 q
  have f1:(RDg.mk (0#8::q) 0).fl=⟨q,0⟩:=by rw [f1];rfl
  have f2:(RDg.mk (0#8::q) 0).is=false:=by rw [f2];rfl
  rw [RDg.mn,RDg.nm,f2]
  refine ⟨rfl,?_,by rw [if_neg (by simp)];exact f1⟩
  rw [if_neg (by simp)]
  simp only [ManD.none,decide_eq_true_eq] at h
  rw [ManD.plain,c0M h.1,c0M h.2.1,h.2.2.1,h.2.2.2.1,h.2.2.2.2.1,List.length_eq_zero_iff.1 h.2.2.2.2.2]
  rfl
 ·rw [if_pos hon] at h
  obtain ⟨k1,k2⟩:=manO_by' h
  have ht:x.tail++q=1#8::(x.m.by++q):=by rw [StD.tail,if_pos hon];rfl
  rw [ht]
  obtain ⟨f1,f2⟩:=b9O 1#8 (x.m.by++q)
  have f1:(RDg.mk (1#8::(x.m.by++q)) 0).fl=⟨x.m.by++q,0⟩:=by rw [f1];rfl
  have f2:(RDg.mk (1#8::(x.m.by++q)) 0).is=true:=by rw [f2];rfl
  obtain ⟨a1,a2⟩:=a9M (p:=x.m.by) (n:=44) k1 q
  have hmm:(ManD.mk x.m.s x.m.v x.m.n x.m.z x.m.p ⟨none,0,x.m.h.l⟩).may=true:=h
  rw [RDg.mn,RDg.nm,f2,f1,a1,a2,k2,if_pos rfl,if_pos hmm,if_pos rfl]
  exact ⟨rfl,rfl,rfl⟩
theorem slots_ok {x:StD} (h:x.may=true):(x.s0.something=true∨x.s0.nothing=true)∧(x.s1.something=true∨x.s1.nothing=true):=by
 obtain ⟨h1,h2,h3,h4,h5⟩:=a5J.1 h
 unfold StD.cur at h3
 unfold StD.oth at h4
 have h4:(if x.a=0 then x.s1 else x.s0).something=true∨(if x.a=0 then x.s1 else x.s0).nothing=true:=by
  rcases h4 with h4|h4
  ·exact .inl h4
  ·exact .inr h4.1
 by_cases ha:x.a=0
 ·rw [if_pos ha] at h3 h4;exact ⟨.inl h3,h4⟩
 ·rw [if_neg ha] at h3 h4;exact ⟨h4,.inl h3⟩
theorem by_parts {x:StD} (h:x.may=true) (q:List (BitVec 8)):stO (x.by++q)=x.plain∧endO (x.by++q)=⟨q,0⟩:=by
 obtain ⟨h1,h2,h3,h4,h5⟩:=a5J.1 h
 obtain ⟨k0,k1⟩:=slots_ok h
 have e:x.by++q=[BitVec.ofInt 8 x.a]++([BitVec.ofInt 8 x.t]++(be4 x.f++(be4 x.g++(x.s0.by++(x.s1.by++(x.tail++q)))))):=by simp [StD.by,StD.head]
 obtain ⟨a1,a2⟩:=a9M (p:=[BitVec.ofInt 8 x.a]) (n:=1) rfl ([BitVec.ofInt 8 x.t]++(be4 x.f++(be4 x.g++(x.s0.by++(x.s1.by++(x.tail++q))))))
 obtain ⟨b1,b2⟩:=a9M (p:=[BitVec.ofInt 8 x.t]) (n:=1) rfl (be4 x.f++(be4 x.g++(x.s0.by++(x.s1.by++(x.tail++q)))))
 obtain ⟨c1,c2⟩:=a9M (p:=be4 x.f) (n:=4) rfl (be4 x.g++(x.s0.by++(x.s1.by++(x.tail++q))))
 obtain ⟨d1,d2⟩:=a9M (p:=be4 x.g) (n:=4) rfl (x.s0.by++(x.s1.by++(x.tail++q)))
 obtain ⟨s1,s2⟩:=sl_by k0 (x.s1.by++(x.tail++q))
 obtain ⟨u1,u2⟩:=sl_by k1 (x.tail++q)
 obtain ⟨w1,w2,w3⟩:=tail_nm h5 q
 rw [←e] at a1 a2
 have r2:rd2 (x.by++q)=_:=a1
 have r3:rd3 (x.by++q)=_:=(congrArg (fun r=>RDg.nx r 1) r2).trans b1
 have r4:rd4 (x.by++q)=_:=(congrArg (fun r=>RDg.nx r 4) r3).trans c1
 have r5:rd5 (x.by++q)=_:=(congrArg (fun r=>RDg.nx r 4) r4).trans d1
 refine ⟨?_,by rw [endO,r5,s2,u2,w3]⟩
 rw [stO,a2,r2,b2,r3,c2,r4,d2,r5,s1,s2,u1,u2,w1,w2,b2Y,b2Y,a3F,a3F,b7U x.a (by omega) (by omega),b7U x.t (by omega) (by omega)]
 rfl
theorem b7R {x:StD} (h:x.may=true):prs x.by=(x.plain,0):=by
 obtain ⟨e1,e2⟩:=by_parts h []
 rw [List.append_nil] at e1 e2
 rw [prs,e1,e2,if_neg (by simp),if_neg (fun hc=>by
  rcases hc with hc|hc
  ·cases hc
  ·rw [StD.plain,a3P,h] at hc;cases hc)]
open Sha
def keyL (key:List (BitVec 8)):List (BitVec 8):=if 64<key.length then sha key else key
def padK (k:List (BitVec 8)):List (BitVec 8):=k.take 64++(List.replicate 64 0#8).drop k.length
def masked (key:List (BitVec 8)) (y:BitVec 8):List (BitVec 8):=(padK (keyL key)).map (· ^^^ y)
def tag (key b:List (BitVec 8)):List (BitVec 8):=sha (masked key 0x5c#8++sha (masked key 0x36#8++b))
theorem b8R (k:List (BitVec 8)):(padK k).length=64:=by simp [padK];omega
theorem b4K (key:List (BitVec 8)) (y:BitVec 8):(masked key y).length=64:=by simp [masked,b8R]
theorem c0N (key b:List (BitVec 8)):(tag key b).length=32:=b1V _
theorem keyL_long {key:List (BitVec 8)} (h:64<key.length):keyL key=sha key:=if_pos h
theorem keyL_short {key:List (BitVec 8)} (h:key.length≤64):keyL key=key:=if_neg (by omega)
theorem mac_masked (H:List Hl) (ad:Option Addr) (c:Nat) (key m:List (BitVec 8)) (y:BitVec 8) (h:Rs (stars H) B ad c key) (hb:key.length≤70368744177664) (hm:masked key y=m) :
  Spec Tryz.prog 129 [.slice ad key.length c,B y] H (fun _:Nat=>True) (fun b => .slice (some ⟨b,0,none⟩) m.length m.length) (fun b => .box b 5 (m.map B)::H):=by
 refine sP (res:=fun b:Nat=>[.box b 5 (m.map B)]) H Tryz.func129 Tryz.ntmps129 fun W=>?_
 have hml:m.length=64:=by rw [←hm];exact b4K key y
 by_cases hk:64<key.length
 ·obtain ⟨kk,hkk⟩:∃ d,sha key=d:=⟨_,rfl⟩
  have hpk:m=(padK kk).map (· ^^^ y):=by rw [←hm,masked,keyL_long hk,hkk]
  obtain ⟨p,hp⟩:∃ p,padK kk=p:=⟨_,rfl⟩
  have hpl:p.length=64:=by rw [←hp];exact b8R kk
  rw [hp] at hpk
  have hcp:kk.take (List.replicate 64 0#8).length++(List.replicate 64 0#8).drop kk.length=p:=hp
  have hz:m.length=p.length:=by rw [hml,hpl]
  repeat' (first|intro _|(refine k_fn 56 ?_;(refine a0A (fun hh=>b7T _ _ _ key kk h.up hb hkk) rfl (fun ⟨_,_⟩ _=>?_);dsimp only))|(refine a2W ?_;refine a5D (enc:=B) 0#8 64 rfl rfl rfl rfl rfl (by decide) (by decide) (fun b=>?_))|(refine a1S ?_;(refine b8S (xs:=List.replicate 64 0#8) (ys:=kk) rfl rfl (by simp) a0I rfl (fun _=>rfl) ?_;rw [hcp]))|refine wK ?_|refine wL ?_ ?_|fail)
  refine a0Y (S:=Nat) (fun i=>[(1,B y),(5,.slice (some ⟨b,0,none⟩) 64 64),(17,I 64),(18,I i)]) (fun i=>[.box b 5 ((partL m p i).map B),.any (stars H)]) (fun i=>i≤64) (fun i=>64 - i) 0 (Nat.zero_le _)
   cv (by rw [a5O];exact ent) ?_
  intro i hi
  by_cases hlt:i<64
  ·have hql:(partL m p i).length=64:=by rw [a2X hz,hpl]
   repeat' (first|intro _|(refine a0J ?_;refine c0F i rfl rfl rfl hlt ?_)|(refine a0K ?_;refine a2V (l:=partL m p i) rfl (by omega) ?_)|(refine a1N ?_;refine a4A B (l:=partL m p i) rfl rfl (by omega) rfl ?_)|refine wK ?_|refine wL ?_ ?_|fail)
   refine a0Q (i+1) (by omega) (by omega) cv ?_
   have e:p[i]'(by omega) ^^^ y=m[i]'(by omega):=by simp [hpk]
   rw [a6L hz (Nat.le_refl i),e,a3V hz]
   exact ent
  ·have:i=64:=by omega
   subst this
   rw [a3W hz hpl.symm]
   repeat' (first|intro _|refine wK ?_|refine wL ?_ ?_|fail)
   refine a0E b rfl rfl (by rw [hml]) trivial ?_
   exact ent
 ·obtain ⟨kk,hkk⟩:∃ d,key=d:=⟨_,rfl⟩
  have hpk:m=(padK kk).map (· ^^^ y):=by rw [←hm,masked,keyL_short (by omega),hkk]
  obtain ⟨p,hp⟩:∃ p,padK kk=p:=⟨_,rfl⟩
  have hpl:p.length=64:=by rw [←hp];exact b8R kk
  rw [hp] at hpk
  have hcp:kk.take (List.replicate 64 0#8).length++(List.replicate 64 0#8).drop kk.length=p:=hp
  have hz:m.length=p.length:=by rw [hml,hpl]
  subst hkk
  repeat' (first|intro _|(refine a2W ?_;refine a5D (enc:=B) 0#8 64 rfl rfl rfl rfl rfl (by decide) (by decide) (fun b=>?_))|(refine a1S ?_;(refine b8S (xs:=List.replicate 64 0#8) (ys:=key) rfl rfl (by simp) (a3Q h) rfl (fun _=>rfl) ?_;rw [hcp]))|refine wK ?_|refine wL ?_ ?_|fail)
  refine a0Y (S:=Nat) (fun i=>[(1,B y),(5,.slice (some ⟨b,0,none⟩) 64 64),(17,I 64),(18,I i)]) (fun i=>[.box b 5 ((partL m p i).map B),.any (stars H)]) (fun i=>i≤64) (fun i=>64 - i) 0 (Nat.zero_le _)
   cv (by rw [a5O];exact ent) ?_
  intro i hi
  by_cases hlt:i<64
  ·have hql:(partL m p i).length=64:=by rw [a2X hz,hpl]
   repeat' (first|intro _|(refine a0J ?_;refine c0F i rfl rfl rfl hlt ?_)|(refine a0K ?_;refine a2V (l:=partL m p i) rfl (by omega) ?_)|(refine a1N ?_;refine a4A B (l:=partL m p i) rfl rfl (by omega) rfl ?_)|refine wK ?_|refine wL ?_ ?_|fail)
   refine a0Q (i+1) (by omega) (by omega) cv ?_
   have e:p[i]'(by omega) ^^^ y=m[i]'(by omega):=by simp [hpk]
   rw [a6L hz (Nat.le_refl i),e,a3V hz]
   exact ent
  ·have:i=64:=by omega
   subst this
   rw [a3W hz hpl.symm]
   repeat' (first|intro _|refine wK ?_|refine wL ?_ ?_|fail)
   refine a0E b rfl rfl (by rw [hml]) trivial ?_
   exact ent
theorem mac_Tag (H:List Hl) (ad ad2:Option Addr) (c c2:Nat) (key b d:List (BitVec 8)) (h:Rs (stars H) B ad c key) (h2:Rs (stars H) B ad2 c2 b) (hb:key.length≤70368744177664) (hb2:b.length≤70368744177000) (hd:tag key b=d) :
  Spec Tryz.prog 82 [.slice ad key.length c,.slice ad2 b.length c2] H (fun _:Option Addr × Nat=>True) (fun r => .slice r.1 d.length r.2) (fun r => .row 5 1 (.slice r.1 d.length r.2) d.length (d.map B)::H):=by
 refine sP (res:=fun r:Option Addr × Nat=>[.row 5 1 (.slice r.1 d.length r.2) d.length (d.map B)]) H Tryz.func82 Tryz.ntmps82 fun W=>?_
 obtain ⟨o,ho⟩:∃ m,masked key 0x5c#8=m:=⟨_,rfl⟩
 obtain ⟨i,hi⟩:∃ m,masked key 0x36#8=m:=⟨_,rfl⟩
 have hol:o.length=64:=by rw [←ho];exact b4K _ _
 have hil:i.length=64:=by rw [←hi];exact b4K _ _
 obtain ⟨d1,hd1⟩:∃ d,sha (i++b)=d:=⟨_,rfl⟩
 have hdl:d1.length=32:=by rw [←hd1];exact b1V _
 have hd2:sha (o++d1)=d:=by rw [←hd,tag,ho,hi,hd1]
 repeat' (first|intro _|(refine k_fn 129 ?_;first|refine a0A (fun _=>mac_masked _ _ _ key o 0x5c#8 h.up hb ho) rfl (fun _ _=>?_)|refine a0A (fun _=>mac_masked _ _ _ key i 0x36#8 h.up hb hi) rfl (fun _ _=>?_))|(refine a0P ?_;first|refine a0O Bs [⟨_,_,i⟩,⟨_,_,b⟩] rfl rfl rfl (fun _=>rfl) rfl rfl rfl (fun _=>?_)|refine a0O Bs [⟨_,_,o⟩,⟨_,_,d1⟩] rfl rfl rfl (fun _=>rfl) rfl rfl rfl (fun _=>?_))|(refine k_fn 128 ?_;first|(refine a0A (fun hh=>dg_Rows _ _ _ [⟨_,_,i⟩,⟨_,_,b⟩] d1 (a4L rfl rfl hh) (a2N (a2H rfl (by dsimp only;omega) hh) (a2N h2.up b4R)) (by simp only [cat,List.flatMap_cons,List.flatMap_nil,List.append_nil,List.length_append];omega) (by simp only [cat,List.flatMap_cons,List.flatMap_nil,List.append_nil];exact hd1)) rfl (fun ⟨_,_⟩ _=>?_);dsimp only)|(refine a0A (fun hh=>dg_Rows _ _ _ [⟨_,_,o⟩,⟨_,_,d1⟩] d (a4L rfl rfl hh) (a2N (a2H rfl (by dsimp only;omega) hh) (a2N (a0I hh) b4R)) (by simp only [cat,List.flatMap_cons,List.flatMap_nil,List.append_nil,List.length_append];omega) (by simp only [cat,List.flatMap_cons,List.flatMap_nil,List.append_nil];exact hd2)) rfl (fun ⟨_,_⟩ _=>?_);dsimp only))|refine wK ?_|refine wL ?_ ?_|fail)
 refine a0E (_,_) rfl rfl rfl trivial ?_
 exact ent
theorem mac_Right (H:List Hl) (ad ad2 ad3:Option Addr) (c c2 c3:Nat) (key b d t:List (BitVec 8)) (h:Rs (stars H) B ad c key) (h2:Rs (stars H) B ad2 c2 b) (h3:Rs (stars H) B ad3 c3 t) (hb:key.length≤70368744177664) (hb2:b.length≤70368744177000) (hd:tag key b=d) :
  Spec Tryz.prog 116 [.slice ad key.length c,.slice ad2 b.length c2,.slice ad3 t.length c3] H (fun _:Unit=>True) (fun _ => .bool (decide (d=t))) (fun _=>H):=by
 refine sP (res:=fun _=>[]) H Tryz.func116 Tryz.ntmps116 fun W=>?_
 repeat' (first|intro _|(refine k_fn 82 ?_;(refine a0A (fun hh=>mac_Tag _ _ _ _ _ key b d h.up h2.up hb hb2 hd) rfl (fun ⟨_,_⟩ _=>?_);dsimp only))|(refine k_fn 66 ?_;refine a0A (fun hh=>a4K _ _ _ _ _ d t (a0I hh) h3.up) rfl (fun _ _=>?_))|refine wK ?_|refine wL ?_ ?_|fail)
 refine a0E () rfl rfl rfl trivial ?_
 exact ent
open Sha
def rtM1_0:List Row:=[tR 12 [] [],tR 13 [] [],tR 14 [1] [1],tR 15 [] [],tR 16 [3] [3],tR 17 [0,2,4] (rG 5),tR 18 [5] (rG 6),tR 11 [6,5] (rG 7)]
open Sha
theorem mf_Bytes (H:List Hl) (ad:Option Addr) (c:Nat) (key d q:List (BitVec 8)) (x:ManD) (h:x.may=true) (hr:RdS (stars H) x.h) (hk:Rs (stars H) B ad c key) (hb:key.length≤300) (hq:x.by=q) (hd:tag key q=d) :
  Spec Tryz.prog 38 [.slice ad key.length c,x.V] H (fun _:PA=>True) (fun r => .tuple #[.slice r.1 (q++d).length r.2,I 0]) (fun r=>rowB r (q++d)::H):=by
 refine sP (res:=fun r:PA=>[rowB r (q++d)]) H Tryz.func38 Tryz.ntmps38 fun W=>?_
 have hql:q.length=44:=by rw [←hq,b4S,b6O h]
 have hdl:d.length=32:=by rw [←hd];exact c0N _ _
 repeat' (first|intro _|(refine k_fn 81 ?_;(refine a0A (fun _=>mf_Plain _ x h (Rs.up hr)) rfl (fun ⟨a1,c1⟩ _=>?_);dsimp only;rw [hq]))|(refine k_fn 82 ?_;(refine a0A (fun hh=>mac_Tag _ _ _ _ _ key q d hk.up (a0I (ad:=a1) (c:=c1) hh) (by omega) (by omega) hd) rfl (fun ⟨a2,c2⟩ _=>?_);dsimp only))|(refine a1S ?_;refine b1D (xs:=q) (ys:=d) rfl rfl (a0I (ad:=a2) (c:=c2)) rfl (fun _=>rfl) (by omega) (by omega) (fun a3 c3=>?_))|refine wK ?_|refine wL ?_ ?_|fail)
 refine a2U (a3,c3) rfl rfl rfl rfl trivial ?_
 exact ent
def setM (m:ManD) (r:PA):ManD:=⟨m.s,m.v,m.n,m.z,m.p,⟨r.1,r.2,m.h.l⟩⟩
def rdM (l:List (BitVec 8)):ManD × Int:=if l.length=44 then (if (manO l (none,0)).may then (manO l (none,0),0) else (zM,3)) else (zM,3)
def prM (key l:List (BitVec 8)):ManD × Int:=if l.length=76 then (if tag key (l.take 44)=l.drop 44 then rdM (l.take 44) else (zM,5)) else (zM,3)
theorem mf_ReadA (H:List Hl) (ad:Option Addr) (c:Nat) (l:List (BitVec 8)) (h:Rs (stars H) B ad c l) (p:ManD × Int) (hp:rdM l=p) :
  Spec Tryz.prog 96 [.slice ad l.length c] H (fun _:PA=>True) (fun r => .tuple #[(setM p.1 r).V,I p.2]) (fun r=>rowB r p.1.h.l::H):=by
 unfold rdM at hp
 have nilr:∀ h',stars H h'→stars (rowB (none,0) []::H) h':=a1A 5 B
 by_cases hl:l.length=44
 ·rw [if_pos hl] at hp
  cases hm:(manO l (none,0)).may
  ·rw [if_neg (by simp [hm])] at hp
   subst hp
   have k:=a8L H ad c l h hl hm
   exact ⟨k.enters,fun w hs=>(k.calls w hs).mono fun x w' ⟨r,hg,he,hx,hsat⟩=>⟨(none,0),trivial,he,hx,hsat.mono nilr⟩⟩
  ·rw [if_pos hm] at hp
   subst hp
   exact b6N H ad c l h hl hm
 ·rw [if_neg hl] at hp
  subst hp
  have k:=mf_Read_len H ad c l hl
  exact ⟨k.enters,fun w hs=>(k.calls w hs).mono fun x w' ⟨r,hg,he,hx,hsat⟩=>⟨(none,0),trivial,he,hx,hsat.mono nilr⟩⟩
theorem b9I (H:List Hl) (ad ad2:Option Addr) (c c2:Nat) (key l:List (BitVec 8)) (hk:Rs (stars H) B ad c key) (h:Rs (stars H) B ad2 c2 l) (hb:key.length≤300) (p:ManD × Int) (hp:prM key l=p) :
  Spec Tryz.prog 73 [.slice ad key.length c,.slice ad2 l.length c2] H (fun _:PA=>True) (fun r => .tuple #[(setM p.1 r).V,I p.2]) (fun r=>rowB r p.1.h.l::H):=by
 refine sP (res:=fun r:PA=>[rowB r p.1.h.l]) H Tryz.func73 Tryz.ntmps73 fun W=>?_
 unfold prM at hp
 by_cases hl:l.length=76
 ·rw [if_pos hl] at hp
  obtain ⟨d,hd⟩:∃ d,tag key (l.take 44)=d:=⟨_,rfl⟩
  rw [hd] at hp
  by_cases ht:d=l.drop 44
  ·rw [if_pos ht] at hp
   repeat' (first|intro _|refine wK ?_|refine wL ?_ ?_|fail)
   refine a0H [(0,_),(1,_)] rtM1_0 [] [⟨[0,1,2,3,4,5,6,7],[],none⟩] mixed cv (by kernel_rfl) (by kernel_rfl) ?_
   repeat' (first|intro _|refine sg ?_|(refine a6D ?_;refine po (by first|refine b9E rfl rfl h rfl (by omega) (by omega) fz|refine b9D rfl rfl h rfl (by omega) (by omega) fz|fail) ?_)|(refine p_fn 116 ?_;refine po (by first|refine a0A (fun _=>(mac_Right _ _ _ _ _ _ _ key _ d _ hk.up (Rs.up (h.cutv 0 44 (by omega) (by omega))) (Rs.up (h.cutl 44 (by omega))) (by omega) (by simp;omega) hd).bv (b:=true) (decide_eq_true ht)) rfl (fun _ _=>fz)|fail) ?_)|refine pw ?_|refine pdd ?_|refine ow ?_|fail)
   all_goals dsimp only [cA,nA]
   repeat' (first|intro _|(refine a3X ?_;refine a5X (xs:=l) 44 rfl rfl rfl rfl h.le (by omega) ?_)|(refine k_fn 96 ?_;(refine a0A (fun _=>mf_ReadA _ _ _ (l.take 44) (Rs.up (h.cuth 44 (by omega))) p hp) rfl (fun r _=>?_);dsimp only [ManD.V,ManD.c,setM]))|refine wK ?_|refine wL ?_ ?_|fail)
   refine a0N r rfl rfl rfl rfl rfl trivial ?_
   exact ent
  ·rw [if_neg ht] at hp
   subst hp
   repeat' (first|intro _|refine wK ?_|refine wL ?_ ?_|fail)
   refine a0H [(0,_),(1,_)] rtM1_0 [] [⟨[0,1,2,3,4,5,6,7],[],none⟩] mixed cv (by kernel_rfl) (by kernel_rfl) ?_
   repeat' (first|intro _|refine sg ?_|(refine a6D ?_;refine po (by first|refine b9E rfl rfl h rfl (by omega) (by omega) fz|refine b9D rfl rfl h rfl (by omega) (by omega) fz|fail) ?_)|(refine p_fn 116 ?_;refine po (by first|refine a0A (fun _=>(mac_Right _ _ _ _ _ _ _ key _ d _ hk.up (Rs.up (h.cutv 0 44 (by omega) (by omega))) (Rs.up (h.cutl 44 (by omega))) (by omega) (by simp;omega) hd).bv (b:=false) (decide_eq_false ht)) rfl (fun _ _=>fz)|fail) ?_)|refine pw ?_|refine pdd ?_|refine ow ?_|fail)
   all_goals dsimp only [cA,nA]
   repeat' (first|intro _|refine wK ?_|refine wL ?_ ?_|fail)
   refine a2A (a1A 5 B) ?_
   refine a0N (none,0) rfl rfl rfl rfl rfl trivial ?_
   exact ent
 ·rw [if_neg hl] at hp
  subst hp
  repeat' (first|intro _|refine wK ?_|refine wL ?_ ?_|fail)
  refine a2A (a1A 5 B) ?_
  refine a0N (none,0) rfl rfl rfl rfl rfl trivial ?_
  exact ent
theorem man_mayM {m:ManD} (h:m.may=true):1≤m.n∧m.n≤512∧m.h.l.length=32:=by
 simp only [ManD.may,mayP,Bool.and_eq_true,decide_eq_true_eq] at h
 refine ⟨?_,?_,h.2⟩
 ·have h1:=h.1.1
  unfold count at h1
  split at h1
  ·omega
  ·omega
 ·have h1:=h.1.1
  unfold count at h1
  split at h1
  ·omega
  ·omega
theorem manO_byM {m:ManD} (h:m.may=true):m.by.length=44∧manO m.by (none,0)=⟨m.s,m.v,m.n,m.z,m.p,⟨none,0,m.h.l⟩⟩:=by
 obtain ⟨q1,q2,q3,q4,q5,q6,q7⟩:=may_nums h
 refine ⟨by rw [b4S,q7],?_⟩
 have e:m.by=be4 m.s++(be4 m.v++(be2 m.n++([BitVec.ofInt 8 m.z,BitVec.ofInt 8 m.p]++m.h.l))):=by simp [ManD.by,mid4,be2]
 have t4:(m.by.take 4).drop 0=be4 m.s:=by rw [e];rfl
 have t8:(m.by.take 8).drop 4=be4 m.v:=by rw [e];rfl
 have t10:(m.by.take 10).drop 8=be2 m.n:=by rw [e];rfl
 have g10:m.by.getD 10 0#8=BitVec.ofInt 8 m.z:=by rw [e];rfl
 have g11:m.by.getD 11 0#8=BitVec.ofInt 8 m.p:=by rw [e];rfl
 have d12:m.by.drop 12=m.h.l:=by rw [e];rfl
 rw [manO,t4,t8,t10,g10,g11,d12,a3F,a3F,b2Z m.n (by omega) (by omega),b7U m.z (by omega) (by omega),b7U m.p (by omega) (by omega)]
theorem prM_by {m:ManD} {key d q:List (BitVec 8)} (h:m.may=true) (hq:m.by=q) (hd:tag key q=d):prM key (q++d)=(manO q (none,0),0)∧(manO q (none,0)).may=true∧rdM q=(manO q (none,0),0):=by
 have hql:q.length=44:=by rw [←hq,b4S,b6O h]
 have hdl:d.length=32:=by rw [←hd];exact c0N _ _
 have hmm:(manO q (none,0)).may=true:=by
  rw [←hq,(manO_byM h).2];exact h
 have hrd:rdM q=(manO q (none,0),0):=by rw [rdM,if_pos hql,if_pos hmm]
 have e1:(q++d).take 44=q:=by rw [←hql];simp
 have e2:(q++d).drop 44=d:=by rw [←hql];simp
 refine ⟨?_,hmm,hrd⟩
 rw [prM,if_pos (by rw [List.length_append];omega),e1,e2,if_pos hd,hrd]
open Go.RowKit Go.Proofs Sha
def rtD36_0:List Row:=[tR 5 [] [],tR 6 [0] [0],tR 7 [1] [0,1],tR 8 [2,1] [0,1,2],tG 9 [3] [0,1,2,3] 3 false,tG 10 [4,3] (rG 5) 3 false,tG 11 [3] [0,1,2,3] 3 false,tG 12 [6,3] [0,1,2,3,6] 3 false,tG 13 [5,7,3,3] (rG 8) 3 false,tG 14 [3] [0,1,2,3] 3 false,tG 15 [9,3] [0,1,2,3,9] 3 false,tG 16 [8,10,3] (rG 11) 3 false,tR 17 [3,11] (rG 12)]
def rtD36_1:List Row:=[tR 18 [] [],tR 19 [] [],tR 20 [1] [1],tR 21 [0,2] [0,1,2],tR 22 [3] [0,1,2,3],tR 4 [4,2,0,1,2,3,4] (rG 5)]
def rtD36_2:List Row:=[tR 39 [] [],tR 40 [0] [0],tR 41 [] [],tR 42 [] [],tR 43 [] [],tR 44 [] [],tR 45 [4,5,1] [0,1,4,5],tR 46 [1,2,3,6] (rG 7),tR 47 [7] (rG 8),tR 12 [8,6,0,1,2,3,4,5,6,7,8] (rG 9),tR 13 [9,0,1,2,3,4,5,6,7,8,9] (rG 10)]
def rtD36_3:List Row:=[tR 10 [] [],tR 11 [0] [0],tR 12 [1] [0,1],tR 13 [2] [0,1,2],tR 14 [] [],tR 15 [4] [4],tR 16 [5] [4,5],tR 17 [6] [4,5,6],tR 18 [3,7] (rG 8),tR 9 [8] (rG 9),tR 19 [9] (rG 10),tR 20 [9] (rG 10),tR 3 [10,8,0,1,2,3,4,5,6,7,8,9,10] (rG 11),tR 4 [11,12,0,1,2,3,4,5,6,7,8,9,10,11,12] (rG 13)]
def rtD36_4:List Row:=[tR 12 [] [],tR 13 [0] [0],tR 14 [1] [0,1],tR 15 [2] [0,1,2],tR 16 [3] [0,1,2,3],tR 17 [] [],tR 18 [] [],tR 19 [6] [6],tR 20 [7] [6,7],tR 21 [8] [6,7,8],tR 22 [] [],tR 23 [9,10] [6,7,8,9,10],tR 24 [4,5,11] (rG 12),tR 25 [12,11] (rG 13),tR 11 [13] (rG 14),tR 26 [14] (rG 15),tR 27 [14] (rG 15),tR 5 [15,13,0,1,2,3,4,5,6,7,8,9,10,11,12,13,14,15] (rG 16),tR 6 [16,17,0,1,2,3,4,5,6,7,8,9,10,11,12,13,14,15,16,17] (rG 18)]
theorem cd_New (H:List Hl) (p:Prm) (ad:Option Addr) (c:Nat) (im:List (BitVec 8)) (hp:p.ok) (hl:count im.length p.z=p.k) (hi:Rs (stars H) B ad c im) (hn:im.length≤512) :
  Spec Tryz.prog 59 [parV p.s p.k p.p p.z,.slice ad im.length c] H (fun _:Nat × PA=>True) (fun r => .pointer (some ⟨r.1,0,none⟩)) (fun r=>cdB r.1 p r.2.1 im.length r.2.2 0#32 0 (.slice none 0 0)::rowB r.2 im::H):=by
 refine sP (res:=fun r:Nat × PA=>[cdB r.1 p r.2.1 im.length r.2.2 0#32 0 (.slice none 0 0),rowB r.2 im]) H Tryz.func59 Tryz.ntmps59 fun W=>?_
 repeat' (first|intro _|(refine k_box ?_;refine a1V rfl rfl (fun b2=>?_))|refine wK ?_|refine wL ?_ ?_|fail)
 refine a0H [(2,_),(1,_)] rtD36_0 [1,8] [⟨[0],[],some 1⟩,⟨[2,3,4,5,6,7,9,10],[],some 8⟩,⟨[11,12],[9,10],none⟩] mixed cv (by kernel_rfl) (by kernel_rfl) ?_
 repeat' (first|intro _|refine sg ?_|(refine a1E ?_;refine po (by first|refine a0F (b:=b2) (i:=3) rfl rfl fz|refine a0F (b:=b2) (i:=1) rfl rfl fz|fail) ?_)|(refine a1I .neq ?_;refine po (by first|refine a2E rfl rfl rfl fz|fail) ?_)|refine pw ?_|refine pdd ?_|(refine k_fn 106 ?_;refine a0A (fun _=>(a5N _ _ _ _ _).bv (b:=true) hp) rfl (fun _ _=>?_))|(refine k_fn 105 ?_;(refine a0A (fun _=>a9W _ _ _) rfl (fun _ _=>?_);rw [hl]))|refine ow ?_|fail)
 all_goals dsimp only [cA,nA]
 repeat' (first|intro _|refine wK ?_|refine wL ?_ ?_|fail)
 refine a0H [(2,_),(1,_)] rtD36_1 [2,4] [⟨[0,1],[],some 2⟩,⟨[3],[0],some 4⟩,⟨[5],[],none⟩] mixed cv (by kernel_rfl) (by kernel_rfl) ?_
 repeat' (first|intro _|refine sg ?_|refine pw ?_|refine pdd ?_|(refine k_fn 29 ?_;(refine a0A (fun _=>a1B _ _ _ im hi.up (by omega)) rfl (fun ⟨a20,c20⟩ _=>?_);(try dsimp only)))|(refine k_box ?_;refine a1V rfl rfl (fun cb=>?_))|refine ow ?_|fail)
 all_goals dsimp only [cA,nA]
 repeat' (first|intro _|refine wK ?_|refine wL ?_ ?_|fail)
 refine a0E (cb,a20,c20) rfl rfl rfl trivial ?_
 exact ent
def hdM (p:Prm) (v:BitVec 32) (n:Nat) (d:List (BitVec 8)) (r:PA):ManD:=⟨p.s,v,n,p.z,p.p,⟨r.1,r.2,d⟩⟩
abbrev crB (hb:Nat) (ka:Option Addr) (kn kc:Nat) (p:Prm) (v:BitVec 32) (n:Nat) (d:List (BitVec 8)) (r:PA) (cb:Nat):Hl := .box hb 94 [.slice ka kn kc,W4 p.s,W4 v,I n,I p.z,I p.p,Bs ⟨r.1,r.2,d⟩,W4 p.s,I p.k,I p.p,I p.z,.pointer (some ⟨cb,0,none⟩)]
structure CrL where
 ka:Option Addr
 kc:Nat
 r:PA
 cb:Nat
 ia:Option Addr
 ic:Nat
 A:Hp→Prop
 cd:Option (Option Addr × Nat × List (SlD (BitVec 8)))
structure CrK (key:List (BitVec 8)) (p:Prm) (im d:List (BitVec 8)) (l:CrL):Prop where
 ky:Rs l.A B l.ka l.kc key
 hi:Rs l.A B l.ia l.ic im
 hh:Rs l.A B l.r.1 l.r.2 d
 cd:∀ q,l.cd=some q→q.2.2.map (·.l)=pieA p im
abbrev crL (key:List (BitVec 8)) (p:Prm) (v:BitVec 32) (im d:List (BitVec 8)) (hb:Nat) (l:CrL):List Hl:=match l.cd with
 | none=>[crB hb l.ka key.length l.kc p v im.length d l.r l.cb,cdB l.cb p l.ia im.length l.ic 0#32 0 (.slice none 0 0),.any l.A]
 | some q=>[crB hb l.ka key.length l.kc p v im.length d l.r l.cb,cdB l.cb p l.ia im.length l.ic 1#32 0 (.slice q.1 q.2.2.length q.2.1),.row 22 1 (.slice q.1 q.2.2.length q.2.1) q.2.2.length (q.2.2.map Bs),.any (pcs 5 q.2.2),.any l.A]
def crP (key:List (BitVec 8)) (p:Prm) (v:BitVec 32) (im d:List (BitVec 8)) (hb:Nat):Hp→Prop:=Som (CrK key p im d) (crL key p v im d hb)
structure HdOk (key:List (BitVec 8)) (p:Prm) (im d:List (BitVec 8)):Prop where
 ok:p.ok
 ct:count im.length p.z=p.k
 le:im.length≤512
 hd:sha im=d
 kl:key.length≤64
theorem HdOk.may {key:List (BitVec 8)} {p:Prm} {im d:List (BitVec 8)} (h:HdOk key p im d) (v:BitVec 32) (r:PA):(hdM p v im.length d r).may=true:=by
 have hd:d.length=32:=by rw [←h.hd];exact b1V _
 have h1:=h.ok
 unfold ManD.may hdM
 dsimp only
 rw [h.ct,hd]
 simpa [Prm.ok] using h1
theorem HdOk.par {key:List (BitVec 8)} {p:Prm} {im d:List (BitVec 8)} (h:HdOk key p im d) (v:BitVec 32) (r:PA):(hdM p v im.length d r).parL=[W4 p.s,I p.k,I p.p,I p.z]∧mayP (count (hdM p v im.length d r).n (hdM p v im.length d r).z) (hdM p v im.length d r).p (hdM p v im.length d r).z=true:=by
 have h2:mayP (count (hdM p v im.length d r).n (hdM p v im.length d r).z) (hdM p v im.length d r).p (hdM p v im.length d r).z=true:=by
  show mayP (count im.length p.z) p.p p.z=true
  rw [h.ct]
  exact h.ok
 refine ⟨?_,h2⟩
 unfold ManD.parL
 rw [if_pos h2]
 show [W4 p.s,I (count im.length p.z),I p.p,I p.z]=_
 rw [h.ct]
theorem c2O (H:List Hl) (key:List (BitVec 8)) (p:Prm) (v:BitVec 32) (im d:List (BitVec 8)) (ka:Option Addr) (kc:Nat) (ad:Option Addr) (c:Nat) (h:HdOk key p im d) (hk:Rs (stars H) B ka kc key) (hi:Rs (stars H) B ad c im) :
  Spec Tryz.prog 27 [.slice ka key.length kc,W4 p.s,W4 v,.slice ad im.length c,I p.z,I p.p] H (fun _:Nat=>True) (fun hb => .tuple #[.pointer (some ⟨hb,0,none⟩),I 0]) (fun hb => .any (crP key p v im d hb)::H):=by
 refine sP (res:=fun hb:Nat=>[.any (crP key p v im d hb)]) H Tryz.func27 Tryz.ntmps27 fun W=>?_
 have hn:=h.le
 have hkl:=h.kl
 have hmay:=fun r=>h.may v r
 have hpar:=fun r=>h.par v r
 have hof:∀ (H':List Hl) (r:PA),Spec Tryz.prog 58 [(hdM p v im.length d r).V] H' (fun _:Unit=>True) (fun _ => .tuple #[.agg #[W4 p.s,I p.k,I p.p,I p.z],.bool true]) (fun _=>H'):=fun H' r=>by
  have:=b0O H' (hdM p v im.length d r)
  rw [(hpar r).1,(hpar r).2] at this
  exact this
 repeat' (first|intro _|(refine k_fn 56 ?_;(refine a0A (fun _=>b7T _ ad c im d hi.up (by omega) h.hd) rfl (fun ⟨a24,c24⟩ _=>?_);(try dsimp only)))|(refine k_fn 57 ?_;refine a0A (fun _=>(a8M _ (hdM p v im.length d (a24,c24))).bv (hmay (a24,c24))) rfl (fun _ _=>?_))|refine a0A (fun _=>hof _ (a24,c24)) rfl (fun _ _=>?_)|refine wK ?_|refine wL ?_ ?_|fail)
 refine a0H [(0,_),(14,_),(15,_),(3,_)] rtD36_2 [1,6,8] [⟨[0,2,3,4,5],[],some 1⟩,⟨[],[2,3,4,5],some 6⟩,⟨[7],[2,3],some 8⟩,⟨[9,10],[],none⟩] mixed cv (by kernel_rfl) (by kernel_rfl) ?_
 repeat' (first|intro _|refine sg ?_|refine pw ?_|refine pdd ?_|(refine k_fn 29 ?_;(refine a0A (fun _=>a1B _ _ _ key hk.up (by omega)) rfl (fun ⟨a40,c40⟩ _=>?_);(try dsimp only)))|(refine k_fn 59 ?_;(refine a0A (fun _=>cd_New _ p ad c im h.ok h.ct hi.up h.le) rfl (fun ⟨cb,a45,c45⟩ _=>?_);(try dsimp only)))|(refine k_box ?_;refine a1V rfl rfl (fun hb=>?_))|refine ow ?_|fail)
 all_goals dsimp only [cA,nA]
 repeat' (first|intro _|refine wK ?_|refine wL ?_ ?_|fail)
 refine a4H [rowB (a24,c24) d,rowB (a40,c40) key,rowB (a45,c45) im] [crB hb a40 key.length c40 p v im.length d (a24,c24) cb,cdB cb p a45 im.length c45 0#32 0 (.slice none 0 0),.any (stars H)] ent ?_
 refine b1R (fun hh=>?_)
 have hA:=a5L hh
 refine a9C (p:=CrK key p im d) (L:=crL key p v im d hb) (R:=[.any (stars H)]) ⟨a40,c40,(a24,c24),cb,a45,c45,stars [rowB (a24,c24) d,rowB (a40,c40) key,rowB (a45,c45) im],none⟩ ⟨a0I (T:=5) (ad:=a40) (c:=c40) (l:=key) hA,a0I (T:=5) (ad:=a45) (c:=c45) (l:=im) hA,a0I (T:=5) (ad:=a24) (c:=c24) (l:=d) hA,fun q e=>nomatch e⟩ ent ?_
 refine a2U hb rfl rfl rfl rfl trivial ?_
 exact ent
def fstB (key:List (BitVec 8)) (p:Prm) (v:BitVec 32) (n:Nat) (d:List (BitVec 8)):List (BitVec 8):=(hdM p v n d (none,0)).by++tag key (hdM p v n d (none,0)).by
theorem a7A {key:List (BitVec 8)} {p:Prm} {im d:List (BitVec 8)} (h:HdOk key p im d) (v:BitVec 32):(fstB key p v im.length d).length=76:=by
 rw [fstB,List.length_append,b4S,b6O (h.may v (none,0)),c0N]
theorem cr_First0 (H:List Hl) (key:List (BitVec 8)) (p:Prm) (v:BitVec 32) (im d:List (BitVec 8)) (hb:Nat) (ka:Option Addr) (kc:Nat) (r:PA) (cb:Nat) (h:HdOk key p im d) (hk:Rs (stars H) B ka kc key) (hd:Rs (stars H) B r.1 r.2 d) :
  Spec Tryz.prog 13 [.pointer (some ⟨hb,0,none⟩)] (crB hb ka key.length kc p v im.length d r cb::H) (fun _:Option Addr × Nat=>True) (fun q => .slice q.1 85 q.2)
   (fun q => .row 5 1 (.slice q.1 85 q.2) 85 ((frameB 1#8 (fstB key p v im.length d)).map B)::crB hb ka key.length kc p v im.length d r cb::H):=by
 refine sF (res:=fun q:Option Addr × Nat=>[.row 5 1 (.slice q.1 85 q.2) 85 ((frameB 1#8 (fstB key p v im.length d)).map B),crB hb ka key.length kc p v im.length d r cb]) [crB hb ka key.length kc p v im.length d r cb] H Tryz.func13 Tryz.ntmps13 fun W=>?_
 dsimp only [cA,nA]
 have hl:=a7A h v
 have hkl:=h.kl
 have hmay:=h.may v r
 obtain ⟨b,hbb⟩:∃ b,fstB key p v im.length d=b:=⟨_,rfl⟩
 have hq:(hdM p v im.length d r).by++tag key (hdM p v im.length d r).by=b:=hbb
 have hmf:=fun (H':List Hl) (hr:Rs (stars H') B r.1 r.2 d) (hk:Rs (stars H') B ka kc key)=>mf_Bytes H' ka kc key _ _ (hdM p v im.length d r) hmay hr hk (by omega) rfl rfl
 rw [hq] at hmf
 rw [hbb] at hl ⊢
 rw [hl] at hmf
 have hrow:∀ q:PA,rowB q b = .row 5 1 (.slice q.1 76 q.2) 76 (b.map B):=fun q=>by show Hl.row 5 1 (.slice q.1 b.length q.2) b.length _=_;rw [hl]
 repeat' (first|intro _|refine a0S rfl rfl ?_|refine wK ?_|refine wL ?_ ?_|fail)
 refine a0H [(0,_)] rtD36_3 [8] [⟨[0,1,2,3,4,5,6,7],[],some 8⟩,⟨[9,10,11,12,13],[],none⟩] mixed cv (by kernel_rfl) (by kernel_rfl) ?_
 repeat' (first|intro _|refine sg ?_|refine pw ?_|refine pdd ?_|(refine a0A (fun _=>hmf _ hd.up hk.up) rfl (fun ⟨a18,c18⟩ _=>?_);(try dsimp only);rw [hrow])|refine ow ?_|fail)
 all_goals dsimp only [cA,nA]
 repeat' (first|intro _|(refine k_fn 39 ?_;(refine a0A (fun hh=>c1E _ 1#8 1 a18 76 c18 b (a0I (T:=5) (ad:=a18) (c:=c18) (l:=b) hh) hl.symm (by decide) (by decide) rfl (by decide)) rfl (fun ⟨a23,c23⟩ _=>?_);(try dsimp only)))|refine wK ?_|refine wL ?_ ?_|fail)
 refine a0E (a23,c23) rfl rfl rfl trivial ?_
 exact ent
theorem b3M (H:List Hl) (key:List (BitVec 8)) (p:Prm) (v:BitVec 32) (im d:List (BitVec 8)) (hb:Nat) (h:HdOk key p im d) :
  Spec Tryz.prog 13 [.pointer (some ⟨hb,0,none⟩)] (.any (crP key p v im d hb)::H) (fun _:Option Addr × Nat=>True) (fun q => .slice q.1 85 q.2)
   (fun q => .row 5 1 (.slice q.1 85 q.2) 85 ((frameB 1#8 (fstB key p v im.length d)).map B) :: .any (crP key p v im d hb)::H):=by
 refine Spec.som (by kernel_rfl) (fun l hl=>?_)
 have hso:=b1Q (p:=CrK key p im d) (L:=crL key p v im d hb) (R:=H) l hl
 obtain ⟨ka,kc,r,cb,ia,ic,A,cd⟩:=l
 have h1:=hl.ky
 have h2:=hl.hh
 cases cd with
 | none=>exact (cr_First0 (cdB cb p ia im.length ic 0#32 0 (.slice none 0 0) :: .any A::H) key p v im d hb ka kc r cb h h1.up h2.up).imp (fun q _ hp hx=>a0U hx (fun _ a=>a) hso)
 | some q=>exact (cr_First0 (cdB cb p ia im.length ic 1#32 0 (.slice q.1 q.2.2.length q.2.1) :: .row 22 1 (.slice q.1 q.2.2.length q.2.1) q.2.2.length (q.2.2.map Bs) :: .any (pcs 5 q.2.2) :: .any A::H) key p v im d hb ka kc r cb h h1.up h2.up).imp (fun q _ hp hx=>a0U hx (fun _ a=>a) hso)
theorem cr_Symbol (H:List Hl) (key:List (BitVec 8)) (p:Prm) (v:BitVec 32) (im d:List (BitVec 8)) (hb:Nat) (h:HdOk key p im d) (id:BitVec 32) (V:List Bool) (D:List (BitVec 8)) (n:Nat) (hV:SpRow p id V) (hD:symD (pieA p im) V=D) (hn:D.length=n) (hn1:1≤n) (hn2:n≤16) (ht:TabF (stars H)) :
  Spec Tryz.prog 14 [.pointer (some ⟨hb,0,none⟩),W4 id] (.any (crP key p v im d hb)::H) (fun _:Option Addr × Nat=>True) (fun q => .slice q.1 (8+n+9) q.2)
   (fun q => .row 5 1 (.slice q.1 (8+n+9) q.2) (8+n+9) ((frameB 2#8 (symB p.s id D)).map B) :: .any (crP key p v im d hb)::H):=by
 refine Spec.som (by kernel_rfl) (fun l hl=>?_)
 obtain ⟨ka,kc,r,cb,ia,ic,A,cd⟩:=l
 obtain ⟨h1,h3,h2,h4⟩:=hl
 dsimp only at h1 h2 h3 h4
 have hsb:(symB p.s id D).length=8+n:=by rw [←b4U,hn]
 obtain ⟨b,hbb⟩:∃ b,symB p.s id D=b:=⟨_,rfl⟩
 have hpk:=fun (H':List Hl) (a:Option Addr) (c:Nat) (hr:Rs (stars H') B a c D)=>packet_Bytes_sym H' p.s id a c D (by omega) (by omega) hr
 rw [hbb,hn] at hpk
 rw [hbb] at hsb ⊢
 rw [hsb] at hpk
 cases cd with
 | none =>
  have hcd:=fun (H':List Hl) (hi:Rs (stars H') B ia ic im) (ht:TabF (stars H'))=>cd_Symbol_0 H' cb p ia ic im id V h.ok h.ct hi hV ht
  rw [hD,hn] at hcd
  show Spec _ _ _ ([crB hb ka key.length kc p v im.length d r cb,cdB cb p ia im.length ic 0#32 0 (.slice none 0 0),.any A]++H) _ _ _
  refine sF (res:=fun q:Option Addr × Nat=>[.row 5 1 (.slice q.1 (8+n+9) q.2) (8+n+9) ((frameB 2#8 b).map B),.any (crP key p v im d hb)]) [crB hb ka key.length kc p v im.length d r cb,cdB cb p ia im.length ic 0#32 0 (.slice none 0 0),.any A] H Tryz.func14 Tryz.ntmps14 fun W=>?_
  dsimp only [cA,nA]
  repeat' (first|intro _|refine a0S rfl rfl ?_|refine wK ?_|refine wL ?_ ?_|fail)
  refine a0H [(0,_),(1,_)] rtD36_4 [11,13] [⟨[0,1,2,3,4,5,6,7,8,9,10],[],some 11⟩,⟨[12],[0,1,2,3,4,5],some 13⟩,⟨[14,15,16,17,18],[],none⟩] mixed cv (by kernel_rfl) (by kernel_rfl) ?_
  repeat' (first|intro _|refine sg ?_|(refine a1E ?_;refine po (by first|refine a0F (b:=hb) (i:=1) rfl rfl fz|refine a0F (b:=hb) (i:=11) rfl rfl fz|fail) ?_)|refine pw ?_|refine pdd ?_|(refine a0G (b:=cb) (fun _=>hcd _ h3.up ht.up) rfl (fun ⟨⟨a23,c23⟩,aq,cq,qs⟩ hqs=>?_);dsimp only at hqs ⊢)|(refine a0A (fun hh=>hpk _ a23 c23 (a0I (T:=5) (ad:=a23) (c:=c23) (l:=D) hh)) rfl (fun ⟨a25,c25⟩ _=>?_);(try dsimp only))|refine ow ?_|fail)
  all_goals dsimp only [cA,nA]
  repeat' (first|intro _|(refine k_fn 39 ?_;(refine a0A (fun hh=>c1E _ 2#8 2 a25 (8+n) c25 b (a0I (T:=5) (ad:=a25) (c:=c25) (l:=b) hh) hsb.symm (by omega) (by omega) rfl (by decide)) rfl (fun ⟨a30,c30⟩ _=>?_);(try dsimp only)))|refine wK ?_|refine wL ?_ ?_|fail)
  refine a9C (p:=CrK key p im d) (L:=crL key p v im d hb) (R:=[.row 5 1 (.slice a30 (8+n+9) c30) (8+n+9) ((frameB 2#8 b).map B),.any (stars H)]) ⟨ka,kc,r,cb,ia,ic,A,some (aq,cq,qs)⟩ ⟨h1,h3,h2,fun q e=>by cases e;exact hqs⟩ ent ?_
  refine a0E (a30,c30) rfl rfl rfl trivial ?_
  exact ent
 | some q =>
  obtain ⟨aq,cq,qs⟩:=q
  have hqs:=h4 _ rfl
  dsimp only at hqs
  have hcd:=fun (H':List Hl) (ht:TabF (stars H')) (hq:Rs (stars H') Bs aq cq qs) (hpc:∀ s∈qs,Rs (stars H') B s.ad s.cap s.l)=>cd_Symbol_1 H' cb p ia im.length ic im id V aq cq qs h.ok hV ht hq hpc hqs
  rw [hD,hn] at hcd
  show Spec _ _ _ ([crB hb ka key.length kc p v im.length d r cb,cdB cb p ia im.length ic 1#32 0 (.slice aq qs.length cq),.row 22 1 (.slice aq qs.length cq) qs.length (qs.map Bs),.any (pcs 5 qs),.any A]++H) _ _ _
  refine sF (res:=fun q:Option Addr × Nat=>[.row 5 1 (.slice q.1 (8+n+9) q.2) (8+n+9) ((frameB 2#8 b).map B),.any (crP key p v im d hb)]) [crB hb ka key.length kc p v im.length d r cb,cdB cb p ia im.length ic 1#32 0 (.slice aq qs.length cq),.row 22 1 (.slice aq qs.length cq) qs.length (qs.map Bs),.any (pcs 5 qs),.any A] H Tryz.func14 Tryz.ntmps14 fun W=>?_
  dsimp only [cA,nA]
  repeat' (first|intro _|refine a0S rfl rfl ?_|refine wK ?_|refine wL ?_ ?_|fail)
  refine a0H [(0,_),(1,_)] rtD36_4 [11,13] [⟨[0,1,2,3,4,5,6,7,8,9,10],[],some 11⟩,⟨[12],[0,1,2,3,4,5],some 13⟩,⟨[14,15,16,17,18],[],none⟩] mixed cv (by kernel_rfl) (by kernel_rfl) ?_
  repeat' (first|intro _|refine sg ?_|(refine a1E ?_;refine po (by first|refine a0F (b:=hb) (i:=1) rfl rfl fz|refine a0F (b:=hb) (i:=11) rfl rfl fz|fail) ?_)|refine pw ?_|refine pdd ?_|(refine a0G (b:=cb) (fun hh=>hcd _ ht.up (a0I (T:=22) (ad:=aq) (c:=cq) (l:=qs) (a0B hh)) (fun s hs=>b5D (T:=5) (ls:=qs) hs (a0B hh))) rfl (fun ⟨a23,c23⟩ _=>?_);(try dsimp only))|(refine a0A (fun hh=>hpk _ a23 c23 (a0I (T:=5) (ad:=a23) (c:=c23) (l:=D) hh)) rfl (fun ⟨a25,c25⟩ _=>?_);(try dsimp only))|refine ow ?_|fail)
  all_goals dsimp only [cA,nA]
  repeat' (first|intro _|(refine k_fn 39 ?_;(refine a0A (fun hh=>c1E _ 2#8 2 a25 (8+n) c25 b (a0I (T:=5) (ad:=a25) (c:=c25) (l:=b) hh) hsb.symm (by omega) (by omega) rfl (by decide)) rfl (fun ⟨a30,c30⟩ _=>?_);(try dsimp only)))|refine wK ?_|refine wL ?_ ?_|fail)
  refine a9C (p:=CrK key p im d) (L:=crL key p v im d hb) (R:=[.row 5 1 (.slice a30 (8+n+9) c30) (8+n+9) ((frameB 2#8 b).map B),.any (stars H)]) ⟨ka,kc,r,cb,ia,ic,A,some (aq,cq,qs)⟩ ⟨h1,h3,h2,h4⟩ ent ?_
  refine a0E (a30,c30) rfl rfl rfl trivial ?_
  exact ent
end Go.Dp
namespace Go.Dp
open Go.RowKit Go.Proofs
def rtD9_0:List Row:=[tR 22 [] [],tR 23 [0] [0],tR 24 [1] [0,1],tR 25 [2] [0,1,2],tR 26 [3] [0,1,2,3],tR 27 [] [],tR 28 [5] [5],tR 29 [6] [5,6],tR 30 [7] [5,6,7],tR 31 [4,8] (rG 9),tR 8 [9,0,1,2,3,4,5,6,7,8,9] (rG 10)]
def rtD9_2:List Row:=[tR 58 [] [],tR 59 [0] [0],tR 60 [1] [0,1],tR 61 [2] [0,1,2],tR 62 [3] [0,1,2,3],tR 63 [] [],tR 64 [5] [5],tR 65 [6] [5,6],tR 66 [7] [5,6,7],tR 67 [8] [5,6,7,8],tR 68 [4,9] (rG 10),tR 69 [] [],tR 70 [11] [11],tR 71 [12] [11,12],tR 72 [13] [11,12,13],tR 73 [14] [11,12,13,14],tR 74 [10,15] (rG 16),tR 75 [] [],tR 76 [17] [17],tR 77 [18] [17,18],tR 78 [19] [17,18,19],tR 79 [16,20] (rG 21),tR 11 [21,0,1,2,3,4,5,6,7,8,9,10,11,12,13,14,15,16,17,18,19,20,21] (rG 22)]
theorem or_byte (a b:Nat) (hb:b<256):a*256 ||| b=a*256+b:=by
 have:=Nat.shiftLeft_add_eq_or_of_lt (show b<2 ^ 8 from hb) a
 rw [Nat.shiftLeft_eq] at this
 exact this.symm
def num4 (x0 x1 x2 x3:BitVec 8):BitVec 32:=(((x0.setWidth 32 <<< 24) ||| (x1.setWidth 32 <<< 16)) ||| (x2.setWidth 32 <<< 8)) ||| x3.setWidth 32
theorem num4_32 (x0 x1 x2 x3:BitVec 8):num4 x0 x1 x2 x3=num32 [x0,x1,x2,x3]:=by
 apply BitVec.eq_of_getLsbD_eq
 intro i hi
 simp only [num4,num32,List.foldl_cons,List.foldl_nil,BitVec.getLsbD_or,BitVec.getLsbD_shiftLeft,BitVec.getLsbD_setWidth,BitVec.getLsbD_zero]
 have z:∀ (x:BitVec 8) (j:Nat),8≤j→x.getLsbD j=false:=fun x j hj=>BitVec.getLsbD_of_ge x j hj
 rcases (by omega:i<8∨(8≤i∧i<16)∨(16≤i∧i<24)∨(24≤i∧i<32)) with q|q|q|q
 ·simp [hi,show i<24 by omega,show i<16 by omega,q]
 ·have e1:=z x3 i (by omega)
  simp [hi,e1,show i<24 by omega,show i<16 by omega,show ¬ i<8 by omega,show i - 8<8 by omega,show i - 8<32 by omega]
 ·have e1:=z x3 i (by omega)
  have e2:=z x2 (i - 8) (by omega)
  simp [hi,e1,e2,show i<24 by omega,show ¬ i<16 by omega,show ¬ i<8 by omega,show ¬ i - 8<8 by omega,show i - 8<32 by omega,show i - 8 - 8=i - 16 by omega,show i - 16<8 by omega,show i - 16<32 by omega]
 ·have e1:=z x3 i (by omega)
  have e2:=z x2 (i - 8) (by omega)
  have e3:=z x1 (i - 16) (by omega)
  simp [hi,e1,e2,e3,show ¬ i<24 by omega,show ¬ i<16 by omega,show ¬ i<8 by omega,show ¬ i - 8<8 by omega,show i - 8<32 by omega,show i - 8 - 8=i - 16 by omega,show ¬ i - 16<8 by omega,show i - 16<32 by omega,show i - 16 - 8=i - 24 by omega,show i - 24<8 by omega,show i - 24<32 by omega]
theorem b3Z {α:Type} {H H':List Hl} {T:TypeId} {ad:Option Addr} {n c:Nat} {enc:α→Value} {l q:List α} [s:SRow H ad c n T (l.map enc) H'] (k:Nat) (hk:k≤l.length) (e:l.take k=q) (hh:Has H):Rs (stars H) enc (cutA ad c 0) (c - 0) q:=e ▸ (a0I (T:=T) (n:=n) (ad:=ad) (c:=c) (l:=l) (enc:=enc) hh).cuth k hk
theorem a3U {α:Type} {H H':List Hl} {T:TypeId} {ad:Option Addr} {n c:Nat} {enc:α→Value} {l q:List α} [s:SRow H ad c n T (l.map enc) H'] (k:Nat) (hk:k≤l.length) (e:l.drop k=q) (hh:Has H):Rs (stars H) enc (cutA ad c k) (c - k) q:=e ▸ (a0I (T:=T) (n:=n) (ad:=ad) (c:=c) (l:=l) (enc:=enc) hh).cutl k hk
theorem b1I {S:List (BitVec 8)} {x4 x5:BitVec 8} (g4:S[4]?=some x4) (g5:S[5]?=some x5):numN (seg S 4 2)=x4.toNat*256+x5.toNat:=by
 have e:seg S 4 2=[x4,x5]:=by
  apply List.ext_getElem?
  intro i
  rw [a1X]
  rcases (by omega:i=0∨i=1∨2≤i) with rfl|rfl|hi
  ·rw [if_pos (by omega),g4];rfl
  ·rw [if_pos (by omega),g5];rfl
  ·rw [if_neg (by omega),List.getElem?_eq_none (by simpa using hi)]
 rw [e]
 simp [numN]
theorem cl_at (H:List Hl) (s:Nat) (hs:s<14) :
  Spec Tryz.prog 114 [I s] H (fun _:Unit=>True) (fun _=>I (s*256:Nat)) (fun _=>H):=by
 refine sP (res:=fun _=>[]) H Tryz.func114 Tryz.ntmps114 fun W=>?_
 have hm:(0+(s:Int))*256=((s*256:Nat):Int):=by omega
 repeat' (first|intro _|(refine a0D .mul ?_;(refine a2Y rfl rfl (by omega) ?_;rw [hm]))|refine wK ?_|refine wL ?_ ?_|fail)
 refine a0E () rfl rfl rfl trivial ?_
 exact ent
abbrev cpZ:Value := .agg #[W4 0#32,.slice none 0 0]
theorem a9V (H:List Hl) (b:Nat) (ad:Option Addr) (c:Nat) (f:Fl) (s:Nat) (h:RdFl (stars H) b ad c f) (hs:s<14) (hd:f.pw.isDown=false) (hw:copyAt f.bs s=none) :
  Spec Tryz.prog 146 [.pointer (some ⟨b,0,none⟩),I s] H (fun _:Unit=>True) (fun _ => .tuple #[cpZ,.bool false]) (fun _=>H):=by
 refine sP (res:=fun _=>[]) H Tryz.func146 Tryz.ntmps146 fun W=>?_
 have hl:=h.l
 unfold copyAt at hw
 obtain ⟨S,hS⟩:∃ S,seg f.bs (s*256) 256=S:=⟨_,rfl⟩
 have hSl:S.length=256:=by rw [←hS];exact a2Q (by omega)
 rw [hS] at hw
 obtain ⟨x4,g4⟩:∃ x,S[4]?=some x:=⟨_,List.getElem?_eq_getElem (by omega)⟩
 obtain ⟨x5,g5⟩:∃ x,S[5]?=some x:=⟨_,List.getElem?_eq_getElem (by omega)⟩
 have b4:=x4.isLt
 have b5:=x5.isLt
 have hn:=b1I g4 g5
 obtain ⟨n,hnn⟩:∃ n,x4.toNat*256+x5.toNat=n:=⟨_,rfl⟩
 have hor:x4.toNat*256 ||| x5.toNat=n:=by rw [or_byte _ _ b5,hnn]
 have hmul:(x4.toNat:Int)*256=((x4.toNat*256:Nat):Int):=by omega
 rw [hnn] at hn
 unfold copyC at hw
 simp only [hn] at hw
 have hidx:(6:Int)+n+5 - 1=((n+10:Nat):Int):=by omega
 repeat' (first|intro _|(refine k_fn 114 ?_;(refine a0A (fun _=>cl_at _ s hs) rfl (fun _ _=>?_)))|(refine k_fn 98 ?_;(refine a0A (fun _=>a9Q _ b ad c f (s*256) 256 h.up (by omega) hd) rfl (fun ⟨a6,c6⟩ _=>?_);(try dsimp only);rw [hS]))|refine wK ?_|refine wL ?_ ?_|fail)
 refine a0H [(6,_)] rtD9_0 [] [⟨[0,1,2,3,4,5,6,7,8,9,10],[],none⟩] mixed cv (by kernel_rfl) (by kernel_rfl) ?_
 repeat' (first|intro _|refine sg ?_|(refine a0Z ?_;refine po (by first|refine a2B (enc:=B) (ad:=a6) (c:=c6) (xs:=S) 4 rfl rfl a0I hSl.symm rfl (by omega) fz|refine a2B (enc:=B) (ad:=a6) (c:=c6) (xs:=S) 5 rfl rfl a0I hSl.symm rfl (by omega) fz|fail) ?_)|(refine a1E ?_;refine po (by first|refine a1T (enc:=B) (ad:=a6) (c:=c6) (xs:=S) 4 x4 rfl a0I g4 fz|refine a1T (enc:=B) (ad:=a6) (c:=c6) (xs:=S) 5 x5 rfl a0I g5 fz|fail) ?_)|refine po (by first|((refine b9B rfl rfl (by omega) ?_;rw [hmul]);all_goals exact fz)|fail) ?_|refine po (by first|((refine o1_ior (x4.toNat*256) x5.toNat rfl rfl rfl rfl (by omega) (by omega) ?_;rw [hor]);all_goals exact fz)|fail) ?_|refine pw ?_|refine pdd ?_|refine ow ?_|fail)
 all_goals dsimp only [cA,nA]
 by_cases h1:245<n
 ·repeat' (first|intro _|refine wK ?_|refine wL ?_ ?_|fail)
  refine a0N () rfl rfl rfl rfl rfl trivial ?_
  exact ent
 rw [if_neg h1] at hw
 obtain ⟨y,hy⟩:∃ y,S[n+10]?=some y:=⟨_,List.getElem?_eq_getElem (by omega)⟩
 have hyd:S.getD (n+10) 0#8=y:=by rw [List.getD_eq_getElem?_getD,hy];rfl
 rw [hyd] at hw
 by_cases h2:y=0#8
 ·rw [if_neg (by simpa using h2)] at hw
  subst h2
  obtain ⟨Q,hQ⟩:∃ Q,S.take (n+10)=Q:=⟨_,rfl⟩
  have hQl:Q.length=n+10:=by rw [←hQ,List.length_take];omega
  rw [hQ] at hw
  have hc:crcOk Q=false:=by
   cases hc:crcOk Q
   ·rfl
   ·rw [hc] at hw;simp at hw
  repeat' (first|intro _|(refine a0D .sub ?_;(refine a3D rfl rfl (by omega) ?_;rw [hidx]))|(refine a0J ?_;refine a2B (enc:=B) (ad:=a6) (c:=c6) (xs:=S) (n+10) rfl rfl a0I hSl.symm rfl (by omega) ?_)|(refine a0K ?_;refine a1T (enc:=B) (ad:=a6) (c:=c6) (xs:=S) (n+10) 0#8 rfl a0I hy ?_)|(refine a0D .neq ?_;refine a2E rfl rfl rfl ?_)|(refine a3X ?_;(refine a7V (enc:=B) (xs:=S) (n+10) rfl rfl rfl hSl.symm (by omega) ?_;rw [hQ]))|(refine k_fn 72 ?_;refine a0A (fun hh=>crc_Right_no _ (cutA a6 c6 0) Q.length (c6 - 0) Q (b3Z (l:=S) (enc:=B) (n+10) (by omega) hQ hh) rfl (by omega) hc) rfl (fun _ _=>?_))|refine wK ?_|refine wL ?_ ?_|fail)
  refine a0N () rfl rfl rfl rfl rfl trivial ?_
  exact ent
 ·have hy0:(y.toNat:Int)≠0:=fun e=>h2 (BitVec.eq_of_toNat_eq (by show y.toNat=0;omega))
  repeat' (first|intro _|(refine a0D .sub ?_;(refine a3D rfl rfl (by omega) ?_;rw [hidx]))|(refine a0J ?_;refine a2B (enc:=B) (ad:=a6) (c:=c6) (xs:=S) (n+10) rfl rfl a0I hSl.symm rfl (by omega) ?_)|(refine a0K ?_;refine a1T (enc:=B) (ad:=a6) (c:=c6) (xs:=S) (n+10) y rfl a0I hy ?_)|(refine a0D .neq ?_;refine a3R rfl rfl hy0 ?_)|refine wK ?_|refine wL ?_ ?_|fail)
  refine a0N () rfl rfl rfl rfl rfl trivial ?_
  exact ent
theorem a3G {l:List (BitVec 8)} {s:Nat} {k:BitVec 32} {q:List (BitVec 8)} (hw:copyAt l s=some (k,q)):((seg l (s*256) 256).take (q.length+6)).drop 6=q∧q.length≤245:=by
 unfold copyAt copyC at hw
 dsimp only at hw
 split at hw
 ·cases hw
 split at hw
 ·cases hw
 split at hw
 ·rename_i h1 h2 h3
  obtain ⟨e1,e2⟩:=Prod.mk.inj (Option.some.inj hw)
  have hl:q.length≤numN (seg (seg l (s*256) 256) 4 2):=by rw [←e2,seg,List.length_take];omega
  refine ⟨?_,by omega⟩
  rw [List.drop_take,←e2]
  simp only [seg,Nat.add_sub_cancel,List.length_take]
  rw [List.take_eq_take_iff]
  omega
 ·cases hw
theorem b1P (H:List Hl) (b:Nat) (ad:Option Addr) (c:Nat) (f:Fl) (s:Nat) (k:BitVec 32) (q Z:List (BitVec 8)) (h:RdFl (stars H) b ad c f) (hs:s<14) (hd:f.pw.isDown=false) (hw:copyAt f.bs s=some (k,q)) (hZ:(seg f.bs (s*256) 256).take (q.length+6)=Z) :
  Spec Tryz.prog 146 [.pointer (some ⟨b,0,none⟩),I s] H (fun _:Option Addr × Nat=>True) (fun r => .tuple #[.agg #[W4 k,.slice (cutA r.1 r.2 6) q.length (r.2 - 6)],.bool true]) (fun r => .row 5 1 (.slice r.1 (q.length+6) r.2) (q.length+6) (Z.map B)::H):=by
 refine sP (res:=fun r:Option Addr × Nat=>[.row 5 1 (.slice r.1 (q.length+6) r.2) (q.length+6) (Z.map B)]) H Tryz.func146 Tryz.ntmps146 fun W=>?_
 obtain ⟨hZd,hq245⟩:=a3G hw
 rw [hZ] at hZd
 have hl:=h.l
 unfold copyAt at hw
 obtain ⟨S,hS⟩:∃ S,seg f.bs (s*256) 256=S:=⟨_,rfl⟩
 have hSl:S.length=256:=by rw [←hS];exact a2Q (by omega)
 rw [hS] at hw hZ
 obtain ⟨x4,g4⟩:∃ x,S[4]?=some x:=⟨_,List.getElem?_eq_getElem (by omega)⟩
 obtain ⟨x5,g5⟩:∃ x,S[5]?=some x:=⟨_,List.getElem?_eq_getElem (by omega)⟩
 have b4:=x4.isLt
 have b5:=x5.isLt
 have hn:=b1I g4 g5
 obtain ⟨n,hnn⟩:∃ n,x4.toNat*256+x5.toNat=n:=⟨_,rfl⟩
 have hor:x4.toNat*256 ||| x5.toNat=n:=by rw [or_byte _ _ b5,hnn]
 have hmul:(x4.toNat:Int)*256=((x4.toNat*256:Nat):Int):=by omega
 rw [hnn] at hn
 unfold copyC at hw
 simp only [hn] at hw
 have hidx:(6:Int)+n+5 - 1=((n+10:Nat):Int):=by omega
 by_cases h1:245<n
 ·rw [if_pos h1] at hw;cases hw
 rw [if_neg h1] at hw
 obtain ⟨y,hy⟩:∃ y,S[n+10]?=some y:=⟨_,List.getElem?_eq_getElem (by omega)⟩
 have hyd:S.getD (n+10) 0#8=y:=by rw [List.getD_eq_getElem?_getD,hy];rfl
 rw [hyd] at hw
 by_cases h2 : ¬ y=0#8
 ·rw [if_pos (by simpa using h2)] at hw;cases hw
 have h2:y=0#8:=Decidable.not_not.1 h2
 rw [if_neg (by simpa using h2)] at hw
 subst h2
 obtain ⟨Q,hQ⟩:∃ Q,S.take (n+10)=Q:=⟨_,rfl⟩
 have hQl:Q.length=n+10:=by rw [←hQ,List.length_take];omega
 rw [hQ] at hw
 by_cases hc : ¬ crcOk Q=true
 ·rw [if_neg hc] at hw;cases hw
 have hc:crcOk Q=true:=Decidable.not_not.1 hc
 rw [if_pos hc] at hw
 obtain ⟨e1,e2⟩:=Prod.mk.inj (Option.some.inj hw)
 have hql:q.length=n:=by rw [←e2];exact a2Q (by omega)
 have hQ4:Q.length - 4=n+6:=by omega
 have hQZ:Q.take (n+6)=Z:=by rw [←hQ,List.take_take,Nat.min_eq_left (by omega),←hZ,hql]
 have hZl:Z.length=n+6:=by rw [←hQZ,List.length_take];omega
 rw [hql]
 obtain ⟨x0,x1,x2,x3,hx⟩:∃ x0 x1 x2 x3,S.take 4=[x0,x1,x2,x3]:=list4 (by rw [List.length_take];omega)
 have g:∀ i,i<4→S[i]?=[x0,x1,x2,x3][i]?:=fun i hi=>by rw [←hx,List.getElem?_take,if_pos hi]
 have g0:S[0]?=some x0:=g 0 (by decide)
 have g1:S[1]?=some x1:=g 1 (by decide)
 have g2:S[2]?=some x2:=g 2 (by decide)
 have g3:S[3]?=some x3:=g 3 (by decide)
 have hk:num4 x0 x1 x2 x3=k:=by rw [num4_32,←hx,e1]
 repeat' (first|intro _|(refine k_fn 114 ?_;(refine a0A (fun _=>cl_at _ s hs) rfl (fun _ _=>?_)))|(refine k_fn 98 ?_;(refine a0A (fun _=>a9Q _ b ad c f (s*256) 256 h.up (by omega) hd) rfl (fun ⟨a6,c6⟩ _=>?_);(try dsimp only);rw [hS]))|refine wK ?_|refine wL ?_ ?_|fail)
 refine a0H [(6,_)] rtD9_0 [] [⟨[0,1,2,3,4,5,6,7,8,9,10],[],none⟩] mixed cv (by kernel_rfl) (by kernel_rfl) ?_
 repeat' (first|intro _|refine sg ?_|(refine a0Z ?_;refine po (by first|refine a2B (enc:=B) (ad:=a6) (c:=c6) (xs:=S) 4 rfl rfl a0I hSl.symm rfl (by omega) fz|refine a2B (enc:=B) (ad:=a6) (c:=c6) (xs:=S) 5 rfl rfl a0I hSl.symm rfl (by omega) fz|fail) ?_)|(refine a1E ?_;refine po (by first|refine a1T (enc:=B) (ad:=a6) (c:=c6) (xs:=S) 4 x4 rfl a0I g4 fz|refine a1T (enc:=B) (ad:=a6) (c:=c6) (xs:=S) 5 x5 rfl a0I g5 fz|fail) ?_)|refine po (by first|((refine b9B rfl rfl (by omega) ?_;rw [hmul]);all_goals exact fz)|fail) ?_|refine po (by first|((refine o1_ior (x4.toNat*256) x5.toNat rfl rfl rfl rfl (by omega) (by omega) ?_;rw [hor]);all_goals exact fz)|fail) ?_|refine pw ?_|refine pdd ?_|refine ow ?_|fail)
 all_goals dsimp only [cA,nA]
 repeat' (first|intro _|(refine a0D .sub ?_;(refine a3D rfl rfl (by omega) ?_;rw [hidx]))|(refine a0J ?_;refine a2B (enc:=B) (ad:=a6) (c:=c6) (xs:=S) (n+10) rfl rfl a0I hSl.symm rfl (by omega) ?_)|(refine a0K ?_;refine a1T (enc:=B) (ad:=a6) (c:=c6) (xs:=S) (n+10) 0#8 rfl a0I hy ?_)|(refine a0D .neq ?_;refine a2E rfl rfl rfl ?_)|(refine a3X ?_;(refine a7V (enc:=B) (xs:=S) (n+10) rfl rfl rfl hSl.symm (by omega) ?_;rw [hQ]))|(refine k_fn 72 ?_;(refine a0A (fun hh=>b3L _ (cutA a6 c6 0) Q.length (c6 - 0) Q (b3Z (l:=S) (enc:=B) (n+10) (by omega) hQ hh) rfl (by omega) hc) rfl (fun ⟨a53,c53⟩ _=>?_);(try dsimp only);rw [hQ4,hQZ]))|refine wK ?_|refine wL ?_ ?_|fail)
 refine a0H [(6,_)] rtD9_2 [] [⟨[0,1,2,3,4,5,6,7,8,9,10,11,12,13,14,15,16,17,18,19,20,21,22],[],none⟩] mixed cv (by kernel_rfl) (by kernel_rfl) ?_
 repeat' (first|intro _|refine sg ?_|(refine a0Z ?_;refine po (by first|refine a2B (enc:=B) (ad:=a6) (c:=c6) (xs:=S) 0 rfl rfl a0I hSl.symm rfl (by omega) fz|refine a2B (enc:=B) (ad:=a6) (c:=c6) (xs:=S) 1 rfl rfl a0I hSl.symm rfl (by omega) fz|refine a2B (enc:=B) (ad:=a6) (c:=c6) (xs:=S) 2 rfl rfl a0I hSl.symm rfl (by omega) fz|refine a2B (enc:=B) (ad:=a6) (c:=c6) (xs:=S) 3 rfl rfl a0I hSl.symm rfl (by omega) fz|fail) ?_)|(refine a1E ?_;refine po (by first|refine a1T (enc:=B) (ad:=a6) (c:=c6) (xs:=S) 0 x0 rfl a0I g0 fz|refine a1T (enc:=B) (ad:=a6) (c:=c6) (xs:=S) 1 x1 rfl a0I g1 fz|refine a1T (enc:=B) (ad:=a6) (c:=c6) (xs:=S) 2 x2 rfl a0I g2 fz|refine a1T (enc:=B) (ad:=a6) (c:=c6) (xs:=S) 3 x3 rfl a0I g3 fz|fail) ?_)|refine pw ?_|refine pdd ?_|refine ow ?_|fail)
 all_goals dsimp only [cA,nA]
 repeat' (first|intro _|(refine a3X ?_;(refine b0G (xs:=Z) 6 rfl rfl rfl hZl.symm (by omega) ?_;rw [hZd,hql]))|refine wK ?_|refine wL ?_ ?_|fail)
 refine a0N (a53,c53) rfl rfl rfl rfl (by rw [←hk];rfl) trivial ?_
 exact ent
end Go.Dp
