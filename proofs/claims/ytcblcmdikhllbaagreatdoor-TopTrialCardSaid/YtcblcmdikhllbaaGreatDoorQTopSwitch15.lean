/-
  The wheel, with the power on: what a newer generation reads, plain.
  StateBytes of the reference, walked.
  States as bytes, cut and spoilt, plain.
  device: its memory's pointer; met, keeps, walked.
  boot.Activate, and the reference's Start, Confirm, Activate, Drop, walked.
  device: opens, walked.
  session.Newer, First of the states' laws, good of the sessions' laws, walked.
  session.Admit, walked, and awake of the laws of session.
  awake of the laws of session, and the law SessionRises, walked.
  The law SessionNewer, walked.
  device: hears, walked.
  device: takes, walked.
  Conditions: those that stand in each theorem.
-/
import Derived.Test.YtcblcmdikhllbaaGreatDoorQTopSwitch3
import Derived.Test.YtcblcmdikhllbaaGreatDoorQTopSwitch14
import Derived.Test.YtcblcmdikhllbaaGreatDoorQTopSwitch11
import Derived.Test.YtcblcmdikhllbaaGreatDoorQTopSwitch6
import Derived.Test.YtcblcmdikhllbaaGreatDoorQTopSwitch9
import Derived.Test.YtcblcmdikhllbaaGreatDoorQTopSwitch13
import Derived.Test.YtcblcmdikhllbaaGreatDoorQTopSwitch5
set_option linter.unusedVariables false
set_option linter.unusedSimpArgs false
namespace Go.Dp
def HeadOk (S:List (BitVec 8)) (g:Nat):Prop:=(num32 (S.take 4)).toNat≤g∨S[0]?=some 0xff#8∨∀ i,4≤i→i<256→S[i]?=some 0xff#8
def WhOk (l:List (BitVec 8)) (g:Nat):Prop:=∀ s,s<8→HeadOk (seg l ((6+s)*256) 256) g
theorem HeadOk.mono {S:List (BitVec 8)} {g g':Nat} (h:HeadOk S g) (hg:g≤g'):HeadOk S g':=h.imp (fun h=>Nat.le_trans h hg) id
theorem WhOk.mono {l:List (BitVec 8)} {g g':Nat} (h:WhOk l g) (hg:g≤g'):WhOk l g':=fun s hs=>(h s hs).mono hg
theorem WhOk.keep {l l':List (BitVec 8)} {g:Nat} (h:WhOk l g) (e:seg l' 1536 2048=seg l 1536 2048):WhOk l' g:=fun s hs=>by
 have:seg l' ((6+s)*256) 256=seg l ((6+s)*256) 256:=by
  have:=congrArg (fun z=>seg z (s*256) 256) e
  rw [seg_seg (by omega),seg_seg (by omega),show 1536+s*256=(6+s)*256 by omega] at this
  exact this
 rw [this]
 exact h s hs
theorem head_blank {l:List (BitVec 8)} {A g:Nat} (h:Blank l A 256):HeadOk (seg l A 256) g := .inr (.inl (by rw [seg_get,if_pos (by omega),h.at (by omega) (by omega)]))
theorem plW_b {z:Nat} (h1:1≤z) (h2:z≤16):8≤plW z∧plW z≤18∧plW z*(z+13)≤256:=by
 have h3:plW z*(z+13)≤256:=Nat.div_mul_le_self 256 (z+13)
 have h4:8≤plW z:=(Nat.le_div_iff_mul_le (by omega)).2 (by omega)
 have h5:plW z≤18:=by
  have:plW z<19:=(Nat.div_lt_iff_lt_mul (by omega)).2 (by omega)
  omega
 exact ⟨h4,h5,h3⟩
theorem atW_first {z s:Nat} (h:0<plW z):atW z (s*plW z)=(6+s)*256:=by
 unfold atW
 rw [Nat.mul_div_cancel _ h,Nat.mul_mod_left,Nat.zero_mul,Nat.add_zero]
theorem head_off {l:List (BitVec 8)} {g z s:Nat} {g':BitVec 32} (hl:l.length=3584) (h:WhOk l g) (hs:s<8) (hg:g<g'.toNat) (hg2:g'.toNat<4278190080) (h1:1≤z) (h2:z≤16):secOn l g' z s=false:=by
 have hp:=(plW_b h1 h2).1
 unfold secOn recAt
 rw [atW_first (by omega)]
 have hS:=h s hs
 have e:∀ i,i<z+13→(seg l ((6+s)*256) (z+13))[i]?=(seg l ((6+s)*256) 256)[i]?:=fun i hi=>by
  rw [seg_get,seg_get,if_pos hi,if_pos (by omega)]
 have e4:(seg l ((6+s)*256) (z+13)).take 4=(seg l ((6+s)*256) 256).take 4:=by
  rw [←seg_zero,←seg_zero,seg_seg (by omega),seg_seg (by omega)]
 have:recC g' z (seg l ((6+s)*256) (z+13))=none:=by
  unfold recC
  by_cases q1:(seg l ((6+s)*256) (z+13)).getD (z+12) 0#8≠0#8
  ·rw [if_pos q1]
  rw [if_neg q1]
  by_cases q2:crcOk ((seg l ((6+s)*256) (z+13)).take (z+12))=false
  ·rw [if_pos q2]
  rw [if_neg q2,if_pos]
  rw [e4]
  intro hc
  rcases hS with q|q|q
  ·rw [hc] at q
   omega
  ·have hlen:((seg l ((6+s)*256) 256).take 4).length=4:=by rw [List.length_take,seg_len (by omega)];omega
   obtain ⟨a,b,c,d,he⟩:∃ a b c d,(seg l ((6+s)*256) 256).take 4=[a,b,c,d]:=list4 hlen
   have ha:a=0xff#8:=by
    have:((seg l ((6+s)*256) 256).take 4)[0]?=some 0xff#8:=by rw [List.getElem?_take,if_pos (by omega),q]
    rw [he] at this
    simpa using this
   have hn:(num32 ((seg l ((6+s)*256) 256).take 4)).toNat=numN ((seg l ((6+s)*256) 256).take 4):=num32_N _ (by rw [hlen];exact Nat.le_refl _)
   rw [hc,he,ha] at hn
   simp only [numN,List.foldl_cons,List.foldl_nil] at hn
   have:(0xff#8:BitVec 8).toNat=255:=rfl
   omega
  ·refine q1 ?_
   rw [List.getD_eq_getElem?_getD,e _ (by omega),q _ (by omega) (by omega)]
   decide
 rw [this]
 rfl
theorem wh_new {l:List (BitVec 8)} {g z:Nat} {g':BitVec 32} (hl:l.length=3584) (h:WhOk l g) (hg:g<g'.toNat) (hg2:g'.toNat<4278190080) (h1:1≤z) (h2:z≤16):recsW l g' z 8=[]∧rdyW l g' z 8 = -1∧nxtW l g' z=0:=by
 have ho:∀ s,s<8→secOn l g' z s=false:=fun s hs=>head_off hl h hs hg hg2 h1 h2
 have hr:∀ n,n≤8→recsW l g' z n=[]∧rdyW l g' z n = -1:=fun n=>by
  induction n with
  | zero=>intro _;exact ⟨rfl,rfl⟩
  | succ n ih =>
   intro hn
   have e:=ho n (by omega)
   have:=ih (by omega)
   unfold recsW rdyW
   rw [e]
   exact this
 refine ⟨(hr 8 (Nat.le_refl _)).1,(hr 8 (Nat.le_refl _)).2,?_⟩
 unfold nxtW
 rw [(hr 8 (Nat.le_refl _)).2]
 rfl
theorem recB_len (g id:BitVec 32) (d:List (BitVec 8)):(recB g id d).length=d.length+12:=by
 simp [recB,crcPut_len,be4]
theorem recB_take (g id:BitVec 32) (d:List (BitVec 8)):(recB g id d).take 4=be4 g:=by
 unfold recB crcPut
 simp only [List.append_assoc]
 exact List.take_left' (be4_len g)
structure LiveW (l:List (BitVec 8)) (g:BitVec 32) (z:Nat) (rdy:Int) (nxt:Nat):Prop where
 fresh:nxt % plW z=0→rdy≠((nxt / plW z:Nat):Int)
 mid:nxt % plW z≠0→rdy=((nxt / plW z:Nat):Int)∧(num32 (seg l ((6+nxt / plW z)*256) 4)).toNat≤g.toNat
theorem live_new (l:List (BitVec 8)) (g:BitVec 32) (z:Nat):LiveW l g z (-1) 0:=⟨fun _=>by rw [Nat.zero_div];decide,fun h=>absurd (Nat.zero_mod _) h⟩
theorem wh_set {l l':List (BitVec 8)} {s g:Nat} (h:WhOk l g) (hs:s<8) (ho:∀ a m,a+m≤(6+s)*256∨(6+s)*256+256≤a→seg l' a m=seg l a m) (hh:(num32 (seg l' ((6+s)*256) 4)).toNat≤g):WhOk l' g:=fun t ht=>by
 by_cases e:t=s
 ·subst e
  refine .inl ?_
  rw [←seg_zero,seg_seg (by omega),Nat.add_zero]
  exact hh
 ·rw [ho _ _ (by omega)]
  exact h t ht
theorem addW_on {f:Fl} {n nxt z:Nat} {g id:BitVec 32} {rdy:Int} {d:List (BitVec 8)} (hf:Few f n) (hw:n<f.wear) (hp:f.pw = .on) (hz:d.length=z) (h1:1≤z) (h2:z≤16) (hn:nxt<8*plW z) (hL:LiveW f.bs g z rdy nxt) (hW:WhOk f.bs g.toNat) :
  ∃ f',addW f g rdy nxt id d=(f',0)∧Stay f f' (n+1)∧f'.pw = .on∧(∀ a m,a+m≤1536→seg f'.bs a m=seg f.bs a m)∧WhOk f'.bs g.toNat∧LiveW f'.bs g z ((nxt / plW z:Nat):Int) (nxt+1):=by
 have hb:=hf.bs
 obtain ⟨w1,w2,w3⟩:=plW_b h1 h2
 obtain ⟨P,hP⟩:∃ P,plW z=P:=⟨_,rfl⟩
 obtain ⟨s,hs⟩:∃ s,nxt / P=s:=⟨_,rfl⟩
 obtain ⟨j,hj⟩:∃ j,nxt % P=j:=⟨_,rfl⟩
 rw [hP] at w1 w2 w3 hn
 have hdm:P*s+j=nxt:=by rw [←hs,←hj];exact Nat.div_add_mod nxt P
 have hjP:j<P:=by rw [←hj];exact Nat.mod_lt _ (by omega)
 have hs8:s<8:=by rw [←hs];exact (Nat.div_lt_iff_lt_mul (by omega)).2 hn
 obtain ⟨A,hA⟩:∃ A,(6+s)*256=A:=⟨_,rfl⟩
 have hA1:1536≤A∧A+256≤3584:=by omega
 obtain ⟨a,ha⟩:∃ a,A+j*(z+13)=a:=⟨_,rfl⟩
 have hjz:j*(z+13)+(z+13)≤256:=by
  have:(j+1)*(z+13)≤P*(z+13):=Nat.mul_le_mul_right _ hjP
  rw [Nat.succ_mul] at this
  omega
 have hat:atW z nxt=a:=by unfold atW;rw [hP,hs,hj,hA,ha]
 have hjz0:j≠0→13≤j*(z+13):=fun h=>by
  have:1*(z+13)≤j*(z+13):=Nat.mul_le_mul_right _ (by omega)
  omega
 have hfr:=hL.fresh
 have hmi:=hL.mid
 rw [hP,hs,hj] at hfr hmi
 rw [hA] at hmi
 have hent:∃ f1,entF f rdy s=(f1,0)∧Stay f f1 (n+1)∧f1.pw = .on∧(∀ b m,b+m≤A∨A+256≤b→seg f1.bs b m=seg f.bs b m)∧(j=0→Blank f1.bs A 256)∧(j≠0→f1=f):=by
  unfold entF
  by_cases e:(s:Int)=rdy
  ·rw [if_pos e]
   have hj0:j≠0:=fun e0=>hfr e0 e.symm
   exact ⟨f,rfl,(Stay.refl hf).mono (by omega),hp,fun _ _ _=>rfl,fun h=>absurd h hj0,fun _=>rfl⟩
  ·have hj0:j=0:=by
    by_cases h:j=0
    ·exact h
    ·exact absurd (hmi h).1.symm e
   rw [if_neg e,hA]
   by_cases hbl:blankB (seg f.bs A 256)=true
   ·rw [if_pos hbl]
    exact ⟨f,rfl,(Stay.refl hf).mono (by omega),hp,fun _ _ _=>rfl,fun _=>(blankB_iff (by omega)).1 hbl,fun h=>absurd hj0 h⟩
   ·rw [if_neg hbl]
    obtain ⟨st,ho⟩:=eraseF_out (s:=6+s) hf (by omega) hw (on_up hp)
    rcases ho with ⟨e0,e1,e2⟩|⟨e0,e1,_⟩
    ·rw [hA] at e2
     refine ⟨(eraseF f (6+s)).1,Prod.ext rfl e0,st,st.on hp,fun b m hh=>?_,fun _=>?_,fun h=>absurd hj0 h⟩
     ·rw [e2,seg_fill_out (by omega) (by omega)]
     ·show seg _ _ _=_
      rw [e2,seg_fill_in (by omega) (Nat.le_refl _) (Nat.le_refl _)]
    ·rw [st.on hp] at e1;cases e1
 obtain ⟨f1,q1,s1,p1,o1,b1,k1⟩:=hent
 have hb1:=s1.few.bs
 have hR:(recB g id d).length=z+12:=by rw [recB_len,hz]
 obtain ⟨R,hRe⟩:∃ R,recB g id d=R:=⟨_,rfl⟩
 have hR4:R.take 4=be4 g:=by rw [←hRe];exact recB_take g id d
 rw [hRe] at hR
 obtain ⟨s2,c2⟩:=progF_out (a:=a) (xs:=R) s1.few (by omega) (on_up p1)
 have p2:=s2.on p1
 obtain ⟨⟨f2,v2⟩,hr2⟩:∃ r,progF f1 a R=r:=⟨_,rfl⟩
 rw [hr2] at s2 c2 p2
 dsimp only at s2 c2 p2
 rcases c2 with ⟨v20,_,b2⟩|⟨_,e1,_⟩
 rotate_left
 ·rw [p2] at e1;cases e1
 subst v20
 have hb2:=s2.few.bs
 have hone:([0#8]:List (BitVec 8)).length=1:=rfl
 obtain ⟨s3,c3⟩:=progF_out (a:=a+(z+12)) (xs:=[0#8]) s2.few (by rw [hone];omega) (on_up p2)
 have p3:=s3.on p2
 obtain ⟨⟨f3,v3⟩,hr3⟩:∃ r,progF f2 (a+(z+12)) [0#8]=r:=⟨_,rfl⟩
 rw [hr3] at s3 c3 p3
 dsimp only at s3 c3 p3
 rcases c3 with ⟨v30,_,b3⟩|⟨_,e1,_⟩
 rotate_left
 ·rw [p3] at e1;cases e1
 subst v30
 have hadd:addW f g rdy nxt id d=(f3,0):=by
  unfold addW
  rw [hz,hP,if_neg (by omega),hs,hat,hp]
  simp only [q1,hRe,hr2,hr3]
  rfl
 have o3:∀ b m,b+m≤A∨A+256≤b→seg f3.bs b m=seg f.bs b m:=fun b m hh=>by
  rw [b3,seg_prog_out (by rw [hone];omega) (by rw [hone];omega),b2,seg_prog_out (by omega) (by omega),o1 b m hh]
 have hhead:(num32 (seg f3.bs A 4)).toNat≤g.toNat:=by
  rw [b3,seg_prog_out (by rw [hone];omega) (.inl (by omega)),b2]
  by_cases hj0:j=0
  ·have ha0:a=A:=by rw [←ha,hj0,Nat.zero_mul,Nat.add_zero]
   have hbl:=b1 hj0
   have:seg (progB f1.bs a R) A 4=be4 g:=by
    rw [ha0]
    have e:=seg_prog_blank (l:=f1.bs) (xs:=R) (a:=A) (by omega) (hbl.sub (Nat.le_refl _) (by omega))
    have e2:=congrArg (fun x=>x.take 4) e
    rw [←hR4]
    rw [←e2,←seg_zero,seg_seg (by omega),Nat.add_zero]
   rw [this,num32_be4]
   exact Nat.le_refl _
  ·rw [seg_prog_out (by omega) (.inl (by have:=hjz0 hj0;omega)),k1 hj0]
   exact (hmi hj0).2
 refine ⟨f3,hadd,((s1.trans s2).trans s3),p3,fun b m hh=>o3 b m (by omega),wh_set hW hs8 (by rw [hA];exact o3) (by rw [hA];exact hhead),?_⟩
 rw [hP,hs]
 have hnx:(nxt+1) / P=(if j+1=P then s+1 else s)∧(nxt+1) % P=(if j+1=P then 0 else j+1):=by
  by_cases e:j+1=P
  ·rw [if_pos e,if_pos e]
   have:nxt+1=P*(s+1):=by rw [Nat.mul_add,Nat.mul_one];omega
   rw [this,Nat.mul_div_cancel_left _ (by omega),Nat.mul_mod_right]
   exact ⟨rfl,rfl⟩
  ·rw [if_neg e,if_neg e]
   have:nxt+1=(j+1)+P*s:=by omega
   rw [this,Nat.add_mul_div_left _ _ (by omega),Nat.add_mul_mod_self_left,Nat.div_eq_of_lt (by omega),Nat.mod_eq_of_lt (by omega)]
   exact ⟨by omega,rfl⟩
 constructor
 ·rw [hP,hnx.1,hnx.2]
  intro h
  by_cases e:j+1=P
  ·rw [if_pos e];omega
  ·rw [if_neg e] at h;omega
 ·rw [hP,hnx.1,hnx.2]
  intro h
  by_cases e:j+1=P
  ·rw [if_pos e] at h;exact absurd rfl h
  ·rw [if_neg e,hA]
   exact ⟨rfl,hhead⟩
open Go.RowKit Go.Proofs
theorem slots_len {x:StD} (h:x.may=true):((x.s0.nothing=false∧x.s0.h.l.length=32)∨(x.s0.nothing=true∧x.s0.h.l.length=0))∧((x.s1.nothing=false∧x.s1.h.l.length=32)∨(x.s1.nothing=true∧x.s1.h.l.length=0)):=by
 have k1:∀ s:SlotD,s.something=true→s.nothing=false∧s.h.l.length=32:=fun s h=>by
  simp only [SlotD.something,decide_eq_true_eq] at h
  exact ⟨decide_eq_false (by omega),h.1⟩
 have k2:∀ s:SlotD,s.nothing=true→s.h.l.length=0:=fun s h=>by simp only [SlotD.nothing,decide_eq_true_eq] at h;exact h.2.2
 simp only [StD.may,Bool.and_eq_true,Bool.or_eq_true,decide_eq_true_eq] at h
 have hc:=h.1.1.2
 have ho:((x.oth.nothing=false∧x.oth.h.l.length=32)∨(x.oth.nothing=true∧x.oth.h.l.length=0)):=by
  rcases h.1.2 with h|h
  ·exact .inl (k1 _ h)
  ·exact .inr ⟨h.1,k2 _ h.1⟩
 have hc:=k1 _ hc
 unfold StD.cur at hc
 unfold StD.oth at ho
 by_cases ha:x.a=0
 ·rw [if_pos ha] at hc ho;exact ⟨.inl hc,ho⟩
 ·rw [if_neg ha] at hc ho;exact ⟨ho,.inl hc⟩
theorem slot_len_yes {x:SlotD} (h:x.nothing=false) (hl:x.h.l.length=32):x.by.length=39:=by
 rw [slot_by_yes h];simp [be4,be2,hl]
theorem slot_len_no {x:SlotD} (h:x.nothing=true):x.by.length=1:=by rw [slot_by_no h];rfl
theorem tail_len_on {x:StD} (h:x.may=true) (ho:x.on=true):x.tail.length=45:=by
 have hm:=(may_iff.1 h).m
 rw [if_pos ho] at hm
 rw [StD.tail,if_pos ho,List.length_cons,by_len,may_len hm]
theorem tail_len_off {x:StD} (ho:x.on=false):x.tail.length=1:=by rw [StD.tail,if_neg (by simp [ho])];rfl
theorem by_len4 (x:StD):x.by.length=10+x.s0.by.length+x.s1.by.length+x.tail.length:=by
 rw [StD.by,List.length_append,List.length_append,List.length_append,head_len]
theorem by_245 {x:StD} (h:x.may=true):x.by.length≤245:=by
 obtain ⟨k0,k1⟩:=slots_len h
 rw [by_len4]
 have t:x.tail.length≤45:=by
  cases ho:x.on
  ·rw [tail_len_off ho];omega
  ·rw [tail_len_on h ho];omega
 have w0:x.s0.by.length≤39:=by
  rcases k0 with ⟨a,b⟩|⟨a,b⟩
  ·rw [slot_len_yes a b];omega
  ·rw [slot_len_no a];omega
 have w1:x.s1.by.length≤39:=by
  rcases k1 with ⟨a,b⟩|⟨a,b⟩
  ·rw [slot_len_yes a b];omega
  ·rw [slot_len_no a];omega
 omega
def rtD26_0:List Row:=[⟨some 24,[],[],none⟩,⟨some 25,[0],[0],none⟩,⟨some 26,[1],[0,1],none⟩,⟨some 27,[],[],none⟩,⟨some 28,[],[],none⟩,⟨some 29,[3,4],[3,4],none⟩,⟨some 30,[5],[3,4,5],none⟩,⟨some 31,[2,6],[0,1,2,3,4,5,6],none⟩]
theorem cl_Write (H:List Hl) (b:Nat) (ad:Option Addr) (c:Nat) (f:Fl) (h:Hid) (ad2:Option Addr) (c2:Nat) (q:List (BitVec 8)) (hk:FlOk f h) (hq:Rs (stars H) B ad2 c2 q) (hn:q.length≤245) (hd:f.pw.isDown=false) :
  Spec Tryz.prog 68 [.pointer (some ⟨b,0,none⟩),.slice ad2 q.length c2] (fB b ad c f h::fR ad c f::H) (fun h':Hid=>FlOk (cellW f q).1 h') (fun _=>I (cellW f q).2) (fun h'=>fB b ad c (cellW f q).1 h'::fR ad c (cellW f q).1::H):=by
 cases hf:foundC f.bs with
 | none =>
  obtain ⟨h0,h1⟩:=foundC_no hf
  rw [cellW_none hn hd hf]
  exact cl_Write_none H b ad c f h ad2 c2 q hk hq hn hd h0 h1
 | some x =>
  obtain ⟨⟨k,r⟩,w⟩:=x
  obtain ⟨_,hw⟩:=foundC_copy hf
  rw [cellW_some hn hd hf]
  rcases (by omega:w=0∨w=1) with rfl|rfl
  ·rw [if_pos rfl];exact cl_Write_0 H b ad c f h ad2 c2 q k r hk hq hn hd hf
  ·rw [if_neg (by decide)];exact cl_Write_1 H b ad c f h ad2 c2 q k r hk hq hn hd hf
theorem xf_loadp:XFn Tryz.prog 69 (Extern.Atomic.loadT .ptr):=⟨by kernel_rfl,by kernel_rfl⟩
theorem xf_storep:XFn Tryz.prog 99 Extern.Atomic.storeT:=⟨by kernel_rfl,by kernel_rfl⟩
theorem u_mem:Tryz.prog.underlying 70=some (.pointer 84):=by kernel_rfl
theorem u_uns:Tryz.prog.underlying 74=some .unsafePointer:=by kernel_rfl
theorem lies_mem:liesAt Tryz.prog Tryz.prog.depth 84 (18 / Tryz.prog.cellsOf 84) 0 84 1=true:=by kernel_rfl
theorem dp_Load (H H1 H2:List Hl) (db i:Nat) (T:TypeId) (cs:List Value) (mb:Nat) (ms:List Value) [s1:SBox H db T cs H1] [s2:SBox H mb 84 ms H2] (hv:cs[i]?=some (.pointer (some ⟨mb,0,none⟩))) (hl:ms.length=18) :
  Spec Tryz.prog 33 [.pointer (some ⟨db,i,none⟩)] H (fun _:Unit=>True) (fun _ => .pointer (some ⟨mb,0,none⟩)) (fun _=>H):=by
 refine spec_of _ Tryz.func33 rfl Tryz.ntmps33 (by kernel_rfl) rfl (fun W=>?_)
 repeat' (first|intro _|refine cw ?_|refine cw2 ?_ ?_|refine ow ?_|refine ow2 ?_ ?_|fail)
 refine o1_xloadp xf_loadp rfl hv ?_
 repeat' (first|intro _|refine cw ?_|refine cw2 ?_ ?_|refine ow ?_|refine ow2 ?_ ?_|fail)
 refine o1_from_unsafe u_uns u_mem (by kernel_rfl) rfl (by rw [hl];exact lies_mem) ?_
 repeat' (first|intro _|refine cw ?_|refine cw2 ?_ ?_|refine ow ?_|refine ow2 ?_ ?_|fail)
 exact rt_tmp () rfl rfl rfl trivial (Ent.refl _)
theorem dp_Store (H H1 H2:List Hl) (db i:Nat) (T:TypeId) (cs:List Value) (mb:Nat) (ms:List Value) [s1:SBox H db T cs H1] [s2:SBox H mb 84 ms H2] (hi:i<cs.length) (hm:0<ms.length) :
  Spec Tryz.prog 50 [.pointer (some ⟨db,i,none⟩),.pointer (some ⟨mb,0,none⟩)] H (fun _:Unit=>True) (fun _ => .tuple #[]) (fun _ => .box db T (cs.set i (.pointer (some ⟨mb,0,none⟩)))::H1):=by
 refine spec_of _ Tryz.func50 rfl Tryz.ntmps50 (by kernel_rfl) rfl (fun W=>?_)
 repeat' (first|intro _|refine cw ?_|refine cw2 ?_ ?_|refine ow ?_|refine ow2 ?_ ?_|fail)
 refine o1_to_unsafe u_mem u_uns (by kernel_rfl) rfl (List.getElem?_eq_getElem hm) ?_
 repeat' (first|intro _|refine cw ?_|refine cw2 ?_ ?_|refine ow ?_|refine ow2 ?_ ?_|fail)
 refine o1_xstorep xf_storep rfl hi ?_
 repeat' (first|intro _|refine cw ?_|refine cw2 ?_ ?_|refine ow ?_|refine ow2 ?_ ?_|fail)
 exact rt_none () rfl rfl trivial (Ent.refl _)
abbrev dvB (db fb:Nat) (ka:Option Addr) (kn kc:Nat) (mp:Option Addr):Hl := .box db 78 [.slice ka kn kc,.pointer (some ⟨fb,0,none⟩),.pointer mp]
abbrev pM (mb:Nat):Option Addr:=some ⟨mb,0,none⟩
abbrev meB (mb:Nat) (x:StD) (lp:Option Addr):Hl := .box mb 84 [I x.a,I x.t,W4 x.f,W4 x.g,W4 x.s0.v,I x.s0.n,Bs x.s0.h,W4 x.s1.v,I x.s1.n,Bs x.s1.h,.bool x.on,W4 x.m.s,W4 x.m.v,I x.m.n,I x.m.z,I x.m.p,Bs x.m.h,.pointer lp]
theorem dv_Store (H:List Hl) (db fb:Nat) (ka:Option Addr) (kn kc:Nat) (mp:Option Addr) (mb:Nat) (x:StD) (lp:Option Addr) :
  Spec Tryz.prog 50 [.pointer (some ⟨db,2,none⟩),.pointer (some ⟨mb,0,none⟩)] (dvB db fb ka kn kc mp::meB mb x lp::H) (fun _:Unit=>True) (fun _ => .tuple #[]) (fun _=>dvB db fb ka kn kc (pM mb)::meB mb x lp::H) :=
 dp_Store _ (meB mb x lp::H) (dvB db fb ka kn kc mp::H) db 2 78 [.slice ka kn kc,.pointer (some ⟨fb,0,none⟩),.pointer mp] mb _ (by simp) (by simp)
theorem dv_Load (H:List Hl) (db fb:Nat) (ka:Option Addr) (kn kc:Nat) (mb:Nat) (x:StD) (lp:Option Addr) :
  Spec Tryz.prog 33 [.pointer (some ⟨db,2,none⟩)] (dvB db fb ka kn kc (pM mb)::meB mb x lp::H) (fun _:Unit=>True) (fun _ => .pointer (some ⟨mb,0,none⟩)) (fun _=>dvB db fb ka kn kc (pM mb)::meB mb x lp::H) :=
 dp_Load _ (meB mb x lp::H) (dvB db fb ka kn kc (pM mb)::H) db 2 78 [.slice ka kn kc,.pointer (some ⟨fb,0,none⟩),.pointer (pM mb)] mb _ rfl rfl
section
variable {P:Program} {n:Nat} {H:List Hl} {e:Ev} {C:Value→List Hl→Prop} {ty:TypeId}
theorem o1_call_bb (b b2:Nat) {f:FuncId} {xs:List Operand} {args:List Value} {ats:Array TypeId} {X:Type} {good:X→Prop} {val:X→Value} {res:X→List Hl} {T T2:TypeId} {cs cs2:List Value} {H' H2:List Hl} [s:SBox H b T cs H'] [s2:SBox H' b2 T2 cs2 H2]
  (hs:Has (.box b T cs :: .box b2 T2 cs2::H2)→Spec P f args (.box b T cs :: .box b2 T2 cs2::H2) good val res) (hxs:opds e xs=some args) (h:∀ r,good r→C (val r) (res r)):O1 P (.call ⟨.value (.func f),xs.toArray,ats⟩) ty n e H C :=
 O1.ent (H2 := .box b T cs :: .box b2 T2 cs2::H2) (fun h hh=>sep_mono (s.s.out h hh) (fun _ a=>a) (s2.s.out)) (o1_call hs hxs h)
end
theorem dv_met (H:List Hl) (db fb:Nat) (ka:Option Addr) (kn kc:Nat) (mp:Option Addr) (e:Int) (he:e≠11) :
  Spec Tryz.prog 35 [.pointer (some ⟨db,0,none⟩),I e] (dvB db fb ka kn kc mp::H) (fun _:Unit=>True) (fun _=>I e) (fun _=>dvB db fb ka kn kc mp::H):=by
 refine spec_fn (res:=fun _:Unit=>[dvB db fb ka kn kc mp]) [dvB db fb ka kn kc mp] H Tryz.func35 rfl Tryz.ntmps35 (by kernel_rfl) rfl (fun W=>?_)
 dsimp only [List.cons_append,List.nil_append]
 repeat' (first|intro _|refine cw ?_|refine cw2 ?_ ?_|(refine k_binOp .eql ?_;refine o1_eql_f rfl rfl he ?_)|refine ow ?_|refine ow2 ?_ ?_|fail)
 refine rt_tmp () rfl rfl rfl trivial ?_
 exact ent
set_option maxHeartbeats 4000000 in
theorem dv_keeps (H:List Hl) (db fb:Nat) (ka:Option Addr) (kn kc:Nat) (mp:Option Addr) (ad:Option Addr) (c:Nat) (f f1:Fl) (h:Hid) (x:StD) (lp:Option Addr) (hm:x.may=true) (hx:x.Rd (stars H)) (hk:FlOk f h) (hd:f.pw.isDown=false) (hW:cellW f x.by=(f1,0)) :
  Spec Tryz.prog 32 [.pointer (some ⟨db,0,none⟩),x.V,.pointer lp] (dvB db fb ka kn kc mp::fB fb ad c f h::fR ad c f::H) (fun r:Hid × Nat=>FlOk f1 r.1) (fun _=>I 0) (fun r=>dvB db fb ka kn kc (pM r.2)::fB fb ad c f1 r.1::fR ad c f1::meB r.2 x lp::H):=by
 refine spec_fn (res:=fun r:Hid × Nat=>[dvB db fb ka kn kc (pM r.2),fB fb ad c f1 r.1,fR ad c f1,meB r.2 x lp]) [dvB db fb ka kn kc mp,fB fb ad c f h,fR ad c f] H Tryz.func32 rfl Tryz.ntmps32 (by kernel_rfl) rfl (fun W=>?_)
 dsimp only [List.cons_append,List.nil_append]
 have hql:=by_245 hm
 obtain ⟨q,hq⟩:∃ q,x.by=q:=⟨_,rfl⟩
 rw [hq] at hql hW
 repeat' (first|intro _|refine cw ?_|refine cw2 ?_ ?_|(refine k_box ?_;refine o1_box rfl rfl (fun b4=>?_))|(refine k_fn 67 ?_;(refine o1_call (fun _=>st_Bytes _ x hm ⟨hx.s0.up,hx.s1.up,hx.m.up⟩) rfl (fun ⟨a11,c11⟩ _=>?_);(try dsimp only);rw [hq]))|(refine k_load ?_;refine ox_load (b:=db) (i:=1) rfl rfl ?_)|(refine k_fn 68 ?_;(refine o1_call_fl fb ad c (fun hh=>cl_Write _ fb ad c f h a11 c11 q hk (rx_row (has_tail (has_tail hh))) hql hd) rfl (fun h1 hk1=>?_);(rw [hW] at hk1 ⊢;dsimp only at hk1 ⊢)))|refine ow ?_|refine ow2 ?_ ?_|fail)
 refine st_stages' [(0,_),(4,_),(2,_)] rtD26_0 [6,7] [⟨[0,1,2,3,4,5],[],some 6⟩,⟨[],[0,1,2],some 7⟩,⟨[],[],none⟩] mixed cv (by kernel_rfl) (by kernel_rfl) ?_
 repeat' (first|intro _|refine sg ?_|refine pw ?_|refine pdd ?_|(refine k_box ?_;refine o1_box rfl rfl (fun mb=>?_))|(refine k_fn 50 ?_;refine o1_call_bb db mb (fun _=>dv_Store _ db fb ka kn kc mp mb x lp) rfl (fun _ _=>?_))|refine ow ?_|fail)
 all_goals dsimp only [List.cons_append,List.nil_append]
 repeat' (first|intro _|refine cw ?_|refine cw2 ?_ ?_|refine ow ?_|refine ow2 ?_ ?_|fail)
 refine rt_tmp (h1,mb) rfl rfl rfl hk1 ?_
 exact ent
def rtF3_0:List Row:=[⟨some 29,[],[],none⟩,⟨some 30,[0],[0],none⟩,⟨some 31,[],[],none⟩,⟨some 32,[2],[2],none⟩,⟨some 33,[],[],none⟩,⟨some 34,[4],[4],none⟩,⟨some 35,[],[],none⟩,⟨some 36,[6],[6],none⟩,⟨some 37,[7],[6,7],none⟩,⟨some 38,[3,5,8],[2,3,4,5,6,7,8],none⟩,⟨some 39,[],[],none⟩,⟨some 40,[10,1,0,1,2,3,4,5,6,7,8,9],[0,1,2,3,4,5,6,7,8,9,10],none⟩,⟨none,[11,9,8,0,1,2,3,4,5,6,7,8,9],[0,1,2,3,4,5,6,7,8,9,10,11],none⟩]
def rtF3_1:List Row:=[⟨some 29,[],[],none⟩,⟨some 30,[0],[0],none⟩,⟨some 31,[],[],none⟩,⟨some 32,[2],[2],none⟩,⟨some 33,[],[],none⟩,⟨some 34,[4],[4],none⟩,⟨some 35,[],[],none⟩,⟨some 36,[6],[6],none⟩,⟨some 37,[7],[6,7],none⟩,⟨some 38,[3,5,8],[2,3,4,5,6,7,8],none⟩,⟨some 39,[],[],none⟩,⟨some 40,[10,1,0,1,2,3,4,5,6,7,8,9],[0,1,2,3,4,5,6,7,8,9,10],none⟩,⟨none,[11,9,8,0,1,2,3,4,5,6,7,8,9],[0,1,2,3,4,5,6,7,8,9,10,11],none⟩]
theorem act_0 {t:Int} {f g:BitVec 32} {s0 s1:SlotD} {on:Bool} {m:ManD}:actS ⟨0,t,f,g,s0,s1,on,m⟩=⟨1,3,f,g,s0,⟨m.v,m.n,m.h⟩,false,zM⟩:=by simp [actS,newSl]
theorem act_1 {t:Int} {f g:BitVec 32} {s0 s1:SlotD} {on:Bool} {m:ManD}:actS ⟨1,t,f,g,s0,s1,on,m⟩=⟨0,3,f,g,⟨m.v,m.n,m.h⟩,s1,false,zM⟩:=by simp [actS,newSl]
set_option maxHeartbeats 4000000 in
theorem bt_Activate (H:List Hl) (x:StD) (hx:x.Rd (stars H)) (hm:x.may=true) (ho:x.on=true) (ht:x.t=0) :
  Spec Tryz.prog 126 [x.V] H (fun _:PA × PA=>True) (fun r => .tuple #[(copyS (actS x) r.1 r.2 (none,0)).V,I 0]) (fun r=>rowL r.1 (actS x).s0.h.l::rowL r.2 (actS x).s1.h.l::H):=by
 have e0:=hx.s0
 have e1:=hx.s1
 have e2:=hx.m
 have hl:=may_light hm
 obtain ⟨ha,_,_,_,_⟩:=may_iff.1 hm
 obtain ⟨a,t,f,g,s0,s1,on,m⟩:=x
 dsimp only at ha ht ho e0 e1 e2
 have hl2:m.h.l.length≤100:=hl.2.2
 subst ho ht
 rcases ha with rfl|rfl
 ·rw [act_0]
  refine spec_pure (res:=fun r:PA × PA=>[rowL r.1 s0.h.l,rowL r.2 m.h.l]) H Tryz.func126 rfl Tryz.ntmps126 (by kernel_rfl) rfl (fun W=>?_)
  dsimp only [StD.V,StD.c]
  repeat' (first|intro _|refine cw ?_|refine cw2 ?_ ?_|(refine k_fn 97 ?_;refine o1_call (fun _=>(st_May _ ⟨_,_,f,g,s0,s1,_,m⟩).bv (b:=true) hm) rfl (fun _ _=>?_))|(refine k_fn 125 ?_;(refine o1_call (fun _=>bt_Drop _ ⟨_,_,f,g,s0,s1,_,m⟩ ⟨Rs.up e0,Rs.up e1,Rs.up e2⟩ hm) rfl (fun ⟨r0,r1⟩ _=>?_);dsimp only [StD.V,StD.c,dropS]))|refine ow ?_|refine ow2 ?_ ?_|fail)
  refine st_stages' [(1,_),(4,_)] rtF3_0 [8,12] [⟨[0,1,2,3,4,5,6,7,10],[],some 8⟩,⟨[9,11],[0,1,2,3,4,5,10],some 12⟩,⟨[],[],none⟩] mixed cv (by kernel_rfl) (by kernel_rfl) ?_
  repeat' (first|intro _|refine sg ?_|(refine p_indexAddr ?_;refine po (by first|refine ox_idx_arr 1 7 rfl rfl rfl (by decide) rfl fz|fail) ?_)|refine pw ?_|refine pdd ?_|(refine k_fn 29 ?_;(refine o1_call (fun _=>slices_Clone _ _ _ m.h.l (Rs.up e2) (by omega)) rfl (fun ⟨a5,c5⟩ _=>?_);dsimp only))|refine ow ?_|fail)
  all_goals dsimp only [List.cons_append,List.nil_append]
  repeat' (first|intro _|refine cw ?_|refine cw2 ?_ ?_|refine ow ?_|refine ow2 ?_ ?_|fail)
  refine rt_cell_tmp (r0,(a5,c5)) rfl rfl rfl rfl rfl trivial ?_
  exact ent
 ·rw [act_1]
  refine spec_pure (res:=fun r:PA × PA=>[rowL r.1 m.h.l,rowL r.2 s1.h.l]) H Tryz.func126 rfl Tryz.ntmps126 (by kernel_rfl) rfl (fun W=>?_)
  dsimp only [StD.V,StD.c]
  repeat' (first|intro _|refine cw ?_|refine cw2 ?_ ?_|(refine k_fn 97 ?_;refine o1_call (fun _=>(st_May _ ⟨_,_,f,g,s0,s1,_,m⟩).bv (b:=true) hm) rfl (fun _ _=>?_))|(refine k_fn 125 ?_;(refine o1_call (fun _=>bt_Drop _ ⟨_,_,f,g,s0,s1,_,m⟩ ⟨Rs.up e0,Rs.up e1,Rs.up e2⟩ hm) rfl (fun ⟨r0,r1⟩ _=>?_);dsimp only [StD.V,StD.c,dropS]))|refine ow ?_|refine ow2 ?_ ?_|fail)
  refine st_stages' [(1,_),(4,_)] rtF3_1 [8,12] [⟨[0,1,2,3,4,5,6,7,10],[],some 8⟩,⟨[9,11],[0,1,2,3,4,5,10],some 12⟩,⟨[],[],none⟩] mixed cv (by kernel_rfl) (by kernel_rfl) ?_
  repeat' (first|intro _|refine sg ?_|(refine p_indexAddr ?_;refine po (by first|refine ox_idx_arr 0 4 rfl rfl rfl (by decide) rfl fz|fail) ?_)|refine pw ?_|refine pdd ?_|(refine k_fn 29 ?_;(refine o1_call (fun _=>slices_Clone _ _ _ m.h.l (Rs.up e2) (by omega)) rfl (fun ⟨a5,c5⟩ _=>?_);dsimp only))|refine ow ?_|fail)
  all_goals dsimp only [List.cons_append,List.nil_append]
  repeat' (first|intro _|refine cw ?_|refine cw2 ?_ ?_|refine ow ?_|refine ow2 ?_ ?_|fail)
  refine rt_cell_tmp ((a5,c5),r1) rfl rfl rfl rfl rfl trivial ?_
  exact ent
open Go.RowKit Go.Proofs Sha
def rtD27_1:List Row:=[⟨some 7,[],[],none⟩,⟨some 8,[0],[0],none⟩,⟨some 9,[1],[0,1],none⟩,⟨some 10,[],[],none⟩,⟨some 11,[3],[3],none⟩,⟨some 12,[4],[3,4],none⟩,⟨some 13,[2,5],[0,1,2,3,4,5],none⟩]
def rtD27_2:List Row:=[⟨some 18,[],[],none⟩,⟨some 19,[0],[0],none⟩,⟨some 20,[1],[0,1],none⟩,⟨some 21,[2],[0,1,2],none⟩,⟨some 22,[],[],none⟩,⟨some 23,[4],[4],none⟩,⟨some 24,[],[],none⟩,⟨some 25,[6],[6],none⟩,⟨some 26,[3,5,7],[0,1,2,3,4,5,6,7],none⟩,⟨some 17,[8],[0,1,2,3,4,5,6,7,8],none⟩,⟨some 27,[9],[0,1,2,3,4,5,6,7,8,9],none⟩,⟨some 28,[9],[0,1,2,3,4,5,6,7,8,9],none⟩,⟨some 5,[10,8,0,1,2,3,4,5,6,7,8,9,10],[0,1,2,3,4,5,6,7,8,9,10],none⟩,⟨some 6,[11,12,0,1,2,3,4,5,6,7,8,9,10,11,12],[0,1,2,3,4,5,6,7,8,9,10,11,12],none⟩]
def rtD27_3:List Row:=[⟨some 31,[],[],none⟩,⟨some 32,[0],[0],none⟩,⟨some 33,[1],[0,1],none⟩,⟨some 34,[],[],none⟩,⟨some 35,[],[],none⟩,⟨some 36,[3,4],[3,4],none⟩,⟨some 37,[5],[3,4,5],none⟩,⟨some 38,[2,6],[0,1,2,3,4,5,6],none⟩]
def rtD27_4:List Row:=[⟨some 22,[],[],none⟩,⟨some 23,[0],[0],none⟩,⟨some 24,[],[],none⟩,⟨some 25,[2],[2],none⟩,⟨some 26,[3],[2,3],none⟩,⟨some 27,[4],[2,3,4],none⟩,⟨some 28,[5],[2,3,4,5],none⟩,⟨some 29,[6],[2,3,4,5,6],none⟩,⟨some 30,[1,7,1],[0,1,2,3,4,5,6,7],none⟩,⟨some 31,[8],[0,1,2,3,4,5,6,7,8],none⟩]
def rtD27_5:List Row:=[⟨some 42,[],[],none⟩,⟨some 43,[0],[0],none⟩,⟨some 44,[1],[0,1],none⟩,⟨some 45,[2],[0,1,2],none⟩,⟨some 46,[],[],none⟩,⟨some 47,[4],[4],none⟩,⟨some 48,[5],[4,5],none⟩,⟨some 49,[6],[4,5,6],none⟩,⟨some 50,[7],[4,5,6,7],none⟩,⟨some 51,[8],[4,5,6,7,8],none⟩,⟨some 52,[],[],none⟩,⟨some 53,[3,9,10],[0,1,2,3,4,5,6,7,8,9,10],none⟩,⟨some 7,[11,11,0,1,2,3,4,5,6,7,8,9,10,11],[0,1,2,3,4,5,6,7,8,9,10,11],none⟩]
theorem sl_Write (H:List Hl) (b:Nat) (ad:Option Addr) (c:Nat) (f:Fl) (h:Hid) (s:Nat) (ad2:Option Addr) (c2:Nat) (x:List (BitVec 8)) (hs:s<2) (hk:FlOk f h) (hx:Rs (stars H) B ad2 c2 x) (hx1:1≤x.length) (hx2:x.length≤512) (hd:f.pw.isDown=false) :
  Spec Tryz.prog 31 [.pointer (some ⟨b,0,none⟩),I s,.slice ad2 x.length c2] (fB b ad c f h::fR ad c f::H) (fun h':Hid=>FlOk (slotW f s x).1 h') (fun _=>I (slotW f s x).2) (fun h'=>fB b ad c (slotW f s x).1 h'::fR ad c (slotW f s x).1::H):=by
 rcases (by omega:s=0∨s=1) with rfl|rfl
 ·exact sl_Write_0 H b ad c f h ad2 c2 x hk hx hx1 hx2 hd
 ·exact sl_Write_1 H b ad c f h ad2 c2 x hk hx hx1 hx2 hd
structure IsP (m:ManD) (p:Prm) (len:Nat):Prop where
 ok:p.ok
 es:m.s=p.s
 en:m.n=len
 ez:m.z=p.z
 ep:m.p=p.p
 ec:count len p.z=p.k
set_option maxHeartbeats 4000000 in
theorem dv_opens (H:List Hl) (db fb:Nat) (ka:Option Addr) (kn kc:Nat) (mp:Option Addr) (ad:Option Addr) (c:Nat) (f:Fl) (x:StD) (p:Prm) (len:Nat) (V:BitVec 32→List Bool) (ho:x.on=true) (hp:IsP x.m p len) (hf:RdFl (stars H) fb ad c f) (hd:f.pw.isDown=false) (ht:TabF (stars H)) (hV:∀ r∈recsW f.bs x.g p.z 8,SpRow p r.1 (V r.1)) :
  Spec Tryz.prog 75 [.pointer (some ⟨db,0,none⟩),x.V] (dvB db fb ka kn kc mp::H) (fun _:Nat × Nat=>True) (fun _=>I 0) (fun r=>dvB db fb ka kn kc (pM r.1)::meB r.1 x (some ⟨r.2,0,none⟩) :: .any (stP (openS p x.g len V f.bs) fb r.2)::H):=by
 refine spec_fn (res:=fun r:Nat × Nat=>[dvB db fb ka kn kc (pM r.1),meB r.1 x (some ⟨r.2,0,none⟩),.any (stP (openS p x.g len V f.bs) fb r.2)]) [dvB db fb ka kn kc mp] H Tryz.func75 rfl Tryz.ntmps75 (by kernel_rfl) rfl (fun W=>?_)
 dsimp only [List.cons_append,List.nil_append]
 repeat' (first|intro _|refine cw ?_|refine cw2 ?_ ?_|(refine k_box ?_;refine o1_box rfl rfl (fun b3=>?_))|refine ow ?_|refine ow2 ?_ ?_|fail)
 refine st_stages' [(0,_),(3,_)] rtD27_1 [5,6] [⟨[0,1,2,3,4],[],some 5⟩,⟨[],[0,1,2],some 6⟩,⟨[],[],none⟩] mixed cv (by kernel_rfl) (by kernel_rfl) ?_
 repeat' (first|intro _|refine sg ?_|refine pw ?_|refine pdd ?_|(refine k_box ?_;refine o1_box rfl rfl (fun mb=>?_))|(refine k_fn 50 ?_;refine o1_call_bb db mb (fun _=>dv_Store _ db fb ka kn kc mp mb x none) rfl (fun _ _=>?_))|refine ow ?_|fail)
 all_goals dsimp only [List.cons_append,List.nil_append]
 repeat' (first|intro _|refine cw ?_|refine cw2 ?_ ?_|(refine k_load ?_;(refine ox_load (b:=b3) (i:=10) rfl rfl ?_;rw [ho]))|refine ow ?_|refine ow2 ?_ ?_|fail)
 refine st_stages' [(0,_),(3,_)] rtD27_2 [8] [⟨[0,1,2,3,4,5,6,7],[],some 8⟩,⟨[9,10,11,12,13],[],none⟩] mixed cv (by kernel_rfl) (by kernel_rfl) ?_
 repeat' (first|intro _|refine sg ?_|(refine p_load ?_;refine po (by first|refine ox_load (b:=db) (i:=1) rfl rfl fz|refine ox_load (b:=b3) (i:=3) rfl rfl fz|fail) ?_)|refine pw ?_|refine pdd ?_|(refine k_fn 119 ?_;(refine o1_call (fun _=>so_Open _ fb x.m p x.g len V ad c f hp.ok hp.es hp.en hp.ez hp.ep hp.ec hf.up hd ht.up hV) rfl (fun sb _=>?_);(try dsimp only)))|refine ow ?_|fail)
 all_goals dsimp only [List.cons_append,List.nil_append]
 repeat' (first|intro _|refine cw ?_|refine cw2 ?_ ?_|refine ow ?_|refine ow2 ?_ ?_|fail)
 refine st_stages' [(0,_),(3,_),(5,_)] rtD27_3 [6,7] [⟨[0,1,2,3,4,5],[],some 6⟩,⟨[],[0,1,2],some 7⟩,⟨[],[],none⟩] mixed cv (by kernel_rfl) (by kernel_rfl) ?_
 repeat' (first|intro _|refine sg ?_|refine pw ?_|refine pdd ?_|(refine k_box ?_;refine o1_box rfl rfl (fun mb2=>?_))|(refine k_fn 50 ?_;refine o1_call_bb db mb2 (fun _=>dv_Store _ db fb ka kn kc (pM mb) mb2 x (some ⟨sb,0,none⟩)) rfl (fun _ _=>?_))|refine ow ?_|fail)
 all_goals dsimp only [List.cons_append,List.nil_append]
 repeat' (first|intro _|refine cw ?_|refine cw2 ?_ ?_|refine ow ?_|refine ow2 ?_ ?_|fail)
 refine rt_tmp (mb2,sb) rfl rfl rfl trivial ?_
 exact ent
def finF (f:Fl) (x:StD) (im:List (BitVec 8)):Fl × Int:=if (slotW f (1 - x.a).toNat im).2≠0 then slotW f (1 - x.a).toNat im else cellW (slotW f (1 - x.a).toNat im).1 (actS x).by
theorem slotW_ok {f:Fl} {s:Nat} {x:List (BitVec 8)} (h:(slotW f s x).2=0):(slotW f s x).1.pw.isDown=false:=by
 cases hd:f.pw.isDown
 ·rw [slotW_up hd] at h ⊢
  obtain ⟨⟨f1,v1⟩,hr1⟩:∃ r,clrF f s=r:=⟨_,rfl⟩
  rw [hr1] at h ⊢
  dsimp only at h ⊢
  by_cases h1:v1≠0
  ·rw [if_pos h1] at h;exact absurd h h1
  ·rw [if_neg h1] at h ⊢
   obtain ⟨⟨f2,v2⟩,hr2⟩:∃ r,progF f1 (slotA s) x=r:=⟨_,rfl⟩
   rw [hr2] at h ⊢
   dsimp only at h ⊢
   by_cases h2:v2≠0
   ·rw [if_pos h2] at h;exact absurd h h2
   ·rw [if_neg h2] at h ⊢
    exact progF_up hr2 (Decidable.not_not.1 h2)
 ·rw [slotW_down hd] at h;cases h
set_option maxHeartbeats 8000000 in
theorem dv_fin (H:List Hl) (db fb:Nat) (ka:Option Addr) (kn kc:Nat) (mb sb:Nat) (ad:Option Addr) (c:Nat) (f f2:Fl) (h:Hid) (x:StD) (st:Sto) (im:List (BitVec 8)) (hm:x.may=true) (ho:x.on=true) (htr:x.t=0) (hx:x.Rd (stars H)) (hk:FlOk f h) (hd:f.pw.isDown=false)
  (hp:st.p.ok) (hR:RR st.p.n st.p.z st.d.M) (hf:cntS st.d.M=st.p.n) (hl:count st.len st.p.z=st.p.k) (him:imgB st.p st.d st.len=im) (hi1:1≤im.length) (hi2:im.length≤512) (hsh:sha im=x.m.h.l) (hF:finF f x im=(f2,0)) :
  Spec Tryz.prog 80 [.pointer (some ⟨db,0,none⟩)] (dvB db fb ka kn kc (pM mb)::meB mb x (some ⟨sb,0,none⟩) :: .any (stP st fb sb)::fB fb ad c f h::fR ad c f::H) (fun r:Hid × Nat × PA × PA=>FlOk f2 r.1) (fun _=>I 0)
   (fun r=>dvB db fb ka kn kc (pM r.2.1)::meB r.2.1 (copyS (actS x) r.2.2.1 r.2.2.2 (none,0)) none::fB fb ad c f2 r.1::fR ad c f2::rowL r.2.2.1 (actS x).s0.h.l::rowL r.2.2.2 (actS x).s1.h.l::H):=by
 refine spec_fn (res:=fun r:Hid × Nat × PA × PA=>[dvB db fb ka kn kc (pM r.2.1),meB r.2.1 (copyS (actS x) r.2.2.1 r.2.2.2 (none,0)) none,fB fb ad c f2 r.1,fR ad c f2,rowL r.2.2.1 (actS x).s0.h.l,rowL r.2.2.2 (actS x).s1.h.l]) [dvB db fb ka kn kc (pM mb),meB mb x (some ⟨sb,0,none⟩),.any (stP st fb sb),fB fb ad c f h,fR ad c f] H Tryz.func80 rfl Tryz.ntmps80 (by kernel_rfl) rfl (fun W=>?_)
 dsimp only [List.cons_append,List.nil_append]
 have ha:=StD.may_a hm
 obtain ⟨sN,hsN⟩:∃ sN,(1 - x.a).toNat=sN:=⟨_,rfl⟩
 have hs2:sN<2:=by omega
 have hsub:(1:Int) - x.a=(sN:Int):=by omega
 unfold finF at hF
 rw [hsN] at hF
 have hup:=slotW_ok (f:=f) (s:=sN) (x:=im)
 obtain ⟨⟨f1,v1⟩,hr1⟩:∃ r,slotW f sN im=r:=⟨_,rfl⟩
 rw [hr1] at hF hup
 dsimp only at hF hup
 by_cases hv1:v1≠0
 ·rw [if_pos hv1] at hF
  exact absurd (Prod.mk.inj hF).2 hv1
 rw [if_neg hv1] at hF
 have hv1:v1=0:=Decidable.not_not.1 hv1
 subst hv1
 have hd1:=hup rfl
 have hmay2:(copyS (actS x) (none,0) (none,0) (none,0)).may=true:=by rw [copy_may];exact act_may hm ho htr
 have hact:∀ r0 r1 r2,(copyS (actS x) r0 r1 r2).may=true:=fun r0 r1 r2=>by rw [copy_may];exact act_may hm ho htr
 repeat' (first|intro _|refine cw ?_|refine cw2 ?_ ?_|(refine k_fn 33 ?_;refine o1_call_bb db mb (fun _=>dv_Load _ db fb ka kn kc mb x (some ⟨sb,0,none⟩)) rfl (fun _ _=>?_))|(refine k_load ?_;refine ox_load (b:=mb) (i:=17) rfl rfl ?_)|(refine k_fn 124 ?_;(refine o1_call_a (stP st fb sb) (fun _=>so_Image _ st fb sb hp hR hf hl) rfl (fun ⟨a19,c19⟩ _=>?_);(try dsimp only);rw [him]))|refine ow ?_|refine ow2 ?_ ?_|fail)
 refine st_stages' [(4,_),(3,_)] rtD27_4 [1,8] [⟨[0,2,3,4,5,6,7],[],some 1⟩,⟨[],[2,3,4,5,6,7],some 8⟩,⟨[9],[],none⟩] mixed cv (by kernel_rfl) (by kernel_rfl) ?_
 repeat' (first|intro _|refine sg ?_|(refine p_load ?_;refine po (by first|refine ox_load (b:=mb) (i:=16) rfl rfl fz|fail) ?_)|refine pw ?_|refine pdd ?_|(refine k_fn 56 ?_;(refine o1_call (fun hh=>dg_Sum _ a19 c19 im _ (rx_row hh) (by omega) hsh) rfl (fun ⟨a23,c23⟩ _=>?_);(try dsimp only)))|(refine k_fn 66 ?_;refine o1_call (fun hh=>(slices_Equal _ a23 x.m.h.ad c23 x.m.h.cap x.m.h.l x.m.h.l (rx_row hh) hx.m.up).bv (b:=true) (by simp)) rfl (fun _ _=>?_))|refine ow ?_|fail)
 all_goals dsimp only [List.cons_append,List.nil_append]
 repeat' (first|intro _|refine cw ?_|refine cw2 ?_ ?_|refine ow ?_|refine ow2 ?_ ?_|fail)
 refine st_stages' [(0,_),(3,_),(4,_)] rtD27_5 [11] [⟨[0,1,2,3,4,5,6,7,8,9,10],[],some 11⟩,⟨[12],[],none⟩] mixed cv (by kernel_rfl) (by kernel_rfl) ?_
 repeat' (first|intro _|refine sg ?_|(refine p_load ?_;refine po (by first|refine ox_load (b:=db) (i:=1) rfl rfl fz|refine ox_load (b:=mb) (i:=0) rfl rfl fz|fail) ?_)|(refine p_binOp .sub ?_;refine po (by first|((refine o1_sub rfl rfl (by omega) ?_;rw [hsub]);all_goals exact fz)|fail) ?_)|refine pw ?_|refine pdd ?_|(refine k_fn 31 ?_;(refine o1_call_fl fb ad c (fun hh=>sl_Write _ fb ad c f h sN a19 c19 im hs2 hk (rx_row (has_tail (has_tail hh))) hi1 hi2 hd) rfl (fun h1 hk1=>?_);(rw [hr1] at hk1 ⊢;dsimp only at hk1 ⊢)))|refine ow ?_|fail)
 all_goals dsimp only [List.cons_append,List.nil_append]
 repeat' (first|intro _|refine cw ?_|refine cw2 ?_ ?_|(refine k_fn 126 ?_;(refine o1_call (fun _=>bt_Activate _ x ⟨hx.s0.up,hx.s1.up,hx.m.up⟩ hm ho htr) rfl (fun ⟨q1,q2⟩ _=>?_);(try dsimp only)))|(refine k_alloc ?_;refine o1_alloc rfl (fun b8=>?_))|refine ow ?_|refine ow2 ?_ ?_|fail)
 refine o1_call_to (dvB db fb ka kn kc (pM mb)::fB fb ad c f1 h1::fR ad c f1::[rowL q1 (actS x).s0.h.l,rowL q2 (actS x).s1.h.l,.any (stars H)]) (Ent.out ent) (fun hh=>dv_keeps _ db fb ka kn kc (pM mb) ad c f1 f2 h1 (copyS (actS x) q1 q2 (none,0)) none (hact _ _ _) ⟨rx_row (T:=5) (ad:=q1.1) (c:=q1.2) (l:=(actS x).s0.h.l) (has_tail (has_tail (has_tail hh))),rx_row (T:=5) (ad:=q2.1) (c:=q2.2) (l:=(actS x).s1.h.l) (has_tail (has_tail (has_tail hh))),rs00 (has_tail (has_tail (has_tail hh)))⟩ hk1 hd1 hF) rfl (fun ⟨h2,mb2⟩ hk2=>?_)
 dsimp only at hk2 ⊢
 repeat' (first|intro _|refine cw ?_|refine cw2 ?_ ?_|refine ow ?_|refine ow2 ?_ ?_|fail)
 refine rt_tmp (h2,mb2,q1,q2) rfl rfl rfl hk2 ?_
 exact ent
end Go.Dp
namespace Go.Dp
open Go.RowKit Go.Proofs
set_option maxHeartbeats 4000000 in
theorem ss_Newer (H:List Hl) (x:StD) (v:BitVec 32):Spec Tryz.prog 118 [x.V,W4 v] H (fun _:Unit=>True) (fun _ => .bool (x.newer v)) (fun _=>H):=by
 refine spec_pure (res:=fun _=>[]) H Tryz.func118 rfl Tryz.ntmps118 (by kernel_rfl) rfl (fun W=>?_)
 cases hm:x.may
 ·obtain ⟨a,t,f,g,s0,s1,on,m⟩:=x
  dsimp only [StD.V,StD.c]
  repeat' (first|intro _|refine cw ?_|refine cw2 ?_ ?_|(refine k_fn 97 ?_;refine o1_call (fun _=>(st_May _ ⟨a,t,f,g,s0,s1,on,m⟩).bv (b:=false) hm) rfl (fun _ _=>?_))|refine ow ?_|refine ow2 ?_ ?_|fail)
  refine rt_tmp () rfl rfl ?_ trivial ?_
  ·simp [StD.newer,hm]
  ·exact ent
 ·have ha:=StD.may_a hm
  obtain ⟨a,t,f,g,s0,s1,on,m⟩:=x
  dsimp only at ha
  dsimp only [StD.V,StD.c]
  rcases ha with rfl|rfl
  all_goals
   repeat' (first|intro _|refine cw ?_|refine cw2 ?_ ?_|(refine k_fn 97 ?_;refine o1_call (fun _=>(st_May _ ⟨_,t,f,g,s0,s1,on,m⟩).bv (b:=true) hm) rfl (fun _ _=>?_))|(refine k_indexAddr ?_;first|refine ox_idx_arr 0 4 rfl rfl rfl (by decide) rfl ?_|refine ox_idx_arr 1 7 rfl rfl rfl (by decide) rfl ?_)|(refine k_unOp ?_;(refine o1_bnot rfl ?_;cases on))|refine ow ?_|refine ow2 ?_ ?_|fail)
  all_goals (refine rt_tmp () rfl rfl ?_ trivial ?_;· simp only [StD.newer,hm,StD.cur];refine congrArg Value.bool ?_;first|(simp;done)|(simp;omega))
  all_goals exact ent
def rtE4_0:List Row:=[⟨some 62,[],[],none⟩,⟨some 63,[],[],none⟩,⟨none,[1],[1],none⟩,⟨some 64,[0,1,2],[0,1,2],none⟩,⟨none,[3,0,2,0,1,2],[0,1,2,3],none⟩]
def errOf (x:StD) (m:ManD):Int :=
 if x.may=false then 1 else if m.may=false then 1 else if 0<x.t then 12 else if x.on=true∧x.m.same m=true then 8 else if x.newer m.v=false then 6 else if 4294967294≤x.g.toNat then 9 else 0
set_option maxHeartbeats 4000000 in
theorem ss_Admit_no (H:List Hl) (x:StD) (m:ManD) (hx:Rs (stars H) B x.m.h.ad x.m.h.cap x.m.h.l) (hm:Rs (stars H) B m.h.ad m.h.cap m.h.l) (hne:errOf x m≠0) :
  Spec Tryz.prog 74 [x.V,m.V] H (fun _:Unit=>True) (fun _ => .tuple #[zS.V,I (errOf x m)]) (fun _=>H):=by
 refine spec_pure (res:=fun _=>[]) H Tryz.func74 rfl Tryz.ntmps74 (by kernel_rfl) rfl (fun W=>?_)
 obtain ⟨a,t,f,g,s0,s1,on,n⟩:=x
 have hn:Rs (stars H) B n.h.ad n.h.cap n.h.l:=hx
 cases h1:(StD.mk a t f g s0 s1 on n).may
 ·have he:errOf (StD.mk a t f g s0 s1 on n) m=1:=by simp [errOf,h1]
  rw [he]
  dsimp only [StD.V,StD.c]
  repeat' (first|intro _|refine cw ?_|refine cw2 ?_ ?_|(refine k_fn 97 ?_;refine o1_call (fun _=>(st_May _ ⟨a,t,f,g,s0,s1,_,n⟩).bv (b:=false) h1) rfl (fun _ _=>?_))|refine ow ?_|refine ow2 ?_ ?_|fail)
  refine rt_cell_tmp () rfl rfl rfl rfl rfl trivial ?_
  exact ent
 cases h2:m.may
 ·have he:errOf (StD.mk a t f g s0 s1 on n) m=1:=by simp [errOf,h1,h2]
  rw [he]
  dsimp only [StD.V,StD.c]
  repeat' (first|intro _|refine cw ?_|refine cw2 ?_ ?_|(refine k_fn 97 ?_;refine o1_call (fun _=>(st_May _ ⟨a,t,f,g,s0,s1,_,n⟩).bv (b:=true) h1) rfl (fun _ _=>?_))|(refine k_fn 57 ?_;refine o1_call (fun _=>(mf_May _ m).bv (b:=false) h2) rfl (fun _ _=>?_))|refine ow ?_|refine ow2 ?_ ?_|fail)
  refine rt_cell_tmp () rfl rfl rfl rfl rfl trivial ?_
  exact ent
 by_cases h3:0<t
 ·have he:errOf (StD.mk a t f g s0 s1 on n) m=12:=by simp [errOf,h1,h2,h3]
  rw [he]
  dsimp only [StD.V,StD.c]
  repeat' (first|intro _|refine cw ?_|refine cw2 ?_ ?_|(refine k_fn 97 ?_;refine o1_call (fun _=>(st_May _ ⟨a,t,f,g,s0,s1,_,n⟩).bv (b:=true) h1) rfl (fun _ _=>?_))|(refine k_fn 57 ?_;refine o1_call (fun _=>(mf_May _ m).bv (b:=true) h2) rfl (fun _ _=>?_))|refine ow ?_|refine ow2 ?_ ?_|fail)
  refine rt_cell_tmp () rfl rfl rfl rfl rfl trivial ?_
  exact ent
 cases on with
 | true =>
  cases h4:n.same m with
  | true =>
   have he:errOf (StD.mk a t f g s0 s1 true n) m=8:=by simp [errOf,h1,h2,h3,h4]
   rw [he]
   dsimp only [StD.V,StD.c]
   repeat' (first|intro _|refine cw ?_|refine cw2 ?_ ?_|(refine k_fn 97 ?_;refine o1_call (fun _=>(st_May _ ⟨a,t,f,g,s0,s1,_,n⟩).bv (b:=true) h1) rfl (fun _ _=>?_))|(refine k_fn 57 ?_;refine o1_call (fun _=>(mf_May _ m).bv (b:=true) h2) rfl (fun _ _=>?_))|(refine k_fn 117 ?_;refine o1_call (fun _=>(mf_Same _ n m hn.up hm.up).bv (b:=true) h4) rfl (fun _ _=>?_))|refine ow ?_|refine ow2 ?_ ?_|fail)
   refine rt_cell_tmp () rfl rfl rfl rfl rfl trivial ?_
   exact ent
  | false =>
   cases h5:(StD.mk a t f g s0 s1 true n).newer m.v
   ·have he:errOf (StD.mk a t f g s0 s1 true n) m=6:=by simp [errOf,h1,h2,h3,h5,h4]
    rw [he]
    dsimp only [StD.V,StD.c]
    repeat' (first|intro _|refine cw ?_|refine cw2 ?_ ?_|(refine k_fn 97 ?_;refine o1_call (fun _=>(st_May _ ⟨a,t,f,g,s0,s1,_,n⟩).bv (b:=true) h1) rfl (fun _ _=>?_))|(refine k_fn 57 ?_;refine o1_call (fun _=>(mf_May _ m).bv (b:=true) h2) rfl (fun _ _=>?_))|(refine k_fn 117 ?_;refine o1_call (fun _=>(mf_Same _ n m hn.up hm.up).bv (b:=false) h4) rfl (fun _ _=>?_))|(refine k_fn 118 ?_;refine o1_call (fun _=>(ss_Newer _ ⟨a,t,f,g,s0,s1,_,n⟩ m.v).bv (b:=false) h5) rfl (fun _ _=>?_))|refine ow ?_|refine ow2 ?_ ?_|fail)
    refine rt_cell_tmp () rfl rfl rfl rfl rfl trivial ?_
    exact ent
   ·by_cases h6:4294967294≤g.toNat
    ·have he:errOf (StD.mk a t f g s0 s1 true n) m=9:=by simp [errOf,h1,h2,h3,h5,h6,h4]
     rw [he]
     dsimp only [StD.V,StD.c]
     repeat' (first|intro _|refine cw ?_|refine cw2 ?_ ?_|(refine k_fn 97 ?_;refine o1_call (fun _=>(st_May _ ⟨a,t,f,g,s0,s1,_,n⟩).bv (b:=true) h1) rfl (fun _ _=>?_))|(refine k_fn 57 ?_;refine o1_call (fun _=>(mf_May _ m).bv (b:=true) h2) rfl (fun _ _=>?_))|(refine k_fn 117 ?_;refine o1_call (fun _=>(mf_Same _ n m hn.up hm.up).bv (b:=false) h4) rfl (fun _ _=>?_))|(refine k_fn 118 ?_;refine o1_call (fun _=>(ss_Newer _ ⟨a,t,f,g,s0,s1,_,n⟩ m.v).bv (b:=true) h5) rfl (fun _ _=>?_))|refine ow ?_|refine ow2 ?_ ?_|fail)
     refine rt_cell_tmp () rfl rfl rfl rfl rfl trivial ?_
     exact ent
    ·exact absurd (by simp [errOf,h1,h2,h3,h5,h4];omega) hne
 | false =>
  cases h5:(StD.mk a t f g s0 s1 false n).newer m.v
  ·have he:errOf (StD.mk a t f g s0 s1 false n) m=6:=by simp [errOf,h1,h2,h3,h5]
   rw [he]
   dsimp only [StD.V,StD.c]
   repeat' (first|intro _|refine cw ?_|refine cw2 ?_ ?_|(refine k_fn 97 ?_;refine o1_call (fun _=>(st_May _ ⟨a,t,f,g,s0,s1,_,n⟩).bv (b:=true) h1) rfl (fun _ _=>?_))|(refine k_fn 57 ?_;refine o1_call (fun _=>(mf_May _ m).bv (b:=true) h2) rfl (fun _ _=>?_))|(refine k_fn 118 ?_;refine o1_call (fun _=>(ss_Newer _ ⟨a,t,f,g,s0,s1,_,n⟩ m.v).bv (b:=false) h5) rfl (fun _ _=>?_))|refine ow ?_|refine ow2 ?_ ?_|fail)
   refine rt_cell_tmp () rfl rfl rfl rfl rfl trivial ?_
   exact ent
  ·by_cases h6:4294967294≤g.toNat
   ·have he:errOf (StD.mk a t f g s0 s1 false n) m=9:=by simp [errOf,h1,h2,h3,h5,h6]
    rw [he]
    dsimp only [StD.V,StD.c]
    repeat' (first|intro _|refine cw ?_|refine cw2 ?_ ?_|(refine k_fn 97 ?_;refine o1_call (fun _=>(st_May _ ⟨a,t,f,g,s0,s1,_,n⟩).bv (b:=true) h1) rfl (fun _ _=>?_))|(refine k_fn 57 ?_;refine o1_call (fun _=>(mf_May _ m).bv (b:=true) h2) rfl (fun _ _=>?_))|(refine k_fn 118 ?_;refine o1_call (fun _=>(ss_Newer _ ⟨a,t,f,g,s0,s1,_,n⟩ m.v).bv (b:=true) h5) rfl (fun _ _=>?_))|refine ow ?_|refine ow2 ?_ ?_|fail)
    refine rt_cell_tmp () rfl rfl rfl rfl rfl trivial ?_
    exact ent
   ·exact absurd (by simp [errOf,h1,h2,h3,h5];omega) hne
def admitS (x:StD) (m:ManD) (r0 r1 r2:Option Addr × Nat):StD:=⟨x.a,x.t,x.f,x.g+1#32,⟨x.s0.v,x.s0.n,⟨r0.1,r0.2,x.s0.h.l⟩⟩,⟨x.s1.v,x.s1.n,⟨r1.1,r1.2,x.s1.h.l⟩⟩,true,⟨m.s,m.v,m.n,m.z,m.p,⟨r2.1,r2.2,m.h.l⟩⟩⟩
set_option maxHeartbeats 4000000 in
theorem ss_Admit_ok (H:List Hl) (x:StD) (m:ManD) (hx:Rs (stars H) B x.m.h.ad x.m.h.cap x.m.h.l) (hm:Rs (stars H) B m.h.ad m.h.cap m.h.l) (hx0:Rs (stars H) B x.s0.h.ad x.s0.h.cap x.s0.h.l) (hx1:Rs (stars H) B x.s1.h.ad x.s1.h.cap x.s1.h.l)
  (hl:x.light∧m.h.l.length≤100) (he:errOf x m=0) :
  Spec Tryz.prog 74 [x.V,m.V] H (fun _:(Option Addr × Nat) × (Option Addr × Nat) × (Option Addr × Nat)=>True) (fun r => .tuple #[(admitS x m r.1 r.2.1 r.2.2).V,I 0])
   (fun r => .row 5 1 (.slice r.1.1 x.s0.h.l.length r.1.2) x.s0.h.l.length (x.s0.h.l.map B) :: .row 5 1 (.slice r.2.1.1 x.s1.h.l.length r.2.1.2) x.s1.h.l.length (x.s1.h.l.map B) :: .row 5 1 (.slice r.2.2.1 m.h.l.length r.2.2.2) m.h.l.length (m.h.l.map B)::H):=by
 refine spec_pure (res:=fun r:(Option Addr × Nat) × (Option Addr × Nat) × (Option Addr × Nat)=>[.row 5 1 (.slice r.1.1 x.s0.h.l.length r.1.2) x.s0.h.l.length (x.s0.h.l.map B),.row 5 1 (.slice r.2.1.1 x.s1.h.l.length r.2.1.2) x.s1.h.l.length (x.s1.h.l.map B),.row 5 1 (.slice r.2.2.1 m.h.l.length r.2.2.2) m.h.l.length (m.h.l.map B)]) H Tryz.func74 rfl Tryz.ntmps74 (by kernel_rfl) rfl (fun W=>?_)
 obtain ⟨a,t,f,g,s0,s1,on,n⟩:=x
 have hn:Rs (stars H) B n.h.ad n.h.cap n.h.l:=hx
 obtain ⟨⟨q0,q1,q2⟩,q3⟩:=hl
 dsimp only at hx0 hx1 q0 q1 q2
 cases h1:(StD.mk a t f g s0 s1 on n).may
 ·simp [errOf,h1] at he
 cases h2:m.may
 ·simp [errOf,h1,h2] at he
 by_cases h3:0<t
 ·simp [errOf,h1,h2,h3] at he
 cases h5:(StD.mk a t f g s0 s1 on n).newer m.v
 ·by_cases hc:on=true∧n.same m=true
  ·obtain ⟨rfl,hc⟩:=hc
   simp [errOf,h1,h2,h3,hc] at he
  ·simp only [errOf,h1,h2,h3,h5,hc] at he
   simp at he
 have h4:on=true→n.same m=false:=by
  intro ho
  subst ho
  cases h4:n.same m
  ·rfl
  ·simp [errOf,h1,h2,h3,h4] at he
 have h6 : ¬ 4294967294≤g.toNat:=by
  intro h6
  cases on
  ·simp [errOf,h1,h2,h3,h5,h6] at he
  ·simp [errOf,h1,h2,h3,h5,h6,h4 rfl] at he
 clear he
 dsimp only [StD.V,StD.c]
 cases on
 all_goals
  repeat' (first|intro _|refine cw ?_|refine cw2 ?_ ?_|(refine k_fn 97 ?_;refine o1_call (fun _=>(st_May _ ⟨a,t,f,g,s0,s1,_,n⟩).bv (b:=true) h1) rfl (fun _ _=>?_))|(refine k_fn 57 ?_;refine o1_call (fun _=>(mf_May _ m).bv (b:=true) h2) rfl (fun _ _=>?_))|(refine k_fn 117 ?_;refine o1_call (fun _=>(mf_Same _ n m hn.up hm.up).bv (b:=false) (h4 rfl)) rfl (fun _ _=>?_))|(refine k_fn 118 ?_;refine o1_call (fun _=>(ss_Newer _ ⟨a,t,f,g,s0,s1,_,n⟩ m.v).bv (b:=true) h5) rfl (fun _ _=>?_))|refine ow ?_|refine ow2 ?_ ?_|fail)
  refine st_rounds 2 ?_
  repeat' (first|intro _|refine cw ?_|refine cw2 ?_ ?_|(refine k_indexAddr ?_;first|refine ox_idx_arr 0 4 rfl rfl rfl (by decide) rfl ?_|refine ox_idx_arr 1 7 rfl rfl rfl (by decide) rfl ?_)|(refine k_fn 29 ?_;first|(refine o1_call (fun _=>slices_Clone _ _ _ s0.h.l hx0.up (by omega)) rfl (fun ⟨a5,c5⟩ _=>?_);dsimp only)|(refine o1_call (fun _=>slices_Clone _ _ _ s1.h.l hx1.up (by omega)) rfl (fun ⟨a6,c6⟩ _=>?_);dsimp only))|refine ow ?_|refine ow2 ?_ ?_|fail)
  all_goals
   repeat' (first|intro _|refine cw ?_|refine cw2 ?_ ?_|(refine k_binOp .add ?_;refine o1_uadd (v:=1#32) rfl rfl ?_)|refine ow ?_|refine ow2 ?_ ?_|fail)
  refine st_stages' [(3,_),(2,_)] rtE4_0 [2,4] [⟨[0,1],[],some 2⟩,⟨[3],[0],some 4⟩,⟨[],[],none⟩] mixed cv (by kernel_rfl) (by kernel_rfl) ?_
  repeat' (first|intro _|refine sg ?_|refine pw ?_|refine pdd ?_|refine ow ?_|fail)
  all_goals dsimp only [List.cons_append,List.nil_append]
  repeat' (first|intro _|refine cw ?_|refine cw2 ?_ ?_|(refine k_fn 29 ?_;(refine o1_call (fun _=>slices_Clone _ _ _ m.h.l hm.up (by omega)) rfl (fun ⟨a7,c7⟩ _=>?_);dsimp only))|refine ow ?_|refine ow2 ?_ ?_|fail)
  refine rt_cell_tmp (⟨a5,c5⟩,⟨a6,c6⟩,⟨a7,c7⟩) rfl rfl rfl rfl rfl trivial ?_
  exact ent
theorem admit_may {x:StD} {m:ManD} {r0 r1 r2:Option Addr × Nat} (h:x.may=true) (hm:m.may=true):(admitS x m r0 r1 r2).may=true:=by
 simp only [StD.may,Bool.and_eq_true,Bool.or_eq_true,decide_eq_true_eq] at h ⊢
 refine ⟨⟨⟨h.1.1.1,?_⟩,?_⟩,hm⟩
 ·have h1:=h.1.1.2
  unfold StD.cur at h1 ⊢
  by_cases ha:x.a=0
  ·rw [if_pos ha] at h1;rw [if_pos (show (admitS x m r0 r1 r2).a=0 from ha)];exact h1
  ·rw [if_neg ha] at h1;rw [if_neg (show ¬ (admitS x m r0 r1 r2).a=0 from ha)];exact h1
 ·have h1:=h.1.2
  unfold StD.oth at h1 ⊢
  by_cases ha:x.a=0
  ·rw [if_pos ha] at h1;rw [if_pos (show (admitS x m r0 r1 r2).a=0 from ha)];exact h1
  ·rw [if_neg ha] at h1;rw [if_neg (show ¬ (admitS x m r0 r1 r2).a=0 from ha)];exact h1
open Go.RowKit Go.Proofs Sha
def rtD28_0:List Row:=[⟨some 22,[],[],none⟩,⟨some 23,[0],[0],none⟩,⟨some 24,[1],[0,1],none⟩,⟨some 25,[2],[0,1,2],none⟩,⟨some 26,[3],[0,1,2,3],none⟩,⟨some 27,[4],[0,1,2,3,4],none⟩,⟨some 28,[5],[0,1,2,3,4,5],none⟩,⟨some 29,[],[],none⟩,⟨some 30,[6,7,3],[0,1,2,3,4,5,6,7],none⟩,⟨some 21,[8],[0,1,2,3,4,5,6,7,8],none⟩,⟨some 31,[9],[0,1,2,3,4,5,6,7,8,9],none⟩,⟨some 32,[9],[0,1,2,3,4,5,6,7,8,9],none⟩,⟨some 7,[],[],none⟩,⟨none,[12,10,8,0,1,2,3,4,5,6,7,8,9,10,12],[0,1,2,3,4,5,6,7,8,9,10,12],none⟩,⟨some 6,[11,13,0,1,2,3,4,5,6,7,8,9,10,11,12,13],[0,1,2,3,4,5,6,7,8,9,10,11,12,13],none⟩]
def rtD28_1:List Row:=[⟨some 22,[],[],none⟩,⟨some 23,[0],[0],none⟩,⟨some 24,[1],[0,1],none⟩,⟨some 25,[2],[0,1,2],none⟩,⟨some 26,[3],[0,1,2,3],none⟩,⟨some 27,[4],[0,1,2,3,4],none⟩,⟨some 28,[5],[0,1,2,3,4,5],none⟩,⟨some 29,[],[],none⟩,⟨some 30,[6,7,3],[0,1,2,3,4,5,6,7],none⟩,⟨some 21,[8],[0,1,2,3,4,5,6,7,8],none⟩,⟨some 31,[9],[0,1,2,3,4,5,6,7,8,9],none⟩,⟨some 32,[9],[0,1,2,3,4,5,6,7,8,9],none⟩,⟨some 7,[],[],none⟩,⟨none,[12,10,8,0,1,2,3,4,5,6,7,8,9,10,12],[0,1,2,3,4,5,6,7,8,9,10,12],none⟩,⟨some 6,[11,13,0,1,2,3,4,5,6,7,8,9,10,11,12,13],[0,1,2,3,4,5,6,7,8,9,10,11,12,13],none⟩]
theorem dv_LoadH {H H1 H2:List Hl} (db fb:Nat) (ka:Option Addr) (kn kc:Nat) (mb:Nat) (x:StD) (lp:Option Addr) [s1:SBox H db 78 [.slice ka kn kc,.pointer (some ⟨fb,0,none⟩),.pointer (pM mb)] H1] [s2:SBox H mb 84 [I x.a,I x.t,W4 x.f,W4 x.g,W4 x.s0.v,I x.s0.n,Bs x.s0.h,W4 x.s1.v,I x.s1.n,Bs x.s1.h,.bool x.on,W4 x.m.s,W4 x.m.v,I x.m.n,I x.m.z,I x.m.p,Bs x.m.h,.pointer lp] H2] :
  Spec Tryz.prog 33 [.pointer (some ⟨db,2,none⟩)] H (fun _:Unit=>True) (fun _ => .pointer (some ⟨mb,0,none⟩)) (fun _=>H):=dp_Load H H1 H2 db 2 _ _ mb _ rfl rfl
set_option maxHeartbeats 8000000 in
theorem dv_hears_no (H:List Hl) (db fb:Nat) (ka:Option Addr) (key:List (BitVec 8)) (kc:Nat) (mb:Nat) (x:StD) (lp:Option Addr) (ad2:Option Addr) (m2 c2:Nat) (b:List (BitVec 8)) (m:ManD) (e:Int) (hkey:Rs (stars H) B ka kc key) (hkl:key.length≤300) (hb:Rs (stars H) B ad2 c2 b) (hm2:m2=b.length) (hpr:prM key b=(m,0)) (hx:x.Rd (stars H)) (he:errOf x m=e) (hne:e≠0) :
  Spec Tryz.prog 36 [.pointer (some ⟨db,0,none⟩),.slice ad2 m2 c2] (dvB db fb ka key.length kc (pM mb)::meB mb x lp::H) (fun _:Unit=>True) (fun _=>I e) (fun _=>dvB db fb ka key.length kc (pM mb)::meB mb x lp::H):=by
 subst hm2
 refine spec_fn (res:=fun _:Unit=>[dvB db fb ka key.length kc (pM mb),meB mb x lp]) [dvB db fb ka key.length kc (pM mb),meB mb x lp] H Tryz.func36 rfl Tryz.ntmps36 (by kernel_rfl) rfl (fun W=>?_)
 dsimp only [List.cons_append,List.nil_append]
 have hk0:RdS (stars H) x.m.h:=hx.m
 repeat' (first|intro _|refine cw ?_|refine cw2 ?_ ?_|(refine k_load ?_;refine ox_load (b:=db) (i:=0) rfl rfl ?_)|(refine k_fn 73 ?_;(refine o1_call (fun _=>mf_Parse _ ka ad2 kc c2 key b hkey.up hb.up hkl (m,0) hpr) rfl (fun r1 _=>?_);(try dsimp only)))|(refine k_alloc ?_;refine o1_alloc rfl (fun b5=>?_))|refine ow ?_|refine ow2 ?_ ?_|fail)
 refine st_stages' [(0,_),(5,_)] rtD28_0 [12,13] [⟨[0,1,2,3,4,5,6,7,8,9,10,11],[],some 12⟩,⟨[],[0,1,2,3,4,5,6,7,8,9,10,11],some 13⟩,⟨[14],[11],none⟩] mixed cv (by kernel_rfl) (by kernel_rfl) ?_
 repeat' (first|intro _|refine sg ?_|(refine p_fn 33 ?_;refine po (by first|refine o1_call (fun _=>dv_LoadH db fb ka key.length kc mb x lp) rfl (fun _ _=>fz)|fail) ?_)|(refine p_fn 74 ?_;refine po (by first|((refine o1_call (fun hh=>ss_Admit_no _ x (setM m r1) hk0.up (rx_row (T:=5) (ad:=r1.1) (c:=r1.2) (l:=m.h.l) hh) (show errOf x m≠0 by rw [he];exact hne)) rfl (fun _ _=>?_);rw [show errOf x (setM m r1)=e from he]);all_goals exact fz)|fail) ?_)|refine pw ?_|refine pdd ?_|(refine k_alloc ?_;refine o1_alloc rfl (fun b7=>?_))|refine ow ?_|fail)
 all_goals dsimp only [List.cons_append,List.nil_append]
 repeat' (first|intro _|refine cw ?_|refine cw2 ?_ ?_|(refine k_binOp .neq ?_;refine o1_neq_t rfl rfl hne ?_)|refine ow ?_|refine ow2 ?_ ?_|fail)
 refine rt_tmp () rfl rfl rfl trivial ?_
 exact ent
set_option maxHeartbeats 16000000 in
theorem dv_hears (H:List Hl) (db fb:Nat) (ka:Option Addr) (key:List (BitVec 8)) (kc:Nat) (mb:Nat) (ad:Option Addr) (c:Nat) (f f1:Fl) (h:Hid) (x:StD) (lp:Option Addr) (ad2:Option Addr) (m2 c2:Nat) (b:List (BitVec 8)) (m:ManD) (p:Prm) (len:Nat) (V:BitVec 32→List Bool)
  (hkey:Rs (stars H) B ka kc key) (hkl:key.length≤300) (hb:Rs (stars H) B ad2 c2 b) (hm2:m2=b.length) (hpr:prM key b=(m,0)) (hx:x.Rd (stars H)) (hmx:x.may=true) (hmm:m.may=true) (he:errOf x m=0) (hk:FlOk f h) (hd:f.pw.isDown=false) (hp:IsP m p len) (ht:TabF (stars H)) (hW:cellW f (admitS x m (none,0) (none,0) (none,0)).by=(f1,0)) (hd1:f1.pw.isDown=false) (hV:∀ r∈recsW f1.bs (x.g+1#32) p.z 8,SpRow p r.1 (V r.1)) :
  Spec Tryz.prog 36 [.pointer (some ⟨db,0,none⟩),.slice ad2 m2 c2] (dvB db fb ka key.length kc (pM mb)::meB mb x lp::fB fb ad c f h::fR ad c f::H) (fun r:Hid × (Nat × Nat) × PA × PA × PA=>FlOk f1 r.1) (fun _=>I 0)
   (fun r=>dvB db fb ka key.length kc (pM r.2.1.1)::meB r.2.1.1 (admitS x m r.2.2.1 r.2.2.2.1 r.2.2.2.2) (some ⟨r.2.1.2,0,none⟩) :: .any (stP (openS p (x.g+1#32) len V f1.bs) fb r.2.1.2)::fB fb ad c f1 r.1::fR ad c f1::rowL r.2.2.1 x.s0.h.l::rowL r.2.2.2.1 x.s1.h.l::rowL r.2.2.2.2 m.h.l::H):=by
 subst hm2
 refine spec_fn (res:=fun r:Hid × (Nat × Nat) × PA × PA × PA=>[dvB db fb ka key.length kc (pM r.2.1.1),meB r.2.1.1 (admitS x m r.2.2.1 r.2.2.2.1 r.2.2.2.2) (some ⟨r.2.1.2,0,none⟩),.any (stP (openS p (x.g+1#32) len V f1.bs) fb r.2.1.2),fB fb ad c f1 r.1,fR ad c f1,rowL r.2.2.1 x.s0.h.l,rowL r.2.2.2.1 x.s1.h.l,rowL r.2.2.2.2 m.h.l]) [dvB db fb ka key.length kc (pM mb),meB mb x lp,fB fb ad c f h,fR ad c f] H Tryz.func36 rfl Tryz.ntmps36 (by kernel_rfl) rfl (fun W=>?_)
 dsimp only [List.cons_append,List.nil_append]
 have hk0:RdS (stars H) x.m.h:=hx.m
 have hk1:RdS (stars H) x.s0.h:=hx.s0
 have hk2:RdS (stars H) x.s1.h:=hx.s1
 have hlt:x.light:=may_light hmx
 have hml:m.h.l.length≤100:=by have:=(man_mayM hmm).2.2;omega
 have hmay:∀ r0 r1 r2,(admitS x m r0 r1 r2).may=true:=fun _ _ _=>admit_may hmx hmm
 repeat' (first|intro _|refine cw ?_|refine cw2 ?_ ?_|(refine k_load ?_;refine ox_load (b:=db) (i:=0) rfl rfl ?_)|(refine k_fn 73 ?_;(refine o1_call (fun _=>mf_Parse _ ka ad2 kc c2 key b hkey.up hb.up hkl (m,0) hpr) rfl (fun r1 _=>?_);(try dsimp only)))|(refine k_alloc ?_;refine o1_alloc rfl (fun b5=>?_))|refine ow ?_|refine ow2 ?_ ?_|fail)
 refine st_tree' [(0,_),(5,_)] rtD28_1 [8,12,13] (.alt [0,1,2,3,4,5,6,7] [] 8 (.step [9,10,11] [] 12 (.step [] [9,10,11] 13 (.fin [14] [11]))) 12 (.step [] [0,1,2,3,4,5,6,7] 8 (.step [9,10,11] [] 13 (.fin [14] [11])))) mixed cv (by kernel_rfl) (by kernel_rfl) ?_
 repeat' (first|intro _|refine sg ?_|(refine p_fn 33 ?_;refine po (by first|refine o1_call (fun _=>dv_LoadH db fb ka key.length kc mb x lp) rfl (fun _ _=>fz)|fail) ?_)|refine pw ?_|refine pdd ?_|(refine k_fn 74 ?_;(refine o1_call (fun hh=>ss_Admit_ok _ x (setM m r1) hk0.up (rx_row (T:=5) (ad:=r1.1) (c:=r1.2) (l:=m.h.l) hh) hk1.up hk2.up ⟨hlt,hml⟩ he) rfl (fun ⟨q0,q1,q2⟩ _=>?_);(try dsimp only)))|(refine k_alloc ?_;refine o1_alloc rfl (fun b7=>?_))|refine ow ?_|refine And.intro ?_ ?_|fail)
 all_goals dsimp only [List.cons_append,List.nil_append]
 ·rw [show admitS x (setM m r1) q0 q1 q2=admitS x m q0 q1 q2 from rfl,show (setM m r1).h.l=m.h.l from rfl]
  repeat' (first|intro _|refine cw ?_|refine cw2 ?_ ?_|refine ow ?_|refine ow2 ?_ ?_|fail)
  refine o1_call_to (dvB db fb ka key.length kc (pM mb)::fB fb ad c f h::fR ad c f::[rowL q0 x.s0.h.l,rowL q1 x.s1.h.l,rowL q2 m.h.l,.box b7 51 (admitS x m q0 q1 q2).c,.any (stars H)]) (Ent.out ent) (fun hh=>dv_keeps _ db fb ka key.length kc (pM mb) ad c f f1 h (admitS x m q0 q1 q2) none (hmay _ _ _) ⟨rx_row (T:=5) (ad:=q0.1) (c:=q0.2) (l:=x.s0.h.l) (has_tail (has_tail (has_tail hh))),rx_row (T:=5) (ad:=q1.1) (c:=q1.2) (l:=x.s1.h.l) (has_tail (has_tail (has_tail hh))),rx_row (T:=5) (ad:=q2.1) (c:=q2.2) (l:=m.h.l) (has_tail (has_tail (has_tail hh)))⟩ hk hd hW) rfl (fun ⟨h1,mb1⟩ hk1=>?_)
  dsimp only at hk1 ⊢
  repeat' (first|intro _|refine cw ?_|refine cw2 ?_ ?_|refine ow ?_|refine ow2 ?_ ?_|fail)
  refine o1_call_box (b:=db) (fun hh=>dv_opens _ db fb ka key.length kc (pM mb1) ad c f1 (admitS x m q0 q1 q2) p len V rfl ⟨hp.ok,hp.es,hp.en,hp.ez,hp.ep,hp.ec⟩ (RdFl.own hk1 (has_tail hh)) hd1 ht.up hV) rfl (fun ⟨mb2,sb2⟩ _=>?_)
  dsimp only
  repeat' (first|intro _|refine cw ?_|refine cw2 ?_ ?_|refine ow ?_|refine ow2 ?_ ?_|fail)
  refine rt_tmp (h1,(mb2,sb2),q0,q1,q2) rfl rfl rfl hk1 ?_
  exact ent
 ·rw [show admitS x (setM m r1) q0 q1 q2=admitS x m q0 q1 q2 from rfl,show (setM m r1).h.l=m.h.l from rfl]
  repeat' (first|intro _|refine cw ?_|refine cw2 ?_ ?_|refine ow ?_|refine ow2 ?_ ?_|fail)
  refine o1_call_to (dvB db fb ka key.length kc (pM mb)::fB fb ad c f h::fR ad c f::[rowL q0 x.s0.h.l,rowL q1 x.s1.h.l,rowL q2 m.h.l,.box b7 51 (admitS x m q0 q1 q2).c,.any (stars H)]) (Ent.out ent) (fun hh=>dv_keeps _ db fb ka key.length kc (pM mb) ad c f f1 h (admitS x m q0 q1 q2) none (hmay _ _ _) ⟨rx_row (T:=5) (ad:=q0.1) (c:=q0.2) (l:=x.s0.h.l) (has_tail (has_tail (has_tail hh))),rx_row (T:=5) (ad:=q1.1) (c:=q1.2) (l:=x.s1.h.l) (has_tail (has_tail (has_tail hh))),rx_row (T:=5) (ad:=q2.1) (c:=q2.2) (l:=m.h.l) (has_tail (has_tail (has_tail hh)))⟩ hk hd hW) rfl (fun ⟨h1,mb1⟩ hk1=>?_)
  dsimp only at hk1 ⊢
  repeat' (first|intro _|refine cw ?_|refine cw2 ?_ ?_|refine ow ?_|refine ow2 ?_ ?_|fail)
  refine o1_call_box (b:=db) (fun hh=>dv_opens _ db fb ka key.length kc (pM mb1) ad c f1 (admitS x m q0 q1 q2) p len V rfl ⟨hp.ok,hp.es,hp.en,hp.ez,hp.ep,hp.ec⟩ (RdFl.own hk1 (has_tail hh)) hd1 ht.up hV) rfl (fun ⟨mb2,sb2⟩ _=>?_)
  dsimp only
  repeat' (first|intro _|refine cw ?_|refine cw2 ?_ ?_|refine ow ?_|refine ow2 ?_ ?_|fail)
  refine rt_tmp (h1,(mb2,sb2),q0,q1,q2) rfl rfl rfl hk1 ?_
  exact ent
def rtD29_1:List Row:=[⟨some 45,[],[],none⟩,⟨some 46,[0],[0],none⟩,⟨some 47,[1],[0,1],none⟩,⟨some 48,[2],[0,1,2],none⟩,⟨some 49,[],[],none⟩,⟨some 50,[4],[4],none⟩,⟨some 51,[],[],none⟩,⟨some 52,[6],[6],none⟩,⟨some 53,[3,5,7],[0,1,2,3,4,5,6,7],none⟩,⟨some 11,[8,8,0,1,2,3,4,5,6,7,8],[0,1,2,3,4,5,6,7,8],none⟩]
def rtD29_2:List Row:=[⟨some 45,[],[],none⟩,⟨some 46,[0],[0],none⟩,⟨some 47,[1],[0,1],none⟩,⟨some 48,[2],[0,1,2],none⟩,⟨some 49,[],[],none⟩,⟨some 50,[4],[4],none⟩,⟨some 51,[],[],none⟩,⟨some 52,[6],[6],none⟩,⟨some 53,[3,5,7],[0,1,2,3,4,5,6,7],none⟩,⟨some 11,[8,8,0,1,2,3,4,5,6,7,8],[0,1,2,3,4,5,6,7,8],none⟩]
theorem packet_Parse_sym (H:List Hl) (ad:Option Addr) (c m:Nat) (s id:BitVec 32) (x:List (BitVec 8)) (h:Rs (stars H) B ad c (symB s id x)) (hm:m=x.length+8) (h1:1≤x.length) (h2:x.length≤16) :
  Spec Tryz.prog 76 [.slice ad m c] H (fun _:Option Addr × Nat=>True) (fun r => .tuple #[.agg #[W4 s,W4 id,.slice r.1 x.length r.2],I 0]) (fun r => .row 5 1 (.slice r.1 x.length r.2) x.length (x.map B)::H):=by
 have hl:(symB s id x).length=x.length+8:=by simp [symB,be4]
 have h8:(symB s id x).take 8=be4 s++be4 id:=by simp [symB,be4]
 have hd:(symB s id x).drop 8=x:=by simp [symB,be4]
 have:=packet_Parse_ok H ad c (symB s id x) h (by omega) (by omega)
 rw [hl,h8,sym64_hi,sym64_lo,hd] at this
 rw [hm]
 exact this
theorem isP_par {m:ManD} {p:Prm} {len:Nat} (h:IsP m p len):m.parL=[W4 p.s,I p.k,I p.p,I p.z]∧mayP (count m.n m.z) m.p m.z=true:=by
 have hmay:mayP (count m.n m.z) m.p m.z=true:=by rw [h.en,h.ez,h.ep,h.ec];exact h.ok
 exact ⟨by rw [ManD.parL,if_pos hmay,h.es,h.en,h.ez,h.ep,h.ec],hmay⟩
set_option maxHeartbeats 8000000 in
theorem dv_takes_off (H:List Hl) (db fb:Nat) (ka:Option Addr) (kn kc:Nat) (mb:Nat) (x:StD) (lp:Option Addr) (ad2:Option Addr) (m2 c2:Nat) (s id:BitVec 32) (xs:List (BitVec 8)) (hb:Rs (stars H) B ad2 c2 (symB s id xs)) (hm2:m2=xs.length+8) (hx1:1≤xs.length) (hx2:xs.length≤16) (ho:x.on=false) :
  Spec Tryz.prog 37 [.pointer (some ⟨db,0,none⟩),.slice ad2 m2 c2] (dvB db fb ka kn kc (pM mb)::meB mb x lp::H) (fun _:Unit=>True) (fun _=>I 14) (fun r=>dvB db fb ka kn kc (pM mb)::meB mb x lp::H):=by
 refine spec_fn (res:=fun r:Unit=>[dvB db fb ka kn kc (pM mb),meB mb x lp]) [dvB db fb ka kn kc (pM mb),meB mb x lp] H Tryz.func37 rfl Tryz.ntmps37 (by kernel_rfl) rfl (fun W=>?_)
 dsimp only [List.cons_append,List.nil_append]
 repeat' (first|intro _|refine cw ?_|refine cw2 ?_ ?_|(refine k_fn 33 ?_;refine o1_call (fun _=>dv_LoadH db fb ka kn kc mb x lp) rfl (fun _ _=>?_))|(refine k_fn 76 ?_;(refine o1_call (fun _=>packet_Parse_sym _ ad2 c2 m2 s id xs hb.up hm2 hx1 hx2) rfl (fun ⟨a18,c18⟩ _=>?_);(try dsimp only)))|(refine k_alloc ?_;refine o1_alloc rfl (fun b6=>?_))|(refine k_load ?_;(refine ox_load (b:=mb) (i:=10) rfl rfl ?_;rw [ho]))|refine ow ?_|refine ow2 ?_ ?_|fail)
 refine rt_tmp () rfl rfl rfl trivial ?_
 exact ent
set_option maxHeartbeats 8000000 in
theorem dv_takes_fit (H:List Hl) (db fb:Nat) (ka:Option Addr) (kn kc:Nat) (mb:Nat) (x:StD) (lp:Option Addr) (ad2:Option Addr) (m2 c2:Nat) (s id:BitVec 32) (xs:List (BitVec 8)) (hb:Rs (stars H) B ad2 c2 (symB s id xs)) (hm2:m2=xs.length+8) (hx1:1≤xs.length) (hx2:xs.length≤16) (p:Prm) (len:Nat) (e:Int) (ho:x.on=true) (hp:IsP x.m p len) (he:fitsP p.k p.p p.z s p.s xs.length=e) (hne:e≠0) :
  Spec Tryz.prog 37 [.pointer (some ⟨db,0,none⟩),.slice ad2 m2 c2] (dvB db fb ka kn kc (pM mb)::meB mb x lp::H) (fun _:Unit=>True) (fun _=>I e) (fun r=>dvB db fb ka kn kc (pM mb)::meB mb x lp::H):=by
 refine spec_fn (res:=fun r:Unit=>[dvB db fb ka kn kc (pM mb),meB mb x lp]) [dvB db fb ka kn kc (pM mb),meB mb x lp] H Tryz.func37 rfl Tryz.ntmps37 (by kernel_rfl) rfl (fun W=>?_)
 dsimp only [List.cons_append,List.nil_append]
 obtain ⟨hpar,hmay⟩:=isP_par hp
 repeat' (first|intro _|refine cw ?_|refine cw2 ?_ ?_|(refine k_fn 33 ?_;refine o1_call (fun _=>dv_LoadH db fb ka kn kc mb x lp) rfl (fun _ _=>?_))|(refine k_fn 76 ?_;(refine o1_call (fun _=>packet_Parse_sym _ ad2 c2 m2 s id xs hb.up hm2 hx1 hx2) rfl (fun ⟨a18,c18⟩ _=>?_);(try dsimp only)))|(refine k_alloc ?_;refine o1_alloc rfl (fun b6=>?_))|(refine k_load ?_;(refine ox_load (b:=mb) (i:=10) rfl rfl ?_;rw [ho]))|(refine k_fn 58 ?_;(refine o1_call (fun _=>code_Of _ x.m) rfl (fun _ _=>?_);rw [hpar,hmay]))|(refine k_fn 77 ?_;(refine o1_call (fun _=>packet_Fits _ s id p.s p.k p.p p.z _ _ _) rfl (fun _ _=>?_);rw [he]))|(refine k_binOp .neq ?_;refine o1_neq_t rfl rfl hne ?_)|refine ow ?_|refine ow2 ?_ ?_|fail)
 refine rt_tmp () rfl rfl rfl trivial ?_
 exact ent
set_option maxHeartbeats 8000000 in
theorem dv_takes (H:List Hl) (db fb:Nat) (ka:Option Addr) (kn kc:Nat) (mb:Nat) (x:StD) (sb:Nat) (ad2:Option Addr) (m2 c2:Nat) (s id:BitVec 32) (xs:List (BitVec 8)) (hb:Rs (stars H) B ad2 c2 (symB s id xs)) (hm2:m2=xs.length+8) (hx1:1≤xs.length) (hx2:xs.length≤16) (ad:Option Addr) (c:Nat) (f:Fl) (h:Hid) (st:Sto) (len:Nat) (v:List Bool) (ho:x.on=true) (hp:IsP x.m st.p len) (hs:s=st.p.s) (hz:xs.length=st.p.z) (hR:RR st.p.n st.p.z st.d.M) (htk:st.d.t≤1000) (hv:SpRow st.p id v) (hk:FlOk f h) (hd:f.pw.isDown=false) (hn:st.nxt≤8*plW st.p.z) (ht:TabF (stars H)) (f1:Fl) (st1:Sto) (hput:putS st f id v xs=(st1,f1,0)) (hp1:st1.p.ok) (hb1:cntS st1.d.M≤1000) (hnd:((st1.p.n:Int) - cntS st1.d.M)≠0) :
  Spec Tryz.prog 37 [.pointer (some ⟨db,0,none⟩),.slice ad2 m2 c2] (dvB db fb ka kn kc (pM mb)::meB mb x (some ⟨sb,0,none⟩) :: .any (stP st fb sb)::fB fb ad c f h::fR ad c f::H) (fun h1:Hid=>FlOk f1 h1) (fun _=>I 0) (fun r=>dvB db fb ka kn kc (pM mb)::meB mb x (some ⟨sb,0,none⟩) :: .any (stP st1 fb sb)::fB fb ad c f1 r::fR ad c f1::H):=by
 refine spec_fn (res:=fun r:Hid=>[dvB db fb ka kn kc (pM mb),meB mb x (some ⟨sb,0,none⟩),.any (stP st1 fb sb),fB fb ad c f1 r,fR ad c f1]) [dvB db fb ka kn kc (pM mb),meB mb x (some ⟨sb,0,none⟩),.any (stP st fb sb),fB fb ad c f h,fR ad c f] H Tryz.func37 rfl Tryz.ntmps37 (by kernel_rfl) rfl (fun W=>?_)
 dsimp only [List.cons_append,List.nil_append]
 obtain ⟨hpar,hmay⟩:=isP_par hp
 have hfit:fitsP st.p.k st.p.p st.p.z s st.p.s xs.length=0:=by rw [hs];exact fits_0 hp.ok (by rw [hz])
 repeat' (first|intro _|refine cw ?_|refine cw2 ?_ ?_|(refine k_fn 33 ?_;refine o1_call (fun _=>dv_LoadH db fb ka kn kc mb x (some ⟨sb,0,none⟩)) rfl (fun _ _=>?_))|(refine k_fn 76 ?_;(refine o1_call (fun _=>packet_Parse_sym _ ad2 c2 m2 s id xs hb.up hm2 hx1 hx2) rfl (fun ⟨a18,c18⟩ _=>?_);(try dsimp only)))|(refine k_alloc ?_;refine o1_alloc rfl (fun b6=>?_))|(refine k_load ?_;(refine ox_load (b:=mb) (i:=10) rfl rfl ?_;rw [ho]))|(refine k_fn 58 ?_;(refine o1_call (fun _=>code_Of _ x.m) rfl (fun _ _=>?_);rw [hpar,hmay]))|(refine k_fn 77 ?_;(refine o1_call (fun _=>packet_Fits _ s id st.p.s st.p.k st.p.p st.p.z _ _ _) rfl (fun _ _=>?_);rw [hfit]))|refine ow ?_|refine ow2 ?_ ?_|fail)
 refine st_stages' [(5,_),(6,_)] rtD29_1 [8] [⟨[0,1,2,3,4,5,6,7],[],some 8⟩,⟨[9],[],none⟩] mixed cv (by kernel_rfl) (by kernel_rfl) ?_
 repeat' (first|intro _|refine sg ?_|(refine p_load ?_;refine po (by first|refine ox_load (b:=mb) (i:=17) rfl rfl fz|refine ox_load (b:=b6) (i:=1) rfl rfl fz|refine ox_load (b:=b6) (i:=2) rfl rfl fz|fail) ?_)|refine pw ?_|refine pdd ?_|(refine k_fn 78 ?_;(refine o1_call_to (.any (stP st fb sb)::fB fb ad c f h::fR ad c f::[dvB db fb ka kn kc (pM mb),meB mb x (some ⟨sb,0,none⟩),.row 5 1 (.slice a18 xs.length c18) xs.length (xs.map B),.any (stars H)]) (Ent.out ent) (fun hh=>so_Put _ st fb sb ad c f h id v a18 xs.length c18 xs hp.ok hR htk hv (rx_row (T:=5) (ad:=a18) (c:=c18) (l:=xs) (has_tail (has_tail (has_tail hh)))) rfl hz hk hd hn ht.up) rfl (fun h1 hk1=>?_);(rw [hput] at hk1 ⊢;dsimp only at hk1 ⊢)))|refine ow ?_|fail)
 all_goals dsimp only [List.cons_append,List.nil_append]
 repeat' (first|intro _|refine cw ?_|refine cw2 ?_ ?_|(refine k_load ?_;refine ox_load (b:=mb) (i:=17) rfl rfl ?_)|(refine k_fn 79 ?_;(refine o1_call_a (stP st1 fb sb) (fun _=>so_Needs _ st1 fb sb hp1 hb1) rfl (fun _ _=>?_)))|(refine k_binOp .eql ?_;refine o1_eql_f rfl rfl hnd ?_)|refine ow ?_|refine ow2 ?_ ?_|fail)
 refine rt_tmp h1 rfl rfl rfl hk1 ?_
 exact ent
set_option maxHeartbeats 8000000 in
theorem dv_takes_fin (H:List Hl) (db fb:Nat) (ka:Option Addr) (kn kc:Nat) (mb:Nat) (x:StD) (sb:Nat) (ad2:Option Addr) (m2 c2:Nat) (s id:BitVec 32) (xs:List (BitVec 8)) (hb:Rs (stars H) B ad2 c2 (symB s id xs)) (hm2:m2=xs.length+8) (hx1:1≤xs.length) (hx2:xs.length≤16) (ad:Option Addr) (c:Nat) (f:Fl) (h:Hid) (st:Sto) (len:Nat) (v:List Bool) (ho:x.on=true) (hp:IsP x.m st.p len) (hs:s=st.p.s) (hz:xs.length=st.p.z) (hR:RR st.p.n st.p.z st.d.M) (htk:st.d.t≤1000) (hv:SpRow st.p id v) (hk:FlOk f h) (hd:f.pw.isDown=false) (hn:st.nxt≤8*plW st.p.z) (ht:TabF (stars H)) (f1:Fl) (st1:Sto) (hput:putS st f id v xs=(st1,f1,0)) (hp1:st1.p.ok) (hb1:cntS st1.d.M≤1000) (hnd:cntS st1.d.M=st1.p.n) (im:List (BitVec 8)) (hR1:RR st1.p.n st1.p.z st1.d.M) (hl:count st1.len st1.p.z=st1.p.k) (him:imgB st1.p st1.d st1.len=im) (hi1:1≤im.length) (hi2:im.length≤512) (hsh:sha im=x.m.h.l) (hd1:f1.pw.isDown=false) (hm:x.may=true) (htr:x.t=0) (hx:x.Rd (stars H)) (f2:Fl) (hF:finF f1 x im=(f2,0)) :
  Spec Tryz.prog 37 [.pointer (some ⟨db,0,none⟩),.slice ad2 m2 c2] (dvB db fb ka kn kc (pM mb)::meB mb x (some ⟨sb,0,none⟩) :: .any (stP st fb sb)::fB fb ad c f h::fR ad c f::H) (fun r:Hid × Nat × PA × PA=>FlOk f2 r.1) (fun _=>I 0) (fun r=>dvB db fb ka kn kc (pM r.2.1)::meB r.2.1 (copyS (actS x) r.2.2.1 r.2.2.2 (none,0)) none::fB fb ad c f2 r.1::fR ad c f2::rowL r.2.2.1 (actS x).s0.h.l::rowL r.2.2.2 (actS x).s1.h.l::H):=by
 refine spec_fn (res:=fun r:Hid × Nat × PA × PA=>[dvB db fb ka kn kc (pM r.2.1),meB r.2.1 (copyS (actS x) r.2.2.1 r.2.2.2 (none,0)) none,fB fb ad c f2 r.1,fR ad c f2,rowL r.2.2.1 (actS x).s0.h.l,rowL r.2.2.2 (actS x).s1.h.l]) [dvB db fb ka kn kc (pM mb),meB mb x (some ⟨sb,0,none⟩),.any (stP st fb sb),fB fb ad c f h,fR ad c f] H Tryz.func37 rfl Tryz.ntmps37 (by kernel_rfl) rfl (fun W=>?_)
 dsimp only [List.cons_append,List.nil_append]
 obtain ⟨hpar,hmay⟩:=isP_par hp
 have hfit:fitsP st.p.k st.p.p st.p.z s st.p.s xs.length=0:=by rw [hs];exact fits_0 hp.ok (by rw [hz])
 have hn0:((st1.p.n:Int) - cntS st1.d.M)=0:=by rw [hnd];omega
 repeat' (first|intro _|refine cw ?_|refine cw2 ?_ ?_|(refine k_fn 33 ?_;refine o1_call (fun _=>dv_LoadH db fb ka kn kc mb x (some ⟨sb,0,none⟩)) rfl (fun _ _=>?_))|(refine k_fn 76 ?_;(refine o1_call (fun _=>packet_Parse_sym _ ad2 c2 m2 s id xs hb.up hm2 hx1 hx2) rfl (fun ⟨a18,c18⟩ _=>?_);(try dsimp only)))|(refine k_alloc ?_;refine o1_alloc rfl (fun b6=>?_))|(refine k_load ?_;(refine ox_load (b:=mb) (i:=10) rfl rfl ?_;rw [ho]))|(refine k_fn 58 ?_;(refine o1_call (fun _=>code_Of _ x.m) rfl (fun _ _=>?_);rw [hpar,hmay]))|(refine k_fn 77 ?_;(refine o1_call (fun _=>packet_Fits _ s id st.p.s st.p.k st.p.p st.p.z _ _ _) rfl (fun _ _=>?_);rw [hfit]))|refine ow ?_|refine ow2 ?_ ?_|fail)
 refine st_stages' [(5,_),(6,_)] rtD29_2 [8] [⟨[0,1,2,3,4,5,6,7],[],some 8⟩,⟨[9],[],none⟩] mixed cv (by kernel_rfl) (by kernel_rfl) ?_
 repeat' (first|intro _|refine sg ?_|(refine p_load ?_;refine po (by first|refine ox_load (b:=mb) (i:=17) rfl rfl fz|refine ox_load (b:=b6) (i:=1) rfl rfl fz|refine ox_load (b:=b6) (i:=2) rfl rfl fz|fail) ?_)|refine pw ?_|refine pdd ?_|(refine k_fn 78 ?_;(refine o1_call_to (.any (stP st fb sb)::fB fb ad c f h::fR ad c f::[dvB db fb ka kn kc (pM mb),meB mb x (some ⟨sb,0,none⟩),.row 5 1 (.slice a18 xs.length c18) xs.length (xs.map B),.any (stars H)]) (Ent.out ent) (fun hh=>so_Put _ st fb sb ad c f h id v a18 xs.length c18 xs hp.ok hR htk hv (rx_row (T:=5) (ad:=a18) (c:=c18) (l:=xs) (has_tail (has_tail (has_tail hh)))) rfl hz hk hd hn ht.up) rfl (fun h1 hk1=>?_);(rw [hput] at hk1 ⊢;dsimp only at hk1 ⊢)))|refine ow ?_|fail)
 all_goals dsimp only [List.cons_append,List.nil_append]
 repeat' (first|intro _|refine cw ?_|refine cw2 ?_ ?_|(refine k_load ?_;refine ox_load (b:=mb) (i:=17) rfl rfl ?_)|(refine k_fn 79 ?_;(refine o1_call_a (stP st1 fb sb) (fun _=>so_Needs _ st1 fb sb hp1 hb1) rfl (fun _ _=>?_);rw [hn0]))|(refine k_fn 80 ?_;(refine o1_call_to (dvB db fb ka kn kc (pM mb)::meB mb x (some ⟨sb,0,none⟩) :: .any (stP st1 fb sb)::fB fb ad c f1 h1::fR ad c f1::[.any (stars H)]) (Ent.out ent) (fun _=>dv_fin _ db fb ka kn kc mb sb ad c f1 f2 h1 x st1 im hm ho htr ⟨hx.s0.up,hx.s1.up,hx.m.up⟩ hk1 hd1 hp1 hR1 hnd hl him hi1 hi2 hsh hF) rfl (fun ⟨h2,mb2,q1,q2⟩ hk2=>?_);(try dsimp only at hk2 ⊢)))|refine ow ?_|refine ow2 ?_ ?_|fail)
 refine rt_tmp (h2,mb2,q1,q2) rfl rfl rfl hk2 ?_
 exact ent
end Go.Dp
