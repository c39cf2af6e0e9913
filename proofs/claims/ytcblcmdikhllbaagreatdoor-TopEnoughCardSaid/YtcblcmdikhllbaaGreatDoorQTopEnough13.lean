/-
  Downpour, walked and proved: part 13.
  Conditions: those that stand in each theorem.
-/
import Derived.Test.YtcblcmdikhllbaaGreatDoorQTopEnough3
import Derived.Test.YtcblcmdikhllbaaGreatDoorQTopEnough8
import Derived.Test.YtcblcmdikhllbaaGreatDoorQTopEnough9
import Derived.Test.YtcblcmdikhllbaaGreatDoorQTopEnough12
import Derived.Test.YtcblcmdikhllbaaGreatDoorQTopEnough4
import Derived.Test.YtcblcmdikhllbaaGreatDoorQTopEnough5
set_option linter.unusedVariables false
set_option linter.unusedSimpArgs false
set_option maxHeartbeats 64000000
namespace Go.Dp
open Go.RowKit Go.Proofs
def rtD23_0:List Row:=[tR 1 [] [],tR 2 [] [],tR 3 [1] [1],tR 4 [2] [1,2],tR 5 [3] [1,2,3],tR 6 [4] [1,2,3,4],tR 7 [0,0,1,2,3,4,5] (rG 6),tR 8 [6,0,1,2,3,4,5] (rG 7),⟨none,[7,5,5,0,1,2,3,4,5],[0,1,2,3,4,5,6,7],none⟩]
def rtD23_2:List Row:=[tR 6 [] [],tR 7 [0] [0],tR 8 [1] [0,1],tG 9 [2] [0,1,2] 2 false,tG 10 [3,2,2] [0,1,2,3] 2 false,tG 11 [4,2] (rG 5) 2 false,tR 12 [2,5] (rG 6),tR 13 [6,4] (rG 7),tG 14 [7] (rG 8) 7 false,tG 15 [7] (rG 8) 7 false,tG 16 [9,7] [0,1,2,3,4,5,6,7,9] 7 false,tG 17 [10,7] [0,1,2,3,4,5,6,7,9,10] 7 false,tG 18 [11,7] [0,1,2,3,4,5,6,7,9,10,11] 7 false,tG 19 [12,7] [0,1,2,3,4,5,6,7,9,10,11,12] 7 false,tG 20 [8,13,7,7] (rG 14) 7 false,tG 21 [7] (rG 8) 7 false,tG 22 [15,7] [0,1,2,3,4,5,6,7,15] 7 false,tG 23 [16,7] [0,1,2,3,4,5,6,7,15,16] 7 false,tG 24 [17,7] [0,1,2,3,4,5,6,7,15,16,17] 7 false,tG 25 [18,7] [0,1,2,3,4,5,6,7,15,16,17,18] 7 false,tG 26 [14,19,7] (rG 20) 7 false,tR 27 [7,20] (rG 21)]
def rtD23_3:List Row:=[tR 33 [] [],tR 34 [0] [0],tR 35 [1] [0,1],tR 36 [2] [0,1,2],tR 37 [] [],tR 38 [4] [4],tR 39 [5] [4,5],tR 40 [6] [4,5,6],tR 41 [7] [4,5,6,7],tR 42 [3,8] (rG 9),tR 43 [] [],tR 44 [9,10] (rG 11),tR 4 [11,11,0,1,2,3,4,5,6,7,8,9,10,11] (rG 12),tR 5 [12,0,1,2,3,4,5,6,7,8,9,10,11,12] (rG 13)]
def unitV (p:Prm) (id:BitVec 32):List Bool:=bitsOf p.n [(id.toNat:Int)]
theorem b5B (p:Prm) (id:BitVec 32) (hp:p.ok) (h:id.toNat<p.k):SpRow p id (unitV p id):=by
 obtain ⟨p1,p2,p3,p4,p5⟩:=hp.out
 refine ⟨a8T _ _,fun H=>?_⟩
 refine sP (res:=fun r:Nat × Option Addr × Nat=>[vB r.1 p.n r.2.1 r.2.2,vR p.n r.2.1 r.2.2 (unitV p id)]) H Tryz.func85 Tryz.ntmps85 fun W=>?_
 have e:(if mayP (p.k:Int) p.p p.z=true then (p.k:Int)+p.p else 0)=(p.n:Int):=by rw [if_pos hp];push_cast;rfl
 have hn1 : ¬ (p.n:Int)=0:=by show ¬ ((p.k+p.p:Nat):Int)=0;omega
 have hn2:p.n≤256:=by show p.k+p.p≤256;omega
 repeat' (first|intro _|(refine k_fn 135 ?_;(refine a0A (fun _=>a4O _ p.s p.k p.p p.z) rfl (fun _ _=>?_);rw [e]))|(refine a0D .eql ?_;refine a1Y rfl rfl hn1 ?_)|(refine a1W ?_;first|refine a7O rfl (by omega) ?_|refine a5Y rfl (by omega) ?_)|(refine a0D .lss ?_;refine a6Z rfl rfl (by omega) ?_)|(refine a0P ?_;refine a0O (T:=147) I [(id.toNat:Int)] rfl rfl rfl (fun _=>rfl) rfl rfl rfl (fun b20=>?_))|(refine k_fn 136 ?_;(refine a0A (fun hh=>c1W _ p.n (some ⟨b20,0,none⟩) 1 [(id.toNat:Int)] hn2 (a2H rfl (by decide) hh)) rfl (fun ⟨vb,va,vc⟩ _=>?_);(try dsimp only)))|refine wK ?_|refine wL ?_ ?_|fail)
 refine a0E (vb,va,vc) rfl rfl rfl trivial ?_
 exact ent
abbrev deC (p:Prm) (mb t:Nat) (o:BitVec 32) (k:Int) (l:Value):List Value:=[W4 p.s,I p.k,I p.p,I p.z,.pointer (some ⟨mb,0,none⟩),I t,W4 o,K4 k,W4 0#32,l]
theorem de_Image1 (H:List Hl) (p:Prm) (mb t db v:Nat) (ar:Option Addr) (cr:Nat) (M:List (Option RD)) (R:List RD) (hM:RdM (stars H) mb p.n p.z ar cr p.n M) (hR:M=R.map some) :
  Spec Tryz.prog 200 [.pointer (some ⟨v,0,none⟩)] (.box db 221 (deC p mb t 0#32 1 (.slice none 0 0)) :: .box v 164 [.pointer (some ⟨db,0,none⟩)]::H) (fun r:Option Addr × Nat × List (SlD (BitVec 8))=>r.2.2.map (·.l)=R.map (·.d)) (fun _ => .tuple #[])
   (fun r => .box db 221 (deC p mb t 0#32 1 (.slice r.1 r.2.2.length r.2.1)) :: .box v 164 [.pointer (some ⟨db,0,none⟩)] :: .row 22 1 (.slice r.1 r.2.2.length r.2.1) r.2.2.length (r.2.2.map Bs) :: .any (pcs 5 r.2.2)::H):=by
 refine sF (res:=fun r:Option Addr × Nat × List (SlD (BitVec 8))=>[.box db 221 (deC p mb t 0#32 1 (.slice r.1 r.2.2.length r.2.1)),.box v 164 [.pointer (some ⟨db,0,none⟩)],.row 22 1 (.slice r.1 r.2.2.length r.2.1) r.2.2.length (r.2.2.map Bs),.any (pcs 5 r.2.2)]) [.box db 221 (deC p mb t 0#32 1 (.slice none 0 0)),.box v 164 [.pointer (some ⟨db,0,none⟩)]] H Tryz.func200 Tryz.ntmps200 fun W=>?_
 dsimp only [cA,nA]
 repeat' (first|intro _|refine wK ?_|refine wL ?_ ?_|fail)
 refine a0H [(0,_)] rtD23_0 [5,8] [⟨[0,1,2,3,4],[],some 5⟩,⟨[6,7],[0],some 8⟩,⟨[],[],none⟩] mixed cv (by kernel_rfl) (by kernel_rfl) ?_
 repeat' (first|intro _|refine sg ?_|(refine a1E ?_;refine po (by first|refine a0F (b:=v) (i:=0) rfl rfl fz|refine a0F (b:=db) (i:=4) rfl rfl fz|fail) ?_)|refine pw ?_|refine pdd ?_|(refine k_fn 201 ?_;(refine a0A (fun _=>elim_Solve _ mb p.n p.z ar cr M R hM.up hR) rfl (fun ⟨a6,c6,qs⟩ hqs=>?_);dsimp only at hqs ⊢))|(refine a1N ?_;refine a1R (b:=db) (i:=9) rfl rfl (by decide) rfl rfl ?_)|refine ow ?_|fail)
 all_goals dsimp only [cA,nA]
 repeat' (first|intro _|refine wK ?_|refine wL ?_ ?_|fail)
 refine a4I (a6,c6,qs) rfl rfl hqs ?_
 exact ent
theorem de_Needs0 (H:List Hl) (p:Prm) (mb t:Nat) (o:BitVec 32) (k:Int) (l:Value) (db c:Nat) (hp:p.ok) (hb:c≤1000) (hc:Cl (stars H) ⟨mb,3,none⟩ (I c)) :
  Spec Tryz.prog 123 [.pointer (some ⟨db,0,none⟩)] (.box db 221 (deC p mb t o k l)::H) (fun _:Unit=>True) (fun _=>I ((p.n:Int) - c)) (fun _ => .box db 221 (deC p mb t o k l)::H):=by
 refine sF (res:=fun _:Unit=>[.box db 221 (deC p mb t o k l)]) [.box db 221 (deC p mb t o k l)] H Tryz.func123 Tryz.ntmps123 fun W=>?_
 dsimp only [cA,nA]
 obtain ⟨p1,p2,p3,p4,p5⟩:=hp.out
 have hn2:p.n≤256:=by show p.k+p.p≤256;omega
 have e:(if mayP (p.k:Int) p.p p.z=true then (p.k:Int)+p.p else 0)=(p.n:Int):=by rw [if_pos hp];push_cast;rfl
 repeat' (first|intro _|refine a0S rfl rfl ?_|refine wK ?_|refine wL ?_ ?_|fail)
 refine a0H [(0,_)] rtD22_2 [4,9] [⟨[0,1,2,3,5,6,7,8],[],some 4⟩,⟨[],[5,6,7,8],some 9⟩,⟨[10,11],[],none⟩] mixed cv (by kernel_rfl) (by kernel_rfl) ?_
 repeat' (first|intro _|refine sg ?_|(refine a1E ?_;refine po (by first|refine a0F (b:=db) (i:=4) rfl rfl fz|fail) ?_)|(refine a1I .sub ?_;refine po (by first|refine a3D rfl rfl (by omega) fz|fail) ?_)|refine pw ?_|refine pdd ?_|(refine k_fn 135 ?_;(refine a0A (fun _=>a4O _ p.s p.k p.p p.z) rfl (fun _ _=>?_);rw [e]))|(refine k_fn 169 ?_;refine a0A (fun _=>b7B _ mb c (cl_up hc)) rfl (fun _ _=>?_))|refine ow ?_|fail)
 all_goals dsimp only [cA,nA]
 repeat' (first|intro _|refine wK ?_|refine wL ?_ ?_|fail)
 refine a0E () rfl rfl rfl trivial ?_
 exact ent
def solD (M:List (Option LN)):List (List (BitVec 8)):=M.map (fun o=>match o with|some y=>y.2|none=>[])
def imgB (p:Prm) (d:Dec) (len:Nat):List (BitVec 8):=joinL ((solD d.M).take p.k).flatten len
theorem full_rows {M:List (Option RD)} {ML:List (Option LN)} (hM:M.map vw=ML) (hf:cntS ML=ML.length):∃ R:List RD,M=R.map some∧R.map (·.d)=solD ML:=by
 subst hM
 have hs:=a8N hf
 induction M with
 | nil=>exact ⟨[],rfl,rfl⟩
 | cons o M ih =>
  obtain ⟨y,hy⟩:=hs 0 (by simp)
  cases o with
  | none=>simp [vw] at hy
  | some r =>
   have hf2:cntS (M.map vw)=(M.map vw).length:=by
    have h1:=b4O (M.map vw)
    simp only [List.map_cons,List.length_cons,vw,Option.map_some,cntS] at hf
    omega
   obtain ⟨R,h1,h2⟩:=ih hf2 (a8N hf2)
   refine ⟨r::R,by rw [h1];rfl,?_⟩
   show r.d::R.map (·.d)=r.d::solD (M.map vw)
   rw [h2]
theorem de_Image (H:List Hl) (p:Prm) (d:Dec) (db len:Nat) (hp:p.ok) (hR:RR p.n p.z d.M) (hf:cntS d.M=p.n) (hl:count len p.z=p.k) :
  Spec Tryz.prog 170 [.pointer (some ⟨db,0,none⟩),I len] (.any (deP p d db)::H) (fun _:Option Addr × Nat=>True) (fun r => .tuple #[.slice r.1 (imgB p d len).length r.2,.bool true]) (fun r => .row 5 1 (.slice r.1 (imgB p d len).length r.2) (imgB p d len).length ((imgB p d len).map B)::H):=by
 refine Spec.som (by kernel_rfl) (fun ⟨mb,ar,cr,M⟩ ⟨hk,hM⟩=>?_)
 dsimp only at hk hM
 show Spec _ _ _ (deB db mb p d.t::mB mb p.n p.z ar cr (cntS d.M)::mR p.n ar cr M :: .any (mrows M)::H) _ _ _
 have hlen:=hR.lok.len
 obtain ⟨R,hMR,hRd⟩:=full_rows hM (by rw [hf,hlen])
 obtain ⟨p1,p2,p3,p4,p5⟩:=hp.out
 refine sF (res:=fun r:Option Addr × Nat=>[.row 5 1 (.slice r.1 (imgB p d len).length r.2) (imgB p d len).length ((imgB p d len).map B)]) [deB db mb p d.t,mB mb p.n p.z ar cr (cntS d.M),mR p.n ar cr M,.any (mrows M)] H Tryz.func170 Tryz.ntmps170 fun W=>?_
 dsimp only [cA,nA]
 have hcn:count (len:Int) p.z≠0:=by rw [hl];omega
 obtain ⟨c1,c2,c3,c4,c5,c6,c7⟩:=a8R hcn
 have hcb:cntS d.M≤1000:=by rw [hf];show p.k+p.p≤1000;omega
 have hf0:((p.n:Int) - (cntS d.M:Int))=0:=by rw [hf];omega
 repeat' (first|intro _|(refine k_box ?_;refine a1V rfl rfl (fun v=>?_))|refine wK ?_|refine wL ?_ ?_|fail)
 refine a0H [(2,_),(1,_)] rtD23_2 [4,14] [⟨[0,1,2,3],[],some 4⟩,⟨[5,6,7,8,9,10,11,12,13,15,16,17,18,19],[],some 14⟩,⟨[20,21],[15,16,17,18,19],none⟩] mixed cv (by kernel_rfl) (by kernel_rfl) ?_
 repeat' (first|intro _|refine sg ?_|(refine a1E ?_;refine po (by first|refine a0F (b:=v) (i:=0) rfl rfl fz|refine a0F (b:=db) (i:=3) rfl rfl fz|refine a0F (b:=db) (i:=1) rfl rfl fz|fail) ?_)|refine po (by first|refine a0S rfl rfl fz|fail) ?_|(refine a1I .neq ?_;refine po (by first|refine a2E rfl rfl rfl fz|fail) ?_)|refine pw ?_|refine pdd ?_|refine a0S rfl rfl ?_|(refine k_fn 123 ?_;(refine a0G (b:=db) (fun _=>de_Needs0 _ p mb d.t 0#32 0 (.slice none 0 0) db (cntS d.M) hp hcb (a1M rfl)) rfl (fun _ _=>?_);rw [hf0]))|(refine k_fn 105 ?_;(refine a0A (fun _=>a9W _ _ _) rfl (fun _ _=>?_);rw [hl]))|refine ow ?_|fail)
 all_goals dsimp only [cA,nA]
 have hRn:R.length=p.n:=by rw [←hk.len,hMR,List.length_map]
 have hpk:p.k≤p.n:=by show p.k≤p.k+p.p;omega
 rw [hf]
 repeat' (first|intro _|(refine k_fn 131 ?_;refine a0G (b:=db) (fun hh=>on_Do _ db 6 _ (deC p mb d.t 0#32 0 (.slice none 0 0)) 200 [.pointer (some ⟨v,0,none⟩)] rfl rfl (de_Image1 _ p mb d.t db v ar cr M R (RdM.own hk (a0B (a0B hh))) hMR) (fun _ _=>rfl)) rfl (fun ⟨aq,cq,qs⟩ hqs=>?_))|refine b6K rfl ?_|refine wK ?_|refine wL ?_ ?_|fail)
 dsimp only at hqs ⊢
 have hql:qs.length=p.n:=by have:=congrArg List.length hqs;simp only [List.length_map] at this;omega
 obtain ⟨Lq,hLq⟩:∃ Lq,qs.take p.k=Lq:=⟨_,rfl⟩
 have hLl:Lq.length=p.k:=by rw [←hLq,List.length_take];omega
 have hsub:∀ s∈Lq,s∈qs:=fun s hs=>by rw [←hLq] at hs;exact List.mem_of_mem_take hs
 have himg:joinL (cat Lq) len=imgB p d len:=by
  unfold imgB
  rw [←hRd,←hqs,←hLq,←List.map_take]
  rfl
 refine a0H [(2,_),(1,_)] rtD23_3 [11] [⟨[0,1,2,3,4,5,6,7,8,9,10],[],some 11⟩,⟨[12,13],[],none⟩] mixed cv (by kernel_rfl) (by kernel_rfl) ?_
 repeat' (first|intro _|refine sg ?_|(refine a1E ?_;refine po (by first|refine a0F (b:=v) (i:=0) rfl rfl fz|refine a0F (b:=db) (i:=9) rfl rfl fz|refine a0F (b:=db) (i:=1) rfl rfl fz|fail) ?_)|(refine a6D ?_;refine po (by first|((refine a7V (enc:=Bs) (xs:=qs) p.k rfl rfl rfl rfl (by omega) ?_;rw [hLq]);all_goals exact fz)|fail) ?_)|refine pw ?_|refine pdd ?_|(refine k_fn 202 ?_;(refine a0A (fun hh=>block_Join _ (cutA aq cq 0) (cq - 0) Lq len (b3Z (l:=qs) (enc:=Bs) p.k (by omega) hLq hh) (fun s hs=>b5D (T:=5) (ls:=qs) (hsub s hs) hh)) rfl (fun ⟨a44,c44⟩ _=>?_);(try dsimp only);rw [himg]))|refine ow ?_|fail)
 all_goals dsimp only [cA,nA]
 repeat' (first|intro _|refine wK ?_|refine wL ?_ ?_|fail)
 refine a2U (a44,c44) rfl rfl rfl rfl trivial ?_
 exact ent
def rtD24_0:List Row:=[tR 33 [] [],tR 34 [0] [0],tR 35 [] [],tR 36 [2] [2],tR 37 [1,3] [0,1,2,3],tR 38 [] [],tR 39 [] [],tR 40 [6] [6],tR 41 [4,5,7] (rG 8),tR 42 [8] (rG 9),tR 12 [9,7,0,1,2,3,4,5,6,7,8,9] (rG 10)]
def rtD24_1:List Row:=[tR 50 [] [],tR 51 [0] [0],tR 52 [1] [0,1],tR 53 [2] [0,1,2],tR 54 [] [],tR 55 [4] [4],tR 56 [] [],tR 57 [6] [6],tR 58 [3,5,7] (rG 8)]
theorem rx_w2 {α:Type} {H H':List Hl} {T:TypeId} {f g:α→Value} {ad:Option Addr} {n c:Nat} {l:List α} [s:SRw2 H ad c n T (w2 f g l) H'] (hh:Has H):R2 (stars H) f g ad c l:=R2.of_row s.s hh
theorem RdRs.up {A:Hp→Prop} {rs:List RecD} {H H':List Hl} (h:RdRs A rs) [s:SAny H A H']:RdRs (stars H) rs:=fun r hr=>⟨(h r hr).1.up,(h r hr).2⟩
structure Sto where
 p:Prm
 g:BitVec 32
 len:Nat
 rdy:Int
 nxt:Nat
 d:Dec
abbrev soB (sb wb db:Nat) (st:Sto):Hl := .box sb 166 [W4 0#32,W4 0#32,I st.len,I st.p.z,I 0,.slice none 0 0,.pointer (some ⟨wb,0,none⟩),.pointer (some ⟨db,0,none⟩)]
abbrev SLay:=Nat × Nat × Option Addr × Nat × List RecD
def stL (st:Sto) (fb sb:Nat) (l:SLay):List Hl:=[soB sb l.1 l.2.1 st,whB l.1 fb st.g st.p.z l.2.2.1 l.2.2.2.2.length l.2.2.2.1 st.rdy st.nxt,rsR l.2.2.1 l.2.2.2.1 l.2.2.2.2,.any (deP st.p st.d l.2.1)]
def stP (st:Sto) (fb sb:Nat):Hp→Prop:=Som (fun l:SLay=>l.2.2.2.2.length≤144+st.nxt) (stL st fb sb)
theorem rt_st {P:Program} {k:Kon} {m:Nat} {e:Ev} {W:World} {H R:List Hl} {st:Sto} {fb sb wb db:Nat} {la:Option Addr} {lc:Nat} {rs:List RecD} (hl:rs.length≤144+st.nxt) (hE:Ent H (soB sb wb db st::whB wb fb st.g st.p.z la rs.length lc st.rdy st.nxt::rsR la lc rs :: .any (deP st.p st.d db)::R)) (h:Rt P k m e W (.any (stP st fb sb)::R)):Rt P k m e W H :=
 a9C (L:=stL st fb sb) (p:=fun l:SLay=>l.2.2.2.2.length≤144+st.nxt) (wb,db,la,lc,rs) hl hE h
def recD (p:Prm) (V:BitVec 32→List Bool) (l:List Rec):Dec:=l.foldl (fun d r=>takeD p d (V r.1) r.2) (newD p)
def openS (p:Prm) (g:BitVec 32) (len:Nat) (V:BitVec 32→List Bool) (bs:List (BitVec 8)):Sto:=⟨p,g,len,rdyW bs g p.z 8,nxtW bs g p.z,recD p V (recsW bs g p.z 8)⟩
theorem takeD_RR {p:Prm} {d:Dec} {v:List Bool} {x:List (BitVec 8)} (h:RR p.n p.z d.M) (hv:v.length=p.n) (hx:x.length=p.z):RR p.n p.z (takeD p d v x).M:=by
 unfold takeD
 split
 ·exact h
 ·exact c1K h hv hx
theorem takeD_t (p:Prm) (d:Dec) (v:List Bool) (x:List (BitVec 8)):(takeD p d v x).t≤d.t+1:=by
 unfold takeD
 split
 ·omega
 ·exact Nat.le_refl _
theorem recD_ok (p:Prm) (V:BitVec 32→List Bool):∀ l:List Rec,(∀ r∈l,(V r.1).length=p.n∧r.2.length=p.z)→RR p.n p.z (recD p V l).M∧(recD p V l).t≤l.length:=fun l=>a9F (P:=fun l=>(∀ r∈l,(V r.1).length=p.n∧r.2.length=p.z)→RR p.n p.z (recD p V l).M∧(recD p V l).t≤l.length) (fun _=>⟨rowsM_RR p _ (fun v hv=>by
  obtain ⟨j,_,rfl⟩:=List.mem_map.1 hv
  exact a9E _ _ _ _),Nat.le_refl _⟩) (fun l a ih h=>by
 have e:recD p V (l++[a])=takeD p (recD p V l) (V a.1) a.2:=by simp [recD]
 obtain ⟨i1,i2⟩:=ih (fun r hr=>h r (by simp [hr]))
 obtain ⟨a1,a2⟩:=h a (by simp)
 rw [e]
 refine ⟨takeD_RR i1 a1 a2,?_⟩
 have:=takeD_t p (recD p V l) (V a.1) a.2
 simp only [List.length_append,List.length_singleton]
 omega) l
theorem b6C {l:List (BitVec 8)} {g:BitVec 32} {z p:Nat} (hz1:1≤z) (hz2:z≤16) (hl:l.length=3584):∀ n,p+n≤8*plW z→∀ r∈recsP l g z p n,r.2.length=z
 | 0,_,r,hr=>by cases hr
 | n+1,hn,r,hr=>by
  unfold recsP at hr
  cases hw:recAt l g z (p+n) with
  | none=>rw [hw] at hr;exact b6C hz1 hz2 hl n (by omega) r hr
  | some q =>
   rw [hw] at hr
   rcases List.mem_append.1 hr with h|h
   ·exact b6C hz1 hz2 hl n (by omega) r h
   ·obtain rfl:r=q:=by simpa using h
    obtain ⟨id,d⟩:=r
    have:=(a8U hz1 hz2 (p:=p+n) (by omega)).1
    exact (recAt_len hw (by omega)).2
theorem b6A {l:List (BitVec 8)} {g:BitVec 32} {z:Nat} (hz1:1≤z) (hz2:z≤16) (hl:l.length=3584):∀ n,n≤8→∀ r∈recsW l g z n,r.2.length=z
 | 0,_,r,hr=>by cases hr
 | n+1,hn,r,hr=>by
  unfold recsW at hr
  split at hr
  ·rcases List.mem_append.1 hr with h|h
   ·exact b6A hz1 hz2 hl n (by omega) r h
   ·refine b6C hz1 hz2 hl _ ?_ r h
    have:(n+1)*plW z≤8*plW z:=Nat.mul_le_mul_right _ (by omega)
    rw [Nat.add_mul,Nat.one_mul] at this
    exact this
  ·exact b6A hz1 hz2 hl n (by omega) r hr
theorem so_Open (H:List Hl) (fb:Nat) (m:ManD) (p:Prm) (g:BitVec 32) (len:Nat) (V:BitVec 32→List Bool) (ad:Option Addr) (c:Nat) (f:Fl) (hp:p.ok) (hs:m.s=p.s) (hn:m.n=len) (hz:m.z=p.z) (hpp:m.p=p.p) (hc:count len p.z=p.k) (hf:RdFl (stars H) fb ad c f) (hd:f.pw.isDown=false) (ht:TabF (stars H)) (hV:∀ r∈recsW f.bs g p.z 8,SpRow p r.1 (V r.1)) :
  Spec Tryz.prog 119 [.pointer (some ⟨fb,0,none⟩),m.V,W4 g] H (fun _:Nat=>True) (fun sb => .tuple #[.pointer (some ⟨sb,0,none⟩),I 0]) (fun sb => .any (stP (openS p g len V f.bs) fb sb)::H):=by
 refine sP (res:=fun sb:Nat=>[.any (stP (openS p g len V f.bs) fb sb)]) H Tryz.func119 Tryz.ntmps119 fun W=>?_
 obtain ⟨p1,p2,p3,p4,p5⟩:=hp.out
 have hmay:mayP (count m.n m.z) m.p m.z=true:=by rw [hn,hz,hpp,hc];exact hp
 have hpar:m.parL=[W4 p.s,I p.k,I p.p,I p.z]:=by rw [ManD.parL,if_pos hmay,hs,hn,hz,hpp,hc]
 obtain ⟨ms,mv,mn,mz,mp,mh⟩:=m
 dsimp only at hs hn hz hpp hmay
 subst hs hn hz hpp
 obtain ⟨RW,hRW⟩:∃ RW,recsW f.bs g p.z 8=RW:=⟨_,rfl⟩
 have hlen:=b6A (g:=g) p4 p5 hf.l 8 (Nat.le_refl _)
 rw [hRW] at hV hlen
 repeat' (first|intro _|(refine k_fn 58 ?_;(refine a0A (fun _=>b0O _ ⟨p.s,mv,len,p.z,p.p,mh⟩) rfl (fun _ _=>?_);rw [hpar,hmay]))|(refine k_box ?_;refine a1V rfl rfl (fun b4=>?_))|(refine a1O ?_;refine a1D rfl (fun b8=>?_))|(refine k_fn 159 ?_;(refine a0A (fun _=>wh_Open _ fb g p.z ad c f p4 p5 hf.up hd) rfl (fun ⟨wb,⟨la,lc,rs⟩,A⟩ hw0=>?_);obtain ⟨hw1,hw2,hw3⟩:=hw0;(try dsimp only at hw1 hw2 hw3 ⊢)))|refine wK ?_|refine wL ?_ ?_|fail)
 rw [hRW] at hw1
 have hr1000:∀ r∈rs,r.l.length≤1000:=fun r hr=>by
  have h1:r.p∈RW:=by rw [←hw1];exact List.mem_map_of_mem hr
  have h2:r.l.length=p.z:=hlen _ h1
  omega
 refine a0H [(4,_),(10,_),(8,_)] rtD24_0 [7,9] [⟨[0,1,2,3,4,5,6],[],some 7⟩,⟨[8],[0,1,2,3,4,5],some 9⟩,⟨[10],[],none⟩] mixed cv (by kernel_rfl) (by kernel_rfl) ?_
 repeat' (first|intro _|refine sg ?_|refine pw ?_|refine pdd ?_|(refine k_fn 160 ?_;(refine a0A (fun _=>de_New _ p hp ht.up) rfl (fun db _=>?_);(try dsimp only)))|(refine k_box ?_;refine a1V rfl rfl (fun sb=>?_))|refine ow ?_|fail)
 all_goals dsimp only [cA,nA]
 repeat' (first|intro _|(refine k_fn 161 ?_;(refine a0A (fun hh=>wh_Records _ wb la lc rs (a1M rfl) (rx_w2 (T:=243) hh) hw2.up (by omega) hr1000) rfl (fun ⟨⟨la2,lc2,rs2⟩,A2⟩ hr0=>?_);obtain ⟨hr1,hr2⟩:=hr0;(try dsimp only at hr1 hr2 ⊢)))|refine wK ?_|refine wL ?_ ?_|fail)
 have hrl:rs2.length=rs.length:=by have:=congrArg List.length hr1;simpa using this
 rw [hw1] at hr1
 refine st_pack [rsR la2 lc2 rs2,.any A2] [soB sb wb db ⟨p,g,len,rdyW f.bs g p.z 8,nxtW f.bs g p.z,newD p⟩,whB wb fb g p.z la rs.length lc (rdyW f.bs g p.z 8) (nxtW f.bs g p.z),rsR la lc rs,.any (deP p (newD p) db),.any (stars H)] ent ?_
 refine st_has (fun hh=>?_)
 have hA:=a5L hh
 have u1:R2 (stars [rsR la2 lc2 rs2,.any A2]) rF rGq la2 lc2 rs2:=rx_w2 (T:=243) hA
 have u2:RdRs (stars [rsR la2 lc2 rs2,.any A2]) rs2:=hr2.gr Gr.of
 obtain ⟨A3,hA3⟩:∃ A3,stars [rsR la2 lc2 rs2,.any A2]=A3:=⟨_,rfl⟩
 rw [hA3] at u1 u2 ⊢
 clear hh hA hA3
 have hpre:∀ i,∀ r∈RW.take i,(V r.1).length=p.n∧r.2.length=p.z:=fun i r hr=>⟨(hV r (List.mem_of_mem_take hr)).1,hlen r (List.mem_of_mem_take hr)⟩
 have hRl:RW.length=rs2.length:=by rw [←hr1,List.length_map]
 refine a0Y (S:=Nat) (fun i=>[(12,.pointer (some ⟨sb,0,none⟩)),(44,.slice la2 rs2.length lc2),(45,I rs2.length),(46,I i)])
  (fun i=>[.any (deP p (recD p V (RW.take i)) db),.any A3,soB sb wb db ⟨p,g,len,rdyW f.bs g p.z 8,nxtW f.bs g p.z,newD p⟩,whB wb fb g p.z la rs.length lc (rdyW f.bs g p.z 8) (nxtW f.bs g p.z),rsR la lc rs,.any (stars H)])
  (fun i=>i≤rs2.length) (fun i=>rs2.length - i) 0 (Nat.zero_le _) cv (by show Ent _ [.any (deP p (newD p) db),.any A3,soB sb wb db ⟨p,g,len,rdyW f.bs g p.z 8,nxtW f.bs g p.z,newD p⟩,whB wb fb g p.z la rs.length lc (rdyW f.bs g p.z 8) (nxtW f.bs g p.z),rsR la lc rs,.any (stars H)];exact ent) ?_
 intro i hi
 by_cases hlt:i<rs2.length
 ·obtain ⟨r,hri⟩:∃ r,rs2[i]?=some r:=⟨_,List.getElem?_eq_getElem hlt⟩
  obtain ⟨hrr,hrn⟩:=u2 r (List.mem_of_getElem? hri)
  have hrp:RW[i]?=some r.p:=by rw [←hr1,List.getElem?_map,hri];rfl
  have hrm:=List.mem_of_getElem? hrp
  have hrz:r.l.length=p.z:=hlen _ hrm
  obtain ⟨ok1,ok2⟩:=recD_ok p V (RW.take i) (hpre i)
  have ok3:(recD p V (RW.take i)).t≤1000:=by
   have:=List.length_take_le i RW
   omega
  have hnext:recD p V (RW.take (i+1))=takeD p (recD p V (RW.take i)) (V r.id) r.l:=by
   obtain ⟨h1,h2⟩:=List.getElem?_eq_some_iff.1 hrp
   rw [List.take_succ_eq_append_getElem h1,h2]
   simp [recD,RecD.p]
  repeat' (first|intro _|(refine a0J ?_;refine o1_iaw (f:=rF) (g:=rGq) (ad:=la2) (c:=lc2) i rfl rfl u1 rfl rfl hlt ?_)|(refine a0K ?_;refine o1_load_iaw (f:=rF) (g:=rGq) (ad:=la2) (c:=lc2) i r rfl u1 hri ?_)|refine wK ?_|refine wL ?_ ?_|fail)
  refine a0H [(12,_),(14,_)] rtD24_1 [8] [⟨[0,1,2,3,4,5,6,7],[],some 8⟩,⟨[],[],none⟩] mixed cv (by kernel_rfl) (by kernel_rfl) ?_
  repeat' (first|intro _|refine sg ?_|(refine a1E ?_;refine po (by first|refine a0F (b:=sb) (i:=7) rfl rfl fz|fail) ?_)|refine pw ?_|refine pdd ?_|(refine k_fn 122 ?_;(refine a0T (deP p (recD p V (RW.take i)) db) (fun _=>de_Take _ p (recD p V (RW.take i)) db r.id (V r.id) r.ad r.n r.cap r.l hp (hV _ hrm) ok1 ht.up hrr.up hrn.symm hrz ok3) rfl (fun _ _=>?_);rw [←hnext]))|refine ow ?_|fail)
  all_goals dsimp only [cA,nA]
  repeat' (first|intro _|refine wK ?_|refine wL ?_ ?_|fail)
  refine a0Q (i+1) hlt (by omega) cv ?_
  exact ent
 ·have:i=rs2.length:=by omega
  subst this
  rw [List.take_of_length_le (by omega)]
  repeat' (first|intro _|refine wK ?_|refine wL ?_ ?_|fail)
  have hop:openS p g len V f.bs=⟨p,g,len,rdyW f.bs g p.z 8,nxtW f.bs g p.z,recD p V RW⟩:=by rw [openS,hRW]
  rw [hop]
  refine rt_st (st:=⟨p,g,len,rdyW f.bs g p.z 8,nxtW f.bs g p.z,recD p V RW⟩) (wb:=wb) (db:=db) (la:=la) (lc:=lc) (rs:=rs) (R:=[.any (stars H)]) (by show rs.length≤144+_;omega) ent ?_
  refine a2U sb rfl rfl rfl rfl trivial ?_
  exact ent
def rtD25_0:List Row:=[tR 6 [] [],tR 7 [0] [0],tR 8 [1] [0,1],tR 9 [2] [0,1,2],tR 10 [] [],tR 11 [4] [4],tR 12 [5] [4,5],tR 13 [6] [4,5,6],tR 14 [7] [4,5,6,7],tR 15 [3,8] (rG 9),tR 16 [9] (rG 10),tR 17 [9] (rG 10),tR 2 [10,9,0,1,2,3,4,5,6,7,8,9,10,11] (rG 12),tR 3 [11,12,0,1,2,3,4,5,6,7,8,9,10,11,12] (rG 13)]
def putS (st:Sto) (f:Fl) (id:BitVec 32) (v:List Bool) (x:List (BitVec 8)):Sto × Fl × Int :=
 if saysD st.p st.d v=false then (st,f,8) else
 if (addW f st.g st.rdy st.nxt id x).2≠0 then (st,(addW f st.g st.rdy st.nxt id x).1,(addW f st.g st.rdy st.nxt id x).2) else
 (⟨st.p,st.g,st.len,((st.nxt / plW st.p.z:Nat):Int),st.nxt+1,takeD st.p st.d v x⟩,(addW f st.g st.rdy st.nxt id x).1,0)
theorem c1M (H:List Hl) (st:Sto) (fb sb:Nat) (ad:Option Addr) (c:Nat) (f:Fl) (h:Hid) (id:BitVec 32) (v:List Bool) (ad2:Option Addr) (m c2:Nat) (x:List (BitVec 8)) (hp:st.p.ok) (hR:RR st.p.n st.p.z st.d.M) (htk:st.d.t≤1000) (hv:SpRow st.p id v) (hx:Rs (stars H) B ad2 c2 x) (hm:m=x.length) (hz:x.length=st.p.z) (hk:FlOk f h) (hd:f.pw.isDown=false) (hn:st.nxt≤8*plW st.p.z) (ht:TabF (stars H)) :
  Spec Tryz.prog 78 [.pointer (some ⟨sb,0,none⟩),W4 id,.slice ad2 m c2] (.any (stP st fb sb)::fB fb ad c f h::fR ad c f::H) (fun h':Hid=>FlOk (putS st f id v x).2.1 h') (fun _=>I (putS st f id v x).2.2) (fun h' => .any (stP (putS st f id v x).1 fb sb)::fB fb ad c (putS st f id v x).2.1 h'::fR ad c (putS st f id v x).2.1::H):=by
 refine Spec.som (by kernel_rfl) (fun ⟨wb,db,la,lc,rs⟩ hrl=>?_)
 have hrl:rs.length≤144+st.nxt:=hrl
 show Spec _ _ _ (soB sb wb db st::whB wb fb st.g st.p.z la rs.length lc st.rdy st.nxt::rsR la lc rs :: .any (deP st.p st.d db)::fB fb ad c f h::fR ad c f::H) _ _ _
 refine sF (res:=fun h':Hid=>[.any (stP (putS st f id v x).1 fb sb),fB fb ad c (putS st f id v x).2.1 h',fR ad c (putS st f id v x).2.1]) [soB sb wb db st,whB wb fb st.g st.p.z la rs.length lc st.rdy st.nxt,rsR la lc rs,.any (deP st.p st.d db),fB fb ad c f h,fR ad c f] H Tryz.func78 Tryz.ntmps78 fun W=>?_
 dsimp only [cA,nA]
 obtain ⟨p1,p2,p3,p4,p5⟩:=hp.out
 obtain ⟨b1,b2,b3⟩:=a7K p4 p5
 have hmz:(m:Int)=st.p.z:=by rw [hm,hz]
 have hm2:m=st.p.z:=by rw [hm,hz]
 subst hm2
 obtain ⟨y,hy⟩:∃ y,saysD st.p st.d v=y:=⟨_,rfl⟩
 cases y
 ·have hput:putS st f id v x=(st,f,8):=if_pos hy
  rw [hput]
  repeat' (first|intro _|refine a0S rfl rfl ?_|(refine a0K ?_;first|refine a0F (b:=sb) (i:=3) rfl rfl ?_|refine a0F (b:=sb) (i:=7) rfl rfl ?_)|(refine a0D .neq ?_;refine a2E rfl rfl rfl ?_)|(refine k_fn 120 ?_;(refine a0T (deP st.p st.d db) (fun _=>de_Says _ st.p st.d db id v hp hv ht.up) rfl (fun _ _=>?_);rw [hy]))|refine wK ?_|refine wL ?_ ?_|fail)
  refine rt_st (st:=st) (wb:=wb) (db:=db) (la:=la) (lc:=lc) (rs:=rs) (R:=[fB fb ad c f h,fR ad c f,.any (stars H)]) hrl ent ?_
  refine a0E h rfl rfl rfl hk ?_
  exact ent
 ·obtain ⟨⟨f1,v1⟩,hr1⟩:∃ r,addW f st.g st.rdy st.nxt id x=r:=⟨_,rfl⟩
  have hput:putS st f id v x=if v1≠0 then (st,f1,v1) else (⟨st.p,st.g,st.len,((st.nxt / plW st.p.z:Nat):Int),st.nxt+1,takeD st.p st.d v x⟩,f1,0):=by
   unfold putS
   rw [if_neg (by rw [hy];simp),hr1]
  rw [hput]
  repeat' (first|intro _|refine a0S rfl rfl ?_|(refine a0K ?_;first|refine a0F (b:=sb) (i:=3) rfl rfl ?_|refine a0F (b:=sb) (i:=7) rfl rfl ?_|refine a0F (b:=sb) (i:=6) rfl rfl ?_)|(refine a0D .neq ?_;refine a2E rfl rfl rfl ?_)|(refine k_fn 120 ?_;(refine a0T (deP st.p st.d db) (fun _=>de_Says _ st.p st.d db id v hp hv ht.up) rfl (fun _ _=>?_);rw [hy]))|(refine k_fn 121 ?_;(refine a0V (whB wb fb st.g st.p.z la rs.length lc st.rdy st.nxt::rsR la lc rs::fB fb ad c f h::fR ad c f::[.any (deP st.p st.d db),soB sb wb db st,.any (stars H)]) (Ent.out ent) (fun _=>wh_Add _ wb fb st.g st.p.z la lc rs st.rdy st.nxt id ad2 c2 x ad c f h p4 p5 hk hd hn hz hx.up (by omega)) rfl (fun ⟨h1,la1,lc1,rs1⟩ hk0=>?_);obtain ⟨hk1,hrs1⟩:=hk0;rw [hr1] at hk1 ⊢;dsimp only at hk1 hrs1 ⊢))|(refine k_fn 122 ?_;refine a0T (deP st.p st.d db) (fun _=>de_Take _ st.p st.d db id v ad2 st.p.z c2 x hp hv hR ht.up hx.up hm hz htk) rfl (fun _ _=>?_))|refine wK ?_|refine wL ?_ ?_|fail)
  ·rename_i hv1
   rw [if_pos hv1]
   have e1:rdyA v1 st.p.z st.nxt st.rdy=st.rdy:=if_neg hv1
   have e2:nxtA v1 st.nxt=st.nxt:=if_neg hv1
   rw [e1,e2]
   refine rt_st (st:=st) (wb:=wb) (db:=db) (la:=la1) (lc:=lc1) (rs:=rs1) (R:=[fB fb ad c f1 h1,fR ad c f1,.any (stars H)]) ?_ ent ?_
   ·rw [nxtA,hr1,if_neg (show ¬ (f1,v1).2=0 from hv1)] at hrs1
    omega
   refine a0E h1 rfl rfl rfl hk1 ?_
   exact ent
  ·have hv1:v1=0:=by omega
   subst hv1
   rw [if_neg (by simp)]
   refine rt_st (st:=⟨st.p,st.g,st.len,((st.nxt / plW st.p.z:Nat):Int),st.nxt+1,takeD st.p st.d v x⟩) (wb:=wb) (db:=db) (la:=la1) (lc:=lc1) (rs:=rs1) (R:=[fB fb ad c f1 h1,fR ad c f1,.any (stars H)]) (by rw [nxtA,hr1,if_pos rfl] at hrs1;show rs1.length≤144+(st.nxt+1);omega) ent ?_
   refine a0E h1 rfl rfl rfl hk1 ?_
   exact ent
theorem b0Z (H:List Hl) (st:Sto) (fb sb:Nat) (hp:st.p.ok) (hb:cntS st.d.M≤1000) :
  Spec Tryz.prog 79 [.pointer (some ⟨sb,0,none⟩)] (.any (stP st fb sb)::H) (fun _:Unit=>True) (fun _=>I ((st.p.n:Int) - cntS st.d.M)) (fun _ => .any (stP st fb sb)::H):=by
 refine Spec.som (by kernel_rfl) (fun ⟨wb,db,la,lc,rs⟩ hrl=>?_)
 show Spec _ _ _ (soB sb wb db st::whB wb fb st.g st.p.z la rs.length lc st.rdy st.nxt::rsR la lc rs :: .any (deP st.p st.d db)::H) _ _ _
 refine sF (res:=fun _:Unit=>[.any (stP st fb sb)]) [soB sb wb db st,whB wb fb st.g st.p.z la rs.length lc st.rdy st.nxt,rsR la lc rs,.any (deP st.p st.d db)] H Tryz.func79 Tryz.ntmps79 fun W=>?_
 dsimp only [cA,nA]
 repeat' (first|intro _|refine a0S rfl rfl ?_|(refine a0K ?_;refine a0F (b:=sb) (i:=7) rfl rfl ?_)|(refine k_fn 123 ?_;refine a0T (deP st.p st.d db) (fun _=>de_Needs _ st.p st.d db hp hb) rfl (fun _ _=>?_))|refine wK ?_|refine wL ?_ ?_|fail)
 refine rt_st (st:=st) (wb:=wb) (db:=db) (la:=la) (lc:=lc) (rs:=rs) (R:=[.any (stars H)]) hrl ent ?_
 refine a0E () rfl rfl rfl trivial ?_
 exact ent
theorem so_Image (H:List Hl) (st:Sto) (fb sb:Nat) (hp:st.p.ok) (hR:RR st.p.n st.p.z st.d.M) (hf:cntS st.d.M=st.p.n) (hl:count st.len st.p.z=st.p.k) :
  Spec Tryz.prog 124 [.pointer (some ⟨sb,0,none⟩)] (.any (stP st fb sb)::H) (fun _:Option Addr × Nat=>True) (fun r => .tuple #[.slice r.1 (imgB st.p st.d st.len).length r.2,.bool true]) (fun r => .row 5 1 (.slice r.1 (imgB st.p st.d st.len).length r.2) (imgB st.p st.d st.len).length ((imgB st.p st.d st.len).map B)::H):=by
 refine Spec.som (by kernel_rfl) (fun ⟨wb,db,la,lc,rs⟩ hrl=>?_)
 show Spec _ _ _ (soB sb wb db st::whB wb fb st.g st.p.z la rs.length lc st.rdy st.nxt::rsR la lc rs :: .any (deP st.p st.d db)::H) _ _ _
 refine sF (res:=fun r:Option Addr × Nat=>[.row 5 1 (.slice r.1 (imgB st.p st.d st.len).length r.2) (imgB st.p st.d st.len).length ((imgB st.p st.d st.len).map B)]) [soB sb wb db st,whB wb fb st.g st.p.z la rs.length lc st.rdy st.nxt,rsR la lc rs,.any (deP st.p st.d db)] H Tryz.func124 Tryz.ntmps124 fun W=>?_
 dsimp only [cA,nA]
 repeat' (first|intro _|refine a0S rfl rfl ?_|refine wK ?_|refine wL ?_ ?_|fail)
 refine a0H [(0,_)] rtD25_0 [9] [⟨[0,1,2,3,4,5,6,7,8],[],some 9⟩,⟨[10,11,12,13],[],none⟩] mixed cv (by kernel_rfl) (by kernel_rfl) ?_
 repeat' (first|intro _|refine sg ?_|(refine a1E ?_;refine po (by first|refine a0F (b:=sb) (i:=7) rfl rfl fz|refine a0F (b:=sb) (i:=2) rfl rfl fz|fail) ?_)|refine pw ?_|refine pdd ?_|(refine k_fn 170 ?_;(refine a0T (deP st.p st.d db) (fun _=>de_Image _ st.p st.d db st.len hp hR hf hl) rfl (fun ⟨a15,c15⟩ _=>?_);(try dsimp only)))|refine ow ?_|fail)
 all_goals dsimp only [cA,nA]
 repeat' (first|intro _|refine wK ?_|refine wL ?_ ?_|fail)
 refine a2U (a15,c15) rfl rfl rfl rfl trivial ?_
 exact ent
end Go.Dp
namespace Go.Dp
def datD (L:List (List (BitVec 8))) (z:Nat) (v:List Bool):List (BitVec 8):=parS (at_ v) L z
theorem a1K (L:List (List (BitVec 8))) (z:Nat) (v:List Bool):(datD L z v).length=z:=by simp [datD,parS]
theorem datD_lin (L:List (List (BitVec 8))) (z n:Nat):Lin n z (datD L z):=⟨fun v _=>a1K L z v,fun a b ha hb=>by
 apply List.ext_getElem
 ·rw [a6W _ _ (by rw [a1K,a1K]),a1K,a1K]
 intro k h1 h2
 rw [a1K] at h1
 have e:(xorL (datD L z a) (datD L z b))[k]=(datD L z a)[k]'(by rw [a1K];exact h1) ^^^ (datD L z b)[k]'(by rw [a1K];exact h1):=by simp [xorL]
 rw [e]
 simp only [datD,parS,List.getElem_map,List.getElem_range]
 rw [←xsum_xor]
 refine b0T (fun i _=>?_)
 have:at_ (xorV a b) i=(at_ a i ^^ at_ b i):=a5S (by omega) i
 rw [this]
 cases at_ a i <;> cases at_ b i <;> simp [pickB]⟩
theorem at8_lo' {s:BitVec 32} {K P z i k:Nat} {L:List (List (BitVec 8))} (hi:i<L.length):at8 (allP s K P z L) i k=at8 L i k:=by
 unfold at8 allP
 congr 1
 rw [List.getD_eq_getElem?_getD,List.getD_eq_getElem?_getD,List.getElem?_append_left hi]
theorem at8_hi' {s:BitVec 32} {K P z j k:Nat} {L:List (List (BitVec 8))} (hj:j<P):at8 (allP s K P z L) (L.length+j) k=(parS (parR s K j) L z).getD k 0#8:=by
 unfold at8 allP
 congr 1
 rw [List.getD_eq_getElem?_getD,List.getElem?_append_right (by omega),show L.length+j - L.length=j by omega]
 simp [hj]
theorem datD_par {s:BitVec 32} {K P Z j:Nat} {L:List (List (BitVec 8))} (hL:L.length=K) (hj:j<P):datD (allP s K P Z L) Z (rowR s (K+P) K j)=List.replicate Z 0#8:=by
 apply List.ext_getElem
 ·simp [a1K]
 intro k h1 h2
 rw [a1K] at h1
 rw [List.getElem_replicate]
 simp only [datD,parS,List.getElem_map,List.getElem_range]
 have hl:(allP s K P Z L).length=K+P:=by simp [allP,hL]
 rw [hl]
 have e1:=row_nothing K P j hj (fun i=>oddR (srcNew s (BitVec.ofNat 32 (2147483648+j))) i) (fun i=>at8 (allP s K P Z L) i k) (by
  have e2:=at8_hi' (s:=s) (K:=K) (z:=Z) (k:=k) (L:=L) hj
  rw [hL] at e2
  rw [e2,parS_at _ _ _ _ h1,hL]
  refine b0T (fun i hi=>?_)
  rw [at8_lo' (by omega)]
  have : ¬ i=K+j:=by omega
  simp [parR,hi,this])
 rw [←e1]
 refine b0T (fun i hi=>?_)
 congr 1
 exact b8L _ _ _ _ _ hi
theorem b7D {L:List (List (BitVec 8))} {z i:Nat} {v:List Bool} (hi:i<L.length) (hz:L[i].length=z) (h:∀ k,at_ v k=decide (k=i)):datD L z v=L[i]:=by
 apply List.ext_getElem
 ·rw [a1K,hz]
 intro k h1 h2
 simp only [datD,parS,List.getElem_map,List.getElem_range]
 rw [xsum_one hi (fun j hj hne=>by rw [h j];simp [pickB,hne]),h i]
 simp [pickB,at8,List.getD_eq_getElem?_getD,hi,h2]
theorem full_app' {image:List (BitVec 8)} {m:Nat} (h:image.length≤m):full image m=image++List.replicate (m - image.length) 0#8:=by
 rw [full,List.take_of_length_le h];rfl
theorem count_ge' {l z n:Nat} (h:count l z=n) (hn:1≤n):l≤n*z:=by
 obtain ⟨p1,p2,p3,p4,p5,p6,p7⟩:=a8R (l:=l) (s:=z) (by omega)
 have d1:(l:Int)+z - 1<((l+z - 1:Int) / z+1)*z:=Int.lt_ediv_add_one_mul_self _ (by omega)
 rw [←p5,h,Int.add_mul,Int.one_mul] at d1
 have hbi:((n*z:Nat):Int)=(n:Int)*z:=by push_cast;rfl
 omega
theorem a4R (p:Prm) (im:List (BitVec 8)):(pieA p im).length=p.n:=c2Q
theorem rowsL_len {s:BitVec 32} {K P:Nat}:∀ v∈rowsL s K P,v.length=K+P:=fun v hv=>by
 obtain ⟨j,_,rfl⟩:=List.mem_map.1 hv
 exact a9E _ _ _ _
theorem a6O (p:Prm) (id:BitVec 32):(unitV p id).length=p.n:=a8T _ _
theorem a6K (p:Prm) (id:BitVec 32) (k:Nat) (h:id.toNat<p.n):at_ (unitV p id) k=decide (k=id.toNat):=by
 by_cases hk:k<p.n
 ·have:=b7L p.n [(id.toNat:Int)] k hk
  show (bitsOf p.n [(id.toNat:Int)]).getD k false=_
  rw [this]
  simp
  omega
 ·have h1:at_ (unitV p id) k=false:=by
   unfold at_
   rw [List.getD_eq_getElem?_getD,List.getElem?_eq_none (by rw [a6O];omega)]
   rfl
  rw [h1]
  have : ¬ k=id.toNat:=by omega
  simp [this]
abbrev datP (p:Prm) (im:List (BitVec 8)):List Bool→List (BitVec 8):=datD (pieA p im) p.z
def rowsU (p:Prm) (ids:List (BitVec 32)):List (List Bool):=rowsL p.s p.k p.p++ids.map (unitV p)
def decU (p:Prm) (im:List (BitVec 8)) (ids:List (BitVec 32)):Dec:=⟨foldA p.n (datP p im) (rowsU p ids),ids.length⟩
theorem b5Y (p:Prm) (ids:List (BitVec 32)):∀ v∈rowsU p ids,v.length=p.n:=fun v hv=>by
 rcases List.mem_append.1 hv with h|h
 ·exact rowsL_len v h
 ·obtain ⟨id,_,rfl⟩:=List.mem_map.1 h
  exact a6O p id
theorem datP_par (p:Prm) (im:List (BitVec 8)):∀ v∈rowsL p.s p.k p.p,datP p im v=List.replicate p.z 0#8:=fun v hv=>by
 obtain ⟨j,hj,rfl⟩:=List.mem_map.1 hv
 exact datD_par (by simp [piecesL]) (List.mem_range.1 hj)
theorem rowsM_fold (p:Prm) (im:List (BitVec 8)):∀ l:List (List Bool),(∀ v∈l,datP p im v=List.replicate p.z 0#8)→rowsM p l=foldA p.n (datP p im) l:=fun l=>a9F (P:=fun l=>(∀ v∈l,datP p im v=List.replicate p.z 0#8)→rowsM p l=foldA p.n (datP p im) l) (fun _=>rfl) (fun l a ih h=>by
 rw [a5R,←ih (fun v hv=>h v (by simp [hv])),h a (by simp)]
 simp [rowsM]) l
theorem b9S (p:Prm) (im:List (BitVec 8)):decU p im []=newD p:=by
 unfold decU newD rowsU
 rw [List.map_nil,List.append_nil,rowsM_fold p im _ (datP_par p im)]
 rfl
theorem b7C (p:Prm) (im:List (BitVec 8)) (ids:List (BitVec 32)):RR p.n p.z (decU p im ids).M:=b1L (fun v _=>a1K _ _ v) _ (b5Y p ids)
theorem b3D {n z:Nat} {M:List (Option LN)} (h:RR n z M) {v:List Bool} {x:List (BitVec 8)} (hv:v.length=n) (hx:x.length=z) (hs : ¬ sp n M v):firstV (red M (v,x)).1 ≠ -1∧0≤firstV (red M (v,x)).1∧cntS (addF M (v,x))=cntS M+1:=by
 have h1:firstV (red M (v,x)).1 ≠ -1:=fun e=>hs ((b4V h hv hx).1 e)
 rcases a8V (v:=(v,x)) h hv hx with e|⟨a,e,_,_,e2⟩
 ·exact absurd e h1
 ·refine ⟨h1,by rw [e];omega,?_⟩
  rw [b3R e,e2]
theorem c1J (n k:Nat):at_ (List.replicate n false) k=false:=by
 unfold at_
 rw [List.getD_eq_getElem?_getD,List.getElem?_replicate]
 split <;> rfl
theorem c0K {a b:List Bool} {n:Nat} (ha:a.length=n) (hb:b.length=n) (k:Nat):at_ (xorV a b) k=(at_ a k ^^ at_ b k):=a5S (by omega) k
theorem a9D {s:BitVec 32} {K P j i:Nat} (hi:i<K+P):at_ (rowR s (K+P) K j) i=parR s K j i:=by
 show (rowR s (K+P) K j).getD i false=_
 rw [b8L _ _ _ _ _ hi]
theorem unit_new {p:Prm} {im:List (BitVec 8)} {ids:List (BitVec 32)} {id:BitVec 32} (hids:∀ x∈ids,x.toNat<p.k) (hid:id.toNat<p.k) (hn:id ∉ ids) : ¬ sp p.n (decU p im ids).M (unitV p id):=fun hs=>by
 have hnk:p.n=p.k+p.p:=rfl
 have:=foldA_sub (D:=datP p im) (n:=p.n) (z:=p.z) (fun v _=>a1K _ _ v) (T:=fun w=>at_ w id.toNat=xsB (fun j=>at_ w (p.k+j) && parR p.s p.k j id.toNat) p.p)
  (by
   rw [c1J,a8X (fun j _=>by rw [c1J];rfl)])
  (fun a b ha hb h1 h2=>by
   rw [c0K ha hb,h1,h2,←b5M]
   refine b5N (fun j _=>?_)
   rw [c0K ha hb]
   cases at_ a (p.k+j) <;> cases at_ b (p.k+j) <;> cases parR p.s p.k j id.toNat <;> rfl)
  (rowsU p ids) (fun v hv=>⟨b5Y p ids v hv,by
   rcases List.mem_append.1 hv with h|h
   ·obtain ⟨j,hj,rfl⟩:=List.mem_map.1 h
    have hj:=List.mem_range.1 hj
    rw [a9D (by omega),b7W hj (fun i hi hne=>?_),a9D (by omega)]
    ·have:parR p.s p.k j (p.k+j)=true:=by simp [parR]
     rw [this];rfl
    ·rw [a9D (by omega)]
     have:parR p.s p.k j (p.k+i)=false:=by
      have : ¬ (p.k+i=p.k+j):=by omega
      simp [parR]
      omega
     rw [this];rfl
   ·obtain ⟨u,hu,rfl⟩:=List.mem_map.1 h
    have hul:=hids u hu
    rw [a6K p u _ (by omega),a8X (fun j hj=>by
     rw [a6K p u _ (by omega)]
     have : ¬ (p.k+j=u.toNat):=by omega
     simp [this])]
    have : ¬ (id.toNat=u.toNat):=fun e=>hn (by rw [BitVec.eq_of_toNat_eq e];exact hu)
    simp [this]⟩) (unitV p id) (a6O p id) hs
 rw [a6K p id _ (by omega),a8X (fun j hj=>by
  rw [a6K p id _ (by omega)]
  have : ¬ (p.k+j=id.toNat):=by omega
  simp [this])] at this
 simp at this
theorem rowsU_snoc (p:Prm) (ids:List (BitVec 32)) (id:BitVec 32):rowsU p (ids++[id])=rowsU p ids++[unitV p id]:=by simp [rowsU]
theorem b3K {p:Prm} {im:List (BitVec 8)} {ids:List (BitVec 32)} {id:BitVec 32} (hids:∀ x∈ids,x.toNat<p.k) (hid:id.toNat<p.k) (hn:id ∉ ids) :
  saysD p (decU p im ids) (unitV p id)=true∧takeD p (decU p im ids) (unitV p id) (datP p im (unitV p id))=decU p im (ids++[id])∧cntS (decU p im (ids++[id])).M=cntS (decU p im ids).M+1:=by
 have hs:=unit_new (im:=im) hids hid hn
 have hR:=b7C p im ids
 have h1:=b3D hR (a6O p id) (x:=List.replicate p.z 0#8) (by simp) hs
 have h2:=b3D hR (a6O p id) (x:=datP p im (unitV p id)) (a1K _ _ _) hs
 have e:(decU p im (ids++[id])).M=addF (decU p im ids).M (unitV p id,datP p im (unitV p id)):=by
  unfold decU
  dsimp only
  rw [rowsU_snoc,a5R]
 refine ⟨?_,?_,?_⟩
 ·unfold saysD
  exact decide_eq_true h1.2.1
 ·unfold takeD
  rw [if_neg h2.1,←e]
  show (⟨(decU p im (ids++[id])).M,ids.length+1⟩:Dec)=decU p im (ids++[id])
  unfold decU
  rw [List.length_append]
  rfl
 ·rw [e];exact h2.2.2
theorem c0V (p:Prm) (im:List (BitVec 8)):∀ j,j≤p.p→cntS (foldA p.n (datP p im) ((List.range j).map (rowR p.s (p.k+p.p) p.k)))=j
 | 0,_=>by
  rw [List.range_zero,List.map_nil,foldA_nil,cntS_none]
 | j+1,hj=>by
  have hnk:p.n=p.k+p.p:=rfl
  have hrl:∀ v∈(List.range j).map (rowR p.s (p.k+p.p) p.k),v.length=p.n:=fun v hv=>by
   obtain ⟨i,_,rfl⟩:=List.mem_map.1 hv
   exact a9E _ _ _ _
  have hR:=b1L (D:=datP p im) (z:=p.z) (fun v _=>a1K _ _ v) _ hrl
  rw [List.range_succ,List.map_append,List.map_cons,List.map_nil,a5R]
  have hs : ¬ sp p.n (foldA p.n (datP p im) ((List.range j).map (rowR p.s (p.k+p.p) p.k))) (rowR p.s (p.k+p.p) p.k j):=fun hs=>by
   have:=foldA_sub (D:=datP p im) (n:=p.n) (z:=p.z) (fun v _=>a1K _ _ v) (T:=fun w=>at_ w (p.k+j)=false) (c1J _ _)
    (fun a b ha hb h1 h2=>by rw [c0K ha hb,h1,h2];rfl)
    ((List.range j).map (rowR p.s (p.k+p.p) p.k)) (fun v hv=>⟨hrl v hv,by
     obtain ⟨i,hi,rfl⟩:=List.mem_map.1 hv
     have hi:=List.mem_range.1 hi
     rw [a9D (by omega)]
     simp [parR]
     omega⟩) _ (a9E _ _ _ _) hs
   rw [a9D (by omega)] at this
   simp [parR] at this
  have:=(b3D hR (a9E p.s (p.k+p.p) p.k j) (x:=datP p im (rowR p.s (p.k+p.p) p.k j)) (a1K _ _ _) hs).2.2
  rw [this,c0V p im j (by omega)]
theorem b9T {p:Prm} {im:List (BitVec 8)}:∀ ids:List (BitVec 32),(∀ x∈ids,x.toNat<p.k)→ids.Nodup→cntS (decU p im ids).M=p.p+ids.length:=fun ids=>a9F (P:=fun ids=>(∀ x∈ids,x.toNat<p.k)→ids.Nodup→cntS (decU p im ids).M=p.p+ids.length) (fun _ _=>by
  have:=c0V p im p.p (Nat.le_refl _)
  show cntS (foldA p.n (datP p im) (rowsU p []))=p.p+0
  rw [rowsU,List.map_nil,List.append_nil]
  exact this)
 (fun l a ih h hd=>by
  rw [List.nodup_append] at hd
  have hn:a ∉ l:=fun hm=>hd.2.2 a hm a (by simp) rfl
  have hl:∀ x∈l,x.toNat<p.k:=fun x hx=>h x (by simp [hx])
  rw [(b3K (im:=im) hl (h a (by simp)) hn).2.2,ih hl hd.1,List.length_append]
  simp
  omega) ids
theorem piecesL_len {im:List (BitVec 8)} {n z:Nat}:(piecesL im n z).length=n:=by simp [piecesL]
theorem b8Q {p:Prm} {im:List (BitVec 8)} {i:Nat} (h:i<p.n):((pieA p im)[i]'(by rw [a4R];exact h)).length=p.z:=b9Z _ (List.getElem_mem _)
theorem datP_unit {p:Prm} {im:List (BitVec 8)} {id:BitVec 32} (h:id.toNat<p.n):datP p im (unitV p id)=(pieA p im)[id.toNat]'(by rw [a4R];exact h) :=
 b7D (by rw [a4R];exact h) (b8Q h) (fun k=>a6K p id k h)
theorem unit_places {f:Nat→Bool} {n i:Nat} (hi:i<n) (h:∀ k,f k=decide (k=i)):placesN f n=[i]:=by
 have h0:∀ m,m≤i→placesN f m=[]:=fun m=>by
  induction m with
  | zero=>intro _;rfl
  | succ m ih =>
   intro hm
   rw [a7J,h m,ih (by omega)]
   have : ¬ m=i:=by omega
   simp [this]
 have h1:∀ m,i<m→placesN f m=[i]:=fun m=>by
  induction m with
  | zero=>intro hm;omega
  | succ m ih =>
   intro hm
   rw [a7J,h m]
   by_cases e:m=i
   ·rw [h0 m (by omega)]
    simp [e]
   ·rw [ih (by omega)]
    simp [e]
 exact h1 n hi
theorem sumB_one (y:List (BitVec 8)):sumB [⟨none,0,y⟩]=y:=by
 rw [b7Z (n:=y.length) (by simp) (fun j hj=>by
  have:j=0:=by simp at hj;omega
  subst this;rfl)]
 show accL y.length [⟨none,0,y⟩] 1=y
 rw [a8W _ _ 0 (by simp),b3T]
 apply List.ext_getElem
 ·simp [xorL]
 intro k h1 h2
 simp [xorL]
theorem symD_unit {p:Prm} {im:List (BitVec 8)} {id:BitVec 32} (h:id.toNat<p.n):symD (pieA p im) (unitV p id)=datP p im (unitV p id):=by
 have e:placesN (at_ (unitV p id)) (unitV p id).length=[id.toNat]:=unit_places (by rw [a6O];exact h) (fun k=>a6K p id k h)
 rw [datP_unit h,symD,e]
 have hx:(pieA p im).getD id.toNat []=(pieA p im)[id.toNat]'(by rw [a4R];exact h):=by
  rw [List.getD_eq_getElem?_getD,List.getElem?_eq_getElem (by rw [a4R];exact h)];rfl
 rw [List.map_cons,List.map_nil,hx]
 exact sumB_one _
theorem decU_full {p:Prm} {im:List (BitVec 8)} {ids:List (BitVec 32)} (hids:∀ x∈ids,x.toNat<p.k) (hd:ids.Nodup) (hl:ids.length=p.k) (hc:count im.length p.z=p.k) (hk:1≤p.k):imgB p (decU p im ids) im.length=im:=by
 have hR:=b7C p im ids
 have hcnt:cntS (decU p im ids).M=p.n:=by rw [b9T ids hids hd,hl,Nat.add_comm]
 have hML:(decU p im ids).M.length=p.n:=hR.lok.len
 have hD:=foldA_D (datD_lin (pieA p im) p.z p.n) (rowsU p ids) (b5Y p ids)
 have hsol:solD (decU p im ids).M=pieA p im:=by
  apply List.ext_getElem
  ·rw [solD,List.length_map,hML,a4R]
  intro i h1 h2
  rw [a4R] at h2
  obtain ⟨y,hy⟩:=a8N (by rw [hcnt,hML]) i (by rw [hML];exact h2)
  have hu:=full_unit hR hcnt hy
  have hyD:y.2=datP p im y.1:=hD y (List.mem_of_getElem? hy)
  have hg:(decU p im ids).M[i]'(by rw [hML];exact h2)=some y:=(List.getElem?_eq_some_iff.1 hy).2
  simp only [solD,List.getElem_map,hg]
  rw [hyD]
  exact b7D (by rw [a4R];exact h2) (b8Q h2) hu
 have hcn:count (im.length:Int) p.z≠0:=by rw [hc];omega
 obtain ⟨c1,c2,c3,c4,c5,c6,c7⟩:=a8R hcn
 have hge:=count_ge' hc hk
 unfold imgB
 rw [hsol]
 have ht:(pieA p im).take p.k=piecesL im p.k p.z:=List.take_left' piecesL_len
 rw [ht,piecesL,b4P im (p.k*p.z) p.z p.k (Nat.le_refl _),List.take_of_length_le (by rw [b1K];exact Nat.le_refl _),joinL,if_pos ⟨c1,c2,by rw [b1K];exact_mod_cast hge⟩,full_app' hge]
 exact List.take_left' (by simp)
structure Few (f:Fl) (n:Nat):Prop where
 er:f.er.length=14
 bs:f.bs.length=3584
 le:∀ x∈f.er,x≤n
theorem Few.mono {f:Fl} {n m:Nat} (h:Few f n) (hm:n≤m):Few f m:=⟨h.er,h.bs,fun x hx=>Nat.le_trans (h.le x hx) hm⟩
theorem Few.get {f:Fl} {n:Nat} (h:Few f n) (s:Nat):f.er.getD s 0≤n:=by
 rw [List.getD_eq_getElem?_getD]
 cases hs:f.er[s]? with
 | none=>exact Nat.zero_le _
 | some x=>exact h.le x (List.mem_of_getElem? hs)
structure Stay (f f':Fl) (n:Nat):Prop where
 few:Few f' n
 wear:f'.wear=f.wear
 torn:f'.torn=f.torn
 on:f.pw = .on→f'.pw = .on
theorem Stay.refl {f:Fl} {n:Nat} (h:Few f n):Stay f f n:=⟨h,rfl,rfl,id⟩
theorem Stay.trans {f g h:Fl} {n m:Nat} (a:Stay f g n) (b:Stay g h m):Stay f h m:=⟨b.few,b.wear.trans a.wear,b.torn.trans a.torn,fun e=>b.on (a.on e)⟩
theorem Stay.mono {f g:Fl} {n m:Nat} (a:Stay f g n) (hm:n≤m):Stay f g m:=⟨a.few.mono hm,a.wear,a.torn,a.on⟩
theorem on_up {f:Fl} (h:f.pw = .on):f.pw.isDown=false:=by rw [h];rfl
theorem a7I {f:Fl} {n a:Nat} {xs:List (BitVec 8)} (hf:Few f n) (ha:a+xs.length≤3584) (hd:f.pw.isDown=false) :
  Stay f (progF f a xs).1 n∧(((progF f a xs).2=0∧(progF f a xs).1.pw.isDown=false∧(progF f a xs).1.bs=progB f.bs a xs)∨((progF f a xs).2=11∧(progF f a xs).1.pw = .down none∧∃ j t,j<xs.length∧(progF f a xs).1.bs=progB f.bs a (xs.take j++[xs.getD j 0#8 ||| t]))):=by
 have hb:=hf.bs
 unfold progF
 cases hp:f.pw with
 | down q=>rw [hp] at hd;cases hd
 | on =>
  refine ⟨⟨⟨hf.er,?_,hf.le⟩,rfl,rfl,fun _=>rfl⟩,.inl ⟨rfl,rfl,rfl⟩⟩
  show (progB f.bs a xs).length=3584
  rw [a8H (by omega),hb]
 | fuse k =>
  dsimp only
  by_cases hk:xs.length≤k
  ·rw [if_pos hk]
   refine ⟨⟨⟨hf.er,?_,hf.le⟩,rfl,rfl,fun e=>(by rw [hp] at e;cases e)⟩,.inl ⟨rfl,rfl,rfl⟩⟩
   show (progB f.bs a xs).length=3584
   rw [a8H (by omega),hb]
  ·rw [if_neg hk]
   have hl:(xs.take k++[xs.getD k 0#8 ||| tornB f.torn]).length=k+1:=by simp;omega
   refine ⟨⟨⟨hf.er,?_,hf.le⟩,rfl,rfl,fun e=>(by rw [hp] at e;cases e)⟩,.inr ⟨rfl,rfl,k,tornB f.torn,by omega,rfl⟩⟩
   show (progB f.bs a (xs.take k++[xs.getD k 0#8 ||| tornB f.torn])).length=3584
   rw [a8H (by omega),hb]
theorem b1N {f:Fl} {n s:Nat} (hf:Few f n) (hs:s<14) (hw:n<f.wear) (hd:f.pw.isDown=false) :
  Stay f (eraseF f s).1 (n+1)∧(((eraseF f s).2=0∧(eraseF f s).1.pw.isDown=false∧(eraseF f s).1.bs=fillB f.bs (s*256) 256)∨((eraseF f s).2=11∧(eraseF f s).1.pw = .down none∧∃ m,m≤256∧(eraseF f s).1.bs=fillB f.bs (s*256) m)):=by
 have hb:=hf.bs
 have hg:=hf.get s
 have hler:∀ x∈f.er.set s (f.er.getD s 0+1),x≤n+1:=fun x hx=>by
  rcases List.mem_or_eq_of_mem_set hx with h|h
  ·exact Nat.le_succ_of_le (hf.le x h)
  ·omega
 have hlen:(f.er.set s (f.er.getD s 0+1)).length=14:=by rw [List.length_set,hf.er]
 have hfl:∀ m,m≤256→(fillB f.bs (s*256) m).length=3584:=fun m hm=>by rw [a4F (by omega),hb]
 unfold eraseF
 cases hp:f.pw with
 | down q=>rw [hp] at hd;cases hd
 | on =>
  dsimp only
  rw [if_neg (by omega)]
  refine ⟨⟨⟨hlen,hfl 256 (by omega),hler⟩,rfl,rfl,fun _=>rfl⟩,.inl ⟨rfl,rfl,rfl⟩⟩
 | fuse k =>
  dsimp only
  rw [if_neg (by omega)]
  cases k with
  | zero =>
   have hm:f.torn.toNat % 257≤256:=by omega
   exact ⟨⟨⟨hlen,hfl _ hm,hler⟩,rfl,rfl,fun e=>(by rw [hp] at e;cases e)⟩,.inr ⟨rfl,rfl,_,hm,rfl⟩⟩
  | succ k=>exact ⟨⟨⟨hlen,hfl 256 (by omega),hler⟩,rfl,rfl,fun e=>(by rw [hp] at e;cases e)⟩,.inl ⟨rfl,rfl,rfl⟩⟩
theorem clr1_out {f:Fl} {n s:Nat} (hf:Few f n) (hs:s<14) (hw:n<f.wear) (hd:f.pw.isDown=false) :
  Stay f (clr1 f s).1 (n+1)∧(∀ a m,a+m≤s*256∨s*256+256≤a→seg (clr1 f s).1.bs a m=seg f.bs a m)∧(((clr1 f s).2=0∧(clr1 f s).1.pw.isDown=false∧Blank (clr1 f s).1.bs (s*256) 256)∨((clr1 f s).2=11∧(clr1 f s).1.pw = .down none)):=by
 have hb:=hf.bs
 unfold clr1
 by_cases h:blankB (seg f.bs (s*256) 256)=true
 ·rw [if_pos h]
  exact ⟨(Stay.refl hf).mono (by omega),fun _ _ _=>rfl,.inl ⟨rfl,hd,(a8S (l:=f.bs) (by omega)).1 h⟩⟩
 ·rw [if_neg h]
  obtain ⟨st,ho⟩:=b1N hf hs hw hd
  rcases ho with ⟨e0,e1,e2⟩|⟨e0,e1,m,hm,e2⟩
  ·refine ⟨st,fun a m hh=>?_,.inl ⟨e0,e1,?_⟩⟩
   ·rw [e2,a3M (by omega) hh]
   ·show seg _ _ _=_
    rw [e2,a9A (by omega) (Nat.le_refl _) (Nat.le_refl _)]
  ·refine ⟨st,fun a m2 hh=>?_,.inr ⟨e0,e1⟩⟩
   rw [e2,a3M (by omega) (by omega)]
theorem Blank.keep {l l':List (BitVec 8)} {a n:Nat} (h:Blank l a n) (e:seg l' a n=seg l a n):Blank l' a n:=e.trans h
theorem Blank.join {l:List (BitVec 8)} {a n m:Nat} (h:Blank l a n) (k:Blank l (a+n) m):Blank l a (n+m):=by
 show seg _ _ _=_
 rw [b3X,h,k,List.replicate_append_replicate]
theorem b2N {f:Fl} {n s:Nat} {x:List (BitVec 8)} (hf:Few f n) (hs:s<2) (hx:x.length≤512) (hw:n+1<f.wear) (hd:f.pw.isDown=false) :
  Stay f (slotW f s x).1 (n+2)∧(∀ a m,a+m≤slotA s∨slotA s+512≤a→seg (slotW f s x).1.bs a m=seg f.bs a m)∧(((slotW f s x).2=0∧(slotW f s x).1.pw.isDown=false∧seg (slotW f s x).1.bs (slotA s) x.length=x)∨((slotW f s x).2=11∧(slotW f s x).1.pw = .down none)):=by
 have hA:slotA s=(2+s*2)*256:=rfl
 obtain ⟨s1,o1,c1⟩:=clr1_out (s:=2+s*2) hf (by omega) (by omega) hd
 have e:slotW f s x=if (clr1 f (2+s*2)).2≠0 then clr1 f (2+s*2) else if (clr1 (clr1 f (2+s*2)).1 (2+s*2+1)).2≠0 then clr1 (clr1 f (2+s*2)).1 (2+s*2+1) else if (progF (clr1 (clr1 f (2+s*2)).1 (2+s*2+1)).1 (slotA s) x).2≠0 then progF (clr1 (clr1 f (2+s*2)).1 (2+s*2+1)).1 (slotA s) x else ((progF (clr1 (clr1 f (2+s*2)).1 (2+s*2+1)).1 (slotA s) x).1,if seg (progF (clr1 (clr1 f (2+s*2)).1 (2+s*2+1)).1 (slotA s) x).1.bs (slotA s) x.length=x then 0 else 13):=by
  unfold slotW
  cases hp:f.pw with
  | down q=>rw [hp] at hd;cases hd
  | on=>rfl
  | fuse k=>rfl
 rw [e]
 obtain ⟨⟨f1,v1⟩,hr1⟩:∃ r,clr1 f (2+s*2)=r:=⟨_,rfl⟩
 rw [hr1] at s1 o1 c1 ⊢
 dsimp only at s1 o1 c1 ⊢
 rcases c1 with ⟨q1,d1,b1⟩|⟨q1,d1⟩
 ·subst q1
  rw [if_neg (by simp)]
  obtain ⟨s2,o2,c2⟩:=clr1_out (s:=2+s*2+1) s1.few (by omega) (by rw [s1.wear];omega) d1
  obtain ⟨⟨f2,v2⟩,hr2⟩:∃ r,clr1 f1 (2+s*2+1)=r:=⟨_,rfl⟩
  rw [hr2] at s2 o2 c2 ⊢
  dsimp only at s2 o2 c2 ⊢
  have o12:∀ a m,a+m≤slotA s∨slotA s+512≤a→seg f2.bs a m=seg f.bs a m:=fun a m hh=>by rw [o2 a m (by omega),o1 a m (by omega)]
  rcases c2 with ⟨q2,d2,b2⟩|⟨q2,d2⟩
  ·subst q2
   rw [if_neg (by simp)]
   have hbl:Blank f2.bs (slotA s) 512:=by
    have k1:Blank f2.bs ((2+s*2)*256) 256:=b1.keep (o2 _ _ (by omega))
    rw [hA,show 512=256+256 from rfl]
    exact k1.join (by rw [show (2+s*2)*256+256=(2+s*2+1)*256 by omega];exact b2)
   have hb2:=s2.few.bs
   obtain ⟨s3,c3⟩:=a7I (a:=slotA s) (xs:=x) s2.few (by omega) d2
   obtain ⟨⟨f3,v3⟩,hr3⟩:∃ r,progF f2 (slotA s) x=r:=⟨_,rfl⟩
   rw [hr3] at s3 c3 ⊢
   dsimp only at s3 c3 ⊢
   rcases c3 with ⟨q3,d3,b3⟩|⟨q3,d3,j,t,hj,b3⟩
   ·subst q3
    rw [if_neg (by simp)]
    have hin:seg f3.bs (slotA s) x.length=x:=by rw [b3,a4Y (by omega) (hbl.sub (Nat.le_refl _) (by omega))]
    refine ⟨(s1.trans s2).trans s3,fun a m hh=>?_,.inl ⟨if_pos hin,d3,hin⟩⟩
    dsimp only
    rw [b3,a2P (by omega) (by omega),o12 a m hh]
   ·subst q3
    rw [if_pos (by decide)]
    refine ⟨(s1.trans s2).trans s3,fun a m hh=>?_,.inr ⟨rfl,d3⟩⟩
    dsimp only
    have hl:(x.take j++[x.getD j 0#8 ||| t]).length=j+1:=by simp;omega
    rw [b3,a2P (by omega) (by omega),o12 a m hh]
  ·subst q2
   rw [if_pos (by decide)]
   exact ⟨s1.trans s2,o12,.inr ⟨rfl,d2⟩⟩
 ·subst q1
  rw [if_pos (by decide)]
  exact ⟨s1.mono (by omega),fun a m hh=>o1 a m (by omega),.inr ⟨rfl,d1⟩⟩
theorem crcMul (c:BitVec 32):0xedb88320#32*(c &&& 1#32)=if c.getLsbD 0=true then 0xedb88320#32 else 0#32:=by
 have e:c &&& 1#32=if c.getLsbD 0=true then 1#32 else 0#32:=by
  apply BitVec.eq_of_getLsbD_eq
  intro i hi
  cases h:c.getLsbD 0 <;> rcases Nat.eq_zero_or_pos i with rfl|hp <;> simp_all [BitVec.getLsbD_and,BitVec.getLsbD_one] <;> omega
 rw [e]
 split <;> simp
theorem crcBit_xor (a b:BitVec 32):crcBit (a ^^^ b)=crcBit a ^^^ crcBit b:=by
 unfold crcBit
 rw [crcMul,crcMul,crcMul,BitVec.ushiftRight_xor_distrib,BitVec.getLsbD_xor]
 have t:∀ (x y k:BitVec 32),x ^^^ y=x ^^^ k ^^^ (y ^^^ k):=fun x y k=>by
  rw [BitVec.xor_comm y k,←BitVec.xor_assoc,BitVec.xor_assoc x k k,BitVec.xor_self,BitVec.xor_zero]
 cases a.getLsbD 0 <;> cases b.getLsbD 0 <;> simp
 ·ac_rfl
 ·ac_rfl
 ·exact t _ _ _
theorem crcBits_xor (n:Nat) (a b:BitVec 32):crcBits n (a ^^^ b)=crcBits n a ^^^ crcBits n b:=by
 induction n with
 | zero=>rfl
 | succ n ih=>simp only [crcBits,ih,crcBit_xor]
theorem crcBit_inj0 {a:BitVec 32} (h:crcBit a=0#32):a=0#32:=by
 unfold crcBit at h
 rw [crcMul] at h
 have h0:a.getLsbD 0=false:=by
  have:=congrArg (fun z=>z.getLsbD 31) h
  cases h0:a.getLsbD 0
  ·rfl
  ·simp [BitVec.getLsbD_ushiftRight,h0] at this
 rw [h0] at h
 simp at h
 apply BitVec.eq_of_getLsbD_eq
 intro i hi
 cases i with
 | zero=>simpa using h0
 | succ i =>
  have:=congrArg (fun z=>z.getLsbD i) h
  simpa [BitVec.getLsbD_ushiftRight,Nat.add_comm] using this
theorem crcBits_inj0 (n:Nat) {a:BitVec 32} (h:crcBits n a=0#32):a=0#32:=by
 induction n with
 | zero=>exact h
 | succ n ih=>exact ih (crcBit_inj0 h)
theorem crcBits_inj {n:Nat} {a b:BitVec 32} (h:crcBits n a=crcBits n b):a=b:=by
 have:crcBits n (a ^^^ b)=0#32:=by rw [crcBits_xor,h,BitVec.xor_self]
 exact BitVec.xor_eq_zero_iff.1 (crcBits_inj0 n this)
theorem crcBit_up {y:BitVec 32} {k:Nat} (h:y.toNat*2 ^ (k+1)<4294967296):crcBit (y <<< (k+1))=y <<< k:=by
 unfold crcBit
 rw [crcMul]
 have h0:(y <<< (k+1)).getLsbD 0=false:=by simp
 rw [h0]
 apply BitVec.eq_of_toNat_eq
 have e:y.toNat*2 ^ (k+1)=y.toNat*2 ^ k*2:=by rw [Nat.pow_succ,Nat.mul_assoc]
 have e2:y.toNat*2 ^ k<4294967296:=by omega
 simp only [Bool.false_eq_true,if_false,BitVec.xor_zero,BitVec.toNat_ushiftRight,BitVec.toNat_shiftLeft,Nat.shiftLeft_eq,Nat.shiftRight_eq_div_pow]
 rw [Nat.mod_eq_of_lt h,Nat.mod_eq_of_lt e2,e]
 omega
theorem crcBits_up {y:BitVec 32} (h:y.toNat<16777216):crcBits 8 (y <<< 8)=y:=by
 have b:∀ k,k≤7→crcBit (y <<< (k+1))=y <<< k:=fun k hk=>crcBit_up (by
  have:2 ^ (k+1)≤2 ^ 8:=Nat.pow_le_pow_right (by decide) (by omega)
  calc y.toNat*2 ^ (k+1)≤y.toNat*2 ^ 8:=Nat.mul_le_mul_left _ this
   _<_:=by omega)
 simp only [crcBits]
 rw [b 7 (by omega),b 6 (by omega),b 5 (by omega),b 4 (by omega),b 3 (by omega),b 2 (by omega),b 1 (by omega),b 0 (by omega)]
 simp
theorem crcAll_inj {c d:BitVec 32}:∀ {l:List (BitVec 8)},crcAll c l=crcAll d l→c=d
 | [],h=>h
 | x::l,h=>by
  have h2:crcByte c x=crcByte d x:=crcAll_inj (l:=l) h
  have h3:=crcBits_inj h2
  have:(c ^^^ x.setWidth 32) ^^^ x.setWidth 32=(d ^^^ x.setWidth 32) ^^^ x.setWidth 32:=by rw [h3]
  simpa [BitVec.xor_assoc] using this
theorem a9T (c d:BitVec 32) (x y:BitVec 8):crcByte c x ^^^ crcByte d y=crcByte (c ^^^ d) (x ^^^ y):=by
 unfold crcByte
 rw [←crcBits_xor]
 congr 1
 rw [show (x ^^^ y).setWidth 32=x.setWidth 32 ^^^ y.setWidth 32 by simp]
 ac_rfl
theorem b5K {e:BitVec 32} {x:BitVec 8} {y:BitVec 32} (hy:y.toNat<16777216) (h:crcByte e x=y):e=x.setWidth 32 ^^^ y <<< 8:=by
 have h2:=crcBits_inj (h.trans (crcBits_up hy).symm)
 rw [←h2,BitVec.xor_comm e,←BitVec.xor_assoc,BitVec.xor_self,BitVec.zero_xor]
theorem sw_lt (x:BitVec 8) (y:BitVec 32) (k:Nat) (hy:y.toNat*256<2 ^ k) (h8:8≤k) (hk:k≤32):(x.setWidth 32 ^^^ y <<< 8).toNat<2 ^ k:=by
 rw [BitVec.toNat_xor]
 refine Nat.xor_lt_two_pow ?_ ?_
 ·have:=x.isLt
  rw [BitVec.toNat_setWidth]
  have:2 ^ 8≤2 ^ k:=Nat.pow_le_pow_right (by decide) h8
  omega
 ·have:2 ^ k≤2 ^ 32:=Nat.pow_le_pow_right (by decide) hk
  rw [BitVec.toNat_shiftLeft,Nat.shiftLeft_eq]
  omega
theorem crc_four {a b c d:BitVec 8} (h:crcByte (crcByte (crcByte (crcByte 0#32 a) b) c) d=0#32):a=0#8∧b=0#8∧c=0#8∧d=0#8:=by
 have h4:=b5K (y:=0#32) (by decide) h
 rw [show (0#32 <<< 8:BitVec 32)=0#32 by decide,BitVec.xor_zero] at h4
 have b4:(d.setWidth 32).toNat<2 ^ 8:=by have:=d.isLt;rw [BitVec.toNat_setWidth];omega
 have h3:=b5K (by omega) h4
 have b3:=sw_lt c (d.setWidth 32) 16 (by omega) (by omega) (by omega)
 have h2:=b5K (by omega) h3
 have b2:=sw_lt b _ 24 (show (c.setWidth 32 ^^^ d.setWidth 32 <<< 8).toNat*256<2 ^ 24 by omega) (by omega) (by omega)
 have h1:=b5K (by omega) h2
 have bit:∀ i,i<32→(0#32).getLsbD i=(a.setWidth 32 ^^^ (b.setWidth 32 ^^^ (c.setWidth 32 ^^^ d.setWidth 32 <<< 8) <<< 8) <<< 8:BitVec 32).getLsbD i:=fun i _=>by rw [←h1]
 have z:∀ (x:BitVec 8) (j:Nat),8≤j→x.getLsbD j=false:=fun x j hj=>BitVec.getLsbD_of_ge x j hj
 have key:∀ (x:BitVec 8),(∀ i,i<8→x.getLsbD i=false)→x=0#8:=fun x hx=>BitVec.eq_of_getLsbD_eq (fun i hi=>by rw [hx i hi];simp)
 refine ⟨key a fun i hi=>?_,key b fun i hi=>?_,key c fun i hi=>?_,key d fun i hi=>?_⟩
 ·have:=bit i (by omega)
  simpa [BitVec.getLsbD_xor,BitVec.getLsbD_shiftLeft,hi,show i<32 by omega] using this.symm
 ·have:=bit (i+8) (by omega)
  simpa [BitVec.getLsbD_xor,BitVec.getLsbD_shiftLeft,hi,show i+8<32 by omega,show i<32 by omega,z a (i+8) (by omega)] using this.symm
 ·have:=bit (i+16) (by omega)
  simpa [BitVec.getLsbD_xor,BitVec.getLsbD_shiftLeft,hi,show i+16<32 by omega,show i+8<32 by omega,show i<32 by omega,show ¬ i+16<8 by omega,show i+16 - 8=i+8 by omega,z a (i+16) (by omega),z b (i+8) (by omega)] using this.symm
 ·have:=bit (i+24) (by omega)
  simpa [BitVec.getLsbD_xor,BitVec.getLsbD_shiftLeft,hi,show i+24<32 by omega,show i+16<32 by omega,show i+8<32 by omega,show i<32 by omega,show ¬ i+24<8 by omega,show i+24 - 8=i+16 by omega,show ¬ i+16<8 by omega,show i+16 - 8=i+8 by omega,z a (i+24) (by omega),z b (i+16) (by omega),z c (i+8) (by omega)] using this.symm
theorem crc_tells {s:BitVec 32} {l l' r:List (BitVec 8)} (h4:l.length=4) (h4':l'.length=4) (h:crcAll s (l++r)=crcAll s (l'++r)):l=l':=by
 have h1:crcAll (crcAll s l) r=crcAll (crcAll s l') r:=by simpa [crcAll] using h
 have h2:=crcAll_inj h1
 match l,l',h4,h4' with
 | [a,b,c,d],[a',b',c',d'],_,_ =>
  have h3:crcByte (crcByte (crcByte (crcByte s a) b) c) d ^^^ crcByte (crcByte (crcByte (crcByte s a') b') c') d'=0#32:=by
   have h2:crcByte (crcByte (crcByte (crcByte s a) b) c) d=crcByte (crcByte (crcByte (crcByte s a') b') c') d':=h2
   rw [h2,BitVec.xor_self]
  rw [a9T,a9T,a9T,a9T,BitVec.xor_self] at h3
  obtain ⟨e1,e2,e3,e4⟩:=crc_four h3
  rw [BitVec.xor_eq_zero_iff] at e1 e2 e3 e4
  rw [e1,e2,e3,e4]
open Go.RowKit Go.Proofs
def cellR (f:Fl) (k:BitVec 32) (to:Nat) (q:List (BitVec 8)):Fl × Int :=
 if k=4294967295#32 then (f,9) else
 if (eraseF f to).2≠0 then eraseF f to else
 if (progF (eraseF f to).1 (to*256) (copyB (k+1#32) q)).2≠0 then progF (eraseF f to).1 (to*256) (copyB (k+1#32) q) else
 progF (progF (eraseF f to).1 (to*256) (copyB (k+1#32) q)).1 (to*256+(copyB (k+1#32) q).length) [0#8]
theorem cellW_none {f:Fl} {q:List (BitVec 8)} (hq:q.length≤245) (hd:f.pw.isDown=false) (hf:foundC f.bs=none):cellW f q=cellR f 0#32 0 q:=by
 unfold cellW
 rw [if_neg (by omega)]
 cases hp:f.pw with
 | down z=>rw [hp] at hd;cases hd
 | on=>simp only [hf];rfl
 | fuse n=>simp only [hf];rfl
theorem cellW_some {f:Fl} {q r:List (BitVec 8)} {k:BitVec 32} {w:Nat} (hq:q.length≤245) (hd:f.pw.isDown=false) (hf:foundC f.bs=some ((k,r),w)):cellW f q=cellR f k (if w=0 then 1 else 0) q:=by
 have e:(if (some w:Option Nat)=some 0 then (1:Nat) else 0)=if w=0 then 1 else 0:=by
  by_cases h:w=0
  ·rw [if_pos h,if_pos (by rw [h])]
  ·rw [if_neg h,if_neg (fun h2=>h (Option.some.inj h2))]
 unfold cellW
 rw [if_neg (by omega)]
 cases hp:f.pw with
 | down z=>rw [hp] at hd;cases hd
 | on=>simp only [hf,Option.map_some,Option.getD_some,e];rfl
 | fuse n=>simp only [hf,Option.map_some,Option.getD_some,e];rfl
theorem b7F (k:BitVec 32) (q:List (BitVec 8)):(copyB k q).length=q.length+10:=by simp [copyB,a3C,be4,be2]
theorem foundC_no {l:List (BitVec 8)} (h:foundC l=none):copyAt l 0=none∧copyAt l 1=none:=by
 unfold foundC at h
 cases h0:copyAt l 0 <;> cases h1:copyAt l 1 <;> rw [h0,h1] at h
 ·exact ⟨rfl,rfl⟩
 ·cases h
 ·cases h
 ·dsimp only at h
  split at h <;> cases h
theorem cl_Write_none (H:List Hl) (b:Nat) (ad:Option Addr) (c:Nat) (f:Fl) (h:Hid) (ad2:Option Addr) (c2:Nat) (q:List (BitVec 8)) (hk:FlOk f h) (hq:Rs (stars H) B ad2 c2 q) (hn:q.length≤245) (hd:f.pw.isDown=false) (h0:copyAt f.bs 0=none) (h1:copyAt f.bs 1=none) :
  Spec Tryz.prog 68 [.pointer (some ⟨b,0,none⟩),.slice ad2 q.length c2] (fB b ad c f h::fR ad c f::H) (fun h':Hid=>FlOk (cellR f 0#32 0 q).1 h') (fun _=>I (cellR f 0#32 0 q).2) (fun h'=>fB b ad c (cellR f 0#32 0 q).1 h'::fR ad c (cellR f 0#32 0 q).1::H):=by
 refine sF (res:=fun h':Hid=>[fB b ad c (cellR f 0#32 0 q).1 h',fR ad c (cellR f 0#32 0 q).1]) [fB b ad c f h,fR ad c f] H Tryz.func68 Tryz.ntmps68 fun W=>?_
 dsimp only [cA,nA]
 have hbs:=hk.bs
 have b1:=hq.le
 have b2:=hq.big
 obtain ⟨k1,hk1⟩:∃ k1,0#32+1#32=k1:=⟨_,rfl⟩
 obtain ⟨h6,hh6⟩:∃ h6,[(k1 >>> 24).setWidth 8,(k1 >>> 16).setWidth 8,(k1 >>> 8).setWidth 8,k1.setWidth 8,BitVec.ofInt 8 ((q.length:Int) / 256),BitVec.ofInt 8 (q.length:Int)]=h6:=⟨_,rfl⟩
 have h6l:h6.length=6:=by rw [←hh6];rfl
 obtain ⟨Z,hZ⟩:∃ Z,h6++q=Z:=⟨_,rfl⟩
 have hZl:Z.length=6+q.length:=by rw [←hZ,List.length_append,h6l]
 obtain ⟨Q,hQ⟩:∃ Q,crcPut Z=Q:=⟨_,rfl⟩
 have hQl:Q.length=Z.length+4:=by rw [←hQ,a3C]
 have hQc:copyB (0#32+1#32) q=Q:=by
  rw [←hQ,←hZ,←hh6,hk1]
  rfl
 have hQa:((0*256:Nat):Int)+(Q.length:Int)=((0*256+Q.length:Nat):Int):=by omega
 obtain ⟨⟨f1,e1⟩,hr1⟩:∃ r,eraseF f 0=r:=⟨_,rfl⟩
 obtain ⟨⟨f2,e2⟩,hr2⟩:∃ r,progF f1 (0*256) Q=r:=⟨_,rfl⟩
 obtain ⟨⟨f3,e3⟩,hr3⟩:∃ r,progF f2 (0*256+Q.length) [0#8]=r:=⟨_,rfl⟩
 repeat' (first|intro _|refine a0S rfl rfl ?_|(refine k_fn 91 ?_;(refine a0A (fun hh=>b5L _ b ad c f (RdFl.own hk hh)) rfl (fun _ _=>?_);rw [hd,if_neg (by decide)]))|(refine k_fn 92 ?_;refine a0A (fun hh=>cl_found_none _ b ad c f (RdFl.own hk hh) hd h0 h1) rfl (fun _ _=>?_))|(refine a0D .add ?_;first|(refine a2F rfl rfl (by omega) ?_;(try rw [hQa]))|(refine a8F (v:=1#32) rfl rfl ?_;rw [hk1]))|(refine k_fn 110 ?_;(refine a1J b ad c (fun _=>a8A _ b ad c f h 0 hk (by decide)) rfl (fun h1 hk2=>?_);(rw [hr1] at hk2 ⊢;dsimp only at hk2 ⊢)))|(refine a0D .shr ?_;refine a9L rfl rfl ?_)|(refine a0P ?_;first|refine a0O (T:=22) B h6 rfl rfl (by rw [←hh6];rfl) (fun _=>rfl) rfl rfl rfl (fun b63=>?_)|refine a0O (T:=22) B [0#8] rfl rfl rfl (fun _=>rfl) rfl rfl rfl (fun b81=>?_))|(refine a1S ?_;(refine a2C (xs:=h6) (ys:=q) (b:=b63) rfl rfl h6l.symm h6l.symm (a3Q hq) rfl rfl (fun _=>rfl) (by omega) (by omega) (fun a65 c65=>?_);rw [hZ]))|(refine k_fn 83 ?_;(refine a0A (fun hh=>b2D _ a65 (6+q.length) c65 Z (a0I hh) hZl.symm (by omega)) rfl (fun ⟨a66,c66⟩ _=>?_);(try dsimp only);rw [hQ,←hQl]))|(refine k_fn 114 ?_;refine a0A (fun _=>cl_at _ 0 (by decide)) rfl (fun _ _=>?_))|(refine k_fn 44 ?_;first|(refine a1J b ad c (fun hh=>a3Z _ b ad c f2 h2 (0*256+Q.length) (some ⟨b81,0,none⟩) 1 1 [0#8] hk3 (a2H rfl (by decide) (a0B (a0B hh))) rfl (by omega)) rfl (fun h3 hk4=>?_);(rw [hr3] at hk4 ⊢;dsimp only at hk4 ⊢))|(refine a1J b ad c (fun hh=>a3Z _ b ad c f1 h1 (0*256) a66 Q.length c66 Q hk2 (a0I (a0B (a0B hh))) rfl (by omega)) rfl (fun h2 hk3=>?_);(rw [hr2] at hk3 ⊢;dsimp only at hk3 ⊢)))|refine wK ?_|refine wL ?_ ?_|fail)
 ·rename_i hc
  have hkm:0#32=4294967295#32:=BitVec.eq_of_toNat_eq (by rw [show (4294967295#32).toNat=4294967295 from rfl];omega)
  have hR:cellR f 0#32 0 q=(f,9):=if_pos hkm
  rw [hR]
  refine a0E h rfl rfl rfl hk ?_
  exact ent
 ·rename_i hc he
  have hkm : ¬ 0#32=4294967295#32:=fun h=>hc (by rw [h];rfl)
  have hR:cellR f 0#32 0 q=(f1,e1):=by
   rw [cellR,if_neg hkm,hr1,if_pos he]
  rw [hR]
  refine a0E h1 rfl rfl rfl hk2 ?_
  exact ent
 ·rename_i hc he _ _ _ _ he2
  have hkm : ¬ 0#32=4294967295#32:=fun h=>hc (by rw [h];rfl)
  have hR:cellR f 0#32 0 q=(f2,e2):=by
   rw [cellR,if_neg hkm,hQc,hr1,if_neg (fun h=>h he)]
   dsimp only
   rw [hr2,if_pos he2]
  rw [hR]
  refine a0E h2 rfl rfl rfl hk3 ?_
  exact ent
 ·rename_i hc he _ _ _ _ he2 _ _
  have hkm : ¬ 0#32=4294967295#32:=fun h=>hc (by rw [h];rfl)
  have hR:cellR f 0#32 0 q=(f3,e3):=by
   rw [cellR,if_neg hkm,hQc,hr1,if_neg (fun h=>h he)]
   dsimp only
   rw [hr2,if_neg (fun h=>h he2)]
   dsimp only
   rw [hr3]
  rw [hR]
  refine a0E h3 rfl rfl rfl hk4 ?_
  exact ent
theorem cl_Write_0 (H:List Hl) (b:Nat) (ad:Option Addr) (c:Nat) (f:Fl) (h:Hid) (ad2:Option Addr) (c2:Nat) (q:List (BitVec 8)) (k:BitVec 32) (r:List (BitVec 8)) (hk:FlOk f h) (hq:Rs (stars H) B ad2 c2 q) (hn:q.length≤245) (hd:f.pw.isDown=false) (hf:foundC f.bs=some ((k,r),0)) :
  Spec Tryz.prog 68 [.pointer (some ⟨b,0,none⟩),.slice ad2 q.length c2] (fB b ad c f h::fR ad c f::H) (fun h':Hid=>FlOk (cellR f k 1 q).1 h') (fun _=>I (cellR f k 1 q).2) (fun h'=>fB b ad c (cellR f k 1 q).1 h'::fR ad c (cellR f k 1 q).1::H):=by
 refine sF (res:=fun h':Hid=>[fB b ad c (cellR f k 1 q).1 h',fR ad c (cellR f k 1 q).1]) [fB b ad c f h,fR ad c f] H Tryz.func68 Tryz.ntmps68 fun W=>?_
 dsimp only [cA,nA]
 have hbs:=hk.bs
 have b1:=hq.le
 have b2:=hq.big
 obtain ⟨k1,hk1⟩:∃ k1,k+1#32=k1:=⟨_,rfl⟩
 obtain ⟨h6,hh6⟩:∃ h6,[(k1 >>> 24).setWidth 8,(k1 >>> 16).setWidth 8,(k1 >>> 8).setWidth 8,k1.setWidth 8,BitVec.ofInt 8 ((q.length:Int) / 256),BitVec.ofInt 8 (q.length:Int)]=h6:=⟨_,rfl⟩
 have h6l:h6.length=6:=by rw [←hh6];rfl
 obtain ⟨Z,hZ⟩:∃ Z,h6++q=Z:=⟨_,rfl⟩
 have hZl:Z.length=6+q.length:=by rw [←hZ,List.length_append,h6l]
 obtain ⟨Q,hQ⟩:∃ Q,crcPut Z=Q:=⟨_,rfl⟩
 have hQl:Q.length=Z.length+4:=by rw [←hQ,a3C]
 have hQc:copyB (k+1#32) q=Q:=by
  rw [←hQ,←hZ,←hh6,hk1]
  rfl
 have hQa:((1*256:Nat):Int)+(Q.length:Int)=((1*256+Q.length:Nat):Int):=by omega
 obtain ⟨⟨f1,e1⟩,hr1⟩:∃ r,eraseF f 1=r:=⟨_,rfl⟩
 obtain ⟨⟨f2,e2⟩,hr2⟩:∃ r,progF f1 (1*256) Q=r:=⟨_,rfl⟩
 obtain ⟨⟨f3,e3⟩,hr3⟩:∃ r,progF f2 (1*256+Q.length) [0#8]=r:=⟨_,rfl⟩
 repeat' (first|intro _|refine a0S rfl rfl ?_|(refine k_fn 91 ?_;(refine a0A (fun hh=>b5L _ b ad c f (RdFl.own hk hh)) rfl (fun _ _=>?_);rw [hd,if_neg (by decide)]))|(refine k_fn 92 ?_;(refine a0A (fun hh=>b9V _ b ad c f k r _ 0 (RdFl.own hk hh) hd hf rfl) rfl (fun ⟨a27,c27⟩ _=>?_);(try dsimp only)))|(refine a0D .add ?_;first|(refine a2F rfl rfl (by omega) ?_;(try rw [hQa]))|(refine a8F (v:=1#32) rfl rfl ?_;rw [hk1]))|(refine k_fn 110 ?_;(refine a1J b ad c (fun _=>a8A _ b ad c f h 1 hk (by decide)) rfl (fun h1 hk2=>?_);(rw [hr1] at hk2 ⊢;dsimp only at hk2 ⊢)))|(refine a0D .shr ?_;refine a9L rfl rfl ?_)|(refine a0P ?_;first|refine a0O (T:=22) B h6 rfl rfl (by rw [←hh6];rfl) (fun _=>rfl) rfl rfl rfl (fun b63=>?_)|refine a0O (T:=22) B [0#8] rfl rfl rfl (fun _=>rfl) rfl rfl rfl (fun b81=>?_))|(refine a1S ?_;(refine a2C (xs:=h6) (ys:=q) (b:=b63) rfl rfl h6l.symm h6l.symm (a3Q hq) rfl rfl (fun _=>rfl) (by omega) (by omega) (fun a65 c65=>?_);rw [hZ]))|(refine k_fn 83 ?_;(refine a0A (fun hh=>b2D _ a65 (6+q.length) c65 Z (a0I hh) hZl.symm (by omega)) rfl (fun ⟨a66,c66⟩ _=>?_);(try dsimp only);rw [hQ,←hQl]))|(refine k_fn 114 ?_;refine a0A (fun _=>cl_at _ 1 (by decide)) rfl (fun _ _=>?_))|(refine k_fn 44 ?_;first|(refine a1J b ad c (fun hh=>a3Z _ b ad c f2 h2 (1*256+Q.length) (some ⟨b81,0,none⟩) 1 1 [0#8] hk3 (a2H rfl (by decide) (a0B (a0B hh))) rfl (by omega)) rfl (fun h3 hk4=>?_);(rw [hr3] at hk4 ⊢;dsimp only at hk4 ⊢))|(refine a1J b ad c (fun hh=>a3Z _ b ad c f1 h1 (1*256) a66 Q.length c66 Q hk2 (a0I (a0B (a0B hh))) rfl (by omega)) rfl (fun h2 hk3=>?_);(rw [hr2] at hk3 ⊢;dsimp only at hk3 ⊢)))|refine wK ?_|refine wL ?_ ?_|fail)
 ·rename_i hc
  have hkm:k=4294967295#32:=BitVec.eq_of_toNat_eq (by rw [show (4294967295#32).toNat=4294967295 from rfl];omega)
  have hR:cellR f k 1 q=(f,9):=if_pos hkm
  rw [hR]
  refine a0E h rfl rfl rfl hk ?_
  exact ent
 ·rename_i hc he
  have hkm : ¬ k=4294967295#32:=fun h=>hc (by rw [h];rfl)
  have hR:cellR f k 1 q=(f1,e1):=by
   rw [cellR,if_neg hkm,hr1,if_pos he]
  rw [hR]
  refine a0E h1 rfl rfl rfl hk2 ?_
  exact ent
 ·rename_i hc he _ _ _ _ he2
  have hkm : ¬ k=4294967295#32:=fun h=>hc (by rw [h];rfl)
  have hR:cellR f k 1 q=(f2,e2):=by
   rw [cellR,if_neg hkm,hQc,hr1,if_neg (fun h=>h he)]
   dsimp only
   rw [hr2,if_pos he2]
  rw [hR]
  refine a0E h2 rfl rfl rfl hk3 ?_
  exact ent
 ·rename_i hc he _ _ _ _ he2 _ _
  have hkm : ¬ k=4294967295#32:=fun h=>hc (by rw [h];rfl)
  have hR:cellR f k 1 q=(f3,e3):=by
   rw [cellR,if_neg hkm,hQc,hr1,if_neg (fun h=>h he)]
   dsimp only
   rw [hr2,if_neg (fun h=>h he2)]
   dsimp only
   rw [hr3]
  rw [hR]
  refine a0E h3 rfl rfl rfl hk4 ?_
  exact ent
theorem cl_Write_1 (H:List Hl) (b:Nat) (ad:Option Addr) (c:Nat) (f:Fl) (h:Hid) (ad2:Option Addr) (c2:Nat) (q:List (BitVec 8)) (k:BitVec 32) (r:List (BitVec 8)) (hk:FlOk f h) (hq:Rs (stars H) B ad2 c2 q) (hn:q.length≤245) (hd:f.pw.isDown=false) (hf:foundC f.bs=some ((k,r),1)) :
  Spec Tryz.prog 68 [.pointer (some ⟨b,0,none⟩),.slice ad2 q.length c2] (fB b ad c f h::fR ad c f::H) (fun h':Hid=>FlOk (cellR f k 0 q).1 h') (fun _=>I (cellR f k 0 q).2) (fun h'=>fB b ad c (cellR f k 0 q).1 h'::fR ad c (cellR f k 0 q).1::H):=by
 refine sF (res:=fun h':Hid=>[fB b ad c (cellR f k 0 q).1 h',fR ad c (cellR f k 0 q).1]) [fB b ad c f h,fR ad c f] H Tryz.func68 Tryz.ntmps68 fun W=>?_
 dsimp only [cA,nA]
 have hbs:=hk.bs
 have b1:=hq.le
 have b2:=hq.big
 obtain ⟨k1,hk1⟩:∃ k1,k+1#32=k1:=⟨_,rfl⟩
 obtain ⟨h6,hh6⟩:∃ h6,[(k1 >>> 24).setWidth 8,(k1 >>> 16).setWidth 8,(k1 >>> 8).setWidth 8,k1.setWidth 8,BitVec.ofInt 8 ((q.length:Int) / 256),BitVec.ofInt 8 (q.length:Int)]=h6:=⟨_,rfl⟩
 have h6l:h6.length=6:=by rw [←hh6];rfl
 obtain ⟨Z,hZ⟩:∃ Z,h6++q=Z:=⟨_,rfl⟩
 have hZl:Z.length=6+q.length:=by rw [←hZ,List.length_append,h6l]
 obtain ⟨Q,hQ⟩:∃ Q,crcPut Z=Q:=⟨_,rfl⟩
 have hQl:Q.length=Z.length+4:=by rw [←hQ,a3C]
 have hQc:copyB (k+1#32) q=Q:=by
  rw [←hQ,←hZ,←hh6,hk1]
  rfl
 have hQa:((0*256:Nat):Int)+(Q.length:Int)=((0*256+Q.length:Nat):Int):=by omega
 obtain ⟨⟨f1,e1⟩,hr1⟩:∃ r,eraseF f 0=r:=⟨_,rfl⟩
 obtain ⟨⟨f2,e2⟩,hr2⟩:∃ r,progF f1 (0*256) Q=r:=⟨_,rfl⟩
 obtain ⟨⟨f3,e3⟩,hr3⟩:∃ r,progF f2 (0*256+Q.length) [0#8]=r:=⟨_,rfl⟩
 repeat' (first|intro _|refine a0S rfl rfl ?_|(refine k_fn 91 ?_;(refine a0A (fun hh=>b5L _ b ad c f (RdFl.own hk hh)) rfl (fun _ _=>?_);rw [hd,if_neg (by decide)]))|(refine k_fn 92 ?_;(refine a0A (fun hh=>b9V _ b ad c f k r _ 1 (RdFl.own hk hh) hd hf rfl) rfl (fun ⟨a27,c27⟩ _=>?_);(try dsimp only)))|(refine a0D .add ?_;first|(refine a2F rfl rfl (by omega) ?_;(try rw [hQa]))|(refine a8F (v:=1#32) rfl rfl ?_;rw [hk1]))|(refine k_fn 110 ?_;(refine a1J b ad c (fun _=>a8A _ b ad c f h 0 hk (by decide)) rfl (fun h1 hk2=>?_);(rw [hr1] at hk2 ⊢;dsimp only at hk2 ⊢)))|(refine a0D .shr ?_;refine a9L rfl rfl ?_)|(refine a0P ?_;first|refine a0O (T:=22) B h6 rfl rfl (by rw [←hh6];rfl) (fun _=>rfl) rfl rfl rfl (fun b63=>?_)|refine a0O (T:=22) B [0#8] rfl rfl rfl (fun _=>rfl) rfl rfl rfl (fun b81=>?_))|(refine a1S ?_;(refine a2C (xs:=h6) (ys:=q) (b:=b63) rfl rfl h6l.symm h6l.symm (a3Q hq) rfl rfl (fun _=>rfl) (by omega) (by omega) (fun a65 c65=>?_);rw [hZ]))|(refine k_fn 83 ?_;(refine a0A (fun hh=>b2D _ a65 (6+q.length) c65 Z (a0I hh) hZl.symm (by omega)) rfl (fun ⟨a66,c66⟩ _=>?_);(try dsimp only);rw [hQ,←hQl]))|(refine k_fn 114 ?_;refine a0A (fun _=>cl_at _ 0 (by decide)) rfl (fun _ _=>?_))|(refine k_fn 44 ?_;first|(refine a1J b ad c (fun hh=>a3Z _ b ad c f2 h2 (0*256+Q.length) (some ⟨b81,0,none⟩) 1 1 [0#8] hk3 (a2H rfl (by decide) (a0B (a0B hh))) rfl (by omega)) rfl (fun h3 hk4=>?_);(rw [hr3] at hk4 ⊢;dsimp only at hk4 ⊢))|(refine a1J b ad c (fun hh=>a3Z _ b ad c f1 h1 (0*256) a66 Q.length c66 Q hk2 (a0I (a0B (a0B hh))) rfl (by omega)) rfl (fun h2 hk3=>?_);(rw [hr2] at hk3 ⊢;dsimp only at hk3 ⊢)))|refine wK ?_|refine wL ?_ ?_|fail)
 ·rename_i hc
  have hkm:k=4294967295#32:=BitVec.eq_of_toNat_eq (by rw [show (4294967295#32).toNat=4294967295 from rfl];omega)
  have hR:cellR f k 0 q=(f,9):=if_pos hkm
  rw [hR]
  refine a0E h rfl rfl rfl hk ?_
  exact ent
 ·rename_i hc he
  have hkm : ¬ k=4294967295#32:=fun h=>hc (by rw [h];rfl)
  have hR:cellR f k 0 q=(f1,e1):=by
   rw [cellR,if_neg hkm,hr1,if_pos he]
  rw [hR]
  refine a0E h1 rfl rfl rfl hk2 ?_
  exact ent
 ·rename_i hc he _ _ _ _ he2
  have hkm : ¬ k=4294967295#32:=fun h=>hc (by rw [h];rfl)
  have hR:cellR f k 0 q=(f2,e2):=by
   rw [cellR,if_neg hkm,hQc,hr1,if_neg (fun h=>h he)]
   dsimp only
   rw [hr2,if_pos he2]
  rw [hR]
  refine a0E h2 rfl rfl rfl hk3 ?_
  exact ent
 ·rename_i hc he _ _ _ _ he2 _ _
  have hkm : ¬ k=4294967295#32:=fun h=>hc (by rw [h];rfl)
  have hR:cellR f k 0 q=(f3,e3):=by
   rw [cellR,if_neg hkm,hQc,hr1,if_neg (fun h=>h he)]
   dsimp only
   rw [hr2,if_neg (fun h=>h he2)]
   dsimp only
   rw [hr3]
  rw [hR]
  refine a0E h3 rfl rfl rfl hk4 ?_
  exact ent
end Go.Dp
