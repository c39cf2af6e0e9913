/-
  code.New; carousel.New, First, Symbol, walked.
  cell: a copy that is whole, walked.
  wheel: word, number, wide, places, at, walked.
  cell: the copy that counts, walked.
  cell: found, Read, walked.
  wheel: a record that is whole, walked.
  Conditions: those that stand in each theorem.
-/
import Derived.Test.YtcblcmdikhllbaaGreatDoorQTopSwitch3
import Derived.Test.YtcblcmdikhllbaaGreatDoorQTopSwitch10
import Derived.Test.YtcblcmdikhllbaaGreatDoorQTopSwitch11
import Derived.Test.YtcblcmdikhllbaaGreatDoorQTopSwitch9
import Derived.Test.YtcblcmdikhllbaaGreatDoorQTopSwitch5
import Derived.Test.YtcblcmdikhllbaaGreatDoorQTopSwitch4
set_option linter.unusedVariables false
set_option linter.unusedSimpArgs false
namespace Go.Dp
open Go.RowKit Go.Proofs Sha
def rtD36_0:List Row:=[⟨some 5,[],[],none⟩,⟨some 6,[0],[0],none⟩,⟨some 7,[1],[0,1],none⟩,⟨some 8,[2,1],[0,1,2],none⟩,⟨some 9,[3],[0,1,2,3],some (3,false)⟩,⟨some 10,[4,3],[0,1,2,3,4],some (3,false)⟩,⟨some 11,[3],[0,1,2,3],some (3,false)⟩,⟨some 12,[6,3],[0,1,2,3,6],some (3,false)⟩,⟨some 13,[5,7,3,3],[0,1,2,3,4,5,6,7],some (3,false)⟩,⟨some 14,[3],[0,1,2,3],some (3,false)⟩,⟨some 15,[9,3],[0,1,2,3,9],some (3,false)⟩,⟨some 16,[8,10,3],[0,1,2,3,4,5,6,7,8,9,10],some (3,false)⟩,⟨some 17,[3,11],[0,1,2,3,4,5,6,7,8,9,10,11],none⟩]
def rtD36_1:List Row:=[⟨some 18,[],[],none⟩,⟨some 19,[],[],none⟩,⟨some 20,[1],[1],none⟩,⟨some 21,[0,2],[0,1,2],none⟩,⟨some 22,[3],[0,1,2,3],none⟩,⟨some 4,[4,2,0,1,2,3,4],[0,1,2,3,4],none⟩]
def rtD36_2:List Row:=[⟨some 39,[],[],none⟩,⟨some 40,[0],[0],none⟩,⟨some 41,[],[],none⟩,⟨some 42,[],[],none⟩,⟨some 43,[],[],none⟩,⟨some 44,[],[],none⟩,⟨some 45,[4,5,1],[0,1,4,5],none⟩,⟨some 46,[1,2,3,6],[0,1,2,3,4,5,6],none⟩,⟨some 47,[7],[0,1,2,3,4,5,6,7],none⟩,⟨some 12,[8,6,0,1,2,3,4,5,6,7,8],[0,1,2,3,4,5,6,7,8],none⟩,⟨some 13,[9,0,1,2,3,4,5,6,7,8,9],[0,1,2,3,4,5,6,7,8,9],none⟩]
def rtD36_3:List Row:=[⟨some 10,[],[],none⟩,⟨some 11,[0],[0],none⟩,⟨some 12,[1],[0,1],none⟩,⟨some 13,[2],[0,1,2],none⟩,⟨some 14,[],[],none⟩,⟨some 15,[4],[4],none⟩,⟨some 16,[5],[4,5],none⟩,⟨some 17,[6],[4,5,6],none⟩,⟨some 18,[3,7],[0,1,2,3,4,5,6,7],none⟩,⟨some 9,[8],[0,1,2,3,4,5,6,7,8],none⟩,⟨some 19,[9],[0,1,2,3,4,5,6,7,8,9],none⟩,⟨some 20,[9],[0,1,2,3,4,5,6,7,8,9],none⟩,⟨some 3,[10,8,0,1,2,3,4,5,6,7,8,9,10],[0,1,2,3,4,5,6,7,8,9,10],none⟩,⟨some 4,[11,12,0,1,2,3,4,5,6,7,8,9,10,11,12],[0,1,2,3,4,5,6,7,8,9,10,11,12],none⟩]
def rtD36_4:List Row:=[⟨some 12,[],[],none⟩,⟨some 13,[0],[0],none⟩,⟨some 14,[1],[0,1],none⟩,⟨some 15,[2],[0,1,2],none⟩,⟨some 16,[3],[0,1,2,3],none⟩,⟨some 17,[],[],none⟩,⟨some 18,[],[],none⟩,⟨some 19,[6],[6],none⟩,⟨some 20,[7],[6,7],none⟩,⟨some 21,[8],[6,7,8],none⟩,⟨some 22,[],[],none⟩,⟨some 23,[9,10],[6,7,8,9,10],none⟩,⟨some 24,[4,5,11],[0,1,2,3,4,5,6,7,8,9,10,11],none⟩,⟨some 25,[12,11],[0,1,2,3,4,5,6,7,8,9,10,11,12],none⟩,⟨some 11,[13],[0,1,2,3,4,5,6,7,8,9,10,11,12,13],none⟩,⟨some 26,[14],[0,1,2,3,4,5,6,7,8,9,10,11,12,13,14],none⟩,⟨some 27,[14],[0,1,2,3,4,5,6,7,8,9,10,11,12,13,14],none⟩,⟨some 5,[15,13,0,1,2,3,4,5,6,7,8,9,10,11,12,13,14,15],[0,1,2,3,4,5,6,7,8,9,10,11,12,13,14,15],none⟩,⟨some 6,[16,17,0,1,2,3,4,5,6,7,8,9,10,11,12,13,14,15,16,17],[0,1,2,3,4,5,6,7,8,9,10,11,12,13,14,15,16,17],none⟩]
def rtD36_5:List Row:=[⟨some 12,[],[],none⟩,⟨some 13,[0],[0],none⟩,⟨some 14,[1],[0,1],none⟩,⟨some 15,[2],[0,1,2],none⟩,⟨some 16,[3],[0,1,2,3],none⟩,⟨some 17,[],[],none⟩,⟨some 18,[],[],none⟩,⟨some 19,[6],[6],none⟩,⟨some 20,[7],[6,7],none⟩,⟨some 21,[8],[6,7,8],none⟩,⟨some 22,[],[],none⟩,⟨some 23,[9,10],[6,7,8,9,10],none⟩,⟨some 24,[4,5,11],[0,1,2,3,4,5,6,7,8,9,10,11],none⟩,⟨some 25,[12,11],[0,1,2,3,4,5,6,7,8,9,10,11,12],none⟩,⟨some 11,[13],[0,1,2,3,4,5,6,7,8,9,10,11,12,13],none⟩,⟨some 26,[14],[0,1,2,3,4,5,6,7,8,9,10,11,12,13,14],none⟩,⟨some 27,[14],[0,1,2,3,4,5,6,7,8,9,10,11,12,13,14],none⟩,⟨some 5,[15,13,0,1,2,3,4,5,6,7,8,9,10,11,12,13,14,15],[0,1,2,3,4,5,6,7,8,9,10,11,12,13,14,15],none⟩,⟨some 6,[16,17,0,1,2,3,4,5,6,7,8,9,10,11,12,13,14,15,16,17],[0,1,2,3,4,5,6,7,8,9,10,11,12,13,14,15,16,17],none⟩]
theorem cd_New (H:List Hl) (p:Prm) (ad:Option Addr) (c:Nat) (im:List (BitVec 8)) (hp:p.ok) (hl:count im.length p.z=p.k) (hi:Rs (stars H) B ad c im) (hn:im.length≤512) :
  Spec Tryz.prog 59 [parV p.s p.k p.p p.z,.slice ad im.length c] H (fun _:Nat × PA=>True) (fun r => .pointer (some ⟨r.1,0,none⟩)) (fun r=>cdB r.1 p r.2.1 im.length r.2.2 0#32 0 (.slice none 0 0)::rowB r.2 im::H):=by
 refine spec_pure (res:=fun r:Nat × PA=>[cdB r.1 p r.2.1 im.length r.2.2 0#32 0 (.slice none 0 0),rowB r.2 im]) H Tryz.func59 rfl Tryz.ntmps59 (by kernel_rfl) rfl (fun W=>?_)
 repeat' (first|intro _|refine cw ?_|refine cw2 ?_ ?_|(refine k_box ?_;refine o1_box rfl rfl (fun b2=>?_))|refine ow ?_|refine ow2 ?_ ?_|fail)
 refine st_stages' [(2,_),(1,_)] rtD36_0 [1,8] [⟨[0],[],some 1⟩,⟨[2,3,4,5,6,7,9,10],[],some 8⟩,⟨[11,12],[9,10],none⟩] mixed cv (by kernel_rfl) (by kernel_rfl) ?_
 repeat' (first|intro _|refine sg ?_|(refine p_load ?_;refine po (by first|refine ox_load (b:=b2) (i:=3) rfl rfl fz|refine ox_load (b:=b2) (i:=1) rfl rfl fz|fail) ?_)|(refine p_binOp .neq ?_;refine po (by first|refine o1_neq_f rfl rfl rfl fz|fail) ?_)|refine pw ?_|refine pdd ?_|(refine k_fn 106 ?_;refine o1_call (fun _=>(spread_May _ _ _ _ _).bv (b:=true) hp) rfl (fun _ _=>?_))|(refine k_fn 105 ?_;(refine o1_call (fun _=>block_Count _ _ _) rfl (fun _ _=>?_);rw [hl]))|refine ow ?_|fail)
 all_goals dsimp only [List.cons_append,List.nil_append]
 repeat' (first|intro _|refine cw ?_|refine cw2 ?_ ?_|refine ow ?_|refine ow2 ?_ ?_|fail)
 refine st_stages' [(2,_),(1,_)] rtD36_1 [2,4] [⟨[0,1],[],some 2⟩,⟨[3],[0],some 4⟩,⟨[5],[],none⟩] mixed cv (by kernel_rfl) (by kernel_rfl) ?_
 repeat' (first|intro _|refine sg ?_|refine pw ?_|refine pdd ?_|(refine k_fn 29 ?_;(refine o1_call (fun _=>slices_Clone _ _ _ im hi.up (by omega)) rfl (fun ⟨a20,c20⟩ _=>?_);(try dsimp only)))|(refine k_box ?_;refine o1_box rfl rfl (fun cb=>?_))|refine ow ?_|fail)
 all_goals dsimp only [List.cons_append,List.nil_append]
 repeat' (first|intro _|refine cw ?_|refine cw2 ?_ ?_|refine ow ?_|refine ow2 ?_ ?_|fail)
 refine rt_tmp (cb,a20,c20) rfl rfl rfl trivial ?_
 exact ent
def hdM (p:Prm) (v:BitVec 32) (n:Nat) (d:List (BitVec 8)) (r:PA):ManD:=⟨p.s,v,n,p.z,p.p,⟨r.1,r.2,d⟩⟩
abbrev crB (hb:Nat) (ka:Option Addr) (kn kc:Nat) (p:Prm) (v:BitVec 32) (n:Nat) (d:List (BitVec 8)) (r:PA) (cb:Nat):Hl := .box hb 94 [.slice ka kn kc,W4 p.s,W4 v,I n,I p.z,I p.p,Bs ⟨r.1,r.2,d⟩,W4 p.s,I p.k,I p.p,I p.z,.pointer (some ⟨cb,0,none⟩)]
structure CrL where
 ka:Option Addr
 kc:Nat
 r:PA
 cb:Nat
 ia:Option Addr
 ic:Nat
 A:Hp→Prop
 cd:Option (Option Addr × Nat × List (SlD (BitVec 8)))
structure CrK (key:List (BitVec 8)) (p:Prm) (im d:List (BitVec 8)) (l:CrL):Prop where
 ky:Rs l.A B l.ka l.kc key
 hi:Rs l.A B l.ia l.ic im
 hh:Rs l.A B l.r.1 l.r.2 d
 cd:∀ q,l.cd=some q→q.2.2.map (·.l)=pieA p im
abbrev crL (key:List (BitVec 8)) (p:Prm) (v:BitVec 32) (im d:List (BitVec 8)) (hb:Nat) (l:CrL):List Hl:=match l.cd with
 | none=>[crB hb l.ka key.length l.kc p v im.length d l.r l.cb,cdB l.cb p l.ia im.length l.ic 0#32 0 (.slice none 0 0),.any l.A]
 | some q=>[crB hb l.ka key.length l.kc p v im.length d l.r l.cb,cdB l.cb p l.ia im.length l.ic 1#32 0 (.slice q.1 q.2.2.length q.2.1),.row 22 1 (.slice q.1 q.2.2.length q.2.1) q.2.2.length (q.2.2.map Bs),.any (pcs 5 q.2.2),.any l.A]
def crP (key:List (BitVec 8)) (p:Prm) (v:BitVec 32) (im d:List (BitVec 8)) (hb:Nat):Hp→Prop:=Som (CrK key p im d) (crL key p v im d hb)
structure HdOk (key:List (BitVec 8)) (p:Prm) (im d:List (BitVec 8)):Prop where
 ok:p.ok
 ct:count im.length p.z=p.k
 le:im.length≤512
 hd:sha im=d
 kl:key.length≤64
theorem HdOk.may {key:List (BitVec 8)} {p:Prm} {im d:List (BitVec 8)} (h:HdOk key p im d) (v:BitVec 32) (r:PA):(hdM p v im.length d r).may=true:=by
 have hd:d.length=32:=by rw [←h.hd];exact sha_len _
 have h1:=h.ok
 unfold ManD.may hdM
 dsimp only
 rw [h.ct,hd]
 simpa [Prm.ok] using h1
theorem HdOk.par {key:List (BitVec 8)} {p:Prm} {im d:List (BitVec 8)} (h:HdOk key p im d) (v:BitVec 32) (r:PA):(hdM p v im.length d r).parL=[W4 p.s,I p.k,I p.p,I p.z]∧mayP (count (hdM p v im.length d r).n (hdM p v im.length d r).z) (hdM p v im.length d r).p (hdM p v im.length d r).z=true:=by
 have h2:mayP (count (hdM p v im.length d r).n (hdM p v im.length d r).z) (hdM p v im.length d r).p (hdM p v im.length d r).z=true:=by
  show mayP (count im.length p.z) p.p p.z=true
  rw [h.ct]
  exact h.ok
 refine ⟨?_,h2⟩
 unfold ManD.parL
 rw [if_pos h2]
 show [W4 p.s,I (count im.length p.z),I p.p,I p.z]=_
 rw [h.ct]
set_option maxHeartbeats 4000000 in
theorem cr_New (H:List Hl) (key:List (BitVec 8)) (p:Prm) (v:BitVec 32) (im d:List (BitVec 8)) (ka:Option Addr) (kc:Nat) (ad:Option Addr) (c:Nat) (h:HdOk key p im d) (hk:Rs (stars H) B ka kc key) (hi:Rs (stars H) B ad c im) :
  Spec Tryz.prog 27 [.slice ka key.length kc,W4 p.s,W4 v,.slice ad im.length c,I p.z,I p.p] H (fun _:Nat=>True) (fun hb => .tuple #[.pointer (some ⟨hb,0,none⟩),I 0]) (fun hb => .any (crP key p v im d hb)::H):=by
 refine spec_pure (res:=fun hb:Nat=>[.any (crP key p v im d hb)]) H Tryz.func27 rfl Tryz.ntmps27 (by kernel_rfl) rfl (fun W=>?_)
 have hn:=h.le
 have hkl:=h.kl
 have hmay:=fun r=>h.may v r
 have hpar:=fun r=>h.par v r
 have hof:∀ (H':List Hl) (r:PA),Spec Tryz.prog 58 [(hdM p v im.length d r).V] H' (fun _:Unit=>True) (fun _ => .tuple #[.agg #[W4 p.s,I p.k,I p.p,I p.z],.bool true]) (fun _=>H'):=fun H' r=>by
  have:=code_Of H' (hdM p v im.length d r)
  rw [(hpar r).1,(hpar r).2] at this
  exact this
 repeat' (first|intro _|refine cw ?_|refine cw2 ?_ ?_|(refine k_fn 56 ?_;(refine o1_call (fun _=>dg_Sum _ ad c im d hi.up (by omega) h.hd) rfl (fun ⟨a24,c24⟩ _=>?_);(try dsimp only)))|(refine k_fn 57 ?_;refine o1_call (fun _=>(mf_May _ (hdM p v im.length d (a24,c24))).bv (hmay (a24,c24))) rfl (fun _ _=>?_))|refine o1_call (fun _=>hof _ (a24,c24)) rfl (fun _ _=>?_)|refine ow ?_|refine ow2 ?_ ?_|fail)
 refine st_stages' [(0,_),(14,_),(15,_),(3,_)] rtD36_2 [1,6,8] [⟨[0,2,3,4,5],[],some 1⟩,⟨[],[2,3,4,5],some 6⟩,⟨[7],[2,3],some 8⟩,⟨[9,10],[],none⟩] mixed cv (by kernel_rfl) (by kernel_rfl) ?_
 repeat' (first|intro _|refine sg ?_|refine pw ?_|refine pdd ?_|(refine k_fn 29 ?_;(refine o1_call (fun _=>slices_Clone _ _ _ key hk.up (by omega)) rfl (fun ⟨a40,c40⟩ _=>?_);(try dsimp only)))|(refine k_fn 59 ?_;(refine o1_call (fun _=>cd_New _ p ad c im h.ok h.ct hi.up h.le) rfl (fun ⟨cb,a45,c45⟩ _=>?_);(try dsimp only)))|(refine k_box ?_;refine o1_box rfl rfl (fun hb=>?_))|refine ow ?_|fail)
 all_goals dsimp only [List.cons_append,List.nil_append]
 repeat' (first|intro _|refine cw ?_|refine cw2 ?_ ?_|refine ow ?_|refine ow2 ?_ ?_|fail)
 refine rt_pack [rowB (a24,c24) d,rowB (a40,c40) key,rowB (a45,c45) im] [crB hb a40 key.length c40 p v im.length d (a24,c24) cb,cdB cb p a45 im.length c45 0#32 0 (.slice none 0 0),.any (stars H)] ent ?_
 refine rt_has (fun hh=>?_)
 have hA:=has_any hh
 refine rt_hide (p:=CrK key p im d) (L:=crL key p v im d hb) (R:=[.any (stars H)]) ⟨a40,c40,(a24,c24),cb,a45,c45,stars [rowB (a24,c24) d,rowB (a40,c40) key,rowB (a45,c45) im],none⟩ ⟨rx_row (T:=5) (ad:=a40) (c:=c40) (l:=key) hA,rx_row (T:=5) (ad:=a45) (c:=c45) (l:=im) hA,rx_row (T:=5) (ad:=a24) (c:=c24) (l:=d) hA,fun q e=>nomatch e⟩ ent ?_
 refine rt_tmp2 hb rfl rfl rfl rfl trivial ?_
 exact ent
def fstB (key:List (BitVec 8)) (p:Prm) (v:BitVec 32) (n:Nat) (d:List (BitVec 8)):List (BitVec 8):=(hdM p v n d (none,0)).by++tag key (hdM p v n d (none,0)).by
theorem fstB_len {key:List (BitVec 8)} {p:Prm} {im d:List (BitVec 8)} (h:HdOk key p im d) (v:BitVec 32):(fstB key p v im.length d).length=76:=by
 rw [fstB,List.length_append,by_len,may_len (h.may v (none,0)),tag_len]
set_option maxHeartbeats 4000000 in
theorem cr_First0 (H:List Hl) (key:List (BitVec 8)) (p:Prm) (v:BitVec 32) (im d:List (BitVec 8)) (hb:Nat) (ka:Option Addr) (kc:Nat) (r:PA) (cb:Nat) (h:HdOk key p im d) (hk:Rs (stars H) B ka kc key) (hd:Rs (stars H) B r.1 r.2 d) :
  Spec Tryz.prog 13 [.pointer (some ⟨hb,0,none⟩)] (crB hb ka key.length kc p v im.length d r cb::H) (fun _:Option Addr × Nat=>True) (fun q => .slice q.1 85 q.2)
   (fun q => .row 5 1 (.slice q.1 85 q.2) 85 ((frameB 1#8 (fstB key p v im.length d)).map B)::crB hb ka key.length kc p v im.length d r cb::H):=by
 refine spec_fn (res:=fun q:Option Addr × Nat=>[.row 5 1 (.slice q.1 85 q.2) 85 ((frameB 1#8 (fstB key p v im.length d)).map B),crB hb ka key.length kc p v im.length d r cb]) [crB hb ka key.length kc p v im.length d r cb] H Tryz.func13 rfl Tryz.ntmps13 (by kernel_rfl) rfl (fun W=>?_)
 dsimp only [List.cons_append,List.nil_append]
 have hl:=fstB_len h v
 have hkl:=h.kl
 have hmay:=h.may v r
 obtain ⟨b,hbb⟩:∃ b,fstB key p v im.length d=b:=⟨_,rfl⟩
 have hq:(hdM p v im.length d r).by++tag key (hdM p v im.length d r).by=b:=hbb
 have hmf:=fun (H':List Hl) (hr:Rs (stars H') B r.1 r.2 d) (hk:Rs (stars H') B ka kc key)=>mf_Bytes H' ka kc key _ _ (hdM p v im.length d r) hmay hr hk (by omega) rfl rfl
 rw [hq] at hmf
 rw [hbb] at hl ⊢
 rw [hl] at hmf
 have hrow:∀ q:PA,rowB q b = .row 5 1 (.slice q.1 76 q.2) 76 (b.map B):=fun q=>by show Hl.row 5 1 (.slice q.1 b.length q.2) b.length _=_;rw [hl]
 repeat' (first|intro _|refine cw ?_|refine cw2 ?_ ?_|refine o1_peql rfl rfl ?_|refine ow ?_|refine ow2 ?_ ?_|fail)
 refine st_stages' [(0,_)] rtD36_3 [8] [⟨[0,1,2,3,4,5,6,7],[],some 8⟩,⟨[9,10,11,12,13],[],none⟩] mixed cv (by kernel_rfl) (by kernel_rfl) ?_
 repeat' (first|intro _|refine sg ?_|refine pw ?_|refine pdd ?_|(refine o1_call (fun _=>hmf _ hd.up hk.up) rfl (fun ⟨a18,c18⟩ _=>?_);(try dsimp only);rw [hrow])|refine ow ?_|fail)
 all_goals dsimp only [List.cons_append,List.nil_append]
 repeat' (first|intro _|refine cw ?_|refine cw2 ?_ ?_|(refine k_fn 39 ?_;(refine o1_call (fun hh=>fr_Wrap _ 1#8 1 a18 76 c18 b (rx_row (T:=5) (ad:=a18) (c:=c18) (l:=b) hh) hl.symm (by decide) (by decide) rfl (by decide)) rfl (fun ⟨a23,c23⟩ _=>?_);(try dsimp only)))|refine ow ?_|refine ow2 ?_ ?_|fail)
 refine rt_tmp (a23,c23) rfl rfl rfl trivial ?_
 exact ent
theorem cr_First (H:List Hl) (key:List (BitVec 8)) (p:Prm) (v:BitVec 32) (im d:List (BitVec 8)) (hb:Nat) (h:HdOk key p im d) :
  Spec Tryz.prog 13 [.pointer (some ⟨hb,0,none⟩)] (.any (crP key p v im d hb)::H) (fun _:Option Addr × Nat=>True) (fun q => .slice q.1 85 q.2)
   (fun q => .row 5 1 (.slice q.1 85 q.2) 85 ((frameB 1#8 (fstB key p v im.length d)).map B) :: .any (crP key p v im d hb)::H):=by
 refine Spec.som (by kernel_rfl) (fun l hl=>?_)
 have hso:=som_of (p:=CrK key p im d) (L:=crL key p v im d hb) (R:=H) l hl
 obtain ⟨ka,kc,r,cb,ia,ic,A,cd⟩:=l
 have h1:=hl.ky
 have h2:=hl.hh
 cases cd with
 | none=>exact (cr_First0 (cdB cb p ia im.length ic 0#32 0 (.slice none 0 0) :: .any A::H) key p v im d hb ka kc r cb h h1.up h2.up).imp (fun q _ hp hx=>sep_mono hx (fun _ a=>a) hso)
 | some q=>exact (cr_First0 (cdB cb p ia im.length ic 1#32 0 (.slice q.1 q.2.2.length q.2.1) :: .row 22 1 (.slice q.1 q.2.2.length q.2.1) q.2.2.length (q.2.2.map Bs) :: .any (pcs 5 q.2.2) :: .any A::H) key p v im d hb ka kc r cb h h1.up h2.up).imp (fun q _ hp hx=>sep_mono hx (fun _ a=>a) hso)
set_option maxHeartbeats 4000000 in
theorem cr_Symbol (H:List Hl) (key:List (BitVec 8)) (p:Prm) (v:BitVec 32) (im d:List (BitVec 8)) (hb:Nat) (h:HdOk key p im d) (id:BitVec 32) (V:List Bool) (D:List (BitVec 8)) (n:Nat) (hV:SpRow p id V) (hD:symD (pieA p im) V=D) (hn:D.length=n) (hn1:1≤n) (hn2:n≤16) (ht:TabF (stars H)) :
  Spec Tryz.prog 14 [.pointer (some ⟨hb,0,none⟩),W4 id] (.any (crP key p v im d hb)::H) (fun _:Option Addr × Nat=>True) (fun q => .slice q.1 (8+n+9) q.2)
   (fun q => .row 5 1 (.slice q.1 (8+n+9) q.2) (8+n+9) ((frameB 2#8 (symB p.s id D)).map B) :: .any (crP key p v im d hb)::H):=by
 refine Spec.som (by kernel_rfl) (fun l hl=>?_)
 obtain ⟨ka,kc,r,cb,ia,ic,A,cd⟩:=l
 obtain ⟨h1,h3,h2,h4⟩:=hl
 dsimp only at h1 h2 h3 h4
 have hsb:(symB p.s id D).length=8+n:=by rw [←symB_len,hn]
 obtain ⟨b,hbb⟩:∃ b,symB p.s id D=b:=⟨_,rfl⟩
 have hpk:=fun (H':List Hl) (a:Option Addr) (c:Nat) (hr:Rs (stars H') B a c D)=>packet_Bytes_sym H' p.s id a c D (by omega) (by omega) hr
 rw [hbb,hn] at hpk
 rw [hbb] at hsb ⊢
 rw [hsb] at hpk
 cases cd with
 | none =>
  have hcd:=fun (H':List Hl) (hi:Rs (stars H') B ia ic im) (ht:TabF (stars H'))=>cd_Symbol_0 H' cb p ia ic im id V h.ok h.ct hi hV ht
  rw [hD,hn] at hcd
  show Spec _ _ _ ([crB hb ka key.length kc p v im.length d r cb,cdB cb p ia im.length ic 0#32 0 (.slice none 0 0),.any A]++H) _ _ _
  refine spec_fn (res:=fun q:Option Addr × Nat=>[.row 5 1 (.slice q.1 (8+n+9) q.2) (8+n+9) ((frameB 2#8 b).map B),.any (crP key p v im d hb)]) [crB hb ka key.length kc p v im.length d r cb,cdB cb p ia im.length ic 0#32 0 (.slice none 0 0),.any A] H Tryz.func14 rfl Tryz.ntmps14 (by kernel_rfl) rfl (fun W=>?_)
  dsimp only [List.cons_append,List.nil_append]
  repeat' (first|intro _|refine cw ?_|refine cw2 ?_ ?_|refine o1_peql rfl rfl ?_|refine ow ?_|refine ow2 ?_ ?_|fail)
  refine st_stages' [(0,_),(1,_)] rtD36_4 [11,13] [⟨[0,1,2,3,4,5,6,7,8,9,10],[],some 11⟩,⟨[12],[0,1,2,3,4,5],some 13⟩,⟨[14,15,16,17,18],[],none⟩] mixed cv (by kernel_rfl) (by kernel_rfl) ?_
  repeat' (first|intro _|refine sg ?_|(refine p_load ?_;refine po (by first|refine ox_load (b:=hb) (i:=1) rfl rfl fz|refine ox_load (b:=hb) (i:=11) rfl rfl fz|fail) ?_)|refine pw ?_|refine pdd ?_|(refine o1_call_box (b:=cb) (fun _=>hcd _ h3.up ht.up) rfl (fun ⟨⟨a23,c23⟩,aq,cq,qs⟩ hqs=>?_);dsimp only at hqs ⊢)|(refine o1_call (fun hh=>hpk _ a23 c23 (rx_row (T:=5) (ad:=a23) (c:=c23) (l:=D) hh)) rfl (fun ⟨a25,c25⟩ _=>?_);(try dsimp only))|refine ow ?_|fail)
  all_goals dsimp only [List.cons_append,List.nil_append]
  repeat' (first|intro _|refine cw ?_|refine cw2 ?_ ?_|(refine k_fn 39 ?_;(refine o1_call (fun hh=>fr_Wrap _ 2#8 2 a25 (8+n) c25 b (rx_row (T:=5) (ad:=a25) (c:=c25) (l:=b) hh) hsb.symm (by omega) (by omega) rfl (by decide)) rfl (fun ⟨a30,c30⟩ _=>?_);(try dsimp only)))|refine ow ?_|refine ow2 ?_ ?_|fail)
  refine rt_hide (p:=CrK key p im d) (L:=crL key p v im d hb) (R:=[.row 5 1 (.slice a30 (8+n+9) c30) (8+n+9) ((frameB 2#8 b).map B),.any (stars H)]) ⟨ka,kc,r,cb,ia,ic,A,some (aq,cq,qs)⟩ ⟨h1,h3,h2,fun q e=>by cases e;exact hqs⟩ ent ?_
  refine rt_tmp (a30,c30) rfl rfl rfl trivial ?_
  exact ent
 | some q =>
  obtain ⟨aq,cq,qs⟩:=q
  have hqs:=h4 _ rfl
  dsimp only at hqs
  have hcd:=fun (H':List Hl) (ht:TabF (stars H')) (hq:Rs (stars H') Bs aq cq qs) (hpc:∀ s∈qs,Rs (stars H') B s.ad s.cap s.l)=>cd_Symbol_1 H' cb p ia im.length ic im id V aq cq qs h.ok hV ht hq hpc hqs
  rw [hD,hn] at hcd
  show Spec _ _ _ ([crB hb ka key.length kc p v im.length d r cb,cdB cb p ia im.length ic 1#32 0 (.slice aq qs.length cq),.row 22 1 (.slice aq qs.length cq) qs.length (qs.map Bs),.any (pcs 5 qs),.any A]++H) _ _ _
  refine spec_fn (res:=fun q:Option Addr × Nat=>[.row 5 1 (.slice q.1 (8+n+9) q.2) (8+n+9) ((frameB 2#8 b).map B),.any (crP key p v im d hb)]) [crB hb ka key.length kc p v im.length d r cb,cdB cb p ia im.length ic 1#32 0 (.slice aq qs.length cq),.row 22 1 (.slice aq qs.length cq) qs.length (qs.map Bs),.any (pcs 5 qs),.any A] H Tryz.func14 rfl Tryz.ntmps14 (by kernel_rfl) rfl (fun W=>?_)
  dsimp only [List.cons_append,List.nil_append]
  repeat' (first|intro _|refine cw ?_|refine cw2 ?_ ?_|refine o1_peql rfl rfl ?_|refine ow ?_|refine ow2 ?_ ?_|fail)
  refine st_stages' [(0,_),(1,_)] rtD36_5 [11,13] [⟨[0,1,2,3,4,5,6,7,8,9,10],[],some 11⟩,⟨[12],[0,1,2,3,4,5],some 13⟩,⟨[14,15,16,17,18],[],none⟩] mixed cv (by kernel_rfl) (by kernel_rfl) ?_
  repeat' (first|intro _|refine sg ?_|(refine p_load ?_;refine po (by first|refine ox_load (b:=hb) (i:=1) rfl rfl fz|refine ox_load (b:=hb) (i:=11) rfl rfl fz|fail) ?_)|refine pw ?_|refine pdd ?_|(refine o1_call_box (b:=cb) (fun hh=>hcd _ ht.up (rx_row (T:=22) (ad:=aq) (c:=cq) (l:=qs) (has_tail hh)) (fun s hs=>pcs_read (T:=5) (ls:=qs) hs (has_tail hh))) rfl (fun ⟨a23,c23⟩ _=>?_);(try dsimp only))|(refine o1_call (fun hh=>hpk _ a23 c23 (rx_row (T:=5) (ad:=a23) (c:=c23) (l:=D) hh)) rfl (fun ⟨a25,c25⟩ _=>?_);(try dsimp only))|refine ow ?_|fail)
  all_goals dsimp only [List.cons_append,List.nil_append]
  repeat' (first|intro _|refine cw ?_|refine cw2 ?_ ?_|(refine k_fn 39 ?_;(refine o1_call (fun hh=>fr_Wrap _ 2#8 2 a25 (8+n) c25 b (rx_row (T:=5) (ad:=a25) (c:=c25) (l:=b) hh) hsb.symm (by omega) (by omega) rfl (by decide)) rfl (fun ⟨a30,c30⟩ _=>?_);(try dsimp only)))|refine ow ?_|refine ow2 ?_ ?_|fail)
  refine rt_hide (p:=CrK key p im d) (L:=crL key p v im d hb) (R:=[.row 5 1 (.slice a30 (8+n+9) c30) (8+n+9) ((frameB 2#8 b).map B),.any (stars H)]) ⟨ka,kc,r,cb,ia,ic,A,some (aq,cq,qs)⟩ ⟨h1,h3,h2,h4⟩ ent ?_
  refine rt_tmp (a30,c30) rfl rfl rfl trivial ?_
  exact ent
end Go.Dp
namespace Go.Dp
open Go.RowKit Go.Proofs
def rtD9_0:List Row:=[⟨some 22,[],[],none⟩,⟨some 23,[0],[0],none⟩,⟨some 24,[1],[0,1],none⟩,⟨some 25,[2],[0,1,2],none⟩,⟨some 26,[3],[0,1,2,3],none⟩,⟨some 27,[],[],none⟩,⟨some 28,[5],[5],none⟩,⟨some 29,[6],[5,6],none⟩,⟨some 30,[7],[5,6,7],none⟩,⟨some 31,[4,8],[0,1,2,3,4,5,6,7,8],none⟩,⟨some 8,[9,0,1,2,3,4,5,6,7,8,9],[0,1,2,3,4,5,6,7,8,9],none⟩]
def rtD9_1:List Row:=[⟨some 22,[],[],none⟩,⟨some 23,[0],[0],none⟩,⟨some 24,[1],[0,1],none⟩,⟨some 25,[2],[0,1,2],none⟩,⟨some 26,[3],[0,1,2,3],none⟩,⟨some 27,[],[],none⟩,⟨some 28,[5],[5],none⟩,⟨some 29,[6],[5,6],none⟩,⟨some 30,[7],[5,6,7],none⟩,⟨some 31,[4,8],[0,1,2,3,4,5,6,7,8],none⟩,⟨some 8,[9,0,1,2,3,4,5,6,7,8,9],[0,1,2,3,4,5,6,7,8,9],none⟩]
def rtD9_2:List Row:=[⟨some 58,[],[],none⟩,⟨some 59,[0],[0],none⟩,⟨some 60,[1],[0,1],none⟩,⟨some 61,[2],[0,1,2],none⟩,⟨some 62,[3],[0,1,2,3],none⟩,⟨some 63,[],[],none⟩,⟨some 64,[5],[5],none⟩,⟨some 65,[6],[5,6],none⟩,⟨some 66,[7],[5,6,7],none⟩,⟨some 67,[8],[5,6,7,8],none⟩,⟨some 68,[4,9],[0,1,2,3,4,5,6,7,8,9],none⟩,⟨some 69,[],[],none⟩,⟨some 70,[11],[11],none⟩,⟨some 71,[12],[11,12],none⟩,⟨some 72,[13],[11,12,13],none⟩,⟨some 73,[14],[11,12,13,14],none⟩,⟨some 74,[10,15],[0,1,2,3,4,5,6,7,8,9,10,11,12,13,14,15],none⟩,⟨some 75,[],[],none⟩,⟨some 76,[17],[17],none⟩,⟨some 77,[18],[17,18],none⟩,⟨some 78,[19],[17,18,19],none⟩,⟨some 79,[16,20],[0,1,2,3,4,5,6,7,8,9,10,11,12,13,14,15,16,17,18,19,20],none⟩,⟨some 11,[21,0,1,2,3,4,5,6,7,8,9,10,11,12,13,14,15,16,17,18,19,20,21],[0,1,2,3,4,5,6,7,8,9,10,11,12,13,14,15,16,17,18,19,20,21],none⟩]
theorem or_byte (a b:Nat) (hb:b<256):a*256 ||| b=a*256+b:=by
 have:=Nat.shiftLeft_add_eq_or_of_lt (show b<2 ^ 8 from hb) a
 rw [Nat.shiftLeft_eq] at this
 exact this.symm
def num4 (x0 x1 x2 x3:BitVec 8):BitVec 32:=(((x0.setWidth 32 <<< 24) ||| (x1.setWidth 32 <<< 16)) ||| (x2.setWidth 32 <<< 8)) ||| x3.setWidth 32
theorem num4_32 (x0 x1 x2 x3:BitVec 8):num4 x0 x1 x2 x3=num32 [x0,x1,x2,x3]:=by
 apply BitVec.eq_of_getLsbD_eq
 intro i hi
 simp only [num4,num32,List.foldl_cons,List.foldl_nil,BitVec.getLsbD_or,BitVec.getLsbD_shiftLeft,BitVec.getLsbD_setWidth,BitVec.getLsbD_zero]
 have z:∀ (x:BitVec 8) (j:Nat),8≤j→x.getLsbD j=false:=fun x j hj=>BitVec.getLsbD_of_ge x j hj
 rcases (by omega:i<8∨(8≤i∧i<16)∨(16≤i∧i<24)∨(24≤i∧i<32)) with q|q|q|q
 ·simp [hi,show i<24 by omega,show i<16 by omega,q]
 ·have e1:=z x3 i (by omega)
  simp [hi,e1,show i<24 by omega,show i<16 by omega,show ¬ i<8 by omega,show i - 8<8 by omega,show i - 8<32 by omega]
 ·have e1:=z x3 i (by omega)
  have e2:=z x2 (i - 8) (by omega)
  simp [hi,e1,e2,show i<24 by omega,show ¬ i<16 by omega,show ¬ i<8 by omega,show ¬ i - 8<8 by omega,show i - 8<32 by omega,show i - 8 - 8=i - 16 by omega,show i - 16<8 by omega,show i - 16<32 by omega]
 ·have e1:=z x3 i (by omega)
  have e2:=z x2 (i - 8) (by omega)
  have e3:=z x1 (i - 16) (by omega)
  simp [hi,e1,e2,e3,show ¬ i<24 by omega,show ¬ i<16 by omega,show ¬ i<8 by omega,show ¬ i - 8<8 by omega,show i - 8<32 by omega,show i - 8 - 8=i - 16 by omega,show ¬ i - 16<8 by omega,show i - 16<32 by omega,show i - 16 - 8=i - 24 by omega,show i - 24<8 by omega,show i - 24<32 by omega]
theorem rx_cuth {α:Type} {H H':List Hl} {T:TypeId} {ad:Option Addr} {n c:Nat} {enc:α→Value} {l q:List α} [s:SRow H ad c n T (l.map enc) H'] (k:Nat) (hk:k≤l.length) (e:l.take k=q) (hh:Has H):Rs (stars H) enc (cutA ad c 0) (c - 0) q:=e ▸ (rx_row (T:=T) (n:=n) (ad:=ad) (c:=c) (l:=l) (enc:=enc) hh).cuth k hk
theorem rx_cutl {α:Type} {H H':List Hl} {T:TypeId} {ad:Option Addr} {n c:Nat} {enc:α→Value} {l q:List α} [s:SRow H ad c n T (l.map enc) H'] (k:Nat) (hk:k≤l.length) (e:l.drop k=q) (hh:Has H):Rs (stars H) enc (cutA ad c k) (c - k) q:=e ▸ (rx_row (T:=T) (n:=n) (ad:=ad) (c:=c) (l:=l) (enc:=enc) hh).cutl k hk
theorem numN_two {S:List (BitVec 8)} {x4 x5:BitVec 8} (g4:S[4]?=some x4) (g5:S[5]?=some x5):numN (seg S 4 2)=x4.toNat*256+x5.toNat:=by
 have e:seg S 4 2=[x4,x5]:=by
  apply List.ext_getElem?
  intro i
  rw [seg_get]
  rcases (by omega:i=0∨i=1∨2≤i) with rfl|rfl|hi
  ·rw [if_pos (by omega),g4];rfl
  ·rw [if_pos (by omega),g5];rfl
  ·rw [if_neg (by omega),List.getElem?_eq_none (by simpa using hi)]
 rw [e]
 simp [numN]
theorem cl_at (H:List Hl) (s:Nat) (hs:s<14) :
  Spec Tryz.prog 114 [I s] H (fun _:Unit=>True) (fun _=>I (s*256:Nat)) (fun _=>H):=by
 refine spec_pure (res:=fun _=>[]) H Tryz.func114 rfl Tryz.ntmps114 (by kernel_rfl) rfl (fun W=>?_)
 have hm:(0+(s:Int))*256=((s*256:Nat):Int):=by omega
 repeat' (first|intro _|refine cw ?_|refine cw2 ?_ ?_|(refine k_binOp .mul ?_;(refine o1_mul rfl rfl (by omega) ?_;rw [hm]))|refine ow ?_|refine ow2 ?_ ?_|fail)
 refine rt_tmp () rfl rfl rfl trivial ?_
 exact ent
abbrev cpZ:Value := .agg #[W4 0#32,.slice none 0 0]
set_option maxHeartbeats 2000000 in
theorem cl_whole_no (H:List Hl) (b:Nat) (ad:Option Addr) (c:Nat) (f:Fl) (s:Nat) (h:RdFl (stars H) b ad c f) (hs:s<14) (hd:f.pw.isDown=false) (hw:copyAt f.bs s=none) :
  Spec Tryz.prog 146 [.pointer (some ⟨b,0,none⟩),I s] H (fun _:Unit=>True) (fun _ => .tuple #[cpZ,.bool false]) (fun _=>H):=by
 refine spec_pure (res:=fun _=>[]) H Tryz.func146 rfl Tryz.ntmps146 (by kernel_rfl) rfl (fun W=>?_)
 have hl:=h.l
 unfold copyAt at hw
 obtain ⟨S,hS⟩:∃ S,seg f.bs (s*256) 256=S:=⟨_,rfl⟩
 have hSl:S.length=256:=by rw [←hS];exact seg_len (by omega)
 rw [hS] at hw
 obtain ⟨x4,g4⟩:∃ x,S[4]?=some x:=⟨_,List.getElem?_eq_getElem (by omega)⟩
 obtain ⟨x5,g5⟩:∃ x,S[5]?=some x:=⟨_,List.getElem?_eq_getElem (by omega)⟩
 have b4:=x4.isLt
 have b5:=x5.isLt
 have hn:=numN_two g4 g5
 obtain ⟨n,hnn⟩:∃ n,x4.toNat*256+x5.toNat=n:=⟨_,rfl⟩
 have hor:x4.toNat*256 ||| x5.toNat=n:=by rw [or_byte _ _ b5,hnn]
 have hmul:(x4.toNat:Int)*256=((x4.toNat*256:Nat):Int):=by omega
 rw [hnn] at hn
 unfold copyC at hw
 simp only [hn] at hw
 have hidx:(6:Int)+n+5 - 1=((n+10:Nat):Int):=by omega
 repeat' (first|intro _|refine cw ?_|refine cw2 ?_ ?_|(refine k_fn 114 ?_;(refine o1_call (fun _=>cl_at _ s hs) rfl (fun _ _=>?_)))|(refine k_fn 98 ?_;(refine o1_call (fun _=>fl_Read _ b ad c f (s*256) 256 h.up (by omega) hd) rfl (fun ⟨a6,c6⟩ _=>?_);(try dsimp only);rw [hS]))|refine ow ?_|refine ow2 ?_ ?_|fail)
 refine st_stages' [(6,_)] rtD9_0 [] [⟨[0,1,2,3,4,5,6,7,8,9,10],[],none⟩] mixed cv (by kernel_rfl) (by kernel_rfl) ?_
 repeat' (first|intro _|refine sg ?_|(refine p_indexAddr ?_;refine po (by first|refine o1_iah (enc:=B) (ad:=a6) (c:=c6) (xs:=S) 4 rfl rfl rx_row hSl.symm rfl (by omega) fz|refine o1_iah (enc:=B) (ad:=a6) (c:=c6) (xs:=S) 5 rfl rfl rx_row hSl.symm rfl (by omega) fz|fail) ?_)|(refine p_load ?_;refine po (by first|refine o1_load_hv (enc:=B) (ad:=a6) (c:=c6) (xs:=S) 4 x4 rfl rx_row g4 fz|refine o1_load_hv (enc:=B) (ad:=a6) (c:=c6) (xs:=S) 5 x5 rfl rx_row g5 fz|fail) ?_)|refine po (by first|((refine o1_ishl8 rfl rfl (by omega) ?_;rw [hmul]);all_goals exact fz)|fail) ?_|refine po (by first|((refine o1_ior (x4.toNat*256) x5.toNat rfl rfl rfl rfl (by omega) (by omega) ?_;rw [hor]);all_goals exact fz)|fail) ?_|refine pw ?_|refine pdd ?_|refine ow ?_|fail)
 all_goals dsimp only [List.cons_append,List.nil_append]
 by_cases h1:245<n
 ·repeat' (first|intro _|refine cw ?_|refine cw2 ?_ ?_|refine ow ?_|refine ow2 ?_ ?_|fail)
  refine rt_cell_tmp () rfl rfl rfl rfl rfl trivial ?_
  exact ent
 rw [if_neg h1] at hw
 obtain ⟨y,hy⟩:∃ y,S[n+10]?=some y:=⟨_,List.getElem?_eq_getElem (by omega)⟩
 have hyd:S.getD (n+10) 0#8=y:=by rw [List.getD_eq_getElem?_getD,hy];rfl
 rw [hyd] at hw
 by_cases h2:y=0#8
 ·rw [if_neg (by simpa using h2)] at hw
  subst h2
  obtain ⟨Q,hQ⟩:∃ Q,S.take (n+10)=Q:=⟨_,rfl⟩
  have hQl:Q.length=n+10:=by rw [←hQ,List.length_take];omega
  rw [hQ] at hw
  have hc:crcOk Q=false:=by
   cases hc:crcOk Q
   ·rfl
   ·rw [hc] at hw;simp at hw
  repeat' (first|intro _|refine cw ?_|refine cw2 ?_ ?_|(refine k_binOp .sub ?_;(refine o1_sub rfl rfl (by omega) ?_;rw [hidx]))|(refine k_indexAddr ?_;refine o1_iah (enc:=B) (ad:=a6) (c:=c6) (xs:=S) (n+10) rfl rfl rx_row hSl.symm rfl (by omega) ?_)|(refine k_load ?_;refine o1_load_hv (enc:=B) (ad:=a6) (c:=c6) (xs:=S) (n+10) 0#8 rfl rx_row hy ?_)|(refine k_binOp .neq ?_;refine o1_neq_f rfl rfl rfl ?_)|(refine k_slice ?_;(refine ox_cs_hr (enc:=B) (xs:=S) (n+10) rfl rfl rfl hSl.symm (by omega) ?_;rw [hQ]))|(refine k_fn 72 ?_;refine o1_call (fun hh=>crc_Right_no _ (cutA a6 c6 0) Q.length (c6 - 0) Q (rx_cuth (l:=S) (enc:=B) (n+10) (by omega) hQ hh) rfl (by omega) hc) rfl (fun _ _=>?_))|refine ow ?_|refine ow2 ?_ ?_|fail)
  refine rt_cell_tmp () rfl rfl rfl rfl rfl trivial ?_
  exact ent
 ·have hy0:(y.toNat:Int)≠0:=fun e=>h2 (BitVec.eq_of_toNat_eq (by show y.toNat=0;omega))
  repeat' (first|intro _|refine cw ?_|refine cw2 ?_ ?_|(refine k_binOp .sub ?_;(refine o1_sub rfl rfl (by omega) ?_;rw [hidx]))|(refine k_indexAddr ?_;refine o1_iah (enc:=B) (ad:=a6) (c:=c6) (xs:=S) (n+10) rfl rfl rx_row hSl.symm rfl (by omega) ?_)|(refine k_load ?_;refine o1_load_hv (enc:=B) (ad:=a6) (c:=c6) (xs:=S) (n+10) y rfl rx_row hy ?_)|(refine k_binOp .neq ?_;refine o1_neq_t rfl rfl hy0 ?_)|refine ow ?_|refine ow2 ?_ ?_|fail)
  refine rt_cell_tmp () rfl rfl rfl rfl rfl trivial ?_
  exact ent
theorem copyAt_drop {l:List (BitVec 8)} {s:Nat} {k:BitVec 32} {q:List (BitVec 8)} (hw:copyAt l s=some (k,q)):((seg l (s*256) 256).take (q.length+6)).drop 6=q∧q.length≤245:=by
 unfold copyAt copyC at hw
 dsimp only at hw
 split at hw
 ·cases hw
 split at hw
 ·cases hw
 split at hw
 ·rename_i h1 h2 h3
  obtain ⟨e1,e2⟩:=Prod.mk.inj (Option.some.inj hw)
  have hl:q.length≤numN (seg (seg l (s*256) 256) 4 2):=by rw [←e2,seg,List.length_take];omega
  refine ⟨?_,by omega⟩
  rw [List.drop_take,←e2]
  simp only [seg,Nat.add_sub_cancel,List.length_take]
  rw [List.take_eq_take_iff]
  omega
 ·cases hw
set_option maxHeartbeats 4000000 in
theorem cl_whole (H:List Hl) (b:Nat) (ad:Option Addr) (c:Nat) (f:Fl) (s:Nat) (k:BitVec 32) (q Z:List (BitVec 8)) (h:RdFl (stars H) b ad c f) (hs:s<14) (hd:f.pw.isDown=false) (hw:copyAt f.bs s=some (k,q)) (hZ:(seg f.bs (s*256) 256).take (q.length+6)=Z) :
  Spec Tryz.prog 146 [.pointer (some ⟨b,0,none⟩),I s] H (fun _:Option Addr × Nat=>True) (fun r => .tuple #[.agg #[W4 k,.slice (cutA r.1 r.2 6) q.length (r.2 - 6)],.bool true]) (fun r => .row 5 1 (.slice r.1 (q.length+6) r.2) (q.length+6) (Z.map B)::H):=by
 refine spec_pure (res:=fun r:Option Addr × Nat=>[.row 5 1 (.slice r.1 (q.length+6) r.2) (q.length+6) (Z.map B)]) H Tryz.func146 rfl Tryz.ntmps146 (by kernel_rfl) rfl (fun W=>?_)
 obtain ⟨hZd,hq245⟩:=copyAt_drop hw
 rw [hZ] at hZd
 have hl:=h.l
 unfold copyAt at hw
 obtain ⟨S,hS⟩:∃ S,seg f.bs (s*256) 256=S:=⟨_,rfl⟩
 have hSl:S.length=256:=by rw [←hS];exact seg_len (by omega)
 rw [hS] at hw hZ
 obtain ⟨x4,g4⟩:∃ x,S[4]?=some x:=⟨_,List.getElem?_eq_getElem (by omega)⟩
 obtain ⟨x5,g5⟩:∃ x,S[5]?=some x:=⟨_,List.getElem?_eq_getElem (by omega)⟩
 have b4:=x4.isLt
 have b5:=x5.isLt
 have hn:=numN_two g4 g5
 obtain ⟨n,hnn⟩:∃ n,x4.toNat*256+x5.toNat=n:=⟨_,rfl⟩
 have hor:x4.toNat*256 ||| x5.toNat=n:=by rw [or_byte _ _ b5,hnn]
 have hmul:(x4.toNat:Int)*256=((x4.toNat*256:Nat):Int):=by omega
 rw [hnn] at hn
 unfold copyC at hw
 simp only [hn] at hw
 have hidx:(6:Int)+n+5 - 1=((n+10:Nat):Int):=by omega
 by_cases h1:245<n
 ·rw [if_pos h1] at hw;cases hw
 rw [if_neg h1] at hw
 obtain ⟨y,hy⟩:∃ y,S[n+10]?=some y:=⟨_,List.getElem?_eq_getElem (by omega)⟩
 have hyd:S.getD (n+10) 0#8=y:=by rw [List.getD_eq_getElem?_getD,hy];rfl
 rw [hyd] at hw
 by_cases h2 : ¬ y=0#8
 ·rw [if_pos (by simpa using h2)] at hw;cases hw
 have h2:y=0#8:=Decidable.not_not.1 h2
 rw [if_neg (by simpa using h2)] at hw
 subst h2
 obtain ⟨Q,hQ⟩:∃ Q,S.take (n+10)=Q:=⟨_,rfl⟩
 have hQl:Q.length=n+10:=by rw [←hQ,List.length_take];omega
 rw [hQ] at hw
 by_cases hc : ¬ crcOk Q=true
 ·rw [if_neg hc] at hw;cases hw
 have hc:crcOk Q=true:=Decidable.not_not.1 hc
 rw [if_pos hc] at hw
 obtain ⟨e1,e2⟩:=Prod.mk.inj (Option.some.inj hw)
 have hql:q.length=n:=by rw [←e2];exact seg_len (by omega)
 have hQ4:Q.length - 4=n+6:=by omega
 have hQZ:Q.take (n+6)=Z:=by rw [←hQ,List.take_take,Nat.min_eq_left (by omega),←hZ,hql]
 have hZl:Z.length=n+6:=by rw [←hQZ,List.length_take];omega
 rw [hql]
 obtain ⟨x0,x1,x2,x3,hx⟩:∃ x0 x1 x2 x3,S.take 4=[x0,x1,x2,x3]:=list4 (by rw [List.length_take];omega)
 have g:∀ i,i<4→S[i]?=[x0,x1,x2,x3][i]?:=fun i hi=>by rw [←hx,List.getElem?_take,if_pos hi]
 have g0:S[0]?=some x0:=g 0 (by decide)
 have g1:S[1]?=some x1:=g 1 (by decide)
 have g2:S[2]?=some x2:=g 2 (by decide)
 have g3:S[3]?=some x3:=g 3 (by decide)
 have hk:num4 x0 x1 x2 x3=k:=by rw [num4_32,←hx,e1]
 repeat' (first|intro _|refine cw ?_|refine cw2 ?_ ?_|(refine k_fn 114 ?_;(refine o1_call (fun _=>cl_at _ s hs) rfl (fun _ _=>?_)))|(refine k_fn 98 ?_;(refine o1_call (fun _=>fl_Read _ b ad c f (s*256) 256 h.up (by omega) hd) rfl (fun ⟨a6,c6⟩ _=>?_);(try dsimp only);rw [hS]))|refine ow ?_|refine ow2 ?_ ?_|fail)
 refine st_stages' [(6,_)] rtD9_1 [] [⟨[0,1,2,3,4,5,6,7,8,9,10],[],none⟩] mixed cv (by kernel_rfl) (by kernel_rfl) ?_
 repeat' (first|intro _|refine sg ?_|(refine p_indexAddr ?_;refine po (by first|refine o1_iah (enc:=B) (ad:=a6) (c:=c6) (xs:=S) 4 rfl rfl rx_row hSl.symm rfl (by omega) fz|refine o1_iah (enc:=B) (ad:=a6) (c:=c6) (xs:=S) 5 rfl rfl rx_row hSl.symm rfl (by omega) fz|fail) ?_)|(refine p_load ?_;refine po (by first|refine o1_load_hv (enc:=B) (ad:=a6) (c:=c6) (xs:=S) 4 x4 rfl rx_row g4 fz|refine o1_load_hv (enc:=B) (ad:=a6) (c:=c6) (xs:=S) 5 x5 rfl rx_row g5 fz|fail) ?_)|refine po (by first|((refine o1_ishl8 rfl rfl (by omega) ?_;rw [hmul]);all_goals exact fz)|fail) ?_|refine po (by first|((refine o1_ior (x4.toNat*256) x5.toNat rfl rfl rfl rfl (by omega) (by omega) ?_;rw [hor]);all_goals exact fz)|fail) ?_|refine pw ?_|refine pdd ?_|refine ow ?_|fail)
 all_goals dsimp only [List.cons_append,List.nil_append]
 repeat' (first|intro _|refine cw ?_|refine cw2 ?_ ?_|(refine k_binOp .sub ?_;(refine o1_sub rfl rfl (by omega) ?_;rw [hidx]))|(refine k_indexAddr ?_;refine o1_iah (enc:=B) (ad:=a6) (c:=c6) (xs:=S) (n+10) rfl rfl rx_row hSl.symm rfl (by omega) ?_)|(refine k_load ?_;refine o1_load_hv (enc:=B) (ad:=a6) (c:=c6) (xs:=S) (n+10) 0#8 rfl rx_row hy ?_)|(refine k_binOp .neq ?_;refine o1_neq_f rfl rfl rfl ?_)|(refine k_slice ?_;(refine ox_cs_hr (enc:=B) (xs:=S) (n+10) rfl rfl rfl hSl.symm (by omega) ?_;rw [hQ]))|(refine k_fn 72 ?_;(refine o1_call (fun hh=>crc_Right _ (cutA a6 c6 0) Q.length (c6 - 0) Q (rx_cuth (l:=S) (enc:=B) (n+10) (by omega) hQ hh) rfl (by omega) hc) rfl (fun ⟨a53,c53⟩ _=>?_);(try dsimp only);rw [hQ4,hQZ]))|refine ow ?_|refine ow2 ?_ ?_|fail)
 refine st_stages' [(6,_)] rtD9_2 [] [⟨[0,1,2,3,4,5,6,7,8,9,10,11,12,13,14,15,16,17,18,19,20,21,22],[],none⟩] mixed cv (by kernel_rfl) (by kernel_rfl) ?_
 repeat' (first|intro _|refine sg ?_|(refine p_indexAddr ?_;refine po (by first|refine o1_iah (enc:=B) (ad:=a6) (c:=c6) (xs:=S) 0 rfl rfl rx_row hSl.symm rfl (by omega) fz|refine o1_iah (enc:=B) (ad:=a6) (c:=c6) (xs:=S) 1 rfl rfl rx_row hSl.symm rfl (by omega) fz|refine o1_iah (enc:=B) (ad:=a6) (c:=c6) (xs:=S) 2 rfl rfl rx_row hSl.symm rfl (by omega) fz|refine o1_iah (enc:=B) (ad:=a6) (c:=c6) (xs:=S) 3 rfl rfl rx_row hSl.symm rfl (by omega) fz|fail) ?_)|(refine p_load ?_;refine po (by first|refine o1_load_hv (enc:=B) (ad:=a6) (c:=c6) (xs:=S) 0 x0 rfl rx_row g0 fz|refine o1_load_hv (enc:=B) (ad:=a6) (c:=c6) (xs:=S) 1 x1 rfl rx_row g1 fz|refine o1_load_hv (enc:=B) (ad:=a6) (c:=c6) (xs:=S) 2 x2 rfl rx_row g2 fz|refine o1_load_hv (enc:=B) (ad:=a6) (c:=c6) (xs:=S) 3 x3 rfl rx_row g3 fz|fail) ?_)|refine pw ?_|refine pdd ?_|refine ow ?_|fail)
 all_goals dsimp only [List.cons_append,List.nil_append]
 repeat' (first|intro _|refine cw ?_|refine cw2 ?_ ?_|(refine k_slice ?_;(refine o1_cs_l (xs:=Z) 6 rfl rfl rfl hZl.symm (by omega) ?_;rw [hZd,hql]))|refine ow ?_|refine ow2 ?_ ?_|fail)
 refine rt_cell_tmp (a53,c53) rfl rfl rfl rfl (by rw [←hk];rfl) trivial ?_
 exact ent
def rtD13_0:List Row:=[⟨some 5,[],[],none⟩,⟨some 6,[],[],none⟩,⟨some 7,[1],[1],none⟩,⟨some 8,[0,2],[0,1,2],none⟩,⟨some 9,[3],[0,1,2,3],none⟩,⟨some 10,[4],[0,1,2,3,4],none⟩,⟨some 11,[],[],none⟩,⟨some 12,[],[],none⟩,⟨some 13,[7,2],[1,2,7],none⟩,⟨some 14,[6,8],[1,2,6,7,8],none⟩,⟨some 15,[],[],none⟩,⟨some 16,[10,8],[1,2,7,8,10],none⟩,⟨some 17,[9,11],[1,2,6,7,8,9,10,11],none⟩,⟨some 18,[5,12],[0,1,2,3,4,5,6,7,8,9,10,11,12],none⟩,⟨some 4,[13,11,0,1,2,3,4,5,6,7,8,9,10,11,12,13],[0,1,2,3,4,5,6,7,8,9,10,11,12,13],none⟩]
def rtD13_1:List Row:=[⟨some 3,[],[],none⟩,⟨some 4,[0],[0],none⟩,⟨some 5,[1],[0,1],none⟩,⟨some 6,[2],[0,1,2],none⟩,⟨some 7,[3],[0,1,2,3],none⟩,⟨some 8,[],[],none⟩,⟨some 9,[5],[5],none⟩,⟨some 10,[6],[5,6],none⟩,⟨some 11,[7],[5,6,7],none⟩,⟨some 12,[8],[5,6,7,8],none⟩,⟨some 13,[4,9],[0,1,2,3,4,5,6,7,8,9],none⟩,⟨some 14,[],[],none⟩,⟨some 15,[11],[11],none⟩,⟨some 16,[12],[11,12],none⟩,⟨some 17,[13],[11,12,13],none⟩,⟨some 18,[14],[11,12,13,14],none⟩,⟨some 19,[10,15],[0,1,2,3,4,5,6,7,8,9,10,11,12,13,14,15],none⟩,⟨some 20,[],[],none⟩,⟨some 21,[17],[17],none⟩,⟨some 22,[18],[17,18],none⟩,⟨some 23,[19],[17,18,19],none⟩,⟨some 24,[16,20],[0,1,2,3,4,5,6,7,8,9,10,11,12,13,14,15,16,17,18,19,20],none⟩,⟨some 2,[21,0,1,2,3,4,5,6,7,8,9,10,11,12,13,14,15,16,17,18,19,20,21],[0,1,2,3,4,5,6,7,8,9,10,11,12,13,14,15,16,17,18,19,20,21],none⟩]
theorem pl_bounds {z:Nat} (h1:1≤z) (h2:z≤16):8≤plW z∧plW z≤18∧plW z*(z+13)≤256:=by
 have key:∀ z,z<17→1≤z→8≤plW z∧plW z≤18∧plW z*(z+13)≤256:=by decide
 exact key z (by omega) h1
theorem at_bounds {z p:Nat} (h1:1≤z) (h2:z≤16) (hp:p<8*plW z):atW z p+(z+13)≤3584∧1536≤atW z p:=by
 obtain ⟨b1,b2,b3⟩:=pl_bounds h1 h2
 obtain ⟨L,hL⟩:∃ L,plW z=L:=⟨_,rfl⟩
 rw [hL] at b1 b2 b3 hp
 have e1:p / L<8:=Nat.div_lt_of_lt_mul (by rw [Nat.mul_comm];exact hp)
 have e2:p % L<L:=Nat.mod_lt _ (by omega)
 have e3:(p % L+1)*(z+13)≤L*(z+13):=Nat.mul_le_mul_right _ e2
 rw [Nat.add_mul,Nat.one_mul] at e3
 unfold atW
 rw [hL]
 obtain ⟨q,hq⟩:∃ q,p / L=q:=⟨_,rfl⟩
 obtain ⟨r,hr⟩:∃ r,p % L*(z+13)=r:=⟨_,rfl⟩
 rw [hq] at e1 ⊢
 rw [hr] at e3 ⊢
 omega
structure RdWh (A:Hp→Prop) (wb fb:Nat) (g:BitVec 32) (z:Nat):Prop where
 f:Cl A ⟨wb,0,none⟩ (.pointer (some ⟨fb,0,none⟩))
 gc:Cl A ⟨wb,1,none⟩ (W4 g)
 zc:Cl A ⟨wb,2,none⟩ (I z)
 z1:1≤z
 z2:z≤16
abbrev whB (wb fb:Nat) (g:BitVec 32) (z:Nat) (la:Option Addr) (ln lc:Nat) (rdy:Int) (nxt:Nat):Hl := .box wb 246 [.pointer (some ⟨fb,0,none⟩),W4 g,I z,.slice la ln lc,I rdy,I nxt]
theorem RdWh.up {A:Hp→Prop} {wb fb:Nat} {g:BitVec 32} {z:Nat} {H H':List Hl} (h:RdWh A wb fb g z) [s:SAny H A H']:RdWh (stars H) wb fb g z:=⟨cl_up h.f,cl_up h.gc,cl_up h.zc,h.z1,h.z2⟩
theorem RdWh.own {wb fb:Nat} {g:BitVec 32} {z:Nat} {la:Option Addr} {ln lc:Nat} {rdy:Int} {nxt:Nat} {H H1:List Hl} [s:SBox H wb 246 [.pointer (some ⟨fb,0,none⟩),W4 g,I z,.slice la ln lc,I rdy,I nxt] H1] (h1:1≤z) (h2:z≤16):RdWh (stars H) wb fb g z :=
 ⟨cl_box rfl,cl_box rfl,cl_box rfl,h1,h2⟩
theorem wh_wide (H:List Hl) (wb z:Nat) (h:Cl (stars H) ⟨wb,2,none⟩ (I z)) (hz:z≤16) :
  Spec Tryz.prog 195 [.pointer (some ⟨wb,0,none⟩)] H (fun _:Unit=>True) (fun _=>I (z+13:Nat)) (fun _=>H):=by
 refine spec_pure (res:=fun _=>[]) H Tryz.func195 rfl Tryz.ntmps195 (by kernel_rfl) rfl (fun W=>?_)
 repeat' (first|intro _|refine cw ?_|refine cw2 ?_ ?_|(refine k_load ?_;refine ox_load_any rfl h ?_)|refine ow ?_|refine ow2 ?_ ?_|fail)
 refine rt_tmp () rfl rfl rfl trivial ?_
 exact ent
theorem wh_places (H:List Hl) (wb z:Nat) (h:Cl (stars H) ⟨wb,2,none⟩ (I z)) (hz:z≤16) :
  Spec Tryz.prog 164 [.pointer (some ⟨wb,0,none⟩)] H (fun _:Unit=>True) (fun _=>I (plW z)) (fun _=>H):=by
 refine spec_pure (res:=fun _=>[]) H Tryz.func164 rfl Tryz.ntmps164 (by kernel_rfl) rfl (fun W=>?_)
 have e:(256:Int) / ((z+13:Nat):Int)=((plW z:Nat):Int):=by unfold plW;rfl
 repeat' (first|intro _|refine cw ?_|refine cw2 ?_ ?_|(refine k_fn 195 ?_;refine o1_call (fun _=>wh_wide _ wb z (cl_up h) hz) rfl (fun _ _=>?_))|(refine k_binOp .quo ?_;(refine o1_quo rfl rfl (by omega) ?_;rw [e]))|refine ow ?_|refine ow2 ?_ ?_|fail)
 refine rt_tmp () rfl rfl rfl trivial ?_
 exact ent
theorem wh_at (H:List Hl) (wb z p:Nat) (h:Cl (stars H) ⟨wb,2,none⟩ (I z)) (h1:1≤z) (h2:z≤16) (hp:p<8*plW z) :
  Spec Tryz.prog 167 [.pointer (some ⟨wb,0,none⟩),I p] H (fun _:Unit=>True) (fun _=>I (atW z p)) (fun _=>H):=by
 refine spec_pure (res:=fun _=>[]) H Tryz.func167 rfl Tryz.ntmps167 (by kernel_rfl) rfl (fun W=>?_)
 obtain ⟨b1,b2,b3⟩:=pl_bounds h1 h2
 obtain ⟨L,hL⟩:∃ L,plW z=L:=⟨_,rfl⟩
 have ha:atW z p=(6+p / L)*256+p % L*(z+13):=by rw [atW,hL]
 rw [hL] at b1 b2 b3 hp
 rw [ha]
 have e1:p / L<8:=Nat.div_lt_of_lt_mul (by rw [Nat.mul_comm];exact hp)
 have e2:p % L<L:=Nat.mod_lt _ (by omega)
 have e3:(p % L)*(z+13)≤18*29:=Nat.mul_le_mul (by omega) (by omega)
 have d1:(p:Int) / (L:Int)=((p / L:Nat):Int):=rfl
 have d2:(p:Int) % (L:Int)=((p % L:Nat):Int):=rfl
 obtain ⟨q,hq⟩:∃ q,p / L=q:=⟨_,rfl⟩
 obtain ⟨r,hr⟩:∃ r,p % L=r:=⟨_,rfl⟩
 rw [hq] at e1 d1
 rw [hr] at e2 e3 d2
 rw [hq,hr]
 obtain ⟨s,hs⟩:∃ s,r*(z+13)=s:=⟨_,rfl⟩
 have d3:(r:Int)*((z+13:Nat):Int)=(s:Int):=by rw [←hs];push_cast;rfl
 rw [hs] at e3 ⊢
 have d4:((6:Int)+(q:Int))*256+(s:Int)=(((6+q)*256+s:Nat):Int):=by omega
 repeat' (first|intro _|refine cw ?_|refine cw2 ?_ ?_|refine ow ?_|refine ow2 ?_ ?_|fail)
 refine st_stages' [(1,_),(0,_)] rtD13_0 [2,8,11] [⟨[0,1,6,7,10],[],some 2⟩,⟨[3,4,5],[0,6,7,10],some 8⟩,⟨[9],[0,3,4,5,6,10],some 11⟩,⟨[12,13,14],[0,3,4,5,6,9],none⟩] mixed cv (by kernel_rfl) (by kernel_rfl) ?_
 repeat' (first|intro _|refine sg ?_|(refine p_binOp .quo ?_;refine po (by first|((refine o1_quo rfl rfl (by omega) ?_;rw [d1]);all_goals exact fz)|fail) ?_)|(refine p_binOp .rem ?_;refine po (by first|((refine o1_rem rfl rfl (by omega) ?_;rw [d2]);all_goals exact fz)|fail) ?_)|(refine p_binOp .mul ?_;refine po (by first|((refine o1_mul rfl rfl (by rw [d3];omega) ?_;rw [d3]);all_goals exact fz)|refine o1_mul rfl rfl (by omega) fz|fail) ?_)|(refine p_binOp .add ?_;refine po (by first|((refine o1_add rfl rfl (by omega) ?_;(try rw [d4]));all_goals exact fz)|fail) ?_)|refine pw ?_|refine pdd ?_|(refine k_fn 164 ?_;(refine o1_call (fun _=>wh_places _ wb z (cl_up h) h2) rfl (fun _ _=>?_);rw [hL]))|(refine k_fn 195 ?_;refine o1_call (fun _=>wh_wide _ wb z (cl_up h) h2) rfl (fun _ _=>?_))|refine ow ?_|fail)
 all_goals dsimp only [List.cons_append,List.nil_append]
 repeat' (first|intro _|refine cw ?_|refine cw2 ?_ ?_|refine ow ?_|refine ow2 ?_ ?_|fail)
 refine rt_tmp () rfl rfl rfl trivial ?_
 exact ent
theorem wh_word (H:List Hl) (x:BitVec 32) :
  Spec Tryz.prog 166 [W4 x] H (fun _:Nat=>True) (fun b => .slice (some ⟨b,0,none⟩) 4 4) (fun b => .box b 5 ((be4 x).map B)::H):=by
 refine spec_pure (res:=fun b:Nat=>[.box b 5 ((be4 x).map B)]) H Tryz.func166 rfl Tryz.ntmps166 (by kernel_rfl) rfl (fun W=>?_)
 repeat' (first|intro _|refine cw ?_|refine cw2 ?_ ?_|(refine k_buildSlice ?_;refine o1_lit_enc (T:=22) B (be4 x) rfl rfl rfl (fun _=>rfl) rfl rfl rfl (fun b=>?_))|refine ow ?_|refine ow2 ?_ ?_|fail)
 refine rt_tmp b rfl rfl rfl trivial ?_
 exact ent
theorem wh_number (H:List Hl) (ad:Option Addr) (m c:Nat) (l:List (BitVec 8)) (k:BitVec 32) (h:Rs (stars H) B ad c l) (hm:m=l.length) (h4:4≤m) (hk:num32 (l.take 4)=k) :
  Spec Tryz.prog 233 [.slice ad m c] H (fun _:Unit=>True) (fun _=>W4 k) (fun _=>H):=by
 refine spec_pure (res:=fun _=>[]) H Tryz.func233 rfl Tryz.ntmps233 (by kernel_rfl) rfl (fun W=>?_)
 obtain ⟨x0,x1,x2,x3,hx⟩:∃ x0 x1 x2 x3,l.take 4=[x0,x1,x2,x3]:=list4 (by rw [List.length_take];omega)
 have g:∀ i,i<4→l[i]?=[x0,x1,x2,x3][i]?:=fun i hi=>by rw [←hx,List.getElem?_take,if_pos hi]
 have g0:l[0]?=some x0:=g 0 (by decide)
 have g1:l[1]?=some x1:=g 1 (by decide)
 have g2:l[2]?=some x2:=g 2 (by decide)
 have g3:l[3]?=some x3:=g 3 (by decide)
 have hk:num4 x0 x1 x2 x3=k:=by rw [num4_32,←hx,hk]
 subst hm
 repeat' (first|intro _|refine cw ?_|refine cw2 ?_ ?_|refine ow ?_|refine ow2 ?_ ?_|fail)
 refine st_stages' [(0,_)] rtD13_1 [] [⟨[0,1,2,3,4,5,6,7,8,9,10,11,12,13,14,15,16,17,18,19,20,21,22],[],none⟩] mixed cv (by kernel_rfl) (by kernel_rfl) ?_
 repeat' (first|intro _|refine sg ?_|(refine p_indexAddr ?_;refine po (by first|refine o1_ia (ad:=ad) (c:=c) 0 rfl rfl h rfl rfl (by omega) fz|refine o1_ia (ad:=ad) (c:=c) 1 rfl rfl h rfl rfl (by omega) fz|refine o1_ia (ad:=ad) (c:=c) 2 rfl rfl h rfl rfl (by omega) fz|refine o1_ia (ad:=ad) (c:=c) 3 rfl rfl h rfl rfl (by omega) fz|fail) ?_)|(refine p_load ?_;refine po (by first|refine o1_load_av (ad:=ad) (c:=c) 0 x0 rfl h g0 fz|refine o1_load_av (ad:=ad) (c:=c) 1 x1 rfl h g1 fz|refine o1_load_av (ad:=ad) (c:=c) 2 x2 rfl h g2 fz|refine o1_load_av (ad:=ad) (c:=c) 3 x3 rfl h g3 fz|fail) ?_)|refine pw ?_|refine pdd ?_|refine ow ?_|fail)
 all_goals dsimp only [List.cons_append,List.nil_append]
 repeat' (first|intro _|refine cw ?_|refine cw2 ?_ ?_|refine ow ?_|refine ow2 ?_ ?_|fail)
 refine rt_tmp () rfl rfl (by rw [←hk];rfl) trivial ?_
 exact ent
theorem cl_ready (H:List Hl) (b:Nat) (ad:Option Addr) (c:Nat) (f:Fl) (h:RdFl (stars H) b ad c f) :
  Spec Tryz.prog 91 [.pointer (some ⟨b,0,none⟩)] H (fun _:Unit=>True) (fun _=>I (if f.pw.isDown=true then 11 else 0)) (fun _=>H):=by
 refine spec_pure (res:=fun _=>[]) H Tryz.func91 rfl Tryz.ntmps91 (by kernel_rfl) rfl (fun W=>?_)
 cases hd:f.pw.isDown
 ·repeat' (first|intro _|refine cw ?_|refine cw2 ?_ ?_|(refine k_fn 98 ?_;(refine o1_call (fun _=>fl_Read _ b ad c f 0 0 h.up (by omega) hd) rfl (fun ⟨a6,c6⟩ _=>?_);(try dsimp only)))|refine ow ?_|refine ow2 ?_ ?_|fail)
  refine rt_tmp () rfl rfl rfl trivial ?_
  exact ent
 ·repeat' (first|intro _|refine cw ?_|refine cw2 ?_ ?_|(refine k_fn 98 ?_;refine o1_call (fun _=>fl_Read_down _ b f 0 0 (cl_up h.d) (by omega) hd) rfl (fun _ _=>?_))|refine ow ?_|refine ow2 ?_ ?_|fail)
  refine rt_tmp () rfl rfl rfl trivial ?_
  exact ent
set_option maxHeartbeats 4000000 in
theorem cl_found_none (H:List Hl) (b:Nat) (ad:Option Addr) (c:Nat) (f:Fl) (h:RdFl (stars H) b ad c f) (hd:f.pw.isDown=false) (h0:copyAt f.bs 0=none) (h1:copyAt f.bs 1=none) :
  Spec Tryz.prog 92 [.pointer (some ⟨b,0,none⟩)] H (fun _:Unit=>True) (fun _ => .tuple #[cpZ,I (-1)]) (fun _=>H):=by
 refine spec_pure (res:=fun _=>[]) H Tryz.func92 rfl Tryz.ntmps92 (by kernel_rfl) rfl (fun W=>?_)
 repeat' (first|intro _|refine cw ?_|refine cw2 ?_ ?_|refine ow ?_|refine ow2 ?_ ?_|fail)
 refine st_rounds 3 ?_
 repeat' (first|intro _|refine cw ?_|refine cw2 ?_ ?_|(refine k_fn 146 ?_;first|refine o1_call (fun _=>cl_whole_no _ b ad c f 0 h.up (by decide) hd h0) rfl (fun _ _=>?_)|refine o1_call (fun _=>cl_whole_no _ b ad c f 1 h.up (by decide) hd h1) rfl (fun _ _=>?_))|refine ow ?_|refine ow2 ?_ ?_|fail)
 refine rt_cell_tmp () rfl rfl rfl rfl rfl trivial ?_
 exact ent
set_option maxHeartbeats 4000000 in
theorem cl_found_0 (H:List Hl) (b:Nat) (ad:Option Addr) (c:Nat) (f:Fl) (k0:BitVec 32) (q0 Z0:List (BitVec 8)) (h:RdFl (stars H) b ad c f) (hd:f.pw.isDown=false) (h0:copyAt f.bs 0=some (k0,q0)) (hZ0:(seg f.bs (0*256) 256).take (q0.length+6)=Z0) (h1:copyAt f.bs 1=none) :
  Spec Tryz.prog 92 [.pointer (some ⟨b,0,none⟩)] H (fun _:Option Addr × Nat=>True) (fun r => .tuple #[.agg #[W4 k0,.slice (cutA r.1 r.2 6) q0.length (r.2 - 6)],I 0]) (fun r => .row 5 1 (.slice r.1 (q0.length+6) r.2) (q0.length+6) (Z0.map B)::H):=by
 refine spec_pure (res:=fun r:Option Addr × Nat=>[.row 5 1 (.slice r.1 (q0.length+6) r.2) (q0.length+6) (Z0.map B)]) H Tryz.func92 rfl Tryz.ntmps92 (by kernel_rfl) rfl (fun W=>?_)
 repeat' (first|intro _|refine cw ?_|refine cw2 ?_ ?_|refine ow ?_|refine ow2 ?_ ?_|fail)
 refine st_rounds 3 ?_
 repeat' (first|intro _|refine cw ?_|refine cw2 ?_ ?_|(refine k_fn 146 ?_;first|(refine o1_call (fun _=>cl_whole _ b ad c f 0 k0 q0 Z0 h.up (by decide) hd h0 hZ0) rfl (fun ⟨a0,c0⟩ _=>?_);(try dsimp only))|refine o1_call (fun _=>cl_whole_no _ b ad c f 1 h.up (by decide) hd h1) rfl (fun _ _=>?_))|refine ow ?_|refine ow2 ?_ ?_|fail)
 refine rt_cell_tmp (a0,c0) rfl rfl rfl rfl rfl trivial ?_
 exact ent
set_option maxHeartbeats 4000000 in
theorem cl_found_1 (H:List Hl) (b:Nat) (ad:Option Addr) (c:Nat) (f:Fl) (k1:BitVec 32) (q1 Z1:List (BitVec 8)) (h:RdFl (stars H) b ad c f) (hd:f.pw.isDown=false) (h0:copyAt f.bs 0=none) (h1:copyAt f.bs 1=some (k1,q1)) (hZ1:(seg f.bs (1*256) 256).take (q1.length+6)=Z1) :
  Spec Tryz.prog 92 [.pointer (some ⟨b,0,none⟩)] H (fun _:Option Addr × Nat=>True) (fun r => .tuple #[.agg #[W4 k1,.slice (cutA r.1 r.2 6) q1.length (r.2 - 6)],I 1]) (fun r => .row 5 1 (.slice r.1 (q1.length+6) r.2) (q1.length+6) (Z1.map B)::H):=by
 refine spec_pure (res:=fun r:Option Addr × Nat=>[.row 5 1 (.slice r.1 (q1.length+6) r.2) (q1.length+6) (Z1.map B)]) H Tryz.func92 rfl Tryz.ntmps92 (by kernel_rfl) rfl (fun W=>?_)
 repeat' (first|intro _|refine cw ?_|refine cw2 ?_ ?_|refine ow ?_|refine ow2 ?_ ?_|fail)
 refine st_rounds 3 ?_
 repeat' (first|intro _|refine cw ?_|refine cw2 ?_ ?_|(refine k_fn 146 ?_;first|refine o1_call (fun _=>cl_whole_no _ b ad c f 0 h.up (by decide) hd h0) rfl (fun _ _=>?_)|(refine o1_call (fun _=>cl_whole _ b ad c f 1 k1 q1 Z1 h.up (by decide) hd h1 hZ1) rfl (fun ⟨a1,c1⟩ _=>?_);(try dsimp only)))|refine ow ?_|refine ow2 ?_ ?_|fail)
 refine rt_cell_tmp (a1,c1) rfl rfl rfl rfl rfl trivial ?_
 exact ent
set_option maxHeartbeats 4000000 in
theorem cl_found_01 (H:List Hl) (b:Nat) (ad:Option Addr) (c:Nat) (f:Fl) (k0:BitVec 32) (q0 Z0:List (BitVec 8)) (k1:BitVec 32) (q1 Z1:List (BitVec 8)) (h:RdFl (stars H) b ad c f) (hd:f.pw.isDown=false) (h0:copyAt f.bs 0=some (k0,q0)) (hZ0:(seg f.bs (0*256) 256).take (q0.length+6)=Z0) (h1:copyAt f.bs 1=some (k1,q1)) (hZ1:(seg f.bs (1*256) 256).take (q1.length+6)=Z1) (hlt : ¬ k0.toNat<k1.toNat) :
  Spec Tryz.prog 92 [.pointer (some ⟨b,0,none⟩)] H (fun _:Option Addr × Nat=>True) (fun r => .tuple #[.agg #[W4 k0,.slice (cutA r.1 r.2 6) q0.length (r.2 - 6)],I 0]) (fun r => .row 5 1 (.slice r.1 (q0.length+6) r.2) (q0.length+6) (Z0.map B)::H):=by
 refine spec_pure (res:=fun r:Option Addr × Nat=>[.row 5 1 (.slice r.1 (q0.length+6) r.2) (q0.length+6) (Z0.map B)]) H Tryz.func92 rfl Tryz.ntmps92 (by kernel_rfl) rfl (fun W=>?_)
 repeat' (first|intro _|refine cw ?_|refine cw2 ?_ ?_|refine ow ?_|refine ow2 ?_ ?_|fail)
 refine st_rounds 3 ?_
 repeat' (first|intro _|refine cw ?_|refine cw2 ?_ ?_|(refine k_fn 146 ?_;first|(refine o1_call (fun _=>cl_whole _ b ad c f 0 k0 q0 Z0 h.up (by decide) hd h0 hZ0) rfl (fun ⟨a0,c0⟩ _=>?_);(try dsimp only))|(refine o1_call (fun _=>cl_whole _ b ad c f 1 k1 q1 Z1 h.up (by decide) hd h1 hZ1) rfl (fun ⟨a1,c1⟩ _=>?_);(try dsimp only)))|(refine k_binOp .gtr ?_;refine o1_gtr_f rfl rfl (by omega) ?_)|refine ow ?_|refine ow2 ?_ ?_|fail)
 refine rt_cell_tmp (a0,c0) rfl rfl rfl rfl rfl trivial ?_
 exact ent
set_option maxHeartbeats 4000000 in
theorem cl_found_10 (H:List Hl) (b:Nat) (ad:Option Addr) (c:Nat) (f:Fl) (k0:BitVec 32) (q0 Z0:List (BitVec 8)) (k1:BitVec 32) (q1 Z1:List (BitVec 8)) (h:RdFl (stars H) b ad c f) (hd:f.pw.isDown=false) (h0:copyAt f.bs 0=some (k0,q0)) (hZ0:(seg f.bs (0*256) 256).take (q0.length+6)=Z0) (h1:copyAt f.bs 1=some (k1,q1)) (hZ1:(seg f.bs (1*256) 256).take (q1.length+6)=Z1) (hlt:k0.toNat<k1.toNat) :
  Spec Tryz.prog 92 [.pointer (some ⟨b,0,none⟩)] H (fun _:Option Addr × Nat=>True) (fun r => .tuple #[.agg #[W4 k1,.slice (cutA r.1 r.2 6) q1.length (r.2 - 6)],I 1]) (fun r => .row 5 1 (.slice r.1 (q1.length+6) r.2) (q1.length+6) (Z1.map B)::H):=by
 refine spec_pure (res:=fun r:Option Addr × Nat=>[.row 5 1 (.slice r.1 (q1.length+6) r.2) (q1.length+6) (Z1.map B)]) H Tryz.func92 rfl Tryz.ntmps92 (by kernel_rfl) rfl (fun W=>?_)
 repeat' (first|intro _|refine cw ?_|refine cw2 ?_ ?_|refine ow ?_|refine ow2 ?_ ?_|fail)
 refine st_rounds 3 ?_
 repeat' (first|intro _|refine cw ?_|refine cw2 ?_ ?_|(refine k_fn 146 ?_;first|(refine o1_call (fun _=>cl_whole _ b ad c f 0 k0 q0 Z0 h.up (by decide) hd h0 hZ0) rfl (fun ⟨a0,c0⟩ _=>?_);(try dsimp only))|(refine o1_call (fun _=>cl_whole _ b ad c f 1 k1 q1 Z1 h.up (by decide) hd h1 hZ1) rfl (fun ⟨a1,c1⟩ _=>?_);(try dsimp only)))|(refine k_binOp .gtr ?_;refine o1_gtr_t rfl rfl (by omega) ?_)|refine ow ?_|refine ow2 ?_ ?_|fail)
 refine rt_cell_tmp (a1,c1) rfl rfl rfl rfl rfl trivial ?_
 exact ent
theorem foundC_copy {l:List (BitVec 8)} {k:BitVec 32} {q:List (BitVec 8)} {w:Nat} (h:foundC l=some ((k,q),w)):copyAt l w=some (k,q)∧w<2:=by
 unfold foundC at h
 cases h0:copyAt l 0 with
 | none =>
  cases h1:copyAt l 1 with
  | none=>rw [h0,h1] at h;cases h
  | some b =>
   rw [h0,h1] at h
   obtain ⟨e1,e2⟩:=Prod.mk.inj (Option.some.inj h)
   subst e1 e2
   exact ⟨h1,by decide⟩
 | some a =>
  cases h1:copyAt l 1 with
  | none =>
   rw [h0,h1] at h
   obtain ⟨e1,e2⟩:=Prod.mk.inj (Option.some.inj h)
   subst e1 e2
   exact ⟨h0,by decide⟩
  | some b =>
   rw [h0,h1] at h
   dsimp only at h
   split at h
   ·obtain ⟨e1,e2⟩:=Prod.mk.inj (Option.some.inj h)
    subst e1 e2
    exact ⟨h1,by decide⟩
   ·obtain ⟨e1,e2⟩:=Prod.mk.inj (Option.some.inj h)
    subst e1 e2
    exact ⟨h0,by decide⟩
theorem cl_found (H:List Hl) (b:Nat) (ad:Option Addr) (c:Nat) (f:Fl) (k:BitVec 32) (q Z:List (BitVec 8)) (w:Nat) (h:RdFl (stars H) b ad c f) (hd:f.pw.isDown=false) (hf:foundC f.bs=some ((k,q),w)) (hZ:(seg f.bs (w*256) 256).take (q.length+6)=Z) :
  Spec Tryz.prog 92 [.pointer (some ⟨b,0,none⟩)] H (fun _:Option Addr × Nat=>True) (fun r => .tuple #[.agg #[W4 k,.slice (cutA r.1 r.2 6) q.length (r.2 - 6)],I w]) (fun r => .row 5 1 (.slice r.1 (q.length+6) r.2) (q.length+6) (Z.map B)::H):=by
 have hf0:=hf
 unfold foundC at hf
 cases h0:copyAt f.bs 0 with
 | none =>
  cases h1:copyAt f.bs 1 with
  | none=>rw [h0,h1] at hf;cases hf
  | some x =>
   rw [h0,h1] at hf
   obtain ⟨e1,e2⟩:=Prod.mk.inj (Option.some.inj hf)
   subst e1 e2
   exact cl_found_1 H b ad c f k q Z h hd h0 h1 hZ
 | some x =>
  cases h1:copyAt f.bs 1 with
  | none =>
   rw [h0,h1] at hf
   obtain ⟨e1,e2⟩:=Prod.mk.inj (Option.some.inj hf)
   subst e1 e2
   exact cl_found_0 H b ad c f k q Z h hd h0 hZ h1
  | some y =>
   rw [h0,h1] at hf
   dsimp only at hf
   obtain ⟨x1,x2⟩:=x
   obtain ⟨y1,y2⟩:=y
   split at hf
   ·rename_i hlt
    obtain ⟨e1,e2⟩:=Prod.mk.inj (Option.some.inj hf)
    obtain ⟨e3,e4⟩:=Prod.mk.inj e1
    subst e2 e3 e4
    exact cl_found_10 H b ad c f x1 x2 _ y1 y2 Z h hd h0 rfl h1 hZ hlt
   ·rename_i hlt
    obtain ⟨e1,e2⟩:=Prod.mk.inj (Option.some.inj hf)
    obtain ⟨e3,e4⟩:=Prod.mk.inj e1
    subst e2 e3 e4
    exact cl_found_01 H b ad c f x1 x2 Z y1 y2 _ h hd h0 hZ h1 rfl hlt
set_option maxHeartbeats 1000000 in
theorem cl_Read (H:List Hl) (b:Nat) (ad:Option Addr) (c:Nat) (f:Fl) (k:BitVec 32) (q Z:List (BitVec 8)) (w:Nat) (h:RdFl (stars H) b ad c f) (hd:f.pw.isDown=false) (hf:foundC f.bs=some ((k,q),w)) (hZ:(seg f.bs (w*256) 256).take (q.length+6)=Z) :
  Spec Tryz.prog 46 [.pointer (some ⟨b,0,none⟩)] H (fun _:Option Addr × Nat=>True) (fun r => .tuple #[.slice (cutA r.1 r.2 6) q.length (r.2 - 6),I 0]) (fun r => .row 5 1 (.slice r.1 (q.length+6) r.2) (q.length+6) (Z.map B)::H):=by
 refine spec_pure (res:=fun r:Option Addr × Nat=>[.row 5 1 (.slice r.1 (q.length+6) r.2) (q.length+6) (Z.map B)]) H Tryz.func46 rfl Tryz.ntmps46 (by kernel_rfl) rfl (fun W=>?_)
 obtain ⟨_,hw2⟩:=foundC_copy hf
 repeat' (first|intro _|refine cw ?_|refine cw2 ?_ ?_|(refine k_fn 91 ?_;(refine o1_call (fun _=>cl_ready _ b ad c f h.up) rfl (fun _ _=>?_);rw [hd,if_neg (by decide)]))|(refine k_fn 92 ?_;(refine o1_call (fun _=>cl_found _ b ad c f k q Z w h.up hd hf hZ) rfl (fun ⟨a5,c5⟩ _=>?_);(try dsimp only)))|refine ow ?_|refine ow2 ?_ ?_|fail)
 refine rt_tmp2 (a5,c5) rfl rfl rfl rfl trivial ?_
 exact ent
def rtD14_0:List Row:=[⟨some 11,[],[],none⟩,⟨some 12,[0],[0],none⟩,⟨some 13,[1],[0,1],none⟩,⟨some 14,[2],[0,1,2],none⟩,⟨some 15,[],[],none⟩,⟨some 16,[],[],none⟩,⟨some 17,[4,5],[4,5],none⟩,⟨some 18,[],[],none⟩,⟨some 19,[7,6],[4,5,6,7],none⟩,⟨some 20,[3,6,8,8],[0,1,2,3,4,5,6,7,8],none⟩,⟨some 10,[9],[0,1,2,3,4,5,6,7,8,9],none⟩,⟨some 21,[10],[0,1,2,3,4,5,6,7,8,9,10],none⟩,⟨some 22,[10],[0,1,2,3,4,5,6,7,8,9,10],none⟩,⟨some 6,[11,9,0,1,2,3,4,5,6,7,8,9,10,11],[0,1,2,3,4,5,6,7,8,9,10,11],none⟩,⟨some 7,[12,13,0,1,2,3,4,5,6,7,8,9,10,11,12,13],[0,1,2,3,4,5,6,7,8,9,10,11,12,13],none⟩]
def rtD14_1:List Row:=[⟨some 44,[],[],none⟩,⟨some 45,[0],[0],none⟩,⟨some 46,[1],[0,1],none⟩,⟨some 47,[2],[0,1,2],some (2,false)⟩,⟨some 48,[3,2,2],[0,1,2,3],some (2,false)⟩,⟨some 49,[2],[0,1,2],some (2,false)⟩,⟨some 50,[5,2],[0,1,2,5],some (2,false)⟩,⟨some 51,[6,2],[0,1,2,5,6],some (2,false)⟩,⟨some 52,[7,2],[0,1,2,5,6,7],some (2,false)⟩,⟨some 53,[4,8,2],[0,1,2,3,4,5,6,7,8],some (2,false)⟩,⟨some 54,[2,9],[0,1,2,3,4,5,6,7,8,9],none⟩]
def rtD14_2:List Row:=[⟨some 44,[],[],none⟩,⟨some 45,[0],[0],none⟩,⟨some 46,[1],[0,1],none⟩,⟨some 47,[2],[0,1,2],some (2,false)⟩,⟨some 48,[3,2,2],[0,1,2,3],some (2,false)⟩,⟨some 49,[2],[0,1,2],some (2,false)⟩,⟨some 50,[5,2],[0,1,2,5],some (2,false)⟩,⟨some 51,[6,2],[0,1,2,5,6],some (2,false)⟩,⟨some 52,[7,2],[0,1,2,5,6,7],some (2,false)⟩,⟨some 53,[4,8,2],[0,1,2,3,4,5,6,7,8],some (2,false)⟩,⟨some 54,[2,9],[0,1,2,3,4,5,6,7,8,9],none⟩]
def rtD14_3:List Row:=[⟨some 11,[],[],none⟩,⟨some 12,[0],[0],none⟩,⟨some 13,[1],[0,1],none⟩,⟨some 14,[2],[0,1,2],none⟩,⟨some 15,[],[],none⟩,⟨some 16,[],[],none⟩,⟨some 17,[4,5],[4,5],none⟩,⟨some 18,[],[],none⟩,⟨some 19,[7,6],[4,5,6,7],none⟩,⟨some 20,[3,6,8,8],[0,1,2,3,4,5,6,7,8],none⟩,⟨some 10,[9],[0,1,2,3,4,5,6,7,8,9],none⟩,⟨some 21,[10],[0,1,2,3,4,5,6,7,8,9,10],none⟩,⟨some 22,[10],[0,1,2,3,4,5,6,7,8,9,10],none⟩,⟨some 6,[11,9,0,1,2,3,4,5,6,7,8,9,10,11],[0,1,2,3,4,5,6,7,8,9,10,11],none⟩,⟨some 7,[12,13,0,1,2,3,4,5,6,7,8,9,10,11,12,13],[0,1,2,3,4,5,6,7,8,9,10,11,12,13],none⟩]
def rtD14_4:List Row:=[⟨some 44,[],[],none⟩,⟨some 45,[0],[0],none⟩,⟨some 46,[1],[0,1],none⟩,⟨some 47,[2],[0,1,2],some (2,false)⟩,⟨some 48,[3,2,2],[0,1,2,3],some (2,false)⟩,⟨some 49,[2],[0,1,2],some (2,false)⟩,⟨some 50,[5,2],[0,1,2,5],some (2,false)⟩,⟨some 51,[6,2],[0,1,2,5,6],some (2,false)⟩,⟨some 52,[7,2],[0,1,2,5,6,7],some (2,false)⟩,⟨some 53,[4,8,2],[0,1,2,3,4,5,6,7,8],some (2,false)⟩,⟨some 54,[2,9],[0,1,2,3,4,5,6,7,8,9],none⟩]
def rtD14_5:List Row:=[⟨some 56,[],[],none⟩,⟨some 57,[0],[0],none⟩,⟨some 58,[1],[0,1],none⟩,⟨some 59,[],[],none⟩,⟨some 60,[3],[3],none⟩,⟨some 61,[2,4],[0,1,2,3,4],none⟩,⟨none,[5,2,0,1,2,3,4,5],[0,1,2,3,4,5],none⟩,⟨some 5,[6,0,1,2,3,4,5,6],[0,1,2,3,4,5,6],none⟩]
set_option maxHeartbeats 4000000 in
theorem wh_whole_no (H:List Hl) (wb fb:Nat) (g:BitVec 32) (z:Nat) (ad:Option Addr) (c:Nat) (f:Fl) (p:Nat) (h:RdWh (stars H) wb fb g z) (hf:RdFl (stars H) fb ad c f) (hp:p<8*plW z) (hd:f.pw.isDown=false) (hw:recAt f.bs g z p=none) :
  Spec Tryz.prog 213 [.pointer (some ⟨wb,0,none⟩),I p] H (fun _:Unit=>True) (fun _ => .tuple #[cpZ,.bool false]) (fun _=>H):=by
 refine spec_pure (res:=fun _=>[]) H Tryz.func213 rfl Tryz.ntmps213 (by kernel_rfl) rfl (fun W=>?_)
 have hl:=hf.l
 have z1:=h.z1
 have z2:=h.z2
 have hwf:=h.f
 have hwg:=h.gc
 obtain ⟨ab1,ab2⟩:=at_bounds z1 z2 hp
 unfold recAt at hw
 obtain ⟨a,ha⟩:∃ a,atW z p=a:=⟨_,rfl⟩
 rw [ha] at hw ab1 ab2
 obtain ⟨S,hS⟩:∃ S,seg f.bs a (z+13)=S:=⟨_,rfl⟩
 have hSl:S.length=z+13:=by rw [←hS];exact seg_len (by omega)
 rw [hS] at hw
 obtain ⟨y,hy⟩:∃ y,S[z+12]?=some y:=⟨_,List.getElem?_eq_getElem (by omega)⟩
 have hyd:S.getD (z+12) 0#8=y:=by rw [List.getD_eq_getElem?_getD,hy];rfl
 unfold recC at hw
 rw [hyd] at hw
 have hidx:((z+13:Nat):Int) - 1=((z+12:Nat):Int):=by omega
 repeat' (first|intro _|refine cw ?_|refine cw2 ?_ ?_|refine ow ?_|refine ow2 ?_ ?_|fail)
 refine st_stages' [(0,_),(1,_)] rtD14_0 [6,8,9] [⟨[0,1,2,3,4,5,7],[],some 6⟩,⟨[],[0,1,2,3,7],some 8⟩,⟨[],[0,1,2,3],some 9⟩,⟨[10,11,12,13,14],[],none⟩] mixed cv (by kernel_rfl) (by kernel_rfl) ?_
 repeat' (first|intro _|refine sg ?_|(refine p_load ?_;refine po (by first|refine ox_load_any rfl hwf fz|fail) ?_)|refine pw ?_|refine pdd ?_|(refine k_fn 167 ?_;(refine o1_call (fun _=>wh_at _ wb z p (cl_up h.zc) z1 z2 hp) rfl (fun _ _=>?_);rw [ha]))|(refine k_fn 195 ?_;refine o1_call (fun _=>wh_wide _ wb z (cl_up h.zc) z2) rfl (fun _ _=>?_))|(refine k_fn 98 ?_;(refine o1_call (fun _=>fl_Read _ fb ad c f a (z+13) hf.up (by omega) hd) rfl (fun ⟨a6,c6⟩ _=>?_);(try dsimp only);rw [hS]))|refine ow ?_|fail)
 all_goals dsimp only [List.cons_append,List.nil_append]
 by_cases h2:y=0#8
 ·subst h2
  rw [if_neg (by simp)] at hw
  obtain ⟨Q,hQ⟩:∃ Q,S.take (z+12)=Q:=⟨_,rfl⟩
  have hQl:Q.length=z+12:=by rw [←hQ,List.length_take];omega
  rw [hQ] at hw
  have hQ4:Q.length - 4=z+8:=by omega
  obtain ⟨Z,hQZ⟩:∃ Z,Q.take (z+8)=Z:=⟨_,rfl⟩
  have hZl:Z.length=z+8:=by rw [←hQZ,List.length_take];omega
  have hZ4:Z.take 4=S.take 4:=by rw [←hQZ,←hQ,List.take_take,List.take_take] <;> (congr 1 <;> omega)
  obtain ⟨k,hk⟩:∃ k,num32 (S.take 4)=k:=⟨_,rfl⟩
  rw [hk] at hw
  cases hc:crcOk Q
  ·repeat' (first|intro _|refine cw ?_|refine cw2 ?_ ?_|(refine k_fn 195 ?_;refine o1_call (fun _=>wh_wide _ wb z (cl_up h.zc) z2) rfl (fun _ _=>?_))|(refine k_binOp .sub ?_;(refine o1_sub rfl rfl (by omega) ?_;rw [hidx]))|(refine k_indexAddr ?_;refine o1_iah (enc:=B) (ad:=a6) (c:=c6) (xs:=S) (z+12) rfl rfl rx_row hSl.symm rfl (by omega) ?_)|(refine k_load ?_;refine o1_load_hv (enc:=B) (ad:=a6) (c:=c6) (xs:=S) (z+12) 0#8 rfl rx_row hy ?_)|(refine k_binOp .neq ?_;refine o1_neq_f rfl rfl rfl ?_)|(refine k_slice ?_;(refine ox_cs_hr (enc:=B) (xs:=S) (z+12) rfl rfl rfl hSl.symm (by omega) ?_;rw [hQ]))|(refine k_fn 72 ?_;refine o1_call (fun hh=>crc_Right_no _ (cutA a6 c6 0) Q.length (c6 - 0) Q (rx_cuth (l:=S) (enc:=B) (z+12) (by omega) hQ hh) rfl (by omega) hc) rfl (fun _ _=>?_))|refine ow ?_|refine ow2 ?_ ?_|fail)
   refine st_stages' [(9,_),(8,_),(0,_)] rtD14_1 [4] [⟨[0,1,2,3,5,6,7,8],[],some 4⟩,⟨[9,10],[5,6,7,8],none⟩] mixed cv (by kernel_rfl) (by kernel_rfl) ?_
   repeat' (first|intro _|refine sg ?_|refine pw ?_|refine pdd ?_|refine ow ?_|fail)
   all_goals dsimp only [List.cons_append,List.nil_append]
   repeat' (first|intro _|refine cw ?_|refine cw2 ?_ ?_|refine ow ?_|refine ow2 ?_ ?_|fail)
   refine rt_cell_tmp () rfl rfl rfl rfl rfl trivial ?_
   exact ent
  ·have hkg:k≠g:=fun e=>by
    rw [hc,if_neg (by simp),if_neg (by simpa using e)] at hw
    cases hw
   have hkg2:(k.toNat:Int)≠g.toNat:=fun e=>hkg (BitVec.eq_of_toNat_eq (by omega))
   repeat' (first|intro _|refine cw ?_|refine cw2 ?_ ?_|(refine k_fn 195 ?_;refine o1_call (fun _=>wh_wide _ wb z (cl_up h.zc) z2) rfl (fun _ _=>?_))|(refine k_binOp .sub ?_;(refine o1_sub rfl rfl (by omega) ?_;rw [hidx]))|(refine k_indexAddr ?_;refine o1_iah (enc:=B) (ad:=a6) (c:=c6) (xs:=S) (z+12) rfl rfl rx_row hSl.symm rfl (by omega) ?_)|(refine k_load ?_;refine o1_load_hv (enc:=B) (ad:=a6) (c:=c6) (xs:=S) (z+12) 0#8 rfl rx_row hy ?_)|(refine k_binOp .neq ?_;refine o1_neq_f rfl rfl rfl ?_)|(refine k_slice ?_;(refine ox_cs_hr (enc:=B) (xs:=S) (z+12) rfl rfl rfl hSl.symm (by omega) ?_;rw [hQ]))|(refine k_fn 72 ?_;(refine o1_call (fun hh=>crc_Right _ (cutA a6 c6 0) Q.length (c6 - 0) Q (rx_cuth (l:=S) (enc:=B) (z+12) (by omega) hQ hh) rfl (by omega) hc) rfl (fun ⟨a41,c41⟩ _=>?_);(try dsimp only);rw [hQ4,hQZ]))|refine ow ?_|refine ow2 ?_ ?_|fail)
   refine st_stages' [(9,_),(8,_),(0,_)] rtD14_2 [4] [⟨[0,1,2,3,5,6,7,8],[],some 4⟩,⟨[9,10],[5,6,7,8],none⟩] mixed cv (by kernel_rfl) (by kernel_rfl) ?_
   repeat' (first|intro _|refine sg ?_|(refine p_load ?_;refine po (by first|refine ox_load_any rfl hwg fz|fail) ?_)|(refine p_binOp .neq ?_;refine po (by first|refine o1_neq_t rfl rfl hkg2 fz|fail) ?_)|refine pw ?_|refine pdd ?_|(refine k_fn 233 ?_;refine o1_call (fun hh=>wh_number _ a41 (z+8) c41 Z k (rx_row hh) hZl.symm (by omega) (by rw [hZ4,hk])) rfl (fun _ _=>?_))|refine ow ?_|fail)
   all_goals dsimp only [List.cons_append,List.nil_append]
   repeat' (first|intro _|refine cw ?_|refine cw2 ?_ ?_|refine ow ?_|refine ow2 ?_ ?_|fail)
   refine rt_cell_tmp () rfl rfl rfl rfl rfl trivial ?_
   exact ent
 ·have hy0:(y.toNat:Int)≠0:=fun e=>h2 (BitVec.eq_of_toNat_eq (by show y.toNat=0;omega))
  repeat' (first|intro _|refine cw ?_|refine cw2 ?_ ?_|(refine k_fn 195 ?_;refine o1_call (fun _=>wh_wide _ wb z (cl_up h.zc) z2) rfl (fun _ _=>?_))|(refine k_binOp .sub ?_;(refine o1_sub rfl rfl (by omega) ?_;rw [hidx]))|(refine k_indexAddr ?_;refine o1_iah (enc:=B) (ad:=a6) (c:=c6) (xs:=S) (z+12) rfl rfl rx_row hSl.symm rfl (by omega) ?_)|(refine k_load ?_;refine o1_load_hv (enc:=B) (ad:=a6) (c:=c6) (xs:=S) (z+12) y rfl rx_row hy ?_)|(refine k_binOp .neq ?_;refine o1_neq_t rfl rfl hy0 ?_)|refine ow ?_|refine ow2 ?_ ?_|fail)
  refine rt_cell_tmp () rfl rfl rfl rfl rfl trivial ?_
  exact ent
set_option maxHeartbeats 4000000 in
theorem wh_whole (H:List Hl) (wb fb:Nat) (g:BitVec 32) (z:Nat) (ad:Option Addr) (c:Nat) (f:Fl) (p:Nat) (id:BitVec 32) (d Z:List (BitVec 8)) (h:RdWh (stars H) wb fb g z) (hf:RdFl (stars H) fb ad c f) (hp:p<8*plW z) (hd:f.pw.isDown=false) (hw:recAt f.bs g z p=some (id,d)) (hZ:seg f.bs (atW z p) (z+8)=Z) :
  Spec Tryz.prog 213 [.pointer (some ⟨wb,0,none⟩),I p] H (fun _:Option Addr × Nat=>True) (fun r => .tuple #[.agg #[W4 id,.slice (cutA r.1 r.2 8) z (r.2 - 8)],.bool true]) (fun r => .row 5 1 (.slice r.1 (z+8) r.2) (z+8) (Z.map B)::H):=by
 refine spec_pure (res:=fun r:Option Addr × Nat=>[.row 5 1 (.slice r.1 (z+8) r.2) (z+8) (Z.map B)]) H Tryz.func213 rfl Tryz.ntmps213 (by kernel_rfl) rfl (fun W=>?_)
 have hl:=hf.l
 have z1:=h.z1
 have z2:=h.z2
 have hwf:=h.f
 have hwg:=h.gc
 obtain ⟨ab1,ab2⟩:=at_bounds z1 z2 hp
 unfold recAt at hw
 obtain ⟨a,ha⟩:∃ a,atW z p=a:=⟨_,rfl⟩
 rw [ha] at hw ab1 ab2 hZ
 obtain ⟨S,hS⟩:∃ S,seg f.bs a (z+13)=S:=⟨_,rfl⟩
 have hSl:S.length=z+13:=by rw [←hS];exact seg_len (by omega)
 rw [hS] at hw
 obtain ⟨y,hy⟩:∃ y,S[z+12]?=some y:=⟨_,List.getElem?_eq_getElem (by omega)⟩
 have hyd:S.getD (z+12) 0#8=y:=by rw [List.getD_eq_getElem?_getD,hy];rfl
 unfold recC at hw
 rw [hyd] at hw
 have hidx:((z+13:Nat):Int) - 1=((z+12:Nat):Int):=by omega
 by_cases h2 : ¬ y=0#8
 ·rw [if_pos (by simpa using h2)] at hw;cases hw
 have h2:y=0#8:=Decidable.not_not.1 h2
 subst h2
 rw [if_neg (by simp)] at hw
 obtain ⟨Q,hQ⟩:∃ Q,S.take (z+12)=Q:=⟨_,rfl⟩
 have hQl:Q.length=z+12:=by rw [←hQ,List.length_take];omega
 rw [hQ] at hw
 have hQ4:Q.length - 4=z+8:=by omega
 have hSZ:S.take (z+8)=Z:=by rw [←hZ,←hS];simp only [seg,List.take_take] <;> (congr 1 <;> omega)
 have hQZ:Q.take (z+8)=Z:=by rw [←hQ,List.take_take,Nat.min_eq_left (by omega),hSZ]
 have hZl:Z.length=z+8:=by rw [←hQZ,List.length_take];omega
 have hZ4:Z.take 4=S.take 4:=by rw [←hSZ,List.take_take] <;> (congr 1 <;> omega)
 obtain ⟨k,hk⟩:∃ k,num32 (S.take 4)=k:=⟨_,rfl⟩
 rw [hk] at hw
 cases hc:crcOk Q
 ·rw [hc] at hw;simp at hw
 rw [hc,if_neg (by simp)] at hw
 by_cases hkg : ¬ k=g
 ·rw [if_pos hkg] at hw;cases hw
 have hkg:k=g:=Decidable.not_not.1 hkg
 subst hkg
 rw [if_neg (by simp)] at hw
 obtain ⟨e1,e2⟩:=Prod.mk.inj (Option.some.inj hw)
 have hZ8:(Z.drop 4).take 4=seg S 4 4:=by rw [←hSZ,List.drop_take,List.take_take];unfold seg;congr 1 <;> omega
 obtain ⟨Z4,hZ4e⟩:∃ Z4,Z.drop 4=Z4:=⟨_,rfl⟩
 have hZ4l:Z4.length=z+4:=by rw [←hZ4e,List.length_drop];omega
 have hZ44:num32 (Z4.take 4)=id:=by rw [←hZ4e,hZ8,e1]
 have hZd:(Z.drop 8).length=z:=by rw [List.length_drop];omega
 repeat' (first|intro _|refine cw ?_|refine cw2 ?_ ?_|refine ow ?_|refine ow2 ?_ ?_|fail)
 refine st_stages' [(0,_),(1,_)] rtD14_3 [6,8,9] [⟨[0,1,2,3,4,5,7],[],some 6⟩,⟨[],[0,1,2,3,7],some 8⟩,⟨[],[0,1,2,3],some 9⟩,⟨[10,11,12,13,14],[],none⟩] mixed cv (by kernel_rfl) (by kernel_rfl) ?_
 repeat' (first|intro _|refine sg ?_|(refine p_load ?_;refine po (by first|refine ox_load_any rfl hwf fz|fail) ?_)|refine pw ?_|refine pdd ?_|(refine k_fn 167 ?_;(refine o1_call (fun _=>wh_at _ wb z p (cl_up h.zc) z1 z2 hp) rfl (fun _ _=>?_);rw [ha]))|(refine k_fn 195 ?_;refine o1_call (fun _=>wh_wide _ wb z (cl_up h.zc) z2) rfl (fun _ _=>?_))|(refine k_fn 98 ?_;(refine o1_call (fun _=>fl_Read _ fb ad c f a (z+13) hf.up (by omega) hd) rfl (fun ⟨a6,c6⟩ _=>?_);(try dsimp only);rw [hS]))|refine ow ?_|fail)
 all_goals dsimp only [List.cons_append,List.nil_append]
 repeat' (first|intro _|refine cw ?_|refine cw2 ?_ ?_|(refine k_fn 195 ?_;refine o1_call (fun _=>wh_wide _ wb z (cl_up h.zc) z2) rfl (fun _ _=>?_))|(refine k_binOp .sub ?_;(refine o1_sub rfl rfl (by omega) ?_;rw [hidx]))|(refine k_indexAddr ?_;refine o1_iah (enc:=B) (ad:=a6) (c:=c6) (xs:=S) (z+12) rfl rfl rx_row hSl.symm rfl (by omega) ?_)|(refine k_load ?_;refine o1_load_hv (enc:=B) (ad:=a6) (c:=c6) (xs:=S) (z+12) 0#8 rfl rx_row hy ?_)|(refine k_binOp .neq ?_;refine o1_neq_f rfl rfl rfl ?_)|(refine k_slice ?_;(refine ox_cs_hr (enc:=B) (xs:=S) (z+12) rfl rfl rfl hSl.symm (by omega) ?_;rw [hQ]))|(refine k_fn 72 ?_;(refine o1_call (fun hh=>crc_Right _ (cutA a6 c6 0) Q.length (c6 - 0) Q (rx_cuth (l:=S) (enc:=B) (z+12) (by omega) hQ hh) rfl (by omega) hc) rfl (fun ⟨a41,c41⟩ _=>?_);(try dsimp only);rw [hQ4,hQZ]))|refine ow ?_|refine ow2 ?_ ?_|fail)
 refine st_stages' [(9,_),(8,_),(0,_)] rtD14_4 [4] [⟨[0,1,2,3,5,6,7,8],[],some 4⟩,⟨[9,10],[5,6,7,8],none⟩] mixed cv (by kernel_rfl) (by kernel_rfl) ?_
 repeat' (first|intro _|refine sg ?_|(refine p_load ?_;refine po (by first|refine ox_load_any rfl hwg fz|fail) ?_)|(refine p_binOp .neq ?_;refine po (by first|refine o1_neq_f rfl rfl rfl fz|fail) ?_)|refine pw ?_|refine pdd ?_|(refine k_fn 233 ?_;refine o1_call (fun hh=>wh_number _ a41 (z+8) c41 Z k (rx_row hh) hZl.symm (by omega) (by rw [hZ4,hk])) rfl (fun _ _=>?_))|refine ow ?_|fail)
 all_goals dsimp only [List.cons_append,List.nil_append]
 repeat' (first|intro _|refine cw ?_|refine cw2 ?_ ?_|refine ow ?_|refine ow2 ?_ ?_|fail)
 refine st_stages' [(8,_),(4,_)] rtD14_5 [2,6] [⟨[0,1,3,4],[],some 2⟩,⟨[5],[3,4],some 6⟩,⟨[7],[],none⟩] mixed cv (by kernel_rfl) (by kernel_rfl) ?_
 repeat' (first|intro _|refine sg ?_|(refine p_slice ?_;refine po (by first|((refine o1_cs_l (xs:=Z) 4 rfl rfl rfl hZl.symm (by omega) ?_;rw [hZ4e]);all_goals exact fz)|((refine o1_cs_l (xs:=Z) 8 rfl rfl rfl hZl.symm (by omega) ?_;rw [hZd]);all_goals exact fz)|fail) ?_)|refine pw ?_|refine pdd ?_|(refine k_fn 233 ?_;refine o1_call (fun hh=>wh_number _ (cutA a41 c41 4) Z4.length (c41 - 4) Z4 id (rx_cutl (l:=Z) (enc:=B) 4 (by omega) hZ4e hh) rfl (by omega) hZ44) rfl (fun _ _=>?_))|refine ow ?_|fail)
 all_goals dsimp only [List.cons_append,List.nil_append]
 repeat' (first|intro _|refine cw ?_|refine cw2 ?_ ?_|refine ow ?_|refine ow2 ?_ ?_|fail)
 refine rt_cell_tmp (a41,c41) rfl rfl rfl rfl rfl trivial ?_
 exact ent
end Go.Dp
