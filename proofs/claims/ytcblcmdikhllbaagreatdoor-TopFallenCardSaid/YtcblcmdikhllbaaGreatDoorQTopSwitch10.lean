/-
  MakeNoZero; the builtin copy into a part of a box; a box that holds more than what is read.
  code.Head: pieces, Symbol, New, walked.
  code.Head: Symbol, walked.
  crc: Add, Sum, Put, Right, walked.
  frame: Wrap, Unwrap of what was wrapped, walked.
  slices.Grow, slices.Concat, the words of state and manifest, walked.
  manifest.Plain and Read, and the reference's, walked.
  Conditions: those that stand in each theorem.
-/
import Derived.Test.YtcblcmdikhllbaaGreatDoorQTopSwitch9
import Derived.Lib.MakeNoZero
import Derived.Test.YtcblcmdikhllbaaGreatDoorQTopSwitch3
import Derived.Test.YtcblcmdikhllbaaGreatDoorQTopSwitch5
import Derived.Test.YtcblcmdikhllbaaGreatDoorQTopSwitch6
import Derived.Test.YtcblcmdikhllbaaGreatDoorQTopSwitch4
import Derived.Test.YtcblcmdikhllbaaGreatDoorQTopSwitch2
set_option linter.unusedVariables false
set_option linter.unusedSimpArgs false
namespace Go.Dp
open Go.RowKit
theorem digits_B:∀ (n t:Nat) (acc:Array Value),∃ ys:List (BitVec 8),ys.length=n∧(Extern.BytealgMakeNoZero.digits n t acc).toList=acc.toList++ys.map B
 | 0,_,acc=>⟨[],rfl,by simp [Extern.BytealgMakeNoZero.digits]⟩
 | n+1,t,acc=>by
  obtain ⟨ys,h1,h2⟩:=digits_B n (t / 256) (acc.push (.int .u8 (Int.ofNat (t % 256))))
  refine ⟨BitVec.ofNat 8 t::ys,by simp [h1],?_⟩
  rw [Extern.BytealgMakeNoZero.digits,h2]
  simp only [Array.toList_push,List.append_assoc,List.singleton_append,List.map_cons]
  congr 3
theorem run_mkz {P:Program} (w:World) (ps:Array TypeId) (t e:TypeId) (ht:P.underlying t=some (.slice e)) (n:Nat) (hn:n≤281474976710656) :
  ∃ ys:List (BitVec 8),(Extern.BytealgMakeNoZero.makeNoZero ps #[t] #[.int .i64 n]).run P w = .ok (.slice (some ⟨w.heap.size,0,none⟩) n ys.length) (w.drew.drew.alloc (.cells (ys.map B).toArray e))∧n≤ys.length∧ys.length≤9223372036854775807:=by
 have hdef:Extern.BytealgMakeNoZero.makeNoZero ps #[t] #[.int .i64 n] =
   (do
    let .slice elem ← underlying t|stuck "bytealg.MakeNoZero: slice type expected"
    if (n:Int)<0 || (n:Int) > 2 ^ 48 then runtimePanic (.error "makeslice: len out of range")
    let cap ← choose (.appendCap (n:Int).toNat 0 elem)
    askRoom cap
    let bytes ← choose (.extern "internal/bytealg.MakeNoZero.bytes" 0)
    let a ← newRow elem (Extern.BytealgMakeNoZero.digits cap bytes #[])
    pure (.slice (some a) (n:Int).toNat cap)):=rfl
 obtain ⟨ys,h1,h2⟩:=digits_B (grownCap w n 0 e) ((Question.extern "internal/bytealg.MakeNoZero.bytes" 0).cut (w.tape (w.drawn+1) (.extern "internal/bytealg.MakeNoZero.bytes" 0))) #[]
 refine ⟨ys,?_,?_,?_⟩
 ·have he:(ys.map B).toArray=Extern.BytealgMakeNoZero.digits (grownCap w n 0 e) ((Question.extern "internal/bytealg.MakeNoZero.bytes" 0).cut (w.tape (w.drawn+1) (.extern "internal/bytealg.MakeNoZero.bytes" 0))) #[]:=by
   apply Array.toList_inj.1
   simp only [List.nil_append] at h2
   rw [h2]
  rw [hdef,he,h1]
  have h3 : ¬ (n:Int)<0:=by omega
  have h4 : ¬ (281474976710656:Int)<(n:Int):=by omega
  simp [run_underlying ht,h3,h4,Question.forced,newRow,grownCap]
 ·rw [h1]
  exact grownCap_ge w n 0 e
 ·rw [h1]
  exact grownCap_le_maxLen w n 0 e (by show n≤9223372036854775807;omega)
section
variable {P:Program} {n:Nat} {H:List Hl} {e:Ev} {C:Value→List Hl→Prop} {ty:TypeId} {x y:Operand}
theorem o1_mkz {f:FuncId} {xs:List Operand} {ats:Array TypeId} {ps:Array TypeId} {t E:TypeId} {k:Nat} (xf:XFn P f (Extern.BytealgMakeNoZero.makeNoZero ps #[t])) [ht:TSl P t E] (hk:k≤281474976710656) (hxs:opds e xs=some [.int .i64 k])
  (h:∀ b (zs:List (BitVec 8)),k≤zs.length→zs.length≤9223372036854775807→C (.slice (some ⟨b,0,none⟩) k zs.length) (.box b E (zs.map B)::H)):O1 P (.call ⟨.value (.func f),xs.toArray,ats⟩) ty n e H C :=
 o1_step fun a w ho=>by
  obtain ⟨fn,h1,h2,h3,h4,h5⟩:=xf.of
  obtain ⟨ys,hr,hl,hm⟩:=run_mkz (P:=P) w ps t E ht.u k hk
  have hargs:=ho.ev.evals hxs
  exact ⟨_,w.drew.drew.alloc (.cells (ys.map B).toArray E),by simp [execOp,resolve,invoke,Deferred.ofValue,Act.eval,hargs,run_callFunc_extern h1 h2 h3 h4 h5,hr,Result.andThen],_,h w.heap.size ys hl hm,(((Ext.refl w).drew).drew).alloc _,ho.sat.drew.drew.alloc E (ys.map B)⟩
theorem rx_boxk {α:Type} {H':List Hl} {T:TypeId} {enc:α→Value} {b c:Nat} {l xs:List α} [s:SBox H b T (l.map enc) H'] (k:Nat) (hk:k≤l.length) (hl:l.take k=xs) (hc:k≤c) (hb:c≤9223372036854775807):RsH H enc (some ⟨b,0,none⟩) c xs:=fun hh=>by
 subst hl
 refine ⟨by simp;omega,hb,fun _=>⟨_,rfl⟩,fun w hw a ha i x hx=>?_⟩
 obtain rfl:=Option.some.inj ha
 rw [List.getElem?_take] at hx
 split at hx
 ·have hv:(l.map enc)[i]?=some (enc x):=by rw [List.getElem?_map,hx];rfl
  have:=(cl_box (H:=H) (b:=b) hv).cell w hw
  rw [show Addr.add ⟨b,0,none⟩ i=⟨b,i,none⟩ by by_cases h0:i=0 <;> simp [Addr.add,h0]]
  exact this
 ·cases hx
theorem putL_at {α:Type} (enc:α→Value) (xs ys:List α) (o:Nat) (h:o+ys.length≤xs.length):putL (xs.map enc) o (ys.map enc)=(xs.take o++(ys++xs.drop (o+ys.length))).map enc:=by
 have:=putL_map enc ys (xs.drop o) (xs.take o) (by simp;omega)
 rw [List.take_append_drop,List.length_take,Nat.min_eq_left (by omega),List.drop_drop] at this
 exact this
theorem ox_copy_at {α:Type} {enc:α→Value} {T T2 E:TypeId} {z:Value} {by_:Nat} {b o m0 l0 c0 c:Nat} {ad:Option Addr} {xs ys:List α} {H':List Hl} [ht:TSl P T E] [hi:TInf P E z 1 by_] (hx:opd e x=some (.slice (some ⟨b,o,none⟩) m0 c0)) (hy:opd e y=some (.slice ad l0 c))
  [s:SBox H b E (xs.map enc) H'] (hm:o+m0≤xs.length) (hr:RsH H enc ad c ys) (hl:l0=ys.length) (henc:∀ x,(enc x).oneCell'=true)
  (h:C (.int .i64 (min ys.length m0:Nat)) (.box b E ((xs.take o++(ys.take m0++xs.drop (o+min ys.length m0))).map enc)::H')):O1 P (.call ⟨.builtin .copy, #[x,y], #[T,T2]⟩) ty n e H C :=
 o1_step fun a w ho=>by
  subst hl
  obtain ⟨i,hi0,hiz,his,hib⟩:=hi.info
  have hr:=hr ho.has
  cases ad with
  | none =>
   have hn:ys=[]:=by
    rcases ys with _|⟨q,ys⟩
    ·rfl
    ·obtain ⟨a,ha⟩:=hr.sm (by simp);cases ha
   subst hn
   refine ⟨_,w,?_,_,h,.refl w,?_⟩
   ·simp [execOp,resolve,invoke,builtin,ho.ev.eval hx,ho.ev.eval hy,Builtin.copy_,run_underlying ht.u,Builtin.lenOf,Builtin.firstCells,sizeOf,typeInfo,hi0,storeCells,goInt]
   ·simpa using sat_front ho.sat s.s
  | some p =>
   have hl:=run_loadCells_list (P:=P) w p ((ys.take m0).map enc) (fun j v hj=>by
    simp only [List.getElem?_map,Option.map_eq_some_iff] at hj
    obtain ⟨u,hu,rfl⟩:=hj
    rw [List.getElem?_take] at hu
    split at hu
    ·exact hr.cell w ho.sat p rfl j u hu
    ·cases hu)
   obtain ⟨w',hst,hx',hsat⟩:=run_storeCells_sat (P:=P) (i0:=o) ((ys.take m0).map enc) 0 (xs.map enc) w (sat_front ho.sat s.s) (by simp;omega) (by
    intro v hv
    obtain ⟨u,_,rfl⟩:=List.mem_map.1 hv
    exact henc u)
   rw [Nat.add_zero,putL_at enc xs (ys.take m0) o (by simp;omega)] at hsat
   have hd:(ys.take m0).length=min ys.length m0:=by simp [Nat.min_comm]
   rw [hd] at hsat
   have hlen:((ys.take m0).map enc).length=min ys.length m0:=by simp [Nat.min_comm]
   rw [hlen] at hl
   rw [List.map_take] at hst
   refine ⟨_,w',?_,_,h,hx',hsat⟩
   simp [execOp,resolve,invoke,builtin,ho.ev.eval hx,ho.ev.eval hy,Builtin.copy_,run_underlying ht.u,Builtin.lenOf,Builtin.firstCells,sizeOf,typeInfo,hi0,his,hl,hst,goInt]
end
theorem Spec.imp {P:Program} {f:FuncId} {args:List Value} {H:List Hl} {X:Type} {good:X→Prop} {val:X→Value} {res res':X→List Hl} (h:Spec P f args H good val res) (g:∀ x,good x→∀ hp,stars (res x) hp→stars (res' x) hp):Spec P f args H good val res' :=
 ⟨h.enters,fun w hs=>(h.calls w hs).mono fun e w' ⟨x,hg,he,hx,hsat⟩=>⟨x,hg,he,hx,hsat.mono (g x hg)⟩⟩
open Go.RowKit Go.Proofs
def rtD34_0:List Row:=[⟨some 1,[],[],none⟩,⟨some 2,[],[],none⟩,⟨some 3,[1],[1],none⟩,⟨some 4,[2],[1,2],none⟩,⟨some 5,[3],[1,2,3],none⟩,⟨some 6,[],[],none⟩,⟨some 7,[5],[5],none⟩,⟨some 8,[6],[5,6],none⟩,⟨some 9,[7],[5,6,7],none⟩,⟨some 10,[],[],none⟩,⟨some 11,[9],[9],none⟩,⟨some 12,[10],[9,10],none⟩,⟨some 13,[11],[9,10,11],none⟩,⟨some 14,[12],[9,10,11,12],none⟩,⟨some 15,[8,13],[5,6,7,8,9,10,11,12,13],none⟩,⟨some 16,[4,14,14],[1,2,3,4,5,6,7,8,9,10,11,12,13,14],none⟩,⟨some 17,[0,0,1,2,3,4,5,6,7,8,9,10,11,12,13,14,15],[0,1,2,3,4,5,6,7,8,9,10,11,12,13,14,15],none⟩,⟨some 18,[16,0,1,2,3,4,5,6,7,8,9,10,11,12,13,14,15],[0,1,2,3,4,5,6,7,8,9,10,11,12,13,14,15,16],none⟩,⟨none,[17,15,15,0,1,2,3,4,5,6,7,8,9,10,11,12,13,14,15],[0,1,2,3,4,5,6,7,8,9,10,11,12,13,14,15,16,17],none⟩]
abbrev cdC (p:Prm) (ia:Option Addr) (il ic:Nat) (o:BitVec 32) (k:Int) (l:Value):List Value:=[W4 p.s,I p.k,I p.p,I p.z,.slice ia il ic,W4 o,K4 k,W4 0#32,l]
abbrev cdB (cb:Nat) (p:Prm) (ia:Option Addr) (il ic:Nat) (o:BitVec 32) (k:Int) (l:Value):Hl := .box cb 160 (cdC p ia il ic o k l)
theorem split_ok {ls:List (SlD (BitVec 8))} {im:List (BitVec 8)} {n z:Nat} (h:ls.map (·.l)=piecesL im n z):okP n z ls=true:=by
 have hl:ls.length=n:=by have:=congrArg List.length h;simpa [piecesL] using this
 have hz:∀ s∈ls,s.l.length=z:=fun s hs=>by
  have:s.l∈piecesL im n z:=by rw [←h];exact List.mem_map.2 ⟨s,hs,rfl⟩
  obtain ⟨i,hi,he⟩:=List.mem_map.1 this
  rw [←he]
  refine pieceL_len _ _ _ _ (Nat.mul_le_mul_right z ?_)
  have:=List.mem_range.1 hi
  omega
 unfold okP
 rw [Bool.and_eq_true,decide_eq_true_eq,Bool.not_eq_true',List.any_eq_false]
 refine ⟨by rw [hl],fun s hs=>?_⟩
 have:=hz s hs
 simp [oddB,this]
theorem cd_fill (H:List Hl) (cb v:Nat) (p:Prm) (ia:Option Addr) (ic:Nat) (im:List (BitVec 8)) (hp:p.ok) (hl:count im.length p.z=p.k) (hi:Rs (stars H) B ia ic im) :
  Spec Tryz.prog 132 [.pointer (some ⟨v,0,none⟩)] (cdB cb p ia im.length ic 0#32 1 (.slice none 0 0) :: .box v 92 [.pointer (some ⟨cb,0,none⟩)]::H) (fun r:Option Addr × Nat × List (SlD (BitVec 8))=>r.2.2.map (·.l)=allP p.s p.k p.p p.z (piecesL im p.k p.z)) (fun _ => .tuple #[])
   (fun r=>cdB cb p ia im.length ic 0#32 1 (.slice r.1 r.2.2.length r.2.1) :: .box v 92 [.pointer (some ⟨cb,0,none⟩)] :: .row 22 1 (.slice r.1 r.2.2.length r.2.1) r.2.2.length (r.2.2.map Bs) :: .any (pcs 5 r.2.2)::H):=by
 refine spec_fn (res:=fun r:Option Addr × Nat × List (SlD (BitVec 8))=>[cdB cb p ia im.length ic 0#32 1 (.slice r.1 r.2.2.length r.2.1),.box v 92 [.pointer (some ⟨cb,0,none⟩)],.row 22 1 (.slice r.1 r.2.2.length r.2.1) r.2.2.length (r.2.2.map Bs),.any (pcs 5 r.2.2)]) [cdB cb p ia im.length ic 0#32 1 (.slice none 0 0),.box v 92 [.pointer (some ⟨cb,0,none⟩)]] H Tryz.func132 rfl Tryz.ntmps132 (by kernel_rfl) rfl (fun W=>?_)
 dsimp only [List.cons_append,List.nil_append]
 obtain ⟨p1,p2,p3,p4,p5⟩:=hp.out
 refine st_stages' [(0,_)] rtD34_0 [14,15,18] [⟨[0,1,2,3,4,5,6,7,8,9,10,11,12,13],[],some 14⟩,⟨[],[0,1,2,3,4],some 15⟩,⟨[16,17],[0],some 18⟩,⟨[],[],none⟩] mixed cv (by kernel_rfl) (by kernel_rfl) ?_
 repeat' (first|intro _|refine sg ?_|(refine p_load ?_;refine po (by first|refine ox_load (b:=v) (i:=0) rfl rfl fz|refine ox_load (b:=cb) (i:=4) rfl rfl fz|refine ox_load (b:=cb) (i:=3) rfl rfl fz|fail) ?_)|refine pw ?_|refine pdd ?_|(refine k_fn 134 ?_;(refine o1_call (fun _=>block_Split _ ia ic im p.k p.z hi.up hl (by omega)) rfl (fun ⟨a1,c1,ls⟩ hls=>?_);dsimp only at hls ⊢))|(refine k_fn 133 ?_;(refine o1_call (fun hh=>precode_Pieces _ p.s p.k p.p p.z a1 c1 ls (rx_row hh) (fun s hs=>pcs_read (T:=5) (ls:=ls) hs hh) hp (split_ok hls)) rfl (fun ⟨a2,c2,qs⟩ hqs=>?_);(dsimp only at hqs ⊢;rw [hls] at hqs)))|(refine k_store ?_;refine ox_stores (b:=cb) (i:=8) rfl rfl (by decide) rfl rfl ?_)|refine ow ?_|fail)
 all_goals dsimp only [List.cons_append,List.nil_append]
 repeat' (first|intro _|refine cw ?_|refine cw2 ?_ ?_|refine ow ?_|refine ow2 ?_ ?_|fail)
 refine rt_none (a2,c2,qs) rfl rfl hqs ?_
 exact ent
def selS (qs:List (SlD (BitVec 8))) (v:List Bool):List (SlD (BitVec 8)):=(placesN (at_ v) v.length).map (fun k=>qs.getD k ⟨none,0,[]⟩)
theorem sel_at {qs:List (SlD (BitVec 8))} {v:List Bool} {n j:Nat} (hv:v.length=n) (hq:qs.length=n) (hj:j<(listV v).length):∃ k:Nat,(listV v)[j]=(k:Int)∧∃ hk:k<qs.length,qs[k]=(selS qs v)[j]'(by rw [selS,List.length_map];simpa [listV] using hj):=by
 have hj2:j<(placesN (at_ v) v.length).length:=by simpa [listV] using hj
 have hm:=(listV_mem (l:=v) (i:=(listV v)[j])).1 (List.getElem_mem _)
 have he:(listV v)[j]=((placesN (at_ v) v.length)[j]:Int):=by simp [listV]
 rw [he] at hm
 have hk:(placesN (at_ v) v.length)[j]<qs.length:=by omega
 refine ⟨_,he,hk,?_⟩
 simp [selS,hk]
theorem selS_mem {qs:List (SlD (BitVec 8))} {v:List Bool} {n:Nat} (hv:v.length=n) (hq:qs.length=n):∀ s∈selS qs v,s∈qs:=fun s hs=>by
 obtain ⟨j,hj,rfl⟩:=List.mem_iff_getElem.1 hs
 have hj2:j<(listV v).length:=by simpa [listV,selS] using hj
 obtain ⟨k,hk,hkl,hks⟩:=sel_at hv hq hj2
 rw [←hks]
 exact List.getElem_mem _
def symD (L:List (List (BitVec 8))) (v:List Bool):List (BitVec 8):=sumB ((placesN (at_ v) v.length).map (fun k=>⟨none,0,L.getD k []⟩))
theorem accL_congr {n:Nat}:∀ (i:Nat) (ls ls':List (SlD (BitVec 8))),ls.map (·.l)=ls'.map (·.l)→accL n ls i=accL n ls' i:=fun i ls ls' h=>by
 unfold accL
 rw [←List.foldl_map (f:=fun s:SlD (BitVec 8)=>s.l),←List.foldl_map (f:=fun s:SlD (BitVec 8)=>s.l),List.map_take,List.map_take,h]
theorem sumB_congr {ls ls':List (SlD (BitVec 8))} (h:ls.map (·.l)=ls'.map (·.l)):sumB ls=sumB ls':=by
 have hlen:ls.length=ls'.length:=by have:=congrArg List.length h;simpa using this
 cases ls with
 | nil=>cases ls' with
  | nil=>rfl
  | cons x l=>simp at hlen
 | cons x l=>cases ls' with
  | nil=>simp at hlen
  | cons x' l' =>
   have hx:x.l=x'.l:=by have:=h;simp only [List.map_cons,List.cons.injEq] at this;exact this.1
   have hall:(∀ s∈x::l,s.l.length=x.l.length)↔(∀ s∈x'::l',s.l.length=x'.l.length):=by
    have e1:∀ (L:List (SlD (BitVec 8))) (m:Nat),(∀ s∈L,s.l.length=m)↔∀ y∈L.map (·.l),y.length=m:=fun L m=>⟨fun q y hy=>by obtain ⟨s,hs,rfl⟩:=List.mem_map.1 hy;exact q s hs,fun q s hs=>q _ (List.mem_map.2 ⟨s,hs,rfl⟩)⟩
    rw [e1,e1,h,hx]
   show (if ∀ s∈x::l,s.l.length=x.l.length then accL x.l.length (x::l) (x::l).length else [])=(if ∀ s∈x'::l',s.l.length=x'.l.length then accL x'.l.length (x'::l') (x'::l').length else [])
   rw [hx] at hall ⊢
   rw [hlen]
   by_cases q:∀ s∈x'::l',s.l.length=x'.l.length
   ·rw [if_pos q,if_pos (hall.2 q),accL_congr _ _ _ h]
   ·rw [if_neg q,if_neg (fun w=>q (hall.1 w))]
theorem symD_sel {qs:List (SlD (BitVec 8))} {v:List Bool} {n:Nat} (hv:v.length=n) (hq:qs.length=n):sumB (selS qs v)=symD (qs.map (·.l)) v:=by
 refine sumB_congr ?_
 rw [selS,List.map_map,List.map_map]
 refine List.map_congr_left fun k hk=>?_
 have hm:=(listV_mem (l:=v) (i:=(k:Int))).1 (by rw [listV];exact List.mem_map.2 ⟨k,hk,rfl⟩)
 have hkl:k<qs.length:=by omega
 simp [hkl]
theorem cd_pieces_0 (H:List Hl) (cb:Nat) (p:Prm) (ia:Option Addr) (ic:Nat) (im:List (BitVec 8)) (hp:p.ok) (hl:count im.length p.z=p.k) (hi:Rs (stars H) B ia ic im) :
  Spec Tryz.prog 84 [.pointer (some ⟨cb,0,none⟩)] (cdB cb p ia im.length ic 0#32 0 (.slice none 0 0)::H) (fun r:Option Addr × Nat × List (SlD (BitVec 8))=>r.2.2.map (·.l)=allP p.s p.k p.p p.z (piecesL im p.k p.z)) (fun r => .slice r.1 r.2.2.length r.2.1)
   (fun r=>cdB cb p ia im.length ic 1#32 0 (.slice r.1 r.2.2.length r.2.1) :: .row 22 1 (.slice r.1 r.2.2.length r.2.1) r.2.2.length (r.2.2.map Bs) :: .any (pcs 5 r.2.2)::H):=by
 refine spec_fn (res:=fun r:Option Addr × Nat × List (SlD (BitVec 8))=>[cdB cb p ia im.length ic 1#32 0 (.slice r.1 r.2.2.length r.2.1),.row 22 1 (.slice r.1 r.2.2.length r.2.1) r.2.2.length (r.2.2.map Bs),.any (pcs 5 r.2.2)]) [cdB cb p ia im.length ic 0#32 0 (.slice none 0 0)] H Tryz.func84 rfl Tryz.ntmps84 (by kernel_rfl) rfl (fun W=>?_)
 dsimp only [List.cons_append,List.nil_append]
 repeat' (first|intro _|refine cw ?_|refine cw2 ?_ ?_|(refine k_box ?_;refine o1_box rfl rfl (fun v=>?_))|(refine k_load ?_;first|refine ox_load (b:=v) (i:=0) rfl rfl ?_|refine ox_load (b:=cb) (i:=8) rfl rfl ?_)|(refine k_fn 131 ?_;refine o1_call_box (b:=cb) (fun hh=>on_Do _ cb 5 _ (cdC p ia im.length ic 0#32 0 (.slice none 0 0)) 132 [.pointer (some ⟨v,0,none⟩)] rfl rfl (cd_fill _ cb v p ia ic im hp hl hi.up) (fun _ _=>rfl)) rfl (fun ⟨aq,cq,qs⟩ hqs=>?_))|refine o1_func rfl ?_|refine ow ?_|refine ow2 ?_ ?_|fail)
 refine rt_tmp (aq,cq,qs) rfl rfl rfl hqs ?_
 exact ent
theorem cd_pieces_1 (H:List Hl) (cb:Nat) (l:Value) (h5:Cl (stars H) ⟨cb,5,none⟩ (W4 1#32)) (h8:Cl (stars H) ⟨cb,8,none⟩ l) :
  Spec Tryz.prog 84 [.pointer (some ⟨cb,0,none⟩)] H (fun _:Unit=>True) (fun _=>l) (fun _=>H):=by
 refine spec_pure (res:=fun _=>[]) H Tryz.func84 rfl Tryz.ntmps84 (by kernel_rfl) rfl (fun W=>?_)
 repeat' (first|intro _|refine cw ?_|refine cw2 ?_ ?_|(refine k_box ?_;refine o1_box rfl rfl (fun v=>?_))|(refine k_load ?_;first|refine ox_load (b:=v) (i:=0) rfl rfl ?_|refine ox_load_any rfl h8 ?_)|(refine k_fn 131 ?_;refine o1_call (fun hh=>on_Do_done _ cb 5 132 [.pointer (some ⟨v,0,none⟩)] (cl_up h5)) rfl (fun _ _=>?_))|refine o1_func rfl ?_|refine ow ?_|refine ow2 ?_ ?_|fail)
 refine rt_tmp () rfl rfl rfl trivial ?_
 exact ent
theorem allP_len {s:BitVec 32} {K P z:Nat} {im:List (BitVec 8)}:∀ y∈allP s K P z (piecesL im K z),y.length=z:=fun y hy=>by
 rcases List.mem_append.1 hy with h|h
 ·obtain ⟨i,hi,rfl⟩:=List.mem_map.1 h
  refine pieceL_len _ _ _ _ (Nat.mul_le_mul_right z ?_)
  have:=List.mem_range.1 hi
  omega
 ·obtain ⟨j,_,rfl⟩:=List.mem_map.1 h
  rw [←sumT_all,sumT_len]
theorem allP_n {s:BitVec 32} {K P z:Nat} {im:List (BitVec 8)}:(allP s K P z (piecesL im K z)).length=K+P:=by simp [allP,piecesL]
abbrev pieA (p:Prm) (im:List (BitVec 8)):List (List (BitVec 8)):=allP p.s p.k p.p p.z (piecesL im p.k p.z)
set_option maxHeartbeats 4000000 in
theorem cd_Symbol_0 (H:List Hl) (cb:Nat) (p:Prm) (ia:Option Addr) (ic:Nat) (im:List (BitVec 8)) (id:BitVec 32) (v:List Bool) (hp:p.ok) (hl:count im.length p.z=p.k) (hi:Rs (stars H) B ia ic im) (hv:SpRow p id v) (ht:TabF (stars H)) :
  Spec Tryz.prog 41 [.pointer (some ⟨cb,0,none⟩),W4 id] (cdB cb p ia im.length ic 0#32 0 (.slice none 0 0)::H) (fun r:(Option Addr × Nat) × (Option Addr × Nat × List (SlD (BitVec 8)))=>r.2.2.2.map (·.l)=pieA p im) (fun r => .slice r.1.1 (symD (pieA p im) v).length r.1.2) (fun r => .row 5 1 (.slice r.1.1 (symD (pieA p im) v).length r.1.2) (symD (pieA p im) v).length ((symD (pieA p im) v).map B)::cdB cb p ia im.length ic 1#32 0 (.slice r.2.1 r.2.2.2.length r.2.2.1) :: .row 22 1 (.slice r.2.1 r.2.2.2.length r.2.2.1) r.2.2.2.length (r.2.2.2.map Bs) :: .any (pcs 5 r.2.2.2)::H):=by
 refine spec_fn (res:=fun r:(Option Addr × Nat) × (Option Addr × Nat × List (SlD (BitVec 8)))=>[.row 5 1 (.slice r.1.1 (symD (pieA p im) v).length r.1.2) (symD (pieA p im) v).length ((symD (pieA p im) v).map B),cdB cb p ia im.length ic 1#32 0 (.slice r.2.1 r.2.2.2.length r.2.2.1),.row 22 1 (.slice r.2.1 r.2.2.2.length r.2.2.1) r.2.2.2.length (r.2.2.2.map Bs),.any (pcs 5 r.2.2.2)]) [cdB cb p ia im.length ic 0#32 0 (.slice none 0 0)] H Tryz.func41 rfl Tryz.ntmps41 (by kernel_rfl) rfl (fun W=>?_)
 dsimp only [List.cons_append,List.nil_append]
 obtain ⟨p1,p2,p3,p4,p5⟩:=hp.out
 have hvn:=hv.1
 have hn2:p.n≤256:=by show p.k+p.p≤256;omega
 repeat' (first|intro _|refine cw ?_|refine cw2 ?_ ?_|refine o1_peql rfl rfl ?_|(refine o1_call (fun _=>hv.2 _) rfl (fun ⟨vb,va,vc⟩ _=>?_);(try dsimp only))|(refine k_fn 84 ?_;(refine o1_call_box (b:=cb) (fun _=>cd_pieces_0 _ cb p ia ic im hp hl hi.up) rfl (fun ⟨aq,cq,qs⟩ hqs=>?_);dsimp only at hqs ⊢))|(refine k_fn 86 ?_;(refine o1_call (fun hh=>vec_List _ ⟨vb,p.n,va,vc,v⟩ (RdV.own hvn hn2 hh)) rfl (fun ⟨la,lc⟩ _=>?_);(try dsimp only)))|refine ow ?_|refine ow2 ?_ ?_|fail)
 have hqn:qs.length=p.n:=by have:=congrArg List.length hqs;rw [List.length_map,allP_n] at this;exact this
 have hsum:sumB (selS qs v)=symD (pieA p im) v:=by rw [symD_sel hvn hqn,hqs]
 have hsb:∀ s∈selS qs v,s.l.length≤281474976710656:=fun s hs=>by
  have h1:s.l∈pieA p im:=(show qs.map (·.l)=pieA p im from hqs) ▸ (List.mem_map.2 ⟨s,selS_mem hvn hqn s hs,rfl⟩:s.l∈qs.map (·.l))
  rw [allP_len _ h1]
  omega
 have hsl:(selS qs v).length=(listV v).length:=by rw [selS,List.length_map,listV,List.length_map]
 refine st_ent (ent_nil 22 Bs) ?_
 refine st_loop (S:=Nat × Option Addr × Nat) (fun q=>[(5,.slice aq qs.length cq),(6,.slice q.2.1 q.1 q.2.2),(19,.slice la (listV v).length lc),(20,I (listV v).length),(21,I q.1)])
  (fun q=>[.row 22 1 (.slice q.2.1 q.1 q.2.2) q.1 (((selS qs v).take q.1).map Bs),.row 3 1 (.slice la (listV v).length lc) (listV v).length ((listV v).map I),.row 22 1 (.slice aq qs.length cq) qs.length (qs.map Bs),.any (pcs 5 qs),cdB cb p ia im.length ic 1#32 0 (.slice aq qs.length cq),.any (stars H)]) (fun q=>q.1≤(listV v).length) (fun q=>(listV v).length - q.1) (0,none,0) (Nat.zero_le _) cv (by rw [List.take_zero];exact ent) ?_
 rintro ⟨j,a1,c1⟩ hj
 dsimp only at hj ⊢
 by_cases hjt:j<(listV v).length
 ·obtain ⟨k,hk,hkl,hks⟩:=sel_at (qs:=qs) (v:=v) hvn hqn hjt
  obtain ⟨u,hu⟩:∃ u,qs[k]=u:=⟨_,rfl⟩
  have hnx:(selS qs v).take j++[u]=(selS qs v).take (j+1):=by
   rw [List.take_succ_eq_append_getElem (by omega),←hu,hks]
  have htl:((selS qs v).take j).length=j:=by rw [List.length_take];omega
  have h256:(listV v).length≤256:=by rw [listV_len];exact Nat.le_trans (cnt_le _ _) (by omega)
  repeat' (first|intro _|refine cw ?_|refine cw2 ?_ ?_|(refine k_indexAddr ?_;first|refine o1_iah (enc:=I) (ad:=la) (c:=lc) (xs:=listV v) j rfl rfl (rx_row (T:=3)) rfl rfl hjt ?_|refine o1_iah (enc:=Bs) (ad:=aq) (c:=cq) (xs:=qs) k rfl rfl (rx_row (T:=22)) rfl rfl hkl ?_)|(refine k_load ?_;first|(refine o1_load_iah (enc:=I) (ad:=la) (c:=lc) (xs:=listV v) j rfl (rx_row (T:=3)) hjt ?_;rw [hk])|(refine o1_load_iah (enc:=Bs) (ad:=aq) (c:=cq) (xs:=qs) k rfl (rx_row (T:=22)) hkl ?_;rw [hu]))|(refine k_buildSlice ?_;refine o1_lit_enc Bs [u] rfl rfl rfl (fun _=>rfl) rfl rfl rfl (fun _=>?_))|(refine k_call ?_;(refine ox_append (ad:=a1) (c:=c1) (xs:=(selS qs v).take j) (ys:=[u]) rfl rfl (rx_box rfl (by decide)) rfl rfl (fun _=>rfl) (by omega) (by omega) (fun a9 c9=>?_);rw [hnx]))|refine ow ?_|refine ow2 ?_ ?_|fail)
  refine nx_again (j+1,a9,c9) (by show j+1≤(listV v).length;omega) (by show (listV v).length - (j+1)<(listV v).length - j;omega) cv ?_
  exact ent
 ·have:j=(selS qs v).length:=by omega
  subst this
  rw [List.take_length]
  repeat' (first|intro _|refine cw ?_|refine cw2 ?_ ?_|(refine k_fn 87 ?_;(refine o1_call (fun hh=>block_Sum _ a1 c1 (selS qs v) (rx_row (T:=22) (ad:=a1) (c:=c1) (l:=selS qs v) hh) (fun s hs=>pcs_read (T:=5) (ls:=qs) (selS_mem hvn hqn s hs) hh) (fun s hs=>hsb s hs)) rfl (fun ⟨a34,c34⟩ _=>?_);(try dsimp only);rw [hsum]))|refine ow ?_|refine ow2 ?_ ?_|fail)
  refine rt_tmp ((a34,c34),aq,cq,qs) rfl rfl rfl hqs ?_
  exact ent
set_option maxHeartbeats 4000000 in
theorem cd_Symbol_1 (H:List Hl) (cb:Nat) (p:Prm) (ia:Option Addr) (il ic:Nat) (im:List (BitVec 8)) (id:BitVec 32) (v:List Bool) (aq:Option Addr) (cq:Nat) (qs:List (SlD (BitVec 8))) (hp:p.ok) (hv:SpRow p id v) (ht:TabF (stars H)) (hq:Rs (stars H) Bs aq cq qs) (hpc:∀ s∈qs,Rs (stars H) B s.ad s.cap s.l) (hqs:qs.map (·.l)=pieA p im) :
  Spec Tryz.prog 41 [.pointer (some ⟨cb,0,none⟩),W4 id] (cdB cb p ia il ic 1#32 0 (.slice aq qs.length cq)::H) (fun _:Option Addr × Nat=>True) (fun r => .slice r.1 (symD (pieA p im) v).length r.2) (fun r => .row 5 1 (.slice r.1 (symD (pieA p im) v).length r.2) (symD (pieA p im) v).length ((symD (pieA p im) v).map B)::cdB cb p ia il ic 1#32 0 (.slice aq qs.length cq)::H):=by
 refine spec_fn (res:=fun r:Option Addr × Nat=>[.row 5 1 (.slice r.1 (symD (pieA p im) v).length r.2) (symD (pieA p im) v).length ((symD (pieA p im) v).map B),cdB cb p ia il ic 1#32 0 (.slice aq qs.length cq)]) [cdB cb p ia il ic 1#32 0 (.slice aq qs.length cq)] H Tryz.func41 rfl Tryz.ntmps41 (by kernel_rfl) rfl (fun W=>?_)
 dsimp only [List.cons_append,List.nil_append]
 obtain ⟨p1,p2,p3,p4,p5⟩:=hp.out
 have hvn:=hv.1
 have hn2:p.n≤256:=by show p.k+p.p≤256;omega
 have hqn:qs.length=p.n:=by have:=congrArg List.length hqs;rw [List.length_map,allP_n] at this;exact this
 have hsum:sumB (selS qs v)=symD (pieA p im) v:=by rw [symD_sel hvn hqn,hqs]
 have hsb:∀ s∈selS qs v,s.l.length≤281474976710656:=fun s hs=>by
  have h1:s.l∈pieA p im:=(show qs.map (·.l)=pieA p im from hqs) ▸ (List.mem_map.2 ⟨s,selS_mem hvn hqn s hs,rfl⟩:s.l∈qs.map (·.l))
  rw [allP_len _ h1]
  omega
 repeat' (first|intro _|refine cw ?_|refine cw2 ?_ ?_|refine o1_peql rfl rfl ?_|(refine o1_call (fun _=>hv.2 _) rfl (fun ⟨vb,va,vc⟩ _=>?_);(try dsimp only))|(refine k_fn 84 ?_;refine o1_call (fun _=>cd_pieces_1 _ cb (.slice aq qs.length cq) (cl_box rfl) (cl_box rfl)) rfl (fun _ _=>?_))|(refine k_fn 86 ?_;(refine o1_call (fun hh=>vec_List _ ⟨vb,p.n,va,vc,v⟩ (RdV.own hvn hn2 hh)) rfl (fun ⟨la,lc⟩ _=>?_);(try dsimp only)))|refine ow ?_|refine ow2 ?_ ?_|fail)
 have hsl:(selS qs v).length=(listV v).length:=by rw [selS,List.length_map,listV,List.length_map]
 refine st_ent (ent_nil 22 Bs) ?_
 refine st_loop (S:=Nat × Option Addr × Nat) (fun q=>[(5,.slice aq qs.length cq),(6,.slice q.2.1 q.1 q.2.2),(19,.slice la (listV v).length lc),(20,I (listV v).length),(21,I q.1)])
  (fun q=>[.row 22 1 (.slice q.2.1 q.1 q.2.2) q.1 (((selS qs v).take q.1).map Bs),.row 3 1 (.slice la (listV v).length lc) (listV v).length ((listV v).map I),cdB cb p ia il ic 1#32 0 (.slice aq qs.length cq),.any (stars H)]) (fun q=>q.1≤(listV v).length) (fun q=>(listV v).length - q.1) (0,none,0) (Nat.zero_le _) cv (by rw [List.take_zero];exact ent) ?_
 rintro ⟨j,a1,c1⟩ hj
 dsimp only at hj ⊢
 by_cases hjt:j<(listV v).length
 ·obtain ⟨k,hk,hkl,hks⟩:=sel_at (qs:=qs) (v:=v) hvn hqn hjt
  obtain ⟨u,hu⟩:∃ u,qs[k]=u:=⟨_,rfl⟩
  have hnx:(selS qs v).take j++[u]=(selS qs v).take (j+1):=by
   rw [List.take_succ_eq_append_getElem (by omega),←hu,hks]
  have htl:((selS qs v).take j).length=j:=by rw [List.length_take];omega
  have h256:(listV v).length≤256:=by rw [listV_len];exact Nat.le_trans (cnt_le _ _) (by omega)
  repeat' (first|intro _|refine cw ?_|refine cw2 ?_ ?_|(refine k_indexAddr ?_;first|refine o1_iah (enc:=I) (ad:=la) (c:=lc) (xs:=listV v) j rfl rfl (rx_row (T:=3)) rfl rfl hjt ?_|refine o1_iah (enc:=Bs) (ad:=aq) (c:=cq) (xs:=qs) k rfl rfl (fun _=>hq.up) rfl rfl hkl ?_)|(refine k_load ?_;first|(refine o1_load_iah (enc:=I) (ad:=la) (c:=lc) (xs:=listV v) j rfl (rx_row (T:=3)) hjt ?_;rw [hk])|(refine o1_load_iah (enc:=Bs) (ad:=aq) (c:=cq) (xs:=qs) k rfl (fun _=>hq.up) hkl ?_;rw [hu]))|(refine k_buildSlice ?_;refine o1_lit_enc Bs [u] rfl rfl rfl (fun _=>rfl) rfl rfl rfl (fun _=>?_))|(refine k_call ?_;(refine ox_append (ad:=a1) (c:=c1) (xs:=(selS qs v).take j) (ys:=[u]) rfl rfl (rx_box rfl (by decide)) rfl rfl (fun _=>rfl) (by omega) (by omega) (fun a9 c9=>?_);rw [hnx]))|refine ow ?_|refine ow2 ?_ ?_|fail)
  refine nx_again (j+1,a9,c9) (by show j+1≤(listV v).length;omega) (by show (listV v).length - (j+1)<(listV v).length - j;omega) cv ?_
  exact ent
 ·have:j=(selS qs v).length:=by omega
  subst this
  rw [List.take_length]
  repeat' (first|intro _|refine cw ?_|refine cw2 ?_ ?_|(refine k_fn 87 ?_;(refine o1_call (fun hh=>block_Sum _ a1 c1 (selS qs v) (rx_row (T:=22) (ad:=a1) (c:=c1) (l:=selS qs v) hh) (fun s hs=>(hpc s (selS_mem hvn hqn s hs)).up) (fun s hs=>hsb s hs)) rfl (fun ⟨a34,c34⟩ _=>?_);(try dsimp only);rw [hsum]))|refine ow ?_|refine ow2 ?_ ?_|fail)
  refine rt_tmp (a34,c34) rfl rfl rfl trivial ?_
  exact ent
def rtD3_0:List Row:=[⟨some 8,[],[],none⟩,⟨some 9,[0],[0],none⟩,⟨some 10,[1],[0,1],none⟩,⟨some 11,[2],[0,1,2],some (2,false)⟩,⟨some 12,[2],[0,1,2],some (2,false)⟩,⟨some 13,[3,4,2],[0,1,2,3,4],some (2,false)⟩,⟨some 14,[5,2,2],[0,1,2,3,4,5],some (2,false)⟩,⟨some 15,[6,2],[0,1,2,3,4,5,6],some (2,false)⟩,⟨some 16,[2],[0,1,2],some (2,false)⟩,⟨some 17,[8,2],[0,1,2,8],some (2,false)⟩,⟨some 18,[7,9,2],[0,1,2,3,4,5,6,7,8,9],some (2,false)⟩,⟨some 19,[2,10],[0,1,2,3,4,5,6,7,8,9,10],none⟩]
def rtD3_1:List Row:=[⟨some 8,[],[],none⟩,⟨some 9,[0],[0],none⟩,⟨some 10,[1],[0,1],none⟩,⟨some 11,[2],[0,1,2],some (2,false)⟩,⟨some 12,[2],[0,1,2],some (2,false)⟩,⟨some 13,[3,4,2],[0,1,2,3,4],some (2,false)⟩,⟨some 14,[5,2,2],[0,1,2,3,4,5],some (2,false)⟩,⟨some 15,[6,2],[0,1,2,3,4,5,6],some (2,false)⟩,⟨some 16,[2],[0,1,2],some (2,false)⟩,⟨some 17,[8,2],[0,1,2,8],some (2,false)⟩,⟨some 18,[7,9,2],[0,1,2,3,4,5,6,7,8,9],some (2,false)⟩,⟨some 19,[2,10],[0,1,2,3,4,5,6,7,8,9,10],none⟩]
def rtD3_2:List Row:=[⟨some 8,[],[],none⟩,⟨some 9,[0],[0],none⟩,⟨some 10,[1],[0,1],none⟩,⟨some 11,[2],[0,1,2],some (2,false)⟩,⟨some 12,[2],[0,1,2],some (2,false)⟩,⟨some 13,[3,4,2],[0,1,2,3,4],some (2,false)⟩,⟨some 14,[5,2,2],[0,1,2,3,4,5],some (2,false)⟩,⟨some 15,[6,2],[0,1,2,3,4,5,6],some (2,false)⟩,⟨some 16,[2],[0,1,2],some (2,false)⟩,⟨some 17,[8,2],[0,1,2,8],some (2,false)⟩,⟨some 18,[7,9,2],[0,1,2,3,4,5,6,7,8,9],some (2,false)⟩,⟨some 19,[2,10],[0,1,2,3,4,5,6,7,8,9,10],none⟩]
theorem crc_Add (H:List Hl) (s:BitVec 32) (ad:Option Addr) (m c:Nat) (l:List (BitVec 8)) (h:Rs (stars H) B ad c l) (hm:m=l.length) :
  Spec Tryz.prog 171 [W4 s,.slice ad m c] H (fun _:Unit=>True) (fun _=>W4 (crcAdd s l)) (fun _=>H):=by
 subst hm
 have b1:=h.le
 have b2:=h.big
 refine spec_pure (res:=fun _=>[]) H Tryz.func171 rfl Tryz.ntmps171 (by kernel_rfl) rfl (fun W=>?_)
 repeat' (first|intro _|refine cw ?_|refine cw2 ?_ ?_|refine ow ?_|refine ow2 ?_ ?_|fail)
 refine st_loop (S:=Nat) (fun i=>[(5,W4 (crcAll (~~~ s) (l.take i))),(11,.slice ad l.length c),(12,I l.length),(13,I i)]) (fun _=>[.any (stars H)]) (fun i=>i≤l.length) (fun i=>l.length - i) 0 (Nat.zero_le _) cv ent ?_
 intro i hi
 by_cases hlt:i<l.length
 ·obtain ⟨x,hx⟩:∃ x,l[i]=x:=⟨_,rfl⟩
  have hnx:=crcAll_take (c := ~~~ s) hlt
  obtain ⟨c0,hc0⟩:∃ c0,crcAll (~~~ s) (l.take i)=c0:=⟨_,rfl⟩
  rw [hc0,hx] at hnx
  rw [hc0]
  repeat' (first|intro _|refine cw ?_|refine cw2 ?_ ?_|(refine k_indexAddr ?_;refine o1_ia (ad:=ad) (c:=c) i rfl rfl h rfl rfl hlt ?_)|(refine k_load ?_;(refine o1_load_ia (ad:=ad) (c:=c) i rfl h hlt ?_;rw [hx]))|refine ow ?_|refine ow2 ?_ ?_|fail)
  refine st_loop (S:=Nat) (fun j=>[(5,W4 (crcBits j (c0 ^^^ x.setWidth 32))),(11,.slice ad l.length c),(12,I l.length),(13,I i),(21,I j)]) (fun _=>[.any (stars H)]) (fun j=>j≤8) (fun j=>8 - j) 0 (Nat.zero_le _) cv ent ?_
  intro j hj
  by_cases hjt:j<8
  ·repeat' (first|intro _|refine cw ?_|refine cw2 ?_ ?_|(refine k_binOp .and ?_;refine o1_uand (v:=1#32) rfl rfl ?_)|(refine k_binOp .mul ?_;refine o1_umul (u:=0xedb88320#32) rfl rfl ?_)|refine ow ?_|refine ow2 ?_ ?_|fail)
   refine nx_again (j+1) (by omega) (by omega) cv ?_
   exact ent
  ·have:j=8:=by omega
   subst this
   repeat' (first|intro _|refine cw ?_|refine cw2 ?_ ?_|refine ow ?_|refine ow2 ?_ ?_|fail)
   refine nx_again (i+1) (by omega) (by omega) (cov_cons rfl (by rw [hnx];rfl) cv) ?_
   exact ent
 ·have:i=l.length:=by omega
  subst this
  repeat' (first|intro _|refine cw ?_|refine cw2 ?_ ?_|refine ow ?_|refine ow2 ?_ ?_|fail)
  rw [List.take_length]
  refine rt_tmp () rfl rfl rfl trivial ?_
  exact ent
theorem crc_Sum (H:List Hl) (ad:Option Addr) (m c:Nat) (l:List (BitVec 8)) (h:Rs (stars H) B ad c l) (hm:m=l.length) :
  Spec Tryz.prog 130 [.slice ad m c] H (fun _:Unit=>True) (fun _=>W4 (crcAdd 0#32 l)) (fun _=>H):=by
 refine spec_pure (res:=fun _=>[]) H Tryz.func130 rfl Tryz.ntmps130 (by kernel_rfl) rfl (fun W=>?_)
 repeat' (first|intro _|refine cw ?_|refine cw2 ?_ ?_|(refine k_fn 171 ?_;refine o1_call (fun _=>crc_Add _ 0#32 ad m c l h.up hm) rfl (fun _ _=>?_))|refine ow ?_|refine ow2 ?_ ?_|fail)
 refine rt_tmp () rfl rfl rfl trivial ?_
 exact ent
theorem be4_at (x:BitVec 32) (j:Nat) (hj:j<4):(x >>> (24 - 8*(j:Int)).toNat).setWidth 8=(be4 x)[j]'(by rw [be4_len];exact hj):=by
 rcases (by omega:j=0∨j=1∨j=2∨j=3) with rfl|rfl|rfl|rfl <;> rfl
set_option maxHeartbeats 1000000 in
theorem crc_Put (H:List Hl) (ad:Option Addr) (m c:Nat) (l:List (BitVec 8)) (h:Rs (stars H) B ad c l) (hm:m=l.length) (hb:m≤1000000) :
  Spec Tryz.prog 83 [.slice ad m c] H (fun _:Option Addr × Nat=>True) (fun r => .slice r.1 (l.length+4) r.2) (fun r => .row 5 1 (.slice r.1 (l.length+4) r.2) (l.length+4) ((crcPut l).map B)::H):=by
 subst hm
 have b1:=h.le
 have b2:=h.big
 refine spec_pure (res:=fun r:Option Addr × Nat=>[.row 5 1 (.slice r.1 (l.length+4) r.2) (l.length+4) ((crcPut l).map B)]) H Tryz.func83 rfl Tryz.ntmps83 (by kernel_rfl) rfl (fun W=>?_)
 refine st_ent (ent_nil 5 B) ?_
 obtain ⟨s,hs⟩:∃ s,crcAdd 0#32 l=s:=⟨_,rfl⟩
 have hp:crcPut l=l++be4 s:=by rw [←hs];rfl
 rw [hp]
 repeat' (first|intro _|refine cw ?_|refine cw2 ?_ ?_|(refine k_call ?_;refine ox_append (ad:=none) (c:=0) (xs:=([]:List (BitVec 8))) (ys:=l) rfl rfl (rx_any h) rfl rfl (fun _=>rfl) (by simp;omega) (by simp;omega) (fun a7 c7=>?_))|(refine k_fn 130 ?_;(refine o1_call (fun _=>crc_Sum _ ad l.length c l h.up rfl) rfl (fun _ _=>?_);rw [hs]))|refine ow ?_|refine ow2 ?_ ?_|fail)
 refine st_loop (S:=Nat × Option Addr × Nat) (fun q=>[(3,.slice q.2.1 (l.length+q.1) q.2.2),(4,W4 s),(5,I (24 - 8*(q.1:Int)))]) (fun q=>[.row 5 1 (.slice q.2.1 (l.length+q.1) q.2.2) (l.length+q.1) ((l++(be4 s).take q.1).map B),.any (stars H)]) (fun q=>q.1≤4) (fun q=>4 - q.1) (0,a7,c7) (Nat.zero_le _)
  (cov_cons rfl (by simp) cv) (by simp only [List.nil_append,List.take_zero,List.append_nil,Nat.add_zero,Nat.zero_add];exact ent) ?_
 rintro ⟨j,a3,c3⟩ hj
 dsimp only at hj ⊢
 by_cases hjt:j<4
 ·have hbj:=be4_at s j hjt
  have hl:(l++(be4 s).take j).length=l.length+j:=by rw [List.length_append,List.length_take,be4_len,Nat.min_eq_left hj]
  have htk:l++(be4 s).take (j+1)=(l++(be4 s).take j)++[(be4 s)[j]'(by rw [be4_len];exact hjt)]:=by
   rw [List.take_succ_eq_append_getElem (by rw [be4_len];exact hjt),List.append_assoc]
  obtain ⟨y,hy⟩:∃ y,(be4 s)[j]'(by rw [be4_len];exact hjt)=y:=⟨_,rfl⟩
  rw [hy] at hbj htk
  repeat' (first|intro _|refine cw ?_|refine cw2 ?_ ?_|(refine k_binOp .geq ?_;refine o1_geq_t rfl rfl (by omega) ?_)|(refine k_convert ?_;(refine o1_conv_uu rfl ?_;rw [hbj]))|(refine k_buildSlice ?_;refine o1_lit_enc (T:=22) B [y] rfl rfl rfl (fun _=>rfl) rfl rfl rfl (fun b19=>?_))|(refine k_call ?_;refine ox_append (ad:=a3) (c:=c3) (xs:=l++(be4 s).take j) (ys:=[y]) rfl rfl (rx_box (b:=b19) rfl (by decide)) rfl rfl (fun _=>rfl) (by simp;omega) (by simp;omega) (fun a20 c20=>?_))|refine ow ?_|refine ow2 ?_ ?_|fail)
  refine nx_again (j+1,a20,c20) (by show j+1≤4;omega) (by show 4 - (j+1)<4 - j;omega) (cov_cons rfl rfl (cov_cons rfl rfl (cov_cons rfl (by show I _=I _;congr 1;push_cast;omega) cv))) ?_
  show Ent _ [.row 5 1 (.slice a20 (l.length+(j+1)) c20) (l.length+(j+1)) ((l++(be4 s).take (j+1)).map B),.any (stars H)]
  rw [htk]
  exact ent
 ·have:j=4:=by omega
  subst this
  have e4:(be4 s).take 4=be4 s:=List.take_of_length_le (by rw [be4_len];exact Nat.le_refl _)
  rw [e4]
  repeat' (first|intro _|refine cw ?_|refine cw2 ?_ ?_|(refine k_binOp .geq ?_;refine o1_geq_f rfl rfl (by omega) ?_)|refine ow ?_|refine ow2 ?_ ?_|fail)
  refine rt_tmp (a3,c3) rfl rfl rfl trivial ?_
  exact ent
set_option maxHeartbeats 1000000 in
theorem crc_Right (H:List Hl) (ad:Option Addr) (m c:Nat) (l:List (BitVec 8)) (h:Rs (stars H) B ad c l) (hm:m=l.length) (hb:m≤100000) (hk:crcOk l=true) :
  Spec Tryz.prog 72 [.slice ad m c] H (fun _:Option Addr × Nat=>True) (fun r => .tuple #[.slice r.1 (l.length - 4) r.2,.bool true]) (fun r => .row 5 1 (.slice r.1 (l.length - 4) r.2) (l.length - 4) ((l.take (l.length - 4)).map B)::H):=by
 subst hm
 have b1:=h.le
 have b2:=h.big
 simp only [crcOk,Bool.and_eq_true,decide_eq_true_eq] at hk
 obtain ⟨k4,hk⟩:=hk
 refine spec_pure (res:=fun r:Option Addr × Nat=>[.row 5 1 (.slice r.1 (l.length - 4) r.2) (l.length - 4) ((l.take (l.length - 4)).map B)]) H Tryz.func72 rfl Tryz.ntmps72 (by kernel_rfl) rfl (fun W=>?_)
 obtain ⟨p,hp⟩:∃ p,l.length - 4=p:=⟨_,rfl⟩
 have hpi:(l.length:Int) - 4=(p:Nat):=by omega
 rw [hp] at hk ⊢
 obtain ⟨q,hq⟩:∃ q,l.take p=q:=⟨_,rfl⟩
 have hql:q.length=p:=by rw [←hq,List.length_take];omega
 have hf:Rs (stars H) B (cutA ad c 0) (c - 0) q:=by have:=h.cuth p (by omega);rw [hq] at this;exact this
 rw [hq] at hk ⊢
 have hkl:q.length+4=l.length:=by omega
 refine st_ent (ent_nil 5 B) ?_
 repeat' (first|intro _|refine cw ?_|refine cw2 ?_ ?_|(refine k_binOp .sub ?_;(refine o1_sub rfl rfl (by omega) ?_;rw [hpi]))|refine ow ?_|refine ow2 ?_ ?_|fail)
 refine st_stages' [(4,_),(0,_)] rtD3_0 [6] [⟨[0,1,2,3,4,5,8,9],[],some 6⟩,⟨[7,10,11],[8,9],none⟩] mixed cv (by kernel_rfl) (by kernel_rfl) ?_
 repeat' (first|intro _|refine sg ?_|(refine p_binOp .lss ?_;refine po (by first|refine o1_lss_f rfl rfl (by omega) fz|fail) ?_)|(refine p_slice ?_;refine po (by first|((refine o1_cs_h (xs:=l) p rfl rfl rfl rfl (by omega) (by omega) ?_;rw [hq]);all_goals exact fz)|fail) ?_)|(refine p_convert ?_;refine po (by first|refine o1_string (ad:=a14) (c:=c14) (xs:=l) rfl rfl rx_row fz|refine o1_string (ad:=ad) (c:=c) (xs:=l) rfl rfl (rx_any h) fz|fail) ?_)|(refine p_binOp .neq ?_;refine po (by first|refine o1_strneq_r (a:=l) (b:=l) (r:=false) rfl rfl (by simp) fz|fail) ?_)|refine pw ?_|refine pdd ?_|(refine k_fn 83 ?_;(refine o1_call (fun _=>crc_Put _ (cutA ad c 0) q.length (c - 0) q (Rs.up hf) rfl (by omega)) rfl (fun ⟨a14,c14⟩ _=>?_);(try dsimp only);rw [hk,hkl]))|refine ow ?_|fail)
 all_goals dsimp only [List.cons_append,List.nil_append]
 repeat' (first|intro _|refine cw ?_|refine cw2 ?_ ?_|(refine k_slice ?_;(refine o1_cs_h (xs:=l) p rfl rfl rfl rfl (by omega) (by omega) ?_;rw [hq]))|(refine k_call ?_;(refine ox_append (ad:=none) (c:=0) (xs:=([]:List (BitVec 8))) (ys:=q) rfl rfl (rx_any hf) rfl rfl (fun _=>rfl) (by simp;omega) (by simp;omega) (fun a7 c7=>?_);rw [List.nil_append,Nat.zero_add,hql]))|refine ow ?_|refine ow2 ?_ ?_|fail)
 refine rt_tmp2 (a7,c7) rfl rfl rfl rfl trivial ?_
 exact ent
set_option maxHeartbeats 1000000 in
theorem crc_Right_no (H:List Hl) (ad:Option Addr) (m c:Nat) (l:List (BitVec 8)) (h:Rs (stars H) B ad c l) (hm:m=l.length) (hb:m≤100000) (hk:crcOk l=false) :
  Spec Tryz.prog 72 [.slice ad m c] H (fun _:Unit=>True) (fun _ => .tuple #[.slice none 0 0,.bool false]) (fun _=>H):=by
 subst hm
 have b1:=h.le
 have b2:=h.big
 refine spec_pure (res:=fun _=>[]) H Tryz.func72 rfl Tryz.ntmps72 (by kernel_rfl) rfl (fun W=>?_)
 by_cases k4:l.length<4
 ·repeat' (first|intro _|refine cw ?_|refine cw2 ?_ ?_|refine ow ?_|refine ow2 ?_ ?_|fail)
  refine st_stages' [(4,_),(0,_)] rtD3_1 [6] [⟨[0,1,2,3,4,5,8,9],[],some 6⟩,⟨[7,10,11],[8,9],none⟩] mixed cv (by kernel_rfl) (by kernel_rfl) ?_
  repeat' (first|intro _|refine sg ?_|(refine p_binOp .lss ?_;refine po (by first|refine o1_lss_t rfl rfl (by omega) fz|fail) ?_)|refine pw ?_|refine pdd ?_|refine ow ?_|fail)
  all_goals dsimp only [List.cons_append,List.nil_append]
  repeat' (first|intro _|refine cw ?_|refine cw2 ?_ ?_|refine ow ?_|refine ow2 ?_ ?_|fail)
  refine rt_tmp2 () rfl rfl rfl rfl trivial ?_
  exact ent
 ·have hk:crcPut (l.take (l.length - 4))≠l:=fun e=>by
   simp [crcOk,e] at hk
   omega
  obtain ⟨p,hp⟩:∃ p,l.length - 4=p:=⟨_,rfl⟩
  have hpi:(l.length:Int) - 4=(p:Nat):=by omega
  rw [hp] at hk
  obtain ⟨q,hq⟩:∃ q,l.take p=q:=⟨_,rfl⟩
  have hql:q.length=p:=by rw [←hq,List.length_take];omega
  have hf:Rs (stars H) B (cutA ad c 0) (c - 0) q:=by have:=h.cuth p (by omega);rw [hq] at this;exact this
  rw [hq] at hk
  obtain ⟨R,hR⟩:∃ R,crcPut q=R:=⟨_,rfl⟩
  have hRl:q.length+4=R.length:=by rw [←hR,crcPut_len]
  rw [hR] at hk
  repeat' (first|intro _|refine cw ?_|refine cw2 ?_ ?_|(refine k_binOp .sub ?_;(refine o1_sub rfl rfl (by omega) ?_;rw [hpi]))|refine ow ?_|refine ow2 ?_ ?_|fail)
  refine st_stages' [(4,_),(0,_)] rtD3_2 [6] [⟨[0,1,2,3,4,5,8,9],[],some 6⟩,⟨[7,10,11],[8,9],none⟩] mixed cv (by kernel_rfl) (by kernel_rfl) ?_
  repeat' (first|intro _|refine sg ?_|(refine p_binOp .lss ?_;refine po (by first|refine o1_lss_f rfl rfl (by omega) fz|fail) ?_)|(refine p_slice ?_;refine po (by first|((refine o1_cs_h (xs:=l) p rfl rfl rfl rfl (by omega) (by omega) ?_;rw [hq]);all_goals exact fz)|fail) ?_)|(refine p_convert ?_;refine po (by first|refine o1_string (ad:=a14) (c:=c14) (xs:=R) rfl rfl rx_row fz|refine o1_string (ad:=ad) (c:=c) (xs:=l) rfl rfl (rx_any h) fz|fail) ?_)|(refine p_binOp .neq ?_;refine po (by first|refine o1_strneq_r (a:=R) (b:=l) (r:=true) rfl rfl (by simp [hk]) fz|fail) ?_)|refine pw ?_|refine pdd ?_|(refine k_fn 83 ?_;(refine o1_call (fun _=>crc_Put _ (cutA ad c 0) q.length (c - 0) q (Rs.up hf) rfl (by omega)) rfl (fun ⟨a14,c14⟩ _=>?_);(try dsimp only);rw [hR,hRl]))|refine ow ?_|fail)
  all_goals dsimp only [List.cons_append,List.nil_append]
  repeat' (first|intro _|refine cw ?_|refine cw2 ?_ ?_|refine ow ?_|refine ow2 ?_ ?_|fail)
  refine rt_tmp2 () rfl rfl rfl rfl trivial ?_
  exact ent
def rtD4_0:List Row:=[⟨some 3,[],[],none⟩,⟨some 4,[0],[0],none⟩,⟨some 5,[1],[0,1],none⟩,⟨some 6,[2],[0,1,2],none⟩,⟨some 7,[3],[0,1,2,3],none⟩,⟨some 8,[4],[0,1,2,3,4],none⟩,⟨some 9,[],[],none⟩,⟨some 10,[6],[6],none⟩,⟨some 11,[7],[6,7],none⟩,⟨some 12,[8],[6,7,8],none⟩,⟨some 13,[5,9],[0,1,2,3,4,5,6,7,8,9],none⟩,⟨some 2,[10,0,1,2,3,4,5,6,7,8,9,10],[0,1,2,3,4,5,6,7,8,9,10],none⟩]
def rtD4_1:List Row:=[⟨some 36,[],[],none⟩,⟨some 37,[0],[0],none⟩,⟨some 38,[1],[0,1],none⟩,⟨some 39,[2],[0,1,2],none⟩,⟨some 40,[],[],none⟩,⟨some 41,[4],[4],none⟩,⟨some 2,[3,0,1,2,3],[0,1,2,3],none⟩,⟨some 3,[5,6,0,1,2,3,4,5,6],[0,1,2,3,4,5,6],none⟩,⟨some 4,[7,0,1,2,3,4,5,6,7],[0,1,2,3,4,5,6,7],none⟩]
def innB (k:BitVec 8) (b:List (BitVec 8)):List (BitVec 8):=k::BitVec.ofInt 8 ((b.length:Int) / 256)::BitVec.ofInt 8 (b.length:Int)::b
def dpB:List (BitVec 8):=[68#8,80#8]
def frameB (k:BitVec 8) (b:List (BitVec 8)):List (BitVec 8):=dpB++crcPut (innB k b)
theorem innB_len (k:BitVec 8) (b:List (BitVec 8)):(innB k b).length=b.length+3:=rfl
theorem frameB_len (k:BitVec 8) (b:List (BitVec 8)):(frameB k b).length=b.length+9:=by
 rw [frameB,List.length_append,crcPut_len,innB_len]
 show 2+_=_
 omega
set_option maxHeartbeats 1000000 in
theorem fr_Wrap (H:List Hl) (k:BitVec 8) (kk:Int) (ad:Option Addr) (m c:Nat) (b:List (BitVec 8)) (h:Rs (stars H) B ad c b) (hm:m=b.length) (hb:m≤291) (h0:1≤m) (hk:BitVec.ofInt 8 kk=k) (hk1:0≤kk∧kk≤255) :
  Spec Tryz.prog 39 [I kk,.slice ad m c] H (fun _:Option Addr × Nat=>True) (fun r => .tuple #[.slice r.1 (m+9) r.2,I 0]) (fun r => .row 5 1 (.slice r.1 (m+9) r.2) (m+9) ((frameB k b).map B)::H):=by
 subst hm
 refine spec_pure (res:=fun r:Option Addr × Nat=>[.row 5 1 (.slice r.1 (b.length+9) r.2) (b.length+9) ((frameB k b).map B)]) H Tryz.func39 rfl Tryz.ntmps39 (by kernel_rfl) rfl (fun W=>?_)
 have b1:=h.le
 have b2:=h.big
 obtain ⟨h3,hh3⟩:∃ h3,[k,BitVec.ofInt 8 ((b.length:Int) / 256),BitVec.ofInt 8 (b.length:Int)]=h3:=⟨_,rfl⟩
 have h3l:h3.length=3:=by rw [←hh3];rfl
 have hin:h3++b=innB k b:=by rw [←hh3];rfl
 obtain ⟨Z,hZ⟩:∃ Z,innB k b=Z:=⟨_,rfl⟩
 have hZl:Z.length=3+b.length:=by rw [←hZ,innB_len];omega
 obtain ⟨Q,hQ⟩:∃ Q,crcPut Z=Q:=⟨_,rfl⟩
 have hQl:Q.length=Z.length+4:=by rw [←hQ,crcPut_len]
 have hF:frameB k b=dpB++Q:=by rw [frameB,hZ,hQ]
 rw [hF]
 rw [hZ] at hin
 repeat' (first|intro _|refine cw ?_|refine cw2 ?_ ?_|(refine k_convert ?_;first|(refine o1_conv_iu rfl ?_;(try rw [hk]))|refine o1_conv_frz (b:=b30) rfl ?_)|(refine k_binOp .shr ?_;refine o1_ishr8 rfl rfl ?_)|(refine k_buildSlice ?_;first|refine o1_lit_enc (T:=22) B h3 rfl rfl (by rw [←hh3];rfl) (fun _=>rfl) rfl rfl rfl (fun b27=>?_)|refine o1_lit_enc (T:=22) B dpB rfl rfl rfl (fun _=>rfl) rfl rfl rfl (fun b30=>?_))|(refine k_call ?_;first|(refine ox_append_box (xs:=h3) (ys:=b) (b:=b27) rfl rfl h3l.symm h3l.symm (rx_any h) rfl rfl (fun _=>rfl) (by omega) (by omega) (fun a29 c29=>?_);rw [hin])|refine ox_append_full (ad:=some ⟨b30,0,none⟩) (ad':=a33) (c':=c33) (xs:=dpB) (ys:=Q) rfl rfl (rx_any (Rs.of_frz (T:=5) (l:=dpB) (enc:=B) (b:=b30) (by decide))) rx_row rfl rfl (by decide) (by omega) rfl (by omega) (by omega) (fun a34 c34=>?_))|(refine k_fn 83 ?_;(refine o1_call (fun hh=>crc_Put _ a29 (3+b.length) c29 Z (rx_row hh) hZl.symm (by omega)) rfl (fun ⟨a33,c33⟩ _=>?_);(try dsimp only);rw [hQ,←hQl]))|refine ow ?_|refine ow2 ?_ ?_|fail)
 have hF9:2+Q.length=b.length+9:=by omega
 rw [hF9]
 refine rt_tmp2 (a34,c34) rfl rfl rfl rfl trivial ?_
 exact ent
theorem bytes_Equal (H:List Hl) (ad ad':Option Addr) (m m' c c':Nat) (l l':List (BitVec 8)) (h:Rs (stars H) B ad c l) (h':Rs (stars H) B ad' c' l') (hm:m=l.length) (hm':m'=l'.length) :
  Spec Tryz.prog 115 [.slice ad m c,.slice ad' m' c'] H (fun _:Unit=>True) (fun _ => .bool (decide (l=l'))) (fun _=>H):=by
 refine spec_pure (res:=fun _=>[]) H Tryz.func115 rfl Tryz.ntmps115 (by kernel_rfl) rfl (fun W=>?_)
 repeat' (first|intro _|refine cw ?_|refine cw2 ?_ ?_|(refine k_convert ?_;first|refine o1_string (ad:=ad) (c:=c) (xs:=l) rfl hm (rx_any h) ?_|refine o1_string (ad:=ad') (c:=c') (xs:=l') rfl hm' (rx_any h') ?_)|(refine k_binOp .eql ?_;refine o1_streq_r (a:=l) (b:=l') rfl rfl rfl ?_)|refine ow ?_|refine ow2 ?_ ?_|fail)
 refine rt_tmp () rfl rfl rfl trivial ?_
 exact ent
theorem bytes_HasPrefix (H:List Hl) (ad ad':Option Addr) (m m' c c':Nat) (l p:List (BitVec 8)) (h:Rs (stars H) B ad c l) (h':Rs (stars H) B ad' c' p) (hm:m=l.length) (hm':m'=p.length) (hp:l.take m'=p) (hle:m'≤m) :
  Spec Tryz.prog 70 [.slice ad m c,.slice ad' m' c'] H (fun _:Unit=>True) (fun _ => .bool true) (fun _=>H):=by
 refine spec_pure (res:=fun _=>[]) H Tryz.func70 rfl Tryz.ntmps70 (by kernel_rfl) rfl (fun W=>?_)
 have b1:=h.le
 have b2:=h.big
 have hf:Rs (stars H) B (cutA ad c 0) (c - 0) p:=by have:=h.cuth m' (by omega);rw [hp] at this;exact this
 repeat' (first|intro _|refine cw ?_|refine cw2 ?_ ?_|(refine k_slice ?_;(refine o1_cs_h (xs:=l) m' rfl rfl rfl hm (by omega) (by omega) ?_;rw [hp,←hm']))|(refine k_fn 115 ?_;refine o1_call (fun _=>(bytes_Equal _ (cutA ad c 0) ad' m' m' (c - 0) c' p p (Rs.up hf) (Rs.up h') hm' hm').bv (b:=true) (by simp)) rfl (fun _ _=>?_))|refine ow ?_|refine ow2 ?_ ?_|fail)
 refine rt_tmp () rfl rfl rfl trivial ?_
 exact ent
theorem fr_length (H:List Hl) (ad:Option Addr) (m c:Nat) (l:List (BitVec 8)) (x3 x4:BitVec 8) (h:Rs (stars H) B ad c l) (hm:m=l.length) (h3:l[3]?=some x3) (h4:l[4]?=some x4) :
  Spec Tryz.prog 71 [.slice ad m c] H (fun _:Unit=>True) (fun _=>I (9+(x3.toNat:Int)*256+(x4.toNat:Int))) (fun _=>H):=by
 refine spec_pure (res:=fun _=>[]) H Tryz.func71 rfl Tryz.ntmps71 (by kernel_rfl) rfl (fun W=>?_)
 have l4:=(List.getElem?_eq_some_iff.1 h4).1
 have g3:=x3.isLt
 have g4:=x4.isLt
 repeat' (first|intro _|refine cw ?_|refine cw2 ?_ ?_|refine ow ?_|refine ow2 ?_ ?_|fail)
 refine st_stages' [(0,_)] rtD4_0 [] [⟨[0,1,2,3,4,5,6,7,8,9,10,11],[],none⟩] mixed cv (by kernel_rfl) (by kernel_rfl) ?_
 repeat' (first|intro _|refine sg ?_|(refine p_indexAddr ?_;refine po (by first|refine o1_ia (ad:=ad) (c:=c) 3 rfl rfl h hm rfl (by omega) fz|refine o1_ia (ad:=ad) (c:=c) 4 rfl rfl h hm rfl l4 fz|fail) ?_)|(refine p_load ?_;refine po (by first|refine o1_load_av (ad:=ad) (c:=c) 3 _ rfl h h3 fz|refine o1_load_av (ad:=ad) (c:=c) 4 _ rfl h h4 fz|fail) ?_)|refine po (by first|refine o1_ishl8 rfl rfl (by omega) fz|fail) ?_|refine pw ?_|refine pdd ?_|refine ow ?_|fail)
 all_goals dsimp only [List.cons_append,List.nil_append]
 repeat' (first|intro _|refine cw ?_|refine cw2 ?_ ?_|refine ow ?_|refine ow2 ?_ ?_|fail)
 refine rt_tmp () rfl rfl rfl trivial ?_
 exact ent
set_option maxHeartbeats 2000000 in
theorem fr_Unwrap (H:List Hl) (k:BitVec 8) (ad:Option Addr) (m c:Nat) (b:List (BitVec 8)) (h:Rs (stars H) B ad c (frameB k b)) (hm:m=b.length+9) (hb:b.length≤291) (h0:1≤b.length) :
  Spec Tryz.prog 34 [.slice ad m c] H (fun _:Option Addr × Nat=>True) (fun r => .tuple #[I k.toNat,.slice (cutA r.1 r.2 3) b.length (r.2 - 3),I 0]) (fun r => .row 5 1 (.slice r.1 (b.length+3) r.2) (b.length+3) ((innB k b).map B)::H):=by
 refine spec_pure (res:=fun r:Option Addr × Nat=>[.row 5 1 (.slice r.1 (b.length+3) r.2) (b.length+3) ((innB k b).map B)]) H Tryz.func34 rfl Tryz.ntmps34 (by kernel_rfl) rfl (fun W=>?_)
 have b1:=h.le
 have b2:=h.big
 have gk:=k.isLt
 have hFl:=frameB_len k b
 obtain ⟨F,hF⟩:∃ F,frameB k b=F:=⟨_,rfl⟩
 have h2:F.take 2=dpB:=by rw [←hF];rfl
 have h3:F[3]?=some (BitVec.ofInt 8 ((b.length:Int) / 256)):=by rw [←hF];rfl
 have h4:F[4]?=some (BitVec.ofInt 8 (b.length:Int)):=by rw [←hF];rfl
 have hlen:9+((BitVec.ofInt 8 ((b.length:Int) / 256)).toNat:Int)*256+((BitVec.ofInt 8 (b.length:Int)).toNat:Int)=(b.length:Int)+9:=by
  simp only [BitVec.toNat_ofInt]
  omega
 obtain ⟨Z,hZ⟩:∃ Z,innB k b=Z:=⟨_,rfl⟩
 have hZl:Z.length=b.length+3:=by rw [←hZ,innB_len]
 have hd:F.drop 2=crcPut Z:=by rw [←hF,←hZ];rfl
 obtain ⟨Q,hQ⟩:∃ Q,crcPut Z=Q:=⟨_,rfl⟩
 have hQl:Q.length=Z.length+4:=by rw [←hQ,crcPut_len]
 have hok:crcOk Q=true:=by rw [←hQ];exact crcOk_put Z
 have hQt:Q.take (Q.length - 4)=Z:=by
  rw [←hQ,crcPut_len,Nat.add_sub_cancel,crcPut,List.take_left']
  rfl
 have hQ4:Q.length - 4=b.length+3:=by omega
 rw [hQ] at hd
 have z0:Z[0]?=some k:=by rw [←hZ];rfl
 have zd:Z.drop 3=b:=by rw [←hZ];rfl
 rw [hF] at h hFl b1
 rw [hZ]
 rw [hQ4] at hQt
 have hf:Rs (stars H) B (cutA ad c 2) (c - 2) Q:=by have:=h.cutl 2 (by omega);rw [hd] at this;exact this
 repeat' (first|intro _|refine cw ?_|refine cw2 ?_ ?_|(refine k_buildSlice ?_;refine o1_lit_enc (T:=22) B dpB rfl rfl rfl (fun _=>rfl) rfl rfl rfl (fun b17=>?_))|(refine k_convert ?_;refine o1_conv_frz (b:=b17) rfl ?_)|(refine k_fn 70 ?_;refine o1_call (fun hh=>bytes_HasPrefix _ ad (some ⟨b17,0,none⟩) m 2 c 2 F dpB h.up (Rs.up (Rs.of_frz (T:=5) (l:=dpB) (enc:=B) (b:=b17) (by decide))) (by omega) rfl h2 (by omega)) rfl (fun _ _=>?_))|(refine k_fn 71 ?_;(refine o1_call (fun _=>fr_length _ ad m c F _ _ h.up (by omega) h3 h4) rfl (fun _ _=>?_);rw [hlen]))|(refine k_binOp .neq ?_;refine o1_neq_f rfl rfl (by omega) ?_)|(refine k_slice ?_;(refine o1_cs_l (xs:=F) 2 rfl rfl rfl (by omega) (by omega) ?_;rw [hd]))|(refine k_fn 72 ?_;(refine o1_call (fun _=>crc_Right _ (cutA ad c 2) Q.length (c - 2) Q (Rs.up hf) rfl (by omega) hok) rfl (fun ⟨a31,c31⟩ _=>?_);(try dsimp only);rw [hQ4,hQt]))|refine ow ?_|refine ow2 ?_ ?_|fail)
 refine st_stages' [(5,_)] rtD4_1 [] [⟨[0,1,2,3,4,5,6,7,8],[],none⟩] mixed cv (by kernel_rfl) (by kernel_rfl) ?_
 repeat' (first|intro _|refine sg ?_|(refine p_indexAddr ?_;refine po (by first|refine o1_iah (enc:=B) (ad:=a31) (c:=c31) (xs:=Z) 0 rfl rfl rx_row hZl.symm rfl (by omega) fz|fail) ?_)|(refine p_load ?_;refine po (by first|refine o1_load_hv (enc:=B) (ad:=a31) (c:=c31) (xs:=Z) 0 k rfl rx_row z0 fz|fail) ?_)|(refine p_slice ?_;refine po (by first|((refine o1_cs_l (xs:=Z) 3 rfl rfl rfl hZl.symm (by omega) ?_;rw [zd]);all_goals exact fz)|fail) ?_)|refine pw ?_|refine pdd ?_|refine ow ?_|fail)
 all_goals dsimp only [List.cons_append,List.nil_append]
 repeat' (first|intro _|refine cw ?_|refine cw2 ?_ ?_|refine ow ?_|refine ow2 ?_ ?_|fail)
 refine rt_tri (a31,c31) rfl rfl rfl rfl rfl trivial ?_
 exact ent
theorem slices_Grow (H:List Hl) (m:Nat) (hb:m≤140737488355328) :
  Spec Tryz.prog 158 [.slice none 0 0,I m] H (fun _:Option Addr × Nat=>True) (fun r => .slice r.1 0 r.2)
   (fun r => .row 5 1 (.slice r.1 0 r.2) 0 (([]:List (BitVec 8)).map B)::H):=by
 refine spec_pure (res:=fun r:Option Addr × Nat=>[.row 5 1 (.slice r.1 0 r.2) 0 (([]:List (BitVec 8)).map B)]) H Tryz.func158 rfl Tryz.ntmps158 (by kernel_rfl) rfl (fun W=>?_)
 refine st_ent (ent_nil 5 B) ?_
 repeat' (first|intro _|refine cw ?_|refine cw2 ?_ ?_|(refine k_call ?_;first|refine o1_cap rfl ?_|(refine ox_append_zeros (enc:=B) 0#8 (k:=m) (xs:=([]:List (BitVec 8))) rfl rfl (by omega) rfl rfl (by omega) (by omega) (fun a1 c1=>?_)))|(refine k_slice ?_;(refine ox_cs_hr (enc:=B) (xs:=([]:List (BitVec 8))) 0 rfl rfl rfl rfl (Nat.le_refl _) ?_;rw [show Value.slice (cutA none 0 0) (List.take 0 ([]:List (BitVec 8))).length (0 - 0)=Value.slice none 0 0 from rfl]))|(refine o1_prefix (enc:=B) (xs:=([]:List (BitVec 8))++List.replicate m 0#8) 0 rfl rfl rfl (by omega) (by simp) ?_)|refine ow ?_|refine ow2 ?_ ?_|fail)
 all_goals
  refine rt_tmp (_,_) rfl rfl rfl trivial ?_
  exact ent
theorem slices_Concat (H:List Hl) (ad:Option Addr) (c:Nat) (ls:List (SlD (BitVec 8))) (h:Rs (stars H) Bs ad c ls) (hs:∀ s∈ls,Rs (stars H) B s.ad s.cap s.l) (hb:(cat ls).length≤140737488355328) :
  Spec Tryz.prog 111 [.slice ad ls.length c] H (fun _:Option Addr × Nat=>True) (fun r => .slice r.1 (cat ls).length r.2)
   (fun r => .row 5 1 (.slice r.1 (cat ls).length r.2) (cat ls).length ((cat ls).map B)::H):=by
 have b1:=h.le
 have b2:=h.big
 have hle:∀ i,(cat (ls.take i)).length≤(cat ls).length:=fun i=>by
  have:cat ls=cat (ls.take i)++cat (ls.drop i):=by simp only [cat];rw [←List.flatMap_append,List.take_append_drop]
  rw [this,List.length_append]
  omega
 refine spec_pure (res:=fun r:Option Addr × Nat=>[.row 5 1 (.slice r.1 (cat ls).length r.2) (cat ls).length ((cat ls).map B)]) H Tryz.func111 rfl Tryz.ntmps111 (by kernel_rfl) rfl (fun W=>?_)
 repeat' (first|intro _|refine cw ?_|refine cw2 ?_ ?_|refine ow ?_|refine ow2 ?_ ?_|fail)
 refine st_loop (S:=Nat) (fun i=>[(0,.slice ad ls.length c),(3,I (cat (ls.take i)).length),(9,.slice ad ls.length c),(10,I ls.length),(11,I i)]) (fun _=>[.any (stars H)]) (fun i=>i≤ls.length) (fun i=>ls.length - i) 0 (by omega)
  cv (Ent.refl _) ?_
 intro i hi
 have hi1:=hle (i+1)
 by_cases hlt:i<ls.length
 ·rw [cat_succ _ _ hlt,List.length_append] at hi1
  repeat' (first|intro _|refine cw ?_|refine cw2 ?_ ?_|(refine k_indexAddr ?_;refine o1_indexAddr_rd rfl rfl h i rfl hlt (fun a ha=>?_))|refine ow ?_|refine ow2 ?_ ?_|fail)
  refine nx_again (i+1) (by omega) (by omega) (cov_cons rfl rfl (cov_cons rfl ?_ cv)) (Ent.refl _)
  rw [cat_succ _ _ hlt,List.length_append];simp
 ·have:i=ls.length:=by omega
  subst this
  rw [List.take_length]
  repeat' (first|intro _|refine cw ?_|refine cw2 ?_ ?_|(refine k_fn 158 ?_;(refine o1_call (fun _=>slices_Grow _ (cat ls).length hb) rfl (fun ⟨a0,c0⟩ _=>?_);dsimp only))|refine ow ?_|refine ow2 ?_ ?_|fail)
  refine st_loop (S:=Nat × Option Addr × Nat) (fun s=>[(6,.slice s.2.1 (cat (ls.take s.1)).length s.2.2),(25,.slice ad ls.length c),(26,I ls.length),(27,I s.1)]) (fun s=>[.row 5 1 (.slice s.2.1 (cat (ls.take s.1)).length s.2.2) (cat (ls.take s.1)).length ((cat (ls.take s.1)).map B),.any (stars H)]) (fun s=>s.1≤ls.length) (fun s=>ls.length - s.1) (0,a0,c0) (by omega)
   cv (Ent.refl _) ?_
  rintro ⟨i,a1,c1⟩ hi
  dsimp only at hi ⊢
  have hi1:=hle (i+1)
  by_cases hlt:i<ls.length
  ·have hsi:=hs ls[i] (List.getElem_mem _)
   rw [cat_succ _ _ hlt,List.length_append] at hi1
   repeat' (first|intro _|refine cw ?_|refine cw2 ?_ ?_|(refine k_indexAddr ?_;refine o1_indexAddr_rd rfl rfl h i rfl hlt (fun a ha=>?_))|(refine k_call ?_;refine ox_append rfl rfl (rx_any hsi) rfl rfl (fun _=>rfl) (by omega) (by omega) (fun a2 c2=>?_))|refine ow ?_|refine ow2 ?_ ?_|fail)
   refine nx_again (i+1,a2,c2) ?_ ?_ (cov_cons rfl ?_ cv) ?_
   ·show i+1≤_;omega
   ·show ls.length - (i+1)<ls.length - i;omega
   ·show _=Value.slice a2 (cat (ls.take (i+1))).length c2
    rw [cat_succ _ _ hlt,List.length_append]
   ·show Ent _ [Hl.row 5 1 (.slice a2 (cat (ls.take (i+1))).length c2) (cat (ls.take (i+1))).length ((cat (ls.take (i+1))).map B),.any (stars H)]
    rw [cat_succ _ _ hlt,List.length_append]
    exact Ent.refl _
  ·have:i=ls.length:=by omega
   subst this
   repeat' (first|intro _|refine cw ?_|refine cw2 ?_ ?_|refine ow ?_|refine ow2 ?_ ?_|fail)
   simp only [List.take_length]
   refine rt_tmp (_,_) rfl rfl rfl trivial ?_
   exact ent
theorem mf_wide (H:List Hl) (x:BitVec 32):Spec Tryz.prog 127 [W4 x] H (fun _:Nat=>True) (fun b => .slice (some ⟨b,0,none⟩) 4 4) (fun b => .box b 5 ((be4 x).map B)::H):=by
 refine spec_pure (res:=fun b:Nat=>[.box b 5 ((be4 x).map B)]) H Tryz.func127 rfl Tryz.ntmps127 (by kernel_rfl) rfl (fun W=>?_)
 repeat' (first|intro _|refine cw ?_|refine cw2 ?_ ?_|refine ow ?_|refine ow2 ?_ ?_|fail)
 refine rt_tmp _ rfl rfl rfl trivial ?_
 exact ent
theorem mf_number (H:List Hl) (ad:Option Addr) (c:Nat) (l:List (BitVec 8)) (h:Rs (stars H) B ad c l):Spec Tryz.prog 147 [.slice ad l.length c] H (fun _:Unit=>True) (fun _=>W4 (num32 l)) (fun _=>H):=by
 have b1:=h.le
 have b2:=h.big
 refine spec_pure (res:=fun _=>[]) H Tryz.func147 rfl Tryz.ntmps147 (by kernel_rfl) rfl (fun W=>?_)
 repeat' (first|intro _|refine cw ?_|refine cw2 ?_ ?_|refine ow ?_|refine ow2 ?_ ?_|fail)
 refine st_loop (S:=Nat) (fun i=>[(3,W4 (num32 (l.take i))),(6,.slice ad l.length c),(7,I l.length),(8,I i)]) (fun _=>_) (fun i=>i≤l.length) (fun i=>l.length - i) 0 (by omega)
  cv (Ent.refl _) ?_
 intro i hi
 repeat' (first|intro _|refine cw ?_|refine cw2 ?_ ?_|(refine k_indexAddr ?_;refine o1_indexAddr_rd rfl rfl h i rfl (by omega) (fun a ha=>?_))|refine ow ?_|refine ow2 ?_ ?_|fail)
 ·refine nx_again (i+1) (by omega) (by omega) (cov_cons rfl ?_ cv) (Ent.refl _)
  rw [num32_succ _ _ (by omega)];rfl
 ·have:i=l.length:=by omega
  subst this
  refine rt_tmp () rfl rfl ?_ trivial ?_
  ·rw [List.take_length]
  ·exact ent
def rtG2_0:List Row:=[⟨some 7,[],[],none⟩,⟨some 8,[0],[0],none⟩,⟨some 9,[1],[0,1],none⟩,⟨some 10,[],[],none⟩,⟨some 11,[3],[3],none⟩,⟨some 12,[4,2],[0,1,2,3,4],none⟩,⟨some 13,[],[],none⟩,⟨some 14,[6],[6],none⟩,⟨some 15,[7],[6,7],none⟩,⟨some 16,[8],[6,7,8],none⟩,⟨some 17,[],[],none⟩,⟨some 18,[10],[10],none⟩,⟨some 19,[11],[10,11],none⟩,⟨some 20,[],[],none⟩,⟨some 21,[13],[13],none⟩,⟨some 22,[14],[13,14],none⟩,⟨some 23,[],[],none⟩,⟨some 24,[16],[16],none⟩,⟨some 25,[17],[16,17],none⟩,⟨some 26,[9,12,15,18],[6,7,8,9,10,11,12,13,14,15,16,17,18],none⟩,⟨some 27,[],[],none⟩,⟨some 28,[20],[20],none⟩,⟨some 29,[2,5,19,21],[0,1,2,3,4,5,6,7,8,9,10,11,12,13,14,15,16,17,18,19,20,21],none⟩,⟨some 30,[22,5],[0,1,2,3,4,5,6,7,8,9,10,11,12,13,14,15,16,17,18,19,20,21,22],none⟩,⟨some 2,[23,23,0,1,2,3,4,5,6,7,8,9,10,11,12,13,14,15,16,17,18,19,20,21,22,23],[0,1,2,3,4,5,6,7,8,9,10,11,12,13,14,15,16,17,18,19,20,21,22,23],none⟩,⟨some 3,[24,0,1,2,3,4,5,6,7,8,9,10,11,12,13,14,15,16,17,18,19,20,21,22,23,24],[0,1,2,3,4,5,6,7,8,9,10,11,12,13,14,15,16,17,18,19,20,21,22,23,24],none⟩]
def rtG2_1:List Row:=[⟨some 9,[],[],none⟩,⟨some 10,[0],[0],none⟩,⟨some 11,[1],[0,1],none⟩,⟨some 12,[],[],none⟩,⟨some 13,[3],[3],none⟩,⟨some 14,[4,2],[0,1,2,3,4],none⟩,⟨some 15,[],[],none⟩,⟨some 16,[6],[6],none⟩,⟨some 17,[7,5],[0,1,2,3,4,5,6,7],none⟩,⟨some 18,[8],[0,1,2,3,4,5,6,7,8],none⟩,⟨some 19,[],[],none⟩,⟨some 20,[10],[10],none⟩,⟨some 21,[11],[10,11],none⟩,⟨some 22,[12],[10,11,12],none⟩,⟨some 23,[],[],none⟩,⟨some 24,[14],[14],none⟩,⟨some 25,[15],[14,15],none⟩,⟨some 26,[16],[14,15,16],none⟩,⟨some 27,[],[],none⟩,⟨some 28,[18],[18],none⟩,⟨some 29,[19,8],[0,1,2,3,4,5,6,7,8,18,19],none⟩,⟨some 30,[2,5,9,13,17,20],[0,1,2,3,4,5,6,7,8,9,10,11,12,13,14,15,16,17,18,19,20],none⟩,⟨some 4,[],[],none⟩,⟨none,[22,21,20,0,1,2,3,4,5,6,7,8,9,10,11,12,13,14,15,16,17,18,19,20,21,22],[0,1,2,3,4,5,6,7,8,9,10,11,12,13,14,15,16,17,18,19,20,21,22],none⟩]
def rtG2_2:List Row:=[⟨some 9,[],[],none⟩,⟨some 10,[0],[0],none⟩,⟨some 11,[1],[0,1],none⟩,⟨some 12,[],[],none⟩,⟨some 13,[3],[3],none⟩,⟨some 14,[4,2],[0,1,2,3,4],none⟩,⟨some 15,[],[],none⟩,⟨some 16,[6],[6],none⟩,⟨some 17,[7,5],[0,1,2,3,4,5,6,7],none⟩,⟨some 18,[8],[0,1,2,3,4,5,6,7,8],none⟩,⟨some 19,[],[],none⟩,⟨some 20,[10],[10],none⟩,⟨some 21,[11],[10,11],none⟩,⟨some 22,[12],[10,11,12],none⟩,⟨some 23,[],[],none⟩,⟨some 24,[14],[14],none⟩,⟨some 25,[15],[14,15],none⟩,⟨some 26,[16],[14,15,16],none⟩,⟨some 27,[],[],none⟩,⟨some 28,[18],[18],none⟩,⟨some 29,[19,8],[0,1,2,3,4,5,6,7,8,18,19],none⟩,⟨some 30,[2,5,9,13,17,20],[0,1,2,3,4,5,6,7,8,9,10,11,12,13,14,15,16,17,18,19,20],none⟩,⟨some 4,[],[],none⟩,⟨none,[22,21,20,0,1,2,3,4,5,6,7,8,9,10,11,12,13,14,15,16,17,18,19,20,21,22],[0,1,2,3,4,5,6,7,8,9,10,11,12,13,14,15,16,17,18,19,20,21,22],none⟩]
abbrev rowB (r:PA) (l:List (BitVec 8)):Hl := .row 5 1 (.slice r.1 l.length r.2) l.length (l.map B)
abbrev mid4 (x:ManD):List (BitVec 8):=[BitVec.ofInt 8 (x.n / 256),BitVec.ofInt 8 x.n,BitVec.ofInt 8 x.z,BitVec.ofInt 8 x.p]
def ManD.by (x:ManD):List (BitVec 8):=be4 x.s++(be4 x.v++(mid4 x++x.h.l))
theorem by_cat (x:ManD) (a1 a2 a3 a4:Option Addr) (c1 c2 c3 c4:Nat):cat [⟨a1,c1,be4 x.s⟩,⟨a2,c2,be4 x.v⟩,⟨a3,c3,mid4 x⟩,⟨a4,c4,x.h.l⟩]=x.by:=by simp [cat,ManD.by]
theorem by_len (x:ManD):x.by.length=12+x.h.l.length:=by simp [ManD.by,be4,mid4];omega
theorem may_len {x:ManD} (h:x.may=true):x.h.l.length=32:=by
 simp only [ManD.may,Bool.and_eq_true,decide_eq_true_eq] at h;exact h.2
set_option maxHeartbeats 2000000 in
theorem mf_Plain (H:List Hl) (x:ManD) (h:x.may=true) (hr:RdS (stars H) x.h):Spec Tryz.prog 81 [x.V] H (fun _:PA=>True) (fun r => .tuple #[.slice r.1 x.by.length r.2,I 0]) (fun r=>rowB r x.by::H):=by
 refine spec_pure (res:=fun r:PA=>[rowB r x.by]) H Tryz.func81 rfl Tryz.ntmps81 (by kernel_rfl) rfl (fun W=>?_)
 have hl:=may_len h
 repeat' (first|intro _|refine cw ?_|refine cw2 ?_ ?_|(refine k_fn 57 ?_;refine o1_call (fun _=>(mf_May _ x).bv (b:=true) h) rfl (fun _ _=>?_))|refine ow ?_|refine ow2 ?_ ?_|fail)
 refine st_tree' [(1,_)] rtG2_0 [2,5,19,22,23] (.alt [0,1,3,4,6,7,8,9,10,11,12,13,14,15,16,17,18,20,21] [] 2 (.alt [] [3,4,6,7,8,9,10,11,12,13,14,15,16,17,18,20,21] 5 (.step [] [6,7,8,9,10,11,12,13,14,15,16,17,18,20,21] 19 (.step [] [20,21] 22 (.step [] [] 23 (.fin [24,25] [])))) 19 (.step [] [3,4,20,21] 5 (.step [] [20,21] 22 (.step [] [] 23 (.fin [24,25] []))))) 19 (.step [] [0,1,3,4,20,21] 2 (.step [] [3,4,20,21] 5 (.step [] [20,21] 22 (.step [] [] 23 (.fin [24,25] [])))))) mixed cv (by kernel_rfl) (by kernel_rfl) ?_
 repeat' (first|intro _|refine sg ?_|(refine p_binOp .shr ?_;refine po (by first|refine o1_ishr8 rfl rfl fz|fail) ?_)|refine pw ?_|refine pdd ?_|(refine k_fn 127 ?_;first|refine o1_call (fun _=>mf_wide _ x.s) rfl (fun b1 _=>?_)|refine o1_call (fun _=>mf_wide _ x.v) rfl (fun b2 _=>?_))|(refine k_buildSlice ?_;first|refine o1_lit_B rfl rfl rfl rfl rfl (fun b3=>?_)|refine o1_lit_enc Bs [⟨some ⟨b1,0,none⟩,4,be4 x.s⟩,⟨some ⟨b2,0,none⟩,4,be4 x.v⟩,⟨some ⟨b3,0,none⟩,4,mid4 x⟩,x.h] rfl rfl rfl (fun _=>rfl) rfl rfl rfl (fun b4=>?_))|(refine k_fn 111 ?_;(refine o1_call (fun hh=>slices_Concat _ _ _ [⟨some ⟨b1,0,none⟩,4,be4 x.s⟩,⟨some ⟨b2,0,none⟩,4,be4 x.v⟩,⟨some ⟨b3,0,none⟩,4,mid4 x⟩,x.h] (rx_lit rfl rfl hh) (fa_cons (rx_lit rfl rfl hh) (fa_cons (rx_lit rfl rfl hh) (fa_cons (rx_lit rfl rfl hh) (fa_cons (Rs.up hr) fa_nil)))) (by rw [by_cat,by_len];omega)) rfl (fun ⟨a5,c5⟩ _=>?_);dsimp only;rw [by_cat]))|refine ow ?_|refine And.intro ?_ ?_|fail)
 all_goals dsimp only [List.cons_append,List.nil_append]
 all_goals
  repeat' (first|intro _|refine cw ?_|refine cw2 ?_ ?_|refine ow ?_|refine ow2 ?_ ?_|fail)
  refine rt_tmp2 (a5,c5) rfl rfl rfl rfl trivial ?_
  exact ent
def manO (l:List (BitVec 8)) (r:PA):ManD:=⟨num32 ((l.take 4).drop 0),num32 ((l.take 8).drop 4),((num32 ((l.take 10).drop 8)).toNat:Int),(((l.getD 10 0#8)).toNat:Int),(((l.getD 11 0#8)).toNat:Int),⟨r.1,r.2,l.drop 12⟩⟩
theorem getD_at {l:List (BitVec 8)} {i:Nat} (h:i<l.length):l.getD i 0#8=l[i]:=by simp [List.getD_eq_getElem?_getD,h]
theorem mf_Read_len (H:List Hl) (ad:Option Addr) (c:Nat) (l:List (BitVec 8)) (h:l.length≠44):Spec Tryz.prog 96 [.slice ad l.length c] H (fun _:Unit=>True) (fun _ => .tuple #[zM.V,I 3]) (fun _=>H):=by
 refine spec_pure (res:=fun _=>[]) H Tryz.func96 rfl Tryz.ntmps96 (by kernel_rfl) rfl (fun W=>?_)
 repeat' (first|intro _|refine cw ?_|refine cw2 ?_ ?_|refine ow ?_|refine ow2 ?_ ?_|fail)
 refine rt_cell_tmp () rfl rfl rfl rfl rfl trivial ?_
 exact ent
set_option maxHeartbeats 4000000 in
theorem mf_Read (H:List Hl) (ad:Option Addr) (c:Nat) (l:List (BitVec 8)) (h:Rs (stars H) B ad c l) (hl:l.length=44) (hm:(manO l (none,0)).may=true) :
  Spec Tryz.prog 96 [.slice ad l.length c] H (fun _:PA=>True) (fun r => .tuple #[(manO l r).V,I 0]) (fun r=>rowB r (l.drop 12)::H):=by
 refine spec_pure (res:=fun r:PA=>[rowB r (l.drop 12)]) H Tryz.func96 rfl Tryz.ntmps96 (by kernel_rfl) rfl (fun W=>?_)
 repeat' (first|intro _|refine cw ?_|refine cw2 ?_ ?_|refine ow ?_|refine ow2 ?_ ?_|fail)
 have k10:l.getD 10 0#8=l[10]:=getD_at (by omega)
 have k11:l.getD 11 0#8=l[11]:=getD_at (by omega)
 refine st_tree' [(0,_)] rtG2_1 [20,22,23] (.alt [0,1,2,3,4,5,6,7,8,9,10,11,12,13,14,15,16,17,18,19] [] 20 (.step [21] [9,10,11,12,13,14,15,16,17] 22 (.step [] [9,10,11,12,13,14,15,16,17,21] 23 (.fin [] []))) 22 (.step [] [0,1,2,3,4,5,6,7,8,9,10,11,12,13,14,15,16,17,18,19] 20 (.step [21] [9,10,11,12,13,14,15,16,17] 23 (.fin [] [])))) mixed cv (by kernel_rfl) (by kernel_rfl) ?_
 repeat' (first|intro _|refine sg ?_|(refine p_slice ?_;refine po (by first|refine o1_cv_h rfl rfl h rfl (by omega) (by omega) fz|refine o1_cv_lh rfl rfl rfl h rfl (by omega) (by omega) fz|refine o1_cv_l rfl rfl h rfl (by omega) (by omega) fz|fail) ?_)|(refine p_fn 147 ?_;refine po (by first|refine o1_call (fun _=>mf_number _ _ _ _ (Rs.up (h.cutv 0 4 (by omega) (by omega)))) rfl (fun _ _=>fz)|refine o1_call (fun _=>mf_number _ _ _ _ (Rs.up (h.cutv 4 8 (by omega) (by omega)))) rfl (fun _ _=>fz)|refine o1_call (fun _=>mf_number _ _ _ _ (Rs.up (h.cutv 8 10 (by omega) (by omega)))) rfl (fun _ _=>fz)|fail) ?_)|(refine p_indexAddr ?_;refine po (by first|refine o1_ia 10 rfl rfl h rfl rfl (by omega) fz|refine o1_ia 11 rfl rfl h rfl rfl (by omega) fz|fail) ?_)|(refine p_load ?_;refine po (by first|refine o1_load_ia 10 rfl h (by omega) fz|refine o1_load_ia 11 rfl h (by omega) fz|fail) ?_)|refine pw ?_|refine pdd ?_|(refine k_fn 29 ?_;(refine o1_call (fun _=>slices_Clone _ _ _ (l.drop 12) (Rs.up (h.cutl 12 (by omega))) (by simp;omega)) rfl (fun ⟨a5,c5⟩ _=>?_);dsimp only))|refine ow ?_|refine And.intro ?_ ?_|fail)
 all_goals dsimp only [List.cons_append,List.nil_append]
 all_goals
  repeat' (first|intro _|refine cw ?_|refine cw2 ?_ ?_|(refine k_fn 57 ?_;refine o1_call (fun _=>(mf_May _ ⟨num32 ((l.take 4).drop 0),num32 ((l.take 8).drop 4),((num32 ((l.take 10).drop 8)).toNat:Int),(l[10].toNat:Int),(l[11].toNat:Int),⟨a5,c5,l.drop 12⟩⟩).bv (b:=true) (by rw [←k10,←k11];exact hm)) rfl (fun _ _=>?_))|refine ow ?_|refine ow2 ?_ ?_|fail)
  refine rt_cell_tmp (a5,c5) rfl rfl rfl rfl (by simp only [manO,k10,k11];rfl) trivial ?_
  exact ent
set_option maxHeartbeats 4000000 in
theorem mf_Read_no (H:List Hl) (ad:Option Addr) (c:Nat) (l:List (BitVec 8)) (h:Rs (stars H) B ad c l) (hl:l.length=44) (hm:(manO l (none,0)).may=false) :
  Spec Tryz.prog 96 [.slice ad l.length c] H (fun _:Unit=>True) (fun r => .tuple #[zM.V,I 3]) (fun r=>H):=by
 refine spec_pure (res:=fun _:Unit=>[]) H Tryz.func96 rfl Tryz.ntmps96 (by kernel_rfl) rfl (fun W=>?_)
 repeat' (first|intro _|refine cw ?_|refine cw2 ?_ ?_|refine ow ?_|refine ow2 ?_ ?_|fail)
 have k10:l.getD 10 0#8=l[10]:=getD_at (by omega)
 have k11:l.getD 11 0#8=l[11]:=getD_at (by omega)
 refine st_tree' [(0,_)] rtG2_2 [20,22,23] (.alt [0,1,2,3,4,5,6,7,8,9,10,11,12,13,14,15,16,17,18,19] [] 20 (.step [21] [9,10,11,12,13,14,15,16,17] 22 (.step [] [9,10,11,12,13,14,15,16,17,21] 23 (.fin [] []))) 22 (.step [] [0,1,2,3,4,5,6,7,8,9,10,11,12,13,14,15,16,17,18,19] 20 (.step [21] [9,10,11,12,13,14,15,16,17] 23 (.fin [] [])))) mixed cv (by kernel_rfl) (by kernel_rfl) ?_
 repeat' (first|intro _|refine sg ?_|(refine p_slice ?_;refine po (by first|refine o1_cv_h rfl rfl h rfl (by omega) (by omega) fz|refine o1_cv_lh rfl rfl rfl h rfl (by omega) (by omega) fz|refine o1_cv_l rfl rfl h rfl (by omega) (by omega) fz|fail) ?_)|(refine p_fn 147 ?_;refine po (by first|refine o1_call (fun _=>mf_number _ _ _ _ (Rs.up (h.cutv 0 4 (by omega) (by omega)))) rfl (fun _ _=>fz)|refine o1_call (fun _=>mf_number _ _ _ _ (Rs.up (h.cutv 4 8 (by omega) (by omega)))) rfl (fun _ _=>fz)|refine o1_call (fun _=>mf_number _ _ _ _ (Rs.up (h.cutv 8 10 (by omega) (by omega)))) rfl (fun _ _=>fz)|fail) ?_)|(refine p_indexAddr ?_;refine po (by first|refine o1_ia 10 rfl rfl h rfl rfl (by omega) fz|refine o1_ia 11 rfl rfl h rfl rfl (by omega) fz|fail) ?_)|(refine p_load ?_;refine po (by first|refine o1_load_ia 10 rfl h (by omega) fz|refine o1_load_ia 11 rfl h (by omega) fz|fail) ?_)|refine pw ?_|refine pdd ?_|(refine k_fn 29 ?_;(refine o1_call (fun _=>slices_Clone _ _ _ (l.drop 12) (Rs.up (h.cutl 12 (by omega))) (by simp;omega)) rfl (fun ⟨a5,c5⟩ _=>?_);dsimp only))|refine ow ?_|refine And.intro ?_ ?_|fail)
 all_goals dsimp only [List.cons_append,List.nil_append]
 all_goals
  repeat' (first|intro _|refine cw ?_|refine cw2 ?_ ?_|(refine k_fn 57 ?_;refine o1_call (fun _=>(mf_May _ ⟨num32 ((l.take 4).drop 0),num32 ((l.take 8).drop 4),((num32 ((l.take 10).drop 8)).toNat:Int),(l[10].toNat:Int),(l[11].toNat:Int),⟨a5,c5,l.drop 12⟩⟩).bv (b:=false) (by rw [←k10,←k11];exact hm)) rfl (fun _ _=>?_))|refine ow ?_|refine ow2 ?_ ?_|fail)
  refine rt_cell_tmp () rfl rfl rfl rfl rfl trivial ?_
  exact ent
end Go.Dp
