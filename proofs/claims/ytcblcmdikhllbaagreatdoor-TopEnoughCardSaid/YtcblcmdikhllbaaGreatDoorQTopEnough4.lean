/-
  Downpour, walked and proved: part 4.
  Conditions: those that stand in each theorem.
-/
import Derived.Test.YtcblcmdikhllbaaGreatDoorQTopEnough3
import Derived.Defers
import Derived.Laws.LoneSync
import Derived.Test.YtcblcmdikhllbaaGreatDoorQTopEnough1
import Derived.Test.YtcblcmdikhllbaaGreatDoorProg
import Derived.KernelRfl
set_option linter.unusedVariables false
set_option linter.unusedSimpArgs false
set_option maxHeartbeats 64000000
namespace Go.Dp
open Go.RowKit
theorem own_grown_at (w:World) (z:Value) (E:TypeId) (xs:List Value) (m k0:Nat) (hm:xs.length=m) (hz:z.oneCell'=true) (h63:m≤maxLen) (row:Option Nat) :
  (w.drew.alloc (.cells (xs.toArray++Builtin.zeroCells z.cells (grownCap w m k0 E - m)) E)).ownsRow 0 E 1 (.slice (some ⟨w.heap.size,0,none⟩) m (grownCap w m k0 E)) m xs ∧
   w.grownBy (w.drew.alloc (.cells (xs.toArray++Builtin.zeroCells z.cells (grownCap w m k0 E - m)) E)) row:=by
 have hzc:z.cells.size=1:=by rw [a3O hz];rfl
 have hge:=grownCap_ge w m k0 E
 have hcm:grownCap w m k0 E≤maxLen:=grownCap_le_maxLen w m k0 E h63
 refine ⟨⟨by omega,.inr ⟨w.heap.size,_,_,rfl,Nat.zero_le _,_root_.Go.heap_alloc_new w.drew _,hge,hcm,?_,?_⟩⟩,⟨rfl,rfl,rfl,by simp,fun k hk _=>_root_.Go.heap_alloc_old w.drew _ hk⟩⟩
 ·simp only [Array.size_append,List.size_toArray,size_zeroCells,hzc,hm]
  omega
 ·simp only [Array.toList_append,Nat.mul_one,←hm]
  exact List.take_left
section
variable {P:Program} {n:Nat} {H:List Hl} {e:Ev} {C:Value→List Hl→Prop} {ty t t':TypeId} {x y:Operand} {p q:Int} {kd':IntKind}
theorem b9B (hx:opd e x=some (.int .i64 p)) (hy:opd e y=some (.int kd' 8)) (hb : -9223372036854775808≤p*256∧p*256≤9223372036854775807) (h:C (.int .i64 (p*256)) H):O1 P (.binOp .shl t x y t') ty n e H C :=
 a5W hx hy (fun w=>by
  have e1:p*2 ^ min (Int.toNat 8) IntKind.i64.bits=p*256:=rfl
  rw [binOp_shl,shift_shl_any _ _ _ _ (by omega),Sem.run_pure,e1,a8B hb.1 hb.2]) h
theorem o1_ior (a b:Nat) (hx:opd e x=some (.int .i64 p)) (hy:opd e y=some (.int .i64 q)) (ha:p=a) (hq:q=b) (h1:a<2 ^ 62) (h2:b<2 ^ 62) (h:C (.int .i64 ((a ||| b:Nat):Int)) H):O1 P (.binOp .or t x y t') ty n e H C :=
 a5W hx hy (fun w=>by
  subst ha hq
  have e3:(BitVec.ofInt 64 (a:Int) ||| BitVec.ofInt 64 (b:Int)).toNat=a ||| b:=by
   rw [BitVec.ofInt_natCast,BitVec.ofInt_natCast,BitVec.toNat_or,BitVec.toNat_ofNat,BitVec.toNat_ofNat,Nat.mod_eq_of_lt (Nat.lt_trans h1 (by decide)),Nat.mod_eq_of_lt (Nat.lt_trans h2 (by decide))]
  have h3:a ||| b<2 ^ 62:=Nat.or_lt_two_pow h1 h2
  have hw:IntKind.i64.wrap ((BitVec.ofInt (IntKind.bits .i64) (a:Int) ||| BitVec.ofInt (IntKind.bits .i64) (b:Int)).toNat:Int)=((a ||| b:Nat):Int):=by
   show IntKind.i64.wrap ((BitVec.ofInt 64 (a:Int) ||| BitVec.ofInt 64 (b:Int)).toNat:Int)=_
   rw [e3]
   exact a8B (by omega) (by omega)
  simp only [binOp_or,Op.intBits,Sem.run_pure,hw]) h
theorem o1_sub_any (hx:opd e x=some (.int .i64 p)) (hy:opd e y=some (.int .i64 q)) (h:∀ v,C (.int .i64 v) H):O1 P (.binOp .sub t x y t') ty n e H C :=
 a5W (r:=IntKind.i64.wrap (p - q)) hx hy (fun w=>by rw [binOp_sub];simp [Op.intArith]) (h _)
theorem ox_append_full {α:Type} {enc:α→Value} {T E:TypeId} {z:Value} {by_:Nat} {ad ad':Option Addr} {a0 m c':Nat} {xs ys:List α} [ht:TSl P T E] [hi:TInf P E z 1 by_] (hx:opd e x=some (.slice ad a0 a0)) (hy:opd e y=some (.slice ad' m c')) (hrx:RsH H enc ad a0 xs) (hr:RsH H enc ad' c' ys) (ha:a0=xs.length) (hm:m=ys.length) (h0:0<a0) (hne:0<m) (hz:z.oneCell'=true)
  (hb:(a0+m)*by_≤140737488355328) (hb2:a0+m≤9223372036854775807) (h:∀ ad2 c2,C (.slice ad2 (a0+m) c2) (.row E 1 (.slice ad2 (a0+m) c2) (a0+m) ((xs++ys).map enc)::H)):O1 P (.call ⟨.builtin .append, #[x,y], #[T,T]⟩) ty n e H C :=
 a6E fun a w ho=>by
  subst hm ha
  obtain ⟨i,hi0,hiz,his,hib⟩:=hi.info
  have hr:=hr ho.has
  have hrx:=hrx ho.has
  obtain ⟨b,rfl⟩:=hr.sm hne
  obtain ⟨b0,rfl⟩:=hrx.sm h0
  subst hib
  have hcell:∀ (l:List α) (q:Addr),(∀ j x,l[j]?=some x→w.cell? (q.add j)=some (enc x))→∀ j v,(l.map enc)[j]?=some v→w.cell? (q.add j)=some v:=fun l q hq j u hj=>by
   simp only [List.getElem?_map,Option.map_eq_some_iff] at hj
   obtain ⟨x,hx,rfl⟩:=hj
   exact hq j x hx
  have hfit:Builtin.nextslicecap (xs.length+ys.length) xs.length*i.bytes≤281474976710656:=growslice_fits (by omega) hb
  have hrun:=run_append_grow (P:=P) w T ty E i z ht.u hi0 hiz b0 xs.length xs.length (xs.map enc) (by rw [his];simp) (hcell xs b0 (fun j x hj=>hrx.cell w ho.sat b0 rfl j x hj)) b ys.length c' (ys.map enc) (by rw [his];simp) (hcell ys b (fun j x hj=>hr.cell w ho.sat b rfl j x hj)) (by omega) (by omega) hfit
  have hg:=own_grown_at w z E ((xs++ys).map enc) (xs.length+ys.length) xs.length (by simp) hz (by simp only [maxLen];omega) (Value.ownBlock (.slice none 0 0))
  have ejoin:(xs.map enc).toArray++(ys.map enc).toArray=((xs++ys).map enc).toArray:=by simp
  rw [ejoin] at hrun
  refine ⟨_,_,?_,_,h _ _,⟨hg.2.os,hg.2.tape,hg.2.output,hg.2.size⟩,(ho.sat.mono (b2B E 1)).grown .here hg.1 hg.2 (.inr rfl)⟩
  simp [execOp,resolve,invoke,builtin,ho.ev.eval hx,ho.ev.eval hy,hrun]
end
theorem Spec.argE {P:Program} {f:FuncId} {args args':List Value} {H:List Hl} {X:Type} {good:X→Prop} {val:X→Value} {res:X→List Hl} (h:Spec P f args H good val res) (e:args=args'):Spec P f args' H good val res:=e ▸ h
theorem rt_tri {P:Program} {n:Nat} {e:Ev} {W:World} {H:List Hl} {X:Type} {fn:Func} {good:X→Prop} {val:X→Value} {res:X→List Hl} {t t' t2:Nat} {v v' v2:Value} (r:X) (hres:fn.results = #[.tmp t,.tmp t',.tmp t2]) (hl:look e t=some v) (hl':look e t'=some v') (hl2:look e t2=some v2) (hv : .tuple #[v,v',v2]=val r) (hg:good r) (hE:Ent H (res r)) :
  Rt P (.fn fn fun x w'=>∃ r,good r∧x = .returned (val r)∧Ext W w'∧sat w' (stars (res r))) n e W H :=
 rt_fn (v := .tuple #[v,v',v2]) (fun a w ho=>by simp [results,hres,ho.ev.get t v hl,ho.ev.get t' v' hl',ho.ev.get t2 v2 hl2]) r hg hv hE
def Gr (A B:Hp→Prop):Prop:=∀ h,B h→stars [.any A] h
theorem Gr.refl (A:Hp→Prop):Gr A A:=fun h ha=>⟨h,fun _=>none,fun _ => .inr rfl,.refl _,fun _ _ e=>(by cases e),ha,trivial⟩
theorem Gr.sat {A B:Hp→Prop} (g:Gr A B) {w:World} (hw:sat w B):sat w A:=by
 obtain ⟨h,h1,h2⟩:=hw
 obtain ⟨k1,k2,_,s1,_,ka,_⟩:=g h h2
 exact ⟨k1,fun i o e=>h1 i o (s1 i o e),ka⟩
theorem Gr.trans {A B C:Hp→Prop} (g:Gr A B) (k:Gr B C):Gr A C:=fun h hc=>by
 obtain ⟨k1,k2,_,s1,_,kb,_⟩:=k h hc
 obtain ⟨l1,l2,_,t1,_,la,_⟩:=g k1 kb
 exact ⟨l1,fun _=>none,fun _ => .inr rfl,fun i o e=>s1 i o (t1 i o e),fun _ _ e=>(by cases e),la,trivial⟩
theorem Gr.of {L H':List Hl} {A:Hp→Prop} [s:SAny L A H']:Gr A (stars L):=fun h hh=>by
 have:=s.s.out h hh
 exact a0U this (fun _ a=>a) (fun _ _=>trivial)
theorem a5L {A:Hp→Prop} {R:List Hl} (hh:Has (.any A::R)):∃ w,sat w A:=let ⟨w,hw⟩:=hh;⟨w,a6B .here w hw⟩
theorem rs_gr {α:Type} {A A':Hp→Prop} {enc:α→Value} {ad:Option Addr} {c:Nat} {l:List α} (h:Rs A enc ad c l) (g:Gr A A'):Rs A' enc ad c l:=h.mono fun w hw=>g.sat hw
theorem b1R {P:Program} {k:Kon} {n:Nat} {e:Ev} {W:World} {H:List Hl} (h:Has H→Rt P k n e W H):Rt P k n e W H:=⟨fun a w ho=>(h ⟨w,ho.sat⟩).out a w ho⟩
def Som {ι:Type} (p:ι→Prop) (L:ι→List Hl):Hp→Prop:=fun x=>∃ i,p i∧stars (L i) x
theorem b1Q {ι:Type} {p:ι→Prop} {L:ι→List Hl} {R:List Hl} (i:ι) (hp:p i):∀ h,stars (L i++R) h→stars (.any (Som p L)::R) h:=fun h hh=>a0U (a0X _ _ _ hh) (fun h' hx=>⟨i,hp,hx⟩) (fun _ a=>a)
theorem b8D {ι:Type} {p:ι→Prop} {L:ι→List Hl} {R:List Hl} {h:Hp} (hh:stars (.any (Som p L)::R) h):∃ i,p i∧stars (L i++R) h:=by
 obtain ⟨h1,h2,hd,s1,s2,⟨i,hp,hx⟩,hr⟩:=hh
 exact ⟨i,hp,a0W _ _ _ ⟨h1,h2,hd,s1,s2,hx,hr⟩⟩
theorem sat_som {ι:Type} {p:ι→Prop} {L:ι→List Hl} {R:List Hl} {w:World} (hh:sat w (stars (.any (Som p L)::R))):∃ i,p i∧sat w (stars (L i++R)):=by
 obtain ⟨x,hw,hx⟩:=hh
 obtain ⟨i,hp,hx⟩:=b8D hx
 exact ⟨i,hp,x,hw,hx⟩
section
variable {P:Program} {ι:Type} {p:ι→Prop} {L:ι→List Hl} {R:List Hl}
theorem Spec.som {f:FuncId} {args:List Value} {X:Type} {good:X→Prop} {val:X→Value} {res:X→List Hl} (he:(P.funcs[f]?).map (fun fn=>(fn.name == "runtime.NumGoroutine",fn.body.isNone))=some (false,false)) (h:∀ i,p i→Spec P f args (L i++R) good val res):Spec P f args (.any (Som p L)::R) good val res :=
 ⟨he,fun w hs=>by
  obtain ⟨i,hp,hx⟩:=sat_som hs
  exact (h i hp).calls w hx⟩
variable {k:Kon} {n:Nat} {e:Ev} {W:World} {co:Code}
theorem a9C {H:List Hl} (i:ι) (hp:p i) (hE:Ent H (L i++R)) (h:Rt P k n e W (.any (Som p L)::R)):Rt P k n e W H:=a2A (fun x hx=>b1Q i hp x (hE.out x hx)) h
end
def nod (a:Act):Act:={ a with defers:=[] }
theorem c1B (a:Act) (d:Option Nat) (v:Value):(nod a).put d v=nod (a.put d v):=by cases d <;> rfl
theorem b4C (a:Act) (d:Option Nat) (v:Value):(a.put d v).defers=a.defers:=by cases d <;> rfl
section
variable {P:Program} {op:Op} {ty:TypeId} {n:Nat} {e:Ev} {H:List Hl} {C:Value→List Hl→Prop}
theorem O1.at_d (h:O1 P op ty n e H C) {a:Act} {w:World} (ho:Ok1 n e H (nod a) w) {o:Oper} (h1:o.op=op) (h2:o.type=ty) {K:Act→World→Prop} {Q:Exit→Act→World→Prop}
  (hK:∀ v w' H',C v H'→Ext w w'→sat w' (stars H')→K (a.put o.dst v) w'):o.wp P a w K Q:=by
 have back:∀ v:Value,({ nod (a.put o.dst v) with defers:=a.defers }:Act)=a.put o.dst v:=fun v=>by
  have:=b4C a o.dst v
  obtain ⟨t,d⟩:=a
  cases o.dst <;> rfl
 have key:=h.out (nod a) w ho o h1 h2 (fun a' w'=>a'.defers=[]∧K { a' with defers:=a.defers } w') (fun _ _ _=>False) (fun v w' H' hc hx hs=>by
  rw [c1B]
  refine ⟨rfl,?_⟩
  rw [back]
  exact hK v w' H' hc hx hs)
 have he:(nod a).eval=a.eval:=by funext x;cases x <;> rfl
 unfold Oper.wp at key ⊢
 rw [he] at key
 generalize (execOp a.eval o).run P w=r at key
 have fin:∀ v w',((nod a).put o.dst v).defers=[]∧K { (nod a).put o.dst v with defers:=a.defers } w'→K (a.put o.dst v) w':=fun v w' hh=>by
  have h2:=hh.2
  rw [c1B,back] at h2
  exact h2
 cases r with
 | ok x w' =>
  cases x with
  | value v=>exact fin v w' key
  | skip=>exact fin undef w' key
  | defer d =>
   exfalso
   have h3:(({ nod a with defers:=d::(nod a).defers }:Act).put o.dst undef).defers=[]:=key.1
   rw [b4C] at h3
   cases h3
  | enter f args =>
   refine Calls.mono key ?_
   intro x w'' hx
   cases x with
   | returned v=>exact fin v w'' hx
   | panicked c=>exact hx.elim
   | outgrown=>obtain ⟨_,_,hx⟩:=hx;exact hx.elim
  | row row args=>exact Rows.mono key (fun v w'' hx=>fin v w'' hx)
  | _=>exact key.elim
 | halt x w'=>cases x <;> exact key.elim
end
structure Sd (P:Program) (c:Code) (Q:Exit→Act→World→Prop) (n:Nat) (e:Ev) (W:World) (H:List Hl) (D:List Deferred):Prop where
 mk::(out:∀ a w,Ok W n e H (nod a) w→a.defers=D→c.wp P Q a w)
structure Ld (P:Program) (ops:Array Oper) (Q:Exit→Act→World→Prop) (rest:List Oper) (n:Nat) (e:Ev) (W:World) (H:List Hl) (D:List Deferred):Prop where
 mk::(out:∀ a w,Ok W n e H (nod a) w→a.defers=D→wpList P ops Q rest a w)
section
variable {P:Program} {ops:Array Oper} {Q:Exit→Act→World→Prop} {rest:List Oper} {n:Nat} {e:Ev} {W:World} {H:List Hl} {D:List Deferred}
theorem sd_seq {x y:Code} (h:Sd P x (Exit.then (fun a w=>y.wp P Q a w) Q) n e W H D):Sd P (.seq x y) Q n e W H D:=⟨fun a w ho hd=>wp_seq (h.out a w ho hd)⟩
theorem sd_cond_t {x:Operand} {c d:Code} (hx:opd e x=some (.bool true)) (h:Sd P c Q n e W H D):Sd P (.cond x c d) Q n e W H D:=⟨fun a w ho hd=>wp_cond_true (ho.ev.eval hx) (h.out a w ho hd)⟩
theorem sd_region {id:Nat} {l:List Oper} (h:Ld P l.toArray Q l n e W H D):Sd P (.region id l.toArray false) Q n e W H D:=⟨fun a w ho hd=>wp_region_lit (h.out a w ho hd)⟩
theorem c2I (h:∀ a w,Ok W n e H (nod a) w→a.defers=D→Q .normal a w):Ld P ops Q [] n e W H D:=⟨fun a w ho hd=>wpList_nil (h a w ho hd)⟩
theorem ld_next {y:Code} (h:Sd P y Q n e W H D):Ld P ops (Exit.then (fun a w=>y.wp P Q a w) Q) [] n e W H D:=c2I (fun a w ho hd=>h.out a w ho hd)
variable {d:Nat} {pos:String} {af:Array Edge} {op:Op} {ty:TypeId}
theorem ld_of (hd:Nat.blt d n=true) (h:O1 P op ty n e H (fun v H'=>Ld P ops Q rest n ((d,v)::e) W H' D)):Ld P ops Q (⟨some d,op,ty,pos,af,none⟩::rest) n e W H D :=
 ⟨fun a w ho hD=>wpList_plain rfl fun K hK=>h.at_d ⟨ho.ev,ho.sat⟩ rfl rfl fun v w' H' hl hx hs=>hK _ _ (hl.out _ _ ⟨by rw [←c1B];exact ho.ev.put hd v,ho.ext.trans hx,hs⟩ ((b4C _ _ _).trans hD))⟩
theorem ld_defer {f:FuncId} {xs:List Operand} {args:List Value} {ats:Array TypeId} (hxs:opds e xs=some args) (h:Ld P ops Q rest n e W H (⟨.fn (.func f) #[],args.toArray⟩::D)):Ld P ops Q (⟨none,.defer ⟨.value (.func f),xs.toArray,ats⟩,ty,pos,af,none⟩::rest) n e W H D :=
 ⟨fun a w ho hD=>wpList_plain rfl fun K hK=>by
  have hargs:=ho.ev.evals hxs
  have he:(nod a).eval=a.eval:=by funext x;cases x <;> rfl
  rw [he] at hargs
  have hr:(execOp a.eval ⟨none,.defer ⟨.value (.func f),xs.toArray,ats⟩,ty,pos,af,none⟩).run P w = .ok (.defer ⟨.fn (.func f) #[],args.toArray⟩) w:=by
   simp [execOp,resolve,Deferred.ofValue,Act.eval,hargs]
  unfold Oper.wp
  rw [hr]
  refine hK _ _ (h.out _ _ ⟨?_,ho.ext,ho.sat⟩ ?_)
  ·exact ho.ev
  ·show _::a.defers=_
   rw [hD]⟩
end
structure SpecD (P:Program) (f:FuncId) (args:List Value) (H:List Hl) {X:Type} (good:X→Prop) (val:X→Value) (res:X→List Hl):Prop where
 enters:(P.funcs[f]?).map (fun fn=>(fn.name == "runtime.NumGoroutine",fn.body.isNone))=some (false,false)
 calls:∀ w u,sat w (stars H)→CallsD P f args.toArray u w fun x u' w'=>u'=u∧∃ r,good r∧x = .returned (val r)∧Ext w w'∧sat w' (stars (res r))
section
variable {P:Program} {H:List Hl}
theorem specd_of {f:FuncId} {fn:Func} {c:Code} {args:List Value} {X:Type} {good:X→Prop} {val:X→Value} {res:X→List Hl} (m:Nat)
  (hf:P.funcs[f]?=some fn) (hb:fn.body=some c) (hm:fn.ntmps=m) (hname:(fn.name == "runtime.NumGoroutine")=false) (hle:Nat.ble args.length m=true)
  (h:∀ W,St P c (.fn fn fun x w'=>∃ r,good r∧x = .returned (val r)∧Ext W w'∧sat w' (stars (res r))) m (slots 0 args) W H):SpecD P f args H good val res:=by
 refine ⟨by simp [hf,hb,hname],fun w u hs=>callsD_of_wp hf hb ?_⟩
 have hle':args.length≤m:=by simpa using hle
 refine (h w).out _ w ⟨⟨by simp [hm];omega,rfl,fun t v hl=>?_⟩,.refl _,hs⟩
 obtain ⟨_,h2⟩:=b1J args 0 t v hl
 simp only [Nat.sub_zero] at h2
 have hlt:t<args.length:=by
  rcases Nat.lt_or_ge t args.length with h|h
  ·exact h
  ·rw [List.getElem?_eq_none h] at h2;cases h2
 have h3:args[t]=v:=by simpa [List.getElem?_eq_getElem hlt] using h2
 simp [Array.getElem?_append,hlt,h3]
theorem specd_fn {f:FuncId} {fn:Func} {c:Code} {args:List Value} {X:Type} {good:X→Prop} {val:X→Value} {res:X→List Hl} {m:Nat} (own:List Hl) (H:List Hl)
  (hf:P.funcs[f]?=some fn) (hb:fn.body=some c) (hm:fn.ntmps=m) (hname:(fn.name == "runtime.NumGoroutine")=false) (hle:Nat.ble args.length m=true)
  (h:∀ W,St P c (.fn fn fun x w'=>∃ r,good r∧x = .returned (val r)∧Ext W w'∧sat w' (stars (res r++[.any (stars H)]))) m (slots 0 args) W (own++[.any (stars H)])):SpecD P f args (own++H) good val (fun r=>res r++H):=by
 have h1:SpecD P f args (own++[.any (stars H)]) good val (fun r=>res r++[.any (stars H)]):=specd_of m hf hb hm hname hle h
 exact ⟨h1.enters,fun w u hs=>(h1.calls w u (b2G hs)).mono fun x u' w' ⟨hu,r,hg,he,hx,hsat⟩=>⟨hu,r,hg,he,hx,b1Z hsat⟩⟩
theorem spec_defers {f:FuncId} {fn:Func} {c:Code} {args:List Value} {X:Type} {good:X→Prop} {val:X→Value} {res:X→List Hl} (m:Nat)
  (hf:P.funcs[f]?=some fn) (hb:fn.body=some c) (hm:fn.ntmps=m) (hname:(fn.name == "runtime.NumGoroutine")=false) (hle:Nat.ble args.length m=true)
  (h:∀ W,Sd P c (bodyPostD P fn fun x w'=>∃ r,good r∧x = .returned (val r)∧Ext W w'∧sat w' (stars (res r))) m (slots 0 args) W H []):Spec P f args H good val res:=by
 refine ⟨by simp [hf,hb,hname],fun w hs=>calls_of_wp_defers hf hb ?_⟩
 have hle':args.length≤m:=by simpa using hle
 refine (h w).out _ w ⟨⟨by simp [nod,hm];omega,rfl,fun t v hl=>?_⟩,.refl _,hs⟩ rfl
 obtain ⟨_,h2⟩:=b1J args 0 t v hl
 simp only [Nat.sub_zero] at h2
 have hlt:t<args.length:=by
  rcases Nat.lt_or_ge t args.length with h|h
  ·exact h
  ·rw [List.getElem?_eq_none h] at h2;cases h2
 have h3:args[t]=v:=by simpa [List.getElem?_eq_getElem hlt] using h2
 simp [nod,Array.getElem?_append,hlt,h3]
theorem a9O {fn:Func} {tmps:Array Value} {R:Ending→World→Prop} {f:FuncId} {args:List Value} {ds:List Deferred} {w:World} {X:Type} {good:X→Prop} {val:X→Value} {res:X→List Hl} (hs:SpecD P f args H good val res) (hw:sat w (stars H))
  (h:∀ r w',good r→Ext w w'→sat w' (stars (res r))→Leaves P fn tmps R ds .returning w'):Leaves P fn tmps R (⟨.fn (.func f) #[],args.toArray⟩::ds) .returning w:=by
 refine leaves_cons (f:=f) (args:=args.toArray) (by simp) ?_ ?_
 ·simp [invoke,b2O hs.enters]
 ·refine (hs.calls w .returning hw).mono ?_
  rintro x u' w' ⟨rfl,r,hg,rfl,hx,hsat⟩
  exact h r w' hg hx hsat
theorem Spec.shut {f:FuncId} {args:List Value} {X:Type} {good:X→Prop} {val:X→Value} {res:X→List Hl} (own H:List Hl) (h1:Spec P f args (own++[.any (stars H)]) good val (fun r=>res r++[.any (stars H)])):Spec P f args (own++H) good val (fun r=>res r++H) :=
 ⟨h1.enters,fun w hs=>(h1.calls w (b2G hs)).mono fun x w' ⟨r,hg,he,hx,hsat⟩=>⟨r,hg,he,hx,b1Z hsat⟩⟩
theorem Spec.has {f:FuncId} {args:List Value} {X:Type} {good:X→Prop} {val:X→Value} {res:X→List Hl} (he:(P.funcs[f]?).map (fun fn=>(fn.name == "runtime.NumGoroutine",fn.body.isNone))=some (false,false)) (h:Has H→Spec P f args H good val res):Spec P f args H good val res :=
 ⟨he,fun w hs=>(h ⟨w,hs⟩).calls w hs⟩
end
end Go.Dp
namespace Go.Dp
def be4 (x:BitVec 32):List (BitVec 8):=[(x >>> 24).setWidth 8,(x >>> 16).setWidth 8,(x >>> 8).setWidth 8,x.setWidth 8]
def num32 (l:List (BitVec 8)):BitVec 32:=l.foldl (fun a x=>(a <<< 8) ||| x.setWidth 32) 0
theorem num32_succ (l:List (BitVec 8)) (i:Nat) (h:i<l.length):num32 (l.take (i+1))=(num32 (l.take i) <<< 8) ||| (l[i]).setWidth 32:=by
 simp only [num32]
 rw [List.take_succ_eq_append_getElem h,List.foldl_append]
 rfl
def numN (l:List (BitVec 8)):Nat:=l.foldl (fun a x=>a*256+x.toNat) 0
theorem fold_numN (w:Nat):∀ (l:List (BitVec 8)) (k:Nat) (a:BitVec w),a.toNat<256 ^ k→8*(k+l.length)≤w →
  (l.foldl (fun (a:BitVec w) (x:BitVec 8)=>(a <<< 8) ||| x.setWidth w) a).toNat=l.foldl (fun a x=>a*256+x.toNat) a.toNat
 | [],_,_,_,_=>rfl
 | x::l,k,a,h,hw=>by
  simp only [List.length_cons] at hw
  have hx:=x.isLt
  have hp:(256:Nat) ^ (k+1)≤2 ^ w:=by
   have:(256:Nat) ^ (k+1)=2 ^ (8*(k+1)):=by rw [Nat.pow_mul]
   rw [this]
   exact Nat.pow_le_pow_right (by omega) (by omega)
  have h256:(256:Nat) ^ (k+1)=256 ^ k*256:=Nat.pow_succ ..
  have hs:((a <<< 8) ||| x.setWidth w).toNat=a.toNat*256+x.toNat:=by
   rw [BitVec.toNat_or,BitVec.toNat_shiftLeft,BitVec.toNat_setWidth]
   have e1:x.toNat % 2 ^ w=x.toNat:=Nat.mod_eq_of_lt (by omega)
   have e2:a.toNat <<< 8 % 2 ^ w=a.toNat <<< 8:=Nat.mod_eq_of_lt (by rw [Nat.shiftLeft_eq];omega)
   rw [e1,e2,←Nat.shiftLeft_add_eq_or_of_lt (by omega:x.toNat<2 ^ 8),Nat.shiftLeft_eq]
  simp only [List.foldl_cons]
  rw [fold_numN w l (k+1) _ (by rw [hs];omega) (by omega),hs]
theorem b1X (l:List (BitVec 8)) (h:l.length≤4):(num32 l).toNat=numN l:=fold_numN 32 l 0 0 (by simp) (by omega)
theorem a4W (x:BitVec 32):(be4 x).length=4:=rfl
theorem a3F (x:BitVec 32):num32 (be4 x)=x:=by
 apply BitVec.eq_of_toNat_eq
 rw [b1X _ (by simp [be4])]
 have h1:=x.isLt
 simp only [be4,numN,List.foldl_cons,List.foldl_nil,BitVec.toNat_setWidth,BitVec.toNat_ushiftRight,Nat.shiftRight_eq_div_pow]
 omega
theorem list4 {α:Type} {l:List α} (h:l.length=4):∃ a b c d,l=[a,b,c,d]:=by
 match l,h with
 | [a,b,c,d],_=>exact ⟨a,b,c,d,rfl⟩
theorem be4_inj4 {x y:BitVec 32} (h:be4 x=be4 y):x=y:=by rw [←a3F x,h,a3F]
def be2 (n:Int):List (BitVec 8):=[BitVec.ofInt 8 (n / 256),BitVec.ofInt 8 n]
theorem b7U (n:Int) (h0:0≤n) (h1:n<256):((BitVec.ofInt 8 n).toNat:Int)=n:=bv_of h0 (by simpa using h1)
theorem b2Z (n:Int) (h0:0≤n) (h1:n<65536):((num32 (be2 n)).toNat:Int)=n:=by
 rw [b1X _ (by simp [be2])]
 simp only [be2,numN,List.foldl_cons,List.foldl_nil,BitVec.toNat_ofInt]
 omega
theorem b2Y (a:BitVec 8):(num32 [a]).toNat=a.toNat:=by
 rw [b1X _ (by simp)];simp [numN]
section
variable {P:Program} {n:Nat} {H:List Hl} {e:Ev} {C:Value→List Hl→Prop} {ty t t':TypeId} {x y:Operand} {p:Int} {kd':IntKind}
theorem a9L (hx:opd e x=some (.int .i64 p)) (hy:opd e y=some (.int kd' 8)) (h:C (.int .i64 (p / 256)) H):O1 P (.binOp .shr t x y t') ty n e H C :=
 a5W hx hy (fun w=>by rw [binOp_shr,shift_shr_any _ _ _ _ (by omega),Sem.run_pure];rfl) h
theorem a0G {f:FuncId} {xs:List Operand} {args:List Value} {ats:Array TypeId} {X:Type} {good:X→Prop} {val:X→Value} {res:X→List Hl} {b:Nat} {T:TypeId} {cs:List Value} {H':List Hl} [s:SBox H b T cs H']
  (hs:Has (.box b T cs::H')→Spec P f args (.box b T cs::H') good val res) (hxs:opds e xs=some args) (h:∀ r,good r→C (val r) (res r)):O1 P (.call ⟨.value (.func f),xs.toArray,ats⟩) ty n e H C:=O1.ent s.s.out (a0A hs hxs h)
end
def crcBit (c:BitVec 32):BitVec 32:=(c >>> 1) ^^^ (0xedb88320#32*(c &&& 1#32))
def crcBits:Nat→BitVec 32→BitVec 32
 | 0,c=>c
 | n+1,c=>crcBit (crcBits n c)
def crcByte (c:BitVec 32) (x:BitVec 8):BitVec 32:=crcBits 8 (c ^^^ x.setWidth 32)
def crcAll (c:BitVec 32) (l:List (BitVec 8)):BitVec 32:=l.foldl crcByte c
def crcAdd (s:BitVec 32) (l:List (BitVec 8)):BitVec 32 := ~~~ (crcAll (~~~ s) l)
def crcPut (l:List (BitVec 8)):List (BitVec 8):=l++be4 (crcAdd 0#32 l)
theorem a3C (l:List (BitVec 8)):(crcPut l).length=l.length+4:=by simp [crcPut,be4]
theorem crcAll_take {c:BitVec 32} {l:List (BitVec 8)} {i:Nat} (hi:i<l.length):crcAll c (l.take (i+1))=crcByte (crcAll c (l.take i)) l[i]:=by
 unfold crcAll
 rw [List.take_succ_eq_append_getElem hi,List.foldl_append]
 rfl
def crcOk (l:List (BitVec 8)):Bool:=decide (4≤l.length) && decide (crcPut (l.take (l.length - 4))=l)
theorem b7E (l:List (BitVec 8)):crcOk (crcPut l)=true:=by
 have:(crcPut l).take ((crcPut l).length - 4)=l:=by
  rw [a3C,Nat.add_sub_cancel,crcPut,List.take_left']
  rfl
 rw [crcOk,this,a3C]
 simp
def seg (l:List (BitVec 8)) (a n:Nat):List (BitVec 8):=(l.drop a).take n
theorem a2Q {l:List (BitVec 8)} {a n:Nat} (h:a+n≤l.length):(seg l a n).length=n:=by simp [seg];omega
def progB (l:List (BitVec 8)) (a:Nat) (xs:List (BitVec 8)):List (BitVec 8):=l.take a++(List.zipWith (· &&& ·) (l.drop a) xs++l.drop (a+xs.length))
theorem a8H {l:List (BitVec 8)} {a:Nat} {xs:List (BitVec 8)} (h:a+xs.length≤l.length):(progB l a xs).length=l.length:=by
 simp [progB];omega
theorem b2U (l:List (BitVec 8)) (a:Nat):progB l a []=l:=by simp [progB]
theorem a4M {l:List (BitVec 8)} {a:Nat} {xs:List (BitVec 8)} (h:a+xs.length≤l.length) (i:Nat):(progB l a xs)[i]?=if a≤i∧i<a+xs.length then (l[i]?).bind (fun x=>(xs[i - a]?).map (x &&& ·)) else l[i]?:=by
 unfold progB
 by_cases h1:i<a
 ·rw [List.getElem?_append_left (by simp;omega),List.getElem?_take,if_pos h1,if_neg (by omega)]
 ·rw [List.getElem?_append_right (by simp;omega)]
  have ht:(l.take a).length=a:=by simp;omega
  rw [ht]
  by_cases h2:i<a+xs.length
  ·rw [List.getElem?_append_left (by simp;omega),if_pos ⟨by omega,h2⟩,List.getElem?_zipWith,List.getElem?_drop,show a+(i - a)=i by omega]
   have e1:i<l.length:=by omega
   have e2:i - a<xs.length:=by omega
   rw [List.getElem?_eq_getElem e1,List.getElem?_eq_getElem e2]
   rfl
  ·rw [List.getElem?_append_right (by simp;omega),if_neg (by omega),List.getElem?_drop]
   congr 1
   simp
   omega
theorem b4D {l:List (BitVec 8)} {a i:Nat} {xs:List (BitVec 8)} (h:a+xs.length≤l.length) (hi:i<xs.length):(progB l a (xs.take i)).set (a+i) ((l[a+i]'(by omega)) &&& xs[i])=progB l a (xs.take (i+1)):=by
 apply List.ext_getElem?
 intro j
 have e1:a+(xs.take i).length≤l.length:=by simp;omega
 have e2:a+(xs.take (i+1)).length≤l.length:=by simp;omega
 rw [List.getElem?_set,a4M e1,a4M e2,a8H e1]
 simp only [List.length_take,Nat.min_eq_left (Nat.le_of_lt hi),Nat.min_eq_left (show i+1≤xs.length from hi)]
 by_cases hj:a+i=j
 ·subst hj
  rw [if_pos rfl,if_pos (by omega),if_pos (by omega),List.getElem?_eq_getElem (by omega)]
  simp [hi]
 ·rw [if_neg hj]
  by_cases h1:a≤j∧j<a+i
  ·rw [if_pos h1,if_pos (by omega),List.getElem?_take,List.getElem?_take,if_pos (by omega),if_pos (by omega)]
  ·rw [if_neg h1,if_neg (by omega)]
theorem progB_at {l:List (BitVec 8)} {a i:Nat} {xs:List (BitVec 8)} (h:a+xs.length≤l.length) (hi:i<xs.length):(progB l a (xs.take i))[a+i]?=some (l[a+i]'(by omega)):=by
 have e1:a+(xs.take i).length≤l.length:=by simp;omega
 rw [a4M e1,if_neg (by simp;omega),List.getElem?_eq_getElem (by omega)]
def fillB (l:List (BitVec 8)) (a n:Nat):List (BitVec 8):=l.take a++(List.replicate n 0xff#8++l.drop (a+n))
theorem a4F {l:List (BitVec 8)} {a n:Nat} (h:a+n≤l.length):(fillB l a n).length=l.length:=by simp [fillB];omega
theorem a6J (l:List (BitVec 8)) (a:Nat):fillB l a 0=l:=by simp [fillB]
theorem a2Z {l:List (BitVec 8)} {a n:Nat} (h:a+n≤l.length) (i:Nat):(fillB l a n)[i]?=if a≤i∧i<a+n then some 0xff#8 else l[i]?:=by
 unfold fillB
 by_cases h1:i<a
 ·rw [List.getElem?_append_left (by simp;omega),List.getElem?_take,if_pos h1,if_neg (by omega)]
 ·rw [List.getElem?_append_right (by simp;omega)]
  have ht:(l.take a).length=a:=by simp;omega
  rw [ht]
  by_cases h2:i<a+n
  ·rw [List.getElem?_append_left (by simp;omega),if_pos ⟨by omega,h2⟩,List.getElem?_replicate,if_pos (by omega)]
  ·rw [List.getElem?_append_right (by simp;omega),if_neg (by omega),List.getElem?_drop,List.length_replicate]
   congr 1
   omega
theorem b4N {l:List (BitVec 8)} {a i:Nat} (h:a+i<l.length):(fillB l a i).set (a+i) 0xff#8=fillB l a (i+1):=by
 apply List.ext_getElem?
 intro j
 rw [List.getElem?_set,a2Z (by omega),a2Z (by omega),a4F (by omega)]
 by_cases hj:a+i=j
 ·subst hj
  rw [if_pos rfl,if_pos h,if_pos (by omega)]
 ·rw [if_neg hj]
  by_cases h1:a≤j∧j<a+i
  ·rw [if_pos h1,if_pos (by omega)]
  ·rw [if_neg h1,if_neg (by omega)]
inductive Pw
 | on
 | fuse (n:Nat)
 | down (q:Option Nat)
structure Fl where
 bs:List (BitVec 8)
 er:List Nat
 wear:Nat
 pw:Pw
 torn:Int
def tornB (t:Int):BitVec 8:=BitVec.ofInt 8 t
def progF (f:Fl) (a:Nat) (xs:List (BitVec 8)):Fl × Int:=match f.pw with
 | .down _=>(f,11)
 | .on=>({ f with bs:=progB f.bs a xs },0)
 | .fuse n=>if xs.length≤n then ({ f with bs:=progB f.bs a xs,pw := .fuse (n - xs.length) },0) else ({ f with bs:=progB f.bs a (xs.take n++[xs.getD n 0#8 ||| tornB f.torn]),pw := .down none },11)
def eraseF (f:Fl) (s:Nat):Fl × Int:=match f.pw with
 | .down _=>(f,11)
 | .on=>if f.wear≤f.er.getD s 0 then (f,10) else ({ f with bs:=fillB f.bs (s*256) 256,er:=f.er.set s (f.er.getD s 0+1) },0)
 | .fuse n=>if f.wear≤f.er.getD s 0 then (f,10) else match n with
  | 0=>({ f with bs:=fillB f.bs (s*256) (f.torn.toNat % 257),er:=f.er.set s (f.er.getD s 0+1),pw := .down none },11)
  | m+1=>({ f with bs:=fillB f.bs (s*256) 256,er:=f.er.set s (f.er.getD s 0+1),pw := .fuse m },0)
def blankB (l:List (BitVec 8)):Bool:=l.all (fun x=>x == 0xff#8)
theorem a1X (l:List (BitVec 8)) (a n i:Nat):(seg l a n)[i]?=if i<n then l[a+i]? else none:=by
 unfold seg
 rw [List.getElem?_take]
 split
 ·rw [List.getElem?_drop]
 ·rfl
theorem a6C {l l':List (BitVec 8)} {a n:Nat} (h:∀ i,a≤i→i<a+n→l[i]?=l'[i]?):seg l a n=seg l' a n:=by
 apply List.ext_getElem?
 intro i
 rw [a1X,a1X]
 split
 ·exact h (a+i) (by omega) (by omega)
 ·rfl
theorem a5F {l:List (BitVec 8)} {a n b m:Nat} (h:b+m≤n):seg (seg l a n) b m=seg l (a+b) m:=by
 apply List.ext_getElem?
 intro i
 rw [a1X (seg l a n),a1X l (a+b)]
 by_cases hi:i<m
 ·rw [if_pos hi,if_pos hi,a1X,if_pos (by omega),Nat.add_assoc]
 ·rw [if_neg hi,if_neg hi]
theorem a2P {l xs:List (BitVec 8)} {a b n:Nat} (h:a+xs.length≤l.length) (hd:b+n≤a∨a+xs.length≤b):seg (progB l a xs) b n=seg l b n:=a6C (fun i h1 h2=>by
 rw [a4M h,if_neg (by omega)])
theorem a3M {l:List (BitVec 8)} {a m b n:Nat} (h:a+m≤l.length) (hd:b+n≤a∨a+m≤b):seg (fillB l a m) b n=seg l b n:=a6C (fun i h1 h2=>by
 rw [a2Z h,if_neg (by omega)])
theorem a9A {l:List (BitVec 8)} {a m b n:Nat} (h:a+m≤l.length) (h1:a≤b) (h2:b+n≤a+m):seg (fillB l a m) b n=List.replicate n 0xff#8:=by
 apply List.ext_getElem?
 intro i
 rw [a1X,List.getElem?_replicate]
 split
 ·rw [a2Z h,if_pos (by omega)]
 ·rfl
def Blank (l:List (BitVec 8)) (a n:Nat):Prop:=seg l a n=List.replicate n 0xff#8
theorem Blank.at {l:List (BitVec 8)} {a n:Nat} (h:Blank l a n) {i:Nat} (h1:a≤i) (h2:i<a+n):l[i]?=some 0xff#8:=by
 have:=congrArg (fun z=>z[i - a]?) h
 simp only [a1X,List.getElem?_replicate] at this
 rw [if_pos (by omega),if_pos (by omega),show a+(i - a)=i by omega] at this
 exact this
theorem Blank.of {l:List (BitVec 8)} {a n:Nat} (h:∀ i,a≤i→i<a+n→l[i]?=some 0xff#8):Blank l a n:=by
 apply List.ext_getElem?
 intro i
 rw [a1X,List.getElem?_replicate]
 split
 ·exact h _ (by omega) (by omega)
 ·rfl
theorem Blank.sub {l:List (BitVec 8)} {a n b m:Nat} (h:Blank l a n) (h1:a≤b) (h2:b+m≤a+n):Blank l b m:=Blank.of fun i h3 h4=>h.at (by omega) (by omega)
theorem c2L (x:BitVec 8):0xff#8 &&& x=x:=by
 rw [show (0xff#8:BitVec 8)=BitVec.allOnes 8 by rfl,BitVec.allOnes_and]
theorem a4Y {l xs:List (BitVec 8)} {a:Nat} (h:a+xs.length≤l.length) (hb:Blank l a xs.length):seg (progB l a xs) a xs.length=xs:=by
 apply List.ext_getElem?
 intro i
 rw [a1X]
 by_cases hi:i<xs.length
 ·rw [if_pos hi,a4M h,if_pos (by omega),hb.at (by omega) (by omega),show a+i - a=i by omega,List.getElem?_eq_getElem hi]
  simp [c2L]
 ·rw [if_neg hi,List.getElem?_eq_none (by omega)]
theorem b3X (l:List (BitVec 8)) (a n m:Nat):seg l a (n+m)=seg l a n++seg l (a+n) m:=by
 unfold seg
 rw [List.take_add,List.drop_drop]
theorem a8S {l:List (BitVec 8)} {a n:Nat} (h:a+n≤l.length):blankB (seg l a n)=true↔Blank l a n:=by
 unfold blankB Blank
 rw [List.all_eq_true,List.eq_replicate_iff]
 constructor
 ·intro hh
  exact ⟨a2Q h,fun x hx=>by simpa using hh x hx⟩
 ·rintro ⟨_,hh⟩ x hx
  simpa using hh x hx
def copyC (b:List (BitVec 8)):Option (BitVec 32 × List (BitVec 8)) :=
 let n:=numN (seg b 4 2)
 if 245<n then none else if b.getD (n+10) 0#8≠0#8 then none else if crcOk (b.take (n+10)) then some (num32 (b.take 4),seg b 6 n) else none
def copyAt (l:List (BitVec 8)) (s:Nat):Option (BitVec 32 × List (BitVec 8)):=copyC (seg l (s*256) 256)
def foundC (l:List (BitVec 8)):Option ((BitVec 32 × List (BitVec 8)) × Nat):=match copyAt l 0,copyAt l 1 with
 | none,none=>none
 | some a,none=>some (a,0)
 | none,some b=>some (b,1)
 | some a,some b=>if a.1.toNat<b.1.toNat then some (b,1) else some (a,0)
def copyB (n:BitVec 32) (b:List (BitVec 8)):List (BitVec 8):=crcPut (be4 n++(be2 (b.length:Int)++b))
def cellW (f:Fl) (b:List (BitVec 8)):Fl × Int :=
 if 245<b.length then (f,1) else match f.pw with
 | .down _=>(f,11)
 | _ =>
  let c:=foundC f.bs
  let k:=(c.map (fun q=>q.1.1)).getD 0#32
  if k=4294967295#32 then (f,9) else
  let to:=if c.map (·.2)=some 0 then 1 else 0
  let r1:=eraseF f to
  if r1.2≠0 then r1 else
  let out:=copyB (k+1#32) b
  let r2:=progF r1.1 (to*256) out
  if r2.2≠0 then r2 else progF r2.1 (to*256+out.length) [0#8]
abbrev Rec:=BitVec 32 × List (BitVec 8)
def plW (z:Nat):Nat:=256 / (z+13)
def atW (z p:Nat):Nat:=(6+p / plW z)*256+p % plW z*(z+13)
def recC (g:BitVec 32) (z:Nat) (b:List (BitVec 8)):Option Rec :=
 if b.getD (z+12) 0#8≠0#8 then none else if crcOk (b.take (z+12))=false then none else if num32 (b.take 4)≠g then none else some (num32 (seg b 4 4),seg b 8 z)
def recAt (l:List (BitVec 8)) (g:BitVec 32) (z p:Nat):Option Rec:=recC g z (seg l (atW z p) (z+13))
def recsP (l:List (BitVec 8)) (g:BitVec 32) (z p:Nat):Nat→List Rec
 | 0=>[]
 | n+1=>match recAt l g z (p+n) with
  | none=>recsP l g z p n
  | some r=>recsP l g z p n++[r]
def secOn (l:List (BitVec 8)) (g:BitVec 32) (z s:Nat):Bool:=(recAt l g z (s*plW z)).isSome
def recsW (l:List (BitVec 8)) (g:BitVec 32) (z:Nat):Nat→List Rec
 | 0=>[]
 | n+1=>if secOn l g z n=true then recsW l g z n++recsP l g z (n*plW z) (plW z) else recsW l g z n
def rdyW (l:List (BitVec 8)) (g:BitVec 32) (z:Nat):Nat→Int
 | 0 => -1
 | n+1=>if secOn l g z n=true then n else rdyW l g z n
def backW (l:List (BitVec 8)) (z p:Nat):Nat→Nat
 | 0=>p
 | n+1=>if blankB (seg l (atW z (p+n)) (z+13))=true then backW l z p n else p+(n+1)
def nxtW (l:List (BitVec 8)) (g:BitVec 32) (z:Nat):Nat:=if rdyW l g z 8<0 then 0 else backW l z ((rdyW l g z 8).toNat*plW z) (plW z)
def recB (g id:BitVec 32) (d:List (BitVec 8)):List (BitVec 8):=crcPut (be4 g++(be4 id++d))
def entF (f:Fl) (rdy:Int) (s:Nat):Fl × Int:=if (s:Int)=rdy then (f,0) else if blankB (seg f.bs ((6+s)*256) 256)=true then (f,0) else eraseF f (6+s)
def addW (f:Fl) (g:BitVec 32) (rdy:Int) (nxt:Nat) (id:BitVec 32) (d:List (BitVec 8)):Fl × Int :=
 if 8*plW d.length=nxt then (f,9) else match f.pw with
 | .down _=>(f,11)
 | _ =>
  let r1:=entF f rdy (nxt / plW d.length)
  if r1.2≠0 then r1 else
  let r2:=progF r1.1 (atW d.length nxt) (recB g id d)
  if r2.2≠0 then r2 else progF r2.1 (atW d.length nxt+(d.length+12)) [0#8]
def clr1 (f:Fl) (s:Nat):Fl × Int:=if blankB (seg f.bs (s*256) 256)=true then (f,0) else eraseF f s
def slotA (s:Nat):Nat:=(2+s*2)*256
def slotW (f:Fl) (s:Nat) (x:List (BitVec 8)):Fl × Int:=match f.pw with
 | .down _=>(f,11)
 | _ =>
  let r1:=clr1 f (2+s*2)
  if r1.2≠0 then r1 else
  let r2:=clr1 r1.1 (2+s*2+1)
  if r2.2≠0 then r2 else
  let r3:=progF r2.1 (slotA s) x
  if r3.2≠0 then r3 else (r3.1,if seg r3.1.bs (slotA s) x.length=x then 0 else 13)
open Go.Proofs
instance :TInt Tryz.prog 3 .i64:=⟨by kernel_rfl⟩
instance :TInf Tryz.prog 3 (.int .i64 (0)) 1 8:=⟨by kernel_rfl⟩
instance :TOne Tryz.prog 3:=⟨by kernel_rfl⟩
instance :TBool Tryz.prog 4:=⟨by kernel_rfl⟩
instance :TInf Tryz.prog 4 (.bool false) 1 1:=⟨by kernel_rfl⟩
instance :TOne Tryz.prog 4:=⟨by kernel_rfl⟩
instance :TInt Tryz.prog 5 .u8:=⟨by kernel_rfl⟩
instance :TInf Tryz.prog 5 (.int .u8 (0)) 1 1:=⟨by kernel_rfl⟩
instance :TOne Tryz.prog 5:=⟨by kernel_rfl⟩
instance :TStr Tryz.prog 9:=⟨by kernel_rfl⟩
instance :TSl Tryz.prog 22 5:=⟨by kernel_rfl⟩
instance :TInf Tryz.prog 22 (.slice none 0 0) 1 24:=⟨by kernel_rfl⟩
instance :TOne Tryz.prog 22:=⟨by kernel_rfl⟩
instance :TPtr Tryz.prog 23 94:=⟨by kernel_rfl⟩
instance :TPtr Tryz.prog 26 78:=⟨by kernel_rfl⟩
instance :TInf Tryz.prog 27 (.int .i64 (0)) 1 8:=⟨by kernel_rfl⟩
instance :TOne Tryz.prog 27:=⟨by kernel_rfl⟩
instance :TInt Tryz.prog 31 .u32:=⟨by kernel_rfl⟩
instance :TInf Tryz.prog 31 (.int .u32 (0)) 1 4:=⟨by kernel_rfl⟩
instance :TOne Tryz.prog 31:=⟨by kernel_rfl⟩
instance :TInt Tryz.prog 35 .u64:=⟨by kernel_rfl⟩
instance :TInf Tryz.prog 35 (.int .u64 (0)) 1 8:=⟨by kernel_rfl⟩
instance :TOne Tryz.prog 35:=⟨by kernel_rfl⟩
instance :TPtr Tryz.prog 41 110:=⟨by kernel_rfl⟩
instance :TOne Tryz.prog 41:=⟨by kernel_rfl⟩
instance :TFld Tryz.prog 46 0 0 31:=⟨by kernel_rfl⟩
instance :TFld Tryz.prog 46 1 1 3:=⟨by kernel_rfl⟩
instance :TFld Tryz.prog 46 2 2 22:=⟨by kernel_rfl⟩
instance :TPl Tryz.prog 46 [(0,1),(1,1),(2,1)]:=⟨by kernel_rfl⟩
instance :TInf Tryz.prog 46 (.agg #[.int .u32 (0),.int .i64 (0),.slice none 0 0]) 3 40:=⟨by kernel_rfl⟩
instance :TAgg Tryz.prog 46:=⟨by kernel_rfl⟩
instance :TArr Tryz.prog 47 2 46:=⟨by kernel_rfl⟩
instance :TPl Tryz.prog 47 [(0,3),(3,3)]:=⟨by kernel_rfl⟩
instance :TInf Tryz.prog 47 (.agg #[.int .u32 (0),.int .i64 (0),.slice none 0 0,.int .u32 (0),.int .i64 (0),.slice none 0 0]) 6 80:=⟨by kernel_rfl⟩
instance :TAgg Tryz.prog 47:=⟨by kernel_rfl⟩
instance :TFld Tryz.prog 49 0 0 31:=⟨by kernel_rfl⟩
instance :TFld Tryz.prog 49 1 1 31:=⟨by kernel_rfl⟩
instance :TFld Tryz.prog 49 2 2 3:=⟨by kernel_rfl⟩
instance :TFld Tryz.prog 49 3 3 3:=⟨by kernel_rfl⟩
instance :TFld Tryz.prog 49 4 4 3:=⟨by kernel_rfl⟩
instance :TFld Tryz.prog 49 5 5 22:=⟨by kernel_rfl⟩
instance :TPl Tryz.prog 49 [(0,1),(1,1),(2,1),(3,1),(4,1),(5,1)]:=⟨by kernel_rfl⟩
instance :TInf Tryz.prog 49 (.agg #[.int .u32 (0),.int .u32 (0),.int .i64 (0),.int .i64 (0),.int .i64 (0),.slice none 0 0]) 6 56:=⟨by kernel_rfl⟩
instance :TAgg Tryz.prog 49:=⟨by kernel_rfl⟩
instance :TFld Tryz.prog 51 0 0 3:=⟨by kernel_rfl⟩
instance :TFld Tryz.prog 51 1 1 3:=⟨by kernel_rfl⟩
instance :TFld Tryz.prog 51 2 2 31:=⟨by kernel_rfl⟩
instance :TFld Tryz.prog 51 3 3 31:=⟨by kernel_rfl⟩
instance :TFld Tryz.prog 51 4 4 47:=⟨by kernel_rfl⟩
instance :TFld Tryz.prog 51 5 10 4:=⟨by kernel_rfl⟩
instance :TFld Tryz.prog 51 6 11 49:=⟨by kernel_rfl⟩
instance :TPl Tryz.prog 51 [(0,1),(1,1),(2,1),(3,1),(4,6),(10,1),(11,6)]:=⟨by kernel_rfl⟩
instance :TInf Tryz.prog 51 (.agg #[.int .i64 (0),.int .i64 (0),.int .u32 (0),.int .u32 (0),.int .u32 (0),.int .i64 (0),.slice none 0 0,.int .u32 (0),.int .i64 (0),.slice none 0 0,.bool false,.int .u32 (0),.int .u32 (0),.int .i64 (0),.int .i64 (0),.int .i64 (0),.slice none 0 0]) 17 168:=⟨by kernel_rfl⟩
instance :TAgg Tryz.prog 51:=⟨by kernel_rfl⟩
instance :TSl Tryz.prog 56 59:=⟨by kernel_rfl⟩
instance :TFld Tryz.prog 59 0 0 3:=⟨by kernel_rfl⟩
instance :TFld Tryz.prog 59 1 1 3:=⟨by kernel_rfl⟩
instance :TFld Tryz.prog 59 2 2 3:=⟨by kernel_rfl⟩
instance :TFld Tryz.prog 59 3 3 31:=⟨by kernel_rfl⟩
instance :TInf Tryz.prog 59 (.agg #[.int .i64 (0),.int .i64 (0),.int .i64 (0),.int .u32 (0)]) 4 32:=⟨by kernel_rfl⟩
instance :TAgg Tryz.prog 59:=⟨by kernel_rfl⟩
instance :TFld Tryz.prog 62 0 0 3:=⟨by kernel_rfl⟩
instance :TFld Tryz.prog 62 1 1 22:=⟨by kernel_rfl⟩
instance :TFld Tryz.prog 62 2 2 3:=⟨by kernel_rfl⟩
instance :TFld Tryz.prog 62 3 3 3:=⟨by kernel_rfl⟩
instance :TPl Tryz.prog 62 [(0,1),(1,1),(2,1),(3,1)]:=⟨by kernel_rfl⟩
instance :TInf Tryz.prog 62 (.agg #[.int .i64 (0),.slice none 0 0,.int .i64 (0),.int .i64 (0)]) 4 48:=⟨by kernel_rfl⟩
instance :TAgg Tryz.prog 62:=⟨by kernel_rfl⟩
instance :TPtr Tryz.prog 70 84:=⟨by kernel_rfl⟩
instance :TFld Tryz.prog 76 2 0 74:=⟨by kernel_rfl⟩
instance :TFld Tryz.prog 78 0 0 22:=⟨by kernel_rfl⟩
instance :TFld Tryz.prog 78 1 1 41:=⟨by kernel_rfl⟩
instance :TFld Tryz.prog 78 2 2 76:=⟨by kernel_rfl⟩
instance :TPl Tryz.prog 78 [(0,1),(1,1),(2,1)]:=⟨by kernel_rfl⟩
instance :TInf Tryz.prog 78 (.agg #[.slice none 0 0,.pointer none,.pointer none]) 3 40:=⟨by kernel_rfl⟩
instance :TPtr Tryz.prog 82 166:=⟨by kernel_rfl⟩
instance :TOne Tryz.prog 82:=⟨by kernel_rfl⟩
instance :TFld Tryz.prog 84 0 0 51:=⟨by kernel_rfl⟩
instance :TFld Tryz.prog 84 1 17 82:=⟨by kernel_rfl⟩
instance :TPl Tryz.prog 84 [(0,17),(17,1)]:=⟨by kernel_rfl⟩
instance :TInf Tryz.prog 84 (.agg #[.int .i64 (0),.int .i64 (0),.int .u32 (0),.int .u32 (0),.int .u32 (0),.int .i64 (0),.slice none 0 0,.int .u32 (0),.int .i64 (0),.slice none 0 0,.bool false,.int .u32 (0),.int .u32 (0),.int .i64 (0),.int .i64 (0),.int .i64 (0),.slice none 0 0,.pointer none]) 18 176:=⟨by kernel_rfl⟩
instance :TFld Tryz.prog 91 0 0 31:=⟨by kernel_rfl⟩
instance :TFld Tryz.prog 91 1 1 3:=⟨by kernel_rfl⟩
instance :TFld Tryz.prog 91 2 2 3:=⟨by kernel_rfl⟩
instance :TFld Tryz.prog 91 3 3 3:=⟨by kernel_rfl⟩
instance :TPl Tryz.prog 91 [(0,1),(1,1),(2,1),(3,1)]:=⟨by kernel_rfl⟩
instance :TInf Tryz.prog 91 (.agg #[.int .u32 (0),.int .i64 (0),.int .i64 (0),.int .i64 (0)]) 4 32:=⟨by kernel_rfl⟩
instance :TAgg Tryz.prog 91:=⟨by kernel_rfl⟩
instance :TPtr Tryz.prog 92 160:=⟨by kernel_rfl⟩
instance :TOne Tryz.prog 92:=⟨by kernel_rfl⟩
instance :TFld Tryz.prog 94 0 0 22:=⟨by kernel_rfl⟩
instance :TFld Tryz.prog 94 1 1 49:=⟨by kernel_rfl⟩
instance :TFld Tryz.prog 94 3 11 92:=⟨by kernel_rfl⟩
instance :TPl Tryz.prog 94 [(0,1),(1,6),(7,4),(11,1)]:=⟨by kernel_rfl⟩
instance :TInf Tryz.prog 94 (.agg #[.slice none 0 0,.int .u32 (0),.int .u32 (0),.int .i64 (0),.int .i64 (0),.int .i64 (0),.slice none 0 0,.int .u32 (0),.int .i64 (0),.int .i64 (0),.int .i64 (0),.pointer none]) 12 120:=⟨by kernel_rfl⟩
instance :TFld Tryz.prog 98 0 0 31:=⟨by kernel_rfl⟩
instance :TFld Tryz.prog 98 1 1 31:=⟨by kernel_rfl⟩
instance :TFld Tryz.prog 98 2 2 22:=⟨by kernel_rfl⟩
instance :TPl Tryz.prog 98 [(0,1),(1,1),(2,1)]:=⟨by kernel_rfl⟩
instance :TInf Tryz.prog 98 (.agg #[.int .u32 (0),.int .u32 (0),.slice none 0 0]) 3 32:=⟨by kernel_rfl⟩
instance :TAgg Tryz.prog 98:=⟨by kernel_rfl⟩
instance :TSl Tryz.prog 104 31:=⟨by kernel_rfl⟩
instance :TArr Tryz.prog 105 14 3:=⟨by kernel_rfl⟩
instance :TFld Tryz.prog 108 2 0 2:=⟨by kernel_rfl⟩
instance :TFld Tryz.prog 110 0 0 22:=⟨by kernel_rfl⟩
instance :TFld Tryz.prog 110 1 1 105:=⟨by kernel_rfl⟩
instance :TFld Tryz.prog 110 2 15 3:=⟨by kernel_rfl⟩
instance :TFld Tryz.prog 110 3 16 4:=⟨by kernel_rfl⟩
instance :TFld Tryz.prog 110 4 17 4:=⟨by kernel_rfl⟩
instance :TFld Tryz.prog 110 5 18 3:=⟨by kernel_rfl⟩
instance :TFld Tryz.prog 110 6 19 3:=⟨by kernel_rfl⟩
instance :TFld Tryz.prog 110 7 20 108:=⟨by kernel_rfl⟩
instance :TPl Tryz.prog 110 [(0,1),(1,14),(15,1),(16,1),(17,1),(18,1),(19,1),(20,1)]:=⟨by kernel_rfl⟩
instance :TInf Tryz.prog 110 (.agg #[.slice none 0 0,.int .i64 (0),.int .i64 (0),.int .i64 (0),.int .i64 (0),.int .i64 (0),.int .i64 (0),.int .i64 (0),.int .i64 (0),.int .i64 (0),.int .i64 (0),.int .i64 (0),.int .i64 (0),.int .i64 (0),.int .i64 (0),.int .i64 (0),.bool false,.bool false,.int .i64 (0),.int .i64 (0),.int .i64 (0)]) 21 176:=⟨by kernel_rfl⟩
instance :TInt Tryz.prog 143 .u64:=⟨by kernel_rfl⟩
instance :TArr Tryz.prog 144 2 31:=⟨by kernel_rfl⟩
instance :TPl Tryz.prog 144 [(0,1),(1,1)]:=⟨by kernel_rfl⟩
instance :TInf Tryz.prog 144 (.agg #[.int .u32 (0),.int .u32 (0)]) 2 8:=⟨by kernel_rfl⟩
instance :TSl Tryz.prog 145 22:=⟨by kernel_rfl⟩
instance :TInf Tryz.prog 145 (.slice none 0 0) 1 24:=⟨by kernel_rfl⟩
instance :TOne Tryz.prog 145:=⟨by kernel_rfl⟩
instance :TSl Tryz.prog 147 3:=⟨by kernel_rfl⟩
instance :TPtr Tryz.prog 148 269:=⟨by kernel_rfl⟩
instance :TInf Tryz.prog 148 (.pointer none) 1 8:=⟨by kernel_rfl⟩
instance :TOne Tryz.prog 148:=⟨by kernel_rfl⟩
instance :TFld Tryz.prog 152 1 0 31:=⟨by kernel_rfl⟩
instance :TFld Tryz.prog 156 1 0 154:=⟨by kernel_rfl⟩
instance :TFld Tryz.prog 158 1 0 152:=⟨by kernel_rfl⟩
instance :TFld Tryz.prog 158 2 1 156:=⟨by kernel_rfl⟩
instance :TFld Tryz.prog 160 0 0 91:=⟨by kernel_rfl⟩
instance :TFld Tryz.prog 160 1 4 22:=⟨by kernel_rfl⟩
instance :TFld Tryz.prog 160 2 5 158:=⟨by kernel_rfl⟩
instance :TFld Tryz.prog 160 3 8 145:=⟨by kernel_rfl⟩
instance :TPl Tryz.prog 160 [(0,4),(4,1),(5,3),(8,1)]:=⟨by kernel_rfl⟩
instance :TInf Tryz.prog 160 (.agg #[.int .u32 (0),.int .i64 (0),.int .i64 (0),.int .i64 (0),.slice none 0 0,.int .u32 (0),.int .i32 (0),.int .u32 (0),.slice none 0 0]) 9 96:=⟨by kernel_rfl⟩
instance :TPtr Tryz.prog 163 246:=⟨by kernel_rfl⟩
instance :TOne Tryz.prog 163:=⟨by kernel_rfl⟩
instance :TPtr Tryz.prog 164 221:=⟨by kernel_rfl⟩
instance :TOne Tryz.prog 164:=⟨by kernel_rfl⟩
instance :TFld Tryz.prog 166 0 0 49:=⟨by kernel_rfl⟩
instance :TFld Tryz.prog 166 1 6 163:=⟨by kernel_rfl⟩
instance :TFld Tryz.prog 166 2 7 164:=⟨by kernel_rfl⟩
instance :TPl Tryz.prog 166 [(0,6),(6,1),(7,1)]:=⟨by kernel_rfl⟩
instance :TInf Tryz.prog 166 (.agg #[.int .u32 (0),.int .u32 (0),.int .i64 (0),.int .i64 (0),.int .i64 (0),.slice none 0 0,.pointer none,.pointer none]) 8 72:=⟨by kernel_rfl⟩
instance :TFld Tryz.prog 170 0 0 31:=⟨by kernel_rfl⟩
instance :TFld Tryz.prog 170 1 1 22:=⟨by kernel_rfl⟩
instance :TPl Tryz.prog 170 [(0,1),(1,1)]:=⟨by kernel_rfl⟩
instance :TInf Tryz.prog 170 (.agg #[.int .u32 (0),.slice none 0 0]) 2 32:=⟨by kernel_rfl⟩
instance :TAgg Tryz.prog 170:=⟨by kernel_rfl⟩
instance :TFld Tryz.prog 175 0 0 22:=⟨by kernel_rfl⟩
instance :TFld Tryz.prog 175 1 1 27:=⟨by kernel_rfl⟩
instance :TPl Tryz.prog 175 [(0,1),(1,1)]:=⟨by kernel_rfl⟩
instance :TInf Tryz.prog 175 (.agg #[.slice none 0 0,.int .i64 (0)]) 2 32:=⟨by kernel_rfl⟩
instance :TArr Tryz.prog 185 8 31:=⟨by kernel_rfl⟩
instance :TPl Tryz.prog 185 [(0,1),(1,1),(2,1),(3,1),(4,1),(5,1),(6,1),(7,1)]:=⟨by kernel_rfl⟩
instance :TInf Tryz.prog 185 (.agg #[.int .u32 (0),.int .u32 (0),.int .u32 (0),.int .u32 (0),.int .u32 (0),.int .u32 (0),.int .u32 (0),.int .u32 (0)]) 8 32:=⟨by kernel_rfl⟩
instance :TAgg Tryz.prog 185:=⟨by kernel_rfl⟩
instance :TPtr Tryz.prog 211 258:=⟨by kernel_rfl⟩
instance :TPtr Tryz.prog 214 265:=⟨by kernel_rfl⟩
instance :TOne Tryz.prog 214:=⟨by kernel_rfl⟩
instance :TPtr Tryz.prog 219 283:=⟨by kernel_rfl⟩
instance :TOne Tryz.prog 219:=⟨by kernel_rfl⟩
instance :TFld Tryz.prog 221 0 0 91:=⟨by kernel_rfl⟩
instance :TFld Tryz.prog 221 1 4 219:=⟨by kernel_rfl⟩
instance :TFld Tryz.prog 221 2 5 108:=⟨by kernel_rfl⟩
instance :TFld Tryz.prog 221 3 6 158:=⟨by kernel_rfl⟩
instance :TFld Tryz.prog 221 4 9 145:=⟨by kernel_rfl⟩
instance :TPl Tryz.prog 221 [(0,4),(4,1),(5,1),(6,3),(9,1)]:=⟨by kernel_rfl⟩
instance :TInf Tryz.prog 221 (.agg #[.int .u32 (0),.int .i64 (0),.int .i64 (0),.int .i64 (0),.pointer none,.int .i64 (0),.int .u32 (0),.int .i32 (0),.int .u32 (0),.slice none 0 0]) 10 88:=⟨by kernel_rfl⟩
instance :TArr Tryz.prog 227 64 31:=⟨by kernel_rfl⟩
instance :TPl Tryz.prog 227 [(0,1),(1,1),(2,1),(3,1),(4,1),(5,1),(6,1),(7,1),(8,1),(9,1),(10,1),(11,1),(12,1),(13,1),(14,1),(15,1),(16,1),(17,1),(18,1),(19,1),(20,1),(21,1),(22,1),(23,1),(24,1),(25,1),(26,1),(27,1),(28,1),(29,1),(30,1),(31,1),(32,1),(33,1),(34,1),(35,1),(36,1),(37,1),(38,1),(39,1),(40,1),(41,1),(42,1),(43,1),(44,1),(45,1),(46,1),(47,1),(48,1),(49,1),(50,1),(51,1),(52,1),(53,1),(54,1),(55,1),(56,1),(57,1),(58,1),(59,1),(60,1),(61,1),(62,1),(63,1)]:=⟨by kernel_rfl⟩
instance :TInf Tryz.prog 227 (.agg #[.int .u32 (0),.int .u32 (0),.int .u32 (0),.int .u32 (0),.int .u32 (0),.int .u32 (0),.int .u32 (0),.int .u32 (0),.int .u32 (0),.int .u32 (0),.int .u32 (0),.int .u32 (0),.int .u32 (0),.int .u32 (0),.int .u32 (0),.int .u32 (0),.int .u32 (0),.int .u32 (0),.int .u32 (0),.int .u32 (0),.int .u32 (0),.int .u32 (0),.int .u32 (0),.int .u32 (0),.int .u32 (0),.int .u32 (0),.int .u32 (0),.int .u32 (0),.int .u32 (0),.int .u32 (0),.int .u32 (0),.int .u32 (0),.int .u32 (0),.int .u32 (0),.int .u32 (0),.int .u32 (0),.int .u32 (0),.int .u32 (0),.int .u32 (0),.int .u32 (0),.int .u32 (0),.int .u32 (0),.int .u32 (0),.int .u32 (0),.int .u32 (0),.int .u32 (0),.int .u32 (0),.int .u32 (0),.int .u32 (0),.int .u32 (0),.int .u32 (0),.int .u32 (0),.int .u32 (0),.int .u32 (0),.int .u32 (0),.int .u32 (0),.int .u32 (0),.int .u32 (0),.int .u32 (0),.int .u32 (0),.int .u32 (0),.int .u32 (0),.int .u32 (0),.int .u32 (0)]) 64 256:=⟨by kernel_rfl⟩
instance :TAgg Tryz.prog 227:=⟨by kernel_rfl⟩
instance :TSl Tryz.prog 240 243:=⟨by kernel_rfl⟩
instance :TInf Tryz.prog 240 (.slice none 0 0) 1 24:=⟨by kernel_rfl⟩
instance :TOne Tryz.prog 240:=⟨by kernel_rfl⟩
instance :TFld Tryz.prog 243 0 0 31:=⟨by kernel_rfl⟩
instance :TFld Tryz.prog 243 1 1 22:=⟨by kernel_rfl⟩
instance :TPl Tryz.prog 243 [(0,1),(1,1)]:=⟨by kernel_rfl⟩
instance :TInf Tryz.prog 243 (.agg #[.int .u32 (0),.slice none 0 0]) 2 32:=⟨by kernel_rfl⟩
instance :TAgg Tryz.prog 243:=⟨by kernel_rfl⟩
instance :TFld Tryz.prog 246 0 0 41:=⟨by kernel_rfl⟩
instance :TFld Tryz.prog 246 1 1 31:=⟨by kernel_rfl⟩
instance :TFld Tryz.prog 246 2 2 3:=⟨by kernel_rfl⟩
instance :TFld Tryz.prog 246 3 3 240:=⟨by kernel_rfl⟩
instance :TFld Tryz.prog 246 4 4 3:=⟨by kernel_rfl⟩
instance :TFld Tryz.prog 246 5 5 3:=⟨by kernel_rfl⟩
instance :TPl Tryz.prog 246 [(0,1),(1,1),(2,1),(3,1),(4,1),(5,1)]:=⟨by kernel_rfl⟩
instance :TInf Tryz.prog 246 (.agg #[.pointer none,.int .u32 (0),.int .i64 (0),.slice none 0 0,.int .i64 (0),.int .i64 (0)]) 6 64:=⟨by kernel_rfl⟩
instance :TSl Tryz.prog 252 148:=⟨by kernel_rfl⟩
instance :TFld Tryz.prog 256 1 0 31:=⟨by kernel_rfl⟩
instance :TFld Tryz.prog 258 0 0 256:=⟨by kernel_rfl⟩
instance :TPl Tryz.prog 258 [(0,1)]:=⟨by kernel_rfl⟩
instance :TInf Tryz.prog 258 (.agg #[.int .u32 (0)]) 1 4:=⟨by kernel_rfl⟩
instance :TSl Tryz.prog 263 35:=⟨by kernel_rfl⟩
instance :TInf Tryz.prog 263 (.slice none 0 0) 1 24:=⟨by kernel_rfl⟩
instance :TOne Tryz.prog 263:=⟨by kernel_rfl⟩
instance :TFld Tryz.prog 265 0 0 3:=⟨by kernel_rfl⟩
instance :TFld Tryz.prog 265 1 1 158:=⟨by kernel_rfl⟩
instance :TFld Tryz.prog 265 2 4 263:=⟨by kernel_rfl⟩
instance :TPl Tryz.prog 265 [(0,1),(1,3),(4,1)]:=⟨by kernel_rfl⟩
instance :TInf Tryz.prog 265 (.agg #[.int .i64 (0),.int .u32 (0),.int .i32 (0),.int .u32 (0),.slice none 0 0]) 5 48:=⟨by kernel_rfl⟩
instance :TFld Tryz.prog 269 0 0 3:=⟨by kernel_rfl⟩
instance :TFld Tryz.prog 269 1 1 263:=⟨by kernel_rfl⟩
instance :TPl Tryz.prog 269 [(0,1),(1,1)]:=⟨by kernel_rfl⟩
instance :TInf Tryz.prog 269 (.agg #[.int .i64 (0),.slice none 0 0]) 2 32:=⟨by kernel_rfl⟩
instance :TPtr Tryz.prog 277 280:=⟨by kernel_rfl⟩
instance :TInf Tryz.prog 277 (.pointer none) 1 8:=⟨by kernel_rfl⟩
instance :TOne Tryz.prog 277:=⟨by kernel_rfl⟩
instance :TFld Tryz.prog 280 0 0 148:=⟨by kernel_rfl⟩
instance :TFld Tryz.prog 280 1 1 22:=⟨by kernel_rfl⟩
instance :TPl Tryz.prog 280 [(0,1),(1,1)]:=⟨by kernel_rfl⟩
instance :TInf Tryz.prog 280 (.agg #[.pointer none,.slice none 0 0]) 2 32:=⟨by kernel_rfl⟩
instance :TSl Tryz.prog 281 277:=⟨by kernel_rfl⟩
instance :TOne Tryz.prog 281:=⟨by kernel_rfl⟩
instance :TFld Tryz.prog 283 0 0 3:=⟨by kernel_rfl⟩
instance :TFld Tryz.prog 283 1 1 3:=⟨by kernel_rfl⟩
instance :TFld Tryz.prog 283 2 2 281:=⟨by kernel_rfl⟩
instance :TFld Tryz.prog 283 3 3 108:=⟨by kernel_rfl⟩
instance :TPl Tryz.prog 283 [(0,1),(1,1),(2,1),(3,1)]:=⟨by kernel_rfl⟩
instance :TInf Tryz.prog 283 (.agg #[.int .i64 (0),.int .i64 (0),.slice none 0 0,.int .i64 (0)]) 4 48:=⟨by kernel_rfl⟩
instance :TArr Tryz.prog 312 64 5:=⟨by kernel_rfl⟩
theorem mixed:Tryz.prog.follows .mixedOrders=true:=by kernel_rfl
open Go.RowKit Go.Proofs
def mayP (k p z:Int):Bool:=decide (1≤k∧k≤64∧0≤p∧p≤16∧1≤z∧z≤16)
theorem a5N (H:List Hl) (s k p z:Int):Spec Tryz.prog 106 [.agg #[.int .u32 s,.int .i64 k,.int .i64 p,.int .i64 z]] H (fun _:Unit=>True) (fun _ => .bool (mayP k p z)) (fun _=>H):=by
 refine sP (res:=fun _=>[]) H Tryz.func106 Tryz.ntmps106 fun W=>?_
 repeat' (first|intro _|refine wK ?_|refine wL ?_ ?_|fail)
 all_goals (refine a0E () rfl rfl ?_ trivial (.cons (.there .here) .nil);simp only [mayP];congr 1;simp;omega)
structure SlotD where
 v:BitVec 32
 n:Int
 h:SlD (BitVec 8)
structure ManD where
 s:BitVec 32
 v:BitVec 32
 n:Int
 z:Int
 p:Int
 h:SlD (BitVec 8)
structure StD where
 a:Int
 t:Int
 f:BitVec 32
 g:BitVec 32
 s0:SlotD
 s1:SlotD
 on:Bool
 m:ManD
abbrev SlotD.c (x:SlotD):List Value:=[W4 x.v,I x.n,Bs x.h]
abbrev ManD.c (x:ManD):List Value:=[W4 x.s,W4 x.v,I x.n,I x.z,I x.p,Bs x.h]
abbrev StD.c (x:StD):List Value:=[I x.a,I x.t,W4 x.f,W4 x.g,W4 x.s0.v,I x.s0.n,Bs x.s0.h,W4 x.s1.v,I x.s1.n,Bs x.s1.h,.bool x.on,W4 x.m.s,W4 x.m.v,I x.m.n,I x.m.z,I x.m.p,Bs x.m.h]
abbrev SlotD.V (x:SlotD):Value := .agg x.c.toArray
abbrev ManD.V (x:ManD):Value := .agg x.c.toArray
abbrev StD.V (x:StD):Value := .agg x.c.toArray
def SlotD.something (x:SlotD):Bool:=decide (x.h.l.length=32∧1≤x.n∧x.n≤512)
def SlotD.nothing (x:SlotD):Bool:=decide (x.v.toNat=0∧x.n=0∧x.h.l.length=0)
def ManD.none (x:ManD):Bool:=decide (x.s.toNat=0∧x.v.toNat=0∧x.n=0∧x.z=0∧x.p=0∧x.h.l.length=0)
def count (l s:Int):Int:=if l<1∨512<l∨s<1∨16<s then 0 else if 64<(l+s - 1) / s then 0 else (l+s - 1) / s
theorem a9W (H:List Hl) (l s:Int):Spec Tryz.prog 105 [I l,I s] H (fun _:Unit=>True) (fun _=>I (count l s)) (fun _=>H):=by
 refine sP (res:=fun _=>[]) H Tryz.func105 Tryz.ntmps105 fun W=>?_
 repeat' (first|intro _|(refine a0D .quo ?_;refine a3A rfl rfl (by omega) ?_)|refine wK ?_|refine wL ?_ ?_|fail)
 all_goals
  refine a0E () rfl rfl ?_ trivial ?_
 all_goals first
  | (exact ent;done)
  | skip
 all_goals
  unfold count
  split <;> first|rfl|omega|(split <;> first|rfl|omega)
def ManD.may (x:ManD):Bool:=mayP (count x.n x.z) x.p x.z && decide (x.h.l.length=32)
def StD.cur (x:StD):SlotD:=if x.a=0 then x.s0 else x.s1
def StD.oth (x:StD):SlotD:=if x.a=0 then x.s1 else x.s0
def StD.may (x:StD):Bool:=decide ((x.a=0∨x.a=1)∧0≤x.t∧x.t≤3) && x.cur.something && (x.oth.something || x.oth.nothing && decide (x.t≤0)) && (if x.on then x.m.may else x.m.none)
theorem st_something (H:List Hl) (x:SlotD):Spec Tryz.prog 148 [x.V] H (fun _:Unit=>True) (fun _ => .bool x.something) (fun _=>H):=by
 refine sP (res:=fun _=>[]) H Tryz.func148 Tryz.ntmps148 fun W=>?_
 repeat' (first|intro _|refine wK ?_|refine wL ?_ ?_|fail)
 all_goals (refine a0E () rfl rfl ?_ trivial (.cons (.there .here) .nil);simp only [SlotD.something];congr 1;simp;omega)
theorem a7D (H:List Hl) (x:SlotD):Spec Tryz.prog 113 [x.V] H (fun _:Unit=>True) (fun _ => .bool x.nothing) (fun _=>H):=by
 refine sP (res:=fun _=>[]) H Tryz.func113 Tryz.ntmps113 fun W=>?_
 repeat' (first|intro _|refine wK ?_|refine wL ?_ ?_|fail)
 all_goals (refine a0E () rfl rfl ?_ trivial (.cons (.there .here) .nil);simp only [SlotD.nothing];congr 1;simp only [eq_comm (a:=true),eq_comm (a:=false),decide_eq_true_eq,decide_eq_false_iff_not];omega)
theorem st_none (H:List Hl) (x:ManD):Spec Tryz.prog 149 [x.V] H (fun _:Unit=>True) (fun _ => .bool x.none) (fun _=>H):=by
 refine sP (res:=fun _=>[]) H Tryz.func149 Tryz.ntmps149 fun W=>?_
 repeat' (first|intro _|refine wK ?_|refine wL ?_ ?_|fail)
 all_goals (refine a0E () rfl rfl ?_ trivial (.cons (.there .here) .nil);simp only [ManD.none];congr 1;simp only [eq_comm (a:=true),eq_comm (a:=false),decide_eq_true_eq,decide_eq_false_iff_not];omega)
def rtE2_0:List Row:=[tR 5 [] [],tR 6 [0] [0],tR 7 [] [],tR 8 [2] [2],tR 9 [] [],tR 10 [4] [4],tR 11 [3,5] [2,3,4,5],tR 12 [] [],tR 13 [7] [7],tR 14 [] [],tR 15 [9] [9],tR 16 [1,6,8,10] (rG 11),tR 4 [] [],⟨none,[12,11,6,0,1,2,3,4,5,6,7,8,9,10,11,12],[0,1,2,3,4,5,6,7,8,9,10,11,12],none⟩]
def ManD.parL (x:ManD):List Value:=if mayP (count x.n x.z) x.p x.z then [W4 x.s,I (count x.n x.z),I x.p,I x.z] else [W4 0#32,I 0,I 0,I 0]
theorem b0O (H:List Hl) (x:ManD):Spec Tryz.prog 58 [x.V] H (fun _:Unit=>True) (fun _ => .tuple #[.agg x.parL.toArray,.bool (mayP (count x.n x.z) x.p x.z)]) (fun _=>H):=by
 refine sP (res:=fun _=>[]) H Tryz.func58 Tryz.ntmps58 fun W=>?_
 repeat' (first|intro _|refine wK ?_|refine wL ?_ ?_|fail)
 refine a0H [(1,_)] rtE2_0 [12,13] [⟨[0,1,2,3,4,5,6,7,8,9,10,11],[],some 12⟩,⟨[],[0,1,2,3,4,5,6,7,8,9,10,11],some 13⟩,⟨[],[],none⟩] mixed cv (by kernel_rfl) (by kernel_rfl) ?_
 repeat' (first|intro _|refine sg ?_|(refine p_fn 105 ?_;refine po (by first|refine a0A (fun _=>a9W _ _ _) rfl (fun _ _=>fz)|fail) ?_)|refine pw ?_|refine pdd ?_|refine ow ?_|fail)
 all_goals dsimp only [cA,nA]
 cases hm:mayP (count x.n x.z) x.p x.z
 ·have hp:x.parL=[W4 0#32,I 0,I 0,I 0]:=by rw [ManD.parL,hm];rfl
  rw [hp]
  repeat' (first|intro _|(refine k_fn 106 ?_;refine a0A (fun _=>(a5N _ _ _ _ _).bv hm) rfl (fun _ _=>?_))|refine wK ?_|refine wL ?_ ?_|fail)
  refine a0N () rfl rfl rfl rfl rfl trivial ?_
  exact ent
 ·have hp:x.parL=[W4 x.s,I (count x.n x.z),I x.p,I x.z]:=by rw [ManD.parL,hm];rfl
  rw [hp]
  repeat' (first|intro _|(refine k_fn 106 ?_;refine a0A (fun _=>(a5N _ _ _ _ _).bv hm) rfl (fun _ _=>?_))|refine wK ?_|refine wL ?_ ?_|fail)
  refine a0N () rfl rfl rfl rfl rfl trivial ?_
  exact ent
theorem a8M (H:List Hl) (x:ManD):Spec Tryz.prog 57 [x.V] H (fun _:Unit=>True) (fun _ => .bool x.may) (fun _=>H):=by
 refine sP (res:=fun _=>[]) H Tryz.func57 Tryz.ntmps57 fun W=>?_
 have hpl:∃ p0 p1 p2 p3,x.parL=[p0,p1,p2,p3]∧(∀ v∈[p0,p1,p2,p3],v.oneCell'=true):=by
  unfold ManD.parL
  split
  ·exact ⟨_,_,_,_,rfl,by simp [Value.oneCell']⟩
  ·exact ⟨_,_,_,_,rfl,by simp [Value.oneCell']⟩
 obtain ⟨p0,p1,p2,p3,hp,hp1⟩:=hpl
 cases hm:mayP (count x.n x.z) x.p x.z
 all_goals
  repeat' (first|intro _|(refine k_fn 58 ?_;(refine a0A (fun _=>b0O _ x) rfl (fun _ _=>?_);rw [hp,hm]))|(refine a1N ?_;refine a7U rfl rfl rfl (by simp) hp1 (by simp only [putL,List.set_cons_zero,List.set_cons_succ,Nat.zero_add,Nat.reduceAdd];rfl) ?_)|refine wK ?_|refine wL ?_ ?_|fail)
 all_goals (refine a0E () rfl rfl ?_ trivial ?_;· simp only [ManD.may,hm];refine congrArg Value.bool ?_;first|(simp;done)|(simp;omega))
 all_goals exact ent
theorem a4D (H:List Hl) (x:StD):Spec Tryz.prog 97 [x.V] H (fun _:Unit=>True) (fun _ => .bool x.may) (fun _=>H):=by
 obtain ⟨a,t,f,g,s0,s1,on,m⟩:=x
 refine sP (res:=fun _=>[]) H Tryz.func97 Tryz.ntmps97 fun W=>?_
 dsimp only [StD.V,StD.c]
 by_cases h01:a=0∨a=1
 ·rcases h01 with rfl|rfl
  all_goals
   repeat' (first|intro _|(refine a0J ?_;first|refine a1C 0 4 rfl rfl rfl (by decide) rfl ?_|refine a1C 1 7 rfl rfl rfl (by decide) rfl ?_)|(refine k_fn 148 ?_;first|(refine a0A (fun _=>st_something _ s0) rfl (fun _ _=>?_);cases h1:s0.something)|(refine a0A (fun _=>st_something _ s1) rfl (fun _ _=>?_);cases h2:s1.something))|(refine k_fn 113 ?_;first|(refine a0A (fun _=>a7D _ s0) rfl (fun _ _=>?_);cases h3:s0.nothing)|(refine a0A (fun _=>a7D _ s1) rfl (fun _ _=>?_);cases h4:s1.nothing))|(refine k_fn 57 ?_;refine a0A (fun _=>a8M _ m) rfl (fun _ _=>?_))|(refine k_fn 149 ?_;refine a0A (fun _=>st_none _ m) rfl (fun _ _=>?_))|refine wK ?_|refine wL ?_ ?_|fail)
  all_goals (refine a0E () rfl rfl ?_ trivial ?_;· simp_all [StD.may,StD.cur,StD.oth];try omega)
  all_goals exact ent
 ·repeat' (first|intro _|refine wK ?_|refine wL ?_ ?_|fail)
  all_goals (refine a0E () rfl rfl ?_ trivial ?_;· simp only [StD.may];refine congrArg Value.bool ?_;simp;omega)
  all_goals exact ent
theorem a4K (H:List Hl) (ad ad':Option Addr) (c c':Nat) (l m:List (BitVec 8)) (h1:Rs (stars H) B ad c l) (h2:Rs (stars H) B ad' c' m) :
  Spec Tryz.prog 66 [.slice ad l.length c,.slice ad' m.length c'] H (fun _:Unit=>True) (fun _ => .bool (decide (l=m))) (fun _=>H):=by
 have b1:=h1.le
 have b2:=h1.big
 refine sP (res:=fun _=>[]) H Tryz.func66 Tryz.ntmps66 fun W=>?_
 repeat' (first|intro _|refine wK ?_|refine wL ?_ ?_|fail)
 ·rename_i hlen
  refine a0E () rfl rfl ?_ trivial (Ent.refl _)
  simp;intro e;subst e;omega
 rename_i hlen
 have hlen:l.length=m.length:=by omega
 refine a0Y (S:=Nat) (fun i=>[(0,.slice ad l.length c),(1,.slice ad' m.length c'),(12,.int .i64 l.length),(13,.int .i64 i)]) (fun _=>[.any (stars H)]) (fun i=>i≤l.length∧l.take i=m.take i) (fun i=>l.length - i) 0 ⟨by omega,by simp⟩
  cv (Ent.refl _) ?_
 rintro i ⟨hi,hpre⟩
 repeat' (first|intro _|refine wK ?_|refine wL ?_ ?_|fail)
 ·rename_i hlt
  have hlt:i<l.length:=by omega
  apply st_draw [(0,_),(5,_),(1,_)] [.c _,.c _,.p (fun v=>∃ a,v = .pointer (some a)∧Cl (stars H) a (B l[i])) (fun _=>[]),.c _,.c _,.c _,.p (fun v=>∃ a,v = .pointer (some a)∧Cl (stars H) a (B m[i])) (fun _=>[]),.c _,.c _] [⟨some 16,[],[],none⟩,⟨some 17,[],[],none⟩,⟨some 18,[0,1],[0,1],none⟩,⟨some 19,[2],[0,1,2],none⟩,⟨some 20,[],[],none⟩,⟨some 21,[],[],none⟩,⟨some 22,[4,5],[4,5],none⟩,⟨some 23,[6],[4,5,6],none⟩,⟨some 24,[3,7],[0,1,2,3,4,5,6,7],none⟩] mixed (a0R rfl rfl (a0R rfl rfl (a0R rfl rfl a6A))) (by kernel_rfl) (by kernel_rfl) (by kernel_rfl) (a6Y ?d6_o0 (a6Y ?d6_o1 (a6Y ?d6_o2 (a6Y ?d6_o3 (a6Y ?d6_o4 (a6Y ?d6_o5 (a6Y ?d6_o6 (a6Y ?d6_o7 (a6Y ?d6_o8 obl_nil))))))))) ?d6_nx
  case d6_o0=>refine a9J rfl (a9P rfl) (fun _=>?_);refine a6M ?_;dsimp only [cA,nA,List.singleton_append,List.append_nil,blk];(first|refine a6F rfl ?_);all_goals (exact ⟨rfl,fun _ h=>h⟩)
  case d6_o1=>refine a9J rfl (a9P rfl) (fun _=>?_);refine a6M ?_;dsimp only [cA,nA,List.singleton_append,List.append_nil,blk];(first|refine a6F rfl ?_);all_goals (exact ⟨rfl,fun _ h=>h⟩)
  case d6_o2=>refine a9J rfl (a9P rfl) (fun _=>?_);refine a5B rfl rfl ?_;refine a5B rfl rfl ?_;refine a6M ?_;dsimp only [cA,nA,List.singleton_append,List.append_nil,blk];(refine a3E rfl rfl h1 i rfl hlt (fun a ha=>⟨⟨a,rfl,ha⟩,fun _ h=>h⟩));all_goals (first|exact ⟨⟨rfl⟩,fun _ h=>h⟩|exact ⟨⟨_,rfl⟩,fun _ h=>h⟩|exact ⟨⟨_,_,rfl⟩,fun _ h=>h⟩|exact ⟨⟨_,_,_,rfl⟩,fun _ h=>h⟩)
  case d6_o3=>refine a9J rfl (a9P rfl) (fun _=>?_);refine a5B rfl rfl ?_;refine a5B rfl rfl ?_;refine b7V rfl rfl ?_;rintro _ ⟨_,rfl,_⟩;refine a6M ?_;dsimp only [cA,nA,List.singleton_append,List.append_nil,blk];(first|refine a0F rfl (by rfl) ?_|refine a2V rfl (by first|omega|(simp;omega)) ?_|refine a0L rfl (by assumption) ?_);all_goals (exact ⟨rfl,fun _ h=>h⟩)
  case d6_o4=>refine a9J rfl (a9P rfl) (fun _=>?_);refine a6M ?_;dsimp only [cA,nA,List.singleton_append,List.append_nil,blk];(first|refine a6F rfl ?_);all_goals (exact ⟨rfl,fun _ h=>h⟩)
  case d6_o5=>refine a9J rfl (a9P rfl) (fun _=>?_);refine a6M ?_;dsimp only [cA,nA,List.singleton_append,List.append_nil,blk];(first|refine a6F rfl ?_);all_goals (exact ⟨rfl,fun _ h=>h⟩)
  case d6_o6=>refine a9J rfl (a9P rfl) (fun _=>?_);refine a5B rfl rfl ?_;refine a5B rfl rfl ?_;refine a6M ?_;dsimp only [cA,nA,List.singleton_append,List.append_nil,blk];(refine a3E rfl rfl h2 i rfl (by omega) (fun a ha=>⟨⟨a,rfl,ha⟩,fun _ h=>h⟩));all_goals (first|exact ⟨⟨rfl⟩,fun _ h=>h⟩|exact ⟨⟨_,rfl⟩,fun _ h=>h⟩|exact ⟨⟨_,_,rfl⟩,fun _ h=>h⟩|exact ⟨⟨_,_,_,rfl⟩,fun _ h=>h⟩)
  case d6_o7=>refine a9J rfl (a9P rfl) (fun _=>?_);refine a5B rfl rfl ?_;refine a5B rfl rfl ?_;refine b7V rfl rfl ?_;rintro _ ⟨_,rfl,_⟩;refine a6M ?_;dsimp only [cA,nA,List.singleton_append,List.append_nil,blk];(first|refine a0F rfl (by rfl) ?_|refine a2V rfl (by first|omega|(simp;omega)) ?_|refine a0L rfl (by assumption) ?_);all_goals (exact ⟨rfl,fun _ h=>h⟩)
  case d6_o8=>refine a9J rfl (a9P rfl) (fun _=>?_);refine a5B rfl rfl ?_;refine a5B rfl rfl ?_;refine b7V rfl rfl ?_;rintro _ ⟨_,rfl,_⟩;refine a5B rfl rfl ?_;refine a5B rfl rfl ?_;refine a5B rfl rfl ?_;refine b7V rfl rfl ?_;rintro _ ⟨_,rfl,_⟩;refine a5B rfl rfl ?_;refine a6M ?_;dsimp only [cA,nA,List.singleton_append,List.append_nil,blk];(first|refine a3R rfl rfl (by omega) ?_|refine a2E rfl rfl (by omega) ?_|refine b8X rfl rfl ?_);all_goals (exact ⟨rfl,fun _ h=>h⟩)
  case d6_nx =>
   refine a5B rfl rfl ?_;refine a5B rfl rfl ?_;refine b7V rfl rfl ?_;rintro _ ⟨_,rfl,_⟩;refine a5B rfl rfl ?_;refine a5B rfl rfl ?_;refine a5B rfl rfl ?_;refine b7V rfl rfl ?_;rintro _ ⟨_,rfl,_⟩;refine a5B rfl rfl ?_;refine a5B rfl rfl ?_;refine a6M ?_;dsimp only [cA,nA,List.singleton_append,List.append_nil,blk]
   repeat' (first|intro _|refine wK ?_|refine wL ?_ ?_|fail)
   ·rename_i hne
    refine a0E () rfl rfl ?_ trivial (Ent.refl _)
    simp at hne ⊢
    rintro rfl
    exact hne rfl
   ·rename_i heq
    simp at heq
    refine a0Q (i+1) ⟨by omega,?_⟩ (by omega) cv (Ent.refl _)
    rw [List.take_succ_eq_append_getElem hlt,List.take_succ_eq_append_getElem (by omega:i<m.length),hpre,BitVec.eq_of_toNat_eq (by omega:l[i].toNat=m[i].toNat)]
 ·refine a0E () rfl rfl ?_ trivial (Ent.refl _)
  have:i=l.length:=by omega
  subst this
  rw [List.take_length,List.take_of_length_le (by omega)] at hpre
  simp [hpre]
theorem a1B (H:List Hl) (ad:Option Addr) (c:Nat) (l:List (BitVec 8)) (h:Rs (stars H) B ad c l) (hb:l.length≤140737488355328) :
  Spec Tryz.prog 29 [.slice ad l.length c] H (fun _:Option Addr × Nat=>True) (fun r:Option Addr × Nat => .slice r.1 l.length r.2)
   (fun r:Option Addr × Nat => .row 5 1 (.slice r.1 l.length r.2) l.length (l.map B)::H):=by
 refine sP (res:=fun r:Option Addr × Nat=>[.row 5 1 (.slice r.1 l.length r.2) l.length (l.map B)]) H Tryz.func29 Tryz.ntmps29 fun W=>?_
 cases ad with
 | none =>
  have hl:l=[]:=by
   cases l with
   | nil=>rfl
   | cons a l=>obtain ⟨x,hx⟩:=h.sm (by simp);cases hx
  subst hl
  repeat' (first|intro _|refine wK ?_|refine wL ?_ ?_|fail)
  refine (a2A (a1A 5 B) ?_)
  refine a0E (none,0) rfl rfl rfl trivial ?_
  exact ent
 | some a =>
  repeat' (first|intro _|(refine a1S ?_;refine a2C (xs:=([]:List (BitVec 8))) rfl rfl rfl rfl (a3Q h) rfl rfl (fun _=>rfl) (by omega) (by have:=h.le;have:=h.big;omega) (fun _ _=>?_))|refine wK ?_|refine wL ?_ ?_|fail)
  refine a0E (_,_) rfl rfl (by simp only [Nat.zero_add];rfl) trivial ?_
  simp only [Nat.zero_add,List.nil_append]
  exact ent
def StD.newer (x:StD) (v:BitVec 32):Bool:=x.may && (decide (x.f.toNat<v.toNat) && (decide (x.cur.v.toNat<v.toNat) && (!x.on || decide (x.m.v.toNat<v.toNat))))
theorem StD.may_a {x:StD} (h:x.may=true):x.a=0∨x.a=1:=by
 simp only [StD.may,Bool.and_eq_true,decide_eq_true_eq] at h
 exact h.1.1.1.1
def StD.light (x:StD):Prop:=x.s0.h.l.length≤100∧x.s1.h.l.length≤100∧x.m.h.l.length≤100
def ManD.same (x y:ManD):Bool:=decide ((x.s.toNat:Int)=(y.s.toNat:Int)) && (decide ((x.v.toNat:Int)=(y.v.toNat:Int)) && (decide (x.n=y.n) && (decide (x.z=y.z) && (decide (x.p=y.p) && decide (x.h.l=y.h.l)))))
theorem b6M (H:List Hl) (x y:ManD) (hx:Rs (stars H) B x.h.ad x.h.cap x.h.l) (hy:Rs (stars H) B y.h.ad y.h.cap y.h.l):Spec Tryz.prog 117 [x.V,y.V] H (fun _:Unit=>True) (fun _ => .bool (x.same y)) (fun _=>H):=by
 refine sP (res:=fun _=>[]) H Tryz.func117 Tryz.ntmps117 fun W=>?_
 repeat' (first|intro _|(refine k_fn 66 ?_;refine a0A (fun _=>a4K _ _ _ _ _ x.h.l y.h.l hx.up hy.up) rfl (fun _ _=>?_))|refine wK ?_|refine wL ?_ ?_|fail)
 all_goals (refine a0E () rfl rfl ?_ trivial ?_;· simp only [ManD.same, *];first|rfl|simp|(simp;done))
 all_goals exact ent
def zS:StD:=⟨0,0,0#32,0#32,⟨0#32,0,⟨none,0,[]⟩⟩,⟨0#32,0,⟨none,0,[]⟩⟩,false,⟨0#32,0#32,0,0,0,⟨none,0,[]⟩⟩⟩
theorem rs00 {H:List Hl}:RsH H B none 0 ([]:List (BitVec 8)):=rs_nil (by decide)
abbrev PA:=Option Addr × Nat
theorem StD.heavy {x:StD} (h : ¬ x.light):x.may=false:=by
 cases hm:x.may
 ·rfl
 ·exfalso
  apply h
  simp only [StD.may,Bool.and_eq_true,Bool.or_eq_true,decide_eq_true_eq] at hm
  obtain ⟨⟨⟨⟨ha,_⟩,h1⟩,h2⟩,h3⟩:=hm
  have h3':x.m.h.l.length≤32:=by
   split at h3
   ·simp only [ManD.may,Bool.and_eq_true,decide_eq_true_eq] at h3;omega
   ·simp only [ManD.none,decide_eq_true_eq] at h3;omega
  have k1:∀ y:SlotD,y.something=true→y.h.l.length≤100:=fun y hy=>by simp only [SlotD.something,decide_eq_true_eq] at hy;omega
  have k2:∀ y:SlotD,y.nothing=true→y.h.l.length≤100:=fun y hy=>by simp only [SlotD.nothing,decide_eq_true_eq] at hy;omega
  have h4:=k1 _ h1
  have h5:x.oth.h.l.length≤100:=by
   rcases h2 with h2|h2
   ·exact k1 _ h2
   ·exact k2 _ h2.1
  rcases ha with ha|ha
  ·rw [show x.cur=x.s0 from if_pos ha] at h4
   rw [show x.oth=x.s1 from if_pos ha] at h5
   exact ⟨h4,h5,by omega⟩
  ·rw [show x.cur=x.s1 from if_neg (by omega)] at h4
   rw [show x.oth=x.s0 from if_neg (by omega)] at h5
   exact ⟨h5,h4,by omega⟩
def zM:ManD:=⟨0#32,0#32,0,0,0,⟨none,0,[]⟩⟩
end Go.Dp
