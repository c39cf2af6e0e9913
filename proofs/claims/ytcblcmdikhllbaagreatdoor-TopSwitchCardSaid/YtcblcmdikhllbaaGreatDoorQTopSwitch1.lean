/-
  An element of an array's value that has several cells; a pointer to a box against nil.
  Calls of the atomic operations on a cell of a box.
  Pointers against nil, closures, calls of what changes a box and its row.
  append onto a slice without room.
  Slices of structs of two cells: read, written out, appended to; pieces put together for good.
  Walking, in few words: what is a matter of form, and the usual lemma of an operation, found by itself.
  More operations: shifts and or of whole numbers, a number less one that may go round, append onto what is read and has no room, atomic pointers.
  What grows, and what stands in some way.
  Functions that defer calls: pieces of code behind a deferred call; a deferred call's own contract.
  Numbers as bytes, plain.
  Flash, sums and frames, plain.
  Flash in pieces: what programming and erasing leave alone and what they make, plain.
  The wheel's records and the slots, plain.
  The rows of the types' table that the walks use.
  Walks of functions that the laws of this seat reach, as contracts.
  States and manifests that may be, walked.
  code.Of, manifest.May, state.May, session.Newer, Heavy, walked.
  Walks of functions that the laws of this seat reach, as contracts.
  session.Newer, Heavy, manifest.Same, slices.Clone, First, good, walked.
  flash: its box; ready, Read, Blank, step, walked.
  flash: Program, walked.
  flash: Erase, Blank, Fuse, Start, Bytes, walked.
  flash: Fuse, Start, Bytes, walked.
  state.sameSlot and state.Same, walked.
  boot.copied and boot.Drop, walked.
  What boot does to states, plain.
  The reference's answers about manifests and states: Count, May, Params, MayManifest, SameManifest, sameSlot, maySlot, zero, MayState, SameState, Newer, walked.
  downpourref16.MayState, walked.
  boot.Start and boot.Confirm, and the reference's, walked.
  SHA-256 told on lists, plain.
  Four, Number and Join of the reference, walked.
  Small functions of the digest and of its reference, walked.
  digest.filled and digest.words64, walked.
  digest.words64, walked.
  takes, walked.
  Conditions: those that stand in each theorem.
-/
import Derived.Test.YtcblcmdikhllbaaGreatDoorQTopSwitch0
import Derived.Laws.LoneSync
import Derived.Defers
import Derived.Test.YtcblcmdikhllbaaGreatDoorProg
import Derived.KernelRfl
set_option linter.unusedVariables false
set_option linter.unusedSimpArgs false
namespace Go.Dp
open Go.RowKit
theorem o1_index_agg {P:Program} {n:Nat} {H:List Hl} {e:Ev} {C:Value→List Hl→Prop} {ty:TypeId} {x y:Operand} {T E:TypeId} {z:Value} {by_:Nat} {p:Int} {kd:IntKind} {m s:Nat} {vs ws:List Value} (i:Nat) [ht:TArr P T m E] [TAgg P E] [hi:TInf P E z s by_] (hx:opd e x=some (.agg vs.toArray)) (hy:opd e y=some (.int kd p)) (hp:p=i) (hlt:i<m) (hv:(vs.drop (i*s)).take s=ws)
  (h:C (.agg ws.toArray) H):O1 P (.index T x y) ty n e H C :=
 o1_val _ (fun a w ho=>by
  subst hp hv
  simp [execOp,ho.ev.eval hx,ho.ev.eval hy,Instr.index,asIntOf,run_underlying ht.u,hlt,run_sizeOf,part,run_isAgg_agg,Nat.add_sub_cancel_left,List.extract]) h
theorem st_viaK {P:Program} {k:Kon} {n:Nat} {e:Ev} {W:World} {H:List Hl} {co:Code} {X:Type} (e0:X→Ev) (H0:X→List Hl) (h:∀ x,Nx P k n (e0 x) W (H0 x)) (r:∀ k',(∀ x e' H',Covers e' (e0 x)→Ent H' (H0 x)→Nx P k' n e' W H')→St P co k' n e W H):St P co k n e W H :=
 r k fun x _ _ hc hE=>⟨fun a w ho=>(h x).out a w ⟨ho.ev.covers hc,ho.ext,ho.sat.mono hE.out⟩⟩
theorem ox_appendL {P:Program} {n:Nat} {H:List Hl} {e:Ev} {C:Value→List Hl→Prop} {ty:TypeId} {x y:Operand} {α:Type} {enc:α→Value} {T E:TypeId} {z:Value} {by_:Nat} {ad ad':Option Addr} {c c':Nat} {xs ys:List α} {H':List Hl} [TSl P T E] [TInf P E z 1 by_] (hx:opd e x=some (.slice ad xs.length c)) (hy:opd e y=some (.slice ad' ys.length c'))
  [s:SRow H ad c xs.length E (xs.map enc) H'] (hr:RsH H enc ad' c' ys) (hz:z.oneCell'=true) (henc:∀ x,(enc x).oneCell'=true) (hb:(xs.length+ys.length)*by_≤140737488355328) (hb2:xs.length+ys.length≤9223372036854775807)
  (h:∀ ad2 c2,C (.slice ad2 (xs++ys).length c2) (.row E 1 (.slice ad2 (xs++ys).length c2) (xs++ys).length ((xs++ys).map enc)::H')) :
  O1 P (.call ⟨.builtin .append, #[x,y], #[T,T]⟩) ty n e H C:=ox_append hx hy hr rfl hz henc hb hb2 (fun ad2 c2=>by
 have:=h ad2 c2
 rwa [List.length_append] at this)
structure XFn (P:Program) (f:FuncId) (g:Array Value→Sem Value):Prop where
 h:(P.funcs[f]?).map (fun fn=>(fn.name == "runtime.NumGoroutine",fn.body.isNone,(Extern.findNext fn).isNone))=some (false,true,true)
 e:(P.funcs[f]?).bind (fun fn=>Extern.find fn)=some g
theorem XFn.of {P:Program} {f:FuncId} {g:Array Value→Sem Value} (x:XFn P f g):∃ fn,P.funcs[f]?=some fn∧(fn.name == "runtime.NumGoroutine")=false∧fn.body.isNone=true∧Extern.findNext fn=none∧Extern.find fn=some g:=by
 have h:=x.h
 have he:=x.e
 cases hf:P.funcs[f]? with
 | none=>simp [hf] at h
 | some fn =>
  simp only [hf,Option.map_some,Option.some.injEq,Prod.mk.injEq] at h
  simp only [hf,Option.bind_some] at he
  exact ⟨fn,rfl,h.1,h.2.1,by simpa using h.2.2,he⟩
section
variable {P:Program} {n:Nat} {H:List Hl} {e:Ev} {C:Value→List Hl→Prop} {ty:TypeId}
variable {f:FuncId} {xs:List Operand} {ats:Array TypeId} {b i:Nat} {T:TypeId} {cs:List Value} {H':List Hl} {k:IntKind} {p q:Int}
theorem o1_xval {args:List Value} (v:Value) (hxs:opds e xs=some args) (hr:∀ a w,Ok1 n e H a w→(callFunc f args.toArray).run P w = .ok (.value v) w) (h:C v H):O1 P (.call ⟨.value (.func f),xs.toArray,ats⟩) ty n e H C :=
 o1_val v (fun a w ho=>by
  have hargs:=ho.ev.evals hxs
  simp [execOp,resolve,invoke,Deferred.ofValue,Act.eval,hargs,hr a w ho]) h
theorem o1_xload (x:XFn P f (Extern.Atomic.loadT (.int k))) (hxs:opds e xs=some [.pointer (some ⟨b,i,none⟩)]) [s:SBox H b T cs H'] (hv:cs[i]?=some (.int k p)) (h:C (.int k p) H):O1 P (.call ⟨.value (.func f),xs.toArray,ats⟩) ty n e H C :=
 o1_xval _ hxs (fun a w ho=>by
  obtain ⟨fn,h1,h2,h3,h4,h5⟩:=x.of
  have hc:=ho.sat.cell s.s i
  rw [hv] at hc
  exact run_call_load h1 h2 h3 h4 k h5 hc) h
theorem o1_xput {args:List Value} {v r:Value} (hxs:opds e xs=some args) (hi:i<cs.length) [s:SBox H b T cs H'] (hr:∀ a w,Ok1 n e H a w→w.cell? ⟨b,i,none⟩=some cs[i]→w.frozen? ⟨b,i,none⟩=false→(callFunc f args.toArray).run P w = .ok (.value r) (w.setCell ⟨b,i,none⟩ v))
  (h:C r (.box b T (cs.set i v)::H')):O1 P (.call ⟨.value (.func f),xs.toArray,ats⟩) ty n e H C:=by
 obtain ⟨H2,u1,u2⟩:=s.s.upd (.box b T (cs.set i v))
 have k0:O1 P (.call ⟨.value (.func f),xs.toArray,ats⟩) ty n e H (fun v' K=>v'=r∧K=H2):=o1_step fun a w ho=>by
  have hargs:=ho.ev.evals hxs
  have hc:w.cell? ⟨b,i,none⟩=some cs[i]:=by rw [ho.sat.cell s.s i];simp [hi]
  refine ⟨r,w.setCell ⟨b,i,none⟩ v,?_,H2,⟨rfl,rfl⟩,(Ext.refl w).setCell _ _,ho.sat.set_ i v u1⟩
  simp [execOp,resolve,invoke,Deferred.ofValue,Act.eval,hargs,hr a w ho hc (ho.sat.free s.s i)]
 exact k0.post fun v' K hK=>⟨_,hK.1 ▸ h,hK.2 ▸ u2⟩
theorem o1_xstore (x:XFn P f Extern.Atomic.storeT) (hxs:opds e xs=some [.pointer (some ⟨b,i,none⟩),.int k q]) [s:SBox H b T cs H'] (hi:i<cs.length) (h:C (.tuple #[]) (.box b T (cs.set i (.int k q))::H')):O1 P (.call ⟨.value (.func f),xs.toArray,ats⟩) ty n e H C :=
 o1_xput hxs hi (fun a w ho hc hz=>by
  obtain ⟨fn,h1,h2,h3,h4,h5⟩:=x.of
  exact run_call_store h1 h2 h3 h4 h5 hc hz) h
theorem o1_xcas_t (x:XFn P f (Extern.Atomic.casT (.int k))) (hxs:opds e xs=some [.pointer (some ⟨b,i,none⟩),.int k p,.int k q]) [s:SBox H b T cs H'] (hv:cs[i]?=some (.int k p)) (h:C (.bool true) (.box b T (cs.set i (.int k q))::H')):O1 P (.call ⟨.value (.func f),xs.toArray,ats⟩) ty n e H C:=by
 obtain ⟨hi,hv⟩:=List.getElem?_eq_some_iff.mp hv
 exact o1_xput hxs hi (fun a w ho hc hz=>by
  obtain ⟨fn,h1,h2,h3,h4,h5⟩:=x.of
  rw [hv] at hc
  exact run_call_cas_hit h1 h2 h3 h4 k h5 hc hz) h
theorem o1_xcas_f {o:Int} (x:XFn P f (Extern.Atomic.casT (.int k))) (hxs:opds e xs=some [.pointer (some ⟨b,i,none⟩),.int k o,.int k q]) [s:SBox H b T cs H'] (hv:cs[i]?=some (.int k p)) (hne : ¬ p=o) (h:C (.bool false) H):O1 P (.call ⟨.value (.func f),xs.toArray,ats⟩) ty n e H C :=
 o1_xval _ hxs (fun a w ho=>by
  obtain ⟨fn,h1,h2,h3,h4,h5⟩:=x.of
  have hc:=ho.sat.cell s.s i
  rw [hv] at hc
  exact run_call_cas_miss h1 h2 h3 h4 k h5 hc (ho.sat.free s.s i) hne) h
theorem o1_xadd {r:Int} (x:XFn P f (Extern.Atomic.update (Op.intArith .add) k true)) (hxs:opds e xs=some [.pointer (some ⟨b,i,none⟩),.int k q]) [s:SBox H b T cs H'] (hv:cs[i]?=some (.int k p)) (hr:k.wrap (p+q)=r) (h:C (.int k r) (.box b T (cs.set i (.int k r))::H')):O1 P (.call ⟨.value (.func f),xs.toArray,ats⟩) ty n e H C:=by
 obtain ⟨hi,hv⟩:=List.getElem?_eq_some_iff.mp hv
 exact o1_xput hxs hi (fun a w ho hc hz=>by
  obtain ⟨fn,h1,h2,h3,h4,h5⟩:=x.of
  rw [hv] at hc
  exact run_call_add h1 h2 h3 h4 k h5 hc hz (by simp [Op.intArith,hr])) h
end
theorem sat.cl {w:World} {H H':List Hl} {b i:Nat} {T:TypeId} {cs:List Value} {v:Value} [s:SBox H b T cs H'] (h:sat w (stars H)) (hv:cs[i]?=some v):w.cell? ⟨b,i,none⟩=some v:=by
 rw [h.cell s.s i];exact hv
theorem cl_box {H H':List Hl} {b i:Nat} {T:TypeId} {cs:List Value} {v:Value} [s:SBox H b T cs H'] (hv:cs[i]?=some v):Cl (stars H) ⟨b,i,none⟩ v:=⟨fun w hw=>sat.cl hw hv⟩
theorem cl_up {A:Hp→Prop} {H H':List Hl} {p:Addr} {v:Value} [s:SAny H A H'] (h:Cl A p v):Cl (stars H) p v:=⟨fun w hw=>h.cell w (sel_sat s.s w hw)⟩
section
variable {P:Program} {n:Nat} {H:List Hl} {e:Ev} {C:Value→List Hl→Prop} {ty t T:TypeId} {x y:Operand} {p q:Option Addr}
theorem pointee_of {E:TypeId} (h:TPtr P T E):P.underlying T=some (.pointer (P.pointee T)):=by
 have hu:=h.u
 simp [Program.pointee,hu]
theorem o1_peql {E:TypeId} [ht:TPtr P T E] (hx:opd e x=some (.pointer p)) (hy:opd e y=some (.pointer none)) (h:C (.bool p.isNone) H):O1 P (.binOp .eql T x y t) ty n e H C :=
 o1_val _ (fun a w ho=>by
  have h1:=run_eql_pointer_nil (P:=P) w T p (pointee_of ht)
  simp only [execOp,ho.ev.eval hx,ho.ev.eval hy,eqGuard_at_pointer,Sem.run_bind,Sem.run_pure,Result.andThen_ok,h1]) h
theorem o1_pneq {E:TypeId} [ht:TPtr P T E] (hx:opd e x=some (.pointer p)) (hy:opd e y=some (.pointer none)) (h:C (.bool (!p.isNone)) H):O1 P (.binOp .neq T x y t) ty n e H C :=
 o1_val _ (fun a w ho=>by
  have h1:=run_neq_pointer_nil (P:=P) w T p (pointee_of ht)
  simp only [execOp,ho.ev.eval hx,ho.ev.eval hy,eqGuard_at_pointer,Sem.run_bind,Sem.run_pure,Result.andThen_ok,h1]) h
theorem rt_none {X:Type} {fn:Func} {W:World} {good:X→Prop} {val:X→Value} {res:X→List Hl} (r:X) (hres:fn.results = #[]) (hv : .tuple #[]=val r) (hg:good r) (hE:Ent H (res r)) :
  Rt P (.fn fn fun x w'=>∃ r,good r∧x = .returned (val r)∧Ext W w'∧sat w' (stars (res r))) n e W H :=
 rt_fn (v := .tuple #[]) (fun a w ho=>by simp [results,hres]) r hg hv hE
theorem o1_func {f:FuncId} {xs:List Operand} {vs:List Value} (hxs:opds e xs=some vs) (h:C (.func (.func f) #[] vs.toArray) H):O1 P (.makeFunc (.func f) #[] xs.toArray) ty n e H C :=
 o1_val _ (fun a w ho=>by
  have hargs:=ho.ev.evals hxs
  simp [execOp,Instr.makeFunc,hargs]) h
theorem o1_kall {f:FuncId} {xs:List Operand} {args caps:List Value} {ats:Array TypeId} {X:Type} {good:X→Prop} {val:X→Value} {res:X→List Hl} (hx:opd e x=some (.func (.func f) #[] caps.toArray)) (hs:Has H→Spec P f (args++caps) H good val res) (hxs:opds e xs=some args)
  (h:∀ r,good r→C (val r) (res r)):O1 P (.call ⟨.value x,xs.toArray,ats⟩) ty n e H C :=
 ⟨fun a w ho o h1 h2 K Q hK=>by
  have hs:=hs ho.has
  have hc:=hs.calls w ho.sat
  have hargs:=ho.ev.evals hxs
  have hr:(execOp a.eval ⟨none,.call ⟨.value x,xs.toArray,ats⟩,ty, "", #[],none⟩).run P w = .ok (.enter f (args++caps).toArray) w:=by
   have h3:(callFunc f (args.toArray++caps.toArray)).run P w = .ok (.enter f (args++caps).toArray) w:=by
    rw [List.append_toArray];exact run_enter hs.enters
   simp [execOp,resolve,invoke,Deferred.ofValue,ho.ev.eval hx,hargs]
   simpa using h3
  subst h2
  unfold Oper.wp
  rw [execOp_eq,h1,hr]
  refine hc.mono ?_
  rintro x w' ⟨r,hg,rfl,hx,hsat⟩
  exact hK _ _ _ (h r hg) hx hsat⟩
theorem o1_call_br (b:Nat) (ad:Option Addr) (c:Nat) {f:FuncId} {xs:List Operand} {args:List Value} {ats:Array TypeId} {X:Type} {good:X→Prop} {val:X→Value} {res:X→List Hl} {m:Nat} {T T2:TypeId} {cs ys:List Value} {H' H2:List Hl} [s:SBox H b T cs H'] [s2:SRow H' ad c m T2 ys H2]
  (hs:Has (.box b T cs :: .row T2 1 (.slice ad m c) m ys::H2)→Spec P f args (.box b T cs :: .row T2 1 (.slice ad m c) m ys::H2) good val res) (hxs:opds e xs=some args) (h:∀ r,good r→C (val r) (res r)):O1 P (.call ⟨.value (.func f),xs.toArray,ats⟩) ty n e H C :=
 O1.ent (H2 := .box b T cs :: .row T2 1 (.slice ad m c) m ys::H2) (fun h hh=>sep_mono (s.s.out h hh) (fun _ a=>a) (s2.s.out)) (o1_call hs hxs h)
theorem o1_load_av {α:Type} {A:Hp→Prop} {enc:α→Value} {ad:Option Addr} {c:Nat} {xs:List α} (i:Nat) (v:α) {T:TypeId} [TOne P T] {H':List Hl} (hx:opd e x=some (.pointer (some (idxA ad i)))) (hr:Rs A enc ad c xs) (hv:xs[i]?=some v) [s:SAny H A H'] (h:C (enc v) H):O1 P (.load T x) ty n e H C:=by
 obtain ⟨hl,hv⟩:=List.getElem?_eq_some_iff.mp hv
 exact o1_load_ia i hx hr hl (by rw [hv];exact h)
theorem o1_load_hv {α:Type} {enc:α→Value} {ad:Option Addr} {c:Nat} {xs:List α} (i:Nat) (v:α) {T:TypeId} [TOne P T] (hx:opd e x=some (.pointer (some (idxA ad i)))) (hr:RsH H enc ad c xs) (hv:xs[i]?=some v) (h:C (enc v) H):O1 P (.load T x) ty n e H C:=by
 obtain ⟨hl,hv⟩:=List.getElem?_eq_some_iff.mp hv
 exact o1_load_iah i hx hr hl (by rw [hv];exact h)
end
section
variable {P:Program} {n:Nat} {H:List Hl} {e:Ev} {C:Value→List Hl→Prop} {ty:TypeId} {x y:Operand}
end
def w2 {α:Type} (f g:α→Value) (l:List α):List Value:=l.flatMap (fun x=>[f x,g x])
theorem w2_len {α:Type} (f g:α→Value) (l:List α):(w2 f g l).length=l.length*2:=by
 induction l with
 | nil=>rfl
 | cons x l ih=>simp only [w2,List.flatMap_cons,List.length_append,List.length_cons,List.length_nil] at ih ⊢;omega
theorem w2_snoc {α:Type} (f g:α→Value) (l:List α) (x:α):w2 f g (l++[x])=w2 f g l++[f x,g x]:=by simp [w2]
theorem w2_at {α:Type} (f g:α→Value):∀ (l:List α) (i:Nat) (x:α),l[i]?=some x→(w2 f g l)[i*2]?=some (f x)∧(w2 f g l)[i*2+1]?=some (g x)
 | [],i,x,h=>by simp at h
 | y::l,0,x,h=>by
  simp at h
  subst h
  exact ⟨rfl,rfl⟩
 | y::l,i+1,x,h=>by
  simp at h
  obtain ⟨h1,h2⟩:=w2_at f g l i x h
  have e:w2 f g (y::l)=f y::g y::w2 f g l:=rfl
  rw [e,show (i+1)*2=i*2+1+1 by omega]
  exact ⟨h1,h2⟩
structure R2 {α:Type} (A:Hp→Prop) (f g:α→Value) (ad:Option Addr) (c:Nat) (l:List α):Prop where
 le:l.length≤c
 big:c≤9223372036854775807
 sm:0<l.length→∃ a,ad=some a
 cell:∀ w,sat w A→∀ a,ad=some a→∀ i x,l[i]?=some x→w.cell? (a.add (i*2))=some (f x)∧w.cell? (a.add (i*2+1))=some (g x)
theorem R2.mono {α:Type} {A B:Hp→Prop} {f g:α→Value} {ad:Option Addr} {c:Nat} {l:List α} (h:R2 A f g ad c l) (hab:∀ w,sat w B→sat w A):R2 B f g ad c l :=
 ⟨h.le,h.big,h.sm,fun w hw=>h.cell w (hab w hw)⟩
theorem R2.up {α:Type} {A:Hp→Prop} {f g:α→Value} {ad:Option Addr} {c:Nat} {l:List α} {H H':List Hl} (h:R2 A f g ad c l) [s:SAny H A H']:R2 (stars H) f g ad c l:=h.mono fun w hw=>sel_sat s.s w hw
theorem R2.nil {α:Type} {A:Hp→Prop} {f g:α→Value}:R2 A f g none 0 ([]:List α):=⟨by simp,by decide,by simp,fun w hw a ha=>by cases ha⟩
theorem R2.of_row {α:Type} {H H':List Hl} {T:TypeId} {f g:α→Value} {ad:Option Addr} {n c:Nat} {l:List α} (s:Sel H (.row T 2 (.slice ad n c) n (w2 f g l)) H') (hh:Has H):R2 (stars H) f g ad c l:=by
 have key:∀ w,sat w (stars H)→w.ownsRow 0 T 2 (.slice ad n c) n (w2 f g l):=fun w hw=>hw.own s
 obtain ⟨w0,hw0⟩:=hh
 have h0:=key w0 hw0
 have hl:l.length=n:=by have:=h0.1;rw [w2_len] at this;omega
 refine ⟨?_,?_,?_,?_⟩
 ·rcases h0.2 with ⟨hv,hn⟩|⟨gb,cap,cur,hv,_,_,h3,h4,_⟩
  ·injection hv with h1 h2 h3
   omega
  ·injection hv with h1 h2 h3
   omega
 ·rcases h0.2 with ⟨hv,hn⟩|⟨gb,cap,cur,hv,_,_,h3,h4,_⟩
  ·injection hv with h1 h2 h3
   omega
  ·injection hv with h1 h2 h3
   subst h3
   simpa [maxLen] using h4
 ·intro hp
  rcases h0.2 with ⟨hv,hn⟩|⟨gb,cap,cur,hv,_⟩
  ·omega
  ·injection hv with h1 h2 h3
   exact ⟨_,h1⟩
 ·intro w hw a ha i x hx
  rcases (key w hw).2 with ⟨hv,hn⟩|⟨gb,cap,cur,hv,_,hb,_,_,hsz,hcur⟩
  ·injection hv with h1 h2 h3
   rw [h1] at ha;cases ha
  ·injection hv with h1 h2 h3
   rw [h1] at ha
   injection ha with ha
   subst ha
   have hi:i<l.length:=(List.getElem?_eq_some_iff.1 hx).1
   obtain ⟨e1,e2⟩:=w2_at f g l i x hx
   have cell:∀ j v,(w2 f g l)[j]?=some v→w.cell? ((Addr.mk gb 0 none).add j)=some v:=fun j v hj=>by
    have hj2:j<n*2:=by
     have:=(List.getElem?_eq_some_iff.1 hj).1
     rw [w2_len] at this;omega
    rw [←hcur,List.getElem?_take,if_pos hj2] at hj
    have e:(Addr.mk gb 0 none).add j=⟨gb,j,none⟩:=by
     by_cases h0:j=0
     ·subst h0;simp [Addr.add]
     ·simp [Addr.add,h0]
    rw [e]
    simpa [World.cell?,hb] using hj
   exact ⟨cell _ _ e1,cell _ _ e2⟩
section
variable {P:Program} {n:Nat} {H:List Hl} {e:Ev} {C:Value→List Hl→Prop} {ty:TypeId} {x y:Operand} {α:Type} {A:Hp→Prop} {f g:α→Value} {T E:TypeId} {z:Value} {by_:Nat} {p:Int} {kd:IntKind} {ad:Option Addr} {c l0:Nat} {xs:List α}
theorem o1_iaw (i:Nat) [ht:TSl P T E] [hi:TInf P E z 2 by_] (hx:opd e x=some (.slice ad l0 c)) (hy:opd e y=some (.int kd p)) (hr:R2 A f g ad c xs) (h0:l0=xs.length) (hp:p=i) (hl:i<xs.length)
  (h:C (.pointer (some (idxA ad (i*2)))) H):O1 P (.indexAddr T x y) ty n e H C:=by
 obtain ⟨a0,rfl⟩:=hr.sm (by omega)
 subst hp h0
 refine o1_val _ (fun a w ho=>?_) h
 simp [execOp,ho.ev.eval hx,ho.ev.eval hy,Instr.indexAt,asIntOf,run_underlying ht.u,hl,run_sizeOf,idxA]
theorem o1_load_iaw (i:Nat) (v:α) {T:TypeId} {z:Value} {by_:Nat} [TAgg P T] [TInf P T z 2 by_] {H':List Hl} (hx:opd e x=some (.pointer (some (idxA ad (i*2))))) (hr:R2 A f g ad c xs) (hv:xs[i]?=some v) [s:SAny H A H'] (h:C (.agg #[f v,g v]) H):O1 P (.load T x) ty n e H C:=by
 have hl:i<xs.length:=(List.getElem?_eq_some_iff.1 hv).1
 obtain ⟨a0,rfl⟩:=hr.sm (by omega)
 refine o1_val _ (fun a w ho=>?_) h
 obtain ⟨c1,c2⟩:=hr.cell w (sel_sat s.s w ho.sat) a0 rfl i v hv
 have hload:=run_loadCells_list (P:=P) w (idxA (some a0) (i*2)) [f v,g v] (fun j u hj=>by
  have hadd:(idxA (some a0) (i*2)).add j=a0.add (i*2+j):=add_add a0 (i*2) j
  rw [hadd]
  match j,hj with
  | 0,hj=>injection hj with hj;rw [←hj];exact c1
  | 1,hj=>injection hj with hj;rw [←hj];exact c2
  | j+2,hj=>cases hj)
 have hload:(loadCells (idxA (some a0) (i*2)) 2).run P w = .ok #[f v,g v] w:=hload
 simp [execOp,ho.ev.eval hx,Instr.loadAt,Instr.sureAddr,loadVar,run_isAgg_agg,run_sizeOf,hload]
theorem o1_lit_w {ps:List (Nat × Operand)} {a b:Value} [ht:TSl P T E] [hi:TInf P E z 2 by_] (hps:opdi e ps=some [(0,.agg #[a,b])]) (hz:z.cells.size=2)
  (h:∀ bx,C (.slice (some ⟨bx,0,none⟩) 1 1) (.box bx E [a,b]::H)):O1 P (.buildSlice T 1 ps.toArray) ty n e H C:=by
 refine o1_buildSlice hps (fun w=>?_) h
 have key:∀ (Z:Array Value),Z.size=2→(Z.setIfInBounds 0 a).setIfInBounds 1 b = #[a,b]:=fun Z hZ=>by
  obtain ⟨l⟩:=Z
  match l,hZ with
  | [p,q],_=>rfl
 simp [Instr.buildSlice,run_underlying ht.u,run_sizeOf,Instr.fill,newRow,run_zeroValue,Value.cells]
 rw [key _ (by simp)]
class SRw2 (H:List Hl) (ad:Option Addr) (c:Nat) (n:outParam Nat) (T:outParam TypeId) (xs:outParam (List Value)) (H':outParam (List Hl)):Prop where s:Sel H (.row T 2 (.slice ad n c) n xs) H'
instance srw2_here {ad:Option Addr} {n c:Nat} {T:TypeId} {xs:List Value} {H:List Hl}:SRw2 (.row T 2 (.slice ad n c) n xs::H) ad c n T xs H:=⟨.here⟩
instance (priority:=low) srw2_there {ad:Option Addr} {n c:Nat} {T:TypeId} {xs:List Value} {y:Hl} {H H':List Hl} [h:SRw2 H ad c n T xs H']:SRw2 (y::H) ad c n T xs (y::H'):=⟨.there h.s⟩
theorem ox_append_w {ad:Option Addr} {c b a0:Nat} {T':TypeId} {y0:α} {H' H2:List Hl} [ht:TSl P T E] [hi:TInf P E z 2 by_] (hx:opd e x=some (.slice ad a0 c)) (hy:opd e y=some (.slice (some ⟨b,0,none⟩) 1 1))
  [sr:SRw2 H ad c a0 E (w2 f g xs) H'] [sb:SBox H b T' [f y0,g y0] H2] (hz:z.cells.size=2) (h1:(f y0).oneCell'=true) (h2:(g y0).oneCell'=true) (hb:(a0+1)*by_≤140737488355328) (hb2:a0+1≤9223372036854775807)
  (h:∀ ad2 c2,C (.slice ad2 (a0+1) c2) (.row E 2 (.slice ad2 (a0+1) c2) (a0+1) (w2 f g (xs++[y0]))::H')) :
  O1 P (.call ⟨.builtin .append, #[x,y], #[T,T]⟩) ty n e H C :=
 o1_step fun a w ho=>by
  have s:=sr.s
  obtain ⟨i,hi0,hiz,his,hib⟩:=hi.info
  have hown:=ho.sat.own s
  obtain ⟨v',w',hrun,g2,g3,_,g5⟩:=run_append_own_at (P:=P) w 0 T ty E i z 2 by_ ht.u hi0 hiz his hib hz (by omega) _ _ _ hown ⟨b,0,none⟩ 1 1 [f y0,g y0] rfl
   (fun j u hj=>by
    have hc:=ho.sat.cell sb.s j
    have e:(Addr.mk b 0 none).add j=⟨b,j,none⟩:=by
     by_cases h0:j=0
     ·subst h0;simp [Addr.add]
     ·simp [Addr.add,h0]
    rw [e,hc]
    exact hj)
   (fun u hu=>by
    rcases List.mem_cons.1 hu with rfl|hu
    ·exact h1
    ·obtain rfl:u=g y0:=by simpa using hu
     exact h2) (by simp only [maxLen];omega) hb (by omega)
  have hv:∃ ad2 c2,v' = .slice ad2 (a0+1) c2:=by
   rcases g2.2 with ⟨rfl,hn⟩|⟨gb,cap,cur,rfl,_⟩
   ·omega
   ·exact ⟨_,_,rfl⟩
  obtain ⟨ad2,c2,rfl⟩:=hv
  rw [←w2_snoc] at g2
  refine ⟨_,w',?_,_,h ad2 c2,⟨g3.os,g3.tape,g3.output,g3.size⟩,ho.sat.grown s g2 g3 g5⟩
  simp [execOp,resolve,invoke,builtin,ho.ev.eval hx,ho.ev.eval hy,hrun]
theorem ent_nil2 (T:TypeId) (f g:α→Value):∀ h,stars H h→stars (.row T 2 (.slice none 0 0) 0 (w2 f g ([]:List α))::H) h:=ent_nil_row T 2
end
theorem ent_pack (L R:List Hl):∀ h,stars (L++R) h→stars (.any (stars L)::R) h:=fun h hh=>stars_append L R h hh
section
variable {P:Program} {k:Kon} {n:Nat} {e:Ev} {W:World} {H:List Hl} {co:Code}
theorem st_pack (L R:List Hl) (hE:Ent H (L++R)) (h:St P co k n e W (.any (stars L)::R)):St P co k n e W H:=st_ent (fun x hx=>ent_pack L R x (hE.out x hx)) h
theorem nx_pack (L R:List Hl) (hE:Ent H (L++R)) (h:Nx P k n e W (.any (stars L)::R)):Nx P k n e W H:=nx_ent (fun x hx=>ent_pack L R x (hE.out x hx)) h
theorem rt_pack (L R:List Hl) (hE:Ent H (L++R)) (h:Rt P k n e W (.any (stars L)::R)):Rt P k n e W H:=rt_ent (fun x hx=>ent_pack L R x (hE.out x hx)) h
theorem o1_call_a {C:Value→List Hl→Prop} {ty:TypeId} (A:Hp→Prop) {f:FuncId} {xs:List Operand} {args:List Value} {ats:Array TypeId} {X:Type} {good:X→Prop} {val:X→Value} {res:X→List Hl} {H2:List Hl} [s:SAny H A H2]
  (hs:Has (.any A::H2)→Spec P f args (.any A::H2) good val res) (hxs:opds e xs=some args) (h:∀ r,good r→C (val r) (res r)):O1 P (.call ⟨.value (.func f),xs.toArray,ats⟩) ty n e H C :=
 O1.ent (H2 := .any A::H2) s.s.out (o1_call hs hxs h)
end
theorem cw {G G':Prop} (h:G') (s:G'→G:=by first
 | exact fun h=>ls_of rfl h
 | exact fun h=>ls_of_no h
 | exact fun h=>ls_guard_yes rfl rfl h
 | exact fun h=>ls_guard_no rfl rfl rfl rfl h
 | exact fun h=>ls_guard_un rfl rfl rfl h
 | exact fun h=>o1_move rfl h
 | exact fun h=>o1_assign rfl h
 | exact fun h=>st_seq h
 | exact fun h=>st_region h
 | exact fun h=>st_block h
 | exact fun h=>st_skip h
 | exact fun h=>st_ret h
 | exact fun h=>st_exit h
 | exact fun h=>st_cond_t rfl h
 | exact fun h=>st_cond_f rfl h
 | exact fun h=>ls_nil h
 | exact fun h=>nx_seq h
 | exact fun h=>nx_blk h
 | exact fun h=>nx_fn h
 | exact fun h=>nx_rounds h
 | exact fun h=>xt_seq h
 | exact fun h=>xt_here h
 | exact fun h=>xt_on rfl h
 | exact fun h=>xt_rounds h
 | exact fun h=>xt_cut h
 | exact fun h=>rt_seq h
 | exact fun h=>rt_blk h
 | exact fun h=>rt_rounds h
 | exact fun h=>rt_cut h
 | fail):G:=s h
theorem cwb {G G':Prop} (h:G') (s:G'→G:=by first
 | exact fun h=>ls_of rfl h
 | exact fun h=>ls_of_no h
 | exact fun h=>ls_guard_yes rfl rfl h
 | exact fun h=>ls_guard_no rfl rfl rfl rfl h
 | exact fun h=>ls_guard_un rfl rfl rfl h
 | exact fun h=>o1_move rfl h
 | exact fun h=>o1_assign rfl h
 | exact fun h=>st_seq h
 | exact fun h=>st_region h
 | exact fun h=>st_skip h
 | exact fun h=>st_ret h
 | exact fun h=>st_exit h
 | exact fun h=>st_cond_t rfl h
 | exact fun h=>st_cond_f rfl h
 | exact fun h=>ls_nil h
 | exact fun h=>nx_seq h
 | exact fun h=>nx_blk h
 | exact fun h=>nx_fn h
 | exact fun h=>nx_rounds h
 | exact fun h=>xt_seq h
 | exact fun h=>xt_here h
 | exact fun h=>xt_on rfl h
 | exact fun h=>xt_rounds h
 | exact fun h=>xt_cut h
 | exact fun h=>rt_seq h
 | exact fun h=>rt_blk h
 | exact fun h=>rt_rounds h
 | exact fun h=>rt_cut h
 | fail):G:=s h
theorem cw2 {G A B:Prop} (a:A) (b:B) (s:A→B→G:=by first
 | exact fun a b=>st_cond rfl a b
 | fail):G:=s a b
section
variable {P:Program} {ty T T2:TypeId} {x y z:Operand} {lo hi mx:Option Operand} {uo:UnOp} {q:Call} {us:Array (Nat × Operand)} {n m:Nat} {e:Ev} {H:List Hl} {C:Value→List Hl→Prop} {G A B:Prop} {BB:Value→Prop} {v:Value}
theorem q_move (h:G→∃ v,(O1 P (.move x) ty n e H fun v' H'=>v'=v∧∀ h,stars H' h→stars H h)∧BB v):G→∃ v,(O1 P (.move x) ty n e H fun v' H'=>v'=v∧∀ h,stars H' h→stars H h)∧BB v:=h
theorem q_assign (h:G→∃ v,(O1 P (.assign x) ty n e H fun v' H'=>v'=v∧∀ h,stars H' h→stars H h)∧BB v):G→∃ v,(O1 P (.assign x) ty n e H fun v' H'=>v'=v∧∀ h,stars H' h→stars H h)∧BB v:=h
theorem q_pick (h:G→∃ v,(O1 P (.pick x y z) ty n e H fun v' H'=>v'=v∧∀ h,stars H' h→stars H h)∧BB v):G→∃ v,(O1 P (.pick x y z) ty n e H fun v' H'=>v'=v∧∀ h,stars H' h→stars H h)∧BB v:=h
theorem f_pick (h:G→O1 P (.pick x y z) ty n e H C):G→O1 P (.pick x y z) ty n e H C:=h
theorem q_extract (h:G→∃ v,(O1 P (.extract x m) ty n e H fun v' H'=>v'=v∧∀ h,stars H' h→stars H h)∧BB v):G→∃ v,(O1 P (.extract x m) ty n e H fun v' H'=>v'=v∧∀ h,stars H' h→stars H h)∧BB v:=h
theorem f_extract (h:G→O1 P (.extract x m) ty n e H C):G→O1 P (.extract x m) ty n e H C:=h
theorem q_nilCheck (h:G→∃ v,(O1 P (.nilCheck x) ty n e H fun v' H'=>v'=v∧∀ h,stars H' h→stars H h)∧BB v):G→∃ v,(O1 P (.nilCheck x) ty n e H fun v' H'=>v'=v∧∀ h,stars H' h→stars H h)∧BB v:=h
theorem f_nilCheck (h:G→O1 P (.nilCheck x) ty n e H C):G→O1 P (.nilCheck x) ty n e H C:=h
theorem q_fieldAddr (h:G→∃ v,(O1 P (.fieldAddr T x m) ty n e H fun v' H'=>v'=v∧∀ h,stars H' h→stars H h)∧BB v):G→∃ v,(O1 P (.fieldAddr T x m) ty n e H fun v' H'=>v'=v∧∀ h,stars H' h→stars H h)∧BB v:=h
theorem f_fieldAddr (h:G→O1 P (.fieldAddr T x m) ty n e H C):G→O1 P (.fieldAddr T x m) ty n e H C:=h
theorem k_load (h:O1 P (.load T x) ty n e H C):O1 P (.load T x) ty n e H C:=h
theorem p_load (h:∃ v,(O1 P (.load T x) ty n e H fun v' H'=>v'=v∧∀ h,stars H' h→stars H h)∧BB v):∃ v,(O1 P (.load T x) ty n e H fun v' H'=>v'=v∧∀ h,stars H' h→stars H h)∧BB v:=h
theorem q_load (h:G→∃ v,(O1 P (.load T x) ty n e H fun v' H'=>v'=v∧∀ h,stars H' h→stars H h)∧BB v):G→∃ v,(O1 P (.load T x) ty n e H fun v' H'=>v'=v∧∀ h,stars H' h→stars H h)∧BB v:=h
theorem f_load (h:G→O1 P (.load T x) ty n e H C):G→O1 P (.load T x) ty n e H C:=h
theorem k_box (h:O1 P (.box T x) ty n e H C):O1 P (.box T x) ty n e H C:=h
theorem f_box (h:G→O1 P (.box T x) ty n e H C):G→O1 P (.box T x) ty n e H C:=h
theorem k_alloc (h:O1 P (.alloc T) ty n e H C):O1 P (.alloc T) ty n e H C:=h
theorem f_alloc (h:G→O1 P (.alloc T) ty n e H C):G→O1 P (.alloc T) ty n e H C:=h
theorem k_store (h:O1 P (.store T x y) ty n e H C):O1 P (.store T x y) ty n e H C:=h
theorem f_store (h:G→O1 P (.store T x y) ty n e H C):G→O1 P (.store T x y) ty n e H C:=h
theorem k_call (h:O1 P (.call q) ty n e H C):O1 P (.call q) ty n e H C:=h
theorem p_call (h:∃ v,(O1 P (.call q) ty n e H fun v' H'=>v'=v∧∀ h,stars H' h→stars H h)∧BB v):∃ v,(O1 P (.call q) ty n e H fun v' H'=>v'=v∧∀ h,stars H' h→stars H h)∧BB v:=h
theorem q_call (h:G→∃ v,(O1 P (.call q) ty n e H fun v' H'=>v'=v∧∀ h,stars H' h→stars H h)∧BB v):G→∃ v,(O1 P (.call q) ty n e H fun v' H'=>v'=v∧∀ h,stars H' h→stars H h)∧BB v:=h
theorem f_call (h:G→O1 P (.call q) ty n e H C):G→O1 P (.call q) ty n e H C:=h
theorem k_buildSlice (h:O1 P (.buildSlice T m us) ty n e H C):O1 P (.buildSlice T m us) ty n e H C:=h
theorem f_buildSlice (h:G→O1 P (.buildSlice T m us) ty n e H C):G→O1 P (.buildSlice T m us) ty n e H C:=h
theorem k_build (h:O1 P (.build T us) ty n e H C):O1 P (.build T us) ty n e H C:=h
theorem q_build (h:G→∃ v,(O1 P (.build T us) ty n e H fun v' H'=>v'=v∧∀ h,stars H' h→stars H h)∧BB v):G→∃ v,(O1 P (.build T us) ty n e H fun v' H'=>v'=v∧∀ h,stars H' h→stars H h)∧BB v:=h
theorem f_build (h:G→O1 P (.build T us) ty n e H C):G→O1 P (.build T us) ty n e H C:=h
theorem k_makeSlice (h:O1 P (.makeSlice T x y) ty n e H C):O1 P (.makeSlice T x y) ty n e H C:=h
theorem f_makeSlice (h:G→O1 P (.makeSlice T x y) ty n e H C):G→O1 P (.makeSlice T x y) ty n e H C:=h
theorem k_slice (h:O1 P (.slice T x lo hi mx) ty n e H C):O1 P (.slice T x lo hi mx) ty n e H C:=h
theorem p_slice (h:∃ v,(O1 P (.slice T x lo hi mx) ty n e H fun v' H'=>v'=v∧∀ h,stars H' h→stars H h)∧BB v):∃ v,(O1 P (.slice T x lo hi mx) ty n e H fun v' H'=>v'=v∧∀ h,stars H' h→stars H h)∧BB v:=h
theorem k_indexAddr (h:O1 P (.indexAddr T x y) ty n e H C):O1 P (.indexAddr T x y) ty n e H C:=h
theorem p_indexAddr (h:∃ v,(O1 P (.indexAddr T x y) ty n e H fun v' H'=>v'=v∧∀ h,stars H' h→stars H h)∧BB v):∃ v,(O1 P (.indexAddr T x y) ty n e H fun v' H'=>v'=v∧∀ h,stars H' h→stars H h)∧BB v:=h
theorem k_index (h:O1 P (.index T x y) ty n e H C):O1 P (.index T x y) ty n e H C:=h
theorem q_index (h:G→∃ v,(O1 P (.index T x y) ty n e H fun v' H'=>v'=v∧∀ h,stars H' h→stars H h)∧BB v):G→∃ v,(O1 P (.index T x y) ty n e H fun v' H'=>v'=v∧∀ h,stars H' h→stars H h)∧BB v:=h
theorem f_index (h:G→O1 P (.index T x y) ty n e H C):G→O1 P (.index T x y) ty n e H C:=h
theorem k_convert (h:O1 P (.convert T T2 x) ty n e H C):O1 P (.convert T T2 x) ty n e H C:=h
theorem p_convert (h:∃ v,(O1 P (.convert T T2 x) ty n e H fun v' H'=>v'=v∧∀ h,stars H' h→stars H h)∧BB v):∃ v,(O1 P (.convert T T2 x) ty n e H fun v' H'=>v'=v∧∀ h,stars H' h→stars H h)∧BB v:=h
theorem q_convert (h:G→∃ v,(O1 P (.convert T T2 x) ty n e H fun v' H'=>v'=v∧∀ h,stars H' h→stars H h)∧BB v):G→∃ v,(O1 P (.convert T T2 x) ty n e H fun v' H'=>v'=v∧∀ h,stars H' h→stars H h)∧BB v:=h
theorem f_convert (h:G→O1 P (.convert T T2 x) ty n e H C):G→O1 P (.convert T T2 x) ty n e H C:=h
theorem k_unOp (h:O1 P (.unOp uo T x) ty n e H C):O1 P (.unOp uo T x) ty n e H C:=h
theorem q_unOp (h:G→∃ v,(O1 P (.unOp uo T x) ty n e H fun v' H'=>v'=v∧∀ h,stars H' h→stars H h)∧BB v):G→∃ v,(O1 P (.unOp uo T x) ty n e H fun v' H'=>v'=v∧∀ h,stars H' h→stars H h)∧BB v:=h
theorem f_unOp (h:G→O1 P (.unOp uo T x) ty n e H C):G→O1 P (.unOp uo T x) ty n e H C:=h
theorem k_binOp (bo:BinOp) (h:O1 P (.binOp bo T x y T2) ty n e H C):O1 P (.binOp bo T x y T2) ty n e H C:=h
theorem p_binOp (bo:BinOp) (h:∃ v,(O1 P (.binOp bo T x y T2) ty n e H fun v' H'=>v'=v∧∀ h,stars H' h→stars H h)∧BB v):∃ v,(O1 P (.binOp bo T x y T2) ty n e H fun v' H'=>v'=v∧∀ h,stars H' h→stars H h)∧BB v:=h
theorem q_binOp (bo:BinOp) (h:G→∃ v,(O1 P (.binOp bo T x y T2) ty n e H fun v' H'=>v'=v∧∀ h,stars H' h→stars H h)∧BB v):G→∃ v,(O1 P (.binOp bo T x y T2) ty n e H fun v' H'=>v'=v∧∀ h,stars H' h→stars H h)∧BB v:=h
theorem f_binOp (bo:BinOp) (h:G→O1 P (.binOp bo T x y T2) ty n e H C):G→O1 P (.binOp bo T x y T2) ty n e H C:=h
theorem ff_binOp (bo:BinOp) (h:A→B→O1 P (.binOp bo T x y T2) ty n e H C):A→B→O1 P (.binOp bo T x y T2) ty n e H C:=h
theorem k_fn (f:FuncId) {ar:Array Operand} {at_:Array TypeId} (h:O1 P (.call ⟨.value (.func f),ar,at_⟩) ty n e H C):O1 P (.call ⟨.value (.func f),ar,at_⟩) ty n e H C:=h
theorem p_fn (f:FuncId) {ar:Array Operand} {at_:Array TypeId} (h:∃ v,(O1 P (.call ⟨.value (.func f),ar,at_⟩) ty n e H fun v' H'=>v'=v∧∀ h,stars H' h→stars H h)∧BB v):∃ v,(O1 P (.call ⟨.value (.func f),ar,at_⟩) ty n e H fun v' H'=>v'=v∧∀ h,stars H' h→stars H h)∧BB v:=h
end
theorem ow {G G':Prop} (h:G') (s:G'→G:=by
 first
  | (apply f_pick;first
   | exact o1_pick_t rfl rfl
   | exact o1_pick_f rfl rfl)
  | (apply f_extract;exact o1_extract rfl rfl)
  | (apply f_fieldAddr;exact o1_fieldAddr rfl)
  | (apply f_load;first
   | exact ox_load rfl (by rfl)
   | exact ox_load_enc rfl (by first|omega|(simp;omega))
   | exact ox_load_any rfl (by assumption)
   | exact ox_load_agg rfl (by simp only [Nat.zero_add,Nat.reduceAdd,List.drop_zero,List.drop_succ_cons,List.take_succ_cons,List.take_zero];rfl) (by rfl))
  | (apply f_box;exact o1_box rfl rfl)
  | (apply f_call;first
   | exact o1_len rfl
   | exact ox_append rfl rfl (rx_box rfl (by first|decide|omega)) rfl rfl (fun _=>rfl) (by omega) (by omega)
   | exact ox_append rfl rfl (rx_any (by assumption)) rfl rfl (fun _=>rfl) (by omega) (by omega)
   | exact ox_append rfl rfl rx_row rfl rfl (fun _=>rfl) (by omega) (by omega))
  | (apply f_binOp .add;first
   | exact o1_add rfl rfl (by omega)
   | exact o1_uadd rfl rfl)
  | (apply f_binOp .sub;first
   | exact o1_sub rfl rfl (by omega)
   | exact o1_usub rfl rfl)
  | (apply f_binOp .lss;first
   | exact o1_lss_t rfl rfl (by omega)
   | exact o1_lss_f rfl rfl (by omega))
  | (apply f_binOp .leq;first
   | exact o1_leq_t rfl rfl (by omega)
   | exact o1_leq_f rfl rfl (by omega))
  | (apply f_binOp .gtr;first
   | exact o1_gtr_t rfl rfl (by omega)
   | exact o1_gtr_f rfl rfl (by omega))
  | (apply f_binOp .geq;first
   | exact o1_geq_t rfl rfl (by omega)
   | exact o1_geq_f rfl rfl (by omega))
  | (apply f_binOp .eql;first
   | exact o1_eql_t rfl rfl (by omega)
   | exact o1_eql_f rfl rfl (by omega)
   | exact o1_eqb rfl rfl
   | exact o1_strlit (r:=true) rfl rfl (by kernel_rfl)
   | exact o1_slice_nil rfl)
  | (apply f_binOp .neq;first
   | exact o1_neq_t rfl rfl (by omega)
   | exact o1_neq_f rfl rfl (by omega)
   | exact o1_neqb rfl rfl
   | exact o1_slice_nil rfl)
  | (apply f_unOp;first
   | exact o1_bnot rfl
   | exact o1_unot rfl)
  | (apply f_binOp .and;exact o1_uand rfl rfl)
  | (apply f_binOp .or;exact o1_uor rfl rfl)
  | (apply f_binOp .xor;exact o1_uxor rfl rfl)
  | (apply f_binOp .andNot;exact o1_uandNot rfl rfl)
  | (apply f_binOp .mul;exact o1_umul rfl rfl)
  | (apply f_binOp .shl;exact o1_ushl rfl rfl (by omega))
  | (apply f_binOp .shr;exact o1_ushr rfl rfl (by omega))
  | (apply f_convert;first
   | exact o1_conv_uu rfl
   | exact o1_conv_i rfl (by omega)
   | exact o1_conv_ui rfl (by exact bv_small (by decide) _)
   | exact o1_conv_u64 rfl (by omega)
   | exact o1_conv_iu rfl
   | exact o1_string rfl (by rfl) rx_row
   | exact o1_string rfl (by rfl) (rx_any (by assumption)))
  | (apply f_binOp .rem;exact o1_rem_nn rfl rfl (by omega))
  | (apply f_makeSlice;exact o1_maken (enc:=B) 0#8 rfl rfl rfl rfl (by omega) (by omega) (by omega))
  | (apply f_buildSlice;exact o1_lit_B rfl rfl rfl rfl rfl)
  | (apply f_build;exact o1_buildx rfl (by simp only [buildL,putL,List.set_cons_zero,List.set_cons_succ,List.getElem?_cons_zero,List.getElem?_cons_succ,Option.getD_some,Value.cells,Nat.zero_add,Nat.reduceAdd];rfl) (fun _=>by kernel_rfl))
  | (apply f_index;exact o1_index_arr rfl rfl (by omega) (by rfl))
  | (apply f_alloc;exact o1_alloc rfl)
  | (apply f_store;first
   | exact ox_store_enc B rfl rfl (by first|omega|(simp;done)|(simp;omega)) rfl
   | exact ox_stores rfl rfl (by first|omega|(simp;done)|(simp;omega)) rfl (by first|(simp only [List.set_cons_zero,List.set_cons_succ,Nat.zero_add,Nat.reduceAdd];rfl)|rfl)
   | exact ox_store_agg rfl rfl (by rfl) (by simp) (by simp [Value.oneCell']) (by simp only [putL,List.set_cons_zero,List.set_cons_succ,Nat.zero_add,Nat.reduceAdd];rfl))
  | (apply f_nilCheck;exact o1_nilCheck rfl)
  | fail):G:=s h
theorem ow2 {G A B:Prop} (a:A) (b:B) (s:A→B→G:=by
 first
  | (apply ff_binOp .lss;exact o1_lss rfl rfl)
  | (apply ff_binOp .leq;exact o1_leq rfl rfl)
  | (apply ff_binOp .gtr;exact o1_gtr rfl rfl)
  | (apply ff_binOp .geq;exact o1_geq rfl rfl)
  | (apply ff_binOp .eql;first
   | exact o1_eql rfl rfl
   | exact o1_streq rfl rfl)
  | (apply ff_binOp .neq;exact o1_neq rfl rfl)
  | fail):G:=s a b
theorem ent {H H':List Hl} (h:Ent H H':=by
 (try dsimp only [List.cons_append,List.nil_append,List.singleton_append,List.append_nil])
 (repeat (first|exact Ent.nil|exact Ent.refl _|(apply Ent.cons;(repeat (first|exact Sel.here|apply Sel.there|fail)))|fail))):Ent H H':=h
theorem cv {e e0:Ev} (h:Covers e e0:=by repeat (first|exact cov_nil|refine cov_cons rfl rfl ?_|fail)):Covers e e0:=h
def opsO:Operand→List Nat
 | .tmp t=>[t]
 | _=>[]
def opsR:Op→List Nat
 | .move x | .assign x | .box _ x | .load _ x | .nilCheck x | .unOp _ _ x | .convert _ _ x | .fieldAddr _ x _ | .field _ x _ | .extract x _=>opsO x
 | .pick c a b=>opsO c++opsO a++opsO b
 | .build _ ps | .buildSlice _ _ ps=>ps.toList.flatMap fun p=>opsO p.2
 | .store _ a v | .binOp _ _ a v _ | .makeSlice _ a v | .indexAddr _ a v | .index _ a v=>opsO a++opsO v
 | .makeFunc _ f c=>f.toList.flatMap opsO++c.toList.flatMap opsO
 | .slice _ x a b c=>opsO x++(a.toList.flatMap opsO++(b.toList.flatMap opsO++c.toList.flatMap opsO))
 | .call c=>(match c.callee with | .value f=>opsO f|_=>[])++c.args.toList.flatMap opsO
 | _=>[]
structure LkS (a b:Option Value) (Q:Prop):Prop where
 l:a=b
 q:Q
section
variable (P:Program) (n:Nat) (e:Ev) (tab:List Row) (l:List Oper)
structure OpS (H:List Hl) (ps:List Nat) (E:Ev) (C:Ev→Prop):Prop where o:OpenP P n e tab l H ps E C
structure ReS (H:List Hl) (E:Ev) (rs:List Nat) (Q:Prop):Prop where o:ReP P n e tab l H E rs∧Q
structure WkS (Fin:Ev→List Hl→Prop) (ss:List Stg) (E:Ev) (H:List Hl):Prop where o:Wk P n e tab l Fin ss E H
structure WtS (Fin:Ev→List Hl→Prop) (s:Scr) (E:Ev) (H:List Hl):Prop where o:Wt P n e tab l Fin s E H
structure ChS (Fin:Ev→List Hl→Prop) (ss:List Stg) (i:Nat) (E:Ev) (H:List Hl):Prop where o:(gdOff tab i E∧Wk P n e tab l Fin ss (addE tab i undef E) H)∨Op1 P n e tab l i E H fun v H'=>Wk P n e tab l Fin ss (addE tab i v E) H'
structure CtS (Fin:Ev→List Hl→Prop) (s:Scr) (i:Nat) (E:Ev) (H:List Hl):Prop where o:(gdOff tab i E∧Wt P n e tab l Fin s (addE tab i undef E) H)∨Op1 P n e tab l i E H fun v H'=>Wt P n e tab l Fin s (addE tab i v E) H'
end
theorem o1_mono {P:Program} {op:Op} {ty:TypeId} {n:Nat} {e:Ev} {H:List Hl} {C C':Value→List Hl→Prop} (m:∀ v H',C v H'→C' v H') (h:O1 P op ty n e H C):O1 P op ty n e H C':=⟨fun a w ho o h1 h2 K Q hK=>h.out a w ho o h1 h2 K Q (fun v w' H' x=>hK v w' H' (m v H' x))⟩
theorem open_mono {P:Program} {n:Nat} {e:Ev} {tab:List Row} {l:List Oper} {H:List Hl} {C C':Ev→Prop} (m:∀ E,C E→C' E):∀ ps E,OpenP P n e tab l H ps E C→OpenP P n e tab l H ps E C'
 | [],E,h=>m E h
 | i::ps,E,h=>by
  rcases h with ⟨h1,h2⟩|⟨v,h1,h2⟩
  ·exact .inl ⟨h1,open_mono m ps _ h2⟩
  ·exact .inr ⟨v,h1,open_mono m ps _ h2⟩
theorem po {A B:Value→Prop} {v:Value} (a:A v) (b:B v):∃ v,A v∧B v:=⟨v,a,b⟩
def Cvo (_:Op) (E0 us:Ev):Prop:=Covers E0 us
section
variable {P:Program} {n:Nat} {e:Ev} {tab:List Row} {l:List Oper} {H:List Hl} {ps rs:List Nat} {i d j dj t1 t2 t3 t4 t5 t6 t7:Nat} {b:Bool} {E:Ev} {C:Ev→Prop} {op:Op} {ty:TypeId} {dst:Option Nat} {pos:String} {af:Array Edge} {g:Option (Nat × Bool)} {Q:Prop} {u1 u2 u3 u4 u5 u6 u7:Value} {E0 us:Ev} {Fin:Ev→List Hl→Prop} {ss:List Stg} {nx nx2 nx3:Scr}
theorem cy0 (hop:opsR op=[]) :Cvo op E0 []:=cov_nil
theorem cy1 (hop:opsR op=[t1]) (k1:look E0 t1=some u1):Cvo op E0 [(t1,u1)]:=(cov_cons k1 rfl cov_nil)
theorem cy2 (hop:opsR op=[t1,t2]) (k1:look E0 t1=some u1) (k2:look E0 t2=some u2):Cvo op E0 [(t1,u1),(t2,u2)]:=(cov_cons k1 rfl (cov_cons k2 rfl cov_nil))
theorem cy3 (hop:opsR op=[t1,t2,t3]) (k1:look E0 t1=some u1) (k2:look E0 t2=some u2) (k3:look E0 t3=some u3):Cvo op E0 [(t1,u1),(t2,u2),(t3,u3)]:=(cov_cons k1 rfl (cov_cons k2 rfl (cov_cons k3 rfl cov_nil)))
theorem cy4 (hop:opsR op=[t1,t2,t3,t4]) (k1:look E0 t1=some u1) (k2:look E0 t2=some u2) (k3:look E0 t3=some u3) (k4:look E0 t4=some u4):Cvo op E0 [(t1,u1),(t2,u2),(t3,u3),(t4,u4)]:=(cov_cons k1 rfl (cov_cons k2 rfl (cov_cons k3 rfl (cov_cons k4 rfl cov_nil))))
theorem cy5 (hop:opsR op=[t1,t2,t3,t4,t5]) (k1:look E0 t1=some u1) (k2:look E0 t2=some u2) (k3:look E0 t3=some u3) (k4:look E0 t4=some u4) (k5:look E0 t5=some u5):Cvo op E0 [(t1,u1),(t2,u2),(t3,u3),(t4,u4),(t5,u5)]:=(cov_cons k1 rfl (cov_cons k2 rfl (cov_cons k3 rfl (cov_cons k4 rfl (cov_cons k5 rfl cov_nil)))))
theorem cy6 (hop:opsR op=[t1,t2,t3,t4,t5,t6]) (k1:look E0 t1=some u1) (k2:look E0 t2=some u2) (k3:look E0 t3=some u3) (k4:look E0 t4=some u4) (k5:look E0 t5=some u5) (k6:look E0 t6=some u6):Cvo op E0 [(t1,u1),(t2,u2),(t3,u3),(t4,u4),(t5,u5),(t6,u6)]:=(cov_cons k1 rfl (cov_cons k2 rfl (cov_cons k3 rfl (cov_cons k4 rfl (cov_cons k5 rfl (cov_cons k6 rfl cov_nil))))))
theorem cy7 (hop:opsR op=[t1,t2,t3,t4,t5,t6,t7]) (k1:look E0 t1=some u1) (k2:look E0 t2=some u2) (k3:look E0 t3=some u3) (k4:look E0 t4=some u4) (k5:look E0 t5=some u5) (k6:look E0 t6=some u6) (k7:look E0 t7=some u7):Cvo op E0 [(t1,u1),(t2,u2),(t3,u3),(t4,u4),(t5,u5),(t6,u6),(t7,u7)]:=(cov_cons k1 rfl (cov_cons k2 rfl (cov_cons k3 rfl (cov_cons k4 rfl (cov_cons k5 rfl (cov_cons k6 rfl (cov_cons k7 rfl cov_nil)))))))
theorem gp (hd:dstAt tab i=some d) (hg:gdRun tab i E) (ho:l[i]?=some ⟨dst,op,ty,pos,af,g⟩) (hc:Cvo op (envI tab e i E) us) (h:∃ v,O1 P op ty n us H (fun v' H'=>v'=v∧∀ h,stars H' h→stars H h)∧OpS P n e tab l H ps ((d,v)::E) C):OpS P n e tab l H (i::ps) E C:=let ⟨_,h1,h2⟩:=h;⟨op_run hd hg ho hc h1 h2.o⟩
theorem gq (hd:dstAt tab i=some d) (hg:gdRun tab i E) (ho:l[i]?=some ⟨dst,op,ty,pos,af,g⟩) (hc:Cvo op (envI tab e i E) us) (h:∃ v,O1 P op ty n us H (fun v' H'=>v'=v∧∀ h,stars H' h→stars H h)∧LkS (look E d) (some v) (ReS P n e tab l H E rs Q)):ReS P n e tab l H E (i::rs) Q:=let ⟨_,h1,h2,h3⟩:=h;⟨re_run hd h2 hg ho hc h1 h3.o⟩
theorem gc (hd:dstAt tab i=some d) (hg:gdRun tab i E) (ho:l[i]?=some ⟨dst,op,ty,pos,af,g⟩) (hc:Cvo op (envI tab e i E) us) (h:O1 P op ty n us H fun v H'=>WkS P n e tab l Fin ss ((d,v)::E) H'):ChS P n e tab l Fin ss i E H:=⟨ch_run hd hg ho hc (o1_mono (fun _ _ x=>x.o) h)⟩
theorem gd (hd:dstAt tab i=none) (hg:gdRun tab i E) (ho:l[i]?=some ⟨dst,op,ty,pos,af,g⟩) (hc:Cvo op (envI tab e i E) us) (h:O1 P op ty n us H fun _ H'=>WkS P n e tab l Fin ss E H'):ChS P n e tab l Fin ss i E H:=⟨ch_run_no hd hg ho hc (o1_mono (fun _ _ x=>x.o) h)⟩
theorem gu (hd:dstAt tab i=some d) (hg:gdRun tab i E) (ho:l[i]?=some ⟨dst,op,ty,pos,af,g⟩) (hc:Cvo op (envI tab e i E) us) (h:O1 P op ty n us H fun v H'=>WtS P n e tab l Fin nx ((d,v)::E) H'):CtS P n e tab l Fin nx i E H:=⟨ct_run hd hg ho hc (o1_mono (fun _ _ x=>x.o) h)⟩
theorem gv (hd:dstAt tab i=none) (hg:gdRun tab i E) (ho:l[i]?=some ⟨dst,op,ty,pos,af,g⟩) (hc:Cvo op (envI tab e i E) us) (h:O1 P op ty n us H fun _ H'=>WtS P n e tab l Fin nx E H'):CtS P n e tab l Fin nx i E H:=⟨ct_run_no hd hg ho hc (o1_mono (fun _ _ x=>x.o) h)⟩
theorem zs_end (h:OpS P n e tab l H ps E fun E'=>ReS P n e tab l H E' rs (Fin E' H)):WkS P n e tab l Fin (⟨ps,rs,none⟩::ss) E H:=⟨wk_end (open_mono (fun _ x=>x.o) ps E h.o)⟩
theorem zs_ch (h:OpS P n e tab l H ps E fun E'=>ReS P n e tab l H E' rs (ChS P n e tab l Fin ss i E' H)):WkS P n e tab l Fin (⟨ps,rs,some i⟩::ss) E H:=⟨wk_ch (open_mono (fun _ x=>⟨x.o.1,x.o.2.o⟩) ps E h.o)⟩
theorem zp_nil (h:C E):OpS P n e tab l H [] E C:=⟨op_nil h⟩
theorem zr_nil (h:Q):ReS P n e tab l H E [] Q:=⟨re_nil h⟩
theorem zp_off (hd:dstAt tab i=some d) (hg:gdOff tab i E) (h:OpS P n e tab l H ps ((d,undef)::E) C):OpS P n e tab l H (i::ps) E C:=⟨op_off hd hg h.o⟩
theorem zr_off (hd:dstAt tab i=some d) (hl:look E d=some undef) (hg:gdOff tab i E) (h:ReS P n e tab l H E rs Q):ReS P n e tab l H E (i::rs) Q:=⟨re_off hd hl hg h.o⟩
theorem zc_off (hd:dstAt tab i=some d) (hg:gdOff tab i E) (h:WkS P n e tab l Fin ss ((d,undef)::E) H):ChS P n e tab l Fin ss i E H:=⟨ch_off hd hg h.o⟩
theorem zc_offn (hd:dstAt tab i=none) (hg:gdOff tab i E) (h:WkS P n e tab l Fin ss E H):ChS P n e tab l Fin ss i E H:=⟨ch_off_no hd hg h.o⟩
theorem zt_end (h:OpS P n e tab l H ps E fun E'=>ReS P n e tab l H E' rs (Fin E' H)):WtS P n e tab l Fin (.fin ps rs) E H:=⟨wt_end (open_mono (fun _ x=>x.o) ps E h.o)⟩
theorem zt_ch (h:OpS P n e tab l H ps E fun E'=>ReS P n e tab l H E' rs (CtS P n e tab l Fin nx i E' H)):WtS P n e tab l Fin (.step ps rs i nx) E H:=⟨wt_ch (open_mono (fun _ x=>⟨x.o.1,x.o.2.o⟩) ps E h.o)⟩
theorem zt_alt (h:OpS P n e tab l H ps E fun E'=>ReS P n e tab l H E' rs (CtS P n e tab l Fin nx i E' H∧CtS P n e tab l Fin nx2 j E' H)):WtS P n e tab l Fin (.alt ps rs i nx j nx2) E H:=⟨wt_alt (open_mono (fun _ x=>⟨x.o.1,x.o.2.1.o,x.o.2.2.o⟩) ps E h.o)⟩
theorem zt_alt3 (h:OpS P n e tab l H ps E fun E'=>ReS P n e tab l H E' rs (CtS P n e tab l Fin nx i E' H∧CtS P n e tab l Fin nx2 j E' H∧CtS P n e tab l Fin nx3 d E' H)):WtS P n e tab l Fin (.alt3 ps rs i nx j nx2 d nx3) E H:=⟨wt_alt3 (open_mono (fun _ x=>⟨x.o.1,x.o.2.1.o,x.o.2.2.1.o,x.o.2.2.2.o⟩) ps E h.o)⟩
theorem zt_off (hd:dstAt tab i=some d) (hg:gdOff tab i E) (h:WtS P n e tab l Fin nx ((d,undef)::E) H):CtS P n e tab l Fin nx i E H:=⟨ct_off hd hg h.o⟩
theorem zt_offn (hd:dstAt tab i=none) (hg:gdOff tab i E) (h:WtS P n e tab l Fin nx E H):CtS P n e tab l Fin nx i E H:=⟨ct_off_no hd hg h.o⟩
variable {k:Kon} {W:World}
theorem st_stages' {id:Nat} (e0:Ev) (tab:List Row) (all:List Nat) (S:List Stg) (hm:P.follows .mixedOrders=true) (he:Covers e e0) (hrows:l.map (fun o=>(o.dst,edgesOf o,o.guard))=tab.map (fun r=>(r.dst,r.edges,r.guard)))
  (hok:scriptOk n tab all S=true) (h:WkS P n e0 tab l (fun E H'=>Nx P k n (E++e) W H') S [] H):St P (.region id l.toArray true) k n e W H:=st_stages e0 tab all S hm he hrows hok h.o
theorem st_tree' {id:Nat} (e0:Ev) (tab:List Row) (all:List Nat) (S:Scr) (hm:P.follows .mixedOrders=true) (he:Covers e e0) (hrows:l.map (fun o=>(o.dst,edgesOf o,o.guard))=tab.map (fun r=>(r.dst,r.edges,r.guard)))
  (hok:treeOk n tab all S=true) (h:WtS P n e0 tab l (fun E H'=>Nx P k n (E++e) W H') S [] H):St P (.region id l.toArray true) k n e W H:=st_tree e0 tab all S hm he hrows hok h.o
end
theorem sg {G G':Prop} (h:G') (s:G'→G:=by first
 | exact fun h=>zs_end h
 | exact fun h=>zs_ch h
 | exact fun h=>zp_nil h
 | exact fun h=>zr_nil h
 | exact fun h=>LkS.mk rfl h
 | exact fun h=>zp_off rfl (by first|exact gd_o1 rfl rfl rfl|exact gd_o2 rfl rfl rfl|fail) h
 | exact fun h=>zr_off rfl rfl (by first|exact gd_o1 rfl rfl rfl|exact gd_o2 rfl rfl rfl|fail) h
 | exact fun h=>zc_off rfl (by first|exact gd_o1 rfl rfl rfl|exact gd_o2 rfl rfl rfl|fail) h
 | exact fun h=>zc_offn rfl (by first|exact gd_o1 rfl rfl rfl|exact gd_o2 rfl rfl rfl|fail) h
 | exact fun h=>gp rfl (by first|exact gd_r0 rfl|exact gd_r1 rfl rfl rfl|fail) rfl (by first|exact cy0 rfl|exact cy1 rfl rfl|exact cy2 rfl rfl rfl|exact cy3 rfl rfl rfl rfl|exact cy4 rfl rfl rfl rfl rfl|exact cy5 rfl rfl rfl rfl rfl rfl|exact cy6 rfl rfl rfl rfl rfl rfl rfl|exact cy7 rfl rfl rfl rfl rfl rfl rfl rfl|fail) h
 | exact fun h=>gq rfl (by first|exact gd_r0 rfl|exact gd_r1 rfl rfl rfl|fail) rfl (by first|exact cy0 rfl|exact cy1 rfl rfl|exact cy2 rfl rfl rfl|exact cy3 rfl rfl rfl rfl|exact cy4 rfl rfl rfl rfl rfl|exact cy5 rfl rfl rfl rfl rfl rfl|exact cy6 rfl rfl rfl rfl rfl rfl rfl|exact cy7 rfl rfl rfl rfl rfl rfl rfl rfl|fail) h
 | exact fun h=>gc rfl (by first|exact gd_r0 rfl|exact gd_r1 rfl rfl rfl|fail) rfl (by first|exact cy0 rfl|exact cy1 rfl rfl|exact cy2 rfl rfl rfl|exact cy3 rfl rfl rfl rfl|exact cy4 rfl rfl rfl rfl rfl|exact cy5 rfl rfl rfl rfl rfl rfl|exact cy6 rfl rfl rfl rfl rfl rfl rfl|exact cy7 rfl rfl rfl rfl rfl rfl rfl rfl|fail) h
 | exact fun h=>gd rfl (by first|exact gd_r0 rfl|exact gd_r1 rfl rfl rfl|fail) rfl (by first|exact cy0 rfl|exact cy1 rfl rfl|exact cy2 rfl rfl rfl|exact cy3 rfl rfl rfl rfl|exact cy4 rfl rfl rfl rfl rfl|exact cy5 rfl rfl rfl rfl rfl rfl|exact cy6 rfl rfl rfl rfl rfl rfl rfl|exact cy7 rfl rfl rfl rfl rfl rfl rfl rfl|fail) h
 | exact fun h=>gu rfl (by first|exact gd_r0 rfl|exact gd_r1 rfl rfl rfl|fail) rfl (by first|exact cy0 rfl|exact cy1 rfl rfl|exact cy2 rfl rfl rfl|exact cy3 rfl rfl rfl rfl|exact cy4 rfl rfl rfl rfl rfl|exact cy5 rfl rfl rfl rfl rfl rfl|exact cy6 rfl rfl rfl rfl rfl rfl rfl|exact cy7 rfl rfl rfl rfl rfl rfl rfl rfl|fail) h
 | exact fun h=>gv rfl (by first|exact gd_r0 rfl|exact gd_r1 rfl rfl rfl|fail) rfl (by first|exact cy0 rfl|exact cy1 rfl rfl|exact cy2 rfl rfl rfl|exact cy3 rfl rfl rfl rfl|exact cy4 rfl rfl rfl rfl rfl|exact cy5 rfl rfl rfl rfl rfl rfl|exact cy6 rfl rfl rfl rfl rfl rfl rfl|exact cy7 rfl rfl rfl rfl rfl rfl rfl rfl|fail) h
 | exact fun h=>zt_end h
 | exact fun h=>zt_ch h
 | exact fun h=>zt_alt h
 | exact fun h=>zt_alt3 h
 | exact fun h=>zt_off rfl (by first|exact gd_o1 rfl rfl rfl|exact gd_o2 rfl rfl rfl|fail) h
 | exact fun h=>zt_offn rfl (by first|exact gd_o1 rfl rfl rfl|exact gd_o2 rfl rfl rfl|fail) h
 | fail):G:=s h
theorem pw {G G':Prop} (h:G') (s:G'→G:=by
 first
  | (apply q_move;exact po (o1_move rfl fz))
  | (apply q_assign;exact po (o1_assign rfl fz))
  | (apply q_pick;first
   | exact po (o1_pick_t rfl rfl fz)
   | exact po (o1_pick_f rfl rfl fz))
  | (apply q_extract;exact po (o1_extract rfl rfl fz))
  | (apply q_fieldAddr;exact po (o1_fieldAddr rfl fz))
  | (apply q_load;first
   | exact po (ox_load rfl (by rfl) fz)
   | exact po (ox_load_enc rfl (by first|omega|(simp;omega)) fz)
   | exact po (ox_load_any rfl (by assumption) fz)
   | exact po (ox_load_agg rfl (by simp only [Nat.zero_add,Nat.reduceAdd,List.drop_zero,List.drop_succ_cons,List.take_succ_cons,List.take_zero];try rfl) (by rfl) fz))
  | (apply q_call;exact po (o1_len rfl fz))
  | (apply q_binOp .add;first
   | exact po (o1_add rfl rfl (by omega) fz)
   | exact po (o1_uadd rfl rfl fz))
  | (apply q_binOp .sub;first
   | exact po (o1_sub rfl rfl (by omega) fz)
   | exact po (o1_usub rfl rfl fz))
  | (apply q_binOp .lss;first
   | exact po (o1_lss_t rfl rfl (by omega) fz)
   | exact po (o1_lss_f rfl rfl (by omega) fz))
  | (apply q_binOp .leq;first
   | exact po (o1_leq_t rfl rfl (by omega) fz)
   | exact po (o1_leq_f rfl rfl (by omega) fz))
  | (apply q_binOp .gtr;first
   | exact po (o1_gtr_t rfl rfl (by omega) fz)
   | exact po (o1_gtr_f rfl rfl (by omega) fz))
  | (apply q_binOp .geq;first
   | exact po (o1_geq_t rfl rfl (by omega) fz)
   | exact po (o1_geq_f rfl rfl (by omega) fz))
  | (apply q_binOp .eql;first
   | exact po (o1_eql_t rfl rfl (by omega) fz)
   | exact po (o1_eql_f rfl rfl (by omega) fz)
   | exact po (o1_eqb rfl rfl fz)
   | exact po (o1_strlit (r:=true) rfl rfl (by kernel_rfl) fz)
   | exact po (o1_slice_nil rfl fz))
  | (apply q_binOp .neq;first
   | exact po (o1_neq_t rfl rfl (by omega) fz)
   | exact po (o1_neq_f rfl rfl (by omega) fz)
   | exact po (o1_neqb rfl rfl fz)
   | exact po (o1_slice_nil rfl fz))
  | (apply q_unOp;first
   | exact po (o1_bnot rfl fz)
   | exact po (o1_unot rfl fz))
  | (apply q_binOp .and;exact po (o1_uand rfl rfl fz))
  | (apply q_binOp .or;exact po (o1_uor rfl rfl fz))
  | (apply q_binOp .xor;exact po (o1_uxor rfl rfl fz))
  | (apply q_binOp .andNot;exact po (o1_uandNot rfl rfl fz))
  | (apply q_binOp .mul;exact po (o1_umul rfl rfl fz))
  | (apply q_binOp .shl;exact po (o1_ushl rfl rfl (by omega) fz))
  | (apply q_binOp .shr;exact po (o1_ushr rfl rfl (by omega) fz))
  | (apply q_convert;first
   | exact po (o1_conv_uu rfl fz)
   | exact po (o1_conv_i rfl (by omega) fz)
   | exact po (o1_conv_ui rfl (by exact bv_small (by decide) _) fz)
   | exact po (o1_conv_u64 rfl (by omega) fz)
   | exact po (o1_conv_iu rfl fz)
   | exact po (o1_string rfl (by rfl) rx_row fz)
   | exact po (o1_string rfl (by rfl) (rx_any (by assumption)) fz))
  | (apply q_binOp .rem;exact po (o1_rem_nn rfl rfl (by omega) fz))
  | (apply q_build;exact po (o1_buildx rfl (by simp only [buildL,putL,List.set_cons_zero,List.set_cons_succ,List.getElem?_cons_zero,List.getElem?_cons_succ,Option.getD_some,Value.cells,Nat.zero_add,Nat.reduceAdd];rfl) (fun _=>by kernel_rfl) fz))
  | (apply q_index;exact po (o1_index_arr rfl rfl (by omega) (by rfl) fz))
  | (apply q_nilCheck;exact po (o1_nilCheck rfl fz))
  | fail):G:=s h
theorem pdd {A B:Value→Prop} {v:Value} (b:B v) (a:A v:=by first
 | exact o1_lss_d rfl rfl fz
 | exact o1_leq_d rfl rfl fz
 | exact o1_gtr_d rfl rfl fz
 | exact o1_geq_d rfl rfl fz
 | exact o1_eql_d rfl rfl fz
 | exact o1_neq_d rfl rfl fz
 | exact o1_streq_d rfl rfl fz
 | exact o1_strneq_d rfl rfl fz
 | fail):∃ v,A v∧B v:=⟨v,a,b⟩
theorem own_grown_at (w:World) (z:Value) (E:TypeId) (xs:List Value) (m k0:Nat) (hm:xs.length=m) (hz:z.oneCell'=true) (h63:m≤maxLen) (row:Option Nat) :
  (w.drew.alloc (.cells (xs.toArray++Builtin.zeroCells z.cells (grownCap w m k0 E - m)) E)).ownsRow 0 E 1 (.slice (some ⟨w.heap.size,0,none⟩) m (grownCap w m k0 E)) m xs ∧
   w.grownBy (w.drew.alloc (.cells (xs.toArray++Builtin.zeroCells z.cells (grownCap w m k0 E - m)) E)) row:=by
 have hzc:z.cells.size=1:=by rw [oneCell_cells hz];rfl
 have hge:=grownCap_ge w m k0 E
 have hcm:grownCap w m k0 E≤maxLen:=grownCap_le_maxLen w m k0 E h63
 refine ⟨⟨by omega,.inr ⟨w.heap.size,_,_,rfl,Nat.zero_le _,_root_.Go.heap_alloc_new w.drew _,hge,hcm,?_,?_⟩⟩,⟨rfl,rfl,rfl,by simp,fun k hk _=>_root_.Go.heap_alloc_old w.drew _ hk⟩⟩
 ·simp only [Array.size_append,List.size_toArray,size_zeroCells,hzc,hm]
  omega
 ·simp only [Array.toList_append,Nat.mul_one,←hm]
  exact List.take_left
section
variable {P:Program} {n:Nat} {H:List Hl} {e:Ev} {C:Value→List Hl→Prop} {ty t t':TypeId} {x y:Operand} {p q:Int} {kd':IntKind}
theorem o1_ishl8 (hx:opd e x=some (.int .i64 p)) (hy:opd e y=some (.int kd' 8)) (hb : -9223372036854775808≤p*256∧p*256≤9223372036854775807) (h:C (.int .i64 (p*256)) H):O1 P (.binOp .shl t x y t') ty n e H C :=
 o1_num hx hy (fun w=>by
  have e1:p*2 ^ min (Int.toNat 8) IntKind.i64.bits=p*256:=rfl
  rw [binOp_shl,shift_shl_any _ _ _ _ (by omega),Sem.run_pure,e1,wrap_in hb.1 hb.2]) h
theorem o1_ior (a b:Nat) (hx:opd e x=some (.int .i64 p)) (hy:opd e y=some (.int .i64 q)) (ha:p=a) (hq:q=b) (h1:a<2 ^ 62) (h2:b<2 ^ 62) (h:C (.int .i64 ((a ||| b:Nat):Int)) H):O1 P (.binOp .or t x y t') ty n e H C :=
 o1_num hx hy (fun w=>by
  subst ha hq
  have e3:(BitVec.ofInt 64 (a:Int) ||| BitVec.ofInt 64 (b:Int)).toNat=a ||| b:=by
   rw [BitVec.ofInt_natCast,BitVec.ofInt_natCast,BitVec.toNat_or,BitVec.toNat_ofNat,BitVec.toNat_ofNat,Nat.mod_eq_of_lt (Nat.lt_trans h1 (by decide)),Nat.mod_eq_of_lt (Nat.lt_trans h2 (by decide))]
  have h3:a ||| b<2 ^ 62:=Nat.or_lt_two_pow h1 h2
  have hw:IntKind.i64.wrap ((BitVec.ofInt (IntKind.bits .i64) (a:Int) ||| BitVec.ofInt (IntKind.bits .i64) (b:Int)).toNat:Int)=((a ||| b:Nat):Int):=by
   show IntKind.i64.wrap ((BitVec.ofInt 64 (a:Int) ||| BitVec.ofInt 64 (b:Int)).toNat:Int)=_
   rw [e3]
   exact wrap_in (by omega) (by omega)
  simp only [binOp_or,Op.intBits,Sem.run_pure,hw]) h
theorem o1_sub_any (hx:opd e x=some (.int .i64 p)) (hy:opd e y=some (.int .i64 q)) (h:∀ v,C (.int .i64 v) H):O1 P (.binOp .sub t x y t') ty n e H C :=
 o1_num (r:=IntKind.i64.wrap (p - q)) hx hy (fun w=>by rw [binOp_sub];simp [Op.intArith]) (h _)
theorem ox_append_full {α:Type} {enc:α→Value} {T E:TypeId} {z:Value} {by_:Nat} {ad ad':Option Addr} {a0 m c':Nat} {xs ys:List α} [ht:TSl P T E] [hi:TInf P E z 1 by_] (hx:opd e x=some (.slice ad a0 a0)) (hy:opd e y=some (.slice ad' m c')) (hrx:RsH H enc ad a0 xs) (hr:RsH H enc ad' c' ys) (ha:a0=xs.length) (hm:m=ys.length) (h0:0<a0) (hne:0<m) (hz:z.oneCell'=true)
  (hb:(a0+m)*by_≤140737488355328) (hb2:a0+m≤9223372036854775807) (h:∀ ad2 c2,C (.slice ad2 (a0+m) c2) (.row E 1 (.slice ad2 (a0+m) c2) (a0+m) ((xs++ys).map enc)::H)):O1 P (.call ⟨.builtin .append, #[x,y], #[T,T]⟩) ty n e H C :=
 o1_step fun a w ho=>by
  subst hm ha
  obtain ⟨i,hi0,hiz,his,hib⟩:=hi.info
  have hr:=hr ho.has
  have hrx:=hrx ho.has
  obtain ⟨b,rfl⟩:=hr.sm hne
  obtain ⟨b0,rfl⟩:=hrx.sm h0
  subst hib
  have hcell:∀ (l:List α) (q:Addr),(∀ j x,l[j]?=some x→w.cell? (q.add j)=some (enc x))→∀ j v,(l.map enc)[j]?=some v→w.cell? (q.add j)=some v:=fun l q hq j u hj=>by
   simp only [List.getElem?_map,Option.map_eq_some_iff] at hj
   obtain ⟨x,hx,rfl⟩:=hj
   exact hq j x hx
  have hfit:Builtin.nextslicecap (xs.length+ys.length) xs.length*i.bytes≤281474976710656:=growslice_fits (by omega) hb
  have hrun:=run_append_grow (P:=P) w T ty E i z ht.u hi0 hiz b0 xs.length xs.length (xs.map enc) (by rw [his];simp) (hcell xs b0 (fun j x hj=>hrx.cell w ho.sat b0 rfl j x hj)) b ys.length c' (ys.map enc) (by rw [his];simp) (hcell ys b (fun j x hj=>hr.cell w ho.sat b rfl j x hj)) (by omega) (by omega) hfit
  have hg:=own_grown_at w z E ((xs++ys).map enc) (xs.length+ys.length) xs.length (by simp) hz (by simp only [maxLen];omega) (Value.ownBlock (.slice none 0 0))
  have ejoin:(xs.map enc).toArray++(ys.map enc).toArray=((xs++ys).map enc).toArray:=by simp
  rw [ejoin] at hrun
  refine ⟨_,_,?_,_,h _ _,⟨hg.2.os,hg.2.tape,hg.2.output,hg.2.size⟩,(ho.sat.mono (ent_nil_row E 1)).grown .here hg.1 hg.2 (.inr rfl)⟩
  simp [execOp,resolve,invoke,builtin,ho.ev.eval hx,ho.ev.eval hy,hrun]
end
theorem Spec.argE {P:Program} {f:FuncId} {args args':List Value} {H:List Hl} {X:Type} {good:X→Prop} {val:X→Value} {res:X→List Hl} (h:Spec P f args H good val res) (e:args=args'):Spec P f args' H good val res:=e ▸ h
theorem rt_tri {P:Program} {n:Nat} {e:Ev} {W:World} {H:List Hl} {X:Type} {fn:Func} {good:X→Prop} {val:X→Value} {res:X→List Hl} {t t' t2:Nat} {v v' v2:Value} (r:X) (hres:fn.results = #[.tmp t,.tmp t',.tmp t2]) (hl:look e t=some v) (hl':look e t'=some v') (hl2:look e t2=some v2) (hv : .tuple #[v,v',v2]=val r) (hg:good r) (hE:Ent H (res r)) :
  Rt P (.fn fn fun x w'=>∃ r,good r∧x = .returned (val r)∧Ext W w'∧sat w' (stars (res r))) n e W H :=
 rt_fn (v := .tuple #[v,v',v2]) (fun a w ho=>by simp [results,hres,ho.ev.get t v hl,ho.ev.get t' v' hl',ho.ev.get t2 v2 hl2]) r hg hv hE
def Gr (A B:Hp→Prop):Prop:=∀ h,B h→stars [.any A] h
theorem Gr.refl (A:Hp→Prop):Gr A A:=fun h ha=>⟨h,fun _=>none,fun _ => .inr rfl,.refl _,fun _ _ e=>(by cases e),ha,trivial⟩
theorem Gr.sat {A B:Hp→Prop} (g:Gr A B) {w:World} (hw:sat w B):sat w A:=by
 obtain ⟨h,h1,h2⟩:=hw
 obtain ⟨k1,k2,_,s1,_,ka,_⟩:=g h h2
 exact ⟨k1,fun i o e=>h1 i o (s1 i o e),ka⟩
theorem Gr.trans {A B C:Hp→Prop} (g:Gr A B) (k:Gr B C):Gr A C:=fun h hc=>by
 obtain ⟨k1,k2,_,s1,_,kb,_⟩:=k h hc
 obtain ⟨l1,l2,_,t1,_,la,_⟩:=g k1 kb
 exact ⟨l1,fun _=>none,fun _ => .inr rfl,fun i o e=>s1 i o (t1 i o e),fun _ _ e=>(by cases e),la,trivial⟩
theorem Gr.of {L H':List Hl} {A:Hp→Prop} [s:SAny L A H']:Gr A (stars L):=fun h hh=>by
 have:=s.s.out h hh
 exact sep_mono this (fun _ a=>a) (fun _ _=>trivial)
theorem has_any {A:Hp→Prop} {R:List Hl} (hh:Has (.any A::R)):∃ w,sat w A:=let ⟨w,hw⟩:=hh;⟨w,sel_sat .here w hw⟩
theorem rs_gr {α:Type} {A A':Hp→Prop} {enc:α→Value} {ad:Option Addr} {c:Nat} {l:List α} (h:Rs A enc ad c l) (g:Gr A A'):Rs A' enc ad c l:=h.mono fun w hw=>g.sat hw
theorem rt_has {P:Program} {k:Kon} {n:Nat} {e:Ev} {W:World} {H:List Hl} (h:Has H→Rt P k n e W H):Rt P k n e W H:=⟨fun a w ho=>(h ⟨w,ho.sat⟩).out a w ho⟩
def Som {ι:Type} (p:ι→Prop) (L:ι→List Hl):Hp→Prop:=fun x=>∃ i,p i∧stars (L i) x
theorem som_of {ι:Type} {p:ι→Prop} {L:ι→List Hl} {R:List Hl} (i:ι) (hp:p i):∀ h,stars (L i++R) h→stars (.any (Som p L)::R) h:=fun h hh=>sep_mono (stars_append _ _ _ hh) (fun h' hx=>⟨i,hp,hx⟩) (fun _ a=>a)
theorem som_out {ι:Type} {p:ι→Prop} {L:ι→List Hl} {R:List Hl} {h:Hp} (hh:stars (.any (Som p L)::R) h):∃ i,p i∧stars (L i++R) h:=by
 obtain ⟨h1,h2,hd,s1,s2,⟨i,hp,hx⟩,hr⟩:=hh
 exact ⟨i,hp,stars_append' _ _ _ ⟨h1,h2,hd,s1,s2,hx,hr⟩⟩
theorem sat_som {ι:Type} {p:ι→Prop} {L:ι→List Hl} {R:List Hl} {w:World} (hh:sat w (stars (.any (Som p L)::R))):∃ i,p i∧sat w (stars (L i++R)):=by
 obtain ⟨x,hw,hx⟩:=hh
 obtain ⟨i,hp,hx⟩:=som_out hx
 exact ⟨i,hp,x,hw,hx⟩
section
variable {P:Program} {ι:Type} {p:ι→Prop} {L:ι→List Hl} {R:List Hl}
theorem Spec.som {f:FuncId} {args:List Value} {X:Type} {good:X→Prop} {val:X→Value} {res:X→List Hl} (he:(P.funcs[f]?).map (fun fn=>(fn.name == "runtime.NumGoroutine",fn.body.isNone))=some (false,false)) (h:∀ i,p i→Spec P f args (L i++R) good val res):Spec P f args (.any (Som p L)::R) good val res :=
 ⟨he,fun w hs=>by
  obtain ⟨i,hp,hx⟩:=sat_som hs
  exact (h i hp).calls w hx⟩
variable {k:Kon} {n:Nat} {e:Ev} {W:World} {co:Code}
theorem rt_hide {H:List Hl} (i:ι) (hp:p i) (hE:Ent H (L i++R)) (h:Rt P k n e W (.any (Som p L)::R)):Rt P k n e W H:=rt_ent (fun x hx=>som_of i hp x (hE.out x hx)) h
end
def nod (a:Act):Act:={ a with defers:=[] }
theorem nod_put (a:Act) (d:Option Nat) (v:Value):(nod a).put d v=nod (a.put d v):=by cases d <;> rfl
theorem put_defers (a:Act) (d:Option Nat) (v:Value):(a.put d v).defers=a.defers:=by cases d <;> rfl
section
variable {P:Program} {op:Op} {ty:TypeId} {n:Nat} {e:Ev} {H:List Hl} {C:Value→List Hl→Prop}
theorem O1.at_d (h:O1 P op ty n e H C) {a:Act} {w:World} (ho:Ok1 n e H (nod a) w) {o:Oper} (h1:o.op=op) (h2:o.type=ty) {K:Act→World→Prop} {Q:Exit→Act→World→Prop}
  (hK:∀ v w' H',C v H'→Ext w w'→sat w' (stars H')→K (a.put o.dst v) w'):o.wp P a w K Q:=by
 have back:∀ v:Value,({ nod (a.put o.dst v) with defers:=a.defers }:Act)=a.put o.dst v:=fun v=>by
  have:=put_defers a o.dst v
  obtain ⟨t,d⟩:=a
  cases o.dst <;> rfl
 have key:=h.out (nod a) w ho o h1 h2 (fun a' w'=>a'.defers=[]∧K { a' with defers:=a.defers } w') (fun _ _ _=>False) (fun v w' H' hc hx hs=>by
  rw [nod_put]
  refine ⟨rfl,?_⟩
  rw [back]
  exact hK v w' H' hc hx hs)
 have he:(nod a).eval=a.eval:=by funext x;cases x <;> rfl
 unfold Oper.wp at key ⊢
 rw [he] at key
 generalize (execOp a.eval o).run P w=r at key
 have fin:∀ v w',((nod a).put o.dst v).defers=[]∧K { (nod a).put o.dst v with defers:=a.defers } w'→K (a.put o.dst v) w':=fun v w' hh=>by
  have h2:=hh.2
  rw [nod_put,back] at h2
  exact h2
 cases r with
 | ok x w' =>
  cases x with
  | value v=>exact fin v w' key
  | skip=>exact fin undef w' key
  | defer d =>
   exfalso
   have h3:(({ nod a with defers:=d::(nod a).defers }:Act).put o.dst undef).defers=[]:=key.1
   rw [put_defers] at h3
   cases h3
  | enter f args =>
   refine Calls.mono key ?_
   intro x w'' hx
   cases x with
   | returned v=>exact fin v w'' hx
   | panicked c=>exact hx.elim
   | outgrown=>obtain ⟨_,_,hx⟩:=hx;exact hx.elim
  | row row args=>exact Rows.mono key (fun v w'' hx=>fin v w'' hx)
  | _=>exact key.elim
 | halt x w'=>cases x <;> exact key.elim
end
structure Sd (P:Program) (c:Code) (Q:Exit→Act→World→Prop) (n:Nat) (e:Ev) (W:World) (H:List Hl) (D:List Deferred):Prop where
 mk::(out:∀ a w,Ok W n e H (nod a) w→a.defers=D→c.wp P Q a w)
structure Ld (P:Program) (ops:Array Oper) (Q:Exit→Act→World→Prop) (rest:List Oper) (n:Nat) (e:Ev) (W:World) (H:List Hl) (D:List Deferred):Prop where
 mk::(out:∀ a w,Ok W n e H (nod a) w→a.defers=D→wpList P ops Q rest a w)
section
variable {P:Program} {ops:Array Oper} {Q:Exit→Act→World→Prop} {rest:List Oper} {n:Nat} {e:Ev} {W:World} {H:List Hl} {D:List Deferred}
theorem sd_seq {x y:Code} (h:Sd P x (Exit.then (fun a w=>y.wp P Q a w) Q) n e W H D):Sd P (.seq x y) Q n e W H D:=⟨fun a w ho hd=>wp_seq (h.out a w ho hd)⟩
theorem sd_cond_t {x:Operand} {c d:Code} (hx:opd e x=some (.bool true)) (h:Sd P c Q n e W H D):Sd P (.cond x c d) Q n e W H D:=⟨fun a w ho hd=>wp_cond_true (ho.ev.eval hx) (h.out a w ho hd)⟩
theorem sd_region {id:Nat} {l:List Oper} (h:Ld P l.toArray Q l n e W H D):Sd P (.region id l.toArray false) Q n e W H D:=⟨fun a w ho hd=>wp_region_lit (h.out a w ho hd)⟩
theorem ld_nil (h:∀ a w,Ok W n e H (nod a) w→a.defers=D→Q .normal a w):Ld P ops Q [] n e W H D:=⟨fun a w ho hd=>wpList_nil (h a w ho hd)⟩
theorem ld_next {y:Code} (h:Sd P y Q n e W H D):Ld P ops (Exit.then (fun a w=>y.wp P Q a w) Q) [] n e W H D:=ld_nil (fun a w ho hd=>h.out a w ho hd)
variable {d:Nat} {pos:String} {af:Array Edge} {op:Op} {ty:TypeId}
theorem ld_of (hd:Nat.blt d n=true) (h:O1 P op ty n e H (fun v H'=>Ld P ops Q rest n ((d,v)::e) W H' D)):Ld P ops Q (⟨some d,op,ty,pos,af,none⟩::rest) n e W H D :=
 ⟨fun a w ho hD=>wpList_plain rfl fun K hK=>h.at_d ⟨ho.ev,ho.sat⟩ rfl rfl fun v w' H' hl hx hs=>hK _ _ (hl.out _ _ ⟨by rw [←nod_put];exact ho.ev.put hd v,ho.ext.trans hx,hs⟩ ((put_defers _ _ _).trans hD))⟩
theorem ld_of_no (h:O1 P op ty n e H (fun _ H'=>Ld P ops Q rest n e W H' D)):Ld P ops Q (⟨none,op,ty,pos,af,none⟩::rest) n e W H D :=
 ⟨fun a w ho hD=>wpList_plain rfl fun K hK=>h.at_d ⟨ho.ev,ho.sat⟩ rfl rfl fun v w' H' hl hx hs=>hK _ _ (hl.out _ _ ⟨by rw [←nod_put];exact ho.ev.put_none v,ho.ext.trans hx,hs⟩ ((put_defers _ _ _).trans hD))⟩
theorem ld_defer {f:FuncId} {xs:List Operand} {args:List Value} {ats:Array TypeId} (hxs:opds e xs=some args) (h:Ld P ops Q rest n e W H (⟨.fn (.func f) #[],args.toArray⟩::D)):Ld P ops Q (⟨none,.defer ⟨.value (.func f),xs.toArray,ats⟩,ty,pos,af,none⟩::rest) n e W H D :=
 ⟨fun a w ho hD=>wpList_plain rfl fun K hK=>by
  have hargs:=ho.ev.evals hxs
  have he:(nod a).eval=a.eval:=by funext x;cases x <;> rfl
  rw [he] at hargs
  have hr:(execOp a.eval ⟨none,.defer ⟨.value (.func f),xs.toArray,ats⟩,ty,pos,af,none⟩).run P w = .ok (.defer ⟨.fn (.func f) #[],args.toArray⟩) w:=by
   simp [execOp,resolve,Deferred.ofValue,Act.eval,hargs]
  unfold Oper.wp
  rw [hr]
  refine hK _ _ (h.out _ _ ⟨?_,ho.ext,ho.sat⟩ ?_)
  ·exact ho.ev
  ·show _::a.defers=_
   rw [hD]⟩
end
structure SpecD (P:Program) (f:FuncId) (args:List Value) (H:List Hl) {X:Type} (good:X→Prop) (val:X→Value) (res:X→List Hl):Prop where
 enters:(P.funcs[f]?).map (fun fn=>(fn.name == "runtime.NumGoroutine",fn.body.isNone))=some (false,false)
 calls:∀ w u,sat w (stars H)→CallsD P f args.toArray u w fun x u' w'=>u'=u∧∃ r,good r∧x = .returned (val r)∧Ext w w'∧sat w' (stars (res r))
section
variable {P:Program} {H:List Hl}
theorem specd_of {f:FuncId} {fn:Func} {c:Code} {args:List Value} {X:Type} {good:X→Prop} {val:X→Value} {res:X→List Hl} (m:Nat)
  (hf:P.funcs[f]?=some fn) (hb:fn.body=some c) (hm:fn.ntmps=m) (hname:(fn.name == "runtime.NumGoroutine")=false) (hle:Nat.ble args.length m=true)
  (h:∀ W,St P c (.fn fn fun x w'=>∃ r,good r∧x = .returned (val r)∧Ext W w'∧sat w' (stars (res r))) m (slots 0 args) W H):SpecD P f args H good val res:=by
 refine ⟨by simp [hf,hb,hname],fun w u hs=>callsD_of_wp hf hb ?_⟩
 have hle':args.length≤m:=by simpa using hle
 refine (h w).out _ w ⟨⟨by simp [hm];omega,rfl,fun t v hl=>?_⟩,.refl _,hs⟩
 obtain ⟨_,h2⟩:=look_slots args 0 t v hl
 simp only [Nat.sub_zero] at h2
 have hlt:t<args.length:=by
  rcases Nat.lt_or_ge t args.length with h|h
  ·exact h
  ·rw [List.getElem?_eq_none h] at h2;cases h2
 have h3:args[t]=v:=by simpa [List.getElem?_eq_getElem hlt] using h2
 simp [Array.getElem?_append,hlt,h3]
theorem specd_fn {f:FuncId} {fn:Func} {c:Code} {args:List Value} {X:Type} {good:X→Prop} {val:X→Value} {res:X→List Hl} {m:Nat} (own:List Hl) (H:List Hl)
  (hf:P.funcs[f]?=some fn) (hb:fn.body=some c) (hm:fn.ntmps=m) (hname:(fn.name == "runtime.NumGoroutine")=false) (hle:Nat.ble args.length m=true)
  (h:∀ W,St P c (.fn fn fun x w'=>∃ r,good r∧x = .returned (val r)∧Ext W w'∧sat w' (stars (res r++[.any (stars H)]))) m (slots 0 args) W (own++[.any (stars H)])):SpecD P f args (own++H) good val (fun r=>res r++H):=by
 have h1:SpecD P f args (own++[.any (stars H)]) good val (fun r=>res r++[.any (stars H)]):=specd_of m hf hb hm hname hle h
 exact ⟨h1.enters,fun w u hs=>(h1.calls w u (any_of_list hs)).mono fun x u' w' ⟨hu,r,hg,he,hx,hsat⟩=>⟨hu,r,hg,he,hx,list_of_any hsat⟩⟩
theorem spec_defers {f:FuncId} {fn:Func} {c:Code} {args:List Value} {X:Type} {good:X→Prop} {val:X→Value} {res:X→List Hl} (m:Nat)
  (hf:P.funcs[f]?=some fn) (hb:fn.body=some c) (hm:fn.ntmps=m) (hname:(fn.name == "runtime.NumGoroutine")=false) (hle:Nat.ble args.length m=true)
  (h:∀ W,Sd P c (bodyPostD P fn fun x w'=>∃ r,good r∧x = .returned (val r)∧Ext W w'∧sat w' (stars (res r))) m (slots 0 args) W H []):Spec P f args H good val res:=by
 refine ⟨by simp [hf,hb,hname],fun w hs=>calls_of_wp_defers hf hb ?_⟩
 have hle':args.length≤m:=by simpa using hle
 refine (h w).out _ w ⟨⟨by simp [nod,hm];omega,rfl,fun t v hl=>?_⟩,.refl _,hs⟩ rfl
 obtain ⟨_,h2⟩:=look_slots args 0 t v hl
 simp only [Nat.sub_zero] at h2
 have hlt:t<args.length:=by
  rcases Nat.lt_or_ge t args.length with h|h
  ·exact h
  ·rw [List.getElem?_eq_none h] at h2;cases h2
 have h3:args[t]=v:=by simpa [List.getElem?_eq_getElem hlt] using h2
 simp [nod,Array.getElem?_append,hlt,h3]
theorem leaves_spec {fn:Func} {tmps:Array Value} {R:Ending→World→Prop} {f:FuncId} {args:List Value} {ds:List Deferred} {w:World} {X:Type} {good:X→Prop} {val:X→Value} {res:X→List Hl} (hs:SpecD P f args H good val res) (hw:sat w (stars H))
  (h:∀ r w',good r→Ext w w'→sat w' (stars (res r))→Leaves P fn tmps R ds .returning w'):Leaves P fn tmps R (⟨.fn (.func f) #[],args.toArray⟩::ds) .returning w:=by
 refine leaves_cons (f:=f) (args:=args.toArray) (by simp) ?_ ?_
 ·simp [invoke,run_enter hs.enters]
 ·refine (hs.calls w .returning hw).mono ?_
  rintro x u' w' ⟨rfl,r,hg,rfl,hx,hsat⟩
  exact h r w' hg hx hsat
theorem Spec.shut {f:FuncId} {args:List Value} {X:Type} {good:X→Prop} {val:X→Value} {res:X→List Hl} (own H:List Hl) (h1:Spec P f args (own++[.any (stars H)]) good val (fun r=>res r++[.any (stars H)])):Spec P f args (own++H) good val (fun r=>res r++H) :=
 ⟨h1.enters,fun w hs=>(h1.calls w (any_of_list hs)).mono fun x w' ⟨r,hg,he,hx,hsat⟩=>⟨r,hg,he,hx,list_of_any hsat⟩⟩
theorem Spec.has {f:FuncId} {args:List Value} {X:Type} {good:X→Prop} {val:X→Value} {res:X→List Hl} (he:(P.funcs[f]?).map (fun fn=>(fn.name == "runtime.NumGoroutine",fn.body.isNone))=some (false,false)) (h:Has H→Spec P f args H good val res):Spec P f args H good val res :=
 ⟨he,fun w hs=>(h ⟨w,hs⟩).calls w hs⟩
end
end Go.Dp
namespace Go.Dp
def be4 (x:BitVec 32):List (BitVec 8):=[(x >>> 24).setWidth 8,(x >>> 16).setWidth 8,(x >>> 8).setWidth 8,x.setWidth 8]
def num32 (l:List (BitVec 8)):BitVec 32:=l.foldl (fun a x=>(a <<< 8) ||| x.setWidth 32) 0
theorem num32_succ (l:List (BitVec 8)) (i:Nat) (h:i<l.length):num32 (l.take (i+1))=(num32 (l.take i) <<< 8) ||| (l[i]).setWidth 32:=by
 simp only [num32]
 rw [List.take_succ_eq_append_getElem h,List.foldl_append]
 rfl
def numN (l:List (BitVec 8)):Nat:=l.foldl (fun a x=>a*256+x.toNat) 0
theorem fold_numN (w:Nat):∀ (l:List (BitVec 8)) (k:Nat) (a:BitVec w),a.toNat<256 ^ k→8*(k+l.length)≤w →
  (l.foldl (fun (a:BitVec w) (x:BitVec 8)=>(a <<< 8) ||| x.setWidth w) a).toNat=l.foldl (fun a x=>a*256+x.toNat) a.toNat
 | [],_,_,_,_=>rfl
 | x::l,k,a,h,hw=>by
  simp only [List.length_cons] at hw
  have hx:=x.isLt
  have hp:(256:Nat) ^ (k+1)≤2 ^ w:=by
   have:(256:Nat) ^ (k+1)=2 ^ (8*(k+1)):=by rw [Nat.pow_mul]
   rw [this]
   exact Nat.pow_le_pow_right (by omega) (by omega)
  have h256:(256:Nat) ^ (k+1)=256 ^ k*256:=Nat.pow_succ ..
  have hs:((a <<< 8) ||| x.setWidth w).toNat=a.toNat*256+x.toNat:=by
   rw [BitVec.toNat_or,BitVec.toNat_shiftLeft,BitVec.toNat_setWidth]
   have e1:x.toNat % 2 ^ w=x.toNat:=Nat.mod_eq_of_lt (by omega)
   have e2:a.toNat <<< 8 % 2 ^ w=a.toNat <<< 8:=Nat.mod_eq_of_lt (by rw [Nat.shiftLeft_eq];omega)
   rw [e1,e2,←Nat.shiftLeft_add_eq_or_of_lt (by omega:x.toNat<2 ^ 8),Nat.shiftLeft_eq]
  simp only [List.foldl_cons]
  rw [fold_numN w l (k+1) _ (by rw [hs];omega) (by omega),hs]
theorem num32_N (l:List (BitVec 8)) (h:l.length≤4):(num32 l).toNat=numN l:=fold_numN 32 l 0 0 (by simp) (by omega)
theorem be4_len (x:BitVec 32):(be4 x).length=4:=rfl
theorem num32_be4 (x:BitVec 32):num32 (be4 x)=x:=by
 apply BitVec.eq_of_toNat_eq
 rw [num32_N _ (by simp [be4])]
 have h1:=x.isLt
 simp only [be4,numN,List.foldl_cons,List.foldl_nil,BitVec.toNat_setWidth,BitVec.toNat_ushiftRight,Nat.shiftRight_eq_div_pow]
 omega
theorem list4 {α:Type} {l:List α} (h:l.length=4):∃ a b c d,l=[a,b,c,d]:=by
 match l,h with
 | [a,b,c,d],_=>exact ⟨a,b,c,d,rfl⟩
theorem be4_inj4 {x y:BitVec 32} (h:be4 x=be4 y):x=y:=by rw [←num32_be4 x,h,num32_be4]
def be2 (n:Int):List (BitVec 8):=[BitVec.ofInt 8 (n / 256),BitVec.ofInt 8 n]
theorem byte_N (n:Int) (h0:0≤n) (h1:n<256):((BitVec.ofInt 8 n).toNat:Int)=n:=bv_of h0 (by simpa using h1)
theorem num32_be2 (n:Int) (h0:0≤n) (h1:n<65536):((num32 (be2 n)).toNat:Int)=n:=by
 rw [num32_N _ (by simp [be2])]
 simp only [be2,numN,List.foldl_cons,List.foldl_nil,BitVec.toNat_ofInt]
 omega
theorem num32_one (a:BitVec 8):(num32 [a]).toNat=a.toNat:=by
 rw [num32_N _ (by simp)];simp [numN]
section
variable {P:Program} {n:Nat} {H:List Hl} {e:Ev} {C:Value→List Hl→Prop} {ty t t':TypeId} {x y:Operand} {p:Int} {kd':IntKind}
theorem o1_ishr8 (hx:opd e x=some (.int .i64 p)) (hy:opd e y=some (.int kd' 8)) (h:C (.int .i64 (p / 256)) H):O1 P (.binOp .shr t x y t') ty n e H C :=
 o1_num hx hy (fun w=>by rw [binOp_shr,shift_shr_any _ _ _ _ (by omega),Sem.run_pure];rfl) h
theorem o1_call_box {f:FuncId} {xs:List Operand} {args:List Value} {ats:Array TypeId} {X:Type} {good:X→Prop} {val:X→Value} {res:X→List Hl} {b:Nat} {T:TypeId} {cs:List Value} {H':List Hl} [s:SBox H b T cs H']
  (hs:Has (.box b T cs::H')→Spec P f args (.box b T cs::H') good val res) (hxs:opds e xs=some args) (h:∀ r,good r→C (val r) (res r)):O1 P (.call ⟨.value (.func f),xs.toArray,ats⟩) ty n e H C:=O1.ent s.s.out (o1_call hs hxs h)
end
def crcBit (c:BitVec 32):BitVec 32:=(c >>> 1) ^^^ (0xedb88320#32*(c &&& 1#32))
def crcBits:Nat→BitVec 32→BitVec 32
 | 0,c=>c
 | n+1,c=>crcBit (crcBits n c)
def crcByte (c:BitVec 32) (x:BitVec 8):BitVec 32:=crcBits 8 (c ^^^ x.setWidth 32)
def crcAll (c:BitVec 32) (l:List (BitVec 8)):BitVec 32:=l.foldl crcByte c
def crcAdd (s:BitVec 32) (l:List (BitVec 8)):BitVec 32 := ~~~ (crcAll (~~~ s) l)
def crcPut (l:List (BitVec 8)):List (BitVec 8):=l++be4 (crcAdd 0#32 l)
theorem crcPut_len (l:List (BitVec 8)):(crcPut l).length=l.length+4:=by simp [crcPut,be4]
theorem crcAll_take {c:BitVec 32} {l:List (BitVec 8)} {i:Nat} (hi:i<l.length):crcAll c (l.take (i+1))=crcByte (crcAll c (l.take i)) l[i]:=by
 unfold crcAll
 rw [List.take_succ_eq_append_getElem hi,List.foldl_append]
 rfl
def crcOk (l:List (BitVec 8)):Bool:=decide (4≤l.length) && decide (crcPut (l.take (l.length - 4))=l)
theorem crcOk_put (l:List (BitVec 8)):crcOk (crcPut l)=true:=by
 have:(crcPut l).take ((crcPut l).length - 4)=l:=by
  rw [crcPut_len,Nat.add_sub_cancel,crcPut,List.take_left']
  rfl
 rw [crcOk,this,crcPut_len]
 simp
def seg (l:List (BitVec 8)) (a n:Nat):List (BitVec 8):=(l.drop a).take n
theorem seg_len {l:List (BitVec 8)} {a n:Nat} (h:a+n≤l.length):(seg l a n).length=n:=by simp [seg];omega
def progB (l:List (BitVec 8)) (a:Nat) (xs:List (BitVec 8)):List (BitVec 8):=l.take a++(List.zipWith (· &&& ·) (l.drop a) xs++l.drop (a+xs.length))
theorem progB_len {l:List (BitVec 8)} {a:Nat} {xs:List (BitVec 8)} (h:a+xs.length≤l.length):(progB l a xs).length=l.length:=by
 simp [progB];omega
theorem progB_nil (l:List (BitVec 8)) (a:Nat):progB l a []=l:=by simp [progB]
theorem progB_get {l:List (BitVec 8)} {a:Nat} {xs:List (BitVec 8)} (h:a+xs.length≤l.length) (i:Nat):(progB l a xs)[i]?=if a≤i∧i<a+xs.length then (l[i]?).bind (fun x=>(xs[i - a]?).map (x &&& ·)) else l[i]?:=by
 unfold progB
 by_cases h1:i<a
 ·rw [List.getElem?_append_left (by simp;omega),List.getElem?_take,if_pos h1,if_neg (by omega)]
 ·rw [List.getElem?_append_right (by simp;omega)]
  have ht:(l.take a).length=a:=by simp;omega
  rw [ht]
  by_cases h2:i<a+xs.length
  ·rw [List.getElem?_append_left (by simp;omega),if_pos ⟨by omega,h2⟩,List.getElem?_zipWith,List.getElem?_drop,show a+(i - a)=i by omega]
   have e1:i<l.length:=by omega
   have e2:i - a<xs.length:=by omega
   rw [List.getElem?_eq_getElem e1,List.getElem?_eq_getElem e2]
   rfl
  ·rw [List.getElem?_append_right (by simp;omega),if_neg (by omega),List.getElem?_drop]
   congr 1
   simp
   omega
theorem progB_next {l:List (BitVec 8)} {a i:Nat} {xs:List (BitVec 8)} (h:a+xs.length≤l.length) (hi:i<xs.length):(progB l a (xs.take i)).set (a+i) ((l[a+i]'(by omega)) &&& xs[i])=progB l a (xs.take (i+1)):=by
 apply List.ext_getElem?
 intro j
 have e1:a+(xs.take i).length≤l.length:=by simp;omega
 have e2:a+(xs.take (i+1)).length≤l.length:=by simp;omega
 rw [List.getElem?_set,progB_get e1,progB_get e2,progB_len e1]
 simp only [List.length_take,Nat.min_eq_left (Nat.le_of_lt hi),Nat.min_eq_left (show i+1≤xs.length from hi)]
 by_cases hj:a+i=j
 ·subst hj
  rw [if_pos rfl,if_pos (by omega),if_pos (by omega),List.getElem?_eq_getElem (by omega)]
  simp [hi]
 ·rw [if_neg hj]
  by_cases h1:a≤j∧j<a+i
  ·rw [if_pos h1,if_pos (by omega),List.getElem?_take,List.getElem?_take,if_pos (by omega),if_pos (by omega)]
  ·rw [if_neg h1,if_neg (by omega)]
theorem progB_at {l:List (BitVec 8)} {a i:Nat} {xs:List (BitVec 8)} (h:a+xs.length≤l.length) (hi:i<xs.length):(progB l a (xs.take i))[a+i]?=some (l[a+i]'(by omega)):=by
 have e1:a+(xs.take i).length≤l.length:=by simp;omega
 rw [progB_get e1,if_neg (by simp;omega),List.getElem?_eq_getElem (by omega)]
def fillB (l:List (BitVec 8)) (a n:Nat):List (BitVec 8):=l.take a++(List.replicate n 0xff#8++l.drop (a+n))
theorem fillB_len {l:List (BitVec 8)} {a n:Nat} (h:a+n≤l.length):(fillB l a n).length=l.length:=by simp [fillB];omega
theorem fillB_zero (l:List (BitVec 8)) (a:Nat):fillB l a 0=l:=by simp [fillB]
theorem fillB_get {l:List (BitVec 8)} {a n:Nat} (h:a+n≤l.length) (i:Nat):(fillB l a n)[i]?=if a≤i∧i<a+n then some 0xff#8 else l[i]?:=by
 unfold fillB
 by_cases h1:i<a
 ·rw [List.getElem?_append_left (by simp;omega),List.getElem?_take,if_pos h1,if_neg (by omega)]
 ·rw [List.getElem?_append_right (by simp;omega)]
  have ht:(l.take a).length=a:=by simp;omega
  rw [ht]
  by_cases h2:i<a+n
  ·rw [List.getElem?_append_left (by simp;omega),if_pos ⟨by omega,h2⟩,List.getElem?_replicate,if_pos (by omega)]
  ·rw [List.getElem?_append_right (by simp;omega),if_neg (by omega),List.getElem?_drop,List.length_replicate]
   congr 1
   omega
theorem fillB_next {l:List (BitVec 8)} {a i:Nat} (h:a+i<l.length):(fillB l a i).set (a+i) 0xff#8=fillB l a (i+1):=by
 apply List.ext_getElem?
 intro j
 rw [List.getElem?_set,fillB_get (by omega),fillB_get (by omega),fillB_len (by omega)]
 by_cases hj:a+i=j
 ·subst hj
  rw [if_pos rfl,if_pos h,if_pos (by omega)]
 ·rw [if_neg hj]
  by_cases h1:a≤j∧j<a+i
  ·rw [if_pos h1,if_pos (by omega)]
  ·rw [if_neg h1,if_neg (by omega)]
inductive Pw
 | on
 | fuse (n:Nat)
 | down (q:Option Nat)
structure Fl where
 bs:List (BitVec 8)
 er:List Nat
 wear:Nat
 pw:Pw
 torn:Int
def tornB (t:Int):BitVec 8:=BitVec.ofInt 8 t
def progF (f:Fl) (a:Nat) (xs:List (BitVec 8)):Fl × Int:=match f.pw with
 | .down _=>(f,11)
 | .on=>({ f with bs:=progB f.bs a xs },0)
 | .fuse n=>if xs.length≤n then ({ f with bs:=progB f.bs a xs,pw := .fuse (n - xs.length) },0) else ({ f with bs:=progB f.bs a (xs.take n++[xs.getD n 0#8 ||| tornB f.torn]),pw := .down none },11)
def eraseF (f:Fl) (s:Nat):Fl × Int:=match f.pw with
 | .down _=>(f,11)
 | .on=>if f.wear≤f.er.getD s 0 then (f,10) else ({ f with bs:=fillB f.bs (s*256) 256,er:=f.er.set s (f.er.getD s 0+1) },0)
 | .fuse n=>if f.wear≤f.er.getD s 0 then (f,10) else match n with
  | 0=>({ f with bs:=fillB f.bs (s*256) (f.torn.toNat % 257),er:=f.er.set s (f.er.getD s 0+1),pw := .down none },11)
  | m+1=>({ f with bs:=fillB f.bs (s*256) 256,er:=f.er.set s (f.er.getD s 0+1),pw := .fuse m },0)
def blankB (l:List (BitVec 8)):Bool:=l.all (fun x=>x == 0xff#8)
theorem seg_get (l:List (BitVec 8)) (a n i:Nat):(seg l a n)[i]?=if i<n then l[a+i]? else none:=by
 unfold seg
 rw [List.getElem?_take]
 split
 ·rw [List.getElem?_drop]
 ·rfl
theorem seg_ext {l l':List (BitVec 8)} {a n:Nat} (h:∀ i,a≤i→i<a+n→l[i]?=l'[i]?):seg l a n=seg l' a n:=by
 apply List.ext_getElem?
 intro i
 rw [seg_get,seg_get]
 split
 ·exact h (a+i) (by omega) (by omega)
 ·rfl
theorem seg_seg {l:List (BitVec 8)} {a n b m:Nat} (h:b+m≤n):seg (seg l a n) b m=seg l (a+b) m:=by
 apply List.ext_getElem?
 intro i
 rw [seg_get (seg l a n),seg_get l (a+b)]
 by_cases hi:i<m
 ·rw [if_pos hi,if_pos hi,seg_get,if_pos (by omega),Nat.add_assoc]
 ·rw [if_neg hi,if_neg hi]
theorem seg_prog_out {l xs:List (BitVec 8)} {a b n:Nat} (h:a+xs.length≤l.length) (hd:b+n≤a∨a+xs.length≤b):seg (progB l a xs) b n=seg l b n:=seg_ext (fun i h1 h2=>by
 rw [progB_get h,if_neg (by omega)])
theorem seg_fill_out {l:List (BitVec 8)} {a m b n:Nat} (h:a+m≤l.length) (hd:b+n≤a∨a+m≤b):seg (fillB l a m) b n=seg l b n:=seg_ext (fun i h1 h2=>by
 rw [fillB_get h,if_neg (by omega)])
theorem seg_fill_in {l:List (BitVec 8)} {a m b n:Nat} (h:a+m≤l.length) (h1:a≤b) (h2:b+n≤a+m):seg (fillB l a m) b n=List.replicate n 0xff#8:=by
 apply List.ext_getElem?
 intro i
 rw [seg_get,List.getElem?_replicate]
 split
 ·rw [fillB_get h,if_pos (by omega)]
 ·rfl
def Blank (l:List (BitVec 8)) (a n:Nat):Prop:=seg l a n=List.replicate n 0xff#8
theorem Blank.at {l:List (BitVec 8)} {a n:Nat} (h:Blank l a n) {i:Nat} (h1:a≤i) (h2:i<a+n):l[i]?=some 0xff#8:=by
 have:=congrArg (fun z=>z[i - a]?) h
 simp only [seg_get,List.getElem?_replicate] at this
 rw [if_pos (by omega),if_pos (by omega),show a+(i - a)=i by omega] at this
 exact this
theorem Blank.of {l:List (BitVec 8)} {a n:Nat} (h:∀ i,a≤i→i<a+n→l[i]?=some 0xff#8):Blank l a n:=by
 apply List.ext_getElem?
 intro i
 rw [seg_get,List.getElem?_replicate]
 split
 ·exact h _ (by omega) (by omega)
 ·rfl
theorem Blank.sub {l:List (BitVec 8)} {a n b m:Nat} (h:Blank l a n) (h1:a≤b) (h2:b+m≤a+n):Blank l b m:=Blank.of fun i h3 h4=>h.at (by omega) (by omega)
theorem ff_and (x:BitVec 8):0xff#8 &&& x=x:=by
 rw [show (0xff#8:BitVec 8)=BitVec.allOnes 8 by rfl,BitVec.allOnes_and]
theorem seg_prog_blank {l xs:List (BitVec 8)} {a:Nat} (h:a+xs.length≤l.length) (hb:Blank l a xs.length):seg (progB l a xs) a xs.length=xs:=by
 apply List.ext_getElem?
 intro i
 rw [seg_get]
 by_cases hi:i<xs.length
 ·rw [if_pos hi,progB_get h,if_pos (by omega),hb.at (by omega) (by omega),show a+i - a=i by omega,List.getElem?_eq_getElem hi]
  simp [ff_and]
 ·rw [if_neg hi,List.getElem?_eq_none (by omega)]
theorem seg_append (l:List (BitVec 8)) (a n m:Nat):seg l a (n+m)=seg l a n++seg l (a+n) m:=by
 unfold seg
 rw [List.take_add,List.drop_drop]
theorem blankB_iff {l:List (BitVec 8)} {a n:Nat} (h:a+n≤l.length):blankB (seg l a n)=true↔Blank l a n:=by
 unfold blankB Blank
 rw [List.all_eq_true,List.eq_replicate_iff]
 constructor
 ·intro hh
  exact ⟨seg_len h,fun x hx=>by simpa using hh x hx⟩
 ·rintro ⟨_,hh⟩ x hx
  simpa using hh x hx
def copyC (b:List (BitVec 8)):Option (BitVec 32 × List (BitVec 8)) :=
 let n:=numN (seg b 4 2)
 if 245<n then none else if b.getD (n+10) 0#8≠0#8 then none else if crcOk (b.take (n+10)) then some (num32 (b.take 4),seg b 6 n) else none
def copyAt (l:List (BitVec 8)) (s:Nat):Option (BitVec 32 × List (BitVec 8)):=copyC (seg l (s*256) 256)
def foundC (l:List (BitVec 8)):Option ((BitVec 32 × List (BitVec 8)) × Nat):=match copyAt l 0,copyAt l 1 with
 | none,none=>none
 | some a,none=>some (a,0)
 | none,some b=>some (b,1)
 | some a,some b=>if a.1.toNat<b.1.toNat then some (b,1) else some (a,0)
def copyB (n:BitVec 32) (b:List (BitVec 8)):List (BitVec 8):=crcPut (be4 n++(be2 (b.length:Int)++b))
def cellW (f:Fl) (b:List (BitVec 8)):Fl × Int :=
 if 245<b.length then (f,1) else match f.pw with
 | .down _=>(f,11)
 | _ =>
  let c:=foundC f.bs
  let k:=(c.map (fun q=>q.1.1)).getD 0#32
  if k=4294967295#32 then (f,9) else
  let to:=if c.map (·.2)=some 0 then 1 else 0
  let r1:=eraseF f to
  if r1.2≠0 then r1 else
  let out:=copyB (k+1#32) b
  let r2:=progF r1.1 (to*256) out
  if r2.2≠0 then r2 else progF r2.1 (to*256+out.length) [0#8]
abbrev Rec:=BitVec 32 × List (BitVec 8)
def plW (z:Nat):Nat:=256 / (z+13)
def atW (z p:Nat):Nat:=(6+p / plW z)*256+p % plW z*(z+13)
def recC (g:BitVec 32) (z:Nat) (b:List (BitVec 8)):Option Rec :=
 if b.getD (z+12) 0#8≠0#8 then none else if crcOk (b.take (z+12))=false then none else if num32 (b.take 4)≠g then none else some (num32 (seg b 4 4),seg b 8 z)
def recAt (l:List (BitVec 8)) (g:BitVec 32) (z p:Nat):Option Rec:=recC g z (seg l (atW z p) (z+13))
def recsP (l:List (BitVec 8)) (g:BitVec 32) (z p:Nat):Nat→List Rec
 | 0=>[]
 | n+1=>match recAt l g z (p+n) with
  | none=>recsP l g z p n
  | some r=>recsP l g z p n++[r]
def secOn (l:List (BitVec 8)) (g:BitVec 32) (z s:Nat):Bool:=(recAt l g z (s*plW z)).isSome
def recsW (l:List (BitVec 8)) (g:BitVec 32) (z:Nat):Nat→List Rec
 | 0=>[]
 | n+1=>if secOn l g z n=true then recsW l g z n++recsP l g z (n*plW z) (plW z) else recsW l g z n
def rdyW (l:List (BitVec 8)) (g:BitVec 32) (z:Nat):Nat→Int
 | 0 => -1
 | n+1=>if secOn l g z n=true then n else rdyW l g z n
def backW (l:List (BitVec 8)) (z p:Nat):Nat→Nat
 | 0=>p
 | n+1=>if blankB (seg l (atW z (p+n)) (z+13))=true then backW l z p n else p+(n+1)
def nxtW (l:List (BitVec 8)) (g:BitVec 32) (z:Nat):Nat:=if rdyW l g z 8<0 then 0 else backW l z ((rdyW l g z 8).toNat*plW z) (plW z)
def recB (g id:BitVec 32) (d:List (BitVec 8)):List (BitVec 8):=crcPut (be4 g++(be4 id++d))
def entF (f:Fl) (rdy:Int) (s:Nat):Fl × Int:=if (s:Int)=rdy then (f,0) else if blankB (seg f.bs ((6+s)*256) 256)=true then (f,0) else eraseF f (6+s)
def addW (f:Fl) (g:BitVec 32) (rdy:Int) (nxt:Nat) (id:BitVec 32) (d:List (BitVec 8)):Fl × Int :=
 if 8*plW d.length=nxt then (f,9) else match f.pw with
 | .down _=>(f,11)
 | _ =>
  let r1:=entF f rdy (nxt / plW d.length)
  if r1.2≠0 then r1 else
  let r2:=progF r1.1 (atW d.length nxt) (recB g id d)
  if r2.2≠0 then r2 else progF r2.1 (atW d.length nxt+(d.length+12)) [0#8]
def clr1 (f:Fl) (s:Nat):Fl × Int:=if blankB (seg f.bs (s*256) 256)=true then (f,0) else eraseF f s
def slotA (s:Nat):Nat:=(2+s*2)*256
def slotW (f:Fl) (s:Nat) (x:List (BitVec 8)):Fl × Int:=match f.pw with
 | .down _=>(f,11)
 | _ =>
  let r1:=clr1 f (2+s*2)
  if r1.2≠0 then r1 else
  let r2:=clr1 r1.1 (2+s*2+1)
  if r2.2≠0 then r2 else
  let r3:=progF r2.1 (slotA s) x
  if r3.2≠0 then r3 else (r3.1,if seg r3.1.bs (slotA s) x.length=x then 0 else 13)
open Go.Proofs
instance:TInt Tryz.prog 2 .i64:=⟨by kernel_rfl⟩
instance:TInf Tryz.prog 2 (.int .i64 (0)) 1 8:=⟨by kernel_rfl⟩
instance:TOne Tryz.prog 2:=⟨by kernel_rfl⟩
instance:TInt Tryz.prog 3 .i64:=⟨by kernel_rfl⟩
instance:TInf Tryz.prog 3 (.int .i64 (0)) 1 8:=⟨by kernel_rfl⟩
instance:TOne Tryz.prog 3:=⟨by kernel_rfl⟩
instance:TBool Tryz.prog 4:=⟨by kernel_rfl⟩
instance:TInf Tryz.prog 4 (.bool false) 1 1:=⟨by kernel_rfl⟩
instance:TOne Tryz.prog 4:=⟨by kernel_rfl⟩
instance:TInt Tryz.prog 5 .u8:=⟨by kernel_rfl⟩
instance:TInf Tryz.prog 5 (.int .u8 (0)) 1 1:=⟨by kernel_rfl⟩
instance:TOne Tryz.prog 5:=⟨by kernel_rfl⟩
instance:TFld Tryz.prog 7 0 0 2:=⟨by kernel_rfl⟩
instance:TFld Tryz.prog 7 1 1 3:=⟨by kernel_rfl⟩
instance:TFld Tryz.prog 7 2 2 4:=⟨by kernel_rfl⟩
instance:TFld Tryz.prog 7 3 3 6:=⟨by kernel_rfl⟩
instance:TPl Tryz.prog 7 [(0,1),(1,1),(2,1),(3,1)]:=⟨by kernel_rfl⟩
instance:TInf Tryz.prog 7 (.agg #[.int .i64 (0),.int .i64 (0),.bool false,.int .u8 (0)]) 4 24:=⟨by kernel_rfl⟩
instance:TAgg Tryz.prog 7:=⟨by kernel_rfl⟩
instance:TStr Tryz.prog 9:=⟨by kernel_rfl⟩
instance:TInf Tryz.prog 9 (.string .empty) 1 16:=⟨by kernel_rfl⟩
instance:TOne Tryz.prog 9:=⟨by kernel_rfl⟩
instance:TInt Tryz.prog 12 .u64:=⟨by kernel_rfl⟩
instance:TInf Tryz.prog 12 (.int .u64 (0)) 1 8:=⟨by kernel_rfl⟩
instance:TOne Tryz.prog 12:=⟨by kernel_rfl⟩
instance:TFld Tryz.prog 13 0 0 9:=⟨by kernel_rfl⟩
instance:TFld Tryz.prog 13 1 1 12:=⟨by kernel_rfl⟩
instance:TPl Tryz.prog 13 [(0,1),(1,1)]:=⟨by kernel_rfl⟩
instance:TInf Tryz.prog 13 (.agg #[.string .empty,.int .u64 (0)]) 2 24:=⟨by kernel_rfl⟩
instance:TAgg Tryz.prog 13:=⟨by kernel_rfl⟩
instance:TFld Tryz.prog 18 0 0 17:=⟨by kernel_rfl⟩
instance:TPl Tryz.prog 18 [(0,1)]:=⟨by kernel_rfl⟩
instance:TInf Tryz.prog 18 (.agg #[.pointer none]) 1 8:=⟨by kernel_rfl⟩
instance:TAgg Tryz.prog 18:=⟨by kernel_rfl⟩
instance:TInt Tryz.prog 21 .i32:=⟨by kernel_rfl⟩
instance:TInf Tryz.prog 21 (.int .i32 (0)) 1 4:=⟨by kernel_rfl⟩
instance:TOne Tryz.prog 21:=⟨by kernel_rfl⟩
instance:TSl Tryz.prog 22 5:=⟨by kernel_rfl⟩
instance:TInf Tryz.prog 22 (.slice none 0 0) 1 24:=⟨by kernel_rfl⟩
instance:TOne Tryz.prog 22:=⟨by kernel_rfl⟩
instance:TPtr Tryz.prog 23 94:=⟨by kernel_rfl⟩
instance:TInf Tryz.prog 23 (.pointer none) 1 8:=⟨by kernel_rfl⟩
instance:TOne Tryz.prog 23:=⟨by kernel_rfl⟩
instance:TPtr Tryz.prog 26 78:=⟨by kernel_rfl⟩
instance:TInf Tryz.prog 26 (.pointer none) 1 8:=⟨by kernel_rfl⟩
instance:TOne Tryz.prog 26:=⟨by kernel_rfl⟩
instance:TInt Tryz.prog 27 .i64:=⟨by kernel_rfl⟩
instance:TInf Tryz.prog 27 (.int .i64 (0)) 1 8:=⟨by kernel_rfl⟩
instance:TOne Tryz.prog 27:=⟨by kernel_rfl⟩
instance:TInt Tryz.prog 31 .u32:=⟨by kernel_rfl⟩
instance:TInf Tryz.prog 31 (.int .u32 (0)) 1 4:=⟨by kernel_rfl⟩
instance:TOne Tryz.prog 31:=⟨by kernel_rfl⟩
instance:TInt Tryz.prog 35 .u64:=⟨by kernel_rfl⟩
instance:TInf Tryz.prog 35 (.int .u64 (0)) 1 8:=⟨by kernel_rfl⟩
instance:TOne Tryz.prog 35:=⟨by kernel_rfl⟩
instance:TPtr Tryz.prog 41 110:=⟨by kernel_rfl⟩
instance:TInf Tryz.prog 41 (.pointer none) 1 8:=⟨by kernel_rfl⟩
instance:TOne Tryz.prog 41:=⟨by kernel_rfl⟩
instance:TFld Tryz.prog 45 0 0 31:=⟨by kernel_rfl⟩
instance:TFld Tryz.prog 45 1 1 3:=⟨by kernel_rfl⟩
instance:TFld Tryz.prog 45 2 2 22:=⟨by kernel_rfl⟩
instance:TPl Tryz.prog 45 [(0,1),(1,1),(2,1)]:=⟨by kernel_rfl⟩
instance:TInf Tryz.prog 45 (.agg #[.int .u32 (0),.int .i64 (0),.slice none 0 0]) 3 40:=⟨by kernel_rfl⟩
instance:TAgg Tryz.prog 45:=⟨by kernel_rfl⟩
instance:TFld Tryz.prog 46 0 0 31:=⟨by kernel_rfl⟩
instance:TFld Tryz.prog 46 1 1 3:=⟨by kernel_rfl⟩
instance:TFld Tryz.prog 46 2 2 22:=⟨by kernel_rfl⟩
instance:TPl Tryz.prog 46 [(0,1),(1,1),(2,1)]:=⟨by kernel_rfl⟩
instance:TInf Tryz.prog 46 (.agg #[.int .u32 (0),.int .i64 (0),.slice none 0 0]) 3 40:=⟨by kernel_rfl⟩
instance:TAgg Tryz.prog 46:=⟨by kernel_rfl⟩
instance:TArr Tryz.prog 47 2 46:=⟨by kernel_rfl⟩
instance:TPl Tryz.prog 47 [(0,3),(3,3)]:=⟨by kernel_rfl⟩
instance:TInf Tryz.prog 47 (.agg #[.int .u32 (0),.int .i64 (0),.slice none 0 0,.int .u32 (0),.int .i64 (0),.slice none 0 0]) 6 80:=⟨by kernel_rfl⟩
instance:TAgg Tryz.prog 47:=⟨by kernel_rfl⟩
instance:TFld Tryz.prog 48 0 0 31:=⟨by kernel_rfl⟩
instance:TFld Tryz.prog 48 1 1 31:=⟨by kernel_rfl⟩
instance:TFld Tryz.prog 48 2 2 3:=⟨by kernel_rfl⟩
instance:TFld Tryz.prog 48 3 3 3:=⟨by kernel_rfl⟩
instance:TFld Tryz.prog 48 4 4 3:=⟨by kernel_rfl⟩
instance:TFld Tryz.prog 48 5 5 22:=⟨by kernel_rfl⟩
instance:TPl Tryz.prog 48 [(0,1),(1,1),(2,1),(3,1),(4,1),(5,1)]:=⟨by kernel_rfl⟩
instance:TInf Tryz.prog 48 (.agg #[.int .u32 (0),.int .u32 (0),.int .i64 (0),.int .i64 (0),.int .i64 (0),.slice none 0 0]) 6 56:=⟨by kernel_rfl⟩
instance:TAgg Tryz.prog 48:=⟨by kernel_rfl⟩
instance:TFld Tryz.prog 49 0 0 31:=⟨by kernel_rfl⟩
instance:TFld Tryz.prog 49 1 1 31:=⟨by kernel_rfl⟩
instance:TFld Tryz.prog 49 2 2 3:=⟨by kernel_rfl⟩
instance:TFld Tryz.prog 49 3 3 3:=⟨by kernel_rfl⟩
instance:TFld Tryz.prog 49 4 4 3:=⟨by kernel_rfl⟩
instance:TFld Tryz.prog 49 5 5 22:=⟨by kernel_rfl⟩
instance:TPl Tryz.prog 49 [(0,1),(1,1),(2,1),(3,1),(4,1),(5,1)]:=⟨by kernel_rfl⟩
instance:TInf Tryz.prog 49 (.agg #[.int .u32 (0),.int .u32 (0),.int .i64 (0),.int .i64 (0),.int .i64 (0),.slice none 0 0]) 6 56:=⟨by kernel_rfl⟩
instance:TAgg Tryz.prog 49:=⟨by kernel_rfl⟩
instance:TFld Tryz.prog 50 0 0 3:=⟨by kernel_rfl⟩
instance:TFld Tryz.prog 50 1 1 3:=⟨by kernel_rfl⟩
instance:TFld Tryz.prog 50 2 2 31:=⟨by kernel_rfl⟩
instance:TFld Tryz.prog 50 3 3 31:=⟨by kernel_rfl⟩
instance:TFld Tryz.prog 50 4 4 47:=⟨by kernel_rfl⟩
instance:TFld Tryz.prog 50 5 10 4:=⟨by kernel_rfl⟩
instance:TFld Tryz.prog 50 6 11 49:=⟨by kernel_rfl⟩
instance:TPl Tryz.prog 50 [(0,1),(1,1),(2,1),(3,1),(4,6),(10,1),(11,6)]:=⟨by kernel_rfl⟩
instance:TInf Tryz.prog 50 (.agg #[.int .i64 (0),.int .i64 (0),.int .u32 (0),.int .u32 (0),.int .u32 (0),.int .i64 (0),.slice none 0 0,.int .u32 (0),.int .i64 (0),.slice none 0 0,.bool false,.int .u32 (0),.int .u32 (0),.int .i64 (0),.int .i64 (0),.int .i64 (0),.slice none 0 0]) 17 168:=⟨by kernel_rfl⟩
instance:TAgg Tryz.prog 50:=⟨by kernel_rfl⟩
instance:TFld Tryz.prog 51 0 0 3:=⟨by kernel_rfl⟩
instance:TFld Tryz.prog 51 1 1 3:=⟨by kernel_rfl⟩
instance:TFld Tryz.prog 51 2 2 31:=⟨by kernel_rfl⟩
instance:TFld Tryz.prog 51 3 3 31:=⟨by kernel_rfl⟩
instance:TFld Tryz.prog 51 4 4 47:=⟨by kernel_rfl⟩
instance:TFld Tryz.prog 51 5 10 4:=⟨by kernel_rfl⟩
instance:TFld Tryz.prog 51 6 11 49:=⟨by kernel_rfl⟩
instance:TPl Tryz.prog 51 [(0,1),(1,1),(2,1),(3,1),(4,6),(10,1),(11,6)]:=⟨by kernel_rfl⟩
instance:TInf Tryz.prog 51 (.agg #[.int .i64 (0),.int .i64 (0),.int .u32 (0),.int .u32 (0),.int .u32 (0),.int .i64 (0),.slice none 0 0,.int .u32 (0),.int .i64 (0),.slice none 0 0,.bool false,.int .u32 (0),.int .u32 (0),.int .i64 (0),.int .i64 (0),.int .i64 (0),.slice none 0 0]) 17 168:=⟨by kernel_rfl⟩
instance:TAgg Tryz.prog 51:=⟨by kernel_rfl⟩
instance:TSl Tryz.prog 56 59:=⟨by kernel_rfl⟩
instance:TInf Tryz.prog 56 (.slice none 0 0) 1 24:=⟨by kernel_rfl⟩
instance:TOne Tryz.prog 56:=⟨by kernel_rfl⟩
instance:TFld Tryz.prog 58 0 0 3:=⟨by kernel_rfl⟩
instance:TFld Tryz.prog 58 1 1 3:=⟨by kernel_rfl⟩
instance:TFld Tryz.prog 58 2 2 3:=⟨by kernel_rfl⟩
instance:TFld Tryz.prog 58 3 3 31:=⟨by kernel_rfl⟩
instance:TPl Tryz.prog 58 [(0,1),(1,1),(2,1),(3,1)]:=⟨by kernel_rfl⟩
instance:TInf Tryz.prog 58 (.agg #[.int .i64 (0),.int .i64 (0),.int .i64 (0),.int .u32 (0)]) 4 32:=⟨by kernel_rfl⟩
instance:TAgg Tryz.prog 58:=⟨by kernel_rfl⟩
instance:TFld Tryz.prog 59 0 0 3:=⟨by kernel_rfl⟩
instance:TFld Tryz.prog 59 1 1 3:=⟨by kernel_rfl⟩
instance:TFld Tryz.prog 59 2 2 3:=⟨by kernel_rfl⟩
instance:TFld Tryz.prog 59 3 3 31:=⟨by kernel_rfl⟩
instance:TPl Tryz.prog 59 [(0,1),(1,1),(2,1),(3,1)]:=⟨by kernel_rfl⟩
instance:TInf Tryz.prog 59 (.agg #[.int .i64 (0),.int .i64 (0),.int .i64 (0),.int .u32 (0)]) 4 32:=⟨by kernel_rfl⟩
instance:TAgg Tryz.prog 59:=⟨by kernel_rfl⟩
instance:TFld Tryz.prog 61 0 0 3:=⟨by kernel_rfl⟩
instance:TFld Tryz.prog 61 1 1 22:=⟨by kernel_rfl⟩
instance:TFld Tryz.prog 61 2 2 3:=⟨by kernel_rfl⟩
instance:TFld Tryz.prog 61 3 3 3:=⟨by kernel_rfl⟩
instance:TPl Tryz.prog 61 [(0,1),(1,1),(2,1),(3,1)]:=⟨by kernel_rfl⟩
instance:TInf Tryz.prog 61 (.agg #[.int .i64 (0),.slice none 0 0,.int .i64 (0),.int .i64 (0)]) 4 48:=⟨by kernel_rfl⟩
instance:TAgg Tryz.prog 61:=⟨by kernel_rfl⟩
instance:TFld Tryz.prog 62 0 0 3:=⟨by kernel_rfl⟩
instance:TFld Tryz.prog 62 1 1 22:=⟨by kernel_rfl⟩
instance:TFld Tryz.prog 62 2 2 3:=⟨by kernel_rfl⟩
instance:TFld Tryz.prog 62 3 3 3:=⟨by kernel_rfl⟩
instance:TPl Tryz.prog 62 [(0,1),(1,1),(2,1),(3,1)]:=⟨by kernel_rfl⟩
instance:TInf Tryz.prog 62 (.agg #[.int .i64 (0),.slice none 0 0,.int .i64 (0),.int .i64 (0)]) 4 48:=⟨by kernel_rfl⟩
instance:TAgg Tryz.prog 62:=⟨by kernel_rfl⟩
instance:TPtr Tryz.prog 70 84:=⟨by kernel_rfl⟩
instance:TInf Tryz.prog 70 (.pointer none) 1 8:=⟨by kernel_rfl⟩
instance:TOne Tryz.prog 70:=⟨by kernel_rfl⟩
instance:TArr Tryz.prog 71 0 70:=⟨by kernel_rfl⟩
instance:TPl Tryz.prog 71 []:=⟨by kernel_rfl⟩
instance:TInf Tryz.prog 71 (.agg #[]) 0 0:=⟨by kernel_rfl⟩
instance:TAgg Tryz.prog 71:=⟨by kernel_rfl⟩
instance:TInf Tryz.prog 72 (.agg #[]) 0 0:=⟨by kernel_rfl⟩
instance:TAgg Tryz.prog 72:=⟨by kernel_rfl⟩
instance:TInf Tryz.prog 73 (.agg #[]) 0 0:=⟨by kernel_rfl⟩
instance:TAgg Tryz.prog 73:=⟨by kernel_rfl⟩
instance:TFld Tryz.prog 75 2 0 74:=⟨by kernel_rfl⟩
instance:TPl Tryz.prog 75 [(0,0),(0,0),(0,1)]:=⟨by kernel_rfl⟩
instance:TInf Tryz.prog 75 (.agg #[.pointer none]) 1 8:=⟨by kernel_rfl⟩
instance:TAgg Tryz.prog 75:=⟨by kernel_rfl⟩
instance:TFld Tryz.prog 76 2 0 74:=⟨by kernel_rfl⟩
instance:TPl Tryz.prog 76 [(0,0),(0,0),(0,1)]:=⟨by kernel_rfl⟩
instance:TInf Tryz.prog 76 (.agg #[.pointer none]) 1 8:=⟨by kernel_rfl⟩
instance:TAgg Tryz.prog 76:=⟨by kernel_rfl⟩
instance:TFld Tryz.prog 77 0 0 22:=⟨by kernel_rfl⟩
instance:TFld Tryz.prog 77 1 1 41:=⟨by kernel_rfl⟩
instance:TFld Tryz.prog 77 2 2 76:=⟨by kernel_rfl⟩
instance:TPl Tryz.prog 77 [(0,1),(1,1),(2,1)]:=⟨by kernel_rfl⟩
instance:TInf Tryz.prog 77 (.agg #[.slice none 0 0,.pointer none,.pointer none]) 3 40:=⟨by kernel_rfl⟩
instance:TAgg Tryz.prog 77:=⟨by kernel_rfl⟩
instance:TFld Tryz.prog 78 0 0 22:=⟨by kernel_rfl⟩
instance:TFld Tryz.prog 78 1 1 41:=⟨by kernel_rfl⟩
instance:TFld Tryz.prog 78 2 2 76:=⟨by kernel_rfl⟩
instance:TPl Tryz.prog 78 [(0,1),(1,1),(2,1)]:=⟨by kernel_rfl⟩
instance:TInf Tryz.prog 78 (.agg #[.slice none 0 0,.pointer none,.pointer none]) 3 40:=⟨by kernel_rfl⟩
instance:TAgg Tryz.prog 78:=⟨by kernel_rfl⟩
instance:TPtr Tryz.prog 82 166:=⟨by kernel_rfl⟩
instance:TInf Tryz.prog 82 (.pointer none) 1 8:=⟨by kernel_rfl⟩
instance:TOne Tryz.prog 82:=⟨by kernel_rfl⟩
instance:TFld Tryz.prog 83 0 0 51:=⟨by kernel_rfl⟩
instance:TFld Tryz.prog 83 1 17 82:=⟨by kernel_rfl⟩
instance:TPl Tryz.prog 83 [(0,17),(17,1)]:=⟨by kernel_rfl⟩
instance:TInf Tryz.prog 83 (.agg #[.int .i64 (0),.int .i64 (0),.int .u32 (0),.int .u32 (0),.int .u32 (0),.int .i64 (0),.slice none 0 0,.int .u32 (0),.int .i64 (0),.slice none 0 0,.bool false,.int .u32 (0),.int .u32 (0),.int .i64 (0),.int .i64 (0),.int .i64 (0),.slice none 0 0,.pointer none]) 18 176:=⟨by kernel_rfl⟩
instance:TAgg Tryz.prog 83:=⟨by kernel_rfl⟩
instance:TFld Tryz.prog 84 0 0 51:=⟨by kernel_rfl⟩
instance:TFld Tryz.prog 84 1 17 82:=⟨by kernel_rfl⟩
instance:TPl Tryz.prog 84 [(0,17),(17,1)]:=⟨by kernel_rfl⟩
instance:TInf Tryz.prog 84 (.agg #[.int .i64 (0),.int .i64 (0),.int .u32 (0),.int .u32 (0),.int .u32 (0),.int .i64 (0),.slice none 0 0,.int .u32 (0),.int .i64 (0),.slice none 0 0,.bool false,.int .u32 (0),.int .u32 (0),.int .i64 (0),.int .i64 (0),.int .i64 (0),.slice none 0 0,.pointer none]) 18 176:=⟨by kernel_rfl⟩
instance:TAgg Tryz.prog 84:=⟨by kernel_rfl⟩
instance:TFld Tryz.prog 90 0 0 31:=⟨by kernel_rfl⟩
instance:TFld Tryz.prog 90 1 1 3:=⟨by kernel_rfl⟩
instance:TFld Tryz.prog 90 2 2 3:=⟨by kernel_rfl⟩
instance:TFld Tryz.prog 90 3 3 3:=⟨by kernel_rfl⟩
instance:TPl Tryz.prog 90 [(0,1),(1,1),(2,1),(3,1)]:=⟨by kernel_rfl⟩
instance:TInf Tryz.prog 90 (.agg #[.int .u32 (0),.int .i64 (0),.int .i64 (0),.int .i64 (0)]) 4 32:=⟨by kernel_rfl⟩
instance:TAgg Tryz.prog 90:=⟨by kernel_rfl⟩
instance:TFld Tryz.prog 91 0 0 31:=⟨by kernel_rfl⟩
instance:TFld Tryz.prog 91 1 1 3:=⟨by kernel_rfl⟩
instance:TFld Tryz.prog 91 2 2 3:=⟨by kernel_rfl⟩
instance:TFld Tryz.prog 91 3 3 3:=⟨by kernel_rfl⟩
instance:TPl Tryz.prog 91 [(0,1),(1,1),(2,1),(3,1)]:=⟨by kernel_rfl⟩
instance:TInf Tryz.prog 91 (.agg #[.int .u32 (0),.int .i64 (0),.int .i64 (0),.int .i64 (0)]) 4 32:=⟨by kernel_rfl⟩
instance:TAgg Tryz.prog 91:=⟨by kernel_rfl⟩
instance:TPtr Tryz.prog 92 160:=⟨by kernel_rfl⟩
instance:TInf Tryz.prog 92 (.pointer none) 1 8:=⟨by kernel_rfl⟩
instance:TOne Tryz.prog 92:=⟨by kernel_rfl⟩
instance:TFld Tryz.prog 93 0 0 22:=⟨by kernel_rfl⟩
instance:TFld Tryz.prog 93 1 1 49:=⟨by kernel_rfl⟩
instance:TFld Tryz.prog 93 2 7 91:=⟨by kernel_rfl⟩
instance:TFld Tryz.prog 93 3 11 92:=⟨by kernel_rfl⟩
instance:TPl Tryz.prog 93 [(0,1),(1,6),(7,4),(11,1)]:=⟨by kernel_rfl⟩
instance:TInf Tryz.prog 93 (.agg #[.slice none 0 0,.int .u32 (0),.int .u32 (0),.int .i64 (0),.int .i64 (0),.int .i64 (0),.slice none 0 0,.int .u32 (0),.int .i64 (0),.int .i64 (0),.int .i64 (0),.pointer none]) 12 120:=⟨by kernel_rfl⟩
instance:TAgg Tryz.prog 93:=⟨by kernel_rfl⟩
instance:TFld Tryz.prog 94 0 0 22:=⟨by kernel_rfl⟩
instance:TFld Tryz.prog 94 1 1 49:=⟨by kernel_rfl⟩
instance:TFld Tryz.prog 94 2 7 91:=⟨by kernel_rfl⟩
instance:TFld Tryz.prog 94 3 11 92:=⟨by kernel_rfl⟩
instance:TPl Tryz.prog 94 [(0,1),(1,6),(7,4),(11,1)]:=⟨by kernel_rfl⟩
instance:TInf Tryz.prog 94 (.agg #[.slice none 0 0,.int .u32 (0),.int .u32 (0),.int .i64 (0),.int .i64 (0),.int .i64 (0),.slice none 0 0,.int .u32 (0),.int .i64 (0),.int .i64 (0),.int .i64 (0),.pointer none]) 12 120:=⟨by kernel_rfl⟩
instance:TAgg Tryz.prog 94:=⟨by kernel_rfl⟩
instance:TFld Tryz.prog 97 0 0 31:=⟨by kernel_rfl⟩
instance:TFld Tryz.prog 97 1 1 31:=⟨by kernel_rfl⟩
instance:TFld Tryz.prog 97 2 2 22:=⟨by kernel_rfl⟩
instance:TPl Tryz.prog 97 [(0,1),(1,1),(2,1)]:=⟨by kernel_rfl⟩
instance:TInf Tryz.prog 97 (.agg #[.int .u32 (0),.int .u32 (0),.slice none 0 0]) 3 32:=⟨by kernel_rfl⟩
instance:TAgg Tryz.prog 97:=⟨by kernel_rfl⟩
instance:TFld Tryz.prog 98 0 0 31:=⟨by kernel_rfl⟩
instance:TFld Tryz.prog 98 1 1 31:=⟨by kernel_rfl⟩
instance:TFld Tryz.prog 98 2 2 22:=⟨by kernel_rfl⟩
instance:TPl Tryz.prog 98 [(0,1),(1,1),(2,1)]:=⟨by kernel_rfl⟩
instance:TInf Tryz.prog 98 (.agg #[.int .u32 (0),.int .u32 (0),.slice none 0 0]) 3 32:=⟨by kernel_rfl⟩
instance:TAgg Tryz.prog 98:=⟨by kernel_rfl⟩
instance:TSl Tryz.prog 104 31:=⟨by kernel_rfl⟩
instance:TInf Tryz.prog 104 (.slice none 0 0) 1 24:=⟨by kernel_rfl⟩
instance:TOne Tryz.prog 104:=⟨by kernel_rfl⟩
instance:TArr Tryz.prog 105 14 3:=⟨by kernel_rfl⟩
instance:TPl Tryz.prog 105 [(0,1),(1,1),(2,1),(3,1),(4,1),(5,1),(6,1),(7,1),(8,1),(9,1),(10,1),(11,1),(12,1),(13,1)]:=⟨by kernel_rfl⟩
instance:TInf Tryz.prog 105 (.agg #[.int .i64 (0),.int .i64 (0),.int .i64 (0),.int .i64 (0),.int .i64 (0),.int .i64 (0),.int .i64 (0),.int .i64 (0),.int .i64 (0),.int .i64 (0),.int .i64 (0),.int .i64 (0),.int .i64 (0),.int .i64 (0)]) 14 112:=⟨by kernel_rfl⟩
instance:TAgg Tryz.prog 105:=⟨by kernel_rfl⟩
instance:TInf Tryz.prog 106 (.agg #[]) 0 0:=⟨by kernel_rfl⟩
instance:TAgg Tryz.prog 106:=⟨by kernel_rfl⟩
instance:TFld Tryz.prog 107 2 0 2:=⟨by kernel_rfl⟩
instance:TPl Tryz.prog 107 [(0,0),(0,0),(0,1)]:=⟨by kernel_rfl⟩
instance:TInf Tryz.prog 107 (.agg #[.int .i64 (0)]) 1 8:=⟨by kernel_rfl⟩
instance:TAgg Tryz.prog 107:=⟨by kernel_rfl⟩
instance:TFld Tryz.prog 108 2 0 2:=⟨by kernel_rfl⟩
instance:TPl Tryz.prog 108 [(0,0),(0,0),(0,1)]:=⟨by kernel_rfl⟩
instance:TInf Tryz.prog 108 (.agg #[.int .i64 (0)]) 1 8:=⟨by kernel_rfl⟩
instance:TAgg Tryz.prog 108:=⟨by kernel_rfl⟩
instance:TFld Tryz.prog 109 0 0 22:=⟨by kernel_rfl⟩
instance:TFld Tryz.prog 109 1 1 105:=⟨by kernel_rfl⟩
instance:TFld Tryz.prog 109 2 15 3:=⟨by kernel_rfl⟩
instance:TFld Tryz.prog 109 3 16 4:=⟨by kernel_rfl⟩
instance:TFld Tryz.prog 109 4 17 4:=⟨by kernel_rfl⟩
instance:TFld Tryz.prog 109 5 18 3:=⟨by kernel_rfl⟩
instance:TFld Tryz.prog 109 6 19 3:=⟨by kernel_rfl⟩
instance:TFld Tryz.prog 109 7 20 108:=⟨by kernel_rfl⟩
instance:TPl Tryz.prog 109 [(0,1),(1,14),(15,1),(16,1),(17,1),(18,1),(19,1),(20,1)]:=⟨by kernel_rfl⟩
instance:TInf Tryz.prog 109 (.agg #[.slice none 0 0,.int .i64 (0),.int .i64 (0),.int .i64 (0),.int .i64 (0),.int .i64 (0),.int .i64 (0),.int .i64 (0),.int .i64 (0),.int .i64 (0),.int .i64 (0),.int .i64 (0),.int .i64 (0),.int .i64 (0),.int .i64 (0),.int .i64 (0),.bool false,.bool false,.int .i64 (0),.int .i64 (0),.int .i64 (0)]) 21 176:=⟨by kernel_rfl⟩
instance:TAgg Tryz.prog 109:=⟨by kernel_rfl⟩
instance:TFld Tryz.prog 110 0 0 22:=⟨by kernel_rfl⟩
instance:TFld Tryz.prog 110 1 1 105:=⟨by kernel_rfl⟩
instance:TFld Tryz.prog 110 2 15 3:=⟨by kernel_rfl⟩
instance:TFld Tryz.prog 110 3 16 4:=⟨by kernel_rfl⟩
instance:TFld Tryz.prog 110 4 17 4:=⟨by kernel_rfl⟩
instance:TFld Tryz.prog 110 5 18 3:=⟨by kernel_rfl⟩
instance:TFld Tryz.prog 110 6 19 3:=⟨by kernel_rfl⟩
instance:TFld Tryz.prog 110 7 20 108:=⟨by kernel_rfl⟩
instance:TPl Tryz.prog 110 [(0,1),(1,14),(15,1),(16,1),(17,1),(18,1),(19,1),(20,1)]:=⟨by kernel_rfl⟩
instance:TInf Tryz.prog 110 (.agg #[.slice none 0 0,.int .i64 (0),.int .i64 (0),.int .i64 (0),.int .i64 (0),.int .i64 (0),.int .i64 (0),.int .i64 (0),.int .i64 (0),.int .i64 (0),.int .i64 (0),.int .i64 (0),.int .i64 (0),.int .i64 (0),.int .i64 (0),.int .i64 (0),.bool false,.bool false,.int .i64 (0),.int .i64 (0),.int .i64 (0)]) 21 176:=⟨by kernel_rfl⟩
instance:TAgg Tryz.prog 110:=⟨by kernel_rfl⟩
instance:TPtr Tryz.prog 127 76:=⟨by kernel_rfl⟩
instance:TInf Tryz.prog 127 (.pointer none) 1 8:=⟨by kernel_rfl⟩
instance:TOne Tryz.prog 127:=⟨by kernel_rfl⟩
instance:TPtr Tryz.prog 129 74:=⟨by kernel_rfl⟩
instance:TInf Tryz.prog 129 (.pointer none) 1 8:=⟨by kernel_rfl⟩
instance:TOne Tryz.prog 129:=⟨by kernel_rfl⟩
instance:TInt Tryz.prog 143 .u64:=⟨by kernel_rfl⟩
instance:TInf Tryz.prog 143 (.int .u64 (0)) 1 8:=⟨by kernel_rfl⟩
instance:TOne Tryz.prog 143:=⟨by kernel_rfl⟩
instance:TArr Tryz.prog 144 2 31:=⟨by kernel_rfl⟩
instance:TPl Tryz.prog 144 [(0,1),(1,1)]:=⟨by kernel_rfl⟩
instance:TInf Tryz.prog 144 (.agg #[.int .u32 (0),.int .u32 (0)]) 2 8:=⟨by kernel_rfl⟩
instance:TAgg Tryz.prog 144:=⟨by kernel_rfl⟩
instance:TSl Tryz.prog 145 22:=⟨by kernel_rfl⟩
instance:TInf Tryz.prog 145 (.slice none 0 0) 1 24:=⟨by kernel_rfl⟩
instance:TOne Tryz.prog 145:=⟨by kernel_rfl⟩
instance:TSl Tryz.prog 147 3:=⟨by kernel_rfl⟩
instance:TInf Tryz.prog 147 (.slice none 0 0) 1 24:=⟨by kernel_rfl⟩
instance:TOne Tryz.prog 147:=⟨by kernel_rfl⟩
instance:TPtr Tryz.prog 148 269:=⟨by kernel_rfl⟩
instance:TInf Tryz.prog 148 (.pointer none) 1 8:=⟨by kernel_rfl⟩
instance:TOne Tryz.prog 148:=⟨by kernel_rfl⟩
instance:TInf Tryz.prog 150 (.agg #[]) 0 0:=⟨by kernel_rfl⟩
instance:TAgg Tryz.prog 150:=⟨by kernel_rfl⟩
instance:TFld Tryz.prog 151 1 0 31:=⟨by kernel_rfl⟩
instance:TPl Tryz.prog 151 [(0,0),(0,1)]:=⟨by kernel_rfl⟩
instance:TInf Tryz.prog 151 (.agg #[.int .u32 (0)]) 1 4:=⟨by kernel_rfl⟩
instance:TAgg Tryz.prog 151:=⟨by kernel_rfl⟩
instance:TFld Tryz.prog 152 1 0 31:=⟨by kernel_rfl⟩
instance:TPl Tryz.prog 152 [(0,0),(0,1)]:=⟨by kernel_rfl⟩
instance:TInf Tryz.prog 152 (.agg #[.int .u32 (0)]) 1 4:=⟨by kernel_rfl⟩
instance:TAgg Tryz.prog 152:=⟨by kernel_rfl⟩
instance:TFld Tryz.prog 153 0 0 21:=⟨by kernel_rfl⟩
instance:TFld Tryz.prog 153 1 1 31:=⟨by kernel_rfl⟩
instance:TPl Tryz.prog 153 [(0,1),(1,1)]:=⟨by kernel_rfl⟩
instance:TInf Tryz.prog 153 (.agg #[.int .i32 (0),.int .u32 (0)]) 2 8:=⟨by kernel_rfl⟩
instance:TAgg Tryz.prog 153:=⟨by kernel_rfl⟩
instance:TFld Tryz.prog 155 1 0 154:=⟨by kernel_rfl⟩
instance:TPl Tryz.prog 155 [(0,0),(0,2)]:=⟨by kernel_rfl⟩
instance:TInf Tryz.prog 155 (.agg #[.int .i32 (0),.int .u32 (0)]) 2 8:=⟨by kernel_rfl⟩
instance:TAgg Tryz.prog 155:=⟨by kernel_rfl⟩
instance:TFld Tryz.prog 156 1 0 154:=⟨by kernel_rfl⟩
instance:TPl Tryz.prog 156 [(0,0),(0,2)]:=⟨by kernel_rfl⟩
instance:TInf Tryz.prog 156 (.agg #[.int .i32 (0),.int .u32 (0)]) 2 8:=⟨by kernel_rfl⟩
instance:TAgg Tryz.prog 156:=⟨by kernel_rfl⟩
instance:TFld Tryz.prog 157 1 0 152:=⟨by kernel_rfl⟩
instance:TFld Tryz.prog 157 2 1 156:=⟨by kernel_rfl⟩
instance:TPl Tryz.prog 157 [(0,0),(0,1),(1,2)]:=⟨by kernel_rfl⟩
instance:TInf Tryz.prog 157 (.agg #[.int .u32 (0),.int .i32 (0),.int .u32 (0)]) 3 12:=⟨by kernel_rfl⟩
instance:TAgg Tryz.prog 157:=⟨by kernel_rfl⟩
instance:TFld Tryz.prog 158 1 0 152:=⟨by kernel_rfl⟩
instance:TFld Tryz.prog 158 2 1 156:=⟨by kernel_rfl⟩
instance:TPl Tryz.prog 158 [(0,0),(0,1),(1,2)]:=⟨by kernel_rfl⟩
instance:TInf Tryz.prog 158 (.agg #[.int .u32 (0),.int .i32 (0),.int .u32 (0)]) 3 12:=⟨by kernel_rfl⟩
instance:TAgg Tryz.prog 158:=⟨by kernel_rfl⟩
instance:TFld Tryz.prog 159 0 0 91:=⟨by kernel_rfl⟩
instance:TFld Tryz.prog 159 1 4 22:=⟨by kernel_rfl⟩
instance:TFld Tryz.prog 159 2 5 158:=⟨by kernel_rfl⟩
instance:TFld Tryz.prog 159 3 8 145:=⟨by kernel_rfl⟩
instance:TPl Tryz.prog 159 [(0,4),(4,1),(5,3),(8,1)]:=⟨by kernel_rfl⟩
instance:TInf Tryz.prog 159 (.agg #[.int .u32 (0),.int .i64 (0),.int .i64 (0),.int .i64 (0),.slice none 0 0,.int .u32 (0),.int .i32 (0),.int .u32 (0),.slice none 0 0]) 9 96:=⟨by kernel_rfl⟩
instance:TAgg Tryz.prog 159:=⟨by kernel_rfl⟩
instance:TFld Tryz.prog 160 0 0 91:=⟨by kernel_rfl⟩
instance:TFld Tryz.prog 160 1 4 22:=⟨by kernel_rfl⟩
instance:TFld Tryz.prog 160 2 5 158:=⟨by kernel_rfl⟩
instance:TFld Tryz.prog 160 3 8 145:=⟨by kernel_rfl⟩
instance:TPl Tryz.prog 160 [(0,4),(4,1),(5,3),(8,1)]:=⟨by kernel_rfl⟩
instance:TInf Tryz.prog 160 (.agg #[.int .u32 (0),.int .i64 (0),.int .i64 (0),.int .i64 (0),.slice none 0 0,.int .u32 (0),.int .i32 (0),.int .u32 (0),.slice none 0 0]) 9 96:=⟨by kernel_rfl⟩
instance:TAgg Tryz.prog 160:=⟨by kernel_rfl⟩
instance:TPtr Tryz.prog 163 246:=⟨by kernel_rfl⟩
instance:TInf Tryz.prog 163 (.pointer none) 1 8:=⟨by kernel_rfl⟩
instance:TOne Tryz.prog 163:=⟨by kernel_rfl⟩
instance:TPtr Tryz.prog 164 221:=⟨by kernel_rfl⟩
instance:TInf Tryz.prog 164 (.pointer none) 1 8:=⟨by kernel_rfl⟩
instance:TOne Tryz.prog 164:=⟨by kernel_rfl⟩
instance:TFld Tryz.prog 165 0 0 49:=⟨by kernel_rfl⟩
instance:TFld Tryz.prog 165 1 6 163:=⟨by kernel_rfl⟩
instance:TFld Tryz.prog 165 2 7 164:=⟨by kernel_rfl⟩
instance:TPl Tryz.prog 165 [(0,6),(6,1),(7,1)]:=⟨by kernel_rfl⟩
instance:TInf Tryz.prog 165 (.agg #[.int .u32 (0),.int .u32 (0),.int .i64 (0),.int .i64 (0),.int .i64 (0),.slice none 0 0,.pointer none,.pointer none]) 8 72:=⟨by kernel_rfl⟩
instance:TAgg Tryz.prog 165:=⟨by kernel_rfl⟩
instance:TFld Tryz.prog 166 0 0 49:=⟨by kernel_rfl⟩
instance:TFld Tryz.prog 166 1 6 163:=⟨by kernel_rfl⟩
instance:TFld Tryz.prog 166 2 7 164:=⟨by kernel_rfl⟩
instance:TPl Tryz.prog 166 [(0,6),(6,1),(7,1)]:=⟨by kernel_rfl⟩
instance:TInf Tryz.prog 166 (.agg #[.int .u32 (0),.int .u32 (0),.int .i64 (0),.int .i64 (0),.int .i64 (0),.slice none 0 0,.pointer none,.pointer none]) 8 72:=⟨by kernel_rfl⟩
instance:TAgg Tryz.prog 166:=⟨by kernel_rfl⟩
instance:TFld Tryz.prog 169 0 0 31:=⟨by kernel_rfl⟩
instance:TFld Tryz.prog 169 1 1 22:=⟨by kernel_rfl⟩
instance:TPl Tryz.prog 169 [(0,1),(1,1)]:=⟨by kernel_rfl⟩
instance:TInf Tryz.prog 169 (.agg #[.int .u32 (0),.slice none 0 0]) 2 32:=⟨by kernel_rfl⟩
instance:TAgg Tryz.prog 169:=⟨by kernel_rfl⟩
instance:TFld Tryz.prog 170 0 0 31:=⟨by kernel_rfl⟩
instance:TFld Tryz.prog 170 1 1 22:=⟨by kernel_rfl⟩
instance:TPl Tryz.prog 170 [(0,1),(1,1)]:=⟨by kernel_rfl⟩
instance:TInf Tryz.prog 170 (.agg #[.int .u32 (0),.slice none 0 0]) 2 32:=⟨by kernel_rfl⟩
instance:TAgg Tryz.prog 170:=⟨by kernel_rfl⟩
instance:TPtr Tryz.prog 173 175:=⟨by kernel_rfl⟩
instance:TInf Tryz.prog 173 (.pointer none) 1 8:=⟨by kernel_rfl⟩
instance:TOne Tryz.prog 173:=⟨by kernel_rfl⟩
instance:TFld Tryz.prog 174 0 0 22:=⟨by kernel_rfl⟩
instance:TFld Tryz.prog 174 1 1 27:=⟨by kernel_rfl⟩
instance:TPl Tryz.prog 174 [(0,1),(1,1)]:=⟨by kernel_rfl⟩
instance:TInf Tryz.prog 174 (.agg #[.slice none 0 0,.int .i64 (0)]) 2 32:=⟨by kernel_rfl⟩
instance:TAgg Tryz.prog 174:=⟨by kernel_rfl⟩
instance:TFld Tryz.prog 175 0 0 22:=⟨by kernel_rfl⟩
instance:TFld Tryz.prog 175 1 1 27:=⟨by kernel_rfl⟩
instance:TPl Tryz.prog 175 [(0,1),(1,1)]:=⟨by kernel_rfl⟩
instance:TInf Tryz.prog 175 (.agg #[.slice none 0 0,.int .i64 (0)]) 2 32:=⟨by kernel_rfl⟩
instance:TAgg Tryz.prog 175:=⟨by kernel_rfl⟩
instance:TArr Tryz.prog 184 8 31:=⟨by kernel_rfl⟩
instance:TPl Tryz.prog 184 [(0,1),(1,1),(2,1),(3,1),(4,1),(5,1),(6,1),(7,1)]:=⟨by kernel_rfl⟩
instance:TInf Tryz.prog 184 (.agg #[.int .u32 (0),.int .u32 (0),.int .u32 (0),.int .u32 (0),.int .u32 (0),.int .u32 (0),.int .u32 (0),.int .u32 (0)]) 8 32:=⟨by kernel_rfl⟩
instance:TAgg Tryz.prog 184:=⟨by kernel_rfl⟩
instance:TArr Tryz.prog 185 8 31:=⟨by kernel_rfl⟩
instance:TPl Tryz.prog 185 [(0,1),(1,1),(2,1),(3,1),(4,1),(5,1),(6,1),(7,1)]:=⟨by kernel_rfl⟩
instance:TInf Tryz.prog 185 (.agg #[.int .u32 (0),.int .u32 (0),.int .u32 (0),.int .u32 (0),.int .u32 (0),.int .u32 (0),.int .u32 (0),.int .u32 (0)]) 8 32:=⟨by kernel_rfl⟩
instance:TAgg Tryz.prog 185:=⟨by kernel_rfl⟩
instance:TPtr Tryz.prog 211 258:=⟨by kernel_rfl⟩
instance:TInf Tryz.prog 211 (.pointer none) 1 8:=⟨by kernel_rfl⟩
instance:TOne Tryz.prog 211:=⟨by kernel_rfl⟩
instance:TPtr Tryz.prog 214 265:=⟨by kernel_rfl⟩
instance:TInf Tryz.prog 214 (.pointer none) 1 8:=⟨by kernel_rfl⟩
instance:TOne Tryz.prog 214:=⟨by kernel_rfl⟩
instance:TPtr Tryz.prog 219 283:=⟨by kernel_rfl⟩
instance:TInf Tryz.prog 219 (.pointer none) 1 8:=⟨by kernel_rfl⟩
instance:TOne Tryz.prog 219:=⟨by kernel_rfl⟩
instance:TFld Tryz.prog 220 0 0 91:=⟨by kernel_rfl⟩
instance:TFld Tryz.prog 220 1 4 219:=⟨by kernel_rfl⟩
instance:TFld Tryz.prog 220 2 5 108:=⟨by kernel_rfl⟩
instance:TFld Tryz.prog 220 3 6 158:=⟨by kernel_rfl⟩
instance:TFld Tryz.prog 220 4 9 145:=⟨by kernel_rfl⟩
instance:TPl Tryz.prog 220 [(0,4),(4,1),(5,1),(6,3),(9,1)]:=⟨by kernel_rfl⟩
instance:TInf Tryz.prog 220 (.agg #[.int .u32 (0),.int .i64 (0),.int .i64 (0),.int .i64 (0),.pointer none,.int .i64 (0),.int .u32 (0),.int .i32 (0),.int .u32 (0),.slice none 0 0]) 10 88:=⟨by kernel_rfl⟩
instance:TAgg Tryz.prog 220:=⟨by kernel_rfl⟩
instance:TFld Tryz.prog 221 0 0 91:=⟨by kernel_rfl⟩
instance:TFld Tryz.prog 221 1 4 219:=⟨by kernel_rfl⟩
instance:TFld Tryz.prog 221 2 5 108:=⟨by kernel_rfl⟩
instance:TFld Tryz.prog 221 3 6 158:=⟨by kernel_rfl⟩
instance:TFld Tryz.prog 221 4 9 145:=⟨by kernel_rfl⟩
instance:TPl Tryz.prog 221 [(0,4),(4,1),(5,1),(6,3),(9,1)]:=⟨by kernel_rfl⟩
instance:TInf Tryz.prog 221 (.agg #[.int .u32 (0),.int .i64 (0),.int .i64 (0),.int .i64 (0),.pointer none,.int .i64 (0),.int .u32 (0),.int .i32 (0),.int .u32 (0),.slice none 0 0]) 10 88:=⟨by kernel_rfl⟩
instance:TAgg Tryz.prog 221:=⟨by kernel_rfl⟩
instance:TArr Tryz.prog 227 64 31:=⟨by kernel_rfl⟩
instance:TPl Tryz.prog 227 [(0,1),(1,1),(2,1),(3,1),(4,1),(5,1),(6,1),(7,1),(8,1),(9,1),(10,1),(11,1),(12,1),(13,1),(14,1),(15,1),(16,1),(17,1),(18,1),(19,1),(20,1),(21,1),(22,1),(23,1),(24,1),(25,1),(26,1),(27,1),(28,1),(29,1),(30,1),(31,1),(32,1),(33,1),(34,1),(35,1),(36,1),(37,1),(38,1),(39,1),(40,1),(41,1),(42,1),(43,1),(44,1),(45,1),(46,1),(47,1),(48,1),(49,1),(50,1),(51,1),(52,1),(53,1),(54,1),(55,1),(56,1),(57,1),(58,1),(59,1),(60,1),(61,1),(62,1),(63,1)]:=⟨by kernel_rfl⟩
instance:TInf Tryz.prog 227 (.agg #[.int .u32 (0),.int .u32 (0),.int .u32 (0),.int .u32 (0),.int .u32 (0),.int .u32 (0),.int .u32 (0),.int .u32 (0),.int .u32 (0),.int .u32 (0),.int .u32 (0),.int .u32 (0),.int .u32 (0),.int .u32 (0),.int .u32 (0),.int .u32 (0),.int .u32 (0),.int .u32 (0),.int .u32 (0),.int .u32 (0),.int .u32 (0),.int .u32 (0),.int .u32 (0),.int .u32 (0),.int .u32 (0),.int .u32 (0),.int .u32 (0),.int .u32 (0),.int .u32 (0),.int .u32 (0),.int .u32 (0),.int .u32 (0),.int .u32 (0),.int .u32 (0),.int .u32 (0),.int .u32 (0),.int .u32 (0),.int .u32 (0),.int .u32 (0),.int .u32 (0),.int .u32 (0),.int .u32 (0),.int .u32 (0),.int .u32 (0),.int .u32 (0),.int .u32 (0),.int .u32 (0),.int .u32 (0),.int .u32 (0),.int .u32 (0),.int .u32 (0),.int .u32 (0),.int .u32 (0),.int .u32 (0),.int .u32 (0),.int .u32 (0),.int .u32 (0),.int .u32 (0),.int .u32 (0),.int .u32 (0),.int .u32 (0),.int .u32 (0),.int .u32 (0),.int .u32 (0)]) 64 256:=⟨by kernel_rfl⟩
instance:TAgg Tryz.prog 227:=⟨by kernel_rfl⟩
instance:TSl Tryz.prog 240 243:=⟨by kernel_rfl⟩
instance:TInf Tryz.prog 240 (.slice none 0 0) 1 24:=⟨by kernel_rfl⟩
instance:TOne Tryz.prog 240:=⟨by kernel_rfl⟩
instance:TFld Tryz.prog 242 0 0 31:=⟨by kernel_rfl⟩
instance:TFld Tryz.prog 242 1 1 22:=⟨by kernel_rfl⟩
instance:TPl Tryz.prog 242 [(0,1),(1,1)]:=⟨by kernel_rfl⟩
instance:TInf Tryz.prog 242 (.agg #[.int .u32 (0),.slice none 0 0]) 2 32:=⟨by kernel_rfl⟩
instance:TAgg Tryz.prog 242:=⟨by kernel_rfl⟩
instance:TFld Tryz.prog 243 0 0 31:=⟨by kernel_rfl⟩
instance:TFld Tryz.prog 243 1 1 22:=⟨by kernel_rfl⟩
instance:TPl Tryz.prog 243 [(0,1),(1,1)]:=⟨by kernel_rfl⟩
instance:TInf Tryz.prog 243 (.agg #[.int .u32 (0),.slice none 0 0]) 2 32:=⟨by kernel_rfl⟩
instance:TAgg Tryz.prog 243:=⟨by kernel_rfl⟩
instance:TFld Tryz.prog 245 0 0 41:=⟨by kernel_rfl⟩
instance:TFld Tryz.prog 245 1 1 31:=⟨by kernel_rfl⟩
instance:TFld Tryz.prog 245 2 2 3:=⟨by kernel_rfl⟩
instance:TFld Tryz.prog 245 3 3 240:=⟨by kernel_rfl⟩
instance:TFld Tryz.prog 245 4 4 3:=⟨by kernel_rfl⟩
instance:TFld Tryz.prog 245 5 5 3:=⟨by kernel_rfl⟩
instance:TPl Tryz.prog 245 [(0,1),(1,1),(2,1),(3,1),(4,1),(5,1)]:=⟨by kernel_rfl⟩
instance:TInf Tryz.prog 245 (.agg #[.pointer none,.int .u32 (0),.int .i64 (0),.slice none 0 0,.int .i64 (0),.int .i64 (0)]) 6 64:=⟨by kernel_rfl⟩
instance:TAgg Tryz.prog 245:=⟨by kernel_rfl⟩
instance:TFld Tryz.prog 246 0 0 41:=⟨by kernel_rfl⟩
instance:TFld Tryz.prog 246 1 1 31:=⟨by kernel_rfl⟩
instance:TFld Tryz.prog 246 2 2 3:=⟨by kernel_rfl⟩
instance:TFld Tryz.prog 246 3 3 240:=⟨by kernel_rfl⟩
instance:TFld Tryz.prog 246 4 4 3:=⟨by kernel_rfl⟩
instance:TFld Tryz.prog 246 5 5 3:=⟨by kernel_rfl⟩
instance:TPl Tryz.prog 246 [(0,1),(1,1),(2,1),(3,1),(4,1),(5,1)]:=⟨by kernel_rfl⟩
instance:TInf Tryz.prog 246 (.agg #[.pointer none,.int .u32 (0),.int .i64 (0),.slice none 0 0,.int .i64 (0),.int .i64 (0)]) 6 64:=⟨by kernel_rfl⟩
instance:TAgg Tryz.prog 246:=⟨by kernel_rfl⟩
instance:TPtr Tryz.prog 250 158:=⟨by kernel_rfl⟩
instance:TInf Tryz.prog 250 (.pointer none) 1 8:=⟨by kernel_rfl⟩
instance:TOne Tryz.prog 250:=⟨by kernel_rfl⟩
instance:TSl Tryz.prog 252 148:=⟨by kernel_rfl⟩
instance:TInf Tryz.prog 252 (.slice none 0 0) 1 24:=⟨by kernel_rfl⟩
instance:TOne Tryz.prog 252:=⟨by kernel_rfl⟩
instance:TFld Tryz.prog 256 1 0 31:=⟨by kernel_rfl⟩
instance:TPl Tryz.prog 256 [(0,0),(0,1)]:=⟨by kernel_rfl⟩
instance:TInf Tryz.prog 256 (.agg #[.int .u32 (0)]) 1 4:=⟨by kernel_rfl⟩
instance:TAgg Tryz.prog 256:=⟨by kernel_rfl⟩
instance:TFld Tryz.prog 257 0 0 256:=⟨by kernel_rfl⟩
instance:TPl Tryz.prog 257 [(0,1)]:=⟨by kernel_rfl⟩
instance:TInf Tryz.prog 257 (.agg #[.int .u32 (0)]) 1 4:=⟨by kernel_rfl⟩
instance:TAgg Tryz.prog 257:=⟨by kernel_rfl⟩
instance:TFld Tryz.prog 258 0 0 256:=⟨by kernel_rfl⟩
instance:TPl Tryz.prog 258 [(0,1)]:=⟨by kernel_rfl⟩
instance:TInf Tryz.prog 258 (.agg #[.int .u32 (0)]) 1 4:=⟨by kernel_rfl⟩
instance:TAgg Tryz.prog 258:=⟨by kernel_rfl⟩
instance:TSl Tryz.prog 263 35:=⟨by kernel_rfl⟩
instance:TInf Tryz.prog 263 (.slice none 0 0) 1 24:=⟨by kernel_rfl⟩
instance:TOne Tryz.prog 263:=⟨by kernel_rfl⟩
instance:TFld Tryz.prog 264 0 0 3:=⟨by kernel_rfl⟩
instance:TFld Tryz.prog 264 1 1 158:=⟨by kernel_rfl⟩
instance:TFld Tryz.prog 264 2 4 263:=⟨by kernel_rfl⟩
instance:TPl Tryz.prog 264 [(0,1),(1,3),(4,1)]:=⟨by kernel_rfl⟩
instance:TInf Tryz.prog 264 (.agg #[.int .i64 (0),.int .u32 (0),.int .i32 (0),.int .u32 (0),.slice none 0 0]) 5 48:=⟨by kernel_rfl⟩
instance:TAgg Tryz.prog 264:=⟨by kernel_rfl⟩
instance:TFld Tryz.prog 265 0 0 3:=⟨by kernel_rfl⟩
instance:TFld Tryz.prog 265 1 1 158:=⟨by kernel_rfl⟩
instance:TFld Tryz.prog 265 2 4 263:=⟨by kernel_rfl⟩
instance:TPl Tryz.prog 265 [(0,1),(1,3),(4,1)]:=⟨by kernel_rfl⟩
instance:TInf Tryz.prog 265 (.agg #[.int .i64 (0),.int .u32 (0),.int .i32 (0),.int .u32 (0),.slice none 0 0]) 5 48:=⟨by kernel_rfl⟩
instance:TAgg Tryz.prog 265:=⟨by kernel_rfl⟩
instance:TFld Tryz.prog 268 0 0 3:=⟨by kernel_rfl⟩
instance:TFld Tryz.prog 268 1 1 263:=⟨by kernel_rfl⟩
instance:TPl Tryz.prog 268 [(0,1),(1,1)]:=⟨by kernel_rfl⟩
instance:TInf Tryz.prog 268 (.agg #[.int .i64 (0),.slice none 0 0]) 2 32:=⟨by kernel_rfl⟩
instance:TAgg Tryz.prog 268:=⟨by kernel_rfl⟩
instance:TFld Tryz.prog 269 0 0 3:=⟨by kernel_rfl⟩
instance:TFld Tryz.prog 269 1 1 263:=⟨by kernel_rfl⟩
instance:TPl Tryz.prog 269 [(0,1),(1,1)]:=⟨by kernel_rfl⟩
instance:TInf Tryz.prog 269 (.agg #[.int .i64 (0),.slice none 0 0]) 2 32:=⟨by kernel_rfl⟩
instance:TAgg Tryz.prog 269:=⟨by kernel_rfl⟩
instance:TPtr Tryz.prog 270 108:=⟨by kernel_rfl⟩
instance:TInf Tryz.prog 270 (.pointer none) 1 8:=⟨by kernel_rfl⟩
instance:TOne Tryz.prog 270:=⟨by kernel_rfl⟩
instance:TPtr Tryz.prog 272 2:=⟨by kernel_rfl⟩
instance:TInf Tryz.prog 272 (.pointer none) 1 8:=⟨by kernel_rfl⟩
instance:TOne Tryz.prog 272:=⟨by kernel_rfl⟩
instance:TPtr Tryz.prog 277 280:=⟨by kernel_rfl⟩
instance:TInf Tryz.prog 277 (.pointer none) 1 8:=⟨by kernel_rfl⟩
instance:TOne Tryz.prog 277:=⟨by kernel_rfl⟩
instance:TFld Tryz.prog 279 0 0 148:=⟨by kernel_rfl⟩
instance:TFld Tryz.prog 279 1 1 22:=⟨by kernel_rfl⟩
instance:TPl Tryz.prog 279 [(0,1),(1,1)]:=⟨by kernel_rfl⟩
instance:TInf Tryz.prog 279 (.agg #[.pointer none,.slice none 0 0]) 2 32:=⟨by kernel_rfl⟩
instance:TAgg Tryz.prog 279:=⟨by kernel_rfl⟩
instance:TFld Tryz.prog 280 0 0 148:=⟨by kernel_rfl⟩
instance:TFld Tryz.prog 280 1 1 22:=⟨by kernel_rfl⟩
instance:TPl Tryz.prog 280 [(0,1),(1,1)]:=⟨by kernel_rfl⟩
instance:TInf Tryz.prog 280 (.agg #[.pointer none,.slice none 0 0]) 2 32:=⟨by kernel_rfl⟩
instance:TAgg Tryz.prog 280:=⟨by kernel_rfl⟩
instance:TSl Tryz.prog 281 277:=⟨by kernel_rfl⟩
instance:TInf Tryz.prog 281 (.slice none 0 0) 1 24:=⟨by kernel_rfl⟩
instance:TOne Tryz.prog 281:=⟨by kernel_rfl⟩
instance:TFld Tryz.prog 282 0 0 3:=⟨by kernel_rfl⟩
instance:TFld Tryz.prog 282 1 1 3:=⟨by kernel_rfl⟩
instance:TFld Tryz.prog 282 2 2 281:=⟨by kernel_rfl⟩
instance:TFld Tryz.prog 282 3 3 108:=⟨by kernel_rfl⟩
instance:TPl Tryz.prog 282 [(0,1),(1,1),(2,1),(3,1)]:=⟨by kernel_rfl⟩
instance:TInf Tryz.prog 282 (.agg #[.int .i64 (0),.int .i64 (0),.slice none 0 0,.int .i64 (0)]) 4 48:=⟨by kernel_rfl⟩
instance:TAgg Tryz.prog 282:=⟨by kernel_rfl⟩
instance:TFld Tryz.prog 283 0 0 3:=⟨by kernel_rfl⟩
instance:TFld Tryz.prog 283 1 1 3:=⟨by kernel_rfl⟩
instance:TFld Tryz.prog 283 2 2 281:=⟨by kernel_rfl⟩
instance:TFld Tryz.prog 283 3 3 108:=⟨by kernel_rfl⟩
instance:TPl Tryz.prog 283 [(0,1),(1,1),(2,1),(3,1)]:=⟨by kernel_rfl⟩
instance:TInf Tryz.prog 283 (.agg #[.int .i64 (0),.int .i64 (0),.slice none 0 0,.int .i64 (0)]) 4 48:=⟨by kernel_rfl⟩
instance:TAgg Tryz.prog 283:=⟨by kernel_rfl⟩
instance:TPtr Tryz.prog 286 152:=⟨by kernel_rfl⟩
instance:TInf Tryz.prog 286 (.pointer none) 1 8:=⟨by kernel_rfl⟩
instance:TOne Tryz.prog 286:=⟨by kernel_rfl⟩
instance:TPtr Tryz.prog 288 31:=⟨by kernel_rfl⟩
instance:TInf Tryz.prog 288 (.pointer none) 1 8:=⟨by kernel_rfl⟩
instance:TOne Tryz.prog 288:=⟨by kernel_rfl⟩
instance:TPtr Tryz.prog 291 256:=⟨by kernel_rfl⟩
instance:TInf Tryz.prog 291 (.pointer none) 1 8:=⟨by kernel_rfl⟩
instance:TOne Tryz.prog 291:=⟨by kernel_rfl⟩
instance:TPtr Tryz.prog 301 156:=⟨by kernel_rfl⟩
instance:TInf Tryz.prog 301 (.pointer none) 1 8:=⟨by kernel_rfl⟩
instance:TOne Tryz.prog 301:=⟨by kernel_rfl⟩
instance:TInt Tryz.prog 304 .i64:=⟨by kernel_rfl⟩
instance:TInf Tryz.prog 304 (.int .i64 (0)) 1 8:=⟨by kernel_rfl⟩
instance:TOne Tryz.prog 304:=⟨by kernel_rfl⟩
instance:TArr Tryz.prog 312 64 5:=⟨by kernel_rfl⟩
instance:TPl Tryz.prog 312 [(0,1),(1,1),(2,1),(3,1),(4,1),(5,1),(6,1),(7,1),(8,1),(9,1),(10,1),(11,1),(12,1),(13,1),(14,1),(15,1),(16,1),(17,1),(18,1),(19,1),(20,1),(21,1),(22,1),(23,1),(24,1),(25,1),(26,1),(27,1),(28,1),(29,1),(30,1),(31,1),(32,1),(33,1),(34,1),(35,1),(36,1),(37,1),(38,1),(39,1),(40,1),(41,1),(42,1),(43,1),(44,1),(45,1),(46,1),(47,1),(48,1),(49,1),(50,1),(51,1),(52,1),(53,1),(54,1),(55,1),(56,1),(57,1),(58,1),(59,1),(60,1),(61,1),(62,1),(63,1)]:=⟨by kernel_rfl⟩
instance:TInf Tryz.prog 312 (.agg #[.int .u8 (0),.int .u8 (0),.int .u8 (0),.int .u8 (0),.int .u8 (0),.int .u8 (0),.int .u8 (0),.int .u8 (0),.int .u8 (0),.int .u8 (0),.int .u8 (0),.int .u8 (0),.int .u8 (0),.int .u8 (0),.int .u8 (0),.int .u8 (0),.int .u8 (0),.int .u8 (0),.int .u8 (0),.int .u8 (0),.int .u8 (0),.int .u8 (0),.int .u8 (0),.int .u8 (0),.int .u8 (0),.int .u8 (0),.int .u8 (0),.int .u8 (0),.int .u8 (0),.int .u8 (0),.int .u8 (0),.int .u8 (0),.int .u8 (0),.int .u8 (0),.int .u8 (0),.int .u8 (0),.int .u8 (0),.int .u8 (0),.int .u8 (0),.int .u8 (0),.int .u8 (0),.int .u8 (0),.int .u8 (0),.int .u8 (0),.int .u8 (0),.int .u8 (0),.int .u8 (0),.int .u8 (0),.int .u8 (0),.int .u8 (0),.int .u8 (0),.int .u8 (0),.int .u8 (0),.int .u8 (0),.int .u8 (0),.int .u8 (0),.int .u8 (0),.int .u8 (0),.int .u8 (0),.int .u8 (0),.int .u8 (0),.int .u8 (0),.int .u8 (0),.int .u8 (0)]) 64 64:=⟨by kernel_rfl⟩
instance:TAgg Tryz.prog 312:=⟨by kernel_rfl⟩
instance:TPtr Tryz.prog 313 154:=⟨by kernel_rfl⟩
instance:TInf Tryz.prog 313 (.pointer none) 1 8:=⟨by kernel_rfl⟩
instance:TOne Tryz.prog 313:=⟨by kernel_rfl⟩
instance:TPtr Tryz.prog 315 21:=⟨by kernel_rfl⟩
instance:TInf Tryz.prog 315 (.pointer none) 1 8:=⟨by kernel_rfl⟩
instance:TOne Tryz.prog 315:=⟨by kernel_rfl⟩
instance:TInt Tryz.prog 319 .u64:=⟨by kernel_rfl⟩
instance:TInf Tryz.prog 319 (.int .u64 (0)) 1 8:=⟨by kernel_rfl⟩
instance:TOne Tryz.prog 319:=⟨by kernel_rfl⟩
instance:TPtr Tryz.prog 323 3:=⟨by kernel_rfl⟩
instance:TInf Tryz.prog 323 (.pointer none) 1 8:=⟨by kernel_rfl⟩
instance:TOne Tryz.prog 323:=⟨by kernel_rfl⟩
instance:TPtr Tryz.prog 327 319:=⟨by kernel_rfl⟩
instance:TInf Tryz.prog 327 (.pointer none) 1 8:=⟨by kernel_rfl⟩
instance:TOne Tryz.prog 327:=⟨by kernel_rfl⟩
instance:TFld Tryz.prog 331 0 0 17:=⟨by kernel_rfl⟩
instance:TFld Tryz.prog 331 1 1 17:=⟨by kernel_rfl⟩
instance:TFld Tryz.prog 331 2 2 17:=⟨by kernel_rfl⟩
instance:TFld Tryz.prog 331 3 3 9:=⟨by kernel_rfl⟩
instance:TPl Tryz.prog 331 [(0,1),(1,1),(2,1),(3,1)]:=⟨by kernel_rfl⟩
instance:TInf Tryz.prog 331 (.agg #[.pointer none,.pointer none,.pointer none,.string .empty]) 4 40:=⟨by kernel_rfl⟩
instance:TAgg Tryz.prog 331:=⟨by kernel_rfl⟩
instance:TPl Tryz.prog 334 [(0,0)]:=⟨by kernel_rfl⟩
instance:TInf Tryz.prog 334 (.agg #[]) 0 0:=⟨by kernel_rfl⟩
instance:TAgg Tryz.prog 334:=⟨by kernel_rfl⟩
instance:TPtr Tryz.prog 339 5:=⟨by kernel_rfl⟩
instance:TInf Tryz.prog 339 (.pointer none) 1 8:=⟨by kernel_rfl⟩
instance:TOne Tryz.prog 339:=⟨by kernel_rfl⟩
instance:TFld Tryz.prog 342 0 0 12:=⟨by kernel_rfl⟩
instance:TFld Tryz.prog 342 1 1 12:=⟨by kernel_rfl⟩
instance:TFld Tryz.prog 342 2 2 31:=⟨by kernel_rfl⟩
instance:TFld Tryz.prog 342 3 3 336:=⟨by kernel_rfl⟩
instance:TFld Tryz.prog 342 4 4 5:=⟨by kernel_rfl⟩
instance:TFld Tryz.prog 342 5 5 5:=⟨by kernel_rfl⟩
instance:TFld Tryz.prog 342 6 6 337:=⟨by kernel_rfl⟩
instance:TFld Tryz.prog 342 7 7 338:=⟨by kernel_rfl⟩
instance:TFld Tryz.prog 342 8 8 339:=⟨by kernel_rfl⟩
instance:TFld Tryz.prog 342 9 9 340:=⟨by kernel_rfl⟩
instance:TFld Tryz.prog 342 10 10 341:=⟨by kernel_rfl⟩
instance:TPl Tryz.prog 342 [(0,1),(1,1),(2,1),(3,1),(4,1),(5,1),(6,1),(7,1),(8,1),(9,1),(10,1)]:=⟨by kernel_rfl⟩
instance:TInf Tryz.prog 342 (.agg #[.int .u64 (0),.int .u64 (0),.int .u32 (0),.int .u8 (0),.int .u8 (0),.int .u8 (0),.int .u8 (0),.nilFunc,.pointer none,.int .i32 (0),.int .i32 (0)]) 11 48:=⟨by kernel_rfl⟩
instance:TAgg Tryz.prog 342:=⟨by kernel_rfl⟩
theorem mixed:Tryz.prog.follows .mixedOrders=true:=by kernel_rfl
open Go.RowKit Go.Proofs
def mayP (k p z:Int):Bool:=decide (1≤k∧k≤64∧0≤p∧p≤16∧1≤z∧z≤16)
theorem spread_May (H:List Hl) (s k p z:Int):Spec Tryz.prog 106 [.agg #[.int .u32 s,.int .i64 k,.int .i64 p,.int .i64 z]] H (fun _:Unit=>True) (fun _ => .bool (mayP k p z)) (fun _=>H):=by
 refine spec_pure (res:=fun _=>[]) H Tryz.func106 rfl Tryz.ntmps106 (by kernel_rfl) rfl (fun W=>?_)
 repeat' (first|intro _|refine cw ?_|refine cw2 ?_ ?_|refine ow ?_|refine ow2 ?_ ?_|fail)
 all_goals (refine rt_tmp () rfl rfl ?_ trivial (.cons (.there .here) .nil);simp only [mayP];congr 1;simp;omega)
structure SlotD where
 v:BitVec 32
 n:Int
 h:SlD (BitVec 8)
structure ManD where
 s:BitVec 32
 v:BitVec 32
 n:Int
 z:Int
 p:Int
 h:SlD (BitVec 8)
structure StD where
 a:Int
 t:Int
 f:BitVec 32
 g:BitVec 32
 s0:SlotD
 s1:SlotD
 on:Bool
 m:ManD
abbrev SlotD.c (x:SlotD):List Value:=[W4 x.v,I x.n,Bs x.h]
abbrev ManD.c (x:ManD):List Value:=[W4 x.s,W4 x.v,I x.n,I x.z,I x.p,Bs x.h]
abbrev StD.c (x:StD):List Value:=[I x.a,I x.t,W4 x.f,W4 x.g,W4 x.s0.v,I x.s0.n,Bs x.s0.h,W4 x.s1.v,I x.s1.n,Bs x.s1.h,.bool x.on,W4 x.m.s,W4 x.m.v,I x.m.n,I x.m.z,I x.m.p,Bs x.m.h]
abbrev SlotD.V (x:SlotD):Value := .agg x.c.toArray
abbrev ManD.V (x:ManD):Value := .agg x.c.toArray
abbrev StD.V (x:StD):Value := .agg x.c.toArray
def SlotD.something (x:SlotD):Bool:=decide (x.h.l.length=32∧1≤x.n∧x.n≤512)
def SlotD.nothing (x:SlotD):Bool:=decide (x.v.toNat=0∧x.n=0∧x.h.l.length=0)
def ManD.none (x:ManD):Bool:=decide (x.s.toNat=0∧x.v.toNat=0∧x.n=0∧x.z=0∧x.p=0∧x.h.l.length=0)
def count (l s:Int):Int:=if l<1∨512<l∨s<1∨16<s then 0 else if 64<(l+s - 1) / s then 0 else (l+s - 1) / s
theorem block_Count (H:List Hl) (l s:Int):Spec Tryz.prog 105 [I l,I s] H (fun _:Unit=>True) (fun _=>I (count l s)) (fun _=>H):=by
 refine spec_pure (res:=fun _=>[]) H Tryz.func105 rfl Tryz.ntmps105 (by kernel_rfl) rfl (fun W=>?_)
 repeat' (first|intro _|refine cw ?_|refine cw2 ?_ ?_|(refine k_binOp .quo ?_;refine o1_quo rfl rfl (by omega) ?_)|refine ow ?_|refine ow2 ?_ ?_|fail)
 all_goals
  refine rt_tmp () rfl rfl ?_ trivial ?_
 all_goals first
  | (exact ent;done)
  | skip
 all_goals
  unfold count
  split <;> first|rfl|omega|(split <;> first|rfl|omega)
def ManD.may (x:ManD):Bool:=mayP (count x.n x.z) x.p x.z && decide (x.h.l.length=32)
def StD.cur (x:StD):SlotD:=if x.a=0 then x.s0 else x.s1
def StD.oth (x:StD):SlotD:=if x.a=0 then x.s1 else x.s0
def StD.may (x:StD):Bool:=decide ((x.a=0∨x.a=1)∧0≤x.t∧x.t≤3) && x.cur.something && (x.oth.something || x.oth.nothing && decide (x.t≤0)) && (if x.on then x.m.may else x.m.none)
theorem st_something (H:List Hl) (x:SlotD):Spec Tryz.prog 148 [x.V] H (fun _:Unit=>True) (fun _ => .bool x.something) (fun _=>H):=by
 refine spec_pure (res:=fun _=>[]) H Tryz.func148 rfl Tryz.ntmps148 (by kernel_rfl) rfl (fun W=>?_)
 repeat' (first|intro _|refine cw ?_|refine cw2 ?_ ?_|refine ow ?_|refine ow2 ?_ ?_|fail)
 all_goals (refine rt_tmp () rfl rfl ?_ trivial (.cons (.there .here) .nil);simp only [SlotD.something];congr 1;simp;omega)
theorem st_nothing (H:List Hl) (x:SlotD):Spec Tryz.prog 113 [x.V] H (fun _:Unit=>True) (fun _ => .bool x.nothing) (fun _=>H):=by
 refine spec_pure (res:=fun _=>[]) H Tryz.func113 rfl Tryz.ntmps113 (by kernel_rfl) rfl (fun W=>?_)
 repeat' (first|intro _|refine cw ?_|refine cw2 ?_ ?_|refine ow ?_|refine ow2 ?_ ?_|fail)
 all_goals (refine rt_tmp () rfl rfl ?_ trivial (.cons (.there .here) .nil);simp only [SlotD.nothing];congr 1;simp only [eq_comm (a:=true),eq_comm (a:=false),decide_eq_true_eq,decide_eq_false_iff_not];omega)
theorem st_none (H:List Hl) (x:ManD):Spec Tryz.prog 149 [x.V] H (fun _:Unit=>True) (fun _ => .bool x.none) (fun _=>H):=by
 refine spec_pure (res:=fun _=>[]) H Tryz.func149 rfl Tryz.ntmps149 (by kernel_rfl) rfl (fun W=>?_)
 repeat' (first|intro _|refine cw ?_|refine cw2 ?_ ?_|refine ow ?_|refine ow2 ?_ ?_|fail)
 all_goals (refine rt_tmp () rfl rfl ?_ trivial (.cons (.there .here) .nil);simp only [ManD.none];congr 1;simp only [eq_comm (a:=true),eq_comm (a:=false),decide_eq_true_eq,decide_eq_false_iff_not];omega)
def rtE2_0:List Row:=[⟨some 5,[],[],none⟩,⟨some 6,[0],[0],none⟩,⟨some 7,[],[],none⟩,⟨some 8,[2],[2],none⟩,⟨some 9,[],[],none⟩,⟨some 10,[4],[4],none⟩,⟨some 11,[3,5],[2,3,4,5],none⟩,⟨some 12,[],[],none⟩,⟨some 13,[7],[7],none⟩,⟨some 14,[],[],none⟩,⟨some 15,[9],[9],none⟩,⟨some 16,[1,6,8,10],[0,1,2,3,4,5,6,7,8,9,10],none⟩,⟨some 4,[],[],none⟩,⟨none,[12,11,6,0,1,2,3,4,5,6,7,8,9,10,11,12],[0,1,2,3,4,5,6,7,8,9,10,11,12],none⟩]
def ManD.parL (x:ManD):List Value:=if mayP (count x.n x.z) x.p x.z then [W4 x.s,I (count x.n x.z),I x.p,I x.z] else [W4 0#32,I 0,I 0,I 0]
theorem code_Of (H:List Hl) (x:ManD):Spec Tryz.prog 58 [x.V] H (fun _:Unit=>True) (fun _ => .tuple #[.agg x.parL.toArray,.bool (mayP (count x.n x.z) x.p x.z)]) (fun _=>H):=by
 refine spec_pure (res:=fun _=>[]) H Tryz.func58 rfl Tryz.ntmps58 (by kernel_rfl) rfl (fun W=>?_)
 repeat' (first|intro _|refine cw ?_|refine cw2 ?_ ?_|refine ow ?_|refine ow2 ?_ ?_|fail)
 refine st_stages' [(1,_)] rtE2_0 [12,13] [⟨[0,1,2,3,4,5,6,7,8,9,10,11],[],some 12⟩,⟨[],[0,1,2,3,4,5,6,7,8,9,10,11],some 13⟩,⟨[],[],none⟩] mixed cv (by kernel_rfl) (by kernel_rfl) ?_
 repeat' (first|intro _|refine sg ?_|(refine p_fn 105 ?_;refine po (by first|refine o1_call (fun _=>block_Count _ _ _) rfl (fun _ _=>fz)|fail) ?_)|refine pw ?_|refine pdd ?_|refine ow ?_|fail)
 all_goals dsimp only [List.cons_append,List.nil_append]
 cases hm:mayP (count x.n x.z) x.p x.z
 ·have hp:x.parL=[W4 0#32,I 0,I 0,I 0]:=by rw [ManD.parL,hm];rfl
  rw [hp]
  repeat' (first|intro _|refine cw ?_|refine cw2 ?_ ?_|(refine k_fn 106 ?_;refine o1_call (fun _=>(spread_May _ _ _ _ _).bv hm) rfl (fun _ _=>?_))|refine ow ?_|refine ow2 ?_ ?_|fail)
  refine rt_cell_tmp () rfl rfl rfl rfl rfl trivial ?_
  exact ent
 ·have hp:x.parL=[W4 x.s,I (count x.n x.z),I x.p,I x.z]:=by rw [ManD.parL,hm];rfl
  rw [hp]
  repeat' (first|intro _|refine cw ?_|refine cw2 ?_ ?_|(refine k_fn 106 ?_;refine o1_call (fun _=>(spread_May _ _ _ _ _).bv hm) rfl (fun _ _=>?_))|refine ow ?_|refine ow2 ?_ ?_|fail)
  refine rt_cell_tmp () rfl rfl rfl rfl rfl trivial ?_
  exact ent
theorem mf_May (H:List Hl) (x:ManD):Spec Tryz.prog 57 [x.V] H (fun _:Unit=>True) (fun _ => .bool x.may) (fun _=>H):=by
 refine spec_pure (res:=fun _=>[]) H Tryz.func57 rfl Tryz.ntmps57 (by kernel_rfl) rfl (fun W=>?_)
 have hpl:∃ p0 p1 p2 p3,x.parL=[p0,p1,p2,p3]∧(∀ v∈[p0,p1,p2,p3],v.oneCell'=true):=by
  unfold ManD.parL
  split
  ·exact ⟨_,_,_,_,rfl,by simp [Value.oneCell']⟩
  ·exact ⟨_,_,_,_,rfl,by simp [Value.oneCell']⟩
 obtain ⟨p0,p1,p2,p3,hp,hp1⟩:=hpl
 cases hm:mayP (count x.n x.z) x.p x.z
 all_goals
  repeat' (first|intro _|refine cw ?_|refine cw2 ?_ ?_|(refine k_fn 58 ?_;(refine o1_call (fun _=>code_Of _ x) rfl (fun _ _=>?_);rw [hp,hm]))|(refine k_store ?_;refine ox_store_agg rfl rfl rfl (by simp) hp1 (by simp only [putL,List.set_cons_zero,List.set_cons_succ,Nat.zero_add,Nat.reduceAdd];rfl) ?_)|refine ow ?_|refine ow2 ?_ ?_|fail)
 all_goals (refine rt_tmp () rfl rfl ?_ trivial ?_;· simp only [ManD.may,hm];refine congrArg Value.bool ?_;first|(simp;done)|(simp;omega))
 all_goals exact ent
set_option maxHeartbeats 4000000 in
theorem st_May (H:List Hl) (x:StD):Spec Tryz.prog 97 [x.V] H (fun _:Unit=>True) (fun _ => .bool x.may) (fun _=>H):=by
 obtain ⟨a,t,f,g,s0,s1,on,m⟩:=x
 refine spec_pure (res:=fun _=>[]) H Tryz.func97 rfl Tryz.ntmps97 (by kernel_rfl) rfl (fun W=>?_)
 dsimp only [StD.V,StD.c]
 by_cases h01:a=0∨a=1
 ·rcases h01 with rfl|rfl
  all_goals
   repeat' (first|intro _|refine cw ?_|refine cw2 ?_ ?_|(refine k_indexAddr ?_;first|refine ox_idx_arr 0 4 rfl rfl rfl (by decide) rfl ?_|refine ox_idx_arr 1 7 rfl rfl rfl (by decide) rfl ?_)|(refine k_fn 148 ?_;first|(refine o1_call (fun _=>st_something _ s0) rfl (fun _ _=>?_);cases h1:s0.something)|(refine o1_call (fun _=>st_something _ s1) rfl (fun _ _=>?_);cases h2:s1.something))|(refine k_fn 113 ?_;first|(refine o1_call (fun _=>st_nothing _ s0) rfl (fun _ _=>?_);cases h3:s0.nothing)|(refine o1_call (fun _=>st_nothing _ s1) rfl (fun _ _=>?_);cases h4:s1.nothing))|(refine k_fn 57 ?_;refine o1_call (fun _=>mf_May _ m) rfl (fun _ _=>?_))|(refine k_fn 149 ?_;refine o1_call (fun _=>st_none _ m) rfl (fun _ _=>?_))|refine ow ?_|refine ow2 ?_ ?_|fail)
  all_goals (refine rt_tmp () rfl rfl ?_ trivial ?_;· simp_all [StD.may,StD.cur,StD.oth];try omega)
  all_goals exact ent
 ·repeat' (first|intro _|refine cw ?_|refine cw2 ?_ ?_|refine ow ?_|refine ow2 ?_ ?_|fail)
  all_goals (refine rt_tmp () rfl rfl ?_ trivial ?_;· simp only [StD.may];refine congrArg Value.bool ?_;simp;omega)
  all_goals exact ent
theorem slices_Equal (H:List Hl) (ad ad':Option Addr) (c c':Nat) (l m:List (BitVec 8)) (h1:Rs (stars H) B ad c l) (h2:Rs (stars H) B ad' c' m) :
  Spec Tryz.prog 66 [.slice ad l.length c,.slice ad' m.length c'] H (fun _:Unit=>True) (fun _ => .bool (decide (l=m))) (fun _=>H):=by
 have b1:=h1.le
 have b2:=h1.big
 refine spec_pure (res:=fun _=>[]) H Tryz.func66 rfl Tryz.ntmps66 (by kernel_rfl) rfl (fun W=>?_)
 repeat' (first|intro _|refine cw ?_|refine cw2 ?_ ?_|refine ow ?_|refine ow2 ?_ ?_|fail)
 ·rename_i hlen
  refine rt_tmp () rfl rfl ?_ trivial (Ent.refl _)
  simp;intro e;subst e;omega
 rename_i hlen
 have hlen:l.length=m.length:=by omega
 refine st_loop (S:=Nat) (fun i=>[(0,.slice ad l.length c),(1,.slice ad' m.length c'),(12,.int .i64 l.length),(13,.int .i64 i)]) (fun _=>[.any (stars H)]) (fun i=>i≤l.length∧l.take i=m.take i) (fun i=>l.length - i) 0 ⟨by omega,by simp⟩
  cv (Ent.refl _) ?_
 rintro i ⟨hi,hpre⟩
 repeat' (first|intro _|refine cw ?_|refine cw2 ?_ ?_|refine ow ?_|refine ow2 ?_ ?_|fail)
 ·rename_i hlt
  have hlt:i<l.length:=by omega
  apply st_draw [(0,_),(5,_),(1,_)] [.c _,.c _,.p (fun v=>∃ a,v = .pointer (some a)∧Cl (stars H) a (B l[i])) (fun _=>[]),.c _,.c _,.c _,.p (fun v=>∃ a,v = .pointer (some a)∧Cl (stars H) a (B m[i])) (fun _=>[]),.c _,.c _] [⟨some 16,[],[],none⟩,⟨some 17,[],[],none⟩,⟨some 18,[0,1],[0,1],none⟩,⟨some 19,[2],[0,1,2],none⟩,⟨some 20,[],[],none⟩,⟨some 21,[],[],none⟩,⟨some 22,[4,5],[4,5],none⟩,⟨some 23,[6],[4,5,6],none⟩,⟨some 24,[3,7],[0,1,2,3,4,5,6,7],none⟩] mixed (cov_cons rfl rfl (cov_cons rfl rfl (cov_cons rfl rfl cov_nil))) (by kernel_rfl) (by kernel_rfl) (by kernel_rfl) (obl_cons ?d6_o0 (obl_cons ?d6_o1 (obl_cons ?d6_o2 (obl_cons ?d6_o3 (obl_cons ?d6_o4 (obl_cons ?d6_o5 (obl_cons ?d6_o6 (obl_cons ?d6_o7 (obl_cons ?d6_o8 obl_nil))))))))) ?d6_nx
  case d6_o0=>refine obl_run rfl (gd_none rfl) (fun _=>?_);refine allv_nil ?_;dsimp only [List.cons_append,List.nil_append,List.singleton_append,List.append_nil,blk];(first|refine o1_move rfl ?_);all_goals (exact ⟨rfl,fun _ h=>h⟩)
  case d6_o1=>refine obl_run rfl (gd_none rfl) (fun _=>?_);refine allv_nil ?_;dsimp only [List.cons_append,List.nil_append,List.singleton_append,List.append_nil,blk];(first|refine o1_move rfl ?_);all_goals (exact ⟨rfl,fun _ h=>h⟩)
  case d6_o2=>refine obl_run rfl (gd_none rfl) (fun _=>?_);refine allv_c rfl rfl ?_;refine allv_c rfl rfl ?_;refine allv_nil ?_;dsimp only [List.cons_append,List.nil_append,List.singleton_append,List.append_nil,blk];(refine o1_indexAddr_rd rfl rfl h1 i rfl hlt (fun a ha=>⟨⟨a,rfl,ha⟩,fun _ h=>h⟩));all_goals (first|exact ⟨⟨rfl⟩,fun _ h=>h⟩|exact ⟨⟨_,rfl⟩,fun _ h=>h⟩|exact ⟨⟨_,_,rfl⟩,fun _ h=>h⟩|exact ⟨⟨_,_,_,rfl⟩,fun _ h=>h⟩)
  case d6_o3=>refine obl_run rfl (gd_none rfl) (fun _=>?_);refine allv_c rfl rfl ?_;refine allv_c rfl rfl ?_;refine allv_p rfl rfl ?_;rintro _ ⟨_,rfl,_⟩;refine allv_nil ?_;dsimp only [List.cons_append,List.nil_append,List.singleton_append,List.append_nil,blk];(first|refine ox_load rfl (by rfl) ?_|refine ox_load_enc rfl (by first|omega|(simp;omega)) ?_|refine ox_load_any rfl (by assumption) ?_);all_goals (exact ⟨rfl,fun _ h=>h⟩)
  case d6_o4=>refine obl_run rfl (gd_none rfl) (fun _=>?_);refine allv_nil ?_;dsimp only [List.cons_append,List.nil_append,List.singleton_append,List.append_nil,blk];(first|refine o1_move rfl ?_);all_goals (exact ⟨rfl,fun _ h=>h⟩)
  case d6_o5=>refine obl_run rfl (gd_none rfl) (fun _=>?_);refine allv_nil ?_;dsimp only [List.cons_append,List.nil_append,List.singleton_append,List.append_nil,blk];(first|refine o1_move rfl ?_);all_goals (exact ⟨rfl,fun _ h=>h⟩)
  case d6_o6=>refine obl_run rfl (gd_none rfl) (fun _=>?_);refine allv_c rfl rfl ?_;refine allv_c rfl rfl ?_;refine allv_nil ?_;dsimp only [List.cons_append,List.nil_append,List.singleton_append,List.append_nil,blk];(refine o1_indexAddr_rd rfl rfl h2 i rfl (by omega) (fun a ha=>⟨⟨a,rfl,ha⟩,fun _ h=>h⟩));all_goals (first|exact ⟨⟨rfl⟩,fun _ h=>h⟩|exact ⟨⟨_,rfl⟩,fun _ h=>h⟩|exact ⟨⟨_,_,rfl⟩,fun _ h=>h⟩|exact ⟨⟨_,_,_,rfl⟩,fun _ h=>h⟩)
  case d6_o7=>refine obl_run rfl (gd_none rfl) (fun _=>?_);refine allv_c rfl rfl ?_;refine allv_c rfl rfl ?_;refine allv_p rfl rfl ?_;rintro _ ⟨_,rfl,_⟩;refine allv_nil ?_;dsimp only [List.cons_append,List.nil_append,List.singleton_append,List.append_nil,blk];(first|refine ox_load rfl (by rfl) ?_|refine ox_load_enc rfl (by first|omega|(simp;omega)) ?_|refine ox_load_any rfl (by assumption) ?_);all_goals (exact ⟨rfl,fun _ h=>h⟩)
  case d6_o8=>refine obl_run rfl (gd_none rfl) (fun _=>?_);refine allv_c rfl rfl ?_;refine allv_c rfl rfl ?_;refine allv_p rfl rfl ?_;rintro _ ⟨_,rfl,_⟩;refine allv_c rfl rfl ?_;refine allv_c rfl rfl ?_;refine allv_c rfl rfl ?_;refine allv_p rfl rfl ?_;rintro _ ⟨_,rfl,_⟩;refine allv_c rfl rfl ?_;refine allv_nil ?_;dsimp only [List.cons_append,List.nil_append,List.singleton_append,List.append_nil,blk];(first|refine o1_neq_t rfl rfl (by omega) ?_|refine o1_neq_f rfl rfl (by omega) ?_|refine o1_neq_d rfl rfl ?_);all_goals (exact ⟨rfl,fun _ h=>h⟩)
  case d6_nx =>
   refine allv_c rfl rfl ?_;refine allv_c rfl rfl ?_;refine allv_p rfl rfl ?_;rintro _ ⟨_,rfl,_⟩;refine allv_c rfl rfl ?_;refine allv_c rfl rfl ?_;refine allv_c rfl rfl ?_;refine allv_p rfl rfl ?_;rintro _ ⟨_,rfl,_⟩;refine allv_c rfl rfl ?_;refine allv_c rfl rfl ?_;refine allv_nil ?_;dsimp only [List.cons_append,List.nil_append,List.singleton_append,List.append_nil,blk]
   repeat' (first|intro _|refine cw ?_|refine cw2 ?_ ?_|refine ow ?_|refine ow2 ?_ ?_|fail)
   ·rename_i hne
    refine rt_tmp () rfl rfl ?_ trivial (Ent.refl _)
    simp at hne ⊢
    rintro rfl
    exact hne rfl
   ·rename_i heq
    simp at heq
    refine nx_again (i+1) ⟨by omega,?_⟩ (by omega) cv (Ent.refl _)
    rw [List.take_succ_eq_append_getElem hlt,List.take_succ_eq_append_getElem (by omega:i<m.length),hpre,BitVec.eq_of_toNat_eq (by omega:l[i].toNat=m[i].toNat)]
 ·refine rt_tmp () rfl rfl ?_ trivial (Ent.refl _)
  have:i=l.length:=by omega
  subst this
  rw [List.take_length,List.take_of_length_le (by omega)] at hpre
  simp [hpre]
theorem slices_Clone (H:List Hl) (ad:Option Addr) (c:Nat) (l:List (BitVec 8)) (h:Rs (stars H) B ad c l) (hb:l.length≤140737488355328) :
  Spec Tryz.prog 29 [.slice ad l.length c] H (fun _:Option Addr × Nat=>True) (fun r:Option Addr × Nat => .slice r.1 l.length r.2)
   (fun r:Option Addr × Nat => .row 5 1 (.slice r.1 l.length r.2) l.length (l.map B)::H):=by
 refine spec_pure (res:=fun r:Option Addr × Nat=>[.row 5 1 (.slice r.1 l.length r.2) l.length (l.map B)]) H Tryz.func29 rfl Tryz.ntmps29 (by kernel_rfl) rfl (fun W=>?_)
 cases ad with
 | none =>
  have hl:l=[]:=by
   cases l with
   | nil=>rfl
   | cons a l=>obtain ⟨x,hx⟩:=h.sm (by simp);cases hx
  subst hl
  repeat' (first|intro _|refine cw ?_|refine cw2 ?_ ?_|refine ow ?_|refine ow2 ?_ ?_|fail)
  refine (rt_ent (ent_nil 5 B) ?_)
  refine rt_tmp (none,0) rfl rfl rfl trivial ?_
  exact ent
 | some a =>
  repeat' (first|intro _|refine cw ?_|refine cw2 ?_ ?_|(refine k_call ?_;refine ox_append_box (xs:=([]:List (BitVec 8))) rfl rfl rfl rfl (rx_any h) rfl rfl (fun _=>rfl) (by omega) (by have:=h.le;have:=h.big;omega) (fun _ _=>?_))|refine ow ?_|refine ow2 ?_ ?_|fail)
  refine rt_tmp (_,_) rfl rfl (by simp only [Nat.zero_add];rfl) trivial ?_
  simp only [Nat.zero_add,List.nil_append]
  exact ent
def StD.newer (x:StD) (v:BitVec 32):Bool:=x.may && (decide (x.f.toNat<v.toNat) && (decide (x.cur.v.toNat<v.toNat) && (!x.on || decide (x.m.v.toNat<v.toNat))))
theorem StD.may_a {x:StD} (h:x.may=true):x.a=0∨x.a=1:=by
 simp only [StD.may,Bool.and_eq_true,decide_eq_true_eq] at h
 exact h.1.1.1.1
def StD.light (x:StD):Prop:=x.s0.h.l.length≤100∧x.s1.h.l.length≤100∧x.m.h.l.length≤100
def ManD.same (x y:ManD):Bool:=decide ((x.s.toNat:Int)=(y.s.toNat:Int)) && (decide ((x.v.toNat:Int)=(y.v.toNat:Int)) && (decide (x.n=y.n) && (decide (x.z=y.z) && (decide (x.p=y.p) && decide (x.h.l=y.h.l)))))
theorem mf_Same (H:List Hl) (x y:ManD) (hx:Rs (stars H) B x.h.ad x.h.cap x.h.l) (hy:Rs (stars H) B y.h.ad y.h.cap y.h.l):Spec Tryz.prog 117 [x.V,y.V] H (fun _:Unit=>True) (fun _ => .bool (x.same y)) (fun _=>H):=by
 refine spec_pure (res:=fun _=>[]) H Tryz.func117 rfl Tryz.ntmps117 (by kernel_rfl) rfl (fun W=>?_)
 repeat' (first|intro _|refine cw ?_|refine cw2 ?_ ?_|(refine k_fn 66 ?_;refine o1_call (fun _=>slices_Equal _ _ _ _ _ x.h.l y.h.l hx.up hy.up) rfl (fun _ _=>?_))|refine ow ?_|refine ow2 ?_ ?_|fail)
 all_goals (refine rt_tmp () rfl rfl ?_ trivial ?_;· simp only [ManD.same, *];first|rfl|simp|(simp;done))
 all_goals exact ent
def zS:StD:=⟨0,0,0#32,0#32,⟨0#32,0,⟨none,0,[]⟩⟩,⟨0#32,0,⟨none,0,[]⟩⟩,false,⟨0#32,0#32,0,0,0,⟨none,0,[]⟩⟩⟩
theorem rs00 {H:List Hl}:RsH H B none 0 ([]:List (BitVec 8)):=rs_nil (by decide)
abbrev PA:=Option Addr × Nat
theorem StD.heavy {x:StD} (h : ¬ x.light):x.may=false:=by
 cases hm:x.may
 ·rfl
 ·exfalso
  apply h
  simp only [StD.may,Bool.and_eq_true,Bool.or_eq_true,decide_eq_true_eq] at hm
  obtain ⟨⟨⟨⟨ha,_⟩,h1⟩,h2⟩,h3⟩:=hm
  have h3':x.m.h.l.length≤32:=by
   split at h3
   ·simp only [ManD.may,Bool.and_eq_true,decide_eq_true_eq] at h3;omega
   ·simp only [ManD.none,decide_eq_true_eq] at h3;omega
  have k1:∀ y:SlotD,y.something=true→y.h.l.length≤100:=fun y hy=>by simp only [SlotD.something,decide_eq_true_eq] at hy;omega
  have k2:∀ y:SlotD,y.nothing=true→y.h.l.length≤100:=fun y hy=>by simp only [SlotD.nothing,decide_eq_true_eq] at hy;omega
  have h4:=k1 _ h1
  have h5:x.oth.h.l.length≤100:=by
   rcases h2 with h2|h2
   ·exact k1 _ h2
   ·exact k2 _ h2.1
  rcases ha with ha|ha
  ·rw [show x.cur=x.s0 from if_pos ha] at h4
   rw [show x.oth=x.s1 from if_pos ha] at h5
   exact ⟨h4,h5,by omega⟩
  ·rw [show x.cur=x.s1 from if_neg (by omega)] at h4
   rw [show x.oth=x.s0 from if_neg (by omega)] at h5
   exact ⟨h5,h4,by omega⟩
def zM:ManD:=⟨0#32,0#32,0,0,0,⟨none,0,[]⟩⟩
def StD.off (x:StD):StD:=⟨x.a,x.t,x.f,x.g,x.s0,x.s1,false,zM⟩
structure Hid where
 left:Int
 steps:Int
 fused:Bool
abbrev nI (k:Nat):Value:=I (k:Int)
def Pw.isDown:Pw→Bool
 | .down _=>true
 | _=>false
def flC (ad:Option Addr) (c:Nat) (f:Fl) (h:Hid):List Value:=Value.slice ad 3584 c::(f.er.map nI++[I f.wear,.bool f.pw.isDown,.bool h.fused,I h.left,I f.torn,I h.steps])
structure FlOk (f:Fl) (h:Hid):Prop where
 er:f.er.length=14
 bs:f.bs.length=3584
 wr:f.wear≤10000
 ers:∀ x∈f.er,x≤1000000
 pw:match f.pw with
  | .on=>h.fused=false
  | .fuse n=>h.fused=true∧h.left=n∧n≤1000000
  | .down none=>h.fused=true→h.left<0
  | .down (some n)=>h.fused=true∧h.left=n∧n≤1000000
theorem flC_len {ad:Option Addr} {c:Nat} {f:Fl} {h:Hid} (hE:f.er.length=14):(flC ad c f h).length=21:=by simp [flC,hE]
theorem flC_slice {ad:Option Addr} {c:Nat} {f:Fl} {h:Hid}:(flC ad c f h)[0]?=some (.slice ad 3584 c):=rfl
theorem flC_wear {ad:Option Addr} {c:Nat} {f:Fl} {h:Hid} (hE:f.er.length=14):(flC ad c f h)[15]?=some (I f.wear):=by
 obtain ⟨bs,er,wear,pw,torn⟩:=f
 match er,hE with
 | [a0,a1,a2,a3,a4,a5,a6,a7,a8,a9,a10,a11,a12,a13],_=>rfl
theorem flC_down {ad:Option Addr} {c:Nat} {f:Fl} {h:Hid} (hE:f.er.length=14):(flC ad c f h)[16]?=some (.bool f.pw.isDown):=by
 obtain ⟨bs,er,wear,pw,torn⟩:=f
 match er,hE with
 | [a0,a1,a2,a3,a4,a5,a6,a7,a8,a9,a10,a11,a12,a13],_=>rfl
theorem flC_fused {ad:Option Addr} {c:Nat} {f:Fl} {h:Hid} (hE:f.er.length=14):(flC ad c f h)[17]?=some (.bool h.fused):=by
 obtain ⟨bs,er,wear,pw,torn⟩:=f
 match er,hE with
 | [a0,a1,a2,a3,a4,a5,a6,a7,a8,a9,a10,a11,a12,a13],_=>rfl
theorem flC_left {ad:Option Addr} {c:Nat} {f:Fl} {h:Hid} (hE:f.er.length=14):(flC ad c f h)[18]?=some (I h.left):=by
 obtain ⟨bs,er,wear,pw,torn⟩:=f
 match er,hE with
 | [a0,a1,a2,a3,a4,a5,a6,a7,a8,a9,a10,a11,a12,a13],_=>rfl
theorem flC_torn {ad:Option Addr} {c:Nat} {f:Fl} {h:Hid} (hE:f.er.length=14):(flC ad c f h)[19]?=some (I f.torn):=by
 obtain ⟨bs,er,wear,pw,torn⟩:=f
 match er,hE with
 | [a0,a1,a2,a3,a4,a5,a6,a7,a8,a9,a10,a11,a12,a13],_=>rfl
theorem flC_steps {ad:Option Addr} {c:Nat} {f:Fl} {h:Hid} (hE:f.er.length=14):(flC ad c f h)[20]?=some (I h.steps):=by
 obtain ⟨bs,er,wear,pw,torn⟩:=f
 match er,hE with
 | [a0,a1,a2,a3,a4,a5,a6,a7,a8,a9,a10,a11,a12,a13],_=>rfl
theorem flC_setdown {ad:Option Addr} {c:Nat} {f:Fl} {h:Hid} (hE:f.er.length=14):(flC ad c f h).set 16 (.bool true)=flC ad c { f with pw := .down none } h:=by
 obtain ⟨bs,er,wear,pw,torn⟩:=f
 match er,hE with
 | [a0,a1,a2,a3,a4,a5,a6,a7,a8,a9,a10,a11,a12,a13],_=>rfl
theorem flC_setleft {ad:Option Addr} {c:Nat} {f:Fl} {h:Hid} (v:Int) (hE:f.er.length=14):(flC ad c f h).set 18 (I v)=flC ad c f { h with left:=v }:=by
 obtain ⟨bs,er,wear,pw,torn⟩:=f
 match er,hE with
 | [a0,a1,a2,a3,a4,a5,a6,a7,a8,a9,a10,a11,a12,a13],_=>rfl
theorem flC_setsteps {ad:Option Addr} {c:Nat} {f:Fl} {h:Hid} (v:Int) (hE:f.er.length=14):(flC ad c f h).set 20 (I v)=flC ad c f { h with steps:=v }:=by
 obtain ⟨bs,er,wear,pw,torn⟩:=f
 match er,hE with
 | [a0,a1,a2,a3,a4,a5,a6,a7,a8,a9,a10,a11,a12,a13],_=>rfl
theorem flC_er {ad:Option Addr} {c:Nat} {f:Fl} {h:Hid} {s:Nat} (hs:s<f.er.length):(flC ad c f h)[1+s]?=some (nI f.er[s]):=by
 rw [flC,Nat.add_comm,List.getElem?_cons_succ,List.getElem?_append_left (by simpa using hs)]
 simp [hs]
theorem flC_setEr {ad:Option Addr} {c:Nat} {f:Fl} {h:Hid} {s v:Nat} (hs:s<f.er.length):(flC ad c f h).set (1+s) (nI v)=flC ad c { f with er:=f.er.set s v } h:=by
 rw [flC,Nat.add_comm,List.set_cons_succ,List.set_append_left _ _ (by simpa using hs),←List.map_set]
 rfl
abbrev fB (b:Nat) (ad:Option Addr) (c:Nat) (f:Fl) (h:Hid):Hl := .box b 110 (flC ad c f h)
def slk (ad:Option Addr) (c:Nat) (bs:List (BitVec 8)):Hp→Prop:=Som (fun q:Nat × List Value=>ad=some ⟨q.1,0,none⟩∧bs.length≤c∧c≤9223372036854775807) (fun q=>[.box q.1 5 (bs.map B++q.2)])
class SFl (H:List Hl) (ad:Option Addr) (c:Nat) (bs:outParam (List (BitVec 8))) (H':outParam (List Hl)):Prop where s:Sel H (.any (slk ad c bs)) H'
instance sfl_here {ad:Option Addr} {c:Nat} {bs:List (BitVec 8)} {H:List Hl}:SFl (.any (slk ad c bs)::H) ad c bs H:=⟨.here⟩
instance (priority:=low) sfl_there {ad:Option Addr} {c:Nat} {bs:List (BitVec 8)} {y:Hl} {H H':List Hl} [h:SFl H ad c bs H']:SFl (y::H) ad c bs (y::H'):=⟨.there h.s⟩
theorem slk_open {ad:Option Addr} {c:Nat} {bs:List (BitVec 8)} {H H':List Hl} (s:Sel H (.any (slk ad c bs)) H') {w:World} (hw:sat w (stars H)):∃ g zs,ad=some ⟨g,0,none⟩∧bs.length≤c∧c≤9223372036854775807∧sat w (stars (.box g 5 (bs.map B++zs)::H')):=by
 obtain ⟨⟨g,zs⟩,⟨e1,e2,e3⟩,hx⟩:=sat_som (hw.mono s.out)
 exact ⟨g,zs,e1,e2,e3,hx⟩
theorem slk_of {ad:Option Addr} {c:Nat} {bs:List (BitVec 8)} {R:List Hl} (g:Nat) (zs:List Value) (e1:ad=some ⟨g,0,none⟩) (e2:bs.length≤c) (e3:c≤9223372036854775807):∀ h,stars (.box g 5 (bs.map B++zs)::R) h→stars (.any (slk ad c bs)::R) h:=fun h hh=>som_of (ι:=Nat × List Value) (L:=fun q=>[.box q.1 5 (bs.map B++q.2)]) (g,zs) ⟨e1,e2,e3⟩ h hh
theorem slk_rs {ad:Option Addr} {c:Nat} {bs:List (BitVec 8)} {H H':List Hl} (s:Sel H (.any (slk ad c bs)) H'):RsH H B ad c bs:=fun ⟨w,hw⟩=>by
 obtain ⟨g,zs,e1,e2,e3, -⟩:=slk_open s hw
 refine ⟨e2,e3,fun _=>⟨_,e1⟩,fun w2 hw2 a ha i x hx=>?_⟩
 obtain ⟨g2,zs2,f1, -, -,hs⟩:=slk_open s hw2
 rw [ha] at f1
 obtain rfl:=Option.some.inj f1
 have hv:(bs.map B++zs2)[i]?=some (B x):=by
  obtain ⟨hl,_⟩:=List.getElem?_eq_some_iff.mp hx
  rw [List.getElem?_append_left (by simpa using hl),List.getElem?_map,hx]
  rfl
 have:=(cl_box (b:=g2) (H := .box g2 5 (bs.map B++zs2)::H') hv).cell w2 hs
 rw [show Addr.add ⟨g2,0,none⟩ i=⟨g2,i,none⟩ by by_cases h0:i=0 <;> simp [Addr.add,h0]]
 exact this
theorem rx_fl {ad:Option Addr} {c:Nat} {bs:List (BitVec 8)} {H H':List Hl} [s:SFl H ad c bs H']:RsH H B ad c bs:=slk_rs s.s
section
variable {P:Program} {n:Nat} {e:Ev} {H:List Hl} {C:Value→List Hl→Prop} {ty:TypeId} {x y:Operand}
theorem ox_store_flenc (k:Nat) {T2:TypeId} {z:Value} {by_:Nat} [TInf P T2 z 1 by_] {ad:Option Addr} {c:Nat} {l:List (BitVec 8)} {v:BitVec 8} {H':List Hl} (hx:opd e x=some (.pointer (some (idxA ad k)))) (hy:opd e y=some (B v))
  [s:SFl H ad c l H'] (hk:k<l.length) (h:C undef (.any (slk ad c (l.set k v))::H')):O1 P (.store T2 x y) ty n e H C:=⟨fun a w ho=>by
 obtain ⟨g,zs,e1,e2,e3,hs⟩:=slk_open s.s ho.sat
 have hx':opd e x=some (.pointer (some ⟨g,k,none⟩)):=by
  rw [hx,e1]
  by_cases h0:k=0 <;> simp [idxA,Addr.add,h0]
 have hq:(l.map B++zs).set k (B v)=(l.set k v).map B++zs:=by
  rw [List.set_append_left _ _ (by simpa using hk),List.map_set]
 refine ((ox_stores (C:=fun v2 K=>v2=undef∧K = .box g 5 ((l.set k v).map B++zs)::H') (b:=g) (i:=k) (H := .box g 5 (l.map B++zs)::H') hx' hy (by simp;omega) rfl hq ⟨rfl,rfl⟩).post (C:=C) fun v2 K hK=>⟨.any (slk ad c (l.set k v))::H',?_,?_⟩).out a w ⟨ho.ev,hs⟩
 ·exact hK.1 ▸ h
 ·rw [hK.2]
  exact slk_of g zs e1 (by rw [List.length_set];exact e2) e3⟩
theorem o1_call_fl (b:Nat) (ad:Option Addr) (c:Nat) {f:FuncId} {xs:List Operand} {args:List Value} {ats:Array TypeId} {X:Type} {good:X→Prop} {val:X→Value} {res:X→List Hl} {T:TypeId} {cs:List Value} {bs:List (BitVec 8)} {H' H2:List Hl} [s:SBox H b T cs H'] [s2:SFl H' ad c bs H2]
  (hs:Has (.box b T cs :: .any (slk ad c bs)::H2)→Spec P f args (.box b T cs :: .any (slk ad c bs)::H2) good val res) (hxs:opds e xs=some args) (h:∀ r,good r→C (val r) (res r)):O1 P (.call ⟨.value (.func f),xs.toArray,ats⟩) ty n e H C :=
 O1.ent (H2 := .box b T cs :: .any (slk ad c bs)::H2) (fun h hh=>sep_mono (s.s.out h hh) (fun _ a=>a) (s2.s.out)) (o1_call hs hxs h)
end
attribute [irreducible] slk
abbrev fR (ad:Option Addr) (c:Nat) (f:Fl):Hl := .any (slk ad c f.bs)
structure RdFl (A:Hp→Prop) (b:Nat) (ad:Option Addr) (c:Nat) (f:Fl):Prop where
 s:Cl A ⟨b,0,none⟩ (.slice ad 3584 c)
 d:Cl A ⟨b,16,none⟩ (.bool f.pw.isDown)
 r:Rs A B ad c f.bs
 l:f.bs.length=3584
theorem RdFl.up {A:Hp→Prop} {b:Nat} {ad:Option Addr} {c:Nat} {f:Fl} {H H':List Hl} (h:RdFl A b ad c f) [s:SAny H A H']:RdFl (stars H) b ad c f:=⟨cl_up h.s,cl_up h.d,h.r.up,h.l⟩
theorem RdFl.own {b:Nat} {ad:Option Addr} {c:Nat} {f:Fl} {hd:Hid} {H H1 H2:List Hl} [s:SBox H b 110 (flC ad c f hd) H1] [s2:SFl H ad c f.bs H2] (hk:FlOk f hd) (hh:Has H):RdFl (stars H) b ad c f :=
 ⟨cl_box rfl,cl_box (flC_down hk.er),rx_fl hh,hk.bs⟩
theorem fl_ready (H:List Hl) (b:Nat) (f:Fl) (p n:Nat) (h:Cl (stars H) ⟨b,16,none⟩ (.bool f.pw.isDown)) (hp:p+n≤3584) :
  Spec Tryz.prog 89 [.pointer (some ⟨b,0,none⟩),I p,I n] H (fun _:Unit=>True) (fun _=>I (if f.pw.isDown=true then 11 else 0)) (fun _=>H):=by
 refine spec_pure (res:=fun _=>[]) H Tryz.func89 rfl Tryz.ntmps89 (by kernel_rfl) rfl (fun W=>?_)
 obtain ⟨d,hd⟩:∃ d,f.pw.isDown=d:=⟨_,rfl⟩
 rw [hd] at h ⊢
 cases d
 ·repeat' (first|intro _|refine cw ?_|refine cw2 ?_ ?_|refine o1_peql rfl rfl ?_|(refine k_load ?_;refine ox_load_any rfl h ?_)|refine ow ?_|refine ow2 ?_ ?_|fail)
  refine rt_tmp () rfl rfl rfl trivial ?_
  exact ent
 ·repeat' (first|intro _|refine cw ?_|refine cw2 ?_ ?_|refine o1_peql rfl rfl ?_|(refine k_load ?_;refine ox_load_any rfl h ?_)|refine ow ?_|refine ow2 ?_ ?_|fail)
  refine rt_tmp () rfl rfl rfl trivial ?_
  exact ent
theorem seg_cut (l:List (BitVec 8)) (p n:Nat):(l.take (p+n)).drop p=seg l p n:=by
 unfold seg
 rw [List.drop_take]
 congr 1
 omega
set_option maxHeartbeats 1000000 in
theorem fl_Read (H:List Hl) (b:Nat) (ad:Option Addr) (c:Nat) (f:Fl) (p n:Nat) (h:RdFl (stars H) b ad c f) (hp:p+n≤3584) (hd:f.pw.isDown=false) :
  Spec Tryz.prog 98 [.pointer (some ⟨b,0,none⟩),I p,I n] H (fun _:Option Addr × Nat=>True) (fun r => .tuple #[.slice r.1 n r.2,I 0]) (fun r => .row 5 1 (.slice r.1 n r.2) n ((seg f.bs p n).map B)::H):=by
 refine spec_pure (res:=fun r:Option Addr × Nat=>[.row 5 1 (.slice r.1 n r.2) n ((seg f.bs p n).map B)]) H Tryz.func98 rfl Tryz.ntmps98 (by kernel_rfl) rfl (fun W=>?_)
 have hs:=h.s
 have hle:=h.r.le
 have hl:=h.l
 have hcut:=seg_cut f.bs p n
 have hsl:(seg f.bs p n).length=n:=seg_len (by omega)
 have hpn:(p:Int)+n=((p+n:Nat):Int):=by push_cast;rfl
 have hf:=h.r.cutv p (p+n) (by omega) (by omega)
 rw [hcut] at hf
 repeat' (first|intro _|refine cw ?_|refine cw2 ?_ ?_|(refine k_fn 89 ?_;(refine o1_call (fun _=>fl_ready _ b f p n (cl_up h.d) hp) rfl (fun _ _=>?_);rw [hd,if_neg (by decide)]))|(refine k_binOp .add ?_;(refine o1_add rfl rfl (by omega) ?_;rw [hpn]))|(refine k_load ?_;refine ox_load_any rfl hs ?_)|(refine k_slice ?_;(refine o1_cs_lh (xs:=f.bs) p (p+n) rfl rfl rfl rfl rfl hl.symm (by omega) (by omega) (by omega) ?_;rw [hcut]))|(refine k_fn 29 ?_;(refine o1_call (fun _=>slices_Clone _ _ _ (seg f.bs p n) (Rs.up hf) (by omega)) rfl (fun ⟨a25,c25⟩ _=>?_);(try dsimp only);rw [hsl]))|refine ow ?_|refine ow2 ?_ ?_|fail)
 refine rt_tmp2 (a25,c25) rfl rfl rfl rfl trivial ?_
 exact ent
theorem fl_Read_down (H:List Hl) (b:Nat) (f:Fl) (p n:Nat) (h:Cl (stars H) ⟨b,16,none⟩ (.bool f.pw.isDown)) (hp:p+n≤3584) (hd:f.pw.isDown=true) :
  Spec Tryz.prog 98 [.pointer (some ⟨b,0,none⟩),I p,I n] H (fun _:Unit=>True) (fun _ => .tuple #[.slice none 0 0,I 11]) (fun _=>H):=by
 refine spec_pure (res:=fun _=>[]) H Tryz.func98 rfl Tryz.ntmps98 (by kernel_rfl) rfl (fun W=>?_)
 repeat' (first|intro _|refine cw ?_|refine cw2 ?_ ?_|(refine k_fn 89 ?_;(refine o1_call (fun _=>fl_ready _ b f p n (cl_up h) hp) rfl (fun _ _=>?_);rw [hd,if_pos rfl]))|refine ow ?_|refine ow2 ?_ ?_|fail)
 refine rt_tmp2 () rfl rfl rfl rfl trivial ?_
 exact ent
theorem fl_Down (H:List Hl) (b:Nat) (f:Fl) (h:Cl (stars H) ⟨b,16,none⟩ (.bool f.pw.isDown)) :
  Spec Tryz.prog 63 [.pointer (some ⟨b,0,none⟩)] H (fun _:Unit=>True) (fun _ => .bool f.pw.isDown) (fun _=>H):=by
 refine spec_pure (res:=fun _=>[]) H Tryz.func63 rfl Tryz.ntmps63 (by kernel_rfl) rfl (fun W=>?_)
 repeat' (first|intro _|refine cw ?_|refine cw2 ?_ ?_|refine o1_pneq rfl rfl ?_|(refine k_load ?_;refine ox_load_any rfl h ?_)|refine ow ?_|refine ow2 ?_ ?_|fail)
 refine rt_tmp () rfl rfl rfl trivial ?_
 exact ent
theorem xf_load64:XFn Tryz.prog 190 (Extern.Atomic.loadT (.int .i64)):=⟨by kernel_rfl,by kernel_rfl⟩
theorem xf_add64:XFn Tryz.prog 191 (Extern.Atomic.update (Op.intArith .add) .i64 true):=⟨by kernel_rfl,by kernel_rfl⟩
theorem at_AddG (H:List Hl) (b i:Nat) (T:TypeId) (cs:List Value) (k q:Int) (hv:cs[i]?=some (I k)) :
  Spec Tryz.prog 145 [.pointer (some ⟨b,i,none⟩),I q] (.box b T cs::H) (fun _:Unit=>True) (fun _=>I (IntKind.i64.wrap (k+q))) (fun _ => .box b T (cs.set i (I (IntKind.i64.wrap (k+q))))::H):=by
 refine spec_fn (res:=fun _:Unit=>[.box b T (cs.set i (I (IntKind.i64.wrap (k+q))))]) [.box b T cs] H Tryz.func145 rfl Tryz.ntmps145 (by kernel_rfl) rfl (fun W=>?_)
 dsimp only [List.cons_append,List.nil_append]
 repeat' (first|intro _|refine cw ?_|refine cw2 ?_ ?_|refine o1_xadd xf_add64 rfl (b:=b) (i:=i) (k := .i64) (p:=k) (r:=IntKind.i64.wrap (k+q)) hv rfl ?_|refine ow ?_|refine ow2 ?_ ?_|fail)
 refine rt_tmp () rfl rfl rfl trivial ?_
 exact ent
def Fl.stepped (f:Fl):Fl:={ f with pw:=match f.pw with
  | .on => .on
  | .fuse 0 => .down none
  | .fuse (n+1) => .fuse n
  | .down q => .down q }
def Fl.goes (f:Fl):Bool:=match f.pw with
 | .on=>true
 | .fuse 0=>false
 | .fuse (_+1)=>true
 | .down _=>false
set_option maxHeartbeats 1000000 in
theorem fl_step (H:List Hl) (b:Nat) (ad:Option Addr) (c:Nat) (f:Fl) (h:Hid) (hk:FlOk f h) (hd:f.pw.isDown=false) :
  Spec Tryz.prog 90 [.pointer (some ⟨b,0,none⟩)] (fB b ad c f h::H) (fun h':Hid=>FlOk f.stepped h') (fun _ => .bool f.goes) (fun h'=>fB b ad c f.stepped h'::H):=by
 refine spec_fn (res:=fun h':Hid=>[fB b ad c f.stepped h']) [fB b ad c f h] H Tryz.func90 rfl Tryz.ntmps90 (by kernel_rfl) rfl (fun W=>?_)
 dsimp only [List.cons_append,List.nil_append]
 have hE:=hk.er
 have e20:=flC_steps (ad:=ad) (c:=c) (h:=h) hE
 have hs1:=flC_setsteps (ad:=ad) (c:=c) (h:=h) (IntKind.i64.wrap (h.steps+1)) hE
 obtain ⟨h1,hh1⟩:∃ h1:Hid,{ h with steps:=IntKind.i64.wrap (h.steps+1) }=h1:=⟨_,rfl⟩
 have g1:h1.left=h.left:=by rw [←hh1]
 have g2:h1.fused=h.fused:=by rw [←hh1]
 rw [hh1] at hs1
 have e18:=flC_left (ad:=ad) (c:=c) (h:=h1) hE
 obtain ⟨bs,er,wear,pw,torn⟩:=f
 have hpw:=hk.pw
 dsimp only at hE hd hpw
 cases pw with
 | down q=>cases hd
 | on =>
  dsimp only at hpw
  repeat' (first|intro _|refine cw ?_|refine cw2 ?_ ?_|(refine k_fn 145 ?_;(refine o1_call_box (b:=b) (fun _=>at_AddG _ b 20 _ _ h.steps 1 e20) rfl (fun _ _=>?_);rw [hs1]))|(refine k_load ?_;first|refine ox_load (b:=b) (i:=18) rfl e18 ?_|refine ox_load (b:=b) (i:=17) rfl (by rw [flC_fused hE,g2,hpw]) ?_|refine ox_load (b:=b) (i:=16) rfl (flC_down hE) ?_)|(refine k_binOp .sub ?_;refine o1_sub_any rfl rfl (fun v=>?_))|(refine k_store ?_;(refine ox_stores (b:=b) (i:=18) rfl rfl (by rw [flC_len hE];decide) rfl (flC_setleft v hE) ?_))|refine ow ?_|refine ow2 ?_ ?_|fail)
  refine rt_tmp { h1 with left:=v } rfl rfl rfl ⟨hE,hk.bs,hk.wr,hk.ers,?_⟩ ?_
  ·show h1.fused=false
   rw [g2,hpw]
  exact ent
 | fuse n =>
  obtain ⟨p1,p2,p3⟩:=hpw
  cases n with
  | zero =>
   repeat' (first|intro _|refine cw ?_|refine cw2 ?_ ?_|(refine k_fn 145 ?_;(refine o1_call_box (b:=b) (fun _=>at_AddG _ b 20 _ _ h.steps 1 e20) rfl (fun _ _=>?_);rw [hs1]))|(refine k_load ?_;first|(refine ox_load (b:=b) (i:=18) rfl e18 ?_;rw [g1,p2])|refine ox_load (v := .bool true) (b:=b) (i:=17) rfl (by rw [flC_fused hE];exact congrArg (fun q=>some (Value.bool q)) (g2.trans p1)) ?_|refine ox_load (b:=b) (i:=18) rfl (flC_left hE) ?_|refine ox_load (b:=b) (i:=16) rfl (flC_down hE) ?_)|(refine k_binOp .sub ?_;refine o1_sub rfl rfl (by omega) ?_)|(refine k_store ?_;first|(refine ox_stores (b:=b) (i:=18) rfl rfl (by rw [flC_len hE];decide) rfl (flC_setleft _ hE) ?_)|(refine ox_stores (b:=b) (i:=16) rfl rfl (by rw [flC_len hE];decide) rfl (flC_setdown hE) ?_))|(refine k_binOp .lss ?_;refine o1_lss_t rfl rfl (by dsimp only;omega) ?_)|refine ow ?_|refine ow2 ?_ ?_|fail)
   refine rt_tmp { h1 with left := -1 } rfl rfl rfl ⟨hE,hk.bs,hk.wr,hk.ers,?_⟩ ?_
   ·show h1.fused=true→(-1:Int)<0
    intro _
    decide
   exact ent
  | succ n =>
   repeat' (first|intro _|refine cw ?_|refine cw2 ?_ ?_|(refine k_fn 145 ?_;(refine o1_call_box (b:=b) (fun _=>at_AddG _ b 20 _ _ h.steps 1 e20) rfl (fun _ _=>?_);rw [hs1]))|(refine k_load ?_;first|(refine ox_load (b:=b) (i:=18) rfl e18 ?_;rw [g1,p2])|refine ox_load (v := .bool true) (b:=b) (i:=17) rfl (by rw [flC_fused hE];exact congrArg (fun q=>some (Value.bool q)) (g2.trans p1)) ?_|refine ox_load (b:=b) (i:=18) rfl (flC_left hE) ?_|refine ox_load (b:=b) (i:=16) rfl (flC_down hE) ?_)|(refine k_binOp .sub ?_;refine o1_sub rfl rfl (by omega) ?_)|(refine k_store ?_;(refine ox_stores (b:=b) (i:=18) rfl rfl (by rw [flC_len hE];decide) rfl (flC_setleft _ hE) ?_))|(refine k_binOp .lss ?_;refine o1_lss_f rfl rfl (by dsimp only;omega) ?_)|refine ow ?_|refine ow2 ?_ ?_|fail)
   refine rt_tmp { h1 with left:=((n+1:Nat):Int) - 1 } rfl rfl rfl ⟨hE,hk.bs,hk.wr,hk.ers,?_⟩ ?_
   ·show h1.fused=true∧((n+1:Nat):Int) - 1=n∧n≤1000000
    exact ⟨by rw [g2,p1],by omega,by omega⟩
   exact ent
def rtD6_0:List Row:=[⟨some 28,[],[],none⟩,⟨some 29,[0],[0],none⟩,⟨some 30,[1],[0,1],none⟩,⟨some 31,[2],[0,1,2],none⟩,⟨some 32,[],[],none⟩,⟨some 33,[],[],none⟩,⟨some 34,[4,5],[4,5],none⟩,⟨some 35,[3,6],[0,1,2,3,4,5,6],none⟩,⟨some 36,[7],[0,1,2,3,4,5,6,7],none⟩,⟨some 37,[],[],none⟩,⟨some 38,[],[],none⟩,⟨some 39,[10],[10],none⟩,⟨some 40,[11],[10,11],none⟩,⟨some 41,[12],[10,11,12],none⟩,⟨some 42,[13],[10,11,12,13],none⟩,⟨some 43,[9,14],[9,10,11,12,13,14],none⟩,⟨some 44,[8,15],[0,1,2,3,4,5,6,7,8,9,10,11,12,13,14,15],none⟩,⟨some 45,[3,6,0,1,2,3,4,5,6,7,8,9,10,11,12,13,14,15,16],[0,1,2,3,4,5,6,7,8,9,10,11,12,13,14,15,16],none⟩,⟨none,[17,16,0,1,2,3,4,5,6,7,8,9,10,11,12,13,14,15,16],[0,1,2,3,4,5,6,7,8,9,10,11,12,13,14,15,16,17],none⟩]
theorem progB_torn {l:List (BitVec 8)} {a n:Nat} {xs:List (BitVec 8)} (t:BitVec 8) (h:a+xs.length≤l.length) (hn:n<xs.length):(progB l a (xs.take n)).set (a+n) ((l[a+n]'(by omega)) &&& (xs[n] ||| t))=progB l a (xs.take n++[xs.getD n 0#8 ||| t]):=by
 have e1:(xs.take n++[xs.getD n 0#8 ||| t]).length=n+1:=by rw [List.length_append,List.length_take];simp;omega
 have e2:(xs.take n++[xs.getD n 0#8 ||| t]).take n=xs.take n:=by rw [List.take_left'];rw [List.length_take];omega
 have e3:(xs.take n++[xs.getD n 0#8 ||| t]).take (n+1)=xs.take n++[xs.getD n 0#8 ||| t]:=List.take_of_length_le (by omega)
 have e4:(xs.take n++[xs.getD n 0#8 ||| t])[n]'(by omega)=xs[n] ||| t:=by
  rw [List.getElem_append_right (by rw [List.length_take];omega)]
  simp [List.getD_eq_getElem?_getD,hn]
 have:=progB_next (l:=l) (a:=a) (i:=n) (xs:=xs.take n++[xs.getD n 0#8 ||| t]) (by omega) (by omega)
 rw [e2,e3,e4] at this
 exact this
theorem progB_at' {l:List (BitVec 8)} {a i:Nat} {xs:List (BitVec 8)} (h:a+xs.length≤l.length) (hi:i<xs.length) (hl:a+i<(progB l a (xs.take i)).length):(progB l a (xs.take i))[a+i]=l[a+i]'(by omega):=by
 have:=progB_at h hi
 rw [List.getElem?_eq_getElem hl] at this
 exact Option.some.inj this
set_option maxHeartbeats 4000000 in
theorem fl_Program (H:List Hl) (b:Nat) (ad:Option Addr) (c:Nat) (f:Fl) (h:Hid) (p:Nat) (ad2:Option Addr) (m c2:Nat) (xs:List (BitVec 8)) (hk:FlOk f h) (hx2:Rs (stars H) B ad2 c2 xs) (hm:m=xs.length) (hp:p+m≤3584) :
  Spec Tryz.prog 44 [.pointer (some ⟨b,0,none⟩),I p,.slice ad2 m c2] (fB b ad c f h::fR ad c f::H) (fun h':Hid=>FlOk (progF f p xs).1 h') (fun _=>I (progF f p xs).2) (fun h'=>fB b ad c (progF f p xs).1 h'::fR ad c (progF f p xs).1::H):=by
 subst hm
 refine spec_fn (res:=fun h':Hid=>[fB b ad c (progF f p xs).1 h',fR ad c (progF f p xs).1]) [fB b ad c f h,fR ad c f] H Tryz.func44 rfl Tryz.ntmps44 (by kernel_rfl) rfl (fun W=>?_)
 dsimp only [List.cons_append,List.nil_append]
 have b3:=hx2.le
 have b4:=hx2.big
 obtain ⟨f0,hf0⟩:∃ f0,f0=f:=⟨_,rfl⟩
 obtain ⟨bs,er,wear,pw,torn⟩:=f
 have hE:er.length=14:=hk.er
 have hbl:bs.length=3584:=hk.bs
 have hpx:p+xs.length≤bs.length:=by omega
 cases pw with
 | down q =>
  have hdn:f0.pw.isDown=true:=by rw [hf0];rfl
  rw [←hf0] at hk
  rw [show (progF ⟨bs,er,wear,.down q,torn⟩ p xs)=(f0,11) by rw [hf0];rfl,←hf0]
  repeat' (first|intro _|refine cw ?_|refine cw2 ?_ ?_|(refine k_fn 89 ?_;(refine o1_call (fun hh=>fl_ready _ b f0 p xs.length (cl_box (flC_down hk.er)) (by omega)) rfl (fun _ _=>?_);rw [hdn,if_pos rfl]))|refine ow ?_|refine ow2 ?_ ?_|fail)
  refine rt_tmp h rfl rfl rfl hk ?_
  exact ent
 | on =>
  have hdn:f0.pw.isDown=false:=by rw [hf0];rfl
  have hcl:Cl (stars [fB b ad c ⟨bs,er,wear,.on,torn⟩ h,fR ad c ⟨bs,er,wear,.on,torn⟩,.any (stars H)]) ⟨b,16,none⟩ (.bool f0.pw.isDown):=by rw [hf0];exact cl_box (flC_down hk.er)
  repeat' (first|intro _|refine cw ?_|refine cw2 ?_ ?_|(refine k_fn 89 ?_;(refine o1_call (fun hh=>fl_ready _ b f0 p xs.length hcl (by omega)) rfl (fun _ _=>?_);rw [hdn,if_neg (by decide)]))|refine ow ?_|refine ow2 ?_ ?_|fail)
  refine st_loop (S:=Nat × Hid) (fun q=>[(0,.pointer (some ⟨b,0,none⟩)),(1,I p),(18,.slice ad2 xs.length c2),(19,I xs.length),(20,I q.1)])
   (fun q=>[fB b ad c ⟨progB bs p (xs.take q.1),er,wear,.on,torn⟩ q.2,fR ad c ⟨progB bs p (xs.take q.1),er,wear,.on,torn⟩,.any (stars H)]) (fun q=>q.1≤xs.length∧True∧FlOk ⟨progB bs p (xs.take q.1),er,wear,.on,torn⟩ q.2) (fun q=>xs.length - q.1) (0,h) ⟨Nat.zero_le _,trivial,by rw [List.take_zero,progB_nil];exact hk⟩
   cv (by rw [List.take_zero,progB_nil];exact ent) ?_
  rintro ⟨i,hi⟩ ⟨hil,hbd,hki⟩
  dsimp only at hil hbd hki ⊢
  have hBl:(progB bs p (xs.take i)).length=3584:=hki.bs
  by_cases hlt:i<xs.length
  ·obtain ⟨x,hx⟩:∃ x,xs[i]=x:=⟨_,rfl⟩
   have hpi:p+i<(progB bs p (xs.take i)).length:=by omega
   have hpn:(p:Int)+i=((p+i:Nat):Int):=by push_cast;rfl
   have hat:=progB_at' (l:=bs) (a:=p) hpx hlt hpi
   have hnext:=progB_next (l:=bs) (a:=p) hpx hlt
   rw [hx] at hnext
   obtain ⟨y,hy⟩:∃ y,bs[p+i]'(by omega)=y:=⟨_,rfl⟩
   rw [hy] at hat hnext
   repeat' (first|intro _|refine cw ?_|refine cw2 ?_ ?_|(refine k_indexAddr ?_;first|refine o1_ia (ad:=ad2) (c:=c2) i rfl rfl hx2 rfl rfl hlt ?_|refine o1_iah (enc:=B) (ad:=ad) (c:=c) (xs:=progB bs p (xs.take i)) (p+i) rfl rfl rx_fl hBl.symm rfl hpi ?_)|(refine k_load ?_;first|(refine o1_load_ia (ad:=ad2) (c:=c2) i rfl hx2 hlt ?_;rw [hx])|refine ox_load (b:=b) (i:=0) rfl flC_slice ?_|(refine o1_load_iah (enc:=B) (ad:=ad) (c:=c) (xs:=progB bs p (xs.take i)) (p+i) rfl rx_fl hpi ?_;rw [hat]))|(refine k_fn 90 ?_;(refine o1_call_box (b:=b) (fun _=>fl_step _ b ad c ⟨progB bs p (xs.take i),er,wear,.on,torn⟩ hi hki rfl) rfl (fun h2 hk2=>?_);(try dsimp only [Fl.stepped,Fl.goes] at hk2 ⊢)))|(refine k_binOp .add ?_;(refine o1_add rfl rfl (by omega) ?_;rw [hpn]))|(refine k_store ?_;(refine ox_store_flenc (p+i) (ad:=ad) (c:=c) (l:=progB bs p (xs.take i)) rfl rfl (by omega) ?_;rw [hnext]))|refine ow ?_|refine ow2 ?_ ?_|fail)
   refine nx_again (i+1,h2) ⟨by show i+1≤xs.length;omega,trivial,⟨hE,by show (progB bs p (xs.take (i+1))).length=3584;rw [←hnext,List.length_set,hBl],hk2.wr,hk2.ers,hk2.pw⟩⟩ (by show xs.length - (i+1)<xs.length - i;omega) cv ?_
   exact ent
  ·have:i=xs.length:=by omega
   subst this
   repeat' (first|intro _|refine cw ?_|refine cw2 ?_ ?_|refine ow ?_|refine ow2 ?_ ?_|fail)
   rw [List.take_length] at hki ⊢
   refine rt_tmp hi rfl rfl (by simp only [progF]) hki ?_
   exact ent
 | fuse n =>
  have hdn:f0.pw.isDown=false:=by rw [hf0];rfl
  have hcl:Cl (stars [fB b ad c ⟨bs,er,wear,.fuse n,torn⟩ h,fR ad c ⟨bs,er,wear,.fuse n,torn⟩,.any (stars H)]) ⟨b,16,none⟩ (.bool f0.pw.isDown):=by rw [hf0];exact cl_box (flC_down hk.er)
  repeat' (first|intro _|refine cw ?_|refine cw2 ?_ ?_|(refine k_fn 89 ?_;(refine o1_call (fun hh=>fl_ready _ b f0 p xs.length hcl (by omega)) rfl (fun _ _=>?_);rw [hdn,if_neg (by decide)]))|refine ow ?_|refine ow2 ?_ ?_|fail)
  refine st_loop (S:=Nat × Hid) (fun q=>[(0,.pointer (some ⟨b,0,none⟩)),(1,I p),(18,.slice ad2 xs.length c2),(19,I xs.length),(20,I q.1)])
   (fun q=>[fB b ad c ⟨progB bs p (xs.take q.1),er,wear,.fuse (n - q.1),torn⟩ q.2,fR ad c ⟨progB bs p (xs.take q.1),er,wear,.fuse (n - q.1),torn⟩,.any (stars H)]) (fun q=>q.1≤xs.length∧q.1≤n∧FlOk ⟨progB bs p (xs.take q.1),er,wear,.fuse (n - q.1),torn⟩ q.2) (fun q=>xs.length - q.1) (0,h) ⟨Nat.zero_le _,Nat.zero_le _,by rw [List.take_zero,progB_nil];exact hk⟩
   cv (by rw [List.take_zero,progB_nil];exact ent) ?_
  rintro ⟨i,hi⟩ ⟨hil,hbd,hki⟩
  dsimp only at hil hbd hki ⊢
  have hBl:(progB bs p (xs.take i)).length=3584:=hki.bs
  by_cases hlt:i<xs.length
  ·obtain ⟨x,hx⟩:∃ x,xs[i]=x:=⟨_,rfl⟩
   have hpi:p+i<(progB bs p (xs.take i)).length:=by omega
   have hpn:(p:Int)+i=((p+i:Nat):Int):=by push_cast;rfl
   have hat:=progB_at' (l:=bs) (a:=p) hpx hlt hpi
   have hnext:=progB_next (l:=bs) (a:=p) hpx hlt
   rw [hx] at hnext
   obtain ⟨y,hy⟩:∃ y,bs[p+i]'(by omega)=y:=⟨_,rfl⟩
   rw [hy] at hat hnext
   by_cases hin:i<n
   ·obtain ⟨k,hkn,hk1⟩:∃ k,n - i=k+1∧n - (i+1)=k:=⟨n - i - 1,by omega,by omega⟩
    rw [hkn] at hki ⊢
    repeat' (first|intro _|refine cw ?_|refine cw2 ?_ ?_|(refine k_indexAddr ?_;first|refine o1_ia (ad:=ad2) (c:=c2) i rfl rfl hx2 rfl rfl hlt ?_|refine o1_iah (enc:=B) (ad:=ad) (c:=c) (xs:=progB bs p (xs.take i)) (p+i) rfl rfl rx_fl hBl.symm rfl hpi ?_)|(refine k_load ?_;first|(refine o1_load_ia (ad:=ad2) (c:=c2) i rfl hx2 hlt ?_;rw [hx])|refine ox_load (b:=b) (i:=0) rfl flC_slice ?_|(refine o1_load_iah (enc:=B) (ad:=ad) (c:=c) (xs:=progB bs p (xs.take i)) (p+i) rfl rx_fl hpi ?_;rw [hat]))|(refine k_fn 90 ?_;(refine o1_call_box (b:=b) (fun _=>fl_step _ b ad c ⟨progB bs p (xs.take i),er,wear,.fuse (k+1),torn⟩ hi hki rfl) rfl (fun h2 hk2=>?_);(try dsimp only [Fl.stepped,Fl.goes] at hk2 ⊢)))|(refine k_binOp .add ?_;(refine o1_add rfl rfl (by omega) ?_;rw [hpn]))|(refine k_store ?_;(refine ox_store_flenc (p+i) (ad:=ad) (c:=c) (l:=progB bs p (xs.take i)) rfl rfl (by omega) ?_;rw [hnext]))|refine ow ?_|refine ow2 ?_ ?_|fail)
    refine nx_again (i+1,h2) ⟨by show i+1≤xs.length;omega,by show i+1≤n;omega,?_⟩ (by show xs.length - (i+1)<xs.length - i;omega) cv ?_
    ·show FlOk ⟨progB bs p (xs.take (i+1)),er,wear,.fuse (n - (i+1)),torn⟩ h2
     rw [hk1]
     exact ⟨hE,by show (progB bs p (xs.take (i+1))).length=3584;rw [←hnext,List.length_set,hBl],hk2.wr,hk2.ers,hk2.pw⟩
    show Ent _ [fB b ad c ⟨progB bs p (xs.take (i+1)),er,wear,.fuse (n - (i+1)),torn⟩ h2,fR ad c ⟨progB bs p (xs.take (i+1)),er,wear,.fuse (n - (i+1)),torn⟩,.any (stars H)]
    rw [hk1]
    exact ent
   ·have:i=n:=by omega
    subst this
    have htn:=progB_torn (l:=bs) (a:=p) (BitVec.ofInt 8 torn) hpx hlt
    rw [hx,hy] at htn
    rw [Nat.sub_self] at hki ⊢
    have hpF:progF ⟨bs,er,wear,.fuse i,torn⟩ p xs=(⟨progB bs p (xs.take i++[xs.getD i 0#8 ||| BitVec.ofInt 8 torn]),er,wear,.down none,torn⟩,11):=by
     simp only [progF,tornB]
     rw [if_neg (by omega)]
    rw [hpF]
    have e19:∀ h2,(flC ad c ⟨progB bs p (xs.take i),er,wear,.down none,torn⟩ h2)[19]?=some (I torn):=fun h2=>flC_torn hE
    repeat' (first|intro _|refine cw ?_|refine cw2 ?_ ?_|(refine k_indexAddr ?_;refine o1_ia (ad:=ad2) (c:=c2) i rfl rfl hx2 rfl rfl hlt ?_)|(refine k_load ?_;(refine o1_load_ia (ad:=ad2) (c:=c2) i rfl hx2 hlt ?_;rw [hx]))|(refine k_fn 90 ?_;(refine o1_call_box (b:=b) (fun _=>fl_step _ b ad c ⟨progB bs p (xs.take i),er,wear,.fuse 0,torn⟩ hi hki rfl) rfl (fun h2 hk2=>?_);(try dsimp only [Fl.stepped,Fl.goes] at hk2 ⊢)))|refine ow ?_|refine ow2 ?_ ?_|fail)
    refine st_stages' [(0,_),(1,_),(8,_),(9,_)] rtD6_0 [18] [⟨[0,1,2,3,4,5,6,7,8,9,10,11,12,13,14,15,16,17],[],some 18⟩,⟨[],[],none⟩] mixed cv (by kernel_rfl) (by kernel_rfl) ?_
    repeat' (first|intro _|refine sg ?_|(refine p_load ?_;refine po (by first|refine ox_load (b:=b) (i:=0) rfl flC_slice fz|refine ox_load (b:=b) (i:=19) rfl (e19 _) fz|((refine o1_load_iah (enc:=B) (ad:=ad) (c:=c) (xs:=progB bs p (xs.take i)) (p+i) rfl rx_fl hpi ?_;rw [hat]);all_goals exact fz)|fail) ?_)|(refine p_binOp .add ?_;refine po (by first|((refine o1_add rfl rfl (by omega) ?_;rw [hpn]);all_goals exact fz)|fail) ?_)|(refine p_indexAddr ?_;refine po (by first|refine o1_iah (enc:=B) (ad:=ad) (c:=c) (xs:=progB bs p (xs.take i)) (p+i) rfl rfl rx_fl hBl.symm rfl hpi fz|fail) ?_)|refine pw ?_|refine pdd ?_|(refine k_store ?_;(refine ox_store_flenc (p+i) (ad:=ad) (c:=c) (l:=progB bs p (xs.take i)) rfl rfl (by omega) ?_;rw [htn]))|refine ow ?_|fail)
    all_goals dsimp only [List.cons_append,List.nil_append]
    repeat' (first|intro _|refine cw ?_|refine cw2 ?_ ?_|refine ow ?_|refine ow2 ?_ ?_|fail)
    refine rt_tmp h2 rfl rfl rfl ⟨hE,by show (progB bs p (xs.take i++[xs.getD i 0#8 ||| BitVec.ofInt 8 torn])).length=3584;rw [←htn,List.length_set,hBl],hk2.wr,hk2.ers,hk2.pw⟩ ?_
    exact ent
  ·have:i=xs.length:=by omega
   subst this
   repeat' (first|intro _|refine cw ?_|refine cw2 ?_ ?_|refine ow ?_|refine ow2 ?_ ?_|fail)
   rw [List.take_length] at hki ⊢
   have hpF:progF ⟨bs,er,wear,.fuse n,torn⟩ p xs=(⟨progB bs p xs,er,wear,.fuse (n - xs.length),torn⟩,0):=by
    simp only [progF]
    rw [if_pos hbd]
   rw [hpF]
   refine rt_tmp hi rfl rfl rfl hki ?_
   exact ent
def rtD7_0:List Row:=[⟨some 24,[],[],none⟩,⟨some 25,[],[],none⟩,⟨some 26,[0],[0],none⟩,⟨some 27,[2],[0,2],none⟩,⟨some 28,[3,1],[0,1,2,3],none⟩,⟨some 29,[4],[0,1,2,3,4],none⟩,⟨some 30,[],[],none⟩,⟨some 31,[6],[6],none⟩,⟨some 32,[7],[6,7],none⟩,⟨some 33,[8],[6,7,8],none⟩,⟨some 34,[5,9],[0,1,2,3,4,5,6,7,8,9],none⟩,⟨some 23,[10],[0,1,2,3,4,5,6,7,8,9,10],none⟩]
def rtD7_1:List Row:=[⟨some 24,[],[],none⟩,⟨some 25,[],[],none⟩,⟨some 26,[0],[0],none⟩,⟨some 27,[2],[0,2],none⟩,⟨some 28,[3,1],[0,1,2,3],none⟩,⟨some 29,[4],[0,1,2,3,4],none⟩,⟨some 30,[],[],none⟩,⟨some 31,[6],[6],none⟩,⟨some 32,[7],[6,7],none⟩,⟨some 33,[8],[6,7,8],none⟩,⟨some 34,[5,9],[0,1,2,3,4,5,6,7,8,9],none⟩,⟨some 23,[10],[0,1,2,3,4,5,6,7,8,9,10],none⟩]
def rtD7_2:List Row:=[⟨some 45,[],[],none⟩,⟨some 46,[],[],none⟩,⟨some 47,[0],[0],none⟩,⟨some 48,[2],[0,2],none⟩,⟨some 49,[3,1],[0,1,2,3],none⟩,⟨some 50,[4],[0,1,2,3,4],none⟩,⟨some 51,[5],[0,1,2,3,4,5],none⟩,⟨some 52,[0],[0],none⟩,⟨some 53,[7],[0,7],none⟩,⟨some 54,[8,1,0,1,2,3,4,5,6],[0,1,2,3,4,5,6,7,8],none⟩,⟨none,[9,6,0,1,2,3,4,5,6],[0,1,2,3,4,5,6,7,8,9],none⟩]
def rtD7_3:List Row:=[⟨some 24,[],[],none⟩,⟨some 25,[],[],none⟩,⟨some 26,[0],[0],none⟩,⟨some 27,[2],[0,2],none⟩,⟨some 28,[3,1],[0,1,2,3],none⟩,⟨some 29,[4],[0,1,2,3,4],none⟩,⟨some 30,[],[],none⟩,⟨some 31,[6],[6],none⟩,⟨some 32,[7],[6,7],none⟩,⟨some 33,[8],[6,7,8],none⟩,⟨some 34,[5,9],[0,1,2,3,4,5,6,7,8,9],none⟩,⟨some 23,[10],[0,1,2,3,4,5,6,7,8,9,10],none⟩]
def rtD7_4:List Row:=[⟨some 45,[],[],none⟩,⟨some 46,[],[],none⟩,⟨some 47,[0],[0],none⟩,⟨some 48,[2],[0,2],none⟩,⟨some 49,[3,1],[0,1,2,3],none⟩,⟨some 50,[4],[0,1,2,3,4],none⟩,⟨some 51,[5],[0,1,2,3,4,5],none⟩,⟨some 52,[0],[0],none⟩,⟨some 53,[7],[0,7],none⟩,⟨some 54,[8,1,0,1,2,3,4,5,6],[0,1,2,3,4,5,6,7,8],none⟩,⟨none,[9,6,0,1,2,3,4,5,6],[0,1,2,3,4,5,6,7,8,9],none⟩]
def rtD7_5:List Row:=[⟨some 24,[],[],none⟩,⟨some 25,[],[],none⟩,⟨some 26,[0],[0],none⟩,⟨some 27,[2],[0,2],none⟩,⟨some 28,[3,1],[0,1,2,3],none⟩,⟨some 29,[4],[0,1,2,3,4],none⟩,⟨some 30,[],[],none⟩,⟨some 31,[6],[6],none⟩,⟨some 32,[7],[6,7],none⟩,⟨some 33,[8],[6,7,8],none⟩,⟨some 34,[5,9],[0,1,2,3,4,5,6,7,8,9],none⟩,⟨some 23,[10],[0,1,2,3,4,5,6,7,8,9,10],none⟩]
def rtD7_6:List Row:=[⟨some 45,[],[],none⟩,⟨some 46,[],[],none⟩,⟨some 47,[0],[0],none⟩,⟨some 48,[2],[0,2],none⟩,⟨some 49,[3,1],[0,1,2,3],none⟩,⟨some 50,[4],[0,1,2,3,4],none⟩,⟨some 51,[5],[0,1,2,3,4,5],none⟩,⟨some 52,[0],[0],none⟩,⟨some 53,[7],[0,7],none⟩,⟨some 54,[8,1,0,1,2,3,4,5,6],[0,1,2,3,4,5,6,7,8],none⟩,⟨none,[9,6,0,1,2,3,4,5,6],[0,1,2,3,4,5,6,7,8,9],none⟩]
theorem fl_Blank1 (H:List Hl) (x:BitVec 8) :
  Spec Tryz.prog 157 [B x] H (fun _:Unit=>True) (fun _ => .bool (decide (x≠0xff#8))) (fun _=>H):=by
 refine spec_pure (res:=fun _=>[]) H Tryz.func157 rfl Tryz.ntmps157 (by kernel_rfl) rfl (fun W=>?_)
 by_cases h:x=0xff#8
 ·subst h
  repeat' (first|intro _|refine cw ?_|refine cw2 ?_ ?_|(refine k_binOp .neq ?_;refine o1_neq_f rfl rfl rfl ?_)|refine ow ?_|refine ow2 ?_ ?_|fail)
  refine rt_tmp () rfl rfl rfl trivial ?_
  exact ent
 ·have h1:(x.toNat:Int)≠255:=fun e=>h (BitVec.eq_of_toNat_eq (by show x.toNat=255;omega))
  repeat' (first|intro _|refine cw ?_|refine cw2 ?_ ?_|(refine k_binOp .neq ?_;refine o1_neq_t rfl rfl h1 ?_)|refine ow ?_|refine ow2 ?_ ?_|fail)
  refine rt_tmp () rfl rfl (by simp [h]) trivial ?_
  exact ent
def oddB1 (l:List (BitVec 8)):Bool:=l.any (fun x=>decide (x≠0xff#8))
theorem oddB1_not (l:List (BitVec 8)):(!oddB1 l)=blankB l:=by
 simp only [oddB1,blankB,List.any_eq_not_all_not,Bool.not_not]
 congr 1
 funext x
 by_cases h:x=0xff#8 <;> simp [h]
theorem fl_Index (H:List Hl) (ad:Option Addr) (c:Nat) (l:List (BitVec 8)) (h:Rs (stars H) B ad c l) :
  Spec Tryz.prog 193 [.slice ad l.length c,.func (.func 157) #[] #[]] H (fun r:Int=>decide (0≤r)=oddB1 l ∧ -1≤r∧r≤9223372036854775807) (fun r=>I r) (fun _=>H):=by
 refine spec_pure (res:=fun _=>[]) H Tryz.func193 rfl Tryz.ntmps193 (by kernel_rfl) rfl (fun W=>?_)
 have b1:=h.le
 have b2:=h.big
 repeat' (first|intro _|refine cw ?_|refine cw2 ?_ ?_|refine ow ?_|refine ow2 ?_ ?_|fail)
 refine st_loop (S:=Nat) (fun i=>[(0,.slice ad l.length c),(1,.func (.func 157) #[] #[]),(7,I l.length),(8,I i)]) (fun _=>[.any (stars H)]) (fun i=>i≤l.length∧oddB1 (l.take i)=false) (fun i=>l.length - i) 0 ⟨Nat.zero_le _,rfl⟩ cv ent ?_
 rintro i ⟨hi,hno⟩
 by_cases hlt:i<l.length
 ·obtain ⟨x,hx⟩:∃ x,l[i]=x:=⟨_,rfl⟩
  by_cases hf:x=0xff#8
  ·repeat' (first|intro _|refine cw ?_|refine cw2 ?_ ?_|(refine k_indexAddr ?_;refine o1_ia (ad:=ad) (c:=c) i rfl rfl h rfl rfl hlt ?_)|(refine k_load ?_;(refine o1_load_ia (ad:=ad) (c:=c) i rfl h hlt ?_;rw [hx]))|refine o1_kall (args:=[B x]) (caps:=[]) rfl (fun _=>(fl_Blank1 _ x).bv (b:=false) (by simp [hf])) rfl (fun _ _=>?_)|refine ow ?_|refine ow2 ?_ ?_|fail)
   refine nx_again (i+1) ⟨by omega,?_⟩ (by omega) cv ?_
   ·rw [List.take_succ_eq_append_getElem hlt,hx]
    unfold oddB1 at hno ⊢
    rw [List.any_append,hno]
    simp [hf]
   exact ent
  ·have hany:oddB1 l=true:=by
    unfold oddB1
    rw [List.any_eq_true]
    exact ⟨x,hx ▸ List.getElem_mem hlt,by simpa using hf⟩
   repeat' (first|intro _|refine cw ?_|refine cw2 ?_ ?_|(refine k_indexAddr ?_;refine o1_ia (ad:=ad) (c:=c) i rfl rfl h rfl rfl hlt ?_)|(refine k_load ?_;(refine o1_load_ia (ad:=ad) (c:=c) i rfl h hlt ?_;rw [hx]))|refine o1_kall (args:=[B x]) (caps:=[]) rfl (fun _=>(fl_Blank1 _ x).bv (b:=true) (by simp [hf])) rfl (fun _ _=>?_)|refine ow ?_|refine ow2 ?_ ?_|fail)
   refine rt_tmp (i:Int) rfl rfl rfl ⟨by rw [hany];simp,by omega,by omega⟩ ?_
   exact ent
 ·have:i=l.length:=by omega
  subst this
  rw [List.take_length] at hno
  repeat' (first|intro _|refine cw ?_|refine cw2 ?_ ?_|refine ow ?_|refine ow2 ?_ ?_|fail)
  refine rt_tmp (-1:Int) rfl rfl rfl ⟨by rw [hno];decide,by decide,by decide⟩ ?_
  exact ent
theorem fl_Contains (H:List Hl) (ad:Option Addr) (m c:Nat) (l:List (BitVec 8)) (h:Rs (stars H) B ad c l) (hm:m=l.length) :
  Spec Tryz.prog 156 [.slice ad m c,.func (.func 157) #[] #[]] H (fun _:Unit=>True) (fun _ => .bool (oddB1 l)) (fun _=>H):=by
 subst hm
 refine spec_pure (res:=fun _=>[]) H Tryz.func156 rfl Tryz.ntmps156 (by kernel_rfl) rfl (fun W=>?_)
 repeat' (first|intro _|refine cw ?_|refine cw2 ?_ ?_|(refine k_fn 193 ?_;refine o1_call (fun _=>fl_Index _ ad c l h.up) rfl (fun r hr=>?_))|(refine k_binOp .geq ?_;refine o1_geq_d rfl rfl ?_)|refine ow ?_|refine ow2 ?_ ?_|fail)
 refine rt_tmp () rfl rfl (by rw [←hr.1]) trivial ?_
 exact ent
theorem fl_Blank (H:List Hl) (b:Nat) (ad:Option Addr) (c:Nat) (f:Fl) (p n:Nat) (h:RdFl (stars H) b ad c f) (hp:p+n≤3584) (hd:f.pw.isDown=false) :
  Spec Tryz.prog 109 [.pointer (some ⟨b,0,none⟩),I p,I n] H (fun _:Unit=>True) (fun _ => .bool (blankB (seg f.bs p n))) (fun _=>H):=by
 refine spec_pure (res:=fun _=>[]) H Tryz.func109 rfl Tryz.ntmps109 (by kernel_rfl) rfl (fun W=>?_)
 have hl:=h.l
 have hsl:n=(seg f.bs p n).length:=(seg_len (by omega)).symm
 repeat' (first|intro _|refine cw ?_|refine cw2 ?_ ?_|(refine k_fn 98 ?_;(refine o1_call (fun _=>fl_Read _ b ad c f p n h.up hp hd) rfl (fun ⟨a13,c13⟩ _=>?_);(try dsimp only)))|(refine k_fn 156 ?_;refine o1_call (fun hh=>fl_Contains _ a13 n c13 (seg f.bs p n) (rx_row hh) hsl) rfl (fun _ _=>?_))|refine ow ?_|refine ow2 ?_ ?_|fail)
 refine rt_tmp () rfl rfl (by rw [oddB1_not]) trivial ?_
 exact ent
set_option maxHeartbeats 4000000 in
theorem fl_Erase (H:List Hl) (b:Nat) (ad:Option Addr) (c:Nat) (f:Fl) (h:Hid) (s:Nat) (hk:FlOk f h) (hs:s<14) :
  Spec Tryz.prog 110 [.pointer (some ⟨b,0,none⟩),I s] (fB b ad c f h::fR ad c f::H) (fun h':Hid=>FlOk (eraseF f s).1 h') (fun _=>I (eraseF f s).2) (fun h'=>fB b ad c (eraseF f s).1 h'::fR ad c (eraseF f s).1::H):=by
 refine spec_fn (res:=fun h':Hid=>[fB b ad c (eraseF f s).1 h',fR ad c (eraseF f s).1]) [fB b ad c f h,fR ad c f] H Tryz.func110 rfl Tryz.ntmps110 (by kernel_rfl) rfl (fun W=>?_)
 dsimp only [List.cons_append,List.nil_append]
 obtain ⟨bs,er,wear,pwr,torn⟩:=f
 have hE:er.length=14:=hk.er
 have hbl:bs.length=3584:=hk.bs
 have hwr:wear≤10000:=hk.wr
 have hs2:s<er.length:=by omega
 have hs14:s<14:=hs
 have hgd:er.getD s 0=er[s]:=by rw [List.getD_eq_getElem?_getD,List.getElem?_eq_getElem hs2];rfl
 have hcast:(er[s]:Int)+1=((er[s]+1:Nat):Int):=by push_cast;rfl
 have hsm:er[s]≤1000000:=hk.ers _ (List.getElem_mem hs2)
 obtain ⟨tr,htr0⟩:∃ tr,torn.toNat % 257=tr:=⟨_,rfl⟩
 have htrl:tr<257:=by rw [←htr0];exact Nat.mod_lt _ (by decide)
 have htr:(max 0 torn) % 257=(tr:Int):=by omega
 by_cases hdn:∃ q,pwr = .down q
 ·obtain ⟨q,rfl⟩:=hdn
  repeat' (first|intro _|refine cw ?_|refine cw2 ?_ ?_|refine o1_peql rfl rfl ?_|(refine k_load ?_;refine ox_load (b:=b) (i:=16) rfl (flC_down hE) ?_)|refine ow ?_|refine ow2 ?_ ?_|fail)
  refine rt_tmp h rfl rfl rfl hk ?_
  exact ent
 by_cases hw:wear≤er[s]
 ·have hef:eraseF ⟨bs,er,wear,pwr,torn⟩ s=(⟨bs,er,wear,pwr,torn⟩,10):=by
   cases pwr with
   | down q=>exact absurd ⟨q,rfl⟩ hdn
   | on=>simp only [eraseF];rw [hgd,if_pos hw]
   | fuse n=>simp only [eraseF];rw [hgd,if_pos hw]
  have e16:(flC ad c ⟨bs,er,wear,pwr,torn⟩ h)[16]?=some (.bool false):=by
   rw [flC_down hE]
   cases pwr with
   | down q=>exact absurd ⟨q,rfl⟩ hdn
   | on=>rfl
   | fuse n=>rfl
  rw [hef]
  repeat' (first|intro _|refine cw ?_|refine cw2 ?_ ?_|refine o1_peql rfl rfl ?_|(refine k_load ?_;refine ox_load (b:=b) (i:=16) rfl e16 ?_)|refine ow ?_|refine ow2 ?_ ?_|fail)
  refine st_stages' [(0,_),(1,_)] rtD7_0 [] [⟨[0,1,2,3,4,5,6,7,8,9,10,11],[],none⟩] mixed cv (by kernel_rfl) (by kernel_rfl) ?_
  repeat' (first|intro _|refine sg ?_|(refine p_indexAddr ?_;refine po (by first|refine ox_idx_arr s (1+s) rfl rfl rfl hs14 (by omega) fz|fail) ?_)|(refine p_load ?_;refine po (by first|refine ox_load (v:=nI er[s]) (b:=b) (i:=1+s) rfl (flC_er hs2) fz|refine ox_load (v:=I wear) (b:=b) (i:=15) rfl (flC_wear hE) fz|fail) ?_)|(refine p_binOp .geq ?_;refine po (by first|refine o1_geq_t rfl rfl (by omega) fz|fail) ?_)|refine pw ?_|refine pdd ?_|refine ow ?_|fail)
  all_goals dsimp only [List.cons_append,List.nil_append]
  repeat' (first|intro _|refine cw ?_|refine cw2 ?_ ?_|refine ow ?_|refine ow2 ?_ ?_|fail)
  refine rt_tmp h rfl rfl rfl hk ?_
  exact ent
 have hers:∀ x∈er.set s (er[s]+1),x≤1000000:=fun x hx=>by
  rcases List.mem_or_eq_of_mem_set hx with q|q
  ·exact hk.ers x q
  ·omega
 cases pwr with
 | down q=>exact absurd ⟨q,rfl⟩ hdn
 | on =>
  rw [show eraseF ⟨bs,er,wear,.on,torn⟩ s=(⟨fillB bs (s*256) 256,er.set s (er[s]+1),wear,.on,torn⟩,0) by simp only [eraseF];rw [hgd,if_neg hw]]
  repeat' (first|intro _|refine cw ?_|refine cw2 ?_ ?_|refine o1_peql rfl rfl ?_|(refine k_load ?_;refine ox_load (b:=b) (i:=16) rfl (flC_down hE) ?_)|refine ow ?_|refine ow2 ?_ ?_|fail)
  refine st_stages' [(0,_),(1,_)] rtD7_1 [] [⟨[0,1,2,3,4,5,6,7,8,9,10,11],[],none⟩] mixed cv (by kernel_rfl) (by kernel_rfl) ?_
  repeat' (first|intro _|refine sg ?_|(refine p_indexAddr ?_;refine po (by first|refine ox_idx_arr s (1+s) rfl rfl rfl hs14 (by omega) fz|fail) ?_)|(refine p_load ?_;refine po (by first|refine ox_load (v:=nI er[s]) (b:=b) (i:=1+s) rfl (flC_er hs2) fz|refine ox_load (v:=I wear) (b:=b) (i:=15) rfl (flC_wear hE) fz|fail) ?_)|(refine p_binOp .geq ?_;refine po (by first|refine o1_geq_f rfl rfl (by omega) fz|fail) ?_)|refine pw ?_|refine pdd ?_|refine ow ?_|fail)
  all_goals dsimp only [List.cons_append,List.nil_append]
  repeat' (first|intro _|refine cw ?_|refine cw2 ?_ ?_|(refine k_fn 90 ?_;(refine o1_call_box (b:=b) (fun _=>fl_step _ b ad c ⟨bs,er,wear,.on,torn⟩ h hk rfl) rfl (fun h2 hk2=>?_);(try dsimp only [Fl.stepped,Fl.goes] at hk2 ⊢)))|(refine k_load ?_;refine ox_load (v:=I torn) (b:=b) (i:=19) rfl (flC_torn hE) ?_)|(refine k_call ?_;refine o1_max (r:=max 0 torn) rfl rfl (by omega) ?_)|(refine k_binOp .rem ?_;(refine o1_rem_nn rfl rfl (by omega) ?_;rw [htr]))|refine ow ?_|refine ow2 ?_ ?_|fail)
  refine st_stages' [(0,_),(1,_)] rtD7_2 [10] [⟨[0,1,2,3,4,5,6,7,8,9],[],some 10⟩,⟨[],[],none⟩] mixed cv (by kernel_rfl) (by kernel_rfl) ?_
  repeat' (first|intro _|refine sg ?_|(refine p_indexAddr ?_;refine po (by first|refine ox_idx_arr s (1+s) rfl rfl rfl hs14 (by omega) fz|fail) ?_)|(refine p_load ?_;refine po (by first|refine ox_load (v:=nI er[s]) (b:=b) (i:=1+s) rfl (flC_er hs2) fz|fail) ?_)|(refine p_binOp .add ?_;refine po (by first|((refine o1_add rfl rfl (by omega) ?_;rw [hcast]);all_goals exact fz)|fail) ?_)|refine pw ?_|refine pdd ?_|(refine k_store ?_;refine ox_stores (b:=b) (i:=1+s) rfl rfl (by rw [flC_len hE];omega) rfl (flC_setEr (v:=er[s]+1) hs2) ?_)|refine ow ?_|fail)
  all_goals dsimp only [List.cons_append,List.nil_append]
  repeat' (first|intro _|refine cw ?_|refine cw2 ?_ ?_|refine ow ?_|refine ow2 ?_ ?_|fail)
  refine st_loop (S:=Nat) (fun j=>[(0,.pointer (some ⟨b,0,none⟩)),(1,I s),(6,.bool true),(55,I 256),(56,I j)]) (fun j=>[fB b ad c ⟨bs,er.set s (er[s]+1),wear,.on,torn⟩ h2,.any (slk ad c (fillB bs (s*256) j)),.any (stars H)]) (fun j=>j≤256) (fun j=>256 - j) 0 (Nat.zero_le _) cv (by rw [fillB_zero];exact ent) ?_
  intro j hj
  by_cases hjt:j<256
  ·have hpn:(s:Int)*256+(j:Int)=((s*256+j:Nat):Int):=by omega
   have hBl:(fillB bs (s*256) j).length=3584:=by rw [fillB_len (by omega)];exact hbl
   have hnx:=fillB_next (l:=bs) (a:=s*256) (i:=j) (by omega)
   repeat' (first|intro _|refine cw ?_|refine cw2 ?_ ?_|(refine k_binOp .mul ?_;refine o1_mul rfl rfl (by omega) ?_)|(refine k_binOp .add ?_;(refine o1_add rfl rfl (by omega) ?_;rw [hpn]))|(refine k_load ?_;refine ox_load (b:=b) (i:=0) rfl flC_slice ?_)|(refine k_indexAddr ?_;refine o1_iah (enc:=B) (ad:=ad) (c:=c) (xs:=fillB bs (s*256) j) (s*256+j) rfl rfl rx_fl hBl.symm rfl (by omega) ?_)|(refine k_store ?_;(refine ox_store_flenc (v:=0xff#8) (s*256+j) (ad:=ad) (c:=c) (l:=fillB bs (s*256) j) rfl rfl (by omega) ?_;rw [hnx]))|refine ow ?_|refine ow2 ?_ ?_|fail)
   refine nx_again (j+1) (by omega) (by omega) cv ?_
   exact ent
  ·have:j=256:=by omega
   rw [this]
   repeat' (first|intro _|refine cw ?_|refine cw2 ?_ ?_|refine ow ?_|refine ow2 ?_ ?_|fail)
   refine rt_tmp h2 rfl rfl rfl ⟨by show (er.set s (er[s]+1)).length=14;rw [List.length_set];exact hE,by show (fillB bs (s*256) 256).length=3584;rw [fillB_len (by omega)];exact hbl,hk2.wr,hers,hk2.pw⟩ ?_
   exact ent
 | fuse n =>
  cases n with
  | zero =>
   rw [show eraseF ⟨bs,er,wear,.fuse 0,torn⟩ s=(⟨fillB bs (s*256) tr,er.set s (er[s]+1),wear,.down none,torn⟩,11) by simp only [eraseF];rw [hgd,if_neg hw,htr0]]
   repeat' (first|intro _|refine cw ?_|refine cw2 ?_ ?_|refine o1_peql rfl rfl ?_|(refine k_load ?_;refine ox_load (b:=b) (i:=16) rfl (flC_down hE) ?_)|refine ow ?_|refine ow2 ?_ ?_|fail)
   refine st_stages' [(0,_),(1,_)] rtD7_3 [] [⟨[0,1,2,3,4,5,6,7,8,9,10,11],[],none⟩] mixed cv (by kernel_rfl) (by kernel_rfl) ?_
   repeat' (first|intro _|refine sg ?_|(refine p_indexAddr ?_;refine po (by first|refine ox_idx_arr s (1+s) rfl rfl rfl hs14 (by omega) fz|fail) ?_)|(refine p_load ?_;refine po (by first|refine ox_load (v:=nI er[s]) (b:=b) (i:=1+s) rfl (flC_er hs2) fz|refine ox_load (v:=I wear) (b:=b) (i:=15) rfl (flC_wear hE) fz|fail) ?_)|(refine p_binOp .geq ?_;refine po (by first|refine o1_geq_f rfl rfl (by omega) fz|fail) ?_)|refine pw ?_|refine pdd ?_|refine ow ?_|fail)
   all_goals dsimp only [List.cons_append,List.nil_append]
   repeat' (first|intro _|refine cw ?_|refine cw2 ?_ ?_|(refine k_fn 90 ?_;(refine o1_call_box (b:=b) (fun _=>fl_step _ b ad c ⟨bs,er,wear,.fuse 0,torn⟩ h hk rfl) rfl (fun h2 hk2=>?_);(try dsimp only [Fl.stepped,Fl.goes] at hk2 ⊢)))|(refine k_load ?_;refine ox_load (v:=I torn) (b:=b) (i:=19) rfl (flC_torn hE) ?_)|(refine k_call ?_;refine o1_max (r:=max 0 torn) rfl rfl (by omega) ?_)|(refine k_binOp .rem ?_;(refine o1_rem_nn rfl rfl (by omega) ?_;rw [htr]))|refine ow ?_|refine ow2 ?_ ?_|fail)
   refine st_stages' [(0,_),(1,_)] rtD7_4 [10] [⟨[0,1,2,3,4,5,6,7,8,9],[],some 10⟩,⟨[],[],none⟩] mixed cv (by kernel_rfl) (by kernel_rfl) ?_
   repeat' (first|intro _|refine sg ?_|(refine p_indexAddr ?_;refine po (by first|refine ox_idx_arr s (1+s) rfl rfl rfl hs14 (by omega) fz|fail) ?_)|(refine p_load ?_;refine po (by first|refine ox_load (v:=nI er[s]) (b:=b) (i:=1+s) rfl (flC_er hs2) fz|fail) ?_)|(refine p_binOp .add ?_;refine po (by first|((refine o1_add rfl rfl (by omega) ?_;rw [hcast]);all_goals exact fz)|fail) ?_)|refine pw ?_|refine pdd ?_|(refine k_store ?_;refine ox_stores (b:=b) (i:=1+s) rfl rfl (by rw [flC_len hE];omega) rfl (flC_setEr (v:=er[s]+1) hs2) ?_)|refine ow ?_|fail)
   all_goals dsimp only [List.cons_append,List.nil_append]
   repeat' (first|intro _|refine cw ?_|refine cw2 ?_ ?_|refine ow ?_|refine ow2 ?_ ?_|fail)
   refine st_loop (S:=Nat) (fun j=>[(0,.pointer (some ⟨b,0,none⟩)),(1,I s),(6,.bool false),(55,I tr),(56,I j)]) (fun j=>[fB b ad c ⟨bs,er.set s (er[s]+1),wear,.down none,torn⟩ h2,.any (slk ad c (fillB bs (s*256) j)),.any (stars H)]) (fun j=>j≤tr) (fun j=>tr - j) 0 (Nat.zero_le _) cv (by rw [fillB_zero];exact ent) ?_
   intro j hj
   by_cases hjt:j<tr
   ·have hpn:(s:Int)*256+(j:Int)=((s*256+j:Nat):Int):=by omega
    have hBl:(fillB bs (s*256) j).length=3584:=by rw [fillB_len (by omega)];exact hbl
    have hnx:=fillB_next (l:=bs) (a:=s*256) (i:=j) (by omega)
    repeat' (first|intro _|refine cw ?_|refine cw2 ?_ ?_|(refine k_binOp .mul ?_;refine o1_mul rfl rfl (by omega) ?_)|(refine k_binOp .add ?_;(refine o1_add rfl rfl (by omega) ?_;rw [hpn]))|(refine k_load ?_;refine ox_load (b:=b) (i:=0) rfl flC_slice ?_)|(refine k_indexAddr ?_;refine o1_iah (enc:=B) (ad:=ad) (c:=c) (xs:=fillB bs (s*256) j) (s*256+j) rfl rfl rx_fl hBl.symm rfl (by omega) ?_)|(refine k_store ?_;(refine ox_store_flenc (v:=0xff#8) (s*256+j) (ad:=ad) (c:=c) (l:=fillB bs (s*256) j) rfl rfl (by omega) ?_;rw [hnx]))|refine ow ?_|refine ow2 ?_ ?_|fail)
    refine nx_again (j+1) (by omega) (by omega) cv ?_
    exact ent
   ·have:j=tr:=by omega
    rw [this]
    repeat' (first|intro _|refine cw ?_|refine cw2 ?_ ?_|refine ow ?_|refine ow2 ?_ ?_|fail)
    refine rt_tmp h2 rfl rfl rfl ⟨by show (er.set s (er[s]+1)).length=14;rw [List.length_set];exact hE,by show (fillB bs (s*256) tr).length=3584;rw [fillB_len (by omega)];exact hbl,hk2.wr,hers,hk2.pw⟩ ?_
    exact ent
  | succ n =>
   rw [show eraseF ⟨bs,er,wear,.fuse (n+1),torn⟩ s=(⟨fillB bs (s*256) 256,er.set s (er[s]+1),wear,.fuse n,torn⟩,0) by simp only [eraseF];rw [hgd,if_neg hw]]
   repeat' (first|intro _|refine cw ?_|refine cw2 ?_ ?_|refine o1_peql rfl rfl ?_|(refine k_load ?_;refine ox_load (b:=b) (i:=16) rfl (flC_down hE) ?_)|refine ow ?_|refine ow2 ?_ ?_|fail)
   refine st_stages' [(0,_),(1,_)] rtD7_5 [] [⟨[0,1,2,3,4,5,6,7,8,9,10,11],[],none⟩] mixed cv (by kernel_rfl) (by kernel_rfl) ?_
   repeat' (first|intro _|refine sg ?_|(refine p_indexAddr ?_;refine po (by first|refine ox_idx_arr s (1+s) rfl rfl rfl hs14 (by omega) fz|fail) ?_)|(refine p_load ?_;refine po (by first|refine ox_load (v:=nI er[s]) (b:=b) (i:=1+s) rfl (flC_er hs2) fz|refine ox_load (v:=I wear) (b:=b) (i:=15) rfl (flC_wear hE) fz|fail) ?_)|(refine p_binOp .geq ?_;refine po (by first|refine o1_geq_f rfl rfl (by omega) fz|fail) ?_)|refine pw ?_|refine pdd ?_|refine ow ?_|fail)
   all_goals dsimp only [List.cons_append,List.nil_append]
   repeat' (first|intro _|refine cw ?_|refine cw2 ?_ ?_|(refine k_fn 90 ?_;(refine o1_call_box (b:=b) (fun _=>fl_step _ b ad c ⟨bs,er,wear,.fuse (n+1),torn⟩ h hk rfl) rfl (fun h2 hk2=>?_);(try dsimp only [Fl.stepped,Fl.goes] at hk2 ⊢)))|(refine k_load ?_;refine ox_load (v:=I torn) (b:=b) (i:=19) rfl (flC_torn hE) ?_)|(refine k_call ?_;refine o1_max (r:=max 0 torn) rfl rfl (by omega) ?_)|(refine k_binOp .rem ?_;(refine o1_rem_nn rfl rfl (by omega) ?_;rw [htr]))|refine ow ?_|refine ow2 ?_ ?_|fail)
   refine st_stages' [(0,_),(1,_)] rtD7_6 [10] [⟨[0,1,2,3,4,5,6,7,8,9],[],some 10⟩,⟨[],[],none⟩] mixed cv (by kernel_rfl) (by kernel_rfl) ?_
   repeat' (first|intro _|refine sg ?_|(refine p_indexAddr ?_;refine po (by first|refine ox_idx_arr s (1+s) rfl rfl rfl hs14 (by omega) fz|fail) ?_)|(refine p_load ?_;refine po (by first|refine ox_load (v:=nI er[s]) (b:=b) (i:=1+s) rfl (flC_er hs2) fz|fail) ?_)|(refine p_binOp .add ?_;refine po (by first|((refine o1_add rfl rfl (by omega) ?_;rw [hcast]);all_goals exact fz)|fail) ?_)|refine pw ?_|refine pdd ?_|(refine k_store ?_;refine ox_stores (b:=b) (i:=1+s) rfl rfl (by rw [flC_len hE];omega) rfl (flC_setEr (v:=er[s]+1) hs2) ?_)|refine ow ?_|fail)
   all_goals dsimp only [List.cons_append,List.nil_append]
   repeat' (first|intro _|refine cw ?_|refine cw2 ?_ ?_|refine ow ?_|refine ow2 ?_ ?_|fail)
   refine st_loop (S:=Nat) (fun j=>[(0,.pointer (some ⟨b,0,none⟩)),(1,I s),(6,.bool true),(55,I 256),(56,I j)]) (fun j=>[fB b ad c ⟨bs,er.set s (er[s]+1),wear,.fuse n,torn⟩ h2,.any (slk ad c (fillB bs (s*256) j)),.any (stars H)]) (fun j=>j≤256) (fun j=>256 - j) 0 (Nat.zero_le _) cv (by rw [fillB_zero];exact ent) ?_
   intro j hj
   by_cases hjt:j<256
   ·have hpn:(s:Int)*256+(j:Int)=((s*256+j:Nat):Int):=by omega
    have hBl:(fillB bs (s*256) j).length=3584:=by rw [fillB_len (by omega)];exact hbl
    have hnx:=fillB_next (l:=bs) (a:=s*256) (i:=j) (by omega)
    repeat' (first|intro _|refine cw ?_|refine cw2 ?_ ?_|(refine k_binOp .mul ?_;refine o1_mul rfl rfl (by omega) ?_)|(refine k_binOp .add ?_;(refine o1_add rfl rfl (by omega) ?_;rw [hpn]))|(refine k_load ?_;refine ox_load (b:=b) (i:=0) rfl flC_slice ?_)|(refine k_indexAddr ?_;refine o1_iah (enc:=B) (ad:=ad) (c:=c) (xs:=fillB bs (s*256) j) (s*256+j) rfl rfl rx_fl hBl.symm rfl (by omega) ?_)|(refine k_store ?_;(refine ox_store_flenc (v:=0xff#8) (s*256+j) (ad:=ad) (c:=c) (l:=fillB bs (s*256) j) rfl rfl (by omega) ?_;rw [hnx]))|refine ow ?_|refine ow2 ?_ ?_|fail)
    refine nx_again (j+1) (by omega) (by omega) cv ?_
    exact ent
   ·have:j=256:=by omega
    rw [this]
    repeat' (first|intro _|refine cw ?_|refine cw2 ?_ ?_|refine ow ?_|refine ow2 ?_ ?_|fail)
    refine rt_tmp h2 rfl rfl rfl ⟨by show (er.set s (er[s]+1)).length=14;rw [List.length_set];exact hE,by show (fillB bs (s*256) 256).length=3584;rw [fillB_len (by omega)];exact hbl,hk2.wr,hers,hk2.pw⟩ ?_
    exact ent
theorem fl_Bytes (H:List Hl) (b:Nat) (ad:Option Addr) (c:Nat) (f:Fl) (h:RdFl (stars H) b ad c f) :
  Spec Tryz.prog 45 [.pointer (some ⟨b,0,none⟩)] H (fun _:Option Addr × Nat=>True) (fun r => .slice r.1 3584 r.2) (fun r => .row 5 1 (.slice r.1 3584 r.2) 3584 (f.bs.map B)::H):=by
 refine spec_pure (res:=fun r:Option Addr × Nat=>[.row 5 1 (.slice r.1 3584 r.2) 3584 (f.bs.map B)]) H Tryz.func45 rfl Tryz.ntmps45 (by kernel_rfl) rfl (fun W=>?_)
 have hs:=h.s
 have hl:=h.l
 repeat' (first|intro _|refine cw ?_|refine cw2 ?_ ?_|refine o1_peql rfl rfl ?_|(refine k_load ?_;refine ox_load_any rfl hs ?_)|(refine k_fn 29 ?_;(refine o1_call (fun _=>(slices_Clone _ ad c f.bs h.r.up (by omega)).argE (args':=[.slice ad 3584 c]) (by rw [hl])) rfl (fun ⟨a9,c9⟩ _=>?_);(try dsimp only);rw [hl]))|refine ow ?_|refine ow2 ?_ ?_|fail)
 refine rt_tmp (a9,c9) rfl rfl rfl trivial ?_
 exact ent
def SlotD.same (x y:SlotD):Bool:=decide ((x.v.toNat:Int)=(y.v.toNat:Int)) && (decide (x.n=y.n) && decide (x.h.l=y.h.l))
abbrev RdS (A:Hp→Prop) (h:SlD (BitVec 8)):Prop:=Rs A B h.ad h.cap h.l
structure StD.Rd (A:Hp→Prop) (x:StD):Prop where
 s0:RdS A x.s0.h
 s1:RdS A x.s1.h
 m:RdS A x.m.h
def StD.same (x y:StD):Bool:=decide (x.a=y.a) && (decide (x.t=y.t) && (decide ((x.f.toNat:Int)=(y.f.toNat:Int)) && (decide ((x.g.toNat:Int)=(y.g.toNat:Int)) && ((x.on == y.on) && (x.s0.same y.s0 && (x.s1.same y.s1 && x.m.same y.m))))))
theorem SlotD.same_self (x:SlotD):x.same x=true:=by simp [SlotD.same]
theorem ManD.same_self (x:ManD):x.same x=true:=by simp [ManD.same]
theorem StD.same_self (x:StD):x.same x=true:=by simp [StD.same,SlotD.same_self,ManD.same_self]
def copyS (x:StD) (r0 r1 r2:PA):StD:=⟨x.a,x.t,x.f,x.g,⟨x.s0.v,x.s0.n,⟨r0.1,r0.2,x.s0.h.l⟩⟩,⟨x.s1.v,x.s1.n,⟨r1.1,r1.2,x.s1.h.l⟩⟩,x.on,⟨x.m.s,x.m.v,x.m.n,x.m.z,x.m.p,⟨r2.1,r2.2,x.m.h.l⟩⟩⟩
def dropS (x:StD) (r0 r1:PA):StD:=⟨x.a,x.t,x.f,x.g,⟨x.s0.v,x.s0.n,⟨r0.1,r0.2,x.s0.h.l⟩⟩,⟨x.s1.v,x.s1.n,⟨r1.1,r1.2,x.s1.h.l⟩⟩,false,zM⟩
abbrev rowL (r:PA) (l:List (BitVec 8)):Hl := .row 5 1 (.slice r.1 l.length r.2) l.length (l.map B)
set_option maxHeartbeats 2000000 in
theorem bt_copied (H:List Hl) (x:StD) (hx:x.Rd (stars H)) (hl:x.light) :
  Spec Tryz.prog 100 [x.V] H (fun _:PA × PA × PA=>True) (fun r=>(copyS x r.1 r.2.1 r.2.2).V) (fun r=>rowL r.1 x.s0.h.l::rowL r.2.1 x.s1.h.l::rowL r.2.2 x.m.h.l::H):=by
 refine spec_pure (res:=fun r:PA × PA × PA=>[rowL r.1 x.s0.h.l,rowL r.2.1 x.s1.h.l,rowL r.2.2 x.m.h.l]) H Tryz.func100 rfl Tryz.ntmps100 (by kernel_rfl) rfl (fun W=>?_)
 have e0:=hx.s0
 have e1:=hx.s1
 have e2:=hx.m
 obtain ⟨q0,q1,q2⟩:=hl
 repeat' (first|intro _|refine cw ?_|refine cw2 ?_ ?_|refine ow ?_|refine ow2 ?_ ?_|fail)
 refine st_rounds 2 ?_
 repeat' (first|intro _|refine cw ?_|refine cw2 ?_ ?_|(refine k_indexAddr ?_;first|refine ox_idx_arr 0 4 rfl rfl rfl (by decide) rfl ?_|refine ox_idx_arr 1 7 rfl rfl rfl (by decide) rfl ?_)|(refine k_fn 29 ?_;first|(refine o1_call (fun _=>slices_Clone _ _ _ x.s0.h.l (Rs.up e0) (by omega)) rfl (fun ⟨a5,c5⟩ _=>?_);dsimp only)|(refine o1_call (fun _=>slices_Clone _ _ _ x.s1.h.l (Rs.up e1) (by omega)) rfl (fun ⟨a6,c6⟩ _=>?_);dsimp only)|(refine o1_call (fun _=>slices_Clone _ _ _ x.m.h.l (Rs.up e2) (by omega)) rfl (fun ⟨a7,c7⟩ _=>?_);dsimp only))|refine ow ?_|refine ow2 ?_ ?_|fail)
 refine rt_cell (⟨a5,c5⟩,⟨a6,c6⟩,⟨a7,c7⟩) rfl rfl rfl rfl trivial ?_
 exact ent
set_option maxHeartbeats 2000000 in
theorem bt_Drop (H:List Hl) (x:StD) (hx:x.Rd (stars H)) (hm:x.may=true) :
  Spec Tryz.prog 125 [x.V] H (fun _:PA × PA=>True) (fun r=>(dropS x r.1 r.2).V) (fun r=>rowL r.1 x.s0.h.l::rowL r.2 x.s1.h.l::H):=by
 refine spec_pure (res:=fun r:PA × PA=>[rowL r.1 x.s0.h.l,rowL r.2 x.s1.h.l]) H Tryz.func125 rfl Tryz.ntmps125 (by kernel_rfl) rfl (fun W=>?_)
 have e0:=hx.s0
 have e1:=hx.s1
 have e2:=hx.m
 have hl:x.light:=by
  rcases Classical.em x.light with h|h
  ·exact h
  ·rw [StD.heavy h] at hm;cases hm
 repeat' (first|intro _|refine cw ?_|refine cw2 ?_ ?_|(refine k_fn 97 ?_;refine o1_call (fun _=>(st_May _ x).bv (b:=true) hm) rfl (fun _ _=>?_))|(refine k_fn 100 ?_;(refine o1_call (fun _=>bt_copied _ x ⟨Rs.up e0,Rs.up e1,Rs.up e2⟩ hl) rfl (fun ⟨r0,r1,r2⟩ _=>?_);dsimp only [StD.V,StD.c,copyS]))|refine ow ?_|refine ow2 ?_ ?_|fail)
 refine rt_cell (r0,r1) rfl rfl rfl rfl trivial ?_
 exact ent
def newSl (x:StD):SlotD:=⟨x.m.v,x.m.n,x.m.h⟩
def actS (x:StD):StD:=⟨1 - x.a,3,x.f,x.g,if x.a=0 then x.s0 else newSl x,if x.a=0 then newSl x else x.s1,false,zM⟩
theorem copy_may (x:StD) (r0 r1 r2:PA):(copyS x r0 r1 r2).may=x.may:=by
 have e1:(copyS x r0 r1 r2).cur.something=x.cur.something:=by
  unfold StD.cur
  by_cases ha:x.a=0
  ·rw [if_pos ha,if_pos (show (copyS x r0 r1 r2).a=0 from ha)];rfl
  ·rw [if_neg ha,if_neg (show ¬ (copyS x r0 r1 r2).a=0 from ha)];rfl
 have e2:(copyS x r0 r1 r2).oth.something=x.oth.something:=by
  unfold StD.oth
  by_cases ha:x.a=0
  ·rw [if_pos ha,if_pos (show (copyS x r0 r1 r2).a=0 from ha)];rfl
  ·rw [if_neg ha,if_neg (show ¬ (copyS x r0 r1 r2).a=0 from ha)];rfl
 have e3:(copyS x r0 r1 r2).oth.nothing=x.oth.nothing:=by
  unfold StD.oth
  by_cases ha:x.a=0
  ·rw [if_pos ha,if_pos (show (copyS x r0 r1 r2).a=0 from ha)];rfl
  ·rw [if_neg ha,if_neg (show ¬ (copyS x r0 r1 r2).a=0 from ha)];rfl
 unfold StD.may
 rw [e1,e2,e3]
 rfl
theorem may_light {x:StD} (h:x.may=true):x.light:=by
 rcases Classical.em x.light with hl|hl
 ·exact hl
 ·rw [StD.heavy hl] at h;cases h
structure MayF (x:StD):Prop where
 a:x.a=0∨x.a=1
 t:0≤x.t∧x.t≤3
 c:x.cur.something=true
 o:(x.oth.something=true)∨(x.oth.nothing=true∧x.t≤0)
 m:(if x.on then x.m.may else x.m.none)=true
theorem may_iff {x:StD}:x.may=true↔MayF x:=by
 simp only [StD.may,Bool.and_eq_true,Bool.or_eq_true,decide_eq_true_eq]
 constructor
 ·rintro ⟨⟨⟨⟨h1,h2⟩,h3⟩,h4⟩,h5⟩;exact ⟨h1,h2,h3,h4,h5⟩
 ·rintro ⟨h1,h2,h3,h4,h5⟩;exact ⟨⟨⟨⟨h1,h2⟩,h3⟩,h4⟩,h5⟩
theorem man_may {m:ManD} (h:m.may=true):1≤m.n∧m.n≤512∧m.h.l.length=32:=by
 simp only [ManD.may,mayP,Bool.and_eq_true,decide_eq_true_eq] at h
 refine ⟨?_,?_,h.2⟩
 ·have h1:=h.1.1
  unfold count at h1
  split at h1
  ·omega
  ·omega
 ·have h1:=h.1.1
  unfold count at h1
  split at h1
  ·omega
  ·omega
theorem act_cur (x:StD) (ha:x.a=0∨x.a=1):(actS x).cur=newSl x∧(actS x).oth=x.cur:=by
 unfold StD.cur StD.oth actS
 rcases ha with h|h
 ·simp [h]
 ·simp [h]
theorem act_may {x:StD} (h:x.may=true) (ho:x.on=true) (ht:x.t=0):(actS x).may=true:=by
 obtain ⟨h1,h2,h3,h4,h5⟩:=may_iff.1 h
 rw [if_pos ho] at h5
 obtain ⟨q1,q2,q3⟩:=man_may h5
 obtain ⟨e1,e2⟩:=act_cur x h1
 refine may_iff.2 ⟨by show 1 - x.a=0∨1 - x.a=1;omega,by show 0≤(3:Int)∧(3:Int)≤3;omega,?_,.inl ?_,by rfl⟩
 ·rw [e1];exact decide_eq_true (show x.m.h.l.length=32∧1≤x.m.n∧x.m.n≤512 from ⟨q3,q1,q2⟩)
 ·rw [e2];exact h3
theorem r7_Count (H:List Hl) (l s:Int):Spec Tryz.prog 11 [I l,I s] H (fun _:Unit=>True) (fun _=>I (count l s)) (fun _=>H):=by
 refine spec_pure (res:=fun _=>[]) H Tryz.func11 rfl Tryz.ntmps11 (by kernel_rfl) rfl (fun W=>?_)
 repeat' (first|intro _|refine cw ?_|refine cw2 ?_ ?_|(refine k_binOp .quo ?_;refine o1_quo rfl rfl (by omega) ?_)|refine ow ?_|refine ow2 ?_ ?_|fail)
 all_goals
  refine rt_tmp () rfl rfl ?_ trivial ?_
 all_goals first
  | (exact ent;done)
  | skip
 all_goals
  unfold count
  split <;> first|rfl|omega|(split <;> first|rfl|omega)
end Go.Dp
namespace Go.Dp
namespace Sha
def rr (x:BitVec 32) (n:Nat):BitVec 32:=(x >>> n) ||| (x <<< (32 - n))
def s0 (x:BitVec 32):BitVec 32:=rr x 7 ^^^ rr x 18 ^^^ (x >>> 3)
def s1 (x:BitVec 32):BitVec 32:=rr x 17 ^^^ rr x 19 ^^^ (x >>> 10)
def wstep (ws:List (BitVec 32)):BitVec 32:=s1 (ws.getD (ws.length - 2) 0)+ws.getD (ws.length - 7) 0+s0 (ws.getD (ws.length - 15) 0)+ws.getD (ws.length - 16) 0
def chunk (b:List (BitVec 8)) (j:Nat):BitVec 32:=num32 ((b.drop (4*j)).take 4)
def first (b:List (BitVec 8)):List (BitVec 32):=(List.range 16).map (chunk b)
def ext:Nat→List (BitVec 32)→List (BitVec 32)
 | 0,ws=>ws
 | n+1,ws=>let w:=ext n ws;w++[wstep w]
def wordsS (b:List (BitVec 8)):List (BitVec 32):=ext 48 (first b)
structure R8 where
 a:BitVec 32
 b:BitVec 32
 c:BitVec 32
 d:BitVec 32
 e:BitVec 32
 f:BitVec 32
 g:BitVec 32
 h:BitVec 32
def R8.l (x:R8):List (BitVec 32):=[x.a,x.b,x.c,x.d,x.e,x.f,x.g,x.h]
def one (x:R8) (k w:BitVec 32):BitVec 32:=x.h+(rr x.e 6 ^^^ rr x.e 11 ^^^ rr x.e 25)+((x.e &&& x.f) ||| (~~~x.e &&& x.g))+k+w
def two (x:R8):BitVec 32:=(rr x.a 2 ^^^ rr x.a 13 ^^^ rr x.a 22)+((x.a &&& x.b) ||| (x.a &&& x.c) ||| (x.b &&& x.c))
def rnd (k w:BitVec 32) (x:R8):R8:=⟨one x k w+two x,x.a,x.b,x.c,x.d+one x k w,x.e,x.f,x.g⟩
def K:List (BitVec 32):=[0x428a2f98,0x71374491,0xb5c0fbcf,0xe9b5dba5,0x3956c25b,0x59f111f1,0x923f82a4,0xab1c5ed5,
 0xd807aa98,0x12835b01,0x243185be,0x550c7dc3,0x72be5d74,0x80deb1fe,0x9bdc06a7,0xc19bf174,
 0xe49b69c1,0xefbe4786,0x0fc19dc6,0x240ca1cc,0x2de92c6f,0x4a7484aa,0x5cb0a9dc,0x76f988da,
 0x983e5152,0xa831c66d,0xb00327c8,0xbf597fc7,0xc6e00bf3,0xd5a79147,0x06ca6351,0x14292967,
 0x27b70a85,0x2e1b2138,0x4d2c6dfc,0x53380d13,0x650a7354,0x766a0abb,0x81c2c92e,0x92722c85,
 0xa2bfe8a1,0xa81a664b,0xc24b8b70,0xc76c51a3,0xd192e819,0xd6990624,0xf40e3585,0x106aa070,
 0x19a4c116,0x1e376c08,0x2748774c,0x34b0bcb5,0x391c0cb3,0x4ed8aa4a,0x5b9cca4f,0x682e6ff3,
 0x748f82ee,0x78a5636f,0x84c87814,0x8cc70208,0x90befffa,0xa4506ceb,0xbef9a3f7,0xc67178f2]
def H0:R8:=⟨0x6a09e667,0xbb67ae85,0x3c6ef372,0xa54ff53a,0x510e527f,0x9b05688c,0x1f83d9ab,0x5be0cd19⟩
def rds (ws:List (BitVec 32)):Nat→R8→R8
 | 0,x=>x
 | i+1,x=>rnd (K.getD i 0) (ws.getD i 0) (rds ws i x)
def R8.add (s x:R8):R8:=⟨s.a+x.a,s.b+x.b,s.c+x.c,s.d+x.d,s.e+x.e,s.f+x.f,s.g+x.g,s.h+x.h⟩
def comp (s:R8) (b:List (BitVec 8)):R8:=s.add (rds (wordsS b) 64 s)
def st (t:List (BitVec 8)):Nat→R8
 | 0=>H0
 | j+1=>comp (st t j) ((t.drop (64*j)).take 64)
def be8 (n:BitVec 64):List (BitVec 8):=[(n >>> 56).setWidth 8,(n >>> 48).setWidth 8,(n >>> 40).setWidth 8,(n >>> 32).setWidth 8,(n >>> 24).setWidth 8,(n >>> 16).setWidth 8,(n >>> 8).setWidth 8,n.setWidth 8]
def gap (n:Nat):Nat:=(119 - n % 64) % 64
def pad (b:List (BitVec 8)):List (BitVec 8):=b++[0x80#8]++List.replicate (gap b.length) 0#8++be8 (BitVec.ofNat 64 b.length <<< 3)
def out (x:R8):List (BitVec 8):=x.l.flatMap be4
def sha (b:List (BitVec 8)):List (BitVec 8):=out (st (pad b) ((pad b).length / 64))
theorem K_len:K.length=64:=rfl
theorem pad_len (b:List (BitVec 8)):(pad b).length=b.length+9+gap b.length:=by simp [pad,be8];omega
theorem pad_mod (b:List (BitVec 8)):(pad b).length % 64=0:=by rw [pad_len,gap];omega
theorem out_len (x:R8):(out x).length=32:=by simp [out,R8.l,be4]
theorem sha_len (b:List (BitVec 8)):(sha b).length=32:=out_len _
theorem ext_len:∀ (n:Nat) (ws:List (BitVec 32)),(ext n ws).length=ws.length+n
 | 0,ws=>rfl
 | n+1,ws=>by simp only [ext,List.length_append,List.length_singleton];rw [ext_len n ws];omega
theorem first_len (b:List (BitVec 8)):(first b).length=16:=by simp [first]
theorem wordsS_len (b:List (BitVec 8)):(wordsS b).length=64:=by rw [wordsS,ext_len,first_len]
theorem ext_take:∀ (n m:Nat) (ws:List (BitVec 32)),m≤n→(ext n ws).take (ws.length+m)=ext m ws
 | 0,m,ws,h=>by
  have:m=0:=by omega
  subst this
  simp [ext]
 | n+1,m,ws,h=>by
  by_cases hm:m=n+1
  ·subst hm
   rw [List.take_of_length_le]
   rw [ext_len];omega
  ·simp only [ext]
   rw [List.take_append_of_le_length (by rw [ext_len];omega),ext_take n m ws (by omega)]
theorem words_take (b:List (BitVec 8)) (i:Nat) (h1:16≤i) (h2:i≤64):(wordsS b).take i=ext (i - 16) (first b):=by
 have:=ext_take 48 (i - 16) (first b) (by omega)
 rw [first_len,show 16+(i - 16)=i from by omega] at this
 exact this
theorem words_lo (b:List (BitVec 8)) (i:Nat) (h:i<16):(wordsS b).getD i 0=chunk b i:=by
 have h1:(wordsS b).take 16=first b:=words_take b 16 (by omega) (by omega)
 have:((wordsS b).take 16).getD i 0=chunk b i:=by
  rw [h1];simp [first,List.getD_eq_getElem?_getD,h]
 rw [←this]
 simp [List.getD_eq_getElem?_getD,List.getElem?_take,h]
theorem words_hi (b:List (BitVec 8)) (i:Nat) (h1:16≤i) (h2:i<64):(wordsS b).getD i 0=s1 ((wordsS b).getD (i - 2) 0)+(wordsS b).getD (i - 7) 0+s0 ((wordsS b).getD (i - 15) 0)+(wordsS b).getD (i - 16) 0:=by
 have e:=words_take b (i+1) (by omega) (by omega)
 rw [show i+1 - 16=(i - 16)+1 from by omega] at e
 simp only [ext] at e
 have hl:(ext (i - 16) (first b)).length=i:=by rw [ext_len,first_len];omega
 rw [←words_take b i h1 (by omega)] at e hl
 have e2:=congrArg (fun l=>l.getD i 0) e
 have hg:∀ j,j<i→((wordsS b).take i).getD j 0=(wordsS b).getD j 0:=fun j hj=>by simp [List.getD_eq_getElem?_getD,List.getElem?_take,hj]
 simp only [wstep,hl] at e2
 rw [hg _ (by omega),hg _ (by omega),hg _ (by omega),hg _ (by omega)] at e2
 have e3:((wordsS b).take (i+1)).getD i 0=(wordsS b).getD i 0:=by simp [List.getD_eq_getElem?_getD,List.getElem?_take]
 rw [e3] at e2
 rw [e2]
 rw [List.getD_eq_getElem?_getD,List.getElem?_append_right (by omega),hl]
 simp
theorem most (a b c:BitVec 32):(a &&& b) ^^^ (a &&& c) ^^^ (b &&& c)=(a &&& b) ||| (a &&& c) ||| (b &&& c):=by
 apply BitVec.eq_of_getLsbD_eq
 intro i hi
 simp only [BitVec.getLsbD_xor,BitVec.getLsbD_and,BitVec.getLsbD_or]
 cases a.getLsbD i <;> cases b.getLsbD i <;> cases c.getLsbD i <;> rfl
end Sha
open Go.RowKit Go.Proofs
open Sha
theorem rotl32 (H:List Hl) (x:BitVec 32) (k:Int) (hk : -9223372036854775808≤k∧k≤9223372036854775807) :
  Spec Tryz.prog 192 [W4 x,I k] H (fun _:Unit=>True) (fun _=>W4 ((x <<< (BitVec.ofInt 64 k &&& 31#64).toNat) ||| (x >>> (32#64 - (BitVec.ofInt 64 k &&& 31#64)).toNat))) (fun _=>H):=by
 refine spec_pure (res:=fun _=>[]) H Tryz.func192 rfl Tryz.ntmps192 (by kernel_rfl) rfl (fun W=>?_)
 repeat' (first|intro _|refine cw ?_|refine cw2 ?_ ?_|(refine k_binOp .and ?_;refine o1_uand (v:=31#64) rfl rfl ?_)|(refine k_binOp .sub ?_;refine o1_usub (u:=32#64) rfl rfl ?_)|refine ow ?_|refine ow2 ?_ ?_|fail)
 refine rt_tmp () rfl rfl rfl trivial ?_
 exact ent
theorem dg_turned (H:List Hl) (x:BitVec 32) (n:Int) (h:(-9223372036854775808≤n∧n≤9223372036854775807)∧(BitVec.ofInt 64 (-n) &&& 31#64).toNat=32 - n.toNat∧(32#64 - (BitVec.ofInt 64 (-n) &&& 31#64)).toNat=n.toNat∧0<n) :
  Spec Tryz.prog 153 [W4 x,I n] H (fun _:Unit=>True) (fun _=>W4 (rr x n.toNat)) (fun _=>H):=by
 obtain ⟨h1,h2,h3,h4⟩:=h
 refine spec_pure (res:=fun _=>[]) H Tryz.func153 rfl Tryz.ntmps153 (by kernel_rfl) rfl (fun W=>?_)
 repeat' (first|intro _|refine cw ?_|refine cw2 ?_ ?_|(refine k_unOp ?_;refine o1_neg rfl (by omega) ?_)|(refine k_fn 192 ?_;refine o1_call (fun _=>rotl32 _ _ _ (by omega)) rfl (fun _ _=>?_))|refine ow ?_|refine ow2 ?_ ?_|fail)
 refine rt_tmp () rfl rfl ?_ trivial ?_
 ·rw [h2,h3,BitVec.or_comm];rfl
 ·exact ent
theorem dg_constants (H:List Hl):Spec Tryz.prog 152 [] H (fun _:Unit=>True) (fun _ => .agg (K.map W4).toArray) (fun _=>H):=by
 refine spec_pure (res:=fun _=>[]) H Tryz.func152 rfl Tryz.ntmps152 (by kernel_rfl) rfl (fun W=>?_)
 repeat' (first|intro _|refine cw ?_|refine cw2 ?_ ?_|(refine k_alloc ?_;refine o1_alloc (cs:=(List.replicate 64 0#32).map W4) rfl (fun _=>?_))|(refine k_build ?_;refine o1_buildx (vs:=K.map W4) rfl (by kernel_rfl) (fun _=>by kernel_rfl) ?_)|(refine k_store ?_;refine ox_store_full rfl rfl rfl rfl (fun _=>rfl) ?_)|refine ow ?_|refine ow2 ?_ ?_|fail)
 refine rt_cell () rfl rfl rfl rfl trivial ?_
 exact ent
theorem dg_begin (H:List Hl):Spec Tryz.prog 102 [] H (fun _:Unit=>True) (fun _ => .agg (H0.l.map W4).toArray) (fun _=>H):=by
 refine spec_pure (res:=fun _=>[]) H Tryz.func102 rfl Tryz.ntmps102 (by kernel_rfl) rfl (fun W=>?_)
 repeat' (first|intro _|refine cw ?_|refine cw2 ?_ ?_|(refine k_alloc ?_;refine o1_alloc (cs:=(List.replicate 8 0#32).map W4) rfl (fun _=>?_))|(refine k_build ?_;refine o1_buildx (vs:=H0.l.map W4) rfl (by kernel_rfl) (fun _=>by kernel_rfl) ?_)|(refine k_store ?_;refine ox_store_full rfl rfl rfl rfl (fun _=>rfl) ?_)|refine ow ?_|refine ow2 ?_ ?_|fail)
 refine rt_cell () rfl rfl rfl rfl trivial ?_
 exact ent
open Sha
def padz (b:List (BitVec 8)) (j:Nat):List (BitVec 8):=b++[0x80#8]++List.replicate j 0#8
theorem padz_succ (b:List (BitVec 8)) (j:Nat):padz b j++[0#8]=padz b (j+1):=by
 simp [padz,List.replicate_succ']
def tail8 (b:List (BitVec 8)) (i:Nat):List (BitVec 8):=(be8 (BitVec.ofNat 64 b.length <<< 3)).take i
theorem tail8_succ (b:List (BitVec 8)) (i:Nat) (h:i<8):tail8 b i++[((BitVec.ofNat 64 b.length <<< 3) >>> (56 - 8*(i:Int)).toNat).setWidth 8]=tail8 b (i+1):=by
 rw [show (56 - 8*(i:Int)).toNat=56 - 8*i from by omega]
 have:i=0∨i=1∨i=2∨i=3∨i=4∨i=5∨i=6∨i=7:=by omega
 rcases this with rfl|rfl|rfl|rfl|rfl|rfl|rfl|rfl <;> simp [tail8,be8]
set_option maxHeartbeats 1000000 in
theorem dg_filled (H:List Hl) (ad:Option Addr) (c:Nat) (b:List (BitVec 8)) (h:Rs (stars H) B ad c b) (hb:b.length≤70368744177664) :
  Spec Tryz.prog 103 [.slice ad b.length c] H (fun _:Option Addr × Nat=>True) (fun r => .slice r.1 (pad b).length r.2) (fun r => .row 5 1 (.slice r.1 (pad b).length r.2) (pad b).length ((pad b).map B)::H):=by
 refine spec_pure (res:=fun r:Option Addr × Nat=>[.row 5 1 (.slice r.1 (pad b).length r.2) (pad b).length ((pad b).map B)]) H Tryz.func103 rfl Tryz.ntmps103 (by kernel_rfl) rfl (fun W=>?_)
 refine st_ent (ent_nil 5 B) ?_
 have hg:gap b.length≤63:=by unfold gap;omega
 repeat' (first|intro _|refine cw ?_|refine cw2 ?_ ?_|(refine k_call ?_;first|refine ox_append rfl rfl (rx_any h) rfl rfl (fun _=>rfl) (by simp;omega) (by simp;omega) (fun a1 c1=>?_)|refine ox_append rfl rfl (rx_box rfl (by decide)) rfl rfl (fun _=>rfl) (by simp;omega) (by simp;omega) (fun a1 c1=>?_))|(refine k_buildSlice ?_;refine o1_lit_enc B [0x80#8] rfl rfl rfl (fun _=>rfl) rfl rfl rfl (fun _=>?_))|refine ow ?_|refine ow2 ?_ ?_|fail)
 refine st_loop (S:=Nat × Option Addr × Nat) (fun s=>[(0,.slice ad b.length c),(3,.slice s.2.1 (b.length+1+s.1) s.2.2)]) (fun s=>[.row 5 1 (.slice s.2.1 (b.length+1+s.1) s.2.2) (b.length+1+s.1) ((padz b s.1).map B),.any (stars H)]) (fun s=>s.1≤gap b.length) (fun s=>gap b.length - s.1) (0,a1,c1) (Nat.zero_le _)
  (cov_cons rfl rfl (cov_cons rfl (by simp) cov_nil)) (by simp only [padz,List.nil_append,List.replicate_zero,List.append_nil,Nat.zero_add,Nat.add_zero];exact ent) ?_
 rintro ⟨j,a1,c1⟩ hj
 dsimp only at hj ⊢
 by_cases hlt:j<gap b.length
 ·have hne:(((b.length+1+j:Nat):Int) % 64)≠56:=by unfold gap at hlt;omega
  repeat' (first|intro _|refine cw ?_|refine cw2 ?_ ?_|(refine k_binOp .rem ?_;refine o1_rem rfl rfl (by omega) ?_)|(refine k_call ?_;refine ox_append rfl rfl (rx_box rfl (by decide)) rfl rfl (fun _=>rfl) (by simp;omega) (by simp;omega) (fun a1 c1=>?_))|refine ow ?_|refine ow2 ?_ ?_|fail)
  refine nx_again (j+1,a1,c1) (by show j+1≤_;omega) (by show gap b.length - (j+1)<gap b.length - j;omega) cv ?_
  show Ent _ [.row 5 1 (.slice a1 (b.length+1+(j+1)) c1) (b.length+1+(j+1)) ((padz b (j+1)).map B),.any (stars H)]
  rw [←padz_succ,show b.length+1+(j+1)=b.length+1+j+1 from rfl]
  exact ent
 ·have:j=gap b.length:=by omega
  subst this
  have hne:(((b.length+1+gap b.length:Nat):Int) % 64)=56:=by unfold gap;omega
  repeat' (first|intro _|refine cw ?_|refine cw2 ?_ ?_|(refine k_binOp .rem ?_;refine o1_rem rfl rfl (by omega) ?_)|(refine k_convert ?_;refine o1_conv_iu (m':=64) rfl ?_)|refine ow ?_|refine ow2 ?_ ?_|fail)
  have hpl:(pad b).length=b.length+1+gap b.length+8:=by rw [pad_len];omega
  refine st_loop (S:=Nat × Option Addr × Nat) (fun s=>[(3,.slice s.2.1 (b.length+1+gap b.length+s.1) s.2.2),(4,W8 (BitVec.ofNat 64 b.length <<< 3)),(5,I (56 - 8*s.1))]) (fun s=>[.row 5 1 (.slice s.2.1 (b.length+1+gap b.length+s.1) s.2.2) (b.length+1+gap b.length+s.1) ((padz b (gap b.length)++tail8 b s.1).map B),.any (stars H)]) (fun s=>s.1≤8) (fun s=>8 - s.1) (0,a1,c1) (Nat.zero_le _)
   (cov_cons rfl rfl (cov_cons rfl (by simp) cv)) (by simp only [tail8,List.take_zero,List.append_nil,Nat.add_zero];exact ent) ?_
  rintro ⟨i,a1,c1⟩ hi
  dsimp only at hi ⊢
  by_cases hi8:i<8
  ·repeat' (first|intro _|refine cw ?_|refine cw2 ?_ ?_|(refine k_call ?_;refine ox_append rfl rfl (rx_box rfl (by decide)) rfl rfl (fun _=>rfl) (by simp;omega) (by simp;omega) (fun a1 c1=>?_))|refine ow ?_|refine ow2 ?_ ?_|fail)
   refine nx_again (i+1,a1,c1) (by show i+1≤8;omega) (by show 8 - (i+1)<8 - i;omega) (cov_cons rfl rfl (cov_cons rfl rfl (cov_cons rfl ?_ cov_nil))) ?_
   ·show I (56 - 8*(i:Int) - 8)=I (56 - 8*((i+1:Nat):Int))
    congr 1;omega
   show Ent _ [.row 5 1 (.slice a1 (b.length+1+gap b.length+(i+1)) c1) (b.length+1+gap b.length+(i+1)) ((padz b (gap b.length)++tail8 b (i+1)).map B),.any (stars H)]
   rw [←tail8_succ b i hi8,←List.append_assoc,←Nat.add_assoc]
   exact ent
  ·have:i=8:=by omega
   subst this
   repeat' (first|intro _|refine cw ?_|refine cw2 ?_ ?_|refine ow ?_|refine ow2 ?_ ?_|fail)
   have hp:padz b (gap b.length)++tail8 b 8=pad b:=by simp [padz,pad,tail8,be8]
   refine rt_tmp (a1,c1) rfl rfl (by rw [hpl]) trivial ?_
   rw [hp,hpl]
   exact ent
def rtS4_0:List Row:=[⟨some 32,[],[],none⟩,⟨some 33,[0],[0],none⟩,⟨some 34,[1],[0,1],none⟩,⟨some 35,[2],[0,1,2],none⟩,⟨some 36,[],[],none⟩,⟨some 37,[4],[4],none⟩,⟨some 38,[5],[4,5],none⟩,⟨some 39,[6],[4,5,6],none⟩,⟨some 7,[3,0,1,2,3],[0,1,2,3],none⟩,⟨some 8,[7,8,0,1,2,3,4,5,6,7,8],[0,1,2,3,4,5,6,7,8],none⟩]
def rtS4_1:List Row:=[⟨some 40,[],[],none⟩,⟨some 41,[],[],none⟩,⟨some 42,[1],[1],none⟩,⟨some 43,[],[],none⟩,⟨some 44,[3,2],[1,2,3],none⟩,⟨some 45,[2,4],[1,2,3,4],none⟩,⟨some 46,[],[],none⟩,⟨some 47,[6],[6],none⟩,⟨some 48,[5,7],[1,2,3,4,5,6,7],none⟩,⟨some 49,[],[],none⟩,⟨some 50,[9],[9],none⟩,⟨some 51,[10],[9,10],none⟩,⟨some 52,[11],[9,10,11],none⟩,⟨some 53,[8,12],[1,2,3,4,5,6,7,8,9,10,11,12],none⟩,⟨some 54,[],[],none⟩,⟨some 55,[14,4],[1,2,3,4,14],none⟩,⟨some 56,[],[],none⟩,⟨some 57,[16,15],[1,2,3,4,14,15,16],none⟩,⟨some 58,[15,17],[1,2,3,4,14,15,16,17],none⟩,⟨some 59,[],[],none⟩,⟨some 60,[19],[19],none⟩,⟨some 61,[18,20],[1,2,3,4,14,15,16,17,18,19,20],none⟩,⟨some 62,[13,21],[1,2,3,4,5,6,7,8,9,10,11,12,13,14,15,16,17,18,19,20,21],none⟩,⟨some 63,[],[],none⟩,⟨some 64,[23],[23],none⟩,⟨some 65,[24],[23,24],none⟩,⟨some 66,[25],[23,24,25],none⟩,⟨some 67,[22,26],[1,2,3,4,5,6,7,8,9,10,11,12,13,14,15,16,17,18,19,20,21,22,23,24,25,26],none⟩,⟨some 68,[0,0,1,2,3,4,5,6,7,8,9,10,11,12,13,14,15,16,17,18,19,20,21,22,23,24,25,26,27],[0,1,2,3,4,5,6,7,8,9,10,11,12,13,14,15,16,17,18,19,20,21,22,23,24,25,26,27],none⟩,⟨none,[28,27,17,0,1,2,3,4,5,6,7,8,9,10,11,12,13,14,15,16,17,18,19,20,21,22,23,24,25,26,27],[0,1,2,3,4,5,6,7,8,9,10,11,12,13,14,15,16,17,18,19,20,21,22,23,24,25,26,27,28],none⟩]
open Sha
def fst (b:List (BitVec 8)) (i:Nat):List (BitVec 32):=(List.range 64).map fun j=>num32 (((b.take i).drop (4*j)).take 4)
theorem fst_len (b:List (BitVec 8)) (i:Nat):(fst b i).length=64:=by simp [fst]
theorem fst_zero (b:List (BitVec 8)):fst b 0=List.replicate 64 0#32:=by
 simp only [fst,List.take_zero,List.drop_nil,List.take_nil];rfl
theorem fst_succ (b:List (BitVec 8)) (i:Nat) (hi:i<b.length) (h:i<64) :
  (fst b i).set (i / 4) (((fst b i)[i / 4]'(by rw [fst_len];omega)) <<< 8 ||| (b[i]).setWidth 32)=fst b (i+1):=by
 apply List.ext_getElem
 ·simp [fst]
 intro j h1 h2
 rw [List.length_set,fst_len] at h1
 rw [List.getElem_set]
 split
 ·rename_i hj
  subst hj
  simp only [fst,List.getElem_map,List.getElem_range]
  have e:((b.take (i+1)).drop (4*(i / 4))).take 4=((b.take i).drop (4*(i / 4))).take 4++[b[i]]:=by
   rw [List.take_succ_eq_append_getElem hi,List.drop_append_of_le_length (by simp;omega),List.take_append,List.take_of_length_le (l:=List.drop (4*(i / 4)) (List.take i b)) (by simp;omega)]
   congr 1
   rw [List.take_of_length_le]
   simp;omega
  rw [e]
  simp only [num32,List.foldl_append,List.foldl_cons,List.foldl_nil]
 ·rename_i hj
  simp only [fst,List.getElem_map,List.getElem_range]
  congr 1
  apply List.ext_getElem?
  intro k
  simp only [List.getElem?_take,List.getElem?_drop]
  repeat' split
  all_goals first|rfl|omega
theorem fst_all (b:List (BitVec 8)) (h:b.length=64):fst b 64=partL (wordsS b) (List.replicate 64 0#32) 16:=by
 apply List.ext_getElem
 ·rw [fst_len,partL_len (by rw [wordsS_len,List.length_replicate]),List.length_replicate]
 intro j h1 h2
 rw [fst_len] at h1
 by_cases hj:j<16
 ·rw [partL_lo (by rw [wordsS_len,List.length_replicate]) hj]
  have:=words_lo b j hj
  rw [List.getD_eq_getElem?_getD,List.getElem?_eq_getElem (by rw [wordsS_len];omega),Option.getD_some] at this
  rw [this]
  simp only [fst,List.getElem_map,List.getElem_range,chunk]
  rw [List.take_of_length_le (l:=b) (by omega)]
 ·rw [partL_at (by rw [wordsS_len,List.length_replicate]) (by omega)]
  simp only [fst,List.getElem_map,List.getElem_range]
  rw [List.take_of_length_le (l:=b) (by omega),List.drop_eq_nil_of_le (by omega)]
  rw [List.getElem_replicate]
  rfl
theorem words_get (b:List (BitVec 8)) (i:Nat) (h1:16≤i) (h2:i<64):(wordsS b)[i]'(by rw [wordsS_len];exact h2)=s1 ((wordsS b)[i - 2]'(by rw [wordsS_len];omega))+(wordsS b)[i - 7]'(by rw [wordsS_len];omega)+s0 ((wordsS b)[i - 15]'(by rw [wordsS_len];omega))+(wordsS b)[i - 16]'(by rw [wordsS_len];omega):=by
 have:=words_hi b i h1 h2
 simpa [List.getD_eq_getElem?_getD,List.getElem?_eq_getElem,wordsS_len,h2,show i - 2<64 by omega,show i - 7<64 by omega,show i - 15<64 by omega,show i - 16<64 by omega] using this
theorem hwz (b:List (BitVec 8)):(wordsS b).length=(List.replicate 64 0#32).length:=by rw [wordsS_len,List.length_replicate]
set_option maxHeartbeats 2000000 in
theorem dg_words64 (H:List Hl) (ad:Option Addr) (c:Nat) (b:List (BitVec 8)) (h:Rs (stars H) B ad c b) (hb:b.length=64) :
  Spec Tryz.prog 151 [.slice ad b.length c] H (fun _:Unit=>True) (fun _ => .agg ((wordsS b).map W4).toArray) (fun _=>H):=by
 refine spec_pure (res:=fun _=>[]) H Tryz.func151 rfl Tryz.ntmps151 (by kernel_rfl) rfl (fun W=>?_)
 repeat' (first|intro _|refine cw ?_|refine cw2 ?_ ?_|(refine k_alloc ?_;refine o1_alloc (cs:=(List.replicate 64 0#32).map W4) rfl (fun _=>?_))|refine ow ?_|refine ow2 ?_ ?_|fail)
 rename_i r w
 refine st_loop (S:=Nat) (fun i=>[(2,.pointer (some ⟨r,0,none⟩)),(3,.pointer (some ⟨w,0,none⟩)),(9,.slice ad b.length c),(10,I b.length),(11,I i)]) (fun i=>[.box w 227 ((fst b i).map W4),.box r 227 ((List.replicate 64 0#32).map W4),.any (stars H)]) (fun i=>i≤b.length) (fun i=>b.length - i) 0 (Nat.zero_le _)
  cv (by rw [fst_zero];exact ent) ?_
 intro i hi
 by_cases hlt:i<b.length
 ·have hl:=fst_len b i
  repeat' (first|intro _|refine cw ?_|refine cw2 ?_ ?_|(refine k_indexAddr ?_;first|refine o1_ia i rfl rfl h rfl rfl hlt ?_|refine ox_index_arr (i / 4) rfl rfl (by omega) (by omega) ?_)|(refine k_load ?_;refine o1_load_ia i rfl h hlt ?_)|(refine k_binOp .quo ?_;refine o1_quo rfl rfl (by omega) ?_)|(refine k_store ?_;refine ox_store_enc W4 rfl rfl (by omega) rfl ?_)|refine ow ?_|refine ow2 ?_ ?_|fail)
  refine nx_again (i+1) (by omega) (by omega) cv ?_
  rw [←fst_succ b i hlt (by omega)]
  exact ent
 ·have:i=b.length:=by omega
  subst this
  rw [hb,fst_all b hb]
  repeat' (first|intro _|refine cw ?_|refine cw2 ?_ ?_|refine ow ?_|refine ow2 ?_ ?_|fail)
  refine st_loop (S:=Nat) (fun i=>[(2,.pointer (some ⟨r,0,none⟩)),(3,.pointer (some ⟨w,0,none⟩)),(6,I (16+i:Nat))]) (fun i=>[.box w 227 ((partL (wordsS b) (List.replicate 64 0#32) (16+i)).map W4),.box r 227 ((List.replicate 64 0#32).map W4),.any (stars H)]) (fun i=>i≤48) (fun i=>48 - i) 0 (Nat.zero_le _)
   cv ent ?_
  intro i hi
  by_cases hlt:i<48
  ·have hl:=partL_len (hwz b) (16+i)
   rw [List.length_replicate] at hl
   repeat' (first|intro _|refine cw ?_|refine cw2 ?_ ?_|refine ow ?_|refine ow2 ?_ ?_|fail)
   refine st_stages' [(6,_),(3,_)] rtS4_0 [] [⟨[0,1,2,3,4,5,6,7,8,9],[],none⟩] mixed cv (by kernel_rfl) (by kernel_rfl) ?_
   repeat' (first|intro _|refine sg ?_|(refine p_indexAddr ?_;refine po (by first|refine ox_index_arr (16+i - 2) rfl rfl (by omega) (by omega) fz|refine ox_index_arr (16+i - 15) rfl rfl (by omega) (by omega) fz|fail) ?_)|refine pw ?_|refine pdd ?_|refine ow ?_|fail)
   all_goals dsimp only [List.cons_append,List.nil_append]
   repeat' (first|intro _|refine cw ?_|refine cw2 ?_ ?_|refine ow ?_|refine ow2 ?_ ?_|fail)
   refine st_stages' [(6,_),(7,_),(3,_),(8,_)] rtS4_1 [2,29] [⟨[0,1,3,6,7,9,10,11,12,14,16,19,20,23,24,25,26],[],some 2⟩,⟨[4,5,8,13,15,17,18,21,22,27,28],[0,3,6,7,9,10,11,12,14,16,19,20,23,24,25,26],some 29⟩,⟨[],[],none⟩] mixed cv (by kernel_rfl) (by kernel_rfl) ?_
   repeat' (first|intro _|refine sg ?_|(refine p_indexAddr ?_;refine po (by first|refine ox_index_arr (16+i - 7) rfl rfl (by omega) (by omega) fz|refine ox_index_arr (16+i - 16) rfl rfl (by omega) (by omega) fz|refine ox_index_arr (16+i) rfl rfl (by omega) (by omega) fz|fail) ?_)|(refine p_fn 153 ?_;refine po (by first|refine o1_call (fun _=>dg_turned _ _ _ (by decide)) rfl (fun _ _=>fz)|fail) ?_)|refine pw ?_|refine pdd ?_|(refine k_store ?_;refine ox_store_enc W4 rfl rfl (by omega) rfl ?_)|(refine k_fn 153 ?_;refine o1_call (fun _=>dg_turned _ _ _ (by decide)) rfl (fun _ _=>?_))|refine ow ?_|fail)
   all_goals dsimp only [List.cons_append,List.nil_append]
   repeat' (first|intro _|refine cw ?_|refine cw2 ?_ ?_|refine ow ?_|refine ow2 ?_ ?_|fail)
   refine nx_again (i+1) (by omega) (by omega) (cov_cons rfl rfl (cov_cons rfl rfl (cov_cons rfl ?_ cov_nil))) ?_
   ·show I (((16+i:Nat):Int)+1)=I ((16+(i+1):Nat):Int)
    congr 1
   ·have e:=partL_succ (hwz b) (i:=16+i) (by rw [wordsS_len];omega)
    rw [words_get b (16+i) (by omega) (by omega)] at e
    rw [show 16+(i+1)=16+i+1 from rfl,←e]
    simp only [partL_lo (hwz b) (show 16+i - 2<16+i by omega),partL_lo (hwz b) (show 16+i - 7<16+i by omega),partL_lo (hwz b) (show 16+i - 15<16+i by omega),partL_lo (hwz b) (show 16+i - 16<16+i by omega)]
    exact ent
  ·have:i=48:=by omega
   subst this
   rw [partL_full (hwz b) (by simp)]
   repeat' (first|intro _|refine cw ?_|refine cw2 ?_ ?_|(refine k_load ?_;refine ox_load_full rfl (wordsS_len b) ?_)|(refine k_store ?_;refine ox_store_full rfl rfl (wordsS_len b) rfl (fun _=>rfl) ?_)|refine ow ?_|refine ow2 ?_ ?_|fail)
   refine rt_cell () rfl rfl (by rw [List.length_map,wordsS_len]) rfl trivial ?_
   exact ent
def rtS5_0:List Row:=[⟨some 23,[],[],none⟩,⟨some 24,[0],[0],none⟩,⟨some 25,[],[],none⟩,⟨some 26,[2],[2],none⟩,⟨some 9,[1,0,1],[0,1],none⟩,⟨some 10,[3,4,0,1,2,3,4],[0,1,2,3,4],none⟩]
def rtS5_1:List Row:=[⟨some 52,[],[],none⟩,⟨some 53,[0],[0],none⟩,⟨some 54,[],[],none⟩,⟨some 55,[2],[2],none⟩,⟨some 56,[],[],none⟩,⟨some 57,[4,3],[2,3,4],none⟩,⟨some 58,[3,5],[2,3,4,5],none⟩,⟨some 59,[],[],none⟩,⟨some 60,[7,5],[2,3,4,5,7],none⟩,⟨some 61,[6,8],[2,3,4,5,6,7,8],none⟩,⟨some 62,[1,9],[0,1,2,3,4,5,6,7,8,9],none⟩,⟨some 63,[],[],none⟩,⟨some 64,[10,11],[0,1,2,3,4,5,6,7,8,9,10,11],none⟩,⟨some 65,[],[],none⟩,⟨some 66,[13],[13],none⟩,⟨some 67,[14],[13,14],none⟩,⟨some 68,[12,15],[0,1,2,3,4,5,6,7,8,9,10,11,12,13,14,15],none⟩,⟨some 69,[],[],none⟩,⟨some 70,[17],[17],none⟩,⟨some 71,[18],[17,18],none⟩,⟨some 72,[16,19],[0,1,2,3,4,5,6,7,8,9,10,11,12,13,14,15,16,17,18,19],none⟩,⟨some 13,[20,8,0,1,2,3,4,5,6,7,8,9,10,11,12,13,14,15,16,17,18,19,20],[0,1,2,3,4,5,6,7,8,9,10,11,12,13,14,15,16,17,18,19,20],none⟩]
def rtS5_2:List Row:=[⟨some 105,[],[],none⟩,⟨some 106,[0],[0],none⟩,⟨some 107,[1],[0,1],none⟩,⟨some 108,[],[],none⟩,⟨some 109,[3],[3],none⟩,⟨some 110,[4],[3,4],none⟩,⟨some 111,[2,5],[0,1,2,3,4,5],none⟩,⟨some 112,[0,0,1,2,3,4,5,6],[0,1,2,3,4,5,6],none⟩,⟨none,[7,6,0,1,2,3,4,5,6],[0,1,2,3,4,5,6,7],none⟩]
open Sha
theorem add_get (x y:R8) (i:Nat) (h:i<(x.add y).l.length) (h1:i<x.l.length) (h2:i<y.l.length):(x.add y).l[i]=x.l[i]+y.l[i]:=by
 have:i<8:=h
 have:i=0∨i=1∨i=2∨i=3∨i=4∨i=5∨i=6∨i=7:=by omega
 rcases this with rfl|rfl|rfl|rfl|rfl|rfl|rfl|rfl <;> rfl
theorem R8_len (x:R8):x.l.length=8:=rfl
theorem W_get (ws:List (BitVec 32)) (i:Nat) (h:i<ws.length):ws.getD i 0=ws[i]:=by rw [List.getD_eq_getElem?_getD,List.getElem?_eq_getElem h,Option.getD_some]
set_option maxHeartbeats 400000 in
theorem dg_takes (H:List Hl) (x:R8) (ad:Option Addr) (c:Nat) (b:List (BitVec 8)) (h:Rs (stars H) B ad c b) (hb:b.length=64) :
  Spec Tryz.prog 104 [.agg (x.l.map W4).toArray,.slice ad b.length c] H (fun _:Unit=>True) (fun _ => .agg ((comp x b).l.map W4).toArray) (fun _=>H):=by
 refine spec_pure (res:=fun _=>[]) H Tryz.func104 rfl Tryz.ntmps104 (by kernel_rfl) rfl (fun W=>?_)
 repeat' (first|intro _|refine cw ?_|refine cw2 ?_ ?_|(refine k_box ?_;refine o1_box (cs:=x.l.map W4) rfl rfl (fun _=>?_))|(refine k_alloc ?_;first|refine o1_alloc (T:=185) (cs:=(List.replicate 8 0#32).map W4) rfl (fun _=>?_)|refine o1_alloc (T:=227) (cs:=(List.replicate 64 0#32).map W4) rfl (fun _=>?_))|(refine k_fn 151 ?_;refine o1_call (fun _=>dg_words64 _ _ _ b h.up hb) rfl (fun _ _=>?_))|(refine k_fn 152 ?_;refine o1_call (fun _=>dg_constants _) rfl (fun _ _=>?_))|(refine k_store ?_;first|refine ox_store_full (T:=227) rfl rfl (by simp only [wordsS_len,K_len]) (by exact rfl) (fun _=>rfl) ?_|refine ox_store_full (T:=185) rfl rfl (by simp only [R8_len]) (by exact rfl) (fun _=>rfl) ?_)|(refine k_load ?_;refine ox_load_full (T:=185) rfl (by simp only [R8_len]) ?_)|refine ow ?_|refine ow2 ?_ ?_|fail)
 rename_i bs br _ _ _ _ bw bk bx
 rw [show comp x b=x.add (rds (wordsS b) 64 x) from rfl]
 have hwl:=wordsS_len b
 generalize wordsS b=ws at *
 obtain ⟨f,hf0,hfs,hf64⟩:∃ f:Nat→R8,f 0=x∧(∀ i,f (i+1)=rnd (K.getD i 0) (ws.getD i 0) (f i))∧f 64=rds ws 64 x:=⟨fun i=>rds ws i x,rfl,fun _=>rfl,rfl⟩
 rw [←hf64]
 clear hf64
 refine st_loop (S:=Nat) (fun i=>[(2,.pointer (some ⟨bs,0,none⟩)),(4,.pointer (some ⟨br,0,none⟩)),(5,.pointer (some ⟨bw,0,none⟩)),(6,.pointer (some ⟨bk,0,none⟩)),(7,.pointer (some ⟨bx,0,none⟩)),(20,I i)]) (fun i=>[.box bx 185 ((f i).l.map W4),.box bk 227 (K.map W4),.box bw 227 ((ws).map W4),.box br 185 ((List.replicate 8 0#32).map W4),.box bs 185 (x.l.map W4),.any (stars H)]) (fun i=>i≤64) (fun i=>64 - i) 0 (Nat.zero_le _)
  cv (by rw [hf0];exact ent) ?_
 intro i hi
 by_cases hlt:i<64
 ·have hWl:i<ws.length:=by rw [hwl];exact hlt
  have hW:=W_get ws i hWl
  have hKl:i<K.length:=hlt
  have hK:=W_get K i hKl
  generalize hy:f i=y
  dsimp only [R8.l,List.map_cons,List.map_nil]
  repeat' (first|intro _|refine cw ?_|refine cw2 ?_ ?_|refine ow ?_|refine ow2 ?_ ?_|fail)
  refine st_stages' [(7,_)] rtS5_0 [] [⟨[0,1,2,3,4,5],[],none⟩] mixed cv (by kernel_rfl) (by kernel_rfl) ?_
  repeat' (first|intro _|refine sg ?_|(refine p_indexAddr ?_;refine po (by first|refine ox_index_arr _ rfl rfl rfl (by decide) fz|fail) ?_)|refine pw ?_|refine pdd ?_|refine ow ?_|fail)
  all_goals dsimp only [List.cons_append,List.nil_append]
  repeat' (first|intro _|refine cw ?_|refine cw2 ?_ ?_|(refine k_indexAddr ?_;refine ox_index_arr _ rfl rfl rfl (by decide) ?_)|refine ow ?_|refine ow2 ?_ ?_|fail)
  refine st_stages' [(7,_),(10,_),(11,_),(8,_),(6,_),(5,_)] rtS5_1 [3] [⟨[0,1,2,4,7,11,13,14,15,17,18,19],[],some 3⟩,⟨[5,6,8,9,10,12,16,20,21],[0,1,4,7,11,13,14,15,17,18,19],none⟩] mixed cv (by kernel_rfl) (by kernel_rfl) ?_
  repeat' (first|intro _|refine sg ?_|(refine p_indexAddr ?_;refine po (by first|refine ox_index_arr i rfl rfl rfl hlt fz|refine ox_index_arr _ rfl rfl rfl (by decide) fz|fail) ?_)|(refine p_load ?_;refine po (by first|refine ox_load_enc (l:=K) rfl hKl fz|refine ox_load_enc (l:=ws) rfl hWl fz|fail) ?_)|(refine p_fn 153 ?_;refine po (by first|refine o1_call (fun _=>dg_turned _ _ _ (by decide)) rfl (fun _ _=>fz)|fail) ?_)|refine pw ?_|refine pdd ?_|(refine k_fn 153 ?_;refine o1_call (fun _=>dg_turned _ _ _ (by decide)) rfl (fun _ _=>?_))|refine ow ?_|fail)
  all_goals dsimp only [List.cons_append,List.nil_append]
  repeat' (first|intro _|refine cw ?_|refine cw2 ?_ ?_|(refine k_indexAddr ?_;refine ox_index_arr _ rfl rfl rfl (by decide) ?_)|(refine k_fn 153 ?_;refine o1_call (fun _=>dg_turned _ _ _ (by decide)) rfl (fun _ _=>?_))|refine ow ?_|refine ow2 ?_ ?_|fail)
  refine nx_again (i+1) (by omega) (by omega) cv ?_
  have hr:f (i+1)=rnd K[i] ws[i] y:=by rw [hfs,hK,hW,hy]
  rw [hr]
  dsimp only [rnd,one,two,List.map_cons,List.map_nil,List.set_cons_zero,List.set_cons_succ]
  exact ent
 ·have:i=64:=by omega
  subst this
  generalize f 64=y
  have hz:(x.add y).l.length=x.l.length:=rfl
  repeat' (first|intro _|refine cw ?_|refine cw2 ?_ ?_|refine ow ?_|refine ow2 ?_ ?_|fail)
  refine st_loop (S:=Nat) (fun i=>[(2,.pointer (some ⟨bs,0,none⟩)),(4,.pointer (some ⟨br,0,none⟩)),(7,.pointer (some ⟨bx,0,none⟩)),(102,I i)]) (fun i=>[.box bs 185 ((partL (x.add y).l x.l i).map W4),.box bx 185 (y.l.map W4),.box br 185 ((List.replicate 8 0#32).map W4),.any (stars H)]) (fun i=>i≤8) (fun i=>8 - i) 0 (Nat.zero_le _)
   cv ent ?_
  intro i hi
  by_cases hlt:i<8
  ·have hl:(partL (x.add y).l x.l i).length=8:=partL_len hz i
   have hil:i<(partL (x.add y).l x.l i).length:=by rw [hl];exact hlt
   have hx8:i<x.l.length:=hlt
   have hy8:i<y.l.length:=hlt
   have hxy8:i<(x.add y).l.length:=hlt
   repeat' (first|intro _|refine cw ?_|refine cw2 ?_ ?_|refine ow ?_|refine ow2 ?_ ?_|fail)
   refine st_stages' [(15,_),(2,_),(7,_)] rtS5_2 [8] [⟨[0,1,2,3,4,5,6,7],[],some 8⟩,⟨[],[],none⟩] mixed cv (by kernel_rfl) (by kernel_rfl) ?_
   repeat' (first|intro _|refine sg ?_|(refine p_indexAddr ?_;refine po (by first|refine ox_index_arr i rfl rfl rfl hlt fz|fail) ?_)|(refine p_load ?_;refine po (by first|refine ox_load_enc (l:=partL (x.add y).l x.l i) rfl hil fz|refine ox_load_enc (l:=y.l) rfl hy8 fz|fail) ?_)|refine pw ?_|refine pdd ?_|(refine k_store ?_;refine ox_store_enc W4 rfl rfl hil rfl ?_)|refine ow ?_|fail)
   all_goals dsimp only [List.cons_append,List.nil_append]
   repeat' (first|intro _|refine cw ?_|refine cw2 ?_ ?_|refine ow ?_|refine ow2 ?_ ?_|fail)
   refine nx_again (i+1) (by omega) (by omega) cv ?_
   have e:(partL (x.add y).l x.l i).set i (x.l[i]'hx8+y.l[i]'hy8)=partL (x.add y).l x.l (i+1):=by
    exact (congrArg (fun v=>(partL (x.add y).l x.l i).set i v) (add_get x y i hxy8 hx8 hy8)).symm.trans (partL_succ hz hxy8)
   rw [partL_at hz (Nat.le_refl i),←e]
   exact ent
  ·have:i=8:=by omega
   subst this
   rw [partL_full (i:=8) hz (by rfl)]
   repeat' (first|intro _|refine cw ?_|refine cw2 ?_ ?_|(refine k_load ?_;refine ox_load_full (T:=185) rfl (by simp only [R8_len]) ?_)|(refine k_store ?_;refine ox_store_full (T:=185) rfl rfl (by simp only [R8_len]) (by exact rfl) (fun _=>rfl) ?_)|refine ow ?_|refine ow2 ?_ ?_|fail)
   refine rt_cell () rfl rfl rfl rfl trivial ?_
   exact ent
end Go.Dp
