/-
  Downpour, walked and proved: part 1.
  Conditions: those that stand in each theorem.
-/
import Derived.Test.YtcblcmdikhllbaaGreatDoorQTopEnough0
import Derived.Orders
import Derived.WalkSpells
import Derived.WalkKit
import Derived.ProofKit
import Derived.OpenShut
import Derived.ShutString
import Derived.ChangeOld
import Derived.Below
import Derived.SizedLaws
set_option linter.unusedVariables false
set_option linter.unusedSimpArgs false
set_option maxHeartbeats 64000000
namespace Go.Dp
open Go.RowKit
class SBox (H:List Hl) (b:Nat) (T:outParam TypeId) (cs:outParam (List Value)) (H':outParam (List Hl)):Prop where s:Sel H (.box b T cs) H'
instance sbox_here {b:Nat} {T:TypeId} {cs:List Value} {H:List Hl}:SBox (.box b T cs::H) b T cs H:=⟨.here⟩
instance (priority:=low) sbox_there {b:Nat} {T:TypeId} {cs:List Value} {y:Hl} {H H':List Hl} [h:SBox H b T cs H']:SBox (y::H) b T cs (y::H'):=⟨.there h.s⟩
class SRow (H:List Hl) (ad:Option Addr) (c:Nat) (n:outParam Nat) (T:outParam TypeId) (xs:outParam (List Value)) (H':outParam (List Hl)):Prop where s:Sel H (.row T 1 (.slice ad n c) n xs) H'
instance srow_here {ad:Option Addr} {n c:Nat} {T:TypeId} {xs:List Value} {H:List Hl}:SRow (.row T 1 (.slice ad n c) n xs::H) ad c n T xs H:=⟨.here⟩
instance (priority:=low) srow_there {ad:Option Addr} {n c:Nat} {T:TypeId} {xs:List Value} {y:Hl} {H H':List Hl} [h:SRow H ad c n T xs H']:SRow (y::H) ad c n T xs (y::H'):=⟨.there h.s⟩
class SAny (H:List Hl) (A:Hp→Prop) (H':outParam (List Hl)):Prop where s:Sel H (.any A) H'
instance sany_here {A:Hp→Prop} {H:List Hl}:SAny (.any A::H) A H:=⟨.here⟩
instance (priority:=low) sany_there {A:Hp→Prop} {y:Hl} {H H':List Hl} [h:SAny H A H']:SAny (y::H) A (y::H'):=⟨.there h.s⟩
section
variable {P:Program} {ops:Array Oper} {k:Kon} {rest:List Oper} {n:Nat} {e:Ev} {W:World} {H:List Hl}
variable {C:Value→List Hl→Prop} {ty:TypeId} {x y:Operand}
theorem a0F {T T':TypeId} [TOne P T] {b i:Nat} {cs:List Value} {v:Value} {H':List Hl} (hx:opd e x=some (.pointer (some ⟨b,i,none⟩))) [s:SBox H b T' cs H'] (hv:cs[i]?=some v)
  (h:C v H):O1 P (.load T x) ty n e H C:=o1_load hx s.s hv h
theorem a9I {T T':TypeId} {z:Value} {s by_:Nat} [TAgg P T] [TInf P T z s by_] {b i:Nat} {cs vs:List Value} {H':List Hl} (hx:opd e x=some (.pointer (some ⟨b,i,none⟩)))
  [sl:SBox H b T' cs H'] (hv:(cs.drop i).take s=vs) (hs:vs.length=s) (h:C (.agg vs.toArray) H):O1 P (.load T x) ty n e H C:=o1_load_agg hx sl.s hv hs h
theorem a0L {T:TypeId} [TOne P T] {p:Addr} {v:Value} {A:Hp→Prop} {H':List Hl} (hx:opd e x=some (.pointer (some p))) (hv:Cl A p v) [s:SAny H A H']
  (h:C v H):O1 P (.load T x) ty n e H C:=o1_load_any hx s.s hv h
theorem Sel.upd {H H':List Hl} {x:Hl} (s:Sel H x H') (y:Hl):∃ H2,Upd H x y H2∧∀ h,stars H2 h→stars (y::H') h:=by
 induction s with
 | here=>exact ⟨_,.here,fun _ h=>h⟩
 | there s ih =>
  obtain ⟨H2,h1,h2⟩:=ih
  exact ⟨_,.there h1,fun h hs=>a4X (a0U (a3B (a0U hs (fun _ a=>a) h2)) (fun _=>a3L) (fun _ a=>a))⟩
theorem O1.ent {op:Op} {H2:List Hl} (hE:∀ h,stars H h→stars H2 h) (h:O1 P op ty n e H2 C):O1 P op ty n e H C:=⟨fun a w ho=>h.out a w ⟨ho.ev,ho.sat.mono hE⟩⟩
theorem O1.post {op:Op} {C':Value→List Hl→Prop} (h:O1 P op ty n e H C') (hC:∀ v H',C' v H'→∃ H2,C v H2∧∀ h,stars H' h→stars H2 h):O1 P op ty n e H C :=
 ⟨fun a w ho o h1 h2 K Q hK=>h.out a w ho o h1 h2 K Q fun v w' H' hc hx hs=>by
  obtain ⟨H2,hc2,hE⟩:=hC v H' hc
  exact hK v w' H2 hc2 hx (hs.mono hE)⟩
theorem ox_store {T T':TypeId} {z:Value} {by_:Nat} [TInf P T z 1 by_] {b i:Nat} {cs:List Value} {v:Value} {H':List Hl} (hx:opd e x=some (.pointer (some ⟨b,i,none⟩))) (hy:opd e y=some v)
  [s:SBox H b T' cs H'] (hi:i<cs.length) (h1:v.oneCell'=true) (h:C undef (.box b T' (cs.set i v)::H')):O1 P (.store T x y) ty n e H C:=by
 obtain ⟨H2,u1,u2⟩:=s.s.upd (.box b T' (cs.set i v))
 exact (o1_store (C:=fun v K=>v=undef∧K=H2) hx hy u1 hi h1 ⟨rfl,rfl⟩).post fun v K hK=>⟨_,hK.1 ▸ h,hK.2 ▸ u2⟩
theorem a1H {α:Type} {enc:α→Value} {T E:TypeId} {z:Value} {by_:Nat} {ad ad':Option Addr} {c c':Nat} {xs ys:List α} {H':List Hl} {m a0:Nat} [TSl P T E] [TInf P E z 1 by_] (hx:opd e x=some (.slice ad a0 c)) (hy:opd e y=some (.slice ad' m c'))
  [s:SRow H ad c a0 E (xs.map enc) H'] (hr:RsH H enc ad' c' ys) (hm:m=ys.length) (hz:z.oneCell'=true) (henc:∀ x,(enc x).oneCell'=true) (hb:(a0+m)*by_≤140737488355328) (hb2:a0+m≤9223372036854775807)
  (h:∀ ad2 c2,C (.slice ad2 (a0+m) c2) (.row E 1 (.slice ad2 (a0+m) c2) (a0+m) ((xs++ys).map enc)::H')) :
  O1 P (.call ⟨.builtin .append, #[x,y], #[T,T]⟩) ty n e H C:=o1_append hz henc hx hy s.s hm hr hb hb2 h
theorem a3Q {α:Type} {A:Hp→Prop} {H':List Hl} {enc:α→Value} {ad:Option Addr} {c:Nat} {l:List α} (h:Rs A enc ad c l) [s:SAny H A H']:RsH H enc ad c l:=rs_any s.s h
theorem a0I {α:Type} {H':List Hl} {T:TypeId} {enc:α→Value} {ad:Option Addr} {n c:Nat} {l:List α} [s:SRow H ad c n T (l.map enc) H']:RsH H enc ad c l:=rs_row s.s
theorem a2H {α:Type} {H':List Hl} {T:TypeId} {enc:α→Value} {b c:Nat} {l:List α} [s:SBox H b T (l.map enc) H'] (hc:l.length=c) (hb:c≤9223372036854775807):RsH H enc (some ⟨b,0,none⟩) c l:=rs_box hc hb s.s
theorem b2G {L H:List Hl} {w:World} (h:sat w (stars (L++H))):sat w (stars (L++[.any (stars H)])) :=
 h.mono fun x hx=>a0W _ _ _ (a0U (a0X _ _ _ hx) (fun _ a=>a) (fun h' hh=>⟨h',fun _=>none,fun _ => .inr rfl,.refl _,fun _ _ e=>(by cases e),hh,trivial⟩))
theorem b1Z {L H:List Hl} {w:World} (h:sat w (stars (L++[.any (stars H)]))):sat w (stars (L++H)) :=
 h.mono fun x hx=>a0W _ _ _ (a0U (a0X _ _ _ hx) (fun _ a=>a) (fun h' hh=>by
  obtain ⟨h1,h2,_,s1,_,a,_⟩:=hh
  exact a8Z (L:=H) a s1))
theorem a0M {f:FuncId} {fn:Func} {c:Code} {args:List Value} {X:Type} {good:X→Prop} {val:X→Value} {res:X→List Hl} {m:Nat} (own:List Hl) (H:List Hl)
  (hf:P.funcs[f]?=some fn) (hb:fn.body=some c) (hm:fn.ntmps=m) (hname:(fn.name == "runtime.NumGoroutine")=false) (hle:Nat.ble args.length m=true)
  (h:∀ W,St P c (.fn fn fun x w'=>∃ r,good r∧x = .returned (val r)∧Ext W w'∧sat w' (stars (res r++[.any (stars H)]))) m (slots 0 args) W (own++[.any (stars H)])):Spec P f args (own++H) good val (fun r=>res r++H):=by
 have h1:Spec P f args (own++[.any (stars H)]) good val (fun r=>res r++[.any (stars H)]):=b1T m hf hb hm hname hle h
 exact ⟨h1.enters,fun w hs=>(h1.calls w (b2G hs)).mono fun x w' ⟨r,hg,he,hx,hsat⟩=>⟨r,hg,he,hx,b1Z hsat⟩⟩
theorem a0C {f:FuncId} {fn:Func} {c:Code} {args:List Value} {X:Type} {good:X→Prop} {val:X→Value} {res:X→List Hl} {m:Nat} (H:List Hl)
  (hf:P.funcs[f]?=some fn) (hb:fn.body=some c) (hm:fn.ntmps=m) (hname:(fn.name == "runtime.NumGoroutine")=false) (hle:Nat.ble args.length m=true)
  (h:∀ W,St P c (.fn fn fun x w'=>∃ r,good r∧x = .returned (val r)∧Ext W w'∧sat w' (stars (res r++[.any (stars H)]))) m (slots 0 args) W [.any (stars H)]):Spec P f args H good val (fun r=>res r++H):=a0M [] H hf hb hm hname hle h
theorem sF {f:FuncId} {fn:Func} {c:Code} {args:List Value} {X:Type} {good:X→Prop} {val:X→Value} {res:X→List Hl} {m:Nat} (own H:List Hl) (hf:P.funcs[f]?=some fn) (hm:fn.ntmps=m) (h:∀ W,St P c (.fn fn fun x w'=>∃ r,good r∧x = .returned (val r)∧Ext W w'∧sat w' (stars (res r++[.any (stars H)]))) m (slots 0 args) W (own++[.any (stars H)])) (hb:fn.body=some c:=by exact rfl) (hname:(fn.name == "runtime.NumGoroutine")=false:=by kernel_rfl) (hle:Nat.ble args.length m=true:=by exact rfl):Spec P f args (own++H) good val (fun r=>res r++H):=a0M own H hf hb hm hname hle h
theorem sP {f:FuncId} {fn:Func} {c:Code} {args:List Value} {X:Type} {good:X→Prop} {val:X→Value} {res:X→List Hl} {m:Nat} (H:List Hl) (hf:P.funcs[f]?=some fn) (hm:fn.ntmps=m) (h:∀ W,St P c (.fn fn fun x w'=>∃ r,good r∧x = .returned (val r)∧Ext W w'∧sat w' (stars (res r++[.any (stars H)]))) m (slots 0 args) W [.any (stars H)]) (hb:fn.body=some c:=by exact rfl) (hname:(fn.name == "runtime.NumGoroutine")=false:=by kernel_rfl) (hle:Nat.ble args.length m=true:=by exact rfl):Spec P f args H good val (fun r=>res r++H):=a0M [] H hf hb hm hname hle h
theorem cA {α:Type} (a:α) (l m:List α):a::l++m=a::(l++m):=rfl
theorem nA {α:Type} (l:List α):[]++l=l:=rfl
theorem Spec.bv {f:FuncId} {args:List Value} {good:Unit→Prop} {x b:Bool} {res:Unit→List Hl} (h:Spec P f args H good (fun _ => .bool x) res) (hx:x=b):Spec P f args H good (fun _ => .bool b) res:=hx ▸ h
theorem a0E {X:Type} {fn:Func} {good:X→Prop} {val:X→Value} {res:X→List Hl} {t:Nat} {v:Value} (r:X) (hres:fn.results = #[.tmp t]) (hl:look e t=some v) (hv:v=val r) (hg:good r) (hE:Ent H (res r)) :
  Rt P (.fn fn fun x w'=>∃ r,good r∧x = .returned (val r)∧Ext W w'∧sat w' (stars (res r))) n e W H :=
 rt_fn (v:=v) (fun a w ho=>by simp [results,hres,ho.ev.get t v hl]) r hg hv hE
theorem a2U {X:Type} {fn:Func} {good:X→Prop} {val:X→Value} {res:X→List Hl} {t t':Nat} {v v':Value} (r:X) (hres:fn.results = #[.tmp t,.tmp t']) (hl:look e t=some v) (hl':look e t'=some v') (hv : .tuple #[v,v']=val r) (hg:good r) (hE:Ent H (res r)) :
  Rt P (.fn fn fun x w'=>∃ r,good r∧x = .returned (val r)∧Ext W w'∧sat w' (stars (res r))) n e W H :=
 rt_fn (v := .tuple #[v,v']) (fun a w ho=>by simp [results,hres,ho.ev.get t v hl,ho.ev.get t' v' hl']) r hg hv hE
end
structure Row where
 dst:Option Nat
 edges:List Nat
 clo:List Nat
 guard:Option (Nat × Bool)
def rG:Nat→List Nat
 | 0=>[]
 | n+1=>rG n++[n]
def tR (d:Nat) (p a:List Nat):Row:=⟨some d,p,a,none⟩
def tG (d:Nat) (p a:List Nat) (g:Nat) (b:Bool):Row:=⟨some d,p,a,some (g,b)⟩
def edgesOf (o:Oper):List Nat:=(o.after.toList.filter (Region.binds .any)).map (·.on)
inductive Sp where
 | c (v:Value)
 | p (Q:Value→Prop) (R:Value→List Hl)
 | off
def Sp.ok:Sp→Value→Prop
 | .c u,v=>v=u
 | .p Q _,v=>Q v
 | .off,v=>v=undef
def Sp.hp:Sp→Value→List Hl
 | .p _ R,v=>R v
 | _,_=>[]
def Sp.run:Sp→Bool
 | .off=>false
 | _=>true
def spAt (sp:List Sp) (i:Nat):Sp:=(sp[i]?).getD .off
def dstAt (tab:List Row) (i:Nat):Option Nat:=(tab[i]?).bind (·.dst)
def envL (tab:List Row) (vals:Nat→Value) (l:List Nat):Ev:=l.filterMap fun j=>(dstAt tab j).map fun d=>(d,vals j)
def hpL (sp:List Sp) (vals:Nat→Value) (l:List Nat):List Hl:=l.flatMap fun j=>(spAt sp j).hp (vals j)
def AllV (sp:List Sp) (tab:List Row):List Nat→(Ev→List Hl→Prop)→Prop
 | [],C=>C [] []
 | j::l,C=>match spAt sp j,dstAt tab j with
  | .c v,some d=>AllV sp tab l fun E Hs=>C ((d,v)::E) Hs
  | .c _,none=>AllV sp tab l C
  | .p Q R,some d=>∀ v,Q v→AllV sp tab l fun E Hs=>C ((d,v)::E) (R v++Hs)
  | .p Q R,none=>∀ v,Q v→AllV sp tab l fun E Hs=>C E (R v++Hs)
  | .off,some d=>AllV sp tab l fun E Hs=>C ((d,undef)::E) Hs
  | .off,none=>AllV sp tab l C
theorem AllV.out {sp:List Sp} {tab:List Row} (vals:Nat→Value):∀ (l:List Nat) (C:Ev→List Hl→Prop),(∀ j∈l,(spAt sp j).ok (vals j))→AllV sp tab l C→C (envL tab vals l) (hpL sp vals l)
 | [],C,_,h=>h
 | j::l,C,hok,h=>by
  have hj:=hok j (by simp)
  have ih:=fun C=>AllV.out (sp:=sp) (tab:=tab) vals l C (fun i hi=>hok i (by simp [hi]))
  unfold AllV at h
  cases hs:spAt sp j with
  | c v =>
   rw [hs] at hj h
   have hj:vals j=v:=hj
   cases hd:dstAt tab j with
   | none=>rw [hd] at h;simpa [envL,hpL,hd,hs,Sp.hp] using ih _ h
   | some d=>rw [hd] at h;simpa [envL,hpL,hd,hs,Sp.hp,hj] using ih _ h
  | p Q R =>
   rw [hs] at hj h
   cases hd:dstAt tab j with
   | none=>rw [hd] at h;simpa [envL,hpL,hd,hs,Sp.hp] using ih _ (h _ hj)
   | some d=>rw [hd] at h;simpa [envL,hpL,hd,hs,Sp.hp] using ih _ (h _ hj)
  | off =>
   rw [hs] at hj h
   have hj:vals j=undef:=hj
   cases hd:dstAt tab j with
   | none=>rw [hd] at h;simpa [envL,hpL,hd,hs,Sp.hp] using ih _ h
   | some d=>rw [hd] at h;simpa [envL,hpL,hd,hs,Sp.hp,hj] using ih _ h
def keep (tab:List Row) (i:Nat) (t:Nat):Bool:=tab.zipIdx.all fun (r,j)=>r.dst != some t || r.clo.contains i
def gdOk (sp:List Sp) (i:Nat):Option (Nat × Bool)→Prop
 | none=>(spAt sp i).run=true
 | some (j,b)=>((spAt sp i).run=true∧spAt sp j = .c (.bool b))∨((spAt sp i).run=false∧(spAt sp j = .off∨spAt sp j = .c (.bool (!b))))
def tabOk (tab:List Row):Bool :=
 tab.zipIdx.all fun (r,i)=>r.edges.all (·<i) && r.clo.all (fun j=>r.edges.contains j || r.edges.any fun m=>((tab[m]?).map (·.clo.contains j)).getD false) &&
  (decide r.clo.Nodup) && (match r.guard with|none=>true|some (j,_)=>r.edges.contains j && ((tab[j]?).bind (·.dst)).isSome) &&
  (match r.dst with|none=>true|some d=>tab.zipIdx.all fun (s,j)=>s.dst != some d || i == j)
def Obl (P:Program) (n:Nat) (e:Ev) (H:List Hl) (sp:List Sp) (tab:List Row) (i:Nat) (o:Oper):Prop :=
 ∀ r,tab[i]?=some r→gdOk sp i r.guard∧((spAt sp i).run=true→∀ G:Hp→Prop,AllV sp tab r.clo fun E Hs =>
  O1 P o.op o.type n (E++e.filter fun x=>keep tab i x.1) (Hs++(H++[.any G])) fun v H'=>(spAt sp i).ok v∧∀ h,stars H' h→stars ((spAt sp i).hp v++(Hs++(H++[.any G]))) h)
def Obls (P:Program) (n:Nat) (e:Ev) (H:List Hl) (sp:List Sp) (tab:List Row):Nat→List Oper→Prop
 | _,[]=>True
 | i,o::l=>Obl P n e H sp tab i o∧Obls P n e H sp tab (i+1) l
theorem Obls.at_ {P:Program} {n:Nat} {e:Ev} {H:List Hl} {sp:List Sp} {tab:List Row}:∀ (l:List Oper) (i:Nat),Obls P n e H sp tab i l→∀ j o,l[j]?=some o→Obl P n e H sp tab (i+j) o
 | [],_,_,j,o,h=>by simp at h
 | x::l,i,hh,0,o,h=>by simp at h;subst h;exact hh.1
 | x::l,i,hh,j+1,o,h=>by
  have:=Obls.at_ l (i+1) hh.2 j o (by simpa using h)
  rwa [show i+1+j=i+(j+1) from by omega] at this
theorem a7C {A B C:List Hl} {h:Hp} (x:stars (A++(B++C)) h):stars (B++(A++C)) h:=by
 have:=a3B (a0U (a0X _ _ _ x) (fun _ a=>a) (a0X _ _))
 have:=a4X (a0U this (fun _=>a3L) (fun _ a=>a))
 exact a0W _ _ _ (a0U this (fun _ a=>a) (a0W _ _))
theorem pick {f:Nat→List Hl} {H:List Hl}:∀ (C D:List Nat),C.Nodup→(∀ x∈C,x∈D)→∃ R,∀ h,(stars (D.flatMap f++H) h→stars (C.flatMap f++(R++H)) h)∧(∀ X:List Hl,stars (X++(C.flatMap f++(R++H))) h→stars (X++(D.flatMap f++H)) h)
 | [],D,_,_=>⟨D.flatMap f,fun h=>⟨fun x=>by simpa using x,fun X x=>by simpa using x⟩⟩
 | c::C,D,hn,hs=>by
  obtain ⟨hc,hn'⟩:=List.nodup_cons.1 hn
  obtain ⟨D1,D2,rfl⟩:=List.append_of_mem (hs c (by simp))
  obtain ⟨R,hR⟩:=pick (f:=f) (H:=H) C (D1++D2) hn' (fun x hx=>by
   have:=hs x (by simp [hx])
   simp only [List.mem_append,List.mem_cons] at this ⊢
   rcases this with h|h|h
   ·exact .inl h
   ·exact absurd (h ▸ hx) hc
   ·exact .inr h)
  refine ⟨R,fun h=>⟨fun x=>?_,fun X x=>?_⟩⟩
  ·simp only [List.flatMap_append,List.flatMap_cons,List.append_assoc] at x ⊢
   have x1:=a0X _ _ _ (a7C x)
   refine a0W _ _ _ (a0U x1 (fun _ a=>a) fun h' y=>(hR h').1 ?_)
   simpa [List.flatMap_append,List.append_assoc] using y
  ·simp only [List.flatMap_append,List.flatMap_cons,List.append_assoc] at x ⊢
   have x1:=a7C x
   have x2:=a0X _ _ _ x1
   have x3:=a0W _ _ _ (a0U x2 (fun _ a=>a) fun h' y=>(hR h').2 X y)
   simp only [List.flatMap_append,List.append_assoc] at x3
   have x4:=a0X _ _ _ (a7C x3)
   exact a0W _ _ _ (a0U x4 (fun _ a=>a) fun h' y=>a7C y)
theorem flatMap_ext {α β:Type} {f g:α→List β}:∀ {l:List α},(∀ x∈l,f x=g x)→l.flatMap f=l.flatMap g
 | [],_=>rfl
 | x::l,h=>by simp only [List.flatMap_cons];rw [h x (by simp),flatMap_ext fun y hy=>h y (by simp [hy])]
theorem a7Q:∀ (A B:Ev) (t:Nat) (v:Value),look (A++B) t=some v→look A t=some v∨look B t=some v
 | [],B,t,v,h => .inr h
 | (j,u)::A,B,t,v,h=>by
  simp only [List.cons_append,look] at h ⊢
  cases hb:Nat.beq j t
  ·simp only [hb,cond_false] at h ⊢;exact a7Q A B t v h
  ·simp only [hb,cond_true] at h ⊢;exact .inl h
theorem a6U:∀ (A B:Ev) (t:Nat) (v:Value),look (A++B) t=some v→look A t=some v∨look A t=none∧look B t=some v
 | [],B,t,v,h => .inr ⟨rfl,h⟩
 | (j,u)::A,B,t,v,h=>by
  simp only [List.cons_append,look] at h ⊢
  cases hb:Nat.beq j t
  ·simp only [hb,cond_false] at h ⊢;exact a6U A B t v h
  ·simp only [hb,cond_true] at h ⊢;exact .inl h
theorem a9N {tab:List Row} {vals:Nat→Value}:∀ (l:List Nat) (t:Nat),look (envL tab vals l) t=none→∀ j∈l,dstAt tab j≠some t
 | [],t,h,j,hj=>by simp at hj
 | i::l,t,h,j,hj=>by
  cases hd:dstAt tab i with
  | none =>
   simp only [envL,List.filterMap_cons,hd,Option.map_none] at h
   rcases List.mem_cons.1 hj with rfl|hj
   ·rw [hd];simp
   ·exact a9N l t h j hj
  | some d =>
   simp only [envL,List.filterMap_cons,hd,Option.map_some,look] at h
   cases hb:Nat.beq d t
   ·simp only [hb,cond_false] at h
    rcases List.mem_cons.1 hj with rfl|hj
    ·rw [hd];intro e;cases e;simp at hb
    ·exact a9N l t h j hj
   ·simp [hb] at h
theorem b5E {tab:List Row} {vals:Nat→Value}:∀ (l:List Nat) (t:Nat) (v:Value),look (envL tab vals l) t=some v→∃ j∈l,dstAt tab j=some t∧vals j=v
 | [],t,v,h=>by simp [envL,look] at h
 | j::l,t,v,h=>by
  cases hd:dstAt tab j with
  | none =>
   simp only [envL,List.filterMap_cons,hd,Option.map_none] at h
   obtain ⟨i,hi,h1,h2⟩:=b5E l t v h
   exact ⟨i,by simp [hi],h1,h2⟩
  | some d =>
   simp only [envL,List.filterMap_cons,hd,Option.map_some,look] at h
   cases hb:Nat.beq d t
   ·rw [hb] at h
    obtain ⟨i,hi,h1,h2⟩:=b5E l t v h
    exact ⟨i,by simp [hi],h1,h2⟩
   ·rw [hb] at h
    have:=Nat.eq_of_beq_eq_true hb
    subst this
    simp only [cond_true,Option.some.injEq] at h
    exact ⟨j,by simp,hd,h⟩
theorem a5K {f:Nat→Bool}:∀ (e:Ev) (t:Nat) (v:Value),look (e.filter fun x=>f x.1) t=some v→f t=true∧look e t=some v
 | [],t,v,h=>by simp [look] at h
 | (j,u)::e,t,v,h=>by
  simp only [List.filter_cons] at h
  cases hf:f j
  ·rw [if_neg (by simp [hf])] at h
   obtain ⟨h1,h2⟩:=a5K e t v h
   refine ⟨h1,?_⟩
   simp only [look]
   cases hb:Nat.beq j t
   ·exact h2
   ·have:=Nat.eq_of_beq_eq_true hb;subst this;rw [hf] at h1;cases h1
  ·rw [if_pos (by simp [hf])] at h
   simp only [look] at h ⊢
   cases hb:Nat.beq j t
   ·rw [hb] at h;exact a5K e t v h
   ·rw [hb] at h
    have:=Nat.eq_of_beq_eq_true hb
    subst this
    exact ⟨hf,h⟩
section
variable {P:Program} {k:Kon} {n:Nat} {e e0:Ev} {W:World} {H:List Hl} {sp:List Sp} {tab:List Row} {l:List Oper}
structure Mid (tab:List Row) (sp:List Sp) (n:Nat) (e:Ev) (W:World) (H:List Hl) (D:List Nat) (a:Act) (w:World):Prop where
 size:a.tmps.size=n
 defers:a.defers=[]
 ext:Ext W w
 keep:∀ t v,look e t=some v→(∀ i∈D,dstAt tab i≠some t)→a.tmps[t]?=some v
 vals:∃ vals:Nat→Value,(∀ i∈D,(spAt sp i).ok (vals i)∧∀ d,dstAt tab i=some d→a.tmps[d]?=some (vals i))∧sat w (stars (hpL sp vals D++H))
theorem tabOk.row (ht:tabOk tab=true) {i:Nat} {r:Row} (hr:tab[i]?=some r):(∀ j∈r.edges,j<i)∧(∀ j∈r.clo,j∈r.edges∨∃ m∈r.edges,∃ s,tab[m]?=some s∧j∈s.clo)∧r.clo.Nodup ∧
  (∀ j b,r.guard=some (j,b)→j∈r.edges∧∃ d,dstAt tab j=some d)∧(∀ d,r.dst=some d→∀ j,dstAt tab j=some d→i=j):=by
 have h:=ht
 simp only [tabOk,List.all_eq_true] at h
 have hmem:(r,i)∈tab.zipIdx:=by
  rw [List.mem_zipIdx_iff_getElem?];simpa using hr
 have h1:=h _ hmem
 simp only [Bool.and_eq_true,List.all_eq_true,decide_eq_true_eq,Bool.or_eq_true,List.contains_eq_mem,List.any_eq_true] at h1
 obtain ⟨⟨⟨⟨h1,h2⟩,h3⟩,h4⟩,h5⟩:=h1
 refine ⟨h1,fun j hj=>?_,h3,fun j b hg=>?_,fun d hd j hj=>?_⟩
 ·rcases h2 j hj with hh|⟨m,hm,hh⟩
  ·exact .inl (by simpa using hh)
  ·refine .inr ⟨m,hm,?_⟩
   cases hs:tab[m]? with
   | none=>rw [hs] at hh;simp at hh
   | some s=>rw [hs] at hh;exact ⟨s,rfl,by simpa using hh⟩
 ·rw [hg] at h4
  simp only [Bool.and_eq_true] at h4
  exact ⟨by simpa using h4.1,by simpa [dstAt,Option.isSome_iff_exists] using h4.2⟩
 ·rw [hd] at h5
  simp only [List.all_eq_true] at h5
  cases hs:tab[j]? with
  | none=>simp [dstAt,hs] at hj
  | some s =>
   have:=h5 (s,j) (by rw [List.mem_zipIdx_iff_getElem?];simpa using hs)
   simp only [dstAt,hs,Option.bind_some] at hj
   simpa [hj] using this
theorem mid_step (he0:Covers e e0) (ht:tabOk tab=true) (hrows:l.map (fun o=>(o.dst,edgesOf o,o.guard))=tab.map (fun r=>(r.dst,r.edges,r.guard))) (hob:Obls P n e0 H sp tab 0 l) (hdst:tab.all (fun r=>match r.dst with|none=>true|some d=>Nat.blt d n)=true)
  {D:List Nat} (hD:D.Nodup) (hcl:∀ i∈D,∀ r,tab[i]?=some r→∀ j∈r.edges,j∈D) {i:Nat} (hi:i ∉ D) {r:Row} (hr:tab[i]?=some r) (hre:∀ j∈r.edges,j∈D) {a:Act} {w:World} (hm:Mid tab sp n e W H D a w)
  (K:Act→World→Prop) (hK:∀ a w,Mid tab sp n e W H (i::D) a w→K a w):wpOp P l.toArray (k.post P) i K a w:=by
 have hlen:l.length=tab.length:=by simpa using congrArg List.length hrows
 have hil:i<l.length:=by rw [hlen];exact (List.getElem?_eq_some_iff.1 hr).1
 have ho:l[i]?=some l[i]:=List.getElem?_eq_getElem hil
 generalize hoo:l[i]=o at ho
 have hrow:(o.dst,edgesOf o,o.guard)=(r.dst,r.edges,r.guard):=by
  have:=congrArg (fun x=>x[i]?) hrows
  simp only [List.getElem?_map,ho,hr,Option.map_some,Option.some.injEq] at this
  exact this
 simp only [Prod.mk.injEq] at hrow
 obtain ⟨hd,he,hg⟩:=hrow
 obtain ⟨c1,c2,c3,c4,c5⟩:=tabOk.row ht hr
 have hdn:∀ d,r.dst=some d→d<n:=by
  intro d hd
  have:=List.all_eq_true.1 hdst r (List.mem_of_getElem? hr)
  rw [hd] at this
  simpa [Nat.blt_eq] using this
 have hdi:dstAt tab i=r.dst:=by simp [dstAt,hr]
 have key:∀ m,∀ s,tab[m]?=some s→m∈D→∀ j∈s.clo,j∈D:=by
  intro m
  induction m using Nat.strongRecOn with
  | _ m ih =>
   intro s hs hmD j hj
   obtain ⟨e1,e2,_⟩:=tabOk.row ht hs
   rcases e2 j hj with hh|⟨q,hq,s',hs',hj'⟩
   ·exact hcl m hmD s hs j hh
   ·exact ih q (e1 q hq) s' hs' (hcl m hmD s hs q hq) j hj'
 have hclo:∀ j∈r.clo,j∈D:=by
  intro j hj
  rcases c2 j hj with hh|⟨m,hm',s,hs,hj'⟩
  ·exact hre j hh
  ·exact key m s hs (hre m hm') j hj'
 obtain ⟨gd,hrun⟩:=(Obls.at_ l 0 hob i o ho) r (by simpa using hr)
 simp only [Nat.zero_add] at gd hrun
 obtain ⟨vals,hvals,hsat⟩:=hm.vals
 have hnew:∀ (v:Value),(spAt sp i).ok v→∀ w',Ext w w'→sat w' (stars ((spAt sp i).hp v++(hpL sp vals D++H)))→Mid tab sp n e W H (i::D) (a.put o.dst v) w':=by
  intro v hv w' hx hs
  have hslot:∀ t,r.dst≠some t→(a.put o.dst v).tmps[t]?=a.tmps[t]?:=by
   intro t ht'
   rw [hd]
   cases hrd:r.dst with
   | none=>rfl
   | some d =>
    have:d≠t:=fun e=>by subst e;exact ht' hrd
    simp [Act.put,this]
  have hself:∀ d,r.dst=some d→(a.put o.dst v).tmps[d]?=some v:=by
   intro d hrd
   rw [hd,hrd]
   simp [Act.put,hm.size,hdn d hrd]
  refine ⟨?_,?_,hm.ext.trans hx,fun t u hl hn=>?_,fun j=>if j=i then v else vals j,fun j hj=>?_,?_⟩
  ·rw [hd];cases r.dst <;> simp [Act.put,hm.size]
  ·rw [hd];cases r.dst <;> simp [Act.put,hm.defers]
  ·rw [hslot t (fun e=>hn i (by simp) (hdi.trans e))]
   exact hm.keep t u hl (fun j hj=>hn j (by simp [hj]))
  ·by_cases hji:j=i
   ·subst hji
    refine ⟨by simpa using hv,fun d hdd=>?_⟩
    simp only [if_true]
    exact hself d (hdi.symm.trans hdd)
   ·have hjD:j∈D:=by simpa [hji] using hj
    obtain ⟨q1,q2⟩:=hvals j hjD
    refine ⟨by simpa [hji] using q1,fun d hdd=>?_⟩
    simp only [hji,if_false]
    rw [hslot d (fun e=>hji (c5 d e j hdd).symm)]
    exact q2 d hdd
  ·have hsame:∀ L:List Nat,(∀ j∈L,j∈D)→hpL sp (fun j=>if j=i then v else vals j) L=hpL sp vals L:=by
    intro L hL
    unfold hpL
    refine flatMap_ext fun j hj=>?_
    have:j≠i:=fun e=>hi (e ▸ hL j hj)
    simp [this]
   have:hpL sp (fun j=>if j=i then v else vals j) (i::D)=(spAt sp i).hp v++hpL sp vals D:=by
    rw [←hsame D (fun _ h=>h)]
    simp [hpL]
   rw [this,List.append_assoc]
   exact hs
 unfold wpOp
 simp only [List.getElem?_toArray,ho]
 have hdo:∀ j,(l.toArray[j]?).bind (·.dst)=dstAt tab j:=by
  intro j
  have:=congrArg (fun x=>x[j]?) hrows
  simp only [List.getElem?_map] at this
  simp only [List.getElem?_toArray,dstAt]
  cases h1:l[j]? <;> cases h2:tab[j]? <;> simp_all
 have hyield:∀ j x b,r.guard=some (j,b)→spAt sp j = .c (.bool x)→yielded l.toArray a.tmps j=some x:=by
  intro j x b hgd hs
  obtain ⟨hje,d,hd⟩:=c4 j b hgd
  obtain ⟨q1,q2⟩:=hvals j (hre j hje)
  rw [hs] at q1
  have q1:vals j = .bool x:=q1
  unfold yielded
  rw [hdo j,hd]
  simp [q2 d hd,q1]
 have hyield':∀ j b,r.guard=some (j,b)→spAt sp j = .off→yielded l.toArray a.tmps j=none:=by
  intro j b hgd hs
  obtain ⟨hje,d,hd⟩:=c4 j b hgd
  obtain ⟨q1,q2⟩:=hvals j (hre j hje)
  rw [hs] at q1
  have q1:vals j=undef:=q1
  unfold yielded
  rw [hdo j,hd]
  simp [q2 d hd,q1,undef]
 cases hsr:(spAt sp i).run with
 | false =>
  have hoff:spAt sp i = .off:=by
   cases h:spAt sp i <;> rw [h] at hsr <;> simp [Sp.run] at hsr
  have hw:Region.wanted o (yielded l.toArray a.tmps)=false:=by
   unfold Region.wanted
   rw [hg]
   cases hgd:r.guard with
   | none=>rw [hgd] at gd;rw [show (spAt sp i).run=true from gd] at hsr;cases hsr
   | some jb =>
    obtain ⟨j,b⟩:=jb
    rw [hgd] at gd
    rcases gd with ⟨h1,_⟩|⟨_,h2|h2⟩
    ·rw [h1] at hsr;cases hsr
    ·simp [hyield' j b hgd h2]
    ·simp [hyield j _ b hgd h2]
  rw [hw]
  refine hK _ _ (hnew undef (by rw [hoff];exact rfl) w (.refl w) ?_)
  rw [hoff]
  exact hsat
 | true =>
  have hw:Region.wanted o (yielded l.toArray a.tmps)=true:=by
   unfold Region.wanted
   rw [hg]
   cases hgd:r.guard with
   | none=>rfl
   | some jb =>
    obtain ⟨j,b⟩:=jb
    rw [hgd] at gd
    rcases gd with ⟨_,h1⟩|⟨h1,_⟩
    ·simp [hyield j _ b hgd h1]
    ·rw [h1] at hsr;cases hsr
  rw [hw]
  simp only [if_true]
  left
  obtain ⟨R,hR⟩:=pick (f:=fun j=>(spAt sp j).hp (vals j)) (H:=H) r.clo D c3 hclo
  have h1:=AllV.out vals r.clo _ (fun j hj=>(hvals j (hclo j hj)).1) (hrun hsr (stars R))
  refine h1.out a w ⟨⟨hm.size,hm.defers,fun t v hl=>?_⟩,?_⟩ o rfl rfl K _ fun v w' H' hc hx hs=>hK _ _ (hnew v hc.1 w' hx ?_)
  ·rcases a7Q _ _ t v hl with hl|hl
   ·obtain ⟨j,hj,hd',rfl⟩:=b5E _ t v hl
    exact (hvals j (hclo j hj)).2 t hd'
   ·obtain ⟨hk,hl⟩:=a5K e0 t v hl
    refine hm.keep t v (he0.look t v hl) fun j hj hd'=>?_
    simp only [keep,List.all_eq_true] at hk
    cases hs:tab[j]? with
    | none=>simp [dstAt,hs] at hd'
    | some s =>
     have:=hk (s,j) (by rw [List.mem_zipIdx_iff_getElem?];simpa using hs)
     simp only [dstAt,hs,Option.bind_some] at hd'
     simp only [hd',bne_self_eq_false,Bool.false_or,List.contains_eq_mem,decide_eq_true_eq] at this
     exact hi (key j s hs hj i this)
  ·refine hsat.mono fun h x=>?_
   have x1:=(hR h).1 x
   refine a0W _ _ _ (a0U (a0X _ _ _ x1) (fun _ a=>a) fun h' y=>?_)
   have y1:=a3L (a0X _ _ _ y)
   exact a0W _ _ _ (a0U y1 (fun _ a=>a) fun h2 z=>⟨h2,fun _=>none,fun _ => .inr rfl,.refl _,fun _ _ e=>(by cases e),z,trivial⟩)
  ·refine hs.mono fun h x=>(hR h).2 _ ?_
   have x1:=hc.2 h x
   refine a0W _ _ _ (a0U (a0X _ _ _ x1) (fun _ a=>a) fun h' y=>?_)
   refine a0W _ _ _ (a0U (a0X _ _ _ y) (fun _ a=>a) fun h2 z=>?_)
   refine a0W _ _ _ (a3L (a0U (a0X _ _ _ z) (fun _ a=>a) fun h3 u=>?_))
   obtain ⟨u1,u2,_,s1,_,q,_⟩:=u
   exact a8Z (L:=R) q s1
theorem filter_le {p:Nat→Bool} {i:Nat}:∀ (l:List Nat),(l.filter fun x=>p x && x != i).length≤(l.filter p).length
 | []=>by simp
 | y::l=>by
  have ih:=filter_le (p:=p) (i:=i) l
  simp only [List.filter_cons]
  cases hy:p y
  ·simpa using ih
  ·by_cases hyi:y=i
   ·subst hyi;simp;omega
   ·simp [hyi];exact ih
theorem b6Y {p:Nat→Bool} {i:Nat}:∀ (l:List Nat),i∈l→p i=true→(l.filter fun x=>p x && x != i).length<(l.filter p).length
 | [],h,_=>by simp at h
 | x::l,h,hp=>by
  by_cases hx:x=i
  ·subst hx
   have hle:=filter_le (p:=p) (i:=x) l
   simp only [List.filter_cons,hp,bne_self_eq_false,Bool.and_false,Bool.false_eq_true,if_false,if_true,List.length_cons]
   omega
  ·have:=b6Y l (by simpa [Ne.symm hx] using h) hp
   simp only [List.filter_cons]
   cases hpx:p x
   ·simpa using this
   ·simp [hx];exact this
theorem any_all (he0:Covers e e0) (ht:tabOk tab=true) (hrows:l.map (fun o=>(o.dst,edgesOf o,o.guard))=tab.map (fun r=>(r.dst,r.edges,r.guard))) (hob:Obls P n e0 H sp tab 0 l) (hdst:tab.all (fun r=>match r.dst with|none=>true|some d=>Nat.blt d n)=true)
  (hend:∀ D a w,(∀ i,i<l.length→i∈D)→Mid tab sp n e W H D a w→k.post P .normal a w) :
  ∀ (fuel:Nat) (listed:Array Bool) (D:List Nat) (a:Act) (w:World),D.Nodup→(∀ i∈D,i<l.length)→(∀ i∈D,∀ r,tab[i]?=some r→∀ j∈r.edges,j∈D)→listed.size=l.length→(∀ i,i<l.length→listed[i]?=some (decide (i∈D))) →
   ((List.range l.length).filter fun x => !decide (x∈D)).length≤fuel→Mid tab sp n e W H D a w→wpAny P .any l.toArray (k.post P) fuel listed a w:=by
 have hlen:l.length=tab.length:=by simpa using congrArg List.length hrows
 have hrow:∀ i,i<l.length→∃ r o,tab[i]?=some r∧l[i]?=some o∧edgesOf o=r.edges:=by
  intro i hi
  have h1:l[i]?=some l[i]:=List.getElem?_eq_getElem hi
  have h2:tab[i]?=some (tab[i]'(hlen ▸ hi)):=List.getElem?_eq_getElem _
  have:=congrArg (fun x=>x[i]?) hrows
  simp only [List.getElem?_map,h1,h2,Option.map_some,Option.some.injEq,Prod.mk.injEq] at this
  exact ⟨_,_,h2,h1,this.2.1⟩
 have hready:∀ (listed:Array Bool) (D:List Nat),listed.size=l.length→(∀ i,i<l.length→listed[i]?=some (decide (i∈D)))→∀ i,i<l.length→i ∉ D→(∀ r,tab[i]?=some r→∀ j∈r.edges,j∈D)→i∈Region.ready .any l.toArray listed:=by
  intro listed D hs hl i hi hiD hre
  obtain ⟨r,o,hr,ho,he⟩:=hrow i hi
  simp only [Region.ready,List.size_toArray,List.mem_filter,List.mem_range,Bool.and_eq_true]
  refine ⟨hi,by simp [Array.getD_eq_getD_getElem?,hl i hi,hiD],?_⟩
  simp only [List.getElem?_toArray,ho,Option.map_some,Option.getD_some]
  rw [Array.all_eq_true_iff_forall_mem]
  intro ed hed
  cases hb:Region.binds .any ed
  ·rfl
  ·have hj:ed.on∈r.edges:=by
    rw [←he]
    simp only [edgesOf,List.mem_map,List.mem_filter]
    exact ⟨ed,⟨by simpa using hed,hb⟩,rfl⟩
   have hjD:=hre r hr ed.on hj
   have hjl:ed.on<l.length:=by
    obtain ⟨c1,_⟩:=tabOk.row ht hr
    have:=c1 _ hj
    omega
   simp [Array.getD_eq_getD_getElem?,hl _ hjl,hjD]
 have hall:∀ (listed:Array Bool) (D:List Nat),listed.size=l.length→(∀ i,i<l.length→listed[i]?=some (decide (i∈D)))→Region.ready .any l.toArray listed=[]→∀ i,i<l.length→i∈D:=by
  intro listed D hs hl hr i
  induction i using Nat.strongRecOn with
  | _ i ih =>
   intro hi
   rcases Classical.em (i∈D) with h|h
   ·exact h
   ·have:=hready listed D hs hl i hi h fun r hr' j hj=>by
     obtain ⟨c1,_⟩:=tabOk.row ht hr'
     exact ih j (c1 j hj) (by have:=c1 j hj;omega)
    rw [hr] at this
    cases this
 intro fuel
 induction fuel with
 | zero =>
  intro listed D a w hD hlt hcl hs hl hf hm
  have hin:∀ i,i<l.length→i∈D:=by
   intro i hi
   rcases Classical.em (i∈D) with h|h
   ·exact h
   ·have:i∈(List.range l.length).filter fun x => !decide (x∈D):=by simp [hi,h]
    have:=List.length_pos_of_mem this
    omega
  refine ⟨?_,hend D a w hin hm⟩
  simp only [Region.ready,List.size_toArray,List.filter_eq_nil_iff,List.mem_range]
  intro i hi
  simp [Array.getD_eq_getD_getElem?,hl i hi,hin i hi]
 | succ fuel ih =>
  intro listed D a w hD hlt hcl hs hl hf hm
  refine ⟨fun hr=>hend D a w (hall listed D hs hl hr) hm,fun i hi=>?_⟩
  simp only [Region.ready,List.size_toArray,List.mem_filter,List.mem_range,Bool.and_eq_true] at hi
  obtain ⟨hil,hi1,hi2⟩:=hi
  have hiD:i ∉ D:=by simpa [Array.getD_eq_getD_getElem?,hl i hil] using hi1
  obtain ⟨r,o,hr,ho,he⟩:=hrow i hil
  have hre:∀ j∈r.edges,j∈D:=by
   intro j hj
   obtain ⟨c1,_⟩:=tabOk.row ht hr
   have hjl:j<l.length:=by have:=c1 j hj;omega
   rw [←he] at hj
   simp only [edgesOf,List.mem_map,List.mem_filter] at hj
   obtain ⟨ed,⟨hed,hb⟩,rfl⟩:=hj
   simp only [List.getElem?_toArray,ho,Option.map_some,Option.getD_some] at hi2
   rw [Array.all_eq_true_iff_forall_mem] at hi2
   have:=hi2 ed (by simpa using hed)
   simpa [hb,Array.getD_eq_getD_getElem?,hl _ hjl] using this
  refine mid_step he0 ht hrows hob hdst hD hcl hiD hr hre hm _ fun a' w' hm'=>ih _ (i::D) a' w' (List.nodup_cons.2 ⟨hiD,hD⟩) ?_ ?_ ?_ ?_ ?_ hm'
  ·intro j hj
   rcases List.mem_cons.1 hj with rfl|hj
   ·exact hil
   ·exact hlt j hj
  ·intro j hj s hs' q hq
   rcases List.mem_cons.1 hj with rfl|hj
   ·rw [hr] at hs';cases hs';exact List.mem_cons.2 (.inr (hre q hq))
   ·exact List.mem_cons.2 (.inr (hcl j hj s hs' q hq))
  ·simpa using hs
  ·intro j hj
   by_cases hji:j=i
   ·subst hji;simp [hs,hil]
   ·rw [Array.getElem?_setIfInBounds,if_neg (Ne.symm hji),hl j hj];simp [hji]
  ·have:=b6Y (p:=fun x => !decide (x∈D)) (i:=i) (List.range l.length) (by simpa using hil) (by simpa using hiD)
   have e2:((List.range l.length).filter fun x => !decide (x∈i::D))=((List.range l.length).filter fun x=>(!decide (x∈D)) && x != i):=by
    apply List.filter_congr
    intro x _
    by_cases hx:x=i <;> by_cases hxD:x∈D <;> simp [hx,hxD]
   rw [e2]
   omega
theorem st_draw {id:Nat} (e0:Ev) (sp:List Sp) (tab:List Row) (hm:P.follows .mixedOrders=true) (he:Covers e e0) (hrows:l.map (fun o=>(o.dst,edgesOf o,o.guard))=tab.map (fun r=>(r.dst,r.edges,r.guard)))
  (ht:tabOk tab=true) (hdst:tab.all (fun r=>match r.dst with|none=>true|some d=>Nat.blt d n)=true) (hob:Obls P n e0 H sp tab 0 l)
  (h:AllV sp tab (List.range tab.length).reverse fun E Hs=>Nx P k n (E++e) W (Hs++H)):St P (.region id l.toArray true) k n e W H :=
 ⟨fun a w ho=>by
  have hlen:l.length=tab.length:=by simpa using congrArg List.length hrows
  refine wp_region_any hm ?_
  refine any_all he ht hrows hob hdst (fun D a w hall hm=>?_) _ _ [] _ _ List.nodup_nil (by simp) (by simp) (by simp) (fun i hi=>by simp [hi]) (Nat.le_trans (List.length_filter_le _ _) (by simp)) ⟨ho.ev.size,ho.ev.defers,ho.ext.drew,fun t v hl _=>ho.ev.get t v hl,fun _=>undef,by simp,?_⟩
  ·obtain ⟨vals,hv,hs⟩:=hm.vals
   have hin:∀ j∈(List.range tab.length).reverse,j∈D:=fun j hj=>hall j (by simp at hj;omega)
   have hx:=AllV.out vals _ _ (fun j hj=>(hv j (hin j hj)).1) h
   refine hx.out a w ⟨⟨hm.size,hm.defers,fun t v hl=>?_⟩,hm.ext,?_⟩
   ·rcases a6U _ _ t v hl with hl|⟨hn,hl⟩
    ·obtain ⟨j,hj,hd,rfl⟩:=b5E _ t v hl
     exact (hv j (hin j hj)).2 t hd
    ·refine hm.keep t v hl fun i hi hd=>?_
     have hit:i<tab.length:=by
      cases hs:tab[i]? with
      | none=>simp [dstAt,hs] at hd
      | some s=>exact (List.getElem?_eq_some_iff.1 hs).1
     exact a9N _ t hn i (by simp;exact hit) hd
   ·obtain ⟨R,hR⟩:=pick (f:=fun j=>(spAt sp j).hp (vals j)) (H:=H) (List.range tab.length).reverse D (List.pairwise_reverse.2 (List.Pairwise.imp Ne.symm List.nodup_range)) hin
    refine hs.mono fun h x=>?_
    have x1:=a0X _ _ _ ((hR h).1 x)
    refine a0W _ _ _ (a0U x1 (fun _ a=>a) fun h' y=>?_)
    obtain ⟨_,u2,_,_,s2,_,q⟩:=a0X _ _ _ y
    exact a8Z (L:=H) q s2
  ·exact ho.sat⟩
end
def blk:Value→Nat
 | .slice (some a) _ _=>a.block
 | .pointer (some a)=>a.block
 | _=>0
section
variable {P:Program} {k:Kon} {n:Nat} {e:Ev} {W:World} {H:List Hl} {sp:List Sp} {tab:List Row}
theorem obl_nil {i:Nat}:Obls P n e H sp tab i []:=trivial
theorem a6Y {i:Nat} {o:Oper} {l:List Oper} (h:Obl P n e H sp tab i o) (hl:Obls P n e H sp tab (i+1) l):Obls P n e H sp tab i (o::l):=⟨h,hl⟩
theorem a9J {i:Nat} {dst:Option Nat} {op:Op} {ty:TypeId} {pos:String} {af:Array Edge} {g:Option (Nat × Bool)} {r:Row} (hr:tab[i]?=some r) (hg:gdOk sp i r.guard)
  (h:∀ G:Hp→Prop,AllV sp tab r.clo fun E Hs=>O1 P op ty n (E++e.filter fun x=>keep tab i x.1) (Hs++(H++[.any G])) fun v H'=>(spAt sp i).ok v∧∀ h,stars H' h→stars ((spAt sp i).hp v++(Hs++(H++[.any G]))) h) :
  Obl P n e H sp tab i ⟨dst,op,ty,pos,af,g⟩:=fun r' hr'=>by
 rw [hr] at hr'
 cases hr'
 exact ⟨hg,fun _=>h⟩
theorem a9P {i:Nat} (h:(spAt sp i).run=true):gdOk sp i none:=h
variable {C:Ev→List Hl→Prop} {l:List Nat} {j d:Nat} {v:Value}
theorem a6M (h:C [] []):AllV sp tab [] C:=h
theorem a5B (hs:spAt sp j = .c v) (hd:dstAt tab j=some d) (h:AllV sp tab l fun E Hs=>C ((d,v)::E) Hs):AllV sp tab (j::l) C:=by unfold AllV;rw [hs,hd];exact h
theorem b7V {Q:Value→Prop} {R:Value→List Hl} (hs:spAt sp j = .p Q R) (hd:dstAt tab j=some d) (h:∀ v,Q v→AllV sp tab l fun E Hs=>C ((d,v)::E) (R v++Hs)):AllV sp tab (j::l) C:=by unfold AllV;rw [hs,hd];exact h
end
section
variable {P:Program} {n:Nat} {e:Ev} {H:List Hl} {C:Value→List Hl→Prop} {ty:TypeId} {t t':TypeId} {x y:Operand} {kd:IntKind} {p q:Int}
theorem o1_lss_d (hx:opd e x=some (.int kd p)) (hy:opd e y=some (.int kd q)) (h:C (.bool (decide (p<q))) H):O1 P (.binOp .lss t x y t') ty n e H C:=a6S hx hy (fun w=>by simp [binOp_lss]) h
theorem o1_gtr_d (hx:opd e x=some (.int kd p)) (hy:opd e y=some (.int kd q)) (h:C (.bool (decide (q<p))) H):O1 P (.binOp .gtr t x y t') ty n e H C:=a6S hx hy (fun w=>by simp [binOp_gtr]) h
theorem b2X (hx:opd e x=some (.int kd p)) (hy:opd e y=some (.int kd q)) (h:C (.bool (decide (q≤p))) H):O1 P (.binOp .geq t x y t') ty n e H C:=a6S hx hy (fun w=>by simp [binOp_geq]) h
theorem b9C (hx:opd e x=some (.int kd p)) (hy:opd e y=some (.int kd q)) (h:C (.bool (decide (p=q))) H):O1 P (.binOp .eql t x y t') ty n e H C:=a6S hx hy (fun w=>by rw [binOp_eql,show (p == q)=decide (p=q) from rfl];rfl) h
theorem b8X (hx:opd e x=some (.int kd p)) (hy:opd e y=some (.int kd q)) (h:C (.bool (decide (p≠q))) H):O1 P (.binOp .neq t x y t') ty n e H C:=a6S hx hy (fun w=>by rw [binOp_neq,bne,show (p == q)=decide (p=q) from rfl];simp) h
theorem o1_streq_d {a b:List (BitVec 8)} (hx:opd e x=some (.string (str a))) (hy:opd e y=some (.string (str b))) (h:C (.bool (decide (a=b))) H):O1 P (.binOp .eql t x y t') ty n e H C:=o1_str hx hy (by rw [binOp_string_eql,str_beq]) h
theorem o1_strneq_d {a b:List (BitVec 8)} (hx:opd e x=some (.string (str a))) (hy:opd e y=some (.string (str b))) (h:C (.bool (decide (a≠b))) H):O1 P (.binOp .neq t x y t') ty n e H C:=o1_str hx hy (by rw [binOp_string_neq,str_beq];simp) h
end
abbrev W4 (x:BitVec 32):Value := .int .u32 (x.toNat:Int)
abbrev W8 (x:BitVec 64):Value := .int .u64 (x.toNat:Int)
abbrev I (n:Int):Value := .int .i64 n
abbrev V (v:Value):Value:=v
class BsOf (us:List (Nat × Value)) (ys:outParam (List (BitVec 8))):Prop where eq:us.map (·.2)=ys.map B
instance bsof_nil:BsOf [] []:=⟨rfl⟩
instance bsof_cons {i:Nat} {x:BitVec 8} {us:List (Nat × Value)} {ys:List (BitVec 8)} [h:BsOf us ys]:BsOf ((i,.int .u8 (x.toNat:Int))::us) (x::ys):=⟨by simp [h.eq]⟩
class LitB (c:Int):Prop where ok:((BitVec.ofInt 8 c).toNat:Int)=c
instance (priority:=low) bsof_lit {i:Nat} {c:Int} {us:List (Nat × Value)} {ys:List (BitVec 8)} [hc:LitB c] [h:BsOf us ys]:BsOf ((i,.int .u8 c)::us) (BitVec.ofInt 8 c::ys):=⟨by simp only [List.map_cons,h.eq];rw [B,hc.ok]⟩
instance :LitB 0:=⟨by decide⟩
theorem fill_lit {P:Program}:∀ (us:List (Nat × Value)) (j m:Nat) (pre:List Value) (z:Value),us.map (·.1)=List.range' j us.length→(∀ u∈us,u.2.oneCell'=true)→pre.length=j→m=j+us.length →
  Instr.fill (fun i=>some (i*1,1)) (pre++List.replicate us.length z).toArray us=some (pre++us.map (·.2)).toArray
 | [],j,m,pre,z,_,_,_,_=>by simp [Instr.fill]
 | (i,v)::us,j,m,pre,z,hi,h1,hp,hm=>by
  simp only [List.map_cons,List.length_cons,List.range'_succ,List.cons.injEq] at hi
  obtain ⟨rfl,hi⟩:=hi
  have hv:=h1 (i,v) (by simp)
  have hc:=a3O hv
  simp only [Instr.fill,hc]
  have hsz : ¬ (i*1 + #[v].size > (pre++List.replicate (us.length+1) z).toArray.size):=by simp;omega
  have hset:Array.foldl (fun cs x=>cs.setIfInBounds (i*1+x.snd) x.fst) (pre++List.replicate (us.length+1) z).toArray #[v].zipIdx=((pre++[v])++List.replicate us.length z).toArray:=by
   simp [List.replicate_succ,hp]
  have ih:=fill_lit (P:=P) us (i+1) m (pre++[v]) z hi (fun u hu=>h1 u (by simp [hu])) (by simp;omega) (by simp at hm;omega)
  simp only [List.map_cons,List.length_cons]
  rw [hset]
  rw [if_neg (by simp only [Bool.or_eq_true,decide_eq_true_eq,not_or];exact ⟨by simp,hsz⟩),ih]
  simp
class TPl (P:Program) (T:TypeId) (pl:outParam (List (Nat × Nat))):Prop where
 c:(match P.underlying T with|some (.struct fs)=>some (fs.toList.map fun f=>(f.offset,P.cellsOf f.type))|some (.array m e)=>some ((List.range m).map fun i=>(i*P.cellsOf e,P.cellsOf e))|_=>none)=some pl
def putL:List Value→Nat→List Value→List Value
 | cs,_,[]=>cs
 | cs,off,v::vs=>putL (cs.set off v) (off+1) vs
def buildL (pl:List (Nat × Nat)):List Value→List (Nat × Value)→List Value
 | cs,[]=>cs
 | cs,(i,v)::us=>buildL pl (putL cs ((pl[i]?).getD (0,0)).1 v.cells.toList) us
section
variable {P:Program} {ops:Array Oper} {k:Kon} {rest:List Oper} {n:Nat} {e:Ev} {W:World} {H:List Hl}
variable {C:Value→List Hl→Prop} {ty:TypeId} {t t':TypeId} {x y:Operand} {kd kd':IntKind} {p q:Int} {m m':Nat} {u v:BitVec m}
theorem a6H [h1:TInt P t kd] [h2:TInt P t' kd'] [UK kd m] [UK kd' m'] (hx:opd e x=some (.int kd u.toNat)) (h:C (.int kd' (u.setWidth m').toNat) H):O1 P (.convert t t' x) ty n e H C :=
 b9F (r:=((u.setWidth m').toNat:Int)) hx (by rw [UK.wrap];congr 2;apply BitVec.eq_of_toNat_eq;simp) h
theorem a2I [h1:TInt P t .i64] [h2:TInt P t' kd'] [UK kd' m'] (hx:opd e x=some (.int .i64 p)) (h:C (.int kd' (BitVec.ofInt m' p).toNat) H):O1 P (.convert t t' x) ty n e H C :=
 b9F hx (by rw [UK.wrap]) h
theorem o1_lit {T E:TypeId} {z:Value} {by_:Nat} {ps:List (Nat × Operand)} {us:List (Nat × Value)} [ht:TSl P T E] [hi:TInf P E z 1 by_] (hps:opdi e ps=some us) (hidx:us.map (·.1)=List.range' 0 us.length) (h1:∀ u∈us,u.2.oneCell'=true) (hz:z.oneCell'=true) (hm:m=us.length) (hb:Nat.ble us.length 16777216=true)
  (h:∀ b,C (.slice (some ⟨b,0,none⟩) m m) (.box b E (us.map (·.2))::H)):O1 P (.buildSlice T m ps.toArray) ty n e H C:=by
 subst hm
 have hb':us.length≤16777216:=by simpa using hb
 refine o1_buildSlice hps (fun w=>?_) h
 have hc:=a3O hz
 have hf:=fill_lit (P:=P) us 0 us.length [] z hidx h1 rfl (by omega)
 simp only [List.nil_append,Nat.mul_one] at hf
 have hbig : ¬ us.length*1 > 2 ^ 24:=by omega
 by_cases h0:us.length=0
 ·have hu0:us=[]:=List.eq_nil_of_length_eq_zero h0
  subst hu0
  simp [Instr.buildSlice,run_underlying ht.u,a1L,Instr.fill,newRow,Array.range_zero']
 ·have harr:Array.map (fun x=>[z][x % 1]?.getD default) (Array.range us.length)=(List.replicate us.length z).toArray:=by
   apply Array.ext'
   have:=toList_madeCells_one z us.length
   unfold madeCells at this
   rw [←this]
   congr 1
   apply Array.map_congr_left
   intro x _
   simp [Nat.mod_one]
  have hb2 : ¬ 16777216<us.length:=by omega
  simp only [Instr.buildSlice,Sem.run_bind,run_underlying ht.u,Result.andThen_ok,a1L,Nat.mul_one]
  rw [show (List.replicate us.length z).toArray=Array.replicate us.length z from by simp] at hf
  simp [h0,a9B,hc,harr,hb2,newRow]
  rw [hf]
  simp
theorem b9A {T E:TypeId} {z:Value} {by_:Nat} {ps:List (Nat × Operand)} {us:List (Nat × Value)} {ys:List (BitVec 8)} [ht:TSl P T E] [hi:TInf P E z 1 by_] (hps:opdi e ps=some us) (hidx:us.map (·.1)=List.range' 0 us.length) [hy:BsOf us ys] (hz:z.oneCell'=true) (hm:m=us.length) (hb:Nat.ble us.length 16777216=true)
  (h:∀ b,C (.slice (some ⟨b,0,none⟩) m m) (.box b E (ys.map B)::H)):O1 P (.buildSlice T m ps.toArray) ty n e H C :=
 o1_lit hps hidx (fun u hu=>by
  have:u.2∈us.map (·.2):=List.mem_map.2 ⟨u,hu,rfl⟩
  rw [hy.eq] at this
  obtain ⟨y,_,hy⟩:=List.mem_map.1 this
  rw [←hy];rfl) hz hm hb (fun b=>by rw [hy.eq];exact h b)
theorem b0H {T:TypeId} {z:Value} {s by_:Nat} {pl:List (Nat × Nat)} {ps:List (Nat × Operand)} {us:List (Nat × Value)} {vs:List Value} [TPl P T pl] [TInf P T z s by_] (hps:opdi e ps=some us) (hvs:buildL pl z.cells.toList us=vs) (hr:∀ w,(Instr.build T us.toArray).run P w = .ok (.agg vs.toArray) w)
  (h:C (.agg vs.toArray) H):O1 P (.build T ps.toArray) ty n e H C:=o1_build hps hr h
theorem a1A {α:Type} (T:TypeId) (enc:α→Value):∀ h,stars H h→stars (.row T 1 (.slice none 0 0) 0 (([]:List α).map enc)::H) h:=b2B T 1
theorem o1_make {T E:TypeId} {z:Value} {by_ lo cp:Nat} [TSl P T E] [TInf P E z 1 by_] (hz:z.oneCell'=true) (hx:opd e x=some (.int kd p)) (hy:opd e y=some (.int kd' q)) (hp:p=(lo:Int)) (hq:q=(cp:Int)) (h1:lo≤cp) (h2:by_*cp≤281474976710656) (h3:cp≤9223372036854775807)
  (h:∀ b,C (.slice (some ⟨b,0,none⟩) lo cp) (.box b E (List.replicate cp z)::H)):O1 P (.makeSlice T x y) ty n e H C:=by
 subst hp hq
 exact Go.Dp.o1_mk hz hx hy h1 h2 h3 h
end
theorem a7G {w:World} {H H':List Hl} {x:Hl} (h:sat w (stars H)) (s:Sel H x H'):sat w (stars (x::H')):=h.mono s.out
theorem a4J {P:Program} {b:Nat} {T:TypeId} {i0:Nat} {H':List Hl}:∀ (vs:List Value) (j:Nat) (cs:List Value) (w:World),sat w (stars (.box b T cs::H'))→i0+j+vs.length≤cs.length→(∀ v∈vs,v.oneCell'=true) →
  ∃ w',(storeCells ⟨b,i0,none⟩ vs j).run P w = .ok () w'∧Ext w w'∧sat w' (stars (.box b T (putL cs (i0+j) vs)::H'))
 | [],j,cs,w,h,_,_=>⟨w,by simp [storeCells],.refl w,h⟩
 | v::vs,j,cs,w,h,hl,h1=>by
  simp only [List.length_cons] at hl
  have hc:w.cell? ⟨b,i0+j,none⟩=some (cs[i0+j]'(by omega)):=by rw [h.cell .here (i0+j)];simp [show i0+j<cs.length from by omega]
  have hst:=run_store_one (P:=P) hc (h.free .here (i0+j)) (h1 v (by simp))
  have h2:=h.set_ (i0+j) v .here
  obtain ⟨w',hr,hx,hs⟩:=a4J (P:=P) (i0:=i0) vs (j+1) (cs.set (i0+j) v) _ h2 (by simp;omega) (fun u hu=>h1 u (by simp [hu]))
  refine ⟨w',?_,((Ext.refl w).setCell _ _).trans hx,hs⟩
  have ha:(⟨b,i0,none⟩:Addr).add j=⟨b,i0+j,none⟩:=by
   by_cases hj:j=0
   ·subst hj;simp [Addr.add]
   ·simp [Addr.add,hj]
  simp only [storeCells,Sem.run_bind,ha,hst,Result.andThen_ok]
  exact hr
section
variable {P:Program} {ops:Array Oper} {k:Kon} {rest:List Oper} {n:Nat} {e:Ev} {W:World} {H:List Hl}
variable {C:Value→List Hl→Prop} {ty:TypeId} {t t':TypeId} {x y:Operand} {kd kd':IntKind} {p q:Int} {m m':Nat} {u v:BitVec m}
theorem a7U {T T':TypeId} {z:Value} {s by_:Nat} [TInf P T z s by_] {b i:Nat} {cs vs cs':List Value} {H':List Hl} (hx:opd e x=some (.pointer (some ⟨b,i,none⟩))) (hy:opd e y=some (.agg vs.toArray))
  [sb:SBox H b T' cs H'] (hs:vs.length=s) (hi:i+vs.length≤cs.length) (h1:∀ v∈vs,v.oneCell'=true) (hcs:putL cs i vs=cs') (h:C undef (.box b T' cs'::H')):O1 P (.store T x y) ty n e H C :=
 o1_step_skip fun a w ho=>by
  subst hcs
  obtain ⟨w',hr,hx',hsat⟩:=a4J (P:=P) (i0:=i) vs 0 cs w (a7G ho.sat sb.s) (by omega) h1
  refine ⟨w',?_,_,h,hx',by simpa using hsat⟩
  simp [execOp,ho.ev.eval hx,ho.ev.eval hy,Instr.storeAt,Instr.sureAddr,storeVar,a1L,Value.cells,hs,hr]
theorem a1R {T T':TypeId} {z:Value} {by_:Nat} [TInf P T z 1 by_] {b i:Nat} {cs cs':List Value} {v:Value} {H':List Hl} (hx:opd e x=some (.pointer (some ⟨b,i,none⟩))) (hy:opd e y=some v)
  [s:SBox H b T' cs H'] (hi:i<cs.length) (h1:v.oneCell'=true) (hcs:cs.set i v=cs') (h:C undef (.box b T' cs'::H')):O1 P (.store T x y) ty n e H C:=ox_store hx hy hi h1 (hcs ▸ h)
theorem a4A {α:Type} (enc:α→Value) {T T':TypeId} {z:Value} {by_:Nat} [TInf P T z 1 by_] {b i:Nat} {l:List α} {v:α} {H':List Hl} (hx:opd e x=some (.pointer (some ⟨b,i,none⟩))) (hy:opd e y=some (enc v))
  [s:SBox H b T' (l.map enc) H'] (hi:i<l.length) (h1:(enc v).oneCell'=true) (h:C undef (.box b T' ((l.set i v).map enc)::H')):O1 P (.store T x y) ty n e H C:=a1R hx hy (by simpa using hi) h1 (by rw [List.map_set]) h
theorem a2V {α:Type} {enc:α→Value} {T T':TypeId} [TOne P T] {b i:Nat} {l:List α} {H':List Hl} (hx:opd e x=some (.pointer (some ⟨b,i,none⟩))) [s:SBox H b T' (l.map enc) H'] (hi:i<l.length) (h:C (enc l[i]) H):O1 P (.load T x) ty n e H C :=
 a0F hx (by simp [hi]) h
theorem a5Y [h1:TInt P t kd] [h2:TInt P t' .i64] (hx:opd e x=some (.int kd p)) (hb : -9223372036854775808≤p∧p≤9223372036854775807) (h:C (.int .i64 p) H):O1 P (.convert t t' x) ty n e H C :=
 b9F hx (a8B hb.1 hb.2) h
theorem a7O [h1:TInt P t kd] [h2:TInt P t' .u64] (hx:opd e x=some (.int kd p)) (hb:0≤p∧p≤18446744073709551615) (h:C (.int .u64 p) H):O1 P (.convert t t' x) ty n e H C :=
 b9F hx (by rw [IntKind.wrap_u64];omega) h
theorem a2J (hx:opd e x=some (.int kd p)) (hy:opd e y=some (.int kd q)) (hb:0≤p∧0<q) (h:C (.int kd (p % q)) H):O1 P (.binOp .rem t x y t') ty n e H C :=
 a5W hx hy (fun w=>by
  rw [binOp_rem]
  simp [Op.intDiv,show q≠0 from by omega,Int.tmod_eq_emod_of_nonneg hb.1]) h
theorem c1R {a b:Bool} [TBool P t] (hx:opd e x=some (.bool a)) (hy:opd e y=some (.bool b)) (h:C (.bool (a == b)) H):O1 P (.binOp .eql t x y t') ty n e H C :=
 a1U _ (fun a' w ho=>by simp [execOp,ho.ev.eval hx,ho.ev.eval hy,eqGuard_at_bool,run_eql_bool w t a b (TBool.u)]) h
theorem Spec.vv {f:FuncId} {args:List Value} {good:Unit→Prop} {a b:Value} {res:Unit→List Hl} (h:Spec P f args H good (fun _=>a) res) (hx:a=b):Spec P f args H good (fun _=>b) res:=hx ▸ h
theorem a5P {A:Option Addr} {l c:Nat} {T E:TypeId} [ht:TSl P T E] (hx:opd e x=some (.slice A l c)) (h:C (.bool (A.isNone)) H):O1 P (.binOp .eql T x (.const (.slice none 0 0)) t') ty n e H C :=
 a1U _ (fun a w ho=>by
  have h1:=Lib.run_eql_slice_nil (P:=P) w T E A l c 0 0 ht.u
  have h2:a.eval (.const (.slice none 0 0)) = .slice none 0 0:=rfl
  simp only [execOp,ho.ev.eval hx,eqGuard_at_slice,h2,Sem.run_bind,Sem.run_pure,Result.andThen_ok,h1]) h
end
open Go.RowKit Go.ChangeShapes Go.WideShapes
theorem Rs.up {α:Type} {A:Hp→Prop} {H H':List Hl} {enc:α→Value} {ad:Option Addr} {c:Nat} {l:List α} (h:Rs A enc ad c l) [s:SAny H A H']:Rs (stars H) enc ad c l:=h.lift s.s
def baseH (W:World):Hp→Prop:=fun h=>∀ i,h i=W.heap[i]?
abbrev base (W:World):List Hl:=[.any (baseH W)]
theorem base_sat (W:World):sat W (stars (base W)) :=
 ⟨fun i=>W.heap[i]?,fun _ _ e=>e,fun i=>W.heap[i]?,fun _=>none,fun _ => .inr rfl,.refl _,fun _ _ e=>(by cases e),fun _=>rfl,trivial⟩
theorem base_block {W w:World} (h:sat w (stars (base W))) {i:Nat} {o:Obj} (ho:W.heap[i]?=some o):w.heap[i]?=some o:=by
 obtain ⟨x,hw,h1,h2,hd,s1,s2,hb,_⟩:=h
 exact hw i o (s1 i o ((hb i).trans ho))
theorem b7M {W w:World} (h:sat w (stars (base W))) {a:Addr} {v:Value} (ho:W.cell? a=some v):w.cell? a=some v:=by
 unfold World.cell? at ho ⊢
 cases hb:W.heap[a.block]? with
 | none=>rw [hb] at ho;simp at ho
 | some o=>rw [base_block h hb];rw [hb] at ho;exact ho
theorem base_below {W w:World} (h:sat w (stars (base W))) (hx:Ext W w):Below W.heap.size W w :=
 ⟨hx.os,hx.tape,hx.output,hx.size,fun k hk=>by
  have:W.heap[k]?=some W.heap[k]:=by simp [hk]
  rw [this,base_block h this]⟩
abbrev most:Nat:=reachBytes
class Rd (P:Program) (t:TypeId) (X:outParam Type) (c:outParam (X→List Value)) (F:outParam (World→X→Prop)):Prop where
 o:∀ {H:Type} {enc:TypeId × Value→H} {W:World} {fuel:Nat} {cs:List Value} {x:DataW H × List MemPlace},DataW.trod enc P W 0 (fun _=>true) true fuel t cs=some x→(∀ n∈x.1.weights P t,n≤most)→∃ y,cs=c y∧F W y
structure SlD (Y:Type) where
 ad:Option Addr
 cap:Nat
 l:List Y
structure Rm {α:Type} (A:Hp→Prop) (m:Nat) (c:α→List Value) (ad:Option Addr) (cap:Nat) (l:List α):Prop where
 le:l.length≤cap
 big:cap≤9223372036854775807
 sm:0<l.length→∃ a,ad=some a
 cell:∀ w,sat w A→∀ a,ad=some a→∀ i x,l[i]?=some x→∀ j v,(c x)[j]?=some v→w.cell? (a.add (i*m+j))=some v
theorem b2F {P:Program} {t:TypeId} {z:Value} {s b:Nat} (h:TInf P t z s b):P.cellsOf t=s:=by
 obtain ⟨i,hi,_,hs,_⟩:=h.info
 simp [Program.cellsOf,hi,hs]
theorem bytesOf_inf {P:Program} {t:TypeId} {z:Value} {s b:Nat} (h:TInf P t z s b):P.bytesOf t=b:=by
 obtain ⟨i,hi,_,_,hb⟩:=h.info
 simp [Program.bytesOf,hi,hb]
instance rd_i64 {P:Program} {t:TypeId} [h:TInt P t .i64]:Rd P t Int (fun n=>[I n]) (fun _ n => -9223372036854775808≤n∧n≤9223372036854775807) where
 o hd _:=by
  obtain ⟨n,rfl,_,hw⟩:=DataW.trod_int h.u hd
  refine ⟨n,rfl,?_⟩
  simp only [Lit.wf,Bool.and_eq_true,decide_eq_true_eq] at hw
  exact hw
theorem bv_of {m:Nat} {n:Int} (h0:0≤n) (h1:n<2 ^ m):((BitVec.ofInt m n).toNat:Int)=n:=by
 rw [BitVec.toNat_ofInt]
 have:n % ((2 ^ m:Nat):Int)=n:=Int.emod_eq_of_lt h0 (by exact_mod_cast h1)
 omega
instance rd_u8 {P:Program} {t:TypeId} [h:TInt P t .u8]:Rd P t (BitVec 8) (fun n=>[B n]) (fun _ _=>True) where
 o hd _:=by
  obtain ⟨n,rfl,_,hw⟩:=DataW.trod_int h.u hd
  simp only [Lit.wf,Bool.and_eq_true,decide_eq_true_eq] at hw
  have h0:(0:Int)≤n:=hw.1
  have h1:n≤255:=hw.2
  exact ⟨BitVec.ofInt 8 n,by rw [B,bv_of h0 (by omega)],trivial⟩
instance rd_u32 {P:Program} {t:TypeId} [h:TInt P t .u32]:Rd P t (BitVec 32) (fun n=>[W4 n]) (fun _ _=>True) where
 o hd _:=by
  obtain ⟨n,rfl,_,hw⟩:=DataW.trod_int h.u hd
  simp only [Lit.wf,Bool.and_eq_true,decide_eq_true_eq] at hw
  have h0:(0:Int)≤n:=hw.1
  have h1:n≤4294967295:=hw.2
  exact ⟨BitVec.ofInt 32 n,by rw [W4,bv_of h0 (by omega)],trivial⟩
theorem rd_elems {P:Program} {t e:TypeId} {Y:Type} {c:Y→List Value} {G:World→Y→Prop} {z:Value} {m b:Nat} (hs:TSl P t e) (hr:Rd P e Y c G) (hi:TInf P e z m b)
  {H:Type} {enc:TypeId × Value→H} {W:World} {fuel:Nat} {cs:List Value} {x:DataW H × List MemPlace} (hd:DataW.trod enc P W 0 (fun _=>true) true fuel t cs=some x) (hw:∀ n∈x.1.weights P t,n≤most) :
  ∃ y:SlD Y,cs=[.slice y.ad y.l.length y.cap]∧y.l.length*b≤most∧(∀ u∈y.l,G W u)∧y.l.length≤y.cap∧y.cap≤9223372036854775807∧(0<y.l.length→∃ a,y.ad=some a) ∧
   ∀ a,y.ad=some a→∀ i u,y.l[i]?=some u→∀ j v,(c u)[j]?=some v→W.cell? (a.add (i*m+j))=some v:=by
 rcases DataW.trod_slice hs.u hd with ⟨rfl,_⟩|⟨a,len,cap,elems,rest,k,rfl,rfl,rfl,hb,hl,hm,hlen,hel,hsp,_⟩
 ·exact ⟨⟨none,0,[]⟩,rfl,by simp,by simp,by simp,by simp,by simp,by simp⟩
 ·rw [b2F hi] at hel
  have hwt:∀ n∈DataW.weights P t (.slice (elems.map (·.1)) (rest.map (·.1)):DataW H),n≤most:=hw
  simp only [DataW.weights,hs.u,bytesOf_inf hi,List.length_map] at hwt
  have hsz:(elems.length+rest.length)*b≤most:=hwt _ (by simp)
  have hall:∀ (l:List (DataW H)) (d:DataW H),d∈l→∀ n∈d.weights P e,n∈DataW.weightsAll P e l:=by
   intro l
   induction l with
   | nil=>intro d hd;simp at hd
   | cons q r ih =>
    intro d hd n hn
    simp only [DataW.weightsAll,List.mem_append]
    rcases List.mem_cons.1 hd with rfl|hd
    ·exact .inl hn
    ·exact .inr (ih d hd n hn)
  have each:∀ i,i<len→∃ (y:Y) (vs:List Value),W.cells? 0 (a.add (i*m)) m=some vs∧vs=c y∧G W y:=by
   intro i hi'
   have h1:=hel i hi'
   have h2:elems[i]?=some elems[i]:=by simp [hlen,hi']
   rw [h2] at h1
   cases hc:W.cells? 0 (a.add (i*m)) m with
   | none=>rw [hc] at h1;simp at h1
   | some vs =>
    rw [hc] at h1
    simp only [Option.bind_some] at h1
    obtain ⟨y,hy,hG⟩:=hr.o h1 (fun n hn=>hwt n (by
     simp only [List.mem_cons,List.mem_append]
     exact .inr (.inl (hall _ _ (List.mem_map.2 ⟨elems[i],List.getElem_mem _,rfl⟩) n hn))))
    exact ⟨y,vs,rfl,hy,hG⟩
  have pick:∃ l:List Y,l.length=len∧∀ i u,l[i]?=some u→∃ vs,W.cells? 0 (a.add (i*m)) m=some vs∧vs=c u∧G W u:=by
   clear hwt hw hsz hsp hel hd hlen hl
   induction len with
   | zero=>exact ⟨[],rfl,by simp⟩
   | succ q ih =>
    obtain ⟨l,hl,hf⟩:=ih (fun i hi=>each i (by omega))
    obtain ⟨y,vs,h1,h2,h3⟩:=each q (by omega)
    refine ⟨l++[y],by simp [hl],fun i u hu=>?_⟩
    rw [List.getElem?_append] at hu
    split at hu
    ·exact hf i u hu
    ·rename_i hge
     have:i=q:=by
      have:=(List.getElem?_eq_some_iff.1 hu).1
      simp at this;omega
     subst this
     simp [hl] at hu
     subst hu
     exact ⟨vs,h1,h2,h3⟩
  obtain ⟨l,hl',hf⟩:=pick
  refine ⟨⟨some a,cap,l⟩,by simp [hl'],?_,?_,by simp [hl'];omega,hm,fun _=>⟨a,rfl⟩,?_⟩
  ·simp only [hl',←hlen]
   exact Nat.le_trans (Nat.mul_le_mul_right _ (Nat.le_add_right _ _)) hsz
  ·intro u hu
   obtain ⟨i,hi,rfl⟩:=List.mem_iff_getElem.1 hu
   obtain ⟨_,_,_,h3⟩:=hf i l[i] (by simp [hi])
   exact h3
  ·intro a' ha i u hu j v hv
   injection ha with ha
   subst ha
   obtain ⟨vs,h1,rfl,_⟩:=hf i u hu
   obtain ⟨_,hlv,hc⟩:=World.cells?_some h1
   have hj:j<m:=by rw [←hlv];exact (List.getElem?_eq_some_iff.1 hv).1
   rw [←c0A,hc j hj,hv]
instance rd_slice {P:Program} {t e:TypeId} {Y:Type} {g:Y→Value} {G:World→Y→Prop} {z:Value} {b:Nat} [hs:TSl P t e] [hr:Rd P e Y (fun y=>[g y]) G] [hi:TInf P e z 1 b] :
  Rd P t (SlD Y) (fun s=>[.slice s.ad s.l.length s.cap]) (fun W s=>Rs (stars (base W)) g s.ad s.cap s.l∧s.l.length*b≤140737488351232∧∀ y∈s.l,G W y) where
 o hd hw:=by
  obtain ⟨y,h1,h2,h3,h4,h5,h6,h7⟩:=rd_elems hs hr hi hd hw
  refine ⟨y,h1,⟨h4,h5,h6,fun w hsat a ha i u hu=>?_⟩,h2,h3⟩
  have:=h7 a ha i u hu 0 (g u) rfl
  simp only [Nat.mul_one,Nat.add_zero] at this
  exact b7M hsat this
instance (priority:=low) rd_slicem {P:Program} {t e:TypeId} {Y:Type} {c:Y→List Value} {G:World→Y→Prop} {z:Value} {m b:Nat} [hs:TSl P t e] [hr:Rd P e Y c G] [hi:TInf P e z m b] :
  Rd P t (SlD Y) (fun s=>[.slice s.ad s.l.length s.cap]) (fun W s=>Rm (stars (base W)) m c s.ad s.cap s.l∧s.l.length*b≤140737488351232∧∀ y∈s.l,G W y) where
 o hd hw:=by
  obtain ⟨y,h1,h2,h3,h4,h5,h6,h7⟩:=rd_elems hs hr hi hd hw
  exact ⟨y,h1,⟨h4,h5,h6,fun w hsat a ha i u hu j v hv=>b7M hsat (h7 a ha i u hu j v hv)⟩,h2,h3⟩
class RdF (P:Program) (off:Nat) (L:List (Nat × TypeId)) (X:outParam Type) (c:outParam (X→List Value)) (F:outParam (World→X→Prop)):Prop where
 o:∀ {H:Type} {enc:TypeId × Value→H} {W:World} {cs:List Value},(∀ f∈L,∃ fuel x,DataW.trod enc P W 0 (fun _=>true) true fuel f.2 ((cs.drop f.1).take (P.cellsOf f.2))=some x∧∀ n∈x.1.weights P f.2,n≤most) →
  (∀ M,cs.length=M→(L.map fun f=>P.cellsOf f.2).sum+off=M→∃ y,cs.drop off=c y∧F W y)
instance rdf_nil {P:Program} {off:Nat}:RdF P off [] Unit (fun _=>[]) (fun _ _=>True) where
 o:=by
  intro H enc W cs _ M h1 h2
  simp at h2
  exact ⟨(),by simp;omega,trivial⟩
instance rdf_cons {P:Program} {off:Nat} {t:TypeId} {z:Value} {m b:Nat} {L:List (Nat × TypeId)} {X Y:Type} {c:X→List Value} {d:Y→List Value} {F:World→X→Prop} {G:World→Y→Prop}
  [hi:TInf P t z m b] [hr:Rd P t X c F] [hl:RdF P (off+m) L Y d G]:RdF P off ((off,t)::L) (X × Y) (fun u=>c u.1++d u.2) (fun W u=>F W u.1∧G W u.2) where
 o:=by
  intro H enc W cs h M h1 h2
  obtain ⟨fuel,x,hx,hw⟩:=h (off,t) (by simp)
  obtain ⟨y,hy,hF⟩:=hr.o hx hw
  simp only [List.map_cons,List.sum_cons,b2F hi] at h2
  obtain ⟨y',hy',hG⟩:=hl.o (fun f hf=>h f (by simp [hf])) M h1 (by omega)
  refine ⟨(y,y'),?_,hF,hG⟩
  rw [b2F hi] at hy
  rw [←hy,←hy',←List.drop_drop,List.take_append_drop]
class TSt (P:Program) (t:TypeId) (L:outParam (List (Nat × TypeId))):Prop where
 c:(match P.underlying t with|some (.struct fs)=>some (fs.toList.map fun f=>(f.offset,f.type))|some (.array m e)=>some ((List.range m).map fun i=>(i*P.cellsOf e,e))|_=>none)=some L
 s:(L.map fun f=>P.cellsOf f.2).sum=P.cellsOf t
theorem a7F {H:Type} {P:Program}:∀ (ts:List TypeId) (ds:List (DataW H)) (i:Nat) (t:TypeId) (d:DataW H),ts[i]?=some t→ds[i]?=some d→∀ n∈d.weights P t,n∈DataW.weightsEach P ts ds
 | [],_,_,_,_,h,_=>by simp at h
 | _::_,[],_,_,_,_,h=>by simp at h
 | t::ts,d::ds,0,_,_,h,h'=>by
  simp at h h'
  subst h h'
  intro n hn
  simp [DataW.weightsEach,hn]
 | t::ts,d::ds,i+1,_,_,h,h'=>by
  simp at h h'
  intro n hn
  simp only [DataW.weightsEach,List.mem_append]
  exact .inr (a7F ts ds i _ _ h h' n hn)
theorem weightsAll_mem {H:Type} {P:Program} {e:TypeId}:∀ (l:List (DataW H)) (i:Nat) (d:DataW H),l[i]?=some d→∀ n∈d.weights P e,n∈DataW.weightsAll P e l
 | [],_,_,h=>by simp at h
 | q::r,0,d,h=>by
  simp at h
  subst h
  intro n hn
  simp [DataW.weightsAll,hn]
 | q::r,i+1,d,h=>by
  simp at h
  intro n hn
  simp only [DataW.weightsAll,List.mem_append]
  exact .inr (weightsAll_mem r i d h n hn)
instance rd_struct {P:Program} {t:TypeId} {L:List (Nat × TypeId)} {X:Type} {c:X→List Value} {F:World→X→Prop} [hs:TSt P t L] [hr:RdF P 0 L X c F]:Rd P t X c F where
 o:=by
  intro H enc W fuel cs x hd hw
  have hc:=hs.c
  cases hu:P.underlying t with
  | none=>rw [hu] at hc;cases hc
  | some k =>
   rw [hu] at hc
   cases k <;> simp only [reduceCtorEq] at hc
   case struct fs =>
    injection hc with hc
    obtain ⟨xs,n,rfl,rfl,h1,h2,h3⟩:=DataW.trod_struct hu hd
    obtain ⟨y,hy,hF⟩:=hr.o (cs:=cs) (W:=W) (enc:=enc) (fun f hf=>by
     subst hc
     obtain ⟨q,hq,rfl⟩:=List.mem_map.1 hf
     obtain ⟨i,hi,hqi⟩:=List.mem_iff_getElem.1 hq
     have hgi:fs[i]?=some q:=by
      have:i<fs.size:=by simpa using hi
      simp [this,←hqi]
     have hx:=h3 i q hgi
     have hlt:i<xs.length:=by rw [h2];simpa using hi
     refine ⟨n,xs[i],by rw [hx];simp [hlt],fun m hm=>hw m ?_⟩
     simp only [DataW.weights,hu]
     exact a7F _ _ i q.type xs[i].1 (by simp [hgi]) (by simp [hlt]) m hm) cs.length rfl (by rw [hs.s,h1];rfl)
    exact ⟨y,by simpa using hy,hF⟩
   case array m e =>
    injection hc with hc
    obtain ⟨xs,n,rfl,rfl,h1,h2,h3⟩:=DataW.trod_array hu hd
    obtain ⟨y,hy,hF⟩:=hr.o (cs:=cs) (W:=W) (enc:=enc) (fun f hf=>by
     subst hc
     obtain ⟨i,hi,rfl⟩:=List.mem_map.1 hf
     have hi':i<m:=by simpa using hi
     have hlt:i<xs.length:=by omega
     refine ⟨n,xs[i],by rw [h3 i hi'];simp [hlt],fun q hq=>hw q ?_⟩
     simp only [DataW.weights,hu]
     exact weightsAll_mem _ i xs[i].1 (by simp [hlt]) q hq) cs.length rfl (by rw [hs.s,h1];rfl)
    exact ⟨y,by simpa using hy,hF⟩
class Par (P:Program) (t:TypeId) (X:outParam Type) (g:outParam (X→Value)) (F:outParam (World→X→Prop)):Prop where
 o:∀ {H:Type} {enc:TypeId × Value→H} {W:World} {r:Reach} {b0:Nat} {v:Value} {d:DataW H} {ps:List MemPlace},DataW.Trod enc P W 0 (fun _=>true) true t v d ps→Value.okWide P W r b0 t v→(∀ n∈d.weights P t,n≤most)→∃ y,v=g y∧F W y
theorem par_one {P:Program} {t:TypeId} {X:Type} {g:X→Value} {F:World→X→Prop} (hr:Rd P t X (fun y=>[g y]) F) (h1:∀ {W:World} {r:Reach} {b0:Nat} {v:Value},Value.okWide P W r b0 t v→v.cells = #[v]):Par P t X g F where
 o:=by
  intro H enc W r b0 v d ps ⟨fuel,hd⟩ hok hw
  obtain ⟨y,hy,hF⟩:=hr.o hd hw
  rw [h1 hok] at hy
  exact ⟨y,by simpa using hy,hF⟩
instance par_int {P:Program} {t:TypeId} {k:IntKind} {X:Type} {g:X→Value} {F:World→X→Prop} [h:TInt P t k] [hr:Rd P t X (fun y=>[g y]) F]:Par P t X g F:=par_one hr fun hok=>by
 obtain ⟨n,rfl⟩:=okWide_int h.u hok;rfl
instance par_slice {P:Program} {t e:TypeId} {X:Type} {g:X→Value} {F:World→X→Prop} [h:TSl P t e] [hr:Rd P t X (fun y=>[g y]) F]:Par P t X g F:=par_one hr fun hok=>by
 obtain ⟨a,n,c,rfl⟩:=okWide_slice h.u hok;rfl
theorem weigh {H:Type} {P:Program} {ts:List TypeId} {ds:List (DataW H)} (h:(DataW.weightsEach P ts ds).all (·≤reachBytes)=true) {j:Nat} {t:TypeId} {d:DataW H} (ht:ts[j]?=some t) (hd:ds[j]?=some d):∀ n∈d.weights P t,n≤most:=by
 intro n hn
 have:=List.all_eq_true.1 h n (a7F ts ds j t d ht hd n hn)
 simpa using this
end Go.Dp
namespace Go.Dp
open Go.RowKit
section
variable {P:Program} {ops:Array Oper} {k:Kon} {rest:List Oper} {n:Nat} {e:Ev} {W:World} {H:List Hl}
variable {C:Value→List Hl→Prop} {ty:TypeId} {t t':TypeId} {x y:Operand} {kd kd':IntKind} {p q:Int} {m m':Nat} {u v:BitVec m}
theorem a8I {a b:List (BitVec 8)} {r:Bool} (hx:opd e x=some (.string (str a))) (hy:opd e y=some (.string (str b))) (hr:decide (a=b)=r) (h:C (.bool r) H):O1 P (.binOp .eql t x y t') ty n e H C:=o1_streq_d hx hy (hr ▸ h)
theorem o1_strneq_r {a b:List (BitVec 8)} {r:Bool} (hx:opd e x=some (.string (str a))) (hy:opd e y=some (.string (str b))) (hr:decide (a≠b)=r) (h:C (.bool r) H):O1 P (.binOp .neq t x y t') ty n e H C:=o1_strneq_d hx hy (hr ▸ h)
theorem a0N {X:Type} {fn:Func} {good:X→Prop} {val:X→Value} {res:X→List Hl} {t t':Nat} {T T':TypeId} {z:Value} {s by_ b:Nat} {cs:List Value} {H':List Hl} {v':Value} [TAgg P T] [TInf P T z s by_] (r:X) (hres:fn.results = #[.cell t T,.tmp t'])
  (hl:look e t=some (.pointer (some ⟨b,0,none⟩))) [sb:SBox H b T' cs H'] (hs:cs.length=s) (hl':look e t'=some v') (hv : .tuple #[.agg cs.toArray,v']=val r) (hg:good r) (hE:Ent H (res r)) :
  Rt P (.fn fn fun x w'=>∃ r,good r∧x = .returned (val r)∧Ext W w'∧sat w' (stars (res r))) n e W H :=
 rt_fn (v := .tuple #[.agg cs.toArray,v']) (fun a w ho=>by
  have hl2:=run_loadCells_list (P:=P) w ⟨b,0,none⟩ cs (fun j v hj=>by
   have hc:=ho.sat.cell sb.s j
   rw [hj] at hc
   by_cases hj0:j=0
   ·subst hj0;simpa [Addr.add] using hc
   ·simpa [Addr.add,hj0] using hc)
  rw [hs] at hl2
  simp [results,hres,ho.ev.get t _ hl,ho.ev.get t' v' hl',loadVar,a4Q,a1L,asAddr,hl2]) r hg hv hE
theorem a5U {X:Type} {fn:Func} {good:X→Prop} {val:X→Value} {res:X→List Hl} {t:Nat} {T T':TypeId} {z:Value} {s by_ b:Nat} {cs:List Value} {H':List Hl} [TAgg P T] [TInf P T z s by_] (r:X) (hres:fn.results = #[.cell t T])
  (hl:look e t=some (.pointer (some ⟨b,0,none⟩))) [sb:SBox H b T' cs H'] (hs:cs.length=s) (hv : .agg cs.toArray=val r) (hg:good r) (hE:Ent H (res r)) :
  Rt P (.fn fn fun x w'=>∃ r,good r∧x = .returned (val r)∧Ext W w'∧sat w' (stars (res r))) n e W H :=
 rt_fn (v := .agg cs.toArray) (fun a w ho=>by
  have hl2:=run_loadCells_list (P:=P) w ⟨b,0,none⟩ cs (fun j v hj=>by
   have hc:=ho.sat.cell sb.s j
   rw [hj] at hc
   by_cases hj0:j=0
   ·subst hj0;simpa [Addr.add] using hc
   ·simpa [Addr.add,hj0] using hc)
  rw [hs] at hl2
  simp [results,hres,ho.ev.get t _ hl,loadVar,a4Q,a1L,asAddr,hl2]) r hg hv hE
variable {α:Type} {A:Hp→Prop} {enc:α→Value} {ad:Option Addr} {c l lo hi mx:Nat} {xs:List α} {T E:TypeId} {z:Value} {by_:Nat}
theorem o1_cut_h {oh:Operand} [ht:TSl P T E] [hi':TInf P E z 1 by_] (hx:opd e x=some (.slice ad l c)) (hh:opd e oh=some (.int kd' q)) (hr:Rs A enc ad c xs) (h0:l=xs.length) (hp:0≤q) (h2:q≤xs.length)
  (h:∀ ad2 c2 l2,l2=xs.take q.toNat→l2.length=q.toNat→Rs A enc ad2 c2 l2→C (.slice ad2 l2.length c2) H):O1 P (.slice T x none (some oh) none) ty n e H C:=by
 have hle:=hr.le
 have hc:=hr.cut 0 q.toNat c (by omega) (by omega) (by omega) (Nat.le_refl _)
 have hlen:(xs.take q.toNat).length=q.toNat:=by simp;omega
 have h1:=h _ _ _ rfl hlen hc
 rw [hlen] at h1
 exact b1E (hi:=q.toNat) hx (by rw [hh];congr 2;omega) (by omega) (by simpa using h1)
theorem o1_cut_l {ol:Operand} [ht:TSl P T E] [hi':TInf P E z 1 by_] (hx:opd e x=some (.slice ad l c)) (hl:opd e ol=some (.int kd p)) (hr:Rs A enc ad c xs) (h0:l=xs.length) (hp:0≤p) (h2:p≤xs.length)
  (h:∀ ad2 c2 l2,l2=xs.drop p.toNat→l2.length=xs.length - p.toNat→Rs A enc ad2 c2 l2→C (.slice ad2 l2.length c2) H):O1 P (.slice T x (some ol) none none) ty n e H C:=by
 have hle:=hr.le
 have hc:=hr.cut p.toNat xs.length c (by omega) (by omega) (by omega) (Nat.le_refl _)
 rw [List.take_length] at hc
 have hlen:(xs.drop p.toNat).length=xs.length - p.toNat:=by simp
 have h1:=h _ _ _ rfl hlen hc
 rw [hlen] at h1
 subst h0
 exact b4G (lo:=p.toNat) hx (by rw [hl];congr 2;omega) (by omega) (by simpa using h1)
theorem a2A {H2:List Hl} (hE:∀ h,stars H h→stars H2 h) (h:Rt P k n e W H2):Rt P k n e W H:=⟨fun a w ho=>h.out a w ⟨ho.ev,ho.ext,ho.sat.mono hE⟩⟩
theorem Sel.back {H H':List Hl} {x:Hl} (s:Sel H x H'):∀ h,stars (x::H') h→stars H h:=by
 induction s with
 | here=>exact fun _ h=>h
 | there s ih=>exact fun h hs=>a0U (a4X (a0U (a3B hs) (fun _=>a3L) (fun _ a=>a))) (fun _ a=>a) ih
theorem box_of_row {b:Nat} {T:TypeId} {cs:List Value} {h:Hp} (hr:Hl.den (.row T 1 (.slice (some ⟨b,0,none⟩) cs.length cs.length) cs.length cs) h):Hl.den (.box b T cs) h:=by
 obtain ⟨_,⟨hv,_⟩|⟨g,cap,cur,hv,hh,h1,h2,h3,h4⟩⟩:=hr
 ·cases hv
 ·injection hv with hv1 hv2 hv3
  injection hv1 with hv1
  injection hv1 with hv1
  subst hv1 hv3
  have:cur=cs.toArray:=by
   apply Array.ext'
   rw [←h4,List.take_of_length_le (by simp;omega)]
  show h=one b (.cells cs.toArray T (0,0))
  rw [hh,this]
theorem a2C {ad':Option Addr} {c' b m0:Nat} {ys:List α} {H':List Hl} {m a0:Nat} [TSl P T E] [TInf P E z 1 by_] (hx:opd e x=some (.slice (some ⟨b,0,none⟩) a0 m0)) (hy:opd e y=some (.slice ad' m c'))
  [s:SBox H b E (xs.map enc) H'] (ha:a0=xs.length) (h0:m0=xs.length) (hr:RsH H enc ad' c' ys) (hm:m=ys.length) (hz:z.oneCell'=true) (henc:∀ x,(enc x).oneCell'=true) (hb:(a0+m)*by_≤140737488355328) (hb2:a0+m≤9223372036854775807)
  (h:∀ ad2 c2,C (.slice ad2 (a0+m) c2) (.row E 1 (.slice ad2 (a0+m) c2) (a0+m) ((xs++ys).map enc)::H')) :
  O1 P (.call ⟨.builtin .append, #[x,y], #[T,T]⟩) ty n e H C:=by
 subst ha h0
 have hE:=a4Z (m:=xs.length) (cp:=xs.length) s.s (by simp) (Nat.le_refl _) (by omega)
 rw [show (xs.map enc).take xs.length=xs.map enc from by rw [List.take_of_length_le (by simp)]] at hE
 refine O1.ent hE (a1H hx hy (fun _=>?_) hm hz henc hb hb2 h)
 have back:∀ w,sat w (stars (.row E 1 (.slice (some ⟨b,0,none⟩) xs.length xs.length) xs.length (xs.map enc)::H'))→sat w (stars H):=fun w hw=>hw.mono fun h hs=>s.s.back h (a0U hs (fun h' hr=>box_of_row (by simpa using hr)) (fun _ a=>a))
 rename_i hhas
 obtain ⟨w,hw⟩:=hhas
 exact (hr ⟨w,back w hw⟩).mono back
end
end Go.Dp
