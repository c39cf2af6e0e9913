/-
  Downpour, walked and proved: part 0.
  Conditions: those that stand in each theorem.
-/
import Derived.WalkKit
import Derived.Maps.AppendAt
import Derived.Laws.CopyRow
import Derived.Laws.MakeOwn
import Derived.Laws.Cells
import Derived.Laws.BytesString
import Derived.Laws.Strings
set_option linter.unusedVariables false
set_option linter.unusedSimpArgs false
set_option maxHeartbeats 64000000
namespace Go.Dp
open Go.RowKit
abbrev Ev:=List (Nat × Value)
def look:Ev→Nat→Option Value
 | [],_=>none
 | (k,v)::l,t=>bif Nat.beq k t then some v else look l t
def opd (e:Ev):Operand→Option Value
 | .tmp t=>look e t
 | .const v=>some v
 | .global g=>some (.pointer (some ⟨g,0,none⟩))
 | .func f=>some (.func (.func f) #[] #[])
structure EvOk (a:Act) (n:Nat) (e:Ev):Prop where
 size:a.tmps.size=n
 defers:a.defers=[]
 get:∀ t v,look e t=some v→a.tmps[t]?=some v
theorem EvOk.eval {a:Act} {n:Nat} {e:Ev} (h:EvOk a n e) {x:Operand} {v:Value} (hx:opd e x=some v):a.eval x=v:=by
 cases x with
 | tmp t=>have:=h.get t v hx;simp [Act.eval,this]
 | const u=>simpa [opd,Act.eval] using hx
 | global g=>simpa [opd,Act.eval] using hx
 | func f=>simpa [opd,Act.eval] using hx
theorem EvOk.put {a:Act} {n:Nat} {e:Ev} (h:EvOk a n e) {d:Nat} (hd:Nat.blt d n=true) (v:Value):EvOk (a.put (some d) v) n ((d,v)::e):=by
 have hd':d<n:=by simpa [Nat.blt_eq] using hd
 refine ⟨by simp [Act.put,h.size],by simp [Act.put,h.defers],?_⟩
 intro t u hl
 simp only [look] at hl
 by_cases he:d=t
 ·subst he
  rw [show Nat.beq d d=true from by simp] at hl
  simp only [cond_true,Option.some.injEq] at hl
  subst hl
  simp [Act.put,h.size,hd']
 ·have:Nat.beq d t=false:=by
   cases hb:Nat.beq d t
   ·rfl
   ·exact absurd (Nat.eq_of_beq_eq_true hb) he
  rw [this] at hl
  simp only [cond_false] at hl
  have:=h.get t u hl
  simp [Act.put,he,this]
theorem EvOk.put_none {a:Act} {n:Nat} {e:Ev} (h:EvOk a n e) (v:Value):EvOk (a.put none v) n e:=h
def Covers (e:Ev):Ev→Prop
 | []=>True
 | (t,v)::l=>look e t=some v∧Covers e l
theorem Covers.look {e:Ev}:∀ {l:Ev},Covers e l→∀ t v,look l t=some v→look e t=some v
 | [],_,t,v,h=>by simp [Dp.look] at h
 | (k,u)::l,h,t,v,hl=>by
  simp only [Dp.look] at hl
  cases hb:Nat.beq k t
  ·rw [hb] at hl;exact Covers.look h.2 t v hl
  ·rw [hb] at hl
   simp only [cond_true,Option.some.injEq] at hl
   subst hl
   have:=Nat.eq_of_beq_eq_true hb
   subst this
   exact h.1
theorem EvOk.covers {a:Act} {n:Nat} {e l:Ev} (h:EvOk a n e) (hc:Covers e l):EvOk a n l:=⟨h.size,h.defers,fun t v hl=>h.get t v (hc.look t v hl)⟩
theorem a6A {e:Ev}:Covers e []:=trivial
theorem a0R {e l:Ev} {t:Nat} {v v':Value} (h:look e t=some v') (hv:v'=v) (hl:Covers e l):Covers e ((t,v)::l):=⟨hv ▸ h,hl⟩
abbrev Hp:=Nat→Option Obj
def one (b:Nat) (o:Obj):Hp:=fun i=>if i=b then some o else none
def Sub (h1 h:Hp):Prop:=∀ i o,h1 i=some o→h i=some o
theorem Sub.refl (h:Hp):Sub h h:=fun _ _ e=>e
theorem Sub.trans {a b c:Hp} (h:Sub a b) (k:Sub b c):Sub a c:=fun i o e=>k i o (h i o e)
def Dis (h1 h2:Hp):Prop:=∀ i,h1 i=none∨h2 i=none
theorem Dis.symm {a b:Hp} (h:Dis a b):Dis b a:=fun i=>(h i).symm
def sep (A B:Hp→Prop):Hp→Prop:=fun h=>∃ h1 h2,Dis h1 h2∧Sub h1 h∧Sub h2 h∧A h1∧B h2
inductive Hl where
 | box (b:Nat) (T:TypeId) (cs:List Value)
 | row (T:TypeId) (size:Nat) (v:Value) (n:Nat) (xs:List Value)
 | any (A:Hp→Prop)
def rowHp (T:TypeId) (size:Nat) (v:Value) (n:Nat) (xs:List Value) (h:Hp):Prop :=
 xs.length=n*size∧((v = .slice none 0 0∧n=0∧∀ i,h i=none) ∨
  ∃ g cap cur,v = .slice (some ⟨g,0,none⟩) n cap∧h=one g (.cells cur T (0,0))∧n≤cap∧cap≤maxLen∧cur.size=cap*size∧cur.toList.take (n*size)=xs)
def Hl.den:Hl→Hp→Prop
 | .box b T cs=>fun h=>h=one b (.cells cs.toArray T (0,0))
 | .row T size v n xs=>rowHp T size v n xs
 | .any A=>A
def stars:List Hl→Hp→Prop
 | []=>fun _=>True
 | x::L=>sep x.den (stars L)
def sat (w:World) (A:Hp→Prop):Prop:=∃ h:Hp,(∀ i o,h i=some o→w.heap[i]?=some o)∧A h
structure Ext (W w:World):Prop where
 os:w.os=W.os
 tape:w.tape=W.tape
 output:w.output=W.output
 size:W.heap.size≤w.heap.size
theorem Ext.refl (w:World):Ext w w:=⟨rfl,rfl,rfl,Nat.le_refl _⟩
theorem Ext.trans {a b c:World} (h:Ext a b) (k:Ext b c):Ext a c:=⟨k.os.trans h.os,k.tape.trans h.tape,k.output.trans h.output,Nat.le_trans h.size k.size⟩
theorem Ext.drew {a b:World} (h:Ext a b):Ext a b.drew:=⟨h.os,h.tape,h.output,h.size⟩
theorem Ext.alloc {a b:World} (h:Ext a b) (o:Obj):Ext a (b.alloc o):=⟨h.os,h.tape,h.output,by have:=h.size;simp;omega⟩
theorem Ext.setCell {a b:World} (h:Ext a b) (p:Addr) (v:Value):Ext a (b.setCell p v):=⟨h.os,h.tape,h.output,by have:=h.size;simpa using this⟩
theorem sat.drew {w:World} {A:Hp→Prop} (h:sat w A):sat w.drew A:=h
theorem sat.mono {w:World} {A B:Hp→Prop} (h:sat w A) (hab:∀ h,A h→B h):sat w B:=let ⟨x,a,b⟩:=h;⟨x,a,hab _ b⟩
theorem a3L {A B:Hp→Prop} {h:Hp} (x:sep A B h):sep B A h:=let ⟨h1,h2,hd,s1,s2,a,b⟩:=x;⟨h2,h1,hd.symm,s2,s1,b,a⟩
theorem sep_up {A B:Hp→Prop} {h h':Hp} (x:sep A B h) (s:Sub h h'):sep A B h':=let ⟨h1,h2,hd,s1,s2,a,b⟩:=x;⟨h1,h2,hd,s1.trans s,s2.trans s,a,b⟩
theorem a4X {A B C:Hp→Prop} {h:Hp} (x:sep (sep A B) C h):sep A (sep B C) h:=by
 obtain ⟨h12,h3,hd,s12,s3,⟨h1,h2,hd',s1,s2,ha,hb⟩,hc⟩:=x
 have e1:∀ i,h12 i=none→h1 i=none:=fun i e=>by
  cases h:h1 i with
  | none=>rfl
  | some o=>rw [s1 i o h] at e;cases e
 have e2:∀ i,h12 i=none→h2 i=none:=fun i e=>by
  cases h:h2 i with
  | none=>rfl
  | some o=>rw [s2 i o h] at e;cases e
 have d13:Dis h1 h3:=fun i=>(hd i).imp_left (e1 i)
 have d23:Dis h2 h3:=fun i=>(hd i).imp_left (e2 i)
 refine ⟨h1,fun i=>(h2 i).or (h3 i),fun i=>?_,s1.trans s12,fun i o e=>?_,ha,h2,h3,d23,fun i o e=>by simp [e],fun i o e=>?_,hb,hc⟩
 ·rcases d13 i with e|e
  ·exact .inl e
  ·rcases hd' i with e' | e'
   ·exact .inl e'
   ·right;simp [e,e']
 ·have e:(h2 i).or (h3 i)=some o:=e
  cases h:h2 i with
  | none=>rw [h] at e;exact s3 i o (by simpa using e)
  | some q=>rw [h] at e;simp only [Option.some_or,Option.some.injEq] at e;subst e;exact s12 _ _ (s2 _ _ h)
 ·rcases d23 i with h|h
  ·simp [h,e]
  ·rw [h] at e;cases e
theorem a3B {A B C:Hp→Prop} {h:Hp} (x:sep A (sep B C) h):sep (sep A B) C h:=by
 have flip:∀ h,sep B C h→sep C B h:=fun h=>a3L
 obtain ⟨h1,h23,hd,s1,s23,ha,hbc⟩:=x
 have y:sep (sep C B) A h:=⟨h23,h1,hd.symm,s23,s1,a3L hbc,ha⟩
 obtain ⟨h3,h21,hd2,s3,s21,hc,hba⟩:=a4X y
 exact ⟨h21,h3,hd2.symm,s21,s3,a3L hba,hc⟩
theorem a0U {A B A' B':Hp→Prop} {h:Hp} (x:sep A B h) (ha:∀ h,A h→A' h) (hb:∀ h,B h→B' h):sep A' B' h:=by
 obtain ⟨h1,h2,hd,s1,s2,a,b⟩:=x
 exact ⟨h1,h2,hd,s1,s2,ha _ a,hb _ b⟩
theorem a8Z:∀ {L:List Hl} {h h':Hp},stars L h→Sub h h'→stars L h'
 | [],_,_,_,_=>trivial
 | _::_,_,_,x,s=>sep_up x s
theorem b4X {A B:Hp→Prop} {w:World} (x:sat w (sep A B)):sat w A:=by
 obtain ⟨h,hw,h1,h2,hd,s1,s2,a,b⟩:=x
 exact ⟨h1,fun i o e=>hw i o (s1 i o e),a⟩
theorem sep_right {A B:Hp→Prop} {w:World} (x:sat w (sep A B)):sat w B:=b4X (x.mono fun _=>a3L)
inductive Sel:List Hl→Hl→List Hl→Prop
 | here {x:Hl} {H:List Hl}:Sel (x::H) x H
 | there {x y:Hl} {H H':List Hl} (h:Sel H x H'):Sel (y::H) x (y::H')
theorem Sel.out {H H':List Hl} {x:Hl} (s:Sel H x H'):∀ h,stars H h→stars (x::H') h:=by
 induction s with
 | here=>exact fun _ h=>h
 | there s ih =>
  intro h hs
  have:=a0U hs (fun _ a=>a) ih
  exact a4X (a0U (a3B this) (fun _=>a3L) (fun _ a=>a))
inductive Upd:List Hl→Hl→Hl→List Hl→Prop
 | here {x y:Hl} {H:List Hl}:Upd (x::H) x y (y::H)
 | there {x y z:Hl} {H H':List Hl} (h:Upd H x y H'):Upd (z::H) x y (z::H')
theorem Upd.out {H H':List Hl} {x y:Hl} (s:Upd H x y H'):∃ R:Hp→Prop,(∀ h,stars H h→sep x.den R h)∧(∀ h,sep y.den R h→stars H' h):=by
 induction s with
 | here=>exact ⟨_,fun _ h=>h,fun _ h=>h⟩
 | @there x y z H H' s ih =>
  obtain ⟨R,h1,h2⟩:=ih
  refine ⟨sep z.den R,fun h hs=>?_,fun h hs=>?_⟩
  ·exact a4X (a0U (a3B (a0U hs (fun _ a=>a) h1)) (fun _=>a3L) (fun _ a=>a))
  ·exact a0U (a4X (a0U (a3B hs) (fun _=>a3L) (fun _ a=>a))) (fun _ a=>a) h2
inductive Ent:List Hl→List Hl→Prop
 | nil {H:List Hl}:Ent H []
 | cons {H H' K:List Hl} {x:Hl} (s:Sel H x H') (h:Ent H' K):Ent H (x::K)
theorem Ent.out {H K:List Hl} (s:Ent H K):∀ h,stars H h→stars K h:=by
 induction s with
 | nil=>exact fun _ _=>trivial
 | cons s _ ih=>exact fun h hs=>a0U (s.out h hs) (fun _ a=>a) ih
theorem Ent.refl:∀ H:List Hl,Ent H H
 | [] => .nil
 | _::H => .cons .here (Ent.refl H)
theorem a0X:∀ (A B:List Hl) (h:Hp),stars (A++B) h→sep (stars A) (stars B) h
 | [],_,h,hs=>⟨fun _=>none,h,fun _ => .inl rfl,fun _ _ e=>(by cases e),.refl _,trivial,hs⟩
 | _::A,B,_,hs=>a3B (a0U hs (fun _ a=>a) (a0X A B))
theorem a0W:∀ (A B:List Hl) (h:Hp),sep (stars A) (stars B) h→stars (A++B) h
 | [],B,h,⟨h1,h2,hd,s1,s2,_,hb⟩=>a8Z (L:=B) hb s2
 | _::A,B,_,hs=>a0U (a4X hs) (fun _ a=>a) (a0W A B)
inductive Kon where
 | fn (f:Func) (R:Ending→World→Prop)
 | seq (y:Code) (k:Kon)
 | blk (id:Nat) (k:Kon)
 | rounds (c:Code) (m:Nat) (k:Kon)
 | cut (I:Act→World→Prop) (k:Kon)
def Kon.post (P:Program):Kon→Exit→Act→World→Prop
 | .fn f R=>bodyPost P f R
 | .seq y k=>Exit.then (y.wp P (k.post P)) (k.post P)
 | .blk id k=>Exit.inBlock id (k.post P)
 | .rounds c m k=>Exit.then (Code.rounds P c (k.post P) m) (k.post P)
 | .cut I k=>Exit.then I (k.post P)
structure Ok (W:World) (n:Nat) (e:Ev) (H:List Hl) (a:Act) (w:World):Prop where
 ev:EvOk a n e
 ext:Ext W w
 sat:sat w (stars H)
structure Ls (P:Program) (ops:Array Oper) (k:Kon) (rest:List Oper) (n:Nat) (e:Ev) (W:World) (H:List Hl):Prop where
 mk::(out:∀ a w,Ok W n e H a w→wpList P ops (k.post P) rest a w)
structure St (P:Program) (c:Code) (k:Kon) (n:Nat) (e:Ev) (W:World) (H:List Hl):Prop where
 mk::(out:∀ a w,Ok W n e H a w→c.wp P (k.post P) a w)
structure Nx (P:Program) (k:Kon) (n:Nat) (e:Ev) (W:World) (H:List Hl):Prop where
 mk::(out:∀ a w,Ok W n e H a w→k.post P .normal a w)
structure Xt (P:Program) (id:Nat) (k:Kon) (n:Nat) (e:Ev) (W:World) (H:List Hl):Prop where
 mk::(out:∀ a w,Ok W n e H a w→k.post P (.exit id) a w)
structure Rt (P:Program) (k:Kon) (n:Nat) (e:Ev) (W:World) (H:List Hl):Prop where
 mk::(out:∀ a w,Ok W n e H a w→k.post P .ret a w)
section
variable {P:Program} {ops:Array Oper} {k:Kon} {rest:List Oper} {n:Nat} {e:Ev} {W:World} {H:List Hl}
theorem st_seq {x y:Code} (h:St P x (.seq y k) n e W H):St P (.seq x y) k n e W H:=⟨fun a w ho=>wp_seq (h.out a w ho)⟩
theorem b5U {x:Operand} {c d:Code} (hx:opd e x=some (.bool true)) (h:St P c k n e W H):St P (.cond x c d) k n e W H:=⟨fun a w ho=>wp_cond_true (ho.ev.eval hx) (h.out a w ho)⟩
theorem b5V {x:Operand} {c d:Code} (hx:opd e x=some (.bool false)) (h:St P d k n e W H):St P (.cond x c d) k n e W H:=⟨fun a w ho=>wp_cond_false (ho.ev.eval hx) (h.out a w ho)⟩
theorem st_cond {x:Operand} {c d:Code} {b:Bool} (hx:opd e x=some (.bool b)) (ht:b=true→St P c k n e W H) (hf:b=false→St P d k n e W H):St P (.cond x c d) k n e W H:=by
 cases b
 ·exact b5V hx (hf rfl)
 ·exact b5U hx (ht rfl)
theorem b8B {id:Nat} {c:Code} (h:St P c (.blk id k) n e W H):St P (.block id c) k n e W H:=⟨fun a w ho=>wp_block (h.out a w ho)⟩
theorem st_skip (h:Nx P k n e W H):St P .skip k n e W H:=⟨fun a w ho=>wp_skip (h.out a w ho)⟩
theorem st_ret (h:Rt P k n e W H):St P .ret k n e W H:=⟨fun a w ho=>wp_ret (h.out a w ho)⟩
theorem st_exit {id:Nat} (h:Xt P id k n e W H):St P (.exit id) k n e W H:=⟨fun a w ho=>wp_exit (h.out a w ho)⟩
theorem st_region {id:Nat} {l:List Oper} (h:Ls P l.toArray k l n e W H):St P (.region id l.toArray false) k n e W H:=⟨fun a w ho=>wp_region_lit (h.out a w ho)⟩
theorem ls_nil (h:Nx P k n e W H):Ls P ops k [] n e W H:=⟨fun a w ho=>wpList_nil (h.out a w ho)⟩
theorem nx_seq {y:Code} (h:St P y k n e W H):Nx P (.seq y k) n e W H:=⟨fun a w ho=>h.out a w ho⟩
theorem c0H {id:Nat} (h:Nx P k n e W H):Nx P (.blk id k) n e W H:=⟨fun a w ho=>h.out a w ho⟩
theorem nx_rounds {c:Code} {m:Nat} (h:St P c (.rounds c m k) n e W H):Nx P (.rounds c (m+1) k) n e W H:=⟨fun a w ho=>h.out a w ho⟩
theorem xt_seq {id:Nat} {y:Code} (h:Xt P id k n e W H):Xt P id (.seq y k) n e W H:=⟨fun a w ho=>h.out a w ho⟩
theorem xt_rounds {id m:Nat} {y:Code} (h:Xt P id k n e W H):Xt P id (.rounds y m k) n e W H:=⟨fun a w ho=>h.out a w ho⟩
theorem xt_cut {id:Nat} {I:Act→World→Prop} (h:Xt P id k n e W H):Xt P id (.cut I k) n e W H:=⟨fun a w ho=>h.out a w ho⟩
theorem xt_here {id:Nat} (h:Nx P k n e W H):Xt P id (.blk id k) n e W H:=⟨fun a w ho=>by
 show Exit.inBlock id (k.post P) (.exit id) a w
 simp only [Exit.inBlock,if_true]
 exact h.out a w ho⟩
theorem rt_seq {y:Code} (h:Rt P k n e W H):Rt P (.seq y k) n e W H:=⟨fun a w ho=>h.out a w ho⟩
theorem rt_rounds {m:Nat} {y:Code} (h:Rt P k n e W H):Rt P (.rounds y m k) n e W H:=⟨fun a w ho=>h.out a w ho⟩
theorem rt_cut {I:Act→World→Prop} (h:Rt P k n e W H):Rt P (.cut I k) n e W H:=⟨fun a w ho=>h.out a w ho⟩
theorem rt_blk {id:Nat} (h:Rt P k n e W H):Rt P (.blk id k) n e W H:=⟨fun a w ho=>h.out a w ho⟩
theorem Ok.mono {W:World} {n:Nat} {e e':Ev} {H H':List Hl} {a:Act} {w:World} (h:Ok W n e H a w) (hc:Covers e e') (hH:Ent H H'):Ok W n e' H' a w:=⟨h.ev.covers hc,h.ext,h.sat.mono hH.out⟩
theorem a2O {c:Code} (m:Nat) (h:St P c (.rounds c m k) n e W H):St P (.loop c) k n e W H:=⟨fun a w ho=>wp_loop_rounds (m+1) (h.out a w ho)⟩
theorem least {p:Nat→Prop} (h:∃ m,p m):∃ m,p m∧∀ m',m'<m → ¬ p m':=by
 obtain ⟨m,hm⟩:=h
 induction m using Nat.strongRecOn with
 | _ m ih =>
  by_cases hx:∃ m',m'<m∧p m'
  ·obtain ⟨m',hlt,hp⟩:=hx
   exact ih m' hlt hp
  ·exact ⟨m,hm,fun m' hlt hp=>hx ⟨m',hlt,hp⟩⟩
theorem wp_loop_any {Q:Exit→Act→World→Prop} {c:Code} {a:Act} {w:World} (I:Nat→Act→World→Prop) (h0:∃ m,I m a w)
  (round:∀ m a w,I m a w→c.wp P (Exit.then (fun a' w'=>∃ m',m'<m∧I m' a' w') Q) a w):(Code.loop c).wp P Q a w:=by
 classical
 refine wp_loop (fun a w=>∃ m,I m a w) (fun a w=>if h:∃ m,I m a w then Classical.choose (least h) else 0) h0 ?_
 intro a w h
 have hs:=Classical.choose_spec (least h)
 refine wp_mono (round _ a w hs.1) ?_
 intro x a' w' hx
 cases x with
 | normal =>
  obtain ⟨m',hlt,hI⟩:=hx
  refine ⟨⟨m',hI⟩,?_⟩
  have hex:∃ m,I m a' w':=⟨m',hI⟩
  simp only [dif_pos h,dif_pos hex]
  have hs':=Classical.choose_spec (least hex)
  refine Nat.lt_of_le_of_lt ?_ hlt
  rcases Nat.lt_or_ge m' (Classical.choose (least hex)) with hc|hc
  ·exact absurd hI (hs'.2 m' hc)
  ·exact hc
 | exit id=>exact hx
 | goto l=>exact hx
 | ret=>exact hx
 | panic ch=>exact hx
 | outgrown=>exact hx
def Again {S:Type} (W:World) (n:Nat) (env:S→Ev) (hp:S→List Hl) (I:S→Prop) (μ:S→Nat) (s:S) (a:Act) (w:World):Prop:=∃ s',I s'∧μ s'<μ s∧Ok W n (env s') (hp s') a w
theorem a0Y {S:Type} {c:Code} (env:S→Ev) (hp:S→List Hl) (I:S→Prop) (μ:S→Nat) (s:S) (h0:I s) (hc:Covers e (env s)) (hH:Ent H (hp s))
  (round:∀ s,I s→St P c (.cut (Again W n env hp I μ s) k) n (env s) W (hp s)):St P (.loop c) k n e W H:=⟨fun a w ho=>by
 refine wp_loop_any (fun m a w=>∃ s,μ s=m∧I s∧Ok W n (env s) (hp s) a w) ⟨_,s,rfl,h0,ho.mono hc hH⟩ ?_
 rintro m a w ⟨s,rfl,hI,ho⟩
 refine wp_mono ((round s hI).out a w ho) ?_
 intro x a' w' hx
 cases x with
 | normal =>
  obtain ⟨s',hI',hlt,ho'⟩:=hx
  exact ⟨μ s',hlt,s',rfl,hI',ho'⟩
 | exit id=>exact hx
 | goto l=>exact hx
 | ret=>exact hx
 | panic ch=>exact hx
 | outgrown=>exact hx⟩
theorem a0Q {S:Type} {env:S→Ev} {hp:S→List Hl} {I:S→Prop} {μ:S→Nat} {s:S} (s':S) (hI:I s') (hlt:μ s'<μ s) (hc:Covers e (env s')) (hH:Ent H (hp s')):Nx P (.cut (Again W n env hp I μ s) k) n e W H :=
 ⟨fun a w ho=>⟨s',hI,hlt,ho.mono hc hH⟩⟩
structure Spec (P:Program) (f:FuncId) (args:List Value) (H:List Hl) {X:Type} (good:X→Prop) (val:X→Value) (res:X→List Hl):Prop where
 enters:(P.funcs[f]?).map (fun fn=>(fn.name == "runtime.NumGoroutine",fn.body.isNone))=some (false,false)
 calls:∀ w,sat w (stars H)→Calls P f args.toArray w fun x w'=>∃ r,good r∧x = .returned (val r)∧Ext w w'∧sat w' (stars (res r))
theorem Spec.mono {f:FuncId} {args:List Value} {X Y:Type} {good:X→Prop} {val:X→Value} {res:X→List Hl} {good':Y→Prop} {val':Y→Value} {res':Y→List Hl}
  (h:Spec P f args H good val res) (g:∀ x,good x→∃ y,good' y∧val x=val' y∧Ent (res x) (res' y)):Spec P f args H good' val' res' :=
 ⟨h.enters,fun w hs=>(h.calls w hs).mono fun e w' ⟨x,hg,he,hx,hsat⟩=>by
  obtain ⟨y,hy,hv,hE⟩:=g x hg
  exact ⟨y,hy,hv ▸ he,hx,hsat.mono hE.out⟩⟩
def slots:Nat→List Value→Ev
 | _,[]=>[]
 | i,v::l=>(i,v)::slots (i+1) l
theorem b1J:∀ (l:List Value) (i t:Nat) (v:Value),look (slots i l) t=some v→i≤t∧l[t - i]?=some v
 | [],i,t,v,h=>by simp [slots,look] at h
 | u::l,i,t,v,h=>by
  simp only [slots,look] at h
  cases hb:Nat.beq i t
  ·rw [hb] at h
   obtain ⟨h1,h2⟩:=b1J l (i+1) t v h
   refine ⟨by omega,?_⟩
   rw [show t - i=(t - (i+1))+1 from by omega]
   simpa using h2
  ·rw [hb] at h
   have:=Nat.eq_of_beq_eq_true hb
   subst this
   simp only [cond_true,Option.some.injEq] at h
   subst h
   simp
theorem b1T {f:FuncId} {fn:Func} {c:Code} {args:List Value} {X:Type} {good:X→Prop} {val:X→Value} {res:X→List Hl} (m:Nat)
  (hf:P.funcs[f]?=some fn) (hb:fn.body=some c) (hm:fn.ntmps=m) (hname:(fn.name == "runtime.NumGoroutine")=false) (hle:Nat.ble args.length m=true)
  (h:∀ W,St P c (.fn fn fun x w'=>∃ r,good r∧x = .returned (val r)∧Ext W w'∧sat w' (stars (res r))) m (slots 0 args) W H):Spec P f args H good val res:=by
 refine ⟨by simp [hf,hb,hname],fun w hs=>calls_of_wp hf hb ?_⟩
 have hle':args.length≤m:=by simpa using hle
 refine (h w).out _ w ⟨⟨by simp [hm];omega,rfl,fun t v hl=>?_⟩,.refl _,hs⟩
 obtain ⟨_,h2⟩:=b1J args 0 t v hl
 simp only [Nat.sub_zero] at h2
 have hlt:t<args.length:=by
  rcases Nat.lt_or_ge t args.length with h|h
  ·exact h
  ·rw [List.getElem?_eq_none h] at h2;cases h2
 have h3:args[t]=v:=by simpa [List.getElem?_eq_getElem hlt] using h2
 simp [Array.getElem?_append,hlt,h3]
theorem rt_fn {X:Type} {fn:Func} {good:X→Prop} {val:X→Value} {res:X→List Hl} {v:Value} (hr:∀ a w,Ok W n e H a w→(results fn a.tmps).run P w = .ok v w) (r:X) (hg:good r) (hv:v=val r) (hE:Ent H (res r)) :
  Rt P (.fn fn fun x w'=>∃ r,good r∧x = .returned (val r)∧Ext W w'∧sat w' (stars (res r))) n e W H :=
 ⟨fun a w ho=>⟨ho.ev.defers,v,hr a w ho,r,hg,by rw [hv],ho.ext,ho.sat.mono hE.out⟩⟩
theorem nx_fn {fn:Func} {R:Ending→World→Prop} (h:Rt P (.fn fn R) n e W H):Nx P (.fn fn R) n e W H:=⟨fun a w ho=>h.out a w ho⟩
end
class TInt (P:Program) (t:TypeId) (k:outParam IntKind):Prop where u:P.underlying t=some (.int k)
class TBool (P:Program) (t:TypeId):Prop where u:P.underlying t=some .bool
class TStr (P:Program) (t:TypeId):Prop where u:P.underlying t=some .string
class TSl (P:Program) (t:TypeId) (e:outParam TypeId):Prop where u:P.underlying t=some (.slice e)
class TPtr (P:Program) (t:TypeId) (e:outParam TypeId):Prop where u:P.underlying t=some (.pointer e)
class TArr (P:Program) (t:TypeId) (m:outParam Nat) (e:outParam TypeId):Prop where u:P.underlying t=some (.array m e)
class TInf (P:Program) (t:TypeId) (z:outParam Value) (s by_:outParam Nat):Prop where i:(P.info? t).map (fun i=>(i.zero,i.size,i.bytes))=some (some z,s,by_)
class TOne (P:Program) (t:TypeId):Prop where u:(match P.underlying t with|some (.struct _)|some (.array _ _)|none=>false|_=>true)=true
class TAgg (P:Program) (t:TypeId):Prop where u:(match P.underlying t with|some (.struct _)|some (.array _ _)=>true|_=>false)=true
class TFld (P:Program) (t:TypeId) (j:Nat) (off:outParam Nat) (ft:outParam TypeId):Prop where
 c:(match P.underlying t with|some (.struct fs)=>(fs[j]?).map (fun f=>(f.offset,f.type,((P.info? f.type).map (·.size)).any (· != 0)))|_=>none)=some (off,ft,true)
theorem TFld.u {P:Program} {t:TypeId} {j off:Nat} {ft:TypeId} (h:TFld P t j off ft):∃ fs f,P.underlying t=some (.struct fs)∧fs[j]?=some f∧f.offset=off∧f.type=ft∧((P.info? f.type).map (·.size)).any (· != 0)=true:=by
 have hc:=h.c
 cases hu:P.underlying t with
 | none=>rw [hu] at hc;cases hc
 | some d =>
  rw [hu] at hc
  cases d <;> simp only [reduceCtorEq] at hc
  rename_i fs
  cases hj:fs[j]? with
  | none=>rw [hj] at hc;cases hc
  | some f =>
   rw [hj] at hc
   simp only [Option.map_some,Option.some.injEq,Prod.mk.injEq] at hc
   exact ⟨fs,f,rfl,hj,hc.1,hc.2.1,hc.2.2⟩
theorem a6X {P:Program} {t:TypeId} [h:TOne P t] (w:World):(isAgg t).run P w = .ok false w:=by
 have hu:=h.u
 cases hd:P.underlying t with
 | none=>rw [hd] at hu;simp at hu
 | some d =>
  rw [hd] at hu
  unfold isAgg
  simp only [Sem.run_bind,run_underlying hd,Result.andThen_ok]
  cases d <;> simp_all
theorem a4Q {P:Program} {t:TypeId} [h:TAgg P t] (w:World):(isAgg t).run P w = .ok true w:=by
 have hu:=h.u
 cases hd:P.underlying t with
 | none=>rw [hd] at hu;simp at hu
 | some d =>
  rw [hd] at hu
  unfold isAgg
  simp only [Sem.run_bind,run_underlying hd,Result.andThen_ok]
  cases d <;> simp_all
theorem TInf.info {P:Program} {t:TypeId} {z:Value} {s b:Nat} (h:TInf P t z s b):∃ i,P.info? t=some i∧i.zero=some z∧i.size=s∧i.bytes=b:=info_parts h.i
theorem a1L {P:Program} {t:TypeId} {z:Value} {s b:Nat} [h:TInf P t z s b] (w:World):(sizeOf t).run P w = .ok s w:=by
 obtain ⟨i,hi,_,hs,_⟩:=h.info
 simp [sizeOf,typeInfo,hi,hs]
theorem a9B {P:Program} {t:TypeId} {z:Value} {s b:Nat} [h:TInf P t z s b] (w:World):(zeroValue t).run P w = .ok z w:=by
 obtain ⟨i,hi,hz,_,_⟩:=h.info
 simp [zeroValue,typeInfo,hi,hz]
section
variable {P:Program} {ops:Array Oper} {k:Kon} {rest:List Oper} {n:Nat} {e:Ev} {W:World} {H:List Hl}
structure Ok1 (n:Nat) (e:Ev) (H:List Hl) (a:Act) (w:World):Prop where
 ev:EvOk a n e
 sat:sat w (stars H)
structure O1 (P:Program) (op:Op) (ty:TypeId) (n:Nat) (e:Ev) (H:List Hl) (C:Value→List Hl→Prop):Prop where
 mk::(out:∀ a w,Ok1 n e H a w→∀ o:Oper,o.op=op→o.type=ty→∀ (K:Act→World→Prop) (Q:Exit→Act→World→Prop),(∀ v w' H',C v H'→Ext w w'→sat w' (stars H')→K (a.put o.dst v) w')→o.wp P a w K Q)
theorem b0K (ρ:Operand→Value) (o:Oper):execOp ρ o=execOp ρ ⟨none,o.op,o.type, "", #[],none⟩:=by cases o;rfl
variable {C:Value→List Hl→Prop} {ty:TypeId}
theorem a6E {op:Op} (h:∀ a w,Ok1 n e H a w→∃ v w',(execOp a.eval ⟨none,op,ty, "", #[],none⟩).run P w = .ok (.value v) w'∧∃ H',C v H'∧Ext w w'∧sat w' (stars H')):O1 P op ty n e H C :=
 ⟨fun a w ho o h1 h2 K Q hK=>by
  obtain ⟨v,w',hr,H',hc,hx,hs⟩:=h a w ho
  subst h1 h2
  unfold Oper.wp
  rw [b0K,hr]
  exact hK v w' H' hc hx hs⟩
theorem o1_step_skip {op:Op} (h:∀ a w,Ok1 n e H a w→∃ w',(execOp a.eval ⟨none,op,ty, "", #[],none⟩).run P w = .ok .skip w'∧∃ H',C undef H'∧Ext w w'∧sat w' (stars H')):O1 P op ty n e H C :=
 ⟨fun a w ho o h1 h2 K Q hK=>by
  obtain ⟨w',hr,H',hc,hx,hs⟩:=h a w ho
  subst h1 h2
  unfold Oper.wp
  rw [b0K,hr]
  exact hK undef w' H' hc hx hs⟩
theorem a1U {op:Op} (v:Value) (hr:∀ a w,Ok1 n e H a w→(execOp a.eval ⟨none,op,ty, "", #[],none⟩).run P w = .ok (.value v) w) (h:C v H):O1 P op ty n e H C :=
 a6E fun a w ho=>⟨v,w,hr a w ho,H,h,.refl w,ho.sat⟩
variable {d:Nat} {pos:String} {af:Array Edge} {op:Op}
theorem ls_of (hd:Nat.blt d n=true) (h:O1 P op ty n e H (fun v H'=>Ls P ops k rest n ((d,v)::e) W H')):Ls P ops k (⟨some d,op,ty,pos,af,none⟩::rest) n e W H :=
 ⟨fun a w ho=>wpList_plain rfl fun K hK=>h.out a w ⟨ho.ev,ho.sat⟩ _ rfl rfl K _ fun v w' H' hl hx hs=>hK _ _ (hl.out _ _ ⟨ho.ev.put hd v,ho.ext.trans hx,hs⟩)⟩
theorem ls_of_no (h:O1 P op ty n e H (fun _ H'=>Ls P ops k rest n e W H')):Ls P ops k (⟨none,op,ty,pos,af,none⟩::rest) n e W H :=
 ⟨fun a w ho=>wpList_plain rfl fun K hK=>h.out a w ⟨ho.ev,ho.sat⟩ _ rfl rfl K _ fun v w' H' hl hx hs=>hK _ _ (hl.out _ _ ⟨ho.ev.put_none v,ho.ext.trans hx,hs⟩)⟩
theorem ls_guard_yes {dst:Option Nat} {op:Op} {j:Nat} {b:Bool} {t:Nat} (hj:(ops[j]?).bind (·.dst)=some t) (hl:look e t=some (.bool b)) (h:Ls P ops k (⟨dst,op,ty,pos,af,none⟩::rest) n e W H) :
  Ls P ops k (⟨dst,op,ty,pos,af,some (j,b)⟩::rest) n e W H :=
 ⟨fun a w ho=>by
  have h1:=h.out a w ho
  have hy:yielded ops a.tmps j=some b:=by simp [yielded,hj,ho.ev.get t _ hl]
  unfold wpList at h1 ⊢
  simp only [Region.wanted,if_true] at h1
  simp only [Region.wanted,hy,beq_self_eq_true,if_true]
  exact h1⟩
theorem ls_guard_no {op:Op} {j:Nat} {b b':Bool} {t:Nat} (hd:Nat.blt d n=true) (hj:(ops[j]?).bind (·.dst)=some t) (hl:look e t=some (.bool b')) (hne:(b' == b)=false) (h:Ls P ops k rest n ((d,undef)::e) W H) :
  Ls P ops k (⟨some d,op,ty,pos,af,some (j,b)⟩::rest) n e W H :=
 ⟨fun a w ho=>by
  have hy:yielded ops a.tmps j=some b':=by simp [yielded,hj,ho.ev.get t _ hl]
  have:(some b' == some b)=false:=by simpa using hne
  unfold wpList
  simp only [Region.wanted,hy,this]
  exact h.out _ _ ⟨ho.ev.put hd undef,ho.ext,ho.sat⟩⟩
theorem a6F {x:Operand} {v:Value} (hx:opd e x=some v) (h:C v H):O1 P (.move x) ty n e H C :=
 a1U v (fun a w ho=>by simp [execOp,ho.ev.eval hx]) h
theorem b0I {x:Operand} {v:Value} (hx:opd e x=some v) (h:C v H):O1 P (.assign x) ty n e H C :=
 a1U v (fun a w ho=>by simp [execOp,ho.ev.eval hx]) h
theorem b6H {c x y:Operand} {v:Value} (hc:opd e c=some (.bool true)) (hx:opd e x=some v) (h:C v H):O1 P (.pick c x y) ty n e H C :=
 a1U v (fun a w ho=>by simp [execOp,ho.ev.eval hc,ho.ev.eval hx,asBool]) h
theorem b6I {c x y:Operand} {v:Value} (hc:opd e c=some (.bool false)) (hy:opd e y=some v) (h:C v H):O1 P (.pick c x y) ty n e H C :=
 a1U v (fun a w ho=>by simp [execOp,ho.ev.eval hc,ho.ev.eval hy,asBool]) h
theorem b4H {x:Operand} {i:Nat} {vs:Array Value} {v:Value} (hx:opd e x=some (.tuple vs)) (hv:vs.toList[i]?=some v) (h:C v H):O1 P (.extract x i) ty n e H C :=
 a1U v (fun a w ho=>by
  have hv':vs[i]?=some v:=by simpa using hv
  simp [execOp,ho.ev.eval hx,Instr.extract,hv']) h
theorem a7N {x:Operand} {p:Addr} (hx:opd e x=some (.pointer (some p))) (h:C (.pointer (some p)) H):O1 P (.nilCheck x) ty n e H C :=
 a1U _ (fun a w ho=>by simp [execOp,ho.ev.eval hx]) h
theorem eqGuard_int {op:BinOp} {t:TypeId} {x y:Operand} {k:IntKind} {m:Int} {v:Value}:eqGuard op t x y (.int k m) v=pure ():=eqGuard_at_int ..
theorem a6S {op:BinOp} {t t':TypeId} {x y:Operand} {kd:IntKind} {p q:Int} {b:Bool} (hx:opd e x=some (.int kd p)) (hy:opd e y=some (.int kd q))
  (hr:∀ w,(binOp op t (.int kd p) (.int kd q)).run P w = .ok (.bool b) w) (h:C (.bool b) H):O1 P (.binOp op t x y t') ty n e H C :=
 a1U _ (fun a w ho=>by simp [execOp,ho.ev.eval hx,ho.ev.eval hy,eqGuard_int,hr]) h
variable {t t':TypeId} {x y:Operand} {kd:IntKind} {p q:Int}
theorem a6Z (hx:opd e x=some (.int kd p)) (hy:opd e y=some (.int kd q)) (hc:p<q) (h:C (.bool true) H):O1 P (.binOp .lss t x y t') ty n e H C :=
 a6S hx hy (fun w=>by simp [binOp_lss,hc]) h
theorem a3S (hx:opd e x=some (.int kd p)) (hy:opd e y=some (.int kd q)) (hc:q≤p) (h:C (.bool false) H):O1 P (.binOp .lss t x y t') ty n e H C :=
 a6S hx hy (fun w=>by simp [binOp_lss];omega) h
theorem o1_lss (hx:opd e x=some (.int kd p)) (hy:opd e y=some (.int kd q)) (ht:p<q→C (.bool true) H) (hf:q≤p→C (.bool false) H) :
  O1 P (.binOp .lss t x y t') ty n e H C:=by
 rcases Int.lt_or_le p q with c|c
 ·exact a6Z hx hy c (ht c)
 ·exact a3S hx hy c (hf c)
theorem b1F (hx:opd e x=some (.int kd p)) (hy:opd e y=some (.int kd q)) (hc:p≤q) (h:C (.bool true) H):O1 P (.binOp .leq t x y t') ty n e H C :=
 a6S hx hy (fun w=>by simp [binOp_leq,hc]) h
theorem b1G (hx:opd e x=some (.int kd p)) (hy:opd e y=some (.int kd q)) (hc:q<p) (h:C (.bool false) H):O1 P (.binOp .leq t x y t') ty n e H C :=
 a6S hx hy (fun w=>by simp [binOp_leq];omega) h
theorem o1_leq (hx:opd e x=some (.int kd p)) (hy:opd e y=some (.int kd q)) (ht:p≤q→C (.bool true) H) (hf:q<p→C (.bool false) H) :
  O1 P (.binOp .leq t x y t') ty n e H C:=by
 rcases Int.lt_or_le q p with c|c
 ·exact b1G hx hy c (hf c)
 ·exact b1F hx hy c (ht c)
theorem a4T (hx:opd e x=some (.int kd p)) (hy:opd e y=some (.int kd q)) (hc:q<p) (h:C (.bool true) H):O1 P (.binOp .gtr t x y t') ty n e H C :=
 a6S hx hy (fun w=>by simp [binOp_gtr,hc]) h
theorem a3H (hx:opd e x=some (.int kd p)) (hy:opd e y=some (.int kd q)) (hc:p≤q) (h:C (.bool false) H):O1 P (.binOp .gtr t x y t') ty n e H C :=
 a6S hx hy (fun w=>by simp [binOp_gtr];omega) h
theorem o1_gtr (hx:opd e x=some (.int kd p)) (hy:opd e y=some (.int kd q)) (ht:q<p→C (.bool true) H) (hf:p≤q→C (.bool false) H) :
  O1 P (.binOp .gtr t x y t') ty n e H C:=by
 rcases Int.lt_or_le q p with c|c
 ·exact a4T hx hy c (ht c)
 ·exact a3H hx hy c (hf c)
theorem b1H (hx:opd e x=some (.int kd p)) (hy:opd e y=some (.int kd q)) (hc:q≤p) (h:C (.bool true) H):O1 P (.binOp .geq t x y t') ty n e H C :=
 a6S hx hy (fun w=>by simp [binOp_geq,hc]) h
theorem a7Y (hx:opd e x=some (.int kd p)) (hy:opd e y=some (.int kd q)) (hc:p<q) (h:C (.bool false) H):O1 P (.binOp .geq t x y t') ty n e H C :=
 a6S hx hy (fun w=>by simp [binOp_geq];omega) h
theorem o1_geq (hx:opd e x=some (.int kd p)) (hy:opd e y=some (.int kd q)) (ht:q≤p→C (.bool true) H) (hf:p<q→C (.bool false) H) :
  O1 P (.binOp .geq t x y t') ty n e H C:=by
 rcases Int.lt_or_le p q with c|c
 ·exact a7Y hx hy c (hf c)
 ·exact b1H hx hy c (ht c)
theorem a3I (hx:opd e x=some (.int kd p)) (hy:opd e y=some (.int kd q)) (hc:p=q) (h:C (.bool true) H):O1 P (.binOp .eql t x y t') ty n e H C :=
 a6S hx hy (fun w=>by simp [binOp_eql,hc]) h
theorem a1Y (hx:opd e x=some (.int kd p)) (hy:opd e y=some (.int kd q)) (hc:p≠q) (h:C (.bool false) H):O1 P (.binOp .eql t x y t') ty n e H C :=
 a6S hx hy (fun w=>by simp [binOp_eql,hc]) h
theorem o1_eql (hx:opd e x=some (.int kd p)) (hy:opd e y=some (.int kd q)) (ht:p=q→C (.bool true) H) (hf:p≠q→C (.bool false) H) :
  O1 P (.binOp .eql t x y t') ty n e H C:=by
 by_cases c:p=q
 ·exact a3I hx hy c (ht c)
 ·exact a1Y hx hy c (hf c)
theorem a3R (hx:opd e x=some (.int kd p)) (hy:opd e y=some (.int kd q)) (hc:p≠q) (h:C (.bool true) H):O1 P (.binOp .neq t x y t') ty n e H C :=
 a6S hx hy (fun w=>by simp [binOp_neq,hc]) h
theorem a2E (hx:opd e x=some (.int kd p)) (hy:opd e y=some (.int kd q)) (hc:p=q) (h:C (.bool false) H):O1 P (.binOp .neq t x y t') ty n e H C :=
 a6S hx hy (fun w=>by simp [binOp_neq,hc]) h
theorem o1_neq (hx:opd e x=some (.int kd p)) (hy:opd e y=some (.int kd q)) (ht:p≠q→C (.bool true) H) (hf:p=q→C (.bool false) H) :
  O1 P (.binOp .neq t x y t') ty n e H C:=by
 by_cases c:p=q
 ·exact a2E hx hy c (hf c)
 ·exact a3R hx hy c (ht c)
theorem sat.alloc {w:World} {H:List Hl} (h:sat w (stars H)) (T:TypeId) (cs:List Value):sat (w.alloc (.cells cs.toArray T)) (stars (.box w.heap.size T cs::H)):=by
 obtain ⟨x,hw,hx⟩:=h
 have hlt:∀ i o,x i=some o→i<w.heap.size:=fun i o e=>(Array.getElem?_eq_some_iff.1 (hw i o e)).1
 have hdis:Dis (one w.heap.size (.cells cs.toArray T (0,0))) x:=fun i=>by
  by_cases hi:i=w.heap.size
  ·right
   cases he:x i with
   | none=>rfl
   | some o=>exact absurd (hlt i o he) (by omega)
  ·left;simp [one,hi]
 have hs1:Sub (one w.heap.size (.cells cs.toArray T (0,0))) (fun i=>if i=w.heap.size then some (.cells cs.toArray T (0,0)) else x i):=fun i o e=>by
  simp only [one] at e
  by_cases hi:i=w.heap.size
  ·rw [if_pos hi] at e;simp [hi,e]
  ·rw [if_neg hi] at e;cases e
 have hs2:Sub x (fun i=>if i=w.heap.size then some (.cells cs.toArray T (0,0)) else x i):=fun i o e=>by
  have:=hlt i o e
  simp [show i≠w.heap.size from by omega,e]
 refine ⟨_,fun i o e=>?_,_,x,hdis,hs1,hs2,rfl,hx⟩
 by_cases hi:i=w.heap.size
 ·subst hi
  simp only [if_true,Option.some.injEq] at e
  subst e
  exact heap_alloc_new w _
 ·simp only [hi,if_false] at e
  exact (Below.heap_alloc w _ i (hlt i o e)).trans (hw i o e)
theorem sat.cells {w:World} {H H':List Hl} (h:sat w (stars H)) {b:Nat} {T:TypeId} {cs:List Value} (s:Sel H (.box b T cs) H'):w.heap[b]?=some (.cells cs.toArray T (0,0)):=by
 obtain ⟨x,hw,h1,h2,hd,s1,s2,e,_⟩:=h.mono s.out
 refine hw b _ (s1 b _ ?_)
 have e:h1=one b (.cells cs.toArray T (0,0)):=e
 simp [e,one]
theorem sat.cell {w:World} {H H':List Hl} (h:sat w (stars H)) {b:Nat} {T:TypeId} {cs:List Value} (s:Sel H (.box b T cs) H') (i:Nat):w.cell? ⟨b,i,none⟩=cs[i]?:=by
 rw [cell_of_row w b i _ T (0,0) (h.cells s)];simp
theorem sat.set_ {w:World} {H H':List Hl} (h:sat w (stars H)) {b:Nat} {T:TypeId} {cs:List Value} (i:Nat) (v:Value) (s:Upd H (.box b T cs) (.box b T (cs.set i v)) H'):sat (w.setCell ⟨b,i,none⟩ v) (stars H'):=by
 obtain ⟨R,r1,r2⟩:=s.out
 obtain ⟨x,hw,h1,h2,hd,s1,s2,e,hR⟩:=h.mono r1
 have e:h1=one b (.cells cs.toArray T (0,0)):=e
 have hb:w.heap[b]?=some (.cells cs.toArray T (0,0)):=hw b _ (s1 b _ (by simp [e,one]))
 have hb2:h2 b=none:=(hd b).resolve_left (by simp [e,one])
 have hdis:Dis (one b (.cells (cs.set i v).toArray T (0,0))) h2:=fun j=>by
  by_cases hj:j=b
  ·subst hj;exact .inr hb2
  ·left;simp [one,hj]
 have hs1:Sub (one b (.cells (cs.set i v).toArray T (0,0))) (fun j=>if j=b then some (.cells (cs.set i v).toArray T (0,0)) else h2 j):=fun j o e=>by
  simp only [one] at e
  by_cases hj:j=b
  ·rw [if_pos hj] at e;simp [hj,e]
  ·rw [if_neg hj] at e;cases e
 have hs2:Sub h2 (fun j=>if j=b then some (.cells (cs.set i v).toArray T (0,0)) else h2 j):=fun j o ej=>by
  have:j≠b:=fun hj=>by rw [hj,hb2] at ej;cases ej
  simp [this,ej]
 have hnew:sep (Hl.den (.box b T (cs.set i v))) R (fun j=>if j=b then some (.cells (cs.set i v).toArray T (0,0)) else h2 j):=⟨_,h2,hdis,hs1,hs2,rfl,hR⟩
 refine ⟨_,fun j o e=>?_,r2 _ hnew⟩
 by_cases hj:j=b
 ·subst hj
  simp only [if_true,Option.some.injEq] at e
  subst e
  rw [heap_setCell_same w j i _ T v hb]
  simp
 ·simp only [hj,if_false] at e
  rw [heap_setCell_other w _ j v hj]
  exact hw j o (s2 j o e)
end
structure Rs {α:Type} (A:Hp→Prop) (enc:α→Value) (ad:Option Addr) (c:Nat) (l:List α):Prop where
 le:l.length≤c
 big:c≤9223372036854775807
 sm:0<l.length→∃ a,ad=some a
 cell:∀ w,sat w A→∀ a,ad=some a→∀ i x,l[i]?=some x→w.cell? (a.add i)=some (enc x)
structure Cl (A:Hp→Prop) (p:Addr) (v:Value):Prop where
 cell:∀ w,sat w A→w.cell? p=some v
theorem c0A (a:Addr) (i j:Nat):(a.add i).add j=a.add (i+j):=by
 by_cases hi:i=0 <;> by_cases hj:j=0 <;> simp [Addr.add,hi,hj,Nat.add_assoc]
theorem Rs.mono {α:Type} {A B:Hp→Prop} {enc:α→Value} {ad:Option Addr} {c:Nat} {l:List α} (h:Rs A enc ad c l) (hab:∀ w,sat w B→sat w A):Rs B enc ad c l :=
 ⟨h.le,h.big,h.sm,fun w hs=>h.cell w (hab w hs)⟩
theorem a6B {H H':List Hl} {A:Hp→Prop} (s:Sel H (.any A) H') (w:World) (h:sat w (stars H)):sat w A:=b4X (h.mono s.out)
theorem Rs.lift {α:Type} {A:Hp→Prop} {H H':List Hl} {enc:α→Value} {ad:Option Addr} {c:Nat} {l:List α} (s:Sel H (.any A) H') (h:Rs A enc ad c l):Rs (stars H) enc ad c l:=h.mono (a6B s)
theorem Rs.map {α β:Type} {A:Hp→Prop} {enc:β→Value} {f:α→β} {ad:Option Addr} {c:Nat} {l:List α} (h:Rs A (fun x=>enc (f x)) ad c l):Rs A enc ad c (l.map f) :=
 ⟨by simpa using h.le,h.big,by simpa using h.sm,fun w hs a ha i x hx=>by
  simp only [List.getElem?_map,Option.map_eq_some_iff] at hx
  obtain ⟨y,hy,rfl⟩:=hx
  exact h.cell w hs a ha i y hy⟩
theorem Rs.unvals {α:Type} {A:Hp→Prop} {enc:α→Value} {ad:Option Addr} {c:Nat} {l:List α} (h:Rs A id ad c (l.map enc)):Rs A enc ad c l :=
 ⟨by simpa using h.le,h.big,by simpa using h.sm,fun w hs a ha i x hx=>h.cell w hs a ha i (enc x) (by simp [hx])⟩
theorem Rs.cut {α:Type} {A:Hp→Prop} {enc:α→Value} {ad:Option Addr} {c:Nat} {l:List α} (h:Rs A enc ad c l) (lo hi mx:Nat) (h1:lo≤hi) (h2:hi≤l.length) (h3:hi≤mx) (h4:mx≤c) :
  Rs A enc (if mx=lo then ad else ad.map (·.add lo)) (mx - lo) ((l.take hi).drop lo):=by
 refine ⟨by simp;omega,by have:=h.big;omega,fun hp=>?_,fun w hs a ha i x hx=>?_⟩
 ·simp at hp
  obtain ⟨a,rfl⟩:=h.sm (by omega)
  split
  ·exact ⟨a,rfl⟩
  ·exact ⟨_,rfl⟩
 ·have hlt:lo+i<hi:=by
   rcases Nat.lt_or_ge (lo+i) hi with h' | h'
   ·exact h'
   ·rw [List.getElem?_eq_none (by simp;omega)] at hx;cases hx
  rw [if_neg (by omega)] at ha
  cases ad with
  | none=>simp at ha
  | some a0 =>
   simp only [Option.map_some,Option.some.injEq] at ha
   subst ha
   rw [c0A]
   refine h.cell w hs a0 rfl (lo+i) x ?_
   rw [List.getElem?_drop,List.getElem?_take] at hx
   simpa [hlt] using hx
theorem Rs.nil {α:Type} {A:Hp→Prop} {enc:α→Value} {ad:Option Addr} {c:Nat} (hc:c≤9223372036854775807):Rs A enc ad c ([]:List α) :=
 ⟨by simp,hc,by simp,fun _ _ _ _ i x hx=>by simp at hx⟩
theorem rowHp_own {T:TypeId} {size n:Nat} {v:Value} {xs:List Value} {h:Hp} (hr:rowHp T size v n xs h) {w:World} (hw:∀ i o,h i=some o→w.heap[i]?=some o):w.ownsRow 0 T size v n xs:=by
 refine ⟨hr.1,?_⟩
 rcases hr.2 with ⟨rfl,rfl,_⟩|⟨g,cap,cur,rfl,rfl,h1,h2,h3,h4⟩
 ·exact .inl ⟨rfl,rfl⟩
 ·exact .inr ⟨g,cap,cur,rfl,by omega,hw g _ (by simp [one]),h1,h2,h3,h4⟩
theorem sat.own {w:World} {H H':List Hl} (h:sat w (stars H)) {T:TypeId} {size n:Nat} {v:Value} {xs:List Value} (s:Sel H (.row T size v n xs) H'):w.ownsRow 0 T size v n xs:=by
 obtain ⟨x,hw,h1,h2,hd,s1,s2,hr,_⟩:=h.mono s.out
 exact rowHp_own hr fun i o e=>hw i o (s1 i o e)
theorem sat.grown {w w':World} {H H':List Hl} (h:sat w (stars H)) {T:TypeId} {size n n':Nat} {v v':Value} {xs xs':List Value} (s:Sel H (.row T size v n xs) H')
  (hown:w'.ownsRow 0 T size v' n' xs') (hg:w.grownBy w' v.ownBlock) (hat:v'.ownBlock=v.ownBlock∨v'.ownBlock=some w.heap.size):sat w' (stars (.row T size v' n' xs'::H')):=by
 obtain ⟨x,hw,h1,h2,hd,s1,s2,hr,hH⟩:=h.mono s.out
 have hlt:∀ i o,h2 i=some o→i<w.heap.size:=fun i o e=>(Array.getElem?_eq_some_iff.1 (hw i o (s2 i o e))).1
 have hne:∀ i o,h2 i=some o→some i≠v.ownBlock:=by
  intro i o e he
  rcases hr.2 with ⟨rfl,_,_⟩|⟨g,cap,cur,rfl,rfl,_⟩
  ·simp [Value.ownBlock] at he
  ·simp only [Value.ownBlock,Option.some.injEq] at he
   subst he
   rcases hd i with hh|hh
   ·simp [one] at hh
   ·rw [hh] at e;cases e
 have hw2:∀ i o,h2 i=some o→w'.heap[i]?=some o:=fun i o e=>(hg.block i (hlt i o e) (hne i o e)).trans (hw i o (s2 i o e))
 rcases hown with ⟨hl,hn|⟨g,cap,cur,rfl,_,hh,a1,a2,a3,a4⟩⟩
 ·refine ⟨h2,hw2,fun _=>none,h2,fun _ => .inl rfl,fun _ _ e=>(by cases e),.refl _,⟨hl,.inl ⟨hn.1,hn.2,fun _=>rfl⟩⟩,hH⟩
 ·have hg2:h2 g=none:=by
   cases e:h2 g with
   | none=>rfl
   | some o =>
    exfalso
    rcases hat with hh' | hh'
    ·exact hne g o e (by rw [←hh'];rfl)
    ·simp only [Value.ownBlock,Option.some.injEq] at hh'
     have:=hlt g o e
     omega
  have hdis:Dis (one g (.cells cur T (0,0))) h2:=fun j=>by
   by_cases hj:j=g
   ·subst hj;exact .inr hg2
   ·left;simp [one,hj]
  have hs1:Sub (one g (.cells cur T (0,0))) (fun j=>if j=g then some (.cells cur T (0,0)) else h2 j):=fun j o e=>by
   simp only [one] at e
   by_cases hj:j=g
   ·rw [if_pos hj] at e;simp [hj,e]
   ·rw [if_neg hj] at e;cases e
  have hs2:Sub h2 (fun j=>if j=g then some (.cells cur T (0,0)) else h2 j):=fun j o ej=>by
   have:j≠g:=fun hj=>by rw [hj,hg2] at ej;cases ej
   simp [this,ej]
  refine ⟨_,fun j o e=>?_,_,h2,hdis,hs1,hs2,⟨hl,.inr ⟨g,cap,cur,rfl,rfl,a1,a2,a3,a4⟩⟩,hH⟩
  by_cases hj:j=g
  ·subst hj
   simp only [if_true,Option.some.injEq] at e
   subst e
   exact hh
  ·simp only [hj,if_false] at e
   exact hw2 j o e
theorem Rs.of_row {H H':List Hl} {T:TypeId} {ad:Option Addr} {n c:Nat} {xs:List Value} (s:Sel H (.row T 1 (.slice ad n c) n xs) H'):∀ w,sat w (stars H)→Rs (stars H) id ad c xs:=by
 intro w0 h0
 have key:∀ w,sat w (stars H)→xs.length=n∧((Value.slice ad n c = .slice none 0 0∧n=0)∨∃ g,ad=some ⟨g,0,none⟩∧n≤c∧c≤maxLen∧∀ i x,xs[i]?=some x→w.cell? ⟨g,i,none⟩=some x):=by
  intro w h
  obtain ⟨hl,h1|⟨g,cap,cur,hv,_,hh,a1,a2,a3,a4⟩⟩:=h.own s
  ·exact ⟨by simpa using hl,.inl h1⟩
  ·injection hv with hv1 hv2 hv3
   subst hv3
   refine ⟨by simpa using hl,.inr ⟨g,hv1,a1,a2,fun i x hx=>?_⟩⟩
   rw [cell_of_row w g i cur T (0,0) hh,←Array.getElem?_toList]
   rw [←a4,List.getElem?_take] at hx
   split at hx
   ·exact hx
   ·cases hx
 obtain ⟨hl,h1⟩:=key w0 h0
 refine ⟨?_,?_,fun hp=>?_,fun w hs a ha i x hx=>?_⟩
 ·rcases h1 with ⟨hv,hn⟩|⟨g,_,a1,_,_⟩ <;> omega
 ·rcases h1 with ⟨hv,hn⟩|⟨g,_,_,a2,_⟩
  ·injection hv with _ _ hc;omega
  ·exact a2
 ·rcases h1 with ⟨hv,hn⟩|⟨g,hg,_⟩
  ·omega
  ·exact ⟨_,hg⟩
 ·obtain ⟨_,h2⟩:=key w hs
  rcases h2 with ⟨hv,hn⟩|⟨g,hg,_,_,hc⟩
  ·rw [hn] at hl;have:=List.eq_nil_of_length_eq_zero hl;subst this;simp at hx
  ·rw [hg] at ha
   injection ha with ha
   subst ha
   have:=hc i x hx
   by_cases hi:i=0
   ·subst hi;simpa [Addr.add] using this
   ·simpa [Addr.add,hi] using this
theorem Rs.of_box {H H':List Hl} {T:TypeId} {b:Nat} {cs:List Value} (hc:cs.length≤9223372036854775807) (s:Sel H (.box b T cs) H'):Rs (stars H) id (some ⟨b,0,none⟩) cs.length cs:=by
 refine ⟨Nat.le_refl _,hc,fun _=>⟨_,rfl⟩,fun w hs a ha i x hx=>?_⟩
 injection ha with ha
 subst ha
 have:=hs.cell s i
 by_cases hi:i=0
 ·subst hi;simpa [Addr.add,hx] using this
 ·simpa [Addr.add,hi,hx] using this
theorem ent_box_row {b:Nat} {T:TypeId} {cs:List Value} {n:Nat} (hn:n≤cs.length) (hm:cs.length≤maxLen) {h:Hp} (hb:Hl.den (.box b T cs) h):Hl.den (.row T 1 (.slice (some ⟨b,0,none⟩) n cs.length) n (cs.take n)) h :=
 ⟨by simp;omega,.inr ⟨b,cs.length,cs.toArray,rfl,hb,hn,hm,by simp,by simp⟩⟩
section
variable {P:Program} {ops:Array Oper} {k:Kon} {rest:List Oper} {n:Nat} {e:Ev} {W:World} {H:List Hl}
variable {C:Value→List Hl→Prop} {ty:TypeId}
theorem o1_new {op:Op} {T:TypeId} {cs:List Value}
  (hr:∀ a w,Ok1 n e H a w→(execOp a.eval ⟨none,op,ty, "", #[],none⟩).run P w = .ok (.value (.pointer (some ⟨w.heap.size,0,none⟩))) (w.alloc (.cells cs.toArray T)))
  (h:∀ b,C (.pointer (some ⟨b,0,none⟩)) (.box b T cs::H)):O1 P (op) ty n e H C :=
 a6E fun a w ho=>⟨_,_,hr a w ho,_,h _,(Ext.refl w).alloc _,ho.sat.alloc T cs⟩
theorem a1V {T:TypeId} {x:Operand} {v:Value} {cs:List Value} (hx:opd e x=some v) (hcs:v.cells=cs.toArray)
  (h:∀ b,C (.pointer (some ⟨b,0,none⟩)) (.box b T cs::H)):O1 P (.box T x) ty n e H C :=
 o1_new (fun a w ho=>by simp [execOp,ho.ev.eval hx,Instr.box,newVar,newRow,hcs]) h
theorem a1D {T:TypeId} {z:Value} {s by_:Nat} [TInf P T z s by_] {cs:List Value} (hcs:z.cells=cs.toArray)
  (h:∀ b,C (.pointer (some ⟨b,0,none⟩)) (.box b T cs::H)):O1 P (.alloc T) ty n e H C :=
 o1_new (fun a w ho=>by simp [execOp,Instr.alloc,a9B,newVar,newRow,hcs]) h
theorem o1_load {T T':TypeId} [TOne P T] {x:Operand} {b i:Nat} {cs:List Value} {v:Value} {H':List Hl} (hx:opd e x=some (.pointer (some ⟨b,i,none⟩))) (s:Sel H (.box b T' cs) H') (hv:cs[i]?=some v)
  (h:C v H):O1 P (.load T x) ty n e H C :=
 a1U v (fun a w ho=>by
  have hc:=ho.sat.cell s i
  rw [hv] at hc
  simp [execOp,ho.ev.eval hx,Instr.loadAt,Instr.sureAddr,loadVar,a6X,hc]) h
theorem o1_load_any {T:TypeId} [TOne P T] {x:Operand} {p:Addr} {v:Value} {A:Hp→Prop} {H':List Hl} (hx:opd e x=some (.pointer (some p))) (s:Sel H (.any A) H') (hv:Cl A p v)
  (h:C v H):O1 P (.load T x) ty n e H C :=
 a1U v (fun a w ho=>by
  have hc:=hv.cell w (a6B s w ho.sat)
  simp [execOp,ho.ev.eval hx,Instr.loadAt,Instr.sureAddr,loadVar,a6X,hc]) h
theorem o1_load_agg {T T':TypeId} {z:Value} {s by_:Nat} [TAgg P T] [TInf P T z s by_] {x:Operand} {b i:Nat} {cs vs:List Value} {H':List Hl} (hx:opd e x=some (.pointer (some ⟨b,i,none⟩)))
  (sl:Sel H (.box b T' cs) H') (hv:(cs.drop i).take s=vs) (hs:vs.length=s) (h:C (.agg vs.toArray) H):O1 P (.load T x) ty n e H C :=
 a1U _ (fun a w ho=>by
  have hl:=run_loadCells_list (P:=P) w ⟨b,i,none⟩ vs (fun j v hj=>by
   have hc:=ho.sat.cell sl (i+j)
   have:cs[i+j]?=some v:=by
    rw [←hv,List.getElem?_take] at hj
    split at hj
    ·rw [List.getElem?_drop] at hj;exact hj
    ·cases hj
   rw [this] at hc
   by_cases hj0:j=0
   ·subst hj0;simpa [Addr.add] using hc
   ·simpa [Addr.add,hj0] using hc)
  rw [hs] at hl
  simp [execOp,ho.ev.eval hx,Instr.loadAt,Instr.sureAddr,loadVar,a4Q,a1L,hl]) h
theorem a3O {v:Value} (h:v.oneCell'=true):v.cells = #[v]:=by cases v <;> simp_all [Value.oneCell',Value.cells]
theorem run_store_one {w:World} {p:Addr} {u v:Value} (hc:w.cell? p=some u) (hf:w.frozen? p=false) (h1:v.oneCell'=true):(store p v).run P w = .ok () (w.setCell p v):=by
 rw [run_store P w p v .plain h1]
 simp [hc,hf]
theorem sat.free {w:World} (h:sat w (stars H)) {b:Nat} {T:TypeId} {cs:List Value} {H':List Hl} (s:Sel H (.box b T cs) H') (i:Nat):w.frozen? ⟨b,i,none⟩=false:=frozen_of_row w b i _ T (h.cells s)
theorem Upd.sel {H H':List Hl} {x y:Hl} (s:Upd H x y H'):∃ R,Sel H x R∧Sel H' y R:=by
 induction s with
 | here=>exact ⟨_,.here,.here⟩
 | there s ih=>obtain ⟨R,h1,h2⟩:=ih;exact ⟨_,.there h1,.there h2⟩
theorem o1_store {T T':TypeId} {z:Value} {by_:Nat} [TInf P T z 1 by_] {x y:Operand} {b i:Nat} {cs:List Value} {v:Value} {H':List Hl} (hx:opd e x=some (.pointer (some ⟨b,i,none⟩))) (hy:opd e y=some v)
  (s:Upd H (.box b T' cs) (.box b T' (cs.set i v)) H') (hi:i<cs.length) (h1:v.oneCell'=true) (h:C undef H'):O1 P (.store T x y) ty n e H C :=
 o1_step_skip fun a w ho=>by
  obtain ⟨R,sel,_⟩:=s.sel
  have hc:w.cell? ⟨b,i,none⟩=some cs[i]:=by rw [ho.sat.cell sel i];simp [hi]
  have hst:=run_store_one (P:=P) hc (ho.sat.free sel i) h1
  refine ⟨w.setCell ⟨b,i,none⟩ v,?_,H',h,(Ext.refl w).setCell _ _,ho.sat.set_ i v s⟩
  simp [execOp,ho.ev.eval hx,ho.ev.eval hy,Instr.storeAt,Instr.sureAddr,storeVar,a1L,a3O h1,storeCells,Addr.add,hst]
theorem a6R {T ft:TypeId} {j off:Nat} [hf:TFld P T j off ft] {x:Operand} {b i:Nat} (hx:opd e x=some (.pointer (some ⟨b,i,none⟩)))
  (h:C (.pointer (some ⟨b,i+off,none⟩)) H):O1 P (.fieldAddr T x j) ty n e H C :=
 a1U _ (fun a w ho=>by
  obtain ⟨fs,f,hu,hj,ho',_,hs⟩:=hf.u
  cases hq:P.info? f.type with
  | none=>simp [hq] at hs
  | some q =>
   have hq0:q.size≠0:=by simpa [hq] using hs
   subst ho'
   by_cases h0:f.offset=0
   ·simp [execOp,ho.ev.eval hx,Instr.fieldAt,Instr.sureAddr,run_underlying hu,hj,fieldPlace,sizeOf,typeInfo,hq,hq0,Addr.add,h0]
   ·simp [execOp,ho.ev.eval hx,Instr.fieldAt,Instr.sureAddr,run_underlying hu,hj,fieldPlace,sizeOf,typeInfo,hq,hq0,Addr.add,h0]) h
end
class UK (k:IntKind) (w:outParam Nat):Prop where
 bits:k.bits=w
 unsigned:k.signed=false
instance :UK .u8 8:=⟨rfl,rfl⟩
instance :UK .u32 32:=⟨rfl,rfl⟩
instance :UK .u64 64:=⟨rfl,rfl⟩
theorem UK.wrap {k:IntKind} {w:Nat} [h:UK k w] (n:Int):k.wrap n=((BitVec.ofInt w n).toNat:Int):=by
 simp [IntKind.wrap,h.unsigned,h.bits,BitVec.toNat_ofInt]
 have h2:(2 ^ w:Int)≠0:=by exact_mod_cast Nat.ne_of_gt (Nat.two_pow_pos w)
 exact (Int.max_eq_left (Int.emod_nonneg _ h2)).symm
theorem UK.wrap_of {k:IntKind} {w:Nat} [h:UK k w] (x:BitVec w):k.wrap (x.toNat:Int)=(x.toNat:Int):=by
 rw [UK.wrap];simp
theorem a5H {w:Nat} (x:BitVec w):BitVec.ofInt w (x.toNat:Int)=x:=by simp
theorem b2P {P:Program} {w:World} {k:IntKind} {m:Nat} [h:UK k m] (x y:BitVec m) :
  (Op.intBits .and k x.toNat y.toNat).run P w = .ok (.int k (x &&& y).toNat) w∧(Op.intBits .or k x.toNat y.toNat).run P w = .ok (.int k (x ||| y).toNat) w ∧
  (Op.intBits .xor k x.toNat y.toNat).run P w = .ok (.int k (x ^^^ y).toNat) w∧(Op.intBits .andNot k x.toNat y.toNat).run P w = .ok (.int k (x &&& ~~~y).toNat) w:=by
 obtain rfl:=h.bits
 refine ⟨?_,?_,?_,?_⟩ <;> simp only [Op.intBits,Sem.run_pure,a5H] <;> rw [UK.wrap_of (h:=h)]
section
variable {P:Program} {ops:Array Oper} {k:Kon} {rest:List Oper} {n:Nat} {e:Ev} {W:World} {H:List Hl}
variable {C:Value→List Hl→Prop} {ty:TypeId} {t t':TypeId} {x y:Operand} {kd kd':IntKind} {p q:Int}
theorem a5W {op:BinOp} {r:Int} (hx:opd e x=some (.int kd p)) (hy:opd e y=some (.int kd' q)) (hr:∀ w,(binOp op t (.int kd p) (.int kd' q)).run P w = .ok (.int kd r) w) (h:C (.int kd r) H) :
  O1 P (.binOp op t x y t') ty n e H C :=
 a1U _ (fun a w ho=>by simp [execOp,ho.ev.eval hx,ho.ev.eval hy,eqGuard_int,hr]) h
theorem a8B (h1 : -9223372036854775808≤p) (h2:p≤9223372036854775807):IntKind.i64.wrap p=p:=by rw [IntKind.wrap_i64];omega
theorem a2F (hx:opd e x=some (.int .i64 p)) (hy:opd e y=some (.int .i64 q)) (hb : -9223372036854775808≤p+q∧p+q≤9223372036854775807) (h:C (.int .i64 (p+q)) H) :
  O1 P (.binOp .add t x y t') ty n e H C :=
 a5W hx hy (fun w=>by rw [binOp_add];simp [Op.intArith,a8B hb.1 hb.2]) h
theorem a3D (hx:opd e x=some (.int .i64 p)) (hy:opd e y=some (.int .i64 q)) (hb : -9223372036854775808≤p - q∧p - q≤9223372036854775807) (h:C (.int .i64 (p - q)) H) :
  O1 P (.binOp .sub t x y t') ty n e H C :=
 a5W hx hy (fun w=>by rw [binOp_sub];simp [Op.intArith,a8B hb.1 hb.2]) h
theorem a2Y (hx:opd e x=some (.int .i64 p)) (hy:opd e y=some (.int .i64 q)) (hb : -9223372036854775808≤p*q∧p*q≤9223372036854775807) (h:C (.int .i64 (p*q)) H) :
  O1 P (.binOp .mul t x y t') ty n e H C :=
 a5W hx hy (fun w=>by rw [binOp_mul];simp [Op.intArith,a8B hb.1 hb.2]) h
theorem a3A (hx:opd e x=some (.int .i64 p)) (hy:opd e y=some (.int .i64 q)) (hb:0≤p∧0<q∧p≤9223372036854775807) (h:C (.int .i64 (p / q)) H) :
  O1 P (.binOp .quo t x y t') ty n e H C :=
 a5W hx hy (fun w=>by
  have h0:0≤p / q:=Int.ediv_nonneg hb.1 (by omega)
  have h1:p / q≤p:=Int.ediv_le_self _ hb.1
  rw [binOp_quo]
  simp [Op.intDiv,show q≠0 from by omega,Int.tdiv_eq_ediv_of_nonneg hb.1,a8B (p:=p / q) (by omega) (by omega)]) h
theorem c2H (hx:opd e x=some (.int .i64 p)) (hy:opd e y=some (.int .i64 q)) (hb:0≤p∧0<q) (h:C (.int .i64 (p % q)) H) :
  O1 P (.binOp .rem t x y t') ty n e H C :=
 a5W hx hy (fun w=>by
  rw [binOp_rem]
  simp [Op.intDiv,show q≠0 from by omega,Int.tmod_eq_emod_of_nonneg hb.1]) h
variable {m:Nat} {u v:BitVec m}
theorem b0F [h0:UK kd m] (hx:opd e x=some (.int kd u.toNat)) (hy:opd e y=some (.int kd v.toNat)) (h:C (.int kd (u &&& v).toNat) H):O1 P (.binOp .and t x y t') ty n e H C :=
 a5W hx hy (fun w=>by rw [binOp_and];exact (b2P u v).1) h
theorem c2G [h0:UK kd m] (hx:opd e x=some (.int kd u.toNat)) (hy:opd e y=some (.int kd v.toNat)) (h:C (.int kd (u ||| v).toNat) H):O1 P (.binOp .or t x y t') ty n e H C :=
 a5W hx hy (fun w=>by rw [binOp_or];exact (b2P u v).2.1) h
theorem a8E [h0:UK kd m] (hx:opd e x=some (.int kd u.toNat)) (hy:opd e y=some (.int kd v.toNat)) (h:C (.int kd (u ^^^ v).toNat) H):O1 P (.binOp .xor t x y t') ty n e H C :=
 a5W hx hy (fun w=>by rw [binOp_xor];exact (b2P u v).2.2.1) h
theorem b4F [h0:UK kd m] (hx:opd e x=some (.int kd u.toNat)) (hy:opd e y=some (.int kd v.toNat)) (h:C (.int kd (u &&& ~~~v).toNat) H):O1 P (.binOp .andNot t x y t') ty n e H C :=
 a5W hx hy (fun w=>by rw [binOp_andNot];exact (b2P u v).2.2.2) h
theorem uk_add (kd:IntKind) [h0:UK kd m] (u v:BitVec m):kd.wrap ((u.toNat:Int)+v.toNat)=((u+v).toNat:Int):=by
 rw [UK.wrap,BitVec.ofInt_add,a5H,a5H]
theorem uk_sub (kd:IntKind) [h0:UK kd m] (u v:BitVec m):kd.wrap ((u.toNat:Int) - v.toNat)=((u - v).toNat:Int):=by
 rw [UK.wrap];rw [Int.sub_eq_add_neg,BitVec.ofInt_add,BitVec.ofInt_neg,BitVec.sub_eq_add_neg,a5H,a5H]
theorem uk_mul (kd:IntKind) [h0:UK kd m] (u v:BitVec m):kd.wrap ((u.toNat:Int)*v.toNat)=((u*v).toNat:Int):=by
 rw [UK.wrap,BitVec.ofInt_mul,a5H,a5H]
theorem a8F [h0:UK kd m] (hx:opd e x=some (.int kd u.toNat)) (hy:opd e y=some (.int kd v.toNat)) (h:C (.int kd (u+v).toNat) H):O1 P (.binOp .add t x y t') ty n e H C :=
 a5W hx hy (fun w=>by rw [binOp_add];simp [Op.intArith,uk_add]) h
theorem b8V [h0:UK kd m] (hx:opd e x=some (.int kd u.toNat)) (hy:opd e y=some (.int kd v.toNat)) (h:C (.int kd (u - v).toNat) H):O1 P (.binOp .sub t x y t') ty n e H C :=
 a5W hx hy (fun w=>by rw [binOp_sub];simp [Op.intArith,uk_sub]) h
theorem a7M [h0:UK kd m] (hx:opd e x=some (.int kd u.toNat)) (hy:opd e y=some (.int kd v.toNat)) (h:C (.int kd (u*v).toNat) H):O1 P (.binOp .mul t x y t') ty n e H C :=
 a5W hx hy (fun w=>by rw [binOp_mul];simp [Op.intArith,uk_mul]) h
theorem uk_shl (kd:IntKind) [h0:UK kd m] (u:BitVec m) (s:Nat):kd.wrap ((u.toNat:Int)*2 ^ min s kd.bits)=((u <<< s).toNat:Int):=by
 have hb:=h0.bits
 rw [UK.wrap,BitVec.toNat_ofInt,BitVec.toNat_shiftLeft,hb]
 rcases Nat.le_total s m with hs|hs
 ·rw [Nat.min_eq_left hs,Nat.shiftLeft_eq]
  have:((u.toNat:Int)*2 ^ s) % ((2 ^ m:Nat):Int)=((u.toNat*2 ^ s % 2 ^ m:Nat):Int):=by push_cast;rfl
  rw [this];simp;omega
 ·rw [Nat.min_eq_right hs,Nat.shiftLeft_eq]
  have h1:u.toNat*2 ^ s % 2 ^ m=0:=by
   rw [show s=m+(s - m) from by omega,Nat.pow_add,←Nat.mul_assoc,Nat.mul_right_comm];simp
  have h2:((u.toNat:Int)*2 ^ m) % ((2 ^ m:Nat):Int)=0:=by push_cast;simp
  rw [h1,h2];simp
theorem uk_shr (kd:IntKind) [h0:UK kd m] (u:BitVec m) (s:Nat):(u.toNat:Int) / 2 ^ min s kd.bits=((u >>> s).toNat:Int):=by
 have hb:=h0.bits
 rw [BitVec.toNat_ushiftRight,Nat.shiftRight_eq_div_pow,hb]
 rcases Nat.le_total s m with hs|hs
 ·rw [Nat.min_eq_left hs];push_cast;rfl
 ·rw [Nat.min_eq_right hs]
  have h1:u.toNat / 2 ^ s=0:=Nat.div_eq_of_lt (Nat.lt_of_lt_of_le u.isLt (Nat.pow_le_pow_right (by omega) hs))
  have h2:(u.toNat:Int) / 2 ^ m=0:=by
   have:=Nat.div_eq_of_lt u.isLt
   have h3:((u.toNat / 2 ^ m:Nat):Int)=0:=by rw [this];rfl
   push_cast at h3;exact h3
  rw [h1,h2];rfl
theorem b8W [h0:UK kd m] (hx:opd e x=some (.int kd u.toNat)) (hy:opd e y=some (.int kd' q)) (hq:0≤q) (h:C (.int kd (u <<< q.toNat).toNat) H):O1 P (.binOp .shl t x y t') ty n e H C :=
 a5W hx hy (fun w=>by rw [binOp_shl,shift_shl_any _ _ _ _ hq,Sem.run_pure,uk_shl]) h
theorem a9K [h0:UK kd m] (hx:opd e x=some (.int kd u.toNat)) (hy:opd e y=some (.int kd' q)) (hq:0≤q) (h:C (.int kd (u >>> q.toNat).toNat) H):O1 P (.binOp .shr t x y t') ty n e H C :=
 a5W hx hy (fun w=>by rw [binOp_shr,shift_shr_any _ _ _ _ hq,Sem.run_pure,uk_shr]) h
theorem c0W [h0:UK kd m] (hx:opd e x=some (.int kd u.toNat)) (h:C (.int kd (~~~u).toNat) H):O1 P (.unOp .xor t x) ty n e H C :=
 a1U _ (fun a w ho=>by
  have hm:kd.max=((BitVec.allOnes m).toNat:Int):=by
   have:=Nat.two_pow_pos m
   simp only [IntKind.max,h0.unsigned,h0.bits,BitVec.toNat_allOnes,Bool.false_eq_true,if_false]
   have h2:((2 ^ m - 1:Nat):Int)=((2 ^ m:Nat):Int) - 1:=by omega
   rw [h2];push_cast;rfl
  have:=(b2P (P:=P) (w:=w) (k:=kd) (BitVec.allOnes m) u).2.2.1
  simp only [execOp,ho.ev.eval hx,unary_xor,h0.unsigned,hm,Bool.false_eq_true,if_false,Sem.run_bind,this,Result.andThen_ok,Sem.run_pure,BitVec.allOnes_xor]) h
theorem b4J {b:Bool} (hx:opd e x=some (.bool b)) (h:C (.bool (!b)) H):O1 P (.unOp .not t x) ty n e H C :=
 a1U _ (fun a w ho=>by simp [execOp,ho.ev.eval hx,unary_not]) h
theorem b9F {r:Int} [h1:TInt P t kd] [h2:TInt P t' kd'] (hx:opd e x=some (.int kd p)) (hr:kd'.wrap p=r) (h:C (.int kd' r) H):O1 P (.convert t t' x) ty n e H C :=
 a1U _ (fun a w ho=>by
  subst hr
  simp [execOp,ho.ev.eval hx,convert,run_underlying h1.u,run_underlying h2.u,Conv.intToInt]) h
end
def Has (H:List Hl):Prop:=∃ w,sat w (stars H)
def RsH {α:Type} (H:List Hl) (enc:α→Value) (ad:Option Addr) (c:Nat) (l:List α):Prop:=Has H→Rs (stars H) enc ad c l
theorem rs_any {α:Type} {A:Hp→Prop} {H H':List Hl} {enc:α→Value} {ad:Option Addr} {c:Nat} {l:List α} (s:Sel H (.any A) H') (h:Rs A enc ad c l):RsH H enc ad c l:=fun _=>h.lift s
theorem rs_row {α:Type} {H H':List Hl} {T:TypeId} {enc:α→Value} {ad:Option Addr} {n c:Nat} {l:List α} (s:Sel H (.row T 1 (.slice ad n c) n (l.map enc)) H'):RsH H enc ad c l:=fun ⟨w,hw⟩=>(Rs.of_row s w hw).unvals
theorem rs_box {α:Type} {H H':List Hl} {T:TypeId} {enc:α→Value} {b c:Nat} {l:List α} (hc:l.length=c) (hb:c≤9223372036854775807) (s:Sel H (.box b T (l.map enc)) H'):RsH H enc (some ⟨b,0,none⟩) c l:=fun _=>by
 subst hc
 have:=Rs.of_box (by simpa using hb) s
 rw [List.length_map] at this
 exact this.unvals
theorem rs_nil {α:Type} {H:List Hl} {enc:α→Value} {ad:Option Addr} {c:Nat} (hb:c≤9223372036854775807):RsH H enc ad c ([]:List α):=fun _ => .nil hb
def str (l:List (BitVec 8)):ByteArray:=⟨(l.map UInt8.ofBitVec).toArray⟩
theorem toList_str (l:List (BitVec 8)):(str l).toList=l.map UInt8.ofBitVec:=by simp [str]
theorem map_ub_inj:∀ l m:List (BitVec 8),l.map UInt8.ofBitVec=m.map UInt8.ofBitVec→l=m
 | [],[],_=>rfl
 | [],_::_,h=>by simp at h
 | _::_,[],h=>by simp at h
 | a::l,b::m,h=>by
  simp only [List.map_cons,List.cons.injEq] at h
  rw [map_ub_inj l m h.2,show a=b from by simpa using congrArg UInt8.toBitVec h.1]
theorem str_beq (l m:List (BitVec 8)):((str l).toList == (str m).toList)=decide (l=m):=by
 rw [toList_str,toList_str]
 by_cases h:l=m
 ·simp [h]
 ·have:l.map UInt8.ofBitVec≠m.map UInt8.ofBitVec:=fun e=>h (map_ub_inj l m e)
  simp [h,this]
theorem foldl_push (l:List (BitVec 8)):∀ r:ByteArray,(l.map (fun x=>(x.toNat:Int))).foldl (fun r n=>r.push (UInt8.ofNat n.toNat)) r=⟨r.data++(l.map UInt8.ofBitVec).toArray⟩:=by
 induction l with
 | nil=>intro r;simp
 | cons x l ih =>
  intro r
  simp only [List.map_cons,List.foldl_cons,ih]
  simp [ByteArray.push,UInt8.ofNat]
abbrev B (x:BitVec 8):Value := .int .u8 (x.toNat:Int)
theorem run_string {P:Program} {w:World} {A:Hp→Prop} (hs:sat w A) {ad:Option Addr} {c:Nat} {l:List (BitVec 8)} (h:Rs A B ad c l):(Conv.bytesToString (.slice ad l.length c)).run P w = .ok (.string (str l)) w:=by
 cases ad with
 | none =>
  have:l=[]:=by
   rcases l with _|⟨x,l⟩
   ·rfl
   ·obtain ⟨a,ha⟩:=h.sm (by simp);cases ha
  subst this
  simp [Conv.bytesToString,str,ByteArray.empty,ByteArray.emptyWithCapacity]
  rfl
 | some a =>
  have hl:=run_loadCells_list (P:=P) w a (l.map B) (fun j v hj=>by
   simp only [List.getElem?_map,Option.map_eq_some_iff] at hj
   obtain ⟨x,hx,rfl⟩:=hj
   exact h.cell w hs a rfl j x hx)
  rw [List.length_map] at hl
  have:=run_bytesToString (P:=P) w a l.length c (l.map fun x=>(x.toNat:Int)) (by rw [hl];simp [B])
  rw [this,foldl_push]
  simp [str,ByteArray.empty,ByteArray.emptyWithCapacity]
  rfl
section
variable {P:Program} {ops:Array Oper} {k:Kon} {rest:List Oper} {n:Nat} {e:Ev} {W:World} {H:List Hl}
variable {C:Value→List Hl→Prop} {ty:TypeId} {t t':TypeId} {x y:Operand} {kd kd':IntKind} {p q:Int}
variable {T E:TypeId} {z:Value} {by_:Nat} {ad ad':Option Addr} {l c c':Nat}
theorem Ok1.has {a:Act} {w:World} (h:Ok1 n e H a w):Has H:=⟨w,h.sat⟩
theorem c0G [ht:TSl P T E] (hx:opd e x=some (.slice ad l c)) (h:C (.int .i64 (l:Int)) H) :
  O1 P (.call ⟨.builtin .len, #[x], #[T]⟩) ty n e H C :=
 a1U _ (fun a w ho=>by
  simp [execOp,resolve,invoke,builtin,ho.ev.eval hx,Builtin.len_,run_underlying ht.u,goInt]) h
theorem o1_cap [ht:TSl P T E] (hx:opd e x=some (.slice ad l c)) (h:C (.int .i64 (c:Int)) H) :
  O1 P (.call ⟨.builtin .cap, #[x], #[T]⟩) ty n e H C :=
 a1U _ (fun a w ho=>by
  simp [execOp,resolve,invoke,builtin,ho.ev.eval hx,Builtin.cap_,run_underlying ht.u,goInt]) h
theorem b6J {ats:Array TypeId} {r:Int} (hx:opd e x=some (.int kd p)) (hy:opd e y=some (.int kd q)) (hr:(p≤q∧r=q)∨(q≤p∧r=p)) (h:C (.int kd r) H) :
  O1 P (.call ⟨.builtin .max, #[x,y],ats⟩) ty n e H C :=
 a1U _ (fun a w ho=>by
  have:(if q > p then q else p)=r:=by split <;> omega
  simp [execOp,resolve,invoke,builtin,ho.ev.eval hx,ho.ev.eval hy,run_max_int2,this]) h
theorem b2W {ats:Array TypeId} {r:Int} (hx:opd e x=some (.int kd p)) (hy:opd e y=some (.int kd q)) (hr:(p≤q∧r=p)∨(q≤p∧r=q)) (h:C (.int kd r) H) :
  O1 P (.call ⟨.builtin .min, #[x,y],ats⟩) ty n e H C :=
 a1U _ (fun a w ho=>by
  have:(if q<p then q else p)=r:=by split <;> omega
  simp [execOp,resolve,invoke,builtin,ho.ev.eval hx,ho.ev.eval hy,run_min_int2,this]) h
theorem o1_indexAddr_own {b o:Nat} {s:Nat} [ht:TSl P T E] [hi:TInf P E z s by_] (hx:opd e x=some (.slice (some ⟨b,o,none⟩) l c)) (hy:opd e y=some (.int kd p)) (hp:0≤p∧p<l)
  (h:C (.pointer (some ⟨b,o+p.toNat*s,none⟩)) H):O1 P (.indexAddr T x y) ty n e H C :=
 a1U _ (fun a w ho=>by
  by_cases h0:p.toNat*s=0
  ·simp [execOp,ho.ev.eval hx,ho.ev.eval hy,Instr.indexAt,asIntOf,run_underlying ht.u,hp,a1L,Addr.add,h0]
  ·simp [execOp,ho.ev.eval hx,ho.ev.eval hy,Instr.indexAt,asIntOf,run_underlying ht.u,hp,a1L,Addr.add,h0]) h
theorem a6V {b o m s:Nat} [ht:TArr P T m E] [hi:TInf P E z s by_] (hx:opd e x=some (.pointer (some ⟨b,o,none⟩))) (hy:opd e y=some (.int kd p)) (hp:0≤p∧p<m)
  (h:C (.pointer (some ⟨b,o+p.toNat*s,none⟩)) H):O1 P (.indexAddr T x y) ty n e H C :=
 a1U _ (fun a w ho=>by
  by_cases h0:p.toNat*s=0
  ·simp [execOp,ho.ev.eval hx,ho.ev.eval hy,Instr.indexAt,Instr.sureAddr,asIntOf,run_underlying ht.u,hp,a1L,Addr.add,h0]
  ·simp [execOp,ho.ev.eval hx,ho.ev.eval hy,Instr.indexAt,Instr.sureAddr,asIntOf,run_underlying ht.u,hp,a1L,Addr.add,h0]) h
theorem a3E {α:Type} {A:Hp→Prop} {enc:α→Value} {xs:List α} [ht:TSl P T E] [hi:TInf P E z 1 by_] (hx:opd e x=some (.slice ad xs.length c)) (hy:opd e y=some (.int kd p)) (hr:Rs A enc ad c xs) (i:Nat) (hp:p=i) (hl:i<xs.length)
  (h:∀ a,Cl A a (enc xs[i])→C (.pointer (some a)) H):O1 P (.indexAddr T x y) ty n e H C:=by
 obtain ⟨a0,rfl⟩:=hr.sm (by omega)
 subst hp
 refine a1U _ (fun a w ho=>?_) (h (a0.add i) ⟨fun w hs=>hr.cell w hs a0 rfl i _ (by simp [hl])⟩)
 simp [execOp,ho.ev.eval hx,ho.ev.eval hy,Instr.indexAt,asIntOf,run_underlying ht.u,hl,a1L]
theorem a7W {m:Nat} {vs:List Value} {v:Value} [ht:TArr P T m E] [TOne P E] [hi:TInf P E z 1 by_] (hx:opd e x=some (.agg vs.toArray)) (hy:opd e y=some (.int kd p)) (hp:0≤p∧p<m) (hv:vs[p.toNat]?=some v)
  (h:C v H):O1 P (.index T x y) ty n e H C :=
 a1U _ (fun a w ho=>by
  simp [execOp,ho.ev.eval hx,ho.ev.eval hy,Instr.index,asIntOf,run_underlying ht.u,hp,a1L,part,a6X,hv]) h
theorem o1_slice_lh {s lo hi:Nat} {ol oh:Operand} [ht:TSl P T E] [hi':TInf P E z s by_] (hx:opd e x=some (.slice ad l c)) (hl:opd e ol=some (.int kd (lo:Int))) (hh:opd e oh=some (.int kd' (hi:Int))) (h1:lo≤hi) (h2:hi≤c)
  (h:C (.slice (if c=lo then ad else ad.map (·.add (lo*s))) (hi - lo) (c - lo)) H):O1 P (.slice T x (some ol) (some oh) none) ty n e H C :=
 a1U _ (fun a w ho=>by
  simp [execOp,ho.ev.eval hx,ho.ev.eval hl,ho.ev.eval hh,Instr.sliceAt,run_underlying ht.u,Instr.slice,Instr.sliceBounds,Instr.sliceBound,asIntOf,a1L,h1,h2]) h
theorem b1E {s hi:Nat} {oh:Operand} [ht:TSl P T E] [hi':TInf P E z s by_] (hx:opd e x=some (.slice ad l c)) (hh:opd e oh=some (.int kd' (hi:Int))) (h2:hi≤c)
  (h:C (.slice (if c=0 then ad else ad.map (·.add (0*s))) hi c) H):O1 P (.slice T x none (some oh) none) ty n e H C :=
 a1U _ (fun a w ho=>by
  simp [execOp,ho.ev.eval hx,ho.ev.eval hh,Instr.sliceAt,run_underlying ht.u,Instr.slice,Instr.sliceBounds,Instr.sliceBound,asIntOf,a1L,h2]) h
theorem b4G {s lo:Nat} {ol:Operand} [ht:TSl P T E] [hi':TInf P E z s by_] (hx:opd e x=some (.slice ad l c)) (hl:opd e ol=some (.int kd (lo:Int))) (h1:lo≤l)
  (h:C (.slice (if c=lo then ad else ad.map (·.add (lo*s))) (l - lo) (c - lo)) H):O1 P (.slice T x (some ol) none none) ty n e H C :=
 a1U _ (fun a w ho=>by
  simp [execOp,ho.ev.eval hx,ho.ev.eval hl,Instr.sliceAt,run_underlying ht.u,Instr.slice,Instr.sliceBounds,Instr.sliceBound,asIntOf,a1L,h1]) h
theorem o1_slice_hm {s hi mx:Nat} {oh om:Operand} [ht:TSl P T E] [hi':TInf P E z s by_] (hx:opd e x=some (.slice ad l c)) (hh:opd e oh=some (.int kd (hi:Int))) (hm:opd e om=some (.int kd' (mx:Int))) (h1:hi≤mx) (h2:mx≤c)
  (h:C (.slice (if mx=0 then ad else ad.map (·.add (0*s))) hi mx) H):O1 P (.slice T x none (some oh) (some om)) ty n e H C :=
 a1U _ (fun a w ho=>by
  simp [execOp,ho.ev.eval hx,ho.ev.eval hh,ho.ev.eval hm,Instr.sliceAt,run_underlying ht.u,Instr.slice,Instr.sliceBounds,Instr.sliceBound,asIntOf,a1L,h1,h2]) h
theorem o1_mk {lo cp:Nat} [ht:TSl P T E] [hi:TInf P E z 1 by_] (hz:z.oneCell'=true) (hx:opd e x=some (.int kd (lo:Int))) (hy:opd e y=some (.int kd' (cp:Int))) (h1:lo≤cp) (h2:by_*cp≤281474976710656) (h3:cp≤9223372036854775807)
  (h:∀ b,C (.slice (some ⟨b,0,none⟩) lo cp) (.box b E (List.replicate cp z)::H)):O1 P (.makeSlice T x y) ty n e H C :=
 a6E fun a w ho=>by
  obtain ⟨i,hi0,hiz,his,hib⟩:=hi.info
  have h5:(i.bytes:Int)*(cp:Int)≤281474976710656:=by
   rw [hib]
   have h6:((by_*cp:Nat):Int)≤281474976710656:=by omega
   rwa [Int.natCast_mul] at h6
  have hr:=run_make (P:=P) w T E i z ht.u hi0 hiz kd kd' lo cp (by omega) (by omega) h5 (by omega)
  simp only [Int.toNat_natCast,his,Nat.mul_one] at hr
  have hm:madeCells z.cells cp=(List.replicate cp z).toArray:=by
   rw [a3O hz]
   apply Array.ext'
   rw [toList_madeCells_one]
  rw [hm] at hr
  refine ⟨_,_,?_,_,h _,(Ext.refl w).alloc _,ho.sat.alloc E _⟩
  simp [execOp,ho.ev.eval hx,ho.ev.eval hy,hr]
def opds (e:Ev):List Operand→Option (List Value)
 | []=>some []
 | x::l=>match opd e x,opds e l with
  | some v,some vs=>some (v::vs)
  | _,_=>none
theorem EvOk.evals {a:Act} (h:EvOk a n e):∀ {l:List Operand} {vs:List Value},opds e l=some vs→l.map a.eval=vs
 | [],vs,hl=>by simp [opds] at hl;simp [hl]
 | x::l,vs,hl=>by
  simp only [opds] at hl
  split at hl
  ·rename_i v us hv hus
   simp only [Option.some.injEq] at hl
   subst hl
   simp [h.eval hv,EvOk.evals h hus]
  ·cases hl
def opdi (e:Ev):List (Nat × Operand)→Option (List (Nat × Value))
 | []=>some []
 | (i,x)::l=>match opd e x,opdi e l with
  | some v,some vs=>some ((i,v)::vs)
  | _,_=>none
theorem EvOk.evali {a:Act} (h:EvOk a n e):∀ {l:List (Nat × Operand)} {vs:List (Nat × Value)},opdi e l=some vs→l.map (fun x=>(x.1,a.eval x.2))=vs
 | [],vs,hl=>by simp [opdi] at hl;simp [hl]
 | (i,x)::l,vs,hl=>by
  simp only [opdi] at hl
  split at hl
  ·rename_i v us hv hus
   simp only [Option.some.injEq] at hl
   subst hl
   simp [h.eval hv,EvOk.evali h hus]
  ·cases hl
theorem o1_build {ps:List (Nat × Operand)} {us:List (Nat × Value)} {vs:List Value} (hps:opdi e ps=some us) (hr:∀ w,(Instr.build T us.toArray).run P w = .ok (.agg vs.toArray) w) (h:C (.agg vs.toArray) H) :
  O1 P (.build T ps.toArray) ty n e H C :=
 a1U _ (fun a w ho=>by
  have:=ho.ev.evali hps
  simp only [execOp,List.map_toArray,this,Sem.run_bind,hr,Result.andThen_ok,Sem.run_pure]) h
theorem o1_buildSlice {ps:List (Nat × Operand)} {us:List (Nat × Value)} {vs:List Value} {m:Nat} (hps:opdi e ps=some us) (hr:∀ w,(Instr.buildSlice T m us.toArray).run P w = .ok (.slice (some ⟨w.heap.size,0,none⟩) m m) (w.alloc (.cells vs.toArray E)))
  (h:∀ b,C (.slice (some ⟨b,0,none⟩) m m) (.box b E vs::H)):O1 P (.buildSlice T m ps.toArray) ty n e H C :=
 a6E fun a w ho=>by
  have:=ho.ev.evali hps
  refine ⟨_,_,?_,_,h _,(Ext.refl w).alloc _,ho.sat.alloc E _⟩
  simp only [execOp,List.map_toArray,this,Sem.run_bind,hr,Result.andThen_ok,Sem.run_pure]
theorem o1_append {α:Type} {enc:α→Value} {xs ys:List α} {H':List Hl} {m a0:Nat} [ht:TSl P T E] [hi:TInf P E z 1 by_] (hz:z.oneCell'=true) (henc:∀ x,(enc x).oneCell'=true) (hx:opd e x=some (.slice ad a0 c)) (hy:opd e y=some (.slice ad' m c'))
  (s:Sel H (.row E 1 (.slice ad a0 c) a0 (xs.map enc)) H') (hm:m=ys.length) (hr:RsH H enc ad' c' ys) (hb:(a0+m)*by_≤140737488355328) (hb2:a0+m≤9223372036854775807)
  (h:∀ ad2 c2,C (.slice ad2 (a0+m) c2) (.row E 1 (.slice ad2 (a0+m) c2) (a0+m) ((xs++ys).map enc)::H')) :
  O1 P (.call ⟨.builtin .append, #[x,y], #[T,T]⟩) ty n e H C :=
 a6E fun a w ho=>by
  subst hm
  obtain ⟨i,hi0,hiz,his,hib⟩:=hi.info
  have hown:=ho.sat.own s
  have hr:=hr ho.has
  have hzs:z.cells.size=1:=by rw [a3O hz];rfl
  have key:∃ v' w',(Builtin.append_ #[T,T] ty #[.slice ad a0 c,.slice ad' ys.length c']).run P w = .ok v' w'∧w'.ownsRow 0 E 1 v' (a0+ys.length) (xs.map enc++ys.map enc)∧w.grownBy w' (Value.slice ad a0 c).ownBlock ∧
    (v'.ownBlock=(Value.slice ad a0 c).ownBlock∨v'.ownBlock=some w.heap.size):=by
   cases ad' with
   | none =>
    have hn:ys=[]:=by
     rcases ys with _|⟨x,ys⟩
     ·rfl
     ·obtain ⟨a,ha⟩:=hr.sm (by simp);cases ha
    subst hn
    refine ⟨_,w,?_,by simpa using hown,World.grownBy.refl w _,.inl rfl⟩
    rcases hown.2 with ⟨hv,rfl⟩|⟨g,cap,cur,hv,_,_,hnc,_⟩
    ·injection hv with h1 h2 h3
     subst h1 h3
     simp [Builtin.append_,run_underlying ht.u,sizeOf,typeInfo,hi0,Builtin.lenOf,Builtin.firstCells]
    ·injection hv with h1 h2 h3
     subst h1 h3
     simp [Builtin.append_,run_underlying ht.u,sizeOf,typeInfo,hi0,Builtin.lenOf,Builtin.firstCells,hnc,storeCells]
   | some b =>
    obtain ⟨v',w',h1,h2,h3,_,h5⟩:=run_append_own_at (P:=P) w 0 T ty E i z 1 by_ ht.u hi0 hiz his hib hzs (by omega) _ _ _ hown b ys.length c' (ys.map enc) (by simp)
     (fun j u hj=>by
      simp only [List.getElem?_map,Option.map_eq_some_iff] at hj
      obtain ⟨x,hx,rfl⟩:=hj
      exact hr.cell w ho.sat b rfl j x hx)
     (fun u hu=>by
      simp only [List.mem_map] at hu
      obtain ⟨x,_,rfl⟩:=hu
      exact henc x) (by simp only [maxLen];omega) hb (by omega)
    exact ⟨v',w',h1,h2,h3,h5⟩
  obtain ⟨v',w',hrun,h2,h3,h4⟩:=key
  have hv:∃ ad2 c2,v' = .slice ad2 (a0+ys.length) c2:=by
   rcases h2.2 with ⟨rfl,hn⟩|⟨g,cap,cur,rfl,_⟩
   ·exact ⟨none,0,by rw [hn]⟩
   ·exact ⟨_,_,rfl⟩
  obtain ⟨ad2,c2,rfl⟩:=hv
  rw [←List.map_append] at h2
  refine ⟨_,w',?_,_,h ad2 c2,⟨h3.os,h3.tape,h3.output,h3.size⟩,ho.sat.grown s h2 h3 h4⟩
  simp [execOp,resolve,invoke,builtin,ho.ev.eval hx,ho.ev.eval hy,hrun]
theorem a2M {xs:List (BitVec 8)} {m:Nat} [ht:TSl P t E] [he:TInt P E .u8] [hs:TStr P t'] (hx:opd e x=some (.slice ad m c)) (hm:m=xs.length) (hr:RsH H B ad c xs) (h:C (.string (str xs)) H) :
  O1 P (.convert t t' x) ty n e H C :=
 a1U _ (fun a w ho=>by
  subst hm
  have h1:=run_convert_bytes_string (P:=P) w t t' E ad xs.length c ht.u he.u hs.u
  rw [run_string ho.sat (hr ho.has)] at h1
  simp [execOp,ho.ev.eval hx,h1]) h
theorem o1_str {op:BinOp} {a b:ByteArray} {r:Bool} (hx:opd e x=some (.string a)) (hy:opd e y=some (.string b)) (hr:binOp op t (.string a) (.string b)=pure (.bool r)) (h:C (.bool r) H) :
  O1 P (.binOp op t x y t') ty n e H C :=
 a1U _ (fun a w ho=>by simp [execOp,ho.ev.eval hx,ho.ev.eval hy,eqGuard_at_string,hr]) h
theorem b2O {f:FuncId} {args:Array Value} {w:World} (h:(P.funcs[f]?).map (fun fn=>(fn.name == "runtime.NumGoroutine",fn.body.isNone))=some (false,false)):(callFunc f args).run P w = .ok (.enter f args) w:=by
 cases hf:P.funcs[f]? with
 | none=>simp [hf] at h
 | some fn =>
  simp only [hf,Option.map_some,Option.some.injEq,Prod.mk.injEq] at h
  have hb : ¬ fn.body=none:=fun hn=>by rw [hn] at h;simp at h
  have hn : ¬ fn.name = "runtime.NumGoroutine":=by simpa using h.1
  simp [callFunc,hf,hn,hb]
theorem a0A {f:FuncId} {xs:List Operand} {args:List Value} {ats:Array TypeId} {X:Type} {good:X→Prop} {val:X→Value} {res:X→List Hl} (hs:Has H→Spec P f args H good val res) (hxs:opds e xs=some args)
  (h:∀ r,good r→C (val r) (res r)):O1 P (.call ⟨.value (.func f),xs.toArray,ats⟩) ty n e H C :=
 ⟨fun a w ho o h1 h2 K Q hK=>by
  have hs:=hs ho.has
  have hc:=hs.calls w ho.sat
  have hargs:=ho.ev.evals hxs
  have hr:(execOp a.eval ⟨none,.call ⟨.value (.func f),xs.toArray,ats⟩,ty, "", #[],none⟩).run P w = .ok (.enter f args.toArray) w:=by
   simp [execOp,resolve,invoke,Deferred.ofValue,Act.eval,hargs,b2O hs.enters]
  subst h2
  unfold Oper.wp
  rw [b0K,h1,hr]
  refine hc.mono ?_
  rintro x w' ⟨r,hg,rfl,hx,hsat⟩
  exact hK _ _ _ (h r hg) hx hsat⟩
theorem a3J {co:Code} {H2:List Hl} (hE:∀ h,stars H h→stars H2 h) (h:St P co k n e W H2):St P co k n e W H:=⟨fun a w ho=>h.out a w ⟨ho.ev,ho.ext,ho.sat.mono hE⟩⟩
theorem b2B (T:TypeId) (s:Nat):∀ h,stars H h→stars (.row T s (.slice none 0 0) 0 []::H) h:=fun h hh=>⟨fun _=>none,h,fun _ => .inl rfl,fun _ _ e=>(by cases e),.refl _,⟨by simp,.inl ⟨rfl,rfl,fun _=>rfl⟩⟩,hh⟩
theorem a4Z {b m cp:Nat} {cs:List Value} {H':List Hl} (s:Sel H (.box b T cs) H') (hcp:cs.length=cp) (hm:m≤cp) (hb:cp≤9223372036854775807):∀ h,stars H h→stars (.row T 1 (.slice (some ⟨b,0,none⟩) m cp) m (cs.take m)::H') h:=by
 subst hcp
 exact fun h hh=>a0U (s.out h hh) (fun h hb'=>ent_box_row hm hb hb') (fun _ a=>a)
end
end Go.Dp
