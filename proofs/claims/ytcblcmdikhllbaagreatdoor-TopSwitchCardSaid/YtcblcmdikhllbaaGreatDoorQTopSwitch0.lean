/-
  The ground of these proofs: a walk by one small lemma an operation, over a frame that is a list of slots and a memory that is a list of separate pieces.
  What is to be shown of a piece of code, its frame a list of slots, its memory a list of pieces; sequence, branch, block, loop, return; a call by its contract.
  The operations, one lemma each: numbers, slots, boxes.
  The operations on memory, one lemma each: boxes, rows that the call owns, slices that are read.
  The operations on numbers, one lemma each: int by bounds, the unsigned kinds by rows of bits.
  The operations on slices, arrays and strings, one lemma each; calls by their contracts.
  Pieces of memory found by their names.
  A region that draws its order: each operation is shown for itself, whatever of the others has been done; then all have been done.
  A region that draws its order, step by step.
  Numbers from kind to kind, literals of slices, rows that begin as nil, texts against a constant.
  More operations: several cells stored at once, numbers of either kind by bounds, tests on bools, nil slices.
  A row's input, opened: what each parameter's data say of its value and of memory; and the way back: memory of before stands behind the call.
  More operations, as they were needed: tests whose outcome is told, results that stand in a box.
  A region that draws its order, told in stages: what changes memory comes in one order that all keep; the rest gives one value, whenever it is its turn.
  A region that draws its order, in stages: the steps of the walk.
  The builtin copy into a box.
  Rows of bytes in any number: the slices of a slice of slices, each with a row of its own.
  Arrays that stand in a box of their own, loaded and stored whole.
  Small helpers: rows at the end of a piece of code, slices from somewhere on, lists of bytes combined.
  Pieces shut into one that is read, and opened again.
  A row of one's own, written into; one of many rows taken out and put back.
  Noughts appended to a row of one's own.
  A region that draws its order, in stages, where two operations that change memory may come in either order.
  An operation whose guard's own operation was passed over; elements of an array in a box at a place that is told.
  Conditions: those that stand in each theorem.
-/
import Derived.WalkKit
import Derived.Maps.AppendAt
import Derived.Laws.CopyRow
import Derived.Laws.MakeOwn
import Derived.Laws.Cells
import Derived.Laws.BytesString
import Derived.Laws.Strings
import Derived.Orders
import Derived.WalkSpells
import Derived.ProofKit
import Derived.OpenShut
import Derived.ShutString
import Derived.ChangeOld
import Derived.Below
import Derived.SizedLaws
import Derived.Laws.Concat
import Derived.Lib.AppendZerosOnto
set_option linter.unusedVariables false
set_option linter.unusedSimpArgs false
namespace Go.Dp
open Go.RowKit
abbrev Ev:=List (Nat × Value)
def look:Ev→Nat→Option Value
 | [],_=>none
 | (k,v)::l,t=>bif Nat.beq k t then some v else look l t
def opd (e:Ev):Operand→Option Value
 | .tmp t=>look e t
 | .const v=>some v
 | .global g=>some (.pointer (some ⟨g,0,none⟩))
 | .func f=>some (.func (.func f) #[] #[])
structure EvOk (a:Act) (n:Nat) (e:Ev):Prop where
 size:a.tmps.size=n
 defers:a.defers=[]
 get:∀ t v,look e t=some v→a.tmps[t]?=some v
theorem EvOk.eval {a:Act} {n:Nat} {e:Ev} (h:EvOk a n e) {x:Operand} {v:Value} (hx:opd e x=some v):a.eval x=v:=by
 cases x with
 | tmp t=>have:=h.get t v hx;simp [Act.eval,this]
 | const u=>simpa [opd,Act.eval] using hx
 | global g=>simpa [opd,Act.eval] using hx
 | func f=>simpa [opd,Act.eval] using hx
theorem EvOk.put {a:Act} {n:Nat} {e:Ev} (h:EvOk a n e) {d:Nat} (hd:Nat.blt d n=true) (v:Value):EvOk (a.put (some d) v) n ((d,v)::e):=by
 have hd':d<n:=by simpa [Nat.blt_eq] using hd
 refine ⟨by simp [Act.put,h.size],by simp [Act.put,h.defers],?_⟩
 intro t u hl
 simp only [look] at hl
 by_cases he:d=t
 ·subst he
  rw [show Nat.beq d d=true from by simp] at hl
  simp only [cond_true,Option.some.injEq] at hl
  subst hl
  simp [Act.put,h.size,hd']
 ·have:Nat.beq d t=false:=by
   cases hb:Nat.beq d t
   ·rfl
   ·exact absurd (Nat.eq_of_beq_eq_true hb) he
  rw [this] at hl
  simp only [cond_false] at hl
  have:=h.get t u hl
  simp [Act.put,he,this]
theorem EvOk.put_none {a:Act} {n:Nat} {e:Ev} (h:EvOk a n e) (v:Value):EvOk (a.put none v) n e:=h
def Covers (e:Ev):Ev→Prop
 | []=>True
 | (t,v)::l=>look e t=some v∧Covers e l
theorem Covers.look {e:Ev}:∀ {l:Ev},Covers e l→∀ t v,look l t=some v→look e t=some v
 | [],_,t,v,h=>by simp [Dp.look] at h
 | (k,u)::l,h,t,v,hl=>by
  simp only [Dp.look] at hl
  cases hb:Nat.beq k t
  ·rw [hb] at hl;exact Covers.look h.2 t v hl
  ·rw [hb] at hl
   simp only [cond_true,Option.some.injEq] at hl
   subst hl
   have:=Nat.eq_of_beq_eq_true hb
   subst this
   exact h.1
theorem EvOk.covers {a:Act} {n:Nat} {e l:Ev} (h:EvOk a n e) (hc:Covers e l):EvOk a n l:=⟨h.size,h.defers,fun t v hl=>h.get t v (hc.look t v hl)⟩
theorem cov_nil {e:Ev}:Covers e []:=trivial
theorem cov_cons {e l:Ev} {t:Nat} {v v':Value} (h:look e t=some v') (hv:v'=v) (hl:Covers e l):Covers e ((t,v)::l):=⟨hv ▸ h,hl⟩
abbrev Hp:=Nat→Option Obj
def one (b:Nat) (o:Obj):Hp:=fun i=>if i=b then some o else none
def Sub (h1 h:Hp):Prop:=∀ i o,h1 i=some o→h i=some o
theorem Sub.refl (h:Hp):Sub h h:=fun _ _ e=>e
theorem Sub.trans {a b c:Hp} (h:Sub a b) (k:Sub b c):Sub a c:=fun i o e=>k i o (h i o e)
def Dis (h1 h2:Hp):Prop:=∀ i,h1 i=none∨h2 i=none
theorem Dis.symm {a b:Hp} (h:Dis a b):Dis b a:=fun i=>(h i).symm
def sep (A B:Hp→Prop):Hp→Prop:=fun h=>∃ h1 h2,Dis h1 h2∧Sub h1 h∧Sub h2 h∧A h1∧B h2
inductive Hl where
 | box (b:Nat) (T:TypeId) (cs:List Value)
 | row (T:TypeId) (size:Nat) (v:Value) (n:Nat) (xs:List Value)
 | any (A:Hp→Prop)
def rowHp (T:TypeId) (size:Nat) (v:Value) (n:Nat) (xs:List Value) (h:Hp):Prop :=
 xs.length=n*size∧((v = .slice none 0 0∧n=0∧∀ i,h i=none) ∨
  ∃ g cap cur,v = .slice (some ⟨g,0,none⟩) n cap∧h=one g (.cells cur T (0,0))∧n≤cap∧cap≤maxLen∧cur.size=cap*size∧cur.toList.take (n*size)=xs)
def Hl.den:Hl→Hp→Prop
 | .box b T cs=>fun h=>h=one b (.cells cs.toArray T (0,0))
 | .row T size v n xs=>rowHp T size v n xs
 | .any A=>A
def stars:List Hl→Hp→Prop
 | []=>fun _=>True
 | x::L=>sep x.den (stars L)
def sat (w:World) (A:Hp→Prop):Prop:=∃ h:Hp,(∀ i o,h i=some o→w.heap[i]?=some o)∧A h
structure Ext (W w:World):Prop where
 os:w.os=W.os
 tape:w.tape=W.tape
 output:w.output=W.output
 size:W.heap.size≤w.heap.size
theorem Ext.refl (w:World):Ext w w:=⟨rfl,rfl,rfl,Nat.le_refl _⟩
theorem Ext.trans {a b c:World} (h:Ext a b) (k:Ext b c):Ext a c:=⟨k.os.trans h.os,k.tape.trans h.tape,k.output.trans h.output,Nat.le_trans h.size k.size⟩
theorem Ext.drew {a b:World} (h:Ext a b):Ext a b.drew:=⟨h.os,h.tape,h.output,h.size⟩
theorem Ext.alloc {a b:World} (h:Ext a b) (o:Obj):Ext a (b.alloc o):=⟨h.os,h.tape,h.output,by have:=h.size;simp;omega⟩
theorem Ext.setCell {a b:World} (h:Ext a b) (p:Addr) (v:Value):Ext a (b.setCell p v):=⟨h.os,h.tape,h.output,by have:=h.size;simpa using this⟩
theorem sat.drew {w:World} {A:Hp→Prop} (h:sat w A):sat w.drew A:=h
theorem sat.mono {w:World} {A B:Hp→Prop} (h:sat w A) (hab:∀ h,A h→B h):sat w B:=let ⟨x,a,b⟩:=h;⟨x,a,hab _ b⟩
theorem sep_comm {A B:Hp→Prop} {h:Hp} (x:sep A B h):sep B A h:=let ⟨h1,h2,hd,s1,s2,a,b⟩:=x;⟨h2,h1,hd.symm,s2,s1,b,a⟩
theorem sep_up {A B:Hp→Prop} {h h':Hp} (x:sep A B h) (s:Sub h h'):sep A B h':=let ⟨h1,h2,hd,s1,s2,a,b⟩:=x;⟨h1,h2,hd,s1.trans s,s2.trans s,a,b⟩
theorem sep_assoc {A B C:Hp→Prop} {h:Hp} (x:sep (sep A B) C h):sep A (sep B C) h:=by
 obtain ⟨h12,h3,hd,s12,s3,⟨h1,h2,hd',s1,s2,ha,hb⟩,hc⟩:=x
 have e1:∀ i,h12 i=none→h1 i=none:=fun i e=>by
  cases h:h1 i with
  | none=>rfl
  | some o=>rw [s1 i o h] at e;cases e
 have e2:∀ i,h12 i=none→h2 i=none:=fun i e=>by
  cases h:h2 i with
  | none=>rfl
  | some o=>rw [s2 i o h] at e;cases e
 have d13:Dis h1 h3:=fun i=>(hd i).imp_left (e1 i)
 have d23:Dis h2 h3:=fun i=>(hd i).imp_left (e2 i)
 refine ⟨h1,fun i=>(h2 i).or (h3 i),fun i=>?_,s1.trans s12,fun i o e=>?_,ha,h2,h3,d23,fun i o e=>by simp [e],fun i o e=>?_,hb,hc⟩
 ·rcases d13 i with e|e
  ·exact .inl e
  ·rcases hd' i with e' | e'
   ·exact .inl e'
   ·right;simp [e,e']
 ·have e:(h2 i).or (h3 i)=some o:=e
  cases h:h2 i with
  | none=>rw [h] at e;exact s3 i o (by simpa using e)
  | some q=>rw [h] at e;simp only [Option.some_or,Option.some.injEq] at e;subst e;exact s12 _ _ (s2 _ _ h)
 ·rcases d23 i with h|h
  ·simp [h,e]
  ·rw [h] at e;cases e
theorem sep_assoc' {A B C:Hp→Prop} {h:Hp} (x:sep A (sep B C) h):sep (sep A B) C h:=by
 have flip:∀ h,sep B C h→sep C B h:=fun h=>sep_comm
 obtain ⟨h1,h23,hd,s1,s23,ha,hbc⟩:=x
 have y:sep (sep C B) A h:=⟨h23,h1,hd.symm,s23,s1,sep_comm hbc,ha⟩
 obtain ⟨h3,h21,hd2,s3,s21,hc,hba⟩:=sep_assoc y
 exact ⟨h21,h3,hd2.symm,s21,s3,sep_comm hba,hc⟩
theorem sep_mono {A B A' B':Hp→Prop} {h:Hp} (x:sep A B h) (ha:∀ h,A h→A' h) (hb:∀ h,B h→B' h):sep A' B' h:=by
 obtain ⟨h1,h2,hd,s1,s2,a,b⟩:=x
 exact ⟨h1,h2,hd,s1,s2,ha _ a,hb _ b⟩
theorem stars_up:∀ {L:List Hl} {h h':Hp},stars L h→Sub h h'→stars L h'
 | [],_,_,_,_=>trivial
 | _::_,_,_,x,s=>sep_up x s
theorem sep_left {A B:Hp→Prop} {w:World} (x:sat w (sep A B)):sat w A:=by
 obtain ⟨h,hw,h1,h2,hd,s1,s2,a,b⟩:=x
 exact ⟨h1,fun i o e=>hw i o (s1 i o e),a⟩
theorem sep_right {A B:Hp→Prop} {w:World} (x:sat w (sep A B)):sat w B:=sep_left (x.mono fun _=>sep_comm)
inductive Sel:List Hl→Hl→List Hl→Prop
 | here {x:Hl} {H:List Hl}:Sel (x::H) x H
 | there {x y:Hl} {H H':List Hl} (h:Sel H x H'):Sel (y::H) x (y::H')
theorem Sel.out {H H':List Hl} {x:Hl} (s:Sel H x H'):∀ h,stars H h→stars (x::H') h:=by
 induction s with
 | here=>exact fun _ h=>h
 | there s ih =>
  intro h hs
  have:=sep_mono hs (fun _ a=>a) ih
  exact sep_assoc (sep_mono (sep_assoc' this) (fun _=>sep_comm) (fun _ a=>a))
inductive Upd:List Hl→Hl→Hl→List Hl→Prop
 | here {x y:Hl} {H:List Hl}:Upd (x::H) x y (y::H)
 | there {x y z:Hl} {H H':List Hl} (h:Upd H x y H'):Upd (z::H) x y (z::H')
theorem Upd.out {H H':List Hl} {x y:Hl} (s:Upd H x y H'):∃ R:Hp→Prop,(∀ h,stars H h→sep x.den R h)∧(∀ h,sep y.den R h→stars H' h):=by
 induction s with
 | here=>exact ⟨_,fun _ h=>h,fun _ h=>h⟩
 | @there x y z H H' s ih =>
  obtain ⟨R,h1,h2⟩:=ih
  refine ⟨sep z.den R,fun h hs=>?_,fun h hs=>?_⟩
  ·exact sep_assoc (sep_mono (sep_assoc' (sep_mono hs (fun _ a=>a) h1)) (fun _=>sep_comm) (fun _ a=>a))
  ·exact sep_mono (sep_assoc (sep_mono (sep_assoc' hs) (fun _=>sep_comm) (fun _ a=>a))) (fun _ a=>a) h2
inductive Ent:List Hl→List Hl→Prop
 | nil {H:List Hl}:Ent H []
 | cons {H H' K:List Hl} {x:Hl} (s:Sel H x H') (h:Ent H' K):Ent H (x::K)
theorem Ent.out {H K:List Hl} (s:Ent H K):∀ h,stars H h→stars K h:=by
 induction s with
 | nil=>exact fun _ _=>trivial
 | cons s _ ih=>exact fun h hs=>sep_mono (s.out h hs) (fun _ a=>a) ih
theorem Ent.refl:∀ H:List Hl,Ent H H
 | [] => .nil
 | _::H => .cons .here (Ent.refl H)
theorem sat.any {w:World} {H:List Hl} (h:sat w (stars H)):sat w (stars [.any (stars H)]):=h.mono fun x hx=>⟨x,fun _=>none,fun _ => .inr rfl,.refl _,fun _ _ e=>(by cases e),hx,trivial⟩
theorem stars_append:∀ (A B:List Hl) (h:Hp),stars (A++B) h→sep (stars A) (stars B) h
 | [],_,h,hs=>⟨fun _=>none,h,fun _ => .inl rfl,fun _ _ e=>(by cases e),.refl _,trivial,hs⟩
 | _::A,B,_,hs=>sep_assoc' (sep_mono hs (fun _ a=>a) (stars_append A B))
theorem stars_append':∀ (A B:List Hl) (h:Hp),sep (stars A) (stars B) h→stars (A++B) h
 | [],B,h,⟨h1,h2,hd,s1,s2,_,hb⟩=>stars_up (L:=B) hb s2
 | _::A,B,_,hs=>sep_mono (sep_assoc hs) (fun _ a=>a) (stars_append' A B)
inductive Kon where
 | fn (f:Func) (R:Ending→World→Prop)
 | seq (y:Code) (k:Kon)
 | blk (id:Nat) (k:Kon)
 | rounds (c:Code) (m:Nat) (k:Kon)
 | cut (I:Act→World→Prop) (k:Kon)
def Kon.post (P:Program):Kon→Exit→Act→World→Prop
 | .fn f R=>bodyPost P f R
 | .seq y k=>Exit.then (y.wp P (k.post P)) (k.post P)
 | .blk id k=>Exit.inBlock id (k.post P)
 | .rounds c m k=>Exit.then (Code.rounds P c (k.post P) m) (k.post P)
 | .cut I k=>Exit.then I (k.post P)
structure Ok (W:World) (n:Nat) (e:Ev) (H:List Hl) (a:Act) (w:World):Prop where
 ev:EvOk a n e
 ext:Ext W w
 sat:sat w (stars H)
structure Ls (P:Program) (ops:Array Oper) (k:Kon) (rest:List Oper) (n:Nat) (e:Ev) (W:World) (H:List Hl):Prop where
 mk::(out:∀ a w,Ok W n e H a w→wpList P ops (k.post P) rest a w)
structure St (P:Program) (c:Code) (k:Kon) (n:Nat) (e:Ev) (W:World) (H:List Hl):Prop where
 mk::(out:∀ a w,Ok W n e H a w→c.wp P (k.post P) a w)
structure Nx (P:Program) (k:Kon) (n:Nat) (e:Ev) (W:World) (H:List Hl):Prop where
 mk::(out:∀ a w,Ok W n e H a w→k.post P .normal a w)
structure Xt (P:Program) (id:Nat) (k:Kon) (n:Nat) (e:Ev) (W:World) (H:List Hl):Prop where
 mk::(out:∀ a w,Ok W n e H a w→k.post P (.exit id) a w)
structure Rt (P:Program) (k:Kon) (n:Nat) (e:Ev) (W:World) (H:List Hl):Prop where
 mk::(out:∀ a w,Ok W n e H a w→k.post P .ret a w)
section
variable {P:Program} {ops:Array Oper} {k:Kon} {rest:List Oper} {n:Nat} {e:Ev} {W:World} {H:List Hl}
theorem st_seq {x y:Code} (h:St P x (.seq y k) n e W H):St P (.seq x y) k n e W H:=⟨fun a w ho=>wp_seq (h.out a w ho)⟩
theorem st_cond_t {x:Operand} {c d:Code} (hx:opd e x=some (.bool true)) (h:St P c k n e W H):St P (.cond x c d) k n e W H:=⟨fun a w ho=>wp_cond_true (ho.ev.eval hx) (h.out a w ho)⟩
theorem st_cond_f {x:Operand} {c d:Code} (hx:opd e x=some (.bool false)) (h:St P d k n e W H):St P (.cond x c d) k n e W H:=⟨fun a w ho=>wp_cond_false (ho.ev.eval hx) (h.out a w ho)⟩
theorem st_cond {x:Operand} {c d:Code} {b:Bool} (hx:opd e x=some (.bool b)) (ht:b=true→St P c k n e W H) (hf:b=false→St P d k n e W H):St P (.cond x c d) k n e W H:=by
 cases b
 ·exact st_cond_f hx (hf rfl)
 ·exact st_cond_t hx (ht rfl)
theorem st_block {id:Nat} {c:Code} (h:St P c (.blk id k) n e W H):St P (.block id c) k n e W H:=⟨fun a w ho=>wp_block (h.out a w ho)⟩
theorem st_skip (h:Nx P k n e W H):St P .skip k n e W H:=⟨fun a w ho=>wp_skip (h.out a w ho)⟩
theorem st_ret (h:Rt P k n e W H):St P .ret k n e W H:=⟨fun a w ho=>wp_ret (h.out a w ho)⟩
theorem st_exit {id:Nat} (h:Xt P id k n e W H):St P (.exit id) k n e W H:=⟨fun a w ho=>wp_exit (h.out a w ho)⟩
theorem st_region {id:Nat} {l:List Oper} (h:Ls P l.toArray k l n e W H):St P (.region id l.toArray false) k n e W H:=⟨fun a w ho=>wp_region_lit (h.out a w ho)⟩
theorem ls_nil (h:Nx P k n e W H):Ls P ops k [] n e W H:=⟨fun a w ho=>wpList_nil (h.out a w ho)⟩
theorem nx_seq {y:Code} (h:St P y k n e W H):Nx P (.seq y k) n e W H:=⟨fun a w ho=>h.out a w ho⟩
theorem nx_blk {id:Nat} (h:Nx P k n e W H):Nx P (.blk id k) n e W H:=⟨fun a w ho=>h.out a w ho⟩
theorem nx_rounds {c:Code} {m:Nat} (h:St P c (.rounds c m k) n e W H):Nx P (.rounds c (m+1) k) n e W H:=⟨fun a w ho=>h.out a w ho⟩
theorem xt_seq {id:Nat} {y:Code} (h:Xt P id k n e W H):Xt P id (.seq y k) n e W H:=⟨fun a w ho=>h.out a w ho⟩
theorem xt_rounds {id m:Nat} {y:Code} (h:Xt P id k n e W H):Xt P id (.rounds y m k) n e W H:=⟨fun a w ho=>h.out a w ho⟩
theorem xt_cut {id:Nat} {I:Act→World→Prop} (h:Xt P id k n e W H):Xt P id (.cut I k) n e W H:=⟨fun a w ho=>h.out a w ho⟩
theorem xt_here {id:Nat} (h:Nx P k n e W H):Xt P id (.blk id k) n e W H:=⟨fun a w ho=>by
 show Exit.inBlock id (k.post P) (.exit id) a w
 simp only [Exit.inBlock,if_true]
 exact h.out a w ho⟩
theorem xt_on {id id':Nat} (hne:Nat.beq id id'=false) (h:Xt P id k n e W H):Xt P id (.blk id' k) n e W H:=⟨fun a w ho=>by
 show Exit.inBlock id' (k.post P) (.exit id) a w
 have:id≠id':=fun e=>by subst e;simp at hne
 simp only [Exit.inBlock,this,if_false]
 exact h.out a w ho⟩
theorem rt_seq {y:Code} (h:Rt P k n e W H):Rt P (.seq y k) n e W H:=⟨fun a w ho=>h.out a w ho⟩
theorem rt_rounds {m:Nat} {y:Code} (h:Rt P k n e W H):Rt P (.rounds y m k) n e W H:=⟨fun a w ho=>h.out a w ho⟩
theorem rt_cut {I:Act→World→Prop} (h:Rt P k n e W H):Rt P (.cut I k) n e W H:=⟨fun a w ho=>h.out a w ho⟩
theorem rt_blk {id:Nat} (h:Rt P k n e W H):Rt P (.blk id k) n e W H:=⟨fun a w ho=>h.out a w ho⟩
theorem Ok.mono {W:World} {n:Nat} {e e':Ev} {H H':List Hl} {a:Act} {w:World} (h:Ok W n e H a w) (hc:Covers e e') (hH:Ent H H'):Ok W n e' H' a w:=⟨h.ev.covers hc,h.ext,h.sat.mono hH.out⟩
theorem st_rounds {c:Code} (m:Nat) (h:St P c (.rounds c m k) n e W H):St P (.loop c) k n e W H:=⟨fun a w ho=>wp_loop_rounds (m+1) (h.out a w ho)⟩
theorem least {p:Nat→Prop} (h:∃ m,p m):∃ m,p m∧∀ m',m'<m → ¬ p m':=by
 obtain ⟨m,hm⟩:=h
 induction m using Nat.strongRecOn with
 | _ m ih =>
  by_cases hx:∃ m',m'<m∧p m'
  ·obtain ⟨m',hlt,hp⟩:=hx
   exact ih m' hlt hp
  ·exact ⟨m,hm,fun m' hlt hp=>hx ⟨m',hlt,hp⟩⟩
theorem wp_loop_any {Q:Exit→Act→World→Prop} {c:Code} {a:Act} {w:World} (I:Nat→Act→World→Prop) (h0:∃ m,I m a w)
  (round:∀ m a w,I m a w→c.wp P (Exit.then (fun a' w'=>∃ m',m'<m∧I m' a' w') Q) a w):(Code.loop c).wp P Q a w:=by
 classical
 refine wp_loop (fun a w=>∃ m,I m a w) (fun a w=>if h:∃ m,I m a w then Classical.choose (least h) else 0) h0 ?_
 intro a w h
 have hs:=Classical.choose_spec (least h)
 refine wp_mono (round _ a w hs.1) ?_
 intro x a' w' hx
 cases x with
 | normal =>
  obtain ⟨m',hlt,hI⟩:=hx
  refine ⟨⟨m',hI⟩,?_⟩
  have hex:∃ m,I m a' w':=⟨m',hI⟩
  simp only [dif_pos h,dif_pos hex]
  have hs':=Classical.choose_spec (least hex)
  refine Nat.lt_of_le_of_lt ?_ hlt
  rcases Nat.lt_or_ge m' (Classical.choose (least hex)) with hc|hc
  ·exact absurd hI (hs'.2 m' hc)
  ·exact hc
 | exit id=>exact hx
 | goto l=>exact hx
 | ret=>exact hx
 | panic ch=>exact hx
 | outgrown=>exact hx
def Again {S:Type} (W:World) (n:Nat) (env:S→Ev) (hp:S→List Hl) (I:S→Prop) (μ:S→Nat) (s:S) (a:Act) (w:World):Prop:=∃ s',I s'∧μ s'<μ s∧Ok W n (env s') (hp s') a w
theorem st_loop {S:Type} {c:Code} (env:S→Ev) (hp:S→List Hl) (I:S→Prop) (μ:S→Nat) (s:S) (h0:I s) (hc:Covers e (env s)) (hH:Ent H (hp s))
  (round:∀ s,I s→St P c (.cut (Again W n env hp I μ s) k) n (env s) W (hp s)):St P (.loop c) k n e W H:=⟨fun a w ho=>by
 refine wp_loop_any (fun m a w=>∃ s,μ s=m∧I s∧Ok W n (env s) (hp s) a w) ⟨_,s,rfl,h0,ho.mono hc hH⟩ ?_
 rintro m a w ⟨s,rfl,hI,ho⟩
 refine wp_mono ((round s hI).out a w ho) ?_
 intro x a' w' hx
 cases x with
 | normal =>
  obtain ⟨s',hI',hlt,ho'⟩:=hx
  exact ⟨μ s',hlt,s',rfl,hI',ho'⟩
 | exit id=>exact hx
 | goto l=>exact hx
 | ret=>exact hx
 | panic ch=>exact hx
 | outgrown=>exact hx⟩
theorem nx_again {S:Type} {env:S→Ev} {hp:S→List Hl} {I:S→Prop} {μ:S→Nat} {s:S} (s':S) (hI:I s') (hlt:μ s'<μ s) (hc:Covers e (env s')) (hH:Ent H (hp s')):Nx P (.cut (Again W n env hp I μ s) k) n e W H :=
 ⟨fun a w ho=>⟨s',hI,hlt,ho.mono hc hH⟩⟩
structure Spec (P:Program) (f:FuncId) (args:List Value) (H:List Hl) {X:Type} (good:X→Prop) (val:X→Value) (res:X→List Hl):Prop where
 enters:(P.funcs[f]?).map (fun fn=>(fn.name == "runtime.NumGoroutine",fn.body.isNone))=some (false,false)
 calls:∀ w,sat w (stars H)→Calls P f args.toArray w fun x w'=>∃ r,good r∧x = .returned (val r)∧Ext w w'∧sat w' (stars (res r))
theorem Spec.mono {f:FuncId} {args:List Value} {X Y:Type} {good:X→Prop} {val:X→Value} {res:X→List Hl} {good':Y→Prop} {val':Y→Value} {res':Y→List Hl}
  (h:Spec P f args H good val res) (g:∀ x,good x→∃ y,good' y∧val x=val' y∧Ent (res x) (res' y)):Spec P f args H good' val' res' :=
 ⟨h.enters,fun w hs=>(h.calls w hs).mono fun e w' ⟨x,hg,he,hx,hsat⟩=>by
  obtain ⟨y,hy,hv,hE⟩:=g x hg
  exact ⟨y,hy,hv ▸ he,hx,hsat.mono hE.out⟩⟩
def slots:Nat→List Value→Ev
 | _,[]=>[]
 | i,v::l=>(i,v)::slots (i+1) l
theorem look_slots:∀ (l:List Value) (i t:Nat) (v:Value),look (slots i l) t=some v→i≤t∧l[t - i]?=some v
 | [],i,t,v,h=>by simp [slots,look] at h
 | u::l,i,t,v,h=>by
  simp only [slots,look] at h
  cases hb:Nat.beq i t
  ·rw [hb] at h
   obtain ⟨h1,h2⟩:=look_slots l (i+1) t v h
   refine ⟨by omega,?_⟩
   rw [show t - i=(t - (i+1))+1 from by omega]
   simpa using h2
  ·rw [hb] at h
   have:=Nat.eq_of_beq_eq_true hb
   subst this
   simp only [cond_true,Option.some.injEq] at h
   subst h
   simp
theorem spec_of {f:FuncId} {fn:Func} {c:Code} {args:List Value} {X:Type} {good:X→Prop} {val:X→Value} {res:X→List Hl} (m:Nat)
  (hf:P.funcs[f]?=some fn) (hb:fn.body=some c) (hm:fn.ntmps=m) (hname:(fn.name == "runtime.NumGoroutine")=false) (hle:Nat.ble args.length m=true)
  (h:∀ W,St P c (.fn fn fun x w'=>∃ r,good r∧x = .returned (val r)∧Ext W w'∧sat w' (stars (res r))) m (slots 0 args) W H):Spec P f args H good val res:=by
 refine ⟨by simp [hf,hb,hname],fun w hs=>calls_of_wp hf hb ?_⟩
 have hle':args.length≤m:=by simpa using hle
 refine (h w).out _ w ⟨⟨by simp [hm];omega,rfl,fun t v hl=>?_⟩,.refl _,hs⟩
 obtain ⟨_,h2⟩:=look_slots args 0 t v hl
 simp only [Nat.sub_zero] at h2
 have hlt:t<args.length:=by
  rcases Nat.lt_or_ge t args.length with h|h
  ·exact h
  ·rw [List.getElem?_eq_none h] at h2;cases h2
 have h3:args[t]=v:=by simpa [List.getElem?_eq_getElem hlt] using h2
 simp [Array.getElem?_append,hlt,h3]
theorem rt_fn {X:Type} {fn:Func} {good:X→Prop} {val:X→Value} {res:X→List Hl} {v:Value} (hr:∀ a w,Ok W n e H a w→(results fn a.tmps).run P w = .ok v w) (r:X) (hg:good r) (hv:v=val r) (hE:Ent H (res r)) :
  Rt P (.fn fn fun x w'=>∃ r,good r∧x = .returned (val r)∧Ext W w'∧sat w' (stars (res r))) n e W H :=
 ⟨fun a w ho=>⟨ho.ev.defers,v,hr a w ho,r,hg,by rw [hv],ho.ext,ho.sat.mono hE.out⟩⟩
theorem nx_fn {fn:Func} {R:Ending→World→Prop} (h:Rt P (.fn fn R) n e W H):Nx P (.fn fn R) n e W H:=⟨fun a w ho=>h.out a w ho⟩
end
class TInt (P:Program) (t:TypeId) (k:outParam IntKind):Prop where u:P.underlying t=some (.int k)
class TBool (P:Program) (t:TypeId):Prop where u:P.underlying t=some .bool
class TStr (P:Program) (t:TypeId):Prop where u:P.underlying t=some .string
class TSl (P:Program) (t:TypeId) (e:outParam TypeId):Prop where u:P.underlying t=some (.slice e)
class TPtr (P:Program) (t:TypeId) (e:outParam TypeId):Prop where u:P.underlying t=some (.pointer e)
class TArr (P:Program) (t:TypeId) (m:outParam Nat) (e:outParam TypeId):Prop where u:P.underlying t=some (.array m e)
class TInf (P:Program) (t:TypeId) (z:outParam Value) (s by_:outParam Nat):Prop where i:(P.info? t).map (fun i=>(i.zero,i.size,i.bytes))=some (some z,s,by_)
class TOne (P:Program) (t:TypeId):Prop where u:(match P.underlying t with|some (.struct _)|some (.array _ _)|none=>false|_=>true)=true
class TAgg (P:Program) (t:TypeId):Prop where u:(match P.underlying t with|some (.struct _)|some (.array _ _)=>true|_=>false)=true
class TFld (P:Program) (t:TypeId) (j:Nat) (off:outParam Nat) (ft:outParam TypeId):Prop where
 c:(match P.underlying t with|some (.struct fs)=>(fs[j]?).map (fun f=>(f.offset,f.type,((P.info? f.type).map (·.size)).any (· != 0)))|_=>none)=some (off,ft,true)
theorem TFld.u {P:Program} {t:TypeId} {j off:Nat} {ft:TypeId} (h:TFld P t j off ft):∃ fs f,P.underlying t=some (.struct fs)∧fs[j]?=some f∧f.offset=off∧f.type=ft∧((P.info? f.type).map (·.size)).any (· != 0)=true:=by
 have hc:=h.c
 cases hu:P.underlying t with
 | none=>rw [hu] at hc;cases hc
 | some d =>
  rw [hu] at hc
  cases d <;> simp only [reduceCtorEq] at hc
  rename_i fs
  cases hj:fs[j]? with
  | none=>rw [hj] at hc;cases hc
  | some f =>
   rw [hj] at hc
   simp only [Option.map_some,Option.some.injEq,Prod.mk.injEq] at hc
   exact ⟨fs,f,rfl,hj,hc.1,hc.2.1,hc.2.2⟩
theorem run_isAgg_one {P:Program} {t:TypeId} [h:TOne P t] (w:World):(isAgg t).run P w = .ok false w:=by
 have hu:=h.u
 cases hd:P.underlying t with
 | none=>rw [hd] at hu;simp at hu
 | some d =>
  rw [hd] at hu
  unfold isAgg
  simp only [Sem.run_bind,run_underlying hd,Result.andThen_ok]
  cases d <;> simp_all
theorem run_isAgg_agg {P:Program} {t:TypeId} [h:TAgg P t] (w:World):(isAgg t).run P w = .ok true w:=by
 have hu:=h.u
 cases hd:P.underlying t with
 | none=>rw [hd] at hu;simp at hu
 | some d =>
  rw [hd] at hu
  unfold isAgg
  simp only [Sem.run_bind,run_underlying hd,Result.andThen_ok]
  cases d <;> simp_all
theorem TInf.info {P:Program} {t:TypeId} {z:Value} {s b:Nat} (h:TInf P t z s b):∃ i,P.info? t=some i∧i.zero=some z∧i.size=s∧i.bytes=b:=info_parts h.i
theorem run_sizeOf {P:Program} {t:TypeId} {z:Value} {s b:Nat} [h:TInf P t z s b] (w:World):(sizeOf t).run P w = .ok s w:=by
 obtain ⟨i,hi,_,hs,_⟩:=h.info
 simp [sizeOf,typeInfo,hi,hs]
theorem run_zeroValue {P:Program} {t:TypeId} {z:Value} {s b:Nat} [h:TInf P t z s b] (w:World):(zeroValue t).run P w = .ok z w:=by
 obtain ⟨i,hi,hz,_,_⟩:=h.info
 simp [zeroValue,typeInfo,hi,hz]
section
variable {P:Program} {ops:Array Oper} {k:Kon} {rest:List Oper} {n:Nat} {e:Ev} {W:World} {H:List Hl}
structure Ok1 (n:Nat) (e:Ev) (H:List Hl) (a:Act) (w:World):Prop where
 ev:EvOk a n e
 sat:sat w (stars H)
structure O1 (P:Program) (op:Op) (ty:TypeId) (n:Nat) (e:Ev) (H:List Hl) (C:Value→List Hl→Prop):Prop where
 mk::(out:∀ a w,Ok1 n e H a w→∀ o:Oper,o.op=op→o.type=ty→∀ (K:Act→World→Prop) (Q:Exit→Act→World→Prop),(∀ v w' H',C v H'→Ext w w'→sat w' (stars H')→K (a.put o.dst v) w')→o.wp P a w K Q)
theorem execOp_eq (ρ:Operand→Value) (o:Oper):execOp ρ o=execOp ρ ⟨none,o.op,o.type, "", #[],none⟩:=by cases o;rfl
variable {C:Value→List Hl→Prop} {ty:TypeId}
theorem o1_step {op:Op} (h:∀ a w,Ok1 n e H a w→∃ v w',(execOp a.eval ⟨none,op,ty, "", #[],none⟩).run P w = .ok (.value v) w'∧∃ H',C v H'∧Ext w w'∧sat w' (stars H')):O1 P op ty n e H C :=
 ⟨fun a w ho o h1 h2 K Q hK=>by
  obtain ⟨v,w',hr,H',hc,hx,hs⟩:=h a w ho
  subst h1 h2
  unfold Oper.wp
  rw [execOp_eq,hr]
  exact hK v w' H' hc hx hs⟩
theorem o1_step_skip {op:Op} (h:∀ a w,Ok1 n e H a w→∃ w',(execOp a.eval ⟨none,op,ty, "", #[],none⟩).run P w = .ok .skip w'∧∃ H',C undef H'∧Ext w w'∧sat w' (stars H')):O1 P op ty n e H C :=
 ⟨fun a w ho o h1 h2 K Q hK=>by
  obtain ⟨w',hr,H',hc,hx,hs⟩:=h a w ho
  subst h1 h2
  unfold Oper.wp
  rw [execOp_eq,hr]
  exact hK undef w' H' hc hx hs⟩
theorem o1_val {op:Op} (v:Value) (hr:∀ a w,Ok1 n e H a w→(execOp a.eval ⟨none,op,ty, "", #[],none⟩).run P w = .ok (.value v) w) (h:C v H):O1 P op ty n e H C :=
 o1_step fun a w ho=>⟨v,w,hr a w ho,H,h,.refl w,ho.sat⟩
variable {d:Nat} {pos:String} {af:Array Edge} {op:Op}
theorem ls_of (hd:Nat.blt d n=true) (h:O1 P op ty n e H (fun v H'=>Ls P ops k rest n ((d,v)::e) W H')):Ls P ops k (⟨some d,op,ty,pos,af,none⟩::rest) n e W H :=
 ⟨fun a w ho=>wpList_plain rfl fun K hK=>h.out a w ⟨ho.ev,ho.sat⟩ _ rfl rfl K _ fun v w' H' hl hx hs=>hK _ _ (hl.out _ _ ⟨ho.ev.put hd v,ho.ext.trans hx,hs⟩)⟩
theorem ls_of_no (h:O1 P op ty n e H (fun _ H'=>Ls P ops k rest n e W H')):Ls P ops k (⟨none,op,ty,pos,af,none⟩::rest) n e W H :=
 ⟨fun a w ho=>wpList_plain rfl fun K hK=>h.out a w ⟨ho.ev,ho.sat⟩ _ rfl rfl K _ fun v w' H' hl hx hs=>hK _ _ (hl.out _ _ ⟨ho.ev.put_none v,ho.ext.trans hx,hs⟩)⟩
theorem ls_guard_yes {dst:Option Nat} {op:Op} {j:Nat} {b:Bool} {t:Nat} (hj:(ops[j]?).bind (·.dst)=some t) (hl:look e t=some (.bool b)) (h:Ls P ops k (⟨dst,op,ty,pos,af,none⟩::rest) n e W H) :
  Ls P ops k (⟨dst,op,ty,pos,af,some (j,b)⟩::rest) n e W H :=
 ⟨fun a w ho=>by
  have h1:=h.out a w ho
  have hy:yielded ops a.tmps j=some b:=by simp [yielded,hj,ho.ev.get t _ hl]
  unfold wpList at h1 ⊢
  simp only [Region.wanted,if_true] at h1
  simp only [Region.wanted,hy,beq_self_eq_true,if_true]
  exact h1⟩
theorem ls_guard_no {op:Op} {j:Nat} {b b':Bool} {t:Nat} (hd:Nat.blt d n=true) (hj:(ops[j]?).bind (·.dst)=some t) (hl:look e t=some (.bool b')) (hne:(b' == b)=false) (h:Ls P ops k rest n ((d,undef)::e) W H) :
  Ls P ops k (⟨some d,op,ty,pos,af,some (j,b)⟩::rest) n e W H :=
 ⟨fun a w ho=>by
  have hy:yielded ops a.tmps j=some b':=by simp [yielded,hj,ho.ev.get t _ hl]
  have:(some b' == some b)=false:=by simpa using hne
  unfold wpList
  simp only [Region.wanted,hy,this]
  exact h.out _ _ ⟨ho.ev.put hd undef,ho.ext,ho.sat⟩⟩
theorem o1_move {x:Operand} {v:Value} (hx:opd e x=some v) (h:C v H):O1 P (.move x) ty n e H C :=
 o1_val v (fun a w ho=>by simp [execOp,ho.ev.eval hx]) h
theorem o1_assign {x:Operand} {v:Value} (hx:opd e x=some v) (h:C v H):O1 P (.assign x) ty n e H C :=
 o1_val v (fun a w ho=>by simp [execOp,ho.ev.eval hx]) h
theorem o1_pick_t {c x y:Operand} {v:Value} (hc:opd e c=some (.bool true)) (hx:opd e x=some v) (h:C v H):O1 P (.pick c x y) ty n e H C :=
 o1_val v (fun a w ho=>by simp [execOp,ho.ev.eval hc,ho.ev.eval hx,asBool]) h
theorem o1_pick_f {c x y:Operand} {v:Value} (hc:opd e c=some (.bool false)) (hy:opd e y=some v) (h:C v H):O1 P (.pick c x y) ty n e H C :=
 o1_val v (fun a w ho=>by simp [execOp,ho.ev.eval hc,ho.ev.eval hy,asBool]) h
theorem o1_extract {x:Operand} {i:Nat} {vs:Array Value} {v:Value} (hx:opd e x=some (.tuple vs)) (hv:vs.toList[i]?=some v) (h:C v H):O1 P (.extract x i) ty n e H C :=
 o1_val v (fun a w ho=>by
  have hv':vs[i]?=some v:=by simpa using hv
  simp [execOp,ho.ev.eval hx,Instr.extract,hv']) h
theorem o1_nilCheck {x:Operand} {p:Addr} (hx:opd e x=some (.pointer (some p))) (h:C (.pointer (some p)) H):O1 P (.nilCheck x) ty n e H C :=
 o1_val _ (fun a w ho=>by simp [execOp,ho.ev.eval hx]) h
theorem eqGuard_int {op:BinOp} {t:TypeId} {x y:Operand} {k:IntKind} {m:Int} {v:Value}:eqGuard op t x y (.int k m) v=pure ():=eqGuard_at_int ..
theorem o1_cmp {op:BinOp} {t t':TypeId} {x y:Operand} {kd:IntKind} {p q:Int} {b:Bool} (hx:opd e x=some (.int kd p)) (hy:opd e y=some (.int kd q))
  (hr:∀ w,(binOp op t (.int kd p) (.int kd q)).run P w = .ok (.bool b) w) (h:C (.bool b) H):O1 P (.binOp op t x y t') ty n e H C :=
 o1_val _ (fun a w ho=>by simp [execOp,ho.ev.eval hx,ho.ev.eval hy,eqGuard_int,hr]) h
variable {t t':TypeId} {x y:Operand} {kd:IntKind} {p q:Int}
theorem o1_lss_t (hx:opd e x=some (.int kd p)) (hy:opd e y=some (.int kd q)) (hc:p<q) (h:C (.bool true) H):O1 P (.binOp .lss t x y t') ty n e H C :=
 o1_cmp hx hy (fun w=>by simp [binOp_lss,hc]) h
theorem o1_lss_f (hx:opd e x=some (.int kd p)) (hy:opd e y=some (.int kd q)) (hc:q≤p) (h:C (.bool false) H):O1 P (.binOp .lss t x y t') ty n e H C :=
 o1_cmp hx hy (fun w=>by simp [binOp_lss];omega) h
theorem o1_lss (hx:opd e x=some (.int kd p)) (hy:opd e y=some (.int kd q)) (ht:p<q→C (.bool true) H) (hf:q≤p→C (.bool false) H) :
  O1 P (.binOp .lss t x y t') ty n e H C:=by
 rcases Int.lt_or_le p q with c|c
 ·exact o1_lss_t hx hy c (ht c)
 ·exact o1_lss_f hx hy c (hf c)
theorem o1_leq_t (hx:opd e x=some (.int kd p)) (hy:opd e y=some (.int kd q)) (hc:p≤q) (h:C (.bool true) H):O1 P (.binOp .leq t x y t') ty n e H C :=
 o1_cmp hx hy (fun w=>by simp [binOp_leq,hc]) h
theorem o1_leq_f (hx:opd e x=some (.int kd p)) (hy:opd e y=some (.int kd q)) (hc:q<p) (h:C (.bool false) H):O1 P (.binOp .leq t x y t') ty n e H C :=
 o1_cmp hx hy (fun w=>by simp [binOp_leq];omega) h
theorem o1_leq (hx:opd e x=some (.int kd p)) (hy:opd e y=some (.int kd q)) (ht:p≤q→C (.bool true) H) (hf:q<p→C (.bool false) H) :
  O1 P (.binOp .leq t x y t') ty n e H C:=by
 rcases Int.lt_or_le q p with c|c
 ·exact o1_leq_f hx hy c (hf c)
 ·exact o1_leq_t hx hy c (ht c)
theorem o1_gtr_t (hx:opd e x=some (.int kd p)) (hy:opd e y=some (.int kd q)) (hc:q<p) (h:C (.bool true) H):O1 P (.binOp .gtr t x y t') ty n e H C :=
 o1_cmp hx hy (fun w=>by simp [binOp_gtr,hc]) h
theorem o1_gtr_f (hx:opd e x=some (.int kd p)) (hy:opd e y=some (.int kd q)) (hc:p≤q) (h:C (.bool false) H):O1 P (.binOp .gtr t x y t') ty n e H C :=
 o1_cmp hx hy (fun w=>by simp [binOp_gtr];omega) h
theorem o1_gtr (hx:opd e x=some (.int kd p)) (hy:opd e y=some (.int kd q)) (ht:q<p→C (.bool true) H) (hf:p≤q→C (.bool false) H) :
  O1 P (.binOp .gtr t x y t') ty n e H C:=by
 rcases Int.lt_or_le q p with c|c
 ·exact o1_gtr_t hx hy c (ht c)
 ·exact o1_gtr_f hx hy c (hf c)
theorem o1_geq_t (hx:opd e x=some (.int kd p)) (hy:opd e y=some (.int kd q)) (hc:q≤p) (h:C (.bool true) H):O1 P (.binOp .geq t x y t') ty n e H C :=
 o1_cmp hx hy (fun w=>by simp [binOp_geq,hc]) h
theorem o1_geq_f (hx:opd e x=some (.int kd p)) (hy:opd e y=some (.int kd q)) (hc:p<q) (h:C (.bool false) H):O1 P (.binOp .geq t x y t') ty n e H C :=
 o1_cmp hx hy (fun w=>by simp [binOp_geq];omega) h
theorem o1_geq (hx:opd e x=some (.int kd p)) (hy:opd e y=some (.int kd q)) (ht:q≤p→C (.bool true) H) (hf:p<q→C (.bool false) H) :
  O1 P (.binOp .geq t x y t') ty n e H C:=by
 rcases Int.lt_or_le p q with c|c
 ·exact o1_geq_f hx hy c (hf c)
 ·exact o1_geq_t hx hy c (ht c)
theorem o1_eql_t (hx:opd e x=some (.int kd p)) (hy:opd e y=some (.int kd q)) (hc:p=q) (h:C (.bool true) H):O1 P (.binOp .eql t x y t') ty n e H C :=
 o1_cmp hx hy (fun w=>by simp [binOp_eql,hc]) h
theorem o1_eql_f (hx:opd e x=some (.int kd p)) (hy:opd e y=some (.int kd q)) (hc:p≠q) (h:C (.bool false) H):O1 P (.binOp .eql t x y t') ty n e H C :=
 o1_cmp hx hy (fun w=>by simp [binOp_eql,hc]) h
theorem o1_eql (hx:opd e x=some (.int kd p)) (hy:opd e y=some (.int kd q)) (ht:p=q→C (.bool true) H) (hf:p≠q→C (.bool false) H) :
  O1 P (.binOp .eql t x y t') ty n e H C:=by
 by_cases c:p=q
 ·exact o1_eql_t hx hy c (ht c)
 ·exact o1_eql_f hx hy c (hf c)
theorem o1_neq_t (hx:opd e x=some (.int kd p)) (hy:opd e y=some (.int kd q)) (hc:p≠q) (h:C (.bool true) H):O1 P (.binOp .neq t x y t') ty n e H C :=
 o1_cmp hx hy (fun w=>by simp [binOp_neq,hc]) h
theorem o1_neq_f (hx:opd e x=some (.int kd p)) (hy:opd e y=some (.int kd q)) (hc:p=q) (h:C (.bool false) H):O1 P (.binOp .neq t x y t') ty n e H C :=
 o1_cmp hx hy (fun w=>by simp [binOp_neq,hc]) h
theorem o1_neq (hx:opd e x=some (.int kd p)) (hy:opd e y=some (.int kd q)) (ht:p≠q→C (.bool true) H) (hf:p=q→C (.bool false) H) :
  O1 P (.binOp .neq t x y t') ty n e H C:=by
 by_cases c:p=q
 ·exact o1_neq_f hx hy c (hf c)
 ·exact o1_neq_t hx hy c (ht c)
theorem sat.alloc {w:World} {H:List Hl} (h:sat w (stars H)) (T:TypeId) (cs:List Value):sat (w.alloc (.cells cs.toArray T)) (stars (.box w.heap.size T cs::H)):=by
 obtain ⟨x,hw,hx⟩:=h
 have hlt:∀ i o,x i=some o→i<w.heap.size:=fun i o e=>(Array.getElem?_eq_some_iff.1 (hw i o e)).1
 have hdis:Dis (one w.heap.size (.cells cs.toArray T (0,0))) x:=fun i=>by
  by_cases hi:i=w.heap.size
  ·right
   cases he:x i with
   | none=>rfl
   | some o=>exact absurd (hlt i o he) (by omega)
  ·left;simp [one,hi]
 have hs1:Sub (one w.heap.size (.cells cs.toArray T (0,0))) (fun i=>if i=w.heap.size then some (.cells cs.toArray T (0,0)) else x i):=fun i o e=>by
  simp only [one] at e
  by_cases hi:i=w.heap.size
  ·rw [if_pos hi] at e;simp [hi,e]
  ·rw [if_neg hi] at e;cases e
 have hs2:Sub x (fun i=>if i=w.heap.size then some (.cells cs.toArray T (0,0)) else x i):=fun i o e=>by
  have:=hlt i o e
  simp [show i≠w.heap.size from by omega,e]
 refine ⟨_,fun i o e=>?_,_,x,hdis,hs1,hs2,rfl,hx⟩
 by_cases hi:i=w.heap.size
 ·subst hi
  simp only [if_true,Option.some.injEq] at e
  subst e
  exact heap_alloc_new w _
 ·simp only [hi,if_false] at e
  exact (Below.heap_alloc w _ i (hlt i o e)).trans (hw i o e)
theorem sat.cells {w:World} {H H':List Hl} (h:sat w (stars H)) {b:Nat} {T:TypeId} {cs:List Value} (s:Sel H (.box b T cs) H'):w.heap[b]?=some (.cells cs.toArray T (0,0)):=by
 obtain ⟨x,hw,h1,h2,hd,s1,s2,e,_⟩:=h.mono s.out
 refine hw b _ (s1 b _ ?_)
 have e:h1=one b (.cells cs.toArray T (0,0)):=e
 simp [e,one]
theorem sat.cell {w:World} {H H':List Hl} (h:sat w (stars H)) {b:Nat} {T:TypeId} {cs:List Value} (s:Sel H (.box b T cs) H') (i:Nat):w.cell? ⟨b,i,none⟩=cs[i]?:=by
 rw [cell_of_row w b i _ T (0,0) (h.cells s)];simp
theorem sat.set_ {w:World} {H H':List Hl} (h:sat w (stars H)) {b:Nat} {T:TypeId} {cs:List Value} (i:Nat) (v:Value) (s:Upd H (.box b T cs) (.box b T (cs.set i v)) H'):sat (w.setCell ⟨b,i,none⟩ v) (stars H'):=by
 obtain ⟨R,r1,r2⟩:=s.out
 obtain ⟨x,hw,h1,h2,hd,s1,s2,e,hR⟩:=h.mono r1
 have e:h1=one b (.cells cs.toArray T (0,0)):=e
 have hb:w.heap[b]?=some (.cells cs.toArray T (0,0)):=hw b _ (s1 b _ (by simp [e,one]))
 have hb2:h2 b=none:=(hd b).resolve_left (by simp [e,one])
 have hdis:Dis (one b (.cells (cs.set i v).toArray T (0,0))) h2:=fun j=>by
  by_cases hj:j=b
  ·subst hj;exact .inr hb2
  ·left;simp [one,hj]
 have hs1:Sub (one b (.cells (cs.set i v).toArray T (0,0))) (fun j=>if j=b then some (.cells (cs.set i v).toArray T (0,0)) else h2 j):=fun j o e=>by
  simp only [one] at e
  by_cases hj:j=b
  ·rw [if_pos hj] at e;simp [hj,e]
  ·rw [if_neg hj] at e;cases e
 have hs2:Sub h2 (fun j=>if j=b then some (.cells (cs.set i v).toArray T (0,0)) else h2 j):=fun j o ej=>by
  have:j≠b:=fun hj=>by rw [hj,hb2] at ej;cases ej
  simp [this,ej]
 have hnew:sep (Hl.den (.box b T (cs.set i v))) R (fun j=>if j=b then some (.cells (cs.set i v).toArray T (0,0)) else h2 j):=⟨_,h2,hdis,hs1,hs2,rfl,hR⟩
 refine ⟨_,fun j o e=>?_,r2 _ hnew⟩
 by_cases hj:j=b
 ·subst hj
  simp only [if_true,Option.some.injEq] at e
  subst e
  rw [heap_setCell_same w j i _ T v hb]
  simp
 ·simp only [hj,if_false] at e
  rw [heap_setCell_other w _ j v hj]
  exact hw j o (s2 j o e)
end
structure Rs {α:Type} (A:Hp→Prop) (enc:α→Value) (ad:Option Addr) (c:Nat) (l:List α):Prop where
 le:l.length≤c
 big:c≤9223372036854775807
 sm:0<l.length→∃ a,ad=some a
 cell:∀ w,sat w A→∀ a,ad=some a→∀ i x,l[i]?=some x→w.cell? (a.add i)=some (enc x)
structure Cl (A:Hp→Prop) (p:Addr) (v:Value):Prop where
 cell:∀ w,sat w A→w.cell? p=some v
theorem add_add (a:Addr) (i j:Nat):(a.add i).add j=a.add (i+j):=by
 by_cases hi:i=0 <;> by_cases hj:j=0 <;> simp [Addr.add,hi,hj,Nat.add_assoc]
theorem Rs.mono {α:Type} {A B:Hp→Prop} {enc:α→Value} {ad:Option Addr} {c:Nat} {l:List α} (h:Rs A enc ad c l) (hab:∀ w,sat w B→sat w A):Rs B enc ad c l :=
 ⟨h.le,h.big,h.sm,fun w hs=>h.cell w (hab w hs)⟩
theorem sel_sat {H H':List Hl} {A:Hp→Prop} (s:Sel H (.any A) H') (w:World) (h:sat w (stars H)):sat w A:=sep_left (h.mono s.out)
theorem Rs.lift {α:Type} {A:Hp→Prop} {H H':List Hl} {enc:α→Value} {ad:Option Addr} {c:Nat} {l:List α} (s:Sel H (.any A) H') (h:Rs A enc ad c l):Rs (stars H) enc ad c l:=h.mono (sel_sat s)
theorem Rs.map {α β:Type} {A:Hp→Prop} {enc:β→Value} {f:α→β} {ad:Option Addr} {c:Nat} {l:List α} (h:Rs A (fun x=>enc (f x)) ad c l):Rs A enc ad c (l.map f) :=
 ⟨by simpa using h.le,h.big,by simpa using h.sm,fun w hs a ha i x hx=>by
  simp only [List.getElem?_map,Option.map_eq_some_iff] at hx
  obtain ⟨y,hy,rfl⟩:=hx
  exact h.cell w hs a ha i y hy⟩
theorem Rs.vals {α:Type} {A:Hp→Prop} {enc:α→Value} {ad:Option Addr} {c:Nat} {l:List α} (h:Rs A enc ad c l):Rs A id ad c (l.map enc):=Rs.map (enc:=id) h
theorem Rs.unvals {α:Type} {A:Hp→Prop} {enc:α→Value} {ad:Option Addr} {c:Nat} {l:List α} (h:Rs A id ad c (l.map enc)):Rs A enc ad c l :=
 ⟨by simpa using h.le,h.big,by simpa using h.sm,fun w hs a ha i x hx=>h.cell w hs a ha i (enc x) (by simp [hx])⟩
theorem Rs.cut {α:Type} {A:Hp→Prop} {enc:α→Value} {ad:Option Addr} {c:Nat} {l:List α} (h:Rs A enc ad c l) (lo hi mx:Nat) (h1:lo≤hi) (h2:hi≤l.length) (h3:hi≤mx) (h4:mx≤c) :
  Rs A enc (if mx=lo then ad else ad.map (·.add lo)) (mx - lo) ((l.take hi).drop lo):=by
 refine ⟨by simp;omega,by have:=h.big;omega,fun hp=>?_,fun w hs a ha i x hx=>?_⟩
 ·simp at hp
  obtain ⟨a,rfl⟩:=h.sm (by omega)
  split
  ·exact ⟨a,rfl⟩
  ·exact ⟨_,rfl⟩
 ·have hlt:lo+i<hi:=by
   rcases Nat.lt_or_ge (lo+i) hi with h' | h'
   ·exact h'
   ·rw [List.getElem?_eq_none (by simp;omega)] at hx;cases hx
  rw [if_neg (by omega)] at ha
  cases ad with
  | none=>simp at ha
  | some a0 =>
   simp only [Option.map_some,Option.some.injEq] at ha
   subst ha
   rw [add_add]
   refine h.cell w hs a0 rfl (lo+i) x ?_
   rw [List.getElem?_drop,List.getElem?_take] at hx
   simpa [hlt] using hx
theorem Rs.nil {α:Type} {A:Hp→Prop} {enc:α→Value} {ad:Option Addr} {c:Nat} (hc:c≤9223372036854775807):Rs A enc ad c ([]:List α) :=
 ⟨by simp,hc,by simp,fun _ _ _ _ i x hx=>by simp at hx⟩
theorem rowHp_own {T:TypeId} {size n:Nat} {v:Value} {xs:List Value} {h:Hp} (hr:rowHp T size v n xs h) {w:World} (hw:∀ i o,h i=some o→w.heap[i]?=some o):w.ownsRow 0 T size v n xs:=by
 refine ⟨hr.1,?_⟩
 rcases hr.2 with ⟨rfl,rfl,_⟩|⟨g,cap,cur,rfl,rfl,h1,h2,h3,h4⟩
 ·exact .inl ⟨rfl,rfl⟩
 ·exact .inr ⟨g,cap,cur,rfl,by omega,hw g _ (by simp [one]),h1,h2,h3,h4⟩
theorem sat.own {w:World} {H H':List Hl} (h:sat w (stars H)) {T:TypeId} {size n:Nat} {v:Value} {xs:List Value} (s:Sel H (.row T size v n xs) H'):w.ownsRow 0 T size v n xs:=by
 obtain ⟨x,hw,h1,h2,hd,s1,s2,hr,_⟩:=h.mono s.out
 exact rowHp_own hr fun i o e=>hw i o (s1 i o e)
theorem sat.grown {w w':World} {H H':List Hl} (h:sat w (stars H)) {T:TypeId} {size n n':Nat} {v v':Value} {xs xs':List Value} (s:Sel H (.row T size v n xs) H')
  (hown:w'.ownsRow 0 T size v' n' xs') (hg:w.grownBy w' v.ownBlock) (hat:v'.ownBlock=v.ownBlock∨v'.ownBlock=some w.heap.size):sat w' (stars (.row T size v' n' xs'::H')):=by
 obtain ⟨x,hw,h1,h2,hd,s1,s2,hr,hH⟩:=h.mono s.out
 have hlt:∀ i o,h2 i=some o→i<w.heap.size:=fun i o e=>(Array.getElem?_eq_some_iff.1 (hw i o (s2 i o e))).1
 have hne:∀ i o,h2 i=some o→some i≠v.ownBlock:=by
  intro i o e he
  rcases hr.2 with ⟨rfl,_,_⟩|⟨g,cap,cur,rfl,rfl,_⟩
  ·simp [Value.ownBlock] at he
  ·simp only [Value.ownBlock,Option.some.injEq] at he
   subst he
   rcases hd i with hh|hh
   ·simp [one] at hh
   ·rw [hh] at e;cases e
 have hw2:∀ i o,h2 i=some o→w'.heap[i]?=some o:=fun i o e=>(hg.block i (hlt i o e) (hne i o e)).trans (hw i o (s2 i o e))
 rcases hown with ⟨hl,hn|⟨g,cap,cur,rfl,_,hh,a1,a2,a3,a4⟩⟩
 ·refine ⟨h2,hw2,fun _=>none,h2,fun _ => .inl rfl,fun _ _ e=>(by cases e),.refl _,⟨hl,.inl ⟨hn.1,hn.2,fun _=>rfl⟩⟩,hH⟩
 ·have hg2:h2 g=none:=by
   cases e:h2 g with
   | none=>rfl
   | some o =>
    exfalso
    rcases hat with hh' | hh'
    ·exact hne g o e (by rw [←hh'];rfl)
    ·simp only [Value.ownBlock,Option.some.injEq] at hh'
     have:=hlt g o e
     omega
  have hdis:Dis (one g (.cells cur T (0,0))) h2:=fun j=>by
   by_cases hj:j=g
   ·subst hj;exact .inr hg2
   ·left;simp [one,hj]
  have hs1:Sub (one g (.cells cur T (0,0))) (fun j=>if j=g then some (.cells cur T (0,0)) else h2 j):=fun j o e=>by
   simp only [one] at e
   by_cases hj:j=g
   ·rw [if_pos hj] at e;simp [hj,e]
   ·rw [if_neg hj] at e;cases e
  have hs2:Sub h2 (fun j=>if j=g then some (.cells cur T (0,0)) else h2 j):=fun j o ej=>by
   have:j≠g:=fun hj=>by rw [hj,hg2] at ej;cases ej
   simp [this,ej]
  refine ⟨_,fun j o e=>?_,_,h2,hdis,hs1,hs2,⟨hl,.inr ⟨g,cap,cur,rfl,rfl,a1,a2,a3,a4⟩⟩,hH⟩
  by_cases hj:j=g
  ·subst hj
   simp only [if_true,Option.some.injEq] at e
   subst e
   exact hh
  ·simp only [hj,if_false] at e
   exact hw2 j o e
theorem Rs.of_row {H H':List Hl} {T:TypeId} {ad:Option Addr} {n c:Nat} {xs:List Value} (s:Sel H (.row T 1 (.slice ad n c) n xs) H'):∀ w,sat w (stars H)→Rs (stars H) id ad c xs:=by
 intro w0 h0
 have key:∀ w,sat w (stars H)→xs.length=n∧((Value.slice ad n c = .slice none 0 0∧n=0)∨∃ g,ad=some ⟨g,0,none⟩∧n≤c∧c≤maxLen∧∀ i x,xs[i]?=some x→w.cell? ⟨g,i,none⟩=some x):=by
  intro w h
  obtain ⟨hl,h1|⟨g,cap,cur,hv,_,hh,a1,a2,a3,a4⟩⟩:=h.own s
  ·exact ⟨by simpa using hl,.inl h1⟩
  ·injection hv with hv1 hv2 hv3
   subst hv3
   refine ⟨by simpa using hl,.inr ⟨g,hv1,a1,a2,fun i x hx=>?_⟩⟩
   rw [cell_of_row w g i cur T (0,0) hh,←Array.getElem?_toList]
   rw [←a4,List.getElem?_take] at hx
   split at hx
   ·exact hx
   ·cases hx
 obtain ⟨hl,h1⟩:=key w0 h0
 refine ⟨?_,?_,fun hp=>?_,fun w hs a ha i x hx=>?_⟩
 ·rcases h1 with ⟨hv,hn⟩|⟨g,_,a1,_,_⟩ <;> omega
 ·rcases h1 with ⟨hv,hn⟩|⟨g,_,_,a2,_⟩
  ·injection hv with _ _ hc;omega
  ·exact a2
 ·rcases h1 with ⟨hv,hn⟩|⟨g,hg,_⟩
  ·omega
  ·exact ⟨_,hg⟩
 ·obtain ⟨_,h2⟩:=key w hs
  rcases h2 with ⟨hv,hn⟩|⟨g,hg,_,_,hc⟩
  ·rw [hn] at hl;have:=List.eq_nil_of_length_eq_zero hl;subst this;simp at hx
  ·rw [hg] at ha
   injection ha with ha
   subst ha
   have:=hc i x hx
   by_cases hi:i=0
   ·subst hi;simpa [Addr.add] using this
   ·simpa [Addr.add,hi] using this
theorem Rs.of_box {H H':List Hl} {T:TypeId} {b:Nat} {cs:List Value} (hc:cs.length≤9223372036854775807) (s:Sel H (.box b T cs) H'):Rs (stars H) id (some ⟨b,0,none⟩) cs.length cs:=by
 refine ⟨Nat.le_refl _,hc,fun _=>⟨_,rfl⟩,fun w hs a ha i x hx=>?_⟩
 injection ha with ha
 subst ha
 have:=hs.cell s i
 by_cases hi:i=0
 ·subst hi;simpa [Addr.add,hx] using this
 ·simpa [Addr.add,hi,hx] using this
theorem ent_box_row {b:Nat} {T:TypeId} {cs:List Value} {n:Nat} (hn:n≤cs.length) (hm:cs.length≤maxLen) {h:Hp} (hb:Hl.den (.box b T cs) h):Hl.den (.row T 1 (.slice (some ⟨b,0,none⟩) n cs.length) n (cs.take n)) h :=
 ⟨by simp;omega,.inr ⟨b,cs.length,cs.toArray,rfl,hb,hn,hm,by simp,by simp⟩⟩
section
variable {P:Program} {ops:Array Oper} {k:Kon} {rest:List Oper} {n:Nat} {e:Ev} {W:World} {H:List Hl}
variable {C:Value→List Hl→Prop} {ty:TypeId}
theorem o1_new {op:Op} {T:TypeId} {cs:List Value}
  (hr:∀ a w,Ok1 n e H a w→(execOp a.eval ⟨none,op,ty, "", #[],none⟩).run P w = .ok (.value (.pointer (some ⟨w.heap.size,0,none⟩))) (w.alloc (.cells cs.toArray T)))
  (h:∀ b,C (.pointer (some ⟨b,0,none⟩)) (.box b T cs::H)):O1 P (op) ty n e H C :=
 o1_step fun a w ho=>⟨_,_,hr a w ho,_,h _,(Ext.refl w).alloc _,ho.sat.alloc T cs⟩
theorem o1_box {T:TypeId} {x:Operand} {v:Value} {cs:List Value} (hx:opd e x=some v) (hcs:v.cells=cs.toArray)
  (h:∀ b,C (.pointer (some ⟨b,0,none⟩)) (.box b T cs::H)):O1 P (.box T x) ty n e H C :=
 o1_new (fun a w ho=>by simp [execOp,ho.ev.eval hx,Instr.box,newVar,newRow,hcs]) h
theorem o1_alloc {T:TypeId} {z:Value} {s by_:Nat} [TInf P T z s by_] {cs:List Value} (hcs:z.cells=cs.toArray)
  (h:∀ b,C (.pointer (some ⟨b,0,none⟩)) (.box b T cs::H)):O1 P (.alloc T) ty n e H C :=
 o1_new (fun a w ho=>by simp [execOp,Instr.alloc,run_zeroValue,newVar,newRow,hcs]) h
theorem o1_load {T T':TypeId} [TOne P T] {x:Operand} {b i:Nat} {cs:List Value} {v:Value} {H':List Hl} (hx:opd e x=some (.pointer (some ⟨b,i,none⟩))) (s:Sel H (.box b T' cs) H') (hv:cs[i]?=some v)
  (h:C v H):O1 P (.load T x) ty n e H C :=
 o1_val v (fun a w ho=>by
  have hc:=ho.sat.cell s i
  rw [hv] at hc
  simp [execOp,ho.ev.eval hx,Instr.loadAt,Instr.sureAddr,loadVar,run_isAgg_one,hc]) h
theorem o1_load_any {T:TypeId} [TOne P T] {x:Operand} {p:Addr} {v:Value} {A:Hp→Prop} {H':List Hl} (hx:opd e x=some (.pointer (some p))) (s:Sel H (.any A) H') (hv:Cl A p v)
  (h:C v H):O1 P (.load T x) ty n e H C :=
 o1_val v (fun a w ho=>by
  have hc:=hv.cell w (sel_sat s w ho.sat)
  simp [execOp,ho.ev.eval hx,Instr.loadAt,Instr.sureAddr,loadVar,run_isAgg_one,hc]) h
theorem o1_load_agg {T T':TypeId} {z:Value} {s by_:Nat} [TAgg P T] [TInf P T z s by_] {x:Operand} {b i:Nat} {cs vs:List Value} {H':List Hl} (hx:opd e x=some (.pointer (some ⟨b,i,none⟩)))
  (sl:Sel H (.box b T' cs) H') (hv:(cs.drop i).take s=vs) (hs:vs.length=s) (h:C (.agg vs.toArray) H):O1 P (.load T x) ty n e H C :=
 o1_val _ (fun a w ho=>by
  have hl:=run_loadCells_list (P:=P) w ⟨b,i,none⟩ vs (fun j v hj=>by
   have hc:=ho.sat.cell sl (i+j)
   have:cs[i+j]?=some v:=by
    rw [←hv,List.getElem?_take] at hj
    split at hj
    ·rw [List.getElem?_drop] at hj;exact hj
    ·cases hj
   rw [this] at hc
   by_cases hj0:j=0
   ·subst hj0;simpa [Addr.add] using hc
   ·simpa [Addr.add,hj0] using hc)
  rw [hs] at hl
  simp [execOp,ho.ev.eval hx,Instr.loadAt,Instr.sureAddr,loadVar,run_isAgg_agg,run_sizeOf,hl]) h
theorem oneCell_cells {v:Value} (h:v.oneCell'=true):v.cells = #[v]:=by cases v <;> simp_all [Value.oneCell',Value.cells]
theorem run_store_one {w:World} {p:Addr} {u v:Value} (hc:w.cell? p=some u) (hf:w.frozen? p=false) (h1:v.oneCell'=true):(store p v).run P w = .ok () (w.setCell p v):=by
 rw [run_store P w p v .plain h1]
 simp [hc,hf]
theorem sat.free {w:World} (h:sat w (stars H)) {b:Nat} {T:TypeId} {cs:List Value} {H':List Hl} (s:Sel H (.box b T cs) H') (i:Nat):w.frozen? ⟨b,i,none⟩=false:=frozen_of_row w b i _ T (h.cells s)
theorem Upd.sel {H H':List Hl} {x y:Hl} (s:Upd H x y H'):∃ R,Sel H x R∧Sel H' y R:=by
 induction s with
 | here=>exact ⟨_,.here,.here⟩
 | there s ih=>obtain ⟨R,h1,h2⟩:=ih;exact ⟨_,.there h1,.there h2⟩
theorem o1_store {T T':TypeId} {z:Value} {by_:Nat} [TInf P T z 1 by_] {x y:Operand} {b i:Nat} {cs:List Value} {v:Value} {H':List Hl} (hx:opd e x=some (.pointer (some ⟨b,i,none⟩))) (hy:opd e y=some v)
  (s:Upd H (.box b T' cs) (.box b T' (cs.set i v)) H') (hi:i<cs.length) (h1:v.oneCell'=true) (h:C undef H'):O1 P (.store T x y) ty n e H C :=
 o1_step_skip fun a w ho=>by
  obtain ⟨R,sel,_⟩:=s.sel
  have hc:w.cell? ⟨b,i,none⟩=some cs[i]:=by rw [ho.sat.cell sel i];simp [hi]
  have hst:=run_store_one (P:=P) hc (ho.sat.free sel i) h1
  refine ⟨w.setCell ⟨b,i,none⟩ v,?_,H',h,(Ext.refl w).setCell _ _,ho.sat.set_ i v s⟩
  simp [execOp,ho.ev.eval hx,ho.ev.eval hy,Instr.storeAt,Instr.sureAddr,storeVar,run_sizeOf,oneCell_cells h1,storeCells,Addr.add,hst]
theorem o1_fieldAddr {T ft:TypeId} {j off:Nat} [hf:TFld P T j off ft] {x:Operand} {b i:Nat} (hx:opd e x=some (.pointer (some ⟨b,i,none⟩)))
  (h:C (.pointer (some ⟨b,i+off,none⟩)) H):O1 P (.fieldAddr T x j) ty n e H C :=
 o1_val _ (fun a w ho=>by
  obtain ⟨fs,f,hu,hj,ho',_,hs⟩:=hf.u
  cases hq:P.info? f.type with
  | none=>simp [hq] at hs
  | some q =>
   have hq0:q.size≠0:=by simpa [hq] using hs
   subst ho'
   by_cases h0:f.offset=0
   ·simp [execOp,ho.ev.eval hx,Instr.fieldAt,Instr.sureAddr,run_underlying hu,hj,fieldPlace,sizeOf,typeInfo,hq,hq0,Addr.add,h0]
   ·simp [execOp,ho.ev.eval hx,Instr.fieldAt,Instr.sureAddr,run_underlying hu,hj,fieldPlace,sizeOf,typeInfo,hq,hq0,Addr.add,h0]) h
end
class UK (k:IntKind) (w:outParam Nat):Prop where
 bits:k.bits=w
 unsigned:k.signed=false
instance:UK .u8 8:=⟨rfl,rfl⟩
instance:UK .u16 16:=⟨rfl,rfl⟩
instance:UK .u32 32:=⟨rfl,rfl⟩
instance:UK .u64 64:=⟨rfl,rfl⟩
theorem UK.wrap {k:IntKind} {w:Nat} [h:UK k w] (n:Int):k.wrap n=((BitVec.ofInt w n).toNat:Int):=by
 simp [IntKind.wrap,h.unsigned,h.bits,BitVec.toNat_ofInt]
 have h2:(2 ^ w:Int)≠0:=by exact_mod_cast Nat.ne_of_gt (Nat.two_pow_pos w)
 exact (Int.max_eq_left (Int.emod_nonneg _ h2)).symm
theorem UK.wrap_of {k:IntKind} {w:Nat} [h:UK k w] (x:BitVec w):k.wrap (x.toNat:Int)=(x.toNat:Int):=by
 rw [UK.wrap];simp
theorem ofInt_toNat {w:Nat} (x:BitVec w):BitVec.ofInt w (x.toNat:Int)=x:=by simp
theorem run_bits {P:Program} {w:World} {k:IntKind} {m:Nat} [h:UK k m] (x y:BitVec m) :
  (Op.intBits .and k x.toNat y.toNat).run P w = .ok (.int k (x &&& y).toNat) w∧(Op.intBits .or k x.toNat y.toNat).run P w = .ok (.int k (x ||| y).toNat) w ∧
  (Op.intBits .xor k x.toNat y.toNat).run P w = .ok (.int k (x ^^^ y).toNat) w∧(Op.intBits .andNot k x.toNat y.toNat).run P w = .ok (.int k (x &&& ~~~y).toNat) w:=by
 obtain rfl:=h.bits
 refine ⟨?_,?_,?_,?_⟩ <;> simp only [Op.intBits,Sem.run_pure,ofInt_toNat] <;> rw [UK.wrap_of (h:=h)]
section
variable {P:Program} {ops:Array Oper} {k:Kon} {rest:List Oper} {n:Nat} {e:Ev} {W:World} {H:List Hl}
variable {C:Value→List Hl→Prop} {ty:TypeId} {t t':TypeId} {x y:Operand} {kd kd':IntKind} {p q:Int}
theorem o1_num {op:BinOp} {r:Int} (hx:opd e x=some (.int kd p)) (hy:opd e y=some (.int kd' q)) (hr:∀ w,(binOp op t (.int kd p) (.int kd' q)).run P w = .ok (.int kd r) w) (h:C (.int kd r) H) :
  O1 P (.binOp op t x y t') ty n e H C :=
 o1_val _ (fun a w ho=>by simp [execOp,ho.ev.eval hx,ho.ev.eval hy,eqGuard_int,hr]) h
theorem wrap_in (h1 : -9223372036854775808≤p) (h2:p≤9223372036854775807):IntKind.i64.wrap p=p:=by rw [IntKind.wrap_i64];omega
theorem o1_add (hx:opd e x=some (.int .i64 p)) (hy:opd e y=some (.int .i64 q)) (hb : -9223372036854775808≤p+q∧p+q≤9223372036854775807) (h:C (.int .i64 (p+q)) H) :
  O1 P (.binOp .add t x y t') ty n e H C :=
 o1_num hx hy (fun w=>by rw [binOp_add];simp [Op.intArith,wrap_in hb.1 hb.2]) h
theorem o1_sub (hx:opd e x=some (.int .i64 p)) (hy:opd e y=some (.int .i64 q)) (hb : -9223372036854775808≤p - q∧p - q≤9223372036854775807) (h:C (.int .i64 (p - q)) H) :
  O1 P (.binOp .sub t x y t') ty n e H C :=
 o1_num hx hy (fun w=>by rw [binOp_sub];simp [Op.intArith,wrap_in hb.1 hb.2]) h
theorem o1_mul (hx:opd e x=some (.int .i64 p)) (hy:opd e y=some (.int .i64 q)) (hb : -9223372036854775808≤p*q∧p*q≤9223372036854775807) (h:C (.int .i64 (p*q)) H) :
  O1 P (.binOp .mul t x y t') ty n e H C :=
 o1_num hx hy (fun w=>by rw [binOp_mul];simp [Op.intArith,wrap_in hb.1 hb.2]) h
theorem o1_quo (hx:opd e x=some (.int .i64 p)) (hy:opd e y=some (.int .i64 q)) (hb:0≤p∧0<q∧p≤9223372036854775807) (h:C (.int .i64 (p / q)) H) :
  O1 P (.binOp .quo t x y t') ty n e H C :=
 o1_num hx hy (fun w=>by
  have h0:0≤p / q:=Int.ediv_nonneg hb.1 (by omega)
  have h1:p / q≤p:=Int.ediv_le_self _ hb.1
  rw [binOp_quo]
  simp [Op.intDiv,show q≠0 from by omega,Int.tdiv_eq_ediv_of_nonneg hb.1,wrap_in (p:=p / q) (by omega) (by omega)]) h
theorem o1_rem (hx:opd e x=some (.int .i64 p)) (hy:opd e y=some (.int .i64 q)) (hb:0≤p∧0<q) (h:C (.int .i64 (p % q)) H) :
  O1 P (.binOp .rem t x y t') ty n e H C :=
 o1_num hx hy (fun w=>by
  rw [binOp_rem]
  simp [Op.intDiv,show q≠0 from by omega,Int.tmod_eq_emod_of_nonneg hb.1]) h
variable {m:Nat} {u v:BitVec m}
theorem o1_uand [h0:UK kd m] (hx:opd e x=some (.int kd u.toNat)) (hy:opd e y=some (.int kd v.toNat)) (h:C (.int kd (u &&& v).toNat) H):O1 P (.binOp .and t x y t') ty n e H C :=
 o1_num hx hy (fun w=>by rw [binOp_and];exact (run_bits u v).1) h
theorem o1_uor [h0:UK kd m] (hx:opd e x=some (.int kd u.toNat)) (hy:opd e y=some (.int kd v.toNat)) (h:C (.int kd (u ||| v).toNat) H):O1 P (.binOp .or t x y t') ty n e H C :=
 o1_num hx hy (fun w=>by rw [binOp_or];exact (run_bits u v).2.1) h
theorem o1_uxor [h0:UK kd m] (hx:opd e x=some (.int kd u.toNat)) (hy:opd e y=some (.int kd v.toNat)) (h:C (.int kd (u ^^^ v).toNat) H):O1 P (.binOp .xor t x y t') ty n e H C :=
 o1_num hx hy (fun w=>by rw [binOp_xor];exact (run_bits u v).2.2.1) h
theorem o1_uandNot [h0:UK kd m] (hx:opd e x=some (.int kd u.toNat)) (hy:opd e y=some (.int kd v.toNat)) (h:C (.int kd (u &&& ~~~v).toNat) H):O1 P (.binOp .andNot t x y t') ty n e H C :=
 o1_num hx hy (fun w=>by rw [binOp_andNot];exact (run_bits u v).2.2.2) h
theorem uk_add (kd:IntKind) [h0:UK kd m] (u v:BitVec m):kd.wrap ((u.toNat:Int)+v.toNat)=((u+v).toNat:Int):=by
 rw [UK.wrap,BitVec.ofInt_add,ofInt_toNat,ofInt_toNat]
theorem uk_sub (kd:IntKind) [h0:UK kd m] (u v:BitVec m):kd.wrap ((u.toNat:Int) - v.toNat)=((u - v).toNat:Int):=by
 rw [UK.wrap];rw [Int.sub_eq_add_neg,BitVec.ofInt_add,BitVec.ofInt_neg,BitVec.sub_eq_add_neg,ofInt_toNat,ofInt_toNat]
theorem uk_mul (kd:IntKind) [h0:UK kd m] (u v:BitVec m):kd.wrap ((u.toNat:Int)*v.toNat)=((u*v).toNat:Int):=by
 rw [UK.wrap,BitVec.ofInt_mul,ofInt_toNat,ofInt_toNat]
theorem o1_uadd [h0:UK kd m] (hx:opd e x=some (.int kd u.toNat)) (hy:opd e y=some (.int kd v.toNat)) (h:C (.int kd (u+v).toNat) H):O1 P (.binOp .add t x y t') ty n e H C :=
 o1_num hx hy (fun w=>by rw [binOp_add];simp [Op.intArith,uk_add]) h
theorem o1_usub [h0:UK kd m] (hx:opd e x=some (.int kd u.toNat)) (hy:opd e y=some (.int kd v.toNat)) (h:C (.int kd (u - v).toNat) H):O1 P (.binOp .sub t x y t') ty n e H C :=
 o1_num hx hy (fun w=>by rw [binOp_sub];simp [Op.intArith,uk_sub]) h
theorem o1_umul [h0:UK kd m] (hx:opd e x=some (.int kd u.toNat)) (hy:opd e y=some (.int kd v.toNat)) (h:C (.int kd (u*v).toNat) H):O1 P (.binOp .mul t x y t') ty n e H C :=
 o1_num hx hy (fun w=>by rw [binOp_mul];simp [Op.intArith,uk_mul]) h
theorem uk_shl (kd:IntKind) [h0:UK kd m] (u:BitVec m) (s:Nat):kd.wrap ((u.toNat:Int)*2 ^ min s kd.bits)=((u <<< s).toNat:Int):=by
 have hb:=h0.bits
 rw [UK.wrap,BitVec.toNat_ofInt,BitVec.toNat_shiftLeft,hb]
 rcases Nat.le_total s m with hs|hs
 ·rw [Nat.min_eq_left hs,Nat.shiftLeft_eq]
  have:((u.toNat:Int)*2 ^ s) % ((2 ^ m:Nat):Int)=((u.toNat*2 ^ s % 2 ^ m:Nat):Int):=by push_cast;rfl
  rw [this];simp;omega
 ·rw [Nat.min_eq_right hs,Nat.shiftLeft_eq]
  have h1:u.toNat*2 ^ s % 2 ^ m=0:=by
   rw [show s=m+(s - m) from by omega,Nat.pow_add,←Nat.mul_assoc,Nat.mul_right_comm];simp
  have h2:((u.toNat:Int)*2 ^ m) % ((2 ^ m:Nat):Int)=0:=by push_cast;simp
  rw [h1,h2];simp
theorem uk_shr (kd:IntKind) [h0:UK kd m] (u:BitVec m) (s:Nat):(u.toNat:Int) / 2 ^ min s kd.bits=((u >>> s).toNat:Int):=by
 have hb:=h0.bits
 rw [BitVec.toNat_ushiftRight,Nat.shiftRight_eq_div_pow,hb]
 rcases Nat.le_total s m with hs|hs
 ·rw [Nat.min_eq_left hs];push_cast;rfl
 ·rw [Nat.min_eq_right hs]
  have h1:u.toNat / 2 ^ s=0:=Nat.div_eq_of_lt (Nat.lt_of_lt_of_le u.isLt (Nat.pow_le_pow_right (by omega) hs))
  have h2:(u.toNat:Int) / 2 ^ m=0:=by
   have:=Nat.div_eq_of_lt u.isLt
   have h3:((u.toNat / 2 ^ m:Nat):Int)=0:=by rw [this];rfl
   push_cast at h3;exact h3
  rw [h1,h2];rfl
theorem o1_ushl [h0:UK kd m] (hx:opd e x=some (.int kd u.toNat)) (hy:opd e y=some (.int kd' q)) (hq:0≤q) (h:C (.int kd (u <<< q.toNat).toNat) H):O1 P (.binOp .shl t x y t') ty n e H C :=
 o1_num hx hy (fun w=>by rw [binOp_shl,shift_shl_any _ _ _ _ hq,Sem.run_pure,uk_shl]) h
theorem o1_ushr [h0:UK kd m] (hx:opd e x=some (.int kd u.toNat)) (hy:opd e y=some (.int kd' q)) (hq:0≤q) (h:C (.int kd (u >>> q.toNat).toNat) H):O1 P (.binOp .shr t x y t') ty n e H C :=
 o1_num hx hy (fun w=>by rw [binOp_shr,shift_shr_any _ _ _ _ hq,Sem.run_pure,uk_shr]) h
theorem o1_unot [h0:UK kd m] (hx:opd e x=some (.int kd u.toNat)) (h:C (.int kd (~~~u).toNat) H):O1 P (.unOp .xor t x) ty n e H C :=
 o1_val _ (fun a w ho=>by
  have hm:kd.max=((BitVec.allOnes m).toNat:Int):=by
   have:=Nat.two_pow_pos m
   simp only [IntKind.max,h0.unsigned,h0.bits,BitVec.toNat_allOnes,Bool.false_eq_true,if_false]
   have h2:((2 ^ m - 1:Nat):Int)=((2 ^ m:Nat):Int) - 1:=by omega
   rw [h2];push_cast;rfl
  have:=(run_bits (P:=P) (w:=w) (k:=kd) (BitVec.allOnes m) u).2.2.1
  simp only [execOp,ho.ev.eval hx,unary_xor,h0.unsigned,hm,Bool.false_eq_true,if_false,Sem.run_bind,this,Result.andThen_ok,Sem.run_pure,BitVec.allOnes_xor]) h
theorem o1_bnot {b:Bool} (hx:opd e x=some (.bool b)) (h:C (.bool (!b)) H):O1 P (.unOp .not t x) ty n e H C :=
 o1_val _ (fun a w ho=>by simp [execOp,ho.ev.eval hx,unary_not]) h
theorem o1_conv {r:Int} [h1:TInt P t kd] [h2:TInt P t' kd'] (hx:opd e x=some (.int kd p)) (hr:kd'.wrap p=r) (h:C (.int kd' r) H):O1 P (.convert t t' x) ty n e H C :=
 o1_val _ (fun a w ho=>by
  subst hr
  simp [execOp,ho.ev.eval hx,convert,run_underlying h1.u,run_underlying h2.u,Conv.intToInt]) h
end
def Has (H:List Hl):Prop:=∃ w,sat w (stars H)
def RsH {α:Type} (H:List Hl) (enc:α→Value) (ad:Option Addr) (c:Nat) (l:List α):Prop:=Has H→Rs (stars H) enc ad c l
theorem rs_any {α:Type} {A:Hp→Prop} {H H':List Hl} {enc:α→Value} {ad:Option Addr} {c:Nat} {l:List α} (s:Sel H (.any A) H') (h:Rs A enc ad c l):RsH H enc ad c l:=fun _=>h.lift s
theorem rs_row {α:Type} {H H':List Hl} {T:TypeId} {enc:α→Value} {ad:Option Addr} {n c:Nat} {l:List α} (s:Sel H (.row T 1 (.slice ad n c) n (l.map enc)) H'):RsH H enc ad c l:=fun ⟨w,hw⟩=>(Rs.of_row s w hw).unvals
theorem rs_box {α:Type} {H H':List Hl} {T:TypeId} {enc:α→Value} {b c:Nat} {l:List α} (hc:l.length=c) (hb:c≤9223372036854775807) (s:Sel H (.box b T (l.map enc)) H'):RsH H enc (some ⟨b,0,none⟩) c l:=fun _=>by
 subst hc
 have:=Rs.of_box (by simpa using hb) s
 rw [List.length_map] at this
 exact this.unvals
theorem rs_nil {α:Type} {H:List Hl} {enc:α→Value} {ad:Option Addr} {c:Nat} (hb:c≤9223372036854775807):RsH H enc ad c ([]:List α):=fun _ => .nil hb
def str (l:List (BitVec 8)):ByteArray:=⟨(l.map UInt8.ofBitVec).toArray⟩
theorem toList_str (l:List (BitVec 8)):(str l).toList=l.map UInt8.ofBitVec:=by simp [str]
theorem map_ub_inj:∀ l m:List (BitVec 8),l.map UInt8.ofBitVec=m.map UInt8.ofBitVec→l=m
 | [],[],_=>rfl
 | [],_::_,h=>by simp at h
 | _::_,[],h=>by simp at h
 | a::l,b::m,h=>by
  simp only [List.map_cons,List.cons.injEq] at h
  rw [map_ub_inj l m h.2,show a=b from by simpa using congrArg UInt8.toBitVec h.1]
theorem str_beq (l m:List (BitVec 8)):((str l).toList == (str m).toList)=decide (l=m):=by
 rw [toList_str,toList_str]
 by_cases h:l=m
 ·simp [h]
 ·have:l.map UInt8.ofBitVec≠m.map UInt8.ofBitVec:=fun e=>h (map_ub_inj l m e)
  simp [h,this]
theorem foldl_push (l:List (BitVec 8)):∀ r:ByteArray,(l.map (fun x=>(x.toNat:Int))).foldl (fun r n=>r.push (UInt8.ofNat n.toNat)) r=⟨r.data++(l.map UInt8.ofBitVec).toArray⟩:=by
 induction l with
 | nil=>intro r;simp
 | cons x l ih =>
  intro r
  simp only [List.map_cons,List.foldl_cons,ih]
  simp [ByteArray.push,UInt8.ofNat]
abbrev B (x:BitVec 8):Value := .int .u8 (x.toNat:Int)
theorem run_string {P:Program} {w:World} {A:Hp→Prop} (hs:sat w A) {ad:Option Addr} {c:Nat} {l:List (BitVec 8)} (h:Rs A B ad c l):(Conv.bytesToString (.slice ad l.length c)).run P w = .ok (.string (str l)) w:=by
 cases ad with
 | none =>
  have:l=[]:=by
   rcases l with _|⟨x,l⟩
   ·rfl
   ·obtain ⟨a,ha⟩:=h.sm (by simp);cases ha
  subst this
  simp [Conv.bytesToString,str,ByteArray.empty,ByteArray.emptyWithCapacity]
  rfl
 | some a =>
  have hl:=run_loadCells_list (P:=P) w a (l.map B) (fun j v hj=>by
   simp only [List.getElem?_map,Option.map_eq_some_iff] at hj
   obtain ⟨x,hx,rfl⟩:=hj
   exact h.cell w hs a rfl j x hx)
  rw [List.length_map] at hl
  have:=run_bytesToString (P:=P) w a l.length c (l.map fun x=>(x.toNat:Int)) (by rw [hl];simp [B])
  rw [this,foldl_push]
  simp [str,ByteArray.empty,ByteArray.emptyWithCapacity]
  rfl
section
variable {P:Program} {ops:Array Oper} {k:Kon} {rest:List Oper} {n:Nat} {e:Ev} {W:World} {H:List Hl}
variable {C:Value→List Hl→Prop} {ty:TypeId} {t t':TypeId} {x y:Operand} {kd kd':IntKind} {p q:Int}
variable {T E:TypeId} {z:Value} {by_:Nat} {ad ad':Option Addr} {l c c':Nat}
theorem Ok1.has {a:Act} {w:World} (h:Ok1 n e H a w):Has H:=⟨w,h.sat⟩
theorem o1_len [ht:TSl P T E] (hx:opd e x=some (.slice ad l c)) (h:C (.int .i64 (l:Int)) H) :
  O1 P (.call ⟨.builtin .len, #[x], #[T]⟩) ty n e H C :=
 o1_val _ (fun a w ho=>by
  simp [execOp,resolve,invoke,builtin,ho.ev.eval hx,Builtin.len_,run_underlying ht.u,goInt]) h
theorem o1_cap [ht:TSl P T E] (hx:opd e x=some (.slice ad l c)) (h:C (.int .i64 (c:Int)) H) :
  O1 P (.call ⟨.builtin .cap, #[x], #[T]⟩) ty n e H C :=
 o1_val _ (fun a w ho=>by
  simp [execOp,resolve,invoke,builtin,ho.ev.eval hx,Builtin.cap_,run_underlying ht.u,goInt]) h
theorem o1_max {ats:Array TypeId} {r:Int} (hx:opd e x=some (.int kd p)) (hy:opd e y=some (.int kd q)) (hr:(p≤q∧r=q)∨(q≤p∧r=p)) (h:C (.int kd r) H) :
  O1 P (.call ⟨.builtin .max, #[x,y],ats⟩) ty n e H C :=
 o1_val _ (fun a w ho=>by
  have:(if q > p then q else p)=r:=by split <;> omega
  simp [execOp,resolve,invoke,builtin,ho.ev.eval hx,ho.ev.eval hy,run_max_int2,this]) h
theorem o1_min {ats:Array TypeId} {r:Int} (hx:opd e x=some (.int kd p)) (hy:opd e y=some (.int kd q)) (hr:(p≤q∧r=p)∨(q≤p∧r=q)) (h:C (.int kd r) H) :
  O1 P (.call ⟨.builtin .min, #[x,y],ats⟩) ty n e H C :=
 o1_val _ (fun a w ho=>by
  have:(if q<p then q else p)=r:=by split <;> omega
  simp [execOp,resolve,invoke,builtin,ho.ev.eval hx,ho.ev.eval hy,run_min_int2,this]) h
theorem o1_indexAddr_own {b o:Nat} {s:Nat} [ht:TSl P T E] [hi:TInf P E z s by_] (hx:opd e x=some (.slice (some ⟨b,o,none⟩) l c)) (hy:opd e y=some (.int kd p)) (hp:0≤p∧p<l)
  (h:C (.pointer (some ⟨b,o+p.toNat*s,none⟩)) H):O1 P (.indexAddr T x y) ty n e H C :=
 o1_val _ (fun a w ho=>by
  by_cases h0:p.toNat*s=0
  ·simp [execOp,ho.ev.eval hx,ho.ev.eval hy,Instr.indexAt,asIntOf,run_underlying ht.u,hp,run_sizeOf,Addr.add,h0]
  ·simp [execOp,ho.ev.eval hx,ho.ev.eval hy,Instr.indexAt,asIntOf,run_underlying ht.u,hp,run_sizeOf,Addr.add,h0]) h
theorem o1_indexAddr_arr {b o m s:Nat} [ht:TArr P T m E] [hi:TInf P E z s by_] (hx:opd e x=some (.pointer (some ⟨b,o,none⟩))) (hy:opd e y=some (.int kd p)) (hp:0≤p∧p<m)
  (h:C (.pointer (some ⟨b,o+p.toNat*s,none⟩)) H):O1 P (.indexAddr T x y) ty n e H C :=
 o1_val _ (fun a w ho=>by
  by_cases h0:p.toNat*s=0
  ·simp [execOp,ho.ev.eval hx,ho.ev.eval hy,Instr.indexAt,Instr.sureAddr,asIntOf,run_underlying ht.u,hp,run_sizeOf,Addr.add,h0]
  ·simp [execOp,ho.ev.eval hx,ho.ev.eval hy,Instr.indexAt,Instr.sureAddr,asIntOf,run_underlying ht.u,hp,run_sizeOf,Addr.add,h0]) h
theorem o1_indexAddr_rd {α:Type} {A:Hp→Prop} {enc:α→Value} {xs:List α} [ht:TSl P T E] [hi:TInf P E z 1 by_] (hx:opd e x=some (.slice ad xs.length c)) (hy:opd e y=some (.int kd p)) (hr:Rs A enc ad c xs) (i:Nat) (hp:p=i) (hl:i<xs.length)
  (h:∀ a,Cl A a (enc xs[i])→C (.pointer (some a)) H):O1 P (.indexAddr T x y) ty n e H C:=by
 obtain ⟨a0,rfl⟩:=hr.sm (by omega)
 subst hp
 refine o1_val _ (fun a w ho=>?_) (h (a0.add i) ⟨fun w hs=>hr.cell w hs a0 rfl i _ (by simp [hl])⟩)
 simp [execOp,ho.ev.eval hx,ho.ev.eval hy,Instr.indexAt,asIntOf,run_underlying ht.u,hl,run_sizeOf]
theorem o1_index_arr {m:Nat} {vs:List Value} {v:Value} [ht:TArr P T m E] [TOne P E] [hi:TInf P E z 1 by_] (hx:opd e x=some (.agg vs.toArray)) (hy:opd e y=some (.int kd p)) (hp:0≤p∧p<m) (hv:vs[p.toNat]?=some v)
  (h:C v H):O1 P (.index T x y) ty n e H C :=
 o1_val _ (fun a w ho=>by
  simp [execOp,ho.ev.eval hx,ho.ev.eval hy,Instr.index,asIntOf,run_underlying ht.u,hp,run_sizeOf,part,run_isAgg_one,hv]) h
theorem o1_slice_lh {s lo hi:Nat} {ol oh:Operand} [ht:TSl P T E] [hi':TInf P E z s by_] (hx:opd e x=some (.slice ad l c)) (hl:opd e ol=some (.int kd (lo:Int))) (hh:opd e oh=some (.int kd' (hi:Int))) (h1:lo≤hi) (h2:hi≤c)
  (h:C (.slice (if c=lo then ad else ad.map (·.add (lo*s))) (hi - lo) (c - lo)) H):O1 P (.slice T x (some ol) (some oh) none) ty n e H C :=
 o1_val _ (fun a w ho=>by
  simp [execOp,ho.ev.eval hx,ho.ev.eval hl,ho.ev.eval hh,Instr.sliceAt,run_underlying ht.u,Instr.slice,Instr.sliceBounds,Instr.sliceBound,asIntOf,run_sizeOf,h1,h2]) h
theorem o1_slice_h {s hi:Nat} {oh:Operand} [ht:TSl P T E] [hi':TInf P E z s by_] (hx:opd e x=some (.slice ad l c)) (hh:opd e oh=some (.int kd' (hi:Int))) (h2:hi≤c)
  (h:C (.slice (if c=0 then ad else ad.map (·.add (0*s))) hi c) H):O1 P (.slice T x none (some oh) none) ty n e H C :=
 o1_val _ (fun a w ho=>by
  simp [execOp,ho.ev.eval hx,ho.ev.eval hh,Instr.sliceAt,run_underlying ht.u,Instr.slice,Instr.sliceBounds,Instr.sliceBound,asIntOf,run_sizeOf,h2]) h
theorem o1_slice_l {s lo:Nat} {ol:Operand} [ht:TSl P T E] [hi':TInf P E z s by_] (hx:opd e x=some (.slice ad l c)) (hl:opd e ol=some (.int kd (lo:Int))) (h1:lo≤l)
  (h:C (.slice (if c=lo then ad else ad.map (·.add (lo*s))) (l - lo) (c - lo)) H):O1 P (.slice T x (some ol) none none) ty n e H C :=
 o1_val _ (fun a w ho=>by
  simp [execOp,ho.ev.eval hx,ho.ev.eval hl,Instr.sliceAt,run_underlying ht.u,Instr.slice,Instr.sliceBounds,Instr.sliceBound,asIntOf,run_sizeOf,h1]) h
theorem o1_slice_hm {s hi mx:Nat} {oh om:Operand} [ht:TSl P T E] [hi':TInf P E z s by_] (hx:opd e x=some (.slice ad l c)) (hh:opd e oh=some (.int kd (hi:Int))) (hm:opd e om=some (.int kd' (mx:Int))) (h1:hi≤mx) (h2:mx≤c)
  (h:C (.slice (if mx=0 then ad else ad.map (·.add (0*s))) hi mx) H):O1 P (.slice T x none (some oh) (some om)) ty n e H C :=
 o1_val _ (fun a w ho=>by
  simp [execOp,ho.ev.eval hx,ho.ev.eval hh,ho.ev.eval hm,Instr.sliceAt,run_underlying ht.u,Instr.slice,Instr.sliceBounds,Instr.sliceBound,asIntOf,run_sizeOf,h1,h2]) h
theorem o1_mk {lo cp:Nat} [ht:TSl P T E] [hi:TInf P E z 1 by_] (hz:z.oneCell'=true) (hx:opd e x=some (.int kd (lo:Int))) (hy:opd e y=some (.int kd' (cp:Int))) (h1:lo≤cp) (h2:by_*cp≤281474976710656) (h3:cp≤9223372036854775807)
  (h:∀ b,C (.slice (some ⟨b,0,none⟩) lo cp) (.box b E (List.replicate cp z)::H)):O1 P (.makeSlice T x y) ty n e H C :=
 o1_step fun a w ho=>by
  obtain ⟨i,hi0,hiz,his,hib⟩:=hi.info
  have h5:(i.bytes:Int)*(cp:Int)≤281474976710656:=by
   rw [hib]
   have h6:((by_*cp:Nat):Int)≤281474976710656:=by omega
   rwa [Int.natCast_mul] at h6
  have hr:=run_make (P:=P) w T E i z ht.u hi0 hiz kd kd' lo cp (by omega) (by omega) h5 (by omega)
  simp only [Int.toNat_natCast,his,Nat.mul_one] at hr
  have hm:madeCells z.cells cp=(List.replicate cp z).toArray:=by
   rw [oneCell_cells hz]
   apply Array.ext'
   rw [toList_madeCells_one]
  rw [hm] at hr
  refine ⟨_,_,?_,_,h _,(Ext.refl w).alloc _,ho.sat.alloc E _⟩
  simp [execOp,ho.ev.eval hx,ho.ev.eval hy,hr]
def opds (e:Ev):List Operand→Option (List Value)
 | []=>some []
 | x::l=>match opd e x,opds e l with
  | some v,some vs=>some (v::vs)
  | _,_=>none
theorem EvOk.evals {a:Act} (h:EvOk a n e):∀ {l:List Operand} {vs:List Value},opds e l=some vs→l.map a.eval=vs
 | [],vs,hl=>by simp [opds] at hl;simp [hl]
 | x::l,vs,hl=>by
  simp only [opds] at hl
  split at hl
  ·rename_i v us hv hus
   simp only [Option.some.injEq] at hl
   subst hl
   simp [h.eval hv,EvOk.evals h hus]
  ·cases hl
def opdi (e:Ev):List (Nat × Operand)→Option (List (Nat × Value))
 | []=>some []
 | (i,x)::l=>match opd e x,opdi e l with
  | some v,some vs=>some ((i,v)::vs)
  | _,_=>none
theorem EvOk.evali {a:Act} (h:EvOk a n e):∀ {l:List (Nat × Operand)} {vs:List (Nat × Value)},opdi e l=some vs→l.map (fun x=>(x.1,a.eval x.2))=vs
 | [],vs,hl=>by simp [opdi] at hl;simp [hl]
 | (i,x)::l,vs,hl=>by
  simp only [opdi] at hl
  split at hl
  ·rename_i v us hv hus
   simp only [Option.some.injEq] at hl
   subst hl
   simp [h.eval hv,EvOk.evali h hus]
  ·cases hl
theorem o1_build {ps:List (Nat × Operand)} {us:List (Nat × Value)} {vs:List Value} (hps:opdi e ps=some us) (hr:∀ w,(Instr.build T us.toArray).run P w = .ok (.agg vs.toArray) w) (h:C (.agg vs.toArray) H) :
  O1 P (.build T ps.toArray) ty n e H C :=
 o1_val _ (fun a w ho=>by
  have:=ho.ev.evali hps
  simp only [execOp,List.map_toArray,this,Sem.run_bind,hr,Result.andThen_ok,Sem.run_pure]) h
theorem o1_buildSlice {ps:List (Nat × Operand)} {us:List (Nat × Value)} {vs:List Value} {m:Nat} (hps:opdi e ps=some us) (hr:∀ w,(Instr.buildSlice T m us.toArray).run P w = .ok (.slice (some ⟨w.heap.size,0,none⟩) m m) (w.alloc (.cells vs.toArray E)))
  (h:∀ b,C (.slice (some ⟨b,0,none⟩) m m) (.box b E vs::H)):O1 P (.buildSlice T m ps.toArray) ty n e H C :=
 o1_step fun a w ho=>by
  have:=ho.ev.evali hps
  refine ⟨_,_,?_,_,h _,(Ext.refl w).alloc _,ho.sat.alloc E _⟩
  simp only [execOp,List.map_toArray,this,Sem.run_bind,hr,Result.andThen_ok,Sem.run_pure]
theorem o1_append {α:Type} {enc:α→Value} {xs ys:List α} {H':List Hl} {m a0:Nat} [ht:TSl P T E] [hi:TInf P E z 1 by_] (hz:z.oneCell'=true) (henc:∀ x,(enc x).oneCell'=true) (hx:opd e x=some (.slice ad a0 c)) (hy:opd e y=some (.slice ad' m c'))
  (s:Sel H (.row E 1 (.slice ad a0 c) a0 (xs.map enc)) H') (hm:m=ys.length) (hr:RsH H enc ad' c' ys) (hb:(a0+m)*by_≤140737488355328) (hb2:a0+m≤9223372036854775807)
  (h:∀ ad2 c2,C (.slice ad2 (a0+m) c2) (.row E 1 (.slice ad2 (a0+m) c2) (a0+m) ((xs++ys).map enc)::H')) :
  O1 P (.call ⟨.builtin .append, #[x,y], #[T,T]⟩) ty n e H C :=
 o1_step fun a w ho=>by
  subst hm
  obtain ⟨i,hi0,hiz,his,hib⟩:=hi.info
  have hown:=ho.sat.own s
  have hr:=hr ho.has
  have hzs:z.cells.size=1:=by rw [oneCell_cells hz];rfl
  have key:∃ v' w',(Builtin.append_ #[T,T] ty #[.slice ad a0 c,.slice ad' ys.length c']).run P w = .ok v' w'∧w'.ownsRow 0 E 1 v' (a0+ys.length) (xs.map enc++ys.map enc)∧w.grownBy w' (Value.slice ad a0 c).ownBlock ∧
    (v'.ownBlock=(Value.slice ad a0 c).ownBlock∨v'.ownBlock=some w.heap.size):=by
   cases ad' with
   | none =>
    have hn:ys=[]:=by
     rcases ys with _|⟨x,ys⟩
     ·rfl
     ·obtain ⟨a,ha⟩:=hr.sm (by simp);cases ha
    subst hn
    refine ⟨_,w,?_,by simpa using hown,World.grownBy.refl w _,.inl rfl⟩
    rcases hown.2 with ⟨hv,rfl⟩|⟨g,cap,cur,hv,_,_,hnc,_⟩
    ·injection hv with h1 h2 h3
     subst h1 h3
     simp [Builtin.append_,run_underlying ht.u,sizeOf,typeInfo,hi0,Builtin.lenOf,Builtin.firstCells]
    ·injection hv with h1 h2 h3
     subst h1 h3
     simp [Builtin.append_,run_underlying ht.u,sizeOf,typeInfo,hi0,Builtin.lenOf,Builtin.firstCells,hnc,storeCells]
   | some b =>
    obtain ⟨v',w',h1,h2,h3,_,h5⟩:=run_append_own_at (P:=P) w 0 T ty E i z 1 by_ ht.u hi0 hiz his hib hzs (by omega) _ _ _ hown b ys.length c' (ys.map enc) (by simp)
     (fun j u hj=>by
      simp only [List.getElem?_map,Option.map_eq_some_iff] at hj
      obtain ⟨x,hx,rfl⟩:=hj
      exact hr.cell w ho.sat b rfl j x hx)
     (fun u hu=>by
      simp only [List.mem_map] at hu
      obtain ⟨x,_,rfl⟩:=hu
      exact henc x) (by simp only [maxLen];omega) hb (by omega)
    exact ⟨v',w',h1,h2,h3,h5⟩
  obtain ⟨v',w',hrun,h2,h3,h4⟩:=key
  have hv:∃ ad2 c2,v' = .slice ad2 (a0+ys.length) c2:=by
   rcases h2.2 with ⟨rfl,hn⟩|⟨g,cap,cur,rfl,_⟩
   ·exact ⟨none,0,by rw [hn]⟩
   ·exact ⟨_,_,rfl⟩
  obtain ⟨ad2,c2,rfl⟩:=hv
  rw [←List.map_append] at h2
  refine ⟨_,w',?_,_,h ad2 c2,⟨h3.os,h3.tape,h3.output,h3.size⟩,ho.sat.grown s h2 h3 h4⟩
  simp [execOp,resolve,invoke,builtin,ho.ev.eval hx,ho.ev.eval hy,hrun]
theorem o1_string {xs:List (BitVec 8)} {m:Nat} [ht:TSl P t E] [he:TInt P E .u8] [hs:TStr P t'] (hx:opd e x=some (.slice ad m c)) (hm:m=xs.length) (hr:RsH H B ad c xs) (h:C (.string (str xs)) H) :
  O1 P (.convert t t' x) ty n e H C :=
 o1_val _ (fun a w ho=>by
  subst hm
  have h1:=run_convert_bytes_string (P:=P) w t t' E ad xs.length c ht.u he.u hs.u
  rw [run_string ho.sat (hr ho.has)] at h1
  simp [execOp,ho.ev.eval hx,h1]) h
theorem o1_str {op:BinOp} {a b:ByteArray} {r:Bool} (hx:opd e x=some (.string a)) (hy:opd e y=some (.string b)) (hr:binOp op t (.string a) (.string b)=pure (.bool r)) (h:C (.bool r) H) :
  O1 P (.binOp op t x y t') ty n e H C :=
 o1_val _ (fun a w ho=>by simp [execOp,ho.ev.eval hx,ho.ev.eval hy,eqGuard_at_string,hr]) h
theorem o1_streq_t {a b:List (BitVec 8)} (hx:opd e x=some (.string (str a))) (hy:opd e y=some (.string (str b))) (hc:a=b) (h:C (.bool true) H) :
  O1 P (.binOp .eql t x y t') ty n e H C:=o1_str hx hy (by rw [binOp_string_eql,str_beq];simp [hc]) h
theorem o1_streq_f {a b:List (BitVec 8)} (hx:opd e x=some (.string (str a))) (hy:opd e y=some (.string (str b))) (hc:a≠b) (h:C (.bool false) H) :
  O1 P (.binOp .eql t x y t') ty n e H C:=o1_str hx hy (by rw [binOp_string_eql,str_beq];simp [hc]) h
theorem o1_streq {a b:List (BitVec 8)} (hx:opd e x=some (.string (str a))) (hy:opd e y=some (.string (str b))) (h1:a=b→C (.bool true) H) (h2:a≠b→C (.bool false) H) :
  O1 P (.binOp .eql t x y t') ty n e H C:=by
 by_cases hc:a=b
 ·exact o1_streq_t hx hy hc (h1 hc)
 ·exact o1_streq_f hx hy hc (h2 hc)
theorem run_enter {f:FuncId} {args:Array Value} {w:World} (h:(P.funcs[f]?).map (fun fn=>(fn.name == "runtime.NumGoroutine",fn.body.isNone))=some (false,false)):(callFunc f args).run P w = .ok (.enter f args) w:=by
 cases hf:P.funcs[f]? with
 | none=>simp [hf] at h
 | some fn =>
  simp only [hf,Option.map_some,Option.some.injEq,Prod.mk.injEq] at h
  have hb : ¬ fn.body=none:=fun hn=>by rw [hn] at h;simp at h
  have hn : ¬ fn.name = "runtime.NumGoroutine":=by simpa using h.1
  simp [callFunc,hf,hn,hb]
theorem o1_call {f:FuncId} {xs:List Operand} {args:List Value} {ats:Array TypeId} {X:Type} {good:X→Prop} {val:X→Value} {res:X→List Hl} (hs:Has H→Spec P f args H good val res) (hxs:opds e xs=some args)
  (h:∀ r,good r→C (val r) (res r)):O1 P (.call ⟨.value (.func f),xs.toArray,ats⟩) ty n e H C :=
 ⟨fun a w ho o h1 h2 K Q hK=>by
  have hs:=hs ho.has
  have hc:=hs.calls w ho.sat
  have hargs:=ho.ev.evals hxs
  have hr:(execOp a.eval ⟨none,.call ⟨.value (.func f),xs.toArray,ats⟩,ty, "", #[],none⟩).run P w = .ok (.enter f args.toArray) w:=by
   simp [execOp,resolve,invoke,Deferred.ofValue,Act.eval,hargs,run_enter hs.enters]
  subst h2
  unfold Oper.wp
  rw [execOp_eq,h1,hr]
  refine hc.mono ?_
  rintro x w' ⟨r,hg,rfl,hx,hsat⟩
  exact hK _ _ _ (h r hg) hx hsat⟩
theorem st_ent {co:Code} {H2:List Hl} (hE:∀ h,stars H h→stars H2 h) (h:St P co k n e W H2):St P co k n e W H:=⟨fun a w ho=>h.out a w ⟨ho.ev,ho.ext,ho.sat.mono hE⟩⟩
theorem ent_nil_row (T:TypeId) (s:Nat):∀ h,stars H h→stars (.row T s (.slice none 0 0) 0 []::H) h:=fun h hh=>⟨fun _=>none,h,fun _ => .inl rfl,fun _ _ e=>(by cases e),.refl _,⟨by simp,.inl ⟨rfl,rfl,fun _=>rfl⟩⟩,hh⟩
theorem ent_row_of_box {b m cp:Nat} {cs:List Value} {H':List Hl} (s:Sel H (.box b T cs) H') (hcp:cs.length=cp) (hm:m≤cp) (hb:cp≤9223372036854775807):∀ h,stars H h→stars (.row T 1 (.slice (some ⟨b,0,none⟩) m cp) m (cs.take m)::H') h:=by
 subst hcp
 exact fun h hh=>sep_mono (s.out h hh) (fun h hb'=>ent_box_row hm hb hb') (fun _ a=>a)
end
class SBox (H:List Hl) (b:Nat) (T:outParam TypeId) (cs:outParam (List Value)) (H':outParam (List Hl)):Prop where s:Sel H (.box b T cs) H'
instance sbox_here {b:Nat} {T:TypeId} {cs:List Value} {H:List Hl}:SBox (.box b T cs::H) b T cs H:=⟨.here⟩
instance (priority:=low) sbox_there {b:Nat} {T:TypeId} {cs:List Value} {y:Hl} {H H':List Hl} [h:SBox H b T cs H']:SBox (y::H) b T cs (y::H'):=⟨.there h.s⟩
class SRow (H:List Hl) (ad:Option Addr) (c:Nat) (n:outParam Nat) (T:outParam TypeId) (xs:outParam (List Value)) (H':outParam (List Hl)):Prop where s:Sel H (.row T 1 (.slice ad n c) n xs) H'
instance srow_here {ad:Option Addr} {n c:Nat} {T:TypeId} {xs:List Value} {H:List Hl}:SRow (.row T 1 (.slice ad n c) n xs::H) ad c n T xs H:=⟨.here⟩
instance (priority:=low) srow_there {ad:Option Addr} {n c:Nat} {T:TypeId} {xs:List Value} {y:Hl} {H H':List Hl} [h:SRow H ad c n T xs H']:SRow (y::H) ad c n T xs (y::H'):=⟨.there h.s⟩
class SAny (H:List Hl) (A:Hp→Prop) (H':outParam (List Hl)):Prop where s:Sel H (.any A) H'
instance sany_here {A:Hp→Prop} {H:List Hl}:SAny (.any A::H) A H:=⟨.here⟩
instance (priority:=low) sany_there {A:Hp→Prop} {y:Hl} {H H':List Hl} [h:SAny H A H']:SAny (y::H) A (y::H'):=⟨.there h.s⟩
class SEnt (H K:List Hl):Prop where s:Ent H K
instance sent_nil {H:List Hl}:SEnt H []:=⟨.nil⟩
section
variable {P:Program} {ops:Array Oper} {k:Kon} {rest:List Oper} {n:Nat} {e:Ev} {W:World} {H:List Hl}
variable {C:Value→List Hl→Prop} {ty:TypeId} {x y:Operand}
theorem ox_load {T T':TypeId} [TOne P T] {b i:Nat} {cs:List Value} {v:Value} {H':List Hl} (hx:opd e x=some (.pointer (some ⟨b,i,none⟩))) [s:SBox H b T' cs H'] (hv:cs[i]?=some v)
  (h:C v H):O1 P (.load T x) ty n e H C:=o1_load hx s.s hv h
theorem ox_load_agg {T T':TypeId} {z:Value} {s by_:Nat} [TAgg P T] [TInf P T z s by_] {b i:Nat} {cs vs:List Value} {H':List Hl} (hx:opd e x=some (.pointer (some ⟨b,i,none⟩)))
  [sl:SBox H b T' cs H'] (hv:(cs.drop i).take s=vs) (hs:vs.length=s) (h:C (.agg vs.toArray) H):O1 P (.load T x) ty n e H C:=o1_load_agg hx sl.s hv hs h
theorem ox_load_any {T:TypeId} [TOne P T] {p:Addr} {v:Value} {A:Hp→Prop} {H':List Hl} (hx:opd e x=some (.pointer (some p))) (hv:Cl A p v) [s:SAny H A H']
  (h:C v H):O1 P (.load T x) ty n e H C:=o1_load_any hx s.s hv h
theorem Sel.upd {H H':List Hl} {x:Hl} (s:Sel H x H') (y:Hl):∃ H2,Upd H x y H2∧∀ h,stars H2 h→stars (y::H') h:=by
 induction s with
 | here=>exact ⟨_,.here,fun _ h=>h⟩
 | there s ih =>
  obtain ⟨H2,h1,h2⟩:=ih
  exact ⟨_,.there h1,fun h hs=>sep_assoc (sep_mono (sep_assoc' (sep_mono hs (fun _ a=>a) h2)) (fun _=>sep_comm) (fun _ a=>a))⟩
theorem O1.ent {op:Op} {H2:List Hl} (hE:∀ h,stars H h→stars H2 h) (h:O1 P op ty n e H2 C):O1 P op ty n e H C:=⟨fun a w ho=>h.out a w ⟨ho.ev,ho.sat.mono hE⟩⟩
theorem O1.post {op:Op} {C':Value→List Hl→Prop} (h:O1 P op ty n e H C') (hC:∀ v H',C' v H'→∃ H2,C v H2∧∀ h,stars H' h→stars H2 h):O1 P op ty n e H C :=
 ⟨fun a w ho o h1 h2 K Q hK=>h.out a w ho o h1 h2 K Q fun v w' H' hc hx hs=>by
  obtain ⟨H2,hc2,hE⟩:=hC v H' hc
  exact hK v w' H2 hc2 hx (hs.mono hE)⟩
theorem ox_store {T T':TypeId} {z:Value} {by_:Nat} [TInf P T z 1 by_] {b i:Nat} {cs:List Value} {v:Value} {H':List Hl} (hx:opd e x=some (.pointer (some ⟨b,i,none⟩))) (hy:opd e y=some v)
  [s:SBox H b T' cs H'] (hi:i<cs.length) (h1:v.oneCell'=true) (h:C undef (.box b T' (cs.set i v)::H')):O1 P (.store T x y) ty n e H C:=by
 obtain ⟨H2,u1,u2⟩:=s.s.upd (.box b T' (cs.set i v))
 exact (o1_store (C:=fun v K=>v=undef∧K=H2) hx hy u1 hi h1 ⟨rfl,rfl⟩).post fun v K hK=>⟨_,hK.1 ▸ h,hK.2 ▸ u2⟩
theorem ox_append {α:Type} {enc:α→Value} {T E:TypeId} {z:Value} {by_:Nat} {ad ad':Option Addr} {c c':Nat} {xs ys:List α} {H':List Hl} {m a0:Nat} [TSl P T E] [TInf P E z 1 by_] (hx:opd e x=some (.slice ad a0 c)) (hy:opd e y=some (.slice ad' m c'))
  [s:SRow H ad c a0 E (xs.map enc) H'] (hr:RsH H enc ad' c' ys) (hm:m=ys.length) (hz:z.oneCell'=true) (henc:∀ x,(enc x).oneCell'=true) (hb:(a0+m)*by_≤140737488355328) (hb2:a0+m≤9223372036854775807)
  (h:∀ ad2 c2,C (.slice ad2 (a0+m) c2) (.row E 1 (.slice ad2 (a0+m) c2) (a0+m) ((xs++ys).map enc)::H')) :
  O1 P (.call ⟨.builtin .append, #[x,y], #[T,T]⟩) ty n e H C:=o1_append hz henc hx hy s.s hm hr hb hb2 h
theorem rx_any {α:Type} {A:Hp→Prop} {H':List Hl} {enc:α→Value} {ad:Option Addr} {c:Nat} {l:List α} (h:Rs A enc ad c l) [s:SAny H A H']:RsH H enc ad c l:=rs_any s.s h
theorem rx_row {α:Type} {H':List Hl} {T:TypeId} {enc:α→Value} {ad:Option Addr} {n c:Nat} {l:List α} [s:SRow H ad c n T (l.map enc) H']:RsH H enc ad c l:=rs_row s.s
theorem rx_box {α:Type} {H':List Hl} {T:TypeId} {enc:α→Value} {b c:Nat} {l:List α} [s:SBox H b T (l.map enc) H'] (hc:l.length=c) (hb:c≤9223372036854775807):RsH H enc (some ⟨b,0,none⟩) c l:=rs_box hc hb s.s
theorem any_of_list {L H:List Hl} {w:World} (h:sat w (stars (L++H))):sat w (stars (L++[.any (stars H)])) :=
 h.mono fun x hx=>stars_append' _ _ _ (sep_mono (stars_append _ _ _ hx) (fun _ a=>a) (fun h' hh=>⟨h',fun _=>none,fun _ => .inr rfl,.refl _,fun _ _ e=>(by cases e),hh,trivial⟩))
theorem list_of_any {L H:List Hl} {w:World} (h:sat w (stars (L++[.any (stars H)]))):sat w (stars (L++H)) :=
 h.mono fun x hx=>stars_append' _ _ _ (sep_mono (stars_append _ _ _ hx) (fun _ a=>a) (fun h' hh=>by
  obtain ⟨h1,h2,_,s1,_,a,_⟩:=hh
  exact stars_up (L:=H) a s1))
theorem spec_fn {f:FuncId} {fn:Func} {c:Code} {args:List Value} {X:Type} {good:X→Prop} {val:X→Value} {res:X→List Hl} {m:Nat} (own:List Hl) (H:List Hl)
  (hf:P.funcs[f]?=some fn) (hb:fn.body=some c) (hm:fn.ntmps=m) (hname:(fn.name == "runtime.NumGoroutine")=false) (hle:Nat.ble args.length m=true)
  (h:∀ W,St P c (.fn fn fun x w'=>∃ r,good r∧x = .returned (val r)∧Ext W w'∧sat w' (stars (res r++[.any (stars H)]))) m (slots 0 args) W (own++[.any (stars H)])):Spec P f args (own++H) good val (fun r=>res r++H):=by
 have h1:Spec P f args (own++[.any (stars H)]) good val (fun r=>res r++[.any (stars H)]):=spec_of m hf hb hm hname hle h
 exact ⟨h1.enters,fun w hs=>(h1.calls w (any_of_list hs)).mono fun x w' ⟨r,hg,he,hx,hsat⟩=>⟨r,hg,he,hx,list_of_any hsat⟩⟩
theorem spec_pure {f:FuncId} {fn:Func} {c:Code} {args:List Value} {X:Type} {good:X→Prop} {val:X→Value} {res:X→List Hl} {m:Nat} (H:List Hl)
  (hf:P.funcs[f]?=some fn) (hb:fn.body=some c) (hm:fn.ntmps=m) (hname:(fn.name == "runtime.NumGoroutine")=false) (hle:Nat.ble args.length m=true)
  (h:∀ W,St P c (.fn fn fun x w'=>∃ r,good r∧x = .returned (val r)∧Ext W w'∧sat w' (stars (res r++[.any (stars H)]))) m (slots 0 args) W [.any (stars H)]):Spec P f args H good val (fun r=>res r++H):=spec_fn [] H hf hb hm hname hle h
theorem Spec.bv {f:FuncId} {args:List Value} {good:Unit→Prop} {x b:Bool} {res:Unit→List Hl} (h:Spec P f args H good (fun _ => .bool x) res) (hx:x=b):Spec P f args H good (fun _ => .bool b) res:=hx ▸ h
theorem rt_tmp {X:Type} {fn:Func} {good:X→Prop} {val:X→Value} {res:X→List Hl} {t:Nat} {v:Value} (r:X) (hres:fn.results = #[.tmp t]) (hl:look e t=some v) (hv:v=val r) (hg:good r) (hE:Ent H (res r)) :
  Rt P (.fn fn fun x w'=>∃ r,good r∧x = .returned (val r)∧Ext W w'∧sat w' (stars (res r))) n e W H :=
 rt_fn (v:=v) (fun a w ho=>by simp [results,hres,ho.ev.get t v hl]) r hg hv hE
theorem rt_tmp2 {X:Type} {fn:Func} {good:X→Prop} {val:X→Value} {res:X→List Hl} {t t':Nat} {v v':Value} (r:X) (hres:fn.results = #[.tmp t,.tmp t']) (hl:look e t=some v) (hl':look e t'=some v') (hv : .tuple #[v,v']=val r) (hg:good r) (hE:Ent H (res r)) :
  Rt P (.fn fn fun x w'=>∃ r,good r∧x = .returned (val r)∧Ext W w'∧sat w' (stars (res r))) n e W H :=
 rt_fn (v := .tuple #[v,v']) (fun a w ho=>by simp [results,hres,ho.ev.get t v hl,ho.ev.get t' v' hl']) r hg hv hE
end
structure Row where
 dst:Option Nat
 edges:List Nat
 clo:List Nat
 guard:Option (Nat × Bool)
def edgesOf (o:Oper):List Nat:=(o.after.toList.filter (Region.binds .any)).map (·.on)
inductive Sp where
 | c (v:Value)
 | p (Q:Value→Prop) (R:Value→List Hl)
 | off
def Sp.ok:Sp→Value→Prop
 | .c u,v=>v=u
 | .p Q _,v=>Q v
 | .off,v=>v=undef
def Sp.hp:Sp→Value→List Hl
 | .p _ R,v=>R v
 | _,_=>[]
def Sp.run:Sp→Bool
 | .off=>false
 | _=>true
def spAt (sp:List Sp) (i:Nat):Sp:=(sp[i]?).getD .off
def dstAt (tab:List Row) (i:Nat):Option Nat:=(tab[i]?).bind (·.dst)
def envL (tab:List Row) (vals:Nat→Value) (l:List Nat):Ev:=l.filterMap fun j=>(dstAt tab j).map fun d=>(d,vals j)
def hpL (sp:List Sp) (vals:Nat→Value) (l:List Nat):List Hl:=l.flatMap fun j=>(spAt sp j).hp (vals j)
def AllV (sp:List Sp) (tab:List Row):List Nat→(Ev→List Hl→Prop)→Prop
 | [],C=>C [] []
 | j::l,C=>match spAt sp j,dstAt tab j with
  | .c v,some d=>AllV sp tab l fun E Hs=>C ((d,v)::E) Hs
  | .c _,none=>AllV sp tab l C
  | .p Q R,some d=>∀ v,Q v→AllV sp tab l fun E Hs=>C ((d,v)::E) (R v++Hs)
  | .p Q R,none=>∀ v,Q v→AllV sp tab l fun E Hs=>C E (R v++Hs)
  | .off,some d=>AllV sp tab l fun E Hs=>C ((d,undef)::E) Hs
  | .off,none=>AllV sp tab l C
theorem AllV.out {sp:List Sp} {tab:List Row} (vals:Nat→Value):∀ (l:List Nat) (C:Ev→List Hl→Prop),(∀ j∈l,(spAt sp j).ok (vals j))→AllV sp tab l C→C (envL tab vals l) (hpL sp vals l)
 | [],C,_,h=>h
 | j::l,C,hok,h=>by
  have hj:=hok j (by simp)
  have ih:=fun C=>AllV.out (sp:=sp) (tab:=tab) vals l C (fun i hi=>hok i (by simp [hi]))
  unfold AllV at h
  cases hs:spAt sp j with
  | c v =>
   rw [hs] at hj h
   have hj:vals j=v:=hj
   cases hd:dstAt tab j with
   | none=>rw [hd] at h;simpa [envL,hpL,hd,hs,Sp.hp] using ih _ h
   | some d=>rw [hd] at h;simpa [envL,hpL,hd,hs,Sp.hp,hj] using ih _ h
  | p Q R =>
   rw [hs] at hj h
   cases hd:dstAt tab j with
   | none=>rw [hd] at h;simpa [envL,hpL,hd,hs,Sp.hp] using ih _ (h _ hj)
   | some d=>rw [hd] at h;simpa [envL,hpL,hd,hs,Sp.hp] using ih _ (h _ hj)
  | off =>
   rw [hs] at hj h
   have hj:vals j=undef:=hj
   cases hd:dstAt tab j with
   | none=>rw [hd] at h;simpa [envL,hpL,hd,hs,Sp.hp] using ih _ h
   | some d=>rw [hd] at h;simpa [envL,hpL,hd,hs,Sp.hp,hj] using ih _ h
def keep (tab:List Row) (i:Nat) (t:Nat):Bool:=tab.zipIdx.all fun (r,j)=>r.dst != some t || r.clo.contains i
def gdOk (sp:List Sp) (i:Nat):Option (Nat × Bool)→Prop
 | none=>(spAt sp i).run=true
 | some (j,b)=>((spAt sp i).run=true∧spAt sp j = .c (.bool b))∨((spAt sp i).run=false∧(spAt sp j = .off∨spAt sp j = .c (.bool (!b))))
def tabOk (tab:List Row):Bool :=
 tab.zipIdx.all fun (r,i)=>r.edges.all (·<i) && r.clo.all (fun j=>r.edges.contains j || r.edges.any fun m=>((tab[m]?).map (·.clo.contains j)).getD false) &&
  (decide r.clo.Nodup) && (match r.guard with|none=>true|some (j,_)=>r.edges.contains j && ((tab[j]?).bind (·.dst)).isSome) &&
  (match r.dst with|none=>true|some d=>tab.zipIdx.all fun (s,j)=>s.dst != some d || i == j)
def Obl (P:Program) (n:Nat) (e:Ev) (H:List Hl) (sp:List Sp) (tab:List Row) (i:Nat) (o:Oper):Prop :=
 ∀ r,tab[i]?=some r→gdOk sp i r.guard∧((spAt sp i).run=true→∀ G:Hp→Prop,AllV sp tab r.clo fun E Hs =>
  O1 P o.op o.type n (E++e.filter fun x=>keep tab i x.1) (Hs++(H++[.any G])) fun v H'=>(spAt sp i).ok v∧∀ h,stars H' h→stars ((spAt sp i).hp v++(Hs++(H++[.any G]))) h)
def Obls (P:Program) (n:Nat) (e:Ev) (H:List Hl) (sp:List Sp) (tab:List Row):Nat→List Oper→Prop
 | _,[]=>True
 | i,o::l=>Obl P n e H sp tab i o∧Obls P n e H sp tab (i+1) l
theorem Obls.at_ {P:Program} {n:Nat} {e:Ev} {H:List Hl} {sp:List Sp} {tab:List Row}:∀ (l:List Oper) (i:Nat),Obls P n e H sp tab i l→∀ j o,l[j]?=some o→Obl P n e H sp tab (i+j) o
 | [],_,_,j,o,h=>by simp at h
 | x::l,i,hh,0,o,h=>by simp at h;subst h;exact hh.1
 | x::l,i,hh,j+1,o,h=>by
  have:=Obls.at_ l (i+1) hh.2 j o (by simpa using h)
  rwa [show i+1+j=i+(j+1) from by omega] at this
theorem stars_swap {A B C:List Hl} {h:Hp} (x:stars (A++(B++C)) h):stars (B++(A++C)) h:=by
 have:=sep_assoc' (sep_mono (stars_append _ _ _ x) (fun _ a=>a) (stars_append _ _))
 have:=sep_assoc (sep_mono this (fun _=>sep_comm) (fun _ a=>a))
 exact stars_append' _ _ _ (sep_mono this (fun _ a=>a) (stars_append' _ _))
theorem pick {f:Nat→List Hl} {H:List Hl}:∀ (C D:List Nat),C.Nodup→(∀ x∈C,x∈D)→∃ R,∀ h,(stars (D.flatMap f++H) h→stars (C.flatMap f++(R++H)) h)∧(∀ X:List Hl,stars (X++(C.flatMap f++(R++H))) h→stars (X++(D.flatMap f++H)) h)
 | [],D,_,_=>⟨D.flatMap f,fun h=>⟨fun x=>by simpa using x,fun X x=>by simpa using x⟩⟩
 | c::C,D,hn,hs=>by
  obtain ⟨hc,hn'⟩:=List.nodup_cons.1 hn
  obtain ⟨D1,D2,rfl⟩:=List.append_of_mem (hs c (by simp))
  obtain ⟨R,hR⟩:=pick (f:=f) (H:=H) C (D1++D2) hn' (fun x hx=>by
   have:=hs x (by simp [hx])
   simp only [List.mem_append,List.mem_cons] at this ⊢
   rcases this with h|h|h
   ·exact .inl h
   ·exact absurd (h ▸ hx) hc
   ·exact .inr h)
  refine ⟨R,fun h=>⟨fun x=>?_,fun X x=>?_⟩⟩
  ·simp only [List.flatMap_append,List.flatMap_cons,List.append_assoc] at x ⊢
   have x1:=stars_append _ _ _ (stars_swap x)
   refine stars_append' _ _ _ (sep_mono x1 (fun _ a=>a) fun h' y=>(hR h').1 ?_)
   simpa [List.flatMap_append,List.append_assoc] using y
  ·simp only [List.flatMap_append,List.flatMap_cons,List.append_assoc] at x ⊢
   have x1:=stars_swap x
   have x2:=stars_append _ _ _ x1
   have x3:=stars_append' _ _ _ (sep_mono x2 (fun _ a=>a) fun h' y=>(hR h').2 X y)
   simp only [List.flatMap_append,List.append_assoc] at x3
   have x4:=stars_append _ _ _ (stars_swap x3)
   exact stars_append' _ _ _ (sep_mono x4 (fun _ a=>a) fun h' y=>stars_swap y)
theorem flatMap_ext {α β:Type} {f g:α→List β}:∀ {l:List α},(∀ x∈l,f x=g x)→l.flatMap f=l.flatMap g
 | [],_=>rfl
 | x::l,h=>by simp only [List.flatMap_cons];rw [h x (by simp),flatMap_ext fun y hy=>h y (by simp [hy])]
theorem look_append:∀ (A B:Ev) (t:Nat) (v:Value),look (A++B) t=some v→look A t=some v∨look B t=some v
 | [],B,t,v,h => .inr h
 | (j,u)::A,B,t,v,h=>by
  simp only [List.cons_append,look] at h ⊢
  cases hb:Nat.beq j t
  ·simp only [hb,cond_false] at h ⊢;exact look_append A B t v h
  ·simp only [hb,cond_true] at h ⊢;exact .inl h
theorem look_append':∀ (A B:Ev) (t:Nat) (v:Value),look (A++B) t=some v→look A t=some v∨look A t=none∧look B t=some v
 | [],B,t,v,h => .inr ⟨rfl,h⟩
 | (j,u)::A,B,t,v,h=>by
  simp only [List.cons_append,look] at h ⊢
  cases hb:Nat.beq j t
  ·simp only [hb,cond_false] at h ⊢;exact look_append' A B t v h
  ·simp only [hb,cond_true] at h ⊢;exact .inl h
theorem look_env_none {tab:List Row} {vals:Nat→Value}:∀ (l:List Nat) (t:Nat),look (envL tab vals l) t=none→∀ j∈l,dstAt tab j≠some t
 | [],t,h,j,hj=>by simp at hj
 | i::l,t,h,j,hj=>by
  cases hd:dstAt tab i with
  | none =>
   simp only [envL,List.filterMap_cons,hd,Option.map_none] at h
   rcases List.mem_cons.1 hj with rfl|hj
   ·rw [hd];simp
   ·exact look_env_none l t h j hj
  | some d =>
   simp only [envL,List.filterMap_cons,hd,Option.map_some,look] at h
   cases hb:Nat.beq d t
   ·simp only [hb,cond_false] at h
    rcases List.mem_cons.1 hj with rfl|hj
    ·rw [hd];intro e;cases e;simp at hb
    ·exact look_env_none l t h j hj
   ·simp [hb] at h
theorem look_env {tab:List Row} {vals:Nat→Value}:∀ (l:List Nat) (t:Nat) (v:Value),look (envL tab vals l) t=some v→∃ j∈l,dstAt tab j=some t∧vals j=v
 | [],t,v,h=>by simp [envL,look] at h
 | j::l,t,v,h=>by
  cases hd:dstAt tab j with
  | none =>
   simp only [envL,List.filterMap_cons,hd,Option.map_none] at h
   obtain ⟨i,hi,h1,h2⟩:=look_env l t v h
   exact ⟨i,by simp [hi],h1,h2⟩
  | some d =>
   simp only [envL,List.filterMap_cons,hd,Option.map_some,look] at h
   cases hb:Nat.beq d t
   ·rw [hb] at h
    obtain ⟨i,hi,h1,h2⟩:=look_env l t v h
    exact ⟨i,by simp [hi],h1,h2⟩
   ·rw [hb] at h
    have:=Nat.eq_of_beq_eq_true hb
    subst this
    simp only [cond_true,Option.some.injEq] at h
    exact ⟨j,by simp,hd,h⟩
theorem look_filter {f:Nat→Bool}:∀ (e:Ev) (t:Nat) (v:Value),look (e.filter fun x=>f x.1) t=some v→f t=true∧look e t=some v
 | [],t,v,h=>by simp [look] at h
 | (j,u)::e,t,v,h=>by
  simp only [List.filter_cons] at h
  cases hf:f j
  ·rw [if_neg (by simp [hf])] at h
   obtain ⟨h1,h2⟩:=look_filter e t v h
   refine ⟨h1,?_⟩
   simp only [look]
   cases hb:Nat.beq j t
   ·exact h2
   ·have:=Nat.eq_of_beq_eq_true hb;subst this;rw [hf] at h1;cases h1
  ·rw [if_pos (by simp [hf])] at h
   simp only [look] at h ⊢
   cases hb:Nat.beq j t
   ·rw [hb] at h;exact look_filter e t v h
   ·rw [hb] at h
    have:=Nat.eq_of_beq_eq_true hb
    subst this
    exact ⟨hf,h⟩
section
variable {P:Program} {k:Kon} {n:Nat} {e e0:Ev} {W:World} {H:List Hl} {sp:List Sp} {tab:List Row} {l:List Oper}
structure Mid (tab:List Row) (sp:List Sp) (n:Nat) (e:Ev) (W:World) (H:List Hl) (D:List Nat) (a:Act) (w:World):Prop where
 size:a.tmps.size=n
 defers:a.defers=[]
 ext:Ext W w
 keep:∀ t v,look e t=some v→(∀ i∈D,dstAt tab i≠some t)→a.tmps[t]?=some v
 vals:∃ vals:Nat→Value,(∀ i∈D,(spAt sp i).ok (vals i)∧∀ d,dstAt tab i=some d→a.tmps[d]?=some (vals i))∧sat w (stars (hpL sp vals D++H))
theorem tabOk.row (ht:tabOk tab=true) {i:Nat} {r:Row} (hr:tab[i]?=some r):(∀ j∈r.edges,j<i)∧(∀ j∈r.clo,j∈r.edges∨∃ m∈r.edges,∃ s,tab[m]?=some s∧j∈s.clo)∧r.clo.Nodup ∧
  (∀ j b,r.guard=some (j,b)→j∈r.edges∧∃ d,dstAt tab j=some d)∧(∀ d,r.dst=some d→∀ j,dstAt tab j=some d→i=j):=by
 have h:=ht
 simp only [tabOk,List.all_eq_true] at h
 have hmem:(r,i)∈tab.zipIdx:=by
  rw [List.mem_zipIdx_iff_getElem?];simpa using hr
 have h1:=h _ hmem
 simp only [Bool.and_eq_true,List.all_eq_true,decide_eq_true_eq,Bool.or_eq_true,List.contains_eq_mem,List.any_eq_true] at h1
 obtain ⟨⟨⟨⟨h1,h2⟩,h3⟩,h4⟩,h5⟩:=h1
 refine ⟨h1,fun j hj=>?_,h3,fun j b hg=>?_,fun d hd j hj=>?_⟩
 ·rcases h2 j hj with hh|⟨m,hm,hh⟩
  ·exact .inl (by simpa using hh)
  ·refine .inr ⟨m,hm,?_⟩
   cases hs:tab[m]? with
   | none=>rw [hs] at hh;simp at hh
   | some s=>rw [hs] at hh;exact ⟨s,rfl,by simpa using hh⟩
 ·rw [hg] at h4
  simp only [Bool.and_eq_true] at h4
  exact ⟨by simpa using h4.1,by simpa [dstAt,Option.isSome_iff_exists] using h4.2⟩
 ·rw [hd] at h5
  simp only [List.all_eq_true] at h5
  cases hs:tab[j]? with
  | none=>simp [dstAt,hs] at hj
  | some s =>
   have:=h5 (s,j) (by rw [List.mem_zipIdx_iff_getElem?];simpa using hs)
   simp only [dstAt,hs,Option.bind_some] at hj
   simpa [hj] using this
theorem mid_step (he0:Covers e e0) (ht:tabOk tab=true) (hrows:l.map (fun o=>(o.dst,edgesOf o,o.guard))=tab.map (fun r=>(r.dst,r.edges,r.guard))) (hob:Obls P n e0 H sp tab 0 l) (hdst:tab.all (fun r=>match r.dst with|none=>true|some d=>Nat.blt d n)=true)
  {D:List Nat} (hD:D.Nodup) (hcl:∀ i∈D,∀ r,tab[i]?=some r→∀ j∈r.edges,j∈D) {i:Nat} (hi:i ∉ D) {r:Row} (hr:tab[i]?=some r) (hre:∀ j∈r.edges,j∈D) {a:Act} {w:World} (hm:Mid tab sp n e W H D a w)
  (K:Act→World→Prop) (hK:∀ a w,Mid tab sp n e W H (i::D) a w→K a w):wpOp P l.toArray (k.post P) i K a w:=by
 have hlen:l.length=tab.length:=by simpa using congrArg List.length hrows
 have hil:i<l.length:=by rw [hlen];exact (List.getElem?_eq_some_iff.1 hr).1
 have ho:l[i]?=some l[i]:=List.getElem?_eq_getElem hil
 generalize hoo:l[i]=o at ho
 have hrow:(o.dst,edgesOf o,o.guard)=(r.dst,r.edges,r.guard):=by
  have:=congrArg (fun x=>x[i]?) hrows
  simp only [List.getElem?_map,ho,hr,Option.map_some,Option.some.injEq] at this
  exact this
 simp only [Prod.mk.injEq] at hrow
 obtain ⟨hd,he,hg⟩:=hrow
 obtain ⟨c1,c2,c3,c4,c5⟩:=tabOk.row ht hr
 have hdn:∀ d,r.dst=some d→d<n:=by
  intro d hd
  have:=List.all_eq_true.1 hdst r (List.mem_of_getElem? hr)
  rw [hd] at this
  simpa [Nat.blt_eq] using this
 have hdi:dstAt tab i=r.dst:=by simp [dstAt,hr]
 -- all of the closure has been done
 have key:∀ m,∀ s,tab[m]?=some s→m∈D→∀ j∈s.clo,j∈D:=by
  intro m
  induction m using Nat.strongRecOn with
  | _ m ih =>
   intro s hs hmD j hj
   obtain ⟨e1,e2,_⟩:=tabOk.row ht hs
   rcases e2 j hj with hh|⟨q,hq,s',hs',hj'⟩
   ·exact hcl m hmD s hs j hh
   ·exact ih q (e1 q hq) s' hs' (hcl m hmD s hs q hq) j hj'
 have hclo:∀ j∈r.clo,j∈D:=by
  intro j hj
  rcases c2 j hj with hh|⟨m,hm',s,hs,hj'⟩
  ·exact hre j hh
  ·exact key m s hs (hre m hm') j hj'
 obtain ⟨gd,hrun⟩:=(Obls.at_ l 0 hob i o ho) r (by simpa using hr)
 simp only [Nat.zero_add] at gd hrun
 obtain ⟨vals,hvals,hsat⟩:=hm.vals
 have hnew:∀ (v:Value),(spAt sp i).ok v→∀ w',Ext w w'→sat w' (stars ((spAt sp i).hp v++(hpL sp vals D++H)))→Mid tab sp n e W H (i::D) (a.put o.dst v) w':=by
  intro v hv w' hx hs
  have hslot:∀ t,r.dst≠some t→(a.put o.dst v).tmps[t]?=a.tmps[t]?:=by
   intro t ht'
   rw [hd]
   cases hrd:r.dst with
   | none=>rfl
   | some d =>
    have:d≠t:=fun e=>by subst e;exact ht' hrd
    simp [Act.put,this]
  have hself:∀ d,r.dst=some d→(a.put o.dst v).tmps[d]?=some v:=by
   intro d hrd
   rw [hd,hrd]
   simp [Act.put,hm.size,hdn d hrd]
  refine ⟨?_,?_,hm.ext.trans hx,fun t u hl hn=>?_,fun j=>if j=i then v else vals j,fun j hj=>?_,?_⟩
  ·rw [hd];cases r.dst <;> simp [Act.put,hm.size]
  ·rw [hd];cases r.dst <;> simp [Act.put,hm.defers]
  ·rw [hslot t (fun e=>hn i (by simp) (hdi.trans e))]
   exact hm.keep t u hl (fun j hj=>hn j (by simp [hj]))
  ·by_cases hji:j=i
   ·subst hji
    refine ⟨by simpa using hv,fun d hdd=>?_⟩
    simp only [if_true]
    exact hself d (hdi.symm.trans hdd)
   ·have hjD:j∈D:=by simpa [hji] using hj
    obtain ⟨q1,q2⟩:=hvals j hjD
    refine ⟨by simpa [hji] using q1,fun d hdd=>?_⟩
    simp only [hji,if_false]
    rw [hslot d (fun e=>hji (c5 d e j hdd).symm)]
    exact q2 d hdd
  ·have hsame:∀ L:List Nat,(∀ j∈L,j∈D)→hpL sp (fun j=>if j=i then v else vals j) L=hpL sp vals L:=by
    intro L hL
    unfold hpL
    refine flatMap_ext fun j hj=>?_
    have:j≠i:=fun e=>hi (e ▸ hL j hj)
    simp [this]
   have:hpL sp (fun j=>if j=i then v else vals j) (i::D)=(spAt sp i).hp v++hpL sp vals D:=by
    rw [←hsame D (fun _ h=>h)]
    simp [hpL]
   rw [this,List.append_assoc]
   exact hs
 unfold wpOp
 simp only [List.getElem?_toArray,ho]
 have hdo:∀ j,(l.toArray[j]?).bind (·.dst)=dstAt tab j:=by
  intro j
  have:=congrArg (fun x=>x[j]?) hrows
  simp only [List.getElem?_map] at this
  simp only [List.getElem?_toArray,dstAt]
  cases h1:l[j]? <;> cases h2:tab[j]? <;> simp_all
 have hyield:∀ j x b,r.guard=some (j,b)→spAt sp j = .c (.bool x)→yielded l.toArray a.tmps j=some x:=by
  intro j x b hgd hs
  obtain ⟨hje,d,hd⟩:=c4 j b hgd
  obtain ⟨q1,q2⟩:=hvals j (hre j hje)
  rw [hs] at q1
  have q1:vals j = .bool x:=q1
  unfold yielded
  rw [hdo j,hd]
  simp [q2 d hd,q1]
 have hyield':∀ j b,r.guard=some (j,b)→spAt sp j = .off→yielded l.toArray a.tmps j=none:=by
  intro j b hgd hs
  obtain ⟨hje,d,hd⟩:=c4 j b hgd
  obtain ⟨q1,q2⟩:=hvals j (hre j hje)
  rw [hs] at q1
  have q1:vals j=undef:=q1
  unfold yielded
  rw [hdo j,hd]
  simp [q2 d hd,q1,undef]
 cases hsr:(spAt sp i).run with
 | false =>
  have hoff:spAt sp i = .off:=by
   cases h:spAt sp i <;> rw [h] at hsr <;> simp [Sp.run] at hsr
  have hw:Region.wanted o (yielded l.toArray a.tmps)=false:=by
   unfold Region.wanted
   rw [hg]
   cases hgd:r.guard with
   | none=>rw [hgd] at gd;rw [show (spAt sp i).run=true from gd] at hsr;cases hsr
   | some jb =>
    obtain ⟨j,b⟩:=jb
    rw [hgd] at gd
    rcases gd with ⟨h1,_⟩|⟨_,h2|h2⟩
    ·rw [h1] at hsr;cases hsr
    ·simp [hyield' j b hgd h2]
    ·simp [hyield j _ b hgd h2]
  rw [hw]
  refine hK _ _ (hnew undef (by rw [hoff];exact rfl) w (.refl w) ?_)
  rw [hoff]
  exact hsat
 | true =>
  have hw:Region.wanted o (yielded l.toArray a.tmps)=true:=by
   unfold Region.wanted
   rw [hg]
   cases hgd:r.guard with
   | none=>rfl
   | some jb =>
    obtain ⟨j,b⟩:=jb
    rw [hgd] at gd
    rcases gd with ⟨_,h1⟩|⟨h1,_⟩
    ·simp [hyield j _ b hgd h1]
    ·rw [h1] at hsr;cases hsr
  rw [hw]
  simp only [if_true]
  left
  obtain ⟨R,hR⟩:=pick (f:=fun j=>(spAt sp j).hp (vals j)) (H:=H) r.clo D c3 hclo
  have h1:=AllV.out vals r.clo _ (fun j hj=>(hvals j (hclo j hj)).1) (hrun hsr (stars R))
  refine h1.out a w ⟨⟨hm.size,hm.defers,fun t v hl=>?_⟩,?_⟩ o rfl rfl K _ fun v w' H' hc hx hs=>hK _ _ (hnew v hc.1 w' hx ?_)
  ·rcases look_append _ _ t v hl with hl|hl
   ·obtain ⟨j,hj,hd',rfl⟩:=look_env _ t v hl
    exact (hvals j (hclo j hj)).2 t hd'
   ·obtain ⟨hk,hl⟩:=look_filter e0 t v hl
    refine hm.keep t v (he0.look t v hl) fun j hj hd'=>?_
    simp only [keep,List.all_eq_true] at hk
    cases hs:tab[j]? with
    | none=>simp [dstAt,hs] at hd'
    | some s =>
     have:=hk (s,j) (by rw [List.mem_zipIdx_iff_getElem?];simpa using hs)
     simp only [dstAt,hs,Option.bind_some] at hd'
     simp only [hd',bne_self_eq_false,Bool.false_or,List.contains_eq_mem,decide_eq_true_eq] at this
     exact hi (key j s hs hj i this)
  ·refine hsat.mono fun h x=>?_
   have x1:=(hR h).1 x
   refine stars_append' _ _ _ (sep_mono (stars_append _ _ _ x1) (fun _ a=>a) fun h' y=>?_)
   have y1:=sep_comm (stars_append _ _ _ y)
   exact stars_append' _ _ _ (sep_mono y1 (fun _ a=>a) fun h2 z=>⟨h2,fun _=>none,fun _ => .inr rfl,.refl _,fun _ _ e=>(by cases e),z,trivial⟩)
  ·refine hs.mono fun h x=>(hR h).2 _ ?_
   have x1:=hc.2 h x
   refine stars_append' _ _ _ (sep_mono (stars_append _ _ _ x1) (fun _ a=>a) fun h' y=>?_)
   refine stars_append' _ _ _ (sep_mono (stars_append _ _ _ y) (fun _ a=>a) fun h2 z=>?_)
   refine stars_append' _ _ _ (sep_comm (sep_mono (stars_append _ _ _ z) (fun _ a=>a) fun h3 u=>?_))
   obtain ⟨u1,u2,_,s1,_,q,_⟩:=u
   exact stars_up (L:=R) q s1
theorem filter_le {p:Nat→Bool} {i:Nat}:∀ (l:List Nat),(l.filter fun x=>p x && x != i).length≤(l.filter p).length
 | []=>by simp
 | y::l=>by
  have ih:=filter_le (p:=p) (i:=i) l
  simp only [List.filter_cons]
  cases hy:p y
  ·simpa using ih
  ·by_cases hyi:y=i
   ·subst hyi;simp;omega
   ·simp [hyi];exact ih
theorem filter_lt {p:Nat→Bool} {i:Nat}:∀ (l:List Nat),i∈l→p i=true→(l.filter fun x=>p x && x != i).length<(l.filter p).length
 | [],h,_=>by simp at h
 | x::l,h,hp=>by
  by_cases hx:x=i
  ·subst hx
   have hle:=filter_le (p:=p) (i:=x) l
   simp only [List.filter_cons,hp,bne_self_eq_false,Bool.and_false,Bool.false_eq_true,if_false,if_true,List.length_cons]
   omega
  ·have:=filter_lt l (by simpa [Ne.symm hx] using h) hp
   simp only [List.filter_cons]
   cases hpx:p x
   ·simpa using this
   ·simp [hx];exact this
theorem any_all (he0:Covers e e0) (ht:tabOk tab=true) (hrows:l.map (fun o=>(o.dst,edgesOf o,o.guard))=tab.map (fun r=>(r.dst,r.edges,r.guard))) (hob:Obls P n e0 H sp tab 0 l) (hdst:tab.all (fun r=>match r.dst with|none=>true|some d=>Nat.blt d n)=true)
  (hend:∀ D a w,(∀ i,i<l.length→i∈D)→Mid tab sp n e W H D a w→k.post P .normal a w) :
  ∀ (fuel:Nat) (listed:Array Bool) (D:List Nat) (a:Act) (w:World),D.Nodup→(∀ i∈D,i<l.length)→(∀ i∈D,∀ r,tab[i]?=some r→∀ j∈r.edges,j∈D)→listed.size=l.length→(∀ i,i<l.length→listed[i]?=some (decide (i∈D))) →
   ((List.range l.length).filter fun x => !decide (x∈D)).length≤fuel→Mid tab sp n e W H D a w→wpAny P .any l.toArray (k.post P) fuel listed a w:=by
 have hlen:l.length=tab.length:=by simpa using congrArg List.length hrows
 have hrow:∀ i,i<l.length→∃ r o,tab[i]?=some r∧l[i]?=some o∧edgesOf o=r.edges:=by
  intro i hi
  have h1:l[i]?=some l[i]:=List.getElem?_eq_getElem hi
  have h2:tab[i]?=some (tab[i]'(hlen ▸ hi)):=List.getElem?_eq_getElem _
  have:=congrArg (fun x=>x[i]?) hrows
  simp only [List.getElem?_map,h1,h2,Option.map_some,Option.some.injEq,Prod.mk.injEq] at this
  exact ⟨_,_,h2,h1,this.2.1⟩
 have hready:∀ (listed:Array Bool) (D:List Nat),listed.size=l.length→(∀ i,i<l.length→listed[i]?=some (decide (i∈D)))→∀ i,i<l.length→i ∉ D→(∀ r,tab[i]?=some r→∀ j∈r.edges,j∈D)→i∈Region.ready .any l.toArray listed:=by
  intro listed D hs hl i hi hiD hre
  obtain ⟨r,o,hr,ho,he⟩:=hrow i hi
  simp only [Region.ready,List.size_toArray,List.mem_filter,List.mem_range,Bool.and_eq_true]
  refine ⟨hi,by simp [Array.getD_eq_getD_getElem?,hl i hi,hiD],?_⟩
  simp only [List.getElem?_toArray,ho,Option.map_some,Option.getD_some]
  rw [Array.all_eq_true_iff_forall_mem]
  intro ed hed
  cases hb:Region.binds .any ed
  ·rfl
  ·have hj:ed.on∈r.edges:=by
    rw [←he]
    simp only [edgesOf,List.mem_map,List.mem_filter]
    exact ⟨ed,⟨by simpa using hed,hb⟩,rfl⟩
   have hjD:=hre r hr ed.on hj
   have hjl:ed.on<l.length:=by
    obtain ⟨c1,_⟩:=tabOk.row ht hr
    have:=c1 _ hj
    omega
   simp [Array.getD_eq_getD_getElem?,hl _ hjl,hjD]
 have hall:∀ (listed:Array Bool) (D:List Nat),listed.size=l.length→(∀ i,i<l.length→listed[i]?=some (decide (i∈D)))→Region.ready .any l.toArray listed=[]→∀ i,i<l.length→i∈D:=by
  intro listed D hs hl hr i
  induction i using Nat.strongRecOn with
  | _ i ih =>
   intro hi
   rcases Classical.em (i∈D) with h|h
   ·exact h
   ·have:=hready listed D hs hl i hi h fun r hr' j hj=>by
     obtain ⟨c1,_⟩:=tabOk.row ht hr'
     exact ih j (c1 j hj) (by have:=c1 j hj;omega)
    rw [hr] at this
    cases this
 intro fuel
 induction fuel with
 | zero =>
  intro listed D a w hD hlt hcl hs hl hf hm
  have hin:∀ i,i<l.length→i∈D:=by
   intro i hi
   rcases Classical.em (i∈D) with h|h
   ·exact h
   ·have:i∈(List.range l.length).filter fun x => !decide (x∈D):=by simp [hi,h]
    have:=List.length_pos_of_mem this
    omega
  refine ⟨?_,hend D a w hin hm⟩
  simp only [Region.ready,List.size_toArray,List.filter_eq_nil_iff,List.mem_range]
  intro i hi
  simp [Array.getD_eq_getD_getElem?,hl i hi,hin i hi]
 | succ fuel ih =>
  intro listed D a w hD hlt hcl hs hl hf hm
  refine ⟨fun hr=>hend D a w (hall listed D hs hl hr) hm,fun i hi=>?_⟩
  simp only [Region.ready,List.size_toArray,List.mem_filter,List.mem_range,Bool.and_eq_true] at hi
  obtain ⟨hil,hi1,hi2⟩:=hi
  have hiD:i ∉ D:=by simpa [Array.getD_eq_getD_getElem?,hl i hil] using hi1
  obtain ⟨r,o,hr,ho,he⟩:=hrow i hil
  have hre:∀ j∈r.edges,j∈D:=by
   intro j hj
   obtain ⟨c1,_⟩:=tabOk.row ht hr
   have hjl:j<l.length:=by have:=c1 j hj;omega
   rw [←he] at hj
   simp only [edgesOf,List.mem_map,List.mem_filter] at hj
   obtain ⟨ed,⟨hed,hb⟩,rfl⟩:=hj
   simp only [List.getElem?_toArray,ho,Option.map_some,Option.getD_some] at hi2
   rw [Array.all_eq_true_iff_forall_mem] at hi2
   have:=hi2 ed (by simpa using hed)
   simpa [hb,Array.getD_eq_getD_getElem?,hl _ hjl] using this
  refine mid_step he0 ht hrows hob hdst hD hcl hiD hr hre hm _ fun a' w' hm'=>ih _ (i::D) a' w' (List.nodup_cons.2 ⟨hiD,hD⟩) ?_ ?_ ?_ ?_ ?_ hm'
  ·intro j hj
   rcases List.mem_cons.1 hj with rfl|hj
   ·exact hil
   ·exact hlt j hj
  ·intro j hj s hs' q hq
   rcases List.mem_cons.1 hj with rfl|hj
   ·rw [hr] at hs';cases hs';exact List.mem_cons.2 (.inr (hre q hq))
   ·exact List.mem_cons.2 (.inr (hcl j hj s hs' q hq))
  ·simpa using hs
  ·intro j hj
   by_cases hji:j=i
   ·subst hji;simp [hs,hil]
   ·rw [Array.getElem?_setIfInBounds,if_neg (Ne.symm hji),hl j hj];simp [hji]
  ·have:=filter_lt (p:=fun x => !decide (x∈D)) (i:=i) (List.range l.length) (by simpa using hil) (by simpa using hiD)
   have e2:((List.range l.length).filter fun x => !decide (x∈i::D))=((List.range l.length).filter fun x=>(!decide (x∈D)) && x != i):=by
    apply List.filter_congr
    intro x _
    by_cases hx:x=i <;> by_cases hxD:x∈D <;> simp [hx,hxD]
   rw [e2]
   omega
theorem st_draw {id:Nat} (e0:Ev) (sp:List Sp) (tab:List Row) (hm:P.follows .mixedOrders=true) (he:Covers e e0) (hrows:l.map (fun o=>(o.dst,edgesOf o,o.guard))=tab.map (fun r=>(r.dst,r.edges,r.guard)))
  (ht:tabOk tab=true) (hdst:tab.all (fun r=>match r.dst with|none=>true|some d=>Nat.blt d n)=true) (hob:Obls P n e0 H sp tab 0 l)
  (h:AllV sp tab (List.range tab.length).reverse fun E Hs=>Nx P k n (E++e) W (Hs++H)):St P (.region id l.toArray true) k n e W H :=
 ⟨fun a w ho=>by
  have hlen:l.length=tab.length:=by simpa using congrArg List.length hrows
  refine wp_region_any hm ?_
  refine any_all he ht hrows hob hdst (fun D a w hall hm=>?_) _ _ [] _ _ List.nodup_nil (by simp) (by simp) (by simp) (fun i hi=>by simp [hi]) (Nat.le_trans (List.length_filter_le _ _) (by simp)) ⟨ho.ev.size,ho.ev.defers,ho.ext.drew,fun t v hl _=>ho.ev.get t v hl,fun _=>undef,by simp,?_⟩
  ·obtain ⟨vals,hv,hs⟩:=hm.vals
   have hin:∀ j∈(List.range tab.length).reverse,j∈D:=fun j hj=>hall j (by simp at hj;omega)
   have hx:=AllV.out vals _ _ (fun j hj=>(hv j (hin j hj)).1) h
   refine hx.out a w ⟨⟨hm.size,hm.defers,fun t v hl=>?_⟩,hm.ext,?_⟩
   ·rcases look_append' _ _ t v hl with hl|⟨hn,hl⟩
    ·obtain ⟨j,hj,hd,rfl⟩:=look_env _ t v hl
     exact (hv j (hin j hj)).2 t hd
    ·refine hm.keep t v hl fun i hi hd=>?_
     have hit:i<tab.length:=by
      cases hs:tab[i]? with
      | none=>simp [dstAt,hs] at hd
      | some s=>exact (List.getElem?_eq_some_iff.1 hs).1
     exact look_env_none _ t hn i (by simp;exact hit) hd
   ·obtain ⟨R,hR⟩:=pick (f:=fun j=>(spAt sp j).hp (vals j)) (H:=H) (List.range tab.length).reverse D (List.pairwise_reverse.2 (List.Pairwise.imp Ne.symm List.nodup_range)) hin
    refine hs.mono fun h x=>?_
    have x1:=stars_append _ _ _ ((hR h).1 x)
    refine stars_append' _ _ _ (sep_mono x1 (fun _ a=>a) fun h' y=>?_)
    obtain ⟨_,u2,_,_,s2,_,q⟩:=stars_append _ _ _ y
    exact stars_up (L:=H) q s2
  ·exact ho.sat⟩
end
def blk:Value→Nat
 | .slice (some a) _ _=>a.block
 | .pointer (some a)=>a.block
 | _=>0
section
variable {P:Program} {k:Kon} {n:Nat} {e:Ev} {W:World} {H:List Hl} {sp:List Sp} {tab:List Row}
theorem obl_nil {i:Nat}:Obls P n e H sp tab i []:=trivial
theorem obl_cons {i:Nat} {o:Oper} {l:List Oper} (h:Obl P n e H sp tab i o) (hl:Obls P n e H sp tab (i+1) l):Obls P n e H sp tab i (o::l):=⟨h,hl⟩
theorem obl_run {i:Nat} {dst:Option Nat} {op:Op} {ty:TypeId} {pos:String} {af:Array Edge} {g:Option (Nat × Bool)} {r:Row} (hr:tab[i]?=some r) (hg:gdOk sp i r.guard)
  (h:∀ G:Hp→Prop,AllV sp tab r.clo fun E Hs=>O1 P op ty n (E++e.filter fun x=>keep tab i x.1) (Hs++(H++[.any G])) fun v H'=>(spAt sp i).ok v∧∀ h,stars H' h→stars ((spAt sp i).hp v++(Hs++(H++[.any G]))) h) :
  Obl P n e H sp tab i ⟨dst,op,ty,pos,af,g⟩:=fun r' hr'=>by
 rw [hr] at hr'
 cases hr'
 exact ⟨hg,fun _=>h⟩
theorem gd_none {i:Nat} (h:(spAt sp i).run=true):gdOk sp i none:=h
variable {C:Ev→List Hl→Prop} {l:List Nat} {j d:Nat} {v:Value}
theorem allv_nil (h:C [] []):AllV sp tab [] C:=h
theorem allv_c (hs:spAt sp j = .c v) (hd:dstAt tab j=some d) (h:AllV sp tab l fun E Hs=>C ((d,v)::E) Hs):AllV sp tab (j::l) C:=by unfold AllV;rw [hs,hd];exact h
theorem allv_p {Q:Value→Prop} {R:Value→List Hl} (hs:spAt sp j = .p Q R) (hd:dstAt tab j=some d) (h:∀ v,Q v→AllV sp tab l fun E Hs=>C ((d,v)::E) (R v++Hs)):AllV sp tab (j::l) C:=by unfold AllV;rw [hs,hd];exact h
end
section
variable {P:Program} {n:Nat} {e:Ev} {H:List Hl} {C:Value→List Hl→Prop} {ty:TypeId} {t t':TypeId} {x y:Operand} {kd:IntKind} {p q:Int}
theorem o1_lss_d (hx:opd e x=some (.int kd p)) (hy:opd e y=some (.int kd q)) (h:C (.bool (decide (p<q))) H):O1 P (.binOp .lss t x y t') ty n e H C:=o1_cmp hx hy (fun w=>by simp [binOp_lss]) h
theorem o1_leq_d (hx:opd e x=some (.int kd p)) (hy:opd e y=some (.int kd q)) (h:C (.bool (decide (p≤q))) H):O1 P (.binOp .leq t x y t') ty n e H C:=o1_cmp hx hy (fun w=>by simp [binOp_leq]) h
theorem o1_gtr_d (hx:opd e x=some (.int kd p)) (hy:opd e y=some (.int kd q)) (h:C (.bool (decide (q<p))) H):O1 P (.binOp .gtr t x y t') ty n e H C:=o1_cmp hx hy (fun w=>by simp [binOp_gtr]) h
theorem o1_geq_d (hx:opd e x=some (.int kd p)) (hy:opd e y=some (.int kd q)) (h:C (.bool (decide (q≤p))) H):O1 P (.binOp .geq t x y t') ty n e H C:=o1_cmp hx hy (fun w=>by simp [binOp_geq]) h
theorem o1_eql_d (hx:opd e x=some (.int kd p)) (hy:opd e y=some (.int kd q)) (h:C (.bool (decide (p=q))) H):O1 P (.binOp .eql t x y t') ty n e H C:=o1_cmp hx hy (fun w=>by rw [binOp_eql,show (p == q)=decide (p=q) from rfl];rfl) h
theorem o1_neq_d (hx:opd e x=some (.int kd p)) (hy:opd e y=some (.int kd q)) (h:C (.bool (decide (p≠q))) H):O1 P (.binOp .neq t x y t') ty n e H C:=o1_cmp hx hy (fun w=>by rw [binOp_neq,bne,show (p == q)=decide (p=q) from rfl];simp) h
theorem o1_streq_d {a b:List (BitVec 8)} (hx:opd e x=some (.string (str a))) (hy:opd e y=some (.string (str b))) (h:C (.bool (decide (a=b))) H):O1 P (.binOp .eql t x y t') ty n e H C:=o1_str hx hy (by rw [binOp_string_eql,str_beq]) h
theorem o1_strneq_d {a b:List (BitVec 8)} (hx:opd e x=some (.string (str a))) (hy:opd e y=some (.string (str b))) (h:C (.bool (decide (a≠b))) H):O1 P (.binOp .neq t x y t') ty n e H C:=o1_str hx hy (by rw [binOp_string_neq,str_beq];simp) h
end
abbrev W4 (x:BitVec 32):Value := .int .u32 (x.toNat:Int)
abbrev W8 (x:BitVec 64):Value := .int .u64 (x.toNat:Int)
abbrev I (n:Int):Value := .int .i64 n
abbrev V (v:Value):Value:=v
theorem bv_small {m:Nat} (hm:m≤63) (u:BitVec m):(u.toNat:Int)≤9223372036854775807:=by
 have h1:=u.isLt
 have h2:2 ^ m≤2 ^ 63:=Nat.pow_le_pow_right (by omega) hm
 omega
class BsOf (us:List (Nat × Value)) (ys:outParam (List (BitVec 8))):Prop where eq:us.map (·.2)=ys.map B
instance bsof_nil:BsOf [] []:=⟨rfl⟩
instance bsof_cons {i:Nat} {x:BitVec 8} {us:List (Nat × Value)} {ys:List (BitVec 8)} [h:BsOf us ys]:BsOf ((i,.int .u8 (x.toNat:Int))::us) (x::ys):=⟨by simp [h.eq]⟩
class LitB (c:Int):Prop where ok:((BitVec.ofInt 8 c).toNat:Int)=c
instance (priority:=low) bsof_lit {i:Nat} {c:Int} {us:List (Nat × Value)} {ys:List (BitVec 8)} [hc:LitB c] [h:BsOf us ys]:BsOf ((i,.int .u8 c)::us) (BitVec.ofInt 8 c::ys):=⟨by simp only [List.map_cons,h.eq];rw [B,hc.ok]⟩
instance:LitB 0:=⟨by decide⟩
instance:LitB 1:=⟨by decide⟩
instance:LitB 2:=⟨by decide⟩
instance:LitB 3:=⟨by decide⟩
instance:LitB 5:=⟨by decide⟩
instance:LitB 7:=⟨by decide⟩
instance:LitB 9:=⟨by decide⟩
theorem fill_lit {P:Program}:∀ (us:List (Nat × Value)) (j m:Nat) (pre:List Value) (z:Value),us.map (·.1)=List.range' j us.length→(∀ u∈us,u.2.oneCell'=true)→pre.length=j→m=j+us.length →
  Instr.fill (fun i=>some (i*1,1)) (pre++List.replicate us.length z).toArray us=some (pre++us.map (·.2)).toArray
 | [],j,m,pre,z,_,_,_,_=>by simp [Instr.fill]
 | (i,v)::us,j,m,pre,z,hi,h1,hp,hm=>by
  simp only [List.map_cons,List.length_cons,List.range'_succ,List.cons.injEq] at hi
  obtain ⟨rfl,hi⟩:=hi
  have hv:=h1 (i,v) (by simp)
  have hc:=oneCell_cells hv
  simp only [Instr.fill,hc]
  have hsz : ¬ (i*1 + #[v].size > (pre++List.replicate (us.length+1) z).toArray.size):=by simp;omega
  have hset:Array.foldl (fun cs x=>cs.setIfInBounds (i*1+x.snd) x.fst) (pre++List.replicate (us.length+1) z).toArray #[v].zipIdx=((pre++[v])++List.replicate us.length z).toArray:=by
   simp [List.replicate_succ,hp]
  have ih:=fill_lit (P:=P) us (i+1) m (pre++[v]) z hi (fun u hu=>h1 u (by simp [hu])) (by simp;omega) (by simp at hm;omega)
  simp only [List.map_cons,List.length_cons]
  rw [hset]
  rw [if_neg (by simp only [Bool.or_eq_true,decide_eq_true_eq,not_or];exact ⟨by simp,hsz⟩),ih]
  simp
class TPl (P:Program) (T:TypeId) (pl:outParam (List (Nat × Nat))):Prop where
 c:(match P.underlying T with|some (.struct fs)=>some (fs.toList.map fun f=>(f.offset,P.cellsOf f.type))|some (.array m e)=>some ((List.range m).map fun i=>(i*P.cellsOf e,P.cellsOf e))|_=>none)=some pl
def putL:List Value→Nat→List Value→List Value
 | cs,_,[]=>cs
 | cs,off,v::vs=>putL (cs.set off v) (off+1) vs
def buildL (pl:List (Nat × Nat)):List Value→List (Nat × Value)→List Value
 | cs,[]=>cs
 | cs,(i,v)::us=>buildL pl (putL cs ((pl[i]?).getD (0,0)).1 v.cells.toList) us
section
variable {P:Program} {ops:Array Oper} {k:Kon} {rest:List Oper} {n:Nat} {e:Ev} {W:World} {H:List Hl}
variable {C:Value→List Hl→Prop} {ty:TypeId} {t t':TypeId} {x y:Operand} {kd kd':IntKind} {p q:Int} {m m':Nat} {u v:BitVec m}
theorem o1_conv_uu [h1:TInt P t kd] [h2:TInt P t' kd'] [UK kd m] [UK kd' m'] (hx:opd e x=some (.int kd u.toNat)) (h:C (.int kd' (u.setWidth m').toNat) H):O1 P (.convert t t' x) ty n e H C :=
 o1_conv (r:=((u.setWidth m').toNat:Int)) hx (by rw [UK.wrap];congr 2;apply BitVec.eq_of_toNat_eq;simp) h
theorem o1_conv_ui [h1:TInt P t kd] [h2:TInt P t' .i64] [UK kd m] (hx:opd e x=some (.int kd u.toNat)) (hb:(u.toNat:Int)≤9223372036854775807) (h:C (.int .i64 u.toNat) H):O1 P (.convert t t' x) ty n e H C :=
 o1_conv hx (wrap_in (by omega) hb) h
theorem o1_conv_iu [h1:TInt P t .i64] [h2:TInt P t' kd'] [UK kd' m'] (hx:opd e x=some (.int .i64 p)) (h:C (.int kd' (BitVec.ofInt m' p).toNat) H):O1 P (.convert t t' x) ty n e H C :=
 o1_conv hx (by rw [UK.wrap]) h
theorem o1_strlit {a:List (BitVec 8)} {s:ByteArray} {r:Bool} (hx:opd e x=some (.string (str a))) (hy:opd e y=some (.string s)) (hk:((str a).toList == s.toList)=r) (h:C (.bool r) H):O1 P (.binOp .eql t x y t') ty n e H C :=
 o1_str hx hy (by rw [binOp_string_eql,hk]) h
theorem o1_lit {T E:TypeId} {z:Value} {by_:Nat} {ps:List (Nat × Operand)} {us:List (Nat × Value)} [ht:TSl P T E] [hi:TInf P E z 1 by_] (hps:opdi e ps=some us) (hidx:us.map (·.1)=List.range' 0 us.length) (h1:∀ u∈us,u.2.oneCell'=true) (hz:z.oneCell'=true) (hm:m=us.length) (hb:Nat.ble us.length 16777216=true)
  (h:∀ b,C (.slice (some ⟨b,0,none⟩) m m) (.box b E (us.map (·.2))::H)):O1 P (.buildSlice T m ps.toArray) ty n e H C:=by
 subst hm
 have hb':us.length≤16777216:=by simpa using hb
 refine o1_buildSlice hps (fun w=>?_) h
 have hc:=oneCell_cells hz
 have hf:=fill_lit (P:=P) us 0 us.length [] z hidx h1 rfl (by omega)
 simp only [List.nil_append,Nat.mul_one] at hf
 have hbig : ¬ us.length*1 > 2 ^ 24:=by omega
 by_cases h0:us.length=0
 ·have hu0:us=[]:=List.eq_nil_of_length_eq_zero h0
  subst hu0
  simp [Instr.buildSlice,run_underlying ht.u,run_sizeOf,Instr.fill,newRow,Array.range_zero']
 ·have harr:Array.map (fun x=>[z][x % 1]?.getD default) (Array.range us.length)=(List.replicate us.length z).toArray:=by
   apply Array.ext'
   have:=toList_madeCells_one z us.length
   unfold madeCells at this
   rw [←this]
   congr 1
   apply Array.map_congr_left
   intro x _
   simp [Nat.mod_one]
  have hb2 : ¬ 16777216<us.length:=by omega
  simp only [Instr.buildSlice,Sem.run_bind,run_underlying ht.u,Result.andThen_ok,run_sizeOf,Nat.mul_one]
  rw [show (List.replicate us.length z).toArray=Array.replicate us.length z from by simp] at hf
  simp [h0,run_zeroValue,hc,harr,hb2,newRow]
  rw [hf]
  simp
theorem o1_lit_B {T E:TypeId} {z:Value} {by_:Nat} {ps:List (Nat × Operand)} {us:List (Nat × Value)} {ys:List (BitVec 8)} [ht:TSl P T E] [hi:TInf P E z 1 by_] (hps:opdi e ps=some us) (hidx:us.map (·.1)=List.range' 0 us.length) [hy:BsOf us ys] (hz:z.oneCell'=true) (hm:m=us.length) (hb:Nat.ble us.length 16777216=true)
  (h:∀ b,C (.slice (some ⟨b,0,none⟩) m m) (.box b E (ys.map B)::H)):O1 P (.buildSlice T m ps.toArray) ty n e H C :=
 o1_lit hps hidx (fun u hu=>by
  have:u.2∈us.map (·.2):=List.mem_map.2 ⟨u,hu,rfl⟩
  rw [hy.eq] at this
  obtain ⟨y,_,hy⟩:=List.mem_map.1 this
  rw [←hy];rfl) hz hm hb (fun b=>by rw [hy.eq];exact h b)
theorem o1_buildx {T:TypeId} {z:Value} {s by_:Nat} {pl:List (Nat × Nat)} {ps:List (Nat × Operand)} {us:List (Nat × Value)} {vs:List Value} [TPl P T pl] [TInf P T z s by_] (hps:opdi e ps=some us) (hvs:buildL pl z.cells.toList us=vs) (hr:∀ w,(Instr.build T us.toArray).run P w = .ok (.agg vs.toArray) w)
  (h:C (.agg vs.toArray) H):O1 P (.build T ps.toArray) ty n e H C:=o1_build hps hr h
theorem ent_nil {α:Type} (T:TypeId) (enc:α→Value):∀ h,stars H h→stars (.row T 1 (.slice none 0 0) 0 (([]:List α).map enc)::H) h:=ent_nil_row T 1
theorem o1_make {T E:TypeId} {z:Value} {by_ lo cp:Nat} [TSl P T E] [TInf P E z 1 by_] (hz:z.oneCell'=true) (hx:opd e x=some (.int kd p)) (hy:opd e y=some (.int kd' q)) (hp:p=(lo:Int)) (hq:q=(cp:Int)) (h1:lo≤cp) (h2:by_*cp≤281474976710656) (h3:cp≤9223372036854775807)
  (h:∀ b,C (.slice (some ⟨b,0,none⟩) lo cp) (.box b E (List.replicate cp z)::H)):O1 P (.makeSlice T x y) ty n e H C:=by
 subst hp hq
 exact Go.Dp.o1_mk hz hx hy h1 h2 h3 h
end
theorem sat_front {w:World} {H H':List Hl} {x:Hl} (h:sat w (stars H)) (s:Sel H x H'):sat w (stars (x::H')):=h.mono s.out
theorem run_storeCells_sat {P:Program} {b:Nat} {T:TypeId} {i0:Nat} {H':List Hl}:∀ (vs:List Value) (j:Nat) (cs:List Value) (w:World),sat w (stars (.box b T cs::H'))→i0+j+vs.length≤cs.length→(∀ v∈vs,v.oneCell'=true) →
  ∃ w',(storeCells ⟨b,i0,none⟩ vs j).run P w = .ok () w'∧Ext w w'∧sat w' (stars (.box b T (putL cs (i0+j) vs)::H'))
 | [],j,cs,w,h,_,_=>⟨w,by simp [storeCells],.refl w,h⟩
 | v::vs,j,cs,w,h,hl,h1=>by
  simp only [List.length_cons] at hl
  have hc:w.cell? ⟨b,i0+j,none⟩=some (cs[i0+j]'(by omega)):=by rw [h.cell .here (i0+j)];simp [show i0+j<cs.length from by omega]
  have hst:=run_store_one (P:=P) hc (h.free .here (i0+j)) (h1 v (by simp))
  have h2:=h.set_ (i0+j) v .here
  obtain ⟨w',hr,hx,hs⟩:=run_storeCells_sat (P:=P) (i0:=i0) vs (j+1) (cs.set (i0+j) v) _ h2 (by simp;omega) (fun u hu=>h1 u (by simp [hu]))
  refine ⟨w',?_,((Ext.refl w).setCell _ _).trans hx,hs⟩
  have ha:(⟨b,i0,none⟩:Addr).add j=⟨b,i0+j,none⟩:=by
   by_cases hj:j=0
   ·subst hj;simp [Addr.add]
   ·simp [Addr.add,hj]
  simp only [storeCells,Sem.run_bind,ha,hst,Result.andThen_ok]
  exact hr
section
variable {P:Program} {ops:Array Oper} {k:Kon} {rest:List Oper} {n:Nat} {e:Ev} {W:World} {H:List Hl}
variable {C:Value→List Hl→Prop} {ty:TypeId} {t t':TypeId} {x y:Operand} {kd kd':IntKind} {p q:Int} {m m':Nat} {u v:BitVec m}
theorem ox_store_agg {T T':TypeId} {z:Value} {s by_:Nat} [TInf P T z s by_] {b i:Nat} {cs vs cs':List Value} {H':List Hl} (hx:opd e x=some (.pointer (some ⟨b,i,none⟩))) (hy:opd e y=some (.agg vs.toArray))
  [sb:SBox H b T' cs H'] (hs:vs.length=s) (hi:i+vs.length≤cs.length) (h1:∀ v∈vs,v.oneCell'=true) (hcs:putL cs i vs=cs') (h:C undef (.box b T' cs'::H')):O1 P (.store T x y) ty n e H C :=
 o1_step_skip fun a w ho=>by
  subst hcs
  obtain ⟨w',hr,hx',hsat⟩:=run_storeCells_sat (P:=P) (i0:=i) vs 0 cs w (sat_front ho.sat sb.s) (by omega) h1
  refine ⟨w',?_,_,h,hx',by simpa using hsat⟩
  simp [execOp,ho.ev.eval hx,ho.ev.eval hy,Instr.storeAt,Instr.sureAddr,storeVar,run_sizeOf,Value.cells,hs,hr]
theorem ox_stores {T T':TypeId} {z:Value} {by_:Nat} [TInf P T z 1 by_] {b i:Nat} {cs cs':List Value} {v:Value} {H':List Hl} (hx:opd e x=some (.pointer (some ⟨b,i,none⟩))) (hy:opd e y=some v)
  [s:SBox H b T' cs H'] (hi:i<cs.length) (h1:v.oneCell'=true) (hcs:cs.set i v=cs') (h:C undef (.box b T' cs'::H')):O1 P (.store T x y) ty n e H C:=ox_store hx hy hi h1 (hcs ▸ h)
theorem ox_store_enc {α:Type} (enc:α→Value) {T T':TypeId} {z:Value} {by_:Nat} [TInf P T z 1 by_] {b i:Nat} {l:List α} {v:α} {H':List Hl} (hx:opd e x=some (.pointer (some ⟨b,i,none⟩))) (hy:opd e y=some (enc v))
  [s:SBox H b T' (l.map enc) H'] (hi:i<l.length) (h1:(enc v).oneCell'=true) (h:C undef (.box b T' ((l.set i v).map enc)::H')):O1 P (.store T x y) ty n e H C:=ox_stores hx hy (by simpa using hi) h1 (by rw [List.map_set]) h
theorem ox_load_enc {α:Type} {enc:α→Value} {T T':TypeId} [TOne P T] {b i:Nat} {l:List α} {H':List Hl} (hx:opd e x=some (.pointer (some ⟨b,i,none⟩))) [s:SBox H b T' (l.map enc) H'] (hi:i<l.length) (h:C (enc l[i]) H):O1 P (.load T x) ty n e H C :=
 ox_load hx (by simp [hi]) h
theorem o1_conv_i [h1:TInt P t kd] [h2:TInt P t' .i64] (hx:opd e x=some (.int kd p)) (hb : -9223372036854775808≤p∧p≤9223372036854775807) (h:C (.int .i64 p) H):O1 P (.convert t t' x) ty n e H C :=
 o1_conv hx (wrap_in hb.1 hb.2) h
theorem o1_conv_u64 [h1:TInt P t kd] [h2:TInt P t' .u64] (hx:opd e x=some (.int kd p)) (hb:0≤p∧p≤18446744073709551615) (h:C (.int .u64 p) H):O1 P (.convert t t' x) ty n e H C :=
 o1_conv hx (by rw [IntKind.wrap_u64];omega) h
theorem o1_rem_nn (hx:opd e x=some (.int kd p)) (hy:opd e y=some (.int kd q)) (hb:0≤p∧0<q) (h:C (.int kd (p % q)) H):O1 P (.binOp .rem t x y t') ty n e H C :=
 o1_num hx hy (fun w=>by
  rw [binOp_rem]
  simp [Op.intDiv,show q≠0 from by omega,Int.tmod_eq_emod_of_nonneg hb.1]) h
theorem o1_eqb {a b:Bool} [TBool P t] (hx:opd e x=some (.bool a)) (hy:opd e y=some (.bool b)) (h:C (.bool (a == b)) H):O1 P (.binOp .eql t x y t') ty n e H C :=
 o1_val _ (fun a' w ho=>by simp [execOp,ho.ev.eval hx,ho.ev.eval hy,eqGuard_at_bool,run_eql_bool w t a b (TBool.u)]) h
theorem o1_neqb {a b:Bool} [TBool P t] (hx:opd e x=some (.bool a)) (hy:opd e y=some (.bool b)) (h:C (.bool (!(a == b))) H):O1 P (.binOp .neq t x y t') ty n e H C :=
 o1_val _ (fun a' w ho=>by simp [execOp,ho.ev.eval hx,ho.ev.eval hy,eqGuard_at_bool,run_neq_bool w t a b (TBool.u)]) h
theorem Spec.vv {f:FuncId} {args:List Value} {good:Unit→Prop} {a b:Value} {res:Unit→List Hl} (h:Spec P f args H good (fun _=>a) res) (hx:a=b):Spec P f args H good (fun _=>b) res:=hx ▸ h
theorem o1_maken {α:Type} {enc:α→Value} {T E:TypeId} {z:Value} {by_:Nat} (z0:α) [TSl P T E] [TInf P E z 1 by_] (hx:opd e x=some (.int kd p)) (hy:opd e y=some (.int kd' p)) (hz:z.oneCell'=true) (hz0:z=enc z0) (hp:0≤p) (h2:by_*p.toNat≤281474976710656) (h3:p≤9223372036854775807)
  (h:∀ b,C (.slice (some ⟨b,0,none⟩) p.toNat p.toNat) (.box b E ((List.replicate p.toNat z0).map enc)::H)):O1 P (.makeSlice T x y) ty n e H C :=
 o1_make (lo:=p.toNat) (cp:=p.toNat) hz hx hy (by omega) (by omega) (Nat.le_refl _) h2 (by omega) (fun b=>by
  have:=h b
  rw [List.map_replicate,←hz0] at this
  exact this)
theorem o1_slice_nil {A:Option Addr} {l c:Nat} {T E:TypeId} [ht:TSl P T E] (hx:opd e x=some (.slice A l c)) (h:C (.bool (A.isNone)) H):O1 P (.binOp .eql T x (.const (.slice none 0 0)) t') ty n e H C :=
 o1_val _ (fun a w ho=>by
  have h1:=Lib.run_eql_slice_nil (P:=P) w T E A l c 0 0 ht.u
  have h2:a.eval (.const (.slice none 0 0)) = .slice none 0 0:=rfl
  simp only [execOp,ho.ev.eval hx,eqGuard_at_slice,h2,Sem.run_bind,Sem.run_pure,Result.andThen_ok,h1]) h
end
open Go.RowKit Go.ChangeShapes Go.WideShapes
theorem Rs.up {α:Type} {A:Hp→Prop} {H H':List Hl} {enc:α→Value} {ad:Option Addr} {c:Nat} {l:List α} (h:Rs A enc ad c l) [s:SAny H A H']:Rs (stars H) enc ad c l:=h.lift s.s
def baseH (W:World):Hp→Prop:=fun h=>∀ i,h i=W.heap[i]?
abbrev base (W:World):List Hl:=[.any (baseH W)]
theorem base_sat (W:World):sat W (stars (base W)) :=
 ⟨fun i=>W.heap[i]?,fun _ _ e=>e,fun i=>W.heap[i]?,fun _=>none,fun _ => .inr rfl,.refl _,fun _ _ e=>(by cases e),fun _=>rfl,trivial⟩
theorem base_block {W w:World} (h:sat w (stars (base W))) {i:Nat} {o:Obj} (ho:W.heap[i]?=some o):w.heap[i]?=some o:=by
 obtain ⟨x,hw,h1,h2,hd,s1,s2,hb,_⟩:=h
 exact hw i o (s1 i o ((hb i).trans ho))
theorem base_cell {W w:World} (h:sat w (stars (base W))) {a:Addr} {v:Value} (ho:W.cell? a=some v):w.cell? a=some v:=by
 unfold World.cell? at ho ⊢
 cases hb:W.heap[a.block]? with
 | none=>rw [hb] at ho;simp at ho
 | some o=>rw [base_block h hb];rw [hb] at ho;exact ho
theorem base_below {W w:World} (h:sat w (stars (base W))) (hx:Ext W w):Below W.heap.size W w :=
 ⟨hx.os,hx.tape,hx.output,hx.size,fun k hk=>by
  have:W.heap[k]?=some W.heap[k]:=by simp [hk]
  rw [this,base_block h this]⟩
abbrev most:Nat:=reachBytes
class Rd (P:Program) (t:TypeId) (X:outParam Type) (c:outParam (X→List Value)) (F:outParam (World→X→Prop)):Prop where
 o:∀ {H:Type} {enc:TypeId × Value→H} {W:World} {fuel:Nat} {cs:List Value} {x:DataW H × List MemPlace},DataW.trod enc P W 0 (fun _=>true) true fuel t cs=some x→(∀ n∈x.1.weights P t,n≤most)→∃ y,cs=c y∧F W y
structure SlD (Y:Type) where
 ad:Option Addr
 cap:Nat
 l:List Y
structure Rm {α:Type} (A:Hp→Prop) (m:Nat) (c:α→List Value) (ad:Option Addr) (cap:Nat) (l:List α):Prop where
 le:l.length≤cap
 big:cap≤9223372036854775807
 sm:0<l.length→∃ a,ad=some a
 cell:∀ w,sat w A→∀ a,ad=some a→∀ i x,l[i]?=some x→∀ j v,(c x)[j]?=some v→w.cell? (a.add (i*m+j))=some v
theorem cellsOf_inf {P:Program} {t:TypeId} {z:Value} {s b:Nat} (h:TInf P t z s b):P.cellsOf t=s:=by
 obtain ⟨i,hi,_,hs,_⟩:=h.info
 simp [Program.cellsOf,hi,hs]
theorem bytesOf_inf {P:Program} {t:TypeId} {z:Value} {s b:Nat} (h:TInf P t z s b):P.bytesOf t=b:=by
 obtain ⟨i,hi,_,_,hb⟩:=h.info
 simp [Program.bytesOf,hi,hb]
instance rd_i64 {P:Program} {t:TypeId} [h:TInt P t .i64]:Rd P t Int (fun n=>[I n]) (fun _ n => -9223372036854775808≤n∧n≤9223372036854775807) where
 o hd _:=by
  obtain ⟨n,rfl,_,hw⟩:=DataW.trod_int h.u hd
  refine ⟨n,rfl,?_⟩
  simp only [Lit.wf,Bool.and_eq_true,decide_eq_true_eq] at hw
  exact hw
theorem bv_of {m:Nat} {n:Int} (h0:0≤n) (h1:n<2 ^ m):((BitVec.ofInt m n).toNat:Int)=n:=by
 rw [BitVec.toNat_ofInt]
 have:n % ((2 ^ m:Nat):Int)=n:=Int.emod_eq_of_lt h0 (by exact_mod_cast h1)
 omega
instance rd_u8 {P:Program} {t:TypeId} [h:TInt P t .u8]:Rd P t (BitVec 8) (fun n=>[B n]) (fun _ _=>True) where
 o hd _:=by
  obtain ⟨n,rfl,_,hw⟩:=DataW.trod_int h.u hd
  simp only [Lit.wf,Bool.and_eq_true,decide_eq_true_eq] at hw
  have h0:(0:Int)≤n:=hw.1
  have h1:n≤255:=hw.2
  exact ⟨BitVec.ofInt 8 n,by rw [B,bv_of h0 (by omega)],trivial⟩
instance rd_u32 {P:Program} {t:TypeId} [h:TInt P t .u32]:Rd P t (BitVec 32) (fun n=>[W4 n]) (fun _ _=>True) where
 o hd _:=by
  obtain ⟨n,rfl,_,hw⟩:=DataW.trod_int h.u hd
  simp only [Lit.wf,Bool.and_eq_true,decide_eq_true_eq] at hw
  have h0:(0:Int)≤n:=hw.1
  have h1:n≤4294967295:=hw.2
  exact ⟨BitVec.ofInt 32 n,by rw [W4,bv_of h0 (by omega)],trivial⟩
instance rd_bool {P:Program} {t:TypeId} [h:TBool P t]:Rd P t Bool (fun b=>[.bool b]) (fun _ _=>True) where
 o:=by
  intro H enc W fuel cs x hd _
  cases fuel with
  | zero=>simp [DataW.trod] at hd
  | succ m =>
   unfold DataW.trod at hd
   rw [h.u] at hd
   split at hd <;> simp_all
theorem rd_elems {P:Program} {t e:TypeId} {Y:Type} {c:Y→List Value} {G:World→Y→Prop} {z:Value} {m b:Nat} (hs:TSl P t e) (hr:Rd P e Y c G) (hi:TInf P e z m b)
  {H:Type} {enc:TypeId × Value→H} {W:World} {fuel:Nat} {cs:List Value} {x:DataW H × List MemPlace} (hd:DataW.trod enc P W 0 (fun _=>true) true fuel t cs=some x) (hw:∀ n∈x.1.weights P t,n≤most) :
  ∃ y:SlD Y,cs=[.slice y.ad y.l.length y.cap]∧y.l.length*b≤most∧(∀ u∈y.l,G W u)∧y.l.length≤y.cap∧y.cap≤9223372036854775807∧(0<y.l.length→∃ a,y.ad=some a) ∧
   ∀ a,y.ad=some a→∀ i u,y.l[i]?=some u→∀ j v,(c u)[j]?=some v→W.cell? (a.add (i*m+j))=some v:=by
 rcases DataW.trod_slice hs.u hd with ⟨rfl,_⟩|⟨a,len,cap,elems,rest,k,rfl,rfl,rfl,hb,hl,hm,hlen,hel,hsp,_⟩
 ·exact ⟨⟨none,0,[]⟩,rfl,by simp,by simp,by simp,by simp,by simp,by simp⟩
 ·rw [cellsOf_inf hi] at hel
  have hwt:∀ n∈DataW.weights P t (.slice (elems.map (·.1)) (rest.map (·.1)):DataW H),n≤most:=hw
  simp only [DataW.weights,hs.u,bytesOf_inf hi,List.length_map] at hwt
  have hsz:(elems.length+rest.length)*b≤most:=hwt _ (by simp)
  have hall:∀ (l:List (DataW H)) (d:DataW H),d∈l→∀ n∈d.weights P e,n∈DataW.weightsAll P e l:=by
   intro l
   induction l with
   | nil=>intro d hd;simp at hd
   | cons q r ih =>
    intro d hd n hn
    simp only [DataW.weightsAll,List.mem_append]
    rcases List.mem_cons.1 hd with rfl|hd
    ·exact .inl hn
    ·exact .inr (ih d hd n hn)
  have each:∀ i,i<len→∃ (y:Y) (vs:List Value),W.cells? 0 (a.add (i*m)) m=some vs∧vs=c y∧G W y:=by
   intro i hi'
   have h1:=hel i hi'
   have h2:elems[i]?=some elems[i]:=by simp [hlen,hi']
   rw [h2] at h1
   cases hc:W.cells? 0 (a.add (i*m)) m with
   | none=>rw [hc] at h1;simp at h1
   | some vs =>
    rw [hc] at h1
    simp only [Option.bind_some] at h1
    obtain ⟨y,hy,hG⟩:=hr.o h1 (fun n hn=>hwt n (by
     simp only [List.mem_cons,List.mem_append]
     exact .inr (.inl (hall _ _ (List.mem_map.2 ⟨elems[i],List.getElem_mem _,rfl⟩) n hn))))
    exact ⟨y,vs,rfl,hy,hG⟩
  have pick:∃ l:List Y,l.length=len∧∀ i u,l[i]?=some u→∃ vs,W.cells? 0 (a.add (i*m)) m=some vs∧vs=c u∧G W u:=by
   clear hwt hw hsz hsp hel hd hlen hl
   induction len with
   | zero=>exact ⟨[],rfl,by simp⟩
   | succ q ih =>
    obtain ⟨l,hl,hf⟩:=ih (fun i hi=>each i (by omega))
    obtain ⟨y,vs,h1,h2,h3⟩:=each q (by omega)
    refine ⟨l++[y],by simp [hl],fun i u hu=>?_⟩
    rw [List.getElem?_append] at hu
    split at hu
    ·exact hf i u hu
    ·rename_i hge
     have:i=q:=by
      have:=(List.getElem?_eq_some_iff.1 hu).1
      simp at this;omega
     subst this
     simp [hl] at hu
     subst hu
     exact ⟨vs,h1,h2,h3⟩
  obtain ⟨l,hl',hf⟩:=pick
  refine ⟨⟨some a,cap,l⟩,by simp [hl'],?_,?_,by simp [hl'];omega,hm,fun _=>⟨a,rfl⟩,?_⟩
  ·simp only [hl',←hlen]
   exact Nat.le_trans (Nat.mul_le_mul_right _ (Nat.le_add_right _ _)) hsz
  ·intro u hu
   obtain ⟨i,hi,rfl⟩:=List.mem_iff_getElem.1 hu
   obtain ⟨_,_,_,h3⟩:=hf i l[i] (by simp [hi])
   exact h3
  ·intro a' ha i u hu j v hv
   injection ha with ha
   subst ha
   obtain ⟨vs,h1,rfl,_⟩:=hf i u hu
   obtain ⟨_,hlv,hc⟩:=World.cells?_some h1
   have hj:j<m:=by rw [←hlv];exact (List.getElem?_eq_some_iff.1 hv).1
   rw [←add_add,hc j hj,hv]
instance rd_slice {P:Program} {t e:TypeId} {Y:Type} {g:Y→Value} {G:World→Y→Prop} {z:Value} {b:Nat} [hs:TSl P t e] [hr:Rd P e Y (fun y=>[g y]) G] [hi:TInf P e z 1 b] :
  Rd P t (SlD Y) (fun s=>[.slice s.ad s.l.length s.cap]) (fun W s=>Rs (stars (base W)) g s.ad s.cap s.l∧s.l.length*b≤140737488351232∧∀ y∈s.l,G W y) where
 o hd hw:=by
  obtain ⟨y,h1,h2,h3,h4,h5,h6,h7⟩:=rd_elems hs hr hi hd hw
  refine ⟨y,h1,⟨h4,h5,h6,fun w hsat a ha i u hu=>?_⟩,h2,h3⟩
  have:=h7 a ha i u hu 0 (g u) rfl
  simp only [Nat.mul_one,Nat.add_zero] at this
  exact base_cell hsat this
instance (priority:=low) rd_slicem {P:Program} {t e:TypeId} {Y:Type} {c:Y→List Value} {G:World→Y→Prop} {z:Value} {m b:Nat} [hs:TSl P t e] [hr:Rd P e Y c G] [hi:TInf P e z m b] :
  Rd P t (SlD Y) (fun s=>[.slice s.ad s.l.length s.cap]) (fun W s=>Rm (stars (base W)) m c s.ad s.cap s.l∧s.l.length*b≤140737488351232∧∀ y∈s.l,G W y) where
 o hd hw:=by
  obtain ⟨y,h1,h2,h3,h4,h5,h6,h7⟩:=rd_elems hs hr hi hd hw
  exact ⟨y,h1,⟨h4,h5,h6,fun w hsat a ha i u hu j v hv=>base_cell hsat (h7 a ha i u hu j v hv)⟩,h2,h3⟩
class RdF (P:Program) (off:Nat) (L:List (Nat × TypeId)) (X:outParam Type) (c:outParam (X→List Value)) (F:outParam (World→X→Prop)):Prop where
 o:∀ {H:Type} {enc:TypeId × Value→H} {W:World} {cs:List Value},(∀ f∈L,∃ fuel x,DataW.trod enc P W 0 (fun _=>true) true fuel f.2 ((cs.drop f.1).take (P.cellsOf f.2))=some x∧∀ n∈x.1.weights P f.2,n≤most) →
  (∀ M,cs.length=M→(L.map fun f=>P.cellsOf f.2).sum+off=M→∃ y,cs.drop off=c y∧F W y)
instance rdf_nil {P:Program} {off:Nat}:RdF P off [] Unit (fun _=>[]) (fun _ _=>True) where
 o:=by
  intro H enc W cs _ M h1 h2
  simp at h2
  exact ⟨(),by simp;omega,trivial⟩
instance rdf_cons {P:Program} {off:Nat} {t:TypeId} {z:Value} {m b:Nat} {L:List (Nat × TypeId)} {X Y:Type} {c:X→List Value} {d:Y→List Value} {F:World→X→Prop} {G:World→Y→Prop}
  [hi:TInf P t z m b] [hr:Rd P t X c F] [hl:RdF P (off+m) L Y d G]:RdF P off ((off,t)::L) (X × Y) (fun u=>c u.1++d u.2) (fun W u=>F W u.1∧G W u.2) where
 o:=by
  intro H enc W cs h M h1 h2
  obtain ⟨fuel,x,hx,hw⟩:=h (off,t) (by simp)
  obtain ⟨y,hy,hF⟩:=hr.o hx hw
  simp only [List.map_cons,List.sum_cons,cellsOf_inf hi] at h2
  obtain ⟨y',hy',hG⟩:=hl.o (fun f hf=>h f (by simp [hf])) M h1 (by omega)
  refine ⟨(y,y'),?_,hF,hG⟩
  rw [cellsOf_inf hi] at hy
  rw [←hy,←hy',←List.drop_drop,List.take_append_drop]
class TSt (P:Program) (t:TypeId) (L:outParam (List (Nat × TypeId))):Prop where
 c:(match P.underlying t with|some (.struct fs)=>some (fs.toList.map fun f=>(f.offset,f.type))|some (.array m e)=>some ((List.range m).map fun i=>(i*P.cellsOf e,e))|_=>none)=some L
 s:(L.map fun f=>P.cellsOf f.2).sum=P.cellsOf t
theorem weightsEach_mem {H:Type} {P:Program}:∀ (ts:List TypeId) (ds:List (DataW H)) (i:Nat) (t:TypeId) (d:DataW H),ts[i]?=some t→ds[i]?=some d→∀ n∈d.weights P t,n∈DataW.weightsEach P ts ds
 | [],_,_,_,_,h,_=>by simp at h
 | _::_,[],_,_,_,_,h=>by simp at h
 | t::ts,d::ds,0,_,_,h,h'=>by
  simp at h h'
  subst h h'
  intro n hn
  simp [DataW.weightsEach,hn]
 | t::ts,d::ds,i+1,_,_,h,h'=>by
  simp at h h'
  intro n hn
  simp only [DataW.weightsEach,List.mem_append]
  exact .inr (weightsEach_mem ts ds i _ _ h h' n hn)
theorem weightsAll_mem {H:Type} {P:Program} {e:TypeId}:∀ (l:List (DataW H)) (i:Nat) (d:DataW H),l[i]?=some d→∀ n∈d.weights P e,n∈DataW.weightsAll P e l
 | [],_,_,h=>by simp at h
 | q::r,0,d,h=>by
  simp at h
  subst h
  intro n hn
  simp [DataW.weightsAll,hn]
 | q::r,i+1,d,h=>by
  simp at h
  intro n hn
  simp only [DataW.weightsAll,List.mem_append]
  exact .inr (weightsAll_mem r i d h n hn)
instance rd_struct {P:Program} {t:TypeId} {L:List (Nat × TypeId)} {X:Type} {c:X→List Value} {F:World→X→Prop} [hs:TSt P t L] [hr:RdF P 0 L X c F]:Rd P t X c F where
 o:=by
  intro H enc W fuel cs x hd hw
  have hc:=hs.c
  cases hu:P.underlying t with
  | none=>rw [hu] at hc;cases hc
  | some k =>
   rw [hu] at hc
   cases k <;> simp only [reduceCtorEq] at hc
   case struct fs =>
    injection hc with hc
    obtain ⟨xs,n,rfl,rfl,h1,h2,h3⟩:=DataW.trod_struct hu hd
    obtain ⟨y,hy,hF⟩:=hr.o (cs:=cs) (W:=W) (enc:=enc) (fun f hf=>by
     subst hc
     obtain ⟨q,hq,rfl⟩:=List.mem_map.1 hf
     obtain ⟨i,hi,hqi⟩:=List.mem_iff_getElem.1 hq
     have hgi:fs[i]?=some q:=by
      have:i<fs.size:=by simpa using hi
      simp [this,←hqi]
     have hx:=h3 i q hgi
     have hlt:i<xs.length:=by rw [h2];simpa using hi
     refine ⟨n,xs[i],by rw [hx];simp [hlt],fun m hm=>hw m ?_⟩
     simp only [DataW.weights,hu]
     exact weightsEach_mem _ _ i q.type xs[i].1 (by simp [hgi]) (by simp [hlt]) m hm) cs.length rfl (by rw [hs.s,h1];rfl)
    exact ⟨y,by simpa using hy,hF⟩
   case array m e =>
    injection hc with hc
    obtain ⟨xs,n,rfl,rfl,h1,h2,h3⟩:=DataW.trod_array hu hd
    obtain ⟨y,hy,hF⟩:=hr.o (cs:=cs) (W:=W) (enc:=enc) (fun f hf=>by
     subst hc
     obtain ⟨i,hi,rfl⟩:=List.mem_map.1 hf
     have hi':i<m:=by simpa using hi
     have hlt:i<xs.length:=by omega
     refine ⟨n,xs[i],by rw [h3 i hi'];simp [hlt],fun q hq=>hw q ?_⟩
     simp only [DataW.weights,hu]
     exact weightsAll_mem _ i xs[i].1 (by simp [hlt]) q hq) cs.length rfl (by rw [hs.s,h1];rfl)
    exact ⟨y,by simpa using hy,hF⟩
class Par (P:Program) (t:TypeId) (X:outParam Type) (g:outParam (X→Value)) (F:outParam (World→X→Prop)):Prop where
 o:∀ {H:Type} {enc:TypeId × Value→H} {W:World} {r:Reach} {b0:Nat} {v:Value} {d:DataW H} {ps:List MemPlace},DataW.Trod enc P W 0 (fun _=>true) true t v d ps→Value.okWide P W r b0 t v→(∀ n∈d.weights P t,n≤most)→∃ y,v=g y∧F W y
theorem par_one {P:Program} {t:TypeId} {X:Type} {g:X→Value} {F:World→X→Prop} (hr:Rd P t X (fun y=>[g y]) F) (h1:∀ {W:World} {r:Reach} {b0:Nat} {v:Value},Value.okWide P W r b0 t v→v.cells = #[v]):Par P t X g F where
 o:=by
  intro H enc W r b0 v d ps ⟨fuel,hd⟩ hok hw
  obtain ⟨y,hy,hF⟩:=hr.o hd hw
  rw [h1 hok] at hy
  exact ⟨y,by simpa using hy,hF⟩
instance par_int {P:Program} {t:TypeId} {k:IntKind} {X:Type} {g:X→Value} {F:World→X→Prop} [h:TInt P t k] [hr:Rd P t X (fun y=>[g y]) F]:Par P t X g F:=par_one hr fun hok=>by
 obtain ⟨n,rfl⟩:=okWide_int h.u hok;rfl
instance par_bool {P:Program} {t:TypeId} {X:Type} {g:X→Value} {F:World→X→Prop} [h:TBool P t] [hr:Rd P t X (fun y=>[g y]) F]:Par P t X g F:=par_one hr fun hok=>by
 obtain ⟨n,rfl⟩:=okWide_bool h.u hok;rfl
instance par_slice {P:Program} {t e:TypeId} {X:Type} {g:X→Value} {F:World→X→Prop} [h:TSl P t e] [hr:Rd P t X (fun y=>[g y]) F]:Par P t X g F:=par_one hr fun hok=>by
 obtain ⟨a,n,c,rfl⟩:=okWide_slice h.u hok;rfl
instance par_struct {P:Program} {t:TypeId} {L:List (Nat × TypeId)} {X:Type} {c:X→List Value} {F:World→X→Prop} [h:TSt P t L] [ha:TAgg P t] [hr:Rd P t X c F]:Par P t X (fun y => .agg (c y).toArray) F where
 o:=by
  intro H enc W r b0 v d ps ⟨fuel,hd⟩ hok hw
  obtain ⟨y,hy,hF⟩:=hr.o hd hw
  refine ⟨y,?_,hF⟩
  have hu:=ha.u
  cases hk:P.underlying t with
  | none=>rw [hk] at hu;simp at hu
  | some q =>
   rw [hk] at hu
   simp only [Value.okWide,hk] at hok
   cases q <;> simp at hu
   all_goals
    obtain ⟨cs,rfl,_,_⟩:=hok
    rw [←hy]
    rfl
theorem weigh {H:Type} {P:Program} {ts:List TypeId} {ds:List (DataW H)} (h:(DataW.weightsEach P ts ds).all (·≤reachBytes)=true) {j:Nat} {t:TypeId} {d:DataW H} (ht:ts[j]?=some t) (hd:ds[j]?=some d):∀ n∈d.weights P t,n≤most:=by
 intro n hn
 have:=List.all_eq_true.1 h n (weightsEach_mem ts ds j t d ht hd n hn)
 simpa using this
end Go.Dp
namespace Go.Dp
open Go.RowKit
section
variable {P:Program} {ops:Array Oper} {k:Kon} {rest:List Oper} {n:Nat} {e:Ev} {W:World} {H:List Hl}
variable {C:Value→List Hl→Prop} {ty:TypeId} {t t':TypeId} {x y:Operand} {kd kd':IntKind} {p q:Int} {m m':Nat} {u v:BitVec m}
theorem o1_streq_r {a b:List (BitVec 8)} {r:Bool} (hx:opd e x=some (.string (str a))) (hy:opd e y=some (.string (str b))) (hr:decide (a=b)=r) (h:C (.bool r) H):O1 P (.binOp .eql t x y t') ty n e H C:=o1_streq_d hx hy (hr ▸ h)
theorem o1_strneq_r {a b:List (BitVec 8)} {r:Bool} (hx:opd e x=some (.string (str a))) (hy:opd e y=some (.string (str b))) (hr:decide (a≠b)=r) (h:C (.bool r) H):O1 P (.binOp .neq t x y t') ty n e H C:=o1_strneq_d hx hy (hr ▸ h)
theorem rt_cell_tmp {X:Type} {fn:Func} {good:X→Prop} {val:X→Value} {res:X→List Hl} {t t':Nat} {T T':TypeId} {z:Value} {s by_ b:Nat} {cs:List Value} {H':List Hl} {v':Value} [TAgg P T] [TInf P T z s by_] (r:X) (hres:fn.results = #[.cell t T,.tmp t'])
  (hl:look e t=some (.pointer (some ⟨b,0,none⟩))) [sb:SBox H b T' cs H'] (hs:cs.length=s) (hl':look e t'=some v') (hv : .tuple #[.agg cs.toArray,v']=val r) (hg:good r) (hE:Ent H (res r)) :
  Rt P (.fn fn fun x w'=>∃ r,good r∧x = .returned (val r)∧Ext W w'∧sat w' (stars (res r))) n e W H :=
 rt_fn (v := .tuple #[.agg cs.toArray,v']) (fun a w ho=>by
  have hl2:=run_loadCells_list (P:=P) w ⟨b,0,none⟩ cs (fun j v hj=>by
   have hc:=ho.sat.cell sb.s j
   rw [hj] at hc
   by_cases hj0:j=0
   ·subst hj0;simpa [Addr.add] using hc
   ·simpa [Addr.add,hj0] using hc)
  rw [hs] at hl2
  simp [results,hres,ho.ev.get t _ hl,ho.ev.get t' v' hl',loadVar,run_isAgg_agg,run_sizeOf,asAddr,hl2]) r hg hv hE
theorem rt_cell {X:Type} {fn:Func} {good:X→Prop} {val:X→Value} {res:X→List Hl} {t:Nat} {T T':TypeId} {z:Value} {s by_ b:Nat} {cs:List Value} {H':List Hl} [TAgg P T] [TInf P T z s by_] (r:X) (hres:fn.results = #[.cell t T])
  (hl:look e t=some (.pointer (some ⟨b,0,none⟩))) [sb:SBox H b T' cs H'] (hs:cs.length=s) (hv : .agg cs.toArray=val r) (hg:good r) (hE:Ent H (res r)) :
  Rt P (.fn fn fun x w'=>∃ r,good r∧x = .returned (val r)∧Ext W w'∧sat w' (stars (res r))) n e W H :=
 rt_fn (v := .agg cs.toArray) (fun a w ho=>by
  have hl2:=run_loadCells_list (P:=P) w ⟨b,0,none⟩ cs (fun j v hj=>by
   have hc:=ho.sat.cell sb.s j
   rw [hj] at hc
   by_cases hj0:j=0
   ·subst hj0;simpa [Addr.add] using hc
   ·simpa [Addr.add,hj0] using hc)
  rw [hs] at hl2
  simp [results,hres,ho.ev.get t _ hl,loadVar,run_isAgg_agg,run_sizeOf,asAddr,hl2]) r hg hv hE
variable {α:Type} {A:Hp→Prop} {enc:α→Value} {ad:Option Addr} {c l lo hi mx:Nat} {xs:List α} {T E:TypeId} {z:Value} {by_:Nat}
theorem o1_cut_h {oh:Operand} [ht:TSl P T E] [hi':TInf P E z 1 by_] (hx:opd e x=some (.slice ad l c)) (hh:opd e oh=some (.int kd' q)) (hr:Rs A enc ad c xs) (h0:l=xs.length) (hp:0≤q) (h2:q≤xs.length)
  (h:∀ ad2 c2 l2,l2=xs.take q.toNat→l2.length=q.toNat→Rs A enc ad2 c2 l2→C (.slice ad2 l2.length c2) H):O1 P (.slice T x none (some oh) none) ty n e H C:=by
 have hle:=hr.le
 have hc:=hr.cut 0 q.toNat c (by omega) (by omega) (by omega) (Nat.le_refl _)
 have hlen:(xs.take q.toNat).length=q.toNat:=by simp;omega
 have h1:=h _ _ _ rfl hlen hc
 rw [hlen] at h1
 exact o1_slice_h (hi:=q.toNat) hx (by rw [hh];congr 2;omega) (by omega) (by simpa using h1)
theorem o1_cut_l {ol:Operand} [ht:TSl P T E] [hi':TInf P E z 1 by_] (hx:opd e x=some (.slice ad l c)) (hl:opd e ol=some (.int kd p)) (hr:Rs A enc ad c xs) (h0:l=xs.length) (hp:0≤p) (h2:p≤xs.length)
  (h:∀ ad2 c2 l2,l2=xs.drop p.toNat→l2.length=xs.length - p.toNat→Rs A enc ad2 c2 l2→C (.slice ad2 l2.length c2) H):O1 P (.slice T x (some ol) none none) ty n e H C:=by
 have hle:=hr.le
 have hc:=hr.cut p.toNat xs.length c (by omega) (by omega) (by omega) (Nat.le_refl _)
 rw [List.take_length] at hc
 have hlen:(xs.drop p.toNat).length=xs.length - p.toNat:=by simp
 have h1:=h _ _ _ rfl hlen hc
 rw [hlen] at h1
 subst h0
 exact o1_slice_l (lo:=p.toNat) hx (by rw [hl];congr 2;omega) (by omega) (by simpa using h1)
theorem rt_ent {H2:List Hl} (hE:∀ h,stars H h→stars H2 h) (h:Rt P k n e W H2):Rt P k n e W H:=⟨fun a w ho=>h.out a w ⟨ho.ev,ho.ext,ho.sat.mono hE⟩⟩
theorem Sel.back {H H':List Hl} {x:Hl} (s:Sel H x H'):∀ h,stars (x::H') h→stars H h:=by
 induction s with
 | here=>exact fun _ h=>h
 | there s ih=>exact fun h hs=>sep_mono (sep_assoc (sep_mono (sep_assoc' hs) (fun _=>sep_comm) (fun _ a=>a))) (fun _ a=>a) ih
theorem box_of_row {b:Nat} {T:TypeId} {cs:List Value} {h:Hp} (hr:Hl.den (.row T 1 (.slice (some ⟨b,0,none⟩) cs.length cs.length) cs.length cs) h):Hl.den (.box b T cs) h:=by
 obtain ⟨_,⟨hv,_⟩|⟨g,cap,cur,hv,hh,h1,h2,h3,h4⟩⟩:=hr
 ·cases hv
 ·injection hv with hv1 hv2 hv3
  injection hv1 with hv1
  injection hv1 with hv1
  subst hv1 hv3
  have:cur=cs.toArray:=by
   apply Array.ext'
   rw [←h4,List.take_of_length_le (by simp;omega)]
  show h=one b (.cells cs.toArray T (0,0))
  rw [hh,this]
theorem ox_append_box {ad':Option Addr} {c' b m0:Nat} {ys:List α} {H':List Hl} {m a0:Nat} [TSl P T E] [TInf P E z 1 by_] (hx:opd e x=some (.slice (some ⟨b,0,none⟩) a0 m0)) (hy:opd e y=some (.slice ad' m c'))
  [s:SBox H b E (xs.map enc) H'] (ha:a0=xs.length) (h0:m0=xs.length) (hr:RsH H enc ad' c' ys) (hm:m=ys.length) (hz:z.oneCell'=true) (henc:∀ x,(enc x).oneCell'=true) (hb:(a0+m)*by_≤140737488355328) (hb2:a0+m≤9223372036854775807)
  (h:∀ ad2 c2,C (.slice ad2 (a0+m) c2) (.row E 1 (.slice ad2 (a0+m) c2) (a0+m) ((xs++ys).map enc)::H')) :
  O1 P (.call ⟨.builtin .append, #[x,y], #[T,T]⟩) ty n e H C:=by
 subst ha h0
 have hE:=ent_row_of_box (m:=xs.length) (cp:=xs.length) s.s (by simp) (Nat.le_refl _) (by omega)
 rw [show (xs.map enc).take xs.length=xs.map enc from by rw [List.take_of_length_le (by simp)]] at hE
 refine O1.ent hE (ox_append hx hy (fun _=>?_) hm hz henc hb hb2 h)
 have back:∀ w,sat w (stars (.row E 1 (.slice (some ⟨b,0,none⟩) xs.length xs.length) xs.length (xs.map enc)::H'))→sat w (stars H):=fun w hw=>hw.mono fun h hs=>s.s.back h (sep_mono hs (fun h' hr=>box_of_row (by simpa using hr)) (fun _ a=>a))
 rename_i hhas
 obtain ⟨w,hw⟩:=hhas
 exact (hr ⟨w,back w hw⟩).mono back
end
structure Stg where
 ps:List Nat
 rs:List Nat
 ch:Option Nat
def cloAt (tab:List Row) (i:Nat):List Nat:=((tab[i]?).map (·.clo)).getD []
def gdAt (tab:List Row) (i:Nat):Option (Nat × Bool):=(tab[i]?).bind (·.guard)
def cloE (tab:List Row) (i:Nat) (E:Ev):Ev:=E.filter fun x=>(cloAt tab i).any fun j=>dstAt tab j == some x.1
def envI (tab:List Row) (e:Ev) (i:Nat) (E:Ev):Ev:=cloE tab i E++e.filter fun x=>keep tab i x.1
def addE (tab:List Row) (i:Nat) (v:Value) (E:Ev):Ev:=match dstAt tab i with|some d=>(d,v)::E|none=>E
def gdRun (tab:List Row) (i:Nat) (E:Ev):Prop:=∀ j b,gdAt tab i=some (j,b)→∃ d,dstAt tab j=some d∧look E d=some (.bool b)
def gdOff (tab:List Row) (i:Nat) (E:Ev):Prop:=∃ j b d,gdAt tab i=some (j,b)∧dstAt tab j=some d∧(look E d=some (.bool (!b))∨look E d=some undef)
section
variable (P:Program) (n:Nat) (e:Ev) (tab:List Row) (l:List Oper)
def Op1 (i:Nat) (E:Ev) (H:List Hl) (C:Value→List Hl→Prop):Prop:=gdRun tab i E∧∃ o,l[i]?=some o∧O1 P o.op o.type n (envI tab e i E) H C
def Pu (i:Nat) (E:Ev) (H:List Hl) (v:Value):Prop:=Op1 P n e tab l i E H fun v' H'=>v'=v∧∀ h,stars H' h→stars H h
def OpenP (H:List Hl):List Nat→Ev→(Ev→Prop)→Prop
 | [],E,C=>C E
 | i::ps,E,C=>(gdOff tab i E∧OpenP H ps (addE tab i undef E) C)∨∃ v,Pu P n e tab l i E H v∧OpenP H ps (addE tab i v E) C
def Good (i:Nat) (E:Ev) (H:List Hl):Prop:=(gdOff tab i E∧∀ d,dstAt tab i=some d→look E d=some undef)∨∃ v,(∀ d,dstAt tab i=some d→look E d=some v)∧Pu P n e tab l i E H v
def ReP (H:List Hl) (E:Ev):List Nat→Prop
 | []=>True
 | i::rs=>Good P n e tab l i E H∧ReP H E rs
def Wk (Fin:Ev→List Hl→Prop):List Stg→Ev→List Hl→Prop
 | [],_,_=>False
 | s::ss,E,H=>OpenP P n e tab l H s.ps E fun E'=>ReP P n e tab l H E' s.rs∧match s.ch with
  | none=>Fin E' H
  | some i=>(gdOff tab i E'∧Wk Fin ss (addE tab i undef E') H)∨Op1 P n e tab l i E' H fun v H'=>Wk Fin ss (addE tab i v E') H'
end
def psOk (tab:List Row):List Nat→Bool
 | []=>true
 | i::ps=>(ps.all fun j => !(cloAt tab i).contains j && j != i) && psOk tab ps
def stOk (tab:List Row) (all done:List Nat) (s:Stg):Bool :=
 psOk tab s.ps && (s.ps.all fun i=>decide (i<tab.length)) && ((List.range tab.length).all fun i=>all.contains i || (all.any fun c=>(cloAt tab i).contains c && !done.contains c) || (done.any fun c=>(cloAt tab c).contains i) || s.ps.contains i || s.rs.contains i) &&
 (match s.ch with|none=>all.all fun c=>done.contains c|some c=>decide (c<tab.length) && !done.contains c && all.contains c && (all.all fun c'=>done.contains c' || c' == c || (cloAt tab c').contains c) && (s.ps.all fun i=>i != c && !all.contains i))
def scOk (tab:List Row) (all:List Nat):List Nat→List Stg→Bool
 | _,[]=>true
 | done,s::ss=>stOk tab all done s && (match s.ch with|none=>ss.isEmpty|some c=>(match ss with | []=>false|s'::_=>s'.ps.all fun i=>(cloAt tab i).contains c) && scOk tab all (c::done) ss)
theorem addE_look {tab:List Row} {i d:Nat} {v:Value} {E:Ev} (h:dstAt tab i≠some d):look (addE tab i v E) d=look E d:=by
 unfold addE
 cases hd:dstAt tab i with
 | none=>rfl
 | some d' =>
  have:Nat.beq d' d=false:=by
   cases hb:Nat.beq d' d
   ·rfl
   ·exact absurd (by rw [hd,Nat.eq_of_beq_eq_true hb]) h
  simp [look,this]
theorem addE_self {tab:List Row} {i d:Nat} {v:Value} {E:Ev} (h:dstAt tab i=some d):look (addE tab i v E) d=some v:=by
 simp [addE,h,look]
theorem cloE_addE {tab:List Row} (hdst:∀ i j d,dstAt tab i=some d→dstAt tab j=some d→i=j) {i j:Nat} {v:Value} {E:Ev} (h:j ∉ cloAt tab i):cloE tab i (addE tab j v E)=cloE tab i E:=by
 unfold addE
 cases hd:dstAt tab j with
 | none=>rfl
 | some d =>
  simp only [cloE,List.filter_cons]
  rw [if_neg]
  simp only [List.any_eq_true,beq_iff_eq,not_exists,not_and]
  intro q hq hqd
  exact h (hdst j q d hd hqd ▸ hq)
theorem envI_addE {tab:List Row} (hdst:∀ i j d,dstAt tab i=some d→dstAt tab j=some d→i=j) {e:Ev} {i j:Nat} {v:Value} {E:Ev} (h:j ∉ cloAt tab i):envI tab e i (addE tab j v E)=envI tab e i E:=by
 unfold envI;rw [cloE_addE hdst h]
section
variable {P:Program} {k:Kon} {n:Nat} {e e0:Ev} {W:World} {H:List Hl} {tab:List Row} {l:List Oper} {Fin:Ev→List Hl→Prop}
structure Stand (P:Program) (n:Nat) (e0:Ev) (tab:List Row) (l:List Oper) (Fin:Ev→List Hl→Prop) (all done:List Nat) (s:Stg) (ss:List Stg) (E:Ev) (H:List Hl):Prop where
 good:∀ i,i∈s.ps∨i∈s.rs→Good P n e0 tab l i E H
 next:match s.ch with
  | none=>Fin E H
  | some i=>(gdOff tab i E∧Wk P n e0 tab l Fin ss (addE tab i undef E) H)∨Op1 P n e0 tab l i E H fun v H'=>Wk P n e0 tab l Fin ss (addE tab i v E) H'
 script:scOk tab all done (s::ss)=true
 dom:∀ d v,look E d=some v→∃ i,i<tab.length∧dstAt tab i=some d
theorem gd_addE (hdst:∀ i j d,dstAt tab i=some d→dstAt tab j=some d→i=j) (hgd:∀ i j b,gdAt tab i=some (j,b)→j∈cloAt tab i) {i j:Nat} {v:Value} {E:Ev} (h:j ∉ cloAt tab i):(gdRun tab i E→gdRun tab i (addE tab j v E))∧(gdOff tab i E→gdOff tab i (addE tab j v E)):=by
 refine ⟨fun hr q b hq=>?_,fun ⟨q,b,d,h1,h2,h3⟩=>⟨q,b,d,h1,h2,?_⟩⟩
 ·obtain ⟨d,h1,h2⟩:=hr q b hq
  refine ⟨d,h1,?_⟩
  rw [addE_look]
  ·exact h2
  ·intro hd;have:=hdst j q d hd h1;exact h (this ▸ hgd i q b hq)
 ·rw [addE_look]
  ·exact h3
  ·intro hd;have:=hdst j q d hd h2;exact h (this ▸ hgd i q b h1)
theorem good_addE (hdst:∀ i j d,dstAt tab i=some d→dstAt tab j=some d→i=j) (hgd:∀ i j b,gdAt tab i=some (j,b)→j∈cloAt tab i) {i j:Nat} {v:Value} {E:Ev} {H:List Hl} (h:j ∉ cloAt tab i) (hij:j≠i) (hg:Good P n e0 tab l i E H):Good P n e0 tab l i (addE tab j v E) H:=by
 have hne:∀ d,dstAt tab i=some d→dstAt tab j≠some d:=fun d hd hd'=>hij (hdst j i d hd' hd)
 rcases hg with ⟨h1,h2⟩|⟨u,h1,h2,o,h3,h4⟩
 ·exact .inl ⟨(gd_addE hdst hgd h).2 h1,fun d hd=>by rw [addE_look (hne d hd)];exact h2 d hd⟩
 ·refine .inr ⟨u,fun d hd=>by rw [addE_look (hne d hd)];exact h1 d hd,(gd_addE hdst hgd h).1 h2,o,h3,?_⟩
  rw [envI_addE hdst h]
  exact h4
theorem open_out (hdst:∀ i j d,dstAt tab i=some d→dstAt tab j=some d→i=j) (hgd:∀ i j b,gdAt tab i=some (j,b)→j∈cloAt tab i) (hself:∀ i,i ∉ cloAt tab i):∀ (ps:List Nat) (E:Ev) (C:Ev→Prop),psOk tab ps=true→OpenP P n e0 tab l H ps E C →
  ∃ E',C E'∧(∀ i∈ps,Good P n e0 tab l i E' H)∧(∀ d v,look E' d=some v→look E d=some v∨∃ i∈ps,dstAt tab i=some d)∧(∀ d,(∀ i∈ps,dstAt tab i≠some d)→look E' d=look E d)∧(∀ i,(∀ j∈ps,j ∉ cloAt tab i∧j≠i)→Good P n e0 tab l i E H→Good P n e0 tab l i E' H)
 | [],E,C,_,h=>⟨E,h,by simp,fun _ _ h => .inl h,fun _ _=>rfl,fun _ _ h=>h⟩
 | i::ps,E,C,hps,h=>by
  simp only [psOk,Bool.and_eq_true,List.all_eq_true,Bool.not_eq_true',bne_iff_ne,ne_eq,List.contains_eq_mem,decide_eq_false_iff_not] at hps
  obtain ⟨h1,h2⟩:=hps
  obtain ⟨v,hgi,ho⟩:∃ v,Good P n e0 tab l i (addE tab i v E) H∧OpenP P n e0 tab l H ps (addE tab i v E) C:=by
   rcases h with ⟨h3,h4⟩|⟨v,⟨g1,o,g2,g3⟩,h4⟩
   ·exact ⟨undef,.inl ⟨(gd_addE hdst hgd (hself i)).2 h3,fun d hd=>addE_self hd⟩,h4⟩
   ·exact ⟨v,.inr ⟨v,fun d hd=>addE_self hd,(gd_addE hdst hgd (hself i)).1 g1,o,g2,by rw [envI_addE hdst (hself i)];exact g3⟩,h4⟩
  obtain ⟨E',c1,c2,c3,c4,c5⟩:=open_out hdst hgd hself ps (addE tab i v E) C h2 ho
  refine ⟨E',c1,fun j hj=>?_,fun d u hu=>?_,fun d hd=>?_,fun j hj hg=>?_⟩
  ·rcases List.mem_cons.1 hj with rfl|hj
   ·exact c5 j (fun q hq=>h1 q hq) hgi
   ·exact c2 j hj
  ·rcases c3 d u hu with hh|⟨q,hq,hqd⟩
   ·by_cases hid:dstAt tab i=some d
    ·exact .inr ⟨i,by simp,hid⟩
    ·rw [addE_look hid] at hh;exact .inl hh
   ·exact .inr ⟨q,by simp [hq],hqd⟩
  ·rw [c4 d (fun q hq=>hd q (by simp [hq])),addE_look (hd i (by simp))]
  ·exact c5 j (fun q hq=>hj q (by simp [hq])) (good_addE hdst hgd (hj i (by simp)).1 (hj i (by simp)).2 hg)
theorem rep_out:∀ (rs:List Nat) (E:Ev),ReP P n e0 tab l H E rs→∀ i∈rs,Good P n e0 tab l i E H
 | [],_,_,i,hi=>by simp at hi
 | r::rs,E,h,i,hi=>by
  rcases List.mem_cons.1 hi with rfl|hi
  ·exact h.1
  ·exact rep_out rs E h.2 i hi
theorem wk_open (hdst:∀ i j d,dstAt tab i=some d→dstAt tab j=some d→i=j) (hgd:∀ i j b,gdAt tab i=some (j,b)→j∈cloAt tab i) (hself:∀ i,i ∉ cloAt tab i) {all done:List Nat} {s:Stg} {ss:List Stg} {E:Ev}
  (hs:scOk tab all done (s::ss)=true) (hdom:∀ d v,look E d=some v→∃ i,i<tab.length∧dstAt tab i=some d) (h:Wk P n e0 tab l Fin (s::ss) E H) :
  ∃ E',Stand P n e0 tab l Fin all done s ss E' H∧∀ d,(∀ i∈s.ps,dstAt tab i≠some d)→look E' d=look E d:=by
 have hs':=hs
 simp only [scOk,stOk,Bool.and_eq_true] at hs'
 obtain ⟨E',⟨c0,c1⟩,c2,c3,c4,_⟩:=open_out hdst hgd hself s.ps E _ hs'.1.1.1.1 h
 refine ⟨E',⟨fun i hi=>?_,c1,hs,fun d v hv=>?_⟩,c4⟩
 ·rcases hi with hi|hi
  ·exact c2 i hi
  ·exact rep_out _ _ c0 i hi
 ·rcases c3 d v hv with hh|⟨i,hi,hid⟩
  ·exact hdom d v hh
  ·have:=hs'.1.1.1.2
   simp only [List.all_eq_true,decide_eq_true_eq] at this
   exact ⟨i,this i hi,hid⟩
structure Mid2 (P:Program) (n:Nat) (e e0:Ev) (tab:List Row) (l:List Oper) (Fin:Ev→List Hl→Prop) (W:World) (all D:List Nat) (a:Act) (w:World):Prop where
 size:a.tmps.size=n
 defers:a.defers=[]
 ext:Ext W w
 keep:∀ t v,look e t=some v→(∀ i∈D,dstAt tab i≠some t)→a.tmps[t]?=some v
 at_:∃ (done:List Nat) (s:Stg) (ss:List Stg) (E:Ev) (H:List Hl),Stand P n e0 tab l Fin all done s ss E H∧sat w (stars H)∧(∀ c,c∈done→c∈D)∧(∀ c∈all,c∈D→c∈done)∧(∀ i∈D,∀ d,dstAt tab i=some d→∃ v,look E d=some v∧a.tmps[d]?=some v)
theorem tabOk.facts (ht:tabOk tab=true):(∀ i j d,dstAt tab i=some d→dstAt tab j=some d→i=j)∧(∀ (i:Nat) (r:Row),tab[i]?=some r→∀ j∈r.clo,j<i)∧(∀ i j b,gdAt tab i=some (j,b)→(∃ r:Row,tab[i]?=some r∧j∈r.edges)∧∃ d,dstAt tab j=some d):=by
 refine ⟨fun i j d hi hj=>?_,fun i=>?_,fun i j b hg=>?_⟩
 ·cases hr:tab[i]? with
  | none=>simp [dstAt,hr] at hi
  | some r=>exact (tabOk.row ht hr).2.2.2.2 d (by simpa [dstAt,hr] using hi) j hj
 ·induction i using Nat.strongRecOn with
  | _ i ih =>
   intro r hr j hj
   obtain ⟨c1,c2,_⟩:=tabOk.row ht hr
   rcases c2 j hj with hh|⟨m,hm,s,hs,hj'⟩
   ·exact c1 j hh
   ·have:=ih m (c1 m hm) s hs j hj'
    have:=c1 m hm
    omega
 ·cases hr:tab[i]? with
  | none=>simp [gdAt,hr] at hg
  | some r =>
   obtain ⟨h1,h2⟩:=(tabOk.row ht hr).2.2.2.1 j b (by simpa [gdAt,hr] using hg)
   exact ⟨⟨r,rfl,h1⟩,h2⟩
theorem clo_done (ht:tabOk tab=true) {D:List Nat} (hcl:∀ i∈D,∀ r,tab[i]?=some r→∀ j∈r.edges,j∈D):∀ (m:Nat) (s:Row),tab[m]?=some s→(∀ j∈s.edges,j∈D)→∀ j∈s.clo,j∈D:=by
 intro m
 induction m using Nat.strongRecOn with
 | _ m ih =>
  intro s hs hmD j hj
  obtain ⟨e1,e2,_⟩:=tabOk.row ht hs
  rcases e2 j hj with hh|⟨q,hq,s',hs',hj'⟩
  ·exact hmD j hh
  ·exact ih q (e1 q hq) s' hs' (fun u hu=>hcl q (hmD q hq) s' hs' u hu) j hj'
def gdIn (tab:List Row):Bool:=tab.all fun r=>r.edges.all fun j=>r.clo.contains j
theorem mid2_step (he0:Covers e e0) (ht:tabOk tab=true) (hin:gdIn tab=true) (hrows:l.map (fun o=>(o.dst,edgesOf o,o.guard))=tab.map (fun r=>(r.dst,r.edges,r.guard))) (hdst:tab.all (fun r=>match r.dst with|none=>true|some d=>Nat.blt d n)=true)
  {all D:List Nat} (hcl:∀ i∈D,∀ r,tab[i]?=some r→∀ j∈r.edges,j∈D) {i:Nat} (hi:i ∉ D) {r:Row} (hr:tab[i]?=some r) (hre:∀ j∈r.edges,j∈D) {a:Act} {w:World} (hm:Mid2 P n e e0 tab l Fin W all D a w)
  (K:Act→World→Prop) (hK:∀ a w,Mid2 P n e e0 tab l Fin W all (i::D) a w→K a w):wpOp P l.toArray (k.post P) i K a w:=by
 have hlen:l.length=tab.length:=by simpa using congrArg List.length hrows
 have hil:i<l.length:=by rw [hlen];exact (List.getElem?_eq_some_iff.1 hr).1
 have ho:l[i]?=some l[i]:=List.getElem?_eq_getElem hil
 generalize hoo:l[i]=o at ho
 have hrow:(o.dst,edgesOf o,o.guard)=(r.dst,r.edges,r.guard):=by
  have:=congrArg (fun x=>x[i]?) hrows
  simp only [List.getElem?_map,ho,hr,Option.map_some,Option.some.injEq] at this
  exact this
 simp only [Prod.mk.injEq] at hrow
 obtain ⟨hd,he,hg⟩:=hrow
 obtain ⟨f1,f2,f3⟩:=tabOk.facts ht
 have hdn:∀ d,r.dst=some d→d<n:=by
  intro d hd
  have:=List.all_eq_true.1 hdst r (List.mem_of_getElem? hr)
  rw [hd] at this
  simpa [Nat.blt_eq] using this
 have hdi:dstAt tab i=r.dst:=by simp [dstAt,hr]
 have hci:cloAt tab i=r.clo:=by simp [cloAt,hr]
 have hself:∀ i,i ∉ cloAt tab i:=by
  intro j hj
  cases hs:tab[j]? with
  | none=>simp [cloAt,hs] at hj
  | some s=>have:=f2 j s hs j (by simpa [cloAt,hs] using hj);omega
 have hgd:∀ i j b,gdAt tab i=some (j,b)→j∈cloAt tab i:=by
  intro i j b h
  obtain ⟨⟨s,hs,hj⟩,_⟩:=f3 i j b h
  have:=List.all_eq_true.1 hin s (List.mem_of_getElem? hs)
  simp only [List.all_eq_true,List.contains_eq_mem,decide_eq_true_eq] at this
  simpa [cloAt,hs] using this j hj
 have hcloD:∀ j∈cloAt tab i,j∈D:=by rw [hci];exact clo_done ht hcl i r hr hre
 have hcloM:∀ m∈D,∀ j∈cloAt tab m,j∈D:=by
  intro m hmD j hj
  cases hs:tab[m]? with
  | none=>simp [cloAt,hs] at hj
  | some s=>exact clo_done ht hcl m s hs (hcl m hmD s hs) j (by simpa [cloAt,hs] using hj)
 obtain ⟨done,s,ss,E,H,hst,hsat,hdD,hDd,hat⟩:=hm.at_
 have hput:∀ v w',Ext w w'→(∀ t,r.dst≠some t→(a.put o.dst v).tmps[t]?=a.tmps[t]?)∧(∀ d,r.dst=some d→(a.put o.dst v).tmps[d]?=some v)∧(a.put o.dst v).tmps.size=n∧(a.put o.dst v).defers=[] ∧
   (∀ t u,look e t=some u→(∀ j∈i::D,dstAt tab j≠some t)→(a.put o.dst v).tmps[t]?=some u):=by
  intro v w' hx
  have q1:∀ t,r.dst≠some t→(a.put o.dst v).tmps[t]?=a.tmps[t]?:=by
   intro t ht'
   rw [hd]
   cases hrd:r.dst with
   | none=>rfl
   | some d =>
    have:d≠t:=fun e=>by subst e;exact ht' hrd
    simp [Act.put,this]
  refine ⟨q1,fun d hrd=>?_,?_,?_,fun t u hl hn=>?_⟩
  ·rw [hd,hrd];simp [Act.put,hm.size,hdn d hrd]
  ·rw [hd];cases r.dst <;> simp [Act.put,hm.size]
  ·rw [hd];cases r.dst <;> simp [Act.put,hm.defers]
  ·rw [q1 t (fun e=>hn i (by simp) (hdi.trans e))]
   exact hm.keep t u hl (fun j hj=>hn j (by simp [hj]))
 have hev:EvOk a n (envI tab e0 i E):=by
  refine ⟨hm.size,hm.defers,fun t v hl=>?_⟩
  rcases look_append _ _ t v hl with hl|hl
  ·obtain ⟨hk,hl⟩:=look_filter (f:=fun t=>(cloAt tab i).any fun j=>dstAt tab j == some t) E t v hl
   simp only [List.any_eq_true,beq_iff_eq] at hk
   obtain ⟨j,hj,hjd⟩:=hk
   obtain ⟨u,hu,hu'⟩:=hat j (hcloD j hj) t hjd
   rw [hl] at hu
   injection hu with hu
   subst hu
   exact hu'
  ·obtain ⟨hk,hl⟩:=look_filter e0 t v hl
   refine hm.keep t v (he0.look t v hl) fun j hj hd'=>?_
   simp only [keep,List.all_eq_true] at hk
   cases hs:tab[j]? with
   | none=>simp [dstAt,hs] at hd'
   | some s' =>
    have:=hk (s',j) (by rw [List.mem_zipIdx_iff_getElem?];simpa using hs)
    simp only [dstAt,hs,Option.bind_some] at hd'
    simp only [hd',bne_self_eq_false,Bool.false_or,List.contains_eq_mem,decide_eq_true_eq] at this
    exact hi (hcloM j hj i (by simpa [cloAt,hs] using this))
 have hdo:∀ j,(l.toArray[j]?).bind (·.dst)=dstAt tab j:=by
  intro j
  have:=congrArg (fun x=>x[j]?) hrows
  simp only [List.getElem?_map] at this
  simp only [List.getElem?_toArray,dstAt]
  cases h1:l[j]? <;> cases h2:tab[j]? <;> simp_all
 have hdo':∀ j,(l[j]?).bind (·.dst)=dstAt tab j:=fun j=>by simpa using hdo j
 have hslot:∀ j b d v,gdAt tab i=some (j,b)→dstAt tab j=some d→look E d=some v→a.tmps[d]?=some v:=by
  intro j b d v h1 h2 h3
  obtain ⟨u,hu,hu'⟩:=hat j (hcloD j (hgd i j b h1)) d h2
  rw [h3] at hu
  injection hu with hu
  exact hu ▸ hu'
 have hgr:gdAt tab i=r.guard:=by simp [gdAt,hr]
 have wants:gdRun tab i E→Region.wanted o (yielded l.toArray a.tmps)=true:=by
  intro h
  unfold Region.wanted
  rw [hg,←hgr]
  cases hq:gdAt tab i with
  | none=>rfl
  | some jb =>
   obtain ⟨j,b⟩:=jb
   obtain ⟨d,h1,h2⟩:=h j b hq
   have:=hslot j b d _ hq h1 h2
   simp [yielded,hdo',h1,this]
 have wants':gdOff tab i E→Region.wanted o (yielded l.toArray a.tmps)=false:=by
  rintro ⟨j,b,d,h1,h2,h3⟩
  unfold Region.wanted
  rw [hg,←hgr,h1]
  rcases h3 with h3|h3
  ·have:=hslot j b d _ h1 h2 h3
   simp [yielded,hdo',h2,this]
  ·have:=hslot j b d _ h1 h2 h3
   simp [yielded,hdo',h2,this,undef]
 unfold wpOp
 simp only [List.getElem?_toArray,ho]
 have hsc:=hst.script
 have hother:∀ v w',Ext w w'→∀ j∈D,∀ d,dstAt tab j=some d→(a.put o.dst v).tmps[d]?=a.tmps[d]?:=fun v w' hx j hj d hd'=>(hput v w' hx).1 d fun e=>hi (f1 i j d (hdi.trans e) hd' ▸ hj)
 have hilt:i<tab.length:=hlen ▸ hil
 simp only [scOk,stOk,Bool.and_eq_true,List.all_eq_true,List.mem_range,Bool.or_eq_true,List.any_eq_true,Bool.not_eq_true',List.contains_eq_mem,decide_eq_true_eq,decide_eq_false_iff_not] at hsc
 obtain ⟨⟨⟨⟨_,hps⟩,hcover⟩,hch⟩,hnext⟩:=hsc
 by_cases hall:i∈all
 ·-- it ends the stage
  have hnd:i ∉ done:=fun h=>hi (hdD i h)
  have hsi:s.ch=some i:=by
   cases hc:s.ch with
   | none =>
    rw [hc] at hch
    simp only [List.all_eq_true,decide_eq_true_eq] at hch
    exact absurd (hch i hall) hnd
   | some c =>
    rw [hc] at hch
    simp only [Bool.and_eq_true,List.all_eq_true,Bool.or_eq_true,decide_eq_true_eq,Bool.not_eq_true',decide_eq_false_iff_not,beq_iff_eq] at hch
    obtain ⟨⟨⟨⟨_,h2⟩,h3⟩,h4⟩,_⟩:=hch
    rcases h4 i hall with (h5|h5)|h5
    ·exact absurd h5 hnd
    ·rw [h5]
    ·exact absurd (hDd c h3 (hcloD c h5)) h2
  have hnx:=hst.next
  rw [hsi] at hnx hnext
  simp only [Bool.and_eq_true] at hnext
  cases ss with
  | nil=>exact absurd hnext.1 (by simp)
  | cons s' ss' =>
   have hs':∀ q∈s'.ps,i∈cloAt tab q:=by
    have:=hnext.1
    simp only [List.all_eq_true,decide_eq_true_eq] at this
    exact this
   have adv:∀ v w' H',Ext w w'→sat w' (stars H')→Wk P n e0 tab l Fin (s'::ss') (addE tab i v E) H'→Mid2 P n e e0 tab l Fin W all (i::D) (a.put o.dst v) w':=by
    intro v w' H' hx hs hw
    obtain ⟨E',hst',hlk⟩:=wk_open f1 hgd hself hnext.2 (fun d u hu=>by
     by_cases hid:dstAt tab i=some d
     ·exact ⟨i,hilt,hid⟩
     ·rw [addE_look hid] at hu;exact hst.dom d u hu) hw
    obtain ⟨q1,q2,q3,q4,q5⟩:=hput v w' hx
    refine ⟨q3,q4,hm.ext.trans hx,q5,i::done,s',ss',E',H',hst',hs,fun c hc=>?_,fun c hc hcD=>?_,fun j hj d hd'=>?_⟩
    ·rcases List.mem_cons.1 hc with rfl|hc
     ·simp
     ·simp [hdD c hc]
    ·rcases List.mem_cons.1 hcD with rfl|hcD
     ·simp
     ·simp [hDd c hc hcD]
    ·have hne:∀ q∈s'.ps,dstAt tab q≠some d:=by
      intro q hq hqd
      have:=f1 q j d hqd hd'
      subst this
      rcases List.mem_cons.1 hj with rfl|hj
      ·exact hself _ (hs' _ hq)
      ·exact hi (hcloM _ hj i (hs' _ hq))
     rw [hlk d hne]
     rcases List.mem_cons.1 hj with rfl|hj
     ·exact ⟨v,addE_self hd',q2 d (hdi.symm.trans hd')⟩
     ·rw [addE_look (fun e=>hi (f1 i j d e hd' ▸ hj)),hother v w' hx j hj d hd']
      exact hat j hj d hd'
   rcases hnx with ⟨h1,h2⟩|⟨h1,o',h2,h3⟩
   ·rw [wants' h1]
    exact hK _ _ (adv undef w H (.refl w) hsat h2)
   ·rw [wants h1]
    simp only [if_true]
    left
    rw [ho] at h2
    injection h2 with h2
    subst h2
    exact h3.out a w ⟨hev,hsat⟩ o rfl rfl K _ fun v w' H' hc hx hs=>hK _ _ (adv v w' H' hx hs hc)
 ·have hgood:Good P n e0 tab l i E H:=by
   rcases hcover i hilt with (((h|⟨c,h1,h2,h3⟩)|⟨c,h1,h2⟩)|h)|h
   ·exact absurd h hall
   ·exact absurd (hDd c h1 (hcloD c h2)) h3
   ·exact absurd (hcloM c (hdD c h1) i h2) hi
   ·exact hst.good i (.inl h)
   ·exact hst.good i (.inr h)
  have stay:∀ v w',(∀ d,dstAt tab i=some d→look E d=some v)→Ext w w'→sat w' (stars H)→Mid2 P n e e0 tab l Fin W all (i::D) (a.put o.dst v) w':=by
   intro v w' hlk hx hs
   obtain ⟨q1,q2,q3,q4,q5⟩:=hput v w' hx
   refine ⟨q3,q4,hm.ext.trans hx,q5,done,s,ss,E,H,hst,hs,fun c hc=>by simp [hdD c hc],fun c hc hcD=>?_,fun j hj d hd'=>?_⟩
   ·rcases List.mem_cons.1 hcD with rfl|hcD
    ·exact absurd hc hall
    ·exact hDd c hc hcD
   ·rcases List.mem_cons.1 hj with rfl|hj
    ·exact ⟨v,hlk d hd',q2 d (hdi.symm.trans hd')⟩
    ·rw [hother v w' hx j hj d hd']
     exact hat j hj d hd'
  rcases hgood with ⟨h1,h2⟩|⟨v,h0,h1,o',h2,h3⟩
  ·rw [wants' h1]
   exact hK _ _ (stay undef w h2 (.refl w) hsat)
  ·rw [wants h1]
   simp only [if_true]
   left
   rw [ho] at h2
   injection h2 with h2
   subst h2
   exact h3.out a w ⟨hev,hsat⟩ o rfl rfl K _ fun v' w' H' hc hx hs=>hK _ _ (hc.1 ▸ stay v w' h0 hx (hs.mono hc.2))
theorem any_all2 (ht:tabOk tab=true) (hrows:l.map (fun o=>(o.dst,edgesOf o,o.guard))=tab.map (fun r=>(r.dst,r.edges,r.guard))) (M:List Nat→Act→World→Prop)
  (hstep:∀ (D:List Nat) (i:Nat) (r:Row),(∀ i∈D,∀ r,tab[i]?=some r→∀ j∈r.edges,j∈D)→i ∉ D→tab[i]?=some r→(∀ j∈r.edges,j∈D)→∀ a w,M D a w→∀ K:Act→World→Prop,(∀ a w,M (i::D) a w→K a w)→wpOp P l.toArray (k.post P) i K a w)
  (hend:∀ D a w,(∀ i,i<l.length→i∈D)→M D a w→k.post P .normal a w) :
  ∀ (fuel:Nat) (listed:Array Bool) (D:List Nat) (a:Act) (w:World),D.Nodup→(∀ i∈D,i<l.length)→(∀ i∈D,∀ r,tab[i]?=some r→∀ j∈r.edges,j∈D)→listed.size=l.length→(∀ i,i<l.length→listed[i]?=some (decide (i∈D))) →
   ((List.range l.length).filter fun x => !decide (x∈D)).length≤fuel→M D a w→wpAny P .any l.toArray (k.post P) fuel listed a w:=by
 have hlen:l.length=tab.length:=by simpa using congrArg List.length hrows
 have hrow:∀ i,i<l.length→∃ r o,tab[i]?=some r∧l[i]?=some o∧edgesOf o=r.edges:=by
  intro i hi
  have h1:l[i]?=some l[i]:=List.getElem?_eq_getElem hi
  have h2:tab[i]?=some (tab[i]'(hlen ▸ hi)):=List.getElem?_eq_getElem _
  have:=congrArg (fun x=>x[i]?) hrows
  simp only [List.getElem?_map,h1,h2,Option.map_some,Option.some.injEq,Prod.mk.injEq] at this
  exact ⟨_,_,h2,h1,this.2.1⟩
 have hready:∀ (listed:Array Bool) (D:List Nat),listed.size=l.length→(∀ i,i<l.length→listed[i]?=some (decide (i∈D)))→∀ i,i<l.length→i ∉ D→(∀ r,tab[i]?=some r→∀ j∈r.edges,j∈D)→i∈Region.ready .any l.toArray listed:=by
  intro listed D hs hl i hi hiD hre
  obtain ⟨r,o,hr,ho,he⟩:=hrow i hi
  simp only [Region.ready,List.size_toArray,List.mem_filter,List.mem_range,Bool.and_eq_true]
  refine ⟨hi,by simp [Array.getD_eq_getD_getElem?,hl i hi,hiD],?_⟩
  simp only [List.getElem?_toArray,ho,Option.map_some,Option.getD_some]
  rw [Array.all_eq_true_iff_forall_mem]
  intro ed hed
  cases hb:Region.binds .any ed
  ·rfl
  ·have hj:ed.on∈r.edges:=by
    rw [←he]
    simp only [edgesOf,List.mem_map,List.mem_filter]
    exact ⟨ed,⟨by simpa using hed,hb⟩,rfl⟩
   have hjD:=hre r hr ed.on hj
   have hjl:ed.on<l.length:=by
    obtain ⟨c1,_⟩:=tabOk.row ht hr
    have:=c1 _ hj
    omega
   simp [Array.getD_eq_getD_getElem?,hl _ hjl,hjD]
 have hall:∀ (listed:Array Bool) (D:List Nat),listed.size=l.length→(∀ i,i<l.length→listed[i]?=some (decide (i∈D)))→Region.ready .any l.toArray listed=[]→∀ i,i<l.length→i∈D:=by
  intro listed D hs hl hr i
  induction i using Nat.strongRecOn with
  | _ i ih =>
   intro hi
   rcases Classical.em (i∈D) with h|h
   ·exact h
   ·have:=hready listed D hs hl i hi h fun r hr' j hj=>by
     obtain ⟨c1,_⟩:=tabOk.row ht hr'
     exact ih j (c1 j hj) (by have:=c1 j hj;omega)
    rw [hr] at this
    cases this
 intro fuel
 induction fuel with
 | zero =>
  intro listed D a w hD hlt hcl hs hl hf hm
  have hin:∀ i,i<l.length→i∈D:=by
   intro i hi
   rcases Classical.em (i∈D) with h|h
   ·exact h
   ·have:i∈(List.range l.length).filter fun x => !decide (x∈D):=by simp [hi,h]
    have:=List.length_pos_of_mem this
    omega
  refine ⟨?_,hend D a w hin hm⟩
  simp only [Region.ready,List.size_toArray,List.filter_eq_nil_iff,List.mem_range]
  intro i hi
  simp [Array.getD_eq_getD_getElem?,hl i hi,hin i hi]
 | succ fuel ih =>
  intro listed D a w hD hlt hcl hs hl hf hm
  refine ⟨fun hr=>hend D a w (hall listed D hs hl hr) hm,fun i hi=>?_⟩
  simp only [Region.ready,List.size_toArray,List.mem_filter,List.mem_range,Bool.and_eq_true] at hi
  obtain ⟨hil,hi1,hi2⟩:=hi
  have hiD:i ∉ D:=by simpa [Array.getD_eq_getD_getElem?,hl i hil] using hi1
  obtain ⟨r,o,hr,ho,he⟩:=hrow i hil
  have hre:∀ j∈r.edges,j∈D:=by
   intro j hj
   obtain ⟨c1,_⟩:=tabOk.row ht hr
   have hjl:j<l.length:=by have:=c1 j hj;omega
   rw [←he] at hj
   simp only [edgesOf,List.mem_map,List.mem_filter] at hj
   obtain ⟨ed,⟨hed,hb⟩,rfl⟩:=hj
   simp only [List.getElem?_toArray,ho,Option.map_some,Option.getD_some] at hi2
   rw [Array.all_eq_true_iff_forall_mem] at hi2
   have:=hi2 ed (by simpa using hed)
   simpa [hb,Array.getD_eq_getD_getElem?,hl _ hjl] using this
  refine hstep D i r hcl hiD hr hre a w hm _ fun a' w' hm'=>ih _ (i::D) a' w' (List.nodup_cons.2 ⟨hiD,hD⟩) ?_ ?_ ?_ ?_ ?_ hm'
  ·intro j hj
   rcases List.mem_cons.1 hj with rfl|hj
   ·exact hil
   ·exact hlt j hj
  ·intro j hj s hs' q hq
   rcases List.mem_cons.1 hj with rfl|hj
   ·rw [hr] at hs';cases hs';exact List.mem_cons.2 (.inr (hre q hq))
   ·exact List.mem_cons.2 (.inr (hcl j hj s hs' q hq))
  ·simpa using hs
  ·intro j hj
   by_cases hji:j=i
   ·subst hji;simp [hs,hil]
   ·rw [Array.getElem?_setIfInBounds,if_neg (Ne.symm hji),hl j hj];simp [hji]
  ·have:=filter_lt (p:=fun x => !decide (x∈D)) (i:=i) (List.range l.length) (by simpa using hil) (by simpa using hiD)
   have e2:((List.range l.length).filter fun x => !decide (x∈i::D))=((List.range l.length).filter fun x=>(!decide (x∈D)) && x != i):=by
    apply List.filter_congr
    intro x _
    by_cases hx:x=i <;> by_cases hxD:x∈D <;> simp [hx,hxD]
   rw [e2]
   omega
def scriptOk (n:Nat) (tab:List Row) (all:List Nat) (S:List Stg):Bool:=tabOk tab && gdIn tab && scOk tab all [] S && tab.all (fun r=>match r.dst with|none=>true|some d=>Nat.blt d n) && !S.isEmpty
theorem st_stages {id:Nat} (e0:Ev) (tab:List Row) (all:List Nat) (S:List Stg) (hm:P.follows .mixedOrders=true) (he:Covers e e0) (hrows:l.map (fun o=>(o.dst,edgesOf o,o.guard))=tab.map (fun r=>(r.dst,r.edges,r.guard)))
  (hok:scriptOk n tab all S=true) (h:Wk P n e0 tab l (fun E H'=>Nx P k n (E++e) W H') S [] H):St P (.region id l.toArray true) k n e W H :=
 ⟨fun a w ho=>by
  simp only [scriptOk,Bool.and_eq_true] at hok
  obtain ⟨⟨⟨⟨ht,hin⟩,hsc⟩,hdst⟩,hne⟩:=hok
  have hlen:l.length=tab.length:=by simpa using congrArg List.length hrows
  obtain ⟨f1,f2,f3⟩:=tabOk.facts ht
  have hself:∀ i,i ∉ cloAt tab i:=by
   intro j hj
   cases hs:tab[j]? with
   | none=>simp [cloAt,hs] at hj
   | some s=>have:=f2 j s hs j (by simpa [cloAt,hs] using hj);omega
  have hgd:∀ i j b,gdAt tab i=some (j,b)→j∈cloAt tab i:=by
   intro i j b h
   obtain ⟨⟨s,hs,hj⟩,_⟩:=f3 i j b h
   have:=List.all_eq_true.1 hin s (List.mem_of_getElem? hs)
   simp only [List.all_eq_true,List.contains_eq_mem,decide_eq_true_eq] at this
   simpa [cloAt,hs] using this j hj
  cases S with
  | nil=>simp at hne
  | cons s ss =>
   obtain ⟨E,hst,_⟩:=wk_open f1 hgd hself hsc (by simp [look]) h
   refine wp_region_any hm ?_
   refine any_all2 ht hrows (Mid2 P n e e0 tab l (fun E H'=>Nx P k n (E++e) W H') W all) (fun D i r hcl hi hr hre a w hm K hK=>mid2_step he ht hin hrows hdst hcl hi hr hre hm K hK) (fun D a w hall hm=>?_) _ _ [] _ _ List.nodup_nil (by simp) (by simp) (by simp) (fun i hi=>by simp [hi]) (Nat.le_trans (List.length_filter_le _ _) (by simp))
    ⟨ho.ev.size,ho.ev.defers,ho.ext.drew,fun t v hl _=>ho.ev.get t v hl,[],s,ss,E,H,hst,ho.sat,by simp,by simp,by simp⟩
   obtain ⟨done,s,ss,E,H,hst,hsat,hdD,hDd,hat⟩:=hm.at_
   have hs2:=hst.script
   simp only [scOk,stOk,Bool.and_eq_true] at hs2
   have hch:=hs2.1.2
   have hnx:=hst.next
   cases hc:s.ch with
   | some c =>
    rw [hc] at hch
    simp only [Bool.and_eq_true,decide_eq_true_eq,Bool.not_eq_true',List.contains_eq_mem,decide_eq_false_iff_not] at hch
    exact absurd (hDd c hch.1.1.2 (hall c (by omega))) hch.1.1.1.2
   | none =>
    rw [hc] at hnx
    refine Nx.out hnx a w ⟨⟨hm.size,hm.defers,fun t v hl=>?_⟩,hm.ext,hsat⟩
    rcases look_append' _ _ t v hl with hl|⟨hn,hl⟩
    ·obtain ⟨i,hi,hid⟩:=hst.dom t v hl
     obtain ⟨u,hu,hu'⟩:=hat i (hall i (by omega)) t hid
     rw [hl] at hu
     injection hu with hu
     exact hu ▸ hu'
    ·refine hm.keep t v hl fun i hi hd=>?_
     have hit:i<tab.length:=by
      cases hs:tab[i]? with
      | none=>simp [dstAt,hs] at hd
      | some s=>exact (List.getElem?_eq_some_iff.1 hs).1
     obtain ⟨u,hu,_⟩:=hat i hi t hd
     rw [hn] at hu
     cases hu⟩
end
theorem fa_nil {α:Type} {p:α→Prop}:∀ y∈([]:List α),p y:=by simp
theorem fa_cons {α:Type} {p:α→Prop} {x:α} {l:List α} (h:p x) (t:∀ y∈l,p y):∀ y∈x::l,p y:=List.forall_mem_cons.2 ⟨h,t⟩
theorem rx_lit {α:Type} {H H':List Hl} {T:TypeId} {enc:α→Value} {b c:Nat} {l:List α} [s:SBox H b T (l.map enc) H'] (hc:l.length=c) (hb:Nat.ble c 9223372036854775807=true) (hh:Has H):Rs (stars H) enc (some ⟨b,0,none⟩) c l:=rx_box hc (Nat.le_of_ble_eq_true hb) hh
theorem gd_r0 {tab:List Row} {i:Nat} {E:Ev} (h:gdAt tab i=none):gdRun tab i E:=fun j b hj=>by rw [h] at hj;cases hj
theorem gd_r1 {tab:List Row} {i j d:Nat} {b:Bool} {E:Ev} (h:gdAt tab i=some (j,b)) (hd:dstAt tab j=some d) (hl:look E d=some (.bool b)):gdRun tab i E:=fun j' b' hj=>by
 rw [h] at hj;cases hj;exact ⟨d,hd,hl⟩
theorem gd_o1 {tab:List Row} {i j d:Nat} {b:Bool} {E:Ev} (h:gdAt tab i=some (j,b)) (hd:dstAt tab j=some d) (hl:look E d=some (.bool (!b))):gdOff tab i E:=⟨j,b,d,h,hd,.inl hl⟩
theorem gd_o2 {tab:List Row} {i j d:Nat} {b:Bool} {E:Ev} (h:gdAt tab i=some (j,b)) (hd:dstAt tab j=some d) (hl:look E d=some undef):gdOff tab i E:=⟨j,b,d,h,hd,.inr hl⟩
theorem addE_some {tab:List Row} {i d:Nat} {v:Value} {E:Ev} (h:dstAt tab i=some d):addE tab i v E=(d,v)::E:=by simp [addE,h]
theorem addE_none {tab:List Row} {i:Nat} {v:Value} {E:Ev} (h:dstAt tab i=none):addE tab i v E=E:=by simp [addE,h]
section
variable {P:Program} {n:Nat} {e:Ev} {tab:List Row} {l:List Oper} {H:List Hl} {ps rs:List Nat} {i d:Nat} {E E':Ev} {v:Value} {C:Ev→Prop} {op:Op} {ty:TypeId} {dst:Option Nat} {pos:String} {af:Array Edge} {g:Option (Nat × Bool)} {Fin:Ev→List Hl→Prop} {ss:List Stg} {ch:Option Nat}
theorem O1.cov {op:Op} {ty:TypeId} {E E':Ev} {C:Value→List Hl→Prop} (hc:Covers E E') (h:O1 P op ty n E' H C):O1 P op ty n E H C:=⟨fun a w ho=>h.out a w ⟨ho.ev.covers hc,ho.sat⟩⟩
theorem wk_end (h:OpenP P n e tab l H ps E fun E'=>ReP P n e tab l H E' rs∧Fin E' H):Wk P n e tab l Fin (⟨ps,rs,none⟩::ss) E H:=h
theorem wk_ch (h:OpenP P n e tab l H ps E fun E'=>ReP P n e tab l H E' rs∧((gdOff tab i E'∧Wk P n e tab l Fin ss (addE tab i undef E') H)∨Op1 P n e tab l i E' H fun v H'=>Wk P n e tab l Fin ss (addE tab i v E') H')):Wk P n e tab l Fin (⟨ps,rs,some i⟩::ss) E H:=h
theorem op_nil (h:C E):OpenP P n e tab l H [] E C:=h
theorem op_off (hd:dstAt tab i=some d) (hg:gdOff tab i E) (h:OpenP P n e tab l H ps ((d,undef)::E) C):OpenP P n e tab l H (i::ps) E C := .inl ⟨hg,by rw [addE_some hd];exact h⟩
theorem op_run (hd:dstAt tab i=some d) (hg:gdRun tab i E) (ho:l[i]?=some ⟨dst,op,ty,pos,af,g⟩) (hc:Covers (envI tab e i E) E') (h1:O1 P op ty n E' H fun v' H'=>v'=v∧∀ h,stars H' h→stars H h) (h:OpenP P n e tab l H ps ((d,v)::E) C):OpenP P n e tab l H (i::ps) E C :=
 .inr ⟨v,⟨hg,_,ho,h1.cov hc⟩,by rw [addE_some hd];exact h⟩
theorem re_nil {Q:Prop} (h:Q):ReP P n e tab l H E []∧Q:=⟨trivial,h⟩
theorem re_off {Q:Prop} (hd:dstAt tab i=some d) (hl:look E d=some undef) (hg:gdOff tab i E) (h:ReP P n e tab l H E rs∧Q):ReP P n e tab l H E (i::rs)∧Q :=
 ⟨⟨.inl ⟨hg,fun d' hd'=>by rw [hd] at hd';cases hd';exact hl⟩,h.1⟩,h.2⟩
theorem re_run {Q:Prop} (hd:dstAt tab i=some d) (hl:look E d=some v) (hg:gdRun tab i E) (ho:l[i]?=some ⟨dst,op,ty,pos,af,g⟩) (hc:Covers (envI tab e i E) E') (h1:O1 P op ty n E' H fun v' H'=>v'=v∧∀ h,stars H' h→stars H h) (h:ReP P n e tab l H E rs∧Q):ReP P n e tab l H E (i::rs)∧Q :=
 ⟨⟨.inr ⟨v,fun d' hd'=>by rw [hd] at hd';cases hd';exact hl,hg,_,ho,h1.cov hc⟩,h.1⟩,h.2⟩
theorem ch_off (hd:dstAt tab i=some d) (hg:gdOff tab i E) (h:Wk P n e tab l Fin ss ((d,undef)::E) H):(gdOff tab i E∧Wk P n e tab l Fin ss (addE tab i undef E) H)∨Op1 P n e tab l i E H fun v H'=>Wk P n e tab l Fin ss (addE tab i v E) H' := .inl ⟨hg,by rw [addE_some hd];exact h⟩
theorem ch_off_no (hd:dstAt tab i=none) (hg:gdOff tab i E) (h:Wk P n e tab l Fin ss E H):(gdOff tab i E∧Wk P n e tab l Fin ss (addE tab i undef E) H)∨Op1 P n e tab l i E H fun v H'=>Wk P n e tab l Fin ss (addE tab i v E) H' := .inl ⟨hg,by rw [addE_none hd];exact h⟩
theorem ch_run (hd:dstAt tab i=some d) (hg:gdRun tab i E) (ho:l[i]?=some ⟨dst,op,ty,pos,af,g⟩) (hc:Covers (envI tab e i E) E') (h:O1 P op ty n E' H fun v H'=>Wk P n e tab l Fin ss ((d,v)::E) H'):(gdOff tab i E∧Wk P n e tab l Fin ss (addE tab i undef E) H)∨Op1 P n e tab l i E H fun v H'=>Wk P n e tab l Fin ss (addE tab i v E) H' :=
 .inr ⟨hg,_,ho,by simp only [addE_some hd];exact h.cov hc⟩
theorem ch_run_no (hd:dstAt tab i=none) (hg:gdRun tab i E) (ho:l[i]?=some ⟨dst,op,ty,pos,af,g⟩) (hc:Covers (envI tab e i E) E') (h:O1 P op ty n E' H fun _ H'=>Wk P n e tab l Fin ss E H'):(gdOff tab i E∧Wk P n e tab l Fin ss (addE tab i undef E) H)∨Op1 P n e tab l i E H fun v H'=>Wk P n e tab l Fin ss (addE tab i v E) H' :=
 .inr ⟨hg,_,ho,by simp only [addE_none hd];exact h.cov hc⟩
variable {k:Kon} {ops:Array Oper} {rest:List Oper} {W:World} {x y:Operand} {m:Nat}
theorem o1_lit_enc {α:Type} (enc:α→Value) (ls:List α) {T E2:TypeId} {z:Value} {by_:Nat} {ps:List (Nat × Operand)} {us:List (Nat × Value)} {C:Value→List Hl→Prop} {e:Ev} [ht:TSl P T E2] [hi:TInf P E2 z 1 by_] (hps:opdi e ps=some us) (hidx:us.map (·.1)=List.range' 0 us.length) (hl:us.map (·.2)=ls.map enc) (henc:∀ x,(enc x).oneCell'=true) (hz:z.oneCell'=true) (hm:m=us.length) (hb:Nat.ble us.length 16777216=true)
  (h:∀ b,C (.slice (some ⟨b,0,none⟩) m m) (.box b E2 (ls.map enc)::H)):O1 P (.buildSlice T m ps.toArray) ty n e H C :=
 o1_lit hps hidx (fun u hu=>by
  have:u.2∈us.map (·.2):=List.mem_map.2 ⟨u,hu,rfl⟩
  rw [hl] at this
  obtain ⟨y,_,hy⟩:=List.mem_map.1 this
  rw [←hy];exact henc y) hz hm hb (fun b=>by rw [hl];exact h b)
def cutA (ad:Option Addr) (c lo:Nat):Option Addr:=if c=lo then ad else ad.map (·.add lo)
theorem Rs.cutv {α:Type} {A:Hp→Prop} {enc:α→Value} {ad:Option Addr} {c:Nat} {l:List α} (h:Rs A enc ad c l) (lo hi:Nat) (h1:lo≤hi) (h2:hi≤l.length):Rs A enc (cutA ad c lo) (c - lo) ((l.take hi).drop lo):=h.cut lo hi c h1 h2 (Nat.le_trans h2 h.le) (Nat.le_refl _)
theorem Rs.cutl {α:Type} {A:Hp→Prop} {enc:α→Value} {ad:Option Addr} {c:Nat} {l:List α} (h:Rs A enc ad c l) (lo:Nat) (h1:lo≤l.length):Rs A enc (cutA ad c lo) (c - lo) (l.drop lo):=by
 have:=h.cutv lo l.length h1 (Nat.le_refl _)
 rwa [List.take_length] at this
variable {α:Type} {A:Hp→Prop} {enc:α→Value} {ad:Option Addr} {c l0:Nat} {p q:Int} {kd kd':IntKind} {xs:List α} {T E2:TypeId} {z:Value} {by_:Nat} {C2:Value→List Hl→Prop}
theorem o1_cv_lh {ol oh:Operand} [ht:TSl P T E2] [hi':TInf P E2 z 1 by_] (hx:opd e x=some (.slice ad l0 c)) (hl:opd e ol=some (.int kd p)) (hh:opd e oh=some (.int kd' q)) (hr:Rs A enc ad c xs) (h0:l0=xs.length) (hp:0≤p∧p≤q) (h2:q≤xs.length)
  (h:C2 (.slice (cutA ad c p.toNat) ((xs.take q.toNat).drop p.toNat).length (c - p.toNat)) H):O1 P (.slice T x (some ol) (some oh) none) ty n e H C2:=by
 have hle:=hr.le
 have hlen:((xs.take q.toNat).drop p.toNat).length=q.toNat - p.toNat:=by simp;omega
 rw [hlen] at h
 exact o1_slice_lh (lo:=p.toNat) (hi:=q.toNat) hx (by rw [hl];congr 2;omega) (by rw [hh];congr 2;omega) (by omega) (by omega) (by simpa [cutA] using h)
theorem o1_cv_h {oh:Operand} [ht:TSl P T E2] [hi':TInf P E2 z 1 by_] (hx:opd e x=some (.slice ad l0 c)) (hh:opd e oh=some (.int kd' q)) (hr:Rs A enc ad c xs) (h0:l0=xs.length) (hp:0≤q) (h2:q≤xs.length)
  (h:C2 (.slice (cutA ad c 0) ((xs.take q.toNat).drop 0).length (c - 0)) H):O1 P (.slice T x none (some oh) none) ty n e H C2:=by
 have hle:=hr.le
 have hlen:((xs.take q.toNat).drop 0).length=q.toNat:=by simp;omega
 rw [hlen] at h
 exact o1_slice_h (hi:=q.toNat) hx (by rw [hh];congr 2;omega) (by omega) (by simpa [cutA] using h)
theorem o1_cv_l {ol:Operand} [ht:TSl P T E2] [hi':TInf P E2 z 1 by_] (hx:opd e x=some (.slice ad l0 c)) (hl:opd e ol=some (.int kd p)) (hr:Rs A enc ad c xs) (h0:l0=xs.length) (hp:0≤p) (h2:p≤xs.length)
  (h:C2 (.slice (cutA ad c p.toNat) (xs.drop p.toNat).length (c - p.toNat)) H):O1 P (.slice T x (some ol) none none) ty n e H C2:=by
 have hle:=hr.le
 have hlen:(xs.drop p.toNat).length=xs.length - p.toNat:=by simp
 rw [hlen] at h
 subst h0
 exact o1_slice_l (lo:=p.toNat) hx (by rw [hl];congr 2;omega) (by omega) (by simpa [cutA] using h)
end
theorem putL_map {α:Type} (enc:α→Value):∀ (ys xs pre:List α),ys.length≤xs.length→putL ((pre++xs).map enc) pre.length (ys.map enc)=(pre++(ys++xs.drop ys.length)).map enc
 | [],xs,pre,_=>by simp [putL]
 | y::ys,[],pre,h=>by simp at h
 | y::ys,x::xs,pre,h=>by
  simp only [List.length_cons] at h
  have ih:=putL_map enc ys xs (pre++[y]) (by omega)
  simp only [List.map_cons,putL]
  have e1:((pre++x::xs).map enc).set pre.length (enc y)=((pre++[y])++xs).map enc:=by simp
  rw [e1,show pre.length+1=(pre++[y]).length from by simp,ih]
  simp
section
variable {P:Program} {ops:Array Oper} {k:Kon} {rest:List Oper} {n:Nat} {e:Ev} {W:World} {H:List Hl}
variable {C:Value→List Hl→Prop} {ty:TypeId} {x y:Operand} {α:Type} {enc:α→Value} {T T2 E:TypeId} {z:Value} {by_:Nat}
theorem ox_copy {b m0 l0 c0 c:Nat} {ad:Option Addr} {xs ys:List α} {H':List Hl} [ht:TSl P T E] [hi:TInf P E z 1 by_] (hx:opd e x=some (.slice (some ⟨b,0,none⟩) m0 c0)) (hy:opd e y=some (.slice ad l0 c))
  [s:SBox H b E (xs.map enc) H'] (hm:m0=xs.length) (hr:RsH H enc ad c ys) (hl:l0=ys.length) (henc:∀ x,(enc x).oneCell'=true)
  (h:C (.int .i64 (min ys.length xs.length:Nat)) (.box b E ((ys.take xs.length++xs.drop ys.length).map enc)::H')):O1 P (.call ⟨.builtin .copy, #[x,y], #[T,T2]⟩) ty n e H C :=
 o1_step fun a w ho=>by
  subst hm hl
  obtain ⟨i,hi0,hiz,his,hib⟩:=hi.info
  have hr:=hr ho.has
  cases ad with
  | none =>
   have hn:ys=[]:=by
    rcases ys with _|⟨q,ys⟩
    ·rfl
    ·obtain ⟨a,ha⟩:=hr.sm (by simp);cases ha
   subst hn
   refine ⟨_,w,?_,_,h,.refl w,?_⟩
   ·simp [execOp,resolve,invoke,builtin,ho.ev.eval hx,ho.ev.eval hy,Builtin.copy_,run_underlying ht.u,Builtin.lenOf,Builtin.firstCells,sizeOf,typeInfo,hi0,storeCells,goInt]
   ·simpa using sat_front ho.sat s.s
  | some p =>
   have hl:=run_loadCells_list (P:=P) w p ((ys.take xs.length).map enc) (fun j v hj=>by
    simp only [List.getElem?_map,Option.map_eq_some_iff] at hj
    obtain ⟨u,hu,rfl⟩:=hj
    rw [List.getElem?_take] at hu
    split at hu
    ·exact hr.cell w ho.sat p rfl j u hu
    ·cases hu)
   obtain ⟨w',hst,hx',hsat⟩:=run_storeCells_sat (P:=P) (i0:=0) ((ys.take xs.length).map enc) 0 (xs.map enc) w (sat_front ho.sat s.s) (by simp;omega) (by
    intro v hv
    obtain ⟨u,_,rfl⟩:=List.mem_map.1 hv
    exact henc u)
   have hp:=putL_map enc (ys.take xs.length) xs [] (by simp;omega)
   simp only [List.nil_append,List.length_nil] at hp
   rw [hp] at hsat
   have hd:xs.drop (ys.take xs.length).length=xs.drop ys.length:=by
    simp only [List.length_take]
    rcases Nat.le_total xs.length ys.length with hle|hle
    ·rw [Nat.min_eq_left hle,List.drop_eq_nil_of_le (Nat.le_refl _),List.drop_eq_nil_of_le hle]
    ·rw [Nat.min_eq_right hle]
   rw [hd] at hsat
   have hlen:((ys.take xs.length).map enc).length=min ys.length xs.length:=by simp [Nat.min_comm]
   rw [hlen] at hl
   rw [List.map_take] at hst
   refine ⟨_,w',?_,_,h,hx',hsat⟩
   simp [execOp,resolve,invoke,builtin,ho.ev.eval hx,ho.ev.eval hy,Builtin.copy_,run_underlying ht.u,Builtin.lenOf,Builtin.firstCells,sizeOf,typeInfo,hi0,his,hl,hst,goInt]
end
abbrev Bs (s:SlD (BitVec 8)):Value := .slice s.ad s.l.length s.cap
abbrev cat (ls:List (SlD (BitVec 8))):List (BitVec 8):=ls.flatMap (·.l)
theorem cat_succ (ls:List (SlD (BitVec 8))) (i:Nat) (h:i<ls.length):cat (ls.take (i+1))=cat (ls.take i)++ls[i].l:=by
 simp only [cat]
 rw [List.take_succ_eq_append_getElem h,List.flatMap_append]
 simp
def rowOf (T:TypeId) (s:SlD (BitVec 8)):Hl := .row T 1 (Bs s) s.l.length (s.l.map B)
def pcs (T:TypeId) (ls:List (SlD (BitVec 8))):Hp→Prop:=stars (ls.map (rowOf T))
theorem pcs_nil {T:TypeId} {R:List Hl}:∀ h,stars R h→stars (.any (pcs T [])::R) h:=fun h hh=>⟨fun _=>none,h,fun _ => .inl rfl,fun _ _ e=>(by cases e),.refl _,trivial,hh⟩
theorem pcs_push {T:TypeId} {ls:List (SlD (BitVec 8))} {s:SlD (BitVec 8)} {R:List Hl}:∀ h,stars (.row T 1 (Bs s) s.l.length (s.l.map B) :: .any (pcs T ls)::R) h→stars (.any (pcs T (ls++[s]))::R) h:=fun h hh=>by
 refine sep_mono (sep_assoc' hh) (fun h' x=>?_) (fun _ a=>a)
 show stars ((ls++[s]).map (rowOf T)) h'
 rw [List.map_append]
 refine stars_append' _ _ _ (sep_mono (sep_comm x) (fun _ a=>a) fun h2 y=>?_)
 exact ⟨h2,fun _=>none,fun _ => .inr rfl,.refl _,fun _ _ e=>(by cases e),y,trivial⟩
theorem sel_mem:∀ {L:List Hl} {x:Hl},x∈L→∃ L',Sel L x L'
 | y::L,x,h=>by
  rcases List.mem_cons.1 h with rfl|h
  ·exact ⟨_,.here⟩
  ·obtain ⟨L',hs⟩:=sel_mem h
   exact ⟨_,.there hs⟩
theorem pcs_read {T:TypeId} {ls:List (SlD (BitVec 8))} {s:SlD (BitVec 8)} {H H':List Hl} [sa:SAny H (pcs T ls) H'] (hm:s∈ls) (hh:Has H):Rs (stars H) B s.ad s.cap s.l:=by
 obtain ⟨L',hs⟩:=sel_mem (List.mem_map_of_mem (f:=rowOf T) hm)
 have key:∀ w,sat w (stars H)→sat w (stars (ls.map (rowOf T))):=fun w hw=>sel_sat sa.s w hw
 obtain ⟨w,hw⟩:=hh
 exact (Rs.of_row hs w (key w hw)).unvals.mono key
theorem sel_swap {x y:Hl} {R:List Hl}:∀ h,stars (x::y::R) h→stars (y::x::R) h:=fun h hh=>(Sel.out (.there .here) h hh)
theorem st_row {P:Program} {k:Kon} {n:Nat} {e:Ev} {W:World} {H:List Hl} {co:Code} {b m cp:Nat} {T:TypeId} {cs:List Value} {H':List Hl} [s:SBox H b T cs H'] (hcp:cs.length=cp) (hm:m=cp) (hb:cp≤9223372036854775807)
  (h:St P co k n e W (.row T 1 (.slice (some ⟨b,0,none⟩) m cp) m cs::H')):St P co k n e W H:=by
 subst hm
 have hE:=ent_row_of_box (m:=m) (cp:=m) s.s hcp (Nat.le_refl _) hb
 rw [List.take_of_length_le (by omega)] at hE
 exact st_ent hE h
section
variable {P:Program} {ops:Array Oper} {k:Kon} {rest:List Oper} {n:Nat} {e:Ev} {W:World} {H:List Hl}
variable {C:Value→List Hl→Prop} {ty:TypeId} {x y:Operand} {α:Type} {enc:α→Value} {T E:TypeId} {z:Value} {by_:Nat} {p q:Int} {kd kd':IntKind}
theorem nx_ent {H2:List Hl} (hE:∀ h,stars H h→stars H2 h) (h:Nx P k n e W H2):Nx P k n e W H:=⟨fun a w ho=>h.out a w ⟨ho.ev,ho.ext,ho.sat.mono hE⟩⟩
theorem nx_push {T:TypeId} {ls:List (SlD (BitVec 8))} {s:SlD (BitVec 8)} {R:List Hl} (hE:Ent H (.row T 1 (Bs s) s.l.length (s.l.map B) :: .any (pcs T ls)::R)) (h:Nx P k n e W (.any (pcs T (ls++[s]))::R)):Nx P k n e W H:=nx_ent (fun h hh=>pcs_push h (hE.out h hh)) h
theorem o1_maker (z0:α) (m:Nat) [TSl P T E] [TInf P E z 1 by_] (hx:opd e x=some (.int kd p)) (hy:opd e y=some (.int kd' p)) (hz:z.oneCell'=true) (hz0:z=enc z0) (hp:p=m) (h2:by_*m≤281474976710656) (h3:m≤9223372036854775807)
  (h:∀ b,C (.slice (some ⟨b,0,none⟩) m m) (.box b E ((List.replicate m z0).map enc)::H)):O1 P (.makeSlice T x y) ty n e H C :=
 o1_make (lo:=m) (cp:=m) hz hx hy hp hp (Nat.le_refl _) h2 h3 (fun b=>by
  have:=h b
  rw [List.map_replicate,←hz0] at this
  exact this)
theorem o1_cs_lh {ad:Option Addr} {c l0:Nat} {xs:List α} {ol oh:Operand} (lo hi:Nat) [ht:TSl P T E] [hi':TInf P E z 1 by_] (hx:opd e x=some (.slice ad l0 c)) (hl:opd e ol=some (.int kd p)) (hh:opd e oh=some (.int kd' q)) (hp:p=lo) (hq:q=hi) (h0:l0=xs.length) (hc:xs.length≤c) (h1:lo≤hi) (h2:hi≤xs.length)
  (h:C (.slice (cutA ad c lo) ((xs.take hi).drop lo).length (c - lo)) H):O1 P (.slice T x (some ol) (some oh) none) ty n e H C:=by
 subst hp hq
 have hlen:((xs.take hi).drop lo).length=hi - lo:=by simp;omega
 rw [hlen] at h
 exact o1_slice_lh (lo:=lo) (hi:=hi) hx hl hh h1 (by omega) (by simpa [cutA] using h)
end
theorem putL_all:∀ (vs cs pre:List Value),vs.length=cs.length→putL (pre++cs) pre.length vs=pre++vs
 | [],[],pre,_=>by simp [putL]
 | v::vs,c::cs,pre,h=>by
  simp only [putL]
  have e:(pre++c::cs).set pre.length v=(pre++[v])++cs:=by simp
  rw [e,show pre.length+1=(pre++[v]).length from by simp,putL_all vs cs (pre++[v]) (by simpa using h)]
  simp
section
variable {P:Program} {ops:Array Oper} {k:Kon} {rest:List Oper} {n:Nat} {e:Ev} {W:World} {H:List Hl}
variable {C:Value→List Hl→Prop} {ty:TypeId} {x y:Operand} {α:Type} {enc:α→Value} {T E:TypeId} {z:Value} {by_:Nat} {p q:Int} {kd kd':IntKind}
theorem ox_load_full {T T':TypeId} {z:Value} {s by_:Nat} [TAgg P T] [TInf P T z s by_] {b:Nat} {l:List α} {H':List Hl} (hx:opd e x=some (.pointer (some ⟨b,0,none⟩)))
  [sl:SBox H b T' (l.map enc) H'] (hs:l.length=s) (h:C (.agg (l.map enc).toArray) H):O1 P (.load T x) ty n e H C:=ox_load_agg hx (by rw [List.drop_zero,List.take_of_length_le (by simp;omega)]) (by simpa using hs) h
theorem ox_store_full {T T':TypeId} {z:Value} {s by_:Nat} [TInf P T z s by_] {b:Nat} {l:List α} {cs:List Value} {H':List Hl} (hx:opd e x=some (.pointer (some ⟨b,0,none⟩))) (hy:opd e y=some (.agg (l.map enc).toArray))
  [sb:SBox H b T' cs H'] (hs:l.length=s) (hc:cs.length=s) (h1:∀ v,(enc v).oneCell'=true) (h:C undef (.box b T' (l.map enc)::H')):O1 P (.store T x y) ty n e H C :=
 ox_store_agg hx hy (by simpa using hs) (by simp;omega) (fun v hv=>by
  obtain ⟨u,_,rfl⟩:=List.mem_map.1 hv
  exact h1 u) (by have:=putL_all (l.map enc) cs [] (by simp;omega);simpa using this) h
theorem ox_index_arr {m b:Nat} [ht:TArr P T m E] [hi:TInf P E z 1 by_] (i:Nat) (hx:opd e x=some (.pointer (some ⟨b,0,none⟩))) (hy:opd e y=some (.int kd p)) (hp:p=i) (hlt:i<m)
  (h:C (.pointer (some ⟨b,i,none⟩)) H):O1 P (.indexAddr T x y) ty n e H C :=
 o1_indexAddr_arr hx hy (by omega) (by
  have:(0:Nat)+p.toNat*1=i:=by omega
  rw [this]
  exact h)
theorem o1_index_enc {m:Nat} {l:List α} [ht:TArr P T m E] [TOne P E] [hi:TInf P E z 1 by_] (i:Nat) (hx:opd e x=some (.agg (l.map enc).toArray)) (hy:opd e y=some (.int kd p)) (hp:p=i) (hlt:i<m) (hl:i<l.length)
  (h:C (enc l[i]) H):O1 P (.index T x y) ty n e H C :=
 o1_index_arr hx hy (by omega) (by
  have:p.toNat=i:=by omega
  rw [this];simp [hl]) h
theorem Rs.cuth {A:Hp→Prop} {ad:Option Addr} {c:Nat} {l:List α} (h:Rs A enc ad c l) (hi:Nat) (h2:hi≤l.length):Rs A enc (cutA ad c 0) (c - 0) (l.take hi):=by
 have:=h.cutv 0 hi (Nat.zero_le _) h2
 rwa [List.drop_zero] at this
theorem o1_cs_h {ad:Option Addr} {c l0:Nat} {xs:List α} {oh:Operand} (hi:Nat) [ht:TSl P T E] [hi':TInf P E z 1 by_] (hx:opd e x=some (.slice ad l0 c)) (hh:opd e oh=some (.int kd' q)) (hq:q=hi) (h0:l0=xs.length) (hc:xs.length≤c) (h2:hi≤xs.length)
  (h:C (.slice (cutA ad c 0) (xs.take hi).length (c - 0)) H):O1 P (.slice T x none (some oh) none) ty n e H C:=by
 subst hq
 have hlen:(xs.take hi).length=hi:=by simp;omega
 rw [hlen] at h
 exact o1_slice_h (hi:=hi) hx hh (by omega) (by simpa [cutA] using h)
theorem o1_load_h {T:TypeId} [TOne P T] {a:Addr} {v:Value} (hx:opd e x=some (.pointer (some a))) (hv:Cl (stars H) a v) (h:C v H):O1 P (.load T x) ty n e H C :=
 o1_val v (fun f w ho=>by
  have hc:=hv.cell w ho.sat
  simp [execOp,ho.ev.eval hx,Instr.loadAt,Instr.sureAddr,loadVar,run_isAgg_one,hc]) h
theorem row_prefix {T:TypeId} {ad:Option Addr} {N c m:Nat} {vs:List Value} (hm:m≤N):∀ h,Hl.den (.row T 1 (.slice ad N c) N vs) h→Hl.den (.row T 1 (.slice ad m c) m (vs.take m)) h:=by
 rintro h ⟨hl,h1|⟨g,cap,cur,hv,hh,a1,a2,a3,a4⟩⟩
 ·obtain ⟨hv,hn,he⟩:=h1
  injection hv with e1 e2 e3
  subst e1 e3
  have:m=0:=by omega
  subst this
  exact ⟨by simp,.inl ⟨rfl,rfl,he⟩⟩
 ·injection hv with e1 e2 e3
  subst e1 e3
  refine ⟨by simp;omega,.inr ⟨g,_,cur,rfl,hh,by omega,a2,a3,?_⟩⟩
  rw [←a4,List.take_take,Nat.mul_one,Nat.mul_one,Nat.min_eq_left hm]
theorem o1_prefix {ad:Option Addr} {N c:Nat} {xs:List α} {oh:Operand} {H':List Hl} (m:Nat) [ht:TSl P T E] [hi':TInf P E z 1 by_] (hx:opd e x=some (.slice ad N c)) (hh:opd e oh=some (.int kd' q)) (hq:q=m) [s:SRow H ad c N E (xs.map enc) H'] (hm:m≤N) (hN:N=xs.length)
  (h:C (.slice ad m c) (.row E 1 (.slice ad m c) m ((xs.take m).map enc)::H')):O1 P (.slice T x none (some oh) none) ty n e H C:=by
 subst hq
 refine ⟨fun a w ho o h1 h2 K Q hK=>O1.out ?_ a w ho o h1 h2 K Q hK⟩
 have hc:N≤c:=by
  subst hN
  exact (rx_row (α:=α) (H:=H) (H':=H') (T:=E) (n:=xs.length) (ad:=ad) (c:=c) (enc:=enc) (l:=xs) ho.has).le
 refine O1.ent (H2 := .row E 1 (.slice ad m c) m ((xs.map enc).take m)::H') (fun h hh=>sep_mono (s.s.out h hh) (fun h' hr=>row_prefix hm h' hr) (fun _ a=>a)) ?_
 rw [←List.map_take]
 refine o1_slice_h (hi:=m) hx hh (by omega) ?_
 have e1:(if c=0 then ad else ad.map (·.add (0*1)))=ad:=by
  split
  ·rfl
  ·cases ad <;> simp [Addr.add]
 rw [e1]
 exact h
end
theorem nx_row {P:Program} {k:Kon} {n:Nat} {e:Ev} {W:World} {H:List Hl} {b m cp:Nat} {T:TypeId} {cs:List Value} {H':List Hl} [s:SBox H b T cs H'] (hcp:cs.length=cp) (hm:m=cp) (hb:cp≤9223372036854775807)
  (h:Nx P k n e W (.row T 1 (.slice (some ⟨b,0,none⟩) m cp) m cs::H')):Nx P k n e W H:=by
 subst hm
 have hE:=ent_row_of_box (m:=m) (cp:=m) s.s hcp (Nat.le_refl _) hb
 rw [List.take_of_length_le (by omega)] at hE
 exact nx_ent hE h
theorem rt_row {P:Program} {k:Kon} {n:Nat} {e:Ev} {W:World} {H:List Hl} {b m cp:Nat} {T:TypeId} {cs:List Value} {H':List Hl} [s:SBox H b T cs H'] (hcp:cs.length=cp) (hm:m=cp) (hb:cp≤9223372036854775807)
  (h:Rt P k n e W (.row T 1 (.slice (some ⟨b,0,none⟩) m cp) m cs::H')):Rt P k n e W H:=by
 subst hm
 have hE:=ent_row_of_box (m:=m) (cp:=m) s.s hcp (Nat.le_refl _) hb
 rw [List.take_of_length_le (by omega)] at hE
 exact rt_ent hE h
theorem o1_cs_l {P:Program} {n:Nat} {H:List Hl} {e:Ev} {C:Value→List Hl→Prop} {ty:TypeId} {x ol:Operand} {α:Type} {T E:TypeId} {z:Value} {by_:Nat} {p:Int} {kd:IntKind} {ad:Option Addr} {c l0:Nat} {xs:List α} (lo:Nat) [ht:TSl P T E] [hi':TInf P E z 1 by_] (hx:opd e x=some (.slice ad l0 c)) (hl:opd e ol=some (.int kd p)) (hp:p=lo) (h0:l0=xs.length) (h2:lo≤xs.length)
  (h:C (.slice (cutA ad c lo) (xs.drop lo).length (c - lo)) H):O1 P (.slice T x (some ol) none none) ty n e H C:=by
 subst hp h0
 have hlen:(xs.drop lo).length=xs.length - lo:=by simp
 rw [hlen] at h
 exact o1_slice_l (lo:=lo) hx hl (by omega) (by simpa [cutA] using h)
def idxA (ad:Option Addr) (i:Nat):Addr:=(ad.getD ⟨0,0,none⟩).add i
section
variable {P:Program} {n:Nat} {H:List Hl} {e:Ev} {C:Value→List Hl→Prop} {ty:TypeId} {x y:Operand} {α:Type} {A:Hp→Prop} {enc:α→Value} {T E:TypeId} {z:Value} {by_:Nat} {p:Int} {kd:IntKind} {ad:Option Addr} {c l0:Nat} {xs:List α}
theorem o1_ia (i:Nat) [ht:TSl P T E] [hi:TInf P E z 1 by_] (hx:opd e x=some (.slice ad l0 c)) (hy:opd e y=some (.int kd p)) (hr:Rs A enc ad c xs) (h0:l0=xs.length) (hp:p=i) (hl:i<xs.length)
  (h:C (.pointer (some (idxA ad i))) H):O1 P (.indexAddr T x y) ty n e H C:=by
 obtain ⟨a0,rfl⟩:=hr.sm (by omega)
 subst hp h0
 refine o1_val _ (fun a w ho=>?_) h
 simp [execOp,ho.ev.eval hx,ho.ev.eval hy,Instr.indexAt,asIntOf,run_underlying ht.u,hl,run_sizeOf,idxA]
theorem Rs.at {i:Nat} (hr:Rs A enc ad c xs) (hl:i<xs.length):Cl A (idxA ad i) (enc xs[i]):=by
 obtain ⟨a0,rfl⟩:=hr.sm (by omega)
 exact ⟨fun w hs=>hr.cell w hs a0 rfl i _ (by simp [hl])⟩
theorem o1_load_ia (i:Nat) {T:TypeId} [TOne P T] {H':List Hl} (hx:opd e x=some (.pointer (some (idxA ad i)))) (hr:Rs A enc ad c xs) (hl:i<xs.length) [s:SAny H A H'] (h:C (enc xs[i]) H):O1 P (.load T x) ty n e H C:=ox_load_any hx (hr.at hl) h
theorem o1_iah (i:Nat) [ht:TSl P T E] [hi:TInf P E z 1 by_] (hx:opd e x=some (.slice ad l0 c)) (hy:opd e y=some (.int kd p)) (hr:RsH H enc ad c xs) (h0:l0=xs.length) (hp:p=i) (hl:i<xs.length)
  (h:C (.pointer (some (idxA ad i))) H):O1 P (.indexAddr T x y) ty n e H C :=
 ⟨fun a w ho o h1 h2 K Q hK=>(o1_ia i hx hy (hr ho.has) h0 hp hl h).out a w ho o h1 h2 K Q hK⟩
theorem o1_load_iah (i:Nat) {T:TypeId} [TOne P T] (hx:opd e x=some (.pointer (some (idxA ad i)))) (hr:RsH H enc ad c xs) (hl:i<xs.length) (h:C (enc xs[i]) H):O1 P (.load T x) ty n e H C :=
 ⟨fun a w ho o h1 h2 K Q hK=>(o1_load_h hx ((hr ho.has).at hl) h).out a w ho o h1 h2 K Q hK⟩
end
theorem o1_neg {P:Program} {n:Nat} {H:List Hl} {e:Ev} {C:Value→List Hl→Prop} {ty t:TypeId} {x:Operand} {p:Int} (hx:opd e x=some (.int .i64 p)) (hb : -9223372036854775808 ≤ -p ∧ -p≤9223372036854775807) (h:C (.int .i64 (-p)) H):O1 P (.unOp .neg t x) ty n e H C :=
 o1_val _ (fun a w ho=>by
  have hw:=wrap_in hb.1 hb.2
  simp [execOp,ho.ev.eval hx,unary_neg,Op.intArith,hw]) h
theorem o1_own {P:Program} {n:Nat} {H:List Hl} {e:Ev} {C:Value→List Hl→Prop} {ty:TypeId} {x y:Operand} {T E:TypeId} {z:Value} {by_:Nat} {p:Int} {kd:IntKind} {b c l:Nat} (i:Nat) [ht:TSl P T E] [hi:TInf P E z 1 by_] (hx:opd e x=some (.slice (some ⟨b,0,none⟩) l c)) (hy:opd e y=some (.int kd p)) (hp:p=i) (hl:i<l)
  (h:C (.pointer (some ⟨b,i,none⟩)) H):O1 P (.indexAddr T x y) ty n e H C:=by
 subst hp
 refine o1_indexAddr_own hx hy (by omega) ?_
 have:0+(i:Int).toNat*1=i:=by omega
 rw [this]
 exact h
def xorL (a b:List (BitVec 8)):List (BitVec 8):=List.zipWith (· ^^^ ·) a b
theorem xorL_len (a b:List (BitVec 8)) (h:a.length=b.length):(xorL a b).length=a.length:=by simp [xorL];omega
def partL {α:Type} (a b:List α) (i:Nat):List α:=a.take i++b.drop i
theorem partL_len {α:Type} {a b:List α} (h:a.length=b.length) (i:Nat):(partL a b i).length=b.length:=by simp [partL];omega
theorem partL_zero {α:Type} (a b:List α):partL a b 0=b:=rfl
theorem partL_full {α:Type} {a b:List α} {i:Nat} (h:a.length=b.length) (hi:i=b.length):partL a b i=a:=by
 subst hi;simp [partL,←h]
theorem partL_succ {α:Type} {a b:List α} {i:Nat} (h:a.length=b.length) (hi:i<a.length):(partL a b i).set i a[i]=partL a b (i+1):=by
 apply List.ext_getElem?
 intro j
 simp only [partL,List.getElem?_set,List.getElem?_append,List.length_append,List.length_take,List.length_drop,List.getElem?_take,List.getElem?_drop]
 repeat' split
 all_goals first|rfl|(exfalso;omega)|skip
 all_goals simp_all
 all_goals (congr 1;omega)
theorem partL_at {α:Type} {a b:List α} {i j:Nat} (h:a.length=b.length) (hij:i≤j) (hj:j<(partL a b i).length):(partL a b i)[j]=b[j]'(by rw [partL_len h] at hj;exact hj):=by
 have hl:=partL_len h i
 simp only [partL] at hj ⊢
 rw [List.getElem_append_right (by simp;omega)]
 simp only [List.getElem_drop,List.length_take]
 congr 1
 simp at hj
 omega
theorem partL_lo {α:Type} {a b:List α} {i j:Nat} (h:a.length=b.length) (hij:j<i) (hj:j<(partL a b i).length):(partL a b i)[j]=a[j]'(by rw [partL_len h] at hj;omega):=by
 have hl:=partL_len h i
 simp only [partL] at hj ⊢
 rw [List.getElem_append_left (by rw [partL_len h] at hl;simp at hj ⊢;omega)]
 simp
theorem ent_shut (R:List Hl):∀ (K:List Hl) (h:Hp),stars (K++R) h→stars (K++[.any (stars R)]) h
 | [],h,hh=>⟨h,fun _=>none,fun _ => .inr rfl,.refl _,fun _ _ e=>(by cases e),hh,trivial⟩
 | x::K,h,hh=>sep_mono hh (fun _ a=>a) (ent_shut R K)
theorem ent_open (R:List Hl):∀ (K:List Hl) (h:Hp),stars (K++[.any (stars R)]) h→stars (K++R) h
 | [],h,⟨h1,h2,hd,s1,s2,ha,_⟩=>stars_up (L:=R) ha s1
 | x::K,h,hh=>sep_mono hh (fun _ a=>a) (ent_open R K)
theorem has_tail {x:Hl} {R:List Hl} (h:Has (x::R)):Has R:=let ⟨w,hw⟩:=h;⟨w,sep_right hw⟩
section
variable {P:Program} {k:Kon} {n:Nat} {e:Ev} {W:World} {H:List Hl} {co:Code}
theorem st_has (h:Has H→St P co k n e W H):St P co k n e W H:=⟨fun a w ho=>(h ⟨w,ho.sat⟩).out a w ho⟩
theorem nx_has (h:Has H→Nx P k n e W H):Nx P k n e W H:=⟨fun a w ho=>(h ⟨w,ho.sat⟩).out a w ho⟩
theorem st_shut (K R:List Hl) (h:St P co k n e W (K++[.any (stars R)])):St P co k n e W (K++R):=st_ent (ent_shut R K) h
theorem st_open (K R:List Hl) (h:St P co k n e W (K++R)):St P co k n e W (K++[.any (stars R)]):=st_ent (ent_open R K) h
def frz (b:Nat) (T:TypeId) (cs:List Value):Hp→Prop:=fun h=>h=one b (.cells cs.toArray T (cs.length,cs.length+1))
theorem Rs.of_frz {α:Type} {enc:α→Value} {b:Nat} {T:TypeId} {l:List α} (hb:l.length≤9223372036854775807):Rs (frz b T (l.map enc)) enc (some ⟨b,0,none⟩) l.length l :=
 ⟨Nat.le_refl _,hb,fun _=>⟨_,rfl⟩,fun w ⟨h,hw,hh⟩ a ha i x hx=>by
  injection ha with ha
  subst ha
  have hh:h=one b (.cells (l.map enc).toArray T ((l.map enc).length,(l.map enc).length+1)):=hh
  have:=hw b (.cells (l.map enc).toArray T ((l.map enc).length,(l.map enc).length+1)) (by rw [hh];simp [one])
  have e1:(Addr.mk b 0 none).add i=⟨b,i,none⟩:=by
   by_cases h0:i=0
   ·subst h0;simp [Addr.add]
   ·simp [Addr.add,h0]
  rw [e1]
  simp [World.cell?,this,hx]⟩
theorem sat.freeze {w:World} {b:Nat} {T:TypeId} {cs:List Value} {H':List Hl} (h:sat w (stars (.box b T cs::H'))):sat (w.freeze ⟨b,cs.length,none⟩ 1) (stars (.any (frz b T cs)::H')):=by
 obtain ⟨x,hw,h1,h2,hd,s1,s2,hb,hr⟩:=h
 have hb:h1=one b (.cells cs.toArray T (0,0)):=hb
 have hbb:w.heap[b]?=some (.cells cs.toArray T (0,0)):=hw b _ (s1 b _ (by rw [hb];simp [one]))
 have h2b:h2 b=none:=by
  rcases hd b with h|h
  ·rw [hb] at h;simp [one] at h
  ·exact h
 have hf:∀ i,(w.freeze ⟨b,cs.length,none⟩ 1).heap[i]?=if i=b then some (.cells cs.toArray T (cs.length,cs.length+1)) else w.heap[i]?:=by
  intro i
  unfold World.freeze
  rw [if_neg (by decide)]
  show (w.heap.modify b _)[i]?=_
  rw [Array.getElem?_modify]
  by_cases hi:i=b
  ·subst hi;simp [hbb]
  ·simp [hi,Ne.symm hi]
 refine ⟨fun i=>if i=b then some (.cells cs.toArray T (cs.length,cs.length+1)) else h2 i,fun i o ho=>?_,one b (.cells cs.toArray T (cs.length,cs.length+1)),h2,fun i=>?_,fun i o ho=>?_,fun i o ho=>?_,rfl,hr⟩
 ·rw [hf]
  by_cases hi:i=b
  ·simpa [hi] using ho
  ·simp only [hi,if_false] at ho ⊢
   exact hw i o (s2 i o ho)
 ·by_cases hi:i=b
  ·subst hi;exact .inr h2b
  ·exact .inl (by simp [one,hi])
 ·by_cases hi:i=b
  ·subst hi;simpa [one] using ho
  ·simp [one,hi] at ho
 ·by_cases hi:i=b
  ·subst hi;rw [h2b] at ho;cases ho
  ·simpa [hi] using ho
theorem Ext.freeze (w:World) (a:Addr) (m:Nat):Ext w (w.freeze a m):=by
 unfold World.freeze
 split
 ·exact .refl w
 ·exact ⟨rfl,rfl,rfl,by simp⟩
theorem o1_conv_frz {C:Value→List Hl→Prop} {ty t E T:TypeId} {x:Operand} {b m c:Nat} {cs:List Value} {H':List Hl} [ht:TSl P t E] [he:TInt P E .u8] (hx:opd e x=some (.slice (some ⟨b,0,none⟩) m c)) [s:SBox H b T cs H']
  (h:C (.slice (some ⟨b,0,none⟩) m c) (.any (frz b T cs)::H')):O1 P (.convert t t x) ty n e H C :=
 o1_step fun a w ho=>by
  have hs:=sat_front ho.sat s.s
  have hsh:w.shape? b=some (T,cs.length):=by
   have:=ho.sat.cells s.s
   simp [World.shape?,this]
  refine ⟨_,w.freeze ⟨b,cs.length,none⟩ 1,?_,_,h,Ext.freeze _ _ _,hs.freeze⟩
  simp [execOp,ho.ev.eval hx,convert,run_underlying ht.u,run_underlying he.u,markStringish,hsh]
end
theorem row_box {T:TypeId} {ad:Option Addr} {n c:Nat} {xs:List Value} {h:Hp} (hn:0<n) (hr:Hl.den (.row T 1 (.slice ad n c) n xs) h):∃ g cs,ad=some ⟨g,0,none⟩∧Hl.den (.box g T cs) h∧cs.length=c∧n≤c∧c≤9223372036854775807∧cs.take n=xs:=by
 obtain ⟨hl,⟨hv,h0,_⟩|⟨g,cap,cur,hv,hh,h1,h2,h3,h4⟩⟩:=hr
 ·omega
 ·injection hv with e1 e2 e3
  subst e1 e3
  refine ⟨g,cur.toList,rfl,?_,by simp [h3],h1,h2,by rw [←h4,Nat.mul_one]⟩
  show h=_
  rw [hh]
section
variable {P:Program} {n:Nat} {H:List Hl} {e:Ev} {C:Value→List Hl→Prop} {ty:TypeId} {x y:Operand}
theorem ox_store_row (k:Nat) {T2 T:TypeId} {z:Value} {by_:Nat} [TInf P T2 z 1 by_] {ad:Option Addr} {m c:Nat} {xs:List Value} {v:Value} {H':List Hl} (hx:opd e x=some (.pointer (some (idxA ad k)))) (hy:opd e y=some v)
  [s:SRow H ad c m T xs H'] (hk:k<m) (h1:v.oneCell'=true) (h:C undef (.row T 1 (.slice ad m c) m (xs.set k v)::H')):O1 P (.store T2 x y) ty n e H C :=
 ⟨fun a w ho o ho1 ho2 K Q hK=>by
  have hs:=sat_front ho.sat s.s
  obtain ⟨h0,hw,r1,r2,hd,s1,s2,hr,hrest⟩:=hs
  obtain ⟨g,cs,had,hbox,hcl,hmc,hcb,htk⟩:=row_box (by omega) hr
  subst had
  have hsat:sat w (stars (.box g T cs::H')):=⟨h0,hw,r1,r2,hd,s1,s2,hbox,hrest⟩
  have e1:idxA (some ⟨g,0,none⟩) k=⟨g,k,none⟩:=by
   simp only [idxA,Option.getD_some]
   by_cases hk0:k=0
   ·subst hk0;simp [Addr.add]
   ·simp [Addr.add,hk0]
  rw [e1] at hx
  refine (o1_store (P:=P) (T:=T2) (ty:=ty) (n:=n) (e:=e) (H := .box g T cs::H') (C:=fun v' K=>v'=undef∧K = .box g T (cs.set k v)::H') hx hy .here (by omega) h1 ⟨rfl,rfl⟩).out a w ⟨ho.ev,hsat⟩ o ho1 ho2 K Q ?_
  rintro v' w' H2 ⟨rfl,rfl⟩ hx2 hs2
  refine hK _ _ _ h hx2 (hs2.mono fun hh h3=>?_)
  have:=ent_row_of_box (m:=m) (cp:=c) (.here:Sel (.box g T (cs.set k v)::H') _ _) (by simpa using hcl) hmc hcb hh h3
  rw [List.take_set,htk] at this
  exact this⟩
theorem ox_store_rowenc {α:Type} (enc:α→Value) (k:Nat) {T2 T:TypeId} {z:Value} {by_:Nat} [TInf P T2 z 1 by_] {ad:Option Addr} {m c:Nat} {l:List α} {v:α} {H':List Hl} (hx:opd e x=some (.pointer (some (idxA ad k)))) (hy:opd e y=some (enc v))
  [s:SRow H ad c m T (l.map enc) H'] (hk:k<m) (h1:(enc v).oneCell'=true) (h:C undef (.row T 1 (.slice ad m c) m ((l.set k v).map enc)::H')):O1 P (.store T2 x y) ty n e H C :=
 ox_store_row k hx hy hk h1 (by rw [←List.map_set];exact h)
end
theorem zeroCells_one (z:Value) (k:Nat) (hz:z.oneCell'=true):Builtin.zeroCells z.cells k=(List.replicate k z).toArray:=by
 apply Array.ext'
 rw [oneCell_cells hz]
 have:=toList_madeCells_one z k
 unfold madeCells at this
 simpa [Builtin.zeroCells] using this
theorem run_append_own_zeros {P:Program} (w:World) (t tn ty e:TypeId) (i:TypeInfo) (z:Value) (kn kq:IntKind) (ht:P.underlying t=some (.slice e)) (htn:P.underlying tn=some (.int kn)) (hi:P.info? e=some i) (hz:i.zero=some z)
  (hsize:i.size=1) (hzs:z.oneCell'=true) (v:Value) (n:Nat) (xs:List Value) (hown:w.ownsRow 0 e 1 v n xs) (k:Nat) (h63:n+k≤maxLen) (hbytes:(n+k)*i.bytes≤140737488355328) :
  ∃ v' w',(Builtin.append_ #[t,tn] ty #[v,.int kq k]).run P w = .ok v' w'∧w'.ownsRow 0 e 1 v' (n+k) (xs++List.replicate k z)∧w.grownBy w' v.ownBlock ∧
   (v'.ownBlock=v.ownBlock∨v'.ownBlock=some w.heap.size):=by
 have hsmall:n+k≤9223372036854775807:=by simp only [maxLen] at h63;omega
 have hzc:z.cells.size=1:=by rw [oneCell_cells hzs];rfl
 have hlen:(xs++List.replicate k z).length=(n+k)*1:=by rw [List.length_append,hown.1,List.length_replicate];omega
 have hw:IntKind.i64.wrap (k:Int)=k:=by rw [IntKind.wrap_i64];omega
 have hneg : ¬ ((k:Int)<0):=by omega
 have hkb:k*i.bytes≤140737488355328:=Nat.le_trans (Nat.mul_le_mul_right _ (by omega)) hbytes
 have h48i : ¬ (281474976710656<(k:Int)*(i.bytes:Int)):=by
  rw [←Int.natCast_mul]
  omega
 by_cases hk:k=0
 ·subst hk
  have hw0:IntKind.i64.wrap 0=0:=by rw [IntKind.wrap_i64];rfl
  refine ⟨v,w,?_,by simpa using hown,World.grownBy.refl w _,.inl rfl⟩
  rcases hown.2 with ⟨rfl,rfl⟩|⟨g,cap,cur,rfl,_,_,hnc,_⟩
  ·simp [Builtin.append_,run_underlying ht,run_underlying htn,sizeOf,typeInfo,hi,asInt,asIntOf,hw0]
  ·simp [Builtin.append_,run_underlying ht,run_underlying htn,sizeOf,typeInfo,hi,asInt,asIntOf,hw0,hnc,storeCells]
 have grown:∀ (old:Nat),old<n+k→∀ (row:Option Nat),
   (w.drew.alloc (.cells (xs.toArray++Builtin.zeroCells z.cells k++Builtin.zeroCells z.cells (grownCap w (n+k) old e - (n+k))) e)).ownsRow 0 e 1
    (.slice (some ⟨w.heap.size,0,none⟩) (n+k) (grownCap w (n+k) old e)) (n+k) (xs++List.replicate k z) ∧
   w.grownBy (w.drew.alloc (.cells (xs.toArray++Builtin.zeroCells z.cells k++Builtin.zeroCells z.cells (grownCap w (n+k) old e - (n+k))) e)) row:=by
  intro old ho row
  have hge:=grownCap_ge w (n+k) old e
  have hcm:grownCap w (n+k) old e≤maxLen:=grownCap_le_maxLen w (n+k) old e h63
  refine ⟨⟨hlen,.inr ⟨w.heap.size,_,_,rfl,Nat.zero_le _,_root_.Go.heap_alloc_new w.drew _,hge,hcm,?_,?_⟩⟩,⟨rfl,rfl,rfl,by simp,fun k hk _=>_root_.Go.heap_alloc_old w.drew _ hk⟩⟩
  ·simp only [Array.size_append,List.size_toArray,size_zeroCells,hzc,hown.1]
   omega
  ·rw [zeroCells_one z k hzs]
   simp only [Array.toList_append,List.append_assoc]
   rw [←List.append_assoc,←hlen]
   exact List.take_left
 rcases hown.2 with ⟨rfl,rfl⟩|⟨g,cap,cur,rfl,hbg,hg,hnc,hcm,hcs,htake⟩
 ·have hx:xs=[]:=List.eq_nil_of_length_eq_zero (by simpa using hown.1)
  subst hx
  have hr:=Lib.run_append_grow_zeros (P:=P) w t tn ty e i z kq kn ht htn hi hz none 0 0 [] (run_firstCells_none w.drew i.size 0 0 0) k (by omega) (by omega) (by omega) (by omega) (by omega) (growslice_fits (by omega) (by simpa using hbytes))
  have hgr:=grown 0 (by omega) (Value.ownBlock (.slice none 0 0))
  exact ⟨_,_,hr,hgr.1,hgr.2,Or.inr rfl⟩
 ·by_cases hroom:n+k≤cap
  ·have hst:=run_storeCells_at P g (n*1) e (List.replicate k z) 0 cur w hg (by rw [List.length_replicate,hcs];omega) (fun u hu=>by rw [List.eq_of_mem_replicate hu];exact hzs)
   simp only [Nat.add_zero] at hst
   have hzcl:(Builtin.zeroCells z.cells k).toList=List.replicate k z:=by rw [zeroCells_one z k hzs]
   have hr:(Builtin.append_ #[t,tn] ty #[.slice (some ⟨g,0,none⟩) n cap,.int kq k]).run P w = .ok (.slice (some ⟨g,0,none⟩) (n+k) cap) (w.setRow g (cur.toList.take (n*1)++List.replicate k z++cur.toList.drop (n*1+(List.replicate k z).length)).toArray):=by
    rw [Nat.mul_one] at hst
    simp [Builtin.append_,run_underlying ht,run_underlying htn,sizeOf,typeInfo,zeroValue,hi,hz,asInt,asIntOf,hw,hneg,h48i,hroom,hsize,hk,Addr.add_lit,hzcl,hst]
   refine ⟨_,_,hr,⟨hlen,.inr ⟨g,cap,_,rfl,hbg,setRow_heap w g cur _ e _ hg,hroom,hcm,?_,?_⟩⟩,⟨rfl,rfl,rfl,by simp,fun j _ hj=>setRow_other w g j _ (fun e=>hj (by simp [Value.ownBlock,e]))⟩,Or.inl rfl⟩
   ·simp only [List.size_toArray,List.length_append,List.length_take,List.length_drop,Array.length_toList,List.length_replicate]
    omega
   ·rw [htake,←hlen]
    exact List.take_left
  ·have holds:∀ j u,xs[j]?=some u→w.drew.cell? ((⟨g,0,none⟩:Addr).add j)=some u:=hown.cells (g:=g) rfl
   have hr:=Lib.run_append_grow_zeros (P:=P) w t tn ty e i z kq kn ht htn hi hz (some ⟨g,0,none⟩) n cap xs (run_firstCells_some w.drew i.size n ⟨g,0,none⟩ n cap xs (by rw [hsize];exact hown.1) holds) k (by omega) (by omega) (by omega) (by omega) (by omega) (growslice_fits (by omega) hbytes)
   have hgr:=grown cap (by omega) (Value.ownBlock (.slice (some ⟨g,0,none⟩) n cap))
   exact ⟨_,_,hr,hgr.1,hgr.2,Or.inr rfl⟩
section
variable {P:Program} {n:Nat} {H:List Hl} {e:Ev} {C:Value→List Hl→Prop} {ty:TypeId} {x y:Operand}
theorem ox_append_zeros {α:Type} {enc:α→Value} {T Tn E:TypeId} {z:Value} {by_:Nat} {kd kn:IntKind} (z0:α) {ad:Option Addr} {c a0 k:Nat} {p:Int} {xs:List α} {H':List Hl} [ht:TSl P T E] [htn:TInt P Tn kn] [hi:TInf P E z 1 by_] (hx:opd e x=some (.slice ad a0 c)) (hy:opd e y=some (.int kd p)) (hp:p=k)
  [s:SRow H ad c a0 E (xs.map enc) H'] (hz:z.oneCell'=true) (hz0:z=enc z0) (hb:(a0+k)*by_≤140737488355328) (hb2:a0+k≤9223372036854775807)
  (h:∀ ad2 c2,C (.slice ad2 (a0+k) c2) (.row E 1 (.slice ad2 (a0+k) c2) (a0+k) ((xs++List.replicate k z0).map enc)::H')) :
  O1 P (.call ⟨.builtin .append, #[x,y], #[T,Tn]⟩) ty n e H C :=
 o1_step fun a w ho=>by
  subst hp
  obtain ⟨i,hi0,hiz,his,hib⟩:=hi.info
  have hown:=ho.sat.own s.s
  subst hib
  obtain ⟨v',w',hrun,h2,h3,h4⟩:=run_append_own_zeros (P:=P) w T Tn ty E i z kn kd ht.u htn.u hi0 hiz his hz _ _ _ hown k (by simp only [maxLen];omega) hb
  have hv:∃ ad2 c2,v' = .slice ad2 (a0+k) c2:=by
   rcases h2.2 with ⟨rfl,hn⟩|⟨g,cap,cur,rfl,_⟩
   ·exact ⟨none,0,by rw [hn]⟩
   ·exact ⟨_,_,rfl⟩
  obtain ⟨ad2,c2,rfl⟩:=hv
  have e1:xs.map enc++List.replicate k z=(xs++List.replicate k z0).map enc:=by rw [List.map_append,List.map_replicate,hz0]
  rw [e1] at h2
  refine ⟨_,w',?_,_,h ad2 c2,⟨h3.os,h3.tape,h3.output,h3.size⟩,ho.sat.grown s.s h2 h3 h4⟩
  simp [execOp,resolve,invoke,builtin,ho.ev.eval hx,ho.ev.eval hy,hrun]
theorem ox_cs_hr {α:Type} {enc:α→Value} {T E:TypeId} {z:Value} {by_:Nat} {q:Int} {kd':IntKind} {ad:Option Addr} {c l0:Nat} {xs:List α} {oh:Operand} {H':List Hl} (hi:Nat) [ht:TSl P T E] [hi':TInf P E z 1 by_] (hx:opd e x=some (.slice ad l0 c)) (hh:opd e oh=some (.int kd' q)) [s:SRow H ad c l0 E (xs.map enc) H'] (hq:q=hi) (h0:l0=xs.length) (h2:hi≤xs.length)
  (h:C (.slice (cutA ad c 0) (xs.take hi).length (c - 0)) H):O1 P (.slice T x none (some oh) none) ty n e H C :=
 ⟨fun a w ho o h3 h4 K Q hK=>(o1_cs_h (xs:=xs) hi hx hh hq h0 (rx_row (α:=α) (H:=H) (H':=H') (T:=E) (n:=l0) (ad:=ad) (c:=c) (enc:=enc) (l:=xs) ho.has).le h2 h).out a w ho o h3 h4 K Q hK⟩
end
inductive Scr where
 | fin (ps rs:List Nat)
 | step (ps rs:List Nat) (c:Nat) (nx:Scr)
 | alt (ps rs:List Nat) (c1:Nat) (n1:Scr) (c2:Nat) (n2:Scr)
 | alt3 (ps rs:List Nat) (c1:Nat) (n1:Scr) (c2:Nat) (n2:Scr) (c3:Nat) (n3:Scr)
def Scr.ps:Scr→List Nat
 | .fin ps _=>ps
 | .step ps _ _ _=>ps
 | .alt ps _ _ _ _ _=>ps
 | .alt3 ps _ _ _ _ _ _ _=>ps
def Scr.rs:Scr→List Nat
 | .fin _ rs=>rs
 | .step _ rs _ _=>rs
 | .alt _ rs _ _ _ _=>rs
 | .alt3 _ rs _ _ _ _ _ _=>rs
def Scr.chs:Scr→List Nat
 | .fin _ _=>[]
 | .step _ _ c _=>[c]
 | .alt _ _ c1 _ c2 _=>[c1,c2]
 | .alt3 _ _ c1 _ c2 _ c3 _=>[c1,c2,c3]
section
variable (P:Program) (n:Nat) (e:Ev) (tab:List Row) (l:List Oper)
def Wt (Fin:Ev→List Hl→Prop):Scr→Ev→List Hl→Prop
 | .fin ps rs,E,H=>OpenP P n e tab l H ps E fun E'=>ReP P n e tab l H E' rs∧Fin E' H
 | .step ps rs c nx,E,H=>OpenP P n e tab l H ps E fun E'=>ReP P n e tab l H E' rs∧((gdOff tab c E'∧Wt Fin nx (addE tab c undef E') H)∨Op1 P n e tab l c E' H fun v H'=>Wt Fin nx (addE tab c v E') H')
 | .alt ps rs c1 n1 c2 n2,E,H=>OpenP P n e tab l H ps E fun E'=>ReP P n e tab l H E' rs∧(((gdOff tab c1 E'∧Wt Fin n1 (addE tab c1 undef E') H)∨Op1 P n e tab l c1 E' H fun v H'=>Wt Fin n1 (addE tab c1 v E') H') ∧
   ((gdOff tab c2 E'∧Wt Fin n2 (addE tab c2 undef E') H)∨Op1 P n e tab l c2 E' H fun v H'=>Wt Fin n2 (addE tab c2 v E') H'))
 | .alt3 ps rs c1 n1 c2 n2 c3 n3,E,H=>OpenP P n e tab l H ps E fun E'=>ReP P n e tab l H E' rs∧(((gdOff tab c1 E'∧Wt Fin n1 (addE tab c1 undef E') H)∨Op1 P n e tab l c1 E' H fun v H'=>Wt Fin n1 (addE tab c1 v E') H') ∧
   ((gdOff tab c2 E'∧Wt Fin n2 (addE tab c2 undef E') H)∨Op1 P n e tab l c2 E' H fun v H'=>Wt Fin n2 (addE tab c2 v E') H') ∧
   ((gdOff tab c3 E'∧Wt Fin n3 (addE tab c3 undef E') H)∨Op1 P n e tab l c3 E' H fun v H'=>Wt Fin n3 (addE tab c3 v E') H'))
def NxT (Fin:Ev→List Hl→Prop) (c:Nat) (nx:Scr) (E:Ev) (H:List Hl):Prop:=(gdOff tab c E∧Wt P n e tab l Fin nx (addE tab c undef E) H)∨Op1 P n e tab l c E H fun v H'=>Wt P n e tab l Fin nx (addE tab c v E) H'
def nextT (Fin:Ev→List Hl→Prop):Scr→Ev→List Hl→Prop
 | .fin _ _,E,H=>Fin E H
 | .step _ _ c nx,E,H=>NxT P n e tab l Fin c nx E H
 | .alt _ _ c1 n1 c2 n2,E,H=>NxT P n e tab l Fin c1 n1 E H∧NxT P n e tab l Fin c2 n2 E H
 | .alt3 _ _ c1 n1 c2 n2 c3 n3,E,H=>NxT P n e tab l Fin c1 n1 E H∧NxT P n e tab l Fin c2 n2 E H∧NxT P n e tab l Fin c3 n3 E H
end
def bT (tab:List Row) (all done ps rs chs:List Nat):Bool :=
 psOk tab ps && (ps.all fun i=>decide (i<tab.length)) && ((List.range tab.length).all fun i=>all.contains i || (all.any fun c=>(cloAt tab i).contains c && !done.contains c) || (done.any fun c=>(cloAt tab c).contains i) || ps.contains i || rs.contains i) &&
 (chs.all fun c=>decide (c<tab.length) && !done.contains c && all.contains c) && (all.all fun c'=>done.contains c' || chs.contains c' || chs.any fun c=>(cloAt tab c').contains c)
def scT (tab:List Row) (all:List Nat):List Nat→Scr→Bool
 | done,.fin ps rs=>bT tab all done ps rs []
 | done,.step ps rs c nx=>bT tab all done ps rs [c] && ((nx.ps.all fun i=>(cloAt tab i).contains c) && scT tab all (c::done) nx)
 | done,.alt ps rs c1 n1 c2 n2=>bT tab all done ps rs [c1,c2] && (((n1.ps.all fun i=>(cloAt tab i).contains c1) && scT tab all (c1::done) n1) && ((n2.ps.all fun i=>(cloAt tab i).contains c2) && scT tab all (c2::done) n2))
 | done,.alt3 ps rs c1 n1 c2 n2 c3 n3=>bT tab all done ps rs [c1,c2,c3] && (((n1.ps.all fun i=>(cloAt tab i).contains c1) && scT tab all (c1::done) n1) && (((n2.ps.all fun i=>(cloAt tab i).contains c2) && scT tab all (c2::done) n2) && ((n3.ps.all fun i=>(cloAt tab i).contains c3) && scT tab all (c3::done) n3)))
theorem scT_b {tab:List Row} {all done:List Nat} {s:Scr} (h:scT tab all done s=true):bT tab all done s.ps s.rs s.chs=true:=by
 cases s with
 | fin ps rs=>exact h
 | step ps rs c nx=>simp only [scT,Bool.and_eq_true] at h;exact h.1
 | alt ps rs c1 n1 c2 n2=>simp only [scT,Bool.and_eq_true] at h;exact h.1
 | alt3 ps rs c1 n1 c2 n2 c3 n3=>simp only [scT,Bool.and_eq_true] at h;exact h.1
theorem scT_in {tab:List Row} {all done:List Nat} {s:Scr} (h:scT tab all done s=true) {c:Nat} (hc:c∈s.chs):c∈all∧c ∉ done:=by
 have:=scT_b h
 simp only [bT,Bool.and_eq_true,List.all_eq_true,decide_eq_true_eq,Bool.not_eq_true',List.contains_eq_mem,decide_eq_false_iff_not] at this
 exact ⟨(this.1.2 c hc).2,(this.1.2 c hc).1.2⟩
theorem scT_lt {tab:List Row} {all done:List Nat} {s:Scr} (h:scT tab all done s=true) {c:Nat} (hc:c∈s.chs):c<tab.length:=by
 have:=scT_b h
 simp only [bT,Bool.and_eq_true,List.all_eq_true,decide_eq_true_eq] at this
 exact (this.1.2 c hc).1.1
theorem scT_cover {tab:List Row} {all done:List Nat} {s:Scr} (h:scT tab all done s=true):∀ i,i<tab.length→(((i∈all∨∃ c,c∈all∧c∈cloAt tab i∧c ∉ done)∨∃ c,c∈done∧i∈cloAt tab c)∨i∈s.ps)∨i∈s.rs:=by
 have:=scT_b h
 simp only [bT,Bool.and_eq_true,List.all_eq_true,List.mem_range,Bool.or_eq_true,List.any_eq_true,Bool.not_eq_true',List.contains_eq_mem,decide_eq_true_eq,decide_eq_false_iff_not] at this
 exact this.1.1.2
theorem scT_ch {tab:List Row} {all done:List Nat} {s:Scr} (h:scT tab all done s=true) {i:Nat} (hi:i∈all) (hd:i ∉ done) (hb:∀ c,c∈s.chs→c∈cloAt tab i→False):i∈s.chs:=by
 have:=scT_b h
 simp only [bT,Bool.and_eq_true,List.all_eq_true,Bool.or_eq_true,List.any_eq_true,List.contains_eq_mem,decide_eq_true_eq] at this
 rcases this.2 i hi with (h1|h1)|⟨c,h1,h2⟩
 ·exact absurd h1 hd
 ·exact h1
 ·exact (hb c h1 h2).elim
section
variable {P:Program} {k:Kon} {n:Nat} {e e0:Ev} {W:World} {H:List Hl} {tab:List Row} {l:List Oper} {Fin:Ev→List Hl→Prop}
theorem wt_eq (s:Scr) (E:Ev) (H:List Hl):Wt P n e tab l Fin s E H=OpenP P n e tab l H s.ps E fun E'=>ReP P n e tab l H E' s.rs∧nextT P n e tab l Fin s E' H:=by cases s <;> rfl
theorem scT_next {all done:List Nat} {s:Scr} {E:Ev} {H:List Hl} (h:scT tab all done s=true) {i:Nat} (hi:i∈s.chs) (hn:nextT P n e tab l Fin s E H) :
  ∃ nx,NxT P n e tab l Fin i nx E H∧(∀ q∈nx.ps,i∈cloAt tab q)∧scT tab all (i::done) nx=true:=by
 cases s with
 | fin ps rs=>simp [Scr.chs] at hi
 | step ps rs c nx =>
  simp only [Scr.chs,List.mem_singleton] at hi
  subst hi
  simp only [scT,Bool.and_eq_true,List.all_eq_true,List.contains_eq_mem,decide_eq_true_eq] at h
  exact ⟨nx,hn,h.2.1,h.2.2⟩
 | alt ps rs c1 n1 c2 n2 =>
  simp only [scT,Bool.and_eq_true,List.all_eq_true,List.contains_eq_mem,decide_eq_true_eq] at h
  simp only [Scr.chs,List.mem_cons,List.not_mem_nil,or_false] at hi
  rcases hi with rfl|rfl
  ·exact ⟨n1,hn.1,h.2.1.1,h.2.1.2⟩
  ·exact ⟨n2,hn.2,h.2.2.1,h.2.2.2⟩
 | alt3 ps rs c1 n1 c2 n2 c3 n3 =>
  simp only [scT,Bool.and_eq_true,List.all_eq_true,List.contains_eq_mem,decide_eq_true_eq] at h
  simp only [Scr.chs,List.mem_cons,List.not_mem_nil,or_false] at hi
  rcases hi with rfl|rfl|rfl
  ·exact ⟨n1,hn.1,h.2.1.1,h.2.1.2⟩
  ·exact ⟨n2,hn.2.1,h.2.2.1.1,h.2.2.1.2⟩
  ·exact ⟨n3,hn.2.2,h.2.2.2.1,h.2.2.2.2⟩
theorem nextT_fin {s:Scr} {E:Ev} {H:List Hl} (h:s.chs=[]) (hn:nextT P n e tab l Fin s E H):Fin E H:=by
 cases s with
 | fin ps rs=>exact hn
 | step ps rs c nx=>simp [Scr.chs] at h
 | alt ps rs c1 n1 c2 n2=>simp [Scr.chs] at h
 | alt3 ps rs c1 n1 c2 n2 c3 n3=>simp [Scr.chs] at h
structure StandT (P:Program) (n:Nat) (e0:Ev) (tab:List Row) (l:List Oper) (Fin:Ev→List Hl→Prop) (all done:List Nat) (s:Scr) (E:Ev) (H:List Hl):Prop where
 good:∀ i,i∈s.ps∨i∈s.rs→Good P n e0 tab l i E H
 next:nextT P n e0 tab l Fin s E H
 script:scT tab all done s=true
 dom:∀ d v,look E d=some v→∃ i,i<tab.length∧dstAt tab i=some d
theorem wt_open (hdst:∀ i j d,dstAt tab i=some d→dstAt tab j=some d→i=j) (hgd:∀ i j b,gdAt tab i=some (j,b)→j∈cloAt tab i) (hself:∀ i,i ∉ cloAt tab i) {all done:List Nat} {s:Scr} {E:Ev}
  (hs:scT tab all done s=true) (hdom:∀ d v,look E d=some v→∃ i,i<tab.length∧dstAt tab i=some d) (h:Wt P n e0 tab l Fin s E H) :
  ∃ E',StandT P n e0 tab l Fin all done s E' H∧∀ d,(∀ i∈s.ps,dstAt tab i≠some d)→look E' d=look E d:=by
 have hb:=scT_b hs
 simp only [bT,Bool.and_eq_true] at hb
 rw [wt_eq] at h
 obtain ⟨E',⟨c0,c1⟩,c2,c3,c4,_⟩:=open_out hdst hgd hself s.ps E _ hb.1.1.1.1 h
 refine ⟨E',⟨fun i hi=>?_,c1,hs,fun d v hv=>?_⟩,c4⟩
 ·rcases hi with hi|hi
  ·exact c2 i hi
  ·exact rep_out _ _ c0 i hi
 ·rcases c3 d v hv with hh|⟨i,hi,hid⟩
  ·exact hdom d v hh
  ·have:=hb.1.1.1.2
   simp only [List.all_eq_true,decide_eq_true_eq] at this
   exact ⟨i,this i hi,hid⟩
structure Mid3 (P:Program) (n:Nat) (e e0:Ev) (tab:List Row) (l:List Oper) (Fin:Ev→List Hl→Prop) (W:World) (all D:List Nat) (a:Act) (w:World):Prop where
 size:a.tmps.size=n
 defers:a.defers=[]
 ext:Ext W w
 keep:∀ t v,look e t=some v→(∀ i∈D,dstAt tab i≠some t)→a.tmps[t]?=some v
 at_:∃ (done:List Nat) (s:Scr) (E:Ev) (H:List Hl),StandT P n e0 tab l Fin all done s E H∧sat w (stars H)∧(∀ c,c∈done→c∈D)∧(∀ c∈all,c∈D→c∈done)∧(∀ i∈D,∀ d,dstAt tab i=some d→∃ v,look E d=some v∧a.tmps[d]?=some v)
theorem mid3_step (he0:Covers e e0) (ht:tabOk tab=true) (hin:gdIn tab=true) (hrows:l.map (fun o=>(o.dst,edgesOf o,o.guard))=tab.map (fun r=>(r.dst,r.edges,r.guard))) (hdst:tab.all (fun r=>match r.dst with|none=>true|some d=>Nat.blt d n)=true)
  {all D:List Nat} (hcl:∀ i∈D,∀ r,tab[i]?=some r→∀ j∈r.edges,j∈D) {i:Nat} (hi:i ∉ D) {r:Row} (hr:tab[i]?=some r) (hre:∀ j∈r.edges,j∈D) {a:Act} {w:World} (hm:Mid3 P n e e0 tab l Fin W all D a w)
  (K:Act→World→Prop) (hK:∀ a w,Mid3 P n e e0 tab l Fin W all (i::D) a w→K a w):wpOp P l.toArray (k.post P) i K a w:=by
 have hlen:l.length=tab.length:=by simpa using congrArg List.length hrows
 have hil:i<l.length:=by rw [hlen];exact (List.getElem?_eq_some_iff.1 hr).1
 have ho:l[i]?=some l[i]:=List.getElem?_eq_getElem hil
 generalize hoo:l[i]=o at ho
 have hrow:(o.dst,edgesOf o,o.guard)=(r.dst,r.edges,r.guard):=by
  have:=congrArg (fun x=>x[i]?) hrows
  simp only [List.getElem?_map,ho,hr,Option.map_some,Option.some.injEq] at this
  exact this
 simp only [Prod.mk.injEq] at hrow
 obtain ⟨hd,he,hg⟩:=hrow
 obtain ⟨f1,f2,f3⟩:=tabOk.facts ht
 have hdn:∀ d,r.dst=some d→d<n:=by
  intro d hd
  have:=List.all_eq_true.1 hdst r (List.mem_of_getElem? hr)
  rw [hd] at this
  simpa [Nat.blt_eq] using this
 have hdi:dstAt tab i=r.dst:=by simp [dstAt,hr]
 have hci:cloAt tab i=r.clo:=by simp [cloAt,hr]
 have hself:∀ i,i ∉ cloAt tab i:=by
  intro j hj
  cases hs:tab[j]? with
  | none=>simp [cloAt,hs] at hj
  | some s=>have:=f2 j s hs j (by simpa [cloAt,hs] using hj);omega
 have hgd:∀ i j b,gdAt tab i=some (j,b)→j∈cloAt tab i:=by
  intro i j b h
  obtain ⟨⟨s,hs,hj⟩,_⟩:=f3 i j b h
  have:=List.all_eq_true.1 hin s (List.mem_of_getElem? hs)
  simp only [List.all_eq_true,List.contains_eq_mem,decide_eq_true_eq] at this
  simpa [cloAt,hs] using this j hj
 have hcloD:∀ j∈cloAt tab i,j∈D:=by rw [hci];exact clo_done ht hcl i r hr hre
 have hcloM:∀ m∈D,∀ j∈cloAt tab m,j∈D:=by
  intro m hmD j hj
  cases hs:tab[m]? with
  | none=>simp [cloAt,hs] at hj
  | some s=>exact clo_done ht hcl m s hs (hcl m hmD s hs) j (by simpa [cloAt,hs] using hj)
 obtain ⟨done,s,E,H,hst,hsat,hdD,hDd,hat⟩:=hm.at_
 have hput:∀ v w',Ext w w'→(∀ t,r.dst≠some t→(a.put o.dst v).tmps[t]?=a.tmps[t]?)∧(∀ d,r.dst=some d→(a.put o.dst v).tmps[d]?=some v)∧(a.put o.dst v).tmps.size=n∧(a.put o.dst v).defers=[] ∧
   (∀ t u,look e t=some u→(∀ j∈i::D,dstAt tab j≠some t)→(a.put o.dst v).tmps[t]?=some u):=by
  intro v w' hx
  have q1:∀ t,r.dst≠some t→(a.put o.dst v).tmps[t]?=a.tmps[t]?:=by
   intro t ht'
   rw [hd]
   cases hrd:r.dst with
   | none=>rfl
   | some d =>
    have:d≠t:=fun e=>by subst e;exact ht' hrd
    simp [Act.put,this]
  refine ⟨q1,fun d hrd=>?_,?_,?_,fun t u hl hn=>?_⟩
  ·rw [hd,hrd];simp [Act.put,hm.size,hdn d hrd]
  ·rw [hd];cases r.dst <;> simp [Act.put,hm.size]
  ·rw [hd];cases r.dst <;> simp [Act.put,hm.defers]
  ·rw [q1 t (fun e=>hn i (by simp) (hdi.trans e))]
   exact hm.keep t u hl (fun j hj=>hn j (by simp [hj]))
 have hev:EvOk a n (envI tab e0 i E):=by
  refine ⟨hm.size,hm.defers,fun t v hl=>?_⟩
  rcases look_append _ _ t v hl with hl|hl
  ·obtain ⟨hk,hl⟩:=look_filter (f:=fun t=>(cloAt tab i).any fun j=>dstAt tab j == some t) E t v hl
   simp only [List.any_eq_true,beq_iff_eq] at hk
   obtain ⟨j,hj,hjd⟩:=hk
   obtain ⟨u,hu,hu'⟩:=hat j (hcloD j hj) t hjd
   rw [hl] at hu
   injection hu with hu
   subst hu
   exact hu'
  ·obtain ⟨hk,hl⟩:=look_filter e0 t v hl
   refine hm.keep t v (he0.look t v hl) fun j hj hd'=>?_
   simp only [keep,List.all_eq_true] at hk
   cases hs:tab[j]? with
   | none=>simp [dstAt,hs] at hd'
   | some s' =>
    have:=hk (s',j) (by rw [List.mem_zipIdx_iff_getElem?];simpa using hs)
    simp only [dstAt,hs,Option.bind_some] at hd'
    simp only [hd',bne_self_eq_false,Bool.false_or,List.contains_eq_mem,decide_eq_true_eq] at this
    exact hi (hcloM j hj i (by simpa [cloAt,hs] using this))
 have hdo:∀ j,(l.toArray[j]?).bind (·.dst)=dstAt tab j:=by
  intro j
  have:=congrArg (fun x=>x[j]?) hrows
  simp only [List.getElem?_map] at this
  simp only [List.getElem?_toArray,dstAt]
  cases h1:l[j]? <;> cases h2:tab[j]? <;> simp_all
 have hdo':∀ j,(l[j]?).bind (·.dst)=dstAt tab j:=fun j=>by simpa using hdo j
 have hslot:∀ j b d v,gdAt tab i=some (j,b)→dstAt tab j=some d→look E d=some v→a.tmps[d]?=some v:=by
  intro j b d v h1 h2 h3
  obtain ⟨u,hu,hu'⟩:=hat j (hcloD j (hgd i j b h1)) d h2
  rw [h3] at hu
  injection hu with hu
  exact hu ▸ hu'
 have hgr:gdAt tab i=r.guard:=by simp [gdAt,hr]
 have wants:gdRun tab i E→Region.wanted o (yielded l.toArray a.tmps)=true:=by
  intro h
  unfold Region.wanted
  rw [hg,←hgr]
  cases hq:gdAt tab i with
  | none=>rfl
  | some jb =>
   obtain ⟨j,b⟩:=jb
   obtain ⟨d,h1,h2⟩:=h j b hq
   have:=hslot j b d _ hq h1 h2
   simp [yielded,hdo',h1,this]
 have wants':gdOff tab i E→Region.wanted o (yielded l.toArray a.tmps)=false:=by
  rintro ⟨j,b,d,h1,h2,h3⟩
  unfold Region.wanted
  rw [hg,←hgr,h1]
  rcases h3 with h3|h3
  ·have:=hslot j b d _ h1 h2 h3
   simp [yielded,hdo',h2,this]
  ·have:=hslot j b d _ h1 h2 h3
   simp [yielded,hdo',h2,this,undef]
 unfold wpOp
 simp only [List.getElem?_toArray,ho]
 have hsc:=hst.script
 have hother:∀ v w',Ext w w'→∀ j∈D,∀ d,dstAt tab j=some d→(a.put o.dst v).tmps[d]?=a.tmps[d]?:=fun v w' hx j hj d hd'=>(hput v w' hx).1 d fun e=>hi (f1 i j d (hdi.trans e) hd' ▸ hj)
 have hilt:i<tab.length:=hlen ▸ hil
 have hcover:=scT_cover hsc
 by_cases hall:i∈all
 ·-- it ends the stage
  have hnd:i ∉ done:=fun h=>hi (hdD i h)
  have hsi:i∈s.chs:=scT_ch hsc hall hnd (fun c hc hci=>(scT_in hsc hc).2 (hDd c (scT_in hsc hc).1 (hcloD c hci)))
  obtain ⟨nx,hnx,hs',hsc'⟩:=scT_next hsc hsi hst.next
  have _u:True:=trivial
  have adv:∀ v w' H',Ext w w'→sat w' (stars H')→Wt P n e0 tab l Fin nx (addE tab i v E) H'→Mid3 P n e e0 tab l Fin W all (i::D) (a.put o.dst v) w':=by
   intro v w' H' hx hs hw
   obtain ⟨E',hst',hlk⟩:=wt_open f1 hgd hself hsc' (fun d u hu=>by
    by_cases hid:dstAt tab i=some d
    ·exact ⟨i,hilt,hid⟩
    ·rw [addE_look hid] at hu;exact hst.dom d u hu) hw
   obtain ⟨q1,q2,q3,q4,q5⟩:=hput v w' hx
   refine ⟨q3,q4,hm.ext.trans hx,q5,i::done,nx,E',H',hst',hs,fun c hc=>?_,fun c hc hcD=>?_,fun j hj d hd'=>?_⟩
   ·rcases List.mem_cons.1 hc with rfl|hc
    ·simp
    ·simp [hdD c hc]
   ·rcases List.mem_cons.1 hcD with rfl|hcD
    ·simp
    ·simp [hDd c hc hcD]
   ·have hne:∀ q∈nx.ps,dstAt tab q≠some d:=by
     intro q hq hqd
     have:=f1 q j d hqd hd'
     subst this
     rcases List.mem_cons.1 hj with rfl|hj
     ·exact hself _ (hs' _ hq)
     ·exact hi (hcloM _ hj i (hs' _ hq))
    rw [hlk d hne]
    rcases List.mem_cons.1 hj with rfl|hj
    ·exact ⟨v,addE_self hd',q2 d (hdi.symm.trans hd')⟩
    ·rw [addE_look (fun e=>hi (f1 i j d e hd' ▸ hj)),hother v w' hx j hj d hd']
     exact hat j hj d hd'
  rcases hnx with ⟨h1,h2⟩|⟨h1,o',h2,h3⟩
  ·rw [wants' h1]
   exact hK _ _ (adv undef w H (.refl w) hsat h2)
  ·rw [wants h1]
   simp only [if_true]
   left
   rw [ho] at h2
   injection h2 with h2
   subst h2
   exact h3.out a w ⟨hev,hsat⟩ o rfl rfl K _ fun v w' H' hc hx hs=>hK _ _ (adv v w' H' hx hs hc)
 ·have hgood:Good P n e0 tab l i E H:=by
   rcases hcover i hilt with (((h|⟨c,h1,h2,h3⟩)|⟨c,h1,h2⟩)|h)|h
   ·exact absurd h hall
   ·exact absurd (hDd c h1 (hcloD c h2)) h3
   ·exact absurd (hcloM c (hdD c h1) i h2) hi
   ·exact hst.good i (.inl h)
   ·exact hst.good i (.inr h)
  have stay:∀ v w',(∀ d,dstAt tab i=some d→look E d=some v)→Ext w w'→sat w' (stars H)→Mid3 P n e e0 tab l Fin W all (i::D) (a.put o.dst v) w':=by
   intro v w' hlk hx hs
   obtain ⟨q1,q2,q3,q4,q5⟩:=hput v w' hx
   refine ⟨q3,q4,hm.ext.trans hx,q5,done,s,E,H,hst,hs,fun c hc=>by simp [hdD c hc],fun c hc hcD=>?_,fun j hj d hd'=>?_⟩
   ·rcases List.mem_cons.1 hcD with rfl|hcD
    ·exact absurd hc hall
    ·exact hDd c hc hcD
   ·rcases List.mem_cons.1 hj with rfl|hj
    ·exact ⟨v,hlk d hd',q2 d (hdi.symm.trans hd')⟩
    ·rw [hother v w' hx j hj d hd']
     exact hat j hj d hd'
  rcases hgood with ⟨h1,h2⟩|⟨v,h0,h1,o',h2,h3⟩
  ·rw [wants' h1]
   exact hK _ _ (stay undef w h2 (.refl w) hsat)
  ·rw [wants h1]
   simp only [if_true]
   left
   rw [ho] at h2
   injection h2 with h2
   subst h2
   exact h3.out a w ⟨hev,hsat⟩ o rfl rfl K _ fun v' w' H' hc hx hs=>hK _ _ (hc.1 ▸ stay v w' h0 hx (hs.mono hc.2))
def treeOk (n:Nat) (tab:List Row) (all:List Nat) (S:Scr):Bool:=tabOk tab && gdIn tab && scT tab all [] S && tab.all (fun r=>match r.dst with|none=>true|some d=>Nat.blt d n)
theorem st_tree {id:Nat} (e0:Ev) (tab:List Row) (all:List Nat) (S:Scr) (hm:P.follows .mixedOrders=true) (he:Covers e e0) (hrows:l.map (fun o=>(o.dst,edgesOf o,o.guard))=tab.map (fun r=>(r.dst,r.edges,r.guard)))
  (hok:treeOk n tab all S=true) (h:Wt P n e0 tab l (fun E H'=>Nx P k n (E++e) W H') S [] H):St P (.region id l.toArray true) k n e W H :=
 ⟨fun a w ho=>by
  simp only [treeOk,Bool.and_eq_true] at hok
  obtain ⟨⟨⟨ht,hin⟩,hsc⟩,hdst⟩:=hok
  have hlen:l.length=tab.length:=by simpa using congrArg List.length hrows
  obtain ⟨f1,f2,f3⟩:=tabOk.facts ht
  have hself:∀ i,i ∉ cloAt tab i:=by
   intro j hj
   cases hs:tab[j]? with
   | none=>simp [cloAt,hs] at hj
   | some s=>have:=f2 j s hs j (by simpa [cloAt,hs] using hj);omega
  have hgd:∀ i j b,gdAt tab i=some (j,b)→j∈cloAt tab i:=by
   intro i j b h
   obtain ⟨⟨s,hs,hj⟩,_⟩:=f3 i j b h
   have:=List.all_eq_true.1 hin s (List.mem_of_getElem? hs)
   simp only [List.all_eq_true,List.contains_eq_mem,decide_eq_true_eq] at this
   simpa [cloAt,hs] using this j hj
  obtain ⟨E,hst,_⟩:=wt_open f1 hgd hself hsc (by simp [look]) h
  refine wp_region_any hm ?_
  refine any_all2 ht hrows (Mid3 P n e e0 tab l (fun E H'=>Nx P k n (E++e) W H') W all) (fun D i r hcl hi hr hre a w hm K hK=>mid3_step he ht hin hrows hdst hcl hi hr hre hm K hK) (fun D a w hall hm=>?_) _ _ [] _ _ List.nodup_nil (by simp) (by simp) (by simp) (fun i hi=>by simp [hi]) (Nat.le_trans (List.length_filter_le _ _) (by simp))
   ⟨ho.ev.size,ho.ev.defers,ho.ext.drew,fun t v hl _=>ho.ev.get t v hl,[],S,E,H,hst,ho.sat,by simp,by simp,by simp⟩
  obtain ⟨done,s,E,H,hst,hsat,hdD,hDd,hat⟩:=hm.at_
  have hnx:=hst.next
  have hfin:s.chs=[]:=by
   cases hc:s.chs with
   | nil=>rfl
   | cons c cs =>
    have hin2:=scT_in hst.script (c:=c) (by rw [hc];simp)
    exact absurd (hDd c hin2.1 (hall c (by have:=scT_lt hst.script (c:=c) (by rw [hc];simp);omega))) hin2.2
  have hnx:=nextT_fin hfin hnx
  refine Nx.out hnx a w ⟨⟨hm.size,hm.defers,fun t v hl=>?_⟩,hm.ext,hsat⟩
  rcases look_append' _ _ t v hl with hl|⟨hn,hl⟩
  ·obtain ⟨i,hi,hid⟩:=hst.dom t v hl
   obtain ⟨u,hu,hu'⟩:=hat i (hall i (by omega)) t hid
   rw [hl] at hu
   injection hu with hu
   exact hu ▸ hu'
  ·refine hm.keep t v hl fun i hi hd=>?_
   have hit:i<tab.length:=by
    cases hs:tab[i]? with
    | none=>simp [dstAt,hs] at hd
    | some s=>exact (List.getElem?_eq_some_iff.1 hs).1
   obtain ⟨u,hu,_⟩:=hat i hi t hd
   rw [hn] at hu
   cases hu⟩
end
section
variable {P:Program} {n:Nat} {e:Ev} {tab:List Row} {l:List Oper} {H:List Hl} {ps rs:List Nat} {i c1 c2 c3:Nat} {n1 n2 n3 nx:Scr} {E:Ev} {Fin:Ev→List Hl→Prop}
theorem wt_end (h:OpenP P n e tab l H ps E fun E'=>ReP P n e tab l H E' rs∧Fin E' H):Wt P n e tab l Fin (.fin ps rs) E H:=h
theorem wt_ch (h:OpenP P n e tab l H ps E fun E'=>ReP P n e tab l H E' rs∧((gdOff tab i E'∧Wt P n e tab l Fin nx (addE tab i undef E') H)∨Op1 P n e tab l i E' H fun v H'=>Wt P n e tab l Fin nx (addE tab i v E') H')):Wt P n e tab l Fin (.step ps rs i nx) E H:=h
theorem wt_alt (h:OpenP P n e tab l H ps E fun E'=>ReP P n e tab l H E' rs∧(((gdOff tab c1 E'∧Wt P n e tab l Fin n1 (addE tab c1 undef E') H)∨Op1 P n e tab l c1 E' H fun v H'=>Wt P n e tab l Fin n1 (addE tab c1 v E') H') ∧
   ((gdOff tab c2 E'∧Wt P n e tab l Fin n2 (addE tab c2 undef E') H)∨Op1 P n e tab l c2 E' H fun v H'=>Wt P n e tab l Fin n2 (addE tab c2 v E') H'))):Wt P n e tab l Fin (.alt ps rs c1 n1 c2 n2) E H:=h
theorem wt_alt3 (h:OpenP P n e tab l H ps E fun E'=>ReP P n e tab l H E' rs∧(((gdOff tab c1 E'∧Wt P n e tab l Fin n1 (addE tab c1 undef E') H)∨Op1 P n e tab l c1 E' H fun v H'=>Wt P n e tab l Fin n1 (addE tab c1 v E') H') ∧
   ((gdOff tab c2 E'∧Wt P n e tab l Fin n2 (addE tab c2 undef E') H)∨Op1 P n e tab l c2 E' H fun v H'=>Wt P n e tab l Fin n2 (addE tab c2 v E') H') ∧
   ((gdOff tab c3 E'∧Wt P n e tab l Fin n3 (addE tab c3 undef E') H)∨Op1 P n e tab l c3 E' H fun v H'=>Wt P n e tab l Fin n3 (addE tab c3 v E') H'))):Wt P n e tab l Fin (.alt3 ps rs c1 n1 c2 n2 c3 n3) E H:=h
variable {d:Nat} {op:Op} {ty:TypeId} {dst:Option Nat} {pos:String} {af:Array Edge} {g:Option (Nat × Bool)} {E':Ev}
theorem ct_off (hd:dstAt tab i=some d) (hg:gdOff tab i E) (h:Wt P n e tab l Fin nx ((d,undef)::E) H):(gdOff tab i E∧Wt P n e tab l Fin nx (addE tab i undef E) H)∨Op1 P n e tab l i E H fun v H'=>Wt P n e tab l Fin nx (addE tab i v E) H' := .inl ⟨hg,by rw [addE_some hd];exact h⟩
theorem ct_off_no (hd:dstAt tab i=none) (hg:gdOff tab i E) (h:Wt P n e tab l Fin nx E H):(gdOff tab i E∧Wt P n e tab l Fin nx (addE tab i undef E) H)∨Op1 P n e tab l i E H fun v H'=>Wt P n e tab l Fin nx (addE tab i v E) H' := .inl ⟨hg,by rw [addE_none hd];exact h⟩
theorem ct_run (hd:dstAt tab i=some d) (hg:gdRun tab i E) (ho:l[i]?=some ⟨dst,op,ty,pos,af,g⟩) (hc:Covers (envI tab e i E) E') (h:O1 P op ty n E' H fun v H'=>Wt P n e tab l Fin nx ((d,v)::E) H'):(gdOff tab i E∧Wt P n e tab l Fin nx (addE tab i undef E) H)∨Op1 P n e tab l i E H fun v H'=>Wt P n e tab l Fin nx (addE tab i v E) H' :=
 .inr ⟨hg,_,ho,by simp only [addE_some hd];exact h.cov hc⟩
theorem ct_run_no (hd:dstAt tab i=none) (hg:gdRun tab i E) (ho:l[i]?=some ⟨dst,op,ty,pos,af,g⟩) (hc:Covers (envI tab e i E) E') (h:O1 P op ty n E' H fun _ H'=>Wt P n e tab l Fin nx E H'):(gdOff tab i E∧Wt P n e tab l Fin nx (addE tab i undef E) H)∨Op1 P n e tab l i E H fun v H'=>Wt P n e tab l Fin nx (addE tab i v E) H' :=
 .inr ⟨hg,_,ho,by simp only [addE_none hd];exact h.cov hc⟩
end
theorem st_via {P:Program} {k:Kon} {n:Nat} {e:Ev} {W:World} {H:List Hl} {co:Code} {X:Type} (e0:X→Ev) (H0:X→List Hl) (h:∀ x,Nx P k n (e0 x) W (H0 x)) (r:(∀ x e' H',Covers e' (e0 x)→Ent H' (H0 x)→Nx P k n e' W H')→St P co k n e W H):St P co k n e W H :=
 r fun x _ _ hc hE=>⟨fun a w ho=>(h x).out a w ⟨ho.ev.covers hc,ho.ext,ho.sat.mono hE.out⟩⟩
theorem ls_guard_un {P:Program} {ops:Array Oper} {k:Kon} {rest:List Oper} {n:Nat} {e:Ev} {W:World} {H:List Hl} {d:Nat} {ty:TypeId} {pos:String} {af:Array Edge} {op:Op} {j:Nat} {b:Bool} {t:Nat} (hd:Nat.blt d n=true) (hj:(ops[j]?).bind (·.dst)=some t) (hl:look e t=some undef) (h:Ls P ops k rest n ((d,undef)::e) W H) :
  Ls P ops k (⟨some d,op,ty,pos,af,some (j,b)⟩::rest) n e W H :=
 ⟨fun a w ho=>by
  have hy:yielded ops a.tmps j=none:=by simp [yielded,hj,ho.ev.get t _ hl,undef]
  have:((none:Option Bool) == some b)=false:=rfl
  unfold wpList
  simp only [Region.wanted,hy,this]
  exact h.out _ _ ⟨ho.ev.put hd undef,ho.ext,ho.sat⟩⟩
theorem ox_idx_arr {P:Program} {n:Nat} {H:List Hl} {e:Ev} {C:Value→List Hl→Prop} {ty:TypeId} {x y:Operand} {T E:TypeId} {z:Value} {by_:Nat} {p:Int} {kd:IntKind} {b o m s:Nat} (i o':Nat) [ht:TArr P T m E] [hi:TInf P E z s by_] (hx:opd e x=some (.pointer (some ⟨b,o,none⟩))) (hy:opd e y=some (.int kd p)) (hp:p=i) (hlt:i<m) (ho:o'=o+i*s)
  (h:C (.pointer (some ⟨b,o',none⟩)) H):O1 P (.indexAddr T x y) ty n e H C :=
 o1_indexAddr_arr hx hy (by omega) (by
  subst hp ho
  simpa using h)
section
variable {P:Program} {n:Nat} {e:Ev} {tab:List Row} {l:List Oper} {H:List Hl} {ps rs:List Nat} {i d j dj:Nat} {b:Bool} {E:Ev} {v:Value} {C:Ev→Prop} {op:Op} {ty:TypeId} {dst:Option Nat} {pos:String} {af:Array Edge} {g:Option (Nat × Bool)} {Q:Prop}
theorem fz {v:Value} {H:List Hl}:v=v∧∀ h,stars H h→stars H h:=⟨rfl,fun _ h=>h⟩
end
end Go.Dp
