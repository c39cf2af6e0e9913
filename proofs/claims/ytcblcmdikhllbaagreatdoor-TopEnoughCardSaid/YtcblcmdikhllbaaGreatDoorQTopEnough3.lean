/-
  Downpour, walked and proved: part 3.
  Conditions: those that stand in each theorem.
-/
import Derived.Test.YtcblcmdikhllbaaGreatDoorQTopEnough2
import Derived.Laws.LoneSync
set_option linter.unusedVariables false
set_option linter.unusedSimpArgs false
set_option maxHeartbeats 64000000
namespace Go.Dp
open Go.RowKit
inductive Scr where
 | fin (ps rs:List Nat)
 | step (ps rs:List Nat) (c:Nat) (nx:Scr)
 | alt (ps rs:List Nat) (c1:Nat) (n1:Scr) (c2:Nat) (n2:Scr)
 | alt3 (ps rs:List Nat) (c1:Nat) (n1:Scr) (c2:Nat) (n2:Scr) (c3:Nat) (n3:Scr)
def Scr.ps:Scr→List Nat
 | .fin ps _=>ps
 | .step ps _ _ _=>ps
 | .alt ps _ _ _ _ _=>ps
 | .alt3 ps _ _ _ _ _ _ _=>ps
def Scr.rs:Scr→List Nat
 | .fin _ rs=>rs
 | .step _ rs _ _=>rs
 | .alt _ rs _ _ _ _=>rs
 | .alt3 _ rs _ _ _ _ _ _=>rs
def Scr.chs:Scr→List Nat
 | .fin _ _=>[]
 | .step _ _ c _=>[c]
 | .alt _ _ c1 _ c2 _=>[c1,c2]
 | .alt3 _ _ c1 _ c2 _ c3 _=>[c1,c2,c3]
section
variable (P:Program) (n:Nat) (e:Ev) (tab:List Row) (l:List Oper)
def Wt (Fin:Ev→List Hl→Prop):Scr→Ev→List Hl→Prop
 | .fin ps rs,E,H=>OpenP P n e tab l H ps E fun E'=>ReP P n e tab l H E' rs∧Fin E' H
 | .step ps rs c nx,E,H=>OpenP P n e tab l H ps E fun E'=>ReP P n e tab l H E' rs∧((gdOff tab c E'∧Wt Fin nx (addE tab c undef E') H)∨Op1 P n e tab l c E' H fun v H'=>Wt Fin nx (addE tab c v E') H')
 | .alt ps rs c1 n1 c2 n2,E,H=>OpenP P n e tab l H ps E fun E'=>ReP P n e tab l H E' rs∧(((gdOff tab c1 E'∧Wt Fin n1 (addE tab c1 undef E') H)∨Op1 P n e tab l c1 E' H fun v H'=>Wt Fin n1 (addE tab c1 v E') H') ∧
   ((gdOff tab c2 E'∧Wt Fin n2 (addE tab c2 undef E') H)∨Op1 P n e tab l c2 E' H fun v H'=>Wt Fin n2 (addE tab c2 v E') H'))
 | .alt3 ps rs c1 n1 c2 n2 c3 n3,E,H=>OpenP P n e tab l H ps E fun E'=>ReP P n e tab l H E' rs∧(((gdOff tab c1 E'∧Wt Fin n1 (addE tab c1 undef E') H)∨Op1 P n e tab l c1 E' H fun v H'=>Wt Fin n1 (addE tab c1 v E') H') ∧
   ((gdOff tab c2 E'∧Wt Fin n2 (addE tab c2 undef E') H)∨Op1 P n e tab l c2 E' H fun v H'=>Wt Fin n2 (addE tab c2 v E') H') ∧
   ((gdOff tab c3 E'∧Wt Fin n3 (addE tab c3 undef E') H)∨Op1 P n e tab l c3 E' H fun v H'=>Wt Fin n3 (addE tab c3 v E') H'))
def NxT (Fin:Ev→List Hl→Prop) (c:Nat) (nx:Scr) (E:Ev) (H:List Hl):Prop:=(gdOff tab c E∧Wt P n e tab l Fin nx (addE tab c undef E) H)∨Op1 P n e tab l c E H fun v H'=>Wt P n e tab l Fin nx (addE tab c v E) H'
def nextT (Fin:Ev→List Hl→Prop):Scr→Ev→List Hl→Prop
 | .fin _ _,E,H=>Fin E H
 | .step _ _ c nx,E,H=>NxT P n e tab l Fin c nx E H
 | .alt _ _ c1 n1 c2 n2,E,H=>NxT P n e tab l Fin c1 n1 E H∧NxT P n e tab l Fin c2 n2 E H
 | .alt3 _ _ c1 n1 c2 n2 c3 n3,E,H=>NxT P n e tab l Fin c1 n1 E H∧NxT P n e tab l Fin c2 n2 E H∧NxT P n e tab l Fin c3 n3 E H
end
def bT (tab:List Row) (all done ps rs chs:List Nat):Bool :=
 psOk tab ps && (ps.all fun i=>decide (i<tab.length)) && ((List.range tab.length).all fun i=>all.contains i || (all.any fun c=>(cloAt tab i).contains c && !done.contains c) || (done.any fun c=>(cloAt tab c).contains i) || ps.contains i || rs.contains i) &&
 (chs.all fun c=>decide (c<tab.length) && !done.contains c && all.contains c) && (all.all fun c'=>done.contains c' || chs.contains c' || chs.any fun c=>(cloAt tab c').contains c)
def scT (tab:List Row) (all:List Nat):List Nat→Scr→Bool
 | done,.fin ps rs=>bT tab all done ps rs []
 | done,.step ps rs c nx=>bT tab all done ps rs [c] && ((nx.ps.all fun i=>(cloAt tab i).contains c) && scT tab all (c::done) nx)
 | done,.alt ps rs c1 n1 c2 n2=>bT tab all done ps rs [c1,c2] && (((n1.ps.all fun i=>(cloAt tab i).contains c1) && scT tab all (c1::done) n1) && ((n2.ps.all fun i=>(cloAt tab i).contains c2) && scT tab all (c2::done) n2))
 | done,.alt3 ps rs c1 n1 c2 n2 c3 n3=>bT tab all done ps rs [c1,c2,c3] && (((n1.ps.all fun i=>(cloAt tab i).contains c1) && scT tab all (c1::done) n1) && (((n2.ps.all fun i=>(cloAt tab i).contains c2) && scT tab all (c2::done) n2) && ((n3.ps.all fun i=>(cloAt tab i).contains c3) && scT tab all (c3::done) n3)))
theorem scT_b {tab:List Row} {all done:List Nat} {s:Scr} (h:scT tab all done s=true):bT tab all done s.ps s.rs s.chs=true:=by
 cases s with
 | fin ps rs=>exact h
 | step ps rs c nx=>simp only [scT,Bool.and_eq_true] at h;exact h.1
 | alt ps rs c1 n1 c2 n2=>simp only [scT,Bool.and_eq_true] at h;exact h.1
 | alt3 ps rs c1 n1 c2 n2 c3 n3=>simp only [scT,Bool.and_eq_true] at h;exact h.1
theorem c2A {tab:List Row} {all done:List Nat} {s:Scr} (h:scT tab all done s=true) {c:Nat} (hc:c∈s.chs):c∈all∧c ∉ done:=by
 have:=scT_b h
 simp only [bT,Bool.and_eq_true,List.all_eq_true,decide_eq_true_eq,Bool.not_eq_true',List.contains_eq_mem,decide_eq_false_iff_not] at this
 exact ⟨(this.1.2 c hc).2,(this.1.2 c hc).1.2⟩
theorem scT_lt {tab:List Row} {all done:List Nat} {s:Scr} (h:scT tab all done s=true) {c:Nat} (hc:c∈s.chs):c<tab.length:=by
 have:=scT_b h
 simp only [bT,Bool.and_eq_true,List.all_eq_true,decide_eq_true_eq] at this
 exact (this.1.2 c hc).1.1
theorem scT_cover {tab:List Row} {all done:List Nat} {s:Scr} (h:scT tab all done s=true):∀ i,i<tab.length→(((i∈all∨∃ c,c∈all∧c∈cloAt tab i∧c ∉ done)∨∃ c,c∈done∧i∈cloAt tab c)∨i∈s.ps)∨i∈s.rs:=by
 have:=scT_b h
 simp only [bT,Bool.and_eq_true,List.all_eq_true,List.mem_range,Bool.or_eq_true,List.any_eq_true,Bool.not_eq_true',List.contains_eq_mem,decide_eq_true_eq,decide_eq_false_iff_not] at this
 exact this.1.1.2
theorem scT_ch {tab:List Row} {all done:List Nat} {s:Scr} (h:scT tab all done s=true) {i:Nat} (hi:i∈all) (hd:i ∉ done) (hb:∀ c,c∈s.chs→c∈cloAt tab i→False):i∈s.chs:=by
 have:=scT_b h
 simp only [bT,Bool.and_eq_true,List.all_eq_true,Bool.or_eq_true,List.any_eq_true,List.contains_eq_mem,decide_eq_true_eq] at this
 rcases this.2 i hi with (h1|h1)|⟨c,h1,h2⟩
 ·exact absurd h1 hd
 ·exact h1
 ·exact (hb c h1 h2).elim
section
variable {P:Program} {k:Kon} {n:Nat} {e e0:Ev} {W:World} {H:List Hl} {tab:List Row} {l:List Oper} {Fin:Ev→List Hl→Prop}
theorem wt_eq (s:Scr) (E:Ev) (H:List Hl):Wt P n e tab l Fin s E H=OpenP P n e tab l H s.ps E fun E'=>ReP P n e tab l H E' s.rs∧nextT P n e tab l Fin s E' H:=by cases s <;> rfl
theorem scT_next {all done:List Nat} {s:Scr} {E:Ev} {H:List Hl} (h:scT tab all done s=true) {i:Nat} (hi:i∈s.chs) (hn:nextT P n e tab l Fin s E H) :
  ∃ nx,NxT P n e tab l Fin i nx E H∧(∀ q∈nx.ps,i∈cloAt tab q)∧scT tab all (i::done) nx=true:=by
 cases s with
 | fin ps rs=>simp [Scr.chs] at hi
 | step ps rs c nx =>
  simp only [Scr.chs,List.mem_singleton] at hi
  subst hi
  simp only [scT,Bool.and_eq_true,List.all_eq_true,List.contains_eq_mem,decide_eq_true_eq] at h
  exact ⟨nx,hn,h.2.1,h.2.2⟩
 | alt ps rs c1 n1 c2 n2 =>
  simp only [scT,Bool.and_eq_true,List.all_eq_true,List.contains_eq_mem,decide_eq_true_eq] at h
  simp only [Scr.chs,List.mem_cons,List.not_mem_nil,or_false] at hi
  rcases hi with rfl|rfl
  ·exact ⟨n1,hn.1,h.2.1.1,h.2.1.2⟩
  ·exact ⟨n2,hn.2,h.2.2.1,h.2.2.2⟩
 | alt3 ps rs c1 n1 c2 n2 c3 n3 =>
  simp only [scT,Bool.and_eq_true,List.all_eq_true,List.contains_eq_mem,decide_eq_true_eq] at h
  simp only [Scr.chs,List.mem_cons,List.not_mem_nil,or_false] at hi
  rcases hi with rfl|rfl|rfl
  ·exact ⟨n1,hn.1,h.2.1.1,h.2.1.2⟩
  ·exact ⟨n2,hn.2.1,h.2.2.1.1,h.2.2.1.2⟩
  ·exact ⟨n3,hn.2.2,h.2.2.2.1,h.2.2.2.2⟩
theorem nextT_fin {s:Scr} {E:Ev} {H:List Hl} (h:s.chs=[]) (hn:nextT P n e tab l Fin s E H):Fin E H:=by
 cases s with
 | fin ps rs=>exact hn
 | step ps rs c nx=>simp [Scr.chs] at h
 | alt ps rs c1 n1 c2 n2=>simp [Scr.chs] at h
 | alt3 ps rs c1 n1 c2 n2 c3 n3=>simp [Scr.chs] at h
structure StandT (P:Program) (n:Nat) (e0:Ev) (tab:List Row) (l:List Oper) (Fin:Ev→List Hl→Prop) (all done:List Nat) (s:Scr) (E:Ev) (H:List Hl):Prop where
 good:∀ i,i∈s.ps∨i∈s.rs→Good P n e0 tab l i E H
 next:nextT P n e0 tab l Fin s E H
 script:scT tab all done s=true
 dom:∀ d v,look E d=some v→∃ i,i<tab.length∧dstAt tab i=some d
theorem wt_open (hdst:∀ i j d,dstAt tab i=some d→dstAt tab j=some d→i=j) (hgd:∀ i j b,gdAt tab i=some (j,b)→j∈cloAt tab i) (hself:∀ i,i ∉ cloAt tab i) {all done:List Nat} {s:Scr} {E:Ev}
  (hs:scT tab all done s=true) (hdom:∀ d v,look E d=some v→∃ i,i<tab.length∧dstAt tab i=some d) (h:Wt P n e0 tab l Fin s E H) :
  ∃ E',StandT P n e0 tab l Fin all done s E' H∧∀ d,(∀ i∈s.ps,dstAt tab i≠some d)→look E' d=look E d:=by
 have hb:=scT_b hs
 simp only [bT,Bool.and_eq_true] at hb
 rw [wt_eq] at h
 obtain ⟨E',⟨c0,c1⟩,c2,c3,c4,_⟩:=b8T hdst hgd hself s.ps E _ hb.1.1.1.1 h
 refine ⟨E',⟨fun i hi=>?_,c1,hs,fun d v hv=>?_⟩,c4⟩
 ·rcases hi with hi|hi
  ·exact c2 i hi
  ·exact c0R _ _ c0 i hi
 ·rcases c3 d v hv with hh|⟨i,hi,hid⟩
  ·exact hdom d v hh
  ·have:=hb.1.1.1.2
   simp only [List.all_eq_true,decide_eq_true_eq] at this
   exact ⟨i,this i hi,hid⟩
structure Mid3 (P:Program) (n:Nat) (e e0:Ev) (tab:List Row) (l:List Oper) (Fin:Ev→List Hl→Prop) (W:World) (all D:List Nat) (a:Act) (w:World):Prop where
 size:a.tmps.size=n
 defers:a.defers=[]
 ext:Ext W w
 keep:∀ t v,look e t=some v→(∀ i∈D,dstAt tab i≠some t)→a.tmps[t]?=some v
 at_:∃ (done:List Nat) (s:Scr) (E:Ev) (H:List Hl),StandT P n e0 tab l Fin all done s E H∧sat w (stars H)∧(∀ c,c∈done→c∈D)∧(∀ c∈all,c∈D→c∈done)∧(∀ i∈D,∀ d,dstAt tab i=some d→∃ v,look E d=some v∧a.tmps[d]?=some v)
theorem mid3_step (he0:Covers e e0) (ht:tabOk tab=true) (hin:gdIn tab=true) (hrows:l.map (fun o=>(o.dst,edgesOf o,o.guard))=tab.map (fun r=>(r.dst,r.edges,r.guard))) (hdst:tab.all (fun r=>match r.dst with|none=>true|some d=>Nat.blt d n)=true)
  {all D:List Nat} (hcl:∀ i∈D,∀ r,tab[i]?=some r→∀ j∈r.edges,j∈D) {i:Nat} (hi:i ∉ D) {r:Row} (hr:tab[i]?=some r) (hre:∀ j∈r.edges,j∈D) {a:Act} {w:World} (hm:Mid3 P n e e0 tab l Fin W all D a w)
  (K:Act→World→Prop) (hK:∀ a w,Mid3 P n e e0 tab l Fin W all (i::D) a w→K a w):wpOp P l.toArray (k.post P) i K a w:=by
 have hlen:l.length=tab.length:=by simpa using congrArg List.length hrows
 have hil:i<l.length:=by rw [hlen];exact (List.getElem?_eq_some_iff.1 hr).1
 have ho:l[i]?=some l[i]:=List.getElem?_eq_getElem hil
 generalize hoo:l[i]=o at ho
 have hrow:(o.dst,edgesOf o,o.guard)=(r.dst,r.edges,r.guard):=by
  have:=congrArg (fun x=>x[i]?) hrows
  simp only [List.getElem?_map,ho,hr,Option.map_some,Option.some.injEq] at this
  exact this
 simp only [Prod.mk.injEq] at hrow
 obtain ⟨hd,he,hg⟩:=hrow
 obtain ⟨f1,f2,f3⟩:=tabOk.facts ht
 have hdn:∀ d,r.dst=some d→d<n:=by
  intro d hd
  have:=List.all_eq_true.1 hdst r (List.mem_of_getElem? hr)
  rw [hd] at this
  simpa [Nat.blt_eq] using this
 have hdi:dstAt tab i=r.dst:=by simp [dstAt,hr]
 have hci:cloAt tab i=r.clo:=by simp [cloAt,hr]
 have hself:∀ i,i ∉ cloAt tab i:=by
  intro j hj
  cases hs:tab[j]? with
  | none=>simp [cloAt,hs] at hj
  | some s=>have:=f2 j s hs j (by simpa [cloAt,hs] using hj);omega
 have hgd:∀ i j b,gdAt tab i=some (j,b)→j∈cloAt tab i:=by
  intro i j b h
  obtain ⟨⟨s,hs,hj⟩,_⟩:=f3 i j b h
  have:=List.all_eq_true.1 hin s (List.mem_of_getElem? hs)
  simp only [List.all_eq_true,List.contains_eq_mem,decide_eq_true_eq] at this
  simpa [cloAt,hs] using this j hj
 have hcloD:∀ j∈cloAt tab i,j∈D:=by rw [hci];exact b3O ht hcl i r hr hre
 have hcloM:∀ m∈D,∀ j∈cloAt tab m,j∈D:=by
  intro m hmD j hj
  cases hs:tab[m]? with
  | none=>simp [cloAt,hs] at hj
  | some s=>exact b3O ht hcl m s hs (hcl m hmD s hs) j (by simpa [cloAt,hs] using hj)
 obtain ⟨done,s,E,H,hst,hsat,hdD,hDd,hat⟩:=hm.at_
 have hput:∀ v w',Ext w w'→(∀ t,r.dst≠some t→(a.put o.dst v).tmps[t]?=a.tmps[t]?)∧(∀ d,r.dst=some d→(a.put o.dst v).tmps[d]?=some v)∧(a.put o.dst v).tmps.size=n∧(a.put o.dst v).defers=[] ∧
   (∀ t u,look e t=some u→(∀ j∈i::D,dstAt tab j≠some t)→(a.put o.dst v).tmps[t]?=some u):=by
  intro v w' hx
  have q1:∀ t,r.dst≠some t→(a.put o.dst v).tmps[t]?=a.tmps[t]?:=by
   intro t ht'
   rw [hd]
   cases hrd:r.dst with
   | none=>rfl
   | some d =>
    have:d≠t:=fun e=>by subst e;exact ht' hrd
    simp [Act.put,this]
  refine ⟨q1,fun d hrd=>?_,?_,?_,fun t u hl hn=>?_⟩
  ·rw [hd,hrd];simp [Act.put,hm.size,hdn d hrd]
  ·rw [hd];cases r.dst <;> simp [Act.put,hm.size]
  ·rw [hd];cases r.dst <;> simp [Act.put,hm.defers]
  ·rw [q1 t (fun e=>hn i (by simp) (hdi.trans e))]
   exact hm.keep t u hl (fun j hj=>hn j (by simp [hj]))
 have hev:EvOk a n (envI tab e0 i E):=by
  refine ⟨hm.size,hm.defers,fun t v hl=>?_⟩
  rcases a7Q _ _ t v hl with hl|hl
  ·obtain ⟨hk,hl⟩:=a5K (f:=fun t=>(cloAt tab i).any fun j=>dstAt tab j == some t) E t v hl
   simp only [List.any_eq_true,beq_iff_eq] at hk
   obtain ⟨j,hj,hjd⟩:=hk
   obtain ⟨u,hu,hu'⟩:=hat j (hcloD j hj) t hjd
   rw [hl] at hu
   injection hu with hu
   subst hu
   exact hu'
  ·obtain ⟨hk,hl⟩:=a5K e0 t v hl
   refine hm.keep t v (he0.look t v hl) fun j hj hd'=>?_
   simp only [keep,List.all_eq_true] at hk
   cases hs:tab[j]? with
   | none=>simp [dstAt,hs] at hd'
   | some s' =>
    have:=hk (s',j) (by rw [List.mem_zipIdx_iff_getElem?];simpa using hs)
    simp only [dstAt,hs,Option.bind_some] at hd'
    simp only [hd',bne_self_eq_false,Bool.false_or,List.contains_eq_mem,decide_eq_true_eq] at this
    exact hi (hcloM j hj i (by simpa [cloAt,hs] using this))
 have hdo:∀ j,(l.toArray[j]?).bind (·.dst)=dstAt tab j:=by
  intro j
  have:=congrArg (fun x=>x[j]?) hrows
  simp only [List.getElem?_map] at this
  simp only [List.getElem?_toArray,dstAt]
  cases h1:l[j]? <;> cases h2:tab[j]? <;> simp_all
 have hdo':∀ j,(l[j]?).bind (·.dst)=dstAt tab j:=fun j=>by simpa using hdo j
 have hslot:∀ j b d v,gdAt tab i=some (j,b)→dstAt tab j=some d→look E d=some v→a.tmps[d]?=some v:=by
  intro j b d v h1 h2 h3
  obtain ⟨u,hu,hu'⟩:=hat j (hcloD j (hgd i j b h1)) d h2
  rw [h3] at hu
  injection hu with hu
  exact hu ▸ hu'
 have hgr:gdAt tab i=r.guard:=by simp [gdAt,hr]
 have wants:gdRun tab i E→Region.wanted o (yielded l.toArray a.tmps)=true:=by
  intro h
  unfold Region.wanted
  rw [hg,←hgr]
  cases hq:gdAt tab i with
  | none=>rfl
  | some jb =>
   obtain ⟨j,b⟩:=jb
   obtain ⟨d,h1,h2⟩:=h j b hq
   have:=hslot j b d _ hq h1 h2
   simp [yielded,hdo',h1,this]
 have wants':gdOff tab i E→Region.wanted o (yielded l.toArray a.tmps)=false:=by
  rintro ⟨j,b,d,h1,h2,h3⟩
  unfold Region.wanted
  rw [hg,←hgr,h1]
  rcases h3 with h3|h3
  ·have:=hslot j b d _ h1 h2 h3
   simp [yielded,hdo',h2,this]
  ·have:=hslot j b d _ h1 h2 h3
   simp [yielded,hdo',h2,this,undef]
 unfold wpOp
 simp only [List.getElem?_toArray,ho]
 have hsc:=hst.script
 have hother:∀ v w',Ext w w'→∀ j∈D,∀ d,dstAt tab j=some d→(a.put o.dst v).tmps[d]?=a.tmps[d]?:=fun v w' hx j hj d hd'=>(hput v w' hx).1 d fun e=>hi (f1 i j d (hdi.trans e) hd' ▸ hj)
 have hilt:i<tab.length:=hlen ▸ hil
 have hcover:=scT_cover hsc
 by_cases hall:i∈all
 ·
  have hnd:i ∉ done:=fun h=>hi (hdD i h)
  have hsi:i∈s.chs:=scT_ch hsc hall hnd (fun c hc hci=>(c2A hsc hc).2 (hDd c (c2A hsc hc).1 (hcloD c hci)))
  obtain ⟨nx,hnx,hs',hsc'⟩:=scT_next hsc hsi hst.next
  have _u:True:=trivial
  have adv:∀ v w' H',Ext w w'→sat w' (stars H')→Wt P n e0 tab l Fin nx (addE tab i v E) H'→Mid3 P n e e0 tab l Fin W all (i::D) (a.put o.dst v) w':=by
   intro v w' H' hx hs hw
   obtain ⟨E',hst',hlk⟩:=wt_open f1 hgd hself hsc' (fun d u hu=>by
    by_cases hid:dstAt tab i=some d
    ·exact ⟨i,hilt,hid⟩
    ·rw [a5C hid] at hu;exact hst.dom d u hu) hw
   obtain ⟨q1,q2,q3,q4,q5⟩:=hput v w' hx
   refine ⟨q3,q4,hm.ext.trans hx,q5,i::done,nx,E',H',hst',hs,fun c hc=>?_,fun c hc hcD=>?_,fun j hj d hd'=>?_⟩
   ·rcases List.mem_cons.1 hc with rfl|hc
    ·simp
    ·simp [hdD c hc]
   ·rcases List.mem_cons.1 hcD with rfl|hcD
    ·simp
    ·simp [hDd c hc hcD]
   ·have hne:∀ q∈nx.ps,dstAt tab q≠some d:=by
     intro q hq hqd
     have:=f1 q j d hqd hd'
     subst this
     rcases List.mem_cons.1 hj with rfl|hj
     ·exact hself _ (hs' _ hq)
     ·exact hi (hcloM _ hj i (hs' _ hq))
    rw [hlk d hne]
    rcases List.mem_cons.1 hj with rfl|hj
    ·exact ⟨v,b3S hd',q2 d (hdi.symm.trans hd')⟩
    ·rw [a5C (fun e=>hi (f1 i j d e hd' ▸ hj)),hother v w' hx j hj d hd']
     exact hat j hj d hd'
  rcases hnx with ⟨h1,h2⟩|⟨h1,o',h2,h3⟩
  ·rw [wants' h1]
   exact hK _ _ (adv undef w H (.refl w) hsat h2)
  ·rw [wants h1]
   simp only [if_true]
   left
   rw [ho] at h2
   injection h2 with h2
   subst h2
   exact h3.out a w ⟨hev,hsat⟩ o rfl rfl K _ fun v w' H' hc hx hs=>hK _ _ (adv v w' H' hx hs hc)
 ·have hgood:Good P n e0 tab l i E H:=by
   rcases hcover i hilt with (((h|⟨c,h1,h2,h3⟩)|⟨c,h1,h2⟩)|h)|h
   ·exact absurd h hall
   ·exact absurd (hDd c h1 (hcloD c h2)) h3
   ·exact absurd (hcloM c (hdD c h1) i h2) hi
   ·exact hst.good i (.inl h)
   ·exact hst.good i (.inr h)
  have stay:∀ v w',(∀ d,dstAt tab i=some d→look E d=some v)→Ext w w'→sat w' (stars H)→Mid3 P n e e0 tab l Fin W all (i::D) (a.put o.dst v) w':=by
   intro v w' hlk hx hs
   obtain ⟨q1,q2,q3,q4,q5⟩:=hput v w' hx
   refine ⟨q3,q4,hm.ext.trans hx,q5,done,s,E,H,hst,hs,fun c hc=>by simp [hdD c hc],fun c hc hcD=>?_,fun j hj d hd'=>?_⟩
   ·rcases List.mem_cons.1 hcD with rfl|hcD
    ·exact absurd hc hall
    ·exact hDd c hc hcD
   ·rcases List.mem_cons.1 hj with rfl|hj
    ·exact ⟨v,hlk d hd',q2 d (hdi.symm.trans hd')⟩
    ·rw [hother v w' hx j hj d hd']
     exact hat j hj d hd'
  rcases hgood with ⟨h1,h2⟩|⟨v,h0,h1,o',h2,h3⟩
  ·rw [wants' h1]
   exact hK _ _ (stay undef w h2 (.refl w) hsat)
  ·rw [wants h1]
   simp only [if_true]
   left
   rw [ho] at h2
   injection h2 with h2
   subst h2
   exact h3.out a w ⟨hev,hsat⟩ o rfl rfl K _ fun v' w' H' hc hx hs=>hK _ _ (hc.1 ▸ stay v w' h0 hx (hs.mono hc.2))
def treeOk (n:Nat) (tab:List Row) (all:List Nat) (S:Scr):Bool:=tabOk tab && gdIn tab && scT tab all [] S && tab.all (fun r=>match r.dst with|none=>true|some d=>Nat.blt d n)
theorem st_tree {id:Nat} (e0:Ev) (tab:List Row) (all:List Nat) (S:Scr) (hm:P.follows .mixedOrders=true) (he:Covers e e0) (hrows:l.map (fun o=>(o.dst,edgesOf o,o.guard))=tab.map (fun r=>(r.dst,r.edges,r.guard)))
  (hok:treeOk n tab all S=true) (h:Wt P n e0 tab l (fun E H'=>Nx P k n (E++e) W H') S [] H):St P (.region id l.toArray true) k n e W H :=
 ⟨fun a w ho=>by
  simp only [treeOk,Bool.and_eq_true] at hok
  obtain ⟨⟨⟨ht,hin⟩,hsc⟩,hdst⟩:=hok
  have hlen:l.length=tab.length:=by simpa using congrArg List.length hrows
  obtain ⟨f1,f2,f3⟩:=tabOk.facts ht
  have hself:∀ i,i ∉ cloAt tab i:=by
   intro j hj
   cases hs:tab[j]? with
   | none=>simp [cloAt,hs] at hj
   | some s=>have:=f2 j s hs j (by simpa [cloAt,hs] using hj);omega
  have hgd:∀ i j b,gdAt tab i=some (j,b)→j∈cloAt tab i:=by
   intro i j b h
   obtain ⟨⟨s,hs,hj⟩,_⟩:=f3 i j b h
   have:=List.all_eq_true.1 hin s (List.mem_of_getElem? hs)
   simp only [List.all_eq_true,List.contains_eq_mem,decide_eq_true_eq] at this
   simpa [cloAt,hs] using this j hj
  obtain ⟨E,hst,_⟩:=wt_open f1 hgd hself hsc (by simp [look]) h
  refine wp_region_any hm ?_
  refine b9Y ht hrows (Mid3 P n e e0 tab l (fun E H'=>Nx P k n (E++e) W H') W all) (fun D i r hcl hi hr hre a w hm K hK=>mid3_step he ht hin hrows hdst hcl hi hr hre hm K hK) (fun D a w hall hm=>?_) _ _ [] _ _ List.nodup_nil (by simp) (by simp) (by simp) (fun i hi=>by simp [hi]) (Nat.le_trans (List.length_filter_le _ _) (by simp))
   ⟨ho.ev.size,ho.ev.defers,ho.ext.drew,fun t v hl _=>ho.ev.get t v hl,[],S,E,H,hst,ho.sat,by simp,by simp,by simp⟩
  obtain ⟨done,s,E,H,hst,hsat,hdD,hDd,hat⟩:=hm.at_
  have hnx:=hst.next
  have hfin:s.chs=[]:=by
   cases hc:s.chs with
   | nil=>rfl
   | cons c cs =>
    have hin2:=c2A hst.script (c:=c) (by rw [hc];simp)
    exact absurd (hDd c hin2.1 (hall c (by have:=scT_lt hst.script (c:=c) (by rw [hc];simp);omega))) hin2.2
  have hnx:=nextT_fin hfin hnx
  refine Nx.out hnx a w ⟨⟨hm.size,hm.defers,fun t v hl=>?_⟩,hm.ext,hsat⟩
  rcases a6U _ _ t v hl with hl|⟨hn,hl⟩
  ·obtain ⟨i,hi,hid⟩:=hst.dom t v hl
   obtain ⟨u,hu,hu'⟩:=hat i (hall i (by omega)) t hid
   rw [hl] at hu
   injection hu with hu
   exact hu ▸ hu'
  ·refine hm.keep t v hl fun i hi hd=>?_
   have hit:i<tab.length:=by
    cases hs:tab[i]? with
    | none=>simp [dstAt,hs] at hd
    | some s=>exact (List.getElem?_eq_some_iff.1 hs).1
   obtain ⟨u,hu,_⟩:=hat i hi t hd
   rw [hn] at hu
   cases hu⟩
end
section
variable {P:Program} {n:Nat} {e:Ev} {tab:List Row} {l:List Oper} {H:List Hl} {ps rs:List Nat} {i c1 c2 c3:Nat} {n1 n2 n3 nx:Scr} {E:Ev} {Fin:Ev→List Hl→Prop}
theorem wt_end (h:OpenP P n e tab l H ps E fun E'=>ReP P n e tab l H E' rs∧Fin E' H):Wt P n e tab l Fin (.fin ps rs) E H:=h
theorem wt_ch (h:OpenP P n e tab l H ps E fun E'=>ReP P n e tab l H E' rs∧((gdOff tab i E'∧Wt P n e tab l Fin nx (addE tab i undef E') H)∨Op1 P n e tab l i E' H fun v H'=>Wt P n e tab l Fin nx (addE tab i v E') H')):Wt P n e tab l Fin (.step ps rs i nx) E H:=h
theorem wt_alt (h:OpenP P n e tab l H ps E fun E'=>ReP P n e tab l H E' rs∧(((gdOff tab c1 E'∧Wt P n e tab l Fin n1 (addE tab c1 undef E') H)∨Op1 P n e tab l c1 E' H fun v H'=>Wt P n e tab l Fin n1 (addE tab c1 v E') H') ∧
   ((gdOff tab c2 E'∧Wt P n e tab l Fin n2 (addE tab c2 undef E') H)∨Op1 P n e tab l c2 E' H fun v H'=>Wt P n e tab l Fin n2 (addE tab c2 v E') H'))):Wt P n e tab l Fin (.alt ps rs c1 n1 c2 n2) E H:=h
theorem wt_alt3 (h:OpenP P n e tab l H ps E fun E'=>ReP P n e tab l H E' rs∧(((gdOff tab c1 E'∧Wt P n e tab l Fin n1 (addE tab c1 undef E') H)∨Op1 P n e tab l c1 E' H fun v H'=>Wt P n e tab l Fin n1 (addE tab c1 v E') H') ∧
   ((gdOff tab c2 E'∧Wt P n e tab l Fin n2 (addE tab c2 undef E') H)∨Op1 P n e tab l c2 E' H fun v H'=>Wt P n e tab l Fin n2 (addE tab c2 v E') H') ∧
   ((gdOff tab c3 E'∧Wt P n e tab l Fin n3 (addE tab c3 undef E') H)∨Op1 P n e tab l c3 E' H fun v H'=>Wt P n e tab l Fin n3 (addE tab c3 v E') H'))):Wt P n e tab l Fin (.alt3 ps rs c1 n1 c2 n2 c3 n3) E H:=h
variable {d:Nat} {op:Op} {ty:TypeId} {dst:Option Nat} {pos:String} {af:Array Edge} {g:Option (Nat × Bool)} {E':Ev}
theorem ct_run (hd:dstAt tab i=some d) (hg:gdRun tab i E) (ho:l[i]?=some ⟨dst,op,ty,pos,af,g⟩) (hc:Covers (envI tab e i E) E') (h:O1 P op ty n E' H fun v H'=>Wt P n e tab l Fin nx ((d,v)::E) H'):(gdOff tab i E∧Wt P n e tab l Fin nx (addE tab i undef E) H)∨Op1 P n e tab l i E H fun v H'=>Wt P n e tab l Fin nx (addE tab i v E) H' :=
 .inr ⟨hg,_,ho,by simp only [b0S hd];exact h.cov hc⟩
theorem ct_run_no (hd:dstAt tab i=none) (hg:gdRun tab i E) (ho:l[i]?=some ⟨dst,op,ty,pos,af,g⟩) (hc:Covers (envI tab e i E) E') (h:O1 P op ty n E' H fun _ H'=>Wt P n e tab l Fin nx E H'):(gdOff tab i E∧Wt P n e tab l Fin nx (addE tab i undef E) H)∨Op1 P n e tab l i E H fun v H'=>Wt P n e tab l Fin nx (addE tab i v E) H' :=
 .inr ⟨hg,_,ho,by simp only [addE_none hd];exact h.cov hc⟩
end
theorem c1X {P:Program} {k:Kon} {n:Nat} {e:Ev} {W:World} {H:List Hl} {co:Code} {X:Type} (e0:X→Ev) (H0:X→List Hl) (h:∀ x,Nx P k n (e0 x) W (H0 x)) (r:(∀ x e' H',Covers e' (e0 x)→Ent H' (H0 x)→Nx P k n e' W H')→St P co k n e W H):St P co k n e W H :=
 r fun x _ _ hc hE=>⟨fun a w ho=>(h x).out a w ⟨ho.ev.covers hc,ho.ext,ho.sat.mono hE.out⟩⟩
theorem ls_guard_un {P:Program} {ops:Array Oper} {k:Kon} {rest:List Oper} {n:Nat} {e:Ev} {W:World} {H:List Hl} {d:Nat} {ty:TypeId} {pos:String} {af:Array Edge} {op:Op} {j:Nat} {b:Bool} {t:Nat} (hd:Nat.blt d n=true) (hj:(ops[j]?).bind (·.dst)=some t) (hl:look e t=some undef) (h:Ls P ops k rest n ((d,undef)::e) W H) :
  Ls P ops k (⟨some d,op,ty,pos,af,some (j,b)⟩::rest) n e W H :=
 ⟨fun a w ho=>by
  have hy:yielded ops a.tmps j=none:=by simp [yielded,hj,ho.ev.get t _ hl,undef]
  have:((none:Option Bool) == some b)=false:=rfl
  unfold wpList
  simp only [Region.wanted,hy,this]
  exact h.out _ _ ⟨ho.ev.put hd undef,ho.ext,ho.sat⟩⟩
theorem a1C {P:Program} {n:Nat} {H:List Hl} {e:Ev} {C:Value→List Hl→Prop} {ty:TypeId} {x y:Operand} {T E:TypeId} {z:Value} {by_:Nat} {p:Int} {kd:IntKind} {b o m s:Nat} (i o':Nat) [ht:TArr P T m E] [hi:TInf P E z s by_] (hx:opd e x=some (.pointer (some ⟨b,o,none⟩))) (hy:opd e y=some (.int kd p)) (hp:p=i) (hlt:i<m) (ho:o'=o+i*s)
  (h:C (.pointer (some ⟨b,o',none⟩)) H):O1 P (.indexAddr T x y) ty n e H C :=
 a6V hx hy (by omega) (by
  subst hp ho
  simpa using h)
section
variable {P:Program} {n:Nat} {e:Ev} {tab:List Row} {l:List Oper} {H:List Hl} {ps rs:List Nat} {i d j dj:Nat} {b:Bool} {E:Ev} {v:Value} {C:Ev→Prop} {op:Op} {ty:TypeId} {dst:Option Nat} {pos:String} {af:Array Edge} {g:Option (Nat × Bool)} {Q:Prop}
theorem fz {v:Value} {H:List Hl}:v=v∧∀ h,stars H h→stars H h:=⟨rfl,fun _ h=>h⟩
end
theorem a7X {P:Program} {n:Nat} {H:List Hl} {e:Ev} {C:Value→List Hl→Prop} {ty:TypeId} {x y:Operand} {T E:TypeId} {z:Value} {by_:Nat} {p:Int} {kd:IntKind} {m s:Nat} {vs ws:List Value} (i:Nat) [ht:TArr P T m E] [TAgg P E] [hi:TInf P E z s by_] (hx:opd e x=some (.agg vs.toArray)) (hy:opd e y=some (.int kd p)) (hp:p=i) (hlt:i<m) (hv:(vs.drop (i*s)).take s=ws)
  (h:C (.agg ws.toArray) H):O1 P (.index T x y) ty n e H C :=
 a1U _ (fun a w ho=>by
  subst hp hv
  simp [execOp,ho.ev.eval hx,ho.ev.eval hy,Instr.index,asIntOf,run_underlying ht.u,hlt,a1L,part,a4Q,Nat.add_sub_cancel_left,List.extract]) h
theorem b5T {P:Program} {k:Kon} {n:Nat} {e:Ev} {W:World} {H:List Hl} {co:Code} {X:Type} (e0:X→Ev) (H0:X→List Hl) (h:∀ x,Nx P k n (e0 x) W (H0 x)) (r:∀ k',(∀ x e' H',Covers e' (e0 x)→Ent H' (H0 x)→Nx P k' n e' W H')→St P co k' n e W H):St P co k n e W H :=
 r k fun x _ _ hc hE=>⟨fun a w ho=>(h x).out a w ⟨ho.ev.covers hc,ho.ext,ho.sat.mono hE.out⟩⟩
theorem b1D {P:Program} {n:Nat} {H:List Hl} {e:Ev} {C:Value→List Hl→Prop} {ty:TypeId} {x y:Operand} {α:Type} {enc:α→Value} {T E:TypeId} {z:Value} {by_:Nat} {ad ad':Option Addr} {c c':Nat} {xs ys:List α} {H':List Hl} [TSl P T E] [TInf P E z 1 by_] (hx:opd e x=some (.slice ad xs.length c)) (hy:opd e y=some (.slice ad' ys.length c'))
  [s:SRow H ad c xs.length E (xs.map enc) H'] (hr:RsH H enc ad' c' ys) (hz:z.oneCell'=true) (henc:∀ x,(enc x).oneCell'=true) (hb:(xs.length+ys.length)*by_≤140737488355328) (hb2:xs.length+ys.length≤9223372036854775807)
  (h:∀ ad2 c2,C (.slice ad2 (xs++ys).length c2) (.row E 1 (.slice ad2 (xs++ys).length c2) (xs++ys).length ((xs++ys).map enc)::H')) :
  O1 P (.call ⟨.builtin .append, #[x,y], #[T,T]⟩) ty n e H C:=a1H hx hy hr rfl hz henc hb hb2 (fun ad2 c2=>by
 have:=h ad2 c2
 rwa [List.length_append] at this)
structure XFn (P:Program) (f:FuncId) (g:Array Value→Sem Value):Prop where
 h:(P.funcs[f]?).map (fun fn=>(fn.name == "runtime.NumGoroutine",fn.body.isNone,(Extern.findNext fn).isNone))=some (false,true,true)
 e:(P.funcs[f]?).bind (fun fn=>Extern.find fn)=some g
theorem XFn.of {P:Program} {f:FuncId} {g:Array Value→Sem Value} (x:XFn P f g):∃ fn,P.funcs[f]?=some fn∧(fn.name == "runtime.NumGoroutine")=false∧fn.body.isNone=true∧Extern.findNext fn=none∧Extern.find fn=some g:=by
 have h:=x.h
 have he:=x.e
 cases hf:P.funcs[f]? with
 | none=>simp [hf] at h
 | some fn =>
  simp only [hf,Option.map_some,Option.some.injEq,Prod.mk.injEq] at h
  simp only [hf,Option.bind_some] at he
  exact ⟨fn,rfl,h.1,h.2.1,by simpa using h.2.2,he⟩
section
variable {P:Program} {n:Nat} {H:List Hl} {e:Ev} {C:Value→List Hl→Prop} {ty:TypeId}
variable {f:FuncId} {xs:List Operand} {ats:Array TypeId} {b i:Nat} {T:TypeId} {cs:List Value} {H':List Hl} {k:IntKind} {p q:Int}
theorem b6F {args:List Value} (v:Value) (hxs:opds e xs=some args) (hr:∀ a w,Ok1 n e H a w→(callFunc f args.toArray).run P w = .ok (.value v) w) (h:C v H):O1 P (.call ⟨.value (.func f),xs.toArray,ats⟩) ty n e H C :=
 a1U v (fun a w ho=>by
  have hargs:=ho.ev.evals hxs
  simp [execOp,resolve,invoke,Deferred.ofValue,Act.eval,hargs,hr a w ho]) h
theorem o1_xload (x:XFn P f (Extern.Atomic.loadT (.int k))) (hxs:opds e xs=some [.pointer (some ⟨b,i,none⟩)]) [s:SBox H b T cs H'] (hv:cs[i]?=some (.int k p)) (h:C (.int k p) H):O1 P (.call ⟨.value (.func f),xs.toArray,ats⟩) ty n e H C :=
 b6F _ hxs (fun a w ho=>by
  obtain ⟨fn,h1,h2,h3,h4,h5⟩:=x.of
  have hc:=ho.sat.cell s.s i
  rw [hv] at hc
  exact run_call_load h1 h2 h3 h4 k h5 hc) h
theorem b8U {args:List Value} {v r:Value} (hxs:opds e xs=some args) (hi:i<cs.length) [s:SBox H b T cs H'] (hr:∀ a w,Ok1 n e H a w→w.cell? ⟨b,i,none⟩=some cs[i]→w.frozen? ⟨b,i,none⟩=false→(callFunc f args.toArray).run P w = .ok (.value r) (w.setCell ⟨b,i,none⟩ v))
  (h:C r (.box b T (cs.set i v)::H')):O1 P (.call ⟨.value (.func f),xs.toArray,ats⟩) ty n e H C:=by
 obtain ⟨H2,u1,u2⟩:=s.s.upd (.box b T (cs.set i v))
 have k0:O1 P (.call ⟨.value (.func f),xs.toArray,ats⟩) ty n e H (fun v' K=>v'=r∧K=H2):=a6E fun a w ho=>by
  have hargs:=ho.ev.evals hxs
  have hc:w.cell? ⟨b,i,none⟩=some cs[i]:=by rw [ho.sat.cell s.s i];simp [hi]
  refine ⟨r,w.setCell ⟨b,i,none⟩ v,?_,H2,⟨rfl,rfl⟩,(Ext.refl w).setCell _ _,ho.sat.set_ i v u1⟩
  simp [execOp,resolve,invoke,Deferred.ofValue,Act.eval,hargs,hr a w ho hc (ho.sat.free s.s i)]
 exact k0.post fun v' K hK=>⟨_,hK.1 ▸ h,hK.2 ▸ u2⟩
theorem b6G (x:XFn P f Extern.Atomic.storeT) (hxs:opds e xs=some [.pointer (some ⟨b,i,none⟩),.int k q]) [s:SBox H b T cs H'] (hi:i<cs.length) (h:C (.tuple #[]) (.box b T (cs.set i (.int k q))::H')):O1 P (.call ⟨.value (.func f),xs.toArray,ats⟩) ty n e H C :=
 b8U hxs hi (fun a w ho hc hz=>by
  obtain ⟨fn,h1,h2,h3,h4,h5⟩:=x.of
  exact run_call_store h1 h2 h3 h4 h5 hc hz) h
theorem o1_xcas_t (x:XFn P f (Extern.Atomic.casT (.int k))) (hxs:opds e xs=some [.pointer (some ⟨b,i,none⟩),.int k p,.int k q]) [s:SBox H b T cs H'] (hv:cs[i]?=some (.int k p)) (h:C (.bool true) (.box b T (cs.set i (.int k q))::H')):O1 P (.call ⟨.value (.func f),xs.toArray,ats⟩) ty n e H C:=by
 obtain ⟨hi,hv⟩:=List.getElem?_eq_some_iff.mp hv
 exact b8U hxs hi (fun a w ho hc hz=>by
  obtain ⟨fn,h1,h2,h3,h4,h5⟩:=x.of
  rw [hv] at hc
  exact run_call_cas_hit h1 h2 h3 h4 k h5 hc hz) h
theorem o1_xcas_f {o:Int} (x:XFn P f (Extern.Atomic.casT (.int k))) (hxs:opds e xs=some [.pointer (some ⟨b,i,none⟩),.int k o,.int k q]) [s:SBox H b T cs H'] (hv:cs[i]?=some (.int k p)) (hne : ¬ p=o) (h:C (.bool false) H):O1 P (.call ⟨.value (.func f),xs.toArray,ats⟩) ty n e H C :=
 b6F _ hxs (fun a w ho=>by
  obtain ⟨fn,h1,h2,h3,h4,h5⟩:=x.of
  have hc:=ho.sat.cell s.s i
  rw [hv] at hc
  exact run_call_cas_miss h1 h2 h3 h4 k h5 hc (ho.sat.free s.s i) hne) h
theorem o1_xadd {r:Int} (x:XFn P f (Extern.Atomic.update (Op.intArith .add) k true)) (hxs:opds e xs=some [.pointer (some ⟨b,i,none⟩),.int k q]) [s:SBox H b T cs H'] (hv:cs[i]?=some (.int k p)) (hr:k.wrap (p+q)=r) (h:C (.int k r) (.box b T (cs.set i (.int k r))::H')):O1 P (.call ⟨.value (.func f),xs.toArray,ats⟩) ty n e H C:=by
 obtain ⟨hi,hv⟩:=List.getElem?_eq_some_iff.mp hv
 exact b8U hxs hi (fun a w ho hc hz=>by
  obtain ⟨fn,h1,h2,h3,h4,h5⟩:=x.of
  rw [hv] at hc
  exact run_call_add h1 h2 h3 h4 k h5 hc hz (by simp [Op.intArith,hr])) h
end
theorem sat.cl {w:World} {H H':List Hl} {b i:Nat} {T:TypeId} {cs:List Value} {v:Value} [s:SBox H b T cs H'] (h:sat w (stars H)) (hv:cs[i]?=some v):w.cell? ⟨b,i,none⟩=some v:=by
 rw [h.cell s.s i];exact hv
theorem a1M {H H':List Hl} {b i:Nat} {T:TypeId} {cs:List Value} {v:Value} [s:SBox H b T cs H'] (hv:cs[i]?=some v):Cl (stars H) ⟨b,i,none⟩ v:=⟨fun w hw=>sat.cl hw hv⟩
theorem cl_up {A:Hp→Prop} {H H':List Hl} {p:Addr} {v:Value} [s:SAny H A H'] (h:Cl A p v):Cl (stars H) p v:=⟨fun w hw=>h.cell w (a6B s.s w hw)⟩
section
variable {P:Program} {n:Nat} {H:List Hl} {e:Ev} {C:Value→List Hl→Prop} {ty t T:TypeId} {x y:Operand} {p q:Option Addr}
theorem pointee_of {E:TypeId} (h:TPtr P T E):P.underlying T=some (.pointer (P.pointee T)):=by
 have hu:=h.u
 simp [Program.pointee,hu]
theorem a0S {E:TypeId} [ht:TPtr P T E] (hx:opd e x=some (.pointer p)) (hy:opd e y=some (.pointer none)) (h:C (.bool p.isNone) H):O1 P (.binOp .eql T x y t) ty n e H C :=
 a1U _ (fun a w ho=>by
  have h1:=run_eql_pointer_nil (P:=P) w T p (pointee_of ht)
  simp only [execOp,ho.ev.eval hx,ho.ev.eval hy,eqGuard_at_pointer,Sem.run_bind,Sem.run_pure,Result.andThen_ok,h1]) h
theorem a4N {E:TypeId} [ht:TPtr P T E] (hx:opd e x=some (.pointer p)) (hy:opd e y=some (.pointer none)) (h:C (.bool (!p.isNone)) H):O1 P (.binOp .neq T x y t) ty n e H C :=
 a1U _ (fun a w ho=>by
  have h1:=run_neq_pointer_nil (P:=P) w T p (pointee_of ht)
  simp only [execOp,ho.ev.eval hx,ho.ev.eval hy,eqGuard_at_pointer,Sem.run_bind,Sem.run_pure,Result.andThen_ok,h1]) h
theorem a4I {X:Type} {fn:Func} {W:World} {good:X→Prop} {val:X→Value} {res:X→List Hl} (r:X) (hres:fn.results = #[]) (hv : .tuple #[]=val r) (hg:good r) (hE:Ent H (res r)) :
  Rt P (.fn fn fun x w'=>∃ r,good r∧x = .returned (val r)∧Ext W w'∧sat w' (stars (res r))) n e W H :=
 rt_fn (v := .tuple #[]) (fun a w ho=>by simp [results,hres]) r hg hv hE
theorem b6K {f:FuncId} {xs:List Operand} {vs:List Value} (hxs:opds e xs=some vs) (h:C (.func (.func f) #[] vs.toArray) H):O1 P (.makeFunc (.func f) #[] xs.toArray) ty n e H C :=
 a1U _ (fun a w ho=>by
  have hargs:=ho.ev.evals hxs
  simp [execOp,Instr.makeFunc,hargs]) h
theorem a6G {f:FuncId} {xs:List Operand} {args caps:List Value} {ats:Array TypeId} {X:Type} {good:X→Prop} {val:X→Value} {res:X→List Hl} (hx:opd e x=some (.func (.func f) #[] caps.toArray)) (hs:Has H→Spec P f (args++caps) H good val res) (hxs:opds e xs=some args)
  (h:∀ r,good r→C (val r) (res r)):O1 P (.call ⟨.value x,xs.toArray,ats⟩) ty n e H C :=
 ⟨fun a w ho o h1 h2 K Q hK=>by
  have hs:=hs ho.has
  have hc:=hs.calls w ho.sat
  have hargs:=ho.ev.evals hxs
  have hr:(execOp a.eval ⟨none,.call ⟨.value x,xs.toArray,ats⟩,ty, "", #[],none⟩).run P w = .ok (.enter f (args++caps).toArray) w:=by
   have h3:(callFunc f (args.toArray++caps.toArray)).run P w = .ok (.enter f (args++caps).toArray) w:=by
    rw [List.append_toArray];exact b2O hs.enters
   simp [execOp,resolve,invoke,Deferred.ofValue,ho.ev.eval hx,hargs]
   simpa using h3
  subst h2
  unfold Oper.wp
  rw [b0K,h1,hr]
  refine hc.mono ?_
  rintro x w' ⟨r,hg,rfl,hx,hsat⟩
  exact hK _ _ _ (h r hg) hx hsat⟩
theorem b4I (b:Nat) (ad:Option Addr) (c:Nat) {f:FuncId} {xs:List Operand} {args:List Value} {ats:Array TypeId} {X:Type} {good:X→Prop} {val:X→Value} {res:X→List Hl} {m:Nat} {T T2:TypeId} {cs ys:List Value} {H' H2:List Hl} [s:SBox H b T cs H'] [s2:SRow H' ad c m T2 ys H2]
  (hs:Has (.box b T cs :: .row T2 1 (.slice ad m c) m ys::H2)→Spec P f args (.box b T cs :: .row T2 1 (.slice ad m c) m ys::H2) good val res) (hxs:opds e xs=some args) (h:∀ r,good r→C (val r) (res r)):O1 P (.call ⟨.value (.func f),xs.toArray,ats⟩) ty n e H C :=
 O1.ent (H2 := .box b T cs :: .row T2 1 (.slice ad m c) m ys::H2) (fun h hh=>a0U (s.s.out h hh) (fun _ a=>a) (s2.s.out)) (a0A hs hxs h)
theorem a4S {α:Type} {A:Hp→Prop} {enc:α→Value} {ad:Option Addr} {c:Nat} {xs:List α} (i:Nat) (v:α) {T:TypeId} [TOne P T] {H':List Hl} (hx:opd e x=some (.pointer (some (idxA ad i)))) (hr:Rs A enc ad c xs) (hv:xs[i]?=some v) [s:SAny H A H'] (h:C (enc v) H):O1 P (.load T x) ty n e H C:=by
 obtain ⟨hl,hv⟩:=List.getElem?_eq_some_iff.mp hv
 exact a1F i hx hr hl (by rw [hv];exact h)
theorem a1T {α:Type} {enc:α→Value} {ad:Option Addr} {c:Nat} {xs:List α} (i:Nat) (v:α) {T:TypeId} [TOne P T] (hx:opd e x=some (.pointer (some (idxA ad i)))) (hr:RsH H enc ad c xs) (hv:xs[i]?=some v) (h:C (enc v) H):O1 P (.load T x) ty n e H C:=by
 obtain ⟨hl,hv⟩:=List.getElem?_eq_some_iff.mp hv
 exact a1P i hx hr hl (by rw [hv];exact h)
end
section
variable {P:Program} {n:Nat} {H:List Hl} {e:Ev} {C:Value→List Hl→Prop} {ty:TypeId} {x y:Operand}
end
def w2 {α:Type} (f g:α→Value) (l:List α):List Value:=l.flatMap (fun x=>[f x,g x])
theorem w2_len {α:Type} (f g:α→Value) (l:List α):(w2 f g l).length=l.length*2:=by
 induction l with
 | nil=>rfl
 | cons x l ih=>simp only [w2,List.flatMap_cons,List.length_append,List.length_cons,List.length_nil] at ih ⊢;omega
theorem w2_snoc {α:Type} (f g:α→Value) (l:List α) (x:α):w2 f g (l++[x])=w2 f g l++[f x,g x]:=by simp [w2]
theorem w2_at {α:Type} (f g:α→Value):∀ (l:List α) (i:Nat) (x:α),l[i]?=some x→(w2 f g l)[i*2]?=some (f x)∧(w2 f g l)[i*2+1]?=some (g x)
 | [],i,x,h=>by simp at h
 | y::l,0,x,h=>by
  simp at h
  subst h
  exact ⟨rfl,rfl⟩
 | y::l,i+1,x,h=>by
  simp at h
  obtain ⟨h1,h2⟩:=w2_at f g l i x h
  have e:w2 f g (y::l)=f y::g y::w2 f g l:=rfl
  rw [e,show (i+1)*2=i*2+1+1 by omega]
  exact ⟨h1,h2⟩
structure R2 {α:Type} (A:Hp→Prop) (f g:α→Value) (ad:Option Addr) (c:Nat) (l:List α):Prop where
 le:l.length≤c
 big:c≤9223372036854775807
 sm:0<l.length→∃ a,ad=some a
 cell:∀ w,sat w A→∀ a,ad=some a→∀ i x,l[i]?=some x→w.cell? (a.add (i*2))=some (f x)∧w.cell? (a.add (i*2+1))=some (g x)
theorem R2.of_row {α:Type} {H H':List Hl} {T:TypeId} {f g:α→Value} {ad:Option Addr} {n c:Nat} {l:List α} (s:Sel H (.row T 2 (.slice ad n c) n (w2 f g l)) H') (hh:Has H):R2 (stars H) f g ad c l:=by
 have key:∀ w,sat w (stars H)→w.ownsRow 0 T 2 (.slice ad n c) n (w2 f g l):=fun w hw=>hw.own s
 obtain ⟨w0,hw0⟩:=hh
 have h0:=key w0 hw0
 have hl:l.length=n:=by have:=h0.1;rw [w2_len] at this;omega
 refine ⟨?_,?_,?_,?_⟩
 ·rcases h0.2 with ⟨hv,hn⟩|⟨gb,cap,cur,hv,_,_,h3,h4,_⟩
  ·injection hv with h1 h2 h3
   omega
  ·injection hv with h1 h2 h3
   omega
 ·rcases h0.2 with ⟨hv,hn⟩|⟨gb,cap,cur,hv,_,_,h3,h4,_⟩
  ·injection hv with h1 h2 h3
   omega
  ·injection hv with h1 h2 h3
   subst h3
   simpa [maxLen] using h4
 ·intro hp
  rcases h0.2 with ⟨hv,hn⟩|⟨gb,cap,cur,hv,_⟩
  ·omega
  ·injection hv with h1 h2 h3
   exact ⟨_,h1⟩
 ·intro w hw a ha i x hx
  rcases (key w hw).2 with ⟨hv,hn⟩|⟨gb,cap,cur,hv,_,hb,_,_,hsz,hcur⟩
  ·injection hv with h1 h2 h3
   rw [h1] at ha;cases ha
  ·injection hv with h1 h2 h3
   rw [h1] at ha
   injection ha with ha
   subst ha
   have hi:i<l.length:=(List.getElem?_eq_some_iff.1 hx).1
   obtain ⟨e1,e2⟩:=w2_at f g l i x hx
   have cell:∀ j v,(w2 f g l)[j]?=some v→w.cell? ((Addr.mk gb 0 none).add j)=some v:=fun j v hj=>by
    have hj2:j<n*2:=by
     have:=(List.getElem?_eq_some_iff.1 hj).1
     rw [w2_len] at this;omega
    rw [←hcur,List.getElem?_take,if_pos hj2] at hj
    have e:(Addr.mk gb 0 none).add j=⟨gb,j,none⟩:=by
     by_cases h0:j=0
     ·subst h0;simp [Addr.add]
     ·simp [Addr.add,h0]
    rw [e]
    simpa [World.cell?,hb] using hj
   exact ⟨cell _ _ e1,cell _ _ e2⟩
section
variable {P:Program} {n:Nat} {H:List Hl} {e:Ev} {C:Value→List Hl→Prop} {ty:TypeId} {x y:Operand} {α:Type} {A:Hp→Prop} {f g:α→Value} {T E:TypeId} {z:Value} {by_:Nat} {p:Int} {kd:IntKind} {ad:Option Addr} {c l0:Nat} {xs:List α}
theorem o1_iaw (i:Nat) [ht:TSl P T E] [hi:TInf P E z 2 by_] (hx:opd e x=some (.slice ad l0 c)) (hy:opd e y=some (.int kd p)) (hr:R2 A f g ad c xs) (h0:l0=xs.length) (hp:p=i) (hl:i<xs.length)
  (h:C (.pointer (some (idxA ad (i*2)))) H):O1 P (.indexAddr T x y) ty n e H C:=by
 obtain ⟨a0,rfl⟩:=hr.sm (by omega)
 subst hp h0
 refine a1U _ (fun a w ho=>?_) h
 simp [execOp,ho.ev.eval hx,ho.ev.eval hy,Instr.indexAt,asIntOf,run_underlying ht.u,hl,a1L,idxA]
theorem o1_load_iaw (i:Nat) (v:α) {T:TypeId} {z:Value} {by_:Nat} [TAgg P T] [TInf P T z 2 by_] {H':List Hl} (hx:opd e x=some (.pointer (some (idxA ad (i*2))))) (hr:R2 A f g ad c xs) (hv:xs[i]?=some v) [s:SAny H A H'] (h:C (.agg #[f v,g v]) H):O1 P (.load T x) ty n e H C:=by
 have hl:i<xs.length:=(List.getElem?_eq_some_iff.1 hv).1
 obtain ⟨a0,rfl⟩:=hr.sm (by omega)
 refine a1U _ (fun a w ho=>?_) h
 obtain ⟨c1,c2⟩:=hr.cell w (a6B s.s w ho.sat) a0 rfl i v hv
 have hload:=run_loadCells_list (P:=P) w (idxA (some a0) (i*2)) [f v,g v] (fun j u hj=>by
  have hadd:(idxA (some a0) (i*2)).add j=a0.add (i*2+j):=c0A a0 (i*2) j
  rw [hadd]
  match j,hj with
  | 0,hj=>injection hj with hj;rw [←hj];exact c1
  | 1,hj=>injection hj with hj;rw [←hj];exact c2
  | j+2,hj=>cases hj)
 have hload:(loadCells (idxA (some a0) (i*2)) 2).run P w = .ok #[f v,g v] w:=hload
 simp [execOp,ho.ev.eval hx,Instr.loadAt,Instr.sureAddr,loadVar,a4Q,a1L,hload]
theorem b8Z {ps:List (Nat × Operand)} {a b:Value} [ht:TSl P T E] [hi:TInf P E z 2 by_] (hps:opdi e ps=some [(0,.agg #[a,b])]) (hz:z.cells.size=2)
  (h:∀ bx,C (.slice (some ⟨bx,0,none⟩) 1 1) (.box bx E [a,b]::H)):O1 P (.buildSlice T 1 ps.toArray) ty n e H C:=by
 refine o1_buildSlice hps (fun w=>?_) h
 have key:∀ (Z:Array Value),Z.size=2→(Z.setIfInBounds 0 a).setIfInBounds 1 b = #[a,b]:=fun Z hZ=>by
  obtain ⟨l⟩:=Z
  match l,hZ with
  | [p,q],_=>rfl
 simp [Instr.buildSlice,run_underlying ht.u,a1L,Instr.fill,newRow,a9B,Value.cells]
 rw [key _ (by simp)]
class SRw2 (H:List Hl) (ad:Option Addr) (c:Nat) (n:outParam Nat) (T:outParam TypeId) (xs:outParam (List Value)) (H':outParam (List Hl)):Prop where s:Sel H (.row T 2 (.slice ad n c) n xs) H'
instance srw2_here {ad:Option Addr} {n c:Nat} {T:TypeId} {xs:List Value} {H:List Hl}:SRw2 (.row T 2 (.slice ad n c) n xs::H) ad c n T xs H:=⟨.here⟩
instance (priority:=low) srw2_there {ad:Option Addr} {n c:Nat} {T:TypeId} {xs:List Value} {y:Hl} {H H':List Hl} [h:SRw2 H ad c n T xs H']:SRw2 (y::H) ad c n T xs (y::H'):=⟨.there h.s⟩
theorem b1W {ad:Option Addr} {c b a0:Nat} {T':TypeId} {y0:α} {H' H2:List Hl} [ht:TSl P T E] [hi:TInf P E z 2 by_] (hx:opd e x=some (.slice ad a0 c)) (hy:opd e y=some (.slice (some ⟨b,0,none⟩) 1 1))
  [sr:SRw2 H ad c a0 E (w2 f g xs) H'] [sb:SBox H b T' [f y0,g y0] H2] (hz:z.cells.size=2) (h1:(f y0).oneCell'=true) (h2:(g y0).oneCell'=true) (hb:(a0+1)*by_≤140737488355328) (hb2:a0+1≤9223372036854775807)
  (h:∀ ad2 c2,C (.slice ad2 (a0+1) c2) (.row E 2 (.slice ad2 (a0+1) c2) (a0+1) (w2 f g (xs++[y0]))::H')) :
  O1 P (.call ⟨.builtin .append, #[x,y], #[T,T]⟩) ty n e H C :=
 a6E fun a w ho=>by
  have s:=sr.s
  obtain ⟨i,hi0,hiz,his,hib⟩:=hi.info
  have hown:=ho.sat.own s
  obtain ⟨v',w',hrun,g2,g3,_,g5⟩:=run_append_own_at (P:=P) w 0 T ty E i z 2 by_ ht.u hi0 hiz his hib hz (by omega) _ _ _ hown ⟨b,0,none⟩ 1 1 [f y0,g y0] rfl
   (fun j u hj=>by
    have hc:=ho.sat.cell sb.s j
    have e:(Addr.mk b 0 none).add j=⟨b,j,none⟩:=by
     by_cases h0:j=0
     ·subst h0;simp [Addr.add]
     ·simp [Addr.add,h0]
    rw [e,hc]
    exact hj)
   (fun u hu=>by
    rcases List.mem_cons.1 hu with rfl|hu
    ·exact h1
    ·obtain rfl:u=g y0:=by simpa using hu
     exact h2) (by simp only [maxLen];omega) hb (by omega)
  have hv:∃ ad2 c2,v' = .slice ad2 (a0+1) c2:=by
   rcases g2.2 with ⟨rfl,hn⟩|⟨gb,cap,cur,rfl,_⟩
   ·omega
   ·exact ⟨_,_,rfl⟩
  obtain ⟨ad2,c2,rfl⟩:=hv
  rw [←w2_snoc] at g2
  refine ⟨_,w',?_,_,h ad2 c2,⟨g3.os,g3.tape,g3.output,g3.size⟩,ho.sat.grown s g2 g3 g5⟩
  simp [execOp,resolve,invoke,builtin,ho.ev.eval hx,ho.ev.eval hy,hrun]
theorem ent_nil2 (T:TypeId) (f g:α→Value):∀ h,stars H h→stars (.row T 2 (.slice none 0 0) 0 (w2 f g ([]:List α))::H) h:=b2B T 2
end
theorem b3H (L R:List Hl):∀ h,stars (L++R) h→stars (.any (stars L)::R) h:=fun h hh=>a0X L R h hh
section
variable {P:Program} {k:Kon} {n:Nat} {e:Ev} {W:World} {H:List Hl} {co:Code}
theorem st_pack (L R:List Hl) (hE:Ent H (L++R)) (h:St P co k n e W (.any (stars L)::R)):St P co k n e W H:=a3J (fun x hx=>b3H L R x (hE.out x hx)) h
theorem nx_pack (L R:List Hl) (hE:Ent H (L++R)) (h:Nx P k n e W (.any (stars L)::R)):Nx P k n e W H:=b4Q (fun x hx=>b3H L R x (hE.out x hx)) h
theorem a4H (L R:List Hl) (hE:Ent H (L++R)) (h:Rt P k n e W (.any (stars L)::R)):Rt P k n e W H:=a2A (fun x hx=>b3H L R x (hE.out x hx)) h
theorem a0T {C:Value→List Hl→Prop} {ty:TypeId} (A:Hp→Prop) {f:FuncId} {xs:List Operand} {args:List Value} {ats:Array TypeId} {X:Type} {good:X→Prop} {val:X→Value} {res:X→List Hl} {H2:List Hl} [s:SAny H A H2]
  (hs:Has (.any A::H2)→Spec P f args (.any A::H2) good val res) (hxs:opds e xs=some args) (h:∀ r,good r→C (val r) (res r)):O1 P (.call ⟨.value (.func f),xs.toArray,ats⟩) ty n e H C :=
 O1.ent (H2 := .any A::H2) s.s.out (a0A hs hxs h)
end
theorem cwb {G G':Prop} (h:G') (s:G'→G:=by first
 | exact fun h=>ls_of rfl h
 | exact fun h=>ls_of_no h
 | exact fun h=>ls_guard_yes rfl rfl h
 | exact fun h=>ls_guard_no rfl rfl rfl rfl h
 | exact fun h=>ls_guard_un rfl rfl rfl h
 | exact fun h=>a6F rfl h
 | exact fun h=>b0I rfl h
 | exact fun h=>st_seq h
 | exact fun h=>st_region h
 | exact fun h=>st_skip h
 | exact fun h=>st_ret h
 | exact fun h=>st_exit h
 | exact fun h=>b5U rfl h
 | exact fun h=>b5V rfl h
 | exact fun h=>ls_nil h
 | exact fun h=>nx_seq h
 | exact fun h=>c0H h
 | exact fun h=>nx_fn h
 | exact fun h=>nx_rounds h
 | exact fun h=>xt_seq h
 | exact fun h=>xt_here h
 | exact fun h=>xt_on rfl h
 | exact fun h=>xt_rounds h
 | exact fun h=>xt_cut h
 | exact fun h=>rt_seq h
 | exact fun h=>rt_blk h
 | exact fun h=>rt_rounds h
 | exact fun h=>rt_cut h
 | fail):G:=s h
section
variable {P:Program} {ty T T2:TypeId} {x y z:Operand} {lo hi mx:Option Operand} {uo:UnOp} {q:Call} {us:Array (Nat × Operand)} {n m:Nat} {e:Ev} {H:List Hl} {C:Value→List Hl→Prop} {G A B:Prop} {BB:Value→Prop} {v:Value}
theorem q_move (h:G→∃ v,(O1 P (.move x) ty n e H fun v' H'=>v'=v∧∀ h,stars H' h→stars H h)∧BB v):G→∃ v,(O1 P (.move x) ty n e H fun v' H'=>v'=v∧∀ h,stars H' h→stars H h)∧BB v:=h
theorem q_assign (h:G→∃ v,(O1 P (.assign x) ty n e H fun v' H'=>v'=v∧∀ h,stars H' h→stars H h)∧BB v):G→∃ v,(O1 P (.assign x) ty n e H fun v' H'=>v'=v∧∀ h,stars H' h→stars H h)∧BB v:=h
theorem q_pick (h:G→∃ v,(O1 P (.pick x y z) ty n e H fun v' H'=>v'=v∧∀ h,stars H' h→stars H h)∧BB v):G→∃ v,(O1 P (.pick x y z) ty n e H fun v' H'=>v'=v∧∀ h,stars H' h→stars H h)∧BB v:=h
theorem f_pick (h:G→O1 P (.pick x y z) ty n e H C):G→O1 P (.pick x y z) ty n e H C:=h
theorem q_extract (h:G→∃ v,(O1 P (.extract x m) ty n e H fun v' H'=>v'=v∧∀ h,stars H' h→stars H h)∧BB v):G→∃ v,(O1 P (.extract x m) ty n e H fun v' H'=>v'=v∧∀ h,stars H' h→stars H h)∧BB v:=h
theorem f_extract (h:G→O1 P (.extract x m) ty n e H C):G→O1 P (.extract x m) ty n e H C:=h
theorem q_nilCheck (h:G→∃ v,(O1 P (.nilCheck x) ty n e H fun v' H'=>v'=v∧∀ h,stars H' h→stars H h)∧BB v):G→∃ v,(O1 P (.nilCheck x) ty n e H fun v' H'=>v'=v∧∀ h,stars H' h→stars H h)∧BB v:=h
theorem f_nilCheck (h:G→O1 P (.nilCheck x) ty n e H C):G→O1 P (.nilCheck x) ty n e H C:=h
theorem q_fieldAddr (h:G→∃ v,(O1 P (.fieldAddr T x m) ty n e H fun v' H'=>v'=v∧∀ h,stars H' h→stars H h)∧BB v):G→∃ v,(O1 P (.fieldAddr T x m) ty n e H fun v' H'=>v'=v∧∀ h,stars H' h→stars H h)∧BB v:=h
theorem f_fieldAddr (h:G→O1 P (.fieldAddr T x m) ty n e H C):G→O1 P (.fieldAddr T x m) ty n e H C:=h
theorem a0K (h:O1 P (.load T x) ty n e H C):O1 P (.load T x) ty n e H C:=h
theorem a1E (h:∃ v,(O1 P (.load T x) ty n e H fun v' H'=>v'=v∧∀ h,stars H' h→stars H h)∧BB v):∃ v,(O1 P (.load T x) ty n e H fun v' H'=>v'=v∧∀ h,stars H' h→stars H h)∧BB v:=h
theorem q_load (h:G→∃ v,(O1 P (.load T x) ty n e H fun v' H'=>v'=v∧∀ h,stars H' h→stars H h)∧BB v):G→∃ v,(O1 P (.load T x) ty n e H fun v' H'=>v'=v∧∀ h,stars H' h→stars H h)∧BB v:=h
theorem f_load (h:G→O1 P (.load T x) ty n e H C):G→O1 P (.load T x) ty n e H C:=h
theorem k_box (h:O1 P (.box T x) ty n e H C):O1 P (.box T x) ty n e H C:=h
theorem f_box (h:G→O1 P (.box T x) ty n e H C):G→O1 P (.box T x) ty n e H C:=h
theorem a1O (h:O1 P (.alloc T) ty n e H C):O1 P (.alloc T) ty n e H C:=h
theorem f_alloc (h:G→O1 P (.alloc T) ty n e H C):G→O1 P (.alloc T) ty n e H C:=h
theorem a1N (h:O1 P (.store T x y) ty n e H C):O1 P (.store T x y) ty n e H C:=h
theorem f_store (h:G→O1 P (.store T x y) ty n e H C):G→O1 P (.store T x y) ty n e H C:=h
theorem a1S (h:O1 P (.call q) ty n e H C):O1 P (.call q) ty n e H C:=h
theorem c2F (h:∃ v,(O1 P (.call q) ty n e H fun v' H'=>v'=v∧∀ h,stars H' h→stars H h)∧BB v):∃ v,(O1 P (.call q) ty n e H fun v' H'=>v'=v∧∀ h,stars H' h→stars H h)∧BB v:=h
theorem q_call (h:G→∃ v,(O1 P (.call q) ty n e H fun v' H'=>v'=v∧∀ h,stars H' h→stars H h)∧BB v):G→∃ v,(O1 P (.call q) ty n e H fun v' H'=>v'=v∧∀ h,stars H' h→stars H h)∧BB v:=h
theorem f_call (h:G→O1 P (.call q) ty n e H C):G→O1 P (.call q) ty n e H C:=h
theorem a0P (h:O1 P (.buildSlice T m us) ty n e H C):O1 P (.buildSlice T m us) ty n e H C:=h
theorem f_buildSlice (h:G→O1 P (.buildSlice T m us) ty n e H C):G→O1 P (.buildSlice T m us) ty n e H C:=h
theorem k_build (h:O1 P (.build T us) ty n e H C):O1 P (.build T us) ty n e H C:=h
theorem q_build (h:G→∃ v,(O1 P (.build T us) ty n e H fun v' H'=>v'=v∧∀ h,stars H' h→stars H h)∧BB v):G→∃ v,(O1 P (.build T us) ty n e H fun v' H'=>v'=v∧∀ h,stars H' h→stars H h)∧BB v:=h
theorem f_build (h:G→O1 P (.build T us) ty n e H C):G→O1 P (.build T us) ty n e H C:=h
theorem a2W (h:O1 P (.makeSlice T x y) ty n e H C):O1 P (.makeSlice T x y) ty n e H C:=h
theorem a3X (h:O1 P (.slice T x lo hi mx) ty n e H C):O1 P (.slice T x lo hi mx) ty n e H C:=h
theorem a6D (h:∃ v,(O1 P (.slice T x lo hi mx) ty n e H fun v' H'=>v'=v∧∀ h,stars H' h→stars H h)∧BB v):∃ v,(O1 P (.slice T x lo hi mx) ty n e H fun v' H'=>v'=v∧∀ h,stars H' h→stars H h)∧BB v:=h
theorem a0J (h:O1 P (.indexAddr T x y) ty n e H C):O1 P (.indexAddr T x y) ty n e H C:=h
theorem a0Z (h:∃ v,(O1 P (.indexAddr T x y) ty n e H fun v' H'=>v'=v∧∀ h,stars H' h→stars H h)∧BB v):∃ v,(O1 P (.indexAddr T x y) ty n e H fun v' H'=>v'=v∧∀ h,stars H' h→stars H h)∧BB v:=h
theorem b6Q (h:O1 P (.index T x y) ty n e H C):O1 P (.index T x y) ty n e H C:=h
theorem f_index (h:G→O1 P (.index T x y) ty n e H C):G→O1 P (.index T x y) ty n e H C:=h
theorem a1W (h:O1 P (.convert T T2 x) ty n e H C):O1 P (.convert T T2 x) ty n e H C:=h
theorem b0E (h:∃ v,(O1 P (.convert T T2 x) ty n e H fun v' H'=>v'=v∧∀ h,stars H' h→stars H h)∧BB v):∃ v,(O1 P (.convert T T2 x) ty n e H fun v' H'=>v'=v∧∀ h,stars H' h→stars H h)∧BB v:=h
theorem q_convert (h:G→∃ v,(O1 P (.convert T T2 x) ty n e H fun v' H'=>v'=v∧∀ h,stars H' h→stars H h)∧BB v):G→∃ v,(O1 P (.convert T T2 x) ty n e H fun v' H'=>v'=v∧∀ h,stars H' h→stars H h)∧BB v:=h
theorem f_convert (h:G→O1 P (.convert T T2 x) ty n e H C):G→O1 P (.convert T T2 x) ty n e H C:=h
theorem c2J (h:O1 P (.unOp uo T x) ty n e H C):O1 P (.unOp uo T x) ty n e H C:=h
theorem q_unOp (h:G→∃ v,(O1 P (.unOp uo T x) ty n e H fun v' H'=>v'=v∧∀ h,stars H' h→stars H h)∧BB v):G→∃ v,(O1 P (.unOp uo T x) ty n e H fun v' H'=>v'=v∧∀ h,stars H' h→stars H h)∧BB v:=h
theorem f_unOp (h:G→O1 P (.unOp uo T x) ty n e H C):G→O1 P (.unOp uo T x) ty n e H C:=h
theorem a0D (bo:BinOp) (h:O1 P (.binOp bo T x y T2) ty n e H C):O1 P (.binOp bo T x y T2) ty n e H C:=h
theorem a1I (bo:BinOp) (h:∃ v,(O1 P (.binOp bo T x y T2) ty n e H fun v' H'=>v'=v∧∀ h,stars H' h→stars H h)∧BB v):∃ v,(O1 P (.binOp bo T x y T2) ty n e H fun v' H'=>v'=v∧∀ h,stars H' h→stars H h)∧BB v:=h
theorem a4V (bo:BinOp) (h:G→∃ v,(O1 P (.binOp bo T x y T2) ty n e H fun v' H'=>v'=v∧∀ h,stars H' h→stars H h)∧BB v):G→∃ v,(O1 P (.binOp bo T x y T2) ty n e H fun v' H'=>v'=v∧∀ h,stars H' h→stars H h)∧BB v:=h
theorem a2D (bo:BinOp) (h:G→O1 P (.binOp bo T x y T2) ty n e H C):G→O1 P (.binOp bo T x y T2) ty n e H C:=h
theorem b1M (bo:BinOp) (h:A→B→O1 P (.binOp bo T x y T2) ty n e H C):A→B→O1 P (.binOp bo T x y T2) ty n e H C:=h
theorem k_fn (f:FuncId) {ar:Array Operand} {at_:Array TypeId} (h:O1 P (.call ⟨.value (.func f),ar,at_⟩) ty n e H C):O1 P (.call ⟨.value (.func f),ar,at_⟩) ty n e H C:=h
theorem p_fn (f:FuncId) {ar:Array Operand} {at_:Array TypeId} (h:∃ v,(O1 P (.call ⟨.value (.func f),ar,at_⟩) ty n e H fun v' H'=>v'=v∧∀ h,stars H' h→stars H h)∧BB v):∃ v,(O1 P (.call ⟨.value (.func f),ar,at_⟩) ty n e H fun v' H'=>v'=v∧∀ h,stars H' h→stars H h)∧BB v:=h
end
theorem ow {G G':Prop} (h:G') (s:G'→G:=by
 first
  | (apply f_pick;first
   | exact b6H rfl rfl
   | exact b6I rfl rfl)
  | (apply f_extract;exact b4H rfl rfl)
  | (apply f_fieldAddr;exact a6R rfl)
  | (apply f_load;first
   | exact a0F rfl (by rfl)
   | exact a2V rfl (by first|omega|(simp;omega))
   | exact a0L rfl (by assumption)
   | exact a9I rfl (by simp only [Nat.zero_add,Nat.reduceAdd,List.drop_zero,List.drop_succ_cons,List.take_succ_cons,List.take_zero];rfl) (by rfl))
  | (apply f_box;exact a1V rfl rfl)
  | (apply f_call;first
   | exact c0G rfl
   | exact a1H rfl rfl (a2H rfl (by first|decide|omega)) rfl rfl (fun _=>rfl) (by omega) (by omega)
   | exact a1H rfl rfl (a3Q (by assumption)) rfl rfl (fun _=>rfl) (by omega) (by omega)
   | exact a1H rfl rfl a0I rfl rfl (fun _=>rfl) (by omega) (by omega))
  | (apply a2D .add;first
   | exact a2F rfl rfl (by omega)
   | exact a8F rfl rfl)
  | (apply a2D .sub;first
   | exact a3D rfl rfl (by omega)
   | exact b8V rfl rfl)
  | (apply a2D .lss;first
   | exact a6Z rfl rfl (by omega)
   | exact a3S rfl rfl (by omega))
  | (apply a2D .leq;first
   | exact b1F rfl rfl (by omega)
   | exact b1G rfl rfl (by omega))
  | (apply a2D .gtr;first
   | exact a4T rfl rfl (by omega)
   | exact a3H rfl rfl (by omega))
  | (apply a2D .geq;first
   | exact b1H rfl rfl (by omega)
   | exact a7Y rfl rfl (by omega))
  | (apply a2D .eql;first
   | exact a3I rfl rfl (by omega)
   | exact a1Y rfl rfl (by omega)
   | exact c1R rfl rfl
   | exact o1_strlit (r:=true) rfl rfl (by kernel_rfl)
   | exact a5P rfl)
  | (apply a2D .neq;first
   | exact a3R rfl rfl (by omega)
   | exact a2E rfl rfl (by omega)
   | exact o1_neqb rfl rfl
   | exact a5P rfl)
  | (apply f_unOp;first
   | exact b4J rfl
   | exact c0W rfl)
  | (apply a2D .and;exact b0F rfl rfl)
  | (apply a2D .or;exact c2G rfl rfl)
  | (apply a2D .xor;exact a8E rfl rfl)
  | (apply a2D .andNot;exact b4F rfl rfl)
  | (apply a2D .mul;exact a7M rfl rfl)
  | (apply a2D .shl;exact b8W rfl rfl (by omega))
  | (apply a2D .shr;exact a9K rfl rfl (by omega))
  | (apply f_convert;first
   | exact a6H rfl
   | exact a5Y rfl (by omega)
   | exact o1_conv_ui rfl (by exact bv_small (by decide) _)
   | exact a7O rfl (by omega)
   | exact a2I rfl
   | exact a2M rfl (by rfl) a0I
   | exact a2M rfl (by rfl) (a3Q (by assumption)))
  | (apply a2D .rem;exact a2J rfl rfl (by omega))
  | (apply f_makeSlice;exact o1_maken (enc:=B) 0#8 rfl rfl rfl rfl (by omega) (by omega) (by omega))
  | (apply f_buildSlice;exact b9A rfl rfl rfl rfl rfl)
  | (apply f_build;exact b0H rfl (by simp only [buildL,putL,List.set_cons_zero,List.set_cons_succ,List.getElem?_cons_zero,List.getElem?_cons_succ,Option.getD_some,Value.cells,Nat.zero_add,Nat.reduceAdd];rfl) (fun _=>by kernel_rfl))
  | (apply f_index;exact a7W rfl rfl (by omega) (by rfl))
  | (apply f_alloc;exact a1D rfl)
  | (apply f_store;first
   | exact a4A B rfl rfl (by first|omega|(simp;done)|(simp;omega)) rfl
   | exact a1R rfl rfl (by first|omega|(simp;done)|(simp;omega)) rfl (by first|(simp only [List.set_cons_zero,List.set_cons_succ,Nat.zero_add,Nat.reduceAdd];rfl)|rfl)
   | exact a7U rfl rfl (by rfl) (by simp) (by simp [Value.oneCell']) (by simp only [putL,List.set_cons_zero,List.set_cons_succ,Nat.zero_add,Nat.reduceAdd];rfl))
  | (apply f_nilCheck;exact a7N rfl)
  | fail):G:=s h
theorem wK {G G':Prop} (h:G') (s:G'→G:=by
 first
  | exact fun h=>ls_of rfl h
  | exact fun h=>ls_of_no h
  | exact fun h=>ls_guard_yes rfl rfl h
  | exact fun h=>ls_guard_no rfl rfl rfl rfl h
  | exact fun h=>ls_guard_un rfl rfl rfl h
  | exact fun h=>a6F rfl h
  | exact fun h=>b0I rfl h
  | exact fun h=>st_seq h
  | exact fun h=>st_region h
  | exact fun h=>b8B h
  | exact fun h=>st_skip h
  | exact fun h=>st_ret h
  | exact fun h=>st_exit h
  | exact fun h=>b5U rfl h
  | exact fun h=>b5V rfl h
  | exact fun h=>ls_nil h
  | exact fun h=>nx_seq h
  | exact fun h=>c0H h
  | exact fun h=>nx_fn h
  | exact fun h=>nx_rounds h
  | exact fun h=>xt_seq h
  | exact fun h=>xt_here h
  | exact fun h=>xt_on rfl h
  | exact fun h=>xt_rounds h
  | exact fun h=>xt_cut h
  | exact fun h=>rt_seq h
  | exact fun h=>rt_blk h
  | exact fun h=>rt_rounds h
  | exact fun h=>rt_cut h
  | (apply f_pick;first
   | exact b6H rfl rfl
   | exact b6I rfl rfl)
  | (apply f_extract;exact b4H rfl rfl)
  | (apply f_fieldAddr;exact a6R rfl)
  | (apply f_load;first
   | exact a0F rfl (by rfl)
   | exact a2V rfl (by first|omega|(simp;omega))
   | exact a0L rfl (by assumption)
   | exact a9I rfl (by simp only [Nat.zero_add,Nat.reduceAdd,List.drop_zero,List.drop_succ_cons,List.take_succ_cons,List.take_zero];rfl) (by rfl))
  | (apply f_box;exact a1V rfl rfl)
  | (apply f_call;first
   | exact c0G rfl
   | exact a1H rfl rfl (a2H rfl (by first|decide|omega)) rfl rfl (fun _=>rfl) (by omega) (by omega)
   | exact a1H rfl rfl (a3Q (by assumption)) rfl rfl (fun _=>rfl) (by omega) (by omega)
   | exact a1H rfl rfl a0I rfl rfl (fun _=>rfl) (by omega) (by omega))
  | (apply a2D .add;first
   | exact a2F rfl rfl (by omega)
   | exact a8F rfl rfl)
  | (apply a2D .sub;first
   | exact a3D rfl rfl (by omega)
   | exact b8V rfl rfl)
  | (apply a2D .lss;first
   | exact a6Z rfl rfl (by omega)
   | exact a3S rfl rfl (by omega))
  | (apply a2D .leq;first
   | exact b1F rfl rfl (by omega)
   | exact b1G rfl rfl (by omega))
  | (apply a2D .gtr;first
   | exact a4T rfl rfl (by omega)
   | exact a3H rfl rfl (by omega))
  | (apply a2D .geq;first
   | exact b1H rfl rfl (by omega)
   | exact a7Y rfl rfl (by omega))
  | (apply a2D .eql;first
   | exact a3I rfl rfl (by omega)
   | exact a1Y rfl rfl (by omega)
   | exact c1R rfl rfl
   | exact o1_strlit (r:=true) rfl rfl (by kernel_rfl)
   | exact a5P rfl)
  | (apply a2D .neq;first
   | exact a3R rfl rfl (by omega)
   | exact a2E rfl rfl (by omega)
   | exact o1_neqb rfl rfl
   | exact a5P rfl)
  | (apply f_unOp;first
   | exact b4J rfl
   | exact c0W rfl)
  | (apply a2D .and;exact b0F rfl rfl)
  | (apply a2D .or;exact c2G rfl rfl)
  | (apply a2D .xor;exact a8E rfl rfl)
  | (apply a2D .andNot;exact b4F rfl rfl)
  | (apply a2D .mul;exact a7M rfl rfl)
  | (apply a2D .shl;exact b8W rfl rfl (by omega))
  | (apply a2D .shr;exact a9K rfl rfl (by omega))
  | (apply f_convert;first
   | exact a6H rfl
   | exact a5Y rfl (by omega)
   | exact o1_conv_ui rfl (by exact bv_small (by decide) _)
   | exact a7O rfl (by omega)
   | exact a2I rfl
   | exact a2M rfl (by rfl) a0I
   | exact a2M rfl (by rfl) (a3Q (by assumption)))
  | (apply a2D .rem;exact a2J rfl rfl (by omega))
  | (apply f_makeSlice;exact o1_maken (enc:=B) 0#8 rfl rfl rfl rfl (by omega) (by omega) (by omega))
  | (apply f_buildSlice;exact b9A rfl rfl rfl rfl rfl)
  | (apply f_build;exact b0H rfl (by simp only [buildL,putL,List.set_cons_zero,List.set_cons_succ,List.getElem?_cons_zero,List.getElem?_cons_succ,Option.getD_some,Value.cells,Nat.zero_add,Nat.reduceAdd];rfl) (fun _=>by kernel_rfl))
  | (apply f_index;exact a7W rfl rfl (by omega) (by rfl))
  | (apply f_alloc;exact a1D rfl)
  | (apply f_store;first
   | exact a4A B rfl rfl (by first|omega|(simp;done)|(simp;omega)) rfl
   | exact a1R rfl rfl (by first|omega|(simp;done)|(simp;omega)) rfl (by first|(simp only [List.set_cons_zero,List.set_cons_succ,Nat.zero_add,Nat.reduceAdd];rfl)|rfl)
   | exact a7U rfl rfl (by rfl) (by simp) (by simp [Value.oneCell']) (by simp only [putL,List.set_cons_zero,List.set_cons_succ,Nat.zero_add,Nat.reduceAdd];rfl))
  | (apply f_nilCheck;exact a7N rfl)
  | fail):G:=s h
theorem wL {G A B:Prop} (a:A) (b:B) (s:A→B→G:=by
 first
  | exact fun a b=>st_cond rfl a b
  | (apply b1M .lss;exact o1_lss rfl rfl)
  | (apply b1M .leq;exact o1_leq rfl rfl)
  | (apply b1M .gtr;exact o1_gtr rfl rfl)
  | (apply b1M .geq;exact o1_geq rfl rfl)
  | (apply b1M .eql;first
   | exact o1_eql rfl rfl
   | exact o1_streq rfl rfl)
  | (apply b1M .neq;exact o1_neq rfl rfl)
  | fail):G:=s a b
theorem ent {H H':List Hl} (h:Ent H H':=by
 (try dsimp only [cA,nA,List.singleton_append,List.append_nil])
 (repeat (first|exact Ent.nil|exact Ent.refl _|(apply Ent.cons;(repeat (first|exact Sel.here|apply Sel.there|fail)))|fail))):Ent H H':=h
theorem cv {e e0:Ev} (h:Covers e e0:=by repeat (first|exact a6A|refine a0R rfl rfl ?_|fail)):Covers e e0:=h
def opsO:Operand→List Nat
 | .tmp t=>[t]
 | _=>[]
def opsR:Op→List Nat
 | .move x | .assign x | .box _ x | .load _ x | .nilCheck x | .unOp _ _ x | .convert _ _ x | .fieldAddr _ x _ | .field _ x _ | .extract x _=>opsO x
 | .pick c a b=>opsO c++opsO a++opsO b
 | .build _ ps | .buildSlice _ _ ps=>ps.toList.flatMap fun p=>opsO p.2
 | .store _ a v | .binOp _ _ a v _ | .makeSlice _ a v | .indexAddr _ a v | .index _ a v=>opsO a++opsO v
 | .makeFunc _ f c=>f.toList.flatMap opsO++c.toList.flatMap opsO
 | .slice _ x a b c=>opsO x++(a.toList.flatMap opsO++(b.toList.flatMap opsO++c.toList.flatMap opsO))
 | .call c=>(match c.callee with | .value f=>opsO f|_=>[])++c.args.toList.flatMap opsO
 | _=>[]
structure LkS (a b:Option Value) (Q:Prop):Prop where
 l:a=b
 q:Q
section
variable (P:Program) (n:Nat) (e:Ev) (tab:List Row) (l:List Oper)
structure OpS (H:List Hl) (ps:List Nat) (E:Ev) (C:Ev→Prop):Prop where o:OpenP P n e tab l H ps E C
structure ReS (H:List Hl) (E:Ev) (rs:List Nat) (Q:Prop):Prop where o:ReP P n e tab l H E rs∧Q
structure WkS (Fin:Ev→List Hl→Prop) (ss:List Stg) (E:Ev) (H:List Hl):Prop where o:Wk P n e tab l Fin ss E H
structure WtS (Fin:Ev→List Hl→Prop) (s:Scr) (E:Ev) (H:List Hl):Prop where o:Wt P n e tab l Fin s E H
structure ChS (Fin:Ev→List Hl→Prop) (ss:List Stg) (i:Nat) (E:Ev) (H:List Hl):Prop where o:(gdOff tab i E∧Wk P n e tab l Fin ss (addE tab i undef E) H)∨Op1 P n e tab l i E H fun v H'=>Wk P n e tab l Fin ss (addE tab i v E) H'
structure CtS (Fin:Ev→List Hl→Prop) (s:Scr) (i:Nat) (E:Ev) (H:List Hl):Prop where o:(gdOff tab i E∧Wt P n e tab l Fin s (addE tab i undef E) H)∨Op1 P n e tab l i E H fun v H'=>Wt P n e tab l Fin s (addE tab i v E) H'
end
theorem b8Y {P:Program} {op:Op} {ty:TypeId} {n:Nat} {e:Ev} {H:List Hl} {C C':Value→List Hl→Prop} (m:∀ v H',C v H'→C' v H') (h:O1 P op ty n e H C):O1 P op ty n e H C':=⟨fun a w ho o h1 h2 K Q hK=>h.out a w ho o h1 h2 K Q (fun v w' H' x=>hK v w' H' (m v H' x))⟩
theorem a6Q {P:Program} {n:Nat} {e:Ev} {tab:List Row} {l:List Oper} {H:List Hl} {C C':Ev→Prop} (m:∀ E,C E→C' E):∀ ps E,OpenP P n e tab l H ps E C→OpenP P n e tab l H ps E C'
 | [],E,h=>m E h
 | i::ps,E,h=>by
  rcases h with ⟨h1,h2⟩|⟨v,h1,h2⟩
  ·exact .inl ⟨h1,a6Q m ps _ h2⟩
  ·exact .inr ⟨v,h1,a6Q m ps _ h2⟩
theorem po {A B:Value→Prop} {v:Value} (a:A v) (b:B v):∃ v,A v∧B v:=⟨v,a,b⟩
def Cvo (_:Op) (E0 us:Ev):Prop:=Covers E0 us
section
variable {P:Program} {n:Nat} {e:Ev} {tab:List Row} {l:List Oper} {H:List Hl} {ps rs:List Nat} {i d j dj t1 t2 t3 t4 t5 t6 t7:Nat} {b:Bool} {E:Ev} {C:Ev→Prop} {op:Op} {ty:TypeId} {dst:Option Nat} {pos:String} {af:Array Edge} {g:Option (Nat × Bool)} {Q:Prop} {u1 u2 u3 u4 u5 u6 u7:Value} {E0 us:Ev} {Fin:Ev→List Hl→Prop} {ss:List Stg} {nx nx2 nx3:Scr}
theorem cy0 (hop:opsR op=[]) :Cvo op E0 []:=a6A
theorem cy1 (hop:opsR op=[t1]) (k1:look E0 t1=some u1):Cvo op E0 [(t1,u1)]:=(a0R k1 rfl a6A)
theorem cy2 (hop:opsR op=[t1,t2]) (k1:look E0 t1=some u1) (k2:look E0 t2=some u2):Cvo op E0 [(t1,u1),(t2,u2)]:=(a0R k1 rfl (a0R k2 rfl a6A))
theorem cy3 (hop:opsR op=[t1,t2,t3]) (k1:look E0 t1=some u1) (k2:look E0 t2=some u2) (k3:look E0 t3=some u3):Cvo op E0 [(t1,u1),(t2,u2),(t3,u3)]:=(a0R k1 rfl (a0R k2 rfl (a0R k3 rfl a6A)))
theorem cy4 (hop:opsR op=[t1,t2,t3,t4]) (k1:look E0 t1=some u1) (k2:look E0 t2=some u2) (k3:look E0 t3=some u3) (k4:look E0 t4=some u4):Cvo op E0 [(t1,u1),(t2,u2),(t3,u3),(t4,u4)]:=(a0R k1 rfl (a0R k2 rfl (a0R k3 rfl (a0R k4 rfl a6A))))
theorem cy5 (hop:opsR op=[t1,t2,t3,t4,t5]) (k1:look E0 t1=some u1) (k2:look E0 t2=some u2) (k3:look E0 t3=some u3) (k4:look E0 t4=some u4) (k5:look E0 t5=some u5):Cvo op E0 [(t1,u1),(t2,u2),(t3,u3),(t4,u4),(t5,u5)]:=(a0R k1 rfl (a0R k2 rfl (a0R k3 rfl (a0R k4 rfl (a0R k5 rfl a6A)))))
theorem cy6 (hop:opsR op=[t1,t2,t3,t4,t5,t6]) (k1:look E0 t1=some u1) (k2:look E0 t2=some u2) (k3:look E0 t3=some u3) (k4:look E0 t4=some u4) (k5:look E0 t5=some u5) (k6:look E0 t6=some u6):Cvo op E0 [(t1,u1),(t2,u2),(t3,u3),(t4,u4),(t5,u5),(t6,u6)]:=(a0R k1 rfl (a0R k2 rfl (a0R k3 rfl (a0R k4 rfl (a0R k5 rfl (a0R k6 rfl a6A))))))
theorem gp (hd:dstAt tab i=some d) (hg:gdRun tab i E) (ho:l[i]?=some ⟨dst,op,ty,pos,af,g⟩) (hc:Cvo op (envI tab e i E) us) (h:∃ v,O1 P op ty n us H (fun v' H'=>v'=v∧∀ h,stars H' h→stars H h)∧OpS P n e tab l H ps ((d,v)::E) C):OpS P n e tab l H (i::ps) E C:=let ⟨_,h1,h2⟩:=h;⟨op_run hd hg ho hc h1 h2.o⟩
theorem gq (hd:dstAt tab i=some d) (hg:gdRun tab i E) (ho:l[i]?=some ⟨dst,op,ty,pos,af,g⟩) (hc:Cvo op (envI tab e i E) us) (h:∃ v,O1 P op ty n us H (fun v' H'=>v'=v∧∀ h,stars H' h→stars H h)∧LkS (look E d) (some v) (ReS P n e tab l H E rs Q)):ReS P n e tab l H E (i::rs) Q:=let ⟨_,h1,h2,h3⟩:=h;⟨re_run hd h2 hg ho hc h1 h3.o⟩
theorem gc (hd:dstAt tab i=some d) (hg:gdRun tab i E) (ho:l[i]?=some ⟨dst,op,ty,pos,af,g⟩) (hc:Cvo op (envI tab e i E) us) (h:O1 P op ty n us H fun v H'=>WkS P n e tab l Fin ss ((d,v)::E) H'):ChS P n e tab l Fin ss i E H:=⟨ch_run hd hg ho hc (b8Y (fun _ _ x=>x.o) h)⟩
theorem gd (hd:dstAt tab i=none) (hg:gdRun tab i E) (ho:l[i]?=some ⟨dst,op,ty,pos,af,g⟩) (hc:Cvo op (envI tab e i E) us) (h:O1 P op ty n us H fun _ H'=>WkS P n e tab l Fin ss E H'):ChS P n e tab l Fin ss i E H:=⟨ch_run_no hd hg ho hc (b8Y (fun _ _ x=>x.o) h)⟩
theorem gu (hd:dstAt tab i=some d) (hg:gdRun tab i E) (ho:l[i]?=some ⟨dst,op,ty,pos,af,g⟩) (hc:Cvo op (envI tab e i E) us) (h:O1 P op ty n us H fun v H'=>WtS P n e tab l Fin nx ((d,v)::E) H'):CtS P n e tab l Fin nx i E H:=⟨ct_run hd hg ho hc (b8Y (fun _ _ x=>x.o) h)⟩
theorem gv (hd:dstAt tab i=none) (hg:gdRun tab i E) (ho:l[i]?=some ⟨dst,op,ty,pos,af,g⟩) (hc:Cvo op (envI tab e i E) us) (h:O1 P op ty n us H fun _ H'=>WtS P n e tab l Fin nx E H'):CtS P n e tab l Fin nx i E H:=⟨ct_run_no hd hg ho hc (b8Y (fun _ _ x=>x.o) h)⟩
theorem zs_end (h:OpS P n e tab l H ps E fun E'=>ReS P n e tab l H E' rs (Fin E' H)):WkS P n e tab l Fin (⟨ps,rs,none⟩::ss) E H:=⟨wk_end (a6Q (fun _ x=>x.o) ps E h.o)⟩
theorem zs_ch (h:OpS P n e tab l H ps E fun E'=>ReS P n e tab l H E' rs (ChS P n e tab l Fin ss i E' H)):WkS P n e tab l Fin (⟨ps,rs,some i⟩::ss) E H:=⟨wk_ch (a6Q (fun _ x=>⟨x.o.1,x.o.2.o⟩) ps E h.o)⟩
theorem zp_nil (h:C E):OpS P n e tab l H [] E C:=⟨op_nil h⟩
theorem zr_nil (h:Q):ReS P n e tab l H E [] Q:=⟨re_nil h⟩
theorem zp_off (hd:dstAt tab i=some d) (hg:gdOff tab i E) (h:OpS P n e tab l H ps ((d,undef)::E) C):OpS P n e tab l H (i::ps) E C:=⟨op_off hd hg h.o⟩
theorem zr_off (hd:dstAt tab i=some d) (hl:look E d=some undef) (hg:gdOff tab i E) (h:ReS P n e tab l H E rs Q):ReS P n e tab l H E (i::rs) Q:=⟨re_off hd hl hg h.o⟩
theorem zc_off (hd:dstAt tab i=some d) (hg:gdOff tab i E) (h:WkS P n e tab l Fin ss ((d,undef)::E) H):ChS P n e tab l Fin ss i E H:=⟨ch_off hd hg h.o⟩
theorem zt_end (h:OpS P n e tab l H ps E fun E'=>ReS P n e tab l H E' rs (Fin E' H)):WtS P n e tab l Fin (.fin ps rs) E H:=⟨wt_end (a6Q (fun _ x=>x.o) ps E h.o)⟩
theorem zt_ch (h:OpS P n e tab l H ps E fun E'=>ReS P n e tab l H E' rs (CtS P n e tab l Fin nx i E' H)):WtS P n e tab l Fin (.step ps rs i nx) E H:=⟨wt_ch (a6Q (fun _ x=>⟨x.o.1,x.o.2.o⟩) ps E h.o)⟩
theorem zt_alt (h:OpS P n e tab l H ps E fun E'=>ReS P n e tab l H E' rs (CtS P n e tab l Fin nx i E' H∧CtS P n e tab l Fin nx2 j E' H)):WtS P n e tab l Fin (.alt ps rs i nx j nx2) E H:=⟨wt_alt (a6Q (fun _ x=>⟨x.o.1,x.o.2.1.o,x.o.2.2.o⟩) ps E h.o)⟩
theorem zt_alt3 (h:OpS P n e tab l H ps E fun E'=>ReS P n e tab l H E' rs (CtS P n e tab l Fin nx i E' H∧CtS P n e tab l Fin nx2 j E' H∧CtS P n e tab l Fin nx3 d E' H)):WtS P n e tab l Fin (.alt3 ps rs i nx j nx2 d nx3) E H:=⟨wt_alt3 (a6Q (fun _ x=>⟨x.o.1,x.o.2.1.o,x.o.2.2.1.o,x.o.2.2.2.o⟩) ps E h.o)⟩
variable {k:Kon} {W:World}
theorem a0H {id:Nat} (e0:Ev) (tab:List Row) (all:List Nat) (S:List Stg) (hm:P.follows .mixedOrders=true) (he:Covers e e0) (hrows:l.map (fun o=>(o.dst,edgesOf o,o.guard))=tab.map (fun r=>(r.dst,r.edges,r.guard)))
  (hok:scriptOk n tab all S=true) (h:WkS P n e0 tab l (fun E H'=>Nx P k n (E++e) W H') S [] H):St P (.region id l.toArray true) k n e W H:=st_stages e0 tab all S hm he hrows hok h.o
theorem a5T {id:Nat} (e0:Ev) (tab:List Row) (all:List Nat) (S:Scr) (hm:P.follows .mixedOrders=true) (he:Covers e e0) (hrows:l.map (fun o=>(o.dst,edgesOf o,o.guard))=tab.map (fun r=>(r.dst,r.edges,r.guard)))
  (hok:treeOk n tab all S=true) (h:WtS P n e0 tab l (fun E H'=>Nx P k n (E++e) W H') S [] H):St P (.region id l.toArray true) k n e W H:=st_tree e0 tab all S hm he hrows hok h.o
end
theorem sg {G G':Prop} (h:G') (s:G'→G:=by first
 | exact fun h=>zs_end h
 | exact fun h=>zs_ch h
 | exact fun h=>zp_nil h
 | exact fun h=>zr_nil h
 | exact fun h=>LkS.mk rfl h
 | exact fun h=>zp_off rfl (by first|exact gd_o1 rfl rfl rfl|exact gd_o2 rfl rfl rfl|fail) h
 | exact fun h=>zr_off rfl rfl (by first|exact gd_o1 rfl rfl rfl|exact gd_o2 rfl rfl rfl|fail) h
 | exact fun h=>zc_off rfl (by first|exact gd_o1 rfl rfl rfl|exact gd_o2 rfl rfl rfl|fail) h
 | exact fun h=>zc_offn rfl (by first|exact gd_o1 rfl rfl rfl|exact gd_o2 rfl rfl rfl|fail) h
 | exact fun h=>gp rfl (by first|exact gd_r0 rfl|exact gd_r1 rfl rfl rfl|fail) rfl (by first|exact cy0 rfl|exact cy1 rfl rfl|exact cy2 rfl rfl rfl|exact cy3 rfl rfl rfl rfl|exact cy4 rfl rfl rfl rfl rfl|exact cy5 rfl rfl rfl rfl rfl rfl|exact cy6 rfl rfl rfl rfl rfl rfl rfl|exact cy7 rfl rfl rfl rfl rfl rfl rfl rfl|fail) h
 | exact fun h=>gq rfl (by first|exact gd_r0 rfl|exact gd_r1 rfl rfl rfl|fail) rfl (by first|exact cy0 rfl|exact cy1 rfl rfl|exact cy2 rfl rfl rfl|exact cy3 rfl rfl rfl rfl|exact cy4 rfl rfl rfl rfl rfl|exact cy5 rfl rfl rfl rfl rfl rfl|exact cy6 rfl rfl rfl rfl rfl rfl rfl|exact cy7 rfl rfl rfl rfl rfl rfl rfl rfl|fail) h
 | exact fun h=>gc rfl (by first|exact gd_r0 rfl|exact gd_r1 rfl rfl rfl|fail) rfl (by first|exact cy0 rfl|exact cy1 rfl rfl|exact cy2 rfl rfl rfl|exact cy3 rfl rfl rfl rfl|exact cy4 rfl rfl rfl rfl rfl|exact cy5 rfl rfl rfl rfl rfl rfl|exact cy6 rfl rfl rfl rfl rfl rfl rfl|exact cy7 rfl rfl rfl rfl rfl rfl rfl rfl|fail) h
 | exact fun h=>gd rfl (by first|exact gd_r0 rfl|exact gd_r1 rfl rfl rfl|fail) rfl (by first|exact cy0 rfl|exact cy1 rfl rfl|exact cy2 rfl rfl rfl|exact cy3 rfl rfl rfl rfl|exact cy4 rfl rfl rfl rfl rfl|exact cy5 rfl rfl rfl rfl rfl rfl|exact cy6 rfl rfl rfl rfl rfl rfl rfl|exact cy7 rfl rfl rfl rfl rfl rfl rfl rfl|fail) h
 | exact fun h=>gu rfl (by first|exact gd_r0 rfl|exact gd_r1 rfl rfl rfl|fail) rfl (by first|exact cy0 rfl|exact cy1 rfl rfl|exact cy2 rfl rfl rfl|exact cy3 rfl rfl rfl rfl|exact cy4 rfl rfl rfl rfl rfl|exact cy5 rfl rfl rfl rfl rfl rfl|exact cy6 rfl rfl rfl rfl rfl rfl rfl|exact cy7 rfl rfl rfl rfl rfl rfl rfl rfl|fail) h
 | exact fun h=>gv rfl (by first|exact gd_r0 rfl|exact gd_r1 rfl rfl rfl|fail) rfl (by first|exact cy0 rfl|exact cy1 rfl rfl|exact cy2 rfl rfl rfl|exact cy3 rfl rfl rfl rfl|exact cy4 rfl rfl rfl rfl rfl|exact cy5 rfl rfl rfl rfl rfl rfl|exact cy6 rfl rfl rfl rfl rfl rfl rfl|exact cy7 rfl rfl rfl rfl rfl rfl rfl rfl|fail) h
 | exact fun h=>zt_end h
 | exact fun h=>zt_ch h
 | exact fun h=>zt_alt h
 | exact fun h=>zt_alt3 h
 | exact fun h=>zt_off rfl (by first|exact gd_o1 rfl rfl rfl|exact gd_o2 rfl rfl rfl|fail) h
 | exact fun h=>zt_offn rfl (by first|exact gd_o1 rfl rfl rfl|exact gd_o2 rfl rfl rfl|fail) h
 | fail):G:=s h
theorem pw {G G':Prop} (h:G') (s:G'→G:=by
 first
  | (apply q_move;exact po (a6F rfl fz))
  | (apply q_assign;exact po (b0I rfl fz))
  | (apply q_pick;first
   | exact po (b6H rfl rfl fz)
   | exact po (b6I rfl rfl fz))
  | (apply q_extract;exact po (b4H rfl rfl fz))
  | (apply q_fieldAddr;exact po (a6R rfl fz))
  | (apply q_load;first
   | exact po (a0F rfl (by rfl) fz)
   | exact po (a2V rfl (by first|omega|(simp;omega)) fz)
   | exact po (a0L rfl (by assumption) fz)
   | exact po (a9I rfl (by simp only [Nat.zero_add,Nat.reduceAdd,List.drop_zero,List.drop_succ_cons,List.take_succ_cons,List.take_zero];try rfl) (by rfl) fz))
  | (apply q_call;exact po (c0G rfl fz))
  | (apply a4V .add;first
   | exact po (a2F rfl rfl (by omega) fz)
   | exact po (a8F rfl rfl fz))
  | (apply a4V .sub;first
   | exact po (a3D rfl rfl (by omega) fz)
   | exact po (b8V rfl rfl fz))
  | (apply a4V .lss;first
   | exact po (a6Z rfl rfl (by omega) fz)
   | exact po (a3S rfl rfl (by omega) fz))
  | (apply a4V .leq;first
   | exact po (b1F rfl rfl (by omega) fz)
   | exact po (b1G rfl rfl (by omega) fz))
  | (apply a4V .gtr;first
   | exact po (a4T rfl rfl (by omega) fz)
   | exact po (a3H rfl rfl (by omega) fz))
  | (apply a4V .geq;first
   | exact po (b1H rfl rfl (by omega) fz)
   | exact po (a7Y rfl rfl (by omega) fz))
  | (apply a4V .eql;first
   | exact po (a3I rfl rfl (by omega) fz)
   | exact po (a1Y rfl rfl (by omega) fz)
   | exact po (c1R rfl rfl fz)
   | exact po (o1_strlit (r:=true) rfl rfl (by kernel_rfl) fz)
   | exact po (a5P rfl fz))
  | (apply a4V .neq;first
   | exact po (a3R rfl rfl (by omega) fz)
   | exact po (a2E rfl rfl (by omega) fz)
   | exact po (o1_neqb rfl rfl fz)
   | exact po (a5P rfl fz))
  | (apply q_unOp;first
   | exact po (b4J rfl fz)
   | exact po (c0W rfl fz))
  | (apply a4V .and;exact po (b0F rfl rfl fz))
  | (apply a4V .or;exact po (c2G rfl rfl fz))
  | (apply a4V .xor;exact po (a8E rfl rfl fz))
  | (apply a4V .andNot;exact po (b4F rfl rfl fz))
  | (apply a4V .mul;exact po (a7M rfl rfl fz))
  | (apply a4V .shl;exact po (b8W rfl rfl (by omega) fz))
  | (apply a4V .shr;exact po (a9K rfl rfl (by omega) fz))
  | (apply q_convert;first
   | exact po (a6H rfl fz)
   | exact po (a5Y rfl (by omega) fz)
   | exact po (o1_conv_ui rfl (by exact bv_small (by decide) _) fz)
   | exact po (a7O rfl (by omega) fz)
   | exact po (a2I rfl fz)
   | exact po (a2M rfl (by rfl) a0I fz)
   | exact po (a2M rfl (by rfl) (a3Q (by assumption)) fz))
  | (apply a4V .rem;exact po (a2J rfl rfl (by omega) fz))
  | (apply q_build;exact po (b0H rfl (by simp only [buildL,putL,List.set_cons_zero,List.set_cons_succ,List.getElem?_cons_zero,List.getElem?_cons_succ,Option.getD_some,Value.cells,Nat.zero_add,Nat.reduceAdd];rfl) (fun _=>by kernel_rfl) fz))
  | (apply q_index;exact po (a7W rfl rfl (by omega) (by rfl) fz))
  | (apply q_nilCheck;exact po (a7N rfl fz))
  | fail):G:=s h
end Go.Dp
