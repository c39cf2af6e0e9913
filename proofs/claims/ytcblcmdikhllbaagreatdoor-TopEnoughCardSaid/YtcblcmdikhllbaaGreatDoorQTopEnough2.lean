/-
  Downpour, walked and proved: part 2.
  Conditions: those that stand in each theorem.
-/
import Derived.Test.YtcblcmdikhllbaaGreatDoorQTopEnough1
import Derived.Laws.Concat
import Derived.Lib.AppendZerosOnto
import Derived.Maps.AppendAt
set_option linter.unusedVariables false
set_option linter.unusedSimpArgs false
set_option maxHeartbeats 64000000
namespace Go.Dp
open Go.RowKit
structure Stg where
 ps:List Nat
 rs:List Nat
 ch:Option Nat
def cloAt (tab:List Row) (i:Nat):List Nat:=((tab[i]?).map (·.clo)).getD []
def gdAt (tab:List Row) (i:Nat):Option (Nat × Bool):=(tab[i]?).bind (·.guard)
def cloE (tab:List Row) (i:Nat) (E:Ev):Ev:=E.filter fun x=>(cloAt tab i).any fun j=>dstAt tab j == some x.1
def envI (tab:List Row) (e:Ev) (i:Nat) (E:Ev):Ev:=cloE tab i E++e.filter fun x=>keep tab i x.1
def addE (tab:List Row) (i:Nat) (v:Value) (E:Ev):Ev:=match dstAt tab i with|some d=>(d,v)::E|none=>E
def gdRun (tab:List Row) (i:Nat) (E:Ev):Prop:=∀ j b,gdAt tab i=some (j,b)→∃ d,dstAt tab j=some d∧look E d=some (.bool b)
def gdOff (tab:List Row) (i:Nat) (E:Ev):Prop:=∃ j b d,gdAt tab i=some (j,b)∧dstAt tab j=some d∧(look E d=some (.bool (!b))∨look E d=some undef)
section
variable (P:Program) (n:Nat) (e:Ev) (tab:List Row) (l:List Oper)
def Op1 (i:Nat) (E:Ev) (H:List Hl) (C:Value→List Hl→Prop):Prop:=gdRun tab i E∧∃ o,l[i]?=some o∧O1 P o.op o.type n (envI tab e i E) H C
def Pu (i:Nat) (E:Ev) (H:List Hl) (v:Value):Prop:=Op1 P n e tab l i E H fun v' H'=>v'=v∧∀ h,stars H' h→stars H h
def OpenP (H:List Hl):List Nat→Ev→(Ev→Prop)→Prop
 | [],E,C=>C E
 | i::ps,E,C=>(gdOff tab i E∧OpenP H ps (addE tab i undef E) C)∨∃ v,Pu P n e tab l i E H v∧OpenP H ps (addE tab i v E) C
def Good (i:Nat) (E:Ev) (H:List Hl):Prop:=(gdOff tab i E∧∀ d,dstAt tab i=some d→look E d=some undef)∨∃ v,(∀ d,dstAt tab i=some d→look E d=some v)∧Pu P n e tab l i E H v
def ReP (H:List Hl) (E:Ev):List Nat→Prop
 | []=>True
 | i::rs=>Good P n e tab l i E H∧ReP H E rs
def Wk (Fin:Ev→List Hl→Prop):List Stg→Ev→List Hl→Prop
 | [],_,_=>False
 | s::ss,E,H=>OpenP P n e tab l H s.ps E fun E'=>ReP P n e tab l H E' s.rs∧match s.ch with
  | none=>Fin E' H
  | some i=>(gdOff tab i E'∧Wk Fin ss (addE tab i undef E') H)∨Op1 P n e tab l i E' H fun v H'=>Wk Fin ss (addE tab i v E') H'
end
def psOk (tab:List Row):List Nat→Bool
 | []=>true
 | i::ps=>(ps.all fun j => !(cloAt tab i).contains j && j != i) && psOk tab ps
def stOk (tab:List Row) (all done:List Nat) (s:Stg):Bool :=
 psOk tab s.ps && (s.ps.all fun i=>decide (i<tab.length)) && ((List.range tab.length).all fun i=>all.contains i || (all.any fun c=>(cloAt tab i).contains c && !done.contains c) || (done.any fun c=>(cloAt tab c).contains i) || s.ps.contains i || s.rs.contains i) &&
 (match s.ch with|none=>all.all fun c=>done.contains c|some c=>decide (c<tab.length) && !done.contains c && all.contains c && (all.all fun c'=>done.contains c' || c' == c || (cloAt tab c').contains c) && (s.ps.all fun i=>i != c && !all.contains i))
def scOk (tab:List Row) (all:List Nat):List Nat→List Stg→Bool
 | _,[]=>true
 | done,s::ss=>stOk tab all done s && (match s.ch with|none=>ss.isEmpty|some c=>(match ss with | []=>false|s'::_=>s'.ps.all fun i=>(cloAt tab i).contains c) && scOk tab all (c::done) ss)
theorem a5C {tab:List Row} {i d:Nat} {v:Value} {E:Ev} (h:dstAt tab i≠some d):look (addE tab i v E) d=look E d:=by
 unfold addE
 cases hd:dstAt tab i with
 | none=>rfl
 | some d' =>
  have:Nat.beq d' d=false:=by
   cases hb:Nat.beq d' d
   ·rfl
   ·exact absurd (by rw [hd,Nat.eq_of_beq_eq_true hb]) h
  simp [look,this]
theorem b3S {tab:List Row} {i d:Nat} {v:Value} {E:Ev} (h:dstAt tab i=some d):look (addE tab i v E) d=some v:=by
 simp [addE,h,look]
theorem cloE_addE {tab:List Row} (hdst:∀ i j d,dstAt tab i=some d→dstAt tab j=some d→i=j) {i j:Nat} {v:Value} {E:Ev} (h:j ∉ cloAt tab i):cloE tab i (addE tab j v E)=cloE tab i E:=by
 unfold addE
 cases hd:dstAt tab j with
 | none=>rfl
 | some d =>
  simp only [cloE,List.filter_cons]
  rw [if_neg]
  simp only [List.any_eq_true,beq_iff_eq,not_exists,not_and]
  intro q hq hqd
  exact h (hdst j q d hd hqd ▸ hq)
theorem envI_addE {tab:List Row} (hdst:∀ i j d,dstAt tab i=some d→dstAt tab j=some d→i=j) {e:Ev} {i j:Nat} {v:Value} {E:Ev} (h:j ∉ cloAt tab i):envI tab e i (addE tab j v E)=envI tab e i E:=by
 unfold envI;rw [cloE_addE hdst h]
section
variable {P:Program} {k:Kon} {n:Nat} {e e0:Ev} {W:World} {H:List Hl} {tab:List Row} {l:List Oper} {Fin:Ev→List Hl→Prop}
structure Stand (P:Program) (n:Nat) (e0:Ev) (tab:List Row) (l:List Oper) (Fin:Ev→List Hl→Prop) (all done:List Nat) (s:Stg) (ss:List Stg) (E:Ev) (H:List Hl):Prop where
 good:∀ i,i∈s.ps∨i∈s.rs→Good P n e0 tab l i E H
 next:match s.ch with
  | none=>Fin E H
  | some i=>(gdOff tab i E∧Wk P n e0 tab l Fin ss (addE tab i undef E) H)∨Op1 P n e0 tab l i E H fun v H'=>Wk P n e0 tab l Fin ss (addE tab i v E) H'
 script:scOk tab all done (s::ss)=true
 dom:∀ d v,look E d=some v→∃ i,i<tab.length∧dstAt tab i=some d
theorem b9N (hdst:∀ i j d,dstAt tab i=some d→dstAt tab j=some d→i=j) (hgd:∀ i j b,gdAt tab i=some (j,b)→j∈cloAt tab i) {i j:Nat} {v:Value} {E:Ev} (h:j ∉ cloAt tab i):(gdRun tab i E→gdRun tab i (addE tab j v E))∧(gdOff tab i E→gdOff tab i (addE tab j v E)):=by
 refine ⟨fun hr q b hq=>?_,fun ⟨q,b,d,h1,h2,h3⟩=>⟨q,b,d,h1,h2,?_⟩⟩
 ·obtain ⟨d,h1,h2⟩:=hr q b hq
  refine ⟨d,h1,?_⟩
  rw [a5C]
  ·exact h2
  ·intro hd;have:=hdst j q d hd h1;exact h (this ▸ hgd i q b hq)
 ·rw [a5C]
  ·exact h3
  ·intro hd;have:=hdst j q d hd h2;exact h (this ▸ hgd i q b h1)
theorem good_addE (hdst:∀ i j d,dstAt tab i=some d→dstAt tab j=some d→i=j) (hgd:∀ i j b,gdAt tab i=some (j,b)→j∈cloAt tab i) {i j:Nat} {v:Value} {E:Ev} {H:List Hl} (h:j ∉ cloAt tab i) (hij:j≠i) (hg:Good P n e0 tab l i E H):Good P n e0 tab l i (addE tab j v E) H:=by
 have hne:∀ d,dstAt tab i=some d→dstAt tab j≠some d:=fun d hd hd'=>hij (hdst j i d hd' hd)
 rcases hg with ⟨h1,h2⟩|⟨u,h1,h2,o,h3,h4⟩
 ·exact .inl ⟨(b9N hdst hgd h).2 h1,fun d hd=>by rw [a5C (hne d hd)];exact h2 d hd⟩
 ·refine .inr ⟨u,fun d hd=>by rw [a5C (hne d hd)];exact h1 d hd,(b9N hdst hgd h).1 h2,o,h3,?_⟩
  rw [envI_addE hdst h]
  exact h4
theorem b8T (hdst:∀ i j d,dstAt tab i=some d→dstAt tab j=some d→i=j) (hgd:∀ i j b,gdAt tab i=some (j,b)→j∈cloAt tab i) (hself:∀ i,i ∉ cloAt tab i):∀ (ps:List Nat) (E:Ev) (C:Ev→Prop),psOk tab ps=true→OpenP P n e0 tab l H ps E C →
  ∃ E',C E'∧(∀ i∈ps,Good P n e0 tab l i E' H)∧(∀ d v,look E' d=some v→look E d=some v∨∃ i∈ps,dstAt tab i=some d)∧(∀ d,(∀ i∈ps,dstAt tab i≠some d)→look E' d=look E d)∧(∀ i,(∀ j∈ps,j ∉ cloAt tab i∧j≠i)→Good P n e0 tab l i E H→Good P n e0 tab l i E' H)
 | [],E,C,_,h=>⟨E,h,by simp,fun _ _ h => .inl h,fun _ _=>rfl,fun _ _ h=>h⟩
 | i::ps,E,C,hps,h=>by
  simp only [psOk,Bool.and_eq_true,List.all_eq_true,Bool.not_eq_true',bne_iff_ne,ne_eq,List.contains_eq_mem,decide_eq_false_iff_not] at hps
  obtain ⟨h1,h2⟩:=hps
  obtain ⟨v,hgi,ho⟩:∃ v,Good P n e0 tab l i (addE tab i v E) H∧OpenP P n e0 tab l H ps (addE tab i v E) C:=by
   rcases h with ⟨h3,h4⟩|⟨v,⟨g1,o,g2,g3⟩,h4⟩
   ·exact ⟨undef,.inl ⟨(b9N hdst hgd (hself i)).2 h3,fun d hd=>b3S hd⟩,h4⟩
   ·exact ⟨v,.inr ⟨v,fun d hd=>b3S hd,(b9N hdst hgd (hself i)).1 g1,o,g2,by rw [envI_addE hdst (hself i)];exact g3⟩,h4⟩
  obtain ⟨E',c1,c2,c3,c4,c5⟩:=b8T hdst hgd hself ps (addE tab i v E) C h2 ho
  refine ⟨E',c1,fun j hj=>?_,fun d u hu=>?_,fun d hd=>?_,fun j hj hg=>?_⟩
  ·rcases List.mem_cons.1 hj with rfl|hj
   ·exact c5 j (fun q hq=>h1 q hq) hgi
   ·exact c2 j hj
  ·rcases c3 d u hu with hh|⟨q,hq,hqd⟩
   ·by_cases hid:dstAt tab i=some d
    ·exact .inr ⟨i,by simp,hid⟩
    ·rw [a5C hid] at hh;exact .inl hh
   ·exact .inr ⟨q,by simp [hq],hqd⟩
  ·rw [c4 d (fun q hq=>hd q (by simp [hq])),a5C (hd i (by simp))]
  ·exact c5 j (fun q hq=>hj q (by simp [hq])) (good_addE hdst hgd (hj i (by simp)).1 (hj i (by simp)).2 hg)
theorem c0R:∀ (rs:List Nat) (E:Ev),ReP P n e0 tab l H E rs→∀ i∈rs,Good P n e0 tab l i E H
 | [],_,_,i,hi=>by simp at hi
 | r::rs,E,h,i,hi=>by
  rcases List.mem_cons.1 hi with rfl|hi
  ·exact h.1
  ·exact c0R rs E h.2 i hi
theorem wk_open (hdst:∀ i j d,dstAt tab i=some d→dstAt tab j=some d→i=j) (hgd:∀ i j b,gdAt tab i=some (j,b)→j∈cloAt tab i) (hself:∀ i,i ∉ cloAt tab i) {all done:List Nat} {s:Stg} {ss:List Stg} {E:Ev}
  (hs:scOk tab all done (s::ss)=true) (hdom:∀ d v,look E d=some v→∃ i,i<tab.length∧dstAt tab i=some d) (h:Wk P n e0 tab l Fin (s::ss) E H) :
  ∃ E',Stand P n e0 tab l Fin all done s ss E' H∧∀ d,(∀ i∈s.ps,dstAt tab i≠some d)→look E' d=look E d:=by
 have hs':=hs
 simp only [scOk,stOk,Bool.and_eq_true] at hs'
 obtain ⟨E',⟨c0,c1⟩,c2,c3,c4,_⟩:=b8T hdst hgd hself s.ps E _ hs'.1.1.1.1 h
 refine ⟨E',⟨fun i hi=>?_,c1,hs,fun d v hv=>?_⟩,c4⟩
 ·rcases hi with hi|hi
  ·exact c2 i hi
  ·exact c0R _ _ c0 i hi
 ·rcases c3 d v hv with hh|⟨i,hi,hid⟩
  ·exact hdom d v hh
  ·have:=hs'.1.1.1.2
   simp only [List.all_eq_true,decide_eq_true_eq] at this
   exact ⟨i,this i hi,hid⟩
structure Mid2 (P:Program) (n:Nat) (e e0:Ev) (tab:List Row) (l:List Oper) (Fin:Ev→List Hl→Prop) (W:World) (all D:List Nat) (a:Act) (w:World):Prop where
 size:a.tmps.size=n
 defers:a.defers=[]
 ext:Ext W w
 keep:∀ t v,look e t=some v→(∀ i∈D,dstAt tab i≠some t)→a.tmps[t]?=some v
 at_:∃ (done:List Nat) (s:Stg) (ss:List Stg) (E:Ev) (H:List Hl),Stand P n e0 tab l Fin all done s ss E H∧sat w (stars H)∧(∀ c,c∈done→c∈D)∧(∀ c∈all,c∈D→c∈done)∧(∀ i∈D,∀ d,dstAt tab i=some d→∃ v,look E d=some v∧a.tmps[d]?=some v)
theorem tabOk.facts (ht:tabOk tab=true):(∀ i j d,dstAt tab i=some d→dstAt tab j=some d→i=j)∧(∀ (i:Nat) (r:Row),tab[i]?=some r→∀ j∈r.clo,j<i)∧(∀ i j b,gdAt tab i=some (j,b)→(∃ r:Row,tab[i]?=some r∧j∈r.edges)∧∃ d,dstAt tab j=some d):=by
 refine ⟨fun i j d hi hj=>?_,fun i=>?_,fun i j b hg=>?_⟩
 ·cases hr:tab[i]? with
  | none=>simp [dstAt,hr] at hi
  | some r=>exact (tabOk.row ht hr).2.2.2.2 d (by simpa [dstAt,hr] using hi) j hj
 ·induction i using Nat.strongRecOn with
  | _ i ih =>
   intro r hr j hj
   obtain ⟨c1,c2,_⟩:=tabOk.row ht hr
   rcases c2 j hj with hh|⟨m,hm,s,hs,hj'⟩
   ·exact c1 j hh
   ·have:=ih m (c1 m hm) s hs j hj'
    have:=c1 m hm
    omega
 ·cases hr:tab[i]? with
  | none=>simp [gdAt,hr] at hg
  | some r =>
   obtain ⟨h1,h2⟩:=(tabOk.row ht hr).2.2.2.1 j b (by simpa [gdAt,hr] using hg)
   exact ⟨⟨r,rfl,h1⟩,h2⟩
theorem b3O (ht:tabOk tab=true) {D:List Nat} (hcl:∀ i∈D,∀ r,tab[i]?=some r→∀ j∈r.edges,j∈D):∀ (m:Nat) (s:Row),tab[m]?=some s→(∀ j∈s.edges,j∈D)→∀ j∈s.clo,j∈D:=by
 intro m
 induction m using Nat.strongRecOn with
 | _ m ih =>
  intro s hs hmD j hj
  obtain ⟨e1,e2,_⟩:=tabOk.row ht hs
  rcases e2 j hj with hh|⟨q,hq,s',hs',hj'⟩
  ·exact hmD j hh
  ·exact ih q (e1 q hq) s' hs' (fun u hu=>hcl q (hmD q hq) s' hs' u hu) j hj'
def gdIn (tab:List Row):Bool:=tab.all fun r=>r.edges.all fun j=>r.clo.contains j
theorem mid2_step (he0:Covers e e0) (ht:tabOk tab=true) (hin:gdIn tab=true) (hrows:l.map (fun o=>(o.dst,edgesOf o,o.guard))=tab.map (fun r=>(r.dst,r.edges,r.guard))) (hdst:tab.all (fun r=>match r.dst with|none=>true|some d=>Nat.blt d n)=true)
  {all D:List Nat} (hcl:∀ i∈D,∀ r,tab[i]?=some r→∀ j∈r.edges,j∈D) {i:Nat} (hi:i ∉ D) {r:Row} (hr:tab[i]?=some r) (hre:∀ j∈r.edges,j∈D) {a:Act} {w:World} (hm:Mid2 P n e e0 tab l Fin W all D a w)
  (K:Act→World→Prop) (hK:∀ a w,Mid2 P n e e0 tab l Fin W all (i::D) a w→K a w):wpOp P l.toArray (k.post P) i K a w:=by
 have hlen:l.length=tab.length:=by simpa using congrArg List.length hrows
 have hil:i<l.length:=by rw [hlen];exact (List.getElem?_eq_some_iff.1 hr).1
 have ho:l[i]?=some l[i]:=List.getElem?_eq_getElem hil
 generalize hoo:l[i]=o at ho
 have hrow:(o.dst,edgesOf o,o.guard)=(r.dst,r.edges,r.guard):=by
  have:=congrArg (fun x=>x[i]?) hrows
  simp only [List.getElem?_map,ho,hr,Option.map_some,Option.some.injEq] at this
  exact this
 simp only [Prod.mk.injEq] at hrow
 obtain ⟨hd,he,hg⟩:=hrow
 obtain ⟨f1,f2,f3⟩:=tabOk.facts ht
 have hdn:∀ d,r.dst=some d→d<n:=by
  intro d hd
  have:=List.all_eq_true.1 hdst r (List.mem_of_getElem? hr)
  rw [hd] at this
  simpa [Nat.blt_eq] using this
 have hdi:dstAt tab i=r.dst:=by simp [dstAt,hr]
 have hci:cloAt tab i=r.clo:=by simp [cloAt,hr]
 have hself:∀ i,i ∉ cloAt tab i:=by
  intro j hj
  cases hs:tab[j]? with
  | none=>simp [cloAt,hs] at hj
  | some s=>have:=f2 j s hs j (by simpa [cloAt,hs] using hj);omega
 have hgd:∀ i j b,gdAt tab i=some (j,b)→j∈cloAt tab i:=by
  intro i j b h
  obtain ⟨⟨s,hs,hj⟩,_⟩:=f3 i j b h
  have:=List.all_eq_true.1 hin s (List.mem_of_getElem? hs)
  simp only [List.all_eq_true,List.contains_eq_mem,decide_eq_true_eq] at this
  simpa [cloAt,hs] using this j hj
 have hcloD:∀ j∈cloAt tab i,j∈D:=by rw [hci];exact b3O ht hcl i r hr hre
 have hcloM:∀ m∈D,∀ j∈cloAt tab m,j∈D:=by
  intro m hmD j hj
  cases hs:tab[m]? with
  | none=>simp [cloAt,hs] at hj
  | some s=>exact b3O ht hcl m s hs (hcl m hmD s hs) j (by simpa [cloAt,hs] using hj)
 obtain ⟨done,s,ss,E,H,hst,hsat,hdD,hDd,hat⟩:=hm.at_
 have hput:∀ v w',Ext w w'→(∀ t,r.dst≠some t→(a.put o.dst v).tmps[t]?=a.tmps[t]?)∧(∀ d,r.dst=some d→(a.put o.dst v).tmps[d]?=some v)∧(a.put o.dst v).tmps.size=n∧(a.put o.dst v).defers=[] ∧
   (∀ t u,look e t=some u→(∀ j∈i::D,dstAt tab j≠some t)→(a.put o.dst v).tmps[t]?=some u):=by
  intro v w' hx
  have q1:∀ t,r.dst≠some t→(a.put o.dst v).tmps[t]?=a.tmps[t]?:=by
   intro t ht'
   rw [hd]
   cases hrd:r.dst with
   | none=>rfl
   | some d =>
    have:d≠t:=fun e=>by subst e;exact ht' hrd
    simp [Act.put,this]
  refine ⟨q1,fun d hrd=>?_,?_,?_,fun t u hl hn=>?_⟩
  ·rw [hd,hrd];simp [Act.put,hm.size,hdn d hrd]
  ·rw [hd];cases r.dst <;> simp [Act.put,hm.size]
  ·rw [hd];cases r.dst <;> simp [Act.put,hm.defers]
  ·rw [q1 t (fun e=>hn i (by simp) (hdi.trans e))]
   exact hm.keep t u hl (fun j hj=>hn j (by simp [hj]))
 have hev:EvOk a n (envI tab e0 i E):=by
  refine ⟨hm.size,hm.defers,fun t v hl=>?_⟩
  rcases a7Q _ _ t v hl with hl|hl
  ·obtain ⟨hk,hl⟩:=a5K (f:=fun t=>(cloAt tab i).any fun j=>dstAt tab j == some t) E t v hl
   simp only [List.any_eq_true,beq_iff_eq] at hk
   obtain ⟨j,hj,hjd⟩:=hk
   obtain ⟨u,hu,hu'⟩:=hat j (hcloD j hj) t hjd
   rw [hl] at hu
   injection hu with hu
   subst hu
   exact hu'
  ·obtain ⟨hk,hl⟩:=a5K e0 t v hl
   refine hm.keep t v (he0.look t v hl) fun j hj hd'=>?_
   simp only [keep,List.all_eq_true] at hk
   cases hs:tab[j]? with
   | none=>simp [dstAt,hs] at hd'
   | some s' =>
    have:=hk (s',j) (by rw [List.mem_zipIdx_iff_getElem?];simpa using hs)
    simp only [dstAt,hs,Option.bind_some] at hd'
    simp only [hd',bne_self_eq_false,Bool.false_or,List.contains_eq_mem,decide_eq_true_eq] at this
    exact hi (hcloM j hj i (by simpa [cloAt,hs] using this))
 have hdo:∀ j,(l.toArray[j]?).bind (·.dst)=dstAt tab j:=by
  intro j
  have:=congrArg (fun x=>x[j]?) hrows
  simp only [List.getElem?_map] at this
  simp only [List.getElem?_toArray,dstAt]
  cases h1:l[j]? <;> cases h2:tab[j]? <;> simp_all
 have hdo':∀ j,(l[j]?).bind (·.dst)=dstAt tab j:=fun j=>by simpa using hdo j
 have hslot:∀ j b d v,gdAt tab i=some (j,b)→dstAt tab j=some d→look E d=some v→a.tmps[d]?=some v:=by
  intro j b d v h1 h2 h3
  obtain ⟨u,hu,hu'⟩:=hat j (hcloD j (hgd i j b h1)) d h2
  rw [h3] at hu
  injection hu with hu
  exact hu ▸ hu'
 have hgr:gdAt tab i=r.guard:=by simp [gdAt,hr]
 have wants:gdRun tab i E→Region.wanted o (yielded l.toArray a.tmps)=true:=by
  intro h
  unfold Region.wanted
  rw [hg,←hgr]
  cases hq:gdAt tab i with
  | none=>rfl
  | some jb =>
   obtain ⟨j,b⟩:=jb
   obtain ⟨d,h1,h2⟩:=h j b hq
   have:=hslot j b d _ hq h1 h2
   simp [yielded,hdo',h1,this]
 have wants':gdOff tab i E→Region.wanted o (yielded l.toArray a.tmps)=false:=by
  rintro ⟨j,b,d,h1,h2,h3⟩
  unfold Region.wanted
  rw [hg,←hgr,h1]
  rcases h3 with h3|h3
  ·have:=hslot j b d _ h1 h2 h3
   simp [yielded,hdo',h2,this]
  ·have:=hslot j b d _ h1 h2 h3
   simp [yielded,hdo',h2,this,undef]
 unfold wpOp
 simp only [List.getElem?_toArray,ho]
 have hsc:=hst.script
 have hother:∀ v w',Ext w w'→∀ j∈D,∀ d,dstAt tab j=some d→(a.put o.dst v).tmps[d]?=a.tmps[d]?:=fun v w' hx j hj d hd'=>(hput v w' hx).1 d fun e=>hi (f1 i j d (hdi.trans e) hd' ▸ hj)
 have hilt:i<tab.length:=hlen ▸ hil
 simp only [scOk,stOk,Bool.and_eq_true,List.all_eq_true,List.mem_range,Bool.or_eq_true,List.any_eq_true,Bool.not_eq_true',List.contains_eq_mem,decide_eq_true_eq,decide_eq_false_iff_not] at hsc
 obtain ⟨⟨⟨⟨_,hps⟩,hcover⟩,hch⟩,hnext⟩:=hsc
 by_cases hall:i∈all
 ·
  have hnd:i ∉ done:=fun h=>hi (hdD i h)
  have hsi:s.ch=some i:=by
   cases hc:s.ch with
   | none =>
    rw [hc] at hch
    simp only [List.all_eq_true,decide_eq_true_eq] at hch
    exact absurd (hch i hall) hnd
   | some c =>
    rw [hc] at hch
    simp only [Bool.and_eq_true,List.all_eq_true,Bool.or_eq_true,decide_eq_true_eq,Bool.not_eq_true',decide_eq_false_iff_not,beq_iff_eq] at hch
    obtain ⟨⟨⟨⟨_,h2⟩,h3⟩,h4⟩,_⟩:=hch
    rcases h4 i hall with (h5|h5)|h5
    ·exact absurd h5 hnd
    ·rw [h5]
    ·exact absurd (hDd c h3 (hcloD c h5)) h2
  have hnx:=hst.next
  rw [hsi] at hnx hnext
  simp only [Bool.and_eq_true] at hnext
  cases ss with
  | nil=>exact absurd hnext.1 (by simp)
  | cons s' ss' =>
   have hs':∀ q∈s'.ps,i∈cloAt tab q:=by
    have:=hnext.1
    simp only [List.all_eq_true,decide_eq_true_eq] at this
    exact this
   have adv:∀ v w' H',Ext w w'→sat w' (stars H')→Wk P n e0 tab l Fin (s'::ss') (addE tab i v E) H'→Mid2 P n e e0 tab l Fin W all (i::D) (a.put o.dst v) w':=by
    intro v w' H' hx hs hw
    obtain ⟨E',hst',hlk⟩:=wk_open f1 hgd hself hnext.2 (fun d u hu=>by
     by_cases hid:dstAt tab i=some d
     ·exact ⟨i,hilt,hid⟩
     ·rw [a5C hid] at hu;exact hst.dom d u hu) hw
    obtain ⟨q1,q2,q3,q4,q5⟩:=hput v w' hx
    refine ⟨q3,q4,hm.ext.trans hx,q5,i::done,s',ss',E',H',hst',hs,fun c hc=>?_,fun c hc hcD=>?_,fun j hj d hd'=>?_⟩
    ·rcases List.mem_cons.1 hc with rfl|hc
     ·simp
     ·simp [hdD c hc]
    ·rcases List.mem_cons.1 hcD with rfl|hcD
     ·simp
     ·simp [hDd c hc hcD]
    ·have hne:∀ q∈s'.ps,dstAt tab q≠some d:=by
      intro q hq hqd
      have:=f1 q j d hqd hd'
      subst this
      rcases List.mem_cons.1 hj with rfl|hj
      ·exact hself _ (hs' _ hq)
      ·exact hi (hcloM _ hj i (hs' _ hq))
     rw [hlk d hne]
     rcases List.mem_cons.1 hj with rfl|hj
     ·exact ⟨v,b3S hd',q2 d (hdi.symm.trans hd')⟩
     ·rw [a5C (fun e=>hi (f1 i j d e hd' ▸ hj)),hother v w' hx j hj d hd']
      exact hat j hj d hd'
   rcases hnx with ⟨h1,h2⟩|⟨h1,o',h2,h3⟩
   ·rw [wants' h1]
    exact hK _ _ (adv undef w H (.refl w) hsat h2)
   ·rw [wants h1]
    simp only [if_true]
    left
    rw [ho] at h2
    injection h2 with h2
    subst h2
    exact h3.out a w ⟨hev,hsat⟩ o rfl rfl K _ fun v w' H' hc hx hs=>hK _ _ (adv v w' H' hx hs hc)
 ·have hgood:Good P n e0 tab l i E H:=by
   rcases hcover i hilt with (((h|⟨c,h1,h2,h3⟩)|⟨c,h1,h2⟩)|h)|h
   ·exact absurd h hall
   ·exact absurd (hDd c h1 (hcloD c h2)) h3
   ·exact absurd (hcloM c (hdD c h1) i h2) hi
   ·exact hst.good i (.inl h)
   ·exact hst.good i (.inr h)
  have stay:∀ v w',(∀ d,dstAt tab i=some d→look E d=some v)→Ext w w'→sat w' (stars H)→Mid2 P n e e0 tab l Fin W all (i::D) (a.put o.dst v) w':=by
   intro v w' hlk hx hs
   obtain ⟨q1,q2,q3,q4,q5⟩:=hput v w' hx
   refine ⟨q3,q4,hm.ext.trans hx,q5,done,s,ss,E,H,hst,hs,fun c hc=>by simp [hdD c hc],fun c hc hcD=>?_,fun j hj d hd'=>?_⟩
   ·rcases List.mem_cons.1 hcD with rfl|hcD
    ·exact absurd hc hall
    ·exact hDd c hc hcD
   ·rcases List.mem_cons.1 hj with rfl|hj
    ·exact ⟨v,hlk d hd',q2 d (hdi.symm.trans hd')⟩
    ·rw [hother v w' hx j hj d hd']
     exact hat j hj d hd'
  rcases hgood with ⟨h1,h2⟩|⟨v,h0,h1,o',h2,h3⟩
  ·rw [wants' h1]
   exact hK _ _ (stay undef w h2 (.refl w) hsat)
  ·rw [wants h1]
   simp only [if_true]
   left
   rw [ho] at h2
   injection h2 with h2
   subst h2
   exact h3.out a w ⟨hev,hsat⟩ o rfl rfl K _ fun v' w' H' hc hx hs=>hK _ _ (hc.1 ▸ stay v w' h0 hx (hs.mono hc.2))
theorem b9Y (ht:tabOk tab=true) (hrows:l.map (fun o=>(o.dst,edgesOf o,o.guard))=tab.map (fun r=>(r.dst,r.edges,r.guard))) (M:List Nat→Act→World→Prop)
  (hstep:∀ (D:List Nat) (i:Nat) (r:Row),(∀ i∈D,∀ r,tab[i]?=some r→∀ j∈r.edges,j∈D)→i ∉ D→tab[i]?=some r→(∀ j∈r.edges,j∈D)→∀ a w,M D a w→∀ K:Act→World→Prop,(∀ a w,M (i::D) a w→K a w)→wpOp P l.toArray (k.post P) i K a w)
  (hend:∀ D a w,(∀ i,i<l.length→i∈D)→M D a w→k.post P .normal a w) :
  ∀ (fuel:Nat) (listed:Array Bool) (D:List Nat) (a:Act) (w:World),D.Nodup→(∀ i∈D,i<l.length)→(∀ i∈D,∀ r,tab[i]?=some r→∀ j∈r.edges,j∈D)→listed.size=l.length→(∀ i,i<l.length→listed[i]?=some (decide (i∈D))) →
   ((List.range l.length).filter fun x => !decide (x∈D)).length≤fuel→M D a w→wpAny P .any l.toArray (k.post P) fuel listed a w:=by
 have hlen:l.length=tab.length:=by simpa using congrArg List.length hrows
 have hrow:∀ i,i<l.length→∃ r o,tab[i]?=some r∧l[i]?=some o∧edgesOf o=r.edges:=by
  intro i hi
  have h1:l[i]?=some l[i]:=List.getElem?_eq_getElem hi
  have h2:tab[i]?=some (tab[i]'(hlen ▸ hi)):=List.getElem?_eq_getElem _
  have:=congrArg (fun x=>x[i]?) hrows
  simp only [List.getElem?_map,h1,h2,Option.map_some,Option.some.injEq,Prod.mk.injEq] at this
  exact ⟨_,_,h2,h1,this.2.1⟩
 have hready:∀ (listed:Array Bool) (D:List Nat),listed.size=l.length→(∀ i,i<l.length→listed[i]?=some (decide (i∈D)))→∀ i,i<l.length→i ∉ D→(∀ r,tab[i]?=some r→∀ j∈r.edges,j∈D)→i∈Region.ready .any l.toArray listed:=by
  intro listed D hs hl i hi hiD hre
  obtain ⟨r,o,hr,ho,he⟩:=hrow i hi
  simp only [Region.ready,List.size_toArray,List.mem_filter,List.mem_range,Bool.and_eq_true]
  refine ⟨hi,by simp [Array.getD_eq_getD_getElem?,hl i hi,hiD],?_⟩
  simp only [List.getElem?_toArray,ho,Option.map_some,Option.getD_some]
  rw [Array.all_eq_true_iff_forall_mem]
  intro ed hed
  cases hb:Region.binds .any ed
  ·rfl
  ·have hj:ed.on∈r.edges:=by
    rw [←he]
    simp only [edgesOf,List.mem_map,List.mem_filter]
    exact ⟨ed,⟨by simpa using hed,hb⟩,rfl⟩
   have hjD:=hre r hr ed.on hj
   have hjl:ed.on<l.length:=by
    obtain ⟨c1,_⟩:=tabOk.row ht hr
    have:=c1 _ hj
    omega
   simp [Array.getD_eq_getD_getElem?,hl _ hjl,hjD]
 have hall:∀ (listed:Array Bool) (D:List Nat),listed.size=l.length→(∀ i,i<l.length→listed[i]?=some (decide (i∈D)))→Region.ready .any l.toArray listed=[]→∀ i,i<l.length→i∈D:=by
  intro listed D hs hl hr i
  induction i using Nat.strongRecOn with
  | _ i ih =>
   intro hi
   rcases Classical.em (i∈D) with h|h
   ·exact h
   ·have:=hready listed D hs hl i hi h fun r hr' j hj=>by
     obtain ⟨c1,_⟩:=tabOk.row ht hr'
     exact ih j (c1 j hj) (by have:=c1 j hj;omega)
    rw [hr] at this
    cases this
 intro fuel
 induction fuel with
 | zero =>
  intro listed D a w hD hlt hcl hs hl hf hm
  have hin:∀ i,i<l.length→i∈D:=by
   intro i hi
   rcases Classical.em (i∈D) with h|h
   ·exact h
   ·have:i∈(List.range l.length).filter fun x => !decide (x∈D):=by simp [hi,h]
    have:=List.length_pos_of_mem this
    omega
  refine ⟨?_,hend D a w hin hm⟩
  simp only [Region.ready,List.size_toArray,List.filter_eq_nil_iff,List.mem_range]
  intro i hi
  simp [Array.getD_eq_getD_getElem?,hl i hi,hin i hi]
 | succ fuel ih =>
  intro listed D a w hD hlt hcl hs hl hf hm
  refine ⟨fun hr=>hend D a w (hall listed D hs hl hr) hm,fun i hi=>?_⟩
  simp only [Region.ready,List.size_toArray,List.mem_filter,List.mem_range,Bool.and_eq_true] at hi
  obtain ⟨hil,hi1,hi2⟩:=hi
  have hiD:i ∉ D:=by simpa [Array.getD_eq_getD_getElem?,hl i hil] using hi1
  obtain ⟨r,o,hr,ho,he⟩:=hrow i hil
  have hre:∀ j∈r.edges,j∈D:=by
   intro j hj
   obtain ⟨c1,_⟩:=tabOk.row ht hr
   have hjl:j<l.length:=by have:=c1 j hj;omega
   rw [←he] at hj
   simp only [edgesOf,List.mem_map,List.mem_filter] at hj
   obtain ⟨ed,⟨hed,hb⟩,rfl⟩:=hj
   simp only [List.getElem?_toArray,ho,Option.map_some,Option.getD_some] at hi2
   rw [Array.all_eq_true_iff_forall_mem] at hi2
   have:=hi2 ed (by simpa using hed)
   simpa [hb,Array.getD_eq_getD_getElem?,hl _ hjl] using this
  refine hstep D i r hcl hiD hr hre a w hm _ fun a' w' hm'=>ih _ (i::D) a' w' (List.nodup_cons.2 ⟨hiD,hD⟩) ?_ ?_ ?_ ?_ ?_ hm'
  ·intro j hj
   rcases List.mem_cons.1 hj with rfl|hj
   ·exact hil
   ·exact hlt j hj
  ·intro j hj s hs' q hq
   rcases List.mem_cons.1 hj with rfl|hj
   ·rw [hr] at hs';cases hs';exact List.mem_cons.2 (.inr (hre q hq))
   ·exact List.mem_cons.2 (.inr (hcl j hj s hs' q hq))
  ·simpa using hs
  ·intro j hj
   by_cases hji:j=i
   ·subst hji;simp [hs,hil]
   ·rw [Array.getElem?_setIfInBounds,if_neg (Ne.symm hji),hl j hj];simp [hji]
  ·have:=b6Y (p:=fun x => !decide (x∈D)) (i:=i) (List.range l.length) (by simpa using hil) (by simpa using hiD)
   have e2:((List.range l.length).filter fun x => !decide (x∈i::D))=((List.range l.length).filter fun x=>(!decide (x∈D)) && x != i):=by
    apply List.filter_congr
    intro x _
    by_cases hx:x=i <;> by_cases hxD:x∈D <;> simp [hx,hxD]
   rw [e2]
   omega
def scriptOk (n:Nat) (tab:List Row) (all:List Nat) (S:List Stg):Bool:=tabOk tab && gdIn tab && scOk tab all [] S && tab.all (fun r=>match r.dst with|none=>true|some d=>Nat.blt d n) && !S.isEmpty
theorem st_stages {id:Nat} (e0:Ev) (tab:List Row) (all:List Nat) (S:List Stg) (hm:P.follows .mixedOrders=true) (he:Covers e e0) (hrows:l.map (fun o=>(o.dst,edgesOf o,o.guard))=tab.map (fun r=>(r.dst,r.edges,r.guard)))
  (hok:scriptOk n tab all S=true) (h:Wk P n e0 tab l (fun E H'=>Nx P k n (E++e) W H') S [] H):St P (.region id l.toArray true) k n e W H :=
 ⟨fun a w ho=>by
  simp only [scriptOk,Bool.and_eq_true] at hok
  obtain ⟨⟨⟨⟨ht,hin⟩,hsc⟩,hdst⟩,hne⟩:=hok
  have hlen:l.length=tab.length:=by simpa using congrArg List.length hrows
  obtain ⟨f1,f2,f3⟩:=tabOk.facts ht
  have hself:∀ i,i ∉ cloAt tab i:=by
   intro j hj
   cases hs:tab[j]? with
   | none=>simp [cloAt,hs] at hj
   | some s=>have:=f2 j s hs j (by simpa [cloAt,hs] using hj);omega
  have hgd:∀ i j b,gdAt tab i=some (j,b)→j∈cloAt tab i:=by
   intro i j b h
   obtain ⟨⟨s,hs,hj⟩,_⟩:=f3 i j b h
   have:=List.all_eq_true.1 hin s (List.mem_of_getElem? hs)
   simp only [List.all_eq_true,List.contains_eq_mem,decide_eq_true_eq] at this
   simpa [cloAt,hs] using this j hj
  cases S with
  | nil=>simp at hne
  | cons s ss =>
   obtain ⟨E,hst,_⟩:=wk_open f1 hgd hself hsc (by simp [look]) h
   refine wp_region_any hm ?_
   refine b9Y ht hrows (Mid2 P n e e0 tab l (fun E H'=>Nx P k n (E++e) W H') W all) (fun D i r hcl hi hr hre a w hm K hK=>mid2_step he ht hin hrows hdst hcl hi hr hre hm K hK) (fun D a w hall hm=>?_) _ _ [] _ _ List.nodup_nil (by simp) (by simp) (by simp) (fun i hi=>by simp [hi]) (Nat.le_trans (List.length_filter_le _ _) (by simp))
    ⟨ho.ev.size,ho.ev.defers,ho.ext.drew,fun t v hl _=>ho.ev.get t v hl,[],s,ss,E,H,hst,ho.sat,by simp,by simp,by simp⟩
   obtain ⟨done,s,ss,E,H,hst,hsat,hdD,hDd,hat⟩:=hm.at_
   have hs2:=hst.script
   simp only [scOk,stOk,Bool.and_eq_true] at hs2
   have hch:=hs2.1.2
   have hnx:=hst.next
   cases hc:s.ch with
   | some c =>
    rw [hc] at hch
    simp only [Bool.and_eq_true,decide_eq_true_eq,Bool.not_eq_true',List.contains_eq_mem,decide_eq_false_iff_not] at hch
    exact absurd (hDd c hch.1.1.2 (hall c (by omega))) hch.1.1.1.2
   | none =>
    rw [hc] at hnx
    refine Nx.out hnx a w ⟨⟨hm.size,hm.defers,fun t v hl=>?_⟩,hm.ext,hsat⟩
    rcases a6U _ _ t v hl with hl|⟨hn,hl⟩
    ·obtain ⟨i,hi,hid⟩:=hst.dom t v hl
     obtain ⟨u,hu,hu'⟩:=hat i (hall i (by omega)) t hid
     rw [hl] at hu
     injection hu with hu
     exact hu ▸ hu'
    ·refine hm.keep t v hl fun i hi hd=>?_
     have hit:i<tab.length:=by
      cases hs:tab[i]? with
      | none=>simp [dstAt,hs] at hd
      | some s=>exact (List.getElem?_eq_some_iff.1 hs).1
     obtain ⟨u,hu,_⟩:=hat i hi t hd
     rw [hn] at hu
     cases hu⟩
end
theorem b4R {α:Type} {p:α→Prop}:∀ y∈([]:List α),p y:=by simp
theorem a2N {α:Type} {p:α→Prop} {x:α} {l:List α} (h:p x) (t:∀ y∈l,p y):∀ y∈x::l,p y:=List.forall_mem_cons.2 ⟨h,t⟩
theorem a4L {α:Type} {H H':List Hl} {T:TypeId} {enc:α→Value} {b c:Nat} {l:List α} [s:SBox H b T (l.map enc) H'] (hc:l.length=c) (hb:Nat.ble c 9223372036854775807=true) (hh:Has H):Rs (stars H) enc (some ⟨b,0,none⟩) c l:=a2H hc (Nat.le_of_ble_eq_true hb) hh
theorem gd_r0 {tab:List Row} {i:Nat} {E:Ev} (h:gdAt tab i=none):gdRun tab i E:=fun j b hj=>by rw [h] at hj;cases hj
theorem gd_r1 {tab:List Row} {i j d:Nat} {b:Bool} {E:Ev} (h:gdAt tab i=some (j,b)) (hd:dstAt tab j=some d) (hl:look E d=some (.bool b)):gdRun tab i E:=fun j' b' hj=>by
 rw [h] at hj;cases hj;exact ⟨d,hd,hl⟩
theorem gd_o1 {tab:List Row} {i j d:Nat} {b:Bool} {E:Ev} (h:gdAt tab i=some (j,b)) (hd:dstAt tab j=some d) (hl:look E d=some (.bool (!b))):gdOff tab i E:=⟨j,b,d,h,hd,.inl hl⟩
theorem b0S {tab:List Row} {i d:Nat} {v:Value} {E:Ev} (h:dstAt tab i=some d):addE tab i v E=(d,v)::E:=by simp [addE,h]
theorem addE_none {tab:List Row} {i:Nat} {v:Value} {E:Ev} (h:dstAt tab i=none):addE tab i v E=E:=by simp [addE,h]
section
variable {P:Program} {n:Nat} {e:Ev} {tab:List Row} {l:List Oper} {H:List Hl} {ps rs:List Nat} {i d:Nat} {E E':Ev} {v:Value} {C:Ev→Prop} {op:Op} {ty:TypeId} {dst:Option Nat} {pos:String} {af:Array Edge} {g:Option (Nat × Bool)} {Fin:Ev→List Hl→Prop} {ss:List Stg} {ch:Option Nat}
theorem O1.cov {op:Op} {ty:TypeId} {E E':Ev} {C:Value→List Hl→Prop} (hc:Covers E E') (h:O1 P op ty n E' H C):O1 P op ty n E H C:=⟨fun a w ho=>h.out a w ⟨ho.ev.covers hc,ho.sat⟩⟩
theorem wk_end (h:OpenP P n e tab l H ps E fun E'=>ReP P n e tab l H E' rs∧Fin E' H):Wk P n e tab l Fin (⟨ps,rs,none⟩::ss) E H:=h
theorem wk_ch (h:OpenP P n e tab l H ps E fun E'=>ReP P n e tab l H E' rs∧((gdOff tab i E'∧Wk P n e tab l Fin ss (addE tab i undef E') H)∨Op1 P n e tab l i E' H fun v H'=>Wk P n e tab l Fin ss (addE tab i v E') H')):Wk P n e tab l Fin (⟨ps,rs,some i⟩::ss) E H:=h
theorem op_nil (h:C E):OpenP P n e tab l H [] E C:=h
theorem op_off (hd:dstAt tab i=some d) (hg:gdOff tab i E) (h:OpenP P n e tab l H ps ((d,undef)::E) C):OpenP P n e tab l H (i::ps) E C := .inl ⟨hg,by rw [b0S hd];exact h⟩
theorem op_run (hd:dstAt tab i=some d) (hg:gdRun tab i E) (ho:l[i]?=some ⟨dst,op,ty,pos,af,g⟩) (hc:Covers (envI tab e i E) E') (h1:O1 P op ty n E' H fun v' H'=>v'=v∧∀ h,stars H' h→stars H h) (h:OpenP P n e tab l H ps ((d,v)::E) C):OpenP P n e tab l H (i::ps) E C :=
 .inr ⟨v,⟨hg,_,ho,h1.cov hc⟩,by rw [b0S hd];exact h⟩
theorem re_nil {Q:Prop} (h:Q):ReP P n e tab l H E []∧Q:=⟨trivial,h⟩
theorem re_off {Q:Prop} (hd:dstAt tab i=some d) (hl:look E d=some undef) (hg:gdOff tab i E) (h:ReP P n e tab l H E rs∧Q):ReP P n e tab l H E (i::rs)∧Q :=
 ⟨⟨.inl ⟨hg,fun d' hd'=>by rw [hd] at hd';cases hd';exact hl⟩,h.1⟩,h.2⟩
theorem re_run {Q:Prop} (hd:dstAt tab i=some d) (hl:look E d=some v) (hg:gdRun tab i E) (ho:l[i]?=some ⟨dst,op,ty,pos,af,g⟩) (hc:Covers (envI tab e i E) E') (h1:O1 P op ty n E' H fun v' H'=>v'=v∧∀ h,stars H' h→stars H h) (h:ReP P n e tab l H E rs∧Q):ReP P n e tab l H E (i::rs)∧Q :=
 ⟨⟨.inr ⟨v,fun d' hd'=>by rw [hd] at hd';cases hd';exact hl,hg,_,ho,h1.cov hc⟩,h.1⟩,h.2⟩
theorem ch_off (hd:dstAt tab i=some d) (hg:gdOff tab i E) (h:Wk P n e tab l Fin ss ((d,undef)::E) H):(gdOff tab i E∧Wk P n e tab l Fin ss (addE tab i undef E) H)∨Op1 P n e tab l i E H fun v H'=>Wk P n e tab l Fin ss (addE tab i v E) H' := .inl ⟨hg,by rw [b0S hd];exact h⟩
theorem ch_run (hd:dstAt tab i=some d) (hg:gdRun tab i E) (ho:l[i]?=some ⟨dst,op,ty,pos,af,g⟩) (hc:Covers (envI tab e i E) E') (h:O1 P op ty n E' H fun v H'=>Wk P n e tab l Fin ss ((d,v)::E) H'):(gdOff tab i E∧Wk P n e tab l Fin ss (addE tab i undef E) H)∨Op1 P n e tab l i E H fun v H'=>Wk P n e tab l Fin ss (addE tab i v E) H' :=
 .inr ⟨hg,_,ho,by simp only [b0S hd];exact h.cov hc⟩
theorem ch_run_no (hd:dstAt tab i=none) (hg:gdRun tab i E) (ho:l[i]?=some ⟨dst,op,ty,pos,af,g⟩) (hc:Covers (envI tab e i E) E') (h:O1 P op ty n E' H fun _ H'=>Wk P n e tab l Fin ss E H'):(gdOff tab i E∧Wk P n e tab l Fin ss (addE tab i undef E) H)∨Op1 P n e tab l i E H fun v H'=>Wk P n e tab l Fin ss (addE tab i v E) H' :=
 .inr ⟨hg,_,ho,by simp only [addE_none hd];exact h.cov hc⟩
variable {k:Kon} {ops:Array Oper} {rest:List Oper} {W:World} {x y:Operand} {m:Nat}
theorem a0O {α:Type} (enc:α→Value) (ls:List α) {T E2:TypeId} {z:Value} {by_:Nat} {ps:List (Nat × Operand)} {us:List (Nat × Value)} {C:Value→List Hl→Prop} {e:Ev} [ht:TSl P T E2] [hi:TInf P E2 z 1 by_] (hps:opdi e ps=some us) (hidx:us.map (·.1)=List.range' 0 us.length) (hl:us.map (·.2)=ls.map enc) (henc:∀ x,(enc x).oneCell'=true) (hz:z.oneCell'=true) (hm:m=us.length) (hb:Nat.ble us.length 16777216=true)
  (h:∀ b,C (.slice (some ⟨b,0,none⟩) m m) (.box b E2 (ls.map enc)::H)):O1 P (.buildSlice T m ps.toArray) ty n e H C :=
 o1_lit hps hidx (fun u hu=>by
  have:u.2∈us.map (·.2):=List.mem_map.2 ⟨u,hu,rfl⟩
  rw [hl] at this
  obtain ⟨y,_,hy⟩:=List.mem_map.1 this
  rw [←hy];exact henc y) hz hm hb (fun b=>by rw [hl];exact h b)
def cutA (ad:Option Addr) (c lo:Nat):Option Addr:=if c=lo then ad else ad.map (·.add lo)
theorem Rs.cutv {α:Type} {A:Hp→Prop} {enc:α→Value} {ad:Option Addr} {c:Nat} {l:List α} (h:Rs A enc ad c l) (lo hi:Nat) (h1:lo≤hi) (h2:hi≤l.length):Rs A enc (cutA ad c lo) (c - lo) ((l.take hi).drop lo):=h.cut lo hi c h1 h2 (Nat.le_trans h2 h.le) (Nat.le_refl _)
theorem Rs.cutl {α:Type} {A:Hp→Prop} {enc:α→Value} {ad:Option Addr} {c:Nat} {l:List α} (h:Rs A enc ad c l) (lo:Nat) (h1:lo≤l.length):Rs A enc (cutA ad c lo) (c - lo) (l.drop lo):=by
 have:=h.cutv lo l.length h1 (Nat.le_refl _)
 rwa [List.take_length] at this
variable {α:Type} {A:Hp→Prop} {enc:α→Value} {ad:Option Addr} {c l0:Nat} {p q:Int} {kd kd':IntKind} {xs:List α} {T E2:TypeId} {z:Value} {by_:Nat} {C2:Value→List Hl→Prop}
theorem o1_cv_lh {ol oh:Operand} [ht:TSl P T E2] [hi':TInf P E2 z 1 by_] (hx:opd e x=some (.slice ad l0 c)) (hl:opd e ol=some (.int kd p)) (hh:opd e oh=some (.int kd' q)) (hr:Rs A enc ad c xs) (h0:l0=xs.length) (hp:0≤p∧p≤q) (h2:q≤xs.length)
  (h:C2 (.slice (cutA ad c p.toNat) ((xs.take q.toNat).drop p.toNat).length (c - p.toNat)) H):O1 P (.slice T x (some ol) (some oh) none) ty n e H C2:=by
 have hle:=hr.le
 have hlen:((xs.take q.toNat).drop p.toNat).length=q.toNat - p.toNat:=by simp;omega
 rw [hlen] at h
 exact o1_slice_lh (lo:=p.toNat) (hi:=q.toNat) hx (by rw [hl];congr 2;omega) (by rw [hh];congr 2;omega) (by omega) (by omega) (by simpa [cutA] using h)
theorem b9E {oh:Operand} [ht:TSl P T E2] [hi':TInf P E2 z 1 by_] (hx:opd e x=some (.slice ad l0 c)) (hh:opd e oh=some (.int kd' q)) (hr:Rs A enc ad c xs) (h0:l0=xs.length) (hp:0≤q) (h2:q≤xs.length)
  (h:C2 (.slice (cutA ad c 0) ((xs.take q.toNat).drop 0).length (c - 0)) H):O1 P (.slice T x none (some oh) none) ty n e H C2:=by
 have hle:=hr.le
 have hlen:((xs.take q.toNat).drop 0).length=q.toNat:=by simp;omega
 rw [hlen] at h
 exact b1E (hi:=q.toNat) hx (by rw [hh];congr 2;omega) (by omega) (by simpa [cutA] using h)
theorem b9D {ol:Operand} [ht:TSl P T E2] [hi':TInf P E2 z 1 by_] (hx:opd e x=some (.slice ad l0 c)) (hl:opd e ol=some (.int kd p)) (hr:Rs A enc ad c xs) (h0:l0=xs.length) (hp:0≤p) (h2:p≤xs.length)
  (h:C2 (.slice (cutA ad c p.toNat) (xs.drop p.toNat).length (c - p.toNat)) H):O1 P (.slice T x (some ol) none none) ty n e H C2:=by
 have hle:=hr.le
 have hlen:(xs.drop p.toNat).length=xs.length - p.toNat:=by simp
 rw [hlen] at h
 subst h0
 exact b4G (lo:=p.toNat) hx (by rw [hl];congr 2;omega) (by omega) (by simpa [cutA] using h)
end
theorem b8N {α:Type} (enc:α→Value):∀ (ys xs pre:List α),ys.length≤xs.length→putL ((pre++xs).map enc) pre.length (ys.map enc)=(pre++(ys++xs.drop ys.length)).map enc
 | [],xs,pre,_=>by simp [putL]
 | y::ys,[],pre,h=>by simp at h
 | y::ys,x::xs,pre,h=>by
  simp only [List.length_cons] at h
  have ih:=b8N enc ys xs (pre++[y]) (by omega)
  simp only [List.map_cons,putL]
  have e1:((pre++x::xs).map enc).set pre.length (enc y)=((pre++[y])++xs).map enc:=by simp
  rw [e1,show pre.length+1=(pre++[y]).length from by simp,ih]
  simp
section
variable {P:Program} {ops:Array Oper} {k:Kon} {rest:List Oper} {n:Nat} {e:Ev} {W:World} {H:List Hl}
variable {C:Value→List Hl→Prop} {ty:TypeId} {x y:Operand} {α:Type} {enc:α→Value} {T T2 E:TypeId} {z:Value} {by_:Nat}
theorem b8S {b m0 l0 c0 c:Nat} {ad:Option Addr} {xs ys:List α} {H':List Hl} [ht:TSl P T E] [hi:TInf P E z 1 by_] (hx:opd e x=some (.slice (some ⟨b,0,none⟩) m0 c0)) (hy:opd e y=some (.slice ad l0 c))
  [s:SBox H b E (xs.map enc) H'] (hm:m0=xs.length) (hr:RsH H enc ad c ys) (hl:l0=ys.length) (henc:∀ x,(enc x).oneCell'=true)
  (h:C (.int .i64 (min ys.length xs.length:Nat)) (.box b E ((ys.take xs.length++xs.drop ys.length).map enc)::H')):O1 P (.call ⟨.builtin .copy, #[x,y], #[T,T2]⟩) ty n e H C :=
 a6E fun a w ho=>by
  subst hm hl
  obtain ⟨i,hi0,hiz,his,hib⟩:=hi.info
  have hr:=hr ho.has
  cases ad with
  | none =>
   have hn:ys=[]:=by
    rcases ys with _|⟨q,ys⟩
    ·rfl
    ·obtain ⟨a,ha⟩:=hr.sm (by simp);cases ha
   subst hn
   refine ⟨_,w,?_,_,h,.refl w,?_⟩
   ·simp [execOp,resolve,invoke,builtin,ho.ev.eval hx,ho.ev.eval hy,Builtin.copy_,run_underlying ht.u,Builtin.lenOf,Builtin.firstCells,sizeOf,typeInfo,hi0,storeCells,goInt]
   ·simpa using a7G ho.sat s.s
  | some p =>
   have hl:=run_loadCells_list (P:=P) w p ((ys.take xs.length).map enc) (fun j v hj=>by
    simp only [List.getElem?_map,Option.map_eq_some_iff] at hj
    obtain ⟨u,hu,rfl⟩:=hj
    rw [List.getElem?_take] at hu
    split at hu
    ·exact hr.cell w ho.sat p rfl j u hu
    ·cases hu)
   obtain ⟨w',hst,hx',hsat⟩:=a4J (P:=P) (i0:=0) ((ys.take xs.length).map enc) 0 (xs.map enc) w (a7G ho.sat s.s) (by simp;omega) (by
    intro v hv
    obtain ⟨u,_,rfl⟩:=List.mem_map.1 hv
    exact henc u)
   have hp:=b8N enc (ys.take xs.length) xs [] (by simp;omega)
   simp only [List.nil_append,List.length_nil] at hp
   rw [hp] at hsat
   have hd:xs.drop (ys.take xs.length).length=xs.drop ys.length:=by
    simp only [List.length_take]
    rcases Nat.le_total xs.length ys.length with hle|hle
    ·rw [Nat.min_eq_left hle,List.drop_eq_nil_of_le (Nat.le_refl _),List.drop_eq_nil_of_le hle]
    ·rw [Nat.min_eq_right hle]
   rw [hd] at hsat
   have hlen:((ys.take xs.length).map enc).length=min ys.length xs.length:=by simp [Nat.min_comm]
   rw [hlen] at hl
   rw [List.map_take] at hst
   refine ⟨_,w',?_,_,h,hx',hsat⟩
   simp [execOp,resolve,invoke,builtin,ho.ev.eval hx,ho.ev.eval hy,Builtin.copy_,run_underlying ht.u,Builtin.lenOf,Builtin.firstCells,sizeOf,typeInfo,hi0,his,hl,hst,goInt]
end
abbrev Bs (s:SlD (BitVec 8)):Value := .slice s.ad s.l.length s.cap
abbrev cat (ls:List (SlD (BitVec 8))):List (BitVec 8):=ls.flatMap (·.l)
theorem a7B (ls:List (SlD (BitVec 8))) (i:Nat) (h:i<ls.length):cat (ls.take (i+1))=cat (ls.take i)++ls[i].l:=by
 simp only [cat]
 rw [List.take_succ_eq_append_getElem h,List.flatMap_append]
 simp
def rowOf (T:TypeId) (s:SlD (BitVec 8)):Hl := .row T 1 (Bs s) s.l.length (s.l.map B)
def pcs (T:TypeId) (ls:List (SlD (BitVec 8))):Hp→Prop:=stars (ls.map (rowOf T))
theorem c0U {T:TypeId} {R:List Hl}:∀ h,stars R h→stars (.any (pcs T [])::R) h:=fun h hh=>⟨fun _=>none,h,fun _ => .inl rfl,fun _ _ e=>(by cases e),.refl _,trivial,hh⟩
theorem pcs_push {T:TypeId} {ls:List (SlD (BitVec 8))} {s:SlD (BitVec 8)} {R:List Hl}:∀ h,stars (.row T 1 (Bs s) s.l.length (s.l.map B) :: .any (pcs T ls)::R) h→stars (.any (pcs T (ls++[s]))::R) h:=fun h hh=>by
 refine a0U (a3B hh) (fun h' x=>?_) (fun _ a=>a)
 show stars ((ls++[s]).map (rowOf T)) h'
 rw [List.map_append]
 refine a0W _ _ _ (a0U (a3L x) (fun _ a=>a) fun h2 y=>?_)
 exact ⟨h2,fun _=>none,fun _ => .inr rfl,.refl _,fun _ _ e=>(by cases e),y,trivial⟩
theorem b0B:∀ {L:List Hl} {x:Hl},x∈L→∃ L',Sel L x L'
 | y::L,x,h=>by
  rcases List.mem_cons.1 h with rfl|h
  ·exact ⟨_,.here⟩
  ·obtain ⟨L',hs⟩:=b0B h
   exact ⟨_,.there hs⟩
theorem b5D {T:TypeId} {ls:List (SlD (BitVec 8))} {s:SlD (BitVec 8)} {H H':List Hl} [sa:SAny H (pcs T ls) H'] (hm:s∈ls) (hh:Has H):Rs (stars H) B s.ad s.cap s.l:=by
 obtain ⟨L',hs⟩:=b0B (List.mem_map_of_mem (f:=rowOf T) hm)
 have key:∀ w,sat w (stars H)→sat w (stars (ls.map (rowOf T))):=fun w hw=>a6B sa.s w hw
 obtain ⟨w,hw⟩:=hh
 exact (Rs.of_row hs w (key w hw)).unvals.mono key
theorem b4Y {x y:Hl} {R:List Hl}:∀ h,stars (x::y::R) h→stars (y::x::R) h:=fun h hh=>(Sel.out (.there .here) h hh)
theorem st_row {P:Program} {k:Kon} {n:Nat} {e:Ev} {W:World} {H:List Hl} {co:Code} {b m cp:Nat} {T:TypeId} {cs:List Value} {H':List Hl} [s:SBox H b T cs H'] (hcp:cs.length=cp) (hm:m=cp) (hb:cp≤9223372036854775807)
  (h:St P co k n e W (.row T 1 (.slice (some ⟨b,0,none⟩) m cp) m cs::H')):St P co k n e W H:=by
 subst hm
 have hE:=a4Z (m:=m) (cp:=m) s.s hcp (Nat.le_refl _) hb
 rw [List.take_of_length_le (by omega)] at hE
 exact a3J hE h
section
variable {P:Program} {ops:Array Oper} {k:Kon} {rest:List Oper} {n:Nat} {e:Ev} {W:World} {H:List Hl}
variable {C:Value→List Hl→Prop} {ty:TypeId} {x y:Operand} {α:Type} {enc:α→Value} {T E:TypeId} {z:Value} {by_:Nat} {p q:Int} {kd kd':IntKind}
theorem b4Q {H2:List Hl} (hE:∀ h,stars H h→stars H2 h) (h:Nx P k n e W H2):Nx P k n e W H:=⟨fun a w ho=>h.out a w ⟨ho.ev,ho.ext,ho.sat.mono hE⟩⟩
theorem b9G {T:TypeId} {ls:List (SlD (BitVec 8))} {s:SlD (BitVec 8)} {R:List Hl} (hE:Ent H (.row T 1 (Bs s) s.l.length (s.l.map B) :: .any (pcs T ls)::R)) (h:Nx P k n e W (.any (pcs T (ls++[s]))::R)):Nx P k n e W H:=b4Q (fun h hh=>pcs_push h (hE.out h hh)) h
theorem a5D (z0:α) (m:Nat) [TSl P T E] [TInf P E z 1 by_] (hx:opd e x=some (.int kd p)) (hy:opd e y=some (.int kd' p)) (hz:z.oneCell'=true) (hz0:z=enc z0) (hp:p=m) (h2:by_*m≤281474976710656) (h3:m≤9223372036854775807)
  (h:∀ b,C (.slice (some ⟨b,0,none⟩) m m) (.box b E ((List.replicate m z0).map enc)::H)):O1 P (.makeSlice T x y) ty n e H C :=
 o1_make (lo:=m) (cp:=m) hz hx hy hp hp (Nat.le_refl _) h2 h3 (fun b=>by
  have:=h b
  rw [List.map_replicate,←hz0] at this
  exact this)
theorem o1_cs_lh {ad:Option Addr} {c l0:Nat} {xs:List α} {ol oh:Operand} (lo hi:Nat) [ht:TSl P T E] [hi':TInf P E z 1 by_] (hx:opd e x=some (.slice ad l0 c)) (hl:opd e ol=some (.int kd p)) (hh:opd e oh=some (.int kd' q)) (hp:p=lo) (hq:q=hi) (h0:l0=xs.length) (hc:xs.length≤c) (h1:lo≤hi) (h2:hi≤xs.length)
  (h:C (.slice (cutA ad c lo) ((xs.take hi).drop lo).length (c - lo)) H):O1 P (.slice T x (some ol) (some oh) none) ty n e H C:=by
 subst hp hq
 have hlen:((xs.take hi).drop lo).length=hi - lo:=by simp;omega
 rw [hlen] at h
 exact o1_slice_lh (lo:=lo) (hi:=hi) hx hl hh h1 (by omega) (by simpa [cutA] using h)
end
theorem putL_all:∀ (vs cs pre:List Value),vs.length=cs.length→putL (pre++cs) pre.length vs=pre++vs
 | [],[],pre,_=>by simp [putL]
 | v::vs,c::cs,pre,h=>by
  simp only [putL]
  have e:(pre++c::cs).set pre.length v=(pre++[v])++cs:=by simp
  rw [e,show pre.length+1=(pre++[v]).length from by simp,putL_all vs cs (pre++[v]) (by simpa using h)]
  simp
section
variable {P:Program} {ops:Array Oper} {k:Kon} {rest:List Oper} {n:Nat} {e:Ev} {W:World} {H:List Hl}
variable {C:Value→List Hl→Prop} {ty:TypeId} {x y:Operand} {α:Type} {enc:α→Value} {T E:TypeId} {z:Value} {by_:Nat} {p q:Int} {kd kd':IntKind}
theorem a6P {T T':TypeId} {z:Value} {s by_:Nat} [TAgg P T] [TInf P T z s by_] {b:Nat} {l:List α} {H':List Hl} (hx:opd e x=some (.pointer (some ⟨b,0,none⟩)))
  [sl:SBox H b T' (l.map enc) H'] (hs:l.length=s) (h:C (.agg (l.map enc).toArray) H):O1 P (.load T x) ty n e H C:=a9I hx (by rw [List.drop_zero,List.take_of_length_le (by simp;omega)]) (by simpa using hs) h
theorem a3N {T T':TypeId} {z:Value} {s by_:Nat} [TInf P T z s by_] {b:Nat} {l:List α} {cs:List Value} {H':List Hl} (hx:opd e x=some (.pointer (some ⟨b,0,none⟩))) (hy:opd e y=some (.agg (l.map enc).toArray))
  [sb:SBox H b T' cs H'] (hs:l.length=s) (hc:cs.length=s) (h1:∀ v,(enc v).oneCell'=true) (h:C undef (.box b T' (l.map enc)::H')):O1 P (.store T x y) ty n e H C :=
 a7U hx hy (by simpa using hs) (by simp;omega) (fun v hv=>by
  obtain ⟨u,_,rfl⟩:=List.mem_map.1 hv
  exact h1 u) (by have:=putL_all (l.map enc) cs [] (by simp;omega);simpa using this) h
theorem a2L {m b:Nat} [ht:TArr P T m E] [hi:TInf P E z 1 by_] (i:Nat) (hx:opd e x=some (.pointer (some ⟨b,0,none⟩))) (hy:opd e y=some (.int kd p)) (hp:p=i) (hlt:i<m)
  (h:C (.pointer (some ⟨b,i,none⟩)) H):O1 P (.indexAddr T x y) ty n e H C :=
 a6V hx hy (by omega) (by
  have:(0:Nat)+p.toNat*1=i:=by omega
  rw [this]
  exact h)
theorem o1_index_enc {m:Nat} {l:List α} [ht:TArr P T m E] [TOne P E] [hi:TInf P E z 1 by_] (i:Nat) (hx:opd e x=some (.agg (l.map enc).toArray)) (hy:opd e y=some (.int kd p)) (hp:p=i) (hlt:i<m) (hl:i<l.length)
  (h:C (enc l[i]) H):O1 P (.index T x y) ty n e H C :=
 a7W hx hy (by omega) (by
  have:p.toNat=i:=by omega
  rw [this];simp [hl]) h
theorem Rs.cuth {A:Hp→Prop} {ad:Option Addr} {c:Nat} {l:List α} (h:Rs A enc ad c l) (hi:Nat) (h2:hi≤l.length):Rs A enc (cutA ad c 0) (c - 0) (l.take hi):=by
 have:=h.cutv 0 hi (Nat.zero_le _) h2
 rwa [List.drop_zero] at this
theorem a5X {ad:Option Addr} {c l0:Nat} {xs:List α} {oh:Operand} (hi:Nat) [ht:TSl P T E] [hi':TInf P E z 1 by_] (hx:opd e x=some (.slice ad l0 c)) (hh:opd e oh=some (.int kd' q)) (hq:q=hi) (h0:l0=xs.length) (hc:xs.length≤c) (h2:hi≤xs.length)
  (h:C (.slice (cutA ad c 0) (xs.take hi).length (c - 0)) H):O1 P (.slice T x none (some oh) none) ty n e H C:=by
 subst hq
 have hlen:(xs.take hi).length=hi:=by simp;omega
 rw [hlen] at h
 exact b1E (hi:=hi) hx hh (by omega) (by simpa [cutA] using h)
theorem o1_load_h {T:TypeId} [TOne P T] {a:Addr} {v:Value} (hx:opd e x=some (.pointer (some a))) (hv:Cl (stars H) a v) (h:C v H):O1 P (.load T x) ty n e H C :=
 a1U v (fun f w ho=>by
  have hc:=hv.cell w ho.sat
  simp [execOp,ho.ev.eval hx,Instr.loadAt,Instr.sureAddr,loadVar,a6X,hc]) h
theorem row_prefix {T:TypeId} {ad:Option Addr} {N c m:Nat} {vs:List Value} (hm:m≤N):∀ h,Hl.den (.row T 1 (.slice ad N c) N vs) h→Hl.den (.row T 1 (.slice ad m c) m (vs.take m)) h:=by
 rintro h ⟨hl,h1|⟨g,cap,cur,hv,hh,a1,a2,a3,a4⟩⟩
 ·obtain ⟨hv,hn,he⟩:=h1
  injection hv with e1 e2 e3
  subst e1 e3
  have:m=0:=by omega
  subst this
  exact ⟨by simp,.inl ⟨rfl,rfl,he⟩⟩
 ·injection hv with e1 e2 e3
  subst e1 e3
  refine ⟨by simp;omega,.inr ⟨g,_,cur,rfl,hh,by omega,a2,a3,?_⟩⟩
  rw [←a4,List.take_take,Nat.mul_one,Nat.mul_one,Nat.min_eq_left hm]
theorem o1_prefix {ad:Option Addr} {N c:Nat} {xs:List α} {oh:Operand} {H':List Hl} (m:Nat) [ht:TSl P T E] [hi':TInf P E z 1 by_] (hx:opd e x=some (.slice ad N c)) (hh:opd e oh=some (.int kd' q)) (hq:q=m) [s:SRow H ad c N E (xs.map enc) H'] (hm:m≤N) (hN:N=xs.length)
  (h:C (.slice ad m c) (.row E 1 (.slice ad m c) m ((xs.take m).map enc)::H')):O1 P (.slice T x none (some oh) none) ty n e H C:=by
 subst hq
 refine ⟨fun a w ho o h1 h2 K Q hK=>O1.out ?_ a w ho o h1 h2 K Q hK⟩
 have hc:N≤c:=by
  subst hN
  exact (a0I (α:=α) (H:=H) (H':=H') (T:=E) (n:=xs.length) (ad:=ad) (c:=c) (enc:=enc) (l:=xs) ho.has).le
 refine O1.ent (H2 := .row E 1 (.slice ad m c) m ((xs.map enc).take m)::H') (fun h hh=>a0U (s.s.out h hh) (fun h' hr=>row_prefix hm h' hr) (fun _ a=>a)) ?_
 rw [←List.map_take]
 refine b1E (hi:=m) hx hh (by omega) ?_
 have e1:(if c=0 then ad else ad.map (·.add (0*1)))=ad:=by
  split
  ·rfl
  ·cases ad <;> simp [Addr.add]
 rw [e1]
 exact h
end
theorem nx_row {P:Program} {k:Kon} {n:Nat} {e:Ev} {W:World} {H:List Hl} {b m cp:Nat} {T:TypeId} {cs:List Value} {H':List Hl} [s:SBox H b T cs H'] (hcp:cs.length=cp) (hm:m=cp) (hb:cp≤9223372036854775807)
  (h:Nx P k n e W (.row T 1 (.slice (some ⟨b,0,none⟩) m cp) m cs::H')):Nx P k n e W H:=by
 subst hm
 have hE:=a4Z (m:=m) (cp:=m) s.s hcp (Nat.le_refl _) hb
 rw [List.take_of_length_le (by omega)] at hE
 exact b4Q hE h
theorem c0E {P:Program} {k:Kon} {n:Nat} {e:Ev} {W:World} {H:List Hl} {b m cp:Nat} {T:TypeId} {cs:List Value} {H':List Hl} [s:SBox H b T cs H'] (hcp:cs.length=cp) (hm:m=cp) (hb:cp≤9223372036854775807)
  (h:Rt P k n e W (.row T 1 (.slice (some ⟨b,0,none⟩) m cp) m cs::H')):Rt P k n e W H:=by
 subst hm
 have hE:=a4Z (m:=m) (cp:=m) s.s hcp (Nat.le_refl _) hb
 rw [List.take_of_length_le (by omega)] at hE
 exact a2A hE h
theorem b0G {P:Program} {n:Nat} {H:List Hl} {e:Ev} {C:Value→List Hl→Prop} {ty:TypeId} {x ol:Operand} {α:Type} {T E:TypeId} {z:Value} {by_:Nat} {p:Int} {kd:IntKind} {ad:Option Addr} {c l0:Nat} {xs:List α} (lo:Nat) [ht:TSl P T E] [hi':TInf P E z 1 by_] (hx:opd e x=some (.slice ad l0 c)) (hl:opd e ol=some (.int kd p)) (hp:p=lo) (h0:l0=xs.length) (h2:lo≤xs.length)
  (h:C (.slice (cutA ad c lo) (xs.drop lo).length (c - lo)) H):O1 P (.slice T x (some ol) none none) ty n e H C:=by
 subst hp h0
 have hlen:(xs.drop lo).length=xs.length - lo:=by simp
 rw [hlen] at h
 exact b4G (lo:=lo) hx hl (by omega) (by simpa [cutA] using h)
def idxA (ad:Option Addr) (i:Nat):Addr:=(ad.getD ⟨0,0,none⟩).add i
section
variable {P:Program} {n:Nat} {H:List Hl} {e:Ev} {C:Value→List Hl→Prop} {ty:TypeId} {x y:Operand} {α:Type} {A:Hp→Prop} {enc:α→Value} {T E:TypeId} {z:Value} {by_:Nat} {p:Int} {kd:IntKind} {ad:Option Addr} {c l0:Nat} {xs:List α}
theorem o1_ia (i:Nat) [ht:TSl P T E] [hi:TInf P E z 1 by_] (hx:opd e x=some (.slice ad l0 c)) (hy:opd e y=some (.int kd p)) (hr:Rs A enc ad c xs) (h0:l0=xs.length) (hp:p=i) (hl:i<xs.length)
  (h:C (.pointer (some (idxA ad i))) H):O1 P (.indexAddr T x y) ty n e H C:=by
 obtain ⟨a0,rfl⟩:=hr.sm (by omega)
 subst hp h0
 refine a1U _ (fun a w ho=>?_) h
 simp [execOp,ho.ev.eval hx,ho.ev.eval hy,Instr.indexAt,asIntOf,run_underlying ht.u,hl,a1L,idxA]
theorem Rs.at {i:Nat} (hr:Rs A enc ad c xs) (hl:i<xs.length):Cl A (idxA ad i) (enc xs[i]):=by
 obtain ⟨a0,rfl⟩:=hr.sm (by omega)
 exact ⟨fun w hs=>hr.cell w hs a0 rfl i _ (by simp [hl])⟩
theorem a1F (i:Nat) {T:TypeId} [TOne P T] {H':List Hl} (hx:opd e x=some (.pointer (some (idxA ad i)))) (hr:Rs A enc ad c xs) (hl:i<xs.length) [s:SAny H A H'] (h:C (enc xs[i]) H):O1 P (.load T x) ty n e H C:=a0L hx (hr.at hl) h
theorem a2B (i:Nat) [ht:TSl P T E] [hi:TInf P E z 1 by_] (hx:opd e x=some (.slice ad l0 c)) (hy:opd e y=some (.int kd p)) (hr:RsH H enc ad c xs) (h0:l0=xs.length) (hp:p=i) (hl:i<xs.length)
  (h:C (.pointer (some (idxA ad i))) H):O1 P (.indexAddr T x y) ty n e H C :=
 ⟨fun a w ho o h1 h2 K Q hK=>(o1_ia i hx hy (hr ho.has) h0 hp hl h).out a w ho o h1 h2 K Q hK⟩
theorem a1P (i:Nat) {T:TypeId} [TOne P T] (hx:opd e x=some (.pointer (some (idxA ad i)))) (hr:RsH H enc ad c xs) (hl:i<xs.length) (h:C (enc xs[i]) H):O1 P (.load T x) ty n e H C :=
 ⟨fun a w ho o h1 h2 K Q hK=>(o1_load_h hx ((hr ho.has).at hl) h).out a w ho o h1 h2 K Q hK⟩
end
theorem o1_neg {P:Program} {n:Nat} {H:List Hl} {e:Ev} {C:Value→List Hl→Prop} {ty t:TypeId} {x:Operand} {p:Int} (hx:opd e x=some (.int .i64 p)) (hb : -9223372036854775808 ≤ -p ∧ -p≤9223372036854775807) (h:C (.int .i64 (-p)) H):O1 P (.unOp .neg t x) ty n e H C :=
 a1U _ (fun a w ho=>by
  have hw:=a8B hb.1 hb.2
  simp [execOp,ho.ev.eval hx,unary_neg,Op.intArith,hw]) h
theorem c0F {P:Program} {n:Nat} {H:List Hl} {e:Ev} {C:Value→List Hl→Prop} {ty:TypeId} {x y:Operand} {T E:TypeId} {z:Value} {by_:Nat} {p:Int} {kd:IntKind} {b c l:Nat} (i:Nat) [ht:TSl P T E] [hi:TInf P E z 1 by_] (hx:opd e x=some (.slice (some ⟨b,0,none⟩) l c)) (hy:opd e y=some (.int kd p)) (hp:p=i) (hl:i<l)
  (h:C (.pointer (some ⟨b,i,none⟩)) H):O1 P (.indexAddr T x y) ty n e H C:=by
 subst hp
 refine o1_indexAddr_own hx hy (by omega) ?_
 have:0+(i:Int).toNat*1=i:=by omega
 rw [this]
 exact h
def xorL (a b:List (BitVec 8)):List (BitVec 8):=List.zipWith (· ^^^ ·) a b
theorem a6W (a b:List (BitVec 8)) (h:a.length=b.length):(xorL a b).length=a.length:=by simp [xorL];omega
def partL {α:Type} (a b:List α) (i:Nat):List α:=a.take i++b.drop i
theorem a2X {α:Type} {a b:List α} (h:a.length=b.length) (i:Nat):(partL a b i).length=b.length:=by simp [partL];omega
theorem a5O {α:Type} (a b:List α):partL a b 0=b:=rfl
theorem a3W {α:Type} {a b:List α} {i:Nat} (h:a.length=b.length) (hi:i=b.length):partL a b i=a:=by
 subst hi;simp [partL,←h]
theorem a3V {α:Type} {a b:List α} {i:Nat} (h:a.length=b.length) (hi:i<a.length):(partL a b i).set i a[i]=partL a b (i+1):=by
 apply List.ext_getElem?
 intro j
 simp only [partL,List.getElem?_set,List.getElem?_append,List.length_append,List.length_take,List.length_drop,List.getElem?_take,List.getElem?_drop]
 repeat' split
 all_goals first|rfl|(exfalso;omega)|skip
 all_goals simp_all
 all_goals (congr 1;omega)
theorem a6L {α:Type} {a b:List α} {i j:Nat} (h:a.length=b.length) (hij:i≤j) (hj:j<(partL a b i).length):(partL a b i)[j]=b[j]'(by rw [a2X h] at hj;exact hj):=by
 have hl:=a2X h i
 simp only [partL] at hj ⊢
 rw [List.getElem_append_right (by simp;omega)]
 simp only [List.getElem_drop,List.length_take]
 congr 1
 simp at hj
 omega
theorem b2V {α:Type} {a b:List α} {i j:Nat} (h:a.length=b.length) (hij:j<i) (hj:j<(partL a b i).length):(partL a b i)[j]=a[j]'(by rw [a2X h] at hj;omega):=by
 have hl:=a2X h i
 simp only [partL] at hj ⊢
 rw [List.getElem_append_left (by rw [a2X h] at hl;simp at hj ⊢;omega)]
 simp
theorem ent_shut (R:List Hl):∀ (K:List Hl) (h:Hp),stars (K++R) h→stars (K++[.any (stars R)]) h
 | [],h,hh=>⟨h,fun _=>none,fun _ => .inr rfl,.refl _,fun _ _ e=>(by cases e),hh,trivial⟩
 | x::K,h,hh=>a0U hh (fun _ a=>a) (ent_shut R K)
theorem ent_open (R:List Hl):∀ (K:List Hl) (h:Hp),stars (K++[.any (stars R)]) h→stars (K++R) h
 | [],h,⟨h1,h2,hd,s1,s2,ha,_⟩=>a8Z (L:=R) ha s1
 | x::K,h,hh=>a0U hh (fun _ a=>a) (ent_open R K)
theorem a0B {x:Hl} {R:List Hl} (h:Has (x::R)):Has R:=let ⟨w,hw⟩:=h;⟨w,sep_right hw⟩
section
variable {P:Program} {k:Kon} {n:Nat} {e:Ev} {W:World} {H:List Hl} {co:Code}
theorem st_has (h:Has H→St P co k n e W H):St P co k n e W H:=⟨fun a w ho=>(h ⟨w,ho.sat⟩).out a w ho⟩
theorem nx_has (h:Has H→Nx P k n e W H):Nx P k n e W H:=⟨fun a w ho=>(h ⟨w,ho.sat⟩).out a w ho⟩
theorem st_shut (K R:List Hl) (h:St P co k n e W (K++[.any (stars R)])):St P co k n e W (K++R):=a3J (ent_shut R K) h
theorem st_open (K R:List Hl) (h:St P co k n e W (K++R)):St P co k n e W (K++[.any (stars R)]):=a3J (ent_open R K) h
def frz (b:Nat) (T:TypeId) (cs:List Value):Hp→Prop:=fun h=>h=one b (.cells cs.toArray T (cs.length,cs.length+1))
theorem Rs.of_frz {α:Type} {enc:α→Value} {b:Nat} {T:TypeId} {l:List α} (hb:l.length≤9223372036854775807):Rs (frz b T (l.map enc)) enc (some ⟨b,0,none⟩) l.length l :=
 ⟨Nat.le_refl _,hb,fun _=>⟨_,rfl⟩,fun w ⟨h,hw,hh⟩ a ha i x hx=>by
  injection ha with ha
  subst ha
  have hh:h=one b (.cells (l.map enc).toArray T ((l.map enc).length,(l.map enc).length+1)):=hh
  have:=hw b (.cells (l.map enc).toArray T ((l.map enc).length,(l.map enc).length+1)) (by rw [hh];simp [one])
  have e1:(Addr.mk b 0 none).add i=⟨b,i,none⟩:=by
   by_cases h0:i=0
   ·subst h0;simp [Addr.add]
   ·simp [Addr.add,h0]
  rw [e1]
  simp [World.cell?,this,hx]⟩
theorem sat.freeze {w:World} {b:Nat} {T:TypeId} {cs:List Value} {H':List Hl} (h:sat w (stars (.box b T cs::H'))):sat (w.freeze ⟨b,cs.length,none⟩ 1) (stars (.any (frz b T cs)::H')):=by
 obtain ⟨x,hw,h1,h2,hd,s1,s2,hb,hr⟩:=h
 have hb:h1=one b (.cells cs.toArray T (0,0)):=hb
 have hbb:w.heap[b]?=some (.cells cs.toArray T (0,0)):=hw b _ (s1 b _ (by rw [hb];simp [one]))
 have h2b:h2 b=none:=by
  rcases hd b with h|h
  ·rw [hb] at h;simp [one] at h
  ·exact h
 have hf:∀ i,(w.freeze ⟨b,cs.length,none⟩ 1).heap[i]?=if i=b then some (.cells cs.toArray T (cs.length,cs.length+1)) else w.heap[i]?:=by
  intro i
  unfold World.freeze
  rw [if_neg (by decide)]
  show (w.heap.modify b _)[i]?=_
  rw [Array.getElem?_modify]
  by_cases hi:i=b
  ·subst hi;simp [hbb]
  ·simp [hi,Ne.symm hi]
 refine ⟨fun i=>if i=b then some (.cells cs.toArray T (cs.length,cs.length+1)) else h2 i,fun i o ho=>?_,one b (.cells cs.toArray T (cs.length,cs.length+1)),h2,fun i=>?_,fun i o ho=>?_,fun i o ho=>?_,rfl,hr⟩
 ·rw [hf]
  by_cases hi:i=b
  ·simpa [hi] using ho
  ·simp only [hi,if_false] at ho ⊢
   exact hw i o (s2 i o ho)
 ·by_cases hi:i=b
  ·subst hi;exact .inr h2b
  ·exact .inl (by simp [one,hi])
 ·by_cases hi:i=b
  ·subst hi;simpa [one] using ho
  ·simp [one,hi] at ho
 ·by_cases hi:i=b
  ·subst hi;rw [h2b] at ho;cases ho
  ·simpa [hi] using ho
theorem Ext.freeze (w:World) (a:Addr) (m:Nat):Ext w (w.freeze a m):=by
 unfold World.freeze
 split
 ·exact .refl w
 ·exact ⟨rfl,rfl,rfl,by simp⟩
theorem a6I {C:Value→List Hl→Prop} {ty t E T:TypeId} {x:Operand} {b m c:Nat} {cs:List Value} {H':List Hl} [ht:TSl P t E] [he:TInt P E .u8] (hx:opd e x=some (.slice (some ⟨b,0,none⟩) m c)) [s:SBox H b T cs H']
  (h:C (.slice (some ⟨b,0,none⟩) m c) (.any (frz b T cs)::H')):O1 P (.convert t t x) ty n e H C :=
 a6E fun a w ho=>by
  have hs:=a7G ho.sat s.s
  have hsh:w.shape? b=some (T,cs.length):=by
   have:=ho.sat.cells s.s
   simp [World.shape?,this]
  refine ⟨_,w.freeze ⟨b,cs.length,none⟩ 1,?_,_,h,Ext.freeze _ _ _,hs.freeze⟩
  simp [execOp,ho.ev.eval hx,convert,run_underlying ht.u,run_underlying he.u,markStringish,hsh]
end
theorem row_box {T:TypeId} {ad:Option Addr} {n c:Nat} {xs:List Value} {h:Hp} (hn:0<n) (hr:Hl.den (.row T 1 (.slice ad n c) n xs) h):∃ g cs,ad=some ⟨g,0,none⟩∧Hl.den (.box g T cs) h∧cs.length=c∧n≤c∧c≤9223372036854775807∧cs.take n=xs:=by
 obtain ⟨hl,⟨hv,h0,_⟩|⟨g,cap,cur,hv,hh,h1,h2,h3,h4⟩⟩:=hr
 ·omega
 ·injection hv with e1 e2 e3
  subst e1 e3
  refine ⟨g,cur.toList,rfl,?_,by simp [h3],h1,h2,by rw [←h4,Nat.mul_one]⟩
  show h=_
  rw [hh]
section
variable {P:Program} {n:Nat} {H:List Hl} {e:Ev} {C:Value→List Hl→Prop} {ty:TypeId} {x y:Operand}
theorem ox_store_row (k:Nat) {T2 T:TypeId} {z:Value} {by_:Nat} [TInf P T2 z 1 by_] {ad:Option Addr} {m c:Nat} {xs:List Value} {v:Value} {H':List Hl} (hx:opd e x=some (.pointer (some (idxA ad k)))) (hy:opd e y=some v)
  [s:SRow H ad c m T xs H'] (hk:k<m) (h1:v.oneCell'=true) (h:C undef (.row T 1 (.slice ad m c) m (xs.set k v)::H')):O1 P (.store T2 x y) ty n e H C :=
 ⟨fun a w ho o ho1 ho2 K Q hK=>by
  have hs:=a7G ho.sat s.s
  obtain ⟨h0,hw,r1,r2,hd,s1,s2,hr,hrest⟩:=hs
  obtain ⟨g,cs,had,hbox,hcl,hmc,hcb,htk⟩:=row_box (by omega) hr
  subst had
  have hsat:sat w (stars (.box g T cs::H')):=⟨h0,hw,r1,r2,hd,s1,s2,hbox,hrest⟩
  have e1:idxA (some ⟨g,0,none⟩) k=⟨g,k,none⟩:=by
   simp only [idxA,Option.getD_some]
   by_cases hk0:k=0
   ·subst hk0;simp [Addr.add]
   ·simp [Addr.add,hk0]
  rw [e1] at hx
  refine (o1_store (P:=P) (T:=T2) (ty:=ty) (n:=n) (e:=e) (H := .box g T cs::H') (C:=fun v' K=>v'=undef∧K = .box g T (cs.set k v)::H') hx hy .here (by omega) h1 ⟨rfl,rfl⟩).out a w ⟨ho.ev,hsat⟩ o ho1 ho2 K Q ?_
  rintro v' w' H2 ⟨rfl,rfl⟩ hx2 hs2
  refine hK _ _ _ h hx2 (hs2.mono fun hh h3=>?_)
  have:=a4Z (m:=m) (cp:=c) (.here:Sel (.box g T (cs.set k v)::H') _ _) (by simpa using hcl) hmc hcb hh h3
  rw [List.take_set,htk] at this
  exact this⟩
theorem a2R {α:Type} (enc:α→Value) (k:Nat) {T2 T:TypeId} {z:Value} {by_:Nat} [TInf P T2 z 1 by_] {ad:Option Addr} {m c:Nat} {l:List α} {v:α} {H':List Hl} (hx:opd e x=some (.pointer (some (idxA ad k)))) (hy:opd e y=some (enc v))
  [s:SRow H ad c m T (l.map enc) H'] (hk:k<m) (h1:(enc v).oneCell'=true) (h:C undef (.row T 1 (.slice ad m c) m ((l.set k v).map enc)::H')):O1 P (.store T2 x y) ty n e H C :=
 ox_store_row k hx hy hk h1 (by rw [←List.map_set];exact h)
end
theorem zeroCells_one (z:Value) (k:Nat) (hz:z.oneCell'=true):Builtin.zeroCells z.cells k=(List.replicate k z).toArray:=by
 apply Array.ext'
 rw [a3O hz]
 have:=toList_madeCells_one z k
 unfold madeCells at this
 simpa [Builtin.zeroCells] using this
theorem run_append_own_zeros {P:Program} (w:World) (t tn ty e:TypeId) (i:TypeInfo) (z:Value) (kn kq:IntKind) (ht:P.underlying t=some (.slice e)) (htn:P.underlying tn=some (.int kn)) (hi:P.info? e=some i) (hz:i.zero=some z)
  (hsize:i.size=1) (hzs:z.oneCell'=true) (v:Value) (n:Nat) (xs:List Value) (hown:w.ownsRow 0 e 1 v n xs) (k:Nat) (h63:n+k≤maxLen) (hbytes:(n+k)*i.bytes≤140737488355328) :
  ∃ v' w',(Builtin.append_ #[t,tn] ty #[v,.int kq k]).run P w = .ok v' w'∧w'.ownsRow 0 e 1 v' (n+k) (xs++List.replicate k z)∧w.grownBy w' v.ownBlock ∧
   (v'.ownBlock=v.ownBlock∨v'.ownBlock=some w.heap.size):=by
 have hsmall:n+k≤9223372036854775807:=by simp only [maxLen] at h63;omega
 have hzc:z.cells.size=1:=by rw [a3O hzs];rfl
 have hlen:(xs++List.replicate k z).length=(n+k)*1:=by rw [List.length_append,hown.1,List.length_replicate];omega
 have hw:IntKind.i64.wrap (k:Int)=k:=by rw [IntKind.wrap_i64];omega
 have hneg : ¬ ((k:Int)<0):=by omega
 have hkb:k*i.bytes≤140737488355328:=Nat.le_trans (Nat.mul_le_mul_right _ (by omega)) hbytes
 have h48i : ¬ (281474976710656<(k:Int)*(i.bytes:Int)):=by
  rw [←Int.natCast_mul]
  omega
 by_cases hk:k=0
 ·subst hk
  have hw0:IntKind.i64.wrap 0=0:=by rw [IntKind.wrap_i64];rfl
  refine ⟨v,w,?_,by simpa using hown,World.grownBy.refl w _,.inl rfl⟩
  rcases hown.2 with ⟨rfl,rfl⟩|⟨g,cap,cur,rfl,_,_,hnc,_⟩
  ·simp [Builtin.append_,run_underlying ht,run_underlying htn,sizeOf,typeInfo,hi,asInt,asIntOf,hw0]
  ·simp [Builtin.append_,run_underlying ht,run_underlying htn,sizeOf,typeInfo,hi,asInt,asIntOf,hw0,hnc,storeCells]
 have grown:∀ (old:Nat),old<n+k→∀ (row:Option Nat),
   (w.drew.alloc (.cells (xs.toArray++Builtin.zeroCells z.cells k++Builtin.zeroCells z.cells (grownCap w (n+k) old e - (n+k))) e)).ownsRow 0 e 1
    (.slice (some ⟨w.heap.size,0,none⟩) (n+k) (grownCap w (n+k) old e)) (n+k) (xs++List.replicate k z) ∧
   w.grownBy (w.drew.alloc (.cells (xs.toArray++Builtin.zeroCells z.cells k++Builtin.zeroCells z.cells (grownCap w (n+k) old e - (n+k))) e)) row:=by
  intro old ho row
  have hge:=grownCap_ge w (n+k) old e
  have hcm:grownCap w (n+k) old e≤maxLen:=grownCap_le_maxLen w (n+k) old e h63
  refine ⟨⟨hlen,.inr ⟨w.heap.size,_,_,rfl,Nat.zero_le _,_root_.Go.heap_alloc_new w.drew _,hge,hcm,?_,?_⟩⟩,⟨rfl,rfl,rfl,by simp,fun k hk _=>_root_.Go.heap_alloc_old w.drew _ hk⟩⟩
  ·simp only [Array.size_append,List.size_toArray,size_zeroCells,hzc,hown.1]
   omega
  ·rw [zeroCells_one z k hzs]
   simp only [Array.toList_append,List.append_assoc]
   rw [←List.append_assoc,←hlen]
   exact List.take_left
 rcases hown.2 with ⟨rfl,rfl⟩|⟨g,cap,cur,rfl,hbg,hg,hnc,hcm,hcs,htake⟩
 ·have hx:xs=[]:=List.eq_nil_of_length_eq_zero (by simpa using hown.1)
  subst hx
  have hr:=Lib.run_append_grow_zeros (P:=P) w t tn ty e i z kq kn ht htn hi hz none 0 0 [] (run_firstCells_none w.drew i.size 0 0 0) k (by omega) (by omega) (by omega) (by omega) (by omega) (growslice_fits (by omega) (by simpa using hbytes))
  have hgr:=grown 0 (by omega) (Value.ownBlock (.slice none 0 0))
  exact ⟨_,_,hr,hgr.1,hgr.2,Or.inr rfl⟩
 ·by_cases hroom:n+k≤cap
  ·have hst:=run_storeCells_at P g (n*1) e (List.replicate k z) 0 cur w hg (by rw [List.length_replicate,hcs];omega) (fun u hu=>by rw [List.eq_of_mem_replicate hu];exact hzs)
   simp only [Nat.add_zero] at hst
   have hzcl:(Builtin.zeroCells z.cells k).toList=List.replicate k z:=by rw [zeroCells_one z k hzs]
   have hr:(Builtin.append_ #[t,tn] ty #[.slice (some ⟨g,0,none⟩) n cap,.int kq k]).run P w = .ok (.slice (some ⟨g,0,none⟩) (n+k) cap) (w.setRow g (cur.toList.take (n*1)++List.replicate k z++cur.toList.drop (n*1+(List.replicate k z).length)).toArray):=by
    rw [Nat.mul_one] at hst
    simp [Builtin.append_,run_underlying ht,run_underlying htn,sizeOf,typeInfo,zeroValue,hi,hz,asInt,asIntOf,hw,hneg,h48i,hroom,hsize,hk,Addr.add_lit,hzcl,hst]
   refine ⟨_,_,hr,⟨hlen,.inr ⟨g,cap,_,rfl,hbg,setRow_heap w g cur _ e _ hg,hroom,hcm,?_,?_⟩⟩,⟨rfl,rfl,rfl,by simp,fun j _ hj=>setRow_other w g j _ (fun e=>hj (by simp [Value.ownBlock,e]))⟩,Or.inl rfl⟩
   ·simp only [List.size_toArray,List.length_append,List.length_take,List.length_drop,Array.length_toList,List.length_replicate]
    omega
   ·rw [htake,←hlen]
    exact List.take_left
  ·have holds:∀ j u,xs[j]?=some u→w.drew.cell? ((⟨g,0,none⟩:Addr).add j)=some u:=hown.cells (g:=g) rfl
   have hr:=Lib.run_append_grow_zeros (P:=P) w t tn ty e i z kq kn ht htn hi hz (some ⟨g,0,none⟩) n cap xs (run_firstCells_some w.drew i.size n ⟨g,0,none⟩ n cap xs (by rw [hsize];exact hown.1) holds) k (by omega) (by omega) (by omega) (by omega) (by omega) (growslice_fits (by omega) hbytes)
   have hgr:=grown cap (by omega) (Value.ownBlock (.slice (some ⟨g,0,none⟩) n cap))
   exact ⟨_,_,hr,hgr.1,hgr.2,Or.inr rfl⟩
section
variable {P:Program} {n:Nat} {H:List Hl} {e:Ev} {C:Value→List Hl→Prop} {ty:TypeId} {x y:Operand}
theorem ox_append_zeros {α:Type} {enc:α→Value} {T Tn E:TypeId} {z:Value} {by_:Nat} {kd kn:IntKind} (z0:α) {ad:Option Addr} {c a0 k:Nat} {p:Int} {xs:List α} {H':List Hl} [ht:TSl P T E] [htn:TInt P Tn kn] [hi:TInf P E z 1 by_] (hx:opd e x=some (.slice ad a0 c)) (hy:opd e y=some (.int kd p)) (hp:p=k)
  [s:SRow H ad c a0 E (xs.map enc) H'] (hz:z.oneCell'=true) (hz0:z=enc z0) (hb:(a0+k)*by_≤140737488355328) (hb2:a0+k≤9223372036854775807)
  (h:∀ ad2 c2,C (.slice ad2 (a0+k) c2) (.row E 1 (.slice ad2 (a0+k) c2) (a0+k) ((xs++List.replicate k z0).map enc)::H')) :
  O1 P (.call ⟨.builtin .append, #[x,y], #[T,Tn]⟩) ty n e H C :=
 a6E fun a w ho=>by
  subst hp
  obtain ⟨i,hi0,hiz,his,hib⟩:=hi.info
  have hown:=ho.sat.own s.s
  subst hib
  obtain ⟨v',w',hrun,h2,h3,h4⟩:=run_append_own_zeros (P:=P) w T Tn ty E i z kn kd ht.u htn.u hi0 hiz his hz _ _ _ hown k (by simp only [maxLen];omega) hb
  have hv:∃ ad2 c2,v' = .slice ad2 (a0+k) c2:=by
   rcases h2.2 with ⟨rfl,hn⟩|⟨g,cap,cur,rfl,_⟩
   ·exact ⟨none,0,by rw [hn]⟩
   ·exact ⟨_,_,rfl⟩
  obtain ⟨ad2,c2,rfl⟩:=hv
  have e1:xs.map enc++List.replicate k z=(xs++List.replicate k z0).map enc:=by rw [List.map_append,List.map_replicate,hz0]
  rw [e1] at h2
  refine ⟨_,w',?_,_,h ad2 c2,⟨h3.os,h3.tape,h3.output,h3.size⟩,ho.sat.grown s.s h2 h3 h4⟩
  simp [execOp,resolve,invoke,builtin,ho.ev.eval hx,ho.ev.eval hy,hrun]
theorem a7V {α:Type} {enc:α→Value} {T E:TypeId} {z:Value} {by_:Nat} {q:Int} {kd':IntKind} {ad:Option Addr} {c l0:Nat} {xs:List α} {oh:Operand} {H':List Hl} (hi:Nat) [ht:TSl P T E] [hi':TInf P E z 1 by_] (hx:opd e x=some (.slice ad l0 c)) (hh:opd e oh=some (.int kd' q)) [s:SRow H ad c l0 E (xs.map enc) H'] (hq:q=hi) (h0:l0=xs.length) (h2:hi≤xs.length)
  (h:C (.slice (cutA ad c 0) (xs.take hi).length (c - 0)) H):O1 P (.slice T x none (some oh) none) ty n e H C :=
 ⟨fun a w ho o h3 h4 K Q hK=>(a5X (xs:=xs) hi hx hh hq h0 (a0I (α:=α) (H:=H) (H':=H') (T:=E) (n:=l0) (ad:=ad) (c:=c) (enc:=enc) (l:=xs) ho.has).le h2 h).out a w ho o h3 h4 K Q hK⟩
end
end Go.Dp
