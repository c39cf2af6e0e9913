/-
  A region that draws its order, each operation told with what it needs and what it leaves.
  downpourtop: images, walked.
  downpourtop: what a device answers to a head's packets, the power on.
  downpourtop: awake, walked.
  downpourtop: TopSwitch, walked.
  What the listed table holds when the call begins, cell by cell.
  The structs and arrays of a row's input, laid open.
  Conditions: those that stand in each theorem.
-/
import Derived.Test.YtcblcmdikhllbaaGreatDoorQTopSwitch10
import Derived.Test.YtcblcmdikhllbaaGreatDoorQTopSwitch3
import Derived.Test.YtcblcmdikhllbaaGreatDoorQTopSwitch16
import Derived.Test.YtcblcmdikhllbaaGreatDoorQTopSwitch7
import Derived.Test.YtcblcmdikhllbaaGreatDoorQTopSwitch1
import Derived.Test.YtcblcmdikhllbaaGreatDoorRows
import Derived.LaidMore
import Derived.LaidHandle
import Derived.MakeChecks
import Derived.Test.YtcblcmdikhllbaaGreatDoorQTopSwitch4
set_option linter.unusedVariables false
set_option linter.unusedSimpArgs false
namespace Go.Dp
open Go.RowKit
theorem toks_hide (X Y R:List Hl):∀ h,stars (X++(Y++R)) h→stars (X++(R++[.any (stars Y)])) h:=fun h hh=>by
 refine stars_append' _ _ _ (sep_mono (stars_append _ _ _ hh) (fun _ a=>a) (fun h' hy=>?_))
 exact stars_append' _ _ _ (sep_mono (sep_comm (stars_append _ _ _ hy)) (fun _ a=>a) (fun h2 h3=>⟨h2,fun _=>none,fun _ => .inr rfl,.refl _,fun _ _ e=>(by cases e),h3,trivial⟩))
theorem toks_show (X Y R:List Hl):∀ h,stars (X++(R++[.any (stars Y)])) h→stars (X++(Y++R)) h:=fun h hh=>by
 refine stars_append' _ _ _ (sep_mono (stars_append _ _ _ hh) (fun _ a=>a) (fun h' hy=>?_))
 refine stars_append' _ _ _ (sep_comm (sep_mono (stars_append _ _ _ hy) (fun _ a=>a) (fun h2 h3=>?_)))
 obtain ⟨k1,k2,_,s1,_,a,_⟩:=h3
 exact stars_up a s1
theorem toks_weak (X Y R:List Hl):∀ h,stars (X++(Y++R)) h→stars (X++R) h:=fun h hh=>by
 refine stars_append' _ _ _ (sep_mono (stars_append _ _ _ hh) (fun _ a=>a) (fun h' hy=>?_))
 obtain ⟨k1,k2,_,_,s2,_,b⟩:=stars_append _ _ _ hy
 exact stars_up b s2
theorem toks_take {o:Nat→List Hl} {R:List Hl}:∀ (cs L:List Nat),cs.Nodup→L.Nodup→(∀ i∈cs,i∈L)→∃ L':List Nat,(∀ x,x∈L'↔x∈L∧x ∉ cs)∧L'.Nodup∧∀ h,stars (L.flatMap o++R) h→stars (cs.flatMap o++(L'.flatMap o++R)) h
 | [],L,_,hL,_=>⟨L,fun x=>by simp,hL,fun h hh=>hh⟩
 | c::cs,L,hc,hL,hs=>by
  obtain ⟨A,B,rfl⟩:=List.append_of_mem (hs c (by simp))
  rw [List.nodup_cons] at hc
  rw [List.nodup_append,List.nodup_cons] at hL
  obtain ⟨n1,⟨n2,n3⟩,n4⟩:=hL
  have hcA:c ∉ A:=fun h=>n4 c h c (by simp) rfl
  have hAB:(A++B).Nodup:=List.nodup_append.2 ⟨n1,n3,fun x hx y hy=>n4 x hx y (by simp [hy])⟩
  obtain ⟨L',e1,e2,e3⟩:=toks_take (o:=o) (R:=R) cs (A++B) hc.2 hAB (fun i hi=>by
   have:=hs i (by simp [hi])
   have hne:i≠c:=fun e=>hc.1 (e ▸ hi)
   simp only [List.mem_append,List.mem_cons] at this ⊢
   rcases this with h|h|h
   ·exact .inl h
   ·exact absurd h hne
   ·exact .inr h)
  refine ⟨L',fun x=>?_,e2,fun h hh=>?_⟩
  ·rw [e1]
   simp only [List.mem_append,List.mem_cons,not_or]
   constructor
   ·rintro ⟨h1,h2⟩
    have hne:x≠c:=fun e=>by
     subst e
     rcases h1 with h1|h1
     ·exact hcA h1
     ·exact n2 h1
    exact ⟨h1.imp id .inr,hne,h2⟩
   ·rintro ⟨h1,h2,h3⟩
    refine ⟨?_,h3⟩
    rcases h1 with h1|h1|h1
    ·exact .inl h1
    ·exact absurd h1 h2
    ·exact .inr h1
  ·have h1:stars (o c++((A++B).flatMap o++R)) h:=by
    rw [List.flatMap_append,List.flatMap_cons] at hh
    have h2:stars (A.flatMap o++(o c++(B.flatMap o++R))) h:=by simpa [List.append_assoc] using hh
    have h4:sep (stars (A.flatMap o)) (sep (stars (o c)) (stars (B.flatMap o++R))) h:=sep_mono (stars_append _ _ _ h2) (fun _ x=>x) (fun h' hy=>stars_append _ _ _ hy)
    have h5:sep (stars (o c)) (sep (stars (A.flatMap o)) (stars (B.flatMap o++R))) h:=sep_assoc (sep_mono (sep_assoc' h4) (fun _=>sep_comm) (fun _ x=>x))
    have h3:=stars_append' _ _ _ (sep_mono h5 (fun _ x=>x) (fun h' hy=>stars_append' _ _ _ hy))
    simpa [List.append_assoc] using h3
   have h2:=stars_append' _ _ _ (sep_mono (stars_append _ _ _ h1) (fun _ a=>a) (fun h' hy=>e3 h' hy))
   simpa [List.append_assoc] using h2
structure Dag (V:Type) where
 val:Nat→V→Value
 out:Nat→V→List Hl
 cons:Nat→List Nat
 fin:List Nat
section
variable {V:Type} (G:Dag V)
def Dag.env (tab:List Row) (ω:Nat→V):List Nat→Ev
 | []=>[]
 | i::l=>match dstAt tab i with
  | some d=>(d,G.val i (ω i))::Dag.env tab ω l
  | none=>Dag.env tab ω l
def Dag.toks (ω:Nat→V) (l:List Nat):List Hl:=l.flatMap (fun i=>G.out i (ω i))
def dagOk (n:Nat) (tab:List Row) (cons:Nat→List Nat) (fin:List Nat) (e0:Ev):Bool :=
 tabOk tab && (tab.all (fun r=>match r.dst with|none=>true|some d=>Nat.blt d n) && (tab.all (fun r=>r.guard.isNone) &&
 (((List.range tab.length).all fun i=>(cons i).Nodup && (cons i).all fun j=>(cloAt tab i).contains j && (List.range tab.length).all fun k=>k == i || !(cons k).contains j) &&
 (fin.Nodup && (fin.all fun i=>decide (i<tab.length) && (List.range tab.length).all fun k => !(cons k).contains i) && (e0.all fun x=>tab.all fun r=>r.dst != some x.1)))))
end
section
variable {P:Program} {k:Kon} {n:Nat} {e:Ev} {W:World} {l:List Oper} {tab:List Row} {V:Type} {G:Dag V} {R H:List Hl}
theorem look_mem:∀ {e:Ev} {t:Nat} {v:Value},look e t=some v→∃ x∈e,x.1=t
 | [],t,v,h=>by simp [look] at h
 | (j,u)::e,t,v,h=>by
  by_cases q:j=t
  ·exact ⟨(j,u),by simp,q⟩
  ·have hb:Nat.beq j t=false:=by cases hq:Nat.beq j t with|false=>rfl|true=>exact absurd (Nat.eq_of_beq_eq_true hq) q
   simp only [look,hb,cond_false] at h
   obtain ⟨x,hx,hxt⟩:=look_mem h
   exact ⟨x,by simp [hx],hxt⟩
structure MidG (P:Program) (n:Nat) (e:Ev) (tab:List Row) (G:Dag V) (R:List Hl) (W:World) (D:List Nat) (a:Act) (w:World):Prop where
 size:a.tmps.size=n
 defers:a.defers=[]
 ext:Ext W w
 inD:∀ i∈D,i<tab.length
 keep:∀ t v,look e t=some v→(∀ i∈D,dstAt tab i≠some t)→a.tmps[t]?=some v
 at_:∃ (ω:Nat→V) (L:List Nat),L.Nodup∧(∀ i∈L,i∈D)∧(∀ i∈D,(∀ j∈D,i ∉ G.cons j)→i∈L)∧(∀ i∈D,∀ d,dstAt tab i=some d→a.tmps[d]?=some (G.val i (ω i)))∧sat w (stars (G.toks ω L++R))
theorem env_look {tab:List Row} {ω:Nat→V}:∀ (l:List Nat) (t:Nat) (v:Value),look (G.env tab ω l) t=some v→∃ i∈l,dstAt tab i=some t∧v=G.val i (ω i)
 | [],t,v,h=>by simp [Dag.env,look] at h
 | i::l,t,v,h=>by
  unfold Dag.env at h
  cases hd:dstAt tab i with
  | none =>
   rw [hd] at h
   obtain ⟨j,hj,h1,h2⟩:=env_look l t v h
   exact ⟨j,by simp [hj],h1,h2⟩
  | some d =>
   rw [hd] at h
   dsimp only at h
   by_cases e:d=t
   ·subst e
    simp only [look,Nat.beq_refl,cond_true] at h
    exact ⟨i,by simp,hd,(Option.some.inj h).symm⟩
   ·have hb:Nat.beq d t=false:=by cases hq:Nat.beq d t with|false=>rfl|true=>exact absurd (Nat.eq_of_beq_eq_true hq) e
    simp only [look,hb,cond_false] at h
    obtain ⟨j,hj,h1,h2⟩:=env_look l t v h
    exact ⟨j,by simp [hj],h1,h2⟩
theorem env_none {tab:List Row} {ω:Nat→V}:∀ (l:List Nat) (t:Nat),look (G.env tab ω l) t=none→∀ j∈l,dstAt tab j≠some t
 | [],t,h,j,hj=>by cases hj
 | i::l,t,h,j,hj=>by
  unfold Dag.env at h
  intro hd
  cases hdi:dstAt tab i with
  | none =>
   rw [hdi] at h
   rcases List.mem_cons.1 hj with rfl|hj
   ·rw [hdi] at hd;cases hd
   ·exact env_none l t h j hj hd
  | some d =>
   rw [hdi] at h
   dsimp only at h
   by_cases e:d=t
   ·subst e
    simp only [look,Nat.beq_refl,cond_true] at h
    cases h
   ·have hb:Nat.beq d t=false:=by cases hq:Nat.beq d t with|false=>rfl|true=>exact absurd (Nat.eq_of_beq_eq_true hq) e
    simp only [look,hb,cond_false] at h
    rcases List.mem_cons.1 hj with rfl|hj
    ·rw [hdi] at hd;exact e (Option.some.inj hd)
    ·exact env_none l t h j hj hd
theorem toks_congr {ω ω':Nat→V} {l:List Nat} (h:∀ i∈l,ω i=ω' i):G.toks ω l=G.toks ω' l:=by
 unfold Dag.toks
 induction l with
 | nil=>rfl
 | cons x l ih=>rw [List.flatMap_cons,List.flatMap_cons,h x (by simp),ih (fun i hi=>h i (by simp [hi]))]
theorem st_dag {id:Nat} (G:Dag V) (e0:Ev) (tab:List Row) (R:List Hl) (hm:P.follows .mixedOrders=true) (he:Covers e e0) (hrows:l.map (fun o=>(o.dst,edgesOf o,o.guard))=tab.map (fun r=>(r.dst,r.edges,r.guard)))
  (hok:dagOk n tab G.cons G.fin e0=true) (ω0:Nat→V) (hR:Ent H R)
  (hop:∀ (ω:Nat→V) (A:Hp→Prop) (i:Nat) (o:Oper),l[i]?=some o→O1 P o.op o.type n (G.env tab ω (cloAt tab i)++e0) (G.toks ω (G.cons i)++(R++[.any A])) (fun v H'=>∃ x,v=G.val i x∧Ent H' (G.out i x++(R++[.any A]))))
  (h:∀ ω:Nat→V,Nx P k n (G.env tab ω (List.range tab.length)++e) W (G.toks ω G.fin++R)):St P (.region id l.toArray true) k n e W H :=
 ⟨fun a w ho=>by
  simp only [dagOk,Bool.and_eq_true] at hok
  obtain ⟨ht,hdst,hgn,hcs,⟨hfn,hfi⟩,he0⟩:=hok
  have hlen:l.length=tab.length:=by simpa using congrArg List.length hrows
  obtain ⟨f1,f2,f3⟩:=tabOk.facts ht
  have hc1:∀ i,i<tab.length→(G.cons i).Nodup∧∀ j∈G.cons i,j∈cloAt tab i∧∀ k,k<tab.length→j∈G.cons k→k=i:=fun i hi=>by
   have:=List.all_eq_true.1 hcs i (List.mem_range.2 hi)
   simp only [Bool.and_eq_true,decide_eq_true_eq,List.all_eq_true,List.contains_eq_mem,Bool.or_eq_true,beq_iff_eq,Bool.not_eq_true',decide_eq_false_iff_not,List.mem_range] at this
   refine ⟨this.1,fun j hj=>⟨(this.2 j hj).1,fun k hk hjk=>?_⟩⟩
   rcases (this.2 j hj).2 k hk with q|q
   ·exact q
   ·exact absurd hjk q
  have hfi2:∀ i∈G.fin,i<tab.length∧∀ k,k<tab.length→i ∉ G.cons k:=fun i hi=>by
   have:=List.all_eq_true.1 hfi i hi
   simp only [Bool.and_eq_true,decide_eq_true_eq,List.all_eq_true,List.contains_eq_mem,Bool.not_eq_true',decide_eq_false_iff_not,List.mem_range] at this
   exact this
  have he02:∀ t v,look e0 t=some v→∀ i,dstAt tab i≠some t:=fun t v hv i hd=>by
   obtain ⟨x,hx,hxt⟩:∃ x∈e0,x.1=t:=look_mem hv
   have:=List.all_eq_true.1 he0 x hx
   cases hs:tab[i]? with
   | none=>simp [dstAt,hs] at hd
   | some r =>
    have h2:=List.all_eq_true.1 this r (List.mem_of_getElem? hs)
    simp only [dstAt,hs,Option.bind_some] at hd
    rw [hd,hxt] at h2
    simp at h2
  refine wp_region_any hm ?_
  refine any_all2 ht hrows (MidG P n e tab G R W) (fun D i r hcl hi hr hre a w hm K hK=>?_) (fun D a w hall hm=>?_) _ _ [] _ _ List.nodup_nil (by simp) (by simp) (by simp) (fun i hi=>by simp [hi]) (Nat.le_trans (List.length_filter_le _ _) (by simp))
   ⟨ho.ev.size,ho.ev.defers,ho.ext.drew,by simp,fun t v hl _=>ho.ev.get t v hl,ω0,[],List.nodup_nil,by simp,by simp,by simp,ho.sat.mono (fun h hh=>hR.out h hh)⟩
  ·have hil:i<l.length:=by rw [hlen];exact (List.getElem?_eq_some_iff.1 hr).1
   have hilt:i<tab.length:=hlen ▸ hil
   have hoo:l[i]?=some l[i]:=List.getElem?_eq_getElem hil
   generalize l[i]=o at hoo
   have hrow:(o.dst,edgesOf o,o.guard)=(r.dst,r.edges,r.guard):=by
    have:=congrArg (fun x=>x[i]?) hrows
    simp only [List.getElem?_map,hoo,hr,Option.map_some,Option.some.injEq] at this
    exact this
   simp only [Prod.mk.injEq] at hrow
   obtain ⟨hd,hed,hg⟩:=hrow
   have hgr:r.guard=none:=by
    have:=List.all_eq_true.1 hgn r (List.mem_of_getElem? hr)
    simpa using this
   have hdn:∀ d,r.dst=some d→d<n:=by
    intro d hd
    have:=List.all_eq_true.1 hdst r (List.mem_of_getElem? hr)
    rw [hd] at this
    simpa [Nat.blt_eq] using this
   have hdi:dstAt tab i=r.dst:=by simp [dstAt,hr]
   have hci:cloAt tab i=r.clo:=by simp [cloAt,hr]
   have hcloD:∀ j∈cloAt tab i,j∈D:=by rw [hci];exact clo_done ht hcl i r hr hre
   obtain ⟨ω,L,hLn,hLD,hDL,hat,hsat⟩:=hm.at_
   obtain ⟨cn,cc⟩:=hc1 i hilt
   obtain ⟨L',e1,e2,e3⟩:=toks_take (o:=fun i=>G.out i (ω i)) (R:=R) (G.cons i) L cn hLn (fun j hj=>hDL j (hcloD j (cc j hj).1) (fun q hq hjq=>hi ((cc j hj).2 q (hm.inD q hq) hjq ▸ hq)))
   have hev:EvOk a n (G.env tab ω (cloAt tab i)++e0):=by
    refine ⟨hm.size,hm.defers,fun t v hl=>?_⟩
    rcases look_append _ _ t v hl with hl|hl
    ·obtain ⟨j,hj,hjd,rfl⟩:=env_look _ t v hl
     exact hat j (hcloD j hj) t hjd
    ·exact hm.keep t v (he.look t v hl) fun j hj hd'=>he02 t v hl j hd'
   have hsat2:sat w (stars (G.toks ω (G.cons i)++(R++[.any (stars (G.toks ω L'))]))):=hsat.mono fun h hh=>toks_hide _ _ _ h (e3 h hh)
   have hwant:Region.wanted o (yielded l.toArray a.tmps)=true:=by
    unfold Region.wanted
    rw [hg,hgr]
   unfold wpOp
   simp only [List.getElem?_toArray,hoo]
   rw [hwant]
   simp only [if_true]
   left
   refine (hop ω _ i o hoo).out a w ⟨hev,hsat2⟩ o rfl rfl K _ fun v w' H' hc hx hs=>hK _ _ ?_
   obtain ⟨x,hv,hE⟩:=hc
   have q1:∀ t,r.dst≠some t→(a.put o.dst v).tmps[t]?=a.tmps[t]?:=by
    intro t ht'
    rw [hd]
    cases hrd:r.dst with
    | none=>rfl
    | some d =>
     have:d≠t:=fun e=>by subst e;exact ht' hrd
     simp [Act.put,this]
   have q2:∀ d,r.dst=some d→(a.put o.dst v).tmps[d]?=some v:=fun d hrd=>by
    rw [hd,hrd];simp [Act.put,hm.size,hdn d hrd]
   have hne:∀ q∈D,q≠i:=fun q hq e=>hi (e ▸ hq)
   refine ⟨?_,?_,hm.ext.trans hx,?_,?_,fun j=>if j=i then x else ω j,i::L',?_,?_,?_,?_,?_⟩
   ·rw [hd];cases r.dst <;> simp [Act.put,hm.size]
   ·rw [hd];cases r.dst <;> simp [Act.put,hm.defers]
   ·intro q hq
    rcases List.mem_cons.1 hq with rfl|hq
    ·exact hilt
    ·exact hm.inD q hq
   ·intro t u hl hn
    rw [q1 t (fun e=>hn i (by simp) (hdi.trans e))]
    exact hm.keep t u hl (fun j hj=>hn j (by simp [hj]))
   ·exact List.nodup_cons.2 ⟨fun h=>hi (hLD i ((e1 i).1 h).1),e2⟩
   ·intro q hq
    rcases List.mem_cons.1 hq with rfl|hq
    ·simp
    ·simp [hLD q ((e1 q).1 hq).1]
   ·intro q hq hnc
    rcases List.mem_cons.1 hq with rfl|hq
    ·simp
    ·have h1:=hDL q hq (fun j hj=>hnc j (by simp [hj]))
     have h2:=hnc i (by simp)
     simp [(e1 q).2 ⟨h1,h2⟩]
   ·intro q hq d hqd
    rcases List.mem_cons.1 hq with rfl|hq
    ·rw [q2 d (hdi.symm.trans hqd),hv]
     simp
    ·rw [q1 d (fun e=>hi (f1 i q d (hdi.trans e) hqd ▸ hq)),hat q hq d hqd]
     simp [hne q hq]
   ·have e5:G.toks (fun j=>if j=i then x else ω j) (i::L')=G.out i x++G.toks ω L':=by
     unfold Dag.toks
     rw [List.flatMap_cons]
     simp only [if_true]
     congr 1
     exact toks_congr (G:=G) (fun q hq=>if_neg (hne q (hLD q ((e1 q).1 hq).1)))
    rw [e5,List.append_assoc]
    exact hs.mono fun h hh=>toks_show _ _ _ h (hE.out h hh)
  ·obtain ⟨ω,L,hLn,hLD,hDL,hat,hsat⟩:=hm.at_
   have hin:∀ i,i<tab.length→i∈D:=fun i hi=>hall i (by omega)
   obtain ⟨L',e1,e2,e3⟩:=toks_take (o:=fun i=>G.out i (ω i)) (R:=R) G.fin L (by simpa using hfn) hLn (fun j hj=>hDL j (hin j (hfi2 j hj).1) (fun q hq=>(hfi2 j hj).2 q (hm.inD q hq)))
   refine Nx.out (h ω) a w ⟨⟨hm.size,hm.defers,fun t v hl=>?_⟩,hm.ext,hsat.mono fun h hh=>toks_weak _ _ _ h (e3 h hh)⟩
   rcases look_append' _ _ t v hl with hl|⟨hn,hl⟩
   ·obtain ⟨j,hj,hjd,rfl⟩:=env_look _ t v hl
    exact hat j (hin j (List.mem_range.1 hj)) t hjd
   ·exact hm.keep t v hl fun j hj hd'=>env_none _ t hn j (List.mem_range.2 (hm.inD j hj)) hd'⟩
end
def allOps (Q:Nat→Oper→Prop):Nat→List Oper→Prop
 | _,[]=>True
 | m,o::l=>Q m o∧allOps Q (m+1) l
theorem allOps_out {Q:Nat→Oper→Prop}:∀ (l:List Oper) (m i:Nat) (o:Oper),allOps Q m l→l[i]?=some o→Q (m+i) o
 | [],m,i,o,_,h=>by simp at h
 | x::l,m,0,o,h,ho=>by
  simp at ho
  subst ho
  exact h.1
 | x::l,m,i+1,o,h,ho=>by
  have:=allOps_out l (m+1) i o h.2 (by simpa using ho)
  rw [show m+(i+1)=m+1+i by omega]
  exact this
theorem nx_cov {P:Program} {k:Kon} {n:Nat} {E E':Ev} {W:World} {H:List Hl} (hc:Covers E E') (h:Nx P k n E' W H):Nx P k n E W H:=⟨fun a w ho=>h.out a w ⟨⟨ho.ev.size,ho.ev.defers,fun t v hv=>ho.ev.get t v (hc.look t v hv)⟩,ho.ext,ho.sat⟩⟩
theorem O1.dag {P:Program} {op:Op} {ty:TypeId} {n:Nat} {E E':Ev} {H H':List Hl} {C:Value→List Hl→Prop} (hc:Covers E E') (hH:H=H') (h:O1 P op ty n E' H' C):O1 P op ty n E H C:=by
 subst hH
 exact ⟨fun a w ho=>h.out a w ⟨⟨ho.ev.size,ho.ev.defers,fun t v hv=>ho.ev.get t v (hc.look t v hv)⟩,ho.sat⟩⟩
section
variable {P:Program} {k:Kon} {n:Nat} {e:Ev} {W:World} {l:List Oper} {tab:List Row} {V:Type} {R H:List Hl}
theorem st_dags {id:Nat} (G:Dag V) (e0:Ev) (tab:List Row) (R:List Hl) (ω0:Nat→V) (hm:P.follows .mixedOrders=true) (he:Covers e e0) (hrows:l.map (fun o=>(o.dst,edgesOf o,o.guard))=tab.map (fun r=>(r.dst,r.edges,r.guard)))
  (hok:dagOk n tab G.cons G.fin e0=true) (hR:Ent H R)
  (hop:∀ (ω:Nat→V) (A:Hp→Prop),allOps (fun i o=>O1 P o.op o.type n (G.env tab ω (cloAt tab i)++e0) (G.toks ω (G.cons i)++(R++[.any A])) (fun v H'=>∃ x,v=G.val i x∧Ent H' (G.out i x++(R++[.any A])))) 0 l)
  (h:∀ ω:Nat→V,Nx P k n (G.env tab ω (List.range tab.length)++e) W (G.toks ω G.fin++R)):St P (.region id l.toArray true) k n e W H :=
 st_dag G e0 tab R hm he hrows hok ω0 hR (fun ω A i o ho=>by
  have:=allOps_out l 0 i o (hop ω A) ho
  rwa [Nat.zero_add] at this) h
end
open Go.RowKit Go.Proofs Sha
def imgTab:List Row:=[⟨some 6,[],[],none⟩,⟨some 7,[],[],none⟩,⟨some 8,[],[],none⟩,⟨some 9,[2],[2],none⟩,⟨some 10,[3],[2,3],none⟩,⟨some 11,[1,4],[1,2,3,4],none⟩,⟨some 12,[0,5],[0,1,2,3,4,5],none⟩,⟨some 13,[],[],none⟩,⟨some 14,[6,7,6],[0,1,2,3,4,5,6,7],none⟩,⟨some 15,[],[],none⟩,⟨some 16,[],[],none⟩,⟨some 17,[],[],none⟩,⟨some 18,[11],[11],none⟩,⟨some 19,[12],[11,12],none⟩,⟨some 20,[10,13],[10,11,12,13],none⟩,⟨some 21,[9,14,8],[0,1,2,3,4,5,6,7,8,9,10,11,12,13,14],none⟩,⟨some 22,[],[],none⟩,⟨some 23,[15,16,15],[0,1,2,3,4,5,6,7,8,9,10,11,12,13,14,15,16],none⟩,⟨some 4,[8,17,0,1,2,3,4,5,6,7,8],[0,1,2,3,4,5,6,7,8,9,10,11,12,13,14,15,16,17],none⟩,⟨some 5,[17,18,0,1,2,3,4,5,6,7,8,9,10,11,12,13,14,15,16,17,18],[0,1,2,3,4,5,6,7,8,9,10,11,12,13,14,15,16,17,18],none⟩]
abbrev ImV:=Nat × Option Addr × Nat
structure ImP where
 k1:Nat
 k2:Nat
 P1:List (BitVec 8)
 P2:List (BitVec 8)
 aa:Option Addr
 ac:Nat
 a:List (BitVec 8)
 ba:Option Addr
 bc:Nat
 b:List (BitVec 8)
def imgVal (q:ImP):Nat→ImV→Value
 | 0,x => .slice (some ⟨x.1,0,none⟩) 0 0
 | 1,_ => .slice q.aa q.a.length q.ac
 | 2,_ => .slice q.aa q.a.length q.ac
 | 3,_=>I q.a.length
 | 4,_=>I q.k1
 | 5,_ => .slice (cutA q.aa q.ac 0) q.P1.length (q.ac - 0)
 | 6,x => .slice x.2.1 (0+q.P1.length) x.2.2
 | 7,x => .slice (some ⟨x.1,0,none⟩) 1 1
 | 8,x => .slice x.2.1 (oneI q.a).length x.2.2
 | 9,x => .slice (some ⟨x.1,0,none⟩) 0 0
 | 10,_ => .slice q.ba q.b.length q.bc
 | 11,_ => .slice q.ba q.b.length q.bc
 | 12,_=>I q.b.length
 | 13,_=>I q.k2
 | 14,_ => .slice (cutA q.ba q.bc 0) q.P2.length (q.bc - 0)
 | 15,x => .slice x.2.1 (0+q.P2.length) x.2.2
 | 16,x => .slice (some ⟨x.1,0,none⟩) 1 1
 | 17,x => .slice x.2.1 (twoI q.b).length x.2.2
 | 18,x => .slice x.2.1 (oneI q.a).length x.2.2
 | 19,x => .slice x.2.1 (twoI q.b).length x.2.2
 | _,_=>undef
abbrev rowN (x:ImV) (n:Nat) (l:List (BitVec 8)):Hl := .row 5 1 (.slice x.2.1 n x.2.2) n (l.map B)
def imgOut (q:ImP):Nat→ImV→List Hl
 | 0,x=>[.box x.1 5 (([]:List (BitVec 8)).map B)]
 | 6,x=>[rowN x (0+q.P1.length) ([]++q.P1)]
 | 7,x=>[.box x.1 5 ([1#8].map B)]
 | 8,x=>[rowN x (oneI q.a).length (oneI q.a)]
 | 9,x=>[.box x.1 5 (([]:List (BitVec 8)).map B)]
 | 15,x=>[rowN x (0+q.P2.length) ([]++q.P2)]
 | 16,x=>[.box x.1 5 ([2#8].map B)]
 | 17,x=>[rowN x (twoI q.b).length (twoI q.b)]
 | 18,x=>[rowN x (oneI q.a).length (oneI q.a)]
 | 19,x=>[rowN x (twoI q.b).length (twoI q.b)]
 | _,_=>[]
def imgCons:Nat→List Nat
 | 6=>[0]
 | 8=>[6,7]
 | 15=>[9]
 | 17=>[15,16]
 | 18=>[8]
 | 19=>[17]
 | _=>[]
abbrev imgG (q:ImP):Dag ImV:=⟨imgVal q,imgOut q,imgCons,[18,19]⟩
set_option maxHeartbeats 8000000 in
theorem tp_images (H:List Hl) (aa ba:Option Addr) (ac bc:Nat) (a b:List (BitVec 8)) (ha:Rs (stars H) B aa ac a) (hb:Rs (stars H) B ba bc b) (hal:a.length≤4611686018427387904) (hbl:b.length≤4611686018427387904) :
  Spec Tryz.prog 10 [.slice aa a.length ac,.slice ba b.length bc] H (fun _:PA × PA=>True) (fun r => .tuple #[.slice r.1.1 (oneI a).length r.1.2,.slice r.2.1 (twoI b).length r.2.2]) (fun r=>rowB r.1 (oneI a)::rowB r.2 (twoI b)::H):=by
 refine spec_pure (res:=fun r:PA × PA=>[rowB r.1 (oneI a),rowB r.2 (twoI b)]) H Tryz.func10 rfl Tryz.ntmps10 (by kernel_rfl) rfl (fun W=>?_)
 have hale:=ha.le
 have hble:=hb.le
 obtain ⟨k1,hk1⟩:∃ k,k=min a.length 60:=⟨_,rfl⟩
 obtain ⟨k2,hk2⟩:∃ k,k=min b.length 60:=⟨_,rfl⟩
 have et1:a.take k1=a.take 60:=by rw [hk1,Nat.min_comm,←List.take_take,List.take_length]
 have et2:b.take k2=b.take 60:=by rw [hk2,Nat.min_comm,←List.take_take,List.take_length]
 obtain ⟨P1,hP1⟩:∃ P,a.take 60=P:=⟨_,rfl⟩
 obtain ⟨P2,hP2⟩:∃ P,b.take 60=P:=⟨_,rfl⟩
 rw [hP1] at et1
 rw [hP2] at et2
 have hl1:P1.length≤60:=by rw [←hP1,List.length_take];omega
 have hl2:P2.length≤60:=by rw [←hP2,List.length_take];omega
 have hr1:=ha.cutv 0 k1 (Nat.zero_le _) (by omega)
 have hr2:=hb.cutv 0 k2 (Nat.zero_le _) (by omega)
 rw [et1,List.drop_zero] at hr1
 rw [et2,List.drop_zero] at hr2
 have ho1:([]++P1)++[1#8]=oneI a:=by rw [←hP1];rfl
 have ho2:([]++P2)++[2#8]=twoI b:=by rw [←hP2];rfl
 have hol1:0+P1.length+1=(oneI a).length:=by rw [←ho1];simp
 have hol2:0+P2.length+1=(twoI b).length:=by rw [←ho2];simp
 repeat' (first|intro _|refine cw ?_|refine cw2 ?_ ?_|refine ow ?_|refine ow2 ?_ ?_|fail)
 refine st_dags (imgG ⟨k1,k2,P1,P2,aa,ac,a,ba,bc,b⟩) [(0,.slice aa a.length ac),(1,.slice ba b.length bc)] imgTab [.any (stars H)] (fun _=>(0,none,0)) mixed cv (by kernel_rfl) (by kernel_rfl) ent ?_ ?_
 ·intro ω A
  refine ⟨?_,?_,?_,?_,?_,?_,?_,?_,?_,?_,?_,?_,?_,?_,?_,?_,?_,?_,?_,?_,trivial⟩
  ·refine O1.dag (E':=[]) (H':=[.any (stars H),.any A]) cv rfl ?_
   refine o1_lit_enc (T:=22) B ([]:List (BitVec 8)) rfl rfl rfl (fun _=>rfl) rfl rfl rfl (fun bz=>?_)
   refine ⟨(bz,none,0),rfl,?_⟩
   show Ent _ [.box bz 5 ((([]:List (BitVec 8))).map B),.any (stars H),.any A]
   exact ent
  ·refine O1.dag (E':=[(0,.slice aa a.length ac)]) (H':=[.any (stars H),.any A]) cv rfl ?_
   refine o1_move rfl ?_
   refine ⟨(0,none,0),rfl,?_⟩
   show Ent _ [.any (stars H),.any A]
   exact ent
  ·refine O1.dag (E':=[(0,.slice aa a.length ac)]) (H':=[.any (stars H),.any A]) cv rfl ?_
   refine o1_move rfl ?_
   refine ⟨(0,none,0),rfl,?_⟩
   show Ent _ [.any (stars H),.any A]
   exact ent
  ·refine O1.dag (E':=[(8,.slice aa a.length ac)]) (H':=[.any (stars H),.any A]) cv rfl ?_
   refine o1_len rfl ?_
   refine ⟨(0,none,0),rfl,?_⟩
   show Ent _ [.any (stars H),.any A]
   exact ent
  ·refine O1.dag (E':=[(9,I a.length)]) (H':=[.any (stars H),.any A]) cv rfl ?_
   refine o1_min (r:=(k1:Int)) rfl rfl (by omega) ?_
   refine ⟨(0,none,0),rfl,?_⟩
   show Ent _ [.any (stars H),.any A]
   exact ent
  ·refine O1.dag (E':=[(7,.slice aa a.length ac),(10,I k1)]) (H':=[.any (stars H),.any A]) cv rfl ?_
   refine o1_cs_h (xs:=a) k1 rfl rfl rfl rfl hale (by omega) ?_
   rw [et1]
   refine ⟨(0,none,0),rfl,?_⟩
   show Ent _ [.any (stars H),.any A]
   exact ent
  ·refine O1.dag (E':=[(6,.slice (some ⟨(ω 0).1,0,none⟩) 0 0),(11,.slice (cutA aa ac 0) P1.length (ac - 0))]) (H':=[.box (ω 0).1 5 ((([]:List (BitVec 8))).map B),.any (stars H),.any A]) cv rfl ?_
   refine ox_append_box (b:=(ω 0).1) (xs:=[]) (ys:=P1) rfl rfl rfl rfl (fun _=>hr1.up) rfl rfl (fun _=>rfl) (by simp;omega) (by simp;omega) (fun a19 c19=>?_)
   refine ⟨(0,a19,c19),rfl,?_⟩
   show Ent _ [.row 5 1 (.slice a19 (0+P1.length) c19) (0+P1.length) (([]++P1).map B),.any (stars H),.any A]
   exact ent
  ·refine O1.dag (E':=[]) (H':=[.any (stars H),.any A]) cv rfl ?_
   refine o1_lit_enc B [1#8] rfl rfl rfl (fun _=>rfl) rfl rfl rfl (fun bz=>?_)
   refine ⟨(bz,none,0),rfl,?_⟩
   show Ent _ [.box bz 5 ([1#8].map B),.any (stars H),.any A]
   exact ent
  ·refine O1.dag (E':=[(12,.slice (ω 6).2.1 (0+P1.length) (ω 6).2.2),(13,.slice (some ⟨(ω 7).1,0,none⟩) 1 1)]) (H':=[.row 5 1 (.slice (ω 6).2.1 (0+P1.length) (ω 6).2.2) (0+P1.length) (([]++P1).map B),.box (ω 7).1 5 ([1#8].map B),.any (stars H),.any A]) cv rfl ?_
   refine ox_append (ad:=(ω 6).2.1) (c:=(ω 6).2.2) (xs:=[]++P1) (ys:=[1#8]) rfl rfl (rx_box (b:=(ω 7).1) rfl (by decide)) rfl rfl (fun _=>rfl) (by simp;omega) (by simp;omega) (fun a21 c21=>?_)
   rw [ho1,hol1]
   refine ⟨(0,a21,c21),rfl,?_⟩
   show Ent _ [.row 5 1 (.slice a21 (oneI a).length c21) (oneI a).length ((oneI a).map B),.any (stars H),.any A]
   exact ent
  ·refine O1.dag (E':=[]) (H':=[.any (stars H),.any A]) cv rfl ?_
   refine o1_lit_enc (T:=22) B ([]:List (BitVec 8)) rfl rfl rfl (fun _=>rfl) rfl rfl rfl (fun bz=>?_)
   refine ⟨(bz,none,0),rfl,?_⟩
   show Ent _ [.box bz 5 ((([]:List (BitVec 8))).map B),.any (stars H),.any A]
   exact ent
  ·refine O1.dag (E':=[(1,.slice ba b.length bc)]) (H':=[.any (stars H),.any A]) cv rfl ?_
   refine o1_move rfl ?_
   refine ⟨(0,none,0),rfl,?_⟩
   show Ent _ [.any (stars H),.any A]
   exact ent
  ·refine O1.dag (E':=[(1,.slice ba b.length bc)]) (H':=[.any (stars H),.any A]) cv rfl ?_
   refine o1_move rfl ?_
   refine ⟨(0,none,0),rfl,?_⟩
   show Ent _ [.any (stars H),.any A]
   exact ent
  ·refine O1.dag (E':=[(17,.slice ba b.length bc)]) (H':=[.any (stars H),.any A]) cv rfl ?_
   refine o1_len rfl ?_
   refine ⟨(0,none,0),rfl,?_⟩
   show Ent _ [.any (stars H),.any A]
   exact ent
  ·refine O1.dag (E':=[(18,I b.length)]) (H':=[.any (stars H),.any A]) cv rfl ?_
   refine o1_min (r:=(k2:Int)) rfl rfl (by omega) ?_
   refine ⟨(0,none,0),rfl,?_⟩
   show Ent _ [.any (stars H),.any A]
   exact ent
  ·refine O1.dag (E':=[(16,.slice ba b.length bc),(19,I k2)]) (H':=[.any (stars H),.any A]) cv rfl ?_
   refine o1_cs_h (xs:=b) k2 rfl rfl rfl rfl hble (by omega) ?_
   rw [et2]
   refine ⟨(0,none,0),rfl,?_⟩
   show Ent _ [.any (stars H),.any A]
   exact ent
  ·refine O1.dag (E':=[(15,.slice (some ⟨(ω 9).1,0,none⟩) 0 0),(20,.slice (cutA ba bc 0) P2.length (bc - 0))]) (H':=[.box (ω 9).1 5 ((([]:List (BitVec 8))).map B),.any (stars H),.any A]) cv rfl ?_
   refine ox_append_box (b:=(ω 9).1) (xs:=[]) (ys:=P2) rfl rfl rfl rfl (fun _=>hr2.up) rfl rfl (fun _=>rfl) (by simp;omega) (by simp;omega) (fun a19 c19=>?_)
   refine ⟨(0,a19,c19),rfl,?_⟩
   show Ent _ [.row 5 1 (.slice a19 (0+P2.length) c19) (0+P2.length) (([]++P2).map B),.any (stars H),.any A]
   exact ent
  ·refine O1.dag (E':=[]) (H':=[.any (stars H),.any A]) cv rfl ?_
   refine o1_lit_enc B [2#8] rfl rfl rfl (fun _=>rfl) rfl rfl rfl (fun bz=>?_)
   refine ⟨(bz,none,0),rfl,?_⟩
   show Ent _ [.box bz 5 ([2#8].map B),.any (stars H),.any A]
   exact ent
  ·refine O1.dag (E':=[(21,.slice (ω 15).2.1 (0+P2.length) (ω 15).2.2),(22,.slice (some ⟨(ω 16).1,0,none⟩) 1 1)]) (H':=[.row 5 1 (.slice (ω 15).2.1 (0+P2.length) (ω 15).2.2) (0+P2.length) (([]++P2).map B),.box (ω 16).1 5 ([2#8].map B),.any (stars H),.any A]) cv rfl ?_
   refine ox_append (ad:=(ω 15).2.1) (c:=(ω 15).2.2) (xs:=[]++P2) (ys:=[2#8]) rfl rfl (rx_box (b:=(ω 16).1) rfl (by decide)) rfl rfl (fun _=>rfl) (by simp;omega) (by simp;omega) (fun a21 c21=>?_)
   rw [ho2,hol2]
   refine ⟨(0,a21,c21),rfl,?_⟩
   show Ent _ [.row 5 1 (.slice a21 (twoI b).length c21) (twoI b).length ((twoI b).map B),.any (stars H),.any A]
   exact ent
  ·refine O1.dag (E':=[(14,.slice (ω 8).2.1 (oneI a).length (ω 8).2.2)]) (H':=[.row 5 1 (.slice (ω 8).2.1 (oneI a).length (ω 8).2.2) (oneI a).length ((oneI a).map B),.any (stars H),.any A]) cv rfl ?_
   refine o1_assign rfl ?_
   refine ⟨ω 8,rfl,?_⟩
   show Ent _ [.row 5 1 (.slice (ω 8).2.1 (oneI a).length (ω 8).2.2) (oneI a).length ((oneI a).map B),.any (stars H),.any A]
   exact ent
  ·refine O1.dag (E':=[(23,.slice (ω 17).2.1 (twoI b).length (ω 17).2.2)]) (H':=[.row 5 1 (.slice (ω 17).2.1 (twoI b).length (ω 17).2.2) (twoI b).length ((twoI b).map B),.any (stars H),.any A]) cv rfl ?_
   refine o1_assign rfl ?_
   refine ⟨ω 17,rfl,?_⟩
   show Ent _ [.row 5 1 (.slice (ω 17).2.1 (twoI b).length (ω 17).2.2) (twoI b).length ((twoI b).map B),.any (stars H),.any A]
   exact ent
 ·intro ω
  refine nx_ent (H2:=[rowB (ω 18).2 (oneI a),rowB (ω 19).2 (twoI b),.any (stars H)]) (fun h hh=>hh) ?_
  refine nx_cov (E':=[(4,.slice (ω 18).2.1 (oneI a).length (ω 18).2.2),(5,.slice (ω 19).2.1 (twoI b).length (ω 19).2.2)]) cv ?_
  repeat' (first|intro _|refine cw ?_|refine cw2 ?_ ?_|refine ow ?_|refine ow2 ?_ ?_|fail)
  refine rt_tmp2 ((ω 18).2,(ω 19).2) rfl rfl rfl rfl trivial ?_
  exact ent
abbrev mOf (p:Prm) (v:BitVec 32) (im:List (BitVec 8)):ManD:=hdM p v im.length (sha im) (none,0)
abbrev fstP (p:Prm) (v:BitVec 32) (im:List (BitVec 8)):List (BitVec 8):=fstB keyT p v im.length (sha im)
theorem mOf_pr {p:Prm} {v:BitVec 32} {im:List (BitVec 8)} (h:HdOk keyT p im (sha im)):prM keyT (fstP p v im)=(mOf p v im,0):=by
 have hm:=h.may v (none,0)
 have:=(prM_by (key:=keyT) hm rfl rfl).1
 rw [(manO_by' hm).2] at this
 exact this
theorem mOf_is {p:Prm} {v:BitVec 32} {im:List (BitVec 8)} (h:HdOk keyT p im (sha im)):IsP (mOf p v im) p im.length:=⟨h.ok,rfl,rfl,rfl,rfl,h.ct⟩
abbrev hearS (s:StD) (p:Prm) (v:BitVec 32) (im:List (BitVec 8)):StD:=admitS s (mOf p v im) (none,0) (none,0) (none,0)
abbrev stoU (p:Prm) (g:BitVec 32) (im:List (BitVec 8)) (rdy:Int) (ids:List (BitVec 32)):Sto:=⟨p,g,im.length,rdy,ids.length,decU p im ids⟩
theorem top_hear_I {f:Fl} {n:Nat} {s:StD} {im:List (BitVec 8)} {p:Prm} {v:BitVec 32} {im2:List (BitVec 8)} (h:DevF f n s im) (hn:n<90) (hk:HdOk keyT p im2 (sha im2)) (he:errOf s (mOf p v im2)=0) :
  ∃ f1,DevF f1 (n+1) (hearS s p v im2) im∧∀ (H:List Hl) (db:Nat) (ad:Option Addr) (c:Nat),TabF (stars H)→Rs (stars H) B ad c (frameB 1#8 (fstP p v im2)) →
   Spec Tryz.prog 12 [.pointer (some ⟨db,0,none⟩),.slice ad 85 c] (.any (dvI keyT f s db)::H) (fun _:Unit=>True) (fun _=>I 0) (fun _ => .any (dvL keyT f1 (hearS s p v im2) (stoU p (s.g+1#32) im2 (-1) []) db)::H):=by
 obtain ⟨f1,h1,h2,h3,h4⟩:=dev_hear (m:=mOf p v im2) (len:=im2.length) h hn (hk.may v (none,0)) hk.ok (fun _=>[])
 refine ⟨f1,h2,fun H db ad c ht hb=>?_⟩
 have:=pk_hears_I H db keyT f s ad 85 c (fstP p v im2) hb (by rw [fstB_len hk]) (by rw [fstB_len hk];decide) (by rw [fstB_len hk];decide) hk.kl (mOf p v im2) p im2.length (fun _=>[]) f1 (mOf_pr hk) h.may (hk.may v (none,0)) he h.up (mOf_is hk) ht h1 h2.up (fun r hr=>by rw [h3] at hr;cases hr)
 rw [h4,←decU_nil p im2] at this
 exact this
theorem top_hear_L {f:Fl} {n:Nat} {s:StD} {im:List (BitVec 8)} {p:Prm} {v:BitVec 32} {im2:List (BitVec 8)} (st:Sto) (h:DevF f n s im) (hn:n<90) (hk:HdOk keyT p im2 (sha im2)) (he:errOf s (mOf p v im2)=0) :
  ∃ f1,DevF f1 (n+1) (hearS s p v im2) im∧∀ (H:List Hl) (db:Nat) (ad:Option Addr) (c:Nat),TabF (stars H)→Rs (stars H) B ad c (frameB 1#8 (fstP p v im2)) →
   Spec Tryz.prog 12 [.pointer (some ⟨db,0,none⟩),.slice ad 85 c] (.any (dvL keyT f s st db)::H) (fun _:Unit=>True) (fun _=>I 0) (fun _ => .any (dvL keyT f1 (hearS s p v im2) (stoU p (s.g+1#32) im2 (-1) []) db)::H):=by
 obtain ⟨f1,h1,h2,h3,h4⟩:=dev_hear (m:=mOf p v im2) (len:=im2.length) h hn (hk.may v (none,0)) hk.ok (fun _=>[])
 refine ⟨f1,h2,fun H db ad c ht hb=>?_⟩
 have:=pk_hears_L H db keyT f s st ad 85 c (fstP p v im2) hb (by rw [fstB_len hk]) (by rw [fstB_len hk];decide) (by rw [fstB_len hk];decide) hk.kl (mOf p v im2) p im2.length (fun _=>[]) f1 (mOf_pr hk) h.may (hk.may v (none,0)) he h.up (mOf_is hk) ht h1 h2.up (fun r hr=>by rw [h3] at hr;cases hr)
 rw [h4,←decU_nil p im2] at this
 exact this
theorem top_no_L {s:StD} {p:Prm} {v:BitVec 32} {im2:List (BitVec 8)} {e:Int} (hk:HdOk keyT p im2 (sha im2)) (he:errOf s (mOf p v im2)=e) (h0:e≠0) (h11:e≠11) (H:List Hl) (db:Nat) (f:Fl) (st:Sto) (ad:Option Addr) (c:Nat) (hb:Rs (stars H) B ad c (frameB 1#8 (fstP p v im2))) :
  Spec Tryz.prog 12 [.pointer (some ⟨db,0,none⟩),.slice ad 85 c] (.any (dvL keyT f s st db)::H) (fun _:Unit=>True) (fun _=>I e) (fun _ => .any (dvL keyT f s st db)::H) :=
 pk_hears_no_L H db keyT f s st ad 85 c (fstP p v im2) hb (by rw [fstB_len hk]) (by rw [fstB_len hk];decide) (by rw [fstB_len hk];decide) hk.kl (mOf p v im2) e (mOf_pr hk) he h0 h11
abbrev symP (p:Prm) (im:List (BitVec 8)) (id:BitVec 32):List (BitVec 8):=symB p.s id (datP p im (unitV p id))
theorem symP_len (p:Prm) (im:List (BitVec 8)) (id:BitVec 32):(symP p im id).length=8+p.z:=by
 rw [symP,←symB_len,datD_len]
theorem top_take {f:Fl} {n:Nat} {s:StD} {im im2:List (BitVec 8)} {p:Prm} {rdy:Int} {ids:List (BitVec 32)} {id:BitVec 32} (h:DevF f n s im) (hn:n<90) (hk:HdOk keyT p im2 (sha im2)) (ho:s.on=true) (hp:IsP s.m p im2.length) (hL:LiveW f.bs s.g p.z rdy ids.length) (hids:∀ x∈ids,x.toNat<p.k) (hnd:ids.Nodup) (hid:id.toNat<p.k) (hnew:id ∉ ids) (hlt:ids.length+1<p.k) :
  ∃ f1,DevF f1 (n+1) s im∧LiveW f1.bs s.g p.z ((ids.length / plW p.z:Nat):Int) (ids++[id]).length∧∀ (H:List Hl) (db:Nat) (ad:Option Addr) (c:Nat),TabF (stars H)→Rs (stars H) B ad c (frameB 2#8 (symP p im2 id)) →
   Spec Tryz.prog 12 [.pointer (some ⟨db,0,none⟩),.slice ad (8+p.z+9) c] (.any (dvL keyT f s (stoU p s.g im2 rdy ids) db)::H) (fun _:Unit=>True) (fun _=>I 0) (fun _ => .any (dvL keyT f1 s (stoU p s.g im2 ((ids.length / plW p.z:Nat):Int) (ids++[id])) db)::H):=by
 obtain ⟨p1,p2,p3,p4,p5⟩:=hk.ok.out
 obtain ⟨f1,h1,h2,h3⟩:=dev_take (im2:=im2) (len:=im2.length) h hn hk.ok rfl hL hids hid hnew (by omega)
 refine ⟨f1,h2,h3,fun H db ad c ht hb=>?_⟩
 have hdl:(datP p im2 (unitV p id)).length=p.z:=datD_len _ _ _
 have hc:cntS (decU p im2 ids).M=p.p+ids.length:=decU_cnt ids hids hnd
 have hc1:cntS (decU p im2 (ids++[id])).M=p.p+ids.length+1:=by rw [(decU_take (im:=im2) hids hid hnew).2.2,hc]
 have hpn:p.n=p.k+p.p:=rfl
 have hw8:=(plW_b p4 p5).1
 exact pk_takes H db keyT f s (stoU p s.g im2 rdy ids) ad (8+p.z+9) c (symP p im2 id) hb (by rw [symP_len]) (by rw [symP_len];omega) (by rw [symP_len];omega) hk.kl p.s id (datP p im2 (unitV p id)) rfl (by omega) (by omega) im2.length (unitV p id) ho hp rfl hdl (decU_RR p im2 ids) (by show ids.length≤1000;omega) (row_unit p id hk.ok hid) h.up (by show ids.length≤8*plW p.z;omega) ht f1 _ h1 hk.ok (by show cntS (decU p im2 (ids++[id])).M≤1000;omega) (by show ((p.n:Nat):Int) - (cntS (decU p im2 (ids++[id])).M:Nat)≠0;omega)
theorem top_fin {f:Fl} {n:Nat} {s:StD} {im im2:List (BitVec 8)} {p:Prm} {rdy:Int} {ids:List (BitVec 32)} {id:BitVec 32} (h:DevF f n s im) (hn:n<79) (hk:HdOk keyT p im2 (sha im2)) (ho:s.on=true) (htr:s.t=0) (hp:IsP s.m p im2.length) (hsh:s.m.h.l=sha im2) (hL:LiveW f.bs s.g p.z rdy ids.length) (hids:∀ x∈ids,x.toNat<p.k) (hnd:ids.Nodup) (hid:id.toNat<p.k) (hnew:id ∉ ids) (hlt:ids.length+1=p.k) (h1i:1≤im2.length) :
  ∃ f2,DevF f2 (n+4) (nf (actS s)) im2∧seg f2.bs (slotA s.a.toNat) im.length=im∧∀ (H:List Hl) (db:Nat) (ad:Option Addr) (c:Nat),TabF (stars H)→Rs (stars H) B ad c (frameB 2#8 (symP p im2 id)) →
   Spec Tryz.prog 12 [.pointer (some ⟨db,0,none⟩),.slice ad (8+p.z+9) c] (.any (dvL keyT f s (stoU p s.g im2 rdy ids) db)::H) (fun _:Unit=>True) (fun _=>I 0) (fun _ => .any (dvI keyT f2 (nf (actS s)) db)::H):=by
 obtain ⟨p1,p2,p3,p4,p5⟩:=hk.ok.out
 obtain ⟨f1,h1,h2,h3⟩:=dev_take (im2:=im2) (len:=im2.length) h (by omega) hk.ok rfl hL hids hid hnew (by omega)
 obtain ⟨f2,g1,g2,g3⟩:=dev_fin (im2:=im2) h2 (by omega) ho htr hp.en h1i hk.le
 refine ⟨f2,g2,g3,fun H db ad c ht hb=>?_⟩
 have hdl:(datP p im2 (unitV p id)).length=p.z:=datD_len _ _ _
 have hc:cntS (decU p im2 ids).M=p.p+ids.length:=decU_cnt ids hids hnd
 have hc1:cntS (decU p im2 (ids++[id])).M=p.p+ids.length+1:=by rw [(decU_take (im:=im2) hids hid hnew).2.2,hc]
 have hpn:p.n=p.k+p.p:=rfl
 have hw8:=(plW_b p4 p5).1
 have hids2:∀ x∈ids++[id],x.toNat<p.k:=fun x hx=>by
  rcases List.mem_append.1 hx with q|q
  ·exact hids x q
  ·obtain rfl:x=id:=by simpa using q
   exact hid
 have hnd2:(ids++[id]).Nodup:=List.nodup_append.2 ⟨hnd,by simp,fun a ha b hb e=>by
  obtain rfl:b=id:=by simpa using hb
  exact hnew (e ▸ ha)⟩
 exact pk_takes_fin H db keyT f s (stoU p s.g im2 rdy ids) ad (8+p.z+9) c (symP p im2 id) hb (by rw [symP_len]) (by rw [symP_len];omega) (by rw [symP_len];omega) hk.kl p.s id (datP p im2 (unitV p id)) rfl (by omega) (by omega) im2.length (unitV p id) ho hp rfl hdl (decU_RR p im2 ids) (by show ids.length≤1000;omega) (row_unit p id hk.ok hid) h.up (by show ids.length≤8*plW p.z;omega) ht f1 _ h1 hk.ok (by show cntS (decU p im2 (ids++[id])).M≤1000;omega) (by show cntS (decU p im2 (ids++[id])).M=p.n;omega) im2 (decU_RR p im2 _) hk.ct (decU_full hids2 hnd2 (by rw [List.length_append];exact hlt) hk.ct p1) h1i hk.le hsh.symm h2.up h.may htr f2 g1
def sunL:List (BitVec 8):=[115#8,117#8,110#8]
def rainL:List (BitVec 8):=[114#8,97#8,105#8,110#8]
def rainP:Prm:=prmH 9#32 4 1 2
theorem rain_ok:HdOk keyT rainP rainL (sha rainL):=by
 obtain ⟨q1,q2⟩:=prmH_ok (s:=9#32) (n:=4) (z:=1) (p:=2) (by decide) (by decide)
 exact ⟨q1,q2,by decide,rfl,by decide⟩
def sunS:StD:=fstS 1#32 3 (none,0) (sha sunL)
theorem errOf_new {x:StD} {m:ManD} (h1:x.may=true) (h2:m.may=true) (ht:x.t=0) (h3:x.f.toNat<m.v.toNat) (h4:x.cur.v.toNat<m.v.toNat) (h5:x.on=true→x.m.v.toNat<m.v.toNat) (hg:x.g.toNat<100):errOf x m=0:=by
 unfold errOf
 rw [if_neg (by rw [h1];simp),if_neg (by rw [h2];simp),if_neg (by omega),if_neg (fun h=>by
  have h6:=h5 h.1
  have h7:=h.2
  simp only [ManD.same,Bool.and_eq_true,decide_eq_true_eq] at h7
  omega),if_neg (fun h=>by
  have:x.newer m.v=true:=by
   unfold StD.newer
   rw [h1,decide_eq_true h3,decide_eq_true h4]
   cases ho:x.on with
   | false=>rfl
   | true=>rw [decide_eq_true (h5 ho)];rfl
  rw [this] at h;cases h),if_neg (by omega)]
theorem errOf_dup {x:StD} {m:ManD} (h1:x.may=true) (h2:m.may=true) (ht:x.t=0) (ho:x.on=true) (hs:x.m.same m=true):errOf x m=8:=by
 unfold errOf
 rw [if_neg (by rw [h1];simp),if_neg (by rw [h2];simp),if_neg (by omega),if_pos ⟨ho,hs⟩]
theorem errOf_old {x:StD} {m:ManD} (h1:x.may=true) (h2:m.may=true) (ht:x.t=0) (ho:x.on=true) (hv:m.v.toNat<x.m.v.toNat):errOf x m=6:=by
 unfold errOf
 rw [if_neg (by rw [h1];simp),if_neg (by rw [h2];simp),if_neg (by omega),if_neg (fun h=>by
  have h7:=h.2
  simp only [ManD.same,Bool.and_eq_true,decide_eq_true_eq] at h7
  omega),if_pos]
 unfold StD.newer
 have:decide (x.m.v.toNat<m.v.toNat)=false:=decide_eq_false (by omega)
 rw [this,ho]
 simp
theorem same_self (m:ManD):m.same m=true:=by simp [ManD.same]
theorem top_make:∃ f,DevF f 3 sunS sunL∧∀ (H:List Hl) (ka:Option Addr) (kc:Nat) (ad:Option Addr) (c:Nat),Rs (stars H) B ka kc keyT→Rs (stars H) B ad c sunL →
  Spec Tryz.prog 8 [.slice ka 3 kc,W4 1#32,.slice ad 3 c,I 100] H (fun _:Nat=>True) (fun db => .tuple #[.pointer (some ⟨db,0,none⟩),I 0]) (fun db => .any (dvI keyT f sunS db)::H):=by
 obtain ⟨f1,f2,h1,h2,h3,h4⟩:=dev_make (v:=1#32) (im:=sunL) (by decide) (by decide)
 exact ⟨f2,h4,fun H ka kc ad c hk hi=>dv_Make H 100 1#32 ka kc keyT ad c sunL (sha sunL) f1 f2 hk (by decide) hi (by decide) (by decide) rfl h1 h2 h3⟩
set_option maxHeartbeats 16000000 in
theorem top_awake (H:List Hl) (ht:TabF (stars H)):Spec Tryz.prog 17 [] H (fun _:Unit=>True) (fun _ => .bool true) (fun _=>H):=by
 refine spec_pure (res:=fun _=>[]) H Tryz.func17 rfl Tryz.ntmps17 (by kernel_rfl) rfl (fun W=>?_)
 have hk:=rain_ok
 have hkk:rainP.k=4:=by decide
 obtain ⟨f0,d0,hmake⟩:=top_make
 have he1:errOf sunS (mOf rainP 4#32 rainL)=0:=errOf_new d0.may (hk.may _ _) rfl (by decide) (by decide) (fun h=>by cases h) (by decide)
 obtain ⟨f1,d1,hh1⟩:=top_hear_I d0 (by decide) hk he1
 obtain ⟨S1,hS1⟩:∃ S1,hearS sunS rainP 4#32 rainL=S1:=⟨_,rfl⟩
 have son:S1.on=true:=by rw [←hS1];rfl
 have st_:S1.t=0:=by rw [←hS1];rfl
 have sa:S1.a=0:=by rw [←hS1];rfl
 have sm:S1.m=mOf rainP 4#32 rainL:=by rw [←hS1];rfl
 have sg:S1.g=sunS.g+1#32:=by rw [←hS1];rfl
 rw [hS1] at d1 hh1
 have hdup:errOf S1 (mOf rainP 4#32 rainL)=8:=errOf_dup d1.may (hk.may _ _) st_ son (by rw [sm];exact same_self _)
 have hip:IsP S1.m rainP rainL.length:=by rw [sm];exact mOf_is hk
 obtain ⟨f2,d2,l2,hp3⟩:=top_take (id:=3#32) (ids:=[]) d1 (by decide) hk son hip (live_new _ _ _) (by simp) (by simp) (by rw [hkk];decide) (by simp) (by rw [hkk];decide)
 obtain ⟨f3,d3,l3,hp1⟩:=top_take (id:=1#32) d2 (by decide) hk son hip l2 (by rw [hkk];simp) (by simp) (by rw [hkk];decide) (by simp) (by rw [hkk];decide)
 obtain ⟨f4,d4,l4,hp0⟩:=top_take (id:=0#32) d3 (by decide) hk son hip l3 (by rw [hkk];simp) (by simp) (by rw [hkk];decide) (by simp) (by rw [hkk];decide)
 obtain ⟨f5,d5, -,hp2⟩:=top_fin (id:=2#32) d4 (by decide) hk son st_ hip (by rw [sm];rfl) l4 (by rw [hkk];simp) (by simp) (by rw [hkk];decide) (by simp) (by rw [hkk];decide) (by decide)
 rw [←sg] at hh1
 have hrun1:=d4.runs
 rw [sa] at hrun1
 have hseg1:seg f4.bs (slotA 0) 3=sunL:=by have:=d4.slot;rw [sa] at this;exact this
 have hact:(nf (actS S1)).a=1:=by show 1 - S1.a=1;rw [sa];rfl
 have hrun2:=d5.runs
 rw [hact] at hrun2
 have hseg2:seg f5.bs (slotA 1) 4=rainL:=by have:=d5.slot;rw [hact] at this;exact this
 have hsym:∀ (H':List Hl) (hb:Nat) (id:BitVec 32),id.toNat<4→TabF (stars H')→Spec Tryz.prog 14 [.pointer (some ⟨hb,0,none⟩),W4 id] (.any (crP keyT rainP 4#32 rainL (sha rainL) hb)::H') (fun _:Option Addr × Nat=>True) (fun q => .slice q.1 (8+rainP.z+9) q.2)
   (fun q => .row 5 1 (.slice q.1 (8+rainP.z+9) q.2) (8+rainP.z+9) ((frameB 2#8 (symP rainP rainL id)).map B) :: .any (crP keyT rainP 4#32 rainL (sha rainL) hb)::H'):=fun H' hb id hid ht' =>
  cr_Symbol H' keyT rainP 4#32 rainL (sha rainL) hb hk id (unitV rainP id) _ rainP.z (row_unit rainP id hk.ok (by rw [hkk];exact hid)) (symD_unit (by show id.toNat<rainP.k+rainP.p;omega)) (datD_len _ _ _) (by decide) (by decide) ht'
 obtain ⟨R1,hR1⟩:∃ R1,(((([]:List (BitVec 32)).length / plW rainP.z:Nat)):Int)=R1:=⟨_,rfl⟩
 obtain ⟨R2,hR2⟩:∃ R2,(((([]:List (BitVec 32))++[3#32]).length / plW rainP.z:Nat):Int)=R2:=⟨_,rfl⟩
 obtain ⟨R3,hR3⟩:∃ R3,((((([]:List (BitVec 32))++[3#32])++[1#32]).length / plW rainP.z:Nat):Int)=R3:=⟨_,rfl⟩
 rw [hR1] at hp3 hp1
 rw [hR2] at hp1 hp0
 rw [hR3] at hp0 hp2
 repeat' (first|intro _|refine cw ?_|refine cw2 ?_ ?_|(refine k_fn 9 ?_;refine o1_call (fun _=>tp_key _) rfl (fun bk _=>?_))|(refine k_buildSlice ?_;first|refine o1_lit_enc (T:=22) B rainL rfl rfl rfl (fun _=>rfl) rfl rfl rfl (fun br=>?_)|refine o1_lit_enc (T:=22) B sunL rfl rfl rfl (fun _=>rfl) rfl rfl rfl (fun br=>?_)|refine o1_lit_enc W4 [3#32,1#32,0#32] rfl rfl rfl (fun _=>rfl) rfl rfl rfl (fun bi=>?_))|(refine k_convert ?_;refine o1_conv_frz (b:=br) rfl ?_)|(refine k_fn 27 ?_;refine o1_call (fun hh=>cr_New _ keyT rainP 4#32 rainL (sha rainL) (some ⟨bk,0,none⟩) 3 (some ⟨br,0,none⟩) 4 hk (Rs.up (Rs.of_frz (T:=5) (b:=bk) (l:=keyT) (by decide))) (Rs.up (Rs.of_frz (T:=5) (b:=br) (l:=rainL) (by decide)))) rfl (fun hb _=>?_))|refine o1_call (fun hh=>hmake _ (some ⟨bk,0,none⟩) 3 (some ⟨br,0,none⟩) 3 (Rs.up (Rs.of_frz (T:=5) (b:=bk) (l:=keyT) (by decide))) (Rs.up (Rs.of_frz (T:=5) (b:=br) (l:=sunL) (by decide)))) rfl (fun db _=>?_)|refine ow ?_|refine ow2 ?_ ?_|fail)
 refine st_rounds 4 ?_
 repeat' (first|intro _|refine cw ?_|refine cw2 ?_ ?_|(refine k_indexAddr ?_;first|refine o1_iah (enc:=W4) (ad:=some ⟨bi,0,none⟩) (c:=3) (xs:=[3#32,1#32,0#32]) 0 rfl rfl (rx_box rfl (by decide)) rfl rfl (by decide) ?_|refine o1_iah (enc:=W4) (ad:=some ⟨bi,0,none⟩) (c:=3) (xs:=[3#32,1#32,0#32]) 1 rfl rfl (rx_box rfl (by decide)) rfl rfl (by decide) ?_|refine o1_iah (enc:=W4) (ad:=some ⟨bi,0,none⟩) (c:=3) (xs:=[3#32,1#32,0#32]) 2 rfl rfl (rx_box rfl (by decide)) rfl rfl (by decide) ?_)|(refine k_load ?_;first|refine o1_load_hv (enc:=W4) (ad:=some ⟨bi,0,none⟩) (c:=3) (xs:=[3#32,1#32,0#32]) 0 3#32 rfl (rx_box rfl (by decide)) rfl ?_|refine o1_load_hv (enc:=W4) (ad:=some ⟨bi,0,none⟩) (c:=3) (xs:=[3#32,1#32,0#32]) 1 1#32 rfl (rx_box rfl (by decide)) rfl ?_|refine o1_load_hv (enc:=W4) (ad:=some ⟨bi,0,none⟩) (c:=3) (xs:=[3#32,1#32,0#32]) 2 0#32 rfl (rx_box rfl (by decide)) rfl ?_)|(refine k_fn 13 ?_;(refine o1_call_a (crP keyT rainP 4#32 rainL (sha rainL) hb) (fun hh=>cr_First _ keyT rainP 4#32 rainL (sha rainL) hb hk) rfl (fun ⟨a36,c36⟩ _=>?_);(try dsimp only)))|refine o1_call_a (dvI keyT f0 sunS db) (fun hh=>hh1 _ db a36 c36 ht.up (rx_row (T:=5) (ad:=a36) (c:=c36) (l:=frameB 1#8 (fstP rainP 4#32 rainL)) (has_tail hh))) rfl (fun _ _=>?_)|(refine o1_call_a (crP keyT rainP 4#32 rainL (sha rainL) hb) (fun hh=>hsym _ hb 3#32 (by decide) ht.up) rfl (fun ⟨a3,ca3⟩ _=>?_);(try dsimp only))|refine o1_call_a (dvL keyT f1 S1 (stoU rainP S1.g rainL (-1) []) db) (fun hh=>hp3 _ db a3 ca3 ht.up (rx_row (T:=5) (ad:=a3) (c:=ca3) (l:=frameB 2#8 (symP rainP rainL 3#32)) (has_tail hh))) rfl (fun _ _=>?_)|(refine o1_call_a (crP keyT rainP 4#32 rainL (sha rainL) hb) (fun hh=>hsym _ hb 1#32 (by decide) ht.up) rfl (fun ⟨a1,ca1⟩ _=>?_);(try dsimp only))|refine o1_call_a (dvL keyT f2 S1 (stoU rainP S1.g rainL R1 ([]++[3#32])) db) (fun hh=>hp1 _ db a1 ca1 ht.up (rx_row (T:=5) (ad:=a1) (c:=ca1) (l:=frameB 2#8 (symP rainP rainL 1#32)) (has_tail hh))) rfl (fun _ _=>?_)|(refine o1_call_a (crP keyT rainP 4#32 rainL (sha rainL) hb) (fun hh=>hsym _ hb 0#32 (by decide) ht.up) rfl (fun ⟨a0,ca0⟩ _=>?_);(try dsimp only))|refine o1_call_a (dvL keyT f3 S1 (stoU rainP S1.g rainL R2 (([]++[3#32])++[1#32])) db) (fun hh=>hp0 _ db a0 ca0 ht.up (rx_row (T:=5) (ad:=a0) (c:=ca0) (l:=frameB 2#8 (symP rainP rainL 0#32)) (has_tail hh))) rfl (fun _ _=>?_)|(refine k_fn 12 ?_;first|refine o1_call_a (dvL keyT f2 S1 (stoU rainP S1.g rainL R1 ([]++[3#32])) db) (fun hh=>top_no_L hk hdup (by decide) (by decide) _ db f2 (stoU rainP S1.g rainL R1 ([]++[3#32])) a36 c36 (rx_row (T:=5) (ad:=a36) (c:=c36) (l:=frameB 1#8 (fstP rainP 4#32 rainL)) (has_tail hh))) rfl (fun _ _=>?_)|refine o1_call_a (dvL keyT f3 S1 (stoU rainP S1.g rainL R2 (([]++[3#32])++[1#32])) db) (fun hh=>top_no_L hk hdup (by decide) (by decide) _ db f3 (stoU rainP S1.g rainL R2 (([]++[3#32])++[1#32])) a36 c36 (rx_row (T:=5) (ad:=a36) (c:=c36) (l:=frameB 1#8 (fstP rainP 4#32 rainL)) (has_tail hh))) rfl (fun _ _=>?_))|refine ow ?_|refine ow2 ?_ ?_|fail)
 repeat' (first|intro _|refine cw ?_|refine cw2 ?_ ?_|(refine k_fn 16 ?_;first|(refine o1_call_a (dvL keyT f4 S1 (stoU rainP S1.g rainL R3 ((([]++[3#32])++[1#32])++[0#32])) db) (fun hh=>dv_Running_L _ db keyT f4 S1 (stoU rainP S1.g rainL R3 ((([]++[3#32])++[1#32])++[0#32])) 0 3 hrun1) rfl (fun ⟨a45,c45⟩ _=>?_);(try dsimp only);rw [hseg1])|(refine o1_call_a (dvI keyT f5 (nf (actS S1)) db) (fun hh=>dv_Running_I _ db keyT f5 (nf (actS S1)) 1 4 hrun2) rfl (fun ⟨a55,c55⟩ _=>?_);(try dsimp only);rw [hseg2]))|(refine k_convert ?_;first|refine o1_string (ad:=a45) (c:=c45) (xs:=sunL) rfl rfl (rx_row (T:=5) (ad:=a45) (c:=c45) (l:=sunL)) ?_|refine o1_string (ad:=a55) (c:=c55) (xs:=rainL) rfl rfl (rx_row (T:=5) (ad:=a55) (c:=c55) (l:=rainL)) ?_)|(refine o1_call_a (crP keyT rainP 4#32 rainL (sha rainL) hb) (fun hh=>hsym _ hb 2#32 (by decide) ht.up) rfl (fun ⟨a2,ca2⟩ _=>?_);(try dsimp only))|refine o1_call_a (dvL keyT f4 S1 (stoU rainP S1.g rainL R3 ((([]++[3#32])++[1#32])++[0#32])) db) (fun hh=>hp2 _ db a2 ca2 ht.up (rx_row (T:=5) (ad:=a2) (c:=ca2) (l:=frameB 2#8 (symP rainP rainL 2#32)) (has_tail hh))) rfl (fun _ _=>?_)|(refine k_binOp .eql ?_;first|refine o1_streq_r (a:=sunL) (b:=sunL) (r:=true) rfl rfl (by decide) ?_|refine o1_streq_r (a:=rainL) (b:=rainL) (r:=true) rfl rfl (by decide) ?_)|refine ow ?_|refine ow2 ?_ ?_|fail)
 refine rt_tmp () rfl rfl rfl trivial ?_
 exact ent
def rtD41_0:List Row:=[⟨some 113,[],[],none⟩,⟨some 114,[0],[0],none⟩,⟨some 115,[1],[0,1],none⟩,⟨some 116,[],[],none⟩,⟨some 117,[3],[3],none⟩,⟨some 118,[2,4],[0,1,2,3,4],none⟩,⟨some 119,[5,1],[0,1,2,3,4,5],none⟩,⟨some 120,[6],[0,1,2,3,4,5,6],some (6,true)⟩,⟨some 121,[6],[0,1,2,3,4,5,6],some (6,true)⟩,⟨some 122,[8,6,6],[0,1,2,3,4,5,6,8],some (6,true)⟩,⟨some 123,[7,9,9,6],[0,1,2,3,4,5,6,7,8,9],some (6,true)⟩,⟨some 124,[10,6],[0,1,2,3,4,5,6,7,8,9,10],some (6,true)⟩,⟨some 125,[6,11],[0,1,2,3,4,5,6,7,8,9,10,11],none⟩,⟨some 126,[12,10],[0,1,2,3,4,5,6,7,8,9,10,11,12],none⟩,⟨some 127,[13,13],[0,1,2,3,4,5,6,7,8,9,10,11,12,13],some (13,true)⟩,⟨some 128,[13,14],[0,1,2,3,4,5,6,7,8,9,10,11,12,13,14],none⟩,⟨some 6,[15,14,0,1,2,3,4,5,6,7,8,9,10,11,12,13,14,15],[0,1,2,3,4,5,6,7,8,9,10,11,12,13,14,15],none⟩]
def idsN (i:Nat):List (BitVec 32):=(List.range i).map (BitVec.ofNat 32)
theorem idsN_len (i:Nat):(idsN i).length=i:=by simp [idsN]
theorem idsN_succ (i:Nat):idsN (i+1)=idsN i++[BitVec.ofNat 32 i]:=by simp [idsN,List.range_succ]
theorem ofN_nat {i:Nat} (h:i<1000):(BitVec.ofNat 32 i).toNat=i:=by rw [BitVec.toNat_ofNat];omega
theorem idsN_lt {i n:Nat} (h:i≤n) (hn:n≤100):∀ x∈idsN i,x.toNat<n:=fun x hx=>by
 obtain ⟨j,hj,rfl⟩:=List.mem_map.1 hx
 have:=List.mem_range.1 hj
 rw [ofN_nat (by omega)]
 omega
theorem idsN_new {i:Nat} (h:i≤100):BitVec.ofNat 32 i ∉ idsN i:=fun hx=>by
 obtain ⟨j,hj,he⟩:=List.mem_map.1 hx
 have hj:=List.mem_range.1 hj
 have:=congrArg BitVec.toNat he
 rw [ofN_nat (by omega),ofN_nat (by omega)] at this
 omega
theorem idsN_nodup:∀ {i:Nat},i≤100→(idsN i).Nodup
 | 0,_=>by simp [idsN]
 | i+1,h=>by
  rw [idsN_succ,List.nodup_append]
  refine ⟨idsN_nodup (by omega),by simp,fun x hx y hy e=>?_⟩
  obtain rfl:y=BitVec.ofNat 32 i:=by simpa using hy
  exact idsN_new (by omega) (e ▸ hx)
theorem top_sym {p:Prm} {v:BitVec 32} {im:List (BitVec 8)} (hk:HdOk keyT p im (sha im)) {id:BitVec 32} (hid:id.toNat<p.k) (H:List Hl) (hb:Nat) (ht:TabF (stars H)) :
  Spec Tryz.prog 14 [.pointer (some ⟨hb,0,none⟩),W4 id] (.any (crP keyT p v im (sha im) hb)::H) (fun _:Option Addr × Nat=>True) (fun q => .slice q.1 (8+p.z+9) q.2)
   (fun q => .row 5 1 (.slice q.1 (8+p.z+9) q.2) (8+p.z+9) ((frameB 2#8 (symP p im id)).map B) :: .any (crP keyT p v im (sha im) hb)::H):=by
 obtain ⟨p1,p2,p3,p4,p5⟩:=hk.ok.out
 exact cr_Symbol H keyT p v im (sha im) hb hk id (unitV p id) _ p.z (row_unit p id hk.ok hid) (symD_unit (by show id.toNat<p.k+p.p;omega)) (datD_len _ _ _) p4 p5 ht
set_option maxHeartbeats 32000000 in
theorem TopSwitch_law (H:List Hl) (aa ba:Option Addr) (ac bc:Nat) (a b:List (BitVec 8)) (k:Int) (ha:Rs (stars H) B aa ac a) (hb:Rs (stars H) B ba bc b) (hal:a.length≤4611686018427387904) (hbl:b.length≤4611686018427387904) (ht:TabF (stars H)) :
  Spec Tryz.prog 3 [.slice aa a.length ac,.slice ba b.length bc,I k] H (fun _:Unit=>True) (fun _ => .bool true) (fun _=>H):=by
 refine spec_pure (res:=fun _=>[]) H Tryz.func3 rfl Tryz.ntmps3 (by kernel_rfl) rfl (fun W=>?_)
 obtain ⟨hk1,hk21⟩:=one_ok a
 obtain ⟨hk2,hk22⟩:=two_ok b
 obtain ⟨p1,p2,p3,p4,p5⟩:=hk1.ok.out
 obtain ⟨q1,q2,q3,q4,q5⟩:=hk2.ok.out
 have hct1:count ((oneI a).length:Int) 4=((oneP a).k:Int):=hk1.ct
 have hct2:count ((twoI b).length:Int) 3=((twoP b).k:Int):=hk2.ct
 obtain ⟨K,hK⟩:∃ K:Nat,K=(BitVec.ofInt 64 k).toNat % (oneP a).k:=⟨_,rfl⟩
 have hKl:K<(oneP a).k:=by rw [hK];exact Nat.mod_lt _ (by omega)
 have hKr:((BitVec.ofInt 64 k).toNat:Int) % ((oneP a).k:Int)=(K:Int):=by rw [hK];rfl
 obtain ⟨f0,d0,hmake⟩:=top_make
 have he1:errOf sunS (mOf (oneP a) 10#32 (oneI a))=0:=errOf_new d0.may (hk1.may _ _) rfl (by show 0<10;decide) (by show 1<10;decide) (fun h=>by cases h) (by decide)
 obtain ⟨f1,d1,hh1⟩:=top_hear_I d0 (by decide) hk1 he1
 obtain ⟨S1,hS1⟩:∃ S1,hearS sunS (oneP a) 10#32 (oneI a)=S1:=⟨_,rfl⟩
 have son:S1.on=true:=by rw [←hS1];rfl
 have st_:S1.t=0:=by rw [←hS1];rfl
 have sm:S1.m=mOf (oneP a) 10#32 (oneI a):=by rw [←hS1];rfl
 have sgg:S1.g=sunS.g+1#32:=by rw [←hS1];rfl
 have sf:S1.f=0#32:=by rw [←hS1];rfl
 have sc:S1.cur.v=1#32:=by rw [←hS1];rfl
 rw [hS1,←sgg] at hh1
 rw [hS1] at d1
 have hip1:IsP S1.m (oneP a) (oneI a).length:=by rw [sm];exact mOf_is hk1
 repeat' (first|intro _|refine cw ?_|refine cw2 ?_ ?_|(refine k_fn 7 ?_;(refine o1_call (fun _=>tp_heads _ aa ba ac bc a b ha.up hb.up hal hbl) rfl (fun ⟨hb1,hb2⟩ _=>?_);(try dsimp only)))|(refine k_fn 9 ?_;refine o1_call (fun _=>tp_key _) rfl (fun bk _=>?_))|(refine k_buildSlice ?_;refine o1_lit_enc (T:=22) B sunL rfl rfl rfl (fun _=>rfl) rfl rfl rfl (fun br=>?_))|(refine k_convert ?_;first|refine o1_conv_frz (b:=br) rfl ?_|refine o1_conv_u64 rfl (by omega) ?_|refine o1_conv_iu rfl ?_|refine o1_conv_i rfl (by omega) ?_)|refine o1_call (fun hh=>hmake _ (some ⟨bk,0,none⟩) 3 (some ⟨br,0,none⟩) 3 (Rs.up (Rs.of_frz (T:=5) (b:=bk) (l:=keyT) (by decide))) (Rs.up (Rs.of_frz (T:=5) (b:=br) (l:=sunL) (by decide)))) rfl (fun db _=>?_)|refine o1_call_a (dvI keyT f0 sunS db) (fun hh=>hh1 _ db a54 ca54 ht.up (rx_row (T:=5) (ad:=a54) (c:=ca54) (l:=frameB 1#8 (fstP (oneP a) 10#32 (oneI a))) (has_tail hh))) rfl (fun _ _=>?_)|(refine k_fn 10 ?_;(refine o1_call (fun _=>tp_images _ aa ba ac bc a b ha.up hb.up hal hbl) rfl (fun ⟨⟨ia,ic⟩,⟨ja,jc⟩⟩ _=>?_);(try dsimp only)))|(refine k_fn 11 ?_;(refine o1_call (fun _=>r7_Count _ _ _) rfl (fun _ _=>?_);rw [hct1]))|(refine k_binOp .rem ?_;(refine o1_rem_nn rfl rfl (by omega) ?_;rw [hKr]))|(refine k_fn 13 ?_;(refine o1_call_a (crP keyT (oneP a) 10#32 (oneI a) (sha (oneI a)) hb1) (fun hh=>cr_First _ keyT (oneP a) 10#32 (oneI a) (sha (oneI a)) hb1 hk1) rfl (fun ⟨a54,ca54⟩ _=>?_);(try dsimp only)))|refine ow ?_|refine ow2 ?_ ?_|fail)
 refine st_loop (S:=Nat × Fl × Int) (fun q=>[(2,I K),(6,.bool false),(7,.pointer (some ⟨hb1,0,none⟩)),(8,.pointer (some ⟨hb2,0,none⟩)),(10,.pointer (some ⟨db,0,none⟩)),(12,.slice ia (oneI a).length ic),(13,.slice ja (twoI b).length jc),(57,I K),(58,I q.1)]) (fun q=>[.any (dvL keyT q.2.1 S1 (stoU (oneP a) S1.g (oneI a) q.2.2 (idsN q.1)) db),oneC a hb1,twoC b hb2,rowB (ia,ic) (oneI a),rowB (ja,jc) (twoI b),.any (stars H)])
  (fun q=>q.1≤K∧DevF q.2.1 (4+q.1) S1 sunL∧LiveW q.2.1.bs S1.g (oneP a).z q.2.2 (idsN q.1).length) (fun q=>K - q.1) (0,f1, -1) ⟨Nat.zero_le _,d1,live_new _ _ _⟩ cv ent ?_
 rintro ⟨i,f,rdy⟩ ⟨hi,df,lf⟩
 dsimp only at hi df lf ⊢
 by_cases hit:i<K
 ·have hidn:(BitVec.ofNat 32 i).toNat<(oneP a).k:=by rw [ofN_nat (by omega)];omega
  obtain ⟨g1,e1,l1,hpk⟩:=top_take (id:=BitVec.ofNat 32 i) df (by omega) hk1 son hip1 lf (idsN_lt (by omega) (by omega)) (idsN_nodup (by omega)) hidn (idsN_new (by omega)) (by rw [idsN_len];omega)
  rw [←idsN_succ] at l1 hpk
  repeat' (first|intro _|refine cw ?_|refine cw2 ?_ ?_|(refine k_convert ?_;(refine o1_conv_iu rfl ?_;rw [BitVec.ofInt_natCast]))|(refine k_fn 14 ?_;(refine o1_call_a (crP keyT (oneP a) 10#32 (oneI a) (sha (oneI a)) hb1) (fun hh=>top_sym hk1 hidn _ hb1 ht.up) rfl (fun ⟨a65,c65⟩ _=>?_);(try dsimp only)))|refine o1_call_a (dvL keyT f S1 (stoU (oneP a) S1.g (oneI a) rdy (idsN i)) db) (fun hh=>hpk _ db a65 c65 ht.up (rx_row (T:=5) (ad:=a65) (c:=c65) (l:=frameB 2#8 (symP (oneP a) (oneI a) (BitVec.ofNat 32 i))) (has_tail hh))) rfl (fun _ _=>?_)|refine ow ?_|refine ow2 ?_ ?_|fail)
  refine nx_again (i+1,g1,_) ⟨by show i+1≤K;omega,e1,l1⟩ (by show K - (i+1)<K - i;omega) cv ?_
  exact ent
 ·have:i=K:=by omega
  subst this
  have he2:errOf S1 (mOf (twoP b) 20#32 (twoI b))=0:=errOf_new df.may (hk2.may _ _) st_ (by rw [sf];show 0<20;decide) (by rw [sc];show 1<20;decide) (fun _=>by rw [sm];show 10<20;decide) (by rw [sgg];decide)
  obtain ⟨ST1,hST1⟩:∃ ST1,stoU (oneP a) S1.g (oneI a) rdy (idsN i)=ST1:=⟨_,rfl⟩
  have hkp1:(ST1.d.t:Int)=(i:Int):=by rw [←hST1];show (((idsN i).length:Nat):Int)=i;rw [idsN_len]
  rw [hST1]
  obtain ⟨fy,dy,hh2⟩:=top_hear_L ST1 df (by omega) hk2 he2
  obtain ⟨S2,hS2⟩:∃ S2,hearS S1 (twoP b) 20#32 (twoI b)=S2:=⟨_,rfl⟩
  have son2:S2.on=true:=by rw [←hS2];rfl
  have st2:S2.t=0:=by rw [←hS2];exact st_
  have sa2:S2.a=0:=by rw [←hS2,←hS1];rfl
  have sm2:S2.m=mOf (twoP b) 20#32 (twoI b):=by rw [←hS2];rfl
  have sgg2:S2.g=S1.g+1#32:=by rw [←hS2];rfl
  rw [hS2,←sgg2] at hh2
  rw [hS2] at dy
  have hip2:IsP S2.m (twoP b) (twoI b).length:=by rw [sm2];exact mOf_is hk2
  have hold:errOf S2 (mOf (oneP a) 10#32 (oneI a))=6:=errOf_old dy.may (hk1.may _ _) st2 son2 (by rw [sm2];show 10<20;decide)
  obtain ⟨ST2,hST2⟩:∃ ST2,stoU (twoP b) S2.g (twoI b) (-1) []=ST2:=⟨_,rfl⟩
  have hkp2:(ST2.d.t:Int)=0:=by rw [←hST2];rfl
  rw [hST2] at hh2
  have hfit:∀ (H':List Hl) (db:Nat) (ad:Option Addr) (c:Nat),Rs (stars H') B ad c (frameB 2#8 (symP (oneP a) (oneI a) 0#32))→Spec Tryz.prog 12 [.pointer (some ⟨db,0,none⟩),.slice ad (8+(oneP a).z+9) c] (.any (dvL keyT fy S2 ST2 db)::H') (fun _:Unit=>True) (fun _=>I 7) (fun _ => .any (dvL keyT fy S2 ST2 db)::H'):=fun H' db ad c hr =>
   pk_takes_fit H' db keyT fy S2 ST2 ad (8+(oneP a).z+9) c (symP (oneP a) (oneI a) 0#32) hr (by rw [symP_len]) (by rw [symP_len];omega) (by rw [symP_len];omega) hk1.kl (oneP a).s 0#32 (datP (oneP a) (oneI a) (unitV (oneP a) 0#32)) rfl (by rw [datD_len];exact p4) (by rw [datD_len];exact p5) (twoP b) (twoI b).length 7 son2 hip2 (fits_7 hk2.ok (by show ¬ (7#32:BitVec 32)=8#32;decide)) (by decide) (by decide)
  repeat' (first|intro _|refine cw ?_|refine cw2 ?_ ?_|(refine k_fn 15 ?_;first|(refine o1_call_a (dvL keyT f S1 ST1 db) (fun hh=>dv_Kept_L _ db keyT f S1 ST1) rfl (fun _ _=>?_);rw [hkp1])|(refine o1_call_a (dvL keyT fy S2 ST2 db) (fun hh=>dv_Kept_L _ db keyT fy S2 ST2) rfl (fun _ _=>?_);rw [hkp2]))|(refine k_binOp .neq ?_;first|refine o1_neq_f rfl rfl (fun e=>e rfl) ?_|refine o1_neq_f rfl rfl rfl ?_)|(refine k_fn 13 ?_;first|(refine o1_call_a (crP keyT (twoP b) 20#32 (twoI b) (sha (twoI b)) hb2) (fun hh=>cr_First _ keyT (twoP b) 20#32 (twoI b) (sha (twoI b)) hb2 hk2) rfl (fun ⟨a76,ca76⟩ _=>?_);(try dsimp only))|(refine o1_call_a (crP keyT (oneP a) 10#32 (oneI a) (sha (oneI a)) hb1) (fun hh=>cr_First _ keyT (oneP a) 10#32 (oneI a) (sha (oneI a)) hb1 hk1) rfl (fun ⟨a95,ca95⟩ _=>?_);(try dsimp only)))|refine o1_call_a (dvL keyT f S1 ST1 db) (fun hh=>hh2 _ db a76 ca76 ht.up (rx_row (T:=5) (ad:=a76) (c:=ca76) (l:=frameB 1#8 (fstP (twoP b) 20#32 (twoI b))) (has_tail hh))) rfl (fun _ _=>?_)|refine o1_call_a (dvL keyT fy S2 ST2 db) (fun hh=>hfit _ db a88 c88 (rx_row (T:=5) (ad:=a88) (c:=c88) (l:=frameB 2#8 (symP (oneP a) (oneI a) 0#32)) (has_tail hh))) rfl (fun _ _=>?_)|(refine k_fn 14 ?_;(refine o1_call_a (crP keyT (oneP a) 10#32 (oneI a) (sha (oneI a)) hb1) (fun hh=>top_sym hk1 (id:=0#32) (by show 0<_;omega) _ hb1 ht.up) rfl (fun ⟨a88,c88⟩ _=>?_);(try dsimp only)))|(refine k_fn 12 ?_;refine o1_call_a (dvL keyT fy S2 ST2 db) (fun hh=>top_no_L hk1 hold (by decide) (by decide) _ db fy ST2 a95 ca95 (rx_row (T:=5) (ad:=a95) (c:=ca95) (l:=frameB 1#8 (fstP (oneP a) 10#32 (oneI a))) (has_tail hh))) rfl (fun _ _=>?_))|(refine k_fn 11 ?_;(refine o1_call (fun _=>r7_Count _ _ _) rfl (fun _ _=>?_);rw [hct2]))|refine ow ?_|refine ow2 ?_ ?_|fail)
  refine st_loop (S:=Nat × Fl × Int) (fun q=>[(6,.bool false),(8,.pointer (some ⟨hb2,0,none⟩)),(10,.pointer (some ⟨db,0,none⟩)),(13,.slice ja (twoI b).length jc),(101,I (twoP b).k),(102,I q.1)]) (fun q=>[(if q.1<(twoP b).k then .any (dvL keyT q.2.1 S2 (stoU (twoP b) S2.g (twoI b) q.2.2 (idsN q.1)) db) else .any (dvI keyT q.2.1 (nf (actS S2)) db)),twoC b hb2,rowB (ja,jc) (twoI b),.any (stars H)])
   (fun q=>q.1≤(twoP b).k∧(q.1<(twoP b).k→DevF q.2.1 (5+i+q.1) S2 sunL∧LiveW q.2.1.bs S2.g (twoP b).z q.2.2 (idsN q.1).length)∧(q.1=(twoP b).k→DevF q.2.1 (8+i+q.1) (nf (actS S2)) (twoI b))) (fun q=>(twoP b).k - q.1) (0,fy, -1) ⟨Nat.zero_le _,fun _=>⟨by rw [show 5+i+0=4+i+1 by omega];exact dy,live_new _ _ _⟩,fun e=>by have e':0=(twoP b).k:=e;omega⟩ cv (by dsimp only;rw [if_pos (show 0<(twoP b).k by omega),show idsN 0=[] from rfl,hST2];exact ent) ?_
  rintro ⟨j,g,rdy2⟩ ⟨hj,hlive,hdone⟩
  dsimp only at hj hlive hdone ⊢
  by_cases hjt:j<(twoP b).k
  ·obtain ⟨dg,lg⟩:=hlive hjt
   rw [if_pos hjt]
   have hidn:(BitVec.ofNat 32 j).toNat<(twoP b).k:=by rw [ofN_nat (by omega)];omega
   by_cases hlast:j+1<(twoP b).k
   ·obtain ⟨g1,e1,l1,hpk⟩:=top_take (id:=BitVec.ofNat 32 j) dg (by omega) hk2 son2 hip2 lg (idsN_lt (by omega) (by omega)) (idsN_nodup (by omega)) hidn (idsN_new (by omega)) (by rw [idsN_len];omega)
    rw [←idsN_succ] at l1 hpk
    repeat' (first|intro _|refine cw ?_|refine cw2 ?_ ?_|(refine k_convert ?_;(refine o1_conv_iu rfl ?_;rw [BitVec.ofInt_natCast]))|(refine k_fn 14 ?_;(refine o1_call_a (crP keyT (twoP b) 20#32 (twoI b) (sha (twoI b)) hb2) (fun hh=>top_sym hk2 hidn _ hb2 ht.up) rfl (fun ⟨a109,c109⟩ _=>?_);(try dsimp only)))|refine o1_call_a (dvL keyT g S2 (stoU (twoP b) S2.g (twoI b) rdy2 (idsN j)) db) (fun hh=>hpk _ db a109 c109 ht.up (rx_row (T:=5) (ad:=a109) (c:=c109) (l:=frameB 2#8 (symP (twoP b) (twoI b) (BitVec.ofNat 32 j))) (has_tail hh))) rfl (fun _ _=>?_)|refine ow ?_|refine ow2 ?_ ?_|fail)
    refine nx_again (j+1,g1,_) ⟨by show j+1≤(twoP b).k;omega,fun _=>⟨e1,l1⟩,fun e=>by have e':j+1=(twoP b).k:=e;omega⟩ (by show (twoP b).k - (j+1)<(twoP b).k - j;omega) cv ?_
    dsimp only
    rw [if_pos hlast]
    exact ent
   ·obtain ⟨g1,e1, -,hpk⟩:=top_fin (id:=BitVec.ofNat 32 j) dg (by omega) hk2 son2 st2 hip2 (by rw [sm2];rfl) lg (idsN_lt (by omega) (by omega)) (idsN_nodup (by omega)) hidn (idsN_new (by omega)) (by rw [idsN_len];omega) (imgL_b b 2#8).1
    repeat' (first|intro _|refine cw ?_|refine cw2 ?_ ?_|(refine k_convert ?_;(refine o1_conv_iu rfl ?_;rw [BitVec.ofInt_natCast]))|(refine k_fn 14 ?_;(refine o1_call_a (crP keyT (twoP b) 20#32 (twoI b) (sha (twoI b)) hb2) (fun hh=>top_sym hk2 hidn _ hb2 ht.up) rfl (fun ⟨a109,c109⟩ _=>?_);(try dsimp only)))|refine o1_call_a (dvL keyT g S2 (stoU (twoP b) S2.g (twoI b) rdy2 (idsN j)) db) (fun hh=>hpk _ db a109 c109 ht.up (rx_row (T:=5) (ad:=a109) (c:=c109) (l:=frameB 2#8 (symP (twoP b) (twoI b) (BitVec.ofNat 32 j))) (has_tail hh))) rfl (fun _ _=>?_)|refine ow ?_|refine ow2 ?_ ?_|fail)
    refine nx_again (j+1,g1,0) ⟨by show j+1≤(twoP b).k;omega,fun e=>absurd e hlast,fun e=>by rw [show 8+i+(j+1)=5+i+j+4 by omega];exact e1⟩ (by show (twoP b).k - (j+1)<(twoP b).k - j;omega) cv ?_
    dsimp only
    rw [if_neg hlast]
    exact ent
  ·have:j=(twoP b).k:=by omega
   subst this
   have dz:=hdone rfl
   rw [if_neg hjt]
   have hact:(nf (actS S2)).a=1:=by show 1 - S2.a=1;rw [sa2];rfl
   have hrun:=dz.runs
   have hseg:=dz.slot
   rw [hact] at hrun hseg
   repeat' (first|intro _|refine cw ?_|refine cw2 ?_ ?_|refine ow ?_|refine ow2 ?_ ?_|fail)
   have hrun:Runs g 1 (twoI b).length:=hrun
   have hseg:seg g.bs (slotA 1) (twoI b).length=twoI b:=hseg
   have hoff:∀ (H':List Hl) (db:Nat) (ad:Option Addr) (c:Nat),Rs (stars H') B ad c (frameB 2#8 (symP (twoP b) (twoI b) 0#32))→Spec Tryz.prog 12 [.pointer (some ⟨db,0,none⟩),.slice ad (8+(twoP b).z+9) c] (.any (dvI keyT g (nf (actS S2)) db)::H') (fun _:Unit=>True) (fun _=>I 14) (fun _ => .any (dvI keyT g (nf (actS S2)) db)::H'):=fun H' db ad c hr =>
    pk_takes_off H' db keyT g (nf (actS S2)) ad (8+(twoP b).z+9) c (symP (twoP b) (twoI b) 0#32) hr (by rw [symP_len]) (by rw [symP_len];omega) (by rw [symP_len];omega) hk2.kl (twoP b).s 0#32 (datP (twoP b) (twoI b) (unitV (twoP b) 0#32)) rfl (by rw [datD_len];exact q4) (by rw [datD_len];exact q5) rfl
   refine st_stages' [(10,_),(13,_),(8,_)] rtD41_0 [1,9,10,14] [⟨[0,3,4],[],some 1⟩,⟨[2,5,6,7,8],[3,4],some 9⟩,⟨[],[7],some 10⟩,⟨[11,12,13],[],some 14⟩,⟨[15,16],[],none⟩] mixed cv (by kernel_rfl) (by kernel_rfl) ?_
   repeat' (first|intro _|refine sg ?_|(refine p_convert ?_;refine po (by first|refine o1_string (ad:=a114) (c:=c114) (xs:=twoI b) rfl rfl (rx_row (T:=5) (ad:=a114) (c:=c114) (l:=twoI b)) fz|refine o1_string (ad:=ja) (c:=jc) (xs:=twoI b) rfl rfl (rx_row (T:=5) (ad:=ja) (c:=jc) (l:=twoI b)) fz|fail) ?_)|(refine p_binOp .eql ?_;refine po (by first|refine o1_streq_r (a:=twoI b) (b:=twoI b) (r:=true) rfl rfl (decide_eq_true rfl) fz|refine o1_eql_t rfl rfl rfl fz|fail) ?_)|refine pw ?_|refine pdd ?_|(refine k_fn 16 ?_;(refine o1_call_a (dvI keyT g (nf (actS S2)) db) (fun hh=>dv_Running_I _ db keyT g (nf (actS S2)) 1 (twoI b).length hrun) rfl (fun ⟨a114,c114⟩ _=>?_);(try dsimp only);rw [hseg]))|(refine k_fn 14 ?_;(refine o1_call_a (crP keyT (twoP b) 20#32 (twoI b) (sha (twoI b)) hb2) (fun hh=>top_sym hk2 (id:=0#32) (by show 0<_;omega) _ hb2 ht.up) rfl (fun ⟨a122,c122⟩ _=>?_);(try dsimp only)))|refine o1_call_a (dvI keyT g (nf (actS S2)) db) (fun hh=>hoff _ db a122 c122 (rx_row (T:=5) (ad:=a122) (c:=c122) (l:=frameB 2#8 (symP (twoP b) (twoI b) 0#32)) (has_tail hh))) rfl (fun _ _=>?_)|(refine k_fn 17 ?_;refine o1_call (fun _=>top_awake _ ht.up) rfl (fun _ _=>?_))|refine ow ?_|fail)
   all_goals dsimp only [List.cons_append,List.nil_append]
   repeat' (first|intro _|refine cw ?_|refine cw2 ?_ ?_|refine ow ?_|refine ow2 ?_ ?_|fail)
   refine rt_tmp () rfl rfl rfl trivial ?_
   exact ent
end Go.Dp
namespace Go.Dp
open Go.RowKit Go.Proofs Go.Proofs.YtcblcmdikhllbaaGreatDoor
def laidC:List (String × DataW Unit):=[("math/bits.deBruijn64tab",Rows.laid_math_bits_deBruijn64tab)]
theorem laid_tab {H:Type}:(Rows.laid_math_bits_deBruijn64tab:DataW H) = .agg (Go.Lib.deBruijn64tab.map (fun k:Nat=>DataW.lit (.int .u8 (k:Int)))):=rfl
theorem gTab:Tryz.prog.globalNamed "math/bits.deBruijn64tab"=some 1:=by kernel_rfl
theorem tTab:(Tryz.prog.globals[1]?).map (·.type)=some 312:=by kernel_rfl
theorem of_laid {W:World} (h:laidMetH Tryz.prog laidC W) (j:Nat) (hj:j<64):W.cell? ⟨1,j,none⟩=some (.int .u8 ((Go.Lib.deBruijn64tab.getD j 0:Nat):Int)):=by
 rw [MakeChecks.laidMetH_plain _ _ _ (by kernel_rfl)] at h
 obtain ⟨ps,⟨g0,t0,cs0,f0,p0,q0,hg0,ht0,hv0,hd0,_⟩,_⟩:=h
 obtain rfl:=Option.some.inj (gTab.symm.trans hg0)
 obtain rfl:=Option.some.inj (tTab.symm.trans ht0)
 obtain ⟨xs,m1,rfl,hx1,hlen,hn,hel⟩:=DataW.trod_array (TArr.u (P:=Tryz.prog) (t:=312)) hd0
 rw [laid_tab] at hx1
 simp only [Prod.mk.injEq,DataW.agg.injEq] at hx1
 obtain ⟨x,hx⟩:∃ x,xs[j]?=some x:=⟨xs[j]'(by omega),List.getElem?_eq_getElem (by omega)⟩
 have h0:=hel j hj
 rw [hx] at h0
 obtain ⟨k,e1,e2,_⟩:=DataW.trod_int (TInt.u (P:=Tryz.prog) (t:=5)) h0
 have h1:=congrArg (·[j]?) hx1.1
 simp only [List.getElem?_map,hx,Option.map_some,e2] at h1
 have hl:j<Go.Lib.deBruijn64tab.length:=hj
 rw [List.getElem?_eq_getElem hl] at h1
 simp only [Option.map_some,Option.some.injEq,DataW.lit.injEq,Lit.int.injEq,true_and] at h1
 have hc:=World.var?_cell hg0 hv0 j
 rw [hc]
 have c1:Tryz.prog.cellsOf 5=1:=by kernel_rfl
 rw [c1,Nat.mul_one] at e1
 have e3:cs0.toList[j]?=some (.int .u8 k):=by
  have:=congrArg (·[0]?) e1
  simpa using this
 rw [List.getD_eq_getElem?_getD,List.getElem?_eq_getElem hl,Option.getD_some,h1]
 simpa using e3
theorem tab_base {W:World} (h:laidMetH Tryz.prog laidC W):TabF (stars (base W)):=⟨fun j hj=>⟨fun w hw=>base_cell hw (of_laid h j hj)⟩⟩
theorem door_met (os:Os) (args:Array Value):laidMetH Tryz.prog laidC ((World.doorLaid Tryz.prog 400 os).forCall (fun _ _=>0) ⟨#[],args,[]⟩).memory :=
 laidMetH_of_parts3 (fuel:=8) (laidMet_of_run' 8 (by kernel_rfl) (by kernel_rfl)) (by kernel_rfl) (by kernel_rfl)
end Go.Dp
namespace Go.Dp
open Go.Proofs
instance :TSt Tryz.prog 7 [(0,2),(1,3),(2,4),(3,6)]:=⟨by kernel_rfl,by kernel_rfl⟩
instance :TSt Tryz.prog 13 [(0,9),(1,12)]:=⟨by kernel_rfl,by kernel_rfl⟩
instance :TSt Tryz.prog 45 [(0,31),(1,3),(2,22)]:=⟨by kernel_rfl,by kernel_rfl⟩
instance :TSt Tryz.prog 46 [(0,31),(1,3),(2,22)]:=⟨by kernel_rfl,by kernel_rfl⟩
instance :TSt Tryz.prog 47 [(0,46),(3,46)]:=⟨by kernel_rfl,by kernel_rfl⟩
instance :TSt Tryz.prog 48 [(0,31),(1,31),(2,3),(3,3),(4,3),(5,22)]:=⟨by kernel_rfl,by kernel_rfl⟩
instance :TSt Tryz.prog 49 [(0,31),(1,31),(2,3),(3,3),(4,3),(5,22)]:=⟨by kernel_rfl,by kernel_rfl⟩
instance :TSt Tryz.prog 50 [(0,3),(1,3),(2,31),(3,31),(4,47),(10,4),(11,49)]:=⟨by kernel_rfl,by kernel_rfl⟩
instance :TSt Tryz.prog 51 [(0,3),(1,3),(2,31),(3,31),(4,47),(10,4),(11,49)]:=⟨by kernel_rfl,by kernel_rfl⟩
instance :TSt Tryz.prog 58 [(0,3),(1,3),(2,3),(3,31)]:=⟨by kernel_rfl,by kernel_rfl⟩
instance :TSt Tryz.prog 59 [(0,3),(1,3),(2,3),(3,31)]:=⟨by kernel_rfl,by kernel_rfl⟩
instance :TSt Tryz.prog 61 [(0,3),(1,22),(2,3),(3,3)]:=⟨by kernel_rfl,by kernel_rfl⟩
instance :TSt Tryz.prog 62 [(0,3),(1,22),(2,3),(3,3)]:=⟨by kernel_rfl,by kernel_rfl⟩
instance :TSt Tryz.prog 75 [(0,71),(0,73),(0,74)]:=⟨by kernel_rfl,by kernel_rfl⟩
instance :TSt Tryz.prog 76 [(0,71),(0,73),(0,74)]:=⟨by kernel_rfl,by kernel_rfl⟩
instance :TSt Tryz.prog 77 [(0,22),(1,41),(2,76)]:=⟨by kernel_rfl,by kernel_rfl⟩
instance :TSt Tryz.prog 78 [(0,22),(1,41),(2,76)]:=⟨by kernel_rfl,by kernel_rfl⟩
instance :TSt Tryz.prog 83 [(0,51),(17,82)]:=⟨by kernel_rfl,by kernel_rfl⟩
instance :TSt Tryz.prog 84 [(0,51),(17,82)]:=⟨by kernel_rfl,by kernel_rfl⟩
instance :TSt Tryz.prog 90 [(0,31),(1,3),(2,3),(3,3)]:=⟨by kernel_rfl,by kernel_rfl⟩
instance :TSt Tryz.prog 91 [(0,31),(1,3),(2,3),(3,3)]:=⟨by kernel_rfl,by kernel_rfl⟩
instance :TSt Tryz.prog 93 [(0,22),(1,49),(7,91),(11,92)]:=⟨by kernel_rfl,by kernel_rfl⟩
instance :TSt Tryz.prog 94 [(0,22),(1,49),(7,91),(11,92)]:=⟨by kernel_rfl,by kernel_rfl⟩
instance :TSt Tryz.prog 97 [(0,31),(1,31),(2,22)]:=⟨by kernel_rfl,by kernel_rfl⟩
instance :TSt Tryz.prog 98 [(0,31),(1,31),(2,22)]:=⟨by kernel_rfl,by kernel_rfl⟩
instance :TSt Tryz.prog 107 [(0,73),(0,106),(0,2)]:=⟨by kernel_rfl,by kernel_rfl⟩
instance :TSt Tryz.prog 108 [(0,73),(0,106),(0,2)]:=⟨by kernel_rfl,by kernel_rfl⟩
instance :TSt Tryz.prog 109 [(0,22),(1,105),(15,3),(16,4),(17,4),(18,3),(19,3),(20,108)]:=⟨by kernel_rfl,by kernel_rfl⟩
instance :TSt Tryz.prog 110 [(0,22),(1,105),(15,3),(16,4),(17,4),(18,3),(19,3),(20,108)]:=⟨by kernel_rfl,by kernel_rfl⟩
instance :TSt Tryz.prog 144 [(0,31),(1,31)]:=⟨by kernel_rfl,by kernel_rfl⟩
instance :TSt Tryz.prog 151 [(0,73),(0,31)]:=⟨by kernel_rfl,by kernel_rfl⟩
instance :TSt Tryz.prog 152 [(0,73),(0,31)]:=⟨by kernel_rfl,by kernel_rfl⟩
instance :TSt Tryz.prog 155 [(0,150),(0,154)]:=⟨by kernel_rfl,by kernel_rfl⟩
instance :TSt Tryz.prog 156 [(0,150),(0,154)]:=⟨by kernel_rfl,by kernel_rfl⟩
instance :TSt Tryz.prog 157 [(0,150),(0,152),(1,156)]:=⟨by kernel_rfl,by kernel_rfl⟩
instance :TSt Tryz.prog 158 [(0,150),(0,152),(1,156)]:=⟨by kernel_rfl,by kernel_rfl⟩
instance :TSt Tryz.prog 159 [(0,91),(4,22),(5,158),(8,145)]:=⟨by kernel_rfl,by kernel_rfl⟩
instance :TSt Tryz.prog 160 [(0,91),(4,22),(5,158),(8,145)]:=⟨by kernel_rfl,by kernel_rfl⟩
instance :TSt Tryz.prog 165 [(0,49),(6,163),(7,164)]:=⟨by kernel_rfl,by kernel_rfl⟩
instance :TSt Tryz.prog 166 [(0,49),(6,163),(7,164)]:=⟨by kernel_rfl,by kernel_rfl⟩
instance :TSt Tryz.prog 169 [(0,31),(1,22)]:=⟨by kernel_rfl,by kernel_rfl⟩
instance :TSt Tryz.prog 170 [(0,31),(1,22)]:=⟨by kernel_rfl,by kernel_rfl⟩
instance :TSt Tryz.prog 174 [(0,22),(1,27)]:=⟨by kernel_rfl,by kernel_rfl⟩
instance :TSt Tryz.prog 175 [(0,22),(1,27)]:=⟨by kernel_rfl,by kernel_rfl⟩
instance :TSt Tryz.prog 184 [(0,31),(1,31),(2,31),(3,31),(4,31),(5,31),(6,31),(7,31)]:=⟨by kernel_rfl,by kernel_rfl⟩
instance :TSt Tryz.prog 185 [(0,31),(1,31),(2,31),(3,31),(4,31),(5,31),(6,31),(7,31)]:=⟨by kernel_rfl,by kernel_rfl⟩
instance :TSt Tryz.prog 220 [(0,91),(4,219),(5,108),(6,158),(9,145)]:=⟨by kernel_rfl,by kernel_rfl⟩
instance :TSt Tryz.prog 221 [(0,91),(4,219),(5,108),(6,158),(9,145)]:=⟨by kernel_rfl,by kernel_rfl⟩
instance :TSt Tryz.prog 242 [(0,31),(1,22)]:=⟨by kernel_rfl,by kernel_rfl⟩
instance :TSt Tryz.prog 243 [(0,31),(1,22)]:=⟨by kernel_rfl,by kernel_rfl⟩
instance :TSt Tryz.prog 245 [(0,41),(1,31),(2,3),(3,240),(4,3),(5,3)]:=⟨by kernel_rfl,by kernel_rfl⟩
instance :TSt Tryz.prog 246 [(0,41),(1,31),(2,3),(3,240),(4,3),(5,3)]:=⟨by kernel_rfl,by kernel_rfl⟩
instance :TSt Tryz.prog 256 [(0,73),(0,31)]:=⟨by kernel_rfl,by kernel_rfl⟩
instance :TSt Tryz.prog 257 [(0,256)]:=⟨by kernel_rfl,by kernel_rfl⟩
instance :TSt Tryz.prog 258 [(0,256)]:=⟨by kernel_rfl,by kernel_rfl⟩
instance :TSt Tryz.prog 264 [(0,3),(1,158),(4,263)]:=⟨by kernel_rfl,by kernel_rfl⟩
instance :TSt Tryz.prog 265 [(0,3),(1,158),(4,263)]:=⟨by kernel_rfl,by kernel_rfl⟩
instance :TSt Tryz.prog 268 [(0,3),(1,263)]:=⟨by kernel_rfl,by kernel_rfl⟩
instance :TSt Tryz.prog 269 [(0,3),(1,263)]:=⟨by kernel_rfl,by kernel_rfl⟩
instance :TSt Tryz.prog 279 [(0,148),(1,22)]:=⟨by kernel_rfl,by kernel_rfl⟩
instance :TSt Tryz.prog 280 [(0,148),(1,22)]:=⟨by kernel_rfl,by kernel_rfl⟩
instance :TSt Tryz.prog 282 [(0,3),(1,3),(2,281),(3,108)]:=⟨by kernel_rfl,by kernel_rfl⟩
instance :TSt Tryz.prog 283 [(0,3),(1,3),(2,281),(3,108)]:=⟨by kernel_rfl,by kernel_rfl⟩
instance :TSt Tryz.prog 331 [(0,17),(1,17),(2,17),(3,9)]:=⟨by kernel_rfl,by kernel_rfl⟩
instance :TSt Tryz.prog 334 [(0,333)]:=⟨by kernel_rfl,by kernel_rfl⟩
instance :TSt Tryz.prog 342 [(0,12),(1,12),(2,31),(3,336),(4,5),(5,5),(6,337),(7,338),(8,339),(9,340),(10,341)]:=⟨by kernel_rfl,by kernel_rfl⟩
end Go.Dp
