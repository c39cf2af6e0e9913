/-
  A region that draws its order, in stages, where two operations that change memory may come in either order.
  Conditions: none; it holds over whatever program.
-/
import Derived.Test.YtlmmnnhbnbakgaaDoorBv
set_option linter.unusedVariables false
namespace Go.Dp
open Go.RowKit
/-- A script of stages: an end, one operation that changes memory, or two of which either may come. -/
inductive Scr where
  | fin (ps rs : List Nat)
  | step (ps rs : List Nat) (c : Nat) (nx : Scr)
  | alt (ps rs : List Nat) (c1 : Nat) (n1 : Scr) (c2 : Nat) (n2 : Scr)
  | alt3 (ps rs : List Nat) (c1 : Nat) (n1 : Scr) (c2 : Nat) (n2 : Scr) (c3 : Nat) (n3 : Scr)
def Scr.ps : Scr → List Nat
  | .fin ps _ => ps
  | .step ps _ _ _ => ps
  | .alt ps _ _ _ _ _ => ps
  | .alt3 ps _ _ _ _ _ _ _ => ps
def Scr.rs : Scr → List Nat
  | .fin _ rs => rs
  | .step _ rs _ _ => rs
  | .alt _ rs _ _ _ _ => rs
  | .alt3 _ rs _ _ _ _ _ _ => rs
def Scr.chs : Scr → List Nat
  | .fin _ _ => []
  | .step _ _ c _ => [c]
  | .alt _ _ c1 _ c2 _ => [c1, c2]
  | .alt3 _ _ c1 _ c2 _ c3 _ => [c1, c2, c3]
section
variable (P : Program) (n : Nat) (e : Ev) (tab : List Row) (l : List Oper)
def Wt (Fin : Ev → List Hl → Prop) : Scr → Ev → List Hl → Prop
  | .fin ps rs, E, H => OpenP P n e tab l H ps E fun E' => ReP P n e tab l H E' rs ∧ Fin E' H
  | .step ps rs c nx, E, H => OpenP P n e tab l H ps E fun E' => ReP P n e tab l H E' rs ∧ ((gdOff tab c E' ∧ Wt Fin nx (addE tab c undef E') H) ∨ Op1 P n e tab l c E' H fun v H' => Wt Fin nx (addE tab c v E') H')
  | .alt ps rs c1 n1 c2 n2, E, H => OpenP P n e tab l H ps E fun E' => ReP P n e tab l H E' rs ∧ (((gdOff tab c1 E' ∧ Wt Fin n1 (addE tab c1 undef E') H) ∨ Op1 P n e tab l c1 E' H fun v H' => Wt Fin n1 (addE tab c1 v E') H') ∧
      ((gdOff tab c2 E' ∧ Wt Fin n2 (addE tab c2 undef E') H) ∨ Op1 P n e tab l c2 E' H fun v H' => Wt Fin n2 (addE tab c2 v E') H'))
  | .alt3 ps rs c1 n1 c2 n2 c3 n3, E, H => OpenP P n e tab l H ps E fun E' => ReP P n e tab l H E' rs ∧ (((gdOff tab c1 E' ∧ Wt Fin n1 (addE tab c1 undef E') H) ∨ Op1 P n e tab l c1 E' H fun v H' => Wt Fin n1 (addE tab c1 v E') H') ∧
      ((gdOff tab c2 E' ∧ Wt Fin n2 (addE tab c2 undef E') H) ∨ Op1 P n e tab l c2 E' H fun v H' => Wt Fin n2 (addE tab c2 v E') H') ∧
      ((gdOff tab c3 E' ∧ Wt Fin n3 (addE tab c3 undef E') H) ∨ Op1 P n e tab l c3 E' H fun v H' => Wt Fin n3 (addE tab c3 v E') H'))
def NxT (Fin : Ev → List Hl → Prop) (c : Nat) (nx : Scr) (E : Ev) (H : List Hl) : Prop := (gdOff tab c E ∧ Wt P n e tab l Fin nx (addE tab c undef E) H) ∨ Op1 P n e tab l c E H fun v H' => Wt P n e tab l Fin nx (addE tab c v E) H'
def nextT (Fin : Ev → List Hl → Prop) : Scr → Ev → List Hl → Prop
  | .fin _ _, E, H => Fin E H
  | .step _ _ c nx, E, H => NxT P n e tab l Fin c nx E H
  | .alt _ _ c1 n1 c2 n2, E, H => NxT P n e tab l Fin c1 n1 E H ∧ NxT P n e tab l Fin c2 n2 E H
  | .alt3 _ _ c1 n1 c2 n2 c3 n3, E, H => NxT P n e tab l Fin c1 n1 E H ∧ NxT P n e tab l Fin c2 n2 E H ∧ NxT P n e tab l Fin c3 n3 E H
end
def bT (tab : List Row) (all done ps rs chs : List Nat) : Bool :=
  psOk tab ps && (ps.all fun i => decide (i < tab.length)) && ((List.range tab.length).all fun i => all.contains i || (all.any fun c => (cloAt tab i).contains c && !done.contains c) || (done.any fun c => (cloAt tab c).contains i) || ps.contains i || rs.contains i) &&
  (chs.all fun c => decide (c < tab.length) && !done.contains c && all.contains c) && (all.all fun c' => done.contains c' || chs.contains c' || chs.any fun c => (cloAt tab c').contains c)
def scT (tab : List Row) (all : List Nat) : List Nat → Scr → Bool
  | done, .fin ps rs => bT tab all done ps rs []
  | done, .step ps rs c nx => bT tab all done ps rs [c] && ((nx.ps.all fun i => (cloAt tab i).contains c) && scT tab all (c :: done) nx)
  | done, .alt ps rs c1 n1 c2 n2 => bT tab all done ps rs [c1, c2] && (((n1.ps.all fun i => (cloAt tab i).contains c1) && scT tab all (c1 :: done) n1) && ((n2.ps.all fun i => (cloAt tab i).contains c2) && scT tab all (c2 :: done) n2))
  | done, .alt3 ps rs c1 n1 c2 n2 c3 n3 => bT tab all done ps rs [c1, c2, c3] && (((n1.ps.all fun i => (cloAt tab i).contains c1) && scT tab all (c1 :: done) n1) && (((n2.ps.all fun i => (cloAt tab i).contains c2) && scT tab all (c2 :: done) n2) && ((n3.ps.all fun i => (cloAt tab i).contains c3) && scT tab all (c3 :: done) n3)))
theorem scT_b {tab : List Row} {all done : List Nat} {s : Scr} (h : scT tab all done s = true) : bT tab all done s.ps s.rs s.chs = true := by
  cases s with
  | fin ps rs => exact h
  | step ps rs c nx => simp only [scT, Bool.and_eq_true] at h; exact h.1
  | alt ps rs c1 n1 c2 n2 => simp only [scT, Bool.and_eq_true] at h; exact h.1
  | alt3 ps rs c1 n1 c2 n2 c3 n3 => simp only [scT, Bool.and_eq_true] at h; exact h.1
theorem scT_in {tab : List Row} {all done : List Nat} {s : Scr} (h : scT tab all done s = true) {c : Nat} (hc : c ∈ s.chs) : c ∈ all ∧ c ∉ done := by
  have := scT_b h
  simp only [bT, Bool.and_eq_true, List.all_eq_true, decide_eq_true_eq, Bool.not_eq_true', List.contains_eq_mem, decide_eq_false_iff_not] at this
  exact ⟨(this.1.2 c hc).2, (this.1.2 c hc).1.2⟩
theorem scT_lt {tab : List Row} {all done : List Nat} {s : Scr} (h : scT tab all done s = true) {c : Nat} (hc : c ∈ s.chs) : c < tab.length := by
  have := scT_b h
  simp only [bT, Bool.and_eq_true, List.all_eq_true, decide_eq_true_eq] at this
  exact (this.1.2 c hc).1.1
theorem scT_cover {tab : List Row} {all done : List Nat} {s : Scr} (h : scT tab all done s = true) : ∀ i, i < tab.length → (((i ∈ all ∨ ∃ c, c ∈ all ∧ c ∈ cloAt tab i ∧ c ∉ done) ∨ ∃ c, c ∈ done ∧ i ∈ cloAt tab c) ∨ i ∈ s.ps) ∨ i ∈ s.rs := by
  have := scT_b h
  simp only [bT, Bool.and_eq_true, List.all_eq_true, List.mem_range, Bool.or_eq_true, List.any_eq_true, Bool.not_eq_true', List.contains_eq_mem, decide_eq_true_eq, decide_eq_false_iff_not] at this
  exact this.1.1.2
theorem scT_ch {tab : List Row} {all done : List Nat} {s : Scr} (h : scT tab all done s = true) {i : Nat} (hi : i ∈ all) (hd : i ∉ done) (hb : ∀ c, c ∈ s.chs → c ∈ cloAt tab i → False) : i ∈ s.chs := by
  have := scT_b h
  simp only [bT, Bool.and_eq_true, List.all_eq_true, Bool.or_eq_true, List.any_eq_true, List.contains_eq_mem, decide_eq_true_eq] at this
  rcases this.2 i hi with (h1 | h1) | ⟨c, h1, h2⟩
  · exact absurd h1 hd
  · exact h1
  · exact (hb c h1 h2).elim
section
variable {P : Program} {k : Kon} {n : Nat} {e e0 : Ev} {W : World} {H : List Hl} {tab : List Row} {l : List Oper} {Fin : Ev → List Hl → Prop}
theorem wt_eq (s : Scr) (E : Ev) (H : List Hl) : Wt P n e tab l Fin s E H = OpenP P n e tab l H s.ps E fun E' => ReP P n e tab l H E' s.rs ∧ nextT P n e tab l Fin s E' H := by cases s <;> rfl
theorem scT_next {all done : List Nat} {s : Scr} {E : Ev} {H : List Hl} (h : scT tab all done s = true) {i : Nat} (hi : i ∈ s.chs) (hn : nextT P n e tab l Fin s E H) :
    ∃ nx, NxT P n e tab l Fin i nx E H ∧ (∀ q ∈ nx.ps, i ∈ cloAt tab q) ∧ scT tab all (i :: done) nx = true := by
  cases s with
  | fin ps rs => simp [Scr.chs] at hi
  | step ps rs c nx =>
    simp only [Scr.chs, List.mem_singleton] at hi
    subst hi
    simp only [scT, Bool.and_eq_true, List.all_eq_true, List.contains_eq_mem, decide_eq_true_eq] at h
    exact ⟨nx, hn, h.2.1, h.2.2⟩
  | alt ps rs c1 n1 c2 n2 =>
    simp only [scT, Bool.and_eq_true, List.all_eq_true, List.contains_eq_mem, decide_eq_true_eq] at h
    simp only [Scr.chs, List.mem_cons, List.not_mem_nil, or_false] at hi
    rcases hi with rfl | rfl
    · exact ⟨n1, hn.1, h.2.1.1, h.2.1.2⟩
    · exact ⟨n2, hn.2, h.2.2.1, h.2.2.2⟩
  | alt3 ps rs c1 n1 c2 n2 c3 n3 =>
    simp only [scT, Bool.and_eq_true, List.all_eq_true, List.contains_eq_mem, decide_eq_true_eq] at h
    simp only [Scr.chs, List.mem_cons, List.not_mem_nil, or_false] at hi
    rcases hi with rfl | rfl | rfl
    · exact ⟨n1, hn.1, h.2.1.1, h.2.1.2⟩
    · exact ⟨n2, hn.2.1, h.2.2.1.1, h.2.2.1.2⟩
    · exact ⟨n3, hn.2.2, h.2.2.2.1, h.2.2.2.2⟩
theorem nextT_fin {s : Scr} {E : Ev} {H : List Hl} (h : s.chs = []) (hn : nextT P n e tab l Fin s E H) : Fin E H := by
  cases s with
  | fin ps rs => exact hn
  | step ps rs c nx => simp [Scr.chs] at h
  | alt ps rs c1 n1 c2 n2 => simp [Scr.chs] at h
  | alt3 ps rs c1 n1 c2 n2 c3 n3 => simp [Scr.chs] at h
/-- All of the stage's values are known. -/
structure StandT (P : Program) (n : Nat) (e0 : Ev) (tab : List Row) (l : List Oper) (Fin : Ev → List Hl → Prop) (all done : List Nat) (s : Scr) (E : Ev) (H : List Hl) : Prop where
  good : ∀ i, i ∈ s.ps ∨ i ∈ s.rs → Good P n e0 tab l i E H
  next : nextT P n e0 tab l Fin s E H
  script : scT tab all done s = true
  dom : ∀ d v, look E d = some v → ∃ i, i < tab.length ∧ dstAt tab i = some d
theorem wt_open (hdst : ∀ i j d, dstAt tab i = some d → dstAt tab j = some d → i = j) (hgd : ∀ i j b, gdAt tab i = some (j, b) → j ∈ cloAt tab i) (hself : ∀ i, i ∉ cloAt tab i) {all done : List Nat} {s : Scr} {E : Ev}
    (hs : scT tab all done s = true) (hdom : ∀ d v, look E d = some v → ∃ i, i < tab.length ∧ dstAt tab i = some d) (h : Wt P n e0 tab l Fin s E H) :
    ∃ E', StandT P n e0 tab l Fin all done s E' H ∧ ∀ d, (∀ i ∈ s.ps, dstAt tab i ≠ some d) → look E' d = look E d := by
  have hb := scT_b hs
  simp only [bT, Bool.and_eq_true] at hb
  rw [wt_eq] at h
  obtain ⟨E', ⟨c0, c1⟩, c2, c3, c4, _⟩ := open_out hdst hgd hself s.ps E _ hb.1.1.1.1 h
  refine ⟨E', ⟨fun i hi => ?_, c1, hs, fun d v hv => ?_⟩, c4⟩
  · rcases hi with hi | hi
    · exact c2 i hi
    · exact rep_out _ _ c0 i hi
  · rcases c3 d v hv with hh | ⟨i, hi, hid⟩
    · exact hdom d v hh
    · have := hb.1.1.1.2
      simp only [List.all_eq_true, decide_eq_true_eq] at this
      exact ⟨i, this i hi, hid⟩
/-- What holds while the operations of D have been done. -/
structure Mid3 (P : Program) (n : Nat) (e e0 : Ev) (tab : List Row) (l : List Oper) (Fin : Ev → List Hl → Prop) (W : World) (all D : List Nat) (a : Act) (w : World) : Prop where
  size : a.tmps.size = n
  defers : a.defers = []
  ext : Ext W w
  keep : ∀ t v, look e t = some v → (∀ i ∈ D, dstAt tab i ≠ some t) → a.tmps[t]? = some v
  at_ : ∃ (done : List Nat) (s : Scr) (E : Ev) (H : List Hl), StandT P n e0 tab l Fin all done s E H ∧ sat w (stars H) ∧ (∀ c, c ∈ done → c ∈ D) ∧ (∀ c ∈ all, c ∈ D → c ∈ done) ∧ (∀ i ∈ D, ∀ d, dstAt tab i = some d → ∃ v, look E d = some v ∧ a.tmps[d]? = some v)
theorem mid3_step (he0 : Covers e e0) (ht : tabOk tab = true) (hin : gdIn tab = true) (hrows : l.map (fun o => (o.dst, edgesOf o, o.guard)) = tab.map (fun r => (r.dst, r.edges, r.guard))) (hdst : tab.all (fun r => match r.dst with | none => true | some d => Nat.blt d n) = true)
    {all D : List Nat} (hcl : ∀ i ∈ D, ∀ r, tab[i]? = some r → ∀ j ∈ r.edges, j ∈ D) {i : Nat} (hi : i ∉ D) {r : Row} (hr : tab[i]? = some r) (hre : ∀ j ∈ r.edges, j ∈ D) {a : Act} {w : World} (hm : Mid3 P n e e0 tab l Fin W all D a w)
    (K : Act → World → Prop) (hK : ∀ a w, Mid3 P n e e0 tab l Fin W all (i :: D) a w → K a w) : wpOp P l.toArray (k.post P) i K a w := by
  have hlen : l.length = tab.length := by simpa using congrArg List.length hrows
  have hil : i < l.length := by rw [hlen]; exact (List.getElem?_eq_some_iff.1 hr).1
  have ho : l[i]? = some l[i] := List.getElem?_eq_getElem hil
  generalize hoo : l[i] = o at ho
  have hrow : (o.dst, edgesOf o, o.guard) = (r.dst, r.edges, r.guard) := by
    have := congrArg (fun x => x[i]?) hrows
    simp only [List.getElem?_map, ho, hr, Option.map_some, Option.some.injEq] at this
    exact this
  simp only [Prod.mk.injEq] at hrow
  obtain ⟨hd, he, hg⟩ := hrow
  obtain ⟨f1, f2, f3⟩ := tabOk.facts ht
  have hdn : ∀ d, r.dst = some d → d < n := by
    intro d hd
    have := List.all_eq_true.1 hdst r (List.mem_of_getElem? hr)
    rw [hd] at this
    simpa [Nat.blt_eq] using this
  have hdi : dstAt tab i = r.dst := by simp [dstAt, hr]
  have hci : cloAt tab i = r.clo := by simp [cloAt, hr]
  have hself : ∀ i, i ∉ cloAt tab i := by
    intro j hj
    cases hs : tab[j]? with
    | none => simp [cloAt, hs] at hj
    | some s => have := f2 j s hs j (by simpa [cloAt, hs] using hj); omega
  have hgd : ∀ i j b, gdAt tab i = some (j, b) → j ∈ cloAt tab i := by
    intro i j b h
    obtain ⟨⟨s, hs, hj⟩, _⟩ := f3 i j b h
    have := List.all_eq_true.1 hin s (List.mem_of_getElem? hs)
    simp only [List.all_eq_true, List.contains_eq_mem, decide_eq_true_eq] at this
    simpa [cloAt, hs] using this j hj
  have hcloD : ∀ j ∈ cloAt tab i, j ∈ D := by rw [hci]; exact clo_done ht hcl i r hr hre
  have hcloM : ∀ m ∈ D, ∀ j ∈ cloAt tab m, j ∈ D := by
    intro m hmD j hj
    cases hs : tab[m]? with
    | none => simp [cloAt, hs] at hj
    | some s => exact clo_done ht hcl m s hs (hcl m hmD s hs) j (by simpa [cloAt, hs] using hj)
  obtain ⟨done, s, E, H, hst, hsat, hdD, hDd, hat⟩ := hm.at_
  have hput : ∀ v w', Ext w w' → (∀ t, r.dst ≠ some t → (a.put o.dst v).tmps[t]? = a.tmps[t]?) ∧ (∀ d, r.dst = some d → (a.put o.dst v).tmps[d]? = some v) ∧ (a.put o.dst v).tmps.size = n ∧ (a.put o.dst v).defers = [] ∧
      (∀ t u, look e t = some u → (∀ j ∈ i :: D, dstAt tab j ≠ some t) → (a.put o.dst v).tmps[t]? = some u) := by
    intro v w' hx
    have q1 : ∀ t, r.dst ≠ some t → (a.put o.dst v).tmps[t]? = a.tmps[t]? := by
      intro t ht'
      rw [hd]
      cases hrd : r.dst with
      | none => rfl
      | some d =>
        have : d ≠ t := fun e => by subst e; exact ht' hrd
        simp [Act.put, this]
    refine ⟨q1, fun d hrd => ?_, ?_, ?_, fun t u hl hn => ?_⟩
    · rw [hd, hrd]; simp [Act.put, hm.size, hdn d hrd]
    · rw [hd]; cases r.dst <;> simp [Act.put, hm.size]
    · rw [hd]; cases r.dst <;> simp [Act.put, hm.defers]
    · rw [q1 t (fun e => hn i (by simp) (hdi.trans e))]
      exact hm.keep t u hl (fun j hj => hn j (by simp [hj]))
  have hev : EvOk a n (envI tab e0 i E) := by
    refine ⟨hm.size, hm.defers, fun t v hl => ?_⟩
    rcases look_append _ _ t v hl with hl | hl
    · obtain ⟨hk, hl⟩ := look_filter (f := fun t => (cloAt tab i).any fun j => dstAt tab j == some t) E t v hl
      simp only [List.any_eq_true, beq_iff_eq] at hk
      obtain ⟨j, hj, hjd⟩ := hk
      obtain ⟨u, hu, hu'⟩ := hat j (hcloD j hj) t hjd
      rw [hl] at hu
      injection hu with hu
      subst hu
      exact hu'
    · obtain ⟨hk, hl⟩ := look_filter e0 t v hl
      refine hm.keep t v (he0.look t v hl) fun j hj hd' => ?_
      simp only [keep, List.all_eq_true] at hk
      cases hs : tab[j]? with
      | none => simp [dstAt, hs] at hd'
      | some s' =>
        have := hk (s', j) (by rw [List.mem_zipIdx_iff_getElem?]; simpa using hs)
        simp only [dstAt, hs, Option.bind_some] at hd'
        simp only [hd', bne_self_eq_false, Bool.false_or, List.contains_eq_mem, decide_eq_true_eq] at this
        exact hi (hcloM j hj i (by simpa [cloAt, hs] using this))
  have hdo : ∀ j, (l.toArray[j]?).bind (·.dst) = dstAt tab j := by
    intro j
    have := congrArg (fun x => x[j]?) hrows
    simp only [List.getElem?_map] at this
    simp only [List.getElem?_toArray, dstAt]
    cases h1 : l[j]? <;> cases h2 : tab[j]? <;> simp_all
  have hdo' : ∀ j, (l[j]?).bind (·.dst) = dstAt tab j := fun j => by simpa using hdo j
  have hslot : ∀ j b d v, gdAt tab i = some (j, b) → dstAt tab j = some d → look E d = some v → a.tmps[d]? = some v := by
    intro j b d v h1 h2 h3
    obtain ⟨u, hu, hu'⟩ := hat j (hcloD j (hgd i j b h1)) d h2
    rw [h3] at hu
    injection hu with hu
    exact hu ▸ hu'
  have hgr : gdAt tab i = r.guard := by simp [gdAt, hr]
  have wants : gdRun tab i E → Region.wanted o (yielded l.toArray a.tmps) = true := by
    intro h
    unfold Region.wanted
    rw [hg, ← hgr]
    cases hq : gdAt tab i with
    | none => rfl
    | some jb =>
      obtain ⟨j, b⟩ := jb
      obtain ⟨d, h1, h2⟩ := h j b hq
      have := hslot j b d _ hq h1 h2
      simp [yielded, hdo', h1, this]
  have wants' : gdOff tab i E → Region.wanted o (yielded l.toArray a.tmps) = false := by
    rintro ⟨j, b, d, h1, h2, h3⟩
    unfold Region.wanted
    rw [hg, ← hgr, h1]
    rcases h3 with h3 | h3
    · have := hslot j b d _ h1 h2 h3
      simp [yielded, hdo', h2, this]
    · have := hslot j b d _ h1 h2 h3
      simp [yielded, hdo', h2, this, undef]
  unfold wpOp
  simp only [List.getElem?_toArray, ho]
  have hsc := hst.script
  have hother : ∀ v w', Ext w w' → ∀ j ∈ D, ∀ d, dstAt tab j = some d → (a.put o.dst v).tmps[d]? = a.tmps[d]? := fun v w' hx j hj d hd' => (hput v w' hx).1 d fun e => hi (f1 i j d (hdi.trans e) hd' ▸ hj)
  have hilt : i < tab.length := hlen ▸ hil
  have hcover := scT_cover hsc
  by_cases hall : i ∈ all
  · -- it ends the stage
    have hnd : i ∉ done := fun h => hi (hdD i h)
    have hsi : i ∈ s.chs := scT_ch hsc hall hnd (fun c hc hci => (scT_in hsc hc).2 (hDd c (scT_in hsc hc).1 (hcloD c hci)))
    obtain ⟨nx, hnx, hs', hsc'⟩ := scT_next hsc hsi hst.next
    have _u : True := trivial
    have adv : ∀ v w' H', Ext w w' → sat w' (stars H') → Wt P n e0 tab l Fin nx (addE tab i v E) H' → Mid3 P n e e0 tab l Fin W all (i :: D) (a.put o.dst v) w' := by
      intro v w' H' hx hs hw
      obtain ⟨E', hst', hlk⟩ := wt_open f1 hgd hself hsc' (fun d u hu => by
        by_cases hid : dstAt tab i = some d
        · exact ⟨i, hilt, hid⟩
        · rw [addE_look hid] at hu; exact hst.dom d u hu) hw
      obtain ⟨q1, q2, q3, q4, q5⟩ := hput v w' hx
      refine ⟨q3, q4, hm.ext.trans hx, q5, i :: done, nx, E', H', hst', hs, fun c hc => ?_, fun c hc hcD => ?_, fun j hj d hd' => ?_⟩
      · rcases List.mem_cons.1 hc with rfl | hc
        · simp
        · simp [hdD c hc]
      · rcases List.mem_cons.1 hcD with rfl | hcD
        · simp
        · simp [hDd c hc hcD]
      · have hne : ∀ q ∈ nx.ps, dstAt tab q ≠ some d := by
          intro q hq hqd
          have := f1 q j d hqd hd'
          subst this
          rcases List.mem_cons.1 hj with rfl | hj
          · exact hself _ (hs' _ hq)
          · exact hi (hcloM _ hj i (hs' _ hq))
        rw [hlk d hne]
        rcases List.mem_cons.1 hj with rfl | hj
        · exact ⟨v, addE_self hd', q2 d (hdi.symm.trans hd')⟩
        · rw [addE_look (fun e => hi (f1 i j d e hd' ▸ hj)), hother v w' hx j hj d hd']
          exact hat j hj d hd'
    rcases hnx with ⟨h1, h2⟩ | ⟨h1, o', h2, h3⟩
    · rw [wants' h1]
      exact hK _ _ (adv undef w H (.refl w) hsat h2)
    · rw [wants h1]
      simp only [if_true]
      left
      rw [ho] at h2
      injection h2 with h2
      subst h2
      exact h3.out a w ⟨hev, hsat⟩ o rfl rfl K _ fun v w' H' hc hx hs => hK _ _ (adv v w' H' hx hs hc)
  · have hgood : Good P n e0 tab l i E H := by
      rcases hcover i hilt with (((h | ⟨c, h1, h2, h3⟩) | ⟨c, h1, h2⟩) | h) | h
      · exact absurd h hall
      · exact absurd (hDd c h1 (hcloD c h2)) h3
      · exact absurd (hcloM c (hdD c h1) i h2) hi
      · exact hst.good i (.inl h)
      · exact hst.good i (.inr h)
    have stay : ∀ v w', (∀ d, dstAt tab i = some d → look E d = some v) → Ext w w' → sat w' (stars H) → Mid3 P n e e0 tab l Fin W all (i :: D) (a.put o.dst v) w' := by
      intro v w' hlk hx hs
      obtain ⟨q1, q2, q3, q4, q5⟩ := hput v w' hx
      refine ⟨q3, q4, hm.ext.trans hx, q5, done, s, E, H, hst, hs, fun c hc => by simp [hdD c hc], fun c hc hcD => ?_, fun j hj d hd' => ?_⟩
      · rcases List.mem_cons.1 hcD with rfl | hcD
        · exact absurd hc hall
        · exact hDd c hc hcD
      · rcases List.mem_cons.1 hj with rfl | hj
        · exact ⟨v, hlk d hd', q2 d (hdi.symm.trans hd')⟩
        · rw [hother v w' hx j hj d hd']
          exact hat j hj d hd'
    rcases hgood with ⟨h1, h2⟩ | ⟨v, h0, h1, o', h2, h3⟩
    · rw [wants' h1]
      exact hK _ _ (stay undef w h2 (.refl w) hsat)
    · rw [wants h1]
      simp only [if_true]
      left
      rw [ho] at h2
      injection h2 with h2
      subst h2
      exact h3.out a w ⟨hev, hsat⟩ o rfl rfl K _ fun v' w' H' hc hx hs => hK _ _ (hc.1 ▸ stay v w' h0 hx (hs.mono hc.2))
/-- All that is to be checked of a script. -/
def treeOk (n : Nat) (tab : List Row) (all : List Nat) (S : Scr) : Bool := tabOk tab && gdIn tab && scT tab all [] S && tab.all (fun r => match r.dst with | none => true | some d => Nat.blt d n)
/-- A REGION THAT DRAWS ITS ORDER, in stages. -/
theorem st_tree {id : Nat} (e0 : Ev) (tab : List Row) (all : List Nat) (S : Scr) (hm : P.follows .mixedOrders = true) (he : Covers e e0) (hrows : l.map (fun o => (o.dst, edgesOf o, o.guard)) = tab.map (fun r => (r.dst, r.edges, r.guard)))
    (hok : treeOk n tab all S = true) (h : Wt P n e0 tab l (fun E H' => Nx P k n (E ++ e) W H') S [] H) : St P (.region id l.toArray true) k n e W H :=
  ⟨fun a w ho => by
    simp only [treeOk, Bool.and_eq_true] at hok
    obtain ⟨⟨⟨ht, hin⟩, hsc⟩, hdst⟩ := hok
    have hlen : l.length = tab.length := by simpa using congrArg List.length hrows
    obtain ⟨f1, f2, f3⟩ := tabOk.facts ht
    have hself : ∀ i, i ∉ cloAt tab i := by
      intro j hj
      cases hs : tab[j]? with
      | none => simp [cloAt, hs] at hj
      | some s => have := f2 j s hs j (by simpa [cloAt, hs] using hj); omega
    have hgd : ∀ i j b, gdAt tab i = some (j, b) → j ∈ cloAt tab i := by
      intro i j b h
      obtain ⟨⟨s, hs, hj⟩, _⟩ := f3 i j b h
      have := List.all_eq_true.1 hin s (List.mem_of_getElem? hs)
      simp only [List.all_eq_true, List.contains_eq_mem, decide_eq_true_eq] at this
      simpa [cloAt, hs] using this j hj
    obtain ⟨E, hst, _⟩ := wt_open f1 hgd hself hsc (by simp [look]) h
    refine wp_region_any hm ?_
    refine any_all2 ht hrows (Mid3 P n e e0 tab l (fun E H' => Nx P k n (E ++ e) W H') W all) (fun D i r hcl hi hr hre a w hm K hK => mid3_step he ht hin hrows hdst hcl hi hr hre hm K hK) (fun D a w hall hm => ?_) _ _ [] _ _ List.nodup_nil (by simp) (by simp) (by simp) (fun i hi => by simp [hi]) (Nat.le_trans (List.length_filter_le _ _) (by simp))
      ⟨ho.ev.size, ho.ev.defers, ho.ext.drew, fun t v hl _ => ho.ev.get t v hl, [], S, E, H, hst, ho.sat, by simp, by simp, by simp⟩
    obtain ⟨done, s, E, H, hst, hsat, hdD, hDd, hat⟩ := hm.at_
    have hnx := hst.next
    have hfin : s.chs = [] := by
      cases hc : s.chs with
      | nil => rfl
      | cons c cs =>
        have hin2 := scT_in hst.script (c := c) (by rw [hc]; simp)
        exact absurd (hDd c hin2.1 (hall c (by have := scT_lt hst.script (c := c) (by rw [hc]; simp); omega))) hin2.2
    have hnx := nextT_fin hfin hnx
    refine Nx.out hnx a w ⟨⟨hm.size, hm.defers, fun t v hl => ?_⟩, hm.ext, hsat⟩
    rcases look_append' _ _ t v hl with hl | ⟨hn, hl⟩
    · obtain ⟨i, hi, hid⟩ := hst.dom t v hl
      obtain ⟨u, hu, hu'⟩ := hat i (hall i (by omega)) t hid
      rw [hl] at hu
      injection hu with hu
      exact hu ▸ hu'
    · refine hm.keep t v hl fun i hi hd => ?_
      have hit : i < tab.length := by
        cases hs : tab[i]? with
        | none => simp [dstAt, hs] at hd
        | some s => exact (List.getElem?_eq_some_iff.1 hs).1
      obtain ⟨u, hu, _⟩ := hat i hi t hd
      rw [hn] at hu
      cases hu⟩
end

section
variable {P : Program} {n : Nat} {e : Ev} {tab : List Row} {l : List Oper} {H : List Hl} {ps rs : List Nat} {i c1 c2 c3 : Nat} {n1 n2 n3 nx : Scr} {E : Ev} {Fin : Ev → List Hl → Prop}
theorem wt_end (h : OpenP P n e tab l H ps E fun E' => ReP P n e tab l H E' rs ∧ Fin E' H) : Wt P n e tab l Fin (.fin ps rs) E H := h
theorem wt_ch (h : OpenP P n e tab l H ps E fun E' => ReP P n e tab l H E' rs ∧ ((gdOff tab i E' ∧ Wt P n e tab l Fin nx (addE tab i undef E') H) ∨ Op1 P n e tab l i E' H fun v H' => Wt P n e tab l Fin nx (addE tab i v E') H')) : Wt P n e tab l Fin (.step ps rs i nx) E H := h
theorem wt_alt (h : OpenP P n e tab l H ps E fun E' => ReP P n e tab l H E' rs ∧ (((gdOff tab c1 E' ∧ Wt P n e tab l Fin n1 (addE tab c1 undef E') H) ∨ Op1 P n e tab l c1 E' H fun v H' => Wt P n e tab l Fin n1 (addE tab c1 v E') H') ∧
      ((gdOff tab c2 E' ∧ Wt P n e tab l Fin n2 (addE tab c2 undef E') H) ∨ Op1 P n e tab l c2 E' H fun v H' => Wt P n e tab l Fin n2 (addE tab c2 v E') H'))) : Wt P n e tab l Fin (.alt ps rs c1 n1 c2 n2) E H := h
theorem wt_alt3 (h : OpenP P n e tab l H ps E fun E' => ReP P n e tab l H E' rs ∧ (((gdOff tab c1 E' ∧ Wt P n e tab l Fin n1 (addE tab c1 undef E') H) ∨ Op1 P n e tab l c1 E' H fun v H' => Wt P n e tab l Fin n1 (addE tab c1 v E') H') ∧
      ((gdOff tab c2 E' ∧ Wt P n e tab l Fin n2 (addE tab c2 undef E') H) ∨ Op1 P n e tab l c2 E' H fun v H' => Wt P n e tab l Fin n2 (addE tab c2 v E') H') ∧
      ((gdOff tab c3 E' ∧ Wt P n e tab l Fin n3 (addE tab c3 undef E') H) ∨ Op1 P n e tab l c3 E' H fun v H' => Wt P n e tab l Fin n3 (addE tab c3 v E') H'))) : Wt P n e tab l Fin (.alt3 ps rs c1 n1 c2 n2 c3 n3) E H := h
variable {d : Nat} {op : Op} {ty : TypeId} {dst : Option Nat} {pos : String} {af : Array Edge} {g : Option (Nat × Bool)} {E' : Ev}
theorem ct_off (hd : dstAt tab i = some d) (hg : gdOff tab i E) (h : Wt P n e tab l Fin nx ((d, undef) :: E) H) : (gdOff tab i E ∧ Wt P n e tab l Fin nx (addE tab i undef E) H) ∨ Op1 P n e tab l i E H fun v H' => Wt P n e tab l Fin nx (addE tab i v E) H' := .inl ⟨hg, by rw [addE_some hd]; exact h⟩
theorem ct_off_no (hd : dstAt tab i = none) (hg : gdOff tab i E) (h : Wt P n e tab l Fin nx E H) : (gdOff tab i E ∧ Wt P n e tab l Fin nx (addE tab i undef E) H) ∨ Op1 P n e tab l i E H fun v H' => Wt P n e tab l Fin nx (addE tab i v E) H' := .inl ⟨hg, by rw [addE_none hd]; exact h⟩
theorem ct_run (hd : dstAt tab i = some d) (hg : gdRun tab i E) (ho : l[i]? = some ⟨dst, op, ty, pos, af, g⟩) (hc : Covers (envI tab e i E) E') (h : O1 P op ty n E' H fun v H' => Wt P n e tab l Fin nx ((d, v) :: E) H') : (gdOff tab i E ∧ Wt P n e tab l Fin nx (addE tab i undef E) H) ∨ Op1 P n e tab l i E H fun v H' => Wt P n e tab l Fin nx (addE tab i v E) H' :=
  .inr ⟨hg, _, ho, by simp only [addE_some hd]; exact h.cov hc⟩
theorem ct_run_no (hd : dstAt tab i = none) (hg : gdRun tab i E) (ho : l[i]? = some ⟨dst, op, ty, pos, af, g⟩) (hc : Covers (envI tab e i E) E') (h : O1 P op ty n E' H fun _ H' => Wt P n e tab l Fin nx E H') : (gdOff tab i E ∧ Wt P n e tab l Fin nx (addE tab i undef E) H) ∨ Op1 P n e tab l i E H fun v H' => Wt P n e tab l Fin nx (addE tab i v E) H' :=
  .inr ⟨hg, _, ho, by simp only [addE_none hd]; exact h.cov hc⟩
end
/-- A piece of code told by what holds behind it. -/
theorem st_via {P : Program} {k : Kon} {n : Nat} {e : Ev} {W : World} {H : List Hl} {co : Code} {X : Type} (e0 : X → Ev) (H0 : X → List Hl) (h : ∀ x, Nx P k n (e0 x) W (H0 x)) (r : (∀ x e' H', Covers e' (e0 x) → Ent H' (H0 x) → Nx P k n e' W H') → St P co k n e W H) : St P co k n e W H :=
  r fun x _ _ hc hE => ⟨fun a w ho => (h x).out a w ⟨ho.ev.covers hc, ho.ext, ho.sat.mono hE.out⟩⟩
theorem rt_via {P : Program} {k : Kon} {n : Nat} {e : Ev} {W : World} {H : List Hl} {co : Code} {X : Type} (e0 : X → Ev) (H0 : X → List Hl) (h : ∀ x, Rt P k n (e0 x) W (H0 x)) (r : (∀ x e' H', Covers e' (e0 x) → Ent H' (H0 x) → Rt P k n e' W H') → St P co k n e W H) : St P co k n e W H :=
  r fun x _ _ hc hE => ⟨fun a w ho => (h x).out a w ⟨ho.ev.covers hc, ho.ext, ho.sat.mono hE.out⟩⟩
end Go.Dp
