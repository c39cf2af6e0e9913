/-
  A region that draws its order, in stages, where two operations that change memory may come in either order.
  An operation whose guard's own operation was passed over; elements of an array in a box at a place that is told.
  An element of an array's value that has several cells; a pointer to a box against nil.
  Rows of bits, their words and their bytes, plain.
  Places that are set, counted; how the library counts them; plain.
  Rows of bits: places, first, count, xor, packed and unpacked; plain.
  Calls of the atomic operations on a cell of a box.
  Pointers against nil, closures, calls of what changes a box and its row.
  The rows of the types' table that the walks use.
  vec.Vec: a row of bits as data; New, within, Len, Has, Set, Of, walked.
  vec.List, Count, walked; bits.OnesCount64.
  Rows of bits in any number.
  vec.Bytes, First, walked; bits.TrailingZeros64 with its table.
  vec.Same, walked; slices.Equal of words.
  vec.Copy, Xor, walked.
  downpourlaw5: awake, VecSets, VecOrder, walked.
  Conditions: those that stand in each theorem.
-/
import Derived.Test.YtlmmnnhbnbakgaaDoorQElimPlays0
import Derived.Lib.TrailingZeros
import Derived.Laws.LoneSync
import Derived.Test.YtlmmnnhbnbakgaaDoorProg
import Derived.KernelRfl
set_option linter.unusedVariables false
namespace Go.Dp
open Go.RowKit
/-- A script of stages: an end, one operation that changes memory, or two of which either may come. -/
inductive Scr where
  | fin (ps rs : List Nat)
  | step (ps rs : List Nat) (c : Nat) (nx : Scr)
  | alt (ps rs : List Nat) (c1 : Nat) (n1 : Scr) (c2 : Nat) (n2 : Scr)
  | alt3 (ps rs : List Nat) (c1 : Nat) (n1 : Scr) (c2 : Nat) (n2 : Scr) (c3 : Nat) (n3 : Scr)
def Scr.ps : Scr → List Nat
  | .fin ps _ => ps
  | .step ps _ _ _ => ps
  | .alt ps _ _ _ _ _ => ps
  | .alt3 ps _ _ _ _ _ _ _ => ps
def Scr.rs : Scr → List Nat
  | .fin _ rs => rs
  | .step _ rs _ _ => rs
  | .alt _ rs _ _ _ _ => rs
  | .alt3 _ rs _ _ _ _ _ _ => rs
def Scr.chs : Scr → List Nat
  | .fin _ _ => []
  | .step _ _ c _ => [c]
  | .alt _ _ c1 _ c2 _ => [c1, c2]
  | .alt3 _ _ c1 _ c2 _ c3 _ => [c1, c2, c3]
section
variable (P : Program) (n : Nat) (e : Ev) (tab : List Row) (l : List Oper)
def Wt (Fin : Ev → List Hl → Prop) : Scr → Ev → List Hl → Prop
  | .fin ps rs, E, H => OpenP P n e tab l H ps E fun E' => ReP P n e tab l H E' rs ∧ Fin E' H
  | .step ps rs c nx, E, H => OpenP P n e tab l H ps E fun E' => ReP P n e tab l H E' rs ∧ ((gdOff tab c E' ∧ Wt Fin nx (addE tab c undef E') H) ∨ Op1 P n e tab l c E' H fun v H' => Wt Fin nx (addE tab c v E') H')
  | .alt ps rs c1 n1 c2 n2, E, H => OpenP P n e tab l H ps E fun E' => ReP P n e tab l H E' rs ∧ (((gdOff tab c1 E' ∧ Wt Fin n1 (addE tab c1 undef E') H) ∨ Op1 P n e tab l c1 E' H fun v H' => Wt Fin n1 (addE tab c1 v E') H') ∧
      ((gdOff tab c2 E' ∧ Wt Fin n2 (addE tab c2 undef E') H) ∨ Op1 P n e tab l c2 E' H fun v H' => Wt Fin n2 (addE tab c2 v E') H'))
  | .alt3 ps rs c1 n1 c2 n2 c3 n3, E, H => OpenP P n e tab l H ps E fun E' => ReP P n e tab l H E' rs ∧ (((gdOff tab c1 E' ∧ Wt Fin n1 (addE tab c1 undef E') H) ∨ Op1 P n e tab l c1 E' H fun v H' => Wt Fin n1 (addE tab c1 v E') H') ∧
      ((gdOff tab c2 E' ∧ Wt Fin n2 (addE tab c2 undef E') H) ∨ Op1 P n e tab l c2 E' H fun v H' => Wt Fin n2 (addE tab c2 v E') H') ∧
      ((gdOff tab c3 E' ∧ Wt Fin n3 (addE tab c3 undef E') H) ∨ Op1 P n e tab l c3 E' H fun v H' => Wt Fin n3 (addE tab c3 v E') H'))
def NxT (Fin : Ev → List Hl → Prop) (c : Nat) (nx : Scr) (E : Ev) (H : List Hl) : Prop := (gdOff tab c E ∧ Wt P n e tab l Fin nx (addE tab c undef E) H) ∨ Op1 P n e tab l c E H fun v H' => Wt P n e tab l Fin nx (addE tab c v E) H'
def nextT (Fin : Ev → List Hl → Prop) : Scr → Ev → List Hl → Prop
  | .fin _ _, E, H => Fin E H
  | .step _ _ c nx, E, H => NxT P n e tab l Fin c nx E H
  | .alt _ _ c1 n1 c2 n2, E, H => NxT P n e tab l Fin c1 n1 E H ∧ NxT P n e tab l Fin c2 n2 E H
  | .alt3 _ _ c1 n1 c2 n2 c3 n3, E, H => NxT P n e tab l Fin c1 n1 E H ∧ NxT P n e tab l Fin c2 n2 E H ∧ NxT P n e tab l Fin c3 n3 E H
end
def bT (tab : List Row) (all done ps rs chs : List Nat) : Bool :=
  psOk tab ps && (ps.all fun i => decide (i < tab.length)) && ((List.range tab.length).all fun i => all.contains i || (all.any fun c => (cloAt tab i).contains c && !done.contains c) || (done.any fun c => (cloAt tab c).contains i) || ps.contains i || rs.contains i) &&
  (chs.all fun c => decide (c < tab.length) && !done.contains c && all.contains c) && (all.all fun c' => done.contains c' || chs.contains c' || chs.any fun c => (cloAt tab c').contains c)
def scT (tab : List Row) (all : List Nat) : List Nat → Scr → Bool
  | done, .fin ps rs => bT tab all done ps rs []
  | done, .step ps rs c nx => bT tab all done ps rs [c] && ((nx.ps.all fun i => (cloAt tab i).contains c) && scT tab all (c :: done) nx)
  | done, .alt ps rs c1 n1 c2 n2 => bT tab all done ps rs [c1, c2] && (((n1.ps.all fun i => (cloAt tab i).contains c1) && scT tab all (c1 :: done) n1) && ((n2.ps.all fun i => (cloAt tab i).contains c2) && scT tab all (c2 :: done) n2))
  | done, .alt3 ps rs c1 n1 c2 n2 c3 n3 => bT tab all done ps rs [c1, c2, c3] && (((n1.ps.all fun i => (cloAt tab i).contains c1) && scT tab all (c1 :: done) n1) && (((n2.ps.all fun i => (cloAt tab i).contains c2) && scT tab all (c2 :: done) n2) && ((n3.ps.all fun i => (cloAt tab i).contains c3) && scT tab all (c3 :: done) n3)))
theorem scT_b {tab : List Row} {all done : List Nat} {s : Scr} (h : scT tab all done s = true) : bT tab all done s.ps s.rs s.chs = true := by
  cases s with
  | fin ps rs => exact h
  | step ps rs c nx => simp only [scT, Bool.and_eq_true] at h; exact h.1
  | alt ps rs c1 n1 c2 n2 => simp only [scT, Bool.and_eq_true] at h; exact h.1
  | alt3 ps rs c1 n1 c2 n2 c3 n3 => simp only [scT, Bool.and_eq_true] at h; exact h.1
theorem scT_in {tab : List Row} {all done : List Nat} {s : Scr} (h : scT tab all done s = true) {c : Nat} (hc : c ∈ s.chs) : c ∈ all ∧ c ∉ done := by
  have := scT_b h
  simp only [bT, Bool.and_eq_true, List.all_eq_true, decide_eq_true_eq, Bool.not_eq_true', List.contains_eq_mem, decide_eq_false_iff_not] at this
  exact ⟨(this.1.2 c hc).2, (this.1.2 c hc).1.2⟩
theorem scT_lt {tab : List Row} {all done : List Nat} {s : Scr} (h : scT tab all done s = true) {c : Nat} (hc : c ∈ s.chs) : c < tab.length := by
  have := scT_b h
  simp only [bT, Bool.and_eq_true, List.all_eq_true, decide_eq_true_eq] at this
  exact (this.1.2 c hc).1.1
theorem scT_cover {tab : List Row} {all done : List Nat} {s : Scr} (h : scT tab all done s = true) : ∀ i, i < tab.length → (((i ∈ all ∨ ∃ c, c ∈ all ∧ c ∈ cloAt tab i ∧ c ∉ done) ∨ ∃ c, c ∈ done ∧ i ∈ cloAt tab c) ∨ i ∈ s.ps) ∨ i ∈ s.rs := by
  have := scT_b h
  simp only [bT, Bool.and_eq_true, List.all_eq_true, List.mem_range, Bool.or_eq_true, List.any_eq_true, Bool.not_eq_true', List.contains_eq_mem, decide_eq_true_eq, decide_eq_false_iff_not] at this
  exact this.1.1.2
theorem scT_ch {tab : List Row} {all done : List Nat} {s : Scr} (h : scT tab all done s = true) {i : Nat} (hi : i ∈ all) (hd : i ∉ done) (hb : ∀ c, c ∈ s.chs → c ∈ cloAt tab i → False) : i ∈ s.chs := by
  have := scT_b h
  simp only [bT, Bool.and_eq_true, List.all_eq_true, Bool.or_eq_true, List.any_eq_true, List.contains_eq_mem, decide_eq_true_eq] at this
  rcases this.2 i hi with (h1 | h1) | ⟨c, h1, h2⟩
  · exact absurd h1 hd
  · exact h1
  · exact (hb c h1 h2).elim
section
variable {P : Program} {k : Kon} {n : Nat} {e e0 : Ev} {W : World} {H : List Hl} {tab : List Row} {l : List Oper} {Fin : Ev → List Hl → Prop}
theorem wt_eq (s : Scr) (E : Ev) (H : List Hl) : Wt P n e tab l Fin s E H = OpenP P n e tab l H s.ps E fun E' => ReP P n e tab l H E' s.rs ∧ nextT P n e tab l Fin s E' H := by cases s <;> rfl
theorem scT_next {all done : List Nat} {s : Scr} {E : Ev} {H : List Hl} (h : scT tab all done s = true) {i : Nat} (hi : i ∈ s.chs) (hn : nextT P n e tab l Fin s E H) :
    ∃ nx, NxT P n e tab l Fin i nx E H ∧ (∀ q ∈ nx.ps, i ∈ cloAt tab q) ∧ scT tab all (i :: done) nx = true := by
  cases s with
  | fin ps rs => simp [Scr.chs] at hi
  | step ps rs c nx =>
    simp only [Scr.chs, List.mem_singleton] at hi
    subst hi
    simp only [scT, Bool.and_eq_true, List.all_eq_true, List.contains_eq_mem, decide_eq_true_eq] at h
    exact ⟨nx, hn, h.2.1, h.2.2⟩
  | alt ps rs c1 n1 c2 n2 =>
    simp only [scT, Bool.and_eq_true, List.all_eq_true, List.contains_eq_mem, decide_eq_true_eq] at h
    simp only [Scr.chs, List.mem_cons, List.not_mem_nil, or_false] at hi
    rcases hi with rfl | rfl
    · exact ⟨n1, hn.1, h.2.1.1, h.2.1.2⟩
    · exact ⟨n2, hn.2, h.2.2.1, h.2.2.2⟩
  | alt3 ps rs c1 n1 c2 n2 c3 n3 =>
    simp only [scT, Bool.and_eq_true, List.all_eq_true, List.contains_eq_mem, decide_eq_true_eq] at h
    simp only [Scr.chs, List.mem_cons, List.not_mem_nil, or_false] at hi
    rcases hi with rfl | rfl | rfl
    · exact ⟨n1, hn.1, h.2.1.1, h.2.1.2⟩
    · exact ⟨n2, hn.2.1, h.2.2.1.1, h.2.2.1.2⟩
    · exact ⟨n3, hn.2.2, h.2.2.2.1, h.2.2.2.2⟩
theorem nextT_fin {s : Scr} {E : Ev} {H : List Hl} (h : s.chs = []) (hn : nextT P n e tab l Fin s E H) : Fin E H := by
  cases s with
  | fin ps rs => exact hn
  | step ps rs c nx => simp [Scr.chs] at h
  | alt ps rs c1 n1 c2 n2 => simp [Scr.chs] at h
  | alt3 ps rs c1 n1 c2 n2 c3 n3 => simp [Scr.chs] at h
/-- All of the stage's values are known. -/
structure StandT (P : Program) (n : Nat) (e0 : Ev) (tab : List Row) (l : List Oper) (Fin : Ev → List Hl → Prop) (all done : List Nat) (s : Scr) (E : Ev) (H : List Hl) : Prop where
  good : ∀ i, i ∈ s.ps ∨ i ∈ s.rs → Good P n e0 tab l i E H
  next : nextT P n e0 tab l Fin s E H
  script : scT tab all done s = true
  dom : ∀ d v, look E d = some v → ∃ i, i < tab.length ∧ dstAt tab i = some d
theorem wt_open (hdst : ∀ i j d, dstAt tab i = some d → dstAt tab j = some d → i = j) (hgd : ∀ i j b, gdAt tab i = some (j, b) → j ∈ cloAt tab i) (hself : ∀ i, i ∉ cloAt tab i) {all done : List Nat} {s : Scr} {E : Ev}
    (hs : scT tab all done s = true) (hdom : ∀ d v, look E d = some v → ∃ i, i < tab.length ∧ dstAt tab i = some d) (h : Wt P n e0 tab l Fin s E H) :
    ∃ E', StandT P n e0 tab l Fin all done s E' H ∧ ∀ d, (∀ i ∈ s.ps, dstAt tab i ≠ some d) → look E' d = look E d := by
  have hb := scT_b hs
  simp only [bT, Bool.and_eq_true] at hb
  rw [wt_eq] at h
  obtain ⟨E', ⟨c0, c1⟩, c2, c3, c4, _⟩ := open_out hdst hgd hself s.ps E _ hb.1.1.1.1 h
  refine ⟨E', ⟨fun i hi => ?_, c1, hs, fun d v hv => ?_⟩, c4⟩
  · rcases hi with hi | hi
    · exact c2 i hi
    · exact rep_out _ _ c0 i hi
  · rcases c3 d v hv with hh | ⟨i, hi, hid⟩
    · exact hdom d v hh
    · have := hb.1.1.1.2
      simp only [List.all_eq_true, decide_eq_true_eq] at this
      exact ⟨i, this i hi, hid⟩
/-- What holds while the operations of D have been done. -/
structure Mid3 (P : Program) (n : Nat) (e e0 : Ev) (tab : List Row) (l : List Oper) (Fin : Ev → List Hl → Prop) (W : World) (all D : List Nat) (a : Act) (w : World) : Prop where
  size : a.tmps.size = n
  defers : a.defers = []
  ext : Ext W w
  keep : ∀ t v, look e t = some v → (∀ i ∈ D, dstAt tab i ≠ some t) → a.tmps[t]? = some v
  at_ : ∃ (done : List Nat) (s : Scr) (E : Ev) (H : List Hl), StandT P n e0 tab l Fin all done s E H ∧ sat w (stars H) ∧ (∀ c, c ∈ done → c ∈ D) ∧ (∀ c ∈ all, c ∈ D → c ∈ done) ∧ (∀ i ∈ D, ∀ d, dstAt tab i = some d → ∃ v, look E d = some v ∧ a.tmps[d]? = some v)
theorem mid3_step (he0 : Covers e e0) (ht : tabOk tab = true) (hin : gdIn tab = true) (hrows : l.map (fun o => (o.dst, edgesOf o, o.guard)) = tab.map (fun r => (r.dst, r.edges, r.guard))) (hdst : tab.all (fun r => match r.dst with | none => true | some d => Nat.blt d n) = true)
    {all D : List Nat} (hcl : ∀ i ∈ D, ∀ r, tab[i]? = some r → ∀ j ∈ r.edges, j ∈ D) {i : Nat} (hi : i ∉ D) {r : Row} (hr : tab[i]? = some r) (hre : ∀ j ∈ r.edges, j ∈ D) {a : Act} {w : World} (hm : Mid3 P n e e0 tab l Fin W all D a w)
    (K : Act → World → Prop) (hK : ∀ a w, Mid3 P n e e0 tab l Fin W all (i :: D) a w → K a w) : wpOp P l.toArray (k.post P) i K a w := by
  have hlen : l.length = tab.length := by simpa using congrArg List.length hrows
  have hil : i < l.length := by rw [hlen]; exact (List.getElem?_eq_some_iff.1 hr).1
  have ho : l[i]? = some l[i] := List.getElem?_eq_getElem hil
  generalize hoo : l[i] = o at ho
  have hrow : (o.dst, edgesOf o, o.guard) = (r.dst, r.edges, r.guard) := by
    have := congrArg (fun x => x[i]?) hrows
    simp only [List.getElem?_map, ho, hr, Option.map_some, Option.some.injEq] at this
    exact this
  simp only [Prod.mk.injEq] at hrow
  obtain ⟨hd, he, hg⟩ := hrow
  obtain ⟨f1, f2, f3⟩ := tabOk.facts ht
  have hdn : ∀ d, r.dst = some d → d < n := by
    intro d hd
    have := List.all_eq_true.1 hdst r (List.mem_of_getElem? hr)
    rw [hd] at this
    simpa [Nat.blt_eq] using this
  have hdi : dstAt tab i = r.dst := by simp [dstAt, hr]
  have hci : cloAt tab i = r.clo := by simp [cloAt, hr]
  have hself : ∀ i, i ∉ cloAt tab i := by
    intro j hj
    cases hs : tab[j]? with
    | none => simp [cloAt, hs] at hj
    | some s => have := f2 j s hs j (by simpa [cloAt, hs] using hj); omega
  have hgd : ∀ i j b, gdAt tab i = some (j, b) → j ∈ cloAt tab i := by
    intro i j b h
    obtain ⟨⟨s, hs, hj⟩, _⟩ := f3 i j b h
    have := List.all_eq_true.1 hin s (List.mem_of_getElem? hs)
    simp only [List.all_eq_true, List.contains_eq_mem, decide_eq_true_eq] at this
    simpa [cloAt, hs] using this j hj
  have hcloD : ∀ j ∈ cloAt tab i, j ∈ D := by rw [hci]; exact clo_done ht hcl i r hr hre
  have hcloM : ∀ m ∈ D, ∀ j ∈ cloAt tab m, j ∈ D := by
    intro m hmD j hj
    cases hs : tab[m]? with
    | none => simp [cloAt, hs] at hj
    | some s => exact clo_done ht hcl m s hs (hcl m hmD s hs) j (by simpa [cloAt, hs] using hj)
  obtain ⟨done, s, E, H, hst, hsat, hdD, hDd, hat⟩ := hm.at_
  have hput : ∀ v w', Ext w w' → (∀ t, r.dst ≠ some t → (a.put o.dst v).tmps[t]? = a.tmps[t]?) ∧ (∀ d, r.dst = some d → (a.put o.dst v).tmps[d]? = some v) ∧ (a.put o.dst v).tmps.size = n ∧ (a.put o.dst v).defers = [] ∧
      (∀ t u, look e t = some u → (∀ j ∈ i :: D, dstAt tab j ≠ some t) → (a.put o.dst v).tmps[t]? = some u) := by
    intro v w' hx
    have q1 : ∀ t, r.dst ≠ some t → (a.put o.dst v).tmps[t]? = a.tmps[t]? := by
      intro t ht'
      rw [hd]
      cases hrd : r.dst with
      | none => rfl
      | some d =>
        have : d ≠ t := fun e => by subst e; exact ht' hrd
        simp [Act.put, this]
    refine ⟨q1, fun d hrd => ?_, ?_, ?_, fun t u hl hn => ?_⟩
    · rw [hd, hrd]; simp [Act.put, hm.size, hdn d hrd]
    · rw [hd]; cases r.dst <;> simp [Act.put, hm.size]
    · rw [hd]; cases r.dst <;> simp [Act.put, hm.defers]
    · rw [q1 t (fun e => hn i (by simp) (hdi.trans e))]
      exact hm.keep t u hl (fun j hj => hn j (by simp [hj]))
  have hev : EvOk a n (envI tab e0 i E) := by
    refine ⟨hm.size, hm.defers, fun t v hl => ?_⟩
    rcases look_append _ _ t v hl with hl | hl
    · obtain ⟨hk, hl⟩ := look_filter (f := fun t => (cloAt tab i).any fun j => dstAt tab j == some t) E t v hl
      simp only [List.any_eq_true, beq_iff_eq] at hk
      obtain ⟨j, hj, hjd⟩ := hk
      obtain ⟨u, hu, hu'⟩ := hat j (hcloD j hj) t hjd
      rw [hl] at hu
      injection hu with hu
      subst hu
      exact hu'
    · obtain ⟨hk, hl⟩ := look_filter e0 t v hl
      refine hm.keep t v (he0.look t v hl) fun j hj hd' => ?_
      simp only [keep, List.all_eq_true] at hk
      cases hs : tab[j]? with
      | none => simp [dstAt, hs] at hd'
      | some s' =>
        have := hk (s', j) (by rw [List.mem_zipIdx_iff_getElem?]; simpa using hs)
        simp only [dstAt, hs, Option.bind_some] at hd'
        simp only [hd', bne_self_eq_false, Bool.false_or, List.contains_eq_mem, decide_eq_true_eq] at this
        exact hi (hcloM j hj i (by simpa [cloAt, hs] using this))
  have hdo : ∀ j, (l.toArray[j]?).bind (·.dst) = dstAt tab j := by
    intro j
    have := congrArg (fun x => x[j]?) hrows
    simp only [List.getElem?_map] at this
    simp only [List.getElem?_toArray, dstAt]
    cases h1 : l[j]? <;> cases h2 : tab[j]? <;> simp_all
  have hdo' : ∀ j, (l[j]?).bind (·.dst) = dstAt tab j := fun j => by simpa using hdo j
  have hslot : ∀ j b d v, gdAt tab i = some (j, b) → dstAt tab j = some d → look E d = some v → a.tmps[d]? = some v := by
    intro j b d v h1 h2 h3
    obtain ⟨u, hu, hu'⟩ := hat j (hcloD j (hgd i j b h1)) d h2
    rw [h3] at hu
    injection hu with hu
    exact hu ▸ hu'
  have hgr : gdAt tab i = r.guard := by simp [gdAt, hr]
  have wants : gdRun tab i E → Region.wanted o (yielded l.toArray a.tmps) = true := by
    intro h
    unfold Region.wanted
    rw [hg, ← hgr]
    cases hq : gdAt tab i with
    | none => rfl
    | some jb =>
      obtain ⟨j, b⟩ := jb
      obtain ⟨d, h1, h2⟩ := h j b hq
      have := hslot j b d _ hq h1 h2
      simp [yielded, hdo', h1, this]
  have wants' : gdOff tab i E → Region.wanted o (yielded l.toArray a.tmps) = false := by
    rintro ⟨j, b, d, h1, h2, h3⟩
    unfold Region.wanted
    rw [hg, ← hgr, h1]
    rcases h3 with h3 | h3
    · have := hslot j b d _ h1 h2 h3
      simp [yielded, hdo', h2, this]
    · have := hslot j b d _ h1 h2 h3
      simp [yielded, hdo', h2, this, undef]
  unfold wpOp
  simp only [List.getElem?_toArray, ho]
  have hsc := hst.script
  have hother : ∀ v w', Ext w w' → ∀ j ∈ D, ∀ d, dstAt tab j = some d → (a.put o.dst v).tmps[d]? = a.tmps[d]? := fun v w' hx j hj d hd' => (hput v w' hx).1 d fun e => hi (f1 i j d (hdi.trans e) hd' ▸ hj)
  have hilt : i < tab.length := hlen ▸ hil
  have hcover := scT_cover hsc
  by_cases hall : i ∈ all
  · -- it ends the stage
    have hnd : i ∉ done := fun h => hi (hdD i h)
    have hsi : i ∈ s.chs := scT_ch hsc hall hnd (fun c hc hci => (scT_in hsc hc).2 (hDd c (scT_in hsc hc).1 (hcloD c hci)))
    obtain ⟨nx, hnx, hs', hsc'⟩ := scT_next hsc hsi hst.next
    have _u : True := trivial
    have adv : ∀ v w' H', Ext w w' → sat w' (stars H') → Wt P n e0 tab l Fin nx (addE tab i v E) H' → Mid3 P n e e0 tab l Fin W all (i :: D) (a.put o.dst v) w' := by
      intro v w' H' hx hs hw
      obtain ⟨E', hst', hlk⟩ := wt_open f1 hgd hself hsc' (fun d u hu => by
        by_cases hid : dstAt tab i = some d
        · exact ⟨i, hilt, hid⟩
        · rw [addE_look hid] at hu; exact hst.dom d u hu) hw
      obtain ⟨q1, q2, q3, q4, q5⟩ := hput v w' hx
      refine ⟨q3, q4, hm.ext.trans hx, q5, i :: done, nx, E', H', hst', hs, fun c hc => ?_, fun c hc hcD => ?_, fun j hj d hd' => ?_⟩
      · rcases List.mem_cons.1 hc with rfl | hc
        · simp
        · simp [hdD c hc]
      · rcases List.mem_cons.1 hcD with rfl | hcD
        · simp
        · simp [hDd c hc hcD]
      · have hne : ∀ q ∈ nx.ps, dstAt tab q ≠ some d := by
          intro q hq hqd
          have := f1 q j d hqd hd'
          subst this
          rcases List.mem_cons.1 hj with rfl | hj
          · exact hself _ (hs' _ hq)
          · exact hi (hcloM _ hj i (hs' _ hq))
        rw [hlk d hne]
        rcases List.mem_cons.1 hj with rfl | hj
        · exact ⟨v, addE_self hd', q2 d (hdi.symm.trans hd')⟩
        · rw [addE_look (fun e => hi (f1 i j d e hd' ▸ hj)), hother v w' hx j hj d hd']
          exact hat j hj d hd'
    rcases hnx with ⟨h1, h2⟩ | ⟨h1, o', h2, h3⟩
    · rw [wants' h1]
      exact hK _ _ (adv undef w H (.refl w) hsat h2)
    · rw [wants h1]
      simp only [if_true]
      left
      rw [ho] at h2
      injection h2 with h2
      subst h2
      exact h3.out a w ⟨hev, hsat⟩ o rfl rfl K _ fun v w' H' hc hx hs => hK _ _ (adv v w' H' hx hs hc)
  · have hgood : Good P n e0 tab l i E H := by
      rcases hcover i hilt with (((h | ⟨c, h1, h2, h3⟩) | ⟨c, h1, h2⟩) | h) | h
      · exact absurd h hall
      · exact absurd (hDd c h1 (hcloD c h2)) h3
      · exact absurd (hcloM c (hdD c h1) i h2) hi
      · exact hst.good i (.inl h)
      · exact hst.good i (.inr h)
    have stay : ∀ v w', (∀ d, dstAt tab i = some d → look E d = some v) → Ext w w' → sat w' (stars H) → Mid3 P n e e0 tab l Fin W all (i :: D) (a.put o.dst v) w' := by
      intro v w' hlk hx hs
      obtain ⟨q1, q2, q3, q4, q5⟩ := hput v w' hx
      refine ⟨q3, q4, hm.ext.trans hx, q5, done, s, E, H, hst, hs, fun c hc => by simp [hdD c hc], fun c hc hcD => ?_, fun j hj d hd' => ?_⟩
      · rcases List.mem_cons.1 hcD with rfl | hcD
        · exact absurd hc hall
        · exact hDd c hc hcD
      · rcases List.mem_cons.1 hj with rfl | hj
        · exact ⟨v, hlk d hd', q2 d (hdi.symm.trans hd')⟩
        · rw [hother v w' hx j hj d hd']
          exact hat j hj d hd'
    rcases hgood with ⟨h1, h2⟩ | ⟨v, h0, h1, o', h2, h3⟩
    · rw [wants' h1]
      exact hK _ _ (stay undef w h2 (.refl w) hsat)
    · rw [wants h1]
      simp only [if_true]
      left
      rw [ho] at h2
      injection h2 with h2
      subst h2
      exact h3.out a w ⟨hev, hsat⟩ o rfl rfl K _ fun v' w' H' hc hx hs => hK _ _ (hc.1 ▸ stay v w' h0 hx (hs.mono hc.2))
/-- All that is to be checked of a script. -/
def treeOk (n : Nat) (tab : List Row) (all : List Nat) (S : Scr) : Bool := tabOk tab && gdIn tab && scT tab all [] S && tab.all (fun r => match r.dst with | none => true | some d => Nat.blt d n)
/-- A REGION THAT DRAWS ITS ORDER, in stages. -/
theorem st_tree {id : Nat} (e0 : Ev) (tab : List Row) (all : List Nat) (S : Scr) (hm : P.follows .mixedOrders = true) (he : Covers e e0) (hrows : l.map (fun o => (o.dst, edgesOf o, o.guard)) = tab.map (fun r => (r.dst, r.edges, r.guard)))
    (hok : treeOk n tab all S = true) (h : Wt P n e0 tab l (fun E H' => Nx P k n (E ++ e) W H') S [] H) : St P (.region id l.toArray true) k n e W H :=
  ⟨fun a w ho => by
    simp only [treeOk, Bool.and_eq_true] at hok
    obtain ⟨⟨⟨ht, hin⟩, hsc⟩, hdst⟩ := hok
    have hlen : l.length = tab.length := by simpa using congrArg List.length hrows
    obtain ⟨f1, f2, f3⟩ := tabOk.facts ht
    have hself : ∀ i, i ∉ cloAt tab i := by
      intro j hj
      cases hs : tab[j]? with
      | none => simp [cloAt, hs] at hj
      | some s => have := f2 j s hs j (by simpa [cloAt, hs] using hj); omega
    have hgd : ∀ i j b, gdAt tab i = some (j, b) → j ∈ cloAt tab i := by
      intro i j b h
      obtain ⟨⟨s, hs, hj⟩, _⟩ := f3 i j b h
      have := List.all_eq_true.1 hin s (List.mem_of_getElem? hs)
      simp only [List.all_eq_true, List.contains_eq_mem, decide_eq_true_eq] at this
      simpa [cloAt, hs] using this j hj
    obtain ⟨E, hst, _⟩ := wt_open f1 hgd hself hsc (by simp [look]) h
    refine wp_region_any hm ?_
    refine any_all2 ht hrows (Mid3 P n e e0 tab l (fun E H' => Nx P k n (E ++ e) W H') W all) (fun D i r hcl hi hr hre a w hm K hK => mid3_step he ht hin hrows hdst hcl hi hr hre hm K hK) (fun D a w hall hm => ?_) _ _ [] _ _ List.nodup_nil (by simp) (by simp) (by simp) (fun i hi => by simp [hi]) (Nat.le_trans (List.length_filter_le _ _) (by simp))
      ⟨ho.ev.size, ho.ev.defers, ho.ext.drew, fun t v hl _ => ho.ev.get t v hl, [], S, E, H, hst, ho.sat, by simp, by simp, by simp⟩
    obtain ⟨done, s, E, H, hst, hsat, hdD, hDd, hat⟩ := hm.at_
    have hnx := hst.next
    have hfin : s.chs = [] := by
      cases hc : s.chs with
      | nil => rfl
      | cons c cs =>
        have hin2 := scT_in hst.script (c := c) (by rw [hc]; simp)
        exact absurd (hDd c hin2.1 (hall c (by have := scT_lt hst.script (c := c) (by rw [hc]; simp); omega))) hin2.2
    have hnx := nextT_fin hfin hnx
    refine Nx.out hnx a w ⟨⟨hm.size, hm.defers, fun t v hl => ?_⟩, hm.ext, hsat⟩
    rcases look_append' _ _ t v hl with hl | ⟨hn, hl⟩
    · obtain ⟨i, hi, hid⟩ := hst.dom t v hl
      obtain ⟨u, hu, hu'⟩ := hat i (hall i (by omega)) t hid
      rw [hl] at hu
      injection hu with hu
      exact hu ▸ hu'
    · refine hm.keep t v hl fun i hi hd => ?_
      have hit : i < tab.length := by
        cases hs : tab[i]? with
        | none => simp [dstAt, hs] at hd
        | some s => exact (List.getElem?_eq_some_iff.1 hs).1
      obtain ⟨u, hu, _⟩ := hat i hi t hd
      rw [hn] at hu
      cases hu⟩
end

section
variable {P : Program} {n : Nat} {e : Ev} {tab : List Row} {l : List Oper} {H : List Hl} {ps rs : List Nat} {i c1 c2 c3 : Nat} {n1 n2 n3 nx : Scr} {E : Ev} {Fin : Ev → List Hl → Prop}
theorem wt_end (h : OpenP P n e tab l H ps E fun E' => ReP P n e tab l H E' rs ∧ Fin E' H) : Wt P n e tab l Fin (.fin ps rs) E H := h
theorem wt_ch (h : OpenP P n e tab l H ps E fun E' => ReP P n e tab l H E' rs ∧ ((gdOff tab i E' ∧ Wt P n e tab l Fin nx (addE tab i undef E') H) ∨ Op1 P n e tab l i E' H fun v H' => Wt P n e tab l Fin nx (addE tab i v E') H')) : Wt P n e tab l Fin (.step ps rs i nx) E H := h
theorem wt_alt (h : OpenP P n e tab l H ps E fun E' => ReP P n e tab l H E' rs ∧ (((gdOff tab c1 E' ∧ Wt P n e tab l Fin n1 (addE tab c1 undef E') H) ∨ Op1 P n e tab l c1 E' H fun v H' => Wt P n e tab l Fin n1 (addE tab c1 v E') H') ∧
      ((gdOff tab c2 E' ∧ Wt P n e tab l Fin n2 (addE tab c2 undef E') H) ∨ Op1 P n e tab l c2 E' H fun v H' => Wt P n e tab l Fin n2 (addE tab c2 v E') H'))) : Wt P n e tab l Fin (.alt ps rs c1 n1 c2 n2) E H := h
theorem wt_alt3 (h : OpenP P n e tab l H ps E fun E' => ReP P n e tab l H E' rs ∧ (((gdOff tab c1 E' ∧ Wt P n e tab l Fin n1 (addE tab c1 undef E') H) ∨ Op1 P n e tab l c1 E' H fun v H' => Wt P n e tab l Fin n1 (addE tab c1 v E') H') ∧
      ((gdOff tab c2 E' ∧ Wt P n e tab l Fin n2 (addE tab c2 undef E') H) ∨ Op1 P n e tab l c2 E' H fun v H' => Wt P n e tab l Fin n2 (addE tab c2 v E') H') ∧
      ((gdOff tab c3 E' ∧ Wt P n e tab l Fin n3 (addE tab c3 undef E') H) ∨ Op1 P n e tab l c3 E' H fun v H' => Wt P n e tab l Fin n3 (addE tab c3 v E') H'))) : Wt P n e tab l Fin (.alt3 ps rs c1 n1 c2 n2 c3 n3) E H := h
variable {d : Nat} {op : Op} {ty : TypeId} {dst : Option Nat} {pos : String} {af : Array Edge} {g : Option (Nat × Bool)} {E' : Ev}
theorem ct_off (hd : dstAt tab i = some d) (hg : gdOff tab i E) (h : Wt P n e tab l Fin nx ((d, undef) :: E) H) : (gdOff tab i E ∧ Wt P n e tab l Fin nx (addE tab i undef E) H) ∨ Op1 P n e tab l i E H fun v H' => Wt P n e tab l Fin nx (addE tab i v E) H' := .inl ⟨hg, by rw [addE_some hd]; exact h⟩
theorem ct_off_no (hd : dstAt tab i = none) (hg : gdOff tab i E) (h : Wt P n e tab l Fin nx E H) : (gdOff tab i E ∧ Wt P n e tab l Fin nx (addE tab i undef E) H) ∨ Op1 P n e tab l i E H fun v H' => Wt P n e tab l Fin nx (addE tab i v E) H' := .inl ⟨hg, by rw [addE_none hd]; exact h⟩
theorem ct_run (hd : dstAt tab i = some d) (hg : gdRun tab i E) (ho : l[i]? = some ⟨dst, op, ty, pos, af, g⟩) (hc : Covers (envI tab e i E) E') (h : O1 P op ty n E' H fun v H' => Wt P n e tab l Fin nx ((d, v) :: E) H') : (gdOff tab i E ∧ Wt P n e tab l Fin nx (addE tab i undef E) H) ∨ Op1 P n e tab l i E H fun v H' => Wt P n e tab l Fin nx (addE tab i v E) H' :=
  .inr ⟨hg, _, ho, by simp only [addE_some hd]; exact h.cov hc⟩
theorem ct_run_no (hd : dstAt tab i = none) (hg : gdRun tab i E) (ho : l[i]? = some ⟨dst, op, ty, pos, af, g⟩) (hc : Covers (envI tab e i E) E') (h : O1 P op ty n E' H fun _ H' => Wt P n e tab l Fin nx E H') : (gdOff tab i E ∧ Wt P n e tab l Fin nx (addE tab i undef E) H) ∨ Op1 P n e tab l i E H fun v H' => Wt P n e tab l Fin nx (addE tab i v E) H' :=
  .inr ⟨hg, _, ho, by simp only [addE_none hd]; exact h.cov hc⟩
end
/-- A piece of code told by what holds behind it. -/
theorem st_via {P : Program} {k : Kon} {n : Nat} {e : Ev} {W : World} {H : List Hl} {co : Code} {X : Type} (e0 : X → Ev) (H0 : X → List Hl) (h : ∀ x, Nx P k n (e0 x) W (H0 x)) (r : (∀ x e' H', Covers e' (e0 x) → Ent H' (H0 x) → Nx P k n e' W H') → St P co k n e W H) : St P co k n e W H :=
  r fun x _ _ hc hE => ⟨fun a w ho => (h x).out a w ⟨ho.ev.covers hc, ho.ext, ho.sat.mono hE.out⟩⟩
theorem rt_via {P : Program} {k : Kon} {n : Nat} {e : Ev} {W : World} {H : List Hl} {co : Code} {X : Type} (e0 : X → Ev) (H0 : X → List Hl) (h : ∀ x, Rt P k n (e0 x) W (H0 x)) (r : (∀ x e' H', Covers e' (e0 x) → Ent H' (H0 x) → Rt P k n e' W H') → St P co k n e W H) : St P co k n e W H :=
  r fun x _ _ hc hE => ⟨fun a w ho => (h x).out a w ⟨ho.ev.covers hc, ho.ext, ho.sat.mono hE.out⟩⟩
end Go.Dp

set_option linter.unusedVariables false
namespace Go.Dp
open Go.RowKit
theorem ls_guard_un {P : Program} {ops : Array Oper} {k : Kon} {rest : List Oper} {n : Nat} {e : Ev} {W : World} {H : List Hl} {d : Nat} {ty : TypeId} {pos : String} {af : Array Edge} {op : Op} {j : Nat} {b : Bool} {t : Nat} (hd : Nat.blt d n = true) (hj : (ops[j]?).bind (·.dst) = some t) (hl : look e t = some undef) (h : Ls P ops k rest n ((d, undef) :: e) W H) :
    Ls P ops k (⟨some d, op, ty, pos, af, some (j, b)⟩ :: rest) n e W H :=
  ⟨fun a w ho => by
    have hy : yielded ops a.tmps j = none := by simp [yielded, hj, ho.ev.get t _ hl, undef]
    have : ((none : Option Bool) == some b) = false := rfl
    unfold wpList
    simp only [Region.wanted, hy, this]
    exact h.out _ _ ⟨ho.ev.put hd undef, ho.ext, ho.sat⟩⟩
theorem ox_idx_arr {P : Program} {n : Nat} {H : List Hl} {e : Ev} {C : Value → List Hl → Prop} {ty : TypeId} {x y : Operand} {T E : TypeId} {z : Value} {by_ : Nat} {p : Int} {kd : IntKind} {b o m s : Nat} (i o' : Nat) [ht : TArr P T m E] [hi : TInf P E z s by_] (hx : opd e x = some (.pointer (some ⟨b, o, none⟩))) (hy : opd e y = some (.int kd p)) (hp : p = i) (hlt : i < m) (ho : o' = o + i * s)
    (h : C (.pointer (some ⟨b, o', none⟩)) H) : O1 P (.indexAddr T x y) ty n e H C :=
  o1_indexAddr_arr hx hy (by omega) (by
    subst hp ho
    simpa using h)
section
variable {P : Program} {n : Nat} {e : Ev} {tab : List Row} {l : List Oper} {H : List Hl} {ps rs : List Nat} {i d j dj : Nat} {b : Bool} {E : Ev} {v : Value} {C : Ev → Prop} {op : Op} {ty : TypeId} {dst : Option Nat} {pos : String} {af : Array Edge} {g : Option (Nat × Bool)} {Q : Prop}
theorem fz {v : Value} {H : List Hl} : v = v ∧ ∀ h, stars H h → stars H h := ⟨rfl, fun _ h => h⟩
theorem xp0 (hd : dstAt tab i = some d) (hgn : gdAt tab i = none) (ho : l[i]? = some ⟨dst, op, ty, pos, af, g⟩) (h1 : O1 P op ty n [] H fun v' H' => v' = v ∧ ∀ h, stars H' h → stars H h) (h : OpenP P n e tab l H ps ((d, v) :: E) C) : OpenP P n e tab l H (i :: ps) E C := op_run hd (gd_r0 hgn) ho cov_nil h1 h
theorem xq0 (hd : dstAt tab i = some d) (hl : look E d = some v) (hgn : gdAt tab i = none) (ho : l[i]? = some ⟨dst, op, ty, pos, af, g⟩) (h1 : O1 P op ty n [] H fun v' H' => v' = v ∧ ∀ h, stars H' h → stars H h) (h : ReP P n e tab l H E rs ∧ Q) : ReP P n e tab l H E (i :: rs) ∧ Q := re_run hd hl (gd_r0 hgn) ho cov_nil h1 h
theorem xpg0 (hd : dstAt tab i = some d) (hgs : gdAt tab i = some (j, b)) (hdj : dstAt tab j = some dj) (hlj : look E dj = some (.bool b)) (ho : l[i]? = some ⟨dst, op, ty, pos, af, g⟩) (h1 : O1 P op ty n [] H fun v' H' => v' = v ∧ ∀ h, stars H' h → stars H h) (h : OpenP P n e tab l H ps ((d, v) :: E) C) : OpenP P n e tab l H (i :: ps) E C := op_run hd (gd_r1 hgs hdj hlj) ho cov_nil h1 h
theorem xqg0 (hd : dstAt tab i = some d) (hl : look E d = some v) (hgs : gdAt tab i = some (j, b)) (hdj : dstAt tab j = some dj) (hlj : look E dj = some (.bool b)) (ho : l[i]? = some ⟨dst, op, ty, pos, af, g⟩) (h1 : O1 P op ty n [] H fun v' H' => v' = v ∧ ∀ h, stars H' h → stars H h) (h : ReP P n e tab l H E rs ∧ Q) : ReP P n e tab l H E (i :: rs) ∧ Q := re_run hd hl (gd_r1 hgs hdj hlj) ho cov_nil h1 h
theorem xp1 (t1 : Nat) {u1 : Value} (hd : dstAt tab i = some d) (hgn : gdAt tab i = none) (ho : l[i]? = some ⟨dst, op, ty, pos, af, g⟩) (k1 : look (envI tab e i E) t1 = some u1) (h1 : O1 P op ty n [(t1, u1)] H fun v' H' => v' = v ∧ ∀ h, stars H' h → stars H h) (h : OpenP P n e tab l H ps ((d, v) :: E) C) : OpenP P n e tab l H (i :: ps) E C := op_run hd (gd_r0 hgn) ho (cov_cons k1 rfl cov_nil) h1 h
theorem xq1 (t1 : Nat) {u1 : Value} (hd : dstAt tab i = some d) (hl : look E d = some v) (hgn : gdAt tab i = none) (ho : l[i]? = some ⟨dst, op, ty, pos, af, g⟩) (k1 : look (envI tab e i E) t1 = some u1) (h1 : O1 P op ty n [(t1, u1)] H fun v' H' => v' = v ∧ ∀ h, stars H' h → stars H h) (h : ReP P n e tab l H E rs ∧ Q) : ReP P n e tab l H E (i :: rs) ∧ Q := re_run hd hl (gd_r0 hgn) ho (cov_cons k1 rfl cov_nil) h1 h
theorem xpg1 (t1 : Nat) {u1 : Value} (hd : dstAt tab i = some d) (hgs : gdAt tab i = some (j, b)) (hdj : dstAt tab j = some dj) (hlj : look E dj = some (.bool b)) (ho : l[i]? = some ⟨dst, op, ty, pos, af, g⟩) (k1 : look (envI tab e i E) t1 = some u1) (h1 : O1 P op ty n [(t1, u1)] H fun v' H' => v' = v ∧ ∀ h, stars H' h → stars H h) (h : OpenP P n e tab l H ps ((d, v) :: E) C) : OpenP P n e tab l H (i :: ps) E C := op_run hd (gd_r1 hgs hdj hlj) ho (cov_cons k1 rfl cov_nil) h1 h
theorem xqg1 (t1 : Nat) {u1 : Value} (hd : dstAt tab i = some d) (hl : look E d = some v) (hgs : gdAt tab i = some (j, b)) (hdj : dstAt tab j = some dj) (hlj : look E dj = some (.bool b)) (ho : l[i]? = some ⟨dst, op, ty, pos, af, g⟩) (k1 : look (envI tab e i E) t1 = some u1) (h1 : O1 P op ty n [(t1, u1)] H fun v' H' => v' = v ∧ ∀ h, stars H' h → stars H h) (h : ReP P n e tab l H E rs ∧ Q) : ReP P n e tab l H E (i :: rs) ∧ Q := re_run hd hl (gd_r1 hgs hdj hlj) ho (cov_cons k1 rfl cov_nil) h1 h
theorem xp2 (t1 : Nat) (t2 : Nat) {u1 : Value} {u2 : Value} (hd : dstAt tab i = some d) (hgn : gdAt tab i = none) (ho : l[i]? = some ⟨dst, op, ty, pos, af, g⟩) (k1 : look (envI tab e i E) t1 = some u1) (k2 : look (envI tab e i E) t2 = some u2) (h1 : O1 P op ty n [(t1, u1), (t2, u2)] H fun v' H' => v' = v ∧ ∀ h, stars H' h → stars H h) (h : OpenP P n e tab l H ps ((d, v) :: E) C) : OpenP P n e tab l H (i :: ps) E C := op_run hd (gd_r0 hgn) ho (cov_cons k1 rfl (cov_cons k2 rfl cov_nil)) h1 h
theorem xq2 (t1 : Nat) (t2 : Nat) {u1 : Value} {u2 : Value} (hd : dstAt tab i = some d) (hl : look E d = some v) (hgn : gdAt tab i = none) (ho : l[i]? = some ⟨dst, op, ty, pos, af, g⟩) (k1 : look (envI tab e i E) t1 = some u1) (k2 : look (envI tab e i E) t2 = some u2) (h1 : O1 P op ty n [(t1, u1), (t2, u2)] H fun v' H' => v' = v ∧ ∀ h, stars H' h → stars H h) (h : ReP P n e tab l H E rs ∧ Q) : ReP P n e tab l H E (i :: rs) ∧ Q := re_run hd hl (gd_r0 hgn) ho (cov_cons k1 rfl (cov_cons k2 rfl cov_nil)) h1 h
theorem xpg2 (t1 : Nat) (t2 : Nat) {u1 : Value} {u2 : Value} (hd : dstAt tab i = some d) (hgs : gdAt tab i = some (j, b)) (hdj : dstAt tab j = some dj) (hlj : look E dj = some (.bool b)) (ho : l[i]? = some ⟨dst, op, ty, pos, af, g⟩) (k1 : look (envI tab e i E) t1 = some u1) (k2 : look (envI tab e i E) t2 = some u2) (h1 : O1 P op ty n [(t1, u1), (t2, u2)] H fun v' H' => v' = v ∧ ∀ h, stars H' h → stars H h) (h : OpenP P n e tab l H ps ((d, v) :: E) C) : OpenP P n e tab l H (i :: ps) E C := op_run hd (gd_r1 hgs hdj hlj) ho (cov_cons k1 rfl (cov_cons k2 rfl cov_nil)) h1 h
theorem xqg2 (t1 : Nat) (t2 : Nat) {u1 : Value} {u2 : Value} (hd : dstAt tab i = some d) (hl : look E d = some v) (hgs : gdAt tab i = some (j, b)) (hdj : dstAt tab j = some dj) (hlj : look E dj = some (.bool b)) (ho : l[i]? = some ⟨dst, op, ty, pos, af, g⟩) (k1 : look (envI tab e i E) t1 = some u1) (k2 : look (envI tab e i E) t2 = some u2) (h1 : O1 P op ty n [(t1, u1), (t2, u2)] H fun v' H' => v' = v ∧ ∀ h, stars H' h → stars H h) (h : ReP P n e tab l H E rs ∧ Q) : ReP P n e tab l H E (i :: rs) ∧ Q := re_run hd hl (gd_r1 hgs hdj hlj) ho (cov_cons k1 rfl (cov_cons k2 rfl cov_nil)) h1 h
theorem xp3 (t1 : Nat) (t2 : Nat) (t3 : Nat) {u1 : Value} {u2 : Value} {u3 : Value} (hd : dstAt tab i = some d) (hgn : gdAt tab i = none) (ho : l[i]? = some ⟨dst, op, ty, pos, af, g⟩) (k1 : look (envI tab e i E) t1 = some u1) (k2 : look (envI tab e i E) t2 = some u2) (k3 : look (envI tab e i E) t3 = some u3) (h1 : O1 P op ty n [(t1, u1), (t2, u2), (t3, u3)] H fun v' H' => v' = v ∧ ∀ h, stars H' h → stars H h) (h : OpenP P n e tab l H ps ((d, v) :: E) C) : OpenP P n e tab l H (i :: ps) E C := op_run hd (gd_r0 hgn) ho (cov_cons k1 rfl (cov_cons k2 rfl (cov_cons k3 rfl cov_nil))) h1 h
theorem xq3 (t1 : Nat) (t2 : Nat) (t3 : Nat) {u1 : Value} {u2 : Value} {u3 : Value} (hd : dstAt tab i = some d) (hl : look E d = some v) (hgn : gdAt tab i = none) (ho : l[i]? = some ⟨dst, op, ty, pos, af, g⟩) (k1 : look (envI tab e i E) t1 = some u1) (k2 : look (envI tab e i E) t2 = some u2) (k3 : look (envI tab e i E) t3 = some u3) (h1 : O1 P op ty n [(t1, u1), (t2, u2), (t3, u3)] H fun v' H' => v' = v ∧ ∀ h, stars H' h → stars H h) (h : ReP P n e tab l H E rs ∧ Q) : ReP P n e tab l H E (i :: rs) ∧ Q := re_run hd hl (gd_r0 hgn) ho (cov_cons k1 rfl (cov_cons k2 rfl (cov_cons k3 rfl cov_nil))) h1 h
theorem xpg3 (t1 : Nat) (t2 : Nat) (t3 : Nat) {u1 : Value} {u2 : Value} {u3 : Value} (hd : dstAt tab i = some d) (hgs : gdAt tab i = some (j, b)) (hdj : dstAt tab j = some dj) (hlj : look E dj = some (.bool b)) (ho : l[i]? = some ⟨dst, op, ty, pos, af, g⟩) (k1 : look (envI tab e i E) t1 = some u1) (k2 : look (envI tab e i E) t2 = some u2) (k3 : look (envI tab e i E) t3 = some u3) (h1 : O1 P op ty n [(t1, u1), (t2, u2), (t3, u3)] H fun v' H' => v' = v ∧ ∀ h, stars H' h → stars H h) (h : OpenP P n e tab l H ps ((d, v) :: E) C) : OpenP P n e tab l H (i :: ps) E C := op_run hd (gd_r1 hgs hdj hlj) ho (cov_cons k1 rfl (cov_cons k2 rfl (cov_cons k3 rfl cov_nil))) h1 h
theorem xqg3 (t1 : Nat) (t2 : Nat) (t3 : Nat) {u1 : Value} {u2 : Value} {u3 : Value} (hd : dstAt tab i = some d) (hl : look E d = some v) (hgs : gdAt tab i = some (j, b)) (hdj : dstAt tab j = some dj) (hlj : look E dj = some (.bool b)) (ho : l[i]? = some ⟨dst, op, ty, pos, af, g⟩) (k1 : look (envI tab e i E) t1 = some u1) (k2 : look (envI tab e i E) t2 = some u2) (k3 : look (envI tab e i E) t3 = some u3) (h1 : O1 P op ty n [(t1, u1), (t2, u2), (t3, u3)] H fun v' H' => v' = v ∧ ∀ h, stars H' h → stars H h) (h : ReP P n e tab l H E rs ∧ Q) : ReP P n e tab l H E (i :: rs) ∧ Q := re_run hd hl (gd_r1 hgs hdj hlj) ho (cov_cons k1 rfl (cov_cons k2 rfl (cov_cons k3 rfl cov_nil))) h1 h
theorem xpo1 (hd : dstAt tab i = some d) (h1 : gdAt tab i = some (j, b)) (h2 : dstAt tab j = some dj) (h3 : look E dj = some (.bool (!b))) (h : OpenP P n e tab l H ps ((d, undef) :: E) C) : OpenP P n e tab l H (i :: ps) E C := op_off hd (gd_o1 h1 h2 h3) h
theorem xpo2 (hd : dstAt tab i = some d) (h1 : gdAt tab i = some (j, b)) (h2 : dstAt tab j = some dj) (h3 : look E dj = some undef) (h : OpenP P n e tab l H ps ((d, undef) :: E) C) : OpenP P n e tab l H (i :: ps) E C := op_off hd (gd_o2 h1 h2 h3) h
theorem xqo1 (hd : dstAt tab i = some d) (hl : look E d = some undef) (h1 : gdAt tab i = some (j, b)) (h2 : dstAt tab j = some dj) (h3 : look E dj = some (.bool (!b))) (h : ReP P n e tab l H E rs ∧ Q) : ReP P n e tab l H E (i :: rs) ∧ Q := re_off hd hl (gd_o1 h1 h2 h3) h
theorem xqo2 (hd : dstAt tab i = some d) (hl : look E d = some undef) (h1 : gdAt tab i = some (j, b)) (h2 : dstAt tab j = some dj) (h3 : look E dj = some undef) (h : ReP P n e tab l H E rs ∧ Q) : ReP P n e tab l H E (i :: rs) ∧ Q := re_off hd hl (gd_o2 h1 h2 h3) h
end
end Go.Dp

set_option linter.unusedVariables false
namespace Go.Dp
open Go.RowKit
theorem o1_index_agg {P : Program} {n : Nat} {H : List Hl} {e : Ev} {C : Value → List Hl → Prop} {ty : TypeId} {x y : Operand} {T E : TypeId} {z : Value} {by_ : Nat} {p : Int} {kd : IntKind} {m s : Nat} {vs ws : List Value} (i : Nat) [ht : TArr P T m E] [TAgg P E] [hi : TInf P E z s by_] (hx : opd e x = some (.agg vs.toArray)) (hy : opd e y = some (.int kd p)) (hp : p = i) (hlt : i < m) (hv : (vs.drop (i * s)).take s = ws)
    (h : C (.agg ws.toArray) H) : O1 P (.index T x y) ty n e H C :=
  o1_val _ (fun a w ho => by
    subst hp hv
    simp [execOp, ho.ev.eval hx, ho.ev.eval hy, Instr.index, asIntOf, run_underlying ht.u, hlt, run_sizeOf, part, run_isAgg_agg, Nat.add_sub_cancel_left, List.extract]) h
/-- A piece of code told by what holds behind it, whatever comes behind. -/
theorem st_viaK {P : Program} {k : Kon} {n : Nat} {e : Ev} {W : World} {H : List Hl} {co : Code} {X : Type} (e0 : X → Ev) (H0 : X → List Hl) (h : ∀ x, Nx P k n (e0 x) W (H0 x)) (r : ∀ k', (∀ x e' H', Covers e' (e0 x) → Ent H' (H0 x) → Nx P k' n e' W H') → St P co k' n e W H) : St P co k n e W H :=
  r k fun x _ _ hc hE => ⟨fun a w ho => (h x).out a w ⟨ho.ev.covers hc, ho.ext, ho.sat.mono hE.out⟩⟩
/-- append, its length told as that of the list. -/
theorem ox_appendL {P : Program} {n : Nat} {H : List Hl} {e : Ev} {C : Value → List Hl → Prop} {ty : TypeId} {x y : Operand} {α : Type} {enc : α → Value} {T E : TypeId} {z : Value} {by_ : Nat} {ad ad' : Option Addr} {c c' : Nat} {xs ys : List α} {H' : List Hl} [TSl P T E] [TInf P E z 1 by_] (hx : opd e x = some (.slice ad xs.length c)) (hy : opd e y = some (.slice ad' ys.length c'))
    [s : SRow H ad c xs.length E (xs.map enc) H'] (hr : RsH H enc ad' c' ys) (hz : z.oneCell' = true) (henc : ∀ x, (enc x).oneCell' = true) (hb : (xs.length + ys.length) * by_ ≤ 140737488355328) (hb2 : xs.length + ys.length ≤ 9223372036854775807)
    (h : ∀ ad2 c2, C (.slice ad2 (xs ++ ys).length c2) (.row E 1 (.slice ad2 (xs ++ ys).length c2) (xs ++ ys).length ((xs ++ ys).map enc) :: H')) :
    O1 P (.call ⟨.builtin .append, #[x, y], #[T, T]⟩) ty n e H C := ox_append hx hy hr rfl hz henc hb hb2 (fun ad2 c2 => by
  have := h ad2 c2
  rwa [List.length_append] at this)
end Go.Dp

set_option linter.unusedVariables false
set_option linter.unusedSimpArgs false
namespace Go.Dp
/-- The k-th word of bits. -/
def wordOf (l : List Bool) (k : Nat) : BitVec 64 := (BitVec.iunfoldr (fun (i : Fin 64) (_ : Unit) => ((), l.getD (64 * k + i.val) false)) ()).2
theorem wordOf_bit (l : List Bool) (k j : Nat) (hj : j < 64) : (wordOf l k).getLsbD j = l.getD (64 * k + j) false :=
  BitVec.iunfoldr_getLsbD (f := fun (i : Fin 64) (_ : Unit) => ((), l.getD (64 * k + i.val) false)) (fun _ => ()) ⟨j, hj⟩ (fun _ => rfl)
def byteOf (l : List Bool) (k : Nat) : BitVec 8 := (BitVec.iunfoldr (fun (i : Fin 8) (_ : Unit) => ((), l.getD (8 * k + i.val) false)) ()).2
theorem byteOf_bit (l : List Bool) (k j : Nat) (hj : j < 8) : (byteOf l k).getLsbD j = l.getD (8 * k + j) false :=
  BitVec.iunfoldr_getLsbD (f := fun (i : Fin 8) (_ : Unit) => ((), l.getD (8 * k + i.val) false)) (fun _ => ()) ⟨j, hj⟩ (fun _ => rfl)
def nw (n : Nat) : Nat := (n + 63) / 64
def nb (n : Nat) : Nat := (n + 7) / 8
def words (l : List Bool) : List (BitVec 64) := (List.range (nw l.length)).map (wordOf l)
def bytesV (l : List Bool) : List (BitVec 8) := (List.range (nb l.length)).map (byteOf l)
theorem words_len (l : List Bool) : (words l).length = nw l.length := by simp [words]
theorem bytesV_len (l : List Bool) : (bytesV l).length = nb l.length := by simp [bytesV]
theorem words_at (l : List Bool) (k : Nat) (h : k < (words l).length) : (words l)[k] = wordOf l k := by simp [words]
theorem words_at? (l : List Bool) (k : Nat) (h : k < nw l.length) : (words l)[k]? = some (wordOf l k) := by simp [words, h]
theorem bytesV_at (l : List Bool) (k : Nat) (h : k < (bytesV l).length) : (bytesV l)[k] = byteOf l k := by simp [bytesV]
theorem word_ext {x y : BitVec 64} (h : ∀ j, j < 64 → x.getLsbD j = y.getLsbD j) : x = y := BitVec.eq_of_getLsbD_eq h
theorem byte_ext {x y : BitVec 8} (h : ∀ j, j < 8 → x.getLsbD j = y.getLsbD j) : x = y := BitVec.eq_of_getLsbD_eq h
theorem one_shl_bit (m j : Nat) (hj : j < 64) (hm : m < 64) : (1#64 <<< m).getLsbD j = decide (j = m) := by
  rw [BitVec.getLsbD_shiftLeft]
  by_cases h : j = m
  · subst h; simp [hj]
  · by_cases h2 : j < m
    · simp [h, h2]
    · have : (1#64).getLsbD (j - m) = false := by
        rw [BitVec.getLsbD_one]; simp; omega
      simp [h, this]
theorem atD_set (l : List Bool) (i j : Nat) (b d : Bool) : (l.set i b).getD j d = if i = j ∧ i < l.length then b else l.getD j d := by
  simp only [List.getD_eq_getElem?_getD, List.getElem?_set]
  by_cases h : i = j
  · subst h
    by_cases h2 : i < l.length <;> simp [h2]
  · simp [h]
theorem word_off (l : List Bool) (i : Nat) : wordOf (l.set i false) (i / 64) = wordOf l (i / 64) &&& ~~~(1#64 <<< (i % 64)) := by
  refine word_ext (fun j hj => ?_)
  rw [wordOf_bit _ _ _ hj, BitVec.getLsbD_and, BitVec.getLsbD_not, one_shl_bit _ _ hj (by omega), wordOf_bit _ _ _ hj, atD_set]
  have hd : i = 64 * (i / 64) + i % 64 := by omega
  by_cases h : j = i % 64
  · subst h
    rw [← hd]
    by_cases h2 : i < l.length
    · simp [h2]
    · simp [h2, List.getD_eq_getElem?_getD]
  · have : ¬ i = 64 * (i / 64) + j := by omega
    simp [h, this, hj]
theorem word_on (l : List Bool) (i : Nat) (hi : i < l.length) : wordOf (l.set i true) (i / 64) = wordOf l (i / 64) ||| (1#64 <<< (i % 64)) := by
  refine word_ext (fun j hj => ?_)
  rw [wordOf_bit _ _ _ hj, BitVec.getLsbD_or, one_shl_bit _ _ hj (by omega), wordOf_bit _ _ _ hj, atD_set]
  have hd : i = 64 * (i / 64) + i % 64 := by omega
  by_cases h : j = i % 64
  · subst h
    rw [← hd]; simp [hi]
  · have : ¬ i = 64 * (i / 64) + j := by omega
    simp [h, this]
theorem word_else (l : List Bool) (i k : Nat) (b : Bool) (h : k ≠ i / 64) : wordOf (l.set i b) k = wordOf l k := by
  refine word_ext (fun j hj => ?_)
  rw [wordOf_bit _ _ _ hj, wordOf_bit _ _ _ hj, atD_set, if_neg (by omega)]
theorem words_set (l : List Bool) (i : Nat) (b : Bool) : words (l.set i b) = (words l).set (i / 64) (wordOf (l.set i b) (i / 64)) := by
  refine List.ext_getElem ?_ (fun k h1 h2 => ?_)
  · simp [words_len]
  · rw [words_at, List.getElem_set]
    by_cases h : i / 64 = k
    · rw [if_pos h, h]
    · rw [if_neg h, words_at, word_else _ _ _ _ (fun q => h q.symm)]
theorem words_off (l : List Bool) (i : Nat) : words (l.set i false) = (words l).set (i / 64) (wordOf l (i / 64) &&& ~~~(1#64 <<< (i % 64))) := by rw [words_set, word_off]
theorem words_on (l : List Bool) (i : Nat) (hi : i < l.length) : words (l.set i true) = (words l).set (i / 64) (wordOf l (i / 64) ||| (1#64 <<< (i % 64))) := by rw [words_set, word_on _ _ hi]
/-- xor of rows of bits. -/
def xorV (a b : List Bool) : List Bool := List.zipWith (· ^^ ·) a b
theorem xorV_len {a b : List Bool} (h : a.length = b.length) : (xorV a b).length = a.length := by simp [xorV, h]
theorem xorV_getD {a b : List Bool} (h : a.length = b.length) (j : Nat) : (xorV a b).getD j false = (a.getD j false ^^ b.getD j false) := by
  simp only [xorV, List.getD_eq_getElem?_getD, List.getElem?_zipWith]
  by_cases hj : j < a.length
  · have hj' : j < b.length := by omega
    simp [hj, hj']
  · have hj' : ¬ j < b.length := by omega
    simp [hj, hj']
theorem word_xor {a b : List Bool} (h : a.length = b.length) (k : Nat) : wordOf (xorV a b) k = wordOf a k ^^^ wordOf b k := by
  refine word_ext (fun j hj => ?_)
  rw [wordOf_bit _ _ _ hj, BitVec.getLsbD_xor, wordOf_bit _ _ _ hj, wordOf_bit _ _ _ hj, xorV_getD h]
theorem words_xor {a b : List Bool} (h : a.length = b.length) : words (xorV a b) = List.zipWith (· ^^^ ·) (words a) (words b) := by
  refine List.ext_getElem ?_ (fun k h1 h2 => ?_)
  · simp [words_len, xorV_len h, h]
  · rw [words_at, List.getElem_zipWith, words_at, words_at, word_xor h]
theorem word_has (l : List Bool) (i : Nat) : ((wordOf l (i / 64) >>> (i % 64)) &&& 1#64).toNat = (l.getD i false).toNat := by
  have hb : ((wordOf l (i / 64) >>> (i % 64)) &&& 1#64) = if l.getD i false then 1#64 else 0#64 := by
    refine word_ext (fun j hj => ?_)
    rw [BitVec.getLsbD_and, BitVec.getLsbD_ushiftRight, BitVec.getLsbD_one]
    by_cases h : j = 0
    · subst h
      rw [wordOf_bit _ _ _ (by omega), show 64 * (i / 64) + (i % 64 + 0) = i by omega]
      cases l.getD i false <;> simp
    · cases l.getD i false <;> simp [h]
  rw [hb]; cases l.getD i false <;> rfl
theorem byte_has (l : List Bool) (i : Nat) : ((byteOf l (i / 8) >>> (i % 8)) &&& 1#8).toNat = (l.getD i false).toNat := by
  have hb : ((byteOf l (i / 8) >>> (i % 8)) &&& 1#8) = if l.getD i false then 1#8 else 0#8 := by
    refine byte_ext (fun j hj => ?_)
    rw [BitVec.getLsbD_and, BitVec.getLsbD_ushiftRight, BitVec.getLsbD_one]
    by_cases h : j = 0
    · subst h
      rw [byteOf_bit _ _ _ (by omega), show 8 * (i / 8) + (i % 8 + 0) = i by omega]
      cases l.getD i false <;> simp
    · cases l.getD i false <;> simp [h]
  rw [hb]; cases l.getD i false <;> rfl
theorem byte_word (l : List Bool) (k : Nat) : (wordOf l (k * 8 / 64) >>> (k * 8 % 64)).setWidth 8 = byteOf l k := by
  refine byte_ext (fun j hj => ?_)
  rw [BitVec.getLsbD_setWidth, BitVec.getLsbD_ushiftRight, byteOf_bit _ _ _ hj, wordOf_bit _ _ _ (by omega), show 64 * (k * 8 / 64) + (k * 8 % 64 + j) = 8 * k + j by omega]
  simp [hj]
theorem getD_out {l : List Bool} {j : Nat} (h : l.length ≤ j) : l.getD j false = false := by simp [List.getD_eq_getElem?_getD, h]
theorem bits_ext {a b : List Bool} (h : a.length = b.length) (hb : ∀ j, j < a.length → a.getD j false = b.getD j false) : a = b := by
  refine List.ext_getElem h (fun j h1 h2 => ?_)
  have := hb j h1
  simpa [List.getD_eq_getElem?_getD, h1, h2] using this
theorem words_inj {a b : List Bool} (h : a.length = b.length) (hw : words a = words b) : a = b := by
  refine bits_ext h (fun j hj => ?_)
  have hk : j / 64 < nw a.length := by unfold nw; omega
  have e : wordOf a (j / 64) = wordOf b (j / 64) := by
    have h1 := words_at? a (j / 64) hk
    rw [hw, words_at? b (j / 64) (by rw [← h]; exact hk)] at h1
    exact (Option.some.inj h1).symm
  have := wordOf_bit a (j / 64) (j % 64) (by omega)
  rw [e, wordOf_bit _ _ _ (by omega), show 64 * (j / 64) + j % 64 = j by omega] at this
  exact this.symm
theorem bytesV_inj {a b : List Bool} (h : a.length = b.length) (hw : bytesV a = bytesV b) : a = b := by
  refine bits_ext h (fun j hj => ?_)
  have hk : j / 8 < nb a.length := by unfold nb; omega
  have e : byteOf a (j / 8) = byteOf b (j / 8) := by
    have h1 : (bytesV a)[j / 8]? = some (byteOf a (j / 8)) := by simp [bytesV, hk]
    have h2 : (bytesV b)[j / 8]? = some (byteOf b (j / 8)) := by simp [bytesV, ← h, hk]
    rw [hw, h2] at h1
    exact (Option.some.inj h1).symm
  have := byteOf_bit a (j / 8) (j % 8) (by omega)
  rw [e, byteOf_bit _ _ _ (by omega), show 8 * (j / 8) + j % 8 = j by omega] at this
  exact this.symm
theorem words_zero (n : Nat) : words (List.replicate n false) = List.replicate (nw n) 0#64 := by
  refine List.ext_getElem ?_ (fun k h1 h2 => ?_)
  · simp [words_len]
  · rw [words_at, List.getElem_replicate]
    refine word_ext (fun j hj => ?_)
    rw [wordOf_bit _ _ _ hj]
    by_cases h : 64 * k + j < n <;> simp [List.getD_eq_getElem?_getD, List.getElem?_replicate, h]
end Go.Dp

set_option linter.unusedVariables false
set_option linter.unusedSimpArgs false
namespace Go.Dp
/-- How many of the first m bits are set. -/
def cnt (f : Nat → Bool) (m : Nat) : Nat := ((List.range m).filter f).length
theorem cnt_zero (f : Nat → Bool) : cnt f 0 = 0 := rfl
theorem cnt_succ (f : Nat → Bool) (m : Nat) : cnt f (m + 1) = cnt f m + (f m).toNat := by
  simp only [cnt, List.range_succ, List.filter_append, List.length_append]
  cases h : f m <;> simp [h]
theorem cnt_add (f : Nat → Bool) (a b : Nat) : cnt f (a + b) = cnt f a + cnt (fun j => f (a + j)) b := by
  induction b with
  | zero => rfl
  | succ b ih => rw [← Nat.add_assoc, cnt_succ, cnt_succ, ih]; omega
theorem cnt_congr {f g : Nat → Bool} {m : Nat} (h : ∀ j, j < m → f j = g j) : cnt f m = cnt g m := by
  induction m with
  | zero => rfl
  | succ m ih => rw [cnt_succ, cnt_succ, ih (fun j hj => h j (by omega)), h m (by omega)]
theorem cnt_none {f : Nat → Bool} {m : Nat} (h : ∀ j, j < m → f j = false) : cnt f m = 0 := by
  induction m with
  | zero => rfl
  | succ m ih => rw [cnt_succ, ih (fun j hj => h j (by omega)), h m (by omega)]; rfl
theorem cnt_le (f : Nat → Bool) (m : Nat) : cnt f m ≤ m := by
  induction m with
  | zero => exact Nat.le_refl _
  | succ m ih => rw [cnt_succ]; cases f m <;> simp <;> omega
theorem cnt_mono (f : Nat → Bool) {a b : Nat} (h : a ≤ b) : cnt f a ≤ cnt f b := by
  obtain ⟨c, rfl⟩ := Nat.le.dest h
  rw [cnt_add]; omega
def popc (x : BitVec 64) : Nat := cnt x.getLsbD 64
/-- The places that are set, rising, of the first m. -/
def placesN (f : Nat → Bool) (m : Nat) : List Nat := (List.range m).filter f
theorem places_succ (f : Nat → Bool) (m : Nat) : placesN f (m + 1) = placesN f m ++ if f m then [m] else [] := by
  simp only [placesN, List.range_succ, List.filter_append]
  cases h : f m <;> simp [h]
theorem places_len (f : Nat → Bool) (m : Nat) : (placesN f m).length = cnt f m := rfl
theorem places_mem {f : Nat → Bool} {m i : Nat} : i ∈ placesN f m ↔ i < m ∧ f i = true := by simp [placesN]
/-- The first place, m if none. -/
def firstN (f : Nat → Bool) : Nat → Nat
  | 0 => 0
  | m + 1 => if firstN f m < m then firstN f m else if f m then m else m + 1
theorem firstN_le (f : Nat → Bool) (m : Nat) : firstN f m ≤ m := by
  induction m with
  | zero => exact Nat.le_refl _
  | succ m ih => rw [firstN]; split; omega; split <;> omega
theorem firstN_lo (f : Nat → Bool) (m : Nat) : ∀ j, j < firstN f m → f j = false := by
  induction m with
  | zero => intro j hj; simp [firstN] at hj
  | succ m ih =>
    intro j hj
    rw [firstN] at hj
    split at hj
    · exact ih j hj
    · have : firstN f m = m := by have := firstN_le f m; omega
      split at hj
      · exact ih j (by omega)
      · by_cases h : j < m
        · exact ih j (by omega)
        · have : j = m := by omega
          subst this
          rename_i h1 h2
          simpa using h2
theorem firstN_at (f : Nat → Bool) (m : Nat) (h : firstN f m < m) : f (firstN f m) = true := by
  induction m with
  | zero => omega
  | succ m ih =>
    rw [firstN] at h ⊢
    split
    · rename_i h1; exact ih h1
    · rename_i h1
      rw [if_neg h1] at h
      split
      · assumption
      · rename_i h2; rw [if_neg h2] at h; omega
theorem firstN_is {f : Nat → Bool} {m i : Nat} (hi : i < m) (h1 : f i = true) (h : ∀ j, j < i → f j = false) : firstN f m = i := by
  rcases Nat.lt_trichotomy (firstN f m) i with hl | he | hg
  · have := firstN_at f m (by omega)
    rw [h _ hl] at this; cases this
  · exact he
  · have := firstN_lo f m i hg
    rw [h1] at this; cases this
theorem firstN_none {f : Nat → Bool} {m : Nat} (h : ∀ j, j < m → f j = false) : firstN f m = m := by
  have hle := firstN_le f m
  rcases Nat.lt_or_ge (firstN f m) m with hl | hg
  · have := firstN_at f m hl
    rw [h _ hl] at this; cases this
  · omega
/-- Digits of w bits, summed. -/
def ds (w : Nat) : Nat → Nat → Nat
  | 0, _ => 0
  | n + 1, y => y % 2 ^ w + ds w n (y / 2 ^ w)
def alt (w : Nat) : Nat → Nat
  | 0 => 0
  | n + 1 => (2 ^ w - 1) + 2 ^ (2 * w) * alt w n
def gat (w : Nat) : Nat → Nat → Nat
  | 0, _ => 0
  | n + 1, y => y % 2 ^ w + 2 ^ (2 * w) * gat w n (y / 2 ^ (2 * w))
def fol (w : Nat) : Nat → Nat → Nat
  | 0, _ => 0
  | n + 1, y => (y % 2 ^ w + y / 2 ^ w % 2 ^ w) + 2 ^ (2 * w) * fol w n (y / 2 ^ (2 * w))
theorem pow2_two (w : Nat) : 2 ^ (2 * w) = 2 ^ w * 2 ^ w := by rw [Nat.two_mul, Nat.pow_add]
theorem and_alt (w : Nat) : ∀ n y, y &&& alt w n = gat w n y
  | 0, y => by simp [alt, gat]
  | n + 1, y => by
    have hp : 0 < 2 ^ w := Nat.pow_pos (by decide)
    have hq : 0 < 2 ^ (2 * w) := Nat.pow_pos (by decide)
    have hlt : 2 ^ w - 1 < 2 ^ (2 * w) := by
      have : 2 ^ w ≤ 2 ^ (2 * w) := Nat.pow_le_pow_right (by decide) (by omega)
      omega
    have h1 : (y &&& alt w (n + 1)) % 2 ^ (2 * w) = y % 2 ^ w := by
      rw [Nat.and_mod_two_pow, alt, Nat.add_mul_mod_self_left, Nat.mod_eq_of_lt hlt, Nat.and_two_pow_sub_one_eq_mod]
      exact Nat.mod_mod_of_dvd _ (Nat.pow_dvd_pow 2 (by omega))
    have h2 : (y &&& alt w (n + 1)) / 2 ^ (2 * w) = gat w n (y / 2 ^ (2 * w)) := by
      rw [Nat.and_div_two_pow, alt, Nat.add_mul_div_left _ _ hq, Nat.div_eq_of_lt hlt, Nat.zero_add, and_alt w n]
    rw [gat, ← h1, ← h2, Nat.mod_add_div]
theorem gat_fol (w : Nat) : ∀ n y, gat w n (y / 2 ^ w) + gat w n y = fol w n y
  | 0, y => rfl
  | n + 1, y => by
    rw [gat, gat, fol, ← gat_fol w n (y / 2 ^ (2 * w)), Nat.div_div_eq_div_mul, Nat.div_div_eq_div_mul, Nat.mul_comm (2 ^ w), Nat.mul_add]
    omega
theorem fold_mod (w n y : Nat) (hw : 1 ≤ w) : fol w (n + 1) y % 2 ^ (2 * w) = y % 2 ^ w + y / 2 ^ w % 2 ^ w ∧ fol w (n + 1) y / 2 ^ (2 * w) = fol w n (y / 2 ^ (2 * w)) := by
  have hp : 0 < 2 ^ w := Nat.pow_pos (by decide)
  have h2 : 2 ≤ 2 ^ w := by have := Nat.pow_le_pow_right (n := 2) (by decide) hw; simpa using this
  have hq : 0 < 2 ^ (2 * w) := Nat.pow_pos (by decide)
  have ha := Nat.mod_lt y hp
  have hb := Nat.mod_lt (y / 2 ^ w) hp
  have hlt : y % 2 ^ w + y / 2 ^ w % 2 ^ w < 2 ^ (2 * w) := by
    rw [pow2_two]
    have : 2 * 2 ^ w ≤ 2 ^ w * 2 ^ w := Nat.mul_le_mul_right _ h2
    omega
  rw [fol, Nat.add_mul_mod_self_left, Nat.mod_eq_of_lt hlt, Nat.add_mul_div_left _ _ hq, Nat.div_eq_of_lt hlt, Nat.zero_add]
  exact ⟨rfl, rfl⟩
theorem ds_fol (w : Nat) (hw : 1 ≤ w) : ∀ n y, ds (2 * w) n (fol w n y) = ds w (2 * n) y
  | 0, y => rfl
  | n + 1, y => by
    obtain ⟨h1, h2⟩ := fold_mod w n y hw
    rw [ds, h1, h2, ds_fol w hw n, Nat.mul_succ, ds, ds, Nat.div_div_eq_div_mul, ← pow2_two]
    omega
theorem fol_lt (w : Nat) (hw : 1 ≤ w) : ∀ n y, fol w n y < 2 ^ (2 * w * n)
  | 0, y => by simp [fol]
  | n + 1, y => by
    have hq : 0 < 2 ^ (2 * w) := Nat.pow_pos (by decide)
    have h2 := (fold_mod w n y hw).2
    have := fol_lt w hw n (y / 2 ^ (2 * w))
    rw [← h2] at this
    rw [Nat.mul_succ, Nat.pow_add]
    exact (Nat.div_lt_iff_lt_mul hq).mp this
/-- Each digit of w bits is at most c. -/
def dle (w c : Nat) : Nat → Nat → Prop
  | 0, y => y = 0
  | n + 1, y => y % 2 ^ w ≤ c ∧ dle w c n (y / 2 ^ w)
theorem fol_dle (w c : Nat) (hw : 1 ≤ w) (hc : 2 * (2 ^ w - 1) ≤ c) : ∀ n y, dle (2 * w) c n (fol w n y)
  | 0, y => rfl
  | n + 1, y => by
    have hp : 0 < 2 ^ w := Nat.pow_pos (by decide)
    obtain ⟨h1, h2⟩ := fold_mod w n y hw
    have ha := Nat.mod_lt y hp
    have hb := Nat.mod_lt (y / 2 ^ w) hp
    exact ⟨by rw [h1]; omega, by rw [h2]; exact fol_dle w c hw hc n _⟩
/-- The third step: small nibbles. -/
theorem nib_and : ∀ n y, dle 4 6 (2 * n) y → (y / 16 + y) &&& alt 4 n = fol 4 n y
  | 0, y, h => by have : y = 0 := h; subst this; rfl
  | n + 1, y, h => by
    rw [Nat.mul_succ] at h
    obtain ⟨ha, hb, hr⟩ := h
    simp only [Nat.reducePow] at ha hb hr
    have hr' : dle 4 6 (2 * n) (y / 256) := by rw [Nat.div_div_eq_div_mul] at hr; exact hr
    have h7 : y / 256 % 16 ≤ 6 := by
      cases n with
      | zero => have : y / 256 = 0 := hr'; omega
      | succ n => rw [Nat.mul_succ] at hr'; exact hr'.1
    rw [and_alt, gat, fol, ← nib_and n (y / 2 ^ (2 * 4)) (by simpa using hr'), and_alt]
    simp only [Nat.reducePow, Nat.reduceMul]
    have k1 : y = y % 16 + 16 * (y / 16 % 16) + 256 * (y / 256) := by omega
    have k2 : y / 16 = y / 16 % 16 + 16 * (y / 256) := by omega
    have k3 : y / 256 = y / 256 % 16 + 16 * (y / 256 / 16) := by omega
    have e2 : (y / 16 + y) % 16 = y % 16 + y / 16 % 16 := by omega
    have e1 : (y / 16 + y) / 256 = y / 256 / 16 + y / 256 := by
      generalize y / 256 / 16 = u at *
      generalize y / 256 % 16 = v at *
      generalize y / 256 = d at *
      generalize y / 16 % 16 = b at *
      generalize y / 16 = f at *
      generalize y % 16 = a at *
      subst k1 k2
      omega
    rw [e1, e2]
theorem fol4_dle : ∀ n y, dle 4 6 (2 * n) y → dle 8 12 n (fol 4 n y)
  | 0, y, h => rfl
  | n + 1, y, h => by
    rw [Nat.mul_succ] at h
    obtain ⟨ha, hb, hr⟩ := h
    obtain ⟨h1, h2⟩ := fold_mod 4 n y (by decide)
    simp only [Nat.reducePow, Nat.reduceMul] at ha hb hr h1 h2
    refine ⟨?_, ?_⟩
    · simp only [Nat.reducePow]; rw [h1]; omega
    · simp only [Nat.reducePow]; rw [h2]
      exact fol4_dle n _ (by rw [Nat.div_div_eq_div_mul] at hr; exact hr)
theorem ds_cnt : ∀ m y, ds 1 m y = cnt y.testBit m
  | 0, y => rfl
  | m + 1, y => by
    rw [ds, ds_cnt m, Nat.add_comm m 1, cnt_add]
    have h0 : cnt y.testBit 1 = y % 2 := by
      rw [cnt_succ, cnt_zero, Nat.testBit_zero]; rcases Nat.mod_two_eq_zero_or_one y with h | h <;> simp [h]
    rw [h0]
    congr 1
    refine cnt_congr (fun j _ => ?_)
    rw [Nat.testBit_div_two_pow, Nat.add_comm]
theorem sum8 {y : Nat} (h : dle 8 12 8 y) : y < 2 ^ 60 ∧ ((((y + y / 256) + (y + y / 256) / 65536) + ((y + y / 256) + (y + y / 256) / 65536) / 4294967296) % 128 = ds 8 8 y) := by
  obtain ⟨h0, h1, h2, h3, h4, h5, h6, h7, h8⟩ := h
  have h8 : _ = 0 := h8
  simp only [ds, Nat.reducePow] at *
  generalize hy1 : y / 256 = y1 at *
  generalize hy2 : y1 / 256 = y2 at *
  generalize hy3 : y2 / 256 = y3 at *
  generalize hy4 : y3 / 256 = y4 at *
  generalize hy5 : y4 / 256 = y5 at *
  generalize hy6 : y5 / 256 = y6 at *
  generalize hy7 : y6 / 256 = y7 at *
  have e7 : y7 = y7 % 256 := by omega
  generalize hc0 : y % 256 = c0 at *
  generalize hc1 : y1 % 256 = c1 at *
  generalize hc2 : y2 % 256 = c2 at *
  generalize hc3 : y3 % 256 = c3 at *
  generalize hc4 : y4 % 256 = c4 at *
  generalize hc5 : y5 % 256 = c5 at *
  generalize hc6 : y6 % 256 = c6 at *
  generalize hc7 : y7 % 256 = c7 at *
  have f7 : y7 = c7 := e7
  have f6 : y6 = c6 + 256 * c7 := by omega
  have f5 : y5 = c5 + 256 * c6 + 65536 * c7 := by omega
  have f4 : y4 = c4 + 256 * c5 + 65536 * c6 + 16777216 * c7 := by omega
  have f3 : y3 = c3 + 256 * y4 := by omega
  have f2 : y2 = c2 + 256 * y3 := by omega
  have f1 : y1 = c1 + 256 * y2 := by omega
  have f0 : y = c0 + 256 * y1 := by omega
  clear hy1 hy2 hy3 hy4 hy5 hy6 hy7 hc0 hc1 hc2 hc3 hc4 hc5 hc6 hc7 h8 e7
  have z1 : y + y1 = (c0 + c1) + 256 * (c1 + c2) + 65536 * (y2 + y3) := by omega
  have z2 : (y + y1) / 65536 = y2 + y3 := by omega
  rw [z2]
  have z3 : (y + y1 + (y2 + y3)) / 4294967296 = (y4 + y5) + (y6 + y7) := by omega
  rw [z3]
  constructor
  · omega
  · omega
theorem alt1 : alt 1 32 = 0x5555555555555555 := by rfl
theorem alt2 : alt 2 16 = 0x3333333333333333 := by rfl
theorem alt4 : alt 4 8 = 0x0f0f0f0f0f0f0f0f := by rfl
/-- What the library does to count bits, its last but one value. -/
def swar1 (x : BitVec 64) : BitVec 64 := ((x >>> 1) &&& 0x5555555555555555#64) + (x &&& 0x5555555555555555#64)
def swar2 (x : BitVec 64) : BitVec 64 := ((x >>> 2) &&& 0x3333333333333333#64) + (x &&& 0x3333333333333333#64)
def swar4 (x : BitVec 64) : BitVec 64 := ((x >>> 4) + x) &&& 0x0f0f0f0f0f0f0f0f#64
theorem swar1_N (x : BitVec 64) : (swar1 x).toNat = fol 1 32 x.toNat := by
  have h := fol_lt 1 (by decide) 32 x.toNat
  have e := gat_fol 1 32 x.toNat
  have k := alt1
  rw [swar1, BitVec.toNat_add, BitVec.toNat_and, BitVec.toNat_and, BitVec.toNat_ushiftRight, Nat.shiftRight_eq_div_pow, show (0x5555555555555555#64).toNat = alt 1 32 from alt1.symm, and_alt, and_alt, e]
  exact Nat.mod_eq_of_lt h
theorem swar2_N (x : BitVec 64) : (swar2 x).toNat = fol 2 16 x.toNat := by
  have h := fol_lt 2 (by decide) 16 x.toNat
  have e := gat_fol 2 16 x.toNat
  rw [swar2, BitVec.toNat_add, BitVec.toNat_and, BitVec.toNat_and, BitVec.toNat_ushiftRight, Nat.shiftRight_eq_div_pow, show (0x3333333333333333#64).toNat = alt 2 16 from alt2.symm, and_alt, and_alt, e]
  exact Nat.mod_eq_of_lt h
theorem dle_lt (w c : Nat) : ∀ n y, dle w c n y → y < 2 ^ (w * n)
  | 0, y, h => by have : y = 0 := h; subst this; simp
  | n + 1, y, h => by
    have hp : 0 < 2 ^ w := Nat.pow_pos (by decide)
    rw [Nat.mul_succ, Nat.pow_add]
    exact (Nat.div_lt_iff_lt_mul hp).mp (dle_lt w c n _ h.2)
theorem swar4_N (x : BitVec 64) (h : dle 4 6 16 x.toNat) : (swar4 x).toNat = fol 4 8 x.toNat := by
  have hn := nib_and 8 x.toNat h
  have htop : x.toNat / 16 + x.toNat < 2 ^ 64 := by
    obtain ⟨_, _, _, _, _, _, _, _, _, _, _, _, _, _, _, h15, hz⟩ := h
    have hz : _ = 0 := hz
    simp only [Nat.reducePow, Nat.div_div_eq_div_mul, Nat.reduceMul] at h15 hz ⊢
    omega
  rw [swar4, BitVec.toNat_and, BitVec.toNat_add, BitVec.toNat_ushiftRight, Nat.shiftRight_eq_div_pow, show (0x0f0f0f0f0f0f0f0f#64).toNat = alt 4 8 from alt4.symm, Nat.mod_eq_of_lt (by simpa using htop)]
  exact hn
theorem swar_popc (x y z u v : BitVec 64) (hy : swar4 (swar2 (swar1 x)) = y) (hz : y + (y >>> 8) = z) (hu : z + (z >>> 16) = u) (hv : u + (u >>> 32) = v) : v.toNat % 128 = popc x ∧ v.toNat < 2 ^ 62 := by
  have h2 : dle 4 6 16 (swar2 (swar1 x)).toNat := by rw [swar2_N]; exact fol_dle 2 6 (by decide) (by decide) 16 _
  have h4 : y.toNat = fol 4 8 (swar2 (swar1 x)).toNat := by rw [← hy, swar4_N _ h2]
  have h8 : dle 8 12 8 y.toNat := by rw [h4]; exact fol4_dle 8 _ h2
  obtain ⟨hl, hs⟩ := sum8 h8
  have hd : ds 8 8 y.toNat = popc x := by
    rw [h4, ds_fol 4 (by decide) 8, swar2_N, ds_fol 2 (by decide) 16, swar1_N, ds_fol 1 (by decide) 32, ds_cnt]
    rfl
  have ez : z.toNat = y.toNat + y.toNat / 256 := by
    rw [← hz, BitVec.toNat_add, BitVec.toNat_ushiftRight, Nat.shiftRight_eq_div_pow]; omega
  have eu : u.toNat = z.toNat + z.toNat / 65536 := by
    rw [← hu, BitVec.toNat_add, BitVec.toNat_ushiftRight, Nat.shiftRight_eq_div_pow]; omega
  have ev : v.toNat = u.toNat + u.toNat / 4294967296 := by
    rw [← hv, BitVec.toNat_add, BitVec.toNat_ushiftRight, Nat.shiftRight_eq_div_pow]; omega
  rw [← hd, ← hs, ev, eu, ez]
  refine ⟨rfl, ?_⟩
  omega
theorem ctz_first (x : Nat) (h0 : x ≠ 0) (h : x < 2 ^ 64) : firstN x.testBit 64 = Go.Lib.ctz 64 x := by
  obtain ⟨m, hm, hk⟩ := Go.Lib.ctzFrom_spec 64 x (by omega) h
  have e : Go.Lib.ctz 64 x = Go.Lib.ctzFrom 64 x := by simp [Go.Lib.ctz, h0]
  rw [e]
  generalize Go.Lib.ctzFrom 64 x = c at *
  refine firstN_is hk ?_ (fun j hj => ?_)
  · rw [hm, Nat.testBit_two_pow_mul]; simp
  · rw [hm, Nat.testBit_two_pow_mul]
    have : ¬ c ≤ j := by omega
    simp [this]
end Go.Dp

set_option linter.unusedVariables false
set_option linter.unusedSimpArgs false
namespace Go.Dp
/-- Is this bit set? -/
abbrev at_ (l : List Bool) (j : Nat) : Bool := l.getD j false
/-- Row of n bits, of which these places are set. -/
def setI (b : List Bool) (i : Int) : List Bool := if 0 ≤ i ∧ i < b.length then b.set i.toNat true else b
def bitsOf (n : Nat) (l : List Int) : List Bool := l.foldl setI (List.replicate n false)
theorem setI_len (b : List Bool) (i : Int) : (setI b i).length = b.length := by unfold setI; split <;> simp
theorem foldI_len (l : List Int) : ∀ b : List Bool, (l.foldl setI b).length = b.length := by
  induction l with
  | nil => exact fun _ => rfl
  | cons i l ih => intro b; rw [List.foldl_cons, ih, setI_len]
theorem bitsOf_len (n : Nat) (l : List Int) : (bitsOf n l).length = n := by rw [bitsOf, foldI_len, List.length_replicate]
theorem setI_at (b : List Bool) (i : Int) (j : Nat) (hj : j < b.length) : (setI b i).getD j false = (b.getD j false || decide ((j : Int) = i)) := by
  unfold setI
  split
  · rename_i h
    rw [atD_set]
    by_cases h2 : i.toNat = j
    · have : (j : Int) = i := by omega
      rw [if_pos ⟨h2, by omega⟩]; simp [this]
    · have : ¬ (j : Int) = i := by omega
      rw [if_neg (fun q => h2 q.1)]; simp [this]
  · rename_i h
    have : ¬ (j : Int) = i := by omega
    simp [this]
theorem foldI_at (l : List Int) : ∀ (b : List Bool) (j : Nat), j < b.length → (l.foldl setI b).getD j false = (b.getD j false || decide ((j : Int) ∈ l)) := by
  induction l with
  | nil => intro b j _; simp
  | cons i l ih =>
    intro b j hj
    rw [List.foldl_cons, ih _ _ (by rw [setI_len]; exact hj), setI_at _ _ _ hj, Bool.or_assoc]
    congr 1
    simp [List.mem_cons, Bool.decide_or]
theorem rep_at (n j : Nat) : (List.replicate n false).getD j false = false := by
  by_cases h : j < n <;> simp [List.getD_eq_getElem?_getD, h]
theorem bitsOf_at (n : Nat) (l : List Int) (j : Nat) (hj : j < n) : (bitsOf n l).getD j false = decide ((j : Int) ∈ l) := by
  rw [bitsOf, foldI_at _ _ _ (by simpa using hj), rep_at]; simp
theorem bitsOf_snoc (n : Nat) (l : List Int) (i : Int) : bitsOf n (l ++ [i]) = setI (bitsOf n l) i := by simp [bitsOf]
theorem bitsOf_congr {n : Nat} {l m : List Int} (h : ∀ i, i ∈ l ↔ i ∈ m) : bitsOf n l = bitsOf n m := by
  refine bits_ext (by rw [bitsOf_len, bitsOf_len]) (fun j hj => ?_)
  rw [bitsOf_len] at hj
  rw [bitsOf_at _ _ _ hj, bitsOf_at _ _ _ hj]
  simp [h]
/-- The places that are set. -/
def listV (l : List Bool) : List Int := (placesN (at_ l) l.length).map Int.ofNat
theorem listV_len (l : List Bool) : (listV l).length = cnt (at_ l) l.length := by rw [listV, List.length_map, places_len]
theorem listV_mem {l : List Bool} {i : Int} : i ∈ listV l ↔ 0 ≤ i ∧ i < l.length ∧ at_ l i.toNat = true := by
  simp only [listV, List.mem_map, places_mem]
  constructor
  · rintro ⟨j, ⟨h1, h2⟩, rfl⟩
    exact ⟨by simp, by simpa using h1, by simpa using h2⟩
  · rintro ⟨h0, h1, h2⟩
    exact ⟨i.toNat, ⟨by omega, h2⟩, by simp; omega⟩
theorem bitsOf_listV (l : List Bool) : bitsOf l.length (listV l) = l := by
  refine bits_ext (bitsOf_len _ _) (fun j hj => ?_)
  rw [bitsOf_len] at hj
  rw [bitsOf_at _ _ _ hj]
  cases h : l.getD j false
  · rw [decide_eq_false_iff_not]
    intro hm
    have := (listV_mem.mp hm).2.2
    simp only [at_, Int.toNat_natCast] at this
    rw [h] at this; cases this
  · rw [decide_eq_true_eq]
    exact listV_mem.mpr ⟨by omega, by omega, by simpa [at_] using h⟩
theorem bitsOf_turn (n k : Nat) (l : List Int) : bitsOf n ((l.drop k ++ l) ++ l.take k) = bitsOf n l := by
  refine bitsOf_congr (fun i => ?_)
  simp only [List.mem_append]
  constructor
  · rintro ((h | h) | h)
    · exact List.mem_of_mem_drop h
    · exact h
    · exact List.mem_of_mem_take h
  · exact fun h => .inl (.inr h)
/-- The first place, -1 if there is none. -/
def firstV (l : List Bool) : Int := if firstN (at_ l) l.length < l.length then firstN (at_ l) l.length else -1
theorem firstV_is {l : List Bool} {i : Nat} (hi : i < l.length) (h1 : at_ l i = true) (h : ∀ j, j < i → at_ l j = false) : firstV l = i := by
  rw [firstV, firstN_is hi h1 h, if_pos hi]
theorem firstV_none {l : List Bool} (h : ∀ j, j < l.length → at_ l j = false) : firstV l = -1 := by
  rw [firstV, firstN_none h, if_neg (Nat.lt_irrefl _)]
def countV (l : List Bool) : Nat := cnt (at_ l) l.length
theorem countV_set (l : List Bool) (i : Nat) (b : Bool) (hi : i < l.length) : (countV (l.set i b) : Int) = countV l - (at_ l i).toNat + b.toNat := by
  unfold countV
  rw [List.length_set]
  have key : ∀ m, (cnt (at_ (l.set i b)) m : Int) = cnt (at_ l) m + if i < m then (b.toNat : Int) - (at_ l i).toNat else 0 := by
    intro m
    induction m with
    | zero => simp [cnt_zero]
    | succ m ih =>
      rw [cnt_succ, cnt_succ]
      have e : at_ (l.set i b) m = if i = m then b else at_ l m := by
        simp only [at_]; rw [atD_set]; simp [hi]
      rw [e]
      by_cases h : i = m
      · subst h
        rw [if_neg (Nat.lt_irrefl _)] at ih
        rw [if_pos rfl, if_pos (by omega)]; push_cast; omega
      · rw [if_neg h]
        by_cases h2 : i < m
        · rw [if_pos h2] at ih; rw [if_pos (by omega)]; push_cast; omega
        · rw [if_neg h2] at ih; rw [if_neg (by omega)]; push_cast; omega
  have := key l.length
  rw [if_pos hi] at this
  omega
/-- Words tell the count. -/
theorem count_words (l : List Bool) (k : Nat) : cnt (at_ l) (64 * (k + 1)) = cnt (at_ l) (64 * k) + popc (wordOf l k) := by
  rw [Nat.mul_succ, cnt_add]
  congr 1
  exact cnt_congr (fun j hj => (wordOf_bit l k j hj).symm)
theorem count_all (l : List Bool) : cnt (at_ l) (64 * nw l.length) = countV l := by
  have hle : l.length ≤ 64 * nw l.length := by unfold nw; omega
  obtain ⟨c, hc⟩ := Nat.le.dest hle
  rw [← hc, cnt_add, countV, cnt_none (m := c) (fun j _ => getD_out (by omega))]
  rfl
theorem word_eq_zero {l : List Bool} {k : Nat} (h : wordOf l k = 0#64) : ∀ j, 64 * k ≤ j → j < 64 * (k + 1) → at_ l j = false := by
  intro j h1 h2
  have := wordOf_bit l k (j - 64 * k) (by omega)
  rw [h, show 64 * k + (j - 64 * k) = j by omega] at this
  simpa using this.symm
/-- The first word that is not nought tells the first place. -/
theorem first_word {l : List Bool} {k : Nat} (h0 : wordOf l k ≠ 0#64) (h : ∀ j, j < 64 * k → at_ l j = false) : firstV l = 64 * (k : Int) + Go.Lib.ctz 64 (wordOf l k).toNat ∧ Go.Lib.ctz 64 (wordOf l k).toNat < 64 := by
  have hx0 : (wordOf l k).toNat ≠ 0 := fun e => h0 (BitVec.eq_of_toNat_eq (by simpa using e))
  have hc := ctz_first _ hx0 (wordOf l k).isLt
  have hlt := (Go.Lib.lowest_bit 64 _ hx0 (wordOf l k).isLt).2
  rw [← hc] at hlt ⊢
  refine ⟨?_, hlt⟩
  have h1 : (wordOf l k).getLsbD (firstN (wordOf l k).toNat.testBit 64) = true := firstN_at _ 64 hlt
  rw [wordOf_bit _ _ _ hlt] at h1
  have hin : 64 * k + firstN (wordOf l k).toNat.testBit 64 < l.length := by
    rcases Nat.lt_or_ge (64 * k + firstN (wordOf l k).toNat.testBit 64) l.length with q | q
    · exact q
    · rw [getD_out q] at h1; cases h1
  rw [firstV_is hin h1 (fun j hj => ?_)]
  · push_cast; rfl
  · by_cases h2 : j < 64 * k
    · exact h j h2
    · have h3 := firstN_lo (wordOf l k).toNat.testBit 64 (j - 64 * k) (by omega)
      have h4 := wordOf_bit l k (j - 64 * k) (by omega)
      rw [show 64 * k + (j - 64 * k) = j by omega] at h4
      rw [at_, ← h4]; exact h3
theorem xorV_self (a b : List Bool) (h : a.length = b.length) : xorV (xorV a b) b = a := by
  refine bits_ext (by rw [xorV_len (by rw [xorV_len h, h]), xorV_len h]) (fun j _ => ?_)
  rw [xorV_getD (by rw [xorV_len h, h]), xorV_getD h]
  cases a.getD j false <;> cases b.getD j false <;> rfl
theorem xorV_comm (a b : List Bool) (h : a.length = b.length) : xorV a b = xorV b a := by
  refine bits_ext (by rw [xorV_len h, xorV_len h.symm, h]) (fun j _ => ?_)
  rw [xorV_getD h, xorV_getD h.symm]
  cases a.getD j false <;> cases b.getD j false <;> rfl
theorem cnt_zero_none {f : Nat → Bool} {m : Nat} (h : cnt f m = 0) : ∀ j, j < m → f j = false := by
  intro j hj
  cases hf : f j
  · rfl
  · have := cnt_mono f (show j + 1 ≤ m from hj)
    rw [cnt_succ, hf] at this
    simp at this; omega
theorem xorV_count (a b : List Bool) (h : a.length = b.length) : countV (xorV a b) = 0 ↔ a = b := by
  constructor
  · intro hc
    refine bits_ext h (fun j hj => ?_)
    have := cnt_zero_none hc j (by rw [xorV_len h]; exact hj)
    simp only [at_] at this
    rw [xorV_getD h] at this
    revert this
    cases a.getD j false <;> cases b.getD j false <;> simp
  · rintro rfl
    refine cnt_none (fun j _ => ?_)
    simp only [at_]
    rw [xorV_getD rfl]; cases a.getD j false <;> rfl
/-- The first i of these bits, of n. -/
def maskV (n : Nat) (f : Nat → Bool) (i : Nat) : List Bool := (List.range n).map (fun j => decide (j < i) && f j)
theorem maskV_len (n : Nat) (f : Nat → Bool) (i : Nat) : (maskV n f i).length = n := by simp [maskV]
theorem maskV_at (n : Nat) (f : Nat → Bool) (i j : Nat) : (maskV n f i).getD j false = (decide (j < n) && (decide (j < i) && f j)) := by
  simp only [maskV, List.getD_eq_getElem?_getD, List.getElem?_map]
  by_cases h : j < n
  · simp [h]
  · simp [h]
theorem maskV_zero (n : Nat) (f : Nat → Bool) : maskV n f 0 = List.replicate n false := by
  refine bits_ext (by simp [maskV]) (fun j _ => ?_)
  rw [maskV_at, rep_at]; simp
theorem maskV_on {n : Nat} {f : Nat → Bool} {i : Nat} (hi : i < n) (h : f i = true) : maskV n f (i + 1) = (maskV n f i).set i true := by
  refine bits_ext (by simp [maskV]) (fun j _ => ?_)
  rw [maskV_at, atD_set, maskV_at, maskV_len]
  by_cases hj : i = j
  · subst hj; simp [hi, h]
  · rw [if_neg (fun q => hj q.1)]
    by_cases h2 : j < i
    · simp [h2, show j < i + 1 by omega]
    · simp [h2, show ¬ j < i + 1 by omega]
theorem maskV_off {n : Nat} {f : Nat → Bool} {i : Nat} (h : i < n → f i = false) : maskV n f (i + 1) = maskV n f i := by
  refine bits_ext (by simp [maskV]) (fun j _ => ?_)
  rw [maskV_at, maskV_at]
  by_cases hj : j = i
  · subst hj
    by_cases hn : j < n
    · simp [h hn]
    · simp [hn]
  · by_cases h2 : j < i
    · simp [h2, show j < i + 1 by omega]
    · simp [h2, show ¬ j < i + 1 by omega]
theorem maskV_all {l : List Bool} {i : Nat} (hi : l.length ≤ i) : maskV l.length (at_ l) i = l := by
  refine bits_ext (by simp [maskV]) (fun j hj => ?_)
  rw [maskV_len] at hj
  rw [maskV_at]; simp [hj, show j < i by omega]
theorem one_shl_bit8 (m j : Nat) (hj : j < 8) : (1#8 <<< m).getLsbD j = decide (j = m) := by
  rw [BitVec.getLsbD_shiftLeft]
  by_cases h : j = m
  · subst h; simp [hj]
  · by_cases h2 : j < m
    · simp [h, h2]
    · have : (1#8).getLsbD (j - m) = false := by
        rw [BitVec.getLsbD_one]; simp; omega
      simp [h, this]
theorem byte_on (l : List Bool) (i : Nat) (hi : i < l.length) : byteOf (l.set i true) (i / 8) = byteOf l (i / 8) ||| (1#8 <<< (i % 8)) := by
  refine byte_ext (fun j hj => ?_)
  rw [byteOf_bit _ _ _ hj, BitVec.getLsbD_or, one_shl_bit8 _ _ hj, byteOf_bit _ _ _ hj, atD_set]
  have hd : i = 8 * (i / 8) + i % 8 := by omega
  by_cases h : j = i % 8
  · subst h
    rw [← hd]; simp [hi]
  · have : ¬ i = 8 * (i / 8) + j := by omega
    simp [h, this]
theorem byte_else (l : List Bool) (i k : Nat) (b : Bool) (h : k ≠ i / 8) : byteOf (l.set i b) k = byteOf l k := by
  refine byte_ext (fun j hj => ?_)
  rw [byteOf_bit _ _ _ hj, byteOf_bit _ _ _ hj, atD_set, if_neg (by omega)]
theorem bytesV_on (l : List Bool) (i : Nat) (hi : i < l.length) : bytesV (l.set i true) = (bytesV l).set (i / 8) (byteOf l (i / 8) ||| (1#8 <<< (i % 8))) := by
  rw [← byte_on _ _ hi]
  refine List.ext_getElem ?_ (fun k h1 h2 => ?_)
  · simp [bytesV_len]
  · rw [bytesV_at, List.getElem_set]
    by_cases h : i / 8 = k
    · rw [if_pos h, h]
    · rw [if_neg h, bytesV_at, byte_else _ _ _ _ (fun q => h q.symm)]
theorem bytesV_zero (n : Nat) : bytesV (List.replicate n false) = List.replicate (nb n) 0#8 := by
  refine List.ext_getElem ?_ (fun k h1 h2 => ?_)
  · simp [bytesV_len]
  · rw [bytesV_at, List.getElem_replicate]
    refine byte_ext (fun j hj => ?_)
    rw [byteOf_bit _ _ _ hj, rep_at]; simp
/-- A bit of bytes. -/
def rbit (r : List (BitVec 8)) (i : Nat) : Bool := (r.getD (i / 8) 0#8).getLsbD (i % 8)
theorem rbit_val (r : List (BitVec 8)) (i : Nat) (h : i / 8 < r.length) : ((r[i / 8] >>> (i % 8)) &&& 1#8).toNat = (rbit r i).toNat := by
  have hb : ((r[i / 8] >>> (i % 8)) &&& 1#8) = if rbit r i then 1#8 else 0#8 := by
    refine byte_ext (fun j hj => ?_)
    rw [BitVec.getLsbD_and, BitVec.getLsbD_ushiftRight, BitVec.getLsbD_one]
    have e : rbit r i = r[i / 8].getLsbD (i % 8) := by simp [rbit, List.getD_eq_getElem?_getD, h]
    by_cases hj0 : j = 0
    · subst hj0
      rw [Nat.add_zero, ← e]
      cases rbit r i <;> simp
    · cases rbit r i <;> simp [hj0]
  rw [hb]; cases rbit r i <;> rfl
theorem rbit_bytes (l : List Bool) (i : Nat) (hi : i < 8 * nb l.length) : rbit (bytesV l) i = at_ l i := by
  have hk : i / 8 < (bytesV l).length := by rw [bytesV_len]; omega
  have e : (bytesV l).getD (i / 8) 0#8 = byteOf l (i / 8) := by
    rw [List.getD_eq_getElem?_getD, List.getElem?_eq_getElem hk, Option.getD_some, bytesV_at]
  rw [rbit, e, byteOf_bit _ _ _ (by omega), show 8 * (i / 8) + i % 8 = i by omega]
/-- What bytes say of a row of n bits: nothing, if they have another length, or a bit beyond. -/
def unpV (n : Nat) (r : List (BitVec 8)) : Option (List Bool) := if r.length = nb n then (if (List.range (8 * nb n)).any (fun i => decide (n ≤ i) && rbit r i) then none else some (maskV n (rbit r) n)) else none
theorem unpV_bytes (l : List Bool) : unpV l.length (bytesV l) = some l := by
  rw [unpV, if_pos (bytesV_len l), if_neg]
  · congr 1
    refine bits_ext (maskV_len _ _ _) (fun j hj => ?_)
    rw [maskV_len] at hj
    rw [maskV_at, rbit_bytes _ _ (by unfold nb; omega)]
    simp [hj]
  · rw [List.any_eq_true]
    rintro ⟨i, hi, h⟩
    rw [Bool.and_eq_true, decide_eq_true_eq, rbit_bytes _ _ (by simpa using hi)] at h
    rw [at_, getD_out h.1] at h
    cases h.2
theorem unpV_bad {n i : Nat} {r : List (BitVec 8)} (h1 : n ≤ i) (h2 : i < 8 * nb n) (h3 : rbit r i = true) : unpV n r = none := by
  unfold unpV
  split
  · rw [if_pos]
    rw [List.any_eq_true]
    exact ⟨i, by simpa using h2, by simp [h1, h3]⟩
  · rfl
theorem unpV_ok {n : Nat} {r : List (BitVec 8)} (hl : r.length = nb n) (h : ∀ i, n ≤ i → i < 8 * nb n → rbit r i = false) : unpV n r = some (maskV n (rbit r) n) := by
  rw [unpV, if_pos hl, if_neg]
  rw [List.any_eq_true]
  rintro ⟨i, hi, q⟩
  rw [Bool.and_eq_true, decide_eq_true_eq] at q
  rw [h i q.1 (by simpa using hi)] at q
  cases q.2
theorem maskV_past {n : Nat} {f : Nat → Bool} {i : Nat} (h : n ≤ i) : maskV n f i = maskV n f n := by
  refine bits_ext (by simp [maskV]) (fun j hj => ?_)
  rw [maskV_len] at hj
  rw [maskV_at, maskV_at]; simp [hj, show j < i by omega]
theorem byte_word' (l : List Bool) (k : Nat) : (wordOf l (8 * k / 64) >>> (8 * k % 64)).setWidth 8 = byteOf l k := by rw [Nat.mul_comm]; exact byte_word l k
theorem nw_nb {n k : Nat} (h : k < nb n) : k * 8 / 64 < nw n := by unfold nb at h; unfold nw; omega
end Go.Dp

set_option linter.unusedVariables false
namespace Go.Dp
open Go.RowKit
/-- A function without a body, whose answer the model gives. -/
structure XFn (P : Program) (f : FuncId) (g : Array Value → Sem Value) : Prop where
  h : (P.funcs[f]?).map (fun fn => (fn.name == "runtime.NumGoroutine", fn.body.isNone, (Extern.findNext fn).isNone)) = some (false, true, true)
  e : (P.funcs[f]?).bind (fun fn => Extern.find fn) = some g
theorem XFn.of {P : Program} {f : FuncId} {g : Array Value → Sem Value} (x : XFn P f g) : ∃ fn, P.funcs[f]? = some fn ∧ (fn.name == "runtime.NumGoroutine") = false ∧ fn.body.isNone = true ∧ Extern.findNext fn = none ∧ Extern.find fn = some g := by
  have h := x.h
  have he := x.e
  cases hf : P.funcs[f]? with
  | none => simp [hf] at h
  | some fn =>
    simp only [hf, Option.map_some, Option.some.injEq, Prod.mk.injEq] at h
    simp only [hf, Option.bind_some] at he
    exact ⟨fn, rfl, h.1, h.2.1, by simpa using h.2.2, he⟩
section
variable {P : Program} {n : Nat} {H : List Hl} {e : Ev} {C : Value → List Hl → Prop} {ty : TypeId}
variable {f : FuncId} {xs : List Operand} {ats : Array TypeId} {b i : Nat} {T : TypeId} {cs : List Value} {H' : List Hl} {k : IntKind} {p q : Int}
theorem o1_xval {args : List Value} (v : Value) (hxs : opds e xs = some args) (hr : ∀ a w, Ok1 n e H a w → (callFunc f args.toArray).run P w = .ok (.value v) w) (h : C v H) : O1 P (.call ⟨.value (.func f), xs.toArray, ats⟩) ty n e H C :=
  o1_val v (fun a w ho => by
    have hargs := ho.ev.evals hxs
    simp [execOp, resolve, invoke, Deferred.ofValue, Act.eval, hargs, hr a w ho]) h
/-- The cell is read. -/
theorem o1_xload (x : XFn P f (Extern.Atomic.loadT (.int k))) (hxs : opds e xs = some [.pointer (some ⟨b, i, none⟩)]) [s : SBox H b T cs H'] (hv : cs[i]? = some (.int k p)) (h : C (.int k p) H) : O1 P (.call ⟨.value (.func f), xs.toArray, ats⟩) ty n e H C :=
  o1_xval _ hxs (fun a w ho => by
    obtain ⟨fn, h1, h2, h3, h4, h5⟩ := x.of
    have hc := ho.sat.cell s.s i
    rw [hv] at hc
    exact run_call_load h1 h2 h3 h4 k h5 hc) h
theorem o1_xput {args : List Value} {v r : Value} (hxs : opds e xs = some args) (hi : i < cs.length) [s : SBox H b T cs H'] (hr : ∀ a w, Ok1 n e H a w → w.cell? ⟨b, i, none⟩ = some cs[i] → w.frozen? ⟨b, i, none⟩ = false → (callFunc f args.toArray).run P w = .ok (.value r) (w.setCell ⟨b, i, none⟩ v))
    (h : C r (.box b T (cs.set i v) :: H')) : O1 P (.call ⟨.value (.func f), xs.toArray, ats⟩) ty n e H C := by
  obtain ⟨H2, u1, u2⟩ := s.s.upd (.box b T (cs.set i v))
  have k0 : O1 P (.call ⟨.value (.func f), xs.toArray, ats⟩) ty n e H (fun v' K => v' = r ∧ K = H2) := o1_step fun a w ho => by
    have hargs := ho.ev.evals hxs
    have hc : w.cell? ⟨b, i, none⟩ = some cs[i] := by rw [ho.sat.cell s.s i]; simp [hi]
    refine ⟨r, w.setCell ⟨b, i, none⟩ v, ?_, H2, ⟨rfl, rfl⟩, (Ext.refl w).setCell _ _, ho.sat.set_ i v u1⟩
    simp [execOp, resolve, invoke, Deferred.ofValue, Act.eval, hargs, hr a w ho hc (ho.sat.free s.s i)]
  exact k0.post fun v' K hK => ⟨_, hK.1 ▸ h, hK.2 ▸ u2⟩
/-- The cell is written. -/
theorem o1_xstore (x : XFn P f Extern.Atomic.storeT) (hxs : opds e xs = some [.pointer (some ⟨b, i, none⟩), .int k q]) [s : SBox H b T cs H'] (hi : i < cs.length) (h : C (.tuple #[]) (.box b T (cs.set i (.int k q)) :: H')) : O1 P (.call ⟨.value (.func f), xs.toArray, ats⟩) ty n e H C :=
  o1_xput hxs hi (fun a w ho hc hz => by
    obtain ⟨fn, h1, h2, h3, h4, h5⟩ := x.of
    exact run_call_store h1 h2 h3 h4 h5 hc hz) h
/-- The cell holds what was asked: it is written. -/
theorem o1_xcas_t (x : XFn P f (Extern.Atomic.casT (.int k))) (hxs : opds e xs = some [.pointer (some ⟨b, i, none⟩), .int k p, .int k q]) [s : SBox H b T cs H'] (hv : cs[i]? = some (.int k p)) (h : C (.bool true) (.box b T (cs.set i (.int k q)) :: H')) : O1 P (.call ⟨.value (.func f), xs.toArray, ats⟩) ty n e H C := by
  obtain ⟨hi, hv⟩ := List.getElem?_eq_some_iff.mp hv
  exact o1_xput hxs hi (fun a w ho hc hz => by
    obtain ⟨fn, h1, h2, h3, h4, h5⟩ := x.of
    rw [hv] at hc
    exact run_call_cas_hit h1 h2 h3 h4 k h5 hc hz) h
/-- The cell holds another number. -/
theorem o1_xcas_f {o : Int} (x : XFn P f (Extern.Atomic.casT (.int k))) (hxs : opds e xs = some [.pointer (some ⟨b, i, none⟩), .int k o, .int k q]) [s : SBox H b T cs H'] (hv : cs[i]? = some (.int k p)) (hne : ¬ p = o) (h : C (.bool false) H) : O1 P (.call ⟨.value (.func f), xs.toArray, ats⟩) ty n e H C :=
  o1_xval _ hxs (fun a w ho => by
    obtain ⟨fn, h1, h2, h3, h4, h5⟩ := x.of
    have hc := ho.sat.cell s.s i
    rw [hv] at hc
    exact run_call_cas_miss h1 h2 h3 h4 k h5 hc (ho.sat.free s.s i) hne) h
/-- The cell is added to. -/
theorem o1_xadd {r : Int} (x : XFn P f (Extern.Atomic.update (Op.intArith .add) k true)) (hxs : opds e xs = some [.pointer (some ⟨b, i, none⟩), .int k q]) [s : SBox H b T cs H'] (hv : cs[i]? = some (.int k p)) (hr : k.wrap (p + q) = r) (h : C (.int k r) (.box b T (cs.set i (.int k r)) :: H')) : O1 P (.call ⟨.value (.func f), xs.toArray, ats⟩) ty n e H C := by
  obtain ⟨hi, hv⟩ := List.getElem?_eq_some_iff.mp hv
  exact o1_xput hxs hi (fun a w ho hc hz => by
    obtain ⟨fn, h1, h2, h3, h4, h5⟩ := x.of
    rw [hv] at hc
    exact run_call_add h1 h2 h3 h4 k h5 hc hz (by simp [Op.intArith, hr])) h
end
end Go.Dp

set_option linter.unusedVariables false
namespace Go.Dp
open Go.RowKit
theorem sat.cl {w : World} {H H' : List Hl} {b i : Nat} {T : TypeId} {cs : List Value} {v : Value} [s : SBox H b T cs H'] (h : sat w (stars H)) (hv : cs[i]? = some v) : w.cell? ⟨b, i, none⟩ = some v := by
  rw [h.cell s.s i]; exact hv
theorem cl_box {H H' : List Hl} {b i : Nat} {T : TypeId} {cs : List Value} {v : Value} [s : SBox H b T cs H'] (hv : cs[i]? = some v) : Cl (stars H) ⟨b, i, none⟩ v := ⟨fun w hw => sat.cl hw hv⟩
theorem cl_up {A : Hp → Prop} {H H' : List Hl} {p : Addr} {v : Value} [s : SAny H A H'] (h : Cl A p v) : Cl (stars H) p v := ⟨fun w hw => h.cell w (sel_sat s.s w hw)⟩
section
variable {P : Program} {n : Nat} {H : List Hl} {e : Ev} {C : Value → List Hl → Prop} {ty t T : TypeId} {x y : Operand} {p q : Option Addr}
theorem pointee_of {E : TypeId} (h : TPtr P T E) : P.underlying T = some (.pointer (P.pointee T)) := by
  have hu := h.u
  simp [Program.pointee, hu]
theorem o1_peql {E : TypeId} [ht : TPtr P T E] (hx : opd e x = some (.pointer p)) (hy : opd e y = some (.pointer none)) (h : C (.bool p.isNone) H) : O1 P (.binOp .eql T x y t) ty n e H C :=
  o1_val _ (fun a w ho => by
    have h1 := run_eql_pointer_nil (P := P) w T p (pointee_of ht)
    simp only [execOp, ho.ev.eval hx, ho.ev.eval hy, eqGuard_at_pointer, Sem.run_bind, Sem.run_pure, Result.andThen_ok, h1]) h
theorem o1_pneq {E : TypeId} [ht : TPtr P T E] (hx : opd e x = some (.pointer p)) (hy : opd e y = some (.pointer none)) (h : C (.bool (!p.isNone)) H) : O1 P (.binOp .neq T x y t) ty n e H C :=
  o1_val _ (fun a w ho => by
    have h1 := run_neq_pointer_nil (P := P) w T p (pointee_of ht)
    simp only [execOp, ho.ev.eval hx, ho.ev.eval hy, eqGuard_at_pointer, Sem.run_bind, Sem.run_pure, Result.andThen_ok, h1]) h
theorem equalIn_nil {E : TypeId} (w : World) (d : Nat) (T : TypeId) (q : Option Addr) (hu : P.underlying T = some (.pointer E)) : (Op.equalIn (d + 1) T (.pointer none) (.pointer q)).run P w = .ok q.isNone w := by
  cases q <;> simp [Op.equalIn, run_underlying hu]
theorem o1_peql_n {E : TypeId} [ht : TPtr P T E] (hx : opd e x = some (.pointer none)) (hy : opd e y = some (.pointer q)) (h : C (.bool q.isNone) H) : O1 P (.binOp .eql T x y t) ty n e H C :=
  o1_val _ (fun a w ho => by
    have h2 : (Op.equal T (.pointer none) (.pointer q)).run P w = .ok q.isNone w := by
      exact equalIn_nil w 9999 T q ht.u
    have h1 : (binOp .eql T (.pointer none) (.pointer q)).run P w = .ok (.bool q.isNone) w := by
      simp only [binOp]
      simp [h2]
    simp only [execOp, ho.ev.eval hx, ho.ev.eval hy, eqGuard_at_pointer, Sem.run_bind, Sem.run_pure, Result.andThen_ok, h1]) h
theorem rt_none {X : Type} {fn : Func} {W : World} {good : X → Prop} {val : X → Value} {res : X → List Hl} (r : X) (hres : fn.results = #[]) (hv : .tuple #[] = val r) (hg : good r) (hE : Ent H (res r)) :
    Rt P (.fn fn fun x w' => ∃ r, good r ∧ x = .returned (val r) ∧ Ext W w' ∧ sat w' (stars (res r))) n e W H :=
  rt_fn (v := .tuple #[]) (fun a w ho => by simp [results, hres]) r hg hv hE
/-- A closure. -/
theorem o1_func {f : FuncId} {xs : List Operand} {vs : List Value} (hxs : opds e xs = some vs) (h : C (.func (.func f) #[] vs.toArray) H) : O1 P (.makeFunc (.func f) #[] xs.toArray) ty n e H C :=
  o1_val _ (fun a w ho => by
    have hargs := ho.ev.evals hxs
    simp [execOp, Instr.makeFunc, hargs]) h
/-- A closure is called. -/
theorem o1_kall {f : FuncId} {xs : List Operand} {args caps : List Value} {ats : Array TypeId} {X : Type} {good : X → Prop} {val : X → Value} {res : X → List Hl} (hx : opd e x = some (.func (.func f) #[] caps.toArray)) (hs : Has H → Spec P f (args ++ caps) H good val res) (hxs : opds e xs = some args)
    (h : ∀ r, good r → C (val r) (res r)) : O1 P (.call ⟨.value x, xs.toArray, ats⟩) ty n e H C :=
  ⟨fun a w ho o h1 h2 K Q hK => by
    have hs := hs ho.has
    have hc := hs.calls w ho.sat
    have hargs := ho.ev.evals hxs
    have hr : (execOp a.eval ⟨none, .call ⟨.value x, xs.toArray, ats⟩, ty, "", #[], none⟩).run P w = .ok (.enter f (args ++ caps).toArray) w := by
      have h3 : (callFunc f (args.toArray ++ caps.toArray)).run P w = .ok (.enter f (args ++ caps).toArray) w := by
        rw [List.append_toArray]; exact run_enter hs.enters
      simp [execOp, resolve, invoke, Deferred.ofValue, ho.ev.eval hx, hargs]
      simpa using h3
    subst h2
    unfold Oper.wp
    rw [execOp_eq, h1, hr]
    refine hc.mono ?_
    rintro x w' ⟨r, hg, rfl, hx, hsat⟩
    exact hK _ _ _ (h r hg) hx hsat⟩
/-- A call of what changes a box and a row. -/
theorem o1_call_br (b : Nat) (ad : Option Addr) (c : Nat) {f : FuncId} {xs : List Operand} {args : List Value} {ats : Array TypeId} {X : Type} {good : X → Prop} {val : X → Value} {res : X → List Hl} {m : Nat} {T T2 : TypeId} {cs ys : List Value} {H' H2 : List Hl} [s : SBox H b T cs H'] [s2 : SRow H' ad c m T2 ys H2]
    (hs : Has (.box b T cs :: .row T2 1 (.slice ad m c) m ys :: H2) → Spec P f args (.box b T cs :: .row T2 1 (.slice ad m c) m ys :: H2) good val res) (hxs : opds e xs = some args) (h : ∀ r, good r → C (val r) (res r)) : O1 P (.call ⟨.value (.func f), xs.toArray, ats⟩) ty n e H C :=
  O1.ent (H2 := .box b T cs :: .row T2 1 (.slice ad m c) m ys :: H2) (fun h hh => sep_mono (s.s.out h hh) (fun _ a => a) (s2.s.out)) (o1_call hs hxs h)
/-- An element of what is read, its value told. -/
theorem o1_load_av {α : Type} {A : Hp → Prop} {enc : α → Value} {ad : Option Addr} {c : Nat} {xs : List α} (i : Nat) (v : α) {T : TypeId} [TOne P T] {H' : List Hl} (hx : opd e x = some (.pointer (some (idxA ad i)))) (hr : Rs A enc ad c xs) (hv : xs[i]? = some v) [s : SAny H A H'] (h : C (enc v) H) : O1 P (.load T x) ty n e H C := by
  obtain ⟨hl, hv⟩ := List.getElem?_eq_some_iff.mp hv
  exact o1_load_ia i hx hr hl (by rw [hv]; exact h)
theorem o1_load_hv {α : Type} {enc : α → Value} {ad : Option Addr} {c : Nat} {xs : List α} (i : Nat) (v : α) {T : TypeId} [TOne P T] (hx : opd e x = some (.pointer (some (idxA ad i)))) (hr : RsH H enc ad c xs) (hv : xs[i]? = some v) (h : C (enc v) H) : O1 P (.load T x) ty n e H C := by
  obtain ⟨hl, hv⟩ := List.getElem?_eq_some_iff.mp hv
  exact o1_load_iah i hx hr hl (by rw [hv]; exact h)
end
end Go.Dp

namespace Go.Dp
open Go.Proofs
instance : TInt Tryd.prog 2 .i64 := ⟨by kernel_rfl⟩
instance : TInf Tryd.prog 2 (.int .i64 (0)) 1 8 := ⟨by kernel_rfl⟩
instance : TOne Tryd.prog 2 := ⟨by kernel_rfl⟩
instance : TInt Tryd.prog 3 .i64 := ⟨by kernel_rfl⟩
instance : TInf Tryd.prog 3 (.int .i64 (0)) 1 8 := ⟨by kernel_rfl⟩
instance : TOne Tryd.prog 3 := ⟨by kernel_rfl⟩
instance : TBool Tryd.prog 4 := ⟨by kernel_rfl⟩
instance : TInf Tryd.prog 4 (.bool false) 1 1 := ⟨by kernel_rfl⟩
instance : TOne Tryd.prog 4 := ⟨by kernel_rfl⟩
instance : TInt Tryd.prog 5 .u8 := ⟨by kernel_rfl⟩
instance : TInf Tryd.prog 5 (.int .u8 (0)) 1 1 := ⟨by kernel_rfl⟩
instance : TOne Tryd.prog 5 := ⟨by kernel_rfl⟩
instance : TFld Tryd.prog 7 0 0 2 := ⟨by kernel_rfl⟩
instance : TFld Tryd.prog 7 1 1 3 := ⟨by kernel_rfl⟩
instance : TFld Tryd.prog 7 2 2 4 := ⟨by kernel_rfl⟩
instance : TFld Tryd.prog 7 3 3 6 := ⟨by kernel_rfl⟩
instance : TPl Tryd.prog 7 [(0, 1), (1, 1), (2, 1), (3, 1)] := ⟨by kernel_rfl⟩
instance : TInf Tryd.prog 7 (.agg #[.int .i64 (0), .int .i64 (0), .bool false, .int .u8 (0)]) 4 24 := ⟨by kernel_rfl⟩
instance : TAgg Tryd.prog 7 := ⟨by kernel_rfl⟩
instance : TStr Tryd.prog 9 := ⟨by kernel_rfl⟩
instance : TInf Tryd.prog 9 (.string .empty) 1 16 := ⟨by kernel_rfl⟩
instance : TOne Tryd.prog 9 := ⟨by kernel_rfl⟩
instance : TInt Tryd.prog 12 .u64 := ⟨by kernel_rfl⟩
instance : TInf Tryd.prog 12 (.int .u64 (0)) 1 8 := ⟨by kernel_rfl⟩
instance : TOne Tryd.prog 12 := ⟨by kernel_rfl⟩
instance : TFld Tryd.prog 13 0 0 9 := ⟨by kernel_rfl⟩
instance : TFld Tryd.prog 13 1 1 12 := ⟨by kernel_rfl⟩
instance : TPl Tryd.prog 13 [(0, 1), (1, 1)] := ⟨by kernel_rfl⟩
instance : TInf Tryd.prog 13 (.agg #[.string .empty, .int .u64 (0)]) 2 24 := ⟨by kernel_rfl⟩
instance : TAgg Tryd.prog 13 := ⟨by kernel_rfl⟩
instance : TFld Tryd.prog 18 0 0 17 := ⟨by kernel_rfl⟩
instance : TPl Tryd.prog 18 [(0, 1)] := ⟨by kernel_rfl⟩
instance : TInf Tryd.prog 18 (.agg #[.pointer none]) 1 8 := ⟨by kernel_rfl⟩
instance : TAgg Tryd.prog 18 := ⟨by kernel_rfl⟩
instance : TInt Tryd.prog 21 .i32 := ⟨by kernel_rfl⟩
instance : TInf Tryd.prog 21 (.int .i32 (0)) 1 4 := ⟨by kernel_rfl⟩
instance : TOne Tryd.prog 21 := ⟨by kernel_rfl⟩
instance : TSl Tryd.prog 22 3 := ⟨by kernel_rfl⟩
instance : TInf Tryd.prog 22 (.slice none 0 0) 1 24 := ⟨by kernel_rfl⟩
instance : TOne Tryd.prog 22 := ⟨by kernel_rfl⟩
instance : TInt Tryd.prog 24 .u64 := ⟨by kernel_rfl⟩
instance : TInf Tryd.prog 24 (.int .u64 (0)) 1 8 := ⟨by kernel_rfl⟩
instance : TOne Tryd.prog 24 := ⟨by kernel_rfl⟩
instance : TPtr Tryd.prog 25 86 := ⟨by kernel_rfl⟩
instance : TInf Tryd.prog 25 (.pointer none) 1 8 := ⟨by kernel_rfl⟩
instance : TOne Tryd.prog 25 := ⟨by kernel_rfl⟩
instance : TPtr Tryd.prog 34 97 := ⟨by kernel_rfl⟩
instance : TInf Tryd.prog 34 (.pointer none) 1 8 := ⟨by kernel_rfl⟩
instance : TOne Tryd.prog 34 := ⟨by kernel_rfl⟩
instance : TSl Tryd.prog 36 4 := ⟨by kernel_rfl⟩
instance : TInf Tryd.prog 36 (.slice none 0 0) 1 24 := ⟨by kernel_rfl⟩
instance : TOne Tryd.prog 36 := ⟨by kernel_rfl⟩
instance : TSl Tryd.prog 38 5 := ⟨by kernel_rfl⟩
instance : TInf Tryd.prog 38 (.slice none 0 0) 1 24 := ⟨by kernel_rfl⟩
instance : TOne Tryd.prog 38 := ⟨by kernel_rfl⟩
instance : TSl Tryd.prog 39 38 := ⟨by kernel_rfl⟩
instance : TInf Tryd.prog 39 (.slice none 0 0) 1 24 := ⟨by kernel_rfl⟩
instance : TOne Tryd.prog 39 := ⟨by kernel_rfl⟩
instance : TSl Tryd.prog 59 22 := ⟨by kernel_rfl⟩
instance : TInf Tryd.prog 59 (.slice none 0 0) 1 24 := ⟨by kernel_rfl⟩
instance : TOne Tryd.prog 59 := ⟨by kernel_rfl⟩
instance : TArr Tryd.prog 60 2 34 := ⟨by kernel_rfl⟩
instance : TPl Tryd.prog 60 [(0, 1), (1, 1)] := ⟨by kernel_rfl⟩
instance : TInf Tryd.prog 60 (.agg #[.pointer none, .pointer none]) 2 16 := ⟨by kernel_rfl⟩
instance : TAgg Tryd.prog 60 := ⟨by kernel_rfl⟩
instance : TSl Tryd.prog 65 70 := ⟨by kernel_rfl⟩
instance : TInf Tryd.prog 65 (.slice none 0 0) 1 24 := ⟨by kernel_rfl⟩
instance : TOne Tryd.prog 65 := ⟨by kernel_rfl⟩
instance : TPtr Tryd.prog 67 76 := ⟨by kernel_rfl⟩
instance : TInf Tryd.prog 67 (.pointer none) 1 8 := ⟨by kernel_rfl⟩
instance : TOne Tryd.prog 67 := ⟨by kernel_rfl⟩
instance : TFld Tryd.prog 69 0 0 22 := ⟨by kernel_rfl⟩
instance : TFld Tryd.prog 69 1 1 38 := ⟨by kernel_rfl⟩
instance : TPl Tryd.prog 69 [(0, 1), (1, 1)] := ⟨by kernel_rfl⟩
instance : TInf Tryd.prog 69 (.agg #[.slice none 0 0, .slice none 0 0]) 2 48 := ⟨by kernel_rfl⟩
instance : TAgg Tryd.prog 69 := ⟨by kernel_rfl⟩
instance : TFld Tryd.prog 70 0 0 22 := ⟨by kernel_rfl⟩
instance : TFld Tryd.prog 70 1 1 38 := ⟨by kernel_rfl⟩
instance : TPl Tryd.prog 70 [(0, 1), (1, 1)] := ⟨by kernel_rfl⟩
instance : TInf Tryd.prog 70 (.agg #[.slice none 0 0, .slice none 0 0]) 2 48 := ⟨by kernel_rfl⟩
instance : TAgg Tryd.prog 70 := ⟨by kernel_rfl⟩
instance : TSl Tryd.prog 74 78 := ⟨by kernel_rfl⟩
instance : TInf Tryd.prog 74 (.slice none 0 0) 1 24 := ⟨by kernel_rfl⟩
instance : TOne Tryd.prog 74 := ⟨by kernel_rfl⟩
instance : TFld Tryd.prog 75 0 0 3 := ⟨by kernel_rfl⟩
instance : TFld Tryd.prog 75 1 1 3 := ⟨by kernel_rfl⟩
instance : TFld Tryd.prog 75 2 2 74 := ⟨by kernel_rfl⟩
instance : TPl Tryd.prog 75 [(0, 1), (1, 1), (2, 1)] := ⟨by kernel_rfl⟩
instance : TInf Tryd.prog 75 (.agg #[.int .i64 (0), .int .i64 (0), .slice none 0 0]) 3 40 := ⟨by kernel_rfl⟩
instance : TAgg Tryd.prog 75 := ⟨by kernel_rfl⟩
instance : TFld Tryd.prog 76 0 0 3 := ⟨by kernel_rfl⟩
instance : TFld Tryd.prog 76 1 1 3 := ⟨by kernel_rfl⟩
instance : TFld Tryd.prog 76 2 2 74 := ⟨by kernel_rfl⟩
instance : TPl Tryd.prog 76 [(0, 1), (1, 1), (2, 1)] := ⟨by kernel_rfl⟩
instance : TInf Tryd.prog 76 (.agg #[.int .i64 (0), .int .i64 (0), .slice none 0 0]) 3 40 := ⟨by kernel_rfl⟩
instance : TAgg Tryd.prog 76 := ⟨by kernel_rfl⟩
instance : TFld Tryd.prog 77 0 0 36 := ⟨by kernel_rfl⟩
instance : TFld Tryd.prog 77 1 1 38 := ⟨by kernel_rfl⟩
instance : TPl Tryd.prog 77 [(0, 1), (1, 1)] := ⟨by kernel_rfl⟩
instance : TInf Tryd.prog 77 (.agg #[.slice none 0 0, .slice none 0 0]) 2 48 := ⟨by kernel_rfl⟩
instance : TAgg Tryd.prog 77 := ⟨by kernel_rfl⟩
instance : TFld Tryd.prog 78 0 0 36 := ⟨by kernel_rfl⟩
instance : TFld Tryd.prog 78 1 1 38 := ⟨by kernel_rfl⟩
instance : TPl Tryd.prog 78 [(0, 1), (1, 1)] := ⟨by kernel_rfl⟩
instance : TInf Tryd.prog 78 (.agg #[.slice none 0 0, .slice none 0 0]) 2 48 := ⟨by kernel_rfl⟩
instance : TAgg Tryd.prog 78 := ⟨by kernel_rfl⟩
instance : TArr Tryd.prog 80 2 38 := ⟨by kernel_rfl⟩
instance : TPl Tryd.prog 80 [(0, 1), (1, 1)] := ⟨by kernel_rfl⟩
instance : TInf Tryd.prog 80 (.agg #[.slice none 0 0, .slice none 0 0]) 2 48 := ⟨by kernel_rfl⟩
instance : TAgg Tryd.prog 80 := ⟨by kernel_rfl⟩
instance : TSl Tryd.prog 84 24 := ⟨by kernel_rfl⟩
instance : TInf Tryd.prog 84 (.slice none 0 0) 1 24 := ⟨by kernel_rfl⟩
instance : TOne Tryd.prog 84 := ⟨by kernel_rfl⟩
instance : TFld Tryd.prog 85 0 0 3 := ⟨by kernel_rfl⟩
instance : TFld Tryd.prog 85 1 1 84 := ⟨by kernel_rfl⟩
instance : TPl Tryd.prog 85 [(0, 1), (1, 1)] := ⟨by kernel_rfl⟩
instance : TInf Tryd.prog 85 (.agg #[.int .i64 (0), .slice none 0 0]) 2 32 := ⟨by kernel_rfl⟩
instance : TAgg Tryd.prog 85 := ⟨by kernel_rfl⟩
instance : TFld Tryd.prog 86 0 0 3 := ⟨by kernel_rfl⟩
instance : TFld Tryd.prog 86 1 1 84 := ⟨by kernel_rfl⟩
instance : TPl Tryd.prog 86 [(0, 1), (1, 1)] := ⟨by kernel_rfl⟩
instance : TInf Tryd.prog 86 (.agg #[.int .i64 (0), .slice none 0 0]) 2 32 := ⟨by kernel_rfl⟩
instance : TAgg Tryd.prog 86 := ⟨by kernel_rfl⟩
instance : TSl Tryd.prog 90 98 := ⟨by kernel_rfl⟩
instance : TInf Tryd.prog 90 (.slice none 0 0) 1 24 := ⟨by kernel_rfl⟩
instance : TOne Tryd.prog 90 := ⟨by kernel_rfl⟩
instance : TInf Tryd.prog 91 (.agg #[]) 0 0 := ⟨by kernel_rfl⟩
instance : TAgg Tryd.prog 91 := ⟨by kernel_rfl⟩
instance : TInf Tryd.prog 92 (.agg #[]) 0 0 := ⟨by kernel_rfl⟩
instance : TAgg Tryd.prog 92 := ⟨by kernel_rfl⟩
instance : TInf Tryd.prog 93 (.agg #[]) 0 0 := ⟨by kernel_rfl⟩
instance : TAgg Tryd.prog 93 := ⟨by kernel_rfl⟩
instance : TFld Tryd.prog 94 2 0 2 := ⟨by kernel_rfl⟩
instance : TPl Tryd.prog 94 [(0, 0), (0, 0), (0, 1)] := ⟨by kernel_rfl⟩
instance : TInf Tryd.prog 94 (.agg #[.int .i64 (0)]) 1 8 := ⟨by kernel_rfl⟩
instance : TAgg Tryd.prog 94 := ⟨by kernel_rfl⟩
instance : TFld Tryd.prog 95 2 0 2 := ⟨by kernel_rfl⟩
instance : TPl Tryd.prog 95 [(0, 0), (0, 0), (0, 1)] := ⟨by kernel_rfl⟩
instance : TInf Tryd.prog 95 (.agg #[.int .i64 (0)]) 1 8 := ⟨by kernel_rfl⟩
instance : TAgg Tryd.prog 95 := ⟨by kernel_rfl⟩
instance : TFld Tryd.prog 96 0 0 3 := ⟨by kernel_rfl⟩
instance : TFld Tryd.prog 96 1 1 3 := ⟨by kernel_rfl⟩
instance : TFld Tryd.prog 96 2 2 90 := ⟨by kernel_rfl⟩
instance : TFld Tryd.prog 96 3 3 95 := ⟨by kernel_rfl⟩
instance : TPl Tryd.prog 96 [(0, 1), (1, 1), (2, 1), (3, 1)] := ⟨by kernel_rfl⟩
instance : TInf Tryd.prog 96 (.agg #[.int .i64 (0), .int .i64 (0), .slice none 0 0, .int .i64 (0)]) 4 48 := ⟨by kernel_rfl⟩
instance : TAgg Tryd.prog 96 := ⟨by kernel_rfl⟩
instance : TFld Tryd.prog 97 0 0 3 := ⟨by kernel_rfl⟩
instance : TFld Tryd.prog 97 1 1 3 := ⟨by kernel_rfl⟩
instance : TFld Tryd.prog 97 2 2 90 := ⟨by kernel_rfl⟩
instance : TFld Tryd.prog 97 3 3 95 := ⟨by kernel_rfl⟩
instance : TPl Tryd.prog 97 [(0, 1), (1, 1), (2, 1), (3, 1)] := ⟨by kernel_rfl⟩
instance : TInf Tryd.prog 97 (.agg #[.int .i64 (0), .int .i64 (0), .slice none 0 0, .int .i64 (0)]) 4 48 := ⟨by kernel_rfl⟩
instance : TAgg Tryd.prog 97 := ⟨by kernel_rfl⟩
instance : TPtr Tryd.prog 98 101 := ⟨by kernel_rfl⟩
instance : TInf Tryd.prog 98 (.pointer none) 1 8 := ⟨by kernel_rfl⟩
instance : TOne Tryd.prog 98 := ⟨by kernel_rfl⟩
instance : TFld Tryd.prog 100 0 0 25 := ⟨by kernel_rfl⟩
instance : TFld Tryd.prog 100 1 1 38 := ⟨by kernel_rfl⟩
instance : TPl Tryd.prog 100 [(0, 1), (1, 1)] := ⟨by kernel_rfl⟩
instance : TInf Tryd.prog 100 (.agg #[.pointer none, .slice none 0 0]) 2 32 := ⟨by kernel_rfl⟩
instance : TAgg Tryd.prog 100 := ⟨by kernel_rfl⟩
instance : TFld Tryd.prog 101 0 0 25 := ⟨by kernel_rfl⟩
instance : TFld Tryd.prog 101 1 1 38 := ⟨by kernel_rfl⟩
instance : TPl Tryd.prog 101 [(0, 1), (1, 1)] := ⟨by kernel_rfl⟩
instance : TInf Tryd.prog 101 (.agg #[.pointer none, .slice none 0 0]) 2 32 := ⟨by kernel_rfl⟩
instance : TAgg Tryd.prog 101 := ⟨by kernel_rfl⟩
instance : TInt Tryd.prog 106 .u64 := ⟨by kernel_rfl⟩
instance : TInf Tryd.prog 106 (.int .u64 (0)) 1 8 := ⟨by kernel_rfl⟩
instance : TOne Tryd.prog 106 := ⟨by kernel_rfl⟩
instance : TInt Tryd.prog 116 .u32 := ⟨by kernel_rfl⟩
instance : TInf Tryd.prog 116 (.int .u32 (0)) 1 4 := ⟨by kernel_rfl⟩
instance : TOne Tryd.prog 116 := ⟨by kernel_rfl⟩
instance : TPtr Tryd.prog 118 95 := ⟨by kernel_rfl⟩
instance : TInf Tryd.prog 118 (.pointer none) 1 8 := ⟨by kernel_rfl⟩
instance : TOne Tryd.prog 118 := ⟨by kernel_rfl⟩
instance : TPtr Tryd.prog 120 2 := ⟨by kernel_rfl⟩
instance : TInf Tryd.prog 120 (.pointer none) 1 8 := ⟨by kernel_rfl⟩
instance : TOne Tryd.prog 120 := ⟨by kernel_rfl⟩
instance : TArr Tryd.prog 122 64 5 := ⟨by kernel_rfl⟩
instance : TPl Tryd.prog 122 [(0, 1), (1, 1), (2, 1), (3, 1), (4, 1), (5, 1), (6, 1), (7, 1), (8, 1), (9, 1), (10, 1), (11, 1), (12, 1), (13, 1), (14, 1), (15, 1), (16, 1), (17, 1), (18, 1), (19, 1), (20, 1), (21, 1), (22, 1), (23, 1), (24, 1), (25, 1), (26, 1), (27, 1), (28, 1), (29, 1), (30, 1), (31, 1), (32, 1), (33, 1), (34, 1), (35, 1), (36, 1), (37, 1), (38, 1), (39, 1), (40, 1), (41, 1), (42, 1), (43, 1), (44, 1), (45, 1), (46, 1), (47, 1), (48, 1), (49, 1), (50, 1), (51, 1), (52, 1), (53, 1), (54, 1), (55, 1), (56, 1), (57, 1), (58, 1), (59, 1), (60, 1), (61, 1), (62, 1), (63, 1)] := ⟨by kernel_rfl⟩
instance : TInf Tryd.prog 122 (.agg #[.int .u8 (0), .int .u8 (0), .int .u8 (0), .int .u8 (0), .int .u8 (0), .int .u8 (0), .int .u8 (0), .int .u8 (0), .int .u8 (0), .int .u8 (0), .int .u8 (0), .int .u8 (0), .int .u8 (0), .int .u8 (0), .int .u8 (0), .int .u8 (0), .int .u8 (0), .int .u8 (0), .int .u8 (0), .int .u8 (0), .int .u8 (0), .int .u8 (0), .int .u8 (0), .int .u8 (0), .int .u8 (0), .int .u8 (0), .int .u8 (0), .int .u8 (0), .int .u8 (0), .int .u8 (0), .int .u8 (0), .int .u8 (0), .int .u8 (0), .int .u8 (0), .int .u8 (0), .int .u8 (0), .int .u8 (0), .int .u8 (0), .int .u8 (0), .int .u8 (0), .int .u8 (0), .int .u8 (0), .int .u8 (0), .int .u8 (0), .int .u8 (0), .int .u8 (0), .int .u8 (0), .int .u8 (0), .int .u8 (0), .int .u8 (0), .int .u8 (0), .int .u8 (0), .int .u8 (0), .int .u8 (0), .int .u8 (0), .int .u8 (0), .int .u8 (0), .int .u8 (0), .int .u8 (0), .int .u8 (0), .int .u8 (0), .int .u8 (0), .int .u8 (0), .int .u8 (0)]) 64 64 := ⟨by kernel_rfl⟩
instance : TAgg Tryd.prog 122 := ⟨by kernel_rfl⟩
instance : TFld Tryd.prog 124 0 0 17 := ⟨by kernel_rfl⟩
instance : TFld Tryd.prog 124 1 1 17 := ⟨by kernel_rfl⟩
instance : TFld Tryd.prog 124 2 2 17 := ⟨by kernel_rfl⟩
instance : TFld Tryd.prog 124 3 3 9 := ⟨by kernel_rfl⟩
instance : TPl Tryd.prog 124 [(0, 1), (1, 1), (2, 1), (3, 1)] := ⟨by kernel_rfl⟩
instance : TInf Tryd.prog 124 (.agg #[.pointer none, .pointer none, .pointer none, .string .empty]) 4 40 := ⟨by kernel_rfl⟩
instance : TAgg Tryd.prog 124 := ⟨by kernel_rfl⟩
instance : TPl Tryd.prog 127 [(0, 0)] := ⟨by kernel_rfl⟩
instance : TInf Tryd.prog 127 (.agg #[]) 0 0 := ⟨by kernel_rfl⟩
instance : TAgg Tryd.prog 127 := ⟨by kernel_rfl⟩
instance : TPtr Tryd.prog 132 5 := ⟨by kernel_rfl⟩
instance : TInf Tryd.prog 132 (.pointer none) 1 8 := ⟨by kernel_rfl⟩
instance : TOne Tryd.prog 132 := ⟨by kernel_rfl⟩
instance : TFld Tryd.prog 135 0 0 12 := ⟨by kernel_rfl⟩
instance : TFld Tryd.prog 135 1 1 12 := ⟨by kernel_rfl⟩
instance : TFld Tryd.prog 135 2 2 116 := ⟨by kernel_rfl⟩
instance : TFld Tryd.prog 135 3 3 129 := ⟨by kernel_rfl⟩
instance : TFld Tryd.prog 135 4 4 5 := ⟨by kernel_rfl⟩
instance : TFld Tryd.prog 135 5 5 5 := ⟨by kernel_rfl⟩
instance : TFld Tryd.prog 135 6 6 130 := ⟨by kernel_rfl⟩
instance : TFld Tryd.prog 135 7 7 131 := ⟨by kernel_rfl⟩
instance : TFld Tryd.prog 135 8 8 132 := ⟨by kernel_rfl⟩
instance : TFld Tryd.prog 135 9 9 133 := ⟨by kernel_rfl⟩
instance : TFld Tryd.prog 135 10 10 134 := ⟨by kernel_rfl⟩
instance : TPl Tryd.prog 135 [(0, 1), (1, 1), (2, 1), (3, 1), (4, 1), (5, 1), (6, 1), (7, 1), (8, 1), (9, 1), (10, 1)] := ⟨by kernel_rfl⟩
instance : TInf Tryd.prog 135 (.agg #[.int .u64 (0), .int .u64 (0), .int .u32 (0), .int .u8 (0), .int .u8 (0), .int .u8 (0), .int .u8 (0), .nilFunc, .pointer none, .int .i32 (0), .int .i32 (0)]) 11 48 := ⟨by kernel_rfl⟩
instance : TAgg Tryd.prog 135 := ⟨by kernel_rfl⟩
theorem mixed : Tryd.prog.follows .mixedOrders = true := by kernel_rfl
end Go.Dp

set_option linter.unusedVariables false
set_option linter.unusedSimpArgs false
namespace Go.Dp
open Go.RowKit Go.Proofs
/-- A row of bits: its box, how many bits, where its words stand, its bits. -/
structure VD where
  b : Nat
  n : Nat
  a : Option Addr
  c : Nat
  l : List Bool
abbrev Pv (v : VD) : Value := .pointer (some ⟨v.b, 0, none⟩)
structure VD.ok (v : VD) : Prop where
  len : v.l.length = v.n
  hi : v.n ≤ 256
structure RdV (A : Hp → Prop) (v : VD) : Prop where
  n : Cl A ⟨v.b, 0, none⟩ (I v.n)
  s : Cl A ⟨v.b, 1, none⟩ (.slice v.a (nw v.n) v.c)
  w : Rs A W8 v.a v.c (words v.l)
  ok : v.ok
theorem RdV.up {A : Hp → Prop} {v : VD} {H H' : List Hl} (h : RdV A v) [s : SAny H A H'] : RdV (stars H) v := ⟨cl_up h.n, cl_up h.s, h.w.up, h.ok⟩
abbrev vB (b n : Nat) (a : Option Addr) (c : Nat) : Hl := .box b 86 [I n, .slice a (nw n) c]
abbrev vR (n : Nat) (a : Option Addr) (c : Nat) (l : List Bool) : Hl := .row 24 1 (.slice a (nw n) c) (nw n) ((words l).map W8)
theorem RdV.own {b n : Nat} {a : Option Addr} {c : Nat} {l : List Bool} {H H1 H2 : List Hl} {m : Nat} [s : SBox H b 86 [I n, .slice a (nw n) c] H1] [s2 : SRow H a c m 24 ((words l).map W8) H2] (hl : l.length = n) (hn : n ≤ 256) (hh : Has H) : RdV (stars H) ⟨b, n, a, c, l⟩ :=
  ⟨cl_box rfl, cl_box rfl, rx_row hh, ⟨hl, hn⟩⟩
theorem VD.ok.words {v : VD} (h : v.ok) : (words v.l).length = nw v.n := by rw [words_len, h.len]
theorem nw_at {n m : Nat} (h : m < n) : m / 64 < nw n := by unfold nw; omega
theorem nw_4 {n : Nat} (h : n ≤ 256) : nw n ≤ 4 := by unfold nw; omega
/-- Is this place set? -/
def hasV (l : List Bool) (i : Int) : Bool := decide (0 ≤ i) && at_ l i.toNat
theorem hasV_nat (l : List Bool) (i : Nat) : hasV l (i : Int) = at_ l i := by simp [hasV]
def inV (n : Nat) (i : Int) : Bool := decide (0 ≤ i ∧ i < n)
theorem inV_of {n : Nat} {i : Int} (h0 : 0 ≤ i) (h1 : i < n) : inV n i = true := by simp [inV]; omega
theorem inV_not {n : Nat} {i : Int} (h : ¬ (0 ≤ i ∧ i < n)) : inV n i = false := by simp [inV]; omega
theorem vec_within (H : List Hl) (v : VD) (i : Int) (h : Cl (stars H) ⟨v.b, 0, none⟩ (I v.n)) :
    Spec Tryd.prog 51 [Pv v, I i] H (fun _ : Unit => True) (fun _ => .bool (inV v.n i)) (fun _ => H) := by
  refine spec_pure (res := fun _ => []) H Tryd.func51 rfl Tryd.ntmps51 (by kernel_rfl) rfl (fun W => ?_)
  by_cases h0 : 0 ≤ i
  · repeat' (first | refine ls_of rfl ?_ | refine ls_of_no ?_ | refine ls_guard_yes rfl rfl ?_ | refine ls_guard_no rfl rfl rfl rfl ?_ | refine ls_guard_un rfl rfl rfl ?_ | refine o1_move rfl ?_ | refine o1_assign rfl ?_ | refine st_seq ?_ | refine st_region ?_ | refine st_block ?_ | refine st_skip ?_ | refine st_ret ?_ | refine st_exit ?_ | refine st_cond_t rfl ?_ | refine st_cond_f rfl ?_ | refine st_cond rfl (fun _ => ?_) (fun _ => ?_) | refine ls_nil ?_ | refine nx_seq ?_ | refine nx_blk ?_ | refine nx_fn ?_ | refine nx_rounds ?_ | refine xt_seq ?_ | refine xt_here ?_ | refine xt_on rfl ?_ | refine xt_rounds ?_ | refine xt_cut ?_ | refine rt_seq ?_ | refine rt_blk ?_ | refine rt_rounds ?_ | refine rt_cut ?_ | refine o1_pneq rfl rfl ?_ | refine ox_load_any rfl h ?_ | refine o1_lss_d rfl rfl ?_ | refine o1_pick_t rfl rfl ?_ | refine o1_pick_f rfl rfl ?_ | refine o1_fieldAddr rfl ?_ | refine ox_load rfl (by rfl) ?_ | refine ox_load_enc rfl (by first | omega | (simp; omega)) ?_ | refine ox_load_any rfl (by assumption) ?_ | refine o1_lss_t rfl rfl (by omega) ?_ | refine o1_lss_f rfl rfl (by omega) ?_ | refine o1_lss rfl rfl (fun _ => ?_) (fun _ => ?_) | refine o1_geq_t rfl rfl (by omega) ?_ | refine o1_geq_f rfl rfl (by omega) ?_ | refine o1_geq rfl rfl (fun _ => ?_) (fun _ => ?_) | refine o1_slice_nil rfl ?_ | refine o1_nilCheck rfl ?_)
    refine rt_tmp () rfl rfl (by simp [inV, h0]) trivial ?_
    (try dsimp only [List.cons_append, List.nil_append, List.singleton_append, List.append_nil]); (repeat (first | exact Ent.nil | exact Ent.refl _ | (apply Ent.cons; (repeat (first | exact Sel.here | apply Sel.there)))))
  · repeat' (first | refine ls_of rfl ?_ | refine ls_of_no ?_ | refine ls_guard_yes rfl rfl ?_ | refine ls_guard_no rfl rfl rfl rfl ?_ | refine ls_guard_un rfl rfl rfl ?_ | refine o1_move rfl ?_ | refine o1_assign rfl ?_ | refine st_seq ?_ | refine st_region ?_ | refine st_block ?_ | refine st_skip ?_ | refine st_ret ?_ | refine st_exit ?_ | refine st_cond_t rfl ?_ | refine st_cond_f rfl ?_ | refine st_cond rfl (fun _ => ?_) (fun _ => ?_) | refine ls_nil ?_ | refine nx_seq ?_ | refine nx_blk ?_ | refine nx_fn ?_ | refine nx_rounds ?_ | refine xt_seq ?_ | refine xt_here ?_ | refine xt_on rfl ?_ | refine xt_rounds ?_ | refine xt_cut ?_ | refine rt_seq ?_ | refine rt_blk ?_ | refine rt_rounds ?_ | refine rt_cut ?_ | refine o1_pneq rfl rfl ?_ | refine ox_load_any rfl h ?_ | refine o1_pick_t rfl rfl ?_ | refine o1_pick_f rfl rfl ?_ | refine o1_fieldAddr rfl ?_ | refine ox_load rfl (by rfl) ?_ | refine ox_load_enc rfl (by first | omega | (simp; omega)) ?_ | refine ox_load_any rfl (by assumption) ?_ | refine o1_lss_t rfl rfl (by omega) ?_ | refine o1_lss_f rfl rfl (by omega) ?_ | refine o1_lss rfl rfl (fun _ => ?_) (fun _ => ?_) | refine o1_geq_t rfl rfl (by omega) ?_ | refine o1_geq_f rfl rfl (by omega) ?_ | refine o1_geq rfl rfl (fun _ => ?_) (fun _ => ?_) | refine o1_slice_nil rfl ?_ | refine o1_nilCheck rfl ?_)
    refine rt_tmp () rfl rfl (by rw [inV_not (by omega)]) trivial ?_
    (try dsimp only [List.cons_append, List.nil_append, List.singleton_append, List.append_nil]); (repeat (first | exact Ent.nil | exact Ent.refl _ | (apply Ent.cons; (repeat (first | exact Sel.here | apply Sel.there)))))
theorem vec_Len (H : List Hl) (v : VD) (h : Cl (stars H) ⟨v.b, 0, none⟩ (I v.n)) :
    Spec Tryd.prog 35 [Pv v] H (fun _ : Unit => True) (fun _ => I v.n) (fun _ => H) := by
  refine spec_pure (res := fun _ => []) H Tryd.func35 rfl Tryd.ntmps35 (by kernel_rfl) rfl (fun W => ?_)
  repeat' (first | refine ls_of rfl ?_ | refine ls_of_no ?_ | refine ls_guard_yes rfl rfl ?_ | refine ls_guard_no rfl rfl rfl rfl ?_ | refine ls_guard_un rfl rfl rfl ?_ | refine o1_move rfl ?_ | refine o1_assign rfl ?_ | refine st_seq ?_ | refine st_region ?_ | refine st_block ?_ | refine st_skip ?_ | refine st_ret ?_ | refine st_exit ?_ | refine st_cond_t rfl ?_ | refine st_cond_f rfl ?_ | refine st_cond rfl (fun _ => ?_) (fun _ => ?_) | refine ls_nil ?_ | refine nx_seq ?_ | refine nx_blk ?_ | refine nx_fn ?_ | refine nx_rounds ?_ | refine xt_seq ?_ | refine xt_here ?_ | refine xt_on rfl ?_ | refine xt_rounds ?_ | refine xt_cut ?_ | refine rt_seq ?_ | refine rt_blk ?_ | refine rt_rounds ?_ | refine rt_cut ?_ | refine o1_peql rfl rfl ?_ | refine ox_load_any rfl h ?_ | refine o1_fieldAddr rfl ?_ | refine ox_load rfl (by rfl) ?_ | refine ox_load_enc rfl (by first | omega | (simp; omega)) ?_ | refine ox_load_any rfl (by assumption) ?_ | refine o1_slice_nil rfl ?_ | refine o1_nilCheck rfl ?_)
  refine rt_tmp () rfl rfl rfl trivial ?_
  (try dsimp only [List.cons_append, List.nil_append, List.singleton_append, List.append_nil]); (repeat (first | exact Ent.nil | exact Ent.refl _ | (apply Ent.cons; (repeat (first | exact Sel.here | apply Sel.there)))))
theorem bit_of (b : Bool) : decide (((b.toNat : Nat) : Int) = 1) = b := by cases b <;> rfl
theorem vec_Has (H : List Hl) (v : VD) (i : Int) (h : RdV (stars H) v) :
    Spec Tryd.prog 17 [Pv v, I i] H (fun _ : Unit => True) (fun _ => .bool (hasV v.l i)) (fun _ => H) := by
  refine spec_pure (res := fun _ => []) H Tryd.func17 rfl Tryd.ntmps17 (by kernel_rfl) rfl (fun W => ?_)
  by_cases hi : 0 ≤ i ∧ i < v.n
  · obtain ⟨m, rfl⟩ : ∃ m : Nat, i = m := ⟨i.toNat, by omega⟩
    have hm : m < v.n := by omega
    have h256 := h.ok.hi
    have hwl := h.ok.words
    have hlt : m / 64 < (words v.l).length := by rw [hwl]; exact nw_at hm
    have hw : (words v.l)[m / 64]? = some (wordOf v.l (m / 64)) := words_at? _ _ (by rw [h.ok.len]; exact nw_at hm)
    have hsh : ((m : Int) % 64).toNat = m % 64 := by omega
    repeat' (first | refine ls_of rfl ?_ | refine ls_of_no ?_ | refine ls_guard_yes rfl rfl ?_ | refine ls_guard_no rfl rfl rfl rfl ?_ | refine ls_guard_un rfl rfl rfl ?_ | refine o1_move rfl ?_ | refine o1_assign rfl ?_ | refine st_seq ?_ | refine st_region ?_ | refine st_block ?_ | refine st_skip ?_ | refine st_ret ?_ | refine st_exit ?_ | refine st_cond_t rfl ?_ | refine st_cond_f rfl ?_ | refine st_cond rfl (fun _ => ?_) (fun _ => ?_) | refine ls_nil ?_ | refine nx_seq ?_ | refine nx_blk ?_ | refine nx_fn ?_ | refine nx_rounds ?_ | refine xt_seq ?_ | refine xt_here ?_ | refine xt_on rfl ?_ | refine xt_rounds ?_ | refine xt_cut ?_ | refine rt_seq ?_ | refine rt_blk ?_ | refine rt_rounds ?_ | refine rt_cut ?_ | refine o1_call (fun _ => (vec_within _ v m (cl_up h.n)).bv (b := true) (inV_of hi.1 hi.2)) rfl (fun _ _ => ?_) | refine ox_load_any rfl h.s ?_ | refine o1_quo rfl rfl (by omega) ?_ | refine o1_ia (m / 64) rfl rfl h.w hwl.symm (by omega) hlt ?_ | refine o1_load_av (m / 64) _ rfl h.w hw ?_ | (refine o1_ushr rfl rfl (by omega) ?_; rw [hsh]) | refine o1_uand (v := 1#64) rfl rfl ?_ | refine o1_eql_d rfl rfl ?_ | refine o1_pick_t rfl rfl ?_ | refine o1_pick_f rfl rfl ?_ | refine o1_fieldAddr rfl ?_ | refine ox_load rfl (by rfl) ?_ | refine ox_load_enc rfl (by first | omega | (simp; omega)) ?_ | refine ox_load_any rfl (by assumption) ?_ | refine o1_eql_t rfl rfl (by omega) ?_ | refine o1_eql_f rfl rfl (by omega) ?_ | refine o1_eql rfl rfl (fun _ => ?_) (fun _ => ?_) | refine o1_uand rfl rfl ?_ | refine o1_ushr rfl rfl (by omega) ?_ | refine o1_rem_nn rfl rfl (by omega) ?_ | refine o1_nilCheck rfl ?_)
    refine rt_tmp () rfl rfl ?_ trivial ?_
    · rw [hasV_nat, word_has, bit_of]
    (try dsimp only [List.cons_append, List.nil_append, List.singleton_append, List.append_nil]); (repeat (first | exact Ent.nil | exact Ent.refl _ | (apply Ent.cons; (repeat (first | exact Sel.here | apply Sel.there)))))
  · repeat' (first | refine ls_of rfl ?_ | refine ls_of_no ?_ | refine ls_guard_yes rfl rfl ?_ | refine ls_guard_no rfl rfl rfl rfl ?_ | refine ls_guard_un rfl rfl rfl ?_ | refine o1_move rfl ?_ | refine o1_assign rfl ?_ | refine st_seq ?_ | refine st_region ?_ | refine st_block ?_ | refine st_skip ?_ | refine st_ret ?_ | refine st_exit ?_ | refine st_cond_t rfl ?_ | refine st_cond_f rfl ?_ | refine st_cond rfl (fun _ => ?_) (fun _ => ?_) | refine ls_nil ?_ | refine nx_seq ?_ | refine nx_blk ?_ | refine nx_fn ?_ | refine nx_rounds ?_ | refine xt_seq ?_ | refine xt_here ?_ | refine xt_on rfl ?_ | refine xt_rounds ?_ | refine xt_cut ?_ | refine rt_seq ?_ | refine rt_blk ?_ | refine rt_rounds ?_ | refine rt_cut ?_ | refine o1_call (fun _ => (vec_within _ v i (cl_up h.n)).bv (b := false) (inV_not hi)) rfl (fun _ _ => ?_) | refine o1_pick_t rfl rfl ?_ | refine o1_pick_f rfl rfl ?_ | refine o1_fieldAddr rfl ?_ | refine ox_load rfl (by rfl) ?_ | refine ox_load_enc rfl (by first | omega | (simp; omega)) ?_ | refine ox_load_any rfl (by assumption) ?_ | refine o1_eql_t rfl rfl (by omega) ?_ | refine o1_eql_f rfl rfl (by omega) ?_ | refine o1_eql rfl rfl (fun _ => ?_) (fun _ => ?_) | refine o1_uand rfl rfl ?_ | refine o1_ushr rfl rfl (by omega) ?_ | refine o1_rem_nn rfl rfl (by omega) ?_ | refine o1_nilCheck rfl ?_)
    refine rt_tmp () rfl rfl ?_ trivial ?_
    · congr 1
      simp only [hasV]
      by_cases h0 : 0 ≤ i
      · have : v.l.length ≤ i.toNat := by rw [h.ok.len]; omega
        have h3 : at_ v.l i.toNat = false := getD_out this
        rw [h3, Bool.and_false]
      · simp [h0]
    (try dsimp only [List.cons_append, List.nil_append, List.singleton_append, List.append_nil]); (repeat (first | exact Ent.nil | exact Ent.refl _ | (apply Ent.cons; (repeat (first | exact Sel.here | apply Sel.there)))))
/-- A place set, or let go, if there is one. -/
def setB (l : List Bool) (i : Int) (on : Bool) : List Bool := if 0 ≤ i ∧ i < l.length then l.set i.toNat on else l
theorem setB_true (l : List Bool) (i : Int) : setB l i true = setI l i := rfl
theorem setB_len (l : List Bool) (i : Int) (on : Bool) : (setB l i on).length = l.length := by unfold setB; split <;> simp
theorem setB_nat (l : List Bool) (i : Nat) (on : Bool) (h : i < l.length) : setB l i on = l.set i on := by
  rw [setB, if_pos (by omega)]; rfl
theorem setB_out (l : List Bool) (i : Int) (on : Bool) (h : ¬ (0 ≤ i ∧ i < l.length)) : setB l i on = l := by rw [setB, if_neg h]
theorem vec_Set (H : List Hl) (b n : Nat) (a : Option Addr) (c : Nat) (l : List Bool) (i : Int) (on : Bool) (hl : l.length = n) (hn : n ≤ 256) :
    Spec Tryd.prog 18 [.pointer (some ⟨b, 0, none⟩), I i, .bool on] (vB b n a c :: vR n a c l :: H) (fun _ : Unit => True) (fun _ => .bool (inV n i)) (fun _ => vB b n a c :: vR n a c (setB l i on) :: H) := by
  refine spec_fn (res := fun _ : Unit => [vB b n a c, vR n a c (setB l i on)]) [vB b n a c, vR n a c l] H Tryd.func18 rfl Tryd.ntmps18 (by kernel_rfl) rfl (fun W => ?_)
  dsimp only [List.cons_append, List.nil_append]
  by_cases hi : 0 ≤ i ∧ i < n
  · obtain ⟨m, rfl⟩ : ∃ m : Nat, i = m := ⟨i.toNat, by omega⟩
    have hm : m < n := by omega
    have hml : m < l.length := by omega
    have hsh : ((m : Int) % 64).toNat = m % 64 := by omega
    have hk : m / 64 < nw n := nw_at hm
    have k1 : ∀ l' : List Bool, l'.length = n → (words l').length = nw n := fun l' h => by rw [words_len, h]
    have hl2 : (l.set m false).length = n := by rw [List.length_set]; exact hl
    have w1 : (words l)[m / 64]? = some (wordOf l (m / 64)) := words_at? _ _ (by rw [hl]; exact hk)
    have w2 : (words (l.set m false))[m / 64]? = some (wordOf (l.set m false) (m / 64)) := words_at? _ _ (by rw [hl2]; exact hk)
    have hon := words_on (l.set m false) m (by omega)
    rw [List.set_set] at hon
    rw [setB_nat _ _ _ hml]
    cases on
    all_goals
      repeat' (first | refine ls_of rfl ?_ | refine ls_of_no ?_ | refine ls_guard_yes rfl rfl ?_ | refine ls_guard_no rfl rfl rfl rfl ?_ | refine ls_guard_un rfl rfl rfl ?_ | refine o1_move rfl ?_ | refine o1_assign rfl ?_ | refine st_seq ?_ | refine st_region ?_ | refine st_block ?_ | refine st_skip ?_ | refine st_ret ?_ | refine st_exit ?_ | refine st_cond_t rfl ?_ | refine st_cond_f rfl ?_ | refine st_cond rfl (fun _ => ?_) (fun _ => ?_) | refine ls_nil ?_ | refine nx_seq ?_ | refine nx_blk ?_ | refine nx_fn ?_ | refine nx_rounds ?_ | refine xt_seq ?_ | refine xt_here ?_ | refine xt_on rfl ?_ | refine xt_rounds ?_ | refine xt_cut ?_ | refine rt_seq ?_ | refine rt_blk ?_ | refine rt_rounds ?_ | refine rt_cut ?_ | refine o1_call (fun _ => (vec_within _ ⟨b, n, a, c, l⟩ m (cl_box rfl)).bv (b := true) (inV_of hi.1 hi.2)) rfl (fun _ _ => ?_) | refine o1_quo rfl rfl (by omega) ?_ | (refine o1_ushl (u := 1#64) rfl rfl (by omega) ?_; rw [hsh]) | refine o1_iah (enc := W8) (xs := words l) (m / 64) rfl rfl rx_row (k1 _ hl).symm (by omega) (by rw [k1 _ hl]; exact hk) ?_ | refine o1_load_hv (enc := W8) (c := c) (m / 64) _ rfl rx_row w1 ?_ | (refine ox_store_rowenc (c := c) W8 (m / 64) rfl rfl hk rfl ?_; rw [← words_off]) | refine o1_iah (enc := W8) (xs := words (l.set m false)) (m / 64) rfl rfl rx_row (k1 _ hl2).symm (by omega) (by rw [k1 _ hl2]; exact hk) ?_ | refine o1_load_hv (enc := W8) (c := c) (m / 64) _ rfl rx_row w2 ?_ | (refine ox_store_rowenc (c := c) W8 (m / 64) rfl rfl hk rfl ?_; rw [← hon]) | refine o1_fieldAddr rfl ?_ | refine ox_load rfl (by rfl) ?_ | refine ox_load_enc rfl (by first | omega | (simp; omega)) ?_ | refine ox_load_any rfl (by assumption) ?_ | refine o1_bnot rfl ?_ | refine o1_uor rfl rfl ?_ | refine o1_uandNot rfl rfl ?_ | refine o1_ushl rfl rfl (by omega) ?_ | refine o1_unot rfl ?_ | refine o1_rem_nn rfl rfl (by omega) ?_ | refine ox_store_enc B rfl rfl (by first | omega | (simp; done) | (simp; omega)) rfl ?_ | refine ox_stores rfl rfl (by first | omega | (simp; done) | (simp; omega)) rfl (by first | (simp only [List.set_cons_zero, List.set_cons_succ, Nat.zero_add, Nat.reduceAdd]; rfl) | rfl) ?_ | refine o1_nilCheck rfl ?_)
      refine rt_tmp () rfl rfl (by rw [inV_of hi.1 hi.2]) trivial ?_
      (try dsimp only [List.cons_append, List.nil_append, List.singleton_append, List.append_nil]); (repeat (first | exact Ent.nil | exact Ent.refl _ | (apply Ent.cons; (repeat (first | exact Sel.here | apply Sel.there)))))
  · rw [setB_out _ _ _ (by rw [hl]; exact hi)]
    repeat' (first | refine ls_of rfl ?_ | refine ls_of_no ?_ | refine ls_guard_yes rfl rfl ?_ | refine ls_guard_no rfl rfl rfl rfl ?_ | refine ls_guard_un rfl rfl rfl ?_ | refine o1_move rfl ?_ | refine o1_assign rfl ?_ | refine st_seq ?_ | refine st_region ?_ | refine st_block ?_ | refine st_skip ?_ | refine st_ret ?_ | refine st_exit ?_ | refine st_cond_t rfl ?_ | refine st_cond_f rfl ?_ | refine st_cond rfl (fun _ => ?_) (fun _ => ?_) | refine ls_nil ?_ | refine nx_seq ?_ | refine nx_blk ?_ | refine nx_fn ?_ | refine nx_rounds ?_ | refine xt_seq ?_ | refine xt_here ?_ | refine xt_on rfl ?_ | refine xt_rounds ?_ | refine xt_cut ?_ | refine rt_seq ?_ | refine rt_blk ?_ | refine rt_rounds ?_ | refine rt_cut ?_ | refine o1_call (fun _ => (vec_within _ ⟨b, n, a, c, l⟩ i (cl_box rfl)).bv (b := false) (inV_not hi)) rfl (fun _ _ => ?_) | refine o1_fieldAddr rfl ?_ | refine ox_load rfl (by rfl) ?_ | refine ox_load_enc rfl (by first | omega | (simp; omega)) ?_ | refine ox_load_any rfl (by assumption) ?_ | refine o1_bnot rfl ?_ | refine o1_uor rfl rfl ?_ | refine o1_uandNot rfl rfl ?_ | refine o1_ushl rfl rfl (by omega) ?_ | refine o1_unot rfl ?_ | refine o1_rem_nn rfl rfl (by omega) ?_ | refine ox_store_enc B rfl rfl (by first | omega | (simp; done) | (simp; omega)) rfl ?_ | refine ox_stores rfl rfl (by first | omega | (simp; done) | (simp; omega)) rfl (by first | (simp only [List.set_cons_zero, List.set_cons_succ, Nat.zero_add, Nat.reduceAdd]; rfl) | rfl) ?_ | refine o1_nilCheck rfl ?_)
    refine rt_tmp () rfl rfl (by rw [inV_not hi]) trivial ?_
    (try dsimp only [List.cons_append, List.nil_append, List.singleton_append, List.append_nil]); (repeat (first | exact Ent.nil | exact Ent.refl _ | (apply Ent.cons; (repeat (first | exact Sel.here | apply Sel.there)))))
theorem vec_New_no (H : List Hl) (n : Int) (h : ¬ (0 ≤ n ∧ n ≤ 256)) :
    Spec Tryd.prog 31 [I n] H (fun _ : Unit => True) (fun _ => .pointer none) (fun _ => H) := by
  refine spec_pure (res := fun _ => []) H Tryd.func31 rfl Tryd.ntmps31 (by kernel_rfl) rfl (fun W => ?_)
  by_cases h0 : n < 0
  all_goals
    repeat' (first | refine ls_of rfl ?_ | refine ls_of_no ?_ | refine ls_guard_yes rfl rfl ?_ | refine ls_guard_no rfl rfl rfl rfl ?_ | refine ls_guard_un rfl rfl rfl ?_ | refine o1_move rfl ?_ | refine o1_assign rfl ?_ | refine st_seq ?_ | refine st_region ?_ | refine st_block ?_ | refine st_skip ?_ | refine st_ret ?_ | refine st_exit ?_ | refine st_cond_t rfl ?_ | refine st_cond_f rfl ?_ | refine st_cond rfl (fun _ => ?_) (fun _ => ?_) | refine ls_nil ?_ | refine nx_seq ?_ | refine nx_blk ?_ | refine nx_fn ?_ | refine nx_rounds ?_ | refine xt_seq ?_ | refine xt_here ?_ | refine xt_on rfl ?_ | refine xt_rounds ?_ | refine xt_cut ?_ | refine rt_seq ?_ | refine rt_blk ?_ | refine rt_rounds ?_ | refine rt_cut ?_ | refine o1_pick_t rfl rfl ?_ | refine o1_pick_f rfl rfl ?_ | refine o1_box rfl rfl (fun _ => ?_) | refine o1_add rfl rfl (by omega) ?_ | refine o1_sub rfl rfl (by omega) ?_ | refine o1_lss_t rfl rfl (by omega) ?_ | refine o1_lss_f rfl rfl (by omega) ?_ | refine o1_lss rfl rfl (fun _ => ?_) (fun _ => ?_) | refine o1_gtr_t rfl rfl (by omega) ?_ | refine o1_gtr_f rfl rfl (by omega) ?_ | refine o1_gtr rfl rfl (fun _ => ?_) (fun _ => ?_) | refine o1_maken (enc := B) 0#8 rfl rfl rfl rfl (by omega) (by omega) (by omega) (fun _ => ?_) | refine o1_buildx rfl (by simp only [buildL, putL, List.set_cons_zero, List.set_cons_succ, List.getElem?_cons_zero, List.getElem?_cons_succ, Option.getD_some, Value.cells, Nat.zero_add, Nat.reduceAdd]; rfl) (fun _ => by kernel_rfl) ?_)
    refine rt_tmp () rfl rfl rfl trivial ?_
    (try dsimp only [List.cons_append, List.nil_append, List.singleton_append, List.append_nil]); (repeat (first | exact Ent.nil | exact Ent.refl _ | (apply Ent.cons; (repeat (first | exact Sel.here | apply Sel.there)))))
theorem vec_New (H : List Hl) (n : Nat) (hn : n ≤ 256) :
    Spec Tryd.prog 31 [I n] H (fun _ : Nat × Option Addr × Nat => True) (fun r => .pointer (some ⟨r.1, 0, none⟩)) (fun r => vB r.1 n r.2.1 r.2.2 :: vR n r.2.1 r.2.2 (List.replicate n false) :: H) := by
  refine spec_pure (res := fun r : Nat × Option Addr × Nat => [vB r.1 n r.2.1 r.2.2, vR n r.2.1 r.2.2 (List.replicate n false)]) H Tryd.func31 rfl Tryd.ntmps31 (by kernel_rfl) rfl (fun W => ?_)
  have h4 := nw_4 hn
  have hq : ((n : Int) + 64 - 1) / 64 = (nw n : Nat) := by unfold nw; omega
  repeat' (first | refine ls_of rfl ?_ | refine ls_of_no ?_ | refine ls_guard_yes rfl rfl ?_ | refine ls_guard_no rfl rfl rfl rfl ?_ | refine ls_guard_un rfl rfl rfl ?_ | refine o1_move rfl ?_ | refine o1_assign rfl ?_ | refine st_seq ?_ | refine st_region ?_ | refine st_block ?_ | refine st_skip ?_ | refine st_ret ?_ | refine st_exit ?_ | refine st_cond_t rfl ?_ | refine st_cond_f rfl ?_ | refine st_cond rfl (fun _ => ?_) (fun _ => ?_) | refine ls_nil ?_ | refine nx_seq ?_ | refine nx_blk ?_ | refine nx_fn ?_ | refine nx_rounds ?_ | refine xt_seq ?_ | refine xt_here ?_ | refine xt_on rfl ?_ | refine xt_rounds ?_ | refine xt_cut ?_ | refine rt_seq ?_ | refine rt_blk ?_ | refine rt_rounds ?_ | refine rt_cut ?_ | (refine o1_quo rfl rfl (by omega) ?_; rw [hq]) | refine o1_maker (enc := W8) 0#64 (nw n) rfl rfl rfl rfl rfl (by omega) (by omega) (fun b2 => ?_) | refine o1_box rfl rfl (fun b1 => ?_) | refine o1_pick_t rfl rfl ?_ | refine o1_pick_f rfl rfl ?_ | refine o1_box rfl rfl (fun _ => ?_) | refine o1_add rfl rfl (by omega) ?_ | refine o1_sub rfl rfl (by omega) ?_ | refine o1_lss_t rfl rfl (by omega) ?_ | refine o1_lss_f rfl rfl (by omega) ?_ | refine o1_lss rfl rfl (fun _ => ?_) (fun _ => ?_) | refine o1_gtr_t rfl rfl (by omega) ?_ | refine o1_gtr_f rfl rfl (by omega) ?_ | refine o1_gtr rfl rfl (fun _ => ?_) (fun _ => ?_) | refine o1_maken (enc := B) 0#8 rfl rfl rfl rfl (by omega) (by omega) (by omega) (fun _ => ?_) | refine o1_buildx rfl (by simp only [buildL, putL, List.set_cons_zero, List.set_cons_succ, List.getElem?_cons_zero, List.getElem?_cons_succ, Option.getD_some, Value.cells, Nat.zero_add, Nat.reduceAdd]; rfl) (fun _ => by kernel_rfl) ?_)
  rw [← words_zero]
  refine rt_row (T := 24) (b := b2) (m := nw n) (cp := nw n) (cs := (words (List.replicate n false)).map W8) (by rw [List.length_map, words_len, List.length_replicate]) rfl (by omega) ?_
  refine rt_tmp (b1, some ⟨b2, 0, none⟩, nw n) rfl rfl rfl trivial ?_
  (try dsimp only [List.cons_append, List.nil_append, List.singleton_append, List.append_nil]); (repeat (first | exact Ent.nil | exact Ent.refl _ | (apply Ent.cons; (repeat (first | exact Sel.here | apply Sel.there)))))
theorem vec_Of (H : List Hl) (n : Nat) (ad : Option Addr) (c : Nat) (l : List Int) (hn : n ≤ 256) (h : Rs (stars H) I ad c l) :
    Spec Tryd.prog 15 [I n, .slice ad l.length c] H (fun _ : Nat × Option Addr × Nat => True) (fun r => .pointer (some ⟨r.1, 0, none⟩)) (fun r => vB r.1 n r.2.1 r.2.2 :: vR n r.2.1 r.2.2 (bitsOf n l) :: H) := by
  refine spec_pure (res := fun r : Nat × Option Addr × Nat => [vB r.1 n r.2.1 r.2.2, vR n r.2.1 r.2.2 (bitsOf n l)]) H Tryd.func15 rfl Tryd.ntmps15 (by kernel_rfl) rfl (fun W => ?_)
  have hle := h.le
  have hbg := h.big
  repeat' (first | refine ls_of rfl ?_ | refine ls_of_no ?_ | refine ls_guard_yes rfl rfl ?_ | refine ls_guard_no rfl rfl rfl rfl ?_ | refine ls_guard_un rfl rfl rfl ?_ | refine o1_move rfl ?_ | refine o1_assign rfl ?_ | refine st_seq ?_ | refine st_region ?_ | refine st_block ?_ | refine st_skip ?_ | refine st_ret ?_ | refine st_exit ?_ | refine st_cond_t rfl ?_ | refine st_cond_f rfl ?_ | refine st_cond rfl (fun _ => ?_) (fun _ => ?_) | refine ls_nil ?_ | refine nx_seq ?_ | refine nx_blk ?_ | refine nx_fn ?_ | refine nx_rounds ?_ | refine xt_seq ?_ | refine xt_here ?_ | refine xt_on rfl ?_ | refine xt_rounds ?_ | refine xt_cut ?_ | refine rt_seq ?_ | refine rt_blk ?_ | refine rt_rounds ?_ | refine rt_cut ?_ | (refine o1_call (fun _ => vec_New _ n hn) rfl (fun ⟨b1, a1, c1⟩ _ => ?_); dsimp only) | refine ox_load rfl (by rfl) ?_ | refine ox_load_enc rfl (by first | omega | (simp; omega)) ?_ | refine ox_load_any rfl (by assumption) ?_ | refine o1_len rfl ?_ | refine o1_add rfl rfl (by omega) ?_ | refine o1_lss_t rfl rfl (by omega) ?_ | refine o1_lss_f rfl rfl (by omega) ?_ | refine o1_lss rfl rfl (fun _ => ?_) (fun _ => ?_))
  refine st_loop (S := Nat) (fun i => [(5, .pointer (some ⟨b1, 0, none⟩)), (10, .slice ad l.length c), (11, I l.length), (12, I i)]) (fun i => [vB b1 n a1 c1, vR n a1 c1 (bitsOf n (l.take i)), .any (stars H)]) (fun i => i ≤ l.length) (fun i => l.length - i) 0 (Nat.zero_le _)
    (cov_cons rfl rfl (cov_cons rfl rfl (cov_cons rfl rfl (cov_cons rfl rfl cov_nil)))) (by show Ent _ [vB b1 n a1 c1, vR n a1 c1 (bitsOf n (l.take 0)), .any (stars H)]; rw [List.take_zero]; show Ent _ [vB b1 n a1 c1, vR n a1 c1 (List.replicate n false), .any (stars H)]; (try dsimp only [List.cons_append, List.nil_append, List.singleton_append, List.append_nil]); (repeat (first | exact Ent.nil | exact Ent.refl _ | (apply Ent.cons; (repeat (first | exact Sel.here | apply Sel.there)))))) ?_
  intro i hi
  by_cases hlt : i < l.length
  · have e1 : setB (bitsOf n (l.take i)) l[i] true = bitsOf n (l.take (i + 1)) := by
      rw [setB_true, ← bitsOf_snoc, List.take_succ_eq_append_getElem hlt]
    repeat' (first | refine ls_of rfl ?_ | refine ls_of_no ?_ | refine ls_guard_yes rfl rfl ?_ | refine ls_guard_no rfl rfl rfl rfl ?_ | refine ls_guard_un rfl rfl rfl ?_ | refine o1_move rfl ?_ | refine o1_assign rfl ?_ | refine st_seq ?_ | refine st_region ?_ | refine st_block ?_ | refine st_skip ?_ | refine st_ret ?_ | refine st_exit ?_ | refine st_cond_t rfl ?_ | refine st_cond_f rfl ?_ | refine st_cond rfl (fun _ => ?_) (fun _ => ?_) | refine ls_nil ?_ | refine nx_seq ?_ | refine nx_blk ?_ | refine nx_fn ?_ | refine nx_rounds ?_ | refine xt_seq ?_ | refine xt_here ?_ | refine xt_on rfl ?_ | refine xt_rounds ?_ | refine xt_cut ?_ | refine rt_seq ?_ | refine rt_blk ?_ | refine rt_rounds ?_ | refine rt_cut ?_ | refine o1_ia i rfl rfl h rfl rfl hlt ?_ | refine o1_load_ia i rfl h hlt ?_ | (refine o1_call_br b1 a1 c1 (fun _ => vec_Set _ b1 n a1 c1 (bitsOf n (l.take i)) l[i] true (bitsOf_len _ _) hn) rfl (fun _ _ => ?_); rw [e1]) | refine ox_load rfl (by rfl) ?_ | refine ox_load_enc rfl (by first | omega | (simp; omega)) ?_ | refine ox_load_any rfl (by assumption) ?_ | refine o1_len rfl ?_ | refine o1_add rfl rfl (by omega) ?_ | refine o1_lss_t rfl rfl (by omega) ?_ | refine o1_lss_f rfl rfl (by omega) ?_ | refine o1_lss rfl rfl (fun _ => ?_) (fun _ => ?_))
    refine nx_again (i + 1) (by omega) (by omega) (cov_cons rfl rfl (cov_cons rfl rfl (cov_cons rfl rfl (cov_cons rfl rfl cov_nil)))) ?_
    (try dsimp only [List.cons_append, List.nil_append, List.singleton_append, List.append_nil]); (repeat (first | exact Ent.nil | exact Ent.refl _ | (apply Ent.cons; (repeat (first | exact Sel.here | apply Sel.there)))))
  · have : i = l.length := by omega
    subst this
    repeat' (first | refine ls_of rfl ?_ | refine ls_of_no ?_ | refine ls_guard_yes rfl rfl ?_ | refine ls_guard_no rfl rfl rfl rfl ?_ | refine ls_guard_un rfl rfl rfl ?_ | refine o1_move rfl ?_ | refine o1_assign rfl ?_ | refine st_seq ?_ | refine st_region ?_ | refine st_block ?_ | refine st_skip ?_ | refine st_ret ?_ | refine st_exit ?_ | refine st_cond_t rfl ?_ | refine st_cond_f rfl ?_ | refine st_cond rfl (fun _ => ?_) (fun _ => ?_) | refine ls_nil ?_ | refine nx_seq ?_ | refine nx_blk ?_ | refine nx_fn ?_ | refine nx_rounds ?_ | refine xt_seq ?_ | refine xt_here ?_ | refine xt_on rfl ?_ | refine xt_rounds ?_ | refine xt_cut ?_ | refine rt_seq ?_ | refine rt_blk ?_ | refine rt_rounds ?_ | refine rt_cut ?_ | refine ox_load rfl (by rfl) ?_ | refine ox_load_enc rfl (by first | omega | (simp; omega)) ?_ | refine ox_load_any rfl (by assumption) ?_ | refine o1_len rfl ?_ | refine o1_add rfl rfl (by omega) ?_ | refine o1_lss_t rfl rfl (by omega) ?_ | refine o1_lss_f rfl rfl (by omega) ?_ | refine o1_lss rfl rfl (fun _ => ?_) (fun _ => ?_))
    refine rt_tmp (b1, a1, c1) rfl rfl rfl trivial ?_
    rw [List.take_length]
    (try dsimp only [List.cons_append, List.nil_append, List.singleton_append, List.append_nil]); (repeat (first | exact Ent.nil | exact Ent.refl _ | (apply Ent.cons; (repeat (first | exact Sel.here | apply Sel.there)))))
end Go.Dp

set_option linter.unusedVariables false
set_option linter.unusedSimpArgs false
namespace Go.Dp
open Go.RowKit Go.Proofs
section
variable {P : Program} {n : Nat} {H : List Hl} {e : Ev} {C : Value → List Hl → Prop} {ty t t' : TypeId} {x y : Operand} {p : Int}
theorem o1_band127 (hx : opd e x = some (.int .i64 p)) (hy : opd e y = some (.int .i64 127)) (hb : 0 ≤ p ∧ p ≤ 9223372036854775807) (h : C (.int .i64 (p % 128)) H) : O1 P (.binOp .and t x y t') ty n e H C :=
  o1_num hx hy (fun w => by
    have e1 : (p % ((2 ^ IntKind.bits .i64 : Nat) : Int)).toNat = p.toNat := by
      rw [show (2 ^ IntKind.bits .i64 : Nat) = 18446744073709551616 from rfl]; omega
    have e2 : ((127 : Int) % ((2 ^ IntKind.bits .i64 : Nat) : Int)).toNat = 127 := by rfl
    have e3 : p.toNat &&& 127 = p.toNat % 128 := Nat.and_two_pow_sub_one_eq_mod p.toNat 7
    have hw : IntKind.i64.wrap ((BitVec.ofInt (IntKind.bits .i64) p &&& BitVec.ofInt (IntKind.bits .i64) 127).toNat : Int) = p % 128 := by
      rw [BitVec.toNat_and, BitVec.toNat_ofInt, BitVec.toNat_ofInt, e1, e2, e3, wrap_in (by omega) (by omega)]
      omega
    rw [binOp_and]
    simp only [Op.intBits, Sem.run_pure]
    rw [hw]) h
end
theorem bits_OnesCount64 (H : List Hl) (x : BitVec 64) :
    Spec Tryd.prog 53 [W8 x] H (fun _ : Unit => True) (fun _ => I (popc x)) (fun _ => H) := by
  refine spec_pure (res := fun _ => []) H Tryd.func53 rfl Tryd.ntmps53 (by kernel_rfl) rfl (fun W => ?_)
  obtain ⟨y, hy⟩ : ∃ y, swar4 (swar2 (swar1 x)) = y := ⟨_, rfl⟩
  obtain ⟨z, hz⟩ : ∃ z, y + (y >>> 8) = z := ⟨_, rfl⟩
  obtain ⟨u, hu⟩ : ∃ u, z + (z >>> 16) = u := ⟨_, rfl⟩
  obtain ⟨v, hv⟩ : ∃ v, u + (u >>> 32) = v := ⟨_, rfl⟩
  obtain ⟨q1, q2⟩ := swar_popc x y z u v hy hz hu hv
  have k1 : ∀ x : BitVec 64, ((x >>> (1 : Int).toNat) &&& 0x5555555555555555#64) + (x &&& 0x5555555555555555#64) = swar1 x := fun _ => rfl
  have k2 : ∀ x : BitVec 64, ((x >>> (2 : Int).toNat) &&& 0x3333333333333333#64) + (x &&& 0x3333333333333333#64) = swar2 x := fun _ => rfl
  have k3 : ∀ x : BitVec 64, ((x >>> (4 : Int).toNat) + x) &&& 0x0f0f0f0f0f0f0f0f#64 = swar4 x := fun _ => rfl
  have k4 : y + (y >>> (8 : Int).toNat) = z := hz
  have k5 : z + (z >>> (16 : Int).toNat) = u := hu
  have k6 : u + (u >>> (32 : Int).toNat) = v := hv
  repeat' (first | refine ls_of rfl ?_ | refine ls_of_no ?_ | refine ls_guard_yes rfl rfl ?_ | refine ls_guard_no rfl rfl rfl rfl ?_ | refine ls_guard_un rfl rfl rfl ?_ | refine o1_move rfl ?_ | refine o1_assign rfl ?_ | refine st_seq ?_ | refine st_region ?_ | refine st_block ?_ | refine st_skip ?_ | refine st_ret ?_ | refine st_exit ?_ | refine st_cond_t rfl ?_ | refine st_cond_f rfl ?_ | refine st_cond rfl (fun _ => ?_) (fun _ => ?_) | refine ls_nil ?_ | refine nx_seq ?_ | refine nx_blk ?_ | refine nx_fn ?_ | refine nx_rounds ?_ | refine xt_seq ?_ | refine xt_here ?_ | refine xt_on rfl ?_ | refine xt_rounds ?_ | refine xt_cut ?_ | refine rt_seq ?_ | refine rt_blk ?_ | refine rt_rounds ?_ | refine rt_cut ?_ | (refine o1_uadd rfl rfl ?_; rw [k1]) | (refine o1_uadd rfl rfl ?_; rw [k2]) | (refine o1_uadd rfl rfl ?_; rw [k4]) | (refine o1_uadd rfl rfl ?_; rw [k5]) | (refine o1_uadd rfl rfl ?_; rw [k6]) | (refine o1_uand (v := 0x0f0f0f0f0f0f0f0f#64) rfl rfl ?_; rw [k3, hy]) | refine o1_uand (v := 0x5555555555555555#64) rfl rfl ?_ | refine o1_uand (v := 0x3333333333333333#64) rfl rfl ?_ | refine o1_band127 rfl rfl (by omega) ?_ | refine o1_uand rfl rfl ?_ | refine o1_uadd rfl rfl ?_ | refine o1_ushr rfl rfl (by omega) ?_ | refine o1_conv_i rfl (by omega) ?_ | refine o1_conv_ui rfl (by exact bv_small (by decide) _) ?_)
  refine rt_tmp () rfl rfl ?_ trivial ?_
  · congr 1; omega
  (try dsimp only [List.cons_append, List.nil_append, List.singleton_append, List.append_nil]); (repeat (first | exact Ent.nil | exact Ent.refl _ | (apply Ent.cons; (repeat (first | exact Sel.here | apply Sel.there)))))
theorem vec_Count (H : List Hl) (v : VD) (h : RdV (stars H) v) :
    Spec Tryd.prog 20 [Pv v] H (fun _ : Unit => True) (fun _ => I (countV v.l)) (fun _ => H) := by
  refine spec_pure (res := fun _ => []) H Tryd.func20 rfl Tryd.ntmps20 (by kernel_rfl) rfl (fun W => ?_)
  have h4 := nw_4 h.ok.hi
  have hwl := h.ok.words
  have hle := h.w.le
  have hbg := h.w.big
  repeat' (first | refine ls_of rfl ?_ | refine ls_of_no ?_ | refine ls_guard_yes rfl rfl ?_ | refine ls_guard_no rfl rfl rfl rfl ?_ | refine ls_guard_un rfl rfl rfl ?_ | refine o1_move rfl ?_ | refine o1_assign rfl ?_ | refine st_seq ?_ | refine st_region ?_ | refine st_block ?_ | refine st_skip ?_ | refine st_ret ?_ | refine st_exit ?_ | refine st_cond_t rfl ?_ | refine st_cond_f rfl ?_ | refine st_cond rfl (fun _ => ?_) (fun _ => ?_) | refine ls_nil ?_ | refine nx_seq ?_ | refine nx_blk ?_ | refine nx_fn ?_ | refine nx_rounds ?_ | refine xt_seq ?_ | refine xt_here ?_ | refine xt_on rfl ?_ | refine xt_rounds ?_ | refine xt_cut ?_ | refine rt_seq ?_ | refine rt_blk ?_ | refine rt_rounds ?_ | refine rt_cut ?_ | refine o1_pneq rfl rfl ?_ | refine ox_load_any rfl h.s ?_ | refine o1_fieldAddr rfl ?_ | refine ox_load rfl (by rfl) ?_ | refine ox_load_enc rfl (by first | omega | (simp; omega)) ?_ | refine ox_load_any rfl (by assumption) ?_ | refine o1_len rfl ?_ | refine o1_add rfl rfl (by omega) ?_ | refine o1_lss_t rfl rfl (by omega) ?_ | refine o1_lss_f rfl rfl (by omega) ?_ | refine o1_lss rfl rfl (fun _ => ?_) (fun _ => ?_) | refine o1_slice_nil rfl ?_ | refine o1_nilCheck rfl ?_)
  refine st_loop (S := Nat) (fun i => [(3, I (cnt (at_ v.l) (64 * i))), (11, .slice v.a (nw v.n) v.c), (12, I (nw v.n)), (13, I i)]) (fun i => [.any (stars H)]) (fun i => i ≤ nw v.n) (fun i => nw v.n - i) 0 (Nat.zero_le _)
    (cov_cons rfl rfl (cov_cons rfl rfl (cov_cons rfl rfl (cov_cons rfl rfl cov_nil)))) (Ent.refl _) ?_
  intro i hi
  by_cases hlt : i < nw v.n
  · have hw : (words v.l)[i]? = some (wordOf v.l i) := words_at? _ _ (by rw [h.ok.len]; exact hlt)
    have hcw := count_words v.l i
    have hc1 := cnt_le (at_ v.l) (64 * (i + 1))
    have e1 : ((cnt (at_ v.l) (64 * i) : Nat) : Int) + (popc (wordOf v.l i) : Nat) = (cnt (at_ v.l) (64 * (i + 1)) : Nat) := by omega
    repeat' (first | refine ls_of rfl ?_ | refine ls_of_no ?_ | refine ls_guard_yes rfl rfl ?_ | refine ls_guard_no rfl rfl rfl rfl ?_ | refine ls_guard_un rfl rfl rfl ?_ | refine o1_move rfl ?_ | refine o1_assign rfl ?_ | refine st_seq ?_ | refine st_region ?_ | refine st_block ?_ | refine st_skip ?_ | refine st_ret ?_ | refine st_exit ?_ | refine st_cond_t rfl ?_ | refine st_cond_f rfl ?_ | refine st_cond rfl (fun _ => ?_) (fun _ => ?_) | refine ls_nil ?_ | refine nx_seq ?_ | refine nx_blk ?_ | refine nx_fn ?_ | refine nx_rounds ?_ | refine xt_seq ?_ | refine xt_here ?_ | refine xt_on rfl ?_ | refine xt_rounds ?_ | refine xt_cut ?_ | refine rt_seq ?_ | refine rt_blk ?_ | refine rt_rounds ?_ | refine rt_cut ?_ | refine o1_ia i rfl rfl h.w hwl.symm rfl (by omega) ?_ | refine o1_load_av i _ rfl h.w hw ?_ | refine o1_call (fun _ => bits_OnesCount64 _ (wordOf v.l i)) rfl (fun _ _ => ?_) | (refine o1_add rfl rfl (by omega) ?_; rw [e1]) | refine o1_fieldAddr rfl ?_ | refine ox_load rfl (by rfl) ?_ | refine ox_load_enc rfl (by first | omega | (simp; omega)) ?_ | refine ox_load_any rfl (by assumption) ?_ | refine o1_len rfl ?_ | refine o1_add rfl rfl (by omega) ?_ | refine o1_lss_t rfl rfl (by omega) ?_ | refine o1_lss_f rfl rfl (by omega) ?_ | refine o1_lss rfl rfl (fun _ => ?_) (fun _ => ?_) | refine o1_slice_nil rfl ?_ | refine o1_nilCheck rfl ?_)
    refine nx_again (i + 1) (by omega) (by omega) (cov_cons rfl rfl (cov_cons rfl rfl (cov_cons rfl rfl (cov_cons rfl rfl cov_nil)))) ?_
    (try dsimp only [List.cons_append, List.nil_append, List.singleton_append, List.append_nil]); (repeat (first | exact Ent.nil | exact Ent.refl _ | (apply Ent.cons; (repeat (first | exact Sel.here | apply Sel.there)))))
  · have : i = nw v.n := by omega
    subst this
    repeat' (first | refine ls_of rfl ?_ | refine ls_of_no ?_ | refine ls_guard_yes rfl rfl ?_ | refine ls_guard_no rfl rfl rfl rfl ?_ | refine ls_guard_un rfl rfl rfl ?_ | refine o1_move rfl ?_ | refine o1_assign rfl ?_ | refine st_seq ?_ | refine st_region ?_ | refine st_block ?_ | refine st_skip ?_ | refine st_ret ?_ | refine st_exit ?_ | refine st_cond_t rfl ?_ | refine st_cond_f rfl ?_ | refine st_cond rfl (fun _ => ?_) (fun _ => ?_) | refine ls_nil ?_ | refine nx_seq ?_ | refine nx_blk ?_ | refine nx_fn ?_ | refine nx_rounds ?_ | refine xt_seq ?_ | refine xt_here ?_ | refine xt_on rfl ?_ | refine xt_rounds ?_ | refine xt_cut ?_ | refine rt_seq ?_ | refine rt_blk ?_ | refine rt_rounds ?_ | refine rt_cut ?_ | refine o1_fieldAddr rfl ?_ | refine ox_load rfl (by rfl) ?_ | refine ox_load_enc rfl (by first | omega | (simp; omega)) ?_ | refine ox_load_any rfl (by assumption) ?_ | refine o1_len rfl ?_ | refine o1_add rfl rfl (by omega) ?_ | refine o1_lss_t rfl rfl (by omega) ?_ | refine o1_lss_f rfl rfl (by omega) ?_ | refine o1_lss rfl rfl (fun _ => ?_) (fun _ => ?_) | refine o1_slice_nil rfl ?_ | refine o1_nilCheck rfl ?_)
    refine rt_tmp () rfl rfl ?_ trivial ?_
    · show I _ = I _
      congr 1
      have := count_all v.l
      rw [h.ok.len] at this
      rw [this]
    (try dsimp only [List.cons_append, List.nil_append, List.singleton_append, List.append_nil]); (repeat (first | exact Ent.nil | exact Ent.refl _ | (apply Ent.cons; (repeat (first | exact Sel.here | apply Sel.there)))))
/-- The places that are set, of the first i. -/
def listT (l : List Bool) (i : Nat) : List Int := (placesN (at_ l) i).map Int.ofNat
theorem listT_on {l : List Bool} {i : Nat} (h : at_ l i = true) : listT l (i + 1) = listT l i ++ [(i : Int)] := by rw [listT, places_succ, h]; simp [listT]
theorem listT_off {l : List Bool} {i : Nat} (h : at_ l i = false) : listT l (i + 1) = listT l i := by rw [listT, places_succ, h]; simp [listT]
theorem listT_len (l : List Bool) (i : Nat) : (listT l i).length ≤ i := by rw [listT, List.length_map, places_len]; exact cnt_le _ _
theorem vec_List (H : List Hl) (v : VD) (h : RdV (stars H) v) :
    Spec Tryd.prog 21 [Pv v] H (fun _ : Option Addr × Nat => True) (fun r => .slice r.1 (listV v.l).length r.2) (fun r => .row 3 1 (.slice r.1 (listV v.l).length r.2) (listV v.l).length ((listV v.l).map I) :: H) := by
  refine spec_pure (res := fun r : Option Addr × Nat => [.row 3 1 (.slice r.1 (listV v.l).length r.2) (listV v.l).length ((listV v.l).map I)]) H Tryd.func21 rfl Tryd.ntmps21 (by kernel_rfl) rfl (fun W => ?_)
  have hn := h.ok.hi
  repeat' (first | refine ls_of rfl ?_ | refine ls_of_no ?_ | refine ls_guard_yes rfl rfl ?_ | refine ls_guard_no rfl rfl rfl rfl ?_ | refine ls_guard_un rfl rfl rfl ?_ | refine o1_move rfl ?_ | refine o1_assign rfl ?_ | refine st_seq ?_ | refine st_region ?_ | refine st_block ?_ | refine st_skip ?_ | refine st_ret ?_ | refine st_exit ?_ | refine st_cond_t rfl ?_ | refine st_cond_f rfl ?_ | refine st_cond rfl (fun _ => ?_) (fun _ => ?_) | refine ls_nil ?_ | refine nx_seq ?_ | refine nx_blk ?_ | refine nx_fn ?_ | refine nx_rounds ?_ | refine xt_seq ?_ | refine xt_here ?_ | refine xt_on rfl ?_ | refine xt_rounds ?_ | refine xt_cut ?_ | refine rt_seq ?_ | refine rt_blk ?_ | refine rt_rounds ?_ | refine rt_cut ?_ | refine o1_call (fun _ => vec_Len _ v (cl_up h.n)) rfl (fun _ _ => ?_) | refine o1_add rfl rfl (by omega) ?_ | refine o1_lss_t rfl rfl (by omega) ?_ | refine o1_lss_f rfl rfl (by omega) ?_ | refine o1_lss rfl rfl (fun _ => ?_) (fun _ => ?_) | refine o1_lit_B rfl rfl rfl rfl rfl (fun _ => ?_) | refine ox_append rfl rfl (rx_box rfl (by first | decide | omega)) rfl rfl (fun _ => rfl) (by omega) (by omega) (fun _ _ => ?_) | refine ox_append rfl rfl (rx_any (by assumption)) rfl rfl (fun _ => rfl) (by omega) (by omega) (fun _ _ => ?_) | refine ox_append rfl rfl rx_row rfl rfl (fun _ => rfl) (by omega) (by omega) (fun _ _ => ?_))
  refine st_ent (ent_nil 3 I) ?_
  refine st_loop (S := Nat × Option Addr × Nat) (fun s => [(0, Pv v), (3, .slice s.2.1 (listT v.l s.1).length s.2.2), (6, I v.n), (7, I s.1)]) (fun s => [.row 3 1 (.slice s.2.1 (listT v.l s.1).length s.2.2) (listT v.l s.1).length ((listT v.l s.1).map I), .any (stars H)]) (fun s => s.1 ≤ v.n) (fun s => v.n - s.1) (0, none, 0) (Nat.zero_le _)
    (cov_cons rfl rfl (cov_cons rfl rfl (cov_cons rfl rfl (cov_cons rfl rfl cov_nil)))) (by show Ent _ [.row 3 1 (.slice none 0 0) 0 [], .any (stars H)]; (try dsimp only [List.cons_append, List.nil_append, List.singleton_append, List.append_nil]); (repeat (first | exact Ent.nil | exact Ent.refl _ | (apply Ent.cons; (repeat (first | exact Sel.here | apply Sel.there)))))) ?_
  rintro ⟨i, a1, c1⟩ hi
  dsimp only at hi ⊢
  have hll := listT_len v.l i
  by_cases hlt : i < v.n
  · cases hb : at_ v.l i
    · repeat' (first | refine ls_of rfl ?_ | refine ls_of_no ?_ | refine ls_guard_yes rfl rfl ?_ | refine ls_guard_no rfl rfl rfl rfl ?_ | refine ls_guard_un rfl rfl rfl ?_ | refine o1_move rfl ?_ | refine o1_assign rfl ?_ | refine st_seq ?_ | refine st_region ?_ | refine st_block ?_ | refine st_skip ?_ | refine st_ret ?_ | refine st_exit ?_ | refine st_cond_t rfl ?_ | refine st_cond_f rfl ?_ | refine st_cond rfl (fun _ => ?_) (fun _ => ?_) | refine ls_nil ?_ | refine nx_seq ?_ | refine nx_blk ?_ | refine nx_fn ?_ | refine nx_rounds ?_ | refine xt_seq ?_ | refine xt_here ?_ | refine xt_on rfl ?_ | refine xt_rounds ?_ | refine xt_cut ?_ | refine rt_seq ?_ | refine rt_blk ?_ | refine rt_rounds ?_ | refine rt_cut ?_ | refine o1_call (fun _ => (vec_Has _ v i h.up).bv (b := false) (by rw [hasV_nat, hb])) rfl (fun _ _ => ?_) | refine o1_add rfl rfl (by omega) ?_ | refine o1_lss_t rfl rfl (by omega) ?_ | refine o1_lss_f rfl rfl (by omega) ?_ | refine o1_lss rfl rfl (fun _ => ?_) (fun _ => ?_) | refine o1_lit_B rfl rfl rfl rfl rfl (fun _ => ?_) | refine ox_append rfl rfl (rx_box rfl (by first | decide | omega)) rfl rfl (fun _ => rfl) (by omega) (by omega) (fun _ _ => ?_) | refine ox_append rfl rfl (rx_any (by assumption)) rfl rfl (fun _ => rfl) (by omega) (by omega) (fun _ _ => ?_) | refine ox_append rfl rfl rx_row rfl rfl (fun _ => rfl) (by omega) (by omega) (fun _ _ => ?_))
      refine nx_again (i + 1, a1, c1) (by show i + 1 ≤ v.n; omega) (by show v.n - (i + 1) < v.n - i; omega) (cov_cons rfl rfl (cov_cons rfl ?_ (cov_cons rfl rfl (cov_cons rfl rfl cov_nil)))) ?_
      · show Value.slice a1 _ c1 = Value.slice a1 (listT v.l (i + 1)).length c1
        rw [listT_off hb]
      · show Ent _ [.row 3 1 (.slice a1 (listT v.l (i + 1)).length c1) (listT v.l (i + 1)).length ((listT v.l (i + 1)).map I), .any (stars H)]
        rw [listT_off hb]
        (try dsimp only [List.cons_append, List.nil_append, List.singleton_append, List.append_nil]); (repeat (first | exact Ent.nil | exact Ent.refl _ | (apply Ent.cons; (repeat (first | exact Sel.here | apply Sel.there)))))
    · repeat' (first | refine ls_of rfl ?_ | refine ls_of_no ?_ | refine ls_guard_yes rfl rfl ?_ | refine ls_guard_no rfl rfl rfl rfl ?_ | refine ls_guard_un rfl rfl rfl ?_ | refine o1_move rfl ?_ | refine o1_assign rfl ?_ | refine st_seq ?_ | refine st_region ?_ | refine st_block ?_ | refine st_skip ?_ | refine st_ret ?_ | refine st_exit ?_ | refine st_cond_t rfl ?_ | refine st_cond_f rfl ?_ | refine st_cond rfl (fun _ => ?_) (fun _ => ?_) | refine ls_nil ?_ | refine nx_seq ?_ | refine nx_blk ?_ | refine nx_fn ?_ | refine nx_rounds ?_ | refine xt_seq ?_ | refine xt_here ?_ | refine xt_on rfl ?_ | refine xt_rounds ?_ | refine xt_cut ?_ | refine rt_seq ?_ | refine rt_blk ?_ | refine rt_rounds ?_ | refine rt_cut ?_ | refine o1_call (fun _ => (vec_Has _ v i h.up).bv (b := true) (by rw [hasV_nat, hb])) rfl (fun _ _ => ?_) | refine o1_lit_enc I [(i : Int)] rfl rfl rfl (fun _ => rfl) rfl rfl rfl (fun b3 => ?_) | refine ox_append (xs := listT v.l i) (ys := [(i : Int)]) rfl rfl (rx_box rfl (by decide)) rfl rfl (fun _ => rfl) (by omega) (by omega) (fun a4 c4 => ?_) | refine o1_add rfl rfl (by omega) ?_ | refine o1_lss_t rfl rfl (by omega) ?_ | refine o1_lss_f rfl rfl (by omega) ?_ | refine o1_lss rfl rfl (fun _ => ?_) (fun _ => ?_) | refine o1_lit_B rfl rfl rfl rfl rfl (fun _ => ?_) | refine ox_append rfl rfl (rx_box rfl (by first | decide | omega)) rfl rfl (fun _ => rfl) (by omega) (by omega) (fun _ _ => ?_) | refine ox_append rfl rfl (rx_any (by assumption)) rfl rfl (fun _ => rfl) (by omega) (by omega) (fun _ _ => ?_) | refine ox_append rfl rfl rx_row rfl rfl (fun _ => rfl) (by omega) (by omega) (fun _ _ => ?_))
      refine nx_again (i + 1, a4, c4) (by show i + 1 ≤ v.n; omega) (by show v.n - (i + 1) < v.n - i; omega) (cov_cons rfl rfl (cov_cons rfl ?_ (cov_cons rfl rfl (cov_cons rfl rfl cov_nil)))) ?_
      · show _ = Value.slice a4 (listT v.l (i + 1)).length c4
        rw [listT_on hb, List.length_append]
        rfl
      · show Ent _ [.row 3 1 (.slice a4 (listT v.l (i + 1)).length c4) (listT v.l (i + 1)).length ((listT v.l (i + 1)).map I), .any (stars H)]
        rw [listT_on hb, List.length_append]
        (try dsimp only [List.cons_append, List.nil_append, List.singleton_append, List.append_nil]); (repeat (first | exact Ent.nil | exact Ent.refl _ | (apply Ent.cons; (repeat (first | exact Sel.here | apply Sel.there)))))
  · have : i = v.n := by omega
    subst this
    have e1 : listT v.l v.n = listV v.l := by rw [listT, listV, h.ok.len]
    rw [e1]
    repeat' (first | refine ls_of rfl ?_ | refine ls_of_no ?_ | refine ls_guard_yes rfl rfl ?_ | refine ls_guard_no rfl rfl rfl rfl ?_ | refine ls_guard_un rfl rfl rfl ?_ | refine o1_move rfl ?_ | refine o1_assign rfl ?_ | refine st_seq ?_ | refine st_region ?_ | refine st_block ?_ | refine st_skip ?_ | refine st_ret ?_ | refine st_exit ?_ | refine st_cond_t rfl ?_ | refine st_cond_f rfl ?_ | refine st_cond rfl (fun _ => ?_) (fun _ => ?_) | refine ls_nil ?_ | refine nx_seq ?_ | refine nx_blk ?_ | refine nx_fn ?_ | refine nx_rounds ?_ | refine xt_seq ?_ | refine xt_here ?_ | refine xt_on rfl ?_ | refine xt_rounds ?_ | refine xt_cut ?_ | refine rt_seq ?_ | refine rt_blk ?_ | refine rt_rounds ?_ | refine rt_cut ?_ | refine o1_add rfl rfl (by omega) ?_ | refine o1_lss_t rfl rfl (by omega) ?_ | refine o1_lss_f rfl rfl (by omega) ?_ | refine o1_lss rfl rfl (fun _ => ?_) (fun _ => ?_) | refine o1_lit_B rfl rfl rfl rfl rfl (fun _ => ?_) | refine ox_append rfl rfl (rx_box rfl (by first | decide | omega)) rfl rfl (fun _ => rfl) (by omega) (by omega) (fun _ _ => ?_) | refine ox_append rfl rfl (rx_any (by assumption)) rfl rfl (fun _ => rfl) (by omega) (by omega) (fun _ _ => ?_) | refine ox_append rfl rfl rx_row rfl rfl (fun _ => rfl) (by omega) (by omega) (fun _ _ => ?_))
    refine rt_tmp (a1, c1) rfl rfl rfl trivial ?_
    (try dsimp only [List.cons_append, List.nil_append, List.singleton_append, List.append_nil]); (repeat (first | exact Ent.nil | exact Ent.refl _ | (apply Ent.cons; (repeat (first | exact Sel.here | apply Sel.there)))))
end Go.Dp

set_option linter.unusedVariables false
set_option linter.unusedSimpArgs false
namespace Go.Dp
open Go.RowKit Go.Proofs
def vP (v : VD) : List Hl := [vB v.b v.n v.a v.c, vR v.n v.a v.c v.l]
/-- Each of these rows stands by itself. -/
def vecs (vs : List VD) : Hp → Prop := stars (vs.flatMap vP)
theorem vecs_nil {R : List Hl} : ∀ h, stars R h → stars (.any (vecs []) :: R) h := fun h hh => ⟨fun _ => none, h, fun _ => .inl rfl, fun _ _ e => (by cases e), .refl _, trivial, hh⟩
theorem vecs_push {vs : List VD} {v : VD} {R : List Hl} : ∀ h, stars (vB v.b v.n v.a v.c :: vR v.n v.a v.c v.l :: .any (vecs vs) :: R) h → stars (.any (vecs (vs ++ [v])) :: R) h := fun h hh => by
  have h1 := sep_assoc' (sep_mono hh (fun _ a => a) (fun _ a => sep_assoc' a))
  refine sep_mono h1 (fun h' x => ?_) (fun _ a => a)
  show stars ((vs ++ [v]).flatMap vP) h'
  rw [List.flatMap_append]
  refine stars_append' _ _ _ (sep_mono (sep_comm (sep_assoc' x)) (fun _ a => a) fun h2 y => ?_)
  show stars [vB v.b v.n v.a v.c, vR v.n v.a v.c v.l] h2
  exact sep_mono y (fun _ a => a) (fun h3 z => ⟨h3, fun _ => none, fun _ => .inr rfl, .refl _, fun _ _ e => (by cases e), z, trivial⟩)
theorem vecs_read {vs : List VD} {v : VD} {H H' : List Hl} [sa : SAny H (vecs vs) H'] (hm : v ∈ vs) (hk : v.ok) (hh : Has H) : RdV (stars H) v := by
  have key : ∀ w, sat w (stars H) → sat w (stars (vs.flatMap vP)) := fun w hw => sel_sat sa.s w hw
  have m1 : vB v.b v.n v.a v.c ∈ vs.flatMap vP := List.mem_flatMap.2 ⟨v, hm, by simp [vP]⟩
  have m2 : vR v.n v.a v.c v.l ∈ vs.flatMap vP := List.mem_flatMap.2 ⟨v, hm, by simp [vP]⟩
  obtain ⟨L1, s1⟩ := sel_mem m1
  obtain ⟨L2, s2⟩ := sel_mem m2
  refine ⟨⟨fun w hw => ?_⟩, ⟨fun w hw => ?_⟩, ?_, hk⟩
  · rw [(key w hw).cell s1 0]; rfl
  · rw [(key w hw).cell s1 1]; rfl
  · obtain ⟨w, hw⟩ := hh
    exact (Rs.of_row s2 w (key w hw)).unvals.mono key
theorem vecs_all {vs : List VD} {H H' : List Hl} [sa : SAny H (vecs vs) H'] (hk : ∀ v ∈ vs, v.ok) (hh : Has H) : ∀ v ∈ vs, RdV (stars H) v := fun v hm => vecs_read hm (hk v hm) hh
theorem nx_vec {P : Program} {k : Kon} {n : Nat} {e : Ev} {W : World} {H : List Hl} {vs : List VD} (v : VD) {R : List Hl} (hE : Ent H (vB v.b v.n v.a v.c :: vR v.n v.a v.c v.l :: .any (vecs vs) :: R)) (h : Nx P k n e W (.any (vecs (vs ++ [v])) :: R)) : Nx P k n e W H := nx_ent (fun h hh => vecs_push h (hE.out h hh)) h
end Go.Dp

set_option linter.unusedVariables false
set_option linter.unusedSimpArgs false
namespace Go.Dp
open Go.RowKit Go.Proofs
/-- The table of the library's, as it was laid. -/
structure TabF (A : Hp → Prop) : Prop where
  c : ∀ j, j < 64 → Cl A ⟨0, j, none⟩ (.int .u8 ((Go.Lib.deBruijn64tab.getD j 0 : Nat) : Int))
theorem TabF.up {A : Hp → Prop} {H H' : List Hl} (h : TabF A) [s : SAny H A H'] : TabF (stars H) := ⟨fun j hj => cl_up (h.c j hj)⟩
section
variable {P : Program} {n : Nat} {H : List Hl} {e : Ev} {C : Value → List Hl → Prop} {ty t : TypeId} {x : Operand} {u : BitVec 64}
theorem o1_neg64 (hx : opd e x = some (.int .u64 u.toNat)) (h : C (.int .u64 (-u).toNat) H) : O1 P (.unOp .neg t x) ty n e H C :=
  o1_val _ (fun a w ho => by
    have hw : IntKind.u64.wrap (-(u.toNat : Int)) = ((-u).toNat : Int) := by
      rw [IntKind.wrap_u64, BitVec.toNat_neg]
      omega
    simp [execOp, ho.ev.eval hx, unary_neg, Op.intArith, hw]) h
end
theorem tz_key (x : BitVec 64) (h0 : x ≠ 0#64) : ∃ k idx : Nat, k < 64 ∧ idx < 64 ∧ k = Go.Lib.ctz 64 x.toNat ∧ (((x &&& -x) * 285870213051353865#64) >>> 58).toNat = idx ∧ Go.Lib.deBruijn64tab.getD idx 0 = k := by
  have hx : x.toNat ≠ 0 := fun e => h0 (BitVec.eq_of_toNat_eq (by simpa using e))
  obtain ⟨hlow, hk⟩ := Go.Lib.lowest_bit 64 x.toNat hx x.isLt
  obtain ⟨hi, htab⟩ := Go.Lib.deBruijn64_at _ hk
  refine ⟨_, _, hk, hi, rfl, ?_, htab⟩
  have e1 : (-x).toNat = 2 ^ 64 - x.toNat := by
    rw [BitVec.toNat_neg]
    have := x.isLt
    omega
  rw [BitVec.toNat_ushiftRight, BitVec.toNat_mul, BitVec.toNat_and, e1, hlow, Nat.shiftRight_eq_div_pow]
  rfl
theorem bits_TZ64 (H : List Hl) (x : BitVec 64) (h0 : x ≠ 0#64) (ht : TabF (stars H)) :
    Spec Tryd.prog 63 [W8 x] H (fun _ : Unit => True) (fun _ => I (Go.Lib.ctz 64 x.toNat)) (fun _ => H) := by
  refine spec_pure (res := fun _ => []) H Tryd.func63 rfl Tryd.ntmps63 (by kernel_rfl) rfl (fun W => ?_)
  have hx : ¬ (x.toNat : Int) = 0 := fun e => h0 (BitVec.eq_of_toNat_eq (by simp; omega))
  obtain ⟨k, idx, h1, h2, h3, h4, h5⟩ := tz_key x h0
  have hc := ht.c idx h2
  rw [h5] at hc
  have h6 : 0 + ((((x &&& -x) * 285870213051353865#64) >>> (58 : Int).toNat).toNat : Int).toNat * 1 = idx := by
    rw [show (58 : Int).toNat = 58 from rfl, h4]; omega
  have h7 : 0 ≤ ((((x &&& -x) * 285870213051353865#64) >>> (58 : Int).toNat).toNat : Int) ∧ ((((x &&& -x) * 285870213051353865#64) >>> (58 : Int).toNat).toNat : Int) < (64 : Nat) := by
    rw [show (58 : Int).toNat = 58 from rfl, h4]; omega
  repeat' (first | refine ls_of rfl ?_ | refine ls_of_no ?_ | refine ls_guard_yes rfl rfl ?_ | refine ls_guard_no rfl rfl rfl rfl ?_ | refine ls_guard_un rfl rfl rfl ?_ | refine o1_move rfl ?_ | refine o1_assign rfl ?_ | refine st_seq ?_ | refine st_region ?_ | refine st_block ?_ | refine st_skip ?_ | refine st_ret ?_ | refine st_exit ?_ | refine st_cond_t rfl ?_ | refine st_cond_f rfl ?_ | refine st_cond rfl (fun _ => ?_) (fun _ => ?_) | refine ls_nil ?_ | refine nx_seq ?_ | refine nx_blk ?_ | refine nx_fn ?_ | refine nx_rounds ?_ | refine xt_seq ?_ | refine xt_here ?_ | refine xt_on rfl ?_ | refine xt_rounds ?_ | refine xt_cut ?_ | refine rt_seq ?_ | refine rt_blk ?_ | refine rt_rounds ?_ | refine rt_cut ?_ | refine o1_eql_f rfl rfl hx ?_ | refine o1_neg64 rfl ?_ | refine o1_umul (v := 285870213051353865#64) rfl rfl ?_ | (refine o1_indexAddr_arr rfl rfl h7 ?_; rw [h6]) | refine ox_load_any rfl hc ?_ | refine ox_load rfl (by rfl) ?_ | refine ox_load_enc rfl (by first | omega | (simp; omega)) ?_ | refine ox_load_any rfl (by assumption) ?_ | refine o1_eql_t rfl rfl (by omega) ?_ | refine o1_eql_f rfl rfl (by omega) ?_ | refine o1_eql rfl rfl (fun _ => ?_) (fun _ => ?_) | refine o1_bnot rfl ?_ | refine o1_uand rfl rfl ?_ | refine o1_umul rfl rfl ?_ | refine o1_ushr rfl rfl (by omega) ?_ | refine o1_unot rfl ?_ | refine o1_conv_i rfl (by omega) ?_ | refine o1_conv_ui rfl (by exact bv_small (by decide) _) ?_)
  refine rt_tmp () rfl rfl ?_ trivial ?_
  · rw [h3]
  (try dsimp only [List.cons_append, List.nil_append, List.singleton_append, List.append_nil]); (repeat (first | exact Ent.nil | exact Ent.refl _ | (apply Ent.cons; (repeat (first | exact Sel.here | apply Sel.there)))))
theorem vec_First (H : List Hl) (v : VD) (h : RdV (stars H) v) (ht : TabF (stars H)) :
    Spec Tryd.prog 36 [Pv v] H (fun _ : Unit => True) (fun _ => I (firstV v.l)) (fun _ => H) := by
  refine spec_pure (res := fun _ => []) H Tryd.func36 rfl Tryd.ntmps36 (by kernel_rfl) rfl (fun W => ?_)
  have h4 := nw_4 h.ok.hi
  have hwl := h.ok.words
  have hle := h.w.le
  have hbg := h.w.big
  repeat' (first | refine ls_of rfl ?_ | refine ls_of_no ?_ | refine ls_guard_yes rfl rfl ?_ | refine ls_guard_no rfl rfl rfl rfl ?_ | refine ls_guard_un rfl rfl rfl ?_ | refine o1_move rfl ?_ | refine o1_assign rfl ?_ | refine st_seq ?_ | refine st_region ?_ | refine st_block ?_ | refine st_skip ?_ | refine st_ret ?_ | refine st_exit ?_ | refine st_cond_t rfl ?_ | refine st_cond_f rfl ?_ | refine st_cond rfl (fun _ => ?_) (fun _ => ?_) | refine ls_nil ?_ | refine nx_seq ?_ | refine nx_blk ?_ | refine nx_fn ?_ | refine nx_rounds ?_ | refine xt_seq ?_ | refine xt_here ?_ | refine xt_on rfl ?_ | refine xt_rounds ?_ | refine xt_cut ?_ | refine rt_seq ?_ | refine rt_blk ?_ | refine rt_rounds ?_ | refine rt_cut ?_ | refine o1_peql rfl rfl ?_ | refine ox_load_any rfl h.s ?_ | refine o1_fieldAddr rfl ?_ | refine ox_load rfl (by rfl) ?_ | refine ox_load_enc rfl (by first | omega | (simp; omega)) ?_ | refine ox_load_any rfl (by assumption) ?_ | refine o1_len rfl ?_ | refine o1_add rfl rfl (by omega) ?_ | refine o1_lss_t rfl rfl (by omega) ?_ | refine o1_lss_f rfl rfl (by omega) ?_ | refine o1_lss rfl rfl (fun _ => ?_) (fun _ => ?_) | refine o1_neq_t rfl rfl (by omega) ?_ | refine o1_neq_f rfl rfl (by omega) ?_ | refine o1_neq rfl rfl (fun _ => ?_) (fun _ => ?_) | refine o1_slice_nil rfl ?_ | refine o1_nilCheck rfl ?_)
  refine st_loop (S := Nat) (fun i => [(10, .slice v.a (nw v.n) v.c), (11, I (nw v.n)), (12, I i)]) (fun i => [.any (stars H)]) (fun i => i ≤ nw v.n ∧ ∀ j, j < 64 * i → at_ v.l j = false) (fun i => nw v.n - i) 0 ⟨Nat.zero_le _, by omega⟩
    (cov_cons rfl rfl (cov_cons rfl rfl (cov_cons rfl rfl cov_nil))) (Ent.refl _) ?_
  rintro i ⟨hi, hno⟩
  by_cases hlt : i < nw v.n
  · have hw : (words v.l)[i]? = some (wordOf v.l i) := words_at? _ _ (by rw [h.ok.len]; exact hlt)
    by_cases hz : wordOf v.l i = 0#64
    · have hz0 : ((wordOf v.l i).toNat : Int) = 0 := by rw [hz]; rfl
      repeat' (first | refine ls_of rfl ?_ | refine ls_of_no ?_ | refine ls_guard_yes rfl rfl ?_ | refine ls_guard_no rfl rfl rfl rfl ?_ | refine ls_guard_un rfl rfl rfl ?_ | refine o1_move rfl ?_ | refine o1_assign rfl ?_ | refine st_seq ?_ | refine st_region ?_ | refine st_block ?_ | refine st_skip ?_ | refine st_ret ?_ | refine st_exit ?_ | refine st_cond_t rfl ?_ | refine st_cond_f rfl ?_ | refine st_cond rfl (fun _ => ?_) (fun _ => ?_) | refine ls_nil ?_ | refine nx_seq ?_ | refine nx_blk ?_ | refine nx_fn ?_ | refine nx_rounds ?_ | refine xt_seq ?_ | refine xt_here ?_ | refine xt_on rfl ?_ | refine xt_rounds ?_ | refine xt_cut ?_ | refine rt_seq ?_ | refine rt_blk ?_ | refine rt_rounds ?_ | refine rt_cut ?_ | refine o1_ia i rfl rfl h.w hwl.symm rfl (by omega) ?_ | refine o1_load_av i _ rfl h.w hw ?_ | refine o1_neq_f rfl rfl hz0 ?_ | refine o1_fieldAddr rfl ?_ | refine ox_load rfl (by rfl) ?_ | refine ox_load_enc rfl (by first | omega | (simp; omega)) ?_ | refine ox_load_any rfl (by assumption) ?_ | refine o1_len rfl ?_ | refine o1_add rfl rfl (by omega) ?_ | refine o1_lss_t rfl rfl (by omega) ?_ | refine o1_lss_f rfl rfl (by omega) ?_ | refine o1_lss rfl rfl (fun _ => ?_) (fun _ => ?_) | refine o1_neq_t rfl rfl (by omega) ?_ | refine o1_neq_f rfl rfl (by omega) ?_ | refine o1_neq rfl rfl (fun _ => ?_) (fun _ => ?_) | refine o1_slice_nil rfl ?_ | refine o1_nilCheck rfl ?_)
      refine nx_again (i + 1) ⟨by omega, ?_⟩ (by omega) (cov_cons rfl rfl (cov_cons rfl rfl (cov_cons rfl rfl cov_nil))) (Ent.refl _)
      intro j hj
      by_cases hj2 : j < 64 * i
      · exact hno j hj2
      · exact word_eq_zero hz j (by omega) hj
    · have hz0 : ((wordOf v.l i).toNat : Int) ≠ 0 := fun e => hz (BitVec.eq_of_toNat_eq (by simp; omega))
      obtain ⟨f1, f2⟩ := first_word hz hno
      repeat' (first | refine ls_of rfl ?_ | refine ls_of_no ?_ | refine ls_guard_yes rfl rfl ?_ | refine ls_guard_no rfl rfl rfl rfl ?_ | refine ls_guard_un rfl rfl rfl ?_ | refine o1_move rfl ?_ | refine o1_assign rfl ?_ | refine st_seq ?_ | refine st_region ?_ | refine st_block ?_ | refine st_skip ?_ | refine st_ret ?_ | refine st_exit ?_ | refine st_cond_t rfl ?_ | refine st_cond_f rfl ?_ | refine st_cond rfl (fun _ => ?_) (fun _ => ?_) | refine ls_nil ?_ | refine nx_seq ?_ | refine nx_blk ?_ | refine nx_fn ?_ | refine nx_rounds ?_ | refine xt_seq ?_ | refine xt_here ?_ | refine xt_on rfl ?_ | refine xt_rounds ?_ | refine xt_cut ?_ | refine rt_seq ?_ | refine rt_blk ?_ | refine rt_rounds ?_ | refine rt_cut ?_ | refine o1_ia i rfl rfl h.w hwl.symm rfl (by omega) ?_ | refine o1_load_av i _ rfl h.w hw ?_ | refine o1_neq_t rfl rfl hz0 ?_ | refine o1_mul rfl rfl (by omega) ?_ | refine o1_call (fun _ => bits_TZ64 _ (wordOf v.l i) hz ht.up) rfl (fun _ _ => ?_) | refine o1_fieldAddr rfl ?_ | refine ox_load rfl (by rfl) ?_ | refine ox_load_enc rfl (by first | omega | (simp; omega)) ?_ | refine ox_load_any rfl (by assumption) ?_ | refine o1_len rfl ?_ | refine o1_add rfl rfl (by omega) ?_ | refine o1_lss_t rfl rfl (by omega) ?_ | refine o1_lss_f rfl rfl (by omega) ?_ | refine o1_lss rfl rfl (fun _ => ?_) (fun _ => ?_) | refine o1_neq_t rfl rfl (by omega) ?_ | refine o1_neq_f rfl rfl (by omega) ?_ | refine o1_neq rfl rfl (fun _ => ?_) (fun _ => ?_) | refine o1_slice_nil rfl ?_ | refine o1_nilCheck rfl ?_)
      refine rt_tmp () rfl rfl ?_ trivial ?_
      · show I _ = I _
        congr 1
        omega
      (try dsimp only [List.cons_append, List.nil_append, List.singleton_append, List.append_nil]); (repeat (first | exact Ent.nil | exact Ent.refl _ | (apply Ent.cons; (repeat (first | exact Sel.here | apply Sel.there)))))
  · have : i = nw v.n := by omega
    subst this
    repeat' (first | refine ls_of rfl ?_ | refine ls_of_no ?_ | refine ls_guard_yes rfl rfl ?_ | refine ls_guard_no rfl rfl rfl rfl ?_ | refine ls_guard_un rfl rfl rfl ?_ | refine o1_move rfl ?_ | refine o1_assign rfl ?_ | refine st_seq ?_ | refine st_region ?_ | refine st_block ?_ | refine st_skip ?_ | refine st_ret ?_ | refine st_exit ?_ | refine st_cond_t rfl ?_ | refine st_cond_f rfl ?_ | refine st_cond rfl (fun _ => ?_) (fun _ => ?_) | refine ls_nil ?_ | refine nx_seq ?_ | refine nx_blk ?_ | refine nx_fn ?_ | refine nx_rounds ?_ | refine xt_seq ?_ | refine xt_here ?_ | refine xt_on rfl ?_ | refine xt_rounds ?_ | refine xt_cut ?_ | refine rt_seq ?_ | refine rt_blk ?_ | refine rt_rounds ?_ | refine rt_cut ?_ | refine o1_fieldAddr rfl ?_ | refine ox_load rfl (by rfl) ?_ | refine ox_load_enc rfl (by first | omega | (simp; omega)) ?_ | refine ox_load_any rfl (by assumption) ?_ | refine o1_len rfl ?_ | refine o1_add rfl rfl (by omega) ?_ | refine o1_lss_t rfl rfl (by omega) ?_ | refine o1_lss_f rfl rfl (by omega) ?_ | refine o1_lss rfl rfl (fun _ => ?_) (fun _ => ?_) | refine o1_neq_t rfl rfl (by omega) ?_ | refine o1_neq_f rfl rfl (by omega) ?_ | refine o1_neq rfl rfl (fun _ => ?_) (fun _ => ?_) | refine o1_slice_nil rfl ?_ | refine o1_nilCheck rfl ?_)
    refine rt_tmp () rfl rfl ?_ trivial ?_
    · rw [firstV_none (l := v.l) (fun j hj => hno j (by rw [h.ok.len] at hj; unfold nw; omega))]
    (try dsimp only [List.cons_append, List.nil_append, List.singleton_append, List.append_nil]); (repeat (first | exact Ent.nil | exact Ent.refl _ | (apply Ent.cons; (repeat (first | exact Sel.here | apply Sel.there)))))
theorem vec_Bytes (H : List Hl) (v : VD) (h : RdV (stars H) v) :
    Spec Tryd.prog 37 [Pv v] H (fun _ : Nat => True) (fun b => .slice (some ⟨b, 0, none⟩) (nb v.n) (nb v.n)) (fun b => .box b 5 ((bytesV v.l).map B) :: H) := by
  refine spec_pure (res := fun b : Nat => [.box b 5 ((bytesV v.l).map B)]) H Tryd.func37 rfl Tryd.ntmps37 (by kernel_rfl) rfl (fun W => ?_)
  have h256 := h.ok.hi
  have hwl := h.ok.words
  have hnb : nb v.n ≤ 32 := by unfold nb; omega
  have hq : ((v.n : Int) + 7) / 8 = (nb v.n : Nat) := by unfold nb; omega
  obtain ⟨R, hR⟩ : ∃ R, bytesV v.l = R := ⟨_, rfl⟩
  have hRl : R.length = nb v.n := by rw [← hR, bytesV_len, h.ok.len]
  have hz : R.length = (List.replicate (nb v.n) 0#8).length := by rw [hRl, List.length_replicate]
  rw [hR]
  repeat' (first | refine ls_of rfl ?_ | refine ls_of_no ?_ | refine ls_guard_yes rfl rfl ?_ | refine ls_guard_no rfl rfl rfl rfl ?_ | refine ls_guard_un rfl rfl rfl ?_ | refine o1_move rfl ?_ | refine o1_assign rfl ?_ | refine st_seq ?_ | refine st_region ?_ | refine st_block ?_ | refine st_skip ?_ | refine st_ret ?_ | refine st_exit ?_ | refine st_cond_t rfl ?_ | refine st_cond_f rfl ?_ | refine st_cond rfl (fun _ => ?_) (fun _ => ?_) | refine ls_nil ?_ | refine nx_seq ?_ | refine nx_blk ?_ | refine nx_fn ?_ | refine nx_rounds ?_ | refine xt_seq ?_ | refine xt_here ?_ | refine xt_on rfl ?_ | refine xt_rounds ?_ | refine xt_cut ?_ | refine rt_seq ?_ | refine rt_blk ?_ | refine rt_rounds ?_ | refine rt_cut ?_ | refine o1_peql rfl rfl ?_ | refine ox_load_any rfl h.n ?_ | (refine o1_quo rfl rfl (by omega) ?_; rw [hq]) | refine o1_maker (enc := B) 0#8 (nb v.n) rfl rfl rfl rfl rfl (by omega) (by omega) (fun b3 => ?_) | refine o1_fieldAddr rfl ?_ | refine ox_load rfl (by rfl) ?_ | refine ox_load_enc rfl (by first | omega | (simp; omega)) ?_ | refine ox_load_any rfl (by assumption) ?_ | refine o1_len rfl ?_ | refine o1_add rfl rfl (by omega) ?_ | refine o1_lss_t rfl rfl (by omega) ?_ | refine o1_lss_f rfl rfl (by omega) ?_ | refine o1_lss rfl rfl (fun _ => ?_) (fun _ => ?_) | refine o1_ushr rfl rfl (by omega) ?_ | refine o1_conv_uu rfl ?_ | refine o1_rem_nn rfl rfl (by omega) ?_ | refine o1_maken (enc := B) 0#8 rfl rfl rfl rfl (by omega) (by omega) (by omega) (fun _ => ?_) | refine o1_slice_nil rfl ?_ | refine ox_store_enc B rfl rfl (by first | omega | (simp; done) | (simp; omega)) rfl ?_ | refine ox_stores rfl rfl (by first | omega | (simp; done) | (simp; omega)) rfl (by first | (simp only [List.set_cons_zero, List.set_cons_succ, Nat.zero_add, Nat.reduceAdd]; rfl) | rfl) ?_ | refine o1_nilCheck rfl ?_)
  refine st_loop (S := Nat) (fun i => [(0, Pv v), (3, .slice (some ⟨b3, 0, none⟩) (nb v.n) (nb v.n)), (15, I (nb v.n)), (16, I i)]) (fun i => [.box b3 5 ((partL R (List.replicate (nb v.n) 0#8) i).map B), .any (stars H)]) (fun i => i ≤ nb v.n) (fun i => nb v.n - i) 0 (Nat.zero_le _)
    (cov_cons rfl rfl (cov_cons rfl rfl (cov_cons rfl rfl (cov_cons rfl rfl cov_nil)))) (by show Ent _ [.box b3 5 ((partL R (List.replicate (nb v.n) 0#8) 0).map B), .any (stars H)]; rw [partL_zero]; (try dsimp only [List.cons_append, List.nil_append, List.singleton_append, List.append_nil]); (repeat (first | exact Ent.nil | exact Ent.refl _ | (apply Ent.cons; (repeat (first | exact Sel.here | apply Sel.there)))))) ?_
  intro i hi
  by_cases hlt : i < nb v.n
  · have hql := partL_len hz i
    rw [List.length_replicate] at hql
    have hka : i < (partL R (List.replicate (nb v.n) 0#8) i).length := by omega
    have hset : (partL R (List.replicate (nb v.n) 0#8) i).set i (R[i]'(by omega)) = partL R (List.replicate (nb v.n) 0#8) (i + 1) := partL_succ hz (by omega)
    have hk : i * 8 / 64 < nw v.n := nw_nb hlt
    have hw : (words v.l)[i * 8 / 64]? = some (wordOf v.l (i * 8 / 64)) := words_at? _ _ (by rw [h.ok.len]; exact hk)
    have hsh : ((i : Int) * 8 % 64).toNat = i * 8 % 64 := by omega
    have hby : (wordOf v.l (i * 8 / 64) >>> (i * 8 % 64)).setWidth 8 = R[i]'(by omega) := by
      rw [byte_word]; subst hR; rw [bytesV_at]
    repeat' (first | refine ls_of rfl ?_ | refine ls_of_no ?_ | refine ls_guard_yes rfl rfl ?_ | refine ls_guard_no rfl rfl rfl rfl ?_ | refine ls_guard_un rfl rfl rfl ?_ | refine o1_move rfl ?_ | refine o1_assign rfl ?_ | refine st_seq ?_ | refine st_region ?_ | refine st_block ?_ | refine st_skip ?_ | refine st_ret ?_ | refine st_exit ?_ | refine st_cond_t rfl ?_ | refine st_cond_f rfl ?_ | refine st_cond rfl (fun _ => ?_) (fun _ => ?_) | refine ls_nil ?_ | refine nx_seq ?_ | refine nx_blk ?_ | refine nx_fn ?_ | refine nx_rounds ?_ | refine xt_seq ?_ | refine xt_here ?_ | refine xt_on rfl ?_ | refine xt_rounds ?_ | refine xt_cut ?_ | refine rt_seq ?_ | refine rt_blk ?_ | refine rt_rounds ?_ | refine rt_cut ?_ | refine ox_load_any rfl h.s ?_ | refine o1_mul rfl rfl (by omega) ?_ | refine o1_quo rfl rfl (by omega) ?_ | refine o1_ia (i * 8 / 64) rfl rfl h.w hwl.symm (by omega) (by omega) ?_ | refine o1_load_av (i * 8 / 64) _ rfl h.w hw ?_ | (refine o1_ushr rfl rfl (by omega) ?_; rw [hsh]) | (refine o1_conv_uu (m' := 8) rfl ?_; rw [hby]) | refine o1_own i rfl rfl rfl hlt ?_ | (refine ox_store_enc B (l := partL R (List.replicate (nb v.n) 0#8) i) rfl rfl hka rfl ?_; rw [hset]) | refine o1_fieldAddr rfl ?_ | refine ox_load rfl (by rfl) ?_ | refine ox_load_enc rfl (by first | omega | (simp; omega)) ?_ | refine ox_load_any rfl (by assumption) ?_ | refine o1_len rfl ?_ | refine o1_add rfl rfl (by omega) ?_ | refine o1_lss_t rfl rfl (by omega) ?_ | refine o1_lss_f rfl rfl (by omega) ?_ | refine o1_lss rfl rfl (fun _ => ?_) (fun _ => ?_) | refine o1_ushr rfl rfl (by omega) ?_ | refine o1_conv_uu rfl ?_ | refine o1_rem_nn rfl rfl (by omega) ?_ | refine o1_maken (enc := B) 0#8 rfl rfl rfl rfl (by omega) (by omega) (by omega) (fun _ => ?_) | refine o1_slice_nil rfl ?_ | refine ox_store_enc B rfl rfl (by first | omega | (simp; done) | (simp; omega)) rfl ?_ | refine ox_stores rfl rfl (by first | omega | (simp; done) | (simp; omega)) rfl (by first | (simp only [List.set_cons_zero, List.set_cons_succ, Nat.zero_add, Nat.reduceAdd]; rfl) | rfl) ?_ | refine o1_nilCheck rfl ?_)
    refine nx_again (i + 1) (by omega) (by omega) (cov_cons rfl rfl (cov_cons rfl rfl (cov_cons rfl rfl (cov_cons rfl rfl cov_nil)))) ?_
    (try dsimp only [List.cons_append, List.nil_append, List.singleton_append, List.append_nil]); (repeat (first | exact Ent.nil | exact Ent.refl _ | (apply Ent.cons; (repeat (first | exact Sel.here | apply Sel.there)))))
  · have : i = nb v.n := by omega
    subst this
    rw [partL_full hz (by rw [List.length_replicate])]
    repeat' (first | refine ls_of rfl ?_ | refine ls_of_no ?_ | refine ls_guard_yes rfl rfl ?_ | refine ls_guard_no rfl rfl rfl rfl ?_ | refine ls_guard_un rfl rfl rfl ?_ | refine o1_move rfl ?_ | refine o1_assign rfl ?_ | refine st_seq ?_ | refine st_region ?_ | refine st_block ?_ | refine st_skip ?_ | refine st_ret ?_ | refine st_exit ?_ | refine st_cond_t rfl ?_ | refine st_cond_f rfl ?_ | refine st_cond rfl (fun _ => ?_) (fun _ => ?_) | refine ls_nil ?_ | refine nx_seq ?_ | refine nx_blk ?_ | refine nx_fn ?_ | refine nx_rounds ?_ | refine xt_seq ?_ | refine xt_here ?_ | refine xt_on rfl ?_ | refine xt_rounds ?_ | refine xt_cut ?_ | refine rt_seq ?_ | refine rt_blk ?_ | refine rt_rounds ?_ | refine rt_cut ?_ | refine o1_fieldAddr rfl ?_ | refine ox_load rfl (by rfl) ?_ | refine ox_load_enc rfl (by first | omega | (simp; omega)) ?_ | refine ox_load_any rfl (by assumption) ?_ | refine o1_len rfl ?_ | refine o1_add rfl rfl (by omega) ?_ | refine o1_lss_t rfl rfl (by omega) ?_ | refine o1_lss_f rfl rfl (by omega) ?_ | refine o1_lss rfl rfl (fun _ => ?_) (fun _ => ?_) | refine o1_ushr rfl rfl (by omega) ?_ | refine o1_conv_uu rfl ?_ | refine o1_rem_nn rfl rfl (by omega) ?_ | refine o1_maken (enc := B) 0#8 rfl rfl rfl rfl (by omega) (by omega) (by omega) (fun _ => ?_) | refine o1_slice_nil rfl ?_ | refine ox_store_enc B rfl rfl (by first | omega | (simp; done) | (simp; omega)) rfl ?_ | refine ox_stores rfl rfl (by first | omega | (simp; done) | (simp; omega)) rfl (by first | (simp only [List.set_cons_zero, List.set_cons_succ, Nat.zero_add, Nat.reduceAdd]; rfl) | rfl) ?_ | refine o1_nilCheck rfl ?_)
    refine rt_tmp b3 rfl rfl rfl trivial ?_
    (try dsimp only [List.cons_append, List.nil_append, List.singleton_append, List.append_nil]); (repeat (first | exact Ent.nil | exact Ent.refl _ | (apply Ent.cons; (repeat (first | exact Sel.here | apply Sel.there)))))
end Go.Dp

set_option linter.unusedVariables false
set_option linter.unusedSimpArgs false
namespace Go.Dp
open Go.RowKit Go.Proofs
def rtV4s_0 : List Row := [⟨some 14, [], [], none⟩, ⟨some 15, [0], [0], none⟩, ⟨some 16, [1], [0, 1], none⟩, ⟨some 17, [2], [0, 1, 2], none⟩, ⟨some 18, [], [], none⟩, ⟨some 19, [4], [4], none⟩, ⟨some 20, [5], [4, 5], none⟩, ⟨some 21, [6], [4, 5, 6], none⟩, ⟨some 22, [3, 7], [0, 1, 2, 3, 4, 5, 6, 7], none⟩, ⟨some 23, [8], [0, 1, 2, 3, 4, 5, 6, 7, 8], none⟩, ⟨some 24, [9], [0, 1, 2, 3, 4, 5, 6, 7, 8, 9], some (9, true)⟩, ⟨some 25, [10, 9], [0, 1, 2, 3, 4, 5, 6, 7, 8, 9, 10], some (9, true)⟩, ⟨some 26, [11, 9], [0, 1, 2, 3, 4, 5, 6, 7, 8, 9, 10, 11], some (9, true)⟩, ⟨some 27, [12, 9], [0, 1, 2, 3, 4, 5, 6, 7, 8, 9, 10, 11, 12], some (9, true)⟩, ⟨some 28, [9], [0, 1, 2, 3, 4, 5, 6, 7, 8, 9], some (9, true)⟩, ⟨some 29, [14, 9], [0, 1, 2, 3, 4, 5, 6, 7, 8, 9, 14], some (9, true)⟩, ⟨some 30, [15, 9], [0, 1, 2, 3, 4, 5, 6, 7, 8, 9, 14, 15], some (9, true)⟩, ⟨some 31, [16, 9], [0, 1, 2, 3, 4, 5, 6, 7, 8, 9, 14, 15, 16], some (9, true)⟩, ⟨some 32, [13, 17, 9, 9], [0, 1, 2, 3, 4, 5, 6, 7, 8, 9, 10, 11, 12, 13, 14, 15, 16, 17], some (9, true)⟩, ⟨some 33, [9, 18], [0, 1, 2, 3, 4, 5, 6, 7, 8, 9, 10, 11, 12, 13, 14, 15, 16, 17, 18], none⟩, ⟨some 4, [19, 18, 0, 1, 2, 3, 4, 5, 6, 7, 8, 9, 10, 11, 12, 13, 14, 15, 16, 17, 18, 19], [0, 1, 2, 3, 4, 5, 6, 7, 8, 9, 10, 11, 12, 13, 14, 15, 16, 17, 18, 19], none⟩]
def rtV4s_1 : List Row := [⟨some 14, [], [], none⟩, ⟨some 15, [0], [0], none⟩, ⟨some 16, [1], [0, 1], none⟩, ⟨some 17, [2], [0, 1, 2], none⟩, ⟨some 18, [], [], none⟩, ⟨some 19, [4], [4], none⟩, ⟨some 20, [5], [4, 5], none⟩, ⟨some 21, [6], [4, 5, 6], none⟩, ⟨some 22, [3, 7], [0, 1, 2, 3, 4, 5, 6, 7], none⟩, ⟨some 23, [8], [0, 1, 2, 3, 4, 5, 6, 7, 8], none⟩, ⟨some 24, [9], [0, 1, 2, 3, 4, 5, 6, 7, 8, 9], some (9, true)⟩, ⟨some 25, [10, 9], [0, 1, 2, 3, 4, 5, 6, 7, 8, 9, 10], some (9, true)⟩, ⟨some 26, [11, 9], [0, 1, 2, 3, 4, 5, 6, 7, 8, 9, 10, 11], some (9, true)⟩, ⟨some 27, [12, 9], [0, 1, 2, 3, 4, 5, 6, 7, 8, 9, 10, 11, 12], some (9, true)⟩, ⟨some 28, [9], [0, 1, 2, 3, 4, 5, 6, 7, 8, 9], some (9, true)⟩, ⟨some 29, [14, 9], [0, 1, 2, 3, 4, 5, 6, 7, 8, 9, 14], some (9, true)⟩, ⟨some 30, [15, 9], [0, 1, 2, 3, 4, 5, 6, 7, 8, 9, 14, 15], some (9, true)⟩, ⟨some 31, [16, 9], [0, 1, 2, 3, 4, 5, 6, 7, 8, 9, 14, 15, 16], some (9, true)⟩, ⟨some 32, [13, 17, 9, 9], [0, 1, 2, 3, 4, 5, 6, 7, 8, 9, 10, 11, 12, 13, 14, 15, 16, 17], some (9, true)⟩, ⟨some 33, [9, 18], [0, 1, 2, 3, 4, 5, 6, 7, 8, 9, 10, 11, 12, 13, 14, 15, 16, 17, 18], none⟩, ⟨some 4, [19, 18, 0, 1, 2, 3, 4, 5, 6, 7, 8, 9, 10, 11, 12, 13, 14, 15, 16, 17, 18, 19], [0, 1, 2, 3, 4, 5, 6, 7, 8, 9, 10, 11, 12, 13, 14, 15, 16, 17, 18, 19], none⟩]
theorem slices_Equal8 (H : List Hl) (ad ad' : Option Addr) (c c' m0 n0 : Nat) (l m : List (BitVec 64)) (h1 : Rs (stars H) W8 ad c l) (h2 : Rs (stars H) W8 ad' c' m) (hl0 : m0 = l.length) (hm0 : n0 = m.length) :
    Spec Tryd.prog 52 [.slice ad m0 c, .slice ad' n0 c'] H (fun _ : Unit => True) (fun _ => .bool (decide (l = m))) (fun _ => H) := by
  subst hl0 hm0
  have b1 := h1.le
  have b2 := h1.big
  refine spec_pure (res := fun _ => []) H Tryd.func52 rfl Tryd.ntmps52 (by kernel_rfl) rfl (fun W => ?_)
  repeat' (first | refine ls_of rfl ?_ | refine ls_of_no ?_ | refine ls_guard_yes rfl rfl ?_ | refine ls_guard_no rfl rfl rfl rfl ?_ | refine ls_guard_un rfl rfl rfl ?_ | refine o1_move rfl ?_ | refine o1_assign rfl ?_ | refine st_seq ?_ | refine st_region ?_ | refine st_block ?_ | refine st_skip ?_ | refine st_ret ?_ | refine st_exit ?_ | refine st_cond_t rfl ?_ | refine st_cond_f rfl ?_ | refine st_cond rfl (fun _ => ?_) (fun _ => ?_) | refine ls_nil ?_ | refine nx_seq ?_ | refine nx_blk ?_ | refine nx_fn ?_ | refine nx_rounds ?_ | refine xt_seq ?_ | refine xt_here ?_ | refine xt_on rfl ?_ | refine xt_rounds ?_ | refine xt_cut ?_ | refine rt_seq ?_ | refine rt_blk ?_ | refine rt_rounds ?_ | refine rt_cut ?_ | refine ox_load rfl (by rfl) ?_ | refine ox_load_enc rfl (by first | omega | (simp; omega)) ?_ | refine ox_load_any rfl (by assumption) ?_ | refine o1_len rfl ?_ | refine o1_add rfl rfl (by omega) ?_ | refine o1_lss_t rfl rfl (by omega) ?_ | refine o1_lss_f rfl rfl (by omega) ?_ | refine o1_lss rfl rfl (fun _ => ?_) (fun _ => ?_) | refine o1_neq_t rfl rfl (by omega) ?_ | refine o1_neq_f rfl rfl (by omega) ?_ | refine o1_neq rfl rfl (fun _ => ?_) (fun _ => ?_))
  · rename_i hlen
    refine rt_tmp () rfl rfl ?_ trivial (Ent.refl _)
    simp; intro e; subst e; omega
  rename_i hlen
  have hlen : l.length = m.length := by omega
  refine st_loop (S := Nat) (fun i => [(0, .slice ad l.length c), (1, .slice ad' m.length c'), (12, .int .i64 l.length), (13, .int .i64 i)]) (fun _ => [.any (stars H)]) (fun i => i ≤ l.length ∧ l.take i = m.take i) (fun i => l.length - i) 0 ⟨by omega, by simp⟩
    (cov_cons rfl rfl (cov_cons rfl rfl (cov_cons rfl rfl (cov_cons rfl rfl cov_nil)))) (Ent.refl _) ?_
  rintro i ⟨hi, hpre⟩
  repeat' (first | refine ls_of rfl ?_ | refine ls_of_no ?_ | refine ls_guard_yes rfl rfl ?_ | refine ls_guard_no rfl rfl rfl rfl ?_ | refine ls_guard_un rfl rfl rfl ?_ | refine o1_move rfl ?_ | refine o1_assign rfl ?_ | refine st_seq ?_ | refine st_region ?_ | refine st_block ?_ | refine st_skip ?_ | refine st_ret ?_ | refine st_exit ?_ | refine st_cond_t rfl ?_ | refine st_cond_f rfl ?_ | refine st_cond rfl (fun _ => ?_) (fun _ => ?_) | refine ls_nil ?_ | refine nx_seq ?_ | refine nx_blk ?_ | refine nx_fn ?_ | refine nx_rounds ?_ | refine xt_seq ?_ | refine xt_here ?_ | refine xt_on rfl ?_ | refine xt_rounds ?_ | refine xt_cut ?_ | refine rt_seq ?_ | refine rt_blk ?_ | refine rt_rounds ?_ | refine rt_cut ?_ | refine ox_load rfl (by rfl) ?_ | refine ox_load_enc rfl (by first | omega | (simp; omega)) ?_ | refine ox_load_any rfl (by assumption) ?_ | refine o1_len rfl ?_ | refine o1_add rfl rfl (by omega) ?_ | refine o1_lss_t rfl rfl (by omega) ?_ | refine o1_lss_f rfl rfl (by omega) ?_ | refine o1_lss rfl rfl (fun _ => ?_) (fun _ => ?_) | refine o1_neq_t rfl rfl (by omega) ?_ | refine o1_neq_f rfl rfl (by omega) ?_ | refine o1_neq rfl rfl (fun _ => ?_) (fun _ => ?_))
  · rename_i hlt
    have hlt : i < l.length := by omega
    apply st_draw [(0, _), (5, _), (1, _)] [.c _, .c _, .p (fun v => ∃ a, v = .pointer (some a) ∧ Cl (stars H) a (W8 l[i])) (fun _ => []), .c _, .c _, .c _, .p (fun v => ∃ a, v = .pointer (some a) ∧ Cl (stars H) a (W8 m[i])) (fun _ => []), .c _, .c _] [⟨some 16, [], [], none⟩, ⟨some 17, [], [], none⟩, ⟨some 18, [0, 1], [0, 1], none⟩, ⟨some 19, [2], [0, 1, 2], none⟩, ⟨some 20, [], [], none⟩, ⟨some 21, [], [], none⟩, ⟨some 22, [4, 5], [4, 5], none⟩, ⟨some 23, [6], [4, 5, 6], none⟩, ⟨some 24, [3, 7], [0, 1, 2, 3, 4, 5, 6, 7], none⟩] mixed (cov_cons rfl rfl (cov_cons rfl rfl (cov_cons rfl rfl cov_nil))) (by kernel_rfl) (by kernel_rfl) (by kernel_rfl) (obl_cons ?d6_o0 (obl_cons ?d6_o1 (obl_cons ?d6_o2 (obl_cons ?d6_o3 (obl_cons ?d6_o4 (obl_cons ?d6_o5 (obl_cons ?d6_o6 (obl_cons ?d6_o7 (obl_cons ?d6_o8 obl_nil))))))))) ?d6_nx
    case d6_o0 => refine obl_run rfl (gd_none rfl) (fun _ => ?_); refine allv_nil ?_; dsimp only [List.cons_append, List.nil_append, List.singleton_append, List.append_nil, blk]; (first | refine o1_move rfl ?_); all_goals (exact ⟨rfl, fun _ h => h⟩)
    case d6_o1 => refine obl_run rfl (gd_none rfl) (fun _ => ?_); refine allv_nil ?_; dsimp only [List.cons_append, List.nil_append, List.singleton_append, List.append_nil, blk]; (first | refine o1_move rfl ?_); all_goals (exact ⟨rfl, fun _ h => h⟩)
    case d6_o2 => refine obl_run rfl (gd_none rfl) (fun _ => ?_); refine allv_c rfl rfl ?_; refine allv_c rfl rfl ?_; refine allv_nil ?_; dsimp only [List.cons_append, List.nil_append, List.singleton_append, List.append_nil, blk]; (refine o1_indexAddr_rd rfl rfl h1 i rfl hlt (fun a ha => ⟨⟨a, rfl, ha⟩, fun _ h => h⟩)); all_goals (first | exact ⟨⟨rfl⟩, fun _ h => h⟩ | exact ⟨⟨_, rfl⟩, fun _ h => h⟩ | exact ⟨⟨_, _, rfl⟩, fun _ h => h⟩ | exact ⟨⟨_, _, _, rfl⟩, fun _ h => h⟩)
    case d6_o3 => refine obl_run rfl (gd_none rfl) (fun _ => ?_); refine allv_c rfl rfl ?_; refine allv_c rfl rfl ?_; refine allv_p rfl rfl ?_; rintro _ ⟨_,rfl,_⟩; refine allv_nil ?_; dsimp only [List.cons_append, List.nil_append, List.singleton_append, List.append_nil, blk]; (first | refine ox_load rfl (by rfl) ?_ | refine ox_load_enc rfl (by first | omega | (simp; omega)) ?_ | refine ox_load_any rfl (by assumption) ?_); all_goals (exact ⟨rfl, fun _ h => h⟩)
    case d6_o4 => refine obl_run rfl (gd_none rfl) (fun _ => ?_); refine allv_nil ?_; dsimp only [List.cons_append, List.nil_append, List.singleton_append, List.append_nil, blk]; (first | refine o1_move rfl ?_); all_goals (exact ⟨rfl, fun _ h => h⟩)
    case d6_o5 => refine obl_run rfl (gd_none rfl) (fun _ => ?_); refine allv_nil ?_; dsimp only [List.cons_append, List.nil_append, List.singleton_append, List.append_nil, blk]; (first | refine o1_move rfl ?_); all_goals (exact ⟨rfl, fun _ h => h⟩)
    case d6_o6 => refine obl_run rfl (gd_none rfl) (fun _ => ?_); refine allv_c rfl rfl ?_; refine allv_c rfl rfl ?_; refine allv_nil ?_; dsimp only [List.cons_append, List.nil_append, List.singleton_append, List.append_nil, blk]; (refine o1_indexAddr_rd rfl rfl h2 i rfl (by omega) (fun a ha => ⟨⟨a, rfl, ha⟩, fun _ h => h⟩)); all_goals (first | exact ⟨⟨rfl⟩, fun _ h => h⟩ | exact ⟨⟨_, rfl⟩, fun _ h => h⟩ | exact ⟨⟨_, _, rfl⟩, fun _ h => h⟩ | exact ⟨⟨_, _, _, rfl⟩, fun _ h => h⟩)
    case d6_o7 => refine obl_run rfl (gd_none rfl) (fun _ => ?_); refine allv_c rfl rfl ?_; refine allv_c rfl rfl ?_; refine allv_p rfl rfl ?_; rintro _ ⟨_,rfl,_⟩; refine allv_nil ?_; dsimp only [List.cons_append, List.nil_append, List.singleton_append, List.append_nil, blk]; (first | refine ox_load rfl (by rfl) ?_ | refine ox_load_enc rfl (by first | omega | (simp; omega)) ?_ | refine ox_load_any rfl (by assumption) ?_); all_goals (exact ⟨rfl, fun _ h => h⟩)
    case d6_o8 => refine obl_run rfl (gd_none rfl) (fun _ => ?_); refine allv_c rfl rfl ?_; refine allv_c rfl rfl ?_; refine allv_p rfl rfl ?_; rintro _ ⟨_,rfl,_⟩; refine allv_c rfl rfl ?_; refine allv_c rfl rfl ?_; refine allv_c rfl rfl ?_; refine allv_p rfl rfl ?_; rintro _ ⟨_,rfl,_⟩; refine allv_c rfl rfl ?_; refine allv_nil ?_; dsimp only [List.cons_append, List.nil_append, List.singleton_append, List.append_nil, blk]; (first | refine o1_neq_t rfl rfl (by omega) ?_ | refine o1_neq_f rfl rfl (by omega) ?_ | refine o1_neq_d rfl rfl ?_); all_goals (exact ⟨rfl, fun _ h => h⟩)
    case d6_nx =>
      refine allv_c rfl rfl ?_; refine allv_c rfl rfl ?_; refine allv_p rfl rfl ?_; rintro _ ⟨_,rfl,_⟩; refine allv_c rfl rfl ?_; refine allv_c rfl rfl ?_; refine allv_c rfl rfl ?_; refine allv_p rfl rfl ?_; rintro _ ⟨_,rfl,_⟩; refine allv_c rfl rfl ?_; refine allv_c rfl rfl ?_; refine allv_nil ?_; dsimp only [List.cons_append, List.nil_append, List.singleton_append, List.append_nil, blk]
      repeat' (first | refine ls_of rfl ?_ | refine ls_of_no ?_ | refine ls_guard_yes rfl rfl ?_ | refine ls_guard_no rfl rfl rfl rfl ?_ | refine ls_guard_un rfl rfl rfl ?_ | refine o1_move rfl ?_ | refine o1_assign rfl ?_ | refine st_seq ?_ | refine st_region ?_ | refine st_block ?_ | refine st_skip ?_ | refine st_ret ?_ | refine st_exit ?_ | refine st_cond_t rfl ?_ | refine st_cond_f rfl ?_ | refine st_cond rfl (fun _ => ?_) (fun _ => ?_) | refine ls_nil ?_ | refine nx_seq ?_ | refine nx_blk ?_ | refine nx_fn ?_ | refine nx_rounds ?_ | refine xt_seq ?_ | refine xt_here ?_ | refine xt_on rfl ?_ | refine xt_rounds ?_ | refine xt_cut ?_ | refine rt_seq ?_ | refine rt_blk ?_ | refine rt_rounds ?_ | refine rt_cut ?_ | refine ox_load rfl (by rfl) ?_ | refine ox_load_enc rfl (by first | omega | (simp; omega)) ?_ | refine ox_load_any rfl (by assumption) ?_ | refine o1_len rfl ?_ | refine o1_add rfl rfl (by omega) ?_ | refine o1_lss_t rfl rfl (by omega) ?_ | refine o1_lss_f rfl rfl (by omega) ?_ | refine o1_lss rfl rfl (fun _ => ?_) (fun _ => ?_) | refine o1_neq_t rfl rfl (by omega) ?_ | refine o1_neq_f rfl rfl (by omega) ?_ | refine o1_neq rfl rfl (fun _ => ?_) (fun _ => ?_))
      · rename_i hne
        refine rt_tmp () rfl rfl ?_ trivial (Ent.refl _)
        simp at hne ⊢
        rintro rfl
        exact hne rfl
      · rename_i heq
        simp at heq
        refine nx_again (i + 1) ⟨by omega, ?_⟩ (by omega) (cov_cons rfl rfl (cov_cons rfl rfl (cov_cons rfl rfl (cov_cons rfl rfl cov_nil)))) (Ent.refl _)
        rw [List.take_succ_eq_append_getElem hlt, List.take_succ_eq_append_getElem (by omega : i < m.length), hpre, BitVec.eq_of_toNat_eq (by omega : l[i].toNat = m[i].toNat)]
  · refine rt_tmp () rfl rfl ?_ trivial (Ent.refl _)
    have : i = l.length := by omega
    subst this
    rw [List.take_length, List.take_of_length_le (by omega)] at hpre
    simp [hpre]
theorem same_words {v w : VD} (hv : v.ok) (hw : w.ok) (hn : v.n = w.n) : decide (words v.l = words w.l) = decide (v.l = w.l) := by
  have hl : v.l.length = w.l.length := by rw [hv.len, hw.len, hn]
  by_cases h : v.l = w.l
  · simp [h]
  · have : ¬ words v.l = words w.l := fun e => h (words_inj hl e)
    simp [h, this]
theorem vec_Same (H : List Hl) (v w : VD) (h1 : RdV (stars H) v) (h2 : RdV (stars H) w) :
    Spec Tryd.prog 19 [Pv v, Pv w] H (fun _ : Unit => True) (fun _ => .bool (decide (v.l = w.l))) (fun _ => H) := by
  refine spec_pure (res := fun _ => []) H Tryd.func19 rfl Tryd.ntmps19 (by kernel_rfl) rfl (fun W => ?_)
  have e1 := h1.n
  have e2 := h2.n
  have e3 := h1.s
  have e4 := h2.s
  by_cases hn : v.n = w.n
  · repeat' (first | refine ls_of rfl ?_ | refine ls_of_no ?_ | refine ls_guard_yes rfl rfl ?_ | refine ls_guard_no rfl rfl rfl rfl ?_ | refine ls_guard_un rfl rfl rfl ?_ | refine o1_move rfl ?_ | refine o1_assign rfl ?_ | refine st_seq ?_ | refine st_region ?_ | refine st_block ?_ | refine st_skip ?_ | refine st_ret ?_ | refine st_exit ?_ | refine st_cond_t rfl ?_ | refine st_cond_f rfl ?_ | refine st_cond rfl (fun _ => ?_) (fun _ => ?_) | refine ls_nil ?_ | refine nx_seq ?_ | refine nx_blk ?_ | refine nx_fn ?_ | refine nx_rounds ?_ | refine xt_seq ?_ | refine xt_here ?_ | refine xt_on rfl ?_ | refine xt_rounds ?_ | refine xt_cut ?_ | refine rt_seq ?_ | refine rt_blk ?_ | refine rt_rounds ?_ | refine rt_cut ?_ | refine o1_peql rfl rfl ?_ | refine o1_pick_t rfl rfl ?_ | refine o1_pick_f rfl rfl ?_ | refine o1_fieldAddr rfl ?_ | refine ox_load rfl (by rfl) ?_ | refine ox_load_enc rfl (by first | omega | (simp; omega)) ?_ | refine ox_load_any rfl (by assumption) ?_ | refine o1_eql_t rfl rfl (by omega) ?_ | refine o1_eql_f rfl rfl (by omega) ?_ | refine o1_eql rfl rfl (fun _ => ?_) (fun _ => ?_) | refine o1_slice_nil rfl ?_ | refine o1_nilCheck rfl ?_)
    refine st_stages [(0, _), (1, _)] rtV4s_0 [18] [⟨[0, 1, 2, 3, 4, 5, 6, 7, 8, 9, 10, 11, 12, 13, 14, 15, 16, 17], [], some 18⟩, ⟨[19, 20], [], none⟩] mixed (cov_cons rfl rfl (cov_cons rfl rfl cov_nil)) (by kernel_rfl) (by kernel_rfl) ?_
    all_goals refine wk_ch ?_
    all_goals (refine xp1 0 rfl rfl rfl rfl (by refine o1_move rfl fz) ?_)
    all_goals (refine xp1 14 rfl rfl rfl rfl (by refine o1_nilCheck rfl fz) ?_)
    all_goals (refine xp1 15 rfl rfl rfl rfl (by refine o1_fieldAddr rfl fz) ?_)
    all_goals (refine xp1 16 rfl rfl rfl rfl (by first | refine ox_load_any rfl e1 fz | refine ox_load_any rfl e2 fz | refine ox_load_any rfl e3 fz | refine ox_load_any rfl e4 fz | refine ox_load rfl (by rfl) fz | refine ox_load_enc rfl (by first | omega | (simp; omega)) fz | refine ox_load_any rfl (by assumption) fz) ?_)
    all_goals (refine xp1 1 rfl rfl rfl rfl (by refine o1_move rfl fz) ?_)
    all_goals (refine xp1 18 rfl rfl rfl rfl (by refine o1_nilCheck rfl fz) ?_)
    all_goals (refine xp1 19 rfl rfl rfl rfl (by refine o1_fieldAddr rfl fz) ?_)
    all_goals (refine xp1 20 rfl rfl rfl rfl (by first | refine ox_load_any rfl e1 fz | refine ox_load_any rfl e2 fz | refine ox_load_any rfl e3 fz | refine ox_load_any rfl e4 fz | refine ox_load rfl (by rfl) fz | refine ox_load_enc rfl (by first | omega | (simp; omega)) fz | refine ox_load_any rfl (by assumption) fz) ?_)
    all_goals (refine xp2 17 21 rfl rfl rfl rfl rfl (by first | refine o1_eql_t rfl rfl (by omega) fz | refine o1_eql_t rfl rfl (by omega) fz | refine o1_eql_f rfl rfl (by omega) fz | refine o1_eql_d rfl rfl fz) ?_)
    all_goals (refine xp1 22 rfl rfl rfl rfl (by refine o1_move rfl fz) ?_)
    all_goals first | (refine xpo1 rfl rfl rfl rfl ?_) | (refine xpo2 rfl rfl rfl rfl ?_) | (refine xpg1 0 rfl rfl rfl rfl rfl rfl (by refine o1_move rfl fz) ?_)
    all_goals first | (refine xpo1 rfl rfl rfl rfl ?_) | (refine xpo2 rfl rfl rfl rfl ?_) | (refine xpg1 24 rfl rfl rfl rfl rfl rfl (by refine o1_nilCheck rfl fz) ?_)
    all_goals first | (refine xpo1 rfl rfl rfl rfl ?_) | (refine xpo2 rfl rfl rfl rfl ?_) | (refine xpg1 25 rfl rfl rfl rfl rfl rfl (by refine o1_fieldAddr rfl fz) ?_)
    all_goals first | (refine xpo1 rfl rfl rfl rfl ?_) | (refine xpo2 rfl rfl rfl rfl ?_) | (refine xpg1 26 rfl rfl rfl rfl rfl rfl (by first | refine ox_load_any rfl e1 fz | refine ox_load_any rfl e2 fz | refine ox_load_any rfl e3 fz | refine ox_load_any rfl e4 fz | refine ox_load rfl (by rfl) fz | refine ox_load_enc rfl (by first | omega | (simp; omega)) fz | refine ox_load_any rfl (by assumption) fz) ?_)
    all_goals first | (refine xpo1 rfl rfl rfl rfl ?_) | (refine xpo2 rfl rfl rfl rfl ?_) | (refine xpg1 1 rfl rfl rfl rfl rfl rfl (by refine o1_move rfl fz) ?_)
    all_goals first | (refine xpo1 rfl rfl rfl rfl ?_) | (refine xpo2 rfl rfl rfl rfl ?_) | (refine xpg1 28 rfl rfl rfl rfl rfl rfl (by refine o1_nilCheck rfl fz) ?_)
    all_goals first | (refine xpo1 rfl rfl rfl rfl ?_) | (refine xpo2 rfl rfl rfl rfl ?_) | (refine xpg1 29 rfl rfl rfl rfl rfl rfl (by refine o1_fieldAddr rfl fz) ?_)
    all_goals first | (refine xpo1 rfl rfl rfl rfl ?_) | (refine xpo2 rfl rfl rfl rfl ?_) | (refine xpg1 30 rfl rfl rfl rfl rfl rfl (by first | refine ox_load_any rfl e1 fz | refine ox_load_any rfl e2 fz | refine ox_load_any rfl e3 fz | refine ox_load_any rfl e4 fz | refine ox_load rfl (by rfl) fz | refine ox_load_enc rfl (by first | omega | (simp; omega)) fz | refine ox_load_any rfl (by assumption) fz) ?_)
    all_goals refine op_nil ?_
    all_goals refine re_nil ?_
    all_goals first | (refine ch_off rfl (by first | exact gd_o1 rfl rfl rfl | exact gd_o2 rfl rfl rfl) ?_) | (refine ch_run (E' := [(27, _), (31, _)]) rfl (gd_r1 rfl rfl rfl) rfl (cov_cons rfl rfl (cov_cons rfl rfl cov_nil)) ?_; (first | (refine o1_call (fun _ => slices_Equal8 _ _ _ _ _ _ _ (words v.l) (words w.l) (Rs.up h1.w) (Rs.up h2.w) h1.ok.words.symm h2.ok.words.symm) rfl (fun _ _ => ?_); rw [same_words h1.ok h2.ok hn])))
    all_goals refine wk_end ?_
    all_goals (refine xp2 23 32 rfl rfl rfl rfl rfl (by first | refine o1_pick_t rfl rfl fz | refine o1_pick_f rfl rfl fz) ?_)
    all_goals (refine xp1 33 rfl rfl rfl rfl (by refine o1_assign rfl fz) ?_)
    all_goals refine op_nil ?_
    all_goals refine re_nil ?_
    all_goals dsimp only [List.cons_append, List.nil_append]
    repeat' (first | refine ls_of rfl ?_ | refine ls_of_no ?_ | refine ls_guard_yes rfl rfl ?_ | refine ls_guard_no rfl rfl rfl rfl ?_ | refine ls_guard_un rfl rfl rfl ?_ | refine o1_move rfl ?_ | refine o1_assign rfl ?_ | refine st_seq ?_ | refine st_region ?_ | refine st_block ?_ | refine st_skip ?_ | refine st_ret ?_ | refine st_exit ?_ | refine st_cond_t rfl ?_ | refine st_cond_f rfl ?_ | refine st_cond rfl (fun _ => ?_) (fun _ => ?_) | refine ls_nil ?_ | refine nx_seq ?_ | refine nx_blk ?_ | refine nx_fn ?_ | refine nx_rounds ?_ | refine xt_seq ?_ | refine xt_here ?_ | refine xt_on rfl ?_ | refine xt_rounds ?_ | refine xt_cut ?_ | refine rt_seq ?_ | refine rt_blk ?_ | refine rt_rounds ?_ | refine rt_cut ?_ | refine o1_pick_t rfl rfl ?_ | refine o1_pick_f rfl rfl ?_ | refine o1_fieldAddr rfl ?_ | refine ox_load rfl (by rfl) ?_ | refine ox_load_enc rfl (by first | omega | (simp; omega)) ?_ | refine ox_load_any rfl (by assumption) ?_ | refine o1_eql_t rfl rfl (by omega) ?_ | refine o1_eql_f rfl rfl (by omega) ?_ | refine o1_eql rfl rfl (fun _ => ?_) (fun _ => ?_) | refine o1_slice_nil rfl ?_ | refine o1_nilCheck rfl ?_)
    refine rt_tmp () rfl rfl rfl trivial ?_
    (try dsimp only [List.cons_append, List.nil_append, List.singleton_append, List.append_nil]); (repeat (first | exact Ent.nil | exact Ent.refl _ | (apply Ent.cons; (repeat (first | exact Sel.here | apply Sel.there)))))
  · repeat' (first | refine ls_of rfl ?_ | refine ls_of_no ?_ | refine ls_guard_yes rfl rfl ?_ | refine ls_guard_no rfl rfl rfl rfl ?_ | refine ls_guard_un rfl rfl rfl ?_ | refine o1_move rfl ?_ | refine o1_assign rfl ?_ | refine st_seq ?_ | refine st_region ?_ | refine st_block ?_ | refine st_skip ?_ | refine st_ret ?_ | refine st_exit ?_ | refine st_cond_t rfl ?_ | refine st_cond_f rfl ?_ | refine st_cond rfl (fun _ => ?_) (fun _ => ?_) | refine ls_nil ?_ | refine nx_seq ?_ | refine nx_blk ?_ | refine nx_fn ?_ | refine nx_rounds ?_ | refine xt_seq ?_ | refine xt_here ?_ | refine xt_on rfl ?_ | refine xt_rounds ?_ | refine xt_cut ?_ | refine rt_seq ?_ | refine rt_blk ?_ | refine rt_rounds ?_ | refine rt_cut ?_ | refine o1_peql rfl rfl ?_ | refine o1_pick_t rfl rfl ?_ | refine o1_pick_f rfl rfl ?_ | refine o1_fieldAddr rfl ?_ | refine ox_load rfl (by rfl) ?_ | refine ox_load_enc rfl (by first | omega | (simp; omega)) ?_ | refine ox_load_any rfl (by assumption) ?_ | refine o1_eql_t rfl rfl (by omega) ?_ | refine o1_eql_f rfl rfl (by omega) ?_ | refine o1_eql rfl rfl (fun _ => ?_) (fun _ => ?_) | refine o1_slice_nil rfl ?_ | refine o1_nilCheck rfl ?_)
    refine st_stages [(0, _), (1, _)] rtV4s_1 [18] [⟨[0, 1, 2, 3, 4, 5, 6, 7, 8, 9, 10, 11, 12, 13, 14, 15, 16, 17], [], some 18⟩, ⟨[19, 20], [], none⟩] mixed (cov_cons rfl rfl (cov_cons rfl rfl cov_nil)) (by kernel_rfl) (by kernel_rfl) ?_
    all_goals refine wk_ch ?_
    all_goals (refine xp1 0 rfl rfl rfl rfl (by refine o1_move rfl fz) ?_)
    all_goals (refine xp1 14 rfl rfl rfl rfl (by refine o1_nilCheck rfl fz) ?_)
    all_goals (refine xp1 15 rfl rfl rfl rfl (by refine o1_fieldAddr rfl fz) ?_)
    all_goals (refine xp1 16 rfl rfl rfl rfl (by first | refine ox_load_any rfl e1 fz | refine ox_load_any rfl e2 fz | refine ox_load rfl (by rfl) fz | refine ox_load_enc rfl (by first | omega | (simp; omega)) fz | refine ox_load_any rfl (by assumption) fz) ?_)
    all_goals (refine xp1 1 rfl rfl rfl rfl (by refine o1_move rfl fz) ?_)
    all_goals (refine xp1 18 rfl rfl rfl rfl (by refine o1_nilCheck rfl fz) ?_)
    all_goals (refine xp1 19 rfl rfl rfl rfl (by refine o1_fieldAddr rfl fz) ?_)
    all_goals (refine xp1 20 rfl rfl rfl rfl (by first | refine ox_load_any rfl e1 fz | refine ox_load_any rfl e2 fz | refine ox_load rfl (by rfl) fz | refine ox_load_enc rfl (by first | omega | (simp; omega)) fz | refine ox_load_any rfl (by assumption) fz) ?_)
    all_goals (refine xp2 17 21 rfl rfl rfl rfl rfl (by first | refine o1_eql_f rfl rfl (by omega) fz | refine o1_eql_t rfl rfl (by omega) fz | refine o1_eql_f rfl rfl (by omega) fz | refine o1_eql_d rfl rfl fz) ?_)
    all_goals (refine xp1 22 rfl rfl rfl rfl (by refine o1_move rfl fz) ?_)
    all_goals first | (refine xpo1 rfl rfl rfl rfl ?_) | (refine xpo2 rfl rfl rfl rfl ?_) | (refine xpg1 0 rfl rfl rfl rfl rfl rfl (by refine o1_move rfl fz) ?_)
    all_goals first | (refine xpo1 rfl rfl rfl rfl ?_) | (refine xpo2 rfl rfl rfl rfl ?_) | (refine xpg1 24 rfl rfl rfl rfl rfl rfl (by refine o1_nilCheck rfl fz) ?_)
    all_goals first | (refine xpo1 rfl rfl rfl rfl ?_) | (refine xpo2 rfl rfl rfl rfl ?_) | (refine xpg1 25 rfl rfl rfl rfl rfl rfl (by refine o1_fieldAddr rfl fz) ?_)
    all_goals first | (refine xpo1 rfl rfl rfl rfl ?_) | (refine xpo2 rfl rfl rfl rfl ?_) | (refine xpg1 26 rfl rfl rfl rfl rfl rfl (by first | refine ox_load_any rfl e1 fz | refine ox_load_any rfl e2 fz | refine ox_load rfl (by rfl) fz | refine ox_load_enc rfl (by first | omega | (simp; omega)) fz | refine ox_load_any rfl (by assumption) fz) ?_)
    all_goals first | (refine xpo1 rfl rfl rfl rfl ?_) | (refine xpo2 rfl rfl rfl rfl ?_) | (refine xpg1 1 rfl rfl rfl rfl rfl rfl (by refine o1_move rfl fz) ?_)
    all_goals first | (refine xpo1 rfl rfl rfl rfl ?_) | (refine xpo2 rfl rfl rfl rfl ?_) | (refine xpg1 28 rfl rfl rfl rfl rfl rfl (by refine o1_nilCheck rfl fz) ?_)
    all_goals first | (refine xpo1 rfl rfl rfl rfl ?_) | (refine xpo2 rfl rfl rfl rfl ?_) | (refine xpg1 29 rfl rfl rfl rfl rfl rfl (by refine o1_fieldAddr rfl fz) ?_)
    all_goals first | (refine xpo1 rfl rfl rfl rfl ?_) | (refine xpo2 rfl rfl rfl rfl ?_) | (refine xpg1 30 rfl rfl rfl rfl rfl rfl (by first | refine ox_load_any rfl e1 fz | refine ox_load_any rfl e2 fz | refine ox_load rfl (by rfl) fz | refine ox_load_enc rfl (by first | omega | (simp; omega)) fz | refine ox_load_any rfl (by assumption) fz) ?_)
    all_goals refine op_nil ?_
    all_goals refine re_nil ?_
    all_goals first | (refine ch_off rfl (by first | exact gd_o1 rfl rfl rfl | exact gd_o2 rfl rfl rfl) ?_) | (refine ch_run (E' := [(27, _), (31, _)]) rfl (gd_r1 rfl rfl rfl) rfl (cov_cons rfl rfl (cov_cons rfl rfl cov_nil)) ?_; (first | fail))
    all_goals refine wk_end ?_
    all_goals (refine xp2 23 32 rfl rfl rfl rfl rfl (by first | refine o1_pick_t rfl rfl fz | refine o1_pick_f rfl rfl fz) ?_)
    all_goals (refine xp1 33 rfl rfl rfl rfl (by refine o1_assign rfl fz) ?_)
    all_goals refine op_nil ?_
    all_goals refine re_nil ?_
    all_goals dsimp only [List.cons_append, List.nil_append]
    repeat' (first | refine ls_of rfl ?_ | refine ls_of_no ?_ | refine ls_guard_yes rfl rfl ?_ | refine ls_guard_no rfl rfl rfl rfl ?_ | refine ls_guard_un rfl rfl rfl ?_ | refine o1_move rfl ?_ | refine o1_assign rfl ?_ | refine st_seq ?_ | refine st_region ?_ | refine st_block ?_ | refine st_skip ?_ | refine st_ret ?_ | refine st_exit ?_ | refine st_cond_t rfl ?_ | refine st_cond_f rfl ?_ | refine st_cond rfl (fun _ => ?_) (fun _ => ?_) | refine ls_nil ?_ | refine nx_seq ?_ | refine nx_blk ?_ | refine nx_fn ?_ | refine nx_rounds ?_ | refine xt_seq ?_ | refine xt_here ?_ | refine xt_on rfl ?_ | refine xt_rounds ?_ | refine xt_cut ?_ | refine rt_seq ?_ | refine rt_blk ?_ | refine rt_rounds ?_ | refine rt_cut ?_ | refine o1_pick_t rfl rfl ?_ | refine o1_pick_f rfl rfl ?_ | refine o1_fieldAddr rfl ?_ | refine ox_load rfl (by rfl) ?_ | refine ox_load_enc rfl (by first | omega | (simp; omega)) ?_ | refine ox_load_any rfl (by assumption) ?_ | refine o1_eql_t rfl rfl (by omega) ?_ | refine o1_eql_f rfl rfl (by omega) ?_ | refine o1_eql rfl rfl (fun _ => ?_) (fun _ => ?_) | refine o1_slice_nil rfl ?_ | refine o1_nilCheck rfl ?_)
    refine rt_tmp () rfl rfl ?_ trivial ?_
    · have : ¬ v.l = w.l := fun e => hn (by rw [← h1.ok.len, ← h2.ok.len, e])
      simp [this]
    (try dsimp only [List.cons_append, List.nil_append, List.singleton_append, List.append_nil]); (repeat (first | exact Ent.nil | exact Ent.refl _ | (apply Ent.cons; (repeat (first | exact Sel.here | apply Sel.there)))))
end Go.Dp

set_option linter.unusedVariables false
set_option linter.unusedSimpArgs false
namespace Go.Dp
open Go.RowKit Go.Proofs
def rtV6c_0 : List Row := [⟨some 5, [], [], none⟩, ⟨some 6, [0], [0], none⟩, ⟨some 7, [1], [0, 1], none⟩, ⟨some 8, [2], [0, 1, 2], none⟩, ⟨some 9, [], [], none⟩, ⟨some 10, [4], [4], none⟩, ⟨some 11, [5], [4, 5], none⟩, ⟨some 12, [6], [4, 5, 6], none⟩, ⟨some 13, [7], [4, 5, 6, 7], none⟩, ⟨some 14, [3, 8], [0, 1, 2, 3, 4, 5, 6, 7, 8], none⟩, ⟨some 15, [9], [0, 1, 2, 3, 4, 5, 6, 7, 8, 9], none⟩, ⟨some 2, [10, 8, 0, 1, 2, 3, 4, 5, 6, 7, 8, 9, 10], [0, 1, 2, 3, 4, 5, 6, 7, 8, 9, 10], none⟩]
def rtV6c_1 : List Row := [⟨some 6, [], [], none⟩, ⟨some 7, [0], [0], none⟩, ⟨some 8, [1], [0, 1], none⟩, ⟨some 9, [2], [0, 1, 2], some (2, false)⟩, ⟨some 10, [3, 2], [0, 1, 2, 3], some (2, false)⟩, ⟨some 11, [2, 4], [0, 1, 2, 3, 4], none⟩, ⟨some 12, [5, 2], [0, 1, 2, 3, 4, 5], none⟩, ⟨some 13, [6], [0, 1, 2, 3, 4, 5, 6], some (6, false)⟩, ⟨some 14, [7, 6], [0, 1, 2, 3, 4, 5, 6, 7], some (6, false)⟩, ⟨some 15, [8, 6], [0, 1, 2, 3, 4, 5, 6, 7, 8], some (6, false)⟩, ⟨some 16, [9, 6], [0, 1, 2, 3, 4, 5, 6, 7, 8, 9], some (6, false)⟩, ⟨some 17, [6], [0, 1, 2, 3, 4, 5, 6], some (6, false)⟩, ⟨some 18, [11, 6], [0, 1, 2, 3, 4, 5, 6, 11], some (6, false)⟩, ⟨some 19, [12, 6], [0, 1, 2, 3, 4, 5, 6, 11, 12], some (6, false)⟩, ⟨some 20, [13, 6], [0, 1, 2, 3, 4, 5, 6, 11, 12, 13], some (6, false)⟩, ⟨some 21, [10, 14, 6], [0, 1, 2, 3, 4, 5, 6, 7, 8, 9, 10, 11, 12, 13, 14], some (6, false)⟩, ⟨some 22, [6, 15], [0, 1, 2, 3, 4, 5, 6, 7, 8, 9, 10, 11, 12, 13, 14, 15], none⟩]
def rtV6c_2 : List Row := [⟨some 31, [], [], none⟩, ⟨some 32, [0], [0], none⟩, ⟨some 33, [1], [0, 1], none⟩, ⟨some 34, [2], [0, 1, 2], none⟩, ⟨some 35, [], [], none⟩, ⟨some 36, [3, 4], [0, 1, 2, 3, 4], none⟩, ⟨some 37, [5], [0, 1, 2, 3, 4, 5], none⟩, ⟨some 38, [], [], none⟩, ⟨some 39, [7], [7], none⟩, ⟨some 40, [8], [7, 8], none⟩, ⟨some 41, [9], [7, 8, 9], none⟩, ⟨some 42, [], [], none⟩, ⟨some 43, [10, 11], [7, 8, 9, 10, 11], none⟩, ⟨some 44, [12], [7, 8, 9, 10, 11, 12], none⟩, ⟨some 45, [6, 13], [0, 1, 2, 3, 4, 5, 6, 7, 8, 9, 10, 11, 12, 13], none⟩, ⟨some 46, [3, 4, 0, 1, 2, 3, 4, 5, 6, 7, 8, 9, 10, 11, 12, 13, 14], [0, 1, 2, 3, 4, 5, 6, 7, 8, 9, 10, 11, 12, 13, 14], none⟩, ⟨none, [15, 14, 0, 1, 2, 3, 4, 5, 6, 7, 8, 9, 10, 11, 12, 13, 14], [0, 1, 2, 3, 4, 5, 6, 7, 8, 9, 10, 11, 12, 13, 14, 15], none⟩]
theorem clone_W (H : List Hl) (ad : Option Addr) (c m : Nat) (l : List (BitVec 64)) (h : Rs (stars H) W8 ad c l) (hm : m = l.length) (hb : m ≤ 1000) :
    Spec Tryd.prog 50 [.slice ad m c] H (fun _ : Option Addr × Nat => True) (fun r => .slice r.1 m r.2) (fun r => .row 24 1 (.slice r.1 m r.2) m (l.map W8) :: H) := by
  refine spec_pure (res := fun r : Option Addr × Nat => [.row 24 1 (.slice r.1 m r.2) m (l.map W8)]) H Tryd.func50 rfl Tryd.ntmps50 (by kernel_rfl) rfl (fun W => ?_)
  cases ad with
  | none =>
    have hl : l = [] := by
      cases l with
      | nil => rfl
      | cons a l => obtain ⟨x, hx⟩ := h.sm (by simp); cases hx
    subst hl
    subst hm
    repeat' (first | refine ls_of rfl ?_ | refine ls_of_no ?_ | refine ls_guard_yes rfl rfl ?_ | refine ls_guard_no rfl rfl rfl rfl ?_ | refine ls_guard_un rfl rfl rfl ?_ | refine o1_move rfl ?_ | refine o1_assign rfl ?_ | refine st_seq ?_ | refine st_region ?_ | refine st_block ?_ | refine st_skip ?_ | refine st_ret ?_ | refine st_exit ?_ | refine st_cond_t rfl ?_ | refine st_cond_f rfl ?_ | refine st_cond rfl (fun _ => ?_) (fun _ => ?_) | refine ls_nil ?_ | refine nx_seq ?_ | refine nx_blk ?_ | refine nx_fn ?_ | refine nx_rounds ?_ | refine xt_seq ?_ | refine xt_here ?_ | refine xt_on rfl ?_ | refine xt_rounds ?_ | refine xt_cut ?_ | refine rt_seq ?_ | refine rt_blk ?_ | refine rt_rounds ?_ | refine rt_cut ?_ | refine o1_slice_nil rfl ?_ | refine o1_lit_B rfl rfl rfl rfl rfl (fun _ => ?_) | refine ox_append rfl rfl (rx_box rfl (by first | decide | omega)) rfl rfl (fun _ => rfl) (by omega) (by omega) (fun _ _ => ?_) | refine ox_append rfl rfl (rx_any (by assumption)) rfl rfl (fun _ => rfl) (by omega) (by omega) (fun _ _ => ?_) | refine ox_append rfl rfl rx_row rfl rfl (fun _ => rfl) (by omega) (by omega) (fun _ _ => ?_))
    refine (rt_ent (ent_nil 24 W8) ?_)
    refine rt_tmp (none, 0) rfl rfl rfl trivial ?_
    (try dsimp only [List.cons_append, List.nil_append, List.singleton_append, List.append_nil]); (repeat (first | exact Ent.nil | exact Ent.refl _ | (apply Ent.cons; (repeat (first | exact Sel.here | apply Sel.there)))))
  | some a =>
    repeat' (first | refine ls_of rfl ?_ | refine ls_of_no ?_ | refine ls_guard_yes rfl rfl ?_ | refine ls_guard_no rfl rfl rfl rfl ?_ | refine ls_guard_un rfl rfl rfl ?_ | refine o1_move rfl ?_ | refine o1_assign rfl ?_ | refine st_seq ?_ | refine st_region ?_ | refine st_block ?_ | refine st_skip ?_ | refine st_ret ?_ | refine st_exit ?_ | refine st_cond_t rfl ?_ | refine st_cond_f rfl ?_ | refine st_cond rfl (fun _ => ?_) (fun _ => ?_) | refine ls_nil ?_ | refine nx_seq ?_ | refine nx_blk ?_ | refine nx_fn ?_ | refine nx_rounds ?_ | refine xt_seq ?_ | refine xt_here ?_ | refine xt_on rfl ?_ | refine xt_rounds ?_ | refine xt_cut ?_ | refine rt_seq ?_ | refine rt_blk ?_ | refine rt_rounds ?_ | refine rt_cut ?_ | refine o1_lit_enc W8 ([] : List (BitVec 64)) rfl rfl rfl (fun _ => rfl) rfl rfl rfl (fun _ => ?_) | refine ox_append_box (enc := W8) (xs := ([] : List (BitVec 64))) rfl rfl rfl rfl (rx_any h) hm rfl (fun _ => rfl) (by omega) (by omega) (fun _ _ => ?_) | refine o1_slice_nil rfl ?_ | refine o1_lit_B rfl rfl rfl rfl rfl (fun _ => ?_) | refine ox_append rfl rfl (rx_box rfl (by first | decide | omega)) rfl rfl (fun _ => rfl) (by omega) (by omega) (fun _ _ => ?_) | refine ox_append rfl rfl (rx_any (by assumption)) rfl rfl (fun _ => rfl) (by omega) (by omega) (fun _ _ => ?_) | refine ox_append rfl rfl rx_row rfl rfl (fun _ => rfl) (by omega) (by omega) (fun _ _ => ?_))
    refine rt_tmp (_, _) rfl rfl (by simp only [Nat.zero_add]; rfl) trivial ?_
    simp only [Nat.zero_add, List.nil_append]
    (try dsimp only [List.cons_append, List.nil_append, List.singleton_append, List.append_nil]); (repeat (first | exact Ent.nil | exact Ent.refl _ | (apply Ent.cons; (repeat (first | exact Sel.here | apply Sel.there)))))
theorem vec_Copy (H : List Hl) (v : VD) (h : RdV (stars H) v) :
    Spec Tryd.prog 16 [Pv v] H (fun _ : Nat × Option Addr × Nat => True) (fun r => .pointer (some ⟨r.1, 0, none⟩)) (fun r => vB r.1 v.n r.2.1 r.2.2 :: vR v.n r.2.1 r.2.2 v.l :: H) := by
  refine spec_pure (res := fun r : Nat × Option Addr × Nat => [vB r.1 v.n r.2.1 r.2.2, vR v.n r.2.1 r.2.2 v.l]) H Tryd.func16 rfl Tryd.ntmps16 (by kernel_rfl) rfl (fun W => ?_)
  have h4 := nw_4 h.ok.hi
  have hwl := h.ok.words
  have e1 := h.n
  have e2 := h.s
  repeat' (first | refine ls_of rfl ?_ | refine ls_of_no ?_ | refine ls_guard_yes rfl rfl ?_ | refine ls_guard_no rfl rfl rfl rfl ?_ | refine ls_guard_un rfl rfl rfl ?_ | refine o1_move rfl ?_ | refine o1_assign rfl ?_ | refine st_seq ?_ | refine st_region ?_ | refine st_block ?_ | refine st_skip ?_ | refine st_ret ?_ | refine st_exit ?_ | refine st_cond_t rfl ?_ | refine st_cond_f rfl ?_ | refine st_cond rfl (fun _ => ?_) (fun _ => ?_) | refine ls_nil ?_ | refine nx_seq ?_ | refine nx_blk ?_ | refine nx_fn ?_ | refine nx_rounds ?_ | refine xt_seq ?_ | refine xt_here ?_ | refine xt_on rfl ?_ | refine xt_rounds ?_ | refine xt_cut ?_ | refine rt_seq ?_ | refine rt_blk ?_ | refine rt_rounds ?_ | refine rt_cut ?_ | refine o1_peql rfl rfl ?_ | refine o1_fieldAddr rfl ?_ | refine ox_load rfl (by rfl) ?_ | refine ox_load_enc rfl (by first | omega | (simp; omega)) ?_ | refine ox_load_any rfl (by assumption) ?_ | refine o1_box rfl rfl (fun _ => ?_) | refine o1_slice_nil rfl ?_ | refine o1_buildx rfl (by simp only [buildL, putL, List.set_cons_zero, List.set_cons_succ, List.getElem?_cons_zero, List.getElem?_cons_succ, Option.getD_some, Value.cells, Nat.zero_add, Nat.reduceAdd]; rfl) (fun _ => by kernel_rfl) ?_ | refine o1_nilCheck rfl ?_)
  refine st_stages [(0, _)] rtV6c_0 [8, 10] [⟨[0, 1, 2, 3, 4, 5, 6, 7], [], some 8⟩, ⟨[9], [0, 1, 2, 3], some 10⟩, ⟨[11], [], none⟩] mixed (cov_cons rfl rfl cov_nil) (by kernel_rfl) (by kernel_rfl) ?_
  all_goals refine wk_ch ?_
  all_goals (refine xp1 0 rfl rfl rfl rfl (by refine o1_move rfl fz) ?_)
  all_goals (refine xp1 5 rfl rfl rfl rfl (by refine o1_nilCheck rfl fz) ?_)
  all_goals (refine xp1 6 rfl rfl rfl rfl (by refine o1_fieldAddr rfl fz) ?_)
  all_goals (refine xp1 7 rfl rfl rfl rfl (by first | refine ox_load_any rfl e1 fz | refine ox_load_any rfl e2 fz | refine ox_load rfl (by rfl) fz | refine ox_load_enc rfl (by first | omega | (simp; omega)) fz | refine ox_load_any rfl (by assumption) fz) ?_)
  all_goals (refine xp1 0 rfl rfl rfl rfl (by refine o1_move rfl fz) ?_)
  all_goals (refine xp1 9 rfl rfl rfl rfl (by refine o1_nilCheck rfl fz) ?_)
  all_goals (refine xp1 10 rfl rfl rfl rfl (by refine o1_fieldAddr rfl fz) ?_)
  all_goals (refine xp1 11 rfl rfl rfl rfl (by first | refine ox_load_any rfl e1 fz | refine ox_load_any rfl e2 fz | refine ox_load rfl (by rfl) fz | refine ox_load_enc rfl (by first | omega | (simp; omega)) fz | refine ox_load_any rfl (by assumption) fz) ?_)
  all_goals refine op_nil ?_
  all_goals refine re_nil ?_
  all_goals first | (refine ch_run (E' := [(12, _)]) rfl (gd_r0 rfl) rfl (cov_cons rfl rfl cov_nil) ?_; (first | (refine o1_call (fun _ => clone_W _ v.a v.c (nw v.n) (words v.l) (Rs.up h.w) hwl.symm (by omega)) rfl (fun ⟨a2, c2⟩ _ => ?_))))
  all_goals refine wk_ch ?_
  all_goals (refine xp2 8 13 rfl rfl rfl rfl rfl (by (refine o1_buildx rfl (by simp only [buildL, putL, List.set_cons_zero, List.set_cons_succ, List.getElem?_cons_zero, List.getElem?_cons_succ, Option.getD_some, Value.cells, Nat.zero_add, Nat.reduceAdd]; rfl) (fun _ => by kernel_rfl) ?_; all_goals exact fz)) ?_)
  all_goals refine op_nil ?_
  all_goals (refine xq1 0 rfl rfl rfl rfl rfl (by refine o1_move rfl fz) ?_)
  all_goals (refine xq1 5 rfl rfl rfl rfl rfl (by refine o1_nilCheck rfl fz) ?_)
  all_goals (refine xq1 6 rfl rfl rfl rfl rfl (by refine o1_fieldAddr rfl fz) ?_)
  all_goals (refine xq1 7 rfl rfl rfl rfl rfl (by first | refine ox_load_any rfl e1 fz | refine ox_load_any rfl e2 fz | refine ox_load rfl (by rfl) fz | refine ox_load_enc rfl (by first | omega | (simp; omega)) fz | refine ox_load_any rfl (by assumption) fz) ?_)
  all_goals refine re_nil ?_
  all_goals first | (refine ch_run (E' := [(14, _)]) rfl (gd_r0 rfl) rfl (cov_cons rfl rfl cov_nil) ?_; (first | (refine o1_box rfl rfl (fun b2 => ?_)) | refine o1_box rfl rfl (fun _ => ?_)))
  all_goals refine wk_end ?_
  all_goals (refine xp1 15 rfl rfl rfl rfl (by refine o1_assign rfl fz) ?_)
  all_goals refine op_nil ?_
  all_goals refine re_nil ?_
  all_goals dsimp only [List.cons_append, List.nil_append]
  repeat' (first | refine ls_of rfl ?_ | refine ls_of_no ?_ | refine ls_guard_yes rfl rfl ?_ | refine ls_guard_no rfl rfl rfl rfl ?_ | refine ls_guard_un rfl rfl rfl ?_ | refine o1_move rfl ?_ | refine o1_assign rfl ?_ | refine st_seq ?_ | refine st_region ?_ | refine st_block ?_ | refine st_skip ?_ | refine st_ret ?_ | refine st_exit ?_ | refine st_cond_t rfl ?_ | refine st_cond_f rfl ?_ | refine st_cond rfl (fun _ => ?_) (fun _ => ?_) | refine ls_nil ?_ | refine nx_seq ?_ | refine nx_blk ?_ | refine nx_fn ?_ | refine nx_rounds ?_ | refine xt_seq ?_ | refine xt_here ?_ | refine xt_on rfl ?_ | refine xt_rounds ?_ | refine xt_cut ?_ | refine rt_seq ?_ | refine rt_blk ?_ | refine rt_rounds ?_ | refine rt_cut ?_ | refine o1_fieldAddr rfl ?_ | refine ox_load rfl (by rfl) ?_ | refine ox_load_enc rfl (by first | omega | (simp; omega)) ?_ | refine ox_load_any rfl (by assumption) ?_ | refine o1_box rfl rfl (fun _ => ?_) | refine o1_slice_nil rfl ?_ | refine o1_buildx rfl (by simp only [buildL, putL, List.set_cons_zero, List.set_cons_succ, List.getElem?_cons_zero, List.getElem?_cons_succ, Option.getD_some, Value.cells, Nat.zero_add, Nat.reduceAdd]; rfl) (fun _ => by kernel_rfl) ?_ | refine o1_nilCheck rfl ?_)
  refine rt_tmp (b2, a2, c2) rfl rfl rfl trivial ?_
  (try dsimp only [List.cons_append, List.nil_append, List.singleton_append, List.append_nil]); (repeat (first | exact Ent.nil | exact Ent.refl _ | (apply Ent.cons; (repeat (first | exact Sel.here | apply Sel.there)))))
theorem vec_Xor (H : List Hl) (b n : Nat) (a : Option Addr) (c : Nat) (l : List Bool) (w : VD) (hl : l.length = n) (hn : n ≤ 256) (hw : RdV (stars H) w) (hwn : w.n = n) :
    Spec Tryd.prog 33 [.pointer (some ⟨b, 0, none⟩), Pv w] (vB b n a c :: vR n a c l :: H) (fun _ : Unit => True) (fun _ => .bool true) (fun _ => vB b n a c :: vR n a c (xorV l w.l) :: H) := by
  refine spec_fn (res := fun _ : Unit => [vB b n a c, vR n a c (xorV l w.l)]) [vB b n a c, vR n a c l] H Tryd.func33 rfl Tryd.ntmps33 (by kernel_rfl) rfl (fun W => ?_)
  dsimp only [List.cons_append, List.nil_append]
  have h4 := nw_4 hn
  have e1 := hw.n
  have e2 := hw.s
  have e3 := hw.w
  have hwl := hw.ok.words
  rw [hwn] at e1 e2 hwl
  have hll : l.length = w.l.length := by rw [hl, hw.ok.len, hwn]
  obtain ⟨L0, hL0⟩ : ∃ L0, words l = L0 := ⟨_, rfl⟩
  obtain ⟨L1, hL1⟩ : ∃ L1, words (xorV l w.l) = L1 := ⟨_, rfl⟩
  obtain ⟨M, hM⟩ : ∃ M, words w.l = M := ⟨_, rfl⟩
  rw [hM] at e3 hwl
  have hl0 : L0.length = nw n := by rw [← hL0, words_len, hl]
  have hl1 : L1.length = nw n := by rw [← hL1, words_len, xorV_len hll, hl]
  have hz : L1.length = L0.length := by omega
  have hx : L1 = List.zipWith (· ^^^ ·) L0 M := by rw [← hL1, ← hL0, ← hM]; exact words_xor hll
  dsimp only [vR]
  rw [hL0]
  repeat' (first | refine ls_of rfl ?_ | refine ls_of_no ?_ | refine ls_guard_yes rfl rfl ?_ | refine ls_guard_no rfl rfl rfl rfl ?_ | refine ls_guard_un rfl rfl rfl ?_ | refine o1_move rfl ?_ | refine o1_assign rfl ?_ | refine st_seq ?_ | refine st_region ?_ | refine st_block ?_ | refine st_skip ?_ | refine st_ret ?_ | refine st_exit ?_ | refine st_cond_t rfl ?_ | refine st_cond_f rfl ?_ | refine st_cond rfl (fun _ => ?_) (fun _ => ?_) | refine ls_nil ?_ | refine nx_seq ?_ | refine nx_blk ?_ | refine nx_fn ?_ | refine nx_rounds ?_ | refine xt_seq ?_ | refine xt_here ?_ | refine xt_on rfl ?_ | refine xt_rounds ?_ | refine xt_cut ?_ | refine rt_seq ?_ | refine rt_blk ?_ | refine rt_rounds ?_ | refine rt_cut ?_ | refine o1_pick_t rfl rfl ?_ | refine o1_pick_f rfl rfl ?_ | refine o1_fieldAddr rfl ?_ | refine ox_load rfl (by rfl) ?_ | refine ox_load_enc rfl (by first | omega | (simp; omega)) ?_ | refine ox_load_any rfl (by assumption) ?_ | refine o1_len rfl ?_ | refine o1_add rfl rfl (by omega) ?_ | refine o1_lss_t rfl rfl (by omega) ?_ | refine o1_lss_f rfl rfl (by omega) ?_ | refine o1_lss rfl rfl (fun _ => ?_) (fun _ => ?_) | refine o1_neq_t rfl rfl (by omega) ?_ | refine o1_neq_f rfl rfl (by omega) ?_ | refine o1_neq rfl rfl (fun _ => ?_) (fun _ => ?_) | refine o1_uxor rfl rfl ?_ | refine o1_slice_nil rfl ?_ | refine ox_store_enc B rfl rfl (by first | omega | (simp; done) | (simp; omega)) rfl ?_ | refine ox_stores rfl rfl (by first | omega | (simp; done) | (simp; omega)) rfl (by first | (simp only [List.set_cons_zero, List.set_cons_succ, Nat.zero_add, Nat.reduceAdd]; rfl) | rfl) ?_ | refine o1_nilCheck rfl ?_)
  refine st_stages [(0, _), (1, _)] rtV6c_1 [] [⟨[0, 1, 2, 3, 4, 5, 6, 7, 8, 9, 10, 11, 12, 13, 14, 15, 16], [], none⟩] mixed (cov_cons rfl rfl (cov_cons rfl rfl cov_nil)) (by kernel_rfl) (by kernel_rfl) ?_
  all_goals refine wk_end ?_
  all_goals (refine xp1 0 rfl rfl rfl rfl (by first | refine o1_peql rfl rfl fz | refine o1_move rfl fz) ?_)
  all_goals (refine xp1 6 rfl rfl rfl rfl (by first | refine o1_peql rfl rfl fz | refine o1_slice_nil rfl fz) ?_)
  all_goals (refine xp1 7 rfl rfl rfl rfl (by first | refine o1_peql rfl rfl fz | refine o1_move rfl fz) ?_)
  all_goals first | (refine xpo1 rfl rfl rfl rfl ?_) | (refine xpo2 rfl rfl rfl rfl ?_) | (refine xpg1 1 rfl rfl rfl rfl rfl rfl (by first | refine o1_peql rfl rfl fz | refine o1_move rfl fz) ?_)
  all_goals first | (refine xpo1 rfl rfl rfl rfl ?_) | (refine xpo2 rfl rfl rfl rfl ?_) | (refine xpg1 9 rfl rfl rfl rfl rfl rfl (by first | refine o1_peql rfl rfl fz | refine o1_slice_nil rfl fz) ?_)
  all_goals (refine xp2 8 10 rfl rfl rfl rfl rfl (by first | refine o1_peql rfl rfl fz | refine o1_pick_t rfl rfl fz | refine o1_pick_f rfl rfl fz) ?_)
  all_goals (refine xp1 11 rfl rfl rfl rfl (by first | refine o1_peql rfl rfl fz | refine o1_move rfl fz) ?_)
  all_goals first | (refine xpo1 rfl rfl rfl rfl ?_) | (refine xpo2 rfl rfl rfl rfl ?_) | (refine xpg1 0 rfl rfl rfl rfl rfl rfl (by first | refine o1_peql rfl rfl fz | refine o1_move rfl fz) ?_)
  all_goals first | (refine xpo1 rfl rfl rfl rfl ?_) | (refine xpo2 rfl rfl rfl rfl ?_) | (refine xpg1 13 rfl rfl rfl rfl rfl rfl (by first | refine o1_peql rfl rfl fz | refine o1_nilCheck rfl fz) ?_)
  all_goals first | (refine xpo1 rfl rfl rfl rfl ?_) | (refine xpo2 rfl rfl rfl rfl ?_) | (refine xpg1 14 rfl rfl rfl rfl rfl rfl (by first | refine o1_peql rfl rfl fz | refine o1_fieldAddr rfl fz) ?_)
  all_goals first | (refine xpo1 rfl rfl rfl rfl ?_) | (refine xpo2 rfl rfl rfl rfl ?_) | (refine xpg1 15 rfl rfl rfl rfl rfl rfl (by first | refine o1_peql rfl rfl fz | refine ox_load_any rfl e1 fz | refine ox_load rfl (by rfl) fz | refine ox_load_enc rfl (by first | omega | (simp; omega)) fz | refine ox_load_any rfl (by assumption) fz) ?_)
  all_goals first | (refine xpo1 rfl rfl rfl rfl ?_) | (refine xpo2 rfl rfl rfl rfl ?_) | (refine xpg1 1 rfl rfl rfl rfl rfl rfl (by first | refine o1_peql rfl rfl fz | refine o1_move rfl fz) ?_)
  all_goals first | (refine xpo1 rfl rfl rfl rfl ?_) | (refine xpo2 rfl rfl rfl rfl ?_) | (refine xpg1 17 rfl rfl rfl rfl rfl rfl (by first | refine o1_peql rfl rfl fz | refine o1_nilCheck rfl fz) ?_)
  all_goals first | (refine xpo1 rfl rfl rfl rfl ?_) | (refine xpo2 rfl rfl rfl rfl ?_) | (refine xpg1 18 rfl rfl rfl rfl rfl rfl (by first | refine o1_peql rfl rfl fz | refine o1_fieldAddr rfl fz) ?_)
  all_goals first | (refine xpo1 rfl rfl rfl rfl ?_) | (refine xpo2 rfl rfl rfl rfl ?_) | (refine xpg1 19 rfl rfl rfl rfl rfl rfl (by first | refine o1_peql rfl rfl fz | refine ox_load_any rfl e1 fz | refine ox_load rfl (by rfl) fz | refine ox_load_enc rfl (by first | omega | (simp; omega)) fz | refine ox_load_any rfl (by assumption) fz) ?_)
  all_goals first | (refine xpo1 rfl rfl rfl rfl ?_) | (refine xpo2 rfl rfl rfl rfl ?_) | (refine xpg2 16 20 rfl rfl rfl rfl rfl rfl rfl (by first | refine o1_peql rfl rfl fz | refine o1_neq_f rfl rfl rfl fz | refine o1_neq_t rfl rfl (by omega) fz | refine o1_neq_f rfl rfl (by omega) fz | refine o1_neq_d rfl rfl fz) ?_)
  all_goals (refine xp2 12 21 rfl rfl rfl rfl rfl (by first | refine o1_peql rfl rfl fz | refine o1_pick_t rfl rfl fz | refine o1_pick_f rfl rfl fz) ?_)
  all_goals refine op_nil ?_
  all_goals refine re_nil ?_
  all_goals dsimp only [List.cons_append, List.nil_append]
  repeat' (first | refine ls_of rfl ?_ | refine ls_of_no ?_ | refine ls_guard_yes rfl rfl ?_ | refine ls_guard_no rfl rfl rfl rfl ?_ | refine ls_guard_un rfl rfl rfl ?_ | refine o1_move rfl ?_ | refine o1_assign rfl ?_ | refine st_seq ?_ | refine st_region ?_ | refine st_block ?_ | refine st_skip ?_ | refine st_ret ?_ | refine st_exit ?_ | refine st_cond_t rfl ?_ | refine st_cond_f rfl ?_ | refine st_cond rfl (fun _ => ?_) (fun _ => ?_) | refine ls_nil ?_ | refine nx_seq ?_ | refine nx_blk ?_ | refine nx_fn ?_ | refine nx_rounds ?_ | refine xt_seq ?_ | refine xt_here ?_ | refine xt_on rfl ?_ | refine xt_rounds ?_ | refine xt_cut ?_ | refine rt_seq ?_ | refine rt_blk ?_ | refine rt_rounds ?_ | refine rt_cut ?_ | refine o1_pick_t rfl rfl ?_ | refine o1_pick_f rfl rfl ?_ | refine o1_fieldAddr rfl ?_ | refine ox_load rfl (by rfl) ?_ | refine ox_load_enc rfl (by first | omega | (simp; omega)) ?_ | refine ox_load_any rfl (by assumption) ?_ | refine o1_len rfl ?_ | refine o1_add rfl rfl (by omega) ?_ | refine o1_lss_t rfl rfl (by omega) ?_ | refine o1_lss_f rfl rfl (by omega) ?_ | refine o1_lss rfl rfl (fun _ => ?_) (fun _ => ?_) | refine o1_neq_t rfl rfl (by omega) ?_ | refine o1_neq_f rfl rfl (by omega) ?_ | refine o1_neq rfl rfl (fun _ => ?_) (fun _ => ?_) | refine o1_uxor rfl rfl ?_ | refine o1_slice_nil rfl ?_ | refine ox_store_enc B rfl rfl (by first | omega | (simp; done) | (simp; omega)) rfl ?_ | refine ox_stores rfl rfl (by first | omega | (simp; done) | (simp; omega)) rfl (by first | (simp only [List.set_cons_zero, List.set_cons_succ, Nat.zero_add, Nat.reduceAdd]; rfl) | rfl) ?_ | refine o1_nilCheck rfl ?_)
  refine st_loop (S := Nat) (fun i => [(0, .pointer (some ⟨b, 0, none⟩)), (1, Pv w), (27, I (nw n)), (28, I i)]) (fun i => [vB b n a c, .row 24 1 (.slice a (nw n) c) (nw n) ((partL L1 L0 i).map W8), .any (stars H)]) (fun i => i ≤ nw n) (fun i => nw n - i) 0 (Nat.zero_le _)
    (cov_cons rfl rfl (cov_cons rfl rfl (cov_cons rfl rfl (cov_cons rfl rfl cov_nil)))) (by show Ent _ [vB b n a c, .row 24 1 (.slice a (nw n) c) (nw n) ((partL L1 L0 0).map W8), .any (stars H)]; rw [partL_zero]; (try dsimp only [List.cons_append, List.nil_append, List.singleton_append, List.append_nil]); (repeat (first | exact Ent.nil | exact Ent.refl _ | (apply Ent.cons; (repeat (first | exact Sel.here | apply Sel.there)))))) ?_
  intro i hi
  by_cases hlt : i < nw n
  · have hql := partL_len hz i
    have hka : i < (partL L1 L0 i).length := by omega
    have hpk : (partL L1 L0 i)[i] = L0[i]'(by omega) := partL_at hz (Nat.le_refl i) _
    have hset : (partL L1 L0 i).set i (L1[i]'(by omega)) = partL L1 L0 (i + 1) := partL_succ hz (by omega)
    have hmi : i < M.length := by omega
    have hxi : L0[i]'(by omega) ^^^ M[i] = L1[i]'(by omega) := by subst hx; simp
    repeat' (first | refine ls_of rfl ?_ | refine ls_of_no ?_ | refine ls_guard_yes rfl rfl ?_ | refine ls_guard_no rfl rfl rfl rfl ?_ | refine ls_guard_un rfl rfl rfl ?_ | refine o1_move rfl ?_ | refine o1_assign rfl ?_ | refine st_seq ?_ | refine st_region ?_ | refine st_block ?_ | refine st_skip ?_ | refine st_ret ?_ | refine st_exit ?_ | refine st_cond_t rfl ?_ | refine st_cond_f rfl ?_ | refine st_cond rfl (fun _ => ?_) (fun _ => ?_) | refine ls_nil ?_ | refine nx_seq ?_ | refine nx_blk ?_ | refine nx_fn ?_ | refine nx_rounds ?_ | refine xt_seq ?_ | refine xt_here ?_ | refine xt_on rfl ?_ | refine xt_rounds ?_ | refine xt_cut ?_ | refine rt_seq ?_ | refine rt_blk ?_ | refine rt_rounds ?_ | refine rt_cut ?_ | refine o1_pick_t rfl rfl ?_ | refine o1_pick_f rfl rfl ?_ | refine o1_fieldAddr rfl ?_ | refine ox_load rfl (by rfl) ?_ | refine ox_load_enc rfl (by first | omega | (simp; omega)) ?_ | refine ox_load_any rfl (by assumption) ?_ | refine o1_len rfl ?_ | refine o1_add rfl rfl (by omega) ?_ | refine o1_lss_t rfl rfl (by omega) ?_ | refine o1_lss_f rfl rfl (by omega) ?_ | refine o1_lss rfl rfl (fun _ => ?_) (fun _ => ?_) | refine o1_neq_t rfl rfl (by omega) ?_ | refine o1_neq_f rfl rfl (by omega) ?_ | refine o1_neq rfl rfl (fun _ => ?_) (fun _ => ?_) | refine o1_uxor rfl rfl ?_ | refine o1_slice_nil rfl ?_ | refine ox_store_enc B rfl rfl (by first | omega | (simp; done) | (simp; omega)) rfl ?_ | refine ox_stores rfl rfl (by first | omega | (simp; done) | (simp; omega)) rfl (by first | (simp only [List.set_cons_zero, List.set_cons_succ, Nat.zero_add, Nat.reduceAdd]; rfl) | rfl) ?_ | refine o1_nilCheck rfl ?_)
    refine st_stages [(0, _), (5, _), (1, _)] rtV6c_2 [16] [⟨[0, 1, 2, 3, 4, 5, 6, 7, 8, 9, 10, 11, 12, 13, 14, 15], [], some 16⟩, ⟨[], [], none⟩] mixed (cov_cons rfl rfl (cov_cons rfl rfl (cov_cons rfl rfl cov_nil))) (by kernel_rfl) (by kernel_rfl) ?_
    all_goals refine wk_ch ?_
    all_goals (refine xp1 0 rfl rfl rfl rfl (by refine o1_move rfl fz) ?_)
    all_goals (refine xp1 31 rfl rfl rfl rfl (by refine o1_nilCheck rfl fz) ?_)
    all_goals (refine xp1 32 rfl rfl rfl rfl (by refine o1_fieldAddr rfl fz) ?_)
    all_goals (refine xp1 33 rfl rfl rfl rfl (by first | refine ox_load_any rfl e2 fz | ((refine o1_load_iah (enc := W8) (ad := a) (c := c) (xs := partL L1 L0 i) i rfl rx_row hka ?_; rw [hpk]); all_goals exact fz) | refine o1_load_ia i rfl e3 hmi fz | refine ox_load rfl (by rfl) fz | refine ox_load_enc rfl (by first | omega | (simp; omega)) fz | refine ox_load_any rfl (by assumption) fz) ?_)
    all_goals (refine xp1 5 rfl rfl rfl rfl (by refine o1_move rfl fz) ?_)
    all_goals (refine xp2 34 35 rfl rfl rfl rfl rfl (by first | refine o1_iah (enc := W8) (ad := a) (c := c) (xs := partL L1 L0 i) i rfl rfl rx_row (by omega) rfl hka fz | refine o1_ia i rfl rfl e3 hwl.symm rfl hmi fz) ?_)
    all_goals (refine xp1 36 rfl rfl rfl rfl (by first | refine ox_load_any rfl e2 fz | ((refine o1_load_iah (enc := W8) (ad := a) (c := c) (xs := partL L1 L0 i) i rfl rx_row hka ?_; rw [hpk]); all_goals exact fz) | refine o1_load_ia i rfl e3 hmi fz | refine ox_load rfl (by rfl) fz | refine ox_load_enc rfl (by first | omega | (simp; omega)) fz | refine ox_load_any rfl (by assumption) fz) ?_)
    all_goals (refine xp1 1 rfl rfl rfl rfl (by refine o1_move rfl fz) ?_)
    all_goals (refine xp1 38 rfl rfl rfl rfl (by refine o1_nilCheck rfl fz) ?_)
    all_goals (refine xp1 39 rfl rfl rfl rfl (by refine o1_fieldAddr rfl fz) ?_)
    all_goals (refine xp1 40 rfl rfl rfl rfl (by first | refine ox_load_any rfl e2 fz | ((refine o1_load_iah (enc := W8) (ad := a) (c := c) (xs := partL L1 L0 i) i rfl rx_row hka ?_; rw [hpk]); all_goals exact fz) | refine o1_load_ia i rfl e3 hmi fz | refine ox_load rfl (by rfl) fz | refine ox_load_enc rfl (by first | omega | (simp; omega)) fz | refine ox_load_any rfl (by assumption) fz) ?_)
    all_goals (refine xp1 5 rfl rfl rfl rfl (by refine o1_move rfl fz) ?_)
    all_goals (refine xp2 41 42 rfl rfl rfl rfl rfl (by first | refine o1_iah (enc := W8) (ad := a) (c := c) (xs := partL L1 L0 i) i rfl rfl rx_row (by omega) rfl hka fz | refine o1_ia i rfl rfl e3 hwl.symm rfl hmi fz) ?_)
    all_goals (refine xp1 43 rfl rfl rfl rfl (by first | refine ox_load_any rfl e2 fz | ((refine o1_load_iah (enc := W8) (ad := a) (c := c) (xs := partL L1 L0 i) i rfl rx_row hka ?_; rw [hpk]); all_goals exact fz) | refine o1_load_ia i rfl e3 hmi fz | refine ox_load rfl (by rfl) fz | refine ox_load_enc rfl (by first | omega | (simp; omega)) fz | refine ox_load_any rfl (by assumption) fz) ?_)
    all_goals (refine xp2 37 44 rfl rfl rfl rfl rfl (by first | ((refine o1_uxor rfl rfl ?_; rw [hxi]); all_goals exact fz) | refine o1_uxor rfl rfl fz) ?_)
    all_goals (refine xp2 34 35 rfl rfl rfl rfl rfl (by first | refine o1_iah (enc := W8) (ad := a) (c := c) (xs := partL L1 L0 i) i rfl rfl rx_row (by omega) rfl hka fz | refine o1_ia i rfl rfl e3 hwl.symm rfl hmi fz) ?_)
    all_goals refine op_nil ?_
    all_goals refine re_nil ?_
    all_goals first | (refine ch_run_no (E' := [(46, _), (45, _)]) rfl (gd_r0 rfl) rfl (cov_cons rfl rfl (cov_cons rfl rfl cov_nil)) ?_; (first | (refine ox_store_rowenc (ad := a) (c := c) W8 i rfl rfl hlt rfl ?_; rw [hset]) | refine ox_store_enc B rfl rfl (by first | omega | (simp; done) | (simp; omega)) rfl ?_ | refine ox_stores rfl rfl (by first | omega | (simp; done) | (simp; omega)) rfl (by first | (simp only [List.set_cons_zero, List.set_cons_succ, Nat.zero_add, Nat.reduceAdd]; rfl) | rfl) ?_))
    all_goals refine wk_end ?_
    all_goals refine op_nil ?_
    all_goals refine re_nil ?_
    all_goals dsimp only [List.cons_append, List.nil_append]
    repeat' (first | refine ls_of rfl ?_ | refine ls_of_no ?_ | refine ls_guard_yes rfl rfl ?_ | refine ls_guard_no rfl rfl rfl rfl ?_ | refine ls_guard_un rfl rfl rfl ?_ | refine o1_move rfl ?_ | refine o1_assign rfl ?_ | refine st_seq ?_ | refine st_region ?_ | refine st_block ?_ | refine st_skip ?_ | refine st_ret ?_ | refine st_exit ?_ | refine st_cond_t rfl ?_ | refine st_cond_f rfl ?_ | refine st_cond rfl (fun _ => ?_) (fun _ => ?_) | refine ls_nil ?_ | refine nx_seq ?_ | refine nx_blk ?_ | refine nx_fn ?_ | refine nx_rounds ?_ | refine xt_seq ?_ | refine xt_here ?_ | refine xt_on rfl ?_ | refine xt_rounds ?_ | refine xt_cut ?_ | refine rt_seq ?_ | refine rt_blk ?_ | refine rt_rounds ?_ | refine rt_cut ?_ | refine o1_pick_t rfl rfl ?_ | refine o1_pick_f rfl rfl ?_ | refine o1_fieldAddr rfl ?_ | refine ox_load rfl (by rfl) ?_ | refine ox_load_enc rfl (by first | omega | (simp; omega)) ?_ | refine ox_load_any rfl (by assumption) ?_ | refine o1_len rfl ?_ | refine o1_add rfl rfl (by omega) ?_ | refine o1_lss_t rfl rfl (by omega) ?_ | refine o1_lss_f rfl rfl (by omega) ?_ | refine o1_lss rfl rfl (fun _ => ?_) (fun _ => ?_) | refine o1_neq_t rfl rfl (by omega) ?_ | refine o1_neq_f rfl rfl (by omega) ?_ | refine o1_neq rfl rfl (fun _ => ?_) (fun _ => ?_) | refine o1_uxor rfl rfl ?_ | refine o1_slice_nil rfl ?_ | refine ox_store_enc B rfl rfl (by first | omega | (simp; done) | (simp; omega)) rfl ?_ | refine ox_stores rfl rfl (by first | omega | (simp; done) | (simp; omega)) rfl (by first | (simp only [List.set_cons_zero, List.set_cons_succ, Nat.zero_add, Nat.reduceAdd]; rfl) | rfl) ?_ | refine o1_nilCheck rfl ?_)
    refine nx_again (i + 1) (by omega) (by omega) (cov_cons rfl rfl (cov_cons rfl rfl (cov_cons rfl rfl (cov_cons rfl rfl cov_nil)))) ?_
    (try dsimp only [List.cons_append, List.nil_append, List.singleton_append, List.append_nil]); (repeat (first | exact Ent.nil | exact Ent.refl _ | (apply Ent.cons; (repeat (first | exact Sel.here | apply Sel.there)))))
  · have : i = nw n := by omega
    subst this
    rw [partL_full hz hl0.symm]
    repeat' (first | refine ls_of rfl ?_ | refine ls_of_no ?_ | refine ls_guard_yes rfl rfl ?_ | refine ls_guard_no rfl rfl rfl rfl ?_ | refine ls_guard_un rfl rfl rfl ?_ | refine o1_move rfl ?_ | refine o1_assign rfl ?_ | refine st_seq ?_ | refine st_region ?_ | refine st_block ?_ | refine st_skip ?_ | refine st_ret ?_ | refine st_exit ?_ | refine st_cond_t rfl ?_ | refine st_cond_f rfl ?_ | refine st_cond rfl (fun _ => ?_) (fun _ => ?_) | refine ls_nil ?_ | refine nx_seq ?_ | refine nx_blk ?_ | refine nx_fn ?_ | refine nx_rounds ?_ | refine xt_seq ?_ | refine xt_here ?_ | refine xt_on rfl ?_ | refine xt_rounds ?_ | refine xt_cut ?_ | refine rt_seq ?_ | refine rt_blk ?_ | refine rt_rounds ?_ | refine rt_cut ?_ | refine o1_pick_t rfl rfl ?_ | refine o1_pick_f rfl rfl ?_ | refine o1_fieldAddr rfl ?_ | refine ox_load rfl (by rfl) ?_ | refine ox_load_enc rfl (by first | omega | (simp; omega)) ?_ | refine ox_load_any rfl (by assumption) ?_ | refine o1_len rfl ?_ | refine o1_add rfl rfl (by omega) ?_ | refine o1_lss_t rfl rfl (by omega) ?_ | refine o1_lss_f rfl rfl (by omega) ?_ | refine o1_lss rfl rfl (fun _ => ?_) (fun _ => ?_) | refine o1_neq_t rfl rfl (by omega) ?_ | refine o1_neq_f rfl rfl (by omega) ?_ | refine o1_neq rfl rfl (fun _ => ?_) (fun _ => ?_) | refine o1_uxor rfl rfl ?_ | refine o1_slice_nil rfl ?_ | refine ox_store_enc B rfl rfl (by first | omega | (simp; done) | (simp; omega)) rfl ?_ | refine ox_stores rfl rfl (by first | omega | (simp; done) | (simp; omega)) rfl (by first | (simp only [List.set_cons_zero, List.set_cons_succ, Nat.zero_add, Nat.reduceAdd]; rfl) | rfl) ?_ | refine o1_nilCheck rfl ?_)
    refine rt_tmp () rfl rfl rfl trivial ?_
    rw [hL1]
    (try dsimp only [List.cons_append, List.nil_append, List.singleton_append, List.append_nil]); (repeat (first | exact Ent.nil | exact Ent.refl _ | (apply Ent.cons; (repeat (first | exact Sel.here | apply Sel.there)))))
end Go.Dp

set_option linter.unusedVariables false
set_option linter.unusedSimpArgs false
namespace Go.Dp
open Go.RowKit Go.Proofs
def rtV7_0 : List Row := [⟨some 30, [], [], none⟩, ⟨some 31, [], [], none⟩, ⟨some 32, [], [], none⟩, ⟨some 33, [], [], none⟩, ⟨some 34, [2, 3], [2, 3], none⟩, ⟨some 35, [1, 4], [1, 2, 3, 4], none⟩, ⟨some 36, [], [], none⟩, ⟨some 37, [5, 6, 5], [1, 2, 3, 4, 5, 6], none⟩, ⟨some 38, [], [], none⟩, ⟨some 39, [], [], none⟩, ⟨some 40, [8, 9], [8, 9], none⟩, ⟨some 41, [7, 10, 7], [1, 2, 3, 4, 5, 6, 7, 8, 9, 10], none⟩, ⟨some 42, [0, 11, 11], [0, 1, 2, 3, 4, 5, 6, 7, 8, 9, 10, 11], none⟩, ⟨some 9, [12, 12, 0, 1, 2, 3, 4, 5, 6, 7, 8, 9, 10, 11, 12], [0, 1, 2, 3, 4, 5, 6, 7, 8, 9, 10, 11, 12], none⟩]
theorem awake_bytes : bytesV (bitsOf 10 [1, 9, 10, -1]) = [2#8, 2#8] := by decide +kernel
theorem awake_count : countV (bitsOf 10 [1, 9, 10, -1]) = 2 := by decide
theorem awake_first : firstV (bitsOf 10 [1, 9, 10, -1]) = 1 := by decide
theorem awake5 (H : List Hl) (ht : TabF (stars H)) : Spec Tryd.prog 14 [] H (fun _ : Unit => True) (fun _ => .bool true) (fun _ => H) := by
  refine spec_pure (res := fun _ => []) H Tryd.func14 rfl Tryd.ntmps14 (by kernel_rfl) rfl (fun W => ?_)
  obtain ⟨B0, hB0⟩ : ∃ B0, bitsOf 10 [1, 9, 10, -1] = B0 := ⟨_, rfl⟩
  have h1 := awake_bytes
  have h2 := awake_count
  have h3 := awake_first
  rw [hB0] at h1 h2 h3
  have hl : B0.length = 10 := by rw [← hB0, bitsOf_len]
  repeat' (first | refine ls_of rfl ?_ | refine ls_of_no ?_ | refine ls_guard_yes rfl rfl ?_ | refine ls_guard_no rfl rfl rfl rfl ?_ | refine ls_guard_un rfl rfl rfl ?_ | refine o1_move rfl ?_ | refine o1_assign rfl ?_ | refine st_seq ?_ | refine st_region ?_ | refine st_block ?_ | refine st_skip ?_ | refine st_ret ?_ | refine st_exit ?_ | refine st_cond_t rfl ?_ | refine st_cond_f rfl ?_ | refine st_cond rfl (fun _ => ?_) (fun _ => ?_) | refine ls_nil ?_ | refine nx_seq ?_ | refine nx_blk ?_ | refine nx_fn ?_ | refine nx_rounds ?_ | refine xt_seq ?_ | refine xt_here ?_ | refine xt_on rfl ?_ | refine xt_rounds ?_ | refine xt_cut ?_ | refine rt_seq ?_ | refine rt_blk ?_ | refine rt_rounds ?_ | refine rt_cut ?_ | refine o1_lit_enc I [1, 9, 10, -1] rfl rfl rfl (fun _ => rfl) rfl rfl rfl (fun b2 => ?_) | (refine o1_call (fun hh => vec_Of _ 10 (some ⟨b2, 0, none⟩) 4 [1, 9, 10, -1] (by decide) (rx_box (T := 3) rfl (by decide) hh)) rfl (fun ⟨b1, a1, c1⟩ _ => ?_); dsimp only; rw [hB0]) | (refine o1_call (fun hh => vec_Bytes _ ⟨b1, 10, a1, c1, B0⟩ (RdV.own hl (by decide) hh)) rfl (fun b5 _ => ?_); dsimp only; rw [h1]) | refine o1_string (xs := [2#8, 2#8]) rfl rfl (rx_box (b := b5) (T := 5) rfl (by decide)) ?_ | refine o1_call (fun hh => (vec_Count _ ⟨b1, 10, a1, c1, B0⟩ (RdV.own hl (by decide) hh)).vv (b := I 2) (by rw [h2]; rfl)) rfl (fun _ _ => ?_) | refine o1_call (fun hh => (vec_First _ ⟨b1, 10, a1, c1, B0⟩ (RdV.own hl (by decide) hh) ht.up).vv (b := I 1) (by rw [h3])) rfl (fun _ _ => ?_) | refine o1_pick_t rfl rfl ?_ | refine o1_pick_f rfl rfl ?_ | refine o1_eql_t rfl rfl (by omega) ?_ | refine o1_eql_f rfl rfl (by omega) ?_ | refine o1_eql rfl rfl (fun _ => ?_) (fun _ => ?_) | refine o1_streq rfl rfl (fun _ => ?_) (fun _ => ?_) | refine o1_string rfl (by rfl) rx_row ?_ | refine o1_string rfl (by rfl) (rx_any (by assumption)) ?_ | refine o1_strlit (r := true) rfl rfl (by kernel_rfl) ?_ | refine o1_lit_B rfl rfl rfl rfl rfl (fun _ => ?_))
  refine rt_tmp () rfl rfl rfl trivial ?_
  (try dsimp only [List.cons_append, List.nil_append, List.singleton_append, List.append_nil]); (repeat (first | exact Ent.nil | exact Ent.refl _ | (apply Ent.cons; (repeat (first | exact Sel.here | apply Sel.there)))))
theorem set_back {l : List Bool} {m : Nat} (h : m < l.length) (b : Bool) : (l.set m b).set m (at_ l m) = l := by
  rw [List.set_set]
  have : at_ l m = l[m] := by show l.getD m false = _; rw [List.getD_eq_getElem?_getD, List.getElem?_eq_getElem h]; rfl
  rw [this]
  exact List.set_getElem_self h
set_option maxHeartbeats 4000000 in
theorem VecSets_law (H : List Hl) (n i : Int) (ad : Option Addr) (c : Nat) (l : List Int) (h : Rs (stars H) I ad c l) (ht : TabF (stars H)) (hn : -9223372036854775808 ≤ n ∧ n ≤ 9223372036854775807) (hi : -9223372036854775808 ≤ i ∧ i ≤ 9223372036854775807) :
    Spec Tryd.prog 3 [I n, .slice ad l.length c, I i] H (fun _ : Unit => True) (fun _ => .bool true) (fun _ => H) := by
  have b3 := h.le
  have b4 := h.big
  refine spec_pure (res := fun _ => []) H Tryd.func3 rfl Tryd.ntmps3 (by kernel_rfl) rfl (fun W => ?_)
  by_cases hll : 300 < l.length
  · repeat' (first | refine ls_of rfl ?_ | refine ls_of_no ?_ | refine ls_guard_yes rfl rfl ?_ | refine ls_guard_no rfl rfl rfl rfl ?_ | refine ls_guard_un rfl rfl rfl ?_ | refine o1_move rfl ?_ | refine o1_assign rfl ?_ | refine st_seq ?_ | refine st_region ?_ | refine st_block ?_ | refine st_skip ?_ | refine st_ret ?_ | refine st_exit ?_ | refine st_cond_t rfl ?_ | refine st_cond_f rfl ?_ | refine st_cond rfl (fun _ => ?_) (fun _ => ?_) | refine ls_nil ?_ | refine nx_seq ?_ | refine nx_blk ?_ | refine nx_fn ?_ | refine nx_rounds ?_ | refine xt_seq ?_ | refine xt_here ?_ | refine xt_on rfl ?_ | refine xt_rounds ?_ | refine xt_cut ?_ | refine rt_seq ?_ | refine rt_blk ?_ | refine rt_rounds ?_ | refine rt_cut ?_ | refine o1_call (fun _ => awake5 _ ht.up) rfl (fun _ _ => ?_) | refine o1_pick_t rfl rfl ?_ | refine o1_pick_f rfl rfl ?_ | refine o1_len rfl ?_ | refine o1_add rfl rfl (by omega) ?_ | refine o1_sub rfl rfl (by omega) ?_ | refine o1_gtr_t rfl rfl (by omega) ?_ | refine o1_gtr_f rfl rfl (by omega) ?_ | refine o1_gtr rfl rfl (fun _ => ?_) (fun _ => ?_) | refine o1_eql_t rfl rfl (by omega) ?_ | refine o1_eql_f rfl rfl (by omega) ?_ | refine o1_eql rfl rfl (fun _ => ?_) (fun _ => ?_) | refine o1_neq_t rfl rfl (by omega) ?_ | refine o1_neq_f rfl rfl (by omega) ?_ | refine o1_neq rfl rfl (fun _ => ?_) (fun _ => ?_) | refine o1_bnot rfl ?_ | refine o1_unot rfl ?_ | refine o1_conv_i rfl (by omega) ?_ | refine o1_conv_ui rfl (by exact bv_small (by decide) _) ?_ | refine o1_conv_u64 rfl (by omega) ?_ | refine o1_conv_iu rfl ?_ | refine o1_rem_nn rfl rfl (by omega) ?_ | refine o1_eqb rfl rfl ?_)
    refine rt_tmp () rfl rfl rfl trivial ?_
    (try dsimp only [List.cons_append, List.nil_append, List.singleton_append, List.append_nil]); (repeat (first | exact Ent.nil | exact Ent.refl _ | (apply Ent.cons; (repeat (first | exact Sel.here | apply Sel.there)))))
  obtain ⟨N, hN, hN1, hN2⟩ : ∃ N : Nat, 1 + ((BitVec.ofInt 64 n).toNat : Int) % 256 = N ∧ 1 ≤ N ∧ N ≤ 256 := ⟨1 + (BitVec.ofInt 64 n).toNat % 256, by rw [Int.natCast_add, Int.natCast_emod]; rfl, by omega, by omega⟩
  obtain ⟨m, hm, hmN⟩ : ∃ m : Nat, ((BitVec.ofInt 64 i).toNat : Int) % N = m ∧ m < N := ⟨(BitVec.ofInt 64 i).toNat % N, (Int.natCast_emod _ _).symm, Nat.mod_lt _ (by omega)⟩
  obtain ⟨B0, hB0⟩ : ∃ B0, bitsOf N l = B0 := ⟨_, rfl⟩
  have hl0 : B0.length = N := by rw [← hB0, bitsOf_len]
  obtain ⟨was, hwas⟩ : ∃ was, at_ B0 m = was := ⟨_, rfl⟩
  obtain ⟨B1, hB1⟩ : ∃ B1, B0.set m (!was) = B1 := ⟨_, rfl⟩
  have hl1 : B1.length = N := by rw [← hB1, List.length_set]; exact hl0
  have hS1 : setB B0 m (!was) = B1 := by rw [setB_nat _ _ _ (by omega), hB1]
  have hS2 : setB B1 m was = B0 := by rw [setB_nat _ _ _ (by omega), ← hB1, ← hwas]; exact set_back (by omega) _
  have hS3 : setB B0 N true = B0 := setB_out _ _ _ (by omega)
  have hS4 : setB B0 (-1) true = B0 := setB_out _ _ _ (by omega)
  have hH0 : hasV B0 m = was := by rw [hasV_nat, hwas]
  have hH1 : hasV B1 m = !was := by
    rw [hasV_nat, ← hB1]
    show (B0.set m (!was)).getD m false = !was
    rw [atD_set, if_pos ⟨rfl, by omega⟩]
  have hne : decide (B0 = B1) = false := by
    refine decide_eq_false (fun e => ?_)
    rw [← e, hH0] at hH1
    cases was <;> cases hH1
  have hd := countV_set B0 m (!was) (by omega)
  rw [hB1, hwas] at hd
  have hc0 : countV B0 ≤ B0.length := cnt_le _ _
  have hc1 : countV B1 ≤ B1.length := cnt_le _ _
  have hi1 : inV N m = true := inV_of (by omega) (by omega)
  have hi2 : inV N N = false := inV_not (by omega)
  have hi3 : inV N (-1) = false := inV_not (by omega)
  cases was
  all_goals simp at hd
  all_goals
    repeat' (first | refine ls_of rfl ?_ | refine ls_of_no ?_ | refine ls_guard_yes rfl rfl ?_ | refine ls_guard_no rfl rfl rfl rfl ?_ | refine ls_guard_un rfl rfl rfl ?_ | refine o1_move rfl ?_ | refine o1_assign rfl ?_ | refine st_seq ?_ | refine st_region ?_ | refine st_block ?_ | refine st_skip ?_ | refine st_ret ?_ | refine st_exit ?_ | refine st_cond_t rfl ?_ | refine st_cond_f rfl ?_ | refine st_cond rfl (fun _ => ?_) (fun _ => ?_) | refine ls_nil ?_ | refine nx_seq ?_ | refine nx_blk ?_ | refine nx_fn ?_ | refine nx_rounds ?_ | refine xt_seq ?_ | refine xt_here ?_ | refine xt_on rfl ?_ | refine xt_rounds ?_ | refine xt_cut ?_ | refine rt_seq ?_ | refine rt_blk ?_ | refine rt_rounds ?_ | refine rt_cut ?_ | (refine o1_add rfl rfl (by omega) ?_; rw [hN]) | (refine o1_rem_nn rfl rfl (by omega) ?_; rw [hm]) | (refine o1_call (fun _ => vec_Of _ N ad c l (by omega) h.up) rfl (fun ⟨b7, a7, c7⟩ _ => ?_); dsimp only; rw [hB0]) | (refine o1_call (fun hh => vec_Copy _ ⟨b7, N, a7, c7, B0⟩ (RdV.own hl0 hN2 hh)) rfl (fun ⟨b8, a8, c8⟩ _ => ?_); dsimp only) | refine o1_call (fun hh => (vec_Has _ ⟨b7, N, a7, c7, B0⟩ m (RdV.own hl0 hN2 hh)).bv hH0) rfl (fun _ _ => ?_) | (refine o1_call_br b8 a8 c8 (fun _ => (vec_Set _ b8 N a8 c8 B0 m _ hl0 hN2).bv hi1) rfl (fun _ _ => ?_); rw [hS1]) | refine o1_call (fun hh => (vec_Has _ ⟨b8, N, a8, c8, B1⟩ m (RdV.own hl1 hN2 hh)).bv hH1) rfl (fun _ _ => ?_) | refine o1_call (fun hh => (vec_Same _ ⟨b7, N, a7, c7, B0⟩ ⟨b8, N, a8, c8, B1⟩ (RdV.own hl0 hN2 hh) (RdV.own hl1 hN2 hh)).bv hne) rfl (fun _ _ => ?_) | (refine o1_call (fun hh => vec_Count _ ⟨b8, N, a8, c8, B1⟩ (RdV.own hl1 hN2 hh)) rfl (fun _ _ => ?_); dsimp only) | (refine o1_call (fun hh => vec_Count _ ⟨b7, N, a7, c7, B0⟩ (RdV.own hl0 hN2 hh)) rfl (fun _ _ => ?_); dsimp only) | (refine o1_call_br b8 a8 c8 (fun _ => (vec_Set _ b8 N a8 c8 B1 m _ hl1 hN2).bv hi1) rfl (fun _ _ => ?_); rw [hS2]) | refine o1_call (fun hh => (vec_Same _ ⟨b7, N, a7, c7, B0⟩ ⟨b8, N, a8, c8, B0⟩ (RdV.own hl0 hN2 hh) (RdV.own hl0 hN2 hh)).bv (b := true) (by simp)) rfl (fun _ _ => ?_) | (refine o1_call_br b8 a8 c8 (fun _ => (vec_Set _ b8 N a8 c8 B0 N true hl0 hN2).bv hi2) rfl (fun _ _ => ?_); rw [hS3]) | (refine o1_call_br b8 a8 c8 (fun _ => (vec_Set _ b8 N a8 c8 B0 (-1) true hl0 hN2).bv hi3) rfl (fun _ _ => ?_); rw [hS4]) | refine o1_call (fun _ => awake5 _ ht.up) rfl (fun _ _ => ?_) | refine o1_pick_t rfl rfl ?_ | refine o1_pick_f rfl rfl ?_ | refine o1_len rfl ?_ | refine o1_add rfl rfl (by omega) ?_ | refine o1_sub rfl rfl (by omega) ?_ | refine o1_gtr_t rfl rfl (by omega) ?_ | refine o1_gtr_f rfl rfl (by omega) ?_ | refine o1_gtr rfl rfl (fun _ => ?_) (fun _ => ?_) | refine o1_eql_t rfl rfl (by omega) ?_ | refine o1_eql_f rfl rfl (by omega) ?_ | refine o1_eql rfl rfl (fun _ => ?_) (fun _ => ?_) | refine o1_neq_t rfl rfl (by omega) ?_ | refine o1_neq_f rfl rfl (by omega) ?_ | refine o1_neq rfl rfl (fun _ => ?_) (fun _ => ?_) | refine o1_bnot rfl ?_ | refine o1_unot rfl ?_ | refine o1_conv_i rfl (by omega) ?_ | refine o1_conv_ui rfl (by exact bv_small (by decide) _) ?_ | refine o1_conv_u64 rfl (by omega) ?_ | refine o1_conv_iu rfl ?_ | refine o1_rem_nn rfl rfl (by omega) ?_ | refine o1_eqb rfl rfl ?_)
    refine rt_tmp () rfl rfl rfl trivial ?_
    (try dsimp only [List.cons_append, List.nil_append, List.singleton_append, List.append_nil]); (repeat (first | exact Ent.nil | exact Ent.refl _ | (apply Ent.cons; (repeat (first | exact Sel.here | apply Sel.there)))))
set_option maxHeartbeats 4000000 in
theorem VecOrder_law (H : List Hl) (n turn : Int) (ad : Option Addr) (c : Nat) (l : List Int) (h : Rs (stars H) I ad c l) (ht : TabF (stars H)) (hn : -9223372036854775808 ≤ n ∧ n ≤ 9223372036854775807) (hi : -9223372036854775808 ≤ turn ∧ turn ≤ 9223372036854775807) :
    Spec Tryd.prog 4 [I n, .slice ad l.length c, I turn] H (fun _ : Unit => True) (fun _ => .bool true) (fun _ => H) := by
  have b3 := h.le
  have b4 := h.big
  refine spec_pure (res := fun _ => []) H Tryd.func4 rfl Tryd.ntmps4 (by kernel_rfl) rfl (fun W => ?_)
  by_cases hll : 300 < l.length
  · repeat' (first | refine ls_of rfl ?_ | refine ls_of_no ?_ | refine ls_guard_yes rfl rfl ?_ | refine ls_guard_no rfl rfl rfl rfl ?_ | refine ls_guard_un rfl rfl rfl ?_ | refine o1_move rfl ?_ | refine o1_assign rfl ?_ | refine st_seq ?_ | refine st_region ?_ | refine st_block ?_ | refine st_skip ?_ | refine st_ret ?_ | refine st_exit ?_ | refine st_cond_t rfl ?_ | refine st_cond_f rfl ?_ | refine st_cond rfl (fun _ => ?_) (fun _ => ?_) | refine ls_nil ?_ | refine nx_seq ?_ | refine nx_blk ?_ | refine nx_fn ?_ | refine nx_rounds ?_ | refine xt_seq ?_ | refine xt_here ?_ | refine xt_on rfl ?_ | refine xt_rounds ?_ | refine xt_cut ?_ | refine rt_seq ?_ | refine rt_blk ?_ | refine rt_rounds ?_ | refine rt_cut ?_ | refine o1_call (fun _ => awake5 _ ht.up) rfl (fun _ _ => ?_) | refine o1_pick_t rfl rfl ?_ | refine o1_pick_f rfl rfl ?_ | refine o1_len rfl ?_ | refine o1_add rfl rfl (by omega) ?_ | refine o1_gtr_t rfl rfl (by omega) ?_ | refine o1_gtr_f rfl rfl (by omega) ?_ | refine o1_gtr rfl rfl (fun _ => ?_) (fun _ => ?_) | refine o1_eql_t rfl rfl (by omega) ?_ | refine o1_eql_f rfl rfl (by omega) ?_ | refine o1_eql rfl rfl (fun _ => ?_) (fun _ => ?_) | refine o1_conv_i rfl (by omega) ?_ | refine o1_conv_ui rfl (by exact bv_small (by decide) _) ?_ | refine o1_conv_u64 rfl (by omega) ?_ | refine o1_conv_iu rfl ?_ | refine o1_rem_nn rfl rfl (by omega) ?_ | refine o1_lit_B rfl rfl rfl rfl rfl (fun _ => ?_) | refine ox_append rfl rfl (rx_box rfl (by first | decide | omega)) rfl rfl (fun _ => rfl) (by omega) (by omega) (fun _ _ => ?_) | refine ox_append rfl rfl (rx_any (by assumption)) rfl rfl (fun _ => rfl) (by omega) (by omega) (fun _ _ => ?_) | refine ox_append rfl rfl rx_row rfl rfl (fun _ => rfl) (by omega) (by omega) (fun _ _ => ?_))
    refine rt_tmp () rfl rfl rfl trivial ?_
    (try dsimp only [List.cons_append, List.nil_append, List.singleton_append, List.append_nil]); (repeat (first | exact Ent.nil | exact Ent.refl _ | (apply Ent.cons; (repeat (first | exact Sel.here | apply Sel.there)))))
  obtain ⟨N, hN, hN2⟩ : ∃ N : Nat, ((BitVec.ofInt 64 n).toNat : Int) % 257 = N ∧ N ≤ 256 := ⟨(BitVec.ofInt 64 n).toNat % 257, (Int.natCast_emod _ _).symm, by omega⟩
  obtain ⟨k, hk, hkl⟩ : ∃ k : Nat, ((BitVec.ofInt 64 turn).toNat : Int) % ((l.length : Int) + 1) = k ∧ k ≤ l.length := ⟨(BitVec.ofInt 64 turn).toNat % (l.length + 1), (Int.natCast_emod _ _).symm, by have := Nat.mod_lt (BitVec.ofInt 64 turn).toNat (show 0 < l.length + 1 by omega); omega⟩
  obtain ⟨B0, hB0⟩ : ∃ B0, bitsOf N l = B0 := ⟨_, rfl⟩
  have hl0 : B0.length = N := by rw [← hB0, bitsOf_len]
  have hturn : bitsOf N ((l.drop k ++ l) ++ l.take k) = B0 := by rw [bitsOf_turn, hB0]
  have hback : bitsOf N (listV B0) = B0 := by rw [← hl0]; exact bitsOf_listV B0
  have hcl : ((countV B0 : Nat) : Int) = (listV B0).length := by rw [listV_len]; rfl
  repeat' (first | refine ls_of rfl ?_ | refine ls_of_no ?_ | refine ls_guard_yes rfl rfl ?_ | refine ls_guard_no rfl rfl rfl rfl ?_ | refine ls_guard_un rfl rfl rfl ?_ | refine o1_move rfl ?_ | refine o1_assign rfl ?_ | refine st_seq ?_ | refine st_region ?_ | refine st_block ?_ | refine st_skip ?_ | refine st_ret ?_ | refine st_exit ?_ | refine st_cond_t rfl ?_ | refine st_cond_f rfl ?_ | refine st_cond rfl (fun _ => ?_) (fun _ => ?_) | refine ls_nil ?_ | refine nx_seq ?_ | refine nx_blk ?_ | refine nx_fn ?_ | refine nx_rounds ?_ | refine xt_seq ?_ | refine xt_here ?_ | refine xt_on rfl ?_ | refine xt_rounds ?_ | refine xt_cut ?_ | refine rt_seq ?_ | refine rt_blk ?_ | refine rt_rounds ?_ | refine rt_cut ?_ | refine o1_call (fun _ => awake5 _ ht.up) rfl (fun _ _ => ?_) | (refine o1_rem_nn rfl rfl (by omega) ?_; rw [hN]) | (refine o1_rem_nn rfl rfl (by omega) ?_; rw [hk]) | (refine o1_call (fun _ => vec_Of _ N ad c l (by omega) h.up) rfl (fun ⟨b7, a7, c7⟩ _ => ?_); dsimp only; rw [hB0]) | refine o1_pick_t rfl rfl ?_ | refine o1_pick_f rfl rfl ?_ | refine o1_len rfl ?_ | refine o1_add rfl rfl (by omega) ?_ | refine o1_gtr_t rfl rfl (by omega) ?_ | refine o1_gtr_f rfl rfl (by omega) ?_ | refine o1_gtr rfl rfl (fun _ => ?_) (fun _ => ?_) | refine o1_eql_t rfl rfl (by omega) ?_ | refine o1_eql_f rfl rfl (by omega) ?_ | refine o1_eql rfl rfl (fun _ => ?_) (fun _ => ?_) | refine o1_conv_i rfl (by omega) ?_ | refine o1_conv_ui rfl (by exact bv_small (by decide) _) ?_ | refine o1_conv_u64 rfl (by omega) ?_ | refine o1_conv_iu rfl ?_ | refine o1_rem_nn rfl rfl (by omega) ?_ | refine o1_lit_B rfl rfl rfl rfl rfl (fun _ => ?_) | refine ox_append rfl rfl (rx_box rfl (by first | decide | omega)) rfl rfl (fun _ => rfl) (by omega) (by omega) (fun _ _ => ?_) | refine ox_append rfl rfl (rx_any (by assumption)) rfl rfl (fun _ => rfl) (by omega) (by omega) (fun _ _ => ?_) | refine ox_append rfl rfl rx_row rfl rfl (fun _ => rfl) (by omega) (by omega) (fun _ _ => ?_))
  refine st_stages [(0, _), (1, _), (7, _)] rtV7_0 [1, 5, 7, 11, 12] [⟨[0, 2, 3, 4, 6, 8, 9, 10], [], some 1⟩, ⟨[], [0, 2, 3, 4, 6, 8, 9, 10], some 5⟩, ⟨[], [0, 6, 8, 9, 10], some 7⟩, ⟨[], [0, 8, 9, 10], some 11⟩, ⟨[], [0], some 12⟩, ⟨[13], [], none⟩] mixed (cov_cons rfl rfl (cov_cons rfl rfl (cov_cons rfl rfl cov_nil))) (by kernel_rfl) (by kernel_rfl) ?_
  all_goals refine wk_ch ?_
  all_goals (refine xp1 0 rfl rfl rfl rfl (by refine o1_move rfl fz) ?_)
  all_goals (refine xp1 1 rfl rfl rfl rfl (by refine o1_move rfl fz) ?_)
  all_goals (refine xp1 7 rfl rfl rfl rfl (by refine o1_move rfl fz) ?_)
  all_goals (refine xp2 32 33 rfl rfl rfl rfl rfl (by first | refine o1_cs_l (xs := l) k rfl rfl rfl rfl (by omega) fz | refine o1_cs_h (xs := l) k rfl rfl rfl rfl (by omega) (by omega) fz) ?_)
  all_goals (refine xp1 1 rfl rfl rfl rfl (by refine o1_move rfl fz) ?_)
  all_goals (refine xp1 1 rfl rfl rfl rfl (by refine o1_move rfl fz) ?_)
  all_goals (refine xp1 7 rfl rfl rfl rfl (by refine o1_move rfl fz) ?_)
  all_goals (refine xp2 38 39 rfl rfl rfl rfl rfl (by first | refine o1_cs_l (xs := l) k rfl rfl rfl rfl (by omega) fz | refine o1_cs_h (xs := l) k rfl rfl rfl rfl (by omega) (by omega) fz) ?_)
  all_goals refine op_nil ?_
  all_goals refine re_nil ?_
  all_goals first | (refine ch_run (E' := []) rfl (gd_r0 rfl) rfl cov_nil ?_; (first | (refine o1_lit_enc I ([] : List Int) rfl rfl rfl (fun _ => rfl) rfl rfl rfl (fun b31 => ?_)) | refine o1_lit_B rfl rfl rfl rfl rfl (fun _ => ?_)))
  all_goals refine wk_ch ?_
  all_goals refine op_nil ?_
  all_goals (refine xq1 0 rfl rfl rfl rfl rfl (by refine o1_move rfl fz) ?_)
  all_goals (refine xq1 1 rfl rfl rfl rfl rfl (by refine o1_move rfl fz) ?_)
  all_goals (refine xq1 7 rfl rfl rfl rfl rfl (by refine o1_move rfl fz) ?_)
  all_goals (refine xq2 32 33 rfl rfl rfl rfl rfl rfl (by first | refine o1_cs_l (xs := l) k rfl rfl rfl rfl (by omega) fz | refine o1_cs_h (xs := l) k rfl rfl rfl rfl (by omega) (by omega) fz) ?_)
  all_goals (refine xq1 1 rfl rfl rfl rfl rfl (by refine o1_move rfl fz) ?_)
  all_goals (refine xq1 1 rfl rfl rfl rfl rfl (by refine o1_move rfl fz) ?_)
  all_goals (refine xq1 7 rfl rfl rfl rfl rfl (by refine o1_move rfl fz) ?_)
  all_goals (refine xq2 38 39 rfl rfl rfl rfl rfl rfl (by first | refine o1_cs_l (xs := l) k rfl rfl rfl rfl (by omega) fz | refine o1_cs_h (xs := l) k rfl rfl rfl rfl (by omega) (by omega) fz) ?_)
  all_goals refine re_nil ?_
  all_goals first | (refine ch_run (E' := [(31, _), (34, _)]) rfl (gd_r0 rfl) rfl (cov_cons rfl rfl (cov_cons rfl rfl cov_nil)) ?_; (first | (refine ox_append_box (enc := I) (b := b31) (xs := ([] : List Int)) (ys := l.drop k) rfl rfl rfl rfl (rx_any (h.cutl k (by omega))) rfl rfl (fun _ => rfl) (by simp; omega) (by simp; omega) (fun a35 c35 => ?_); rw [Nat.zero_add, List.nil_append]) | (refine ox_appendL (enc := I) (ad := a35) (c := c35) (xs := l.drop k) (ys := l) rfl rfl (rx_any h) rfl (fun _ => rfl) (by simp; omega) (by simp; omega) (fun a37 c37 => ?_)) | (refine ox_appendL (enc := I) (ad := a37) (c := c37) (xs := l.drop k ++ l) (ys := l.take k) rfl rfl (rx_any (h.cuth k (by omega))) rfl (fun _ => rfl) (by simp; omega) (by simp; omega) (fun a41 c41 => ?_)) | refine ox_append rfl rfl (rx_box rfl (by first | decide | omega)) rfl rfl (fun _ => rfl) (by omega) (by omega) (fun _ _ => ?_) | refine ox_append rfl rfl (rx_any (by assumption)) rfl rfl (fun _ => rfl) (by omega) (by omega) (fun _ _ => ?_) | refine ox_append rfl rfl rx_row rfl rfl (fun _ => rfl) (by omega) (by omega) (fun _ _ => ?_)))
  all_goals refine wk_ch ?_
  all_goals refine op_nil ?_
  all_goals (refine xq1 0 rfl rfl rfl rfl rfl (by refine o1_move rfl fz) ?_)
  all_goals (refine xq1 1 rfl rfl rfl rfl rfl (by refine o1_move rfl fz) ?_)
  all_goals (refine xq1 1 rfl rfl rfl rfl rfl (by refine o1_move rfl fz) ?_)
  all_goals (refine xq1 7 rfl rfl rfl rfl rfl (by refine o1_move rfl fz) ?_)
  all_goals (refine xq2 38 39 rfl rfl rfl rfl rfl rfl (by first | refine o1_cs_l (xs := l) k rfl rfl rfl rfl (by omega) fz | refine o1_cs_h (xs := l) k rfl rfl rfl rfl (by omega) (by omega) fz) ?_)
  all_goals refine re_nil ?_
  all_goals first | (refine ch_run (E' := [(35, _), (36, _)]) rfl (gd_r0 rfl) rfl (cov_cons rfl rfl (cov_cons rfl rfl cov_nil)) ?_; (first | (refine ox_append_box (enc := I) (b := b31) (xs := ([] : List Int)) (ys := l.drop k) rfl rfl rfl rfl (rx_any (h.cutl k (by omega))) rfl rfl (fun _ => rfl) (by simp; omega) (by simp; omega) (fun a35 c35 => ?_); rw [Nat.zero_add, List.nil_append]) | (refine ox_appendL (enc := I) (ad := a35) (c := c35) (xs := l.drop k) (ys := l) rfl rfl (rx_any h) rfl (fun _ => rfl) (by simp; omega) (by simp; omega) (fun a37 c37 => ?_)) | (refine ox_appendL (enc := I) (ad := a37) (c := c37) (xs := l.drop k ++ l) (ys := l.take k) rfl rfl (rx_any (h.cuth k (by omega))) rfl (fun _ => rfl) (by simp; omega) (by simp; omega) (fun a41 c41 => ?_)) | refine ox_append rfl rfl (rx_box rfl (by first | decide | omega)) rfl rfl (fun _ => rfl) (by omega) (by omega) (fun _ _ => ?_) | refine ox_append rfl rfl (rx_any (by assumption)) rfl rfl (fun _ => rfl) (by omega) (by omega) (fun _ _ => ?_) | refine ox_append rfl rfl rx_row rfl rfl (fun _ => rfl) (by omega) (by omega) (fun _ _ => ?_)))
  all_goals refine wk_ch ?_
  all_goals refine op_nil ?_
  all_goals (refine xq1 0 rfl rfl rfl rfl rfl (by refine o1_move rfl fz) ?_)
  all_goals (refine xq1 1 rfl rfl rfl rfl rfl (by refine o1_move rfl fz) ?_)
  all_goals (refine xq1 7 rfl rfl rfl rfl rfl (by refine o1_move rfl fz) ?_)
  all_goals (refine xq2 38 39 rfl rfl rfl rfl rfl rfl (by first | refine o1_cs_l (xs := l) k rfl rfl rfl rfl (by omega) fz | refine o1_cs_h (xs := l) k rfl rfl rfl rfl (by omega) (by omega) fz) ?_)
  all_goals refine re_nil ?_
  all_goals first | (refine ch_run (E' := [(37, _), (40, _)]) rfl (gd_r0 rfl) rfl (cov_cons rfl rfl (cov_cons rfl rfl cov_nil)) ?_; (first | (refine ox_append_box (enc := I) (b := b31) (xs := ([] : List Int)) (ys := l.drop k) rfl rfl rfl rfl (rx_any (h.cutl k (by omega))) rfl rfl (fun _ => rfl) (by simp; omega) (by simp; omega) (fun a35 c35 => ?_); rw [Nat.zero_add, List.nil_append]) | (refine ox_appendL (enc := I) (ad := a35) (c := c35) (xs := l.drop k) (ys := l) rfl rfl (rx_any h) rfl (fun _ => rfl) (by simp; omega) (by simp; omega) (fun a37 c37 => ?_)) | (refine ox_appendL (enc := I) (ad := a37) (c := c37) (xs := l.drop k ++ l) (ys := l.take k) rfl rfl (rx_any (h.cuth k (by omega))) rfl (fun _ => rfl) (by simp; omega) (by simp; omega) (fun a41 c41 => ?_)) | refine ox_append rfl rfl (rx_box rfl (by first | decide | omega)) rfl rfl (fun _ => rfl) (by omega) (by omega) (fun _ _ => ?_) | refine ox_append rfl rfl (rx_any (by assumption)) rfl rfl (fun _ => rfl) (by omega) (by omega) (fun _ _ => ?_) | refine ox_append rfl rfl rx_row rfl rfl (fun _ => rfl) (by omega) (by omega) (fun _ _ => ?_)))
  all_goals refine wk_ch ?_
  all_goals refine op_nil ?_
  all_goals (refine xq1 0 rfl rfl rfl rfl rfl (by refine o1_move rfl fz) ?_)
  all_goals refine re_nil ?_
  all_goals first | (refine ch_run (E' := [(30, _), (41, _)]) rfl (gd_r0 rfl) rfl (cov_cons rfl rfl (cov_cons rfl rfl cov_nil)) ?_; (first | (refine o1_call (fun hh => vec_Of _ N a41 c41 ((l.drop k ++ l) ++ l.take k) (by omega) (rx_row hh)) rfl (fun ⟨b9, a9, c9⟩ _ => ?_); dsimp only; rw [hturn])))
  all_goals refine wk_end ?_
  all_goals (refine xp1 42 rfl rfl rfl rfl (by refine o1_assign rfl fz) ?_)
  all_goals refine op_nil ?_
  all_goals refine re_nil ?_
  all_goals dsimp only [List.cons_append, List.nil_append]
  repeat' (first | refine ls_of rfl ?_ | refine ls_of_no ?_ | refine ls_guard_yes rfl rfl ?_ | refine ls_guard_no rfl rfl rfl rfl ?_ | refine ls_guard_un rfl rfl rfl ?_ | refine o1_move rfl ?_ | refine o1_assign rfl ?_ | refine st_seq ?_ | refine st_region ?_ | refine st_block ?_ | refine st_skip ?_ | refine st_ret ?_ | refine st_exit ?_ | refine st_cond_t rfl ?_ | refine st_cond_f rfl ?_ | refine st_cond rfl (fun _ => ?_) (fun _ => ?_) | refine ls_nil ?_ | refine nx_seq ?_ | refine nx_blk ?_ | refine nx_fn ?_ | refine nx_rounds ?_ | refine xt_seq ?_ | refine xt_here ?_ | refine xt_on rfl ?_ | refine xt_rounds ?_ | refine xt_cut ?_ | refine rt_seq ?_ | refine rt_blk ?_ | refine rt_rounds ?_ | refine rt_cut ?_ | (refine o1_call (fun hh => vec_List _ ⟨b7, N, a7, c7, B0⟩ (RdV.own hl0 hN2 hh)) rfl (fun ⟨a45, c45⟩ _ => ?_); dsimp only) | (refine o1_call (fun hh => vec_Of _ N a45 c45 (listV B0) (by omega) (rx_row hh)) rfl (fun ⟨b10, a10, c10⟩ _ => ?_); dsimp only; rw [hback]) | refine o1_call (fun hh => (vec_Same _ ⟨b7, N, a7, c7, B0⟩ ⟨b9, N, a9, c9, B0⟩ (RdV.own hl0 hN2 hh) (RdV.own hl0 hN2 hh)).bv (b := true) (by simp)) rfl (fun _ _ => ?_) | refine o1_call (fun hh => (vec_Same _ ⟨b7, N, a7, c7, B0⟩ ⟨b10, N, a10, c10, B0⟩ (RdV.own hl0 hN2 hh) (RdV.own hl0 hN2 hh)).bv (b := true) (by simp)) rfl (fun _ _ => ?_) | (refine o1_call (fun hh => vec_Count _ ⟨b7, N, a7, c7, B0⟩ (RdV.own hl0 hN2 hh)) rfl (fun _ _ => ?_); dsimp only) | refine o1_eql_t rfl rfl hcl ?_ | refine o1_call (fun _ => awake5 _ ht.up) rfl (fun _ _ => ?_) | refine o1_pick_t rfl rfl ?_ | refine o1_pick_f rfl rfl ?_ | refine o1_len rfl ?_ | refine o1_add rfl rfl (by omega) ?_ | refine o1_gtr_t rfl rfl (by omega) ?_ | refine o1_gtr_f rfl rfl (by omega) ?_ | refine o1_gtr rfl rfl (fun _ => ?_) (fun _ => ?_) | refine o1_eql_t rfl rfl (by omega) ?_ | refine o1_eql_f rfl rfl (by omega) ?_ | refine o1_eql rfl rfl (fun _ => ?_) (fun _ => ?_) | refine o1_conv_i rfl (by omega) ?_ | refine o1_conv_ui rfl (by exact bv_small (by decide) _) ?_ | refine o1_conv_u64 rfl (by omega) ?_ | refine o1_conv_iu rfl ?_ | refine o1_rem_nn rfl rfl (by omega) ?_ | refine o1_lit_B rfl rfl rfl rfl rfl (fun _ => ?_) | refine ox_append rfl rfl (rx_box rfl (by first | decide | omega)) rfl rfl (fun _ => rfl) (by omega) (by omega) (fun _ _ => ?_) | refine ox_append rfl rfl (rx_any (by assumption)) rfl rfl (fun _ => rfl) (by omega) (by omega) (fun _ _ => ?_) | refine ox_append rfl rfl rx_row rfl rfl (fun _ => rfl) (by omega) (by omega) (fun _ _ => ?_))
  refine rt_tmp () rfl rfl rfl trivial ?_
  (try dsimp only [List.cons_append, List.nil_append, List.singleton_append, List.append_nil]); (repeat (first | exact Ent.nil | exact Ent.refl _ | (apply Ent.cons; (repeat (first | exact Sel.here | apply Sel.there)))))
end Go.Dp
