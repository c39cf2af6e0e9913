/-
  A region that draws its order, told in stages: what changes memory comes in one order that all keep; the rest gives one value, whenever it is its turn.
  Conditions: none; it holds over whatever program.
-/
import Derived.Test.YtlmmnnhbnbakgaaDoorBm
set_option linter.unusedVariables false
namespace Go.Dp
open Go.RowKit

/-- A stage: what gives its value there, what may still come there, and the operation that may change memory and ends the stage. -/
structure Stg where
  ps : List Nat
  rs : List Nat
  ch : Option Nat
def cloAt (tab : List Row) (i : Nat) : List Nat := ((tab[i]?).map (·.clo)).getD []
def gdAt (tab : List Row) (i : Nat) : Option (Nat × Bool) := (tab[i]?).bind (·.guard)
def cloE (tab : List Row) (i : Nat) (E : Ev) : Ev := E.filter fun x => (cloAt tab i).any fun j => dstAt tab j == some x.1
def envI (tab : List Row) (e : Ev) (i : Nat) (E : Ev) : Ev := cloE tab i E ++ e.filter fun x => keep tab i x.1
def addE (tab : List Row) (i : Nat) (v : Value) (E : Ev) : Ev := match dstAt tab i with | some d => (d, v) :: E | none => E
def gdRun (tab : List Row) (i : Nat) (E : Ev) : Prop := ∀ j b, gdAt tab i = some (j, b) → ∃ d, dstAt tab j = some d ∧ look E d = some (.bool b)
def gdOff (tab : List Row) (i : Nat) (E : Ev) : Prop := ∃ j b d, gdAt tab i = some (j, b) ∧ dstAt tab j = some d ∧ (look E d = some (.bool (!b)) ∨ look E d = some undef)
section
variable (P : Program) (n : Nat) (e : Ev) (tab : List Row) (l : List Oper)
def Op1 (i : Nat) (E : Ev) (H : List Hl) (C : Value → List Hl → Prop) : Prop := gdRun tab i E ∧ ∃ o, l[i]? = some o ∧ O1 P o.op o.type n (envI tab e i E) H C
/-- It gives v, and leaves memory alone. -/
def Pu (i : Nat) (E : Ev) (H : List Hl) (v : Value) : Prop := Op1 P n e tab l i E H fun v' H' => v' = v ∧ ∀ h, stars H' h → stars H h
def OpenP (H : List Hl) : List Nat → Ev → (Ev → Prop) → Prop
  | [], E, C => C E
  | i :: ps, E, C => (gdOff tab i E ∧ OpenP H ps (addE tab i undef E) C) ∨ ∃ v, Pu P n e tab l i E H v ∧ OpenP H ps (addE tab i v E) C
def Good (i : Nat) (E : Ev) (H : List Hl) : Prop := (gdOff tab i E ∧ ∀ d, dstAt tab i = some d → look E d = some undef) ∨ ∃ v, (∀ d, dstAt tab i = some d → look E d = some v) ∧ Pu P n e tab l i E H v
def ReP (H : List Hl) (E : Ev) : List Nat → Prop
  | [] => True
  | i :: rs => Good P n e tab l i E H ∧ ReP H E rs
def Wk (Fin : Ev → List Hl → Prop) : List Stg → Ev → List Hl → Prop
  | [], _, _ => False
  | s :: ss, E, H => OpenP P n e tab l H s.ps E fun E' => ReP P n e tab l H E' s.rs ∧ match s.ch with
    | none => Fin E' H
    | some i => (gdOff tab i E' ∧ Wk Fin ss (addE tab i undef E') H) ∨ Op1 P n e tab l i E' H fun v H' => Wk Fin ss (addE tab i v E') H'
end
/-! The script's own conditions. -/
def psOk (tab : List Row) : List Nat → Bool
  | [] => true
  | i :: ps => (ps.all fun j => !(cloAt tab i).contains j && j != i) && psOk tab ps
def stOk (tab : List Row) (all done : List Nat) (s : Stg) : Bool :=
  psOk tab s.ps && (s.ps.all fun i => decide (i < tab.length)) && ((List.range tab.length).all fun i => all.contains i || (all.any fun c => (cloAt tab i).contains c && !done.contains c) || (done.any fun c => (cloAt tab c).contains i) || s.ps.contains i || s.rs.contains i) &&
  (match s.ch with | none => all.all fun c => done.contains c | some c => decide (c < tab.length) && !done.contains c && all.contains c && (all.all fun c' => done.contains c' || c' == c || (cloAt tab c').contains c) && (s.ps.all fun i => i != c && !all.contains i))
def scOk (tab : List Row) (all : List Nat) : List Nat → List Stg → Bool
  | _, [] => true
  | done, s :: ss => stOk tab all done s && (match s.ch with | none => ss.isEmpty | some c => (match ss with | [] => false | s' :: _ => s'.ps.all fun i => (cloAt tab i).contains c) && scOk tab all (c :: done) ss)

theorem addE_look {tab : List Row} {i d : Nat} {v : Value} {E : Ev} (h : dstAt tab i ≠ some d) : look (addE tab i v E) d = look E d := by
  unfold addE
  cases hd : dstAt tab i with
  | none => rfl
  | some d' =>
    have : Nat.beq d' d = false := by
      cases hb : Nat.beq d' d
      · rfl
      · exact absurd (by rw [hd, Nat.eq_of_beq_eq_true hb]) h
    simp [look, this]
theorem addE_self {tab : List Row} {i d : Nat} {v : Value} {E : Ev} (h : dstAt tab i = some d) : look (addE tab i v E) d = some v := by
  simp [addE, h, look]
theorem cloE_addE {tab : List Row} (hdst : ∀ i j d, dstAt tab i = some d → dstAt tab j = some d → i = j) {i j : Nat} {v : Value} {E : Ev} (h : j ∉ cloAt tab i) : cloE tab i (addE tab j v E) = cloE tab i E := by
  unfold addE
  cases hd : dstAt tab j with
  | none => rfl
  | some d =>
    simp only [cloE, List.filter_cons]
    rw [if_neg]
    simp only [List.any_eq_true, beq_iff_eq, not_exists, not_and]
    intro q hq hqd
    exact h (hdst j q d hd hqd ▸ hq)
theorem envI_addE {tab : List Row} (hdst : ∀ i j d, dstAt tab i = some d → dstAt tab j = some d → i = j) {e : Ev} {i j : Nat} {v : Value} {E : Ev} (h : j ∉ cloAt tab i) : envI tab e i (addE tab j v E) = envI tab e i E := by
  unfold envI; rw [cloE_addE hdst h]

/-! What the invariant of the drawn order is. -/
section
variable {P : Program} {k : Kon} {n : Nat} {e e0 : Ev} {W : World} {H : List Hl} {tab : List Row} {l : List Oper} {Fin : Ev → List Hl → Prop}
/-- All of the stage's values are known. -/
structure Stand (P : Program) (n : Nat) (e0 : Ev) (tab : List Row) (l : List Oper) (Fin : Ev → List Hl → Prop) (all done : List Nat) (s : Stg) (ss : List Stg) (E : Ev) (H : List Hl) : Prop where
  good : ∀ i, i ∈ s.ps ∨ i ∈ s.rs → Good P n e0 tab l i E H
  next : match s.ch with
    | none => Fin E H
    | some i => (gdOff tab i E ∧ Wk P n e0 tab l Fin ss (addE tab i undef E) H) ∨ Op1 P n e0 tab l i E H fun v H' => Wk P n e0 tab l Fin ss (addE tab i v E) H'
  script : scOk tab all done (s :: ss) = true
  dom : ∀ d v, look E d = some v → ∃ i, i < tab.length ∧ dstAt tab i = some d
theorem gd_addE (hdst : ∀ i j d, dstAt tab i = some d → dstAt tab j = some d → i = j) (hgd : ∀ i j b, gdAt tab i = some (j, b) → j ∈ cloAt tab i) {i j : Nat} {v : Value} {E : Ev} (h : j ∉ cloAt tab i) : (gdRun tab i E → gdRun tab i (addE tab j v E)) ∧ (gdOff tab i E → gdOff tab i (addE tab j v E)) := by
  refine ⟨fun hr q b hq => ?_, fun ⟨q, b, d, h1, h2, h3⟩ => ⟨q, b, d, h1, h2, ?_⟩⟩
  · obtain ⟨d, h1, h2⟩ := hr q b hq
    refine ⟨d, h1, ?_⟩
    rw [addE_look]
    · exact h2
    · intro hd; have := hdst j q d hd h1; exact h (this ▸ hgd i q b hq)
  · rw [addE_look]
    · exact h3
    · intro hd; have := hdst j q d hd h2; exact h (this ▸ hgd i q b h1)
theorem good_addE (hdst : ∀ i j d, dstAt tab i = some d → dstAt tab j = some d → i = j) (hgd : ∀ i j b, gdAt tab i = some (j, b) → j ∈ cloAt tab i) {i j : Nat} {v : Value} {E : Ev} {H : List Hl} (h : j ∉ cloAt tab i) (hij : j ≠ i) (hg : Good P n e0 tab l i E H) : Good P n e0 tab l i (addE tab j v E) H := by
  have hne : ∀ d, dstAt tab i = some d → dstAt tab j ≠ some d := fun d hd hd' => hij (hdst j i d hd' hd)
  rcases hg with ⟨h1, h2⟩ | ⟨u, h1, h2, o, h3, h4⟩
  · exact .inl ⟨(gd_addE hdst hgd h).2 h1, fun d hd => by rw [addE_look (hne d hd)]; exact h2 d hd⟩
  · refine .inr ⟨u, fun d hd => by rw [addE_look (hne d hd)]; exact h1 d hd, (gd_addE hdst hgd h).1 h2, o, h3, ?_⟩
    rw [envI_addE hdst h]
    exact h4
theorem open_out (hdst : ∀ i j d, dstAt tab i = some d → dstAt tab j = some d → i = j) (hgd : ∀ i j b, gdAt tab i = some (j, b) → j ∈ cloAt tab i) (hself : ∀ i, i ∉ cloAt tab i) : ∀ (ps : List Nat) (E : Ev) (C : Ev → Prop), psOk tab ps = true → OpenP P n e0 tab l H ps E C →
    ∃ E', C E' ∧ (∀ i ∈ ps, Good P n e0 tab l i E' H) ∧ (∀ d v, look E' d = some v → look E d = some v ∨ ∃ i ∈ ps, dstAt tab i = some d) ∧ (∀ d, (∀ i ∈ ps, dstAt tab i ≠ some d) → look E' d = look E d) ∧ (∀ i, (∀ j ∈ ps, j ∉ cloAt tab i ∧ j ≠ i) → Good P n e0 tab l i E H → Good P n e0 tab l i E' H)
  | [], E, C, _, h => ⟨E, h, by simp, fun _ _ h => .inl h, fun _ _ => rfl, fun _ _ h => h⟩
  | i :: ps, E, C, hps, h => by
    simp only [psOk, Bool.and_eq_true, List.all_eq_true, Bool.not_eq_true', bne_iff_ne, ne_eq, List.contains_eq_mem, decide_eq_false_iff_not] at hps
    obtain ⟨h1, h2⟩ := hps
    obtain ⟨v, hgi, ho⟩ : ∃ v, Good P n e0 tab l i (addE tab i v E) H ∧ OpenP P n e0 tab l H ps (addE tab i v E) C := by
      rcases h with ⟨h3, h4⟩ | ⟨v, ⟨g1, o, g2, g3⟩, h4⟩
      · exact ⟨undef, .inl ⟨(gd_addE hdst hgd (hself i)).2 h3, fun d hd => addE_self hd⟩, h4⟩
      · exact ⟨v, .inr ⟨v, fun d hd => addE_self hd, (gd_addE hdst hgd (hself i)).1 g1, o, g2, by rw [envI_addE hdst (hself i)]; exact g3⟩, h4⟩
    obtain ⟨E', c1, c2, c3, c4, c5⟩ := open_out hdst hgd hself ps (addE tab i v E) C h2 ho
    refine ⟨E', c1, fun j hj => ?_, fun d u hu => ?_, fun d hd => ?_, fun j hj hg => ?_⟩
    · rcases List.mem_cons.1 hj with rfl | hj
      · exact c5 j (fun q hq => h1 q hq) hgi
      · exact c2 j hj
    · rcases c3 d u hu with hh | ⟨q, hq, hqd⟩
      · by_cases hid : dstAt tab i = some d
        · exact .inr ⟨i, by simp, hid⟩
        · rw [addE_look hid] at hh; exact .inl hh
      · exact .inr ⟨q, by simp [hq], hqd⟩
    · rw [c4 d (fun q hq => hd q (by simp [hq])), addE_look (hd i (by simp))]
    · exact c5 j (fun q hq => hj q (by simp [hq])) (good_addE hdst hgd (hj i (by simp)).1 (hj i (by simp)).2 hg)
theorem rep_out : ∀ (rs : List Nat) (E : Ev), ReP P n e0 tab l H E rs → ∀ i ∈ rs, Good P n e0 tab l i E H
  | [], _, _, i, hi => by simp at hi
  | r :: rs, E, h, i, hi => by
    rcases List.mem_cons.1 hi with rfl | hi
    · exact h.1
    · exact rep_out rs E h.2 i hi
/-- A stage laid open. -/
theorem wk_open (hdst : ∀ i j d, dstAt tab i = some d → dstAt tab j = some d → i = j) (hgd : ∀ i j b, gdAt tab i = some (j, b) → j ∈ cloAt tab i) (hself : ∀ i, i ∉ cloAt tab i) {all done : List Nat} {s : Stg} {ss : List Stg} {E : Ev}
    (hs : scOk tab all done (s :: ss) = true) (hdom : ∀ d v, look E d = some v → ∃ i, i < tab.length ∧ dstAt tab i = some d) (h : Wk P n e0 tab l Fin (s :: ss) E H) :
    ∃ E', Stand P n e0 tab l Fin all done s ss E' H ∧ ∀ d, (∀ i ∈ s.ps, dstAt tab i ≠ some d) → look E' d = look E d := by
  have hs' := hs
  simp only [scOk, stOk, Bool.and_eq_true] at hs'
  obtain ⟨E', ⟨c0, c1⟩, c2, c3, c4, _⟩ := open_out hdst hgd hself s.ps E _ hs'.1.1.1.1 h
  refine ⟨E', ⟨fun i hi => ?_, c1, hs, fun d v hv => ?_⟩, c4⟩
  · rcases hi with hi | hi
    · exact c2 i hi
    · exact rep_out _ _ c0 i hi
  · rcases c3 d v hv with hh | ⟨i, hi, hid⟩
    · exact hdom d v hh
    · have := hs'.1.1.1.2
      simp only [List.all_eq_true, decide_eq_true_eq] at this
      exact ⟨i, this i hi, hid⟩
/-- What holds while the operations of D have been done. -/
structure Mid2 (P : Program) (n : Nat) (e e0 : Ev) (tab : List Row) (l : List Oper) (Fin : Ev → List Hl → Prop) (W : World) (all D : List Nat) (a : Act) (w : World) : Prop where
  size : a.tmps.size = n
  defers : a.defers = []
  ext : Ext W w
  keep : ∀ t v, look e t = some v → (∀ i ∈ D, dstAt tab i ≠ some t) → a.tmps[t]? = some v
  at_ : ∃ (done : List Nat) (s : Stg) (ss : List Stg) (E : Ev) (H : List Hl), Stand P n e0 tab l Fin all done s ss E H ∧ sat w (stars H) ∧ (∀ c, c ∈ done → c ∈ D) ∧ (∀ c ∈ all, c ∈ D → c ∈ done) ∧ (∀ i ∈ D, ∀ d, dstAt tab i = some d → ∃ v, look E d = some v ∧ a.tmps[d]? = some v)

theorem tabOk.facts (ht : tabOk tab = true) : (∀ i j d, dstAt tab i = some d → dstAt tab j = some d → i = j) ∧ (∀ (i : Nat) (r : Row), tab[i]? = some r → ∀ j ∈ r.clo, j < i) ∧ (∀ i j b, gdAt tab i = some (j, b) → (∃ r : Row, tab[i]? = some r ∧ j ∈ r.edges) ∧ ∃ d, dstAt tab j = some d) := by
  refine ⟨fun i j d hi hj => ?_, fun i => ?_, fun i j b hg => ?_⟩
  · cases hr : tab[i]? with
    | none => simp [dstAt, hr] at hi
    | some r => exact (tabOk.row ht hr).2.2.2.2 d (by simpa [dstAt, hr] using hi) j hj
  · induction i using Nat.strongRecOn with
    | _ i ih =>
      intro r hr j hj
      obtain ⟨c1, c2, _⟩ := tabOk.row ht hr
      rcases c2 j hj with hh | ⟨m, hm, s, hs, hj'⟩
      · exact c1 j hh
      · have := ih m (c1 m hm) s hs j hj'
        have := c1 m hm
        omega
  · cases hr : tab[i]? with
    | none => simp [gdAt, hr] at hg
    | some r =>
      obtain ⟨h1, h2⟩ := (tabOk.row ht hr).2.2.2.1 j b (by simpa [gdAt, hr] using hg)
      exact ⟨⟨r, rfl, h1⟩, h2⟩
theorem clo_done (ht : tabOk tab = true) {D : List Nat} (hcl : ∀ i ∈ D, ∀ r, tab[i]? = some r → ∀ j ∈ r.edges, j ∈ D) : ∀ (m : Nat) (s : Row), tab[m]? = some s → (∀ j ∈ s.edges, j ∈ D) → ∀ j ∈ s.clo, j ∈ D := by
  intro m
  induction m using Nat.strongRecOn with
  | _ m ih =>
    intro s hs hmD j hj
    obtain ⟨e1, e2, _⟩ := tabOk.row ht hs
    rcases e2 j hj with hh | ⟨q, hq, s', hs', hj'⟩
    · exact hmD j hh
    · exact ih q (e1 q hq) s' hs' (fun u hu => hcl q (hmD q hq) s' hs' u hu) j hj'
/-- The edges of each guard's operation lie in its closure. -/
def gdIn (tab : List Row) : Bool := tab.all fun r => r.edges.all fun j => r.clo.contains j
theorem mid2_step (he0 : Covers e e0) (ht : tabOk tab = true) (hin : gdIn tab = true) (hrows : l.map (fun o => (o.dst, edgesOf o, o.guard)) = tab.map (fun r => (r.dst, r.edges, r.guard))) (hdst : tab.all (fun r => match r.dst with | none => true | some d => Nat.blt d n) = true)
    {all D : List Nat} (hcl : ∀ i ∈ D, ∀ r, tab[i]? = some r → ∀ j ∈ r.edges, j ∈ D) {i : Nat} (hi : i ∉ D) {r : Row} (hr : tab[i]? = some r) (hre : ∀ j ∈ r.edges, j ∈ D) {a : Act} {w : World} (hm : Mid2 P n e e0 tab l Fin W all D a w)
    (K : Act → World → Prop) (hK : ∀ a w, Mid2 P n e e0 tab l Fin W all (i :: D) a w → K a w) : wpOp P l.toArray (k.post P) i K a w := by
  have hlen : l.length = tab.length := by simpa using congrArg List.length hrows
  have hil : i < l.length := by rw [hlen]; exact (List.getElem?_eq_some_iff.1 hr).1
  have ho : l[i]? = some l[i] := List.getElem?_eq_getElem hil
  generalize hoo : l[i] = o at ho
  have hrow : (o.dst, edgesOf o, o.guard) = (r.dst, r.edges, r.guard) := by
    have := congrArg (fun x => x[i]?) hrows
    simp only [List.getElem?_map, ho, hr, Option.map_some, Option.some.injEq] at this
    exact this
  simp only [Prod.mk.injEq] at hrow
  obtain ⟨hd, he, hg⟩ := hrow
  obtain ⟨f1, f2, f3⟩ := tabOk.facts ht
  have hdn : ∀ d, r.dst = some d → d < n := by
    intro d hd
    have := List.all_eq_true.1 hdst r (List.mem_of_getElem? hr)
    rw [hd] at this
    simpa [Nat.blt_eq] using this
  have hdi : dstAt tab i = r.dst := by simp [dstAt, hr]
  have hci : cloAt tab i = r.clo := by simp [cloAt, hr]
  have hself : ∀ i, i ∉ cloAt tab i := by
    intro j hj
    cases hs : tab[j]? with
    | none => simp [cloAt, hs] at hj
    | some s => have := f2 j s hs j (by simpa [cloAt, hs] using hj); omega
  have hgd : ∀ i j b, gdAt tab i = some (j, b) → j ∈ cloAt tab i := by
    intro i j b h
    obtain ⟨⟨s, hs, hj⟩, _⟩ := f3 i j b h
    have := List.all_eq_true.1 hin s (List.mem_of_getElem? hs)
    simp only [List.all_eq_true, List.contains_eq_mem, decide_eq_true_eq] at this
    simpa [cloAt, hs] using this j hj
  have hcloD : ∀ j ∈ cloAt tab i, j ∈ D := by rw [hci]; exact clo_done ht hcl i r hr hre
  have hcloM : ∀ m ∈ D, ∀ j ∈ cloAt tab m, j ∈ D := by
    intro m hmD j hj
    cases hs : tab[m]? with
    | none => simp [cloAt, hs] at hj
    | some s => exact clo_done ht hcl m s hs (hcl m hmD s hs) j (by simpa [cloAt, hs] using hj)
  obtain ⟨done, s, ss, E, H, hst, hsat, hdD, hDd, hat⟩ := hm.at_
  have hput : ∀ v w', Ext w w' → (∀ t, r.dst ≠ some t → (a.put o.dst v).tmps[t]? = a.tmps[t]?) ∧ (∀ d, r.dst = some d → (a.put o.dst v).tmps[d]? = some v) ∧ (a.put o.dst v).tmps.size = n ∧ (a.put o.dst v).defers = [] ∧
      (∀ t u, look e t = some u → (∀ j ∈ i :: D, dstAt tab j ≠ some t) → (a.put o.dst v).tmps[t]? = some u) := by
    intro v w' hx
    have q1 : ∀ t, r.dst ≠ some t → (a.put o.dst v).tmps[t]? = a.tmps[t]? := by
      intro t ht'
      rw [hd]
      cases hrd : r.dst with
      | none => rfl
      | some d =>
        have : d ≠ t := fun e => by subst e; exact ht' hrd
        simp [Act.put, this]
    refine ⟨q1, fun d hrd => ?_, ?_, ?_, fun t u hl hn => ?_⟩
    · rw [hd, hrd]; simp [Act.put, hm.size, hdn d hrd]
    · rw [hd]; cases r.dst <;> simp [Act.put, hm.size]
    · rw [hd]; cases r.dst <;> simp [Act.put, hm.defers]
    · rw [q1 t (fun e => hn i (by simp) (hdi.trans e))]
      exact hm.keep t u hl (fun j hj => hn j (by simp [hj]))
  have hev : EvOk a n (envI tab e0 i E) := by
    refine ⟨hm.size, hm.defers, fun t v hl => ?_⟩
    rcases look_append _ _ t v hl with hl | hl
    · obtain ⟨hk, hl⟩ := look_filter (f := fun t => (cloAt tab i).any fun j => dstAt tab j == some t) E t v hl
      simp only [List.any_eq_true, beq_iff_eq] at hk
      obtain ⟨j, hj, hjd⟩ := hk
      obtain ⟨u, hu, hu'⟩ := hat j (hcloD j hj) t hjd
      rw [hl] at hu
      injection hu with hu
      subst hu
      exact hu'
    · obtain ⟨hk, hl⟩ := look_filter e0 t v hl
      refine hm.keep t v (he0.look t v hl) fun j hj hd' => ?_
      simp only [keep, List.all_eq_true] at hk
      cases hs : tab[j]? with
      | none => simp [dstAt, hs] at hd'
      | some s' =>
        have := hk (s', j) (by rw [List.mem_zipIdx_iff_getElem?]; simpa using hs)
        simp only [dstAt, hs, Option.bind_some] at hd'
        simp only [hd', bne_self_eq_false, Bool.false_or, List.contains_eq_mem, decide_eq_true_eq] at this
        exact hi (hcloM j hj i (by simpa [cloAt, hs] using this))
  have hdo : ∀ j, (l.toArray[j]?).bind (·.dst) = dstAt tab j := by
    intro j
    have := congrArg (fun x => x[j]?) hrows
    simp only [List.getElem?_map] at this
    simp only [List.getElem?_toArray, dstAt]
    cases h1 : l[j]? <;> cases h2 : tab[j]? <;> simp_all
  have hdo' : ∀ j, (l[j]?).bind (·.dst) = dstAt tab j := fun j => by simpa using hdo j
  have hslot : ∀ j b d v, gdAt tab i = some (j, b) → dstAt tab j = some d → look E d = some v → a.tmps[d]? = some v := by
    intro j b d v h1 h2 h3
    obtain ⟨u, hu, hu'⟩ := hat j (hcloD j (hgd i j b h1)) d h2
    rw [h3] at hu
    injection hu with hu
    exact hu ▸ hu'
  have hgr : gdAt tab i = r.guard := by simp [gdAt, hr]
  have wants : gdRun tab i E → Region.wanted o (yielded l.toArray a.tmps) = true := by
    intro h
    unfold Region.wanted
    rw [hg, ← hgr]
    cases hq : gdAt tab i with
    | none => rfl
    | some jb =>
      obtain ⟨j, b⟩ := jb
      obtain ⟨d, h1, h2⟩ := h j b hq
      have := hslot j b d _ hq h1 h2
      simp [yielded, hdo', h1, this]
  have wants' : gdOff tab i E → Region.wanted o (yielded l.toArray a.tmps) = false := by
    rintro ⟨j, b, d, h1, h2, h3⟩
    unfold Region.wanted
    rw [hg, ← hgr, h1]
    rcases h3 with h3 | h3
    · have := hslot j b d _ h1 h2 h3
      simp [yielded, hdo', h2, this]
    · have := hslot j b d _ h1 h2 h3
      simp [yielded, hdo', h2, this, undef]
  unfold wpOp
  simp only [List.getElem?_toArray, ho]
  have hsc := hst.script
  have hother : ∀ v w', Ext w w' → ∀ j ∈ D, ∀ d, dstAt tab j = some d → (a.put o.dst v).tmps[d]? = a.tmps[d]? := fun v w' hx j hj d hd' => (hput v w' hx).1 d fun e => hi (f1 i j d (hdi.trans e) hd' ▸ hj)
  have hilt : i < tab.length := hlen ▸ hil
  simp only [scOk, stOk, Bool.and_eq_true, List.all_eq_true, List.mem_range, Bool.or_eq_true, List.any_eq_true, Bool.not_eq_true', List.contains_eq_mem, decide_eq_true_eq, decide_eq_false_iff_not] at hsc
  obtain ⟨⟨⟨⟨_, hps⟩, hcover⟩, hch⟩, hnext⟩ := hsc
  by_cases hall : i ∈ all
  · -- it ends the stage
    have hnd : i ∉ done := fun h => hi (hdD i h)
    have hsi : s.ch = some i := by
      cases hc : s.ch with
      | none =>
        rw [hc] at hch
        simp only [List.all_eq_true, decide_eq_true_eq] at hch
        exact absurd (hch i hall) hnd
      | some c =>
        rw [hc] at hch
        simp only [Bool.and_eq_true, List.all_eq_true, Bool.or_eq_true, decide_eq_true_eq, Bool.not_eq_true', decide_eq_false_iff_not, beq_iff_eq] at hch
        obtain ⟨⟨⟨⟨_, h2⟩, h3⟩, h4⟩, _⟩ := hch
        rcases h4 i hall with (h5 | h5) | h5
        · exact absurd h5 hnd
        · rw [h5]
        · exact absurd (hDd c h3 (hcloD c h5)) h2
    have hnx := hst.next
    rw [hsi] at hnx hnext
    simp only [Bool.and_eq_true] at hnext
    cases ss with
    | nil => exact absurd hnext.1 (by simp)
    | cons s' ss' =>
      have hs' : ∀ q ∈ s'.ps, i ∈ cloAt tab q := by
        have := hnext.1
        simp only [List.all_eq_true, decide_eq_true_eq] at this
        exact this
      have adv : ∀ v w' H', Ext w w' → sat w' (stars H') → Wk P n e0 tab l Fin (s' :: ss') (addE tab i v E) H' → Mid2 P n e e0 tab l Fin W all (i :: D) (a.put o.dst v) w' := by
        intro v w' H' hx hs hw
        obtain ⟨E', hst', hlk⟩ := wk_open f1 hgd hself hnext.2 (fun d u hu => by
          by_cases hid : dstAt tab i = some d
          · exact ⟨i, hilt, hid⟩
          · rw [addE_look hid] at hu; exact hst.dom d u hu) hw
        obtain ⟨q1, q2, q3, q4, q5⟩ := hput v w' hx
        refine ⟨q3, q4, hm.ext.trans hx, q5, i :: done, s', ss', E', H', hst', hs, fun c hc => ?_, fun c hc hcD => ?_, fun j hj d hd' => ?_⟩
        · rcases List.mem_cons.1 hc with rfl | hc
          · simp
          · simp [hdD c hc]
        · rcases List.mem_cons.1 hcD with rfl | hcD
          · simp
          · simp [hDd c hc hcD]
        · have hne : ∀ q ∈ s'.ps, dstAt tab q ≠ some d := by
            intro q hq hqd
            have := f1 q j d hqd hd'
            subst this
            rcases List.mem_cons.1 hj with rfl | hj
            · exact hself _ (hs' _ hq)
            · exact hi (hcloM _ hj i (hs' _ hq))
          rw [hlk d hne]
          rcases List.mem_cons.1 hj with rfl | hj
          · exact ⟨v, addE_self hd', q2 d (hdi.symm.trans hd')⟩
          · rw [addE_look (fun e => hi (f1 i j d e hd' ▸ hj)), hother v w' hx j hj d hd']
            exact hat j hj d hd'
      rcases hnx with ⟨h1, h2⟩ | ⟨h1, o', h2, h3⟩
      · rw [wants' h1]
        exact hK _ _ (adv undef w H (.refl w) hsat h2)
      · rw [wants h1]
        simp only [if_true]
        left
        rw [ho] at h2
        injection h2 with h2
        subst h2
        exact h3.out a w ⟨hev, hsat⟩ o rfl rfl K _ fun v w' H' hc hx hs => hK _ _ (adv v w' H' hx hs hc)
  · have hgood : Good P n e0 tab l i E H := by
      rcases hcover i hilt with (((h | ⟨c, h1, h2, h3⟩) | ⟨c, h1, h2⟩) | h) | h
      · exact absurd h hall
      · exact absurd (hDd c h1 (hcloD c h2)) h3
      · exact absurd (hcloM c (hdD c h1) i h2) hi
      · exact hst.good i (.inl h)
      · exact hst.good i (.inr h)
    have stay : ∀ v w', (∀ d, dstAt tab i = some d → look E d = some v) → Ext w w' → sat w' (stars H) → Mid2 P n e e0 tab l Fin W all (i :: D) (a.put o.dst v) w' := by
      intro v w' hlk hx hs
      obtain ⟨q1, q2, q3, q4, q5⟩ := hput v w' hx
      refine ⟨q3, q4, hm.ext.trans hx, q5, done, s, ss, E, H, hst, hs, fun c hc => by simp [hdD c hc], fun c hc hcD => ?_, fun j hj d hd' => ?_⟩
      · rcases List.mem_cons.1 hcD with rfl | hcD
        · exact absurd hc hall
        · exact hDd c hc hcD
      · rcases List.mem_cons.1 hj with rfl | hj
        · exact ⟨v, hlk d hd', q2 d (hdi.symm.trans hd')⟩
        · rw [hother v w' hx j hj d hd']
          exact hat j hj d hd'
    rcases hgood with ⟨h1, h2⟩ | ⟨v, h0, h1, o', h2, h3⟩
    · rw [wants' h1]
      exact hK _ _ (stay undef w h2 (.refl w) hsat)
    · rw [wants h1]
      simp only [if_true]
      left
      rw [ho] at h2
      injection h2 with h2
      subst h2
      exact h3.out a w ⟨hev, hsat⟩ o rfl rfl K _ fun v' w' H' hc hx hs => hK _ _ (hc.1 ▸ stay v w' h0 hx (hs.mono hc.2))
theorem any_all2 (ht : tabOk tab = true) (hrows : l.map (fun o => (o.dst, edgesOf o, o.guard)) = tab.map (fun r => (r.dst, r.edges, r.guard))) (M : List Nat → Act → World → Prop)
    (hstep : ∀ (D : List Nat) (i : Nat) (r : Row), (∀ i ∈ D, ∀ r, tab[i]? = some r → ∀ j ∈ r.edges, j ∈ D) → i ∉ D → tab[i]? = some r → (∀ j ∈ r.edges, j ∈ D) → ∀ a w, M D a w → ∀ K : Act → World → Prop, (∀ a w, M (i :: D) a w → K a w) → wpOp P l.toArray (k.post P) i K a w)
    (hend : ∀ D a w, (∀ i, i < l.length → i ∈ D) → M D a w → k.post P .normal a w) :
    ∀ (fuel : Nat) (listed : Array Bool) (D : List Nat) (a : Act) (w : World), D.Nodup → (∀ i ∈ D, i < l.length) → (∀ i ∈ D, ∀ r, tab[i]? = some r → ∀ j ∈ r.edges, j ∈ D) → listed.size = l.length → (∀ i, i < l.length → listed[i]? = some (decide (i ∈ D))) →
      ((List.range l.length).filter fun x => !decide (x ∈ D)).length ≤ fuel → M D a w → wpAny P .any l.toArray (k.post P) fuel listed a w := by
  have hlen : l.length = tab.length := by simpa using congrArg List.length hrows
  have hrow : ∀ i, i < l.length → ∃ r o, tab[i]? = some r ∧ l[i]? = some o ∧ edgesOf o = r.edges := by
    intro i hi
    have h1 : l[i]? = some l[i] := List.getElem?_eq_getElem hi
    have h2 : tab[i]? = some (tab[i]'(hlen ▸ hi)) := List.getElem?_eq_getElem _
    have := congrArg (fun x => x[i]?) hrows
    simp only [List.getElem?_map, h1, h2, Option.map_some, Option.some.injEq, Prod.mk.injEq] at this
    exact ⟨_, _, h2, h1, this.2.1⟩
  have hready : ∀ (listed : Array Bool) (D : List Nat), listed.size = l.length → (∀ i, i < l.length → listed[i]? = some (decide (i ∈ D))) → ∀ i, i < l.length → i ∉ D → (∀ r, tab[i]? = some r → ∀ j ∈ r.edges, j ∈ D) → i ∈ Region.ready .any l.toArray listed := by
    intro listed D hs hl i hi hiD hre
    obtain ⟨r, o, hr, ho, he⟩ := hrow i hi
    simp only [Region.ready, List.size_toArray, List.mem_filter, List.mem_range, Bool.and_eq_true]
    refine ⟨hi, by simp [Array.getD_eq_getD_getElem?, hl i hi, hiD], ?_⟩
    simp only [List.getElem?_toArray, ho, Option.map_some, Option.getD_some]
    rw [Array.all_eq_true_iff_forall_mem]
    intro ed hed
    cases hb : Region.binds .any ed
    · rfl
    · have hj : ed.on ∈ r.edges := by
        rw [← he]
        simp only [edgesOf, List.mem_map, List.mem_filter]
        exact ⟨ed, ⟨by simpa using hed, hb⟩, rfl⟩
      have hjD := hre r hr ed.on hj
      have hjl : ed.on < l.length := by
        obtain ⟨c1, _⟩ := tabOk.row ht hr
        have := c1 _ hj
        omega
      simp [Array.getD_eq_getD_getElem?, hl _ hjl, hjD]
  have hall : ∀ (listed : Array Bool) (D : List Nat), listed.size = l.length → (∀ i, i < l.length → listed[i]? = some (decide (i ∈ D))) → Region.ready .any l.toArray listed = [] → ∀ i, i < l.length → i ∈ D := by
    intro listed D hs hl hr i
    induction i using Nat.strongRecOn with
    | _ i ih =>
      intro hi
      rcases Classical.em (i ∈ D) with h | h
      · exact h
      · have := hready listed D hs hl i hi h fun r hr' j hj => by
          obtain ⟨c1, _⟩ := tabOk.row ht hr'
          exact ih j (c1 j hj) (by have := c1 j hj; omega)
        rw [hr] at this
        cases this
  intro fuel
  induction fuel with
  | zero =>
    intro listed D a w hD hlt hcl hs hl hf hm
    have hin : ∀ i, i < l.length → i ∈ D := by
      intro i hi
      rcases Classical.em (i ∈ D) with h | h
      · exact h
      · have : i ∈ (List.range l.length).filter fun x => !decide (x ∈ D) := by simp [hi, h]
        have := List.length_pos_of_mem this
        omega
    refine ⟨?_, hend D a w hin hm⟩
    simp only [Region.ready, List.size_toArray, List.filter_eq_nil_iff, List.mem_range]
    intro i hi
    simp [Array.getD_eq_getD_getElem?, hl i hi, hin i hi]
  | succ fuel ih =>
    intro listed D a w hD hlt hcl hs hl hf hm
    refine ⟨fun hr => hend D a w (hall listed D hs hl hr) hm, fun i hi => ?_⟩
    simp only [Region.ready, List.size_toArray, List.mem_filter, List.mem_range, Bool.and_eq_true] at hi
    obtain ⟨hil, hi1, hi2⟩ := hi
    have hiD : i ∉ D := by simpa [Array.getD_eq_getD_getElem?, hl i hil] using hi1
    obtain ⟨r, o, hr, ho, he⟩ := hrow i hil
    have hre : ∀ j ∈ r.edges, j ∈ D := by
      intro j hj
      obtain ⟨c1, _⟩ := tabOk.row ht hr
      have hjl : j < l.length := by have := c1 j hj; omega
      rw [← he] at hj
      simp only [edgesOf, List.mem_map, List.mem_filter] at hj
      obtain ⟨ed, ⟨hed, hb⟩, rfl⟩ := hj
      simp only [List.getElem?_toArray, ho, Option.map_some, Option.getD_some] at hi2
      rw [Array.all_eq_true_iff_forall_mem] at hi2
      have := hi2 ed (by simpa using hed)
      simpa [hb, Array.getD_eq_getD_getElem?, hl _ hjl] using this
    refine hstep D i r hcl hiD hr hre a w hm _ fun a' w' hm' => ih _ (i :: D) a' w' (List.nodup_cons.2 ⟨hiD, hD⟩) ?_ ?_ ?_ ?_ ?_ hm'
    · intro j hj
      rcases List.mem_cons.1 hj with rfl | hj
      · exact hil
      · exact hlt j hj
    · intro j hj s hs' q hq
      rcases List.mem_cons.1 hj with rfl | hj
      · rw [hr] at hs'; cases hs'; exact List.mem_cons.2 (.inr (hre q hq))
      · exact List.mem_cons.2 (.inr (hcl j hj s hs' q hq))
    · simpa using hs
    · intro j hj
      by_cases hji : j = i
      · subst hji; simp [hs, hil]
      · rw [Array.getElem?_setIfInBounds, if_neg (Ne.symm hji), hl j hj]; simp [hji]
    · have := filter_lt (p := fun x => !decide (x ∈ D)) (i := i) (List.range l.length) (by simpa using hil) (by simpa using hiD)
      have e2 : ((List.range l.length).filter fun x => !decide (x ∈ i :: D)) = ((List.range l.length).filter fun x => (!decide (x ∈ D)) && x != i) := by
        apply List.filter_congr
        intro x _
        by_cases hx : x = i <;> by_cases hxD : x ∈ D <;> simp [hx, hxD]
      rw [e2]
      omega
/-- All that is to be checked of a script. -/
def scriptOk (n : Nat) (tab : List Row) (all : List Nat) (S : List Stg) : Bool := tabOk tab && gdIn tab && scOk tab all [] S && tab.all (fun r => match r.dst with | none => true | some d => Nat.blt d n) && !S.isEmpty
/-- A REGION THAT DRAWS ITS ORDER, in stages. -/
theorem st_stages {id : Nat} (e0 : Ev) (tab : List Row) (all : List Nat) (S : List Stg) (hm : P.follows .mixedOrders = true) (he : Covers e e0) (hrows : l.map (fun o => (o.dst, edgesOf o, o.guard)) = tab.map (fun r => (r.dst, r.edges, r.guard)))
    (hok : scriptOk n tab all S = true) (h : Wk P n e0 tab l (fun E H' => Nx P k n (E ++ e) W H') S [] H) : St P (.region id l.toArray true) k n e W H :=
  ⟨fun a w ho => by
    simp only [scriptOk, Bool.and_eq_true] at hok
    obtain ⟨⟨⟨⟨ht, hin⟩, hsc⟩, hdst⟩, hne⟩ := hok
    have hlen : l.length = tab.length := by simpa using congrArg List.length hrows
    obtain ⟨f1, f2, f3⟩ := tabOk.facts ht
    have hself : ∀ i, i ∉ cloAt tab i := by
      intro j hj
      cases hs : tab[j]? with
      | none => simp [cloAt, hs] at hj
      | some s => have := f2 j s hs j (by simpa [cloAt, hs] using hj); omega
    have hgd : ∀ i j b, gdAt tab i = some (j, b) → j ∈ cloAt tab i := by
      intro i j b h
      obtain ⟨⟨s, hs, hj⟩, _⟩ := f3 i j b h
      have := List.all_eq_true.1 hin s (List.mem_of_getElem? hs)
      simp only [List.all_eq_true, List.contains_eq_mem, decide_eq_true_eq] at this
      simpa [cloAt, hs] using this j hj
    cases S with
    | nil => simp at hne
    | cons s ss =>
      obtain ⟨E, hst, _⟩ := wk_open f1 hgd hself hsc (by simp [look]) h
      refine wp_region_any hm ?_
      refine any_all2 ht hrows (Mid2 P n e e0 tab l (fun E H' => Nx P k n (E ++ e) W H') W all) (fun D i r hcl hi hr hre a w hm K hK => mid2_step he ht hin hrows hdst hcl hi hr hre hm K hK) (fun D a w hall hm => ?_) _ _ [] _ _ List.nodup_nil (by simp) (by simp) (by simp) (fun i hi => by simp [hi]) (Nat.le_trans (List.length_filter_le _ _) (by simp))
        ⟨ho.ev.size, ho.ev.defers, ho.ext.drew, fun t v hl _ => ho.ev.get t v hl, [], s, ss, E, H, hst, ho.sat, by simp, by simp, by simp⟩
      obtain ⟨done, s, ss, E, H, hst, hsat, hdD, hDd, hat⟩ := hm.at_
      have hs2 := hst.script
      simp only [scOk, stOk, Bool.and_eq_true] at hs2
      have hch := hs2.1.2
      have hnx := hst.next
      cases hc : s.ch with
      | some c =>
        rw [hc] at hch
        simp only [Bool.and_eq_true, decide_eq_true_eq, Bool.not_eq_true', List.contains_eq_mem, decide_eq_false_iff_not] at hch
        exact absurd (hDd c hch.1.1.2 (hall c (by omega))) hch.1.1.1.2
      | none =>
        rw [hc] at hnx
        refine Nx.out hnx a w ⟨⟨hm.size, hm.defers, fun t v hl => ?_⟩, hm.ext, hsat⟩
        rcases look_append' _ _ t v hl with hl | ⟨hn, hl⟩
        · obtain ⟨i, hi, hid⟩ := hst.dom t v hl
          obtain ⟨u, hu, hu'⟩ := hat i (hall i (by omega)) t hid
          rw [hl] at hu
          injection hu with hu
          exact hu ▸ hu'
        · refine hm.keep t v hl fun i hi hd => ?_
          have hit : i < tab.length := by
            cases hs : tab[i]? with
            | none => simp [dstAt, hs] at hd
            | some s => exact (List.getElem?_eq_some_iff.1 hs).1
          obtain ⟨u, hu, _⟩ := hat i hi t hd
          rw [hn] at hu
          cases hu⟩
end
end Go.Dp
