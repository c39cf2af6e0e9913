/-
  A region that draws its order: each operation is shown for itself, whatever of the others has been done; then all have been done.
  Conditions: none; it holds over whatever program.
-/
import Derived.Test.YtlmmnnhbnbakgaaDoorBg
import Derived.Orders
set_option linter.unusedVariables false
namespace Go.Dp
open Go.RowKit

structure Row where
  dst : Option Nat
  edges : List Nat
  clo : List Nat
  guard : Option (Nat × Bool)
def edgesOf (o : Oper) : List Nat := (o.after.toList.filter (Region.binds .any)).map (·.on)
/-- What an operation of the region gives: a value; or one of which Q is known, and R stands; or it is not wanted. -/
inductive Sp where
  | c (v : Value)
  | p (Q : Value → Prop) (R : Value → List Hl)
  | off
def Sp.ok : Sp → Value → Prop
  | .c u, v => v = u
  | .p Q _, v => Q v
  | .off, v => v = undef
def Sp.hp : Sp → Value → List Hl
  | .p _ R, v => R v
  | _, _ => []
def Sp.run : Sp → Bool
  | .off => false
  | _ => true
def spAt (sp : List Sp) (i : Nat) : Sp := (sp[i]?).getD .off
def dstAt (tab : List Row) (i : Nat) : Option Nat := (tab[i]?).bind (·.dst)
def envL (tab : List Row) (vals : Nat → Value) (l : List Nat) : Ev := l.filterMap fun j => (dstAt tab j).map fun d => (d, vals j)
def hpL (sp : List Sp) (vals : Nat → Value) (l : List Nat) : List Hl := l.flatMap fun j => (spAt sp j).hp (vals j)
def AllV (sp : List Sp) (tab : List Row) : List Nat → (Ev → List Hl → Prop) → Prop
  | [], C => C [] []
  | j :: l, C => match spAt sp j, dstAt tab j with
    | .c v, some d => AllV sp tab l fun E Hs => C ((d, v) :: E) Hs
    | .c _, none => AllV sp tab l C
    | .p Q R, some d => ∀ v, Q v → AllV sp tab l fun E Hs => C ((d, v) :: E) (R v ++ Hs)
    | .p Q R, none => ∀ v, Q v → AllV sp tab l fun E Hs => C E (R v ++ Hs)
    | .off, some d => AllV sp tab l fun E Hs => C ((d, undef) :: E) Hs
    | .off, none => AllV sp tab l C
theorem AllV.out {sp : List Sp} {tab : List Row} (vals : Nat → Value) : ∀ (l : List Nat) (C : Ev → List Hl → Prop), (∀ j ∈ l, (spAt sp j).ok (vals j)) → AllV sp tab l C → C (envL tab vals l) (hpL sp vals l)
  | [], C, _, h => h
  | j :: l, C, hok, h => by
    have hj := hok j (by simp)
    have ih := fun C => AllV.out (sp := sp) (tab := tab) vals l C (fun i hi => hok i (by simp [hi]))
    unfold AllV at h
    cases hs : spAt sp j with
    | c v =>
      rw [hs] at hj h
      have hj : vals j = v := hj
      cases hd : dstAt tab j with
      | none => rw [hd] at h; simpa [envL, hpL, hd, hs, Sp.hp] using ih _ h
      | some d => rw [hd] at h; simpa [envL, hpL, hd, hs, Sp.hp, hj] using ih _ h
    | p Q R =>
      rw [hs] at hj h
      cases hd : dstAt tab j with
      | none => rw [hd] at h; simpa [envL, hpL, hd, hs, Sp.hp] using ih _ (h _ hj)
      | some d => rw [hd] at h; simpa [envL, hpL, hd, hs, Sp.hp] using ih _ (h _ hj)
    | off =>
      rw [hs] at hj h
      have hj : vals j = undef := hj
      cases hd : dstAt tab j with
      | none => rw [hd] at h; simpa [envL, hpL, hd, hs, Sp.hp] using ih _ h
      | some d => rw [hd] at h; simpa [envL, hpL, hd, hs, Sp.hp, hj] using ih _ h

/-- Slot t still holds what it held ahead of the region when operation i is at work: whoever writes it comes behind i. -/
def keep (tab : List Row) (i : Nat) (t : Nat) : Bool := tab.zipIdx.all fun (r, j) => r.dst != some t || r.clo.contains i
def gdOk (sp : List Sp) (i : Nat) : Option (Nat × Bool) → Prop
  | none => (spAt sp i).run = true
  | some (j, b) => ((spAt sp i).run = true ∧ spAt sp j = .c (.bool b)) ∨ ((spAt sp i).run = false ∧ (spAt sp j = .off ∨ spAt sp j = .c (.bool (!b))))
def tabOk (tab : List Row) : Bool :=
  tab.zipIdx.all fun (r, i) => r.edges.all (· < i) && r.clo.all (fun j => r.edges.contains j || r.edges.any fun m => ((tab[m]?).map (·.clo.contains j)).getD false) &&
    (decide r.clo.Nodup) && (match r.guard with | none => true | some (j, _) => r.edges.contains j && ((tab[j]?).bind (·.dst)).isSome) &&
    (match r.dst with | none => true | some d => tab.zipIdx.all fun (s, j) => s.dst != some d || i == j)
def Obl (P : Program) (n : Nat) (e : Ev) (H : List Hl) (sp : List Sp) (tab : List Row) (i : Nat) (o : Oper) : Prop :=
  ∀ r, tab[i]? = some r → gdOk sp i r.guard ∧ ((spAt sp i).run = true → ∀ G : Hp → Prop, AllV sp tab r.clo fun E Hs =>
    O1 P o.op o.type n (E ++ e.filter fun x => keep tab i x.1) (Hs ++ (H ++ [.any G])) fun v H' => (spAt sp i).ok v ∧ ∀ h, stars H' h → stars ((spAt sp i).hp v ++ (Hs ++ (H ++ [.any G]))) h)
def Obls (P : Program) (n : Nat) (e : Ev) (H : List Hl) (sp : List Sp) (tab : List Row) : Nat → List Oper → Prop
  | _, [] => True
  | i, o :: l => Obl P n e H sp tab i o ∧ Obls P n e H sp tab (i + 1) l
theorem Obls.at_ {P : Program} {n : Nat} {e : Ev} {H : List Hl} {sp : List Sp} {tab : List Row} : ∀ (l : List Oper) (i : Nat), Obls P n e H sp tab i l → ∀ j o, l[j]? = some o → Obl P n e H sp tab (i + j) o
  | [], _, _, j, o, h => by simp at h
  | x :: l, i, hh, 0, o, h => by simp at h; subst h; exact hh.1
  | x :: l, i, hh, j + 1, o, h => by
    have := Obls.at_ l (i + 1) hh.2 j o (by simpa using h)
    rwa [show i + 1 + j = i + (j + 1) from by omega] at this

/-! ### lists of pieces -/
theorem stars_swap {A B C : List Hl} {h : Hp} (x : stars (A ++ (B ++ C)) h) : stars (B ++ (A ++ C)) h := by
  have := sep_assoc' (sep_mono (stars_append _ _ _ x) (fun _ a => a) (stars_append _ _))
  have := sep_assoc (sep_mono this (fun _ => sep_comm) (fun _ a => a))
  exact stars_append' _ _ _ (sep_mono this (fun _ a => a) (stars_append' _ _))
theorem stars_tail {A : List Hl} : ∀ {x : Hl} {B C : List Hl}, (∀ h, stars B h → stars C h) → ∀ h, stars (x :: B) h → stars (x :: C) h := fun hb h x => sep_mono x (fun _ a => a) hb
theorem pick {f : Nat → List Hl} {H : List Hl} : ∀ (C D : List Nat), C.Nodup → (∀ x ∈ C, x ∈ D) → ∃ R, ∀ h, (stars (D.flatMap f ++ H) h → stars (C.flatMap f ++ (R ++ H)) h) ∧ (∀ X : List Hl, stars (X ++ (C.flatMap f ++ (R ++ H))) h → stars (X ++ (D.flatMap f ++ H)) h)
  | [], D, _, _ => ⟨D.flatMap f, fun h => ⟨fun x => by simpa using x, fun X x => by simpa using x⟩⟩
  | c :: C, D, hn, hs => by
    obtain ⟨hc, hn'⟩ := List.nodup_cons.1 hn
    obtain ⟨D1, D2, rfl⟩ := List.append_of_mem (hs c (by simp))
    obtain ⟨R, hR⟩ := pick (f := f) (H := H) C (D1 ++ D2) hn' (fun x hx => by
      have := hs x (by simp [hx])
      simp only [List.mem_append, List.mem_cons] at this ⊢
      rcases this with h | h | h
      · exact .inl h
      · exact absurd (h ▸ hx) hc
      · exact .inr h)
    refine ⟨R, fun h => ⟨fun x => ?_, fun X x => ?_⟩⟩
    · simp only [List.flatMap_append, List.flatMap_cons, List.append_assoc] at x ⊢
      have x1 := stars_append _ _ _ (stars_swap x)
      refine stars_append' _ _ _ (sep_mono x1 (fun _ a => a) fun h' y => (hR h').1 ?_)
      simpa [List.flatMap_append, List.append_assoc] using y
    · simp only [List.flatMap_append, List.flatMap_cons, List.append_assoc] at x ⊢
      have x1 := stars_swap x
      have x2 := stars_append _ _ _ x1
      have x3 := stars_append' _ _ _ (sep_mono x2 (fun _ a => a) fun h' y => (hR h').2 X y)
      simp only [List.flatMap_append, List.append_assoc] at x3
      have x4 := stars_append _ _ _ (stars_swap x3)
      exact stars_append' _ _ _ (sep_mono x4 (fun _ a => a) fun h' y => stars_swap y)

theorem flatMap_ext {α β : Type} {f g : α → List β} : ∀ {l : List α}, (∀ x ∈ l, f x = g x) → l.flatMap f = l.flatMap g
  | [], _ => rfl
  | x :: l, h => by simp only [List.flatMap_cons]; rw [h x (by simp), flatMap_ext fun y hy => h y (by simp [hy])]
theorem look_append : ∀ (A B : Ev) (t : Nat) (v : Value), look (A ++ B) t = some v → look A t = some v ∨ look B t = some v
  | [], B, t, v, h => .inr h
  | (j, u) :: A, B, t, v, h => by
    simp only [List.cons_append, look] at h ⊢
    cases hb : Nat.beq j t
    · simp only [hb, cond_false] at h ⊢; exact look_append A B t v h
    · simp only [hb, cond_true] at h ⊢; exact .inl h
theorem look_append' : ∀ (A B : Ev) (t : Nat) (v : Value), look (A ++ B) t = some v → look A t = some v ∨ look A t = none ∧ look B t = some v
  | [], B, t, v, h => .inr ⟨rfl, h⟩
  | (j, u) :: A, B, t, v, h => by
    simp only [List.cons_append, look] at h ⊢
    cases hb : Nat.beq j t
    · simp only [hb, cond_false] at h ⊢; exact look_append' A B t v h
    · simp only [hb, cond_true] at h ⊢; exact .inl h
theorem look_env_none {tab : List Row} {vals : Nat → Value} : ∀ (l : List Nat) (t : Nat), look (envL tab vals l) t = none → ∀ j ∈ l, dstAt tab j ≠ some t
  | [], t, h, j, hj => by simp at hj
  | i :: l, t, h, j, hj => by
    cases hd : dstAt tab i with
    | none =>
      simp only [envL, List.filterMap_cons, hd, Option.map_none] at h
      rcases List.mem_cons.1 hj with rfl | hj
      · rw [hd]; simp
      · exact look_env_none l t h j hj
    | some d =>
      simp only [envL, List.filterMap_cons, hd, Option.map_some, look] at h
      cases hb : Nat.beq d t
      · simp only [hb, cond_false] at h
        rcases List.mem_cons.1 hj with rfl | hj
        · rw [hd]; intro e; cases e; simp at hb
        · exact look_env_none l t h j hj
      · simp [hb] at h
theorem look_env {tab : List Row} {vals : Nat → Value} : ∀ (l : List Nat) (t : Nat) (v : Value), look (envL tab vals l) t = some v → ∃ j ∈ l, dstAt tab j = some t ∧ vals j = v
  | [], t, v, h => by simp [envL, look] at h
  | j :: l, t, v, h => by
    cases hd : dstAt tab j with
    | none =>
      simp only [envL, List.filterMap_cons, hd, Option.map_none] at h
      obtain ⟨i, hi, h1, h2⟩ := look_env l t v h
      exact ⟨i, by simp [hi], h1, h2⟩
    | some d =>
      simp only [envL, List.filterMap_cons, hd, Option.map_some, look] at h
      cases hb : Nat.beq d t
      · rw [hb] at h
        obtain ⟨i, hi, h1, h2⟩ := look_env l t v h
        exact ⟨i, by simp [hi], h1, h2⟩
      · rw [hb] at h
        have := Nat.eq_of_beq_eq_true hb
        subst this
        simp only [cond_true, Option.some.injEq] at h
        exact ⟨j, by simp, hd, h⟩
theorem look_filter {f : Nat → Bool} : ∀ (e : Ev) (t : Nat) (v : Value), look (e.filter fun x => f x.1) t = some v → f t = true ∧ look e t = some v
  | [], t, v, h => by simp [look] at h
  | (j, u) :: e, t, v, h => by
    simp only [List.filter_cons] at h
    cases hf : f j
    · rw [if_neg (by simp [hf])] at h
      obtain ⟨h1, h2⟩ := look_filter e t v h
      refine ⟨h1, ?_⟩
      simp only [look]
      cases hb : Nat.beq j t
      · exact h2
      · have := Nat.eq_of_beq_eq_true hb; subst this; rw [hf] at h1; cases h1
    · rw [if_pos (by simp [hf])] at h
      simp only [look] at h ⊢
      cases hb : Nat.beq j t
      · rw [hb] at h; exact look_filter e t v h
      · rw [hb] at h
        have := Nat.eq_of_beq_eq_true hb
        subst this
        exact ⟨hf, h⟩

section
variable {P : Program} {k : Kon} {n : Nat} {e e0 : Ev} {W : World} {H : List Hl} {sp : List Sp} {tab : List Row} {l : List Oper}

/-- What holds while the operations of D have been done. -/
structure Mid (tab : List Row) (sp : List Sp) (n : Nat) (e : Ev) (W : World) (H : List Hl) (D : List Nat) (a : Act) (w : World) : Prop where
  size : a.tmps.size = n
  defers : a.defers = []
  ext : Ext W w
  keep : ∀ t v, look e t = some v → (∀ i ∈ D, dstAt tab i ≠ some t) → a.tmps[t]? = some v
  vals : ∃ vals : Nat → Value, (∀ i ∈ D, (spAt sp i).ok (vals i) ∧ ∀ d, dstAt tab i = some d → a.tmps[d]? = some (vals i)) ∧ sat w (stars (hpL sp vals D ++ H))

theorem tabOk.row (ht : tabOk tab = true) {i : Nat} {r : Row} (hr : tab[i]? = some r) : (∀ j ∈ r.edges, j < i) ∧ (∀ j ∈ r.clo, j ∈ r.edges ∨ ∃ m ∈ r.edges, ∃ s, tab[m]? = some s ∧ j ∈ s.clo) ∧ r.clo.Nodup ∧
    (∀ j b, r.guard = some (j, b) → j ∈ r.edges ∧ ∃ d, dstAt tab j = some d) ∧ (∀ d, r.dst = some d → ∀ j, dstAt tab j = some d → i = j) := by
  have h := ht
  simp only [tabOk, List.all_eq_true] at h
  have hmem : (r, i) ∈ tab.zipIdx := by
    rw [List.mem_zipIdx_iff_getElem?]; simpa using hr
  have h1 := h _ hmem
  simp only [Bool.and_eq_true, List.all_eq_true, decide_eq_true_eq, Bool.or_eq_true, List.contains_eq_mem, List.any_eq_true] at h1
  obtain ⟨⟨⟨⟨h1, h2⟩, h3⟩, h4⟩, h5⟩ := h1
  refine ⟨h1, fun j hj => ?_, h3, fun j b hg => ?_, fun d hd j hj => ?_⟩
  · rcases h2 j hj with hh | ⟨m, hm, hh⟩
    · exact .inl (by simpa using hh)
    · refine .inr ⟨m, hm, ?_⟩
      cases hs : tab[m]? with
      | none => rw [hs] at hh; simp at hh
      | some s => rw [hs] at hh; exact ⟨s, rfl, by simpa using hh⟩
  · rw [hg] at h4
    simp only [Bool.and_eq_true] at h4
    exact ⟨by simpa using h4.1, by simpa [dstAt, Option.isSome_iff_exists] using h4.2⟩
  · rw [hd] at h5
    simp only [List.all_eq_true] at h5
    cases hs : tab[j]? with
    | none => simp [dstAt, hs] at hj
    | some s =>
      have := h5 (s, j) (by rw [List.mem_zipIdx_iff_getElem?]; simpa using hs)
      simp only [dstAt, hs, Option.bind_some] at hj
      simpa [hj] using this

theorem mid_step (he0 : Covers e e0) (ht : tabOk tab = true) (hrows : l.map (fun o => (o.dst, edgesOf o, o.guard)) = tab.map (fun r => (r.dst, r.edges, r.guard))) (hob : Obls P n e0 H sp tab 0 l) (hdst : tab.all (fun r => match r.dst with | none => true | some d => Nat.blt d n) = true)
    {D : List Nat} (hD : D.Nodup) (hcl : ∀ i ∈ D, ∀ r, tab[i]? = some r → ∀ j ∈ r.edges, j ∈ D) {i : Nat} (hi : i ∉ D) {r : Row} (hr : tab[i]? = some r) (hre : ∀ j ∈ r.edges, j ∈ D) {a : Act} {w : World} (hm : Mid tab sp n e W H D a w)
    (K : Act → World → Prop) (hK : ∀ a w, Mid tab sp n e W H (i :: D) a w → K a w) : wpOp P l.toArray (k.post P) i K a w := by
  have hlen : l.length = tab.length := by simpa using congrArg List.length hrows
  have hil : i < l.length := by rw [hlen]; exact (List.getElem?_eq_some_iff.1 hr).1
  have ho : l[i]? = some l[i] := List.getElem?_eq_getElem hil
  generalize hoo : l[i] = o at ho
  have hrow : (o.dst, edgesOf o, o.guard) = (r.dst, r.edges, r.guard) := by
    have := congrArg (fun x => x[i]?) hrows
    simp only [List.getElem?_map, ho, hr, Option.map_some, Option.some.injEq] at this
    exact this
  simp only [Prod.mk.injEq] at hrow
  obtain ⟨hd, he, hg⟩ := hrow
  obtain ⟨c1, c2, c3, c4, c5⟩ := tabOk.row ht hr
  have hdn : ∀ d, r.dst = some d → d < n := by
    intro d hd
    have := List.all_eq_true.1 hdst r (List.mem_of_getElem? hr)
    rw [hd] at this
    simpa [Nat.blt_eq] using this
  have hdi : dstAt tab i = r.dst := by simp [dstAt, hr]
  -- all of the closure has been done
  have key : ∀ m, ∀ s, tab[m]? = some s → m ∈ D → ∀ j ∈ s.clo, j ∈ D := by
    intro m
    induction m using Nat.strongRecOn with
    | _ m ih =>
      intro s hs hmD j hj
      obtain ⟨e1, e2, _⟩ := tabOk.row ht hs
      rcases e2 j hj with hh | ⟨q, hq, s', hs', hj'⟩
      · exact hcl m hmD s hs j hh
      · exact ih q (e1 q hq) s' hs' (hcl m hmD s hs q hq) j hj'
  have hclo : ∀ j ∈ r.clo, j ∈ D := by
    intro j hj
    rcases c2 j hj with hh | ⟨m, hm', s, hs, hj'⟩
    · exact hre j hh
    · exact key m s hs (hre m hm') j hj'
  obtain ⟨gd, hrun⟩ := (Obls.at_ l 0 hob i o ho) r (by simpa using hr)
  simp only [Nat.zero_add] at gd hrun
  obtain ⟨vals, hvals, hsat⟩ := hm.vals
  have hnew : ∀ (v : Value), (spAt sp i).ok v → ∀ w', Ext w w' → sat w' (stars ((spAt sp i).hp v ++ (hpL sp vals D ++ H))) → Mid tab sp n e W H (i :: D) (a.put o.dst v) w' := by
    intro v hv w' hx hs
    have hslot : ∀ t, r.dst ≠ some t → (a.put o.dst v).tmps[t]? = a.tmps[t]? := by
      intro t ht'
      rw [hd]
      cases hrd : r.dst with
      | none => rfl
      | some d =>
        have : d ≠ t := fun e => by subst e; exact ht' hrd
        simp [Act.put, this]
    have hself : ∀ d, r.dst = some d → (a.put o.dst v).tmps[d]? = some v := by
      intro d hrd
      rw [hd, hrd]
      simp [Act.put, hm.size, hdn d hrd]
    refine ⟨?_, ?_, hm.ext.trans hx, fun t u hl hn => ?_, fun j => if j = i then v else vals j, fun j hj => ?_, ?_⟩
    · rw [hd]; cases r.dst <;> simp [Act.put, hm.size]
    · rw [hd]; cases r.dst <;> simp [Act.put, hm.defers]
    · rw [hslot t (fun e => hn i (by simp) (hdi.trans e))]
      exact hm.keep t u hl (fun j hj => hn j (by simp [hj]))
    · by_cases hji : j = i
      · subst hji
        refine ⟨by simpa using hv, fun d hdd => ?_⟩
        simp only [if_true]
        exact hself d (hdi.symm.trans hdd)
      · have hjD : j ∈ D := by simpa [hji] using hj
        obtain ⟨q1, q2⟩ := hvals j hjD
        refine ⟨by simpa [hji] using q1, fun d hdd => ?_⟩
        simp only [hji, if_false]
        rw [hslot d (fun e => hji (c5 d e j hdd).symm)]
        exact q2 d hdd
    · have hsame : ∀ L : List Nat, (∀ j ∈ L, j ∈ D) → hpL sp (fun j => if j = i then v else vals j) L = hpL sp vals L := by
        intro L hL
        unfold hpL
        refine flatMap_ext fun j hj => ?_
        have : j ≠ i := fun e => hi (e ▸ hL j hj)
        simp [this]
      have : hpL sp (fun j => if j = i then v else vals j) (i :: D) = (spAt sp i).hp v ++ hpL sp vals D := by
        rw [← hsame D (fun _ h => h)]
        simp [hpL]
      rw [this, List.append_assoc]
      exact hs
  unfold wpOp
  simp only [List.getElem?_toArray, ho]
  have hdo : ∀ j, (l.toArray[j]?).bind (·.dst) = dstAt tab j := by
    intro j
    have := congrArg (fun x => x[j]?) hrows
    simp only [List.getElem?_map] at this
    simp only [List.getElem?_toArray, dstAt]
    cases h1 : l[j]? <;> cases h2 : tab[j]? <;> simp_all
  have hyield : ∀ j x b, r.guard = some (j, b) → spAt sp j = .c (.bool x) → yielded l.toArray a.tmps j = some x := by
    intro j x b hgd hs
    obtain ⟨hje, d, hd⟩ := c4 j b hgd
    obtain ⟨q1, q2⟩ := hvals j (hre j hje)
    rw [hs] at q1
    have q1 : vals j = .bool x := q1
    unfold yielded
    rw [hdo j, hd]
    simp [q2 d hd, q1]
  have hyield' : ∀ j b, r.guard = some (j, b) → spAt sp j = .off → yielded l.toArray a.tmps j = none := by
    intro j b hgd hs
    obtain ⟨hje, d, hd⟩ := c4 j b hgd
    obtain ⟨q1, q2⟩ := hvals j (hre j hje)
    rw [hs] at q1
    have q1 : vals j = undef := q1
    unfold yielded
    rw [hdo j, hd]
    simp [q2 d hd, q1, undef]
  cases hsr : (spAt sp i).run with
  | false =>
    have hoff : spAt sp i = .off := by
      cases h : spAt sp i <;> rw [h] at hsr <;> simp [Sp.run] at hsr
    have hw : Region.wanted o (yielded l.toArray a.tmps) = false := by
      unfold Region.wanted
      rw [hg]
      cases hgd : r.guard with
      | none => rw [hgd] at gd; rw [show (spAt sp i).run = true from gd] at hsr; cases hsr
      | some jb =>
        obtain ⟨j, b⟩ := jb
        rw [hgd] at gd
        rcases gd with ⟨h1, _⟩ | ⟨_, h2 | h2⟩
        · rw [h1] at hsr; cases hsr
        · simp [hyield' j b hgd h2]
        · simp [hyield j _ b hgd h2]
    rw [hw]
    refine hK _ _ (hnew undef (by rw [hoff]; exact rfl) w (.refl w) ?_)
    rw [hoff]
    exact hsat
  | true =>
    have hw : Region.wanted o (yielded l.toArray a.tmps) = true := by
      unfold Region.wanted
      rw [hg]
      cases hgd : r.guard with
      | none => rfl
      | some jb =>
        obtain ⟨j, b⟩ := jb
        rw [hgd] at gd
        rcases gd with ⟨_, h1⟩ | ⟨h1, _⟩
        · simp [hyield j _ b hgd h1]
        · rw [h1] at hsr; cases hsr
    rw [hw]
    simp only [if_true]
    left
    obtain ⟨R, hR⟩ := pick (f := fun j => (spAt sp j).hp (vals j)) (H := H) r.clo D c3 hclo
    have h1 := AllV.out vals r.clo _ (fun j hj => (hvals j (hclo j hj)).1) (hrun hsr (stars R))
    refine h1.out a w ⟨⟨hm.size, hm.defers, fun t v hl => ?_⟩, ?_⟩ o rfl rfl K _ fun v w' H' hc hx hs => hK _ _ (hnew v hc.1 w' hx ?_)
    · rcases look_append _ _ t v hl with hl | hl
      · obtain ⟨j, hj, hd', rfl⟩ := look_env _ t v hl
        exact (hvals j (hclo j hj)).2 t hd'
      · obtain ⟨hk, hl⟩ := look_filter e0 t v hl
        refine hm.keep t v (he0.look t v hl) fun j hj hd' => ?_
        simp only [keep, List.all_eq_true] at hk
        cases hs : tab[j]? with
        | none => simp [dstAt, hs] at hd'
        | some s =>
          have := hk (s, j) (by rw [List.mem_zipIdx_iff_getElem?]; simpa using hs)
          simp only [dstAt, hs, Option.bind_some] at hd'
          simp only [hd', bne_self_eq_false, Bool.false_or, List.contains_eq_mem, decide_eq_true_eq] at this
          exact hi (key j s hs hj i this)
    · refine hsat.mono fun h x => ?_
      have x1 := (hR h).1 x
      refine stars_append' _ _ _ (sep_mono (stars_append _ _ _ x1) (fun _ a => a) fun h' y => ?_)
      have y1 := sep_comm (stars_append _ _ _ y)
      exact stars_append' _ _ _ (sep_mono y1 (fun _ a => a) fun h2 z => ⟨h2, fun _ => none, fun _ => .inr rfl, .refl _, fun _ _ e => (by cases e), z, trivial⟩)
    · refine hs.mono fun h x => (hR h).2 _ ?_
      have x1 := hc.2 h x
      refine stars_append' _ _ _ (sep_mono (stars_append _ _ _ x1) (fun _ a => a) fun h' y => ?_)
      refine stars_append' _ _ _ (sep_mono (stars_append _ _ _ y) (fun _ a => a) fun h2 z => ?_)
      refine stars_append' _ _ _ (sep_comm (sep_mono (stars_append _ _ _ z) (fun _ a => a) fun h3 u => ?_))
      obtain ⟨u1, u2, _, s1, _, q, _⟩ := u
      exact stars_up (L := R) q s1
/-- All of them. -/
theorem filter_le {p : Nat → Bool} {i : Nat} : ∀ (l : List Nat), (l.filter fun x => p x && x != i).length ≤ (l.filter p).length
  | [] => by simp
  | y :: l => by
    have ih := filter_le (p := p) (i := i) l
    simp only [List.filter_cons]
    cases hy : p y
    · simpa using ih
    · by_cases hyi : y = i
      · subst hyi; simp; omega
      · simp [hyi]; exact ih
theorem filter_lt {p : Nat → Bool} {i : Nat} : ∀ (l : List Nat), i ∈ l → p i = true → (l.filter fun x => p x && x != i).length < (l.filter p).length
  | [], h, _ => by simp at h
  | x :: l, h, hp => by
    by_cases hx : x = i
    · subst hx
      have hle := filter_le (p := p) (i := x) l
      simp only [List.filter_cons, hp, bne_self_eq_false, Bool.and_false, Bool.false_eq_true, if_false, if_true, List.length_cons]
      omega
    · have := filter_lt l (by simpa [Ne.symm hx] using h) hp
      simp only [List.filter_cons]
      cases hpx : p x
      · simpa using this
      · simp [hx]; exact this
theorem any_all (he0 : Covers e e0) (ht : tabOk tab = true) (hrows : l.map (fun o => (o.dst, edgesOf o, o.guard)) = tab.map (fun r => (r.dst, r.edges, r.guard))) (hob : Obls P n e0 H sp tab 0 l) (hdst : tab.all (fun r => match r.dst with | none => true | some d => Nat.blt d n) = true)
    (hend : ∀ D a w, (∀ i, i < l.length → i ∈ D) → Mid tab sp n e W H D a w → k.post P .normal a w) :
    ∀ (fuel : Nat) (listed : Array Bool) (D : List Nat) (a : Act) (w : World), D.Nodup → (∀ i ∈ D, i < l.length) → (∀ i ∈ D, ∀ r, tab[i]? = some r → ∀ j ∈ r.edges, j ∈ D) → listed.size = l.length → (∀ i, i < l.length → listed[i]? = some (decide (i ∈ D))) →
      ((List.range l.length).filter fun x => !decide (x ∈ D)).length ≤ fuel → Mid tab sp n e W H D a w → wpAny P .any l.toArray (k.post P) fuel listed a w := by
  have hlen : l.length = tab.length := by simpa using congrArg List.length hrows
  have hrow : ∀ i, i < l.length → ∃ r o, tab[i]? = some r ∧ l[i]? = some o ∧ edgesOf o = r.edges := by
    intro i hi
    have h1 : l[i]? = some l[i] := List.getElem?_eq_getElem hi
    have h2 : tab[i]? = some (tab[i]'(hlen ▸ hi)) := List.getElem?_eq_getElem _
    have := congrArg (fun x => x[i]?) hrows
    simp only [List.getElem?_map, h1, h2, Option.map_some, Option.some.injEq, Prod.mk.injEq] at this
    exact ⟨_, _, h2, h1, this.2.1⟩
  have hready : ∀ (listed : Array Bool) (D : List Nat), listed.size = l.length → (∀ i, i < l.length → listed[i]? = some (decide (i ∈ D))) → ∀ i, i < l.length → i ∉ D → (∀ r, tab[i]? = some r → ∀ j ∈ r.edges, j ∈ D) → i ∈ Region.ready .any l.toArray listed := by
    intro listed D hs hl i hi hiD hre
    obtain ⟨r, o, hr, ho, he⟩ := hrow i hi
    simp only [Region.ready, List.size_toArray, List.mem_filter, List.mem_range, Bool.and_eq_true]
    refine ⟨hi, by simp [Array.getD_eq_getD_getElem?, hl i hi, hiD], ?_⟩
    simp only [List.getElem?_toArray, ho, Option.map_some, Option.getD_some]
    rw [Array.all_eq_true_iff_forall_mem]
    intro ed hed
    cases hb : Region.binds .any ed
    · rfl
    · have hj : ed.on ∈ r.edges := by
        rw [← he]
        simp only [edgesOf, List.mem_map, List.mem_filter]
        exact ⟨ed, ⟨by simpa using hed, hb⟩, rfl⟩
      have hjD := hre r hr ed.on hj
      have hjl : ed.on < l.length := by
        obtain ⟨c1, _⟩ := tabOk.row ht hr
        have := c1 _ hj
        omega
      simp [Array.getD_eq_getD_getElem?, hl _ hjl, hjD]
  have hall : ∀ (listed : Array Bool) (D : List Nat), listed.size = l.length → (∀ i, i < l.length → listed[i]? = some (decide (i ∈ D))) → Region.ready .any l.toArray listed = [] → ∀ i, i < l.length → i ∈ D := by
    intro listed D hs hl hr i
    induction i using Nat.strongRecOn with
    | _ i ih =>
      intro hi
      rcases Classical.em (i ∈ D) with h | h
      · exact h
      · have := hready listed D hs hl i hi h fun r hr' j hj => by
          obtain ⟨c1, _⟩ := tabOk.row ht hr'
          exact ih j (c1 j hj) (by have := c1 j hj; omega)
        rw [hr] at this
        cases this
  intro fuel
  induction fuel with
  | zero =>
    intro listed D a w hD hlt hcl hs hl hf hm
    have hin : ∀ i, i < l.length → i ∈ D := by
      intro i hi
      rcases Classical.em (i ∈ D) with h | h
      · exact h
      · have : i ∈ (List.range l.length).filter fun x => !decide (x ∈ D) := by simp [hi, h]
        have := List.length_pos_of_mem this
        omega
    refine ⟨?_, hend D a w hin hm⟩
    simp only [Region.ready, List.size_toArray, List.filter_eq_nil_iff, List.mem_range]
    intro i hi
    simp [Array.getD_eq_getD_getElem?, hl i hi, hin i hi]
  | succ fuel ih =>
    intro listed D a w hD hlt hcl hs hl hf hm
    refine ⟨fun hr => hend D a w (hall listed D hs hl hr) hm, fun i hi => ?_⟩
    simp only [Region.ready, List.size_toArray, List.mem_filter, List.mem_range, Bool.and_eq_true] at hi
    obtain ⟨hil, hi1, hi2⟩ := hi
    have hiD : i ∉ D := by simpa [Array.getD_eq_getD_getElem?, hl i hil] using hi1
    obtain ⟨r, o, hr, ho, he⟩ := hrow i hil
    have hre : ∀ j ∈ r.edges, j ∈ D := by
      intro j hj
      obtain ⟨c1, _⟩ := tabOk.row ht hr
      have hjl : j < l.length := by have := c1 j hj; omega
      rw [← he] at hj
      simp only [edgesOf, List.mem_map, List.mem_filter] at hj
      obtain ⟨ed, ⟨hed, hb⟩, rfl⟩ := hj
      simp only [List.getElem?_toArray, ho, Option.map_some, Option.getD_some] at hi2
      rw [Array.all_eq_true_iff_forall_mem] at hi2
      have := hi2 ed (by simpa using hed)
      simpa [hb, Array.getD_eq_getD_getElem?, hl _ hjl] using this
    refine mid_step he0 ht hrows hob hdst hD hcl hiD hr hre hm _ fun a' w' hm' => ih _ (i :: D) a' w' (List.nodup_cons.2 ⟨hiD, hD⟩) ?_ ?_ ?_ ?_ ?_ hm'
    · intro j hj
      rcases List.mem_cons.1 hj with rfl | hj
      · exact hil
      · exact hlt j hj
    · intro j hj s hs' q hq
      rcases List.mem_cons.1 hj with rfl | hj
      · rw [hr] at hs'; cases hs'; exact List.mem_cons.2 (.inr (hre q hq))
      · exact List.mem_cons.2 (.inr (hcl j hj s hs' q hq))
    · simpa using hs
    · intro j hj
      by_cases hji : j = i
      · subst hji; simp [hs, hil]
      · rw [Array.getElem?_setIfInBounds, if_neg (Ne.symm hji), hl j hj]; simp [hji]
    · have := filter_lt (p := fun x => !decide (x ∈ D)) (i := i) (List.range l.length) (by simpa using hil) (by simpa using hiD)
      have e2 : ((List.range l.length).filter fun x => !decide (x ∈ i :: D)) = ((List.range l.length).filter fun x => (!decide (x ∈ D)) && x != i) := by
        apply List.filter_congr
        intro x _
        by_cases hx : x = i <;> by_cases hxD : x ∈ D <;> simp [hx, hxD]
      rw [e2]
      omega
/-- A REGION THAT DRAWS ITS ORDER. -/
theorem st_draw {id : Nat} (e0 : Ev) (sp : List Sp) (tab : List Row) (hm : P.follows .mixedOrders = true) (he : Covers e e0) (hrows : l.map (fun o => (o.dst, edgesOf o, o.guard)) = tab.map (fun r => (r.dst, r.edges, r.guard)))
    (ht : tabOk tab = true) (hdst : tab.all (fun r => match r.dst with | none => true | some d => Nat.blt d n) = true) (hob : Obls P n e0 H sp tab 0 l)
    (h : AllV sp tab (List.range tab.length).reverse fun E Hs => Nx P k n (E ++ e) W (Hs ++ H)) : St P (.region id l.toArray true) k n e W H :=
  ⟨fun a w ho => by
    have hlen : l.length = tab.length := by simpa using congrArg List.length hrows
    refine wp_region_any hm ?_
    refine any_all he ht hrows hob hdst (fun D a w hall hm => ?_) _ _ [] _ _ List.nodup_nil (by simp) (by simp) (by simp) (fun i hi => by simp [hi]) (Nat.le_trans (List.length_filter_le _ _) (by simp)) ⟨ho.ev.size, ho.ev.defers, ho.ext.drew, fun t v hl _ => ho.ev.get t v hl, fun _ => undef, by simp, ?_⟩
    · obtain ⟨vals, hv, hs⟩ := hm.vals
      have hin : ∀ j ∈ (List.range tab.length).reverse, j ∈ D := fun j hj => hall j (by simp at hj; omega)
      have hx := AllV.out vals _ _ (fun j hj => (hv j (hin j hj)).1) h
      refine hx.out a w ⟨⟨hm.size, hm.defers, fun t v hl => ?_⟩, hm.ext, ?_⟩
      · rcases look_append' _ _ t v hl with hl | ⟨hn, hl⟩
        · obtain ⟨j, hj, hd, rfl⟩ := look_env _ t v hl
          exact (hv j (hin j hj)).2 t hd
        · refine hm.keep t v hl fun i hi hd => ?_
          have hit : i < tab.length := by
            cases hs : tab[i]? with
            | none => simp [dstAt, hs] at hd
            | some s => exact (List.getElem?_eq_some_iff.1 hs).1
          exact look_env_none _ t hn i (by simp; exact hit) hd
      · obtain ⟨R, hR⟩ := pick (f := fun j => (spAt sp j).hp (vals j)) (H := H) (List.range tab.length).reverse D (List.pairwise_reverse.2 (List.Pairwise.imp Ne.symm List.nodup_range)) hin
        refine hs.mono fun h x => ?_
        have x1 := stars_append _ _ _ ((hR h).1 x)
        refine stars_append' _ _ _ (sep_mono x1 (fun _ a => a) fun h' y => ?_)
        obtain ⟨_, u2, _, _, s2, _, q⟩ := stars_append _ _ _ y
        exact stars_up (L := H) q s2
    · exact ho.sat⟩
end
end Go.Dp
