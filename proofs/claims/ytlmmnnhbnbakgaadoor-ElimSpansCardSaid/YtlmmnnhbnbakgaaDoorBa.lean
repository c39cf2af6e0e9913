/-
  The ground of these proofs: a walk by one small lemma an operation, over a frame that is a list of slots and a memory that is a list of separate pieces.
  Conditions: none; nothing here speaks of a program.
-/
import Derived.WalkKit
set_option linter.unusedVariables false
namespace Go.Dp
open Go.RowKit

/-! ## Slots -/
abbrev Ev := List (Nat × Value)
def look : Ev → Nat → Option Value
  | [], _ => none
  | (k, v) :: l, t => bif Nat.beq k t then some v else look l t
def opd (e : Ev) : Operand → Option Value
  | .tmp t => look e t
  | .const v => some v
  | .global g => some (.pointer (some ⟨g, 0, none⟩))
  | .func f => some (.func (.func f) #[] #[])
structure EvOk (a : Act) (n : Nat) (e : Ev) : Prop where
  size : a.tmps.size = n
  defers : a.defers = []
  get : ∀ t v, look e t = some v → a.tmps[t]? = some v
theorem EvOk.eval {a : Act} {n : Nat} {e : Ev} (h : EvOk a n e) {x : Operand} {v : Value} (hx : opd e x = some v) : a.eval x = v := by
  cases x with
  | tmp t => have := h.get t v hx; simp [Act.eval, this]
  | const u => simpa [opd, Act.eval] using hx
  | global g => simpa [opd, Act.eval] using hx
  | func f => simpa [opd, Act.eval] using hx
theorem EvOk.put {a : Act} {n : Nat} {e : Ev} (h : EvOk a n e) {d : Nat} (hd : Nat.blt d n = true) (v : Value) : EvOk (a.put (some d) v) n ((d, v) :: e) := by
  have hd' : d < n := by simpa [Nat.blt_eq] using hd
  refine ⟨by simp [Act.put, h.size], by simp [Act.put, h.defers], ?_⟩
  intro t u hl
  simp only [look] at hl
  by_cases he : d = t
  · subst he
    rw [show Nat.beq d d = true from by simp] at hl
    simp only [cond_true, Option.some.injEq] at hl
    subst hl
    simp [Act.put, h.size, hd']
  · have : Nat.beq d t = false := by
      cases hb : Nat.beq d t
      · rfl
      · exact absurd (Nat.eq_of_beq_eq_true hb) he
    rw [this] at hl
    simp only [cond_false] at hl
    have := h.get t u hl
    simp [Act.put, he, this]
theorem EvOk.put_none {a : Act} {n : Nat} {e : Ev} (h : EvOk a n e) (v : Value) : EvOk (a.put none v) n e := h
def Covers (e : Ev) : Ev → Prop
  | [] => True
  | (t, v) :: l => look e t = some v ∧ Covers e l
theorem Covers.look {e : Ev} : ∀ {l : Ev}, Covers e l → ∀ t v, look l t = some v → look e t = some v
  | [], _, t, v, h => by simp [Dp.look] at h
  | (k, u) :: l, h, t, v, hl => by
    simp only [Dp.look] at hl
    cases hb : Nat.beq k t
    · rw [hb] at hl; exact Covers.look h.2 t v hl
    · rw [hb] at hl
      simp only [cond_true, Option.some.injEq] at hl
      subst hl
      have := Nat.eq_of_beq_eq_true hb
      subst this
      exact h.1
theorem EvOk.covers {a : Act} {n : Nat} {e l : Ev} (h : EvOk a n e) (hc : Covers e l) : EvOk a n l := ⟨h.size, h.defers, fun t v hl => h.get t v (hc.look t v hl)⟩
theorem cov_nil {e : Ev} : Covers e [] := trivial
theorem cov_cons {e l : Ev} {t : Nat} {v v' : Value} (h : look e t = some v') (hv : v' = v) (hl : Covers e l) : Covers e ((t, v) :: l) := ⟨hv ▸ h, hl⟩

/-! ## Memory in separate pieces -/
abbrev Hp := Nat → Option Obj
def one (b : Nat) (o : Obj) : Hp := fun i => if i = b then some o else none
def Sub (h1 h : Hp) : Prop := ∀ i o, h1 i = some o → h i = some o
theorem Sub.refl (h : Hp) : Sub h h := fun _ _ e => e
theorem Sub.trans {a b c : Hp} (h : Sub a b) (k : Sub b c) : Sub a c := fun i o e => k i o (h i o e)
def Dis (h1 h2 : Hp) : Prop := ∀ i, h1 i = none ∨ h2 i = none
theorem Dis.symm {a b : Hp} (h : Dis a b) : Dis b a := fun i => (h i).symm
def sep (A B : Hp → Prop) : Hp → Prop := fun h => ∃ h1 h2, Dis h1 h2 ∧ Sub h1 h ∧ Sub h2 h ∧ A h1 ∧ B h2
inductive Hl where
  | box (b : Nat) (T : TypeId) (cs : List Value)
  | row (T : TypeId) (size : Nat) (v : Value) (n : Nat) (xs : List Value)
  | any (A : Hp → Prop)
def rowHp (T : TypeId) (size : Nat) (v : Value) (n : Nat) (xs : List Value) (h : Hp) : Prop :=
  xs.length = n * size ∧ ((v = .slice none 0 0 ∧ n = 0 ∧ ∀ i, h i = none) ∨
    ∃ g cap cur, v = .slice (some ⟨g, 0, none⟩) n cap ∧ h = one g (.cells cur T (0, 0)) ∧ n ≤ cap ∧ cap ≤ maxLen ∧ cur.size = cap * size ∧ cur.toList.take (n * size) = xs)
def Hl.den : Hl → Hp → Prop
  | .box b T cs => fun h => h = one b (.cells cs.toArray T (0, 0))
  | .row T size v n xs => rowHp T size v n xs
  | .any A => A
def stars : List Hl → Hp → Prop
  | [] => fun _ => True
  | x :: L => sep x.den (stars L)
def sat (w : World) (A : Hp → Prop) : Prop := ∃ h : Hp, (∀ i o, h i = some o → w.heap[i]? = some o) ∧ A h
structure Ext (W w : World) : Prop where
  os : w.os = W.os
  tape : w.tape = W.tape
  output : w.output = W.output
  size : W.heap.size ≤ w.heap.size
theorem Ext.refl (w : World) : Ext w w := ⟨rfl, rfl, rfl, Nat.le_refl _⟩
theorem Ext.trans {a b c : World} (h : Ext a b) (k : Ext b c) : Ext a c := ⟨k.os.trans h.os, k.tape.trans h.tape, k.output.trans h.output, Nat.le_trans h.size k.size⟩
theorem Ext.drew {a b : World} (h : Ext a b) : Ext a b.drew := ⟨h.os, h.tape, h.output, h.size⟩
theorem Ext.alloc {a b : World} (h : Ext a b) (o : Obj) : Ext a (b.alloc o) := ⟨h.os, h.tape, h.output, by have := h.size; simp; omega⟩
theorem Ext.setCell {a b : World} (h : Ext a b) (p : Addr) (v : Value) : Ext a (b.setCell p v) := ⟨h.os, h.tape, h.output, by have := h.size; simpa using this⟩
theorem sat.drew {w : World} {A : Hp → Prop} (h : sat w A) : sat w.drew A := h
theorem sat.mono {w : World} {A B : Hp → Prop} (h : sat w A) (hab : ∀ h, A h → B h) : sat w B := let ⟨x, a, b⟩ := h; ⟨x, a, hab _ b⟩

theorem sep_comm {A B : Hp → Prop} {h : Hp} (x : sep A B h) : sep B A h := let ⟨h1, h2, hd, s1, s2, a, b⟩ := x; ⟨h2, h1, hd.symm, s2, s1, b, a⟩
theorem sep_up {A B : Hp → Prop} {h h' : Hp} (x : sep A B h) (s : Sub h h') : sep A B h' := let ⟨h1, h2, hd, s1, s2, a, b⟩ := x; ⟨h1, h2, hd, s1.trans s, s2.trans s, a, b⟩
theorem sep_assoc {A B C : Hp → Prop} {h : Hp} (x : sep (sep A B) C h) : sep A (sep B C) h := by
  obtain ⟨h12, h3, hd, s12, s3, ⟨h1, h2, hd', s1, s2, ha, hb⟩, hc⟩ := x
  have e1 : ∀ i, h12 i = none → h1 i = none := fun i e => by
    cases h : h1 i with
    | none => rfl
    | some o => rw [s1 i o h] at e; cases e
  have e2 : ∀ i, h12 i = none → h2 i = none := fun i e => by
    cases h : h2 i with
    | none => rfl
    | some o => rw [s2 i o h] at e; cases e
  have d13 : Dis h1 h3 := fun i => (hd i).imp_left (e1 i)
  have d23 : Dis h2 h3 := fun i => (hd i).imp_left (e2 i)
  refine ⟨h1, fun i => (h2 i).or (h3 i), fun i => ?_, s1.trans s12, fun i o e => ?_, ha, h2, h3, d23, fun i o e => by simp [e], fun i o e => ?_, hb, hc⟩
  · rcases d13 i with e | e
    · exact .inl e
    · rcases hd' i with e' | e'
      · exact .inl e'
      · right; simp [e, e']
  · have e : (h2 i).or (h3 i) = some o := e
    cases h : h2 i with
    | none => rw [h] at e; exact s3 i o (by simpa using e)
    | some q => rw [h] at e; simp only [Option.some_or, Option.some.injEq] at e; subst e; exact s12 _ _ (s2 _ _ h)
  · rcases d23 i with h | h
    · simp [h, e]
    · rw [h] at e; cases e
theorem sep_assoc' {A B C : Hp → Prop} {h : Hp} (x : sep A (sep B C) h) : sep (sep A B) C h := by
  have flip : ∀ h, sep B C h → sep C B h := fun h => sep_comm
  obtain ⟨h1, h23, hd, s1, s23, ha, hbc⟩ := x
  have y : sep (sep C B) A h := ⟨h23, h1, hd.symm, s23, s1, sep_comm hbc, ha⟩
  obtain ⟨h3, h21, hd2, s3, s21, hc, hba⟩ := sep_assoc y
  exact ⟨h21, h3, hd2.symm, s21, s3, sep_comm hba, hc⟩
theorem sep_mono {A B A' B' : Hp → Prop} {h : Hp} (x : sep A B h) (ha : ∀ h, A h → A' h) (hb : ∀ h, B h → B' h) : sep A' B' h := by
  obtain ⟨h1, h2, hd, s1, s2, a, b⟩ := x
  exact ⟨h1, h2, hd, s1, s2, ha _ a, hb _ b⟩
theorem stars_up : ∀ {L : List Hl} {h h' : Hp}, stars L h → Sub h h' → stars L h'
  | [], _, _, _, _ => trivial
  | _ :: _, _, _, x, s => sep_up x s
theorem sep_left {A B : Hp → Prop} {w : World} (x : sat w (sep A B)) : sat w A := by
  obtain ⟨h, hw, h1, h2, hd, s1, s2, a, b⟩ := x
  exact ⟨h1, fun i o e => hw i o (s1 i o e), a⟩
theorem sep_right {A B : Hp → Prop} {w : World} (x : sat w (sep A B)) : sat w B := sep_left (x.mono fun _ => sep_comm)

/-- 'x' stands in H; what else stands there is H'. -/
inductive Sel : List Hl → Hl → List Hl → Prop
  | here {x : Hl} {H : List Hl} : Sel (x :: H) x H
  | there {x y : Hl} {H H' : List Hl} (h : Sel H x H') : Sel (y :: H) x (y :: H')
theorem Sel.out {H H' : List Hl} {x : Hl} (s : Sel H x H') : ∀ h, stars H h → stars (x :: H') h := by
  induction s with
  | here => exact fun _ h => h
  | there s ih =>
    intro h hs
    have := sep_mono hs (fun _ a => a) ih
    exact sep_assoc (sep_mono (sep_assoc' this) (fun _ => sep_comm) (fun _ a => a))
/-- 'x' stands in H; with 'y' in its place it is H'. -/
inductive Upd : List Hl → Hl → Hl → List Hl → Prop
  | here {x y : Hl} {H : List Hl} : Upd (x :: H) x y (y :: H)
  | there {x y z : Hl} {H H' : List Hl} (h : Upd H x y H') : Upd (z :: H) x y (z :: H')
theorem Upd.out {H H' : List Hl} {x y : Hl} (s : Upd H x y H') : ∃ R : Hp → Prop, (∀ h, stars H h → sep x.den R h) ∧ (∀ h, sep y.den R h → stars H' h) := by
  induction s with
  | here => exact ⟨_, fun _ h => h, fun _ h => h⟩
  | @there x y z H H' s ih =>
    obtain ⟨R, h1, h2⟩ := ih
    refine ⟨sep z.den R, fun h hs => ?_, fun h hs => ?_⟩
    · exact sep_assoc (sep_mono (sep_assoc' (sep_mono hs (fun _ a => a) h1)) (fun _ => sep_comm) (fun _ a => a))
    · exact sep_mono (sep_assoc (sep_mono (sep_assoc' hs) (fun _ => sep_comm) (fun _ a => a))) (fun _ a => a) h2
/-- All of K stands in H. -/
inductive Ent : List Hl → List Hl → Prop
  | nil {H : List Hl} : Ent H []
  | cons {H H' K : List Hl} {x : Hl} (s : Sel H x H') (h : Ent H' K) : Ent H (x :: K)
theorem Ent.out {H K : List Hl} (s : Ent H K) : ∀ h, stars H h → stars K h := by
  induction s with
  | nil => exact fun _ _ => trivial
  | cons s _ ih => exact fun h hs => sep_mono (s.out h hs) (fun _ a => a) ih
theorem Ent.refl : ∀ H : List Hl, Ent H H
  | [] => .nil
  | _ :: H => .cons .here (Ent.refl H)
theorem sat.any {w : World} {H : List Hl} (h : sat w (stars H)) : sat w (stars [.any (stars H)]) := h.mono fun x hx => ⟨x, fun _ => none, fun _ => .inr rfl, .refl _, fun _ _ e => (by cases e), hx, trivial⟩
theorem stars_append : ∀ (A B : List Hl) (h : Hp), stars (A ++ B) h → sep (stars A) (stars B) h
  | [], _, h, hs => ⟨fun _ => none, h, fun _ => .inl rfl, fun _ _ e => (by cases e), .refl _, trivial, hs⟩
  | _ :: A, B, _, hs => sep_assoc' (sep_mono hs (fun _ a => a) (stars_append A B))
theorem stars_append' : ∀ (A B : List Hl) (h : Hp), sep (stars A) (stars B) h → stars (A ++ B) h
  | [], B, h, ⟨h1, h2, hd, s1, s2, _, hb⟩ => stars_up (L := B) hb s2
  | _ :: A, B, _, hs => sep_mono (sep_assoc hs) (fun _ a => a) (stars_append' A B)
end Go.Dp
