/-
  What boot does to states, plain.
  Conditions: those that stand in each theorem.
-/
import Derived.Test.YtajlpalgcdiplaaE14
set_option linter.unusedVariables false
set_option linter.unusedSimpArgs false
namespace Go.Dp
open Go.RowKit Go.Proofs
def startS (x : StD) : StD := ⟨if x.t = 1 then 1 - x.a else x.a, if x.t = 0 then 0 else x.t - 1, x.f, x.g, x.s0, x.s1, x.on, x.m⟩
def maxV (a b : BitVec 32) : BitVec 32 := if a.toNat ≤ b.toNat then b else a
theorem maxV_hr (a b : BitVec 32) : ((a.toNat : Int) ≤ b.toNat ∧ ((maxV a b).toNat : Int) = b.toNat) ∨ ((b.toNat : Int) ≤ a.toNat ∧ ((maxV a b).toNat : Int) = a.toNat) := by
  unfold maxV
  split
  · left; omega
  · right; omega
def confS (x : StD) : StD := ⟨x.a, 0, maxV x.f x.cur.v, x.g, x.s0, x.s1, x.on, x.m⟩
def newSl (x : StD) : SlotD := ⟨x.m.v, x.m.n, x.m.h⟩
def actS (x : StD) : StD := ⟨1 - x.a, 3, x.f, x.g, if x.a = 0 then x.s0 else newSl x, if x.a = 0 then newSl x else x.s1, false, zM⟩
theorem same_copyL (x y : StD) (r0 r1 r2 : PA) : (copyS x r0 r1 r2).same y = x.same y := rfl
theorem same_copyR (x y : StD) (r0 r1 r2 : PA) : x.same (copyS y r0 r1 r2) = x.same y := rfl
theorem copy_may (x : StD) (r0 r1 r2 : PA) : (copyS x r0 r1 r2).may = x.may := by
  have e1 : (copyS x r0 r1 r2).cur.something = x.cur.something := by
    unfold StD.cur
    by_cases ha : x.a = 0
    · rw [if_pos ha, if_pos (show (copyS x r0 r1 r2).a = 0 from ha)]; rfl
    · rw [if_neg ha, if_neg (show ¬ (copyS x r0 r1 r2).a = 0 from ha)]; rfl
  have e2 : (copyS x r0 r1 r2).oth.something = x.oth.something := by
    unfold StD.oth
    by_cases ha : x.a = 0
    · rw [if_pos ha, if_pos (show (copyS x r0 r1 r2).a = 0 from ha)]; rfl
    · rw [if_neg ha, if_neg (show ¬ (copyS x r0 r1 r2).a = 0 from ha)]; rfl
  have e3 : (copyS x r0 r1 r2).oth.nothing = x.oth.nothing := by
    unfold StD.oth
    by_cases ha : x.a = 0
    · rw [if_pos ha, if_pos (show (copyS x r0 r1 r2).a = 0 from ha)]; rfl
    · rw [if_neg ha, if_neg (show ¬ (copyS x r0 r1 r2).a = 0 from ha)]; rfl
  unfold StD.may
  rw [e1, e2, e3]
  rfl
theorem copy_light {x : StD} (r0 r1 r2 : PA) (h : x.light) : (copyS x r0 r1 r2).light := h
theorem may_light {x : StD} (h : x.may = true) : x.light := by
  rcases Classical.em x.light with hl | hl
  · exact hl
  · rw [StD.heavy hl] at h; cases h
structure MayF (x : StD) : Prop where
  a : x.a = 0 ∨ x.a = 1
  t : 0 ≤ x.t ∧ x.t ≤ 3
  c : x.cur.something = true
  o : (x.oth.something = true) ∨ (x.oth.nothing = true ∧ x.t ≤ 0)
  m : (if x.on then x.m.may else x.m.none) = true
theorem may_iff {x : StD} : x.may = true ↔ MayF x := by
  simp only [StD.may, Bool.and_eq_true, Bool.or_eq_true, decide_eq_true_eq]
  constructor
  · rintro ⟨⟨⟨⟨h1, h2⟩, h3⟩, h4⟩, h5⟩; exact ⟨h1, h2, h3, h4, h5⟩
  · rintro ⟨h1, h2, h3, h4, h5⟩; exact ⟨⟨⟨⟨h1, h2⟩, h3⟩, h4⟩, h5⟩
theorem start_may {x : StD} (h : x.may = true) : (startS x).may = true := by
  obtain ⟨h1, h2, h3, h4, h5⟩ := may_iff.1 h
  refine may_iff.2 ?_
  by_cases t0 : x.t = 0
  · have e : startS x = x := by
      obtain ⟨a, t, f, g, s0, s1, on, m⟩ := x
      dsimp only at t0
      subst t0
      simp [startS]
    rw [e]; exact ⟨h1, h2, h3, h4, h5⟩
  · have h4 : x.oth.something = true := by
      rcases h4 with h4 | h4
      · exact h4
      · omega
    by_cases t1 : x.t = 1
    · have ea : (startS x).a = 1 - x.a := if_pos t1
      have et : (startS x).t = 0 := by show (if x.t = 0 then 0 else x.t - 1) = 0; rw [if_neg t0]; omega
      have ec : (startS x).cur = x.oth := by
        unfold StD.cur StD.oth
        rw [ea]
        rcases h1 with h1 | h1
        · rw [if_neg (by omega), if_pos h1]; rfl
        · rw [if_pos (by omega), if_neg (by omega)]; rfl
      have eo : (startS x).oth = x.cur := by
        unfold StD.cur StD.oth
        rw [ea]
        rcases h1 with h1 | h1
        · rw [if_neg (by omega), if_pos h1]; rfl
        · rw [if_pos (by omega), if_neg (by omega)]; rfl
      exact ⟨by rw [ea]; omega, by rw [et]; omega, by rw [ec]; exact h4, .inl (by rw [eo]; exact h3), h5⟩
    · have ea : (startS x).a = x.a := if_neg t1
      have et : (startS x).t = x.t - 1 := if_neg t0
      have ec : (startS x).cur = x.cur := by unfold StD.cur; rw [ea]; rfl
      have eo : (startS x).oth = x.oth := by unfold StD.oth; rw [ea]; rfl
      exact ⟨by rw [ea]; exact h1, by rw [et]; omega, by rw [ec]; exact h3, .inl (by rw [eo]; exact h4), h5⟩
theorem conf_may {x : StD} (h : x.may = true) : (confS x).may = true := by
  obtain ⟨h1, h2, h3, h4, h5⟩ := may_iff.1 h
  refine may_iff.2 ⟨h1, by show 0 ≤ (0 : Int) ∧ (0 : Int) ≤ 3; omega, h3, ?_, h5⟩
  rcases h4 with h4 | h4
  · exact .inl h4
  · exact .inr ⟨h4.1, by show (0 : Int) ≤ 0; omega⟩
theorem off_may' {x : StD} (h : x.may = true) : x.off.may = true := by
  obtain ⟨h1, h2, h3, h4, h5⟩ := may_iff.1 h
  exact may_iff.2 ⟨h1, h2, h3, h4, by rfl⟩
theorem man_may {m : ManD} (h : m.may = true) : 1 ≤ m.n ∧ m.n ≤ 512 ∧ m.h.l.length = 32 := by
  simp only [ManD.may, mayP, Bool.and_eq_true, decide_eq_true_eq] at h
  refine ⟨?_, ?_, h.2⟩
  · have h1 := h.1.1
    unfold count at h1
    split at h1
    · omega
    · omega
  · have h1 := h.1.1
    unfold count at h1
    split at h1
    · omega
    · omega
theorem act_cur (x : StD) (ha : x.a = 0 ∨ x.a = 1) : (actS x).cur = newSl x ∧ (actS x).oth = x.cur := by
  unfold StD.cur StD.oth actS
  rcases ha with h | h
  · simp [h]
  · simp [h]
theorem act_may {x : StD} (h : x.may = true) (ho : x.on = true) (ht : x.t = 0) : (actS x).may = true := by
  obtain ⟨h1, h2, h3, h4, h5⟩ := may_iff.1 h
  rw [if_pos ho] at h5
  obtain ⟨q1, q2, q3⟩ := man_may h5
  obtain ⟨e1, e2⟩ := act_cur x h1
  refine may_iff.2 ⟨by show 1 - x.a = 0 ∨ 1 - x.a = 1; omega, by show 0 ≤ (3 : Int) ∧ (3 : Int) ≤ 3; omega, ?_, .inl ?_, by rfl⟩
  · rw [e1]; exact decide_eq_true (show x.m.h.l.length = 32 ∧ 1 ≤ x.m.n ∧ x.m.n ≤ 512 from ⟨q3, q1, q2⟩)
  · rw [e2]; exact h3
/-- Nothing new is confirmed. -/
def confOn (x : StD) : Bool := !((confS x).same x)
theorem confOn_eq (x : StD) : confOn x = !(decide (x.t = 0) && decide ((maxV x.f x.cur.v).toNat = x.f.toNat)) := by
  show (!(decide (x.a = x.a) && (decide ((0 : Int) = x.t) && (decide (((maxV x.f x.cur.v).toNat : Int) = (x.f.toNat : Int)) && (decide ((x.g.toNat : Int) = x.g.toNat) && ((x.on == x.on) && (x.s0.same x.s0 && (x.s1.same x.s1 && x.m.same x.m)))))))) = _
  rw [SlotD.same_self, SlotD.same_self, ManD.same_self]
  generalize maxV x.f x.cur.v = w
  congr 1
  rw [beq_self_eq_true]
  simp only [eq_self, decide_true, Bool.true_and, Bool.and_true]
  rw [Bool.eq_iff_iff]
  simp only [Bool.and_eq_true, decide_eq_true_eq]
  omega
theorem conf_twice (x : StD) (h : x.may = true) : confOn (confS x) = false := by
  rw [confOn_eq]
  have e : (confS x).cur = x.cur := rfl
  have e2 : (confS x).f = maxV x.f x.cur.v := rfl
  have e3 : (confS x).t = 0 := rfl
  rw [e, e2, e3]
  have h1 := maxV_hr x.f x.cur.v
  have h2 := maxV_hr (maxV x.f x.cur.v) x.cur.v
  have : (maxV (maxV x.f x.cur.v) x.cur.v).toNat = (maxV x.f x.cur.v).toNat := by omega
  simp [this]
end Go.Dp
