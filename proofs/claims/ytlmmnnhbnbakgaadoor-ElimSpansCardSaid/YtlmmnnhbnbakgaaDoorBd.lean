/-
  The operations on memory, one lemma each: boxes, rows that the call owns, slices that are read.
  Conditions: none; it holds over whatever program, the types' rows given as instances.
-/
import Derived.Test.YtlmmnnhbnbakgaaDoorBc
import Derived.Maps.AppendAt
import Derived.Laws.CopyRow
import Derived.Laws.MakeOwn
import Derived.Laws.Cells
set_option linter.unusedVariables false
namespace Go.Dp
open Go.RowKit

/-- A slice that is read: its elements, one cell each, in whatever memory. -/
structure Rs {α : Type} (A : Hp → Prop) (enc : α → Value) (ad : Option Addr) (c : Nat) (l : List α) : Prop where
  le : l.length ≤ c
  big : c ≤ 9223372036854775807
  sm : 0 < l.length → ∃ a, ad = some a
  cell : ∀ w, sat w A → ∀ a, ad = some a → ∀ i x, l[i]? = some x → w.cell? (a.add i) = some (enc x)
/-- One cell that is read. -/
structure Cl (A : Hp → Prop) (p : Addr) (v : Value) : Prop where
  cell : ∀ w, sat w A → w.cell? p = some v
theorem add_add (a : Addr) (i j : Nat) : (a.add i).add j = a.add (i + j) := by
  by_cases hi : i = 0 <;> by_cases hj : j = 0 <;> simp [Addr.add, hi, hj, Nat.add_assoc]
theorem Rs.mono {α : Type} {A B : Hp → Prop} {enc : α → Value} {ad : Option Addr} {c : Nat} {l : List α} (h : Rs A enc ad c l) (hab : ∀ w, sat w B → sat w A) : Rs B enc ad c l :=
  ⟨h.le, h.big, h.sm, fun w hs => h.cell w (hab w hs)⟩
theorem sel_sat {H H' : List Hl} {A : Hp → Prop} (s : Sel H (.any A) H') (w : World) (h : sat w (stars H)) : sat w A := sep_left (h.mono s.out)
theorem Rs.lift {α : Type} {A : Hp → Prop} {H H' : List Hl} {enc : α → Value} {ad : Option Addr} {c : Nat} {l : List α} (s : Sel H (.any A) H') (h : Rs A enc ad c l) : Rs (stars H) enc ad c l := h.mono (sel_sat s)
theorem Rs.map {α β : Type} {A : Hp → Prop} {enc : β → Value} {f : α → β} {ad : Option Addr} {c : Nat} {l : List α} (h : Rs A (fun x => enc (f x)) ad c l) : Rs A enc ad c (l.map f) :=
  ⟨by simpa using h.le, h.big, by simpa using h.sm, fun w hs a ha i x hx => by
    simp only [List.getElem?_map, Option.map_eq_some_iff] at hx
    obtain ⟨y, hy, rfl⟩ := hx
    exact h.cell w hs a ha i y hy⟩
theorem Rs.vals {α : Type} {A : Hp → Prop} {enc : α → Value} {ad : Option Addr} {c : Nat} {l : List α} (h : Rs A enc ad c l) : Rs A id ad c (l.map enc) := Rs.map (enc := id) h
theorem Rs.unvals {α : Type} {A : Hp → Prop} {enc : α → Value} {ad : Option Addr} {c : Nat} {l : List α} (h : Rs A id ad c (l.map enc)) : Rs A enc ad c l :=
  ⟨by simpa using h.le, h.big, by simpa using h.sm, fun w hs a ha i x hx => h.cell w hs a ha i (enc x) (by simp [hx])⟩
/-- Cut. -/
theorem Rs.cut {α : Type} {A : Hp → Prop} {enc : α → Value} {ad : Option Addr} {c : Nat} {l : List α} (h : Rs A enc ad c l) (lo hi mx : Nat) (h1 : lo ≤ hi) (h2 : hi ≤ l.length) (h3 : hi ≤ mx) (h4 : mx ≤ c) :
    Rs A enc (if mx = lo then ad else ad.map (·.add lo)) (mx - lo) ((l.take hi).drop lo) := by
  refine ⟨by simp; omega, by have := h.big; omega, fun hp => ?_, fun w hs a ha i x hx => ?_⟩
  · simp at hp
    obtain ⟨a, rfl⟩ := h.sm (by omega)
    split
    · exact ⟨a, rfl⟩
    · exact ⟨_, rfl⟩
  · have hlt : lo + i < hi := by
      rcases Nat.lt_or_ge (lo + i) hi with h' | h'
      · exact h'
      · rw [List.getElem?_eq_none (by simp; omega)] at hx; cases hx
    rw [if_neg (by omega)] at ha
    cases ad with
    | none => simp at ha
    | some a0 =>
      simp only [Option.map_some, Option.some.injEq] at ha
      subst ha
      rw [add_add]
      refine h.cell w hs a0 rfl (lo + i) x ?_
      rw [List.getElem?_drop, List.getElem?_take] at hx
      simpa [hlt] using hx
theorem Rs.nil {α : Type} {A : Hp → Prop} {enc : α → Value} {ad : Option Addr} {c : Nat} (hc : c ≤ 9223372036854775807) : Rs A enc ad c ([] : List α) :=
  ⟨by simp, hc, by simp, fun _ _ _ _ i x hx => by simp at hx⟩

/-! ## Rows -/
theorem rowHp_own {T : TypeId} {size n : Nat} {v : Value} {xs : List Value} {h : Hp} (hr : rowHp T size v n xs h) {w : World} (hw : ∀ i o, h i = some o → w.heap[i]? = some o) : w.ownsRow 0 T size v n xs := by
  refine ⟨hr.1, ?_⟩
  rcases hr.2 with ⟨rfl, rfl, _⟩ | ⟨g, cap, cur, rfl, rfl, h1, h2, h3, h4⟩
  · exact .inl ⟨rfl, rfl⟩
  · exact .inr ⟨g, cap, cur, rfl, by omega, hw g _ (by simp [one]), h1, h2, h3, h4⟩
theorem sat.own {w : World} {H H' : List Hl} (h : sat w (stars H)) {T : TypeId} {size n : Nat} {v : Value} {xs : List Value} (s : Sel H (.row T size v n xs) H') : w.ownsRow 0 T size v n xs := by
  obtain ⟨x, hw, h1, h2, hd, s1, s2, hr, _⟩ := h.mono s.out
  exact rowHp_own hr fun i o e => hw i o (s1 i o e)
/-- A row that has grown, or was written within: what else stands stands on. -/
theorem sat.grown {w w' : World} {H H' : List Hl} (h : sat w (stars H)) {T : TypeId} {size n n' : Nat} {v v' : Value} {xs xs' : List Value} (s : Sel H (.row T size v n xs) H')
    (hown : w'.ownsRow 0 T size v' n' xs') (hg : w.grownBy w' v.ownBlock) (hat : v'.ownBlock = v.ownBlock ∨ v'.ownBlock = some w.heap.size) : sat w' (stars (.row T size v' n' xs' :: H')) := by
  obtain ⟨x, hw, h1, h2, hd, s1, s2, hr, hH⟩ := h.mono s.out
  have hlt : ∀ i o, h2 i = some o → i < w.heap.size := fun i o e => (Array.getElem?_eq_some_iff.1 (hw i o (s2 i o e))).1
  have hne : ∀ i o, h2 i = some o → some i ≠ v.ownBlock := by
    intro i o e he
    rcases hr.2 with ⟨rfl, _, _⟩ | ⟨g, cap, cur, rfl, rfl, _⟩
    · simp [Value.ownBlock] at he
    · simp only [Value.ownBlock, Option.some.injEq] at he
      subst he
      rcases hd i with hh | hh
      · simp [one] at hh
      · rw [hh] at e; cases e
  have hw2 : ∀ i o, h2 i = some o → w'.heap[i]? = some o := fun i o e => (hg.block i (hlt i o e) (hne i o e)).trans (hw i o (s2 i o e))
  rcases hown with ⟨hl, hn | ⟨g, cap, cur, rfl, _, hh, a1, a2, a3, a4⟩⟩
  · refine ⟨h2, hw2, fun _ => none, h2, fun _ => .inl rfl, fun _ _ e => (by cases e), .refl _, ⟨hl, .inl ⟨hn.1, hn.2, fun _ => rfl⟩⟩, hH⟩
  · have hg2 : h2 g = none := by
      cases e : h2 g with
      | none => rfl
      | some o =>
        exfalso
        rcases hat with hh' | hh'
        · exact hne g o e (by rw [← hh']; rfl)
        · simp only [Value.ownBlock, Option.some.injEq] at hh'
          have := hlt g o e
          omega
    have hdis : Dis (one g (.cells cur T (0, 0))) h2 := fun j => by
      by_cases hj : j = g
      · subst hj; exact .inr hg2
      · left; simp [one, hj]
    have hs1 : Sub (one g (.cells cur T (0, 0))) (fun j => if j = g then some (.cells cur T (0, 0)) else h2 j) := fun j o e => by
      simp only [one] at e
      by_cases hj : j = g
      · rw [if_pos hj] at e; simp [hj, e]
      · rw [if_neg hj] at e; cases e
    have hs2 : Sub h2 (fun j => if j = g then some (.cells cur T (0, 0)) else h2 j) := fun j o ej => by
      have : j ≠ g := fun hj => by rw [hj, hg2] at ej; cases ej
      simp [this, ej]
    refine ⟨_, fun j o e => ?_, _, h2, hdis, hs1, hs2, ⟨hl, .inr ⟨g, cap, cur, rfl, rfl, a1, a2, a3, a4⟩⟩, hH⟩
    by_cases hj : j = g
    · subst hj
      simp only [if_true, Option.some.injEq] at e
      subst e
      exact hh
    · simp only [hj, if_false] at e
      exact hw2 j o e
theorem Rs.of_row {H H' : List Hl} {T : TypeId} {ad : Option Addr} {n c : Nat} {xs : List Value} (s : Sel H (.row T 1 (.slice ad n c) n xs) H') : ∀ w, sat w (stars H) → Rs (stars H) id ad c xs := by
  intro w0 h0
  have key : ∀ w, sat w (stars H) → xs.length = n ∧ ((Value.slice ad n c = .slice none 0 0 ∧ n = 0) ∨ ∃ g, ad = some ⟨g, 0, none⟩ ∧ n ≤ c ∧ c ≤ maxLen ∧ ∀ i x, xs[i]? = some x → w.cell? ⟨g, i, none⟩ = some x) := by
    intro w h
    obtain ⟨hl, h1 | ⟨g, cap, cur, hv, _, hh, a1, a2, a3, a4⟩⟩ := h.own s
    · exact ⟨by simpa using hl, .inl h1⟩
    · injection hv with hv1 hv2 hv3
      subst hv3
      refine ⟨by simpa using hl, .inr ⟨g, hv1, a1, a2, fun i x hx => ?_⟩⟩
      rw [cell_of_row w g i cur T (0, 0) hh, ← Array.getElem?_toList]
      rw [← a4, List.getElem?_take] at hx
      split at hx
      · exact hx
      · cases hx
  obtain ⟨hl, h1⟩ := key w0 h0
  refine ⟨?_, ?_, fun hp => ?_, fun w hs a ha i x hx => ?_⟩
  · rcases h1 with ⟨hv, hn⟩ | ⟨g, _, a1, _, _⟩ <;> omega
  · rcases h1 with ⟨hv, hn⟩ | ⟨g, _, _, a2, _⟩
    · injection hv with _ _ hc; omega
    · exact a2
  · rcases h1 with ⟨hv, hn⟩ | ⟨g, hg, _⟩
    · omega
    · exact ⟨_, hg⟩
  · obtain ⟨_, h2⟩ := key w hs
    rcases h2 with ⟨hv, hn⟩ | ⟨g, hg, _, _, hc⟩
    · rw [hn] at hl; have := List.eq_nil_of_length_eq_zero hl; subst this; simp at hx
    · rw [hg] at ha
      injection ha with ha
      subst ha
      have := hc i x hx
      by_cases hi : i = 0
      · subst hi; simpa [Addr.add] using this
      · simpa [Addr.add, hi] using this
theorem Rs.of_box {H H' : List Hl} {T : TypeId} {b : Nat} {cs : List Value} (hc : cs.length ≤ 9223372036854775807) (s : Sel H (.box b T cs) H') : Rs (stars H) id (some ⟨b, 0, none⟩) cs.length cs := by
  refine ⟨Nat.le_refl _, hc, fun _ => ⟨_, rfl⟩, fun w hs a ha i x hx => ?_⟩
  injection ha with ha
  subst ha
  have := hs.cell s i
  by_cases hi : i = 0
  · subst hi; simpa [Addr.add, hx] using this
  · simpa [Addr.add, hi, hx] using this
/-- A box that a slice begins is a row. -/
theorem ent_box_row {b : Nat} {T : TypeId} {cs : List Value} {n : Nat} (hn : n ≤ cs.length) (hm : cs.length ≤ maxLen) {h : Hp} (hb : Hl.den (.box b T cs) h) : Hl.den (.row T 1 (.slice (some ⟨b, 0, none⟩) n cs.length) n (cs.take n)) h :=
  ⟨by simp; omega, .inr ⟨b, cs.length, cs.toArray, rfl, hb, hn, hm, by simp, by simp⟩⟩

section
variable {P : Program} {ops : Array Oper} {k : Kon} {rest : List Oper} {n : Nat} {e : Ev} {W : World} {H : List Hl}
variable {C : Value → List Hl → Prop} {ty : TypeId}

/-! ## Boxes -/
theorem o1_new {op : Op} {T : TypeId} {cs : List Value}
    (hr : ∀ a w, Ok1 n e H a w → (execOp a.eval ⟨none, op, ty, "", #[], none⟩).run P w = .ok (.value (.pointer (some ⟨w.heap.size, 0, none⟩))) (w.alloc (.cells cs.toArray T)))
    (h : ∀ b, C (.pointer (some ⟨b, 0, none⟩)) (.box b T cs :: H)) : O1 P (op) ty n e H C :=
  o1_step fun a w ho => ⟨_, _, hr a w ho, _, h _, (Ext.refl w).alloc _, ho.sat.alloc T cs⟩
theorem o1_box {T : TypeId} {x : Operand} {v : Value} {cs : List Value} (hx : opd e x = some v) (hcs : v.cells = cs.toArray)
    (h : ∀ b, C (.pointer (some ⟨b, 0, none⟩)) (.box b T cs :: H)) : O1 P (.box T x) ty n e H C :=
  o1_new (fun a w ho => by simp [execOp, ho.ev.eval hx, Instr.box, newVar, newRow, hcs]) h
theorem o1_alloc {T : TypeId} {z : Value} {s by_ : Nat} [TInf P T z s by_] {cs : List Value} (hcs : z.cells = cs.toArray)
    (h : ∀ b, C (.pointer (some ⟨b, 0, none⟩)) (.box b T cs :: H)) : O1 P (.alloc T) ty n e H C :=
  o1_new (fun a w ho => by simp [execOp, Instr.alloc, run_zeroValue, newVar, newRow, hcs]) h
theorem o1_load {T T' : TypeId} [TOne P T] {x : Operand} {b i : Nat} {cs : List Value} {v : Value} {H' : List Hl} (hx : opd e x = some (.pointer (some ⟨b, i, none⟩))) (s : Sel H (.box b T' cs) H') (hv : cs[i]? = some v)
    (h : C v H) : O1 P (.load T x) ty n e H C :=
  o1_val v (fun a w ho => by
    have hc := ho.sat.cell s i
    rw [hv] at hc
    simp [execOp, ho.ev.eval hx, Instr.loadAt, Instr.sureAddr, loadVar, run_isAgg_one, hc]) h
theorem o1_load_any {T : TypeId} [TOne P T] {x : Operand} {p : Addr} {v : Value} {A : Hp → Prop} {H' : List Hl} (hx : opd e x = some (.pointer (some p))) (s : Sel H (.any A) H') (hv : Cl A p v)
    (h : C v H) : O1 P (.load T x) ty n e H C :=
  o1_val v (fun a w ho => by
    have hc := hv.cell w (sel_sat s w ho.sat)
    simp [execOp, ho.ev.eval hx, Instr.loadAt, Instr.sureAddr, loadVar, run_isAgg_one, hc]) h
theorem o1_load_agg {T T' : TypeId} {z : Value} {s by_ : Nat} [TAgg P T] [TInf P T z s by_] {x : Operand} {b i : Nat} {cs vs : List Value} {H' : List Hl} (hx : opd e x = some (.pointer (some ⟨b, i, none⟩)))
    (sl : Sel H (.box b T' cs) H') (hv : (cs.drop i).take s = vs) (hs : vs.length = s) (h : C (.agg vs.toArray) H) : O1 P (.load T x) ty n e H C :=
  o1_val _ (fun a w ho => by
    have hl := run_loadCells_list (P := P) w ⟨b, i, none⟩ vs (fun j v hj => by
      have hc := ho.sat.cell sl (i + j)
      have : cs[i + j]? = some v := by
        rw [← hv, List.getElem?_take] at hj
        split at hj
        · rw [List.getElem?_drop] at hj; exact hj
        · cases hj
      rw [this] at hc
      by_cases hj0 : j = 0
      · subst hj0; simpa [Addr.add] using hc
      · simpa [Addr.add, hj0] using hc)
    rw [hs] at hl
    simp [execOp, ho.ev.eval hx, Instr.loadAt, Instr.sureAddr, loadVar, run_isAgg_agg, run_sizeOf, hl]) h
theorem oneCell_cells {v : Value} (h : v.oneCell' = true) : v.cells = #[v] := by cases v <;> simp_all [Value.oneCell', Value.cells]
theorem run_store_one {w : World} {p : Addr} {u v : Value} (hc : w.cell? p = some u) (hf : w.frozen? p = false) (h1 : v.oneCell' = true) : (store p v).run P w = .ok () (w.setCell p v) := by
  rw [run_store P w p v .plain h1]
  simp [hc, hf]
theorem sat.free {w : World} (h : sat w (stars H)) {b : Nat} {T : TypeId} {cs : List Value} {H' : List Hl} (s : Sel H (.box b T cs) H') (i : Nat) : w.frozen? ⟨b, i, none⟩ = false := frozen_of_row w b i _ T (h.cells s)
theorem Upd.sel {H H' : List Hl} {x y : Hl} (s : Upd H x y H') : ∃ R, Sel H x R ∧ Sel H' y R := by
  induction s with
  | here => exact ⟨_, .here, .here⟩
  | there s ih => obtain ⟨R, h1, h2⟩ := ih; exact ⟨_, .there h1, .there h2⟩
theorem o1_store {T T' : TypeId} {z : Value} {by_ : Nat} [TInf P T z 1 by_] {x y : Operand} {b i : Nat} {cs : List Value} {v : Value} {H' : List Hl} (hx : opd e x = some (.pointer (some ⟨b, i, none⟩))) (hy : opd e y = some v)
    (s : Upd H (.box b T' cs) (.box b T' (cs.set i v)) H') (hi : i < cs.length) (h1 : v.oneCell' = true) (h : C undef H') : O1 P (.store T x y) ty n e H C :=
  o1_step_skip fun a w ho => by
    obtain ⟨R, sel, _⟩ := s.sel
    have hc : w.cell? ⟨b, i, none⟩ = some cs[i] := by rw [ho.sat.cell sel i]; simp [hi]
    have hst := run_store_one (P := P) hc (ho.sat.free sel i) h1
    refine ⟨w.setCell ⟨b, i, none⟩ v, ?_, H', h, (Ext.refl w).setCell _ _, ho.sat.set_ i v s⟩
    simp [execOp, ho.ev.eval hx, ho.ev.eval hy, Instr.storeAt, Instr.sureAddr, storeVar, run_sizeOf, oneCell_cells h1, storeCells, Addr.add, hst]
theorem o1_fieldAddr {T ft : TypeId} {j off : Nat} [hf : TFld P T j off ft] {x : Operand} {b i : Nat} (hx : opd e x = some (.pointer (some ⟨b, i, none⟩)))
    (h : C (.pointer (some ⟨b, i + off, none⟩)) H) : O1 P (.fieldAddr T x j) ty n e H C :=
  o1_val _ (fun a w ho => by
    obtain ⟨fs, f, hu, hj, ho', _, hs⟩ := hf.u
    cases hq : P.info? f.type with
    | none => simp [hq] at hs
    | some q =>
      have hq0 : q.size ≠ 0 := by simpa [hq] using hs
      subst ho'
      by_cases h0 : f.offset = 0
      · simp [execOp, ho.ev.eval hx, Instr.fieldAt, Instr.sureAddr, run_underlying hu, hj, fieldPlace, sizeOf, typeInfo, hq, hq0, Addr.add, h0]
      · simp [execOp, ho.ev.eval hx, Instr.fieldAt, Instr.sureAddr, run_underlying hu, hj, fieldPlace, sizeOf, typeInfo, hq, hq0, Addr.add, h0]) h
end
end Go.Dp
