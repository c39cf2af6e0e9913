/-
  The operations, one lemma each: numbers, slots, boxes.
  Conditions: none; it holds over whatever program, the types' rows given as instances.
-/
import Derived.Test.YtlmmnnhbnbakgaaDoorBb
set_option linter.unusedVariables false
namespace Go.Dp
open Go.RowKit

/-! ## Rows of the types' table -/
class TInt (P : Program) (t : TypeId) (k : outParam IntKind) : Prop where u : P.underlying t = some (.int k)
class TBool (P : Program) (t : TypeId) : Prop where u : P.underlying t = some .bool
class TStr (P : Program) (t : TypeId) : Prop where u : P.underlying t = some .string
class TSl (P : Program) (t : TypeId) (e : outParam TypeId) : Prop where u : P.underlying t = some (.slice e)
class TPtr (P : Program) (t : TypeId) (e : outParam TypeId) : Prop where u : P.underlying t = some (.pointer e)
class TArr (P : Program) (t : TypeId) (m : outParam Nat) (e : outParam TypeId) : Prop where u : P.underlying t = some (.array m e)
/-- zero value, cells, bytes -/
class TInf (P : Program) (t : TypeId) (z : outParam Value) (s by_ : outParam Nat) : Prop where i : (P.info? t).map (fun i => (i.zero, i.size, i.bytes)) = some (some z, s, by_)
class TOne (P : Program) (t : TypeId) : Prop where u : (match P.underlying t with | some (.struct _) | some (.array _ _) | none => false | _ => true) = true
class TAgg (P : Program) (t : TypeId) : Prop where u : (match P.underlying t with | some (.struct _) | some (.array _ _) => true | _ => false) = true
/-- field j of struct t: its offset; it has cells -/
class TFld (P : Program) (t : TypeId) (j : Nat) (off : outParam Nat) (ft : outParam TypeId) : Prop where
  c : (match P.underlying t with | some (.struct fs) => (fs[j]?).map (fun f => (f.offset, f.type, ((P.info? f.type).map (·.size)).any (· != 0))) | _ => none) = some (off, ft, true)
theorem TFld.u {P : Program} {t : TypeId} {j off : Nat} {ft : TypeId} (h : TFld P t j off ft) : ∃ fs f, P.underlying t = some (.struct fs) ∧ fs[j]? = some f ∧ f.offset = off ∧ f.type = ft ∧ ((P.info? f.type).map (·.size)).any (· != 0) = true := by
  have hc := h.c
  cases hu : P.underlying t with
  | none => rw [hu] at hc; cases hc
  | some d =>
    rw [hu] at hc
    cases d <;> simp only [reduceCtorEq] at hc
    rename_i fs
    cases hj : fs[j]? with
    | none => rw [hj] at hc; cases hc
    | some f =>
      rw [hj] at hc
      simp only [Option.map_some, Option.some.injEq, Prod.mk.injEq] at hc
      exact ⟨fs, f, rfl, hj, hc.1, hc.2.1, hc.2.2⟩

theorem run_isAgg_one {P : Program} {t : TypeId} [h : TOne P t] (w : World) : (isAgg t).run P w = .ok false w := by
  have hu := h.u
  cases hd : P.underlying t with
  | none => rw [hd] at hu; simp at hu
  | some d =>
    rw [hd] at hu
    unfold isAgg
    simp only [Sem.run_bind, run_underlying hd, Result.andThen_ok]
    cases d <;> simp_all
theorem run_isAgg_agg {P : Program} {t : TypeId} [h : TAgg P t] (w : World) : (isAgg t).run P w = .ok true w := by
  have hu := h.u
  cases hd : P.underlying t with
  | none => rw [hd] at hu; simp at hu
  | some d =>
    rw [hd] at hu
    unfold isAgg
    simp only [Sem.run_bind, run_underlying hd, Result.andThen_ok]
    cases d <;> simp_all
theorem TInf.info {P : Program} {t : TypeId} {z : Value} {s b : Nat} (h : TInf P t z s b) : ∃ i, P.info? t = some i ∧ i.zero = some z ∧ i.size = s ∧ i.bytes = b := info_parts h.i
theorem run_sizeOf {P : Program} {t : TypeId} {z : Value} {s b : Nat} [h : TInf P t z s b] (w : World) : (sizeOf t).run P w = .ok s w := by
  obtain ⟨i, hi, _, hs, _⟩ := h.info
  simp [sizeOf, typeInfo, hi, hs]
theorem run_zeroValue {P : Program} {t : TypeId} {z : Value} {s b : Nat} [h : TInf P t z s b] (w : World) : (zeroValue t).run P w = .ok z w := by
  obtain ⟨i, hi, hz, _, _⟩ := h.info
  simp [zeroValue, typeInfo, hi, hz]

section
variable {P : Program} {ops : Array Oper} {k : Kon} {rest : List Oper} {n : Nat} {e : Ev} {W : World} {H : List Hl}

/-- What an operation of a region does, whatever stands behind it: for the value that it gives and the memory that it leaves, C. -/
structure Ok1 (n : Nat) (e : Ev) (H : List Hl) (a : Act) (w : World) : Prop where
  ev : EvOk a n e
  sat : sat w (stars H)
structure O1 (P : Program) (op : Op) (ty : TypeId) (n : Nat) (e : Ev) (H : List Hl) (C : Value → List Hl → Prop) : Prop where
  mk :: (out : ∀ a w, Ok1 n e H a w → ∀ o : Oper, o.op = op → o.type = ty → ∀ (K : Act → World → Prop) (Q : Exit → Act → World → Prop), (∀ v w' H', C v H' → Ext w w' → sat w' (stars H') → K (a.put o.dst v) w') → o.wp P a w K Q)
theorem execOp_eq (ρ : Operand → Value) (o : Oper) : execOp ρ o = execOp ρ ⟨none, o.op, o.type, "", #[], none⟩ := by cases o; rfl
variable {C : Value → List Hl → Prop} {ty : TypeId}
theorem o1_step {op : Op} (h : ∀ a w, Ok1 n e H a w → ∃ v w', (execOp a.eval ⟨none, op, ty, "", #[], none⟩).run P w = .ok (.value v) w' ∧ ∃ H', C v H' ∧ Ext w w' ∧ sat w' (stars H')) : O1 P op ty n e H C :=
  ⟨fun a w ho o h1 h2 K Q hK => by
    obtain ⟨v, w', hr, H', hc, hx, hs⟩ := h a w ho
    subst h1 h2
    unfold Oper.wp
    rw [execOp_eq, hr]
    exact hK v w' H' hc hx hs⟩
theorem o1_step_skip {op : Op} (h : ∀ a w, Ok1 n e H a w → ∃ w', (execOp a.eval ⟨none, op, ty, "", #[], none⟩).run P w = .ok .skip w' ∧ ∃ H', C undef H' ∧ Ext w w' ∧ sat w' (stars H')) : O1 P op ty n e H C :=
  ⟨fun a w ho o h1 h2 K Q hK => by
    obtain ⟨w', hr, H', hc, hx, hs⟩ := h a w ho
    subst h1 h2
    unfold Oper.wp
    rw [execOp_eq, hr]
    exact hK undef w' H' hc hx hs⟩
/-- An operation that leaves memory alone. -/
theorem o1_val {op : Op} (v : Value) (hr : ∀ a w, Ok1 n e H a w → (execOp a.eval ⟨none, op, ty, "", #[], none⟩).run P w = .ok (.value v) w) (h : C v H) : O1 P op ty n e H C :=
  o1_step fun a w ho => ⟨v, w, hr a w ho, H, h, .refl w, ho.sat⟩
/-! In a region that draws no order: one behind the other. -/
variable {d : Nat} {pos : String} {af : Array Edge} {op : Op}
theorem ls_of (hd : Nat.blt d n = true) (h : O1 P op ty n e H (fun v H' => Ls P ops k rest n ((d, v) :: e) W H')) : Ls P ops k (⟨some d, op, ty, pos, af, none⟩ :: rest) n e W H :=
  ⟨fun a w ho => wpList_plain rfl fun K hK => h.out a w ⟨ho.ev, ho.sat⟩ _ rfl rfl K _ fun v w' H' hl hx hs => hK _ _ (hl.out _ _ ⟨ho.ev.put hd v, ho.ext.trans hx, hs⟩)⟩
theorem ls_of_no (h : O1 P op ty n e H (fun _ H' => Ls P ops k rest n e W H')) : Ls P ops k (⟨none, op, ty, pos, af, none⟩ :: rest) n e W H :=
  ⟨fun a w ho => wpList_plain rfl fun K hK => h.out a w ⟨ho.ev, ho.sat⟩ _ rfl rfl K _ fun v w' H' hl hx hs => hK _ _ (hl.out _ _ ⟨ho.ev.put_none v, ho.ext.trans hx, hs⟩)⟩
theorem ls_guard_yes {dst : Option Nat} {op : Op} {j : Nat} {b : Bool} {t : Nat} (hj : (ops[j]?).bind (·.dst) = some t) (hl : look e t = some (.bool b)) (h : Ls P ops k (⟨dst, op, ty, pos, af, none⟩ :: rest) n e W H) :
    Ls P ops k (⟨dst, op, ty, pos, af, some (j, b)⟩ :: rest) n e W H :=
  ⟨fun a w ho => by
    have h1 := h.out a w ho
    have hy : yielded ops a.tmps j = some b := by simp [yielded, hj, ho.ev.get t _ hl]
    unfold wpList at h1 ⊢
    simp only [Region.wanted, if_true] at h1
    simp only [Region.wanted, hy, beq_self_eq_true, if_true]
    exact h1⟩
theorem ls_guard_no {op : Op} {j : Nat} {b b' : Bool} {t : Nat} (hd : Nat.blt d n = true) (hj : (ops[j]?).bind (·.dst) = some t) (hl : look e t = some (.bool b')) (hne : (b' == b) = false) (h : Ls P ops k rest n ((d, undef) :: e) W H) :
    Ls P ops k (⟨some d, op, ty, pos, af, some (j, b)⟩ :: rest) n e W H :=
  ⟨fun a w ho => by
    have hy : yielded ops a.tmps j = some b' := by simp [yielded, hj, ho.ev.get t _ hl]
    have : (some b' == some b) = false := by simpa using hne
    unfold wpList
    simp only [Region.wanted, hy, this]
    exact h.out _ _ ⟨ho.ev.put hd undef, ho.ext, ho.sat⟩⟩

theorem o1_move {x : Operand} {v : Value} (hx : opd e x = some v) (h : C v H) : O1 P (.move x) ty n e H C :=
  o1_val v (fun a w ho => by simp [execOp, ho.ev.eval hx]) h
theorem o1_assign {x : Operand} {v : Value} (hx : opd e x = some v) (h : C v H) : O1 P (.assign x) ty n e H C :=
  o1_val v (fun a w ho => by simp [execOp, ho.ev.eval hx]) h
theorem o1_pick_t {c x y : Operand} {v : Value} (hc : opd e c = some (.bool true)) (hx : opd e x = some v) (h : C v H) : O1 P (.pick c x y) ty n e H C :=
  o1_val v (fun a w ho => by simp [execOp, ho.ev.eval hc, ho.ev.eval hx, asBool]) h
theorem o1_pick_f {c x y : Operand} {v : Value} (hc : opd e c = some (.bool false)) (hy : opd e y = some v) (h : C v H) : O1 P (.pick c x y) ty n e H C :=
  o1_val v (fun a w ho => by simp [execOp, ho.ev.eval hc, ho.ev.eval hy, asBool]) h
theorem o1_extract {x : Operand} {i : Nat} {vs : Array Value} {v : Value} (hx : opd e x = some (.tuple vs)) (hv : vs.toList[i]? = some v) (h : C v H) : O1 P (.extract x i) ty n e H C :=
  o1_val v (fun a w ho => by
    have hv' : vs[i]? = some v := by simpa using hv
    simp [execOp, ho.ev.eval hx, Instr.extract, hv']) h
theorem o1_nilCheck {x : Operand} {p : Addr} (hx : opd e x = some (.pointer (some p))) (h : C (.pointer (some p)) H) : O1 P (.nilCheck x) ty n e H C :=
  o1_val _ (fun a w ho => by simp [execOp, ho.ev.eval hx]) h

/-! ### Numbers -/
theorem eqGuard_int {op : BinOp} {t : TypeId} {x y : Operand} {k : IntKind} {m : Int} {v : Value} : eqGuard op t x y (.int k m) v = pure () := eqGuard_at_int ..
theorem o1_cmp {op : BinOp} {t t' : TypeId} {x y : Operand} {kd : IntKind} {p q : Int} {b : Bool} (hx : opd e x = some (.int kd p)) (hy : opd e y = some (.int kd q))
    (hr : ∀ w, (binOp op t (.int kd p) (.int kd q)).run P w = .ok (.bool b) w) (h : C (.bool b) H) : O1 P (.binOp op t x y t') ty n e H C :=
  o1_val _ (fun a w ho => by simp [execOp, ho.ev.eval hx, ho.ev.eval hy, eqGuard_int, hr]) h
variable {t t' : TypeId} {x y : Operand} {kd : IntKind} {p q : Int}
theorem o1_lss_t (hx : opd e x = some (.int kd p)) (hy : opd e y = some (.int kd q)) (hc : p < q) (h : C (.bool true) H) : O1 P (.binOp .lss t x y t') ty n e H C :=
  o1_cmp hx hy (fun w => by simp [binOp_lss, hc]) h
theorem o1_lss_f (hx : opd e x = some (.int kd p)) (hy : opd e y = some (.int kd q)) (hc : q ≤ p) (h : C (.bool false) H) : O1 P (.binOp .lss t x y t') ty n e H C :=
  o1_cmp hx hy (fun w => by simp [binOp_lss]; omega) h
theorem o1_lss (hx : opd e x = some (.int kd p)) (hy : opd e y = some (.int kd q)) (ht : p < q → C (.bool true) H) (hf : q ≤ p → C (.bool false) H) :
    O1 P (.binOp .lss t x y t') ty n e H C := by
  rcases Int.lt_or_le p q with c | c
  · exact o1_lss_t hx hy c (ht c)
  · exact o1_lss_f hx hy c (hf c)
theorem o1_leq_t (hx : opd e x = some (.int kd p)) (hy : opd e y = some (.int kd q)) (hc : p ≤ q) (h : C (.bool true) H) : O1 P (.binOp .leq t x y t') ty n e H C :=
  o1_cmp hx hy (fun w => by simp [binOp_leq, hc]) h
theorem o1_leq_f (hx : opd e x = some (.int kd p)) (hy : opd e y = some (.int kd q)) (hc : q < p) (h : C (.bool false) H) : O1 P (.binOp .leq t x y t') ty n e H C :=
  o1_cmp hx hy (fun w => by simp [binOp_leq]; omega) h
theorem o1_leq (hx : opd e x = some (.int kd p)) (hy : opd e y = some (.int kd q)) (ht : p ≤ q → C (.bool true) H) (hf : q < p → C (.bool false) H) :
    O1 P (.binOp .leq t x y t') ty n e H C := by
  rcases Int.lt_or_le q p with c | c
  · exact o1_leq_f hx hy c (hf c)
  · exact o1_leq_t hx hy c (ht c)
theorem o1_gtr_t (hx : opd e x = some (.int kd p)) (hy : opd e y = some (.int kd q)) (hc : q < p) (h : C (.bool true) H) : O1 P (.binOp .gtr t x y t') ty n e H C :=
  o1_cmp hx hy (fun w => by simp [binOp_gtr, hc]) h
theorem o1_gtr_f (hx : opd e x = some (.int kd p)) (hy : opd e y = some (.int kd q)) (hc : p ≤ q) (h : C (.bool false) H) : O1 P (.binOp .gtr t x y t') ty n e H C :=
  o1_cmp hx hy (fun w => by simp [binOp_gtr]; omega) h
theorem o1_gtr (hx : opd e x = some (.int kd p)) (hy : opd e y = some (.int kd q)) (ht : q < p → C (.bool true) H) (hf : p ≤ q → C (.bool false) H) :
    O1 P (.binOp .gtr t x y t') ty n e H C := by
  rcases Int.lt_or_le q p with c | c
  · exact o1_gtr_t hx hy c (ht c)
  · exact o1_gtr_f hx hy c (hf c)
theorem o1_geq_t (hx : opd e x = some (.int kd p)) (hy : opd e y = some (.int kd q)) (hc : q ≤ p) (h : C (.bool true) H) : O1 P (.binOp .geq t x y t') ty n e H C :=
  o1_cmp hx hy (fun w => by simp [binOp_geq, hc]) h
theorem o1_geq_f (hx : opd e x = some (.int kd p)) (hy : opd e y = some (.int kd q)) (hc : p < q) (h : C (.bool false) H) : O1 P (.binOp .geq t x y t') ty n e H C :=
  o1_cmp hx hy (fun w => by simp [binOp_geq]; omega) h
theorem o1_geq (hx : opd e x = some (.int kd p)) (hy : opd e y = some (.int kd q)) (ht : q ≤ p → C (.bool true) H) (hf : p < q → C (.bool false) H) :
    O1 P (.binOp .geq t x y t') ty n e H C := by
  rcases Int.lt_or_le p q with c | c
  · exact o1_geq_f hx hy c (hf c)
  · exact o1_geq_t hx hy c (ht c)
theorem o1_eql_t (hx : opd e x = some (.int kd p)) (hy : opd e y = some (.int kd q)) (hc : p = q) (h : C (.bool true) H) : O1 P (.binOp .eql t x y t') ty n e H C :=
  o1_cmp hx hy (fun w => by simp [binOp_eql, hc]) h
theorem o1_eql_f (hx : opd e x = some (.int kd p)) (hy : opd e y = some (.int kd q)) (hc : p ≠ q) (h : C (.bool false) H) : O1 P (.binOp .eql t x y t') ty n e H C :=
  o1_cmp hx hy (fun w => by simp [binOp_eql, hc]) h
theorem o1_eql (hx : opd e x = some (.int kd p)) (hy : opd e y = some (.int kd q)) (ht : p = q → C (.bool true) H) (hf : p ≠ q → C (.bool false) H) :
    O1 P (.binOp .eql t x y t') ty n e H C := by
  by_cases c : p = q
  · exact o1_eql_t hx hy c (ht c)
  · exact o1_eql_f hx hy c (hf c)
theorem o1_neq_t (hx : opd e x = some (.int kd p)) (hy : opd e y = some (.int kd q)) (hc : p ≠ q) (h : C (.bool true) H) : O1 P (.binOp .neq t x y t') ty n e H C :=
  o1_cmp hx hy (fun w => by simp [binOp_neq, hc]) h
theorem o1_neq_f (hx : opd e x = some (.int kd p)) (hy : opd e y = some (.int kd q)) (hc : p = q) (h : C (.bool false) H) : O1 P (.binOp .neq t x y t') ty n e H C :=
  o1_cmp hx hy (fun w => by simp [binOp_neq, hc]) h
theorem o1_neq (hx : opd e x = some (.int kd p)) (hy : opd e y = some (.int kd q)) (ht : p ≠ q → C (.bool true) H) (hf : p = q → C (.bool false) H) :
    O1 P (.binOp .neq t x y t') ty n e H C := by
  by_cases c : p = q
  · exact o1_neq_f hx hy c (hf c)
  · exact o1_neq_t hx hy c (ht c)

/-! ### Memory: one box -/
theorem sat.alloc {w : World} {H : List Hl} (h : sat w (stars H)) (T : TypeId) (cs : List Value) : sat (w.alloc (.cells cs.toArray T)) (stars (.box w.heap.size T cs :: H)) := by
  obtain ⟨x, hw, hx⟩ := h
  have hlt : ∀ i o, x i = some o → i < w.heap.size := fun i o e => (Array.getElem?_eq_some_iff.1 (hw i o e)).1
  have hdis : Dis (one w.heap.size (.cells cs.toArray T (0, 0))) x := fun i => by
    by_cases hi : i = w.heap.size
    · right
      cases he : x i with
      | none => rfl
      | some o => exact absurd (hlt i o he) (by omega)
    · left; simp [one, hi]
  have hs1 : Sub (one w.heap.size (.cells cs.toArray T (0, 0))) (fun i => if i = w.heap.size then some (.cells cs.toArray T (0, 0)) else x i) := fun i o e => by
    simp only [one] at e
    by_cases hi : i = w.heap.size
    · rw [if_pos hi] at e; simp [hi, e]
    · rw [if_neg hi] at e; cases e
  have hs2 : Sub x (fun i => if i = w.heap.size then some (.cells cs.toArray T (0, 0)) else x i) := fun i o e => by
    have := hlt i o e
    simp [show i ≠ w.heap.size from by omega, e]
  refine ⟨_, fun i o e => ?_, _, x, hdis, hs1, hs2, rfl, hx⟩
  by_cases hi : i = w.heap.size
  · subst hi
    simp only [if_true, Option.some.injEq] at e
    subst e
    exact heap_alloc_new w _
  · simp only [hi, if_false] at e
    exact (Below.heap_alloc w _ i (hlt i o e)).trans (hw i o e)
theorem sat.cells {w : World} {H H' : List Hl} (h : sat w (stars H)) {b : Nat} {T : TypeId} {cs : List Value} (s : Sel H (.box b T cs) H') : w.heap[b]? = some (.cells cs.toArray T (0, 0)) := by
  obtain ⟨x, hw, h1, h2, hd, s1, s2, e, _⟩ := h.mono s.out
  refine hw b _ (s1 b _ ?_)
  have e : h1 = one b (.cells cs.toArray T (0, 0)) := e
  simp [e, one]
theorem sat.cell {w : World} {H H' : List Hl} (h : sat w (stars H)) {b : Nat} {T : TypeId} {cs : List Value} (s : Sel H (.box b T cs) H') (i : Nat) : w.cell? ⟨b, i, none⟩ = cs[i]? := by
  rw [cell_of_row w b i _ T (0, 0) (h.cells s)]; simp
theorem sat.set_ {w : World} {H H' : List Hl} (h : sat w (stars H)) {b : Nat} {T : TypeId} {cs : List Value} (i : Nat) (v : Value) (s : Upd H (.box b T cs) (.box b T (cs.set i v)) H') : sat (w.setCell ⟨b, i, none⟩ v) (stars H') := by
  obtain ⟨R, r1, r2⟩ := s.out
  obtain ⟨x, hw, h1, h2, hd, s1, s2, e, hR⟩ := h.mono r1
  have e : h1 = one b (.cells cs.toArray T (0, 0)) := e
  have hb : w.heap[b]? = some (.cells cs.toArray T (0, 0)) := hw b _ (s1 b _ (by simp [e, one]))
  have hb2 : h2 b = none := (hd b).resolve_left (by simp [e, one])
  have hdis : Dis (one b (.cells (cs.set i v).toArray T (0, 0))) h2 := fun j => by
    by_cases hj : j = b
    · subst hj; exact .inr hb2
    · left; simp [one, hj]
  have hs1 : Sub (one b (.cells (cs.set i v).toArray T (0, 0))) (fun j => if j = b then some (.cells (cs.set i v).toArray T (0, 0)) else h2 j) := fun j o e => by
    simp only [one] at e
    by_cases hj : j = b
    · rw [if_pos hj] at e; simp [hj, e]
    · rw [if_neg hj] at e; cases e
  have hs2 : Sub h2 (fun j => if j = b then some (.cells (cs.set i v).toArray T (0, 0)) else h2 j) := fun j o ej => by
    have : j ≠ b := fun hj => by rw [hj, hb2] at ej; cases ej
    simp [this, ej]
  have hnew : sep (Hl.den (.box b T (cs.set i v))) R (fun j => if j = b then some (.cells (cs.set i v).toArray T (0, 0)) else h2 j) := ⟨_, h2, hdis, hs1, hs2, rfl, hR⟩
  refine ⟨_, fun j o e => ?_, r2 _ hnew⟩
  by_cases hj : j = b
  · subst hj
    simp only [if_true, Option.some.injEq] at e
    subst e
    rw [heap_setCell_same w j i _ T v hb]
    simp
  · simp only [hj, if_false] at e
    rw [heap_setCell_other w _ j v hj]
    exact hw j o (s2 j o e)
end
end Go.Dp
