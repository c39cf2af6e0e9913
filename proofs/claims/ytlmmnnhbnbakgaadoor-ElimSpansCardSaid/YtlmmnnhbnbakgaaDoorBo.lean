/-
  A region that draws its order, in stages: the steps of the walk.
  Conditions: none; it holds over whatever program.
-/
import Derived.Test.YtlmmnnhbnbakgaaDoorBn
set_option linter.unusedVariables false
namespace Go.Dp
open Go.RowKit
theorem fa_nil {α : Type} {p : α → Prop} : ∀ y ∈ ([] : List α), p y := by simp
theorem fa_cons {α : Type} {p : α → Prop} {x : α} {l : List α} (h : p x) (t : ∀ y ∈ l, p y) : ∀ y ∈ x :: l, p y := List.forall_mem_cons.2 ⟨h, t⟩
theorem rx_lit {α : Type} {H H' : List Hl} {T : TypeId} {enc : α → Value} {b c : Nat} {l : List α} [s : SBox H b T (l.map enc) H'] (hc : l.length = c) (hb : Nat.ble c 9223372036854775807 = true) (hh : Has H) : Rs (stars H) enc (some ⟨b, 0, none⟩) c l := rx_box hc (Nat.le_of_ble_eq_true hb) hh
theorem gd_r0 {tab : List Row} {i : Nat} {E : Ev} (h : gdAt tab i = none) : gdRun tab i E := fun j b hj => by rw [h] at hj; cases hj
theorem gd_r1 {tab : List Row} {i j d : Nat} {b : Bool} {E : Ev} (h : gdAt tab i = some (j, b)) (hd : dstAt tab j = some d) (hl : look E d = some (.bool b)) : gdRun tab i E := fun j' b' hj => by
  rw [h] at hj; cases hj; exact ⟨d, hd, hl⟩
theorem gd_o1 {tab : List Row} {i j d : Nat} {b : Bool} {E : Ev} (h : gdAt tab i = some (j, b)) (hd : dstAt tab j = some d) (hl : look E d = some (.bool (!b))) : gdOff tab i E := ⟨j, b, d, h, hd, .inl hl⟩
theorem gd_o2 {tab : List Row} {i j d : Nat} {b : Bool} {E : Ev} (h : gdAt tab i = some (j, b)) (hd : dstAt tab j = some d) (hl : look E d = some undef) : gdOff tab i E := ⟨j, b, d, h, hd, .inr hl⟩
theorem addE_some {tab : List Row} {i d : Nat} {v : Value} {E : Ev} (h : dstAt tab i = some d) : addE tab i v E = (d, v) :: E := by simp [addE, h]
theorem addE_none {tab : List Row} {i : Nat} {v : Value} {E : Ev} (h : dstAt tab i = none) : addE tab i v E = E := by simp [addE, h]
section
variable {P : Program} {n : Nat} {e : Ev} {tab : List Row} {l : List Oper} {H : List Hl} {ps rs : List Nat} {i d : Nat} {E E' : Ev} {v : Value} {C : Ev → Prop} {op : Op} {ty : TypeId} {dst : Option Nat} {pos : String} {af : Array Edge} {g : Option (Nat × Bool)} {Fin : Ev → List Hl → Prop} {ss : List Stg} {ch : Option Nat}
theorem O1.cov {op : Op} {ty : TypeId} {E E' : Ev} {C : Value → List Hl → Prop} (hc : Covers E E') (h : O1 P op ty n E' H C) : O1 P op ty n E H C := ⟨fun a w ho => h.out a w ⟨ho.ev.covers hc, ho.sat⟩⟩
theorem wk_end (h : OpenP P n e tab l H ps E fun E' => ReP P n e tab l H E' rs ∧ Fin E' H) : Wk P n e tab l Fin (⟨ps, rs, none⟩ :: ss) E H := h
theorem wk_ch (h : OpenP P n e tab l H ps E fun E' => ReP P n e tab l H E' rs ∧ ((gdOff tab i E' ∧ Wk P n e tab l Fin ss (addE tab i undef E') H) ∨ Op1 P n e tab l i E' H fun v H' => Wk P n e tab l Fin ss (addE tab i v E') H')) : Wk P n e tab l Fin (⟨ps, rs, some i⟩ :: ss) E H := h
theorem op_nil (h : C E) : OpenP P n e tab l H [] E C := h
theorem op_off (hd : dstAt tab i = some d) (hg : gdOff tab i E) (h : OpenP P n e tab l H ps ((d, undef) :: E) C) : OpenP P n e tab l H (i :: ps) E C := .inl ⟨hg, by rw [addE_some hd]; exact h⟩
theorem op_run (hd : dstAt tab i = some d) (hg : gdRun tab i E) (ho : l[i]? = some ⟨dst, op, ty, pos, af, g⟩) (hc : Covers (envI tab e i E) E') (h1 : O1 P op ty n E' H fun v' H' => v' = v ∧ ∀ h, stars H' h → stars H h) (h : OpenP P n e tab l H ps ((d, v) :: E) C) : OpenP P n e tab l H (i :: ps) E C :=
  .inr ⟨v, ⟨hg, _, ho, h1.cov hc⟩, by rw [addE_some hd]; exact h⟩
theorem op_dec {b : Prop} [Decidable b] (hd : dstAt tab i = some d) (hg : gdRun tab i E) (ho : l[i]? = some ⟨dst, op, ty, pos, af, g⟩) (hc : Covers (envI tab e i E) E') (h1 : O1 P op ty n E' H fun v' H' => v' = .bool (decide b) ∧ ∀ h, stars H' h → stars H h)
    (ht : b → OpenP P n e tab l H ps ((d, .bool true) :: E) C) (hf : ¬ b → OpenP P n e tab l H ps ((d, .bool false) :: E) C) : OpenP P n e tab l H (i :: ps) E C := by
  by_cases hb : b
  · exact op_run (v := .bool true) hd hg ho hc (by simpa [hb] using h1) (ht hb)
  · exact op_run (v := .bool false) hd hg ho hc (by simpa [hb] using h1) (hf hb)
theorem re_nil {Q : Prop} (h : Q) : ReP P n e tab l H E [] ∧ Q := ⟨trivial, h⟩
theorem re_off {Q : Prop} (hd : dstAt tab i = some d) (hl : look E d = some undef) (hg : gdOff tab i E) (h : ReP P n e tab l H E rs ∧ Q) : ReP P n e tab l H E (i :: rs) ∧ Q :=
  ⟨⟨.inl ⟨hg, fun d' hd' => by rw [hd] at hd'; cases hd'; exact hl⟩, h.1⟩, h.2⟩
theorem re_run {Q : Prop} (hd : dstAt tab i = some d) (hl : look E d = some v) (hg : gdRun tab i E) (ho : l[i]? = some ⟨dst, op, ty, pos, af, g⟩) (hc : Covers (envI tab e i E) E') (h1 : O1 P op ty n E' H fun v' H' => v' = v ∧ ∀ h, stars H' h → stars H h) (h : ReP P n e tab l H E rs ∧ Q) : ReP P n e tab l H E (i :: rs) ∧ Q :=
  ⟨⟨.inr ⟨v, fun d' hd' => by rw [hd] at hd'; cases hd'; exact hl, hg, _, ho, h1.cov hc⟩, h.1⟩, h.2⟩
theorem ch_off (hd : dstAt tab i = some d) (hg : gdOff tab i E) (h : Wk P n e tab l Fin ss ((d, undef) :: E) H) : (gdOff tab i E ∧ Wk P n e tab l Fin ss (addE tab i undef E) H) ∨ Op1 P n e tab l i E H fun v H' => Wk P n e tab l Fin ss (addE tab i v E) H' := .inl ⟨hg, by rw [addE_some hd]; exact h⟩
theorem ch_off_no (hd : dstAt tab i = none) (hg : gdOff tab i E) (h : Wk P n e tab l Fin ss E H) : (gdOff tab i E ∧ Wk P n e tab l Fin ss (addE tab i undef E) H) ∨ Op1 P n e tab l i E H fun v H' => Wk P n e tab l Fin ss (addE tab i v E) H' := .inl ⟨hg, by rw [addE_none hd]; exact h⟩
theorem ch_run (hd : dstAt tab i = some d) (hg : gdRun tab i E) (ho : l[i]? = some ⟨dst, op, ty, pos, af, g⟩) (hc : Covers (envI tab e i E) E') (h : O1 P op ty n E' H fun v H' => Wk P n e tab l Fin ss ((d, v) :: E) H') : (gdOff tab i E ∧ Wk P n e tab l Fin ss (addE tab i undef E) H) ∨ Op1 P n e tab l i E H fun v H' => Wk P n e tab l Fin ss (addE tab i v E) H' :=
  .inr ⟨hg, _, ho, by simp only [addE_some hd]; exact h.cov hc⟩
theorem ch_run_no (hd : dstAt tab i = none) (hg : gdRun tab i E) (ho : l[i]? = some ⟨dst, op, ty, pos, af, g⟩) (hc : Covers (envI tab e i E) E') (h : O1 P op ty n E' H fun _ H' => Wk P n e tab l Fin ss E H') : (gdOff tab i E ∧ Wk P n e tab l Fin ss (addE tab i undef E) H) ∨ Op1 P n e tab l i E H fun v H' => Wk P n e tab l Fin ss (addE tab i v E) H' :=
  .inr ⟨hg, _, ho, by simp only [addE_none hd]; exact h.cov hc⟩
variable {k : Kon} {ops : Array Oper} {rest : List Oper} {W : World} {x y : Operand} {m : Nat}
/-- A literal of one-cell elements, told as a list. -/
theorem o1_lit_enc {α : Type} (enc : α → Value) (ls : List α) {T E2 : TypeId} {z : Value} {by_ : Nat} {ps : List (Nat × Operand)} {us : List (Nat × Value)} {C : Value → List Hl → Prop} {e : Ev} [ht : TSl P T E2] [hi : TInf P E2 z 1 by_] (hps : opdi e ps = some us) (hidx : us.map (·.1) = List.range' 0 us.length) (hl : us.map (·.2) = ls.map enc) (henc : ∀ x, (enc x).oneCell' = true) (hz : z.oneCell' = true) (hm : m = us.length) (hb : Nat.ble us.length 16777216 = true)
    (h : ∀ b, C (.slice (some ⟨b, 0, none⟩) m m) (.box b E2 (ls.map enc) :: H)) : O1 P (.buildSlice T m ps.toArray) ty n e H C :=
  o1_lit hps hidx (fun u hu => by
    have : u.2 ∈ us.map (·.2) := List.mem_map.2 ⟨u, hu, rfl⟩
    rw [hl] at this
    obtain ⟨y, _, hy⟩ := List.mem_map.1 this
    rw [← hy]; exact henc y) hz hm hb (fun b => by rw [hl]; exact h b)
/-! Slices of what is read, their values told. -/
def cutA (ad : Option Addr) (c lo : Nat) : Option Addr := if c = lo then ad else ad.map (·.add lo)
theorem Rs.cutv {α : Type} {A : Hp → Prop} {enc : α → Value} {ad : Option Addr} {c : Nat} {l : List α} (h : Rs A enc ad c l) (lo hi : Nat) (h1 : lo ≤ hi) (h2 : hi ≤ l.length) : Rs A enc (cutA ad c lo) (c - lo) ((l.take hi).drop lo) := h.cut lo hi c h1 h2 (Nat.le_trans h2 h.le) (Nat.le_refl _)
theorem Rs.cutl {α : Type} {A : Hp → Prop} {enc : α → Value} {ad : Option Addr} {c : Nat} {l : List α} (h : Rs A enc ad c l) (lo : Nat) (h1 : lo ≤ l.length) : Rs A enc (cutA ad c lo) (c - lo) (l.drop lo) := by
  have := h.cutv lo l.length h1 (Nat.le_refl _)
  rwa [List.take_length] at this
variable {α : Type} {A : Hp → Prop} {enc : α → Value} {ad : Option Addr} {c l0 : Nat} {p q : Int} {kd kd' : IntKind} {xs : List α} {T E2 : TypeId} {z : Value} {by_ : Nat} {C2 : Value → List Hl → Prop}
theorem o1_cv_lh {ol oh : Operand} [ht : TSl P T E2] [hi' : TInf P E2 z 1 by_] (hx : opd e x = some (.slice ad l0 c)) (hl : opd e ol = some (.int kd p)) (hh : opd e oh = some (.int kd' q)) (hr : Rs A enc ad c xs) (h0 : l0 = xs.length) (hp : 0 ≤ p ∧ p ≤ q) (h2 : q ≤ xs.length)
    (h : C2 (.slice (cutA ad c p.toNat) ((xs.take q.toNat).drop p.toNat).length (c - p.toNat)) H) : O1 P (.slice T x (some ol) (some oh) none) ty n e H C2 := by
  have hle := hr.le
  have hlen : ((xs.take q.toNat).drop p.toNat).length = q.toNat - p.toNat := by simp; omega
  rw [hlen] at h
  exact o1_slice_lh (lo := p.toNat) (hi := q.toNat) hx (by rw [hl]; congr 2; omega) (by rw [hh]; congr 2; omega) (by omega) (by omega) (by simpa [cutA] using h)
theorem o1_cv_h {oh : Operand} [ht : TSl P T E2] [hi' : TInf P E2 z 1 by_] (hx : opd e x = some (.slice ad l0 c)) (hh : opd e oh = some (.int kd' q)) (hr : Rs A enc ad c xs) (h0 : l0 = xs.length) (hp : 0 ≤ q) (h2 : q ≤ xs.length)
    (h : C2 (.slice (cutA ad c 0) ((xs.take q.toNat).drop 0).length (c - 0)) H) : O1 P (.slice T x none (some oh) none) ty n e H C2 := by
  have hle := hr.le
  have hlen : ((xs.take q.toNat).drop 0).length = q.toNat := by simp; omega
  rw [hlen] at h
  exact o1_slice_h (hi := q.toNat) hx (by rw [hh]; congr 2; omega) (by omega) (by simpa [cutA] using h)
theorem o1_cv_l {ol : Operand} [ht : TSl P T E2] [hi' : TInf P E2 z 1 by_] (hx : opd e x = some (.slice ad l0 c)) (hl : opd e ol = some (.int kd p)) (hr : Rs A enc ad c xs) (h0 : l0 = xs.length) (hp : 0 ≤ p) (h2 : p ≤ xs.length)
    (h : C2 (.slice (cutA ad c p.toNat) (xs.drop p.toNat).length (c - p.toNat)) H) : O1 P (.slice T x (some ol) none none) ty n e H C2 := by
  have hle := hr.le
  have hlen : (xs.drop p.toNat).length = xs.length - p.toNat := by simp
  rw [hlen] at h
  subst h0
  exact o1_slice_l (lo := p.toNat) hx (by rw [hl]; congr 2; omega) (by omega) (by simpa [cutA] using h)
end
end Go.Dp
