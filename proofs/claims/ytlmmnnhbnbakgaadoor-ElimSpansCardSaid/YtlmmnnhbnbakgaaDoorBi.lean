/-
  A region that draws its order, step by step.
  Conditions: none; it holds over whatever program.
-/
import Derived.Test.YtlmmnnhbnbakgaaDoorBh
set_option linter.unusedVariables false
namespace Go.Dp
open Go.RowKit

def blk : Value → Nat
  | .slice (some a) _ _ => a.block
  | .pointer (some a) => a.block
  | _ => 0
section
variable {P : Program} {k : Kon} {n : Nat} {e : Ev} {W : World} {H : List Hl} {sp : List Sp} {tab : List Row}
theorem obl_nil {i : Nat} : Obls P n e H sp tab i [] := trivial
theorem obl_cons {i : Nat} {o : Oper} {l : List Oper} (h : Obl P n e H sp tab i o) (hl : Obls P n e H sp tab (i + 1) l) : Obls P n e H sp tab i (o :: l) := ⟨h, hl⟩
theorem obl_run {i : Nat} {dst : Option Nat} {op : Op} {ty : TypeId} {pos : String} {af : Array Edge} {g : Option (Nat × Bool)} {r : Row} (hr : tab[i]? = some r) (hg : gdOk sp i r.guard)
    (h : ∀ G : Hp → Prop, AllV sp tab r.clo fun E Hs => O1 P op ty n (E ++ e.filter fun x => keep tab i x.1) (Hs ++ (H ++ [.any G])) fun v H' => (spAt sp i).ok v ∧ ∀ h, stars H' h → stars ((spAt sp i).hp v ++ (Hs ++ (H ++ [.any G]))) h) :
    Obl P n e H sp tab i ⟨dst, op, ty, pos, af, g⟩ := fun r' hr' => by
  rw [hr] at hr'
  cases hr'
  exact ⟨hg, fun _ => h⟩
theorem obl_off {i : Nat} {o : Oper} {r : Row} (hr : tab[i]? = some r) (hg : gdOk sp i r.guard) (ho : (spAt sp i).run = false) : Obl P n e H sp tab i o := fun r' hr' => by
  rw [hr] at hr'
  cases hr'
  exact ⟨hg, fun h => by rw [ho] at h; cases h⟩
theorem gd_none {i : Nat} (h : (spAt sp i).run = true) : gdOk sp i none := h
theorem gd_yes {i j : Nat} {b : Bool} (h : (spAt sp i).run = true) (hj : spAt sp j = .c (.bool b)) : gdOk sp i (some (j, b)) := .inl ⟨h, hj⟩
theorem gd_no {i j : Nat} {b : Bool} (h : (spAt sp i).run = false) (hj : spAt sp j = .c (.bool (!b))) : gdOk sp i (some (j, b)) := .inr ⟨h, .inr hj⟩
theorem gd_off {i j : Nat} {b : Bool} (h : (spAt sp i).run = false) (hj : spAt sp j = .off) : gdOk sp i (some (j, b)) := .inr ⟨h, .inl hj⟩
variable {C : Ev → List Hl → Prop} {l : List Nat} {j d : Nat} {v : Value}
theorem allv_nil (h : C [] []) : AllV sp tab [] C := h
theorem allv_c (hs : spAt sp j = .c v) (hd : dstAt tab j = some d) (h : AllV sp tab l fun E Hs => C ((d, v) :: E) Hs) : AllV sp tab (j :: l) C := by unfold AllV; rw [hs, hd]; exact h
theorem allv_c_no (hs : spAt sp j = .c v) (hd : dstAt tab j = none) (h : AllV sp tab l C) : AllV sp tab (j :: l) C := by unfold AllV; rw [hs, hd]; exact h
theorem allv_off (hs : spAt sp j = .off) (hd : dstAt tab j = some d) (h : AllV sp tab l fun E Hs => C ((d, undef) :: E) Hs) : AllV sp tab (j :: l) C := by unfold AllV; rw [hs, hd]; exact h
theorem allv_off_no (hs : spAt sp j = .off) (hd : dstAt tab j = none) (h : AllV sp tab l C) : AllV sp tab (j :: l) C := by unfold AllV; rw [hs, hd]; exact h
theorem allv_p {Q : Value → Prop} {R : Value → List Hl} (hs : spAt sp j = .p Q R) (hd : dstAt tab j = some d) (h : ∀ v, Q v → AllV sp tab l fun E Hs => C ((d, v) :: E) (R v ++ Hs)) : AllV sp tab (j :: l) C := by unfold AllV; rw [hs, hd]; exact h
end
/-! ### tests whose outcome stays open -/
section
variable {P : Program} {n : Nat} {e : Ev} {H : List Hl} {C : Value → List Hl → Prop} {ty : TypeId} {t t' : TypeId} {x y : Operand} {kd : IntKind} {p q : Int}
theorem o1_lss_d (hx : opd e x = some (.int kd p)) (hy : opd e y = some (.int kd q)) (h : C (.bool (decide (p < q))) H) : O1 P (.binOp .lss t x y t') ty n e H C := o1_cmp hx hy (fun w => by simp [binOp_lss]) h
theorem o1_leq_d (hx : opd e x = some (.int kd p)) (hy : opd e y = some (.int kd q)) (h : C (.bool (decide (p ≤ q))) H) : O1 P (.binOp .leq t x y t') ty n e H C := o1_cmp hx hy (fun w => by simp [binOp_leq]) h
theorem o1_gtr_d (hx : opd e x = some (.int kd p)) (hy : opd e y = some (.int kd q)) (h : C (.bool (decide (q < p))) H) : O1 P (.binOp .gtr t x y t') ty n e H C := o1_cmp hx hy (fun w => by simp [binOp_gtr]) h
theorem o1_geq_d (hx : opd e x = some (.int kd p)) (hy : opd e y = some (.int kd q)) (h : C (.bool (decide (q ≤ p))) H) : O1 P (.binOp .geq t x y t') ty n e H C := o1_cmp hx hy (fun w => by simp [binOp_geq]) h
theorem o1_eql_d (hx : opd e x = some (.int kd p)) (hy : opd e y = some (.int kd q)) (h : C (.bool (decide (p = q))) H) : O1 P (.binOp .eql t x y t') ty n e H C := o1_cmp hx hy (fun w => by rw [binOp_eql, show (p == q) = decide (p = q) from rfl]; rfl) h
theorem o1_neq_d (hx : opd e x = some (.int kd p)) (hy : opd e y = some (.int kd q)) (h : C (.bool (decide (p ≠ q))) H) : O1 P (.binOp .neq t x y t') ty n e H C := o1_cmp hx hy (fun w => by rw [binOp_neq, bne, show (p == q) = decide (p = q) from rfl]; simp) h
theorem o1_streq_d {a b : List (BitVec 8)} (hx : opd e x = some (.string (str a))) (hy : opd e y = some (.string (str b))) (h : C (.bool (decide (a = b))) H) : O1 P (.binOp .eql t x y t') ty n e H C := o1_str hx hy (by rw [binOp_string_eql, str_beq]) h
theorem o1_strneq_d {a b : List (BitVec 8)} (hx : opd e x = some (.string (str a))) (hy : opd e y = some (.string (str b))) (h : C (.bool (decide (a ≠ b))) H) : O1 P (.binOp .neq t x y t') ty n e H C := o1_str hx hy (by rw [binOp_string_neq, str_beq]; simp) h
end
end Go.Dp
