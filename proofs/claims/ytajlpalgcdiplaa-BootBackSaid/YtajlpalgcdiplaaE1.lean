/-
  States and manifests that may be, walked.
  Conditions: those that stand in each theorem.
-/
import Derived.Test.YtajlpalgcdiplaaT1
import Derived.Test.YtajlpalgcdiplaaBx
set_option linter.unusedVariables false
set_option linter.unusedSimpArgs false
namespace Go.Dp
open Go.RowKit Go.Proofs
structure SlotD where
  v : BitVec 32
  n : Int
  h : SlD (BitVec 8)
structure ManD where
  s : BitVec 32
  v : BitVec 32
  n : Int
  z : Int
  p : Int
  h : SlD (BitVec 8)
structure StD where
  a : Int
  t : Int
  f : BitVec 32
  g : BitVec 32
  s0 : SlotD
  s1 : SlotD
  on : Bool
  m : ManD
abbrev SlotD.c (x : SlotD) : List Value := [W4 x.v, I x.n, Bs x.h]
abbrev ManD.c (x : ManD) : List Value := [W4 x.s, W4 x.v, I x.n, I x.z, I x.p, Bs x.h]
abbrev StD.c (x : StD) : List Value := [I x.a, I x.t, W4 x.f, W4 x.g, W4 x.s0.v, I x.s0.n, Bs x.s0.h, W4 x.s1.v, I x.s1.n, Bs x.s1.h, .bool x.on, W4 x.m.s, W4 x.m.v, I x.m.n, I x.m.z, I x.m.p, Bs x.m.h]
abbrev SlotD.V (x : SlotD) : Value := .agg x.c.toArray
abbrev ManD.V (x : ManD) : Value := .agg x.c.toArray
abbrev StD.V (x : StD) : Value := .agg x.c.toArray
def SlotD.something (x : SlotD) : Bool := decide (x.h.l.length = 32 ∧ 1 ≤ x.n ∧ x.n ≤ 512)
def SlotD.nothing (x : SlotD) : Bool := decide (x.v.toNat = 0 ∧ x.n = 0 ∧ x.h.l.length = 0)
def ManD.none (x : ManD) : Bool := decide (x.s.toNat = 0 ∧ x.v.toNat = 0 ∧ x.n = 0 ∧ x.z = 0 ∧ x.p = 0 ∧ x.h.l.length = 0)
def count (l s : Int) : Int := if l < 1 ∨ 512 < l ∨ s < 1 ∨ 16 < s then 0 else if 64 < (l + s - 1) / s then 0 else (l + s - 1) / s
theorem block_Count (H : List Hl) (l s : Int) : Spec Try.prog 66 [I l, I s] H (fun _ : Unit => True) (fun _ => I (count l s)) (fun _ => H) := by
  refine spec_pure (res := fun _ => []) H Try.func66 rfl Try.ntmps66 (by kernel_rfl) rfl (fun W => ?_)
  repeat' (first | refine ls_of rfl ?_ | refine ls_of_no ?_ | refine ls_guard_yes rfl rfl ?_ | refine ls_guard_no rfl rfl rfl rfl ?_ | refine ls_guard_un rfl rfl rfl ?_ | refine o1_move rfl ?_ | refine o1_assign rfl ?_ | refine st_seq ?_ | refine st_region ?_ | refine st_block ?_ | refine st_skip ?_ | refine st_ret ?_ | refine st_exit ?_ | refine st_cond_t rfl ?_ | refine st_cond_f rfl ?_ | refine st_cond rfl (fun _ => ?_) (fun _ => ?_) | refine ls_nil ?_ | refine nx_seq ?_ | refine nx_blk ?_ | refine nx_fn ?_ | refine nx_rounds ?_ | refine xt_seq ?_ | refine xt_here ?_ | refine xt_on rfl ?_ | refine xt_rounds ?_ | refine xt_cut ?_ | refine rt_seq ?_ | refine rt_blk ?_ | refine rt_rounds ?_ | refine rt_cut ?_ | refine o1_quo rfl rfl (by omega) ?_ | refine o1_pick_t rfl rfl ?_ | refine o1_pick_f rfl rfl ?_ | refine o1_add rfl rfl (by omega) ?_ | refine o1_sub rfl rfl (by omega) ?_ | refine o1_lss_t rfl rfl (by omega) ?_ | refine o1_lss_f rfl rfl (by omega) ?_ | refine o1_lss rfl rfl (fun _ => ?_) (fun _ => ?_) | refine o1_gtr_t rfl rfl (by omega) ?_ | refine o1_gtr_f rfl rfl (by omega) ?_ | refine o1_gtr rfl rfl (fun _ => ?_) (fun _ => ?_))
  all_goals
    refine rt_tmp () rfl rfl ?_ trivial ?_
  all_goals first
    | ((try dsimp only [List.cons_append, List.nil_append, List.singleton_append, List.append_nil]); (repeat (first | exact Ent.nil | exact Ent.refl _ | (apply Ent.cons; (repeat (first | exact Sel.here | apply Sel.there))))); done)
    | skip
  all_goals
    unfold count
    split <;> first | rfl | omega | (split <;> first | rfl | omega)
def ManD.may (x : ManD) : Bool := mayP (count x.n x.z) x.p x.z && decide (x.h.l.length = 32)
def StD.cur (x : StD) : SlotD := if x.a = 0 then x.s0 else x.s1
def StD.oth (x : StD) : SlotD := if x.a = 0 then x.s1 else x.s0
def StD.may (x : StD) : Bool := decide ((x.a = 0 ∨ x.a = 1) ∧ 0 ≤ x.t ∧ x.t ≤ 3) && x.cur.something && (x.oth.something || x.oth.nothing && decide (x.t ≤ 0)) && (if x.on then x.m.may else x.m.none)
theorem st_something (H : List Hl) (x : SlotD) : Spec Try.prog 43 [x.V] H (fun _ : Unit => True) (fun _ => .bool x.something) (fun _ => H) := by
  refine spec_pure (res := fun _ => []) H Try.func43 rfl Try.ntmps43 (by kernel_rfl) rfl (fun W => ?_)
  repeat' (first | refine ls_of rfl ?_ | refine ls_of_no ?_ | refine ls_guard_yes rfl rfl ?_ | refine ls_guard_no rfl rfl rfl rfl ?_ | refine ls_guard_un rfl rfl rfl ?_ | refine o1_move rfl ?_ | refine o1_assign rfl ?_ | refine st_seq ?_ | refine st_region ?_ | refine st_block ?_ | refine st_skip ?_ | refine st_ret ?_ | refine st_exit ?_ | refine st_cond_t rfl ?_ | refine st_cond_f rfl ?_ | refine st_cond rfl (fun _ => ?_) (fun _ => ?_) | refine ls_nil ?_ | refine nx_seq ?_ | refine nx_blk ?_ | refine nx_fn ?_ | refine nx_rounds ?_ | refine xt_seq ?_ | refine xt_here ?_ | refine xt_on rfl ?_ | refine xt_rounds ?_ | refine xt_cut ?_ | refine rt_seq ?_ | refine rt_blk ?_ | refine rt_rounds ?_ | refine rt_cut ?_ | refine o1_pick_t rfl rfl ?_ | refine o1_pick_f rfl rfl ?_ | refine o1_fieldAddr rfl ?_ | refine ox_load rfl (by rfl) ?_ | refine ox_load_enc rfl (by first | omega | (simp; omega)) ?_ | refine ox_load_any rfl (by assumption) ?_ | refine o1_box rfl rfl (fun _ => ?_) | refine o1_len rfl ?_ | refine o1_leq_t rfl rfl (by omega) ?_ | refine o1_leq_f rfl rfl (by omega) ?_ | refine o1_leq rfl rfl (fun _ => ?_) (fun _ => ?_) | refine o1_geq_t rfl rfl (by omega) ?_ | refine o1_geq_f rfl rfl (by omega) ?_ | refine o1_geq rfl rfl (fun _ => ?_) (fun _ => ?_) | refine o1_eql_t rfl rfl (by omega) ?_ | refine o1_eql_f rfl rfl (by omega) ?_ | refine o1_eql rfl rfl (fun _ => ?_) (fun _ => ?_))
  all_goals (refine rt_tmp () rfl rfl ?_ trivial (.cons (.there .here) .nil); simp only [SlotD.something]; congr 1; simp; omega)
theorem st_nothing (H : List Hl) (x : SlotD) : Spec Try.prog 44 [x.V] H (fun _ : Unit => True) (fun _ => .bool x.nothing) (fun _ => H) := by
  refine spec_pure (res := fun _ => []) H Try.func44 rfl Try.ntmps44 (by kernel_rfl) rfl (fun W => ?_)
  repeat' (first | refine ls_of rfl ?_ | refine ls_of_no ?_ | refine ls_guard_yes rfl rfl ?_ | refine ls_guard_no rfl rfl rfl rfl ?_ | refine ls_guard_un rfl rfl rfl ?_ | refine o1_move rfl ?_ | refine o1_assign rfl ?_ | refine st_seq ?_ | refine st_region ?_ | refine st_block ?_ | refine st_skip ?_ | refine st_ret ?_ | refine st_exit ?_ | refine st_cond_t rfl ?_ | refine st_cond_f rfl ?_ | refine st_cond rfl (fun _ => ?_) (fun _ => ?_) | refine ls_nil ?_ | refine nx_seq ?_ | refine nx_blk ?_ | refine nx_fn ?_ | refine nx_rounds ?_ | refine xt_seq ?_ | refine xt_here ?_ | refine xt_on rfl ?_ | refine xt_rounds ?_ | refine xt_cut ?_ | refine rt_seq ?_ | refine rt_blk ?_ | refine rt_rounds ?_ | refine rt_cut ?_ | refine o1_pick_t rfl rfl ?_ | refine o1_pick_f rfl rfl ?_ | refine o1_fieldAddr rfl ?_ | refine ox_load rfl (by rfl) ?_ | refine ox_load_enc rfl (by first | omega | (simp; omega)) ?_ | refine ox_load_any rfl (by assumption) ?_ | refine o1_box rfl rfl (fun _ => ?_) | refine o1_len rfl ?_ | refine o1_eql_t rfl rfl (by omega) ?_ | refine o1_eql_f rfl rfl (by omega) ?_ | refine o1_eql rfl rfl (fun _ => ?_) (fun _ => ?_))
  all_goals (refine rt_tmp () rfl rfl ?_ trivial (.cons (.there .here) .nil); simp only [SlotD.nothing]; congr 1; simp only [eq_comm (a := true), eq_comm (a := false), decide_eq_true_eq, decide_eq_false_iff_not]; omega)
theorem st_none (H : List Hl) (x : ManD) : Spec Try.prog 45 [x.V] H (fun _ : Unit => True) (fun _ => .bool x.none) (fun _ => H) := by
  refine spec_pure (res := fun _ => []) H Try.func45 rfl Try.ntmps45 (by kernel_rfl) rfl (fun W => ?_)
  repeat' (first | refine ls_of rfl ?_ | refine ls_of_no ?_ | refine ls_guard_yes rfl rfl ?_ | refine ls_guard_no rfl rfl rfl rfl ?_ | refine ls_guard_un rfl rfl rfl ?_ | refine o1_move rfl ?_ | refine o1_assign rfl ?_ | refine st_seq ?_ | refine st_region ?_ | refine st_block ?_ | refine st_skip ?_ | refine st_ret ?_ | refine st_exit ?_ | refine st_cond_t rfl ?_ | refine st_cond_f rfl ?_ | refine st_cond rfl (fun _ => ?_) (fun _ => ?_) | refine ls_nil ?_ | refine nx_seq ?_ | refine nx_blk ?_ | refine nx_fn ?_ | refine nx_rounds ?_ | refine xt_seq ?_ | refine xt_here ?_ | refine xt_on rfl ?_ | refine xt_rounds ?_ | refine xt_cut ?_ | refine rt_seq ?_ | refine rt_blk ?_ | refine rt_rounds ?_ | refine rt_cut ?_ | refine o1_pick_t rfl rfl ?_ | refine o1_pick_f rfl rfl ?_ | refine o1_fieldAddr rfl ?_ | refine ox_load rfl (by rfl) ?_ | refine ox_load_enc rfl (by first | omega | (simp; omega)) ?_ | refine ox_load_any rfl (by assumption) ?_ | refine o1_box rfl rfl (fun _ => ?_) | refine o1_len rfl ?_ | refine o1_eql_t rfl rfl (by omega) ?_ | refine o1_eql_f rfl rfl (by omega) ?_ | refine o1_eql rfl rfl (fun _ => ?_) (fun _ => ?_))
  all_goals (refine rt_tmp () rfl rfl ?_ trivial (.cons (.there .here) .nil); simp only [ManD.none]; congr 1; simp only [eq_comm (a := true), eq_comm (a := false), decide_eq_true_eq, decide_eq_false_iff_not]; omega)
end Go.Dp
