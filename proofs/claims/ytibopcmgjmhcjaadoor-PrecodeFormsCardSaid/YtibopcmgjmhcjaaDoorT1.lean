/-
  Walks of functions that the laws of this seat reach, as contracts.
  Conditions: those that stand in each theorem.
-/
import Derived.Test.YtibopcmgjmhcjaaDoorTy
set_option linter.unusedVariables false
set_option linter.unusedSimpArgs false
namespace Go.Dp
open Go.RowKit Go.Proofs

def mayP (k p z : Int) : Bool := decide (1 ≤ k ∧ k ≤ 64 ∧ 0 ≤ p ∧ p ≤ 16 ∧ 1 ≤ z ∧ z ≤ 16)
theorem spread_May (H : List Hl) (s k p z : Int) : Spec Tryd.prog 21 [.agg #[.int .u32 s, .int .i64 k, .int .i64 p, .int .i64 z]] H (fun _ : Unit => True) (fun _ => .bool (mayP k p z)) (fun _ => H) := by
  refine spec_pure (res := fun _ => []) H Tryd.func21 rfl Tryd.ntmps21 (by kernel_rfl) rfl (fun W => ?_)
  repeat' (first | refine ls_of rfl ?_ | refine ls_of_no ?_ | refine ls_guard_yes rfl rfl ?_ | refine ls_guard_no rfl rfl rfl rfl ?_ | refine ls_guard_un rfl rfl rfl ?_ | refine o1_move rfl ?_ | refine o1_assign rfl ?_ | refine st_seq ?_ | refine st_region ?_ | refine st_block ?_ | refine st_skip ?_ | refine st_ret ?_ | refine st_exit ?_ | refine st_cond_t rfl ?_ | refine st_cond_f rfl ?_ | refine st_cond rfl (fun _ => ?_) (fun _ => ?_) | refine ls_nil ?_ | refine nx_seq ?_ | refine nx_blk ?_ | refine nx_fn ?_ | refine nx_rounds ?_ | refine xt_seq ?_ | refine xt_here ?_ | refine xt_on rfl ?_ | refine xt_rounds ?_ | refine xt_cut ?_ | refine rt_seq ?_ | refine rt_blk ?_ | refine rt_rounds ?_ | refine rt_cut ?_ | refine o1_pick_t rfl rfl ?_ | refine o1_pick_f rfl rfl ?_ | refine o1_fieldAddr rfl ?_ | refine ox_load rfl (by rfl) ?_ | refine ox_load_enc rfl (by first | omega | (simp; omega)) ?_ | refine ox_load_any rfl (by assumption) ?_ | refine o1_box rfl rfl (fun _ => ?_) | refine o1_leq_t rfl rfl (by omega) ?_ | refine o1_leq_f rfl rfl (by omega) ?_ | refine o1_leq rfl rfl (fun _ => ?_) (fun _ => ?_) | refine o1_geq_t rfl rfl (by omega) ?_ | refine o1_geq_f rfl rfl (by omega) ?_ | refine o1_geq rfl rfl (fun _ => ?_) (fun _ => ?_))
  all_goals (refine rt_tmp () rfl rfl ?_ trivial (.cons (.there .here) .nil); simp only [mayP]; congr 1; simp; omega)
end Go.Dp
