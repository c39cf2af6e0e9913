/-
  block.Count, block.Split, block.Join, walked.
  Conditions: those that stand in each theorem.
-/
import Derived.Test.YtbmackigabhkmaaT8
set_option linter.unusedVariables false
set_option linter.unusedSimpArgs false
namespace Go.Dp
open Go.RowKit Go.Proofs
def count (l s : Int) : Int := if l < 1 ∨ 512 < l ∨ s < 1 ∨ 16 < s then 0 else if 64 < (l + s - 1) / s then 0 else (l + s - 1) / s
theorem block_Count (H : List Hl) (l s : Int) : Spec Try.prog 18 [I l, I s] H (fun _ : Unit => True) (fun _ => I (count l s)) (fun _ => H) := by
  refine spec_pure (res := fun _ => []) H Try.func18 rfl Try.ntmps18 (by kernel_rfl) rfl (fun W => ?_)
  repeat' (first | refine ls_of rfl ?_ | refine ls_of_no ?_ | refine ls_guard_yes rfl rfl ?_ | refine ls_guard_no rfl rfl rfl rfl ?_ | refine o1_move rfl ?_ | refine o1_assign rfl ?_ | refine st_seq ?_ | refine st_region ?_ | refine st_block ?_ | refine st_skip ?_ | refine st_ret ?_ | refine st_exit ?_ | refine st_cond_t rfl ?_ | refine st_cond_f rfl ?_ | refine st_cond rfl (fun _ => ?_) (fun _ => ?_) | refine ls_nil ?_ | refine nx_seq ?_ | refine nx_blk ?_ | refine nx_fn ?_ | refine nx_rounds ?_ | refine xt_seq ?_ | refine xt_here ?_ | refine xt_on rfl ?_ | refine xt_rounds ?_ | refine xt_cut ?_ | refine rt_seq ?_ | refine rt_blk ?_ | refine rt_rounds ?_ | refine rt_cut ?_ | refine o1_quo rfl rfl (by omega) ?_ | refine o1_pick_t rfl rfl ?_ | refine o1_pick_f rfl rfl ?_ | refine o1_extract rfl rfl ?_ | refine o1_fieldAddr rfl ?_ | refine ox_load rfl (by rfl) ?_ | refine ox_load_enc rfl (by first | omega | (simp; omega)) ?_ | refine ox_load_any rfl (by assumption) ?_ | refine o1_box rfl rfl (fun _ => ?_) | refine o1_len rfl ?_ | refine o1_add rfl rfl (by omega) ?_ | refine o1_sub rfl rfl (by omega) ?_ | refine o1_lss_t rfl rfl (by omega) ?_ | refine o1_lss_f rfl rfl (by omega) ?_ | refine o1_lss rfl rfl (fun _ => ?_) (fun _ => ?_) | refine o1_leq_t rfl rfl (by omega) ?_ | refine o1_leq_f rfl rfl (by omega) ?_ | refine o1_leq rfl rfl (fun _ => ?_) (fun _ => ?_) | refine o1_gtr_t rfl rfl (by omega) ?_ | refine o1_gtr_f rfl rfl (by omega) ?_ | refine o1_gtr rfl rfl (fun _ => ?_) (fun _ => ?_) | refine o1_geq_t rfl rfl (by omega) ?_ | refine o1_geq_f rfl rfl (by omega) ?_ | refine o1_geq rfl rfl (fun _ => ?_) (fun _ => ?_) | refine o1_eql_t rfl rfl (by omega) ?_ | refine o1_eql_f rfl rfl (by omega) ?_ | refine o1_eql rfl rfl (fun _ => ?_) (fun _ => ?_) | refine o1_neq_t rfl rfl (by omega) ?_ | refine o1_neq_f rfl rfl (by omega) ?_ | refine o1_neq rfl rfl (fun _ => ?_) (fun _ => ?_) | refine o1_bnot rfl ?_ | refine o1_streq rfl rfl (fun _ => ?_) (fun _ => ?_) | refine o1_uand rfl rfl ?_ | refine o1_uor rfl rfl ?_ | refine o1_uxor rfl rfl ?_ | refine o1_uandNot rfl rfl ?_ | refine o1_uadd rfl rfl ?_ | refine o1_usub rfl rfl ?_ | refine o1_umul rfl rfl ?_ | refine o1_ushl rfl rfl (by omega) ?_ | refine o1_ushr rfl rfl (by omega) ?_ | refine o1_unot rfl ?_ | refine o1_conv_uu rfl ?_ | refine o1_conv_i rfl (by omega) ?_ | refine o1_conv_ui rfl (by exact bv_small (by decide) _) ?_ | refine o1_conv_u64 rfl (by omega) ?_ | refine o1_conv_iu rfl ?_ | refine o1_rem_nn rfl rfl (by omega) ?_ | refine o1_eqb rfl rfl ?_ | refine o1_neqb rfl rfl ?_ | refine o1_maken (enc := B) 0#8 rfl rfl rfl rfl (by omega) (by omega) (by omega) (fun _ => ?_) | refine o1_string rfl (by rfl) rx_row ?_ | refine o1_string rfl (by rfl) (rx_any (by assumption)) ?_ | refine o1_strlit (r := true) rfl rfl (by kernel_rfl) ?_ | refine o1_slice_nil rfl ?_ | refine o1_lit_B rfl rfl rfl rfl rfl (fun _ => ?_) | refine o1_buildx rfl (by simp only [buildL, putL, List.set_cons_zero, List.set_cons_succ, List.getElem?_cons_zero, List.getElem?_cons_succ, Option.getD_some, Value.cells, Nat.zero_add, Nat.reduceAdd]; rfl) (fun _ => by kernel_rfl) ?_ | refine o1_index_arr rfl rfl (by omega) (by rfl) ?_ | refine ox_append rfl rfl (rx_box rfl (by first | decide | omega)) rfl rfl (fun _ => rfl) (by omega) (by omega) (fun _ _ => ?_) | refine ox_append rfl rfl (rx_any (by assumption)) rfl rfl (fun _ => rfl) (by omega) (by omega) (fun _ _ => ?_) | refine ox_append rfl rfl rx_row rfl rfl (fun _ => rfl) (by omega) (by omega) (fun _ _ => ?_) | refine o1_alloc rfl (fun _ => ?_) | refine ox_store_enc B rfl rfl (by first | omega | (simp; done) | (simp; omega)) rfl ?_ | refine ox_stores rfl rfl (by first | omega | (simp; done) | (simp; omega)) rfl (by first | (simp only [List.set_cons_zero, List.set_cons_succ, Nat.zero_add, Nat.reduceAdd]; rfl) | rfl) ?_ | refine o1_nilCheck rfl ?_ | refine ox_store_agg rfl rfl (by rfl) (by simp) (by simp [Value.oneCell']) (by simp only [putL, List.set_cons_zero, List.set_cons_succ, Nat.zero_add, Nat.reduceAdd]; rfl) ?_ | refine ox_load_agg rfl (by simp only [Nat.zero_add, Nat.reduceAdd, List.drop_zero, List.drop_succ_cons, List.take_succ_cons, List.take_zero]; rfl) (by rfl) ?_)
  all_goals
    refine rt_tmp () rfl rfl ?_ trivial ?_
  all_goals first
    | ((try dsimp only [List.cons_append, List.nil_append, List.singleton_append, List.append_nil]); (repeat (first | exact Ent.nil | exact Ent.refl _ | (apply Ent.cons; (repeat (first | exact Sel.here | apply Sel.there))))); done)
    | skip
  all_goals
    unfold count
    split <;> first | rfl | omega | (split <;> first | rfl | omega)
/-- The pieces of an image. -/
def full (image : List (BitVec 8)) (m : Nat) : List (BitVec 8) := image.take m ++ List.replicate (m - image.length) 0
def piece (image : List (BitVec 8)) (m s i : Nat) : List (BitVec 8) := ((full image m).drop (i * s)).take s
theorem full_len (image : List (BitVec 8)) (m : Nat) : (full image m).length = m := by simp [full]; omega
theorem count_pos {l s : Int} (h : count l s ≠ 0) : 1 ≤ l ∧ l ≤ 512 ∧ 1 ≤ s ∧ s ≤ 16 ∧ count l s = (l + s - 1) / s ∧ count l s ≤ 64 ∧ 1 ≤ count l s := by
  unfold count at h ⊢
  split at h
  · exact absurd rfl h
  · rename_i h1
    split at h
    · exact absurd rfl h
    · rename_i h2
      rw [if_neg h1, if_neg h2]
      have : 1 ≤ (l + s - 1) / s := by
        rw [Int.le_ediv_iff_mul_le (by omega)]
        omega
      refine ⟨by omega, by omega, by omega, by omega, rfl, by omega, this⟩
end Go.Dp
