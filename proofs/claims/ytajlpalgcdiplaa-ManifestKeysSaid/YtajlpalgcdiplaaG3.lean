/-
  Plain and ReadManifest of the reference, walked.
  Conditions: those that stand in each theorem.
-/
import Derived.Test.YtajlpalgcdiplaaG2
set_option linter.unusedVariables false
set_option linter.unusedSimpArgs false
namespace Go.Dp
open Go.RowKit Go.Proofs
def rtG3_0 : List Row := [⟨some 7, [], [], none⟩, ⟨some 8, [0], [0], none⟩, ⟨some 9, [1], [0, 1], none⟩, ⟨some 10, [], [], none⟩, ⟨some 11, [3], [3], none⟩, ⟨some 12, [4, 2], [0, 1, 2, 3, 4], none⟩, ⟨some 13, [], [], none⟩, ⟨some 14, [6], [6], none⟩, ⟨some 15, [7, 5], [0, 1, 2, 3, 4, 5, 6, 7], none⟩, ⟨some 16, [], [], none⟩, ⟨some 17, [9], [9], none⟩, ⟨some 18, [10], [9, 10], none⟩, ⟨some 19, [], [], none⟩, ⟨some 20, [12], [12], none⟩, ⟨some 21, [13], [12, 13], none⟩, ⟨some 22, [11, 14], [9, 10, 11, 12, 13, 14], none⟩, ⟨some 23, [], [], none⟩, ⟨some 24, [16], [16], none⟩, ⟨some 25, [2, 5, 8, 15, 17], [0, 1, 2, 3, 4, 5, 6, 7, 8, 9, 10, 11, 12, 13, 14, 15, 16, 17], none⟩, ⟨some 26, [18, 8], [0, 1, 2, 3, 4, 5, 6, 7, 8, 9, 10, 11, 12, 13, 14, 15, 16, 17, 18], none⟩, ⟨some 2, [19, 19, 0, 1, 2, 3, 4, 5, 6, 7, 8, 9, 10, 11, 12, 13, 14, 15, 16, 17, 18, 19], [0, 1, 2, 3, 4, 5, 6, 7, 8, 9, 10, 11, 12, 13, 14, 15, 16, 17, 18, 19], none⟩, ⟨some 3, [20, 0, 1, 2, 3, 4, 5, 6, 7, 8, 9, 10, 11, 12, 13, 14, 15, 16, 17, 18, 19, 20], [0, 1, 2, 3, 4, 5, 6, 7, 8, 9, 10, 11, 12, 13, 14, 15, 16, 17, 18, 19, 20], none⟩]
def rtG3_1 : List Row := [⟨some 9, [], [], none⟩, ⟨some 10, [0], [0], none⟩, ⟨some 11, [1], [0, 1], none⟩, ⟨some 12, [], [], none⟩, ⟨some 13, [3], [3], none⟩, ⟨some 14, [4, 2], [0, 1, 2, 3, 4], none⟩, ⟨some 15, [], [], none⟩, ⟨some 16, [6], [6], none⟩, ⟨some 17, [7, 5], [0, 1, 2, 3, 4, 5, 6, 7], none⟩, ⟨some 18, [8], [0, 1, 2, 3, 4, 5, 6, 7, 8], none⟩, ⟨some 19, [], [], none⟩, ⟨some 20, [10], [10], none⟩, ⟨some 21, [11], [10, 11], none⟩, ⟨some 22, [12], [10, 11, 12], none⟩, ⟨some 23, [], [], none⟩, ⟨some 24, [14], [14], none⟩, ⟨some 25, [15], [14, 15], none⟩, ⟨some 26, [16], [14, 15, 16], none⟩, ⟨some 27, [], [], none⟩, ⟨some 28, [18], [18], none⟩, ⟨some 29, [19], [18, 19], none⟩, ⟨some 30, [20, 8], [0, 1, 2, 3, 4, 5, 6, 7, 8, 18, 19, 20], none⟩, ⟨some 31, [2, 5, 9, 13, 17, 21], [0, 1, 2, 3, 4, 5, 6, 7, 8, 9, 10, 11, 12, 13, 14, 15, 16, 17, 18, 19, 20, 21], none⟩, ⟨some 4, [], [], none⟩, ⟨none, [23, 22, 21, 0, 1, 2, 3, 4, 5, 6, 7, 8, 9, 10, 11, 12, 13, 14, 15, 16, 17, 18, 19, 20, 21, 22, 23], [0, 1, 2, 3, 4, 5, 6, 7, 8, 9, 10, 11, 12, 13, 14, 15, 16, 17, 18, 19, 20, 21, 22, 23], none⟩]
def rtG3_2 : List Row := [⟨some 9, [], [], none⟩, ⟨some 10, [0], [0], none⟩, ⟨some 11, [1], [0, 1], none⟩, ⟨some 12, [], [], none⟩, ⟨some 13, [3], [3], none⟩, ⟨some 14, [4, 2], [0, 1, 2, 3, 4], none⟩, ⟨some 15, [], [], none⟩, ⟨some 16, [6], [6], none⟩, ⟨some 17, [7, 5], [0, 1, 2, 3, 4, 5, 6, 7], none⟩, ⟨some 18, [8], [0, 1, 2, 3, 4, 5, 6, 7, 8], none⟩, ⟨some 19, [], [], none⟩, ⟨some 20, [10], [10], none⟩, ⟨some 21, [11], [10, 11], none⟩, ⟨some 22, [12], [10, 11, 12], none⟩, ⟨some 23, [], [], none⟩, ⟨some 24, [14], [14], none⟩, ⟨some 25, [15], [14, 15], none⟩, ⟨some 26, [16], [14, 15, 16], none⟩, ⟨some 27, [], [], none⟩, ⟨some 28, [18], [18], none⟩, ⟨some 29, [19], [18, 19], none⟩, ⟨some 30, [20, 8], [0, 1, 2, 3, 4, 5, 6, 7, 8, 18, 19, 20], none⟩, ⟨some 31, [2, 5, 9, 13, 17, 21], [0, 1, 2, 3, 4, 5, 6, 7, 8, 9, 10, 11, 12, 13, 14, 15, 16, 17, 18, 19, 20, 21], none⟩, ⟨some 4, [], [], none⟩, ⟨none, [23, 22, 21, 0, 1, 2, 3, 4, 5, 6, 7, 8, 9, 10, 11, 12, 13, 14, 15, 16, 17, 18, 19, 20, 21, 22, 23], [0, 1, 2, 3, 4, 5, 6, 7, 8, 9, 10, 11, 12, 13, 14, 15, 16, 17, 18, 19, 20, 21, 22, 23], none⟩]
theorem r7_Plain_no (H : List Hl) (x : ManD) (h : x.may = false) : Spec Try.prog 25 [x.V] H (fun _ : Unit => True) (fun _ => .tuple #[.slice none 0 0, I 1]) (fun _ => H) := by
  refine spec_pure (res := fun _ => []) H Try.func25 rfl Try.ntmps25 (by kernel_rfl) rfl (fun W => ?_)
  repeat' (first | refine ls_of rfl ?_ | refine ls_of_no ?_ | refine ls_guard_yes rfl rfl ?_ | refine ls_guard_no rfl rfl rfl rfl ?_ | refine ls_guard_un rfl rfl rfl ?_ | refine o1_move rfl ?_ | refine o1_assign rfl ?_ | refine st_seq ?_ | refine st_region ?_ | refine st_block ?_ | refine st_skip ?_ | refine st_ret ?_ | refine st_exit ?_ | refine st_cond_t rfl ?_ | refine st_cond_f rfl ?_ | refine st_cond rfl (fun _ => ?_) (fun _ => ?_) | refine ls_nil ?_ | refine nx_seq ?_ | refine nx_blk ?_ | refine nx_fn ?_ | refine nx_rounds ?_ | refine xt_seq ?_ | refine xt_here ?_ | refine xt_on rfl ?_ | refine xt_rounds ?_ | refine xt_cut ?_ | refine rt_seq ?_ | refine rt_blk ?_ | refine rt_rounds ?_ | refine rt_cut ?_ | refine o1_call (fun _ => (r7_MayManifest _ x).bv (b := false) h) rfl (fun _ _ => ?_) | refine o1_fieldAddr rfl ?_ | refine ox_load rfl (by rfl) ?_ | refine ox_load_enc rfl (by first | omega | (simp; omega)) ?_ | refine ox_load_any rfl (by assumption) ?_ | refine o1_box rfl rfl (fun _ => ?_) | refine o1_bnot rfl ?_ | refine o1_unot rfl ?_ | refine o1_conv_iu rfl ?_ | refine o1_lit_B rfl rfl rfl rfl rfl (fun _ => ?_) | refine ox_load_agg rfl (by simp only [Nat.zero_add, Nat.reduceAdd, List.drop_zero, List.drop_succ_cons, List.take_succ_cons, List.take_zero]; rfl) (by rfl) ?_)
  refine rt_tmp2 () rfl rfl rfl rfl trivial ?_
  (try dsimp only [List.cons_append, List.nil_append, List.singleton_append, List.append_nil]); (repeat (first | exact Ent.nil | exact Ent.refl _ | (apply Ent.cons; (repeat (first | exact Sel.here | apply Sel.there)))))
set_option maxHeartbeats 2000000 in
theorem r7_Plain (H : List Hl) (x : ManD) (h : x.may = true) (hr : RdS (stars H) x.h) : Spec Try.prog 25 [x.V] H (fun _ : PA => True) (fun r => .tuple #[.slice r.1 x.by.length r.2, I 0]) (fun r => rowB r x.by :: H) := by
  refine spec_pure (res := fun r : PA => [rowB r x.by]) H Try.func25 rfl Try.ntmps25 (by kernel_rfl) rfl (fun W => ?_)
  have hl := may_len h
  repeat' (first | refine ls_of rfl ?_ | refine ls_of_no ?_ | refine ls_guard_yes rfl rfl ?_ | refine ls_guard_no rfl rfl rfl rfl ?_ | refine ls_guard_un rfl rfl rfl ?_ | refine o1_move rfl ?_ | refine o1_assign rfl ?_ | refine st_seq ?_ | refine st_region ?_ | refine st_block ?_ | refine st_skip ?_ | refine st_ret ?_ | refine st_exit ?_ | refine st_cond_t rfl ?_ | refine st_cond_f rfl ?_ | refine st_cond rfl (fun _ => ?_) (fun _ => ?_) | refine ls_nil ?_ | refine nx_seq ?_ | refine nx_blk ?_ | refine nx_fn ?_ | refine nx_rounds ?_ | refine xt_seq ?_ | refine xt_here ?_ | refine xt_on rfl ?_ | refine xt_rounds ?_ | refine xt_cut ?_ | refine rt_seq ?_ | refine rt_blk ?_ | refine rt_rounds ?_ | refine rt_cut ?_ | refine o1_call (fun _ => (r7_MayManifest _ x).bv (b := true) h) rfl (fun _ _ => ?_) | refine o1_fieldAddr rfl ?_ | refine ox_load rfl (by rfl) ?_ | refine ox_load_enc rfl (by first | omega | (simp; omega)) ?_ | refine ox_load_any rfl (by assumption) ?_ | refine o1_box rfl rfl (fun _ => ?_) | refine o1_bnot rfl ?_ | refine o1_unot rfl ?_ | refine o1_conv_iu rfl ?_ | refine o1_lit_B rfl rfl rfl rfl rfl (fun _ => ?_) | refine ox_load_agg rfl (by simp only [Nat.zero_add, Nat.reduceAdd, List.drop_zero, List.drop_succ_cons, List.take_succ_cons, List.take_zero]; rfl) (by rfl) ?_)
  refine st_tree [(1, _)] rtG3_0 [2, 5, 8, 15, 18, 19] (.alt [0, 1, 3, 4, 6, 7, 9, 10, 11, 12, 13, 14, 16, 17] [] 2 (.alt [] [3, 4, 6, 7, 9, 10, 11, 12, 13, 14, 16, 17] 5 (.alt [] [6, 7, 9, 10, 11, 12, 13, 14, 16, 17] 8 (.step [] [9, 10, 11, 12, 13, 14, 16, 17] 15 (.step [] [16, 17] 18 (.step [] [] 19 (.fin [20, 21] [])))) 15 (.step [] [6, 7, 16, 17] 8 (.step [] [16, 17] 18 (.step [] [] 19 (.fin [20, 21] []))))) 15 (.step [] [3, 4, 6, 7, 16, 17] 5 (.step [] [6, 7, 16, 17] 8 (.step [] [16, 17] 18 (.step [] [] 19 (.fin [20, 21] [])))))) 15 (.step [] [0, 1, 3, 4, 6, 7, 16, 17] 2 (.step [] [3, 4, 6, 7, 16, 17] 5 (.step [] [6, 7, 16, 17] 8 (.step [] [16, 17] 18 (.step [] [] 19 (.fin [20, 21] []))))))) mixed (cov_cons rfl rfl cov_nil) (by kernel_rfl) (by kernel_rfl) ?_
  all_goals refine wt_alt ?_
  all_goals (refine xp1 1 rfl rfl rfl rfl (by refine o1_fieldAddr rfl fz) ?_)
  all_goals (refine xp1 7 rfl rfl rfl rfl (by first | refine ox_load rfl (by rfl) fz | refine ox_load_enc rfl (by first | omega | (simp; omega)) fz | refine ox_load_any rfl (by assumption) fz) ?_)
  all_goals (refine xp1 1 rfl rfl rfl rfl (by refine o1_fieldAddr rfl fz) ?_)
  all_goals (refine xp1 10 rfl rfl rfl rfl (by first | refine ox_load rfl (by rfl) fz | refine ox_load_enc rfl (by first | omega | (simp; omega)) fz | refine ox_load_any rfl (by assumption) fz) ?_)
  all_goals (refine xp1 1 rfl rfl rfl rfl (by refine o1_fieldAddr rfl fz) ?_)
  all_goals (refine xp1 13 rfl rfl rfl rfl (by first | refine ox_load rfl (by rfl) fz | refine ox_load_enc rfl (by first | omega | (simp; omega)) fz | refine ox_load_any rfl (by assumption) fz) ?_)
  all_goals (refine xp1 1 rfl rfl rfl rfl (by refine o1_fieldAddr rfl fz) ?_)
  all_goals (refine xp1 16 rfl rfl rfl rfl (by first | refine ox_load rfl (by rfl) fz | refine ox_load_enc rfl (by first | omega | (simp; omega)) fz | refine ox_load_any rfl (by assumption) fz) ?_)
  all_goals (refine xp1 17 rfl rfl rfl rfl (by refine o1_conv_iu rfl fz) ?_)
  all_goals (refine xp1 1 rfl rfl rfl rfl (by refine o1_fieldAddr rfl fz) ?_)
  all_goals (refine xp1 19 rfl rfl rfl rfl (by first | refine ox_load rfl (by rfl) fz | refine ox_load_enc rfl (by first | omega | (simp; omega)) fz | refine ox_load_any rfl (by assumption) fz) ?_)
  all_goals (refine xp1 20 rfl rfl rfl rfl (by refine o1_conv_iu rfl fz) ?_)
  all_goals (refine xp1 1 rfl rfl rfl rfl (by refine o1_fieldAddr rfl fz) ?_)
  all_goals (refine xp1 23 rfl rfl rfl rfl (by first | refine ox_load rfl (by rfl) fz | refine ox_load_enc rfl (by first | omega | (simp; omega)) fz | refine ox_load_any rfl (by assumption) fz) ?_)
  all_goals refine op_nil ?_
  all_goals refine re_nil ?_
  refine ⟨?al1_1A, ?al1_1B⟩
  case' al1_1A =>
    all_goals first | (refine ct_run (E' := [(8, _)]) rfl (gd_r0 rfl) rfl (cov_cons rfl rfl cov_nil) ?_; (first | (refine o1_call (fun _ => r1_Four _ x.s) rfl (fun b1 _ => ?_)) | (refine o1_call (fun _ => r1_Four _ x.v) rfl (fun b2 _ => ?_))))
    all_goals refine wt_alt ?_
    all_goals refine op_nil ?_
    all_goals (refine xq1 1 rfl rfl rfl rfl rfl (by refine o1_fieldAddr rfl fz) ?_)
    all_goals (refine xq1 10 rfl rfl rfl rfl rfl (by first | refine ox_load rfl (by rfl) fz | refine ox_load_enc rfl (by first | omega | (simp; omega)) fz | refine ox_load_any rfl (by assumption) fz) ?_)
    all_goals (refine xq1 1 rfl rfl rfl rfl rfl (by refine o1_fieldAddr rfl fz) ?_)
    all_goals (refine xq1 13 rfl rfl rfl rfl rfl (by first | refine ox_load rfl (by rfl) fz | refine ox_load_enc rfl (by first | omega | (simp; omega)) fz | refine ox_load_any rfl (by assumption) fz) ?_)
    all_goals (refine xq1 1 rfl rfl rfl rfl rfl (by refine o1_fieldAddr rfl fz) ?_)
    all_goals (refine xq1 16 rfl rfl rfl rfl rfl (by first | refine ox_load rfl (by rfl) fz | refine ox_load_enc rfl (by first | omega | (simp; omega)) fz | refine ox_load_any rfl (by assumption) fz) ?_)
    all_goals (refine xq1 17 rfl rfl rfl rfl rfl (by refine o1_conv_iu rfl fz) ?_)
    all_goals (refine xq1 1 rfl rfl rfl rfl rfl (by refine o1_fieldAddr rfl fz) ?_)
    all_goals (refine xq1 19 rfl rfl rfl rfl rfl (by first | refine ox_load rfl (by rfl) fz | refine ox_load_enc rfl (by first | omega | (simp; omega)) fz | refine ox_load_any rfl (by assumption) fz) ?_)
    all_goals (refine xq1 20 rfl rfl rfl rfl rfl (by refine o1_conv_iu rfl fz) ?_)
    all_goals (refine xq1 1 rfl rfl rfl rfl rfl (by refine o1_fieldAddr rfl fz) ?_)
    all_goals (refine xq1 23 rfl rfl rfl rfl rfl (by first | refine ox_load rfl (by rfl) fz | refine ox_load_enc rfl (by first | omega | (simp; omega)) fz | refine ox_load_any rfl (by assumption) fz) ?_)
    all_goals refine re_nil ?_
    refine ⟨?al1_2A, ?al1_2B⟩
    case' al1_2A =>
      all_goals first | (refine ct_run (E' := [(11, _)]) rfl (gd_r0 rfl) rfl (cov_cons rfl rfl cov_nil) ?_; (first | (refine o1_call (fun _ => r1_Four _ x.s) rfl (fun b1 _ => ?_)) | (refine o1_call (fun _ => r1_Four _ x.v) rfl (fun b2 _ => ?_))))
      all_goals refine wt_alt ?_
      all_goals refine op_nil ?_
      all_goals (refine xq1 1 rfl rfl rfl rfl rfl (by refine o1_fieldAddr rfl fz) ?_)
      all_goals (refine xq1 13 rfl rfl rfl rfl rfl (by first | refine ox_load rfl (by rfl) fz | refine ox_load_enc rfl (by first | omega | (simp; omega)) fz | refine ox_load_any rfl (by assumption) fz) ?_)
      all_goals (refine xq1 1 rfl rfl rfl rfl rfl (by refine o1_fieldAddr rfl fz) ?_)
      all_goals (refine xq1 16 rfl rfl rfl rfl rfl (by first | refine ox_load rfl (by rfl) fz | refine ox_load_enc rfl (by first | omega | (simp; omega)) fz | refine ox_load_any rfl (by assumption) fz) ?_)
      all_goals (refine xq1 17 rfl rfl rfl rfl rfl (by refine o1_conv_iu rfl fz) ?_)
      all_goals (refine xq1 1 rfl rfl rfl rfl rfl (by refine o1_fieldAddr rfl fz) ?_)
      all_goals (refine xq1 19 rfl rfl rfl rfl rfl (by first | refine ox_load rfl (by rfl) fz | refine ox_load_enc rfl (by first | omega | (simp; omega)) fz | refine ox_load_any rfl (by assumption) fz) ?_)
      all_goals (refine xq1 20 rfl rfl rfl rfl rfl (by refine o1_conv_iu rfl fz) ?_)
      all_goals (refine xq1 1 rfl rfl rfl rfl rfl (by refine o1_fieldAddr rfl fz) ?_)
      all_goals (refine xq1 23 rfl rfl rfl rfl rfl (by first | refine ox_load rfl (by rfl) fz | refine ox_load_enc rfl (by first | omega | (simp; omega)) fz | refine ox_load_any rfl (by assumption) fz) ?_)
      all_goals refine re_nil ?_
      refine ⟨?al1_3A, ?al1_3B⟩
      case' al1_3A =>
        all_goals first | (refine ct_run (E' := [(14, _)]) rfl (gd_r0 rfl) rfl (cov_cons rfl rfl cov_nil) ?_; (first | (refine o1_call (fun _ => r7_two _ x.n) rfl (fun b3 _ => ?_))))
        all_goals refine wt_ch ?_
        all_goals refine op_nil ?_
        all_goals (refine xq1 1 rfl rfl rfl rfl rfl (by refine o1_fieldAddr rfl fz) ?_)
        all_goals (refine xq1 16 rfl rfl rfl rfl rfl (by first | refine ox_load rfl (by rfl) fz | refine ox_load_enc rfl (by first | omega | (simp; omega)) fz | refine ox_load_any rfl (by assumption) fz) ?_)
        all_goals (refine xq1 17 rfl rfl rfl rfl rfl (by refine o1_conv_iu rfl fz) ?_)
        all_goals (refine xq1 1 rfl rfl rfl rfl rfl (by refine o1_fieldAddr rfl fz) ?_)
        all_goals (refine xq1 19 rfl rfl rfl rfl rfl (by first | refine ox_load rfl (by rfl) fz | refine ox_load_enc rfl (by first | omega | (simp; omega)) fz | refine ox_load_any rfl (by assumption) fz) ?_)
        all_goals (refine xq1 20 rfl rfl rfl rfl rfl (by refine o1_conv_iu rfl fz) ?_)
        all_goals (refine xq1 1 rfl rfl rfl rfl rfl (by refine o1_fieldAddr rfl fz) ?_)
        all_goals (refine xq1 23 rfl rfl rfl rfl rfl (by first | refine ox_load rfl (by rfl) fz | refine ox_load_enc rfl (by first | omega | (simp; omega)) fz | refine ox_load_any rfl (by assumption) fz) ?_)
        all_goals refine re_nil ?_
        all_goals first | (refine ct_run (E' := [(18, _), (21, _)]) rfl (gd_r0 rfl) rfl (cov_cons rfl rfl (cov_cons rfl rfl cov_nil)) ?_; (first | (refine o1_lit_B rfl rfl rfl rfl rfl (fun b5 => ?_)) | (refine o1_lit_enc Bs [⟨some ⟨b1, 0, none⟩, 4, be4 x.s⟩, ⟨some ⟨b2, 0, none⟩, 4, be4 x.v⟩, ⟨some ⟨b3, 0, none⟩, 2, be2 x.n⟩, ⟨some ⟨b5, 0, none⟩, 2, [BitVec.ofInt 8 x.z, BitVec.ofInt 8 x.p]⟩, x.h] rfl rfl rfl (fun _ => rfl) rfl rfl rfl (fun b4 => ?_)) | refine o1_lit_B rfl rfl rfl rfl rfl (fun _ => ?_)))
        all_goals refine wt_ch ?_
        all_goals refine op_nil ?_
        all_goals (refine xq1 1 rfl rfl rfl rfl rfl (by refine o1_fieldAddr rfl fz) ?_)
        all_goals (refine xq1 23 rfl rfl rfl rfl rfl (by first | refine ox_load rfl (by rfl) fz | refine ox_load_enc rfl (by first | omega | (simp; omega)) fz | refine ox_load_any rfl (by assumption) fz) ?_)
        all_goals refine re_nil ?_
        all_goals first | (refine ct_run (E' := [(9, _), (12, _), (15, _), (22, _), (24, _)]) rfl (gd_r0 rfl) rfl (cov_cons rfl rfl (cov_cons rfl rfl (cov_cons rfl rfl (cov_cons rfl rfl (cov_cons rfl rfl cov_nil))))) ?_; (first | (refine o1_lit_B rfl rfl rfl rfl rfl (fun b5 => ?_)) | (refine o1_lit_enc Bs [⟨some ⟨b1, 0, none⟩, 4, be4 x.s⟩, ⟨some ⟨b2, 0, none⟩, 4, be4 x.v⟩, ⟨some ⟨b3, 0, none⟩, 2, be2 x.n⟩, ⟨some ⟨b5, 0, none⟩, 2, [BitVec.ofInt 8 x.z, BitVec.ofInt 8 x.p]⟩, x.h] rfl rfl rfl (fun _ => rfl) rfl rfl rfl (fun b4 => ?_)) | refine o1_lit_B rfl rfl rfl rfl rfl (fun _ => ?_)))
        all_goals refine wt_ch ?_
        all_goals refine op_nil ?_
        all_goals refine re_nil ?_
        all_goals first | (refine ct_run (E' := [(25, _)]) rfl (gd_r0 rfl) rfl (cov_cons rfl rfl cov_nil) ?_; (first | (refine o1_call (fun hh => r1_Join _ _ _ [⟨some ⟨b1, 0, none⟩, 4, be4 x.s⟩, ⟨some ⟨b2, 0, none⟩, 4, be4 x.v⟩, ⟨some ⟨b3, 0, none⟩, 2, be2 x.n⟩, ⟨some ⟨b5, 0, none⟩, 2, [BitVec.ofInt 8 x.z, BitVec.ofInt 8 x.p]⟩, x.h] (rx_lit rfl rfl hh) (fa_cons (rx_lit rfl rfl hh) (fa_cons (rx_lit rfl rfl hh) (fa_cons (rx_lit rfl rfl hh) (fa_cons (rx_lit rfl rfl hh) (fa_cons (Rs.up hr) fa_nil))))) (by rw [by_cat5, by_len]; omega)) rfl (fun ⟨a5, c5⟩ _ => ?_); dsimp only; rw [by_cat5])))
        all_goals refine wt_end ?_
        all_goals (refine xp1 26 rfl rfl rfl rfl (by refine o1_assign rfl fz) ?_)
        all_goals (refine xp0 rfl rfl rfl (by refine o1_assign rfl fz) ?_)
        all_goals refine op_nil ?_
        all_goals refine re_nil ?_
      case' al1_3B =>
        all_goals first | (refine ct_run (E' := [(18, _), (21, _)]) rfl (gd_r0 rfl) rfl (cov_cons rfl rfl (cov_cons rfl rfl cov_nil)) ?_; (first | (refine o1_lit_B rfl rfl rfl rfl rfl (fun b5 => ?_)) | (refine o1_lit_enc Bs [⟨some ⟨b1, 0, none⟩, 4, be4 x.s⟩, ⟨some ⟨b2, 0, none⟩, 4, be4 x.v⟩, ⟨some ⟨b3, 0, none⟩, 2, be2 x.n⟩, ⟨some ⟨b5, 0, none⟩, 2, [BitVec.ofInt 8 x.z, BitVec.ofInt 8 x.p]⟩, x.h] rfl rfl rfl (fun _ => rfl) rfl rfl rfl (fun b4 => ?_)) | refine o1_lit_B rfl rfl rfl rfl rfl (fun _ => ?_)))
        all_goals refine wt_ch ?_
        all_goals refine op_nil ?_
        all_goals (refine xq1 1 rfl rfl rfl rfl rfl (by refine o1_fieldAddr rfl fz) ?_)
        all_goals (refine xq1 13 rfl rfl rfl rfl rfl (by first | refine ox_load rfl (by rfl) fz | refine ox_load_enc rfl (by first | omega | (simp; omega)) fz | refine ox_load_any rfl (by assumption) fz) ?_)
        all_goals (refine xq1 1 rfl rfl rfl rfl rfl (by refine o1_fieldAddr rfl fz) ?_)
        all_goals (refine xq1 23 rfl rfl rfl rfl rfl (by first | refine ox_load rfl (by rfl) fz | refine ox_load_enc rfl (by first | omega | (simp; omega)) fz | refine ox_load_any rfl (by assumption) fz) ?_)
        all_goals refine re_nil ?_
        all_goals first | (refine ct_run (E' := [(14, _)]) rfl (gd_r0 rfl) rfl (cov_cons rfl rfl cov_nil) ?_; (first | (refine o1_call (fun _ => r7_two _ x.n) rfl (fun b3 _ => ?_))))
        all_goals refine wt_ch ?_
        all_goals refine op_nil ?_
        all_goals (refine xq1 1 rfl rfl rfl rfl rfl (by refine o1_fieldAddr rfl fz) ?_)
        all_goals (refine xq1 23 rfl rfl rfl rfl rfl (by first | refine ox_load rfl (by rfl) fz | refine ox_load_enc rfl (by first | omega | (simp; omega)) fz | refine ox_load_any rfl (by assumption) fz) ?_)
        all_goals refine re_nil ?_
        all_goals first | (refine ct_run (E' := [(9, _), (12, _), (15, _), (22, _), (24, _)]) rfl (gd_r0 rfl) rfl (cov_cons rfl rfl (cov_cons rfl rfl (cov_cons rfl rfl (cov_cons rfl rfl (cov_cons rfl rfl cov_nil))))) ?_; (first | (refine o1_lit_B rfl rfl rfl rfl rfl (fun b5 => ?_)) | (refine o1_lit_enc Bs [⟨some ⟨b1, 0, none⟩, 4, be4 x.s⟩, ⟨some ⟨b2, 0, none⟩, 4, be4 x.v⟩, ⟨some ⟨b3, 0, none⟩, 2, be2 x.n⟩, ⟨some ⟨b5, 0, none⟩, 2, [BitVec.ofInt 8 x.z, BitVec.ofInt 8 x.p]⟩, x.h] rfl rfl rfl (fun _ => rfl) rfl rfl rfl (fun b4 => ?_)) | refine o1_lit_B rfl rfl rfl rfl rfl (fun _ => ?_)))
        all_goals refine wt_ch ?_
        all_goals refine op_nil ?_
        all_goals refine re_nil ?_
        all_goals first | (refine ct_run (E' := [(25, _)]) rfl (gd_r0 rfl) rfl (cov_cons rfl rfl cov_nil) ?_; (first | (refine o1_call (fun hh => r1_Join _ _ _ [⟨some ⟨b1, 0, none⟩, 4, be4 x.s⟩, ⟨some ⟨b2, 0, none⟩, 4, be4 x.v⟩, ⟨some ⟨b3, 0, none⟩, 2, be2 x.n⟩, ⟨some ⟨b5, 0, none⟩, 2, [BitVec.ofInt 8 x.z, BitVec.ofInt 8 x.p]⟩, x.h] (rx_lit rfl rfl hh) (fa_cons (rx_lit rfl rfl hh) (fa_cons (rx_lit rfl rfl hh) (fa_cons (rx_lit rfl rfl hh) (fa_cons (rx_lit rfl rfl hh) (fa_cons (Rs.up hr) fa_nil))))) (by rw [by_cat5, by_len]; omega)) rfl (fun ⟨a5, c5⟩ _ => ?_); dsimp only; rw [by_cat5])))
        all_goals refine wt_end ?_
        all_goals (refine xp1 26 rfl rfl rfl rfl (by refine o1_assign rfl fz) ?_)
        all_goals (refine xp0 rfl rfl rfl (by refine o1_assign rfl fz) ?_)
        all_goals refine op_nil ?_
        all_goals refine re_nil ?_
    case' al1_2B =>
      all_goals first | (refine ct_run (E' := [(18, _), (21, _)]) rfl (gd_r0 rfl) rfl (cov_cons rfl rfl (cov_cons rfl rfl cov_nil)) ?_; (first | (refine o1_lit_B rfl rfl rfl rfl rfl (fun b5 => ?_)) | (refine o1_lit_enc Bs [⟨some ⟨b1, 0, none⟩, 4, be4 x.s⟩, ⟨some ⟨b2, 0, none⟩, 4, be4 x.v⟩, ⟨some ⟨b3, 0, none⟩, 2, be2 x.n⟩, ⟨some ⟨b5, 0, none⟩, 2, [BitVec.ofInt 8 x.z, BitVec.ofInt 8 x.p]⟩, x.h] rfl rfl rfl (fun _ => rfl) rfl rfl rfl (fun b4 => ?_)) | refine o1_lit_B rfl rfl rfl rfl rfl (fun _ => ?_)))
      all_goals refine wt_ch ?_
      all_goals refine op_nil ?_
      all_goals (refine xq1 1 rfl rfl rfl rfl rfl (by refine o1_fieldAddr rfl fz) ?_)
      all_goals (refine xq1 10 rfl rfl rfl rfl rfl (by first | refine ox_load rfl (by rfl) fz | refine ox_load_enc rfl (by first | omega | (simp; omega)) fz | refine ox_load_any rfl (by assumption) fz) ?_)
      all_goals (refine xq1 1 rfl rfl rfl rfl rfl (by refine o1_fieldAddr rfl fz) ?_)
      all_goals (refine xq1 13 rfl rfl rfl rfl rfl (by first | refine ox_load rfl (by rfl) fz | refine ox_load_enc rfl (by first | omega | (simp; omega)) fz | refine ox_load_any rfl (by assumption) fz) ?_)
      all_goals (refine xq1 1 rfl rfl rfl rfl rfl (by refine o1_fieldAddr rfl fz) ?_)
      all_goals (refine xq1 23 rfl rfl rfl rfl rfl (by first | refine ox_load rfl (by rfl) fz | refine ox_load_enc rfl (by first | omega | (simp; omega)) fz | refine ox_load_any rfl (by assumption) fz) ?_)
      all_goals refine re_nil ?_
      all_goals first | (refine ct_run (E' := [(11, _)]) rfl (gd_r0 rfl) rfl (cov_cons rfl rfl cov_nil) ?_; (first | (refine o1_call (fun _ => r1_Four _ x.s) rfl (fun b1 _ => ?_)) | (refine o1_call (fun _ => r1_Four _ x.v) rfl (fun b2 _ => ?_))))
      all_goals refine wt_ch ?_
      all_goals refine op_nil ?_
      all_goals (refine xq1 1 rfl rfl rfl rfl rfl (by refine o1_fieldAddr rfl fz) ?_)
      all_goals (refine xq1 13 rfl rfl rfl rfl rfl (by first | refine ox_load rfl (by rfl) fz | refine ox_load_enc rfl (by first | omega | (simp; omega)) fz | refine ox_load_any rfl (by assumption) fz) ?_)
      all_goals (refine xq1 1 rfl rfl rfl rfl rfl (by refine o1_fieldAddr rfl fz) ?_)
      all_goals (refine xq1 23 rfl rfl rfl rfl rfl (by first | refine ox_load rfl (by rfl) fz | refine ox_load_enc rfl (by first | omega | (simp; omega)) fz | refine ox_load_any rfl (by assumption) fz) ?_)
      all_goals refine re_nil ?_
      all_goals first | (refine ct_run (E' := [(14, _)]) rfl (gd_r0 rfl) rfl (cov_cons rfl rfl cov_nil) ?_; (first | (refine o1_call (fun _ => r7_two _ x.n) rfl (fun b3 _ => ?_))))
      all_goals refine wt_ch ?_
      all_goals refine op_nil ?_
      all_goals (refine xq1 1 rfl rfl rfl rfl rfl (by refine o1_fieldAddr rfl fz) ?_)
      all_goals (refine xq1 23 rfl rfl rfl rfl rfl (by first | refine ox_load rfl (by rfl) fz | refine ox_load_enc rfl (by first | omega | (simp; omega)) fz | refine ox_load_any rfl (by assumption) fz) ?_)
      all_goals refine re_nil ?_
      all_goals first | (refine ct_run (E' := [(9, _), (12, _), (15, _), (22, _), (24, _)]) rfl (gd_r0 rfl) rfl (cov_cons rfl rfl (cov_cons rfl rfl (cov_cons rfl rfl (cov_cons rfl rfl (cov_cons rfl rfl cov_nil))))) ?_; (first | (refine o1_lit_B rfl rfl rfl rfl rfl (fun b5 => ?_)) | (refine o1_lit_enc Bs [⟨some ⟨b1, 0, none⟩, 4, be4 x.s⟩, ⟨some ⟨b2, 0, none⟩, 4, be4 x.v⟩, ⟨some ⟨b3, 0, none⟩, 2, be2 x.n⟩, ⟨some ⟨b5, 0, none⟩, 2, [BitVec.ofInt 8 x.z, BitVec.ofInt 8 x.p]⟩, x.h] rfl rfl rfl (fun _ => rfl) rfl rfl rfl (fun b4 => ?_)) | refine o1_lit_B rfl rfl rfl rfl rfl (fun _ => ?_)))
      all_goals refine wt_ch ?_
      all_goals refine op_nil ?_
      all_goals refine re_nil ?_
      all_goals first | (refine ct_run (E' := [(25, _)]) rfl (gd_r0 rfl) rfl (cov_cons rfl rfl cov_nil) ?_; (first | (refine o1_call (fun hh => r1_Join _ _ _ [⟨some ⟨b1, 0, none⟩, 4, be4 x.s⟩, ⟨some ⟨b2, 0, none⟩, 4, be4 x.v⟩, ⟨some ⟨b3, 0, none⟩, 2, be2 x.n⟩, ⟨some ⟨b5, 0, none⟩, 2, [BitVec.ofInt 8 x.z, BitVec.ofInt 8 x.p]⟩, x.h] (rx_lit rfl rfl hh) (fa_cons (rx_lit rfl rfl hh) (fa_cons (rx_lit rfl rfl hh) (fa_cons (rx_lit rfl rfl hh) (fa_cons (rx_lit rfl rfl hh) (fa_cons (Rs.up hr) fa_nil))))) (by rw [by_cat5, by_len]; omega)) rfl (fun ⟨a5, c5⟩ _ => ?_); dsimp only; rw [by_cat5])))
      all_goals refine wt_end ?_
      all_goals (refine xp1 26 rfl rfl rfl rfl (by refine o1_assign rfl fz) ?_)
      all_goals (refine xp0 rfl rfl rfl (by refine o1_assign rfl fz) ?_)
      all_goals refine op_nil ?_
      all_goals refine re_nil ?_
  case' al1_1B =>
    all_goals first | (refine ct_run (E' := [(18, _), (21, _)]) rfl (gd_r0 rfl) rfl (cov_cons rfl rfl (cov_cons rfl rfl cov_nil)) ?_; (first | (refine o1_lit_B rfl rfl rfl rfl rfl (fun b5 => ?_)) | (refine o1_lit_enc Bs [⟨some ⟨b1, 0, none⟩, 4, be4 x.s⟩, ⟨some ⟨b2, 0, none⟩, 4, be4 x.v⟩, ⟨some ⟨b3, 0, none⟩, 2, be2 x.n⟩, ⟨some ⟨b5, 0, none⟩, 2, [BitVec.ofInt 8 x.z, BitVec.ofInt 8 x.p]⟩, x.h] rfl rfl rfl (fun _ => rfl) rfl rfl rfl (fun b4 => ?_)) | refine o1_lit_B rfl rfl rfl rfl rfl (fun _ => ?_)))
    all_goals refine wt_ch ?_
    all_goals refine op_nil ?_
    all_goals (refine xq1 1 rfl rfl rfl rfl rfl (by refine o1_fieldAddr rfl fz) ?_)
    all_goals (refine xq1 7 rfl rfl rfl rfl rfl (by first | refine ox_load rfl (by rfl) fz | refine ox_load_enc rfl (by first | omega | (simp; omega)) fz | refine ox_load_any rfl (by assumption) fz) ?_)
    all_goals (refine xq1 1 rfl rfl rfl rfl rfl (by refine o1_fieldAddr rfl fz) ?_)
    all_goals (refine xq1 10 rfl rfl rfl rfl rfl (by first | refine ox_load rfl (by rfl) fz | refine ox_load_enc rfl (by first | omega | (simp; omega)) fz | refine ox_load_any rfl (by assumption) fz) ?_)
    all_goals (refine xq1 1 rfl rfl rfl rfl rfl (by refine o1_fieldAddr rfl fz) ?_)
    all_goals (refine xq1 13 rfl rfl rfl rfl rfl (by first | refine ox_load rfl (by rfl) fz | refine ox_load_enc rfl (by first | omega | (simp; omega)) fz | refine ox_load_any rfl (by assumption) fz) ?_)
    all_goals (refine xq1 1 rfl rfl rfl rfl rfl (by refine o1_fieldAddr rfl fz) ?_)
    all_goals (refine xq1 23 rfl rfl rfl rfl rfl (by first | refine ox_load rfl (by rfl) fz | refine ox_load_enc rfl (by first | omega | (simp; omega)) fz | refine ox_load_any rfl (by assumption) fz) ?_)
    all_goals refine re_nil ?_
    all_goals first | (refine ct_run (E' := [(8, _)]) rfl (gd_r0 rfl) rfl (cov_cons rfl rfl cov_nil) ?_; (first | (refine o1_call (fun _ => r1_Four _ x.s) rfl (fun b1 _ => ?_)) | (refine o1_call (fun _ => r1_Four _ x.v) rfl (fun b2 _ => ?_))))
    all_goals refine wt_ch ?_
    all_goals refine op_nil ?_
    all_goals (refine xq1 1 rfl rfl rfl rfl rfl (by refine o1_fieldAddr rfl fz) ?_)
    all_goals (refine xq1 10 rfl rfl rfl rfl rfl (by first | refine ox_load rfl (by rfl) fz | refine ox_load_enc rfl (by first | omega | (simp; omega)) fz | refine ox_load_any rfl (by assumption) fz) ?_)
    all_goals (refine xq1 1 rfl rfl rfl rfl rfl (by refine o1_fieldAddr rfl fz) ?_)
    all_goals (refine xq1 13 rfl rfl rfl rfl rfl (by first | refine ox_load rfl (by rfl) fz | refine ox_load_enc rfl (by first | omega | (simp; omega)) fz | refine ox_load_any rfl (by assumption) fz) ?_)
    all_goals (refine xq1 1 rfl rfl rfl rfl rfl (by refine o1_fieldAddr rfl fz) ?_)
    all_goals (refine xq1 23 rfl rfl rfl rfl rfl (by first | refine ox_load rfl (by rfl) fz | refine ox_load_enc rfl (by first | omega | (simp; omega)) fz | refine ox_load_any rfl (by assumption) fz) ?_)
    all_goals refine re_nil ?_
    all_goals first | (refine ct_run (E' := [(11, _)]) rfl (gd_r0 rfl) rfl (cov_cons rfl rfl cov_nil) ?_; (first | (refine o1_call (fun _ => r1_Four _ x.s) rfl (fun b1 _ => ?_)) | (refine o1_call (fun _ => r1_Four _ x.v) rfl (fun b2 _ => ?_))))
    all_goals refine wt_ch ?_
    all_goals refine op_nil ?_
    all_goals (refine xq1 1 rfl rfl rfl rfl rfl (by refine o1_fieldAddr rfl fz) ?_)
    all_goals (refine xq1 13 rfl rfl rfl rfl rfl (by first | refine ox_load rfl (by rfl) fz | refine ox_load_enc rfl (by first | omega | (simp; omega)) fz | refine ox_load_any rfl (by assumption) fz) ?_)
    all_goals (refine xq1 1 rfl rfl rfl rfl rfl (by refine o1_fieldAddr rfl fz) ?_)
    all_goals (refine xq1 23 rfl rfl rfl rfl rfl (by first | refine ox_load rfl (by rfl) fz | refine ox_load_enc rfl (by first | omega | (simp; omega)) fz | refine ox_load_any rfl (by assumption) fz) ?_)
    all_goals refine re_nil ?_
    all_goals first | (refine ct_run (E' := [(14, _)]) rfl (gd_r0 rfl) rfl (cov_cons rfl rfl cov_nil) ?_; (first | (refine o1_call (fun _ => r7_two _ x.n) rfl (fun b3 _ => ?_))))
    all_goals refine wt_ch ?_
    all_goals refine op_nil ?_
    all_goals (refine xq1 1 rfl rfl rfl rfl rfl (by refine o1_fieldAddr rfl fz) ?_)
    all_goals (refine xq1 23 rfl rfl rfl rfl rfl (by first | refine ox_load rfl (by rfl) fz | refine ox_load_enc rfl (by first | omega | (simp; omega)) fz | refine ox_load_any rfl (by assumption) fz) ?_)
    all_goals refine re_nil ?_
    all_goals first | (refine ct_run (E' := [(9, _), (12, _), (15, _), (22, _), (24, _)]) rfl (gd_r0 rfl) rfl (cov_cons rfl rfl (cov_cons rfl rfl (cov_cons rfl rfl (cov_cons rfl rfl (cov_cons rfl rfl cov_nil))))) ?_; (first | (refine o1_lit_B rfl rfl rfl rfl rfl (fun b5 => ?_)) | (refine o1_lit_enc Bs [⟨some ⟨b1, 0, none⟩, 4, be4 x.s⟩, ⟨some ⟨b2, 0, none⟩, 4, be4 x.v⟩, ⟨some ⟨b3, 0, none⟩, 2, be2 x.n⟩, ⟨some ⟨b5, 0, none⟩, 2, [BitVec.ofInt 8 x.z, BitVec.ofInt 8 x.p]⟩, x.h] rfl rfl rfl (fun _ => rfl) rfl rfl rfl (fun b4 => ?_)) | refine o1_lit_B rfl rfl rfl rfl rfl (fun _ => ?_)))
    all_goals refine wt_ch ?_
    all_goals refine op_nil ?_
    all_goals refine re_nil ?_
    all_goals first | (refine ct_run (E' := [(25, _)]) rfl (gd_r0 rfl) rfl (cov_cons rfl rfl cov_nil) ?_; (first | (refine o1_call (fun hh => r1_Join _ _ _ [⟨some ⟨b1, 0, none⟩, 4, be4 x.s⟩, ⟨some ⟨b2, 0, none⟩, 4, be4 x.v⟩, ⟨some ⟨b3, 0, none⟩, 2, be2 x.n⟩, ⟨some ⟨b5, 0, none⟩, 2, [BitVec.ofInt 8 x.z, BitVec.ofInt 8 x.p]⟩, x.h] (rx_lit rfl rfl hh) (fa_cons (rx_lit rfl rfl hh) (fa_cons (rx_lit rfl rfl hh) (fa_cons (rx_lit rfl rfl hh) (fa_cons (rx_lit rfl rfl hh) (fa_cons (Rs.up hr) fa_nil))))) (by rw [by_cat5, by_len]; omega)) rfl (fun ⟨a5, c5⟩ _ => ?_); dsimp only; rw [by_cat5])))
    all_goals refine wt_end ?_
    all_goals (refine xp1 26 rfl rfl rfl rfl (by refine o1_assign rfl fz) ?_)
    all_goals (refine xp0 rfl rfl rfl (by refine o1_assign rfl fz) ?_)
    all_goals refine op_nil ?_
    all_goals refine re_nil ?_
  all_goals dsimp only [List.cons_append, List.nil_append]
  all_goals
    repeat' (first | refine ls_of rfl ?_ | refine ls_of_no ?_ | refine ls_guard_yes rfl rfl ?_ | refine ls_guard_no rfl rfl rfl rfl ?_ | refine ls_guard_un rfl rfl rfl ?_ | refine o1_move rfl ?_ | refine o1_assign rfl ?_ | refine st_seq ?_ | refine st_region ?_ | refine st_block ?_ | refine st_skip ?_ | refine st_ret ?_ | refine st_exit ?_ | refine st_cond_t rfl ?_ | refine st_cond_f rfl ?_ | refine st_cond rfl (fun _ => ?_) (fun _ => ?_) | refine ls_nil ?_ | refine nx_seq ?_ | refine nx_blk ?_ | refine nx_fn ?_ | refine nx_rounds ?_ | refine xt_seq ?_ | refine xt_here ?_ | refine xt_on rfl ?_ | refine xt_rounds ?_ | refine xt_cut ?_ | refine rt_seq ?_ | refine rt_blk ?_ | refine rt_rounds ?_ | refine rt_cut ?_ | refine o1_fieldAddr rfl ?_ | refine ox_load rfl (by rfl) ?_ | refine ox_load_enc rfl (by first | omega | (simp; omega)) ?_ | refine ox_load_any rfl (by assumption) ?_ | refine o1_box rfl rfl (fun _ => ?_) | refine o1_bnot rfl ?_ | refine o1_unot rfl ?_ | refine o1_conv_iu rfl ?_ | refine o1_lit_B rfl rfl rfl rfl rfl (fun _ => ?_) | refine ox_load_agg rfl (by simp only [Nat.zero_add, Nat.reduceAdd, List.drop_zero, List.drop_succ_cons, List.take_succ_cons, List.take_zero]; rfl) (by rfl) ?_)
    refine rt_tmp2 (a5, c5) rfl rfl rfl rfl trivial ?_
    (try dsimp only [List.cons_append, List.nil_append, List.singleton_append, List.append_nil]); (repeat (first | exact Ent.nil | exact Ent.refl _ | (apply Ent.cons; (repeat (first | exact Sel.here | apply Sel.there)))))
theorem r7_Read_len (H : List Hl) (ad : Option Addr) (c : Nat) (l : List (BitVec 8)) (h : l.length ≠ 44) : Spec Try.prog 34 [.slice ad l.length c] H (fun _ : Unit => True) (fun _ => .tuple #[zM.V, I 3]) (fun _ => H) := by
  refine spec_pure (res := fun _ => []) H Try.func34 rfl Try.ntmps34 (by kernel_rfl) rfl (fun W => ?_)
  repeat' (first | refine ls_of rfl ?_ | refine ls_of_no ?_ | refine ls_guard_yes rfl rfl ?_ | refine ls_guard_no rfl rfl rfl rfl ?_ | refine ls_guard_un rfl rfl rfl ?_ | refine o1_move rfl ?_ | refine o1_assign rfl ?_ | refine st_seq ?_ | refine st_region ?_ | refine st_block ?_ | refine st_skip ?_ | refine st_ret ?_ | refine st_exit ?_ | refine st_cond_t rfl ?_ | refine st_cond_f rfl ?_ | refine st_cond rfl (fun _ => ?_) (fun _ => ?_) | refine ls_nil ?_ | refine nx_seq ?_ | refine nx_blk ?_ | refine nx_fn ?_ | refine nx_rounds ?_ | refine xt_seq ?_ | refine xt_here ?_ | refine xt_on rfl ?_ | refine xt_rounds ?_ | refine xt_cut ?_ | refine rt_seq ?_ | refine rt_blk ?_ | refine rt_rounds ?_ | refine rt_cut ?_ | refine ox_load rfl (by rfl) ?_ | refine ox_load_enc rfl (by first | omega | (simp; omega)) ?_ | refine ox_load_any rfl (by assumption) ?_ | refine o1_len rfl ?_ | refine o1_neq_t rfl rfl (by omega) ?_ | refine o1_neq_f rfl rfl (by omega) ?_ | refine o1_neq rfl rfl (fun _ => ?_) (fun _ => ?_) | refine o1_bnot rfl ?_ | refine o1_unot rfl ?_ | refine o1_conv_i rfl (by omega) ?_ | refine o1_conv_ui rfl (by exact bv_small (by decide) _) ?_ | refine o1_lit_B rfl rfl rfl rfl rfl (fun _ => ?_) | refine o1_buildx rfl (by simp only [buildL, putL, List.set_cons_zero, List.set_cons_succ, List.getElem?_cons_zero, List.getElem?_cons_succ, Option.getD_some, Value.cells, Nat.zero_add, Nat.reduceAdd]; rfl) (fun _ => by kernel_rfl) ?_ | refine o1_alloc rfl (fun _ => ?_) | refine ox_store_agg rfl rfl (by rfl) (by simp) (by simp [Value.oneCell']) (by simp only [putL, List.set_cons_zero, List.set_cons_succ, Nat.zero_add, Nat.reduceAdd]; rfl) ?_ | refine ox_load_agg rfl (by simp only [Nat.zero_add, Nat.reduceAdd, List.drop_zero, List.drop_succ_cons, List.take_succ_cons, List.take_zero]; rfl) (by rfl) ?_)
  refine rt_cell_tmp () rfl rfl rfl rfl rfl trivial ?_
  (try dsimp only [List.cons_append, List.nil_append, List.singleton_append, List.append_nil]); (repeat (first | exact Ent.nil | exact Ent.refl _ | (apply Ent.cons; (repeat (first | exact Sel.here | apply Sel.there)))))
theorem cat_1 (l : List (BitVec 8)) (a : Option Addr) (c : Nat) : cat [⟨a, c, l⟩] = l := by simp [cat]
set_option maxHeartbeats 4000000 in
theorem r7_Read (H : List Hl) (ad : Option Addr) (c : Nat) (l : List (BitVec 8)) (h : Rs (stars H) B ad c l) (hl : l.length = 44) (hm : (manO l (none, 0)).may = true) :
    Spec Try.prog 34 [.slice ad l.length c] H (fun _ : PA => True) (fun r => .tuple #[(manO l r).V, I 0]) (fun r => rowB r (l.drop 12) :: H) := by
  refine spec_pure (res := fun r : PA => [rowB r (l.drop 12)]) H Try.func34 rfl Try.ntmps34 (by kernel_rfl) rfl (fun W => ?_)
  repeat' (first | refine ls_of rfl ?_ | refine ls_of_no ?_ | refine ls_guard_yes rfl rfl ?_ | refine ls_guard_no rfl rfl rfl rfl ?_ | refine ls_guard_un rfl rfl rfl ?_ | refine o1_move rfl ?_ | refine o1_assign rfl ?_ | refine st_seq ?_ | refine st_region ?_ | refine st_block ?_ | refine st_skip ?_ | refine st_ret ?_ | refine st_exit ?_ | refine st_cond_t rfl ?_ | refine st_cond_f rfl ?_ | refine st_cond rfl (fun _ => ?_) (fun _ => ?_) | refine ls_nil ?_ | refine nx_seq ?_ | refine nx_blk ?_ | refine nx_fn ?_ | refine nx_rounds ?_ | refine xt_seq ?_ | refine xt_here ?_ | refine xt_on rfl ?_ | refine xt_rounds ?_ | refine xt_cut ?_ | refine rt_seq ?_ | refine rt_blk ?_ | refine rt_rounds ?_ | refine rt_cut ?_ | refine ox_load rfl (by rfl) ?_ | refine ox_load_enc rfl (by first | omega | (simp; omega)) ?_ | refine ox_load_any rfl (by assumption) ?_ | refine o1_len rfl ?_ | refine o1_neq_t rfl rfl (by omega) ?_ | refine o1_neq_f rfl rfl (by omega) ?_ | refine o1_neq rfl rfl (fun _ => ?_) (fun _ => ?_) | refine o1_bnot rfl ?_ | refine o1_unot rfl ?_ | refine o1_conv_i rfl (by omega) ?_ | refine o1_conv_ui rfl (by exact bv_small (by decide) _) ?_ | refine o1_lit_B rfl rfl rfl rfl rfl (fun _ => ?_) | refine o1_buildx rfl (by simp only [buildL, putL, List.set_cons_zero, List.set_cons_succ, List.getElem?_cons_zero, List.getElem?_cons_succ, Option.getD_some, Value.cells, Nat.zero_add, Nat.reduceAdd]; rfl) (fun _ => by kernel_rfl) ?_ | refine o1_alloc rfl (fun _ => ?_) | refine ox_store_agg rfl rfl (by rfl) (by simp) (by simp [Value.oneCell']) (by simp only [putL, List.set_cons_zero, List.set_cons_succ, Nat.zero_add, Nat.reduceAdd]; rfl) ?_ | refine ox_load_agg rfl (by simp only [Nat.zero_add, Nat.reduceAdd, List.drop_zero, List.drop_succ_cons, List.take_succ_cons, List.take_zero]; rfl) (by rfl) ?_)
  have k10 : l.getD 10 0#8 = l[10] := getD_at (by omega)
  have k11 : l.getD 11 0#8 = l[11] := getD_at (by omega)
  refine st_tree [(0, _)] rtG3_1 [20, 21, 23, 24] (.alt [0, 1, 2, 3, 4, 5, 6, 7, 8, 9, 10, 11, 12, 13, 14, 15, 16, 17, 18, 19] [] 20 (.alt [] [0, 1, 2, 3, 4, 5, 6, 7, 8, 9, 10, 11, 12, 13, 14, 15, 16, 17] 21 (.step [22] [9, 10, 11, 12, 13, 14, 15, 16, 17] 23 (.step [] [9, 10, 11, 12, 13, 14, 15, 16, 17, 22] 24 (.fin [] []))) 23 (.step [] [0, 1, 2, 3, 4, 5, 6, 7, 8, 9, 10, 11, 12, 13, 14, 15, 16, 17] 21 (.step [22] [9, 10, 11, 12, 13, 14, 15, 16, 17] 24 (.fin [] [])))) 23 (.step [] [0, 1, 2, 3, 4, 5, 6, 7, 8, 9, 10, 11, 12, 13, 14, 15, 16, 17, 18, 19] 20 (.step [] [0, 1, 2, 3, 4, 5, 6, 7, 8, 9, 10, 11, 12, 13, 14, 15, 16, 17] 21 (.step [22] [9, 10, 11, 12, 13, 14, 15, 16, 17] 24 (.fin [] []))))) mixed (cov_cons rfl rfl cov_nil) (by kernel_rfl) (by kernel_rfl) ?_
  all_goals refine wt_alt ?_
  all_goals (refine xp1 0 rfl rfl rfl rfl (by refine o1_move rfl fz) ?_)
  all_goals (refine xp1 9 rfl rfl rfl rfl (by first | refine o1_cv_h rfl rfl h rfl (by omega) (by omega) fz | refine o1_cv_lh rfl rfl rfl h rfl (by omega) (by omega) fz | refine o1_cv_l rfl rfl h rfl (by omega) (by omega) fz) ?_)
  all_goals (refine xp1 10 rfl rfl rfl rfl (by first | refine o1_call (fun _ => r1_Number _ _ _ _ (Rs.up (h.cutv 0 4 (by omega) (by omega)))) rfl (fun _ _ => fz) | refine o1_call (fun _ => r1_Number _ _ _ _ (Rs.up (h.cutv 4 8 (by omega) (by omega)))) rfl (fun _ _ => fz) | refine o1_call (fun _ => r1_Number _ _ _ _ (Rs.up (h.cutv 8 10 (by omega) (by omega)))) rfl (fun _ _ => fz)) ?_)
  all_goals (refine xp1 0 rfl rfl rfl rfl (by refine o1_move rfl fz) ?_)
  all_goals (refine xp1 12 rfl rfl rfl rfl (by first | refine o1_cv_h rfl rfl h rfl (by omega) (by omega) fz | refine o1_cv_lh rfl rfl rfl h rfl (by omega) (by omega) fz | refine o1_cv_l rfl rfl h rfl (by omega) (by omega) fz) ?_)
  all_goals (refine xp1 13 rfl rfl rfl rfl (by first | refine o1_call (fun _ => r1_Number _ _ _ _ (Rs.up (h.cutv 0 4 (by omega) (by omega)))) rfl (fun _ _ => fz) | refine o1_call (fun _ => r1_Number _ _ _ _ (Rs.up (h.cutv 4 8 (by omega) (by omega)))) rfl (fun _ _ => fz) | refine o1_call (fun _ => r1_Number _ _ _ _ (Rs.up (h.cutv 8 10 (by omega) (by omega)))) rfl (fun _ _ => fz)) ?_)
  all_goals (refine xp1 0 rfl rfl rfl rfl (by refine o1_move rfl fz) ?_)
  all_goals (refine xp1 15 rfl rfl rfl rfl (by first | refine o1_cv_h rfl rfl h rfl (by omega) (by omega) fz | refine o1_cv_lh rfl rfl rfl h rfl (by omega) (by omega) fz | refine o1_cv_l rfl rfl h rfl (by omega) (by omega) fz) ?_)
  all_goals (refine xp1 16 rfl rfl rfl rfl (by first | refine o1_call (fun _ => r1_Number _ _ _ _ (Rs.up (h.cutv 0 4 (by omega) (by omega)))) rfl (fun _ _ => fz) | refine o1_call (fun _ => r1_Number _ _ _ _ (Rs.up (h.cutv 4 8 (by omega) (by omega)))) rfl (fun _ _ => fz) | refine o1_call (fun _ => r1_Number _ _ _ _ (Rs.up (h.cutv 8 10 (by omega) (by omega)))) rfl (fun _ _ => fz)) ?_)
  all_goals (refine xp1 17 rfl rfl rfl rfl (by first | refine o1_conv_i rfl (by omega) fz | refine o1_conv_ui rfl (by exact bv_small (by decide) _) fz) ?_)
  all_goals (refine xp1 0 rfl rfl rfl rfl (by refine o1_move rfl fz) ?_)
  all_goals (refine xp1 19 rfl rfl rfl rfl (by first | refine o1_ia 10 rfl rfl h rfl rfl (by omega) fz | refine o1_ia 11 rfl rfl h rfl rfl (by omega) fz) ?_)
  all_goals (refine xp1 20 rfl rfl rfl rfl (by first | refine o1_load_ia 10 rfl h (by omega) fz | refine o1_load_ia 11 rfl h (by omega) fz | refine ox_load rfl (by rfl) fz | refine ox_load_enc rfl (by first | omega | (simp; omega)) fz | refine ox_load_any rfl (by assumption) fz) ?_)
  all_goals (refine xp1 21 rfl rfl rfl rfl (by first | refine o1_conv_i rfl (by omega) fz | refine o1_conv_ui rfl (by exact bv_small (by decide) _) fz) ?_)
  all_goals (refine xp1 0 rfl rfl rfl rfl (by refine o1_move rfl fz) ?_)
  all_goals (refine xp1 23 rfl rfl rfl rfl (by first | refine o1_ia 10 rfl rfl h rfl rfl (by omega) fz | refine o1_ia 11 rfl rfl h rfl rfl (by omega) fz) ?_)
  all_goals (refine xp1 24 rfl rfl rfl rfl (by first | refine o1_load_ia 10 rfl h (by omega) fz | refine o1_load_ia 11 rfl h (by omega) fz | refine ox_load rfl (by rfl) fz | refine ox_load_enc rfl (by first | omega | (simp; omega)) fz | refine ox_load_any rfl (by assumption) fz) ?_)
  all_goals (refine xp1 25 rfl rfl rfl rfl (by first | refine o1_conv_i rfl (by omega) fz | refine o1_conv_ui rfl (by exact bv_small (by decide) _) fz) ?_)
  all_goals (refine xp1 0 rfl rfl rfl rfl (by refine o1_move rfl fz) ?_)
  all_goals (refine xp1 27 rfl rfl rfl rfl (by first | refine o1_cv_h rfl rfl h rfl (by omega) (by omega) fz | refine o1_cv_lh rfl rfl rfl h rfl (by omega) (by omega) fz | refine o1_cv_l rfl rfl h rfl (by omega) (by omega) fz) ?_)
  all_goals refine op_nil ?_
  all_goals refine re_nil ?_
  refine ⟨?al2_1A, ?al2_1B⟩
  case' al2_1A =>
    all_goals first | (refine ct_run (E' := [(28, _)]) rfl (gd_r0 rfl) rfl (cov_cons rfl rfl cov_nil) ?_; (first | (refine o1_lit_enc Bs [⟨_, _, l.drop 12⟩] rfl rfl rfl (fun _ => rfl) rfl rfl rfl (fun _ => ?_)) | refine o1_lit_B rfl rfl rfl rfl rfl (fun _ => ?_)))
    all_goals refine wt_alt ?_
    all_goals refine op_nil ?_
    all_goals (refine xq1 0 rfl rfl rfl rfl rfl (by refine o1_move rfl fz) ?_)
    all_goals (refine xq1 9 rfl rfl rfl rfl rfl (by first | refine o1_cv_h rfl rfl h rfl (by omega) (by omega) fz | refine o1_cv_lh rfl rfl rfl h rfl (by omega) (by omega) fz | refine o1_cv_l rfl rfl h rfl (by omega) (by omega) fz) ?_)
    all_goals (refine xq1 10 rfl rfl rfl rfl rfl (by first | refine o1_call (fun _ => r1_Number _ _ _ _ (Rs.up (h.cutv 0 4 (by omega) (by omega)))) rfl (fun _ _ => fz) | refine o1_call (fun _ => r1_Number _ _ _ _ (Rs.up (h.cutv 4 8 (by omega) (by omega)))) rfl (fun _ _ => fz) | refine o1_call (fun _ => r1_Number _ _ _ _ (Rs.up (h.cutv 8 10 (by omega) (by omega)))) rfl (fun _ _ => fz)) ?_)
    all_goals (refine xq1 0 rfl rfl rfl rfl rfl (by refine o1_move rfl fz) ?_)
    all_goals (refine xq1 12 rfl rfl rfl rfl rfl (by first | refine o1_cv_h rfl rfl h rfl (by omega) (by omega) fz | refine o1_cv_lh rfl rfl rfl h rfl (by omega) (by omega) fz | refine o1_cv_l rfl rfl h rfl (by omega) (by omega) fz) ?_)
    all_goals (refine xq1 13 rfl rfl rfl rfl rfl (by first | refine o1_call (fun _ => r1_Number _ _ _ _ (Rs.up (h.cutv 0 4 (by omega) (by omega)))) rfl (fun _ _ => fz) | refine o1_call (fun _ => r1_Number _ _ _ _ (Rs.up (h.cutv 4 8 (by omega) (by omega)))) rfl (fun _ _ => fz) | refine o1_call (fun _ => r1_Number _ _ _ _ (Rs.up (h.cutv 8 10 (by omega) (by omega)))) rfl (fun _ _ => fz)) ?_)
    all_goals (refine xq1 0 rfl rfl rfl rfl rfl (by refine o1_move rfl fz) ?_)
    all_goals (refine xq1 15 rfl rfl rfl rfl rfl (by first | refine o1_cv_h rfl rfl h rfl (by omega) (by omega) fz | refine o1_cv_lh rfl rfl rfl h rfl (by omega) (by omega) fz | refine o1_cv_l rfl rfl h rfl (by omega) (by omega) fz) ?_)
    all_goals (refine xq1 16 rfl rfl rfl rfl rfl (by first | refine o1_call (fun _ => r1_Number _ _ _ _ (Rs.up (h.cutv 0 4 (by omega) (by omega)))) rfl (fun _ _ => fz) | refine o1_call (fun _ => r1_Number _ _ _ _ (Rs.up (h.cutv 4 8 (by omega) (by omega)))) rfl (fun _ _ => fz) | refine o1_call (fun _ => r1_Number _ _ _ _ (Rs.up (h.cutv 8 10 (by omega) (by omega)))) rfl (fun _ _ => fz)) ?_)
    all_goals (refine xq1 17 rfl rfl rfl rfl rfl (by first | refine o1_conv_i rfl (by omega) fz | refine o1_conv_ui rfl (by exact bv_small (by decide) _) fz) ?_)
    all_goals (refine xq1 0 rfl rfl rfl rfl rfl (by refine o1_move rfl fz) ?_)
    all_goals (refine xq1 19 rfl rfl rfl rfl rfl (by first | refine o1_ia 10 rfl rfl h rfl rfl (by omega) fz | refine o1_ia 11 rfl rfl h rfl rfl (by omega) fz) ?_)
    all_goals (refine xq1 20 rfl rfl rfl rfl rfl (by first | refine o1_load_ia 10 rfl h (by omega) fz | refine o1_load_ia 11 rfl h (by omega) fz | refine ox_load rfl (by rfl) fz | refine ox_load_enc rfl (by first | omega | (simp; omega)) fz | refine ox_load_any rfl (by assumption) fz) ?_)
    all_goals (refine xq1 21 rfl rfl rfl rfl rfl (by first | refine o1_conv_i rfl (by omega) fz | refine o1_conv_ui rfl (by exact bv_small (by decide) _) fz) ?_)
    all_goals (refine xq1 0 rfl rfl rfl rfl rfl (by refine o1_move rfl fz) ?_)
    all_goals (refine xq1 23 rfl rfl rfl rfl rfl (by first | refine o1_ia 10 rfl rfl h rfl rfl (by omega) fz | refine o1_ia 11 rfl rfl h rfl rfl (by omega) fz) ?_)
    all_goals (refine xq1 24 rfl rfl rfl rfl rfl (by first | refine o1_load_ia 10 rfl h (by omega) fz | refine o1_load_ia 11 rfl h (by omega) fz | refine ox_load rfl (by rfl) fz | refine ox_load_enc rfl (by first | omega | (simp; omega)) fz | refine ox_load_any rfl (by assumption) fz) ?_)
    all_goals (refine xq1 25 rfl rfl rfl rfl rfl (by first | refine o1_conv_i rfl (by omega) fz | refine o1_conv_ui rfl (by exact bv_small (by decide) _) fz) ?_)
    all_goals refine re_nil ?_
    refine ⟨?al2_2A, ?al2_2B⟩
    case' al2_2A =>
      all_goals first | (refine ct_run (E' := [(29, _)]) rfl (gd_r0 rfl) rfl (cov_cons rfl rfl cov_nil) ?_; (first | (refine o1_call (fun hh => r1_Join _ _ _ [⟨_, _, l.drop 12⟩] (rx_lit rfl rfl hh) (fa_cons (Rs.up (h.cutl 12 (by omega))) fa_nil) (by rw [cat_1]; simp; omega)) rfl (fun ⟨a5, c5⟩ _ => ?_); dsimp only; rw [cat_1])))
      all_goals refine wt_ch ?_
      all_goals (refine op_run (E' := [(11, _), (14, _), (18, _), (22, _), (26, _), (30, _)]) rfl (gd_r0 rfl) rfl (cov_cons rfl rfl (cov_cons rfl rfl (cov_cons rfl rfl (cov_cons rfl rfl (cov_cons rfl rfl (cov_cons rfl rfl cov_nil)))))) (by (first | refine o1_buildx rfl (by simp only [buildL, putL, List.set_cons_zero, List.set_cons_succ, List.getElem?_cons_zero, List.getElem?_cons_succ, Option.getD_some, Value.cells, Nat.zero_add, Nat.reduceAdd]; rfl) (fun _ => by kernel_rfl) ?_); all_goals exact ⟨rfl, fun _ h => h⟩) ?_)
      all_goals refine op_nil ?_
      all_goals (refine xq1 17 rfl rfl rfl rfl rfl (by first | refine o1_conv_i rfl (by omega) fz | refine o1_conv_ui rfl (by exact bv_small (by decide) _) fz) ?_)
      all_goals (refine xq1 0 rfl rfl rfl rfl rfl (by refine o1_move rfl fz) ?_)
      all_goals (refine xq1 19 rfl rfl rfl rfl rfl (by first | refine o1_ia 10 rfl rfl h rfl rfl (by omega) fz | refine o1_ia 11 rfl rfl h rfl rfl (by omega) fz) ?_)
      all_goals (refine xq1 20 rfl rfl rfl rfl rfl (by first | refine o1_load_ia 10 rfl h (by omega) fz | refine o1_load_ia 11 rfl h (by omega) fz | refine ox_load rfl (by rfl) fz | refine ox_load_enc rfl (by first | omega | (simp; omega)) fz | refine ox_load_any rfl (by assumption) fz) ?_)
      all_goals (refine xq1 21 rfl rfl rfl rfl rfl (by first | refine o1_conv_i rfl (by omega) fz | refine o1_conv_ui rfl (by exact bv_small (by decide) _) fz) ?_)
      all_goals (refine xq1 0 rfl rfl rfl rfl rfl (by refine o1_move rfl fz) ?_)
      all_goals (refine xq1 23 rfl rfl rfl rfl rfl (by first | refine o1_ia 10 rfl rfl h rfl rfl (by omega) fz | refine o1_ia 11 rfl rfl h rfl rfl (by omega) fz) ?_)
      all_goals (refine xq1 24 rfl rfl rfl rfl rfl (by first | refine o1_load_ia 10 rfl h (by omega) fz | refine o1_load_ia 11 rfl h (by omega) fz | refine ox_load rfl (by rfl) fz | refine ox_load_enc rfl (by first | omega | (simp; omega)) fz | refine ox_load_any rfl (by assumption) fz) ?_)
      all_goals (refine xq1 25 rfl rfl rfl rfl rfl (by first | refine o1_conv_i rfl (by omega) fz | refine o1_conv_ui rfl (by exact bv_small (by decide) _) fz) ?_)
      all_goals refine re_nil ?_
      all_goals first | (refine ct_run (E' := []) rfl (gd_r0 rfl) rfl cov_nil ?_; (first | refine o1_alloc rfl (fun _ => ?_)))
      all_goals refine wt_ch ?_
      all_goals refine op_nil ?_
      all_goals (refine xq1 17 rfl rfl rfl rfl rfl (by first | refine o1_conv_i rfl (by omega) fz | refine o1_conv_ui rfl (by exact bv_small (by decide) _) fz) ?_)
      all_goals (refine xq1 0 rfl rfl rfl rfl rfl (by refine o1_move rfl fz) ?_)
      all_goals (refine xq1 19 rfl rfl rfl rfl rfl (by first | refine o1_ia 10 rfl rfl h rfl rfl (by omega) fz | refine o1_ia 11 rfl rfl h rfl rfl (by omega) fz) ?_)
      all_goals (refine xq1 20 rfl rfl rfl rfl rfl (by first | refine o1_load_ia 10 rfl h (by omega) fz | refine o1_load_ia 11 rfl h (by omega) fz | refine ox_load rfl (by rfl) fz | refine ox_load_enc rfl (by first | omega | (simp; omega)) fz | refine ox_load_any rfl (by assumption) fz) ?_)
      all_goals (refine xq1 21 rfl rfl rfl rfl rfl (by first | refine o1_conv_i rfl (by omega) fz | refine o1_conv_ui rfl (by exact bv_small (by decide) _) fz) ?_)
      all_goals (refine xq1 0 rfl rfl rfl rfl rfl (by refine o1_move rfl fz) ?_)
      all_goals (refine xq1 23 rfl rfl rfl rfl rfl (by first | refine o1_ia 10 rfl rfl h rfl rfl (by omega) fz | refine o1_ia 11 rfl rfl h rfl rfl (by omega) fz) ?_)
      all_goals (refine xq1 24 rfl rfl rfl rfl rfl (by first | refine o1_load_ia 10 rfl h (by omega) fz | refine o1_load_ia 11 rfl h (by omega) fz | refine ox_load rfl (by rfl) fz | refine ox_load_enc rfl (by first | omega | (simp; omega)) fz | refine ox_load_any rfl (by assumption) fz) ?_)
      all_goals (refine xq1 25 rfl rfl rfl rfl rfl (by first | refine o1_conv_i rfl (by omega) fz | refine o1_conv_ui rfl (by exact bv_small (by decide) _) fz) ?_)
      all_goals (refine re_run (E' := [(11, _), (14, _), (18, _), (22, _), (26, _), (30, _)]) rfl rfl (gd_r0 rfl) rfl (cov_cons rfl rfl (cov_cons rfl rfl (cov_cons rfl rfl (cov_cons rfl rfl (cov_cons rfl rfl (cov_cons rfl rfl cov_nil)))))) (by (first | refine o1_buildx rfl (by simp only [buildL, putL, List.set_cons_zero, List.set_cons_succ, List.getElem?_cons_zero, List.getElem?_cons_succ, Option.getD_some, Value.cells, Nat.zero_add, Nat.reduceAdd]; rfl) (fun _ => by kernel_rfl) ?_); all_goals exact ⟨rfl, fun _ h => h⟩) ?_)
      all_goals refine re_nil ?_
      all_goals first | (refine ct_run_no (E' := [(4, _), (31, _)]) rfl (gd_r0 rfl) rfl (cov_cons rfl rfl (cov_cons rfl rfl cov_nil)) ?_; (first | refine ox_store_agg rfl rfl (by rfl) (by simp) (by simp [Value.oneCell']) (by simp only [putL, List.set_cons_zero, List.set_cons_succ, Nat.zero_add, Nat.reduceAdd]; rfl) ?_))
      all_goals refine wt_end ?_
      all_goals refine op_nil ?_
      all_goals refine re_nil ?_
    case' al2_2B =>
      all_goals first | (refine ct_run (E' := []) rfl (gd_r0 rfl) rfl cov_nil ?_; (first | refine o1_alloc rfl (fun _ => ?_)))
      all_goals refine wt_ch ?_
      all_goals refine op_nil ?_
      all_goals (refine xq1 0 rfl rfl rfl rfl rfl (by refine o1_move rfl fz) ?_)
      all_goals (refine xq1 9 rfl rfl rfl rfl rfl (by first | refine o1_cv_h rfl rfl h rfl (by omega) (by omega) fz | refine o1_cv_lh rfl rfl rfl h rfl (by omega) (by omega) fz | refine o1_cv_l rfl rfl h rfl (by omega) (by omega) fz) ?_)
      all_goals (refine xq1 10 rfl rfl rfl rfl rfl (by first | refine o1_call (fun _ => r1_Number _ _ _ _ (Rs.up (h.cutv 0 4 (by omega) (by omega)))) rfl (fun _ _ => fz) | refine o1_call (fun _ => r1_Number _ _ _ _ (Rs.up (h.cutv 4 8 (by omega) (by omega)))) rfl (fun _ _ => fz) | refine o1_call (fun _ => r1_Number _ _ _ _ (Rs.up (h.cutv 8 10 (by omega) (by omega)))) rfl (fun _ _ => fz)) ?_)
      all_goals (refine xq1 0 rfl rfl rfl rfl rfl (by refine o1_move rfl fz) ?_)
      all_goals (refine xq1 12 rfl rfl rfl rfl rfl (by first | refine o1_cv_h rfl rfl h rfl (by omega) (by omega) fz | refine o1_cv_lh rfl rfl rfl h rfl (by omega) (by omega) fz | refine o1_cv_l rfl rfl h rfl (by omega) (by omega) fz) ?_)
      all_goals (refine xq1 13 rfl rfl rfl rfl rfl (by first | refine o1_call (fun _ => r1_Number _ _ _ _ (Rs.up (h.cutv 0 4 (by omega) (by omega)))) rfl (fun _ _ => fz) | refine o1_call (fun _ => r1_Number _ _ _ _ (Rs.up (h.cutv 4 8 (by omega) (by omega)))) rfl (fun _ _ => fz) | refine o1_call (fun _ => r1_Number _ _ _ _ (Rs.up (h.cutv 8 10 (by omega) (by omega)))) rfl (fun _ _ => fz)) ?_)
      all_goals (refine xq1 0 rfl rfl rfl rfl rfl (by refine o1_move rfl fz) ?_)
      all_goals (refine xq1 15 rfl rfl rfl rfl rfl (by first | refine o1_cv_h rfl rfl h rfl (by omega) (by omega) fz | refine o1_cv_lh rfl rfl rfl h rfl (by omega) (by omega) fz | refine o1_cv_l rfl rfl h rfl (by omega) (by omega) fz) ?_)
      all_goals (refine xq1 16 rfl rfl rfl rfl rfl (by first | refine o1_call (fun _ => r1_Number _ _ _ _ (Rs.up (h.cutv 0 4 (by omega) (by omega)))) rfl (fun _ _ => fz) | refine o1_call (fun _ => r1_Number _ _ _ _ (Rs.up (h.cutv 4 8 (by omega) (by omega)))) rfl (fun _ _ => fz) | refine o1_call (fun _ => r1_Number _ _ _ _ (Rs.up (h.cutv 8 10 (by omega) (by omega)))) rfl (fun _ _ => fz)) ?_)
      all_goals (refine xq1 17 rfl rfl rfl rfl rfl (by first | refine o1_conv_i rfl (by omega) fz | refine o1_conv_ui rfl (by exact bv_small (by decide) _) fz) ?_)
      all_goals (refine xq1 0 rfl rfl rfl rfl rfl (by refine o1_move rfl fz) ?_)
      all_goals (refine xq1 19 rfl rfl rfl rfl rfl (by first | refine o1_ia 10 rfl rfl h rfl rfl (by omega) fz | refine o1_ia 11 rfl rfl h rfl rfl (by omega) fz) ?_)
      all_goals (refine xq1 20 rfl rfl rfl rfl rfl (by first | refine o1_load_ia 10 rfl h (by omega) fz | refine o1_load_ia 11 rfl h (by omega) fz | refine ox_load rfl (by rfl) fz | refine ox_load_enc rfl (by first | omega | (simp; omega)) fz | refine ox_load_any rfl (by assumption) fz) ?_)
      all_goals (refine xq1 21 rfl rfl rfl rfl rfl (by first | refine o1_conv_i rfl (by omega) fz | refine o1_conv_ui rfl (by exact bv_small (by decide) _) fz) ?_)
      all_goals (refine xq1 0 rfl rfl rfl rfl rfl (by refine o1_move rfl fz) ?_)
      all_goals (refine xq1 23 rfl rfl rfl rfl rfl (by first | refine o1_ia 10 rfl rfl h rfl rfl (by omega) fz | refine o1_ia 11 rfl rfl h rfl rfl (by omega) fz) ?_)
      all_goals (refine xq1 24 rfl rfl rfl rfl rfl (by first | refine o1_load_ia 10 rfl h (by omega) fz | refine o1_load_ia 11 rfl h (by omega) fz | refine ox_load rfl (by rfl) fz | refine ox_load_enc rfl (by first | omega | (simp; omega)) fz | refine ox_load_any rfl (by assumption) fz) ?_)
      all_goals (refine xq1 25 rfl rfl rfl rfl rfl (by first | refine o1_conv_i rfl (by omega) fz | refine o1_conv_ui rfl (by exact bv_small (by decide) _) fz) ?_)
      all_goals refine re_nil ?_
      all_goals first | (refine ct_run (E' := [(29, _)]) rfl (gd_r0 rfl) rfl (cov_cons rfl rfl cov_nil) ?_; (first | (refine o1_call (fun hh => r1_Join _ _ _ [⟨_, _, l.drop 12⟩] (rx_lit rfl rfl hh) (fa_cons (Rs.up (h.cutl 12 (by omega))) fa_nil) (by rw [cat_1]; simp; omega)) rfl (fun ⟨a5, c5⟩ _ => ?_); dsimp only; rw [cat_1])))
      all_goals refine wt_ch ?_
      all_goals (refine op_run (E' := [(11, _), (14, _), (18, _), (22, _), (26, _), (30, _)]) rfl (gd_r0 rfl) rfl (cov_cons rfl rfl (cov_cons rfl rfl (cov_cons rfl rfl (cov_cons rfl rfl (cov_cons rfl rfl (cov_cons rfl rfl cov_nil)))))) (by (first | refine o1_buildx rfl (by simp only [buildL, putL, List.set_cons_zero, List.set_cons_succ, List.getElem?_cons_zero, List.getElem?_cons_succ, Option.getD_some, Value.cells, Nat.zero_add, Nat.reduceAdd]; rfl) (fun _ => by kernel_rfl) ?_); all_goals exact ⟨rfl, fun _ h => h⟩) ?_)
      all_goals refine op_nil ?_
      all_goals (refine xq1 17 rfl rfl rfl rfl rfl (by first | refine o1_conv_i rfl (by omega) fz | refine o1_conv_ui rfl (by exact bv_small (by decide) _) fz) ?_)
      all_goals (refine xq1 0 rfl rfl rfl rfl rfl (by refine o1_move rfl fz) ?_)
      all_goals (refine xq1 19 rfl rfl rfl rfl rfl (by first | refine o1_ia 10 rfl rfl h rfl rfl (by omega) fz | refine o1_ia 11 rfl rfl h rfl rfl (by omega) fz) ?_)
      all_goals (refine xq1 20 rfl rfl rfl rfl rfl (by first | refine o1_load_ia 10 rfl h (by omega) fz | refine o1_load_ia 11 rfl h (by omega) fz | refine ox_load rfl (by rfl) fz | refine ox_load_enc rfl (by first | omega | (simp; omega)) fz | refine ox_load_any rfl (by assumption) fz) ?_)
      all_goals (refine xq1 21 rfl rfl rfl rfl rfl (by first | refine o1_conv_i rfl (by omega) fz | refine o1_conv_ui rfl (by exact bv_small (by decide) _) fz) ?_)
      all_goals (refine xq1 0 rfl rfl rfl rfl rfl (by refine o1_move rfl fz) ?_)
      all_goals (refine xq1 23 rfl rfl rfl rfl rfl (by first | refine o1_ia 10 rfl rfl h rfl rfl (by omega) fz | refine o1_ia 11 rfl rfl h rfl rfl (by omega) fz) ?_)
      all_goals (refine xq1 24 rfl rfl rfl rfl rfl (by first | refine o1_load_ia 10 rfl h (by omega) fz | refine o1_load_ia 11 rfl h (by omega) fz | refine ox_load rfl (by rfl) fz | refine ox_load_enc rfl (by first | omega | (simp; omega)) fz | refine ox_load_any rfl (by assumption) fz) ?_)
      all_goals (refine xq1 25 rfl rfl rfl rfl rfl (by first | refine o1_conv_i rfl (by omega) fz | refine o1_conv_ui rfl (by exact bv_small (by decide) _) fz) ?_)
      all_goals refine re_nil ?_
      all_goals first | (refine ct_run_no (E' := [(4, _), (31, _)]) rfl (gd_r0 rfl) rfl (cov_cons rfl rfl (cov_cons rfl rfl cov_nil)) ?_; (first | refine ox_store_agg rfl rfl (by rfl) (by simp) (by simp [Value.oneCell']) (by simp only [putL, List.set_cons_zero, List.set_cons_succ, Nat.zero_add, Nat.reduceAdd]; rfl) ?_))
      all_goals refine wt_end ?_
      all_goals refine op_nil ?_
      all_goals refine re_nil ?_
  case' al2_1B =>
    all_goals first | (refine ct_run (E' := []) rfl (gd_r0 rfl) rfl cov_nil ?_; (first | refine o1_alloc rfl (fun _ => ?_)))
    all_goals refine wt_ch ?_
    all_goals refine op_nil ?_
    all_goals (refine xq1 0 rfl rfl rfl rfl rfl (by refine o1_move rfl fz) ?_)
    all_goals (refine xq1 9 rfl rfl rfl rfl rfl (by first | refine o1_cv_h rfl rfl h rfl (by omega) (by omega) fz | refine o1_cv_lh rfl rfl rfl h rfl (by omega) (by omega) fz | refine o1_cv_l rfl rfl h rfl (by omega) (by omega) fz) ?_)
    all_goals (refine xq1 10 rfl rfl rfl rfl rfl (by first | refine o1_call (fun _ => r1_Number _ _ _ _ (Rs.up (h.cutv 0 4 (by omega) (by omega)))) rfl (fun _ _ => fz) | refine o1_call (fun _ => r1_Number _ _ _ _ (Rs.up (h.cutv 4 8 (by omega) (by omega)))) rfl (fun _ _ => fz) | refine o1_call (fun _ => r1_Number _ _ _ _ (Rs.up (h.cutv 8 10 (by omega) (by omega)))) rfl (fun _ _ => fz)) ?_)
    all_goals (refine xq1 0 rfl rfl rfl rfl rfl (by refine o1_move rfl fz) ?_)
    all_goals (refine xq1 12 rfl rfl rfl rfl rfl (by first | refine o1_cv_h rfl rfl h rfl (by omega) (by omega) fz | refine o1_cv_lh rfl rfl rfl h rfl (by omega) (by omega) fz | refine o1_cv_l rfl rfl h rfl (by omega) (by omega) fz) ?_)
    all_goals (refine xq1 13 rfl rfl rfl rfl rfl (by first | refine o1_call (fun _ => r1_Number _ _ _ _ (Rs.up (h.cutv 0 4 (by omega) (by omega)))) rfl (fun _ _ => fz) | refine o1_call (fun _ => r1_Number _ _ _ _ (Rs.up (h.cutv 4 8 (by omega) (by omega)))) rfl (fun _ _ => fz) | refine o1_call (fun _ => r1_Number _ _ _ _ (Rs.up (h.cutv 8 10 (by omega) (by omega)))) rfl (fun _ _ => fz)) ?_)
    all_goals (refine xq1 0 rfl rfl rfl rfl rfl (by refine o1_move rfl fz) ?_)
    all_goals (refine xq1 15 rfl rfl rfl rfl rfl (by first | refine o1_cv_h rfl rfl h rfl (by omega) (by omega) fz | refine o1_cv_lh rfl rfl rfl h rfl (by omega) (by omega) fz | refine o1_cv_l rfl rfl h rfl (by omega) (by omega) fz) ?_)
    all_goals (refine xq1 16 rfl rfl rfl rfl rfl (by first | refine o1_call (fun _ => r1_Number _ _ _ _ (Rs.up (h.cutv 0 4 (by omega) (by omega)))) rfl (fun _ _ => fz) | refine o1_call (fun _ => r1_Number _ _ _ _ (Rs.up (h.cutv 4 8 (by omega) (by omega)))) rfl (fun _ _ => fz) | refine o1_call (fun _ => r1_Number _ _ _ _ (Rs.up (h.cutv 8 10 (by omega) (by omega)))) rfl (fun _ _ => fz)) ?_)
    all_goals (refine xq1 17 rfl rfl rfl rfl rfl (by first | refine o1_conv_i rfl (by omega) fz | refine o1_conv_ui rfl (by exact bv_small (by decide) _) fz) ?_)
    all_goals (refine xq1 0 rfl rfl rfl rfl rfl (by refine o1_move rfl fz) ?_)
    all_goals (refine xq1 19 rfl rfl rfl rfl rfl (by first | refine o1_ia 10 rfl rfl h rfl rfl (by omega) fz | refine o1_ia 11 rfl rfl h rfl rfl (by omega) fz) ?_)
    all_goals (refine xq1 20 rfl rfl rfl rfl rfl (by first | refine o1_load_ia 10 rfl h (by omega) fz | refine o1_load_ia 11 rfl h (by omega) fz | refine ox_load rfl (by rfl) fz | refine ox_load_enc rfl (by first | omega | (simp; omega)) fz | refine ox_load_any rfl (by assumption) fz) ?_)
    all_goals (refine xq1 21 rfl rfl rfl rfl rfl (by first | refine o1_conv_i rfl (by omega) fz | refine o1_conv_ui rfl (by exact bv_small (by decide) _) fz) ?_)
    all_goals (refine xq1 0 rfl rfl rfl rfl rfl (by refine o1_move rfl fz) ?_)
    all_goals (refine xq1 23 rfl rfl rfl rfl rfl (by first | refine o1_ia 10 rfl rfl h rfl rfl (by omega) fz | refine o1_ia 11 rfl rfl h rfl rfl (by omega) fz) ?_)
    all_goals (refine xq1 24 rfl rfl rfl rfl rfl (by first | refine o1_load_ia 10 rfl h (by omega) fz | refine o1_load_ia 11 rfl h (by omega) fz | refine ox_load rfl (by rfl) fz | refine ox_load_enc rfl (by first | omega | (simp; omega)) fz | refine ox_load_any rfl (by assumption) fz) ?_)
    all_goals (refine xq1 25 rfl rfl rfl rfl rfl (by first | refine o1_conv_i rfl (by omega) fz | refine o1_conv_ui rfl (by exact bv_small (by decide) _) fz) ?_)
    all_goals (refine xq1 0 rfl rfl rfl rfl rfl (by refine o1_move rfl fz) ?_)
    all_goals (refine xq1 27 rfl rfl rfl rfl rfl (by first | refine o1_cv_h rfl rfl h rfl (by omega) (by omega) fz | refine o1_cv_lh rfl rfl rfl h rfl (by omega) (by omega) fz | refine o1_cv_l rfl rfl h rfl (by omega) (by omega) fz) ?_)
    all_goals refine re_nil ?_
    all_goals first | (refine ct_run (E' := [(28, _)]) rfl (gd_r0 rfl) rfl (cov_cons rfl rfl cov_nil) ?_; (first | (refine o1_lit_enc Bs [⟨_, _, l.drop 12⟩] rfl rfl rfl (fun _ => rfl) rfl rfl rfl (fun _ => ?_)) | refine o1_lit_B rfl rfl rfl rfl rfl (fun _ => ?_)))
    all_goals refine wt_ch ?_
    all_goals refine op_nil ?_
    all_goals (refine xq1 0 rfl rfl rfl rfl rfl (by refine o1_move rfl fz) ?_)
    all_goals (refine xq1 9 rfl rfl rfl rfl rfl (by first | refine o1_cv_h rfl rfl h rfl (by omega) (by omega) fz | refine o1_cv_lh rfl rfl rfl h rfl (by omega) (by omega) fz | refine o1_cv_l rfl rfl h rfl (by omega) (by omega) fz) ?_)
    all_goals (refine xq1 10 rfl rfl rfl rfl rfl (by first | refine o1_call (fun _ => r1_Number _ _ _ _ (Rs.up (h.cutv 0 4 (by omega) (by omega)))) rfl (fun _ _ => fz) | refine o1_call (fun _ => r1_Number _ _ _ _ (Rs.up (h.cutv 4 8 (by omega) (by omega)))) rfl (fun _ _ => fz) | refine o1_call (fun _ => r1_Number _ _ _ _ (Rs.up (h.cutv 8 10 (by omega) (by omega)))) rfl (fun _ _ => fz)) ?_)
    all_goals (refine xq1 0 rfl rfl rfl rfl rfl (by refine o1_move rfl fz) ?_)
    all_goals (refine xq1 12 rfl rfl rfl rfl rfl (by first | refine o1_cv_h rfl rfl h rfl (by omega) (by omega) fz | refine o1_cv_lh rfl rfl rfl h rfl (by omega) (by omega) fz | refine o1_cv_l rfl rfl h rfl (by omega) (by omega) fz) ?_)
    all_goals (refine xq1 13 rfl rfl rfl rfl rfl (by first | refine o1_call (fun _ => r1_Number _ _ _ _ (Rs.up (h.cutv 0 4 (by omega) (by omega)))) rfl (fun _ _ => fz) | refine o1_call (fun _ => r1_Number _ _ _ _ (Rs.up (h.cutv 4 8 (by omega) (by omega)))) rfl (fun _ _ => fz) | refine o1_call (fun _ => r1_Number _ _ _ _ (Rs.up (h.cutv 8 10 (by omega) (by omega)))) rfl (fun _ _ => fz)) ?_)
    all_goals (refine xq1 0 rfl rfl rfl rfl rfl (by refine o1_move rfl fz) ?_)
    all_goals (refine xq1 15 rfl rfl rfl rfl rfl (by first | refine o1_cv_h rfl rfl h rfl (by omega) (by omega) fz | refine o1_cv_lh rfl rfl rfl h rfl (by omega) (by omega) fz | refine o1_cv_l rfl rfl h rfl (by omega) (by omega) fz) ?_)
    all_goals (refine xq1 16 rfl rfl rfl rfl rfl (by first | refine o1_call (fun _ => r1_Number _ _ _ _ (Rs.up (h.cutv 0 4 (by omega) (by omega)))) rfl (fun _ _ => fz) | refine o1_call (fun _ => r1_Number _ _ _ _ (Rs.up (h.cutv 4 8 (by omega) (by omega)))) rfl (fun _ _ => fz) | refine o1_call (fun _ => r1_Number _ _ _ _ (Rs.up (h.cutv 8 10 (by omega) (by omega)))) rfl (fun _ _ => fz)) ?_)
    all_goals (refine xq1 17 rfl rfl rfl rfl rfl (by first | refine o1_conv_i rfl (by omega) fz | refine o1_conv_ui rfl (by exact bv_small (by decide) _) fz) ?_)
    all_goals (refine xq1 0 rfl rfl rfl rfl rfl (by refine o1_move rfl fz) ?_)
    all_goals (refine xq1 19 rfl rfl rfl rfl rfl (by first | refine o1_ia 10 rfl rfl h rfl rfl (by omega) fz | refine o1_ia 11 rfl rfl h rfl rfl (by omega) fz) ?_)
    all_goals (refine xq1 20 rfl rfl rfl rfl rfl (by first | refine o1_load_ia 10 rfl h (by omega) fz | refine o1_load_ia 11 rfl h (by omega) fz | refine ox_load rfl (by rfl) fz | refine ox_load_enc rfl (by first | omega | (simp; omega)) fz | refine ox_load_any rfl (by assumption) fz) ?_)
    all_goals (refine xq1 21 rfl rfl rfl rfl rfl (by first | refine o1_conv_i rfl (by omega) fz | refine o1_conv_ui rfl (by exact bv_small (by decide) _) fz) ?_)
    all_goals (refine xq1 0 rfl rfl rfl rfl rfl (by refine o1_move rfl fz) ?_)
    all_goals (refine xq1 23 rfl rfl rfl rfl rfl (by first | refine o1_ia 10 rfl rfl h rfl rfl (by omega) fz | refine o1_ia 11 rfl rfl h rfl rfl (by omega) fz) ?_)
    all_goals (refine xq1 24 rfl rfl rfl rfl rfl (by first | refine o1_load_ia 10 rfl h (by omega) fz | refine o1_load_ia 11 rfl h (by omega) fz | refine ox_load rfl (by rfl) fz | refine ox_load_enc rfl (by first | omega | (simp; omega)) fz | refine ox_load_any rfl (by assumption) fz) ?_)
    all_goals (refine xq1 25 rfl rfl rfl rfl rfl (by first | refine o1_conv_i rfl (by omega) fz | refine o1_conv_ui rfl (by exact bv_small (by decide) _) fz) ?_)
    all_goals refine re_nil ?_
    all_goals first | (refine ct_run (E' := [(29, _)]) rfl (gd_r0 rfl) rfl (cov_cons rfl rfl cov_nil) ?_; (first | (refine o1_call (fun hh => r1_Join _ _ _ [⟨_, _, l.drop 12⟩] (rx_lit rfl rfl hh) (fa_cons (Rs.up (h.cutl 12 (by omega))) fa_nil) (by rw [cat_1]; simp; omega)) rfl (fun ⟨a5, c5⟩ _ => ?_); dsimp only; rw [cat_1])))
    all_goals refine wt_ch ?_
    all_goals (refine op_run (E' := [(11, _), (14, _), (18, _), (22, _), (26, _), (30, _)]) rfl (gd_r0 rfl) rfl (cov_cons rfl rfl (cov_cons rfl rfl (cov_cons rfl rfl (cov_cons rfl rfl (cov_cons rfl rfl (cov_cons rfl rfl cov_nil)))))) (by (first | refine o1_buildx rfl (by simp only [buildL, putL, List.set_cons_zero, List.set_cons_succ, List.getElem?_cons_zero, List.getElem?_cons_succ, Option.getD_some, Value.cells, Nat.zero_add, Nat.reduceAdd]; rfl) (fun _ => by kernel_rfl) ?_); all_goals exact ⟨rfl, fun _ h => h⟩) ?_)
    all_goals refine op_nil ?_
    all_goals (refine xq1 17 rfl rfl rfl rfl rfl (by first | refine o1_conv_i rfl (by omega) fz | refine o1_conv_ui rfl (by exact bv_small (by decide) _) fz) ?_)
    all_goals (refine xq1 0 rfl rfl rfl rfl rfl (by refine o1_move rfl fz) ?_)
    all_goals (refine xq1 19 rfl rfl rfl rfl rfl (by first | refine o1_ia 10 rfl rfl h rfl rfl (by omega) fz | refine o1_ia 11 rfl rfl h rfl rfl (by omega) fz) ?_)
    all_goals (refine xq1 20 rfl rfl rfl rfl rfl (by first | refine o1_load_ia 10 rfl h (by omega) fz | refine o1_load_ia 11 rfl h (by omega) fz | refine ox_load rfl (by rfl) fz | refine ox_load_enc rfl (by first | omega | (simp; omega)) fz | refine ox_load_any rfl (by assumption) fz) ?_)
    all_goals (refine xq1 21 rfl rfl rfl rfl rfl (by first | refine o1_conv_i rfl (by omega) fz | refine o1_conv_ui rfl (by exact bv_small (by decide) _) fz) ?_)
    all_goals (refine xq1 0 rfl rfl rfl rfl rfl (by refine o1_move rfl fz) ?_)
    all_goals (refine xq1 23 rfl rfl rfl rfl rfl (by first | refine o1_ia 10 rfl rfl h rfl rfl (by omega) fz | refine o1_ia 11 rfl rfl h rfl rfl (by omega) fz) ?_)
    all_goals (refine xq1 24 rfl rfl rfl rfl rfl (by first | refine o1_load_ia 10 rfl h (by omega) fz | refine o1_load_ia 11 rfl h (by omega) fz | refine ox_load rfl (by rfl) fz | refine ox_load_enc rfl (by first | omega | (simp; omega)) fz | refine ox_load_any rfl (by assumption) fz) ?_)
    all_goals (refine xq1 25 rfl rfl rfl rfl rfl (by first | refine o1_conv_i rfl (by omega) fz | refine o1_conv_ui rfl (by exact bv_small (by decide) _) fz) ?_)
    all_goals refine re_nil ?_
    all_goals first | (refine ct_run_no (E' := [(4, _), (31, _)]) rfl (gd_r0 rfl) rfl (cov_cons rfl rfl (cov_cons rfl rfl cov_nil)) ?_; (first | refine ox_store_agg rfl rfl (by rfl) (by simp) (by simp [Value.oneCell']) (by simp only [putL, List.set_cons_zero, List.set_cons_succ, Nat.zero_add, Nat.reduceAdd]; rfl) ?_))
    all_goals refine wt_end ?_
    all_goals refine op_nil ?_
    all_goals refine re_nil ?_
  all_goals dsimp only [List.cons_append, List.nil_append]
  all_goals
    repeat' (first | refine ls_of rfl ?_ | refine ls_of_no ?_ | refine ls_guard_yes rfl rfl ?_ | refine ls_guard_no rfl rfl rfl rfl ?_ | refine ls_guard_un rfl rfl rfl ?_ | refine o1_move rfl ?_ | refine o1_assign rfl ?_ | refine st_seq ?_ | refine st_region ?_ | refine st_block ?_ | refine st_skip ?_ | refine st_ret ?_ | refine st_exit ?_ | refine st_cond_t rfl ?_ | refine st_cond_f rfl ?_ | refine st_cond rfl (fun _ => ?_) (fun _ => ?_) | refine ls_nil ?_ | refine nx_seq ?_ | refine nx_blk ?_ | refine nx_fn ?_ | refine nx_rounds ?_ | refine xt_seq ?_ | refine xt_here ?_ | refine xt_on rfl ?_ | refine xt_rounds ?_ | refine xt_cut ?_ | refine rt_seq ?_ | refine rt_blk ?_ | refine rt_rounds ?_ | refine rt_cut ?_ | refine o1_call (fun _ => (r7_MayManifest _ ⟨num32 ((l.take 4).drop 0), num32 ((l.take 8).drop 4), ((num32 ((l.take 10).drop 8)).toNat : Int), (l[10].toNat : Int), (l[11].toNat : Int), ⟨a5, c5, l.drop 12⟩⟩).bv (b := true) (by rw [← k10, ← k11]; exact hm)) rfl (fun _ _ => ?_) | refine ox_load rfl (by rfl) ?_ | refine ox_load_enc rfl (by first | omega | (simp; omega)) ?_ | refine ox_load_any rfl (by assumption) ?_ | refine o1_len rfl ?_ | refine o1_neq_t rfl rfl (by omega) ?_ | refine o1_neq_f rfl rfl (by omega) ?_ | refine o1_neq rfl rfl (fun _ => ?_) (fun _ => ?_) | refine o1_bnot rfl ?_ | refine o1_unot rfl ?_ | refine o1_conv_i rfl (by omega) ?_ | refine o1_conv_ui rfl (by exact bv_small (by decide) _) ?_ | refine o1_lit_B rfl rfl rfl rfl rfl (fun _ => ?_) | refine o1_buildx rfl (by simp only [buildL, putL, List.set_cons_zero, List.set_cons_succ, List.getElem?_cons_zero, List.getElem?_cons_succ, Option.getD_some, Value.cells, Nat.zero_add, Nat.reduceAdd]; rfl) (fun _ => by kernel_rfl) ?_ | refine o1_alloc rfl (fun _ => ?_) | refine ox_store_agg rfl rfl (by rfl) (by simp) (by simp [Value.oneCell']) (by simp only [putL, List.set_cons_zero, List.set_cons_succ, Nat.zero_add, Nat.reduceAdd]; rfl) ?_ | refine ox_load_agg rfl (by simp only [Nat.zero_add, Nat.reduceAdd, List.drop_zero, List.drop_succ_cons, List.take_succ_cons, List.take_zero]; rfl) (by rfl) ?_)
    refine rt_cell_tmp (a5, c5) rfl rfl rfl rfl (by simp only [manO, k10, k11]; rfl) trivial ?_
    (try dsimp only [List.cons_append, List.nil_append, List.singleton_append, List.append_nil]); (repeat (first | exact Ent.nil | exact Ent.refl _ | (apply Ent.cons; (repeat (first | exact Sel.here | apply Sel.there)))))
set_option maxHeartbeats 4000000 in
theorem r7_Read_no (H : List Hl) (ad : Option Addr) (c : Nat) (l : List (BitVec 8)) (h : Rs (stars H) B ad c l) (hl : l.length = 44) (hm : (manO l (none, 0)).may = false) :
    Spec Try.prog 34 [.slice ad l.length c] H (fun _ : Unit => True) (fun r => .tuple #[zM.V, I 3]) (fun r => H) := by
  refine spec_pure (res := fun _ : Unit => []) H Try.func34 rfl Try.ntmps34 (by kernel_rfl) rfl (fun W => ?_)
  repeat' (first | refine ls_of rfl ?_ | refine ls_of_no ?_ | refine ls_guard_yes rfl rfl ?_ | refine ls_guard_no rfl rfl rfl rfl ?_ | refine ls_guard_un rfl rfl rfl ?_ | refine o1_move rfl ?_ | refine o1_assign rfl ?_ | refine st_seq ?_ | refine st_region ?_ | refine st_block ?_ | refine st_skip ?_ | refine st_ret ?_ | refine st_exit ?_ | refine st_cond_t rfl ?_ | refine st_cond_f rfl ?_ | refine st_cond rfl (fun _ => ?_) (fun _ => ?_) | refine ls_nil ?_ | refine nx_seq ?_ | refine nx_blk ?_ | refine nx_fn ?_ | refine nx_rounds ?_ | refine xt_seq ?_ | refine xt_here ?_ | refine xt_on rfl ?_ | refine xt_rounds ?_ | refine xt_cut ?_ | refine rt_seq ?_ | refine rt_blk ?_ | refine rt_rounds ?_ | refine rt_cut ?_ | refine ox_load rfl (by rfl) ?_ | refine ox_load_enc rfl (by first | omega | (simp; omega)) ?_ | refine ox_load_any rfl (by assumption) ?_ | refine o1_len rfl ?_ | refine o1_neq_t rfl rfl (by omega) ?_ | refine o1_neq_f rfl rfl (by omega) ?_ | refine o1_neq rfl rfl (fun _ => ?_) (fun _ => ?_) | refine o1_bnot rfl ?_ | refine o1_unot rfl ?_ | refine o1_conv_i rfl (by omega) ?_ | refine o1_conv_ui rfl (by exact bv_small (by decide) _) ?_ | refine o1_lit_B rfl rfl rfl rfl rfl (fun _ => ?_) | refine o1_buildx rfl (by simp only [buildL, putL, List.set_cons_zero, List.set_cons_succ, List.getElem?_cons_zero, List.getElem?_cons_succ, Option.getD_some, Value.cells, Nat.zero_add, Nat.reduceAdd]; rfl) (fun _ => by kernel_rfl) ?_ | refine o1_alloc rfl (fun _ => ?_) | refine ox_store_agg rfl rfl (by rfl) (by simp) (by simp [Value.oneCell']) (by simp only [putL, List.set_cons_zero, List.set_cons_succ, Nat.zero_add, Nat.reduceAdd]; rfl) ?_ | refine ox_load_agg rfl (by simp only [Nat.zero_add, Nat.reduceAdd, List.drop_zero, List.drop_succ_cons, List.take_succ_cons, List.take_zero]; rfl) (by rfl) ?_)
  have k10 : l.getD 10 0#8 = l[10] := getD_at (by omega)
  have k11 : l.getD 11 0#8 = l[11] := getD_at (by omega)
  refine st_tree [(0, _)] rtG3_2 [20, 21, 23, 24] (.alt [0, 1, 2, 3, 4, 5, 6, 7, 8, 9, 10, 11, 12, 13, 14, 15, 16, 17, 18, 19] [] 20 (.alt [] [0, 1, 2, 3, 4, 5, 6, 7, 8, 9, 10, 11, 12, 13, 14, 15, 16, 17] 21 (.step [22] [9, 10, 11, 12, 13, 14, 15, 16, 17] 23 (.step [] [9, 10, 11, 12, 13, 14, 15, 16, 17, 22] 24 (.fin [] []))) 23 (.step [] [0, 1, 2, 3, 4, 5, 6, 7, 8, 9, 10, 11, 12, 13, 14, 15, 16, 17] 21 (.step [22] [9, 10, 11, 12, 13, 14, 15, 16, 17] 24 (.fin [] [])))) 23 (.step [] [0, 1, 2, 3, 4, 5, 6, 7, 8, 9, 10, 11, 12, 13, 14, 15, 16, 17, 18, 19] 20 (.step [] [0, 1, 2, 3, 4, 5, 6, 7, 8, 9, 10, 11, 12, 13, 14, 15, 16, 17] 21 (.step [22] [9, 10, 11, 12, 13, 14, 15, 16, 17] 24 (.fin [] []))))) mixed (cov_cons rfl rfl cov_nil) (by kernel_rfl) (by kernel_rfl) ?_
  all_goals refine wt_alt ?_
  all_goals (refine xp1 0 rfl rfl rfl rfl (by refine o1_move rfl fz) ?_)
  all_goals (refine xp1 9 rfl rfl rfl rfl (by first | refine o1_cv_h rfl rfl h rfl (by omega) (by omega) fz | refine o1_cv_lh rfl rfl rfl h rfl (by omega) (by omega) fz | refine o1_cv_l rfl rfl h rfl (by omega) (by omega) fz) ?_)
  all_goals (refine xp1 10 rfl rfl rfl rfl (by first | refine o1_call (fun _ => r1_Number _ _ _ _ (Rs.up (h.cutv 0 4 (by omega) (by omega)))) rfl (fun _ _ => fz) | refine o1_call (fun _ => r1_Number _ _ _ _ (Rs.up (h.cutv 4 8 (by omega) (by omega)))) rfl (fun _ _ => fz) | refine o1_call (fun _ => r1_Number _ _ _ _ (Rs.up (h.cutv 8 10 (by omega) (by omega)))) rfl (fun _ _ => fz)) ?_)
  all_goals (refine xp1 0 rfl rfl rfl rfl (by refine o1_move rfl fz) ?_)
  all_goals (refine xp1 12 rfl rfl rfl rfl (by first | refine o1_cv_h rfl rfl h rfl (by omega) (by omega) fz | refine o1_cv_lh rfl rfl rfl h rfl (by omega) (by omega) fz | refine o1_cv_l rfl rfl h rfl (by omega) (by omega) fz) ?_)
  all_goals (refine xp1 13 rfl rfl rfl rfl (by first | refine o1_call (fun _ => r1_Number _ _ _ _ (Rs.up (h.cutv 0 4 (by omega) (by omega)))) rfl (fun _ _ => fz) | refine o1_call (fun _ => r1_Number _ _ _ _ (Rs.up (h.cutv 4 8 (by omega) (by omega)))) rfl (fun _ _ => fz) | refine o1_call (fun _ => r1_Number _ _ _ _ (Rs.up (h.cutv 8 10 (by omega) (by omega)))) rfl (fun _ _ => fz)) ?_)
  all_goals (refine xp1 0 rfl rfl rfl rfl (by refine o1_move rfl fz) ?_)
  all_goals (refine xp1 15 rfl rfl rfl rfl (by first | refine o1_cv_h rfl rfl h rfl (by omega) (by omega) fz | refine o1_cv_lh rfl rfl rfl h rfl (by omega) (by omega) fz | refine o1_cv_l rfl rfl h rfl (by omega) (by omega) fz) ?_)
  all_goals (refine xp1 16 rfl rfl rfl rfl (by first | refine o1_call (fun _ => r1_Number _ _ _ _ (Rs.up (h.cutv 0 4 (by omega) (by omega)))) rfl (fun _ _ => fz) | refine o1_call (fun _ => r1_Number _ _ _ _ (Rs.up (h.cutv 4 8 (by omega) (by omega)))) rfl (fun _ _ => fz) | refine o1_call (fun _ => r1_Number _ _ _ _ (Rs.up (h.cutv 8 10 (by omega) (by omega)))) rfl (fun _ _ => fz)) ?_)
  all_goals (refine xp1 17 rfl rfl rfl rfl (by first | refine o1_conv_i rfl (by omega) fz | refine o1_conv_ui rfl (by exact bv_small (by decide) _) fz) ?_)
  all_goals (refine xp1 0 rfl rfl rfl rfl (by refine o1_move rfl fz) ?_)
  all_goals (refine xp1 19 rfl rfl rfl rfl (by first | refine o1_ia 10 rfl rfl h rfl rfl (by omega) fz | refine o1_ia 11 rfl rfl h rfl rfl (by omega) fz) ?_)
  all_goals (refine xp1 20 rfl rfl rfl rfl (by first | refine o1_load_ia 10 rfl h (by omega) fz | refine o1_load_ia 11 rfl h (by omega) fz | refine ox_load rfl (by rfl) fz | refine ox_load_enc rfl (by first | omega | (simp; omega)) fz | refine ox_load_any rfl (by assumption) fz) ?_)
  all_goals (refine xp1 21 rfl rfl rfl rfl (by first | refine o1_conv_i rfl (by omega) fz | refine o1_conv_ui rfl (by exact bv_small (by decide) _) fz) ?_)
  all_goals (refine xp1 0 rfl rfl rfl rfl (by refine o1_move rfl fz) ?_)
  all_goals (refine xp1 23 rfl rfl rfl rfl (by first | refine o1_ia 10 rfl rfl h rfl rfl (by omega) fz | refine o1_ia 11 rfl rfl h rfl rfl (by omega) fz) ?_)
  all_goals (refine xp1 24 rfl rfl rfl rfl (by first | refine o1_load_ia 10 rfl h (by omega) fz | refine o1_load_ia 11 rfl h (by omega) fz | refine ox_load rfl (by rfl) fz | refine ox_load_enc rfl (by first | omega | (simp; omega)) fz | refine ox_load_any rfl (by assumption) fz) ?_)
  all_goals (refine xp1 25 rfl rfl rfl rfl (by first | refine o1_conv_i rfl (by omega) fz | refine o1_conv_ui rfl (by exact bv_small (by decide) _) fz) ?_)
  all_goals (refine xp1 0 rfl rfl rfl rfl (by refine o1_move rfl fz) ?_)
  all_goals (refine xp1 27 rfl rfl rfl rfl (by first | refine o1_cv_h rfl rfl h rfl (by omega) (by omega) fz | refine o1_cv_lh rfl rfl rfl h rfl (by omega) (by omega) fz | refine o1_cv_l rfl rfl h rfl (by omega) (by omega) fz) ?_)
  all_goals refine op_nil ?_
  all_goals refine re_nil ?_
  refine ⟨?al3_1A, ?al3_1B⟩
  case' al3_1A =>
    all_goals first | (refine ct_run (E' := [(28, _)]) rfl (gd_r0 rfl) rfl (cov_cons rfl rfl cov_nil) ?_; (first | (refine o1_lit_enc Bs [⟨_, _, l.drop 12⟩] rfl rfl rfl (fun _ => rfl) rfl rfl rfl (fun _ => ?_)) | refine o1_lit_B rfl rfl rfl rfl rfl (fun _ => ?_)))
    all_goals refine wt_alt ?_
    all_goals refine op_nil ?_
    all_goals (refine xq1 0 rfl rfl rfl rfl rfl (by refine o1_move rfl fz) ?_)
    all_goals (refine xq1 9 rfl rfl rfl rfl rfl (by first | refine o1_cv_h rfl rfl h rfl (by omega) (by omega) fz | refine o1_cv_lh rfl rfl rfl h rfl (by omega) (by omega) fz | refine o1_cv_l rfl rfl h rfl (by omega) (by omega) fz) ?_)
    all_goals (refine xq1 10 rfl rfl rfl rfl rfl (by first | refine o1_call (fun _ => r1_Number _ _ _ _ (Rs.up (h.cutv 0 4 (by omega) (by omega)))) rfl (fun _ _ => fz) | refine o1_call (fun _ => r1_Number _ _ _ _ (Rs.up (h.cutv 4 8 (by omega) (by omega)))) rfl (fun _ _ => fz) | refine o1_call (fun _ => r1_Number _ _ _ _ (Rs.up (h.cutv 8 10 (by omega) (by omega)))) rfl (fun _ _ => fz)) ?_)
    all_goals (refine xq1 0 rfl rfl rfl rfl rfl (by refine o1_move rfl fz) ?_)
    all_goals (refine xq1 12 rfl rfl rfl rfl rfl (by first | refine o1_cv_h rfl rfl h rfl (by omega) (by omega) fz | refine o1_cv_lh rfl rfl rfl h rfl (by omega) (by omega) fz | refine o1_cv_l rfl rfl h rfl (by omega) (by omega) fz) ?_)
    all_goals (refine xq1 13 rfl rfl rfl rfl rfl (by first | refine o1_call (fun _ => r1_Number _ _ _ _ (Rs.up (h.cutv 0 4 (by omega) (by omega)))) rfl (fun _ _ => fz) | refine o1_call (fun _ => r1_Number _ _ _ _ (Rs.up (h.cutv 4 8 (by omega) (by omega)))) rfl (fun _ _ => fz) | refine o1_call (fun _ => r1_Number _ _ _ _ (Rs.up (h.cutv 8 10 (by omega) (by omega)))) rfl (fun _ _ => fz)) ?_)
    all_goals (refine xq1 0 rfl rfl rfl rfl rfl (by refine o1_move rfl fz) ?_)
    all_goals (refine xq1 15 rfl rfl rfl rfl rfl (by first | refine o1_cv_h rfl rfl h rfl (by omega) (by omega) fz | refine o1_cv_lh rfl rfl rfl h rfl (by omega) (by omega) fz | refine o1_cv_l rfl rfl h rfl (by omega) (by omega) fz) ?_)
    all_goals (refine xq1 16 rfl rfl rfl rfl rfl (by first | refine o1_call (fun _ => r1_Number _ _ _ _ (Rs.up (h.cutv 0 4 (by omega) (by omega)))) rfl (fun _ _ => fz) | refine o1_call (fun _ => r1_Number _ _ _ _ (Rs.up (h.cutv 4 8 (by omega) (by omega)))) rfl (fun _ _ => fz) | refine o1_call (fun _ => r1_Number _ _ _ _ (Rs.up (h.cutv 8 10 (by omega) (by omega)))) rfl (fun _ _ => fz)) ?_)
    all_goals (refine xq1 17 rfl rfl rfl rfl rfl (by first | refine o1_conv_i rfl (by omega) fz | refine o1_conv_ui rfl (by exact bv_small (by decide) _) fz) ?_)
    all_goals (refine xq1 0 rfl rfl rfl rfl rfl (by refine o1_move rfl fz) ?_)
    all_goals (refine xq1 19 rfl rfl rfl rfl rfl (by first | refine o1_ia 10 rfl rfl h rfl rfl (by omega) fz | refine o1_ia 11 rfl rfl h rfl rfl (by omega) fz) ?_)
    all_goals (refine xq1 20 rfl rfl rfl rfl rfl (by first | refine o1_load_ia 10 rfl h (by omega) fz | refine o1_load_ia 11 rfl h (by omega) fz | refine ox_load rfl (by rfl) fz | refine ox_load_enc rfl (by first | omega | (simp; omega)) fz | refine ox_load_any rfl (by assumption) fz) ?_)
    all_goals (refine xq1 21 rfl rfl rfl rfl rfl (by first | refine o1_conv_i rfl (by omega) fz | refine o1_conv_ui rfl (by exact bv_small (by decide) _) fz) ?_)
    all_goals (refine xq1 0 rfl rfl rfl rfl rfl (by refine o1_move rfl fz) ?_)
    all_goals (refine xq1 23 rfl rfl rfl rfl rfl (by first | refine o1_ia 10 rfl rfl h rfl rfl (by omega) fz | refine o1_ia 11 rfl rfl h rfl rfl (by omega) fz) ?_)
    all_goals (refine xq1 24 rfl rfl rfl rfl rfl (by first | refine o1_load_ia 10 rfl h (by omega) fz | refine o1_load_ia 11 rfl h (by omega) fz | refine ox_load rfl (by rfl) fz | refine ox_load_enc rfl (by first | omega | (simp; omega)) fz | refine ox_load_any rfl (by assumption) fz) ?_)
    all_goals (refine xq1 25 rfl rfl rfl rfl rfl (by first | refine o1_conv_i rfl (by omega) fz | refine o1_conv_ui rfl (by exact bv_small (by decide) _) fz) ?_)
    all_goals refine re_nil ?_
    refine ⟨?al3_2A, ?al3_2B⟩
    case' al3_2A =>
      all_goals first | (refine ct_run (E' := [(29, _)]) rfl (gd_r0 rfl) rfl (cov_cons rfl rfl cov_nil) ?_; (first | (refine o1_call (fun hh => r1_Join _ _ _ [⟨_, _, l.drop 12⟩] (rx_lit rfl rfl hh) (fa_cons (Rs.up (h.cutl 12 (by omega))) fa_nil) (by rw [cat_1]; simp; omega)) rfl (fun ⟨a5, c5⟩ _ => ?_); dsimp only; rw [cat_1])))
      all_goals refine wt_ch ?_
      all_goals (refine op_run (E' := [(11, _), (14, _), (18, _), (22, _), (26, _), (30, _)]) rfl (gd_r0 rfl) rfl (cov_cons rfl rfl (cov_cons rfl rfl (cov_cons rfl rfl (cov_cons rfl rfl (cov_cons rfl rfl (cov_cons rfl rfl cov_nil)))))) (by (first | refine o1_buildx rfl (by simp only [buildL, putL, List.set_cons_zero, List.set_cons_succ, List.getElem?_cons_zero, List.getElem?_cons_succ, Option.getD_some, Value.cells, Nat.zero_add, Nat.reduceAdd]; rfl) (fun _ => by kernel_rfl) ?_); all_goals exact ⟨rfl, fun _ h => h⟩) ?_)
      all_goals refine op_nil ?_
      all_goals (refine xq1 17 rfl rfl rfl rfl rfl (by first | refine o1_conv_i rfl (by omega) fz | refine o1_conv_ui rfl (by exact bv_small (by decide) _) fz) ?_)
      all_goals (refine xq1 0 rfl rfl rfl rfl rfl (by refine o1_move rfl fz) ?_)
      all_goals (refine xq1 19 rfl rfl rfl rfl rfl (by first | refine o1_ia 10 rfl rfl h rfl rfl (by omega) fz | refine o1_ia 11 rfl rfl h rfl rfl (by omega) fz) ?_)
      all_goals (refine xq1 20 rfl rfl rfl rfl rfl (by first | refine o1_load_ia 10 rfl h (by omega) fz | refine o1_load_ia 11 rfl h (by omega) fz | refine ox_load rfl (by rfl) fz | refine ox_load_enc rfl (by first | omega | (simp; omega)) fz | refine ox_load_any rfl (by assumption) fz) ?_)
      all_goals (refine xq1 21 rfl rfl rfl rfl rfl (by first | refine o1_conv_i rfl (by omega) fz | refine o1_conv_ui rfl (by exact bv_small (by decide) _) fz) ?_)
      all_goals (refine xq1 0 rfl rfl rfl rfl rfl (by refine o1_move rfl fz) ?_)
      all_goals (refine xq1 23 rfl rfl rfl rfl rfl (by first | refine o1_ia 10 rfl rfl h rfl rfl (by omega) fz | refine o1_ia 11 rfl rfl h rfl rfl (by omega) fz) ?_)
      all_goals (refine xq1 24 rfl rfl rfl rfl rfl (by first | refine o1_load_ia 10 rfl h (by omega) fz | refine o1_load_ia 11 rfl h (by omega) fz | refine ox_load rfl (by rfl) fz | refine ox_load_enc rfl (by first | omega | (simp; omega)) fz | refine ox_load_any rfl (by assumption) fz) ?_)
      all_goals (refine xq1 25 rfl rfl rfl rfl rfl (by first | refine o1_conv_i rfl (by omega) fz | refine o1_conv_ui rfl (by exact bv_small (by decide) _) fz) ?_)
      all_goals refine re_nil ?_
      all_goals first | (refine ct_run (E' := []) rfl (gd_r0 rfl) rfl cov_nil ?_; (first | refine o1_alloc rfl (fun _ => ?_)))
      all_goals refine wt_ch ?_
      all_goals refine op_nil ?_
      all_goals (refine xq1 17 rfl rfl rfl rfl rfl (by first | refine o1_conv_i rfl (by omega) fz | refine o1_conv_ui rfl (by exact bv_small (by decide) _) fz) ?_)
      all_goals (refine xq1 0 rfl rfl rfl rfl rfl (by refine o1_move rfl fz) ?_)
      all_goals (refine xq1 19 rfl rfl rfl rfl rfl (by first | refine o1_ia 10 rfl rfl h rfl rfl (by omega) fz | refine o1_ia 11 rfl rfl h rfl rfl (by omega) fz) ?_)
      all_goals (refine xq1 20 rfl rfl rfl rfl rfl (by first | refine o1_load_ia 10 rfl h (by omega) fz | refine o1_load_ia 11 rfl h (by omega) fz | refine ox_load rfl (by rfl) fz | refine ox_load_enc rfl (by first | omega | (simp; omega)) fz | refine ox_load_any rfl (by assumption) fz) ?_)
      all_goals (refine xq1 21 rfl rfl rfl rfl rfl (by first | refine o1_conv_i rfl (by omega) fz | refine o1_conv_ui rfl (by exact bv_small (by decide) _) fz) ?_)
      all_goals (refine xq1 0 rfl rfl rfl rfl rfl (by refine o1_move rfl fz) ?_)
      all_goals (refine xq1 23 rfl rfl rfl rfl rfl (by first | refine o1_ia 10 rfl rfl h rfl rfl (by omega) fz | refine o1_ia 11 rfl rfl h rfl rfl (by omega) fz) ?_)
      all_goals (refine xq1 24 rfl rfl rfl rfl rfl (by first | refine o1_load_ia 10 rfl h (by omega) fz | refine o1_load_ia 11 rfl h (by omega) fz | refine ox_load rfl (by rfl) fz | refine ox_load_enc rfl (by first | omega | (simp; omega)) fz | refine ox_load_any rfl (by assumption) fz) ?_)
      all_goals (refine xq1 25 rfl rfl rfl rfl rfl (by first | refine o1_conv_i rfl (by omega) fz | refine o1_conv_ui rfl (by exact bv_small (by decide) _) fz) ?_)
      all_goals (refine re_run (E' := [(11, _), (14, _), (18, _), (22, _), (26, _), (30, _)]) rfl rfl (gd_r0 rfl) rfl (cov_cons rfl rfl (cov_cons rfl rfl (cov_cons rfl rfl (cov_cons rfl rfl (cov_cons rfl rfl (cov_cons rfl rfl cov_nil)))))) (by (first | refine o1_buildx rfl (by simp only [buildL, putL, List.set_cons_zero, List.set_cons_succ, List.getElem?_cons_zero, List.getElem?_cons_succ, Option.getD_some, Value.cells, Nat.zero_add, Nat.reduceAdd]; rfl) (fun _ => by kernel_rfl) ?_); all_goals exact ⟨rfl, fun _ h => h⟩) ?_)
      all_goals refine re_nil ?_
      all_goals first | (refine ct_run_no (E' := [(4, _), (31, _)]) rfl (gd_r0 rfl) rfl (cov_cons rfl rfl (cov_cons rfl rfl cov_nil)) ?_; (first | refine ox_store_agg rfl rfl (by rfl) (by simp) (by simp [Value.oneCell']) (by simp only [putL, List.set_cons_zero, List.set_cons_succ, Nat.zero_add, Nat.reduceAdd]; rfl) ?_))
      all_goals refine wt_end ?_
      all_goals refine op_nil ?_
      all_goals refine re_nil ?_
    case' al3_2B =>
      all_goals first | (refine ct_run (E' := []) rfl (gd_r0 rfl) rfl cov_nil ?_; (first | refine o1_alloc rfl (fun _ => ?_)))
      all_goals refine wt_ch ?_
      all_goals refine op_nil ?_
      all_goals (refine xq1 0 rfl rfl rfl rfl rfl (by refine o1_move rfl fz) ?_)
      all_goals (refine xq1 9 rfl rfl rfl rfl rfl (by first | refine o1_cv_h rfl rfl h rfl (by omega) (by omega) fz | refine o1_cv_lh rfl rfl rfl h rfl (by omega) (by omega) fz | refine o1_cv_l rfl rfl h rfl (by omega) (by omega) fz) ?_)
      all_goals (refine xq1 10 rfl rfl rfl rfl rfl (by first | refine o1_call (fun _ => r1_Number _ _ _ _ (Rs.up (h.cutv 0 4 (by omega) (by omega)))) rfl (fun _ _ => fz) | refine o1_call (fun _ => r1_Number _ _ _ _ (Rs.up (h.cutv 4 8 (by omega) (by omega)))) rfl (fun _ _ => fz) | refine o1_call (fun _ => r1_Number _ _ _ _ (Rs.up (h.cutv 8 10 (by omega) (by omega)))) rfl (fun _ _ => fz)) ?_)
      all_goals (refine xq1 0 rfl rfl rfl rfl rfl (by refine o1_move rfl fz) ?_)
      all_goals (refine xq1 12 rfl rfl rfl rfl rfl (by first | refine o1_cv_h rfl rfl h rfl (by omega) (by omega) fz | refine o1_cv_lh rfl rfl rfl h rfl (by omega) (by omega) fz | refine o1_cv_l rfl rfl h rfl (by omega) (by omega) fz) ?_)
      all_goals (refine xq1 13 rfl rfl rfl rfl rfl (by first | refine o1_call (fun _ => r1_Number _ _ _ _ (Rs.up (h.cutv 0 4 (by omega) (by omega)))) rfl (fun _ _ => fz) | refine o1_call (fun _ => r1_Number _ _ _ _ (Rs.up (h.cutv 4 8 (by omega) (by omega)))) rfl (fun _ _ => fz) | refine o1_call (fun _ => r1_Number _ _ _ _ (Rs.up (h.cutv 8 10 (by omega) (by omega)))) rfl (fun _ _ => fz)) ?_)
      all_goals (refine xq1 0 rfl rfl rfl rfl rfl (by refine o1_move rfl fz) ?_)
      all_goals (refine xq1 15 rfl rfl rfl rfl rfl (by first | refine o1_cv_h rfl rfl h rfl (by omega) (by omega) fz | refine o1_cv_lh rfl rfl rfl h rfl (by omega) (by omega) fz | refine o1_cv_l rfl rfl h rfl (by omega) (by omega) fz) ?_)
      all_goals (refine xq1 16 rfl rfl rfl rfl rfl (by first | refine o1_call (fun _ => r1_Number _ _ _ _ (Rs.up (h.cutv 0 4 (by omega) (by omega)))) rfl (fun _ _ => fz) | refine o1_call (fun _ => r1_Number _ _ _ _ (Rs.up (h.cutv 4 8 (by omega) (by omega)))) rfl (fun _ _ => fz) | refine o1_call (fun _ => r1_Number _ _ _ _ (Rs.up (h.cutv 8 10 (by omega) (by omega)))) rfl (fun _ _ => fz)) ?_)
      all_goals (refine xq1 17 rfl rfl rfl rfl rfl (by first | refine o1_conv_i rfl (by omega) fz | refine o1_conv_ui rfl (by exact bv_small (by decide) _) fz) ?_)
      all_goals (refine xq1 0 rfl rfl rfl rfl rfl (by refine o1_move rfl fz) ?_)
      all_goals (refine xq1 19 rfl rfl rfl rfl rfl (by first | refine o1_ia 10 rfl rfl h rfl rfl (by omega) fz | refine o1_ia 11 rfl rfl h rfl rfl (by omega) fz) ?_)
      all_goals (refine xq1 20 rfl rfl rfl rfl rfl (by first | refine o1_load_ia 10 rfl h (by omega) fz | refine o1_load_ia 11 rfl h (by omega) fz | refine ox_load rfl (by rfl) fz | refine ox_load_enc rfl (by first | omega | (simp; omega)) fz | refine ox_load_any rfl (by assumption) fz) ?_)
      all_goals (refine xq1 21 rfl rfl rfl rfl rfl (by first | refine o1_conv_i rfl (by omega) fz | refine o1_conv_ui rfl (by exact bv_small (by decide) _) fz) ?_)
      all_goals (refine xq1 0 rfl rfl rfl rfl rfl (by refine o1_move rfl fz) ?_)
      all_goals (refine xq1 23 rfl rfl rfl rfl rfl (by first | refine o1_ia 10 rfl rfl h rfl rfl (by omega) fz | refine o1_ia 11 rfl rfl h rfl rfl (by omega) fz) ?_)
      all_goals (refine xq1 24 rfl rfl rfl rfl rfl (by first | refine o1_load_ia 10 rfl h (by omega) fz | refine o1_load_ia 11 rfl h (by omega) fz | refine ox_load rfl (by rfl) fz | refine ox_load_enc rfl (by first | omega | (simp; omega)) fz | refine ox_load_any rfl (by assumption) fz) ?_)
      all_goals (refine xq1 25 rfl rfl rfl rfl rfl (by first | refine o1_conv_i rfl (by omega) fz | refine o1_conv_ui rfl (by exact bv_small (by decide) _) fz) ?_)
      all_goals refine re_nil ?_
      all_goals first | (refine ct_run (E' := [(29, _)]) rfl (gd_r0 rfl) rfl (cov_cons rfl rfl cov_nil) ?_; (first | (refine o1_call (fun hh => r1_Join _ _ _ [⟨_, _, l.drop 12⟩] (rx_lit rfl rfl hh) (fa_cons (Rs.up (h.cutl 12 (by omega))) fa_nil) (by rw [cat_1]; simp; omega)) rfl (fun ⟨a5, c5⟩ _ => ?_); dsimp only; rw [cat_1])))
      all_goals refine wt_ch ?_
      all_goals (refine op_run (E' := [(11, _), (14, _), (18, _), (22, _), (26, _), (30, _)]) rfl (gd_r0 rfl) rfl (cov_cons rfl rfl (cov_cons rfl rfl (cov_cons rfl rfl (cov_cons rfl rfl (cov_cons rfl rfl (cov_cons rfl rfl cov_nil)))))) (by (first | refine o1_buildx rfl (by simp only [buildL, putL, List.set_cons_zero, List.set_cons_succ, List.getElem?_cons_zero, List.getElem?_cons_succ, Option.getD_some, Value.cells, Nat.zero_add, Nat.reduceAdd]; rfl) (fun _ => by kernel_rfl) ?_); all_goals exact ⟨rfl, fun _ h => h⟩) ?_)
      all_goals refine op_nil ?_
      all_goals (refine xq1 17 rfl rfl rfl rfl rfl (by first | refine o1_conv_i rfl (by omega) fz | refine o1_conv_ui rfl (by exact bv_small (by decide) _) fz) ?_)
      all_goals (refine xq1 0 rfl rfl rfl rfl rfl (by refine o1_move rfl fz) ?_)
      all_goals (refine xq1 19 rfl rfl rfl rfl rfl (by first | refine o1_ia 10 rfl rfl h rfl rfl (by omega) fz | refine o1_ia 11 rfl rfl h rfl rfl (by omega) fz) ?_)
      all_goals (refine xq1 20 rfl rfl rfl rfl rfl (by first | refine o1_load_ia 10 rfl h (by omega) fz | refine o1_load_ia 11 rfl h (by omega) fz | refine ox_load rfl (by rfl) fz | refine ox_load_enc rfl (by first | omega | (simp; omega)) fz | refine ox_load_any rfl (by assumption) fz) ?_)
      all_goals (refine xq1 21 rfl rfl rfl rfl rfl (by first | refine o1_conv_i rfl (by omega) fz | refine o1_conv_ui rfl (by exact bv_small (by decide) _) fz) ?_)
      all_goals (refine xq1 0 rfl rfl rfl rfl rfl (by refine o1_move rfl fz) ?_)
      all_goals (refine xq1 23 rfl rfl rfl rfl rfl (by first | refine o1_ia 10 rfl rfl h rfl rfl (by omega) fz | refine o1_ia 11 rfl rfl h rfl rfl (by omega) fz) ?_)
      all_goals (refine xq1 24 rfl rfl rfl rfl rfl (by first | refine o1_load_ia 10 rfl h (by omega) fz | refine o1_load_ia 11 rfl h (by omega) fz | refine ox_load rfl (by rfl) fz | refine ox_load_enc rfl (by first | omega | (simp; omega)) fz | refine ox_load_any rfl (by assumption) fz) ?_)
      all_goals (refine xq1 25 rfl rfl rfl rfl rfl (by first | refine o1_conv_i rfl (by omega) fz | refine o1_conv_ui rfl (by exact bv_small (by decide) _) fz) ?_)
      all_goals refine re_nil ?_
      all_goals first | (refine ct_run_no (E' := [(4, _), (31, _)]) rfl (gd_r0 rfl) rfl (cov_cons rfl rfl (cov_cons rfl rfl cov_nil)) ?_; (first | refine ox_store_agg rfl rfl (by rfl) (by simp) (by simp [Value.oneCell']) (by simp only [putL, List.set_cons_zero, List.set_cons_succ, Nat.zero_add, Nat.reduceAdd]; rfl) ?_))
      all_goals refine wt_end ?_
      all_goals refine op_nil ?_
      all_goals refine re_nil ?_
  case' al3_1B =>
    all_goals first | (refine ct_run (E' := []) rfl (gd_r0 rfl) rfl cov_nil ?_; (first | refine o1_alloc rfl (fun _ => ?_)))
    all_goals refine wt_ch ?_
    all_goals refine op_nil ?_
    all_goals (refine xq1 0 rfl rfl rfl rfl rfl (by refine o1_move rfl fz) ?_)
    all_goals (refine xq1 9 rfl rfl rfl rfl rfl (by first | refine o1_cv_h rfl rfl h rfl (by omega) (by omega) fz | refine o1_cv_lh rfl rfl rfl h rfl (by omega) (by omega) fz | refine o1_cv_l rfl rfl h rfl (by omega) (by omega) fz) ?_)
    all_goals (refine xq1 10 rfl rfl rfl rfl rfl (by first | refine o1_call (fun _ => r1_Number _ _ _ _ (Rs.up (h.cutv 0 4 (by omega) (by omega)))) rfl (fun _ _ => fz) | refine o1_call (fun _ => r1_Number _ _ _ _ (Rs.up (h.cutv 4 8 (by omega) (by omega)))) rfl (fun _ _ => fz) | refine o1_call (fun _ => r1_Number _ _ _ _ (Rs.up (h.cutv 8 10 (by omega) (by omega)))) rfl (fun _ _ => fz)) ?_)
    all_goals (refine xq1 0 rfl rfl rfl rfl rfl (by refine o1_move rfl fz) ?_)
    all_goals (refine xq1 12 rfl rfl rfl rfl rfl (by first | refine o1_cv_h rfl rfl h rfl (by omega) (by omega) fz | refine o1_cv_lh rfl rfl rfl h rfl (by omega) (by omega) fz | refine o1_cv_l rfl rfl h rfl (by omega) (by omega) fz) ?_)
    all_goals (refine xq1 13 rfl rfl rfl rfl rfl (by first | refine o1_call (fun _ => r1_Number _ _ _ _ (Rs.up (h.cutv 0 4 (by omega) (by omega)))) rfl (fun _ _ => fz) | refine o1_call (fun _ => r1_Number _ _ _ _ (Rs.up (h.cutv 4 8 (by omega) (by omega)))) rfl (fun _ _ => fz) | refine o1_call (fun _ => r1_Number _ _ _ _ (Rs.up (h.cutv 8 10 (by omega) (by omega)))) rfl (fun _ _ => fz)) ?_)
    all_goals (refine xq1 0 rfl rfl rfl rfl rfl (by refine o1_move rfl fz) ?_)
    all_goals (refine xq1 15 rfl rfl rfl rfl rfl (by first | refine o1_cv_h rfl rfl h rfl (by omega) (by omega) fz | refine o1_cv_lh rfl rfl rfl h rfl (by omega) (by omega) fz | refine o1_cv_l rfl rfl h rfl (by omega) (by omega) fz) ?_)
    all_goals (refine xq1 16 rfl rfl rfl rfl rfl (by first | refine o1_call (fun _ => r1_Number _ _ _ _ (Rs.up (h.cutv 0 4 (by omega) (by omega)))) rfl (fun _ _ => fz) | refine o1_call (fun _ => r1_Number _ _ _ _ (Rs.up (h.cutv 4 8 (by omega) (by omega)))) rfl (fun _ _ => fz) | refine o1_call (fun _ => r1_Number _ _ _ _ (Rs.up (h.cutv 8 10 (by omega) (by omega)))) rfl (fun _ _ => fz)) ?_)
    all_goals (refine xq1 17 rfl rfl rfl rfl rfl (by first | refine o1_conv_i rfl (by omega) fz | refine o1_conv_ui rfl (by exact bv_small (by decide) _) fz) ?_)
    all_goals (refine xq1 0 rfl rfl rfl rfl rfl (by refine o1_move rfl fz) ?_)
    all_goals (refine xq1 19 rfl rfl rfl rfl rfl (by first | refine o1_ia 10 rfl rfl h rfl rfl (by omega) fz | refine o1_ia 11 rfl rfl h rfl rfl (by omega) fz) ?_)
    all_goals (refine xq1 20 rfl rfl rfl rfl rfl (by first | refine o1_load_ia 10 rfl h (by omega) fz | refine o1_load_ia 11 rfl h (by omega) fz | refine ox_load rfl (by rfl) fz | refine ox_load_enc rfl (by first | omega | (simp; omega)) fz | refine ox_load_any rfl (by assumption) fz) ?_)
    all_goals (refine xq1 21 rfl rfl rfl rfl rfl (by first | refine o1_conv_i rfl (by omega) fz | refine o1_conv_ui rfl (by exact bv_small (by decide) _) fz) ?_)
    all_goals (refine xq1 0 rfl rfl rfl rfl rfl (by refine o1_move rfl fz) ?_)
    all_goals (refine xq1 23 rfl rfl rfl rfl rfl (by first | refine o1_ia 10 rfl rfl h rfl rfl (by omega) fz | refine o1_ia 11 rfl rfl h rfl rfl (by omega) fz) ?_)
    all_goals (refine xq1 24 rfl rfl rfl rfl rfl (by first | refine o1_load_ia 10 rfl h (by omega) fz | refine o1_load_ia 11 rfl h (by omega) fz | refine ox_load rfl (by rfl) fz | refine ox_load_enc rfl (by first | omega | (simp; omega)) fz | refine ox_load_any rfl (by assumption) fz) ?_)
    all_goals (refine xq1 25 rfl rfl rfl rfl rfl (by first | refine o1_conv_i rfl (by omega) fz | refine o1_conv_ui rfl (by exact bv_small (by decide) _) fz) ?_)
    all_goals (refine xq1 0 rfl rfl rfl rfl rfl (by refine o1_move rfl fz) ?_)
    all_goals (refine xq1 27 rfl rfl rfl rfl rfl (by first | refine o1_cv_h rfl rfl h rfl (by omega) (by omega) fz | refine o1_cv_lh rfl rfl rfl h rfl (by omega) (by omega) fz | refine o1_cv_l rfl rfl h rfl (by omega) (by omega) fz) ?_)
    all_goals refine re_nil ?_
    all_goals first | (refine ct_run (E' := [(28, _)]) rfl (gd_r0 rfl) rfl (cov_cons rfl rfl cov_nil) ?_; (first | (refine o1_lit_enc Bs [⟨_, _, l.drop 12⟩] rfl rfl rfl (fun _ => rfl) rfl rfl rfl (fun _ => ?_)) | refine o1_lit_B rfl rfl rfl rfl rfl (fun _ => ?_)))
    all_goals refine wt_ch ?_
    all_goals refine op_nil ?_
    all_goals (refine xq1 0 rfl rfl rfl rfl rfl (by refine o1_move rfl fz) ?_)
    all_goals (refine xq1 9 rfl rfl rfl rfl rfl (by first | refine o1_cv_h rfl rfl h rfl (by omega) (by omega) fz | refine o1_cv_lh rfl rfl rfl h rfl (by omega) (by omega) fz | refine o1_cv_l rfl rfl h rfl (by omega) (by omega) fz) ?_)
    all_goals (refine xq1 10 rfl rfl rfl rfl rfl (by first | refine o1_call (fun _ => r1_Number _ _ _ _ (Rs.up (h.cutv 0 4 (by omega) (by omega)))) rfl (fun _ _ => fz) | refine o1_call (fun _ => r1_Number _ _ _ _ (Rs.up (h.cutv 4 8 (by omega) (by omega)))) rfl (fun _ _ => fz) | refine o1_call (fun _ => r1_Number _ _ _ _ (Rs.up (h.cutv 8 10 (by omega) (by omega)))) rfl (fun _ _ => fz)) ?_)
    all_goals (refine xq1 0 rfl rfl rfl rfl rfl (by refine o1_move rfl fz) ?_)
    all_goals (refine xq1 12 rfl rfl rfl rfl rfl (by first | refine o1_cv_h rfl rfl h rfl (by omega) (by omega) fz | refine o1_cv_lh rfl rfl rfl h rfl (by omega) (by omega) fz | refine o1_cv_l rfl rfl h rfl (by omega) (by omega) fz) ?_)
    all_goals (refine xq1 13 rfl rfl rfl rfl rfl (by first | refine o1_call (fun _ => r1_Number _ _ _ _ (Rs.up (h.cutv 0 4 (by omega) (by omega)))) rfl (fun _ _ => fz) | refine o1_call (fun _ => r1_Number _ _ _ _ (Rs.up (h.cutv 4 8 (by omega) (by omega)))) rfl (fun _ _ => fz) | refine o1_call (fun _ => r1_Number _ _ _ _ (Rs.up (h.cutv 8 10 (by omega) (by omega)))) rfl (fun _ _ => fz)) ?_)
    all_goals (refine xq1 0 rfl rfl rfl rfl rfl (by refine o1_move rfl fz) ?_)
    all_goals (refine xq1 15 rfl rfl rfl rfl rfl (by first | refine o1_cv_h rfl rfl h rfl (by omega) (by omega) fz | refine o1_cv_lh rfl rfl rfl h rfl (by omega) (by omega) fz | refine o1_cv_l rfl rfl h rfl (by omega) (by omega) fz) ?_)
    all_goals (refine xq1 16 rfl rfl rfl rfl rfl (by first | refine o1_call (fun _ => r1_Number _ _ _ _ (Rs.up (h.cutv 0 4 (by omega) (by omega)))) rfl (fun _ _ => fz) | refine o1_call (fun _ => r1_Number _ _ _ _ (Rs.up (h.cutv 4 8 (by omega) (by omega)))) rfl (fun _ _ => fz) | refine o1_call (fun _ => r1_Number _ _ _ _ (Rs.up (h.cutv 8 10 (by omega) (by omega)))) rfl (fun _ _ => fz)) ?_)
    all_goals (refine xq1 17 rfl rfl rfl rfl rfl (by first | refine o1_conv_i rfl (by omega) fz | refine o1_conv_ui rfl (by exact bv_small (by decide) _) fz) ?_)
    all_goals (refine xq1 0 rfl rfl rfl rfl rfl (by refine o1_move rfl fz) ?_)
    all_goals (refine xq1 19 rfl rfl rfl rfl rfl (by first | refine o1_ia 10 rfl rfl h rfl rfl (by omega) fz | refine o1_ia 11 rfl rfl h rfl rfl (by omega) fz) ?_)
    all_goals (refine xq1 20 rfl rfl rfl rfl rfl (by first | refine o1_load_ia 10 rfl h (by omega) fz | refine o1_load_ia 11 rfl h (by omega) fz | refine ox_load rfl (by rfl) fz | refine ox_load_enc rfl (by first | omega | (simp; omega)) fz | refine ox_load_any rfl (by assumption) fz) ?_)
    all_goals (refine xq1 21 rfl rfl rfl rfl rfl (by first | refine o1_conv_i rfl (by omega) fz | refine o1_conv_ui rfl (by exact bv_small (by decide) _) fz) ?_)
    all_goals (refine xq1 0 rfl rfl rfl rfl rfl (by refine o1_move rfl fz) ?_)
    all_goals (refine xq1 23 rfl rfl rfl rfl rfl (by first | refine o1_ia 10 rfl rfl h rfl rfl (by omega) fz | refine o1_ia 11 rfl rfl h rfl rfl (by omega) fz) ?_)
    all_goals (refine xq1 24 rfl rfl rfl rfl rfl (by first | refine o1_load_ia 10 rfl h (by omega) fz | refine o1_load_ia 11 rfl h (by omega) fz | refine ox_load rfl (by rfl) fz | refine ox_load_enc rfl (by first | omega | (simp; omega)) fz | refine ox_load_any rfl (by assumption) fz) ?_)
    all_goals (refine xq1 25 rfl rfl rfl rfl rfl (by first | refine o1_conv_i rfl (by omega) fz | refine o1_conv_ui rfl (by exact bv_small (by decide) _) fz) ?_)
    all_goals refine re_nil ?_
    all_goals first | (refine ct_run (E' := [(29, _)]) rfl (gd_r0 rfl) rfl (cov_cons rfl rfl cov_nil) ?_; (first | (refine o1_call (fun hh => r1_Join _ _ _ [⟨_, _, l.drop 12⟩] (rx_lit rfl rfl hh) (fa_cons (Rs.up (h.cutl 12 (by omega))) fa_nil) (by rw [cat_1]; simp; omega)) rfl (fun ⟨a5, c5⟩ _ => ?_); dsimp only; rw [cat_1])))
    all_goals refine wt_ch ?_
    all_goals (refine op_run (E' := [(11, _), (14, _), (18, _), (22, _), (26, _), (30, _)]) rfl (gd_r0 rfl) rfl (cov_cons rfl rfl (cov_cons rfl rfl (cov_cons rfl rfl (cov_cons rfl rfl (cov_cons rfl rfl (cov_cons rfl rfl cov_nil)))))) (by (first | refine o1_buildx rfl (by simp only [buildL, putL, List.set_cons_zero, List.set_cons_succ, List.getElem?_cons_zero, List.getElem?_cons_succ, Option.getD_some, Value.cells, Nat.zero_add, Nat.reduceAdd]; rfl) (fun _ => by kernel_rfl) ?_); all_goals exact ⟨rfl, fun _ h => h⟩) ?_)
    all_goals refine op_nil ?_
    all_goals (refine xq1 17 rfl rfl rfl rfl rfl (by first | refine o1_conv_i rfl (by omega) fz | refine o1_conv_ui rfl (by exact bv_small (by decide) _) fz) ?_)
    all_goals (refine xq1 0 rfl rfl rfl rfl rfl (by refine o1_move rfl fz) ?_)
    all_goals (refine xq1 19 rfl rfl rfl rfl rfl (by first | refine o1_ia 10 rfl rfl h rfl rfl (by omega) fz | refine o1_ia 11 rfl rfl h rfl rfl (by omega) fz) ?_)
    all_goals (refine xq1 20 rfl rfl rfl rfl rfl (by first | refine o1_load_ia 10 rfl h (by omega) fz | refine o1_load_ia 11 rfl h (by omega) fz | refine ox_load rfl (by rfl) fz | refine ox_load_enc rfl (by first | omega | (simp; omega)) fz | refine ox_load_any rfl (by assumption) fz) ?_)
    all_goals (refine xq1 21 rfl rfl rfl rfl rfl (by first | refine o1_conv_i rfl (by omega) fz | refine o1_conv_ui rfl (by exact bv_small (by decide) _) fz) ?_)
    all_goals (refine xq1 0 rfl rfl rfl rfl rfl (by refine o1_move rfl fz) ?_)
    all_goals (refine xq1 23 rfl rfl rfl rfl rfl (by first | refine o1_ia 10 rfl rfl h rfl rfl (by omega) fz | refine o1_ia 11 rfl rfl h rfl rfl (by omega) fz) ?_)
    all_goals (refine xq1 24 rfl rfl rfl rfl rfl (by first | refine o1_load_ia 10 rfl h (by omega) fz | refine o1_load_ia 11 rfl h (by omega) fz | refine ox_load rfl (by rfl) fz | refine ox_load_enc rfl (by first | omega | (simp; omega)) fz | refine ox_load_any rfl (by assumption) fz) ?_)
    all_goals (refine xq1 25 rfl rfl rfl rfl rfl (by first | refine o1_conv_i rfl (by omega) fz | refine o1_conv_ui rfl (by exact bv_small (by decide) _) fz) ?_)
    all_goals refine re_nil ?_
    all_goals first | (refine ct_run_no (E' := [(4, _), (31, _)]) rfl (gd_r0 rfl) rfl (cov_cons rfl rfl (cov_cons rfl rfl cov_nil)) ?_; (first | refine ox_store_agg rfl rfl (by rfl) (by simp) (by simp [Value.oneCell']) (by simp only [putL, List.set_cons_zero, List.set_cons_succ, Nat.zero_add, Nat.reduceAdd]; rfl) ?_))
    all_goals refine wt_end ?_
    all_goals refine op_nil ?_
    all_goals refine re_nil ?_
  all_goals dsimp only [List.cons_append, List.nil_append]
  all_goals
    repeat' (first | refine ls_of rfl ?_ | refine ls_of_no ?_ | refine ls_guard_yes rfl rfl ?_ | refine ls_guard_no rfl rfl rfl rfl ?_ | refine ls_guard_un rfl rfl rfl ?_ | refine o1_move rfl ?_ | refine o1_assign rfl ?_ | refine st_seq ?_ | refine st_region ?_ | refine st_block ?_ | refine st_skip ?_ | refine st_ret ?_ | refine st_exit ?_ | refine st_cond_t rfl ?_ | refine st_cond_f rfl ?_ | refine st_cond rfl (fun _ => ?_) (fun _ => ?_) | refine ls_nil ?_ | refine nx_seq ?_ | refine nx_blk ?_ | refine nx_fn ?_ | refine nx_rounds ?_ | refine xt_seq ?_ | refine xt_here ?_ | refine xt_on rfl ?_ | refine xt_rounds ?_ | refine xt_cut ?_ | refine rt_seq ?_ | refine rt_blk ?_ | refine rt_rounds ?_ | refine rt_cut ?_ | refine o1_call (fun _ => (r7_MayManifest _ ⟨num32 ((l.take 4).drop 0), num32 ((l.take 8).drop 4), ((num32 ((l.take 10).drop 8)).toNat : Int), (l[10].toNat : Int), (l[11].toNat : Int), ⟨a5, c5, l.drop 12⟩⟩).bv (b := false) (by rw [← k10, ← k11]; exact hm)) rfl (fun _ _ => ?_) | refine ox_load rfl (by rfl) ?_ | refine ox_load_enc rfl (by first | omega | (simp; omega)) ?_ | refine ox_load_any rfl (by assumption) ?_ | refine o1_len rfl ?_ | refine o1_neq_t rfl rfl (by omega) ?_ | refine o1_neq_f rfl rfl (by omega) ?_ | refine o1_neq rfl rfl (fun _ => ?_) (fun _ => ?_) | refine o1_bnot rfl ?_ | refine o1_unot rfl ?_ | refine o1_conv_i rfl (by omega) ?_ | refine o1_conv_ui rfl (by exact bv_small (by decide) _) ?_ | refine o1_lit_B rfl rfl rfl rfl rfl (fun _ => ?_) | refine o1_buildx rfl (by simp only [buildL, putL, List.set_cons_zero, List.set_cons_succ, List.getElem?_cons_zero, List.getElem?_cons_succ, Option.getD_some, Value.cells, Nat.zero_add, Nat.reduceAdd]; rfl) (fun _ => by kernel_rfl) ?_ | refine o1_alloc rfl (fun _ => ?_) | refine ox_store_agg rfl rfl (by rfl) (by simp) (by simp [Value.oneCell']) (by simp only [putL, List.set_cons_zero, List.set_cons_succ, Nat.zero_add, Nat.reduceAdd]; rfl) ?_ | refine ox_load_agg rfl (by simp only [Nat.zero_add, Nat.reduceAdd, List.drop_zero, List.drop_succ_cons, List.take_succ_cons, List.take_zero]; rfl) (by rfl) ?_)
    refine rt_cell_tmp () rfl rfl rfl rfl rfl trivial ?_
    (try dsimp only [List.cons_append, List.nil_append, List.singleton_append, List.append_nil]); (repeat (first | exact Ent.nil | exact Ent.refl _ | (apply Ent.cons; (repeat (first | exact Sel.here | apply Sel.there)))))
end Go.Dp
