/-
  Walks of functions that the laws of this seat reach, as contracts.
  Conditions: those that stand in each theorem.
-/
import Derived.Test.YtlmmnnhbnbakgaaDoorTy
set_option linter.unusedVariables false
set_option linter.unusedSimpArgs false
namespace Go.Dp
open Go.RowKit Go.Proofs

theorem slices_Equal (H : List Hl) (ad ad' : Option Addr) (c c' : Nat) (l m : List (BitVec 8)) (h1 : Rs (stars H) B ad c l) (h2 : Rs (stars H) B ad' c' m) :
    Spec Tryd.prog 64 [.slice ad l.length c, .slice ad' m.length c'] H (fun _ : Unit => True) (fun _ => .bool (decide (l = m))) (fun _ => H) := by
  have b1 := h1.le
  have b2 := h1.big
  refine spec_pure (res := fun _ => []) H Tryd.func64 rfl Tryd.ntmps64 (by kernel_rfl) rfl (fun W => ?_)
  repeat' (first | refine ls_of rfl ?_ | refine ls_of_no ?_ | refine ls_guard_yes rfl rfl ?_ | refine ls_guard_no rfl rfl rfl rfl ?_ | refine ls_guard_un rfl rfl rfl ?_ | refine o1_move rfl ?_ | refine o1_assign rfl ?_ | refine st_seq ?_ | refine st_region ?_ | refine st_block ?_ | refine st_skip ?_ | refine st_ret ?_ | refine st_exit ?_ | refine st_cond_t rfl ?_ | refine st_cond_f rfl ?_ | refine st_cond rfl (fun _ => ?_) (fun _ => ?_) | refine ls_nil ?_ | refine nx_seq ?_ | refine nx_blk ?_ | refine nx_fn ?_ | refine nx_rounds ?_ | refine xt_seq ?_ | refine xt_here ?_ | refine xt_on rfl ?_ | refine xt_rounds ?_ | refine xt_cut ?_ | refine rt_seq ?_ | refine rt_blk ?_ | refine rt_rounds ?_ | refine rt_cut ?_ | refine ox_load rfl (by rfl) ?_ | refine ox_load_enc rfl (by first | omega | (simp; omega)) ?_ | refine ox_load_any rfl (by assumption) ?_ | refine o1_len rfl ?_ | refine o1_add rfl rfl (by omega) ?_ | refine o1_lss_t rfl rfl (by omega) ?_ | refine o1_lss_f rfl rfl (by omega) ?_ | refine o1_lss rfl rfl (fun _ => ?_) (fun _ => ?_) | refine o1_neq_t rfl rfl (by omega) ?_ | refine o1_neq_f rfl rfl (by omega) ?_ | refine o1_neq rfl rfl (fun _ => ?_) (fun _ => ?_))
  · rename_i hlen
    refine rt_tmp () rfl rfl ?_ trivial (Ent.refl _)
    simp; intro e; subst e; omega
  rename_i hlen
  have hlen : l.length = m.length := by omega
  refine st_loop (S := Nat) (fun i => [(0, .slice ad l.length c), (1, .slice ad' m.length c'), (12, .int .i64 l.length), (13, .int .i64 i)]) (fun _ => [.any (stars H)]) (fun i => i ≤ l.length ∧ l.take i = m.take i) (fun i => l.length - i) 0 ⟨by omega, by simp⟩
    (cov_cons rfl rfl (cov_cons rfl rfl (cov_cons rfl rfl (cov_cons rfl rfl cov_nil)))) (Ent.refl _) ?_
  rintro i ⟨hi, hpre⟩
  repeat' (first | refine ls_of rfl ?_ | refine ls_of_no ?_ | refine ls_guard_yes rfl rfl ?_ | refine ls_guard_no rfl rfl rfl rfl ?_ | refine ls_guard_un rfl rfl rfl ?_ | refine o1_move rfl ?_ | refine o1_assign rfl ?_ | refine st_seq ?_ | refine st_region ?_ | refine st_block ?_ | refine st_skip ?_ | refine st_ret ?_ | refine st_exit ?_ | refine st_cond_t rfl ?_ | refine st_cond_f rfl ?_ | refine st_cond rfl (fun _ => ?_) (fun _ => ?_) | refine ls_nil ?_ | refine nx_seq ?_ | refine nx_blk ?_ | refine nx_fn ?_ | refine nx_rounds ?_ | refine xt_seq ?_ | refine xt_here ?_ | refine xt_on rfl ?_ | refine xt_rounds ?_ | refine xt_cut ?_ | refine rt_seq ?_ | refine rt_blk ?_ | refine rt_rounds ?_ | refine rt_cut ?_ | refine ox_load rfl (by rfl) ?_ | refine ox_load_enc rfl (by first | omega | (simp; omega)) ?_ | refine ox_load_any rfl (by assumption) ?_ | refine o1_len rfl ?_ | refine o1_add rfl rfl (by omega) ?_ | refine o1_lss_t rfl rfl (by omega) ?_ | refine o1_lss_f rfl rfl (by omega) ?_ | refine o1_lss rfl rfl (fun _ => ?_) (fun _ => ?_) | refine o1_neq_t rfl rfl (by omega) ?_ | refine o1_neq_f rfl rfl (by omega) ?_ | refine o1_neq rfl rfl (fun _ => ?_) (fun _ => ?_))
  · rename_i hlt
    have hlt : i < l.length := by omega
    apply st_draw [(0, _), (5, _), (1, _)] [.c _, .c _, .p (fun v => ∃ a, v = .pointer (some a) ∧ Cl (stars H) a (B l[i])) (fun _ => []), .c _, .c _, .c _, .p (fun v => ∃ a, v = .pointer (some a) ∧ Cl (stars H) a (B m[i])) (fun _ => []), .c _, .c _] [⟨some 16, [], [], none⟩, ⟨some 17, [], [], none⟩, ⟨some 18, [0, 1], [0, 1], none⟩, ⟨some 19, [2], [0, 1, 2], none⟩, ⟨some 20, [], [], none⟩, ⟨some 21, [], [], none⟩, ⟨some 22, [4, 5], [4, 5], none⟩, ⟨some 23, [6], [4, 5, 6], none⟩, ⟨some 24, [3, 7], [0, 1, 2, 3, 4, 5, 6, 7], none⟩] mixed (cov_cons rfl rfl (cov_cons rfl rfl (cov_cons rfl rfl cov_nil))) (by kernel_rfl) (by kernel_rfl) (by kernel_rfl) (obl_cons ?d6_o0 (obl_cons ?d6_o1 (obl_cons ?d6_o2 (obl_cons ?d6_o3 (obl_cons ?d6_o4 (obl_cons ?d6_o5 (obl_cons ?d6_o6 (obl_cons ?d6_o7 (obl_cons ?d6_o8 obl_nil))))))))) ?d6_nx
    case d6_o0 => refine obl_run rfl (gd_none rfl) (fun _ => ?_); refine allv_nil ?_; dsimp only [List.cons_append, List.nil_append, List.singleton_append, List.append_nil, blk]; (first | refine o1_move rfl ?_); all_goals (exact ⟨rfl, fun _ h => h⟩)
    case d6_o1 => refine obl_run rfl (gd_none rfl) (fun _ => ?_); refine allv_nil ?_; dsimp only [List.cons_append, List.nil_append, List.singleton_append, List.append_nil, blk]; (first | refine o1_move rfl ?_); all_goals (exact ⟨rfl, fun _ h => h⟩)
    case d6_o2 => refine obl_run rfl (gd_none rfl) (fun _ => ?_); refine allv_c rfl rfl ?_; refine allv_c rfl rfl ?_; refine allv_nil ?_; dsimp only [List.cons_append, List.nil_append, List.singleton_append, List.append_nil, blk]; (refine o1_indexAddr_rd rfl rfl h1 i rfl hlt (fun a ha => ⟨⟨a, rfl, ha⟩, fun _ h => h⟩)); all_goals (first | exact ⟨⟨rfl⟩, fun _ h => h⟩ | exact ⟨⟨_, rfl⟩, fun _ h => h⟩ | exact ⟨⟨_, _, rfl⟩, fun _ h => h⟩ | exact ⟨⟨_, _, _, rfl⟩, fun _ h => h⟩)
    case d6_o3 => refine obl_run rfl (gd_none rfl) (fun _ => ?_); refine allv_c rfl rfl ?_; refine allv_c rfl rfl ?_; refine allv_p rfl rfl ?_; rintro _ ⟨_,rfl,_⟩; refine allv_nil ?_; dsimp only [List.cons_append, List.nil_append, List.singleton_append, List.append_nil, blk]; (first | refine ox_load rfl (by rfl) ?_ | refine ox_load_enc rfl (by first | omega | (simp; omega)) ?_ | refine ox_load_any rfl (by assumption) ?_); all_goals (exact ⟨rfl, fun _ h => h⟩)
    case d6_o4 => refine obl_run rfl (gd_none rfl) (fun _ => ?_); refine allv_nil ?_; dsimp only [List.cons_append, List.nil_append, List.singleton_append, List.append_nil, blk]; (first | refine o1_move rfl ?_); all_goals (exact ⟨rfl, fun _ h => h⟩)
    case d6_o5 => refine obl_run rfl (gd_none rfl) (fun _ => ?_); refine allv_nil ?_; dsimp only [List.cons_append, List.nil_append, List.singleton_append, List.append_nil, blk]; (first | refine o1_move rfl ?_); all_goals (exact ⟨rfl, fun _ h => h⟩)
    case d6_o6 => refine obl_run rfl (gd_none rfl) (fun _ => ?_); refine allv_c rfl rfl ?_; refine allv_c rfl rfl ?_; refine allv_nil ?_; dsimp only [List.cons_append, List.nil_append, List.singleton_append, List.append_nil, blk]; (refine o1_indexAddr_rd rfl rfl h2 i rfl (by omega) (fun a ha => ⟨⟨a, rfl, ha⟩, fun _ h => h⟩)); all_goals (first | exact ⟨⟨rfl⟩, fun _ h => h⟩ | exact ⟨⟨_, rfl⟩, fun _ h => h⟩ | exact ⟨⟨_, _, rfl⟩, fun _ h => h⟩ | exact ⟨⟨_, _, _, rfl⟩, fun _ h => h⟩)
    case d6_o7 => refine obl_run rfl (gd_none rfl) (fun _ => ?_); refine allv_c rfl rfl ?_; refine allv_c rfl rfl ?_; refine allv_p rfl rfl ?_; rintro _ ⟨_,rfl,_⟩; refine allv_nil ?_; dsimp only [List.cons_append, List.nil_append, List.singleton_append, List.append_nil, blk]; (first | refine ox_load rfl (by rfl) ?_ | refine ox_load_enc rfl (by first | omega | (simp; omega)) ?_ | refine ox_load_any rfl (by assumption) ?_); all_goals (exact ⟨rfl, fun _ h => h⟩)
    case d6_o8 => refine obl_run rfl (gd_none rfl) (fun _ => ?_); refine allv_c rfl rfl ?_; refine allv_c rfl rfl ?_; refine allv_p rfl rfl ?_; rintro _ ⟨_,rfl,_⟩; refine allv_c rfl rfl ?_; refine allv_c rfl rfl ?_; refine allv_c rfl rfl ?_; refine allv_p rfl rfl ?_; rintro _ ⟨_,rfl,_⟩; refine allv_c rfl rfl ?_; refine allv_nil ?_; dsimp only [List.cons_append, List.nil_append, List.singleton_append, List.append_nil, blk]; (first | refine o1_neq_t rfl rfl (by omega) ?_ | refine o1_neq_f rfl rfl (by omega) ?_ | refine o1_neq_d rfl rfl ?_); all_goals (exact ⟨rfl, fun _ h => h⟩)
    case d6_nx =>
      refine allv_c rfl rfl ?_; refine allv_c rfl rfl ?_; refine allv_p rfl rfl ?_; rintro _ ⟨_,rfl,_⟩; refine allv_c rfl rfl ?_; refine allv_c rfl rfl ?_; refine allv_c rfl rfl ?_; refine allv_p rfl rfl ?_; rintro _ ⟨_,rfl,_⟩; refine allv_c rfl rfl ?_; refine allv_c rfl rfl ?_; refine allv_nil ?_; dsimp only [List.cons_append, List.nil_append, List.singleton_append, List.append_nil, blk]
      repeat' (first | refine ls_of rfl ?_ | refine ls_of_no ?_ | refine ls_guard_yes rfl rfl ?_ | refine ls_guard_no rfl rfl rfl rfl ?_ | refine ls_guard_un rfl rfl rfl ?_ | refine o1_move rfl ?_ | refine o1_assign rfl ?_ | refine st_seq ?_ | refine st_region ?_ | refine st_block ?_ | refine st_skip ?_ | refine st_ret ?_ | refine st_exit ?_ | refine st_cond_t rfl ?_ | refine st_cond_f rfl ?_ | refine st_cond rfl (fun _ => ?_) (fun _ => ?_) | refine ls_nil ?_ | refine nx_seq ?_ | refine nx_blk ?_ | refine nx_fn ?_ | refine nx_rounds ?_ | refine xt_seq ?_ | refine xt_here ?_ | refine xt_on rfl ?_ | refine xt_rounds ?_ | refine xt_cut ?_ | refine rt_seq ?_ | refine rt_blk ?_ | refine rt_rounds ?_ | refine rt_cut ?_ | refine ox_load rfl (by rfl) ?_ | refine ox_load_enc rfl (by first | omega | (simp; omega)) ?_ | refine ox_load_any rfl (by assumption) ?_ | refine o1_len rfl ?_ | refine o1_add rfl rfl (by omega) ?_ | refine o1_lss_t rfl rfl (by omega) ?_ | refine o1_lss_f rfl rfl (by omega) ?_ | refine o1_lss rfl rfl (fun _ => ?_) (fun _ => ?_) | refine o1_neq_t rfl rfl (by omega) ?_ | refine o1_neq_f rfl rfl (by omega) ?_ | refine o1_neq rfl rfl (fun _ => ?_) (fun _ => ?_))
      · rename_i hne
        refine rt_tmp () rfl rfl ?_ trivial (Ent.refl _)
        simp at hne ⊢
        rintro rfl
        exact hne rfl
      · rename_i heq
        simp at heq
        refine nx_again (i + 1) ⟨by omega, ?_⟩ (by omega) (cov_cons rfl rfl (cov_cons rfl rfl (cov_cons rfl rfl (cov_cons rfl rfl cov_nil)))) (Ent.refl _)
        rw [List.take_succ_eq_append_getElem hlt, List.take_succ_eq_append_getElem (by omega : i < m.length), hpre, BitVec.eq_of_toNat_eq (by omega : l[i].toNat = m[i].toNat)]
  · refine rt_tmp () rfl rfl ?_ trivial (Ent.refl _)
    have : i = l.length := by omega
    subst this
    rw [List.take_length, List.take_of_length_le (by omega)] at hpre
    simp [hpre]
end Go.Dp
