/-
  vec.Same, walked; slices.Equal of words.
  Conditions: those that stand in each theorem.
-/
import Derived.Test.YtlmmnnhbnbakgaaDoorV4
set_option linter.unusedVariables false
set_option linter.unusedSimpArgs false
namespace Go.Dp
open Go.RowKit Go.Proofs
def rtV4s_0 : List Row := [⟨some 14, [], [], none⟩, ⟨some 15, [0], [0], none⟩, ⟨some 16, [1], [0, 1], none⟩, ⟨some 17, [2], [0, 1, 2], none⟩, ⟨some 18, [], [], none⟩, ⟨some 19, [4], [4], none⟩, ⟨some 20, [5], [4, 5], none⟩, ⟨some 21, [6], [4, 5, 6], none⟩, ⟨some 22, [3, 7], [0, 1, 2, 3, 4, 5, 6, 7], none⟩, ⟨some 23, [8], [0, 1, 2, 3, 4, 5, 6, 7, 8], none⟩, ⟨some 24, [9], [0, 1, 2, 3, 4, 5, 6, 7, 8, 9], some (9, true)⟩, ⟨some 25, [10, 9], [0, 1, 2, 3, 4, 5, 6, 7, 8, 9, 10], some (9, true)⟩, ⟨some 26, [11, 9], [0, 1, 2, 3, 4, 5, 6, 7, 8, 9, 10, 11], some (9, true)⟩, ⟨some 27, [12, 9], [0, 1, 2, 3, 4, 5, 6, 7, 8, 9, 10, 11, 12], some (9, true)⟩, ⟨some 28, [9], [0, 1, 2, 3, 4, 5, 6, 7, 8, 9], some (9, true)⟩, ⟨some 29, [14, 9], [0, 1, 2, 3, 4, 5, 6, 7, 8, 9, 14], some (9, true)⟩, ⟨some 30, [15, 9], [0, 1, 2, 3, 4, 5, 6, 7, 8, 9, 14, 15], some (9, true)⟩, ⟨some 31, [16, 9], [0, 1, 2, 3, 4, 5, 6, 7, 8, 9, 14, 15, 16], some (9, true)⟩, ⟨some 32, [13, 17, 9, 9], [0, 1, 2, 3, 4, 5, 6, 7, 8, 9, 10, 11, 12, 13, 14, 15, 16, 17], some (9, true)⟩, ⟨some 33, [9, 18], [0, 1, 2, 3, 4, 5, 6, 7, 8, 9, 10, 11, 12, 13, 14, 15, 16, 17, 18], none⟩, ⟨some 4, [19, 18, 0, 1, 2, 3, 4, 5, 6, 7, 8, 9, 10, 11, 12, 13, 14, 15, 16, 17, 18, 19], [0, 1, 2, 3, 4, 5, 6, 7, 8, 9, 10, 11, 12, 13, 14, 15, 16, 17, 18, 19], none⟩]
def rtV4s_1 : List Row := [⟨some 14, [], [], none⟩, ⟨some 15, [0], [0], none⟩, ⟨some 16, [1], [0, 1], none⟩, ⟨some 17, [2], [0, 1, 2], none⟩, ⟨some 18, [], [], none⟩, ⟨some 19, [4], [4], none⟩, ⟨some 20, [5], [4, 5], none⟩, ⟨some 21, [6], [4, 5, 6], none⟩, ⟨some 22, [3, 7], [0, 1, 2, 3, 4, 5, 6, 7], none⟩, ⟨some 23, [8], [0, 1, 2, 3, 4, 5, 6, 7, 8], none⟩, ⟨some 24, [9], [0, 1, 2, 3, 4, 5, 6, 7, 8, 9], some (9, true)⟩, ⟨some 25, [10, 9], [0, 1, 2, 3, 4, 5, 6, 7, 8, 9, 10], some (9, true)⟩, ⟨some 26, [11, 9], [0, 1, 2, 3, 4, 5, 6, 7, 8, 9, 10, 11], some (9, true)⟩, ⟨some 27, [12, 9], [0, 1, 2, 3, 4, 5, 6, 7, 8, 9, 10, 11, 12], some (9, true)⟩, ⟨some 28, [9], [0, 1, 2, 3, 4, 5, 6, 7, 8, 9], some (9, true)⟩, ⟨some 29, [14, 9], [0, 1, 2, 3, 4, 5, 6, 7, 8, 9, 14], some (9, true)⟩, ⟨some 30, [15, 9], [0, 1, 2, 3, 4, 5, 6, 7, 8, 9, 14, 15], some (9, true)⟩, ⟨some 31, [16, 9], [0, 1, 2, 3, 4, 5, 6, 7, 8, 9, 14, 15, 16], some (9, true)⟩, ⟨some 32, [13, 17, 9, 9], [0, 1, 2, 3, 4, 5, 6, 7, 8, 9, 10, 11, 12, 13, 14, 15, 16, 17], some (9, true)⟩, ⟨some 33, [9, 18], [0, 1, 2, 3, 4, 5, 6, 7, 8, 9, 10, 11, 12, 13, 14, 15, 16, 17, 18], none⟩, ⟨some 4, [19, 18, 0, 1, 2, 3, 4, 5, 6, 7, 8, 9, 10, 11, 12, 13, 14, 15, 16, 17, 18, 19], [0, 1, 2, 3, 4, 5, 6, 7, 8, 9, 10, 11, 12, 13, 14, 15, 16, 17, 18, 19], none⟩]
theorem slices_Equal8 (H : List Hl) (ad ad' : Option Addr) (c c' m0 n0 : Nat) (l m : List (BitVec 64)) (h1 : Rs (stars H) W8 ad c l) (h2 : Rs (stars H) W8 ad' c' m) (hl0 : m0 = l.length) (hm0 : n0 = m.length) :
    Spec Tryd.prog 52 [.slice ad m0 c, .slice ad' n0 c'] H (fun _ : Unit => True) (fun _ => .bool (decide (l = m))) (fun _ => H) := by
  subst hl0 hm0
  have b1 := h1.le
  have b2 := h1.big
  refine spec_pure (res := fun _ => []) H Tryd.func52 rfl Tryd.ntmps52 (by kernel_rfl) rfl (fun W => ?_)
  repeat' (first | refine ls_of rfl ?_ | refine ls_of_no ?_ | refine ls_guard_yes rfl rfl ?_ | refine ls_guard_no rfl rfl rfl rfl ?_ | refine ls_guard_un rfl rfl rfl ?_ | refine o1_move rfl ?_ | refine o1_assign rfl ?_ | refine st_seq ?_ | refine st_region ?_ | refine st_block ?_ | refine st_skip ?_ | refine st_ret ?_ | refine st_exit ?_ | refine st_cond_t rfl ?_ | refine st_cond_f rfl ?_ | refine st_cond rfl (fun _ => ?_) (fun _ => ?_) | refine ls_nil ?_ | refine nx_seq ?_ | refine nx_blk ?_ | refine nx_fn ?_ | refine nx_rounds ?_ | refine xt_seq ?_ | refine xt_here ?_ | refine xt_on rfl ?_ | refine xt_rounds ?_ | refine xt_cut ?_ | refine rt_seq ?_ | refine rt_blk ?_ | refine rt_rounds ?_ | refine rt_cut ?_ | refine ox_load rfl (by rfl) ?_ | refine ox_load_enc rfl (by first | omega | (simp; omega)) ?_ | refine ox_load_any rfl (by assumption) ?_ | refine o1_len rfl ?_ | refine o1_add rfl rfl (by omega) ?_ | refine o1_lss_t rfl rfl (by omega) ?_ | refine o1_lss_f rfl rfl (by omega) ?_ | refine o1_lss rfl rfl (fun _ => ?_) (fun _ => ?_) | refine o1_neq_t rfl rfl (by omega) ?_ | refine o1_neq_f rfl rfl (by omega) ?_ | refine o1_neq rfl rfl (fun _ => ?_) (fun _ => ?_))
  · rename_i hlen
    refine rt_tmp () rfl rfl ?_ trivial (Ent.refl _)
    simp; intro e; subst e; omega
  rename_i hlen
  have hlen : l.length = m.length := by omega
  refine st_loop (S := Nat) (fun i => [(0, .slice ad l.length c), (1, .slice ad' m.length c'), (12, .int .i64 l.length), (13, .int .i64 i)]) (fun _ => [.any (stars H)]) (fun i => i ≤ l.length ∧ l.take i = m.take i) (fun i => l.length - i) 0 ⟨by omega, by simp⟩
    (cov_cons rfl rfl (cov_cons rfl rfl (cov_cons rfl rfl (cov_cons rfl rfl cov_nil)))) (Ent.refl _) ?_
  rintro i ⟨hi, hpre⟩
  repeat' (first | refine ls_of rfl ?_ | refine ls_of_no ?_ | refine ls_guard_yes rfl rfl ?_ | refine ls_guard_no rfl rfl rfl rfl ?_ | refine ls_guard_un rfl rfl rfl ?_ | refine o1_move rfl ?_ | refine o1_assign rfl ?_ | refine st_seq ?_ | refine st_region ?_ | refine st_block ?_ | refine st_skip ?_ | refine st_ret ?_ | refine st_exit ?_ | refine st_cond_t rfl ?_ | refine st_cond_f rfl ?_ | refine st_cond rfl (fun _ => ?_) (fun _ => ?_) | refine ls_nil ?_ | refine nx_seq ?_ | refine nx_blk ?_ | refine nx_fn ?_ | refine nx_rounds ?_ | refine xt_seq ?_ | refine xt_here ?_ | refine xt_on rfl ?_ | refine xt_rounds ?_ | refine xt_cut ?_ | refine rt_seq ?_ | refine rt_blk ?_ | refine rt_rounds ?_ | refine rt_cut ?_ | refine ox_load rfl (by rfl) ?_ | refine ox_load_enc rfl (by first | omega | (simp; omega)) ?_ | refine ox_load_any rfl (by assumption) ?_ | refine o1_len rfl ?_ | refine o1_add rfl rfl (by omega) ?_ | refine o1_lss_t rfl rfl (by omega) ?_ | refine o1_lss_f rfl rfl (by omega) ?_ | refine o1_lss rfl rfl (fun _ => ?_) (fun _ => ?_) | refine o1_neq_t rfl rfl (by omega) ?_ | refine o1_neq_f rfl rfl (by omega) ?_ | refine o1_neq rfl rfl (fun _ => ?_) (fun _ => ?_))
  · rename_i hlt
    have hlt : i < l.length := by omega
    apply st_draw [(0, _), (5, _), (1, _)] [.c _, .c _, .p (fun v => ∃ a, v = .pointer (some a) ∧ Cl (stars H) a (W8 l[i])) (fun _ => []), .c _, .c _, .c _, .p (fun v => ∃ a, v = .pointer (some a) ∧ Cl (stars H) a (W8 m[i])) (fun _ => []), .c _, .c _] [⟨some 16, [], [], none⟩, ⟨some 17, [], [], none⟩, ⟨some 18, [0, 1], [0, 1], none⟩, ⟨some 19, [2], [0, 1, 2], none⟩, ⟨some 20, [], [], none⟩, ⟨some 21, [], [], none⟩, ⟨some 22, [4, 5], [4, 5], none⟩, ⟨some 23, [6], [4, 5, 6], none⟩, ⟨some 24, [3, 7], [0, 1, 2, 3, 4, 5, 6, 7], none⟩] mixed (cov_cons rfl rfl (cov_cons rfl rfl (cov_cons rfl rfl cov_nil))) (by kernel_rfl) (by kernel_rfl) (by kernel_rfl) (obl_cons ?d6_o0 (obl_cons ?d6_o1 (obl_cons ?d6_o2 (obl_cons ?d6_o3 (obl_cons ?d6_o4 (obl_cons ?d6_o5 (obl_cons ?d6_o6 (obl_cons ?d6_o7 (obl_cons ?d6_o8 obl_nil))))))))) ?d6_nx
    case d6_o0 => refine obl_run rfl (gd_none rfl) (fun _ => ?_); refine allv_nil ?_; dsimp only [List.cons_append, List.nil_append, List.singleton_append, List.append_nil, blk]; (first | refine o1_move rfl ?_); all_goals (exact ⟨rfl, fun _ h => h⟩)
    case d6_o1 => refine obl_run rfl (gd_none rfl) (fun _ => ?_); refine allv_nil ?_; dsimp only [List.cons_append, List.nil_append, List.singleton_append, List.append_nil, blk]; (first | refine o1_move rfl ?_); all_goals (exact ⟨rfl, fun _ h => h⟩)
    case d6_o2 => refine obl_run rfl (gd_none rfl) (fun _ => ?_); refine allv_c rfl rfl ?_; refine allv_c rfl rfl ?_; refine allv_nil ?_; dsimp only [List.cons_append, List.nil_append, List.singleton_append, List.append_nil, blk]; (refine o1_indexAddr_rd rfl rfl h1 i rfl hlt (fun a ha => ⟨⟨a, rfl, ha⟩, fun _ h => h⟩)); all_goals (first | exact ⟨⟨rfl⟩, fun _ h => h⟩ | exact ⟨⟨_, rfl⟩, fun _ h => h⟩ | exact ⟨⟨_, _, rfl⟩, fun _ h => h⟩ | exact ⟨⟨_, _, _, rfl⟩, fun _ h => h⟩)
    case d6_o3 => refine obl_run rfl (gd_none rfl) (fun _ => ?_); refine allv_c rfl rfl ?_; refine allv_c rfl rfl ?_; refine allv_p rfl rfl ?_; rintro _ ⟨_,rfl,_⟩; refine allv_nil ?_; dsimp only [List.cons_append, List.nil_append, List.singleton_append, List.append_nil, blk]; (first | refine ox_load rfl (by rfl) ?_ | refine ox_load_enc rfl (by first | omega | (simp; omega)) ?_ | refine ox_load_any rfl (by assumption) ?_); all_goals (exact ⟨rfl, fun _ h => h⟩)
    case d6_o4 => refine obl_run rfl (gd_none rfl) (fun _ => ?_); refine allv_nil ?_; dsimp only [List.cons_append, List.nil_append, List.singleton_append, List.append_nil, blk]; (first | refine o1_move rfl ?_); all_goals (exact ⟨rfl, fun _ h => h⟩)
    case d6_o5 => refine obl_run rfl (gd_none rfl) (fun _ => ?_); refine allv_nil ?_; dsimp only [List.cons_append, List.nil_append, List.singleton_append, List.append_nil, blk]; (first | refine o1_move rfl ?_); all_goals (exact ⟨rfl, fun _ h => h⟩)
    case d6_o6 => refine obl_run rfl (gd_none rfl) (fun _ => ?_); refine allv_c rfl rfl ?_; refine allv_c rfl rfl ?_; refine allv_nil ?_; dsimp only [List.cons_append, List.nil_append, List.singleton_append, List.append_nil, blk]; (refine o1_indexAddr_rd rfl rfl h2 i rfl (by omega) (fun a ha => ⟨⟨a, rfl, ha⟩, fun _ h => h⟩)); all_goals (first | exact ⟨⟨rfl⟩, fun _ h => h⟩ | exact ⟨⟨_, rfl⟩, fun _ h => h⟩ | exact ⟨⟨_, _, rfl⟩, fun _ h => h⟩ | exact ⟨⟨_, _, _, rfl⟩, fun _ h => h⟩)
    case d6_o7 => refine obl_run rfl (gd_none rfl) (fun _ => ?_); refine allv_c rfl rfl ?_; refine allv_c rfl rfl ?_; refine allv_p rfl rfl ?_; rintro _ ⟨_,rfl,_⟩; refine allv_nil ?_; dsimp only [List.cons_append, List.nil_append, List.singleton_append, List.append_nil, blk]; (first | refine ox_load rfl (by rfl) ?_ | refine ox_load_enc rfl (by first | omega | (simp; omega)) ?_ | refine ox_load_any rfl (by assumption) ?_); all_goals (exact ⟨rfl, fun _ h => h⟩)
    case d6_o8 => refine obl_run rfl (gd_none rfl) (fun _ => ?_); refine allv_c rfl rfl ?_; refine allv_c rfl rfl ?_; refine allv_p rfl rfl ?_; rintro _ ⟨_,rfl,_⟩; refine allv_c rfl rfl ?_; refine allv_c rfl rfl ?_; refine allv_c rfl rfl ?_; refine allv_p rfl rfl ?_; rintro _ ⟨_,rfl,_⟩; refine allv_c rfl rfl ?_; refine allv_nil ?_; dsimp only [List.cons_append, List.nil_append, List.singleton_append, List.append_nil, blk]; (first | refine o1_neq_t rfl rfl (by omega) ?_ | refine o1_neq_f rfl rfl (by omega) ?_ | refine o1_neq_d rfl rfl ?_); all_goals (exact ⟨rfl, fun _ h => h⟩)
    case d6_nx =>
      refine allv_c rfl rfl ?_; refine allv_c rfl rfl ?_; refine allv_p rfl rfl ?_; rintro _ ⟨_,rfl,_⟩; refine allv_c rfl rfl ?_; refine allv_c rfl rfl ?_; refine allv_c rfl rfl ?_; refine allv_p rfl rfl ?_; rintro _ ⟨_,rfl,_⟩; refine allv_c rfl rfl ?_; refine allv_c rfl rfl ?_; refine allv_nil ?_; dsimp only [List.cons_append, List.nil_append, List.singleton_append, List.append_nil, blk]
      repeat' (first | refine ls_of rfl ?_ | refine ls_of_no ?_ | refine ls_guard_yes rfl rfl ?_ | refine ls_guard_no rfl rfl rfl rfl ?_ | refine ls_guard_un rfl rfl rfl ?_ | refine o1_move rfl ?_ | refine o1_assign rfl ?_ | refine st_seq ?_ | refine st_region ?_ | refine st_block ?_ | refine st_skip ?_ | refine st_ret ?_ | refine st_exit ?_ | refine st_cond_t rfl ?_ | refine st_cond_f rfl ?_ | refine st_cond rfl (fun _ => ?_) (fun _ => ?_) | refine ls_nil ?_ | refine nx_seq ?_ | refine nx_blk ?_ | refine nx_fn ?_ | refine nx_rounds ?_ | refine xt_seq ?_ | refine xt_here ?_ | refine xt_on rfl ?_ | refine xt_rounds ?_ | refine xt_cut ?_ | refine rt_seq ?_ | refine rt_blk ?_ | refine rt_rounds ?_ | refine rt_cut ?_ | refine ox_load rfl (by rfl) ?_ | refine ox_load_enc rfl (by first | omega | (simp; omega)) ?_ | refine ox_load_any rfl (by assumption) ?_ | refine o1_len rfl ?_ | refine o1_add rfl rfl (by omega) ?_ | refine o1_lss_t rfl rfl (by omega) ?_ | refine o1_lss_f rfl rfl (by omega) ?_ | refine o1_lss rfl rfl (fun _ => ?_) (fun _ => ?_) | refine o1_neq_t rfl rfl (by omega) ?_ | refine o1_neq_f rfl rfl (by omega) ?_ | refine o1_neq rfl rfl (fun _ => ?_) (fun _ => ?_))
      · rename_i hne
        refine rt_tmp () rfl rfl ?_ trivial (Ent.refl _)
        simp at hne ⊢
        rintro rfl
        exact hne rfl
      · rename_i heq
        simp at heq
        refine nx_again (i + 1) ⟨by omega, ?_⟩ (by omega) (cov_cons rfl rfl (cov_cons rfl rfl (cov_cons rfl rfl (cov_cons rfl rfl cov_nil)))) (Ent.refl _)
        rw [List.take_succ_eq_append_getElem hlt, List.take_succ_eq_append_getElem (by omega : i < m.length), hpre, BitVec.eq_of_toNat_eq (by omega : l[i].toNat = m[i].toNat)]
  · refine rt_tmp () rfl rfl ?_ trivial (Ent.refl _)
    have : i = l.length := by omega
    subst this
    rw [List.take_length, List.take_of_length_le (by omega)] at hpre
    simp [hpre]
theorem same_words {v w : VD} (hv : v.ok) (hw : w.ok) (hn : v.n = w.n) : decide (words v.l = words w.l) = decide (v.l = w.l) := by
  have hl : v.l.length = w.l.length := by rw [hv.len, hw.len, hn]
  by_cases h : v.l = w.l
  · simp [h]
  · have : ¬ words v.l = words w.l := fun e => h (words_inj hl e)
    simp [h, this]
theorem vec_Same (H : List Hl) (v w : VD) (h1 : RdV (stars H) v) (h2 : RdV (stars H) w) :
    Spec Tryd.prog 19 [Pv v, Pv w] H (fun _ : Unit => True) (fun _ => .bool (decide (v.l = w.l))) (fun _ => H) := by
  refine spec_pure (res := fun _ => []) H Tryd.func19 rfl Tryd.ntmps19 (by kernel_rfl) rfl (fun W => ?_)
  have e1 := h1.n
  have e2 := h2.n
  have e3 := h1.s
  have e4 := h2.s
  by_cases hn : v.n = w.n
  · repeat' (first | refine ls_of rfl ?_ | refine ls_of_no ?_ | refine ls_guard_yes rfl rfl ?_ | refine ls_guard_no rfl rfl rfl rfl ?_ | refine ls_guard_un rfl rfl rfl ?_ | refine o1_move rfl ?_ | refine o1_assign rfl ?_ | refine st_seq ?_ | refine st_region ?_ | refine st_block ?_ | refine st_skip ?_ | refine st_ret ?_ | refine st_exit ?_ | refine st_cond_t rfl ?_ | refine st_cond_f rfl ?_ | refine st_cond rfl (fun _ => ?_) (fun _ => ?_) | refine ls_nil ?_ | refine nx_seq ?_ | refine nx_blk ?_ | refine nx_fn ?_ | refine nx_rounds ?_ | refine xt_seq ?_ | refine xt_here ?_ | refine xt_on rfl ?_ | refine xt_rounds ?_ | refine xt_cut ?_ | refine rt_seq ?_ | refine rt_blk ?_ | refine rt_rounds ?_ | refine rt_cut ?_ | refine o1_peql rfl rfl ?_ | refine o1_pick_t rfl rfl ?_ | refine o1_pick_f rfl rfl ?_ | refine o1_fieldAddr rfl ?_ | refine ox_load rfl (by rfl) ?_ | refine ox_load_enc rfl (by first | omega | (simp; omega)) ?_ | refine ox_load_any rfl (by assumption) ?_ | refine o1_eql_t rfl rfl (by omega) ?_ | refine o1_eql_f rfl rfl (by omega) ?_ | refine o1_eql rfl rfl (fun _ => ?_) (fun _ => ?_) | refine o1_slice_nil rfl ?_ | refine o1_nilCheck rfl ?_)
    refine st_stages [(0, _), (1, _)] rtV4s_0 [18] [⟨[0, 1, 2, 3, 4, 5, 6, 7, 8, 9, 10, 11, 12, 13, 14, 15, 16, 17], [], some 18⟩, ⟨[19, 20], [], none⟩] mixed (cov_cons rfl rfl (cov_cons rfl rfl cov_nil)) (by kernel_rfl) (by kernel_rfl) ?_
    all_goals refine wk_ch ?_
    all_goals (refine xp1 0 rfl rfl rfl rfl (by refine o1_move rfl fz) ?_)
    all_goals (refine xp1 14 rfl rfl rfl rfl (by refine o1_nilCheck rfl fz) ?_)
    all_goals (refine xp1 15 rfl rfl rfl rfl (by refine o1_fieldAddr rfl fz) ?_)
    all_goals (refine xp1 16 rfl rfl rfl rfl (by first | refine ox_load_any rfl e1 fz | refine ox_load_any rfl e2 fz | refine ox_load_any rfl e3 fz | refine ox_load_any rfl e4 fz | refine ox_load rfl (by rfl) fz | refine ox_load_enc rfl (by first | omega | (simp; omega)) fz | refine ox_load_any rfl (by assumption) fz) ?_)
    all_goals (refine xp1 1 rfl rfl rfl rfl (by refine o1_move rfl fz) ?_)
    all_goals (refine xp1 18 rfl rfl rfl rfl (by refine o1_nilCheck rfl fz) ?_)
    all_goals (refine xp1 19 rfl rfl rfl rfl (by refine o1_fieldAddr rfl fz) ?_)
    all_goals (refine xp1 20 rfl rfl rfl rfl (by first | refine ox_load_any rfl e1 fz | refine ox_load_any rfl e2 fz | refine ox_load_any rfl e3 fz | refine ox_load_any rfl e4 fz | refine ox_load rfl (by rfl) fz | refine ox_load_enc rfl (by first | omega | (simp; omega)) fz | refine ox_load_any rfl (by assumption) fz) ?_)
    all_goals (refine xp2 17 21 rfl rfl rfl rfl rfl (by first | refine o1_eql_t rfl rfl (by omega) fz | refine o1_eql_t rfl rfl (by omega) fz | refine o1_eql_f rfl rfl (by omega) fz | refine o1_eql_d rfl rfl fz) ?_)
    all_goals (refine xp1 22 rfl rfl rfl rfl (by refine o1_move rfl fz) ?_)
    all_goals first | (refine xpo1 rfl rfl rfl rfl ?_) | (refine xpo2 rfl rfl rfl rfl ?_) | (refine xpg1 0 rfl rfl rfl rfl rfl rfl (by refine o1_move rfl fz) ?_)
    all_goals first | (refine xpo1 rfl rfl rfl rfl ?_) | (refine xpo2 rfl rfl rfl rfl ?_) | (refine xpg1 24 rfl rfl rfl rfl rfl rfl (by refine o1_nilCheck rfl fz) ?_)
    all_goals first | (refine xpo1 rfl rfl rfl rfl ?_) | (refine xpo2 rfl rfl rfl rfl ?_) | (refine xpg1 25 rfl rfl rfl rfl rfl rfl (by refine o1_fieldAddr rfl fz) ?_)
    all_goals first | (refine xpo1 rfl rfl rfl rfl ?_) | (refine xpo2 rfl rfl rfl rfl ?_) | (refine xpg1 26 rfl rfl rfl rfl rfl rfl (by first | refine ox_load_any rfl e1 fz | refine ox_load_any rfl e2 fz | refine ox_load_any rfl e3 fz | refine ox_load_any rfl e4 fz | refine ox_load rfl (by rfl) fz | refine ox_load_enc rfl (by first | omega | (simp; omega)) fz | refine ox_load_any rfl (by assumption) fz) ?_)
    all_goals first | (refine xpo1 rfl rfl rfl rfl ?_) | (refine xpo2 rfl rfl rfl rfl ?_) | (refine xpg1 1 rfl rfl rfl rfl rfl rfl (by refine o1_move rfl fz) ?_)
    all_goals first | (refine xpo1 rfl rfl rfl rfl ?_) | (refine xpo2 rfl rfl rfl rfl ?_) | (refine xpg1 28 rfl rfl rfl rfl rfl rfl (by refine o1_nilCheck rfl fz) ?_)
    all_goals first | (refine xpo1 rfl rfl rfl rfl ?_) | (refine xpo2 rfl rfl rfl rfl ?_) | (refine xpg1 29 rfl rfl rfl rfl rfl rfl (by refine o1_fieldAddr rfl fz) ?_)
    all_goals first | (refine xpo1 rfl rfl rfl rfl ?_) | (refine xpo2 rfl rfl rfl rfl ?_) | (refine xpg1 30 rfl rfl rfl rfl rfl rfl (by first | refine ox_load_any rfl e1 fz | refine ox_load_any rfl e2 fz | refine ox_load_any rfl e3 fz | refine ox_load_any rfl e4 fz | refine ox_load rfl (by rfl) fz | refine ox_load_enc rfl (by first | omega | (simp; omega)) fz | refine ox_load_any rfl (by assumption) fz) ?_)
    all_goals refine op_nil ?_
    all_goals refine re_nil ?_
    all_goals first | (refine ch_off rfl (by first | exact gd_o1 rfl rfl rfl | exact gd_o2 rfl rfl rfl) ?_) | (refine ch_run (E' := [(27, _), (31, _)]) rfl (gd_r1 rfl rfl rfl) rfl (cov_cons rfl rfl (cov_cons rfl rfl cov_nil)) ?_; (first | (refine o1_call (fun _ => slices_Equal8 _ _ _ _ _ _ _ (words v.l) (words w.l) (Rs.up h1.w) (Rs.up h2.w) h1.ok.words.symm h2.ok.words.symm) rfl (fun _ _ => ?_); rw [same_words h1.ok h2.ok hn])))
    all_goals refine wk_end ?_
    all_goals (refine xp2 23 32 rfl rfl rfl rfl rfl (by first | refine o1_pick_t rfl rfl fz | refine o1_pick_f rfl rfl fz) ?_)
    all_goals (refine xp1 33 rfl rfl rfl rfl (by refine o1_assign rfl fz) ?_)
    all_goals refine op_nil ?_
    all_goals refine re_nil ?_
    all_goals dsimp only [List.cons_append, List.nil_append]
    repeat' (first | refine ls_of rfl ?_ | refine ls_of_no ?_ | refine ls_guard_yes rfl rfl ?_ | refine ls_guard_no rfl rfl rfl rfl ?_ | refine ls_guard_un rfl rfl rfl ?_ | refine o1_move rfl ?_ | refine o1_assign rfl ?_ | refine st_seq ?_ | refine st_region ?_ | refine st_block ?_ | refine st_skip ?_ | refine st_ret ?_ | refine st_exit ?_ | refine st_cond_t rfl ?_ | refine st_cond_f rfl ?_ | refine st_cond rfl (fun _ => ?_) (fun _ => ?_) | refine ls_nil ?_ | refine nx_seq ?_ | refine nx_blk ?_ | refine nx_fn ?_ | refine nx_rounds ?_ | refine xt_seq ?_ | refine xt_here ?_ | refine xt_on rfl ?_ | refine xt_rounds ?_ | refine xt_cut ?_ | refine rt_seq ?_ | refine rt_blk ?_ | refine rt_rounds ?_ | refine rt_cut ?_ | refine o1_pick_t rfl rfl ?_ | refine o1_pick_f rfl rfl ?_ | refine o1_fieldAddr rfl ?_ | refine ox_load rfl (by rfl) ?_ | refine ox_load_enc rfl (by first | omega | (simp; omega)) ?_ | refine ox_load_any rfl (by assumption) ?_ | refine o1_eql_t rfl rfl (by omega) ?_ | refine o1_eql_f rfl rfl (by omega) ?_ | refine o1_eql rfl rfl (fun _ => ?_) (fun _ => ?_) | refine o1_slice_nil rfl ?_ | refine o1_nilCheck rfl ?_)
    refine rt_tmp () rfl rfl rfl trivial ?_
    (try dsimp only [List.cons_append, List.nil_append, List.singleton_append, List.append_nil]); (repeat (first | exact Ent.nil | exact Ent.refl _ | (apply Ent.cons; (repeat (first | exact Sel.here | apply Sel.there)))))
  · repeat' (first | refine ls_of rfl ?_ | refine ls_of_no ?_ | refine ls_guard_yes rfl rfl ?_ | refine ls_guard_no rfl rfl rfl rfl ?_ | refine ls_guard_un rfl rfl rfl ?_ | refine o1_move rfl ?_ | refine o1_assign rfl ?_ | refine st_seq ?_ | refine st_region ?_ | refine st_block ?_ | refine st_skip ?_ | refine st_ret ?_ | refine st_exit ?_ | refine st_cond_t rfl ?_ | refine st_cond_f rfl ?_ | refine st_cond rfl (fun _ => ?_) (fun _ => ?_) | refine ls_nil ?_ | refine nx_seq ?_ | refine nx_blk ?_ | refine nx_fn ?_ | refine nx_rounds ?_ | refine xt_seq ?_ | refine xt_here ?_ | refine xt_on rfl ?_ | refine xt_rounds ?_ | refine xt_cut ?_ | refine rt_seq ?_ | refine rt_blk ?_ | refine rt_rounds ?_ | refine rt_cut ?_ | refine o1_peql rfl rfl ?_ | refine o1_pick_t rfl rfl ?_ | refine o1_pick_f rfl rfl ?_ | refine o1_fieldAddr rfl ?_ | refine ox_load rfl (by rfl) ?_ | refine ox_load_enc rfl (by first | omega | (simp; omega)) ?_ | refine ox_load_any rfl (by assumption) ?_ | refine o1_eql_t rfl rfl (by omega) ?_ | refine o1_eql_f rfl rfl (by omega) ?_ | refine o1_eql rfl rfl (fun _ => ?_) (fun _ => ?_) | refine o1_slice_nil rfl ?_ | refine o1_nilCheck rfl ?_)
    refine st_stages [(0, _), (1, _)] rtV4s_1 [18] [⟨[0, 1, 2, 3, 4, 5, 6, 7, 8, 9, 10, 11, 12, 13, 14, 15, 16, 17], [], some 18⟩, ⟨[19, 20], [], none⟩] mixed (cov_cons rfl rfl (cov_cons rfl rfl cov_nil)) (by kernel_rfl) (by kernel_rfl) ?_
    all_goals refine wk_ch ?_
    all_goals (refine xp1 0 rfl rfl rfl rfl (by refine o1_move rfl fz) ?_)
    all_goals (refine xp1 14 rfl rfl rfl rfl (by refine o1_nilCheck rfl fz) ?_)
    all_goals (refine xp1 15 rfl rfl rfl rfl (by refine o1_fieldAddr rfl fz) ?_)
    all_goals (refine xp1 16 rfl rfl rfl rfl (by first | refine ox_load_any rfl e1 fz | refine ox_load_any rfl e2 fz | refine ox_load rfl (by rfl) fz | refine ox_load_enc rfl (by first | omega | (simp; omega)) fz | refine ox_load_any rfl (by assumption) fz) ?_)
    all_goals (refine xp1 1 rfl rfl rfl rfl (by refine o1_move rfl fz) ?_)
    all_goals (refine xp1 18 rfl rfl rfl rfl (by refine o1_nilCheck rfl fz) ?_)
    all_goals (refine xp1 19 rfl rfl rfl rfl (by refine o1_fieldAddr rfl fz) ?_)
    all_goals (refine xp1 20 rfl rfl rfl rfl (by first | refine ox_load_any rfl e1 fz | refine ox_load_any rfl e2 fz | refine ox_load rfl (by rfl) fz | refine ox_load_enc rfl (by first | omega | (simp; omega)) fz | refine ox_load_any rfl (by assumption) fz) ?_)
    all_goals (refine xp2 17 21 rfl rfl rfl rfl rfl (by first | refine o1_eql_f rfl rfl (by omega) fz | refine o1_eql_t rfl rfl (by omega) fz | refine o1_eql_f rfl rfl (by omega) fz | refine o1_eql_d rfl rfl fz) ?_)
    all_goals (refine xp1 22 rfl rfl rfl rfl (by refine o1_move rfl fz) ?_)
    all_goals first | (refine xpo1 rfl rfl rfl rfl ?_) | (refine xpo2 rfl rfl rfl rfl ?_) | (refine xpg1 0 rfl rfl rfl rfl rfl rfl (by refine o1_move rfl fz) ?_)
    all_goals first | (refine xpo1 rfl rfl rfl rfl ?_) | (refine xpo2 rfl rfl rfl rfl ?_) | (refine xpg1 24 rfl rfl rfl rfl rfl rfl (by refine o1_nilCheck rfl fz) ?_)
    all_goals first | (refine xpo1 rfl rfl rfl rfl ?_) | (refine xpo2 rfl rfl rfl rfl ?_) | (refine xpg1 25 rfl rfl rfl rfl rfl rfl (by refine o1_fieldAddr rfl fz) ?_)
    all_goals first | (refine xpo1 rfl rfl rfl rfl ?_) | (refine xpo2 rfl rfl rfl rfl ?_) | (refine xpg1 26 rfl rfl rfl rfl rfl rfl (by first | refine ox_load_any rfl e1 fz | refine ox_load_any rfl e2 fz | refine ox_load rfl (by rfl) fz | refine ox_load_enc rfl (by first | omega | (simp; omega)) fz | refine ox_load_any rfl (by assumption) fz) ?_)
    all_goals first | (refine xpo1 rfl rfl rfl rfl ?_) | (refine xpo2 rfl rfl rfl rfl ?_) | (refine xpg1 1 rfl rfl rfl rfl rfl rfl (by refine o1_move rfl fz) ?_)
    all_goals first | (refine xpo1 rfl rfl rfl rfl ?_) | (refine xpo2 rfl rfl rfl rfl ?_) | (refine xpg1 28 rfl rfl rfl rfl rfl rfl (by refine o1_nilCheck rfl fz) ?_)
    all_goals first | (refine xpo1 rfl rfl rfl rfl ?_) | (refine xpo2 rfl rfl rfl rfl ?_) | (refine xpg1 29 rfl rfl rfl rfl rfl rfl (by refine o1_fieldAddr rfl fz) ?_)
    all_goals first | (refine xpo1 rfl rfl rfl rfl ?_) | (refine xpo2 rfl rfl rfl rfl ?_) | (refine xpg1 30 rfl rfl rfl rfl rfl rfl (by first | refine ox_load_any rfl e1 fz | refine ox_load_any rfl e2 fz | refine ox_load rfl (by rfl) fz | refine ox_load_enc rfl (by first | omega | (simp; omega)) fz | refine ox_load_any rfl (by assumption) fz) ?_)
    all_goals refine op_nil ?_
    all_goals refine re_nil ?_
    all_goals first | (refine ch_off rfl (by first | exact gd_o1 rfl rfl rfl | exact gd_o2 rfl rfl rfl) ?_) | (refine ch_run (E' := [(27, _), (31, _)]) rfl (gd_r1 rfl rfl rfl) rfl (cov_cons rfl rfl (cov_cons rfl rfl cov_nil)) ?_; (first | fail))
    all_goals refine wk_end ?_
    all_goals (refine xp2 23 32 rfl rfl rfl rfl rfl (by first | refine o1_pick_t rfl rfl fz | refine o1_pick_f rfl rfl fz) ?_)
    all_goals (refine xp1 33 rfl rfl rfl rfl (by refine o1_assign rfl fz) ?_)
    all_goals refine op_nil ?_
    all_goals refine re_nil ?_
    all_goals dsimp only [List.cons_append, List.nil_append]
    repeat' (first | refine ls_of rfl ?_ | refine ls_of_no ?_ | refine ls_guard_yes rfl rfl ?_ | refine ls_guard_no rfl rfl rfl rfl ?_ | refine ls_guard_un rfl rfl rfl ?_ | refine o1_move rfl ?_ | refine o1_assign rfl ?_ | refine st_seq ?_ | refine st_region ?_ | refine st_block ?_ | refine st_skip ?_ | refine st_ret ?_ | refine st_exit ?_ | refine st_cond_t rfl ?_ | refine st_cond_f rfl ?_ | refine st_cond rfl (fun _ => ?_) (fun _ => ?_) | refine ls_nil ?_ | refine nx_seq ?_ | refine nx_blk ?_ | refine nx_fn ?_ | refine nx_rounds ?_ | refine xt_seq ?_ | refine xt_here ?_ | refine xt_on rfl ?_ | refine xt_rounds ?_ | refine xt_cut ?_ | refine rt_seq ?_ | refine rt_blk ?_ | refine rt_rounds ?_ | refine rt_cut ?_ | refine o1_pick_t rfl rfl ?_ | refine o1_pick_f rfl rfl ?_ | refine o1_fieldAddr rfl ?_ | refine ox_load rfl (by rfl) ?_ | refine ox_load_enc rfl (by first | omega | (simp; omega)) ?_ | refine ox_load_any rfl (by assumption) ?_ | refine o1_eql_t rfl rfl (by omega) ?_ | refine o1_eql_f rfl rfl (by omega) ?_ | refine o1_eql rfl rfl (fun _ => ?_) (fun _ => ?_) | refine o1_slice_nil rfl ?_ | refine o1_nilCheck rfl ?_)
    refine rt_tmp () rfl rfl ?_ trivial ?_
    · have : ¬ v.l = w.l := fun e => hn (by rw [← h1.ok.len, ← h2.ok.len, e])
      simp [this]
    (try dsimp only [List.cons_append, List.nil_append, List.singleton_append, List.append_nil]); (repeat (first | exact Ent.nil | exact Ent.refl _ | (apply Ent.cons; (repeat (first | exact Sel.here | apply Sel.there)))))
end Go.Dp
